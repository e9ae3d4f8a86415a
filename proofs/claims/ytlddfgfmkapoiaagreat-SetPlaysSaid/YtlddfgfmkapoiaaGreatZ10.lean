/-
  Printed by a program (gen.py): what the functions of the program do, as formulas; each with the proof that its call is what the formula says.
-/
/-
  Printed by a program (gen.py): what the functions of the program do, as formulas; each with the proof that its call is what the formula says.
-/
import Derived.Test.YtlddfgfmkapoiaaGreatZ02
import Derived.Test.YtlddfgfmkapoiaaGreatProg
import Derived.Test.YtlddfgfmkapoiaaGreatZ05

namespace Go.Proofs.YtlddfgfmkapoiaaGreat
open Go Go.Sh
set_option maxRecDepth 100000 in
/-- joinery/avl.Rank -/
def sh221 (t_1 : Option Addr) (R : Ending → World → Prop) (w : World) : Prop :=
 doCall Tryz.prog (.func (.func 196) #[] #[]) #[.pointer t_1] w (retS (fun v3 w4 => ∃ (x2 : Int), v3 = (.int .u64 x2 : Value) ∧ (
 R (.returned (.int .i64 (IntKind.wrap .i64 x2))) w4)) (fun ch w => Kfn R ch [] w))
set_option maxRecDepth 100000 in
theorem sh221_ok (t_1 : Option Addr) {R : Ending → World → Prop} {w : World} : sh221 t_1 R w → Calls Tryz.prog 221 #[.pointer t_1] w R :=
  calls_of_eq (ann := fun _ => []) (fn := Tryz.f221) (c := bodyOf Tryz.f221) (args := #[.pointer t_1]) 400 follows_mixed Tryz.func221 (by kernel_rfl) (by kernel_rfl)
set_option maxRecDepth 100000 in
/-- joinery/scheme.same -/
def sh223 (t_1 : Option Addr) (R : Ending → World → Prop) (w : World) : Prop :=
 R (.returned (.pointer t_1)) w
set_option maxRecDepth 100000 in
theorem sh223_ok (t_1 : Option Addr) {R : Ending → World → Prop} {w : World} : sh223 t_1 R w → Calls Tryz.prog 223 #[.pointer t_1] w R :=
  calls_of_eq (ann := fun _ => []) (fn := Tryz.f223) (c := bodyOf Tryz.f223) (args := #[.pointer t_1]) 400 follows_mixed Tryz.func223 (by kernel_rfl) (by kernel_rfl)
set_option maxRecDepth 100000 in
/-- joinery/rbjoin.Join -/
def sh224 (l_1 : Option Addr) (key_2 : Int) (val_3 : Int) (r_4 : Option Addr) (R : Ending → World → Prop) (w : World) : Prop :=
 doCall Tryz.prog (.func (.func 229) #[] #[]) #[.pointer l_1] w (retS (fun v6 w7 => ∃ (x5 : Option Addr), v6 = (.pointer x5 : Value) ∧ (
 doCall Tryz.prog (.func (.func 229) #[] #[]) #[.pointer r_4] w7 (retS (fun v9 w10 => ∃ (x8 : Option Addr), v9 = (.pointer x8 : Value) ∧ (
 doCall Tryz.prog (.func (.func 271) #[] #[]) #[.pointer none, .int .i64 key_2, .int .i64 val_3, .bool false, .pointer none] w10 (retS (fun v12 w13 => ∃ (x11 : Option Addr), v12 = (.pointer x11 : Value) ∧ (
 doCall Tryz.prog (.func (.func 272) #[] #[]) #[.pointer x5] w13 (retS (fun v15 w16 => ∃ (x14 : Int), v15 = (.int .i64 x14 : Value) ∧ (
 doCall Tryz.prog (.func (.func 272) #[] #[]) #[.pointer x8] w16 (retS (fun v18 w19 => ∃ (x17 : Int), v18 = (.int .i64 x17 : Value) ∧ (
 ifB (decide ((x14 : Int) > x17)) (
 doCall Tryz.prog (.func (.func 273) #[] #[]) #[.iface 341 (.agg #[]), .pointer x5, .pointer x11, .pointer x8] w19 (retS (fun v21 w22 => ∃ (x20 : Option Addr), v21 = (.pointer x20 : Value) ∧ (
 doCall Tryz.prog (.func (.func 229) #[] #[]) #[.pointer x20] w22 (retS (fun v24 w25 => ∃ (x23 : Option Addr), v24 = (.pointer x23 : Value) ∧ (
 R (.returned (.pointer x23)) w25)) (fun ch w => Kfn R ch [] w)))) (fun ch w => Kfn R ch [] w))) (
 ifB (decide ((x17 : Int) > x14)) (
 doCall Tryz.prog (.func (.func 273) #[] #[]) #[.iface 342 (.agg #[]), .pointer x8, .pointer x11, .pointer x5] w19 (retS (fun v27 w28 => ∃ (x26 : Option Addr), v27 = (.pointer x26 : Value) ∧ (
 doCall Tryz.prog (.func (.func 229) #[] #[]) #[.pointer x26] w28 (retS (fun v30 w31 => ∃ (x29 : Option Addr), v30 = (.pointer x29 : Value) ∧ (
 R (.returned (.pointer x29)) w31)) (fun ch w => Kfn R ch [] w)))) (fun ch w => Kfn R ch [] w))) (
 doCall Tryz.prog (.func (.func 271) #[] #[]) #[.pointer x5, .int .i64 key_2, .int .i64 val_3, .bool false, .pointer x8] w19 (retS (fun v33 w34 => ∃ (x32 : Option Addr), v33 = (.pointer x32 : Value) ∧ (
 R (.returned (.pointer x32)) w34)) (fun ch w => Kfn R ch [] w)))))) (fun ch w => Kfn R ch [] w)))) (fun ch w => Kfn R ch [] w)))) (fun ch w => Kfn R ch [] w)))) (fun ch w => Kfn R ch [] w)))) (fun ch w => Kfn R ch [] w))
set_option maxRecDepth 100000 in
theorem sh224_ok (l_1 : Option Addr) (key_2 : Int) (val_3 : Int) (r_4 : Option Addr) {R : Ending → World → Prop} {w : World} : sh224 l_1 key_2 val_3 r_4 R w → Calls Tryz.prog 224 #[.pointer l_1, .int .i64 key_2, .int .i64 val_3, .pointer r_4] w R :=
  calls_of_eq (ann := fun _ => []) (fn := Tryz.f224) (c := bodyOf Tryz.f224) (args := #[.pointer l_1, .int .i64 key_2, .int .i64 val_3, .pointer r_4]) 400 follows_mixed Tryz.func224 (by kernel_rfl) (by kernel_rfl)
set_option maxRecDepth 100000 in
/-- joinery/rb.Blacken -/
def sh229 (t_1 : Option Addr) (R : Ending → World → Prop) (w : World) : Prop :=
 doCall Tryz.prog (.func (.func 275) #[] #[]) #[.pointer t_1] w (retS (fun v3 w4 => ∃ (x2 : Bool), v3 = (.bool x2 : Value) ∧ (
 ifB (!x2) (
 R (.returned (.pointer t_1)) w4) (
 doCall Tryz.prog (.func (.func 123) #[] #[]) #[.pointer t_1] w4 (retS (fun v6 w7 => ∃ (x5 : Option Addr), v6 = (.pointer x5 : Value) ∧ (
 doCall Tryz.prog (.func (.func 108) #[] #[]) #[.pointer t_1] w7 (retS (fun v9 w10 => ∃ (x8 : Int), v9 = (.int .i64 x8 : Value) ∧ (
 doCall Tryz.prog (.func (.func 126) #[] #[]) #[.pointer t_1] w10 (retS (fun v12 w13 => ∃ (x11 : Int), v12 = (.int .i64 x11 : Value) ∧ (
 doCall Tryz.prog (.func (.func 196) #[] #[]) #[.pointer t_1] w13 (retS (fun v15 w16 => ∃ (x14 : Int), v15 = (.int .u64 x14 : Value) ∧ (
 doCall Tryz.prog (.func (.func 125) #[] #[]) #[.pointer t_1] w16 (retS (fun v18 w19 => ∃ (x17 : Option Addr), v18 = (.pointer x17 : Value) ∧ (
 doCall Tryz.prog (.func (.func 105) #[] #[]) #[.pointer x5, .int .i64 x8, .int .i64 x11, .int .u64 (IntKind.wrap .u64 (x14 + 1)), .pointer x17] w19 (retS (fun v21 w22 => ∃ (x20 : Option Addr), v21 = (.pointer x20 : Value) ∧ (
 R (.returned (.pointer x20)) w22)) (fun ch w => Kfn R ch [] w)))) (fun ch w => Kfn R ch [] w)))) (fun ch w => Kfn R ch [] w)))) (fun ch w => Kfn R ch [] w)))) (fun ch w => Kfn R ch [] w)))) (fun ch w => Kfn R ch [] w))))) (fun ch w => Kfn R ch [] w))
set_option maxRecDepth 100000 in
theorem sh229_ok (t_1 : Option Addr) {R : Ending → World → Prop} {w : World} : sh229 t_1 R w → Calls Tryz.prog 229 #[.pointer t_1] w R :=
  calls_of_eq (ann := fun _ => []) (fn := Tryz.f229) (c := bodyOf Tryz.f229) (args := #[.pointer t_1]) 400 follows_mixed Tryz.func229 (by kernel_rfl) (by kernel_rfl)
set_option maxRecDepth 100000 in
/-- joinery/wbjoin.Join -/
def sh230 (l_1 : Option Addr) (key_2 : Int) (val_3 : Int) (r_4 : Option Addr) (R : Ending → World → Prop) (w : World) : Prop :=
 doCall Tryz.prog (.func (.func 276) #[] #[]) #[.pointer none, .int .i64 key_2, .int .i64 val_3, .pointer none] w (retS (fun v6 w7 => ∃ (x5 : Option Addr), v6 = (.pointer x5 : Value) ∧ (
 doCall Tryz.prog (.func (.func 277) #[] #[]) #[.pointer l_1] w7 (retS (fun v9 w10 => ∃ (x8 : Int), v9 = (.int .i64 x8 : Value) ∧ (
 doCall Tryz.prog (.func (.func 277) #[] #[]) #[.pointer r_4] w10 (retS (fun v12 w13 => ∃ (x11 : Int), v12 = (.int .i64 x11 : Value) ∧ (
 ifB (decide ((x8 : Int) < x11)) (
 doCall Tryz.prog (.func (.func 278) #[] #[]) #[.int .i64 0, .pointer r_4, .pointer x5, .pointer l_1] w13 (retS (fun v15 w16 => ∃ (x14 : Option Addr), v15 = (.pointer x14 : Value) ∧ (
 R (.returned (.pointer x14)) w16)) (fun ch w => Kfn R ch [] w))) (
 doCall Tryz.prog (.func (.func 278) #[] #[]) #[.int .i64 1, .pointer l_1, .pointer x5, .pointer r_4] w13 (retS (fun v18 w19 => ∃ (x17 : Option Addr), v18 = (.pointer x17 : Value) ∧ (
 R (.returned (.pointer x17)) w19)) (fun ch w => Kfn R ch [] w))))) (fun ch w => Kfn R ch [] w)))) (fun ch w => Kfn R ch [] w)))) (fun ch w => Kfn R ch [] w))
set_option maxRecDepth 100000 in
theorem sh230_ok (l_1 : Option Addr) (key_2 : Int) (val_3 : Int) (r_4 : Option Addr) {R : Ending → World → Prop} {w : World} : sh230 l_1 key_2 val_3 r_4 R w → Calls Tryz.prog 230 #[.pointer l_1, .int .i64 key_2, .int .i64 val_3, .pointer r_4] w R :=
  calls_of_eq (ann := fun _ => []) (fn := Tryz.f230) (c := bodyOf Tryz.f230) (args := #[.pointer l_1, .int .i64 key_2, .int .i64 val_3, .pointer r_4]) 400 follows_mixed Tryz.func230 (by kernel_rfl) (by kernel_rfl)
set_option maxRecDepth 100000 in
/-- joinery/order.kinds -/
def sh235  (R : Ending → World → Prop) (w : World) : Prop :=
 doAl (.map #[] 0) w (fun b1 w2 =>
 doMu Tryz.prog 300 (.map (some b1)) (.int .u8 1) (.agg #[.string (⟨#[117, 112]⟩ : ByteArray), .func (.func 280) #[] #[], .func (.func 281) #[] #[]]) w2 (fun w3 =>
 doMu Tryz.prog 300 (.map (some b1)) (.int .u8 2) (.agg #[.string (⟨#[100, 111, 119, 110]⟩ : ByteArray), .func (.func 282) #[] #[], .func (.func 283) #[] #[]]) w3 (fun w4 =>
 doMu Tryz.prog 300 (.map (some b1)) (.int .u8 3) (.agg #[.string (⟨#[115, 105, 122, 101]⟩ : ByteArray), .func (.func 284) #[] #[], .func (.func 285) #[] #[]]) w4 (fun w5 =>
 doMu Tryz.prog 300 (.map (some b1)) (.int .u8 4) (.agg #[.string (⟨#[98, 105, 116, 115]⟩ : ByteArray), .func (.func 286) #[] #[], .func (.func 288) #[] #[]]) w5 (fun w6 =>
 doMu Tryz.prog 300 (.map (some b1)) (.int .u8 5) (.agg #[.string (⟨#[101, 118, 101, 110]⟩ : ByteArray), .func (.func 289) #[] #[], .func (.func 290) #[] #[]]) w6 (fun w7 =>
 doMu Tryz.prog 300 (.map (some b1)) (.int .u8 6) (.agg #[.string (⟨#[108, 111, 119]⟩ : ByteArray), .func (.func 291) #[] #[], .func (.func 292) #[] #[]]) w7 (fun w8 =>
 doMu Tryz.prog 300 (.map (some b1)) (.int .u8 7) (.agg #[.string (⟨#[109, 105, 120]⟩ : ByteArray), .func (.func 293) #[] #[], .func (.func 294) #[] #[]]) w8 (fun w9 =>
 R (.returned (.map (some b1))) w9))))))))
set_option maxRecDepth 100000 in
theorem sh235_ok  {R : Ending → World → Prop} {w : World} : sh235  R w → Calls Tryz.prog 235 #[] w R :=
  calls_of_eq (ann := fun _ => []) (fn := Tryz.f235) (c := bodyOf Tryz.f235) (args := #[]) 400 follows_mixed Tryz.func235 (by kernel_rfl) (by kernel_rfl)
set_option maxRecDepth 100000 in
/-- slices.stableCmpFunc[joinery/api.Pair] -/
def sh236 (data_p1 : Option Addr) (data_n2 : Nat) (data_c3 : Nat) (n_4 : Int) (cmp_f5 : Fn) (cmp_x6 : Array Value) (cmp_c7 : Array Value) (R : Ending → World → Prop) (w : World) : Prop :=
 ∃ (I8 : List Value → World → Prop) (μ9 : List Value → World → Nat), I8 [.int .i64 0, .int .i64 20] w ∧ (∀ (a_12 : Int), ∀ (b_13 : Int), ∀ (_j10 : Nat → Value) (w11 : World), I8 [.int .i64 a_12, .int .i64 b_13] w11 → (
 ifB (decide ((b_13 : Int) ≤ n_4)) (
 doCall Tryz.prog (.func (.func 296) #[] #[]) #[.slice data_p1 data_n2 data_c3, .int .i64 a_12, .int .i64 b_13, .func cmp_f5 cmp_x6 cmp_c7] w11 (retS (fun v14 w15 => v14 = (.tuple #[] : Value) ∧ (
 I8 [.int .i64 b_13, .int .i64 (IntKind.wrap .i64 (b_13 + 20))] w15 ∧ μ9 [.int .i64 b_13, .int .i64 (IntKind.wrap .i64 (b_13 + 20))] w15 < μ9 [.int .i64 a_12, .int .i64 b_13] w11)) (fun ch w => Kfn R ch [] w))) (
 doCall Tryz.prog (.func (.func 296) #[] #[]) #[.slice data_p1 data_n2 data_c3, .int .i64 a_12, .int .i64 n_4, .func cmp_f5 cmp_x6 cmp_c7] w11 (retS (fun v16 w17 => v16 = (.tuple #[] : Value) ∧ (
 ∃ (I18 : List Value → World → Prop) (μ19 : List Value → World → Nat), I18 [.int .i64 20] w17 ∧ (∀ (blockSize_22 : Int), ∀ (_j20 : Nat → Value) (w21 : World), I18 [.int .i64 blockSize_22] w21 → (
 ifB (decide ((blockSize_22 : Int) < n_4)) (
 ∃ (I23 : List Value → World → Prop) (μ24 : List Value → World → Nat), I23 [.int .i64 0, .int .i64 (IntKind.wrap .i64 (2 * blockSize_22))] w21 ∧ (∀ (a_27 : Int), ∀ (b_28 : Int), ∀ (_j25 : Nat → Value) (w26 : World), I23 [.int .i64 a_27, .int .i64 b_28] w26 → (
 ifB (decide ((b_28 : Int) ≤ n_4)) (
 doCall Tryz.prog (.func (.func 297) #[] #[]) #[.slice data_p1 data_n2 data_c3, .int .i64 a_27, .int .i64 (IntKind.wrap .i64 (a_27 + blockSize_22)), .int .i64 b_28, .func cmp_f5 cmp_x6 cmp_c7] w26 (retS (fun v29 w30 => v29 = (.tuple #[] : Value) ∧ (
 I23 [.int .i64 b_28, .int .i64 (IntKind.wrap .i64 (b_28 + (IntKind.wrap .i64 (2 * blockSize_22))))] w30 ∧ μ24 [.int .i64 b_28, .int .i64 (IntKind.wrap .i64 (b_28 + (IntKind.wrap .i64 (2 * blockSize_22))))] w30 < μ24 [.int .i64 a_27, .int .i64 b_28] w26)) (fun ch w => Kfn R ch [] w))) (
 let K32 : World → Prop := fun (w31 : World) => 
 I18 [.int .i64 (IntKind.wrap .i64 (blockSize_22 * 2))] w31 ∧ μ19 [.int .i64 (IntKind.wrap .i64 (blockSize_22 * 2))] w31 < μ19 [.int .i64 blockSize_22] w21
 ifB (decide (((IntKind.wrap .i64 (a_27 + blockSize_22)) : Int) < n_4)) (
 doCall Tryz.prog (.func (.func 297) #[] #[]) #[.slice data_p1 data_n2 data_c3, .int .i64 a_27, .int .i64 (IntKind.wrap .i64 (a_27 + blockSize_22)), .int .i64 n_4, .func cmp_f5 cmp_x6 cmp_c7] w26 (retS (fun v33 w34 => v33 = (.tuple #[] : Value) ∧ (
 K32 w34)) (fun ch w => Kfn R ch [] w))) (
 K32 w26))))) (
 R (.returned (.tuple #[])) w21))))) (fun ch w => Kfn R ch [] w)))))
set_option maxRecDepth 100000 in
theorem sh236_ok (data_p1 : Option Addr) (data_n2 : Nat) (data_c3 : Nat) (n_4 : Int) (cmp_f5 : Fn) (cmp_x6 : Array Value) (cmp_c7 : Array Value) {R : Ending → World → Prop} {w : World} : sh236 data_p1 data_n2 data_c3 n_4 cmp_f5 cmp_x6 cmp_c7 R w → Calls Tryz.prog 236 #[.slice data_p1 data_n2 data_c3, .int .i64 n_4, .func cmp_f5 cmp_x6 cmp_c7] w R :=
  calls_of_eq (ann := fun i => if i = 4 then [(7, .int .i64 0), (8, .int .i64 0)] else if i = 2 then [(6, .int .i64 0)] else if i = 0 then [(7, .int .i64 0), (8, .int .i64 0)] else []) (fn := Tryz.f236) (c := bodyOf Tryz.f236) (args := #[.slice data_p1 data_n2 data_c3, .int .i64 n_4, .func cmp_f5 cmp_x6 cmp_c7]) 400 follows_mixed Tryz.func236 (by kernel_rfl) (by kernel_rfl)
set_option maxRecDepth 100000 in
/-- joinery/joineryref22.Check -/
def sh239 (code_1 : Int) (l_p2 : Option Addr) (l_n3 : Nat) (l_c4 : Nat) (R : Ending → World → Prop) (w : World) : Prop :=
 ifB ((code_1 : Int) == 1) (
 doCall Tryz.prog (.func (.func 298) #[] #[]) #[.slice l_p2 l_n3 l_c4] w (retS (fun v7 w8 => ∃ (x5 : Int), ∃ (x6 : Int), v7 = (.tuple #[.int .i64 x5, .int .i64 x6] : Value) ∧ (
 R (.returned (.tuple #[.int .i64 x5, .int .i64 x6])) w8)) (fun ch w => Kfn R ch [] w))) (
 ifB ((code_1 : Int) == 2) (
 doCall Tryz.prog (.func (.func 299) #[] #[]) #[.slice l_p2 l_n3 l_c4] w (retS (fun v11 w12 => ∃ (x9 : Int), ∃ (x10 : Int), v11 = (.tuple #[.int .i64 x9, .int .i64 x10] : Value) ∧ (
 R (.returned (.tuple #[.int .i64 x9, .int .i64 x10])) w12)) (fun ch w => Kfn R ch [] w))) (
 ifB ((code_1 : Int) == 3) (
 doCall Tryz.prog (.func (.func 300) #[] #[]) #[.slice l_p2 l_n3 l_c4] w (retS (fun v15 w16 => ∃ (x13 : Int), ∃ (x14 : Int), v15 = (.tuple #[.int .i64 x13, .int .i64 x14] : Value) ∧ (
 R (.returned (.tuple #[.int .i64 x13, .int .i64 x14])) w16)) (fun ch w => Kfn R ch [] w))) (
 doCall Tryz.prog (.func (.func 200) #[] #[]) #[.slice l_p2 l_n3 l_c4] w (retS (fun v19 w20 => ∃ (x17 : Int), ∃ (x18 : Int), v19 = (.tuple #[.int .i64 x17, .int .i64 x18] : Value) ∧ (
 R (.returned (.tuple #[.int .i64 x17, .int .i64 x18])) w20)) (fun ch w => Kfn R ch [] w)))))
set_option maxRecDepth 100000 in
theorem sh239_ok (code_1 : Int) (l_p2 : Option Addr) (l_n3 : Nat) (l_c4 : Nat) {R : Ending → World → Prop} {w : World} : sh239 code_1 l_p2 l_n3 l_c4 R w → Calls Tryz.prog 239 #[.int .u8 code_1, .slice l_p2 l_n3 l_c4] w R :=
  calls_of_eq (ann := fun _ => []) (fn := Tryz.f239) (c := bodyOf Tryz.f239) (args := #[.int .u8 code_1, .slice l_p2 l_n3 l_c4]) 400 follows_mixed Tryz.func239 (by kernel_rfl) (by kernel_rfl)
set_option maxRecDepth 100000 in
/-- joinery/row.two$1 -/
def sh242 (yield_f1 : Fn) (yield_x2 : Array Value) (yield_c3 : Array Value) (x4 : Addr) (R : Ending → World → Prop) (w : World) : Prop :=
 ∃ (xp5 : Option Addr), ∃ (xn6 : Nat), ∃ (xc7 : Nat), World.cell? w x4 = some (.slice xp5 xn6 xc7) ∧ (
 ∃ (I8 : List Value → World → Prop) (μ9 : List Value → World → Nat), I8 [.int .i64 0] w ∧ (∀ (x12 : Int), ∀ (_j10 : Nat → Value) (w11 : World), I8 [.int .i64 x12] w11 → (
 ifB (decide ((x12 : Int) < ((xn6 : Nat) : Int))) (
 let K14 : World → Prop := fun (w13 : World) => 
 I8 [.int .i64 (IntKind.wrap .i64 (x12 + 1))] w13 ∧ μ9 [.int .i64 (IntKind.wrap .i64 (x12 + 1))] w13 < μ9 [.int .i64 x12] w11
 let K17 : Bool → World → Prop := fun (x15 : Bool) (w16 : World) => 
 ifB x15 (
 R (.returned (.tuple #[])) w16) (
 K14 w16)
 doDr w11 (fun w19 =>
 ∃ (C18 : World → Prop), C18 w19 ∧ (
 ifB (decide ((x12 : Int) > 0)) (
 ∃ (xp20 : Option Addr), ∃ (xn21 : Nat), ∃ (xc22 : Nat), (∀ w, C18 w → World.cell? w x4 = some (.slice xp20 xn21 xc22)) ∧ (
 doIx xp20 xn21 2 (IntKind.wrap .i64 (x12 - 1)) (fun a23 =>
 ∃ (x24 : Int), (∀ w, C18 w → World.cell? w (a23.add 0) = some (.int .i64 x24)) ∧ (
 ∃ (x25 : Int), (∀ w, C18 w → World.cell? w (a23.add 1) = some (.int .i64 x25)) ∧ (
 ∃ (xp26 : Option Addr), ∃ (xn27 : Nat), ∃ (xc28 : Nat), (∀ w, C18 w → World.cell? w x4 = some (.slice xp26 xn27 xc28)) ∧ (
 doIx xp26 xn27 2 (x12) (fun a29 =>
 ∃ (x30 : Int), (∀ w, C18 w → World.cell? w (a29.add 0) = some (.int .i64 x30)) ∧ (
 ∃ (x31 : Int), (∀ w, C18 w → World.cell? w (a29.add 1) = some (.int .i64 x31)) ∧ (
 doCall Tryz.prog (.func yield_f1 yield_x2 yield_c3) #[.agg #[.int .i64 x24, .int .i64 x25], .agg #[.int .i64 x30, .int .i64 x31]] w19 (retS (fun v33 w34 => ∃ (x32 : Bool), v33 = (.bool x32 : Value) ∧ (
 C18 w34 ∧ (
 K17 (!x32) w34))) (fun ch w => Kfn R ch [] w))))))))))) (
 K14 w19)))) (
 R (.returned (.tuple #[])) w11))))
set_option maxRecDepth 100000 in
theorem sh242_ok (yield_f1 : Fn) (yield_x2 : Array Value) (yield_c3 : Array Value) (x4 : Addr) {R : Ending → World → Prop} {w : World} : sh242 yield_f1 yield_x2 yield_c3 x4 R w → Calls Tryz.prog 242 #[.func yield_f1 yield_x2 yield_c3, .pointer (some x4)] w R :=
  calls_of_eq (ann := fun i => if i = 0 then [(6, .int .i64 0)] else []) (fn := Tryz.f242) (c := bodyOf Tryz.f242) (args := #[.func yield_f1 yield_x2 yield_c3, .pointer (some x4)]) 400 follows_mixed Tryz.func242 (by kernel_rfl) (by kernel_rfl)
set_option maxRecDepth 100000 in
/-- (*joinery/scheme.Scheme).face$1 -/
def sh245 (x1 : Addr) (R : Ending → World → Prop) (w : World) : Prop :=
 doDr w (fun w3 =>
 ∃ (C2 : World → Prop), C2 w3 ∧ (
 ∃ (x4 : Option Addr), (∀ w, C2 w → World.cell? w x1 = some (.pointer x4)) ∧ (
 ∃ (x5 : Option Addr), (∀ w, C2 w → World.cell? w x1 = some (.pointer x5)) ∧ (
 ∃ (q6 : Addr), x5 = some q6 ∧ (
 ∃ (x7 : Int), (∀ w, C2 w → World.cell? w (q6.add 0) = some (.int .u8 x7)) ∧ (
 doCall Tryz.prog (.func (.func 167) #[] #[]) #[.int .u8 x7] w3 (retS (fun v9 w10 => ∃ (x8 : Value), v9 = (x8 : Value) ∧ (
 C2 w10 ∧ (
 doGo Tryz.prog (.fn (.method "joinery/scheme.faces") #[]) #[x8] w10 (retS (fun v31 w32 => ∃ (x11 : ByteArray), ∃ (xf12 : Fn), ∃ (xx13 : Array Value), ∃ (xc14 : Array Value), ∃ (xf15 : Fn), ∃ (xx16 : Array Value), ∃ (xc17 : Array Value), ∃ (xf18 : Fn), ∃ (xx19 : Array Value), ∃ (xc20 : Array Value), ∃ (xf21 : Fn), ∃ (xx22 : Array Value), ∃ (xc23 : Array Value), ∃ (xf24 : Fn), ∃ (xx25 : Array Value), ∃ (xc26 : Array Value), ∃ (xf27 : Fn), ∃ (xx28 : Array Value), ∃ (xc29 : Array Value), ∃ (x30 : Bool), v31 = (.agg #[.string x11, .func xf12 xx13 xc14, .func xf15 xx16 xc17, .func xf18 xx19 xc20, .func xf21 xx22 xc23, .func xf24 xx25 xc26, .func xf27 xx28 xc29, .bool x30] : Value) ∧ (
 C2 w32 ∧ (
 ∃ (q33 : Addr), x4 = some q33 ∧ (
 doSt ((q33.add 4).add 0) (.string x11) w32 (fun w34 =>
 doSt ((q33.add 4).add 1) (.func xf12 xx13 xc14) w34 (fun w35 =>
 doSt ((q33.add 4).add 2) (.func xf15 xx16 xc17) w35 (fun w36 =>
 doSt ((q33.add 4).add 3) (.func xf18 xx19 xc20) w36 (fun w37 =>
 doSt ((q33.add 4).add 4) (.func xf21 xx22 xc23) w37 (fun w38 =>
 doSt ((q33.add 4).add 5) (.func xf24 xx25 xc26) w38 (fun w39 =>
 doSt ((q33.add 4).add 6) (.func xf27 xx28 xc29) w39 (fun w40 =>
 doSt ((q33.add 4).add 7) (.bool x30) w40 (fun w41 =>
 R (.returned (.tuple #[])) w41)))))))))))) (fun ch w => Kfn R ch [] w))))) (fun ch w => Kfn R ch [] w))))))))
set_option maxRecDepth 100000 in
theorem sh245_ok (x1 : Addr) {R : Ending → World → Prop} {w : World} : sh245 x1 R w → Calls Tryz.prog 245 #[.pointer (some x1)] w R :=
  calls_of_eq (ann := fun _ => []) (fn := Tryz.f245) (c := bodyOf Tryz.f245) (args := #[.pointer (some x1)]) 400 follows_mixed Tryz.func245 (by kernel_rfl) (by kernel_rfl)
end Go.Proofs.YtlddfgfmkapoiaaGreat

namespace Go.Proofs.YtlddfgfmkapoiaaGreat
open Go Go.Sh
set_option maxRecDepth 100000 in
/-- joinery/treap.Above -/
def sh253 (a_1 : Option Addr) (b_2 : Option Addr) (R : Ending → World → Prop) (w : World) : Prop :=
 let K5 : Bool → World → Prop := fun (x3 : Bool) (w4 : World) => 
 R (.returned (.bool x3)) w4
 ifB (!(a_1).isNone) (
 ifB (!(b_2).isNone) (
 doCall Tryz.prog (.func (.func 306) #[] #[]) #[.pointer a_1] w (retS (fun v9 w10 => ∃ (x6 : Int), ∃ (x7 : Int), ∃ (x8 : Int), v9 = (.agg #[.int .i64 x6, .int .i64 x7, .int .u64 x8] : Value) ∧ (
 doCall Tryz.prog (.func (.func 306) #[] #[]) #[.pointer b_2] w10 (retS (fun v14 w15 => ∃ (x11 : Int), ∃ (x12 : Int), ∃ (x13 : Int), v14 = (.agg #[.int .i64 x11, .int .i64 x12, .int .u64 x13] : Value) ∧ (
 doCall Tryz.prog (.func (.func 305) #[] #[]) #[.agg #[.int .i64 x6, .int .i64 x7, .int .u64 x8], .agg #[.int .i64 x11, .int .i64 x12, .int .u64 x13]] w15 (retS (fun v17 w18 => ∃ (x16 : Bool), v17 = (.bool x16 : Value) ∧ (
 K5 x16 w18)) (fun ch w => Kfn R ch [] w)))) (fun ch w => Kfn R ch [] w)))) (fun ch w => Kfn R ch [] w))) (
 R (.returned (.bool false)) w)) (
 R (.returned (.bool false)) w)
set_option maxRecDepth 100000 in
theorem sh253_ok (a_1 : Option Addr) (b_2 : Option Addr) {R : Ending → World → Prop} {w : World} : sh253 a_1 b_2 R w → Calls Tryz.prog 253 #[.pointer a_1, .pointer b_2] w R :=
  calls_of_eq (ann := fun _ => []) (fn := Tryz.f253) (c := bodyOf Tryz.f253) (args := #[.pointer a_1, .pointer b_2]) 400 follows_mixed Tryz.func253 (by kernel_rfl) (by kernel_rfl)
set_option maxRecDepth 100000 in
/-- joinery/mix.all -/
def sh254  (R : Ending → World → Prop) (w : World) : Prop :=
 doAl (.cells #[.int .i64 0, .int .u64 0, .int .i64 0, .int .u64 0, .int .i64 0, .int .u64 0] 320) w (fun b1 w2 =>
 doSt ((blk b1).add 0) (.int .i64 30) w2 (fun w3 =>
 doSt ((blk b1).add 1) (.int .u64 13787848793156543929) w3 (fun w4 =>
 doSt ((blk b1).add 2) (.int .i64 27) w4 (fun w5 =>
 doSt ((blk b1).add 3) (.int .u64 10723151780598845931) w5 (fun w6 =>
 doSt ((blk b1).add 4) (.int .i64 31) w6 (fun w7 =>
 doSt ((blk b1).add 5) (.int .u64 1) w7 (fun w8 =>
 ∃ (x9 : Int), World.cell? w8 ((blk b1).add 0) = some (.int .i64 x9) ∧ (
 ∃ (x10 : Int), World.cell? w8 ((blk b1).add 1) = some (.int .u64 x10) ∧ (
 ∃ (x11 : Int), World.cell? w8 ((blk b1).add 2) = some (.int .i64 x11) ∧ (
 ∃ (x12 : Int), World.cell? w8 ((blk b1).add 3) = some (.int .u64 x12) ∧ (
 ∃ (x13 : Int), World.cell? w8 ((blk b1).add 4) = some (.int .i64 x13) ∧ (
 ∃ (x14 : Int), World.cell? w8 ((blk b1).add 5) = some (.int .u64 x14) ∧ (
 R (.returned (.agg #[.int .i64 x9, .int .u64 x10, .int .i64 x11, .int .u64 x12, .int .i64 x13, .int .u64 x14])) w8)))))))))))))
set_option maxRecDepth 100000 in
theorem sh254_ok  {R : Ending → World → Prop} {w : World} : sh254  R w → Calls Tryz.prog 254 #[] w R :=
  calls_of_eq (ann := fun _ => []) (fn := Tryz.f254) (c := bodyOf Tryz.f254) (args := #[]) 400 follows_mixed Tryz.func254 (by kernel_rfl) (by kernel_rfl)
set_option maxRecDepth 100000 in
/-- joinery/mix.steps$1 -/
def sh255 (yield_f1 : Fn) (yield_x2 : Array Value) (yield_c3 : Array Value) (x4 : Addr) (x5 : Addr) (R : Ending → World → Prop) (w : World) : Prop :=
 ∃ (I6 : List Value → World → Prop) (μ7 : List Value → World → Nat), I6 [.int .i64 0] w ∧ (∀ (x10 : Int), ∀ (_j8 : Nat → Value) (w9 : World), I6 [.int .i64 x10] w9 → (
 ifB (decide ((x10 : Int) < 3)) (
 let K13 : Int → World → Prop := fun (k_11 : Int) (w12 : World) => 
 doIx (some x5) 3 2 (k_11) (fun a14 =>
 ∃ (x15 : Int), World.cell? w12 (a14.add 0) = some (.int .i64 x15) ∧ (
 ∃ (x16 : Int), World.cell? w12 (a14.add 1) = some (.int .u64 x16) ∧ (
 doCall Tryz.prog (.func yield_f1 yield_x2 yield_c3) #[.agg #[.int .i64 x15, .int .u64 x16]] w12 (retS (fun v18 w19 => ∃ (x17 : Bool), v18 = (.bool x17 : Value) ∧ (
 ifB (!x17) (
 R (.returned (.tuple #[])) w19) (
 I6 [.int .i64 (IntKind.wrap .i64 (x10 + 1))] w19 ∧ μ7 [.int .i64 (IntKind.wrap .i64 (x10 + 1))] w19 < μ7 [.int .i64 x10] w9))) (fun ch w => Kfn R ch [] w)))))
 ∃ (x20 : Bool), World.cell? w9 x4 = some (.bool x20) ∧ (
 ifB x20 (
 K13 (IntKind.wrap .i64 (2 - x10)) w9) (
 K13 x10 w9))) (
 R (.returned (.tuple #[])) w9)))
set_option maxRecDepth 100000 in
theorem sh255_ok (yield_f1 : Fn) (yield_x2 : Array Value) (yield_c3 : Array Value) (x4 : Addr) (x5 : Addr) {R : Ending → World → Prop} {w : World} : sh255 yield_f1 yield_x2 yield_c3 x4 x5 R w → Calls Tryz.prog 255 #[.func yield_f1 yield_x2 yield_c3, .pointer (some x4), .pointer (some x5)] w R :=
  calls_of_eq (ann := fun i => if i = 0 then [(5, .int .i64 0)] else []) (fn := Tryz.f255) (c := bodyOf Tryz.f255) (args := #[.func yield_f1 yield_x2 yield_c3, .pointer (some x4), .pointer (some x5)]) 400 follows_mixed Tryz.func255 (by kernel_rfl) (by kernel_rfl)
set_option maxRecDepth 100000 in
/-- joinery/joineryref20.over -/
def sh256 (l_p1 : Option Addr) (l_n2 : Nat) (_l_c3 : Nat) (x_4 : Int) (x_5 : Int) (x_6 : Int) (x_7 : Int) (x_8 : Int) (x_9 : Bool) (x_10 : Bool) (R : Ending → World → Prop) (w : World) : Prop :=
 doAl (.cells #[.int .i64 x_4, .int .i64 x_5, .int .i64 x_6, .int .i64 x_7, .int .u64 x_8, .bool x_9, .bool x_10] 150) w (fun b11 w12 =>
 let K15 : Bool → World → Prop := fun (x13 : Bool) (w14 : World) => 
 R (.returned (.bool x13)) w14
 doDr w12 (fun w17 =>
 ∃ (C16 : World → Prop), C16 w17 ∧ (
 ifB (decide ((((l_n2 : Nat) : Int) : Int) > 0)) (
 doIx l_p1 l_n2 7 (0) (fun a18 =>
 ∃ (x19 : Int), (∀ w, C16 w → World.cell? w (a18.add 0) = some (.int .i64 x19)) ∧ (
 ∃ (x20 : Int), (∀ w, C16 w → World.cell? w (a18.add 1) = some (.int .i64 x20)) ∧ (
 ∃ (x21 : Int), (∀ w, C16 w → World.cell? w (a18.add 2) = some (.int .i64 x21)) ∧ (
 ∃ (x22 : Int), (∀ w, C16 w → World.cell? w (a18.add 3) = some (.int .i64 x22)) ∧ (
 ∃ (x23 : Int), (∀ w, C16 w → World.cell? w (a18.add 4) = some (.int .u64 x23)) ∧ (
 ∃ (x24 : Bool), (∀ w, C16 w → World.cell? w (a18.add 5) = some (.bool x24)) ∧ (
 ∃ (x25 : Bool), (∀ w, C16 w → World.cell? w (a18.add 6) = some (.bool x25)) ∧ (
 ∃ (x26 : Int), (∀ w, C16 w → World.cell? w ((blk b11).add 0) = some (.int .i64 x26)) ∧ (
 ∃ (x27 : Int), (∀ w, C16 w → World.cell? w ((blk b11).add 1) = some (.int .i64 x27)) ∧ (
 ∃ (x28 : Int), (∀ w, C16 w → World.cell? w ((blk b11).add 2) = some (.int .i64 x28)) ∧ (
 ∃ (x29 : Int), (∀ w, C16 w → World.cell? w ((blk b11).add 3) = some (.int .i64 x29)) ∧ (
 ∃ (x30 : Int), (∀ w, C16 w → World.cell? w ((blk b11).add 4) = some (.int .u64 x30)) ∧ (
 ∃ (x31 : Bool), (∀ w, C16 w → World.cell? w ((blk b11).add 5) = some (.bool x31)) ∧ (
 ∃ (x32 : Bool), (∀ w, C16 w → World.cell? w ((blk b11).add 6) = some (.bool x32)) ∧ (
 doCall Tryz.prog (.func (.func 190) #[] #[]) #[.agg #[.int .i64 x19, .int .i64 x20, .int .i64 x21, .int .i64 x22, .int .u64 x23, .bool x24, .bool x25]] w17 (retS (fun v36 w37 => ∃ (x33 : Int), ∃ (x34 : Int), ∃ (x35 : Int), v36 = (.agg #[.int .i64 x33, .int .i64 x34, .int .u64 x35] : Value) ∧ (
 C16 w37 ∧ (
 doCall Tryz.prog (.func (.func 190) #[] #[]) #[.agg #[.int .i64 x26, .int .i64 x27, .int .i64 x28, .int .i64 x29, .int .u64 x30, .bool x31, .bool x32]] w37 (retS (fun v41 w42 => ∃ (x38 : Int), ∃ (x39 : Int), ∃ (x40 : Int), v41 = (.agg #[.int .i64 x38, .int .i64 x39, .int .u64 x40] : Value) ∧ (
 C16 w42 ∧ (
 doCall Tryz.prog (.func (.func 192) #[] #[]) #[.agg #[.int .i64 x33, .int .i64 x34, .int .u64 x35], .agg #[.int .i64 x38, .int .i64 x39, .int .u64 x40]] w42 (retS (fun v44 w45 => ∃ (x43 : Bool), v44 = (.bool x43 : Value) ∧ (
 C16 w45 ∧ (
 K15 x43 w45))) (fun ch w => Kfn R ch [] w))))) (fun ch w => Kfn R ch [] w))))) (fun ch w => Kfn R ch [] w)))))))))))))))))) (
 R (.returned (.bool false)) w17))))
set_option maxRecDepth 100000 in
theorem sh256_ok (l_p1 : Option Addr) (l_n2 : Nat) (l_c3 : Nat) (x_4 : Int) (x_5 : Int) (x_6 : Int) (x_7 : Int) (x_8 : Int) (x_9 : Bool) (x_10 : Bool) {R : Ending → World → Prop} {w : World} : sh256 l_p1 l_n2 l_c3 x_4 x_5 x_6 x_7 x_8 x_9 x_10 R w → Calls Tryz.prog 256 #[.slice l_p1 l_n2 l_c3, .agg #[.int .i64 x_4, .int .i64 x_5, .int .i64 x_6, .int .i64 x_7, .int .u64 x_8, .bool x_9, .bool x_10]] w R :=
  calls_of_eq (ann := fun _ => []) (fn := Tryz.f256) (c := bodyOf Tryz.f256) (args := #[.slice l_p1 l_n2 l_c3, .agg #[.int .i64 x_4, .int .i64 x_5, .int .i64 x_6, .int .i64 x_7, .int .u64 x_8, .bool x_9, .bool x_10]]) 400 follows_mixed Tryz.func256 (by kernel_rfl) (by kernel_rfl)
set_option maxRecDepth 100000 in
/-- joinery/find.last$1 -/
def sh257 (n_1 : Option Addr) (is_2 : Bool) (x3 : Addr) (R : Ending → World → Prop) (w : World) : Prop :=
 ifB is_2 (
 doSt (x3.add 0) (.pointer n_1) w (fun w4 =>
 R (.returned (.tuple #[])) w4)) (
 R (.returned (.tuple #[])) w)
set_option maxRecDepth 100000 in
theorem sh257_ok (n_1 : Option Addr) (is_2 : Bool) (x3 : Addr) {R : Ending → World → Prop} {w : World} : sh257 n_1 is_2 x3 R w → Calls Tryz.prog 257 #[.pointer n_1, .bool is_2, .pointer (some x3)] w R :=
  calls_of_eq (ann := fun _ => []) (fn := Tryz.f257) (c := bodyOf Tryz.f257) (args := #[.pointer n_1, .bool is_2, .pointer (some x3)]) 400 follows_mixed Tryz.func257 (by kernel_rfl) (by kernel_rfl)
set_option maxRecDepth 100000 in
/-- joinery/find.last$2 -/
def sh258 (x1 : Addr) (R : Ending → World → Prop) (w : World) : Prop :=
 ∃ (x2 : Option Addr), World.cell? w x1 = some (.pointer x2) ∧ (
 R (.returned (.pointer x2)) w)
set_option maxRecDepth 100000 in
theorem sh258_ok (x1 : Addr) {R : Ending → World → Prop} {w : World} : sh258 x1 R w → Calls Tryz.prog 258 #[.pointer (some x1)] w R :=
  calls_of_eq (ann := fun _ => []) (fn := Tryz.f258) (c := bodyOf Tryz.f258) (args := #[.pointer (some x1)]) 400 follows_mixed Tryz.func258 (by kernel_rfl) (by kernel_rfl)
set_option maxRecDepth 100000 in
/-- joinery/find.way$1 -/
def sh259 (yield_f1 : Fn) (yield_x2 : Array Value) (yield_c3 : Array Value) (x4 : Addr) (x5 : Addr) (x6 : Addr) (R : Ending → World → Prop) (w : World) : Prop :=
 ∃ (x7 : Int), World.cell? w x4 = some (.int .u8 x7) ∧ (
 doCall Tryz.prog (.func (.func 172) #[] #[]) #[.int .u8 x7] w (retS (fun v9 w10 => ∃ (x8 : ByteArray), v9 = (.string x8 : Value) ∧ (
 ifB (x8.toList == (⟨#[]⟩ : ByteArray).toList) (
 R (.returned (.tuple #[])) w10) (
 ∃ (x11 : Option Addr), World.cell? w10 x5 = some (.pointer x11) ∧ (
 ∃ (I12 : List Value → World → Prop) (μ13 : List Value → World → Nat), I12 [.pointer x11] w10 ∧ (∀ (n_16 : Option Addr), ∀ (_j14 : Nat → Value) (w15 : World), I12 [.pointer n_16] w15 → (
 ifB (!(n_16).isNone) (
 doDr w15 (fun w18 =>
 ∃ (C17 : World → Prop), C17 w18 ∧ (
 ∃ (x19 : Int), (∀ w, C17 w → World.cell? w x4 = some (.int .u8 x19)) ∧ (
 ∃ (x20 : Int), (∀ w, C17 w → World.cell? w x6 = some (.int .i64 x20)) ∧ (
 doCall Tryz.prog (.func (.func 108) #[] #[]) #[.pointer n_16] w18 (retS (fun v22 w23 => ∃ (x21 : Int), v22 = (.int .i64 x21 : Value) ∧ (
 C17 w23 ∧ (
 doCall Tryz.prog (.func (.func 176) #[] #[]) #[.int .u8 x19, .int .i64 x20, .int .i64 x21] w23 (retS (fun v25 w26 => ∃ (x24 : Int), v25 = (.int .i64 x24 : Value) ∧ (
 let K29 : Bool → World → Prop := fun (x27 : Bool) (w28 : World) => 
 ifB x27 (
 R (.returned (.tuple #[])) w28) (
 ifB (decide ((x24 : Int) < 0)) (
 doCall Tryz.prog (.func (.func 123) #[] #[]) #[.pointer n_16] w28 (retS (fun v31 w32 => ∃ (x30 : Option Addr), v31 = (.pointer x30 : Value) ∧ (
 I12 [.pointer x30] w32 ∧ μ13 [.pointer x30] w32 < μ13 [.pointer n_16] w15)) (fun ch w => Kfn R ch [] w))) (
 doCall Tryz.prog (.func (.func 125) #[] #[]) #[.pointer n_16] w28 (retS (fun v34 w35 => ∃ (x33 : Option Addr), v34 = (.pointer x33 : Value) ∧ (
 I12 [.pointer x33] w35 ∧ μ13 [.pointer x33] w35 < μ13 [.pointer n_16] w15)) (fun ch w => Kfn R ch [] w))))
 doCall Tryz.prog (.func yield_f1 yield_x2 yield_c3) #[.pointer n_16, .int .i64 x24] w26 (retS (fun v37 w38 => ∃ (x36 : Bool), v37 = (.bool x36 : Value) ∧ (
 ifB (!x36) (
 R (.returned (.tuple #[])) w38) (
 K29 ((x24 : Int) == 0) w38))) (fun ch w => Kfn R ch [] w)))) (fun ch w => Kfn R ch [] w))))) (fun ch w => Kfn R ch [] w))))))) (
 R (.returned (.tuple #[])) w15))))))) (fun ch w => Kfn R ch [] w)))
set_option maxRecDepth 100000 in
theorem sh259_ok (yield_f1 : Fn) (yield_x2 : Array Value) (yield_c3 : Array Value) (x4 : Addr) (x5 : Addr) (x6 : Addr) {R : Ending → World → Prop} {w : World} : sh259 yield_f1 yield_x2 yield_c3 x4 x5 x6 R w → Calls Tryz.prog 259 #[.func yield_f1 yield_x2 yield_c3, .pointer (some x4), .pointer (some x5), .pointer (some x6)] w R :=
  calls_of_eq (ann := fun i => if i = 0 then [(5, .pointer none)] else []) (fn := Tryz.f259) (c := bodyOf Tryz.f259) (args := #[.func yield_f1 yield_x2 yield_c3, .pointer (some x4), .pointer (some x5), .pointer (some x6)]) 400 follows_mixed Tryz.func259 (by kernel_rfl) (by kernel_rfl)
set_option maxRecDepth 100000 in
/-- joinery/fold.kinds$1 -/
def sh260 (a_1 : Int) (_x2 : Int) (R : Ending → World → Prop) (w : World) : Prop :=
 R (.returned (.int .i64 a_1)) w
set_option maxRecDepth 100000 in
theorem sh260_ok (a_1 : Int) (x2 : Int) {R : Ending → World → Prop} {w : World} : sh260 a_1 x2 R w → Calls Tryz.prog 260 #[.int .i64 a_1, .int .i64 x2] w R :=
  calls_of_eq (ann := fun _ => []) (fn := Tryz.f260) (c := bodyOf Tryz.f260) (args := #[.int .i64 a_1, .int .i64 x2]) 400 follows_mixed Tryz.func260 (by kernel_rfl) (by kernel_rfl)
set_option maxRecDepth 100000 in
/-- joinery/fold.kinds$2 -/
def sh261 (_x1 : Int) (b_2 : Int) (R : Ending → World → Prop) (w : World) : Prop :=
 R (.returned (.int .i64 b_2)) w
set_option maxRecDepth 100000 in
theorem sh261_ok (x1 : Int) (b_2 : Int) {R : Ending → World → Prop} {w : World} : sh261 x1 b_2 R w → Calls Tryz.prog 261 #[.int .i64 x1, .int .i64 b_2] w R :=
  calls_of_eq (ann := fun _ => []) (fn := Tryz.f261) (c := bodyOf Tryz.f261) (args := #[.int .i64 x1, .int .i64 b_2]) 400 follows_mixed Tryz.func261 (by kernel_rfl) (by kernel_rfl)
set_option maxRecDepth 100000 in
/-- joinery/fold.kinds$3 -/
def sh262 (a_1 : Int) (b_2 : Int) (R : Ending → World → Prop) (w : World) : Prop :=
 R (.returned (.int .i64 (IntKind.wrap .i64 (a_1 + b_2)))) w
set_option maxRecDepth 100000 in
theorem sh262_ok (a_1 : Int) (b_2 : Int) {R : Ending → World → Prop} {w : World} : sh262 a_1 b_2 R w → Calls Tryz.prog 262 #[.int .i64 a_1, .int .i64 b_2] w R :=
  calls_of_eq (ann := fun _ => []) (fn := Tryz.f262) (c := bodyOf Tryz.f262) (args := #[.int .i64 a_1, .int .i64 b_2]) 400 follows_mixed Tryz.func262 (by kernel_rfl) (by kernel_rfl)
set_option maxRecDepth 100000 in
/-- joinery/cut.Last -/
def sh263 (s_1 : Option Addr) (t_2 : Option Addr) (R : Ending → World → Prop) (w : World) : Prop :=
 doAl (.cells #[.int .i64 0, .int .i64 0, .int .u64 0] 114) w (fun b3 w4 =>
 let K7 : Bool → World → Prop := fun (x5 : Bool) (w6 : World) => 
 ifB x5 (
 doSt ((blk b3).add 0) (.int .i64 0) w6 (fun w8 =>
 doSt ((blk b3).add 1) (.int .i64 0) w8 (fun w9 =>
 doSt ((blk b3).add 2) (.int .u64 0) w9 (fun w10 =>
 ∃ (x11 : Int), World.cell? w10 ((blk b3).add 0) = some (.int .i64 x11) ∧ (
 ∃ (x12 : Int), World.cell? w10 ((blk b3).add 1) = some (.int .i64 x12) ∧ (
 ∃ (x13 : Int), World.cell? w10 ((blk b3).add 2) = some (.int .u64 x13) ∧ (
 R (.returned (.tuple #[.pointer none, .agg #[.int .i64 x11, .int .i64 x12, .int .u64 x13], .bool false])) w10))))))) (
 doCall Tryz.prog (.func (.func 308) #[] #[]) #[.pointer s_1, .bool true] w6 (retS (fun v23 w24 => ∃ (xf14 : Fn), ∃ (xx15 : Array Value), ∃ (xc16 : Array Value), ∃ (xf17 : Fn), ∃ (xx18 : Array Value), ∃ (xc19 : Array Value), ∃ (xf20 : Fn), ∃ (xx21 : Array Value), ∃ (xc22 : Array Value), v23 = (.agg #[.func xf14 xx15 xc16, .func xf17 xx18 xc19, .func xf20 xx21 xc22] : Value) ∧ (
 doCall Tryz.prog (.func (.func 307) #[] #[]) #[.pointer s_1, .agg #[.func xf14 xx15 xc16, .func xf17 xx18 xc19, .func xf20 xx21 xc22], .pointer t_2] w24 (retS (fun v29 w30 => ∃ (x25 : Option Addr), ∃ (x26 : Int), ∃ (x27 : Int), ∃ (x28 : Int), v29 = (.tuple #[.pointer x25, .agg #[.int .i64 x26, .int .i64 x27, .int .u64 x28]] : Value) ∧ (
 doSt ((blk b3).add 0) (.int .i64 x26) w30 (fun w31 =>
 doSt ((blk b3).add 1) (.int .i64 x27) w31 (fun w32 =>
 doSt ((blk b3).add 2) (.int .u64 x28) w32 (fun w33 =>
 doDr w33 (fun w35 =>
 ∃ (C34 : World → Prop), C34 w35 ∧ (
 ∃ (x36 : Int), (∀ w, C34 w → World.cell? w ((blk b3).add 0) = some (.int .i64 x36)) ∧ (
 ∃ (x37 : Int), (∀ w, C34 w → World.cell? w ((blk b3).add 1) = some (.int .i64 x37)) ∧ (
 ∃ (x38 : Int), (∀ w, C34 w → World.cell? w ((blk b3).add 2) = some (.int .u64 x38)) ∧ (
 doSt ((blk b3).add 0) (.int .i64 x36) w35 (fun w39 =>
 doSt ((blk b3).add 1) (.int .i64 x37) w39 (fun w40 =>
 doSt ((blk b3).add 2) (.int .u64 x38) w40 (fun w41 =>
 ∃ (x42 : Int), World.cell? w41 ((blk b3).add 0) = some (.int .i64 x42) ∧ (
 ∃ (x43 : Int), World.cell? w41 ((blk b3).add 1) = some (.int .i64 x43) ∧ (
 ∃ (x44 : Int), World.cell? w41 ((blk b3).add 2) = some (.int .u64 x44) ∧ (
 R (.returned (.tuple #[.pointer x25, .agg #[.int .i64 x42, .int .i64 x43, .int .u64 x44], .bool true])) w41)))))))))))))))) (fun ch w => Kfn R ch [] w)))) (fun ch w => Kfn R ch [] w)))
 ifB ((s_1).isNone) (
 K7 true w4) (
 K7 ((t_2).isNone) w4))
set_option maxRecDepth 100000 in
theorem sh263_ok (s_1 : Option Addr) (t_2 : Option Addr) {R : Ending → World → Prop} {w : World} : sh263 s_1 t_2 R w → Calls Tryz.prog 263 #[.pointer s_1, .pointer t_2] w R :=
  calls_of_eq (ann := fun _ => []) (fn := Tryz.f263) (c := bodyOf Tryz.f263) (args := #[.pointer s_1, .pointer t_2]) 400 follows_mixed Tryz.func263 (by kernel_rfl) (by kernel_rfl)
set_option maxRecDepth 100000 in
/-- cmp.isNaN[uint64] -/
def sh264 (x_1 : Int) (R : Ending → World → Prop) (w : World) : Prop :=
 R (.returned (.bool ((x_1 : Int) != x_1))) w
set_option maxRecDepth 100000 in
theorem sh264_ok (x_1 : Int) {R : Ending → World → Prop} {w : World} : sh264 x_1 R w → Calls Tryz.prog 264 #[.int .u64 x_1] w R :=
  calls_of_eq (ann := fun _ => []) (fn := Tryz.f264) (c := bodyOf Tryz.f264) (args := #[.int .u64 x_1]) 400 follows_mixed Tryz.func264 (by kernel_rfl) (by kernel_rfl)
set_option maxRecDepth 100000 in
/-- joinery/avl.Make -/
def sh265 (l_1 : Option Addr) (key_2 : Int) (val_3 : Int) (r_4 : Option Addr) (R : Ending → World → Prop) (w : World) : Prop :=
 doCall Tryz.prog (.func (.func 196) #[] #[]) #[.pointer l_1] w (retS (fun v6 w7 => ∃ (x5 : Int), v6 = (.int .u64 x5 : Value) ∧ (
 doCall Tryz.prog (.func (.func 196) #[] #[]) #[.pointer r_4] w7 (retS (fun v9 w10 => ∃ (x8 : Int), v9 = (.int .u64 x8 : Value) ∧ (
 doGo Tryz.prog (.builtin .max #[75, 75] 75 #[false, false]) #[.int .u64 x5, .int .u64 x8] w10 (retS (fun v12 w13 => ∃ (x11 : Int), v12 = (.int .u64 x11 : Value) ∧ (
 doCall Tryz.prog (.func (.func 105) #[] #[]) #[.pointer l_1, .int .i64 key_2, .int .i64 val_3, .int .u64 (IntKind.wrap .u64 (x11 + 1)), .pointer r_4] w13 (retS (fun v15 w16 => ∃ (x14 : Option Addr), v15 = (.pointer x14 : Value) ∧ (
 R (.returned (.pointer x14)) w16)) (fun ch w => Kfn R ch [] w)))) (fun ch w => Kfn R ch [] w)))) (fun ch w => Kfn R ch [] w)))) (fun ch w => Kfn R ch [] w))
set_option maxRecDepth 100000 in
theorem sh265_ok (l_1 : Option Addr) (key_2 : Int) (val_3 : Int) (r_4 : Option Addr) {R : Ending → World → Prop} {w : World} : sh265 l_1 key_2 val_3 r_4 R w → Calls Tryz.prog 265 #[.pointer l_1, .int .i64 key_2, .int .i64 val_3, .pointer r_4] w R :=
  calls_of_eq (ann := fun _ => []) (fn := Tryz.f265) (c := bodyOf Tryz.f265) (args := #[.pointer l_1, .int .i64 key_2, .int .i64 val_3, .pointer r_4]) 400 follows_mixed Tryz.func265 (by kernel_rfl) (by kernel_rfl)
set_option maxRecDepth 100000 in
/-- joinery/avljoin.right -/
def sh266  (R : Ending → World → Prop) (w : World) : Prop :=
 doAl (.cells #[.nilFunc, .nilFunc, .nilFunc] 331) w (fun b1 w2 =>
 doSt ((blk b1).add 0) (.func (.func 123) #[] #[]) w2 (fun w3 =>
 doSt ((blk b1).add 1) (.func (.func 125) #[] #[]) w3 (fun w4 =>
 doSt ((blk b1).add 2) (.func (.func 309) #[] #[]) w4 (fun w5 =>
 ∃ (xf6 : Fn), ∃ (xx7 : Array Value), ∃ (xc8 : Array Value), World.cell? w5 ((blk b1).add 0) = some (.func xf6 xx7 xc8) ∧ (
 ∃ (xf9 : Fn), ∃ (xx10 : Array Value), ∃ (xc11 : Array Value), World.cell? w5 ((blk b1).add 1) = some (.func xf9 xx10 xc11) ∧ (
 ∃ (xf12 : Fn), ∃ (xx13 : Array Value), ∃ (xc14 : Array Value), World.cell? w5 ((blk b1).add 2) = some (.func xf12 xx13 xc14) ∧ (
 R (.returned (.agg #[.func xf6 xx7 xc8, .func xf9 xx10 xc11, .func xf12 xx13 xc14])) w5)))))))
set_option maxRecDepth 100000 in
theorem sh266_ok  {R : Ending → World → Prop} {w : World} : sh266  R w → Calls Tryz.prog 266 #[] w R :=
  calls_of_eq (ann := fun _ => []) (fn := Tryz.f266) (c := bodyOf Tryz.f266) (args := #[]) 400 follows_mixed Tryz.func266 (by kernel_rfl) (by kernel_rfl)
set_option maxRecDepth 100000 in
/-- (joinery/avljoin.side).hang -/
def sh267 (s_f1 : Fn) (s_x2 : Array Value) (s_c3 : Array Value) (s_f4 : Fn) (s_x5 : Array Value) (s_c6 : Array Value) (s_f7 : Fn) (s_x8 : Array Value) (s_c9 : Array Value) (t_10 : Option Addr) (pair_11 : Option Addr) (low_12 : Option Addr) (R : Ending → World → Prop) (w : World) : Prop :=
 doAl (.cells #[.func s_f1 s_x2 s_c3, .func s_f4 s_x5 s_c6, .func s_f7 s_x8 s_c9] 331) w (fun b13 w14 =>
 doDr w14 (fun w16 =>
 ∃ (C15 : World → Prop), C15 w16 ∧ (
 ∃ (xf17 : Fn), ∃ (xx18 : Array Value), ∃ (xc19 : Array Value), (∀ w, C15 w → World.cell? w ((blk b13).add 0) = some (.func xf17 xx18 xc19)) ∧ (
 ∃ (xf20 : Fn), ∃ (xx21 : Array Value), ∃ (xc22 : Array Value), (∀ w, C15 w → World.cell? w ((blk b13).add 1) = some (.func xf20 xx21 xc22)) ∧ (
 doCall Tryz.prog (.func xf17 xx18 xc19) #[.pointer t_10] w16 (retS (fun v24 w25 => ∃ (x23 : Option Addr), v24 = (.pointer x23 : Value) ∧ (
 C15 w25 ∧ (
 doCall Tryz.prog (.func xf20 xx21 xc22) #[.pointer t_10] w25 (retS (fun v27 w28 => ∃ (x26 : Option Addr), v27 = (.pointer x26 : Value) ∧ (
 C15 w28 ∧ (
 let K31 : Bool → World → Prop := fun (base_29 : Bool) (w30 : World) => 
 let K34 : (Option Addr) → World → Prop := fun (x_32 : Option Addr) (w33 : World) => 
 doCall Tryz.prog (.func (.func 221) #[] #[]) #[.pointer x_32] w33 (retS (fun v36 w37 => ∃ (x35 : Int), v36 = (.int .i64 x35 : Value) ∧ (
 doCall Tryz.prog (.func (.func 221) #[] #[]) #[.pointer x23] w37 (retS (fun v39 w40 => ∃ (x38 : Int), v39 = (.int .i64 x38 : Value) ∧ (
 ifB (decide ((x35 : Int) ≤ (IntKind.wrap .i64 (x38 + 1)))) (
 ∃ (xf41 : Fn), ∃ (xx42 : Array Value), ∃ (xc43 : Array Value), World.cell? w40 ((blk b13).add 2) = some (.func xf41 xx42 xc43) ∧ (
 doCall Tryz.prog (.func xf41 xx42 xc43) #[.pointer x23, .pointer t_10, .pointer x_32] w40 (retS (fun v45 w46 => ∃ (x44 : Option Addr), v45 = (.pointer x44 : Value) ∧ (
 R (.returned (.pointer x44)) w46)) (fun ch w => Kfn R ch [] w)))) (
 ifB base_29 (
 doDr w40 (fun w48 =>
 ∃ (C47 : World → Prop), C47 w48 ∧ (
 ∃ (xf49 : Fn), ∃ (xx50 : Array Value), ∃ (xc51 : Array Value), (∀ w, C47 w → World.cell? w ((blk b13).add 0) = some (.func xf49 xx50 xc51)) ∧ (
 ∃ (xf52 : Fn), ∃ (xx53 : Array Value), ∃ (xc54 : Array Value), (∀ w, C47 w → World.cell? w ((blk b13).add 1) = some (.func xf52 xx53 xc54)) ∧ (
 ∃ (xf55 : Fn), ∃ (xx56 : Array Value), ∃ (xc57 : Array Value), (∀ w, C47 w → World.cell? w ((blk b13).add 2) = some (.func xf55 xx56 xc57)) ∧ (
 ∃ (xf58 : Fn), ∃ (xx59 : Array Value), ∃ (xc60 : Array Value), (∀ w, C47 w → World.cell? w ((blk b13).add 2) = some (.func xf58 xx59 xc60)) ∧ (
 ∃ (xf61 : Fn), ∃ (xx62 : Array Value), ∃ (xc63 : Array Value), (∀ w, C47 w → World.cell? w ((blk b13).add 0) = some (.func xf61 xx62 xc63)) ∧ (
 ∃ (xf64 : Fn), ∃ (xx65 : Array Value), ∃ (xc66 : Array Value), (∀ w, C47 w → World.cell? w ((blk b13).add 1) = some (.func xf64 xx65 xc66)) ∧ (
 ∃ (xf67 : Fn), ∃ (xx68 : Array Value), ∃ (xc69 : Array Value), (∀ w, C47 w → World.cell? w ((blk b13).add 2) = some (.func xf67 xx68 xc69)) ∧ (
 doCall Tryz.prog (.func (.func 311) #[] #[]) #[.agg #[.func xf61 xx62 xc63, .func xf64 xx65 xc66, .func xf67 xx68 xc69], .pointer x_32] w48 (retS (fun v71 w72 => ∃ (x70 : Option Addr), v71 = (.pointer x70 : Value) ∧ (
 C47 w72 ∧ (
 doCall Tryz.prog (.func xf58 xx59 xc60) #[.pointer x23, .pointer t_10, .pointer x70] w72 (retS (fun v74 w75 => ∃ (x73 : Option Addr), v74 = (.pointer x73 : Value) ∧ (
 C47 w75 ∧ (
 doCall Tryz.prog (.func (.func 310) #[] #[]) #[.agg #[.func xf49 xx50 xc51, .func xf52 xx53 xc54, .func xf55 xx56 xc57], .pointer x73] w75 (retS (fun v77 w78 => ∃ (x76 : Option Addr), v77 = (.pointer x76 : Value) ∧ (
 C47 w78 ∧ (
 R (.returned (.pointer x76)) w78))) (fun ch w => Kfn R ch [] w))))) (fun ch w => Kfn R ch [] w))))) (fun ch w => Kfn R ch [] w)))))))))))) (
 doDr w40 (fun w80 =>
 ∃ (C79 : World → Prop), C79 w80 ∧ (
 ∃ (xf81 : Fn), ∃ (xx82 : Array Value), ∃ (xc83 : Array Value), (∀ w, C79 w → World.cell? w ((blk b13).add 0) = some (.func xf81 xx82 xc83)) ∧ (
 ∃ (xf84 : Fn), ∃ (xx85 : Array Value), ∃ (xc86 : Array Value), (∀ w, C79 w → World.cell? w ((blk b13).add 1) = some (.func xf84 xx85 xc86)) ∧ (
 ∃ (xf87 : Fn), ∃ (xx88 : Array Value), ∃ (xc89 : Array Value), (∀ w, C79 w → World.cell? w ((blk b13).add 2) = some (.func xf87 xx88 xc89)) ∧ (
 ∃ (xf90 : Fn), ∃ (xx91 : Array Value), ∃ (xc92 : Array Value), (∀ w, C79 w → World.cell? w ((blk b13).add 2) = some (.func xf90 xx91 xc92)) ∧ (
 doCall Tryz.prog (.func xf90 xx91 xc92) #[.pointer x23, .pointer t_10, .pointer x_32] w80 (retS (fun v94 w95 => ∃ (x93 : Option Addr), v94 = (.pointer x93 : Value) ∧ (
 C79 w95 ∧ (
 doCall Tryz.prog (.func (.func 310) #[] #[]) #[.agg #[.func xf81 xx82 xc83, .func xf84 xx85 xc86, .func xf87 xx88 xc89], .pointer x93] w95 (retS (fun v97 w98 => ∃ (x96 : Option Addr), v97 = (.pointer x96 : Value) ∧ (
 C79 w98 ∧ (
 R (.returned (.pointer x96)) w98))) (fun ch w => Kfn R ch [] w))))) (fun ch w => Kfn R ch [] w)))))))))))) (fun ch w => Kfn R ch [] w)))) (fun ch w => Kfn R ch [] w))
 ifB base_29 (
 ∃ (xf99 : Fn), ∃ (xx100 : Array Value), ∃ (xc101 : Array Value), World.cell? w30 ((blk b13).add 2) = some (.func xf99 xx100 xc101) ∧ (
 doCall Tryz.prog (.func xf99 xx100 xc101) #[.pointer x26, .pointer pair_11, .pointer low_12] w30 (retS (fun v103 w104 => ∃ (x102 : Option Addr), v103 = (.pointer x102 : Value) ∧ (
 K34 x102 w104)) (fun ch w => Kfn R ch [] w)))) (
 ∃ (xf105 : Fn), ∃ (xx106 : Array Value), ∃ (xc107 : Array Value), World.cell? w30 ((blk b13).add 0) = some (.func xf105 xx106 xc107) ∧ (
 ∃ (xf108 : Fn), ∃ (xx109 : Array Value), ∃ (xc110 : Array Value), World.cell? w30 ((blk b13).add 1) = some (.func xf108 xx109 xc110) ∧ (
 ∃ (xf111 : Fn), ∃ (xx112 : Array Value), ∃ (xc113 : Array Value), World.cell? w30 ((blk b13).add 2) = some (.func xf111 xx112 xc113) ∧ (
 doCall Tryz.prog (.func (.func 267) #[] #[]) #[.agg #[.func xf105 xx106 xc107, .func xf108 xx109 xc110, .func xf111 xx112 xc113], .pointer x26, .pointer pair_11, .pointer low_12] w30 (retS (fun v115 w116 => ∃ (x114 : Option Addr), v115 = (.pointer x114 : Value) ∧ (
 K34 x114 w116)) (fun ch w => Kfn R ch [] w))))))
 ifB ((x26).isNone) (
 K31 true w28) (
 doCall Tryz.prog (.func (.func 221) #[] #[]) #[.pointer x26] w28 (retS (fun v118 w119 => ∃ (x117 : Int), v118 = (.int .i64 x117 : Value) ∧ (
 doCall Tryz.prog (.func (.func 221) #[] #[]) #[.pointer low_12] w119 (retS (fun v121 w122 => ∃ (x120 : Int), v121 = (.int .i64 x120 : Value) ∧ (
 K31 (decide ((x117 : Int) ≤ (IntKind.wrap .i64 (x120 + 1)))) w122)) (fun ch w => Kfn R ch [] w)))) (fun ch w => Kfn R ch [] w)))))) (fun ch w => Kfn R ch [] w))))) (fun ch w => Kfn R ch [] w)))))))
set_option maxRecDepth 100000 in
theorem sh267_ok (s_f1 : Fn) (s_x2 : Array Value) (s_c3 : Array Value) (s_f4 : Fn) (s_x5 : Array Value) (s_c6 : Array Value) (s_f7 : Fn) (s_x8 : Array Value) (s_c9 : Array Value) (t_10 : Option Addr) (pair_11 : Option Addr) (low_12 : Option Addr) {R : Ending → World → Prop} {w : World} : sh267 s_f1 s_x2 s_c3 s_f4 s_x5 s_c6 s_f7 s_x8 s_c9 t_10 pair_11 low_12 R w → Calls Tryz.prog 267 #[.agg #[.func s_f1 s_x2 s_c3, .func s_f4 s_x5 s_c6, .func s_f7 s_x8 s_c9], .pointer t_10, .pointer pair_11, .pointer low_12] w R :=
  calls_of_eq (ann := fun _ => []) (fn := Tryz.f267) (c := bodyOf Tryz.f267) (args := #[.agg #[.func s_f1 s_x2 s_c3, .func s_f4 s_x5 s_c6, .func s_f7 s_x8 s_c9], .pointer t_10, .pointer pair_11, .pointer low_12]) 400 follows_mixed Tryz.func267 (by kernel_rfl) (by kernel_rfl)
end Go.Proofs.YtlddfgfmkapoiaaGreat

