/-
  Printed by a program (gen.py): what the functions of the program do, as formulas; each with the proof that its call is what the formula says.
-/
/-
  Printed by a program (gen.py): what the functions of the program do, as formulas; each with the proof that its call is what the formula says.
-/
/-
  Printed by a program (gen.py): what the functions of the program do, as formulas; each with the proof that its call is what the formula says.
-/
import Derived.Test.YtbaoihmffobneaaGreatPb
import Derived.Test.YtbaoihmffobneaaGreatProg
import Derived.Test.YtbaoihmffobneaaGreatPd

namespace Go.Proofs.YtbaoihmffobneaaGreat
open Go Go.Sh
set_option maxRecDepth 100000 in
/-- joinery/joineryref01.Flip -/
def sh170 (x_1 : Int) (R : Ending → World → Prop) (w : World) : Prop :=
 ∃ (I2 : List Value → World → Prop) (μ3 : List Value → World → Nat), I2 [.int .u64 x_1, .int .u64 0, .int .i64 0] w ∧ (∀ (x_6 : Int), ∀ (y_7 : Int), ∀ (i_8 : Int), ∀ (_j4 : Nat → Value) (w5 : World), I2 [.int .u64 x_6, .int .u64 y_7, .int .i64 i_8] w5 → (
 ifB (decide ((i_8 : Int) < 64)) (
 2 ≠ (0 : Int) ∧ (
 2 ≠ (0 : Int) ∧ (
 I2 [.int .u64 (IntKind.wrap .u64 (Int.tdiv x_6 2)), .int .u64 (IntKind.wrap .u64 ((IntKind.wrap .u64 (y_7 * 2)) + (Int.tmod x_6 2))), .int .i64 (IntKind.wrap .i64 (i_8 + 1))] w5 ∧ μ3 [.int .u64 (IntKind.wrap .u64 (Int.tdiv x_6 2)), .int .u64 (IntKind.wrap .u64 ((IntKind.wrap .u64 (y_7 * 2)) + (Int.tmod x_6 2))), .int .i64 (IntKind.wrap .i64 (i_8 + 1))] w5 < μ3 [.int .u64 x_6, .int .u64 y_7, .int .i64 i_8] w5))) (
 R (.returned (.int .u64 y_7)) w5)))
set_option maxRecDepth 100000 in
theorem sh170_ok (x_1 : Int) {R : Ending → World → Prop} {w : World} : sh170 x_1 R w → Calls Tryz.prog 170 #[.int .u64 x_1] w R :=
  calls_of_eq (ann := fun i => if i = 0 then [(0, .int .u64 0), (3, .int .u64 0), (4, .int .i64 0)] else []) (fn := Tryz.f170) (c := bodyOf Tryz.f170) (args := #[.int .u64 x_1]) 400 follows_mixed Tryz.func170 (by kernel_rfl) (by kernel_rfl)
set_option maxRecDepth 100000 in
/-- joinery/joineryref01.Turn -/
def sh171 (x_1 : Int) (n_2 : Int) (R : Ending → World → Prop) (w : World) : Prop :=
 64 ≠ (0 : Int) ∧ (
 64 ≠ (0 : Int) ∧ (
 ∃ (I3 : List Value → World → Prop) (μ4 : List Value → World → Nat), I3 [.int .u64 0, .int .i64 0] w ∧ (∀ (y_7 : Int), ∀ (i_8 : Int), ∀ (_j5 : Nat → Value) (w6 : World), I3 [.int .u64 y_7, .int .i64 i_8] w6 → (
 ifB (decide ((i_8 : Int) < 64)) (
 (0 : Int) ≤ (IntKind.wrap .u64 i_8) ∧ (
 2 ≠ (0 : Int) ∧ (
 64 ≠ (0 : Int) ∧ (
 (0 : Int) ≤ (IntKind.wrap .u64 (Int.tmod (IntKind.wrap .i64 (i_8 + (Int.tmod (IntKind.wrap .i64 ((Int.tmod n_2 64) + 64)) 64))) 64)) ∧ (
 I3 [.int .u64 (IntKind.wrap .u64 (y_7 + (IntKind.wrap .u64 ((Int.tmod (Int.fdiv x_1 (2 ^ (min ((IntKind.wrap .u64 i_8) : Int).toNat (IntKind.bits .u64)))) 2) * 2 ^ (min ((IntKind.wrap .u64 (Int.tmod (IntKind.wrap .i64 (i_8 + (Int.tmod (IntKind.wrap .i64 ((Int.tmod n_2 64) + 64)) 64))) 64)) : Int).toNat (IntKind.bits .u64)))))), .int .i64 (IntKind.wrap .i64 (i_8 + 1))] w6 ∧ μ4 [.int .u64 (IntKind.wrap .u64 (y_7 + (IntKind.wrap .u64 ((Int.tmod (Int.fdiv x_1 (2 ^ (min ((IntKind.wrap .u64 i_8) : Int).toNat (IntKind.bits .u64)))) 2) * 2 ^ (min ((IntKind.wrap .u64 (Int.tmod (IntKind.wrap .i64 (i_8 + (Int.tmod (IntKind.wrap .i64 ((Int.tmod n_2 64) + 64)) 64))) 64)) : Int).toNat (IntKind.bits .u64)))))), .int .i64 (IntKind.wrap .i64 (i_8 + 1))] w6 < μ4 [.int .u64 y_7, .int .i64 i_8] w6))))) (
 R (.returned (.int .u64 y_7)) w6)))))
set_option maxRecDepth 100000 in
theorem sh171_ok (x_1 : Int) (n_2 : Int) {R : Ending → World → Prop} {w : World} : sh171 x_1 n_2 R w → Calls Tryz.prog 171 #[.int .u64 x_1, .int .i64 n_2] w R :=
  calls_of_eq (ann := fun i => if i = 0 then [(5, .int .u64 0), (6, .int .i64 0)] else []) (fn := Tryz.f171) (c := bodyOf Tryz.f171) (args := #[.int .u64 x_1, .int .i64 n_2]) 400 follows_mixed Tryz.func171 (by kernel_rfl) (by kernel_rfl)
set_option maxRecDepth 100000 in
/-- joinery/joineryref01.Mix -/
def sh172 (x_1 : Int) (R : Ending → World → Prop) (w : World) : Prop :=
 1073741824 ≠ (0 : Int) ∧ (
 134217728 ≠ (0 : Int) ∧ (
 2147483648 ≠ (0 : Int) ∧ (
 R (.returned (.int .u64 (bXor .u64 (IntKind.wrap .u64 ((bXor .u64 (IntKind.wrap .u64 ((bXor .u64 x_1 (IntKind.wrap .u64 (Int.tdiv x_1 1073741824))) * 13787848793156543929)) (IntKind.wrap .u64 (Int.tdiv (IntKind.wrap .u64 ((bXor .u64 x_1 (IntKind.wrap .u64 (Int.tdiv x_1 1073741824))) * 13787848793156543929)) 134217728))) * 10723151780598845931)) (IntKind.wrap .u64 (Int.tdiv (IntKind.wrap .u64 ((bXor .u64 (IntKind.wrap .u64 ((bXor .u64 x_1 (IntKind.wrap .u64 (Int.tdiv x_1 1073741824))) * 13787848793156543929)) (IntKind.wrap .u64 (Int.tdiv (IntKind.wrap .u64 ((bXor .u64 x_1 (IntKind.wrap .u64 (Int.tdiv x_1 1073741824))) * 13787848793156543929)) 134217728))) * 10723151780598845931)) 2147483648))))) w)))
set_option maxRecDepth 100000 in
theorem sh172_ok (x_1 : Int) {R : Ending → World → Prop} {w : World} : sh172 x_1 R w → Calls Tryz.prog 172 #[.int .u64 x_1] w R :=
  calls_of_eq (ann := fun _ => []) (fn := Tryz.f172) (c := bodyOf Tryz.f172) (args := #[.int .u64 x_1]) 400 follows_mixed Tryz.func172 (by kernel_rfl) (by kernel_rfl)
set_option maxRecDepth 100000 in
/-- joinery/order.kinds -/
def sh173  (R : Ending → World → Prop) (w : World) : Prop :=
 doAl (.map #[] 0) w (fun b1 w2 =>
 doMu Tryz.prog 239 (.map (some b1)) (.int .u8 1) (.agg #[.string (⟨#[117, 112]⟩ : ByteArray), .func (.func 204) #[] #[], .func (.func 205) #[] #[]]) w2 (fun w3 =>
 doMu Tryz.prog 239 (.map (some b1)) (.int .u8 2) (.agg #[.string (⟨#[100, 111, 119, 110]⟩ : ByteArray), .func (.func 206) #[] #[], .func (.func 207) #[] #[]]) w3 (fun w4 =>
 doMu Tryz.prog 239 (.map (some b1)) (.int .u8 3) (.agg #[.string (⟨#[115, 105, 122, 101]⟩ : ByteArray), .func (.func 208) #[] #[], .func (.func 209) #[] #[]]) w4 (fun w5 =>
 doMu Tryz.prog 239 (.map (some b1)) (.int .u8 4) (.agg #[.string (⟨#[98, 105, 116, 115]⟩ : ByteArray), .func (.func 210) #[] #[], .func (.func 212) #[] #[]]) w5 (fun w6 =>
 doMu Tryz.prog 239 (.map (some b1)) (.int .u8 5) (.agg #[.string (⟨#[101, 118, 101, 110]⟩ : ByteArray), .func (.func 213) #[] #[], .func (.func 215) #[] #[]]) w6 (fun w7 =>
 doMu Tryz.prog 239 (.map (some b1)) (.int .u8 6) (.agg #[.string (⟨#[108, 111, 119]⟩ : ByteArray), .func (.func 216) #[] #[], .func (.func 217) #[] #[]]) w7 (fun w8 =>
 doMu Tryz.prog 239 (.map (some b1)) (.int .u8 7) (.agg #[.string (⟨#[109, 105, 120]⟩ : ByteArray), .func (.func 218) #[] #[], .func (.func 220) #[] #[]]) w8 (fun w9 =>
 R (.returned (.map (some b1))) w9))))))))
set_option maxRecDepth 100000 in
theorem sh173_ok  {R : Ending → World → Prop} {w : World} : sh173  R w → Calls Tryz.prog 173 #[] w R :=
  calls_of_eq (ann := fun _ => []) (fn := Tryz.f173) (c := bodyOf Tryz.f173) (args := #[]) 400 follows_mixed Tryz.func173 (by kernel_rfl) (by kernel_rfl)
set_option maxRecDepth 100000 in
/-- cmp.Compare[uint64] -/
def sh175 (x_1 : Int) (y_2 : Int) (R : Ending → World → Prop) (w : World) : Prop :=
 doCall Tryz.prog (.func (.func 224) #[] #[]) #[.int .u64 x_1] w (retS (fun v4 w5 => ∃ (x3 : Bool), v4 = (.bool x3 : Value) ∧ (
 doCall Tryz.prog (.func (.func 224) #[] #[]) #[.int .u64 y_2] w5 (retS (fun v7 w8 => ∃ (x6 : Bool), v7 = (.bool x6 : Value) ∧ (
 ifB x3 (
 ifB x6 (
 R (.returned (.int .i64 0)) w8) (
 R (.returned (.int .i64 (-1))) w8)) (
 ifB x6 (
 R (.returned (.int .i64 1)) w8) (
 ifB (decide ((x_1 : Int) < y_2)) (
 R (.returned (.int .i64 (-1))) w8) (
 ifB (decide ((x_1 : Int) > y_2)) (
 R (.returned (.int .i64 1)) w8) (
 R (.returned (.int .i64 0)) w8)))))) (fun ch w => Kfn R ch [] w)))) (fun ch w => Kfn R ch [] w))
set_option maxRecDepth 100000 in
theorem sh175_ok (x_1 : Int) (y_2 : Int) {R : Ending → World → Prop} {w : World} : sh175 x_1 y_2 R w → Calls Tryz.prog 175 #[.int .u64 x_1, .int .u64 y_2] w R :=
  calls_of_eq (ann := fun _ => []) (fn := Tryz.f175) (c := bodyOf Tryz.f175) (args := #[.int .u64 x_1, .int .u64 y_2]) 400 follows_mixed Tryz.func175 (by kernel_rfl) (by kernel_rfl)
set_option maxRecDepth 100000 in
/-- joinery/avl.Make -/
def sh181 (l_1 : Option Addr) (key_2 : Int) (val_3 : Int) (r_4 : Option Addr) (R : Ending → World → Prop) (w : World) : Prop :=
 doCall Tryz.prog (.func (.func 166) #[] #[]) #[.pointer l_1] w (retS (fun v6 w7 => ∃ (x5 : Int), v6 = (.int .u64 x5 : Value) ∧ (
 doCall Tryz.prog (.func (.func 166) #[] #[]) #[.pointer r_4] w7 (retS (fun v9 w10 => ∃ (x8 : Int), v9 = (.int .u64 x8 : Value) ∧ (
 doGo Tryz.prog (.builtin .max #[90, 90] 90 #[false, false]) #[.int .u64 x5, .int .u64 x8] w10 (retS (fun v12 w13 => ∃ (x11 : Int), v12 = (.int .u64 x11 : Value) ∧ (
 doCall Tryz.prog (.func (.func 60) #[] #[]) #[.pointer l_1, .int .i64 key_2, .int .i64 val_3, .int .u64 (IntKind.wrap .u64 (x11 + 1)), .pointer r_4] w13 (retS (fun v15 w16 => ∃ (x14 : Option Addr), v15 = (.pointer x14 : Value) ∧ (
 R (.returned (.pointer x14)) w16)) (fun ch w => Kfn R ch [] w)))) (fun ch w => Kfn R ch [] w)))) (fun ch w => Kfn R ch [] w)))) (fun ch w => Kfn R ch [] w))
set_option maxRecDepth 100000 in
theorem sh181_ok (l_1 : Option Addr) (key_2 : Int) (val_3 : Int) (r_4 : Option Addr) {R : Ending → World → Prop} {w : World} : sh181 l_1 key_2 val_3 r_4 R w → Calls Tryz.prog 181 #[.pointer l_1, .int .i64 key_2, .int .i64 val_3, .pointer r_4] w R :=
  calls_of_eq (ann := fun _ => []) (fn := Tryz.f181) (c := bodyOf Tryz.f181) (args := #[.pointer l_1, .int .i64 key_2, .int .i64 val_3, .pointer r_4]) 400 follows_mixed Tryz.func181 (by kernel_rfl) (by kernel_rfl)
set_option maxRecDepth 100000 in
/-- joinery/avljoin.right -/
def sh182  (R : Ending → World → Prop) (w : World) : Prop :=
 doAl (.cells #[.nilFunc, .nilFunc, .nilFunc] 251) w (fun b1 w2 =>
 doSt ((blk b1).add 0) (.func (.func 108) #[] #[]) w2 (fun w3 =>
 doSt ((blk b1).add 1) (.func (.func 109) #[] #[]) w3 (fun w4 =>
 doSt ((blk b1).add 2) (.func (.func 227) #[] #[]) w4 (fun w5 =>
 ∃ (xf6 : Fn), ∃ (xx7 : Array Value), ∃ (xc8 : Array Value), World.cell? w5 ((blk b1).add 0) = some (.func xf6 xx7 xc8) ∧ (
 ∃ (xf9 : Fn), ∃ (xx10 : Array Value), ∃ (xc11 : Array Value), World.cell? w5 ((blk b1).add 1) = some (.func xf9 xx10 xc11) ∧ (
 ∃ (xf12 : Fn), ∃ (xx13 : Array Value), ∃ (xc14 : Array Value), World.cell? w5 ((blk b1).add 2) = some (.func xf12 xx13 xc14) ∧ (
 R (.returned (.agg #[.func xf6 xx7 xc8, .func xf9 xx10 xc11, .func xf12 xx13 xc14])) w5)))))))
set_option maxRecDepth 100000 in
theorem sh182_ok  {R : Ending → World → Prop} {w : World} : sh182  R w → Calls Tryz.prog 182 #[] w R :=
  calls_of_eq (ann := fun _ => []) (fn := Tryz.f182) (c := bodyOf Tryz.f182) (args := #[]) 400 follows_mixed Tryz.func182 (by kernel_rfl) (by kernel_rfl)
set_option maxRecDepth 100000 in
/-- (joinery/avljoin.side).hang -/
def sh183 (s_f1 : Fn) (s_x2 : Array Value) (s_c3 : Array Value) (s_f4 : Fn) (s_x5 : Array Value) (s_c6 : Array Value) (s_f7 : Fn) (s_x8 : Array Value) (s_c9 : Array Value) (t_10 : Option Addr) (pair_11 : Option Addr) (low_12 : Option Addr) (R : Ending → World → Prop) (w : World) : Prop :=
 doAl (.cells #[.func s_f1 s_x2 s_c3, .func s_f4 s_x5 s_c6, .func s_f7 s_x8 s_c9] 251) w (fun b13 w14 =>
 doDr w14 (fun w16 =>
 ∃ (C15 : World → Prop), C15 w16 ∧ (
 ∃ (xf17 : Fn), ∃ (xx18 : Array Value), ∃ (xc19 : Array Value), (∀ w, C15 w → World.cell? w ((blk b13).add 0) = some (.func xf17 xx18 xc19)) ∧ (
 ∃ (xf20 : Fn), ∃ (xx21 : Array Value), ∃ (xc22 : Array Value), (∀ w, C15 w → World.cell? w ((blk b13).add 1) = some (.func xf20 xx21 xc22)) ∧ (
 doCall Tryz.prog (.func xf17 xx18 xc19) #[.pointer t_10] w16 (retS (fun v24 w25 => ∃ (x23 : Option Addr), v24 = (.pointer x23 : Value) ∧ (
 C15 w25 ∧ (
 doCall Tryz.prog (.func xf20 xx21 xc22) #[.pointer t_10] w25 (retS (fun v27 w28 => ∃ (x26 : Option Addr), v27 = (.pointer x26 : Value) ∧ (
 C15 w28 ∧ (
 let K31 : Bool → World → Prop := fun (base_29 : Bool) (w30 : World) => 
 let K34 : (Option Addr) → World → Prop := fun (x_32 : Option Addr) (w33 : World) => 
 doCall Tryz.prog (.func (.func 141) #[] #[]) #[.pointer x_32] w33 (retS (fun v36 w37 => ∃ (x35 : Int), v36 = (.int .i64 x35 : Value) ∧ (
 doCall Tryz.prog (.func (.func 141) #[] #[]) #[.pointer x23] w37 (retS (fun v39 w40 => ∃ (x38 : Int), v39 = (.int .i64 x38 : Value) ∧ (
 ifB (decide ((x35 : Int) ≤ (IntKind.wrap .i64 (x38 + 1)))) (
 ∃ (xf41 : Fn), ∃ (xx42 : Array Value), ∃ (xc43 : Array Value), World.cell? w40 ((blk b13).add 2) = some (.func xf41 xx42 xc43) ∧ (
 doCall Tryz.prog (.func xf41 xx42 xc43) #[.pointer x23, .pointer t_10, .pointer x_32] w40 (retS (fun v45 w46 => ∃ (x44 : Option Addr), v45 = (.pointer x44 : Value) ∧ (
 R (.returned (.pointer x44)) w46)) (fun ch w => Kfn R ch [] w)))) (
 ifB base_29 (
 doDr w40 (fun w48 =>
 ∃ (C47 : World → Prop), C47 w48 ∧ (
 ∃ (xf49 : Fn), ∃ (xx50 : Array Value), ∃ (xc51 : Array Value), (∀ w, C47 w → World.cell? w ((blk b13).add 0) = some (.func xf49 xx50 xc51)) ∧ (
 ∃ (xf52 : Fn), ∃ (xx53 : Array Value), ∃ (xc54 : Array Value), (∀ w, C47 w → World.cell? w ((blk b13).add 1) = some (.func xf52 xx53 xc54)) ∧ (
 ∃ (xf55 : Fn), ∃ (xx56 : Array Value), ∃ (xc57 : Array Value), (∀ w, C47 w → World.cell? w ((blk b13).add 2) = some (.func xf55 xx56 xc57)) ∧ (
 ∃ (xf58 : Fn), ∃ (xx59 : Array Value), ∃ (xc60 : Array Value), (∀ w, C47 w → World.cell? w ((blk b13).add 2) = some (.func xf58 xx59 xc60)) ∧ (
 ∃ (xf61 : Fn), ∃ (xx62 : Array Value), ∃ (xc63 : Array Value), (∀ w, C47 w → World.cell? w ((blk b13).add 0) = some (.func xf61 xx62 xc63)) ∧ (
 ∃ (xf64 : Fn), ∃ (xx65 : Array Value), ∃ (xc66 : Array Value), (∀ w, C47 w → World.cell? w ((blk b13).add 1) = some (.func xf64 xx65 xc66)) ∧ (
 ∃ (xf67 : Fn), ∃ (xx68 : Array Value), ∃ (xc69 : Array Value), (∀ w, C47 w → World.cell? w ((blk b13).add 2) = some (.func xf67 xx68 xc69)) ∧ (
 doCall Tryz.prog (.func (.func 229) #[] #[]) #[.agg #[.func xf61 xx62 xc63, .func xf64 xx65 xc66, .func xf67 xx68 xc69], .pointer x_32] w48 (retS (fun v71 w72 => ∃ (x70 : Option Addr), v71 = (.pointer x70 : Value) ∧ (
 C47 w72 ∧ (
 doCall Tryz.prog (.func xf58 xx59 xc60) #[.pointer x23, .pointer t_10, .pointer x70] w72 (retS (fun v74 w75 => ∃ (x73 : Option Addr), v74 = (.pointer x73 : Value) ∧ (
 C47 w75 ∧ (
 doCall Tryz.prog (.func (.func 228) #[] #[]) #[.agg #[.func xf49 xx50 xc51, .func xf52 xx53 xc54, .func xf55 xx56 xc57], .pointer x73] w75 (retS (fun v77 w78 => ∃ (x76 : Option Addr), v77 = (.pointer x76 : Value) ∧ (
 C47 w78 ∧ (
 R (.returned (.pointer x76)) w78))) (fun ch w => Kfn R ch [] w))))) (fun ch w => Kfn R ch [] w))))) (fun ch w => Kfn R ch [] w)))))))))))) (
 doDr w40 (fun w80 =>
 ∃ (C79 : World → Prop), C79 w80 ∧ (
 ∃ (xf81 : Fn), ∃ (xx82 : Array Value), ∃ (xc83 : Array Value), (∀ w, C79 w → World.cell? w ((blk b13).add 0) = some (.func xf81 xx82 xc83)) ∧ (
 ∃ (xf84 : Fn), ∃ (xx85 : Array Value), ∃ (xc86 : Array Value), (∀ w, C79 w → World.cell? w ((blk b13).add 1) = some (.func xf84 xx85 xc86)) ∧ (
 ∃ (xf87 : Fn), ∃ (xx88 : Array Value), ∃ (xc89 : Array Value), (∀ w, C79 w → World.cell? w ((blk b13).add 2) = some (.func xf87 xx88 xc89)) ∧ (
 ∃ (xf90 : Fn), ∃ (xx91 : Array Value), ∃ (xc92 : Array Value), (∀ w, C79 w → World.cell? w ((blk b13).add 2) = some (.func xf90 xx91 xc92)) ∧ (
 doCall Tryz.prog (.func xf90 xx91 xc92) #[.pointer x23, .pointer t_10, .pointer x_32] w80 (retS (fun v94 w95 => ∃ (x93 : Option Addr), v94 = (.pointer x93 : Value) ∧ (
 C79 w95 ∧ (
 doCall Tryz.prog (.func (.func 228) #[] #[]) #[.agg #[.func xf81 xx82 xc83, .func xf84 xx85 xc86, .func xf87 xx88 xc89], .pointer x93] w95 (retS (fun v97 w98 => ∃ (x96 : Option Addr), v97 = (.pointer x96 : Value) ∧ (
 C79 w98 ∧ (
 R (.returned (.pointer x96)) w98))) (fun ch w => Kfn R ch [] w))))) (fun ch w => Kfn R ch [] w)))))))))))) (fun ch w => Kfn R ch [] w)))) (fun ch w => Kfn R ch [] w))
 ifB base_29 (
 ∃ (xf99 : Fn), ∃ (xx100 : Array Value), ∃ (xc101 : Array Value), World.cell? w30 ((blk b13).add 2) = some (.func xf99 xx100 xc101) ∧ (
 doCall Tryz.prog (.func xf99 xx100 xc101) #[.pointer x26, .pointer pair_11, .pointer low_12] w30 (retS (fun v103 w104 => ∃ (x102 : Option Addr), v103 = (.pointer x102 : Value) ∧ (
 K34 x102 w104)) (fun ch w => Kfn R ch [] w)))) (
 ∃ (xf105 : Fn), ∃ (xx106 : Array Value), ∃ (xc107 : Array Value), World.cell? w30 ((blk b13).add 0) = some (.func xf105 xx106 xc107) ∧ (
 ∃ (xf108 : Fn), ∃ (xx109 : Array Value), ∃ (xc110 : Array Value), World.cell? w30 ((blk b13).add 1) = some (.func xf108 xx109 xc110) ∧ (
 ∃ (xf111 : Fn), ∃ (xx112 : Array Value), ∃ (xc113 : Array Value), World.cell? w30 ((blk b13).add 2) = some (.func xf111 xx112 xc113) ∧ (
 doCall Tryz.prog (.func (.func 183) #[] #[]) #[.agg #[.func xf105 xx106 xc107, .func xf108 xx109 xc110, .func xf111 xx112 xc113], .pointer x26, .pointer pair_11, .pointer low_12] w30 (retS (fun v115 w116 => ∃ (x114 : Option Addr), v115 = (.pointer x114 : Value) ∧ (
 K34 x114 w116)) (fun ch w => Kfn R ch [] w))))))
 ifB ((x26).isNone) (
 K31 true w28) (
 doCall Tryz.prog (.func (.func 141) #[] #[]) #[.pointer x26] w28 (retS (fun v118 w119 => ∃ (x117 : Int), v118 = (.int .i64 x117 : Value) ∧ (
 doCall Tryz.prog (.func (.func 141) #[] #[]) #[.pointer low_12] w119 (retS (fun v121 w122 => ∃ (x120 : Int), v121 = (.int .i64 x120 : Value) ∧ (
 K31 (decide ((x117 : Int) ≤ (IntKind.wrap .i64 (x120 + 1)))) w122)) (fun ch w => Kfn R ch [] w)))) (fun ch w => Kfn R ch [] w)))))) (fun ch w => Kfn R ch [] w))))) (fun ch w => Kfn R ch [] w)))))))
set_option maxRecDepth 100000 in
theorem sh183_ok (s_f1 : Fn) (s_x2 : Array Value) (s_c3 : Array Value) (s_f4 : Fn) (s_x5 : Array Value) (s_c6 : Array Value) (s_f7 : Fn) (s_x8 : Array Value) (s_c9 : Array Value) (t_10 : Option Addr) (pair_11 : Option Addr) (low_12 : Option Addr) {R : Ending → World → Prop} {w : World} : sh183 s_f1 s_x2 s_c3 s_f4 s_x5 s_c6 s_f7 s_x8 s_c9 t_10 pair_11 low_12 R w → Calls Tryz.prog 183 #[.agg #[.func s_f1 s_x2 s_c3, .func s_f4 s_x5 s_c6, .func s_f7 s_x8 s_c9], .pointer t_10, .pointer pair_11, .pointer low_12] w R :=
  calls_of_eq (ann := fun _ => []) (fn := Tryz.f183) (c := bodyOf Tryz.f183) (args := #[.agg #[.func s_f1 s_x2 s_c3, .func s_f4 s_x5 s_c6, .func s_f7 s_x8 s_c9], .pointer t_10, .pointer pair_11, .pointer low_12]) 400 follows_mixed Tryz.func183 (by kernel_rfl) (by kernel_rfl)
set_option maxRecDepth 100000 in
/-- joinery/avljoin.left -/
def sh184  (R : Ending → World → Prop) (w : World) : Prop :=
 doAl (.cells #[.nilFunc, .nilFunc, .nilFunc] 251) w (fun b1 w2 =>
 doSt ((blk b1).add 0) (.func (.func 109) #[] #[]) w2 (fun w3 =>
 doSt ((blk b1).add 1) (.func (.func 108) #[] #[]) w3 (fun w4 =>
 doSt ((blk b1).add 2) (.func (.func 230) #[] #[]) w4 (fun w5 =>
 ∃ (xf6 : Fn), ∃ (xx7 : Array Value), ∃ (xc8 : Array Value), World.cell? w5 ((blk b1).add 0) = some (.func xf6 xx7 xc8) ∧ (
 ∃ (xf9 : Fn), ∃ (xx10 : Array Value), ∃ (xc11 : Array Value), World.cell? w5 ((blk b1).add 1) = some (.func xf9 xx10 xc11) ∧ (
 ∃ (xf12 : Fn), ∃ (xx13 : Array Value), ∃ (xc14 : Array Value), World.cell? w5 ((blk b1).add 2) = some (.func xf12 xx13 xc14) ∧ (
 R (.returned (.agg #[.func xf6 xx7 xc8, .func xf9 xx10 xc11, .func xf12 xx13 xc14])) w5)))))))
set_option maxRecDepth 100000 in
theorem sh184_ok  {R : Ending → World → Prop} {w : World} : sh184  R w → Calls Tryz.prog 184 #[] w R :=
  calls_of_eq (ann := fun _ => []) (fn := Tryz.f184) (c := bodyOf Tryz.f184) (args := #[]) 400 follows_mixed Tryz.func184 (by kernel_rfl) (by kernel_rfl)
set_option maxRecDepth 100000 in
/-- joinery/avl.looks -/
def sh185  (R : Ending → World → Prop) (w : World) : Prop :=
 doAl (.cells #[.nilFunc] 273) w (fun b1 w2 =>
 doSt ((blk b1).add 0) (.func (.func 231) #[] #[]) w2 (fun w3 =>
 doAl (.cells #[.func (.func 232) #[] #[.pointer (some (blk b1))], .int .i64 140, .func (.func 233) #[] #[.pointer (some (blk b1))], .int .i64 8] 256) w3 (fun b4 w5 =>
 R (.returned (.slice (some (blk b4)) 2 2)) w5)))
set_option maxRecDepth 100000 in
theorem sh185_ok  {R : Ending → World → Prop} {w : World} : sh185  R w → Calls Tryz.prog 185 #[] w R :=
  calls_of_eq (ann := fun _ => []) (fn := Tryz.f185) (c := bodyOf Tryz.f185) (args := #[]) 400 follows_mixed Tryz.func185 (by kernel_rfl) (by kernel_rfl)
set_option maxRecDepth 100000 in
/-- joinery/avl.beads -/
def sh186 (t_1 : Option Addr) (R : Ending → World → Prop) (w : World) : Prop :=
 doAl (.cells #[.pointer t_1] 30) w (fun b2 w3 =>
 R (.returned (.func (.func 234) #[] #[.pointer (some (blk b2))])) w3)
set_option maxRecDepth 100000 in
theorem sh186_ok (t_1 : Option Addr) {R : Ending → World → Prop} {w : World} : sh186 t_1 R w → Calls Tryz.prog 186 #[.pointer t_1] w R :=
  calls_of_eq (ann := fun _ => []) (fn := Tryz.f186) (c := bodyOf Tryz.f186) (args := #[.pointer t_1]) 400 follows_mixed Tryz.func186 (by kernel_rfl) (by kernel_rfl)
set_option maxRecDepth 100000 in
/-- joinery/rb.Make -/
def sh187 (l_1 : Option Addr) (key_2 : Int) (val_3 : Int) (is_4 : Bool) (r_5 : Option Addr) (R : Ending → World → Prop) (w : World) : Prop :=
 doCall Tryz.prog (.func (.func 237) #[] #[]) #[.pointer l_1] w (retS (fun v8 w9 => ∃ (x6 : Int), ∃ (x7 : Int), v8 = (.agg #[.int .u64 x6, .int .u64 x7] : Value) ∧ (
 doCall Tryz.prog (.func (.func 236) #[] #[]) #[.int .u64 x7, .bool is_4] w9 (retS (fun v12 w13 => ∃ (x10 : Int), ∃ (x11 : Int), v12 = (.agg #[.int .u64 x10, .int .u64 x11] : Value) ∧ (
 doCall Tryz.prog (.func (.func 238) #[] #[]) #[.agg #[.int .u64 x10, .int .u64 x11]] w13 (retS (fun v15 w16 => ∃ (x14 : Int), v15 = (.int .u64 x14 : Value) ∧ (
 doCall Tryz.prog (.func (.func 60) #[] #[]) #[.pointer l_1, .int .i64 key_2, .int .i64 val_3, .int .u64 x14, .pointer r_5] w16 (retS (fun v18 w19 => ∃ (x17 : Option Addr), v18 = (.pointer x17 : Value) ∧ (
 R (.returned (.pointer x17)) w19)) (fun ch w => Kfn R ch [] w)))) (fun ch w => Kfn R ch [] w)))) (fun ch w => Kfn R ch [] w)))) (fun ch w => Kfn R ch [] w))
set_option maxRecDepth 100000 in
theorem sh187_ok (l_1 : Option Addr) (key_2 : Int) (val_3 : Int) (is_4 : Bool) (r_5 : Option Addr) {R : Ending → World → Prop} {w : World} : sh187 l_1 key_2 val_3 is_4 r_5 R w → Calls Tryz.prog 187 #[.pointer l_1, .int .i64 key_2, .int .i64 val_3, .bool is_4, .pointer r_5] w R :=
  calls_of_eq (ann := fun _ => []) (fn := Tryz.f187) (c := bodyOf Tryz.f187) (args := #[.pointer l_1, .int .i64 key_2, .int .i64 val_3, .bool is_4, .pointer r_5]) 400 follows_mixed Tryz.func187 (by kernel_rfl) (by kernel_rfl)
set_option maxRecDepth 100000 in
/-- joinery/rb.High -/
def sh188 (t_1 : Option Addr) (R : Ending → World → Prop) (w : World) : Prop :=
 doCall Tryz.prog (.func (.func 237) #[] #[]) #[.pointer t_1] w (retS (fun v4 w5 => ∃ (x2 : Int), ∃ (x3 : Int), v4 = (.agg #[.int .u64 x2, .int .u64 x3] : Value) ∧ (
 R (.returned (.int .i64 (IntKind.wrap .i64 x3))) w5)) (fun ch w => Kfn R ch [] w))
set_option maxRecDepth 100000 in
theorem sh188_ok (t_1 : Option Addr) {R : Ending → World → Prop} {w : World} : sh188 t_1 R w → Calls Tryz.prog 188 #[.pointer t_1] w R :=
  calls_of_eq (ann := fun _ => []) (fn := Tryz.f188) (c := bodyOf Tryz.f188) (args := #[.pointer t_1]) 400 follows_mixed Tryz.func188 (by kernel_rfl) (by kernel_rfl)
set_option maxRecDepth 100000 in
/-- joinery/rbjoin.hang -/
def sh189 (s_1 : Value) (t_2 : Option Addr) (pair_3 : Option Addr) (low_4 : Option Addr) (R : Ending → World → Prop) (w : World) : Prop :=
 let K6 : World → Prop := fun (w5 : World) => 
 doGo Tryz.prog (.fn (.method "joinery/rbjoin.out") #[]) #[s_1, .pointer t_2] w5 (retS (fun v8 w9 => ∃ (x7 : Option Addr), v8 = (.pointer x7 : Value) ∧ (
 doCall Tryz.prog (.func (.func 189) #[] #[]) #[s_1, .pointer x7, .pointer pair_3, .pointer low_4] w9 (retS (fun v11 w12 => ∃ (x10 : Option Addr), v11 = (.pointer x10 : Value) ∧ (
 let K14 : World → Prop := fun (w13 : World) => 
 doDr w13 (fun w15 =>
 doNC Tryz.prog (.func (.method "joinery/rbjoin.make") #[s_1] #[]) (
 doGo Tryz.prog (.fn (.method "joinery/rbjoin.in") #[]) #[s_1, .pointer t_2] w15 (retS (fun v17 w18 => ∃ (x16 : Option Addr), v17 = (.pointer x16 : Value) ∧ (
 doCall Tryz.prog (.func (.func 191) #[] #[]) #[.pointer t_2] w18 (retS (fun v20 w21 => ∃ (x19 : Bool), v20 = (.bool x19 : Value) ∧ (
 doGo Tryz.prog (.fn (.method "joinery/rbjoin.make") #[]) #[s_1, .pointer x16, .pointer t_2, .bool x19, .pointer x10] w21 (retS (fun v23 w24 => ∃ (x22 : Option Addr), v23 = (.pointer x22 : Value) ∧ (
 R (.returned (.pointer x22)) w24)) (fun ch w => Kfn R ch [] w)))) (fun ch w => Kfn R ch [] w)))) (fun ch w => Kfn R ch [] w))))
 let K27 : Bool → World → Prop := fun (x25 : Bool) (w26 : World) => 
 ifB x25 (
 doDr w26 (fun w28 =>
 doNC Tryz.prog (.func (.method "joinery/rbjoin.make") #[s_1] #[]) (
 doNC Tryz.prog (.func (.method "joinery/rbjoin.make") #[s_1] #[]) (
 doGo Tryz.prog (.fn (.method "joinery/rbjoin.in") #[]) #[s_1, .pointer t_2] w28 (retS (fun v30 w31 => ∃ (x29 : Option Addr), v30 = (.pointer x29 : Value) ∧ (
 doGo Tryz.prog (.fn (.method "joinery/rbjoin.in") #[]) #[s_1, .pointer x10] w31 (retS (fun v33 w34 => ∃ (x32 : Option Addr), v33 = (.pointer x32 : Value) ∧ (
 doGo Tryz.prog (.fn (.method "joinery/rbjoin.make") #[]) #[s_1, .pointer x29, .pointer t_2, .bool false, .pointer x32] w34 (retS (fun v36 w37 => ∃ (x35 : Option Addr), v36 = (.pointer x35 : Value) ∧ (
 doGo Tryz.prog (.fn (.method "joinery/rbjoin.out") #[]) #[s_1, .pointer x10] w37 (retS (fun v39 w40 => ∃ (x38 : Option Addr), v39 = (.pointer x38 : Value) ∧ (
 doCall Tryz.prog (.func (.func 149) #[] #[]) #[.pointer x38] w40 (retS (fun v42 w43 => ∃ (x41 : Option Addr), v42 = (.pointer x41 : Value) ∧ (
 doGo Tryz.prog (.fn (.method "joinery/rbjoin.make") #[]) #[s_1, .pointer x35, .pointer x10, .bool true, .pointer x41] w43 (retS (fun v45 w46 => ∃ (x44 : Option Addr), v45 = (.pointer x44 : Value) ∧ (
 R (.returned (.pointer x44)) w46)) (fun ch w => Kfn R ch [] w)))) (fun ch w => Kfn R ch [] w)))) (fun ch w => Kfn R ch [] w)))) (fun ch w => Kfn R ch [] w)))) (fun ch w => Kfn R ch [] w)))) (fun ch w => Kfn R ch [] w)))))) (
 K14 w26)
 doCall Tryz.prog (.func (.func 191) #[] #[]) #[.pointer t_2] w12 (retS (fun v48 w49 => ∃ (x47 : Bool), v48 = (.bool x47 : Value) ∧ (
 ifB (!x47) (
 doCall Tryz.prog (.func (.func 191) #[] #[]) #[.pointer x10] w49 (retS (fun v51 w52 => ∃ (x50 : Bool), v51 = (.bool x50 : Value) ∧ (
 ifB x50 (
 doGo Tryz.prog (.fn (.method "joinery/rbjoin.out") #[]) #[s_1, .pointer x10] w52 (retS (fun v54 w55 => ∃ (x53 : Option Addr), v54 = (.pointer x53 : Value) ∧ (
 doCall Tryz.prog (.func (.func 191) #[] #[]) #[.pointer x53] w55 (retS (fun v57 w58 => ∃ (x56 : Bool), v57 = (.bool x56 : Value) ∧ (
 K27 x56 w58)) (fun ch w => Kfn R ch [] w)))) (fun ch w => Kfn R ch [] w))) (
 K14 w52))) (fun ch w => Kfn R ch [] w))) (
 K14 w49))) (fun ch w => Kfn R ch [] w)))) (fun ch w => Kfn R ch [] w)))) (fun ch w => Kfn R ch [] w))
 let K61 : Bool → World → Prop := fun (x59 : Bool) (w60 : World) => 
 ifB x59 (
 doGo Tryz.prog (.fn (.method "joinery/rbjoin.make") #[]) #[s_1, .pointer t_2, .pointer pair_3, .bool true, .pointer low_4] w60 (retS (fun v63 w64 => ∃ (x62 : Option Addr), v63 = (.pointer x62 : Value) ∧ (
 R (.returned (.pointer x62)) w64)) (fun ch w => Kfn R ch [] w))) (
 K6 w60)
 ifB ((t_2).isNone) (
 doGo Tryz.prog (.fn (.method "joinery/rbjoin.make") #[]) #[s_1, .pointer t_2, .pointer pair_3, .bool true, .pointer low_4] w (retS (fun v66 w67 => ∃ (x65 : Option Addr), v66 = (.pointer x65 : Value) ∧ (
 R (.returned (.pointer x65)) w67)) (fun ch w => Kfn R ch [] w))) (
 doCall Tryz.prog (.func (.func 191) #[] #[]) #[.pointer t_2] w (retS (fun v69 w70 => ∃ (x68 : Bool), v69 = (.bool x68 : Value) ∧ (
 ifB (!x68) (
 doCall Tryz.prog (.func (.func 188) #[] #[]) #[.pointer t_2] w70 (retS (fun v72 w73 => ∃ (x71 : Int), v72 = (.int .i64 x71 : Value) ∧ (
 doCall Tryz.prog (.func (.func 188) #[] #[]) #[.pointer low_4] w73 (retS (fun v75 w76 => ∃ (x74 : Int), v75 = (.int .i64 x74 : Value) ∧ (
 K61 (decide ((x71 : Int) ≤ x74)) w76)) (fun ch w => Kfn R ch [] w)))) (fun ch w => Kfn R ch [] w))) (
 K6 w70))) (fun ch w => Kfn R ch [] w)))
set_option maxRecDepth 100000 in
theorem sh189_ok (s_1 : Value) (t_2 : Option Addr) (pair_3 : Option Addr) (low_4 : Option Addr) {R : Ending → World → Prop} {w : World} : sh189 s_1 t_2 pair_3 low_4 R w → Calls Tryz.prog 189 #[s_1, .pointer t_2, .pointer pair_3, .pointer low_4] w R :=
  calls_of_eq (ann := fun _ => []) (fn := Tryz.f189) (c := bodyOf Tryz.f189) (args := #[s_1, .pointer t_2, .pointer pair_3, .pointer low_4]) 400 follows_mixed Tryz.func189 (by kernel_rfl) (by kernel_rfl)
set_option maxRecDepth 100000 in
/-- joinery/rb.first -/
def sh190 (t_1 : Option Addr) (R : Ending → World → Prop) (w : World) : Prop :=
 doAl (.cells #[.int .i64 0] 3) w (fun b2 w3 =>
 doAl (.cells #[.int .i64 0] 34) w3 (fun b4 w5 =>
 doCall Tryz.prog (.func (.func 239) #[] #[]) #[.pointer t_1] w5 (retS (fun v9 w10 => ∃ (xf6 : Fn), ∃ (xx7 : Array Value), ∃ (xc8 : Array Value), v9 = (.func xf6 xx7 xc8 : Value) ∧ (
 rfW Tryz.prog (.func xf6 xx7 xc8) (mkLoop #[.pointer t_1, undef, .pointer (some (blk b2)), .pointer (some (blk b4)), undef, .pointer t_1, .func xf6 xx7 xc8, undef, undef, undef, undef, undef, undef, undef, undef] (rfOf Tryz.f190 0).1 (rfOf Tryz.f190 0).2.1 (rfOf Tryz.f190 0).2.2)
 (fun w11 =>
 ∃ (x12 : Int), World.cell? w11 (blk b2) = some (.int .i64 x12) ∧ (
 doSt ((blk b2).add 0) (.int .i64 x12) w11 (fun w13 =>
 doSt ((blk b4).add 0) (.int .i64 0) w13 (fun w14 =>
 w14.heap[w10.heap.size]? = some (.deferred (some [])) ∧ (
 let w15 : World := w14.putObj w10.heap.size (.deferred none)
 ∃ (x16 : Int), World.cell? w15 (blk b2) = some (.int .i64 x16) ∧ (
 ∃ (x17 : Int), World.cell? w15 (blk b4) = some (.int .i64 x17) ∧ (
 R (.returned (.tuple #[.int .i64 x16, .int .i64 x17])) w15)))))))
 (fun w18 =>
 w18.heap[w10.heap.size]? = some (.deferred (some [])) ∧ (
 let w19 : World := w18.putObj w10.heap.size (.deferred none)
 ∃ (x20 : Int), World.cell? w19 (blk b2) = some (.int .i64 x20) ∧ (
 ∃ (x21 : Int), World.cell? w19 (blk b4) = some (.int .i64 x21) ∧ (
 R (.returned (.tuple #[.int .i64 x20, .int .i64 x21])) w19))))
 [] w10)) (fun ch w => Kfn R ch [] w))))
set_option maxRecDepth 100000 in
theorem sh190_ok (t_1 : Option Addr) {R : Ending → World → Prop} {w : World} : sh190 t_1 R w → Calls Tryz.prog 190 #[.pointer t_1] w R :=
  calls_of_eq (ann := fun _ => []) (fn := Tryz.f190) (c := bodyOf Tryz.f190) (args := #[.pointer t_1]) 400 follows_mixed Tryz.func190 (by kernel_rfl) (by kernel_rfl)
set_option maxRecDepth 100000 in
/-- joinery/rb.first, a round of loop 0 -/
def sh190_0 (at_1 : Addr) (e_2 : Addr) (y16 : Int) (l : Nat) (R : Ending → World → Prop) (w : World) : Prop :=
 ∃ (r17 : Loop), w.heap[l]? = some (.loop r17) ∧ r17.state = .ready ∧ (
 let w18 : World := w.putObj l (.loop { r17 with state := .busy })
 ifB ((y16 : Int) != 0) (
 ∃ (x19 : Int), World.cell? w18 at_1 = some (.int .i64 x19) ∧ (
 doSt (at_1.add 0) (.int .i64 x19) w18 (fun w20 =>
 doSt (e_2.add 0) (.int .i64 y16) w20 (fun w21 =>
 ∃ (r22 : Loop), w21.heap[l]? = some (.loop r22) ∧ R (.returned (.bool false)) (w21.putObj l (.loop { r22 with state := .done, pending := some .ret })))))) (
 ∃ (x23 : Int), World.cell? w18 at_1 = some (.int .i64 x23) ∧ (
 doSt (at_1.add 0) (.int .i64 (IntKind.wrap .i64 (x23 + 1))) w18 (fun w24 =>
 ∃ (r25 : Loop), w24.heap[l]? = some (.loop r25) ∧ R (.returned (.bool true)) (w24.putObj l (.loop { r25 with state := .ready, pending := none }))))))
set_option maxRecDepth 100000 in
theorem sh190_0_ok {dd3 : Value} {dd4 : Value} {dd5 : Value} {dd6 : Value} {dd7 : Value} {dd8 : Value} {dd9 : Value} {dd10 : Value} {dd11 : Value} {dd12 : Value} {dd13 : Value} {dd14 : Value} {dd15 : Value} {at_1 : Addr} {e_2 : Addr} {y16 : Int} {l fn D : Nat} {R : Ending → World → Prop} {w : World} (hl : w.heap[l]? = some (.loop (mkLoop #[dd3, dd4, .pointer (some at_1), .pointer (some e_2), dd5, dd6, dd7, dd8, dd9, dd10, dd11, dd12, dd13, dd14, dd15] (rfOf Tryz.f190 0).1 (rfOf Tryz.f190 0).2.1 (rfOf Tryz.f190 0).2.2 fn D))) : sh190_0 at_1 e_2 y16 l R w → doCall Tryz.prog (.func (.yield l) #[] #[]) #[.int .i64 y16] w R :=
  fun h => ⟨round_of_eq (ann := fun _ => []) 400 follows_mixed hl (by kernel_rfl) (by kernel_rfl) h⟩
set_option maxRecDepth 100000 in
/-- joinery/rb.Red -/
def sh191 (t_1 : Option Addr) (R : Ending → World → Prop) (w : World) : Prop :=
 doCall Tryz.prog (.func (.func 237) #[] #[]) #[.pointer t_1] w (retS (fun v4 w5 => ∃ (x2 : Int), ∃ (x3 : Int), v4 = (.agg #[.int .u64 x2, .int .u64 x3] : Value) ∧ (
 R (.returned (.bool ((x2 : Int) == 1))) w5)) (fun ch w => Kfn R ch [] w))
set_option maxRecDepth 100000 in
theorem sh191_ok (t_1 : Option Addr) {R : Ending → World → Prop} {w : World} : sh191 t_1 R w → Calls Tryz.prog 191 #[.pointer t_1] w R :=
  calls_of_eq (ann := fun _ => []) (fn := Tryz.f191) (c := bodyOf Tryz.f191) (args := #[.pointer t_1]) 400 follows_mixed Tryz.func191 (by kernel_rfl) (by kernel_rfl)
set_option maxRecDepth 100000 in
/-- joinery/wb.Make -/
def sh192 (l_1 : Option Addr) (key_2 : Int) (val_3 : Int) (r_4 : Option Addr) (R : Ending → World → Prop) (w : World) : Prop :=
 doCall Tryz.prog (.func (.func 60) #[] #[]) #[.pointer l_1, .int .i64 key_2, .int .i64 val_3, .int .u64 0, .pointer r_4] w (retS (fun v6 w7 => ∃ (x5 : Option Addr), v6 = (.pointer x5 : Value) ∧ (
 R (.returned (.pointer x5)) w7)) (fun ch w => Kfn R ch [] w))
set_option maxRecDepth 100000 in
theorem sh192_ok (l_1 : Option Addr) (key_2 : Int) (val_3 : Int) (r_4 : Option Addr) {R : Ending → World → Prop} {w : World} : sh192 l_1 key_2 val_3 r_4 R w → Calls Tryz.prog 192 #[.pointer l_1, .int .i64 key_2, .int .i64 val_3, .pointer r_4] w R :=
  calls_of_eq (ann := fun _ => []) (fn := Tryz.f192) (c := bodyOf Tryz.f192) (args := #[.pointer l_1, .int .i64 key_2, .int .i64 val_3, .pointer r_4]) 400 follows_mixed Tryz.func192 (by kernel_rfl) (by kernel_rfl)
set_option maxRecDepth 100000 in
/-- joinery/wb.Weight -/
def sh193 (t_1 : Option Addr) (R : Ending → World → Prop) (w : World) : Prop :=
 doCall Tryz.prog (.func (.func 80) #[] #[]) #[.pointer t_1] w (retS (fun v3 w4 => ∃ (x2 : Int), v3 = (.int .i64 x2 : Value) ∧ (
 R (.returned (.int .i64 (IntKind.wrap .i64 (x2 + 1)))) w4)) (fun ch w => Kfn R ch [] w))
set_option maxRecDepth 100000 in
theorem sh193_ok (t_1 : Option Addr) {R : Ending → World → Prop} {w : World} : sh193 t_1 R w → Calls Tryz.prog 193 #[.pointer t_1] w R :=
  calls_of_eq (ann := fun _ => []) (fn := Tryz.f193) (c := bodyOf Tryz.f193) (args := #[.pointer t_1]) 400 follows_mixed Tryz.func193 (by kernel_rfl) (by kernel_rfl)
end Go.Proofs.YtbaoihmffobneaaGreat

namespace Go.Proofs.YtbaoihmffobneaaGreat
open Go Go.Sh
set_option maxRecDepth 100000 in
/-- (joinery/wbjoin.side).hang -/
def sh194 (s_1 : Int) (t_2 : Option Addr) (pair_3 : Option Addr) (low_4 : Option Addr) (R : Ending → World → Prop) (w : World) : Prop :=
 let K7 : Bool → World → Prop := fun (x5 : Bool) (w6 : World) => 
 ifB x5 (
 doCall Tryz.prog (.func (.func 240) #[] #[]) #[.int .i64 s_1, .pointer t_2, .pointer pair_3, .pointer low_4] w6 (retS (fun v9 w10 => ∃ (x8 : Option Addr), v9 = (.pointer x8 : Value) ∧ (
 R (.returned (.pointer x8)) w10)) (fun ch w => Kfn R ch [] w))) (
 doCall Tryz.prog (.func (.func 241) #[] #[]) #[.int .i64 s_1] w6 (retS (fun v12 w13 => ∃ (x11 : Int), v12 = (.int .i64 x11 : Value) ∧ (
 doCall Tryz.prog (.func (.func 242) #[] #[]) #[.int .i64 x11, .pointer t_2] w13 (retS (fun v15 w16 => ∃ (x14 : Option Addr), v15 = (.pointer x14 : Value) ∧ (
 doCall Tryz.prog (.func (.func 242) #[] #[]) #[.int .i64 s_1, .pointer t_2] w16 (retS (fun v18 w19 => ∃ (x17 : Option Addr), v18 = (.pointer x17 : Value) ∧ (
 doCall Tryz.prog (.func (.func 194) #[] #[]) #[.int .i64 s_1, .pointer x17, .pointer pair_3, .pointer low_4] w19 (retS (fun v21 w22 => ∃ (x20 : Option Addr), v21 = (.pointer x20 : Value) ∧ (
 doCall Tryz.prog (.func (.func 193) #[] #[]) #[.pointer x14] w22 (retS (fun v24 w25 => ∃ (x23 : Int), v24 = (.int .i64 x23 : Value) ∧ (
 doCall Tryz.prog (.func (.func 193) #[] #[]) #[.pointer x20] w25 (retS (fun v27 w28 => ∃ (x26 : Int), v27 = (.int .i64 x26 : Value) ∧ (
 doCall Tryz.prog (.func (.func 195) #[] #[]) #[.int .i64 x23, .int .i64 x26] w28 (retS (fun v30 w31 => ∃ (x29 : Bool), v30 = (.bool x29 : Value) ∧ (
 ifB x29 (
 doCall Tryz.prog (.func (.func 240) #[] #[]) #[.int .i64 s_1, .pointer x14, .pointer t_2, .pointer x20] w31 (retS (fun v33 w34 => ∃ (x32 : Option Addr), v33 = (.pointer x32 : Value) ∧ (
 R (.returned (.pointer x32)) w34)) (fun ch w => Kfn R ch [] w))) (
 doCall Tryz.prog (.func (.func 241) #[] #[]) #[.int .i64 s_1] w31 (retS (fun v36 w37 => ∃ (x35 : Int), v36 = (.int .i64 x35 : Value) ∧ (
 doCall Tryz.prog (.func (.func 242) #[] #[]) #[.int .i64 x35, .pointer x20] w37 (retS (fun v39 w40 => ∃ (x38 : Option Addr), v39 = (.pointer x38 : Value) ∧ (
 doCall Tryz.prog (.func (.func 193) #[] #[]) #[.pointer x38] w40 (retS (fun v42 w43 => ∃ (x41 : Int), v42 = (.int .i64 x41 : Value) ∧ (
 doCall Tryz.prog (.func (.func 242) #[] #[]) #[.int .i64 s_1, .pointer x20] w43 (retS (fun v45 w46 => ∃ (x44 : Option Addr), v45 = (.pointer x44 : Value) ∧ (
 doCall Tryz.prog (.func (.func 193) #[] #[]) #[.pointer x44] w46 (retS (fun v48 w49 => ∃ (x47 : Int), v48 = (.int .i64 x47 : Value) ∧ (
 doAl (.map #[] 0) w49 (fun b50 w51 =>
 doMu Tryz.prog 286 (.map (some b50)) (.bool true) (.func (.func 243) #[.int .i64 s_1] #[]) w51 (fun w52 =>
 doMu Tryz.prog 286 (.map (some b50)) (.bool false) (.func (.func 244) #[.int .i64 s_1] #[]) w52 (fun w53 =>
 let K56 : (Option Addr) → World → Prop := fun (x54 : Option Addr) (w55 : World) => 
 R (.returned (.pointer x54)) w55
 doCall Tryz.prog (.func (.func 195) #[] #[]) #[.int .i64 x23, .int .i64 x41] w53 (retS (fun v58 w59 => ∃ (x57 : Bool), v58 = (.bool x57 : Value) ∧ (
 ifB x57 (
 doCall Tryz.prog (.func (.func 195) #[] #[]) #[.int .i64 (IntKind.wrap .i64 (x23 + x41)), .int .i64 x47] w59 (retS (fun v61 w62 => ∃ (x60 : Bool), v61 = (.bool x60 : Value) ∧ (
 doLk Tryz.prog 286 (.map (some b50)) (.bool x60) false w62 (fun v66 => (∃ (xf63 : Fn), ∃ (xx64 : Array Value), ∃ (xc65 : Array Value), v66 = (.func xf63 xx64 xc65 : Value) ∧ (
 doCall Tryz.prog (.func xf63 xx64 xc65) #[.pointer x14, .pointer t_2, .pointer x20] w62 (retS (fun v68 w69 => ∃ (x67 : Option Addr), v68 = (.pointer x67 : Value) ∧ (
 K56 x67 w69)) (fun ch w => Kfn R ch [] w)))) ∨ (v66 = (.nilFunc : Value) ∧ (
 doCall Tryz.prog (.nilFunc) #[.pointer x14, .pointer t_2, .pointer x20] w62 (retS (fun v71 w72 => ∃ (x70 : Option Addr), v71 = (.pointer x70 : Value) ∧ (
 K56 x70 w72)) (fun ch w => Kfn R ch [] w))))))) (fun ch w => Kfn R ch [] w))) (
 doLk Tryz.prog 286 (.map (some b50)) (.bool false) false w59 (fun v76 => (∃ (xf73 : Fn), ∃ (xx74 : Array Value), ∃ (xc75 : Array Value), v76 = (.func xf73 xx74 xc75 : Value) ∧ (
 doCall Tryz.prog (.func xf73 xx74 xc75) #[.pointer x14, .pointer t_2, .pointer x20] w59 (retS (fun v78 w79 => ∃ (x77 : Option Addr), v78 = (.pointer x77 : Value) ∧ (
 K56 x77 w79)) (fun ch w => Kfn R ch [] w)))) ∨ (v76 = (.nilFunc : Value) ∧ (
 doCall Tryz.prog (.nilFunc) #[.pointer x14, .pointer t_2, .pointer x20] w59 (retS (fun v81 w82 => ∃ (x80 : Option Addr), v81 = (.pointer x80 : Value) ∧ (
 K56 x80 w82)) (fun ch w => Kfn R ch [] w)))))))) (fun ch w => Kfn R ch [] w))))))) (fun ch w => Kfn R ch [] w)))) (fun ch w => Kfn R ch [] w)))) (fun ch w => Kfn R ch [] w)))) (fun ch w => Kfn R ch [] w)))) (fun ch w => Kfn R ch [] w))))) (fun ch w => Kfn R ch [] w)))) (fun ch w => Kfn R ch [] w)))) (fun ch w => Kfn R ch [] w)))) (fun ch w => Kfn R ch [] w)))) (fun ch w => Kfn R ch [] w)))) (fun ch w => Kfn R ch [] w)))) (fun ch w => Kfn R ch [] w)))
 ifB ((t_2).isNone) (
 doCall Tryz.prog (.func (.func 240) #[] #[]) #[.int .i64 s_1, .pointer t_2, .pointer pair_3, .pointer low_4] w (retS (fun v84 w85 => ∃ (x83 : Option Addr), v84 = (.pointer x83 : Value) ∧ (
 R (.returned (.pointer x83)) w85)) (fun ch w => Kfn R ch [] w))) (
 doCall Tryz.prog (.func (.func 193) #[] #[]) #[.pointer t_2] w (retS (fun v87 w88 => ∃ (x86 : Int), v87 = (.int .i64 x86 : Value) ∧ (
 doCall Tryz.prog (.func (.func 193) #[] #[]) #[.pointer low_4] w88 (retS (fun v90 w91 => ∃ (x89 : Int), v90 = (.int .i64 x89 : Value) ∧ (
 doCall Tryz.prog (.func (.func 195) #[] #[]) #[.int .i64 x86, .int .i64 x89] w91 (retS (fun v93 w94 => ∃ (x92 : Bool), v93 = (.bool x92 : Value) ∧ (
 K7 x92 w94)) (fun ch w => Kfn R ch [] w)))) (fun ch w => Kfn R ch [] w)))) (fun ch w => Kfn R ch [] w)))
set_option maxRecDepth 100000 in
theorem sh194_ok (s_1 : Int) (t_2 : Option Addr) (pair_3 : Option Addr) (low_4 : Option Addr) {R : Ending → World → Prop} {w : World} : sh194 s_1 t_2 pair_3 low_4 R w → Calls Tryz.prog 194 #[.int .i64 s_1, .pointer t_2, .pointer pair_3, .pointer low_4] w R :=
  calls_of_eq (ann := fun _ => []) (fn := Tryz.f194) (c := bodyOf Tryz.f194) (args := #[.int .i64 s_1, .pointer t_2, .pointer pair_3, .pointer low_4]) 400 follows_mixed Tryz.func194 (by kernel_rfl) (by kernel_rfl)
set_option maxRecDepth 100000 in
/-- joinery/wb.Like -/
def sh195 (a_1 : Int) (b_2 : Int) (R : Ending → World → Prop) (w : World) : Prop :=
 let K5 : Bool → World → Prop := fun (x3 : Bool) (w4 : World) => 
 R (.returned (.bool x3)) w4
 doAl (.cells #[.int .i64 a_1, .int .i64 b_2] 3) w (fun b6 w7 =>
 doCall Tryz.prog (.func (.func 245) #[] #[]) #[.int .i64 1, .int .i64 1099511627776, .slice (some (blk b6)) 2 2] w7 (retS (fun v9 w10 => ∃ (x8 : Bool), v9 = (.bool x8 : Value) ∧ (
 ifB x8 (
 doGo Tryz.prog (.builtin .min #[3, 3] 3 #[false, false]) #[.int .i64 a_1, .int .i64 b_2] w10 (retS (fun v12 w13 => ∃ (x11 : Int), v12 = (.int .i64 x11 : Value) ∧ (
 K5 (decide (((IntKind.wrap .i64 (29 * (IntKind.wrap .i64 (a_1 + b_2)))) : Int) ≤ (IntKind.wrap .i64 (100 * x11)))) w13)) (fun ch w => Kfn R ch [] w))) (
 R (.returned (.bool false)) w10))) (fun ch w => Kfn R ch [] w)))
set_option maxRecDepth 100000 in
theorem sh195_ok (a_1 : Int) (b_2 : Int) {R : Ending → World → Prop} {w : World} : sh195 a_1 b_2 R w → Calls Tryz.prog 195 #[.int .i64 a_1, .int .i64 b_2] w R :=
  calls_of_eq (ann := fun _ => []) (fn := Tryz.f195) (c := bodyOf Tryz.f195) (args := #[.int .i64 a_1, .int .i64 b_2]) 400 follows_mixed Tryz.func195 (by kernel_rfl) (by kernel_rfl)
set_option maxRecDepth 100000 in
/-- joinery/cut.to$1 -/
def sh198 (there_1 : Option Addr) (x_2 : Int) (x_3 : Int) (x_4 : Int) (others_5 : Option Addr) (x6 : Addr) (R : Ending → World → Prop) (w : World) : Prop :=
 doAl (.cells #[.int .i64 x_2, .int .i64 x_3, .int .u64 x_4] 93) w (fun b7 w8 =>
 ∃ (x9 : Option Addr), World.cell? w8 x6 = some (.pointer x9) ∧ (
 ∃ (x10 : Int), World.cell? w8 ((blk b7).add 0) = some (.int .i64 x10) ∧ (
 ∃ (x11 : Int), World.cell? w8 ((blk b7).add 1) = some (.int .i64 x11) ∧ (
 ∃ (x12 : Int), World.cell? w8 ((blk b7).add 2) = some (.int .u64 x12) ∧ (
 doCall Tryz.prog (.func (.func 62) #[] #[]) #[.pointer x9, .pointer others_5, .agg #[.int .i64 x10, .int .i64 x11, .int .u64 x12], .pointer there_1] w8 (retS (fun v14 w15 => ∃ (x13 : Option Addr), v14 = (.pointer x13 : Value) ∧ (
 R (.returned (.pointer x13)) w15)) (fun ch w => Kfn R ch [] w)))))))
set_option maxRecDepth 100000 in
theorem sh198_ok (there_1 : Option Addr) (x_2 : Int) (x_3 : Int) (x_4 : Int) (others_5 : Option Addr) (x6 : Addr) {R : Ending → World → Prop} {w : World} : sh198 there_1 x_2 x_3 x_4 others_5 x6 R w → Calls Tryz.prog 198 #[.pointer there_1, .agg #[.int .i64 x_2, .int .i64 x_3, .int .u64 x_4], .pointer others_5, .pointer (some x6)] w R :=
  calls_of_eq (ann := fun _ => []) (fn := Tryz.f198) (c := bodyOf Tryz.f198) (args := #[.pointer there_1, .agg #[.int .i64 x_2, .int .i64 x_3, .int .u64 x_4], .pointer others_5, .pointer (some x6)]) 400 follows_mixed Tryz.func198 (by kernel_rfl) (by kernel_rfl)
set_option maxRecDepth 100000 in
/-- joinery/split.where$1 -/
def sh199 (k_1 : Int) (x2 : Addr) (x3 : Addr) (R : Ending → World → Prop) (w : World) : Prop :=
 ∃ (x4 : Int), World.cell? w x2 = some (.int .u8 x4) ∧ (
 doCall Tryz.prog (.func (.func 168) #[] #[]) #[.int .u8 x4, .int .i64 k_1] w (retS (fun v7 w8 => ∃ (x5 : Int), ∃ (x6 : Int), v7 = (.tuple #[.int .u64 x5, .int .i64 x6] : Value) ∧ (
 ∃ (x9 : Int), World.cell? w8 x3 = some (.int .u64 x9) ∧ (
 doCall Tryz.prog (.func (.func 175) #[] #[]) #[.int .u64 x5, .int .u64 x9] w8 (retS (fun v11 w12 => ∃ (x10 : Int), v11 = (.int .i64 x10 : Value) ∧ (
 R (.returned (.int .i64 x10)) w12)) (fun ch w => Kfn R ch [] w))))) (fun ch w => Kfn R ch [] w)))
set_option maxRecDepth 100000 in
theorem sh199_ok (k_1 : Int) (x2 : Addr) (x3 : Addr) {R : Ending → World → Prop} {w : World} : sh199 k_1 x2 x3 R w → Calls Tryz.prog 199 #[.int .i64 k_1, .pointer (some x2), .pointer (some x3)] w R :=
  calls_of_eq (ann := fun _ => []) (fn := Tryz.f199) (c := bodyOf Tryz.f199) (args := #[.int .i64 k_1, .pointer (some x2), .pointer (some x3)]) 400 follows_mixed Tryz.func199 (by kernel_rfl) (by kernel_rfl)
set_option maxRecDepth 100000 in
/-- joinery/joineryref14.Check -/
def sh200 (l_p1 : Option Addr) (l_n2 : Nat) (l_c3 : Nat) (R : Ending → World → Prop) (w : World) : Prop :=
 ifB ((((l_n2 : Nat) : Int) : Int) == 0) (
 R (.returned (.tuple #[.int .i64 0, .int .i64 0])) w) (
 doCall Tryz.prog (.func (.func 250) #[] #[]) #[.slice l_p1 l_n2 l_c3] w (retS (fun v5 w6 => ∃ (x4 : Int), v5 = (.int .i64 x4 : Value) ∧ (
 ifB ((x4 : Int) != 0) (
 R (.returned (.tuple #[.int .i64 0, .int .i64 x4])) w6) (
 doCall Tryz.prog (.func (.func 64) #[] #[]) #[.slice l_p1 l_n2 l_c3] w6 (retS (fun v20 w21 => ∃ (x7 : Int), ∃ (x8 : Int), ∃ (x9 : Int), ∃ (x10 : Int), ∃ (x11 : Int), ∃ (x12 : Bool), ∃ (x13 : Bool), ∃ (xp14 : Option Addr), ∃ (xn15 : Nat), ∃ (xc16 : Nat), ∃ (xp17 : Option Addr), ∃ (xn18 : Nat), ∃ (xc19 : Nat), v20 = (.tuple #[.agg #[.int .i64 x7, .int .i64 x8, .int .i64 x9, .int .i64 x10, .int .u64 x11, .bool x12, .bool x13], .slice xp14 xn15 xc16, .slice xp17 xn18 xc19] : Value) ∧ (
 doAl (.cells #[.int .i64 0, .int .i64 0, .int .i64 0, .int .i64 0, .int .u64 0, .bool false, .bool false] 97) w21 (fun b22 w23 =>
 doSt ((blk b22).add 0) (.int .i64 x7) w23 (fun w24 =>
 doSt ((blk b22).add 1) (.int .i64 x8) w24 (fun w25 =>
 doSt ((blk b22).add 2) (.int .i64 x9) w25 (fun w26 =>
 doSt ((blk b22).add 3) (.int .i64 x10) w26 (fun w27 =>
 doSt ((blk b22).add 4) (.int .u64 x11) w27 (fun w28 =>
 doSt ((blk b22).add 5) (.bool x12) w28 (fun w29 =>
 doSt ((blk b22).add 6) (.bool x13) w29 (fun w30 =>
 doCall Tryz.prog (.func (.func 200) #[] #[]) #[.slice xp14 xn15 xc16] w30 (retS (fun v33 w34 => ∃ (x31 : Int), ∃ (x32 : Int), v33 = (.tuple #[.int .i64 x31, .int .i64 x32] : Value) ∧ (
 ifB ((x32 : Int) != 0) (
 R (.returned (.tuple #[.int .i64 (IntKind.wrap .i64 (1 + x31)), .int .i64 x32])) w34) (
 doCall Tryz.prog (.func (.func 200) #[] #[]) #[.slice xp17 xn18 xc19] w34 (retS (fun v37 w38 => ∃ (x35 : Int), ∃ (x36 : Int), v37 = (.tuple #[.int .i64 x35, .int .i64 x36] : Value) ∧ (
 R (.returned (.tuple #[.int .i64 (IntKind.wrap .i64 ((IntKind.wrap .i64 (1 + x31)) + x35)), .int .i64 x36])) w38)) (fun ch w => Kfn R ch [] w))))) (fun ch w => Kfn R ch [] w)))))))))))) (fun ch w => Kfn R ch [] w))))) (fun ch w => Kfn R ch [] w)))
set_option maxRecDepth 100000 in
theorem sh200_ok (l_p1 : Option Addr) (l_n2 : Nat) (l_c3 : Nat) {R : Ending → World → Prop} {w : World} : sh200 l_p1 l_n2 l_c3 R w → Calls Tryz.prog 200 #[.slice l_p1 l_n2 l_c3] w R :=
  calls_of_eq (ann := fun _ => []) (fn := Tryz.f200) (c := bodyOf Tryz.f200) (args := #[.slice l_p1 l_n2 l_c3]) 400 follows_mixed Tryz.func200 (by kernel_rfl) (by kernel_rfl)
set_option maxRecDepth 100000 in
/-- joinery/joineryref16.Check -/
def sh201 (l_p1 : Option Addr) (l_n2 : Nat) (l_c3 : Nat) (R : Ending → World → Prop) (w : World) : Prop :=
 doCall Tryz.prog (.func (.func 251) #[] #[]) #[.slice l_p1 l_n2 l_c3] w (retS (fun v6 w7 => ∃ (x4 : Int), ∃ (x5 : Int), v6 = (.tuple #[.int .i64 x4, .int .i64 x5] : Value) ∧ (
 let K9 : World → Prop := fun (w8 : World) => 
 R (.returned (.tuple #[.int .i64 x4, .int .i64 x5])) w8
 let K12 : Bool → World → Prop := fun (x10 : Bool) (w11 : World) => 
 ifB x10 (
 R (.returned (.tuple #[.int .i64 0, .int .i64 8])) w11) (
 K9 w11)
 ifB ((x5 : Int) == 0) (
 doCall Tryz.prog (.func (.func 252) #[] #[]) #[.slice l_p1 l_n2 l_c3] w7 (retS (fun v14 w15 => ∃ (x13 : Bool), v14 = (.bool x13 : Value) ∧ (
 K12 x13 w15)) (fun ch w => Kfn R ch [] w))) (
 K9 w7))) (fun ch w => Kfn R ch [] w))
set_option maxRecDepth 100000 in
theorem sh201_ok (l_p1 : Option Addr) (l_n2 : Nat) (l_c3 : Nat) {R : Ending → World → Prop} {w : World} : sh201 l_p1 l_n2 l_c3 R w → Calls Tryz.prog 201 #[.slice l_p1 l_n2 l_c3] w R :=
  calls_of_eq (ann := fun _ => []) (fn := Tryz.f201) (c := bodyOf Tryz.f201) (args := #[.slice l_p1 l_n2 l_c3]) 400 follows_mixed Tryz.func201 (by kernel_rfl) (by kernel_rfl)
set_option maxRecDepth 100000 in
/-- joinery/joineryref18.Check -/
def sh202 (l_p1 : Option Addr) (l_n2 : Nat) (l_c3 : Nat) (R : Ending → World → Prop) (w : World) : Prop :=
 ifB ((((l_n2 : Nat) : Int) : Int) == 0) (
 R (.returned (.tuple #[.int .i64 0, .int .i64 0])) w) (
 doCall Tryz.prog (.func (.func 64) #[] #[]) #[.slice l_p1 l_n2 l_c3] w (retS (fun v17 w18 => ∃ (x4 : Int), ∃ (x5 : Int), ∃ (x6 : Int), ∃ (x7 : Int), ∃ (x8 : Int), ∃ (x9 : Bool), ∃ (x10 : Bool), ∃ (xp11 : Option Addr), ∃ (xn12 : Nat), ∃ (xc13 : Nat), ∃ (xp14 : Option Addr), ∃ (xn15 : Nat), ∃ (xc16 : Nat), v17 = (.tuple #[.agg #[.int .i64 x4, .int .i64 x5, .int .i64 x6, .int .i64 x7, .int .u64 x8, .bool x9, .bool x10], .slice xp11 xn12 xc13, .slice xp14 xn15 xc16] : Value) ∧ (
 doAl (.cells #[.int .i64 0, .int .i64 0, .int .i64 0, .int .i64 0, .int .u64 0, .bool false, .bool false] 97) w18 (fun b19 w20 =>
 doSt ((blk b19).add 0) (.int .i64 x4) w20 (fun w21 =>
 doSt ((blk b19).add 1) (.int .i64 x5) w21 (fun w22 =>
 doSt ((blk b19).add 2) (.int .i64 x6) w22 (fun w23 =>
 doSt ((blk b19).add 3) (.int .i64 x7) w23 (fun w24 =>
 doSt ((blk b19).add 4) (.int .u64 x8) w24 (fun w25 =>
 doSt ((blk b19).add 5) (.bool x9) w25 (fun w26 =>
 doSt ((blk b19).add 6) (.bool x10) w26 (fun w27 =>
 ∃ (x28 : Int), World.cell? w27 ((blk b19).add 4) = some (.int .u64 x28) ∧ (
 ifB ((x28 : Int) != 0) (
 R (.returned (.tuple #[.int .i64 0, .int .i64 140])) w27) (
 doCall Tryz.prog (.func (.func 253) #[] #[]) #[.int .i64 (IntKind.wrap .i64 (((xn12 : Nat) : Int) + 1)), .int .i64 (IntKind.wrap .i64 (((xn15 : Nat) : Int) + 1))] w27 (retS (fun v30 w31 => ∃ (x29 : Bool), v30 = (.bool x29 : Value) ∧ (
 ifB (!x29) (
 R (.returned (.tuple #[.int .i64 0, .int .i64 8])) w31) (
 doCall Tryz.prog (.func (.func 202) #[] #[]) #[.slice xp11 xn12 xc13] w31 (retS (fun v34 w35 => ∃ (x32 : Int), ∃ (x33 : Int), v34 = (.tuple #[.int .i64 x32, .int .i64 x33] : Value) ∧ (
 ifB ((x33 : Int) != 0) (
 R (.returned (.tuple #[.int .i64 (IntKind.wrap .i64 (1 + x32)), .int .i64 x33])) w35) (
 doCall Tryz.prog (.func (.func 202) #[] #[]) #[.slice xp14 xn15 xc16] w35 (retS (fun v38 w39 => ∃ (x36 : Int), ∃ (x37 : Int), v38 = (.tuple #[.int .i64 x36, .int .i64 x37] : Value) ∧ (
 R (.returned (.tuple #[.int .i64 (IntKind.wrap .i64 ((IntKind.wrap .i64 (1 + x32)) + x36)), .int .i64 x37])) w39)) (fun ch w => Kfn R ch [] w))))) (fun ch w => Kfn R ch [] w))))) (fun ch w => Kfn R ch [] w)))))))))))))) (fun ch w => Kfn R ch [] w)))
set_option maxRecDepth 100000 in
theorem sh202_ok (l_p1 : Option Addr) (l_n2 : Nat) (l_c3 : Nat) {R : Ending → World → Prop} {w : World} : sh202 l_p1 l_n2 l_c3 R w → Calls Tryz.prog 202 #[.slice l_p1 l_n2 l_c3] w R :=
  calls_of_eq (ann := fun _ => []) (fn := Tryz.f202) (c := bodyOf Tryz.f202) (args := #[.slice l_p1 l_n2 l_c3]) 400 follows_mixed Tryz.func202 (by kernel_rfl) (by kernel_rfl)
set_option maxRecDepth 100000 in
/-- joinery/joineryref20.Check -/
def sh203 (l_p1 : Option Addr) (l_n2 : Nat) (l_c3 : Nat) (R : Ending → World → Prop) (w : World) : Prop :=
 ifB ((((l_n2 : Nat) : Int) : Int) == 0) (
 R (.returned (.tuple #[.int .i64 0, .int .i64 0])) w) (
 doCall Tryz.prog (.func (.func 64) #[] #[]) #[.slice l_p1 l_n2 l_c3] w (retS (fun v17 w18 => ∃ (x4 : Int), ∃ (x5 : Int), ∃ (x6 : Int), ∃ (x7 : Int), ∃ (x8 : Int), ∃ (x9 : Bool), ∃ (x10 : Bool), ∃ (xp11 : Option Addr), ∃ (xn12 : Nat), ∃ (xc13 : Nat), ∃ (xp14 : Option Addr), ∃ (xn15 : Nat), ∃ (xc16 : Nat), v17 = (.tuple #[.agg #[.int .i64 x4, .int .i64 x5, .int .i64 x6, .int .i64 x7, .int .u64 x8, .bool x9, .bool x10], .slice xp11 xn12 xc13, .slice xp14 xn15 xc16] : Value) ∧ (
 doAl (.cells #[.int .i64 0, .int .i64 0, .int .i64 0, .int .i64 0, .int .u64 0, .bool false, .bool false] 97) w18 (fun b19 w20 =>
 doSt ((blk b19).add 0) (.int .i64 x4) w20 (fun w21 =>
 doSt ((blk b19).add 1) (.int .i64 x5) w21 (fun w22 =>
 doSt ((blk b19).add 2) (.int .i64 x6) w22 (fun w23 =>
 doSt ((blk b19).add 3) (.int .i64 x7) w23 (fun w24 =>
 doSt ((blk b19).add 4) (.int .u64 x8) w24 (fun w25 =>
 doSt ((blk b19).add 5) (.bool x9) w25 (fun w26 =>
 doSt ((blk b19).add 6) (.bool x10) w26 (fun w27 =>
 let K30 : Bool → World → Prop := fun (x28 : Bool) (w29 : World) => 
 ifB x28 (
 R (.returned (.tuple #[.int .i64 0, .int .i64 8])) w29) (
 doCall Tryz.prog (.func (.func 203) #[] #[]) #[.slice xp11 xn12 xc13] w29 (retS (fun v33 w34 => ∃ (x31 : Int), ∃ (x32 : Int), v33 = (.tuple #[.int .i64 x31, .int .i64 x32] : Value) ∧ (
 ifB ((x32 : Int) != 0) (
 R (.returned (.tuple #[.int .i64 (IntKind.wrap .i64 (1 + x31)), .int .i64 x32])) w34) (
 doCall Tryz.prog (.func (.func 203) #[] #[]) #[.slice xp14 xn15 xc16] w34 (retS (fun v37 w38 => ∃ (x35 : Int), ∃ (x36 : Int), v37 = (.tuple #[.int .i64 x35, .int .i64 x36] : Value) ∧ (
 R (.returned (.tuple #[.int .i64 (IntKind.wrap .i64 ((IntKind.wrap .i64 (1 + x31)) + x35)), .int .i64 x36])) w38)) (fun ch w => Kfn R ch [] w))))) (fun ch w => Kfn R ch [] w)))
 ∃ (x39 : Int), World.cell? w27 ((blk b19).add 0) = some (.int .i64 x39) ∧ (
 ∃ (x40 : Int), World.cell? w27 ((blk b19).add 1) = some (.int .i64 x40) ∧ (
 ∃ (x41 : Int), World.cell? w27 ((blk b19).add 2) = some (.int .i64 x41) ∧ (
 ∃ (x42 : Int), World.cell? w27 ((blk b19).add 3) = some (.int .i64 x42) ∧ (
 ∃ (x43 : Int), World.cell? w27 ((blk b19).add 4) = some (.int .u64 x43) ∧ (
 ∃ (x44 : Bool), World.cell? w27 ((blk b19).add 5) = some (.bool x44) ∧ (
 ∃ (x45 : Bool), World.cell? w27 ((blk b19).add 6) = some (.bool x45) ∧ (
 doCall Tryz.prog (.func (.func 254) #[] #[]) #[.slice xp11 xn12 xc13, .agg #[.int .i64 x39, .int .i64 x40, .int .i64 x41, .int .i64 x42, .int .u64 x43, .bool x44, .bool x45]] w27 (retS (fun v47 w48 => ∃ (x46 : Bool), v47 = (.bool x46 : Value) ∧ (
 ifB x46 (
 R (.returned (.tuple #[.int .i64 0, .int .i64 8])) w48) (
 ∃ (x49 : Int), World.cell? w48 ((blk b19).add 0) = some (.int .i64 x49) ∧ (
 ∃ (x50 : Int), World.cell? w48 ((blk b19).add 1) = some (.int .i64 x50) ∧ (
 ∃ (x51 : Int), World.cell? w48 ((blk b19).add 2) = some (.int .i64 x51) ∧ (
 ∃ (x52 : Int), World.cell? w48 ((blk b19).add 3) = some (.int .i64 x52) ∧ (
 ∃ (x53 : Int), World.cell? w48 ((blk b19).add 4) = some (.int .u64 x53) ∧ (
 ∃ (x54 : Bool), World.cell? w48 ((blk b19).add 5) = some (.bool x54) ∧ (
 ∃ (x55 : Bool), World.cell? w48 ((blk b19).add 6) = some (.bool x55) ∧ (
 doCall Tryz.prog (.func (.func 254) #[] #[]) #[.slice xp14 xn15 xc16, .agg #[.int .i64 x49, .int .i64 x50, .int .i64 x51, .int .i64 x52, .int .u64 x53, .bool x54, .bool x55]] w48 (retS (fun v57 w58 => ∃ (x56 : Bool), v57 = (.bool x56 : Value) ∧ (
 K30 x56 w58)) (fun ch w => Kfn R ch [] w)))))))))))) (fun ch w => Kfn R ch [] w))))))))))))))))))) (fun ch w => Kfn R ch [] w)))
set_option maxRecDepth 100000 in
theorem sh203_ok (l_p1 : Option Addr) (l_n2 : Nat) (l_c3 : Nat) {R : Ending → World → Prop} {w : World} : sh203 l_p1 l_n2 l_c3 R w → Calls Tryz.prog 203 #[.slice l_p1 l_n2 l_c3] w R :=
  calls_of_eq (ann := fun _ => []) (fn := Tryz.f203) (c := bodyOf Tryz.f203) (args := #[.slice l_p1 l_n2 l_c3]) 400 follows_mixed Tryz.func203 (by kernel_rfl) (by kernel_rfl)
set_option maxRecDepth 100000 in
/-- joinery/order.up -/
def sh204 (k_1 : Int) (R : Ending → World → Prop) (w : World) : Prop :=
 R (.returned (.int .u64 (bXor .u64 (IntKind.wrap .u64 k_1) 9223372036854775808))) w
set_option maxRecDepth 100000 in
theorem sh204_ok (k_1 : Int) {R : Ending → World → Prop} {w : World} : sh204 k_1 R w → Calls Tryz.prog 204 #[.int .i64 k_1] w R :=
  calls_of_eq (ann := fun _ => []) (fn := Tryz.f204) (c := bodyOf Tryz.f204) (args := #[.int .i64 k_1]) 400 follows_mixed Tryz.func204 (by kernel_rfl) (by kernel_rfl)
set_option maxRecDepth 100000 in
/-- joinery/order.down -/
def sh205 (c_1 : Int) (R : Ending → World → Prop) (w : World) : Prop :=
 R (.returned (.int .i64 (IntKind.wrap .i64 (bXor .u64 c_1 9223372036854775808)))) w
set_option maxRecDepth 100000 in
theorem sh205_ok (c_1 : Int) {R : Ending → World → Prop} {w : World} : sh205 c_1 R w → Calls Tryz.prog 205 #[.int .u64 c_1] w R :=
  calls_of_eq (ann := fun _ => []) (fn := Tryz.f205) (c := bodyOf Tryz.f205) (args := #[.int .u64 c_1]) 400 follows_mixed Tryz.func205 (by kernel_rfl) (by kernel_rfl)
set_option maxRecDepth 100000 in
/-- joinery/order.kinds$1 -/
def sh206 (k_1 : Int) (R : Ending → World → Prop) (w : World) : Prop :=
 doCall Tryz.prog (.func (.func 204) #[] #[]) #[.int .i64 k_1] w (retS (fun v3 w4 => ∃ (x2 : Int), v3 = (.int .u64 x2 : Value) ∧ (
 R (.returned (.int .u64 (bXor .u64 (IntKind.max .u64) x2))) w4)) (fun ch w => Kfn R ch [] w))
set_option maxRecDepth 100000 in
theorem sh206_ok (k_1 : Int) {R : Ending → World → Prop} {w : World} : sh206 k_1 R w → Calls Tryz.prog 206 #[.int .i64 k_1] w R :=
  calls_of_eq (ann := fun _ => []) (fn := Tryz.f206) (c := bodyOf Tryz.f206) (args := #[.int .i64 k_1]) 400 follows_mixed Tryz.func206 (by kernel_rfl) (by kernel_rfl)
set_option maxRecDepth 100000 in
/-- joinery/order.kinds$2 -/
def sh207 (c_1 : Int) (R : Ending → World → Prop) (w : World) : Prop :=
 doCall Tryz.prog (.func (.func 205) #[] #[]) #[.int .u64 (bXor .u64 (IntKind.max .u64) c_1)] w (retS (fun v3 w4 => ∃ (x2 : Int), v3 = (.int .i64 x2 : Value) ∧ (
 R (.returned (.int .i64 x2)) w4)) (fun ch w => Kfn R ch [] w))
set_option maxRecDepth 100000 in
theorem sh207_ok (c_1 : Int) {R : Ending → World → Prop} {w : World} : sh207 c_1 R w → Calls Tryz.prog 207 #[.int .u64 c_1] w R :=
  calls_of_eq (ann := fun _ => []) (fn := Tryz.f207) (c := bodyOf Tryz.f207) (args := #[.int .u64 c_1]) 400 follows_mixed Tryz.func207 (by kernel_rfl) (by kernel_rfl)
set_option maxRecDepth 100000 in
/-- joinery/order.kinds$3 -/
def sh208 (k_1 : Int) (R : Ending → World → Prop) (w : World) : Prop :=
 (0 : Int) ≤ 1 ∧ (
 (0 : Int) ≤ 63 ∧ (
 R (.returned (.int .u64 (IntKind.wrap .u64 (bXor .i64 (IntKind.wrap .i64 (k_1 * 2 ^ (min (1 : Int).toNat (IntKind.bits .i64)))) (Int.fdiv k_1 (2 ^ (min (63 : Int).toNat (IntKind.bits .i64)))))))) w))
set_option maxRecDepth 100000 in
theorem sh208_ok (k_1 : Int) {R : Ending → World → Prop} {w : World} : sh208 k_1 R w → Calls Tryz.prog 208 #[.int .i64 k_1] w R :=
  calls_of_eq (ann := fun _ => []) (fn := Tryz.f208) (c := bodyOf Tryz.f208) (args := #[.int .i64 k_1]) 400 follows_mixed Tryz.func208 (by kernel_rfl) (by kernel_rfl)
set_option maxRecDepth 100000 in
/-- joinery/order.kinds$4 -/
def sh209 (c_1 : Int) (R : Ending → World → Prop) (w : World) : Prop :=
 (0 : Int) ≤ 1 ∧ (
 R (.returned (.int .i64 (bXor .i64 (IntKind.wrap .i64 (Int.fdiv c_1 (2 ^ (min (1 : Int).toNat (IntKind.bits .u64))))) (IntKind.wrap .i64 (0 - (IntKind.wrap .i64 (bAnd .u64 c_1 1))))))) w)
set_option maxRecDepth 100000 in
theorem sh209_ok (c_1 : Int) {R : Ending → World → Prop} {w : World} : sh209 c_1 R w → Calls Tryz.prog 209 #[.int .u64 c_1] w R :=
  calls_of_eq (ann := fun _ => []) (fn := Tryz.f209) (c := bodyOf Tryz.f209) (args := #[.int .u64 c_1]) 400 follows_mixed Tryz.func209 (by kernel_rfl) (by kernel_rfl)
set_option maxRecDepth 100000 in
/-- joinery/order.kinds$5 -/
def sh210 (k_1 : Int) (R : Ending → World → Prop) (w : World) : Prop :=
 doCall Tryz.prog (.func (.func 211) #[] #[]) #[.int .u64 (IntKind.wrap .u64 k_1)] w (retS (fun v3 w4 => ∃ (x2 : Int), v3 = (.int .u64 x2 : Value) ∧ (
 R (.returned (.int .u64 x2)) w4)) (fun ch w => Kfn R ch [] w))
set_option maxRecDepth 100000 in
theorem sh210_ok (k_1 : Int) {R : Ending → World → Prop} {w : World} : sh210 k_1 R w → Calls Tryz.prog 210 #[.int .i64 k_1] w R :=
  calls_of_eq (ann := fun _ => []) (fn := Tryz.f210) (c := bodyOf Tryz.f210) (args := #[.int .i64 k_1]) 400 follows_mixed Tryz.func210 (by kernel_rfl) (by kernel_rfl)
set_option maxRecDepth 100000 in
/-- joinery/mix.Flip -/
def sh211 (x_1 : Int) (R : Ending → World → Prop) (w : World) : Prop :=
 doCall Tryz.prog (.func (.func 255) #[] #[]) #[.int .u64 x_1] w (retS (fun v3 w4 => ∃ (x2 : Int), v3 = (.int .u64 x2 : Value) ∧ (
 R (.returned (.int .u64 x2)) w4)) (fun ch w => Kfn R ch [] w))
set_option maxRecDepth 100000 in
theorem sh211_ok (x_1 : Int) {R : Ending → World → Prop} {w : World} : sh211 x_1 R w → Calls Tryz.prog 211 #[.int .u64 x_1] w R :=
  calls_of_eq (ann := fun _ => []) (fn := Tryz.f211) (c := bodyOf Tryz.f211) (args := #[.int .u64 x_1]) 400 follows_mixed Tryz.func211 (by kernel_rfl) (by kernel_rfl)
set_option maxRecDepth 100000 in
/-- joinery/order.kinds$6 -/
def sh212 (c_1 : Int) (R : Ending → World → Prop) (w : World) : Prop :=
 doCall Tryz.prog (.func (.func 211) #[] #[]) #[.int .u64 c_1] w (retS (fun v3 w4 => ∃ (x2 : Int), v3 = (.int .u64 x2 : Value) ∧ (
 R (.returned (.int .i64 (IntKind.wrap .i64 x2))) w4)) (fun ch w => Kfn R ch [] w))
set_option maxRecDepth 100000 in
theorem sh212_ok (c_1 : Int) {R : Ending → World → Prop} {w : World} : sh212 c_1 R w → Calls Tryz.prog 212 #[.int .u64 c_1] w R :=
  calls_of_eq (ann := fun _ => []) (fn := Tryz.f212) (c := bodyOf Tryz.f212) (args := #[.int .u64 c_1]) 400 follows_mixed Tryz.func212 (by kernel_rfl) (by kernel_rfl)
set_option maxRecDepth 100000 in
/-- joinery/order.kinds$7 -/
def sh213 (k_1 : Int) (R : Ending → World → Prop) (w : World) : Prop :=
 doCall Tryz.prog (.func (.func 204) #[] #[]) #[.int .i64 k_1] w (retS (fun v3 w4 => ∃ (x2 : Int), v3 = (.int .u64 x2 : Value) ∧ (
 doCall Tryz.prog (.func (.func 214) #[] #[]) #[.int .u64 x2, .int .i64 (-1)] w4 (retS (fun v6 w7 => ∃ (x5 : Int), v6 = (.int .u64 x5 : Value) ∧ (
 R (.returned (.int .u64 x5)) w7)) (fun ch w => Kfn R ch [] w)))) (fun ch w => Kfn R ch [] w))
set_option maxRecDepth 100000 in
theorem sh213_ok (k_1 : Int) {R : Ending → World → Prop} {w : World} : sh213 k_1 R w → Calls Tryz.prog 213 #[.int .i64 k_1] w R :=
  calls_of_eq (ann := fun _ => []) (fn := Tryz.f213) (c := bodyOf Tryz.f213) (args := #[.int .i64 k_1]) 400 follows_mixed Tryz.func213 (by kernel_rfl) (by kernel_rfl)
end Go.Proofs.YtbaoihmffobneaaGreat

namespace Go.Proofs.YtbaoihmffobneaaGreat
open Go Go.Sh
set_option maxRecDepth 100000 in
/-- joinery/mix.Turn -/
def sh214 (x_1 : Int) (n_2 : Int) (R : Ending → World → Prop) (w : World) : Prop :=
 64 ≠ (0 : Int) ∧ (
 doCall Tryz.prog (.func (.func 256) #[] #[]) #[.int .u64 x_1, .int .i64 (Int.tmod n_2 64)] w (retS (fun v4 w5 => ∃ (x3 : Int), v4 = (.int .u64 x3 : Value) ∧ (
 R (.returned (.int .u64 x3)) w5)) (fun ch w => Kfn R ch [] w)))
set_option maxRecDepth 100000 in
theorem sh214_ok (x_1 : Int) (n_2 : Int) {R : Ending → World → Prop} {w : World} : sh214 x_1 n_2 R w → Calls Tryz.prog 214 #[.int .u64 x_1, .int .i64 n_2] w R :=
  calls_of_eq (ann := fun _ => []) (fn := Tryz.f214) (c := bodyOf Tryz.f214) (args := #[.int .u64 x_1, .int .i64 n_2]) 400 follows_mixed Tryz.func214 (by kernel_rfl) (by kernel_rfl)
set_option maxRecDepth 100000 in
/-- joinery/order.kinds$8 -/
def sh215 (c_1 : Int) (R : Ending → World → Prop) (w : World) : Prop :=
 doCall Tryz.prog (.func (.func 214) #[] #[]) #[.int .u64 c_1, .int .i64 1] w (retS (fun v3 w4 => ∃ (x2 : Int), v3 = (.int .u64 x2 : Value) ∧ (
 doCall Tryz.prog (.func (.func 205) #[] #[]) #[.int .u64 x2] w4 (retS (fun v6 w7 => ∃ (x5 : Int), v6 = (.int .i64 x5 : Value) ∧ (
 R (.returned (.int .i64 x5)) w7)) (fun ch w => Kfn R ch [] w)))) (fun ch w => Kfn R ch [] w))
set_option maxRecDepth 100000 in
theorem sh215_ok (c_1 : Int) {R : Ending → World → Prop} {w : World} : sh215 c_1 R w → Calls Tryz.prog 215 #[.int .u64 c_1] w R :=
  calls_of_eq (ann := fun _ => []) (fn := Tryz.f215) (c := bodyOf Tryz.f215) (args := #[.int .u64 c_1]) 400 follows_mixed Tryz.func215 (by kernel_rfl) (by kernel_rfl)
set_option maxRecDepth 100000 in
/-- joinery/order.kinds$9 -/
def sh216 (k_1 : Int) (R : Ending → World → Prop) (w : World) : Prop :=
 doCall Tryz.prog (.func (.func 204) #[] #[]) #[.int .i64 k_1] w (retS (fun v3 w4 => ∃ (x2 : Int), v3 = (.int .u64 x2 : Value) ∧ (
 doCall Tryz.prog (.func (.func 214) #[] #[]) #[.int .u64 x2, .int .i64 32] w4 (retS (fun v6 w7 => ∃ (x5 : Int), v6 = (.int .u64 x5 : Value) ∧ (
 R (.returned (.int .u64 x5)) w7)) (fun ch w => Kfn R ch [] w)))) (fun ch w => Kfn R ch [] w))
set_option maxRecDepth 100000 in
theorem sh216_ok (k_1 : Int) {R : Ending → World → Prop} {w : World} : sh216 k_1 R w → Calls Tryz.prog 216 #[.int .i64 k_1] w R :=
  calls_of_eq (ann := fun _ => []) (fn := Tryz.f216) (c := bodyOf Tryz.f216) (args := #[.int .i64 k_1]) 400 follows_mixed Tryz.func216 (by kernel_rfl) (by kernel_rfl)
set_option maxRecDepth 100000 in
/-- joinery/order.kinds$11 -/
def sh218 (k_1 : Int) (R : Ending → World → Prop) (w : World) : Prop :=
 doCall Tryz.prog (.func (.func 219) #[] #[]) #[.int .u64 (IntKind.wrap .u64 k_1)] w (retS (fun v3 w4 => ∃ (x2 : Int), v3 = (.int .u64 x2 : Value) ∧ (
 R (.returned (.int .u64 x2)) w4)) (fun ch w => Kfn R ch [] w))
set_option maxRecDepth 100000 in
theorem sh218_ok (k_1 : Int) {R : Ending → World → Prop} {w : World} : sh218 k_1 R w → Calls Tryz.prog 218 #[.int .i64 k_1] w R :=
  calls_of_eq (ann := fun _ => []) (fn := Tryz.f218) (c := bodyOf Tryz.f218) (args := #[.int .i64 k_1]) 400 follows_mixed Tryz.func218 (by kernel_rfl) (by kernel_rfl)
set_option maxRecDepth 100000 in
/-- joinery/mix.Mix -/
def sh219 (x_1 : Int) (R : Ending → World → Prop) (w : World) : Prop :=
 doAl (.cells #[.int .u64 x_1] 90) w (fun b2 w3 =>
 doCall Tryz.prog (.func (.func 257) #[] #[]) #[.bool false] w3 (retS (fun v7 w8 => ∃ (xf4 : Fn), ∃ (xx5 : Array Value), ∃ (xc6 : Array Value), v7 = (.func xf4 xx5 xc6 : Value) ∧ (
 rfW Tryz.prog (.func xf4 xx5 xc6) (mkLoop #[.int .u64 x_1, .pointer (some (blk b2)), .int .u64 0, undef, .func xf4 xx5 xc6, undef, undef, undef, undef, undef, undef, undef, undef, undef, undef, undef] (rfOf Tryz.f219 0).1 (rfOf Tryz.f219 0).2.1 (rfOf Tryz.f219 0).2.2)
 (fun w9 =>
 ∃ (x10 : Int), World.cell? w9 (blk b2) = some (.int .u64 x10) ∧ (
 w9.heap[w8.heap.size]? = some (.deferred (some [])) ∧ (
 let w11 : World := w9.putObj w8.heap.size (.deferred none)
 R (.returned (.int .u64 x10)) w11)))
 (fun w12 =>
 w12.heap[w8.heap.size]? = some (.deferred (some [])) ∧ (
 let w13 : World := w12.putObj w8.heap.size (.deferred none)
 R (.returned (.int .u64 0)) w13))
 [] w8)) (fun ch w => Kfn R ch [] w)))
set_option maxRecDepth 100000 in
theorem sh219_ok (x_1 : Int) {R : Ending → World → Prop} {w : World} : sh219 x_1 R w → Calls Tryz.prog 219 #[.int .u64 x_1] w R :=
  calls_of_eq (ann := fun _ => []) (fn := Tryz.f219) (c := bodyOf Tryz.f219) (args := #[.int .u64 x_1]) 400 follows_mixed Tryz.func219 (by kernel_rfl) (by kernel_rfl)
set_option maxRecDepth 100000 in
/-- joinery/mix.Mix, a round of loop 0 -/
def sh219_0 (x_1 : Addr) (y17 : Int) (y18 : Int) (l : Nat) (R : Ending → World → Prop) (w : World) : Prop :=
 doAl (.cells #[.int .i64 0, .int .u64 0] 298) w (fun b19 w20 =>
 doSt ((blk b19).add 0) (.int .i64 y17) w20 (fun w21 =>
 doSt ((blk b19).add 1) (.int .u64 y18) w21 (fun w22 =>
 ∃ (r23 : Loop), w22.heap[l]? = some (.loop r23) ∧ r23.state = .ready ∧ (
 let w24 : World := w22.putObj l (.loop { r23 with state := .busy })
 doDr w24 (fun w26 =>
 ∃ (C25 : World → Prop), C25 w26 ∧ (
 ∃ (x27 : Int), (∀ w, C25 w → World.cell? w x_1 = some (.int .u64 x27)) ∧ (
 ∃ (x28 : Int), (∀ w, C25 w → World.cell? w x_1 = some (.int .u64 x28)) ∧ (
 ∃ (x29 : Int), (∀ w, C25 w → World.cell? w ((blk b19).add 0) = some (.int .i64 x29)) ∧ (
 (0 : Int) ≤ x29 ∧ (
 ∃ (x30 : Int), (∀ w, C25 w → World.cell? w ((blk b19).add 1) = some (.int .u64 x30)) ∧ (
 doSt (x_1.add 0) (.int .u64 (IntKind.wrap .u64 ((bXor .u64 x27 (Int.fdiv x28 (2 ^ (min (x29 : Int).toNat (IntKind.bits .u64))))) * x30))) w26 (fun w31 =>
 ∃ (r32 : Loop), w31.heap[l]? = some (.loop r32) ∧ R (.returned (.bool true)) (w31.putObj l (.loop { r32 with state := .ready, pending := none }))))))))))))))
set_option maxRecDepth 100000 in
theorem sh219_0_ok {dd2 : Value} {dd3 : Value} {dd4 : Value} {dd5 : Value} {dd6 : Value} {dd7 : Value} {dd8 : Value} {dd9 : Value} {dd10 : Value} {dd11 : Value} {dd12 : Value} {dd13 : Value} {dd14 : Value} {dd15 : Value} {dd16 : Value} {x_1 : Addr} {y17 : Int} {y18 : Int} {l fn D : Nat} {R : Ending → World → Prop} {w : World} (hl : w.heap[l]? = some (.loop (mkLoop #[dd2, .pointer (some x_1), dd3, dd4, dd5, dd6, dd7, dd8, dd9, dd10, dd11, dd12, dd13, dd14, dd15, dd16] (rfOf Tryz.f219 0).1 (rfOf Tryz.f219 0).2.1 (rfOf Tryz.f219 0).2.2 fn D))) : sh219_0 x_1 y17 y18 l R w → doCall Tryz.prog (.func (.yield l) #[] #[]) #[.agg #[.int .i64 y17, .int .u64 y18]] w R :=
  fun h => ⟨round_of_eq (ann := fun _ => []) 400 follows_mixed hl (by kernel_rfl) (by kernel_rfl) h⟩
set_option maxRecDepth 100000 in
/-- cmp.isNaN[uint64] -/
def sh224 (x_1 : Int) (R : Ending → World → Prop) (w : World) : Prop :=
 R (.returned (.bool ((x_1 : Int) != x_1))) w
set_option maxRecDepth 100000 in
theorem sh224_ok (x_1 : Int) {R : Ending → World → Prop} {w : World} : sh224 x_1 R w → Calls Tryz.prog 224 #[.int .u64 x_1] w R :=
  calls_of_eq (ann := fun _ => []) (fn := Tryz.f224) (c := bodyOf Tryz.f224) (args := #[.int .u64 x_1]) 400 follows_mixed Tryz.func224 (by kernel_rfl) (by kernel_rfl)
set_option maxRecDepth 100000 in
/-- joinery/avljoin.right$1 -/
def sh227 (in_1 : Option Addr) (pair_2 : Option Addr) (out_3 : Option Addr) (R : Ending → World → Prop) (w : World) : Prop :=
 doCall Tryz.prog (.func (.func 107) #[] #[]) #[.pointer pair_2] w (retS (fun v5 w6 => ∃ (x4 : Int), v5 = (.int .i64 x4 : Value) ∧ (
 doCall Tryz.prog (.func (.func 165) #[] #[]) #[.pointer pair_2] w6 (retS (fun v8 w9 => ∃ (x7 : Int), v8 = (.int .i64 x7 : Value) ∧ (
 doCall Tryz.prog (.func (.func 181) #[] #[]) #[.pointer in_1, .int .i64 x4, .int .i64 x7, .pointer out_3] w9 (retS (fun v11 w12 => ∃ (x10 : Option Addr), v11 = (.pointer x10 : Value) ∧ (
 R (.returned (.pointer x10)) w12)) (fun ch w => Kfn R ch [] w)))) (fun ch w => Kfn R ch [] w)))) (fun ch w => Kfn R ch [] w))
set_option maxRecDepth 100000 in
theorem sh227_ok (in_1 : Option Addr) (pair_2 : Option Addr) (out_3 : Option Addr) {R : Ending → World → Prop} {w : World} : sh227 in_1 pair_2 out_3 R w → Calls Tryz.prog 227 #[.pointer in_1, .pointer pair_2, .pointer out_3] w R :=
  calls_of_eq (ann := fun _ => []) (fn := Tryz.f227) (c := bodyOf Tryz.f227) (args := #[.pointer in_1, .pointer pair_2, .pointer out_3]) 400 follows_mixed Tryz.func227 (by kernel_rfl) (by kernel_rfl)
set_option maxRecDepth 100000 in
/-- (joinery/avljoin.side).inward -/
def sh228 (s_f1 : Fn) (s_x2 : Array Value) (s_c3 : Array Value) (s_f4 : Fn) (s_x5 : Array Value) (s_c6 : Array Value) (s_f7 : Fn) (s_x8 : Array Value) (s_c9 : Array Value) (t_10 : Option Addr) (R : Ending → World → Prop) (w : World) : Prop :=
 doAl (.cells #[.func s_f1 s_x2 s_c3, .func s_f4 s_x5 s_c6, .func s_f7 s_x8 s_c9] 251) w (fun b11 w12 =>
 ∃ (xf13 : Fn), ∃ (xx14 : Array Value), ∃ (xc15 : Array Value), World.cell? w12 ((blk b11).add 1) = some (.func xf13 xx14 xc15) ∧ (
 doCall Tryz.prog (.func xf13 xx14 xc15) #[.pointer t_10] w12 (retS (fun v17 w18 => ∃ (x16 : Option Addr), v17 = (.pointer x16 : Value) ∧ (
 doDr w18 (fun w20 =>
 ∃ (C19 : World → Prop), C19 w20 ∧ (
 ∃ (xf21 : Fn), ∃ (xx22 : Array Value), ∃ (xc23 : Array Value), (∀ w, C19 w → World.cell? w ((blk b11).add 2) = some (.func xf21 xx22 xc23)) ∧ (
 ∃ (xf24 : Fn), ∃ (xx25 : Array Value), ∃ (xc26 : Array Value), (∀ w, C19 w → World.cell? w ((blk b11).add 2) = some (.func xf24 xx25 xc26)) ∧ (
 ∃ (xf27 : Fn), ∃ (xx28 : Array Value), ∃ (xc29 : Array Value), (∀ w, C19 w → World.cell? w ((blk b11).add 0) = some (.func xf27 xx28 xc29)) ∧ (
 ∃ (xf30 : Fn), ∃ (xx31 : Array Value), ∃ (xc32 : Array Value), (∀ w, C19 w → World.cell? w ((blk b11).add 0) = some (.func xf30 xx31 xc32)) ∧ (
 ∃ (xf33 : Fn), ∃ (xx34 : Array Value), ∃ (xc35 : Array Value), (∀ w, C19 w → World.cell? w ((blk b11).add 1) = some (.func xf33 xx34 xc35)) ∧ (
 doCall Tryz.prog (.func xf27 xx28 xc29) #[.pointer t_10] w20 (retS (fun v37 w38 => ∃ (x36 : Option Addr), v37 = (.pointer x36 : Value) ∧ (
 C19 w38 ∧ (
 doCall Tryz.prog (.func xf30 xx31 xc32) #[.pointer x16] w38 (retS (fun v40 w41 => ∃ (x39 : Option Addr), v40 = (.pointer x39 : Value) ∧ (
 C19 w41 ∧ (
 doCall Tryz.prog (.func xf24 xx25 xc26) #[.pointer x36, .pointer t_10, .pointer x39] w41 (retS (fun v43 w44 => ∃ (x42 : Option Addr), v43 = (.pointer x42 : Value) ∧ (
 C19 w44 ∧ (
 doCall Tryz.prog (.func xf33 xx34 xc35) #[.pointer x16] w44 (retS (fun v46 w47 => ∃ (x45 : Option Addr), v46 = (.pointer x45 : Value) ∧ (
 C19 w47 ∧ (
 doCall Tryz.prog (.func xf21 xx22 xc23) #[.pointer x42, .pointer x16, .pointer x45] w47 (retS (fun v49 w50 => ∃ (x48 : Option Addr), v49 = (.pointer x48 : Value) ∧ (
 C19 w50 ∧ (
 R (.returned (.pointer x48)) w50))) (fun ch w => Kfn R ch [] w))))) (fun ch w => Kfn R ch [] w))))) (fun ch w => Kfn R ch [] w))))) (fun ch w => Kfn R ch [] w))))) (fun ch w => Kfn R ch [] w))))))))))) (fun ch w => Kfn R ch [] w))))
set_option maxRecDepth 100000 in
theorem sh228_ok (s_f1 : Fn) (s_x2 : Array Value) (s_c3 : Array Value) (s_f4 : Fn) (s_x5 : Array Value) (s_c6 : Array Value) (s_f7 : Fn) (s_x8 : Array Value) (s_c9 : Array Value) (t_10 : Option Addr) {R : Ending → World → Prop} {w : World} : sh228 s_f1 s_x2 s_c3 s_f4 s_x5 s_c6 s_f7 s_x8 s_c9 t_10 R w → Calls Tryz.prog 228 #[.agg #[.func s_f1 s_x2 s_c3, .func s_f4 s_x5 s_c6, .func s_f7 s_x8 s_c9], .pointer t_10] w R :=
  calls_of_eq (ann := fun _ => []) (fn := Tryz.f228) (c := bodyOf Tryz.f228) (args := #[.agg #[.func s_f1 s_x2 s_c3, .func s_f4 s_x5 s_c6, .func s_f7 s_x8 s_c9], .pointer t_10]) 400 follows_mixed Tryz.func228 (by kernel_rfl) (by kernel_rfl)
set_option maxRecDepth 100000 in
/-- (joinery/avljoin.side).outward -/
def sh229 (s_f1 : Fn) (s_x2 : Array Value) (s_c3 : Array Value) (s_f4 : Fn) (s_x5 : Array Value) (s_c6 : Array Value) (s_f7 : Fn) (s_x8 : Array Value) (s_c9 : Array Value) (t_10 : Option Addr) (R : Ending → World → Prop) (w : World) : Prop :=
 doAl (.cells #[.func s_f1 s_x2 s_c3, .func s_f4 s_x5 s_c6, .func s_f7 s_x8 s_c9] 251) w (fun b11 w12 =>
 ∃ (xf13 : Fn), ∃ (xx14 : Array Value), ∃ (xc15 : Array Value), World.cell? w12 ((blk b11).add 0) = some (.func xf13 xx14 xc15) ∧ (
 doCall Tryz.prog (.func xf13 xx14 xc15) #[.pointer t_10] w12 (retS (fun v17 w18 => ∃ (x16 : Option Addr), v17 = (.pointer x16 : Value) ∧ (
 doDr w18 (fun w20 =>
 ∃ (C19 : World → Prop), C19 w20 ∧ (
 ∃ (xf21 : Fn), ∃ (xx22 : Array Value), ∃ (xc23 : Array Value), (∀ w, C19 w → World.cell? w ((blk b11).add 2) = some (.func xf21 xx22 xc23)) ∧ (
 ∃ (xf24 : Fn), ∃ (xx25 : Array Value), ∃ (xc26 : Array Value), (∀ w, C19 w → World.cell? w ((blk b11).add 0) = some (.func xf24 xx25 xc26)) ∧ (
 ∃ (xf27 : Fn), ∃ (xx28 : Array Value), ∃ (xc29 : Array Value), (∀ w, C19 w → World.cell? w ((blk b11).add 2) = some (.func xf27 xx28 xc29)) ∧ (
 ∃ (xf30 : Fn), ∃ (xx31 : Array Value), ∃ (xc32 : Array Value), (∀ w, C19 w → World.cell? w ((blk b11).add 1) = some (.func xf30 xx31 xc32)) ∧ (
 ∃ (xf33 : Fn), ∃ (xx34 : Array Value), ∃ (xc35 : Array Value), (∀ w, C19 w → World.cell? w ((blk b11).add 1) = some (.func xf33 xx34 xc35)) ∧ (
 doCall Tryz.prog (.func xf24 xx25 xc26) #[.pointer x16] w20 (retS (fun v37 w38 => ∃ (x36 : Option Addr), v37 = (.pointer x36 : Value) ∧ (
 C19 w38 ∧ (
 doCall Tryz.prog (.func xf30 xx31 xc32) #[.pointer x16] w38 (retS (fun v40 w41 => ∃ (x39 : Option Addr), v40 = (.pointer x39 : Value) ∧ (
 C19 w41 ∧ (
 doCall Tryz.prog (.func xf33 xx34 xc35) #[.pointer t_10] w41 (retS (fun v43 w44 => ∃ (x42 : Option Addr), v43 = (.pointer x42 : Value) ∧ (
 C19 w44 ∧ (
 doCall Tryz.prog (.func xf27 xx28 xc29) #[.pointer x39, .pointer t_10, .pointer x42] w44 (retS (fun v46 w47 => ∃ (x45 : Option Addr), v46 = (.pointer x45 : Value) ∧ (
 C19 w47 ∧ (
 doCall Tryz.prog (.func xf21 xx22 xc23) #[.pointer x36, .pointer x16, .pointer x45] w47 (retS (fun v49 w50 => ∃ (x48 : Option Addr), v49 = (.pointer x48 : Value) ∧ (
 C19 w50 ∧ (
 R (.returned (.pointer x48)) w50))) (fun ch w => Kfn R ch [] w))))) (fun ch w => Kfn R ch [] w))))) (fun ch w => Kfn R ch [] w))))) (fun ch w => Kfn R ch [] w))))) (fun ch w => Kfn R ch [] w))))))))))) (fun ch w => Kfn R ch [] w))))
set_option maxRecDepth 100000 in
theorem sh229_ok (s_f1 : Fn) (s_x2 : Array Value) (s_c3 : Array Value) (s_f4 : Fn) (s_x5 : Array Value) (s_c6 : Array Value) (s_f7 : Fn) (s_x8 : Array Value) (s_c9 : Array Value) (t_10 : Option Addr) {R : Ending → World → Prop} {w : World} : sh229 s_f1 s_x2 s_c3 s_f4 s_x5 s_c6 s_f7 s_x8 s_c9 t_10 R w → Calls Tryz.prog 229 #[.agg #[.func s_f1 s_x2 s_c3, .func s_f4 s_x5 s_c6, .func s_f7 s_x8 s_c9], .pointer t_10] w R :=
  calls_of_eq (ann := fun _ => []) (fn := Tryz.f229) (c := bodyOf Tryz.f229) (args := #[.agg #[.func s_f1 s_x2 s_c3, .func s_f4 s_x5 s_c6, .func s_f7 s_x8 s_c9], .pointer t_10]) 400 follows_mixed Tryz.func229 (by kernel_rfl) (by kernel_rfl)
set_option maxRecDepth 100000 in
/-- joinery/avljoin.left$1 -/
def sh230 (in_1 : Option Addr) (pair_2 : Option Addr) (out_3 : Option Addr) (R : Ending → World → Prop) (w : World) : Prop :=
 doCall Tryz.prog (.func (.func 107) #[] #[]) #[.pointer pair_2] w (retS (fun v5 w6 => ∃ (x4 : Int), v5 = (.int .i64 x4 : Value) ∧ (
 doCall Tryz.prog (.func (.func 165) #[] #[]) #[.pointer pair_2] w6 (retS (fun v8 w9 => ∃ (x7 : Int), v8 = (.int .i64 x7 : Value) ∧ (
 doCall Tryz.prog (.func (.func 181) #[] #[]) #[.pointer out_3, .int .i64 x4, .int .i64 x7, .pointer in_1] w9 (retS (fun v11 w12 => ∃ (x10 : Option Addr), v11 = (.pointer x10 : Value) ∧ (
 R (.returned (.pointer x10)) w12)) (fun ch w => Kfn R ch [] w)))) (fun ch w => Kfn R ch [] w)))) (fun ch w => Kfn R ch [] w))
set_option maxRecDepth 100000 in
theorem sh230_ok (in_1 : Option Addr) (pair_2 : Option Addr) (out_3 : Option Addr) {R : Ending → World → Prop} {w : World} : sh230 in_1 pair_2 out_3 R w → Calls Tryz.prog 230 #[.pointer in_1, .pointer pair_2, .pointer out_3] w R :=
  calls_of_eq (ann := fun _ => []) (fn := Tryz.f230) (c := bodyOf Tryz.f230) (args := #[.pointer in_1, .pointer pair_2, .pointer out_3]) 400 follows_mixed Tryz.func230 (by kernel_rfl) (by kernel_rfl)
set_option maxRecDepth 100000 in
/-- joinery/avl.looks$1 -/
def sh231 (n_1 : Option Addr) (R : Ending → World → Prop) (w : World) : Prop :=
 doCall Tryz.prog (.func (.func 108) #[] #[]) #[.pointer n_1] w (retS (fun v3 w4 => ∃ (x2 : Option Addr), v3 = (.pointer x2 : Value) ∧ (
 doCall Tryz.prog (.func (.func 166) #[] #[]) #[.pointer x2] w4 (retS (fun v6 w7 => ∃ (x5 : Int), v6 = (.int .u64 x5 : Value) ∧ (
 doCall Tryz.prog (.func (.func 109) #[] #[]) #[.pointer n_1] w7 (retS (fun v9 w10 => ∃ (x8 : Option Addr), v9 = (.pointer x8 : Value) ∧ (
 doCall Tryz.prog (.func (.func 166) #[] #[]) #[.pointer x8] w10 (retS (fun v12 w13 => ∃ (x11 : Int), v12 = (.int .u64 x11 : Value) ∧ (
 doGo Tryz.prog (.builtin .min #[90, 90] 90 #[false, false]) #[.int .u64 x5, .int .u64 x11] w13 (retS (fun v15 w16 => ∃ (x14 : Int), v15 = (.int .u64 x14 : Value) ∧ (
 doGo Tryz.prog (.builtin .max #[90, 90] 90 #[false, false]) #[.int .u64 x5, .int .u64 x11] w16 (retS (fun v18 w19 => ∃ (x17 : Int), v18 = (.int .u64 x17 : Value) ∧ (
 R (.returned (.tuple #[.int .u64 x14, .int .u64 x17])) w19)) (fun ch w => Kfn R ch [] w)))) (fun ch w => Kfn R ch [] w)))) (fun ch w => Kfn R ch [] w)))) (fun ch w => Kfn R ch [] w)))) (fun ch w => Kfn R ch [] w)))) (fun ch w => Kfn R ch [] w))
set_option maxRecDepth 100000 in
theorem sh231_ok (n_1 : Option Addr) {R : Ending → World → Prop} {w : World} : sh231 n_1 R w → Calls Tryz.prog 231 #[.pointer n_1] w R :=
  calls_of_eq (ann := fun _ => []) (fn := Tryz.f231) (c := bodyOf Tryz.f231) (args := #[.pointer n_1]) 400 follows_mixed Tryz.func231 (by kernel_rfl) (by kernel_rfl)
set_option maxRecDepth 100000 in
/-- joinery/avl.looks$2 -/
def sh232 (n_1 : Option Addr) (x2 : Addr) (R : Ending → World → Prop) (w : World) : Prop :=
 ∃ (xf3 : Fn), ∃ (xx4 : Array Value), ∃ (xc5 : Array Value), World.cell? w x2 = some (.func xf3 xx4 xc5) ∧ (
 doCall Tryz.prog (.func xf3 xx4 xc5) #[.pointer n_1] w (retS (fun v8 w9 => ∃ (x6 : Int), ∃ (x7 : Int), v8 = (.tuple #[.int .u64 x6, .int .u64 x7] : Value) ∧ (
 let K12 : Bool → World → Prop := fun (x10 : Bool) (w11 : World) => 
 R (.returned (.bool x10)) w11
 doCall Tryz.prog (.func (.func 166) #[] #[]) #[.pointer n_1] w9 (retS (fun v14 w15 => ∃ (x13 : Int), v14 = (.int .u64 x13 : Value) ∧ (
 ifB ((x13 : Int) == 0) (
 R (.returned (.bool true)) w15) (
 doCall Tryz.prog (.func (.func 166) #[] #[]) #[.pointer n_1] w15 (retS (fun v17 w18 => ∃ (x16 : Int), v17 = (.int .u64 x16 : Value) ∧ (
 K12 (((IntKind.wrap .u64 (x16 - 1)) : Int) != x7) w18)) (fun ch w => Kfn R ch [] w))))) (fun ch w => Kfn R ch [] w)))) (fun ch w => Kfn R ch [] w)))
set_option maxRecDepth 100000 in
theorem sh232_ok (n_1 : Option Addr) (x2 : Addr) {R : Ending → World → Prop} {w : World} : sh232 n_1 x2 R w → Calls Tryz.prog 232 #[.pointer n_1, .pointer (some x2)] w R :=
  calls_of_eq (ann := fun _ => []) (fn := Tryz.f232) (c := bodyOf Tryz.f232) (args := #[.pointer n_1, .pointer (some x2)]) 400 follows_mixed Tryz.func232 (by kernel_rfl) (by kernel_rfl)
set_option maxRecDepth 100000 in
/-- joinery/avl.looks$3 -/
def sh233 (n_1 : Option Addr) (x2 : Addr) (R : Ending → World → Prop) (w : World) : Prop :=
 ∃ (xf3 : Fn), ∃ (xx4 : Array Value), ∃ (xc5 : Array Value), World.cell? w x2 = some (.func xf3 xx4 xc5) ∧ (
 doCall Tryz.prog (.func xf3 xx4 xc5) #[.pointer n_1] w (retS (fun v8 w9 => ∃ (x6 : Int), ∃ (x7 : Int), v8 = (.tuple #[.int .u64 x6, .int .u64 x7] : Value) ∧ (
 R (.returned (.bool (decide (((IntKind.wrap .u64 (x7 - x6)) : Int) > 1)))) w9)) (fun ch w => Kfn R ch [] w)))
set_option maxRecDepth 100000 in
theorem sh233_ok (n_1 : Option Addr) (x2 : Addr) {R : Ending → World → Prop} {w : World} : sh233 n_1 x2 R w → Calls Tryz.prog 233 #[.pointer n_1, .pointer (some x2)] w R :=
  calls_of_eq (ann := fun _ => []) (fn := Tryz.f233) (c := bodyOf Tryz.f233) (args := #[.pointer n_1, .pointer (some x2)]) 400 follows_mixed Tryz.func233 (by kernel_rfl) (by kernel_rfl)
set_option maxRecDepth 100000 in
/-- joinery/avl.beads$1 -/
def sh234 (yield_f1 : Fn) (yield_x2 : Array Value) (yield_c3 : Array Value) (x4 : Addr) (R : Ending → World → Prop) (w : World) : Prop :=
 doAl (.cells #[.func yield_f1 yield_x2 yield_c3] 159) w (fun b5 w6 =>
 doAl (.cells #[.nilFunc] 159) w6 (fun b7 w8 =>
 doSt ((blk b7).add 0) (.func (.func 235) #[] #[.pointer (some (blk b5)), .pointer (some (blk b7))]) w8 (fun w9 =>
 ∃ (xf10 : Fn), ∃ (xx11 : Array Value), ∃ (xc12 : Array Value), World.cell? w9 (blk b7) = some (.func xf10 xx11 xc12) ∧ (
 ∃ (x13 : Option Addr), World.cell? w9 x4 = some (.pointer x13) ∧ (
 doCall Tryz.prog (.func xf10 xx11 xc12) #[.pointer x13] w9 (retS (fun v15 w16 => ∃ (x14 : Bool), v15 = (.bool x14 : Value) ∧ (
 R (.returned (.tuple #[])) w16)) (fun ch w => Kfn R ch [] w)))))))
set_option maxRecDepth 100000 in
theorem sh234_ok (yield_f1 : Fn) (yield_x2 : Array Value) (yield_c3 : Array Value) (x4 : Addr) {R : Ending → World → Prop} {w : World} : sh234 yield_f1 yield_x2 yield_c3 x4 R w → Calls Tryz.prog 234 #[.func yield_f1 yield_x2 yield_c3, .pointer (some x4)] w R :=
  calls_of_eq (ann := fun _ => []) (fn := Tryz.f234) (c := bodyOf Tryz.f234) (args := #[.func yield_f1 yield_x2 yield_c3, .pointer (some x4)]) 400 follows_mixed Tryz.func234 (by kernel_rfl) (by kernel_rfl)
set_option maxRecDepth 100000 in
/-- joinery/avl.beads$1$1 -/
def sh235 (n_1 : Option Addr) (x2 : Addr) (x3 : Addr) (R : Ending → World → Prop) (w : World) : Prop :=
 let K6 : Bool → World → Prop := fun (x4 : Bool) (w5 : World) => 
 R (.returned (.bool x4)) w5
 doDr w (fun w8 =>
 ∃ (C7 : World → Prop), C7 w8 ∧ (
 ifB ((n_1).isNone) (
 R (.returned (.bool true)) w8) (
 ∃ (xf9 : Fn), ∃ (xx10 : Array Value), ∃ (xc11 : Array Value), (∀ w, C7 w → World.cell? w x2 = some (.func xf9 xx10 xc11)) ∧ (
 doCall Tryz.prog (.func xf9 xx10 xc11) #[.pointer n_1] w8 (retS (fun v13 w14 => ∃ (x12 : Bool), v13 = (.bool x12 : Value) ∧ (
 C7 w14 ∧ (
 ifB x12 (
 ∃ (xf15 : Fn), ∃ (xx16 : Array Value), ∃ (xc17 : Array Value), (∀ w, C7 w → World.cell? w x3 = some (.func xf15 xx16 xc17)) ∧ (
 doCall Tryz.prog (.func (.func 108) #[] #[]) #[.pointer n_1] w14 (retS (fun v19 w20 => ∃ (x18 : Option Addr), v19 = (.pointer x18 : Value) ∧ (
 C7 w20 ∧ (
 doCall Tryz.prog (.func xf15 xx16 xc17) #[.pointer x18] w20 (retS (fun v22 w23 => ∃ (x21 : Bool), v22 = (.bool x21 : Value) ∧ (
 C7 w23 ∧ (
 ifB x21 (
 ∃ (xf24 : Fn), ∃ (xx25 : Array Value), ∃ (xc26 : Array Value), (∀ w, C7 w → World.cell? w x3 = some (.func xf24 xx25 xc26)) ∧ (
 doCall Tryz.prog (.func (.func 109) #[] #[]) #[.pointer n_1] w23 (retS (fun v28 w29 => ∃ (x27 : Option Addr), v28 = (.pointer x27 : Value) ∧ (
 C7 w29 ∧ (
 doCall Tryz.prog (.func xf24 xx25 xc26) #[.pointer x27] w29 (retS (fun v31 w32 => ∃ (x30 : Bool), v31 = (.bool x30 : Value) ∧ (
 C7 w32 ∧ (
 K6 x30 w32))) (fun ch w => Kfn R ch [] w))))) (fun ch w => Kfn R ch [] w)))) (
 R (.returned (.bool false)) w23)))) (fun ch w => Kfn R ch [] w))))) (fun ch w => Kfn R ch [] w)))) (
 R (.returned (.bool false)) w14)))) (fun ch w => Kfn R ch [] w))))))
set_option maxRecDepth 100000 in
theorem sh235_ok (n_1 : Option Addr) (x2 : Addr) (x3 : Addr) {R : Ending → World → Prop} {w : World} : sh235 n_1 x2 x3 R w → Calls Tryz.prog 235 #[.pointer n_1, .pointer (some x2), .pointer (some x3)] w R :=
  calls_of_eq (ann := fun _ => []) (fn := Tryz.f235) (c := bodyOf Tryz.f235) (args := #[.pointer n_1, .pointer (some x2), .pointer (some x3)]) 400 follows_mixed Tryz.func235 (by kernel_rfl) (by kernel_rfl)
set_option maxRecDepth 100000 in
/-- joinery/rb.over -/
def sh236 (high_1 : Int) (is_2 : Bool) (R : Ending → World → Prop) (w : World) : Prop :=
 doAl (.cells #[.int .u64 0, .int .u64 0] 276) w (fun b3 w4 =>
 ifB is_2 (
 doSt ((blk b3).add 0) (.int .u64 1) w4 (fun w5 =>
 doSt ((blk b3).add 1) (.int .u64 high_1) w5 (fun w6 =>
 ∃ (x7 : Int), World.cell? w6 ((blk b3).add 0) = some (.int .u64 x7) ∧ (
 ∃ (x8 : Int), World.cell? w6 ((blk b3).add 1) = some (.int .u64 x8) ∧ (
 R (.returned (.agg #[.int .u64 x7, .int .u64 x8])) w6))))) (
 doSt ((blk b3).add 0) (.int .u64 0) w4 (fun w9 =>
 doSt ((blk b3).add 1) (.int .u64 (IntKind.wrap .u64 (high_1 + 1))) w9 (fun w10 =>
 ∃ (x11 : Int), World.cell? w10 ((blk b3).add 0) = some (.int .u64 x11) ∧ (
 ∃ (x12 : Int), World.cell? w10 ((blk b3).add 1) = some (.int .u64 x12) ∧ (
 R (.returned (.agg #[.int .u64 x11, .int .u64 x12])) w10))))))
set_option maxRecDepth 100000 in
theorem sh236_ok (high_1 : Int) (is_2 : Bool) {R : Ending → World → Prop} {w : World} : sh236 high_1 is_2 R w → Calls Tryz.prog 236 #[.int .u64 high_1, .bool is_2] w R :=
  calls_of_eq (ann := fun _ => []) (fn := Tryz.f236) (c := bodyOf Tryz.f236) (args := #[.int .u64 high_1, .bool is_2]) 400 follows_mixed Tryz.func236 (by kernel_rfl) (by kernel_rfl)
set_option maxRecDepth 100000 in
/-- joinery/rb.of -/
def sh237 (t_1 : Option Addr) (R : Ending → World → Prop) (w : World) : Prop :=
 doAl (.cells #[.int .u64 0, .int .u64 0] 276) w (fun b2 w3 =>
 doCall Tryz.prog (.func (.func 166) #[] #[]) #[.pointer t_1] w3 (retS (fun v5 w6 => ∃ (x4 : Int), v5 = (.int .u64 x4 : Value) ∧ (
 2 ≠ (0 : Int) ∧ (
 doCall Tryz.prog (.func (.func 166) #[] #[]) #[.pointer t_1] w6 (retS (fun v8 w9 => ∃ (x7 : Int), v8 = (.int .u64 x7 : Value) ∧ (
 2 ≠ (0 : Int) ∧ (
 doSt ((blk b2).add 0) (.int .u64 (Int.tmod x4 2)) w9 (fun w10 =>
 doSt ((blk b2).add 1) (.int .u64 (IntKind.wrap .u64 (Int.tdiv x7 2))) w10 (fun w11 =>
 ∃ (x12 : Int), World.cell? w11 ((blk b2).add 0) = some (.int .u64 x12) ∧ (
 ∃ (x13 : Int), World.cell? w11 ((blk b2).add 1) = some (.int .u64 x13) ∧ (
 R (.returned (.agg #[.int .u64 x12, .int .u64 x13])) w11))))))) (fun ch w => Kfn R ch [] w))))) (fun ch w => Kfn R ch [] w)))
set_option maxRecDepth 100000 in
theorem sh237_ok (t_1 : Option Addr) {R : Ending → World → Prop} {w : World} : sh237 t_1 R w → Calls Tryz.prog 237 #[.pointer t_1] w R :=
  calls_of_eq (ann := fun _ => []) (fn := Tryz.f237) (c := bodyOf Tryz.f237) (args := #[.pointer t_1]) 400 follows_mixed Tryz.func237 (by kernel_rfl) (by kernel_rfl)
set_option maxRecDepth 100000 in
/-- (joinery/rb.what).tag -/
def sh238 (w_1 : Int) (w_2 : Int) (R : Ending → World → Prop) (w : World) : Prop :=
 doAl (.cells #[.int .u64 w_1, .int .u64 w_2] 276) w (fun b3 w4 =>
 ∃ (x5 : Int), World.cell? w4 ((blk b3).add 1) = some (.int .u64 x5) ∧ (
 ∃ (x6 : Int), World.cell? w4 ((blk b3).add 0) = some (.int .u64 x6) ∧ (
 R (.returned (.int .u64 (IntKind.wrap .u64 ((IntKind.wrap .u64 (2 * x5)) + x6)))) w4)))
set_option maxRecDepth 100000 in
theorem sh238_ok (w_1 : Int) (w_2 : Int) {R : Ending → World → Prop} {w : World} : sh238 w_1 w_2 R w → Calls Tryz.prog 238 #[.agg #[.int .u64 w_1, .int .u64 w_2]] w R :=
  calls_of_eq (ann := fun _ => []) (fn := Tryz.f238) (c := bodyOf Tryz.f238) (args := #[.agg #[.int .u64 w_1, .int .u64 w_2]]) 400 follows_mixed Tryz.func238 (by kernel_rfl) (by kernel_rfl)
end Go.Proofs.YtbaoihmffobneaaGreat
