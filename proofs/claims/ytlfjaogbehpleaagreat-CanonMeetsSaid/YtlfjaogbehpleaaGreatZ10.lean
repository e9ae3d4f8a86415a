/-
  Printed by a program (gen.py): what the functions of the program do, as formulas; each with the proof that its call is what the formula says.
-/
/-
  Printed by a program (gen.py): what the functions of the program do, as formulas; each with the proof that its call is what the formula says.
-/
import Derived.Test.YtlfjaogbehpleaaGreatZ04
import Derived.Test.YtlfjaogbehpleaaGreatProg
import Derived.Test.YtlfjaogbehpleaaGreatZ05

namespace Go.Proofs.YtlfjaogbehpleaaGreat
open Go Go.Sh
set_option maxRecDepth 100000 in
/-- joinery/treap.Above -/
def sh274 (a_1 : Option Addr) (b_2 : Option Addr) (R : Ending → World → Prop) (w : World) : Prop :=
 let K5 : Bool → World → Prop := fun (x3 : Bool) (w4 : World) => 
 R (.returned (.bool x3)) w4
 ifB (!(a_1).isNone) (
 ifB (!(b_2).isNone) (
 doCall Tryz.prog (.func (.func 328) #[] #[]) #[.pointer a_1] w (retS (fun v9 w10 => ∃ (x6 : Int), ∃ (x7 : Int), ∃ (x8 : Int), v9 = (.agg #[.int .i64 x6, .int .i64 x7, .int .u64 x8] : Value) ∧ (
 doCall Tryz.prog (.func (.func 328) #[] #[]) #[.pointer b_2] w10 (retS (fun v14 w15 => ∃ (x11 : Int), ∃ (x12 : Int), ∃ (x13 : Int), v14 = (.agg #[.int .i64 x11, .int .i64 x12, .int .u64 x13] : Value) ∧ (
 doCall Tryz.prog (.func (.func 327) #[] #[]) #[.agg #[.int .i64 x6, .int .i64 x7, .int .u64 x8], .agg #[.int .i64 x11, .int .i64 x12, .int .u64 x13]] w15 (retS (fun v17 w18 => ∃ (x16 : Bool), v17 = (.bool x16 : Value) ∧ (
 K5 x16 w18)) (fun ch w => Kfn R ch [] w)))) (fun ch w => Kfn R ch [] w)))) (fun ch w => Kfn R ch [] w))) (
 R (.returned (.bool false)) w)) (
 R (.returned (.bool false)) w)
set_option maxRecDepth 100000 in
theorem sh274_ok (a_1 : Option Addr) (b_2 : Option Addr) {R : Ending → World → Prop} {w : World} : sh274 a_1 b_2 R w → Calls Tryz.prog 274 #[.pointer a_1, .pointer b_2] w R :=
  Old.calls_of_eq (ann := fun _ => []) (fn := Tryz.f274) (c := bodyOf Tryz.f274) (args := #[.pointer a_1, .pointer b_2]) 400 follows_mixed Tryz.func274 (by kernel_rfl) (by kernel_rfl)
set_option maxRecDepth 100000 in
/-- joinery/build.tagged$1 -/
def sh276 (yield_f1 : Fn) (yield_x2 : Array Value) (yield_c3 : Array Value) (x4 : Addr) (x5 : Addr) (x6 : Addr) (R : Ending → World → Prop) (w : World) : Prop :=
 ∃ (xp7 : Option Addr), ∃ (xn8 : Nat), ∃ (xc9 : Nat), World.cell? w x4 = some (.slice xp7 xn8 xc9) ∧ (
 ∃ (I10 : List Value → World → Prop) (μ11 : List Value → World → Nat), I10 [.int .i64 0] w ∧ (∀ (x14 : Int), ∀ (_j12 : Nat → Value) (w13 : World), I10 [.int .i64 x14] w13 → (
 ifB (decide ((x14 : Int) < ((xn8 : Nat) : Int))) (
 doIx xp7 xn8 2 (x14) (fun a15 =>
 ∃ (x16 : Int), World.cell? w13 (a15.add 0) = some (.int .i64 x16) ∧ (
 ∃ (x17 : Int), World.cell? w13 (a15.add 1) = some (.int .i64 x17) ∧ (
 doAl (.cells #[.int .i64 0, .int .i64 0] 63) w13 (fun b18 w19 =>
 doSt ((blk b18).add 0) (.int .i64 x16) w19 (fun w20 =>
 doSt ((blk b18).add 1) (.int .i64 x17) w20 (fun w21 =>
 ∃ (x22 : Int), World.cell? w21 ((blk b18).add 0) = some (.int .i64 x22) ∧ (
 ∃ (x23 : Int), World.cell? w21 ((blk b18).add 1) = some (.int .i64 x23) ∧ (
 doAl (.cells #[.int .i64 0, .int .i64 0, .int .u64 0] 133) w21 (fun b24 w25 =>
 doSt ((blk b24).add 0) (.int .i64 x22) w25 (fun w26 =>
 doSt ((blk b24).add 1) (.int .i64 x23) w26 (fun w27 =>
 doSt ((blk b24).add 2) (.int .u64 0) w27 (fun w28 =>
 let K30 : World → Prop := fun (w29 : World) => 
 ∃ (x31 : Int), World.cell? w29 ((blk b24).add 0) = some (.int .i64 x31) ∧ (
 ∃ (x32 : Int), World.cell? w29 ((blk b24).add 1) = some (.int .i64 x32) ∧ (
 ∃ (x33 : Int), World.cell? w29 ((blk b24).add 2) = some (.int .u64 x33) ∧ (
 doCall Tryz.prog (.func yield_f1 yield_x2 yield_c3) #[.agg #[.int .i64 x31, .int .i64 x32, .int .u64 x33]] w29 (retS (fun v35 w36 => ∃ (x34 : Bool), v35 = (.bool x34 : Value) ∧ (
 ifB (!x34) (
 R (.returned (.tuple #[])) w36) (
 I10 [.int .i64 (IntKind.wrap .i64 (x14 + 1))] w36 ∧ μ11 [.int .i64 (IntKind.wrap .i64 (x14 + 1))] w36 < μ11 [.int .i64 x14] w13))) (fun ch w => Kfn R ch [] w)))))
 ∃ (x37 : Option Addr), World.cell? w28 x5 = some (.pointer x37) ∧ (
 doCall Tryz.prog (.func (.func 277) #[] #[]) #[.pointer x37] w28 (retS (fun v39 w40 => ∃ (x38 : Int), v39 = (.int .u8 x38 : Value) ∧ (
 ifB ((x38 : Int) == 4) (
 ∃ (x41 : Option Addr), World.cell? w40 x6 = some (.pointer x41) ∧ (
 ∃ (x42 : Int), World.cell? w40 ((blk b18).add 0) = some (.int .i64 x42) ∧ (
 doCall Tryz.prog (.func (.func 278) #[] #[]) #[.pointer x41, .int .i64 x42] w40 (retS (fun v44 w45 => ∃ (x43 : Int), v44 = (.int .u64 x43 : Value) ∧ (
 doSt (((blk b24).add 2).add 0) (.int .u64 x43) w45 (fun w46 =>
 K30 w46))) (fun ch w => Kfn R ch [] w))))) (
 K30 w40))) (fun ch w => Kfn R ch [] w)))))))))))))))) (
 R (.returned (.tuple #[])) w13))))
set_option maxRecDepth 100000 in
theorem sh276_ok (yield_f1 : Fn) (yield_x2 : Array Value) (yield_c3 : Array Value) (x4 : Addr) (x5 : Addr) (x6 : Addr) {R : Ending → World → Prop} {w : World} : sh276 yield_f1 yield_x2 yield_c3 x4 x5 x6 R w → Calls Tryz.prog 276 #[.func yield_f1 yield_x2 yield_c3, .pointer (some x4), .pointer (some x5), .pointer (some x6)] w R :=
  Old.calls_of_eq (ann := fun i => if i = 0 then [(10, .int .i64 0)] else []) (fn := Tryz.f276) (c := bodyOf Tryz.f276) (args := #[.func yield_f1 yield_x2 yield_c3, .pointer (some x4), .pointer (some x5), .pointer (some x6)]) 400 follows_mixed Tryz.func276 (by kernel_rfl) (by kernel_rfl)
set_option maxRecDepth 100000 in
/-- (*joinery/scheme.Scheme).Code -/
def sh277 (s_1 : Option Addr) (R : Ending → World → Prop) (w : World) : Prop :=
 ifB ((s_1).isNone) (
 R (.returned (.int .u8 0)) w) (
 ∃ (q2 : Addr), s_1 = some q2 ∧ (
 ∃ (x3 : Int), World.cell? w (q2.add 0) = some (.int .u8 x3) ∧ (
 R (.returned (.int .u8 x3)) w)))
set_option maxRecDepth 100000 in
theorem sh277_ok (s_1 : Option Addr) {R : Ending → World → Prop} {w : World} : sh277 s_1 R w → Calls Tryz.prog 277 #[.pointer s_1] w R :=
  Old.calls_of_eq (ann := fun _ => []) (fn := Tryz.f277) (c := bodyOf Tryz.f277) (args := #[.pointer s_1]) 400 follows_mixed Tryz.func277 (by kernel_rfl) (by kernel_rfl)
set_option maxRecDepth 100000 in
/-- (*joinery/draw.Draws).Next -/
def sh278 (d_1 : Option Addr) (key_2 : Int) (R : Ending → World → Prop) (w : World) : Prop :=
 let K4 : World → Prop := fun (w3 : World) => 
 doCall Tryz.prog (.func (.func 215) #[] #[]) #[.int .i64 key_2] w3 (retS (fun v6 w7 => ∃ (x5 : Int), v6 = (.int .u64 x5 : Value) ∧ (
 R (.returned (.int .u64 x5)) w7)) (fun ch w => Kfn R ch [] w))
 ifB (!(d_1).isNone) (
 ∃ (q8 : Addr), d_1 = some q8 ∧ (
 ∃ (xf9 : Fn), ∃ (xx10 : Array Value), ∃ (xc11 : Array Value), World.cell? w (q8.add 1) = some (.func xf9 xx10 xc11) ∧ (
 doCall Tryz.prog (.func xf9 xx10 xc11) #[] w (retS (fun v14 w15 => ∃ (x12 : Int), ∃ (x13 : Bool), v14 = (.tuple #[.int .u64 x12, .bool x13] : Value) ∧ (
 ifB x13 (
 R (.returned (.int .u64 x12)) w15) (
 K4 w15))) (fun ch w => Kfn R ch [] w))))) (
 K4 w)
set_option maxRecDepth 100000 in
theorem sh278_ok (d_1 : Option Addr) (key_2 : Int) {R : Ending → World → Prop} {w : World} : sh278 d_1 key_2 R w → Calls Tryz.prog 278 #[.pointer d_1, .int .i64 key_2] w R :=
  Old.calls_of_eq (ann := fun _ => []) (fn := Tryz.f278) (c := bodyOf Tryz.f278) (args := #[.pointer d_1, .int .i64 key_2]) 400 follows_mixed Tryz.func278 (by kernel_rfl) (by kernel_rfl)
set_option maxRecDepth 100000 in
/-- joinery/build.Items$1 -/
def sh279 (l_p1 : Option Addr) (l_n2 : Nat) (l_c3 : Nat) (x4 : Addr) (x5 : Addr) (R : Ending → World → Prop) (w : World) : Prop :=
 ifB ((((l_n2 : Nat) : Int) : Int) == 0) (
 R (.returned (.pointer none)) w) (
 2 ≠ (0 : Int) ∧ (
 doDr w (fun w7 =>
 ∃ (C6 : World → Prop), C6 w7 ∧ (
 ∃ (x8 : Option Addr), (∀ w, C6 w → World.cell? w x4 = some (.pointer x8)) ∧ (
 ∃ (xf9 : Fn), ∃ (xx10 : Array Value), ∃ (xc11 : Array Value), (∀ w, C6 w → World.cell? w x5 = some (.func xf9 xx10 xc11)) ∧ (
 doSl l_p1 l_c3 3 (0) (IntKind.wrap .i64 (Int.tdiv ((l_n2 : Nat) : Int) 2)) (fun p12 n13 c14 =>
 doIx l_p1 l_n2 3 (IntKind.wrap .i64 (Int.tdiv ((l_n2 : Nat) : Int) 2)) (fun a15 =>
 ∃ (x16 : Int), (∀ w, C6 w → World.cell? w (a15.add 0) = some (.int .i64 x16)) ∧ (
 ∃ (x17 : Int), (∀ w, C6 w → World.cell? w (a15.add 1) = some (.int .i64 x17)) ∧ (
 ∃ (x18 : Int), (∀ w, C6 w → World.cell? w (a15.add 2) = some (.int .u64 x18)) ∧ (
 ∃ (xf19 : Fn), ∃ (xx20 : Array Value), ∃ (xc21 : Array Value), (∀ w, C6 w → World.cell? w x5 = some (.func xf19 xx20 xc21)) ∧ (
 doSl l_p1 l_c3 3 (IntKind.wrap .i64 ((IntKind.wrap .i64 (Int.tdiv ((l_n2 : Nat) : Int) 2)) + 1)) (((l_n2 : Nat) : Int)) (fun p22 n23 c24 =>
 doCall Tryz.prog (.func xf9 xx10 xc11) #[.slice p12 n13 c14] w7 (retS (fun v26 w27 => ∃ (x25 : Option Addr), v26 = (.pointer x25 : Value) ∧ (
 C6 w27 ∧ (
 doCall Tryz.prog (.func xf19 xx20 xc21) #[.slice p22 n23 c24] w27 (retS (fun v29 w30 => ∃ (x28 : Option Addr), v29 = (.pointer x28 : Value) ∧ (
 C6 w30 ∧ (
 doCall Tryz.prog (.func (.func 145) #[] #[]) #[.pointer x8, .pointer x25, .agg #[.int .i64 x16, .int .i64 x17, .int .u64 x18], .pointer x28] w30 (retS (fun v32 w33 => ∃ (x31 : Option Addr), v32 = (.pointer x31 : Value) ∧ (
 C6 w33 ∧ (
 R (.returned (.pointer x31)) w33))) (fun ch w => Kfn R ch [] w))))) (fun ch w => Kfn R ch [] w))))) (fun ch w => Kfn R ch [] w)))))))))))))))
set_option maxRecDepth 100000 in
theorem sh279_ok (l_p1 : Option Addr) (l_n2 : Nat) (l_c3 : Nat) (x4 : Addr) (x5 : Addr) {R : Ending → World → Prop} {w : World} : sh279 l_p1 l_n2 l_c3 x4 x5 R w → Calls Tryz.prog 279 #[.slice l_p1 l_n2 l_c3, .pointer (some x4), .pointer (some x5)] w R :=
  Old.calls_of_eq (ann := fun _ => []) (fn := Tryz.f279) (c := bodyOf Tryz.f279) (args := #[.slice l_p1 l_n2 l_c3, .pointer (some x4), .pointer (some x5)]) 400 follows_mixed Tryz.func279 (by kernel_rfl) (by kernel_rfl)
set_option maxRecDepth 100000 in
/-- joinery/split.where$1 -/
def sh280 (k_1 : Int) (x2 : Addr) (x3 : Addr) (R : Ending → World → Prop) (w : World) : Prop :=
 ∃ (x4 : Int), World.cell? w x2 = some (.int .u8 x4) ∧ (
 doCall Tryz.prog (.func (.func 124) #[] #[]) #[.int .u8 x4, .int .i64 k_1] w (retS (fun v7 w8 => ∃ (x5 : Int), ∃ (x6 : Int), v7 = (.tuple #[.int .u64 x5, .int .i64 x6] : Value) ∧ (
 ∃ (x9 : Int), World.cell? w8 x3 = some (.int .u64 x9) ∧ (
 doCall Tryz.prog (.func (.func 125) #[] #[]) #[.int .u64 x5, .int .u64 x9] w8 (retS (fun v11 w12 => ∃ (x10 : Int), v11 = (.int .i64 x10 : Value) ∧ (
 R (.returned (.int .i64 x10)) w12)) (fun ch w => Kfn R ch [] w))))) (fun ch w => Kfn R ch [] w)))
set_option maxRecDepth 100000 in
theorem sh280_ok (k_1 : Int) (x2 : Addr) (x3 : Addr) {R : Ending → World → Prop} {w : World} : sh280 k_1 x2 x3 R w → Calls Tryz.prog 280 #[.int .i64 k_1, .pointer (some x2), .pointer (some x3)] w R :=
  Old.calls_of_eq (ann := fun _ => []) (fn := Tryz.f280) (c := bodyOf Tryz.f280) (args := #[.int .i64 k_1, .pointer (some x2), .pointer (some x3)]) 400 follows_mixed Tryz.func280 (by kernel_rfl) (by kernel_rfl)
set_option maxRecDepth 100000 in
/-- joinery/cut.end -/
def sh284 (s_1 : Option Addr) (w_f2 : Fn) (w_x3 : Array Value) (w_c4 : Array Value) (w_f5 : Fn) (w_x6 : Array Value) (w_c7 : Array Value) (w_f8 : Fn) (w_x9 : Array Value) (w_c10 : Array Value) (t_11 : Option Addr) (R : Ending → World → Prop) (w : World) : Prop :=
 doAl (.cells #[.func w_f2 w_x3 w_c4, .func w_f5 w_x6 w_c7, .func w_f8 w_x9 w_c10] 332) w (fun b12 w13 =>
 doAl (.cells #[.int .i64 0, .int .i64 0, .int .u64 0] 133) w13 (fun b14 w15 =>
 ∃ (xf16 : Fn), ∃ (xx17 : Array Value), ∃ (xc18 : Array Value), World.cell? w15 ((blk b12).add 0) = some (.func xf16 xx17 xc18) ∧ (
 doCall Tryz.prog (.func xf16 xx17 xc18) #[.pointer t_11] w15 (retS (fun v20 w21 => ∃ (x19 : Option Addr), v20 = (.pointer x19 : Value) ∧ (
 ifB ((x19).isNone) (
 ∃ (xf22 : Fn), ∃ (xx23 : Array Value), ∃ (xc24 : Array Value), World.cell? w21 ((blk b12).add 1) = some (.func xf22 xx23 xc24) ∧ (
 doCall Tryz.prog (.func xf22 xx23 xc24) #[.pointer t_11] w21 (retS (fun v26 w27 => ∃ (x25 : Option Addr), v26 = (.pointer x25 : Value) ∧ (
 doCall Tryz.prog (.func (.func 72) #[] #[]) #[.pointer s_1, .pointer x25] w27 (retS (fun v29 w30 => ∃ (x28 : Option Addr), v29 = (.pointer x28 : Value) ∧ (
 doCall Tryz.prog (.func (.func 144) #[] #[]) #[.pointer s_1, .pointer t_11] w30 (retS (fun v34 w35 => ∃ (x31 : Int), ∃ (x32 : Int), ∃ (x33 : Int), v34 = (.agg #[.int .i64 x31, .int .i64 x32, .int .u64 x33] : Value) ∧ (
 doSt ((blk b14).add 0) (.int .i64 x31) w35 (fun w36 =>
 doSt ((blk b14).add 1) (.int .i64 x32) w36 (fun w37 =>
 doSt ((blk b14).add 2) (.int .u64 x33) w37 (fun w38 =>
 ∃ (x39 : Int), World.cell? w38 ((blk b14).add 0) = some (.int .i64 x39) ∧ (
 ∃ (x40 : Int), World.cell? w38 ((blk b14).add 1) = some (.int .i64 x40) ∧ (
 ∃ (x41 : Int), World.cell? w38 ((blk b14).add 2) = some (.int .u64 x41) ∧ (
 R (.returned (.tuple #[.pointer x28, .agg #[.int .i64 x39, .int .i64 x40, .int .u64 x41]])) w38)))))))) (fun ch w => Kfn R ch [] w)))) (fun ch w => Kfn R ch [] w)))) (fun ch w => Kfn R ch [] w)))) (
 let K45 : (Option Addr) → Addr → World → Prop := fun (rest_42 : Option Addr) (x_43 : Addr) (w44 : World) => 
 doDr w44 (fun w47 =>
 ∃ (C46 : World → Prop), C46 w47 ∧ (
 ∃ (xf48 : Fn), ∃ (xx49 : Array Value), ∃ (xc50 : Array Value), (∀ w, C46 w → World.cell? w ((blk b12).add 2) = some (.func xf48 xx49 xc50)) ∧ (
 ∃ (xf51 : Fn), ∃ (xx52 : Array Value), ∃ (xc53 : Array Value), (∀ w, C46 w → World.cell? w ((blk b12).add 1) = some (.func xf51 xx52 xc53)) ∧ (
 ∃ (x54 : Int), (∀ w, C46 w → World.cell? w (x_43.add 0) = some (.int .i64 x54)) ∧ (
 ∃ (x55 : Int), (∀ w, C46 w → World.cell? w (x_43.add 1) = some (.int .i64 x55)) ∧ (
 ∃ (x56 : Int), (∀ w, C46 w → World.cell? w (x_43.add 2) = some (.int .u64 x56)) ∧ (
 doCall Tryz.prog (.func (.func 144) #[] #[]) #[.pointer s_1, .pointer t_11] w47 (retS (fun v60 w61 => ∃ (x57 : Int), ∃ (x58 : Int), ∃ (x59 : Int), v60 = (.agg #[.int .i64 x57, .int .i64 x58, .int .u64 x59] : Value) ∧ (
 C46 w61 ∧ (
 doCall Tryz.prog (.func xf51 xx52 xc53) #[.pointer t_11] w61 (retS (fun v63 w64 => ∃ (x62 : Option Addr), v63 = (.pointer x62 : Value) ∧ (
 C46 w64 ∧ (
 doCall Tryz.prog (.func xf48 xx49 xc50) #[.pointer rest_42, .agg #[.int .i64 x57, .int .i64 x58, .int .u64 x59], .pointer x62] w64 (retS (fun v66 w67 => ∃ (x65 : Option Addr), v66 = (.pointer x65 : Value) ∧ (
 C46 w67 ∧ (
 doSt ((blk b14).add 0) (.int .i64 x54) w67 (fun w68 =>
 doSt ((blk b14).add 1) (.int .i64 x55) w68 (fun w69 =>
 doSt ((blk b14).add 2) (.int .u64 x56) w69 (fun w70 =>
 ∃ (x71 : Int), World.cell? w70 ((blk b14).add 0) = some (.int .i64 x71) ∧ (
 ∃ (x72 : Int), World.cell? w70 ((blk b14).add 1) = some (.int .i64 x72) ∧ (
 ∃ (x73 : Int), World.cell? w70 ((blk b14).add 2) = some (.int .u64 x73) ∧ (
 R (.returned (.tuple #[.pointer x65, .agg #[.int .i64 x71, .int .i64 x72, .int .u64 x73]])) w70))))))))) (fun ch w => Kfn R ch [] w))))) (fun ch w => Kfn R ch [] w))))) (fun ch w => Kfn R ch [] w)))))))))
 doDr w21 (fun w75 =>
 ∃ (C74 : World → Prop), C74 w75 ∧ (
 ∃ (xf76 : Fn), ∃ (xx77 : Array Value), ∃ (xc78 : Array Value), (∀ w, C74 w → World.cell? w ((blk b12).add 0) = some (.func xf76 xx77 xc78)) ∧ (
 ∃ (xf79 : Fn), ∃ (xx80 : Array Value), ∃ (xc81 : Array Value), (∀ w, C74 w → World.cell? w ((blk b12).add 1) = some (.func xf79 xx80 xc81)) ∧ (
 ∃ (xf82 : Fn), ∃ (xx83 : Array Value), ∃ (xc84 : Array Value), (∀ w, C74 w → World.cell? w ((blk b12).add 2) = some (.func xf82 xx83 xc84)) ∧ (
 ∃ (xf85 : Fn), ∃ (xx86 : Array Value), ∃ (xc87 : Array Value), (∀ w, C74 w → World.cell? w ((blk b12).add 0) = some (.func xf85 xx86 xc87)) ∧ (
 (doCall Tryz.prog (.func xf85 xx86 xc87) #[.pointer t_11] w75 (retS (fun v89 w90 => ∃ (x88 : Option Addr), v89 = (.pointer x88 : Value) ∧ (
 C74 w90 ∧ (
 (doCall Tryz.prog (.func (.func 284) #[] #[]) #[.pointer s_1, .agg #[.func xf76 xx77 xc78, .func xf79 xx80 xc81, .func xf82 xx83 xc84], .pointer x88] w90 (retS (fun v95 w96 => ∃ (x91 : Option Addr), ∃ (x92 : Int), ∃ (x93 : Int), ∃ (x94 : Int), v95 = (.tuple #[.pointer x91, .agg #[.int .i64 x92, .int .i64 x93, .int .u64 x94]] : Value) ∧ (
 C74 w96 ∧ (
 doAl (.cells #[.int .i64 0, .int .i64 0, .int .u64 0] 133) w96 (fun b97 w98 =>
 C74 w98 ∧ (
 doSt ((blk b97).add 0) (.int .i64 x92) w98 (fun w99 =>
 doSt ((blk b97).add 1) (.int .i64 x93) w99 (fun w100 =>
 doSt ((blk b97).add 2) (.int .u64 x94) w100 (fun w101 =>
 K45 x91 (blk b97) w101)))))))) (fun ch w => Kfn R ch [] w))) ∧ (doAl (.cells #[.int .i64 0, .int .i64 0, .int .u64 0] 133) w90 (fun b102 w103 =>
 C74 w103 ∧ (
 doCall Tryz.prog (.func (.func 284) #[] #[]) #[.pointer s_1, .agg #[.func xf76 xx77 xc78, .func xf79 xx80 xc81, .func xf82 xx83 xc84], .pointer x88] w103 (retS (fun v108 w109 => ∃ (x104 : Option Addr), ∃ (x105 : Int), ∃ (x106 : Int), ∃ (x107 : Int), v108 = (.tuple #[.pointer x104, .agg #[.int .i64 x105, .int .i64 x106, .int .u64 x107]] : Value) ∧ (
 C74 w109 ∧ (
 doSt ((blk b102).add 0) (.int .i64 x105) w109 (fun w110 =>
 doSt ((blk b102).add 1) (.int .i64 x106) w110 (fun w111 =>
 doSt ((blk b102).add 2) (.int .u64 x107) w111 (fun w112 =>
 K45 x104 (blk b102) w112)))))) (fun ch w => Kfn R ch [] w)))))))) (fun ch w => Kfn R ch [] w))) ∧ (doAl (.cells #[.int .i64 0, .int .i64 0, .int .u64 0] 133) w75 (fun b113 w114 =>
 C74 w114 ∧ (
 doCall Tryz.prog (.func xf85 xx86 xc87) #[.pointer t_11] w114 (retS (fun v116 w117 => ∃ (x115 : Option Addr), v116 = (.pointer x115 : Value) ∧ (
 C74 w117 ∧ (
 doCall Tryz.prog (.func (.func 284) #[] #[]) #[.pointer s_1, .agg #[.func xf76 xx77 xc78, .func xf79 xx80 xc81, .func xf82 xx83 xc84], .pointer x115] w117 (retS (fun v122 w123 => ∃ (x118 : Option Addr), ∃ (x119 : Int), ∃ (x120 : Int), ∃ (x121 : Int), v122 = (.tuple #[.pointer x118, .agg #[.int .i64 x119, .int .i64 x120, .int .u64 x121]] : Value) ∧ (
 C74 w123 ∧ (
 doSt ((blk b113).add 0) (.int .i64 x119) w123 (fun w124 =>
 doSt ((blk b113).add 1) (.int .i64 x120) w124 (fun w125 =>
 doSt ((blk b113).add 2) (.int .u64 x121) w125 (fun w126 =>
 K45 x118 (blk b113) w126)))))) (fun ch w => Kfn R ch [] w))))) (fun ch w => Kfn R ch [] w)))))))))))))) (fun ch w => Kfn R ch [] w)))))
set_option maxRecDepth 100000 in
theorem sh284_ok (s_1 : Option Addr) (w_f2 : Fn) (w_x3 : Array Value) (w_c4 : Array Value) (w_f5 : Fn) (w_x6 : Array Value) (w_c7 : Array Value) (w_f8 : Fn) (w_x9 : Array Value) (w_c10 : Array Value) (t_11 : Option Addr) {R : Ending → World → Prop} {w : World} : sh284 s_1 w_f2 w_x3 w_c4 w_f5 w_x6 w_c7 w_f8 w_x9 w_c10 t_11 R w → Calls Tryz.prog 284 #[.pointer s_1, .agg #[.func w_f2 w_x3 w_c4, .func w_f5 w_x6 w_c7, .func w_f8 w_x9 w_c10], .pointer t_11] w R :=
  Old.calls_of_eq (ann := fun _ => []) (fn := Tryz.f284) (c := bodyOf Tryz.f284) (args := #[.pointer s_1, .agg #[.func w_f2 w_x3 w_c4, .func w_f5 w_x6 w_c7, .func w_f8 w_x9 w_c10], .pointer t_11]) 400 follows_mixed Tryz.func284 (by kernel_rfl) (by kernel_rfl)
set_option maxRecDepth 100000 in
/-- joinery/cut.to -/
def sh285 (s_1 : Option Addr) (last_2 : Bool) (R : Ending → World → Prop) (w : World) : Prop :=
 doAl (.cells #[.pointer s_1] 65) w (fun b3 w4 =>
 doAl (.cells #[.nilFunc, .nilFunc, .nilFunc] 332) w4 (fun b5 w6 =>
 ifB last_2 (
 doSt ((blk b5).add 0) (.func (.func 130) #[] #[]) w6 (fun w7 =>
 doSt ((blk b5).add 1) (.func (.func 128) #[] #[]) w7 (fun w8 =>
 doSt ((blk b5).add 2) (.func (.func 335) #[] #[.pointer (some (blk b3))]) w8 (fun w9 =>
 ∃ (xf10 : Fn), ∃ (xx11 : Array Value), ∃ (xc12 : Array Value), World.cell? w9 ((blk b5).add 0) = some (.func xf10 xx11 xc12) ∧ (
 ∃ (xf13 : Fn), ∃ (xx14 : Array Value), ∃ (xc15 : Array Value), World.cell? w9 ((blk b5).add 1) = some (.func xf13 xx14 xc15) ∧ (
 ∃ (xf16 : Fn), ∃ (xx17 : Array Value), ∃ (xc18 : Array Value), World.cell? w9 ((blk b5).add 2) = some (.func xf16 xx17 xc18) ∧ (
 R (.returned (.agg #[.func xf10 xx11 xc12, .func xf13 xx14 xc15, .func xf16 xx17 xc18])) w9))))))) (
 ∃ (x19 : Option Addr), World.cell? w6 (blk b3) = some (.pointer x19) ∧ (
 doSt ((blk b5).add 0) (.func (.func 128) #[] #[]) w6 (fun w20 =>
 doSt ((blk b5).add 1) (.func (.func 130) #[] #[]) w20 (fun w21 =>
 doSt ((blk b5).add 2) (.func (.func 145) #[.pointer x19] #[]) w21 (fun w22 =>
 ∃ (xf23 : Fn), ∃ (xx24 : Array Value), ∃ (xc25 : Array Value), World.cell? w22 ((blk b5).add 0) = some (.func xf23 xx24 xc25) ∧ (
 ∃ (xf26 : Fn), ∃ (xx27 : Array Value), ∃ (xc28 : Array Value), World.cell? w22 ((blk b5).add 1) = some (.func xf26 xx27 xc28) ∧ (
 ∃ (xf29 : Fn), ∃ (xx30 : Array Value), ∃ (xc31 : Array Value), World.cell? w22 ((blk b5).add 2) = some (.func xf29 xx30 xc31) ∧ (
 R (.returned (.agg #[.func xf23 xx24 xc25, .func xf26 xx27 xc28, .func xf29 xx30 xc31])) w22))))))))))
set_option maxRecDepth 100000 in
theorem sh285_ok (s_1 : Option Addr) (last_2 : Bool) {R : Ending → World → Prop} {w : World} : sh285 s_1 last_2 R w → Calls Tryz.prog 285 #[.pointer s_1, .bool last_2] w R :=
  Old.calls_of_eq (ann := fun _ => []) (fn := Tryz.f285) (c := bodyOf Tryz.f285) (args := #[.pointer s_1, .bool last_2]) 400 follows_mixed Tryz.func285 (by kernel_rfl) (by kernel_rfl)
set_option maxRecDepth 100000 in
/-- joinery/look.goes$1 -/
def sh286 (yield_f1 : Fn) (yield_x2 : Array Value) (yield_c3 : Array Value) (x4 : Addr) (x5 : Addr) (x6 : Addr) (R : Ending → World → Prop) (w : World) : Prop :=
 doAl (.cells #[.func yield_f1 yield_x2 yield_c3] 189) w (fun b7 w8 =>
 doAl (.cells #[.nilFunc] 189) w8 (fun b9 w10 =>
 doSt ((blk b9).add 0) (.func (.func 287) #[] #[.pointer (some (blk b9)), .pointer (some x4), .pointer (some (blk b7)), .pointer (some x5)]) w10 (fun w11 =>
 ∃ (xf12 : Fn), ∃ (xx13 : Array Value), ∃ (xc14 : Array Value), World.cell? w11 (blk b9) = some (.func xf12 xx13 xc14) ∧ (
 ∃ (x15 : Option Addr), World.cell? w11 x6 = some (.pointer x15) ∧ (
 doCall Tryz.prog (.func xf12 xx13 xc14) #[.pointer x15] w11 (retS (fun v17 w18 => ∃ (x16 : Bool), v17 = (.bool x16 : Value) ∧ (
 R (.returned (.tuple #[])) w18)) (fun ch w => Kfn R ch [] w)))))))
set_option maxRecDepth 100000 in
theorem sh286_ok (yield_f1 : Fn) (yield_x2 : Array Value) (yield_c3 : Array Value) (x4 : Addr) (x5 : Addr) (x6 : Addr) {R : Ending → World → Prop} {w : World} : sh286 yield_f1 yield_x2 yield_c3 x4 x5 x6 R w → Calls Tryz.prog 286 #[.func yield_f1 yield_x2 yield_c3, .pointer (some x4), .pointer (some x5), .pointer (some x6)] w R :=
  Old.calls_of_eq (ann := fun _ => []) (fn := Tryz.f286) (c := bodyOf Tryz.f286) (args := #[.func yield_f1 yield_x2 yield_c3, .pointer (some x4), .pointer (some x5), .pointer (some x6)]) 400 follows_mixed Tryz.func286 (by kernel_rfl) (by kernel_rfl)
set_option maxRecDepth 100000 in
/-- joinery/look.goes$1$1 -/
def sh287 (n_1 : Option Addr) (x2 : Addr) (x3 : Addr) (x4 : Addr) (x5 : Addr) (R : Ending → World → Prop) (w : World) : Prop :=
 let K8 : Bool → World → Prop := fun (x6 : Bool) (w7 : World) => 
 R (.returned (.bool x6)) w7
 doDr w (fun w10 =>
 ∃ (C9 : World → Prop), C9 w10 ∧ (
 ifB ((n_1).isNone) (
 R (.returned (.bool true)) w10) (
 ∃ (xf11 : Fn), ∃ (xx12 : Array Value), ∃ (xc13 : Array Value), (∀ w, C9 w → World.cell? w x2 = some (.func xf11 xx12 xc13)) ∧ (
 ∃ (xf14 : Fn), ∃ (xx15 : Array Value), ∃ (xc16 : Array Value), (∀ w, C9 w → World.cell? w x3 = some (.func xf14 xx15 xc16)) ∧ (
 doCall Tryz.prog (.func xf14 xx15 xc16) #[.pointer n_1] w10 (retS (fun v18 w19 => ∃ (x17 : Option Addr), v18 = (.pointer x17 : Value) ∧ (
 C9 w19 ∧ (
 doCall Tryz.prog (.func xf11 xx12 xc13) #[.pointer x17] w19 (retS (fun v21 w22 => ∃ (x20 : Bool), v21 = (.bool x20 : Value) ∧ (
 C9 w22 ∧ (
 ifB x20 (
 ∃ (xf23 : Fn), ∃ (xx24 : Array Value), ∃ (xc25 : Array Value), (∀ w, C9 w → World.cell? w x4 = some (.func xf23 xx24 xc25)) ∧ (
 doCall Tryz.prog (.func xf23 xx24 xc25) #[.pointer n_1] w22 (retS (fun v27 w28 => ∃ (x26 : Bool), v27 = (.bool x26 : Value) ∧ (
 C9 w28 ∧ (
 ifB x26 (
 ∃ (xf29 : Fn), ∃ (xx30 : Array Value), ∃ (xc31 : Array Value), (∀ w, C9 w → World.cell? w x2 = some (.func xf29 xx30 xc31)) ∧ (
 ∃ (xf32 : Fn), ∃ (xx33 : Array Value), ∃ (xc34 : Array Value), (∀ w, C9 w → World.cell? w x5 = some (.func xf32 xx33 xc34)) ∧ (
 doCall Tryz.prog (.func xf32 xx33 xc34) #[.pointer n_1] w28 (retS (fun v36 w37 => ∃ (x35 : Option Addr), v36 = (.pointer x35 : Value) ∧ (
 C9 w37 ∧ (
 doCall Tryz.prog (.func xf29 xx30 xc31) #[.pointer x35] w37 (retS (fun v39 w40 => ∃ (x38 : Bool), v39 = (.bool x38 : Value) ∧ (
 C9 w40 ∧ (
 K8 x38 w40))) (fun ch w => Kfn R ch [] w))))) (fun ch w => Kfn R ch [] w))))) (
 R (.returned (.bool false)) w28)))) (fun ch w => Kfn R ch [] w)))) (
 R (.returned (.bool false)) w22)))) (fun ch w => Kfn R ch [] w))))) (fun ch w => Kfn R ch [] w)))))))
set_option maxRecDepth 100000 in
theorem sh287_ok (n_1 : Option Addr) (x2 : Addr) (x3 : Addr) (x4 : Addr) (x5 : Addr) {R : Ending → World → Prop} {w : World} : sh287 n_1 x2 x3 x4 x5 R w → Calls Tryz.prog 287 #[.pointer n_1, .pointer (some x2), .pointer (some x3), .pointer (some x4), .pointer (some x5)] w R :=
  Old.calls_of_eq (ann := fun _ => []) (fn := Tryz.f287) (c := bodyOf Tryz.f287) (args := #[.pointer n_1, .pointer (some x2), .pointer (some x3), .pointer (some x4), .pointer (some x5)]) 400 follows_mixed Tryz.func287 (by kernel_rfl) (by kernel_rfl)
set_option maxRecDepth 100000 in
/-- joinery/avljoin.right$1 -/
def sh308 (in_1 : Option Addr) (pair_2 : Option Addr) (out_3 : Option Addr) (R : Ending → World → Prop) (w : World) : Prop :=
 doCall Tryz.prog (.func (.func 131) #[] #[]) #[.pointer pair_2] w (retS (fun v5 w6 => ∃ (x4 : Int), v5 = (.int .i64 x4 : Value) ∧ (
 doCall Tryz.prog (.func (.func 132) #[] #[]) #[.pointer pair_2] w6 (retS (fun v8 w9 => ∃ (x7 : Int), v8 = (.int .i64 x7 : Value) ∧ (
 doCall Tryz.prog (.func (.func 250) #[] #[]) #[.pointer in_1, .int .i64 x4, .int .i64 x7, .pointer out_3] w9 (retS (fun v11 w12 => ∃ (x10 : Option Addr), v11 = (.pointer x10 : Value) ∧ (
 R (.returned (.pointer x10)) w12)) (fun ch w => Kfn R ch [] w)))) (fun ch w => Kfn R ch [] w)))) (fun ch w => Kfn R ch [] w))
set_option maxRecDepth 100000 in
theorem sh308_ok (in_1 : Option Addr) (pair_2 : Option Addr) (out_3 : Option Addr) {R : Ending → World → Prop} {w : World} : sh308 in_1 pair_2 out_3 R w → Calls Tryz.prog 308 #[.pointer in_1, .pointer pair_2, .pointer out_3] w R :=
  Old.calls_of_eq (ann := fun _ => []) (fn := Tryz.f308) (c := bodyOf Tryz.f308) (args := #[.pointer in_1, .pointer pair_2, .pointer out_3]) 400 follows_mixed Tryz.func308 (by kernel_rfl) (by kernel_rfl)
set_option maxRecDepth 100000 in
/-- (joinery/avljoin.side).inward -/
def sh309 (s_f1 : Fn) (s_x2 : Array Value) (s_c3 : Array Value) (s_f4 : Fn) (s_x5 : Array Value) (s_c6 : Array Value) (s_f7 : Fn) (s_x8 : Array Value) (s_c9 : Array Value) (t_10 : Option Addr) (R : Ending → World → Prop) (w : World) : Prop :=
 doAl (.cells #[.func s_f1 s_x2 s_c3, .func s_f4 s_x5 s_c6, .func s_f7 s_x8 s_c9] 299) w (fun b11 w12 =>
 ∃ (xf13 : Fn), ∃ (xx14 : Array Value), ∃ (xc15 : Array Value), World.cell? w12 ((blk b11).add 1) = some (.func xf13 xx14 xc15) ∧ (
 doCall Tryz.prog (.func xf13 xx14 xc15) #[.pointer t_10] w12 (retS (fun v17 w18 => ∃ (x16 : Option Addr), v17 = (.pointer x16 : Value) ∧ (
 doDr w18 (fun w20 =>
 ∃ (C19 : World → Prop), C19 w20 ∧ (
 ∃ (xf21 : Fn), ∃ (xx22 : Array Value), ∃ (xc23 : Array Value), (∀ w, C19 w → World.cell? w ((blk b11).add 2) = some (.func xf21 xx22 xc23)) ∧ (
 ∃ (xf24 : Fn), ∃ (xx25 : Array Value), ∃ (xc26 : Array Value), (∀ w, C19 w → World.cell? w ((blk b11).add 2) = some (.func xf24 xx25 xc26)) ∧ (
 ∃ (xf27 : Fn), ∃ (xx28 : Array Value), ∃ (xc29 : Array Value), (∀ w, C19 w → World.cell? w ((blk b11).add 0) = some (.func xf27 xx28 xc29)) ∧ (
 ∃ (xf30 : Fn), ∃ (xx31 : Array Value), ∃ (xc32 : Array Value), (∀ w, C19 w → World.cell? w ((blk b11).add 0) = some (.func xf30 xx31 xc32)) ∧ (
 ∃ (xf33 : Fn), ∃ (xx34 : Array Value), ∃ (xc35 : Array Value), (∀ w, C19 w → World.cell? w ((blk b11).add 1) = some (.func xf33 xx34 xc35)) ∧ (
 doCall Tryz.prog (.func xf27 xx28 xc29) #[.pointer t_10] w20 (retS (fun v37 w38 => ∃ (x36 : Option Addr), v37 = (.pointer x36 : Value) ∧ (
 C19 w38 ∧ (
 doCall Tryz.prog (.func xf30 xx31 xc32) #[.pointer x16] w38 (retS (fun v40 w41 => ∃ (x39 : Option Addr), v40 = (.pointer x39 : Value) ∧ (
 C19 w41 ∧ (
 doCall Tryz.prog (.func xf24 xx25 xc26) #[.pointer x36, .pointer t_10, .pointer x39] w41 (retS (fun v43 w44 => ∃ (x42 : Option Addr), v43 = (.pointer x42 : Value) ∧ (
 C19 w44 ∧ (
 doCall Tryz.prog (.func xf33 xx34 xc35) #[.pointer x16] w44 (retS (fun v46 w47 => ∃ (x45 : Option Addr), v46 = (.pointer x45 : Value) ∧ (
 C19 w47 ∧ (
 doCall Tryz.prog (.func xf21 xx22 xc23) #[.pointer x42, .pointer x16, .pointer x45] w47 (retS (fun v49 w50 => ∃ (x48 : Option Addr), v49 = (.pointer x48 : Value) ∧ (
 C19 w50 ∧ (
 R (.returned (.pointer x48)) w50))) (fun ch w => Kfn R ch [] w))))) (fun ch w => Kfn R ch [] w))))) (fun ch w => Kfn R ch [] w))))) (fun ch w => Kfn R ch [] w))))) (fun ch w => Kfn R ch [] w))))))))))) (fun ch w => Kfn R ch [] w))))
set_option maxRecDepth 100000 in
theorem sh309_ok (s_f1 : Fn) (s_x2 : Array Value) (s_c3 : Array Value) (s_f4 : Fn) (s_x5 : Array Value) (s_c6 : Array Value) (s_f7 : Fn) (s_x8 : Array Value) (s_c9 : Array Value) (t_10 : Option Addr) {R : Ending → World → Prop} {w : World} : sh309 s_f1 s_x2 s_c3 s_f4 s_x5 s_c6 s_f7 s_x8 s_c9 t_10 R w → Calls Tryz.prog 309 #[.agg #[.func s_f1 s_x2 s_c3, .func s_f4 s_x5 s_c6, .func s_f7 s_x8 s_c9], .pointer t_10] w R :=
  Old.calls_of_eq (ann := fun _ => []) (fn := Tryz.f309) (c := bodyOf Tryz.f309) (args := #[.agg #[.func s_f1 s_x2 s_c3, .func s_f4 s_x5 s_c6, .func s_f7 s_x8 s_c9], .pointer t_10]) 400 follows_mixed Tryz.func309 (by kernel_rfl) (by kernel_rfl)
set_option maxRecDepth 100000 in
/-- (joinery/avljoin.side).outward -/
def sh310 (s_f1 : Fn) (s_x2 : Array Value) (s_c3 : Array Value) (s_f4 : Fn) (s_x5 : Array Value) (s_c6 : Array Value) (s_f7 : Fn) (s_x8 : Array Value) (s_c9 : Array Value) (t_10 : Option Addr) (R : Ending → World → Prop) (w : World) : Prop :=
 doAl (.cells #[.func s_f1 s_x2 s_c3, .func s_f4 s_x5 s_c6, .func s_f7 s_x8 s_c9] 299) w (fun b11 w12 =>
 ∃ (xf13 : Fn), ∃ (xx14 : Array Value), ∃ (xc15 : Array Value), World.cell? w12 ((blk b11).add 0) = some (.func xf13 xx14 xc15) ∧ (
 doCall Tryz.prog (.func xf13 xx14 xc15) #[.pointer t_10] w12 (retS (fun v17 w18 => ∃ (x16 : Option Addr), v17 = (.pointer x16 : Value) ∧ (
 doDr w18 (fun w20 =>
 ∃ (C19 : World → Prop), C19 w20 ∧ (
 ∃ (xf21 : Fn), ∃ (xx22 : Array Value), ∃ (xc23 : Array Value), (∀ w, C19 w → World.cell? w ((blk b11).add 2) = some (.func xf21 xx22 xc23)) ∧ (
 ∃ (xf24 : Fn), ∃ (xx25 : Array Value), ∃ (xc26 : Array Value), (∀ w, C19 w → World.cell? w ((blk b11).add 0) = some (.func xf24 xx25 xc26)) ∧ (
 ∃ (xf27 : Fn), ∃ (xx28 : Array Value), ∃ (xc29 : Array Value), (∀ w, C19 w → World.cell? w ((blk b11).add 2) = some (.func xf27 xx28 xc29)) ∧ (
 ∃ (xf30 : Fn), ∃ (xx31 : Array Value), ∃ (xc32 : Array Value), (∀ w, C19 w → World.cell? w ((blk b11).add 1) = some (.func xf30 xx31 xc32)) ∧ (
 ∃ (xf33 : Fn), ∃ (xx34 : Array Value), ∃ (xc35 : Array Value), (∀ w, C19 w → World.cell? w ((blk b11).add 1) = some (.func xf33 xx34 xc35)) ∧ (
 doCall Tryz.prog (.func xf24 xx25 xc26) #[.pointer x16] w20 (retS (fun v37 w38 => ∃ (x36 : Option Addr), v37 = (.pointer x36 : Value) ∧ (
 C19 w38 ∧ (
 doCall Tryz.prog (.func xf30 xx31 xc32) #[.pointer x16] w38 (retS (fun v40 w41 => ∃ (x39 : Option Addr), v40 = (.pointer x39 : Value) ∧ (
 C19 w41 ∧ (
 doCall Tryz.prog (.func xf33 xx34 xc35) #[.pointer t_10] w41 (retS (fun v43 w44 => ∃ (x42 : Option Addr), v43 = (.pointer x42 : Value) ∧ (
 C19 w44 ∧ (
 doCall Tryz.prog (.func xf27 xx28 xc29) #[.pointer x39, .pointer t_10, .pointer x42] w44 (retS (fun v46 w47 => ∃ (x45 : Option Addr), v46 = (.pointer x45 : Value) ∧ (
 C19 w47 ∧ (
 doCall Tryz.prog (.func xf21 xx22 xc23) #[.pointer x36, .pointer x16, .pointer x45] w47 (retS (fun v49 w50 => ∃ (x48 : Option Addr), v49 = (.pointer x48 : Value) ∧ (
 C19 w50 ∧ (
 R (.returned (.pointer x48)) w50))) (fun ch w => Kfn R ch [] w))))) (fun ch w => Kfn R ch [] w))))) (fun ch w => Kfn R ch [] w))))) (fun ch w => Kfn R ch [] w))))) (fun ch w => Kfn R ch [] w))))))))))) (fun ch w => Kfn R ch [] w))))
set_option maxRecDepth 100000 in
theorem sh310_ok (s_f1 : Fn) (s_x2 : Array Value) (s_c3 : Array Value) (s_f4 : Fn) (s_x5 : Array Value) (s_c6 : Array Value) (s_f7 : Fn) (s_x8 : Array Value) (s_c9 : Array Value) (t_10 : Option Addr) {R : Ending → World → Prop} {w : World} : sh310 s_f1 s_x2 s_c3 s_f4 s_x5 s_c6 s_f7 s_x8 s_c9 t_10 R w → Calls Tryz.prog 310 #[.agg #[.func s_f1 s_x2 s_c3, .func s_f4 s_x5 s_c6, .func s_f7 s_x8 s_c9], .pointer t_10] w R :=
  Old.calls_of_eq (ann := fun _ => []) (fn := Tryz.f310) (c := bodyOf Tryz.f310) (args := #[.agg #[.func s_f1 s_x2 s_c3, .func s_f4 s_x5 s_c6, .func s_f7 s_x8 s_c9], .pointer t_10]) 400 follows_mixed Tryz.func310 (by kernel_rfl) (by kernel_rfl)
set_option maxRecDepth 100000 in
/-- joinery/avljoin.left$1 -/
def sh311 (in_1 : Option Addr) (pair_2 : Option Addr) (out_3 : Option Addr) (R : Ending → World → Prop) (w : World) : Prop :=
 doCall Tryz.prog (.func (.func 131) #[] #[]) #[.pointer pair_2] w (retS (fun v5 w6 => ∃ (x4 : Int), v5 = (.int .i64 x4 : Value) ∧ (
 doCall Tryz.prog (.func (.func 132) #[] #[]) #[.pointer pair_2] w6 (retS (fun v8 w9 => ∃ (x7 : Int), v8 = (.int .i64 x7 : Value) ∧ (
 doCall Tryz.prog (.func (.func 250) #[] #[]) #[.pointer out_3, .int .i64 x4, .int .i64 x7, .pointer in_1] w9 (retS (fun v11 w12 => ∃ (x10 : Option Addr), v11 = (.pointer x10 : Value) ∧ (
 R (.returned (.pointer x10)) w12)) (fun ch w => Kfn R ch [] w)))) (fun ch w => Kfn R ch [] w)))) (fun ch w => Kfn R ch [] w))
set_option maxRecDepth 100000 in
theorem sh311_ok (in_1 : Option Addr) (pair_2 : Option Addr) (out_3 : Option Addr) {R : Ending → World → Prop} {w : World} : sh311 in_1 pair_2 out_3 R w → Calls Tryz.prog 311 #[.pointer in_1, .pointer pair_2, .pointer out_3] w R :=
  Old.calls_of_eq (ann := fun _ => []) (fn := Tryz.f311) (c := bodyOf Tryz.f311) (args := #[.pointer in_1, .pointer pair_2, .pointer out_3]) 400 follows_mixed Tryz.func311 (by kernel_rfl) (by kernel_rfl)
end Go.Proofs.YtlfjaogbehpleaaGreat

namespace Go.Proofs.YtlfjaogbehpleaaGreat
open Go Go.Sh
set_option maxRecDepth 100000 in
/-- joinery/rb.over -/
def sh317 (high_1 : Int) (is_2 : Bool) (R : Ending → World → Prop) (w : World) : Prop :=
 doAl (.cells #[.int .u64 0, .int .u64 0] 356) w (fun b3 w4 =>
 ifB is_2 (
 doSt ((blk b3).add 0) (.int .u64 1) w4 (fun w5 =>
 doSt ((blk b3).add 1) (.int .u64 high_1) w5 (fun w6 =>
 ∃ (x7 : Int), World.cell? w6 ((blk b3).add 0) = some (.int .u64 x7) ∧ (
 ∃ (x8 : Int), World.cell? w6 ((blk b3).add 1) = some (.int .u64 x8) ∧ (
 R (.returned (.agg #[.int .u64 x7, .int .u64 x8])) w6))))) (
 doSt ((blk b3).add 0) (.int .u64 0) w4 (fun w9 =>
 doSt ((blk b3).add 1) (.int .u64 (IntKind.wrap .u64 (high_1 + 1))) w9 (fun w10 =>
 ∃ (x11 : Int), World.cell? w10 ((blk b3).add 0) = some (.int .u64 x11) ∧ (
 ∃ (x12 : Int), World.cell? w10 ((blk b3).add 1) = some (.int .u64 x12) ∧ (
 R (.returned (.agg #[.int .u64 x11, .int .u64 x12])) w10))))))
set_option maxRecDepth 100000 in
theorem sh317_ok (high_1 : Int) (is_2 : Bool) {R : Ending → World → Prop} {w : World} : sh317 high_1 is_2 R w → Calls Tryz.prog 317 #[.int .u64 high_1, .bool is_2] w R :=
  Old.calls_of_eq (ann := fun _ => []) (fn := Tryz.f317) (c := bodyOf Tryz.f317) (args := #[.int .u64 high_1, .bool is_2]) 400 follows_mixed Tryz.func317 (by kernel_rfl) (by kernel_rfl)
set_option maxRecDepth 100000 in
/-- joinery/rb.of -/
def sh318 (t_1 : Option Addr) (R : Ending → World → Prop) (w : World) : Prop :=
 doAl (.cells #[.int .u64 0, .int .u64 0] 356) w (fun b2 w3 =>
 doCall Tryz.prog (.func (.func 214) #[] #[]) #[.pointer t_1] w3 (retS (fun v5 w6 => ∃ (x4 : Int), v5 = (.int .u64 x4 : Value) ∧ (
 2 ≠ (0 : Int) ∧ (
 doCall Tryz.prog (.func (.func 214) #[] #[]) #[.pointer t_1] w6 (retS (fun v8 w9 => ∃ (x7 : Int), v8 = (.int .u64 x7 : Value) ∧ (
 2 ≠ (0 : Int) ∧ (
 doSt ((blk b2).add 0) (.int .u64 (Int.tmod x4 2)) w9 (fun w10 =>
 doSt ((blk b2).add 1) (.int .u64 (IntKind.wrap .u64 (Int.tdiv x7 2))) w10 (fun w11 =>
 ∃ (x12 : Int), World.cell? w11 ((blk b2).add 0) = some (.int .u64 x12) ∧ (
 ∃ (x13 : Int), World.cell? w11 ((blk b2).add 1) = some (.int .u64 x13) ∧ (
 R (.returned (.agg #[.int .u64 x12, .int .u64 x13])) w11))))))) (fun ch w => Kfn R ch [] w))))) (fun ch w => Kfn R ch [] w)))
set_option maxRecDepth 100000 in
theorem sh318_ok (t_1 : Option Addr) {R : Ending → World → Prop} {w : World} : sh318 t_1 R w → Calls Tryz.prog 318 #[.pointer t_1] w R :=
  Old.calls_of_eq (ann := fun _ => []) (fn := Tryz.f318) (c := bodyOf Tryz.f318) (args := #[.pointer t_1]) 400 follows_mixed Tryz.func318 (by kernel_rfl) (by kernel_rfl)
set_option maxRecDepth 100000 in
/-- (joinery/rb.what).tag -/
def sh319 (w_1 : Int) (w_2 : Int) (R : Ending → World → Prop) (w : World) : Prop :=
 doAl (.cells #[.int .u64 w_1, .int .u64 w_2] 356) w (fun b3 w4 =>
 ∃ (x5 : Int), World.cell? w4 ((blk b3).add 1) = some (.int .u64 x5) ∧ (
 ∃ (x6 : Int), World.cell? w4 ((blk b3).add 0) = some (.int .u64 x6) ∧ (
 R (.returned (.int .u64 (IntKind.wrap .u64 ((IntKind.wrap .u64 (2 * x5)) + x6)))) w4)))
set_option maxRecDepth 100000 in
theorem sh319_ok (w_1 : Int) (w_2 : Int) {R : Ending → World → Prop} {w : World} : sh319 w_1 w_2 R w → Calls Tryz.prog 319 #[.agg #[.int .u64 w_1, .int .u64 w_2]] w R :=
  Old.calls_of_eq (ann := fun _ => []) (fn := Tryz.f319) (c := bodyOf Tryz.f319) (args := #[.agg #[.int .u64 w_1, .int .u64 w_2]]) 400 follows_mixed Tryz.func319 (by kernel_rfl) (by kernel_rfl)
set_option maxRecDepth 100000 in
/-- (joinery/wbjoin.side).make -/
def sh321 (s_1 : Int) (in_2 : Option Addr) (pair_3 : Option Addr) (out_4 : Option Addr) (R : Ending → World → Prop) (w : World) : Prop :=
 doAl (.cells #[.pointer none, .pointer none] 382) w (fun b5 w6 =>
 doSt ((blk b5).add 0) (.pointer in_2) w6 (fun w7 =>
 doSt ((blk b5).add 1) (.pointer out_4) w7 (fun w8 =>
 doDr w8 (fun w10 =>
 ∃ (C9 : World → Prop), C9 w10 ∧ (
 doIx (some (blk b5)) 2 1 (s_1) (fun a11 =>
 ∃ (x12 : Option Addr), (∀ w, C9 w → World.cell? w a11 = some (.pointer x12)) ∧ (
 doCall Tryz.prog (.func (.func 322) #[] #[]) #[.int .i64 s_1] w10 (retS (fun v14 w15 => ∃ (x13 : Int), v14 = (.int .i64 x13 : Value) ∧ (
 C9 w15 ∧ (
 doIx (some (blk b5)) 2 1 (x13) (fun a16 =>
 ∃ (x17 : Option Addr), (∀ w, C9 w → World.cell? w a16 = some (.pointer x17)) ∧ (
 doCall Tryz.prog (.func (.func 131) #[] #[]) #[.pointer pair_3] w15 (retS (fun v19 w20 => ∃ (x18 : Int), v19 = (.int .i64 x18 : Value) ∧ (
 C9 w20 ∧ (
 doCall Tryz.prog (.func (.func 132) #[] #[]) #[.pointer pair_3] w20 (retS (fun v22 w23 => ∃ (x21 : Int), v22 = (.int .i64 x21 : Value) ∧ (
 C9 w23 ∧ (
 doCall Tryz.prog (.func (.func 262) #[] #[]) #[.pointer x17, .int .i64 x18, .int .i64 x21, .pointer x12] w23 (retS (fun v25 w26 => ∃ (x24 : Option Addr), v25 = (.pointer x24 : Value) ∧ (
 R (.returned (.pointer x24)) w26)) (fun ch w => Kfn R ch [] w))))) (fun ch w => Kfn R ch [] w))))) (fun ch w => Kfn R ch [] w))))))) (fun ch w => Kfn R ch [] w)))))))))
set_option maxRecDepth 100000 in
theorem sh321_ok (s_1 : Int) (in_2 : Option Addr) (pair_3 : Option Addr) (out_4 : Option Addr) {R : Ending → World → Prop} {w : World} : sh321 s_1 in_2 pair_3 out_4 R w → Calls Tryz.prog 321 #[.int .i64 s_1, .pointer in_2, .pointer pair_3, .pointer out_4] w R :=
  Old.calls_of_eq (ann := fun _ => []) (fn := Tryz.f321) (c := bodyOf Tryz.f321) (args := #[.int .i64 s_1, .pointer in_2, .pointer pair_3, .pointer out_4]) 400 follows_mixed Tryz.func321 (by kernel_rfl) (by kernel_rfl)
set_option maxRecDepth 100000 in
/-- (joinery/wbjoin.side).other -/
def sh322 (s_1 : Int) (R : Ending → World → Prop) (w : World) : Prop :=
 R (.returned (.int .i64 (IntKind.wrap .i64 (1 - s_1)))) w
set_option maxRecDepth 100000 in
theorem sh322_ok (s_1 : Int) {R : Ending → World → Prop} {w : World} : sh322 s_1 R w → Calls Tryz.prog 322 #[.int .i64 s_1] w R :=
  Old.calls_of_eq (ann := fun _ => []) (fn := Tryz.f322) (c := bodyOf Tryz.f322) (args := #[.int .i64 s_1]) 400 follows_mixed Tryz.func322 (by kernel_rfl) (by kernel_rfl)
set_option maxRecDepth 100000 in
/-- (joinery/wbjoin.side).at -/
def sh323 (s_1 : Int) (t_2 : Option Addr) (R : Ending → World → Prop) (w : World) : Prop :=
 doCall Tryz.prog (.func (.func 353) #[] #[]) #[.pointer t_2] w (retS (fun v5 w6 => ∃ (x3 : Option Addr), ∃ (x4 : Option Addr), v5 = (.agg #[.pointer x3, .pointer x4] : Value) ∧ (
 doIxV Tryz.prog 382 (.agg #[.pointer x3, .pointer x4]) (.int .i64 s_1) (fun v7 => ∃ (x8 : Option Addr), v7 = (.pointer x8 : Value) ∧ (
 R (.returned (.pointer x8)) w6)))) (fun ch w => Kfn R ch [] w))
set_option maxRecDepth 100000 in
theorem sh323_ok (s_1 : Int) (t_2 : Option Addr) {R : Ending → World → Prop} {w : World} : sh323 s_1 t_2 R w → Calls Tryz.prog 323 #[.int .i64 s_1, .pointer t_2] w R :=
  Old.calls_of_eq (ann := fun _ => []) (fn := Tryz.f323) (c := bodyOf Tryz.f323) (args := #[.int .i64 s_1, .pointer t_2]) 400 follows_mixed Tryz.func323 (by kernel_rfl) (by kernel_rfl)
set_option maxRecDepth 100000 in
/-- (joinery/wbjoin.side).once -/
def sh324 (s_1 : Int) (in_2 : Option Addr) (t_3 : Option Addr) (x_4 : Option Addr) (R : Ending → World → Prop) (w : World) : Prop :=
 doCall Tryz.prog (.func (.func 322) #[] #[]) #[.int .i64 s_1] w (retS (fun v6 w7 => ∃ (x5 : Int), v6 = (.int .i64 x5 : Value) ∧ (
 doCall Tryz.prog (.func (.func 323) #[] #[]) #[.int .i64 x5, .pointer x_4] w7 (retS (fun v9 w10 => ∃ (x8 : Option Addr), v9 = (.pointer x8 : Value) ∧ (
 doCall Tryz.prog (.func (.func 321) #[] #[]) #[.int .i64 s_1, .pointer in_2, .pointer t_3, .pointer x8] w10 (retS (fun v12 w13 => ∃ (x11 : Option Addr), v12 = (.pointer x11 : Value) ∧ (
 doCall Tryz.prog (.func (.func 323) #[] #[]) #[.int .i64 s_1, .pointer x_4] w13 (retS (fun v15 w16 => ∃ (x14 : Option Addr), v15 = (.pointer x14 : Value) ∧ (
 doCall Tryz.prog (.func (.func 321) #[] #[]) #[.int .i64 s_1, .pointer x11, .pointer x_4, .pointer x14] w16 (retS (fun v18 w19 => ∃ (x17 : Option Addr), v18 = (.pointer x17 : Value) ∧ (
 R (.returned (.pointer x17)) w19)) (fun ch w => Kfn R ch [] w)))) (fun ch w => Kfn R ch [] w)))) (fun ch w => Kfn R ch [] w)))) (fun ch w => Kfn R ch [] w)))) (fun ch w => Kfn R ch [] w))
set_option maxRecDepth 100000 in
theorem sh324_ok (s_1 : Int) (in_2 : Option Addr) (t_3 : Option Addr) (x_4 : Option Addr) {R : Ending → World → Prop} {w : World} : sh324 s_1 in_2 t_3 x_4 R w → Calls Tryz.prog 324 #[.int .i64 s_1, .pointer in_2, .pointer t_3, .pointer x_4] w R :=
  Old.calls_of_eq (ann := fun _ => []) (fn := Tryz.f324) (c := bodyOf Tryz.f324) (args := #[.int .i64 s_1, .pointer in_2, .pointer t_3, .pointer x_4]) 400 follows_mixed Tryz.func324 (by kernel_rfl) (by kernel_rfl)
set_option maxRecDepth 100000 in
/-- (joinery/wbjoin.side).twice -/
def sh325 (s_1 : Int) (in_2 : Option Addr) (t_3 : Option Addr) (x_4 : Option Addr) (R : Ending → World → Prop) (w : World) : Prop :=
 doCall Tryz.prog (.func (.func 322) #[] #[]) #[.int .i64 s_1] w (retS (fun v6 w7 => ∃ (x5 : Int), v6 = (.int .i64 x5 : Value) ∧ (
 doCall Tryz.prog (.func (.func 323) #[] #[]) #[.int .i64 x5, .pointer x_4] w7 (retS (fun v9 w10 => ∃ (x8 : Option Addr), v9 = (.pointer x8 : Value) ∧ (
 doCall Tryz.prog (.func (.func 322) #[] #[]) #[.int .i64 s_1] w10 (retS (fun v12 w13 => ∃ (x11 : Int), v12 = (.int .i64 x11 : Value) ∧ (
 doCall Tryz.prog (.func (.func 323) #[] #[]) #[.int .i64 x11, .pointer x8] w13 (retS (fun v15 w16 => ∃ (x14 : Option Addr), v15 = (.pointer x14 : Value) ∧ (
 doCall Tryz.prog (.func (.func 321) #[] #[]) #[.int .i64 s_1, .pointer in_2, .pointer t_3, .pointer x14] w16 (retS (fun v18 w19 => ∃ (x17 : Option Addr), v18 = (.pointer x17 : Value) ∧ (
 doCall Tryz.prog (.func (.func 323) #[] #[]) #[.int .i64 s_1, .pointer x8] w19 (retS (fun v21 w22 => ∃ (x20 : Option Addr), v21 = (.pointer x20 : Value) ∧ (
 doCall Tryz.prog (.func (.func 323) #[] #[]) #[.int .i64 s_1, .pointer x_4] w22 (retS (fun v24 w25 => ∃ (x23 : Option Addr), v24 = (.pointer x23 : Value) ∧ (
 doCall Tryz.prog (.func (.func 321) #[] #[]) #[.int .i64 s_1, .pointer x20, .pointer x_4, .pointer x23] w25 (retS (fun v27 w28 => ∃ (x26 : Option Addr), v27 = (.pointer x26 : Value) ∧ (
 doCall Tryz.prog (.func (.func 321) #[] #[]) #[.int .i64 s_1, .pointer x17, .pointer x8, .pointer x26] w28 (retS (fun v30 w31 => ∃ (x29 : Option Addr), v30 = (.pointer x29 : Value) ∧ (
 R (.returned (.pointer x29)) w31)) (fun ch w => Kfn R ch [] w)))) (fun ch w => Kfn R ch [] w)))) (fun ch w => Kfn R ch [] w)))) (fun ch w => Kfn R ch [] w)))) (fun ch w => Kfn R ch [] w)))) (fun ch w => Kfn R ch [] w)))) (fun ch w => Kfn R ch [] w)))) (fun ch w => Kfn R ch [] w)))) (fun ch w => Kfn R ch [] w))
set_option maxRecDepth 100000 in
theorem sh325_ok (s_1 : Int) (in_2 : Option Addr) (t_3 : Option Addr) (x_4 : Option Addr) {R : Ending → World → Prop} {w : World} : sh325 s_1 in_2 t_3 x_4 R w → Calls Tryz.prog 325 #[.int .i64 s_1, .pointer in_2, .pointer t_3, .pointer x_4] w R :=
  Old.calls_of_eq (ann := fun _ => []) (fn := Tryz.f325) (c := bodyOf Tryz.f325) (args := #[.int .i64 s_1, .pointer in_2, .pointer t_3, .pointer x_4]) 400 follows_mixed Tryz.func325 (by kernel_rfl) (by kernel_rfl)
end Go.Proofs.YtlfjaogbehpleaaGreat

