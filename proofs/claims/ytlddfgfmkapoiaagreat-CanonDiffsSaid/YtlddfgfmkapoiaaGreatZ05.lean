/-
  Printed by a program (gen.py): what the functions of the program do, as formulas; each with the proof that its call is what the formula says.
-/
/-
  Printed by a program (gen.py): what the functions of the program do, as formulas; each with the proof that its call is what the formula says.
-/
/-
  Printed by a program (gen.py): what the functions of the program do, as formulas; each with the proof that its call is what the formula says.
-/
import Derived.Test.YtlddfgfmkapoiaaGreatZ02
import Derived.Test.YtlddfgfmkapoiaaGreatProg
import Derived.Test.YtlddfgfmkapoiaaGreatZ03

namespace Go.Proofs.YtlddfgfmkapoiaaGreat
open Go Go.Sh
set_option maxRecDepth 100000 in
/-- joinery/node.New -/
def sh105 (l_1 : Option Addr) (key_2 : Int) (val_3 : Int) (tag_4 : Int) (r_5 : Option Addr) (R : Ending → World → Prop) (w : World) : Prop :=
 doCall Tryz.prog (.func (.func 91) #[] #[]) #[.pointer l_1] w (retS (fun v7 w8 => ∃ (x6 : Int), v7 = (.int .i64 x6 : Value) ∧ (
 doCall Tryz.prog (.func (.func 91) #[] #[]) #[.pointer r_5] w8 (retS (fun v10 w11 => ∃ (x9 : Int), v10 = (.int .i64 x9 : Value) ∧ (
 doCall Tryz.prog (.func (.func 107) #[] #[]) #[.pointer l_1] w11 (retS (fun v13 w14 => ∃ (x12 : Int), v13 = (.int .i64 x12 : Value) ∧ (
 doCall Tryz.prog (.func (.func 107) #[] #[]) #[.pointer r_5] w14 (retS (fun v16 w17 => ∃ (x15 : Int), v16 = (.int .i64 x15 : Value) ∧ (
 doAl (.cells #[.int .i64 key_2, .int .i64 val_3, .int .i64 (IntKind.wrap .i64 ((IntKind.wrap .i64 (x12 + val_3)) + x15)), .int .u64 tag_4, .int .i64 (IntKind.wrap .i64 ((IntKind.wrap .i64 (x6 + 1)) + x9)), .pointer l_1, .pointer r_5] 249) w17 (fun b18 w19 =>
 R (.returned (.pointer (some (blk b18)))) w19))) (fun ch w => Kfn R ch [] w)))) (fun ch w => Kfn R ch [] w)))) (fun ch w => Kfn R ch [] w)))) (fun ch w => Kfn R ch [] w))
set_option maxRecDepth 100000 in
theorem sh105_ok (l_1 : Option Addr) (key_2 : Int) (val_3 : Int) (tag_4 : Int) (r_5 : Option Addr) {R : Ending → World → Prop} {w : World} : sh105 l_1 key_2 val_3 tag_4 r_5 R w → Calls Tryz.prog 105 #[.pointer l_1, .int .i64 key_2, .int .i64 val_3, .int .u64 tag_4, .pointer r_5] w R :=
  calls_of_eq (ann := fun _ => []) (fn := Tryz.f105) (c := bodyOf Tryz.f105) (args := #[.pointer l_1, .int .i64 key_2, .int .i64 val_3, .int .u64 tag_4, .pointer r_5]) 400 follows_mixed Tryz.func105 (by kernel_rfl) (by kernel_rfl)
set_option maxRecDepth 100000 in
/-- (*joinery/scheme.Scheme).Join -/
def sh106 (s_1 : Option Addr) (l_2 : Option Addr) (x_3 : Int) (x_4 : Int) (x_5 : Int) (r_6 : Option Addr) (R : Ending → World → Prop) (w : World) : Prop :=
 doAl (.cells #[.int .i64 x_3, .int .i64 x_4, .int .u64 x_5] 114) w (fun b7 w8 =>
 ifB ((s_1).isNone) (
 R (.returned (.pointer none)) w8) (
 ∃ (q9 : Addr), s_1 = some q9 ∧ (
 doCall Tryz.prog (.func (.func 187) #[] #[]) #[.pointer (some (q9.add 12)), .int .u64 1] w8 (retS (fun v11 w12 => ∃ (x10 : Int), v11 = (.int .u64 x10 : Value) ∧ (
 doDr w12 (fun w14 =>
 ∃ (C13 : World → Prop), C13 w14 ∧ (
 ∃ (x15 : Int), (∀ w, C13 w → World.cell? w ((blk b7).add 0) = some (.int .i64 x15)) ∧ (
 ∃ (x16 : Int), (∀ w, C13 w → World.cell? w ((blk b7).add 1) = some (.int .i64 x16)) ∧ (
 ∃ (x17 : Int), (∀ w, C13 w → World.cell? w ((blk b7).add 2) = some (.int .u64 x17)) ∧ (
 doCall Tryz.prog (.func (.func 188) #[] #[]) #[.pointer s_1] w14 (retS (fun v38 w39 => ∃ (x18 : ByteArray), ∃ (xf19 : Fn), ∃ (xx20 : Array Value), ∃ (xc21 : Array Value), ∃ (xf22 : Fn), ∃ (xx23 : Array Value), ∃ (xc24 : Array Value), ∃ (xf25 : Fn), ∃ (xx26 : Array Value), ∃ (xc27 : Array Value), ∃ (xf28 : Fn), ∃ (xx29 : Array Value), ∃ (xc30 : Array Value), ∃ (xf31 : Fn), ∃ (xx32 : Array Value), ∃ (xc33 : Array Value), ∃ (xf34 : Fn), ∃ (xx35 : Array Value), ∃ (xc36 : Array Value), ∃ (x37 : Bool), v38 = (.agg #[.string x18, .func xf19 xx20 xc21, .func xf22 xx23 xc24, .func xf25 xx26 xc27, .func xf28 xx29 xc30, .func xf31 xx32 xc33, .func xf34 xx35 xc36, .bool x37] : Value) ∧ (
 C13 w39 ∧ (
 doCall Tryz.prog (.func xf19 xx20 xc21) #[.pointer l_2, .agg #[.int .i64 x15, .int .i64 x16, .int .u64 x17], .pointer r_6] w39 (retS (fun v41 w42 => ∃ (x40 : Option Addr), v41 = (.pointer x40 : Value) ∧ (
 R (.returned (.pointer x40)) w42)) (fun ch w => Kfn R ch [] w))))) (fun ch w => Kfn R ch [] w))))))))) (fun ch w => Kfn R ch [] w)))))
set_option maxRecDepth 100000 in
theorem sh106_ok (s_1 : Option Addr) (l_2 : Option Addr) (x_3 : Int) (x_4 : Int) (x_5 : Int) (r_6 : Option Addr) {R : Ending → World → Prop} {w : World} : sh106 s_1 l_2 x_3 x_4 x_5 r_6 R w → Calls Tryz.prog 106 #[.pointer s_1, .pointer l_2, .agg #[.int .i64 x_3, .int .i64 x_4, .int .u64 x_5], .pointer r_6] w R :=
  calls_of_eq (ann := fun _ => []) (fn := Tryz.f106) (c := bodyOf Tryz.f106) (args := #[.pointer s_1, .pointer l_2, .agg #[.int .i64 x_3, .int .i64 x_4, .int .u64 x_5], .pointer r_6]) 400 follows_mixed Tryz.func106 (by kernel_rfl) (by kernel_rfl)
set_option maxRecDepth 100000 in
/-- (*joinery/node.Node).Sum -/
def sh107 (n_1 : Option Addr) (R : Ending → World → Prop) (w : World) : Prop :=
 doCall Tryz.prog (.func (.func 166) #[] #[]) #[.pointer n_1] w (retS (fun v7 w8 => ∃ (x2 : Int), ∃ (x3 : Int), ∃ (x4 : Int), ∃ (x5 : Int), ∃ (x6 : Int), v7 = (.agg #[.int .i64 x2, .int .i64 x3, .int .i64 x4, .int .u64 x5, .int .i64 x6] : Value) ∧ (
 R (.returned (.int .i64 x4)) w8)) (fun ch w => Kfn R ch [] w))
set_option maxRecDepth 100000 in
theorem sh107_ok (n_1 : Option Addr) {R : Ending → World → Prop} {w : World} : sh107 n_1 R w → Calls Tryz.prog 107 #[.pointer n_1] w R :=
  calls_of_eq (ann := fun _ => []) (fn := Tryz.f107) (c := bodyOf Tryz.f107) (args := #[.pointer n_1]) 400 follows_mixed Tryz.func107 (by kernel_rfl) (by kernel_rfl)
set_option maxRecDepth 100000 in
/-- (*joinery/node.Node).Key -/
def sh108 (n_1 : Option Addr) (R : Ending → World → Prop) (w : World) : Prop :=
 doCall Tryz.prog (.func (.func 166) #[] #[]) #[.pointer n_1] w (retS (fun v7 w8 => ∃ (x2 : Int), ∃ (x3 : Int), ∃ (x4 : Int), ∃ (x5 : Int), ∃ (x6 : Int), v7 = (.agg #[.int .i64 x2, .int .i64 x3, .int .i64 x4, .int .u64 x5, .int .i64 x6] : Value) ∧ (
 R (.returned (.int .i64 x2)) w8)) (fun ch w => Kfn R ch [] w))
set_option maxRecDepth 100000 in
theorem sh108_ok (n_1 : Option Addr) {R : Ending → World → Prop} {w : World} : sh108 n_1 R w → Calls Tryz.prog 108 #[.pointer n_1] w R :=
  calls_of_eq (ann := fun _ => []) (fn := Tryz.f108) (c := bodyOf Tryz.f108) (args := #[.pointer n_1]) 400 follows_mixed Tryz.func108 (by kernel_rfl) (by kernel_rfl)
set_option maxRecDepth 100000 in
/-- joinery/joineryref09.Parts -/
def sh109 (l_p1 : Option Addr) (l_n2 : Nat) (l_c3 : Nat) (R : Ending → World → Prop) (w : World) : Prop :=
 doAl (.cells #[.int .i64 0, .int .i64 0, .int .i64 0, .int .i64 0, .int .u64 0, .bool false, .bool false] 150) w (fun b4 w5 =>
 let K8 : Int → World → Prop := fun (n_6 : Int) (w7 : World) => 
 doDr w7 (fun w10 =>
 ∃ (C9 : World → Prop), C9 w10 ∧ (
 doIx l_p1 l_n2 7 (0) (fun a11 =>
 ∃ (x12 : Int), (∀ w, C9 w → World.cell? w (a11.add 0) = some (.int .i64 x12)) ∧ (
 ∃ (x13 : Int), (∀ w, C9 w → World.cell? w (a11.add 1) = some (.int .i64 x13)) ∧ (
 ∃ (x14 : Int), (∀ w, C9 w → World.cell? w (a11.add 2) = some (.int .i64 x14)) ∧ (
 ∃ (x15 : Int), (∀ w, C9 w → World.cell? w (a11.add 3) = some (.int .i64 x15)) ∧ (
 ∃ (x16 : Int), (∀ w, C9 w → World.cell? w (a11.add 4) = some (.int .u64 x16)) ∧ (
 ∃ (x17 : Bool), (∀ w, C9 w → World.cell? w (a11.add 5) = some (.bool x17)) ∧ (
 ∃ (x18 : Bool), (∀ w, C9 w → World.cell? w (a11.add 6) = some (.bool x18)) ∧ (
 doSl l_p1 l_c3 7 (1) (IntKind.wrap .i64 (1 + n_6)) (fun p19 n20 c21 =>
 doSl l_p1 l_c3 7 (IntKind.wrap .i64 (1 + n_6)) (((l_n2 : Nat) : Int)) (fun p22 n23 c24 =>
 doSt ((blk b4).add 0) (.int .i64 x12) w10 (fun w25 =>
 doSt ((blk b4).add 1) (.int .i64 x13) w25 (fun w26 =>
 doSt ((blk b4).add 2) (.int .i64 x14) w26 (fun w27 =>
 doSt ((blk b4).add 3) (.int .i64 x15) w27 (fun w28 =>
 doSt ((blk b4).add 4) (.int .u64 x16) w28 (fun w29 =>
 doSt ((blk b4).add 5) (.bool x17) w29 (fun w30 =>
 doSt ((blk b4).add 6) (.bool x18) w30 (fun w31 =>
 ∃ (x32 : Int), World.cell? w31 ((blk b4).add 0) = some (.int .i64 x32) ∧ (
 ∃ (x33 : Int), World.cell? w31 ((blk b4).add 1) = some (.int .i64 x33) ∧ (
 ∃ (x34 : Int), World.cell? w31 ((blk b4).add 2) = some (.int .i64 x34) ∧ (
 ∃ (x35 : Int), World.cell? w31 ((blk b4).add 3) = some (.int .i64 x35) ∧ (
 ∃ (x36 : Int), World.cell? w31 ((blk b4).add 4) = some (.int .u64 x36) ∧ (
 ∃ (x37 : Bool), World.cell? w31 ((blk b4).add 5) = some (.bool x37) ∧ (
 ∃ (x38 : Bool), World.cell? w31 ((blk b4).add 6) = some (.bool x38) ∧ (
 R (.returned (.tuple #[.agg #[.int .i64 x32, .int .i64 x33, .int .i64 x34, .int .i64 x35, .int .u64 x36, .bool x37, .bool x38], .slice p19 n20 c21, .slice p22 n23 c24])) w31))))))))))))))))))))))))))
 doIx l_p1 l_n2 7 (0) (fun a39 =>
 ∃ (x40 : Bool), World.cell? w5 (a39.add 5) = some (.bool x40) ∧ (
 ifB x40 (
 doCall Tryz.prog (.func (.func 189) #[] #[]) #[.slice l_p1 l_n2 l_c3, .int .i64 1, .int .i64 0] w5 (retS (fun v42 w43 => ∃ (x41 : Int), v42 = (.int .i64 x41 : Value) ∧ (
 K8 x41 w43)) (fun ch w => Kfn R ch [] w))) (
 K8 0 w5))))
set_option maxRecDepth 100000 in
theorem sh109_ok (l_p1 : Option Addr) (l_n2 : Nat) (l_c3 : Nat) {R : Ending → World → Prop} {w : World} : sh109 l_p1 l_n2 l_c3 R w → Calls Tryz.prog 109 #[.slice l_p1 l_n2 l_c3] w R :=
  calls_of_eq (ann := fun _ => []) (fn := Tryz.f109) (c := bodyOf Tryz.f109) (args := #[.slice l_p1 l_n2 l_c3]) 400 follows_mixed Tryz.func109 (by kernel_rfl) (by kernel_rfl)
set_option maxRecDepth 100000 in
/-- joinery/joineryref09.Sum -/
def sh115 (l_p1 : Option Addr) (l_n2 : Nat) (_l_c3 : Nat) (R : Ending → World → Prop) (w : World) : Prop :=
 ∃ (I4 : List Value → World → Prop) (μ5 : List Value → World → Nat), I4 [.int .i64 0, .int .i64 0] w ∧ (∀ (n_8 : Int), ∀ (i_9 : Int), ∀ (_j6 : Nat → Value) (w7 : World), I4 [.int .i64 n_8, .int .i64 i_9] w7 → (
 ifB (decide ((i_9 : Int) < ((l_n2 : Nat) : Int))) (
 doIx l_p1 l_n2 7 (i_9) (fun a10 =>
 ∃ (x11 : Int), World.cell? w7 (a10.add 1) = some (.int .i64 x11) ∧ (
 I4 [.int .i64 (IntKind.wrap .i64 (n_8 + x11)), .int .i64 (IntKind.wrap .i64 (i_9 + 1))] w7 ∧ μ5 [.int .i64 (IntKind.wrap .i64 (n_8 + x11)), .int .i64 (IntKind.wrap .i64 (i_9 + 1))] w7 < μ5 [.int .i64 n_8, .int .i64 i_9] w7))) (
 R (.returned (.int .i64 n_8)) w7)))
set_option maxRecDepth 100000 in
theorem sh115_ok (l_p1 : Option Addr) (l_n2 : Nat) (l_c3 : Nat) {R : Ending → World → Prop} {w : World} : sh115 l_p1 l_n2 l_c3 R w → Calls Tryz.prog 115 #[.slice l_p1 l_n2 l_c3] w R :=
  calls_of_eq (ann := fun i => if i = 0 then [(3, .int .i64 0), (4, .int .i64 0)] else []) (fn := Tryz.f115) (c := bodyOf Tryz.f115) (args := #[.slice l_p1 l_n2 l_c3]) 400 follows_mixed Tryz.func115 (by kernel_rfl) (by kernel_rfl)
set_option maxRecDepth 100000 in
/-- joinery/sound.Check -/
def sh117 (o_1 : Int) (t_2 : Option Addr) (R : Ending → World → Prop) (w : World) : Prop :=
 doAl (.cells #[.int .i64 0] 3) w (fun b3 w4 =>
 doAl (.cells #[.int .i64 0] 36) w4 (fun b5 w6 =>
 let K11 : Bool → Value → Value → World → Prop := fun (x7 : Bool) (d8 : Value) (d9 : Value) (w10 : World) => 
 let K13 : Nat → World → Prop := fun (dl14 : Nat) (w12 : World) => 
 doDr w12 (fun w16 =>
 ∃ (C15 : World → Prop), C15 w16 ∧ (
 ∃ (x17 : Int), (∀ w, C15 w → World.cell? w (blk b3) = some (.int .i64 x17)) ∧ (
 ∃ (x18 : Int), (∀ w, C15 w → World.cell? w (blk b5) = some (.int .i64 x18)) ∧ (
 doSt ((blk b3).add 0) (.int .i64 x17) w16 (fun w19 =>
 C15 w19 ∧ (
 doSt ((blk b5).add 0) (.int .i64 x18) w19 (fun w20 =>
 w20.heap[dl14]? = some (.deferred (some [])) ∧ (
 let w21 : World := w20.putObj dl14 (.deferred none)
 ∃ (x22 : Int), World.cell? w21 (blk b3) = some (.int .i64 x22) ∧ (
 ∃ (x23 : Int), World.cell? w21 (blk b5) = some (.int .i64 x23) ∧ (
 R (.returned (.tuple #[.int .i64 x22, .int .i64 x23])) w21))))))))))
 doCall Tryz.prog (.func (.func 194) #[] #[]) #[.int .u8 o_1, .pointer t_2] w10 (retS (fun v27 w28 => ∃ (xf24 : Fn), ∃ (xx25 : Array Value), ∃ (xc26 : Array Value), v27 = (.func xf24 xx25 xc26 : Value) ∧ (
 rfW Tryz.prog (.func xf24 xx25 xc26) (mkLoop #[.int .u8 o_1, .pointer t_2, undef, undef, .pointer (some (blk b3)), .pointer (some (blk b5)), undef, undef, .int .u8 o_1, .bool (decide ((o_1 : Int) < 1)), .bool x7, d8, d9, .bool false, .int .u8 o_1, .pointer t_2, .func xf24 xx25 xc26, undef, undef, undef, undef, undef, undef, undef] (rfOf Tryz.f117 0).1 (rfOf Tryz.f117 0).2.1 (rfOf Tryz.f117 0).2.2)
 (fun w30 =>
 K13 w28.heap.size w30)
 (fun w31 =>
 w31.heap[w28.heap.size]? = some (.deferred (some [])) ∧ (
 let w32 : World := w31.putObj w28.heap.size (.deferred none)
 ∃ (x33 : Int), World.cell? w32 (blk b3) = some (.int .i64 x33) ∧ (
 ∃ (x34 : Int), World.cell? w32 (blk b5) = some (.int .i64 x34) ∧ (
 R (.returned (.tuple #[.int .i64 x33, .int .i64 x34])) w32))))
 [(0, (fun w29 =>
 K13 w28.heap.size w29))] w28)) (fun ch w => Kfn R ch [] w))
 let K40 : Bool → Value → Value → Bool → World → Prop := fun (x35 : Bool) (d36 : Value) (d37 : Value) (x38 : Bool) (w39 : World) => 
 ifB x38 (
 doSt ((blk b3).add 0) (.int .i64 0) w39 (fun w41 =>
 doSt ((blk b5).add 0) (.int .i64 2) w41 (fun w42 =>
 ∃ (x43 : Int), World.cell? w42 (blk b3) = some (.int .i64 x43) ∧ (
 ∃ (x44 : Int), World.cell? w42 (blk b5) = some (.int .i64 x44) ∧ (
 R (.returned (.tuple #[.int .i64 x43, .int .i64 x44])) w42))))) (
 K11 x35 (d36 : Value) (d37 : Value) w39)
 ifB (decide ((o_1 : Int) < 1)) (
 doSt ((blk b3).add 0) (.int .i64 0) w6 (fun w45 =>
 doSt ((blk b5).add 0) (.int .i64 2) w45 (fun w46 =>
 ∃ (x47 : Int), World.cell? w46 (blk b3) = some (.int .i64 x47) ∧ (
 ∃ (x48 : Int), World.cell? w46 (blk b5) = some (.int .i64 x48) ∧ (
 R (.returned (.tuple #[.int .i64 x47, .int .i64 x48])) w46))))) (
 K40 false (.int .u8 o_1 : Value) (.bool (decide ((o_1 : Int) > 7)) : Value) (decide ((o_1 : Int) > 7)) w6)))
set_option maxRecDepth 100000 in
theorem sh117_ok (o_1 : Int) (t_2 : Option Addr) {R : Ending → World → Prop} {w : World} : sh117 o_1 t_2 R w → Calls Tryz.prog 117 #[.int .u8 o_1, .pointer t_2] w R :=
  calls_of_eq (ann := fun _ => []) (fn := Tryz.f117) (c := bodyOf Tryz.f117) (args := #[.int .u8 o_1, .pointer t_2]) 400 follows_mixed Tryz.func117 (by kernel_rfl) (by kernel_rfl)
set_option maxRecDepth 100000 in
/-- joinery/sound.Check, a round of loop 0 -/
def sh117_0 (at_1 : Addr) (e_2 : Addr) (_y25 : Option Addr) (y26 : Bool) (l : Nat) (R : Ending → World → Prop) (w : World) : Prop :=
 ∃ (r27 : Loop), w.heap[l]? = some (.loop r27) ∧ r27.state = .ready ∧ (
 let w28 : World := w.putObj l (.loop { r27 with state := .busy })
 ifB y26 (
 doSt (e_2.add 0) (.int .i64 120) w28 (fun w29 =>
 ∃ (r30 : Loop), w29.heap[l]? = some (.loop r30) ∧ R (.returned (.bool false)) (w29.putObj l (.loop { r30 with state := .done, pending := some (.exit 0) })))) (
 ∃ (x31 : Int), World.cell? w28 at_1 = some (.int .i64 x31) ∧ (
 doSt (at_1.add 0) (.int .i64 (IntKind.wrap .i64 (x31 + 1))) w28 (fun w32 =>
 ∃ (r33 : Loop), w32.heap[l]? = some (.loop r33) ∧ R (.returned (.bool true)) (w32.putObj l (.loop { r33 with state := .ready, pending := none }))))))
set_option maxRecDepth 100000 in
theorem sh117_0_ok {dd3 : Value} {dd4 : Value} {dd5 : Value} {dd6 : Value} {dd7 : Value} {dd8 : Value} {dd9 : Value} {dd10 : Value} {dd11 : Value} {dd12 : Value} {dd13 : Value} {dd14 : Value} {dd15 : Value} {dd16 : Value} {dd17 : Value} {dd18 : Value} {dd19 : Value} {dd20 : Value} {dd21 : Value} {dd22 : Value} {dd23 : Value} {dd24 : Value} {at_1 : Addr} {e_2 : Addr} {y25 : Option Addr} {y26 : Bool} {l fn D : Nat} {R : Ending → World → Prop} {w : World} (hl : w.heap[l]? = some (.loop (mkLoop #[dd3, dd4, dd5, dd6, .pointer (some at_1), .pointer (some e_2), dd7, dd8, dd9, dd10, dd11, dd12, dd13, dd14, dd15, dd16, dd17, dd18, dd19, dd20, dd21, dd22, dd23, dd24] (rfOf Tryz.f117 0).1 (rfOf Tryz.f117 0).2.1 (rfOf Tryz.f117 0).2.2 fn D))) : sh117_0 at_1 e_2 y25 y26 l R w → doCall Tryz.prog (.func (.yield l) #[] #[]) #[.pointer y25, .bool y26] w R :=
  fun h => ⟨round_of_eq (ann := fun _ => []) 400 follows_mixed hl (by kernel_rfl) (by kernel_rfl) h⟩
set_option maxRecDepth 100000 in
/-- joinery/treap.May -/
def sh118 (t_1 : Option Addr) (R : Ending → World → Prop) (w : World) : Prop :=
 doCall Tryz.prog (.func (.func 195) #[] #[]) #[.pointer t_1] w (retS (fun v4 w5 => ∃ (x2 : Int), ∃ (x3 : Int), v4 = (.tuple #[.int .i64 x2, .int .i64 x3] : Value) ∧ (
 R (.returned (.bool ((x3 : Int) == 0))) w5)) (fun ch w => Kfn R ch [] w))
set_option maxRecDepth 100000 in
theorem sh118_ok (t_1 : Option Addr) {R : Ending → World → Prop} {w : World} : sh118 t_1 R w → Calls Tryz.prog 118 #[.pointer t_1] w R :=
  calls_of_eq (ann := fun _ => []) (fn := Tryz.f118) (c := bodyOf Tryz.f118) (args := #[.pointer t_1]) 400 follows_mixed Tryz.func118 (by kernel_rfl) (by kernel_rfl)
set_option maxRecDepth 100000 in
/-- joinery/treap.Mixed -/
def sh119 (t_1 : Option Addr) (R : Ending → World → Prop) (w : World) : Prop :=
 let K4 : Bool → World → Prop := fun (x2 : Bool) (w3 : World) => 
 R (.returned (.bool x2)) w3
 ifB ((t_1).isNone) (
 R (.returned (.bool true)) w) (
 doCall Tryz.prog (.func (.func 196) #[] #[]) #[.pointer t_1] w (retS (fun v6 w7 => ∃ (x5 : Int), v6 = (.int .u64 x5 : Value) ∧ (
 doCall Tryz.prog (.func (.func 108) #[] #[]) #[.pointer t_1] w7 (retS (fun v9 w10 => ∃ (x8 : Int), v9 = (.int .i64 x8 : Value) ∧ (
 doCall Tryz.prog (.func (.func 83) #[] #[]) #[.int .i64 x8] w10 (retS (fun v12 w13 => ∃ (x11 : Int), v12 = (.int .u64 x11 : Value) ∧ (
 ifB ((x5 : Int) == x11) (
 doCall Tryz.prog (.func (.func 123) #[] #[]) #[.pointer t_1] w13 (retS (fun v15 w16 => ∃ (x14 : Option Addr), v15 = (.pointer x14 : Value) ∧ (
 doCall Tryz.prog (.func (.func 119) #[] #[]) #[.pointer x14] w16 (retS (fun v18 w19 => ∃ (x17 : Bool), v18 = (.bool x17 : Value) ∧ (
 ifB x17 (
 doCall Tryz.prog (.func (.func 125) #[] #[]) #[.pointer t_1] w19 (retS (fun v21 w22 => ∃ (x20 : Option Addr), v21 = (.pointer x20 : Value) ∧ (
 doCall Tryz.prog (.func (.func 119) #[] #[]) #[.pointer x20] w22 (retS (fun v24 w25 => ∃ (x23 : Bool), v24 = (.bool x23 : Value) ∧ (
 K4 x23 w25)) (fun ch w => Kfn R ch [] w)))) (fun ch w => Kfn R ch [] w))) (
 R (.returned (.bool false)) w19))) (fun ch w => Kfn R ch [] w)))) (fun ch w => Kfn R ch [] w))) (
 R (.returned (.bool false)) w13))) (fun ch w => Kfn R ch [] w)))) (fun ch w => Kfn R ch [] w)))) (fun ch w => Kfn R ch [] w)))
set_option maxRecDepth 100000 in
theorem sh119_ok (t_1 : Option Addr) {R : Ending → World → Prop} {w : World} : sh119 t_1 R w → Calls Tryz.prog 119 #[.pointer t_1] w R :=
  calls_of_eq (ann := fun _ => []) (fn := Tryz.f119) (c := bodyOf Tryz.f119) (args := #[.pointer t_1]) 400 follows_mixed Tryz.func119 (by kernel_rfl) (by kernel_rfl)
set_option maxRecDepth 100000 in
/-- joinery/joineryref09.May -/
def sh120 (l_p1 : Option Addr) (l_n2 : Nat) (l_c3 : Nat) (R : Ending → World → Prop) (w : World) : Prop :=
 let K6 : Bool → World → Prop := fun (x4 : Bool) (w5 : World) => 
 R (.returned (.bool x4)) w5
 ifB ((((l_n2 : Nat) : Int) : Int) == 0) (
 R (.returned (.bool true)) w) (
 doCall Tryz.prog (.func (.func 189) #[] #[]) #[.slice l_p1 l_n2 l_c3, .int .i64 0, .int .i64 0] w (retS (fun v8 w9 => ∃ (x7 : Int), v8 = (.int .i64 x7 : Value) ∧ (
 K6 ((x7 : Int) == ((l_n2 : Nat) : Int)) w9)) (fun ch w => Kfn R ch [] w)))
set_option maxRecDepth 100000 in
theorem sh120_ok (l_p1 : Option Addr) (l_n2 : Nat) (l_c3 : Nat) {R : Ending → World → Prop} {w : World} : sh120 l_p1 l_n2 l_c3 R w → Calls Tryz.prog 120 #[.slice l_p1 l_n2 l_c3] w R :=
  calls_of_eq (ann := fun _ => []) (fn := Tryz.f120) (c := bodyOf Tryz.f120) (args := #[.slice l_p1 l_n2 l_c3]) 400 follows_mixed Tryz.func120 (by kernel_rfl) (by kernel_rfl)
set_option maxRecDepth 100000 in
/-- joinery/shape.Same -/
def sh121 (a_1 : Option Addr) (b_2 : Option Addr) (R : Ending → World → Prop) (w : World) : Prop :=
 doPE Tryz.prog .eql 35 (.tmp 6) (.tmp 7) (.pointer a_1) (.pointer b_2) w (fun b3 =>
 ifB b3 (
 R (.returned (.bool true)) w) (
 let K6 : Bool → World → Prop := fun (x4 : Bool) (w5 : World) => 
 ifB x4 (
 R (.returned (.bool false)) w5) (
 let K9 : Bool → World → Prop := fun (x7 : Bool) (w8 : World) => 
 R (.returned (.bool x7)) w8
 doCall Tryz.prog (.func (.func 123) #[] #[]) #[.pointer a_1] w5 (retS (fun v11 w12 => ∃ (x10 : Option Addr), v11 = (.pointer x10 : Value) ∧ (
 doCall Tryz.prog (.func (.func 123) #[] #[]) #[.pointer b_2] w12 (retS (fun v14 w15 => ∃ (x13 : Option Addr), v14 = (.pointer x13 : Value) ∧ (
 doCall Tryz.prog (.func (.func 121) #[] #[]) #[.pointer x10, .pointer x13] w15 (retS (fun v17 w18 => ∃ (x16 : Bool), v17 = (.bool x16 : Value) ∧ (
 ifB x16 (
 doCall Tryz.prog (.func (.func 125) #[] #[]) #[.pointer a_1] w18 (retS (fun v20 w21 => ∃ (x19 : Option Addr), v20 = (.pointer x19 : Value) ∧ (
 doCall Tryz.prog (.func (.func 125) #[] #[]) #[.pointer b_2] w21 (retS (fun v23 w24 => ∃ (x22 : Option Addr), v23 = (.pointer x22 : Value) ∧ (
 doCall Tryz.prog (.func (.func 121) #[] #[]) #[.pointer x19, .pointer x22] w24 (retS (fun v26 w27 => ∃ (x25 : Bool), v26 = (.bool x25 : Value) ∧ (
 K9 x25 w27)) (fun ch w => Kfn R ch [] w)))) (fun ch w => Kfn R ch [] w)))) (fun ch w => Kfn R ch [] w))) (
 R (.returned (.bool false)) w18))) (fun ch w => Kfn R ch [] w)))) (fun ch w => Kfn R ch [] w)))) (fun ch w => Kfn R ch [] w)))
 ifB ((a_1).isNone) (
 R (.returned (.bool false)) w) (
 ifB ((b_2).isNone) (
 R (.returned (.bool false)) w) (
 doCall Tryz.prog (.func (.func 108) #[] #[]) #[.pointer a_1] w (retS (fun v29 w30 => ∃ (x28 : Int), v29 = (.int .i64 x28 : Value) ∧ (
 doCall Tryz.prog (.func (.func 108) #[] #[]) #[.pointer b_2] w30 (retS (fun v32 w33 => ∃ (x31 : Int), v32 = (.int .i64 x31 : Value) ∧ (
 ifB ((x28 : Int) != x31) (
 R (.returned (.bool false)) w33) (
 doCall Tryz.prog (.func (.func 126) #[] #[]) #[.pointer a_1] w33 (retS (fun v35 w36 => ∃ (x34 : Int), v35 = (.int .i64 x34 : Value) ∧ (
 doCall Tryz.prog (.func (.func 126) #[] #[]) #[.pointer b_2] w36 (retS (fun v38 w39 => ∃ (x37 : Int), v38 = (.int .i64 x37 : Value) ∧ (
 ifB ((x34 : Int) != x37) (
 R (.returned (.bool false)) w39) (
 doCall Tryz.prog (.func (.func 196) #[] #[]) #[.pointer a_1] w39 (retS (fun v41 w42 => ∃ (x40 : Int), v41 = (.int .u64 x40 : Value) ∧ (
 doCall Tryz.prog (.func (.func 196) #[] #[]) #[.pointer b_2] w42 (retS (fun v44 w45 => ∃ (x43 : Int), v44 = (.int .u64 x43 : Value) ∧ (
 ifB ((x40 : Int) != x43) (
 R (.returned (.bool false)) w45) (
 doCall Tryz.prog (.func (.func 91) #[] #[]) #[.pointer a_1] w45 (retS (fun v47 w48 => ∃ (x46 : Int), v47 = (.int .i64 x46 : Value) ∧ (
 doCall Tryz.prog (.func (.func 91) #[] #[]) #[.pointer b_2] w48 (retS (fun v50 w51 => ∃ (x49 : Int), v50 = (.int .i64 x49 : Value) ∧ (
 ifB ((x46 : Int) != x49) (
 R (.returned (.bool false)) w51) (
 doCall Tryz.prog (.func (.func 107) #[] #[]) #[.pointer a_1] w51 (retS (fun v53 w54 => ∃ (x52 : Int), v53 = (.int .i64 x52 : Value) ∧ (
 doCall Tryz.prog (.func (.func 107) #[] #[]) #[.pointer b_2] w54 (retS (fun v56 w57 => ∃ (x55 : Int), v56 = (.int .i64 x55 : Value) ∧ (
 K6 ((x52 : Int) != x55) w57)) (fun ch w => Kfn R ch [] w)))) (fun ch w => Kfn R ch [] w))))) (fun ch w => Kfn R ch [] w)))) (fun ch w => Kfn R ch [] w))))) (fun ch w => Kfn R ch [] w)))) (fun ch w => Kfn R ch [] w))))) (fun ch w => Kfn R ch [] w)))) (fun ch w => Kfn R ch [] w))))) (fun ch w => Kfn R ch [] w)))) (fun ch w => Kfn R ch [] w))))))
set_option maxRecDepth 100000 in
theorem sh121_ok (a_1 : Option Addr) (b_2 : Option Addr) {R : Ending → World → Prop} {w : World} : sh121 a_1 b_2 R w → Calls Tryz.prog 121 #[.pointer a_1, .pointer b_2] w R :=
  calls_of_eq (ann := fun _ => []) (fn := Tryz.f121) (c := bodyOf Tryz.f121) (args := #[.pointer a_1, .pointer b_2]) 400 follows_mixed Tryz.func121 (by kernel_rfl) (by kernel_rfl)
set_option maxRecDepth 100000 in
/-- joinery/mix.Mix -/
def sh122 (x_1 : Int) (R : Ending → World → Prop) (w : World) : Prop :=
 doAl (.cells #[.int .u64 x_1] 75) w (fun b2 w3 =>
 doCall Tryz.prog (.func (.func 197) #[] #[]) #[.bool false] w3 (retS (fun v7 w8 => ∃ (xf4 : Fn), ∃ (xx5 : Array Value), ∃ (xc6 : Array Value), v7 = (.func xf4 xx5 xc6 : Value) ∧ (
 rfW Tryz.prog (.func xf4 xx5 xc6) (mkLoop #[.int .u64 x_1, .pointer (some (blk b2)), .int .u64 0, undef, .func xf4 xx5 xc6, undef, undef, undef, undef, undef, undef, undef, undef, undef, undef, undef] (rfOf Tryz.f122 0).1 (rfOf Tryz.f122 0).2.1 (rfOf Tryz.f122 0).2.2)
 (fun w9 =>
 ∃ (x10 : Int), World.cell? w9 (blk b2) = some (.int .u64 x10) ∧ (
 w9.heap[w8.heap.size]? = some (.deferred (some [])) ∧ (
 let w11 : World := w9.putObj w8.heap.size (.deferred none)
 R (.returned (.int .u64 x10)) w11)))
 (fun w12 =>
 w12.heap[w8.heap.size]? = some (.deferred (some [])) ∧ (
 let w13 : World := w12.putObj w8.heap.size (.deferred none)
 R (.returned (.int .u64 0)) w13))
 [] w8)) (fun ch w => Kfn R ch [] w)))
set_option maxRecDepth 100000 in
theorem sh122_ok (x_1 : Int) {R : Ending → World → Prop} {w : World} : sh122 x_1 R w → Calls Tryz.prog 122 #[.int .u64 x_1] w R :=
  calls_of_eq (ann := fun _ => []) (fn := Tryz.f122) (c := bodyOf Tryz.f122) (args := #[.int .u64 x_1]) 400 follows_mixed Tryz.func122 (by kernel_rfl) (by kernel_rfl)
set_option maxRecDepth 100000 in
/-- joinery/mix.Mix, a round of loop 0 -/
def sh122_0 (x_1 : Addr) (y17 : Int) (y18 : Int) (l : Nat) (R : Ending → World → Prop) (w : World) : Prop :=
 doAl (.cells #[.int .i64 0, .int .u64 0] 265) w (fun b19 w20 =>
 doSt ((blk b19).add 0) (.int .i64 y17) w20 (fun w21 =>
 doSt ((blk b19).add 1) (.int .u64 y18) w21 (fun w22 =>
 ∃ (r23 : Loop), w22.heap[l]? = some (.loop r23) ∧ r23.state = .ready ∧ (
 let w24 : World := w22.putObj l (.loop { r23 with state := .busy })
 doDr w24 (fun w26 =>
 ∃ (C25 : World → Prop), C25 w26 ∧ (
 ∃ (x27 : Int), (∀ w, C25 w → World.cell? w x_1 = some (.int .u64 x27)) ∧ (
 ∃ (x28 : Int), (∀ w, C25 w → World.cell? w x_1 = some (.int .u64 x28)) ∧ (
 ∃ (x29 : Int), (∀ w, C25 w → World.cell? w ((blk b19).add 0) = some (.int .i64 x29)) ∧ (
 (0 : Int) ≤ x29 ∧ (
 ∃ (x30 : Int), (∀ w, C25 w → World.cell? w ((blk b19).add 1) = some (.int .u64 x30)) ∧ (
 doSt (x_1.add 0) (.int .u64 (IntKind.wrap .u64 ((bXor .u64 x27 (Int.fdiv x28 (2 ^ (min (x29 : Int).toNat (IntKind.bits .u64))))) * x30))) w26 (fun w31 =>
 ∃ (r32 : Loop), w31.heap[l]? = some (.loop r32) ∧ R (.returned (.bool true)) (w31.putObj l (.loop { r32 with state := .ready, pending := none }))))))))))))))
set_option maxRecDepth 100000 in
theorem sh122_0_ok {dd2 : Value} {dd3 : Value} {dd4 : Value} {dd5 : Value} {dd6 : Value} {dd7 : Value} {dd8 : Value} {dd9 : Value} {dd10 : Value} {dd11 : Value} {dd12 : Value} {dd13 : Value} {dd14 : Value} {dd15 : Value} {dd16 : Value} {x_1 : Addr} {y17 : Int} {y18 : Int} {l fn D : Nat} {R : Ending → World → Prop} {w : World} (hl : w.heap[l]? = some (.loop (mkLoop #[dd2, .pointer (some x_1), dd3, dd4, dd5, dd6, dd7, dd8, dd9, dd10, dd11, dd12, dd13, dd14, dd15, dd16] (rfOf Tryz.f122 0).1 (rfOf Tryz.f122 0).2.1 (rfOf Tryz.f122 0).2.2 fn D))) : sh122_0 x_1 y17 y18 l R w → doCall Tryz.prog (.func (.yield l) #[] #[]) #[.agg #[.int .i64 y17, .int .u64 y18]] w R :=
  fun h => ⟨round_of_eq (ann := fun _ => []) 400 follows_mixed hl (by kernel_rfl) (by kernel_rfl) h⟩
end Go.Proofs.YtlddfgfmkapoiaaGreat

namespace Go.Proofs.YtlddfgfmkapoiaaGreat
open Go Go.Sh
set_option maxRecDepth 100000 in
/-- (*joinery/node.Node).Left -/
def sh123 (n_1 : Option Addr) (R : Ending → World → Prop) (w : World) : Prop :=
 ifB ((n_1).isNone) (
 R (.returned (.pointer none)) w) (
 ∃ (q2 : Addr), n_1 = some q2 ∧ (
 ∃ (x3 : Option Addr), World.cell? w (q2.add 5) = some (.pointer x3) ∧ (
 R (.returned (.pointer x3)) w)))
set_option maxRecDepth 100000 in
theorem sh123_ok (n_1 : Option Addr) {R : Ending → World → Prop} {w : World} : sh123 n_1 R w → Calls Tryz.prog 123 #[.pointer n_1] w R :=
  calls_of_eq (ann := fun _ => []) (fn := Tryz.f123) (c := bodyOf Tryz.f123) (args := #[.pointer n_1]) 400 follows_mixed Tryz.func123 (by kernel_rfl) (by kernel_rfl)
set_option maxRecDepth 100000 in
/-- joinery/mix.Turn -/
def sh124 (x_1 : Int) (n_2 : Int) (R : Ending → World → Prop) (w : World) : Prop :=
 64 ≠ (0 : Int) ∧ (
 doCall Tryz.prog (.func (.func 198) #[] #[]) #[.int .u64 x_1, .int .i64 (Int.tmod n_2 64)] w (retS (fun v4 w5 => ∃ (x3 : Int), v4 = (.int .u64 x3 : Value) ∧ (
 R (.returned (.int .u64 x3)) w5)) (fun ch w => Kfn R ch [] w)))
set_option maxRecDepth 100000 in
theorem sh124_ok (x_1 : Int) (n_2 : Int) {R : Ending → World → Prop} {w : World} : sh124 x_1 n_2 R w → Calls Tryz.prog 124 #[.int .u64 x_1, .int .i64 n_2] w R :=
  calls_of_eq (ann := fun _ => []) (fn := Tryz.f124) (c := bodyOf Tryz.f124) (args := #[.int .u64 x_1, .int .i64 n_2]) 400 follows_mixed Tryz.func124 (by kernel_rfl) (by kernel_rfl)
set_option maxRecDepth 100000 in
/-- (*joinery/node.Node).Right -/
def sh125 (n_1 : Option Addr) (R : Ending → World → Prop) (w : World) : Prop :=
 ifB ((n_1).isNone) (
 R (.returned (.pointer none)) w) (
 ∃ (q2 : Addr), n_1 = some q2 ∧ (
 ∃ (x3 : Option Addr), World.cell? w (q2.add 6) = some (.pointer x3) ∧ (
 R (.returned (.pointer x3)) w)))
set_option maxRecDepth 100000 in
theorem sh125_ok (n_1 : Option Addr) {R : Ending → World → Prop} {w : World} : sh125 n_1 R w → Calls Tryz.prog 125 #[.pointer n_1] w R :=
  calls_of_eq (ann := fun _ => []) (fn := Tryz.f125) (c := bodyOf Tryz.f125) (args := #[.pointer n_1]) 400 follows_mixed Tryz.func125 (by kernel_rfl) (by kernel_rfl)
set_option maxRecDepth 100000 in
/-- (*joinery/node.Node).Val -/
def sh126 (n_1 : Option Addr) (R : Ending → World → Prop) (w : World) : Prop :=
 doCall Tryz.prog (.func (.func 166) #[] #[]) #[.pointer n_1] w (retS (fun v7 w8 => ∃ (x2 : Int), ∃ (x3 : Int), ∃ (x4 : Int), ∃ (x5 : Int), ∃ (x6 : Int), v7 = (.agg #[.int .i64 x2, .int .i64 x3, .int .i64 x4, .int .u64 x5, .int .i64 x6] : Value) ∧ (
 R (.returned (.int .i64 x3)) w8)) (fun ch w => Kfn R ch [] w))
set_option maxRecDepth 100000 in
theorem sh126_ok (n_1 : Option Addr) {R : Ending → World → Prop} {w : World} : sh126 n_1 R w → Calls Tryz.prog 126 #[.pointer n_1] w R :=
  calls_of_eq (ann := fun _ => []) (fn := Tryz.f126) (c := bodyOf Tryz.f126) (args := #[.pointer n_1]) 400 follows_mixed Tryz.func126 (by kernel_rfl) (by kernel_rfl)
set_option maxRecDepth 100000 in
/-- joinery/joineryref02.May -/
def sh127 (o_1 : Int) (R : Ending → World → Prop) (w : World) : Prop :=
 doCall Tryz.prog (.func (.func 16) #[] #[]) #[.int .u8 o_1] w (retS (fun v3 w4 => ∃ (x2 : Bool), v3 = (.bool x2 : Value) ∧ (
 R (.returned (.bool x2)) w4)) (fun ch w => Kfn R ch [] w))
set_option maxRecDepth 100000 in
theorem sh127_ok (o_1 : Int) {R : Ending → World → Prop} {w : World} : sh127 o_1 R w → Calls Tryz.prog 127 #[.int .u8 o_1] w R :=
  calls_of_eq (ann := fun _ => []) (fn := Tryz.f127) (c := bodyOf Tryz.f127) (args := #[.int .u8 o_1]) 400 follows_mixed Tryz.func127 (by kernel_rfl) (by kernel_rfl)
set_option maxRecDepth 100000 in
/-- joinery/joineryref12.Sound -/
def sh128 (o_1 : Int) (l_p2 : Option Addr) (l_n3 : Nat) (l_c4 : Nat) (R : Ending → World → Prop) (w : World) : Prop :=
 doCall Tryz.prog (.func (.func 60) #[] #[]) #[.slice l_p2 l_n3 l_c4] w (retS (fun v8 w9 => ∃ (xp5 : Option Addr), ∃ (xn6 : Nat), ∃ (xc7 : Nat), v8 = (.slice xp5 xn6 xc7 : Value) ∧ (
 doCall Tryz.prog (.func (.func 199) #[] #[]) #[.int .u8 o_1, .slice xp5 xn6 xc7] w9 (retS (fun v11 w12 => ∃ (x10 : Bool), v11 = (.bool x10 : Value) ∧ (
 R (.returned (.bool x10)) w12)) (fun ch w => Kfn R ch [] w)))) (fun ch w => Kfn R ch [] w))
set_option maxRecDepth 100000 in
theorem sh128_ok (o_1 : Int) (l_p2 : Option Addr) (l_n3 : Nat) (l_c4 : Nat) {R : Ending → World → Prop} {w : World} : sh128 o_1 l_p2 l_n3 l_c4 R w → Calls Tryz.prog 128 #[.int .u8 o_1, .slice l_p2 l_n3 l_c4] w R :=
  calls_of_eq (ann := fun _ => []) (fn := Tryz.f128) (c := bodyOf Tryz.f128) (args := #[.int .u8 o_1, .slice l_p2 l_n3 l_c4]) 400 follows_mixed Tryz.func128 (by kernel_rfl) (by kernel_rfl)
set_option maxRecDepth 100000 in
/-- joinery/joineryref20.May -/
def sh129 (l_p1 : Option Addr) (l_n2 : Nat) (l_c3 : Nat) (R : Ending → World → Prop) (w : World) : Prop :=
 doCall Tryz.prog (.func (.func 200) #[] #[]) #[.slice l_p1 l_n2 l_c3] w (retS (fun v6 w7 => ∃ (x4 : Int), ∃ (x5 : Int), v6 = (.tuple #[.int .i64 x4, .int .i64 x5] : Value) ∧ (
 R (.returned (.bool ((x5 : Int) == 0))) w7)) (fun ch w => Kfn R ch [] w))
set_option maxRecDepth 100000 in
theorem sh129_ok (l_p1 : Option Addr) (l_n2 : Nat) (l_c3 : Nat) {R : Ending → World → Prop} {w : World} : sh129 l_p1 l_n2 l_c3 R w → Calls Tryz.prog 129 #[.slice l_p1 l_n2 l_c3] w R :=
  calls_of_eq (ann := fun _ => []) (fn := Tryz.f129) (c := bodyOf Tryz.f129) (args := #[.slice l_p1 l_n2 l_c3]) 400 follows_mixed Tryz.func129 (by kernel_rfl) (by kernel_rfl)
set_option maxRecDepth 100000 in
/-- joinery/joineryref20.Mixed -/
def sh130 (l_p1 : Option Addr) (l_n2 : Nat) (_l_c3 : Nat) (R : Ending → World → Prop) (w : World) : Prop :=
 ∃ (I4 : List Value → World → Prop) (μ5 : List Value → World → Nat), I4 [.int .i64 0] w ∧ (∀ (i_8 : Int), ∀ (_j6 : Nat → Value) (w7 : World), I4 [.int .i64 i_8] w7 → (
 ifB (decide ((i_8 : Int) < ((l_n2 : Nat) : Int))) (
 doDr w7 (fun w10 =>
 ∃ (C9 : World → Prop), C9 w10 ∧ (
 doIx l_p1 l_n2 7 (i_8) (fun a11 =>
 ∃ (x12 : Int), (∀ w, C9 w → World.cell? w (a11.add 4) = some (.int .u64 x12)) ∧ (
 doIx l_p1 l_n2 7 (i_8) (fun a13 =>
 ∃ (x14 : Int), (∀ w, C9 w → World.cell? w (a13.add 0) = some (.int .i64 x14)) ∧ (
 doCall Tryz.prog (.func (.func 186) #[] #[]) #[.int .i64 x14] w10 (retS (fun v16 w17 => ∃ (x15 : Int), v16 = (.int .u64 x15 : Value) ∧ (
 C9 w17 ∧ (
 ifB ((x12 : Int) != x15) (
 R (.returned (.bool false)) w17) (
 I4 [.int .i64 (IntKind.wrap .i64 (i_8 + 1))] w17 ∧ μ5 [.int .i64 (IntKind.wrap .i64 (i_8 + 1))] w17 < μ5 [.int .i64 i_8] w7)))) (fun ch w => Kfn R ch [] w))))))))) (
 R (.returned (.bool true)) w7)))
set_option maxRecDepth 100000 in
theorem sh130_ok (l_p1 : Option Addr) (l_n2 : Nat) (l_c3 : Nat) {R : Ending → World → Prop} {w : World} : sh130 l_p1 l_n2 l_c3 R w → Calls Tryz.prog 130 #[.slice l_p1 l_n2 l_c3] w R :=
  calls_of_eq (ann := fun i => if i = 0 then [(3, .int .i64 0)] else []) (fn := Tryz.f130) (c := bodyOf Tryz.f130) (args := #[.slice l_p1 l_n2 l_c3]) 400 follows_mixed Tryz.func130 (by kernel_rfl) (by kernel_rfl)
set_option maxRecDepth 100000 in
/-- joinery/joineryref01.Mix -/
def sh131 (x_1 : Int) (R : Ending → World → Prop) (w : World) : Prop :=
 1073741824 ≠ (0 : Int) ∧ (
 134217728 ≠ (0 : Int) ∧ (
 2147483648 ≠ (0 : Int) ∧ (
 R (.returned (.int .u64 (bXor .u64 (IntKind.wrap .u64 ((bXor .u64 (IntKind.wrap .u64 ((bXor .u64 x_1 (IntKind.wrap .u64 (Int.tdiv x_1 1073741824))) * 13787848793156543929)) (IntKind.wrap .u64 (Int.tdiv (IntKind.wrap .u64 ((bXor .u64 x_1 (IntKind.wrap .u64 (Int.tdiv x_1 1073741824))) * 13787848793156543929)) 134217728))) * 10723151780598845931)) (IntKind.wrap .u64 (Int.tdiv (IntKind.wrap .u64 ((bXor .u64 (IntKind.wrap .u64 ((bXor .u64 x_1 (IntKind.wrap .u64 (Int.tdiv x_1 1073741824))) * 13787848793156543929)) (IntKind.wrap .u64 (Int.tdiv (IntKind.wrap .u64 ((bXor .u64 x_1 (IntKind.wrap .u64 (Int.tdiv x_1 1073741824))) * 13787848793156543929)) 134217728))) * 10723151780598845931)) 2147483648))))) w)))
set_option maxRecDepth 100000 in
theorem sh131_ok (x_1 : Int) {R : Ending → World → Prop} {w : World} : sh131 x_1 R w → Calls Tryz.prog 131 #[.int .u64 x_1] w R :=
  calls_of_eq (ann := fun _ => []) (fn := Tryz.f131) (c := bodyOf Tryz.f131) (args := #[.int .u64 x_1]) 400 follows_mixed Tryz.func131 (by kernel_rfl) (by kernel_rfl)
set_option maxRecDepth 100000 in
/-- joinery/joineryref01.Turn -/
def sh132 (x_1 : Int) (n_2 : Int) (R : Ending → World → Prop) (w : World) : Prop :=
 64 ≠ (0 : Int) ∧ (
 64 ≠ (0 : Int) ∧ (
 ∃ (I3 : List Value → World → Prop) (μ4 : List Value → World → Nat), I3 [.int .u64 0, .int .i64 0] w ∧ (∀ (y_7 : Int), ∀ (i_8 : Int), ∀ (_j5 : Nat → Value) (w6 : World), I3 [.int .u64 y_7, .int .i64 i_8] w6 → (
 ifB (decide ((i_8 : Int) < 64)) (
 (0 : Int) ≤ (IntKind.wrap .u64 i_8) ∧ (
 2 ≠ (0 : Int) ∧ (
 64 ≠ (0 : Int) ∧ (
 (0 : Int) ≤ (IntKind.wrap .u64 (Int.tmod (IntKind.wrap .i64 (i_8 + (Int.tmod (IntKind.wrap .i64 ((Int.tmod n_2 64) + 64)) 64))) 64)) ∧ (
 I3 [.int .u64 (IntKind.wrap .u64 (y_7 + (IntKind.wrap .u64 ((Int.tmod (Int.fdiv x_1 (2 ^ (min ((IntKind.wrap .u64 i_8) : Int).toNat (IntKind.bits .u64)))) 2) * 2 ^ (min ((IntKind.wrap .u64 (Int.tmod (IntKind.wrap .i64 (i_8 + (Int.tmod (IntKind.wrap .i64 ((Int.tmod n_2 64) + 64)) 64))) 64)) : Int).toNat (IntKind.bits .u64)))))), .int .i64 (IntKind.wrap .i64 (i_8 + 1))] w6 ∧ μ4 [.int .u64 (IntKind.wrap .u64 (y_7 + (IntKind.wrap .u64 ((Int.tmod (Int.fdiv x_1 (2 ^ (min ((IntKind.wrap .u64 i_8) : Int).toNat (IntKind.bits .u64)))) 2) * 2 ^ (min ((IntKind.wrap .u64 (Int.tmod (IntKind.wrap .i64 (i_8 + (Int.tmod (IntKind.wrap .i64 ((Int.tmod n_2 64) + 64)) 64))) 64)) : Int).toNat (IntKind.bits .u64)))))), .int .i64 (IntKind.wrap .i64 (i_8 + 1))] w6 < μ4 [.int .u64 y_7, .int .i64 i_8] w6))))) (
 R (.returned (.int .u64 y_7)) w6)))))
set_option maxRecDepth 100000 in
theorem sh132_ok (x_1 : Int) (n_2 : Int) {R : Ending → World → Prop} {w : World} : sh132 x_1 n_2 R w → Calls Tryz.prog 132 #[.int .u64 x_1, .int .i64 n_2] w R :=
  calls_of_eq (ann := fun i => if i = 0 then [(5, .int .u64 0), (6, .int .i64 0)] else []) (fn := Tryz.f132) (c := bodyOf Tryz.f132) (args := #[.int .u64 x_1, .int .i64 n_2]) 400 follows_mixed Tryz.func132 (by kernel_rfl) (by kernel_rfl)
set_option maxRecDepth 100000 in
/-- joinery/canon.unlike -/
def sh133 (s_1 : Option Addr) (o_2 : Int) (a_3 : Option Addr) (b_4 : Option Addr) (R : Ending → World → Prop) (w : World) : Prop :=
 doAl (.cells #[.pointer s_1] 25) w (fun b5 w6 =>
 doAl (.cells #[.int .u8 o_2] 5) w6 (fun b7 w8 =>
 doAl (.cells #[.pointer a_3] 35) w8 (fun b9 w10 =>
 doAl (.cells #[.pointer b_4] 35) w10 (fun b11 w12 =>
 R (.returned (.func (.func 201) #[] #[.pointer (some (blk b5)), .pointer (some (blk b7)), .pointer (some (blk b9)), .pointer (some (blk b11))])) w12))))
set_option maxRecDepth 100000 in
theorem sh133_ok (s_1 : Option Addr) (o_2 : Int) (a_3 : Option Addr) (b_4 : Option Addr) {R : Ending → World → Prop} {w : World} : sh133 s_1 o_2 a_3 b_4 R w → Calls Tryz.prog 133 #[.pointer s_1, .int .u8 o_2, .pointer a_3, .pointer b_4] w R :=
  calls_of_eq (ann := fun _ => []) (fn := Tryz.f133) (c := bodyOf Tryz.f133) (args := #[.pointer s_1, .int .u8 o_2, .pointer a_3, .pointer b_4]) 400 follows_mixed Tryz.func133 (by kernel_rfl) (by kernel_rfl)
set_option maxRecDepth 100000 in
/-- joinery/joineryref05.Union -/
def sh134 (o_1 : Int) (p_2 : Int) (a_p3 : Option Addr) (a_n4 : Nat) (a_c5 : Nat) (b_p6 : Option Addr) (b_n7 : Nat) (b_c8 : Nat) (R : Ending → World → Prop) (w : World) : Prop :=
 doCall Tryz.prog (.func (.func 203) #[] #[]) #[.int .u8 o_1, .slice a_p3 a_n4 a_c5, .slice b_p6 b_n7 b_c8] w (retS (fun v10 w11 => ∃ (x9 : Bool), v10 = (.bool x9 : Value) ∧ (
 ifB (!x9) (
 R (.returned (.tuple #[.slice none 0 0, .int .i64 2])) w11) (
 doGo Tryz.prog (.builtin .append #[22, 22] 22 #[true, false]) #[.slice none 0 0, .slice a_p3 a_n4 a_c5] w11 (retS (fun v15 w16 => ∃ (xp12 : Option Addr), ∃ (xn13 : Nat), ∃ (xc14 : Nat), v15 = (.slice xp12 xn13 xc14 : Value) ∧ (
 doGo Tryz.prog (.builtin .append #[22, 22] 22 #[false, false]) #[.slice xp12 xn13 xc14, .slice b_p6 b_n7 b_c8] w16 (retS (fun v20 w21 => ∃ (xp17 : Option Addr), ∃ (xn18 : Nat), ∃ (xc19 : Nat), v20 = (.slice xp17 xn18 xc19 : Value) ∧ (
 doCall Tryz.prog (.func (.func 96) #[] #[]) #[.int .u8 o_1, .int .u8 p_2, .slice xp17 xn18 xc19] w21 (retS (fun v26 w27 => ∃ (xp22 : Option Addr), ∃ (xn23 : Nat), ∃ (xc24 : Nat), ∃ (x25 : Int), v26 = (.tuple #[.slice xp22 xn23 xc24, .int .i64 x25] : Value) ∧ (
 R (.returned (.tuple #[.slice xp22 xn23 xc24, .int .i64 x25])) w27)) (fun ch w => Kfn R ch [] w)))) (fun ch w => Kfn R ch [] w)))) (fun ch w => Kfn R ch [] w))))) (fun ch w => Kfn R ch [] w))
set_option maxRecDepth 100000 in
theorem sh134_ok (o_1 : Int) (p_2 : Int) (a_p3 : Option Addr) (a_n4 : Nat) (a_c5 : Nat) (b_p6 : Option Addr) (b_n7 : Nat) (b_c8 : Nat) {R : Ending → World → Prop} {w : World} : sh134 o_1 p_2 a_p3 a_n4 a_c5 b_p6 b_n7 b_c8 R w → Calls Tryz.prog 134 #[.int .u8 o_1, .int .u8 p_2, .slice a_p3 a_n4 a_c5, .slice b_p6 b_n7 b_c8] w R :=
  calls_of_eq (ann := fun _ => []) (fn := Tryz.f134) (c := bodyOf Tryz.f134) (args := #[.int .u8 o_1, .int .u8 p_2, .slice a_p3 a_n4 a_c5, .slice b_p6 b_n7 b_c8]) 400 follows_mixed Tryz.func134 (by kernel_rfl) (by kernel_rfl)
set_option maxRecDepth 100000 in
/-- joinery/joineryref41.has -/
def sh135 (l_p1 : Option Addr) (l_n2 : Nat) (_l_c3 : Nat) (x_4 : Int) (x_5 : Int) (R : Ending → World → Prop) (w : World) : Prop :=
 doAl (.cells #[.int .i64 x_4, .int .i64 x_5] 46) w (fun b6 w7 =>
 ∃ (I8 : List Value → World → Prop) (μ9 : List Value → World → Nat), I8 [.int .i64 0] w7 ∧ (∀ (i_12 : Int), ∀ (_j10 : Nat → Value) (w11 : World), I8 [.int .i64 i_12] w11 → (
 ifB (decide ((i_12 : Int) < ((l_n2 : Nat) : Int))) (
 doDr w11 (fun w14 =>
 ∃ (C13 : World → Prop), C13 w14 ∧ (
 doIx l_p1 l_n2 2 (i_12) (fun a15 =>
 ∃ (x16 : Int), (∀ w, C13 w → World.cell? w (a15.add 0) = some (.int .i64 x16)) ∧ (
 ∃ (x17 : Int), (∀ w, C13 w → World.cell? w (a15.add 1) = some (.int .i64 x17)) ∧ (
 ∃ (x18 : Int), (∀ w, C13 w → World.cell? w ((blk b6).add 0) = some (.int .i64 x18)) ∧ (
 ∃ (x19 : Int), (∀ w, C13 w → World.cell? w ((blk b6).add 1) = some (.int .i64 x19)) ∧ (
 ifB (((x16 : Int) == x18) && (((x17 : Int) == x19) && true)) (
 R (.returned (.bool true)) w14) (
 I8 [.int .i64 (IntKind.wrap .i64 (i_12 + 1))] w14 ∧ μ9 [.int .i64 (IntKind.wrap .i64 (i_12 + 1))] w14 < μ9 [.int .i64 i_12] w11))))))))) (
 R (.returned (.bool false)) w11))))
set_option maxRecDepth 100000 in
theorem sh135_ok (l_p1 : Option Addr) (l_n2 : Nat) (l_c3 : Nat) (x_4 : Int) (x_5 : Int) {R : Ending → World → Prop} {w : World} : sh135 l_p1 l_n2 l_c3 x_4 x_5 R w → Calls Tryz.prog 135 #[.slice l_p1 l_n2 l_c3, .agg #[.int .i64 x_4, .int .i64 x_5]] w R :=
  calls_of_eq (ann := fun i => if i = 0 then [(5, .int .i64 0)] else []) (fn := Tryz.f135) (c := bodyOf Tryz.f135) (args := #[.slice l_p1 l_n2 l_c3, .agg #[.int .i64 x_4, .int .i64 x_5]]) 400 follows_mixed Tryz.func135 (by kernel_rfl) (by kernel_rfl)
end Go.Proofs.YtlddfgfmkapoiaaGreat

namespace Go.Proofs.YtlddfgfmkapoiaaGreat
open Go Go.Sh
set_option maxRecDepth 100000 in
/-- joinery/joineryref02.Code -/
def sh150 (o_1 : Int) (k_2 : Int) (R : Ending → World → Prop) (w : World) : Prop :=
 ifB ((o_1 : Int) == 1) (
 doCall Tryz.prog (.func (.func 208) #[] #[]) #[.int .i64 k_2] w (retS (fun v4 w5 => ∃ (x3 : Int), v4 = (.int .u64 x3 : Value) ∧ (
 R (.returned (.int .u64 x3)) w5)) (fun ch w => Kfn R ch [] w))) (
 ifB ((o_1 : Int) == 2) (
 doCall Tryz.prog (.func (.func 208) #[] #[]) #[.int .i64 k_2] w (retS (fun v7 w8 => ∃ (x6 : Int), v7 = (.int .u64 x6 : Value) ∧ (
 R (.returned (.int .u64 (IntKind.wrap .u64 (18446744073709551615 - x6)))) w8)) (fun ch w => Kfn R ch [] w))) (
 ifB ((o_1 : Int) == 3) (
 ifB (decide ((k_2 : Int) < 0)) (
 R (.returned (.int .u64 (IntKind.wrap .u64 ((IntKind.wrap .u64 ((IntKind.wrap .u64 (IntKind.wrap .i64 (0 - (IntKind.wrap .i64 (k_2 + 1))))) * 2)) + 1)))) w) (
 R (.returned (.int .u64 (IntKind.wrap .u64 ((IntKind.wrap .u64 k_2) * 2)))) w)) (
 ifB ((o_1 : Int) == 4) (
 doCall Tryz.prog (.func (.func 209) #[] #[]) #[.int .u64 (IntKind.wrap .u64 k_2)] w (retS (fun v10 w11 => ∃ (x9 : Int), v10 = (.int .u64 x9 : Value) ∧ (
 R (.returned (.int .u64 x9)) w11)) (fun ch w => Kfn R ch [] w))) (
 ifB ((o_1 : Int) == 5) (
 doCall Tryz.prog (.func (.func 208) #[] #[]) #[.int .i64 k_2] w (retS (fun v13 w14 => ∃ (x12 : Int), v13 = (.int .u64 x12 : Value) ∧ (
 2 ≠ (0 : Int) ∧ (
 let K17 : Int → World → Prop := fun (half_15 : Int) (w16 : World) => 
 R (.returned (.int .u64 half_15)) w16
 2 ≠ (0 : Int) ∧ (
 ifB (((Int.tmod (IntKind.wrap .u64 k_2) 2) : Int) == 1) (
 K17 (IntKind.wrap .u64 ((IntKind.wrap .u64 (Int.tdiv x12 2)) + 9223372036854775808)) w14) (
 K17 (IntKind.wrap .u64 (Int.tdiv x12 2)) w14))))) (fun ch w => Kfn R ch [] w))) (
 ifB ((o_1 : Int) == 6) (
 doCall Tryz.prog (.func (.func 208) #[] #[]) #[.int .i64 k_2] w (retS (fun v19 w20 => ∃ (x18 : Int), v19 = (.int .u64 x18 : Value) ∧ (
 doCall Tryz.prog (.func (.func 132) #[] #[]) #[.int .u64 x18, .int .i64 32] w20 (retS (fun v22 w23 => ∃ (x21 : Int), v22 = (.int .u64 x21 : Value) ∧ (
 R (.returned (.int .u64 x21)) w23)) (fun ch w => Kfn R ch [] w)))) (fun ch w => Kfn R ch [] w))) (
 doCall Tryz.prog (.func (.func 131) #[] #[]) #[.int .u64 (IntKind.wrap .u64 k_2)] w (retS (fun v25 w26 => ∃ (x24 : Int), v25 = (.int .u64 x24 : Value) ∧ (
 R (.returned (.int .u64 x24)) w26)) (fun ch w => Kfn R ch [] w))))))))
set_option maxRecDepth 100000 in
theorem sh150_ok (o_1 : Int) (k_2 : Int) {R : Ending → World → Prop} {w : World} : sh150 o_1 k_2 R w → Calls Tryz.prog 150 #[.int .u8 o_1, .int .i64 k_2] w R :=
  calls_of_eq (ann := fun _ => []) (fn := Tryz.f150) (c := bodyOf Tryz.f150) (args := #[.int .u8 o_1, .int .i64 k_2]) 400 follows_mixed Tryz.func150 (by kernel_rfl) (by kernel_rfl)
set_option maxRecDepth 100000 in
/-- joinery/fold.May -/
def sh151 (p_1 : Int) (R : Ending → World → Prop) (w : World) : Prop :=
 let K4 : Bool → World → Prop := fun (is_2 : Bool) (w3 : World) => 
 R (.returned (.bool is_2)) w3
 doCall Tryz.prog (.func (.func 210) #[] #[]) #[] w (retS (fun v6 w7 => ∃ (x5 : Option Nat), v6 = (.map x5 : Value) ∧ (
 doLk Tryz.prog 282 (.map x5) (.int .u8 p_1) true w7 (fun v12 => (∃ (xf8 : Fn), ∃ (xx9 : Array Value), ∃ (xc10 : Array Value), ∃ (x11 : Bool), v12 = (.tuple #[.agg #[.func xf8 xx9 xc10], .bool x11] : Value) ∧ (
 doAl (.cells #[.nilFunc] 280) w7 (fun b13 w14 =>
 doSt ((blk b13).add 0) (.func xf8 xx9 xc10) w14 (fun w15 =>
 K4 x11 w15)))) ∨ (v12 = (.tuple #[.agg #[.nilFunc], .bool false] : Value) ∧ (
 doAl (.cells #[.nilFunc] 280) w7 (fun b16 w17 =>
 doSt ((blk b16).add 0) (.nilFunc) w17 (fun w18 =>
 R (.returned (.bool false)) w18))))))) (fun ch w => Kfn R ch [] w))
set_option maxRecDepth 100000 in
theorem sh151_ok (p_1 : Int) {R : Ending → World → Prop} {w : World} : sh151 p_1 R w → Calls Tryz.prog 151 #[.int .u8 p_1] w R :=
  calls_of_eq (ann := fun _ => []) (fn := Tryz.f151) (c := bodyOf Tryz.f151) (args := #[.int .u8 p_1]) 400 follows_mixed Tryz.func151 (by kernel_rfl) (by kernel_rfl)
set_option maxRecDepth 100000 in
/-- joinery/fold.Combine -/
def sh154 (p_1 : Int) (a_2 : Int) (b_3 : Int) (R : Ending → World → Prop) (w : World) : Prop :=
 let K7 : Addr → Bool → World → Prop := fun (k_4 : Addr) (is_5 : Bool) (w6 : World) => 
 ifB (!is_5) (
 R (.returned (.tuple #[.int .i64 0, .int .i64 2])) w6) (
 ∃ (xf8 : Fn), ∃ (xx9 : Array Value), ∃ (xc10 : Array Value), World.cell? w6 (k_4.add 0) = some (.func xf8 xx9 xc10) ∧ (
 doCall Tryz.prog (.func xf8 xx9 xc10) #[.int .i64 a_2, .int .i64 b_3] w6 (retS (fun v12 w13 => ∃ (x11 : Int), v12 = (.int .i64 x11 : Value) ∧ (
 R (.returned (.tuple #[.int .i64 x11, .int .i64 0])) w13)) (fun ch w => Kfn R ch [] w))))
 doCall Tryz.prog (.func (.func 210) #[] #[]) #[] w (retS (fun v15 w16 => ∃ (x14 : Option Nat), v15 = (.map x14 : Value) ∧ (
 doLk Tryz.prog 282 (.map x14) (.int .u8 p_1) true w16 (fun v21 => (∃ (xf17 : Fn), ∃ (xx18 : Array Value), ∃ (xc19 : Array Value), ∃ (x20 : Bool), v21 = (.tuple #[.agg #[.func xf17 xx18 xc19], .bool x20] : Value) ∧ (
 doAl (.cells #[.nilFunc] 280) w16 (fun b22 w23 =>
 doSt ((blk b22).add 0) (.func xf17 xx18 xc19) w23 (fun w24 =>
 K7 (blk b22) x20 w24)))) ∨ (v21 = (.tuple #[.agg #[.nilFunc], .bool false] : Value) ∧ (
 doAl (.cells #[.nilFunc] 280) w16 (fun b25 w26 =>
 doSt ((blk b25).add 0) (.nilFunc) w26 (fun w27 =>
 K7 (blk b25) false w27))))))) (fun ch w => Kfn R ch [] w))
set_option maxRecDepth 100000 in
theorem sh154_ok (p_1 : Int) (a_2 : Int) (b_3 : Int) {R : Ending → World → Prop} {w : World} : sh154 p_1 a_2 b_3 R w → Calls Tryz.prog 154 #[.int .u8 p_1, .int .i64 a_2, .int .i64 b_3] w R :=
  calls_of_eq (ann := fun _ => []) (fn := Tryz.f154) (c := bodyOf Tryz.f154) (args := #[.int .u8 p_1, .int .i64 a_2, .int .i64 b_3]) 400 follows_mixed Tryz.func154 (by kernel_rfl) (by kernel_rfl)
end Go.Proofs.YtlddfgfmkapoiaaGreat

