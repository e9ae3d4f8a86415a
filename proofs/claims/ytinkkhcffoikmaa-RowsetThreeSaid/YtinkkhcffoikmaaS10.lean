/-
  Printed by a program (gen.py): what the functions of the program do, as formulas; each with the proof that its call is what the formula says.
-/
import Derived.Test.YtinkkhcffoikmaaCd
import Derived.Test.YtinkkhcffoikmaaProg
import Derived.Test.YtinkkhcffoikmaaS1
namespace Go.Proofs.Ytinkkhcffoikmaa
open Go Go.Sh
set_option maxRecDepth 100000 in
/-- joinery/mix.Unmix -/
def sh157 (x_1 : Int) (R : Ending → World → Prop) (w : World) : Prop :=
 doAl (.cells #[.int .u64 x_1] 86) w (fun b2 w3 =>
 doAl (.cells #[.nilFunc] 156) w3 (fun b4 w5 =>
 doSt ((blk b4).add 0) (.func (.func 166) #[] #[]) w5 (fun w6 =>
 doCall Try.prog (.func (.func 165) #[] #[]) #[.bool true] w6 (retS (fun v10 w11 => ∃ (xf7 : Fn), ∃ (xx8 : Array Value), ∃ (xc9 : Array Value), v10 = (.func xf7 xx8 xc9 : Value) ∧ (
 rfW Try.prog (.func xf7 xx8 xc9) (mkLoop #[.int .u64 x_1, .pointer (some (blk b2)), .int .u64 0, .pointer (some (blk b4)), undef, undef, .func xf7 xx8 xc9, undef, undef, undef, undef, undef, undef, undef, undef, undef, undef, undef, undef, undef, undef, undef, undef, undef, undef, undef, undef, undef] (rfOf Try.f157 0).1 (rfOf Try.f157 0).2.1 (rfOf Try.f157 0).2.2)
 (fun w13 =>
 ∃ (x14 : Int), World.cell? w13 (blk b2) = some (.int .u64 x14) ∧ (
 w13.heap[w11.heap.size]? = some (.deferred (some [])) ∧ (
 let w15 : World := w13.putObj w11.heap.size (.deferred none)
 R (.returned (.int .u64 x14)) w15)))
 (fun w16 =>
 w16.heap[w11.heap.size]? = some (.deferred (some [])) ∧ (
 let w17 : World := w16.putObj w11.heap.size (.deferred none)
 R (.returned (.int .u64 0)) w17))
 [(2, (fun _ => False))] w11)) (fun ch w => Kfn R ch [] w)))))
set_option maxRecDepth 100000 in
theorem sh157_ok (x_1 : Int) {R : Ending → World → Prop} {w : World} : sh157 x_1 R w → Calls Try.prog 157 #[.int .u64 x_1] w R :=
  calls_of_eq (ann := fun _ => []) (fn := Try.f157) (c := bodyOf Try.f157) (args := #[.int .u64 x_1]) 400 follows_mixed Try.func157 (by kernel_rfl) (by kernel_rfl)
set_option maxRecDepth 100000 in
/-- joinery/mix.Unmix, a round of loop 0 -/
def sh157_0 (x_1 : Addr) (undo_2 : Addr) (y29 : Int) (y30 : Int) (l : Nat) (R : Ending → World → Prop) (w : World) : Prop :=
 doAl (.cells #[.int .i64 0, .int .u64 0] 175) w (fun b31 w32 =>
 doSt ((blk b31).add 0) (.int .i64 y29) w32 (fun w33 =>
 doSt ((blk b31).add 1) (.int .u64 y30) w33 (fun w34 =>
 ∃ (r35 : Loop), w34.heap[l]? = some (.loop r35) ∧ r35.state = .ready ∧ (
 let w36 : World := w34.putObj l (.loop { r35 with state := .busy })
 doDr w36 (fun w38 =>
 ∃ (C37 : World → Prop), C37 w38 ∧ (
 ∃ (x39 : Int), (∀ w, C37 w → World.cell? w x_1 = some (.int .u64 x39)) ∧ (
 ∃ (xf40 : Fn), ∃ (xx41 : Array Value), ∃ (xc42 : Array Value), (∀ w, C37 w → World.cell? w undo_2 = some (.func xf40 xx41 xc42)) ∧ (
 ∃ (x43 : Int), (∀ w, C37 w → World.cell? w ((blk b31).add 1) = some (.int .u64 x43)) ∧ (
 doCall Try.prog (.func xf40 xx41 xc42) #[.int .u64 x43] w38 (retS (fun v45 w46 => ∃ (x44 : Int), v45 = (.int .u64 x44 : Value) ∧ (
 C37 w46 ∧ (
 doSt (x_1.add 0) (.int .u64 (IntKind.wrap .u64 (x39 * x44))) w46 (fun w47 =>
 ∃ (x48 : Int), World.cell? w47 x_1 = some (.int .u64 x48) ∧ (
 ∃ (x49 : Int), World.cell? w47 ((blk b31).add 0) = some (.int .i64 x49) ∧ (
 (0 : Int) ≤ x49 ∧ (
 ∃ (I50 : List Value → World → Prop) (μ51 : List Value → World → Nat), I50 [.int .u64 (Int.fdiv x48 (2 ^ (min (x49 : Int).toNat (IntKind.bits .u64))))] w47 ∧ (∀ (y_54 : Int), ∀ (_j52 : Nat → Value) (w53 : World), I50 [.int .u64 y_54] w53 → (
 ifB ((y_54 : Int) != 0) (
 ∃ (x55 : Int), World.cell? w53 x_1 = some (.int .u64 x55) ∧ (
 doSt (x_1.add 0) (.int .u64 (bXor .u64 x55 y_54)) w53 (fun w56 =>
 ∃ (x57 : Int), World.cell? w56 ((blk b31).add 0) = some (.int .i64 x57) ∧ (
 (0 : Int) ≤ x57 ∧ (
 I50 [.int .u64 (Int.fdiv y_54 (2 ^ (min (x57 : Int).toNat (IntKind.bits .u64))))] w56 ∧ μ51 [.int .u64 (Int.fdiv y_54 (2 ^ (min (x57 : Int).toNat (IntKind.bits .u64))))] w56 < μ51 [.int .u64 y_54] w53))))) (
 ∃ (r58 : Loop), w53.heap[l]? = some (.loop r58) ∧ R (.returned (.bool true)) (w53.putObj l (.loop { r58 with state := .ready, pending := none })))))))))))) (fun _ _ => False)))))))))))
set_option maxRecDepth 100000 in
theorem sh157_0_ok {dd3 : Value} {dd4 : Value} {dd5 : Value} {dd6 : Value} {dd7 : Value} {dd8 : Value} {dd9 : Value} {dd10 : Value} {dd11 : Value} {dd12 : Value} {dd13 : Value} {dd14 : Value} {dd15 : Value} {dd16 : Value} {dd17 : Value} {dd18 : Value} {dd19 : Value} {dd20 : Value} {dd21 : Value} {dd22 : Value} {dd23 : Value} {dd24 : Value} {dd25 : Value} {dd26 : Value} {dd27 : Value} {dd28 : Value} {x_1 : Addr} {undo_2 : Addr} {y29 : Int} {y30 : Int} {l fn D : Nat} {R : Ending → World → Prop} {w : World} (hl : w.heap[l]? = some (.loop (mkLoop #[dd3, .pointer (some x_1), dd4, .pointer (some undo_2), dd5, dd6, dd7, dd8, dd9, dd10, dd11, dd12, dd13, dd14, dd15, dd16, dd17, dd18, dd19, dd20, dd21, dd22, dd23, dd24, dd25, dd26, dd27, dd28] (rfOf Try.f157 0).1 (rfOf Try.f157 0).2.1 (rfOf Try.f157 0).2.2 fn D))) : sh157_0 x_1 undo_2 y29 y30 l R w → doCall Try.prog (.func (.yield l) #[] #[]) #[.agg #[.int .i64 y29, .int .u64 y30]] w R :=
  fun h => ⟨round_of_eq (ann := fun i => if i = 2 then [(5, .int .u64 0)] else []) 400 follows_mixed hl (by kernel_rfl) (by kernel_rfl) h⟩
set_option maxRecDepth 100000 in
/-- joinery/fold.adder$1 -/
def sh158 (v_1 : Int) (x2 : Addr) (R : Ending → World → Prop) (w : World) : Prop :=
 ∃ (x3 : Int), World.cell? w x2 = some (.int .i64 x3) ∧ (
 doSt (x2.add 0) (.int .i64 (IntKind.wrap .i64 (x3 + v_1))) w (fun w4 =>
 ∃ (x5 : Int), World.cell? w4 x2 = some (.int .i64 x5) ∧ (
 R (.returned (.int .i64 x5)) w4)))
set_option maxRecDepth 100000 in
theorem sh158_ok (v_1 : Int) (x2 : Addr) {R : Ending → World → Prop} {w : World} : sh158 v_1 x2 R w → Calls Try.prog 158 #[.int .i64 v_1, .pointer (some x2)] w R :=
  calls_of_eq (ann := fun _ => []) (fn := Try.f158) (c := bodyOf Try.f158) (args := #[.int .i64 v_1, .pointer (some x2)]) 400 follows_mixed Try.func158 (by kernel_rfl) (by kernel_rfl)
set_option maxRecDepth 100000 in
/-- joinery/rowset.both$1 -/
def sh159 (yield_f1 : Fn) (yield_x2 : Array Value) (yield_c3 : Array Value) (x4 : Addr) (x5 : Addr) (x6 : Addr) (R : Ending → World → Prop) (w : World) : Prop :=
 ∃ (I7 : List Value → World → Prop) (μ8 : List Value → World → Nat), I7 [] w ∧ (∀ (_j9 : Nat → Value) (w10 : World), I7 [] w10 → (
 ∃ (xp11 : Option Addr), ∃ (xn12 : Nat), ∃ (xc13 : Nat), World.cell? w10 x4 = some (.slice xp11 xn12 xc13) ∧ (
 ∃ (xp14 : Option Addr), ∃ (xn15 : Nat), ∃ (xc16 : Nat), World.cell? w10 x5 = some (.slice xp14 xn15 xc16) ∧ (
 ifB (decide (((IntKind.wrap .i64 (((xn12 : Nat) : Int) + ((xn15 : Nat) : Int))) : Int) > 0)) (
 doAl (.cells #[.int .i64 0, .int .i64 0, .int .i64 0, .bool false, .bool false] 122) w10 (fun b17 w18 =>
 ∃ (J19 : List Value → World → Prop), (∀ (turn_22 : Int), ∀ (_j20 : Nat → Value) (w21 : World), J19 [.int .i64 turn_22] w21 → (
 ∃ (J23 : List Value → World → Prop), (∀ (_j24 : Nat → Value) (w25 : World), J23 [] w25 → (
 ∃ (J26 : List Value → World → Prop), (∀ (_j27 : Nat → Value) (w28 : World), J26 [] w28 → (
 ∃ (x29 : Int), World.cell? w28 ((blk b17).add 0) = some (.int .i64 x29) ∧ (
 ∃ (x30 : Int), World.cell? w28 ((blk b17).add 1) = some (.int .i64 x30) ∧ (
 ∃ (x31 : Int), World.cell? w28 ((blk b17).add 2) = some (.int .i64 x31) ∧ (
 ∃ (x32 : Bool), World.cell? w28 ((blk b17).add 3) = some (.bool x32) ∧ (
 ∃ (x33 : Bool), World.cell? w28 ((blk b17).add 4) = some (.bool x33) ∧ (
 doCall Try.prog (.func yield_f1 yield_x2 yield_c3) #[.agg #[.int .i64 x29, .int .i64 x30, .int .i64 x31, .bool x32, .bool x33]] w28 (retS (fun v35 w36 => ∃ (x34 : Bool), v35 = (.bool x34 : Value) ∧ (
 ifB (!x34) (
 R (.returned (.tuple #[])) w36) (
 I7 [] w36 ∧ μ8 [] w36 < μ8 [] w10))) (fun ch w => Kfn R ch [] w))))))))) ∧ (
 ∃ (J37 : List Value → World → Prop), (∀ (_j38 : Nat → Value) (w39 : World), J37 [] w39 → (
 ∃ (x40 : Bool), World.cell? w39 ((blk b17).add 4) = some (.bool x40) ∧ (
 ifB x40 (
 doDr w39 (fun w42 =>
 ∃ (C41 : World → Prop), C41 w42 ∧ (
 ∃ (xp43 : Option Addr), ∃ (xn44 : Nat), ∃ (xc45 : Nat), (∀ w, C41 w → World.cell? w x5 = some (.slice xp43 xn44 xc45)) ∧ (
 doIx xp43 xn44 2 (0) (fun a46 =>
 ∃ (x47 : Int), (∀ w, C41 w → World.cell? w (a46.add 0) = some (.int .i64 x47)) ∧ (
 ∃ (xp48 : Option Addr), ∃ (xn49 : Nat), ∃ (xc50 : Nat), (∀ w, C41 w → World.cell? w x5 = some (.slice xp48 xn49 xc50)) ∧ (
 doIx xp48 xn49 2 (0) (fun a51 =>
 ∃ (x52 : Int), (∀ w, C41 w → World.cell? w (a51.add 1) = some (.int .i64 x52)) ∧ (
 ∃ (xp53 : Option Addr), ∃ (xn54 : Nat), ∃ (xc55 : Nat), (∀ w, C41 w → World.cell? w x5 = some (.slice xp53 xn54 xc55)) ∧ (
 doSl xp53 xc55 2 (1) (((xn54 : Nat) : Int)) (fun p56 n57 c58 =>
 doSt (((blk b17).add 0).add 0) (.int .i64 x47) w42 (fun w59 =>
 C41 w59 ∧ (
 doSt (((blk b17).add 2).add 0) (.int .i64 x52) w59 (fun w60 =>
 C41 w60 ∧ (
 doSt (x5.add 0) (.slice p56 n57 c58) w60 (fun w61 =>
 J26 [] w61)))))))))))))))) (
 J26 [] w39)))) ∧ (
 doDr w25 (fun w63 =>
 ∃ (C62 : World → Prop), C62 w63 ∧ (
 ∃ (xp64 : Option Addr), ∃ (xn65 : Nat), ∃ (xc66 : Nat), (∀ w, C62 w → World.cell? w x5 = some (.slice xp64 xn65 xc66)) ∧ (
 ifB (decide ((((xn65 : Nat) : Int) : Int) > 0)) (
 ∃ (x67 : Bool), (∀ w, C62 w → World.cell? w ((blk b17).add 3) = some (.bool x67)) ∧ (
 ifB (!x67) (
 doSt (((blk b17).add 4).add 0) (.bool true) w63 (fun w68 =>
 J37 [] w68)) (
 ifB ((turn_22 : Int) == 0) (
 ∃ (x69 : Int), (∀ w, C62 w → World.cell? w ((blk b17).add 0) = some (.int .i64 x69)) ∧ (
 ∃ (xp70 : Option Addr), ∃ (xn71 : Nat), ∃ (xc72 : Nat), (∀ w, C62 w → World.cell? w x5 = some (.slice xp70 xn71 xc72)) ∧ (
 doIx xp70 xn71 2 (0) (fun a73 =>
 ∃ (x74 : Int), (∀ w, C62 w → World.cell? w (a73.add 0) = some (.int .i64 x74)) ∧ (
 doSt (((blk b17).add 4).add 0) (.bool ((x69 : Int) == x74)) w63 (fun w75 =>
 J37 [] w75)))))) (
 doSt (((blk b17).add 4).add 0) (.bool false) w63 (fun w76 =>
 J37 [] w76))))) (
 doSt (((blk b17).add 4).add 0) (.bool false) w63 (fun w77 =>
 J37 [] w77))))))))) ∧ (
 ∃ (J78 : List Value → World → Prop), (∀ (_j79 : Nat → Value) (w80 : World), J78 [] w80 → (
 ∃ (x81 : Bool), World.cell? w80 ((blk b17).add 3) = some (.bool x81) ∧ (
 ifB x81 (
 doDr w80 (fun w83 =>
 ∃ (C82 : World → Prop), C82 w83 ∧ (
 ∃ (xp84 : Option Addr), ∃ (xn85 : Nat), ∃ (xc86 : Nat), (∀ w, C82 w → World.cell? w x4 = some (.slice xp84 xn85 xc86)) ∧ (
 doIx xp84 xn85 2 (0) (fun a87 =>
 ∃ (x88 : Int), (∀ w, C82 w → World.cell? w (a87.add 0) = some (.int .i64 x88)) ∧ (
 ∃ (xp89 : Option Addr), ∃ (xn90 : Nat), ∃ (xc91 : Nat), (∀ w, C82 w → World.cell? w x4 = some (.slice xp89 xn90 xc91)) ∧ (
 doIx xp89 xn90 2 (0) (fun a92 =>
 ∃ (x93 : Int), (∀ w, C82 w → World.cell? w (a92.add 1) = some (.int .i64 x93)) ∧ (
 ∃ (xp94 : Option Addr), ∃ (xn95 : Nat), ∃ (xc96 : Nat), (∀ w, C82 w → World.cell? w x4 = some (.slice xp94 xn95 xc96)) ∧ (
 doSl xp94 xc96 2 (1) (((xn95 : Nat) : Int)) (fun p97 n98 c99 =>
 doSt (((blk b17).add 0).add 0) (.int .i64 x88) w83 (fun w100 =>
 C82 w100 ∧ (
 doSt (((blk b17).add 1).add 0) (.int .i64 x93) w100 (fun w101 =>
 C82 w101 ∧ (
 doSt (x4.add 0) (.slice p97 n98 c99) w101 (fun w102 =>
 J23 [] w102)))))))))))))))) (
 J23 [] w80)))) ∧ (
 ∃ (xp103 : Option Addr), ∃ (xn104 : Nat), ∃ (xc105 : Nat), World.cell? w21 x4 = some (.slice xp103 xn104 xc105) ∧ (
 ifB (decide ((((xn104 : Nat) : Int) : Int) > 0)) (
 ∃ (xp106 : Option Addr), ∃ (xn107 : Nat), ∃ (xc108 : Nat), World.cell? w21 x5 = some (.slice xp106 xn107 xc108) ∧ (
 ifB ((((xn107 : Nat) : Int) : Int) == 0) (
 doSt (((blk b17).add 3).add 0) (.bool true) w21 (fun w109 =>
 J78 [] w109)) (
 doSt (((blk b17).add 3).add 0) (.bool (decide ((turn_22 : Int) ≤ 0))) w21 (fun w110 =>
 J78 [] w110)))) (
 doSt (((blk b17).add 3).add 0) (.bool false) w21 (fun w111 =>
 J78 [] w111))))))) ∧ (
 ∃ (J112 : List Value → World → Prop), (∀ (x115 : Bool), ∀ (_j113 : Nat → Value) (w114 : World), J112 [.bool x115] w114 → (
 ifB x115 (
 doDr w114 (fun w117 =>
 ∃ (C116 : World → Prop), C116 w117 ∧ (
 ∃ (x118 : Int), (∀ w, C116 w → World.cell? w x6 = some (.int .u8 x118)) ∧ (
 ∃ (xp119 : Option Addr), ∃ (xn120 : Nat), ∃ (xc121 : Nat), (∀ w, C116 w → World.cell? w x4 = some (.slice xp119 xn120 xc121)) ∧ (
 doIx xp119 xn120 2 (0) (fun a122 =>
 ∃ (x123 : Int), (∀ w, C116 w → World.cell? w (a122.add 0) = some (.int .i64 x123)) ∧ (
 ∃ (xp124 : Option Addr), ∃ (xn125 : Nat), ∃ (xc126 : Nat), (∀ w, C116 w → World.cell? w x5 = some (.slice xp124 xn125 xc126)) ∧ (
 doIx xp124 xn125 2 (0) (fun a127 =>
 ∃ (x128 : Int), (∀ w, C116 w → World.cell? w (a127.add 0) = some (.int .i64 x128)) ∧ (
 doCall Try.prog (.func (.func 93) #[] #[]) #[.int .u8 x118, .int .i64 x123, .int .i64 x128] w117 (retS (fun v130 w131 => ∃ (x129 : Int), v130 = (.int .i64 x129 : Value) ∧ (
 C116 w131 ∧ (
 J19 [.int .i64 x129] w131))) (fun ch w => Kfn R ch [] w)))))))))))) (
 J19 [.int .i64 0] w114))) ∧ (
 ∃ (xp132 : Option Addr), ∃ (xn133 : Nat), ∃ (xc134 : Nat), World.cell? w18 x4 = some (.slice xp132 xn133 xc134) ∧ (
 ifB (decide ((((xn133 : Nat) : Int) : Int) > 0)) (
 ∃ (xp135 : Option Addr), ∃ (xn136 : Nat), ∃ (xc137 : Nat), World.cell? w18 x5 = some (.slice xp135 xn136 xc137) ∧ (
 J112 [.bool (decide ((((xn136 : Nat) : Int) : Int) > 0))] w18)) (
 J112 [.bool false] w18)))))) (
 R (.returned (.tuple #[])) w10)))))
set_option maxRecDepth 100000 in
theorem sh159_ok (yield_f1 : Fn) (yield_x2 : Array Value) (yield_c3 : Array Value) (x4 : Addr) (x5 : Addr) (x6 : Addr) {R : Ending → World → Prop} {w : World} : sh159 yield_f1 yield_x2 yield_c3 x4 x5 x6 R w → Calls Try.prog 159 #[.func yield_f1 yield_x2 yield_c3, .pointer (some x4), .pointer (some x5), .pointer (some x6)] w R :=
  calls_of_eq (ann := fun i => if i = 1000011 then [(0, .nilIface)] else if i = 1000009 then [(0, .nilIface)] else if i = 1000008 then [(0, .nilIface)] else if i = 1000006 then [(0, .nilIface)] else if i = 1000005 then [(0, .nilIface), (6, .int .i64 0)] else if i = 1000004 then [(0, .nilIface), (20, .bool false)] else if i = 0 then [] else []) (fn := Try.f159) (c := bodyOf Try.f159) (args := #[.func yield_f1 yield_x2 yield_c3, .pointer (some x4), .pointer (some x5), .pointer (some x6)]) 400 follows_mixed Try.func159 (by kernel_rfl) (by kernel_rfl)
set_option maxRecDepth 100000 in
/-- slices.insertionSortCmpFunc[joinery/api.Pair] -/
def sh160 (data_p1 : Option Addr) (data_n2 : Nat) (_data_c3 : Nat) (a_4 : Int) (b_5 : Int) (cmp_f6 : Fn) (cmp_x7 : Array Value) (cmp_c8 : Array Value) (R : Ending → World → Prop) (w : World) : Prop :=
 ∃ (I9 : List Value → World → Prop) (μ10 : List Value → World → Nat), I9 [.int .i64 (IntKind.wrap .i64 (a_4 + 1))] w ∧ (∀ (i_13 : Int), ∀ (_j11 : Nat → Value) (w12 : World), I9 [.int .i64 i_13] w12 → (
 ifB (decide ((i_13 : Int) < b_5)) (
 let K15 : World → Prop := fun (w14 : World) => 
 I9 [.int .i64 (IntKind.wrap .i64 (i_13 + 1))] w14 ∧ μ10 [.int .i64 (IntKind.wrap .i64 (i_13 + 1))] w14 < μ10 [.int .i64 i_13] w12
 ∃ (I16 : List Value → World → Prop) (μ17 : List Value → World → Nat), I16 [.int .i64 i_13] w12 ∧ (∀ (j_20 : Int), ∀ (_j18 : Nat → Value) (w19 : World), I16 [.int .i64 j_20] w19 → (
 let K23 : Bool → World → Prop := fun (x21 : Bool) (w22 : World) => 
 ifB x21 (
 doDr w22 (fun w25 =>
 ∃ (C24 : World → Prop), C24 w25 ∧ (
 doIx data_p1 data_n2 2 (IntKind.wrap .i64 (j_20 - 1)) (fun a26 =>
 ∃ (x27 : Int), (∀ w, C24 w → World.cell? w (a26.add 0) = some (.int .i64 x27)) ∧ (
 ∃ (x28 : Int), (∀ w, C24 w → World.cell? w (a26.add 1) = some (.int .i64 x28)) ∧ (
 doIx data_p1 data_n2 2 (j_20) (fun a29 =>
 ∃ (x30 : Int), (∀ w, C24 w → World.cell? w (a29.add 0) = some (.int .i64 x30)) ∧ (
 ∃ (x31 : Int), (∀ w, C24 w → World.cell? w (a29.add 1) = some (.int .i64 x31)) ∧ (
 doIx data_p1 data_n2 2 (j_20) (fun a32 =>
 doSt (a32.add 0) (.int .i64 x27) w25 (fun w33 =>
 doSt (a32.add 1) (.int .i64 x28) w33 (fun w34 =>
 doIx data_p1 data_n2 2 (IntKind.wrap .i64 (j_20 - 1)) (fun a35 =>
 doSt (a35.add 0) (.int .i64 x30) w34 (fun w36 =>
 doSt (a35.add 1) (.int .i64 x31) w36 (fun w37 =>
 I16 [.int .i64 (IntKind.wrap .i64 (j_20 - 1))] w37 ∧ μ17 [.int .i64 (IntKind.wrap .i64 (j_20 - 1))] w37 < μ17 [.int .i64 j_20] w19))))))))))))))) (
 K15 w22)
 doDr w19 (fun w39 =>
 ∃ (C38 : World → Prop), C38 w39 ∧ (
 ifB (decide ((j_20 : Int) > a_4)) (
 doIx data_p1 data_n2 2 (j_20) (fun a40 =>
 ∃ (x41 : Int), (∀ w, C38 w → World.cell? w (a40.add 0) = some (.int .i64 x41)) ∧ (
 ∃ (x42 : Int), (∀ w, C38 w → World.cell? w (a40.add 1) = some (.int .i64 x42)) ∧ (
 doIx data_p1 data_n2 2 (IntKind.wrap .i64 (j_20 - 1)) (fun a43 =>
 ∃ (x44 : Int), (∀ w, C38 w → World.cell? w (a43.add 0) = some (.int .i64 x44)) ∧ (
 ∃ (x45 : Int), (∀ w, C38 w → World.cell? w (a43.add 1) = some (.int .i64 x45)) ∧ (
 doCall Try.prog (.func cmp_f6 cmp_x7 cmp_c8) #[.agg #[.int .i64 x41, .int .i64 x42], .agg #[.int .i64 x44, .int .i64 x45]] w39 (retS (fun v47 w48 => ∃ (x46 : Int), v47 = (.int .i64 x46 : Value) ∧ (
 K23 (decide ((x46 : Int) < 0)) w48)) (fun ch w => Kfn R ch [] w))))))))) (
 K15 w39)))))) (
 R (.returned (.tuple #[])) w12)))
set_option maxRecDepth 100000 in
theorem sh160_ok (data_p1 : Option Addr) (data_n2 : Nat) (data_c3 : Nat) (a_4 : Int) (b_5 : Int) (cmp_f6 : Fn) (cmp_x7 : Array Value) (cmp_c8 : Array Value) {R : Ending → World → Prop} {w : World} : sh160 data_p1 data_n2 data_c3 a_4 b_5 cmp_f6 cmp_x7 cmp_c8 R w → Calls Try.prog 160 #[.slice data_p1 data_n2 data_c3, .int .i64 a_4, .int .i64 b_5, .func cmp_f6 cmp_x7 cmp_c8] w R :=
  calls_of_eq (ann := fun i => if i = 2 then [(9, .int .i64 0)] else if i = 0 then [(8, .int .i64 0)] else []) (fn := Try.f160) (c := bodyOf Try.f160) (args := #[.slice data_p1 data_n2 data_c3, .int .i64 a_4, .int .i64 b_5, .func cmp_f6 cmp_x7 cmp_c8]) 400 follows_mixed Try.func160 (by kernel_rfl) (by kernel_rfl)
set_option maxRecDepth 100000 in
/-- slices.symMergeCmpFunc[joinery/api.Pair] -/
def sh161 (data_p1 : Option Addr) (data_n2 : Nat) (data_c3 : Nat) (a_4 : Int) (m_5 : Int) (b_6 : Int) (cmp_f7 : Fn) (cmp_x8 : Array Value) (cmp_c9 : Array Value) (R : Ending → World → Prop) (w : World) : Prop :=
 ifB (((IntKind.wrap .i64 (m_5 - a_4)) : Int) == 1) (
 ∃ (I10 : List Value → World → Prop) (μ11 : List Value → World → Nat), I10 [.int .i64 m_5, .int .i64 b_6] w ∧ (∀ (i_14 : Int), ∀ (j_15 : Int), ∀ (_j12 : Nat → Value) (w13 : World), I10 [.int .i64 i_14, .int .i64 j_15] w13 → (
 ifB (decide ((i_14 : Int) < j_15)) (
 (0 : Int) ≤ 1 ∧ (
 doDr w13 (fun w17 =>
 ∃ (C16 : World → Prop), C16 w17 ∧ (
 doIx data_p1 data_n2 2 (IntKind.wrap .i64 (Int.fdiv (IntKind.wrap .u64 (IntKind.wrap .i64 (i_14 + j_15))) (2 ^ (min (1 : Int).toNat (IntKind.bits .u64))))) (fun a18 =>
 ∃ (x19 : Int), (∀ w, C16 w → World.cell? w (a18.add 0) = some (.int .i64 x19)) ∧ (
 ∃ (x20 : Int), (∀ w, C16 w → World.cell? w (a18.add 1) = some (.int .i64 x20)) ∧ (
 doIx data_p1 data_n2 2 (a_4) (fun a21 =>
 ∃ (x22 : Int), (∀ w, C16 w → World.cell? w (a21.add 0) = some (.int .i64 x22)) ∧ (
 ∃ (x23 : Int), (∀ w, C16 w → World.cell? w (a21.add 1) = some (.int .i64 x23)) ∧ (
 doCall Try.prog (.func cmp_f7 cmp_x8 cmp_c9) #[.agg #[.int .i64 x19, .int .i64 x20], .agg #[.int .i64 x22, .int .i64 x23]] w17 (retS (fun v25 w26 => ∃ (x24 : Int), v25 = (.int .i64 x24 : Value) ∧ (
 ifB (decide ((x24 : Int) < 0)) (
 I10 [.int .i64 (IntKind.wrap .i64 ((IntKind.wrap .i64 (Int.fdiv (IntKind.wrap .u64 (IntKind.wrap .i64 (i_14 + j_15))) (2 ^ (min (1 : Int).toNat (IntKind.bits .u64))))) + 1)), .int .i64 j_15] w26 ∧ μ11 [.int .i64 (IntKind.wrap .i64 ((IntKind.wrap .i64 (Int.fdiv (IntKind.wrap .u64 (IntKind.wrap .i64 (i_14 + j_15))) (2 ^ (min (1 : Int).toNat (IntKind.bits .u64))))) + 1)), .int .i64 j_15] w26 < μ11 [.int .i64 i_14, .int .i64 j_15] w13) (
 I10 [.int .i64 i_14, .int .i64 (IntKind.wrap .i64 (Int.fdiv (IntKind.wrap .u64 (IntKind.wrap .i64 (i_14 + j_15))) (2 ^ (min (1 : Int).toNat (IntKind.bits .u64)))))] w26 ∧ μ11 [.int .i64 i_14, .int .i64 (IntKind.wrap .i64 (Int.fdiv (IntKind.wrap .u64 (IntKind.wrap .i64 (i_14 + j_15))) (2 ^ (min (1 : Int).toNat (IntKind.bits .u64)))))] w26 < μ11 [.int .i64 i_14, .int .i64 j_15] w13))) (fun ch w => Kfn R ch [] w)))))))))))) (
 ∃ (I27 : List Value → World → Prop) (μ28 : List Value → World → Nat), I27 [.int .i64 a_4] w13 ∧ (∀ (k_31 : Int), ∀ (_j29 : Nat → Value) (w30 : World), I27 [.int .i64 k_31] w30 → (
 ifB (decide ((k_31 : Int) < (IntKind.wrap .i64 (i_14 - 1)))) (
 doDr w30 (fun w33 =>
 ∃ (C32 : World → Prop), C32 w33 ∧ (
 doIx data_p1 data_n2 2 (IntKind.wrap .i64 (k_31 + 1)) (fun a34 =>
 ∃ (x35 : Int), (∀ w, C32 w → World.cell? w (a34.add 0) = some (.int .i64 x35)) ∧ (
 ∃ (x36 : Int), (∀ w, C32 w → World.cell? w (a34.add 1) = some (.int .i64 x36)) ∧ (
 doIx data_p1 data_n2 2 (k_31) (fun a37 =>
 ∃ (x38 : Int), (∀ w, C32 w → World.cell? w (a37.add 0) = some (.int .i64 x38)) ∧ (
 ∃ (x39 : Int), (∀ w, C32 w → World.cell? w (a37.add 1) = some (.int .i64 x39)) ∧ (
 doIx data_p1 data_n2 2 (k_31) (fun a40 =>
 doSt (a40.add 0) (.int .i64 x35) w33 (fun w41 =>
 doSt (a40.add 1) (.int .i64 x36) w41 (fun w42 =>
 doIx data_p1 data_n2 2 (IntKind.wrap .i64 (k_31 + 1)) (fun a43 =>
 doSt (a43.add 0) (.int .i64 x38) w42 (fun w44 =>
 doSt (a43.add 1) (.int .i64 x39) w44 (fun w45 =>
 I27 [.int .i64 (IntKind.wrap .i64 (k_31 + 1))] w45 ∧ μ28 [.int .i64 (IntKind.wrap .i64 (k_31 + 1))] w45 < μ28 [.int .i64 k_31] w30))))))))))))))) (
 R (.returned (.tuple #[])) w30))))))) (
 ifB (((IntKind.wrap .i64 (b_6 - m_5)) : Int) == 1) (
 ∃ (I46 : List Value → World → Prop) (μ47 : List Value → World → Nat), I46 [.int .i64 a_4, .int .i64 m_5] w ∧ (∀ (i_50 : Int), ∀ (j_51 : Int), ∀ (_j48 : Nat → Value) (w49 : World), I46 [.int .i64 i_50, .int .i64 j_51] w49 → (
 ifB (decide ((i_50 : Int) < j_51)) (
 (0 : Int) ≤ 1 ∧ (
 doDr w49 (fun w53 =>
 ∃ (C52 : World → Prop), C52 w53 ∧ (
 doIx data_p1 data_n2 2 (m_5) (fun a54 =>
 ∃ (x55 : Int), (∀ w, C52 w → World.cell? w (a54.add 0) = some (.int .i64 x55)) ∧ (
 ∃ (x56 : Int), (∀ w, C52 w → World.cell? w (a54.add 1) = some (.int .i64 x56)) ∧ (
 doIx data_p1 data_n2 2 (IntKind.wrap .i64 (Int.fdiv (IntKind.wrap .u64 (IntKind.wrap .i64 (i_50 + j_51))) (2 ^ (min (1 : Int).toNat (IntKind.bits .u64))))) (fun a57 =>
 ∃ (x58 : Int), (∀ w, C52 w → World.cell? w (a57.add 0) = some (.int .i64 x58)) ∧ (
 ∃ (x59 : Int), (∀ w, C52 w → World.cell? w (a57.add 1) = some (.int .i64 x59)) ∧ (
 doCall Try.prog (.func cmp_f7 cmp_x8 cmp_c9) #[.agg #[.int .i64 x55, .int .i64 x56], .agg #[.int .i64 x58, .int .i64 x59]] w53 (retS (fun v61 w62 => ∃ (x60 : Int), v61 = (.int .i64 x60 : Value) ∧ (
 ifB (!(decide ((x60 : Int) < 0))) (
 I46 [.int .i64 (IntKind.wrap .i64 ((IntKind.wrap .i64 (Int.fdiv (IntKind.wrap .u64 (IntKind.wrap .i64 (i_50 + j_51))) (2 ^ (min (1 : Int).toNat (IntKind.bits .u64))))) + 1)), .int .i64 j_51] w62 ∧ μ47 [.int .i64 (IntKind.wrap .i64 ((IntKind.wrap .i64 (Int.fdiv (IntKind.wrap .u64 (IntKind.wrap .i64 (i_50 + j_51))) (2 ^ (min (1 : Int).toNat (IntKind.bits .u64))))) + 1)), .int .i64 j_51] w62 < μ47 [.int .i64 i_50, .int .i64 j_51] w49) (
 I46 [.int .i64 i_50, .int .i64 (IntKind.wrap .i64 (Int.fdiv (IntKind.wrap .u64 (IntKind.wrap .i64 (i_50 + j_51))) (2 ^ (min (1 : Int).toNat (IntKind.bits .u64)))))] w62 ∧ μ47 [.int .i64 i_50, .int .i64 (IntKind.wrap .i64 (Int.fdiv (IntKind.wrap .u64 (IntKind.wrap .i64 (i_50 + j_51))) (2 ^ (min (1 : Int).toNat (IntKind.bits .u64)))))] w62 < μ47 [.int .i64 i_50, .int .i64 j_51] w49))) (fun ch w => Kfn R ch [] w)))))))))))) (
 ∃ (I63 : List Value → World → Prop) (μ64 : List Value → World → Nat), I63 [.int .i64 m_5] w49 ∧ (∀ (k_67 : Int), ∀ (_j65 : Nat → Value) (w66 : World), I63 [.int .i64 k_67] w66 → (
 ifB (decide ((k_67 : Int) > i_50)) (
 doDr w66 (fun w69 =>
 ∃ (C68 : World → Prop), C68 w69 ∧ (
 doIx data_p1 data_n2 2 (IntKind.wrap .i64 (k_67 - 1)) (fun a70 =>
 ∃ (x71 : Int), (∀ w, C68 w → World.cell? w (a70.add 0) = some (.int .i64 x71)) ∧ (
 ∃ (x72 : Int), (∀ w, C68 w → World.cell? w (a70.add 1) = some (.int .i64 x72)) ∧ (
 doIx data_p1 data_n2 2 (k_67) (fun a73 =>
 ∃ (x74 : Int), (∀ w, C68 w → World.cell? w (a73.add 0) = some (.int .i64 x74)) ∧ (
 ∃ (x75 : Int), (∀ w, C68 w → World.cell? w (a73.add 1) = some (.int .i64 x75)) ∧ (
 doIx data_p1 data_n2 2 (k_67) (fun a76 =>
 doSt (a76.add 0) (.int .i64 x71) w69 (fun w77 =>
 doSt (a76.add 1) (.int .i64 x72) w77 (fun w78 =>
 doIx data_p1 data_n2 2 (IntKind.wrap .i64 (k_67 - 1)) (fun a79 =>
 doSt (a79.add 0) (.int .i64 x74) w78 (fun w80 =>
 doSt (a79.add 1) (.int .i64 x75) w80 (fun w81 =>
 I63 [.int .i64 (IntKind.wrap .i64 (k_67 - 1))] w81 ∧ μ64 [.int .i64 (IntKind.wrap .i64 (k_67 - 1))] w81 < μ64 [.int .i64 k_67] w66))))))))))))))) (
 R (.returned (.tuple #[])) w66))))))) (
 (0 : Int) ≤ 1 ∧ (
 ∃ (J82 : List Value → World → Prop), (∀ (start_85 : Int), ∀ (r_86 : Int), ∀ (_j83 : Nat → Value) (w84 : World), J82 [.int .i64 start_85, .int .i64 r_86] w84 → (
 ∃ (I87 : List Value → World → Prop) (μ88 : List Value → World → Nat), I87 [.int .i64 start_85, .int .i64 r_86] w84 ∧ (∀ (start_91 : Int), ∀ (r_92 : Int), ∀ (_j89 : Nat → Value) (w90 : World), I87 [.int .i64 start_91, .int .i64 r_92] w90 → (
 ifB (decide ((start_91 : Int) < r_92)) (
 (0 : Int) ≤ 1 ∧ (
 doDr w90 (fun w94 =>
 ∃ (C93 : World → Prop), C93 w94 ∧ (
 doIx data_p1 data_n2 2 (IntKind.wrap .i64 ((IntKind.wrap .i64 ((IntKind.wrap .i64 ((IntKind.wrap .i64 (Int.fdiv (IntKind.wrap .u64 (IntKind.wrap .i64 (a_4 + b_6))) (2 ^ (min (1 : Int).toNat (IntKind.bits .u64))))) + m_5)) - 1)) - (IntKind.wrap .i64 (Int.fdiv (IntKind.wrap .u64 (IntKind.wrap .i64 (start_91 + r_92))) (2 ^ (min (1 : Int).toNat (IntKind.bits .u64))))))) (fun a95 =>
 ∃ (x96 : Int), (∀ w, C93 w → World.cell? w (a95.add 0) = some (.int .i64 x96)) ∧ (
 ∃ (x97 : Int), (∀ w, C93 w → World.cell? w (a95.add 1) = some (.int .i64 x97)) ∧ (
 doIx data_p1 data_n2 2 (IntKind.wrap .i64 (Int.fdiv (IntKind.wrap .u64 (IntKind.wrap .i64 (start_91 + r_92))) (2 ^ (min (1 : Int).toNat (IntKind.bits .u64))))) (fun a98 =>
 ∃ (x99 : Int), (∀ w, C93 w → World.cell? w (a98.add 0) = some (.int .i64 x99)) ∧ (
 ∃ (x100 : Int), (∀ w, C93 w → World.cell? w (a98.add 1) = some (.int .i64 x100)) ∧ (
 doCall Try.prog (.func cmp_f7 cmp_x8 cmp_c9) #[.agg #[.int .i64 x96, .int .i64 x97], .agg #[.int .i64 x99, .int .i64 x100]] w94 (retS (fun v102 w103 => ∃ (x101 : Int), v102 = (.int .i64 x101 : Value) ∧ (
 ifB (!(decide ((x101 : Int) < 0))) (
 I87 [.int .i64 (IntKind.wrap .i64 ((IntKind.wrap .i64 (Int.fdiv (IntKind.wrap .u64 (IntKind.wrap .i64 (start_91 + r_92))) (2 ^ (min (1 : Int).toNat (IntKind.bits .u64))))) + 1)), .int .i64 r_92] w103 ∧ μ88 [.int .i64 (IntKind.wrap .i64 ((IntKind.wrap .i64 (Int.fdiv (IntKind.wrap .u64 (IntKind.wrap .i64 (start_91 + r_92))) (2 ^ (min (1 : Int).toNat (IntKind.bits .u64))))) + 1)), .int .i64 r_92] w103 < μ88 [.int .i64 start_91, .int .i64 r_92] w90) (
 I87 [.int .i64 start_91, .int .i64 (IntKind.wrap .i64 (Int.fdiv (IntKind.wrap .u64 (IntKind.wrap .i64 (start_91 + r_92))) (2 ^ (min (1 : Int).toNat (IntKind.bits .u64)))))] w103 ∧ μ88 [.int .i64 start_91, .int .i64 (IntKind.wrap .i64 (Int.fdiv (IntKind.wrap .u64 (IntKind.wrap .i64 (start_91 + r_92))) (2 ^ (min (1 : Int).toNat (IntKind.bits .u64)))))] w103 < μ88 [.int .i64 start_91, .int .i64 r_92] w90))) (fun ch w => Kfn R ch [] w)))))))))))) (
 ∃ (J104 : List Value → World → Prop), (∀ (_j105 : Nat → Value) (w106 : World), J104 [] w106 → (
 ∃ (J107 : List Value → World → Prop), (∀ (_j108 : Nat → Value) (w109 : World), J107 [] w109 → (
 ∃ (J110 : List Value → World → Prop), (∀ (x113 : Bool), ∀ (_j111 : Nat → Value) (w112 : World), J110 [.bool x113] w112 → (
 ifB x113 (
 doCall Try.prog (.func (.func 161) #[] #[]) #[.slice data_p1 data_n2 data_c3, .int .i64 (IntKind.wrap .i64 (Int.fdiv (IntKind.wrap .u64 (IntKind.wrap .i64 (a_4 + b_6))) (2 ^ (min (1 : Int).toNat (IntKind.bits .u64))))), .int .i64 (IntKind.wrap .i64 ((IntKind.wrap .i64 ((IntKind.wrap .i64 (Int.fdiv (IntKind.wrap .u64 (IntKind.wrap .i64 (a_4 + b_6))) (2 ^ (min (1 : Int).toNat (IntKind.bits .u64))))) + m_5)) - start_91)), .int .i64 b_6, .func cmp_f7 cmp_x8 cmp_c9] w112 (retS (fun v114 w115 => v114 = (.tuple #[] : Value) ∧ (
 R (.returned (.tuple #[])) w115)) (fun ch w => Kfn R ch [] w))) (
 R (.returned (.tuple #[])) w112))) ∧ (
 ifB (decide (((IntKind.wrap .i64 (Int.fdiv (IntKind.wrap .u64 (IntKind.wrap .i64 (a_4 + b_6))) (2 ^ (min (1 : Int).toNat (IntKind.bits .u64))))) : Int) < (IntKind.wrap .i64 ((IntKind.wrap .i64 ((IntKind.wrap .i64 (Int.fdiv (IntKind.wrap .u64 (IntKind.wrap .i64 (a_4 + b_6))) (2 ^ (min (1 : Int).toNat (IntKind.bits .u64))))) + m_5)) - start_91)))) (
 J110 [.bool (decide (((IntKind.wrap .i64 ((IntKind.wrap .i64 ((IntKind.wrap .i64 (Int.fdiv (IntKind.wrap .u64 (IntKind.wrap .i64 (a_4 + b_6))) (2 ^ (min (1 : Int).toNat (IntKind.bits .u64))))) + m_5)) - start_91)) : Int) < b_6))] w109) (
 J110 [.bool false] w109)))) ∧ (
 ∃ (J116 : List Value → World → Prop), (∀ (x119 : Bool), ∀ (_j117 : Nat → Value) (w118 : World), J116 [.bool x119] w118 → (
 ifB x119 (
 doCall Try.prog (.func (.func 161) #[] #[]) #[.slice data_p1 data_n2 data_c3, .int .i64 a_4, .int .i64 start_91, .int .i64 (IntKind.wrap .i64 (Int.fdiv (IntKind.wrap .u64 (IntKind.wrap .i64 (a_4 + b_6))) (2 ^ (min (1 : Int).toNat (IntKind.bits .u64))))), .func cmp_f7 cmp_x8 cmp_c9] w118 (retS (fun v120 w121 => v120 = (.tuple #[] : Value) ∧ (
 J107 [] w121)) (fun ch w => Kfn R ch [] w))) (
 J107 [] w118))) ∧ (
 ifB (decide ((a_4 : Int) < start_91)) (
 J116 [.bool (decide ((start_91 : Int) < (IntKind.wrap .i64 (Int.fdiv (IntKind.wrap .u64 (IntKind.wrap .i64 (a_4 + b_6))) (2 ^ (min (1 : Int).toNat (IntKind.bits .u64)))))))] w106) (
 J116 [.bool false] w106))))) ∧ (
 ∃ (J122 : List Value → World → Prop), (∀ (x125 : Bool), ∀ (_j123 : Nat → Value) (w124 : World), J122 [.bool x125] w124 → (
 ifB x125 (
 doCall Try.prog (.func (.func 167) #[] #[]) #[.slice data_p1 data_n2 data_c3, .int .i64 start_91, .int .i64 m_5, .int .i64 (IntKind.wrap .i64 ((IntKind.wrap .i64 ((IntKind.wrap .i64 (Int.fdiv (IntKind.wrap .u64 (IntKind.wrap .i64 (a_4 + b_6))) (2 ^ (min (1 : Int).toNat (IntKind.bits .u64))))) + m_5)) - start_91)), .func cmp_f7 cmp_x8 cmp_c9] w124 (retS (fun v126 w127 => v126 = (.tuple #[] : Value) ∧ (
 J104 [] w127)) (fun ch w => Kfn R ch [] w))) (
 J104 [] w124))) ∧ (
 ifB (decide ((start_91 : Int) < m_5)) (
 J122 [.bool (decide ((m_5 : Int) < (IntKind.wrap .i64 ((IntKind.wrap .i64 ((IntKind.wrap .i64 (Int.fdiv (IntKind.wrap .u64 (IntKind.wrap .i64 (a_4 + b_6))) (2 ^ (min (1 : Int).toNat (IntKind.bits .u64))))) + m_5)) - start_91))))] w90) (
 J122 [.bool false] w90)))))))) ∧ (
 ifB (decide ((m_5 : Int) > (IntKind.wrap .i64 (Int.fdiv (IntKind.wrap .u64 (IntKind.wrap .i64 (a_4 + b_6))) (2 ^ (min (1 : Int).toNat (IntKind.bits .u64))))))) (
 J82 [.int .i64 (IntKind.wrap .i64 ((IntKind.wrap .i64 ((IntKind.wrap .i64 (Int.fdiv (IntKind.wrap .u64 (IntKind.wrap .i64 (a_4 + b_6))) (2 ^ (min (1 : Int).toNat (IntKind.bits .u64))))) + m_5)) - b_6)), .int .i64 (IntKind.wrap .i64 (Int.fdiv (IntKind.wrap .u64 (IntKind.wrap .i64 (a_4 + b_6))) (2 ^ (min (1 : Int).toNat (IntKind.bits .u64)))))] w) (
 J82 [.int .i64 a_4, .int .i64 m_5] w)))))
set_option maxRecDepth 100000 in
theorem sh161_ok (data_p1 : Option Addr) (data_n2 : Nat) (data_c3 : Nat) (a_4 : Int) (m_5 : Int) (b_6 : Int) (cmp_f7 : Fn) (cmp_x8 : Array Value) (cmp_c9 : Array Value) {R : Ending → World → Prop} {w : World} : sh161 data_p1 data_n2 data_c3 a_4 m_5 b_6 cmp_f7 cmp_x8 cmp_c9 R w → Calls Try.prog 161 #[.slice data_p1 data_n2 data_c3, .int .i64 a_4, .int .i64 m_5, .int .i64 b_6, .func cmp_f7 cmp_x8 cmp_c9] w R :=
  calls_of_eq (ann := fun i => if i = 1000044 then [(0, .nilIface), (213, .bool false)] else if i = 1000043 then [(0, .nilIface)] else if i = 1000042 then [(0, .nilIface), (199, .bool false)] else if i = 1000041 then [(0, .nilIface)] else if i = 1000040 then [(0, .nilIface), (185, .bool false)] else if i = 8 then [(20, .int .i64 0), (21, .int .i64 0)] else if i = 1000032 then [(0, .nilIface), (20, .int .i64 0), (21, .int .i64 0)] else if i = 6 then [(17, .int .i64 0)] else if i = 4 then [(14, .int .i64 0), (15, .int .i64 0)] else if i = 2 then [(13, .int .i64 0)] else if i = 0 then [(10, .int .i64 0), (11, .int .i64 0)] else []) (fn := Try.f161) (c := bodyOf Try.f161) (args := #[.slice data_p1 data_n2 data_c3, .int .i64 a_4, .int .i64 m_5, .int .i64 b_6, .func cmp_f7 cmp_x8 cmp_c9]) 400 follows_mixed Try.func161 (by kernel_rfl) (by kernel_rfl)
set_option maxRecDepth 100000 in
/-- slices.Reverse[[]joinery/api.Pair,joinery/api.Pair] -/
def sh162 (s_p1 : Option Addr) (s_n2 : Nat) (_s_c3 : Nat) (R : Ending → World → Prop) (w : World) : Prop :=
 ∃ (I4 : List Value → World → Prop) (μ5 : List Value → World → Nat), I4 [.int .i64 0, .int .i64 (IntKind.wrap .i64 (((s_n2 : Nat) : Int) - 1))] w ∧ (∀ (i_8 : Int), ∀ (j_9 : Int), ∀ (_j6 : Nat → Value) (w7 : World), I4 [.int .i64 i_8, .int .i64 j_9] w7 → (
 ifB (decide ((i_8 : Int) < j_9)) (
 doDr w7 (fun w11 =>
 ∃ (C10 : World → Prop), C10 w11 ∧ (
 doIx s_p1 s_n2 2 (j_9) (fun a12 =>
 ∃ (x13 : Int), (∀ w, C10 w → World.cell? w (a12.add 0) = some (.int .i64 x13)) ∧ (
 ∃ (x14 : Int), (∀ w, C10 w → World.cell? w (a12.add 1) = some (.int .i64 x14)) ∧ (
 doIx s_p1 s_n2 2 (i_8) (fun a15 =>
 ∃ (x16 : Int), (∀ w, C10 w → World.cell? w (a15.add 0) = some (.int .i64 x16)) ∧ (
 ∃ (x17 : Int), (∀ w, C10 w → World.cell? w (a15.add 1) = some (.int .i64 x17)) ∧ (
 doIx s_p1 s_n2 2 (i_8) (fun a18 =>
 doSt (a18.add 0) (.int .i64 x13) w11 (fun w19 =>
 doSt (a18.add 1) (.int .i64 x14) w19 (fun w20 =>
 doIx s_p1 s_n2 2 (j_9) (fun a21 =>
 doSt (a21.add 0) (.int .i64 x16) w20 (fun w22 =>
 doSt (a21.add 1) (.int .i64 x17) w22 (fun w23 =>
 I4 [.int .i64 (IntKind.wrap .i64 (i_8 + 1)), .int .i64 (IntKind.wrap .i64 (j_9 - 1))] w23 ∧ μ5 [.int .i64 (IntKind.wrap .i64 (i_8 + 1)), .int .i64 (IntKind.wrap .i64 (j_9 - 1))] w23 < μ5 [.int .i64 i_8, .int .i64 j_9] w7))))))))))))))) (
 R (.returned (.tuple #[])) w7)))
set_option maxRecDepth 100000 in
theorem sh162_ok (s_p1 : Option Addr) (s_n2 : Nat) (s_c3 : Nat) {R : Ending → World → Prop} {w : World} : sh162 s_p1 s_n2 s_c3 R w → Calls Try.prog 162 #[.slice s_p1 s_n2 s_c3] w R :=
  calls_of_eq (ann := fun i => if i = 0 then [(2, .int .i64 0), (3, .int .i64 0)] else []) (fn := Try.f162) (c := bodyOf Try.f162) (args := #[.slice s_p1 s_n2 s_c3]) 400 follows_mixed Try.func162 (by kernel_rfl) (by kernel_rfl)
set_option maxRecDepth 100000 in
/-- math/bits.Reverse64 -/
def sh163 (x_1 : Int) (R : Ending → World → Prop) (w : World) : Prop :=
 (0 : Int) ≤ 1 ∧ (
 (0 : Int) ≤ 1 ∧ (
 (0 : Int) ≤ 2 ∧ (
 (0 : Int) ≤ 2 ∧ (
 (0 : Int) ≤ 4 ∧ (
 (0 : Int) ≤ 4 ∧ (
 doCall Try.prog (.func (.func 168) #[] #[]) #[.int .u64 (bOr .u64 (bAnd .u64 (Int.fdiv (bOr .u64 (bAnd .u64 (Int.fdiv (bOr .u64 (bAnd .u64 (Int.fdiv x_1 (2 ^ (min (1 : Int).toNat (IntKind.bits .u64)))) 6148914691236517205) (IntKind.wrap .u64 ((bAnd .u64 x_1 6148914691236517205) * 2 ^ (min (1 : Int).toNat (IntKind.bits .u64))))) (2 ^ (min (2 : Int).toNat (IntKind.bits .u64)))) 3689348814741910323) (IntKind.wrap .u64 ((bAnd .u64 (bOr .u64 (bAnd .u64 (Int.fdiv x_1 (2 ^ (min (1 : Int).toNat (IntKind.bits .u64)))) 6148914691236517205) (IntKind.wrap .u64 ((bAnd .u64 x_1 6148914691236517205) * 2 ^ (min (1 : Int).toNat (IntKind.bits .u64))))) 3689348814741910323) * 2 ^ (min (2 : Int).toNat (IntKind.bits .u64))))) (2 ^ (min (4 : Int).toNat (IntKind.bits .u64)))) 1085102592571150095) (IntKind.wrap .u64 ((bAnd .u64 (bOr .u64 (bAnd .u64 (Int.fdiv (bOr .u64 (bAnd .u64 (Int.fdiv x_1 (2 ^ (min (1 : Int).toNat (IntKind.bits .u64)))) 6148914691236517205) (IntKind.wrap .u64 ((bAnd .u64 x_1 6148914691236517205) * 2 ^ (min (1 : Int).toNat (IntKind.bits .u64))))) (2 ^ (min (2 : Int).toNat (IntKind.bits .u64)))) 3689348814741910323) (IntKind.wrap .u64 ((bAnd .u64 (bOr .u64 (bAnd .u64 (Int.fdiv x_1 (2 ^ (min (1 : Int).toNat (IntKind.bits .u64)))) 6148914691236517205) (IntKind.wrap .u64 ((bAnd .u64 x_1 6148914691236517205) * 2 ^ (min (1 : Int).toNat (IntKind.bits .u64))))) 3689348814741910323) * 2 ^ (min (2 : Int).toNat (IntKind.bits .u64))))) 1085102592571150095) * 2 ^ (min (4 : Int).toNat (IntKind.bits .u64)))))] w (retS (fun v3 w4 => ∃ (x2 : Int), v3 = (.int .u64 x2 : Value) ∧ (
 R (.returned (.int .u64 x2)) w4)) (fun ch w => Kfn R ch [] w))))))))
set_option maxRecDepth 100000 in
theorem sh163_ok (x_1 : Int) {R : Ending → World → Prop} {w : World} : sh163 x_1 R w → Calls Try.prog 163 #[.int .u64 x_1] w R :=
  calls_of_eq (ann := fun _ => []) (fn := Try.f163) (c := bodyOf Try.f163) (args := #[.int .u64 x_1]) 400 follows_mixed Try.func163 (by kernel_rfl) (by kernel_rfl)
set_option maxRecDepth 100000 in
/-- math/bits.RotateLeft64 -/
def sh164 (x_1 : Int) (k_2 : Int) (R : Ending → World → Prop) (w : World) : Prop :=
 (0 : Int) ≤ (bAnd .u64 (IntKind.wrap .u64 k_2) 63) ∧ (
 (0 : Int) ≤ (IntKind.wrap .u64 (64 - (bAnd .u64 (IntKind.wrap .u64 k_2) 63))) ∧ (
 R (.returned (.int .u64 (bOr .u64 (IntKind.wrap .u64 (x_1 * 2 ^ (min ((bAnd .u64 (IntKind.wrap .u64 k_2) 63) : Int).toNat (IntKind.bits .u64)))) (Int.fdiv x_1 (2 ^ (min ((IntKind.wrap .u64 (64 - (bAnd .u64 (IntKind.wrap .u64 k_2) 63))) : Int).toNat (IntKind.bits .u64))))))) w))
set_option maxRecDepth 100000 in
theorem sh164_ok (x_1 : Int) (k_2 : Int) {R : Ending → World → Prop} {w : World} : sh164 x_1 k_2 R w → Calls Try.prog 164 #[.int .u64 x_1, .int .i64 k_2] w R :=
  calls_of_eq (ann := fun _ => []) (fn := Try.f164) (c := bodyOf Try.f164) (args := #[.int .u64 x_1, .int .i64 k_2]) 400 follows_mixed Try.func164 (by kernel_rfl) (by kernel_rfl)
set_option maxRecDepth 100000 in
/-- joinery/mix.steps -/
def sh165 (back_1 : Bool) (R : Ending → World → Prop) (w : World) : Prop :=
 doAl (.cells #[.bool back_1] 4) w (fun b2 w3 =>
 doCall Try.prog (.func (.func 169) #[] #[]) #[] w3 (retS (fun v10 w11 => ∃ (x4 : Int), ∃ (x5 : Int), ∃ (x6 : Int), ∃ (x7 : Int), ∃ (x8 : Int), ∃ (x9 : Int), v10 = (.agg #[.int .i64 x4, .int .u64 x5, .int .i64 x6, .int .u64 x7, .int .i64 x8, .int .u64 x9] : Value) ∧ (
 doAl (.cells #[.int .i64 0, .int .u64 0, .int .i64 0, .int .u64 0, .int .i64 0, .int .u64 0] 176) w11 (fun b12 w13 =>
 doSt ((blk b12).add 0) (.int .i64 x4) w13 (fun w14 =>
 doSt ((blk b12).add 1) (.int .u64 x5) w14 (fun w15 =>
 doSt ((blk b12).add 2) (.int .i64 x6) w15 (fun w16 =>
 doSt ((blk b12).add 3) (.int .u64 x7) w16 (fun w17 =>
 doSt ((blk b12).add 4) (.int .i64 x8) w17 (fun w18 =>
 doSt ((blk b12).add 5) (.int .u64 x9) w18 (fun w19 =>
 R (.returned (.func (.func 170) #[] #[.pointer (some (blk b2)), .pointer (some (blk b12))])) w19))))))))) (fun ch w => Kfn R ch [] w)))
set_option maxRecDepth 100000 in
theorem sh165_ok (back_1 : Bool) {R : Ending → World → Prop} {w : World} : sh165 back_1 R w → Calls Try.prog 165 #[.bool back_1] w R :=
  calls_of_eq (ann := fun _ => []) (fn := Try.f165) (c := bodyOf Try.f165) (args := #[.bool back_1]) 400 follows_mixed Try.func165 (by kernel_rfl) (by kernel_rfl)
set_option maxRecDepth 100000 in
/-- joinery/mix.Unmix$1 -/
def sh166 (by_1 : Int) (R : Ending → World → Prop) (w : World) : Prop :=
 ∃ (I2 : List Value → World → Prop) (μ3 : List Value → World → Nat), I2 [.int .u64 by_1, .int .i64 0] w ∧ (∀ (y_6 : Int), ∀ (x7 : Int), ∀ (_j4 : Nat → Value) (w5 : World), I2 [.int .u64 y_6, .int .i64 x7] w5 → (
 ifB (decide ((x7 : Int) < 6)) (
 I2 [.int .u64 (IntKind.wrap .u64 (y_6 * (IntKind.wrap .u64 (2 - (IntKind.wrap .u64 (by_1 * y_6)))))), .int .i64 (IntKind.wrap .i64 (x7 + 1))] w5 ∧ μ3 [.int .u64 (IntKind.wrap .u64 (y_6 * (IntKind.wrap .u64 (2 - (IntKind.wrap .u64 (by_1 * y_6)))))), .int .i64 (IntKind.wrap .i64 (x7 + 1))] w5 < μ3 [.int .u64 y_6, .int .i64 x7] w5) (
 R (.returned (.int .u64 y_6)) w5)))
set_option maxRecDepth 100000 in
theorem sh166_ok (by_1 : Int) {R : Ending → World → Prop} {w : World} : sh166 by_1 R w → Calls Try.prog 166 #[.int .u64 by_1] w R :=
  calls_of_eq (ann := fun i => if i = 0 then [(3, .int .u64 0), (5, .int .i64 0)] else []) (fn := Try.f166) (c := bodyOf Try.f166) (args := #[.int .u64 by_1]) 400 follows_mixed Try.func166 (by kernel_rfl) (by kernel_rfl)
set_option maxRecDepth 100000 in
/-- slices.rotateCmpFunc[joinery/api.Pair] -/
def sh167 (data_p1 : Option Addr) (data_n2 : Nat) (data_c3 : Nat) (a_4 : Int) (m_5 : Int) (b_6 : Int) (cmp_f7 : Fn) (cmp_x8 : Array Value) (cmp_c9 : Array Value) (R : Ending → World → Prop) (w : World) : Prop :=
 ∃ (I10 : List Value → World → Prop) (μ11 : List Value → World → Nat), I10 [.int .i64 (IntKind.wrap .i64 (m_5 - a_4)), .int .i64 (IntKind.wrap .i64 (b_6 - m_5))] w ∧ (∀ (i_14 : Int), ∀ (j_15 : Int), ∀ (_j12 : Nat → Value) (w13 : World), I10 [.int .i64 i_14, .int .i64 j_15] w13 → (
 ifB ((i_14 : Int) != j_15) (
 ifB (decide ((i_14 : Int) > j_15)) (
 doCall Try.prog (.func (.func 171) #[] #[]) #[.slice data_p1 data_n2 data_c3, .int .i64 (IntKind.wrap .i64 (m_5 - i_14)), .int .i64 m_5, .int .i64 j_15, .func cmp_f7 cmp_x8 cmp_c9] w13 (retS (fun v16 w17 => v16 = (.tuple #[] : Value) ∧ (
 I10 [.int .i64 (IntKind.wrap .i64 (i_14 - j_15)), .int .i64 j_15] w17 ∧ μ11 [.int .i64 (IntKind.wrap .i64 (i_14 - j_15)), .int .i64 j_15] w17 < μ11 [.int .i64 i_14, .int .i64 j_15] w13)) (fun ch w => Kfn R ch [] w))) (
 doCall Try.prog (.func (.func 171) #[] #[]) #[.slice data_p1 data_n2 data_c3, .int .i64 (IntKind.wrap .i64 (m_5 - i_14)), .int .i64 (IntKind.wrap .i64 ((IntKind.wrap .i64 (m_5 + j_15)) - i_14)), .int .i64 i_14, .func cmp_f7 cmp_x8 cmp_c9] w13 (retS (fun v18 w19 => v18 = (.tuple #[] : Value) ∧ (
 I10 [.int .i64 i_14, .int .i64 (IntKind.wrap .i64 (j_15 - i_14))] w19 ∧ μ11 [.int .i64 i_14, .int .i64 (IntKind.wrap .i64 (j_15 - i_14))] w19 < μ11 [.int .i64 i_14, .int .i64 j_15] w13)) (fun ch w => Kfn R ch [] w)))) (
 doCall Try.prog (.func (.func 171) #[] #[]) #[.slice data_p1 data_n2 data_c3, .int .i64 (IntKind.wrap .i64 (m_5 - i_14)), .int .i64 m_5, .int .i64 i_14, .func cmp_f7 cmp_x8 cmp_c9] w13 (retS (fun v20 w21 => v20 = (.tuple #[] : Value) ∧ (
 R (.returned (.tuple #[])) w21)) (fun ch w => Kfn R ch [] w)))))
set_option maxRecDepth 100000 in
theorem sh167_ok (data_p1 : Option Addr) (data_n2 : Nat) (data_c3 : Nat) (a_4 : Int) (m_5 : Int) (b_6 : Int) (cmp_f7 : Fn) (cmp_x8 : Array Value) (cmp_c9 : Array Value) {R : Ending → World → Prop} {w : World} : sh167 data_p1 data_n2 data_c3 a_4 m_5 b_6 cmp_f7 cmp_x8 cmp_c9 R w → Calls Try.prog 167 #[.slice data_p1 data_n2 data_c3, .int .i64 a_4, .int .i64 m_5, .int .i64 b_6, .func cmp_f7 cmp_x8 cmp_c9] w R :=
  calls_of_eq (ann := fun i => if i = 0 then [(10, .int .i64 0), (11, .int .i64 0)] else []) (fn := Try.f167) (c := bodyOf Try.f167) (args := #[.slice data_p1 data_n2 data_c3, .int .i64 a_4, .int .i64 m_5, .int .i64 b_6, .func cmp_f7 cmp_x8 cmp_c9]) 400 follows_mixed Try.func167 (by kernel_rfl) (by kernel_rfl)
set_option maxRecDepth 100000 in
/-- math/bits.ReverseBytes64 -/
def sh168 (x_1 : Int) (R : Ending → World → Prop) (w : World) : Prop :=
 (0 : Int) ≤ 8 ∧ (
 (0 : Int) ≤ 8 ∧ (
 (0 : Int) ≤ 16 ∧ (
 (0 : Int) ≤ 16 ∧ (
 (0 : Int) ≤ 32 ∧ (
 (0 : Int) ≤ 32 ∧ (
 R (.returned (.int .u64 (bOr .u64 (Int.fdiv (bOr .u64 (bAnd .u64 (Int.fdiv (bOr .u64 (bAnd .u64 (Int.fdiv x_1 (2 ^ (min (8 : Int).toNat (IntKind.bits .u64)))) 71777214294589695) (IntKind.wrap .u64 ((bAnd .u64 x_1 71777214294589695) * 2 ^ (min (8 : Int).toNat (IntKind.bits .u64))))) (2 ^ (min (16 : Int).toNat (IntKind.bits .u64)))) 281470681808895) (IntKind.wrap .u64 ((bAnd .u64 (bOr .u64 (bAnd .u64 (Int.fdiv x_1 (2 ^ (min (8 : Int).toNat (IntKind.bits .u64)))) 71777214294589695) (IntKind.wrap .u64 ((bAnd .u64 x_1 71777214294589695) * 2 ^ (min (8 : Int).toNat (IntKind.bits .u64))))) 281470681808895) * 2 ^ (min (16 : Int).toNat (IntKind.bits .u64))))) (2 ^ (min (32 : Int).toNat (IntKind.bits .u64)))) (IntKind.wrap .u64 ((bOr .u64 (bAnd .u64 (Int.fdiv (bOr .u64 (bAnd .u64 (Int.fdiv x_1 (2 ^ (min (8 : Int).toNat (IntKind.bits .u64)))) 71777214294589695) (IntKind.wrap .u64 ((bAnd .u64 x_1 71777214294589695) * 2 ^ (min (8 : Int).toNat (IntKind.bits .u64))))) (2 ^ (min (16 : Int).toNat (IntKind.bits .u64)))) 281470681808895) (IntKind.wrap .u64 ((bAnd .u64 (bOr .u64 (bAnd .u64 (Int.fdiv x_1 (2 ^ (min (8 : Int).toNat (IntKind.bits .u64)))) 71777214294589695) (IntKind.wrap .u64 ((bAnd .u64 x_1 71777214294589695) * 2 ^ (min (8 : Int).toNat (IntKind.bits .u64))))) 281470681808895) * 2 ^ (min (16 : Int).toNat (IntKind.bits .u64))))) * 2 ^ (min (32 : Int).toNat (IntKind.bits .u64))))))) w))))))
set_option maxRecDepth 100000 in
theorem sh168_ok (x_1 : Int) {R : Ending → World → Prop} {w : World} : sh168 x_1 R w → Calls Try.prog 168 #[.int .u64 x_1] w R :=
  calls_of_eq (ann := fun _ => []) (fn := Try.f168) (c := bodyOf Try.f168) (args := #[.int .u64 x_1]) 400 follows_mixed Try.func168 (by kernel_rfl) (by kernel_rfl)
set_option maxRecDepth 100000 in
/-- joinery/mix.all -/
def sh169  (R : Ending → World → Prop) (w : World) : Prop :=
 doAl (.cells #[.int .i64 0, .int .u64 0, .int .i64 0, .int .u64 0, .int .i64 0, .int .u64 0] 176) w (fun b1 w2 =>
 doSt ((blk b1).add 0) (.int .i64 30) w2 (fun w3 =>
 doSt ((blk b1).add 1) (.int .u64 13787848793156543929) w3 (fun w4 =>
 doSt ((blk b1).add 2) (.int .i64 27) w4 (fun w5 =>
 doSt ((blk b1).add 3) (.int .u64 10723151780598845931) w5 (fun w6 =>
 doSt ((blk b1).add 4) (.int .i64 31) w6 (fun w7 =>
 doSt ((blk b1).add 5) (.int .u64 1) w7 (fun w8 =>
 ∃ (x9 : Int), World.cell? w8 ((blk b1).add 0) = some (.int .i64 x9) ∧ (
 ∃ (x10 : Int), World.cell? w8 ((blk b1).add 1) = some (.int .u64 x10) ∧ (
 ∃ (x11 : Int), World.cell? w8 ((blk b1).add 2) = some (.int .i64 x11) ∧ (
 ∃ (x12 : Int), World.cell? w8 ((blk b1).add 3) = some (.int .u64 x12) ∧ (
 ∃ (x13 : Int), World.cell? w8 ((blk b1).add 4) = some (.int .i64 x13) ∧ (
 ∃ (x14 : Int), World.cell? w8 ((blk b1).add 5) = some (.int .u64 x14) ∧ (
 R (.returned (.agg #[.int .i64 x9, .int .u64 x10, .int .i64 x11, .int .u64 x12, .int .i64 x13, .int .u64 x14])) w8)))))))))))))
set_option maxRecDepth 100000 in
theorem sh169_ok  {R : Ending → World → Prop} {w : World} : sh169  R w → Calls Try.prog 169 #[] w R :=
  calls_of_eq (ann := fun _ => []) (fn := Try.f169) (c := bodyOf Try.f169) (args := #[]) 400 follows_mixed Try.func169 (by kernel_rfl) (by kernel_rfl)
set_option maxRecDepth 100000 in
/-- joinery/mix.steps$1 -/
def sh170 (yield_f1 : Fn) (yield_x2 : Array Value) (yield_c3 : Array Value) (x4 : Addr) (x5 : Addr) (R : Ending → World → Prop) (w : World) : Prop :=
 ∃ (I6 : List Value → World → Prop) (μ7 : List Value → World → Nat), I6 [.int .i64 0] w ∧ (∀ (x10 : Int), ∀ (_j8 : Nat → Value) (w9 : World), I6 [.int .i64 x10] w9 → (
 ifB (decide ((x10 : Int) < 3)) (
 let K13 : Int → World → Prop := fun (k_11 : Int) (w12 : World) => 
 doIx (some x5) 3 2 (k_11) (fun a14 =>
 ∃ (x15 : Int), World.cell? w12 (a14.add 0) = some (.int .i64 x15) ∧ (
 ∃ (x16 : Int), World.cell? w12 (a14.add 1) = some (.int .u64 x16) ∧ (
 doCall Try.prog (.func yield_f1 yield_x2 yield_c3) #[.agg #[.int .i64 x15, .int .u64 x16]] w12 (retS (fun v18 w19 => ∃ (x17 : Bool), v18 = (.bool x17 : Value) ∧ (
 ifB (!x17) (
 R (.returned (.tuple #[])) w19) (
 I6 [.int .i64 (IntKind.wrap .i64 (x10 + 1))] w19 ∧ μ7 [.int .i64 (IntKind.wrap .i64 (x10 + 1))] w19 < μ7 [.int .i64 x10] w9))) (fun ch w => Kfn R ch [] w)))))
 ∃ (x20 : Bool), World.cell? w9 x4 = some (.bool x20) ∧ (
 ifB x20 (
 K13 (IntKind.wrap .i64 (2 - x10)) w9) (
 K13 x10 w9))) (
 R (.returned (.tuple #[])) w9)))
set_option maxRecDepth 100000 in
theorem sh170_ok (yield_f1 : Fn) (yield_x2 : Array Value) (yield_c3 : Array Value) (x4 : Addr) (x5 : Addr) {R : Ending → World → Prop} {w : World} : sh170 yield_f1 yield_x2 yield_c3 x4 x5 R w → Calls Try.prog 170 #[.func yield_f1 yield_x2 yield_c3, .pointer (some x4), .pointer (some x5)] w R :=
  calls_of_eq (ann := fun i => if i = 0 then [(5, .int .i64 0)] else []) (fn := Try.f170) (c := bodyOf Try.f170) (args := #[.func yield_f1 yield_x2 yield_c3, .pointer (some x4), .pointer (some x5)]) 400 follows_mixed Try.func170 (by kernel_rfl) (by kernel_rfl)
set_option maxRecDepth 100000 in
/-- slices.swapRangeCmpFunc[joinery/api.Pair] -/
def sh171 (data_p1 : Option Addr) (data_n2 : Nat) (_data_c3 : Nat) (a_4 : Int) (b_5 : Int) (n_6 : Int) (_cmp_f7 : Fn) (_cmp_x8 : Array Value) (_cmp_c9 : Array Value) (R : Ending → World → Prop) (w : World) : Prop :=
 ∃ (I10 : List Value → World → Prop) (μ11 : List Value → World → Nat), I10 [.int .i64 0] w ∧ (∀ (i_14 : Int), ∀ (_j12 : Nat → Value) (w13 : World), I10 [.int .i64 i_14] w13 → (
 ifB (decide ((i_14 : Int) < n_6)) (
 doDr w13 (fun w16 =>
 ∃ (C15 : World → Prop), C15 w16 ∧ (
 doIx data_p1 data_n2 2 (IntKind.wrap .i64 (b_5 + i_14)) (fun a17 =>
 ∃ (x18 : Int), (∀ w, C15 w → World.cell? w (a17.add 0) = some (.int .i64 x18)) ∧ (
 ∃ (x19 : Int), (∀ w, C15 w → World.cell? w (a17.add 1) = some (.int .i64 x19)) ∧ (
 doIx data_p1 data_n2 2 (IntKind.wrap .i64 (a_4 + i_14)) (fun a20 =>
 ∃ (x21 : Int), (∀ w, C15 w → World.cell? w (a20.add 0) = some (.int .i64 x21)) ∧ (
 ∃ (x22 : Int), (∀ w, C15 w → World.cell? w (a20.add 1) = some (.int .i64 x22)) ∧ (
 doIx data_p1 data_n2 2 (IntKind.wrap .i64 (a_4 + i_14)) (fun a23 =>
 doSt (a23.add 0) (.int .i64 x18) w16 (fun w24 =>
 doSt (a23.add 1) (.int .i64 x19) w24 (fun w25 =>
 doIx data_p1 data_n2 2 (IntKind.wrap .i64 (b_5 + i_14)) (fun a26 =>
 doSt (a26.add 0) (.int .i64 x21) w25 (fun w27 =>
 doSt (a26.add 1) (.int .i64 x22) w27 (fun w28 =>
 I10 [.int .i64 (IntKind.wrap .i64 (i_14 + 1))] w28 ∧ μ11 [.int .i64 (IntKind.wrap .i64 (i_14 + 1))] w28 < μ11 [.int .i64 i_14] w13))))))))))))))) (
 R (.returned (.tuple #[])) w13)))
set_option maxRecDepth 100000 in
theorem sh171_ok (data_p1 : Option Addr) (data_n2 : Nat) (data_c3 : Nat) (a_4 : Int) (b_5 : Int) (n_6 : Int) (cmp_f7 : Fn) (cmp_x8 : Array Value) (cmp_c9 : Array Value) {R : Ending → World → Prop} {w : World} : sh171 data_p1 data_n2 data_c3 a_4 b_5 n_6 cmp_f7 cmp_x8 cmp_c9 R w → Calls Try.prog 171 #[.slice data_p1 data_n2 data_c3, .int .i64 a_4, .int .i64 b_5, .int .i64 n_6, .func cmp_f7 cmp_x8 cmp_c9] w R :=
  calls_of_eq (ann := fun i => if i = 0 then [(10, .int .i64 0)] else []) (fn := Try.f171) (c := bodyOf Try.f171) (args := #[.slice data_p1 data_n2 data_c3, .int .i64 a_4, .int .i64 b_5, .int .i64 n_6, .func cmp_f7 cmp_x8 cmp_c9]) 400 follows_mixed Try.func171 (by kernel_rfl) (by kernel_rfl)
end Go.Proofs.Ytinkkhcffoikmaa
