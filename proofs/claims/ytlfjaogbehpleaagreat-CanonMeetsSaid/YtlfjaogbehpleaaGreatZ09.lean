/-
  Printed by a program (gen.py): what the functions of the program do, as formulas; each with the proof that its call is what the formula says.
-/
import Derived.Test.YtlfjaogbehpleaaGreatZ04
import Derived.Test.YtlfjaogbehpleaaGreatProg
import Derived.Test.YtlfjaogbehpleaaGreatZ05

namespace Go.Proofs.YtlfjaogbehpleaaGreat
open Go Go.Sh
set_option maxRecDepth 100000 in
/-- joinery/rb.High -/
def sh257 (t_1 : Option Addr) (R : Ending → World → Prop) (w : World) : Prop :=
 doCall Tryz.prog (.func (.func 318) #[] #[]) #[.pointer t_1] w (retS (fun v4 w5 => ∃ (x2 : Int), ∃ (x3 : Int), v4 = (.agg #[.int .u64 x2, .int .u64 x3] : Value) ∧ (
 R (.returned (.int .i64 (IntKind.wrap .i64 x3))) w5)) (fun ch w => Kfn R ch [] w))
set_option maxRecDepth 100000 in
theorem sh257_ok (t_1 : Option Addr) {R : Ending → World → Prop} {w : World} : sh257 t_1 R w → Calls Tryz.prog 257 #[.pointer t_1] w R :=
  Old.calls_of_eq (ann := fun _ => []) (fn := Tryz.f257) (c := bodyOf Tryz.f257) (args := #[.pointer t_1]) 400 follows_mixed Tryz.func257 (by kernel_rfl) (by kernel_rfl)
set_option maxRecDepth 100000 in
/-- joinery/rbjoin.hang -/
def sh258 (s_t1 : TypeId) (s_v2 : Value) (t_3 : Option Addr) (pair_4 : Option Addr) (low_5 : Option Addr) (R : Ending → World → Prop) (w : World) : Prop :=
 let K7 : World → Prop := fun (w6 : World) => 
 doGo Tryz.prog (.fn (.method "joinery/rbjoin.out") #[]) #[.iface s_t1 s_v2, .pointer t_3] w6 (retS (fun v9 w10 => ∃ (x8 : Option Addr), v9 = (.pointer x8 : Value) ∧ (
 doCall Tryz.prog (.func (.func 258) #[] #[]) #[.iface s_t1 s_v2, .pointer x8, .pointer pair_4, .pointer low_5] w10 (retS (fun v12 w13 => ∃ (x11 : Option Addr), v12 = (.pointer x11 : Value) ∧ (
 let K15 : World → Prop := fun (w14 : World) => 
 doDr w14 (fun w16 =>
 doNC Tryz.prog (.func (.method "joinery/rbjoin.make") #[.iface s_t1 s_v2] #[]) (
 doGo Tryz.prog (.fn (.method "joinery/rbjoin.in") #[]) #[.iface s_t1 s_v2, .pointer t_3] w16 (retS (fun v18 w19 => ∃ (x17 : Option Addr), v18 = (.pointer x17 : Value) ∧ (
 doCall Tryz.prog (.func (.func 260) #[] #[]) #[.pointer t_3] w19 (retS (fun v21 w22 => ∃ (x20 : Bool), v21 = (.bool x20 : Value) ∧ (
 doGo Tryz.prog (.fn (.method "joinery/rbjoin.make") #[]) #[.iface s_t1 s_v2, .pointer x17, .pointer t_3, .bool x20, .pointer x11] w22 (retS (fun v24 w25 => ∃ (x23 : Option Addr), v24 = (.pointer x23 : Value) ∧ (
 R (.returned (.pointer x23)) w25)) (fun ch w => Kfn R ch [] w)))) (fun ch w => Kfn R ch [] w)))) (fun ch w => Kfn R ch [] w))))
 let K28 : Bool → World → Prop := fun (x26 : Bool) (w27 : World) => 
 ifB x26 (
 doDr w27 (fun w29 =>
 doNC Tryz.prog (.func (.method "joinery/rbjoin.make") #[.iface s_t1 s_v2] #[]) (
 doNC Tryz.prog (.func (.method "joinery/rbjoin.make") #[.iface s_t1 s_v2] #[]) (
 doGo Tryz.prog (.fn (.method "joinery/rbjoin.in") #[]) #[.iface s_t1 s_v2, .pointer t_3] w29 (retS (fun v31 w32 => ∃ (x30 : Option Addr), v31 = (.pointer x30 : Value) ∧ (
 doGo Tryz.prog (.fn (.method "joinery/rbjoin.in") #[]) #[.iface s_t1 s_v2, .pointer x11] w32 (retS (fun v34 w35 => ∃ (x33 : Option Addr), v34 = (.pointer x33 : Value) ∧ (
 doGo Tryz.prog (.fn (.method "joinery/rbjoin.make") #[]) #[.iface s_t1 s_v2, .pointer x30, .pointer t_3, .bool false, .pointer x33] w35 (retS (fun v37 w38 => ∃ (x36 : Option Addr), v37 = (.pointer x36 : Value) ∧ (
 doGo Tryz.prog (.fn (.method "joinery/rbjoin.out") #[]) #[.iface s_t1 s_v2, .pointer x11] w38 (retS (fun v40 w41 => ∃ (x39 : Option Addr), v40 = (.pointer x39 : Value) ∧ (
 doCall Tryz.prog (.func (.func 204) #[] #[]) #[.pointer x39] w41 (retS (fun v43 w44 => ∃ (x42 : Option Addr), v43 = (.pointer x42 : Value) ∧ (
 doGo Tryz.prog (.fn (.method "joinery/rbjoin.make") #[]) #[.iface s_t1 s_v2, .pointer x36, .pointer x11, .bool true, .pointer x42] w44 (retS (fun v46 w47 => ∃ (x45 : Option Addr), v46 = (.pointer x45 : Value) ∧ (
 R (.returned (.pointer x45)) w47)) (fun ch w => Kfn R ch [] w)))) (fun ch w => Kfn R ch [] w)))) (fun ch w => Kfn R ch [] w)))) (fun ch w => Kfn R ch [] w)))) (fun ch w => Kfn R ch [] w)))) (fun ch w => Kfn R ch [] w)))))) (
 K15 w27)
 doCall Tryz.prog (.func (.func 260) #[] #[]) #[.pointer t_3] w13 (retS (fun v49 w50 => ∃ (x48 : Bool), v49 = (.bool x48 : Value) ∧ (
 ifB (!x48) (
 doCall Tryz.prog (.func (.func 260) #[] #[]) #[.pointer x11] w50 (retS (fun v52 w53 => ∃ (x51 : Bool), v52 = (.bool x51 : Value) ∧ (
 ifB x51 (
 doGo Tryz.prog (.fn (.method "joinery/rbjoin.out") #[]) #[.iface s_t1 s_v2, .pointer x11] w53 (retS (fun v55 w56 => ∃ (x54 : Option Addr), v55 = (.pointer x54 : Value) ∧ (
 doCall Tryz.prog (.func (.func 260) #[] #[]) #[.pointer x54] w56 (retS (fun v58 w59 => ∃ (x57 : Bool), v58 = (.bool x57 : Value) ∧ (
 K28 x57 w59)) (fun ch w => Kfn R ch [] w)))) (fun ch w => Kfn R ch [] w))) (
 K15 w53))) (fun ch w => Kfn R ch [] w))) (
 K15 w50))) (fun ch w => Kfn R ch [] w)))) (fun ch w => Kfn R ch [] w)))) (fun ch w => Kfn R ch [] w))
 let K62 : Bool → World → Prop := fun (x60 : Bool) (w61 : World) => 
 ifB x60 (
 doGo Tryz.prog (.fn (.method "joinery/rbjoin.make") #[]) #[.iface s_t1 s_v2, .pointer t_3, .pointer pair_4, .bool true, .pointer low_5] w61 (retS (fun v64 w65 => ∃ (x63 : Option Addr), v64 = (.pointer x63 : Value) ∧ (
 R (.returned (.pointer x63)) w65)) (fun ch w => Kfn R ch [] w))) (
 K7 w61)
 ifB ((t_3).isNone) (
 doGo Tryz.prog (.fn (.method "joinery/rbjoin.make") #[]) #[.iface s_t1 s_v2, .pointer t_3, .pointer pair_4, .bool true, .pointer low_5] w (retS (fun v67 w68 => ∃ (x66 : Option Addr), v67 = (.pointer x66 : Value) ∧ (
 R (.returned (.pointer x66)) w68)) (fun ch w => Kfn R ch [] w))) (
 doCall Tryz.prog (.func (.func 260) #[] #[]) #[.pointer t_3] w (retS (fun v70 w71 => ∃ (x69 : Bool), v70 = (.bool x69 : Value) ∧ (
 ifB (!x69) (
 doCall Tryz.prog (.func (.func 257) #[] #[]) #[.pointer t_3] w71 (retS (fun v73 w74 => ∃ (x72 : Int), v73 = (.int .i64 x72 : Value) ∧ (
 doCall Tryz.prog (.func (.func 257) #[] #[]) #[.pointer low_5] w74 (retS (fun v76 w77 => ∃ (x75 : Int), v76 = (.int .i64 x75 : Value) ∧ (
 K62 (decide ((x72 : Int) ≤ x75)) w77)) (fun ch w => Kfn R ch [] w)))) (fun ch w => Kfn R ch [] w))) (
 K7 w71))) (fun ch w => Kfn R ch [] w)))
set_option maxRecDepth 100000 in
theorem sh258_ok (s_t1 : TypeId) (s_v2 : Value) (t_3 : Option Addr) (pair_4 : Option Addr) (low_5 : Option Addr) {R : Ending → World → Prop} {w : World} : sh258 s_t1 s_v2 t_3 pair_4 low_5 R w → Calls Tryz.prog 258 #[.iface s_t1 s_v2, .pointer t_3, .pointer pair_4, .pointer low_5] w R :=
  Old.calls_of_eq (ann := fun _ => []) (fn := Tryz.f258) (c := bodyOf Tryz.f258) (args := #[.iface s_t1 s_v2, .pointer t_3, .pointer pair_4, .pointer low_5]) 400 follows_mixed Tryz.func258 (by kernel_rfl) (by kernel_rfl)
set_option maxRecDepth 100000 in
/-- joinery/rb.Red -/
def sh260 (t_1 : Option Addr) (R : Ending → World → Prop) (w : World) : Prop :=
 doCall Tryz.prog (.func (.func 318) #[] #[]) #[.pointer t_1] w (retS (fun v4 w5 => ∃ (x2 : Int), ∃ (x3 : Int), v4 = (.agg #[.int .u64 x2, .int .u64 x3] : Value) ∧ (
 R (.returned (.bool ((x2 : Int) == 1))) w5)) (fun ch w => Kfn R ch [] w))
set_option maxRecDepth 100000 in
theorem sh260_ok (t_1 : Option Addr) {R : Ending → World → Prop} {w : World} : sh260 t_1 R w → Calls Tryz.prog 260 #[.pointer t_1] w R :=
  Old.calls_of_eq (ann := fun _ => []) (fn := Tryz.f260) (c := bodyOf Tryz.f260) (args := #[.pointer t_1]) 400 follows_mixed Tryz.func260 (by kernel_rfl) (by kernel_rfl)
set_option maxRecDepth 100000 in
/-- joinery/wb.Make -/
def sh262 (l_1 : Option Addr) (key_2 : Int) (val_3 : Int) (r_4 : Option Addr) (R : Ending → World → Prop) (w : World) : Prop :=
 doCall Tryz.prog (.func (.func 261) #[] #[]) #[.pointer l_1, .int .i64 key_2, .int .i64 val_3, .int .u64 0, .pointer r_4] w (retS (fun v6 w7 => ∃ (x5 : Option Addr), v6 = (.pointer x5 : Value) ∧ (
 R (.returned (.pointer x5)) w7)) (fun ch w => Kfn R ch [] w))
set_option maxRecDepth 100000 in
theorem sh262_ok (l_1 : Option Addr) (key_2 : Int) (val_3 : Int) (r_4 : Option Addr) {R : Ending → World → Prop} {w : World} : sh262 l_1 key_2 val_3 r_4 R w → Calls Tryz.prog 262 #[.pointer l_1, .int .i64 key_2, .int .i64 val_3, .pointer r_4] w R :=
  Old.calls_of_eq (ann := fun _ => []) (fn := Tryz.f262) (c := bodyOf Tryz.f262) (args := #[.pointer l_1, .int .i64 key_2, .int .i64 val_3, .pointer r_4]) 400 follows_mixed Tryz.func262 (by kernel_rfl) (by kernel_rfl)
set_option maxRecDepth 100000 in
/-- joinery/wb.Weight -/
def sh263 (t_1 : Option Addr) (R : Ending → World → Prop) (w : World) : Prop :=
 doCall Tryz.prog (.func (.func 32) #[] #[]) #[.pointer t_1] w (retS (fun v3 w4 => ∃ (x2 : Int), v3 = (.int .i64 x2 : Value) ∧ (
 R (.returned (.int .i64 (IntKind.wrap .i64 (x2 + 1)))) w4)) (fun ch w => Kfn R ch [] w))
set_option maxRecDepth 100000 in
theorem sh263_ok (t_1 : Option Addr) {R : Ending → World → Prop} {w : World} : sh263 t_1 R w → Calls Tryz.prog 263 #[.pointer t_1] w R :=
  Old.calls_of_eq (ann := fun _ => []) (fn := Tryz.f263) (c := bodyOf Tryz.f263) (args := #[.pointer t_1]) 400 follows_mixed Tryz.func263 (by kernel_rfl) (by kernel_rfl)
set_option maxRecDepth 100000 in
/-- (joinery/wbjoin.side).hang -/
def sh264 (s_1 : Int) (t_2 : Option Addr) (pair_3 : Option Addr) (low_4 : Option Addr) (R : Ending → World → Prop) (w : World) : Prop :=
 let K7 : Bool → World → Prop := fun (x5 : Bool) (w6 : World) => 
 ifB x5 (
 doCall Tryz.prog (.func (.func 321) #[] #[]) #[.int .i64 s_1, .pointer t_2, .pointer pair_3, .pointer low_4] w6 (retS (fun v9 w10 => ∃ (x8 : Option Addr), v9 = (.pointer x8 : Value) ∧ (
 R (.returned (.pointer x8)) w10)) (fun ch w => Kfn R ch [] w))) (
 doCall Tryz.prog (.func (.func 322) #[] #[]) #[.int .i64 s_1] w6 (retS (fun v12 w13 => ∃ (x11 : Int), v12 = (.int .i64 x11 : Value) ∧ (
 doCall Tryz.prog (.func (.func 323) #[] #[]) #[.int .i64 x11, .pointer t_2] w13 (retS (fun v15 w16 => ∃ (x14 : Option Addr), v15 = (.pointer x14 : Value) ∧ (
 doCall Tryz.prog (.func (.func 323) #[] #[]) #[.int .i64 s_1, .pointer t_2] w16 (retS (fun v18 w19 => ∃ (x17 : Option Addr), v18 = (.pointer x17 : Value) ∧ (
 doCall Tryz.prog (.func (.func 264) #[] #[]) #[.int .i64 s_1, .pointer x17, .pointer pair_3, .pointer low_4] w19 (retS (fun v21 w22 => ∃ (x20 : Option Addr), v21 = (.pointer x20 : Value) ∧ (
 doCall Tryz.prog (.func (.func 263) #[] #[]) #[.pointer x14] w22 (retS (fun v24 w25 => ∃ (x23 : Int), v24 = (.int .i64 x23 : Value) ∧ (
 doCall Tryz.prog (.func (.func 263) #[] #[]) #[.pointer x20] w25 (retS (fun v27 w28 => ∃ (x26 : Int), v27 = (.int .i64 x26 : Value) ∧ (
 doCall Tryz.prog (.func (.func 265) #[] #[]) #[.int .i64 x23, .int .i64 x26] w28 (retS (fun v30 w31 => ∃ (x29 : Bool), v30 = (.bool x29 : Value) ∧ (
 ifB x29 (
 doCall Tryz.prog (.func (.func 321) #[] #[]) #[.int .i64 s_1, .pointer x14, .pointer t_2, .pointer x20] w31 (retS (fun v33 w34 => ∃ (x32 : Option Addr), v33 = (.pointer x32 : Value) ∧ (
 R (.returned (.pointer x32)) w34)) (fun ch w => Kfn R ch [] w))) (
 doCall Tryz.prog (.func (.func 322) #[] #[]) #[.int .i64 s_1] w31 (retS (fun v36 w37 => ∃ (x35 : Int), v36 = (.int .i64 x35 : Value) ∧ (
 doCall Tryz.prog (.func (.func 323) #[] #[]) #[.int .i64 x35, .pointer x20] w37 (retS (fun v39 w40 => ∃ (x38 : Option Addr), v39 = (.pointer x38 : Value) ∧ (
 doCall Tryz.prog (.func (.func 263) #[] #[]) #[.pointer x38] w40 (retS (fun v42 w43 => ∃ (x41 : Int), v42 = (.int .i64 x41 : Value) ∧ (
 doCall Tryz.prog (.func (.func 323) #[] #[]) #[.int .i64 s_1, .pointer x20] w43 (retS (fun v45 w46 => ∃ (x44 : Option Addr), v45 = (.pointer x44 : Value) ∧ (
 doCall Tryz.prog (.func (.func 263) #[] #[]) #[.pointer x44] w46 (retS (fun v48 w49 => ∃ (x47 : Int), v48 = (.int .i64 x47 : Value) ∧ (
 doAl (.map #[] 0) w49 (fun b50 w51 =>
 doMu Tryz.prog 366 (.map (some b50)) (.bool true) (.func (.func 324) #[.int .i64 s_1] #[]) w51 (fun w52 =>
 doMu Tryz.prog 366 (.map (some b50)) (.bool false) (.func (.func 325) #[.int .i64 s_1] #[]) w52 (fun w53 =>
 let K56 : (Option Addr) → World → Prop := fun (x54 : Option Addr) (w55 : World) => 
 R (.returned (.pointer x54)) w55
 doCall Tryz.prog (.func (.func 265) #[] #[]) #[.int .i64 x23, .int .i64 x41] w53 (retS (fun v58 w59 => ∃ (x57 : Bool), v58 = (.bool x57 : Value) ∧ (
 ifB x57 (
 doCall Tryz.prog (.func (.func 265) #[] #[]) #[.int .i64 (IntKind.wrap .i64 (x23 + x41)), .int .i64 x47] w59 (retS (fun v61 w62 => ∃ (x60 : Bool), v61 = (.bool x60 : Value) ∧ (
 doLk Tryz.prog 366 (.map (some b50)) (.bool x60) false w62 (fun v66 => (∃ (xf63 : Fn), ∃ (xx64 : Array Value), ∃ (xc65 : Array Value), v66 = (.func xf63 xx64 xc65 : Value) ∧ (
 doCall Tryz.prog (.func xf63 xx64 xc65) #[.pointer x14, .pointer t_2, .pointer x20] w62 (retS (fun v68 w69 => ∃ (x67 : Option Addr), v68 = (.pointer x67 : Value) ∧ (
 K56 x67 w69)) (fun ch w => Kfn R ch [] w)))) ∨ (v66 = (.nilFunc : Value) ∧ (
 doCall Tryz.prog (.nilFunc) #[.pointer x14, .pointer t_2, .pointer x20] w62 (retS (fun v71 w72 => ∃ (x70 : Option Addr), v71 = (.pointer x70 : Value) ∧ (
 K56 x70 w72)) (fun ch w => Kfn R ch [] w))))))) (fun ch w => Kfn R ch [] w))) (
 doLk Tryz.prog 366 (.map (some b50)) (.bool false) false w59 (fun v76 => (∃ (xf73 : Fn), ∃ (xx74 : Array Value), ∃ (xc75 : Array Value), v76 = (.func xf73 xx74 xc75 : Value) ∧ (
 doCall Tryz.prog (.func xf73 xx74 xc75) #[.pointer x14, .pointer t_2, .pointer x20] w59 (retS (fun v78 w79 => ∃ (x77 : Option Addr), v78 = (.pointer x77 : Value) ∧ (
 K56 x77 w79)) (fun ch w => Kfn R ch [] w)))) ∨ (v76 = (.nilFunc : Value) ∧ (
 doCall Tryz.prog (.nilFunc) #[.pointer x14, .pointer t_2, .pointer x20] w59 (retS (fun v81 w82 => ∃ (x80 : Option Addr), v81 = (.pointer x80 : Value) ∧ (
 K56 x80 w82)) (fun ch w => Kfn R ch [] w)))))))) (fun ch w => Kfn R ch [] w))))))) (fun ch w => Kfn R ch [] w)))) (fun ch w => Kfn R ch [] w)))) (fun ch w => Kfn R ch [] w)))) (fun ch w => Kfn R ch [] w)))) (fun ch w => Kfn R ch [] w))))) (fun ch w => Kfn R ch [] w)))) (fun ch w => Kfn R ch [] w)))) (fun ch w => Kfn R ch [] w)))) (fun ch w => Kfn R ch [] w)))) (fun ch w => Kfn R ch [] w)))) (fun ch w => Kfn R ch [] w)))) (fun ch w => Kfn R ch [] w)))
 ifB ((t_2).isNone) (
 doCall Tryz.prog (.func (.func 321) #[] #[]) #[.int .i64 s_1, .pointer t_2, .pointer pair_3, .pointer low_4] w (retS (fun v84 w85 => ∃ (x83 : Option Addr), v84 = (.pointer x83 : Value) ∧ (
 R (.returned (.pointer x83)) w85)) (fun ch w => Kfn R ch [] w))) (
 doCall Tryz.prog (.func (.func 263) #[] #[]) #[.pointer t_2] w (retS (fun v87 w88 => ∃ (x86 : Int), v87 = (.int .i64 x86 : Value) ∧ (
 doCall Tryz.prog (.func (.func 263) #[] #[]) #[.pointer low_4] w88 (retS (fun v90 w91 => ∃ (x89 : Int), v90 = (.int .i64 x89 : Value) ∧ (
 doCall Tryz.prog (.func (.func 265) #[] #[]) #[.int .i64 x86, .int .i64 x89] w91 (retS (fun v93 w94 => ∃ (x92 : Bool), v93 = (.bool x92 : Value) ∧ (
 K7 x92 w94)) (fun ch w => Kfn R ch [] w)))) (fun ch w => Kfn R ch [] w)))) (fun ch w => Kfn R ch [] w)))
set_option maxRecDepth 100000 in
theorem sh264_ok (s_1 : Int) (t_2 : Option Addr) (pair_3 : Option Addr) (low_4 : Option Addr) {R : Ending → World → Prop} {w : World} : sh264 s_1 t_2 pair_3 low_4 R w → Calls Tryz.prog 264 #[.int .i64 s_1, .pointer t_2, .pointer pair_3, .pointer low_4] w R :=
  Old.calls_of_eq (ann := fun _ => []) (fn := Tryz.f264) (c := bodyOf Tryz.f264) (args := #[.int .i64 s_1, .pointer t_2, .pointer pair_3, .pointer low_4]) 400 follows_mixed Tryz.func264 (by kernel_rfl) (by kernel_rfl)
set_option maxRecDepth 100000 in
/-- joinery/wb.Like -/
def sh265 (a_1 : Int) (b_2 : Int) (R : Ending → World → Prop) (w : World) : Prop :=
 let K5 : Bool → World → Prop := fun (x3 : Bool) (w4 : World) => 
 R (.returned (.bool x3)) w4
 doAl (.cells #[.int .i64 a_1, .int .i64 b_2] 3) w (fun b6 w7 =>
 doCall Tryz.prog (.func (.func 326) #[] #[]) #[.int .i64 1, .int .i64 1099511627776, .slice (some (blk b6)) 2 2] w7 (retS (fun v9 w10 => ∃ (x8 : Bool), v9 = (.bool x8 : Value) ∧ (
 ifB x8 (
 doGo Tryz.prog (.builtin .min #[3, 3] 3 #[false, false]) #[.int .i64 a_1, .int .i64 b_2] w10 (retS (fun v12 w13 => ∃ (x11 : Int), v12 = (.int .i64 x11 : Value) ∧ (
 K5 (decide (((IntKind.wrap .i64 (29 * (IntKind.wrap .i64 (a_1 + b_2)))) : Int) ≤ (IntKind.wrap .i64 (100 * x11)))) w13)) (fun ch w => Kfn R ch [] w))) (
 R (.returned (.bool false)) w10))) (fun ch w => Kfn R ch [] w)))
set_option maxRecDepth 100000 in
theorem sh265_ok (a_1 : Int) (b_2 : Int) {R : Ending → World → Prop} {w : World} : sh265 a_1 b_2 R w → Calls Tryz.prog 265 #[.int .i64 a_1, .int .i64 b_2] w R :=
  Old.calls_of_eq (ann := fun _ => []) (fn := Tryz.f265) (c := bodyOf Tryz.f265) (args := #[.int .i64 a_1, .int .i64 b_2]) 400 follows_mixed Tryz.func265 (by kernel_rfl) (by kernel_rfl)
set_option maxRecDepth 100000 in
/-- joinery/sound.beads$1 -/
def sh268 (yield_f1 : Fn) (yield_x2 : Array Value) (yield_c3 : Array Value) (x4 : Addr) (x5 : Addr) (R : Ending → World → Prop) (w : World) : Prop :=
 doAl (.cells #[.func yield_f1 yield_x2 yield_c3] 318) w (fun b6 w7 =>
 doAl (.cells #[.nilFunc] 319) w7 (fun b8 w9 =>
 doSt ((blk b8).add 0) (.func (.func 269) #[] #[.pointer (some x4), .pointer (some (blk b6)), .pointer (some (blk b8))]) w9 (fun w10 =>
 ∃ (xf11 : Fn), ∃ (xx12 : Array Value), ∃ (xc13 : Array Value), World.cell? w10 (blk b8) = some (.func xf11 xx12 xc13) ∧ (
 ∃ (x14 : Option Addr), World.cell? w10 x5 = some (.pointer x14) ∧ (
 doCall Tryz.prog (.func xf11 xx12 xc13) #[.pointer x14, .func (.func 272) #[] #[]] w10 (retS (fun v16 w17 => ∃ (x15 : Bool), v16 = (.bool x15 : Value) ∧ (
 R (.returned (.tuple #[])) w17)) (fun ch w => Kfn R ch [] w)))))))
set_option maxRecDepth 100000 in
theorem sh268_ok (yield_f1 : Fn) (yield_x2 : Array Value) (yield_c3 : Array Value) (x4 : Addr) (x5 : Addr) {R : Ending → World → Prop} {w : World} : sh268 yield_f1 yield_x2 yield_c3 x4 x5 R w → Calls Tryz.prog 268 #[.func yield_f1 yield_x2 yield_c3, .pointer (some x4), .pointer (some x5)] w R :=
  Old.calls_of_eq (ann := fun _ => []) (fn := Tryz.f268) (c := bodyOf Tryz.f268) (args := #[.func yield_f1 yield_x2 yield_c3, .pointer (some x4), .pointer (some x5)]) 400 follows_mixed Tryz.func268 (by kernel_rfl) (by kernel_rfl)
set_option maxRecDepth 100000 in
/-- joinery/sound.beads$1$1 -/
def sh269 (n_1 : Option Addr) (may_f2 : Fn) (may_x3 : Array Value) (may_c4 : Array Value) (x5 : Addr) (x6 : Addr) (x7 : Addr) (R : Ending → World → Prop) (w : World) : Prop :=
 doAl (.cells #[.pointer n_1] 68) w (fun b8 w9 =>
 doAl (.cells #[.func may_f2 may_x3 may_c4] 320) w9 (fun b10 w11 =>
 ∃ (x12 : Option Addr), World.cell? w11 (blk b8) = some (.pointer x12) ∧ (
 ifB ((x12).isNone) (
 R (.returned (.bool true)) w11) (
 let K15 : Bool → World → Prop := fun (x13 : Bool) (w14 : World) => 
 R (.returned (.bool x13)) w14
 doDr w11 (fun w17 =>
 ∃ (C16 : World → Prop), C16 w17 ∧ (
 ∃ (xf18 : Fn), ∃ (xx19 : Array Value), ∃ (xc20 : Array Value), (∀ w, C16 w → World.cell? w x6 = some (.func xf18 xx19 xc20)) ∧ (
 ∃ (x21 : Option Addr), (∀ w, C16 w → World.cell? w (blk b8) = some (.pointer x21)) ∧ (
 ∃ (xf22 : Fn), ∃ (xx23 : Array Value), ∃ (xc24 : Array Value), (∀ w, C16 w → World.cell? w (blk b10) = some (.func xf22 xx23 xc24)) ∧ (
 ∃ (x25 : Option Addr), (∀ w, C16 w → World.cell? w (blk b8) = some (.pointer x25)) ∧ (
 doCall Tryz.prog (.func (.func 131) #[] #[]) #[.pointer x25] w17 (retS (fun v27 w28 => ∃ (x26 : Int), v27 = (.int .i64 x26 : Value) ∧ (
 C16 w28 ∧ (
 doCall Tryz.prog (.func xf22 xx23 xc24) #[.int .i64 x26] w28 (retS (fun v30 w31 => ∃ (x29 : Bool), v30 = (.bool x29 : Value) ∧ (
 C16 w31 ∧ (
 doCall Tryz.prog (.func xf18 xx19 xc20) #[.pointer x21, .bool (!x29)] w31 (retS (fun v33 w34 => ∃ (x32 : Bool), v33 = (.bool x32 : Value) ∧ (
 C16 w34 ∧ (
 ifB x32 (
 ∃ (xf35 : Fn), ∃ (xx36 : Array Value), ∃ (xc37 : Array Value), (∀ w, C16 w → World.cell? w x7 = some (.func xf35 xx36 xc37)) ∧ (
 ∃ (x38 : Option Addr), (∀ w, C16 w → World.cell? w (blk b8) = some (.pointer x38)) ∧ (
 doCall Tryz.prog (.func (.func 128) #[] #[]) #[.pointer x38] w34 (retS (fun v40 w41 => ∃ (x39 : Option Addr), v40 = (.pointer x39 : Value) ∧ (
 C16 w41 ∧ (
 doCall Tryz.prog (.func xf35 xx36 xc37) #[.pointer x39, .func (.func 270) #[] #[.pointer (some (blk b10)), .pointer (some x5), .pointer (some (blk b8))]] w41 (retS (fun v43 w44 => ∃ (x42 : Bool), v43 = (.bool x42 : Value) ∧ (
 C16 w44 ∧ (
 ifB x42 (
 ∃ (xf45 : Fn), ∃ (xx46 : Array Value), ∃ (xc47 : Array Value), (∀ w, C16 w → World.cell? w x7 = some (.func xf45 xx46 xc47)) ∧ (
 ∃ (x48 : Option Addr), (∀ w, C16 w → World.cell? w (blk b8) = some (.pointer x48)) ∧ (
 doCall Tryz.prog (.func (.func 130) #[] #[]) #[.pointer x48] w44 (retS (fun v50 w51 => ∃ (x49 : Option Addr), v50 = (.pointer x49 : Value) ∧ (
 C16 w51 ∧ (
 doCall Tryz.prog (.func xf45 xx46 xc47) #[.pointer x49, .func (.func 271) #[] #[.pointer (some (blk b10)), .pointer (some x5), .pointer (some (blk b8))]] w51 (retS (fun v53 w54 => ∃ (x52 : Bool), v53 = (.bool x52 : Value) ∧ (
 C16 w54 ∧ (
 K15 x52 w54))) (fun ch w => Kfn R ch [] w))))) (fun ch w => Kfn R ch [] w))))) (
 R (.returned (.bool false)) w44)))) (fun ch w => Kfn R ch [] w))))) (fun ch w => Kfn R ch [] w))))) (
 R (.returned (.bool false)) w34)))) (fun ch w => Kfn R ch [] w))))) (fun ch w => Kfn R ch [] w))))) (fun ch w => Kfn R ch [] w))))))))))))
set_option maxRecDepth 100000 in
theorem sh269_ok (n_1 : Option Addr) (may_f2 : Fn) (may_x3 : Array Value) (may_c4 : Array Value) (x5 : Addr) (x6 : Addr) (x7 : Addr) {R : Ending → World → Prop} {w : World} : sh269 n_1 may_f2 may_x3 may_c4 x5 x6 x7 R w → Calls Tryz.prog 269 #[.pointer n_1, .func may_f2 may_x3 may_c4, .pointer (some x5), .pointer (some x6), .pointer (some x7)] w R :=
  Old.calls_of_eq (ann := fun _ => []) (fn := Tryz.f269) (c := bodyOf Tryz.f269) (args := #[.pointer n_1, .func may_f2 may_x3 may_c4, .pointer (some x5), .pointer (some x6), .pointer (some x7)]) 400 follows_mixed Tryz.func269 (by kernel_rfl) (by kernel_rfl)
set_option maxRecDepth 100000 in
/-- joinery/sound.beads$1$1$1 -/
def sh270 (key_1 : Int) (x2 : Addr) (x3 : Addr) (x4 : Addr) (R : Ending → World → Prop) (w : World) : Prop :=
 let K7 : Bool → World → Prop := fun (x5 : Bool) (w6 : World) => 
 R (.returned (.bool x5)) w6
 doDr w (fun w9 =>
 ∃ (C8 : World → Prop), C8 w9 ∧ (
 ∃ (xf10 : Fn), ∃ (xx11 : Array Value), ∃ (xc12 : Array Value), (∀ w, C8 w → World.cell? w x2 = some (.func xf10 xx11 xc12)) ∧ (
 doCall Tryz.prog (.func xf10 xx11 xc12) #[.int .i64 key_1] w9 (retS (fun v14 w15 => ∃ (x13 : Bool), v14 = (.bool x13 : Value) ∧ (
 C8 w15 ∧ (
 ifB x13 (
 ∃ (x16 : Int), (∀ w, C8 w → World.cell? w x3 = some (.int .u8 x16)) ∧ (
 ∃ (x17 : Option Addr), (∀ w, C8 w → World.cell? w x4 = some (.pointer x17)) ∧ (
 doCall Tryz.prog (.func (.func 131) #[] #[]) #[.pointer x17] w15 (retS (fun v19 w20 => ∃ (x18 : Int), v19 = (.int .i64 x18 : Value) ∧ (
 C8 w20 ∧ (
 doCall Tryz.prog (.func (.func 64) #[] #[]) #[.int .u8 x16, .int .i64 key_1, .int .i64 x18] w20 (retS (fun v22 w23 => ∃ (x21 : Int), v22 = (.int .i64 x21 : Value) ∧ (
 C8 w23 ∧ (
 K7 (decide ((x21 : Int) < 0)) w23))) (fun ch w => Kfn R ch [] w))))) (fun ch w => Kfn R ch [] w))))) (
 R (.returned (.bool false)) w15)))) (fun ch w => Kfn R ch [] w)))))
set_option maxRecDepth 100000 in
theorem sh270_ok (key_1 : Int) (x2 : Addr) (x3 : Addr) (x4 : Addr) {R : Ending → World → Prop} {w : World} : sh270 key_1 x2 x3 x4 R w → Calls Tryz.prog 270 #[.int .i64 key_1, .pointer (some x2), .pointer (some x3), .pointer (some x4)] w R :=
  Old.calls_of_eq (ann := fun _ => []) (fn := Tryz.f270) (c := bodyOf Tryz.f270) (args := #[.int .i64 key_1, .pointer (some x2), .pointer (some x3), .pointer (some x4)]) 400 follows_mixed Tryz.func270 (by kernel_rfl) (by kernel_rfl)
set_option maxRecDepth 100000 in
/-- joinery/sound.beads$1$1$2 -/
def sh271 (key_1 : Int) (x2 : Addr) (x3 : Addr) (x4 : Addr) (R : Ending → World → Prop) (w : World) : Prop :=
 let K7 : Bool → World → Prop := fun (x5 : Bool) (w6 : World) => 
 R (.returned (.bool x5)) w6
 doDr w (fun w9 =>
 ∃ (C8 : World → Prop), C8 w9 ∧ (
 ∃ (xf10 : Fn), ∃ (xx11 : Array Value), ∃ (xc12 : Array Value), (∀ w, C8 w → World.cell? w x2 = some (.func xf10 xx11 xc12)) ∧ (
 doCall Tryz.prog (.func xf10 xx11 xc12) #[.int .i64 key_1] w9 (retS (fun v14 w15 => ∃ (x13 : Bool), v14 = (.bool x13 : Value) ∧ (
 C8 w15 ∧ (
 ifB x13 (
 ∃ (x16 : Int), (∀ w, C8 w → World.cell? w x3 = some (.int .u8 x16)) ∧ (
 ∃ (x17 : Option Addr), (∀ w, C8 w → World.cell? w x4 = some (.pointer x17)) ∧ (
 doCall Tryz.prog (.func (.func 131) #[] #[]) #[.pointer x17] w15 (retS (fun v19 w20 => ∃ (x18 : Int), v19 = (.int .i64 x18 : Value) ∧ (
 C8 w20 ∧ (
 doCall Tryz.prog (.func (.func 64) #[] #[]) #[.int .u8 x16, .int .i64 key_1, .int .i64 x18] w20 (retS (fun v22 w23 => ∃ (x21 : Int), v22 = (.int .i64 x21 : Value) ∧ (
 C8 w23 ∧ (
 K7 (decide ((x21 : Int) > 0)) w23))) (fun ch w => Kfn R ch [] w))))) (fun ch w => Kfn R ch [] w))))) (
 R (.returned (.bool false)) w15)))) (fun ch w => Kfn R ch [] w)))))
set_option maxRecDepth 100000 in
theorem sh271_ok (key_1 : Int) (x2 : Addr) (x3 : Addr) (x4 : Addr) {R : Ending → World → Prop} {w : World} : sh271 key_1 x2 x3 x4 R w → Calls Tryz.prog 271 #[.int .i64 key_1, .pointer (some x2), .pointer (some x3), .pointer (some x4)] w R :=
  Old.calls_of_eq (ann := fun _ => []) (fn := Tryz.f271) (c := bodyOf Tryz.f271) (args := #[.int .i64 key_1, .pointer (some x2), .pointer (some x3), .pointer (some x4)]) 400 follows_mixed Tryz.func271 (by kernel_rfl) (by kernel_rfl)
set_option maxRecDepth 100000 in
/-- joinery/sound.beads$1$2 -/
def sh272 (_x1 : Int) (R : Ending → World → Prop) (w : World) : Prop :=
 R (.returned (.bool true)) w
set_option maxRecDepth 100000 in
theorem sh272_ok (x1 : Int) {R : Ending → World → Prop} {w : World} : sh272 x1 R w → Calls Tryz.prog 272 #[.int .i64 x1] w R :=
  Old.calls_of_eq (ann := fun _ => []) (fn := Tryz.f272) (c := bodyOf Tryz.f272) (args := #[.int .i64 x1]) 400 follows_mixed Tryz.func272 (by kernel_rfl) (by kernel_rfl)
set_option maxRecDepth 100000 in
/-- joinery/treap.Check$1 -/
def sh273 (n_1 : Option Addr) (x2 : Addr) (x3 : Addr) (R : Ending → World → Prop) (w : World) : Prop :=
 ifB ((n_1).isNone) (
 R (.returned (.bool true)) w) (
 let K6 : Bool → World → Prop := fun (x4 : Bool) (w5 : World) => 
 ifB x4 (
 R (.returned (.bool false)) w5) (
 ∃ (x7 : Int), World.cell? w5 x2 = some (.int .i64 x7) ∧ (
 doSt (x2.add 0) (.int .i64 (IntKind.wrap .i64 (x7 + 1))) w5 (fun w8 =>
 let K11 : Bool → World → Prop := fun (x9 : Bool) (w10 : World) => 
 R (.returned (.bool x9)) w10
 doDr w8 (fun w13 =>
 ∃ (C12 : World → Prop), C12 w13 ∧ (
 ∃ (xf14 : Fn), ∃ (xx15 : Array Value), ∃ (xc16 : Array Value), (∀ w, C12 w → World.cell? w x3 = some (.func xf14 xx15 xc16)) ∧ (
 doCall Tryz.prog (.func (.func 128) #[] #[]) #[.pointer n_1] w13 (retS (fun v18 w19 => ∃ (x17 : Option Addr), v18 = (.pointer x17 : Value) ∧ (
 C12 w19 ∧ (
 doCall Tryz.prog (.func xf14 xx15 xc16) #[.pointer x17] w19 (retS (fun v21 w22 => ∃ (x20 : Bool), v21 = (.bool x20 : Value) ∧ (
 C12 w22 ∧ (
 ifB x20 (
 ∃ (xf23 : Fn), ∃ (xx24 : Array Value), ∃ (xc25 : Array Value), (∀ w, C12 w → World.cell? w x3 = some (.func xf23 xx24 xc25)) ∧ (
 doCall Tryz.prog (.func (.func 130) #[] #[]) #[.pointer n_1] w22 (retS (fun v27 w28 => ∃ (x26 : Option Addr), v27 = (.pointer x26 : Value) ∧ (
 C12 w28 ∧ (
 doCall Tryz.prog (.func xf23 xx24 xc25) #[.pointer x26] w28 (retS (fun v30 w31 => ∃ (x29 : Bool), v30 = (.bool x29 : Value) ∧ (
 C12 w31 ∧ (
 K11 x29 w31))) (fun ch w => Kfn R ch [] w))))) (fun ch w => Kfn R ch [] w)))) (
 R (.returned (.bool false)) w22)))) (fun ch w => Kfn R ch [] w))))) (fun ch w => Kfn R ch [] w))))))))
 doCall Tryz.prog (.func (.func 128) #[] #[]) #[.pointer n_1] w (retS (fun v33 w34 => ∃ (x32 : Option Addr), v33 = (.pointer x32 : Value) ∧ (
 doCall Tryz.prog (.func (.func 274) #[] #[]) #[.pointer x32, .pointer n_1] w34 (retS (fun v36 w37 => ∃ (x35 : Bool), v36 = (.bool x35 : Value) ∧ (
 ifB x35 (
 R (.returned (.bool false)) w37) (
 doCall Tryz.prog (.func (.func 130) #[] #[]) #[.pointer n_1] w37 (retS (fun v39 w40 => ∃ (x38 : Option Addr), v39 = (.pointer x38 : Value) ∧ (
 doCall Tryz.prog (.func (.func 274) #[] #[]) #[.pointer x38, .pointer n_1] w40 (retS (fun v42 w43 => ∃ (x41 : Bool), v42 = (.bool x41 : Value) ∧ (
 K6 x41 w43)) (fun ch w => Kfn R ch [] w)))) (fun ch w => Kfn R ch [] w))))) (fun ch w => Kfn R ch [] w)))) (fun ch w => Kfn R ch [] w)))
set_option maxRecDepth 100000 in
theorem sh273_ok (n_1 : Option Addr) (x2 : Addr) (x3 : Addr) {R : Ending → World → Prop} {w : World} : sh273 n_1 x2 x3 R w → Calls Tryz.prog 273 #[.pointer n_1, .pointer (some x2), .pointer (some x3)] w R :=
  Old.calls_of_eq (ann := fun _ => []) (fn := Tryz.f273) (c := bodyOf Tryz.f273) (args := #[.pointer n_1, .pointer (some x2), .pointer (some x3)]) 400 follows_mixed Tryz.func273 (by kernel_rfl) (by kernel_rfl)
end Go.Proofs.YtlfjaogbehpleaaGreat

