/-
  Printed by a program (gen.py): what the functions of the program do, as formulas; each with the proof that its call is what the formula says.
-/
import Derived.Test.YtmkpkmdnapccgaaGreatDoorZ04
import Derived.Test.YtmkpkmdnapccgaaGreatDoorProg

set_option maxRecDepth 100000
set_option maxHeartbeats 6400000
namespace Go.Proofs.YtmkpkmdnapccgaaGreatDoor
open Go Go.Sh
theorem follows_mixed : Tryz.prog.follows .mixedOrders = true := by kernel_rfl
theorem ceq {f : FuncId} {fn : Func} {args : Array Value} {w : World} {R : EW} {X : Prop} (hf : Tryz.prog.funcs[f]? = some fn) (hb : fn.body = some (bodyOf fn)) (e : Old.ev Tryz.prog (fun _ => []) none (Kfn R) 400 0 (bodyOf fn) (Qfn Tryz.prog fn R) { tmps := args ++ Array.replicate (fn.ntmps - args.size) undef, defers := [] } w = X) : X → Calls Tryz.prog f args w R := Old.calls_of_eq 400 follows_mixed hf hb e
abbrev kN (R : EW) : List PanicEntry → World → Prop := fun ch w => Kfn R ch [] w
def sh12 (a_p1 : OA) (a_n2 : Nat) (_a_c3 : Nat) (b_p4 : OA) (b_n5 : Nat) (_b_c6 : Nat) (R : EW) (w : World) : Prop :=
 ifB ((((a_n2 : Nat) : Int) : Int) != ((b_n5 : Nat) : Int)) (
 R (.returned (.bool false)) w) (
 ∃ (I7 : List Value → World → Prop) (μ8 : List Value → World → Nat), I7 [.int .i64 0] w ∧ (∀ (i_11 : Int), ∀ (_j9 : Nat → Value) (w10 : World), I7 [.int .i64 i_11] w10 → (
 ifB (decide ((i_11 : Int) < ((a_n2 : Nat) : Int))) (
 doDr w10 (fun w13 =>
 ∃ (C12 : World → Prop), C12 w13 ∧ (
 doIx a_p1 a_n2 15 (i_11) (fun a14 =>
 ∃ x15, (∀ w, C12 w → w.cell? (a14.add 0) = some (.int .u8 x15)) ∧ (
 ∃ x16, (∀ w, C12 w → w.cell? (a14.add 1) = some (.int .i64 x16)) ∧ (
 ∃ x17, (∀ w, C12 w → w.cell? (a14.add 2) = some (.int .i64 x17)) ∧ (
 ∃ x18, (∀ w, C12 w → w.cell? (a14.add 3) = some (.int .i64 x18)) ∧ (
 ∃ x19, (∀ w, C12 w → w.cell? (a14.add 4) = some (.int .i64 x19)) ∧ (
 ∃ x20, (∀ w, C12 w → w.cell? (a14.add 5) = some (.int .i64 x20)) ∧ (
 ∃ x21, (∀ w, C12 w → w.cell? (a14.add 6) = some (.int .i64 x21)) ∧ (
 ∃ x22, (∀ w, C12 w → w.cell? (a14.add 7) = some (.int .i64 x22)) ∧ (
 ∃ x23, (∀ w, C12 w → w.cell? (a14.add 8) = some (.int .u8 x23)) ∧ (
 ∃ x24, (∀ w, C12 w → w.cell? (a14.add 9) = some (.int .u8 x24)) ∧ (
 ∃ x25, (∀ w, C12 w → w.cell? (a14.add 10) = some (.int .i64 x25)) ∧ (
 ∃ x26, (∀ w, C12 w → w.cell? (a14.add 11) = some (.int .i64 x26)) ∧ (
 ∃ x27, (∀ w, C12 w → w.cell? (a14.add 12) = some (.bool x27)) ∧ (
 ∃ xp28 xn29 xc30, (∀ w, C12 w → w.cell? (a14.add 13) = some (.slice xp28 xn29 xc30)) ∧ (
 ∃ xp31 xn32 xc33, (∀ w, C12 w → w.cell? (a14.add 14) = some (.slice xp31 xn32 xc33)) ∧ (
 doIx b_p4 b_n5 15 (i_11) (fun a34 =>
 ∃ x35, (∀ w, C12 w → w.cell? (a34.add 0) = some (.int .u8 x35)) ∧ (
 ∃ x36, (∀ w, C12 w → w.cell? (a34.add 1) = some (.int .i64 x36)) ∧ (
 ∃ x37, (∀ w, C12 w → w.cell? (a34.add 2) = some (.int .i64 x37)) ∧ (
 ∃ x38, (∀ w, C12 w → w.cell? (a34.add 3) = some (.int .i64 x38)) ∧ (
 ∃ x39, (∀ w, C12 w → w.cell? (a34.add 4) = some (.int .i64 x39)) ∧ (
 ∃ x40, (∀ w, C12 w → w.cell? (a34.add 5) = some (.int .i64 x40)) ∧ (
 ∃ x41, (∀ w, C12 w → w.cell? (a34.add 6) = some (.int .i64 x41)) ∧ (
 ∃ x42, (∀ w, C12 w → w.cell? (a34.add 7) = some (.int .i64 x42)) ∧ (
 ∃ x43, (∀ w, C12 w → w.cell? (a34.add 8) = some (.int .u8 x43)) ∧ (
 ∃ x44, (∀ w, C12 w → w.cell? (a34.add 9) = some (.int .u8 x44)) ∧ (
 ∃ x45, (∀ w, C12 w → w.cell? (a34.add 10) = some (.int .i64 x45)) ∧ (
 ∃ x46, (∀ w, C12 w → w.cell? (a34.add 11) = some (.int .i64 x46)) ∧ (
 ∃ x47, (∀ w, C12 w → w.cell? (a34.add 12) = some (.bool x47)) ∧ (
 ∃ xp48 xn49 xc50, (∀ w, C12 w → w.cell? (a34.add 13) = some (.slice xp48 xn49 xc50)) ∧ (
 ∃ xp51 xn52 xc53, (∀ w, C12 w → w.cell? (a34.add 14) = some (.slice xp51 xn52 xc53)) ∧ (
 doCall Tryz.prog (.func (.func 17) #[] #[]) #[.agg #[.int .u8 x15, .int .i64 x16, .int .i64 x17, .int .i64 x18, .int .i64 x19, .int .i64 x20, .int .i64 x21, .int .i64 x22, .int .u8 x23, .int .u8 x24, .int .i64 x25, .int .i64 x26, .bool x27, .slice xp28 xn29 xc30, .slice xp31 xn32 xc33], .agg #[.int .u8 x35, .int .i64 x36, .int .i64 x37, .int .i64 x38, .int .i64 x39, .int .i64 x40, .int .i64 x41, .int .i64 x42, .int .u8 x43, .int .u8 x44, .int .i64 x45, .int .i64 x46, .bool x47, .slice xp48 xn49 xc50, .slice xp51 xn52 xc53]] w13 (retS (fun v55 w56 => ∃ x54, v55 = (.bool x54 : Value) ∧ (
 ifB (!x54) (
 R (.returned (.bool false)) w56) (
 I7 [.int .i64 (IntKind.wrap .i64 (i_11 + 1))] w56 ∧ μ8 [.int .i64 (IntKind.wrap .i64 (i_11 + 1))] w56 < μ8 [.int .i64 i_11] w10))) (kN R))))))))))))))))))))))))))))))))))))) (
 R (.returned (.bool true)) w10))))
theorem sh12_ok (a_p1 : OA) (a_n2 : Nat) (a_c3 : Nat) (b_p4 : OA) (b_n5 : Nat) (b_c6 : Nat) {R : EW} {w : World} : sh12 a_p1 a_n2 a_c3 b_p4 b_n5 b_c6 R w → Calls Tryz.prog 12 #[.slice a_p1 a_n2 a_c3, .slice b_p4 b_n5 b_c6] w R :=
  Old.calls_of_eq (ann := fun i => if i = 0 then [(5, .int .i64 0)] else []) (fn := Tryz.f12) (c := bodyOf Tryz.f12) (args := #[.slice a_p1 a_n2 a_c3, .slice b_p4 b_n5 b_c6]) 400 follows_mixed Tryz.func12 (by kernel_rfl) (by kernel_rfl)
def sh13 (x_1 : Int) (x_2 : Int) (x_3 : Int) (x_4 : Int) (x_5 : Int) (x_6 : Int) (x_7 : Int) (x_8 : Int) (x_9 : Int) (x_10 : Int) (x_11 : Int) (x_12 : Int) (x_13 : Bool) (x_p14 : OA) (x_n15 : Nat) (x_c16 : Nat) (x_p17 : OA) (x_n18 : Nat) (x_c19 : Nat) (R : EW) (w : World) : Prop :=
 doAl (.cells #[.int .u8 x_1, .int .i64 x_2, .int .i64 x_3, .int .i64 x_4, .int .i64 x_5, .int .i64 x_6, .int .i64 x_7, .int .i64 x_8, .int .u8 x_9, .int .u8 x_10, .int .i64 x_11, .int .i64 x_12, .bool x_13, .slice x_p14 x_n15 x_c16, .slice x_p17 x_n18 x_c19] 37) w (fun b20 w21 =>
 ∃ x22, w21.cell? ((blk b20).add 0) = some (.int .u8 x22) ∧ (
 ∃ x23, w21.cell? ((blk b20).add 1) = some (.int .i64 x23) ∧ (
 ∃ x24, w21.cell? ((blk b20).add 2) = some (.int .i64 x24) ∧ (
 ∃ x25, w21.cell? ((blk b20).add 3) = some (.int .i64 x25) ∧ (
 ∃ x26, w21.cell? ((blk b20).add 4) = some (.int .i64 x26) ∧ (
 ∃ x27, w21.cell? ((blk b20).add 5) = some (.int .i64 x27) ∧ (
 ∃ x28, w21.cell? ((blk b20).add 6) = some (.int .i64 x28) ∧ (
 ∃ x29, w21.cell? ((blk b20).add 7) = some (.int .i64 x29) ∧ (
 ∃ x30, w21.cell? ((blk b20).add 8) = some (.int .u8 x30) ∧ (
 ∃ x31, w21.cell? ((blk b20).add 9) = some (.int .u8 x31) ∧ (
 ∃ x32, w21.cell? ((blk b20).add 10) = some (.int .i64 x32) ∧ (
 ∃ x33, w21.cell? ((blk b20).add 11) = some (.int .i64 x33) ∧ (
 ∃ x34, w21.cell? ((blk b20).add 12) = some (.bool x34) ∧ (
 ∃ xp35 xn36 xc37, w21.cell? ((blk b20).add 13) = some (.slice xp35 xn36 xc37) ∧ (
 ∃ xp38 xn39 xc40, w21.cell? ((blk b20).add 14) = some (.slice xp38 xn39 xc40) ∧ (
 doCall Tryz.prog (.func (.func 25) #[] #[]) #[.agg #[.int .u8 x22, .int .i64 x23, .int .i64 x24, .int .i64 x25, .int .i64 x26, .int .i64 x27, .int .i64 x28, .int .i64 x29, .int .u8 x30, .int .u8 x31, .int .i64 x32, .int .i64 x33, .bool x34, .slice xp35 xn36 xc37, .slice xp38 xn39 xc40]] w21 (retS (fun v61 w62 => ∃ x41 x42 x43 x44 x45 x46 x47 x48 x49 x50 x51 x52 x53 xp54 xn55 xc56 xp57 xn58 xc59 x60, v61 = (.tuple #[.agg #[.int .u8 x41, .int .i64 x42, .int .i64 x43, .int .i64 x44, .int .i64 x45, .int .i64 x46, .int .i64 x47, .int .i64 x48, .int .u8 x49, .int .u8 x50, .int .i64 x51, .int .i64 x52, .bool x53, .slice xp54 xn55 xc56, .slice xp57 xn58 xc59], .bool x60] : Value) ∧ (
 doAl (.cells #[.int .u8 0, .int .i64 0, .int .i64 0, .int .i64 0, .int .i64 0, .int .i64 0, .int .i64 0, .int .i64 0, .int .u8 0, .int .u8 0, .int .i64 0, .int .i64 0, .bool false, .slice none 0 0, .slice none 0 0] 37) w62 (fun b63 w64 =>
 doSt ((blk b63).add 0) (.int .u8 x41) w64 (fun w65 =>
 doSt ((blk b63).add 1) (.int .i64 x42) w65 (fun w66 =>
 doSt ((blk b63).add 2) (.int .i64 x43) w66 (fun w67 =>
 doSt ((blk b63).add 3) (.int .i64 x44) w67 (fun w68 =>
 doSt ((blk b63).add 4) (.int .i64 x45) w68 (fun w69 =>
 doSt ((blk b63).add 5) (.int .i64 x46) w69 (fun w70 =>
 doSt ((blk b63).add 6) (.int .i64 x47) w70 (fun w71 =>
 doSt ((blk b63).add 7) (.int .i64 x48) w71 (fun w72 =>
 doSt ((blk b63).add 8) (.int .u8 x49) w72 (fun w73 =>
 doSt ((blk b63).add 9) (.int .u8 x50) w73 (fun w74 =>
 doSt ((blk b63).add 10) (.int .i64 x51) w74 (fun w75 =>
 doSt ((blk b63).add 11) (.int .i64 x52) w75 (fun w76 =>
 doSt ((blk b63).add 12) (.bool x53) w76 (fun w77 =>
 doSt ((blk b63).add 13) (.slice xp54 xn55 xc56) w77 (fun w78 =>
 doSt ((blk b63).add 14) (.slice xp57 xn58 xc59) w78 (fun w79 =>
 let K82 : Bool → World → Prop := fun policy_80 w81 => 
 let K84 : World → Prop := fun w83 => 
 R (.returned (.int .i64 0)) w83
 let K87 : Bool → World → Prop := fun x85 w86 => 
 ifB x85 (
 R (.returned (.int .i64 2)) w86) (
 K84 w86)
 ifB (!x60) (
 R (.returned (.int .i64 2)) w81) (
 ∃ x88, w81.cell? ((blk b20).add 0) = some (.int .u8 x88) ∧ (
 ifB (decide ((x88 : Int) < 1)) (
 R (.returned (.int .i64 2)) w81) (
 ∃ x89, w81.cell? ((blk b20).add 0) = some (.int .u8 x89) ∧ (
 ifB (decide ((x89 : Int) > 22)) (
 R (.returned (.int .i64 2)) w81) (
 ∃ x90, w81.cell? ((blk b20).add 0) = some (.int .u8 x90) ∧ (
 ∃ x91, w81.cell? ((blk b20).add 1) = some (.int .i64 x91) ∧ (
 ∃ x92, w81.cell? ((blk b20).add 2) = some (.int .i64 x92) ∧ (
 ∃ x93, w81.cell? ((blk b20).add 3) = some (.int .i64 x93) ∧ (
 ∃ x94, w81.cell? ((blk b20).add 4) = some (.int .i64 x94) ∧ (
 ∃ x95, w81.cell? ((blk b20).add 5) = some (.int .i64 x95) ∧ (
 ∃ x96, w81.cell? ((blk b20).add 6) = some (.int .i64 x96) ∧ (
 ∃ x97, w81.cell? ((blk b20).add 7) = some (.int .i64 x97) ∧ (
 ∃ x98, w81.cell? ((blk b20).add 8) = some (.int .u8 x98) ∧ (
 ∃ x99, w81.cell? ((blk b20).add 9) = some (.int .u8 x99) ∧ (
 ∃ x100, w81.cell? ((blk b20).add 10) = some (.int .i64 x100) ∧ (
 ∃ x101, w81.cell? ((blk b20).add 11) = some (.int .i64 x101) ∧ (
 ∃ x102, w81.cell? ((blk b20).add 12) = some (.bool x102) ∧ (
 ∃ xp103 xn104 xc105, w81.cell? ((blk b20).add 13) = some (.slice xp103 xn104 xc105) ∧ (
 ∃ xp106 xn107 xc108, w81.cell? ((blk b20).add 14) = some (.slice xp106 xn107 xc108) ∧ (
 ∃ x109, w81.cell? ((blk b63).add 0) = some (.int .u8 x109) ∧ (
 ∃ x110, w81.cell? ((blk b63).add 1) = some (.int .i64 x110) ∧ (
 ∃ x111, w81.cell? ((blk b63).add 2) = some (.int .i64 x111) ∧ (
 ∃ x112, w81.cell? ((blk b63).add 3) = some (.int .i64 x112) ∧ (
 ∃ x113, w81.cell? ((blk b63).add 4) = some (.int .i64 x113) ∧ (
 ∃ x114, w81.cell? ((blk b63).add 5) = some (.int .i64 x114) ∧ (
 ∃ x115, w81.cell? ((blk b63).add 6) = some (.int .i64 x115) ∧ (
 ∃ x116, w81.cell? ((blk b63).add 7) = some (.int .i64 x116) ∧ (
 ∃ x117, w81.cell? ((blk b63).add 8) = some (.int .u8 x117) ∧ (
 ∃ x118, w81.cell? ((blk b63).add 9) = some (.int .u8 x118) ∧ (
 ∃ x119, w81.cell? ((blk b63).add 10) = some (.int .i64 x119) ∧ (
 ∃ x120, w81.cell? ((blk b63).add 11) = some (.int .i64 x120) ∧ (
 ∃ x121, w81.cell? ((blk b63).add 12) = some (.bool x121) ∧ (
 ∃ xp122 xn123 xc124, w81.cell? ((blk b63).add 13) = some (.slice xp122 xn123 xc124) ∧ (
 ∃ xp125 xn126 xc127, w81.cell? ((blk b63).add 14) = some (.slice xp125 xn126 xc127) ∧ (
 doCall Tryz.prog (.func (.func 26) #[] #[]) #[.agg #[.int .u8 x90, .int .i64 x91, .int .i64 x92, .int .i64 x93, .int .i64 x94, .int .i64 x95, .int .i64 x96, .int .i64 x97, .int .u8 x98, .int .u8 x99, .int .i64 x100, .int .i64 x101, .bool x102, .slice xp103 xn104 xc105, .slice xp106 xn107 xc108], .agg #[.int .u8 x109, .int .i64 x110, .int .i64 x111, .int .i64 x112, .int .i64 x113, .int .i64 x114, .int .i64 x115, .int .i64 x116, .int .u8 x117, .int .u8 x118, .int .i64 x119, .int .i64 x120, .bool x121, .slice xp122 xn123 xc124, .slice xp125 xn126 xc127]] w81 (retS (fun v129 w130 => ∃ x128, v129 = (.bool x128 : Value) ∧ (
 ifB (!x128) (
 R (.returned (.int .i64 2)) w130) (
 ifB policy_80 (
 ∃ x131, w130.cell? ((blk b20).add 8) = some (.int .u8 x131) ∧ (
 doCall Tryz.prog (.func (.func 27) #[] #[]) #[.int .u8 x131] w130 (retS (fun v133 w134 => ∃ x132, v133 = (.bool x132 : Value) ∧ (
 ifB (!x132) (
 R (.returned (.int .i64 2)) w134) (
 ∃ x135, w134.cell? ((blk b20).add 0) = some (.int .u8 x135) ∧ (
 ifB ((x135 : Int) == 13) (
 ∃ x136, w134.cell? (((blk b20).add 9).add 0) = some (.int .u8 x136) ∧ (
 ∃ x137, w134.cell? (((blk b20).add 9).add 1) = some (.int .i64 x137) ∧ (
 ∃ x138, w134.cell? (((blk b20).add 9).add 2) = some (.int .i64 x138) ∧ (
 ∃ x139, w134.cell? (((blk b20).add 9).add 3) = some (.bool x139) ∧ (
 doCall Tryz.prog (.func (.func 28) #[] #[]) #[.agg #[.int .u8 x136, .int .i64 x137, .int .i64 x138, .bool x139]] w134 (retS (fun v141 w142 => ∃ x140, v141 = (.bool x140 : Value) ∧ (
 K87 (!x140) w142)) (kN R))))))) (
 K84 w134))))) (kN R)))) (
 ∃ x143, w130.cell? ((blk b20).add 0) = some (.int .u8 x143) ∧ (
 ifB ((x143 : Int) == 13) (
 ∃ x144, w130.cell? (((blk b20).add 9).add 0) = some (.int .u8 x144) ∧ (
 ∃ x145, w130.cell? (((blk b20).add 9).add 1) = some (.int .i64 x145) ∧ (
 ∃ x146, w130.cell? (((blk b20).add 9).add 2) = some (.int .i64 x146) ∧ (
 ∃ x147, w130.cell? (((blk b20).add 9).add 3) = some (.bool x147) ∧ (
 doCall Tryz.prog (.func (.func 28) #[] #[]) #[.agg #[.int .u8 x144, .int .i64 x145, .int .i64 x146, .bool x147]] w130 (retS (fun v149 w150 => ∃ x148, v149 = (.bool x148 : Value) ∧ (
 K87 (!x148) w150)) (kN R))))))) (
 K84 w130)))))) (kN R)))))))))))))))))))))))))))))))))))))
 ∃ x151, w79.cell? ((blk b20).add 0) = some (.int .u8 x151) ∧ (
 ifB ((x151 : Int) == 1) (
 K82 true w79) (
 ∃ x152, w79.cell? ((blk b20).add 0) = some (.int .u8 x152) ∧ (
 ifB ((x152 : Int) == 8) (
 K82 true w79) (
 ∃ x153, w79.cell? ((blk b20).add 0) = some (.int .u8 x153) ∧ (
 ifB ((x153 : Int) == 9) (
 K82 true w79) (
 ∃ x154, w79.cell? ((blk b20).add 0) = some (.int .u8 x154) ∧ (
 ifB ((x154 : Int) == 10) (
 K82 true w79) (
 ∃ x155, w79.cell? ((blk b20).add 0) = some (.int .u8 x155) ∧ (
 K82 ((x155 : Int) == 14) w79))))))))))))))))))))))))))) (kN R))))))))))))))))))
theorem sh13_ok (x_1 : Int) (x_2 : Int) (x_3 : Int) (x_4 : Int) (x_5 : Int) (x_6 : Int) (x_7 : Int) (x_8 : Int) (x_9 : Int) (x_10 : Int) (x_11 : Int) (x_12 : Int) (x_13 : Bool) (x_p14 : OA) (x_n15 : Nat) (x_c16 : Nat) (x_p17 : OA) (x_n18 : Nat) (x_c19 : Nat) {R : EW} {w : World} : sh13 x_1 x_2 x_3 x_4 x_5 x_6 x_7 x_8 x_9 x_10 x_11 x_12 x_13 x_p14 x_n15 x_c16 x_p17 x_n18 x_c19 R w → Calls Tryz.prog 13 #[.agg #[.int .u8 x_1, .int .i64 x_2, .int .i64 x_3, .int .i64 x_4, .int .i64 x_5, .int .i64 x_6, .int .i64 x_7, .int .i64 x_8, .int .u8 x_9, .int .u8 x_10, .int .i64 x_11, .int .i64 x_12, .bool x_13, .slice x_p14 x_n15 x_c16, .slice x_p17 x_n18 x_c19]] w R :=
  ceq Tryz.func13 (by kernel_rfl) (by kernel_rfl)
def sh17 (a_1 : Int) (a_2 : Int) (a_3 : Int) (a_4 : Int) (a_5 : Int) (a_6 : Int) (a_7 : Int) (a_8 : Int) (a_9 : Int) (a_10 : Int) (a_11 : Int) (a_12 : Int) (a_13 : Bool) (a_p14 : OA) (a_n15 : Nat) (a_c16 : Nat) (a_p17 : OA) (a_n18 : Nat) (a_c19 : Nat) (b_20 : Int) (b_21 : Int) (b_22 : Int) (b_23 : Int) (b_24 : Int) (b_25 : Int) (b_26 : Int) (b_27 : Int) (b_28 : Int) (b_29 : Int) (b_30 : Int) (b_31 : Int) (b_32 : Bool) (b_p33 : OA) (b_n34 : Nat) (b_c35 : Nat) (b_p36 : OA) (b_n37 : Nat) (b_c38 : Nat) (R : EW) (w : World) : Prop :=
 doAl (.cells #[.int .u8 a_1, .int .i64 a_2, .int .i64 a_3, .int .i64 a_4, .int .i64 a_5, .int .i64 a_6, .int .i64 a_7, .int .i64 a_8, .int .u8 a_9, .int .u8 a_10, .int .i64 a_11, .int .i64 a_12, .bool a_13, .slice a_p14 a_n15 a_c16, .slice a_p17 a_n18 a_c19] 37) w (fun b39 w40 =>
 doAl (.cells #[.int .u8 b_20, .int .i64 b_21, .int .i64 b_22, .int .i64 b_23, .int .i64 b_24, .int .i64 b_25, .int .i64 b_26, .int .i64 b_27, .int .u8 b_28, .int .u8 b_29, .int .i64 b_30, .int .i64 b_31, .bool b_32, .slice b_p33 b_n34 b_c35, .slice b_p36 b_n37 b_c38] 37) w40 (fun b41 w42 =>
 let K45 : Bool → World → Prop := fun x43 w44 => 
 R (.returned (.bool x43)) w44
 ∃ x46, w42.cell? ((blk b39).add 0) = some (.int .u8 x46) ∧ (
 ∃ x47, w42.cell? ((blk b41).add 0) = some (.int .u8 x47) ∧ (
 ifB ((x46 : Int) == x47) (
 ∃ x48, w42.cell? ((blk b39).add 1) = some (.int .i64 x48) ∧ (
 ∃ x49, w42.cell? ((blk b41).add 1) = some (.int .i64 x49) ∧ (
 ifB ((x48 : Int) == x49) (
 ∃ x50, w42.cell? ((blk b39).add 2) = some (.int .i64 x50) ∧ (
 ∃ x51, w42.cell? ((blk b41).add 2) = some (.int .i64 x51) ∧ (
 ifB ((x50 : Int) == x51) (
 ∃ x52, w42.cell? ((blk b39).add 3) = some (.int .i64 x52) ∧ (
 ∃ x53, w42.cell? ((blk b41).add 3) = some (.int .i64 x53) ∧ (
 ifB ((x52 : Int) == x53) (
 ∃ x54, w42.cell? ((blk b39).add 4) = some (.int .i64 x54) ∧ (
 ∃ x55, w42.cell? ((blk b41).add 4) = some (.int .i64 x55) ∧ (
 ifB ((x54 : Int) == x55) (
 ∃ x56, w42.cell? ((blk b39).add 5) = some (.int .i64 x56) ∧ (
 ∃ x57, w42.cell? ((blk b41).add 5) = some (.int .i64 x57) ∧ (
 ifB ((x56 : Int) == x57) (
 ∃ x58, w42.cell? ((blk b39).add 6) = some (.int .i64 x58) ∧ (
 ∃ x59, w42.cell? ((blk b41).add 6) = some (.int .i64 x59) ∧ (
 ifB ((x58 : Int) == x59) (
 ∃ x60, w42.cell? ((blk b39).add 7) = some (.int .i64 x60) ∧ (
 ∃ x61, w42.cell? ((blk b41).add 7) = some (.int .i64 x61) ∧ (
 ifB ((x60 : Int) == x61) (
 ∃ x62, w42.cell? ((blk b39).add 8) = some (.int .u8 x62) ∧ (
 ∃ x63, w42.cell? ((blk b41).add 8) = some (.int .u8 x63) ∧ (
 ifB ((x62 : Int) == x63) (
 ∃ x64, w42.cell? (((blk b39).add 9).add 0) = some (.int .u8 x64) ∧ (
 ∃ x65, w42.cell? (((blk b39).add 9).add 1) = some (.int .i64 x65) ∧ (
 ∃ x66, w42.cell? (((blk b39).add 9).add 2) = some (.int .i64 x66) ∧ (
 ∃ x67, w42.cell? (((blk b39).add 9).add 3) = some (.bool x67) ∧ (
 ∃ x68, w42.cell? (((blk b41).add 9).add 0) = some (.int .u8 x68) ∧ (
 ∃ x69, w42.cell? (((blk b41).add 9).add 1) = some (.int .i64 x69) ∧ (
 ∃ x70, w42.cell? (((blk b41).add 9).add 2) = some (.int .i64 x70) ∧ (
 ∃ x71, w42.cell? (((blk b41).add 9).add 3) = some (.bool x71) ∧ (
 ifB (((x64 : Int) == x68) && (((x65 : Int) == x69) && (((x66 : Int) == x70) && ((x67 == x71) && true)))) (
 ∃ xp72 xn73 xc74, w42.cell? ((blk b39).add 13) = some (.slice xp72 xn73 xc74) ∧ (
 ∃ xp75 xn76 xc77, w42.cell? ((blk b41).add 13) = some (.slice xp75 xn76 xc77) ∧ (
 doCall Tryz.prog (.func (.func 38) #[] #[]) #[.slice xp72 xn73 xc74, .slice xp75 xn76 xc77] w42 (retS (fun v79 w80 => ∃ x78, v79 = (.bool x78 : Value) ∧ (
 ifB x78 (
 ∃ xp81 xn82 xc83, w80.cell? ((blk b39).add 14) = some (.slice xp81 xn82 xc83) ∧ (
 ∃ xp84 xn85 xc86, w80.cell? ((blk b41).add 14) = some (.slice xp84 xn85 xc86) ∧ (
 doCall Tryz.prog (.func (.func 39) #[] #[]) #[.slice xp81 xn82 xc83, .slice xp84 xn85 xc86] w80 (retS (fun v88 w89 => ∃ x87, v88 = (.bool x87 : Value) ∧ (
 K45 x87 w89)) (kN R))))) (
 R (.returned (.bool false)) w80))) (kN R))))) (
 R (.returned (.bool false)) w42)))))))))) (
 R (.returned (.bool false)) w42)))) (
 R (.returned (.bool false)) w42)))) (
 R (.returned (.bool false)) w42)))) (
 R (.returned (.bool false)) w42)))) (
 R (.returned (.bool false)) w42)))) (
 R (.returned (.bool false)) w42)))) (
 R (.returned (.bool false)) w42)))) (
 R (.returned (.bool false)) w42)))) (
 R (.returned (.bool false)) w42)))))
theorem sh17_ok (a_1 : Int) (a_2 : Int) (a_3 : Int) (a_4 : Int) (a_5 : Int) (a_6 : Int) (a_7 : Int) (a_8 : Int) (a_9 : Int) (a_10 : Int) (a_11 : Int) (a_12 : Int) (a_13 : Bool) (a_p14 : OA) (a_n15 : Nat) (a_c16 : Nat) (a_p17 : OA) (a_n18 : Nat) (a_c19 : Nat) (b_20 : Int) (b_21 : Int) (b_22 : Int) (b_23 : Int) (b_24 : Int) (b_25 : Int) (b_26 : Int) (b_27 : Int) (b_28 : Int) (b_29 : Int) (b_30 : Int) (b_31 : Int) (b_32 : Bool) (b_p33 : OA) (b_n34 : Nat) (b_c35 : Nat) (b_p36 : OA) (b_n37 : Nat) (b_c38 : Nat) {R : EW} {w : World} : sh17 a_1 a_2 a_3 a_4 a_5 a_6 a_7 a_8 a_9 a_10 a_11 a_12 a_13 a_p14 a_n15 a_c16 a_p17 a_n18 a_c19 b_20 b_21 b_22 b_23 b_24 b_25 b_26 b_27 b_28 b_29 b_30 b_31 b_32 b_p33 b_n34 b_c35 b_p36 b_n37 b_c38 R w → Calls Tryz.prog 17 #[.agg #[.int .u8 a_1, .int .i64 a_2, .int .i64 a_3, .int .i64 a_4, .int .i64 a_5, .int .i64 a_6, .int .i64 a_7, .int .i64 a_8, .int .u8 a_9, .int .u8 a_10, .int .i64 a_11, .int .i64 a_12, .bool a_13, .slice a_p14 a_n15 a_c16, .slice a_p17 a_n18 a_c19], .agg #[.int .u8 b_20, .int .i64 b_21, .int .i64 b_22, .int .i64 b_23, .int .i64 b_24, .int .i64 b_25, .int .i64 b_26, .int .i64 b_27, .int .u8 b_28, .int .u8 b_29, .int .i64 b_30, .int .i64 b_31, .bool b_32, .slice b_p33 b_n34 b_c35, .slice b_p36 b_n37 b_c38]] w R :=
  ceq Tryz.func17 (by kernel_rfl) (by kernel_rfl)
def sh23 (x_1 : OA) (c_t2 : TypeId) (c_v3 : Value) (R : EW) (w : World) : Prop :=
 doDr w (fun w4 =>
 ∃ q5, x_1 = some q5 ∧ (
 doNC Tryz.prog (.func (.method "joinery/op.word") #[.iface c_t2 c_v3] #[]) (
 doCall Tryz.prog (.func (.func 51) #[] #[]) #[] w4 (retS (fun v9 w10 => ∃ xp6 xn7 xc8, v9 = (.slice xp6 xn7 xc8 : Value) ∧ (
 doGo Tryz.prog (.fn (.method "joinery/op.word") #[]) #[.iface c_t2 c_v3, .pointer (some (q5.add 0)), .slice xp6 xn7 xc8] w10 (retS (fun v11 w12 => v11 = (.tuple #[] : Value) ∧ (
 doCall Tryz.prog (.func (.func 52) #[] #[]) #[.agg #[.pointer x_1, .iface c_t2 c_v3]] w12 (retS (fun v16 w17 => ∃ xp13 xn14 xc15, v16 = (.slice xp13 xn14 xc15 : Value) ∧ (
 ∃ (I18 : List Value → World → Prop) (μ19 : List Value → World → Nat), I18 [.int .i64 0] w17 ∧ (∀ (x22 : Int), ∀ (_j20 : Nat → Value) (w21 : World), I18 [.int .i64 x22] w21 → (
 ifB (decide ((x22 : Int) < ((xn14 : Nat) : Int))) (
 doIx xp13 xn14 1 (x22) (fun a23 =>
 ∃ xf24 xx25 xc26, w21.cell? a23 = some (.func xf24 xx25 xc26) ∧ (
 doCall Tryz.prog (.func xf24 xx25 xc26) #[] w21 (retS (fun v27 w28 => v27 = (.tuple #[] : Value) ∧ (
 I18 [.int .i64 (IntKind.wrap .i64 (x22 + 1))] w28 ∧ μ19 [.int .i64 (IntKind.wrap .i64 (x22 + 1))] w28 < μ19 [.int .i64 x22] w21)) (kN R))))) (
 R (.returned (.tuple #[])) w21))))) (kN R)))) (kN R)))) (kN R)))))
theorem sh23_ok (x_1 : OA) (c_t2 : TypeId) (c_v3 : Value) {R : EW} {w : World} : sh23 x_1 c_t2 c_v3 R w → Calls Tryz.prog 23 #[.pointer x_1, .iface c_t2 c_v3] w R :=
  Old.calls_of_eq (ann := fun i => if i = 0 then [(20, .int .i64 0)] else []) (fn := Tryz.f23) (c := bodyOf Tryz.f23) (args := #[.pointer x_1, .iface c_t2 c_v3]) 400 follows_mixed Tryz.func23 (by kernel_rfl) (by kernel_rfl)
def sh25 (x_1 : Int) (x_2 : Int) (x_3 : Int) (x_4 : Int) (x_5 : Int) (x_6 : Int) (x_7 : Int) (x_8 : Int) (x_9 : Int) (x_10 : Int) (x_11 : Int) (x_12 : Int) (x_13 : Bool) (x_p14 : OA) (x_n15 : Nat) (x_c16 : Nat) (x_p17 : OA) (x_n18 : Nat) (x_c19 : Nat) (R : EW) (w : World) : Prop :=
 doAl (.cells #[.int .u8 x_1, .int .i64 x_2, .int .i64 x_3, .int .i64 x_4, .int .i64 x_5, .int .i64 x_6, .int .i64 x_7, .int .i64 x_8, .int .u8 x_9, .int .u8 x_10, .int .i64 x_11, .int .i64 x_12, .bool x_13, .slice x_p14 x_n15 x_c16, .slice x_p17 x_n18 x_c19] 37) w (fun b20 w21 =>
 doAl (.cells #[.int .u8 0, .int .i64 0, .int .i64 0, .int .i64 0, .int .i64 0, .int .i64 0, .int .i64 0, .int .i64 0, .int .u8 0, .int .u8 0, .int .i64 0, .int .i64 0, .bool false, .slice none 0 0, .slice none 0 0] 37) w21 (fun b22 w23 =>
 doAl (.cells #[.bool false] 4) w23 (fun b24 w25 =>
 doAl (.cells #[.slice none 0 0] 53) w25 (fun b26 w27 =>
 doCall Tryz.prog (.func (.func 23) #[] #[]) #[.pointer (some (blk b20)), .iface 50 (.pointer (some (blk b26)))] w27 (retS (fun v28 w29 => v28 = (.tuple #[] : Value) ∧ (
 ∃ q30, (some (blk b26)) = some q30 ∧ (
 ∃ xp31 xn32 xc33, w29.cell? (q30.add 0) = some (.slice xp31 xn32 xc33) ∧ (
 doBs Tryz.prog 51 9 (.slice xp31 xn32 xc33) w29 (fun s34 =>
 doAl (.cells #[.string s34] 79) w29 (fun b35 w36 =>
 doCall Tryz.prog (.func (.func 23) #[] #[]) #[.pointer (some (blk b22)), .iface 77 (.pointer (some (blk b35)))] w36 (retS (fun v37 w38 => v37 = (.tuple #[] : Value) ∧ (
 ∃ x39, w38.cell? ((blk b22).add 0) = some (.int .u8 x39) ∧ (
 ∃ x40, w38.cell? ((blk b22).add 1) = some (.int .i64 x40) ∧ (
 ∃ x41, w38.cell? ((blk b22).add 2) = some (.int .i64 x41) ∧ (
 ∃ x42, w38.cell? ((blk b22).add 3) = some (.int .i64 x42) ∧ (
 ∃ x43, w38.cell? ((blk b22).add 4) = some (.int .i64 x43) ∧ (
 ∃ x44, w38.cell? ((blk b22).add 5) = some (.int .i64 x44) ∧ (
 ∃ x45, w38.cell? ((blk b22).add 6) = some (.int .i64 x45) ∧ (
 ∃ x46, w38.cell? ((blk b22).add 7) = some (.int .i64 x46) ∧ (
 ∃ x47, w38.cell? ((blk b22).add 8) = some (.int .u8 x47) ∧ (
 ∃ x48, w38.cell? ((blk b22).add 9) = some (.int .u8 x48) ∧ (
 ∃ x49, w38.cell? ((blk b22).add 10) = some (.int .i64 x49) ∧ (
 ∃ x50, w38.cell? ((blk b22).add 11) = some (.int .i64 x50) ∧ (
 ∃ x51, w38.cell? ((blk b22).add 12) = some (.bool x51) ∧ (
 ∃ xp52 xn53 xc54, w38.cell? ((blk b22).add 13) = some (.slice xp52 xn53 xc54) ∧ (
 ∃ xp55 xn56 xc57, w38.cell? ((blk b22).add 14) = some (.slice xp55 xn56 xc57) ∧ (
 doSt ((blk b22).add 0) (.int .u8 x39) w38 (fun w58 =>
 doSt ((blk b22).add 1) (.int .i64 x40) w58 (fun w59 =>
 doSt ((blk b22).add 2) (.int .i64 x41) w59 (fun w60 =>
 doSt ((blk b22).add 3) (.int .i64 x42) w60 (fun w61 =>
 doSt ((blk b22).add 4) (.int .i64 x43) w61 (fun w62 =>
 doSt ((blk b22).add 5) (.int .i64 x44) w62 (fun w63 =>
 doSt ((blk b22).add 6) (.int .i64 x45) w63 (fun w64 =>
 doSt ((blk b22).add 7) (.int .i64 x46) w64 (fun w65 =>
 doSt ((blk b22).add 8) (.int .u8 x47) w65 (fun w66 =>
 doSt ((blk b22).add 9) (.int .u8 x48) w66 (fun w67 =>
 doSt ((blk b22).add 10) (.int .i64 x49) w67 (fun w68 =>
 doSt ((blk b22).add 11) (.int .i64 x50) w68 (fun w69 =>
 doSt ((blk b22).add 12) (.bool x51) w69 (fun w70 =>
 doSt ((blk b22).add 13) (.slice xp52 xn53 xc54) w70 (fun w71 =>
 doSt ((blk b22).add 14) (.slice xp55 xn56 xc57) w71 (fun w72 =>
 doSt ((blk b24).add 0) (.bool true) w72 (fun w73 =>
 doDf Tryz.prog (.fn (.func 55) #[.pointer (some (blk b24))]) #[] (.returning) w73 (fun u75 w74 =>
 doEnd (u75) (
 ∃ x77, w74.cell? ((blk b22).add 0) = some (.int .u8 x77) ∧ (
 ∃ x78, w74.cell? ((blk b22).add 1) = some (.int .i64 x78) ∧ (
 ∃ x79, w74.cell? ((blk b22).add 2) = some (.int .i64 x79) ∧ (
 ∃ x80, w74.cell? ((blk b22).add 3) = some (.int .i64 x80) ∧ (
 ∃ x81, w74.cell? ((blk b22).add 4) = some (.int .i64 x81) ∧ (
 ∃ x82, w74.cell? ((blk b22).add 5) = some (.int .i64 x82) ∧ (
 ∃ x83, w74.cell? ((blk b22).add 6) = some (.int .i64 x83) ∧ (
 ∃ x84, w74.cell? ((blk b22).add 7) = some (.int .i64 x84) ∧ (
 ∃ x85, w74.cell? ((blk b22).add 8) = some (.int .u8 x85) ∧ (
 ∃ x86, w74.cell? ((blk b22).add 9) = some (.int .u8 x86) ∧ (
 ∃ x87, w74.cell? ((blk b22).add 10) = some (.int .i64 x87) ∧ (
 ∃ x88, w74.cell? ((blk b22).add 11) = some (.int .i64 x88) ∧ (
 ∃ x89, w74.cell? ((blk b22).add 12) = some (.bool x89) ∧ (
 ∃ xp90 xn91 xc92, w74.cell? ((blk b22).add 13) = some (.slice xp90 xn91 xc92) ∧ (
 ∃ xp93 xn94 xc95, w74.cell? ((blk b22).add 14) = some (.slice xp93 xn94 xc95) ∧ (
 ∃ x96, w74.cell? (blk b24) = some (.bool x96) ∧ (
 R (.returned (.tuple #[.agg #[.int .u8 x77, .int .i64 x78, .int .i64 x79, .int .i64 x80, .int .i64 x81, .int .i64 x82, .int .i64 x83, .int .i64 x84, .int .u8 x85, .int .u8 x86, .int .i64 x87, .int .i64 x88, .bool x89, .slice xp90 xn91 xc92, .slice xp93 xn94 xc95], .bool x96])) w74))))))))))))))))) (fun ch76 => R (.panicked ch76) w74))))))))))))))))))))))))))))))))))) (fun (ch97 : List PanicEntry) (w98 : World) =>
 doDf Tryz.prog (.fn (.func 55) #[.pointer (some (blk b24))]) #[] (.panicking ch97) w98 (fun u100 w99 =>
 doEnd (u100) (
 ∃ x102, w99.cell? ((blk b22).add 0) = some (.int .u8 x102) ∧ (
 ∃ x103, w99.cell? ((blk b22).add 1) = some (.int .i64 x103) ∧ (
 ∃ x104, w99.cell? ((blk b22).add 2) = some (.int .i64 x104) ∧ (
 ∃ x105, w99.cell? ((blk b22).add 3) = some (.int .i64 x105) ∧ (
 ∃ x106, w99.cell? ((blk b22).add 4) = some (.int .i64 x106) ∧ (
 ∃ x107, w99.cell? ((blk b22).add 5) = some (.int .i64 x107) ∧ (
 ∃ x108, w99.cell? ((blk b22).add 6) = some (.int .i64 x108) ∧ (
 ∃ x109, w99.cell? ((blk b22).add 7) = some (.int .i64 x109) ∧ (
 ∃ x110, w99.cell? ((blk b22).add 8) = some (.int .u8 x110) ∧ (
 ∃ x111, w99.cell? ((blk b22).add 9) = some (.int .u8 x111) ∧ (
 ∃ x112, w99.cell? ((blk b22).add 10) = some (.int .i64 x112) ∧ (
 ∃ x113, w99.cell? ((blk b22).add 11) = some (.int .i64 x113) ∧ (
 ∃ x114, w99.cell? ((blk b22).add 12) = some (.bool x114) ∧ (
 ∃ xp115 xn116 xc117, w99.cell? ((blk b22).add 13) = some (.slice xp115 xn116 xc117) ∧ (
 ∃ xp118 xn119 xc120, w99.cell? ((blk b22).add 14) = some (.slice xp118 xn119 xc120) ∧ (
 ∃ x121, w99.cell? (blk b24) = some (.bool x121) ∧ (
 R (.returned (.tuple #[.agg #[.int .u8 x102, .int .i64 x103, .int .i64 x104, .int .i64 x105, .int .i64 x106, .int .i64 x107, .int .i64 x108, .int .i64 x109, .int .u8 x110, .int .u8 x111, .int .i64 x112, .int .i64 x113, .bool x114, .slice xp115 xn116 xc117, .slice xp118 xn119 xc120], .bool x121])) w99))))))))))))))))) (fun ch101 => R (.panicked ch101) w99)))))))))) (fun (ch122 : List PanicEntry) (w123 : World) =>
 doDf Tryz.prog (.fn (.func 55) #[.pointer (some (blk b24))]) #[] (.panicking ch122) w123 (fun u125 w124 =>
 doEnd (u125) (
 ∃ x127, w124.cell? ((blk b22).add 0) = some (.int .u8 x127) ∧ (
 ∃ x128, w124.cell? ((blk b22).add 1) = some (.int .i64 x128) ∧ (
 ∃ x129, w124.cell? ((blk b22).add 2) = some (.int .i64 x129) ∧ (
 ∃ x130, w124.cell? ((blk b22).add 3) = some (.int .i64 x130) ∧ (
 ∃ x131, w124.cell? ((blk b22).add 4) = some (.int .i64 x131) ∧ (
 ∃ x132, w124.cell? ((blk b22).add 5) = some (.int .i64 x132) ∧ (
 ∃ x133, w124.cell? ((blk b22).add 6) = some (.int .i64 x133) ∧ (
 ∃ x134, w124.cell? ((blk b22).add 7) = some (.int .i64 x134) ∧ (
 ∃ x135, w124.cell? ((blk b22).add 8) = some (.int .u8 x135) ∧ (
 ∃ x136, w124.cell? ((blk b22).add 9) = some (.int .u8 x136) ∧ (
 ∃ x137, w124.cell? ((blk b22).add 10) = some (.int .i64 x137) ∧ (
 ∃ x138, w124.cell? ((blk b22).add 11) = some (.int .i64 x138) ∧ (
 ∃ x139, w124.cell? ((blk b22).add 12) = some (.bool x139) ∧ (
 ∃ xp140 xn141 xc142, w124.cell? ((blk b22).add 13) = some (.slice xp140 xn141 xc142) ∧ (
 ∃ xp143 xn144 xc145, w124.cell? ((blk b22).add 14) = some (.slice xp143 xn144 xc145) ∧ (
 ∃ x146, w124.cell? (blk b24) = some (.bool x146) ∧ (
 R (.returned (.tuple #[.agg #[.int .u8 x127, .int .i64 x128, .int .i64 x129, .int .i64 x130, .int .i64 x131, .int .i64 x132, .int .i64 x133, .int .i64 x134, .int .u8 x135, .int .u8 x136, .int .i64 x137, .int .i64 x138, .bool x139, .slice xp140 xn141 xc142, .slice xp143 xn144 xc145], .bool x146])) w124))))))))))))))))) (fun ch126 => R (.panicked ch126) w124))))))))
theorem sh25_ok (x_1 : Int) (x_2 : Int) (x_3 : Int) (x_4 : Int) (x_5 : Int) (x_6 : Int) (x_7 : Int) (x_8 : Int) (x_9 : Int) (x_10 : Int) (x_11 : Int) (x_12 : Int) (x_13 : Bool) (x_p14 : OA) (x_n15 : Nat) (x_c16 : Nat) (x_p17 : OA) (x_n18 : Nat) (x_c19 : Nat) {R : EW} {w : World} : sh25 x_1 x_2 x_3 x_4 x_5 x_6 x_7 x_8 x_9 x_10 x_11 x_12 x_13 x_p14 x_n15 x_c16 x_p17 x_n18 x_c19 R w → Calls Tryz.prog 25 #[.agg #[.int .u8 x_1, .int .i64 x_2, .int .i64 x_3, .int .i64 x_4, .int .i64 x_5, .int .i64 x_6, .int .i64 x_7, .int .i64 x_8, .int .u8 x_9, .int .u8 x_10, .int .i64 x_11, .int .i64 x_12, .bool x_13, .slice x_p14 x_n15 x_c16, .slice x_p17 x_n18 x_c19]] w R :=
  calls_of_eqD (ann := fun _ => []) (fn := Tryz.f25) (c := bodyOf Tryz.f25) (args := #[.agg #[.int .u8 x_1, .int .i64 x_2, .int .i64 x_3, .int .i64 x_4, .int .i64 x_5, .int .i64 x_6, .int .i64 x_7, .int .i64 x_8, .int .u8 x_9, .int .u8 x_10, .int .i64 x_11, .int .i64 x_12, .bool x_13, .slice x_p14 x_n15 x_c16, .slice x_p17 x_n18 x_c19]]) 400 follows_mixed Tryz.func25 (by kernel_rfl) (by kernel_rfl)
def sh26 (x_1 : Int) (x_2 : Int) (x_3 : Int) (x_4 : Int) (x_5 : Int) (x_6 : Int) (x_7 : Int) (x_8 : Int) (x_9 : Int) (x_10 : Int) (x_11 : Int) (x_12 : Int) (x_13 : Bool) (x_p14 : OA) (x_n15 : Nat) (x_c16 : Nat) (x_p17 : OA) (x_n18 : Nat) (x_c19 : Nat) (y_20 : Int) (y_21 : Int) (y_22 : Int) (y_23 : Int) (y_24 : Int) (y_25 : Int) (y_26 : Int) (y_27 : Int) (y_28 : Int) (y_29 : Int) (y_30 : Int) (y_31 : Int) (y_32 : Bool) (y_p33 : OA) (y_n34 : Nat) (y_c35 : Nat) (y_p36 : OA) (y_n37 : Nat) (y_c38 : Nat) (R : EW) (w : World) : Prop :=
 doAl (.cells #[.int .u8 x_1, .int .i64 x_2, .int .i64 x_3, .int .i64 x_4, .int .i64 x_5, .int .i64 x_6, .int .i64 x_7, .int .i64 x_8, .int .u8 x_9, .int .u8 x_10, .int .i64 x_11, .int .i64 x_12, .bool x_13, .slice x_p14 x_n15 x_c16, .slice x_p17 x_n18 x_c19] 37) w (fun b39 w40 =>
 doAl (.cells #[.int .u8 y_20, .int .i64 y_21, .int .i64 y_22, .int .i64 y_23, .int .i64 y_24, .int .i64 y_25, .int .i64 y_26, .int .i64 y_27, .int .u8 y_28, .int .u8 y_29, .int .i64 y_30, .int .i64 y_31, .bool y_32, .slice y_p33 y_n34 y_c35, .slice y_p36 y_n37 y_c38] 37) w40 (fun b41 w42 =>
 let K45 : Bool → World → Prop := fun x43 w44 => 
 ifB x43 (
 R (.returned (.bool false)) w44) (
 ∃ xp46 xn47 xc48, w44.cell? ((blk b39).add 13) = some (.slice xp46 xn47 xc48) ∧ (
 ∃ (I49 : List Value → World → Prop) (μ50 : List Value → World → Nat), I49 [.int .i64 0] w44 ∧ (∀ (x53 : Int), ∀ (_j51 : Nat → Value) (w52 : World), I49 [.int .i64 x53] w52 → (
 ifB (decide ((x53 : Int) < ((xn47 : Nat) : Int))) (
 doDr w52 (fun w55 =>
 ∃ (C54 : World → Prop), C54 w55 ∧ (
 ∃ xp56 xn57 xc58, (∀ w, C54 w → w.cell? ((blk b39).add 13) = some (.slice xp56 xn57 xc58)) ∧ (
 doIx xp56 xn57 2 (x53) (fun a59 =>
 ∃ x60, (∀ w, C54 w → w.cell? (a59.add 0) = some (.int .i64 x60)) ∧ (
 ∃ x61, (∀ w, C54 w → w.cell? (a59.add 1) = some (.int .i64 x61)) ∧ (
 ∃ xp62 xn63 xc64, (∀ w, C54 w → w.cell? ((blk b41).add 13) = some (.slice xp62 xn63 xc64)) ∧ (
 doIx xp62 xn63 2 (x53) (fun a65 =>
 ∃ x66, (∀ w, C54 w → w.cell? (a65.add 0) = some (.int .i64 x66)) ∧ (
 ∃ x67, (∀ w, C54 w → w.cell? (a65.add 1) = some (.int .i64 x67)) ∧ (
 ifB (!(((x60 : Int) == x66) && (((x61 : Int) == x67) && true))) (
 R (.returned (.bool false)) w55) (
 I49 [.int .i64 (IntKind.wrap .i64 (x53 + 1))] w55 ∧ μ50 [.int .i64 (IntKind.wrap .i64 (x53 + 1))] w55 < μ50 [.int .i64 x53] w52)))))))))))) (
 ∃ xp68 xn69 xc70, w52.cell? ((blk b39).add 14) = some (.slice xp68 xn69 xc70) ∧ (
 ∃ (I71 : List Value → World → Prop) (μ72 : List Value → World → Nat), I71 [.int .i64 0] w52 ∧ (∀ (x75 : Int), ∀ (_j73 : Nat → Value) (w74 : World), I71 [.int .i64 x75] w74 → (
 ifB (decide ((x75 : Int) < ((xn69 : Nat) : Int))) (
 doDr w74 (fun w77 =>
 ∃ (C76 : World → Prop), C76 w77 ∧ (
 ∃ xp78 xn79 xc80, (∀ w, C76 w → w.cell? ((blk b39).add 14) = some (.slice xp78 xn79 xc80)) ∧ (
 doIx xp78 xn79 1 (x75) (fun a81 =>
 ∃ x82, (∀ w, C76 w → w.cell? a81 = some (.int .i64 x82)) ∧ (
 ∃ xp83 xn84 xc85, (∀ w, C76 w → w.cell? ((blk b41).add 14) = some (.slice xp83 xn84 xc85)) ∧ (
 doIx xp83 xn84 1 (x75) (fun a86 =>
 ∃ x87, (∀ w, C76 w → w.cell? a86 = some (.int .i64 x87)) ∧ (
 ifB ((x82 : Int) != x87) (
 R (.returned (.bool false)) w77) (
 I71 [.int .i64 (IntKind.wrap .i64 (x75 + 1))] w77 ∧ μ72 [.int .i64 (IntKind.wrap .i64 (x75 + 1))] w77 < μ72 [.int .i64 x75] w74)))))))))) (
 let K90 : Bool → World → Prop := fun x88 w89 => 
 R (.returned (.bool x88)) w89
 ∃ x91, w74.cell? ((blk b39).add 0) = some (.int .u8 x91) ∧ (
 ∃ x92, w74.cell? ((blk b41).add 0) = some (.int .u8 x92) ∧ (
 ifB ((x91 : Int) == x92) (
 ∃ x93, w74.cell? ((blk b39).add 1) = some (.int .i64 x93) ∧ (
 ∃ x94, w74.cell? ((blk b41).add 1) = some (.int .i64 x94) ∧ (
 ifB ((x93 : Int) == x94) (
 ∃ x95, w74.cell? ((blk b39).add 2) = some (.int .i64 x95) ∧ (
 ∃ x96, w74.cell? ((blk b41).add 2) = some (.int .i64 x96) ∧ (
 ifB ((x95 : Int) == x96) (
 ∃ x97, w74.cell? ((blk b39).add 3) = some (.int .i64 x97) ∧ (
 ∃ x98, w74.cell? ((blk b41).add 3) = some (.int .i64 x98) ∧ (
 ifB ((x97 : Int) == x98) (
 ∃ x99, w74.cell? ((blk b39).add 4) = some (.int .i64 x99) ∧ (
 ∃ x100, w74.cell? ((blk b41).add 4) = some (.int .i64 x100) ∧ (
 ifB ((x99 : Int) == x100) (
 ∃ x101, w74.cell? ((blk b39).add 5) = some (.int .i64 x101) ∧ (
 ∃ x102, w74.cell? ((blk b41).add 5) = some (.int .i64 x102) ∧ (
 ifB ((x101 : Int) == x102) (
 ∃ x103, w74.cell? ((blk b39).add 6) = some (.int .i64 x103) ∧ (
 ∃ x104, w74.cell? ((blk b41).add 6) = some (.int .i64 x104) ∧ (
 ifB ((x103 : Int) == x104) (
 ∃ x105, w74.cell? ((blk b39).add 7) = some (.int .i64 x105) ∧ (
 ∃ x106, w74.cell? ((blk b41).add 7) = some (.int .i64 x106) ∧ (
 ifB ((x105 : Int) == x106) (
 ∃ x107, w74.cell? ((blk b39).add 8) = some (.int .u8 x107) ∧ (
 ∃ x108, w74.cell? ((blk b41).add 8) = some (.int .u8 x108) ∧ (
 ifB ((x107 : Int) == x108) (
 ∃ x109, w74.cell? (((blk b39).add 9).add 0) = some (.int .u8 x109) ∧ (
 ∃ x110, w74.cell? (((blk b39).add 9).add 1) = some (.int .i64 x110) ∧ (
 ∃ x111, w74.cell? (((blk b39).add 9).add 2) = some (.int .i64 x111) ∧ (
 ∃ x112, w74.cell? (((blk b39).add 9).add 3) = some (.bool x112) ∧ (
 ∃ x113, w74.cell? (((blk b41).add 9).add 0) = some (.int .u8 x113) ∧ (
 ∃ x114, w74.cell? (((blk b41).add 9).add 1) = some (.int .i64 x114) ∧ (
 ∃ x115, w74.cell? (((blk b41).add 9).add 2) = some (.int .i64 x115) ∧ (
 ∃ x116, w74.cell? (((blk b41).add 9).add 3) = some (.bool x116) ∧ (
 K90 (((x109 : Int) == x113) && (((x110 : Int) == x114) && (((x111 : Int) == x115) && ((x112 == x116) && true)))) w74))))))))) (
 R (.returned (.bool false)) w74)))) (
 R (.returned (.bool false)) w74)))) (
 R (.returned (.bool false)) w74)))) (
 R (.returned (.bool false)) w74)))) (
 R (.returned (.bool false)) w74)))) (
 R (.returned (.bool false)) w74)))) (
 R (.returned (.bool false)) w74)))) (
 R (.returned (.bool false)) w74)))) (
 R (.returned (.bool false)) w74))))))))))))
 ∃ xp117 xn118 xc119, w42.cell? ((blk b39).add 13) = some (.slice xp117 xn118 xc119) ∧ (
 ∃ xp120 xn121 xc122, w42.cell? ((blk b41).add 13) = some (.slice xp120 xn121 xc122) ∧ (
 ifB ((((xn118 : Nat) : Int) : Int) != ((xn121 : Nat) : Int)) (
 R (.returned (.bool false)) w42) (
 ∃ xp123 xn124 xc125, w42.cell? ((blk b39).add 14) = some (.slice xp123 xn124 xc125) ∧ (
 ∃ xp126 xn127 xc128, w42.cell? ((blk b41).add 14) = some (.slice xp126 xn127 xc128) ∧ (
 K45 ((((xn124 : Nat) : Int) : Int) != ((xn127 : Nat) : Int)) w42)))))))
theorem sh26_ok (x_1 : Int) (x_2 : Int) (x_3 : Int) (x_4 : Int) (x_5 : Int) (x_6 : Int) (x_7 : Int) (x_8 : Int) (x_9 : Int) (x_10 : Int) (x_11 : Int) (x_12 : Int) (x_13 : Bool) (x_p14 : OA) (x_n15 : Nat) (x_c16 : Nat) (x_p17 : OA) (x_n18 : Nat) (x_c19 : Nat) (y_20 : Int) (y_21 : Int) (y_22 : Int) (y_23 : Int) (y_24 : Int) (y_25 : Int) (y_26 : Int) (y_27 : Int) (y_28 : Int) (y_29 : Int) (y_30 : Int) (y_31 : Int) (y_32 : Bool) (y_p33 : OA) (y_n34 : Nat) (y_c35 : Nat) (y_p36 : OA) (y_n37 : Nat) (y_c38 : Nat) {R : EW} {w : World} : sh26 x_1 x_2 x_3 x_4 x_5 x_6 x_7 x_8 x_9 x_10 x_11 x_12 x_13 x_p14 x_n15 x_c16 x_p17 x_n18 x_c19 y_20 y_21 y_22 y_23 y_24 y_25 y_26 y_27 y_28 y_29 y_30 y_31 y_32 y_p33 y_n34 y_c35 y_p36 y_n37 y_c38 R w → Calls Tryz.prog 26 #[.agg #[.int .u8 x_1, .int .i64 x_2, .int .i64 x_3, .int .i64 x_4, .int .i64 x_5, .int .i64 x_6, .int .i64 x_7, .int .i64 x_8, .int .u8 x_9, .int .u8 x_10, .int .i64 x_11, .int .i64 x_12, .bool x_13, .slice x_p14 x_n15 x_c16, .slice x_p17 x_n18 x_c19], .agg #[.int .u8 y_20, .int .i64 y_21, .int .i64 y_22, .int .i64 y_23, .int .i64 y_24, .int .i64 y_25, .int .i64 y_26, .int .i64 y_27, .int .u8 y_28, .int .u8 y_29, .int .i64 y_30, .int .i64 y_31, .bool y_32, .slice y_p33 y_n34 y_c35, .slice y_p36 y_n37 y_c38]] w R :=
  Old.calls_of_eq (ann := fun i => if i = 2 then [(44, .int .i64 0)] else if i = 0 then [(26, .int .i64 0)] else []) (fn := Tryz.f26) (c := bodyOf Tryz.f26) (args := #[.agg #[.int .u8 x_1, .int .i64 x_2, .int .i64 x_3, .int .i64 x_4, .int .i64 x_5, .int .i64 x_6, .int .i64 x_7, .int .i64 x_8, .int .u8 x_9, .int .u8 x_10, .int .i64 x_11, .int .i64 x_12, .bool x_13, .slice x_p14 x_n15 x_c16, .slice x_p17 x_n18 x_c19], .agg #[.int .u8 y_20, .int .i64 y_21, .int .i64 y_22, .int .i64 y_23, .int .i64 y_24, .int .i64 y_25, .int .i64 y_26, .int .i64 y_27, .int .u8 y_28, .int .u8 y_29, .int .i64 y_30, .int .i64 y_31, .bool y_32, .slice y_p33 y_n34 y_c35, .slice y_p36 y_n37 y_c38]]) 400 follows_mixed Tryz.func26 (by kernel_rfl) (by kernel_rfl)
def sh27 (p_1 : Int) (R : EW) (w : World) : Prop :=
 let K4 : Bool → World → Prop := fun is_2 w3 => 
 R (.returned (.bool is_2)) w3
 doCall Tryz.prog (.func (.func 56) #[] #[]) #[] w (retS (fun v6 w7 => ∃ x5, v6 = (.map x5 : Value) ∧ (
 doLk Tryz.prog 110 (.map x5) (.int .u8 p_1) true w7 (fun v12 => (∃ xf8 xx9 xc10 x11, v12 = (.tuple #[.agg #[.func xf8 xx9 xc10], .bool x11] : Value) ∧ (
 doAl (.cells #[.nilFunc] 108) w7 (fun b13 w14 =>
 doSt ((blk b13).add 0) (.func xf8 xx9 xc10) w14 (fun w15 =>
 K4 x11 w15)))) ∨ (v12 = (.tuple #[.agg #[.nilFunc], .bool false] : Value) ∧ (
 doAl (.cells #[.nilFunc] 108) w7 (fun b16 w17 =>
 doSt ((blk b16).add 0) (.nilFunc) w17 (fun w18 =>
 R (.returned (.bool false)) w18))))))) (kN R))
theorem sh27_ok (p_1 : Int) {R : EW} {w : World} : sh27 p_1 R w → Calls Tryz.prog 27 #[.int .u8 p_1] w R :=
  ceq Tryz.func27 (by kernel_rfl) (by kernel_rfl)
def sh28 (p_1 : Int) (p_2 : Int) (p_3 : Int) (p_4 : Bool) (R : EW) (w : World) : Prop :=
 doAl (.cells #[.int .u8 p_1, .int .i64 p_2, .int .i64 p_3, .bool p_4] 33) w (fun b5 w6 =>
 let K10 : Addr → Bool → World → Prop := fun k_7 is_8 w9 => 
 let K13 : Bool → World → Prop := fun x11 w12 => 
 R (.returned (.bool x11)) w12
 ifB is_8 (
 ∃ xf14 xx15 xc16, w9.cell? (k_7.add 0) = some (.func xf14 xx15 xc16) ∧ (
 ∃ x17, w9.cell? ((blk b5).add 1) = some (.int .i64 x17) ∧ (
 ∃ x18, w9.cell? ((blk b5).add 2) = some (.int .i64 x18) ∧ (
 doCall Tryz.prog (.func xf14 xx15 xc16) #[.int .i64 x17, .int .i64 x18] w9 (retS (fun v20 w21 => ∃ x19, v20 = (.bool x19 : Value) ∧ (
 K13 x19 w21)) (kN R)))))) (
 R (.returned (.bool false)) w9)
 doDr w6 (fun w23 =>
 ∃ (C22 : World → Prop), C22 w23 ∧ (
 ∃ x24, (∀ w, C22 w → w.cell? ((blk b5).add 0) = some (.int .u8 x24)) ∧ (
 (doCall Tryz.prog (.func (.func 57) #[] #[]) #[] w23 (retS (fun v26 w27 => ∃ x25, v26 = (.map x25 : Value) ∧ (
 C22 w27 ∧ (
 (doLk Tryz.prog 117 (.map x25) (.int .u8 x24) true w27 (fun v35 => (∃ xf28 xx29 xc30 xf31 xx32 xc33 x34, v35 = (.tuple #[.agg #[.func xf28 xx29 xc30, .func xf31 xx32 xc33], .bool x34] : Value) ∧ (
 doAl (.cells #[.nilFunc, .nilFunc] 115) w27 (fun b36 w37 =>
 C22 w37 ∧ (
 doSt ((blk b36).add 0) (.func xf28 xx29 xc30) w37 (fun w38 =>
 doSt ((blk b36).add 1) (.func xf31 xx32 xc33) w38 (fun w39 =>
 K10 (blk b36) x34 w39)))))) ∨ (v35 = (.tuple #[.agg #[.nilFunc, .nilFunc], .bool false] : Value) ∧ (
 doAl (.cells #[.nilFunc, .nilFunc] 115) w27 (fun b40 w41 =>
 C22 w41 ∧ (
 doSt ((blk b40).add 0) (.nilFunc) w41 (fun w42 =>
 doSt ((blk b40).add 1) (.nilFunc) w42 (fun w43 =>
 R (.returned (.bool false)) w43)))))))) ∧ (doAl (.cells #[.nilFunc, .nilFunc] 115) w27 (fun b44 w45 =>
 C22 w45 ∧ (
 doLk Tryz.prog 117 (.map x25) (.int .u8 x24) true w45 (fun v53 => (∃ xf46 xx47 xc48 xf49 xx50 xc51 x52, v53 = (.tuple #[.agg #[.func xf46 xx47 xc48, .func xf49 xx50 xc51], .bool x52] : Value) ∧ (
 doSt ((blk b44).add 0) (.func xf46 xx47 xc48) w45 (fun w54 =>
 doSt ((blk b44).add 1) (.func xf49 xx50 xc51) w54 (fun w55 =>
 K10 (blk b44) x52 w55)))) ∨ (v53 = (.tuple #[.agg #[.nilFunc, .nilFunc], .bool false] : Value) ∧ (
 doSt ((blk b44).add 0) (.nilFunc) w45 (fun w56 =>
 doSt ((blk b44).add 1) (.nilFunc) w56 (fun w57 =>
 R (.returned (.bool false)) w57))))))))))) (kN R))) ∧ (doAl (.cells #[.nilFunc, .nilFunc] 115) w23 (fun b58 w59 =>
 C22 w59 ∧ (
 doCall Tryz.prog (.func (.func 57) #[] #[]) #[] w59 (retS (fun v61 w62 => ∃ x60, v61 = (.map x60 : Value) ∧ (
 C22 w62 ∧ (
 doLk Tryz.prog 117 (.map x60) (.int .u8 x24) true w62 (fun v70 => (∃ xf63 xx64 xc65 xf66 xx67 xc68 x69, v70 = (.tuple #[.agg #[.func xf63 xx64 xc65, .func xf66 xx67 xc68], .bool x69] : Value) ∧ (
 doSt ((blk b58).add 0) (.func xf63 xx64 xc65) w62 (fun w71 =>
 doSt ((blk b58).add 1) (.func xf66 xx67 xc68) w71 (fun w72 =>
 K10 (blk b58) x69 w72)))) ∨ (v70 = (.tuple #[.agg #[.nilFunc, .nilFunc], .bool false] : Value) ∧ (
 doSt ((blk b58).add 0) (.nilFunc) w62 (fun w73 =>
 doSt ((blk b58).add 1) (.nilFunc) w73 (fun w74 =>
 R (.returned (.bool false)) w74)))))))) (kN R)))))))))
theorem sh28_ok (p_1 : Int) (p_2 : Int) (p_3 : Int) (p_4 : Bool) {R : EW} {w : World} : sh28 p_1 p_2 p_3 p_4 R w → Calls Tryz.prog 28 #[.agg #[.int .u8 p_1, .int .i64 p_2, .int .i64 p_3, .bool p_4]] w R :=
  ceq Tryz.func28 (by kernel_rfl) (by kernel_rfl)
def sh30 (do_1 : Int) (R : EW) (w : World) : Prop :=
 doAl (.cells #[.bool false, .bool false, .bool false, .bool false, .bool false, .bool false, .bool false, .bool false, .bool false, .bool false, .bool false] 67) w (fun b2 w3 =>
 ifB ((do_1 : Int) == 1) (
 doSt ((blk b2).add 0) (.bool true) w3 (fun w4 =>
 doSt ((blk b2).add 1) (.bool false) w4 (fun w5 =>
 doSt ((blk b2).add 2) (.bool true) w5 (fun w6 =>
 doSt ((blk b2).add 3) (.bool true) w6 (fun w7 =>
 doSt ((blk b2).add 4) (.bool false) w7 (fun w8 =>
 doSt ((blk b2).add 5) (.bool false) w8 (fun w9 =>
 doSt ((blk b2).add 6) (.bool false) w9 (fun w10 =>
 doSt ((blk b2).add 7) (.bool true) w10 (fun w11 =>
 doSt ((blk b2).add 8) (.bool false) w11 (fun w12 =>
 doSt ((blk b2).add 9) (.bool false) w12 (fun w13 =>
 doSt ((blk b2).add 10) (.bool false) w13 (fun w14 =>
 ∃ x15, w14.cell? ((blk b2).add 0) = some (.bool x15) ∧ (
 ∃ x16, w14.cell? ((blk b2).add 1) = some (.bool x16) ∧ (
 ∃ x17, w14.cell? ((blk b2).add 2) = some (.bool x17) ∧ (
 ∃ x18, w14.cell? ((blk b2).add 3) = some (.bool x18) ∧ (
 ∃ x19, w14.cell? ((blk b2).add 4) = some (.bool x19) ∧ (
 ∃ x20, w14.cell? ((blk b2).add 5) = some (.bool x20) ∧ (
 ∃ x21, w14.cell? ((blk b2).add 6) = some (.bool x21) ∧ (
 ∃ x22, w14.cell? ((blk b2).add 7) = some (.bool x22) ∧ (
 ∃ x23, w14.cell? ((blk b2).add 8) = some (.bool x23) ∧ (
 ∃ x24, w14.cell? ((blk b2).add 9) = some (.bool x24) ∧ (
 ∃ x25, w14.cell? ((blk b2).add 10) = some (.bool x25) ∧ (
 R (.returned (.tuple #[.agg #[.bool x15, .bool x16, .bool x17, .bool x18, .bool x19, .bool x20, .bool x21, .bool x22, .bool x23, .bool x24, .bool x25], .bool true])) w14))))))))))))))))))))))) (
 let K28 : Bool → World → Prop := fun x26 w27 => 
 ifB x26 (
 doSt ((blk b2).add 0) (.bool true) w27 (fun w29 =>
 doSt ((blk b2).add 1) (.bool false) w29 (fun w30 =>
 doSt ((blk b2).add 2) (.bool true) w30 (fun w31 =>
 doSt ((blk b2).add 3) (.bool false) w31 (fun w32 =>
 doSt ((blk b2).add 4) (.bool false) w32 (fun w33 =>
 doSt ((blk b2).add 5) (.bool false) w33 (fun w34 =>
 doSt ((blk b2).add 6) (.bool false) w34 (fun w35 =>
 doSt ((blk b2).add 7) (.bool false) w35 (fun w36 =>
 doSt ((blk b2).add 8) (.bool false) w36 (fun w37 =>
 doSt ((blk b2).add 9) (.bool false) w37 (fun w38 =>
 doSt ((blk b2).add 10) (.bool false) w38 (fun w39 =>
 ∃ x40, w39.cell? ((blk b2).add 0) = some (.bool x40) ∧ (
 ∃ x41, w39.cell? ((blk b2).add 1) = some (.bool x41) ∧ (
 ∃ x42, w39.cell? ((blk b2).add 2) = some (.bool x42) ∧ (
 ∃ x43, w39.cell? ((blk b2).add 3) = some (.bool x43) ∧ (
 ∃ x44, w39.cell? ((blk b2).add 4) = some (.bool x44) ∧ (
 ∃ x45, w39.cell? ((blk b2).add 5) = some (.bool x45) ∧ (
 ∃ x46, w39.cell? ((blk b2).add 6) = some (.bool x46) ∧ (
 ∃ x47, w39.cell? ((blk b2).add 7) = some (.bool x47) ∧ (
 ∃ x48, w39.cell? ((blk b2).add 8) = some (.bool x48) ∧ (
 ∃ x49, w39.cell? ((blk b2).add 9) = some (.bool x49) ∧ (
 ∃ x50, w39.cell? ((blk b2).add 10) = some (.bool x50) ∧ (
 R (.returned (.tuple #[.agg #[.bool x40, .bool x41, .bool x42, .bool x43, .bool x44, .bool x45, .bool x46, .bool x47, .bool x48, .bool x49, .bool x50], .bool true])) w39))))))))))))))))))))))) (
 let K53 : Bool → World → Prop := fun x51 w52 => 
 ifB x51 (
 doSt ((blk b2).add 0) (.bool true) w52 (fun w54 =>
 doSt ((blk b2).add 1) (.bool false) w54 (fun w55 =>
 doSt ((blk b2).add 2) (.bool false) w55 (fun w56 =>
 doSt ((blk b2).add 3) (.bool false) w56 (fun w57 =>
 doSt ((blk b2).add 4) (.bool false) w57 (fun w58 =>
 doSt ((blk b2).add 5) (.bool false) w58 (fun w59 =>
 doSt ((blk b2).add 6) (.bool false) w59 (fun w60 =>
 doSt ((blk b2).add 7) (.bool false) w60 (fun w61 =>
 doSt ((blk b2).add 8) (.bool false) w61 (fun w62 =>
 doSt ((blk b2).add 9) (.bool false) w62 (fun w63 =>
 doSt ((blk b2).add 10) (.bool false) w63 (fun w64 =>
 ∃ x65, w64.cell? ((blk b2).add 0) = some (.bool x65) ∧ (
 ∃ x66, w64.cell? ((blk b2).add 1) = some (.bool x66) ∧ (
 ∃ x67, w64.cell? ((blk b2).add 2) = some (.bool x67) ∧ (
 ∃ x68, w64.cell? ((blk b2).add 3) = some (.bool x68) ∧ (
 ∃ x69, w64.cell? ((blk b2).add 4) = some (.bool x69) ∧ (
 ∃ x70, w64.cell? ((blk b2).add 5) = some (.bool x70) ∧ (
 ∃ x71, w64.cell? ((blk b2).add 6) = some (.bool x71) ∧ (
 ∃ x72, w64.cell? ((blk b2).add 7) = some (.bool x72) ∧ (
 ∃ x73, w64.cell? ((blk b2).add 8) = some (.bool x73) ∧ (
 ∃ x74, w64.cell? ((blk b2).add 9) = some (.bool x74) ∧ (
 ∃ x75, w64.cell? ((blk b2).add 10) = some (.bool x75) ∧ (
 R (.returned (.tuple #[.agg #[.bool x65, .bool x66, .bool x67, .bool x68, .bool x69, .bool x70, .bool x71, .bool x72, .bool x73, .bool x74, .bool x75], .bool true])) w64))))))))))))))))))))))) (
 ifB ((do_1 : Int) == 8) (
 doSt ((blk b2).add 0) (.bool false) w52 (fun w76 =>
 doSt ((blk b2).add 1) (.bool false) w76 (fun w77 =>
 doSt ((blk b2).add 2) (.bool false) w77 (fun w78 =>
 doSt ((blk b2).add 3) (.bool false) w78 (fun w79 =>
 doSt ((blk b2).add 4) (.bool false) w79 (fun w80 =>
 doSt ((blk b2).add 5) (.bool false) w80 (fun w81 =>
 doSt ((blk b2).add 6) (.bool false) w81 (fun w82 =>
 doSt ((blk b2).add 7) (.bool true) w82 (fun w83 =>
 doSt ((blk b2).add 8) (.bool false) w83 (fun w84 =>
 doSt ((blk b2).add 9) (.bool true) w84 (fun w85 =>
 doSt ((blk b2).add 10) (.bool false) w85 (fun w86 =>
 ∃ x87, w86.cell? ((blk b2).add 0) = some (.bool x87) ∧ (
 ∃ x88, w86.cell? ((blk b2).add 1) = some (.bool x88) ∧ (
 ∃ x89, w86.cell? ((blk b2).add 2) = some (.bool x89) ∧ (
 ∃ x90, w86.cell? ((blk b2).add 3) = some (.bool x90) ∧ (
 ∃ x91, w86.cell? ((blk b2).add 4) = some (.bool x91) ∧ (
 ∃ x92, w86.cell? ((blk b2).add 5) = some (.bool x92) ∧ (
 ∃ x93, w86.cell? ((blk b2).add 6) = some (.bool x93) ∧ (
 ∃ x94, w86.cell? ((blk b2).add 7) = some (.bool x94) ∧ (
 ∃ x95, w86.cell? ((blk b2).add 8) = some (.bool x95) ∧ (
 ∃ x96, w86.cell? ((blk b2).add 9) = some (.bool x96) ∧ (
 ∃ x97, w86.cell? ((blk b2).add 10) = some (.bool x97) ∧ (
 R (.returned (.tuple #[.agg #[.bool x87, .bool x88, .bool x89, .bool x90, .bool x91, .bool x92, .bool x93, .bool x94, .bool x95, .bool x96, .bool x97], .bool true])) w86))))))))))))))))))))))) (
 let K100 : Bool → World → Prop := fun x98 w99 => 
 ifB x98 (
 doSt ((blk b2).add 0) (.bool true) w99 (fun w101 =>
 doSt ((blk b2).add 1) (.bool true) w101 (fun w102 =>
 doSt ((blk b2).add 2) (.bool false) w102 (fun w103 =>
 doSt ((blk b2).add 3) (.bool false) w103 (fun w104 =>
 doSt ((blk b2).add 4) (.bool false) w104 (fun w105 =>
 doSt ((blk b2).add 5) (.bool false) w105 (fun w106 =>
 doSt ((blk b2).add 6) (.bool false) w106 (fun w107 =>
 doSt ((blk b2).add 7) (.bool true) w107 (fun w108 =>
 doSt ((blk b2).add 8) (.bool false) w108 (fun w109 =>
 doSt ((blk b2).add 9) (.bool false) w109 (fun w110 =>
 doSt ((blk b2).add 10) (.bool false) w110 (fun w111 =>
 ∃ x112, w111.cell? ((blk b2).add 0) = some (.bool x112) ∧ (
 ∃ x113, w111.cell? ((blk b2).add 1) = some (.bool x113) ∧ (
 ∃ x114, w111.cell? ((blk b2).add 2) = some (.bool x114) ∧ (
 ∃ x115, w111.cell? ((blk b2).add 3) = some (.bool x115) ∧ (
 ∃ x116, w111.cell? ((blk b2).add 4) = some (.bool x116) ∧ (
 ∃ x117, w111.cell? ((blk b2).add 5) = some (.bool x117) ∧ (
 ∃ x118, w111.cell? ((blk b2).add 6) = some (.bool x118) ∧ (
 ∃ x119, w111.cell? ((blk b2).add 7) = some (.bool x119) ∧ (
 ∃ x120, w111.cell? ((blk b2).add 8) = some (.bool x120) ∧ (
 ∃ x121, w111.cell? ((blk b2).add 9) = some (.bool x121) ∧ (
 ∃ x122, w111.cell? ((blk b2).add 10) = some (.bool x122) ∧ (
 R (.returned (.tuple #[.agg #[.bool x112, .bool x113, .bool x114, .bool x115, .bool x116, .bool x117, .bool x118, .bool x119, .bool x120, .bool x121, .bool x122], .bool true])) w111))))))))))))))))))))))) (
 let K125 : Bool → World → Prop := fun x123 w124 => 
 ifB x123 (
 doSt ((blk b2).add 0) (.bool true) w124 (fun w126 =>
 doSt ((blk b2).add 1) (.bool true) w126 (fun w127 =>
 doSt ((blk b2).add 2) (.bool false) w127 (fun w128 =>
 doSt ((blk b2).add 3) (.bool false) w128 (fun w129 =>
 doSt ((blk b2).add 4) (.bool false) w129 (fun w130 =>
 doSt ((blk b2).add 5) (.bool false) w130 (fun w131 =>
 doSt ((blk b2).add 6) (.bool false) w131 (fun w132 =>
 doSt ((blk b2).add 7) (.bool false) w132 (fun w133 =>
 doSt ((blk b2).add 8) (.bool false) w133 (fun w134 =>
 doSt ((blk b2).add 9) (.bool false) w134 (fun w135 =>
 doSt ((blk b2).add 10) (.bool false) w135 (fun w136 =>
 ∃ x137, w136.cell? ((blk b2).add 0) = some (.bool x137) ∧ (
 ∃ x138, w136.cell? ((blk b2).add 1) = some (.bool x138) ∧ (
 ∃ x139, w136.cell? ((blk b2).add 2) = some (.bool x139) ∧ (
 ∃ x140, w136.cell? ((blk b2).add 3) = some (.bool x140) ∧ (
 ∃ x141, w136.cell? ((blk b2).add 4) = some (.bool x141) ∧ (
 ∃ x142, w136.cell? ((blk b2).add 5) = some (.bool x142) ∧ (
 ∃ x143, w136.cell? ((blk b2).add 6) = some (.bool x143) ∧ (
 ∃ x144, w136.cell? ((blk b2).add 7) = some (.bool x144) ∧ (
 ∃ x145, w136.cell? ((blk b2).add 8) = some (.bool x145) ∧ (
 ∃ x146, w136.cell? ((blk b2).add 9) = some (.bool x146) ∧ (
 ∃ x147, w136.cell? ((blk b2).add 10) = some (.bool x147) ∧ (
 R (.returned (.tuple #[.agg #[.bool x137, .bool x138, .bool x139, .bool x140, .bool x141, .bool x142, .bool x143, .bool x144, .bool x145, .bool x146, .bool x147], .bool true])) w136))))))))))))))))))))))) (
 ifB ((do_1 : Int) == 13) (
 doSt ((blk b2).add 0) (.bool true) w124 (fun w148 =>
 doSt ((blk b2).add 1) (.bool false) w148 (fun w149 =>
 doSt ((blk b2).add 2) (.bool false) w149 (fun w150 =>
 doSt ((blk b2).add 3) (.bool false) w150 (fun w151 =>
 doSt ((blk b2).add 4) (.bool false) w151 (fun w152 =>
 doSt ((blk b2).add 5) (.bool false) w152 (fun w153 =>
 doSt ((blk b2).add 6) (.bool false) w153 (fun w154 =>
 doSt ((blk b2).add 7) (.bool false) w154 (fun w155 =>
 doSt ((blk b2).add 8) (.bool true) w155 (fun w156 =>
 doSt ((blk b2).add 9) (.bool false) w156 (fun w157 =>
 doSt ((blk b2).add 10) (.bool false) w157 (fun w158 =>
 ∃ x159, w158.cell? ((blk b2).add 0) = some (.bool x159) ∧ (
 ∃ x160, w158.cell? ((blk b2).add 1) = some (.bool x160) ∧ (
 ∃ x161, w158.cell? ((blk b2).add 2) = some (.bool x161) ∧ (
 ∃ x162, w158.cell? ((blk b2).add 3) = some (.bool x162) ∧ (
 ∃ x163, w158.cell? ((blk b2).add 4) = some (.bool x163) ∧ (
 ∃ x164, w158.cell? ((blk b2).add 5) = some (.bool x164) ∧ (
 ∃ x165, w158.cell? ((blk b2).add 6) = some (.bool x165) ∧ (
 ∃ x166, w158.cell? ((blk b2).add 7) = some (.bool x166) ∧ (
 ∃ x167, w158.cell? ((blk b2).add 8) = some (.bool x167) ∧ (
 ∃ x168, w158.cell? ((blk b2).add 9) = some (.bool x168) ∧ (
 ∃ x169, w158.cell? ((blk b2).add 10) = some (.bool x169) ∧ (
 R (.returned (.tuple #[.agg #[.bool x159, .bool x160, .bool x161, .bool x162, .bool x163, .bool x164, .bool x165, .bool x166, .bool x167, .bool x168, .bool x169], .bool true])) w158))))))))))))))))))))))) (
 ifB ((do_1 : Int) == 14) (
 doSt ((blk b2).add 0) (.bool true) w124 (fun w170 =>
 doSt ((blk b2).add 1) (.bool false) w170 (fun w171 =>
 doSt ((blk b2).add 2) (.bool false) w171 (fun w172 =>
 doSt ((blk b2).add 3) (.bool false) w172 (fun w173 =>
 doSt ((blk b2).add 4) (.bool false) w173 (fun w174 =>
 doSt ((blk b2).add 5) (.bool false) w174 (fun w175 =>
 doSt ((blk b2).add 6) (.bool false) w175 (fun w176 =>
 doSt ((blk b2).add 7) (.bool true) w176 (fun w177 =>
 doSt ((blk b2).add 8) (.bool false) w177 (fun w178 =>
 doSt ((blk b2).add 9) (.bool true) w178 (fun w179 =>
 doSt ((blk b2).add 10) (.bool false) w179 (fun w180 =>
 ∃ x181, w180.cell? ((blk b2).add 0) = some (.bool x181) ∧ (
 ∃ x182, w180.cell? ((blk b2).add 1) = some (.bool x182) ∧ (
 ∃ x183, w180.cell? ((blk b2).add 2) = some (.bool x183) ∧ (
 ∃ x184, w180.cell? ((blk b2).add 3) = some (.bool x184) ∧ (
 ∃ x185, w180.cell? ((blk b2).add 4) = some (.bool x185) ∧ (
 ∃ x186, w180.cell? ((blk b2).add 5) = some (.bool x186) ∧ (
 ∃ x187, w180.cell? ((blk b2).add 6) = some (.bool x187) ∧ (
 ∃ x188, w180.cell? ((blk b2).add 7) = some (.bool x188) ∧ (
 ∃ x189, w180.cell? ((blk b2).add 8) = some (.bool x189) ∧ (
 ∃ x190, w180.cell? ((blk b2).add 9) = some (.bool x190) ∧ (
 ∃ x191, w180.cell? ((blk b2).add 10) = some (.bool x191) ∧ (
 R (.returned (.tuple #[.agg #[.bool x181, .bool x182, .bool x183, .bool x184, .bool x185, .bool x186, .bool x187, .bool x188, .bool x189, .bool x190, .bool x191], .bool true])) w180))))))))))))))))))))))) (
 ifB ((do_1 : Int) == 15) (
 doSt ((blk b2).add 0) (.bool true) w124 (fun w192 =>
 doSt ((blk b2).add 1) (.bool false) w192 (fun w193 =>
 doSt ((blk b2).add 2) (.bool false) w193 (fun w194 =>
 doSt ((blk b2).add 3) (.bool false) w194 (fun w195 =>
 doSt ((blk b2).add 4) (.bool false) w195 (fun w196 =>
 doSt ((blk b2).add 5) (.bool false) w196 (fun w197 =>
 doSt ((blk b2).add 6) (.bool false) w197 (fun w198 =>
 doSt ((blk b2).add 7) (.bool false) w198 (fun w199 =>
 doSt ((blk b2).add 8) (.bool false) w199 (fun w200 =>
 doSt ((blk b2).add 9) (.bool false) w200 (fun w201 =>
 doSt ((blk b2).add 10) (.bool true) w201 (fun w202 =>
 ∃ x203, w202.cell? ((blk b2).add 0) = some (.bool x203) ∧ (
 ∃ x204, w202.cell? ((blk b2).add 1) = some (.bool x204) ∧ (
 ∃ x205, w202.cell? ((blk b2).add 2) = some (.bool x205) ∧ (
 ∃ x206, w202.cell? ((blk b2).add 3) = some (.bool x206) ∧ (
 ∃ x207, w202.cell? ((blk b2).add 4) = some (.bool x207) ∧ (
 ∃ x208, w202.cell? ((blk b2).add 5) = some (.bool x208) ∧ (
 ∃ x209, w202.cell? ((blk b2).add 6) = some (.bool x209) ∧ (
 ∃ x210, w202.cell? ((blk b2).add 7) = some (.bool x210) ∧ (
 ∃ x211, w202.cell? ((blk b2).add 8) = some (.bool x211) ∧ (
 ∃ x212, w202.cell? ((blk b2).add 9) = some (.bool x212) ∧ (
 ∃ x213, w202.cell? ((blk b2).add 10) = some (.bool x213) ∧ (
 R (.returned (.tuple #[.agg #[.bool x203, .bool x204, .bool x205, .bool x206, .bool x207, .bool x208, .bool x209, .bool x210, .bool x211, .bool x212, .bool x213], .bool true])) w202))))))))))))))))))))))) (
 ifB ((do_1 : Int) == 17) (
 doSt ((blk b2).add 0) (.bool true) w124 (fun w214 =>
 doSt ((blk b2).add 1) (.bool false) w214 (fun w215 =>
 doSt ((blk b2).add 2) (.bool false) w215 (fun w216 =>
 doSt ((blk b2).add 3) (.bool false) w216 (fun w217 =>
 doSt ((blk b2).add 4) (.bool false) w217 (fun w218 =>
 doSt ((blk b2).add 5) (.bool false) w218 (fun w219 =>
 doSt ((blk b2).add 6) (.bool true) w219 (fun w220 =>
 doSt ((blk b2).add 7) (.bool false) w220 (fun w221 =>
 doSt ((blk b2).add 8) (.bool false) w221 (fun w222 =>
 doSt ((blk b2).add 9) (.bool false) w222 (fun w223 =>
 doSt ((blk b2).add 10) (.bool false) w223 (fun w224 =>
 ∃ x225, w224.cell? ((blk b2).add 0) = some (.bool x225) ∧ (
 ∃ x226, w224.cell? ((blk b2).add 1) = some (.bool x226) ∧ (
 ∃ x227, w224.cell? ((blk b2).add 2) = some (.bool x227) ∧ (
 ∃ x228, w224.cell? ((blk b2).add 3) = some (.bool x228) ∧ (
 ∃ x229, w224.cell? ((blk b2).add 4) = some (.bool x229) ∧ (
 ∃ x230, w224.cell? ((blk b2).add 5) = some (.bool x230) ∧ (
 ∃ x231, w224.cell? ((blk b2).add 6) = some (.bool x231) ∧ (
 ∃ x232, w224.cell? ((blk b2).add 7) = some (.bool x232) ∧ (
 ∃ x233, w224.cell? ((blk b2).add 8) = some (.bool x233) ∧ (
 ∃ x234, w224.cell? ((blk b2).add 9) = some (.bool x234) ∧ (
 ∃ x235, w224.cell? ((blk b2).add 10) = some (.bool x235) ∧ (
 R (.returned (.tuple #[.agg #[.bool x225, .bool x226, .bool x227, .bool x228, .bool x229, .bool x230, .bool x231, .bool x232, .bool x233, .bool x234, .bool x235], .bool true])) w224))))))))))))))))))))))) (
 let K238 : Bool → World → Prop := fun x236 w237 => 
 ifB x236 (
 doSt ((blk b2).add 0) (.bool true) w237 (fun w239 =>
 doSt ((blk b2).add 1) (.bool false) w239 (fun w240 =>
 doSt ((blk b2).add 2) (.bool false) w240 (fun w241 =>
 doSt ((blk b2).add 3) (.bool false) w241 (fun w242 =>
 doSt ((blk b2).add 4) (.bool true) w242 (fun w243 =>
 doSt ((blk b2).add 5) (.bool true) w243 (fun w244 =>
 doSt ((blk b2).add 6) (.bool false) w244 (fun w245 =>
 doSt ((blk b2).add 7) (.bool false) w245 (fun w246 =>
 doSt ((blk b2).add 8) (.bool false) w246 (fun w247 =>
 doSt ((blk b2).add 9) (.bool false) w247 (fun w248 =>
 doSt ((blk b2).add 10) (.bool false) w248 (fun w249 =>
 ∃ x250, w249.cell? ((blk b2).add 0) = some (.bool x250) ∧ (
 ∃ x251, w249.cell? ((blk b2).add 1) = some (.bool x251) ∧ (
 ∃ x252, w249.cell? ((blk b2).add 2) = some (.bool x252) ∧ (
 ∃ x253, w249.cell? ((blk b2).add 3) = some (.bool x253) ∧ (
 ∃ x254, w249.cell? ((blk b2).add 4) = some (.bool x254) ∧ (
 ∃ x255, w249.cell? ((blk b2).add 5) = some (.bool x255) ∧ (
 ∃ x256, w249.cell? ((blk b2).add 6) = some (.bool x256) ∧ (
 ∃ x257, w249.cell? ((blk b2).add 7) = some (.bool x257) ∧ (
 ∃ x258, w249.cell? ((blk b2).add 8) = some (.bool x258) ∧ (
 ∃ x259, w249.cell? ((blk b2).add 9) = some (.bool x259) ∧ (
 ∃ x260, w249.cell? ((blk b2).add 10) = some (.bool x260) ∧ (
 R (.returned (.tuple #[.agg #[.bool x250, .bool x251, .bool x252, .bool x253, .bool x254, .bool x255, .bool x256, .bool x257, .bool x258, .bool x259, .bool x260], .bool true])) w249))))))))))))))))))))))) (
 doSt ((blk b2).add 0) (.bool false) w237 (fun w261 =>
 doSt ((blk b2).add 1) (.bool false) w261 (fun w262 =>
 doSt ((blk b2).add 2) (.bool false) w262 (fun w263 =>
 doSt ((blk b2).add 3) (.bool false) w263 (fun w264 =>
 doSt ((blk b2).add 4) (.bool false) w264 (fun w265 =>
 doSt ((blk b2).add 5) (.bool false) w265 (fun w266 =>
 doSt ((blk b2).add 6) (.bool false) w266 (fun w267 =>
 doSt ((blk b2).add 7) (.bool false) w267 (fun w268 =>
 doSt ((blk b2).add 8) (.bool false) w268 (fun w269 =>
 doSt ((blk b2).add 9) (.bool false) w269 (fun w270 =>
 doSt ((blk b2).add 10) (.bool false) w270 (fun w271 =>
 ∃ x272, w271.cell? ((blk b2).add 0) = some (.bool x272) ∧ (
 ∃ x273, w271.cell? ((blk b2).add 1) = some (.bool x273) ∧ (
 ∃ x274, w271.cell? ((blk b2).add 2) = some (.bool x274) ∧ (
 ∃ x275, w271.cell? ((blk b2).add 3) = some (.bool x275) ∧ (
 ∃ x276, w271.cell? ((blk b2).add 4) = some (.bool x276) ∧ (
 ∃ x277, w271.cell? ((blk b2).add 5) = some (.bool x277) ∧ (
 ∃ x278, w271.cell? ((blk b2).add 6) = some (.bool x278) ∧ (
 ∃ x279, w271.cell? ((blk b2).add 7) = some (.bool x279) ∧ (
 ∃ x280, w271.cell? ((blk b2).add 8) = some (.bool x280) ∧ (
 ∃ x281, w271.cell? ((blk b2).add 9) = some (.bool x281) ∧ (
 ∃ x282, w271.cell? ((blk b2).add 10) = some (.bool x282) ∧ (
 R (.returned (.tuple #[.agg #[.bool x272, .bool x273, .bool x274, .bool x275, .bool x276, .bool x277, .bool x278, .bool x279, .bool x280, .bool x281, .bool x282], .bool false])) w271)))))))))))))))))))))))
 ifB ((do_1 : Int) == 18) (
 K238 true w124) (
 ifB ((do_1 : Int) == 19) (
 K238 true w124) (
 K238 ((do_1 : Int) == 20) w124)))))))
 ifB ((do_1 : Int) == 11) (
 K125 true w99) (
 K125 ((do_1 : Int) == 12) w99))
 ifB ((do_1 : Int) == 9) (
 K100 true w52) (
 K100 ((do_1 : Int) == 10) w52)))
 ifB ((do_1 : Int) == 4) (
 K53 true w27) (
 ifB ((do_1 : Int) == 5) (
 K53 true w27) (
 K53 ((do_1 : Int) == 21) w27)))
 ifB ((do_1 : Int) == 2) (
 K28 true w3) (
 ifB ((do_1 : Int) == 3) (
 K28 true w3) (
 ifB ((do_1 : Int) == 6) (
 K28 true w3) (
 ifB ((do_1 : Int) == 7) (
 K28 true w3) (
 ifB ((do_1 : Int) == 16) (
 K28 true w3) (
 K28 ((do_1 : Int) == 22) w3)))))))
theorem sh30_ok (do_1 : Int) {R : EW} {w : World} : sh30 do_1 R w → Calls Tryz.prog 30 #[.int .u8 do_1] w R :=
  ceq Tryz.func30 (by kernel_rfl) (by kernel_rfl)
def sh36 (p_1 : Int) (R : EW) (w : World) : Prop :=
 let K4 : Bool → World → Prop := fun x2 w3 => 
 R (.returned (.bool x2)) w3
 ifB ((p_1 : Int) == 1) (
 R (.returned (.bool true)) w) (
 ifB ((p_1 : Int) == 2) (
 R (.returned (.bool true)) w) (
 K4 ((p_1 : Int) == 3) w))
theorem sh36_ok (p_1 : Int) {R : EW} {w : World} : sh36 p_1 R w → Calls Tryz.prog 36 #[.int .u8 p_1] w R :=
  ceq Tryz.func36 (by kernel_rfl) (by kernel_rfl)
def sh37 (p_1 : Int) (p_2 : Int) (p_3 : Int) (p_4 : Bool) (R : EW) (w : World) : Prop :=
 doAl (.cells #[.int .u8 p_1, .int .i64 p_2, .int .i64 p_3, .bool p_4] 33) w (fun b5 w6 =>
 ∃ x7, w6.cell? ((blk b5).add 0) = some (.int .u8 x7) ∧ (
 ifB ((x7 : Int) == 1) (
 let K10 : Bool → World → Prop := fun x8 w9 => 
 R (.returned (.bool x8)) w9
 ∃ x11, w6.cell? ((blk b5).add 1) = some (.int .i64 x11) ∧ (
 ifB ((x11 : Int) == 0) (
 ∃ x12, w6.cell? ((blk b5).add 2) = some (.int .i64 x12) ∧ (
 K10 ((x12 : Int) == 0) w6)) (
 R (.returned (.bool false)) w6))) (
 let K15 : Bool → World → Prop := fun x13 w14 => 
 ifB x13 (
 R (.returned (.bool true)) w14) (
 ifB ((x7 : Int) == 4) (
 let K18 : Bool → World → Prop := fun x16 w17 => 
 R (.returned (.bool x16)) w17
 ∃ x19, w14.cell? ((blk b5).add 1) = some (.int .i64 x19) ∧ (
 ifB (decide ((x19 : Int) ≥ 1)) (
 ∃ x20, w14.cell? ((blk b5).add 2) = some (.int .i64 x20) ∧ (
 ifB (decide ((x20 : Int) ≥ 0)) (
 ∃ x21, w14.cell? ((blk b5).add 2) = some (.int .i64 x21) ∧ (
 ∃ x22, w14.cell? ((blk b5).add 1) = some (.int .i64 x22) ∧ (
 K18 (decide ((x21 : Int) < x22)) w14))) (
 R (.returned (.bool false)) w14))) (
 R (.returned (.bool false)) w14))) (
 ifB ((x7 : Int) == 5) (
 ∃ x23, w14.cell? ((blk b5).add 2) = some (.int .i64 x23) ∧ (
 ∃ x24, w14.cell? ((blk b5).add 1) = some (.int .i64 x24) ∧ (
 R (.returned (.bool (((bAndNot .u64 (IntKind.wrap .u64 x23) (IntKind.wrap .u64 x24)) : Int) == 0))) w14))) (
 R (.returned (.bool false)) w14)))
 ifB ((x7 : Int) == 2) (
 R (.returned (.bool true)) w6) (
 K15 ((x7 : Int) == 3) w6))))
theorem sh37_ok (p_1 : Int) (p_2 : Int) (p_3 : Int) (p_4 : Bool) {R : EW} {w : World} : sh37 p_1 p_2 p_3 p_4 R w → Calls Tryz.prog 37 #[.agg #[.int .u8 p_1, .int .i64 p_2, .int .i64 p_3, .bool p_4]] w R :=
  ceq Tryz.func37 (by kernel_rfl) (by kernel_rfl)
def sh38 (a_p1 : OA) (a_n2 : Nat) (_a_c3 : Nat) (b_p4 : OA) (b_n5 : Nat) (_b_c6 : Nat) (R : EW) (w : World) : Prop :=
 ifB ((((a_n2 : Nat) : Int) : Int) != ((b_n5 : Nat) : Int)) (
 R (.returned (.bool false)) w) (
 ∃ (I7 : List Value → World → Prop) (μ8 : List Value → World → Nat), I7 [.int .i64 0] w ∧ (∀ (i_11 : Int), ∀ (_j9 : Nat → Value) (w10 : World), I7 [.int .i64 i_11] w10 → (
 ifB (decide ((i_11 : Int) < ((a_n2 : Nat) : Int))) (
 doDr w10 (fun w13 =>
 ∃ (C12 : World → Prop), C12 w13 ∧ (
 doIx a_p1 a_n2 2 (i_11) (fun a14 =>
 ∃ x15, (∀ w, C12 w → w.cell? (a14.add 0) = some (.int .i64 x15)) ∧ (
 ∃ x16, (∀ w, C12 w → w.cell? (a14.add 1) = some (.int .i64 x16)) ∧ (
 doIx b_p4 b_n5 2 (i_11) (fun a17 =>
 ∃ x18, (∀ w, C12 w → w.cell? (a17.add 0) = some (.int .i64 x18)) ∧ (
 ∃ x19, (∀ w, C12 w → w.cell? (a17.add 1) = some (.int .i64 x19)) ∧ (
 ifB (!(((x15 : Int) == x18) && (((x16 : Int) == x19) && true))) (
 R (.returned (.bool false)) w13) (
 I7 [.int .i64 (IntKind.wrap .i64 (i_11 + 1))] w13 ∧ μ8 [.int .i64 (IntKind.wrap .i64 (i_11 + 1))] w13 < μ8 [.int .i64 i_11] w10)))))))))) (
 R (.returned (.bool true)) w10))))
theorem sh38_ok (a_p1 : OA) (a_n2 : Nat) (a_c3 : Nat) (b_p4 : OA) (b_n5 : Nat) (b_c6 : Nat) {R : EW} {w : World} : sh38 a_p1 a_n2 a_c3 b_p4 b_n5 b_c6 R w → Calls Tryz.prog 38 #[.slice a_p1 a_n2 a_c3, .slice b_p4 b_n5 b_c6] w R :=
  Old.calls_of_eq (ann := fun i => if i = 0 then [(5, .int .i64 0)] else []) (fn := Tryz.f38) (c := bodyOf Tryz.f38) (args := #[.slice a_p1 a_n2 a_c3, .slice b_p4 b_n5 b_c6]) 400 follows_mixed Tryz.func38 (by kernel_rfl) (by kernel_rfl)
def sh39 (a_p1 : OA) (a_n2 : Nat) (_a_c3 : Nat) (b_p4 : OA) (b_n5 : Nat) (_b_c6 : Nat) (R : EW) (w : World) : Prop :=
 ifB ((((a_n2 : Nat) : Int) : Int) != ((b_n5 : Nat) : Int)) (
 R (.returned (.bool false)) w) (
 ∃ (I7 : List Value → World → Prop) (μ8 : List Value → World → Nat), I7 [.int .i64 0] w ∧ (∀ (i_11 : Int), ∀ (_j9 : Nat → Value) (w10 : World), I7 [.int .i64 i_11] w10 → (
 ifB (decide ((i_11 : Int) < ((a_n2 : Nat) : Int))) (
 doDr w10 (fun w13 =>
 ∃ (C12 : World → Prop), C12 w13 ∧ (
 doIx a_p1 a_n2 1 (i_11) (fun a14 =>
 ∃ x15, (∀ w, C12 w → w.cell? a14 = some (.int .i64 x15)) ∧ (
 doIx b_p4 b_n5 1 (i_11) (fun a16 =>
 ∃ x17, (∀ w, C12 w → w.cell? a16 = some (.int .i64 x17)) ∧ (
 ifB ((x15 : Int) != x17) (
 R (.returned (.bool false)) w13) (
 I7 [.int .i64 (IntKind.wrap .i64 (i_11 + 1))] w13 ∧ μ8 [.int .i64 (IntKind.wrap .i64 (i_11 + 1))] w13 < μ8 [.int .i64 i_11] w10)))))))) (
 R (.returned (.bool true)) w10))))
theorem sh39_ok (a_p1 : OA) (a_n2 : Nat) (a_c3 : Nat) (b_p4 : OA) (b_n5 : Nat) (b_c6 : Nat) {R : EW} {w : World} : sh39 a_p1 a_n2 a_c3 b_p4 b_n5 b_c6 R w → Calls Tryz.prog 39 #[.slice a_p1 a_n2 a_c3, .slice b_p4 b_n5 b_c6] w R :=
  Old.calls_of_eq (ann := fun i => if i = 0 then [(5, .int .i64 0)] else []) (fn := Tryz.f39) (c := bodyOf Tryz.f39) (args := #[.slice a_p1 a_n2 a_c3, .slice b_p4 b_n5 b_c6]) 400 follows_mixed Tryz.func39 (by kernel_rfl) (by kernel_rfl)
def sh41 (x_1 : Value) (R : EW) (w : World) : Prop :=
 doEqN Tryz.prog .eql 20 (.tmp 6) (.const (.nilIface)) (x_1) (fun b2 =>
 ifB b2 (
 R (.returned (.bool false)) w) (
 doTA Tryz.prog (x_1) 20 129 true w (fun v4 => ∃ x3, v4 = (.tuple #[.agg #[], .bool x3] : Value) ∧ (
 ifB x3 (
 doAl (.cells #[] 129) w (fun _b5 w6 =>
 R (.returned (.bool true)) w6)) (
 doPanic Tryz.prog (x_1) w (kN R))))))
theorem sh41_ok (x_1 : Value) {R : EW} {w : World} : sh41 x_1 R w → Calls Tryz.prog 41 #[x_1] w R :=
  ceq Tryz.func41 (by kernel_rfl) (by kernel_rfl)
def sh42 (is_1 : Bool) (R : EW) (w : World) : Prop :=
 ifB (!is_1) (
 doPanic Tryz.prog (.iface 129 (.agg #[])) w (kN R)) (
 R (.returned (.tuple #[])) w)
theorem sh42_ok (is_1 : Bool) {R : EW} {w : World} : sh42 is_1 R w → Calls Tryz.prog 42 #[.bool is_1] w R :=
  ceq Tryz.func42 (by kernel_rfl) (by kernel_rfl)
def sh51  (R : EW) (w : World) : Prop :=
 doAl (.cells #[.string (⟨#[]⟩ : ByteArray), .string (⟨#[105, 110, 115, 101, 114, 116]⟩ : ByteArray), .string (⟨#[100, 101, 108, 101, 116, 101]⟩ : ByteArray), .string (⟨#[103, 101, 116]⟩ : ByteArray), .string (⟨#[109, 105, 110]⟩ : ByteArray), .string (⟨#[109, 97, 120]⟩ : ByteArray), .string (⟨#[102, 108, 111, 111, 114]⟩ : ByteArray), .string (⟨#[99, 101, 105, 108]⟩ : ByteArray), .string (⟨#[98, 117, 105, 108, 100]⟩ : ByteArray), .string (⟨#[117, 110, 105, 111, 110]⟩ : ByteArray), .string (⟨#[109, 101, 101, 116]⟩ : ByteArray), .string (⟨#[108, 101, 115, 115]⟩ : ByteArray), .string (⟨#[97, 112, 97, 114, 116]⟩ : ByteArray), .string (⟨#[107, 101, 101, 112]⟩ : ByteArray), .string (⟨#[112, 117, 116, 115]⟩ : ByteArray), .string (⟨#[100, 114, 111, 112, 115]⟩ : ByteArray), .string (⟨#[114, 97, 110, 107]⟩ : ByteArray), .string (⟨#[115, 101, 108, 101, 99, 116]⟩ : ByteArray), .string (⟨#[114, 97, 110, 103, 101]⟩ : ByteArray), .string (⟨#[99, 111, 117, 110, 116]⟩ : ByteArray), .string (⟨#[115, 117, 109]⟩ : ByteArray), .string (⟨#[108, 105, 115, 116]⟩ : ByteArray), .string (⟨#[115, 112, 108, 105, 116]⟩ : ByteArray)] 9) w (fun b1 w2 =>
 R (.returned (.slice (some (blk b1)) 23 23)) w2)
theorem sh51_ok  {R : EW} {w : World} : sh51  R w → Calls Tryz.prog 51 #[] w R :=
  ceq Tryz.func51 (by kernel_rfl) (by kernel_rfl)
def sh52 (f_1 : OA) (f_2 : Value) (R : EW) (w : World) : Prop :=
 doAl (.cells #[.pointer f_1, f_2] 103) w (fun b3 w4 =>
 ∃ x5, w4.cell? ((blk b3).add 0) = some (.pointer x5) ∧ (
 ∃ q6, x5 = some q6 ∧ (
 ∃ x7, w4.cell? (q6.add 0) = some (.int .u8 x7) ∧ (
 ifB ((x7 : Int) == 1) (
 ∃ x8, w4.cell? ((blk b3).add 0) = some (.pointer x8) ∧ (
 ∃ x9, w4.cell? ((blk b3).add 1) = some (x9) ∧ (
 ∃ x10, w4.cell? ((blk b3).add 0) = some (.pointer x10) ∧ (
 ∃ x11, w4.cell? ((blk b3).add 1) = some (x11) ∧ (
 ∃ x12, w4.cell? ((blk b3).add 0) = some (.pointer x12) ∧ (
 ∃ x13, w4.cell? ((blk b3).add 1) = some (x13) ∧ (
 ∃ x14, w4.cell? ((blk b3).add 0) = some (.pointer x14) ∧ (
 ∃ x15, w4.cell? ((blk b3).add 1) = some (x15) ∧ (
 doAl (.cells #[.func (.func 69) #[.agg #[.pointer x8, x9]] #[], .func (.func 70) #[.agg #[.pointer x10, x11]] #[], .func (.func 71) #[.agg #[.pointer x12, x13]] #[], .func (.func 72) #[.agg #[.pointer x14, x15]] #[]] 1) w4 (fun b16 w17 =>
 R (.returned (.slice (some (blk b16)) 4 4)) w17)))))))))) (
 let K20 : Bool → World → Prop := fun x18 w19 => 
 ifB x18 (
 ∃ x21, w19.cell? ((blk b3).add 0) = some (.pointer x21) ∧ (
 ∃ x22, w19.cell? ((blk b3).add 1) = some (x22) ∧ (
 ∃ x23, w19.cell? ((blk b3).add 0) = some (.pointer x23) ∧ (
 ∃ x24, w19.cell? ((blk b3).add 1) = some (x24) ∧ (
 doAl (.cells #[.func (.func 69) #[.agg #[.pointer x21, x22]] #[], .func (.func 70) #[.agg #[.pointer x23, x24]] #[]] 1) w19 (fun b25 w26 =>
 R (.returned (.slice (some (blk b25)) 2 2)) w26)))))) (
 let K29 : Bool → World → Prop := fun x27 w28 => 
 ifB x27 (
 ∃ x30, w28.cell? ((blk b3).add 0) = some (.pointer x30) ∧ (
 ∃ x31, w28.cell? ((blk b3).add 1) = some (x31) ∧ (
 doAl (.cells #[.func (.func 69) #[.agg #[.pointer x30, x31]] #[]] 1) w28 (fun b32 w33 =>
 R (.returned (.slice (some (blk b32)) 1 1)) w33)))) (
 ifB ((x7 : Int) == 8) (
 ∃ x34, w28.cell? ((blk b3).add 0) = some (.pointer x34) ∧ (
 ∃ x35, w28.cell? ((blk b3).add 1) = some (x35) ∧ (
 ∃ x36, w28.cell? ((blk b3).add 0) = some (.pointer x36) ∧ (
 ∃ x37, w28.cell? ((blk b3).add 1) = some (x37) ∧ (
 doAl (.cells #[.func (.func 72) #[.agg #[.pointer x34, x35]] #[], .func (.func 73) #[.agg #[.pointer x36, x37]] #[]] 1) w28 (fun b38 w39 =>
 R (.returned (.slice (some (blk b38)) 2 2)) w39)))))) (
 let K42 : Bool → World → Prop := fun x40 w41 => 
 ifB x40 (
 ∃ x43, w41.cell? ((blk b3).add 0) = some (.pointer x43) ∧ (
 ∃ x44, w41.cell? ((blk b3).add 1) = some (x44) ∧ (
 ∃ x45, w41.cell? ((blk b3).add 0) = some (.pointer x45) ∧ (
 ∃ x46, w41.cell? ((blk b3).add 1) = some (x46) ∧ (
 ∃ x47, w41.cell? ((blk b3).add 0) = some (.pointer x47) ∧ (
 ∃ x48, w41.cell? ((blk b3).add 1) = some (x48) ∧ (
 doAl (.cells #[.func (.func 69) #[.agg #[.pointer x43, x44]] #[], .func (.func 74) #[.agg #[.pointer x45, x46]] #[], .func (.func 72) #[.agg #[.pointer x47, x48]] #[]] 1) w41 (fun b49 w50 =>
 R (.returned (.slice (some (blk b49)) 3 3)) w50)))))))) (
 let K53 : Bool → World → Prop := fun x51 w52 => 
 ifB x51 (
 ∃ x54, w52.cell? ((blk b3).add 0) = some (.pointer x54) ∧ (
 ∃ x55, w52.cell? ((blk b3).add 1) = some (x55) ∧ (
 ∃ x56, w52.cell? ((blk b3).add 0) = some (.pointer x56) ∧ (
 ∃ x57, w52.cell? ((blk b3).add 1) = some (x57) ∧ (
 doAl (.cells #[.func (.func 69) #[.agg #[.pointer x54, x55]] #[], .func (.func 74) #[.agg #[.pointer x56, x57]] #[]] 1) w52 (fun b58 w59 =>
 R (.returned (.slice (some (blk b58)) 2 2)) w59)))))) (
 ifB ((x7 : Int) == 13) (
 ∃ x60, w52.cell? ((blk b3).add 0) = some (.pointer x60) ∧ (
 ∃ x61, w52.cell? ((blk b3).add 1) = some (x61) ∧ (
 ∃ x62, w52.cell? ((blk b3).add 0) = some (.pointer x62) ∧ (
 ∃ x63, w52.cell? ((blk b3).add 1) = some (x63) ∧ (
 doAl (.cells #[.func (.func 69) #[.agg #[.pointer x60, x61]] #[], .func (.func 75) #[.agg #[.pointer x62, x63]] #[]] 1) w52 (fun b64 w65 =>
 R (.returned (.slice (some (blk b64)) 2 2)) w65)))))) (
 ifB ((x7 : Int) == 14) (
 ∃ x66, w52.cell? ((blk b3).add 0) = some (.pointer x66) ∧ (
 ∃ x67, w52.cell? ((blk b3).add 1) = some (x67) ∧ (
 ∃ x68, w52.cell? ((blk b3).add 0) = some (.pointer x68) ∧ (
 ∃ x69, w52.cell? ((blk b3).add 1) = some (x69) ∧ (
 ∃ x70, w52.cell? ((blk b3).add 0) = some (.pointer x70) ∧ (
 ∃ x71, w52.cell? ((blk b3).add 1) = some (x71) ∧ (
 doAl (.cells #[.func (.func 69) #[.agg #[.pointer x66, x67]] #[], .func (.func 72) #[.agg #[.pointer x68, x69]] #[], .func (.func 73) #[.agg #[.pointer x70, x71]] #[]] 1) w52 (fun b72 w73 =>
 R (.returned (.slice (some (blk b72)) 3 3)) w73)))))))) (
 ifB ((x7 : Int) == 15) (
 ∃ x74, w52.cell? ((blk b3).add 0) = some (.pointer x74) ∧ (
 ∃ x75, w52.cell? ((blk b3).add 1) = some (x75) ∧ (
 ∃ x76, w52.cell? ((blk b3).add 0) = some (.pointer x76) ∧ (
 ∃ x77, w52.cell? ((blk b3).add 1) = some (x77) ∧ (
 doAl (.cells #[.func (.func 69) #[.agg #[.pointer x74, x75]] #[], .func (.func 76) #[.agg #[.pointer x76, x77]] #[]] 1) w52 (fun b78 w79 =>
 R (.returned (.slice (some (blk b78)) 2 2)) w79)))))) (
 ifB ((x7 : Int) == 17) (
 ∃ x80, w52.cell? ((blk b3).add 0) = some (.pointer x80) ∧ (
 ∃ x81, w52.cell? ((blk b3).add 1) = some (x81) ∧ (
 ∃ x82, w52.cell? ((blk b3).add 0) = some (.pointer x82) ∧ (
 ∃ x83, w52.cell? ((blk b3).add 1) = some (x83) ∧ (
 doAl (.cells #[.func (.func 69) #[.agg #[.pointer x80, x81]] #[], .func (.func 77) #[.agg #[.pointer x82, x83]] #[]] 1) w52 (fun b84 w85 =>
 R (.returned (.slice (some (blk b84)) 2 2)) w85)))))) (
 let K88 : Bool → World → Prop := fun x86 w87 => 
 ifB x86 (
 ∃ x89, w87.cell? ((blk b3).add 0) = some (.pointer x89) ∧ (
 ∃ x90, w87.cell? ((blk b3).add 1) = some (x90) ∧ (
 ∃ x91, w87.cell? ((blk b3).add 0) = some (.pointer x91) ∧ (
 ∃ x92, w87.cell? ((blk b3).add 1) = some (x92) ∧ (
 ∃ x93, w87.cell? ((blk b3).add 0) = some (.pointer x93) ∧ (
 ∃ x94, w87.cell? ((blk b3).add 1) = some (x94) ∧ (
 doAl (.cells #[.func (.func 69) #[.agg #[.pointer x89, x90]] #[], .func (.func 78) #[.agg #[.pointer x91, x92]] #[], .func (.func 79) #[.agg #[.pointer x93, x94]] #[]] 1) w87 (fun b95 w96 =>
 R (.returned (.slice (some (blk b95)) 3 3)) w96)))))))) (
 R (.returned (.slice none 0 0)) w87)
 ifB ((x7 : Int) == 18) (
 K88 true w52) (
 ifB ((x7 : Int) == 19) (
 K88 true w52) (
 K88 ((x7 : Int) == 20) w52)))))))
 ifB ((x7 : Int) == 11) (
 K53 true w41) (
 K53 ((x7 : Int) == 12) w41))
 ifB ((x7 : Int) == 9) (
 K42 true w28) (
 K42 ((x7 : Int) == 10) w28)))
 ifB ((x7 : Int) == 4) (
 ∃ x97, w19.cell? ((blk b3).add 0) = some (.pointer x97) ∧ (
 ∃ x98, w19.cell? ((blk b3).add 1) = some (x98) ∧ (
 doAl (.cells #[.func (.func 69) #[.agg #[.pointer x97, x98]] #[]] 1) w19 (fun b99 w100 =>
 R (.returned (.slice (some (blk b99)) 1 1)) w100)))) (
 ifB ((x7 : Int) == 5) (
 ∃ x101, w19.cell? ((blk b3).add 0) = some (.pointer x101) ∧ (
 ∃ x102, w19.cell? ((blk b3).add 1) = some (x102) ∧ (
 doAl (.cells #[.func (.func 69) #[.agg #[.pointer x101, x102]] #[]] 1) w19 (fun b103 w104 =>
 R (.returned (.slice (some (blk b103)) 1 1)) w104)))) (
 K29 ((x7 : Int) == 21) w19)))
 ifB ((x7 : Int) == 2) (
 K20 true w4) (
 ifB ((x7 : Int) == 3) (
 K20 true w4) (
 ifB ((x7 : Int) == 6) (
 K20 true w4) (
 ifB ((x7 : Int) == 7) (
 K20 true w4) (
 ifB ((x7 : Int) == 16) (
 K20 true w4) (
 K20 ((x7 : Int) == 22) w4))))))))))
theorem sh52_ok (f_1 : OA) (f_2 : Value) {R : EW} {w : World} : sh52 f_1 f_2 R w → Calls Tryz.prog 52 #[.agg #[.pointer f_1, f_2]] w R :=
  ceq Tryz.func52 (by kernel_rfl) (by kernel_rfl)
end Go.Proofs.YtmkpkmdnapccgaaGreatDoor

