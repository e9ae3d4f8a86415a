/-
  A function's code in two parts, each evaluated by itself. No claim of its own.
-/
import Derived.Test.YtmdboekndjlmgaaGreatZ04
import Derived.Test.YtmdboekndjlmgaaGreatProg
import Derived.Test.YtmdboekndjlmgaaGreatZ05
import Derived.Test.YtmdboekndjlmgaaGreatZ30

set_option maxRecDepth 100000
set_option maxHeartbeats 6400000
namespace Go.Sh.Old
open Go Go.Sh

def seqL : List Code → Code → Code
  | [], y => y
  | x :: xs, y => .seq x (seqL xs y)
def headsC : Nat → Code → List Code
  | k + 1, .seq x y => x :: headsC k y
  | _, _ => []
def tailC : Nat → Code → Code
  | k + 1, .seq _ y => tailC k y
  | _, c => c
theorem seqL_split : ∀ (k : Nat) (c : Code), seqL (headsC k c) (tailC k c) = c
  | 0, c => by cases c <;> rfl
  | k + 1, c => by
    cases c with
    | seq x y => simp only [headsC, tailC, seqL, seqL_split k y]
    | _ => rfl
section
variable {P : Program} {ann : Nat → List (Nat × Value)} {ro : Option Nat} {Kp : List PanicEntry → List Deferred → World → Prop}
def evs (P : Program) (ann : Nat → List (Nat × Value)) (ro : Option Nat) (Kp : List PanicEntry → List Deferred → World → Prop) (n : Nat) : List Code → (Exit → Act → World → Prop) → (Act → World → Prop) → Act → World → Prop
  | [], _, K => K
  | x :: xs, Q, K => ev P ann ro Kp n 0 x (Exit.then (evs P ann ro Kp n xs Q K) Q)
theorem evs_soundF (hm : P.follows .mixedOrders = true) {n : Nat} {y : Code} {Q : Exit → Act → World → Prop} {K : Act → World → Prop} :
    ∀ (xs : List Code) (a : Act) (w : World), xs.all noRF = true → (∀ a' w', K a' w' → a'.tmps.size = a.tmps.size → a'.defers = a.defers → y.wpIn (fen ro) 0 P (full Q Kp) a' w') → evs P ann ro Kp n xs Q K a w → (seqL xs y).wpIn (fen ro) 0 P (full Q Kp) a w
  | [], a, w, _, hK, h => hK a w h rfl rfl
  | x :: xs, a, w, hx, hK, h => by
    rw [List.all_cons, Bool.and_eq_true] at hx
    refine wpIn_seq (wpIn_mono (ev_sound hm n 0 x _ a w h) ?_)
    intro e a' w' he
    cases e with
    | normal =>
      have hf := he.2 hx.1
      exact evs_soundF hm xs a' w' hx.2 (fun a2 w2 h2 hs hd => hK a2 w2 h2 (hs.trans hf.size) (hd.trans hf.defers)) he.1
    | panic ch => exact he
    | outgrown => exact he
    | ret => exact he.1
    | exit id => exact he.1
    | goto l => exact he.1
theorem wp_part (hm : P.follows .mixedOrders = true) {n k : Nat} {c : Code} {Q : Exit → Act → World → Prop} {K : List Value → World → Prop} {is : List Nat} {a : Act} {w : World} {X : Prop} (hx : (headsC k c).all noRF = true)
    (e : evs P ann ro Kp n (headsC k c) Q (fun a w => K (getAll is a.tmps) w) a w = X)
    (hK : ∀ a' w', K (getAll is a'.tmps) w' → a'.tmps.size = a.tmps.size → a'.defers = a.defers → (tailC k c).wpIn (fen ro) 0 P (full Q Kp) a' w') (h : X) : c.wpIn (fen ro) 0 P (full Q Kp) a w := by
  rw [← e] at h
  have := evs_soundF hm (headsC k c) a w hx hK h
  rwa [seqL_split] at this
theorem wp_last (hm : P.follows .mixedOrders = true) {n : Nat} {c : Code} {Q : Exit → Act → World → Prop} {a : Act} {w : World} {X : Prop} (e : ev P ann ro Kp n 0 c Q a w = X) (h : X) : c.wpIn (fen ro) 0 P (full Q Kp) a w :=
  wpIn_mono (ev_sound hm n 0 _ _ a w (e ▸ h)) (full_mono fun e a' w' hq => hq.1)
theorem arr_lit {t : Array Value} {n : Nat} (hs : t.size = n) : t = ((List.range n).map fun i => t.getD i undef).toArray := by
  subst hs
  apply Array.ext_getElem?
  intro i
  simp only [List.getElem?_toArray, List.getElem?_map, List.getElem?_range, Array.getD_eq_getD_getElem?]
  rcases Nat.lt_or_ge i t.size with h | h
  · simp [h]
  · simp [h, Nat.not_lt.2 h]
end
theorem calls_of_wp {P : Program} {f : FuncId} {fn : Func} {c : Code} {args : Array Value} {w : World} {R : EW}
    (hf : P.funcs[f]? = some fn) (hb : fn.body = some c)
    (hw : c.wpIn (fen none) 0 P (full (Qfn P fn R) (Kfn R)) { tmps := args ++ Array.replicate (fn.ntmps - args.size) undef, defers := [] } w) : Calls P f args w R := by
  refine (callsIn_wide (n := 0)).1 (callsIn_of_wp_marks hf hb trivial (wpIn_mono hw ?_))
  intro e a' w' he
  cases e with
  | normal =>
    refine leaveW_sound (by simp) he fun w'' hr => ?_
    obtain ⟨vs, hF, hr⟩ := results_of_resL hr
    exact ⟨_, hr, hF⟩
  | ret =>
    refine leaveW_sound (by simp) he fun w'' hr => ?_
    obtain ⟨vs, hF, hr⟩ := results_of_resL hr
    exact ⟨_, hr, hF⟩
  | panic ch => exact leaveW_sound (by simp) he fun w'' hr => hr
  | outgrown => exact he.elim
  | exit id => exact he.elim
  | goto l => exact he.elim
end Go.Sh.Old

namespace Go.Proofs.YtmdboekndjlmgaaGreat
open Go Go.Sh
def sh3b2 (o_1 : Int) (l_p2 : OA) (l_n3 : Nat) (l_c4 : Nat) (key_5 : Int) (val_6 : Int) (lo_7 : Int) (hi_8 : Int) (r_p9 : OA) (r_n10 : Nat) (_r_c11 : Nat) (R : EW) (w : World) : Prop :=
 doIx r_p9 r_n10 7 (9) (fun a12 =>
 ∃ x13, w.cell? (a12.add 4) = some (.int .i64 x13) ∧ (
 doAl (.cells #[.int .u8 8, .int .i64 0, .int .i64 0, .int .i64 0, .int .i64 0, .int .i64 0, .int .i64 0, .int .i64 0, .int .u8 2, .int .u8 0, .int .i64 0, .int .i64 0, .bool false, .slice l_p2 l_n3 l_c4, .slice none 0 0, .int .u8 1, .int .i64 1, .int .i64 0, .int .i64 key_5, .int .i64 val_6, .int .i64 0, .int .i64 0, .int .i64 0, .int .u8 2, .int .u8 0, .int .i64 0, .int .i64 0, .bool false, .slice none 0 0, .slice none 0 0, .int .u8 17, .int .i64 2, .int .i64 0, .int .i64 0, .int .i64 0, .int .i64 0, .int .i64 0, .int .i64 x13, .int .u8 0, .int .u8 0, .int .i64 0, .int .i64 0, .bool false, .slice none 0 0, .slice none 0 0] 30) w (fun b14 w15 =>
 doCall Tryz.prog (.func (.func 7) #[] #[]) #[.int .u8 o_1, .slice (some (blk b14)) 3 3] w15 (retS (fun v19 w20 => ∃ xp16 xn17 xc18, v19 = (.slice xp16 xn17 xc18 : Value) ∧ (
 let K23 : Bool → World → Prop := fun x21 w22 => 
 ifB x21 (
 R (.returned (.bool false)) w22) (
 doCall Tryz.prog (.func (.func 9) #[] #[]) #[.int .u8 o_1, .int .i64 hi_8, .int .i64 lo_7] w22 (retS (fun v25 w26 => ∃ x24, v25 = (.int .i64 x24 : Value) ∧ (
 ifB (decide ((x24 : Int) < 0)) (
 let K29 : Bool → World → Prop := fun x27 w28 => 
 R (.returned (.bool x27)) w28
 doIx r_p9 r_n10 7 (10) (fun a30 =>
 ∃ x31, w26.cell? (a30.add 0) = some (.int .i64 x31) ∧ (
 ifB ((x31 : Int) == 330) (
 doIx r_p9 r_n10 7 (11) (fun a32 =>
 ∃ x33, w26.cell? (a32.add 0) = some (.int .i64 x33) ∧ (
 ifB ((x33 : Int) == 330) (
 doIx r_p9 r_n10 7 (12) (fun a34 =>
 ∃ x35, w26.cell? (a34.add 0) = some (.int .i64 x35) ∧ (
 ifB ((x35 : Int) == 330) (
 doCall Tryz.prog (.func (.func 6) #[] #[]) #[] w26 (retS (fun v37 w38 => ∃ x36, v37 = (.bool x36 : Value) ∧ (
 K29 x36 w38)) (kN R))) (
 R (.returned (.bool false)) w26)))) (
 R (.returned (.bool false)) w26)))) (
 R (.returned (.bool false)) w26)))) (
 let K41 : Bool → World → Prop := fun x39 w40 => 
 R (.returned (.bool x39)) w40
 doDr w26 (fun w43 =>
 ∃ (C42 : World → Prop), C42 w43 ∧ (
 doIx r_p9 r_n10 7 (10) (fun a44 =>
 ∃ x45, (∀ w, C42 w → w.cell? (a44.add 0) = some (.int .i64 x45)) ∧ (
 ifB ((x45 : Int) == 0) (
 doIx r_p9 r_n10 7 (10) (fun a46 =>
 ∃ x47, (∀ w, C42 w → w.cell? (a46.add 4) = some (.int .i64 x47)) ∧ (
 doIx r_p9 r_n10 7 (11) (fun a48 =>
 ∃ x49, (∀ w, C42 w → w.cell? (a48.add 4) = some (.int .i64 x49)) ∧ (
 ifB ((x47 : Int) == x49) (
 doIx r_p9 r_n10 7 (11) (fun a50 =>
 ∃ x51, (∀ w, C42 w → w.cell? (a50.add 0) = some (.int .i64 x51)) ∧ (
 ifB ((x51 : Int) == 0) (
 doIx r_p9 r_n10 7 (12) (fun a52 =>
 ∃ x53, (∀ w, C42 w → w.cell? (a52.add 0) = some (.int .i64 x53)) ∧ (
 ifB ((x53 : Int) == 0) (
 doCall Tryz.prog (.func (.func 6) #[] #[]) #[] w43 (retS (fun v55 w56 => ∃ x54, v55 = (.bool x54 : Value) ∧ (
 C42 w56 ∧ (
 K41 x54 w56))) (kN R))) (
 R (.returned (.bool false)) w43)))) (
 R (.returned (.bool false)) w43)))) (
 R (.returned (.bool false)) w43)))))) (
 R (.returned (.bool false)) w43)))))))) (kN R)))
 ifB ((((xn17 : Nat) : Int) : Int) != 3) (
 R (.returned (.bool false)) w20) (
 doIx xp16 xn17 7 (2) (fun a57 =>
 ∃ x58, w20.cell? (a57.add 1) = some (.bool x58) ∧ (
 ifB (!x58) (
 R (.returned (.bool false)) w20) (
 doIx xp16 xn17 7 (2) (fun a59 =>
 ∃ x60, w20.cell? (a59.add 2) = some (.int .i64 x60) ∧ (
 ifB ((x60 : Int) != key_5) (
 R (.returned (.bool false)) w20) (
 doIx xp16 xn17 7 (2) (fun a61 =>
 ∃ x62, w20.cell? (a61.add 3) = some (.int .i64 x62) ∧ (
 K23 ((x62 : Int) != val_6) w20))))))))))) (kN R)))))
def sh3k2 (R : EW) : List Value → World → Prop := fun vs w => ∃ (o_1 : Int), ∃ (l_p2 : OA), ∃ (l_n3 : Nat), ∃ (l_c4 : Nat), ∃ (key_5 : Int), ∃ (val_6 : Int), ∃ (lo_7 : Int), ∃ (hi_8 : Int), ∃ (r_p9 : OA), ∃ (r_n10 : Nat), ∃ (r_c11 : Nat), vs = [.int .u8 o_1, .slice l_p2 l_n3 l_c4, .int .i64 key_5, .int .i64 val_6, .int .i64 lo_7, .int .i64 hi_8, .slice r_p9 r_n10 r_c11] ∧ sh3b2 o_1 l_p2 l_n3 l_c4 key_5 val_6 lo_7 hi_8 r_p9 r_n10 r_c11 R w
theorem sh3b2_wp {j : Nat → Value} (o_1 : Int) (l_p2 : OA) (l_n3 : Nat) (l_c4 : Nat) (key_5 : Int) (val_6 : Int) (lo_7 : Int) (hi_8 : Int) (r_p9 : OA) (r_n10 : Nat) (r_c11 : Nat) {R : EW} {w : World} (g0 : j 0 = (.int .u8 o_1 : Value)) (g1 : j 1 = (.slice l_p2 l_n3 l_c4 : Value)) (g2 : j 2 = (.int .i64 key_5 : Value)) (g3 : j 3 = (.int .i64 val_6 : Value)) (g4 : j 4 = (.int .i64 lo_7 : Value)) (g5 : j 5 = (.int .i64 hi_8 : Value)) (g13 : j 13 = (.slice r_p9 r_n10 r_c11 : Value)) (h : sh3b2 o_1 l_p2 l_n3 l_c4 key_5 val_6 lo_7 hi_8 r_p9 r_n10 r_c11 R w) : Code.wpIn (fen none) 0 Tryz.prog (Old.tailC 6 (bodyOf Tryz.f3)) (Old.full (Qfn Tryz.prog Tryz.f3 R) (Kfn R)) { tmps := #[j 0, j 1, j 2, j 3, j 4, j 5, j 6, j 7, j 8, j 9, j 10, j 11, j 12, j 13, j 14, j 15, j 16, j 17, j 18, j 19, j 20, j 21, j 22, j 23, j 24, j 25, j 26, j 27, j 28, j 29, j 30, j 31, j 32, j 33, j 34, j 35, j 36, j 37, j 38, j 39, j 40, j 41, j 42, j 43, j 44, j 45, j 46, j 47, j 48, j 49, j 50, j 51, j 52, j 53, j 54, j 55, j 56, j 57, j 58, j 59, j 60, j 61, j 62, j 63, j 64, j 65, j 66, j 67, j 68, j 69, j 70, j 71, j 72, j 73, j 74, j 75, j 76, j 77, j 78, j 79, j 80, j 81, j 82, j 83, j 84, j 85, j 86, j 87, j 88, j 89, j 90, j 91, j 92, j 93, j 94, j 95, j 96, j 97, j 98, j 99, j 100, j 101, j 102, j 103, j 104, j 105, j 106, j 107, j 108, j 109, j 110, j 111, j 112, j 113, j 114, j 115, j 116, j 117, j 118, j 119, j 120, j 121, j 122, j 123, j 124, j 125, j 126, j 127, j 128, j 129, j 130, j 131, j 132, j 133, j 134, j 135, j 136, j 137, j 138, j 139, j 140, j 141, j 142, j 143, j 144, j 145, j 146, j 147, j 148, j 149, j 150, j 151, j 152, j 153, j 154, j 155, j 156, j 157, j 158, j 159, j 160, j 161, j 162, j 163, j 164, j 165, j 166, j 167, j 168, j 169, j 170, j 171, j 172, j 173, j 174, j 175, j 176, j 177, j 178, j 179, j 180, j 181, j 182, j 183, j 184, j 185, j 186, j 187, j 188, j 189, j 190, j 191, j 192, j 193, j 194, j 195, j 196, j 197, j 198, j 199, j 200, j 201, j 202, j 203, j 204, j 205, j 206, j 207, j 208, j 209, j 210, j 211, j 212, j 213, j 214, j 215, j 216, j 217, j 218, j 219, j 220, j 221, j 222, j 223, j 224, j 225, j 226, j 227, j 228, j 229, j 230, j 231, j 232, j 233, j 234, j 235, j 236], defers := [] } w := by
  rw [g0, g1, g2, g3, g4, g5, g13]
  exact Old.wp_last (ann := fun _ => []) (n := 400) (X := sh3b2 o_1 l_p2 l_n3 l_c4 key_5 val_6 lo_7 hi_8 r_p9 r_n10 r_c11 R w) follows_mixed (by kernel_rfl) h
def sh3b1 (o_1 : Int) (l_p2 : OA) (l_n3 : Nat) (l_c4 : Nat) (key_5 : Int) (val_6 : Int) (lo_7 : Int) (hi_8 : Int) (r_p9 : OA) (r_n10 : Nat) (r_c11 : Nat) (R : EW) (w : World) : Prop :=
 let K14 : Bool → World → Prop := fun x12 w13 => 
 ifB x12 (
 R (.returned (.bool false)) w13) (
 let K17 : Bool → World → Prop := fun x15 w16 => 
 ifB x15 (
 R (.returned (.bool false)) w16) (
 sh3k2 R [.int .u8 o_1, .slice l_p2 l_n3 l_c4, .int .i64 key_5, .int .i64 val_6, .int .i64 lo_7, .int .i64 hi_8, .slice r_p9 r_n10 r_c11] w16)
 doDr w13 (fun w19 =>
 ∃ (C18 : World → Prop), C18 w19 ∧ (
 doIx r_p9 r_n10 7 (2) (fun a20 =>
 ∃ x21, (∀ w, C18 w → w.cell? (a20.add 1) = some (.bool x21)) ∧ (
 ifB (!x21) (
 R (.returned (.bool false)) w19) (
 doIx r_p9 r_n10 7 (2) (fun a22 =>
 ∃ x23, (∀ w, C18 w → w.cell? (a22.add 3) = some (.int .i64 x23)) ∧ (
 ifB ((x23 : Int) != val_6) (
 R (.returned (.bool false)) w19) (
 doIx r_p9 r_n10 7 (4) (fun a24 =>
 ∃ x25, (∀ w, C18 w → w.cell? (a24.add 1) = some (.bool x25)) ∧ (
 ifB x25 (
 R (.returned (.bool false)) w19) (
 doIx r_p9 r_n10 7 (3) (fun a26 =>
 ∃ x27, (∀ w, C18 w → w.cell? (a26.add 1) = some (.bool x27)) ∧ (
 ifB (!x27) (
 R (.returned (.bool false)) w19) (
 doIx r_p9 r_n10 7 (3) (fun a28 =>
 ∃ x29, (∀ w, C18 w → w.cell? (a28.add 3) = some (.int .i64 x29)) ∧ (
 ifB ((x29 : Int) != val_6) (
 R (.returned (.bool false)) w19) (
 doIx r_p9 r_n10 7 (5) (fun a30 =>
 ∃ x31, (∀ w, C18 w → w.cell? (a30.add 1) = some (.bool x31)) ∧ (
 ifB (!x31) (
 R (.returned (.bool false)) w19) (
 doIx r_p9 r_n10 7 (5) (fun a32 =>
 ∃ x33, (∀ w, C18 w → w.cell? (a32.add 3) = some (.int .i64 x33)) ∧ (
 ifB ((x33 : Int) != val_6) (
 R (.returned (.bool false)) w19) (
 doIx r_p9 r_n10 7 (7) (fun a34 =>
 ∃ xp35 xn36 xc37, (∀ w, C18 w → w.cell? (a34.add 6) = some (.slice xp35 xn36 xc37)) ∧ (
 doIx r_p9 r_n10 7 (8) (fun a38 =>
 ∃ xp39 xn40 xc41, (∀ w, C18 w → w.cell? (a38.add 6) = some (.slice xp39 xn40 xc41)) ∧ (
 doCall Tryz.prog (.func (.func 8) #[] #[]) #[.slice xp35 xn36 xc37, .slice xp39 xn40 xc41] w19 (retS (fun v43 w44 => ∃ x42, v43 = (.bool x42 : Value) ∧ (
 C18 w44 ∧ (
 ifB (!x42) (
 R (.returned (.bool false)) w44) (
 doIx r_p9 r_n10 7 (9) (fun a45 =>
 ∃ x46, (∀ w, C18 w → w.cell? (a45.add 1) = some (.bool x46)) ∧ (
 K17 (!x46) w44)))))) (kN R))))))))))))))))))))))))))))))
 ifB ((((r_n10 : Nat) : Int) : Int) != 13) (
 R (.returned (.bool false)) w) (
 doIx r_p9 r_n10 7 (0) (fun a47 =>
 ∃ x48, w.cell? (a47.add 0) = some (.int .i64 x48) ∧ (
 ifB ((x48 : Int) != 0) (
 R (.returned (.bool false)) w) (
 doIx r_p9 r_n10 7 (5) (fun a49 =>
 ∃ xp50 xn51 xc52, w.cell? (a49.add 5) = some (.slice xp50 xn51 xc52) ∧ (
 K14 ((((xn51 : Nat) : Int) : Int) != 2) w))))))
def sh3k1 (R : EW) : List Value → World → Prop := fun vs w => ∃ (o_1 : Int), ∃ (l_p2 : OA), ∃ (l_n3 : Nat), ∃ (l_c4 : Nat), ∃ (key_5 : Int), ∃ (val_6 : Int), ∃ (lo_7 : Int), ∃ (hi_8 : Int), ∃ (r_p9 : OA), ∃ (r_n10 : Nat), ∃ (r_c11 : Nat), vs = [.int .u8 o_1, .slice l_p2 l_n3 l_c4, .int .i64 key_5, .int .i64 val_6, .int .i64 lo_7, .int .i64 hi_8, .slice r_p9 r_n10 r_c11] ∧ sh3b1 o_1 l_p2 l_n3 l_c4 key_5 val_6 lo_7 hi_8 r_p9 r_n10 r_c11 R w
theorem sh3b1_wp {j : Nat → Value} (o_1 : Int) (l_p2 : OA) (l_n3 : Nat) (l_c4 : Nat) (key_5 : Int) (val_6 : Int) (lo_7 : Int) (hi_8 : Int) (r_p9 : OA) (r_n10 : Nat) (r_c11 : Nat) {R : EW} {w : World} (g0 : j 0 = (.int .u8 o_1 : Value)) (g1 : j 1 = (.slice l_p2 l_n3 l_c4 : Value)) (g2 : j 2 = (.int .i64 key_5 : Value)) (g3 : j 3 = (.int .i64 val_6 : Value)) (g4 : j 4 = (.int .i64 lo_7 : Value)) (g5 : j 5 = (.int .i64 hi_8 : Value)) (g13 : j 13 = (.slice r_p9 r_n10 r_c11 : Value)) (h : sh3b1 o_1 l_p2 l_n3 l_c4 key_5 val_6 lo_7 hi_8 r_p9 r_n10 r_c11 R w) : Code.wpIn (fen none) 0 Tryz.prog (Old.tailC 4 (bodyOf Tryz.f3)) (Old.full (Qfn Tryz.prog Tryz.f3 R) (Kfn R)) { tmps := #[j 0, j 1, j 2, j 3, j 4, j 5, j 6, j 7, j 8, j 9, j 10, j 11, j 12, j 13, j 14, j 15, j 16, j 17, j 18, j 19, j 20, j 21, j 22, j 23, j 24, j 25, j 26, j 27, j 28, j 29, j 30, j 31, j 32, j 33, j 34, j 35, j 36, j 37, j 38, j 39, j 40, j 41, j 42, j 43, j 44, j 45, j 46, j 47, j 48, j 49, j 50, j 51, j 52, j 53, j 54, j 55, j 56, j 57, j 58, j 59, j 60, j 61, j 62, j 63, j 64, j 65, j 66, j 67, j 68, j 69, j 70, j 71, j 72, j 73, j 74, j 75, j 76, j 77, j 78, j 79, j 80, j 81, j 82, j 83, j 84, j 85, j 86, j 87, j 88, j 89, j 90, j 91, j 92, j 93, j 94, j 95, j 96, j 97, j 98, j 99, j 100, j 101, j 102, j 103, j 104, j 105, j 106, j 107, j 108, j 109, j 110, j 111, j 112, j 113, j 114, j 115, j 116, j 117, j 118, j 119, j 120, j 121, j 122, j 123, j 124, j 125, j 126, j 127, j 128, j 129, j 130, j 131, j 132, j 133, j 134, j 135, j 136, j 137, j 138, j 139, j 140, j 141, j 142, j 143, j 144, j 145, j 146, j 147, j 148, j 149, j 150, j 151, j 152, j 153, j 154, j 155, j 156, j 157, j 158, j 159, j 160, j 161, j 162, j 163, j 164, j 165, j 166, j 167, j 168, j 169, j 170, j 171, j 172, j 173, j 174, j 175, j 176, j 177, j 178, j 179, j 180, j 181, j 182, j 183, j 184, j 185, j 186, j 187, j 188, j 189, j 190, j 191, j 192, j 193, j 194, j 195, j 196, j 197, j 198, j 199, j 200, j 201, j 202, j 203, j 204, j 205, j 206, j 207, j 208, j 209, j 210, j 211, j 212, j 213, j 214, j 215, j 216, j 217, j 218, j 219, j 220, j 221, j 222, j 223, j 224, j 225, j 226, j 227, j 228, j 229, j 230, j 231, j 232, j 233, j 234, j 235, j 236], defers := [] } w := by
  rw [g0, g1, g2, g3, g4, g5, g13]
  exact Old.wp_part (ann := fun _ => []) (n := 400) (k := 2) (K := sh3k2 R) (is := [0, 1, 2, 3, 4, 5, 13]) (X := sh3b1 o_1 l_p2 l_n3 l_c4 key_5 val_6 lo_7 hi_8 r_p9 r_n10 r_c11 R w) follows_mixed (by kernel_rfl) (by kernel_rfl) (fun a' w' hK hs hd => by
    obtain ⟨o_1, l_p2, l_n3, l_c4, key_5, val_6, lo_7, hi_8, r_p9, r_n10, r_c11, hv, h2⟩ := hK
    obtain ⟨tmps, defers⟩ := a'
    simp only at hs hd hv
    subst hd
    have hs : tmps.size = 237 := hs.trans (by kernel_rfl)
    have hl := Old.arr_lit hs
    obtain ⟨j, hj⟩ : ∃ j : Nat → Value, ∀ i, tmps.getD i undef = j i := ⟨_, fun _ => rfl⟩
    rw [show (fun i => tmps.getD i undef) = j from funext hj] at hl
    have e2 : tmps = #[j 0, j 1, j 2, j 3, j 4, j 5, j 6, j 7, j 8, j 9, j 10, j 11, j 12, j 13, j 14, j 15, j 16, j 17, j 18, j 19, j 20, j 21, j 22, j 23, j 24, j 25, j 26, j 27, j 28, j 29, j 30, j 31, j 32, j 33, j 34, j 35, j 36, j 37, j 38, j 39, j 40, j 41, j 42, j 43, j 44, j 45, j 46, j 47, j 48, j 49, j 50, j 51, j 52, j 53, j 54, j 55, j 56, j 57, j 58, j 59, j 60, j 61, j 62, j 63, j 64, j 65, j 66, j 67, j 68, j 69, j 70, j 71, j 72, j 73, j 74, j 75, j 76, j 77, j 78, j 79, j 80, j 81, j 82, j 83, j 84, j 85, j 86, j 87, j 88, j 89, j 90, j 91, j 92, j 93, j 94, j 95, j 96, j 97, j 98, j 99, j 100, j 101, j 102, j 103, j 104, j 105, j 106, j 107, j 108, j 109, j 110, j 111, j 112, j 113, j 114, j 115, j 116, j 117, j 118, j 119, j 120, j 121, j 122, j 123, j 124, j 125, j 126, j 127, j 128, j 129, j 130, j 131, j 132, j 133, j 134, j 135, j 136, j 137, j 138, j 139, j 140, j 141, j 142, j 143, j 144, j 145, j 146, j 147, j 148, j 149, j 150, j 151, j 152, j 153, j 154, j 155, j 156, j 157, j 158, j 159, j 160, j 161, j 162, j 163, j 164, j 165, j 166, j 167, j 168, j 169, j 170, j 171, j 172, j 173, j 174, j 175, j 176, j 177, j 178, j 179, j 180, j 181, j 182, j 183, j 184, j 185, j 186, j 187, j 188, j 189, j 190, j 191, j 192, j 193, j 194, j 195, j 196, j 197, j 198, j 199, j 200, j 201, j 202, j 203, j 204, j 205, j 206, j 207, j 208, j 209, j 210, j 211, j 212, j 213, j 214, j 215, j 216, j 217, j 218, j 219, j 220, j 221, j 222, j 223, j 224, j 225, j 226, j 227, j 228, j 229, j 230, j 231, j 232, j 233, j 234, j 235, j 236] := hl.trans (by kernel_rfl)
    simp only [Old.getAll, List.map_cons, List.map_nil, hj, List.cons.injEq, and_true] at hv
    obtain ⟨g0, g1, g2, g3, g4, g5, g13⟩ := hv
    rw [e2]
    exact sh3b2_wp o_1 l_p2 l_n3 l_c4 key_5 val_6 lo_7 hi_8 r_p9 r_n10 r_c11 g0 g1 g2 g3 g4 g5 g13 h2) h
def sh3 (o_1 : Int) (l_p2 : OA) (l_n3 : Nat) (l_c4 : Nat) (key_5 : Int) (val_6 : Int) (lo_7 : Int) (hi_8 : Int) (R : EW) (w : World) : Prop :=
 ifB (decide ((((l_n3 : Nat) : Int) : Int) > 100)) (
 doCall Tryz.prog (.func (.func 6) #[] #[]) #[] w (retS (fun v10 w11 => ∃ x9, v10 = (.bool x9 : Value) ∧ (
 R (.returned (.bool x9)) w11)) (kN R))) (
 7 ≠ (0 : Int) ∧ (
 doAl (.cells #[.int .u8 8, .int .i64 0, .int .i64 0, .int .i64 0, .int .i64 0, .int .i64 0, .int .i64 0, .int .i64 0, .int .u8 2, .int .u8 0, .int .i64 0, .int .i64 0, .bool false, .slice l_p2 l_n3 l_c4, .slice none 0 0, .int .u8 1, .int .i64 1, .int .i64 0, .int .i64 key_5, .int .i64 val_6, .int .i64 0, .int .i64 0, .int .i64 0, .int .u8 2, .int .u8 0, .int .i64 0, .int .i64 0, .bool false, .slice none 0 0, .slice none 0 0, .int .u8 3, .int .i64 2, .int .i64 0, .int .i64 key_5, .int .i64 0, .int .i64 0, .int .i64 0, .int .i64 0, .int .u8 0, .int .u8 0, .int .i64 0, .int .i64 0, .bool false, .slice none 0 0, .slice none 0 0, .int .u8 2, .int .i64 2, .int .i64 0, .int .i64 key_5, .int .i64 0, .int .i64 0, .int .i64 0, .int .i64 0, .int .u8 0, .int .u8 0, .int .i64 0, .int .i64 0, .bool false, .slice none 0 0, .slice none 0 0, .int .u8 3, .int .i64 3, .int .i64 0, .int .i64 key_5, .int .i64 0, .int .i64 0, .int .i64 0, .int .i64 0, .int .u8 0, .int .u8 0, .int .i64 0, .int .i64 0, .bool false, .slice none 0 0, .slice none 0 0, .int .u8 22, .int .i64 2, .int .i64 0, .int .i64 key_5, .int .i64 0, .int .i64 0, .int .i64 0, .int .i64 0, .int .u8 0, .int .u8 0, .int .i64 0, .int .i64 0, .bool false, .slice none 0 0, .slice none 0 0, .int .u8 9, .int .i64 4, .int .i64 5, .int .i64 0, .int .i64 0, .int .i64 0, .int .i64 0, .int .i64 0, .int .u8 1, .int .u8 0, .int .i64 0, .int .i64 0, .bool false, .slice none 0 0, .slice none 0 0, .int .u8 21, .int .i64 6, .int .i64 0, .int .i64 0, .int .i64 0, .int .i64 0, .int .i64 0, .int .i64 0, .int .u8 0, .int .u8 0, .int .i64 0, .int .i64 0, .bool false, .slice none 0 0, .slice none 0 0, .int .u8 21, .int .i64 3, .int .i64 0, .int .i64 0, .int .i64 0, .int .i64 0, .int .i64 0, .int .i64 0, .int .u8 0, .int .u8 0, .int .i64 0, .int .i64 0, .bool false, .slice none 0 0, .slice none 0 0, .int .u8 16, .int .i64 2, .int .i64 0, .int .i64 key_5, .int .i64 0, .int .i64 0, .int .i64 0, .int .i64 0, .int .u8 0, .int .u8 0, .int .i64 0, .int .i64 0, .bool false, .slice none 0 0, .slice none 0 0, .int .u8 18, .int .i64 2, .int .i64 0, .int .i64 0, .int .i64 0, .int .i64 lo_7, .int .i64 hi_8, .int .i64 0, .int .u8 0, .int .u8 0, .int .i64 0, .int .i64 0, .bool false, .slice none 0 0, .slice none 0 0, .int .u8 19, .int .i64 2, .int .i64 0, .int .i64 0, .int .i64 0, .int .i64 lo_7, .int .i64 hi_8, .int .i64 0, .int .u8 0, .int .u8 0, .int .i64 0, .int .i64 0, .bool false, .slice none 0 0, .slice none 0 0, .int .u8 20, .int .i64 2, .int .i64 0, .int .i64 0, .int .i64 0, .int .i64 lo_7, .int .i64 hi_8, .int .i64 0, .int .u8 0, .int .u8 0, .int .i64 0, .int .i64 0, .bool false, .slice none 0 0, .slice none 0 0] 30) w (fun b12 w13 =>
 doCall Tryz.prog (.func (.func 7) #[] #[]) #[.int .u8 (IntKind.wrap .u8 (1 + (Int.tmod o_1 7))), .slice (some (blk b12)) 13 13] w13 (retS (fun v17 w18 => ∃ xp14 xn15 xc16, v17 = (.slice xp14 xn15 xc16 : Value) ∧ (
 sh3k1 R [.int .u8 (IntKind.wrap .u8 (1 + (Int.tmod o_1 7))), .slice l_p2 l_n3 l_c4, .int .i64 key_5, .int .i64 val_6, .int .i64 lo_7, .int .i64 hi_8, .slice xp14 xn15 xc16] w18)) (kN R)))))
theorem sh3_ok (o_1 : Int) (l_p2 : OA) (l_n3 : Nat) (l_c4 : Nat) (key_5 : Int) (val_6 : Int) (lo_7 : Int) (hi_8 : Int) {R : EW} {w : World} : sh3 o_1 l_p2 l_n3 l_c4 key_5 val_6 lo_7 hi_8 R w → Calls Tryz.prog 3 #[.int .u8 o_1, .slice l_p2 l_n3 l_c4, .int .i64 key_5, .int .i64 val_6, .int .i64 lo_7, .int .i64 hi_8] w R := fun h =>
  Old.calls_of_wp (fn := Tryz.f3) (c := bodyOf Tryz.f3) (args := #[.int .u8 o_1, .slice l_p2 l_n3 l_c4, .int .i64 key_5, .int .i64 val_6, .int .i64 lo_7, .int .i64 hi_8]) Tryz.func3 (by kernel_rfl) (Old.wp_part (ann := fun _ => []) (n := 400) (k := 4) (K := sh3k1 R) (is := [0, 1, 2, 3, 4, 5, 13]) (X := sh3 o_1 l_p2 l_n3 l_c4 key_5 val_6 lo_7 hi_8 R w) follows_mixed (by kernel_rfl) (by kernel_rfl) (fun a' w' hK hs hd => by
    obtain ⟨o_1, l_p2, l_n3, l_c4, key_5, val_6, lo_7, hi_8, r_p9, r_n10, r_c11, hv, h2⟩ := hK
    obtain ⟨tmps, defers⟩ := a'
    simp only at hs hd hv
    subst hd
    have hs : tmps.size = 237 := hs.trans (by kernel_rfl)
    have hl := Old.arr_lit hs
    obtain ⟨j, hj⟩ : ∃ j : Nat → Value, ∀ i, tmps.getD i undef = j i := ⟨_, fun _ => rfl⟩
    rw [show (fun i => tmps.getD i undef) = j from funext hj] at hl
    have e2 : tmps = #[j 0, j 1, j 2, j 3, j 4, j 5, j 6, j 7, j 8, j 9, j 10, j 11, j 12, j 13, j 14, j 15, j 16, j 17, j 18, j 19, j 20, j 21, j 22, j 23, j 24, j 25, j 26, j 27, j 28, j 29, j 30, j 31, j 32, j 33, j 34, j 35, j 36, j 37, j 38, j 39, j 40, j 41, j 42, j 43, j 44, j 45, j 46, j 47, j 48, j 49, j 50, j 51, j 52, j 53, j 54, j 55, j 56, j 57, j 58, j 59, j 60, j 61, j 62, j 63, j 64, j 65, j 66, j 67, j 68, j 69, j 70, j 71, j 72, j 73, j 74, j 75, j 76, j 77, j 78, j 79, j 80, j 81, j 82, j 83, j 84, j 85, j 86, j 87, j 88, j 89, j 90, j 91, j 92, j 93, j 94, j 95, j 96, j 97, j 98, j 99, j 100, j 101, j 102, j 103, j 104, j 105, j 106, j 107, j 108, j 109, j 110, j 111, j 112, j 113, j 114, j 115, j 116, j 117, j 118, j 119, j 120, j 121, j 122, j 123, j 124, j 125, j 126, j 127, j 128, j 129, j 130, j 131, j 132, j 133, j 134, j 135, j 136, j 137, j 138, j 139, j 140, j 141, j 142, j 143, j 144, j 145, j 146, j 147, j 148, j 149, j 150, j 151, j 152, j 153, j 154, j 155, j 156, j 157, j 158, j 159, j 160, j 161, j 162, j 163, j 164, j 165, j 166, j 167, j 168, j 169, j 170, j 171, j 172, j 173, j 174, j 175, j 176, j 177, j 178, j 179, j 180, j 181, j 182, j 183, j 184, j 185, j 186, j 187, j 188, j 189, j 190, j 191, j 192, j 193, j 194, j 195, j 196, j 197, j 198, j 199, j 200, j 201, j 202, j 203, j 204, j 205, j 206, j 207, j 208, j 209, j 210, j 211, j 212, j 213, j 214, j 215, j 216, j 217, j 218, j 219, j 220, j 221, j 222, j 223, j 224, j 225, j 226, j 227, j 228, j 229, j 230, j 231, j 232, j 233, j 234, j 235, j 236] := hl.trans (by kernel_rfl)
    simp only [Old.getAll, List.map_cons, List.map_nil, hj, List.cons.injEq, and_true] at hv
    obtain ⟨g0, g1, g2, g3, g4, g5, g13⟩ := hv
    rw [e2]
    exact sh3b1_wp o_1 l_p2 l_n3 l_c4 key_5 val_6 lo_7 hi_8 r_p9 r_n10 r_c11 g0 g1 g2 g3 g4 g5 g13 h2) h)
end Go.Proofs.YtmdboekndjlmgaaGreat

namespace Go.Proofs.YtmdboekndjlmgaaGreat
open Go Go.Sh Go.RowKit

def askE (l : List Pr) (q : OA) (n c : Nat) (key val lo hi : Int) : List OpE :=
  (oBuild 2 l, .slice q n c, .slice none 0 0) :: [oInsert 1 key val 2, oKey 3 2 key, oKey 2 2 key, oKey 3 3 key, oKey 22 2 key, oUnion 4 5 1, oList 6, oList 3, oKey 16 2 key, oSpan 18 2 lo hi, oSpan 19 2 lo hi, oSpan 20 2 lo hi].map opN
def askF (l : List Pr) (q : OA) (n c : Nat) (key val m : Int) : List OpE := (oBuild 2 l, .slice q n c, .slice none 0 0) :: [oInsert 1 key val 2, oSelect 2 m].map opN
theorem in_small {k : Int} (h1 : 0 ≤ k) (h2 : k ≤ 1000) : In k := by unfold In; omega
theorem opin_map {w : World} {xs : List POp} (h : ∀ x ∈ xs, InO x ∧ x.pairs = [] ∧ x.keys = []) : ∀ e ∈ xs.map opN, OpIn w e := fun e he => by
  obtain ⟨x, hx, rfl⟩ := List.mem_map.1 he
  obtain ⟨h1, h2, h3⟩ := h x hx
  exact opin_nil h1 h2 h3
theorem ask_in {w : World} {l : List Pr} {q : OA} {n c : Nat} {key val lo hi : Int} (hb : OpIn w (oBuild 2 l, .slice q n c, .slice none 0 0)) (h1 : In key) (h2 : In val) (h3 : In lo) (h4 : In hi) : ∀ e ∈ askE l q n c key val lo hi, OpIn w e := by
  have s : ∀ k : Int, 0 ≤ k → k ≤ 1000 → In k := fun k => in_small
  refine List.forall_mem_cons.2 ⟨hb, opin_map ?_⟩
  intro x hx
  simp only [List.mem_cons, List.not_mem_nil, or_false] at hx
  rcases hx with rfl | rfl | rfl | rfl | rfl | rfl | rfl | rfl | rfl | rfl | rfl | rfl
  · exact ⟨ino_insert (s _ (by omega) (by omega)) h1 h2 (by omega), rfl, rfl⟩
  · exact ⟨ino_key (by omega) (s _ (by omega) (by omega)) h1, rfl, rfl⟩
  · exact ⟨ino_key (by omega) (s _ (by omega) (by omega)) h1, rfl, rfl⟩
  · exact ⟨ino_key (by omega) (s _ (by omega) (by omega)) h1, rfl, rfl⟩
  · exact ⟨ino_key (by omega) (s _ (by omega) (by omega)) h1, rfl, rfl⟩
  · exact ⟨ino_union (s _ (by omega) (by omega)) (s _ (by omega) (by omega)) (by omega), rfl, rfl⟩
  · exact ⟨ino_list (s _ (by omega) (by omega)), rfl, rfl⟩
  · exact ⟨ino_list (s _ (by omega) (by omega)), rfl, rfl⟩
  · exact ⟨ino_key (by omega) (s _ (by omega) (by omega)) h1, rfl, rfl⟩
  · exact ⟨ino_span (by omega) (s _ (by omega) (by omega)) h3 h4, rfl, rfl⟩
  · exact ⟨ino_span (by omega) (s _ (by omega) (by omega)) h3 h4, rfl, rfl⟩
  · exact ⟨ino_span (by omega) (s _ (by omega) (by omega)) h3 h4, rfl, rfl⟩
theorem ask_in2 {w : World} {l : List Pr} {q : OA} {n c : Nat} {key val m : Int} (hb : OpIn w (oBuild 2 l, .slice q n c, .slice none 0 0)) (h1 : In key) (h2 : In val) (h3 : In m) : ∀ e ∈ askF l q n c key val m, OpIn w e := by
  have s : ∀ k : Int, 0 ≤ k → k ≤ 1000 → In k := fun k => in_small
  refine List.forall_mem_cons.2 ⟨hb, opin_map ?_⟩
  intro x hx
  simp only [List.mem_cons, List.not_mem_nil, or_false] at hx
  rcases hx with rfl | rfl
  · exact ⟨ino_insert (s _ (by omega) (by omega)) h1 h2 (by omega), rfl, rfl⟩
  · exact ⟨ino_select (s _ (by omega) (by omega)) h3, rfl, rfl⟩
theorem ent_at {Es : List Ent} {rs : List Rep} (h : Es.map (·.1) = rs) (k : Nat) (hk : k < Es.length) : Es[k].1 = rs.getD k .zero := by
  subst h
  rw [List.getD_eq_getElem?_getD, List.getElem?_map, List.getElem?_eq_getElem hk]
  rfl
theorem c_plainAsks {o : Int} {lp : OA} {n c : Nat} {l : List Pr} {key val lo hi : Int} {w : World} {R : EW} (ho : 0 ≤ o) (hl : Is_pairs w lp n c l) (hkey : In key) (hval : In val) (hlo : In lo) (hhi : In hi)
    (h : ∀ w', Ext w w' → R (.returned (.bool true)) w') : Calls Tryz.prog 3 #[.int .u8 o, .slice lp n c, .int .i64 key, .int .i64 val, .int .i64 lo, .int .i64 hi] w R := by
  obtain ⟨hn, hc, hI, hcap, _, _⟩ := hl
  refine sh3_ok _ _ _ _ _ _ _ _ ?_
  unfold sh3
  refine ifB_intro (fun z => do_call Tryz.call6 (c_alive38 fun w1 e1 => retS_ret ⟨_, rfl, h w1 e1⟩)) fun z => ?_
  have zn : n ≤ 100 := by have := of_decide_eq_false z; omega
  refine ⟨by decide, do_al fun b2 w2 e2 X2 _ => ?_⟩
  obtain ⟨o', eo, ho'⟩ := ord_of ho
  rw [eo]
  obtain ⟨rs, m, ps, m3, hrun, l13, e0, n5, q2, q4, q3, q5, q78, q9, qsp, rs2, hrun2, l3, q2', q3', q4'⟩ := ask_law (lo := lo) (hi := hi) ho' hI (by omega) hkey hval
  have hb2 : OpIn w2 (oBuild 2 l, .slice lp n c, .slice none 0 0) := opin_build (by omega) hI hn hcap (by omega) (hc.ext e2)
  have hcs : Cs w2 (some (blk b2)) ((askE l lp n c key val lo hi).flatMap opC) := cs_blk X2
  have hkl : (kOf (askE l lp n c key val lo hi)).length ≤ 5000 := by
    simp [kOf, askE, opN, newK, oBuild, oInsert, oKey, oUnion, oList, oSpan, POp.zero]
    omega
  refine do_call Tryz.call7 (c_prun (ops := askE l lp n c key val lo hi) (KK := kOf (askE l lp n c key val lo hi)) ho' hcs rfl (by omega) (ask_in hb2 hkey hval hlo hhi) kOf_mem hkl fun p cc Es bb w3 e3 hr row hrd => retS_ret ⟨_, _, _, rfl, ?_⟩)
  have hr : Es.map (·.1) = rs := hr.trans hrun
  have hlen : Es.length = 13 := by have := congrArg List.length hr; rw [l13] at this; simpa using this
  have hk := ent_at hr
  have hE := Cs.of_row row
  refine ⟨_, _, _, _, _, _, _, _, _, _, _, rfl, ?_⟩
  unfold sh3b1
  refine ifB_f (by decide) ?_
  refine ix_flat (ec := entC) (s := 7) (fun _ => rfl) (by omega) hE hlen (k := 0) rfl (by omega) fun a0 r0 _ => ⟨_, r0 0 _ rfl, ifB_f (by rw [hk 0 (by omega), e0]; rfl) ?_⟩
  have z5 : Es[5].1.new.length = 2 := by rw [hk 5 (by omega)]; exact n5
  refine ix_flat (ec := entC) (s := 7) (fun _ => rfl) (by omega) hE hlen (k := 5) rfl (by omega) fun a5 r5 _ => ?_
  obtain ⟨q1_, c1_, en5, _⟩ := (hrd Es[5] (List.getElem_mem _)).1
  refine ⟨q1_, Es[5].1.new.length, c1_, by rw [← en5]; exact r5 5 _ rfl, ifB_f (by rw [z5]; decide) ?_⟩
  have e34 := ext_drew w3
  have HC := ext_refl w3.drew
  have hEC : ∀ w', Ext w3.drew w' → Cs w' p (Es.flatMap entC) := fun w' e' => hE.ext (e34.trans e')
  refine ⟨fun w' => Ext w3.drew w', HC, ?_⟩
  refine ix_flatC (ec := entC) (s := 7) (C := fun w' => Ext w3.drew w') (fun _ => rfl) (by omega) hEC HC hlen (k := 2) rfl (by omega) fun a2 r2 => ⟨_, fun w' e' => r2 w' e' 1 _ rfl, ifB_f (by rw [hk 2 (by omega), q2.1]; rfl) ?_⟩
  refine ix_flatC (ec := entC) (s := 7) (C := fun w' => Ext w3.drew w') (fun _ => rfl) (by omega) hEC HC hlen (k := 2) rfl (by omega) fun a2 r2 => ⟨_, fun w' e' => r2 w' e' 3 _ rfl, ifB_f (by rw [hk 2 (by omega), q2.2]; simp) ?_⟩
  refine ix_flatC (ec := entC) (s := 7) (C := fun w' => Ext w3.drew w') (fun _ => rfl) (by omega) hEC HC hlen (k := 4) rfl (by omega) fun a4 r4 => ⟨_, fun w' e' => r4 w' e' 1 _ rfl, ifB_f (by rw [hk 4 (by omega), q4]) ?_⟩
  refine ix_flatC (ec := entC) (s := 7) (C := fun w' => Ext w3.drew w') (fun _ => rfl) (by omega) hEC HC hlen (k := 3) rfl (by omega) fun a3 r3 => ⟨_, fun w' e' => r3 w' e' 1 _ rfl, ifB_f (by rw [hk 3 (by omega), q3.1]; rfl) ?_⟩
  refine ix_flatC (ec := entC) (s := 7) (C := fun w' => Ext w3.drew w') (fun _ => rfl) (by omega) hEC HC hlen (k := 3) rfl (by omega) fun a3 r3 => ⟨_, fun w' e' => r3 w' e' 3 _ rfl, ifB_f (by rw [hk 3 (by omega), q3.2]; simp) ?_⟩
  refine ix_flatC (ec := entC) (s := 7) (C := fun w' => Ext w3.drew w') (fun _ => rfl) (by omega) hEC HC hlen (k := 5) rfl (by omega) fun a5 r5 => ⟨_, fun w' e' => r5 w' e' 1 _ rfl, ifB_f (by rw [hk 5 (by omega), q5.1]; rfl) ?_⟩
  refine ix_flatC (ec := entC) (s := 7) (C := fun w' => Ext w3.drew w') (fun _ => rfl) (by omega) hEC HC hlen (k := 5) rfl (by omega) fun a5 r5 => ⟨_, fun w' e' => r5 w' e' 3 _ rfl, ifB_f (by rw [hk 5 (by omega), q5.2]; simp) ?_⟩
  obtain ⟨q7_, c7_, en7, _, g7, _⟩ := (hrd Es[7] (List.getElem_mem _)).2
  obtain ⟨q8_, c8_, en8, _, g8, _⟩ := (hrd Es[8] (List.getElem_mem _)).2
  have p7 : Es[7].1.pairs = ps := by rw [hk 7 (by omega)]; exact q78.1
  have p8 : Es[8].1.pairs = ps := by rw [hk 8 (by omega)]; exact q78.2.1
  refine ix_flatC (ec := entC) (s := 7) (C := fun w' => Ext w3.drew w') (fun _ => rfl) (by omega) hEC HC hlen (k := 7) rfl (by omega) fun a7 r7 => ⟨q7_, Es[7].1.pairs.length, c7_, fun w' e' => by rw [← en7]; exact r7 w' e' 6 _ rfl, ?_⟩
  refine ix_flatC (ec := entC) (s := 7) (C := fun w' => Ext w3.drew w') (fun _ => rfl) (by omega) hEC HC hlen (k := 8) rfl (by omega) fun a8 r8 => ⟨q8_, Es[8].1.pairs.length, c8_, fun w' e' => by rw [← en8]; exact r8 w' e' 6 _ rfl, ?_⟩
  refine do_call Tryz.call8 (c_r4same (g7.ext e34) rfl (g8.ext e34) rfl (by rw [p7]; have := q78.2.2; omega) fun w4 e4 => retS_ret ⟨_, rfl, e4, ifB_f (by rw [p7, p8]; simp) ?_⟩)
  have HC := e4
  refine ix_flatC (ec := entC) (s := 7) (C := fun w' => Ext w3.drew w') (fun _ => rfl) (by omega) hEC HC hlen (k := 9) rfl (by omega) fun a9 r9 => ⟨_, fun w' e' => r9 w' e' 1 _ rfl, ifB_f (by rw [hk 9 (by omega), q9.1]; rfl) ?_⟩
  have E34 := e34.trans e4
  have hE4 := hE.ext E34
  refine ⟨_, _, _, _, _, _, _, _, _, _, _, rfl, ?_⟩
  unfold sh3b2
  have n9 : Es[9].1.n = (m : Int) := by rw [hk 9 (by omega)]; exact q9.2.1
  refine ix_flat (ec := entC) (s := 7) (fun _ => rfl) (by omega) hE4 hlen (k := 9) rfl (by omega) fun a9 r9 _ => ⟨_, r9 4 _ rfl, do_al fun b5 w5 e5 X5 _ => ?_⟩
  rw [n9] at X5
  have hE5 := hE4.ext e5
  have E5 : Ext w w5 := ((e2.trans e3).trans E34).trans e5
  have hb5 : OpIn w5 (oBuild 2 l, .slice lp n c, .slice none 0 0) := opin_build (by omega) hI hn hcap (by omega) (hc.ext E5)
  have hcs5 : Cs w5 (some (blk b5)) ((askF l lp n c key val m).flatMap opC) := cs_blk X5
  have hkl5 : (kOf (askF l lp n c key val m)).length ≤ 5000 := by
    simp [kOf, askF, opN, newK, oBuild, oInsert, oSelect, POp.zero]
    omega
  refine do_call Tryz.call7 (c_prun (ops := askF l lp n c key val m) (KK := kOf (askF l lp n c key val m)) ho' hcs5 rfl (by omega) (ask_in2 hb5 hkey hval (in_small (by omega) (by have := q9.2.2; omega))) kOf_mem hkl5 fun p6 cc6 Fs bb6 w6 e6 hr6 row6 hrd6 => retS_ret ⟨_, _, _, rfl, ?_⟩)
  have hr6 : Fs.map (·.1) = rs2 := hr6.trans hrun2
  have hlen6 : Fs.length = 3 := by have := congrArg List.length hr6; rw [l3] at this; simpa using this
  have hk6 := ent_at hr6
  have hF := Cs.of_row row6
  have hE6 := hE5.ext e6
  refine ifB_f (by decide) ?_
  refine ix_flat (ec := entC) (s := 7) (fun _ => rfl) (by omega) hF hlen6 (k := 2) rfl (by omega) fun a2 r2 _ => ⟨_, r2 1 _ rfl, ifB_f (by rw [hk6 2 (by omega), q2']; rfl) ?_⟩
  refine ix_flat (ec := entC) (s := 7) (fun _ => rfl) (by omega) hF hlen6 (k := 2) rfl (by omega) fun a2 r2 _ => ⟨_, r2 2 _ rfl, ifB_f (by rw [hk6 2 (by omega), q3']; simp) ?_⟩
  refine ix_flat (ec := entC) (s := 7) (fun _ => rfl) (by omega) hF hlen6 (k := 2) rfl (by omega) fun a2 r2 _ => ⟨_, r2 3 _ rfl, ifB_f (by rw [hk6 2 (by omega), q4']; simp) ?_⟩
  refine do_call Tryz.call9 (c_rcompare hhi hlo (retS_ret ⟨_, rfl, ?_⟩))
  have E6 := E5.trans e6
  by_cases hcmp : cmpI o' hi lo < 0
  · rw [if_pos hcmp] at qsp
    refine ifB_t (by rw [decide_eq_true_eq]; exact hcmp) ?_
    refine ix_flat (ec := entC) (s := 7) (fun _ => rfl) (by omega) hE6 hlen (k := 10) rfl (by omega) fun a10 r10 _ => ⟨_, r10 0 _ rfl, ifB_t (by rw [hk 10 (by omega), qsp.1]; rfl) ?_⟩
    refine ix_flat (ec := entC) (s := 7) (fun _ => rfl) (by omega) hE6 hlen (k := 11) rfl (by omega) fun a11 r11 _ => ⟨_, r11 0 _ rfl, ifB_t (by rw [hk 11 (by omega), qsp.2.1]; rfl) ?_⟩
    refine ix_flat (ec := entC) (s := 7) (fun _ => rfl) (by omega) hE6 hlen (k := 12) rfl (by omega) fun a12 r12 _ => ⟨_, r12 0 _ rfl, ifB_t (by rw [hk 12 (by omega), qsp.2.2]; rfl) ?_⟩
    exact do_call Tryz.call6 (c_alive38 fun w7 e7 => retS_ret ⟨_, rfl, h w7 (E6.trans e7)⟩)
  · rw [if_neg hcmp] at qsp
    refine ifB_f (by rw [decide_eq_false_iff_not]; exact hcmp) ?_
    have e67 := ext_drew w6
    have HC := ext_refl w6.drew
    have hEC : ∀ w', Ext w6.drew w' → Cs w' p (Es.flatMap entC) := fun w' e' => hE6.ext (e67.trans e')
    refine ⟨fun w' => Ext w6.drew w', HC, ?_⟩
    refine ix_flatC (ec := entC) (s := 7) (C := fun w' => Ext w6.drew w') (fun _ => rfl) (by omega) hEC HC hlen (k := 10) rfl (by omega) fun a10 r10 => ⟨_, fun w' e' => r10 w' e' 0 _ rfl, ifB_t (by rw [hk 10 (by omega), qsp.1]; rfl) ?_⟩
    refine ix_flatC (ec := entC) (s := 7) (C := fun w' => Ext w6.drew w') (fun _ => rfl) (by omega) hEC HC hlen (k := 10) rfl (by omega) fun a10 r10 => ⟨_, fun w' e' => r10 w' e' 4 _ rfl, ?_⟩
    refine ix_flatC (ec := entC) (s := 7) (C := fun w' => Ext w6.drew w') (fun _ => rfl) (by omega) hEC HC hlen (k := 11) rfl (by omega) fun a11 r11 => ⟨_, fun w' e' => r11 w' e' 4 _ rfl, ifB_t (by rw [hk 10 (by omega), hk 11 (by omega), qsp.2.1, qsp.2.2.1]; simp) ?_⟩
    refine ix_flatC (ec := entC) (s := 7) (C := fun w' => Ext w6.drew w') (fun _ => rfl) (by omega) hEC HC hlen (k := 11) rfl (by omega) fun a11 r11 => ⟨_, fun w' e' => r11 w' e' 0 _ rfl, ifB_t (by rw [hk 11 (by omega), qsp.2.2.2.1]; rfl) ?_⟩
    refine ix_flatC (ec := entC) (s := 7) (C := fun w' => Ext w6.drew w') (fun _ => rfl) (by omega) hEC HC hlen (k := 12) rfl (by omega) fun a12 r12 => ⟨_, fun w' e' => r12 w' e' 0 _ rfl, ifB_t (by rw [hk 12 (by omega), qsp.2.2.2.2]; rfl) ?_⟩
    exact do_call Tryz.call6 (c_alive38 fun w7 e7 => retS_ret ⟨_, rfl, e7, h w7 ((E6.trans e67).trans e7)⟩)
end Go.Proofs.YtmdboekndjlmgaaGreat

