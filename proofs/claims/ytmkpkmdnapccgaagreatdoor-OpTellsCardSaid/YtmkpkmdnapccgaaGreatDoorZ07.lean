/-
  Printed by a program (gen.py): what the functions of the program do, as formulas; each with the proof that its call is what the formula says.
-/
import Derived.Test.YtmkpkmdnapccgaaGreatDoorZ04
import Derived.Test.YtmkpkmdnapccgaaGreatDoorProg
import Derived.Test.YtmkpkmdnapccgaaGreatDoorZ05

set_option maxRecDepth 100000
set_option maxHeartbeats 6400000
namespace Go.Proofs.YtmkpkmdnapccgaaGreatDoor
open Go Go.Sh
def sh31 (do_1 : Int) (R : EW) (w : World) : Prop :=
 doAl (.cells #[.string (⟨#[]⟩ : ByteArray), .string (⟨#[105, 110, 115, 101, 114, 116]⟩ : ByteArray), .string (⟨#[100, 101, 108, 101, 116, 101]⟩ : ByteArray), .string (⟨#[103, 101, 116]⟩ : ByteArray), .string (⟨#[109, 105, 110]⟩ : ByteArray), .string (⟨#[109, 97, 120]⟩ : ByteArray), .string (⟨#[102, 108, 111, 111, 114]⟩ : ByteArray), .string (⟨#[99, 101, 105, 108]⟩ : ByteArray), .string (⟨#[98, 117, 105, 108, 100]⟩ : ByteArray), .string (⟨#[117, 110, 105, 111, 110]⟩ : ByteArray), .string (⟨#[109, 101, 101, 116]⟩ : ByteArray), .string (⟨#[108, 101, 115, 115]⟩ : ByteArray), .string (⟨#[97, 112, 97, 114, 116]⟩ : ByteArray), .string (⟨#[107, 101, 101, 112]⟩ : ByteArray), .string (⟨#[112, 117, 116, 115]⟩ : ByteArray), .string (⟨#[100, 114, 111, 112, 115]⟩ : ByteArray), .string (⟨#[114, 97, 110, 107]⟩ : ByteArray), .string (⟨#[115, 101, 108, 101, 99, 116]⟩ : ByteArray), .string (⟨#[114, 97, 110, 103, 101]⟩ : ByteArray), .string (⟨#[99, 111, 117, 110, 116]⟩ : ByteArray), .string (⟨#[115, 117, 109]⟩ : ByteArray), .string (⟨#[108, 105, 115, 116]⟩ : ByteArray), .string (⟨#[115, 112, 108, 105, 116]⟩ : ByteArray)] 9) w (fun b2 w3 =>
 ifB (decide (((IntKind.wrap .i64 do_1) : Int) ≥ ((23 : Nat) : Int))) (
 R (.returned (.string (⟨#[]⟩ : ByteArray))) w3) (
 doIx (some (blk b2)) 23 1 (do_1) (fun a4 =>
 ∃ x5, w3.cell? a4 = some (.string x5) ∧ (
 R (.returned (.string x5)) w3))))
theorem sh31_ok (do_1 : Int) {R : EW} {w : World} : sh31 do_1 R w → Calls Tryz.prog 31 #[.int .u8 do_1] w R :=
  ceq Tryz.func31 (by kernel_rfl) (by kernel_rfl)
def sh32 (v_1 : Int) (R : EW) (w : World) : Prop :=
 doCall Tryz.prog (.func (.func 35) #[] #[]) #[.int .i64 v_1, .int .i64 10] w (retS (fun v3 w4 => ∃ x2, v3 = (.string x2 : Value) ∧ (
 doCat (⟨#[32]⟩ : ByteArray) x2 (fun s5 =>
 R (.returned (.string s5)) w4))) (kN R))
theorem sh32_ok (v_1 : Int) {R : EW} {w : World} : sh32 v_1 R w → Calls Tryz.prog 32 #[.int .i64 v_1] w R :=
  ceq Tryz.func32 (by kernel_rfl) (by kernel_rfl)
def sh33 (p_1 : Int) (R : EW) (w : World) : Prop :=
 doAl (.cells #[.string (⟨#[]⟩ : ByteArray), .string (⟨#[108, 101, 102, 116]⟩ : ByteArray), .string (⟨#[114, 105, 103, 104, 116]⟩ : ByteArray), .string (⟨#[115, 117, 109]⟩ : ByteArray)] 9) w (fun b2 w3 =>
 ifB (decide (((IntKind.wrap .i64 p_1) : Int) ≥ ((4 : Nat) : Int))) (
 R (.returned (.string (⟨#[]⟩ : ByteArray))) w3) (
 doIx (some (blk b2)) 4 1 (p_1) (fun a4 =>
 ∃ x5, w3.cell? a4 = some (.string x5) ∧ (
 R (.returned (.string x5)) w3))))
theorem sh33_ok (p_1 : Int) {R : EW} {w : World} : sh33 p_1 R w → Calls Tryz.prog 33 #[.int .u8 p_1] w R :=
  ceq Tryz.func33 (by kernel_rfl) (by kernel_rfl)
def sh34 (p_1 : Int) (p_2 : Int) (p_3 : Int) (p_4 : Bool) (R : EW) (w : World) : Prop :=
 doAl (.cells #[.int .u8 p_1, .int .i64 p_2, .int .i64 p_3, .bool p_4] 33) w (fun b5 w6 =>
 let K9 : ByteArray → World → Prop := fun s_7 w8 => 
 doCat s_7 (⟨#[32]⟩ : ByteArray) (fun s10 =>
 ∃ x11, w8.cell? ((blk b5).add 0) = some (.int .u8 x11) ∧ (
 doCall Tryz.prog (.func (.func 61) #[] #[]) #[.int .u8 x11] w8 (retS (fun v13 w14 => ∃ x12, v13 = (.string x12 : Value) ∧ (
 doCat s10 x12 (fun s15 =>
 ∃ x16, w14.cell? ((blk b5).add 0) = some (.int .u8 x16) ∧ (
 ifB ((x16 : Int) == 1) (
 R (.returned (.string s15)) w14) (
 doDr w14 (fun w18 =>
 ∃ (C17 : World → Prop), C17 w18 ∧ (
 ∃ x19, (∀ w, C17 w → w.cell? ((blk b5).add 1) = some (.int .i64 x19)) ∧ (
 ∃ x20, (∀ w, C17 w → w.cell? ((blk b5).add 2) = some (.int .i64 x20)) ∧ (
 doCall Tryz.prog (.func (.func 32) #[] #[]) #[.int .i64 x19] w18 (retS (fun v22 w23 => ∃ x21, v22 = (.string x21 : Value) ∧ (
 C17 w23 ∧ (
 doCat s15 x21 (fun s24 =>
 doCall Tryz.prog (.func (.func 32) #[] #[]) #[.int .i64 x20] w23 (retS (fun v26 w27 => ∃ x25, v26 = (.string x25 : Value) ∧ (
 C17 w27 ∧ (
 doCat s24 x25 (fun s28 =>
 R (.returned (.string s28)) w27)))) (kN R)))))) (kN R))))))))))) (kN R))))
 ∃ x29, w6.cell? ((blk b5).add 3) = some (.bool x29) ∧ (
 ifB x29 (
 K9 (⟨#[32, 110, 111, 116]⟩ : ByteArray) w6) (
 K9 (⟨#[]⟩ : ByteArray) w6)))
theorem sh34_ok (p_1 : Int) (p_2 : Int) (p_3 : Int) (p_4 : Bool) {R : EW} {w : World} : sh34 p_1 p_2 p_3 p_4 R w → Calls Tryz.prog 34 #[.agg #[.int .u8 p_1, .int .i64 p_2, .int .i64 p_3, .bool p_4]] w R :=
  ceq Tryz.func34 (by kernel_rfl) (by kernel_rfl)
def sh53 (v_1 : Int) (R : EW) (w : World) : Prop :=
 doCall Tryz.prog (.func (.func 80) #[] #[]) #[.int .u8 3, .int .i64 v_1] w (retS (fun v3 w4 => ∃ x2, v3 = (.int .u64 x2 : Value) ∧ (
 ∃ (I5 : List Value → World → Prop) (μ6 : List Value → World → Nat), I5 [.int .u64 x2, .slice none 0 0] w4 ∧ (∀ (c_9 : Int), ∀ (b_p10 : OA), ∀ (b_n11 : Nat), ∀ (b_c12 : Nat), ∀ (_j7 : Nat → Value) (w8 : World), I5 [.int .u64 c_9, .slice b_p10 b_n11 b_c12] w8 → (
 ifB (decide ((c_9 : Int) ≥ 128)) (
 128 ≠ (0 : Int) ∧ (
 doAl (.cells #[.int .u8 (IntKind.wrap .u8 ((IntKind.wrap .u8 (Int.tmod c_9 128)) + 128))] 5) w8 (fun b13 w14 =>
 doGo Tryz.prog (.builtin .append #[51, 51] 51 #[false, false]) #[.slice b_p10 b_n11 b_c12, .slice (some (blk b13)) 1 1] w14 (retS (fun v18 w19 => ∃ xp15 xn16 xc17, v18 = (.slice xp15 xn16 xc17 : Value) ∧ (
 128 ≠ (0 : Int) ∧ (
 I5 [.int .u64 (IntKind.wrap .u64 (Int.tdiv c_9 128)), .slice xp15 xn16 xc17] w19 ∧ μ6 [.int .u64 (IntKind.wrap .u64 (Int.tdiv c_9 128)), .slice xp15 xn16 xc17] w19 < μ6 [.int .u64 c_9, .slice b_p10 b_n11 b_c12] w8))) (kN R))))) (
 doAl (.cells #[.int .u8 (IntKind.wrap .u8 c_9)] 5) w8 (fun b20 w21 =>
 doGo Tryz.prog (.builtin .append #[51, 51] 51 #[false, false]) #[.slice b_p10 b_n11 b_c12, .slice (some (blk b20)) 1 1] w21 (retS (fun v25 w26 => ∃ xp22 xn23 xc24, v25 = (.slice xp22 xn23 xc24 : Value) ∧ (
 doBs Tryz.prog 51 9 (.slice xp22 xn23 xc24) w26 (fun s27 =>
 R (.returned (.string s27)) w26))) (kN R)))))))) (kN R))
theorem sh53_ok (v_1 : Int) {R : EW} {w : World} : sh53 v_1 R w → Calls Tryz.prog 53 #[.int .i64 v_1] w R :=
  Old.calls_of_eq (ann := fun i => if i = 0 then [(3, .int .u64 0), (4, .slice none 0 0)] else []) (fn := Tryz.f53) (c := bodyOf Tryz.f53) (args := #[.int .i64 v_1]) 400 follows_mixed Tryz.func53 (by kernel_rfl) (by kernel_rfl)
def sh54 (is_1 : Bool) (R : EW) (w : World) : Prop :=
 ifB is_1 (
 R (.returned (.string (⟨#[1]⟩ : ByteArray))) w) (
 R (.returned (.string (⟨#[0]⟩ : ByteArray))) w)
theorem sh54_ok (is_1 : Bool) {R : EW} {w : World} : sh54 is_1 R w → Calls Tryz.prog 54 #[.bool is_1] w R :=
  ceq Tryz.func54 (by kernel_rfl) (by kernel_rfl)
def sh61 (k_1 : Int) (R : EW) (w : World) : Prop :=
 doAl (.cells #[.string (⟨#[]⟩ : ByteArray), .string (⟨#[97, 108, 108]⟩ : ByteArray), .string (⟨#[107, 101, 121]⟩ : ByteArray), .string (⟨#[118, 97, 108]⟩ : ByteArray), .string (⟨#[109, 111, 100]⟩ : ByteArray), .string (⟨#[98, 105, 116, 115]⟩ : ByteArray)] 9) w (fun b2 w3 =>
 ifB (decide (((IntKind.wrap .i64 k_1) : Int) ≥ ((6 : Nat) : Int))) (
 R (.returned (.string (⟨#[]⟩ : ByteArray))) w3) (
 doIx (some (blk b2)) 6 1 (k_1) (fun a4 =>
 ∃ x5, w3.cell? a4 = some (.string x5) ∧ (
 R (.returned (.string x5)) w3))))
theorem sh61_ok (k_1 : Int) {R : EW} {w : World} : sh61 k_1 R w → Calls Tryz.prog 61 #[.int .u8 k_1] w R :=
  ceq Tryz.func61 (by kernel_rfl) (by kernel_rfl)
end Go.Proofs.YtmkpkmdnapccgaaGreatDoor

namespace Go.Sh.Old
open Go Go.Sh

def seqL : List Code → Code → Code
  | [], y => y
  | x :: xs, y => .seq x (seqL xs y)
def headsC : Nat → Code → List Code
  | k + 1, .seq x y => x :: headsC k y
  | _, _ => []
def tailC : Nat → Code → Code
  | k + 1, .seq _ y => tailC k y
  | _, c => c
theorem seqL_split : ∀ (k : Nat) (c : Code), seqL (headsC k c) (tailC k c) = c
  | 0, c => by cases c <;> rfl
  | k + 1, c => by
    cases c with
    | seq x y => simp only [headsC, tailC, seqL, seqL_split k y]
    | _ => rfl
section
variable {P : Program} {ann : Nat → List (Nat × Value)} {ro : Option Nat} {Kp : List PanicEntry → List Deferred → World → Prop}
def evs (P : Program) (ann : Nat → List (Nat × Value)) (ro : Option Nat) (Kp : List PanicEntry → List Deferred → World → Prop) (n : Nat) : List Code → (Exit → Act → World → Prop) → (Act → World → Prop) → Act → World → Prop
  | [], _, K => K
  | x :: xs, Q, K => ev P ann ro Kp n 0 x (Exit.then (evs P ann ro Kp n xs Q K) Q)
theorem evs_soundF (hm : P.follows .mixedOrders = true) {n : Nat} {y : Code} {Q : Exit → Act → World → Prop} {K : Act → World → Prop} :
    ∀ (xs : List Code) (a : Act) (w : World), xs.all noRF = true → (∀ a' w', K a' w' → a'.tmps.size = a.tmps.size → a'.defers = a.defers → y.wpIn (fen ro) 0 P (full Q Kp) a' w') → evs P ann ro Kp n xs Q K a w → (seqL xs y).wpIn (fen ro) 0 P (full Q Kp) a w
  | [], a, w, _, hK, h => hK a w h rfl rfl
  | x :: xs, a, w, hx, hK, h => by
    rw [List.all_cons, Bool.and_eq_true] at hx
    refine wpIn_seq (wpIn_mono (ev_sound hm n 0 x _ a w h) ?_)
    intro e a' w' he
    cases e with
    | normal =>
      have hf := he.2 hx.1
      exact evs_soundF hm xs a' w' hx.2 (fun a2 w2 h2 hs hd => hK a2 w2 h2 (hs.trans hf.size) (hd.trans hf.defers)) he.1
    | panic ch => exact he
    | outgrown => exact he
    | ret => exact he.1
    | exit id => exact he.1
    | goto l => exact he.1
theorem wp_part (hm : P.follows .mixedOrders = true) {n k : Nat} {c : Code} {Q : Exit → Act → World → Prop} {K : List Value → World → Prop} {is : List Nat} {a : Act} {w : World} {X : Prop} (hx : (headsC k c).all noRF = true)
    (e : evs P ann ro Kp n (headsC k c) Q (fun a w => K (getAll is a.tmps) w) a w = X)
    (hK : ∀ a' w', K (getAll is a'.tmps) w' → a'.tmps.size = a.tmps.size → a'.defers = a.defers → (tailC k c).wpIn (fen ro) 0 P (full Q Kp) a' w') (h : X) : c.wpIn (fen ro) 0 P (full Q Kp) a w := by
  rw [← e] at h
  have := evs_soundF hm (headsC k c) a w hx hK h
  rwa [seqL_split] at this
theorem wp_last (hm : P.follows .mixedOrders = true) {n : Nat} {c : Code} {Q : Exit → Act → World → Prop} {a : Act} {w : World} {X : Prop} (e : ev P ann ro Kp n 0 c Q a w = X) (h : X) : c.wpIn (fen ro) 0 P (full Q Kp) a w :=
  wpIn_mono (ev_sound hm n 0 _ _ a w (e ▸ h)) (full_mono fun e a' w' hq => hq.1)
theorem arr_lit {t : Array Value} {n : Nat} (hs : t.size = n) : t = ((List.range n).map fun i => t.getD i undef).toArray := by
  subst hs
  apply Array.ext_getElem?
  intro i
  simp only [List.getElem?_toArray, List.getElem?_map, List.getElem?_range, Array.getD_eq_getD_getElem?]
  rcases Nat.lt_or_ge i t.size with h | h
  · simp [h]
  · simp [h, Nat.not_lt.2 h]
theorem oper_bind {F : Fence} {n : Nat} {P : Program} {o : Oper} {a : Act} {w : World} {K K' : Act → World → Prop} {Q Q' : Exit → Act → World → Prop} (h : ∀ a w, K a w → K' a w) (hp : ∀ ch a w, Q (.panic ch) a w → Q' (.panic ch) a w) (ho : LetsOut Q → LetsOut Q') (hh : o.wpIn F n P a w K Q) : o.wpIn F n P a w K' Q' := by
  unfold Oper.wpIn at *
  refine ⟨hh.1, ?_⟩
  have hh := hh.2
  generalize (o.semAt F.round a.eval).run P w = r at *
  cases r with
  | ok x w' =>
    cases x <;> simp only [Oper.uponIn] at hh ⊢ <;>
      first
        | exact h _ _ hh
        | exact ⟨hh.1, CallsIn.mono hh.2 (fun e w'' he => by cases e <;> first | exact h _ _ he | exact hp _ _ _ he | exact ho he)⟩
        | exact ⟨hh.1, RowsIn.mono hh.2 (fun _ _ he => h _ _ he)⟩
        | exact ⟨hh.1, RoundIn.mono hh.2 (fun e w'' he => by cases e <;> first | exact h _ _ he | exact hp _ _ _ he | exact ho he)⟩
  | halt x w' => cases x <;> simp only [Oper.uponIn] at hh ⊢ <;> first | exact hp _ _ _ hh | exact hh
theorem ops_bind {F : Fence} {n : Nat} {P : Program} {ops : Array Oper} {Q Q' : Exit → Act → World → Prop} {l2 : List Nat} (hn : ∀ a w, Q .normal a w → wpOpsIn F n P ops Q' l2 a w) (hp : ∀ ch a w, Q (.panic ch) a w → Q' (.panic ch) a w) (ho : LetsOut Q → LetsOut Q') :
    ∀ (l1 : List Nat) (a : Act) (w : World), wpOpsIn F n P ops Q l1 a w → wpOpsIn F n P ops Q' (l1 ++ l2) a w
  | [], a, w, h => hn a w h
  | i :: l1, a, w, h => by
    rw [wpOpsIn_cons] at h
    rw [List.cons_append, wpOpsIn_cons]
    unfold wpOpIn at *
    split
    · exact ops_bind hn hp ho l1 _ _ (by simpa [*] using h)
    · rename_i o ho'
      simp only [ho'] at h
      split
      · rename_i hw; simp only [hw, if_true] at h; exact oper_bind (fun a w hk => ops_bind hn hp ho l1 a w hk) hp ho h
      · rename_i hw; simp only [hw] at h; exact ⟨h.1, ops_bind hn hp ho l1 _ _ h.2⟩
def midW (P : Program) (ro : Option Nat) (Kp : List PanicEntry → List Deferred → World → Prop) (m : Nat) (ops : Array Oper) (z y : Code) (Q : Exit → Act → World → Prop) : Act → World → Prop :=
  wpOpsIn (fen ro) 0 P ops (Exit.then (z.wpIn (fen ro) 0 P (Exit.then (y.wpIn (fen ro) 0 P (full Q Kp)) (full Q Kp))) (Exit.then (y.wpIn (fen ro) 0 P (full Q Kp)) (full Q Kp))) (List.range' m (ops.size - m))
def regOps : Code → Array Oper
  | .seq (.seq (.region _ ops _) _) _ => ops
  | _ => #[]
def regZ : Code → Code
  | .seq (.seq (.region _ _ _) z) _ => z
  | _ => .skip
def regY : Code → Code
  | .seq (.seq (.region _ _ _) _) y => y
  | _ => .skip
def regIs : Code → Bool
  | .seq (.seq (.region _ _ d) _) _ => !d
  | _ => false
theorem wp_half1 {n m : Nat} {c : Code} {Q : Exit → Act → World → Prop} {K : List Value → World → Prop} {is : List Nat} {a : Act} {w : World} {X : Prop} (hr : regIs c = true) (hnd : allND (regOps c) = true) (hm : m ≤ (regOps c).size)
    (e : evOps P (regOps c) (fun a w => K (getAll is a.tmps) w) Kp (List.range m) a w = X)
    (hK : ∀ a' w', K (getAll is a'.tmps) w' → a'.tmps.size = a.tmps.size → a'.defers = a.defers → midW P ro Kp m (regOps c) (regZ c) (regY c) Q a' w') (h : X) : c.wpIn (fen ro) 0 P (full Q Kp) a w := by
  rw [← e] at h
  unfold regIs at hr
  split at hr
  case h_2 => cases hr
  rename_i id ops d z y
  simp only [Bool.not_eq_true'] at hr
  subst hr
  refine wpIn_seq (wpIn_seq (wpIn_region ?_))
  have hs := evOps_sound (ro := ro) (Q := fun e a w => match e with | .normal => K (getAll is a.tmps) w | _ => False) hnd (List.range m) a w (.refl _ _) h
  have hl : List.range ops.size = List.range m ++ List.range' m (ops.size - m) := by
    have h0 := List.range'_append_1 (s := 0) (m := m) (n := ops.size - m)
    have hm' : m ≤ ops.size := hm
    rw [Nat.zero_add, Nat.add_sub_cancel' hm'] at h0
    rw [List.range_eq_range', List.range_eq_range', h0]
  rw [hl]
  refine ops_bind ?_ ?_ ?_ _ _ _ hs
  · intro a' w' hq
    exact hK a' w' hq.1 hq.2.size hq.2.defers
  · intro ch a' w' hq
    exact hq
  · intro hq
    exact hq
theorem wp_half2 (hmx : P.follows .mixedOrders = true) {n m : Nat} {ops : Array Oper} {z y : Code} {Q : Exit → Act → World → Prop} {K : List Value → World → Prop} {is : List Nat} {a : Act} {w : World} {X : Prop} (hnd : allND ops = true) (hz : noRF z = true)
    (e : evOps P ops (fun a w => ev P ann ro Kp n 0 z (Exit.then (fun a w => K (getAll is a.tmps) w) Q) a w) Kp (List.range' m (ops.size - m)) a w = X)
    (hK : ∀ a' w', K (getAll is a'.tmps) w' → a'.tmps.size = a.tmps.size → a'.defers = a.defers → y.wpIn (fen ro) 0 P (full Q Kp) a' w') (h : X) : midW P ro Kp m ops z y Q a w := by
  rw [← e] at h
  have hs := evOps_sound (ro := ro) (Q := fun e a w => match e with | .normal => ev P ann ro Kp n 0 z (Exit.then (fun a w => K (getAll is a.tmps) w) Q) a w | _ => False) hnd (List.range' m (ops.size - m)) a w (.refl _ _) h
  have hb : wpOpsIn (fen ro) 0 P ops (Exit.then (z.wpIn (fen ro) 0 P (Exit.then (y.wpIn (fen ro) 0 P (full Q Kp)) (full Q Kp))) (Exit.then (y.wpIn (fen ro) 0 P (full Q Kp)) (full Q Kp))) (List.range' m (ops.size - m) ++ []) a w := by
    refine ops_bind ?_ ?_ ?_ _ _ _ hs
    · intro a' w' hq
      refine wpIn_mono (ev_sound hmx n 0 z _ a' w' hq.1) fun e a2 w2 he => ?_
      cases e with
      | normal => exact hK a2 w2 he.1 ((he.2 hz).size.trans hq.2.size) ((he.2 hz).defers.trans hq.2.defers)
      | panic ch => exact he
      | outgrown => exact he
      | ret => exact he.1
      | exit id => exact he.1
      | goto l => exact he.1
    · intro ch a' w' hq
      exact hq
    · intro hq
      exact hq
  rwa [List.append_nil] at hb
end
theorem calls_of_wp {P : Program} {f : FuncId} {fn : Func} {c : Code} {args : Array Value} {w : World} {R : EW}
    (hf : P.funcs[f]? = some fn) (hb : fn.body = some c)
    (hw : c.wpIn (fen none) 0 P (full (Qfn P fn R) (Kfn R)) { tmps := args ++ Array.replicate (fn.ntmps - args.size) undef, defers := [] } w) : Calls P f args w R := by
  refine (callsIn_wide (n := 0)).1 (callsIn_of_wp_marks hf hb trivial (wpIn_mono hw ?_))
  intro e a' w' he
  cases e with
  | normal =>
    refine leaveW_sound (by simp) he fun w'' hr => ?_
    obtain ⟨vs, hF, hr⟩ := results_of_resL hr
    exact ⟨_, hr, hF⟩
  | ret =>
    refine leaveW_sound (by simp) he fun w'' hr => ?_
    obtain ⟨vs, hF, hr⟩ := results_of_resL hr
    exact ⟨_, hr, hF⟩
  | panic ch => exact leaveW_sound (by simp) he fun w'' hr => hr
  | outgrown => exact he.elim
  | exit id => exact he.elim
  | goto l => exact he.elim
end Go.Sh.Old

