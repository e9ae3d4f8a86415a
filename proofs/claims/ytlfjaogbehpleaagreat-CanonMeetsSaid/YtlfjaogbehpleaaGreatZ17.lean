/-
  Printed by a program (gen.py): what the functions of the program do, as formulas; each with the proof that its call is what the formula says.
-/
/-
  RowKeeps: the plain laws of rows, and the walk.
-/
/-
  What the functions of rank do.
-/
/-
  What is parted, cut off, and joined, of any scheme. Plain.
-/
/-
  treap, treapjoin: what a join makes.
-/
/-
  sync.Once, atomic.Uint64, of one goroutine: after the kit's worked example (Lazy).
-/
import Derived.Test.YtlfjaogbehpleaaGreatZ04
import Derived.Test.YtlfjaogbehpleaaGreatProg
import Derived.Test.YtlfjaogbehpleaaGreatZ02
import Derived.Test.YtlfjaogbehpleaaGreatZ05
import Derived.Test.YtlfjaogbehpleaaGreatZ16
import Derived.Test.YtlfjaogbehpleaaGreatZ15
import Derived.Test.YtlfjaogbehpleaaGreatZ13
import Derived.Tactics
import Derived.Tactics2
import Derived.Defers
import Derived.Laws.Pointers
import Derived.Laws.LoneSync
import Derived.RegionTactic
import Derived.RegionCalls
import Derived.ChangeAlike

namespace Go.Proofs.YtlfjaogbehpleaaGreat
open Go Go.Sh
set_option maxRecDepth 100000 in
/-- joinery/joinerylaw41.CanonMeets -/
def sh6 (o_1 : Int) (l_p2 : Option Addr) (l_n3 : Nat) (l_c4 : Nat) (m_p5 : Option Addr) (m_n6 : Nat) (m_c7 : Nat) (R : Ending → World → Prop) (w : World) : Prop :=
 doCall Tryz.prog (.func (.func 26) #[] #[]) #[.int .u8 4] w (retS (fun v10 w11 => ∃ (x8 : Option Addr), ∃ (x9 : Bool), v10 = (.tuple #[.pointer x8, .bool x9] : Value) ∧ (
 let K14 : Bool → World → Prop := fun (x12 : Bool) (w13 : World) => 
 ifB x12 (
 let K17 : Bool → World → Prop := fun (x15 : Bool) (w16 : World) => 
 R (.returned (.bool x15)) w16
 ifB x9 (
 doCall Tryz.prog (.func (.func 27) #[] #[]) #[] w13 (retS (fun v19 w20 => ∃ (x18 : Bool), v19 = (.bool x18 : Value) ∧ (
 K17 x18 w20)) (fun ch w => Kfn R ch [] w))) (
 R (.returned (.bool false)) w13)) (
 doCall Tryz.prog (.func (.func 28) #[] #[]) #[.int .u8 o_1, .int .u8 2, .slice l_p2 l_n3 l_c4] w13 (retS (fun v23 w24 => ∃ (x21 : Option Addr), ∃ (x22 : Int), v23 = (.tuple #[.pointer x21, .int .i64 x22] : Value) ∧ (
 doCall Tryz.prog (.func (.func 28) #[] #[]) #[.int .u8 o_1, .int .u8 2, .slice m_p5 m_n6 m_c7] w24 (retS (fun v27 w28 => ∃ (x25 : Option Addr), ∃ (x26 : Int), v27 = (.tuple #[.pointer x25, .int .i64 x26] : Value) ∧ (
 doCall Tryz.prog (.func (.func 29) #[] #[]) #[.int .u8 o_1, .pointer x21, .pointer x25] w28 (retS (fun v33 w34 => ∃ (xp29 : Option Addr), ∃ (xn30 : Nat), ∃ (xc31 : Nat), ∃ (x32 : Int), v33 = (.tuple #[.slice xp29 xn30 xc31, .int .i64 x32] : Value) ∧ (
 doCall Tryz.prog (.func (.func 30) #[] #[]) #[.pointer x8, .int .u8 o_1, .pointer x21, .pointer x25] w34 (retS (fun v37 w38 => ∃ (x35 : Option Addr), ∃ (x36 : Int), v37 = (.tuple #[.pointer x35, .int .i64 x36] : Value) ∧ (
 doCall Tryz.prog (.func (.func 31) #[] #[]) #[.pointer x8, .int .u8 o_1, .int .u8 1, .pointer x21, .pointer x25] w38 (retS (fun v41 w42 => ∃ (x39 : Option Addr), ∃ (x40 : Int), v41 = (.tuple #[.pointer x39, .int .i64 x40] : Value) ∧ (
 let K45 : Bool → World → Prop := fun (x43 : Bool) (w44 : World) => 
 ifB x43 (
 R (.returned (.bool false)) w44) (
 doCall Tryz.prog (.func (.func 32) #[] #[]) #[.pointer x35] w44 (retS (fun v47 w48 => ∃ (x46 : Int), v47 = (.int .i64 x46 : Value) ∧ (
 doCall Tryz.prog (.func (.func 33) #[] #[]) #[.pointer x39] w48 (retS (fun v52 w53 => ∃ (xp49 : Option Addr), ∃ (xn50 : Nat), ∃ (xc51 : Nat), v52 = (.slice xp49 xn50 xc51 : Value) ∧ (
 ∃ (I54 : List Value → World → Prop) (μ55 : List Value → World → Nat), I54 [.int .i64 x46, .int .i64 0] w53 ∧ (∀ (n_58 : Int), ∀ (j_59 : Int), ∀ (_j56 : Nat → Value) (w57 : World), I54 [.int .i64 n_58, .int .i64 j_59] w57 → (
 ifB (decide ((j_59 : Int) < ((xn50 : Nat) : Int))) (
 let K62 : Int → World → Prop := fun (n_60 : Int) (w61 : World) => 
 I54 [.int .i64 n_60, .int .i64 (IntKind.wrap .i64 (j_59 + 1))] w61 ∧ μ55 [.int .i64 n_60, .int .i64 (IntKind.wrap .i64 (j_59 + 1))] w61 < μ55 [.int .i64 n_58, .int .i64 j_59] w57
 doIx xp49 xn50 1 (j_59) (fun a63 =>
 ∃ (x64 : Int), World.cell? w57 a63 = some (.int .i64 x64) ∧ (
 doCall Tryz.prog (.func (.func 34) #[] #[]) #[.int .u8 o_1, .pointer x21, .int .i64 x64] w57 (retS (fun v67 w68 => ∃ (x65 : Int), ∃ (x66 : Bool), v67 = (.tuple #[.int .i64 x65, .bool x66] : Value) ∧ (
 doIx xp49 xn50 1 (j_59) (fun a69 =>
 ∃ (x70 : Int), World.cell? w68 a69 = some (.int .i64 x70) ∧ (
 doCall Tryz.prog (.func (.func 34) #[] #[]) #[.int .u8 o_1, .pointer x25, .int .i64 x70] w68 (retS (fun v73 w74 => ∃ (x71 : Int), ∃ (x72 : Bool), v73 = (.tuple #[.int .i64 x71, .bool x72] : Value) ∧ (
 let K77 : Bool → World → Prop := fun (x75 : Bool) (w76 : World) => 
 ifB x75 (
 R (.returned (.bool false)) w76) (
 ifB ((x65 : Int) != x71) (
 K62 (IntKind.wrap .i64 (n_58 + 1)) w76) (
 K62 n_58 w76))
 ifB (!x66) (
 R (.returned (.bool false)) w74) (
 K77 (!x72) w74))) (fun ch w => Kfn R ch [] w)))))) (fun ch w => Kfn R ch [] w))))) (
 ∃ (I78 : List Value → World → Prop) (μ79 : List Value → World → Nat), I78 [.int .i64 0] w57 ∧ (∀ (j_82 : Int), ∀ (_j80 : Nat → Value) (w81 : World), I78 [.int .i64 j_82] w81 → (
 ifB (decide ((j_82 : Int) < ((xn30 : Nat) : Int))) (
 let K84 : World → Prop := fun (w83 : World) => 
 I78 [.int .i64 (IntKind.wrap .i64 (j_82 + 1))] w83 ∧ μ79 [.int .i64 (IntKind.wrap .i64 (j_82 + 1))] w83 < μ79 [.int .i64 j_82] w81
 doIx xp29 xn30 1 (j_82) (fun a85 =>
 ∃ (x86 : Int), World.cell? w81 a85 = some (.int .i64 x86) ∧ (
 doCall Tryz.prog (.func (.func 34) #[] #[]) #[.int .u8 o_1, .pointer x21, .int .i64 x86] w81 (retS (fun v89 w90 => ∃ (x87 : Int), ∃ (x88 : Bool), v89 = (.tuple #[.int .i64 x87, .bool x88] : Value) ∧ (
 doIx xp29 xn30 1 (j_82) (fun a91 =>
 ∃ (x92 : Int), World.cell? w90 a91 = some (.int .i64 x92) ∧ (
 doCall Tryz.prog (.func (.func 34) #[] #[]) #[.int .u8 o_1, .pointer x25, .int .i64 x92] w90 (retS (fun v95 w96 => ∃ (x93 : Int), ∃ (x94 : Bool), v95 = (.tuple #[.int .i64 x93, .bool x94] : Value) ∧ (
 let K99 : Bool → World → Prop := fun (x97 : Bool) (w98 : World) => 
 ifB x97 (
 R (.returned (.bool false)) w98) (
 K84 w98)
 doDr w96 (fun w101 =>
 ∃ (C100 : World → Prop), C100 w101 ∧ (
 ifB x88 (
 ifB x94 (
 ifB ((x87 : Int) == x93) (
 R (.returned (.bool false)) w101) (
 ifB (!x88) (
 ifB (!x94) (
 R (.returned (.bool false)) w101) (
 ifB (decide ((j_82 : Int) > 0)) (
 doIx xp29 xn30 1 (IntKind.wrap .i64 (j_82 - 1)) (fun a102 =>
 ∃ (x103 : Int), (∀ w, C100 w → World.cell? w a102 = some (.int .i64 x103)) ∧ (
 doIx xp29 xn30 1 (j_82) (fun a104 =>
 ∃ (x105 : Int), (∀ w, C100 w → World.cell? w a104 = some (.int .i64 x105)) ∧ (
 doCall Tryz.prog (.func (.func 10) #[] #[]) #[.int .u8 o_1, .int .i64 x103, .int .i64 x105] w101 (retS (fun v107 w108 => ∃ (x106 : Int), v107 = (.int .i64 x106 : Value) ∧ (
 K99 (decide ((x106 : Int) ≥ 0)) w108)) (fun ch w => Kfn R ch [] w))))))) (
 K84 w101))) (
 ifB (decide ((j_82 : Int) > 0)) (
 doIx xp29 xn30 1 (IntKind.wrap .i64 (j_82 - 1)) (fun a109 =>
 ∃ (x110 : Int), (∀ w, C100 w → World.cell? w a109 = some (.int .i64 x110)) ∧ (
 doIx xp29 xn30 1 (j_82) (fun a111 =>
 ∃ (x112 : Int), (∀ w, C100 w → World.cell? w a111 = some (.int .i64 x112)) ∧ (
 doCall Tryz.prog (.func (.func 10) #[] #[]) #[.int .u8 o_1, .int .i64 x110, .int .i64 x112] w101 (retS (fun v114 w115 => ∃ (x113 : Int), v114 = (.int .i64 x113 : Value) ∧ (
 K99 (decide ((x113 : Int) ≥ 0)) w115)) (fun ch w => Kfn R ch [] w))))))) (
 K84 w101)))) (
 ifB (!x88) (
 ifB (!x94) (
 R (.returned (.bool false)) w101) (
 ifB (decide ((j_82 : Int) > 0)) (
 doIx xp29 xn30 1 (IntKind.wrap .i64 (j_82 - 1)) (fun a116 =>
 ∃ (x117 : Int), (∀ w, C100 w → World.cell? w a116 = some (.int .i64 x117)) ∧ (
 doIx xp29 xn30 1 (j_82) (fun a118 =>
 ∃ (x119 : Int), (∀ w, C100 w → World.cell? w a118 = some (.int .i64 x119)) ∧ (
 doCall Tryz.prog (.func (.func 10) #[] #[]) #[.int .u8 o_1, .int .i64 x117, .int .i64 x119] w101 (retS (fun v121 w122 => ∃ (x120 : Int), v121 = (.int .i64 x120 : Value) ∧ (
 K99 (decide ((x120 : Int) ≥ 0)) w122)) (fun ch w => Kfn R ch [] w))))))) (
 K84 w101))) (
 ifB (decide ((j_82 : Int) > 0)) (
 doIx xp29 xn30 1 (IntKind.wrap .i64 (j_82 - 1)) (fun a123 =>
 ∃ (x124 : Int), (∀ w, C100 w → World.cell? w a123 = some (.int .i64 x124)) ∧ (
 doIx xp29 xn30 1 (j_82) (fun a125 =>
 ∃ (x126 : Int), (∀ w, C100 w → World.cell? w a125 = some (.int .i64 x126)) ∧ (
 doCall Tryz.prog (.func (.func 10) #[] #[]) #[.int .u8 o_1, .int .i64 x124, .int .i64 x126] w101 (retS (fun v128 w129 => ∃ (x127 : Int), v128 = (.int .i64 x127 : Value) ∧ (
 K99 (decide ((x127 : Int) ≥ 0)) w129)) (fun ch w => Kfn R ch [] w))))))) (
 K84 w101)))) (
 ifB (!x88) (
 ifB (!x94) (
 R (.returned (.bool false)) w101) (
 ifB (decide ((j_82 : Int) > 0)) (
 doIx xp29 xn30 1 (IntKind.wrap .i64 (j_82 - 1)) (fun a130 =>
 ∃ (x131 : Int), (∀ w, C100 w → World.cell? w a130 = some (.int .i64 x131)) ∧ (
 doIx xp29 xn30 1 (j_82) (fun a132 =>
 ∃ (x133 : Int), (∀ w, C100 w → World.cell? w a132 = some (.int .i64 x133)) ∧ (
 doCall Tryz.prog (.func (.func 10) #[] #[]) #[.int .u8 o_1, .int .i64 x131, .int .i64 x133] w101 (retS (fun v135 w136 => ∃ (x134 : Int), v135 = (.int .i64 x134 : Value) ∧ (
 K99 (decide ((x134 : Int) ≥ 0)) w136)) (fun ch w => Kfn R ch [] w))))))) (
 K84 w101))) (
 ifB (decide ((j_82 : Int) > 0)) (
 doIx xp29 xn30 1 (IntKind.wrap .i64 (j_82 - 1)) (fun a137 =>
 ∃ (x138 : Int), (∀ w, C100 w → World.cell? w a137 = some (.int .i64 x138)) ∧ (
 doIx xp29 xn30 1 (j_82) (fun a139 =>
 ∃ (x140 : Int), (∀ w, C100 w → World.cell? w a139 = some (.int .i64 x140)) ∧ (
 doCall Tryz.prog (.func (.func 10) #[] #[]) #[.int .u8 o_1, .int .i64 x138, .int .i64 x140] w101 (retS (fun v142 w143 => ∃ (x141 : Int), v142 = (.int .i64 x141 : Value) ∧ (
 K99 (decide ((x141 : Int) ≥ 0)) w143)) (fun ch w => Kfn R ch [] w))))))) (
 K84 w101))))))) (fun ch w => Kfn R ch [] w)))))) (fun ch w => Kfn R ch [] w))))) (
 let K146 : Bool → World → Prop := fun (x144 : Bool) (w145 : World) => 
 R (.returned (.bool x144)) w145
 ifB ((n_58 : Int) == ((xn30 : Nat) : Int)) (
 doCall Tryz.prog (.func (.func 27) #[] #[]) #[] w81 (retS (fun v148 w149 => ∃ (x147 : Bool), v148 = (.bool x147 : Value) ∧ (
 K146 x147 w149)) (fun ch w => Kfn R ch [] w))) (
 R (.returned (.bool false)) w81))))))))) (fun ch w => Kfn R ch [] w)))) (fun ch w => Kfn R ch [] w)))
 ifB ((x22 : Int) != 0) (
 R (.returned (.bool false)) w42) (
 ifB ((x26 : Int) != 0) (
 R (.returned (.bool false)) w42) (
 ifB ((x32 : Int) != 0) (
 R (.returned (.bool false)) w42) (
 ifB ((x36 : Int) != 0) (
 R (.returned (.bool false)) w42) (
 K45 ((x40 : Int) != 0) w42)))))) (fun ch w => Kfn R ch [] w)))) (fun ch w => Kfn R ch [] w)))) (fun ch w => Kfn R ch [] w)))) (fun ch w => Kfn R ch [] w)))) (fun ch w => Kfn R ch [] w)))
 ifB (decide ((((l_n3 : Nat) : Int) : Int) > 80)) (
 let K152 : Bool → World → Prop := fun (x150 : Bool) (w151 : World) => 
 R (.returned (.bool x150)) w151
 ifB x9 (
 doCall Tryz.prog (.func (.func 27) #[] #[]) #[] w11 (retS (fun v154 w155 => ∃ (x153 : Bool), v154 = (.bool x153 : Value) ∧ (
 K152 x153 w155)) (fun ch w => Kfn R ch [] w))) (
 K152 false w11)) (
 ifB (decide ((((m_n6 : Nat) : Int) : Int) > 80)) (
 let K158 : Bool → World → Prop := fun (x156 : Bool) (w157 : World) => 
 R (.returned (.bool x156)) w157
 ifB x9 (
 doCall Tryz.prog (.func (.func 27) #[] #[]) #[] w11 (retS (fun v160 w161 => ∃ (x159 : Bool), v160 = (.bool x159 : Value) ∧ (
 K158 x159 w161)) (fun ch w => Kfn R ch [] w))) (
 K158 false w11)) (
 ifB (!x9) (
 let K164 : Bool → World → Prop := fun (x162 : Bool) (w163 : World) => 
 R (.returned (.bool x162)) w163
 ifB x9 (
 doCall Tryz.prog (.func (.func 27) #[] #[]) #[] w11 (retS (fun v166 w167 => ∃ (x165 : Bool), v166 = (.bool x165 : Value) ∧ (
 K164 x165 w167)) (fun ch w => Kfn R ch [] w))) (
 K164 false w11)) (
 doCall Tryz.prog (.func (.func 20) #[] #[]) #[.int .u8 o_1] w11 (retS (fun v169 w170 => ∃ (x168 : Bool), v169 = (.bool x168 : Value) ∧ (
 K14 (!x168) w170)) (fun ch w => Kfn R ch [] w))))))) (fun ch w => Kfn R ch [] w))
set_option maxRecDepth 100000 in
theorem sh6_ok (o_1 : Int) (l_p2 : Option Addr) (l_n3 : Nat) (l_c4 : Nat) (m_p5 : Option Addr) (m_n6 : Nat) (m_c7 : Nat) {R : Ending → World → Prop} {w : World} : sh6 o_1 l_p2 l_n3 l_c4 m_p5 m_n6 m_c7 R w → Calls Tryz.prog 6 #[.int .u8 o_1, .slice l_p2 l_n3 l_c4, .slice m_p5 m_n6 m_c7] w R :=
  Old.calls_of_eq (ann := fun i => if i = 2 then [(26, .int .i64 0)] else if i = 0 then [(19, .int .i64 0), (21, .int .i64 0)] else []) (fn := Tryz.f6) (c := bodyOf Tryz.f6) (args := #[.int .u8 o_1, .slice l_p2 l_n3 l_c4, .slice m_p5 m_n6 m_c7]) 400 follows_mixed Tryz.func6 (by kernel_rfl) (by kernel_rfl)
end Go.Proofs.YtlfjaogbehpleaaGreat

namespace Go.Proofs.YtlfjaogbehpleaaGreat
open Go Go.Sh Go.RowKit

theorem wrap_in (x : Int) : In (IntKind.wrap .i64 x) := by
  simp only [IntKind.wrap, IntKind.signed, IntKind.bits, In]
  simp
  omega
abbrev ltO (o : Int) (a b : Int) : Prop := cmpI o a b < 0
theorem chain_pw {o : Int} : ∀ {l : List Pr}, chain o l = true ↔ (l.map (·.1)).Pairwise (ltO o)
  | [] => by simp [chain]
  | [a] => by simp [chain]
  | a :: b :: l => by
    rw [chain_cons, Bool.and_eq_true, decide_eq_true_eq, chain_pw (l := b :: l)]
    simp only [List.map_cons, List.pairwise_cons, List.mem_cons, List.mem_map, forall_eq_or_imp]
    constructor
    · rintro ⟨h1, h2, h3⟩
      exact ⟨⟨h1, fun x hx => cmpI_trans h1 (h2 x hx)⟩, h2, h3⟩
    · rintro ⟨⟨h1, _⟩, h2, h3⟩
      exact ⟨h1, h2, h3⟩
theorem mayR_iff {o : Int} {l : List Pr} : mayR o l = true ↔ isO o = true ∧ (l.map (·.1)).Pairwise (ltO o) := by
  unfold mayR; rw [Bool.and_eq_true, chain_pw]
theorem mem_get {o : Int} {l : List Pr} (hm : mayR o l = true) {key v : Int} (h : (key, v) ∈ l) : hasR o l key = true ∧ getR o l key = v := by
  obtain ⟨i, hi, e⟩ := List.getElem_of_mem h
  have := pos_at hm hi
  rw [e] at this
  exact ⟨this.2.1, this.2.2⟩
theorem has_mem {o : Int} {l : List Pr} {key : Int} (h : hasR o l key = true) : (key, getR o l key) ∈ l := by
  have hlt := hasR_lt h
  have hk := hasR_key h
  have : getR o l key = (l[posR o l key]'hlt).2 := by unfold getR; rw [h, getD_of hlt]; rfl
  rw [this]
  have hm := List.getElem_mem hlt
  rw [show (l[posR o l key]'hlt) = (key, (l[posR o l key]'hlt).2) from Prod.ext hk rfl] at hm
  exact hm
theorem get_none {o : Int} {l : List Pr} {key : Int} (h : hasR o l key = false) : getR o l key = 0 := by unfold getR; rw [h]; rfl
/-- two rows that may be and agree about a key -/
theorem same_at {o : Int} {l r : List Pr} (hl : mayR o l = true) (hr : mayR o r = true) {key : Int} (h : ∀ v, (key, v) ∈ l ↔ (key, v) ∈ r) : hasR o l key = hasR o r key ∧ getR o l key = getR o r key := by
  cases hh : hasR o l key
  · cases hh' : hasR o r key
    · exact ⟨rfl, by rw [get_none hh, get_none hh']⟩
    · have := (mem_get hl ((h _).2 (has_mem hh'))).1
      rw [hh] at this; cases this
  · have := mem_get hr ((h _).1 (has_mem hh))
    exact ⟨this.1.symm, this.2.symm⟩
theorem put_miss {o p : Int} {l : List Pr} {x : Pr} (hm : mayR o l = true) (hp : may p = true) (hh : hasR o l x.1 = false) : putR o p l x = l.take (posR o l x.1) ++ x :: l.drop (posR o l x.1) := by
  unfold putR; rw [hm, hp, hh]; rfl
theorem put_hit {o p : Int} {l : List Pr} {x : Pr} (hm : mayR o l = true) (hp : may p = true) (hh : hasR o l x.1 = true) : putR o p l x = l.set (posR o l x.1) (x.1, comb p (getR o l x.1) x.2) := by
  unfold putR getR; rw [hm, hp, hh]; rfl
theorem put_may {o p : Int} {l : List Pr} {x : Pr} (hm : mayR o l = true) (hp : may p = true) (hI : InP l) (hx : In x.1) : mayR o (putR o p l x) = true := by
  have hpw := mayR_iff.1 hm
  cases hh : hasR o l x.1
  · rw [put_miss hm hp hh, mayR_iff]
    refine ⟨hpw.1, ?_⟩
    have hpx : posR o l x.1 = idxR o l x.1 := by unfold posR; rw [hm]; rfl
    have hsplit := hpw.2
    rw [← List.take_append_drop (posR o l x.1) l, List.map_append, List.pairwise_append] at hsplit
    rw [List.map_append, List.map_cons, List.pairwise_append, List.pairwise_cons]
    have hlo : ∀ a ∈ (l.take (posR o l x.1)).map (·.1), ltO o a x.1 := fun a ha => by
      simp only [List.mem_map] at ha
      obtain ⟨y, hy, rfl⟩ := ha
      obtain ⟨i, hi, rfl⟩ := List.getElem_of_mem hy
      rw [List.length_take] at hi
      rw [List.getElem_take]
      exact (idxR_lt (o := o) (l := l) (key := x.1) (i := i) (by omega)).2
    have hhi : ∀ b ∈ (l.drop (posR o l x.1)).map (·.1), ltO o x.1 b := fun b hb => by
      simp only [List.mem_map] at hb
      obtain ⟨y, hy, rfl⟩ := hb
      obtain ⟨i, hi, rfl⟩ := List.getElem_of_mem hy
      rw [List.length_drop] at hi
      rw [List.getElem_drop]
      have hlt : idxR o l x.1 < l.length := by omega
      have hge := idxR_ge (o := o) (l := l) (key := x.1) hlt
      have hne : cmpI o l[idxR o l x.1].1 x.1 ≠ 0 := fun h0 => by
        have := (hasR_iff hm).2 ⟨_, hlt, cmpI_eq hpw.1 (hI _ (List.getElem_mem hlt)).1 hx h0⟩
        rw [hh] at this; cases this
      have h1 : cmpI o x.1 l[idxR o l x.1].1 < 0 := cmpI_pos (by omega)
      simp only [hpx]
      rcases Nat.eq_zero_or_pos i with h0 | h0
      · subst h0; exact h1
      · exact cmpI_trans h1 (chain_lt (mayR_chain hm) (i := idxR o l x.1) (j := idxR o l x.1 + i) (by omega) (by omega))
    refine ⟨hsplit.1, ⟨hhi, hsplit.2.1⟩, fun a ha b hb => ?_⟩
    rcases List.mem_cons.1 hb with rfl | hb
    · exact hlo a ha
    · exact hsplit.2.2 a ha b hb
  · rw [put_hit hm hp hh, mayR_iff]
    refine ⟨hpw.1, ?_⟩
    have hlt := hasR_lt hh
    have hk := hasR_key hh
    have : (l.set (posR o l x.1) (x.1, comb p (getR o l x.1) x.2)).map (·.1) = l.map (·.1) := by
      refine List.ext_getElem (by simp) fun i h1 h2 => ?_
      simp only [List.getElem_map, List.getElem_set]
      split
      · rename_i e; subst e; exact hk.symm
      · rfl
    rw [this]; exact hpw.2
theorem put_len {o p : Int} {l : List Pr} {x : Pr} (hm : mayR o l = true) (hp : may p = true) : (putR o p l x).length = if hasR o l x.1 then l.length else l.length + 1 := by
  cases hh : hasR o l x.1
  · rw [put_miss hm hp hh]
    have := posR_le o l x.1
    simp; omega
  · rw [put_hit hm hp hh]; simp
theorem put_mem {o p : Int} {l : List Pr} {x : Pr} (hm : mayR o l = true) (hp : may p = true) (y : Pr) : y ∈ putR o p l x → y = (x.1, if hasR o l x.1 then comb p (getR o l x.1) x.2 else x.2) ∨ y ∈ l := by
  intro hy
  cases hh : hasR o l x.1
  · rw [put_miss hm hp hh] at hy
    rcases List.mem_append.1 hy with h | h
    · exact .inr (List.mem_of_mem_take h)
    · rcases List.mem_cons.1 h with h | h
      · exact .inl h
      · exact .inr (List.mem_of_mem_drop h)
  · rw [put_hit hm hp hh] at hy
    rcases List.mem_or_eq_of_mem_set hy with h | h
    · exact .inr h
    · exact .inl h
theorem put_key {o p : Int} {l : List Pr} {x : Pr} (hm : mayR o l = true) (hp : may p = true) (hI : InP l) (hx : In x.1) :
    hasR o (putR o p l x) x.1 = true ∧ getR o (putR o p l x) x.1 = if hasR o l x.1 then comb p (getR o l x.1) x.2 else x.2 := by
  refine mem_get (put_may hm hp hI hx) ?_
  cases hh : hasR o l x.1
  · rw [put_miss hm hp hh]; simp
  · rw [put_hit hm hp hh]
    have hlt := hasR_lt hh
    exact List.mem_of_getElem (i := posR o l x.1) (h := by simpa using hlt) (by simp)
theorem put_other {o p key : Int} {l : List Pr} {x : Pr} (hm : mayR o l = true) (hp : may p = true) (hI : InP l) (hx : In x.1) (hne : key ≠ x.1) : hasR o (putR o p l x) key = hasR o l key ∧ getR o (putR o p l x) key = getR o l key := by
  refine same_at (put_may hm hp hI hx) hm fun v => ?_
  constructor
  · intro h
    rcases put_mem hm hp _ h with h | h
    · exact absurd (congrArg Prod.fst h) hne
    · exact h
  · intro h
    cases hh : hasR o l x.1
    · rw [put_miss hm hp hh]
      rw [← List.take_append_drop (posR o l x.1) l] at h
      rcases List.mem_append.1 h with h | h
      · exact List.mem_append_left _ h
      · exact List.mem_append_right _ (List.mem_cons_of_mem _ h)
    · rw [put_hit hm hp hh]
      have hlt := hasR_lt hh
      have hk := hasR_key hh
      obtain ⟨i, hi, e⟩ := List.getElem_of_mem h
      have hii : posR o l x.1 ≠ i := fun e' => by
        subst e'
        rw [e] at hk
        exact hne hk
      refine List.mem_of_getElem (i := i) (h := by simpa using hi) ?_
      rw [List.getElem_set_ne hii]; exact e
theorem put_in {o p : Int} {l : List Pr} {x : Pr} (hm : mayR o l = true) (hp : may p = true) (hI : InP l) (hx : In x.1 ∧ In x.2) : InP (putR o p l x) := fun y hy => by
  rcases put_mem hm hp _ hy with rfl | h
  · refine ⟨hx.1, ?_⟩
    show In (if hasR o l x.1 then comb p (getR o l x.1) x.2 else x.2)
    split
    · rename_i hh
      have hg := (hI _ (has_mem hh)).2
      unfold comb
      split
      · exact hg
      · split
        · exact hx.2
        · exact wrap_in _
    · exact hx.2
  · exact hI _ h
/-- the state of RowKeeps -/
structure Keeps (o key : Int) (w w' : World) (k : Nat) (p : Option Addr) (n c : Nat) (val : Int) (has : Bool) : Prop where
  ext : Ext w w'
  row : ∃ r, OwnP w' w.heap.size p n c r ∧ mayR o r = true ∧ InP r ∧ hasR o r key = has ∧ (has = true → getR o r key = val)
  len : n ≤ k
theorem Keeps.to {o key : Int} {w w' w'' : World} {k : Nat} {p : Option Addr} {n c : Nat} {val : Int} {has : Bool} (h : Keeps o key w w' k p n c val has) (e : Ext w' w'') : Keeps o key w w'' k p n c val has := by
  obtain ⟨r, h1, h2⟩ := h.row
  exact ⟨h.ext.trans e, ⟨r, row_to h1 e (Nat.le_refl _), h2⟩, h.len⟩
end Go.Proofs.YtlfjaogbehpleaaGreat

namespace Go.Proofs.YtlfjaogbehpleaaGreat
open Go Go.Sh Go.RowKit

/-- the size of the tree at a pointer -/
def szAt (v : Value) (w : World) : Nat := match v with
  | .pointer (some a) => (match w.cell? (a.add 4) with | some (.int _ n) => n.toNat | _ => 0)
  | _ => 0
theorem szAt_of {w : World} {p : Option Addr} {t : Tr} (h : IsN w p t) : szAt (.pointer p) w = t.size := by
  cases t with
  | nil => rw [show p = none from h]; rfl
  | node l k v g r =>
    obtain ⟨b, pl, pr, rfl, hb, _, _⟩ := h
    unfold szAt
    simp only
    rw [hb.cell (i := 4) (add_blk _ _) rfl]
    simp
abbrev AllK (t : Tr) : Prop := t.All fun x => In x.1
/-- What a way over nodes asks of yield. -/
structure WayTo (o key : Int) (w0 : World) (pt : Option Addr) (t : Tr) (bt bo bk : Nat) (y : Value) (St : Tr → World → Prop) (Fin : World → Prop) : Prop where
  blks : ∀ s w, St s w → Ext w0 w ∧ Blk w bt #[.pointer pt] 68 ∧ Blk w bo #[.int .u8 o] 5 ∧ Blk w bk #[.int .i64 key] 2
  ext : ∀ s w w', St s w → Ext w w' → St s w'
  yields : ∀ s p w, s.nn = true → AllK s → s.size ≤ t.size → IsN w0 p s → St s w → ∀ R' : Ending → World → Prop,
    (∀ w', (if cmpI o key s.key = 0 then Fin w' else St (s.next o key) w') → R' (.returned (.bool true)) w') → doCall Tryz.prog y #[.pointer p, .int .i64 (cmpI o key s.key)] w R'
  fext : ∀ w, Fin w → Ext w0 w
end Go.Proofs.YtlfjaogbehpleaaGreat

namespace Go.Proofs.YtlfjaogbehpleaaGreat
open Go Go.Sh

abbrev It := Int × Int × Int
def itC (c : Int) (x : It) : It := if c = 4 then x else (x.1, x.2.1, 0)
def itsC (c : Int) (t : Tr) : List It := (itT t).map (itC c)
theorem itC_key (c : Int) (x : It) : (itC c x).1 = x.1 := by unfold itC; split <;> rfl
theorem itC_val (c : Int) (x : It) : (itC c x).2.1 = x.2.1 := by unfold itC; split <;> rfl
theorem itC_itC (c : Int) (x : It) : itC c (itC c x) = itC c x := by unfold itC; split <;> rfl
theorem itsC_nil (c : Int) : itsC c .nil = [] := rfl
theorem itsC_node (c : Int) (l r : Tr) (k v g : Int) : itsC c (.node l k v g r) = itsC c l ++ itC c (k, v, g) :: itsC c r := by simp [itsC, itT]
theorem items_len (t : Tr) : (itT t).length = t.size := by
  induction t with
  | nil => rfl
  | node l k v g r ihl ihr => simp [itT, Tr.size, ihl, ihr]; omega
theorem itsC_len (c : Int) (t : Tr) : (itsC c t).length = t.size := by simp [itsC, items_len]
theorem itsC_pairs {c : Int} (h : c ≠ 4) (t : Tr) : itsC c t = t.pairs.map fun p => (p.1, p.2, 0) := by
  rw [items_pairs]
  unfold itsC itC
  simp [h]
def OkP (c : Int) (t : Tr) : Prop := (c = 1 ∧ Avl t) ∨ (c = 2 ∧ Rb t) ∨ (c = 3 ∧ Wb t) ∨ (c = 4 ∧ Tp t)
def OkM (c : Int) (t : Tr) : Prop := OkP c t ∧ (c = 2 → redR t = false)
def isS (c : Int) : Bool := decide (1 ≤ c ∧ c ≤ 4)
theorem isS_iff {c : Int} : isS c = true ↔ c = 1 ∨ c = 2 ∨ c = 3 ∨ c = 4 := by
  unfold isS; rw [decide_eq_true_iff]; omega
theorem OkP.nil {c : Int} (h : isS c = true) : OkP c .nil := by
  rcases isS_iff.1 h with rfl | rfl | rfl | rfl
  · exact .inl ⟨rfl, trivial⟩
  · exact .inr (.inl ⟨rfl, trivial⟩)
  · exact .inr (.inr (.inl ⟨rfl, trivial⟩))
  · exact .inr (.inr (.inr ⟨rfl, trivial⟩))
theorem OkM.nil {c : Int} (h : isS c = true) : OkM c .nil := ⟨.nil h, fun _ => rfl⟩
theorem OkP.s {c : Int} {t : Tr} (h : OkP c t) : isS c = true := by
  rw [isS_iff]
  rcases h with h | h | h | h
  · exact .inl h.1
  · exact .inr (.inl h.1)
  · exact .inr (.inr (.inl h.1))
  · exact .inr (.inr (.inr h.1))
theorem OkP.sides {c : Int} {l r : Tr} {k v g : Int} (h : OkP c (.node l k v g r)) : OkP c l ∧ OkP c r := by
  rcases h with ⟨e, h⟩ | ⟨e, h⟩ | ⟨e, h⟩ | ⟨e, h⟩
  · exact ⟨.inl ⟨e, h.1⟩, .inl ⟨e, h.2.1⟩⟩
  · exact ⟨.inr (.inl ⟨e, h.1⟩), .inr (.inl ⟨e, h.2.1⟩)⟩
  · exact ⟨.inr (.inr (.inl ⟨e, h.1⟩)), .inr (.inr (.inl ⟨e, h.2.1⟩))⟩
  · exact ⟨.inr (.inr (.inr ⟨e, h.1⟩)), .inr (.inr (.inr ⟨e, h.2.1⟩))⟩
def joinC (c : Int) (l : Tr) (x : It) (r : Tr) : Tr :=
  if c = 1 then joinA l x.1 x.2.1 r else if c = 2 then joinR l x.1 x.2.1 r else if c = 3 then joinW l x.1 x.2.1 r else joinT (l.size + r.size) l x.1 x.2.1 x.2.2 r
theorem joinC_ok {c : Int} {l r : Tr} (hl : OkP c l) (hr : OkP c r) (x : It) : OkM c (joinC c l x r) ∧ itsC c (joinC c l x r) = itsC c l ++ itC c x :: itsC c r := by
  obtain ⟨k, v, g⟩ := x
  rcases hl with ⟨rfl, hl⟩ | ⟨rfl, hl⟩ | ⟨rfl, hl⟩ | ⟨rfl, hl⟩
  · have hr : Avl r := by simpa [OkP] using hr
    have := joinA_ok hl hr k v
    refine ⟨⟨.inl ⟨rfl, this.1⟩, by simp⟩, ?_⟩
    have e := this.2
    rw [itsC_pairs (by decide), itsC_pairs (by decide), itsC_pairs (by decide)]
    show (joinA l k v r).pairs.map _ = _
    rw [e]; simp [itC]
  · have hr : Rb r := by simpa [OkP] using hr
    have := joinR_ok hl hr k v
    refine ⟨⟨.inr (.inl ⟨rfl, this.1⟩), fun _ => this.2.1⟩, ?_⟩
    have e := this.2.2
    rw [itsC_pairs (by decide), itsC_pairs (by decide), itsC_pairs (by decide)]
    show (joinR l k v r).pairs.map _ = _
    rw [e]; simp [itC]
  · have hr : Wb r := by simpa [OkP] using hr
    have := joinW_ok hl hr k v
    refine ⟨⟨.inr (.inr (.inl ⟨rfl, this.1⟩)), by simp⟩, ?_⟩
    have e := this.2
    rw [itsC_pairs (by decide), itsC_pairs (by decide), itsC_pairs (by decide)]
    show (joinW l k v r).pairs.map _ = _
    rw [e]; simp [itC]
  · have hr : Tp r := by simpa [OkP] using hr
    have := joinT_ok (l.size + r.size) k v g (Nat.le_refl _) hl hr
    refine ⟨⟨.inr (.inr (.inr ⟨rfl, this.tp⟩)), by simp⟩, ?_⟩
    show (itT (joinT (l.size + r.size) l k v g r)).map _ = _
    rw [this.items]; simp [itsC]
theorem joinC_size {c : Int} {l r : Tr} (hl : OkP c l) (hr : OkP c r) (x : It) : (joinC c l x r).size = l.size + 1 + r.size := by
  have := congrArg List.length (joinC_ok hl hr x).2
  simp only [itsC_len, List.length_append, List.length_cons] at this
  omega
def wholeC (c : Int) (t : Tr) : Tr := if c = 2 then blkR t else t
theorem wholeC_ok {c : Int} {t : Tr} (h : OkP c t) : OkM c (wholeC c t) ∧ itsC c (wholeC c t) = itsC c t := by
  unfold wholeC
  split
  · rename_i e; subst e
    have h : Rb t := by simpa [OkP] using h
    have := blkR_ok h
    refine ⟨⟨.inr (.inl ⟨rfl, this.1⟩), fun _ => this.2.1⟩, ?_⟩
    rw [itsC_pairs (by decide), itsC_pairs (by decide), blkR_pairs]
  · rename_i e
    exact ⟨⟨h, fun e' => absurd e' e⟩, rfl⟩
theorem wholeC_size {c : Int} {t : Tr} (h : OkP c t) : (wholeC c t).size = t.size := by
  rw [← itsC_len c, ← itsC_len c t, (wholeC_ok h).2]
/-! ### parted -/
def rootC (c : Int) (t : Tr) : It := if t.nn then itC c (t.key, t.val, t.tag) else (0, 0, 0)
def splitC (c o key : Int) : Tr → Tr × Option It × Tr
  | .nil => (.nil, none, .nil)
  | .node l k v g r =>
    if cmpI o k key < 0 then (joinC c l (itC c (k, v, g)) (splitC c o key r).1, (splitC c o key r).2.1, (splitC c o key r).2.2)
    else if 0 < cmpI o k key then ((splitC c o key l).1, (splitC c o key l).2.1, joinC c (splitC c o key l).2.2 (itC c (k, v, g)) r)
    else (wholeC c l, some (itC c (k, v, g)), wholeC c r)
abbrev asc (o : Int) (l : List It) : Prop := (l.map (·.1)).Pairwise (ltO o)
def ltF (o key : Int) (l : List It) : List It := l.filter fun x => decide (cmpI o x.1 key < 0)
def eqF (o key : Int) (l : List It) : List It := l.filter fun x => decide (cmpI o x.1 key = 0)
def gtF (o key : Int) (l : List It) : List It := l.filter fun x => decide (0 < cmpI o x.1 key)
theorem cmpI_eqr {o a b c : Int} (h1 : cmpI o a b < 0) (h2 : cmpI o b c = 0) : cmpI o a c < 0 := by
  unfold cmpI at *
  split at h1
  · rename_i h
    rw [if_pos h] at h2 ⊢
    split at h1
    · split at h2
      · omega
      · split at h2
        · omega
        · rw [if_pos (by omega)]; omega
    · split at h1 <;> omega
  · omega
theorem cmpI_eql {o a b c : Int} (h1 : cmpI o a b < 0) (h2 : cmpI o a c = 0) : 0 < cmpI o b c := by
  unfold cmpI at *
  split at h1
  · rename_i h
    rw [if_pos h] at h2 ⊢
    split at h1
    · split at h2
      · omega
      · split at h2
        · omega
        · rw [if_neg (by omega), if_pos (by omega)]; omega
    · split at h1 <;> omega
  · omega
theorem asc_node {o c : Int} {l r : Tr} {k v g : Int} (h : asc o (itsC c (.node l k v g r))) : asc o (itsC c l) ∧ asc o (itsC c r) ∧ (∀ x ∈ itsC c l, cmpI o x.1 k < 0) ∧ (∀ x ∈ itsC c r, cmpI o k x.1 < 0) := by
  rw [itsC_node] at h
  unfold asc at h ⊢
  simp only [List.map_append, List.map_cons, List.pairwise_append, List.pairwise_cons, itC_key, List.mem_map, List.mem_cons] at h
  refine ⟨h.1, h.2.1.2, fun x hx => h.2.2 _ ⟨x, hx, rfl⟩ _ (.inl rfl), fun x hx => h.2.1.1 _ ⟨x, hx, rfl⟩⟩
theorem filt_all {p : It → Bool} {l : List It} (h : ∀ x ∈ l, p x = true) : l.filter p = l := List.filter_eq_self.2 h
theorem filt_no {p : It → Bool} {l : List It} (h : ∀ x ∈ l, p x = false) : l.filter p = [] := List.filter_eq_nil_iff.2 fun x hx => by simp [h x hx]
structure SplitOk (c o key : Int) (l : List It) (s : Tr × Option It × Tr) : Prop where
  okl : OkM c s.1
  okr : OkM c s.2.2
  lt : itsC c s.1 = ltF o key l
  eq : s.2.1.toList = eqF o key l
  gt : itsC c s.2.2 = gtF o key l
theorem splitC_ok {c o key : Int} : ∀ {t : Tr}, OkP c t → asc o (itsC c t) → SplitOk c o key (itsC c t) (splitC c o key t)
  | .nil, h, _ => ⟨.nil h.s, .nil h.s, rfl, rfl, rfl⟩
  | .node l k v g r, h, ha => by
    obtain ⟨hl, hr⟩ := h.sides
    obtain ⟨al, ar, bl, br⟩ := asc_node ha
    have IL := splitC_ok (key := key) hl al
    have IR := splitC_ok (key := key) hr ar
    unfold splitC
    split
    · rename_i h1
      have j := joinC_ok hl IR.okl.1 (itC c (k, v, g))
      have e1 : ∀ x ∈ itsC c l, cmpI o x.1 key < 0 := fun x hx => cmpI_trans (bl x hx) h1
      refine ⟨j.1, IR.okr, ?_, ?_, ?_⟩
      · rw [j.2, IR.lt, itsC_node, itC_itC]
        unfold ltF
        rw [List.filter_append, List.filter_cons, filt_all (l := itsC c l) (fun x hx => decide_eq_true (e1 x hx)), itC_key, if_pos (decide_eq_true h1)]
      · rw [IR.eq, itsC_node]
        unfold eqF
        rw [List.filter_append, List.filter_cons, filt_no (l := itsC c l) (fun x hx => decide_eq_false (by have := e1 x hx; omega)), itC_key, if_neg (by simp; omega)]; rfl
      · rw [IR.gt, itsC_node]
        unfold gtF
        rw [List.filter_append, List.filter_cons, filt_no (l := itsC c l) (fun x hx => decide_eq_false (by have := e1 x hx; omega)), itC_key, if_neg (by simp; omega)]; rfl
    · rename_i h1
      split
      · rename_i h2
        have j := joinC_ok IL.okr.1 hr (itC c (k, v, g))
        have e1 : ∀ x ∈ itsC c r, 0 < cmpI o x.1 key := fun x hx => cmpI_neg (cmpI_trans (cmpI_pos h2) (br x hx))
        refine ⟨IL.okl, j.1, ?_, ?_, ?_⟩
        · rw [IL.lt, itsC_node]
          unfold ltF
          rw [List.filter_append, List.filter_cons, filt_no (l := itsC c r) (fun x hx => decide_eq_false (by have := e1 x hx; omega)), itC_key, if_neg (by simp; omega)]; simp
        · rw [IL.eq, itsC_node]
          unfold eqF
          rw [List.filter_append, List.filter_cons, filt_no (l := itsC c r) (fun x hx => decide_eq_false (by have := e1 x hx; omega)), itC_key, if_neg (by simp; omega)]; simp
        · rw [j.2, IL.gt, itsC_node, itC_itC]
          unfold gtF
          rw [List.filter_append, List.filter_cons, filt_all (l := itsC c r) (fun x hx => decide_eq_true (e1 x hx)), itC_key, if_pos (decide_eq_true h2)]
      · rename_i h2
        have h0 : cmpI o k key = 0 := by omega
        have e1 : ∀ x ∈ itsC c l, cmpI o x.1 key < 0 := fun x hx => cmpI_eqr (bl x hx) h0
        have e2 : ∀ x ∈ itsC c r, 0 < cmpI o x.1 key := fun x hx => cmpI_eql (br x hx) h0
        have wl := wholeC_ok hl
        have wr := wholeC_ok hr
        refine ⟨wl.1, wr.1, ?_, ?_, ?_⟩
        · rw [wl.2, itsC_node]
          unfold ltF
          rw [List.filter_append, List.filter_cons, filt_all (l := itsC c l) (fun x hx => decide_eq_true (e1 x hx)), filt_no (l := itsC c r) (fun x hx => decide_eq_false (by have := e2 x hx; omega)), itC_key, if_neg (by simp; omega)]; simp
        · rw [itsC_node]
          unfold eqF
          rw [List.filter_append, List.filter_cons, filt_no (l := itsC c l) (fun x hx => decide_eq_false (by have := e1 x hx; omega)), filt_no (l := itsC c r) (fun x hx => decide_eq_false (by have := e2 x hx; omega)), itC_key, if_pos (decide_eq_true h0)]; rfl
        · rw [wr.2, itsC_node]
          unfold gtF
          rw [List.filter_append, List.filter_cons, filt_no (l := itsC c l) (fun x hx => decide_eq_false (by have := e1 x hx; omega)), filt_all (l := itsC c r) (fun x hx => decide_eq_true (e2 x hx)), itC_key, if_neg (by simp; omega)]; rfl
/-! ### cut off, and two made into one -/
def lastC (c : Int) : Tr → Tr × It
  | .nil => (.nil, (0, 0, 0))
  | .node l k v g .nil => (wholeC c l, itC c (k, v, g))
  | .node l k v g r => (joinC c l (itC c (k, v, g)) (lastC c r).1, (lastC c r).2)
theorem lastC_ok {c : Int} : ∀ {t : Tr}, t.nn = true → OkP c t → OkM c (lastC c t).1 ∧ itsC c t = itsC c (lastC c t).1 ++ [(lastC c t).2]
  | .nil, h, _ => by cases h
  | .node l k v g .nil, _, h => by
    have w := wholeC_ok h.sides.1
    unfold lastC
    refine ⟨w.1, ?_⟩
    rw [itsC_node]
    simp only [w.2]; rfl
  | .node l k v g (.node a b d e f), _, h => by
    have I := lastC_ok (t := .node a b d e f) rfl h.sides.2
    have j := joinC_ok h.sides.1 I.1.1 (itC c (k, v, g))
    unfold lastC
    refine ⟨j.1, ?_⟩
    rw [itsC_node, j.2, itC_itC, I.2]
    simp
def join2C (c : Int) (l r : Tr) : Tr := if l.nn then joinC c (lastC c l).1 (lastC c l).2 r else wholeC c r
theorem lastC_it {c : Int} : ∀ {t : Tr}, t.nn = true → itC c (lastC c t).2 = (lastC c t).2
  | .nil, h => by cases h
  | .node l k v g .nil, _ => itC_itC _ _
  | .node l k v g (.node a b d e f), _ => lastC_it (t := .node a b d e f) rfl
theorem join2C_ok {c : Int} {l r : Tr} (hl : OkP c l) (hr : OkP c r) : OkM c (join2C c l r) ∧ itsC c (join2C c l r) = itsC c l ++ itsC c r := by
  unfold join2C
  split
  · rename_i hn
    have I := lastC_ok hn hl
    have j := joinC_ok I.1.1 hr (lastC c l).2
    refine ⟨j.1, ?_⟩
    rw [j.2, lastC_it hn, I.2]
    simp
  · rename_i hn
    have w := wholeC_ok hr
    have hn : l.nn = false := by simpa using hn
    rw [Tr.size0 hn]
    exact ⟨w.1, w.2⟩
end Go.Proofs.YtlfjaogbehpleaaGreat

namespace Go.Proofs.YtlfjaogbehpleaaGreat
open Go Go.Sh Go.RowKit

abbrev agI (x : It) : Value := .agg #[.int .i64 x.1, .int .i64 x.2.1, .int .u64 x.2.2]
theorem c_titem {p : Option Addr} {t : Tr} {w : World} {R : Ending → World → Prop} (ht : IsN w p t) (h : ∀ w', Ext w w' → R (.returned (agI (t.key, t.val, t.tag))) w') : Calls Tryz.prog 328 #[.pointer p] w R := by
  refine sh328_ok _ ?_
  unfold sh328
  have e0 := ext_alloc w (.cells #[.int .i64 0, .int .i64 0, .int .u64 0] 133)
  have hb := blk_alloc w #[.int .i64 0, .int .i64 0, .int .u64 0] 133
  refine ⟨do_call Tryz.call131 (c_key (ht.ext e0) fun w1 e1 => retS_ret ⟨_, rfl, ?_⟩)⟩
  have E1 := e0.trans e1
  refine do_call Tryz.call132 (c_val (ht.ext E1) fun w2 e2 => retS_ret ⟨_, rfl, ?_⟩)
  have E2 := E1.trans e2
  refine do_call Tryz.call214 (c_tag (ht.ext E2) fun w3 e3 => retS_ret ⟨_, rfl, ?_⟩)
  have E3 := E2.trans e3
  refine do_st3 (hb.ext ((e1.trans e2).trans e3)) fun w4 h4 g4 => ⟨_, h4.cell (i := 0) (add_blk _ _) rfl, _, h4.cell (i := 1) (add_blk _ _) rfl, _, h4.cell (i := 2) (add_blk _ _) rfl, h _ (E3.st g4 (Nat.le_refl _))⟩
theorem c_tabove {a b : It} {w : World} {R : Ending → World → Prop} (h : ∀ w', Ext w w' → R (.returned (.bool (decide (b.2.2 < a.2.2) || (decide (a.2.2 = b.2.2) && decide (b.1 < a.1))))) w') : Calls Tryz.prog 327 #[agI a, agI b] w R := by
  refine sh327_ok _ _ _ _ _ _ ?_
  unfold sh327
  have e0 := ext_alloc w (.cells #[.int .i64 a.1, .int .i64 a.2.1, .int .u64 a.2.2] 133)
  have hb := blk_alloc w #[.int .i64 a.1, .int .i64 a.2.1, .int .u64 a.2.2] 133
  refine ⟨⟨?_⟩⟩
  intro K13
  generalize w.alloc (.cells #[.int .i64 a.1, .int .i64 a.2.1, .int .u64 a.2.2] 133) = w1 at *
  have e1 := ext_alloc w1 (.cells #[.int .i64 b.1, .int .i64 b.2.1, .int .u64 b.2.2] 133)
  have hc := blk_alloc w1 #[.int .i64 b.1, .int .i64 b.2.1, .int .u64 b.2.2] 133
  have hb := hb.ext e1
  have hr := h _ (e0.trans e1)
  refine ⟨_, hb.cell (i := 2) (add_blk _ _) rfl, _, hc.cell (i := 2) (add_blk _ _) rfl, ifB_intro (fun h1 => ?_) fun h1 => ?_⟩
  · have h1 : b.2.2 < a.2.2 := of_decide_eq_true h1
    rw [decide_eq_true h1] at hr; exact hr
  · have h1 : ¬ b.2.2 < a.2.2 := of_decide_eq_false h1
    rw [decide_eq_false h1, Bool.false_or] at hr
    refine ⟨_, hb.cell (i := 2) (add_blk _ _) rfl, _, hc.cell (i := 2) (add_blk _ _) rfl, ifB_intro (fun h2 => ?_) fun h2 => ?_⟩
    · have h2 : a.2.2 = b.2.2 := by simpa using h2
      rw [decide_eq_true h2, Bool.true_and] at hr
      exact ⟨_, hb.cell (i := 0) (add_blk _ _) rfl, _, hc.cell (i := 0) (add_blk _ _) rfl, hr⟩
    · have h2 : ¬ a.2.2 = b.2.2 := by simpa using h2
      rw [decide_eq_false h2, Bool.false_and] at hr; exact hr
theorem c_abT {p q : Option Addr} {a b : Tr} {w : World} {R : Ending → World → Prop} (ha : IsN w p a) (hb : IsN w q b) (h : ∀ w', Ext w w' → R (.returned (.bool (abT a b))) w') : Calls Tryz.prog 274 #[.pointer p, .pointer q] w R := by
  refine sh274_ok _ _ ?_
  unfold sh274
  intro K5
  rw [ha.isNone, hb.isNone]
  unfold abT at h
  cases hn : a.nn with
  | false => rw [hn] at h; exact ifB_f rfl (h _ (ext_refl _))
  | true =>
    refine ifB_t rfl ?_
    cases hm : b.nn with
    | false => rw [hn, hm] at h; exact ifB_f rfl (h _ (ext_refl _))
    | true =>
      rw [hn, hm] at h
      refine ifB_t rfl (do_call Tryz.call328 (c_titem ha fun w1 e1 => retS_ret ⟨_, _, _, rfl, ?_⟩))
      refine do_call Tryz.call328 (c_titem (hb.ext e1) fun w2 e2 => retS_ret ⟨_, _, _, rfl, ?_⟩)
      exact do_call Tryz.call327 (c_tabove (a := (a.key, a.val, a.tag)) (b := (b.key, b.val, b.tag)) fun w3 e3 => retS_ret ⟨_, rfl, h _ ((e1.trans e2).trans e3)⟩)
set_option maxRecDepth 20000 in
/-- does a root stand above two others? -/
theorem c_tis {pa pb pm q : Option Addr} {c : Nat} {a b m : Tr} {w : World} {R : Ending → World → Prop} (ha : IsN w pa a) (hb : IsN w pb b) (hm : IsN w pm m) (hmn : m.nn = true) (hc : Cs w q [.pointer pm, .pointer pb])
    (h : ∀ w', Ext w w' → R (.returned (.bool (topT a b m))) w') : Calls Tryz.prog 400 #[.pointer pa, .slice q 2 c] w R := by
  refine sh400_ok _ _ _ _ ?_
  unfold sh400
  refine ⟨fun vs w' => Ext w w' ∧ ((vs = [.int .i64 0]) ∨ (vs = [.int .i64 1] ∧ abT a m = true) ∨ (vs = [.int .i64 2] ∧ abT a m = true ∧ (b.nn = true → abT a b = true))), fun vs _ => 2 - (intOf (vs.getD 0 undef)).toNat, ⟨ext_refl _, .inl rfl⟩, ?_⟩
  rintro i _ w2 ⟨E, hv⟩
  rcases hv with hv | ⟨hv, h1⟩ | ⟨hv, h1, h2⟩ <;> (simp only [List.cons.injEq, Value.int.injEq, true_and, and_true] at hv; subst hv)
  · refine ifB_t (by decide) ?_
    intro K11
    obtain ⟨ad, rfl, hr⟩ := hc 0 _ rfl
    refine ⟨_, rfl, by decide, by decide, _, (by have := E.cell hr; exact this), ?_⟩
    intro K16
    refine ifB_t (by rw [hm.isNone, hmn]; rfl) (do_call Tryz.call274 (c_abT (ha.ext E) (hm.ext E) fun w3 e3 => retS_ret ⟨_, rfl, ?_⟩))
    cases hab : abT a m with
    | false =>
      have := h _ (E.trans e3)
      unfold topT at this; rw [hab] at this
      exact ifB_t rfl this
    | true => exact ifB_f rfl ⟨⟨E.trans e3, .inr (.inl ⟨rfl, hab⟩)⟩, by show 2 - (1 : Nat) < 2 - 0; omega⟩
  · refine ifB_t (by decide) ?_
    intro K11
    obtain ⟨ad, rfl, hr⟩ := hc 1 _ rfl
    refine ⟨_, rfl, by decide, by decide, _, (by have := E.cell hr; exact this), ?_⟩
    intro K16
    refine ifB_intro (fun hbn => ?_) fun hbn => ?_
    · have hbn : b.nn = true := by rw [hb.isNone] at hbn; simpa using hbn
      refine do_call Tryz.call274 (c_abT (ha.ext E) (hb.ext E) fun w3 e3 => retS_ret ⟨_, rfl, ?_⟩)
      cases hab : abT a b with
      | false =>
        have := h _ (E.trans e3)
        unfold topT at this; rw [h1, hbn, hab] at this
        exact ifB_t rfl this
      | true => exact ifB_f rfl ⟨⟨E.trans e3, .inr (.inr ⟨rfl, h1, fun _ => hab⟩)⟩, by show 2 - (2 : Nat) < 2 - 1; omega⟩
    · have hbn : b.nn = false := by rw [hb.isNone] at hbn; simpa using hbn
      exact ⟨⟨E, .inr (.inr ⟨rfl, h1, fun h => by rw [hbn] at h; cases h⟩)⟩, by show 2 - (2 : Nat) < 2 - 1; omega⟩
  · refine ifB_f (by decide) ?_
    have := h _ E
    unfold topT at this
    have e : (!b.nn || abT a b) = true := by
      cases hbn : b.nn with
      | false => rfl
      | true => rw [h2 hbn]; rfl
    rw [h1, e] at this
    have hn := (abT_iff.1 h1).1
    rw [ha.isNone, hn]
    exact this
theorem joinT_eq {n : Nat} {l r : Tr} (k v g : Int) (hs : l.size + r.size ≤ n) : joinT n l k v g r =
    if topT l r (midT k v g) then .node l.left l.key l.val l.tag (joinT (n - 1) l.right k v g r)
    else if topT r l (midT k v g) then .node (joinT (n - 1) l k v g r.left) r.key r.val r.tag r.right
    else if abT l (midT k v g) then .node l.left l.key l.val l.tag (joinT (n - 1) l.right k v g r)
    else if abT r (midT k v g) then .node (joinT (n - 1) l k v g r.left) r.key r.val r.tag r.right
    else .node l k v g r := by
  cases n with
  | zero =>
    obtain rfl : l = .nil := by cases l <;> simp [Tr.size] at hs ⊢
    obtain rfl : r = .nil := by cases r <;> simp [Tr.size] at hs ⊢
    rfl
  | succ n => rfl
theorem joinT_size : ∀ (n : Nat) {l r : Tr} {k v g : Int}, l.size + r.size ≤ n → (joinT n l k v g r).size = l.size + 1 + r.size := fun n => by
  induction n with
  | zero => intro l r k v g hs; rfl
  | succ n ih =>
    intro l r k v g hs
    have hl : abT l (midT k v g) = true → (Tr.node l.left l.key l.val l.tag (joinT n l.right k v g r)).size = l.size + 1 + r.size := fun h => by
      have := size_nn (abT_iff.1 h).1
      show l.left.size + 1 + (joinT n l.right k v g r).size = _
      rw [ih (by omega)]; omega
    have hr : abT r (midT k v g) = true → (Tr.node (joinT n l k v g r.left) r.key r.val r.tag r.right).size = l.size + 1 + r.size := fun h => by
      have := size_nn (abT_iff.1 h).1
      show (joinT n l k v g r.left).size + 1 + r.right.size = _
      rw [ih (by omega)]; omega
    have no {a b : Tr} (h : topT a b (midT k v g) = true) : abT a (midT k v g) = true := by
      unfold topT at h
      revert h
      cases abT a (midT k v g) <;> simp
    unfold joinT
    split
    · rename_i h; exact hl (no h)
    · split
      · rename_i h; exact hr (no h)
      · split
        · rename_i h; exact hl h
        · split
          · rename_i h; exact hr h
          · rfl
abbrev RecT (k v g : Int) (n : Nat) : Prop := n ≠ 0 → ∀ {l r : Tr} {pl pr : Option Addr} {w : World} {R : Ending → World → Prop}, l.size + r.size ≤ n - 1 → IsN w pl l → IsN w pr r → l.size + r.size + 5 ≤ BIG →
  (∀ q w', Ext w w' → IsN w' q (joinT (n - 1) l k v g r) → R (.returned (.pointer q)) w') → Calls Tryz.prog 397 #[.pointer pl, .agg #[.int .i64 k, .int .i64 v, .int .u64 g], .pointer pr] w R
set_option maxRecDepth 20000 in
theorem c_tboth {k v g : Int} {n : Nat} (rec : RecT k v g n) {l r : Tr} {pl pm pr : Option Addr} {w : World} {R : Ending → World → Prop} (hs : l.size + r.size ≤ n) (hl : IsN w pl l) (hm : IsN w pm (midT k v g)) (hr : IsN w pr r) (hB : l.size + r.size + 5 ≤ BIG)
    (t1 : topT l r (midT k v g) = false) (t2 : topT r l (midT k v g) = false) (h : ∀ q w', Ext w w' → IsN w' q (joinT n l k v g r) → R (.returned (.pointer q)) w') : Calls Tryz.prog 401 #[.pointer pl, .pointer pm, .pointer pr] w R := by
  refine sh401_ok _ _ _ ?_
  unfold sh401
  rw [joinT_eq k v g hs, t1, t2] at h
  simp only [Bool.false_eq_true, if_false] at h
  simp only [BIG] at hB
  refine do_call Tryz.call131 (c_key hm fun w1 e1 => retS_ret ⟨_, rfl, ?_⟩)
  refine do_call Tryz.call132 (c_val (hm.ext e1) fun w2 e2 => retS_ret ⟨_, rfl, ?_⟩)
  refine do_call Tryz.call214 (c_tag (hm.ext (e1.trans e2)) fun w3 e3 => retS_ret ⟨_, rfl, ⟨?_⟩⟩)
  have E3 := (e1.trans e2).trans e3
  refine do_st3 (blk_alloc w3 _ _) fun w4 h4 g4 => ?_
  have E4 : Ext w w4 := E3.trans ((ext_alloc w3 _).st g4 (Nat.le_refl _))
  have h4 : Blk w4 w3.heap.size #[.int .i64 k, .int .i64 v, .int .u64 g] 133 := h4
  refine do_call Tryz.call274 (c_abT (hl.ext E4) (hm.ext E4) fun w5 e5 => retS_ret ⟨_, rfl, ?_⟩)
  have E5 := E4.trans e5
  have h5b := h4.ext e5
  have hl5 := hl.ext E5
  have hr5 := hr.ext E5
  cases ha : abT l (midT k v g) with
  | true =>
    have hln := (abT_iff.1 ha).1
    rw [ha, if_pos rfl] at h
    refine ifB_t rfl ?_
    refine ⟨⟨fun w' => Ext w5 w', ext_drew _, _, fun w' e => (h5b.ext e).cell (i := 0) (add_blk _ _) rfl, _, fun w' e => (h5b.ext e).cell (i := 1) (add_blk _ _) rfl, _, fun w' e => (h5b.ext e).cell (i := 2) (add_blk _ _) rfl, ?_⟩⟩
    have d := ext_drew w5
    refine do_call Tryz.call128 (c_left (hl5.ext d) fun q1 h1 => retS_ret ⟨_, rfl, d, ?_⟩)
    refine do_call Tryz.call131 (c_key (hl5.ext d) fun w2 e2 => retS_ret ⟨_, rfl, d.trans e2, ?_⟩)
    have d2 := d.trans e2
    refine do_call Tryz.call132 (c_val (hl5.ext d2) fun w3 e3 => retS_ret ⟨_, rfl, d2.trans e3, ?_⟩)
    have d3 := d2.trans e3
    refine do_call Tryz.call214 (c_tag (hl5.ext d3) fun w4 e4 => retS_ret ⟨_, rfl, d3.trans e4, ?_⟩)
    have d4 := d3.trans e4
    refine do_call Tryz.call130 (c_right (hl5.ext d4) fun q5 h5 => retS_ret ⟨_, rfl, d4, ?_⟩)
    have hsz := size_nn hln
    refine do_call Tryz.call397 (rec (by omega) (by omega) h5 (hr5.ext d4) (by simp only [BIG]; omega) fun q6 w6 e6 h6 => retS_ret ⟨_, rfl, ?_⟩)
    have d6 := d4.trans e6
    have hjs : (joinT (n - 1) l.right k v g r).size = l.right.size + 1 + r.size := joinT_size _ (by omega)
    exact do_call Tryz.call261 (c_new (h1.ext (((e2.trans e3).trans e4).trans e6)) h6 (by rw [hjs]; omega) fun b7 w7 e7 h7 _ => retS_ret ⟨_, rfl, d6.trans e7, h _ _ ((E5.trans d6).trans e7) h7⟩)
  | false =>
    rw [ha, if_neg (by simp)] at h
    refine ifB_f rfl (do_call Tryz.call274 (c_abT hr5 (hm.ext E5) fun w6 e6 => retS_ret ⟨_, rfl, ?_⟩))
    have E6 := E5.trans e6
    have h6b := h5b.ext e6
    have hl6 := hl5.ext e6
    have hr6 := hr5.ext e6
    cases hb : abT r (midT k v g) with
    | true =>
      have hrn := (abT_iff.1 hb).1
      rw [hb, if_pos rfl] at h
      refine ifB_t rfl ?_
      refine ⟨⟨fun w' => Ext w6 w', ext_drew _, _, fun w' e => (h6b.ext e).cell (i := 0) (add_blk _ _) rfl, _, fun w' e => (h6b.ext e).cell (i := 1) (add_blk _ _) rfl, _, fun w' e => (h6b.ext e).cell (i := 2) (add_blk _ _) rfl, ?_⟩⟩
      have d := ext_drew w6
      have hsz := size_nn hrn
      refine do_call Tryz.call128 (c_left (hr6.ext d) fun q1 h1 => retS_ret ⟨_, rfl, d, ?_⟩)
      refine do_call Tryz.call397 (rec (by omega) (by omega) (hl6.ext d) h1 (by simp only [BIG]; omega) fun q2 w2 e2 h2 => retS_ret ⟨_, rfl, ?_⟩)
      have d2 := d.trans e2
      have hjs : (joinT (n - 1) l k v g r.left).size = l.size + 1 + r.left.size := joinT_size _ (by omega)
      refine do_call Tryz.call131 (c_key (hr6.ext d2) fun w3 e3 => retS_ret ⟨_, rfl, d2.trans e3, ?_⟩)
      have d3 := d2.trans e3
      refine do_call Tryz.call132 (c_val (hr6.ext d3) fun w4 e4 => retS_ret ⟨_, rfl, d3.trans e4, ?_⟩)
      have d4 := d3.trans e4
      refine do_call Tryz.call214 (c_tag (hr6.ext d4) fun w5 e5 => retS_ret ⟨_, rfl, d4.trans e5, ?_⟩)
      have d5 := d4.trans e5
      refine do_call Tryz.call130 (c_right (hr6.ext d5) fun q6 h6 => retS_ret ⟨_, rfl, d5, ?_⟩)
      exact do_call Tryz.call261 (c_new (h2.ext ((e3.trans e4).trans e5)) h6 (by rw [hjs]; omega) fun b7 w7 e7 h7 _ => retS_ret ⟨_, rfl, d5.trans e7, h _ _ ((E6.trans d5).trans e7) h7⟩)
    | false =>
      rw [hb, if_neg (by simp)] at h
      refine ifB_f rfl ⟨_, h6b.cell (i := 0) (add_blk _ _) rfl, _, h6b.cell (i := 1) (add_blk _ _) rfl, _, h6b.cell (i := 2) (add_blk _ _) rfl, ?_⟩
      exact do_call Tryz.call261 (c_new hl6 hr6 (by omega) fun b7 w7 e7 h7 _ => retS_ret ⟨_, rfl, h _ _ (E6.trans e7) h7⟩)
set_option maxRecDepth 20000 in
theorem c_tstep {k v g : Int} {n : Nat} (rec : RecT k v g n) {l r : Tr} {pl pr : Option Addr} {w : World} {R : Ending → World → Prop} (hs : l.size + r.size ≤ n) (hl : IsN w pl l) (hr : IsN w pr r) (hB : l.size + r.size + 5 ≤ BIG)
    (h : ∀ q w', Ext w w' → IsN w' q (joinT n l k v g r) → R (.returned (.pointer q)) w') : Calls Tryz.prog 397 #[.pointer pl, .agg #[.int .i64 k, .int .i64 v, .int .u64 g], .pointer pr] w R := by
  refine sh397_ok _ _ _ _ _ ?_
  unfold sh397
  have hh := h
  rw [joinT_eq k v g hs] at h
  have hB' := hB
  simp only [BIG] at hB
  refine ⟨?_⟩
  have e0 := ext_alloc w (.cells #[.int .i64 k, .int .i64 v, .int .u64 g] 133)
  have hb := blk_alloc w #[.int .i64 k, .int .i64 v, .int .u64 g] 133
  refine ⟨_, hb.cell (i := 0) (add_blk _ _) rfl, _, hb.cell (i := 1) (add_blk _ _) rfl, _, hb.cell (i := 2) (add_blk _ _) rfl, ?_⟩
  refine do_call Tryz.call261 (c_new (l := .nil) (r := .nil) rfl rfl (by decide) fun bm w1 e1 hm _ => retS_ret ⟨_, rfl, ⟨?_⟩⟩)
  have hm : IsN w1 (some (blk bm)) (midT k v g) := hm
  have E1 := e0.trans e1
  have e2 := ext_alloc w1 (.cells #[.pointer (some (blk bm)), .pointer pr] 68)
  have hc := cs_alloc w1 #[.pointer (some (blk bm)), .pointer pr] 68
  have E2 := E1.trans e2
  refine do_call Tryz.call400 (c_tis (hl.ext E2) (hr.ext E2) (hm.ext e2) rfl hc fun w3 e3 => retS_ret ⟨_, rfl, ⟨?_⟩⟩)
  have E3 := E2.trans e3
  have e4 := ext_alloc w3 (.cells #[.pointer (some (blk bm)), .pointer pl] 68)
  have hc := cs_alloc w3 #[.pointer (some (blk bm)), .pointer pl] 68
  have E4 := E3.trans e4
  refine do_call Tryz.call400 (c_tis (hr.ext E4) (hl.ext E4) (hm.ext ((e2.trans e3).trans e4)) rfl hc fun w5 e5 => retS_ret ⟨_, rfl, ?_⟩)
  have E5 := E4.trans e5
  have h5b := hb.ext ((((e1.trans e2).trans e3).trans e4).trans e5)
  have hl5 := hl.ext E5
  have hr5 := hr.ext E5
  have hm5 := hm.ext (((e2.trans e3).trans e4).trans e5)
  have no {a b : Tr} (h : topT a b (midT k v g) = true) : abT a (midT k v g) = true := by
    unfold topT at h
    revert h
    cases abT a (midT k v g) <;> simp
  have notboth : topT l r (midT k v g) = true → topT r l (midT k v g) = true → False := by
    intro h1 h2
    unfold topT at h1 h2
    have h1 : abT l (midT k v g) = true ∧ (r.nn = false ∨ abT l r = true) := by simpa using h1
    have h2 : abT r (midT k v g) = true ∧ (l.nn = false ∨ abT r l = true) := by simpa using h2
    have n1 := (abT_iff.1 h1.1).1
    have n2 := (abT_iff.1 h2.1).1
    rw [n2] at h1
    rw [n1] at h2
    have a1 := (abT_iff.1 (h1.2.resolve_left (by simp))).2.2
    have a2 := (abT_iff.1 (h2.2.resolve_left (by simp))).2.2
    omega
  cases t1 : topT l r (midT k v g) with
  | true =>
    have t2 : topT r l (midT k v g) = false := by
      cases t2 : topT r l (midT k v g) with
      | false => rfl
      | true => exact (notboth t1 t2).elim
    have hln := (abT_iff.1 (no t1)).1
    rw [t1, if_pos rfl] at h
    rw [t2]
    refine ifB_t rfl ?_
    refine ⟨⟨fun w' => Ext w5 w', ext_drew _, _, fun w' e => (h5b.ext e).cell (i := 0) (add_blk _ _) rfl, _, fun w' e => (h5b.ext e).cell (i := 1) (add_blk _ _) rfl, _, fun w' e => (h5b.ext e).cell (i := 2) (add_blk _ _) rfl, ?_⟩⟩
    have d := ext_drew w5
    refine do_call Tryz.call128 (c_left (hl5.ext d) fun q1 h1 => retS_ret ⟨_, rfl, d, ?_⟩)
    refine do_call Tryz.call131 (c_key (hl5.ext d) fun w2 e2 => retS_ret ⟨_, rfl, d.trans e2, ?_⟩)
    have d2 := d.trans e2
    refine do_call Tryz.call132 (c_val (hl5.ext d2) fun w3 e3 => retS_ret ⟨_, rfl, d2.trans e3, ?_⟩)
    have d3 := d2.trans e3
    refine do_call Tryz.call214 (c_tag (hl5.ext d3) fun w4 e4 => retS_ret ⟨_, rfl, d3.trans e4, ?_⟩)
    have d4 := d3.trans e4
    refine do_call Tryz.call130 (c_right (hl5.ext d4) fun q5 h5 => retS_ret ⟨_, rfl, d4, ?_⟩)
    have hsz := size_nn hln
    refine do_call Tryz.call397 (rec (by omega) (by omega) h5 (hr5.ext d4) (by simp only [BIG]; omega) fun q6 w6 e6 h6 => retS_ret ⟨_, rfl, ?_⟩)
    have d6 := d4.trans e6
    have hjs : (joinT (n - 1) l.right k v g r).size = l.right.size + 1 + r.size := joinT_size _ (by omega)
    exact do_call Tryz.call261 (c_new (h1.ext (((e2.trans e3).trans e4).trans e6)) h6 (by rw [hjs]; omega) fun b7 w7 e7 h7 _ => retS_ret ⟨_, rfl, d6.trans e7, h _ _ ((E5.trans d6).trans e7) h7⟩)
  | false =>
    rw [t1, if_neg (by simp)] at h
    cases t2 : topT r l (midT k v g) with
    | true =>
      have hrn := (abT_iff.1 (no t2)).1
      rw [t2, if_pos rfl] at h
      refine ifB_f rfl (ifB_t rfl ?_)
      refine ⟨⟨fun w' => Ext w5 w', ext_drew _, _, fun w' e => (h5b.ext e).cell (i := 0) (add_blk _ _) rfl, _, fun w' e => (h5b.ext e).cell (i := 1) (add_blk _ _) rfl, _, fun w' e => (h5b.ext e).cell (i := 2) (add_blk _ _) rfl, ?_⟩⟩
      have d := ext_drew w5
      have hsz := size_nn hrn
      refine do_call Tryz.call128 (c_left (hr5.ext d) fun q1 h1 => retS_ret ⟨_, rfl, d, ?_⟩)
      refine do_call Tryz.call397 (rec (by omega) (by omega) (hl5.ext d) h1 (by simp only [BIG]; omega) fun q2 w2 e2 h2 => retS_ret ⟨_, rfl, ?_⟩)
      have d2 := d.trans e2
      have hjs : (joinT (n - 1) l k v g r.left).size = l.size + 1 + r.left.size := joinT_size _ (by omega)
      refine do_call Tryz.call131 (c_key (hr5.ext d2) fun w3 e3 => retS_ret ⟨_, rfl, d2.trans e3, ?_⟩)
      have d3 := d2.trans e3
      refine do_call Tryz.call132 (c_val (hr5.ext d3) fun w4 e4 => retS_ret ⟨_, rfl, d3.trans e4, ?_⟩)
      have d4 := d3.trans e4
      refine do_call Tryz.call214 (c_tag (hr5.ext d4) fun w5 e5 => retS_ret ⟨_, rfl, d4.trans e5, ?_⟩)
      have d5 := d4.trans e5
      refine do_call Tryz.call130 (c_right (hr5.ext d5) fun q6 h6 => retS_ret ⟨_, rfl, d5, ?_⟩)
      exact do_call Tryz.call261 (c_new (h2.ext ((e3.trans e4).trans e5)) h6 (by rw [hjs]; omega) fun b7 w7 e7 h7 _ => retS_ret ⟨_, rfl, d5.trans e7, h _ _ ((E5.trans d5).trans e7) h7⟩)
    | false =>
      refine ifB_f rfl (ifB_f rfl ?_)
      exact do_call Tryz.call401 (c_tboth rec hs hl5 hm5 hr5 hB' t1 t2 fun q w6 e6 h6 => retS_ret ⟨_, rfl, hh _ _ (E5.trans e6) h6⟩)
theorem c_tjoin {k v g : Int} : ∀ (n : Nat) {l r : Tr} {pl pr : Option Addr} {w : World} {R : Ending → World → Prop} (_hs : l.size + r.size ≤ n) (_hl : IsN w pl l) (_hr : IsN w pr r) (_hB : l.size + r.size + 5 ≤ BIG)
    (_h : ∀ q w', Ext w w' → IsN w' q (joinT n l k v g r) → R (.returned (.pointer q)) w'), Calls Tryz.prog 397 #[.pointer pl, .agg #[.int .i64 k, .int .i64 v, .int .u64 g], .pointer pr] w R
  | 0, _, _, _, _, _, _, hs, hl, hr, hB, h => c_tstep (fun h0 => absurd rfl h0) hs hl hr hB h
  | n + 1, _, _, _, _, _, _, hs, hl, hr, hB, h => c_tstep (n := n + 1) (fun _ {_ _ _ _ _ _} hs hl hr hB h => c_tjoin n hs hl hr hB h) hs hl hr hB h
end Go.Proofs.YtlfjaogbehpleaaGreat

namespace Go.Proofs.YtlfjaogbehpleaaGreat
open Go Go.Sh

theorem o_disable (w : World) : (callFunc 362 #[]).run Tryz.prog w = .ok (.value (.tuple #[])) w := run_call_mark0 Tryz.func362 (by kernel_rfl) (by kernel_rfl) (by kernel_rfl) .disable (by kernel_rfl) w
theorem o_enable (w : World) : (callFunc 364 #[]).run Tryz.prog w = .ok (.value (.tuple #[])) w := run_call_mark0 Tryz.func364 (by kernel_rfl) (by kernel_rfl) (by kernel_rfl) .enable (by kernel_rfl) w
theorem o_acquire (a : Addr) (w : World) : (callFunc 365 #[.pointer (some a)]).run Tryz.prog w = .ok (.value (.tuple #[])) w := run_call_marked Tryz.func365 (by kernel_rfl) (by kernel_rfl) (by kernel_rfl) .acquire (by kernel_rfl) a w
theorem o_releaseMerge (a : Addr) (w : World) : (callFunc 367 #[.pointer (some a)]).run Tryz.prog w = .ok (.value (.tuple #[])) w := run_call_marked Tryz.func367 (by kernel_rfl) (by kernel_rfl) (by kernel_rfl) .releaseMerge (by kernel_rfl) a w
set_option maxRecDepth 100000 in
set_option maxHeartbeats 1600000 in
/-- the store, as a deferred call -/
theorem o_store (a : Addr) (x : Value) (u : FrameMode) (w : World) (hc : w.cell? a = some x) (hz : w.frozen? a = false) :
    CallsD Tryz.prog 334 #[.pointer (some a), .bool true] u w fun e u' w' => u' = u ∧ (e = .returned (.tuple #[]) ∧ w' = w.drew.setCell a (.int .u32 1)) := by
  have hc' : w.drew.cell? a = some x := by go_simp
  have hz' : w.drew.frozen? a = false := by go_simp
  have hst := run_call_store (P := Tryz.prog) Tryz.func357 (by kernel_rfl) (by kernel_rfl) (by kernel_rfl) (by kernel_rfl) (k := .u32) (y := 1) hc' hz'
  go_enter_d Tryz.func334, Tryz.ntmps334
  go_wp2
  go_region_calls
  all_goals (go_end0; exact ⟨rfl, rfl⟩)
set_option maxRecDepth 100000 in
set_option maxHeartbeats 1600000 in
/-- the unlock, as a deferred call -/
theorem o_unlock (a : Addr) (u : FrameMode) (w : World) (hc : w.cell? a = some (.int .i32 1)) (hz : w.frozen? a = false) :
    CallsD Tryz.prog 333 #[.pointer (some a)] u w fun e u' w' => u' = u ∧ (e = .returned (.tuple #[]) ∧ w' = w.setCell a (.int .i32 0)) := by
  have hd := o_disable
  have he := o_enable
  have hr := o_releaseMerge
  have hadd := run_call_add (P := Tryz.prog) Tryz.func368 (by kernel_rfl) (by kernel_rfl) (by kernel_rfl) .i32 (by kernel_rfl) (y := -1) (s := 0) hc hz (by simp [go_sem]; rfl)
  have hcv := run_convert_to_unsafe (P := Tryz.prog) (src := 399) (dst := 403) Tryz.underlying399 Tryz.underlying403 (by kernel_rfl) hc
  go_enter_d Tryz.func333, Tryz.ntmps333
  go_wp2
  go_end0
  go_wp2
  go_end0
  exact ⟨rfl, rfl⟩
set_option maxRecDepth 100000 in
set_option maxHeartbeats 1600000 in
theorem o_lock (a : Addr) (w : World) (hc : w.cell? a = some (.int .i32 0)) (hz : w.frozen? a = false) :
    Calls Tryz.prog 332 #[.pointer (some a)] w fun e w' => e = .returned (.tuple #[]) ∧ w' = w.setCell a (.int .i32 1) := by
  have hd := o_disable
  have he := o_enable
  have ha := o_acquire
  have hcas := run_call_cas_hit (P := Tryz.prog) Tryz.func363 (by kernel_rfl) (by kernel_rfl) (by kernel_rfl) .i32 (by kernel_rfl) (y := 1) hc hz
  have hc' : (w.setCell a (.int .i32 1)).cell? a = some (.int .i32 1) := World.cell?_setCell_same w a _ hc
  have hcv := run_convert_to_unsafe (P := Tryz.prog) (src := 399) (dst := 403) Tryz.underlying399 Tryz.underlying403 (by kernel_rfl) hc'
  go_enter Tryz.func332, Tryz.ntmps332
  go_wp2
  first | go_end0 | (simp only [Exit.inBlock, Exit.then]; refine bodyPost_ret (results_none rfl _ _ _) rfl ?_) | refine bodyPost_ret (results_none rfl _ _ _) rfl ?_
  go_wp2
  go_end0
  exact ⟨rfl, rfl⟩
end Go.Proofs.YtlfjaogbehpleaaGreat

