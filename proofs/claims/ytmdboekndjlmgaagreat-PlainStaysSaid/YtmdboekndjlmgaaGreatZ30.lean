/-
  Printed by a program (gen.py): what the functions of the program do, as formulas; each with the proof that its call is what the formula says.
-/
import Derived.Test.YtmdboekndjlmgaaGreatZ04
import Derived.Test.YtmdboekndjlmgaaGreatProg
import Derived.Test.YtmdboekndjlmgaaGreatZ02
import Derived.Test.YtmdboekndjlmgaaGreatZ05
import Derived.Test.YtmdboekndjlmgaaGreatZ29

set_option maxRecDepth 100000
set_option maxHeartbeats 6400000
namespace Go.Proofs.YtmdboekndjlmgaaGreat
open Go Go.Sh
def sh5 (o_1 : Int) (l_p2 : OA) (l_n3 : Nat) (l_c4 : Nat) (R : EW) (w : World) : Prop :=
 doCall Tryz.prog (.func (.func 10) #[] #[]) #[.slice l_p2 l_n3 l_c4] w (retS (fun v6 w7 => ∃ x5, v6 = (.bool x5 : Value) ∧ (
 ifB x5 (
 doCall Tryz.prog (.func (.func 6) #[] #[]) #[] w7 (retS (fun v9 w10 => ∃ x8, v9 = (.bool x8 : Value) ∧ (
 R (.returned (.bool x8)) w10)) (kN R))) (
 7 ≠ (0 : Int) ∧ (
 doCall Tryz.prog (.func (.func 16) #[] #[]) #[.int .u8 (IntKind.wrap .u8 (1 + (Int.tmod o_1 7)))] w7 (retS (fun v13 w14 => ∃ x11 x12, v13 = (.tuple #[.pointer x11, .int .i64 x12] : Value) ∧ (
 let K17 : Bool → World → Prop := fun x15 w16 => 
 ifB x15 (
 R (.returned (.bool false)) w16) (
 let K22 : (OA) → Nat → Nat → World → Prop := fun _had_p18 had_n19 _had_c20 w21 => 
 let K25 : Bool → World → Prop := fun x23 w24 => 
 R (.returned (.bool x23)) w24
 doCall Tryz.prog (.func (.func 14) #[] #[]) #[.pointer x11] w21 (retS (fun v27 w28 => ∃ x26, v27 = (.int .i64 x26 : Value) ∧ (
 ifB ((((had_n19 : Nat) : Int) : Int) == x26) (
 doCall Tryz.prog (.func (.func 6) #[] #[]) #[] w28 (retS (fun v30 w31 => ∃ x29, v30 = (.bool x29 : Value) ∧ (
 K25 x29 w31)) (kN R))) (
 R (.returned (.bool false)) w28))) (kN R))
 ∃ (I32 : List Value → World → Prop) (μ33 : List Value → World → Nat), I32 [.slice none 0 0, .slice none 0 0, .int .i64 0] w16 ∧ (∀ (was_p36 : OA), ∀ (was_n37 : Nat), ∀ (was_c38 : Nat), ∀ (had_p39 : OA), ∀ (had_n40 : Nat), ∀ (had_c41 : Nat), ∀ (i_42 : Int), ∀ (_j34 : Nat → Value) (w35 : World), I32 [.slice was_p36 was_n37 was_c38, .slice had_p39 had_n40 had_c41, .int .i64 i_42] w35 → (
 ifB (decide ((i_42 : Int) ≤ ((l_n3 : Nat) : Int))) (
 doCall Tryz.prog (.func (.func 14) #[] #[]) #[.pointer x11] w35 (retS (fun v44 w45 => ∃ x43, v44 = (.int .i64 x43 : Value) ∧ (
 ∃ (I46 : List Value → World → Prop) (μ47 : List Value → World → Nat), I46 [.slice was_p36 was_n37 was_c38, .slice had_p39 had_n40 had_c41, .int .i64 0] w45 ∧ (∀ (was_p50 : OA), ∀ (was_n51 : Nat), ∀ (was_c52 : Nat), ∀ (had_p53 : OA), ∀ (had_n54 : Nat), ∀ (had_c55 : Nat), ∀ (k_56 : Int), ∀ (_j48 : Nat → Value) (w49 : World), I46 [.slice was_p50 was_n51 was_c52, .slice had_p53 had_n54 had_c55, .int .i64 k_56] w49 → (
 ifB (decide ((k_56 : Int) < x43)) (
 let K64 : (OA) → Nat → Nat → (OA) → Nat → Nat → World → Prop := fun was_p57 was_n58 was_c59 had_p60 had_n61 had_c62 w63 => 
 I46 [.slice was_p57 was_n58 was_c59, .slice had_p60 had_n61 had_c62, .int .i64 (IntKind.wrap .i64 (k_56 + 1))] w63 ∧ μ47 [.slice was_p57 was_n58 was_c59, .slice had_p60 had_n61 had_c62, .int .i64 (IntKind.wrap .i64 (k_56 + 1))] w63 < μ47 [.slice was_p50 was_n51 was_c52, .slice had_p53 had_n54 had_c55, .int .i64 k_56] w49
 doCall Tryz.prog (.func (.func 11) #[] #[]) #[.pointer x11, .int .i64 k_56] w49 (retS (fun v69 w70 => ∃ xp65 xn66 xc67 x68, v69 = (.tuple #[.slice xp65 xn66 xc67, .bool x68] : Value) ∧ (
 let K72 : World → Prop := fun w71 => 
 let K80 : (OA) → Nat → Nat → (OA) → Nat → Nat → World → Prop := fun was_p73 was_n74 was_c75 had_p76 had_n77 had_c78 w79 => 
 ifB (decide ((((xn66 : Nat) : Int) : Int) > 0)) (
 doIx xp65 xn66 2 (0) (fun a81 =>
 ∃ x82, w79.cell? (a81.add 1) = some (.int .i64 x82) ∧ (
 doIx xp65 xn66 2 (0) (fun a83 =>
 doSt ((a83.add 1).add 0) (.int .i64 (IntKind.wrap .i64 (x82 + 1))) w79 (fun w84 =>
 K64 was_p73 was_n74 was_c75 had_p76 had_n77 had_c78 w84))))) (
 K64 was_p73 was_n74 was_c75 had_p76 had_n77 had_c78 w79)
 ifB (decide ((k_56 : Int) ≥ ((was_n51 : Nat) : Int))) (
 doGo Tryz.prog (.builtin .append #[22, 22] 22 #[true, false]) #[.slice none 0 0, .slice xp65 xn66 xc67] w71 (retS (fun v88 w89 => ∃ xp85 xn86 xc87, v88 = (.slice xp85 xn86 xc87 : Value) ∧ (
 doAl (.cells #[.slice xp85 xn86 xc87] 22) w89 (fun b90 w91 =>
 doGo Tryz.prog (.builtin .append #[55, 55] 55 #[false, false]) #[.slice was_p50 was_n51 was_c52, .slice (some (blk b90)) 1 1] w91 (retS (fun v95 w96 => ∃ xp92 xn93 xc94, v95 = (.slice xp92 xn93 xc94 : Value) ∧ (
 doAl (.cells #[.bool true] 4) w96 (fun b97 w98 =>
 doGo Tryz.prog (.builtin .append #[60, 60] 60 #[false, false]) #[.slice had_p53 had_n54 had_c55, .slice (some (blk b97)) 1 1] w98 (retS (fun v102 w103 => ∃ xp99 xn100 xc101, v102 = (.slice xp99 xn100 xc101 : Value) ∧ (
 K80 xp92 xn93 xc94 xp99 xn100 xc101 w103)) (kN R))))) (kN R))))) (kN R))) (
 K80 was_p50 was_n51 was_c52 had_p53 had_n54 had_c55 w71)
 let K106 : Bool → World → Prop := fun x104 w105 => 
 ifB x104 (
 R (.returned (.bool false)) w105) (
 K72 w105)
 ifB (!x68) (
 R (.returned (.bool false)) w70) (
 doCall Tryz.prog (.func (.func 24) #[] #[]) #[.int .u8 (IntKind.wrap .u8 (1 + (Int.tmod o_1 7))), .slice xp65 xn66 xc67] w70 (retS (fun v108 w109 => ∃ x107, v108 = (.bool x107 : Value) ∧ (
 ifB (!x107) (
 R (.returned (.bool false)) w109) (
 ifB (decide ((k_56 : Int) < ((was_n51 : Nat) : Int))) (
 doIx was_p50 was_n51 1 (k_56) (fun a110 =>
 ∃ xp111 xn112 xc113, w109.cell? a110 = some (.slice xp111 xn112 xc113) ∧ (
 doCall Tryz.prog (.func (.func 8) #[] #[]) #[.slice xp65 xn66 xc67, .slice xp111 xn112 xc113] w109 (retS (fun v115 w116 => ∃ x114, v115 = (.bool x114 : Value) ∧ (
 K106 (!x114) w116)) (kN R))))) (
 K72 w109)))) (kN R))))) (kN R))) (
 ifB ((i_42 : Int) == ((l_n3 : Nat) : Int)) (
 K22 had_p53 had_n54 had_c55 w49) (
 doIx l_p2 l_n3 15 (i_42) (fun a117 =>
 ∃ x118, w49.cell? (a117.add 0) = some (.int .u8 x118) ∧ (
 ∃ x119, w49.cell? (a117.add 1) = some (.int .i64 x119) ∧ (
 ∃ x120, w49.cell? (a117.add 2) = some (.int .i64 x120) ∧ (
 ∃ x121, w49.cell? (a117.add 3) = some (.int .i64 x121) ∧ (
 ∃ x122, w49.cell? (a117.add 4) = some (.int .i64 x122) ∧ (
 ∃ x123, w49.cell? (a117.add 5) = some (.int .i64 x123) ∧ (
 ∃ x124, w49.cell? (a117.add 6) = some (.int .i64 x124) ∧ (
 ∃ x125, w49.cell? (a117.add 7) = some (.int .i64 x125) ∧ (
 ∃ x126, w49.cell? (a117.add 8) = some (.int .u8 x126) ∧ (
 ∃ x127, w49.cell? (a117.add 9) = some (.int .u8 x127) ∧ (
 ∃ x128, w49.cell? (a117.add 10) = some (.int .i64 x128) ∧ (
 ∃ x129, w49.cell? (a117.add 11) = some (.int .i64 x129) ∧ (
 ∃ x130, w49.cell? (a117.add 12) = some (.bool x130) ∧ (
 ∃ xp131 xn132 xc133, w49.cell? (a117.add 13) = some (.slice xp131 xn132 xc133) ∧ (
 ∃ xp134 xn135 xc136, w49.cell? (a117.add 14) = some (.slice xp134 xn135 xc136) ∧ (
 doCall Tryz.prog (.func (.func 12) #[] #[]) #[.pointer x11, .agg #[.int .u8 x118, .int .i64 x119, .int .i64 x120, .int .i64 x121, .int .i64 x122, .int .i64 x123, .int .i64 x124, .int .i64 x125, .int .u8 x126, .int .u8 x127, .int .i64 x128, .int .i64 x129, .bool x130, .slice xp131 xn132 xc133, .slice xp134 xn135 xc136]] w49 (retS (fun v148 w149 => ∃ x137 x138 x139 x140 x141 xp142 xn143 xc144 xp145 xn146 xc147, v148 = (.agg #[.int .i64 x137, .bool x138, .int .i64 x139, .int .i64 x140, .int .i64 x141, .slice xp142 xn143 xc144, .slice xp145 xn146 xc147] : Value) ∧ (
 doAl (.cells #[.int .i64 0, .bool false, .int .i64 0, .int .i64 0, .int .i64 0, .slice none 0 0, .slice none 0 0] 34) w149 (fun b150 w151 =>
 doSt ((blk b150).add 0) (.int .i64 x137) w151 (fun w152 =>
 doSt ((blk b150).add 1) (.bool x138) w152 (fun w153 =>
 doSt ((blk b150).add 2) (.int .i64 x139) w153 (fun w154 =>
 doSt ((blk b150).add 3) (.int .i64 x140) w154 (fun w155 =>
 doSt ((blk b150).add 4) (.int .i64 x141) w155 (fun w156 =>
 doSt ((blk b150).add 5) (.slice xp142 xn143 xc144) w156 (fun w157 =>
 doSt ((blk b150).add 6) (.slice xp145 xn146 xc147) w157 (fun w158 =>
 let K160 : World → Prop := fun w159 => 
 ∃ (I161 : List Value → World → Prop) (μ162 : List Value → World → Nat), I161 [.int .i64 0] w159 ∧ (∀ (k_165 : Int), ∀ (_j163 : Nat → Value) (w164 : World), I161 [.int .i64 k_165] w164 → (
 ∃ xp166 xn167 xc168, w164.cell? ((blk b150).add 5) = some (.slice xp166 xn167 xc168) ∧ (
 ifB (decide ((k_165 : Int) < ((xn167 : Nat) : Int))) (
 ∃ xp169 xn170 xc171, w164.cell? ((blk b150).add 5) = some (.slice xp169 xn170 xc171) ∧ (
 doIx xp169 xn170 1 (k_165) (fun a172 =>
 ∃ x173, w164.cell? a172 = some (.int .i64 x173) ∧ (
 ifB ((x173 : Int) != (IntKind.wrap .i64 (x43 + k_165))) (
 R (.returned (.bool false)) w164) (
 I161 [.int .i64 (IntKind.wrap .i64 (k_165 + 1))] w164 ∧ μ162 [.int .i64 (IntKind.wrap .i64 (k_165 + 1))] w164 < μ162 [.int .i64 k_165] w164))))) (
 I32 [.slice was_p50 was_n51 was_c52, .slice had_p53 had_n54 had_c55, .int .i64 (IntKind.wrap .i64 (i_42 + 1))] w164 ∧ μ33 [.slice was_p50 was_n51 was_c52, .slice had_p53 had_n54 had_c55, .int .i64 (IntKind.wrap .i64 (i_42 + 1))] w164 < μ33 [.slice was_p36 was_n37 was_c38, .slice had_p39 had_n40 had_c41, .int .i64 i_42] w35))))
 let K176 : Bool → World → Prop := fun x174 w175 => 
 ifB x174 (
 R (.returned (.bool false)) w175) (
 K160 w175)
 doDr w158 (fun w178 =>
 ∃ (C177 : World → Prop), C177 w178 ∧ (
 ∃ xp179 xn180 xc181, (∀ w, C177 w → w.cell? ((blk b150).add 5) = some (.slice xp179 xn180 xc181)) ∧ (
 doCall Tryz.prog (.func (.func 14) #[] #[]) #[.pointer x11] w178 (retS (fun v183 w184 => ∃ x182, v183 = (.int .i64 x182 : Value) ∧ (
 C177 w184 ∧ (
 ifB ((x182 : Int) != (IntKind.wrap .i64 (x43 + ((xn180 : Nat) : Int)))) (
 R (.returned (.bool false)) w184) (
 ∃ x185, (∀ w, C177 w → w.cell? ((blk b150).add 0) = some (.int .i64 x185)) ∧ (
 ifB ((x185 : Int) != 0) (
 ∃ xp186 xn187 xc188, (∀ w, C177 w → w.cell? ((blk b150).add 5) = some (.slice xp186 xn187 xc188)) ∧ (
 ifB (decide ((((xn187 : Nat) : Int) : Int) > 0)) (
 R (.returned (.bool false)) w184) (
 ∃ x189, (∀ w, C177 w → w.cell? ((blk b150).add 1) = some (.bool x189)) ∧ (
 ifB x189 (
 R (.returned (.bool false)) w184) (
 ∃ x190, (∀ w, C177 w → w.cell? ((blk b150).add 4) = some (.int .i64 x190)) ∧ (
 ifB ((x190 : Int) != 0) (
 R (.returned (.bool false)) w184) (
 ∃ x191, (∀ w, C177 w → w.cell? ((blk b150).add 2) = some (.int .i64 x191)) ∧ (
 ifB ((x191 : Int) != 0) (
 R (.returned (.bool false)) w184) (
 ∃ x192, (∀ w, C177 w → w.cell? ((blk b150).add 3) = some (.int .i64 x192)) ∧ (
 ifB ((x192 : Int) != 0) (
 R (.returned (.bool false)) w184) (
 ∃ xp193 xn194 xc195, (∀ w, C177 w → w.cell? ((blk b150).add 6) = some (.slice xp193 xn194 xc195)) ∧ (
 K176 (decide ((((xn194 : Nat) : Int) : Int) > 0)) w184)))))))))))) (
 K160 w184)))))) (kN R))))))))))))))) (kN R)))))))))))))))))))))))) (kN R))) (
 K22 had_p39 had_n40 had_c41 w35))))
 ifB ((x12 : Int) != 0) (
 R (.returned (.bool false)) w14) (
 K17 ((x11).isNone) w14))) (kN R)))))) (kN R))
theorem sh5_ok (o_1 : Int) (l_p2 : OA) (l_n3 : Nat) (l_c4 : Nat) {R : EW} {w : World} : sh5 o_1 l_p2 l_n3 l_c4 R w → Calls Tryz.prog 5 #[.int .u8 o_1, .slice l_p2 l_n3 l_c4] w R :=
  Old.calls_of_eq (ann := fun i => if i = 4 then [(15, .int .i64 0)] else if i = 2 then [(7, .slice none 0 0), (8, .slice none 0 0), (11, .int .i64 0)] else if i = 0 then [(7, .slice none 0 0), (8, .slice none 0 0), (9, .int .i64 0)] else []) (fn := Tryz.f5) (c := bodyOf Tryz.f5) (args := #[.int .u8 o_1, .slice l_p2 l_n3 l_c4]) 400 follows_mixed Tryz.func5 (by kernel_rfl) (by kernel_rfl)
end Go.Proofs.YtmdboekndjlmgaaGreat

namespace Go.Proofs.YtmdboekndjlmgaaGreat
open Go Go.Sh Go.RowKit

theorem elBo : ElT Tryz.prog 60 4 (.bool false) 1 1 := ⟨Tryz.underlying60, ⟨_, Tryz.type4, by kernel_rfl, by kernel_rfl, by kernel_rfl⟩, rfl, by omega⟩
theorem ix_one {w : World} {p : OA} {n : Nat} {i : Int} {l : List Value} {K : Addr → Prop} (h : Cs w p l) (hn : l.length = n) {k : Nat} (hk : i = (k : Int)) (h1 : k < n) (c : ∀ a : Addr, w.cell? a = some (l[k]'(by omega)) → K a) : doIx p n 1 i K := by
  have e : l.flatMap (fun v => [v]) = l := by clear h hn c; induction l with | nil => rfl | cons x l ih => simp
  refine ix_flat (ec := fun v : Value => [v]) (s := 1) (fun _ => rfl) (by omega) (l := l) (by rw [e]; exact h) hn hk h1 fun a r _ => c a ?_
  have := r 0 _ rfl
  rwa [add_zero'] at this
theorem sz_mem {e : OpE} : ∀ {l : List OpE}, e ∈ l → szO e ≤ (l.map szO).sum
  | x :: l, h => by
    simp only [List.map_cons, List.sum_cons]
    rcases List.mem_cons.1 h with rfl | h
    · omega
    · have := sz_mem h; omega
theorem kOf_len : ∀ ops : List OpE, (kOf ops).length = ops.length + (ops.map szO).sum
  | [] => rfl
  | e :: l => by
    have := kOf_len l
    have h : kOf (e :: l) = newK e.1 ++ kOf l := rfl
    rw [h, List.length_append, this]
    simp only [newK, List.length_cons, List.length_append, List.length_map, List.map_cons, List.sum_cons, szO]
    omega
theorem stay_kof {ops : List OpE} (h : ops.length ≤ 60) (hs : (ops.map szO).sum ≤ 300) : (kOf ops).length ≤ 360 := by rw [kOf_len]; omega
structure StB (P F : Nat → Prop) (bb : Nat) (o : Int) (KK : List Int) (L : Rows) (ys : List Value) (w0 w : World) : Prop where
  B : BookN P w bb o L
  ok : OkL o KK L
  l0 : 0 < L.length
  pf : ∀ j, P j → ¬ F j
  fo : ∀ j, F j → ¬ BkOwn bb w j
  rows : ∀ (i : Nat) (v : Value), ys[i]? = some v → ∃ l : List Pr, L[i]? = some l ∧ RowAt (BkOwn bb) bb w v l.length (prs l) ∧ ∀ a n d, v = .slice (some a) n d → prs l ≠ [] → ¬ F a.block
  E : Ext w0 w
  hi : ∀ j, BkOwn bb w j → w0.heap.size ≤ j
  fb : ∀ j, F j → w0.heap.size ≤ j
  ft : ∀ j, F j → j < w.heap.size
section
variable {P F F' Q : Nat → Prop} {bb : Nat} {o : Int} {KK : List Int} {L : Rows} {ys : List Value} {w0 w w' : World}
theorem StB.ext (I : StB P F bb o KK L ys w0 w) (e : Ext w w') : StB P F bb o KK L ys w0 w' :=
  ⟨I.B.ext e, I.ok, I.l0, I.pf, fun j hj hk => I.fo j hj ((I.B.own_ext e j).1 hk), fun i v h => by
    obtain ⟨l, h1, h2, h3⟩ := I.rows i v h
    exact ⟨l, h1, h2.ext' I.B e, h3⟩, I.E.trans e, fun j hj => I.hi j ((I.B.own_ext e j).1 hj), I.fb, fun j hj => Nat.lt_of_lt_of_le (I.ft j hj) e.size⟩
theorem StB.go {r : Option Nat} (I : StB P F bb o KK L ys w0 w) (g : w.grownBy w' r) (hr : ∀ b, r = some b → F b) (hF : ∀ j, F' j → F j ∨ (w.heap.size ≤ j ∧ j < w'.heap.size)) : StB (fun j => P j ∧ j < w.heap.size) F' bb o KK L ys w0 w' := by
  have B' := I.B.top.st g fun b hb => ⟨fun hp => I.pf b hp.1 (hr b hb), I.fo b (hr b hb)⟩
  refine ⟨B'.1, I.ok, I.l0, fun j hp hf => ?_, fun j hf hk => ?_, fun i v h => ?_, I.E.grown g fun k hk => I.fb k (hr k hk), fun j hj => I.hi j ((B'.2 j).1 hj), fun j hj => ?_, fun j hj => ?_⟩
  · rcases hF j hf with h | h
    · exact I.pf j hp.1 h
    · have := hp.2; omega
  · have hk := (B'.2 j).1 hk
    rcases hF j hf with h | h
    · exact I.fo j h hk
    · have := I.B.lt hk; omega
  · obtain ⟨l, h1, h2, h3⟩ := I.rows i v h
    refine ⟨l, h1, h2.gro g (fun a n c e hz hb => h3 a n c e hz (hr _ hb)) (fun k hk => (B'.2 k).1 hk), fun a n d e hz hf => ?_⟩
    rcases hF _ hf with hh | hh
    · exact h3 a n d e hz hh
    · obtain ⟨q, c, e', _, _, hq⟩ := h2
      rw [e] at e'
      injection e' with e1
      have := (hq a e1.symm hz).2.2
      omega
  · rcases hF j hj with h | h
    · exact I.fb j h
    · have := I.E.size; omega
  · rcases hF j hj with h | h
    · exact Nat.lt_of_lt_of_le (I.ft j h) g.size
    · exact h.2
theorem StB.up (I : StB P F bb o KK L ys w0 w) (hP : ∀ j, P j → Q j) (hF : ∀ j, F' j → F j) (hQ : ∀ j, Q j → ¬ F' j) : StB Q F' bb o KK L ys w0 w :=
  ⟨I.B.up hP, I.ok, I.l0, hQ, fun j hj => I.fo j (hF j hj), fun i v h => by
    obtain ⟨l, h1, h2, h3⟩ := I.rows i v h
    exact ⟨l, h1, h2, fun a n d e hz hf => h3 a n d e hz (hF _ hf)⟩, I.E, I.hi, fun j hj => I.fb j (hF j hj), fun j hj => I.ft j (hF j hj)⟩
theorem StB.add {y : Value} {l : List Pr} (I : StB P F bb o KK L ys w0 w) (hl : L[ys.length]? = some l) (hy : RowAt (BkOwn bb) bb w y l.length (prs l)) (hf : ∀ a n d, y = .slice (some a) n d → prs l ≠ [] → ¬ F a.block) : StB P F bb o KK L (ys ++ [y]) w0 w :=
  ⟨I.B, I.ok, I.l0, I.pf, I.fo, fun i v h => by
    rcases Nat.lt_or_ge i ys.length with hi | hi
    · rw [List.getElem?_append_left hi] at h
      exact I.rows i v h
    · have hlen := (List.getElem?_eq_some_iff.1 h).1
      simp only [List.length_append, List.length_cons, List.length_nil] at hlen
      obtain rfl : i = ys.length := by omega
      simp at h
      subst h
      exact ⟨l, hl, hy, hf⟩, I.E, I.hi, I.fb, I.ft⟩
theorem StB.act {L' ls : Rows} (I : StB P F bb o KK L ys w0 w) (hL : L' = L ++ ls) (hB : BookN P w' bb o L') (hC : Chg (BkOwn bb) (fun _ => False) w w') (hok : OkL o KK L') : StB P F bb o KK L' ys w0 w' := by
  have hs := hC.size
  refine ⟨hB, hok, by have := I.l0; rw [hL, List.length_append]; omega, I.pf, fun j hj => hC.out j (I.ft j hj) (I.fo j hj), fun i v h => ?_, ?_, fun j hj => ?_, I.fb, fun j hj => Nat.lt_of_lt_of_le (I.ft j hj) hs⟩
  · obtain ⟨l, h1, h2, h3⟩ := I.rows i v h
    exact ⟨l, by rw [hL, List.getElem?_append_left (List.getElem?_eq_some_iff.1 h1).1]; exact h1, h2.chg (chg0 hC), h3⟩
  · have s := I.E.size
    have b := hC.ext (B := w0.heap.size) (fun j hj hk => by have := I.hi j hk; omega) (fun _ _ h => h) s
    exact ⟨b.os.trans I.E.os, b.tape.trans I.E.tape, b.output.trans I.E.output, Nat.le_trans s b.size, fun j hj => (b.block j hj).trans (I.E.block j hj)⟩
  · rcases Nat.lt_or_ge j w.heap.size with hj4 | hj4
    · by_cases h4 : BkOwn bb w j
      · exact I.hi j h4
      · exact absurd hj (hC.out j hj4 h4)
    · have := I.E.size; omega
end
abbrev ob (p : OA) (n c : Nat) (j : Nat) : Prop := (Value.slice p n c).ownBlock = some j
structure StayI (bb : Nat) (o : Int) (KK : List Int) (L : Rows) (ys : List Value) (p : OA) (m c : Nat) (hp : OA) (hc : Nat) (w0 w : World) : Prop where
  I : StB (fun j => ¬ (ob p m c j ∨ ob hp m hc j)) (fun j => ob p m c j ∨ ob hp m hc j) bb o KK L ys w0 w
  row : w.ownsRow w0.heap.size 22 1 (.slice p m c) m ys
  hrow : w.ownsRow w0.heap.size 4 1 (.slice hp m hc) m (List.replicate m (.bool true))
  sep : ∀ j, ob p m c j → ¬ ob hp m hc j
  le : m ≤ L.length
theorem StayI.ext {bb : Nat} {o : Int} {KK : List Int} {L : Rows} {ys : List Value} {p hp : OA} {m c hc : Nat} {w0 w w' : World} (S : StayI bb o KK L ys p m c hp hc w0 w) (e : Ext w w') : StayI bb o KK L ys p m c hp hc w0 w' :=
  ⟨S.I.ext e, e.row S.row, e.row S.hrow, S.sep, S.le⟩
theorem StayI.len {bb : Nat} {o : Int} {KK : List Int} {L : Rows} {ys : List Value} {p hp : OA} {m c hc : Nat} {w0 w : World} (S : StayI bb o KK L ys p m c hp hc w0 w) : ys.length = m := by have := S.row.1; simpa using this
theorem c_plainStays {o : Int} {lp : OA} {n lc : Nat} {ops : List OpE} {w : World} {R : EW} (ho : 0 ≤ o) (hl : Is_ops w lp n lc ops) (h : ∀ w', Ext w w' → R (.returned (.bool true)) w') : Calls Tryz.prog 5 #[.int .u8 o, .slice lp n lc] w R := by
  refine sh5_ok _ _ _ _ ?_
  unfold sh5
  refine do_call Tryz.call10 (c_heavy hl (fun w1 e1 z60 z300 => retS_ret ⟨_, rfl, ?_⟩) fun w1 e1 => retS_ret ⟨_, rfl, ifB_t rfl (do_call Tryz.call6 (c_alive38 fun w2 e2 => retS_ret ⟨_, rfl, h w2 (e1.trans e2)⟩))⟩)
  obtain ⟨hn, hcs, hO, _⟩ := hl
  refine ifB_f rfl ⟨by decide, ?_⟩
  obtain ⟨o', eo, ho'⟩ := ord_of ho
  rw [eo]
  have zK : (kOf ops).length ≤ 360 := stay_kof (by omega) z300
  have zO : ∀ e ∈ ops, szO e ≤ 300 := fun e he => Nat.le_trans (sz_mem he) z300
  refine do_call Tryz.call16 (c_pnew (fun w2 _ hf => by rw [ho'] at hf; cases hf) fun bb w2 _ hB e2 hown => retS_ret ⟨_, _, rfl, ?_⟩)
  intro K17
  refine ifB_f (by decide) ?_
  simp -zeta -zetaHave only [K17]
  refine ifB_f rfl ?_
  intro K22
  have E2 := e1.trans e2
  refine ⟨fun vs w' => ∃ (i m : Nat) (p : OA) (c : Nat) (hp : OA) (hc : Nat) (L : Rows) (ys : List Value), vs = [.slice p m c, .slice hp m hc, .int .i64 (i : Int)] ∧ i ≤ n ∧ L.length ≤ 1 + 2 * i ∧ StayI bb o' (kOf ops) L ys p m c hp hc w w',
    fun vs _ => match vs with | [_, _, .int _ i] => n + 1 - i.toNat | _ => 0, ⟨0, 0, none, 0, none, 0, [[]], [], rfl, Nat.zero_le _, by decide, ?_⟩, ?_⟩
  · refine ⟨⟨hB.up fun _ _ hh => ?_, OkL.one (mayR_nil ho') (by intro x hx; cases hx) (by intro y hy; cases hy), by decide, fun _ h => h, fun j hj => ?_, fun i v hv => by simp at hv, E2, fun j hj => by have := hown j hj; have := e1.size; omega, fun j hj => ?_, fun j hj => ?_⟩, World.ownsRow_nil _ _ _ _, World.ownsRow_nil _ _ _ _, fun j hj => ?_, Nat.zero_le _⟩
    · rcases hh with hh | hh <;> cases hh
    · rcases hj with hh | hh <;> cases hh
    · rcases hj with hh | hh <;> cases hh
    · rcases hj with hh | hh <;> cases hh
    · cases hj
  rintro p mx c hp m hc i_ _ w3 ⟨i, m1, p1, c1, hq1, hc1, L, ys, hv, hi, zL, S⟩
  simp only [List.cons.injEq, Value.int.injEq, Value.slice.injEq, true_and, and_true] at hv
  obtain ⟨⟨rfl, rfl, rfl⟩, ⟨rfl, rfl, rfl⟩, rfl⟩ := hv
  refine ifB_t (by rw [decide_eq_true_eq]; omega) ?_
  refine do_call Tryz.call14 (c_plen S.I.B (retS_ret ⟨_, rfl, ?_⟩))
  -- the rows are read, and copied
  refine ⟨fun vs w' => ∃ (k m : Nat) (p : OA) (c : Nat) (hp : OA) (hc : Nat) (ys : List Value), vs = [.slice p m c, .slice hp m hc, .int .i64 (k : Int)] ∧ k ≤ L.length ∧ k ≤ m ∧ StayI bb o' (kOf ops) L ys p m c hp hc w w',
    fun vs _ => match vs with | [_, _, .int _ i] => L.length - i.toNat | _ => 0, ⟨0, _, _, _, _, _, ys, rfl, Nat.zero_le _, Nat.zero_le _, S⟩, ?_⟩
  clear S
  rintro p mx c hp m hc k_ _ w4 ⟨k, m1, p1, c1, hq1, hc1, ys, hv, hk, hkm, S⟩
  simp only [List.cons.injEq, Value.int.injEq, Value.slice.injEq, true_and, and_true] at hv
  obtain ⟨⟨rfl, rfl, rfl⟩, ⟨rfl, rfl, rfl⟩, rfl⟩ := hv
  have hat := fun j : Int => S.I.ok.at' ho' j
  have hrl : ∀ j : Int, (atL L j).length ≤ 360 := fun j => by have := row_short (hat j).1 (hat j).2.2; omega
  refine ifB_intro (fun z => ?_) fun z => ?_
  · have z : k < L.length := by have := of_decide_eq_true z; omega
    intro K64
    have hLk : L[k]? = some (atL L (k : Int)) := by
      unfold atL
      rw [Int.toNat_natCast, List.getD_eq_getElem?_getD, List.getElem?_eq_getElem z]
      rfl
    refine do_call Tryz.call11 (c_prow S.I.B (by have := hrl (k : Int); omega) (fun ht => by unfold thereL at ht; rw [decide_eq_false_iff_not] at ht; omega) fun xp xn xc w5 _ hx e5 => retS_ret ⟨_, _, _, _, rfl, ?_⟩)
    obtain ⟨hmay, hIn, _⟩ := hat (k : Int)
    have hxl := ownP_len hx
    have hx360 := hrl (k : Int)
    generalize hlk : atL L (k : Int) = l at *
    intro K72 K106
    have hK72 : ∀ w6, Ext w5 w6 → K72 w6 := fun w6 e6 => by
      simp -zeta -zetaHave only [K72]
      intro K80
      have hx6 : OwnP w6 w4.heap.size xp xn xc l := e6.row hx
      have S6 := S.ext (e5.trans e6)
      have s56 := e6.size
      have s45 := e5.size
      -- the row that was read is written
      have hK80 : ∀ (m' : Nat) (p' : OA) (c' : Nat) (hp' : OA) (hc' : Nat) (ys' : List Value) (P' : Nat → Prop) (w7 : World), k + 1 ≤ m' → m' ≤ L.length → StB P' (fun j => (ob p' m' c' j ∨ ob hp' m' hc' j) ∨ ob xp xn xc j) bb o' (kOf ops) L ys' w w7 → w7.ownsRow w.heap.size 22 1 (.slice p' m' c') m' ys' → w7.ownsRow w.heap.size 4 1 (.slice hp' m' hc') m' (List.replicate m' (.bool true)) →
          (∀ j, ob p' m' c' j → ¬ ob hp' m' hc' j) → (∀ j, ob xp xn xc j → ¬ ob p' m' c' j ∧ ¬ ob hp' m' hc' j) → OwnP w7 w4.heap.size xp xn xc l → K80 p' m' c' hp' m' hc' w7 := fun m' p' c' hp' hc' ys' P' w7 hm1 hm2 J hr hh hs hxs hx7 => by
        have fin : ∀ w8, StayI bb o' (kOf ops) L ys' p' m' c' hp' hc' w w8 → K64 p' m' c' hp' m' hc' w8 := fun w8 S8 => by
          simp -zeta -zetaHave only [K64]
          rw [wrap_succ z (by omega)]
          refine ⟨⟨k + 1, m', p', c', hp', hc', ys', rfl, by omega, hm1, S8⟩, ?_⟩
          show L.length - ((k + 1 : Nat) : Int).toNat < L.length - (k : Int).toNat
          omega
        simp -zeta -zetaHave only [K80]
        refine ifB_intro (fun zx => ?_) fun zx => ?_
        · have zx : 0 < xn := by have := of_decide_eq_true zx; omega
          refine ix_pr (ownP_cs hx7) hxl (k := 0) rfl zx fun a1 _ r1 _ => ⟨_, r1, ?_⟩
          refine ix_pr (ownP_cs hx7) hxl (k := 0) rfl zx fun a2 _ _ ha2 => ?_
          refine own_st2 hx7 zx ha2 fun w8 hx8 g8 => fin w8 ?_
          have J8 := J.go (F' := fun j => ob p' m' c' j ∨ ob hp' m' hc' j) g8 (fun b hb => .inr hb) fun j hj => .inl (.inl hj)
          exact ⟨J8.up (fun j hj hf => J.pf j hj.1 (.inl hf)) (fun _ h => h) fun _ h => h, keep_row hr fun b hb => g8.block b (hr.lt b hb).2 fun e => (hxs b e.symm).1 hb, keep_row hh fun b hb => g8.block b (hh.lt b hb).2 fun e => (hxs b e.symm).2 hb, hs, hm2⟩
        · exact fin w7 ⟨J.up (fun j hj hf => J.pf j hj (.inl hf)) (fun _ h => .inl h) fun _ h => h, hr, hh, hs, hm2⟩
      have hxb : ∀ j, ob xp xn xc j → w4.heap.size ≤ j ∧ j < w5.heap.size := fun j hj => hx.lt j hj
      have hxs : ∀ j, ob xp xn xc j → ¬ ob p m c j ∧ ¬ ob hp m hc j := fun j hj => ⟨fun hk => by have := (S.row.lt j hk).2; have := hxb j hj; omega, fun hk => by have := (S.hrow.lt j hk).2; have := hxb j hj; omega⟩
      have J6 : StB (fun j => ¬ (ob p m c j ∨ ob hp m hc j) ∧ j < w4.heap.size) (fun j => (ob p m c j ∨ ob hp m hc j) ∨ ob xp xn xc j) bb o' (kOf ops) L ys w w6 :=
        S.I.go (e5.trans e6).grownBy (fun b hb => by cases hb) fun j hj => hj.elim .inl fun hh => .inr (by have := hxb j hh; omega)
      refine ifB_intro (fun zk => ?_) fun zk => ?_
      · have zk : k = m := by have := of_decide_eq_true zk; omega
        subst zk
        have hcx := ownP_cs hx6
        refine do_app elP (ownP_nil w6 w6.heap.size) (m := xn) hcx (by simp; omega) prs_one (by simp only [maxLen]; omega) (by omega) (Nat.le_refl _) fun yp yc w7 hy g7 => retS_ret ⟨_, _, _, rfl, ?_⟩
        simp only [Nat.zero_add, prs_nil, List.nil_append] at hy ⊢
        have e7 : Ext w6 w7 := (ext_refl w6).grown g7 (by simp [Value.ownBlock])
        refine do_al fun b8 w8 e8 X8 _ => ?_
        have hyr : RowAt (BkOwn bb) bb w8 (.slice yp l.length yc) l.length (prs l) := by
          have h7 : RowAt (BkOwn bb) bb w7 (.slice yp l.length yc) l.length (prs l) := by
            rw [hxl]
            exact RowAt.own_row hy (fun q hq => .inl (J6.B.lt ((J6.B.own_ext e7 q).1 hq))) (J6.B.lt (.inl rfl))
          exact h7.ext' (J6.ext e7).B e8
        have hyf : ∀ a n d, (Value.slice yp l.length yc) = .slice (some a) n d → prs l ≠ [] → ¬ ((ob p k c a.block ∨ ob hp k hc a.block) ∨ ob xp xn xc a.block) := fun a n d e hz hf => by
          injection e with e1
          have h1 := (row_lt hy e1).1
          have h2 := J6.ft _ hf
          omega
        have J8 := ((J6.ext e7).ext e8).add (y := .slice yp l.length yc) (l := l) (by rw [S.len]; exact hLk) hyr hyf
        have row8 := (S6.ext (e7.trans e8)).row
        have hrow8 := (S6.ext (e7.trans e8)).hrow
        refine do_append' elV row8 (m := 1) (cs_blk X8) (by simp) (by simp [Value.oneCell']) (by simp only [maxLen]; omega) (by omega) (by have := J8.E.size; omega) fun p' c' w9 row9 g9 n9 => retS_ret ⟨_, _, _, rfl, ?_⟩
        have J9 := J8.go (F' := fun j => (ob p' (k + 1) c' j ∨ ob hp k hc j) ∨ ob xp xn xc j) g9 (fun b hb => .inl (.inl hb)) fun j hj => by
          rcases hj with (hj | hj) | hj
          · rcases n9 j hj with hh | hh
            · exact .inl (.inl (.inl hh))
            · exact .inr ⟨hh, (row9.lt j hj).2⟩
          · exact .inl (.inl (.inr hj))
          · exact .inl (.inr hj)
        have s67 := e7.size
        have s78 := e8.size
        have s89 := g9.size
        have ph : ∀ j, ob p' (k + 1) c' j → ¬ ob hp k hc j := fun j hj hk => by
          rcases n9 j hj with hh | hh
          · exact S.sep j hh hk
          · have := (S.hrow.lt j hk).2; omega
        have px : ∀ j, ob xp xn xc j → ¬ ob p' (k + 1) c' j := fun j hj hk => by
          have := hxb j hj
          rcases n9 j hk with hh | hh
          · exact (hxs j hj).1 hh
          · omega
        have hrow9 := keep_row hrow8 fun b hb => g9.block b (hrow8.lt b hb).2 fun e => S.sep b e.symm hb
        have hx8 : OwnP w8 w4.heap.size xp xn xc l := (e7.trans e8).row hx6
        have hx9 : OwnP w9 w4.heap.size xp xn xc l := keep_row hx8 fun b hb => g9.block b (hx8.lt b hb).2 fun e => (hxs b hb).1 e.symm
        refine do_al fun b10 w10 e10 X10 _ => ?_
        refine do_append' elBo (e10.row hrow9) (m := 1) (cs_blk X10) (by simp) (by simp [Value.oneCell']) (by simp only [maxLen]; omega) (by omega) (by have := J9.E.size; have := e10.size; omega) fun hp' hc' w11 hrow11 g11 n11 => retS_ret ⟨_, _, _, rfl, ?_⟩
        have s910 := e10.size
        have J11 := (J9.ext e10).go (F' := fun j => (ob p' (k + 1) c' j ∨ ob hp' (k + 1) hc' j) ∨ ob xp xn xc j) g11 (fun b hb => .inl (.inr hb)) fun j hj => by
          rcases hj with (hj | hj) | hj
          · exact .inl (.inl (.inl hj))
          · rcases n11 j hj with hh | hh
            · exact .inl (.inl (.inr hh))
            · exact .inr ⟨hh, (hrow11.lt j hj).2⟩
          · exact .inl (.inr hj)
        have row10 := e10.row row9
        have row11 := keep_row row10 fun b hb => g11.block b (row10.lt b hb).2 fun e => ph b hb e.symm
        have hx10 : OwnP w10 w4.heap.size xp xn xc l := e10.row hx9
        have hx11 : OwnP w11 w4.heap.size xp xn xc l := keep_row hx10 fun b hb => g11.block b (hx10.lt b hb).2 fun e => (hxs b hb).2 e.symm
        refine hK80 (k + 1) p' c' hp' hc' (ys ++ [.slice yp l.length yc]) _ w11 (Nat.le_refl _) (by omega) J11 (by rw [hxl]; simpa using row11) (by rw [List.replicate_succ']; simpa using hrow11) (fun j hj hk => ?_) (fun j hj => ⟨px j hj, fun hk => ?_⟩) hx11
        · rcases n11 j hk with hh | hh
          · exact ph j hj hh
          · have := (row9.lt j hj).2; omega
        · rcases n11 j hk with hh | hh
          · exact (hxs j hj).2 hh
          · have := hxb j hj; omega
      · have zk : k < m := by have := of_decide_eq_false zk; omega
        exact hK80 m p c hp hc ys _ w6 zk S.le J6 S6.row S6.hrow S.sep hxs hx6
    refine ifB_f rfl (do_call Tryz.call24 (c_may (ownP_cs hx) hxl (by omega) hIn fun w6 e6 => retS_ret ⟨_, rfl, ifB_f (by rw [hmay]; rfl) ?_⟩))
    refine ifB_intro (fun zk => ?_) fun zk => hK72 w6 e6
    have zk : k < m := by have := of_decide_eq_true zk; omega
    have S6 := S.ext (e5.trans e6)
    refine ix_one (Cs.of_row S6.row) S.len (k := k) rfl zk fun a r => ?_
    obtain ⟨l', h1, h2, _⟩ := S6.I.rows k _ (List.getElem?_eq_getElem (by rw [S.len]; exact zk))
    rw [hLk] at h1
    cases h1
    obtain ⟨q, d, ev, _, hq, _⟩ := h2
    refine ⟨q, l.length, d, by rw [r, ev], ?_⟩
    refine do_call Tryz.call8 (c_r4same ((ownP_cs hx).ext e6) hxl hq rfl (by omega) fun w7 e7 => retS_ret ⟨_, rfl, ?_⟩)
    simp -zeta -zetaHave only [K106]
    exact ifB_f (by simp) (hK72 w7 (e6.trans e7))
  -- an op is done
  have z : k = L.length := by have := of_decide_eq_false z; omega
  have hm : m = L.length := by have := S.le; omega
  refine ifB_intro (fun zi => ?_) fun zi => ?_
  · simp -zeta -zetaHave only [K22]
    intro K25
    refine do_call Tryz.call14 (c_plen S.I.B (retS_ret ⟨_, rfl, ifB_t (by rw [hm]; simp) ?_⟩))
    exact do_call Tryz.call6 (c_alive38 fun w5 e5 => retS_ret ⟨_, rfl, h w5 (S.I.E.trans e5)⟩)
  have zi : i < n := by have : ¬ ((i : Int) = (n : Int)) := by simpa using zi
                        omega
  have hil : i < ops.length := by omega
  refine ix_flat (ec := opC) (s := 15) (fun _ => rfl) (by omega) (hcs.ext S.I.E) hn (k := i) rfl zi fun a1 r1 _ => ?_
  have hin := hO ops[i] (List.getElem_mem hil)
  have hKk : ∀ kk, kk ∈ newK ops[i].1 → kk ∈ kOf ops := fun kk hkk => kOf_mem _ (List.getElem_mem hil) kk hkk
  have hzo := zO ops[i] (List.getElem_mem hil)
  generalize ops[i] = e at *
  obtain ⟨x, pv, kv⟩ := e
  obtain ⟨hx, hOp, _, _⟩ := hin
  obtain ⟨pp, pc, e1p, hp1, hp2, hp3⟩ := hOp.p
  obtain ⟨kp, kc, e1k, hk1, hk2, hk3⟩ := hOp.k
  have hzo : x.pairs.length + x.keys.length ≤ 300 := hzo
  simp only at e1p e1k hx hKk hp1 hp2 hk1 hk2 hp3 hk3
  subst e1p e1k
  refine ⟨_, r1 0 _ rfl, _, r1 1 _ rfl, _, r1 2 _ rfl, _, r1 3 _ rfl, _, r1 4 _ rfl, _, r1 5 _ rfl, _, r1 6 _ rfl, _, r1 7 _ rfl, _, r1 8 _ rfl, _, r1 9 _ rfl, _, r1 10 _ rfl, _, r1 11 _ rfl, _, r1 12 _ rfl, _, _, _, r1 13 _ rfl, _, _, _, r1 14 _ rfl, ?_⟩
  have rp : RowAt (BkOwn bb) bb w4 (.slice pp x.pairs.length pc) x.pairs.length (prs x.pairs) := ⟨pp, pc, rfl, hp1, hp2.ext S.I.E, fun a ha hz => ⟨fun hk => by have := S.I.hi _ hk; have := hp3 a ha hz; omega, by have := hp3 a ha hz; have := S.I.hi bb (.inl rfl); omega, Nat.lt_of_lt_of_le (hp3 a ha hz) S.I.E.size⟩⟩
  have rk : RowAt (BkOwn bb) bb w4 (.slice kp x.keys.length kc) x.keys.length (ints x.keys) := ⟨kp, kc, rfl, hk1, hk2.ext S.I.E, fun a ha hz => ⟨fun hk => by have := S.I.hi _ hk; have := hk3 a ha hz; omega, by have := hk3 a ha hz; have := S.I.hi bb (.inl rfl); omega, Nat.lt_of_lt_of_le (hk3 a ha hz) S.I.E.size⟩⟩
  refine do_call Tryz.call12 (c_pdo ho' S.I.B (fun j hj hb => by have := S.I.ft j hb; omega) S.I.l0 (by omega) (fun j => (hat j).2.1) (fun j => by have := hrl j; omega) hx rp rk (by show x.pairs.length ≤ 5000; omega) (by show x.keys.length ≤ 5000; omega) fun v w5 hR hB5 hC5 => ?_)
  obtain ⟨nv, pv, rfl, h1, h2, n1, n2⟩ := hR.ex
  obtain ⟨ls, hls, hnew⟩ := do_new o' L x
  have hdl := do_len o' L x
  have herr := @do_err o' L x
  have hok5 : OkL o' (kOf ops) (doP o' L x).2 := (do_ok ho' S.I.ok hx).mono fun y hy => (List.mem_append.1 hy).elim (hKk y) id
  obtain ⟨q1, d1, rfl, _, hq1, _⟩ := h1
  obtain ⟨q2, d2, rfl, _, hq2, _⟩ := h2
  have S5 : StayI bb o' (kOf ops) (doP o' L x).2 ys p m c hp hc w w5 :=
    ⟨S.I.act hls hB5 hC5 hok5, chg_row hC5 S.row (fun j hj => S.I.fo j (.inl hj)) (fun _ _ h => h), chg_row hC5 S.hrow (fun j hj => S.I.fo j (.inr hj)) (fun _ _ h => h), S.sep, by have := S.le; omega⟩
  generalize hr : (doP o' L x).1 = r at *
  generalize hL' : (doP o' L x).2 = L' at *
  have hnl : r.new.length = ls.length := by rw [hnew]; simp
  have hLl : L'.length = L.length + r.new.length := by rw [hls, List.length_append, hnl]
  refine retS_ret ⟨_, _, _, _, _, _, _, _, _, _, _, rfl, do_al fun b6 w6 e6 X6 _ => st7 X6 fun w7 X7 g7 => ?_⟩
  have e57 : Ext w5 w7 := e6.st g7 (by omega)
  have hq7 := hq1.ext e57
  have S7 := S5.ext e57
  intro K160
  have hK160 : ∀ w8, Ext w7 w8 → K160 w8 := fun w8 e8 => by
    simp -zeta -zetaHave only [K160]
    refine ⟨fun vs w' => ∃ k : Nat, vs = [.int .i64 (k : Int)] ∧ k ≤ r.new.length ∧ Ext w7 w', fun vs _ => match vs with | [.int _ i] => r.new.length - i.toNat | _ => 0, ⟨0, rfl, Nat.zero_le _, e8⟩, ?_⟩
    rintro k2_ _ w9 ⟨k2, hv, hk2', e9⟩
    simp only [List.cons.injEq, Value.int.injEq, true_and, and_true] at hv
    subst hv
    refine ⟨_, _, _, (X7.ext e9).cell (i := 5) rfl rfl, ?_⟩
    refine ifB_intro (fun zk => ?_) fun zk => ?_
    · have zk : k2 < r.new.length := by have := of_decide_eq_true zk; omega
      refine ⟨_, _, _, (X7.ext e9).cell (i := 5) rfl rfl, ix_int' (hq7.ext e9) rfl zk fun a3 r3 => ⟨_, r3, ?_⟩⟩
      have hv : r.new[k2] = ((L.length + k2 : Nat) : Int) := by
        have : r.new[k2]? = some ((L.length + k2 : Nat) : Int) := by
          rw [hnew, List.getElem?_map, List.getElem?_range (by omega)]
          rfl
        rw [List.getElem?_eq_getElem zk] at this
        exact Option.some.inj this
      rw [hv]
      refine ifB_f (by rw [wrap_of (by omega) (by omega)]; simp) ?_
      rw [wrap_succ zk (by omega)]
      refine ⟨⟨k2 + 1, rfl, by omega, e9⟩, ?_⟩
      show r.new.length - ((k2 + 1 : Nat) : Int).toNat < r.new.length - (k2 : Int).toNat
      omega
    · rw [wrap_succ zi (by omega)]
      refine ⟨⟨i + 1, m, p, c, hp, hc, L', ys, rfl, zi, by omega, S7.ext e9⟩, ?_⟩
      show n + 1 - ((i + 1 : Nat) : Int).toNat < n + 1 - (i : Int).toNat
      omega
  intro K176
  have e78 := ext_drew w7
  have HC := ext_refl w7.drew
  have X8 : ∀ w', Ext w7.drew w' → Ext w7 w' := fun w' e' => e78.trans e'
  refine ⟨fun w' => Ext w7.drew w', HC, _, _, _, fun w' e' => (X7.ext (X8 w' e')).cell (i := 5) rfl rfl, ?_⟩
  refine do_call Tryz.call14 (c_plen (S7.ext e78).I.B (retS_ret ⟨_, rfl, HC, ?_⟩))
  refine ifB_f (by rw [wrap_of (by omega) (by omega), hLl]; simp) ?_
  refine ⟨_, fun w' e' => (X7.ext (X8 w' e')).cell (i := 0) rfl rfl, ?_⟩
  by_cases he : r.err = 0
  · exact ifB_f (by rw [he]; rfl) (hK160 _ e78)
  refine ifB_t (by simpa using he) ?_
  obtain ⟨hz, _⟩ := herr he
  have y1 : r.new = [] := by rw [hz]; rfl
  have y2 : r.is = false := by rw [hz]; rfl
  have y3 : r.n = 0 := by rw [hz]; rfl
  have y4 : r.key = 0 := by rw [hz]; rfl
  have y5 : r.val = 0 := by rw [hz]; rfl
  have y6 : r.pairs = [] := by rw [hz]; rfl
  refine ⟨_, _, _, fun w' e' => (X7.ext (X8 w' e')).cell (i := 5) rfl rfl, ifB_f (by rw [y1]; rfl) ?_⟩
  refine ⟨_, fun w' e' => (X7.ext (X8 w' e')).cell (i := 1) rfl rfl, ifB_f y2 ?_⟩
  refine ⟨_, fun w' e' => (X7.ext (X8 w' e')).cell (i := 4) rfl rfl, ifB_f (by rw [y3]; rfl) ?_⟩
  refine ⟨_, fun w' e' => (X7.ext (X8 w' e')).cell (i := 2) rfl rfl, ifB_f (by rw [y4]; rfl) ?_⟩
  refine ⟨_, fun w' e' => (X7.ext (X8 w' e')).cell (i := 3) rfl rfl, ifB_f (by rw [y5]; rfl) ?_⟩
  refine ⟨_, _, _, fun w' e' => (X7.ext (X8 w' e')).cell (i := 6) rfl rfl, ?_⟩
  simp -zeta -zetaHave only [K176]
  exact ifB_f (by rw [y6]; rfl) (hK160 _ e78)
end Go.Proofs.YtmdboekndjlmgaaGreat

