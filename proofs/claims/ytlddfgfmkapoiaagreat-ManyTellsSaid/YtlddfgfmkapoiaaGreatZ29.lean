/-
  Printed by a program (gen.py): what the functions of the program do, as formulas; each with the proof that its call is what the formula says.
-/
/-
  ManyTells: what it computes.
-/
import Derived.Test.YtlddfgfmkapoiaaGreatZ02
import Derived.Test.YtlddfgfmkapoiaaGreatProg
import Derived.Test.YtlddfgfmkapoiaaGreatZ05
import Derived.Test.YtlddfgfmkapoiaaGreatZ28
import Derived.Test.YtlddfgfmkapoiaaGreatZ27

namespace Go.Proofs.YtlddfgfmkapoiaaGreat
open Go Go.Sh
set_option maxRecDepth 100000 in
/-- joinery/joinerylaw31.ManyTells -/
def sh6 (code_1 : Int) (o_2 : Int) (p_3 : Int) (l_p4 : Option Addr) (l_n5 : Nat) (l_c6 : Nat) (x_p7 : Option Addr) (x_n8 : Nat) (x_c9 : Nat) (d_p10 : Option Addr) (d_n11 : Nat) (d_c12 : Nat) (keys_p13 : Option Addr) (keys_n14 : Nat) (keys_c15 : Nat) (R : Ending → World → Prop) (w : World) : Prop :=
 doCall Tryz.prog (.func (.func 15) #[] #[]) #[.int .u8 code_1] w (retS (fun v18 w19 => ∃ (x16 : Option Addr), ∃ (x17 : Bool), v18 = (.tuple #[.pointer x16, .bool x17] : Value) ∧ (
 let K22 : Bool → World → Prop := fun (x20 : Bool) (w21 : World) => 
 ifB x20 (
 let K25 : Bool → World → Prop := fun (x23 : Bool) (w24 : World) => 
 R (.returned (.bool x23)) w24
 doCall Tryz.prog (.func (.func 18) #[] #[]) #[.int .u8 code_1] w21 (retS (fun v27 w28 => ∃ (x26 : Bool), v27 = (.bool x26 : Value) ∧ (
 ifB (x17 == x26) (
 doCall Tryz.prog (.func (.func 37) #[] #[]) #[.int .u8 o_2, .int .u8 p_3] w28 (retS (fun v30 w31 => ∃ (x29 : Bool), v30 = (.bool x29 : Value) ∧ (
 ifB x29 (
 doCall Tryz.prog (.func (.func 38) #[] #[]) #[] w31 (retS (fun v33 w34 => ∃ (x32 : Bool), v33 = (.bool x32 : Value) ∧ (
 K25 x32 w34)) (fun ch w => Kfn R ch [] w))) (
 R (.returned (.bool false)) w31))) (fun ch w => Kfn R ch [] w))) (
 R (.returned (.bool false)) w28))) (fun ch w => Kfn R ch [] w))) (
 doCall Tryz.prog (.func (.func 39) #[] #[]) #[.slice l_p4 l_n5 l_c6] w21 (retS (fun v36 w37 => ∃ (x35 : Option Addr), v36 = (.pointer x35 : Value) ∧ (
 doCall Tryz.prog (.func (.func 40) #[] #[]) #[.int .u8 code_1, .slice l_p4 l_n5 l_c6] w37 (retS (fun v41 w42 => ∃ (xp38 : Option Addr), ∃ (xn39 : Nat), ∃ (xc40 : Nat), v41 = (.slice xp38 xn39 xc40 : Value) ∧ (
 doCall Tryz.prog (.func (.func 21) #[] #[]) #[.slice d_p10 d_n11 d_c12, .bool false] w42 (retS (fun v44 w45 => ∃ (x43 : Option Addr), v44 = (.pointer x43 : Value) ∧ (
 doGo Tryz.prog (.builtin .append #[22, 22] 22 #[true, false]) #[.slice none 0 0, .slice x_p7 x_n8 x_c9] w45 (retS (fun v49 w50 => ∃ (xp46 : Option Addr), ∃ (xn47 : Nat), ∃ (xc48 : Nat), v49 = (.slice xp46 xn47 xc48 : Value) ∧ (
 doCall Tryz.prog (.func (.func 41) #[] #[]) #[.pointer x16, .int .u8 o_2, .int .u8 p_3, .pointer x43, .pointer x35, .slice xp46 xn47 xc48] w50 (retS (fun v53 w54 => ∃ (x51 : Option Addr), ∃ (x52 : Int), v53 = (.tuple #[.pointer x51, .int .i64 x52] : Value) ∧ (
 doGo Tryz.prog (.builtin .append #[24, 24] 24 #[true, false]) #[.slice none 0 0, .slice keys_p13 keys_n14 keys_c15] w54 (retS (fun v58 w59 => ∃ (xp55 : Option Addr), ∃ (xn56 : Nat), ∃ (xc57 : Nat), v58 = (.slice xp55 xn56 xc57 : Value) ∧ (
 doCall Tryz.prog (.func (.func 42) #[] #[]) #[.pointer x16, .int .u8 o_2, .pointer x35, .slice xp55 xn56 xc57] w59 (retS (fun v62 w63 => ∃ (x60 : Option Addr), ∃ (x61 : Int), v62 = (.tuple #[.pointer x60, .int .i64 x61] : Value) ∧ (
 doGo Tryz.prog (.builtin .append #[24, 24] 24 #[true, false]) #[.slice none 0 0, .slice keys_p13 keys_n14 keys_c15] w63 (retS (fun v67 w68 => ∃ (xp64 : Option Addr), ∃ (xn65 : Nat), ∃ (xc66 : Nat), v67 = (.slice xp64 xn65 xc66 : Value) ∧ (
 doCall Tryz.prog (.func (.func 43) #[] #[]) #[.pointer x16, .int .u8 o_2, .pointer x35, .slice xp64 xn65 xc66] w68 (retS (fun v71 w72 => ∃ (x69 : Option Addr), ∃ (x70 : Int), v71 = (.tuple #[.pointer x69, .int .i64 x70] : Value) ∧ (
 let K75 : Bool → World → Prop := fun (x73 : Bool) (w74 : World) => 
 ifB x73 (
 R (.returned (.bool false)) w74) (
 let K78 : Bool → World → Prop := fun (x76 : Bool) (w77 : World) => 
 R (.returned (.bool x76)) w77
 doCall Tryz.prog (.func (.func 45) #[] #[]) #[.slice xp38 xn39 xc40, .slice keys_p13 keys_n14 keys_c15, .bool false] w74 (retS (fun v82 w83 => ∃ (xp79 : Option Addr), ∃ (xn80 : Nat), ∃ (xc81 : Nat), v82 = (.slice xp79 xn80 xc81 : Value) ∧ (
 doCall Tryz.prog (.func (.func 27) #[] #[]) #[.int .u8 code_1, .pointer x60, .slice xp79 xn80 xc81] w83 (retS (fun v85 w86 => ∃ (x84 : Bool), v85 = (.bool x84 : Value) ∧ (
 ifB x84 (
 doCall Tryz.prog (.func (.func 45) #[] #[]) #[.slice xp38 xn39 xc40, .slice keys_p13 keys_n14 keys_c15, .bool true] w86 (retS (fun v90 w91 => ∃ (xp87 : Option Addr), ∃ (xn88 : Nat), ∃ (xc89 : Nat), v90 = (.slice xp87 xn88 xc89 : Value) ∧ (
 doCall Tryz.prog (.func (.func 27) #[] #[]) #[.int .u8 code_1, .pointer x69, .slice xp87 xn88 xc89] w91 (retS (fun v93 w94 => ∃ (x92 : Bool), v93 = (.bool x92 : Value) ∧ (
 ifB x92 (
 doCall Tryz.prog (.func (.func 47) #[] #[]) #[.slice l_p4 l_n5 l_c6] w94 (retS (fun v98 w99 => ∃ (xp95 : Option Addr), ∃ (xn96 : Nat), ∃ (xc97 : Nat), v98 = (.slice xp95 xn96 xc97 : Value) ∧ (
 doCall Tryz.prog (.func (.func 46) #[] #[]) #[.pointer x35, .slice xp95 xn96 xc97] w99 (retS (fun v101 w102 => ∃ (x100 : Bool), v101 = (.bool x100 : Value) ∧ (
 ifB x100 (
 doCall Tryz.prog (.func (.func 37) #[] #[]) #[.int .u8 o_2, .int .u8 p_3] w102 (retS (fun v104 w105 => ∃ (x103 : Bool), v104 = (.bool x103 : Value) ∧ (
 ifB x103 (
 doCall Tryz.prog (.func (.func 38) #[] #[]) #[] w105 (retS (fun v107 w108 => ∃ (x106 : Bool), v107 = (.bool x106 : Value) ∧ (
 K78 x106 w108)) (fun ch w => Kfn R ch [] w))) (
 R (.returned (.bool false)) w105))) (fun ch w => Kfn R ch [] w))) (
 R (.returned (.bool false)) w102))) (fun ch w => Kfn R ch [] w)))) (fun ch w => Kfn R ch [] w))) (
 R (.returned (.bool false)) w94))) (fun ch w => Kfn R ch [] w)))) (fun ch w => Kfn R ch [] w))) (
 R (.returned (.bool false)) w86))) (fun ch w => Kfn R ch [] w)))) (fun ch w => Kfn R ch [] w)))
 ifB ((x52 : Int) != 0) (
 R (.returned (.bool false)) w72) (
 ifB ((x61 : Int) != 0) (
 R (.returned (.bool false)) w72) (
 ifB ((x70 : Int) != 0) (
 R (.returned (.bool false)) w72) (
 doCall Tryz.prog (.func (.func 22) #[] #[]) #[.slice d_p10 d_n11 d_c12] w72 (retS (fun v110 w111 => ∃ (x109 : Option Addr), v110 = (.pointer x109 : Value) ∧ (
 doCall Tryz.prog (.func (.func 44) #[] #[]) #[.int .u8 code_1, .int .u8 o_2, .int .u8 p_3, .pointer x109, .slice xp38 xn39 xc40, .slice x_p7 x_n8 x_c9] w111 (retS (fun v115 w116 => ∃ (xp112 : Option Addr), ∃ (xn113 : Nat), ∃ (xc114 : Nat), v115 = (.slice xp112 xn113 xc114 : Value) ∧ (
 doCall Tryz.prog (.func (.func 27) #[] #[]) #[.int .u8 code_1, .pointer x51, .slice xp112 xn113 xc114] w116 (retS (fun v118 w119 => ∃ (x117 : Bool), v118 = (.bool x117 : Value) ∧ (
 K75 (!x117) w119)) (fun ch w => Kfn R ch [] w)))) (fun ch w => Kfn R ch [] w)))) (fun ch w => Kfn R ch [] w))))))) (fun ch w => Kfn R ch [] w)))) (fun ch w => Kfn R ch [] w)))) (fun ch w => Kfn R ch [] w)))) (fun ch w => Kfn R ch [] w)))) (fun ch w => Kfn R ch [] w)))) (fun ch w => Kfn R ch [] w)))) (fun ch w => Kfn R ch [] w)))) (fun ch w => Kfn R ch [] w)))) (fun ch w => Kfn R ch [] w)))
 doCall Tryz.prog (.func (.func 36) #[] #[]) #[.int .u8 code_1, .int .u8 o_2, .slice l_p4 l_n5 l_c6] w19 (retS (fun v121 w122 => ∃ (x120 : Bool), v121 = (.bool x120 : Value) ∧ (
 ifB x120 (
 K22 true w122) (
 ifB (!x17) (
 K22 true w122) (
 doCall Tryz.prog (.func (.func 17) #[] #[]) #[.int .u8 p_3] w122 (retS (fun v124 w125 => ∃ (x123 : Bool), v124 = (.bool x123 : Value) ∧ (
 ifB (!x123) (
 K22 true w125) (
 ifB (decide ((((x_n8 : Nat) : Int) : Int) > 100)) (
 K22 true w125) (
 K22 (decide ((((keys_n14 : Nat) : Int) : Int) > 100)) w125)))) (fun ch w => Kfn R ch [] w)))))) (fun ch w => Kfn R ch [] w)))) (fun ch w => Kfn R ch [] w))
set_option maxRecDepth 100000 in
theorem sh6_ok (code_1 : Int) (o_2 : Int) (p_3 : Int) (l_p4 : Option Addr) (l_n5 : Nat) (l_c6 : Nat) (x_p7 : Option Addr) (x_n8 : Nat) (x_c9 : Nat) (d_p10 : Option Addr) (d_n11 : Nat) (d_c12 : Nat) (keys_p13 : Option Addr) (keys_n14 : Nat) (keys_c15 : Nat) {R : Ending → World → Prop} {w : World} : sh6 code_1 o_2 p_3 l_p4 l_n5 l_c6 x_p7 x_n8 x_c9 d_p10 d_n11 d_c12 keys_p13 keys_n14 keys_c15 R w → Calls Tryz.prog 6 #[.int .u8 code_1, .int .u8 o_2, .int .u8 p_3, .slice l_p4 l_n5 l_c6, .slice x_p7 x_n8 x_c9, .slice d_p10 d_n11 d_c12, .slice keys_p13 keys_n14 keys_c15] w R :=
  calls_of_eq (ann := fun _ => []) (fn := Tryz.f6) (c := bodyOf Tryz.f6) (args := #[.int .u8 code_1, .int .u8 o_2, .int .u8 p_3, .slice l_p4 l_n5 l_c6, .slice x_p7 x_n8 x_c9, .slice d_p10 d_n11 d_c12, .slice keys_p13 keys_n14 keys_c15]) 400 follows_mixed Tryz.func6 (by kernel_rfl) (by kernel_rfl)
end Go.Proofs.YtlddfgfmkapoiaaGreat

namespace Go.Proofs.YtlddfgfmkapoiaaGreat
open Go Go.Sh Go.RowKit

theorem keep_fix {c : Int} {t : Tr} {keys : List Int} {are : Bool} : (keepL (itsC c t) keys are).map (itC c) = keepL (itsC c t) keys are := filt_fix _
theorem keep_tag {c : Int} {t : Tr} {keys : List Int} {are : Bool} (h : TagI (itsC c t)) : TagI (keepL (itsC c t) keys are) := fun x hx => h x (List.mem_filter.1 hx).1
set_option maxRecDepth 20000 in
set_option maxHeartbeats 2000000 in
theorem c_manyTells {code o p : Int} {l : List Bd} {x : List Pr} {ds keys : List Int} {q q1 q2 q3 : Option Addr} {n c n1 c1 n2 c2 n3 c3 : Nat} {w : World} {R : Ending → World → Prop} (hl : Cs w q (bds l)) (hn : l.length = n) (hnc : n ≤ c) (hF : ∀ t : BT, l = t.beads → FitB t)
    (hx : Cs w q1 (prs x)) (hn1 : x.length = n1) (hI : InP x) (hd : Cs w q2 (u64s ds)) (hn2 : ds.length = n2) (hm2 : n2 ≤ 17592186044416) (hU : InU ds) (hk : Cs w q3 (ints keys)) (hn3 : keys.length = n3) (hkI : ∀ k ∈ keys, In k)
    (h : ∀ w', Ext w w' → R (.returned (.bool true)) w') : Calls Tryz.prog 6 #[.int .u8 code, .int .u8 o, .int .u8 p, .slice q n c, .slice q1 n1 c1, .slice q2 n2 c2, .slice q3 n3 c3] w R := by
  refine sh6_ok _ _ _ _ _ _ _ _ _ _ _ _ _ _ _ ?_
  unfold sh6
  have hidle : ∀ w2, Ext w w2 → doCall Tryz.prog (.func (.func 18) #[] #[]) #[.int .u8 code] w2 (retS (fun v21 w22 => ∃ (x20 : Bool), v21 = (.bool x20 : Value) ∧ (
 ifB (isS code == x20) (
 doCall Tryz.prog (.func (.func 37) #[] #[]) #[.int .u8 o, .int .u8 p] w22 (retS (fun v24 w25 => ∃ (x23 : Bool), v24 = (.bool x23 : Value) ∧ (
 ifB x23 (
 doCall Tryz.prog (.func (.func 38) #[] #[]) #[] w25 (retS (fun v27 w28 => ∃ (x26 : Bool), v27 = (.bool x26 : Value) ∧ (
 R (.returned (.bool x26)) w28)) (fun ch w => Kfn R ch [] w))) (
 R (.returned (.bool false)) w25))) (fun ch w => Kfn R ch [] w))) (
 R (.returned (.bool false)) w22))) (fun ch w => Kfn R ch [] w)) := fun w2 e2 =>
    do_call Tryz.call18 (c_r22is (retS_ret ⟨_, rfl, ifB_t (by simp) (do_call Tryz.call37 (c_nothing31 fun w3 e3 => retS_ret ⟨_, rfl, ifB_t rfl (do_call Tryz.call38 (c_alive31 fun w4 e4 => retS_ret ⟨_, rfl, h w4 ((e2.trans e3).trans e4)⟩))⟩))⟩))
  refine do_call Tryz.call15 (c_l22of (fun h0 => retS_ret ⟨_, _, rfl, ?_⟩) fun hs b w1 e1 hbw hs1 => retS_ret ⟨_, _, rfl, ?_⟩)
  · intro K22
    rw [h0] at hidle
    refine do_call Tryz.call36 (c_long24 (code := code) (o := o) hl hn hnc hF fun bb w2 e2 hbb => retS_ret ⟨_, rfl, ?_⟩)
    cases bb with
    | true => exact ifB_t rfl (ifB_t rfl (hidle w2 e2))
    | false => exact ifB_f rfl (ifB_t rfl (ifB_t rfl (hidle w2 e2)))
  · intro K22
    rw [hs] at hidle
    have hb : w.heap.size ≤ b := by omega
    refine do_call Tryz.call36 (c_long24 (code := code) (o := o) (hl.ext e1) hn hnc hF fun bb w2 e2 hbb => retS_ret ⟨_, rfl, ?_⟩)
    have E2 := e1.trans e2
    rcases hbb with rfl | ⟨rfl, _, ho, hn4, t, hw, rfl, hfit, hok, hch⟩
    · exact ifB_t rfl (ifB_t rfl (hidle w2 E2))
    · refine ifB_f rfl (ifB_f rfl (do_call Tryz.call17 (c_rmay (retS_ret ⟨_, rfl, ?_⟩))))
      cases hp : may p with
      | false => exact ifB_t rfl (ifB_t rfl (hidle w2 E2))
      | true =>
        refine ifB_f rfl ?_
        refine ifB_intro (fun _ => ifB_t rfl (hidle w2 E2)) fun hle1 => ?_
        have hle1 : n1 ≤ 100 := by have := of_decide_eq_false hle1; omega
        by_cases hgt3 : 100 < n3
        · rw [decide_eq_true (show ((n3 : Nat) : Int) > 100 by omega)]
          exact ifB_t rfl (hidle w2 E2)
        rw [decide_eq_false (show ¬ ((n3 : Nat) : Int) > 100 by omega)]
        simp -zeta -zetaHave only [K22]
        refine ifB_f rfl ?_
        have hasc : asc o (itsC code t.tr) := asc_of hch
        have ot : OkU code o t.tr := ⟨hok, hasc, hfit.inK⟩
        have hts : t.size = n := hn
        have htr := BT.tr_size t
        have hil := itsC_len code t.tr
        have hs2 := hs1.ext e2
        have hmA := sortL_may ho hp hI
        have hmK := sortL_may (p := 1) ho (by decide) (zeroP_in hkI)
        have UA := bld_u (c := code) (ds := ds) hs hmA.1 hmA.2.1
        have IA := bldC_its (ds := ds) (l := sortL o p x) hs
        have UK := bld_u (c := code) (ds := []) hs hmK.1 hmK.2.1
        have IK := bldC_its (ds := []) (l := sortL o 1 (zeroP keys)) hs
        have ZA := bldC_size hs (tagL code ds (sortL o p x))
        have ZK := bldC_size hs (tagL code [] (sortL o 1 (zeroP keys)))
        rw [tagL_len] at ZA ZK
        have hzl := zeroP_len keys
        have PA := ot.union (p := p) UA
        have VA := unionC_ok (p := p) hok.1 UA.ok hasc UA.asc
        have LO := lessC_ok ho ot UK
        have MO := meetC_ok (p := 1) ho ot UK
        rw [IA] at VA
        rw [IK, less_keys ho hkI] at LO
        rw [IK, meet_keys ho hkI] at MO
        refine do_call Tryz.call39 (c_make t (hl.ext E2) hts hnc hw (by omega) fun pt w3 e3 h3 => retS_ret ⟨_, rfl, ?_⟩)
        have E3 := E2.trans e3
        refine do_call Tryz.call40 (c_r22items (cd := code) (hl.ext E3) hts hnc hw (by omega) fun p4 n4 c4 w4 h4 e4 => retS_ret ⟨_, _, _, rfl, ?_⟩)
        have E4 := E3.trans e4
        have hn4' := ownI_len h4
        have hs4 := hs2.ext (e3.trans e4)
        have h34 := h3.ext e4
        have bw3 : b < w3.heap.size := (hs2.ext e3).lt
        refine do_call Tryz.call21 (c_drawn (hd.ext E4) hn2 hm2 fun px D w5 e5 hD hN hDf => retS_ret ⟨_, rfl, ?_⟩)
        have hD : IsD px D ds w5 := hD
        have E5 := E4.trans e5
        refine do_copyP (hx.ext E5) hn1 (by omega) fun q6 c6 w6 o6 e6 => ⟨_, _, _, rfl, ?_⟩
        have E6 := E5.trans e6
        have e46 := e5.trans e6
        have hs6 := hs4.ext e46
        have h36 := h34.ext e46
        have hD6 := hD.ext e6
        have l6 := e6.size
        have hSw : ∀ k ∈ b :: blksD D, w.heap.size ≤ k := fun k hk => by
          rcases List.mem_cons.1 hk with rfl | hk
          · exact hb
          · exact Nat.le_trans E4.size (hDf k hk)
        have hown : ∀ k, (Value.slice p4 n4 c4).ownBlock = some k → k < w4.heap.size := fun k hk => (World.ownsRow.lt h4 k hk).2
        have hSo : ∀ k ∈ b :: blksD D, k < w3.heap.size ∨ w4.heap.size ≤ k := fun k hk => by
          rcases List.mem_cons.1 hk with rfl | hk
          · exact .inl bw3
          · exact .inr (hDf k hk)
        have r6 : OwnI w6 w3.heap.size p4 n4 c4 (itsC code t.tr) := e46.row h4
        refine do_call Tryz.call41 (c_puts ho hp hs6 hD6 (by omega) h36 ot (by omega) (ownP_cs o6) hn1 (by omega) hI fun qa w7 g7 hs7 hD7 h7 => retS_ret ⟨_, _, rfl, ?_⟩)
        have E7 := Ext.gd E6 g7 hSw
        have h37 := h36.gd (oth_sd hs6 hD6) g7
        have r7 : OwnI w7 w3.heap.size p4 n4 c4 (itsC code t.tr) := row_gd2 r6 hown g7 hSo
        refine do_copyInt (hk.ext E7) hn3 (by omega) fun q8 c8 w8 o8 e8 => ⟨_, _, _, rfl, ?_⟩
        have E8 := E7.trans e8
        refine do_call Tryz.call42 (c_drops ho (hs7.ext e8) (h37.ext e8) ot (by omega) o8 hn3 (by omega) hkI fun qb w9 g9 hs9 h9 => retS_ret ⟨_, _, rfl, ?_⟩)
        have E9 := Ext.gs E8 g9 hb
        refine do_copyInt (hk.ext E9) hn3 (by omega) fun q10 c10 w10 o10 e10 => ⟨_, _, _, rfl, ?_⟩
        have E10 := E9.trans e10
        have hs10 := hs9.ext e10
        have h3_10 := ((h37.ext e8).gs (hs7.ext e8) g9).ext e10
        refine do_call Tryz.call43 (c_holds ho hs10 h3_10 ot (by omega) o10 hn3 (by omega) hkI fun qc w11 g11 hs11 h11 => retS_ret ⟨_, _, rfl, ?_⟩)
        have E11 := Ext.gs E10 g11 hb
        have ht11 := h3_10.gs hs10 g11
        have ha11 := (((h7.ext e8).gs (hs7.ext e8) g9).ext e10).gs hs10 g11
        have hb11 := (h9.ext e10).gs hs10 g11
        have r9 : OwnI w9 w3.heap.size p4 n4 c4 (itsC code t.tr) := row_gd (S := [b]) (e8.row r7) (gd_gs g9 (by simp)) (by simp; omega)
        have r11 : OwnI w11 w3.heap.size p4 n4 c4 (itsC code t.tr) := row_gd (S := [b]) (e10.row r9) (gd_gs g11 (by simp)) (by simp; omega)
        intro K75
        refine ifB_f rfl (ifB_f rfl (ifB_f rfl ?_))
        refine do_call Tryz.call22 (c_r8new (hd.ext E11) hn2 hm2 fun by_ w12 e12 hR12 => retS_ret ⟨_, rfl, ?_⟩)
        have E12 := E11.trans e12
        have hbl := hR12.lt
        have l11 := E11.size
        have hY : ∀ k ∈ [by_], w.heap.size ≤ k := fun k hk => by simp at hk; omega
        have r12 := e12.row r11
        have hown11 : ∀ k, (Value.slice p4 n4 c4).ownBlock = some k → k < w11.heap.size := fun k hk => (World.ownsRow.lt r11 k hk).2
        refine do_call Tryz.call44 (c_r31puts ho hp hR12 (Nat.le_refl _) (fun w' g => ownI_cs (row_gd2 (S := [by_]) r12 hown11 (gd_gs g (by simp)) fun k hk => .inr (by simp at hk; omega))) (ownI_len r12) (by omega) (hfit.inI code) (hx.ext E12) hn1 (by omega) hI fun p13 n13 c13 w13 g13 o13 => retS_ret ⟨_, _, _, rfl, ?_⟩)
        have G13 : Gd [by_] w12 w13 := gd_gs g13 (by simp)
        have E13 := Ext.gd E12 G13 hY
        have hR : Oth [by_] w12 := fun k hk => by
          simp at hk; subst hk
          obtain ⟨⟨qd, nd, cd, z1, z2, z3, z4, z5⟩, z6⟩ := hR12
          exact oth_blk z5 (by decide)
        have hT : ∀ {qx : Option Addr} {u : Tr}, IsN w11 qx u → IsN w13 qx u := fun hu => (hu.ext e12).gd hR G13
        have ha13 := hT ha11
        have hb13 := hT hb11
        have hc13 := hT h11
        have ht13 := hT ht11
        have r13 : OwnI w13 w3.heap.size p4 n4 c4 (itsC code t.tr) := row_gd2 r12 hown11 G13 fun k hk => .inr (by simp at hk; omega)
        have htg : TagI (itsC code (unionC code o p t.tr (bldC code (tagL code ds (sortL o p x))))) := by
          rw [VA]
          exact foldI_all (P := fun _ g => 0 ≤ g ∧ g < 18446744073709551616) (hfit.tagI code) (tagL_tag hU)
        have hfx : (foldI o p (itsC code t.tr) (tagL code ds (sortL o p x))).map (itC code) = itsC code (unionC code o p t.tr (bldC code (tagL code ds (sortL o p x)))) := by
          rw [← VA]
          have : (itsC code (unionC code o p t.tr (bldC code (tagL code ds (sortL o p x))))).map (itC code) = (itsC code (unionC code o p t.tr (bldC code (tagL code ds (sortL o p x))))).map id := List.map_congr_left fun x hx => its_fix hx
          rw [this, List.map_id]
        refine do_call Tryz.call27 (c_has PA.1.ok htg hfx ha13 (by have := PA.2; omega) (ownI_cs o13) (ownI_len o13) fun w14 e14 => retS_ret ⟨_, rfl, ?_⟩)
        have E14 := E13.trans e14
        simp -zeta -zetaHave only [K75]
        refine ifB_f rfl ?_
        intro K78
        refine do_call Tryz.call45 (c_r31keep (are := false) (ownI_cs (e14.row r13)) (ownI_len r13) (by omega) (hk.ext E14) hn3 (by omega) fun p15 n15 c15 w15 o15 e15 => retS_ret ⟨_, _, _, rfl, ?_⟩)
        have e13' := e14.trans e15
        refine do_call Tryz.call27 (c_has LO.1 (by rw [LO.2.1]; exact keep_tag (hfit.tagI code)) (by rw [LO.2.1]; exact keep_fix) (hb13.ext e13') (by have := LO.2.2; omega) (ownI_cs o15) (ownI_len o15) fun w16 e16 => retS_ret ⟨_, rfl, ifB_t rfl ?_⟩)
        have e136 := e13'.trans e16
        refine do_call Tryz.call45 (c_r31keep (are := true) (ownI_cs (e136.row r13)) (ownI_len r13) (by omega) (hk.ext (E13.trans e136)) hn3 (by omega) fun p17 n17 c17 w17 o17 e17 => retS_ret ⟨_, _, _, rfl, ?_⟩)
        have e137 := e136.trans e17
        refine do_call Tryz.call27 (c_has MO.1 (by rw [MO.2.1]; exact keep_tag (hfit.tagI code)) (by rw [MO.2.1]; exact keep_fix) (hc13.ext e137) (by have := MO.2.2; omega) (ownI_cs o17) (ownI_len o17) fun w18 e18 => retS_ret ⟨_, rfl, ifB_t rfl ?_⟩)
        have e138 := e137.trans e18
        refine do_call Tryz.call47 (c_r9of t (hl.ext (E13.trans e138)) hts hnc hw (by omega) fun p19 n19 c19 w19 h19 e19 => retS_ret ⟨_, _, _, rfl, ?_⟩)
        rw [← btT_of_wf hw] at h19
        have hn19 := ownB_len h19
        have e139 := e138.trans e19
        refine do_call Tryz.call46 (c_is (ht13.ext e139) (by omega) (ownB_cs h19) (by rw [← hn19]; exact (btT_size _).symm) fun w20 e20 => retS_ret ⟨_, rfl, ifB_t rfl ?_⟩)
        refine do_call Tryz.call37 (c_nothing31 fun w21 e21 => retS_ret ⟨_, rfl, ifB_t rfl (do_call Tryz.call38 (c_alive31 fun w22 e22 => retS_ret ⟨_, rfl, h w22 ((((E13.trans e139).trans e20).trans e21).trans e22)⟩))⟩)
end Go.Proofs.YtlddfgfmkapoiaaGreat

