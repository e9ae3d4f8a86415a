/-
  No set; how much a statement does.
-/
/-
  Printed by a program (gen.py): what the functions of the program do, as formulas; each with the proof that its call is what the formula says.
-/
/-
  SetPlays: the walk.
-/
import Derived.Test.YtlddfgfmkapoiaaGreatZ26
import Derived.Test.YtlddfgfmkapoiaaGreatZ02
import Derived.Test.YtlddfgfmkapoiaaGreatProg
import Derived.Test.YtlddfgfmkapoiaaGreatZ05

namespace Go.Proofs.YtlddfgfmkapoiaaGreat
open Go Go.Sh Go.RowKit

theorem c_setnew_no {o : Int} {sp p : Option Addr} {keys : List Int} {q : Option Addr} {n cp : Nat} {w : World} {R : Ending → World → Prop} (hl : Cs w q (ints keys)) (hn : keys.length = n) (hB : n ≤ 1000000) (hI : ∀ k ∈ keys, In k) (hno : sp = none ∨ isO o = false)
    (h : ∀ w', Ext w w' → R (.returned (.tuple #[.pointer none, .int .i64 2])) w') : Calls Tryz.prog 63 #[.pointer sp, .int .u8 o, .pointer p, .slice q n cp] w R := by
  refine sh63_ok _ _ _ _ _ _ ?_
  unfold sh63
  refine ⟨?_⟩
  have e0 := ext_alloc w (.cells #[.pointer none, .int .u8 0, .pointer none] 171)
  refine do_st3k (blk_alloc w _ _) fun w1 h1 g1 => ?_
  have E1 : Ext w w1 := e0.st g1 (Nat.le_refl _)
  obtain ⟨b7, hb7⟩ : ∃ b7, b7 = w.heap.size := ⟨_, rfl⟩
  rw [← hb7] at h1 g1 ⊢
  refine ⟨_, h1.cell (i := 0) (add_blk _ _) rfl, _, h1.cell (i := 1) (add_blk _ _) rfl, _, h1.cell (i := 2) (add_blk _ _) rfl, ?_⟩
  refine do_call Tryz.call136 (c_kindtree (b := 0) (fun w2 e2 => ?_) rfl)
  exact do_call Tryz.call24 (c_bkeys_no (hl.ext (E1.trans e2)) hn hB hI hno fun w3 e3 => retS_ret ⟨_, _, rfl, retS_ret ⟨_, _, rfl, ifB_t rfl (h _ ((E1.trans e2).trans e3))⟩⟩)
section
variable {w : World} {R : Ending → World → Prop}
theorem c_swith_nil {q : Option Addr} {n cp : Nat} {f : Fn} {fx fc : Array Value} (h : R (.returned (.tuple #[.int .i64 0, .int .i64 1])) w) : Calls Tryz.prog 144 #[.pointer none, .slice q n cp, .func f fx fc] w R := by
  refine sh144_ok _ _ _ _ _ _ _ ?_
  unfold sh144
  exact ifB_t rfl h
theorem c_sadd_nil {q : Option Addr} {n cp : Nat} (h : ∀ w', Ext w w' → R (.returned (.tuple #[.int .i64 0, .int .i64 1])) w') : Calls Tryz.prog 74 #[.pointer none, .slice q n cp] w R := by
  refine sh74_ok _ _ _ _ ?_
  unfold sh74
  exact ⟨⟨_, (blk_alloc w #[.pointer none] 85).cell (i := 0) rfl rfl, do_call Tryz.call144 (c_swith_nil (retS_ret ⟨_, _, rfl, h _ (ext_alloc w _)⟩))⟩⟩
theorem c_sdrop_nil {q : Option Addr} {n cp : Nat} (h : ∀ w', Ext w w' → R (.returned (.tuple #[.int .i64 0, .int .i64 1])) w') : Calls Tryz.prog 75 #[.pointer none, .slice q n cp] w R := by
  refine sh75_ok _ _ _ _ ?_
  unfold sh75
  exact ⟨⟨_, (blk_alloc w #[.pointer none] 85).cell (i := 0) rfl rfl, do_call Tryz.call144 (c_swith_nil (retS_ret ⟨_, _, rfl, h _ (ext_alloc w _)⟩))⟩⟩
theorem c_sat_nil {i : Int} (h : R (.returned (.tuple #[.int .i64 0, .int .i64 1])) w) : Calls Tryz.prog 77 #[.pointer none, .int .i64 i] w R := by
  refine sh77_ok _ _ ?_
  unfold sh77
  exact ifB_t rfl h
theorem c_btree_nil {f : Fn} {fx fc : Array Value} (h : ∀ w', Ext w w' → R (.returned (.tuple #[.pointer none, .int .i64 1])) w') : Calls Tryz.prog 140 #[.agg #[.func f fx fc], .pointer none, .pointer none] w R := by
  refine sh140_ok _ _ _ _ _ ?_
  unfold sh140
  exact ⟨ifB_t rfl (h _ (ext_alloc w _))⟩
theorem c_bset_nil {f : Fn} {fx fc : Array Value} (h : ∀ w', Ext w w' → R (.returned (.tuple #[.pointer none, .int .i64 1])) w') : Calls Tryz.prog 138 #[.agg #[.func f fx fc], .pointer none, .pointer none] w R := by
  refine sh138_ok _ _ _ _ _ ?_
  unfold sh138
  refine ⟨⟨_, _, _, (blk_alloc w #[.func f fx fc] 176).cell (i := 0) (add_blk _ _) rfl, ?_⟩⟩
  exact do_call Tryz.call140 (c_btree_nil fun w2 e2 => retS_ret ⟨_, _, rfl, ifB_t rfl (h _ ((ext_alloc w _).trans e2))⟩)
theorem c_sunion_nil (h : ∀ w', Ext w w' → R (.returned (.tuple #[.pointer none, .int .i64 1])) w') : Calls Tryz.prog 64 #[.pointer none, .pointer none] w R := by
  refine sh64_ok _ _ ?_
  unfold sh64
  exact do_call Tryz.call138 (c_bset_nil fun w2 e2 => retS_ret ⟨_, _, rfl, h _ e2⟩)
theorem c_smeet_nil (h : ∀ w', Ext w w' → R (.returned (.tuple #[.pointer none, .int .i64 1])) w') : Calls Tryz.prog 65 #[.pointer none, .pointer none] w R := by
  refine sh65_ok _ _ ?_
  unfold sh65
  exact do_call Tryz.call138 (c_bset_nil fun w2 e2 => retS_ret ⟨_, _, rfl, h _ e2⟩)
theorem c_sless_nil (h : ∀ w', Ext w w' → R (.returned (.tuple #[.pointer none, .int .i64 1])) w') : Calls Tryz.prog 66 #[.pointer none, .pointer none] w R := by
  refine sh66_ok _ _ ?_
  unfold sh66
  exact do_call Tryz.call138 (c_bset_nil fun w2 e2 => retS_ret ⟨_, _, rfl, h _ e2⟩)
theorem c_swithin_nil (h : ∀ w', Ext w w' → R (.returned (.tuple #[.bool false, .int .i64 1])) w') : Calls Tryz.prog 67 #[.pointer none, .pointer none] w R := by
  refine sh67_ok _ _ ?_
  unfold sh67
  exact do_call Tryz.call140 (c_btree_nil fun w2 e2 => retS_ret ⟨_, _, rfl, ifB_f rfl (h _ e2)⟩)
theorem c_stree_nil (h : R (.returned (.pointer none)) w) : Calls Tryz.prog 143 #[.pointer none] w R := by
  refine sh143_ok _ ?_
  unfold sh143
  exact ifB_t rfl h
theorem c_nothing40 (h : ∀ w', Ext w w' → R (.returned (.bool true)) w') : Calls Tryz.prog 81 #[] w R := by
  refine sh81_ok ?_
  unfold sh81
  refine do_call Tryz.call63 (c_setnew_no (keys := []) (cs_nil _ _) rfl (by omega) (fun k hk => by cases hk) (.inl rfl) fun w1 e1 => retS_ret ⟨_, _, rfl, ⟨?_⟩⟩)
  have e2 := e1.trans (ext_alloc w1 (.cells #[.int .i64 1] 2))
  refine do_call Tryz.call74 (c_sadd_nil fun w3 e3 => retS_ret ⟨_, _, rfl, ⟨?_⟩⟩)
  have e4 := (e2.trans e3).trans (ext_alloc w3 (.cells #[.int .i64 1] 2))
  refine do_call Tryz.call75 (c_sdrop_nil fun w5 e5 => retS_ret ⟨_, _, rfl, ?_⟩)
  refine do_call Tryz.call77 (c_sat_nil (retS_ret ⟨_, _, rfl, ?_⟩))
  refine do_call Tryz.call64 (c_sunion_nil fun w6 e6 => retS_ret ⟨_, _, rfl, ?_⟩)
  refine do_call Tryz.call65 (c_smeet_nil fun w7 e7 => retS_ret ⟨_, _, rfl, ?_⟩)
  refine do_call Tryz.call66 (c_sless_nil fun w8 e8 => retS_ret ⟨_, _, rfl, ?_⟩)
  refine do_call Tryz.call67 (c_swithin_nil fun w9 e9 => retS_ret ⟨_, _, rfl, ?_⟩)
  have E9 := ((((e4.trans e5).trans e6).trans e7).trans e8).trans e9
  intro K39
  refine ifB_t rfl (ifB_t rfl (ifB_t rfl (ifB_t rfl (ifB_t rfl (ifB_t rfl (ifB_t rfl (ifB_t rfl (ifB_t rfl (ifB_t rfl (ifB_t rfl (ifB_t rfl (ifB_t rfl (ifB_t rfl (ifB_t rfl (ifB_t rfl ?_)))))))))))))))
  refine do_call Tryz.call78 (sh78_ok _ _ ?_)
  unfold sh78
  refine ifB_t rfl (retS_ret ⟨_, rfl, ifB_t rfl ?_⟩)
  refine do_call Tryz.call72 (sh72_ok _ ?_)
  unfold sh72
  refine do_call Tryz.call143 (c_stree_nil (retS_ret ⟨_, rfl, ?_⟩))
  refine do_call Tryz.call91 (c_tsize (t := .nil) rfl fun w10 e10 => retS_ret ⟨_, rfl, retS_ret ⟨_, rfl, ifB_t rfl ?_⟩⟩)
  refine do_call Tryz.call76 (sh76_ok _ ?_)
  unfold sh76
  refine do_call Tryz.call143 (c_stree_nil (retS_ret ⟨_, rfl, ?_⟩))
  refine do_call Tryz.call147 (c_lkeys (t := .nil) rfl (by decide) fun q n c w11 e11 o11 => retS_ret ⟨_, _, _, rfl, retS_ret ⟨_, _, _, rfl, ?_⟩⟩)
  have hn : 0 = n := ownK_len o11
  subst hn
  refine ifB_t rfl ?_
  refine do_call Tryz.call143 (c_stree_nil (retS_ret ⟨_, rfl, ifB_t rfl ?_⟩))
  refine do_call Tryz.call73 (sh73_ok _ ?_)
  unfold sh73
  exact ifB_t rfl (retS_ret ⟨_, rfl, h _ ((E9.trans e10).trans e11)⟩)
end
/-- how many keys all steps have -/
def totS (l : List Stp) : Nat := (l.map (·.n)).sum
theorem totS_snoc (l : List Stp) (x : Stp) : totS (l ++ [x]) = totS l + x.n := by simp [totS]
theorem totS_app (l m : List Stp) : totS (l ++ m) = totS l + totS m := by simp [totS]
theorem totS_le {M : Nat} : ∀ {l : List Stp}, (∀ x ∈ l, x.n ≤ M) → totS l ≤ l.length * M
  | [], _ => Nat.zero_le _
  | x :: l, h => by
    have := totS_le (l := l) fun y hy => h y (by simp [hy])
    have hx := h x (by simp)
    have e : totS (x :: l) = x.n + totS l := by simp [totS]
    rw [e, List.length_cons, Nat.add_mul]; omega
theorem totS_take (l : List Stp) (k : Nat) : totS (l.take k) ≤ totS l := by
  have : totS l = totS (l.take k) + totS (l.drop k) := by
    rw [← totS_app, List.take_append_drop]
  omega
theorem c_heavy40 {l : List Stp} {q : Option Addr} {n c : Nat} {w : World} {R : Ending → World → Prop} (hl : Cs w q (l.flatMap ecKS)) (hn : l.length = n) (hx : ∀ x ∈ l, x.n ≤ 17592186044416)
    (h : ∀ b, (b = false → n ≤ 30 ∧ totS l ≤ 300) → R (.returned (.bool b)) w) : Calls Tryz.prog 80 #[.slice q n c] w R := by
  refine sh80_ok _ _ _ ?_
  unfold sh80
  intro K6
  refine ⟨fun vs w' => ∃ k : Nat, vs = [.int .i64 (totS (l.take k) : Nat), .int .i64 k] ∧ k ≤ n ∧ k ≤ 100 ∧ w' = w, fun vs _ => n - (intOf (vs.getD 1 undef)).toNat, ⟨0, rfl, by omega, by omega, rfl⟩, ?_⟩
  rintro t_ i _ w2 ⟨k, hv, hkn, hk100, rfl⟩
  simp only [List.cons.injEq, Value.int.injEq, true_and, and_true] at hv
  obtain ⟨rfl, rfl⟩ := hv
  have hend : (k < n → ¬ k < 100) → K6 (totS (l.take k) : Nat) w2 := fun hk => by
    simp -zeta -zetaHave only [K6]
    refine ifB_intro (fun _ => h _ fun e => by cases e) fun hc => h _ fun hf => ?_
    have hc := of_decide_eq_false hc
    have hf := of_decide_eq_false hf
    have hn30 : n ≤ 30 := by omega
    have : l.take k = l := List.take_of_length_le (by omega)
    rw [this] at hf
    exact ⟨hn30, by omega⟩
  intro K18
  refine ifB_intro (fun hlt => ?_) fun hge => hend fun hk => absurd hk (by have := of_decide_eq_false hge; omega)
  have hlt : k < n := by have := of_decide_eq_true hlt; omega
  have hkl : k < l.length := by omega
  refine ifB_intro (fun h1 => ?_) fun h1 => hend fun _ => by have := of_decide_eq_false h1; omega
  have h1 : k < 100 := by have := of_decide_eq_true h1; omega
  refine ix_flat (ec := ecKS) (s := 2) (fun _ => rfl) (by omega) hl hn (k := k) rfl hlt fun a r _ => ⟨_, _, _, r 1 _ rfl, ?_⟩
  have hb := totS_le (l := l.take k) (M := 17592186044416) fun x hm => hx x (List.mem_of_mem_take hm)
  rw [List.length_take, Nat.min_eq_left (by omega)] at hb
  have hb2 : k * 17592186044416 ≤ 100 * 17592186044416 := Nat.mul_le_mul_right _ (by omega)
  have hxk := hx _ (List.getElem_mem hkl)
  have es : IntKind.wrap .i64 (((totS (l.take k) : Nat) : Int) + ((l[k].n : Nat) : Int)) = (totS (l.take (k + 1)) : Nat) := by
    rw [show l.take (k + 1) = l.take k ++ [l[k]] from (List.take_append_getElem hkl).symm, totS_snoc, wrap_of (by omega) (by omega)]
    omega
  rw [es]
  refine ⟨⟨k + 1, by rw [wrap_succ (n := k + 1) (by omega) (by omega)], by omega, by omega, rfl⟩, by rw [wrap_succ (n := k + 1) (by omega) (by omega)]; simp [intOf]; omega⟩
end Go.Proofs.YtlddfgfmkapoiaaGreat

namespace Go.Proofs.YtlddfgfmkapoiaaGreat
open Go Go.Sh
set_option maxRecDepth 100000 in
/-- joinery/joinerylaw40.SetPlays -/
def sh13 (code_1 : Int) (o_2 : Int) (d_p3 : Option Addr) (d_n4 : Nat) (d_c5 : Nat) (keys_p6 : Option Addr) (keys_n7 : Nat) (keys_c8 : Nat) (l_p9 : Option Addr) (l_n10 : Nat) (l_c11 : Nat) (key_12 : Int) (n_13 : Int) (R : Ending → World → Prop) (w : World) : Prop :=
 doCall Tryz.prog (.func (.func 15) #[] #[]) #[.int .u8 code_1] w (retS (fun v16 w17 => ∃ (x14 : Option Addr), ∃ (x15 : Bool), v16 = (.tuple #[.pointer x14, .bool x15] : Value) ∧ (
 let K20 : Bool → World → Prop := fun (x18 : Bool) (w19 : World) => 
 ifB x18 (
 let K23 : Bool → World → Prop := fun (x21 : Bool) (w22 : World) => 
 R (.returned (.bool x21)) w22
 doCall Tryz.prog (.func (.func 18) #[] #[]) #[.int .u8 code_1] w19 (retS (fun v25 w26 => ∃ (x24 : Bool), v25 = (.bool x24 : Value) ∧ (
 ifB (x15 == x24) (
 doCall Tryz.prog (.func (.func 81) #[] #[]) #[] w26 (retS (fun v28 w29 => ∃ (x27 : Bool), v28 = (.bool x27 : Value) ∧ (
 ifB x27 (
 doCall Tryz.prog (.func (.func 62) #[] #[]) #[] w29 (retS (fun v31 w32 => ∃ (x30 : Bool), v31 = (.bool x30 : Value) ∧ (
 K23 x30 w32)) (fun ch w => Kfn R ch [] w))) (
 R (.returned (.bool false)) w29))) (fun ch w => Kfn R ch [] w))) (
 R (.returned (.bool false)) w26))) (fun ch w => Kfn R ch [] w))) (
 doCall Tryz.prog (.func (.func 21) #[] #[]) #[.slice d_p3 d_n4 d_c5, .bool ((((d_n4 : Nat) : Int) : Int) == 0)] w19 (retS (fun v34 w35 => ∃ (x33 : Option Addr), v34 = (.pointer x33 : Value) ∧ (
 doGo Tryz.prog (.builtin .append #[24, 24] 24 #[true, false]) #[.slice none 0 0, .slice keys_p6 keys_n7 keys_c8] w35 (retS (fun v39 w40 => ∃ (xp36 : Option Addr), ∃ (xn37 : Nat), ∃ (xc38 : Nat), v39 = (.slice xp36 xn37 xc38 : Value) ∧ (
 doCall Tryz.prog (.func (.func 63) #[] #[]) #[.pointer x14, .int .u8 o_2, .pointer x33, .slice xp36 xn37 xc38] w40 (retS (fun v43 w44 => ∃ (x41 : Option Addr), ∃ (x42 : Int), v43 = (.tuple #[.pointer x41, .int .i64 x42] : Value) ∧ (
 doCall Tryz.prog (.func (.func 16) #[] #[]) #[.int .u8 o_2] w44 (retS (fun v46 w47 => ∃ (x45 : Bool), v46 = (.bool x45 : Value) ∧ (
 ifB (!x45) (
 let K50 : Bool → World → Prop := fun (x48 : Bool) (w49 : World) => 
 R (.returned (.bool x48)) w49
 ifB ((x41).isNone) (
 ifB ((x42 : Int) == 2) (
 doCall Tryz.prog (.func (.func 81) #[] #[]) #[] w47 (retS (fun v52 w53 => ∃ (x51 : Bool), v52 = (.bool x51 : Value) ∧ (
 ifB x51 (
 doCall Tryz.prog (.func (.func 62) #[] #[]) #[] w53 (retS (fun v55 w56 => ∃ (x54 : Bool), v55 = (.bool x54 : Value) ∧ (
 K50 x54 w56)) (fun ch w => Kfn R ch [] w))) (
 R (.returned (.bool false)) w53))) (fun ch w => Kfn R ch [] w))) (
 R (.returned (.bool false)) w47)) (
 R (.returned (.bool false)) w47)) (
 doCall Tryz.prog (.func (.func 68) #[] #[]) #[.int .u8 o_2, .slice none 0 0, .slice keys_p6 keys_n7 keys_c8] w47 (retS (fun v60 w61 => ∃ (xp57 : Option Addr), ∃ (xn58 : Nat), ∃ (xc59 : Nat), v60 = (.slice xp57 xn58 xc59 : Value) ∧ (
 let K64 : Bool → World → Prop := fun (x62 : Bool) (w63 : World) => 
 ifB x62 (
 R (.returned (.bool false)) w63) (
 ∃ (I65 : List Value → World → Prop) (μ66 : List Value → World → Nat), I65 [.pointer x41, .slice xp57 xn58 xc59, .int .i64 0] w63 ∧ (∀ (x_69 : Option Addr), ∀ (r_p70 : Option Addr), ∀ (r_n71 : Nat), ∀ (r_c72 : Nat), ∀ (i_73 : Int), ∀ (_j67 : Nat → Value) (w68 : World), I65 [.pointer x_69, .slice r_p70 r_n71 r_c72, .int .i64 i_73] w68 → (
 ifB (decide ((i_73 : Int) < ((l_n10 : Nat) : Int))) (
 let K81 : (Option Addr) → (Option Addr) → Nat → Nat → Int → Int → World → Prop := fun (x_74 : Option Addr) (r_p75 : Option Addr) (r_n76 : Nat) (r_c77 : Nat) (a_78 : Int) (f_79 : Int) (w80 : World) => 
 let K84 : Bool → World → Prop := fun (x82 : Bool) (w83 : World) => 
 ifB x82 (
 R (.returned (.bool false)) w83) (
 I65 [.pointer x_74, .slice r_p75 r_n76 r_c77, .int .i64 (IntKind.wrap .i64 (i_73 + 1))] w83 ∧ μ66 [.pointer x_74, .slice r_p75 r_n76 r_c77, .int .i64 (IntKind.wrap .i64 (i_73 + 1))] w83 < μ66 [.pointer x_69, .slice r_p70 r_n71 r_c72, .int .i64 i_73] w68)
 ifB ((a_78 : Int) != ((r_n76 : Nat) : Int)) (
 R (.returned (.bool false)) w80) (
 ifB ((f_79 : Int) != 0) (
 R (.returned (.bool false)) w80) (
 doCall Tryz.prog (.func (.func 70) #[] #[]) #[.int .u8 code_1, .int .u8 o_2, .pointer x_74, .slice r_p75 r_n76 r_c77] w80 (retS (fun v86 w87 => ∃ (x85 : Bool), v86 = (.bool x85 : Value) ∧ (
 K84 (!x85) w87)) (fun ch w => Kfn R ch [] w))))
 doIx l_p9 l_n10 2 (i_73) (fun a88 =>
 ∃ (x89 : Int), World.cell? w68 (a88.add 0) = some (.int .u8 x89) ∧ (
 ifB ((x89 : Int) == 0) (
 doIx l_p9 l_n10 2 (i_73) (fun a90 =>
 ∃ (xp91 : Option Addr), ∃ (xn92 : Nat), ∃ (xc93 : Nat), World.cell? w68 (a90.add 1) = some (.slice xp91 xn92 xc93) ∧ (
 doCall Tryz.prog (.func (.func 68) #[] #[]) #[.int .u8 o_2, .slice r_p70 r_n71 r_c72, .slice xp91 xn92 xc93] w68 (retS (fun v97 w98 => ∃ (xp94 : Option Addr), ∃ (xn95 : Nat), ∃ (xc96 : Nat), v97 = (.slice xp94 xn95 xc96 : Value) ∧ (
 doIx l_p9 l_n10 2 (i_73) (fun a99 =>
 ∃ (xp100 : Option Addr), ∃ (xn101 : Nat), ∃ (xc102 : Nat), World.cell? w98 (a99.add 1) = some (.slice xp100 xn101 xc102) ∧ (
 doGo Tryz.prog (.builtin .append #[24, 24] 24 #[true, false]) #[.slice none 0 0, .slice xp100 xn101 xc102] w98 (retS (fun v106 w107 => ∃ (xp103 : Option Addr), ∃ (xn104 : Nat), ∃ (xc105 : Nat), v106 = (.slice xp103 xn104 xc105 : Value) ∧ (
 doCall Tryz.prog (.func (.func 74) #[] #[]) #[.pointer x_69, .slice xp103 xn104 xc105] w107 (retS (fun v110 w111 => ∃ (x108 : Int), ∃ (x109 : Int), v110 = (.tuple #[.int .i64 x108, .int .i64 x109] : Value) ∧ (
 K81 x_69 xp94 xn95 xc96 (IntKind.wrap .i64 (((r_n71 : Nat) : Int) + x108)) x109 w111)) (fun ch w => Kfn R ch [] w)))) (fun ch w => Kfn R ch [] w)))))) (fun ch w => Kfn R ch [] w))))) (
 ifB ((x89 : Int) == 1) (
 doIx l_p9 l_n10 2 (i_73) (fun a112 =>
 ∃ (xp113 : Option Addr), ∃ (xn114 : Nat), ∃ (xc115 : Nat), World.cell? w68 (a112.add 1) = some (.slice xp113 xn114 xc115) ∧ (
 doCall Tryz.prog (.func (.func 69) #[] #[]) #[.slice r_p70 r_n71 r_c72, .slice xp113 xn114 xc115, .bool false] w68 (retS (fun v119 w120 => ∃ (xp116 : Option Addr), ∃ (xn117 : Nat), ∃ (xc118 : Nat), v119 = (.slice xp116 xn117 xc118 : Value) ∧ (
 doIx l_p9 l_n10 2 (i_73) (fun a121 =>
 ∃ (xp122 : Option Addr), ∃ (xn123 : Nat), ∃ (xc124 : Nat), World.cell? w120 (a121.add 1) = some (.slice xp122 xn123 xc124) ∧ (
 doGo Tryz.prog (.builtin .append #[24, 24] 24 #[true, false]) #[.slice none 0 0, .slice xp122 xn123 xc124] w120 (retS (fun v128 w129 => ∃ (xp125 : Option Addr), ∃ (xn126 : Nat), ∃ (xc127 : Nat), v128 = (.slice xp125 xn126 xc127 : Value) ∧ (
 doCall Tryz.prog (.func (.func 75) #[] #[]) #[.pointer x_69, .slice xp125 xn126 xc127] w129 (retS (fun v132 w133 => ∃ (x130 : Int), ∃ (x131 : Int), v132 = (.tuple #[.int .i64 x130, .int .i64 x131] : Value) ∧ (
 K81 x_69 xp116 xn117 xc118 (IntKind.wrap .i64 (((r_n71 : Nat) : Int) - x130)) x131 w133)) (fun ch w => Kfn R ch [] w)))) (fun ch w => Kfn R ch [] w)))))) (fun ch w => Kfn R ch [] w))))) (
 doCall Tryz.prog (.func (.func 73) #[] #[]) #[.pointer x_69] w68 (retS (fun v135 w136 => ∃ (x134 : Option Addr), v135 = (.pointer x134 : Value) ∧ (
 ifB ((x134).isNone) (
 R (.returned (.bool false)) w136) (
 doIx l_p9 l_n10 2 (i_73) (fun a137 =>
 ∃ (xp138 : Option Addr), ∃ (xn139 : Nat), ∃ (xc140 : Nat), World.cell? w136 (a137.add 1) = some (.slice xp138 xn139 xc140) ∧ (
 doCall Tryz.prog (.func (.func 74) #[] #[]) #[.pointer x_69, .slice xp138 xn139 xc140] w136 (retS (fun v143 w144 => ∃ (x141 : Int), ∃ (x142 : Int), v143 = (.tuple #[.int .i64 x141, .int .i64 x142] : Value) ∧ (
 K81 x134 r_p70 r_n71 r_c72 ((r_n71 : Nat) : Int) 0 w144)) (fun ch w => Kfn R ch [] w))))))) (fun ch w => Kfn R ch [] w))))))) (
 doCall Tryz.prog (.func (.func 77) #[] #[]) #[.pointer x_69, .int .i64 n_13] w68 (retS (fun v147 w148 => ∃ (x145 : Int), ∃ (x146 : Int), v147 = (.tuple #[.int .i64 x145, .int .i64 x146] : Value) ∧ (
 let K151 : Bool → World → Prop := fun (x149 : Bool) (w150 : World) => 
 ifB x149 (
 let K154 : Bool → World → Prop := fun (x152 : Bool) (w153 : World) => 
 R (.returned (.bool x152)) w153
 ifB ((x145 : Int) == 0) (
 ifB ((x146 : Int) == 320) (
 doCall Tryz.prog (.func (.func 78) #[] #[]) #[.pointer x_69, .int .i64 key_12] w150 (retS (fun v156 w157 => ∃ (x155 : Bool), v156 = (.bool x155 : Value) ∧ (
 doCall Tryz.prog (.func (.func 82) #[] #[]) #[.slice r_p70 r_n71 r_c72, .int .i64 key_12] w157 (retS (fun v159 w160 => ∃ (x158 : Bool), v159 = (.bool x158 : Value) ∧ (
 ifB (x155 == x158) (
 doCall Tryz.prog (.func (.func 81) #[] #[]) #[] w160 (retS (fun v162 w163 => ∃ (x161 : Bool), v162 = (.bool x161 : Value) ∧ (
 ifB x161 (
 doCall Tryz.prog (.func (.func 62) #[] #[]) #[] w163 (retS (fun v165 w166 => ∃ (x164 : Bool), v165 = (.bool x164 : Value) ∧ (
 K154 x164 w166)) (fun ch w => Kfn R ch [] w))) (
 R (.returned (.bool false)) w163))) (fun ch w => Kfn R ch [] w))) (
 R (.returned (.bool false)) w160))) (fun ch w => Kfn R ch [] w)))) (fun ch w => Kfn R ch [] w))) (
 R (.returned (.bool false)) w150)) (
 R (.returned (.bool false)) w150)) (
 let K169 : Bool → World → Prop := fun (x167 : Bool) (w168 : World) => 
 R (.returned (.bool x167)) w168
 doIx r_p70 r_n71 1 (n_13) (fun a170 =>
 ∃ (x171 : Int), World.cell? w150 a170 = some (.int .i64 x171) ∧ (
 ifB ((x145 : Int) == x171) (
 ifB ((x146 : Int) == 0) (
 doCall Tryz.prog (.func (.func 78) #[] #[]) #[.pointer x_69, .int .i64 key_12] w150 (retS (fun v173 w174 => ∃ (x172 : Bool), v173 = (.bool x172 : Value) ∧ (
 doCall Tryz.prog (.func (.func 82) #[] #[]) #[.slice r_p70 r_n71 r_c72, .int .i64 key_12] w174 (retS (fun v176 w177 => ∃ (x175 : Bool), v176 = (.bool x175 : Value) ∧ (
 ifB (x172 == x175) (
 doCall Tryz.prog (.func (.func 81) #[] #[]) #[] w177 (retS (fun v179 w180 => ∃ (x178 : Bool), v179 = (.bool x178 : Value) ∧ (
 ifB x178 (
 doCall Tryz.prog (.func (.func 62) #[] #[]) #[] w180 (retS (fun v182 w183 => ∃ (x181 : Bool), v182 = (.bool x181 : Value) ∧ (
 K169 x181 w183)) (fun ch w => Kfn R ch [] w))) (
 R (.returned (.bool false)) w180))) (fun ch w => Kfn R ch [] w))) (
 R (.returned (.bool false)) w177))) (fun ch w => Kfn R ch [] w)))) (fun ch w => Kfn R ch [] w))) (
 R (.returned (.bool false)) w150)) (
 R (.returned (.bool false)) w150))))
 ifB (decide ((n_13 : Int) < 0)) (
 K151 true w148) (
 K151 (decide ((n_13 : Int) ≥ ((r_n71 : Nat) : Int))) w148))) (fun ch w => Kfn R ch [] w))))))
 ifB ((x42 : Int) != 0) (
 R (.returned (.bool false)) w61) (
 doCall Tryz.prog (.func (.func 70) #[] #[]) #[.int .u8 code_1, .int .u8 o_2, .pointer x41, .slice xp57 xn58 xc59] w61 (retS (fun v185 w186 => ∃ (x184 : Bool), v185 = (.bool x184 : Value) ∧ (
 K64 (!x184) w186)) (fun ch w => Kfn R ch [] w))))) (fun ch w => Kfn R ch [] w))))) (fun ch w => Kfn R ch [] w)))) (fun ch w => Kfn R ch [] w)))) (fun ch w => Kfn R ch [] w)))) (fun ch w => Kfn R ch [] w)))
 doCall Tryz.prog (.func (.func 80) #[] #[]) #[.slice l_p9 l_n10 l_c11] w17 (retS (fun v188 w189 => ∃ (x187 : Bool), v188 = (.bool x187 : Value) ∧ (
 ifB x187 (
 K20 true w189) (
 ifB (decide ((((keys_n7 : Nat) : Int) : Int) > 100)) (
 K20 true w189) (
 K20 (!x15) w189)))) (fun ch w => Kfn R ch [] w)))) (fun ch w => Kfn R ch [] w))
set_option maxRecDepth 100000 in
theorem sh13_ok (code_1 : Int) (o_2 : Int) (d_p3 : Option Addr) (d_n4 : Nat) (d_c5 : Nat) (keys_p6 : Option Addr) (keys_n7 : Nat) (keys_c8 : Nat) (l_p9 : Option Addr) (l_n10 : Nat) (l_c11 : Nat) (key_12 : Int) (n_13 : Int) {R : Ending → World → Prop} {w : World} : sh13 code_1 o_2 d_p3 d_n4 d_c5 keys_p6 keys_n7 keys_c8 l_p9 l_n10 l_c11 key_12 n_13 R w → Calls Tryz.prog 13 #[.int .u8 code_1, .int .u8 o_2, .slice d_p3 d_n4 d_c5, .slice keys_p6 keys_n7 keys_c8, .slice l_p9 l_n10 l_c11, .int .i64 key_12, .int .i64 n_13] w R :=
  calls_of_eq (ann := fun i => if i = 0 then [(17, .pointer none), (19, .slice none 0 0), (20, .int .i64 0)] else []) (fn := Tryz.f13) (c := bodyOf Tryz.f13) (args := #[.int .u8 code_1, .int .u8 o_2, .slice d_p3 d_n4 d_c5, .slice keys_p6 keys_n7 keys_c8, .slice l_p9 l_n10 l_c11, .int .i64 key_12, .int .i64 n_13]) 400 follows_mixed Tryz.func13 (by kernel_rfl) (by kernel_rfl)
end Go.Proofs.YtlddfgfmkapoiaaGreat

namespace Go.Proofs.YtlddfgfmkapoiaaGreat
open Go Go.Sh Go.RowKit

theorem RK.gd {S : List Nat} {w w' : World} {q : Option Addr} {n c : Nat} {L : List Int} (h : RK w q n c L) (g : Gd S w w') (hS : ∀ k ∈ S, ∀ cs, ¬ Blk w k cs 2) : RK w' q n c L := by
  have no : ∀ a, q = some a → a.block ∉ S := fun a ha hm => by
    obtain ⟨cs, hb⟩ := h.bl a ha
    exact hS _ hm cs hb
  exact ⟨cs_gd h.cs g no, h.len, h.cap, fun a ha => (h.bl a ha).imp fun _ hb => hb.gd g (no a ha)⟩
theorem no_int {w : World} {k : Nat} {cs : Array Value} {t : TypeId} (h : Blk w k cs t) (ht : t ≠ 2) : ∀ cs', ¬ Blk w k cs' 2 := fun _ h' => ht (blk_fun h h')
theorem sch_noint {c : Int} {b : Nat} {w : World} (h : IsSch c b w) : ∀ cs, ¬ Blk w b cs 2 := by
  rcases h.2 with ⟨j, h⟩ | ⟨j, h⟩
  · exact no_int h (by decide)
  · exact no_int h (by decide)
theorem isD_noint {p : Option Addr} {D : Option (Nat × Nat × Nat × Nat)} {ds : List Int} {w : World} (h : IsD p D ds w) : ∀ k ∈ blksD D, ∀ cs, ¬ Blk w k cs 2 := by
  cases D with
  | none => intro k hk; cases hk
  | some D =>
    obtain ⟨⟨q, n, c, h1, h2, h3, h4, h5, h6⟩, h7, h8, h9⟩ := h.2
    intro k hk
    simp only [blksD, List.mem_cons, List.not_mem_nil, or_false] at hk
    rcases hk with rfl | rfl
    · exact no_int h5 (by decide)
    · exact no_int h6 (by decide)
/-- what a set that is played with is, and its keys beside it -/
structure Pl (code o : Int) (b : Nat) (p : Option Addr) (D : Option (Nat × Nat × Nat × Nat)) (bx : Nat) (K : List Int) (q : Option Addr) (n c : Nat) (w : World) : Prop where
  sch : IsSch code b w
  dr : ∃ r, IsD p D r w ∧ InU r
  top : topD D ≤ w.heap.size
  set : SetU code o b p bx K w
  nb : bx ∉ b :: blksD D
  tb : topD D ≤ bx
  row : RK w q n c K
theorem Pl.ext {code o : Int} {b : Nat} {p : Option Addr} {D : Option (Nat × Nat × Nat × Nat)} {bx : Nat} {K : List Int} {q : Option Addr} {n c : Nat} {w w' : World} (h : Pl code o b p D bx K q n c w) (e : Ext w w') : Pl code o b p D bx K q n c w' :=
  ⟨h.sch.ext e, h.dr.imp fun _ hr => ⟨hr.1.ext e, hr.2⟩, Nat.le_trans h.top e.size, h.set.ext e, h.nb, h.tb, h.row.ext e⟩
theorem Pl.noint {code o : Int} {b : Nat} {p : Option Addr} {D : Option (Nat × Nat × Nat × Nat)} {bx : Nat} {K : List Int} {q : Option Addr} {n c : Nat} {w : World} (h : Pl code o b p D bx K q n c w) : ∀ k ∈ bx :: b :: blksD D, ∀ cs, ¬ Blk w k cs 2 := fun k hk => by
  rcases List.mem_cons.1 hk with rfl | hk
  · obtain ⟨_, _, x1, _⟩ := h.set.ex
    exact no_int x1 (by decide)
  · rcases List.mem_cons.1 hk with rfl | hk
    · exact sch_noint h.sch
    · obtain ⟨r, hr, _⟩ := h.dr
      exact isD_noint hr k hk
set_option maxRecDepth 20000 in
set_option maxHeartbeats 1600000 in
theorem c_setPlays {code o key i : Int} {ds keys : List Int} {l : List Stp} {q1 q2 q3 : Option Addr} {n1 c1 n2 c2 n3 c3 : Nat} {w : World} {R : Ending → World → Prop} (hd : Cs w q1 (u64s ds)) (hn1 : ds.length = n1) (hm1 : n1 ≤ 17592186044416) (hU : InU ds) (hk : Cs w q2 (ints keys)) (hn2 : keys.length = n2) (iK : ∀ k ∈ keys, In k)
    (hl : Cs w q3 (l.flatMap ecKS)) (hn3 : l.length = n3) (hx : ∀ x ∈ l, Is_ints w x.q x.n x.c x.l ∧ x.n ≤ 17592186044416) (hkey : In key) (hi : In i)
    (h : ∀ w', Ext w w' → R (.returned (.bool true)) w') : Calls Tryz.prog 13 #[.int .u8 code, .int .u8 o, .slice q1 n1 c1, .slice q2 n2 c2, .slice q3 n3 c3, .int .i64 key, .int .i64 i] w R := by
  refine sh13_ok _ _ _ _ _ _ _ _ _ _ _ _ _ ?_
  unfold sh13
  have hidle : ∀ w2, Ext w w2 → doCall Tryz.prog (.func (.func 18) #[] #[]) #[.int .u8 code] w2 (retS (fun v25 w26 => ∃ (x24 : Bool), v25 = (.bool x24 : Value) ∧ (
 ifB (isS code == x24) (
 doCall Tryz.prog (.func (.func 81) #[] #[]) #[] w26 (retS (fun v28 w29 => ∃ (x27 : Bool), v28 = (.bool x27 : Value) ∧ (
 ifB x27 (
 doCall Tryz.prog (.func (.func 62) #[] #[]) #[] w29 (retS (fun v31 w32 => ∃ (x30 : Bool), v31 = (.bool x30 : Value) ∧ (
 R (.returned (.bool x30)) w32)) (fun ch w => Kfn R ch [] w))) (
 R (.returned (.bool false)) w29))) (fun ch w => Kfn R ch [] w))) (
 R (.returned (.bool false)) w26))) (fun ch w => Kfn R ch [] w)) := fun w2 e2 => by
    refine do_call Tryz.call18 (c_r22is (retS_ret ⟨_, rfl, ifB_t (by simp) ?_⟩))
    refine do_call Tryz.call81 (c_nothing40 fun w3 e3 => retS_ret ⟨_, rfl, ifB_t rfl ?_⟩)
    exact do_call Tryz.call62 (c_alive40 fun w4 e4 => retS_ret ⟨_, rfl, h _ ((e2.trans e3).trans e4)⟩)
  refine do_call Tryz.call15 (c_l22of (fun hc => retS_ret ⟨_, _, rfl, ?_⟩) fun hsc b w1 e1 hbw hs1 => retS_ret ⟨_, _, rfl, ?_⟩)
  · intro K20
    have hK : K20 true w := by
      simp -zeta -zetaHave only [K20]
      have := hidle w (ext_refl w)
      rw [hc] at this
      exact ifB_t rfl this
    refine do_call Tryz.call80 (c_heavy40 hl hn3 (fun x hm => (hx x hm).2) fun bh _ => retS_ret ⟨_, rfl, ?_⟩)
    exact ifB_intro (fun _ => hK) fun _ => ifB_intro (fun _ => hK) fun _ => hK
  intro K20
  have hK : ∀ w2, Ext w w2 → K20 true w2 := fun w2 e2 => by
    simp -zeta -zetaHave only [K20]
    have := hidle w2 e2
    rw [hsc] at this
    exact ifB_t rfl this
  refine do_call Tryz.call80 (c_heavy40 (hl.ext e1) hn3 (fun x hm => (hx x hm).2) fun bh hbh => retS_ret ⟨_, rfl, ?_⟩)
  cases bh with
  | true => exact ifB_t rfl (hK _ e1)
  | false =>
  obtain ⟨hz3, hzt⟩ := hbh rfl
  refine ifB_f rfl (ifB_intro (fun _ => hK _ e1) fun z2 => ?_)
  have z2 : n2 ≤ 100 := by have := of_decide_eq_false z2; omega
  simp -zeta -zetaHave only [K20]
  clear hK
  refine ifB_f rfl ?_
  have hb : w.heap.size ≤ b := by omega
  refine do_call Tryz.call21 (c_drawn (hd.ext e1) hn1 hm1 fun p D w2 e2 hD hN hSD => retS_ret ⟨_, rfl, ?_⟩)
  have E2 := e1.trans e2
  have hU2 : InU (cond (((n1 : Nat) : Int) == 0) [] ds) := by
    cases (((n1 : Nat) : Int) == 0)
    · exact hU
    · intro x hx; cases hx
  have hS : ∀ k ∈ b :: blksD D, w.heap.size ≤ k := fun k hk => by
    rcases List.mem_cons.1 hk with rfl | hk
    · exact hb
    · exact Nat.le_trans e1.size (hSD k hk)
  refine do_appK (ownK_nil w2 w2.heap.size) (hk.ext E2) hn2 (by omega) (Nat.le_refl _) fun p3 c3' w3 o3 g3 => retS_ret ⟨_, _, _, rfl, ?_⟩
  simp -zeta -zetaHave only [Nat.zero_add, List.nil_append] at o3 ⊢
  have e3 := g3 w2 (ext_refl _) (Nat.le_refl _)
  have E3 := E2.trans e3
  have hs3 := hs1.ext (e2.trans e3)
  have hD3 := hD.ext e3
  have hN3 := Nat.le_trans hN e3.size
  have hnil : ∀ w', Ext w w' → R (.returned (.bool true)) w' := h
  cases ho : isO o with
  | false =>
    refine do_call Tryz.call63 (c_setnew_no (Cs.of_row o3) hn2 (by omega) iK (.inr ho) fun w4 e4 => retS_ret ⟨_, _, rfl, ?_⟩)
    refine do_call Tryz.call16 (c_ris (retS_ret ⟨_, rfl, ?_⟩))
    rw [ho]
    refine ifB_t rfl ?_
    intro K50
    refine ifB_t rfl (ifB_t rfl ?_)
    refine do_call Tryz.call81 (c_nothing40 fun w5 e5 => retS_ret ⟨_, rfl, ifB_t rfl ?_⟩)
    exact do_call Tryz.call62 (c_alive40 fun w6 e6 => retS_ret ⟨_, rfl, h _ (((E3.trans e4).trans e5).trans e6)⟩)
  | true =>
  refine do_call Tryz.call63 (c_setnew ho hs3 hD3 hU2 hN3 (Cs.of_row o3) hn2 (by omega) iK fun bx K w4 g4 hs4 hD4 hbx hx4 hmK hlK => retS_ret ⟨_, _, rfl, ?_⟩)
  have E4 := Ext.gd E3 g4 hS
  have hslt := hs3.lt
  have hDlt := hD3.lt
  refine do_call Tryz.call16 (c_ris (retS_ret ⟨_, rfl, ?_⟩))
  rw [ho]
  refine ifB_f rfl ?_
  refine do_call Tryz.call68 (c_add40 ho (rk_nil _) (by omega) (fun x hx => by cases hx) List.Pairwise.nil (hk.ext E4) hn2 (by omega) iK fun p5 n5 c5 w5 V e5 r5 a5 m5 z5 => retS_ret ⟨_, _, _, rfl, ?_⟩)
  have hVK : K = V := keys_ext hx4.asc a5 fun k => by rw [hmK, m5]; simp
  subst hVK
  have E5 := E4.trans e5
  have P5 : Pl code o b p D bx K p5 n5 c5 w5 := ⟨hs4.ext e5, hD4.imp fun _ hr => ⟨hr.1.ext e5, hr.2⟩, Nat.le_trans hN3 (Nat.le_trans g4.size e5.size), hx4.ext e5, fun hm => by
    rcases List.mem_cons.1 hm with e | hm
    · omega
    · have := (hDlt _ hm).1; omega, by omega, r5⟩
  intro K64
  refine ifB_f rfl ?_
  refine do_call Tryz.call70 (c_sis ho P5.set (by omega) r5.cs r5.len fun w6 e6 => retS_ret ⟨_, rfl, ?_⟩)
  have E6 := E5.trans e6
  simp -zeta -zetaHave only [K64]
  refine ifB_f rfl ?_
  refine ⟨fun vs w' => ∃ (k bx : Nat) (K : List Int) (q : Option Addr) (n c : Nat), vs = [.pointer (some (blk bx)), .slice q n c, .int .i64 k] ∧ k ≤ n3 ∧ Ext w w' ∧ w.heap.size ≤ bx ∧ Pl code o b p D bx K q n c w' ∧ (∀ x ∈ K, In x) ∧ K.length ≤ 100 + totS (l.take k), fun vs _ => n3 - (intOf (vs.getD 2 undef)).toNat,
    ⟨0, bx, K, p5, n5, c5, rfl, by omega, E6, by have := E3.size; omega, P5.ext e6, fun x hxx => iK x ((hmK x).1 hxx), by omega⟩, ?_⟩
  rintro x_ rp rn rc k_ _ w7 ⟨k, bx, K, q, n, c, hv, hkn, E7, hbxw, P7, iKK, hlen⟩
  simp only [List.cons.injEq, Value.pointer.injEq, Value.slice.injEq, Value.int.injEq, true_and, and_true] at hv
  obtain ⟨rfl, ⟨rfl, rfl, rfl⟩, rfl⟩ := hv
  have htk := totS_take l k
  have hKl := P7.row.len
  have hS7 : ∀ k ∈ bx :: b :: blksD D, w.heap.size ≤ k := fun k hk => by
    rcases List.mem_cons.1 hk with rfl | hk
    · exact hbxw
    · exact hS k hk
  refine ifB_intro (fun hlt => ?_) fun hge => ?_
  · have hlt : k < n3 := by have := of_decide_eq_true hlt; omega
    have hkl : k < l.length := by omega
    intro K81
    obtain ⟨⟨hxn, hxc, hxI, _⟩, _⟩ := hx _ (List.getElem_mem hkl)
    have hts : totS (l.take (k + 1)) = totS (l.take k) + l[k].n := by
      rw [show l.take (k + 1) = l.take k ++ [l[k]] from (List.take_append_getElem hkl).symm, totS_snoc]
    have htk2 := totS_take l (k + 1)
    have hxn300 : l[k].n ≤ 300 := by omega
    have hK81 : ∀ (bx' : Nat) (M : List Int) (q' : Option Addr) (n' c' : Nat) (w8 : World), Ext w w8 → w.heap.size ≤ bx' → Pl code o b p D bx' M q' n' c' w8 → (∀ x ∈ M, In x) → M.length ≤ K.length + l[k].n → K81 (some (blk bx')) q' n' c' ((n' : Nat) : Int) 0 w8 := by
      intro bx' M q' n' c' w8 E8 hbx' P8 iM hlM
      simp -zeta -zetaHave only [K81]
      intro K84
      have hl8 := P8.row.len
      refine ifB_f (by simp) (ifB_f rfl ?_)
      refine do_call Tryz.call70 (c_sis ho P8.set (by omega) P8.row.cs P8.row.len fun w9 e9 => retS_ret ⟨_, rfl, ?_⟩)
      simp -zeta -zetaHave only [K84]
      refine ifB_f rfl ⟨⟨k + 1, bx', M, q', n', c', by rw [wrap_succ hlt (by omega)], by omega, E8.trans e9, hbx', P8.ext e9, iM, by omega⟩, ?_⟩
      rw [wrap_succ hlt (by omega)]; simp [intOf]; omega
    refine ix_flat (ec := ecKS) (s := 2) (fun _ => rfl) (by omega) (hl.ext E7) hn3 (k := k) rfl hlt fun a r _ => ⟨_, r 0 _ rfl, ?_⟩
    have ixk : ∀ (w' : World) (G : Addr → Prop), Ext w w' → (∀ a : Addr, World.cell? w' (a.add 1) = some (.slice l[k].q l[k].n l[k].c) → G a) → doIx q3 n3 2 (k : Int) G := fun w' G E' hG =>
      ix_flat (ec := ecKS) (s := 2) (fun _ => rfl) (by omega) (hl.ext E') hn3 (k := k) rfl hlt fun a r _ => hG a (r 1 _ rfl)
    obtain ⟨ds7, hD7, hU7⟩ := P7.dr
    refine ifB_intro (fun hdo => ?_) fun hdo => ifB_intro (fun hdo2 => ?_) fun hdo2 => ?_
    · refine ixk w7 _ E7 fun a ha => ⟨_, _, _, ha, ?_⟩
      refine do_call Tryz.call68 (c_add40 ho P7.row (by omega) iKK P7.set.asc (hxc.ext E7) hxn (by omega) hxI fun p8 n8 c8 w8 V e8 r8 a8 m8 z8 => retS_ret ⟨_, _, _, rfl, ?_⟩)
      have E8 := E7.trans e8
      refine ixk w8 _ E8 fun a ha => ⟨_, _, _, ha, ?_⟩
      refine do_appK (ownK_nil w8 w8.heap.size) (hxc.ext E8) hxn (by omega) (Nat.le_refl _) fun p9 c9 w9 o9 g9 => retS_ret ⟨_, _, _, rfl, ?_⟩
      simp -zeta -zetaHave only [Nat.zero_add, List.nil_append] at o9 ⊢
      have e9 := g9 w8 (ext_refl _) (Nat.le_refl _)
      have E9 := E8.trans e9
      have P9 := P7.ext (e8.trans e9)
      have r9 := r8.ext e9
      refine do_call Tryz.call74 (c_sadd ho P9.sch (hD7.ext (e8.trans e9)) hU7 P9.top P9.set P9.nb P9.tb (Cs.of_row o9) hxn (by omega) hxI (by omega) fun M w10 g10 hs10 hd10 hx10 hm10 hl10 => retS_ret ⟨_, _, rfl, ?_⟩)
      have E10 := Ext.gd E9 g10 hS7
      have hVM : M = V := keys_ext hx10.asc a8 fun k => by rw [hm10, m8]
      subst hVM
      have r10 := r9.gd g10 P9.noint
      have hl10' := r10.len
      have ea : IntKind.wrap .i64 (((rn : Nat) : Int) + ((M.length : Int) - K.length)) = ((n8 : Nat) : Int) := by rw [wrap_of (by omega) (by omega)]; omega
      rw [ea]
      exact hK81 bx M p8 n8 c8 w10 E10 hbxw ⟨hs10, hd10, Nat.le_trans P9.top g10.size, hx10, P9.nb, P9.tb, r10⟩ (fun x hxx => ((m8 x).1 hxx).elim (iKK x) (hxI x)) (by omega)
    · refine ixk w7 _ E7 fun a ha => ⟨_, _, _, ha, ?_⟩
      refine do_call Tryz.call69 (c_keep40 P7.row.cs P7.row.len (by omega) (hxc.ext E7) hxn (by omega) fun p8 n8 c8 w8 e8 r8 => retS_ret ⟨_, _, _, rfl, ?_⟩)
      have E8 := E7.trans e8
      refine ixk w8 _ E8 fun a ha => ⟨_, _, _, ha, ?_⟩
      refine do_appK (ownK_nil w8 w8.heap.size) (hxc.ext E8) hxn (by omega) (Nat.le_refl _) fun p9 c9 w9 o9 g9 => retS_ret ⟨_, _, _, rfl, ?_⟩
      simp -zeta -zetaHave only [Nat.zero_add, List.nil_append] at o9 ⊢
      have e9 := g9 w8 (ext_refl _) (Nat.le_refl _)
      have E9 := E8.trans e9
      have P9 := P7.ext (e8.trans e9)
      have r9 := r8.ext e9
      refine do_call Tryz.call75 (c_sdrop ho P9.sch (hD7.ext (e8.trans e9)) hU7 P9.top P9.set P9.nb P9.tb (Cs.of_row o9) hxn (by omega) hxI (by omega) fun M w10 g10 hs10 hd10 hx10 hm10 hl10 => retS_ret ⟨_, _, rfl, ?_⟩)
      have E10 := Ext.gd E9 g10 hS7
      have hVM : M = K.filter fun kk => decide (kk ∈ l[k].l) == false := keys_filter P7.set.asc hx10.asc _ fun k => by rw [hm10]; simp
      rw [← hVM] at r9
      have r10 := r9.gd g10 P9.noint
      have hl10' := r10.len
      have ea : IntKind.wrap .i64 (((rn : Nat) : Int) - ((K.length : Int) - M.length)) = ((n8 : Nat) : Int) := by rw [wrap_of (by omega) (by omega)]; omega
      rw [ea]
      exact hK81 bx M p8 n8 c8 w10 E10 hbxw ⟨hs10, hd10, Nat.le_trans P9.top g10.size, hx10, P9.nb, P9.tb, r10⟩ (fun x hxx => iKK x ((hm10 x).1 hxx).1) (by omega)
    · refine do_call Tryz.call73 (c_scopy P7.set fun by_ w8 e8 hby hy8 => retS_ret ⟨_, rfl, ifB_f rfl ?_⟩)
      have E8 := E7.trans e8
      have P8 := P7.ext e8
      refine ixk w8 _ E8 fun a ha => ⟨_, _, _, ha, ?_⟩
      have hslt7 := P7.sch.lt
      have hDlt7 := hD7.lt
      have hbxlt := P7.set.lt
      refine do_call Tryz.call74 (c_sadd ho P8.sch (hD7.ext e8) hU7 P8.top P8.set P8.nb P8.tb (hxc.ext E8) hxn (by omega) hxI (by omega) fun M w10 g10 hs10 hd10 hx10 hm10 hl10 => retS_ret ⟨_, _, rfl, ?_⟩)
      have E10 := Ext.gd E8 g10 hS7
      have hny : by_ ∉ bx :: b :: blksD D := fun hm => by
        rcases List.mem_cons.1 hm with e | hm
        · omega
        · rcases List.mem_cons.1 hm with e | hm
          · omega
          · have := (hDlt7 _ hm).1; omega
      have O8 : Oth (bx :: b :: blksD D) w8 := fun k hk => by
        rcases List.mem_cons.1 hk with rfl | hk
        · obtain ⟨_, _, x1, _⟩ := P8.set.ex
          exact oth_blk x1 (by decide)
        · exact oth_sd P8.sch (hD7.ext e8) k hk
      exact hK81 by_ K rp rn rc w10 E10 (by have := E7.size; omega) ⟨hs10, hd10, Nat.le_trans P8.top g10.size, hy8.gd O8 g10 hny, fun hm => hny (List.mem_cons_of_mem _ hm), by have := P7.top; omega, P8.row.gd g10 P8.noint⟩ iKK (by omega)
  · refine do_call Tryz.call77 (c_sat P7.set (by omega) fun w8 e8 => retS_ret ⟨_, _, rfl, ?_⟩)
    have E8 := E7.trans e8
    have P8 := P7.ext e8
    intro K151
    have hfin : ∀ (R' : Bool → World → Prop), (∀ w', Ext w w' → R' true w') → doCall Tryz.prog (.func (.func 78) #[] #[]) #[.pointer (some (blk bx)), .int .i64 key] w8 (retS (fun v156 w157 => ∃ (x155 : Bool), v156 = (.bool x155 : Value) ∧ (
 doCall Tryz.prog (.func (.func 82) #[] #[]) #[.slice rp rn rc, .int .i64 key] w157 (retS (fun v159 w160 => ∃ (x158 : Bool), v159 = (.bool x158 : Value) ∧ (
 ifB (x155 == x158) (
 doCall Tryz.prog (.func (.func 81) #[] #[]) #[] w160 (retS (fun v162 w163 => ∃ (x161 : Bool), v162 = (.bool x161 : Value) ∧ (
 ifB x161 (
 doCall Tryz.prog (.func (.func 62) #[] #[]) #[] w163 (retS (fun v165 w166 => ∃ (x164 : Bool), v165 = (.bool x164 : Value) ∧ (
 R' x164 w166)) (fun ch w => Kfn R ch [] w))) (
 R (.returned (.bool false)) w163))) (fun ch w => Kfn R ch [] w))) (
 R (.returned (.bool false)) w160))) (fun ch w => Kfn R ch [] w)))) (fun ch w => Kfn R ch [] w)) := fun R' hR' => by
      refine do_call Tryz.call78 (c_shas ho hkey P8.set fun w9 e9 => retS_ret ⟨_, rfl, ?_⟩)
      refine do_call Tryz.call82 (c_has40 (P8.row.cs.ext e9) P8.row.len (by omega) (retS_ret ⟨_, rfl, ifB_t (by simp) ?_⟩))
      refine do_call Tryz.call81 (c_nothing40 fun w10 e10 => retS_ret ⟨_, rfl, ifB_t rfl ?_⟩)
      exact do_call Tryz.call62 (c_alive40 fun w11 e11 => retS_ret ⟨_, rfl, hR' _ (((E8.trans e9).trans e10).trans e11)⟩)
    by_cases hin : 0 ≤ i ∧ i < (K.length : Int)
    · have ex : (if 0 ≤ i ∧ i < (K.length : Int) then K.getD i.toNat 0 else 0) = K.getD i.toNat 0 := if_pos hin
      have ey : (if 0 ≤ i ∧ i < (K.length : Int) then (0 : Int) else 320) = 0 := if_pos hin
      refine ifB_f (by simp; omega) ?_
      have hd2 : decide (i ≥ ((rn : Nat) : Int)) = false := decide_eq_false (by omega)
      rw [hd2]
      simp -zeta -zetaHave only [K151]
      refine ifB_f rfl ?_
      intro K169
      rw [ex, ey]
      refine ix_int P8.row.cs P8.row.len hin.1 (by omega) fun a ha hc => ⟨_, hc, ifB_t (by simp) (ifB_t rfl ?_)⟩
      exact hfin (fun x w => R (.returned (.bool x)) w) h
    · have ex : (if 0 ≤ i ∧ i < (K.length : Int) then K.getD i.toNat 0 else 0) = 0 := if_neg hin
      have ey : (if 0 ≤ i ∧ i < (K.length : Int) then (0 : Int) else 320) = 320 := if_neg hin
      have hK151 : K151 true w8 := by
        simp -zeta -zetaHave only [K151]
        refine ifB_t rfl ?_
        intro K154
        rw [ex, ey]
        refine ifB_t rfl (ifB_t rfl ?_)
        exact hfin (fun x w => R (.returned (.bool x)) w) h
      refine ifB_intro (fun _ => hK151) fun hneg => ?_
      have hneg := of_decide_eq_false hneg
      have hd2 : decide (i ≥ ((rn : Nat) : Int)) = true := decide_eq_true (by omega)
      rw [hd2]; exact hK151
end Go.Proofs.YtlddfgfmkapoiaaGreat

