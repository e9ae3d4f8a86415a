/-
  draw, mix: numbers that are drawn; the document's.
-/
/-
  build.Items: a tree of items, by halves.
-/
/-
  build.Row: a tree of a row, with its tags.
-/
/-
  slices.SortStableFunc over pairs: swaps, rotations, insertions, merges.
-/
import Derived.Test.YtlddfgfmkapoiaaGreatZ20
import Derived.Test.YtlddfgfmkapoiaaGreatZ15

namespace Go.Proofs.YtlddfgfmkapoiaaGreat
open Go Go.Sh Go.RowKit

abbrev u64s (l : List Int) : List Value := l.flatMap fun x => [.int .u64 x]
theorem u64_len (x : Int) : ([.int .u64 x] : List Value).length = 1 := rfl
theorem u64s_length (l : List Int) : (u64s l).length = l.length := by rw [flat_length u64_len]; omega
theorem u64s_one {l : List Int} : ∀ u ∈ u64s l, u.oneCell' = true := fun u hu => by
  obtain ⟨x, _, hx⟩ := List.mem_flatMap.1 hu
  simp only [List.mem_singleton] at hx
  subst hx; rfl
set_option maxRecDepth 100000 in
theorem elU : ElT Tryz.prog 23 75 (.int .u64 0) 1 8 := ⟨Tryz.underlying23, ⟨_, Tryz.type75, by kernel_rfl, by kernel_rfl, by kernel_rfl⟩, rfl, by omega⟩
abbrev OwnU (w : World) (base : Nat) (p : Option Addr) (n c : Nat) (l : List Int) : Prop := w.ownsRow base 75 1 (.slice p n c) n (u64s l)
theorem cs_u64_nil {w : World} {q : Option Addr} {l : List Int} (h : Cs w q (u64s l)) (hq : q = none) : l = [] := by
  cases l with
  | nil => rfl
  | cons x xs => obtain ⟨a, ha, _⟩ := h 0 (.int .u64 x) rfl; rw [hq] at ha; cases ha
theorem mixOf_eq (key : Int) : IntKind.wrap .u64 (IntKind.wrap .u64 key + 11400714819323198485) = U (BitVec.ofInt 64 key + 0x9e3779b97f4a7c15#64) := by
  rw [wrap_U key, show (11400714819323198485 : Int) = U 0x9e3779b97f4a7c15#64 from rfl, add_U]
theorem c_mixof {key : Int} {w : World} {R : Ending → World → Prop} (h : ∀ w', Ext w w' → R (.returned (.int .u64 (mixK key))) w') : Calls Tryz.prog 83 #[.int .i64 key] w R := by
  refine sh83_ok _ ?_
  unfold sh83
  rw [mixOf_eq]
  exact do_call Tryz.call122 (c_mix fun w1 e1 => retS_ret ⟨_, rfl, h _ e1⟩)
theorem c_scode {c : Int} {b : Nat} {w : World} {R : Ending → World → Prop} (hs : IsSch c b w) (h : R (.returned (.int .u8 c)) w) : Calls Tryz.prog 184 #[.pointer (some (blk b))] w R := by
  refine sh184_ok _ ?_
  unfold sh184
  refine ifB_f rfl ⟨_, rfl, ?_⟩
  rcases hs.2 with ⟨j, hb⟩ | ⟨j, hb⟩
  · exact ⟨_, hb.cell (i := 0) (add_blk _ _) rfl, h⟩
  · exact ⟨_, hb.cell (i := 0) (add_blk _ _) rfl, h⟩
/-- all but the first number -/
theorem sl_tail {w : World} {q : Option Addr} {n c : Nat} {l : List Int} {K : Option Addr → Nat → Nat → Prop} (hl : Cs w q (u64s l)) (hn : l.length = n) (hnc : n ≤ c) (h0 : 0 < n)
    (k : ∀ p, (∀ w', Cs w' q (u64s l) → Cs w' p (u64s l.tail)) → (∀ a, p = some a → ∃ a0, q = some a0 ∧ a.block = a0.block) → K p (n - 1) (c - 1)) : doSl q c 1 1 (n : Int) K := by
  refine ⟨by omega, by omega, by omega, ?_⟩
  have e : (n : Int).toNat - (1 : Int).toNat = n - 1 := by omega
  rw [e]
  refine k _ (fun w' hl' => ?_) fun a ha => ?_
  · have ht : u64s l.tail = (u64s l).drop 1 := by
      cases l with
      | nil => rfl
      | cons x t => rfl
    rw [ht]
    split
    · rename_i hc
      have hc : c = 1 := hc
      rw [List.drop_of_length_le (by rw [u64s_length]; omega)]; exact cs_nil _ _
    · cases q with
      | none =>
        have := cs_u64_nil hl rfl
        subst this; exact cs_nil _ _
      | some ad => exact hl'.drop _
  · split at ha
    · exact ⟨a, ha, rfl⟩
    · cases q with
      | none => cases ha
      | some ad =>
        simp only [Option.map_some, Option.some.injEq] at ha
        exact ⟨ad, rfl, by rw [← ha, add_block]⟩
/-! ### draws -/
abbrev drN (bp br : Nat) : Value := .func (.func 171) #[] #[.pointer (some (blk br)), .pointer (some (blk bp))]
abbrev drL (br : Nat) : Value := .func (.func 170) #[] #[.pointer (some (blk br))]
/-- draws in memory; all of it lies ahead of N -/
structure IsDr (bd bp br N : Nat) (ds : List Int) (w : World) : Prop where
  ex : ∃ q n c, ds.length = n ∧ n ≤ c ∧ Cs w q (u64s ds) ∧ (∀ a, q = some a → a.block < N ∧ a.block ≠ bd ∧ a.block ≠ br ∧ ∃ cs, Blk w a.block cs 75) ∧ Blk w bd #[.slice q n c, drN bp br, drL br] 145 ∧ Blk w br #[.slice q n c] 23
  p : Blk w bp #[.pointer (some (blk bd))] 31
  lt : bd < N ∧ bp < N ∧ br < N
  ne : bp ≠ bd ∧ bp ≠ br ∧ bd ≠ br
theorem IsDr.gd {bd bp br N : Nat} {ds : List Int} {S : List Nat} {w w' : World} (h : IsDr bd bp br N ds w) (g : Gd S w w') (hS : ∀ k ∈ S, N ≤ k) : IsDr bd bp br N ds w' := by
  obtain ⟨⟨q, n, c, h1, h2, h3, h4, h5, h6⟩, h7, h8, h9⟩ := h
  have no {k : Nat} (hk : k < N) : k ∉ S := fun hm => by have := hS k hm; omega
  exact ⟨⟨q, n, c, h1, h2, cs_gd h3 g fun a ha => no (h4 a ha).1, fun a ha => ⟨(h4 a ha).1, (h4 a ha).2.1, (h4 a ha).2.2.1, (h4 a ha).2.2.2.imp fun _ hb => hb.gd g (no (h4 a ha).1)⟩, h5.gd g (no h8.1), h6.gd g (no h8.2.2)⟩, h7.gd g (no h8.2.1), h8, h9⟩
theorem IsDr.gs {bd bp br N b : Nat} {c : Int} {ds : List Int} {w w' : World} (h : IsDr bd bp br N ds w) (hs : IsSch c b w) (g : Gs b w w') : IsDr bd bp br N ds w' := by
  obtain ⟨⟨q, n, c, h1, h2, h3, h4, h5, h6⟩, h7, h8, h9⟩ := h
  have G := gd_gs (S := [b]) g (by simp)
  have n5 := hs.ne h5 (by decide)
  have n6 := hs.ne h6 (by decide)
  have n7 := hs.ne h7 (by decide)
  have n4 {a : Addr} (ha : q = some a) : a.block ≠ b := by
    obtain ⟨cs, hb⟩ := (h4 a ha).2.2.2
    exact hs.ne hb (by decide)
  exact ⟨⟨q, n, c, h1, h2, cs_gd h3 G fun a ha => by simp [n4 ha], fun a ha => ⟨(h4 a ha).1, (h4 a ha).2.1, (h4 a ha).2.2.1, (h4 a ha).2.2.2.imp fun _ hb => hb.gs g (n4 ha)⟩, h5.gs g n5, h6.gs g n6⟩, h7.gs g n7, h8, h9⟩
/-- draws, or none -/
def IsD (p : Option Addr) : Option (Nat × Nat × Nat × Nat) → List Int → World → Prop
  | none, ds, _ => p = none ∧ ds = []
  | some (bd, bp, br, N), ds, w => p = some (blk bd) ∧ IsDr bd bp br N ds w
def blksD : Option (Nat × Nat × Nat × Nat) → List Nat
  | none => []
  | some (bd, _, br, _) => [bd, br]
def topD : Option (Nat × Nat × Nat × Nat) → Nat
  | none => 0
  | some (_, _, _, N) => N
theorem IsD.gd {p : Option Addr} {D : Option (Nat × Nat × Nat × Nat)} {ds : List Int} {S : List Nat} {w w' : World} (h : IsD p D ds w) (g : Gd S w w') (hS : ∀ k ∈ S, topD D ≤ k) : IsD p D ds w' := by
  cases D with
  | none => exact h
  | some D => exact ⟨h.1, h.2.gd g hS⟩
theorem IsD.ext {p : Option Addr} {D : Option (Nat × Nat × Nat × Nat)} {ds : List Int} {w w' : World} (h : IsD p D ds w) (e : Ext w w') : IsD p D ds w' := h.gd (gd_of (S := []) e) fun k hk => by cases hk
theorem IsD.gs {p : Option Addr} {D : Option (Nat × Nat × Nat × Nat)} {ds : List Int} {b : Nat} {c : Int} {w w' : World} (h : IsD p D ds w) (hs : IsSch c b w) (g : Gs b w w') : IsD p D ds w' := by
  cases D with
  | none => exact h
  | some D => exact ⟨h.1, h.2.gs hs g⟩
theorem IsD.lt {p : Option Addr} {D : Option (Nat × Nat × Nat × Nat)} {ds : List Int} {w : World} (h : IsD p D ds w) : ∀ k ∈ blksD D, k < w.heap.size ∧ k < topD D := by
  cases D with
  | none => intro k hk; cases hk
  | some D =>
    obtain ⟨⟨q, n, c, h1, h2, h3, h4, h5, h6⟩, h7, h8, h9⟩ := h.2
    intro k hk
    simp only [blksD, List.mem_cons, List.not_mem_nil, or_false] at hk
    rcases hk with rfl | rfl
    · exact ⟨h5.lt, h8.1⟩
    · exact ⟨h6.lt, h8.2.2⟩
theorem IsD.oth {p : Option Addr} {D : Option (Nat × Nat × Nat × Nat)} {ds : List Int} {w : World} (h : IsD p D ds w) : Oth (blksD D) w := by
  cases D with
  | none => intro k hk; cases hk
  | some D =>
    obtain ⟨⟨q, n, c, h1, h2, h3, h4, h5, h6⟩, h7, h8, h9⟩ := h.2
    intro k hk
    simp only [blksD, List.mem_cons, List.not_mem_nil, or_false] at hk
    rcases hk with rfl | rfl
    · exact oth_blk h5 (by decide)
    · exact oth_blk h6 (by decide)
theorem IsD.sch {p : Option Addr} {D : Option (Nat × Nat × Nat × Nat)} {ds : List Int} {c : Int} {b : Nat} {w : World} (h : IsD p D ds w) (hs : IsSch c b w) : b ∉ blksD D := by
  cases D with
  | none => intro hk; cases hk
  | some D =>
    obtain ⟨⟨q, n, c, h1, h2, h3, h4, h5, h6⟩, h7, h8, h9⟩ := h.2
    intro hk
    simp only [blksD, List.mem_cons, List.not_mem_nil, or_false] at hk
    rcases hk with e | e
    · exact hs.ne h5 (by decide) e.symm
    · exact hs.ne h6 (by decide) e.symm
/-- the next number -/
theorem do_dnext {bd bp br N : Nat} {ds : List Int} {w : World} {R : Ending → World → Prop} (hd : IsDr bd bp br N ds w) (h0 : ds = [] → R (.returned (.tuple #[.int .u64 0, .bool false])) w)
    (h1 : ∀ x t w', ds = x :: t → Gd [bd, br] w w' → IsDr bd bp br N t w' → R (.returned (.tuple #[.int .u64 x, .bool true])) w') : doCall Tryz.prog (drN bp br) #[] w R := by
  refine do_callc Tryz.call171 (by rfl) (sh171_ok _ _ ?_)
  unfold sh171
  obtain ⟨⟨q, n, c, e1, e2, e3, e4, e5, e6⟩, e7, e8, e9⟩ := hd
  refine ⟨_, _, _, e6.cell (i := 0) rfl rfl, ?_⟩
  cases ds with
  | nil =>
    have : n = 0 := e1.symm
    subst this
    exact ifB_t rfl (h0 rfl)
  | cons x t =>
    have hn : 0 < n := by rw [← e1]; simp
    refine ifB_f (by simp; omega) ⟨_, _, _, e6.cell (i := 0) rfl rfl, ?_⟩
    refine ix_flat u64_len (by omega) e3 e1 (k := 0) rfl hn fun a r _ => ⟨x, by have := r 0 (.int .u64 x) rfl; rwa [add_zero'] at this, _, _, _, e6.cell (i := 0) rfl rfl, ?_⟩
    refine sl_tail e3 e1 e2 hn fun p hp hpb => ?_
    refine do_st e6 (i := 0) (add_blk _ _) (by simp) fun w1 k1 g1 => ?_
    have k1 : Blk w1 br #[.slice p (n - 1) (c - 1)] 23 := k1
    refine ⟨_, (e7.grown g1 (ne_some e9.2.1)).cell (i := 0) rfl rfl, _, _, _, k1.cell (i := 0) rfl rfl, _, rfl, ?_⟩
    refine do_st (e5.grown g1 (ne_some e9.2.2)) (i := 0) (by rw [Sh.add_add, add_blk]) (by simp) fun w2 k2 g2 => ?_
    have k2 : Blk w2 bd #[.slice p (n - 1) (c - 1), drN bp br, drL br] 145 := k2
    have G : Gd [bd, br] w w2 := ((gd_refl _ w).st g1 (.inr (by simp))).st g2 (.inr (by simp))
    have hpb' : ∀ a, p = some a → a.block < N ∧ a.block ≠ bd ∧ a.block ≠ br ∧ ∃ cs, Blk w2 a.block cs 75 := fun a ha => by
      obtain ⟨a0, h0, hb⟩ := hpb a ha
      have k := e4 a0 h0
      rw [hb]
      exact ⟨k.1, k.2.1, k.2.2.1, k.2.2.2.imp fun _ hx => hx.gd G (by simp [k.2.1, k.2.2.1])⟩
    refine h1 x t w2 rfl G ⟨⟨p, n - 1, c - 1, by simp at e1 ⊢; omega, by omega, ?_, hpb', k2, k1.grown g2 (ne_some (Ne.symm e9.2.2))⟩, (e7.grown g1 (ne_some e9.2.1)).grown g2 (ne_some e9.1), e8, e9⟩
    refine hp w2 (cs_gd e3 G fun a ha => ?_)
    have := e4 a ha
    simp only [List.mem_cons, List.not_mem_nil, or_false]
    omega
theorem c_dnext {p : Option Addr} {D : Option (Nat × Nat × Nat × Nat)} {ds : List Int} {key : Int} {w : World} {R : Ending → World → Prop} (hd : IsD p D ds w)
    (h : ∀ w', Gd (blksD D) w w' → IsD p D ds.tail w' → R (.returned (.int .u64 (headD ds key))) w') : Calls Tryz.prog 185 #[.pointer p, .int .i64 key] w R := by
  refine sh185_ok _ _ ?_
  unfold sh185
  intro K4
  have hK : ds = [] → K4 w := fun e => do_call Tryz.call83 (c_mixof fun w1 e1 => retS_ret ⟨_, rfl, by
    have := h w1 (gd_of e1) (by rw [e]; rw [e] at hd; exact hd.ext e1)
    rw [e] at this; exact this⟩)
  cases D with
  | none =>
    obtain ⟨rfl, e⟩ := hd
    exact ifB_f rfl (hK e)
  | some D =>
    obtain ⟨bd, bp, br, N⟩ := D
    obtain ⟨rfl, hd⟩ := hd
    obtain ⟨q, n, c, e1, e2, e3, e4, e5, e6⟩ := hd.ex
    refine ifB_t rfl ⟨_, rfl, _, _, _, e5.cell (i := 1) (add_blk _ _) rfl, ?_⟩
    refine do_dnext hd (fun e => retS_ret ⟨_, _, rfl, ifB_f rfl (hK e)⟩) fun x t w1 e g h1 => retS_ret ⟨_, _, rfl, ifB_t rfl ?_⟩
    subst e
    exact h w1 g ⟨rfl, h1⟩
theorem c_clone64 {l : List Int} {q : Option Addr} {n c : Nat} {w : World} {R : Ending → World → Prop} (hl : Cs w q (u64s l)) (hn : l.length = n) (hm : n ≤ 17592186044416)
    (h : ∀ p c' w', OwnU w' w.heap.size p n c' l → Ext w w' → R (.returned (.slice p n c')) w') : Calls Tryz.prog 169 #[.slice q n c] w R := by
  refine sh169_ok _ _ _ ?_
  unfold sh169
  cases q with
  | none =>
    have h0 := cs_u64_nil hl rfl
    subst h0
    have hn0 : n = 0 := by simpa using hn.symm
    subst hn0
    exact ifB_t rfl (h _ _ _ (World.ownsRow_nil _ _ _ _) (ext_refl w))
  | some a =>
    refine ifB_f rfl ⟨?_⟩
    have e1 := ext_alloc w (.cells #[] 75)
    have hr := World.ownsRow_lit (base := w.heap.size) (size := 1) (e := 75) w #[] 0 (Nat.le_refl _) (by simp [maxLen]) (by simp)
    refine do_append elU hr (news := u64s l) (hl.ext e1) (by rw [u64s_length]; omega) u64s_one (by simp only [maxLen]; omega) (by omega) e1.size fun p c' w' h1 h2 => retS_ret ⟨_, _, _, rfl, ?_⟩
    simp only [Nat.zero_add, List.nil_append] at h1 ⊢
    exact h p c' w' h1 (e1.grown h2 (by rintro _ ⟨⟩; exact Nat.le_refl _))
theorem c_dnew {ds : List Int} {q : Option Addr} {n c : Nat} {w : World} {R : Ending → World → Prop} (hl : Cs w q (u64s ds)) (hn : ds.length = n) (hm : n ≤ 17592186044416)
    (h : ∀ bd bp br w', Ext w w' → IsDr bd bp br w'.heap.size ds w' → w.heap.size ≤ bd → w.heap.size ≤ br → R (.returned (.pointer (some (blk bd)))) w') : Calls Tryz.prog 94 #[.slice q n c] w R := by
  refine sh94_ok _ _ _ ?_
  unfold sh94
  refine do_call Tryz.call169 (c_clone64 hl hn hm fun q1 c1 w1 o1 e1 => retS_ret ⟨_, _, _, rfl, ⟨?_⟩⟩)
  have hcs := Cs.of_row o1
  have hcap := row_cap o1
  have hblt : ∀ a, q1 = some a → w.heap.size ≤ a.block ∧ a.block < w1.heap.size := fun a ha => row_lt o1 ha
  have e2 := ext_alloc w1 (.cells #[.slice none 0 0] 23)
  have l1 := e1.size
  refine do_st (blk_alloc w1 _ _) (i := 0) (add_blk _ _) (by simp) fun w3 h3 g3 => ⟨?_⟩
  have h3 : Blk w3 w1.heap.size #[.slice q1 n c1] 23 := h3
  have E3 : Ext w1 w3 := e2.st g3 (Nat.le_refl _)
  have e4 := ext_alloc w3 (.cells #[.slice none 0 0, .nilFunc, .nilFunc] 145)
  have h4 := blk_alloc w3 #[.slice none 0 0, .nilFunc, .nilFunc] 145
  have l3 := h3.lt
  generalize hbd : w3.heap.size = bd at *
  generalize w3.alloc (.cells #[.slice none 0 0, .nilFunc, .nilFunc] 145) = w4 at *
  have l4 := h4.lt
  refine ⟨?_⟩
  have e5 := ext_alloc w4 (.cells #[.pointer none] 31)
  refine do_st (blk_alloc w4 _ _) (i := 0) (add_blk _ _) (by simp) fun w6 h6 g6 => ?_
  have h6 : Blk w6 w4.heap.size #[.pointer (some (blk bd))] 31 := h6
  have E6 : Ext w4 w6 := e5.st g6 (Nat.le_refl _)
  generalize hbp : w4.heap.size = bp at *
  have l6 := h6.lt
  refine ⟨_, h6.cell (i := 0) rfl rfl, _, rfl, ?_⟩
  have h4 := h4.ext E6
  have h3 := (h3.ext e4).ext E6
  generalize hbr : w1.heap.size = br at *
  refine do_st h4 (i := 2) (by rw [Sh.add_add, add_blk]) (by simp) fun w7 h7 g7 => ?_
  have h67 := h6.grown g7 (ne_some (by omega))
  have h37 := h3.grown g7 (ne_some (by omega))
  refine ⟨_, h67.cell (i := 0) rfl rfl, _, rfl, ?_⟩
  refine do_st h7 (i := 1) (by rw [Sh.add_add, add_blk]) (by simp) fun w8 h8 g8 => ?_
  have h68 := h67.grown g8 (ne_some (by omega))
  have h38 := h37.grown g8 (ne_some (by omega))
  refine ⟨_, h68.cell (i := 0) rfl rfl, _, _, _, h38.cell (i := 0) rfl rfl, _, rfl, ?_⟩
  refine do_st h8 (i := 0) (by rw [Sh.add_add, add_blk]) (by simp) fun w9 h9 g9 => ?_
  have h69 := h68.grown g9 (ne_some (by omega))
  have h39 := h38.grown g9 (ne_some (by omega))
  have h9 : Blk w9 bd #[.slice q1 n c1, drN bp br, drL br] 145 := h9
  refine ⟨_, h69.cell (i := 0) rfl rfl, ?_⟩
  have E9 : Ext w1 w9 := ((((E3.trans e4).trans E6).st g7 (by omega)).st g8 (by omega)).st g9 (by omega)
  have l9 : w1.heap.size ≤ w9.heap.size := E9.size
  have m1 := h9.lt
  have m2 := h69.lt
  have m3 := h39.lt
  refine h bd bp br w9 (e1.trans E9) ⟨⟨q1, n, c1, hn, hcap, hcs.ext E9, fun a ha => ?_, h9, h39⟩, h69, ⟨m1, m2, m3⟩, ⟨by omega, by omega, by omega⟩⟩ (by omega) (by omega)
  have := hblt a ha
  refine ⟨by omega, by omega, by omega, ?_⟩
  subst ha
  rcases o1.2 with ⟨hv, _⟩ | ⟨gg, cap, cur, hv, _, hblk, _⟩
  · cases hv
  · cases hv
    exact ⟨_, Blk.ext (cs := cur) hblk E9⟩
/-! ### the document's -/
structure IsRd (b M N : Nat) (ds : List Int) (w : World) : Prop where
  ex : ∃ q n c, ds.length = n ∧ n ≤ c ∧ Cs w q (u64s ds) ∧ (∀ a, q = some a → M ≤ a.block ∧ a.block < N ∧ a.block ≠ b) ∧ Blk w b #[.slice q n c] 128
  lt : M ≤ b ∧ b < N
theorem IsRd.gd {b M N : Nat} {ds : List Int} {S : List Nat} {w w' : World} (h : IsRd b M N ds w) (g : Gd S w w') (hS : ∀ k ∈ S, N ≤ k ∨ k < M) : IsRd b M N ds w' := by
  obtain ⟨⟨q, n, c, h1, h2, h3, h4, h5⟩, h6⟩ := h
  refine ⟨⟨q, n, c, h1, h2, cs_gd h3 g fun a ha hm => ?_, h4, h5.gd g fun hm => ?_⟩, h6⟩
  · have := h4 a ha
    have := hS _ hm
    omega
  · have := hS _ hm
    omega
theorem IsRd.ext {b M N : Nat} {ds : List Int} {w w' : World} (h : IsRd b M N ds w) (e : Ext w w') : IsRd b M N ds w' := h.gd (gd_of (S := []) e) fun k hk => by cases hk
end Go.Proofs.YtlddfgfmkapoiaaGreat

namespace Go.Proofs.YtlddfgfmkapoiaaGreat
open Go Go.Sh Go.RowKit

abbrev onB (b5 b7 : Nat) : Value := .func (.func 168) #[] #[.pointer (some (blk b5)), .pointer (some (blk b7))]
structure CapsB (w : World) (b5 b7 b : Nat) : Prop where
  s : Blk w b5 #[.pointer (some (blk b))] 25
  on : Blk w b7 #[onB b5 b7] 232
  ne : b5 ≠ b ∧ b7 ≠ b
theorem CapsB.gs {w w' : World} {b5 b7 b : Nat} (h : CapsB w b5 b7 b) (g : Gs b w w') : CapsB w' b5 b7 b := ⟨h.s.gs g h.ne.1, h.on.gs g h.ne.2, h.ne⟩
theorem half_eq {n : Nat} (h : n ≤ 1000000000000) : IntKind.wrap .i64 (Int.tdiv ((n : Nat) : Int) 2) = ((n / 2 : Nat) : Int) := by
  rw [Int.tdiv_eq_ediv_of_nonneg (by omega), wrap_of (by omega) (by omega)]; omega
set_option maxRecDepth 20000 in
theorem c_items1 {c : Int} {b b5 b7 : Nat} : ∀ (N : Nat) (l : List It) {q : Option Addr} {n cp : Nat} {w : World} {R : Ending → World → Prop} (_hN : l.length ≤ N) (_hc : CapsB w b5 b7 b) (_hs : IsSch c b w) (_hl : ∀ w', Gs b w w' → Cs w' q (its l)) (_hn : l.length = n) (_hnc : n ≤ cp) (_hB : n ≤ 1000000)
    (_h : ∀ q' w', Gs b w w' → IsSch c b w' → IsN w' q' (bldC c l) → R (.returned (.pointer q')) w'), doCall Tryz.prog (onB b5 b7) #[.slice q n cp] w R
  | N, l, q, n, cp, w, R, hN, hc, hs, hl, hn, hnc, hB, h => by
    refine do_callc Tryz.call168 (by rfl) (sh168_ok _ _ _ _ _ ?_)
    unfold sh168
    by_cases h0 : n = 0
    · have : l = [] := List.eq_nil_of_length_eq_zero (by omega)
      subst this
      subst h0
      exact ifB_t rfl (h none w (gs_refl _ _) hs (by rw [bldC_nil]; rfl))
    · refine ifB_f (by simp; omega) ⟨by decide, ?_⟩
      have hpos : 0 < l.length := by omega
      rw [half_eq (by omega)]
      have e2 : IntKind.wrap .i64 (((n / 2 : Nat) : Int) + 1) = ((n / 2 + 1 : Nat) : Int) := by rw [wrap_of (by omega) (by omega)]; omega
      rw [e2]
      have d := ext_drew w
      have hC0 : CapsB w.drew b5 b7 b ∧ Gs b w w.drew := ⟨hc.gs (gs_of d), gs_of d⟩
      have hlt : n / 2 < l.length := by omega
      have hbx := bldC_eq (c := c) hpos
      simp only [hn] at hbx
      rw [hbx] at h
      refine ⟨⟨fun w' => CapsB w' b5 b7 b ∧ Gs b w w', hC0, _, fun w' k => k.1.s.cell (i := 0) rfl rfl, _, _, _, fun w' k => k.1.on.cell (i := 0) rfl rfl, ?_⟩⟩
      refine sl_flat ecI_len (by omega) (hl _ hC0.2) hn hnc (a := 0) (b := n / 2) rfl rfl (by omega) (by omega) fun p1 hp1 => ?_
      refine ix_flatC ecI_len (by omega) (C := fun w' => CapsB w' b5 b7 b ∧ Gs b w w') (fun w' k => hl w' k.2) hC0 hn (k := n / 2) rfl (by omega) fun a r => ⟨(l[n / 2]).1, fun w' k => r w' k 0 _ rfl, (l[n / 2]).2.1, fun w' k => r w' k 1 _ rfl, (l[n / 2]).2.2, fun w' k => r w' k 2 _ rfl, _, _, _, fun w' k => k.1.on.cell (i := 0) rfl rfl, ?_⟩
      refine sl_flat ecI_len (by omega) (hl _ hC0.2) hn hnc (a := n / 2 + 1) (b := n) rfl rfl (by omega) (Nat.le_refl _) fun p2 hp2 => ?_
      have lA : (l.take (n / 2)).length = n / 2 := by rw [List.length_take]; omega
      have lB : (l.drop (n / 2 + 1)).length = n - (n / 2 + 1) := by rw [List.length_drop]; omega
      have tA : (l.take (n / 2)).drop 0 = l.take (n / 2) := rfl
      have tB : (l.take n).drop (n / 2 + 1) = l.drop (n / 2 + 1) := by rw [List.take_of_length_le (by omega)]
      rw [tA] at hp1
      rw [tB] at hp2
      have gd := gs_of (b := b) d
      refine c_items1 (N - 1) (l.take (n / 2)) (by omega) hC0.1 (hs.ext d) (fun w' g => hp1 w' (hl w' (gd.trans g))) (by omega) (by omega) (by omega) fun q1 w1 g1 hs1 h1 => retS_ret ⟨_, rfl, ⟨hC0.1.gs g1, gd.trans g1⟩, ?_⟩
      have G1 := gd.trans g1
      refine c_items1 (N - 1) (l.drop (n / 2 + 1)) (by omega) (hC0.1.gs g1) hs1 (fun w' g => hp2 w' (hl w' (G1.trans g))) (by omega) (by omega) (by omega) fun q2 w2 g2 hs2 h2 => retS_ret ⟨_, rfl, ⟨(hC0.1.gs g1).gs g2, G1.trans g2⟩, ?_⟩
      have s1 := bldC_ok hs.1 (l.take (n / 2))
      have s2 := bldC_ok hs.1 (l.drop (n / 2 + 1))
      have z1 := bldC_size hs.1 (l.take (n / 2))
      have z2 := bldC_size hs.1 (l.drop (n / 2 + 1))
      refine do_call Tryz.call106 (c_sjoin hs2 (h1.gs hs1 g2) h2 s1.1.1 s2.1.1 (by simp only [BIG]; omega) fun q3 w3 g3 hs3 h3 => retS_ret ⟨_, rfl, ⟨((hC0.1.gs g1).gs g2).gs g3, (G1.trans g2).trans g3⟩, ?_⟩)
      exact h _ _ ((G1.trans g2).trans g3) hs3 h3
  termination_by _ l => l.length
  decreasing_by all_goals omega
theorem c_bitems {c : Int} {b : Nat} {l : List It} {q : Option Addr} {n cp : Nat} {w : World} {R : Ending → World → Prop} (hs : IsSch c b w) (hl : ∀ w', Gs b w w' → Cs w' q (its l)) (hn : l.length = n) (hnc : n ≤ cp) (hB : n ≤ 1000000)
    (h : ∀ q' w', Gs b w w' → IsSch c b w' → IsN w' q' (bldC c l) → R (.returned (.pointer q')) w') : Calls Tryz.prog 93 #[.pointer (some (blk b)), .slice q n cp] w R := by
  refine sh93_ok _ _ _ _ ?_
  unfold sh93
  refine ⟨⟨?_⟩⟩
  have hlt := hs.lt
  have e0 := ext_alloc w (.cells #[.pointer (some (blk b))] 25)
  have h5 := blk_alloc w #[.pointer (some (blk b))] 25
  have n5 : w.heap.size ≠ b := by omega
  have l5 := h5.lt
  have k5 : w.heap.size ≤ w.heap.size := Nat.le_refl _
  generalize hb5 : w.heap.size = b5 at h5 n5 l5 k5 ⊢
  generalize w.alloc (.cells #[.pointer (some (blk b))] 25) = w1 at *
  have e1 := ext_alloc w1 (.cells #[.nilFunc] 232)
  refine do_st (blk_alloc w1 _ _) (i := 0) (add_blk _ _) (by simp) fun w2 h7 g2 => ?_
  have h7 : Blk w2 w1.heap.size #[onB b5 w1.heap.size] 232 := h7
  have e2 : Ext w1 w2 := e1.st g2 (Nat.le_refl _)
  have E2 := e0.trans e2
  refine ⟨_, _, _, h7.cell (i := 0) rfl rfl, ?_⟩
  exact c_items1 l.length l (Nat.le_refl _) ⟨h5.ext e2, h7, n5, by omega⟩ (hs.ext E2) (fun w' g => hl w' ((gs_of E2).trans g)) hn hnc hB fun q' w' g hs' h' => retS_ret ⟨_, rfl, h q' w' ((gs_of E2).trans g) hs' h'⟩
end Go.Proofs.YtlddfgfmkapoiaaGreat

namespace Go.Proofs.YtlddfgfmkapoiaaGreat
open Go Go.Sh Go.RowKit

theorem Gd.over {S T : List Nat} {w0 w1 w2 : World} (g : Gd S w0 w1) (k : Gd T w1 w2) (h : ∀ k ∈ T, k ∈ S ∨ w0.heap.size ≤ k) : Gd S w0 w2 :=
  ⟨k.1.trans g.1, k.2.1.trans g.2.1, k.2.2.1.trans g.2.2.1, Nat.le_trans g.size k.size, fun i hi hn => (k.2.2.2.2 i (Nat.lt_of_lt_of_le hi g.size) fun q => by
    rcases h i q with h | h
    · exact hn h
    · omega).trans (g.2.2.2.2 i hi hn)⟩
theorem gd_row {r : Option Nat} {w w' : World} (g : w.grownBy w' r) : Gd r.toList w w' := ⟨g.os, g.tape, g.output, World.grownBy.size g, fun k hk hn => g.block k hk fun e => hn (by rw [← e]; simp)⟩
theorem gd_one {k : Nat} {w w' : World} (g : w.grownBy w' (some k)) : Gd [k] w w' := gd_row g
abbrev tgF (bl bs bd : Nat) : Value := .func (.func 183) #[] #[.pointer (some (blk bl)), .pointer (some (blk bs)), .pointer (some (blk bd))]
theorem c_tagged {s p q : Option Addr} {n cp : Nat} {w : World} {R : Ending → World → Prop}
    (h : ∀ bs bd bl w', Ext w w' → w.heap.size ≤ bs → bs < bd → bd < bl → Blk w' bs #[.pointer s] 25 → Blk w' bd #[.pointer p] 31 → Blk w' bl #[.slice q n cp] 22 → R (.returned (tgF bl bs bd)) w') :
    Calls Tryz.prog 102 #[.pointer s, .pointer p, .slice q n cp] w R := by
  refine sh102_ok _ _ _ _ _ ?_
  unfold sh102
  refine ⟨⟨⟨?_⟩⟩⟩
  have e0 := ext_alloc w (.cells #[.pointer s] 25)
  have h0 := blk_alloc w #[.pointer s] 25
  have l0 := h0.lt
  generalize hw1 : w.alloc (.cells #[.pointer s] 25) = w1 at *
  have e1 := ext_alloc w1 (.cells #[.pointer p] 31)
  have h1 := blk_alloc w1 #[.pointer p] 31
  have l1 := h1.lt
  generalize hw2 : w1.alloc (.cells #[.pointer p] 31) = w2 at *
  have e2 := ext_alloc w2 (.cells #[.slice q n cp] 22)
  exact h _ _ _ _ ((e0.trans e1).trans e2) (Nat.le_refl _) l0 l1 ((h0.ext e1).ext e2) (h1.ext e2) (blk_alloc _ _ _)
/-- what stays while a row is gone over -/
structure RowJ (c : Int) (b : Nat) (S : List Nat) (w0 : World) (bs bd bl d : Nat) (p q : Option Addr) (n cp : Nat) (w : World) : Prop where
  gd : Gd S w0 w
  sch : IsSch c b w
  fs : Blk w bs #[.pointer (some (blk b))] 25
  fd : Blk w bd #[.pointer p] 31
  fl : Blk w bl #[.slice q n cp] 22
  df : w.heap[d]? = some (.deferred (some []))
theorem RowJ.go {c : Int} {b : Nat} {S T : List Nat} {w0 : World} {bs bd bl d : Nat} {p q : Option Addr} {n cp : Nat} {w w' : World} (h : RowJ c b S w0 bs bd bl d p q n cp w) (g : Gd T w w')
    (hT : ∀ k ∈ T, k ≠ b ∧ k ≠ bs ∧ k ≠ bd ∧ k ≠ bl ∧ k ≠ d ∧ (k ∈ S ∨ w0.heap.size ≤ k)) : RowJ c b S w0 bs bd bl d p q n cp w' :=
  ⟨h.gd.over g fun k hk => (hT k hk).2.2.2.2.2, h.sch.gd g fun hk => (hT _ hk).1 rfl, h.fs.gd g fun hk => (hT _ hk).2.1 rfl, h.fd.gd g fun hk => (hT _ hk).2.2.1 rfl, h.fl.gd g fun hk => (hT _ hk).2.2.2.1 rfl, heap_gd h.df g fun hk => (hT _ hk).2.2.2.2.1 rfl⟩
theorem RowJ.ext {c : Int} {b : Nat} {S : List Nat} {w0 : World} {bs bd bl d : Nat} {p q : Option Addr} {n cp : Nat} {w w' : World} (h : RowJ c b S w0 bs bd bl d p q n cp w) (e : Ext w w') : RowJ c b S w0 bs bd bl d p q n cp w' :=
  h.go (gd_of (S := []) e) fun k hk => by cases hk
set_option maxRecDepth 20000 in
set_option maxHeartbeats 1600000 in
theorem c_brow {c o : Int} {b : Nat} {p : Option Addr} {D : Option (Nat × Nat × Nat × Nat)} {ds : List Int} {l : List Pr} {q : Option Addr} {n cp : Nat} {w : World} {R : Ending → World → Prop} (hs : IsSch c b w) (hd : IsD p D ds w) (hN : topD D ≤ w.heap.size)
    (hl : ∀ w', Gd (b :: blksD D) w w' → Cs w' q (prs l)) (hn : l.length = n) (hB : n ≤ 1000000) (hI : InP l) (hm : mayR o l = true)
    (h : ∀ qt w', Gd (b :: blksD D) w w' → IsSch c b w' → IsD p D (restL c ds l) w' → IsN w' qt (bldC c (tagL c ds l)) → R (.returned (.tuple #[.pointer qt, .int .i64 0])) w') :
    Calls Tryz.prog 32 #[.pointer (some (blk b)), .int .u8 o, .pointer p, .slice q n cp] w R := by
  refine sh32_ok _ _ _ _ _ _ ?_
  unfold sh32
  intro K13 _
  refine ifB_f rfl (do_call Tryz.call101 (c_may (hl w (gd_refl _ _)) hn (by omega) hI fun w1 e1 => retS_ret ⟨_, rfl, ?_⟩))
  rw [hm]
  refine ifB_f rfl ?_
  simp -zeta -zetaHave only [K13]
  refine ⟨?_⟩
  have e2 := ext_alloc w1 (.cells #[.slice none 0 0] 40)
  have ha := blk_alloc w1 #[.slice none 0 0] 40
  have l1 := e1.size
  have la := ha.lt
  generalize hba : w1.heap.size = ba at *
  generalize w1.alloc (.cells #[.slice none 0 0] 40) = w2 at *
  refine do_call Tryz.call102 (c_tagged fun bs bd bl w3 e3 hbs hsd hdl h1 h2 h3 => retS_ret ⟨_, _, _, rfl, do_rf fun fn L w4 d hdd hL hst hpe e4 hd4 hl4 => ?_⟩)
  have m3 := h3.lt
  have m4 := e4.size
  have E14 := (e2.trans e3).trans e4
  have E4 := e1.trans E14
  have hslt := hs.lt
  have hDlt := hd.lt
  have hbD := hd.sch hs
  have hdlt : d + 1 < w4.heap.size := (Array.getElem?_eq_some_iff.1 hl4).1
  have J4 : RowJ c b (b :: blksD D) w bs bd bl d p q n cp w4 := ⟨gd_of E4, hs.ext E4, h1.ext e4, h2.ext e4, h3.ext e4, hd4⟩
  have hD4 := hd.ext E4
  have ha4 := (ha.ext e3).ext e4
  rw [← hdd]
  -- what is changed beside a row: fresh blocks, the record, what holds all
  have fresh : ∀ {T : List Nat}, (∀ k ∈ T, k = ba ∨ k = d + 1 ∨ w4.heap.size ≤ k) → ∀ k ∈ T, k ≠ b ∧ k ≠ bs ∧ k ≠ bd ∧ k ≠ bl ∧ k ≠ d ∧ (k ∈ (b :: blksD D) ∨ w.heap.size ≤ k) := fun hT k hk => by
    have := hT k hk
    exact ⟨by omega, by omega, by omega, by omega, by omega, .inr (by omega)⟩
  have top : ∀ {T : List Nat}, (∀ k ∈ T, k = ba ∨ k = d + 1 ∨ w4.heap.size ≤ k) → ∀ k ∈ T, topD D ≤ k := fun hT k hk => by
    have := hT k hk
    omega
  have drw : ∀ k ∈ blksD D, k ≠ b ∧ k ≠ bs ∧ k ≠ bd ∧ k ≠ bl ∧ k ≠ d ∧ (k ∈ (b :: blksD D) ∨ w.heap.size ≤ k) := fun k hk => by
    have := (hDlt k hk).1
    exact ⟨fun e => hbD (e ▸ hk), by omega, by omega, by omega, by omega, .inl (List.mem_cons_of_mem _ hk)⟩
  have drwB : ∀ k ∈ blksD D, k < w.heap.size := fun k hk => (hDlt k hk).1
  refine callE_c Tryz.call183 (by rfl) (sh183_ok _ _ _ _ _ _ ?_)
  unfold sh183
  refine ⟨_, _, _, J4.fl.cell (i := 0) rfl rfl, fun vs w' => ∃ (i : Nat) (qq : Option Addr) (nn cc : Nat), vs = [.int .i64 i] ∧ i ≤ n ∧ RowJ c b (b :: blksD D) w bs bd bl d p q n cp w' ∧ IsD p D (restL c ds (l.take i)) w' ∧ Blk w' ba #[.slice qq nn cc] 40 ∧ OwnI w' w4.heap.size qq nn cc (tagL c ds (l.take i)) ∧ w'.heap[d + 1]? = some (.loop L) ∧ w4.heap.size ≤ w'.heap.size,
    fun vs _ => n - (intOf (vs.getD 0 undef)).toNat, ⟨0, none, 0, 0, rfl, by omega, J4, ?_, ha4, ?_, hl4, Nat.le_refl _⟩, ?_⟩
  · have : restL c ds (l.take 0) = ds := by unfold restL; simp
    rw [this]; exact hD4
  · rw [List.take_zero, tagL_nil]; exact ownI_nil _ _
  rintro i j w5 ⟨m, qq, nn, cc, hv, hmn, J5, hD5, ha5, ho5, hl5, hsz5⟩
  simp only [List.cons.injEq, Value.int.injEq, and_true, true_and] at hv
  subst hv
  refine ifB_intro (fun hlt => ?_) fun hge => ?_
  · have hlt : m < n := by have := of_decide_eq_true hlt; omega
    have hml : m < l.length := by omega
    refine ix_pr (hl w5 J5.gd) hn rfl hlt fun a r1 r2 _ => ⟨_, r1, _, r2, ⟨?_⟩⟩
    -- the pair, and the item
    have e6 := ext_alloc w5 (.cells #[.int .i64 0, .int .i64 0] 46)
    refine do_st2 (blk_alloc w5 _ _) fun w6 h6 g6 => ?_
    have E6 : Ext w5 w6 := e6.st g6 (Nat.le_refl _)
    have l6 := h6.lt
    generalize hbx : w5.heap.size = bx at *
    refine ⟨_, h6.cell (i := 0) (add_blk _ _) rfl, _, h6.cell (i := 1) (add_blk _ _) rfl, ⟨?_⟩⟩
    have e7 := ext_alloc w6 (.cells #[.int .i64 0, .int .i64 0, .int .u64 0] 114)
    refine do_st3 (blk_alloc w6 _ _) fun w7 h7 g7 => ?_
    have E7 : Ext w6 w7 := e7.st g7 (Nat.le_refl _)
    have l7 := h7.lt
    have l67 := E7.size
    generalize hby : w6.heap.size = by_ at *
    have E57 := E6.trans E7
    have h67 := h6.ext E7
    intro K30
    have J7 := J5.ext E57
    have hD7 := hD5.ext E57
    have ha7 := ha5.ext E57
    have ho7 : OwnI w7 w4.heap.size qq nn cc (tagL c ds (l.take m)) := E57.row ho5
    have hl7 := E57.heap hl5
    have hnn : nn ≤ 1000000 := by
      have := ownI_len ho5
      rw [tagL_len, List.length_take] at this; omega
    -- behind the tag
    have hK : ∀ (g : Int) w8, Blk w8 by_ #[.int .i64 (l[m]).1, .int .i64 (l[m]).2, .int .u64 g] 114 → RowJ c b (b :: blksD D) w bs bd bl d p q n cp w8 → IsD p D (restL c ds (l.take (m + 1))) w8 → Blk w8 ba #[.slice qq nn cc] 40 → OwnI w8 w4.heap.size qq nn cc (tagL c ds (l.take m)) → w8.heap[d + 1]? = some (.loop L) → w4.heap.size ≤ w8.heap.size →
        tagL c ds (l.take (m + 1)) = tagL c ds (l.take m) ++ [((l[m]).1, (l[m]).2, g)] → K30 w8 := by
      intro g w8 h8 J8 hD8 ha8 ho8 hl8 hsz8 htg
      refine ⟨_, h8.cell (i := 0) (add_blk _ _) rfl, _, h8.cell (i := 1) (add_blk _ _) rfl, _, h8.cell (i := 2) (add_blk _ _) rfl, ?_⟩
      refine sh32_0_ok (by rw [hl8, hL]) ?_
      unfold sh32_0
      refine ⟨?_⟩
      have e9 := ext_alloc w8 (.cells #[.int .i64 0, .int .i64 0, .int .u64 0] 114)
      refine do_st3 (blk_alloc w8 _ _) fun w9 h9 g9 => ?_
      have E9 : Ext w8 w9 := e9.st g9 (Nat.le_refl _)
      have l89 := E9.size
      have l9 := h9.lt
      refine ⟨_, E9.heap hl8, hst, ?_⟩
      have g10 := put_grown w9 (d + 1) (.loop { L with state := .busy })
      have hl10 := put_heap (o' := .loop { L with state := .busy }) (E9.heap hl8)
      have G10 := gd_one g10
      have T1 : ∀ k ∈ [d + 1], k = ba ∨ k = d + 1 ∨ w4.heap.size ≤ k := fun k hk => by simp at hk; omega
      have J10 := (J8.ext E9).go G10 (fresh T1)
      have hD10 := (hD8.ext E9).gd G10 (top T1)
      have ha10 := (ha8.ext E9).gd G10 (by simp; omega)
      have ho10 : OwnI (w9.putObj (d + 1) (.loop { L with state := .busy })) w4.heap.size qq nn cc (tagL c ds (l.take m)) := row_gd (E9.row ho8) G10 (by simp; omega)
      have h910 := h9.gd G10 (by simp; omega)
      have sz10 : w9.heap.size ≤ (w9.putObj (d + 1) (.loop { L with state := .busy })).heap.size := G10.size
      generalize w9.putObj (d + 1) (.loop { L with state := .busy }) = w10 at *
      refine ⟨_, _, _, ha10.cell (i := 0) rfl rfl, _, h910.cell (i := 0) (add_blk _ _) rfl, _, h910.cell (i := 1) (add_blk _ _) rfl, _, h910.cell (i := 2) (add_blk _ _) rfl, ?_⟩
      refine do_app1I (x := ((l[m]).1, (l[m]).2, g)) ho10 (by omega) (by omega) fun q11 c11 w11 ho11 hx11 g11 hor => ⟨_, _, _, rfl, ?_⟩
      have G11 := gd_row g11
      have T2 : ∀ k ∈ (Value.slice qq nn cc).ownBlock.toList, k = ba ∨ k = d + 1 ∨ w4.heap.size ≤ k := fun k hk => by
        have hk : (Value.slice qq nn cc).ownBlock = some k := by simpa using hk
        exact .inr (.inr (World.ownsRow.lt ho10 k hk).1)
      have N2 : ∀ k, k < w4.heap.size → k ∉ (Value.slice qq nn cc).ownBlock.toList := fun k hk hm => by
        have hm : (Value.slice qq nn cc).ownBlock = some k := by simpa using hm
        have := (World.ownsRow.lt ho10 k hm).1
        omega
      have J11 := J10.go G11 (fresh T2)
      have hD11 := hD10.gd G11 (top T2)
      have ha11 := ha10.gd G11 (N2 _ (by omega))
      have hl11 := heap_gd hl10 G11 (N2 _ (by omega))
      have l11 := G11.size
      refine do_st ha11 (i := 0) (add_blk _ _) (by simp) fun w12 ha12 g12 => ?_
      have ha12 : Blk w12 ba #[.slice q11 (nn + 1) c11] 40 := ha12
      have G12 := gd_one g12
      have T3 : ∀ k ∈ [ba], k = ba ∨ k = d + 1 ∨ w4.heap.size ≤ k := fun k hk => by simp at hk; omega
      have J12 := J11.go G12 (fresh T3)
      have hD12 := hD11.gd G12 (top T3)
      have ho12 : OwnI w12 w4.heap.size q11 (nn + 1) c11 (tagL c ds (l.take m) ++ [((l[m]).1, (l[m]).2, g)]) := row_gd ho11 G12 (by simp; omega)
      have hl12 := heap_gd hl11 G12 (by simp; omega)
      have l12 := G12.size
      refine ⟨_, hl12, ?_⟩
      rw [rec_back hst hpe]
      have g13 := put_grown w12 (d + 1) (.loop L)
      have G13 := gd_one g13
      have l13 := G13.size
      refine retS_ret ⟨_, rfl, ifB_f rfl ⟨⟨m + 1, q11, nn + 1, c11, ?_, by omega, J12.go G13 (fresh T1), hD12.gd G13 (top T1), ha12.gd G13 (by simp; omega), ?_, put_heap hl12, by omega⟩, ?_⟩⟩
      · rw [wrap_succ hlt (by omega)]
      · rw [htg]
        exact row_gd ho12 G13 (by simp; omega)
      · rw [wrap_succ hlt (by omega)]
        simp [intOf]; omega
    refine ⟨_, J7.fs.cell (i := 0) rfl rfl, ?_⟩
    refine do_call Tryz.call184 (c_scode J7.sch (retS_ret ⟨_, rfl, ?_⟩))
    refine ifB_intro (fun h4 => ?_) fun h4 => ?_
    · have h4 : c = 4 := by simpa using h4
      refine ⟨_, J7.fd.cell (i := 0) rfl rfl, _, h67.cell (i := 0) (add_blk _ _) rfl, ?_⟩
      refine do_call Tryz.call185 (c_dnext hD7 fun w8 G8 hD8 => retS_ret ⟨_, rfl, ?_⟩)
      have l8 := G8.size
      have nD : ∀ {k : Nat}, w.heap.size ≤ k → k ∉ blksD D := fun hk hm => by have := drwB _ hm; omega
      have h78 := h7.gd G8 (nD (by omega))
      refine do_st h78 (i := 2) (by rw [Sh.add_add, add_blk]) (by simp) fun w9 h9 g9 => ?_
      have G9 := gd_one g9
      have T4 : ∀ k ∈ [by_], k = ba ∨ k = d + 1 ∨ w4.heap.size ≤ k := fun k hk => by simp at hk; omega
      have l9 := G9.size
      refine hK (headD (restL c ds (l.take m)) (l[m]).1) w9 h9 ((J7.go G8 drw).go G9 (fresh T4)) ?_ ((ha7.gd G8 (nD (by omega))).gd G9 (by simp; omega)) ?_ (heap_gd (heap_gd hl7 G8 (nD (by omega))) G9 (by simp; omega)) (by omega) ?_
      · rw [restL_take hml, if_pos h4]
        exact hD8.gd G9 (top T4)
      · have k1 : OwnI w8 w4.heap.size qq nn cc (tagL c ds (l.take m)) := row_gd ho7 G8 fun k hk => by have := drwB k hk; omega
        -- the item's own block is no row's
        refine World.ownsRow.kept k1 g9 ?_
        cases hq : (Value.slice qq nn cc).ownBlock with
        | none => exact .inl rfl
        | some k =>
          refine .inr fun e => ?_
          have := (World.ownsRow.lt ho5 k hq).2
          injection e with e
          omega
      · rw [tagL_take hml, if_pos h4]
    · have h4 : c ≠ 4 := by simpa using h4
      refine hK 0 w7 h7 J7 ?_ ha7 ho7 hl7 (by omega) ?_
      · rw [restL_take hml, if_neg h4]; exact hD7
      · rw [tagL_take hml, if_neg h4]
  · have hge : m = n := by have := of_decide_eq_false hge; omega
    subst hge
    rw [List.take_of_length_le (by omega)] at hD5 ho5
    refine rf_done hl5 (by rw [hst]; simp) hpe fun oo => ?_
    have g6 := put_grown w5 (d + 1) oo
    have G6 := gd_one g6
    have T1 : ∀ k ∈ [d + 1], k = ba ∨ k = d + 1 ∨ w4.heap.size ≤ k := fun k hk => by simp at hk; omega
    have J6 := J5.go G6 (fresh T1)
    have hD6 := hD5.gd G6 (top T1)
    have ha6 := ha5.gd G6 (by simp; omega)
    have ho6 : OwnI (w5.putObj (d + 1) oo) w4.heap.size qq nn cc (tagL c ds l) := row_gd ho5 G6 (by simp; omega)
    have l56 := G6.size
    generalize w5.putObj (d + 1) oo = w6 at *
    have hlen := ownI_len ho6
    rw [tagL_len] at hlen
    refine ⟨_, _, _, ha6.cell (i := 0) rfl rfl, ?_⟩
    refine do_call Tryz.call93 (c_bitems J6.sch (fun w' g => ownI_cs (row_gd (S := [b]) ho6 (gd_gs g (by simp)) (by simp; omega))) (by rw [tagL_len]; exact hlen) (row_cap ho6) (by omega) fun q7 w7 g7 hs7 h7 => retS_ret ⟨_, rfl, ?_⟩)
    have hd7 := heap_grown g7 J6.df (ne_some (by omega))
    refine ⟨hd7, ?_⟩
    have g8 := put_grown w7 d (.deferred none)
    have G8 := gd_one g8
    have l7 := World.grownBy.size g7
    have G7 : Gd (b :: blksD D) w w7 := J6.gd.trans (gd_gs g7 (by simp))
    refine h q7 _ (G7.over G8 fun k hk => .inr (by simp at hk; omega)) (hs7.gd G8 (by simp; omega)) ((hD6.gs J6.sch g7).gd G8 fun k hk => by simp at hk; omega) (h7.gd ?_ G8)
    intro k hk cs hb
    simp only [List.mem_cons, List.not_mem_nil, or_false] at hk
    subst hk
    unfold Blk at hb
    rw [hd7] at hb
    cases hb
end Go.Proofs.YtlddfgfmkapoiaaGreat

namespace Go.Proofs.YtlddfgfmkapoiaaGreat
open Go Go.Sh Go.RowKit

/-! ### Plain: sorted, stable -/
theorem cmp_lt {o a b : Int} (ho : isO o = true) : cmpI o a b < 0 ↔ codeI o a < codeI o b := by
  have ho' : 1 ≤ o ∧ o ≤ 7 := by simpa [isO] using ho
  unfold cmpI
  rw [if_pos ho']
  split
  · exact ⟨fun _ => by assumption, fun _ => by omega⟩
  · split <;> omega
abbrev Srt (o : Int) (l : List Pr) : Prop := l.Pairwise fun a b => codeI o a.1 ≤ codeI o b.1
def Stab (M L : List Pr) : Prop := ∀ k : Int, M.filter (fun x => x.1 == k) = L.filter (fun x => x.1 == k)
theorem Stab.refl (L : List Pr) : Stab L L := fun _ => rfl
theorem Stab.trans {A B C : List Pr} (h : Stab A B) (k : Stab B C) : Stab A C := fun i => (h i).trans (k i)
theorem Stab.app {A B C D : List Pr} (h : Stab A B) (k : Stab C D) : Stab (A ++ C) (B ++ D) := fun i => by rw [List.filter_append, List.filter_append, h i, k i]
theorem Stab.mem {A B : List Pr} (h : Stab A B) (x : Pr) : x ∈ A ↔ x ∈ B := by
  have : ∀ C : List Pr, x ∈ C ↔ x ∈ C.filter (fun y => y.1 == x.1) := fun C => by simp [List.mem_filter]
  rw [this A, this B, h x.1]
theorem filter_none' {p : Pr → Bool} {l : List Pr} (h : ∀ x ∈ l, p x = false) : l.filter p = [] := by
  rw [List.filter_eq_nil_iff]; intro x hx; simp [h x hx]
/-- two parts that have no key in common may be turned -/
theorem stab_swap {o : Int} {A B : List Pr} (h : ∀ a ∈ A, ∀ b ∈ B, codeI o b.1 < codeI o a.1) : Stab (B ++ A) (A ++ B) := fun k => by
  rw [List.filter_append, List.filter_append]
  by_cases hk : ∃ a ∈ A, a.1 = k
  · obtain ⟨a, ha, rfl⟩ := hk
    rw [filter_none' (l := B) fun b hb => by
      have := h a ha b hb
      cases hq : (b.1 == a.1)
      · rfl
      · have e : b.1 = a.1 := by simpa using hq
        rw [e] at this; omega]
    simp
  · rw [filter_none' (l := A) fun a ha => by
      cases hq : (a.1 == k)
      · rfl
      · exact absurd ⟨a, ha, by simpa using hq⟩ hk]
    simp
theorem srt_app {o : Int} {A B : List Pr} : Srt o (A ++ B) ↔ Srt o A ∧ Srt o B ∧ ∀ a ∈ A, ∀ b ∈ B, codeI o a.1 ≤ codeI o b.1 := List.pairwise_append
theorem srt_get {o : Int} {l : List Pr} (h : Srt o l) {i j : Nat} (hij : i ≤ j) (hj : j < l.length) : codeI o l[i].1 ≤ codeI o l[j].1 := by
  rcases Nat.lt_or_ge i j with h1 | h1
  · exact List.pairwise_iff_getElem.1 h i j (by omega) hj h1
  · have : i = j := by omega
    subst this; exact Int.le_refl _
/-! ### Swaps -/
theorem set_mid {α : Type} {U V : List α} {x y : α} {i : Nat} (hi : i = U.length) : (U ++ x :: V).set i y = U ++ y :: V := by
  subst hi
  rw [List.set_append_right _ _ (Nat.le_refl _), Nat.sub_self]; rfl
theorem own_st {l : List Pr} {p : Option Addr} {n c base k : Nat} {w : World} (ho : OwnP w base p n c l) (hk : k < n) {a : Addr} (ha : ∃ b, p = some b ∧ a = b.add (k * 2)) {u v : Int} {K : World → Prop}
    (h : ∀ w', OwnP w' base p n c (l.set k (u, v)) → w.grownBy w' (Value.slice p n c).ownBlock → K w') : doSt (a.add 0) (.int .i64 u) w fun w1 => doSt (a.add 1) (.int .i64 v) w1 K := by
  obtain ⟨b, hb, rfl⟩ := ha
  have hl := ownP_len ho
  rcases ownP_open ho with ⟨hp, hn0, _⟩ | ⟨g, cur, hp, hbg, hg, _, hcm, hcl, hct⟩
  · omega
  subst hp; cases hb
  rw [add_zero', add_add]
  have ea : (⟨g, 0, none⟩ : Addr).add (k * 2) = ⟨g, k * 2, none⟩ := add_blk g _
  have eb : (⟨g, 0, none⟩ : Addr).add (k * 2 + 1) = ⟨g, k * 2 + 1, none⟩ := add_blk g _
  rw [ea, eb]
  have hs := ho.stored (k * 2) (.int .i64 u)
  rw [prs_set1 (by omega)] at hs
  refine ⟨⟨_, by rw [ho.cellAt _ (by omega)]; exact List.getElem?_eq_getElem (by simp; omega)⟩, ho.frozenAt _, ?_⟩
  have ho1 : OwnP (w.setCell ⟨g, k * 2, none⟩ (.int .i64 u)) base (some ⟨g, 0, none⟩) n c (l.set k (u, (l[k]'(by omega)).2)) := hs.1
  have hs1 := ho1.stored (k * 2 + 1) (.int .i64 v)
  rw [prs_set2 (by simp; omega)] at hs1
  refine ⟨⟨_, by rw [ho1.cellAt _ (by omega)]; exact List.getElem?_eq_getElem (by simp; omega)⟩, ho1.frozenAt _, h _ ?_ (grown_trans hs.2 hs1.2)⟩
  have := hs1.1
  simp only [List.getElem_set_self, List.set_set] at this
  exact this
theorem do_swap {l : List Pr} {p : Option Addr} {n c B : Nat} {w : World} (ho : OwnP w B p n c l) {iX iY : Int} {x y : Nat} (hX : iX = (x : Int)) (hY : iY = (y : Int)) (hx : x < n) (hy : y < n) {K : World → Prop}
    (k : ∀ w', OwnP w' B p n c ((l.set x (l[y]'(by rw [ownP_len ho]; exact hy))).set y (l[x]'(by rw [ownP_len ho]; exact hx))) → w.grownBy w' (Value.slice p n c).ownBlock → K w') :
    doDr w (fun w16 => ∃ (C15 : World → Prop), C15 w16 ∧ (doIx p n 2 iY (fun a17 => ∃ (x18 : Int), (∀ w, C15 w → World.cell? w (a17.add 0) = some (.int .i64 x18)) ∧ (∃ (x19 : Int), (∀ w, C15 w → World.cell? w (a17.add 1) = some (.int .i64 x19)) ∧ (
      doIx p n 2 iX (fun a20 => ∃ (x21 : Int), (∀ w, C15 w → World.cell? w (a20.add 0) = some (.int .i64 x21)) ∧ (∃ (x22 : Int), (∀ w, C15 w → World.cell? w (a20.add 1) = some (.int .i64 x22)) ∧ (
      doIx p n 2 iX (fun a23 => doSt (a23.add 0) (.int .i64 x18) w16 (fun w24 => doSt (a23.add 1) (.int .i64 x19) w24 (fun w25 =>
      doIx p n 2 iY (fun a26 => doSt (a26.add 0) (.int .i64 x21) w25 (fun w27 => doSt (a26.add 1) (.int .i64 x22) w27 K))))))))))))) := by
  have hl := ownP_len ho
  have ho1 : OwnP w.drew B p n c l := row_to ho (ext_drew w) (Nat.le_refl _)
  refine ⟨⟨fun w' => w' = w.drew, rfl, ?_⟩⟩
  have hC : ∀ w', w' = w.drew → Cs w' p (prs l) := fun w' e => by subst e; exact ownP_cs ho1
  refine ix_prC hC rfl hl hY hy fun a r1 r2 => ⟨_, r1, _, r2, ?_⟩
  refine ix_prC hC rfl hl hX hx fun a r3 r4 => ⟨_, r3, _, r4, ?_⟩
  refine ix_pr (ownP_cs ho1) hl hX hx fun a _ _ ha => ?_
  refine own_st ho1 hx ha fun w2 ho2 g2 => ?_
  refine ix_pr (ownP_cs ho2) (by simp [hl]) hY hy fun a _ _ ha => ?_
  refine own_st ho2 hy ha fun w3 ho3 g3 => ?_
  exact k w3 ho3 (grown_trans (grown_trans (grown_drew w _) g2) g3)
/-- in a row that is parted at two elements -/
theorem swap_lists {U V W : List Pr} {a b : Pr} {x y : Nat} (hx : x = U.length) (hy : y = U.length + 1 + V.length) :
    ∀ (h1 : x < (U ++ a :: (V ++ b :: W)).length) (h2 : y < (U ++ a :: (V ++ b :: W)).length), ((U ++ a :: (V ++ b :: W)).set x (U ++ a :: (V ++ b :: W))[y]).set y (U ++ a :: (V ++ b :: W))[x] = U ++ b :: (V ++ a :: W) ∧
      ((U ++ a :: (V ++ b :: W)).set y (U ++ a :: (V ++ b :: W))[x]).set x (U ++ a :: (V ++ b :: W))[y] = U ++ b :: (V ++ a :: W) := by
  intro h1 h2
  have e1 : (U ++ a :: (V ++ b :: W))[x] = a := by
    subst hx; simp
  have e2 : (U ++ a :: (V ++ b :: W))[y] = b := by
    subst hy
    rw [List.getElem_append_right (by omega)]
    simp only [show U.length + 1 + V.length - U.length = V.length + 1 by omega, List.getElem_cons_succ]
    rw [List.getElem_append_right (Nat.le_refl _)]
    simp
  have e3 : ∀ (a b c : Pr), (U ++ a :: (V ++ b :: W)).set y c = U ++ a :: (V ++ c :: W) := fun a b c => by
    have := set_mid (U := U ++ a :: V) (V := W) (x := b) (y := c) (i := y) (by simp; omega)
    simpa using this
  have e4 : ∀ (a b c : Pr), (U ++ a :: (V ++ b :: W)).set x c = U ++ c :: (V ++ b :: W) := fun a b c => set_mid hx
  rw [e1, e2]
  exact ⟨by rw [e4, e3], by rw [e3, e4]⟩
/-- the state of a sort: a row of one's own, and all that was there before it -/
structure Rw (w0 : World) (B : Nat) (p : Option Addr) (n c : Nat) (w : World) (l : List Pr) : Prop where
  own : OwnP w B p n c l
  ext : Ext w0 w
  keys : ∀ x ∈ l, In x.1
theorem Rw.len {w0 : World} {B : Nat} {p : Option Addr} {n c : Nat} {w : World} {l : List Pr} (h : Rw w0 B p n c w l) : l.length = n := ownP_len h.own
/-- what the comparing function does -/
def Cmp (o : Int) (w0 : World) (f : Fn) (fx fc : Array Value) : Prop := ∀ (x y : Pr), In x.1 → In y.1 → ∀ w, Ext w0 w → ∀ R : Ending → World → Prop, (∀ w', Ext w w' → R (.returned (.int .i64 (cmpI o x.1 y.1))) w') → doCall Tryz.prog (.func f fx fc) #[agP x, agP y] w R
theorem c_swapRange {w0 : World} {B : Nat} {p : Option Addr} {n c : Nat} {f : Fn} {fx fc : Array Value} (hB : w0.heap.size ≤ B) (hm : n ≤ 1000000000000) {L A M Bq S : List Pr} {a b k : Nat} {w : World} {R : Ending → World → Prop}
    (hw : Rw w0 B p n c w (L ++ (A ++ (M ++ (Bq ++ S))))) (hA : A.length = k) (hBq : Bq.length = k) (ha : a = L.length) (hb : b = L.length + k + M.length)
    (h : ∀ w', Rw w0 B p n c w' (L ++ (Bq ++ (M ++ (A ++ S)))) → R (.returned (.tuple #[])) w') :
    Calls Tryz.prog 345 #[.slice p n c, .int .i64 (a : Nat), .int .i64 (b : Nat), .int .i64 (k : Nat), .func f fx fc] w R := by
  refine sh345_ok _ _ _ _ _ _ _ _ _ ?_
  unfold sh345
  have hlen := hw.len
  simp only [List.length_append] at hlen
  refine ⟨fun vs w' => ∃ t : Nat, vs = [.int .i64 t] ∧ t ≤ k ∧ Rw w0 B p n c w' (L ++ ((Bq.take t ++ A.drop t) ++ (M ++ ((A.take t ++ Bq.drop t) ++ S)))), fun vs _ => k - (intOf (vs.getD 0 undef)).toNat, ⟨0, rfl, by omega, by simpa using hw⟩, ?_⟩
  rintro i _ w1 ⟨t, hv, htk, hr⟩
  simp only [List.cons.injEq, Value.int.injEq, true_and, and_true] at hv
  subst hv
  refine ifB_intro (fun hlt => ?_) fun hge => ?_
  · have hlt : t < k := by have := of_decide_eq_true hlt; omega
    have hAt : A.drop t = (A[t]'(by omega)) :: A.drop (t + 1) := List.drop_eq_getElem_cons (by omega)
    have hBt : Bq.drop t = (Bq[t]'(by omega)) :: Bq.drop (t + 1) := List.drop_eq_getElem_cons (by omega)
    have el : L ++ ((Bq.take t ++ A.drop t) ++ (M ++ ((A.take t ++ Bq.drop t) ++ S))) = (L ++ Bq.take t) ++ (A[t]'(by omega)) :: ((A.drop (t + 1) ++ (M ++ A.take t)) ++ (Bq[t]'(by omega)) :: (Bq.drop (t + 1) ++ S)) := by
      rw [hAt, hBt]; simp only [List.append_assoc, List.cons_append]
    rw [el] at hr
    have hx : a + t = (L ++ Bq.take t).length := by simp; omega
    have hy : b + t = (L ++ Bq.take t).length + 1 + (A.drop (t + 1) ++ (M ++ A.take t)).length := by simp; omega
    have e1 : IntKind.wrap .i64 ((a : Int) + (t : Int)) = ((a + t : Nat) : Int) := by rw [wrap_of (by omega) (by omega)]; omega
    have e2 : IntKind.wrap .i64 ((b : Int) + (t : Int)) = ((b + t : Nat) : Int) := by rw [wrap_of (by omega) (by omega)]; omega
    have hlen1 := hr.len
    refine do_swap hr.own e1 e2 (by omega) (by omega) fun w2 ho2 g2 => ?_
    rw [(swap_lists hx hy (by omega) (by omega)).1] at ho2
    refine ⟨⟨t + 1, by rw [wrap_succ hlt (by omega)], by omega, ⟨?_, ext_own hr.own hr.ext g2 hB, fun x hx => hr.keys x ?_⟩⟩, ?_⟩
    · have : L ++ ((Bq.take (t + 1) ++ A.drop (t + 1)) ++ (M ++ ((A.take (t + 1) ++ Bq.drop (t + 1)) ++ S))) = (L ++ Bq.take t) ++ (Bq[t]'(by omega)) :: ((A.drop (t + 1) ++ (M ++ A.take t)) ++ (A[t]'(by omega)) :: (Bq.drop (t + 1) ++ S)) := by
        rw [show Bq.take (t + 1) = Bq.take t ++ [Bq[t]'(by omega)] from (List.take_append_getElem (by omega)).symm, show A.take (t + 1) = A.take t ++ [A[t]'(by omega)] from (List.take_append_getElem (by omega)).symm]
        simp only [List.append_assoc, List.cons_append, List.nil_append]
      rw [this]; exact ho2
    · rw [show Bq.take (t + 1) = Bq.take t ++ [Bq[t]'(by omega)] from (List.take_append_getElem (by omega)).symm, show A.take (t + 1) = A.take t ++ [A[t]'(by omega)] from (List.take_append_getElem (by omega)).symm] at hx
      simp only [List.mem_append, List.mem_cons, List.not_mem_nil, or_false] at hx ⊢
      rcases hx with h | ((h | h) | h) | h | ((h | h) | h) | h <;> simp [h]
    · rw [wrap_succ hlt (by omega)]; simp [intOf]; omega
  · have hge : t = k := by have := of_decide_eq_false hge; omega
    subst hge
    rw [List.take_of_length_le (by omega), List.take_of_length_le (by omega), List.drop_of_length_le (by omega), List.drop_of_length_le (by omega)] at hr
    exact h w1 (by simpa using hr)
theorem c_rotate {w0 : World} {B : Nat} {p : Option Addr} {n c : Nat} {f : Fn} {fx fc : Array Value} (hB : w0.heap.size ≤ B) (hm : n ≤ 1000000000000) {L U V S : List Pr} {a m b : Nat} {w : World} {R : Ending → World → Prop}
    (hw : Rw w0 B p n c w (L ++ (U ++ (V ++ S)))) (ha : a = L.length) (hmm : m = L.length + U.length) (hb : b = L.length + U.length + V.length) (hU : 0 < U.length) (hV : 0 < V.length)
    (h : ∀ w', Rw w0 B p n c w' (L ++ (V ++ (U ++ S))) → R (.returned (.tuple #[])) w') :
    Calls Tryz.prog 330 #[.slice p n c, .int .i64 (a : Nat), .int .i64 (m : Nat), .int .i64 (b : Nat), .func f fx fc] w R := by
  refine sh330_ok _ _ _ _ _ _ _ _ _ ?_
  unfold sh330
  have hlen := hw.len
  simp only [List.length_append] at hlen
  refine ⟨fun vs w' => ∃ (l u v s : List Pr), vs = [.int .i64 (u.length : Nat), .int .i64 (v.length : Nat)] ∧ Rw w0 B p n c w' (l ++ (u ++ (v ++ s))) ∧ 0 < u.length ∧ 0 < v.length ∧ m = l.length + u.length ∧ l ++ (v ++ (u ++ s)) = L ++ (V ++ (U ++ S)),
    fun vs _ => (intOf (vs.getD 0 undef)).toNat + (intOf (vs.getD 1 undef)).toNat, ⟨L, U, V, S, ?_, hw, hU, hV, hmm, rfl⟩, ?_⟩
  · rw [wrap_of (by omega) (by omega), wrap_of (by omega) (by omega), show (m : Int) - (a : Int) = (U.length : Int) by omega, show (b : Int) - (m : Int) = (V.length : Int) by omega]
  rintro i j _ w1 ⟨l, u, v, s, hv, hr, hu, hvv, hml, hfin⟩
  simp only [List.cons.injEq, Value.int.injEq, true_and, and_true] at hv
  obtain ⟨rfl, rfl⟩ := hv
  have hlen1 := hr.len
  simp only [List.length_append] at hlen1
  have e1 : IntKind.wrap .i64 ((m : Int) - (u.length : Int)) = ((m - u.length : Nat) : Int) := by rw [wrap_of (by omega) (by omega)]; omega
  refine ifB_intro (fun hne => ?_) fun heq => ?_
  · have hne : u.length ≠ v.length := by intro e; rw [e] at hne; simp at hne
    refine ifB_intro (fun hgt => ?_) fun hle => ?_
    · have hgt : v.length < u.length := by have := of_decide_eq_true hgt; omega
      rw [e1]
      have hsp : l ++ (u ++ (v ++ s)) = l ++ (u.take v.length ++ (u.drop v.length ++ (v ++ s))) := by rw [← List.append_assoc (u.take _), List.take_append_drop]
      rw [hsp] at hr
      refine do_call Tryz.call345 (c_swapRange hB hm hr (k := v.length) (by simp; omega) rfl (by omega) (by simp; omega) fun w2 hr2 => retS_ret ⟨rfl, ⟨l ++ v, u.drop v.length, u.take v.length, s, ?_, ?_, ?_, ?_, ?_, ?_⟩, ?_⟩)
      · rw [wrap_of (by omega) (by omega), List.length_drop, List.length_take, show ((u.length : Int) - (v.length : Int)) = ((u.length - v.length : Nat) : Int) by omega, show min v.length u.length = v.length by omega]
      · simpa using hr2
      · simp; omega
      · simp; omega
      · simp; omega
      · rw [← hfin]; simp only [List.append_assoc]; rw [← List.append_assoc (u.take _) (u.drop _), List.take_append_drop]
      · rw [wrap_of (by omega) (by omega)]; simp [intOf]; omega
    · have hle : u.length < v.length := by have := of_decide_eq_false hle; omega
      have e2 : IntKind.wrap .i64 (IntKind.wrap .i64 ((m : Int) + (v.length : Int)) - (u.length : Int)) = ((m + v.length - u.length : Nat) : Int) := by
        rw [wrap_of (x := (m : Int) + (v.length : Int)) (by omega) (by omega), wrap_of (by omega) (by omega)]; omega
      rw [e1, e2]
      have hsp : l ++ (u ++ (v ++ s)) = l ++ (u ++ (v.take (v.length - u.length) ++ (v.drop (v.length - u.length) ++ s))) := by rw [← List.append_assoc (v.take _), List.take_append_drop]
      rw [hsp] at hr
      refine do_call Tryz.call345 (c_swapRange hB hm hr (k := u.length) rfl (by simp; omega) (by omega) (by simp; omega) fun w2 hr2 => retS_ret ⟨rfl, ⟨l, v.drop (v.length - u.length), v.take (v.length - u.length), u ++ s, ?_, ?_, ?_, ?_, ?_, ?_⟩, ?_⟩)
      · rw [wrap_of (by omega) (by omega), List.length_drop, List.length_take, show ((v.length : Int) - (u.length : Int)) = ((v.length - u.length : Nat) : Int) by omega, show min (v.length - u.length) v.length = v.length - u.length by omega, show v.length - (v.length - u.length) = u.length by omega]
      · exact hr2
      · simp; omega
      · simp; omega
      · simp; omega
      · rw [← hfin, ← List.append_assoc (v.take _) (v.drop _), List.take_append_drop]
      · rw [wrap_of (by omega) (by omega)]; simp [intOf]; omega
  · have heq : u.length = v.length := by simp at heq; omega
    rw [e1]
    have hsp : l ++ (u ++ (v ++ s)) = l ++ (u ++ ([] ++ (v ++ s))) := rfl
    rw [hsp] at hr
    refine do_call Tryz.call345 (c_swapRange hB hm hr (k := u.length) rfl heq.symm (by omega) (by simp; omega) fun w2 hr2 => retS_ret ⟨rfl, h w2 ?_⟩)
    rw [← hfin]; exact hr2
end Go.Proofs.YtlddfgfmkapoiaaGreat

