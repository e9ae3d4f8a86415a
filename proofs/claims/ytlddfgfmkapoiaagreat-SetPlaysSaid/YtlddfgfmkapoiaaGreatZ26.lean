/-
  The document's answer of layer 40; has a set just these keys?
-/
/-
  What find.Get does.
-/
/-
  set: is a key there? A copy.
-/
/-
  Arguments opened to cells: slices of structs. No claim of its own.
-/
/-
  The arguments of the statements, opened.
-/
/-
  The argument of steps, each with a slice of keys of its own.
-/
import Derived.Test.YtlddfgfmkapoiaaGreatZ25
import Derived.Test.YtlddfgfmkapoiaaGreatZ19
import Derived.Test.YtlddfgfmkapoiaaGreatZ03
import Derived.Deep.Slices
import Derived.Deep.Fields
import Derived.ChangeSame
import Derived.Lib.SmallJoins
import Derived.Test.YtlddfgfmkapoiaaGreatZ15
import Derived.Test.YtlddfgfmkapoiaaGreatZ04
import Derived.SizedLaws

namespace Go.Proofs.YtlddfgfmkapoiaaGreat
open Go Go.Sh Go.RowKit

/-! ### rows of keys -/
/-- append of any row to a row of one's own -/
theorem do_appK {q : Option Addr} {n c base : Nat} {r : List Int} {w : World} (hrow : OwnK w base q n c r) {q2 : Option Addr} {m c2 : Nat} {s : List Int} (hs : Cs w q2 (ints s)) (hm : s.length = m) (hb : n + m ≤ 1000000000000) (hbase : base ≤ w.heap.size)
    {bs : Array Bool} {R : Ending → World → Prop}
    (h : ∀ p c' w', OwnK w' base p (n + m) c' (r ++ s) → (∀ w0, Ext w0 w → w0.heap.size ≤ base → Ext w0 w') → R (.returned (.slice p (n + m) c')) w') :
    doGo Tryz.prog (.builtin .append #[24, 24] 24 bs) #[.slice q n c, .slice q2 m c2] w R :=
  do_app elI hrow hs (by simp [ints, hm]) (fun u hu => by obtain ⟨x, _, rfl⟩ := List.mem_map.1 hu; rfl) (by simp only [maxLen]; omega) (by omega) hbase fun p c' w' h2 g2 => h p c' w' (by
    show w'.ownsRow _ _ _ _ _ (ints _)
    unfold ints at h2 ⊢
    rw [List.map_append]; exact h2) fun w0 e0 hb0 => e0.grown g2 fun k hk => Nat.le_trans hb0 (World.ownsRow.lt hrow k hk).1
theorem ownK_nil (w : World) (base : Nat) : OwnK w base none 0 0 [] := World.ownsRow_nil _ _ _ _
/-- a row of keys that is read alone -/
structure RK (w : World) (q : Option Addr) (n c : Nat) (L : List Int) : Prop where
  cs : Cs w q (ints L)
  len : L.length = n
  cap : n ≤ c
  bl : ∀ a, q = some a → ∃ cs, Blk w a.block cs 2
theorem RK.ext {w w' : World} {q : Option Addr} {n c : Nat} {L : List Int} (h : RK w q n c L) (e : Ext w w') : RK w' q n c L := ⟨h.cs.ext e, h.len, h.cap, fun a ha => (h.bl a ha).imp fun _ hb => hb.ext e⟩
theorem ownK_rk {w : World} {base n c : Nat} {p : Option Addr} {l : List Int} (h : OwnK w base p n c l) : RK w p n c l := ⟨Cs.of_row h, ownK_len h, row_cap h, fun a ha => by
  rcases h.2 with q | ⟨b, cap, cur, hv, hbb, hblk, rest⟩
  · have := q.1
    subst ha
    cases this
  · have := congrArg Value.ownBlock hv
    subst ha
    injection this with this
    rw [this]
    exact ⟨_, hblk⟩⟩
theorem rk_nil (w : World) : RK w none 0 0 [] := ⟨cs_nil _ _, rfl, Nat.le_refl _, fun a ha => by cases ha⟩
theorem c_has40 {l : List Int} {q : Option Addr} {n c : Nat} {key : Int} {w : World} {R : Ending → World → Prop} (hl : Cs w q (ints l)) (hn : l.length = n) (hm : n ≤ 1000000000000)
    (h : R (.returned (.bool (decide (key ∈ l)))) w) : Calls Tryz.prog 82 #[.slice q n c, .int .i64 key] w R := by
  refine sh82_ok _ _ _ _ ?_
  unfold sh82
  refine ⟨fun vs w' => ∃ k : Nat, vs = [.int .i64 k] ∧ k ≤ n ∧ w' = w ∧ key ∉ l.take k, fun vs _ => n - (intOf (vs.getD 0 undef)).toNat, ⟨0, rfl, by omega, rfl, by simp⟩, ?_⟩
  rintro i _ w2 ⟨k, hv, hkn, rfl, hno⟩
  simp only [List.cons.injEq, Value.int.injEq, true_and, and_true] at hv
  subst hv
  refine ifB_intro (fun hlt => ?_) fun hge => ?_
  · have hlt : k < n := by have := of_decide_eq_true hlt; omega
    have hk : k < l.length := by omega
    refine ix_int hl hn (by omega) (by omega) fun a ha hc => ⟨_, hc, ?_⟩
    have e : l.getD (k : Int).toNat 0 = l[k] := by rw [Int.toNat_natCast, List.getD_eq_getElem?_getD, List.getElem?_eq_getElem hk]; rfl
    rw [e]
    refine ifB_intro (fun he => ?_) fun hne => ?_
    · have he : l[k] = key := by simpa using he
      rw [decide_eq_true (by rw [← he]; exact List.getElem_mem hk)] at h
      exact h
    · have hne : ¬ l[k] = key := by simpa using hne
      refine ⟨⟨k + 1, by rw [wrap_succ hlt (by omega)], by omega, rfl, ?_⟩, by rw [wrap_succ hlt (by omega)]; simp [intOf]; omega⟩
      rw [show l.take (k + 1) = l.take k ++ [l[k]] from (List.take_append_getElem hk).symm, List.mem_append, List.mem_singleton]
      rintro (h | h)
      · exact hno h
      · exact hne h.symm
  · have hge : k = n := by have := of_decide_eq_false hge; omega
    subst hge
    rw [List.take_of_length_le (by omega)] at hno
    rw [decide_eq_false hno] at h
    exact h
theorem c_keep40 {l keys : List Int} {q q' : Option Addr} {n c n' c' : Nat} {are : Bool} {w : World} {R : Ending → World → Prop} (hl : Cs w q (ints l)) (hn : l.length = n) (hm : n ≤ 1000000000) (hk : Cs w q' (ints keys)) (hn' : keys.length = n') (hm' : n' ≤ 1000000000)
    (h : ∀ p m d w', Ext w w' → RK w' p m d (l.filter fun k => decide (k ∈ keys) == are) → R (.returned (.slice p m d)) w') : Calls Tryz.prog 69 #[.slice q n c, .slice q' n' c', .bool are] w R := by
  refine sh69_ok _ _ _ _ _ _ _ ?_
  unfold sh69
  refine ⟨fun vs w' => ∃ (k : Nat) (p : Option Addr) (m d : Nat), vs = [.slice p m d, .int .i64 k] ∧ k ≤ n ∧ m ≤ k ∧ Ext w w' ∧ OwnK w' w.heap.size p m d ((l.take k).filter fun k => decide (k ∈ keys) == are), fun vs _ => n - (intOf (vs.getD 1 undef)).toNat, ⟨0, none, 0, 0, rfl, by omega, by omega, ext_refl w, ownK_nil _ _⟩, ?_⟩
  rintro p m d i _ w2 ⟨k, p', m', d', hv, hkn, hmk, E, ho⟩
  simp only [List.cons.injEq, Value.slice.injEq, Value.int.injEq, true_and, and_true] at hv
  obtain ⟨⟨rfl, rfl, rfl⟩, rfl⟩ := hv
  refine ifB_intro (fun hlt => ?_) fun hge => ?_
  · have hlt : k < n := by have := of_decide_eq_true hlt; omega
    have hkl : k < l.length := by omega
    have e : l.getD (k : Int).toNat 0 = l[k] := by rw [Int.toNat_natCast, List.getD_eq_getElem?_getD, List.getElem?_eq_getElem hkl]; rfl
    intro K20
    refine ix_int (hl.ext E) hn (by omega) (by omega) fun a ha hc => ⟨_, hc, ?_⟩
    rw [e]
    refine do_call Tryz.call82 (c_has40 (hk.ext E) hn' (by omega) (retS_ret ⟨_, rfl, ?_⟩))
    have et : l.take (k + 1) = l.take k ++ [l[k]] := (List.take_append_getElem hkl).symm
    refine ifB_intro (fun hy => ?_) fun hno => ?_
    · refine ix_int (hl.ext E) hn (by omega) (by omega) fun a ha hc => ⟨_, hc, ⟨?_⟩⟩
      rw [e]
      have e3 := ext_alloc w2 (.cells #[.int .i64 l[k]] 2)
      have c3 : Cs (w2.alloc (.cells #[.int .i64 l[k]] 2)) (some (blk w2.heap.size)) (ints [l[k]]) := cs_alloc w2 _ _
      refine do_appK (e3.row ho) (m := 1) c3 rfl (by omega) (E.trans e3).size fun p' d' w4 h4 g4 => retS_ret ⟨_, _, _, rfl, ?_⟩
      refine ⟨⟨k + 1, p', _, d', by rw [wrap_succ hlt (by omega)], by omega, by omega, g4 w (E.trans e3) (Nat.le_refl _), ?_⟩, by rw [wrap_succ hlt (by omega)]; simp [intOf]; omega⟩
      rw [et, List.filter_append]
      simp only [List.filter_cons, hy, if_true, List.filter_nil]
      exact h4
    · refine ⟨⟨k + 1, p, m, d, by rw [wrap_succ hlt (by omega)], by omega, by omega, E, ?_⟩, by rw [wrap_succ hlt (by omega)]; simp [intOf]; omega⟩
      rw [et, List.filter_append]
      simp only [List.filter_cons, hno, List.filter_nil, List.append_nil]
      simpa using ho
  · have hge : k = n := by have := of_decide_eq_false hge; omega
    subst hge
    rw [List.take_of_length_le (by omega)] at ho
    exact h _ _ _ _ E (ownK_rk ho)
theorem put_asc {o key : Int} {l : List Int} {k : Nat} (ho : isO o = true) (hI : ∀ x ∈ l, In x) (hkI : In key) (ha : l.Pairwise (ltO o)) (hno : key ∉ l) (hk : k ≤ l.length) (h1 : ∀ i (_ : i < k) (hi : i < l.length), cmpI o l[i] key < 0) (h2 : ∀ hi : k < l.length, ¬ cmpI o l[k] key < 0) :
    (l.take k ++ [key] ++ l.drop k).Pairwise (ltO o) ∧ (∀ x, x ∈ l.take k ++ [key] ++ l.drop k ↔ x ∈ l ∨ x = key) := by
  have hd : ∀ x ∈ l.drop k, ltO o key x := fun x hx => by
    obtain ⟨j, hj, rfl⟩ := List.getElem_of_mem hx
    rw [List.getElem_drop]
    have hj' : k + j < l.length := by rw [List.length_drop] at hj; omega
    have hkl : k < l.length := by omega
    have hkk : ltO o key l[k] := by
      have hne : cmpI o l[k] key ≠ 0 := fun e => hno (by rw [← cmpI_eq ho (hI _ (List.getElem_mem hkl)) hkI e]; exact List.getElem_mem hkl)
      have := h2 hkl
      exact cmpI_pos (by omega)
    rcases Nat.eq_zero_or_pos j with rfl | hj0
    · exact hkk
    · have := List.pairwise_iff_getElem.1 ha k (k + j) hkl hj' (by omega)
      exact cmpI_trans hkk this
  have ht : ∀ x ∈ l.take k, ltO o x key := fun x hx => by
    obtain ⟨j, hj, rfl⟩ := List.getElem_of_mem hx
    rw [List.getElem_take]
    rw [List.length_take] at hj
    exact h1 j (by omega) (by omega)
  constructor
  · rw [List.append_assoc, List.pairwise_append]
    refine ⟨ha.sublist (List.take_sublist _ _), ?_, fun x hx y hy => ?_⟩
    · rw [List.singleton_append, List.pairwise_cons]
      exact ⟨hd, ha.sublist (List.drop_sublist _ _)⟩
    · rcases List.mem_cons.1 hy with rfl | hy
      · exact ht x hx
      · exact cmpI_trans (ht x hx) (hd y hy)
  · intro x
    have : x ∈ l ↔ x ∈ l.take k ∨ x ∈ l.drop k := by rw [← List.mem_append, List.take_append_drop]
    rw [this]
    simp only [List.mem_append, List.mem_singleton]
    constructor
    · rintro ((a | b) | c)
      · exact .inl (.inl a)
      · exact .inr b
      · exact .inl (.inr c)
    · rintro ((a | b) | c)
      · exact .inl (.inl a)
      · exact .inr b
      · exact .inl (.inr c)
theorem c_put40 {o key : Int} {l : List Int} {q : Option Addr} {n c : Nat} {w : World} {R : Ending → World → Prop} (ho : isO o = true) (hl : RK w q n c l) (hm : n ≤ 1000000000) (hI : ∀ x ∈ l, In x) (hkI : In key) (ha : l.Pairwise (ltO o))
    (h : ∀ p m d w' L, Ext w w' → RK w' p m d L → L.Pairwise (ltO o) → (∀ x, x ∈ L ↔ x ∈ l ∨ x = key) → m ≤ n + 1 → R (.returned (.slice p m d)) w') : Calls Tryz.prog 141 #[.int .u8 o, .slice q n c, .int .i64 key] w R := by
  refine sh141_ok _ _ _ _ _ ?_
  unfold sh141
  refine do_call Tryz.call82 (c_has40 hl.cs hl.len (by omega) (retS_ret ⟨_, rfl, ?_⟩))
  have hn := hl.len
  refine ifB_intro (fun hy => ?_) fun hno => ?_
  · have hy := of_decide_eq_true hy
    exact h _ _ _ _ l (ext_refl w) hl ha (fun x => ⟨.inl, fun a => a.elim id fun e => by rw [e]; exact hy⟩) (by omega)
  have hno := of_decide_eq_false hno
  intro K11
  have hK : ∀ k : Nat, k ≤ n → (∀ i (_ : i < k) (hi : i < l.length), cmpI o l[i] key < 0) → (∀ hi : k < l.length, ¬ cmpI o l[k] key < 0) → K11 k w := by
    intro k hk h1 h2
    simp -zeta -zetaHave only [K11]
    have P := put_asc ho hI hkI ha hno (by omega) h1 h2
    refine sl_int hl.cs hl.len hl.cap (by omega) (by omega) (by omega) fun p1 hp1 => ?_
    rw [Int.toNat_natCast, show (0 : Int).toNat = 0 from rfl, List.drop_zero, Nat.sub_zero] at *
    refine do_appK (ownK_nil w w.heap.size) hp1 (by rw [List.length_take]; omega) (by omega) (Nat.le_refl _) fun p2 c2 w2 h2' g2 => retS_ret ⟨_, _, _, rfl, ⟨?_⟩⟩
    have E2 := g2 w (ext_refl w) (Nat.le_refl _)
    have e3 := ext_alloc w2 (.cells #[.int .i64 key] 2)
    have c3 : Cs (w2.alloc (.cells #[.int .i64 key] 2)) (some (blk w2.heap.size)) (ints [key]) := cs_alloc w2 _ _
    refine do_appK (e3.row h2') (m := 1) c3 rfl (by omega) (E2.trans e3).size fun p4 c4 w4 h4 g4 => retS_ret ⟨_, _, _, rfl, ?_⟩
    have E4 := g4 w (E2.trans e3) (Nat.le_refl _)
    refine sl_int (hl.cs.ext E4) hl.len hl.cap (by omega) (by omega) (by omega) fun p5 hp5 => ?_
    have et : l.take n = l := List.take_of_length_le (by omega)
    simp only [Int.toNat_natCast, et] at hp5 ⊢
    refine do_appK h4 hp5 (by rw [List.length_drop]; omega) (by omega) E4.size fun p6 c6 w6 h6 g6 => retS_ret ⟨_, _, _, rfl, ?_⟩
    have E6 := g6 w E4 (Nat.le_refl _)
    rw [List.nil_append] at h6
    exact h _ _ _ _ _ E6 (ownK_rk h6) P.1 P.2 (by omega)
  refine ⟨fun vs w' => ∃ k : Nat, vs = [.int .i64 k] ∧ k ≤ n ∧ w' = w ∧ ∀ i (_ : i < k) (hi : i < l.length), cmpI o l[i] key < 0, fun vs _ => n - (intOf (vs.getD 0 undef)).toNat, ⟨0, rfl, by omega, rfl, fun i hi => by omega⟩, ?_⟩
  rintro i _ w2 ⟨k, hv, hkn, rfl, hlo⟩
  simp only [List.cons.injEq, Value.int.injEq, true_and, and_true] at hv
  subst hv
  intro K42
  refine ifB_intro (fun hlt => ?_) fun hge => ?_
  · have hlt : k < n := by have := of_decide_eq_true hlt; omega
    have hkl : k < l.length := by omega
    have e : l.getD (k : Int).toNat 0 = l[k] := by rw [Int.toNat_natCast, List.getD_eq_getElem?_getD, List.getElem?_eq_getElem hkl]; rfl
    refine ix_int hl.cs hn (by omega) (by omega) fun a ha hc => ⟨_, hc, ?_⟩
    rw [e]
    refine do_call Tryz.call79 (c_rcompare (hI _ (List.getElem_mem hkl)) hkI (retS_ret ⟨_, rfl, ?_⟩))
    simp -zeta -zetaHave only [K42]
    refine ifB_intro (fun hc => ?_) fun hc => ?_
    · have hc := of_decide_eq_true hc
      refine ⟨⟨k + 1, by rw [wrap_succ hlt (by omega)], by omega, by first | rfl | trivial, fun i hi hil => ?_⟩, by rw [wrap_succ hlt (by omega)]; simp [intOf]; omega⟩
      rcases Nat.lt_or_ge i k with hik | hik
      · exact hlo i hik hil
      · have : i = k := by omega
        subst this; exact hc
    · exact hK k hkn hlo fun _ => of_decide_eq_false hc
  · have hge : k = n := by have := of_decide_eq_false hge; omega
    exact hK k hkn hlo fun hi => absurd hi (by omega)
theorem c_add40 {o : Int} {l keys : List Int} {q q' : Option Addr} {n c n' c' : Nat} {w : World} {R : Ending → World → Prop} (ho : isO o = true) (hl : RK w q n c l) (hm : n ≤ 1000000) (hI : ∀ x ∈ l, In x) (ha : l.Pairwise (ltO o)) (hk : Cs w q' (ints keys)) (hn' : keys.length = n') (hm' : n' ≤ 1000000) (hkI : ∀ x ∈ keys, In x)
    (h : ∀ p m d w' L, Ext w w' → RK w' p m d L → L.Pairwise (ltO o) → (∀ x, x ∈ L ↔ x ∈ l ∨ x ∈ keys) → m ≤ n + n' → R (.returned (.slice p m d)) w') : Calls Tryz.prog 68 #[.int .u8 o, .slice q n c, .slice q' n' c'] w R := by
  refine sh68_ok _ _ _ _ _ _ _ ?_
  unfold sh68
  refine ⟨fun vs w' => ∃ (k : Nat) (p : Option Addr) (m d : Nat) (L : List Int), vs = [.slice p m d, .int .i64 k] ∧ k ≤ n' ∧ m ≤ n + k ∧ Ext w w' ∧ RK w' p m d L ∧ L.Pairwise (ltO o) ∧ (∀ x, x ∈ L ↔ x ∈ l ∨ x ∈ keys.take k), fun vs _ => n' - (intOf (vs.getD 1 undef)).toNat, ⟨0, q, n, c, l, rfl, by omega, by omega, ext_refl w, hl, ha, by simp⟩, ?_⟩
  rintro p m d i _ w2 ⟨k, p', m', d', L, hv, hkn, hmk, E, hL, hLa, hLm⟩
  simp only [List.cons.injEq, Value.slice.injEq, Value.int.injEq, true_and, and_true] at hv
  obtain ⟨⟨rfl, rfl, rfl⟩, rfl⟩ := hv
  refine ifB_intro (fun hlt => ?_) fun hge => ?_
  · have hlt : k < n' := by have := of_decide_eq_true hlt; omega
    have hkl : k < keys.length := by omega
    have e : keys.getD (k : Int).toNat 0 = keys[k] := by rw [Int.toNat_natCast, List.getD_eq_getElem?_getD, List.getElem?_eq_getElem hkl]; rfl
    refine ix_int (hk.ext E) hn' (by omega) (by omega) fun a ha hc => ⟨_, hc, ?_⟩
    rw [e]
    have hLI : ∀ x ∈ L, In x := fun x hx => ((hLm x).1 hx).elim (hI x) fun hx => hkI x (List.mem_of_mem_take hx)
    refine do_call Tryz.call141 (c_put40 ho hL (by omega) hLI (hkI _ (List.getElem_mem hkl)) hLa fun p3 m3 d3 w3 L3 e3 h3 a3 i3 z3 => retS_ret ⟨_, _, _, rfl, ?_⟩)
    refine ⟨⟨k + 1, p3, m3, d3, L3, by rw [wrap_succ hlt (by omega)], by omega, by omega, E.trans e3, h3, a3, fun x => ?_⟩, by rw [wrap_succ hlt (by omega)]; simp [intOf]; omega⟩
    rw [i3, hLm, show keys.take (k + 1) = keys.take k ++ [keys[k]] from (List.take_append_getElem hkl).symm, List.mem_append, List.mem_singleton, or_assoc]
  · have hge : k = n' := by have := of_decide_eq_false hge; omega
    subst hge
    rw [List.take_of_length_le (by omega)] at hLm
    exact h _ _ _ _ L E hL hLa hLm hmk
/-! ### has a set just these keys? -/
theorem prs_of_its {c : Int} (t : Tr) : t.pairs = (itsC c t).map fun x => (x.1, x.2.1) := by
  rw [items_pairs]
  unfold itsC
  rw [List.map_map]
  exact List.map_congr_left fun x _ => by show _ = ((itC c x).1, (itC c x).2.1); rw [itC_key, itC_val]
theorem c_r10keys {t : Tr} {q : Option Addr} {n c : Nat} {w : World} {R : Ending → World → Prop} (hl : Cs w q (bds (btT t).beads)) (hn : t.size = n) (hnc : n ≤ c) (hm : n ≤ 5000)
    (h : ∀ p m d w', Ext w w' → RK w' p m d (t.pairs.map (·.1)) → R (.returned (.slice p m d)) w') : Calls Tryz.prog 204 #[.slice q n c] w R := by
  refine sh204_ok _ _ _ ?_
  unfold sh204
  refine do_call Tryz.call60 (c_pairs (btT t) hl (by rw [btT_size]; exact hn) hnc (btT_wf t) hm fun p1 n1 c1 w1 h1 e1 => retS_ret ⟨_, _, _, rfl, ?_⟩)
  rw [btT_tr] at h1
  have hn1 := ownP_len h1
  have hz := t.pairs_length
  refine ⟨fun vs w' => ∃ (k : Nat) (p : Option Addr) (d : Nat), vs = [.slice p k d, .int .i64 k] ∧ k ≤ n1 ∧ Ext w1 w' ∧ OwnK w' w1.heap.size p k d ((t.pairs.take k).map (·.1)), fun vs _ => n1 - (intOf (vs.getD 1 undef)).toNat, ⟨0, none, 0, rfl, by omega, ext_refl w1, ownK_nil _ _⟩, ?_⟩
  rintro p m d i _ w2 ⟨k, p', d', hv, hkn, E, ho⟩
  simp only [List.cons.injEq, Value.slice.injEq, Value.int.injEq, true_and, and_true] at hv
  obtain ⟨⟨rfl, rfl, rfl⟩, rfl⟩ := hv
  refine ifB_intro (fun hlt => ?_) fun hge => ?_
  · have hlt : m < n1 := by have := of_decide_eq_true hlt; omega
    have hkl : m < t.pairs.length := by omega
    refine ix_pr ((ownP_cs h1).ext E) hn1 (k := m) rfl hlt fun a r0 _ _ => ⟨_, r0, ⟨?_⟩⟩
    have e3 := ext_alloc w2 (.cells #[.int .i64 t.pairs[m].1] 2)
    have c3 : Cs (w2.alloc (.cells #[.int .i64 t.pairs[m].1] 2)) (some (blk w2.heap.size)) (ints [t.pairs[m].1]) := cs_alloc w2 _ _
    refine do_appK (e3.row ho) (m := 1) c3 rfl (by omega) (E.trans e3).size fun p' d' w4 h4 g4 => retS_ret ⟨_, _, _, rfl, ?_⟩
    refine ⟨⟨m + 1, p', d', by rw [wrap_succ hlt (by omega)], by omega, g4 w1 (E.trans e3) (Nat.le_refl _), ?_⟩, by rw [wrap_succ hlt (by omega)]; simp [intOf]; omega⟩
    rw [show t.pairs.take (m + 1) = t.pairs.take m ++ [t.pairs[m]] from (List.take_append_getElem hkl).symm, List.map_append]
    exact h4
  · have hge : m = n1 := by have := of_decide_eq_false hge; omega
    subst hge
    rw [List.take_of_length_le (by omega)] at ho
    exact h _ _ _ _ (e1.trans E) (ownK_rk ho)
theorem sumV_zero : ∀ {l : List Bd}, (∀ x ∈ l, x.val = 0) → sumV l = 0 := by
  intro l h
  have : ∀ (l : List Bd), (∀ x ∈ l, x.val = 0) → l.foldl (fun s b => IntKind.wrap .i64 (s + b.val)) 0 = 0 := by
    intro l
    induction l with
    | nil => intro _; rfl
    | cons x l ih =>
      intro h
      rw [List.foldl_cons, h x (by simp)]
      have : IntKind.wrap .i64 (0 + 0) = 0 := by decide
      rw [this]
      exact ih fun y hy => h y (by simp [hy])
  exact this l h
theorem beads_zero : ∀ {t : Tr}, (∀ p ∈ t.pairs, p.2 = 0) → ∀ x ∈ (btT t).beads, x.val = 0
  | .nil, _, x, hx => by cases hx
  | .node l k v g r, h, x, hx => by
    have hp : (Tr.node l k v g r).pairs = l.pairs ++ (k, v) :: r.pairs := rfl
    rw [hp] at h
    simp only [btT, BT.beads, List.mem_cons, List.mem_append] at hx
    rcases hx with rfl | hx | hx
    · exact h (k, v) (by simp)
    · exact beads_zero (fun p hp => h p (by simp [hp])) x hx
    · exact beads_zero (fun p hp => h p (by simp [hp])) x hx
theorem c_r24stands {cd o : Int} {t : Tr} {q : Option Addr} {n c : Nat} {w : World} {R : Ending → World → Prop} (ho : isO o = true) (hu : OkU cd o t) (hT : TagI (itsC cd t)) (hI : InP t.pairs) (hl : Cs w q (bds (btT t).beads)) (hn : t.size = n) (hnc : n ≤ c) (hm : n ≤ 2000)
    (h : ∀ w', Ext w w' → R (.returned (.bool true)) w') : Calls Tryz.prog 104 #[.int .u8 cd, .int .u8 o, .slice q n c] w R := by
  refine sh104_ok _ _ _ _ _ ?_
  unfold sh104
  have hTB := tagB_of hu.ok.1 (by omega) hT
  have hbn : (btT t).size = n := by rw [btT_size]; exact hn
  intro K8
  refine do_call Tryz.call18 (c_r22is (retS_ret ⟨_, rfl, ifB_t hu.ok.1.s ?_⟩))
  refine do_call Tryz.call127 (c_r2may (retS_ret ⟨_, rfl, ifB_t ho ?_⟩))
  refine do_call Tryz.call179 (c_r22may hu.ok.1.s hl hbn hnc (btT_wf t) (by omega) hTB fun b w1 e1 hb => retS_ret ⟨_, rfl, ?_⟩)
  rw [btT_tr] at hb
  obtain rfl : b = true := hb.2 hu.ok
  refine ifB_t rfl (do_call Tryz.call128 (sh128_ok _ _ _ _ ?_))
  unfold sh128
  refine do_call Tryz.call60 (c_pairs (btT t) (hl.ext e1) hbn hnc (btT_wf t) (by omega) fun p2 n2 c2 w2 h2 e2 => retS_ret ⟨_, _, _, rfl, ?_⟩)
  rw [btT_tr] at h2
  have hn2 := ownP_len h2
  have hz := t.pairs_length
  refine do_call Tryz.call199 (c_rises (ownP_cs h2) hn2 (by omega) hI fun w3 e3 => retS_ret ⟨_, rfl, retS_ret ⟨_, rfl, ?_⟩⟩)
  have hc : chain o t.pairs = true := chain_pw.2 (by rw [pairs_its (c := cd)]; exact hu.asc)
  rw [hc]
  exact h w3 ((e1.trans e2).trans e3)
section
variable {c o : Int} {b bx : Nat} {px : Option Addr} {K : List Int} {w : World} {R : Ending → World → Prop}
theorem KeyT.inP {t : Tr} (h : KeyT c o t K) : InP t.pairs := fun x hx => by
  obtain ⟨y, hy, e⟩ : ∃ y ∈ itsC c t, (y.1, y.2.1) = x := by
    have : t.pairs = (itsC c t).map fun x => (x.1, x.2.1) := prs_of_its t
    rw [this] at hx
    exact List.mem_map.1 hx
  have h0 := h.val y hy
  rw [← e]
  exact ⟨h.inI y hy, by show In y.2.1; rw [h0]; exact ⟨by decide, by decide⟩⟩
theorem KeyT.zero {t : Tr} (h : KeyT c o t K) : ∀ x ∈ t.pairs, x.2 = 0 := fun x hx => by
  have : t.pairs = (itsC c t).map fun x => (x.1, x.2.1) := prs_of_its t
  rw [this] at hx
  obtain ⟨y, hy, rfl⟩ := List.mem_map.1 hx
  exact h.val y hy
theorem c_zeros40 {q : Option Addr} {n cp : Nat} (ho : isO o = true) (hx : SetU c o b px bx K w) (hz : K.length ≤ 2000) (hq : Cs w q (ints K)) (hn : K.length = n)
    (h : ∀ w', Ext w w' → R (.returned (.bool true)) w') : Calls Tryz.prog 142 #[.int .u8 c, .int .u8 o, .pointer (some (blk bx)), .slice q n cp] w R := by
  refine sh142_ok _ _ _ _ _ _ ?_
  unfold sh142
  refine do_call Tryz.call143 (c_stree hx fun t pt h1 h2 => retS_ret ⟨_, rfl, ?_⟩)
  have z := h2.len
  refine do_call Tryz.call97 (c_See h1 (by omega) fun p2 n2 c2 w2 o2 e2 => retS_ret ⟨_, _, _, _, rfl, ?_⟩)
  intro K18
  have hn2 := ownB_len o2
  have hz2 := btT_size t
  have hzn : t.size = n2 := by rw [← hz2]; exact hn2
  have hnc := row_cap o2
  refine ifB_f rfl (do_call Tryz.call104 (c_r24stands ho h2.ok h2.tag h2.inP (ownB_cs o2) hzn hnc (by omega) fun w3 e3 => retS_ret ⟨_, rfl, ifB_f rfl ?_⟩))
  refine do_call Tryz.call204 (c_r10keys ((ownB_cs o2).ext e3) hzn hnc (by omega) fun p4 n4 c4 w4 e4 k4 => retS_ret ⟨_, _, _, rfl, ?_⟩)
  rw [h2.prs] at k4
  have E4 := (e2.trans e3).trans e4
  refine do_call Tryz.call61 (c_samekeys k4.cs k4.len (hq.ext E4) hn (by have := k4.len; omega) fun w5 e5 => retS_ret ⟨_, rfl, ?_⟩)
  rw [decide_eq_true rfl]
  simp -zeta -zetaHave only [K18]
  refine ifB_f rfl ?_
  intro K21
  have E5 := E4.trans e5
  have o5 := (ownB_cs o2).ext ((e3.trans e4).trans e5)
  refine do_call Tryz.call115 (c_r9sum o5 hn2 (by omega) (retS_ret ⟨_, rfl, ?_⟩))
  rw [sumV_zero (beads_zero h2.zero)]
  refine ifB_t rfl (ifB_intro (fun _ => h w5 E5) fun hne => ?_)
  have hpos : 0 < n2 := by
    have : ¬ ((n2 : Int) = 0) := by simpa using hne
    omega
  refine ix_flat ecB_len (by omega) o5 hn2 (k := 0) rfl hpos fun a r _ => ⟨_, r 3 _ rfl, ?_⟩
  simp -zeta -zetaHave only [K21]
  have : (((btT t).beads)[0]'(by omega)).size = (n : Int) := by
    cases t with
    | nil => exact absurd hzn (by simp only [Tr.size]; omega)
    | node l k v g rr =>
      show ((Tr.node l k v g rr).size : Int) = n
      omega
  rw [this]
  simp only [beq_self_eq_true]
  exact h w5 E5
theorem c_sis {q : Option Addr} {n cp : Nat} (ho : isO o = true) (hx : SetU c o b px bx K w) (hz : K.length ≤ 2000) (hq : Cs w q (ints K)) (hn : K.length = n)
    (h : ∀ w', Ext w w' → R (.returned (.bool true)) w') : Calls Tryz.prog 70 #[.int .u8 c, .int .u8 o, .pointer (some (blk bx)), .slice q n cp] w R := by
  refine sh70_ok _ _ _ _ _ _ ?_
  unfold sh70
  intro K9
  refine ifB_t rfl (do_call Tryz.call72 (c_slen hx fun w1 e1 => retS_ret ⟨_, rfl, ifB_t (by simp [hn]) ?_⟩))
  refine do_call Tryz.call76 (c_skeys (hx.ext e1) (by omega) fun p2 n2 c2 w2 e2 o2 => retS_ret ⟨_, _, _, rfl, ?_⟩)
  have E2 := e1.trans e2
  refine do_call Tryz.call61 (c_samekeys (Cs.of_row o2) (ownK_len o2) (hq.ext E2) hn (by have := ownK_len o2; omega) fun w3 e3 => retS_ret ⟨_, rfl, ?_⟩)
  rw [decide_eq_true rfl]
  have E3 := E2.trans e3
  exact ifB_t rfl (do_call Tryz.call142 (c_zeros40 ho (hx.ext E3) hz (hq.ext E3) hn fun w4 e4 => retS_ret ⟨_, rfl, h w4 (E3.trans e4)⟩))
end
end Go.Proofs.YtlddfgfmkapoiaaGreat

namespace Go.Proofs.YtlddfgfmkapoiaaGreat
open Go Go.Sh Go.RowKit

/-- the last node on the way that is picked -/
def lastN (o key : Int) (sel : Int → Bool) : Tr → Tr → Tr
  | .nil, acc => acc
  | .node l k v g r, acc =>
    let acc' := if sel (cmpI o key k) then .node l k v g r else acc
    if cmpI o key k < 0 then lastN o key sel l acc' else if cmpI o key k = 0 then acc' else lastN o key sel r acc'
def lastR (o : Int) (t : Tr) (key : Int) (sel : Int → Bool) : Tr := cond (isO o) (lastN o key sel t .nil) .nil
theorem lastN_next {o key : Int} {sel : Int → Bool} {s acc : Tr} (h : s.nn = true) : lastN o key sel s acc =
    if cmpI o key s.key = 0 then (if sel (cmpI o key s.key) then s else acc) else lastN o key sel (s.next o key) (if sel (cmpI o key s.key) then s else acc) := by
  cases s with
  | nil => cases h
  | node l k v g r =>
    show lastN o key sel (.node l k v g r) acc = if cmpI o key k = 0 then (if sel (cmpI o key k) then .node l k v g r else acc) else lastN o key sel (if cmpI o key k < 0 then l else r) (if sel (cmpI o key k) then .node l k v g r else acc)
    rw [lastN]
    generalize cmpI o key k = c
    by_cases h1 : c < 0
    · rw [if_pos h1, if_neg (show ¬ c = 0 by omega), if_pos h1]
    · rw [if_neg h1, if_neg h1]
set_option maxRecDepth 20000 in
theorem c_fway1 {o key : Int} {t : Tr} {pt : Option Addr} {bt bo bk : Nat} {f : Fn} {fx fc : Array Value} {St : Tr → World → Prop} {Fin : World → Prop} {w0 w : World} {R : Ending → World → Prop}
    (hy : WayTo o key w0 pt t bt bo bk (.func f fx fc) St Fin) (ht : IsN w0 pt t) (hk : In key) (hA : AllK t) (h0 : St t w)
    (hno : isO o = false → ∀ w', St t w' → R (.returned (.tuple #[])) w') (hnil : ∀ w', isO o = true → St .nil w' → R (.returned (.tuple #[])) w') (hfin : ∀ w', isO o = true → Fin w' → R (.returned (.tuple #[])) w') :
    Calls Tryz.prog 259 #[.func f fx fc, .pointer (some (blk bo)), .pointer (some (blk bt)), .pointer (some (blk bk))] w R := by
  refine sh259_ok _ _ _ _ _ _ ?_
  unfold sh259
  refine ⟨_, (hy.blks _ _ h0).2.2.1.cell (i := 0) rfl rfl, ?_⟩
  refine do_call Tryz.call172 (c_name fun w1 e1 => retS_ret ⟨_, rfl, ?_⟩)
  rw [name_empty]
  have hs1 := hy.ext _ _ _ h0 e1
  cases ho : isO o
  · exact ifB_t rfl (hno ho _ hs1)
  refine ifB_f rfl ?_
  refine ⟨_, (hy.blks _ _ hs1).2.1.cell (i := 0) rfl rfl, ?_⟩
  refine ⟨fun vs w' => ∃ (s : Tr) (p : Option Addr), vs = [.pointer p] ∧ IsN w0 p s ∧ St s w' ∧ AllK s ∧ s.size ≤ t.size, fun vs w' => szAt (vs.getD 0 undef) w', ⟨t, pt, rfl, ht, hs1, hA, Nat.le_refl _⟩, ?_⟩
  rintro p _ w2 ⟨s, p', hv, hN0, hs, hA, hsz⟩
  simp only [List.cons.injEq, Value.pointer.injEq, and_true] at hv
  subst hv
  have hN : IsN w2 p s := hN0.ext (hy.blks _ _ hs).1
  have hnone := hN.isNone
  refine ifB_intro (fun hp => ?_) fun hp => ?_
  rotate_left
  · have hsn : s.nn = false := by rw [hnone] at hp; simpa using hp
    cases s with
    | nil => exact hnil _ ho hs
    | node l k v g r => cases hsn
  have hsn : s.nn = true := by rw [hnone] at hp; simpa using hp
  refine ⟨⟨fun w' => Ext w2 w', ext_drew _, _, fun w' e => ((hy.blks _ _ hs).2.2.1.ext e).cell (i := 0) rfl rfl, _, fun w' e => ((hy.blks _ _ hs).2.2.2.ext e).cell (i := 0) rfl rfl, ?_⟩⟩
  refine do_call Tryz.call108 (c_key (hN.ext (ext_drew _)) fun w3 e3 => retS_ret ⟨_, rfl, (ext_drew _).trans e3, ?_⟩)
  have hsk : In s.key := by
    cases s with
    | nil => cases hsn
    | node l k v g r => exact hA.node.2.1
  refine do_call Tryz.call176 (c_compare hk hsk fun w4 e4 => retS_ret ⟨_, rfl, ?_⟩)
  have E4 : Ext w2 w4 := (ext_drew w2).trans (e3.trans e4)
  have hs4 := hy.ext _ _ _ hs E4
  refine hy.yields s p w4 hsn hA hsz hN0 hs4 _ fun w5 h5 => retS_ret ⟨_, rfl, ifB_f rfl ?_⟩
  refine ifB_intro (fun h1 => ?_) fun h1 => ?_
  · have h1 : cmpI o key s.key = 0 := by simpa using h1
    rw [if_pos h1] at h5
    exact hfin _ ho h5
  · have h1 : cmpI o key s.key ≠ 0 := by simpa using h1
    rw [if_neg h1] at h5
    have hlt := Tr.next_lt hsn o key
    refine ifB_intro (fun h2 => ?_) fun h2 => ?_
    · have h2 := of_decide_eq_true h2
      have hnx : s.next o key = s.left := by unfold Tr.next; rw [if_pos h2]
      rw [hnx] at h5 hlt
      refine do_call Tryz.call123 (c_left0 hN0 (hy.blks _ _ h5).1 fun ql hql => retS_ret ⟨_, rfl, ⟨s.left, ql, rfl, hql, h5, hA.left, by omega⟩, ?_⟩)
      show szAt (.pointer ql) w5 < szAt (.pointer p) w2
      rw [szAt_of (hql.ext (hy.blks _ _ h5).1), szAt_of hN]; exact hlt
    · have h2 := of_decide_eq_false h2
      have hnx : s.next o key = s.right := by unfold Tr.next; rw [if_neg h2]
      rw [hnx] at h5 hlt
      refine do_call Tryz.call125 (c_right0 hN0 (hy.blks _ _ h5).1 fun ql hql => retS_ret ⟨_, rfl, ⟨s.right, ql, rfl, hql, h5, hA.right, by omega⟩, ?_⟩)
      show szAt (.pointer ql) w5 < szAt (.pointer p) w2
      rw [szAt_of (hql.ext (hy.blks _ _ h5).1), szAt_of hN]; exact hlt
theorem c_fway {o key : Int} {pt : Option Addr} {w : World} {R : Ending → World → Prop} (h : ∀ bt bo bk w', Ext w w' → w.heap.size ≤ bt → w.heap.size ≤ bo → w.heap.size ≤ bk → Blk w' bt #[.pointer pt] 35 → Blk w' bo #[.int .u8 o] 5 → Blk w' bk #[.int .i64 key] 2 →
      R (.returned (.func (.func 259) #[] #[.pointer (some (blk bo)), .pointer (some (blk bt)), .pointer (some (blk bk))])) w') : Calls Tryz.prog 206 #[.int .u8 o, .pointer pt, .int .i64 key] w R := by
  refine sh206_ok _ _ _ ?_
  unfold sh206
  refine ⟨⟨⟨?_⟩⟩⟩
  have e1 := ext_alloc w (.cells #[.int .u8 o] 5)
  have h1 := blk_alloc w #[.int .u8 o] 5
  generalize hb1 : w.heap.size = b1 at *
  generalize w.alloc (.cells #[.int .u8 o] 5) = w1 at *
  have e2 := ext_alloc w1 (.cells #[.pointer pt] 35)
  have h2 := blk_alloc w1 #[.pointer pt] 35
  have h1' := h1.ext e2
  have l1 := h1.lt
  generalize hb2 : w1.heap.size = b2 at *
  generalize w1.alloc (.cells #[.pointer pt] 35) = w2 at *
  have e3 := ext_alloc w2 (.cells #[.int .i64 key] 2)
  have h3 := blk_alloc w2 #[.int .i64 key] 2
  have l2 := h2.lt
  exact h _ _ _ _ ((e1.trans e2).trans e3) (by omega) (by omega) (by omega) (h2.ext e3) (h1'.ext e3) h3
/-- the function that keeps -/
abbrev keepV (bx : Nat) : Value := .func (.func 257) #[] #[.pointer (some (blk bx))]
theorem c_findlast {w : World} {R : Ending → World → Prop} (h : ∀ b w', Ext w w' → w.heap.size ≤ b → Blk w' b #[.pointer none] 35 → R (.returned (.tuple #[keepV b, .func (.func 258) #[] #[.pointer (some (blk b))]])) w') :
    Calls Tryz.prog 205 #[] w R := by
  refine sh205_ok ?_
  unfold sh205
  exact ⟨h _ _ (ext_alloc w _) (Nat.le_refl _) (blk_alloc w _ _)⟩
theorem c_findkeep {p kp : Option Addr} {is : Bool} {bx : Nat} {w : World} {R : Ending → World → Prop} (hb : Blk w bx #[.pointer kp] 35) (h : ∀ w', w.grownBy w' (some bx) → Blk w' bx #[.pointer (if is then p else kp)] 35 → R (.returned (.tuple #[])) w') :
    doCall Tryz.prog (keepV bx) #[.pointer p, .bool is] w R := by
  refine do_callc Tryz.call257 (by rfl) (sh257_ok _ _ _ ?_)
  unfold sh257
  cases is
  · exact ifB_f rfl (h w (grown_refl w _) hb)
  · exact ifB_t rfl (do_st (i := 0) hb (add_blk _ _) (by simp) fun w1 h1 g1 => h w1 g1 h1)
theorem putf_back {w w1 : World} {l b : Nat} {o o1 : Obj} (h : w.heap[l]? = some o) (g : (w.putObj l o1).grownBy w1 (some b)) : w.grownBy (w1.putObj l o) (some b) := by
  have g0 := put_grown w l o1
  have g2 := put_grown w1 l o
  have hl := (Array.getElem?_eq_some_iff.1 h).1
  refine ⟨(g2.os.trans g.os).trans g0.os, (g2.tape.trans g.tape).trans g0.tape, (g2.output.trans g.output).trans g0.output, Nat.le_trans g0.size (Nat.le_trans g.size g2.size), fun k hk hne => ?_⟩
  by_cases hkl : k = l
  · subst hkl
    rw [h]
    exact World.putObj_heap_same (Nat.lt_of_lt_of_le hl (Nat.le_trans g0.size g.size))
  · rw [g2.block k (Nat.lt_of_lt_of_le hk (Nat.le_trans g0.size g.size)) (ne_some hkl), g.block k (Nat.lt_of_lt_of_le hk g0.size) hne, g0.block k hk (ne_some hkl)]
theorem c_findpair {p : Option Addr} {t : Tr} {w : World} {R : Ending → World → Prop} (ht : IsN w p t) (h : ∀ w', Ext w w' → R (.returned (.tuple #[agP (t.key, t.val), .bool t.nn])) w') : Calls Tryz.prog 207 #[.pointer p] w R := by
  refine sh207_ok _ ?_
  unfold sh207
  refine ⟨?_⟩
  have e1 := ext_alloc w (.cells #[.int .i64 0, .int .i64 0] 46)
  have hb := blk_alloc w #[.int .i64 0, .int .i64 0] 46
  cases t with
  | nil =>
    obtain rfl : p = none := ht
    exact ifB_t rfl (do_st2 hb fun w2 h2 g2 => ⟨_, h2.cell (i := 0) (add_blk _ _) rfl, _, h2.cell (i := 1) (add_blk _ _) rfl, h _ (e1.st g2 (Nat.le_refl _))⟩)
  | node l k v g r =>
    have hnn : p.isNone = false := ht.isNone
    refine ifB_f hnn ?_
    refine do_call Tryz.call108 (c_key (ht.ext e1) fun w2 e2 => retS_ret ⟨_, rfl, ?_⟩)
    refine do_call Tryz.call126 (c_val ((ht.ext e1).ext e2) fun w3 e3 => retS_ret ⟨_, rfl, ?_⟩)
    refine do_st2 (hb.ext (e2.trans e3)) fun w4 h4 g4 => ⟨_, h4.cell (i := 0) (add_blk _ _) rfl, _, h4.cell (i := 1) (add_blk _ _) rfl, h _ ((e1.trans (e2.trans e3)).st g4 (Nat.le_refl _))⟩
/-- what the states of a search are -/
def StF (o key : Int) (sel : Int → Bool) (w : World) (t : Tr) (pt : Option Addr) (bx bf bt bo bk d : Nat) (L : Loop) (s : Tr) (w' : World) : Prop :=
  Ext w w' ∧ (∃ kp acc, Blk w' bx #[.pointer kp] 35 ∧ IsN w kp acc ∧ lastN o key sel s acc = lastN o key sel t .nil ∧ (s = t → acc = .nil)) ∧ Blk w' bf #[keepV bx] 270 ∧
    Blk w' bt #[.pointer pt] 35 ∧ Blk w' bo #[.int .u8 o] 5 ∧ Blk w' bk #[.int .i64 key] 2 ∧ w'.heap[d]? = some (.deferred (some [])) ∧ w'.heap[d + 1]? = some (.loop L)
def FinF (o key : Int) (sel : Int → Bool) (w : World) (t : Tr) (bx d : Nat) (L : Loop) (w' : World) : Prop :=
  Ext w w' ∧ (∃ kp, Blk w' bx #[.pointer kp] 35 ∧ IsN w kp (lastN o key sel t .nil)) ∧ w'.heap[d]? = some (.deferred (some [])) ∧ w'.heap[d + 1]? = some (.loop L)
theorem fwayTo {o key : Int} {sel : Int → Bool} {w : World} {t : Tr} {pt : Option Addr} {bx bf bt bo bk d : Nat} {L : Loop} (hw : w.heap.size ≤ bx) (n1 : bx < bf) (n2 : bf < bt) (n3 : bf < bo) (n4 : bf < bk) (n5 : bt < d)
    (hround : ∀ (p kp : Option Addr) (c : Int) (w' : World) (R' : Ending → World → Prop), w'.heap[d + 1]? = some (.loop L) → Blk w' bf #[keepV bx] 270 → Blk w' bx #[.pointer kp] 35 →
      (∀ w'', w'.grownBy w'' (some bx) → Blk w'' bx #[.pointer (if sel c then p else kp)] 35 → R' (.returned (.bool true)) w'') → doCall Tryz.prog (.func (.yield (d + 1)) #[] #[]) #[.pointer p, .int .i64 c] w' R') :
    WayTo o key w pt t bt bo bk (.func (.yield (d + 1)) #[] #[]) (StF o key sel w t pt bx bf bt bo bk d L) (FinF o key sel w t bx d L) := by
  refine ⟨?_, ?_, ?_, ?_⟩
  · rintro s w' ⟨E, _, _, h1, h2, h3, _⟩
    exact ⟨E, h1, h2, h3⟩
  · rintro s w' w'' ⟨E, ⟨kp, acc, h0, h1, h2⟩, h3, h4, h5, h6, h7, h8⟩ e
    exact ⟨E.trans e, ⟨kp, acc, h0.ext e, h1, h2⟩, h3.ext e, h4.ext e, h5.ext e, h6.ext e, e.heap h7, e.heap h8⟩
  · rintro s p w' hsn hA hsz hN ⟨E, ⟨kp, acc, h0, h1, h2, h2'⟩, h3, h4, h5, h6, h7, h8⟩ R' hR'
    refine hround p kp _ w' R' h8 h3 h0 fun w'' g hb => hR' w'' ?_
    have hE := E.st g hw
    rw [lastN_next hsn] at h2
    have hN' : IsN w (if sel (cmpI o key s.key) then p else kp) (if sel (cmpI o key s.key) then s else acc) := by split <;> assumption
    by_cases hc : cmpI o key s.key = 0
    · rw [if_pos hc] at h2 ⊢
      rw [h2] at hN'
      exact ⟨hE, ⟨_, hb, hN'⟩, heap_grown g h7 (ne_some (by omega)), heap_grown g h8 (ne_some (by omega))⟩
    · rw [if_neg hc] at h2 ⊢
      refine ⟨hE, ⟨_, _, hb, hN', h2, fun e => ?_⟩, h3.grown g (ne_some (by omega)), h4.grown g (ne_some (by omega)), h5.grown g (ne_some (by omega)), h6.grown g (ne_some (by omega)), heap_grown g h7 (ne_some (by omega)), heap_grown g h8 (ne_some (by omega))⟩
      have := Tr.next_lt hsn o key
      rw [e] at this; omega
  · rintro w' ⟨E, _⟩
    exact E
set_option maxRecDepth 20000 in
theorem c_fget {o key : Int} {t : Tr} {pt : Option Addr} {w : World} {R : Ending → World → Prop} (ht : IsN w pt t) (hk : In key) (hA : AllK t)
    (h : ∀ w', Ext w w' → R (.returned (.tuple #[.int .i64 (lastR o t key (fun c => ((c : Int) == 0))).val, .bool (lastR o t key (fun c => ((c : Int) == 0))).nn])) w') : Calls Tryz.prog 149 #[.int .u8 o, .pointer pt, .int .i64 key] w R := by
  refine sh149_ok _ _ _ ?_
  unfold sh149
  have e0 := ext_refl w
  intro K11
  refine do_call Tryz.call205 (c_findlast fun bx w2 e2 hbx hx => retS_ret (.inl ⟨_, _, _, _, _, _, rfl, ⟨?_⟩⟩))
  have lx := hx.lt
  refine do_st (blk_alloc w2 #[.nilFunc] 270) (i := 0) (add_blk _ _) (by simp) fun w3 hf3 g3 => ?_
  have hf3 : Blk w3 w2.heap.size #[keepV bx] 270 := hf3
  have e3 : Ext w2 w3 := (ext_alloc w2 _).st g3 (Nat.le_refl _)
  obtain ⟨bf, hbf⟩ : ∃ bf, bf = w2.heap.size := ⟨_, rfl⟩
  rw [← hbf] at hf3 ⊢
  have lf := hf3.lt
  simp -zeta -zetaHave only [K11]
  refine do_call Tryz.call206 (c_fway fun bt bo bk w4 e4 hbt hbo hbk h1 h2 h3 => retS_ret ⟨_, _, _, rfl, do_rf fun fn L w5 d hd hL hst hpe e5 hd5 hl5 => ?_⟩)
  have E4 : Ext w w4 := (e0.trans e2).trans (e3.trans e4)
  have E5 := E4.trans e5
  have hx5 := hx.ext ((e3.trans e4).trans e5)
  have hf5 := hf3.ext (e4.trans e5)
  have ht5 := h1.ext e5
  have ho5 := h2.ext e5
  have hk5 := h3.ext e5
  have n1 : bx < bf := by omega
  have n2 : bf < bt := by omega
  have n3 : bf < bo := by omega
  have n4 : bf < bk := by omega
  have n5 : bt < d := by rw [hd]; exact h1.lt
  have hwx : w.heap.size ≤ bx := Nat.le_trans e0.size hbx
  clear e2 e3 e4 e5 hx hf3 h1 h2 h3 g3 lx lf
  rw [← hd]
  have hround : ∀ (p kp : Option Addr) (c : Int) (w' : World) (R' : Ending → World → Prop), w'.heap[d + 1]? = some (.loop L) → Blk w' bf #[keepV bx] 270 → Blk w' bx #[.pointer kp] 35 →
      (∀ w'', w'.grownBy w'' (some bx) → Blk w'' bx #[.pointer (if ((c : Int) == 0) then p else kp)] 35 → R' (.returned (.bool true)) w'') → doCall Tryz.prog (.func (.yield (d + 1)) #[] #[]) #[.pointer p, .int .i64 c] w' R' := by
    intro p kp c w' R' hl hf hx hR'
    refine sh149_0_ok (by rw [hl, hL]) ?_
    unfold sh149_0
    refine ⟨_, hl, hst, ?_⟩
    have g1 := put_grown w' (d + 1) (.loop { L with state := .busy })
    refine ⟨_, _, _, (hf.grown g1 (ne_some (by omega))).cell (i := 0) rfl rfl, ?_⟩
    refine c_findkeep (hx.grown g1 (ne_some (by omega))) fun w1 g2 hx1 => retS_ret ⟨rfl, _, heap_grown g2 (put_heap hl) (ne_some (by omega)), ?_⟩
    rw [rec_back hst hpe]
    exact hR' _ (putf_back hl g2) (hx1.grown (put_grown _ _ _) (ne_some (by omega)))
  have hend : ∀ {w' : World} {kp : Option Addr} (Kf : List PanicEntry → World → Prop), Ext w w' → Blk w' bx #[.pointer kp] 35 → IsN w kp (lastR o t key (fun c => ((c : Int) == 0))) → w'.heap[d]? = some (.deferred (some [])) →
      doCall Tryz.prog (.func (.func 258) #[] #[.pointer (some (blk bx))]) #[] w' (retS (fun v22 w23 => ∃ (x21 : Option Addr), v22 = (.pointer x21 : Value) ∧ (
        doCall Tryz.prog (.func (.func 207) #[] #[]) #[.pointer x21] w23 (retS (fun v27 w28 => ∃ (x24 : Int), ∃ (x25 : Int), ∃ (x26 : Bool), v27 = (.tuple #[.agg #[.int .i64 x24, .int .i64 x25], .bool x26] : Value) ∧ (
        doAl (.cells #[.int .i64 0, .int .i64 0] 46) w28 (fun b29 w30 => doSt ((blk b29).add 0) (.int .i64 x24) w30 (fun w31 => doSt ((blk b29).add 1) (.int .i64 x25) w31 (fun w32 =>
        ∃ (x33 : Int), World.cell? w32 ((blk b29).add 1) = some (.int .i64 x33) ∧ (w32.heap[d]? = some (.deferred (some [])) ∧ (
        R (.returned (.tuple #[.int .i64 x33, .bool x26])) (w32.putObj d (.deferred none))))))))) Kf))) Kf) := by
    intro w' kp Kf E hb hN hd'
    refine do_callc Tryz.call258 (by rfl) (sh258_ok _ ?_)
    unfold sh258
    refine ⟨_, hb.cell (i := 0) rfl rfl, retS_ret ⟨_, rfl, ?_⟩⟩
    refine do_call Tryz.call207 (c_findpair (hN.ext E) fun w6 e6 => retS_ret ⟨_, _, _, rfl, ⟨?_⟩⟩)
    refine do_st2 (blk_alloc w6 _ _) fun w7 h7 g7 => ⟨_, h7.cell (i := 1) (add_blk _ _) rfl, ?_⟩
    have e7 : Ext w' w7 := e6.trans ((ext_alloc w6 _).st g7 (Nat.le_refl _))
    exact ⟨e7.heap hd', h _ ((E.trans e7).put (by omega) _)⟩
  have hW := fwayTo (o := o) (key := key) (sel := (fun c => ((c : Int) == 0))) (t := t) (pt := pt) hwx n1 n2 n3 n4 n5 hround
  refine callE_c Tryz.call259 (by rfl) (c_fway1 hW ht hk hA ⟨E5, ⟨none, .nil, hx5, rfl, rfl, fun _ => rfl⟩, hf5, ht5, ho5, hk5, hd5, hl5⟩ ?_ ?_ ?_)
  · rintro hno w' ⟨E6, ⟨kp, acc, h0, h1, h2, h2'⟩, h3, h4, h5, h6, h7, h8⟩
    refine rf_done h8 (by rw [hst]; simp) hpe fun ob => ?_
    have gob := put_grown w' (d + 1) ob
    refine hend _ (E6.put (by omega) _) (h0.grown gob (ne_some (by omega))) ?_ (heap_grown gob h7 (ne_some (by omega)))
    unfold lastR; rw [hno]; rw [h2' rfl] at h1; exact h1
  · rintro w' hyes ⟨E6, ⟨kp, acc, h0, h1, h2, h2'⟩, h3, h4, h5, h6, h7, h8⟩
    refine rf_done h8 (by rw [hst]; simp) hpe fun ob => ?_
    have gob := put_grown w' (d + 1) ob
    refine hend _ (E6.put (by omega) _) (h0.grown gob (ne_some (by omega))) ?_ (heap_grown gob h7 (ne_some (by omega)))
    unfold lastR; rw [hyes, cond_true, ← h2]; exact h1
  · rintro w' hyes ⟨E6, ⟨kp, h0, h1⟩, h7, h8⟩
    refine rf_done h8 (by rw [hst]; simp) hpe fun ob => ?_
    have gob := put_grown w' (d + 1) ob
    refine hend _ (E6.put (by omega) _) (h0.grown gob (ne_some (by omega))) ?_ (heap_grown gob h7 (ne_some (by omega)))
    unfold lastR; rw [hyes, cond_true]; exact h1
end Go.Proofs.YtlddfgfmkapoiaaGreat

namespace Go.Proofs.YtlddfgfmkapoiaaGreat
open Go Go.Sh Go.RowKit

theorem lastN_mem {o key : Int} (ho : isO o = true) (hk : In key) : ∀ {t acc : Tr}, AllK t → (t.pairs.map (·.1)).Pairwise (ltO o) → acc.nn = false → ((lastN o key (fun c => (c : Int) == 0) t acc).nn = true ↔ key ∈ t.pairs.map (·.1))
  | .nil, acc, _, _, ha => by simp [lastN, ha, Tr.pairs]
  | .node l k v g r, acc, hA, hp, ha => by
    have e0 : (Tr.node l k v g r).pairs = l.pairs ++ (k, v) :: r.pairs := rfl
    have hAl : AllK l := fun x hx => hA x (by rw [e0]; simp [hx])
    have hAk : In k := hA (k, v) (by rw [e0]; simp)
    have hAr : AllK r := fun x hx => hA x (by rw [e0]; simp [hx])
    have e : (Tr.node l k v g r).pairs.map (·.1) = l.pairs.map (·.1) ++ k :: r.pairs.map (·.1) := by
      show (l.pairs ++ (k, v) :: r.pairs).map (·.1) = _
      simp
    rw [e] at hp ⊢
    obtain ⟨hpl, hpr, hx⟩ := List.pairwise_append.1 hp
    obtain ⟨hkr, hpr⟩ := List.pairwise_cons.1 hpr
    rw [lastN]
    have hself := cmpI_self o key
    by_cases h1 : cmpI o key k < 0
    · have n1 : ¬ cmpI o key k = 0 := by omega
      rw [if_pos h1]
      simp only [beq_eq_false_iff_ne.2 n1, Bool.false_eq_true, if_false]
      rw [lastN_mem ho hk hAl hpl ha, List.mem_append, List.mem_cons]
      constructor
      · exact .inl
      · rintro (h | rfl | h)
        · exact h
        · omega
        · have : cmpI o key key < 0 := cmpI_trans h1 (hkr _ h)
          omega
    · rw [if_neg h1]
      by_cases h2 : cmpI o key k = 0
      · rw [if_pos h2]
        have hkk := cmpI_eq ho hk hAk h2
        simp only [h2, beq_self_eq_true, if_true]
        simp [hkk, Tr.nn]
      · rw [if_neg h2]
        simp only [beq_eq_false_iff_ne.2 h2, Bool.false_eq_true, if_false]
        have h3 : ltO o k key := cmpI_pos (by omega)
        rw [lastN_mem ho hk hAr hpr ha, List.mem_append, List.mem_cons]
        constructor
        · intro h; exact .inr (.inr h)
        · rintro (h | rfl | h)
          · have : cmpI o key key < 0 := cmpI_trans (hx _ h _ (by simp)) h3
            omega
          · omega
          · exact h
section
variable {c o : Int} {b bx : Nat} {px : Option Addr} {K : List Int} {w : World} {R : Ending → World → Prop}
theorem c_shas {key : Int} (ho : isO o = true) (hk : In key) (hx : SetU c o b px bx K w) (h : ∀ w', Ext w w' → R (.returned (.bool (decide (key ∈ K)))) w') : Calls Tryz.prog 78 #[.pointer (some (blk bx)), .int .i64 key] w R := by
  refine sh78_ok _ _ ?_
  unfold sh78
  obtain ⟨t, pt, x1, x2, x3⟩ := hx.ex
  refine ifB_f rfl ?_
  have d := ext_drew w
  refine ⟨⟨fun w' => Ext w w', d, _, rfl, _, fun w' e => by rw [add_zero']; exact (x1.ext e).cell (i := 1) (add_blk _ _) rfl, _, rfl, _, fun w' e => (x1.ext e).cell (i := 3) (add_blk _ _) rfl, ?_⟩⟩
  refine do_call Tryz.call149 (c_fget (x2.ext d) hk (fun x hx => (x3.inP x hx).1) fun w1 e1 => retS_ret ⟨_, _, rfl, ?_⟩)
  have e : (lastR o t key fun c => (c : Int) == 0).nn = decide (key ∈ K) := by
    rw [Bool.eq_iff_iff, decide_eq_true_iff]
    unfold lastR
    rw [ho, cond_true, lastN_mem ho hk (fun x hx => (x3.inP x hx).1) (by rw [x3.prs]; exact x3.asc) rfl, x3.prs]
  rw [e]
  exact h w1 (d.trans e1)
theorem c_scopy (hx : SetU c o b px bx K w) (h : ∀ by_ w', Ext w w' → by_ = w.heap.size → SetU c o b px by_ K w' → R (.returned (.pointer (some (blk by_)))) w') : Calls Tryz.prog 73 #[.pointer (some (blk bx))] w R := by
  refine sh73_ok _ ?_
  unfold sh73
  obtain ⟨t, pt, x1, x2, x3⟩ := hx.ex
  refine ifB_f rfl ⟨_, rfl, _, x1.cell (i := 0) (add_blk _ _) rfl, _, x1.cell (i := 1) (add_blk _ _) rfl, _, x1.cell (i := 2) (add_blk _ _) rfl, _, x1.cell (i := 3) (add_blk _ _) rfl, ⟨?_⟩⟩
  have e0 := ext_alloc w (.cells #[.pointer none, .int .u8 0, .pointer none, .pointer none] 174)
  refine do_st (blk_alloc w #[.pointer none, .int .u8 0, .pointer none, .pointer none] 174) (i := 0) (add_blk _ _) (by simp) fun w1 h1 g1 => ?_
  refine do_st h1 (i := 1) (add_blk _ _) (by simp) fun w2 h2 g2 => ?_
  refine do_st h2 (i := 2) (add_blk _ _) (by simp) fun w3 h3 g3 => ?_
  refine do_st h3 (i := 3) (add_blk _ _) (by simp) fun w4 h4 g4 => ?_
  have h4 : Blk w4 w.heap.size (setV b o px pt) 174 := h4
  have E := e0.st (grown_trans (grown_trans (grown_trans g1 g2) g3) g4) (Nat.le_refl _)
  exact h _ w4 E rfl ⟨t, pt, h4, x2.ext E, x3⟩
end
end Go.Proofs.YtlddfgfmkapoiaaGreat

namespace Go.Sh
open Go Go.RowKit Go.ChangeShapes Go.WideShapes Go.Deep

theorem cs_flat {α : Type} {enc : α → List Value} {s : Nat} (hs : ∀ x, (enc x).length = s) {w : World} {a : Addr} {l : List α}
    (h : ∀ i (hi : i < l.length), ∀ j, j < s → w.cell? (a.add (i * s + j)) = (enc l[i])[j]?) : Cs w (some a) (l.flatMap enc) := by
  induction l generalizing a with
  | nil => intro i v hv; simp at hv
  | cons x xs ih =>
    intro i v hv
    refine ⟨a, rfl, ?_⟩
    rw [List.flatMap_cons] at hv
    rcases Nat.lt_or_ge i s with hi | hi
    · rw [List.getElem?_append_left (by rw [hs]; exact hi)] at hv
      have := h 0 (by simp) i hi
      simp only [Nat.zero_mul, Nat.zero_add, List.getElem_cons_zero] at this
      rw [this]; exact hv
    · rw [List.getElem?_append_right (by rw [hs]; exact hi), hs] at hv
      have := ih (a := a.add s) (fun i hi j hj => by
        have := h (i + 1) (by simpa using hi) j hj
        simp only [List.getElem_cons_succ] at this
        rw [Sh.add_add, show s + (i * s + j) = (i + 1) * s + j by rw [Nat.add_mul]; omega]
        exact this) (i - s) v hv
      obtain ⟨b, hb, hc⟩ := this
      cases hb
      rw [Sh.add_add, show s + (i - s) = i by omega] at hc
      exact hc
theorem list_of {α : Type} {p : Nat → α → Prop} (n : Nat) (h : ∀ i, i < n → ∃ x, p i x) : ∃ l : List α, l.length = n ∧ ∀ i (hi : i < l.length), p i l[i] := by
  induction n with
  | zero => exact ⟨[], rfl, fun i hi => by simp at hi⟩
  | succ n ih =>
    obtain ⟨l, hl, hp⟩ := ih fun i hi => h i (by omega)
    obtain ⟨x, hx⟩ := h n (by omega)
    refine ⟨l ++ [x], by simp [hl], fun i hi => ?_⟩
    rcases Nat.lt_or_ge i l.length with h1 | h1
    · rw [List.getElem_append_left h1]; exact hp i h1
    · have : i = l.length := by simp at hi; omega
      subst this
      simp [hl]; exact hx
variable {H : Type} {enc : TypeId × Value → H} {P : Program} {w : World} {base : Nat} {spare : Nat → Bool} {held : Bool}
/-- A slice of structs, each element read. -/
theorem arg_slice {α : Type} {ec : α → List Value} {Pr : α → Prop} {s : Nat} (hs : ∀ x, (ec x).length = s) {t e : TypeId} (ht : P.underlying t = some (.slice e)) (hc : P.cellsOf e = s)
    (hdec : ∀ n cs y, DataW.trod enc P w base spare held n e cs = some y → ∃ x : α, cs = ec x ∧ Pr x) {q : Option Addr} {len cap : Nat} {d : DataW H} {p : List MemPlace} (h : DataW.Trod enc P w base spare held t (.slice q len cap) d p) :
    ∃ l : List α, l.length = len ∧ Cs w q (l.flatMap ec) ∧ (∀ x ∈ l, Pr x) ∧ len ≤ cap ∧ cap ≤ maxLen ∧ (q = none → len = 0 ∧ cap = 0) := by
  obtain ⟨fuel, hf⟩ := h
  rcases open_slice ht hf with ⟨hcs, _⟩ | ⟨a, l', c', m, n, D, Pl, hcs, hb, hl, hm, hmm, hx, hi⟩
  · simp [Value.cells] at hcs
    obtain ⟨rfl, rfl, rfl⟩ := hcs
    exact ⟨[], rfl, Sh.cs_nil _ _, by simp, Nat.le_refl _, Nat.zero_le _, fun _ => ⟨rfl, rfl⟩⟩
  · simp [Value.cells] at hcs
    obtain ⟨rfl, rfl, rfl⟩ := hcs
    have hlm : len ≤ m := by rw [hmm]; split <;> omega
    obtain ⟨l, hll, hp⟩ := list_of (p := fun i (x : α) => (∀ j, j < s → w.cell? (a.add (i * s + j)) = (ec x)[j]?) ∧ Pr x) len (fun i hil => by
      obtain ⟨cs', hcc, htr⟩ := hi i (by omega)
      rw [hc] at hcc
      obtain ⟨_, hcl, hat⟩ := World.cells?_some hcc
      obtain ⟨x, rfl, hpx⟩ := hdec _ _ _ htr
      refine ⟨x, fun j hj => ?_, hpx⟩
      rw [← Sh.add_add]; exact hat j hj)
    refine ⟨l, hll, cs_flat hs fun i hi j hj => (hp i hi).1 j hj, fun x hx => ?_, hl, hm, by simp⟩
    obtain ⟨i, hi, rfl⟩ := List.getElem_of_mem hx
    exact (hp i hi).2
theorem in64_of {x : Int} (h : (Lit.int .i64 x).wf = true) : -9223372036854775808 ≤ x ∧ x < 9223372036854775808 := by
  simp [Lit.wf, IntKind.min, IntKind.max, IntKind.signed, IntKind.bits] at h
  omega
theorem u64_of {x : Int} (h : (Lit.int .u64 x).wf = true) : 0 ≤ x ∧ x < 18446744073709551616 := by
  simp [Lit.wf, IntKind.min, IntKind.max, IntKind.signed, IntKind.bits] at h
  omega
end Go.Sh

namespace Go.Proofs.YtlddfgfmkapoiaaGreat
open Go Go.Sh Go.RowKit Go.ChangeShapes Go.WideShapes

variable {H : Type} {enc : TypeId × Value → H} {w : World} {base : Nat} {spare : Nat → Bool} {held : Bool}
/-- a slice of numbers that came in -/
def Is_ints (w : World) (q : Option Addr) (len cap : Nat) (l : List Int) : Prop := l.length = len ∧ Cs w q (ints l) ∧ (∀ x ∈ l, In x) ∧ len ≤ cap ∧ cap ≤ maxLen ∧ (q = none → len = 0 ∧ cap = 0)
theorem ints_of {t e : TypeId} (ht : Tryz.prog.underlying t = some (.slice e)) (he : Tryz.prog.underlying e = some (.int .i64)) (hc : Tryz.prog.cellsOf e = 1) {q : Option Addr} {len cap : Nat} {d : DataW H} {p : List MemPlace}
    (h : DataW.Trod enc Tryz.prog w base spare held t (.slice q len cap) d p) : ∃ l, Is_ints w q len cap l := by
  obtain ⟨l, h1, h2, h3⟩ := arg_slice (ec := fun x : Int => [.int .i64 x]) (Pr := fun x => In x) (s := 1) (fun _ => rfl) ht hc (fun n cs y hy => by
    obtain ⟨m, hm, _, hw⟩ := DataW.trod_int he hy
    exact ⟨m, hm, in64_of hw⟩) h
  refine ⟨l, h1, ?_, h3⟩
  unfold ints
  rw [List.map_eq_flatMap]
  exact h2
set_option maxRecDepth 100000 in
theorem ints_arg {q : Option Addr} {len cap : Nat} {d : DataW H} {p : List MemPlace} (h : DataW.Trod enc Tryz.prog w base spare held 24 (.slice q len cap) d p) : ∃ l, Is_ints w q len cap l :=
  ints_of Tryz.underlying24 Tryz.underlying2 (by kernel_rfl) h
/-- a slice of uint64 that came in -/
def Is_us (w : World) (q : Option Addr) (len cap : Nat) (l : List Int) : Prop := l.length = len ∧ Cs w q (l.flatMap fun x => [.int .u64 x]) ∧ (∀ x ∈ l, 0 ≤ x ∧ x < 18446744073709551616) ∧ len ≤ cap ∧ cap ≤ maxLen ∧ (q = none → len = 0 ∧ cap = 0)
set_option maxRecDepth 100000 in
theorem us_arg {q : Option Addr} {len cap : Nat} {d : DataW H} {p : List MemPlace} (h : DataW.Trod enc Tryz.prog w base spare held 23 (.slice q len cap) d p) : ∃ l, Is_us w q len cap l := by
  exact arg_slice (ec := fun x : Int => [.int .u64 x]) (Pr := fun x => 0 ≤ x ∧ x < 18446744073709551616) (s := 1) (fun _ => rfl) Tryz.underlying23 (by kernel_rfl) (fun n cs y hy => by
    obtain ⟨m, hm, _, hw⟩ := DataW.trod_int Tryz.underlying75 hy
    exact ⟨m, hm, u64_of hw⟩) h
/-- the same, with what a process's memory holds at most -/
def Is_usB (w : World) (q : Option Addr) (len cap : Nat) (l : List Int) : Prop := Is_us w q len cap l ∧ len ≤ 17592186044416
set_option maxRecDepth 100000 in
theorem usB_arg {q : Option Addr} {len cap : Nat} {d : DataW H} {p : List MemPlace} (h : DataW.Trod enc Tryz.prog w base spare held 23 (.slice q len cap) d p) {ts : List TypeId} {ds : List (DataW H)} (hz : (DataW.weightsEach Tryz.prog ts ds).all (· ≤ reachBytes) = true) {j : Nat} (ht : ts[j]? = some 23) (hd : ds[j]? = some d) : ∃ l, Is_usB w q len cap l := by
  obtain ⟨l, hl⟩ := us_arg h
  refine ⟨l, hl, ?_⟩
  obtain ⟨fuel, hf⟩ := h
  rcases DataW.trod_slice Tryz.underlying23 hf with ⟨hcs, _⟩ | ⟨a, len', cap', elems, rest, n, _, hcs, hx, _, _, _, hlen, _⟩
  · simp [Value.cells] at hcs
    omega
  · simp [Value.cells] at hcs
    obtain ⟨_, rfl, _⟩ := hcs
    have hx := congrArg Prod.fst hx
    simp only at hx
    subst hx
    have k := sized_slice hz ht hd Tryz.underlying23
    have e8 : Tryz.prog.bytesOf 75 = 8 := by kernel_rfl
    have er : reachBytes = 140737488351232 := rfl
    rw [e8, er] at k
    simp only [List.length_map] at k
    omega
end Go.Proofs.YtlddfgfmkapoiaaGreat

namespace Go.Proofs.YtlddfgfmkapoiaaGreat
open Go Go.Sh Go.RowKit Go.ChangeShapes Go.WideShapes Go.Deep

variable {H : Type} {enc : TypeId × Value → H} {P : Program} {w : World} {base : Nat} {spare : Nat → Bool} {held : Bool}
theorem weights_all {e : TypeId} {m : Nat} : ∀ {l : List (DataW H)} {d : DataW H}, d ∈ l → m ∈ d.weights P e → m ∈ DataW.weightsAll P e l
  | [], _, h, _ => by cases h
  | x :: l, d, h, hm => by
    simp only [DataW.weightsAll, List.mem_append]
    rcases List.mem_cons.1 h with rfl | h
    · exact .inl hm
    · exact .inr (weights_all h hm)
/-- a slice of structs, each element read, no slice in it larger than a process's memory -/
theorem arg_sliceZ {α : Type} {ec : α → List Value} {Pr : α → Prop} {s : Nat} (hs : ∀ x, (ec x).length = s) {t e : TypeId} (ht : P.underlying t = some (.slice e)) (hc : P.cellsOf e = s)
    (hdec : ∀ n cs y, DataW.trod enc P w base spare held n e cs = some y → (∀ m ∈ y.1.weights P e, m ≤ reachBytes) → ∃ x : α, cs = ec x ∧ Pr x) {q : Option Addr} {len cap : Nat} {d : DataW H} {p : List MemPlace} (h : DataW.Trod enc P w base spare held t (.slice q len cap) d p)
    (hz : ∀ m ∈ d.weights P t, m ≤ reachBytes) :
    ∃ l : List α, l.length = len ∧ Cs w q (l.flatMap ec) ∧ (∀ x ∈ l, Pr x) ∧ len ≤ cap ∧ cap ≤ maxLen ∧ (q = none → len = 0 ∧ cap = 0) := by
  obtain ⟨fuel, hf⟩ := h
  rcases open_slice ht hf with ⟨hcs, _⟩ | ⟨a, l', c', m, n, D, Pl, hcs, hb, hl, hm, hmm, hx, hi⟩
  · simp [Value.cells] at hcs
    obtain ⟨rfl, rfl, rfl⟩ := hcs
    exact ⟨[], rfl, Sh.cs_nil _ _, by simp, Nat.le_refl _, Nat.zero_le _, fun _ => ⟨rfl, rfl⟩⟩
  · simp [Value.cells] at hcs
    obtain ⟨rfl, rfl, rfl⟩ := hcs
    have hx := congrArg Prod.fst hx
    simp only at hx
    subst hx
    have hlm : len ≤ m := by rw [hmm]; split <;> omega
    obtain ⟨l, hll, hp⟩ := list_of (p := fun i (x : α) => (∀ j, j < s → w.cell? (a.add (i * s + j)) = (ec x)[j]?) ∧ Pr x) len (fun i hil => by
      obtain ⟨cs', hcc, htr⟩ := hi i (by omega)
      rw [hc] at hcc
      obtain ⟨_, hcl, hat⟩ := World.cells?_some hcc
      obtain ⟨x, rfl, hpx⟩ := hdec _ _ _ htr fun k hk => hz k (by
        simp only [DataW.weights, ht, List.mem_cons, List.mem_append]
        exact .inr (.inl (weights_all (List.mem_map.2 ⟨i, List.mem_range.2 hil, rfl⟩) hk)))
      refine ⟨x, fun j hj => ?_, hpx⟩
      rw [← Sh.add_add]; exact hat j hj)
    refine ⟨l, hll, cs_flat hs fun i hi j hj => (hp i hi).1 j hj, fun x hx => ?_, hl, hm, by simp⟩
    obtain ⟨i, hi, rfl⟩ := List.getElem_of_mem hx
    exact (hp i hi).2
/-- a step: what to do, and keys -/
structure Stp where
  d : Int
  q : Option Addr
  n : Nat
  c : Nat
  l : List Int
abbrev ecKS (x : Stp) : List Value := [.int .u8 x.d, .slice x.q x.n x.c]
/-- a slice of steps that came in -/
def Is_ksteps (w : World) (q : Option Addr) (len cap : Nat) (l : List Stp) : Prop := l.length = len ∧ Cs w q (l.flatMap ecKS) ∧ (∀ x ∈ l, Is_ints w x.q x.n x.c x.l ∧ x.n ≤ 17592186044416) ∧ len ≤ cap ∧ cap ≤ maxLen ∧ (q = none → len = 0 ∧ cap = 0)
set_option maxRecDepth 100000 in
theorem ksteps_arg {q : Option Addr} {len cap : Nat} {d : DataW H} {p : List MemPlace} (h : DataW.Trod enc Tryz.prog w base spare held 106 (.slice q len cap) d p) {ts : List TypeId} {ds : List (DataW H)} (hz : (DataW.weightsEach Tryz.prog ts ds).all (· ≤ reachBytes) = true) {j : Nat} (ht : ts[j]? = some 106) (hd : ds[j]? = some d) : ∃ l, Is_ksteps w q len cap l := by
  refine arg_sliceZ (ec := ecKS) (Pr := fun x => Is_ints w x.q x.n x.c x.l ∧ x.n ≤ 17592186044416) (s := 2) (fun _ => rfl) Tryz.underlying106 (by kernel_rfl) (fun n cs y hy hw => ?_) h fun m hm => by
    have := List.all_eq_true.1 hz _ (DataW.weights_mem_each ht hd m hm)
    simpa using this
  obtain ⟨y0, y1, n', rfl, hl, hf0, hf1⟩ := trod_struct2 Tryz.underlying109 hy
  have hce : Tryz.prog.cellsOf 109 = 2 := by kernel_rfl
  have hcp : Tryz.prog.cellsOf 5 = 1 := by kernel_rfl
  have hcb : Tryz.prog.cellsOf 24 = 1 := by kernel_rfl
  rw [hce] at hl
  match cs, hl with
  | [c0, c1], _ =>
    have hf0' : DataW.trod enc Tryz.prog w base spare held n' 5 [c0] = some y0 := by simpa [hcp] using hf0
    have hf1' : DataW.trod enc Tryz.prog w base spare held n' 24 [c1] = some y1 := by simpa [hcb] using hf1
    obtain ⟨m0, e0, _, w0⟩ := DataW.trod_int Tryz.underlying5 hf0'
    simp at e0
    subst e0
    have hww : ∀ m ∈ y1.1.weights Tryz.prog 24, m ≤ reachBytes := fun m hm => hw m (by
      simp only [DataW.weights, Tryz.underlying109, DataW.weightsEach, List.map_cons, List.map_nil, List.mem_append]
      exact .inr (.inl hm))
    obtain ⟨qq, nn, cc, rfl⟩ : ∃ qq nn cc, c1 = .slice qq nn cc := by
      rcases DataW.trod_slice Tryz.underlying24 hf1' with ⟨hcs, _⟩ | ⟨a, len', cap', elems, rest, n, _, hcs, _⟩
      · simp at hcs; exact ⟨_, _, _, hcs⟩
      · simp at hcs; exact ⟨_, _, _, hcs⟩
    have hT : DataW.Trod enc Tryz.prog w base spare held 24 (.slice qq nn cc) y1.1 y1.2 := ⟨n', hf1'⟩
    obtain ⟨l, hl⟩ := ints_arg hT
    refine ⟨⟨m0, qq, nn, cc, l⟩, rfl, hl, ?_⟩
    show nn ≤ 17592186044416
    rcases DataW.trod_slice Tryz.underlying24 hf1' with ⟨hcs, _⟩ | ⟨a, len', cap', elems, rest, n, _, hcs, hx, _, _, _, hlen, _⟩
    · simp at hcs; omega
    · simp at hcs
      obtain ⟨_, rfl, _⟩ := hcs
      rw [hx] at hww
      have k := hww ((elems.length + rest.length) * Tryz.prog.bytesOf 2) (by simp [DataW.weights, Tryz.underlying24])
      have e8 : Tryz.prog.bytesOf 2 = 8 := by kernel_rfl
      have er : reachBytes = 140737488351232 := rfl
      rw [e8, er] at k
      omega
end Go.Proofs.YtlddfgfmkapoiaaGreat

