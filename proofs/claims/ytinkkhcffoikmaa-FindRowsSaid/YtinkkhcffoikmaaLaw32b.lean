/-
  RankRows.
-/
import Derived.Test.YtinkkhcffoikmaaLaw32
import Derived.Test.YtinkkhcffoikmaaTree3
import Derived.Test.YtinkkhcffoikmaaL4
namespace Go.Proofs.Ytinkkhcffoikmaa
open Go Go.Sh Go.RowKit

theorem mayR_append {o : Int} {l r : List Pr} (h : mayR o (l ++ r) = true) : mayR o l = true ∧ mayR o r = true := by
  rw [mayR_iff] at *
  rw [List.map_append, List.pairwise_append] at h
  rw [mayR_iff]
  exact ⟨⟨h.1, h.2.1⟩, h.1, h.2.2.1⟩
theorem idxR_append {o key : Int} {l r : List Pr} : idxR o (l ++ r) key = if idxR o l key < l.length then idxR o l key else idxR o r key + l.length := by
  unfold idxR; exact List.findIdx_append
theorem idxR_cons {o key : Int} {x : Pr} {r : List Pr} : idxR o (x :: r) key = if 0 ≤ cmpI o x.1 key then 0 else idxR o r key + 1 := by
  unfold idxR
  rw [List.findIdx_cons]
  by_cases h : 0 ≤ cmpI o x.1 key <;> simp [h]
/-- in a tree whose keys rise the rank is the place in the row -/
theorem rank_eq {o key : Int} (hk : In key) : ∀ {t : Tr}, mayR o t.pairs = true → AllK t → rankN o key t = idxR o t.pairs key ∧ hasN o key t = hasR o t.pairs key
  | .nil, _, _ => ⟨rfl, by simp [hasN, hasR, Tr.pairs]⟩
  | .node l k v g r, hm, hA => by
    obtain ⟨hAl, hAk, hAr⟩ := hA.node
    have hm' := hm
    simp only [Tr.pairs] at hm ⊢
    obtain ⟨hml, hmr'⟩ := mayR_append hm
    have hmr : mayR o r.pairs = true := (mayR_append (l := [(k, v)]) hmr').2
    have ho := mayR_o hml
    obtain ⟨ihl1, ihl2⟩ := rank_eq hk hml hAl
    obtain ⟨ihr1, ihr2⟩ := rank_eq hk hmr hAr
    have hpw := (mayR_iff.1 hm).2
    rw [List.map_append, List.map_cons, List.pairwise_append, List.pairwise_cons] at hpw
    have hlk : ∀ x ∈ l.pairs, cmpI o x.1 k < 0 := fun x hx => hpw.2.2 _ (List.mem_map_of_mem hx) _ (List.mem_cons_self)
    have hkr : ∀ x ∈ r.pairs, cmpI o k x.1 < 0 := fun x hx => hpw.2.1.1 _ (List.mem_map_of_mem hx)
    have hkeyL : ∀ y : Pr, hasR o l.pairs key = true → key = y.1 → cmpI o key y.1 = 0 := fun y _ e => by rw [e, cmpI_self]
    have hmem : ∀ {q : List Pr}, mayR o q = true → (hasR o q key = true ↔ ∃ y ∈ q, y.1 = key) := fun {q} hq => by
      rw [hasR_iff hq]
      constructor
      · rintro ⟨i, hi, e⟩; exact ⟨_, List.getElem_mem hi, e⟩
      · rintro ⟨y, hy, e⟩
        obtain ⟨i, hi, rfl⟩ := List.getElem_of_mem hy
        exact ⟨i, hi, e⟩
    have hll : l.pairs.length = l.size := l.pairs_length
    simp only [rankN, hasN]
    rcases cmpI_vals o key k with h1 | h1 | h1
    · rw [h1, if_pos (by decide), if_pos (by decide)]
      have h2 : 0 < cmpI o k key := cmpI_neg (by omega)
      constructor
      · rw [ihl1, idxR_append, idxR_cons, if_pos (show 0 ≤ cmpI o (k, v).1 key by show 0 ≤ cmpI o k key; omega)]
        have := idxR_le o l.pairs key
        split <;> omega
      · rw [ihl2, Bool.eq_iff_iff, hmem hml, hmem hm]
        constructor
        · rintro ⟨y, hy, e⟩; exact ⟨y, List.mem_append_left _ hy, e⟩
        · rintro ⟨y, hy, e⟩
          rcases List.mem_append.1 hy with h | h
          · exact ⟨y, h, e⟩
          · rcases List.mem_cons.1 h with h | h
            · subst h; simp only at e; rw [e, cmpI_self] at h1; omega
            · have := hkr y h; rw [e] at this; omega
    · rw [h1, if_neg (by decide), if_pos rfl, if_neg (by decide), if_pos rfl]
      have hkk : key = k := cmpI_eq ho hk hAk h1
      subst hkk
      constructor
      · rw [idxR_append, idxR_cons, if_pos (show 0 ≤ cmpI o (key, v).1 key by show 0 ≤ cmpI o key key; rw [cmpI_self]; omega)]
        have hle := idxR_le o l.pairs key
        split
        · rename_i h
          have := idxR_ge h
          have := hlk _ (List.getElem_mem h)
          omega
        · omega
      · symm
        exact (hmem hm).2 ⟨(key, v), by simp, rfl⟩
    · rw [h1, if_neg (by decide), if_neg (by decide), if_neg (by decide), if_neg (by decide)]
      have h2 : cmpI o k key < 0 := cmpI_pos (by omega)
      constructor
      · rw [ihr1, idxR_append, idxR_cons, if_neg (show ¬ 0 ≤ cmpI o (k, v).1 key by show ¬ 0 ≤ cmpI o k key; omega)]
        have hle := idxR_le o l.pairs key
        split
        · rename_i h
          have h3 := idxR_ge h
          have h4 := cmpI_trans (hlk _ (List.getElem_mem h)) h2
          omega
        · omega
      · rw [ihr2, Bool.eq_iff_iff, hmem hmr, hmem hm]
        constructor
        · rintro ⟨y, hy, e⟩; exact ⟨y, List.mem_append_right _ (List.mem_cons_of_mem _ hy), e⟩
        · rintro ⟨y, hy, e⟩
          rcases List.mem_append.1 hy with h | h
          · have := hlk y h; rw [e] at this; omega
          · rcases List.mem_cons.1 h with h | h
            · subst h; simp only at e; rw [e, cmpI_self] at h1; omega
            · exact ⟨y, h, e⟩
theorem rankR_pos {o key : Int} {t : Tr} (hk : In key) (hm : mayR o t.pairs = true) (hA : AllK t) : rankR o t key = posR o t.pairs key ∧ hasK o t key = hasR o t.pairs key := by
  have ho := mayR_o hm
  have := rank_eq hk hm hA
  unfold rankR hasK posR
  rw [ho, hm]
  exact this
theorem selR_at {t : Tr} {i : Nat} (h : i < t.pairs.length) : selR t (i : Int) = t.pairs[i] ∧ selE t (i : Int) = 0 := by
  have hs : i < t.size := by rw [← Tr.pairs_length]; exact h
  have hc : 0 ≤ (i : Int) ∧ (i : Int) < (t.size : Int) := by omega
  unfold selR selE
  rw [if_pos hc, if_pos hc, Int.toNat_natCast]
  exact ⟨getD_of h, rfl⟩
def nats (n : Nat) : List Int := (List.range n).map fun (i : Nat) => (i : Int)
theorem nats_length (n : Nat) : (nats n).length = n := by simp [nats]
theorem nats_succ (n : Nat) : nats (n + 1) = nats n ++ [(n : Int)] := by simp [nats, List.range_succ]
theorem many_all (t : Tr) : manyR t (nats t.size) = t.pairs ∧ manyE t (nats t.size) = 0 := by
  have hall : (nats t.size).all (fun n => selE t n == 0) = true := by
    rw [List.all_eq_true]
    intro x hx
    simp only [nats, List.mem_map, List.mem_range] at hx
    obtain ⟨i, hi, rfl⟩ := hx
    rw [(selR_at (by rw [Tr.pairs_length]; exact hi)).2]; rfl
  unfold manyR manyE
  rw [hall]
  refine ⟨?_, rfl⟩
  simp only [if_true]
  refine List.ext_getElem (by rw [List.length_map, nats_length, Tr.pairs_length]) fun i h1 h2 => ?_
  rw [List.getElem_map]
  have : (nats t.size)[i]'(by simpa using h1) = (i : Int) := by simp [nats]
  rw [this]
  exact (selR_at h2).1
theorem many_out (t : Tr) : manyE t (nats t.size ++ [(t.size : Int)]) = 320 := by
  unfold manyE
  rw [if_neg]
  rw [List.all_append]
  simp [selE]
set_option maxRecDepth 100000 in
theorem c_rankRows {o : Int} {l : List Pr} {picks : List Int} {key : Int} {q q' : Option Addr} {n c n' c' : Nat} {w : World} {R : Ending → World → Prop} (ho : 0 ≤ o ∧ o < 256) (hl : Cs w q (prs l)) (hn : l.length = n) (hI : InP l)
    (hp : Cs w q' (u8s picks)) (hn' : picks.length = n') (hnc' : n' ≤ c') (hpI : ∀ x ∈ picks, 0 ≤ x ∧ x < 256) (hk : In key)
    (h : ∀ w', Ext w w' → R (.returned (.bool true)) w') : Calls Try.prog 4 #[.int .u8 o, .slice q n c, .slice q' n' c', .int .i64 key] w R := by
  refine sh4_ok _ _ _ _ _ _ _ _ ?_
  unfold sh4
  have hal : ∀ {w' : World}, Ext w w' → doCall Try.prog (.func (.func 14) #[] #[]) #[] w' (retS (fun v11 w12 => ∃ (x10 : Bool), v11 = (.bool x10 : Value) ∧ (R (.returned (.bool x10)) w12)) (fun ch w => Kfn R ch [] w)) :=
    fun E => do_call Try.call14 (c_alive32 fun w2 e2 => retS_ret ⟨_, rfl, h _ (E.trans e2)⟩)
  refine ifB_intro (fun _ => hal (ext_refl w)) fun h100 => ifB_intro (fun _ => hal (ext_refl w)) fun h200 => ?_
  have h100 : n ≤ 100 := by have := of_decide_eq_false h100; omega
  have h200 : n' ≤ 200 := by have := of_decide_eq_false h200; omega
  refine ⟨by decide, ?_⟩
  obtain ⟨o', ho', hisO⟩ := ord_of ho.1
  rw [ho']
  have hp2 : may 2 = true := by decide
  refine do_call Try.call23 (c_r5sort hl hn (by omega) hI fun p1 n1 c1 w1 h1 e1 => retS_ret ⟨_, _, _, _, rfl, ?_⟩)
  rw [hisO, hp2] at h1 ⊢
  simp only [Bool.and_self, cond_true] at h1 ⊢
  refine ifB_f rfl ?_
  obtain ⟨hm, hIr, hlen⟩ := sortL_may (o := o') (p := 2) hisO hp2 hI
  obtain ⟨r, hr⟩ : ∃ r, r = sortL o' 2 l := ⟨_, rfl⟩
  rw [← hr] at h1 hm hIr hlen
  have hn1 := ownP_len h1
  have hn1' : n1 ≤ 100 := by omega
  refine do_call Try.call24 (c_shape n1 r picks (Nat.le_refl _) (ownP_cs h1) hn1 (row_cap h1) (hp.ext e1) hn' hnc' hpI (by omega) (by omega) fun t p2 n2 c2 w2 hwf hpairs h2 e2 => retS_ret ⟨_, _, _, rfl, ?_⟩)
  have ht2 : t.size = n1 := by rw [← BT.tr_size, ← Tr.pairs_length, hpairs]; exact hn1
  have hn2 : t.size = n2 := ownB_len h2
  refine do_call Try.call15 (c_make t (ownB_cs h2) (ownB_len h2) (row_cap h2) hwf (by omega) fun pt w3 e3 hT => retS_ret ⟨_, rfl, ?_⟩)
  have E3 := (e1.trans e2).trans e3
  have hs : t.tr.size ≤ 4611686018427387903 := by rw [BT.tr_size]; omega
  have hA : AllK t.tr := fun x hx => by rw [hpairs] at hx; exact (hIr x hx).1
  have hrank := fun (k : Int) (hk : In k) => rankR_pos (o := o') (t := t.tr) hk (by rw [hpairs]; exact hm) hA
  rw [hpairs] at hrank
  refine do_call Try.call17 (c_rank hT hk hA hs fun w4 e4 => retS_ret ⟨_, _, rfl, ?_⟩)
  have E4 := E3.trans e4
  have hc1 := (ownP_cs h1).ext (e2.trans e3)
  refine do_call Try.call25 (c_rowfind (hc1.ext e4) hn1 (by omega) hIr hk fun w5 e5 => retS_ret ⟨_, _, rfl, ?_⟩)
  have E5 := E4.trans e5
  have hT5 := (hT.ext e4).ext e5
  have hc5 := (hc1.ext e4).ext e5
  rw [(hrank key hk).1, (hrank key hk).2]
  have hno : ∀ (z : Int), (z != z) = false := fun z => by simp
  have hbo : ∀ (z : Bool), (!(z == z)) = false := fun z => by simp
  refine ifB_f (hno _) (ifB_f (hbo _) ?_)
  -- the pairs, one by one
  have hrest : ∀ {w6 : World}, Ext w5 w6 → _ := fun {w6} e6 =>
    (show ∃ (I42 : List Value → World → Prop) (μ43 : List Value → World → Nat), I42 [.slice none 0 0, .int .i64 0] w6 ∧ (∀ (places_p46 : Option Addr), ∀ (places_n47 : Nat), ∀ (places_c48 : Nat), ∀ (i_49 : Int), ∀ (_j44 : Nat → Value) (w45 : World), I42 [.slice places_p46 places_n47 places_c48, .int .i64 i_49] w45 → (
      ifB (decide ((i_49 : Int) < ((n1 : Nat) : Int))) (
      doIx p1 n1 2 (i_49) (fun a50 => ∃ (x51 : Int), World.cell? w45 (a50.add 0) = some (.int .i64 x51) ∧ (
      doCall Try.prog (.func (.func 17) #[] #[]) #[.int .u8 o', .pointer pt, .int .i64 x51] w45 (retS (fun v54 w55 => ∃ (x52 : Int), ∃ (x53 : Bool), v54 = (.tuple #[.int .i64 x52, .bool x53] : Value) ∧ (
      ifB ((x52 : Int) != i_49) (R (.returned (.bool false)) w55) (ifB (!x53) (R (.returned (.bool false)) w55) (
      doAl (.cells #[.int .i64 i_49] 3) w55 (fun b59 w60 =>
      doGo Try.prog (.builtin .append #[24, 24] 24 #[false, false]) #[.slice places_p46 places_n47 places_c48, .slice (some (blk b59)) 1 1] w60 (retS (fun v64 w65 => ∃ (xp61 : Option Addr), ∃ (xn62 : Nat), ∃ (xc63 : Nat), v64 = (.slice xp61 xn62 xc63 : Value) ∧ (
      I42 [.slice xp61 xn62 xc63, .int .i64 (IntKind.wrap .i64 (i_49 + 1))] w65 ∧ μ43 [.slice xp61 xn62 xc63, .int .i64 (IntKind.wrap .i64 (i_49 + 1))] w65 < μ43 [.slice places_p46 places_n47 places_c48, .int .i64 i_49] w45)) (fun ch w => Kfn R ch [] w))))))) (fun ch w => Kfn R ch [] w))))) (
      doCall Try.prog (.func (.func 19) #[] #[]) #[.pointer pt, .slice places_p46 places_n47 places_c48] w45 (retS (fun v70 w71 => ∃ (xp66 : Option Addr), ∃ (xn67 : Nat), ∃ (xc68 : Nat), ∃ (x69 : Int), v70 = (.tuple #[.slice xp66 xn67 xc68, .int .i64 x69] : Value) ∧ (
      doAl (.cells #[.int .i64 ((n1 : Nat) : Int)] 3) w71 (fun b72 w73 =>
      doGo Try.prog (.builtin .append #[24, 24] 24 #[false, false]) #[.slice places_p46 places_n47 places_c48, .slice (some (blk b72)) 1 1] w73 (retS (fun v77 w78 => ∃ (xp74 : Option Addr), ∃ (xn75 : Nat), ∃ (xc76 : Nat), v77 = (.slice xp74 xn75 xc76 : Value) ∧ (
      doCall Try.prog (.func (.func 19) #[] #[]) #[.pointer pt, .slice xp74 xn75 xc76] w78 (retS (fun v83 w84 => ∃ (xp79 : Option Addr), ∃ (xn80 : Nat), ∃ (xc81 : Nat), ∃ (x82 : Int), v83 = (.tuple #[.slice xp79 xn80 xc81, .int .i64 x82] : Value) ∧ (
      ifB ((x69 : Int) == 0) (
      doCall Try.prog (.func (.func 22) #[] #[]) #[.slice xp66 xn67 xc68, .slice p1 n1 c1] w84 (retS (fun v89 w90 => ∃ (x88 : Bool), v89 = (.bool x88 : Value) ∧ (
      ifB x88 (ifB ((x82 : Int) == 320) (doCall Try.prog (.func (.func 14) #[] #[]) #[] w90 (retS (fun v92 w93 => ∃ (x91 : Bool), v92 = (.bool x91 : Value) ∧ (R (.returned (.bool x91)) w93)) (fun ch w => Kfn R ch [] w))) (
      R (.returned (.bool false)) w90)) (R (.returned (.bool false)) w90))) (fun ch w => Kfn R ch [] w))) (
      R (.returned (.bool false)) w84))) (fun ch w => Kfn R ch [] w)))) (fun ch w => Kfn R ch [] w))))) (fun ch w => Kfn R ch [] w))))) by
    refine ⟨fun vs w' => ∃ (k c' : Nat) (p' : Option Addr), vs = [.slice p' k c', .int .i64 k] ∧ k ≤ n1 ∧ Ext w6 w' ∧ w'.ownsRow w6.heap.size 3 1 (.slice p' k c') k (ints (nats k)), fun vs _ => n1 - (intOf (vs.getD 1 undef)).toNat, ⟨0, 0, none, rfl, by omega, ext_refl w6, World.ownsRow_nil _ _ _ _⟩, ?_⟩
    rintro p7 n7 c7 i7 _ w7 ⟨k, c', p', hv, hkn, e7, ho7⟩
    simp only [List.cons.injEq, Value.slice.injEq, Value.int.injEq, true_and, and_true] at hv
    obtain ⟨⟨rfl, rfl, rfl⟩, rfl⟩ := hv
    have e57 := e6.trans e7
    refine ifB_intro (fun hlt => ?_) fun hge => ?_
    · have hlt : n7 < n1 := by have := of_decide_eq_true hlt; omega
      have hki := (hIr _ (List.getElem_mem (show n7 < r.length by omega))).1
      obtain ⟨q1, q2, _⟩ := pos_at hm (i := n7) (by omega)
      refine ix_pr (hc5.ext e57) hn1 rfl hlt fun a r1 _ _ => ⟨_, r1, ?_⟩
      refine do_call Try.call17 (c_rank (hT5.ext e57) hki hA hs fun w8 e8 => retS_ret ⟨_, _, rfl, ?_⟩)
      rw [(hrank _ hki).1, (hrank _ hki).2, q1, q2]
      refine ifB_f (hno _) (ifB_f rfl ⟨?_⟩)
      have e9 := ext_alloc w8 (.cells #[.int .i64 (n7 : Int)] 3)
      have ho9 := (e8.trans e9).row ho7
      refine do_app elN ho9 (m := 1) (cs_alloc w8 _ _) (by simp) (by simp [Value.oneCell']) (by simp only [maxLen]; omega) (by omega) (Nat.le_trans e7.size (e8.trans e9).size) fun p8 c8 w10 h10 g10 => retS_ret ⟨_, _, _, rfl, ?_⟩
      refine ⟨⟨n7 + 1, c8, p8, by rw [wrap_succ hlt (by omega)], by omega, (e7.trans (e8.trans e9)).grown g10 fun k hk => (World.ownsRow.lt ho9 k hk).1, ?_⟩, ?_⟩
      · rw [nats_succ, ints_append]; exact h10
      · rw [wrap_succ hlt (by omega)]; simp [intOf]; omega
    · have hge : n7 = n1 := by have := of_decide_eq_false hge; omega
      subst hge
      have hts : t.tr.size = n7 := by rw [BT.tr_size]; exact ht2
      refine do_call Try.call19 (c_many (hT5.ext e57) hs (Cs.of_row ho7) (nats_length _) (by omega) fun p8 n8 c8 w8 h8 e8 => retS_ret ⟨_, _, _, _, rfl, ⟨?_⟩⟩)
      have e9 := ext_alloc w8 (.cells #[.int .i64 (n7 : Int)] 3)
      have ho9 := (e8.trans e9).row ho7
      refine do_app elN ho9 (m := 1) (cs_alloc w8 _ _) (by simp) (by simp [Value.oneCell']) (by simp only [maxLen]; omega) (by omega) (Nat.le_trans e7.size (e8.trans e9).size) fun p9 c9 w10 h10 g10 => retS_ret ⟨_, _, _, rfl, ?_⟩
      have e610 : Ext w6 w10 := ((e7.trans e8).trans e9).grown g10 fun k hk => (World.ownsRow.lt ho9 k hk).1
      have e510 := e6.trans e610
      have h8' : OwnP w10 w7.heap.size p8 n8 c8 (manyR t.tr (nats n7)) := by
        refine World.ownsRow.kept (World.ownsRow.alloc h8 _) g10 ?_
        by_cases hb : (Value.slice p8 n8 c8).ownBlock = none
        · exact .inl hb
        · refine .inr fun e => ?_
          cases hb' : (Value.slice p8 n8 c8).ownBlock with
          | none => exact hb hb'
          | some b =>
            rw [hb'] at e
            have l1 := (World.ownsRow.lt h8 b hb').1
            have l2 := (World.ownsRow.lt ho7 b e.symm).2
            omega
      refine do_call Try.call19 (c_many (l := nats n7 ++ [(n7 : Int)]) (hT5.ext e510) hs (by rw [ints_append]; exact Cs.of_row h10) (by simp [nats_length]) (by omega) fun p11 n11 c11 w11 h11 e11 => retS_ret ⟨_, _, _, _, rfl, ?_⟩)
      have hma := many_all t.tr
      have hmo := many_out t.tr
      rw [hts] at hma hmo
      rw [hma.2, hmo]
      rw [hma.1, hpairs] at h8'
      refine ifB_t rfl ?_
      refine do_call Try.call22 (c_r9same ((ownP_cs h8').ext e11) (ownP_len h8') ((hc5.ext e510).ext e11) hn1 (by have := ownP_len h8'; omega) fun w12 e12 => retS_ret ⟨_, rfl, ifB_t (by simp) (ifB_t rfl (hal ?_))⟩)
      exact (E5.trans e510).trans (e11.trans e12))
  refine ifB_intro (fun hh => ?_) fun _ => hrest (ext_refl w5)
  have hlt := hasR_lt hh
  have hkey := hasR_key hh
  have hsel := selR_at (t := t.tr) (i := posR o' r key) (by rw [hpairs]; exact hlt)
  refine do_call Try.call20 (c_select hT5 hs fun w6 e6 => retS_ret ⟨_, _, _, rfl, ⟨?_⟩⟩)
  refine do_st2 (blk_alloc w6 _ _) fun w7 h7 g7 => ?_
  have e7 : Ext w5 w7 := e6.trans ((ext_alloc w6 _).st g7 (Nat.le_refl _))
  rw [hsel.2]
  refine ifB_f rfl ⟨_, h7.cell (i := 0) (add_blk _ _) rfl, ifB_f ?_ (hrest e7)⟩
  rw [hsel.1]
  simp only [hpairs, hkey, hno]
end Go.Proofs.Ytinkkhcffoikmaa
