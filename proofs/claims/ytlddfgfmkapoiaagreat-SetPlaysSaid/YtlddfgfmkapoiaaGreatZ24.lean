/-
  build.Of, build.Keys, and where nothing is built; the document's answers of layer 27.
-/
/-
  The document's answers of layer 27; what its statements share.
-/
/-
  meet: two trees gone down together.
-/
/-
  meet: Meet, Less, Apart, Within.
-/
/-
  The document's answers of layer 29.
-/
/-
  UnionTells; the chapter's examples.
-/
/-
  many: Puts, Drops, Holds; the document's answers of layer 31; what its statement asks.
-/
/-
  Sets of keys, in plain: which keys come of two.
-/
/-
  look: going over a tree.
-/
import Derived.Test.YtlddfgfmkapoiaaGreatZ21
import Derived.Test.YtlddfgfmkapoiaaGreatZ23
import Derived.Laws.OwnMore

namespace Go.Proofs.YtlddfgfmkapoiaaGreat
open Go Go.Sh Go.RowKit

theorem c_brow_no {o : Int} {sp p : Option Addr} {l : List Pr} {q : Option Addr} {n cp : Nat} {w : World} {R : Ending → World → Prop} (hl : Cs w q (prs l)) (hn : l.length = n) (hB : n ≤ 1000000) (hI : InP l) (hno : sp = none ∨ mayR o l = false)
    (h : ∀ w', Ext w w' → R (.returned (.tuple #[.pointer none, .int .i64 2])) w') : Calls Tryz.prog 32 #[.pointer sp, .int .u8 o, .pointer p, .slice q n cp] w R := by
  refine sh32_ok _ _ _ _ _ _ ?_
  unfold sh32
  intro K13 _
  cases sp with
  | none => exact ifB_t rfl (h _ (ext_refl w))
  | some a =>
    have hm : mayR o l = false := by rcases hno with h | h
                                     · cases h
                                     · exact h
    refine ifB_f rfl (do_call Tryz.call101 (c_may hl hn (by omega) hI fun w1 e1 => retS_ret ⟨_, rfl, ?_⟩))
    rw [hm]
    exact ifB_t rfl (h _ e1)
theorem c_bof {c o po : Int} {b : Nat} {p : Option Addr} {D : Option (Nat × Nat × Nat × Nat)} {ds : List Int} {l : List Pr} {q : Option Addr} {n cp : Nat} {w : World} {R : Ending → World → Prop} (ho : isO o = true) (hp : may po = true) (hs : IsSch c b w) (hd : IsD p D ds w) (hN : topD D ≤ w.heap.size)
    (hl : Cs w q (prs l)) (hn : l.length = n) (hB : n ≤ 1000000) (hI : InP l)
    (h : ∀ qt w', Gd (b :: blksD D) w w' → IsSch c b w' → IsD p D (restL c ds (sortL o po l)) w' → IsN w' qt (bldC c (tagL c ds (sortL o po l))) → R (.returned (.tuple #[.pointer qt, .int .i64 0])) w') :
    Calls Tryz.prog 23 #[.pointer (some (blk b)), .int .u8 o, .int .u8 po, .pointer p, .slice q n cp] w R := by
  refine sh23_ok _ _ _ _ _ _ _ ?_
  unfold sh23
  refine do_call Tryz.call95 (c_rsort hl hn hB hI fun q1 n1 c1 w1 h1 e1 => retS_ret ⟨_, _, _, _, rfl, ?_⟩)
  rw [ho, hp] at h1 ⊢
  have h1 : OwnP w1 w.heap.size q1 n1 c1 (sortL o po l) := h1
  refine ifB_f rfl ?_
  have hm := sortL_may ho hp hI
  have hn1 := ownP_len h1
  have hslt := hs.lt
  have hDlt := hd.lt
  have l1 := e1.size
  refine do_call Tryz.call32 (c_brow (hs.ext e1) (hd.ext e1) (by omega) (fun w' g => ownP_cs (row_gd h1 g fun k hk => ?_)) hn1 (by omega) hm.2.1 hm.1 fun qt w2 g2 hs2 hd2 h2 => retS_ret ⟨_, _, rfl, h qt w2 ((gd_of e1).trans g2) hs2 hd2 h2⟩)
  rcases List.mem_cons.1 hk with rfl | hk
  · exact hslt
  · exact (hDlt k hk).1
theorem c_bof_no {o po : Int} {sp p : Option Addr} {l : List Pr} {q : Option Addr} {n cp : Nat} {w : World} {R : Ending → World → Prop} (hl : Cs w q (prs l)) (hn : l.length = n) (hB : n ≤ 1000000) (hI : InP l) (hno : sp = none ∨ (isO o && may po) = false)
    (h : ∀ w', Ext w w' → R (.returned (.tuple #[.pointer none, .int .i64 2])) w') : Calls Tryz.prog 23 #[.pointer sp, .int .u8 o, .int .u8 po, .pointer p, .slice q n cp] w R := by
  refine sh23_ok _ _ _ _ _ _ _ ?_
  unfold sh23
  refine do_call Tryz.call95 (c_rsort hl hn hB hI fun q1 n1 c1 w1 h1 e1 => retS_ret ⟨_, _, _, _, rfl, ?_⟩)
  cases hop : isO o && may po with
  | false => exact ifB_t rfl (h _ e1)
  | true =>
    rw [hop] at h1
    have h1 : OwnP w1 w.heap.size q1 n1 c1 (sortL o po l) := h1
    have hsp : sp = none := by rcases hno with h | h
                               · exact h
                               · rw [hop] at h; cases h
    have ho : isO o = true := by simp at hop; exact hop.1
    have hp : may po = true := by simp at hop; exact hop.2
    have hm := sortL_may ho hp hI
    have hn1 := ownP_len h1
    exact ifB_f rfl (do_call Tryz.call32 (c_brow_no (ownP_cs h1) hn1 (by omega) hm.2.1 (.inl hsp) fun w2 e2 => retS_ret ⟨_, _, rfl, h w2 (e1.trans e2)⟩))
/-! ### Keys -/
theorem made_list (a b : Value) (n : Nat) : (madeCells #[a, b] n).toList = (List.range n).map fun i => (#[a, b] : Array Value)[i % 2]! := by
  unfold madeCells
  simp
theorem made_prs (n : Nat) : (madeCells (Value.agg #[.int .i64 0, .int .i64 0]).cells (n * 2)).toList = prs (List.replicate n (0, 0)) := by
  show (madeCells #[.int .i64 0, .int .i64 0] (n * 2)).toList = _
  rw [made_list]
  induction n with
  | zero => rfl
  | succ n ih =>
    rw [List.replicate_succ', prs_append, ← ih]
    rw [show (n + 1) * 2 = n * 2 + 1 + 1 by omega, List.range_succ, List.range_succ, List.map_append, List.map_append, List.append_assoc]
    congr 1
    simp only [List.map_cons, List.map_nil, show (n * 2) % 2 = 0 by omega, show (n * 2 + 1) % 2 = 1 by omega]
    rfl
def keyR (keys : List Int) (i : Nat) : List Pr := zeroP (keys.take i) ++ List.replicate (keys.length - i) (0, 0)
theorem keyR_len {keys : List Int} {i : Nat} (h : i ≤ keys.length) : (keyR keys i).length = keys.length := by
  unfold keyR
  rw [List.length_append, zeroP_len, List.length_take, List.length_replicate]; omega
theorem keyR_set {keys : List Int} {i : Nat} (h : i < keys.length) : (keyR keys i).set i (keys[i], 0) = keyR keys (i + 1) := by
  unfold keyR
  have e : keys.length - i = (keys.length - (i + 1)) + 1 := by omega
  rw [e, List.replicate_succ, set_mid (by rw [zeroP_len, List.length_take]; omega)]
  rw [show keys.take (i + 1) = keys.take i ++ [keys[i]] from (List.take_append_getElem h).symm]
  unfold zeroP
  rw [List.map_append, List.append_assoc]
  rfl
set_option maxRecDepth 20000 in
theorem c_bkeysR {o : Int} {sp p : Option Addr} {keys : List Int} {q : Option Addr} {n cp : Nat} {w : World} {R : Ending → World → Prop} (hl : Cs w q (ints keys)) (hn : keys.length = n) (hB : n ≤ 1000000)
    (h : ∀ q' w', Ext w w' → OwnP w' w.heap.size q' n n (zeroP keys) → doCall Tryz.prog (.func (.func 23) #[] #[]) #[.pointer sp, .int .u8 o, .int .u8 1, .pointer p, .slice q' n n] w' (retS (fun v22 w23 => ∃ (x20 : Option Addr), ∃ (x21 : Int), v22 = (.tuple #[.pointer x20, .int .i64 x21] : Value) ∧ (
 R (.returned (.tuple #[.pointer x20, .int .i64 x21])) w23)) (fun ch w => Kfn R ch [] w))) : Calls Tryz.prog 24 #[.pointer sp, .int .u8 o, .pointer p, .slice q n cp] w R := by
  refine sh24_ok _ _ _ _ _ _ ?_
  unfold sh24
  obtain ⟨i, hi, hz, hsz, hby⟩ := elP.hi
  obtain ⟨w1, hr, ho, hg⟩ := run_makeSlice_full (P := Tryz.prog) (w := w) w.heap.size 22 46 i _ 2 elP.ht hi hz hsz .i64 .i64 n (by omega) (by rw [hby]; omega) (by simp only [maxLen]; omega) (Nat.le_refl _)
  refine ⟨_, _, _, w1, hr, ?_⟩
  rw [made_prs] at ho
  have e1 : Ext w w1 := (ext_refl w).grown hg (by intro k hk; cases hk)
  generalize (some (⟨w.heap.size, 0, none⟩ : Addr)) = q' at *
  have h0 : OwnP w1 w.heap.size q' n n (keyR keys 0) := by
    have : keyR keys 0 = List.replicate n (0, 0) := by unfold keyR zeroP; simp [hn]
    rw [this]; exact ho
  refine ⟨fun vs w' => ∃ i : Nat, vs = [.int .i64 i] ∧ i ≤ n ∧ Ext w w' ∧ OwnP w' w.heap.size q' n n (keyR keys i), fun vs _ => n - (intOf (vs.getD 0 undef)).toNat, ⟨0, rfl, by omega, e1, h0⟩, ?_⟩
  rintro i j w2 ⟨m, hv, hmn, E2, ho2⟩
  simp only [List.cons.injEq, Value.int.injEq, and_true, true_and] at hv
  subst hv
  have hkl := keyR_len (keys := keys) (i := m) (by omega)
  refine ifB_intro (fun hlt => ?_) fun hge => ?_
  · have hlt : m < n := by have := of_decide_eq_true hlt; omega
    refine ix_int (hl.ext E2) hn (by omega) (by omega) fun a ha hx => ⟨keys[m]'(by omega), by rw [hx, Int.toNat_natCast, List.getD_eq_getElem?_getD, List.getElem?_eq_getElem (show m < keys.length by omega)]; rfl, ?_⟩
    refine ix_pr (ownP_cs ho2) (by omega) (k := m) rfl (by omega) fun a2 _ _ ha2 => ?_
    obtain ⟨a0, ha0, rfl⟩ := ha2
    refine do_st_own ho2 (i := m * 2) (by simp only [prs_length]; omega) ha0 (by rw [add_zero', add_zero']) _ fun w3 ho3 g3 => ?_
    have hset : (prs (keyR keys m)).set (m * 2) (.int .i64 (keys[m]'(by omega))) = prs (keyR keys (m + 1)) := by
      rw [prs_set1 (by omega), ← keyR_set (by omega)]
      congr 2
      have : (keyR keys m)[m]'(by omega) = (0, 0) := by
        unfold keyR
        rw [List.getElem_append_right (by rw [zeroP_len, List.length_take]; omega)]
        simp
      rw [this]
    refine ⟨⟨m + 1, by rw [wrap_succ hlt (by omega)], by omega, E2.st g3 (row_lt ho2 ha0).1, ?_⟩, ?_⟩
    · unfold OwnP
      rw [← hset]
      exact ho3
    · rw [wrap_succ hlt (by omega)]; simp [intOf]; omega
  · have hge : m = n := by have := of_decide_eq_false hge; omega
    subst hge
    have : keyR keys m = zeroP keys := by unfold keyR; rw [List.take_of_length_le (by omega), hn]; simp
    rw [this] at ho2
    exact h _ _ E2 ho2
theorem c_bkeys {c o : Int} {b : Nat} {p : Option Addr} {D : Option (Nat × Nat × Nat × Nat)} {ds : List Int} {keys : List Int} {q : Option Addr} {n cp : Nat} {w : World} {R : Ending → World → Prop} (ho : isO o = true) (hs : IsSch c b w) (hd : IsD p D ds w) (hN : topD D ≤ w.heap.size)
    (hl : Cs w q (ints keys)) (hn : keys.length = n) (hB : n ≤ 1000000) (hI : ∀ k ∈ keys, In k)
    (h : ∀ qt w', Gd (b :: blksD D) w w' → IsSch c b w' → IsD p D (restL c ds (sortL o 1 (zeroP keys))) w' → IsN w' qt (bldC c (tagL c ds (sortL o 1 (zeroP keys)))) → R (.returned (.tuple #[.pointer qt, .int .i64 0])) w') :
    Calls Tryz.prog 24 #[.pointer (some (blk b)), .int .u8 o, .pointer p, .slice q n cp] w R := by
  refine c_bkeysR hl hn hB fun q1 w1 e1 o1 => ?_
  refine do_call Tryz.call23 (c_bof ho (by decide) (hs.ext e1) (hd.ext e1) (Nat.le_trans hN e1.size) (ownP_cs o1) (by rw [zeroP_len]; exact hn) hB (zeroP_in hI) fun qt w2 g2 hs2 hd2 h2 => retS_ret ⟨_, _, rfl, h qt w2 ((gd_of e1).trans g2) hs2 hd2 h2⟩)
theorem c_bkeys_no {o : Int} {sp p : Option Addr} {keys : List Int} {q : Option Addr} {n cp : Nat} {w : World} {R : Ending → World → Prop} (hl : Cs w q (ints keys)) (hn : keys.length = n) (hB : n ≤ 1000000) (hI : ∀ k ∈ keys, In k) (hno : sp = none ∨ isO o = false)
    (h : ∀ w', Ext w w' → R (.returned (.tuple #[.pointer none, .int .i64 2])) w') : Calls Tryz.prog 24 #[.pointer sp, .int .u8 o, .pointer p, .slice q n cp] w R := by
  refine c_bkeysR hl hn hB fun q1 w1 e1 o1 => ?_
  refine do_call Tryz.call23 (c_bof_no (ownP_cs o1) (by rw [zeroP_len]; exact hn) hB (zeroP_in hI) (hno.imp id fun h => by rw [h]; rfl) fun w2 e2 => retS_ret ⟨_, _, rfl, h w2 (e1.trans e2)⟩)
/-! ### the document's -/
end Go.Proofs.YtlddfgfmkapoiaaGreat

namespace Go.Proofs.YtlddfgfmkapoiaaGreat
open Go Go.Sh Go.RowKit

theorem IsRd.two {b M N : Nat} {ds : List Int} {S : List Nat} {w w' : World} (h : IsRd b M N ds w) (g : Gd S w w') (hS : ∀ k ∈ S, N ≤ k) : IsRd b M N ds w' := h.gd g fun k hk => .inl (hS k hk)
/-! ### what statements share -/
theorem c_drawn {none_ : Bool} {ds : List Int} {q : Option Addr} {n cp : Nat} {w : World} {R : Ending → World → Prop} (hl : Cs w q (u64s ds)) (hn : ds.length = n) (hm : n ≤ 17592186044416)
    (h : ∀ p D w', Ext w w' → IsD p D (cond none_ [] ds) w' → topD D ≤ w'.heap.size → (∀ k ∈ blksD D, w.heap.size ≤ k) → R (.returned (.pointer p)) w') : Calls Tryz.prog 21 #[.slice q n cp, .bool none_] w R := by
  refine sh21_ok _ _ _ _ ?_
  unfold sh21
  cases none_ with
  | true => exact ifB_t rfl (h none none w (ext_refl w) ⟨rfl, rfl⟩ (Nat.zero_le _) fun k hk => by cases hk)
  | false =>
    refine ifB_f rfl ?_
    refine do_app elU (World.ownsRow_nil w w.heap.size 75 1) (m := n) hl (by rw [u64s_length]; omega) u64s_one (by simp only [maxLen]; omega) (by omega) (Nat.le_refl _) fun p c' w1 h1 g1 => retS_ret ⟨_, _, _, rfl, ?_⟩
    simp only [Nat.zero_add, List.nil_append] at h1 ⊢
    have e1 : Ext w w1 := (ext_refl w).grown g1 (by intro k hk; cases hk)
    have l1 := e1.size
    refine do_call Tryz.call94 (c_dnew (Cs.of_row h1) hn hm fun bd bp br w2 e2 hd hb1 hb2 => retS_ret ⟨_, rfl, h (some (blk bd)) (some (bd, bp, br, w2.heap.size)) w2 (e1.trans e2) ⟨rfl, hd⟩ (Nat.le_refl _) fun k hk => ?_⟩)
    simp only [blksD, List.mem_cons, List.not_mem_nil, or_false] at hk
    rcases hk with rfl | rfl <;> omega
theorem isD_nil (w : World) : IsD none none [] w := ⟨rfl, rfl⟩
end Go.Proofs.YtlddfgfmkapoiaaGreat

namespace Go.Proofs.YtlddfgfmkapoiaaGreat
open Go Go.Sh Go.RowKit

/-- what the closure holds -/
structure CapsM (w : World) (b14 b16 b18 b36 b : Nat) (o : Int) (F1 : Value) (F2 : Value) (F3 : Value) (T36 : TypeId) : Prop where
  way : Blk w b14 #[F1, F2, F3] 198
  s : Blk w b16 #[.pointer (some (blk b))] 25
  o : Blk w b18 #[.int .u8 o] 5
  on : Blk w b36 #[.func (.func 214) #[] #[.pointer (some (blk b14)), .pointer (some (blk b16)), .pointer (some (blk b18)), .pointer (some (blk b36))]] T36
  ne : b14 ≠ b ∧ b16 ≠ b ∧ b18 ≠ b ∧ b36 ≠ b
theorem CapsM.gs {w w' : World} {b14 b16 b18 b36 b : Nat} {o : Int} {F1 F2 F3 : Value} {T36 : TypeId} (h : CapsM w b14 b16 b18 b36 b o F1 F2 F3 T36) (g : Gs b w w') : CapsM w' b14 b16 b18 b36 b o F1 F2 F3 T36 :=
  ⟨h.way.gs g h.ne.1, h.s.gs g h.ne.2.1, h.o.gs g h.ne.2.2.1, h.on.gs g h.ne.2.2.2, h.ne⟩
abbrev onM (b14 b16 b18 b36 : Nat) : Value := .func (.func 214) #[] #[.pointer (some (blk b14)), .pointer (some (blk b16)), .pointer (some (blk b18)), .pointer (some (blk b36))]
/-- a side of a way -/
def SideW (c : Int) (b : Nat) (F : Value) (f : Tr → Tr) : Prop := ∀ (t : Tr) (p : Option Addr) (w : World) (R : Ending → World → Prop), IsSch c b w → IsN w p t → OkP c t → t.size + 10 ≤ BIG → (∀ q w', Gs b w w' → IsSch c b w' → IsN w' q (f t) → R (.returned (.pointer q)) w') → doCall Tryz.prog F #[.pointer p] w R
def ItemW (b : Nat) (w0 : World) (F : Value) (it : It → It → Bool → It × Bool) : Prop := ∀ (x y : It) (is : Bool) (w : World) (R : Ending → World → Prop), Gs b w0 w → (∀ w', Ext w w' → R (.returned (.tuple #[agI (it x y is).1, .bool (it x y is).2])) w') → doCall Tryz.prog F #[agI x, agI y, .bool is] w R
set_option maxRecDepth 20000 in
set_option maxHeartbeats 1600000 in
theorem c_onM {c o : Int} {b b14 b16 b18 b36 : Nat} {T36 : TypeId} {w0 : World} {A1 A2 A3 : Fn} {X1 X2 X3 C1 C2 C3 : Array Value} {f1 f2 : Tr → Tr} {it : It → It → Bool → It × Bool} (ho : isO o = true) (s1 : Side c f1) (s2 : Side c f2)
    (H1 : SideW c b (.func A1 X1 C1) f1) (H2 : SideW c b (.func A2 X2 C2) f2) (H3 : ItemW b w0 (.func A3 X3 C3) it) :
    ∀ (a : Tr) {u : Tr} {pa pb : Option Addr} {w : World} {R : Ending → World → Prop} (_g0 : Gs b w0 w) (_hc : CapsM w b14 b16 b18 b36 b o (.func A1 X1 C1) (.func A2 X2 C2) (.func A3 X3 C3) T36) (_hs : IsSch c b w)
    (_ha : IsN w pa a) (_hu : IsN w pb u) (_oka : OkP c a) (_oku : OkM c u) (_hka : InK a) (_hku : InK u) (_hau : asc o (itsC c u)) (_hB : a.size + u.size + 10 ≤ BIG)
    (_h : ∀ q w', Gs b w w' → IsSch c b w' → IsN w' q (goC c o f1 f2 it a u) → R (.returned (.pointer q)) w'), doCall Tryz.prog (onM b14 b16 b18 b36) #[.pointer pa, .pointer pb] w R
  | .nil, u, pa, pb, w, R, g0, hc, hs, ha, hu, oka, oku, hka, hku, hau, hB, h => by
    refine do_callc Tryz.call214 (by rfl) (sh214_ok _ _ _ _ _ _ ?_)
    unfold sh214
    have : pa = none := ha
    subst this
    refine ifB_t rfl ⟨_, _, _, hc.way.cell (i := 1) (add_blk _ _) rfl, ?_⟩
    exact H2 u pb w _ hs hu oku.1 (by omega) fun q w1 g1 hs1 h1 => retS_ret ⟨_, rfl, h _ _ g1 hs1 h1⟩
  | .node l k v g r, u, pa, pb, w, R, g0, hc, hs, ha, hu, oka, oku, hka, hku, hau, hB, h => by
    refine do_callc Tryz.call214 (by rfl) (sh214_ok _ _ _ _ _ _ ?_)
    unfold sh214
    obtain ⟨hl, hr⟩ := oka.sides
    obtain ⟨kl, kk, kr⟩ := hka
    have e : (Tr.node l k v g r).size = l.size + 1 + r.size := rfl
    obtain ⟨ba, pal, par, rfl, hba⟩ := id ha
    refine ifB_f rfl ?_
    cases hn : u.nn with
    | false =>
      have hunil : u = .nil := by cases u with
        | nil => rfl
        | node _ _ _ _ _ => cases hn
      subst hunil
      have : pb = none := hu
      subst this
      refine ifB_t rfl ⟨_, _, _, hc.way.cell (i := 0) (add_blk _ _) rfl, ?_⟩
      exact H1 _ _ w _ hs ha oka (by omega) fun q w1 g1 hs1 h1 => retS_ret ⟨_, rfl, h _ _ g1 hs1 h1⟩
    | true =>
      have S := splitC_ok (o := o) (key := k) oku.1 hau
      have sp := splitC_p (o := o) (key := k) oku.1
      have q1 : asc o (itsC c (splitC c o k u).1) := by rw [S.lt]; exact asc_filter hau
      have q2 : asc o (itsC c (splitC c o k u).2.2) := by rw [S.gt]; exact asc_filter hau
      have k1 : InK (splitC c o k u).1 := inK_lt (key := k) hku S.lt hau rfl
      have k2 : InK (splitC c o k u).2.2 := inK_lt (key := k) hku S.gt hau rfl
      have pL := goC_p (o := o) (it := it) s1 s2 hl S.okl
      have pR := goC_p (o := o) (it := it) s1 s2 hr S.okr
      have hU : goC c o f1 f2 it (.node l k v g r) u = if (it (itC c (k, v, g)) (itO (splitC c o k u).2.1) (splitC c o k u).2.1.isSome).2 then
          joinC c (goC c o f1 f2 it l (splitC c o k u).1) (it (itC c (k, v, g)) (itO (splitC c o k u).2.1) (splitC c o k u).2.1.isSome).1 (goC c o f1 f2 it r (splitC c o k u).2.2)
        else join2C c (goC c o f1 f2 it l (splitC c o k u).1) (goC c o f1 f2 it r (splitC c o k u).2.2) := by rw [goC, if_pos hn]
      rw [hU] at h
      have hpb : pb.isNone = false := by
        cases u with
        | nil => cases hn
        | node _ _ _ _ _ => obtain ⟨_, _, _, rfl, _⟩ := hu; rfl
      refine ifB_f hpb ?_
      generalize hY : itO (splitC c o k u).2.1 = Y at *
      generalize hI : (splitC c o k u).2.1.isSome = isY at *
      intro K24
      have hK24 : ∀ w1 bz ql qr, Gs b w w1 → IsSch c b w1 → IsN w1 ql (splitC c o k u).1 → IsN w1 qr (splitC c o k u).2.2 → bz ≠ b →
          Blk w1 bz #[.int .i64 Y.1, .int .i64 Y.2.1, .int .u64 Y.2.2] 114 → K24 ql (blk bz) isY qr w1 := by
        intro w1 bz ql qr g1 hs1 hl1 hr1 nz hz
        have d := gs_of (b := b) (ext_drew w1)
        have g2 := g1.trans d
        have hc2 := hc.gs g2
        have hs2 := hs1.ext (ext_drew w1)
        have ha2 := ha.gs hs g2
        have hz2 := hz.ext (ext_drew w1)
        refine ⟨⟨fun w' => CapsM w' b14 b16 b18 b36 b o (.func A1 X1 C1) (.func A2 X2 C2) (.func A3 X3 C3) T36, hc2, _, _, _, fun w' q => q.on.cell (i := 0) rfl rfl, _, _, _, fun w' q => q.on.cell (i := 0) rfl rfl, ?_⟩⟩
        have hl2 := hl1.ext (ext_drew w1)
        have hr2 := hr1.ext (ext_drew w1)
        refine do_call Tryz.call123 (c_left ha2 fun pl hpl => retS_ret ⟨_, rfl, hc2, ?_⟩)
        refine c_onM ho s1 s2 H1 H2 H3 l (g0.trans g2) hc2 hs2 hpl hl2 hl S.okl kl k1 q1 (by omega) fun q3 w3 g3 hs3 h3 => retS_ret ⟨_, rfl, hc2.gs g3, ?_⟩
        have ha3 := ha2.gs hs2 g3
        have hr3 := hr2.gs hs2 g3
        refine do_call Tryz.call125 (c_right ha3 fun pr hpr => retS_ret ⟨_, rfl, hc2.gs g3, ?_⟩)
        refine c_onM ho s1 s2 H1 H2 H3 r ((g0.trans g2).trans g3) (hc2.gs g3) hs3 hpr hr3 hr S.okr kr k2 q2 (by omega) fun q6 w6 g6 hs6 h6 => retS_ret ⟨_, rfl, (hc2.gs g3).gs g6, ?_⟩
        have G6 := (g2.trans g3).trans g6
        have h36 := h3.gs hs3 g6
        have ha6 := ha3.gs hs3 g6
        have hz6 := (hz2.gs g3 nz).gs g6 nz
        have hc6 := (hc2.gs g3).gs g6
        intro K48
        have hK48 : ∀ w' bx, Gs b w6 w' → IsSch c b w' → IsN w' q3 (goC c o f1 f2 it l (splitC c o k u).1) → IsN w' q6 (goC c o f1 f2 it r (splitC c o k u).2.2) →
            Blk w' bx #[.int .i64 (it (itC c (k, v, g)) Y isY).1.1, .int .i64 (it (itC c (k, v, g)) Y isY).1.2.1, .int .u64 (it (itC c (k, v, g)) Y isY).1.2.2] 114 → K48 (blk bx) (it (itC c (k, v, g)) Y isY).2 w' := by
          intro w' bx gg hs' hl' hr' hx'
          have hc' := hc6.gs gg
          cases hst : (it (itC c (k, v, g)) Y isY).2 with
          | true =>
            rw [hst] at h
            refine ifB_t rfl ⟨_, hc'.s.cell (i := 0) rfl rfl, _, hx'.cell (i := 0) (add_blk _ _) rfl, _, hx'.cell (i := 1) (add_blk _ _) rfl, _, hx'.cell (i := 2) (add_blk _ _) rfl, ?_⟩
            exact do_call Tryz.call106 (c_sjoin hs' hl' hr' pL.1.1 pR.1.1 (by have := pL.2; have := pR.2; omega) fun q7 w7 g7 hs7 h7 => retS_ret ⟨_, rfl, h _ _ ((G6.trans gg).trans g7) hs7 h7⟩)
          | false =>
            rw [hst] at h
            refine ifB_f rfl ⟨_, hc'.s.cell (i := 0) rfl rfl, ?_⟩
            exact do_call Tryz.call211 (c_join2 hs' hl' hr' pL.1.1 pR.1.1 (by have := pL.2; have := pR.2; omega) fun q7 w7 g7 hs7 h7 => retS_ret ⟨_, rfl, h _ _ ((G6.trans gg).trans g7) hs7 h7⟩)
        have dr := ext_drew w6
        have cC : ∀ w', Gs b w6 w' → CapsM w' b14 b16 b18 b36 b o (.func A1 X1 C1) (.func A2 X2 C2) (.func A3 X3 C3) T36 ∧ Blk w' bz #[.int .i64 Y.1, .int .i64 Y.2.1, .int .u64 Y.2.2] 114 := fun w' gg => ⟨hc6.gs gg, hz6.gs gg nz⟩
        refine ⟨⟨fun w' => CapsM w' b14 b16 b18 b36 b o (.func A1 X1 C1) (.func A2 X2 C2) (.func A3 X3 C3) T36 ∧ Blk w' bz #[.int .i64 Y.1, .int .i64 Y.2.1, .int .u64 Y.2.2] 114, cC _ (gs_of dr),
          _, _, _, fun w' q => q.1.way.cell (i := 2) (add_blk _ _) rfl, _, fun w' q => q.1.s.cell (i := 0) rfl rfl, _, fun w' q => q.2.cell (i := 0) (add_blk _ _) rfl, _, fun w' q => q.2.cell (i := 1) (add_blk _ _) rfl, _, fun w' q => q.2.cell (i := 2) (add_blk _ _) rfl, ⟨?_, ?_⟩⟩⟩
        · refine do_call Tryz.call213 (c_sitem (hs6.ext dr) (ha6.ext dr) fun w7 g7 hs7 => retS_ret ⟨_, _, _, rfl, cC _ ((gs_of dr).trans g7), ?_⟩)
          have G7 := (gs_of (b := b) dr).trans g7
          have hl7 := h36.gs hs6 G7
          have hr7 := h6.gs hs6 G7
          constructor
          · refine H3 (rootC c (.node l k v g r)) Y isY w7 _ (((g0.trans G6)).trans G7) fun w8 e8 => retS_ret ⟨_, _, _, _, rfl, cC _ (G7.trans (gs_of e8)), ⟨?_⟩⟩
            have ez := ext_alloc w8 (.cells #[.int .i64 0, .int .i64 0, .int .u64 0] 114)
            refine ⟨cC _ ((G7.trans (gs_of e8)).trans (gs_of ez)), ?_⟩
            refine do_st3 (blk_alloc w8 _ _) fun w9 hx9 g9 => ?_
            have e9 : Ext w8 w9 := ez.st g9 (Nat.le_refl _)
            have e79 := e8.trans e9
            exact hK48 w9 _ (G7.trans (gs_of e79)) (hs7.ext e79) (hl7.ext e79) (hr7.ext e79) hx9
          · refine ⟨?_⟩
            have ez := ext_alloc w7 (.cells #[.int .i64 0, .int .i64 0, .int .u64 0] 114)
            have hzz := blk_alloc w7 #[.int .i64 0, .int .i64 0, .int .u64 0] 114
            have nzz : w7.heap.size ≠ b := by have := hs7.lt; omega
            have Gz := G7.trans (gs_of ez)
            refine ⟨cC _ Gz, ?_⟩
            refine H3 (rootC c (.node l k v g r)) Y isY _ _ ((g0.trans G6).trans Gz) fun w8 e8 => retS_ret ⟨_, _, _, _, rfl, cC _ (Gz.trans (gs_of e8)), ?_⟩
            have e78 := ez.trans e8
            have hzz8 := hzz.ext e8
            refine do_st3 hzz8 fun w9 hx9 g9 => ?_
            exact hK48 w9 _ ((G7.trans (gs_of e78)).st g9 (World.grownBy.size G7)) ((hs7.ext e78).st g9 nzz) ((hl7.ext e78).st g9 hzz8 (by decide)) ((hr7.ext e78).st g9 hzz8 (by decide)) hx9
        · refine ⟨?_⟩
          have ez := ext_alloc w6.drew (.cells #[.int .i64 0, .int .i64 0, .int .u64 0] 114)
          have hzz := blk_alloc w6.drew #[.int .i64 0, .int .i64 0, .int .u64 0] 114
          have nzz : w6.drew.heap.size ≠ b := by have := (hs6.ext dr).lt; omega
          have E1 := dr.trans ez
          refine ⟨cC _ (gs_of E1), ?_⟩
          refine do_call Tryz.call213 (c_sitem (hs6.ext E1) (ha6.ext E1) fun w7 g7 hs7 => retS_ret ⟨_, _, _, rfl, cC _ ((gs_of E1).trans g7), ?_⟩)
          have G7 := (gs_of (b := b) E1).trans g7
          have hl7 := h36.gs hs6 G7
          have hr7 := h6.gs hs6 G7
          have hzz7 := hzz.gs g7 nzz
          refine H3 (rootC c (.node l k v g r)) Y isY w7 _ ((g0.trans G6).trans G7) fun w8 e8 => retS_ret ⟨_, _, _, _, rfl, cC _ (G7.trans (gs_of e8)), ?_⟩
          have hzz8 := hzz7.ext e8
          refine do_st3 hzz8 fun w9 hx9 g9 => ?_
          exact hK48 w9 _ ((G7.trans (gs_of e8)).st g9 dr.size) ((hs7.ext e8).st g9 nzz) ((hl7.ext e8).st g9 hzz8 (by decide)) ((hr7.ext e8).st g9 hzz8 (by decide)) hx9
      have d := ext_drew w
      have hcd := hc.gs (gs_of d)
      have hsd := hs.ext d
      refine ⟨⟨fun w' => CapsM w' b14 b16 b18 b36 b o (.func A1 X1 C1) (.func A2 X2 C2) (.func A3 X3 C3) T36, hcd, _, fun w' q => q.s.cell (i := 0) rfl rfl, _, fun w' q => q.o.cell (i := 0) rfl rfl, ⟨?_, ?_⟩⟩⟩
      · refine do_call Tryz.call108 (c_key (ha.ext d) fun w1 e1 => retS_ret ⟨_, rfl, hcd.gs (gs_of e1), ?_⟩)
        have e01 := d.trans e1
        have hs1 := hs.ext e01
        have hu1 := hu.ext e01
        constructor
        · refine do_call Tryz.call89 (c_split ho kk hs1 hu1 oku.1 hku (by omega) fun ql qr w2 g2 hs2 hl2 hr2 => retS_ret ⟨_, _, _, _, _, _, _, rfl, ⟨?_⟩⟩)
          rw [hY, hI]
          have G2 := (gs_of (b := b) e01).trans g2
          have ez := ext_alloc w2 (.cells #[.int .i64 0, .int .i64 0, .int .u64 0] 114)
          refine ⟨(hc.gs G2).gs (gs_of ez), ?_⟩
          refine do_st3 (blk_alloc w2 _ _) fun w3 hx3 g3 => ?_
          have e3 : Ext w2 w3 := ez.st g3 (Nat.le_refl _)
          have nz : w2.heap.size ≠ b := by have := hs2.lt; omega
          exact hK24 w3 _ ql qr (G2.trans (gs_of e3)) (hs2.ext e3) (hl2.ext e3) (hr2.ext e3) nz hx3
        · refine ⟨?_⟩
          have ez := ext_alloc w1 (.cells #[.int .i64 0, .int .i64 0, .int .u64 0] 114)
          have hz := blk_alloc w1 #[.int .i64 0, .int .i64 0, .int .u64 0] 114
          have nz : w1.heap.size ≠ b := by have := hs1.lt; omega
          have E1 := e01.trans ez
          refine ⟨hc.gs (gs_of E1), ?_⟩
          refine do_call Tryz.call89 (c_split ho kk (hs.ext E1) (hu.ext E1) oku.1 hku (by omega) fun ql qr w2 g2 hs2 hl2 hr2 => retS_ret ⟨_, _, _, _, _, _, _, rfl, ?_⟩)
          rw [hY, hI]
          have G2 := (gs_of (b := b) E1).trans g2
          refine do_st3 (hz.gs g2 nz) fun w3 hx3 g3 => ?_
          exact hK24 w3 _ ql qr (G2.st g3 e01.size) (hs2.st g3 nz) (hl2.st g3 (hz.gs g2 nz) (by decide)) (hr2.st g3 (hz.gs g2 nz) (by decide)) nz hx3
      · refine ⟨?_⟩
        have ez := ext_alloc w.drew (.cells #[.int .i64 0, .int .i64 0, .int .u64 0] 114)
        have hz := blk_alloc w.drew #[.int .i64 0, .int .i64 0, .int .u64 0] 114
        have nz : w.drew.heap.size ≠ b := by have := hsd.lt; omega
        have E1 := d.trans ez
        refine ⟨hc.gs (gs_of E1), ?_⟩
        refine do_call Tryz.call108 (c_key (ha.ext E1) fun w1 e1 => retS_ret ⟨_, rfl, hc.gs (gs_of (E1.trans e1)), ?_⟩)
        have E2 := E1.trans e1
        refine do_call Tryz.call89 (c_split ho kk (hs.ext E2) (hu.ext E2) oku.1 hku (by omega) fun ql qr w2 g2 hs2 hl2 hr2 => retS_ret ⟨_, _, _, _, _, _, _, rfl, ?_⟩)
        rw [hY, hI]
        have G2 := (gs_of (b := b) E2).trans g2
        have hz2 := (hz.ext e1).gs g2 nz
        refine do_st3 hz2 fun w3 hx3 g3 => ?_
        exact hK24 w3 _ ql qr (G2.st g3 d.size) (hs2.st g3 nz) (hl2.st g3 hz2 (by decide)) (hr2.st g3 hz2 (by decide)) nz hx3
end Go.Proofs.YtlddfgfmkapoiaaGreat

namespace Go.Proofs.YtlddfgfmkapoiaaGreat
open Go Go.Sh Go.RowKit

abbrev noneF : Value := .func (.func 159) #[] #[]
abbrev wholeF (b : Nat) : Value := .func (.func 162) #[.pointer (some (blk b))] #[]
abbrev aloneF : Value := .func (.func 163) #[] #[]
theorem sideW_none (c : Int) (b : Nat) : SideW c b noneF fun _ => .nil := fun t p w R hs _ _ _ h => by
  refine do_call Tryz.call159 (sh159_ok _ ?_)
  unfold sh159
  exact h _ _ (gs_refl _ _) hs rfl
theorem sideW_whole (c : Int) (b : Nat) : SideW c b (wholeF b) (wholeC c) := fun t p w R hs ht ok hB h =>
  do_callf Tryz.call162 (by rfl) (c_swhole hs ht ok (by omega) h)
theorem itemW_alone (b : Nat) (w0 : World) : ItemW b w0 aloneF aloneI := fun x y is w R _ h => by
  refine do_call Tryz.call163 (sh163_ok _ _ _ _ _ _ _ ?_)
  unfold sh163
  refine ⟨⟨⟨?_⟩⟩⟩
  have e0 := ext_alloc w (.cells #[.int .i64 x.1, .int .i64 x.2.1, .int .u64 x.2.2] 114)
  have hx := blk_alloc w #[.int .i64 x.1, .int .i64 x.2.1, .int .u64 x.2.2] 114
  generalize w.heap.size = b8 at *
  generalize w.alloc (.cells #[.int .i64 x.1, .int .i64 x.2.1, .int .u64 x.2.2] 114) = w1 at *
  have e1 := ext_alloc w1 (.cells #[.int .i64 y.1, .int .i64 y.2.1, .int .u64 y.2.2] 114)
  generalize w1.alloc (.cells #[.int .i64 y.1, .int .i64 y.2.1, .int .u64 y.2.2] 114) = w2 at *
  have e2 := ext_alloc w2 (.cells #[.int .i64 0, .int .i64 0, .int .u64 0] 114)
  have hx3 := hx.ext (e1.trans e2)
  refine ⟨_, hx3.cell (i := 0) (add_blk _ _) rfl, _, hx3.cell (i := 1) (add_blk _ _) rfl, _, hx3.cell (i := 2) (add_blk _ _) rfl, ?_⟩
  refine do_st3 (blk_alloc w2 _ _) fun w4 h4 g4 => ?_
  have e4 : Ext w2 w4 := e2.st g4 (Nat.le_refl _)
  exact ⟨_, h4.cell (i := 0) (add_blk _ _) rfl, _, h4.cell (i := 1) (add_blk _ _) rfl, _, h4.cell (i := 2) (add_blk _ _) rfl, h _ ((e0.trans e1).trans e4)⟩
set_option maxRecDepth 20000 in
set_option maxHeartbeats 1600000 in
theorem c_goes {c o : Int} {b : Nat} {A1 A2 A3 : Fn} {X1 X2 X3 C1 C2 C3 : Array Value} {f1 f2 : Tr → Tr} {it : It → It → Bool → It × Bool} (ho : isO o = true) (s1 : Side c f1) (s2 : Side c f2) {w : World}
    (H1 : SideW c b (.func A1 X1 C1) f1) (H2 : SideW c b (.func A2 X2 C2) f2) (H3 : ItemW b w (.func A3 X3 C3) it) {a u : Tr} {pa pb : Option Addr} {R : Ending → World → Prop} (hs : IsSch c b w) (ha : IsN w pa a) (hu : IsN w pb u) (oa : OkU c o a) (ou : OkU c o u) (hB : a.size + u.size + 10 ≤ BIG)
    (h : ∀ q w', Gs b w w' → IsSch c b w' → IsN w' q (goC c o f1 f2 it a u) → R (.returned (.tuple #[.pointer q, .int .i64 0])) w') :
    Calls Tryz.prog 161 #[.agg #[.func A1 X1 C1, .func A2 X2 C2, .func A3 X3 C3], .pointer (some (blk b)), .int .u8 o, .pointer pa, .pointer pb] w R := by
  refine sh161_ok _ _ _ _ _ _ _ _ _ _ _ _ _ ?_
  unfold sh161
  refine ⟨⟨⟨?_⟩⟩⟩
  have hlt := hs.lt
  have e0 := ext_alloc w (.cells #[.func A1 X1 C1, .func A2 X2 C2, .func A3 X3 C3] 198)
  have h14 := blk_alloc w #[.func A1 X1 C1, .func A2 X2 C2, .func A3 X3 C3] 198
  have n14 : w.heap.size ≠ b := by omega
  have k14 : w.heap.size ≤ w.heap.size := Nat.le_refl _
  generalize hb14 : w.heap.size = b14 at h14 n14 k14 ⊢
  generalize w.alloc (.cells #[.func A1 X1 C1, .func A2 X2 C2, .func A3 X3 C3] 198) = w1 at *
  have l1 := h14.lt
  have e1 := ext_alloc w1 (.cells #[.pointer (some (blk b))] 25)
  have h16 := blk_alloc w1 #[.pointer (some (blk b))] 25
  have n16 : w1.heap.size ≠ b := by omega
  generalize w1.heap.size = b16 at *
  generalize w1.alloc (.cells #[.pointer (some (blk b))] 25) = w2 at *
  have l2 := (h14.ext e1).lt
  have e2 := ext_alloc w2 (.cells #[.int .u8 o] 5)
  have h18 := blk_alloc w2 #[.int .u8 o] 5
  have n18 : w2.heap.size ≠ b := by omega
  generalize w2.heap.size = b18 at *
  generalize w2.alloc (.cells #[.int .u8 o] 5) = w3 at *
  have E3 := (e0.trans e1).trans e2
  refine ⟨_, (h16.ext e2).cell (i := 0) rfl rfl, _, h18.cell (i := 0) rfl rfl, ?_⟩
  have hs3 := hs.ext E3
  refine do_call Tryz.call89 (c_split ho ⟨by decide, by decide⟩ hs3 (t := .nil) rfl (OkM.nil hs.1).1 trivial (by decide) fun ql qr w4 g4 hs4 _ _ => retS_ret ⟨_, _, _, _, _, _, _, rfl, ⟨?_⟩⟩)
  refine do_st3 (blk_alloc w4 _ _) fun w5 h5 g5 => ?_
  have e5 : Ext w4 w5 := (ext_alloc w4 _).st g5 (Nat.le_refl _)
  have G5 := g4.trans (gs_of (b := b) e5)
  have hs5 := hs4.ext e5
  refine ifB_f rfl ⟨?_⟩
  have n36 : w5.heap.size ≠ b := by have := hs5.lt; omega
  refine do_st (blk_alloc w5 _ _) (i := 0) (add_blk _ _) (by simp) fun w6 h36 g6 => ?_
  have e6 : Ext w5 w6 := (ext_alloc w5 _).st g6 (Nat.le_refl _)
  have G6 := G5.trans (gs_of (b := b) e6)
  refine ⟨_, _, _, h36.cell (i := 0) rfl rfl, ?_⟩
  have caps : CapsM w6 b14 b16 b18 w5.heap.size b o (.func A1 X1 C1) (.func A2 X2 C2) (.func A3 X3 C3) 286 :=
    ⟨(h14.ext (e1.trans e2)).gs G6 n14, (h16.ext e2).gs G6 n16, h18.gs G6 n18, h36, n14, n16, n18, n36⟩
  have GW := (gs_of (b := b) E3).trans G6
  exact c_onM ho s1 s2 H1 H2 H3 a GW caps (hs5.ext e6) (ha.gs hs GW) (hu.gs hs GW) oa.ok.1 ou.ok oa.k ou.k ou.asc hB fun q w7 g7 hs7 h7 => retS_ret ⟨_, rfl, h _ _ (GW.trans g7) hs7 h7⟩
section
variable {c o : Int} {b : Nat} {a u : Tr} {pa pb : Option Addr} {w : World} {R : Ending → World → Prop}
theorem c_less (ho : isO o = true) (hs : IsSch c b w) (ha : IsN w pa a) (hu : IsN w pb u) (oa : OkU c o a) (ou : OkU c o u) (hB : a.size + u.size + 10 ≤ BIG)
    (h : ∀ q w', Gs b w w' → IsSch c b w' → IsN w' q (lessC c o a u) → R (.returned (.tuple #[.pointer q, .int .i64 0])) w') : Calls Tryz.prog 88 #[.pointer (some (blk b)), .int .u8 o, .pointer pa, .pointer pb] w R := by
  refine sh88_ok _ _ _ _ ?_
  unfold sh88
  exact do_call Tryz.call161 (c_goes ho (side_whole c) (side_none hs.1) (sideW_whole c b) (sideW_none c b) (itemW_alone b w) hs ha hu oa ou hB fun q w1 g1 hs1 h1 => retS_ret ⟨_, _, rfl, h _ _ g1 hs1 h1⟩)
end
end Go.Proofs.YtlddfgfmkapoiaaGreat

namespace Go.Proofs.YtlddfgfmkapoiaaGreat
open Go Go.Sh Go.RowKit

end Go.Proofs.YtlddfgfmkapoiaaGreat

namespace Go.Proofs.YtlddfgfmkapoiaaGreat
open Go Go.Sh Go.RowKit

/-- two trees that a statement takes -/
structure Law24T (code o : Int) (l : List Bd) (n : Nat) (t : BT) : Prop where
  n4 : n ≤ 400
  wf : t.wf = true
  l : l = t.beads
  fit : FitB t
  ok : OkM code t.tr
  asc : asc o (itsC code t.tr)
theorem Law24T.u {code o : Int} {l : List Bd} {n : Nat} {t : BT} (h : Law24T code o l n t) : OkU code o t.tr := ⟨h.ok, h.asc, h.fit.inK⟩
end Go.Proofs.YtlddfgfmkapoiaaGreat

namespace Go.Proofs.YtlddfgfmkapoiaaGreat
open Go Go.Sh Go.RowKit

theorem tagL_asc {c o : Int} {ds : List Int} {S : List Pr} (h : mayR o S = true) : asc o (tagL c ds S) := by
  have hc := mayR_chain h
  unfold asc
  have e : (tagL c ds S).map (·.1) = S.map (·.1) := by
    have := congrArg (List.map (·.1)) (tagL_prs c ds S)
    rw [List.map_map] at this
    exact this
  rw [e]
  exact chain_pw.1 hc
theorem tagL_inI {c : Int} {ds : List Int} {S : List Pr} (h : InP S) : InI (tagL c ds S) := fun x hx => by
  obtain ⟨y, hy, e⟩ := (tagL_key (k := x.1)).1 ⟨x, hx, rfl⟩
  rw [← e]; exact (h y hy).1
theorem bld_u {c o : Int} {ds : List Int} {S : List Pr} (hs : isS c = true) (hm : mayR o S = true) (hI : InP S) : OkU c o (bldC c (tagL c ds S)) :=
  ⟨(bldC_ok hs _).1, by rw [bldC_its hs]; exact tagL_asc hm, (inK_its (c := c)).2 (by rw [bldC_its hs]; exact tagL_inI hI)⟩
theorem oth_sd {c : Int} {b : Nat} {p : Option Addr} {D : Option (Nat × Nat × Nat × Nat)} {ds : List Int} {w : World} (hs : IsSch c b w) (hd : IsD p D ds w) : Oth (b :: blksD D) w := fun k hk => by
  rcases List.mem_cons.1 hk with rfl | hk
  · exact hs.oth
  · exact hd.oth k hk
section
variable {c o po : Int} {b : Nat} {t : Tr} {pt : Option Addr} {w : World} {R : Ending → World → Prop}
end
/-! ### the document's -/
/-! ### what the statement asks beside -/
end Go.Proofs.YtlddfgfmkapoiaaGreat

namespace Go.Proofs.YtlddfgfmkapoiaaGreat
open Go Go.Sh Go.RowKit

theorem mem_ins {o p k : Int} {l : List It} {z : It} (ho : isO o = true) (hl : InI l) (hz : In z.1) : (∃ x ∈ insL o p l z, x.1 = k) ↔ (∃ x ∈ l, x.1 = k) ∨ z.1 = k := by
  have hy : (insI p z (lastE o z.1 l) (anyE o z.1 l)).1.1 = z.1 := by
    unfold insI
    cases ha : anyE o z.1 l with
    | false => rfl
    | true =>
      have h := lastE_mem ha
      have e : (lastE o z.1 l).1 = z.1 := cmpI_eq ho (hl _ h.1) hz h.2
      exact e
  have e : insL o p l z = ltF o z.1 l ++ [(insI p z (lastE o z.1 l) (anyE o z.1 l)).1] ++ gtF o z.1 l := rfl
  constructor
  · rintro ⟨x, hx, rfl⟩
    rw [e, List.mem_append, List.mem_append, List.mem_singleton] at hx
    rcases hx with (hx | rfl) | hx
    · exact .inl ⟨x, (List.mem_filter.1 hx).1, rfl⟩
    · exact .inr hy.symm
    · exact .inl ⟨x, (List.mem_filter.1 hx).1, rfl⟩
  · have hyy : (insI p z (lastE o z.1 l) (anyE o z.1 l)).1 ∈ insL o p l z := by rw [e]; simp
    rintro (⟨x, hx, rfl⟩ | rfl)
    · rcases Int.lt_trichotomy (cmpI o x.1 z.1) 0 with h | h | h
      · exact ⟨x, by rw [e]; exact List.mem_append_left _ (List.mem_append_left _ (List.mem_filter.2 ⟨hx, decide_eq_true h⟩)), rfl⟩
      · exact ⟨_, hyy, hy.trans (cmpI_eq ho (hl x hx) hz h).symm⟩
      · exact ⟨x, by rw [e]; exact List.mem_append_right _ (List.mem_filter.2 ⟨hx, decide_eq_true h⟩), rfl⟩
    · exact ⟨_, hyy, hy⟩
theorem mem_fold {o p k : Int} (ho : isO o = true) : ∀ {b l : List It}, InI l → InI b → ((∃ x ∈ foldI o p l b, x.1 = k) ↔ (∃ x ∈ l, x.1 = k) ∨ ∃ x ∈ b, x.1 = k)
  | [], l, _, _ => by simp [foldI_nil]
  | z :: b, l, hl, hb => by
    have hz := hb z (by simp)
    have hI : InI (insL o p l z) := fun x hx => by
      rcases (mem_ins (p := p) (k := x.1) ho hl hz).1 ⟨x, hx, rfl⟩ with ⟨y, hy, e⟩ | e
      · rw [← e]; exact hl y hy
      · rw [← e]; exact hz
    rw [foldI_cons, mem_fold ho hI fun x hx => hb x (by simp [hx]), mem_ins ho hl hz]
    constructor
    · rintro ((h | h) | ⟨x, hx, h⟩)
      · exact .inl h
      · exact .inr ⟨z, by simp, h⟩
      · exact .inr ⟨x, by simp [hx], h⟩
    · rintro (h | ⟨x, hx, h⟩)
      · exact .inl (.inl h)
      · rcases List.mem_cons.1 hx with rfl | hx
        · exact .inl (.inr h)
        · exact .inr ⟨x, hx, h⟩
theorem zero_fold {o : Int} : ∀ {b l : List It}, (∀ x ∈ l, x.2.1 = 0) → (∀ x ∈ b, x.2.1 = 0) → ∀ x ∈ foldI o 1 l b, x.2.1 = 0
  | [], _, hl, _ => hl
  | z :: b, l, hl, hb => by
    rw [foldI_cons]
    refine zero_fold (fun y hy => ?_) fun x hx => hb x (by simp [hx])
    rcases mem_insL hy with h | rfl | ⟨u, hu, rfl⟩
    · exact hl y h
    · exact hb y (by simp)
    · show comb 1 u.2.1 z.2.1 = 0
      simp [comb, hl u hu]
theorem keys_ext {o : Int} {K K' : List Int} (h : K.Pairwise (ltO o)) (h' : K'.Pairwise (ltO o)) (hm : ∀ k, k ∈ K ↔ k ∈ K') : K = K' := by
  have e : ∀ L : List Int, (L.map fun k => ((k, 0) : Pr)).map (·.1) = L := fun L => by
    rw [List.map_map]
    have : L.map ((fun x : Pr => x.1) ∘ fun k => ((k, 0) : Pr)) = L.map id := List.map_congr_left fun x _ => rfl
    rw [this, List.map_id]
  have := pw_ext (r := K.map fun k => ((k, 0) : Pr)) (s := K'.map fun k => ((k, 0) : Pr)) (by rw [e]; exact h) (by rw [e]; exact h') fun x => by
    simp only [List.mem_map]
    constructor
    · rintro ⟨k, hk, rfl⟩; exact ⟨k, (hm k).1 hk, rfl⟩
    · rintro ⟨k, hk, rfl⟩; exact ⟨k, (hm k).2 hk, rfl⟩
  have := congrArg (List.map (·.1)) this
  rwa [e, e] at this
theorem less_mem {a b : List It} {k : Int} : (∃ x ∈ lessL a b, x.1 = k) ↔ (∃ x ∈ a, x.1 = k) ∧ ¬ ∃ x ∈ b, x.1 = k := by
  have hf : ∀ x : It, (findK b x.1).isNone = true ↔ ¬ ∃ y ∈ b, y.1 = x.1 := fun x => by
    rw [← findK_isSome]
    cases findK b x.1 <;> simp
  constructor
  · rintro ⟨x, hx, rfl⟩
    have := List.mem_filter.1 hx
    exact ⟨⟨x, this.1, rfl⟩, (hf x).1 this.2⟩
  · rintro ⟨⟨x, hx, rfl⟩, h⟩
    exact ⟨x, List.mem_filter.2 ⟨hx, (hf x).2 h⟩, rfl⟩
/-- a tree of keys: which ones; its values are 0 -/
structure KeyT (c o : Int) (t : Tr) (K : List Int) : Prop where
  ok : OkU c o t
  key : (itsC c t).map (·.1) = K
  val : ∀ x ∈ itsC c t, x.2.1 = 0
  tag : TagI (itsC c t)
theorem KeyT.mem {c o : Int} {t : Tr} {K : List Int} (h : KeyT c o t K) (k : Int) : k ∈ K ↔ ∃ x ∈ itsC c t, x.1 = k := by rw [← h.key, List.mem_map]
theorem KeyT.asc {c o : Int} {t : Tr} {K : List Int} (h : KeyT c o t K) : K.Pairwise (ltO o) := by rw [← h.key]; exact h.ok.asc
theorem KeyT.len {c o : Int} {t : Tr} {K : List Int} (h : KeyT c o t K) : t.size = K.length := by rw [← h.key, List.length_map, itsC_len]
theorem KeyT.prs {c o : Int} {t : Tr} {K : List Int} (h : KeyT c o t K) : t.pairs.map (·.1) = K := by rw [pairs_its, h.key]
theorem KeyT.inI {c o : Int} {t : Tr} {K : List Int} (h : KeyT c o t K) : InI (itsC c t) := (inK_its (c := c)).1 h.ok.k
theorem keyT_build {c o : Int} {ds keys : List Int} (hs : isS c = true) (ho : isO o = true) (hI : ∀ k ∈ keys, In k) (hU : InU ds) : ∃ K, KeyT c o (bldC c (tagL c ds (sortL o 1 (zeroP keys)))) K ∧ (∀ k, k ∈ K ↔ k ∈ keys) ∧ K.length ≤ keys.length := by
  have hm := sortL_may (p := 1) ho (by decide) (zeroP_in hI)
  have hit := bldC_its (ds := ds) (l := sortL o 1 (zeroP keys)) hs
  refine ⟨_, ⟨bld_u hs hm.1 hm.2.1, rfl, ?_, by rw [hit]; exact tagL_tag hU⟩, fun k => ?_, ?_⟩
  · intro x hx
    rw [hit] at hx
    have h1 := List.mem_map_of_mem (f := fun x : It => (x.1, x.2.1)) hx
    rw [tagL_prs] at h1
    -- the value of a sorted row of zeros
    have h2 := (lk_iff hm.1 (k := x.1) (v := x.2.1)).2 h1
    rw [sortL_lk0 ho (by decide) (zeroP_in hI)] at h2
    have hz : ∀ (m : List Int) (a : Option Int), (∀ v ∈ m, v = 0) → (∀ v, a = some v → v = 0) → ∀ v, m.foldl (addO 1) a = some v → v = 0 := by
      intro m
      induction m with
      | nil => intro a _ ha v hv; exact ha v hv
      | cons y m ih =>
        intro a hm ha v hv
        refine ih (addO 1 a y) (fun v hv => hm v (by simp [hv])) (fun v hv => ?_) v hv
        cases a with
        | none =>
          have : y = v := Option.some.inj hv
          rw [← this]; exact hm y (by simp)
        | some u =>
          have e : comb 1 u y = v := Option.some.inj hv
          rw [← e]
          simp [comb, ha u rfl]
    refine hz _ none (fun v hv => ?_) (fun v hv => by cases hv) _ h2
    obtain ⟨y, hy, rfl⟩ := List.mem_map.1 hv
    obtain ⟨j, _, rfl⟩ := List.mem_map.1 (List.mem_filter.1 hy).1
    rfl
  · rw [List.mem_map, hit]
    have := tagL_key (c := c) (ds := ds) (l := sortL o 1 (zeroP keys)) (k := k)
    rw [sortL_mem ho (by decide) (zeroP_in hI), zero_mem] at this
    exact this
  · rw [hit, List.length_map, tagL_len]
    have := hm.2.2
    rwa [zeroP_len] at this
theorem keyT_union {c o : Int} {t u : Tr} {K L : List Int} (ho : isO o = true) (h : KeyT c o t K) (g : KeyT c o u L) : ∃ M, KeyT c o (unionC c o 1 t u) M ∧ (∀ k, k ∈ M ↔ k ∈ K ∨ k ∈ L) ∧ M.length ≤ K.length + L.length := by
  have V := unionC_ok (p := 1) h.ok.ok.1 g.ok.ok h.ok.asc g.ok.asc
  have P := h.ok.union (p := 1) g.ok
  refine ⟨_, ⟨P.1, rfl, by rw [V]; exact zero_fold h.val g.val, by rw [V]; exact foldI_all (P := fun _ g => 0 ≤ g ∧ g < 18446744073709551616) h.tag g.tag⟩, fun k => ?_, ?_⟩
  · rw [List.mem_map, V, mem_fold ho h.inI g.inI, ← h.mem, ← g.mem]
  · rw [List.length_map, V]
    have := foldI_len (o := o) (p := 1) (l := itsC c t) (b := itsC c u)
    rw [← h.key, ← g.key, List.length_map, List.length_map]
    exact this
theorem keyT_less {c o : Int} {t u : Tr} {K L : List Int} (ho : isO o = true) (h : KeyT c o t K) (g : KeyT c o u L) : ∃ M, KeyT c o (lessC c o t u) M ∧ (∀ k, k ∈ M ↔ k ∈ K ∧ k ∉ L) ∧ M.length ≤ K.length := by
  have V := lessC_ok ho h.ok g.ok
  refine ⟨_, ⟨⟨V.1, by rw [V.2.1]; exact asc_filter h.ok.asc, (inK_its (c := c)).2 fun x hx => ?_⟩, rfl, by rw [V.2.1]; exact fun x hx => h.val x (mem_less hx), by rw [V.2.1]; exact fun x hx => h.tag x (mem_less hx)⟩, fun k => ?_, ?_⟩
  · rw [V.2.1] at hx; exact h.inI x (mem_less hx)
  · rw [List.mem_map, V.2.1, less_mem, ← h.mem, ← g.mem]
  · rw [List.length_map, V.2.1, ← h.key, List.length_map]
    exact List.length_filter_le ..
end Go.Proofs.YtlddfgfmkapoiaaGreat

namespace Go.Proofs.YtlddfgfmkapoiaaGreat
open Go Go.Sh Go.RowKit

abbrev lkF : Value := .func (.func 123) #[] #[]
abbrev rkF : Value := .func (.func 125) #[] #[]
abbrev onL (b9 b10 b7 b12 : Nat) : Value := .func (.func 302) #[] #[.pointer (some (blk b9)), .pointer (some (blk b10)), .pointer (some (blk b7)), .pointer (some (blk b12))]
/-- all pairs of a tree, from left to right -/
theorem c_lall {t : Option Addr} {w : World} {R : Ending → World → Prop}
    (h : ∀ b8 b10 b12 b4 w', Ext w w' → w.heap.size ≤ b8 → w.heap.size ≤ b10 → w.heap.size ≤ b12 → w.heap.size ≤ b4 → Blk w' b8 #[.pointer t] 35 → Blk w' b10 #[lkF] 195 → Blk w' b12 #[rkF] 195 →
      Blk w' b4 #[.func (.func 301) #[] #[.pointer (some (blk b10)), .pointer (some (blk b12)), .pointer (some (blk b8))]] 241 →
      R (.returned (.func (.func 240) #[] #[.pointer (some (blk b4))])) w') : Calls Tryz.prog 99 #[.pointer t] w R := by
  refine sh99_ok _ ?_
  unfold sh99
  refine do_call Tryz.call181 (sh181_ok _ ?_)
  unfold sh181
  refine do_call Tryz.call241 (sh241_ok _ _ _ _ _ _ _ ?_)
  unfold sh241
  refine ⟨⟨⟨?_⟩⟩⟩
  have e0 := ext_alloc w (.cells #[.pointer t] 35)
  have h0 := blk_alloc w #[.pointer t] 35
  have m0 := h0.lt
  obtain ⟨b8, z8⟩ : ∃ b8, b8 = w.heap.size := ⟨_, rfl⟩
  rw [← z8] at h0 m0 ⊢
  generalize w.alloc (.cells #[.pointer t] 35) = w1 at *
  have e1 := ext_alloc w1 (.cells #[lkF] 195)
  have h1 := blk_alloc w1 #[lkF] 195
  have m1 := h1.lt
  obtain ⟨b10, z10⟩ : ∃ b10, b10 = w1.heap.size := ⟨_, rfl⟩
  rw [← z10] at h1 m1 ⊢
  generalize w1.alloc (.cells #[lkF] 195) = w2 at *
  have e2 := ext_alloc w2 (.cells #[rkF] 195)
  have h2 := blk_alloc w2 #[rkF] 195
  have m2 := h2.lt
  obtain ⟨b12, z12⟩ : ∃ b12, b12 = w2.heap.size := ⟨_, rfl⟩
  rw [← z12] at h2 m2 ⊢
  generalize w2.alloc (.cells #[rkF] 195) = w3 at *
  refine retS_ret ⟨_, _, _, rfl, retS_ret ⟨_, _, _, rfl, ?_⟩⟩
  refine do_call Tryz.call180 (sh180_ok _ _ _ ?_)
  unfold sh180
  refine ⟨retS_ret ⟨_, _, _, rfl, ?_⟩⟩
  have e3 := ext_alloc w3 (.cells #[.func (.func 301) #[] #[.pointer (some (blk b10)), .pointer (some (blk b12)), .pointer (some (blk b8))]] 241)
  have h3 := blk_alloc w3 #[.func (.func 301) #[] #[.pointer (some (blk b10)), .pointer (some (blk b12)), .pointer (some (blk b8))]] 241
  have s0 := e0.size
  have s1 := e1.size
  have s2 := e2.size
  exact h b8 b10 b12 _ _ (((e0.trans e1).trans e2).trans e3) (by omega) (by omega) (by omega) (by omega) (((h0.ext e1).ext e2).ext e3) ((h1.ext e2).ext e3) (h2.ext e3) h3
theorem c_leftG {W1 w : World} {S : List Nat} {p : Option Addr} {t : Tr} {R : Ending → World → Prop} (ht : IsN W1 p t) (hO : Oth S W1) (G : Gd S W1 w) (h : ∀ q, IsN W1 q t.left → R (.returned (.pointer q)) w) : Calls Tryz.prog 123 #[.pointer p] w R := by
  refine sh123_ok _ ?_
  unfold sh123
  cases t with
  | nil => obtain rfl : p = none := ht; exact ifB_t rfl (h _ rfl)
  | node l k v g r =>
    obtain ⟨b, pl, pr, rfl, hn, hl, hr⟩ := ht
    exact ifB_f rfl ⟨_, rfl, _, (hn.gd G fun hm => hO b hm _ hn).cell (i := 5) (add_blk _ _) rfl, h _ hl⟩
theorem c_rightG {W1 w : World} {S : List Nat} {p : Option Addr} {t : Tr} {R : Ending → World → Prop} (ht : IsN W1 p t) (hO : Oth S W1) (G : Gd S W1 w) (h : ∀ q, IsN W1 q t.right → R (.returned (.pointer q)) w) : Calls Tryz.prog 125 #[.pointer p] w R := by
  refine sh125_ok _ ?_
  unfold sh125
  cases t with
  | nil => obtain rfl : p = none := ht; exact ifB_t rfl (h _ rfl)
  | node l k v g r =>
    obtain ⟨b, pl, pr, rfl, hn, hl, hr⟩ := ht
    exact ifB_f rfl ⟨_, rfl, _, (hn.gd G fun hm => hO b hm _ hn).cell (i := 6) (add_blk _ _) rfl, h _ hr⟩
/-- the going over itself: whatever is kept, behind the pairs so far, is kept behind those of a tree -/
theorem do_onL {W1 : World} {S : List Nat} {b9 b10 b7 b12 : Nat} {y1 : Fn} {y2 y3 : Array Value} {T9 T10 T7 T12 : TypeId} (h9 : Blk W1 b9 #[onL b9 b10 b7 b12] T9) (h10 : Blk W1 b10 #[lkF] T10) (h7 : Blk W1 b7 #[.func y1 y2 y3] T7) (h12 : Blk W1 b12 #[rkF] T12)
    (n9 : b9 ∉ S) (n10 : b10 ∉ S) (n7 : b7 ∉ S) (n12 : b12 ∉ S) (hO : Oth S W1) {J : List Pr → World → Prop} {M : Nat} (hJg : ∀ l w, J l w → Gd S W1 w) (hJe : ∀ l w w', J l w → Ext w w' → J l w')
    (hy : ∀ (l : List Pr) (w : World) (pn : Option Addr) (tl : Tr) (k v g : Int) (tr : Tr) (R : Ending → World → Prop), J l w → l.length + 1 ≤ M → IsN w pn (.node tl k v g tr) → (∀ w', J (l ++ [(k, v)]) w' → R (.returned (.bool true)) w') → doCall Tryz.prog (.func y1 y2 y3) #[.pointer pn] w R) :
    ∀ (t : Tr) {L : List Pr} {p : Option Addr} {w : World} {R : Ending → World → Prop} (_ht : IsN W1 p t) (_hJ : J L w) (_hM : L.length + t.pairs.length ≤ M) (_h : ∀ w', J (L ++ t.pairs) w' → R (.returned (.bool true)) w'), doCall Tryz.prog (onL b9 b10 b7 b12) #[.pointer p] w R
  | .nil, L, p, w, R, ht, hJ, hM, h => by
    refine do_callc Tryz.call302 (by rfl) (sh302_ok _ _ _ _ _ ?_)
    unfold sh302
    intro K8
    have : p = none := ht
    subst this
    have hJ' := hJe _ _ _ hJ (ext_drew w)
    refine ⟨⟨fun w' => Gd S W1 w', hJg _ _ hJ', ifB_t rfl (h _ ?_)⟩⟩
    simpa [Tr.pairs] using hJ'
  | .node l k v g r, L, p, w, R, ht, hJ, hM, h => by
    refine do_callc Tryz.call302 (by rfl) (sh302_ok _ _ _ _ _ ?_)
    unfold sh302
    intro K8
    obtain ⟨bn, pl, pr, hp, hb, hl, hr⟩ := id ht
    subst hp
    have hlen : (Tr.node l k v g r).pairs.length = l.pairs.length + (1 + r.pairs.length) := by simp [Tr.pairs]; omega
    have hJ' := hJe _ _ _ hJ (ext_drew w)
    have on9 : ∀ w', Gd S W1 w' → World.cell? w' (blk b9) = some (onL b9 b10 b7 b12) := fun w' G => (h9.gd G n9).cell (i := 0) rfl rfl
    have on10 : ∀ w', Gd S W1 w' → World.cell? w' (blk b10) = some lkF := fun w' G => (h10.gd G n10).cell (i := 0) rfl rfl
    have on7 : ∀ w', Gd S W1 w' → World.cell? w' (blk b7) = some (.func y1 y2 y3) := fun w' G => (h7.gd G n7).cell (i := 0) rfl rfl
    have on12 : ∀ w', Gd S W1 w' → World.cell? w' (blk b12) = some rkF := fun w' G => (h12.gd G n12).cell (i := 0) rfl rfl
    refine ⟨⟨fun w' => Gd S W1 w', hJg _ _ hJ', ifB_f rfl ⟨_, _, _, fun w' G => on9 w' G, _, _, _, fun w' G => on10 w' G, ?_⟩⟩⟩
    refine do_call Tryz.call123 (c_leftG ht hO (hJg _ _ hJ') fun ql hql1 => retS_ret ⟨_, rfl, hJg _ _ hJ', ?_⟩)
    refine do_onL h9 h10 h7 h12 n9 n10 n7 n12 hO hJg hJe hy l hql1 hJ' (by omega) fun w1 J1 => retS_ret ⟨_, rfl, hJg _ _ J1, ifB_t rfl ?_⟩
    refine ⟨_, _, _, fun w' G => on7 w' G, ?_⟩
    refine hy (L ++ l.pairs) w1 _ l k v g r _ J1 (by rw [List.length_append]; omega) (ht.gd hO (hJg _ _ J1)) fun w2 J2 => retS_ret ⟨_, rfl, hJg _ _ J2, ifB_t rfl ?_⟩
    refine ⟨_, _, _, fun w' G => on9 w' G, _, _, _, fun w' G => on12 w' G, ?_⟩
    refine do_call Tryz.call125 (c_rightG ht hO (hJg _ _ J2) fun qr hqr1 => retS_ret ⟨_, rfl, hJg _ _ J2, ?_⟩)
    refine do_onL h9 h10 h7 h12 n9 n10 n7 n12 hO hJg hJe hy r hqr1 J2 (by simp only [List.length_append, List.length_cons, List.length_nil]; omega) fun w3 J3 => retS_ret ⟨_, rfl, hJg _ _ J3, ?_⟩
    refine h w3 ?_
    have e : L ++ (Tr.node l k v g r).pairs = L ++ l.pairs ++ [(k, v)] ++ r.pairs := by simp [Tr.pairs]
    rw [e]; exact J3
end Go.Proofs.YtlddfgfmkapoiaaGreat

