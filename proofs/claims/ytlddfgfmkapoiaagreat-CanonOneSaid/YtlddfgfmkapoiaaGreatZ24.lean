/-
  canon.Diff: what it computes.
-/
/-
  Sets of keys, in plain: which keys come of two.
-/
/-
  set: sets of keys in memory.
-/
/-
  set: what a set is changed to, and which key is at a place; the chapter's example.
-/
/-
  The document's answer of layer 40; has a set just these keys?
-/
/-
  canon.Diff of two canonical trees; the chapter's examples.
-/
/-
  The document's canonical tree; the chapter's examples.
-/
import Derived.Test.YtlddfgfmkapoiaaGreatZ23
import Derived.Test.YtlddfgfmkapoiaaGreatZ17
import Derived.Test.YtlddfgfmkapoiaaGreatZ19

namespace Go.Proofs.YtlddfgfmkapoiaaGreat
open Go Go.Sh Go.RowKit

/-! ### what stays: all blocks but some, and but rows of keys -/
structure Gk (S : List Nat) (w w' : World) : Prop where
  size : w.heap.size ≤ w'.heap.size
  keep : ∀ k, k < w.heap.size → k ∉ S → (∀ cs, ¬ Blk w k cs 2) → w'.heap[k]? = w.heap[k]?
theorem gk_of {S : List Nat} {w w' : World} (e : Ext w w') : Gk S w w' := ⟨e.size, fun k hk _ _ => e.block k hk⟩
theorem gk_gd {S T : List Nat} {w w' : World} (g : Gd T w w') (h : ∀ k ∈ T, k ∈ S) : Gk S w w' := ⟨g.size, fun k hk hn _ => g.2.2.2.2 k hk fun q => hn (h k q)⟩
theorem gk_gs {S : List Nat} {b : Nat} {w w' : World} (g : Gs b w w') (h : b ∈ S) : Gk S w w' := ⟨g.size, fun k hk hn _ => g.block k hk (ne_some fun e => hn (by rw [e]; exact h))⟩
theorem Gk.trans {S : List Nat} {x y z : World} (g : Gk S x y) (k : Gk S y z) : Gk S x z := ⟨Nat.le_trans g.size k.size, fun i hi hn hb => by
  have e := g.keep i hi hn hb
  rw [k.keep i (Nat.lt_of_lt_of_le hi g.size) hn fun cs q => hb cs (by unfold Blk at q ⊢; rw [← e]; exact q), e]⟩
theorem gk_row {S : List Nat} {w w' : World} {base n c m : Nat} {q : Option Addr} {xs : List Int} (h : OwnK w base q n c xs) (g : w.grownBy w' (Value.slice q m c).ownBlock) : Gk S w w' := ⟨World.grownBy.size g, fun k hk _ hb => g.block k hk fun e => by
  rcases h.2 with z | ⟨b, cap, cur, hv, hbb, hblk, rest⟩
  · have hz := z.1
    injection hz with hz1
    subst hz1
    cases e
  · have e2 : (Value.slice q n c).ownBlock = (Value.slice q m c).ownBlock := by cases q <;> rfl
    rw [← e2, hv] at e
    have e3 : b = k := by injection e with e; exact e.symm
    subst e3
    exact hb _ hblk⟩
theorem _root_.Go.Sh.Blk.gk {S : List Nat} {k : Nat} {w w' : World} {cs : Array Value} {t : TypeId} (h : Blk w k cs t) (ht : t ≠ 2) (g : Gk S w w') (hk : k ∉ S) : Blk w' k cs t := by
  have := g.keep k h.lt hk fun cs' q => ht (blk_fun h q)
  unfold Blk at h ⊢
  rw [this]; exact h
theorem _root_.Go.Sh.IsT.gk {S : List Nat} {w w' : World} {p : Option Addr} {t : Tr} (h : IsN w p t) (o : Oth S w) (g : Gk S w w') : IsN w' p t := by
  induction t generalizing p with
  | nil => exact h
  | node l k v gg r ihl ihr =>
    obtain ⟨b', pl, pr, hp, hb, hl, hr⟩ := h
    exact ⟨b', pl, pr, hp, hb.gk (by decide) g (fun hm => o b' hm _ hb), ihl hl, ihr hr⟩
/-! ### the going over two trees -/
abbrev onD (b10 b8 b5 b7 : Nat) : Value := .func (.func 202) #[] #[.pointer (some (blk b10)), .pointer (some (blk b8)), .pointer (some (blk b5)), .pointer (some (blk b7))]
structure HD (b10 b8 b5 b7 bs : Nat) (o : Int) (y1 : Fn) (y2 y3 : Array Value) (w : World) : Prop where
  on : Blk w b10 #[onD b10 b8 b5 b7] 74
  yl : Blk w b8 #[.func y1 y2 y3] 103
  sc : Blk w b5 #[.pointer (some (blk bs))] 25
  od : Blk w b7 #[.int .u8 o] 5
/-- what is kept behind some keys, and how a key is told -/
structure YD (S : List Nat) (b10 b8 b5 b7 bs M : Nat) (y1 : Fn) (y2 y3 : Array Value) (J : List Int → World → Prop) : Prop where
  sch : ∀ l w, J l w → IsSch 4 bs w
  bsS : bs ∈ S
  ext : ∀ l w w', J l w → Ext w w' → J l w'
  gs : ∀ l w w', J l w → Gs bs w w' → IsSch 4 bs w' → J l w'
  oth : ∀ l w, J l w → Oth S w
  lt : ∀ l w, J l w → ∀ k ∈ S, k < w.heap.size
  y : ∀ (l : List Int) (w : World) (k : Int) (R : Ending → World → Prop), J l w → l.length + 1 ≤ M → (∀ w', J (l ++ [k]) w' → Gk S w w' → R (.returned (.bool true)) w') → doCall Tryz.prog (.func y1 y2 y3) #[.int .i64 k] w R
  n10 : b10 ∉ S
  n8 : b8 ∉ S
  n5 : b5 ∉ S
  n7 : b7 ∉ S
section
variable {S : List Nat} {b10 b8 b5 b7 bs M : Nat} {o : Int} {y1 : Fn} {y2 y3 : Array Value} {J : List Int → World → Prop}
theorem HD.gk {w w' : World} (h : HD b10 b8 b5 b7 bs o y1 y2 y3 w) (Y : YD S b10 b8 b5 b7 bs M y1 y2 y3 J) (g : Gk S w w') : HD b10 b8 b5 b7 bs o y1 y2 y3 w' :=
  ⟨h.on.gk (by decide) g Y.n10, h.yl.gk (by decide) g Y.n8, h.sc.gk (by decide) g Y.n5, h.od.gk (by decide) g Y.n7⟩
set_option maxRecDepth 20000 in
theorem do_onD0 (Y : YD S b10 b8 b5 b7 bs M y1 y2 y3 J) : ∀ (b : Tr) {L : List Int} {pb : Option Addr} {w : World} {R : Ending → World → Prop} (_h : HD b10 b8 b5 b7 bs o y1 y2 y3 w) (_hb : IsN w pb b) (_hJ : J L w) (_hM : L.length + b.size ≤ M)
    (_k : ∀ w', J (L ++ b.pairs.map (·.1)) w' → Gk S w w' → R (.returned (.bool true)) w'), doCall Tryz.prog (onD b10 b8 b5 b7) #[.pointer none, .pointer pb] w R
  | .nil, L, pb, w, R, h, hb, hJ, hM, k => by
    refine do_callc Tryz.call202 (by rfl) (sh202_ok _ _ _ _ _ _ ?_)
    unfold sh202
    refine do_pe (a := .nil) (b := .nil) rfl hb (fun _ => ifB_t rfl (k w (by simpa [Tr.pairs] using hJ) (gk_of (ext_refl w)))) fun hne => absurd (show pb = none from hb).symm hne
  | .node l kk v g r, L, pb, w, R, h, hb, hJ, hM, k => by
    refine do_callc Tryz.call202 (by rfl) (sh202_ok _ _ _ _ _ _ ?_)
    unfold sh202
    have e : (Tr.node l kk v g r).size = l.size + 1 + r.size := rfl
    have ep : (Tr.node l kk v g r).pairs.map (·.1) = l.pairs.map (·.1) ++ [kk] ++ r.pairs.map (·.1) := by
      show (l.pairs ++ (kk, v) :: r.pairs).map (·.1) = _
      simp
    have zl := l.pairs_length
    have zr := r.pairs_length
    refine do_pe (a := .nil) rfl hb (fun q => absurd (isN_fun (a := .nil) (b := .node l kk v g r) (show IsN w pb .nil from q.symm ▸ rfl) hb) (by simp)) fun hne => ifB_f rfl (ifB_t rfl ?_)
    intro K10
    have d := ext_drew w
    have O := Y.oth _ _ hJ
    have G0 : Gk S w w.drew := gk_of d
    have on : ∀ w', Gk S w w' → World.cell? w' (blk b10) = some (onD b10 b8 b5 b7) := fun w' G => (h.gk Y G).on.cell (i := 0) rfl rfl
    have yl : ∀ w', Gk S w w' → World.cell? w' (blk b8) = some (.func y1 y2 y3) := fun w' G => (h.gk Y G).yl.cell (i := 0) rfl rfl
    have J0 := Y.ext _ _ _ hJ d
    refine ⟨⟨fun w' => Gk S w w', G0, _, _, _, fun w' G => on w' G, ?_⟩⟩
    refine do_call Tryz.call123 (c_left (hb.ext d) fun pl hpl => retS_ret ⟨_, rfl, G0, ?_⟩)
    refine do_onD0 Y l (h.gk Y G0) hpl J0 (by omega) fun w1 J1 g1 => retS_ret ⟨_, rfl, G0.trans g1, ifB_t rfl ?_⟩
    have G1 := G0.trans g1
    refine ⟨_, _, _, fun w' G => yl w' G, ?_⟩
    refine do_call Tryz.call108 (c_key (hb.gk O G1) fun w2 e2 => retS_ret ⟨_, rfl, G1.trans (gk_of e2), ?_⟩)
    have G2 := G1.trans (gk_of e2)
    refine Y.y _ w2 _ _ (Y.ext _ _ _ J1 e2) (by rw [List.length_append, List.length_map]; omega) fun w3 J3 g3 => retS_ret ⟨_, rfl, G2.trans g3, ifB_t rfl ?_⟩
    have G3 := G2.trans g3
    refine ⟨_, _, _, fun w' G => on w' G, ?_⟩
    refine do_call Tryz.call125 (c_right (hb.gk O G3) fun pr hpr => retS_ret ⟨_, rfl, G3, ?_⟩)
    refine do_onD0 Y r (h.gk Y G3) hpr J3 (by simp only [List.length_append, List.length_map, List.length_cons, List.length_nil]; omega) fun w4 J4 g4 => retS_ret ⟨_, rfl, G3.trans g4, ?_⟩
    refine k w4 ?_ (G3.trans g4)
    rw [ep, ← List.append_assoc, ← List.append_assoc]
    exact J4
set_option maxRecDepth 20000 in
set_option maxHeartbeats 1000000 in
theorem do_onD (ho : isO o = true) (Y : YD S b10 b8 b5 b7 bs M y1 y2 y3 J) : ∀ (a b : Tr) {L : List Int} {pa pb : Option Addr} {w : World} {R : Ending → World → Prop} (_h : HD b10 b8 b5 b7 bs o y1 y2 y3 w) (_ha : IsN w pa a) (_hb : IsN w pb b) (_hu : OkU 4 o b) (_iA : ∀ x ∈ a.pairs, In x.1) (_aA : (a.pairs.map (·.1)).Pairwise (ltO o)) (_hJ : J L w) (_hM : L.length + (a.size + b.size) ≤ M) (_hB : b.size + 6 ≤ BIG)
    (_k : ∀ w', J (L ++ difT o a b.pairs) w' → Gk S w w' → R (.returned (.bool true)) w'), doCall Tryz.prog (onD b10 b8 b5 b7) #[.pointer pa, .pointer pb] w R
  | .nil, b, L, pa, pb, w, R, h, ha, hb, hu, iA, aA, hJ, hM, hB, k => by
    have : pa = none := ha
    subst this
    exact do_onD0 Y b h hb hJ (by simp only [Tr.size] at hM; omega) fun w' J' G' => k w' J' G'
  | .node l kk v g r, b, L, pa, pb, w, R, h, ha, hb, hu, iA, aA, hJ, hM, hB, k => by
    refine do_callc Tryz.call202 (by rfl) (sh202_ok _ _ _ _ _ _ ?_)
    unfold sh202
    have e : (Tr.node l kk v g r).size = l.size + 1 + r.size := rfl
    have ep : (Tr.node l kk v g r).pairs = l.pairs ++ (kk, v) :: r.pairs := rfl
    have aA' := aA
    rw [ep, List.map_append, List.map_cons] at aA'
    obtain ⟨aL, aR, _⟩ := List.pairwise_append.1 aA'
    have aR := (List.pairwise_cons.1 aR).2
    have iL : ∀ x ∈ l.pairs, In x.1 := fun x q => iA x (by rw [ep]; simp [q])
    have iR : ∀ x ∈ r.pairs, In x.1 := fun x q => iA x (by rw [ep]; simp [q])
    have ik : In kk := iA (kk, v) (by rw [ep]; simp)
    have zl := l.pairs_length
    have zr := r.pairs_length
    have zb := b.pairs_length
    have O := Y.oth _ _ hJ
    have on : ∀ w', Gk S w w' → World.cell? w' (blk b10) = some (onD b10 b8 b5 b7) := fun w' G => (h.gk Y G).on.cell (i := 0) rfl rfl
    have yl : ∀ w', Gk S w w' → World.cell? w' (blk b8) = some (.func y1 y2 y3) := fun w' G => (h.gk Y G).yl.cell (i := 0) rfl rfl
    refine do_pe ha hb (fun q => ifB_t rfl (k w ?_ (gk_of (ext_refl w)))) fun hne => ifB_f rfl (ifB_f (by rw [ha.isNone]; rfl) ?_)
    · subst q
      obtain rfl := isN_fun ha hb
      rw [difT_self ho aA iA, List.append_nil]; exact hJ
    have d := ext_drew w
    have G0 : Gk S w w.drew := gk_of d
    have J0 := Y.ext _ _ _ hJ d
    cases b with
    | nil =>
      have : pb = none := hb
      subst this
      refine ifB_t rfl ?_
      intro K42
      have ed : difT o (.node l kk v g r) [] = difT o l [] ++ [kk] ++ difT o r [] := by simp [difT]
      have dlen : ∀ t : Tr, (difT o t []).length = t.pairs.length := fun t => by rw [difT_nil, List.length_map]
      refine ⟨⟨fun w' => Gk S w w', G0, _, _, _, fun w' G => on w' G, ?_⟩⟩
      refine do_call Tryz.call123 (c_left (ha.ext d) fun pl hpl => retS_ret ⟨_, rfl, G0, ?_⟩)
      refine do_onD ho Y l .nil (h.gk Y G0) hpl rfl hu iL aL J0 (by simp only [Tr.size] at hM ⊢; omega) hB fun w1 J1 g1 => retS_ret ⟨_, rfl, G0.trans g1, ifB_t rfl ?_⟩
      have G1 := G0.trans g1
      refine ⟨_, _, _, fun w' G => yl w' G, ?_⟩
      refine do_call Tryz.call108 (c_key (ha.gk O G1) fun w2 e2 => retS_ret ⟨_, rfl, G1.trans (gk_of e2), ?_⟩)
      have G2 := G1.trans (gk_of e2)
      have J1 : J (L ++ difT o l []) w1 := J1
      refine Y.y _ w2 _ _ (Y.ext _ _ _ J1 e2) (by rw [List.length_append, dlen]; omega) fun w3 J3 g3 => retS_ret ⟨_, rfl, G2.trans g3, ifB_t rfl ?_⟩
      have G3 := G2.trans g3
      refine ⟨_, _, _, fun w' G => on w' G, ?_⟩
      refine do_call Tryz.call125 (c_right (ha.gk O G3) fun pr hpr => retS_ret ⟨_, rfl, G3, ?_⟩)
      refine do_onD ho Y r .nil (h.gk Y G3) hpr rfl hu iR aR J3 (by simp only [List.length_append, dlen, List.length_cons, List.length_nil, Tr.size] at hM ⊢; omega) hB fun w4 J4 g4 => retS_ret ⟨_, rfl, G3.trans g4, ?_⟩
      refine k w4 ?_ (G3.trans g4)
      show J (L ++ difT o (.node l kk v g r) []) w4
      rw [ed, ← List.append_assoc, ← List.append_assoc]
      exact J4
    | node bl bk bv bg br =>
    rw [hb.isNone]
    refine ifB_f rfl ?_
    generalize hBB : Tr.node bl bk bv bg br = B at *
    have SP := split_pairs (k := kk) hu
    have SI := split_is (v := v) ho ik hu
    obtain ⟨sp1, sp2, su1, su2⟩ := SP
    have sz1 : (splitC 4 o kk B).1.size ≤ B.size ∧ (splitC 4 o kk B).2.2.size ≤ B.size ∧ (splitC 4 o kk B).1.size + (splitC 4 o kk B).2.2.size ≤ B.size := by
      have h1 : (splitC 4 o kk B).1.size = (B.pairs.filter fun x => decide (cmpI o x.1 kk < 0)).length := by rw [← sp1]; exact (Tr.pairs_length _).symm
      have h2 : (splitC 4 o kk B).2.2.size = (B.pairs.filter fun x => decide (0 < cmpI o x.1 kk)).length := by rw [← sp2]; exact (Tr.pairs_length _).symm
      have h0 : B.pairs.length = B.size := Tr.pairs_length _
      have hsum : ∀ P : List Pr, (P.filter fun x => decide (cmpI o x.1 kk < 0)).length + (P.filter fun x => decide (0 < cmpI o x.1 kk)).length ≤ P.length := by
        intro P
        induction P with
        | nil => simp
        | cons x P ih =>
          simp only [List.filter_cons, List.length_cons]
          by_cases h1 : cmpI o x.1 kk < 0
          · have h2 : ¬ 0 < cmpI o x.1 kk := by omega
            simp [h1, h2]; omega
          · by_cases h2 : 0 < cmpI o x.1 kk <;> simp [h1, h2] <;> omega
      have h3 : (splitC 4 o kk B).1.size + (splitC 4 o kk B).2.2.size ≤ B.size := by rw [h1, h2, ← h0]; exact hsum B.pairs
      omega
    have dlen : ∀ (t : Tr) (P : List Pr), (difT o t P).length ≤ t.pairs.length + P.length := by
      intro t
      induction t with
      | nil => intro P; simp [difT]
      | node tl tk tv tg tr ihl ihr =>
        intro P
        have e2 : (Tr.node tl tk tv tg tr).pairs.length = tl.pairs.length + 1 + tr.pairs.length := by simp [Tr.pairs]; omega
        rw [e2]
        simp only [difT, List.length_append]
        have h1 := ihl (P.filter fun x => decide (cmpI o x.1 tk < 0))
        have h2 := ihr (P.filter fun x => decide (0 < cmpI o x.1 tk))
        have hsum : ∀ P : List Pr, (P.filter fun x => decide (cmpI o x.1 tk < 0)).length + (P.filter fun x => decide (0 < cmpI o x.1 tk)).length ≤ P.length := by
          intro P
          induction P with
          | nil => simp
          | cons x P ih =>
            simp only [List.filter_cons, List.length_cons]
            by_cases h1 : cmpI o x.1 tk < 0
            · have h2 : ¬ 0 < cmpI o x.1 tk := by omega
              simp [h1, h2]; omega
            · by_cases h2 : 0 < cmpI o x.1 tk <;> simp [h1, h2] <;> omega
        have h3 := hsum P
        have h4 : (if (tk, tv) ∈ P then ([] : List Int) else [tk]).length ≤ 1 := by split <;> simp
        omega
    have dl := dlen l (splitC 4 o kk B).1.pairs
    have z1 := (splitC 4 o kk B).1.pairs_length
    have z2 := (splitC 4 o kk B).2.2.pairs_length
    have ed : difT o (.node l kk v g r) B.pairs = difT o l (splitC 4 o kk B).1.pairs ++ (if (kk, v) ∈ B.pairs then [] else [kk]) ++ difT o r (splitC 4 o kk B).2.2.pairs := by rw [sp1, sp2]; rfl
    intro K77
    -- behind the split
    have hK77 : ∀ (pl : Option Addr) (bx : Nat) (pr : Option Addr) (x : It) (w6 : World), Gk S w w6 → J L w6 → IsN w6 pl (splitC 4 o kk B).1 → IsN w6 pr (splitC 4 o kk B).2.2 → w.heap.size ≤ bx → Blk w6 bx #[.int .i64 x.1, .int .i64 x.2.1, .int .u64 x.2.2] 114 →
        x = itO (splitC 4 o kk B).2.1 → K77 pl (blk bx) (splitC 4 o kk B).2.1.isSome pr w6 := by
      intro pl bx pr x w6 G6 J6 hpl hpr hbx hxb hx
      simp -zeta -zetaHave only [K77]
      intro K80
      have nbx : bx ∉ S := fun q => by have := Y.lt _ _ hJ bx q; omega
      have O6 := Y.oth _ _ J6
      have d6 := ext_drew w6
      have J7 := Y.ext _ _ _ J6 d6
      have g7 : Gk S w6 w6.drew := gk_of d6
      have on6 : ∀ w', Gk S w6 w' → World.cell? w' (blk b10) = some (onD b10 b8 b5 b7) := fun w' G => on w' (G6.trans G)
      have yl6 : ∀ w', Gk S w6 w' → World.cell? w' (blk b8) = some (.func y1 y2 y3) := fun w' G => yl w' (G6.trans G)
      have ha6 := ha.gk O G6
      refine ⟨⟨fun w' => Gk S w6 w', g7, _, _, _, fun w' G => on6 w' G, ?_⟩⟩
      refine do_call Tryz.call123 (c_left (ha6.ext d6) fun ql hql => retS_ret ⟨_, rfl, g7, ?_⟩)
      refine do_onD ho Y l (splitC 4 o kk B).1 ((h.gk Y G6).gk Y g7) hql (hpl.ext d6) su1 iL aL J7 (by omega) (by omega) fun w8 J8 g8 => retS_ret ⟨_, rfl, g7.trans g8, ifB_t rfl ?_⟩
      have G8 := g7.trans g8
      -- on the right
      have hright : ∀ (L2 : List Int) (w9 : World), J L2 w9 → Gk S w6 w9 → L2.length ≤ L.length + (difT o l (splitC 4 o kk B).1.pairs).length + 1 → L ++ difT o (.node l kk v g r) B.pairs = L2 ++ difT o r (splitC 4 o kk B).2.2.pairs →
          (∃ (xf : Fn), ∃ (xx : Array Value), ∃ (xc : Array Value), (∀ w, Gk S w6 w → World.cell? w (blk b10) = some (.func xf xx xc)) ∧ (
 doCall Tryz.prog (.func (.func 125) #[] #[]) #[.pointer pa] w9 (retS (fun v100 w101 => ∃ (x99 : Option Addr), v100 = (.pointer x99 : Value) ∧ (
 Gk S w6 w101 ∧ (
 doCall Tryz.prog (.func xf xx xc) #[.pointer x99, .pointer pr] w101 (retS (fun v103 w104 => ∃ (x102 : Bool), v103 = (.bool x102 : Value) ∧ (
 Gk S w6 w104 ∧ (
 K80 x102 w104))) (fun ch w => Kfn R ch [] w))))) (fun ch w => Kfn R ch [] w)))) := fun L2 w9 J9 G9 hL2 eL => by
        refine ⟨_, _, _, fun w' G => on6 w' G, ?_⟩
        refine do_call Tryz.call125 (c_right (ha6.gk O6 G9) fun qr hqr => retS_ret ⟨_, rfl, G9, ?_⟩)
        refine do_onD ho Y r (splitC 4 o kk B).2.2 ((h.gk Y G6).gk Y G9) hqr (hpr.gk O6 G9) su2 iR aR J9 (by omega) (by omega) fun w10 J10 g10 => retS_ret ⟨_, rfl, G9.trans g10, ?_⟩
        refine k w10 ?_ ((G6.trans G9).trans g10)
        rw [eL]; exact J10
      have hyield : ∀ (w9 : World), J (L ++ difT o l (splitC 4 o kk B).1.pairs) w9 → Gk S w6 w9 → (kk, v) ∉ B.pairs →
          (∃ (xf : Fn), ∃ (xx : Array Value), ∃ (xc : Array Value), (∀ w, Gk S w6 w → World.cell? w (blk b8) = some (.func xf xx xc)) ∧ (
 doCall Tryz.prog (.func (.func 108) #[] #[]) #[.pointer pa] w9 (retS (fun v109 w110 => ∃ (x108 : Int), v109 = (.int .i64 x108 : Value) ∧ (
 Gk S w6 w110 ∧ (
 doCall Tryz.prog (.func xf xx xc) #[.int .i64 x108] w110 (retS (fun v112 w113 => ∃ (x111 : Bool), v112 = (.bool x111 : Value) ∧ (
 Gk S w6 w113 ∧ (
 ifB x111 (
 ∃ (xf : Fn), ∃ (xx : Array Value), ∃ (xc : Array Value), (∀ w, Gk S w6 w → World.cell? w (blk b10) = some (.func xf xx xc)) ∧ (
 doCall Tryz.prog (.func (.func 125) #[] #[]) #[.pointer pa] w113 (retS (fun v100 w101 => ∃ (x99 : Option Addr), v100 = (.pointer x99 : Value) ∧ (
 Gk S w6 w101 ∧ (
 doCall Tryz.prog (.func xf xx xc) #[.pointer x99, .pointer pr] w101 (retS (fun v103 w104 => ∃ (x102 : Bool), v103 = (.bool x102 : Value) ∧ (
 Gk S w6 w104 ∧ (
 K80 x102 w104))) (fun ch w => Kfn R ch [] w))))) (fun ch w => Kfn R ch [] w)))) (
 R (.returned (.bool false)) w113)))) (fun ch w => Kfn R ch [] w))))) (fun ch w => Kfn R ch [] w)))) := fun w9 J9 G9 hnB => by
        refine ⟨_, _, _, fun w' G => yl6 w' G, ?_⟩
        refine do_call Tryz.call108 (c_key (ha6.gk O6 G9) fun w10 e10 => retS_ret ⟨_, rfl, G9.trans (gk_of e10), ?_⟩)
        have G10 := G9.trans (gk_of (S := S) e10)
        refine Y.y _ w10 _ _ (Y.ext _ _ _ J9 e10) (by rw [List.length_append]; omega) fun w11 J11 g11 => retS_ret ⟨_, rfl, G10.trans g11, ifB_t rfl ?_⟩
        refine hright _ w11 J11 (G10.trans g11) (by simp only [List.length_append, List.length_cons, List.length_nil]; omega) ?_
        rw [ed, if_neg hnB]
        simp only [List.append_assoc]
        rfl
      cases hs : (splitC 4 o kk B).2.1.isSome with
      | false =>
        rw [hs] at SI
        have hnB : (kk, v) ∉ B.pairs := fun q => by rw [decide_eq_true q] at SI; simp at SI
        exact ifB_f rfl (hyield w8 J8 G8 hnB)
      | true =>
        rw [hs] at SI
        refine ifB_t rfl ⟨_, fun w' G => (hxb.gk (by decide) G nbx).cell (i := 1) (add_blk _ _) rfl, ?_⟩
        refine do_call Tryz.call126 (c_val (ha6.gk O6 G8) fun w9 e9 => retS_ret ⟨_, rfl, G8.trans (gk_of e9), ?_⟩)
        have G9 := G8.trans (gk_of (S := S) e9)
        have J9 := Y.ext _ _ _ J8 e9
        rw [hx]
        refine ifB_intro (fun q => ?_) fun q => ?_
        · have q' : ((itO (splitC 4 o kk B).2.1).2.1 == v) = true := q
          rw [q'] at SI
          have hB' : (kk, v) ∈ B.pairs := of_decide_eq_true SI.symm
          refine hright _ w9 J9 G9 (by rw [List.length_append]; omega) ?_
          rw [ed, if_pos hB']
          simp only [List.append_nil, List.append_assoc]
        · have q' : ((itO (splitC 4 o kk B).2.1).2.1 == v) = false := q
          rw [q'] at SI
          have hnB : (kk, v) ∉ B.pairs := fun q => by rw [decide_eq_true q] at SI; simp at SI
          exact hyield w9 J9 G9 hnB
    have sc : ∀ w', Gk S w w' → World.cell? w' (blk b5) = some (.pointer (some (blk bs))) := fun w' G => (h.gk Y G).sc.cell (i := 0) rfl rfl
    have od : ∀ w', Gk S w w' → World.cell? w' (blk b7) = some (.int .u8 o) := fun w' G => (h.gk Y G).od.cell (i := 0) rfl rfl
    have hcase : ∀ (bx : Nat) (w2 w3 : World) (ql qr : Option Addr), Ext w w2 → w.heap.size ≤ bx → Blk w3 bx #[.int .i64 0, .int .i64 0, .int .u64 0] 114 → Gs bs w2 w3 → IsSch 4 bs w3 → IsN w3 ql (splitC 4 o kk B).1 → IsN w3 qr (splitC 4 o kk B).2.2 → bx ≠ bs →
        doSt ((blk bx).add 0) (.int .i64 (itO (splitC 4 o kk B).2.1).1) w3 (fun w4 => doSt ((blk bx).add 1) (.int .i64 (itO (splitC 4 o kk B).2.1).2.1) w4 (fun w5 => doSt ((blk bx).add 2) (.int .u64 (itO (splitC 4 o kk B).2.1).2.2) w5 (fun w6 => K77 ql (blk bx) (splitC 4 o kk B).2.1.isSome qr w6))) := by
      intro bx w2 w3 ql qr E2 hbx k3 g3 hs3 hql hqr hne
      refine do_st k3 (i := 0) (add_blk _ _) (by simp) fun w4 h4 g4 => ?_
      refine do_st h4 (i := 1) (add_blk _ _) (by simp) fun w5 h5 g5 => ?_
      refine do_st h5 (i := 2) (add_blk _ _) (by simp) fun w6 h6 g6 => ?_
      have gg := grown_trans (grown_trans g4 g5) g6
      have Gb : Gd [bx] w3 w6 := (gd_refl _ _).st gg (.inr (by simp))
      have hs6 := hs3.gd Gb (by simpa using Ne.symm hne)
      have Gw : Gd [bs] w w6 := ((gd_of E2).trans (gd_gs g3 (by simp))).st gg (.inl hbx)
      have GS := gs_gd Gw
      have Ob : Oth [bx] w3 := fun k hk => by
        have : k = bx := by simpa using hk
        subst this
        exact oth_blk k3 (by decide)
      exact hK77 ql bx qr (itO (splitC 4 o kk B).2.1) w6 (gk_gs GS Y.bsS) (Y.gs _ _ _ hJ GS hs6) (hql.gd Ob Gb) (hqr.gd Ob Gb) hbx h6 rfl
    have hlt := Y.lt _ _ hJ bs Y.bsS
    refine ⟨⟨fun w' => Gk S w w', G0, _, fun w' G => sc w' G, _, fun w' G => od w' G, ⟨?_, ?_⟩⟩⟩
    · refine do_call Tryz.call108 (c_key (ha.ext d) fun w1 e1 => retS_ret ⟨_, rfl, G0.trans (gk_of e1), ⟨?_, ?_⟩⟩)
      · have E1 := d.trans e1
        have J1 := Y.ext _ _ _ hJ E1
        refine do_call Tryz.call89 (c_split ho ik (Y.sch _ _ J1) (hb.ext E1) hu.ok.1 hu.k hB fun ql qr w2 g2 hs2 hql hqr => retS_ret ⟨_, _, _, _, _, _, _, rfl, ⟨?_⟩⟩)
        have e3 := ext_alloc w2 (.cells #[.int .i64 0, .int .i64 0, .int .u64 0] 114)
        have s1 := E1.size
        have s2 := g2.size
        exact ⟨((gk_of (S := S) E1).trans (gk_gs g2 Y.bsS)).trans (gk_of e3), hcase _ w1 _ ql qr E1 (by omega) (blk_alloc w2 _ _) (g2.trans (gs_of e3)) (hs2.ext e3) (hql.ext e3) (hqr.ext e3) (by omega)⟩
      · have E1 := d.trans e1
        refine ⟨?_⟩
        have e2 := ext_alloc w1 (.cells #[.int .i64 0, .int .i64 0, .int .u64 0] 114)
        have h2 := blk_alloc w1 #[.int .i64 0, .int .i64 0, .int .u64 0] 114
        have s1 := E1.size
        have E2 := E1.trans e2
        refine ⟨gk_of E2, ?_⟩
        refine do_call Tryz.call89 (c_split ho ik (Y.sch _ _ (Y.ext _ _ _ hJ E2)) (hb.ext E2) hu.ok.1 hu.k hB fun ql qr w3 g3 hs3 hql hqr => retS_ret ⟨_, _, _, _, _, _, _, rfl, ?_⟩)
        exact hcase _ _ w3 ql qr E2 s1 (h2.gs g3 (by omega)) g3 hs3 hql hqr (by omega)
    · refine ⟨?_⟩
      have e1 := ext_alloc w.drew (.cells #[.int .i64 0, .int .i64 0, .int .u64 0] 114)
      have h1 := blk_alloc w.drew #[.int .i64 0, .int .i64 0, .int .u64 0] 114
      have s1 := d.size
      have E1 := d.trans e1
      refine ⟨gk_of E1, ?_⟩
      refine do_call Tryz.call108 (c_key (ha.ext E1) fun w2 e2 => retS_ret ⟨_, rfl, gk_of (E1.trans e2), ?_⟩)
      have E2 := E1.trans e2
      refine do_call Tryz.call89 (c_split ho ik (Y.sch _ _ (Y.ext _ _ _ hJ E2)) (hb.ext E2) hu.ok.1 hu.k hB fun ql qr w3 g3 hs3 hql hqr => retS_ret ⟨_, _, _, _, _, _, _, rfl, ?_⟩)
      exact hcase _ _ w3 ql qr E2 s1 ((h1.ext e2).gs g3 (by omega)) g3 hs3 hql hqr (by omega)
end
end Go.Proofs.YtlddfgfmkapoiaaGreat

namespace Go.Proofs.YtlddfgfmkapoiaaGreat
open Go Go.Sh Go.RowKit

theorem keys_ext {o : Int} {K K' : List Int} (h : K.Pairwise (ltO o)) (h' : K'.Pairwise (ltO o)) (hm : ∀ k, k ∈ K ↔ k ∈ K') : K = K' := by
  have e : ∀ L : List Int, (L.map fun k => ((k, 0) : Pr)).map (·.1) = L := fun L => by
    rw [List.map_map]
    have : L.map ((fun x : Pr => x.1) ∘ fun k => ((k, 0) : Pr)) = L.map id := List.map_congr_left fun x _ => rfl
    rw [this, List.map_id]
  have := pw_ext (r := K.map fun k => ((k, 0) : Pr)) (s := K'.map fun k => ((k, 0) : Pr)) (by rw [e]; exact h) (by rw [e]; exact h') fun x => by
    simp only [List.mem_map]
    constructor
    · rintro ⟨k, hk, rfl⟩; exact ⟨k, (hm k).1 hk, rfl⟩
    · rintro ⟨k, hk, rfl⟩; exact ⟨k, (hm k).2 hk, rfl⟩
  have := congrArg (List.map (·.1)) this
  rwa [e, e] at this
theorem less_mem {a b : List It} {k : Int} : (∃ x ∈ lessL a b, x.1 = k) ↔ (∃ x ∈ a, x.1 = k) ∧ ¬ ∃ x ∈ b, x.1 = k := by
  have hf : ∀ x : It, (findK b x.1).isNone = true ↔ ¬ ∃ y ∈ b, y.1 = x.1 := fun x => by
    rw [← findK_isSome]
    cases findK b x.1 <;> simp
  constructor
  · rintro ⟨x, hx, rfl⟩
    have := List.mem_filter.1 hx
    exact ⟨⟨x, this.1, rfl⟩, (hf x).1 this.2⟩
  · rintro ⟨⟨x, hx, rfl⟩, h⟩
    exact ⟨x, List.mem_filter.2 ⟨hx, (hf x).2 h⟩, rfl⟩
theorem meet_mem {p : Int} {a b : List It} {k : Int} : (∃ x ∈ meetL p a b, x.1 = k) ↔ (∃ x ∈ a, x.1 = k) ∧ ∃ x ∈ b, x.1 = k := by
  constructor
  · rintro ⟨x, hx, rfl⟩
    obtain ⟨y, hy, e⟩ := List.mem_filterMap.1 hx
    unfold meetG at e
    cases hf : findK b y.1 with
    | none => rw [hf] at e; cases e
    | some u =>
      rw [hf] at e
      simp only [Option.map_some, Option.some.injEq] at e
      subst e
      exact ⟨⟨y, hy, rfl⟩, findK_isSome.1 (by rw [hf]; rfl)⟩
  · rintro ⟨⟨x, hx, rfl⟩, h⟩
    have := findK_isSome.2 h
    cases hf : findK b x.1 with
    | none => rw [hf] at this; cases this
    | some u => exact ⟨(x.1, comb p x.2.1 u.2.1, x.2.2), List.mem_filterMap.2 ⟨x, hx, by unfold meetG; rw [hf]; rfl⟩, rfl⟩
/-- a tree of keys: which ones; its values are 0 -/
structure KeyT (c o : Int) (t : Tr) (K : List Int) : Prop where
  ok : OkU c o t
  key : (itsC c t).map (·.1) = K
  val : ∀ x ∈ itsC c t, x.2.1 = 0
  tag : TagI (itsC c t)
theorem KeyT.mem {c o : Int} {t : Tr} {K : List Int} (h : KeyT c o t K) (k : Int) : k ∈ K ↔ ∃ x ∈ itsC c t, x.1 = k := by rw [← h.key, List.mem_map]
theorem KeyT.asc {c o : Int} {t : Tr} {K : List Int} (h : KeyT c o t K) : K.Pairwise (ltO o) := by rw [← h.key]; exact h.ok.asc
theorem KeyT.len {c o : Int} {t : Tr} {K : List Int} (h : KeyT c o t K) : t.size = K.length := by rw [← h.key, List.length_map, itsC_len]
theorem KeyT.prs {c o : Int} {t : Tr} {K : List Int} (h : KeyT c o t K) : t.pairs.map (·.1) = K := by rw [pairs_its, h.key]
theorem KeyT.inI {c o : Int} {t : Tr} {K : List Int} (h : KeyT c o t K) : InI (itsC c t) := (inK_its (c := c)).1 h.ok.k
end Go.Proofs.YtlddfgfmkapoiaaGreat

namespace Go.Proofs.YtlddfgfmkapoiaaGreat
open Go Go.Sh Go.RowKit

abbrev setV (b : Nat) (o : Int) (pd pt : Option Addr) : Array Value := #[.pointer (some (blk b)), .int .u8 o, .pointer pd, .pointer pt]
/-- a set that lies in memory: its keys -/
structure SetU (c o : Int) (b : Nat) (pd : Option Addr) (bx : Nat) (K : List Int) (w : World) : Prop where
  ex : ∃ t pt, Blk w bx (setV b o pd pt) 174 ∧ IsN w pt t ∧ KeyT c o t K
theorem SetU.ext {c o : Int} {b bx : Nat} {pd : Option Addr} {K : List Int} {w w' : World} (h : SetU c o b pd bx K w) (e : Ext w w') : SetU c o b pd bx K w' := by
  obtain ⟨t, pt, h1, h2, h3⟩ := h.ex
  exact ⟨t, pt, h1.ext e, h2.ext e, h3⟩
theorem SetU.gd {c o : Int} {b bx : Nat} {pd : Option Addr} {K : List Int} {S : List Nat} {w w' : World} (h : SetU c o b pd bx K w) (hO : Oth S w) (g : Gd S w w') (hb : bx ∉ S) : SetU c o b pd bx K w' := by
  obtain ⟨t, pt, h1, h2, h3⟩ := h.ex
  exact ⟨t, pt, h1.gd g hb, h2.gd hO g, h3⟩
theorem SetU.gs {c c' o : Int} {b b' bx : Nat} {pd : Option Addr} {K : List Int} {w w' : World} (h : SetU c o b pd bx K w) (hs : IsSch c' b' w) (g : Gs b' w w') : SetU c o b pd bx K w' := by
  obtain ⟨t, pt, h1, h2, h3⟩ := h.ex
  exact ⟨t, pt, h1.gs g (hs.ne h1 (by decide)), h2.gs hs g, h3⟩
theorem SetU.lt {c o : Int} {b bx : Nat} {pd : Option Addr} {K : List Int} {w : World} (h : SetU c o b pd bx K w) : bx < w.heap.size := by
  obtain ⟨t, pt, h1, h2, h3⟩ := h.ex
  exact h1.lt
theorem SetU.asc {c o : Int} {b bx : Nat} {pd : Option Addr} {K : List Int} {w : World} (h : SetU c o b pd bx K w) : K.Pairwise (ltO o) := by
  obtain ⟨t, pt, h1, h2, h3⟩ := h.ex
  exact h3.asc
/-! ### two sets -/
section
variable {c o : Int} {b bY bx by_ : Nat} {px py : Option Addr} {K L : List Int} {w : World} {R : Ending → World → Prop} {f : Fn} {fx fc : Array Value}
end
/-! ### one set -/
section
variable {c o : Int} {b bx : Nat} {px : Option Addr} {K : List Int} {w : World} {R : Ending → World → Prop}
end
theorem c_samekeys {l r : List Int} {q q' : Option Addr} {n c n' c' : Nat} {w : World} {R : Ending → World → Prop} (hl : Cs w q (ints l)) (hn : l.length = n) (hr : Cs w q' (ints r)) (hn' : r.length = n') (hm : n ≤ 1000000000000)
    (h : ∀ w', Ext w w' → R (.returned (.bool (decide (l = r)))) w') : Calls Tryz.prog 61 #[.slice q n c, .slice q' n' c'] w R := by
  refine sh61_ok _ _ _ _ _ _ ?_
  unfold sh61
  refine ifB_intro (fun hne => ?_) fun heq => ?_
  · have hne : l ≠ r := fun e => by subst e; simp [← hn, ← hn'] at hne
    have := h w (ext_refl w)
    rw [decide_eq_false hne] at this
    exact this
  have heq : n = n' := by simp at heq; omega
  subst heq
  refine ⟨fun vs w' => ∃ k : Nat, vs = [.int .i64 k] ∧ k ≤ n ∧ Ext w w' ∧ l.take k = r.take k, fun vs _ => n - (intOf (vs.getD 0 undef)).toNat, ⟨0, rfl, by omega, ext_refl w, by simp⟩, ?_⟩
  rintro i _ w2 ⟨k, hv, hkn, E, hlo⟩
  simp only [List.cons.injEq, Value.int.injEq, true_and, and_true] at hv
  subst hv
  refine ifB_intro (fun hlt => ?_) fun hge => ?_
  · have hlt : k < n := by have := of_decide_eq_true hlt; omega
    have d := ext_drew w2
    have hli : ∀ w', Ext w2 w' → Cs w' q (l.flatMap fun x => [.int .i64 x]) := fun w' e => by
      have := (hl.ext E).ext e
      unfold ints at this
      rwa [List.map_eq_flatMap] at this
    have hri : ∀ w', Ext w2 w' → Cs w' q' (r.flatMap fun x => [.int .i64 x]) := fun w' e => by
      have := (hr.ext E).ext e
      unfold ints at this
      rwa [List.map_eq_flatMap] at this
    refine ⟨⟨fun w' => Ext w2 w', d, ?_⟩⟩
    refine ix_flatC (ec := fun x : Int => [.int .i64 x]) (s := 1) (fun _ => rfl) (by omega) hli d hn (k := k) rfl hlt fun a r1 => ⟨l[k]'(by omega), fun w' e => by have := r1 w' e 0 _ rfl; rwa [add_zero'] at this, ?_⟩
    refine ix_flatC (ec := fun x : Int => [.int .i64 x]) (s := 1) (fun _ => rfl) (by omega) hri d hn' (k := k) rfl hlt fun a r2 => ⟨r[k]'(by omega), fun w' e => by have := r2 w' e 0 _ rfl; rwa [add_zero'] at this, ?_⟩
    refine ifB_intro (fun hne => ?_) fun he => ?_
    · have hne : l[k]'(by omega) ≠ r[k]'(by omega) := by simpa using hne
      have hlr : l ≠ r := fun e => by subst e; exact hne rfl
      have := h _ (E.trans d)
      rw [decide_eq_false hlr] at this
      exact this
    · have he : l[k]'(by omega) = r[k]'(by omega) := by simpa using he
      refine ⟨⟨k + 1, by rw [wrap_succ hlt (by omega)], by omega, E.trans d, ?_⟩, by rw [wrap_succ hlt (by omega)]; simp [intOf]; omega⟩
      rw [show l.take (k + 1) = l.take k ++ [l[k]'(by omega)] from (List.take_append_getElem (by omega)).symm, show r.take (k + 1) = r.take k ++ [r[k]'(by omega)] from (List.take_append_getElem (by omega)).symm, hlo, he]
  · have hge : k = n := by have := of_decide_eq_false hge; omega
    subst hge
    rw [List.take_of_length_le (by omega), List.take_of_length_le (by omega)] at hlo
    have := h _ E
    rw [decide_eq_true hlo] at this
    exact this
end Go.Proofs.YtlddfgfmkapoiaaGreat

namespace Go.Proofs.YtlddfgfmkapoiaaGreat
open Go Go.Sh Go.RowKit

theorem keys_filter {o : Int} {K L : List Int} (h : K.Pairwise (ltO o)) (h' : L.Pairwise (ltO o)) (p : Int → Bool) (hm : ∀ k, k ∈ L ↔ k ∈ K ∧ p k = true) : L = K.filter p :=
  keys_ext h' (h.sublist List.filter_sublist) fun k => (hm k).trans List.mem_filter.symm
/-! ### one set, changed -/
section
variable {c o : Int} {b bx : Nat} {p : Option Addr} {D : Option (Nat × Nat × Nat × Nat)} {ds keys K : List Int} {q : Option Addr} {n cp : Nat} {w : World} {R : Ending → World → Prop}
end
end Go.Proofs.YtlddfgfmkapoiaaGreat

namespace Go.Proofs.YtlddfgfmkapoiaaGreat
open Go Go.Sh Go.RowKit

/-! ### rows of keys -/
/-- a row of keys that is read alone -/
structure RK (w : World) (q : Option Addr) (n c : Nat) (L : List Int) : Prop where
  cs : Cs w q (ints L)
  len : L.length = n
  cap : n ≤ c
  bl : ∀ a, q = some a → ∃ cs, Blk w a.block cs 2
theorem RK.ext {w w' : World} {q : Option Addr} {n c : Nat} {L : List Int} (h : RK w q n c L) (e : Ext w w') : RK w' q n c L := ⟨h.cs.ext e, h.len, h.cap, fun a ha => (h.bl a ha).imp fun _ hb => hb.ext e⟩
/-! ### has a set just these keys? -/
theorem prs_of_its {c : Int} (t : Tr) : t.pairs = (itsC c t).map fun x => (x.1, x.2.1) := by
  rw [items_pairs]
  unfold itsC
  rw [List.map_map]
  exact List.map_congr_left fun x _ => by show _ = ((itC c x).1, (itC c x).2.1); rw [itC_key, itC_val]
section
variable {c o : Int} {b bx : Nat} {px : Option Addr} {K : List Int} {w : World} {R : Ending → World → Prop}
theorem KeyT.inP {t : Tr} (h : KeyT c o t K) : InP t.pairs := fun x hx => by
  obtain ⟨y, hy, e⟩ : ∃ y ∈ itsC c t, (y.1, y.2.1) = x := by
    have : t.pairs = (itsC c t).map fun x => (x.1, x.2.1) := prs_of_its t
    rw [this] at hx
    exact List.mem_map.1 hx
  have h0 := h.val y hy
  rw [← e]
  exact ⟨h.inI y hy, by show In y.2.1; rw [h0]; exact ⟨by decide, by decide⟩⟩
theorem KeyT.zero {t : Tr} (h : KeyT c o t K) : ∀ x ∈ t.pairs, x.2 = 0 := fun x hx => by
  have : t.pairs = (itsC c t).map fun x => (x.1, x.2.1) := prs_of_its t
  rw [this] at hx
  obtain ⟨y, hy, rfl⟩ := List.mem_map.1 hx
  exact h.val y hy
end
end Go.Proofs.YtlddfgfmkapoiaaGreat

namespace Go.Proofs.YtlddfgfmkapoiaaGreat
open Go Go.Sh Go.RowKit

theorem c_unlike {s pa pb : Option Addr} {o : Int} {w : World} {R : Ending → World → Prop}
    (h : ∀ b5 b7 b9 b11 w', Ext w w' → w.heap.size ≤ b5 → w.heap.size ≤ b7 → w.heap.size ≤ b9 → w.heap.size ≤ b11 → Blk w' b5 #[.pointer s] 25 → Blk w' b7 #[.int .u8 o] 5 → Blk w' b9 #[.pointer pa] 35 → Blk w' b11 #[.pointer pb] 35 →
      R (.returned (.func (.func 201) #[] #[.pointer (some (blk b5)), .pointer (some (blk b7)), .pointer (some (blk b9)), .pointer (some (blk b11))])) w') : Calls Tryz.prog 133 #[.pointer s, .int .u8 o, .pointer pa, .pointer pb] w R := by
  refine sh133_ok _ _ _ _ ?_
  unfold sh133
  refine ⟨⟨⟨⟨?_⟩⟩⟩⟩
  have e0 := ext_alloc w (.cells #[.pointer s] 25)
  have h0 := blk_alloc w #[.pointer s] 25
  generalize w.alloc (.cells #[.pointer s] 25) = w1 at *
  have e1 := ext_alloc w1 (.cells #[.int .u8 o] 5)
  have h1 := blk_alloc w1 #[.int .u8 o] 5
  have s0 := e0.size
  generalize hw2 : w1.alloc (.cells #[.int .u8 o] 5) = w2 at *
  have e2 := ext_alloc w2 (.cells #[.pointer pa] 35)
  have h2 := blk_alloc w2 #[.pointer pa] 35
  have s1 := e1.size
  generalize hw3 : w2.alloc (.cells #[.pointer pa] 35) = w3 at *
  have e3 := ext_alloc w3 (.cells #[.pointer pb] 35)
  have h3 := blk_alloc w3 #[.pointer pb] 35
  have s2 := e2.size
  exact h _ _ _ _ _ (((e0.trans e1).trans e2).trans e3) (Nat.le_refl _) (by omega) (by omega) (by omega) (((h0.ext e1).ext e2).ext e3) ((h1.ext e2).ext e3) (h2.ext e3) h3
/-- the state of a going over two trees, behind some keys -/
structure DfK (S : List Nat) (W1 : World) (bs b4 d : Nat) (L : Loop) (l : List Int) (w : World) : Prop where
  gd : Gd S W1 w
  sch : IsSch 4 bs w
  l0 : w.heap[d + 1]? = some (.loop L)
  row : ∃ qq nn cc, Blk w b4 #[.slice qq nn cc] 24 ∧ OwnK w W1.heap.size qq nn cc l
set_option maxRecDepth 20000 in
set_option maxHeartbeats 1000000 in
theorem c_cdiff {o : Int} {a b : Tr} {pa pb : Option Addr} {w : World} {R : Ending → World → Prop} (ho : isO o = true) (ha : IsN w pa a) (hb : IsN w pb b) (ca : Can o a) (cb : Can o b) (za : a.size ≤ 100000) (zb : b.size ≤ 100000)
    (h : ∀ q n c w', Ext w w' → OwnK w' w.heap.size q n c (difT o a b.pairs) → R (.returned (.tuple #[.slice q n c, .int .i64 0])) w') : Calls Tryz.prog 58 #[.int .u8 o, .pointer pa, .pointer pb] w R := by
  refine sh58_ok _ _ _ ?_
  unfold sh58
  refine ⟨?_⟩
  have e1 := ext_alloc w (.cells #[.slice none 0 0] 24)
  have h1 := blk_alloc w #[.slice none 0 0] 24
  have l4 := h1.lt
  obtain ⟨b4, hb4⟩ : ∃ b4, b4 = w.heap.size := ⟨_, rfl⟩
  rw [← hb4] at h1 l4 ⊢
  generalize w.alloc (.cells #[.slice none 0 0] 24) = w1 at *
  refine do_call Tryz.call92 (c_schOf (fun hc => by cases hc) fun _ bs w2 e2 hbs hs2 => retS_ret ⟨_, _, rfl, ?_⟩)
  intro K22 K55
  refine ifB_f rfl ?_
  have E2 := e1.trans e2
  refine do_call Tryz.call51 (c_cis_yes ho (ha.ext E2) ca (by omega) fun w3 e3 => retS_ret ⟨_, rfl, ifB_f rfl ?_⟩)
  refine do_call Tryz.call51 (c_cis_yes ho (hb.ext (E2.trans e3)) cb (by omega) fun w4 e4 => retS_ret ⟨_, rfl, ?_⟩)
  simp -zeta -zetaHave only [K55]
  refine ifB_f rfl ?_
  simp -zeta -zetaHave only [K22]
  have e24 := e3.trans e4
  have E4 := E2.trans e24
  refine do_call Tryz.call133 (c_unlike fun b5 b7 b9 b11 w5 e5 z5 z7 z9 z11 k5 k7 k9 k11 => retS_ret ⟨_, _, _, rfl, do_rf fun fn L w6 d hdd hL hst hpe e6 hd6 hl6 => ?_⟩)
  rw [← hdd]
  have m6 : d + 1 < w6.heap.size := (Array.getElem?_eq_some_iff.1 hl6).1
  have s24 := e24.size
  have s2 := hs2.lt
  have m5 := k5.lt
  have m7 := k7.lt
  have m9 := k9.lt
  have m11 := k11.lt
  refine callE_c Tryz.call201 (by rfl) (sh201_ok _ _ _ _ _ _ _ ?_)
  unfold sh201
  refine ⟨⟨?_⟩⟩
  have e7 := ext_alloc w6 (.cells #[.func (.yield (d + 1)) #[] #[]] 103)
  have h7 := blk_alloc w6 #[.func (.yield (d + 1)) #[] #[]] 103
  have m8 := h7.lt
  obtain ⟨b8, hb8⟩ : ∃ b8, b8 = w6.heap.size := ⟨_, rfl⟩
  rw [← hb8] at h7 m8 ⊢
  generalize w6.alloc (.cells #[.func (.yield (d + 1)) #[] #[]] 103) = w7 at *
  have e8 := ext_alloc w7 (.cells #[.nilFunc] 74)
  refine do_st (blk_alloc w7 _ _) (i := 0) (add_blk _ _) (by simp) fun W1 h10 g10 => ?_
  obtain ⟨b10, hb10⟩ : ∃ b10, b10 = w7.heap.size := ⟨_, rfl⟩
  rw [← hb10] at h10 g10 ⊢
  have h10 : Blk W1 b10 #[onD b10 b8 b5 b7] 74 := h10
  have e10 : Ext w7 W1 := e8.st g10 (by omega)
  have m10 := h10.lt
  have E6 := e7.trans e10
  have E5 := e6.trans E6
  have E24 := (e24.trans e5).trans E5
  have EW := E2.trans E24
  refine ⟨_, _, _, h10.cell (i := 0) rfl rfl, _, (k9.ext E5).cell (i := 0) rfl rfl, _, (k11.ext E5).cell (i := 0) rfl rfl, ?_⟩
  have hS : ∀ k ∈ [bs, b4, d + 1], k = bs ∨ k = b4 ∨ k = d + 1 := fun k hk => by simpa using hk
  have nS : ∀ {k : Nat}, k ≠ bs → k ≠ b4 → k ≠ d + 1 → k ∉ [bs, b4, d + 1] := fun a b c hm => by
    rcases hS _ hm with h | h | h
    · exact a h
    · exact b h
    · exact c h
  have n4 : b4 ≠ bs := by omega
  have dbs : d + 1 ≠ bs := by omega
  have J0 : DfK [bs, b4, d + 1] W1 bs b4 d L [] W1 := ⟨gd_refl _ _, hs2.ext E24, E6.heap hl6, none, 0, 0, (h1.ext e2).ext E24, World.ownsRow_nil _ _ _ _⟩
  have lW : bs < W1.heap.size ∧ b4 < W1.heap.size ∧ d + 1 < W1.heap.size := ⟨by have := E24.size; omega, by have := EW.size; have := ((h1.ext e2).ext E24).lt; omega, by have := E6.size; omega⟩
  have Y : YD [bs, b4, d + 1] b10 b8 b5 b7 bs 1000000 (.yield (d + 1)) #[] #[] (fun l w' => DfK [bs, b4, d + 1] W1 bs b4 d L l w') := by
    refine ⟨fun _ _ q => q.sch, by simp, fun l w w' q e => ?_, fun l w w' q g hs => ?_, fun l w q k hk => ?_, fun l w q k hk => ?_, ?_, nS (by omega) (by omega) (by omega), nS (by omega) (by omega) (by omega), nS (by omega) (by omega) (by omega), nS (by omega) (by omega) (by omega)⟩
    · obtain ⟨q1, q2, q3, qq, nn, cc, q4, q5⟩ := q
      exact ⟨q1.trans (gd_of e), q2.ext e, e.heap q3, qq, nn, cc, q4.ext e, e.row q5⟩
    · obtain ⟨q1, q2, q3, qq, nn, cc, q4, q5⟩ := q
      have G := gd_gs (S := [bs]) g (by simp)
      exact ⟨q1.trans (G.mono fun k hk => by simp at hk; simp [hk]), hs, heap_gd q3 G (by simpa using dbs), qq, nn, cc, q4.gd G (by simpa using n4), row_gd q5 G (by simp; omega)⟩
    · obtain ⟨q1, q2, q3, qq, nn, cc, q4, q5⟩ := q
      rcases hS k hk with rfl | rfl | rfl
      · exact q2.oth
      · exact oth_blk q4 (by decide)
      · intro cs hb; unfold Blk at hb; rw [q3] at hb; cases hb
    · have := q.gd.size
      rcases hS k hk with rfl | rfl | rfl <;> omega
    · -- a key that is told
      intro l w7 k R' J7 hlen hR
      obtain ⟨G7, s7, q0, qq, nn, cc, hB7, hO7⟩ := J7
      refine sh58_0_ok (by rw [q0, hL]) ?_
      unfold sh58_0
      refine ⟨_, q0, hst, ?_⟩
      have G8 := gd_one (put_grown w7 (d + 1) (.loop { L with state := .busy }))
      have p0 := put_heap (o' := .loop { L with state := .busy }) q0
      have pB := hB7.gd G8 (by simp; omega)
      have ps := s7.gd G8 (by simpa using Ne.symm dbs)
      have l17 := G7.size
      have pO : OwnK (w7.putObj (d + 1) (.loop { L with state := .busy })) W1.heap.size qq nn cc l := row_gd hO7 G8 (by simp; omega)
      have H8 : Gk [bs, b4, d + 1] w7 (w7.putObj (d + 1) (.loop { L with state := .busy })) := gk_gd G8 (fun k hk => by simp at hk; simp [hk])
      have G18 : Gd [bs, b4, d + 1] W1 (w7.putObj (d + 1) (.loop { L with state := .busy })) := G7.trans (G8.mono fun k hk => by simp at hk; simp [hk])
      generalize w7.putObj (d + 1) (.loop { L with state := .busy }) = w8 at *
      have lx := G18.size
      refine ⟨_, _, _, pB.cell (i := 0) rfl rfl, ⟨?_⟩⟩
      have e11 := ext_alloc w8 (.cells #[.int .i64 k] 2)
      have o11 : OwnK (w8.alloc (.cells #[.int .i64 k] 2)) W1.heap.size qq nn cc l := e11.row pO
      have hnn : l.length = nn := ownK_len o11
      refine do_app elI o11 (m := 1) (cs_alloc w8 _ _) (by simp) (by simp [Value.oneCell']) (by simp only [maxLen]; omega) (by omega) (Nat.le_trans lx e11.size) fun q12 c12 w12 o12 g12 => retS_ret ⟨_, _, _, rfl, ?_⟩
      have G12 := gd_row g12
      have hown : ∀ k ∈ (Value.slice qq nn cc).ownBlock.toList, W1.heap.size ≤ k := fun k hk => (World.ownsRow.lt o11 k (by simpa using hk)).1
      have nO : ∀ k, k < W1.heap.size → k ∉ (Value.slice qq nn cc).ownBlock.toList := fun k hk hm => by have := hown k hm; omega
      have tB := (pB.ext e11).gd G12 (nO _ (by omega))
      have ts := (ps.ext e11).gd G12 (nO _ (by omega))
      have t0 := heap_gd (e11.heap p0) G12 (nO _ (by omega))
      have G13 : Gd [bs, b4, d + 1] W1 w12 := (G18.trans (gd_of e11)).over G12 fun k hk => .inr (hown k hk)
      have H13 : Gk [bs, b4, d + 1] w7 w12 := (H8.trans (gk_of e11)).trans (gk_row o11 g12)
      refine do_st tB (i := 0) (add_blk _ _) (by simp) fun w14 uB g14 => ?_
      have uB : Blk w14 b4 #[.slice q12 (nn + 1) c12] 24 := uB
      have G14 := gd_one g14
      have u0 := heap_gd t0 G14 (by simp; omega)
      have us := ts.gd G14 (by simpa using Ne.symm n4)
      have uO := row_gd o12 G14 (by simp; omega)
      refine ⟨_, u0, ?_⟩
      rw [rec_back hst hpe]
      have G15 := gd_one (put_grown w14 (d + 1) (.loop L))
      have v0 := put_heap (o' := .loop L) u0
      have vB := uB.gd G15 (by simp; omega)
      have vs := us.gd G15 (by simpa using Ne.symm dbs)
      have vO := row_gd uO G15 (by simp; omega)
      have G16 : Gd [bs, b4, d + 1] W1 (w14.putObj (d + 1) (.loop L)) := (G13.trans (G14.mono fun k hk => by simp at hk; simp [hk])).trans (G15.mono fun k hk => by simp at hk; simp [hk])
      have H16 : Gk [bs, b4, d + 1] w7 (w14.putObj (d + 1) (.loop L)) := (H13.trans (gk_gd G14 fun k hk => by simp at hk; simp [hk])).trans (gk_gd G15 fun k hk => by simp at hk; simp [hk])
      refine hR _ ⟨G16, vs, v0, q12, nn + 1, c12, vB, ?_⟩ H16
      unfold OwnK ints at *; rw [List.map_append]; exact vO
  have HD1 : HD b10 b8 b5 b7 bs o (.yield (d + 1)) #[] #[] W1 := ⟨h10, h7.ext e10, k5.ext E5, k7.ext E5⟩
  have aA : (a.pairs.map (·.1)).Pairwise (ltO o) := by rw [pairs_its (c := 4)]; exact ca.u.asc
  have iA : ∀ x ∈ a.pairs, In x.1 := fun x hx => by
    rw [prs_itsC (c := 4)] at hx
    obtain ⟨y, hy, rfl⟩ := List.mem_map.1 hx
    exact (inK_its (c := 4)).1 ca.u.k y hy
  refine do_onD ho Y a b (L := []) HD1 (ha.ext EW) (hb.ext EW) cb.u iA aA J0 (by simp only [List.length_nil]; omega) (by simp only [BIG]; omega) fun w9 J9 _ => ?_
  refine retS_ret ⟨_, rfl, ?_⟩
  obtain ⟨G9, _, q0, qq, nn, cc, hB9, hO9⟩ := J9
  simp only [List.nil_append] at hO9
  refine rf_done q0 (by rw [hst]; simp) hpe fun o1 => ?_
  have l9 := G9.size
  have G10 := gd_one (put_grown w9 (d + 1) o1)
  have pB := hB9.gd G10 (by simp; omega)
  have pO := row_gd hO9 G10 (by simp; omega)
  have pd := heap_gd (heap_gd (E6.heap hd6) G9 (nS (by omega) (by omega) (by omega))) G10 (by simp)
  have H10 : Gd [bs, b4, d + 1] W1 (w9.putObj (d + 1) o1) := G9.trans (G10.mono fun k hk => by simp at hk; simp [hk])
  generalize w9.putObj (d + 1) o1 = w10 at *
  refine ⟨_, _, _, pB.cell (i := 0) rfl rfl, ?_⟩
  refine do_st pB (i := 0) (add_blk _ _) (by simp) fun w11 uB g11 => ?_
  have uB : Blk w11 b4 #[.slice qq nn cc] 24 := uB
  have G11 := gd_one g11
  have l10 := H10.size
  have uO := row_gd pO G11 (by simp; omega)
  have ud := heap_gd pd G11 (by simp; omega)
  have X10 : Ext w w10 := Ext.gd EW H10 fun k hk => by
    rcases hS k hk with rfl | rfl | rfl
    · have := e1.size; omega
    · omega
    · have := E4.size; have := e5.size; omega
  have X11 : Ext w w11 := X10.st g11 (by omega)
  refine ⟨ud, ?_⟩
  have G12 := gd_one (put_grown w11 d (.deferred none))
  have vB := uB.gd G12 (by simp; omega)
  have vO := row_gd uO G12 (by simp; omega)
  have X12 : Ext w (w11.putObj d (.deferred none)) := X11.put (by have := E4.size; have := e5.size; omega) _
  exact ⟨_, _, _, vB.cell (i := 0) rfl rfl, h _ _ _ _ X12 (row_mono vO (by have := EW.size; omega))⟩
end Go.Proofs.YtlddfgfmkapoiaaGreat

namespace Go.Proofs.YtlddfgfmkapoiaaGreat
open Go Go.Sh Go.RowKit

set_option maxRecDepth 20000 in
theorem c_alive41 {w : World} {R : Ending → World → Prop} (h : ∀ w', Ext w w' → R (.returned (.bool true)) w') : Calls Tryz.prog 48 #[] w R := by
  refine sh48_ok ?_
  unfold sh48
  refine ⟨?_⟩
  have iA : InP [((1 : Int), (10 : Int)), (2, 20)] := fun x hx => by
    simp at hx
    rcases hx with rfl | rfl <;> exact ⟨⟨by decide, by decide⟩, ⟨by decide, by decide⟩⟩
  have iB : InP [((3 : Int), (30 : Int)), (2, 21)] := fun x hx => by
    simp at hx
    rcases hx with rfl | rfl <;> exact ⟨⟨by decide, by decide⟩, ⟨by decide, by decide⟩⟩
  have sA : sortL 1 3 [((1 : Int), (10 : Int)), (2, 20)] = [(1, 10), (2, 20)] := by decide +kernel
  have sB : sortL 1 3 [((3 : Int), (30 : Int)), (2, 21)] = [(2, 21), (3, 30)] := by decide +kernel
  have e0 := ext_alloc w (.cells #[.int .i64 1, .int .i64 10, .int .i64 2, .int .i64 20] 46)
  have c0 : Cs (w.alloc (.cells #[.int .i64 1, .int .i64 10, .int .i64 2, .int .i64 20] 46)) (some (blk w.heap.size)) (prs [((1 : Int), (10 : Int)), (2, 20)]) := cs_alloc w _ _
  generalize w.alloc (.cells #[.int .i64 1, .int .i64 10, .int .i64 2, .int .i64 20] 46) = w0 at *
  refine do_call Tryz.call49 (c_canof (by decide) (by decide) c0 rfl (by omega) iA fun pa a w1 e1 ha ca qa => retS_ret ⟨_, _, rfl, ⟨?_⟩⟩)
  rw [sA] at qa
  have e2 := ext_alloc w1 (.cells #[.int .i64 3, .int .i64 30, .int .i64 2, .int .i64 21] 46)
  have c2 : Cs (w1.alloc (.cells #[.int .i64 3, .int .i64 30, .int .i64 2, .int .i64 21] 46)) (some (blk w1.heap.size)) (prs [((3 : Int), (30 : Int)), (2, 21)]) := cs_alloc w1 _ _
  generalize w1.alloc (.cells #[.int .i64 3, .int .i64 30, .int .i64 2, .int .i64 21] 46) = w2 at *
  refine do_call Tryz.call49 (c_canof (by decide) (by decide) c2 rfl (by omega) iB fun pb b w3 e3 hb cb qb => retS_ret ⟨_, _, rfl, ?_⟩)
  rw [sB] at qb
  have za : a.size = 2 := by rw [← Tr.pairs_length, qa]; rfl
  have zb : b.size = 2 := by rw [← Tr.pairs_length, qb]; rfl
  have e13 := e2.trans e3
  have ha3 := ha.ext e13
  refine do_call Tryz.call58 (c_cdiff (by decide) ha3 hb ca cb (by omega) (by omega) fun q4 n4 c4 w4 e4 o4 => retS_ret ⟨_, _, _, _, rfl, ?_⟩)
  have aA : (a.pairs.map (·.1)).Pairwise (ltO 1) := by rw [qa]; decide
  have aB : (b.pairs.map (·.1)).Pairwise (ltO 1) := by rw [qb]; decide
  have SP := difT_spec (o := 1) (by decide) aA aB (fun x hx => by rw [qa] at hx; exact (iA x hx).1) (fun x hx => (iB x (by rw [qb] at hx; simp at hx ⊢; rcases hx with rfl | rfl <;> simp)).1)
  have hD : difT 1 a b.pairs = [1, 2, 3] := keys_ext SP.1 (by decide) fun k => by
    rw [SP.2, qa, qb]
    simp only [List.mem_cons, Prod.mk.injEq, List.not_mem_nil, or_false]
    constructor
    · rintro ⟨⟨v, q⟩ | ⟨v, q⟩, _⟩ <;> omega
    · intro q
      refine ⟨?_, fun ⟨v, q1, q2⟩ => by omega⟩
      rcases q with rfl | rfl | rfl
      · exact .inl ⟨10, by simp⟩
      · exact .inl ⟨20, by simp⟩
      · exact .inr ⟨30, by simp⟩
  rw [hD] at o4
  have hn4 := ownK_len o4
  refine do_call Tryz.call49 (c_canof_no (l := []) (by decide) (cs_nil _ _) rfl (by omega) (fun x hx => by cases hx) fun w5 e5 => retS_ret ⟨_, _, rfl, ?_⟩)
  intro K25
  refine ifB_t rfl (ifB_t rfl (ifB_t rfl (ifB_t rfl ⟨?_⟩)))
  have e6 := ext_alloc w5 (.cells #[.int .i64 1, .int .i64 2, .int .i64 3] 2)
  have c6 : Cs (w5.alloc (.cells #[.int .i64 1, .int .i64 2, .int .i64 3] 2)) (some (blk w5.heap.size)) (ints [1, 2, 3]) := cs_alloc w5 _ _
  generalize w5.alloc (.cells #[.int .i64 1, .int .i64 2, .int .i64 3] 2) = w6 at *
  have e46 := e5.trans e6
  refine do_call Tryz.call61 (c_samekeys ((Cs.of_row o4).ext e46) hn4 c6 rfl (by rw [← hn4]; decide) fun w7 e7 => retS_ret ⟨_, rfl, ?_⟩)
  rw [decide_eq_true rfl]
  refine ifB_t rfl ?_
  refine do_call Tryz.call55 (c_digest .nil rfl fun w8 e8 => retS_ret ⟨_, rfl, ifB_t rfl ?_⟩)
  have e48 := (e46.trans e7).trans e8
  refine do_call Tryz.call51 (c_cis_yes (by decide) (ha3.ext (e4.trans e48)) ca (by omega) fun w9 e9 => retS_ret ⟨_, rfl, ifB_t rfl ?_⟩)
  have e49 := (e4.trans e48).trans e9
  refine do_call Tryz.call54 (sh54_ok _ _ ?_)
  unfold sh54
  refine do_call Tryz.call121 (c_shsame a b (ha3.ext e49) (hb.ext e49) fun r w10 e10 i10 => retS_ret ⟨_, rfl, retS_ret ⟨_, rfl, ?_⟩⟩)
  have : r = false := by
    cases r with
    | false => rfl
    | true =>
      have := i10.1 rfl
      rw [this, qb] at qa
      simp at qa
  subst this
  exact h w10 ((((e0.trans e1).trans e13).trans e49).trans e10)
end Go.Proofs.YtlddfgfmkapoiaaGreat

