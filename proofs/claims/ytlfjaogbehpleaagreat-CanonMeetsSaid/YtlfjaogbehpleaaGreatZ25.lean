/-
  meet: Meet, Less, Apart, Within.
-/
/-
  The document's answers of layer 29.
-/
/-
  UnionTells; the chapter's examples.
-/
/-
  many: Puts, Drops, Holds; the document's answers of layer 31; what its statement asks.
-/
/-
  BuildRows, BuildSorts: what they compute.
-/
/-
  BuildTurns: what it computes.
-/
/-
  canon: what it makes, digests, and when a tree is canonical.
-/
/-
  canon.Diff: the keys in which two trees differ; in plain.
-/
/-
  canon.Diff: what it computes.
-/
/-
  Sets of keys, in plain: which keys come of two.
-/
import Derived.Test.YtlfjaogbehpleaaGreatZ24
import Derived.Test.YtlfjaogbehpleaaGreatZ22
import Derived.Test.YtlfjaogbehpleaaGreatZ21
import Derived.Test.YtlfjaogbehpleaaGreatZ20

namespace Go.Proofs.YtlfjaogbehpleaaGreat
open Go Go.Sh Go.RowKit

abbrev noneF : Value := .func (.func 76) #[] #[]
abbrev wholeF (b : Nat) : Value := .func (.func 72) #[.pointer (some (blk b))] #[]
abbrev aloneF : Value := .func (.func 73) #[] #[]
abbrev meetF (b6 : Nat) : Value := .func (.func 77) #[] #[.pointer (some (blk b6))]
theorem sideW_none (c : Int) (b : Nat) : SideW c b noneF fun _ => .nil := fun t p w R hs _ _ _ h => by
  refine do_call Tryz.call76 (sh76_ok _ ?_)
  unfold sh76
  exact h _ _ (gs_refl _ _) hs rfl
theorem sideW_whole (c : Int) (b : Nat) : SideW c b (wholeF b) (wholeC c) := fun t p w R hs ht ok hB h =>
  do_callf Tryz.call72 (by rfl) (c_swhole hs ht ok (by omega) h)
theorem itemW_alone (b : Nat) (w0 : World) : ItemW b w0 aloneF aloneI := fun x y is w R _ h => by
  refine do_call Tryz.call73 (sh73_ok _ _ _ _ _ _ _ ?_)
  unfold sh73
  refine ⟨⟨⟨?_⟩⟩⟩
  have e0 := ext_alloc w (.cells #[.int .i64 x.1, .int .i64 x.2.1, .int .u64 x.2.2] 133)
  have hx := blk_alloc w #[.int .i64 x.1, .int .i64 x.2.1, .int .u64 x.2.2] 133
  generalize w.heap.size = b8 at *
  generalize w.alloc (.cells #[.int .i64 x.1, .int .i64 x.2.1, .int .u64 x.2.2] 133) = w1 at *
  have e1 := ext_alloc w1 (.cells #[.int .i64 y.1, .int .i64 y.2.1, .int .u64 y.2.2] 133)
  generalize w1.alloc (.cells #[.int .i64 y.1, .int .i64 y.2.1, .int .u64 y.2.2] 133) = w2 at *
  have e2 := ext_alloc w2 (.cells #[.int .i64 0, .int .i64 0, .int .u64 0] 133)
  have hx3 := hx.ext (e1.trans e2)
  refine ⟨_, hx3.cell (i := 0) (add_blk _ _) rfl, _, hx3.cell (i := 1) (add_blk _ _) rfl, _, hx3.cell (i := 2) (add_blk _ _) rfl, ?_⟩
  refine do_st3 (blk_alloc w2 _ _) fun w4 h4 g4 => ?_
  have e4 : Ext w2 w4 := e2.st g4 (Nat.le_refl _)
  exact ⟨_, h4.cell (i := 0) (add_blk _ _) rfl, _, h4.cell (i := 1) (add_blk _ _) rfl, _, h4.cell (i := 2) (add_blk _ _) rfl, h _ ((e0.trans e1).trans e4)⟩
theorem itemW_meet {b b6 : Nat} {p : Int} {w0 : World} (hp : may p = true) (hb : Blk w0 b6 #[.int .u8 p] 5) (hne : b6 ≠ b) : ItemW b w0 (meetF b6) (meetI p) := fun x y is w R g h => by
  refine do_callc Tryz.call77 (by rfl) (sh77_ok _ _ _ _ _ _ _ _ ?_)
  unfold sh77
  have hb := hb.gs g hne
  refine ⟨⟨⟨?_⟩⟩⟩
  have e0 := ext_alloc w (.cells #[.int .i64 x.1, .int .i64 x.2.1, .int .u64 x.2.2] 133)
  have hx := blk_alloc w #[.int .i64 x.1, .int .i64 x.2.1, .int .u64 x.2.2] 133
  generalize hb9 : w.heap.size = b9 at *
  generalize w.alloc (.cells #[.int .i64 x.1, .int .i64 x.2.1, .int .u64 x.2.2] 133) = w1 at *
  have e1 := ext_alloc w1 (.cells #[.int .i64 y.1, .int .i64 y.2.1, .int .u64 y.2.2] 133)
  have hy := blk_alloc w1 #[.int .i64 y.1, .int .i64 y.2.1, .int .u64 y.2.2] 133
  generalize w1.heap.size = b11 at *
  generalize w1.alloc (.cells #[.int .i64 y.1, .int .i64 y.2.1, .int .u64 y.2.2] 133) = w2 at *
  have e2 := ext_alloc w2 (.cells #[.int .i64 0, .int .i64 0, .int .u64 0] 133)
  have hz := blk_alloc w2 #[.int .i64 0, .int .i64 0, .int .u64 0] 133
  have hx2 := hx.ext e1
  have h9 : b9 < w2.heap.size := hx2.lt
  generalize hb13 : w2.heap.size = b13 at *
  generalize w2.alloc (.cells #[.int .i64 0, .int .i64 0, .int .u64 0] 133) = w3 at *
  have E3 := (e0.trans e1).trans e2
  refine ⟨_, (hb.ext E3).cell (i := 0) rfl rfl, _, (hx2.ext e2).cell (i := 1) (add_blk _ _) rfl, _, (hy.ext e2).cell (i := 1) (add_blk _ _) rfl, ?_⟩
  refine do_call Tryz.call78 (c_comb fun w4 e4 => retS_ret ⟨_, _, rfl, ?_⟩)
  rw [hp]
  refine do_st ((hx2.ext e2).ext e4) (i := 1) (by rw [add_zero']; exact add_blk _ _) (by simp) fun w5 h5 g5 => ?_
  have h5 : Blk w5 b9 #[.int .i64 x.1, .int .i64 (comb p x.2.1 y.2.1), .int .u64 x.2.2] 133 := h5
  refine ⟨_, h5.cell (i := 0) (add_blk _ _) rfl, _, h5.cell (i := 1) (add_blk _ _) rfl, _, h5.cell (i := 2) (add_blk _ _) rfl, ?_⟩
  refine do_st3 ((hz.ext e4).grown g5 (ne_some (by omega))) fun w6 h6 g6 => ?_
  exact ⟨_, h6.cell (i := 0) (add_blk _ _) rfl, _, h6.cell (i := 1) (add_blk _ _) rfl, _, h6.cell (i := 2) (add_blk _ _) rfl, h _ (((E3.trans e4).st g5 (by omega)).st g6 (by omega))⟩
set_option maxRecDepth 20000 in
set_option maxHeartbeats 1600000 in
theorem c_goes {c o : Int} {b : Nat} {A1 A2 A3 : Fn} {X1 X2 X3 C1 C2 C3 : Array Value} {f1 f2 : Tr → Tr} {it : It → It → Bool → It × Bool} (ho : isO o = true) (s1 : Side c f1) (s2 : Side c f2) {w : World}
    (H1 : SideW c b (.func A1 X1 C1) f1) (H2 : SideW c b (.func A2 X2 C2) f2) (H3 : ItemW b w (.func A3 X3 C3) it) {a u : Tr} {pa pb : Option Addr} {R : Ending → World → Prop} (hs : IsSch c b w) (ha : IsN w pa a) (hu : IsN w pb u) (oa : OkU c o a) (ou : OkU c o u) (hB : a.size + u.size + 10 ≤ BIG)
    (h : ∀ q w', Gs b w w' → IsSch c b w' → IsN w' q (goC c o f1 f2 it a u) → R (.returned (.tuple #[.pointer q, .int .i64 0])) w') :
    Calls Tryz.prog 74 #[.agg #[.func A1 X1 C1, .func A2 X2 C2, .func A3 X3 C3], .pointer (some (blk b)), .int .u8 o, .pointer pa, .pointer pb] w R := by
  refine sh74_ok _ _ _ _ _ _ _ _ _ _ _ _ _ ?_
  unfold sh74
  refine ⟨⟨⟨?_⟩⟩⟩
  have hlt := hs.lt
  have e0 := ext_alloc w (.cells #[.func A1 X1 C1, .func A2 X2 C2, .func A3 X3 C3] 131)
  have h14 := blk_alloc w #[.func A1 X1 C1, .func A2 X2 C2, .func A3 X3 C3] 131
  have n14 : w.heap.size ≠ b := by omega
  have k14 : w.heap.size ≤ w.heap.size := Nat.le_refl _
  generalize hb14 : w.heap.size = b14 at h14 n14 k14 ⊢
  generalize w.alloc (.cells #[.func A1 X1 C1, .func A2 X2 C2, .func A3 X3 C3] 131) = w1 at *
  have l1 := h14.lt
  have e1 := ext_alloc w1 (.cells #[.pointer (some (blk b))] 65)
  have h16 := blk_alloc w1 #[.pointer (some (blk b))] 65
  have n16 : w1.heap.size ≠ b := by omega
  generalize w1.heap.size = b16 at *
  generalize w1.alloc (.cells #[.pointer (some (blk b))] 65) = w2 at *
  have l2 := (h14.ext e1).lt
  have e2 := ext_alloc w2 (.cells #[.int .u8 o] 5)
  have h18 := blk_alloc w2 #[.int .u8 o] 5
  have n18 : w2.heap.size ≠ b := by omega
  generalize w2.heap.size = b18 at *
  generalize w2.alloc (.cells #[.int .u8 o] 5) = w3 at *
  have E3 := (e0.trans e1).trans e2
  refine ⟨_, (h16.ext e2).cell (i := 0) rfl rfl, _, h18.cell (i := 0) rfl rfl, ?_⟩
  have hs3 := hs.ext E3
  refine do_call Tryz.call141 (c_split ho ⟨by decide, by decide⟩ hs3 (t := .nil) rfl (OkM.nil hs.1).1 trivial (by decide) fun ql qr w4 g4 hs4 _ _ => retS_ret ⟨_, _, _, _, _, _, _, rfl, ⟨?_⟩⟩)
  refine do_st3 (blk_alloc w4 _ _) fun w5 h5 g5 => ?_
  have e5 : Ext w4 w5 := (ext_alloc w4 _).st g5 (Nat.le_refl _)
  have G5 := g4.trans (gs_of (b := b) e5)
  have hs5 := hs4.ext e5
  refine ifB_f rfl ⟨?_⟩
  have n36 : w5.heap.size ≠ b := by have := hs5.lt; omega
  refine do_st (blk_alloc w5 _ _) (i := 0) (add_blk _ _) (by simp) fun w6 h36 g6 => ?_
  have e6 : Ext w5 w6 := (ext_alloc w5 _).st g6 (Nat.le_refl _)
  have G6 := G5.trans (gs_of (b := b) e6)
  refine ⟨_, _, _, h36.cell (i := 0) rfl rfl, ?_⟩
  have caps : CapsM w6 b14 b16 b18 w5.heap.size b o (.func A1 X1 C1) (.func A2 X2 C2) (.func A3 X3 C3) 209 :=
    ⟨(h14.ext (e1.trans e2)).gs G6 n14, (h16.ext e2).gs G6 n16, h18.gs G6 n18, h36, n14, n16, n18, n36⟩
  have GW := (gs_of (b := b) E3).trans G6
  exact c_onM ho s1 s2 H1 H2 H3 a GW caps (hs5.ext e6) (ha.gs hs GW) (hu.gs hs GW) oa.ok.1 ou.ok oa.k ou.k ou.asc hB fun q w7 g7 hs7 h7 => retS_ret ⟨_, rfl, h _ _ (GW.trans g7) hs7 h7⟩
section
variable {c o : Int} {b : Nat} {a u : Tr} {pa pb : Option Addr} {w : World} {R : Ending → World → Prop}
theorem c_apart (ho : isO o = true) (hs : IsSch c b w) (ha : IsN w pa a) (hu : IsN w pb u) (oa : OkU c o a) (ou : OkU c o u) (hB : a.size + u.size + 10 ≤ BIG)
    (h : ∀ q w', Gs b w w' → IsSch c b w' → IsN w' q (apartC c o a u) → R (.returned (.tuple #[.pointer q, .int .i64 0])) w') : Calls Tryz.prog 30 #[.pointer (some (blk b)), .int .u8 o, .pointer pa, .pointer pb] w R := by
  refine sh30_ok _ _ _ _ ?_
  unfold sh30
  exact do_call Tryz.call74 (c_goes ho (side_whole c) (side_whole c) (sideW_whole c b) (sideW_whole c b) (itemW_alone b w) hs ha hu oa ou hB fun q w1 g1 hs1 h1 => retS_ret ⟨_, _, rfl, h _ _ g1 hs1 h1⟩)
theorem c_meet {p : Int} (ho : isO o = true) (hp : may p = true) (hs : IsSch c b w) (ha : IsN w pa a) (hu : IsN w pb u) (oa : OkU c o a) (ou : OkU c o u) (hB : a.size + u.size + 10 ≤ BIG)
    (h : ∀ q w', Gs b w w' → IsSch c b w' → IsN w' q (meetC c o p a u) → R (.returned (.tuple #[.pointer q, .int .i64 0])) w') : Calls Tryz.prog 31 #[.pointer (some (blk b)), .int .u8 o, .int .u8 p, .pointer pa, .pointer pb] w R := by
  refine sh31_ok _ _ _ _ _ ?_
  unfold sh31
  refine ⟨?_⟩
  have e0 := ext_alloc w (.cells #[.int .u8 p] 5)
  have h6 := blk_alloc w #[.int .u8 p] 5
  have n6 : w.heap.size ≠ b := by have := hs.lt; omega
  generalize w.heap.size = b6 at *
  generalize w.alloc (.cells #[.int .u8 p] 5) = w1 at *
  refine ⟨_, h6.cell (i := 0) rfl rfl, ?_⟩
  refine do_call Tryz.call75 (c_fmay fun w2 e2 => retS_ret ⟨_, rfl, ?_⟩)
  rw [hp]
  have E2 := e0.trans e2
  exact ifB_f rfl (do_call Tryz.call74 (c_goes ho (side_none hs.1) (side_none hs.1) (sideW_none c b) (sideW_none c b) (itemW_meet hp (h6.ext e2) n6) (hs.ext E2) (ha.ext E2) (hu.ext E2) oa ou hB fun q w3 g3 hs3 h3 => retS_ret ⟨_, _, rfl, h _ _ ((gs_of E2).trans g3) hs3 h3⟩))
end
end Go.Proofs.YtlfjaogbehpleaaGreat

namespace Go.Proofs.YtlfjaogbehpleaaGreat
open Go Go.Sh Go.RowKit

end Go.Proofs.YtlfjaogbehpleaaGreat

namespace Go.Proofs.YtlfjaogbehpleaaGreat
open Go Go.Sh Go.RowKit

/-- two trees that a statement takes -/
structure Law24T (code o : Int) (l : List Bd) (n : Nat) (t : BT) : Prop where
  n4 : n ≤ 400
  wf : t.wf = true
  l : l = t.beads
  fit : FitB t
  ok : OkM code t.tr
  asc : asc o (itsC code t.tr)
theorem Law24T.u {code o : Int} {l : List Bd} {n : Nat} {t : BT} (h : Law24T code o l n t) : OkU code o t.tr := ⟨h.ok, h.asc, h.fit.inK⟩
end Go.Proofs.YtlfjaogbehpleaaGreat

namespace Go.Proofs.YtlfjaogbehpleaaGreat
open Go Go.Sh Go.RowKit

theorem tagL_asc {c o : Int} {ds : List Int} {S : List Pr} (h : mayR o S = true) : asc o (tagL c ds S) := by
  have hc := mayR_chain h
  unfold asc
  have e : (tagL c ds S).map (·.1) = S.map (·.1) := by
    have := congrArg (List.map (·.1)) (tagL_prs c ds S)
    rw [List.map_map] at this
    exact this
  rw [e]
  exact chain_pw.1 hc
theorem tagL_inI {c : Int} {ds : List Int} {S : List Pr} (h : InP S) : InI (tagL c ds S) := fun x hx => by
  obtain ⟨y, hy, e⟩ := (tagL_key (k := x.1)).1 ⟨x, hx, rfl⟩
  rw [← e]; exact (h y hy).1
theorem bld_u {c o : Int} {ds : List Int} {S : List Pr} (hs : isS c = true) (hm : mayR o S = true) (hI : InP S) : OkU c o (bldC c (tagL c ds S)) :=
  ⟨(bldC_ok hs _).1, by rw [bldC_its hs]; exact tagL_asc hm, (inK_its (c := c)).2 (by rw [bldC_its hs]; exact tagL_inI hI)⟩
theorem gs_gd {b : Nat} {w w' : World} (g : Gd [b] w w') : Gs b w w' := ⟨g.1, g.2.1, g.2.2.1, g.2.2.2.1, fun k hk hne => g.2.2.2.2 k hk fun hm => hne (by simp at hm; rw [hm])⟩
theorem gs_none {b : Nat} {w w' : World} (g : Gd (b :: blksD none) w w') : Gs b w w' := gs_gd g
section
variable {c o po : Int} {b : Nat} {t : Tr} {pt : Option Addr} {w : World} {R : Ending → World → Prop}
end
/-! ### the document's -/
/-! ### what the statement asks beside -/
end Go.Proofs.YtlfjaogbehpleaaGreat

namespace Go.Proofs.YtlfjaogbehpleaaGreat
open Go Go.Sh Go.RowKit

end Go.Proofs.YtlfjaogbehpleaaGreat

namespace Go.Proofs.YtlfjaogbehpleaaGreat
open Go Go.Sh Go.RowKit

theorem bld_pairs {c : Int} {ds : List Int} {S : List Pr} (hs : isS c = true) : (bldC c (tagL c ds S)).pairs = S := by
  have h := bldC_its (ds := ds) (l := S) hs
  have e : ∀ t : Tr, t.pairs = (itsC c t).map fun x => (x.1, x.2.1) := fun t => by
    rw [items_pairs]
    unfold itsC
    rw [List.map_map]
    exact List.map_congr_left fun x _ => by show _ = ((itC c x).1, (itC c x).2.1); rw [itC_key, itC_val]
  rw [e, h, tagL_prs]
end Go.Proofs.YtlfjaogbehpleaaGreat

namespace Go.Proofs.YtlfjaogbehpleaaGreat
open Go Go.Sh Go.RowKit

theorem prs_itsC {c : Int} (t : Tr) : t.pairs = (itsC c t).map fun x => (x.1, x.2.1) := by
  rw [items_pairs]
  unfold itsC
  rw [List.map_map]
  exact List.map_congr_left fun x _ => by show _ = ((itC c x).1, (itC c x).2.1); rw [itC_key, itC_val]
/-- a canonical tree -/
structure Can (o : Int) (t : Tr) : Prop where
  u : OkU 4 o t
  mx : ∀ x ∈ itsC 4 t, x.2.2 = mixK x.1
theorem can_bld {o po : Int} {l : List Pr} (ho : isO o = true) (hp : may po = true) (hI : InP l) : Can o (bldC 4 (tagL 4 [] (sortL o po l))) ∧ (bldC 4 (tagL 4 [] (sortL o po l))).pairs = sortL o po l := by
  have hm := sortL_may ho hp hI
  refine ⟨⟨bld_u (by decide) hm.1 hm.2.1, fun x hx => ?_⟩, bld_pairs (by decide)⟩
  rw [bldC_its (by decide)] at hx
  have : ∀ (l : List Pr), ∀ x ∈ drawL [] l, x.2.2 = mixK x.1 := by
    intro l
    induction l with
    | nil => intro x hx; cases hx
    | cons y l ih =>
      intro x hx
      rcases List.mem_cons.1 hx with rfl | hx
      · rfl
      · exact ih x hx
  exact this _ x hx
theorem c_canof {o po : Int} {l : List Pr} {q : Option Addr} {n cp : Nat} {w : World} {R : Ending → World → Prop} (ho : isO o = true) (hp : may po = true) (hl : Cs w q (prs l)) (hn : l.length = n) (hB : n ≤ 1000000) (hI : InP l)
    (h : ∀ qt t w', Ext w w' → IsN w' qt t → Can o t → t.pairs = sortL o po l → R (.returned (.tuple #[.pointer qt, .int .i64 0])) w') : Calls Tryz.prog 28 #[.int .u8 o, .int .u8 po, .slice q n cp] w R := by
  refine sh28_ok _ _ _ _ _ ?_
  unfold sh28
  refine do_call Tryz.call65 (c_schOf (fun hc => by cases hc) fun _ b w1 e1 hb hs => retS_ret ⟨_, _, rfl, ifB_f rfl ?_⟩)
  refine do_call Tryz.call70 (c_bof ho hp hs (isD_nil _) (Nat.zero_le _) (hl.ext e1) hn hB hI fun qt w2 g2 hs2 _ h2 => retS_ret ⟨_, _, rfl, ?_⟩)
  have C := can_bld ho hp hI
  exact h qt _ w2 (Ext.gs e1 (gs_none g2) (by omega)) h2 C.1 C.2
theorem c_canof_no {o po : Int} {l : List Pr} {q : Option Addr} {n cp : Nat} {w : World} {R : Ending → World → Prop} (hno : (isO o && may po) = false) (hl : Cs w q (prs l)) (hn : l.length = n) (hB : n ≤ 1000000) (hI : InP l)
    (h : ∀ w', Ext w w' → R (.returned (.tuple #[.pointer none, .int .i64 2])) w') : Calls Tryz.prog 28 #[.int .u8 o, .int .u8 po, .slice q n cp] w R := by
  refine sh28_ok _ _ _ _ _ ?_
  unfold sh28
  refine do_call Tryz.call65 (c_schOf (fun hc => by cases hc) fun _ b w1 e1 hb hs => retS_ret ⟨_, _, rfl, ifB_f rfl ?_⟩)
  exact do_call Tryz.call70 (c_bof_no (hl.ext e1) hn hB hI (.inr hno) fun w2 e2 => retS_ret ⟨_, _, rfl, h _ (e1.trans e2)⟩)
/-! ### digests -/
def turnB (s : Nat) (x : BitVec 64) : BitVec 64 := (x <<< s) ||| (x >>> (64 - s))
def digT : Tr → BitVec 64
  | .nil => 0
  | .node l k v _ r => mixB (1#64 + digT l + turnB 17 (digT r) + mixB (BitVec.ofInt 64 k) + turnB 31 (mixB (BitVec.ofInt 64 v)))
theorem c_digest : ∀ (t : Tr) {p : Option Addr} {w : World} {R : Ending → World → Prop} (_ht : IsN w p t) (_h : ∀ w', Ext w w' → R (.returned (.int .u64 (U (digT t)))) w'), Calls Tryz.prog 67 #[.pointer p] w R
  | .nil, p, w, R, ht, h => by
    refine sh67_ok _ ?_
    unfold sh67
    have : p = none := ht
    subst this
    exact ifB_t rfl (h w (ext_refl w))
  | .node l k v g r, p, w, R, ht, h => by
    refine sh67_ok _ ?_
    unfold sh67
    rw [ht.isNone]
    refine ifB_f rfl ?_
    refine do_call Tryz.call128 (c_left ht fun pl hpl => retS_ret ⟨_, rfl, ?_⟩)
    refine do_call Tryz.call67 (c_digest l hpl fun w1 e1 => retS_ret ⟨_, rfl, ?_⟩)
    refine do_call Tryz.call130 (c_right (ht.ext e1) fun pr hpr => retS_ret ⟨_, rfl, ?_⟩)
    refine do_call Tryz.call67 (c_digest r hpr fun w2 e2 => retS_ret ⟨_, rfl, ?_⟩)
    refine do_call Tryz.call129 (c_turn (s := 17) (by omega) (by decide) (retS_ret ⟨_, rfl, ?_⟩))
    have E2 := e1.trans e2
    refine do_call Tryz.call131 (c_key (ht.ext E2) fun w3 e3 => retS_ret ⟨_, rfl, ?_⟩)
    rw [wrap_U]
    refine do_call Tryz.call127 (c_mix fun w4 e4 => retS_ret ⟨_, rfl, ?_⟩)
    have E4 := (E2.trans e3).trans e4
    refine do_call Tryz.call132 (c_val (ht.ext E4) fun w5 e5 => retS_ret ⟨_, rfl, ?_⟩)
    rw [wrap_U]
    refine do_call Tryz.call127 (c_mix fun w6 e6 => retS_ret ⟨_, rfl, ?_⟩)
    refine do_call Tryz.call129 (c_turn (s := 31) (by omega) (by decide) (retS_ret ⟨_, rfl, ?_⟩))
    rw [show (1 : Int) = U 1#64 from rfl, add_U, add_U, add_U, add_U]
    exact do_call Tryz.call127 (c_mix fun w7 e7 => retS_ret ⟨_, rfl, h w7 (((E4.trans e5).trans e6).trans e7)⟩)
/-! ### is a tree canonical? -/
def MixT : Tr → Prop
  | .nil => True
  | .node l k _ g r => g = mixK k ∧ MixT l ∧ MixT r
theorem mixT_iff : ∀ {t : Tr}, MixT t ↔ ∀ x ∈ itsC 4 t, x.2.2 = mixK x.1
  | .nil => by simp [MixT, itsC_nil]
  | .node l k v g r => by
    rw [itsC_node]
    unfold MixT
    rw [mixT_iff (t := l), mixT_iff (t := r)]
    have e : itC 4 (k, v, g) = (k, v, g) := by unfold itC; rw [if_pos rfl]
    rw [e]
    constructor
    · rintro ⟨a, b, c⟩ x hx
      rcases List.mem_append.1 hx with hx | hx
      · exact b x hx
      · rcases List.mem_cons.1 hx with rfl | hx
        · exact a
        · exact c x hx
    · intro h
      exact ⟨h (k, v, g) (by simp), fun x hx => h x (by simp [hx]), fun x hx => h x (by simp [hx])⟩
theorem c_mixed : ∀ (t : Tr) {p : Option Addr} {w : World} {R : Ending → World → Prop} (_ht : IsN w p t) (_h : ∀ r w', Ext w w' → (r = true ↔ MixT t) → R (.returned (.bool r)) w'), Calls Tryz.prog 135 #[.pointer p] w R
  | .nil, p, w, R, ht, h => by
    refine sh135_ok _ ?_
    unfold sh135
    have : p = none := ht
    subst this
    intro K4
    exact ifB_t rfl (h _ w (ext_refl w) (by simp [MixT]))
  | .node l k v g r, p, w, R, ht, h => by
    refine sh135_ok _ ?_
    unfold sh135
    rw [ht.isNone]
    intro K4
    refine ifB_f rfl ?_
    refine do_call Tryz.call214 (c_tag ht fun w1 e1 => retS_ret ⟨_, rfl, ?_⟩)
    refine do_call Tryz.call131 (c_key (ht.ext e1) fun w2 e2 => retS_ret ⟨_, rfl, ?_⟩)
    refine do_call Tryz.call215 (c_mixof fun w3 e3 => retS_ret ⟨_, rfl, ?_⟩)
    have E3 := (e1.trans e2).trans e3
    refine ifB_intro (fun q => ?_) fun q => ?_
    · have q : g = mixK k := by simpa [Tr.tag, Tr.key] using q
      refine do_call Tryz.call128 (c_left (ht.ext E3) fun pl hpl => retS_ret ⟨_, rfl, ?_⟩)
      refine do_call Tryz.call135 (c_mixed l hpl fun r1 w4 e4 i4 => retS_ret ⟨_, rfl, ?_⟩)
      have E4 := E3.trans e4
      cases r1 with
      | false =>
        refine ifB_f rfl (h _ w4 E4 ?_)
        have : ¬ MixT l := fun q => by have := i4.2 q; cases this
        simp [MixT, this]
      | true =>
      have q4 := i4.1 rfl
      refine ifB_t rfl ?_
      refine do_call Tryz.call130 (c_right (ht.ext E4) fun pr hpr => retS_ret ⟨_, rfl, ?_⟩)
      refine do_call Tryz.call135 (c_mixed r hpr fun r2 w5 e5 i5 => retS_ret ⟨_, rfl, h _ w5 (E4.trans e5) ?_⟩)
      rw [i5]
      simp [MixT, q, q4]
    · have q : ¬ g = mixK k := by simpa [Tr.tag, Tr.key] using q
      exact h _ w3 E3 (by simp [MixT, q])
theorem c_cis_yes {o : Int} {t : Tr} {p : Option Addr} {w : World} {R : Ending → World → Prop} (ho : isO o = true) (ht : IsN w p t) (hc : Can o t) (hn : t.size ≤ 1000000) (h : ∀ w', Ext w w' → R (.returned (.bool true)) w') :
    Calls Tryz.prog 68 #[.int .u8 o, .pointer p] w R := by
  refine sh68_ok _ _ ?_
  unfold sh68
  have tp : Tp t := by
    rcases hc.u.ok.1 with ⟨q, _⟩ | ⟨q, _⟩ | ⟨q, _⟩ | ⟨_, q⟩
    · cases q
    · cases q
    · cases q
    · exact q
  refine do_call Tryz.call133 (c_scheckS ho ht hc.u.asc hc.u.k fun k w1 e1 => retS_ret ⟨_, _, rfl, ?_⟩)
  intro K9
  refine ifB_t rfl ?_
  refine do_call Tryz.call134 (sh134_ok _ ?_)
  unfold sh134
  refine do_call Tryz.call213 (c_tpcheck (ht.ext e1) tp (by simp only [BIG]; omega) fun k w2 e2 => retS_ret ⟨_, _, rfl, retS_ret ⟨_, rfl, ifB_t rfl ?_⟩⟩)
  refine do_call Tryz.call135 (c_mixed t (ht.ext (e1.trans e2)) fun r w3 e3 i3 => retS_ret ⟨_, rfl, ?_⟩)
  obtain rfl : r = true := i3.2 (mixT_iff.2 hc.mx)
  exact h w3 ((e1.trans e2).trans e3)
end Go.Proofs.YtlfjaogbehpleaaGreat

namespace Go.Proofs.YtlfjaogbehpleaaGreat
open Go Go.Sh Go.RowKit

def difT (o : Int) : Tr → List Pr → List Int
  | .nil, B => B.map (·.1)
  | .node l k v _ r, B => difT o l (B.filter fun x => decide (cmpI o x.1 k < 0)) ++ (if (k, v) ∈ B then [] else [k]) ++ difT o r (B.filter fun x => decide (0 < cmpI o x.1 k))
theorem difT_nil (o : Int) : ∀ a : Tr, difT o a [] = a.pairs.map (·.1)
  | .nil => rfl
  | .node l k v g r => by
    have e : (Tr.node l k v g r).pairs = l.pairs ++ (k, v) :: r.pairs := rfl
    rw [e]
    simp only [difT, List.filter_nil, difT_nil o l, difT_nil o r, List.not_mem_nil, if_false]
    simp
theorem difT_spec {o : Int} (ho : isO o = true) : ∀ {a : Tr} {B : List Pr}, (a.pairs.map (·.1)).Pairwise (ltO o) → (B.map (·.1)).Pairwise (ltO o) → (∀ x ∈ a.pairs, In x.1) → (∀ x ∈ B, In x.1) →
    (difT o a B).Pairwise (ltO o) ∧ ∀ k, k ∈ difT o a B ↔ ((∃ v, (k, v) ∈ a.pairs) ∨ ∃ v, (k, v) ∈ B) ∧ ¬ ∃ v, (k, v) ∈ a.pairs ∧ (k, v) ∈ B
  | .nil, B, ha, hb, _, _ => by
    refine ⟨hb, fun k => ?_⟩
    simp only [difT, List.mem_map, Tr.pairs, List.not_mem_nil, false_and, exists_false, not_false_iff, and_true, false_or]
    constructor
    · rintro ⟨x, hx, rfl⟩; exact ⟨x.2, hx⟩
    · rintro ⟨v, hv⟩; exact ⟨_, hv, rfl⟩
  | .node l k v g r, B, ha, hb, iA, iB => by
    have e : (Tr.node l k v g r).pairs = l.pairs ++ (k, v) :: r.pairs := rfl
    rw [e] at ha iA
    rw [List.map_append, List.map_cons] at ha
    obtain ⟨hl, hr, hx⟩ := List.pairwise_append.1 ha
    obtain ⟨hkr, hr⟩ := List.pairwise_cons.1 hr
    have ik : In k := iA (k, v) (by simp)
    have ltl : ∀ x ∈ l.pairs, cmpI o x.1 k < 0 := fun x q => hx x.1 (List.mem_map_of_mem q) k (by simp)
    have gtr : ∀ x ∈ r.pairs, cmpI o k x.1 < 0 := fun x q => hkr x.1 (List.mem_map_of_mem q)
    have sub : ∀ p : Pr → Bool, ((B.filter p).map (·.1)).Pairwise (ltO o) := fun p => List.Pairwise.sublist (List.Sublist.map _ List.filter_sublist) hb
    have IL := difT_spec ho (B := B.filter fun x => decide (cmpI o x.1 k < 0)) hl (sub _) (fun x q => iA x (by simp [q])) fun x q => iB x (List.mem_filter.1 q).1
    have IR := difT_spec ho (B := B.filter fun x => decide (0 < cmpI o x.1 k)) hr (sub _) (fun x q => iA x (by simp [q])) fun x q => iB x (List.mem_filter.1 q).1
    have dl : ∀ x ∈ difT o l (B.filter fun x => decide (cmpI o x.1 k < 0)), cmpI o x k < 0 := fun x q => by
      rcases ((IL.2 x).1 q).1 with ⟨u, hu⟩ | ⟨u, hu⟩
      · exact ltl (x, u) hu
      · exact (of_decide_eq_true (List.mem_filter.1 hu).2 : cmpI o (x, u).1 k < 0)
    have dr : ∀ x ∈ difT o r (B.filter fun x => decide (0 < cmpI o x.1 k)), cmpI o k x < 0 := fun x q => by
      rcases ((IR.2 x).1 q).1 with ⟨u, hu⟩ | ⟨u, hu⟩
      · exact gtr (x, u) hu
      · exact cmpI_pos (a := x) (b := k) (of_decide_eq_true (List.mem_filter.1 hu).2 : 0 < cmpI o (x, u).1 k)
    have dk : ∀ x ∈ (if (k, v) ∈ B then [] else [k]), x = k := fun x q => by
      split at q
      · cases q
      · simpa using q
    have sk := cmpI_self o k
    have asym : ∀ {x y : Int}, cmpI o x y < 0 → ¬ cmpI o y x < 0 := fun h h' => by have := cmpI_neg h; omega
    constructor
    · unfold difT
      refine List.pairwise_append.2 ⟨List.pairwise_append.2 ⟨IL.1, ?_, fun x hx y hy => ?_⟩, IR.1, fun x hx y hy => ?_⟩
      · split <;> simp
      · rw [dk y hy]; exact dl x hx
      · rcases List.mem_append.1 hx with q | q
        · exact cmpI_trans (dl x q) (dr y hy)
        · rw [dk x q]; exact dr y hy
    · intro x
      unfold difT
      rw [List.mem_append, List.mem_append, e]
      rcases Int.lt_trichotomy (cmpI o x k) 0 with c | c | c
      · have nk : x ≠ k := fun q => by rw [q] at c; omega
        have e1 : ∀ u, (x, u) ∈ l.pairs ++ (k, v) :: r.pairs ↔ (x, u) ∈ l.pairs := fun u => by
          rw [List.mem_append, List.mem_cons]
          refine ⟨fun q => q.elim id fun q => q.elim (fun q => absurd (Prod.mk.inj q).1 nk) fun q => absurd (gtr (x, u) q) (asym c), .inl⟩
        have e2 : ∀ u, (x, u) ∈ B.filter (fun x => decide (cmpI o x.1 k < 0)) ↔ (x, u) ∈ B := fun u => by rw [List.mem_filter]; simp [c]
        have := IL.2 x
        simp only [e2] at this
        simp only [e1]
        rw [← this]
        refine ⟨fun q => q.elim (fun q => q.elim id fun q => absurd (dk x q) nk) fun q => absurd (dr x q) (asym c), fun q => .inl (.inl q)⟩
      · by_cases hxi : x = k
        · subst hxi
          have n1 : x ∉ difT o l (B.filter fun y => decide (cmpI o y.1 x < 0)) := fun q => by have := dl x q; omega
          have n2 : x ∉ difT o r (B.filter fun y => decide (0 < cmpI o y.1 x)) := fun q => by have := dr x q; omega
          have e1 : ∀ u, (x, u) ∈ l.pairs ++ (x, v) :: r.pairs ↔ u = v := fun u => by
            rw [List.mem_append, List.mem_cons]
            refine ⟨fun q => q.elim (fun q => by have := ltl (x, u) q; simp only at this; omega) fun q => q.elim (fun q => (Prod.mk.inj q).2) fun q => by have := gtr (x, u) q; simp only at this; omega, fun q => .inr (.inl (by rw [q]))⟩
          simp only [e1, n1, n2, false_or, or_false]
          by_cases hb : (x, v) ∈ B
          · simp [hb]
          · simp [hb]
        · -- no key that came in
          have n1 : x ∉ difT o l (B.filter fun y => decide (cmpI o y.1 k < 0)) := fun q => by have := dl x q; omega
          have n2 : x ∉ difT o r (B.filter fun y => decide (0 < cmpI o y.1 k)) := fun q => by
            have h1 := dr x q
            have h2 := cmpI_neg h1
            omega
          have n3 : x ∉ (if (k, v) ∈ B then [] else [k]) := fun q => hxi (dk x q)
          constructor
          · rintro ((q | q) | q)
            · exact absurd q n1
            · exact absurd q n3
            · exact absurd q n2
          · rintro ⟨q, _⟩
            have ix : In x := by
              rcases q with ⟨u, hu⟩ | ⟨u, hu⟩
              · exact iA (x, u) hu
              · exact iB (x, u) hu
            exact absurd (cmpI_eq ho ix ik c) hxi
      · have c' := cmpI_pos c
        have nk : x ≠ k := fun q => by rw [q] at c; omega
        have e1 : ∀ u, (x, u) ∈ l.pairs ++ (k, v) :: r.pairs ↔ (x, u) ∈ r.pairs := fun u => by
          rw [List.mem_append, List.mem_cons]
          refine ⟨fun q => q.elim (fun q => absurd (ltl (x, u) q) (asym c')) fun q => q.elim (fun q => absurd (Prod.mk.inj q).1 nk) id, fun q => .inr (.inr q)⟩
        have e2 : ∀ u, (x, u) ∈ B.filter (fun x => decide (0 < cmpI o x.1 k)) ↔ (x, u) ∈ B := fun u => by rw [List.mem_filter]; simp [c]
        have := IR.2 x
        simp only [e2] at this
        simp only [e1]
        rw [← this]
        refine ⟨fun q => q.elim (fun q => q.elim (fun q => absurd (dl x q) (asym c')) fun q => absurd (dk x q) nk) id, .inr⟩
theorem difT_self {o : Int} (ho : isO o = true) {a : Tr} (ha : (a.pairs.map (·.1)).Pairwise (ltO o)) (iA : ∀ x ∈ a.pairs, In x.1) : difT o a a.pairs = [] := by
  have S := difT_spec ho ha ha iA iA
  cases hd : difT o a a.pairs with
  | nil => rfl
  | cons x t =>
    have := (S.2 x).1 (by rw [hd]; simp)
    obtain ⟨⟨v, hv⟩ | ⟨v, hv⟩, hn⟩ := this
    · exact absurd ⟨v, hv, hv⟩ hn
    · exact absurd ⟨v, hv, hv⟩ hn
/-- what is split off, in plain -/
theorem split_pairs {o k : Int} {b : Tr} (hu : OkU 4 o b) : (splitC 4 o k b).1.pairs = b.pairs.filter (fun x => decide (cmpI o x.1 k < 0)) ∧ (splitC 4 o k b).2.2.pairs = b.pairs.filter (fun x => decide (0 < cmpI o x.1 k)) ∧ OkU 4 o (splitC 4 o k b).1 ∧ OkU 4 o (splitC 4 o k b).2.2 := by
  have S := splitC_ok (key := k) hu.ok.1 hu.asc
  have fm : ∀ p : Int → Bool, ((itsC 4 b).filter fun x => p x.1).map (fun x => (x.1, x.2.1)) = b.pairs.filter fun x => p x.1 := fun p => by
    rw [prs_itsC (c := 4) b, List.filter_map]
    rfl
  refine ⟨?_, ?_, ⟨S.okl, by rw [S.lt]; exact asc_filter hu.asc, (inK_its (c := 4)).2 fun x hx => ?_⟩, ⟨S.okr, by rw [S.gt]; exact asc_filter hu.asc, (inK_its (c := 4)).2 fun x hx => ?_⟩⟩
  · rw [prs_itsC (c := 4) (splitC 4 o k b).1, S.lt]; exact fm fun z => decide (cmpI o z k < 0)
  · rw [prs_itsC (c := 4) (splitC 4 o k b).2.2, S.gt]; exact fm fun z => decide (0 < cmpI o z k)
  · rw [S.lt] at hx; exact (inK_its (c := 4)).1 hu.k x (List.mem_filter.1 hx).1
  · rw [S.gt] at hx; exact (inK_its (c := 4)).1 hu.k x (List.mem_filter.1 hx).1
theorem split_is {o k v : Int} {b : Tr} (ho : isO o = true) (hk : In k) (hu : OkU 4 o b) : ((splitC 4 o k b).2.1.isSome && (itO (splitC 4 o k b).2.1).2.1 == v) = decide ((k, v) ∈ b.pairs) := by
  have S := splitC_ok (key := k) hu.ok.1 hu.asc
  have h := S.eq
  rw [Bool.eq_iff_iff, decide_eq_true_iff, prs_itsC (c := 4) b]
  have hI := (inK_its (c := 4)).1 hu.k
  have hm : ∀ y, y ∈ eqF o k (itsC 4 b) ↔ y ∈ itsC 4 b ∧ y.1 = k := fun y => by
    unfold eqF
    rw [List.mem_filter, decide_eq_true_iff]
    refine and_congr_right fun hy => ⟨fun q => cmpI_eq ho (hI y hy) hk q, fun q => by rw [q]; exact cmpI_self o k⟩
  cases hs : (splitC 4 o k b).2.1 with
  | none =>
    rw [hs] at h
    constructor
    · intro q; cases q
    · intro q
      obtain ⟨y, hy, e⟩ := List.mem_map.1 q
      have := (hm y).2 ⟨hy, (Prod.mk.inj e).1⟩
      rw [← h] at this; cases this
  | some y =>
    rw [hs] at h
    have hy : y ∈ eqF o k (itsC 4 b) := by rw [← h]; simp
    have hy' := (hm y).1 hy
    constructor
    · intro q
      have q : y.2.1 = v := by simpa [itO] using q
      exact List.mem_map.2 ⟨y, hy'.1, by rw [hy'.2, q]⟩
    · intro q
      obtain ⟨z, hz, e⟩ := List.mem_map.1 q
      have := (hm z).2 ⟨hz, (Prod.mk.inj e).1⟩
      rw [← h] at this
      have : z = y := by simpa using this
      rw [this] at e
      simp [itO, (Prod.mk.inj e).2]
end Go.Proofs.YtlfjaogbehpleaaGreat

namespace Go.Proofs.YtlfjaogbehpleaaGreat
open Go Go.Sh Go.RowKit

/-! ### what stays: all blocks but some, and but rows of keys -/
structure Gk (S : List Nat) (w w' : World) : Prop where
  size : w.heap.size ≤ w'.heap.size
  keep : ∀ k, k < w.heap.size → k ∉ S → (∀ cs, ¬ Blk w k cs 2) → w'.heap[k]? = w.heap[k]?
theorem gk_of {S : List Nat} {w w' : World} (e : Ext w w') : Gk S w w' := ⟨e.size, fun k hk _ _ => e.block k hk⟩
theorem gk_gd {S T : List Nat} {w w' : World} (g : Gd T w w') (h : ∀ k ∈ T, k ∈ S) : Gk S w w' := ⟨g.size, fun k hk hn _ => g.2.2.2.2 k hk fun q => hn (h k q)⟩
theorem gk_gs {S : List Nat} {b : Nat} {w w' : World} (g : Gs b w w') (h : b ∈ S) : Gk S w w' := ⟨g.size, fun k hk hn _ => g.block k hk (ne_some fun e => hn (by rw [e]; exact h))⟩
theorem Gk.trans {S : List Nat} {x y z : World} (g : Gk S x y) (k : Gk S y z) : Gk S x z := ⟨Nat.le_trans g.size k.size, fun i hi hn hb => by
  have e := g.keep i hi hn hb
  rw [k.keep i (Nat.lt_of_lt_of_le hi g.size) hn fun cs q => hb cs (by unfold Blk at q ⊢; rw [← e]; exact q), e]⟩
theorem gk_row {S : List Nat} {w w' : World} {base n c m : Nat} {q : Option Addr} {xs : List Int} (h : OwnK w base q n c xs) (g : w.grownBy w' (Value.slice q m c).ownBlock) : Gk S w w' := ⟨World.grownBy.size g, fun k hk _ hb => g.block k hk fun e => by
  rcases h.2 with z | ⟨b, cap, cur, hv, hbb, hblk, rest⟩
  · have hz := z.1
    injection hz with hz1
    subst hz1
    cases e
  · have e2 : (Value.slice q n c).ownBlock = (Value.slice q m c).ownBlock := by cases q <;> rfl
    rw [← e2, hv] at e
    have e3 : b = k := by injection e with e; exact e.symm
    subst e3
    exact hb _ hblk⟩
theorem _root_.Go.Sh.Blk.gk {S : List Nat} {k : Nat} {w w' : World} {cs : Array Value} {t : TypeId} (h : Blk w k cs t) (ht : t ≠ 2) (g : Gk S w w') (hk : k ∉ S) : Blk w' k cs t := by
  have := g.keep k h.lt hk fun cs' q => ht (blk_fun h q)
  unfold Blk at h ⊢
  rw [this]; exact h
theorem _root_.Go.Sh.IsT.gk {S : List Nat} {w w' : World} {p : Option Addr} {t : Tr} (h : IsN w p t) (o : Oth S w) (g : Gk S w w') : IsN w' p t := by
  induction t generalizing p with
  | nil => exact h
  | node l k v gg r ihl ihr =>
    obtain ⟨b', pl, pr, hp, hb, hl, hr⟩ := h
    exact ⟨b', pl, pr, hp, hb.gk (by decide) g (fun hm => o b' hm _ hb), ihl hl, ihr hr⟩
/-! ### the going over two trees -/
abbrev onD (b10 b8 b5 b7 : Nat) : Value := .func (.func 140) #[] #[.pointer (some (blk b10)), .pointer (some (blk b8)), .pointer (some (blk b5)), .pointer (some (blk b7))]
structure HD (b10 b8 b5 b7 bs : Nat) (o : Int) (y1 : Fn) (y2 y3 : Array Value) (w : World) : Prop where
  on : Blk w b10 #[onD b10 b8 b5 b7] 123
  yl : Blk w b8 #[.func y1 y2 y3] 205
  sc : Blk w b5 #[.pointer (some (blk bs))] 65
  od : Blk w b7 #[.int .u8 o] 5
/-- what is kept behind some keys, and how a key is told -/
structure YD (S : List Nat) (b10 b8 b5 b7 bs M : Nat) (y1 : Fn) (y2 y3 : Array Value) (J : List Int → World → Prop) : Prop where
  sch : ∀ l w, J l w → IsSch 4 bs w
  bsS : bs ∈ S
  ext : ∀ l w w', J l w → Ext w w' → J l w'
  gs : ∀ l w w', J l w → Gs bs w w' → IsSch 4 bs w' → J l w'
  oth : ∀ l w, J l w → Oth S w
  lt : ∀ l w, J l w → ∀ k ∈ S, k < w.heap.size
  y : ∀ (l : List Int) (w : World) (k : Int) (R : Ending → World → Prop), J l w → l.length + 1 ≤ M → (∀ w', J (l ++ [k]) w' → Gk S w w' → R (.returned (.bool true)) w') → doCall Tryz.prog (.func y1 y2 y3) #[.int .i64 k] w R
  n10 : b10 ∉ S
  n8 : b8 ∉ S
  n5 : b5 ∉ S
  n7 : b7 ∉ S
section
variable {S : List Nat} {b10 b8 b5 b7 bs M : Nat} {o : Int} {y1 : Fn} {y2 y3 : Array Value} {J : List Int → World → Prop}
theorem HD.gk {w w' : World} (h : HD b10 b8 b5 b7 bs o y1 y2 y3 w) (Y : YD S b10 b8 b5 b7 bs M y1 y2 y3 J) (g : Gk S w w') : HD b10 b8 b5 b7 bs o y1 y2 y3 w' :=
  ⟨h.on.gk (by decide) g Y.n10, h.yl.gk (by decide) g Y.n8, h.sc.gk (by decide) g Y.n5, h.od.gk (by decide) g Y.n7⟩
set_option maxRecDepth 20000 in
theorem do_onD0 (Y : YD S b10 b8 b5 b7 bs M y1 y2 y3 J) : ∀ (b : Tr) {L : List Int} {pb : Option Addr} {w : World} {R : Ending → World → Prop} (_h : HD b10 b8 b5 b7 bs o y1 y2 y3 w) (_hb : IsN w pb b) (_hJ : J L w) (_hM : L.length + b.size ≤ M)
    (_k : ∀ w', J (L ++ b.pairs.map (·.1)) w' → Gk S w w' → R (.returned (.bool true)) w'), doCall Tryz.prog (onD b10 b8 b5 b7) #[.pointer none, .pointer pb] w R
  | .nil, L, pb, w, R, h, hb, hJ, hM, k => by
    refine do_callc Tryz.call140 (by rfl) (sh140_ok _ _ _ _ _ _ ?_)
    unfold sh140
    refine do_pe (a := .nil) (b := .nil) rfl hb (fun _ => ifB_t rfl (k w (by simpa [Tr.pairs] using hJ) (gk_of (ext_refl w)))) fun hne => absurd (show pb = none from hb).symm hne
  | .node l kk v g r, L, pb, w, R, h, hb, hJ, hM, k => by
    refine do_callc Tryz.call140 (by rfl) (sh140_ok _ _ _ _ _ _ ?_)
    unfold sh140
    have e : (Tr.node l kk v g r).size = l.size + 1 + r.size := rfl
    have ep : (Tr.node l kk v g r).pairs.map (·.1) = l.pairs.map (·.1) ++ [kk] ++ r.pairs.map (·.1) := by
      show (l.pairs ++ (kk, v) :: r.pairs).map (·.1) = _
      simp
    have zl := l.pairs_length
    have zr := r.pairs_length
    refine do_pe (a := .nil) rfl hb (fun q => absurd (isN_fun (a := .nil) (b := .node l kk v g r) (show IsN w pb .nil from q.symm ▸ rfl) hb) (by simp)) fun hne => ifB_f rfl (ifB_t rfl ?_)
    intro K10
    have d := ext_drew w
    have O := Y.oth _ _ hJ
    have G0 : Gk S w w.drew := gk_of d
    have on : ∀ w', Gk S w w' → World.cell? w' (blk b10) = some (onD b10 b8 b5 b7) := fun w' G => (h.gk Y G).on.cell (i := 0) rfl rfl
    have yl : ∀ w', Gk S w w' → World.cell? w' (blk b8) = some (.func y1 y2 y3) := fun w' G => (h.gk Y G).yl.cell (i := 0) rfl rfl
    have J0 := Y.ext _ _ _ hJ d
    refine ⟨⟨fun w' => Gk S w w', G0, _, _, _, fun w' G => on w' G, ?_⟩⟩
    refine do_call Tryz.call128 (c_left (hb.ext d) fun pl hpl => retS_ret ⟨_, rfl, G0, ?_⟩)
    refine do_onD0 Y l (h.gk Y G0) hpl J0 (by omega) fun w1 J1 g1 => retS_ret ⟨_, rfl, G0.trans g1, ifB_t rfl ?_⟩
    have G1 := G0.trans g1
    refine ⟨_, _, _, fun w' G => yl w' G, ?_⟩
    refine do_call Tryz.call131 (c_key (hb.gk O G1) fun w2 e2 => retS_ret ⟨_, rfl, G1.trans (gk_of e2), ?_⟩)
    have G2 := G1.trans (gk_of e2)
    refine Y.y _ w2 _ _ (Y.ext _ _ _ J1 e2) (by rw [List.length_append, List.length_map]; omega) fun w3 J3 g3 => retS_ret ⟨_, rfl, G2.trans g3, ifB_t rfl ?_⟩
    have G3 := G2.trans g3
    refine ⟨_, _, _, fun w' G => on w' G, ?_⟩
    refine do_call Tryz.call130 (c_right (hb.gk O G3) fun pr hpr => retS_ret ⟨_, rfl, G3, ?_⟩)
    refine do_onD0 Y r (h.gk Y G3) hpr J3 (by simp only [List.length_append, List.length_map, List.length_cons, List.length_nil]; omega) fun w4 J4 g4 => retS_ret ⟨_, rfl, G3.trans g4, ?_⟩
    refine k w4 ?_ (G3.trans g4)
    rw [ep, ← List.append_assoc, ← List.append_assoc]
    exact J4
set_option maxRecDepth 20000 in
set_option maxHeartbeats 1000000 in
theorem do_onD (ho : isO o = true) (Y : YD S b10 b8 b5 b7 bs M y1 y2 y3 J) : ∀ (a b : Tr) {L : List Int} {pa pb : Option Addr} {w : World} {R : Ending → World → Prop} (_h : HD b10 b8 b5 b7 bs o y1 y2 y3 w) (_ha : IsN w pa a) (_hb : IsN w pb b) (_hu : OkU 4 o b) (_iA : ∀ x ∈ a.pairs, In x.1) (_aA : (a.pairs.map (·.1)).Pairwise (ltO o)) (_hJ : J L w) (_hM : L.length + (a.size + b.size) ≤ M) (_hB : b.size + 6 ≤ BIG)
    (_k : ∀ w', J (L ++ difT o a b.pairs) w' → Gk S w w' → R (.returned (.bool true)) w'), doCall Tryz.prog (onD b10 b8 b5 b7) #[.pointer pa, .pointer pb] w R
  | .nil, b, L, pa, pb, w, R, h, ha, hb, hu, iA, aA, hJ, hM, hB, k => by
    have : pa = none := ha
    subst this
    exact do_onD0 Y b h hb hJ (by simp only [Tr.size] at hM; omega) fun w' J' G' => k w' J' G'
  | .node l kk v g r, b, L, pa, pb, w, R, h, ha, hb, hu, iA, aA, hJ, hM, hB, k => by
    refine do_callc Tryz.call140 (by rfl) (sh140_ok _ _ _ _ _ _ ?_)
    unfold sh140
    have e : (Tr.node l kk v g r).size = l.size + 1 + r.size := rfl
    have ep : (Tr.node l kk v g r).pairs = l.pairs ++ (kk, v) :: r.pairs := rfl
    have aA' := aA
    rw [ep, List.map_append, List.map_cons] at aA'
    obtain ⟨aL, aR, _⟩ := List.pairwise_append.1 aA'
    have aR := (List.pairwise_cons.1 aR).2
    have iL : ∀ x ∈ l.pairs, In x.1 := fun x q => iA x (by rw [ep]; simp [q])
    have iR : ∀ x ∈ r.pairs, In x.1 := fun x q => iA x (by rw [ep]; simp [q])
    have ik : In kk := iA (kk, v) (by rw [ep]; simp)
    have zl := l.pairs_length
    have zr := r.pairs_length
    have zb := b.pairs_length
    have O := Y.oth _ _ hJ
    have on : ∀ w', Gk S w w' → World.cell? w' (blk b10) = some (onD b10 b8 b5 b7) := fun w' G => (h.gk Y G).on.cell (i := 0) rfl rfl
    have yl : ∀ w', Gk S w w' → World.cell? w' (blk b8) = some (.func y1 y2 y3) := fun w' G => (h.gk Y G).yl.cell (i := 0) rfl rfl
    refine do_pe ha hb (fun q => ifB_t rfl (k w ?_ (gk_of (ext_refl w)))) fun hne => ifB_f rfl (ifB_f (by rw [ha.isNone]; rfl) ?_)
    · subst q
      obtain rfl := isN_fun ha hb
      rw [difT_self ho aA iA, List.append_nil]; exact hJ
    have d := ext_drew w
    have G0 : Gk S w w.drew := gk_of d
    have J0 := Y.ext _ _ _ hJ d
    cases b with
    | nil =>
      have : pb = none := hb
      subst this
      refine ifB_t rfl ?_
      intro K42
      have ed : difT o (.node l kk v g r) [] = difT o l [] ++ [kk] ++ difT o r [] := by simp [difT]
      have dlen : ∀ t : Tr, (difT o t []).length = t.pairs.length := fun t => by rw [difT_nil, List.length_map]
      refine ⟨⟨fun w' => Gk S w w', G0, _, _, _, fun w' G => on w' G, ?_⟩⟩
      refine do_call Tryz.call128 (c_left (ha.ext d) fun pl hpl => retS_ret ⟨_, rfl, G0, ?_⟩)
      refine do_onD ho Y l .nil (h.gk Y G0) hpl rfl hu iL aL J0 (by simp only [Tr.size] at hM ⊢; omega) hB fun w1 J1 g1 => retS_ret ⟨_, rfl, G0.trans g1, ifB_t rfl ?_⟩
      have G1 := G0.trans g1
      refine ⟨_, _, _, fun w' G => yl w' G, ?_⟩
      refine do_call Tryz.call131 (c_key (ha.gk O G1) fun w2 e2 => retS_ret ⟨_, rfl, G1.trans (gk_of e2), ?_⟩)
      have G2 := G1.trans (gk_of e2)
      have J1 : J (L ++ difT o l []) w1 := J1
      refine Y.y _ w2 _ _ (Y.ext _ _ _ J1 e2) (by rw [List.length_append, dlen]; omega) fun w3 J3 g3 => retS_ret ⟨_, rfl, G2.trans g3, ifB_t rfl ?_⟩
      have G3 := G2.trans g3
      refine ⟨_, _, _, fun w' G => on w' G, ?_⟩
      refine do_call Tryz.call130 (c_right (ha.gk O G3) fun pr hpr => retS_ret ⟨_, rfl, G3, ?_⟩)
      refine do_onD ho Y r .nil (h.gk Y G3) hpr rfl hu iR aR J3 (by simp only [List.length_append, dlen, List.length_cons, List.length_nil, Tr.size] at hM ⊢; omega) hB fun w4 J4 g4 => retS_ret ⟨_, rfl, G3.trans g4, ?_⟩
      refine k w4 ?_ (G3.trans g4)
      show J (L ++ difT o (.node l kk v g r) []) w4
      rw [ed, ← List.append_assoc, ← List.append_assoc]
      exact J4
    | node bl bk bv bg br =>
    rw [hb.isNone]
    refine ifB_f rfl ?_
    generalize hBB : Tr.node bl bk bv bg br = B at *
    have SP := split_pairs (k := kk) hu
    have SI := split_is (v := v) ho ik hu
    obtain ⟨sp1, sp2, su1, su2⟩ := SP
    have sz1 : (splitC 4 o kk B).1.size ≤ B.size ∧ (splitC 4 o kk B).2.2.size ≤ B.size ∧ (splitC 4 o kk B).1.size + (splitC 4 o kk B).2.2.size ≤ B.size := by
      have h1 : (splitC 4 o kk B).1.size = (B.pairs.filter fun x => decide (cmpI o x.1 kk < 0)).length := by rw [← sp1]; exact (Tr.pairs_length _).symm
      have h2 : (splitC 4 o kk B).2.2.size = (B.pairs.filter fun x => decide (0 < cmpI o x.1 kk)).length := by rw [← sp2]; exact (Tr.pairs_length _).symm
      have h0 : B.pairs.length = B.size := Tr.pairs_length _
      have hsum : ∀ P : List Pr, (P.filter fun x => decide (cmpI o x.1 kk < 0)).length + (P.filter fun x => decide (0 < cmpI o x.1 kk)).length ≤ P.length := by
        intro P
        induction P with
        | nil => simp
        | cons x P ih =>
          simp only [List.filter_cons, List.length_cons]
          by_cases h1 : cmpI o x.1 kk < 0
          · have h2 : ¬ 0 < cmpI o x.1 kk := by omega
            simp [h1, h2]; omega
          · by_cases h2 : 0 < cmpI o x.1 kk <;> simp [h1, h2] <;> omega
      have h3 : (splitC 4 o kk B).1.size + (splitC 4 o kk B).2.2.size ≤ B.size := by rw [h1, h2, ← h0]; exact hsum B.pairs
      omega
    have dlen : ∀ (t : Tr) (P : List Pr), (difT o t P).length ≤ t.pairs.length + P.length := by
      intro t
      induction t with
      | nil => intro P; simp [difT]
      | node tl tk tv tg tr ihl ihr =>
        intro P
        have e2 : (Tr.node tl tk tv tg tr).pairs.length = tl.pairs.length + 1 + tr.pairs.length := by simp [Tr.pairs]; omega
        rw [e2]
        simp only [difT, List.length_append]
        have h1 := ihl (P.filter fun x => decide (cmpI o x.1 tk < 0))
        have h2 := ihr (P.filter fun x => decide (0 < cmpI o x.1 tk))
        have hsum : ∀ P : List Pr, (P.filter fun x => decide (cmpI o x.1 tk < 0)).length + (P.filter fun x => decide (0 < cmpI o x.1 tk)).length ≤ P.length := by
          intro P
          induction P with
          | nil => simp
          | cons x P ih =>
            simp only [List.filter_cons, List.length_cons]
            by_cases h1 : cmpI o x.1 tk < 0
            · have h2 : ¬ 0 < cmpI o x.1 tk := by omega
              simp [h1, h2]; omega
            · by_cases h2 : 0 < cmpI o x.1 tk <;> simp [h1, h2] <;> omega
        have h3 := hsum P
        have h4 : (if (tk, tv) ∈ P then ([] : List Int) else [tk]).length ≤ 1 := by split <;> simp
        omega
    have dl := dlen l (splitC 4 o kk B).1.pairs
    have z1 := (splitC 4 o kk B).1.pairs_length
    have z2 := (splitC 4 o kk B).2.2.pairs_length
    have ed : difT o (.node l kk v g r) B.pairs = difT o l (splitC 4 o kk B).1.pairs ++ (if (kk, v) ∈ B.pairs then [] else [kk]) ++ difT o r (splitC 4 o kk B).2.2.pairs := by rw [sp1, sp2]; rfl
    intro K77
    -- behind the split
    have hK77 : ∀ (pl : Option Addr) (bx : Nat) (pr : Option Addr) (x : It) (w6 : World), Gk S w w6 → J L w6 → IsN w6 pl (splitC 4 o kk B).1 → IsN w6 pr (splitC 4 o kk B).2.2 → w.heap.size ≤ bx → Blk w6 bx #[.int .i64 x.1, .int .i64 x.2.1, .int .u64 x.2.2] 133 →
        x = itO (splitC 4 o kk B).2.1 → K77 pl (blk bx) (splitC 4 o kk B).2.1.isSome pr w6 := by
      intro pl bx pr x w6 G6 J6 hpl hpr hbx hxb hx
      simp -zeta -zetaHave only [K77]
      intro K80
      have nbx : bx ∉ S := fun q => by have := Y.lt _ _ hJ bx q; omega
      have O6 := Y.oth _ _ J6
      have d6 := ext_drew w6
      have J7 := Y.ext _ _ _ J6 d6
      have g7 : Gk S w6 w6.drew := gk_of d6
      have on6 : ∀ w', Gk S w6 w' → World.cell? w' (blk b10) = some (onD b10 b8 b5 b7) := fun w' G => on w' (G6.trans G)
      have yl6 : ∀ w', Gk S w6 w' → World.cell? w' (blk b8) = some (.func y1 y2 y3) := fun w' G => yl w' (G6.trans G)
      have ha6 := ha.gk O G6
      refine ⟨⟨fun w' => Gk S w6 w', g7, _, _, _, fun w' G => on6 w' G, ?_⟩⟩
      refine do_call Tryz.call128 (c_left (ha6.ext d6) fun ql hql => retS_ret ⟨_, rfl, g7, ?_⟩)
      refine do_onD ho Y l (splitC 4 o kk B).1 ((h.gk Y G6).gk Y g7) hql (hpl.ext d6) su1 iL aL J7 (by omega) (by omega) fun w8 J8 g8 => retS_ret ⟨_, rfl, g7.trans g8, ifB_t rfl ?_⟩
      have G8 := g7.trans g8
      -- on the right
      have hright : ∀ (L2 : List Int) (w9 : World), J L2 w9 → Gk S w6 w9 → L2.length ≤ L.length + (difT o l (splitC 4 o kk B).1.pairs).length + 1 → L ++ difT o (.node l kk v g r) B.pairs = L2 ++ difT o r (splitC 4 o kk B).2.2.pairs →
          (∃ (xf : Fn), ∃ (xx : Array Value), ∃ (xc : Array Value), (∀ w, Gk S w6 w → World.cell? w (blk b10) = some (.func xf xx xc)) ∧ (
 doCall Tryz.prog (.func (.func 130) #[] #[]) #[.pointer pa] w9 (retS (fun v100 w101 => ∃ (x99 : Option Addr), v100 = (.pointer x99 : Value) ∧ (
 Gk S w6 w101 ∧ (
 doCall Tryz.prog (.func xf xx xc) #[.pointer x99, .pointer pr] w101 (retS (fun v103 w104 => ∃ (x102 : Bool), v103 = (.bool x102 : Value) ∧ (
 Gk S w6 w104 ∧ (
 K80 x102 w104))) (fun ch w => Kfn R ch [] w))))) (fun ch w => Kfn R ch [] w)))) := fun L2 w9 J9 G9 hL2 eL => by
        refine ⟨_, _, _, fun w' G => on6 w' G, ?_⟩
        refine do_call Tryz.call130 (c_right (ha6.gk O6 G9) fun qr hqr => retS_ret ⟨_, rfl, G9, ?_⟩)
        refine do_onD ho Y r (splitC 4 o kk B).2.2 ((h.gk Y G6).gk Y G9) hqr (hpr.gk O6 G9) su2 iR aR J9 (by omega) (by omega) fun w10 J10 g10 => retS_ret ⟨_, rfl, G9.trans g10, ?_⟩
        refine k w10 ?_ ((G6.trans G9).trans g10)
        rw [eL]; exact J10
      have hyield : ∀ (w9 : World), J (L ++ difT o l (splitC 4 o kk B).1.pairs) w9 → Gk S w6 w9 → (kk, v) ∉ B.pairs →
          (∃ (xf : Fn), ∃ (xx : Array Value), ∃ (xc : Array Value), (∀ w, Gk S w6 w → World.cell? w (blk b8) = some (.func xf xx xc)) ∧ (
 doCall Tryz.prog (.func (.func 131) #[] #[]) #[.pointer pa] w9 (retS (fun v109 w110 => ∃ (x108 : Int), v109 = (.int .i64 x108 : Value) ∧ (
 Gk S w6 w110 ∧ (
 doCall Tryz.prog (.func xf xx xc) #[.int .i64 x108] w110 (retS (fun v112 w113 => ∃ (x111 : Bool), v112 = (.bool x111 : Value) ∧ (
 Gk S w6 w113 ∧ (
 ifB x111 (
 ∃ (xf : Fn), ∃ (xx : Array Value), ∃ (xc : Array Value), (∀ w, Gk S w6 w → World.cell? w (blk b10) = some (.func xf xx xc)) ∧ (
 doCall Tryz.prog (.func (.func 130) #[] #[]) #[.pointer pa] w113 (retS (fun v100 w101 => ∃ (x99 : Option Addr), v100 = (.pointer x99 : Value) ∧ (
 Gk S w6 w101 ∧ (
 doCall Tryz.prog (.func xf xx xc) #[.pointer x99, .pointer pr] w101 (retS (fun v103 w104 => ∃ (x102 : Bool), v103 = (.bool x102 : Value) ∧ (
 Gk S w6 w104 ∧ (
 K80 x102 w104))) (fun ch w => Kfn R ch [] w))))) (fun ch w => Kfn R ch [] w)))) (
 R (.returned (.bool false)) w113)))) (fun ch w => Kfn R ch [] w))))) (fun ch w => Kfn R ch [] w)))) := fun w9 J9 G9 hnB => by
        refine ⟨_, _, _, fun w' G => yl6 w' G, ?_⟩
        refine do_call Tryz.call131 (c_key (ha6.gk O6 G9) fun w10 e10 => retS_ret ⟨_, rfl, G9.trans (gk_of e10), ?_⟩)
        have G10 := G9.trans (gk_of (S := S) e10)
        refine Y.y _ w10 _ _ (Y.ext _ _ _ J9 e10) (by rw [List.length_append]; omega) fun w11 J11 g11 => retS_ret ⟨_, rfl, G10.trans g11, ifB_t rfl ?_⟩
        refine hright _ w11 J11 (G10.trans g11) (by simp only [List.length_append, List.length_cons, List.length_nil]; omega) ?_
        rw [ed, if_neg hnB]
        simp only [List.append_assoc]
        rfl
      cases hs : (splitC 4 o kk B).2.1.isSome with
      | false =>
        rw [hs] at SI
        have hnB : (kk, v) ∉ B.pairs := fun q => by rw [decide_eq_true q] at SI; simp at SI
        exact ifB_f rfl (hyield w8 J8 G8 hnB)
      | true =>
        rw [hs] at SI
        refine ifB_t rfl ⟨_, fun w' G => (hxb.gk (by decide) G nbx).cell (i := 1) (add_blk _ _) rfl, ?_⟩
        refine do_call Tryz.call132 (c_val (ha6.gk O6 G8) fun w9 e9 => retS_ret ⟨_, rfl, G8.trans (gk_of e9), ?_⟩)
        have G9 := G8.trans (gk_of (S := S) e9)
        have J9 := Y.ext _ _ _ J8 e9
        rw [hx]
        refine ifB_intro (fun q => ?_) fun q => ?_
        · have q' : ((itO (splitC 4 o kk B).2.1).2.1 == v) = true := q
          rw [q'] at SI
          have hB' : (kk, v) ∈ B.pairs := of_decide_eq_true SI.symm
          refine hright _ w9 J9 G9 (by rw [List.length_append]; omega) ?_
          rw [ed, if_pos hB']
          simp only [List.append_nil, List.append_assoc]
        · have q' : ((itO (splitC 4 o kk B).2.1).2.1 == v) = false := q
          rw [q'] at SI
          have hnB : (kk, v) ∉ B.pairs := fun q => by rw [decide_eq_true q] at SI; simp at SI
          exact hyield w9 J9 G9 hnB
    have sc : ∀ w', Gk S w w' → World.cell? w' (blk b5) = some (.pointer (some (blk bs))) := fun w' G => (h.gk Y G).sc.cell (i := 0) rfl rfl
    have od : ∀ w', Gk S w w' → World.cell? w' (blk b7) = some (.int .u8 o) := fun w' G => (h.gk Y G).od.cell (i := 0) rfl rfl
    have hcase : ∀ (bx : Nat) (w2 w3 : World) (ql qr : Option Addr), Ext w w2 → w.heap.size ≤ bx → Blk w3 bx #[.int .i64 0, .int .i64 0, .int .u64 0] 133 → Gs bs w2 w3 → IsSch 4 bs w3 → IsN w3 ql (splitC 4 o kk B).1 → IsN w3 qr (splitC 4 o kk B).2.2 → bx ≠ bs →
        doSt ((blk bx).add 0) (.int .i64 (itO (splitC 4 o kk B).2.1).1) w3 (fun w4 => doSt ((blk bx).add 1) (.int .i64 (itO (splitC 4 o kk B).2.1).2.1) w4 (fun w5 => doSt ((blk bx).add 2) (.int .u64 (itO (splitC 4 o kk B).2.1).2.2) w5 (fun w6 => K77 ql (blk bx) (splitC 4 o kk B).2.1.isSome qr w6))) := by
      intro bx w2 w3 ql qr E2 hbx k3 g3 hs3 hql hqr hne
      refine do_st k3 (i := 0) (add_blk _ _) (by simp) fun w4 h4 g4 => ?_
      refine do_st h4 (i := 1) (add_blk _ _) (by simp) fun w5 h5 g5 => ?_
      refine do_st h5 (i := 2) (add_blk _ _) (by simp) fun w6 h6 g6 => ?_
      have gg := grown_trans (grown_trans g4 g5) g6
      have Gb : Gd [bx] w3 w6 := (gd_refl _ _).st gg (.inr (by simp))
      have hs6 := hs3.gd Gb (by simpa using Ne.symm hne)
      have Gw : Gd [bs] w w6 := ((gd_of E2).trans (gd_gs g3 (by simp))).st gg (.inl hbx)
      have GS := gs_gd Gw
      have Ob : Oth [bx] w3 := fun k hk => by
        have : k = bx := by simpa using hk
        subst this
        exact oth_blk k3 (by decide)
      exact hK77 ql bx qr (itO (splitC 4 o kk B).2.1) w6 (gk_gs GS Y.bsS) (Y.gs _ _ _ hJ GS hs6) (hql.gd Ob Gb) (hqr.gd Ob Gb) hbx h6 rfl
    have hlt := Y.lt _ _ hJ bs Y.bsS
    refine ⟨⟨fun w' => Gk S w w', G0, _, fun w' G => sc w' G, _, fun w' G => od w' G, ⟨?_, ?_⟩⟩⟩
    · refine do_call Tryz.call131 (c_key (ha.ext d) fun w1 e1 => retS_ret ⟨_, rfl, G0.trans (gk_of e1), ⟨?_, ?_⟩⟩)
      · have E1 := d.trans e1
        have J1 := Y.ext _ _ _ hJ E1
        refine do_call Tryz.call141 (c_split ho ik (Y.sch _ _ J1) (hb.ext E1) hu.ok.1 hu.k hB fun ql qr w2 g2 hs2 hql hqr => retS_ret ⟨_, _, _, _, _, _, _, rfl, ⟨?_⟩⟩)
        have e3 := ext_alloc w2 (.cells #[.int .i64 0, .int .i64 0, .int .u64 0] 133)
        have s1 := E1.size
        have s2 := g2.size
        exact ⟨((gk_of (S := S) E1).trans (gk_gs g2 Y.bsS)).trans (gk_of e3), hcase _ w1 _ ql qr E1 (by omega) (blk_alloc w2 _ _) (g2.trans (gs_of e3)) (hs2.ext e3) (hql.ext e3) (hqr.ext e3) (by omega)⟩
      · have E1 := d.trans e1
        refine ⟨?_⟩
        have e2 := ext_alloc w1 (.cells #[.int .i64 0, .int .i64 0, .int .u64 0] 133)
        have h2 := blk_alloc w1 #[.int .i64 0, .int .i64 0, .int .u64 0] 133
        have s1 := E1.size
        have E2 := E1.trans e2
        refine ⟨gk_of E2, ?_⟩
        refine do_call Tryz.call141 (c_split ho ik (Y.sch _ _ (Y.ext _ _ _ hJ E2)) (hb.ext E2) hu.ok.1 hu.k hB fun ql qr w3 g3 hs3 hql hqr => retS_ret ⟨_, _, _, _, _, _, _, rfl, ?_⟩)
        exact hcase _ _ w3 ql qr E2 s1 (h2.gs g3 (by omega)) g3 hs3 hql hqr (by omega)
    · refine ⟨?_⟩
      have e1 := ext_alloc w.drew (.cells #[.int .i64 0, .int .i64 0, .int .u64 0] 133)
      have h1 := blk_alloc w.drew #[.int .i64 0, .int .i64 0, .int .u64 0] 133
      have s1 := d.size
      have E1 := d.trans e1
      refine ⟨gk_of E1, ?_⟩
      refine do_call Tryz.call131 (c_key (ha.ext E1) fun w2 e2 => retS_ret ⟨_, rfl, gk_of (E1.trans e2), ?_⟩)
      have E2 := E1.trans e2
      refine do_call Tryz.call141 (c_split ho ik (Y.sch _ _ (Y.ext _ _ _ hJ E2)) (hb.ext E2) hu.ok.1 hu.k hB fun ql qr w3 g3 hs3 hql hqr => retS_ret ⟨_, _, _, _, _, _, _, rfl, ?_⟩)
      exact hcase _ _ w3 ql qr E2 s1 ((h1.ext e2).gs g3 (by omega)) g3 hs3 hql hqr (by omega)
end
end Go.Proofs.YtlfjaogbehpleaaGreat

namespace Go.Proofs.YtlfjaogbehpleaaGreat
open Go Go.Sh Go.RowKit

theorem mem_ins {o p k : Int} {l : List It} {z : It} (ho : isO o = true) (hl : InI l) (hz : In z.1) : (∃ x ∈ insL o p l z, x.1 = k) ↔ (∃ x ∈ l, x.1 = k) ∨ z.1 = k := by
  have hy : (insI p z (lastE o z.1 l) (anyE o z.1 l)).1.1 = z.1 := by
    unfold insI
    cases ha : anyE o z.1 l with
    | false => rfl
    | true =>
      have h := lastE_mem ha
      have e : (lastE o z.1 l).1 = z.1 := cmpI_eq ho (hl _ h.1) hz h.2
      exact e
  have e : insL o p l z = ltF o z.1 l ++ [(insI p z (lastE o z.1 l) (anyE o z.1 l)).1] ++ gtF o z.1 l := rfl
  constructor
  · rintro ⟨x, hx, rfl⟩
    rw [e, List.mem_append, List.mem_append, List.mem_singleton] at hx
    rcases hx with (hx | rfl) | hx
    · exact .inl ⟨x, (List.mem_filter.1 hx).1, rfl⟩
    · exact .inr hy.symm
    · exact .inl ⟨x, (List.mem_filter.1 hx).1, rfl⟩
  · have hyy : (insI p z (lastE o z.1 l) (anyE o z.1 l)).1 ∈ insL o p l z := by rw [e]; simp
    rintro (⟨x, hx, rfl⟩ | rfl)
    · rcases Int.lt_trichotomy (cmpI o x.1 z.1) 0 with h | h | h
      · exact ⟨x, by rw [e]; exact List.mem_append_left _ (List.mem_append_left _ (List.mem_filter.2 ⟨hx, decide_eq_true h⟩)), rfl⟩
      · exact ⟨_, hyy, hy.trans (cmpI_eq ho (hl x hx) hz h).symm⟩
      · exact ⟨x, by rw [e]; exact List.mem_append_right _ (List.mem_filter.2 ⟨hx, decide_eq_true h⟩), rfl⟩
    · exact ⟨_, hyy, hy⟩
theorem mem_fold {o p k : Int} (ho : isO o = true) : ∀ {b l : List It}, InI l → InI b → ((∃ x ∈ foldI o p l b, x.1 = k) ↔ (∃ x ∈ l, x.1 = k) ∨ ∃ x ∈ b, x.1 = k)
  | [], l, _, _ => by simp [foldI_nil]
  | z :: b, l, hl, hb => by
    have hz := hb z (by simp)
    have hI : InI (insL o p l z) := fun x hx => by
      rcases (mem_ins (p := p) (k := x.1) ho hl hz).1 ⟨x, hx, rfl⟩ with ⟨y, hy, e⟩ | e
      · rw [← e]; exact hl y hy
      · rw [← e]; exact hz
    rw [foldI_cons, mem_fold ho hI fun x hx => hb x (by simp [hx]), mem_ins ho hl hz]
    constructor
    · rintro ((h | h) | ⟨x, hx, h⟩)
      · exact .inl h
      · exact .inr ⟨z, by simp, h⟩
      · exact .inr ⟨x, by simp [hx], h⟩
    · rintro (h | ⟨x, hx, h⟩)
      · exact .inl (.inl h)
      · rcases List.mem_cons.1 hx with rfl | hx
        · exact .inl (.inr h)
        · exact .inr ⟨x, hx, h⟩
theorem keys_ext {o : Int} {K K' : List Int} (h : K.Pairwise (ltO o)) (h' : K'.Pairwise (ltO o)) (hm : ∀ k, k ∈ K ↔ k ∈ K') : K = K' := by
  have e : ∀ L : List Int, (L.map fun k => ((k, 0) : Pr)).map (·.1) = L := fun L => by
    rw [List.map_map]
    have : L.map ((fun x : Pr => x.1) ∘ fun k => ((k, 0) : Pr)) = L.map id := List.map_congr_left fun x _ => rfl
    rw [this, List.map_id]
  have := pw_ext (r := K.map fun k => ((k, 0) : Pr)) (s := K'.map fun k => ((k, 0) : Pr)) (by rw [e]; exact h) (by rw [e]; exact h') fun x => by
    simp only [List.mem_map]
    constructor
    · rintro ⟨k, hk, rfl⟩; exact ⟨k, (hm k).1 hk, rfl⟩
    · rintro ⟨k, hk, rfl⟩; exact ⟨k, (hm k).2 hk, rfl⟩
  have := congrArg (List.map (·.1)) this
  rwa [e, e] at this
theorem less_mem {a b : List It} {k : Int} : (∃ x ∈ lessL a b, x.1 = k) ↔ (∃ x ∈ a, x.1 = k) ∧ ¬ ∃ x ∈ b, x.1 = k := by
  have hf : ∀ x : It, (findK b x.1).isNone = true ↔ ¬ ∃ y ∈ b, y.1 = x.1 := fun x => by
    rw [← findK_isSome]
    cases findK b x.1 <;> simp
  constructor
  · rintro ⟨x, hx, rfl⟩
    have := List.mem_filter.1 hx
    exact ⟨⟨x, this.1, rfl⟩, (hf x).1 this.2⟩
  · rintro ⟨⟨x, hx, rfl⟩, h⟩
    exact ⟨x, List.mem_filter.2 ⟨hx, (hf x).2 h⟩, rfl⟩
theorem meet_mem {p : Int} {a b : List It} {k : Int} : (∃ x ∈ meetL p a b, x.1 = k) ↔ (∃ x ∈ a, x.1 = k) ∧ ∃ x ∈ b, x.1 = k := by
  constructor
  · rintro ⟨x, hx, rfl⟩
    obtain ⟨y, hy, e⟩ := List.mem_filterMap.1 hx
    unfold meetG at e
    cases hf : findK b y.1 with
    | none => rw [hf] at e; cases e
    | some u =>
      rw [hf] at e
      simp only [Option.map_some, Option.some.injEq] at e
      subst e
      exact ⟨⟨y, hy, rfl⟩, findK_isSome.1 (by rw [hf]; rfl)⟩
  · rintro ⟨⟨x, hx, rfl⟩, h⟩
    have := findK_isSome.2 h
    cases hf : findK b x.1 with
    | none => rw [hf] at this; cases this
    | some u => exact ⟨(x.1, comb p x.2.1 u.2.1, x.2.2), List.mem_filterMap.2 ⟨x, hx, by unfold meetG; rw [hf]; rfl⟩, rfl⟩
/-- a tree of keys: which ones; its values are 0 -/
structure KeyT (c o : Int) (t : Tr) (K : List Int) : Prop where
  ok : OkU c o t
  key : (itsC c t).map (·.1) = K
  val : ∀ x ∈ itsC c t, x.2.1 = 0
  tag : TagI (itsC c t)
theorem KeyT.mem {c o : Int} {t : Tr} {K : List Int} (h : KeyT c o t K) (k : Int) : k ∈ K ↔ ∃ x ∈ itsC c t, x.1 = k := by rw [← h.key, List.mem_map]
theorem KeyT.asc {c o : Int} {t : Tr} {K : List Int} (h : KeyT c o t K) : K.Pairwise (ltO o) := by rw [← h.key]; exact h.ok.asc
theorem KeyT.len {c o : Int} {t : Tr} {K : List Int} (h : KeyT c o t K) : t.size = K.length := by rw [← h.key, List.length_map, itsC_len]
theorem KeyT.prs {c o : Int} {t : Tr} {K : List Int} (h : KeyT c o t K) : t.pairs.map (·.1) = K := by rw [pairs_its, h.key]
theorem KeyT.inI {c o : Int} {t : Tr} {K : List Int} (h : KeyT c o t K) : InI (itsC c t) := (inK_its (c := c)).1 h.ok.k
end Go.Proofs.YtlfjaogbehpleaaGreat

