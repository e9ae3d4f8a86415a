/-
  meet: Meet, Less, Apart, Within.
-/
import Derived.Test.YtbaoihmffobneaaGreatMeet
namespace Go.Proofs.YtbaoihmffobneaaGreat
open Go Go.Sh Go.RowKit

abbrev noneF : Value := .func (.func 66) #[] #[]
abbrev wholeF (b : Nat) : Value := .func (.func 70) #[.pointer (some (blk b))] #[]
abbrev aloneF : Value := .func (.func 71) #[] #[]
abbrev meetF (b6 : Nat) : Value := .func (.func 67) #[] #[.pointer (some (blk b6))]
theorem sideW_none (c : Int) (b : Nat) : SideW c b noneF fun _ => .nil := fun t p w R hs _ _ _ h => by
  refine do_call Tryz.call66 (sh66_ok _ ?_)
  unfold sh66
  exact h _ _ (gs_refl _ _) hs rfl
theorem sideW_whole (c : Int) (b : Nat) : SideW c b (wholeF b) (wholeC c) := fun t p w R hs ht ok hB h =>
  do_callf Tryz.call70 (by rfl) (c_swhole hs ht ok (by omega) h)
theorem itemW_alone (b : Nat) (w0 : World) : ItemW b w0 aloneF aloneI := fun x y is w R _ h => by
  refine do_call Tryz.call71 (sh71_ok _ _ _ _ _ _ _ ?_)
  unfold sh71
  refine ⟨⟨⟨?_⟩⟩⟩
  have e0 := ext_alloc w (.cells #[.int .i64 x.1, .int .i64 x.2.1, .int .u64 x.2.2] 93)
  have hx := blk_alloc w #[.int .i64 x.1, .int .i64 x.2.1, .int .u64 x.2.2] 93
  generalize w.heap.size = b8 at *
  generalize w.alloc (.cells #[.int .i64 x.1, .int .i64 x.2.1, .int .u64 x.2.2] 93) = w1 at *
  have e1 := ext_alloc w1 (.cells #[.int .i64 y.1, .int .i64 y.2.1, .int .u64 y.2.2] 93)
  generalize w1.alloc (.cells #[.int .i64 y.1, .int .i64 y.2.1, .int .u64 y.2.2] 93) = w2 at *
  have e2 := ext_alloc w2 (.cells #[.int .i64 0, .int .i64 0, .int .u64 0] 93)
  have hx3 := hx.ext (e1.trans e2)
  refine ⟨_, hx3.cell (i := 0) (add_blk _ _) rfl, _, hx3.cell (i := 1) (add_blk _ _) rfl, _, hx3.cell (i := 2) (add_blk _ _) rfl, ?_⟩
  refine do_st3 (blk_alloc w2 _ _) fun w4 h4 g4 => ?_
  have e4 : Ext w2 w4 := e2.st g4 (Nat.le_refl _)
  exact ⟨_, h4.cell (i := 0) (add_blk _ _) rfl, _, h4.cell (i := 1) (add_blk _ _) rfl, _, h4.cell (i := 2) (add_blk _ _) rfl, h _ ((e0.trans e1).trans e4)⟩
theorem itemW_meet {b b6 : Nat} {p : Int} {w0 : World} (hp : may p = true) (hb : Blk w0 b6 #[.int .u8 p] 5) (hne : b6 ≠ b) : ItemW b w0 (meetF b6) (meetI p) := fun x y is w R g h => by
  refine do_callc Tryz.call67 (by rfl) (sh67_ok _ _ _ _ _ _ _ _ ?_)
  unfold sh67
  have hb := hb.gs g hne
  refine ⟨⟨⟨?_⟩⟩⟩
  have e0 := ext_alloc w (.cells #[.int .i64 x.1, .int .i64 x.2.1, .int .u64 x.2.2] 93)
  have hx := blk_alloc w #[.int .i64 x.1, .int .i64 x.2.1, .int .u64 x.2.2] 93
  generalize hb9 : w.heap.size = b9 at *
  generalize w.alloc (.cells #[.int .i64 x.1, .int .i64 x.2.1, .int .u64 x.2.2] 93) = w1 at *
  have e1 := ext_alloc w1 (.cells #[.int .i64 y.1, .int .i64 y.2.1, .int .u64 y.2.2] 93)
  have hy := blk_alloc w1 #[.int .i64 y.1, .int .i64 y.2.1, .int .u64 y.2.2] 93
  generalize w1.heap.size = b11 at *
  generalize w1.alloc (.cells #[.int .i64 y.1, .int .i64 y.2.1, .int .u64 y.2.2] 93) = w2 at *
  have e2 := ext_alloc w2 (.cells #[.int .i64 0, .int .i64 0, .int .u64 0] 93)
  have hz := blk_alloc w2 #[.int .i64 0, .int .i64 0, .int .u64 0] 93
  have hx2 := hx.ext e1
  have h9 : b9 < w2.heap.size := hx2.lt
  generalize hb13 : w2.heap.size = b13 at *
  generalize w2.alloc (.cells #[.int .i64 0, .int .i64 0, .int .u64 0] 93) = w3 at *
  have E3 := (e0.trans e1).trans e2
  refine ⟨_, (hb.ext E3).cell (i := 0) rfl rfl, _, (hx2.ext e2).cell (i := 1) (add_blk _ _) rfl, _, (hy.ext e2).cell (i := 1) (add_blk _ _) rfl, ?_⟩
  refine do_call Tryz.call68 (c_comb fun w4 e4 => retS_ret ⟨_, _, rfl, ?_⟩)
  rw [hp]
  refine do_st ((hx2.ext e2).ext e4) (i := 1) (by rw [add_zero']; exact add_blk _ _) (by simp) fun w5 h5 g5 => ?_
  have h5 : Blk w5 b9 #[.int .i64 x.1, .int .i64 (comb p x.2.1 y.2.1), .int .u64 x.2.2] 93 := h5
  refine ⟨_, h5.cell (i := 0) (add_blk _ _) rfl, _, h5.cell (i := 1) (add_blk _ _) rfl, _, h5.cell (i := 2) (add_blk _ _) rfl, ?_⟩
  refine do_st3 ((hz.ext e4).grown g5 (ne_some (by omega))) fun w6 h6 g6 => ?_
  exact ⟨_, h6.cell (i := 0) (add_blk _ _) rfl, _, h6.cell (i := 1) (add_blk _ _) rfl, _, h6.cell (i := 2) (add_blk _ _) rfl, h _ (((E3.trans e4).st g5 (by omega)).st g6 (by omega))⟩
set_option maxRecDepth 20000 in
set_option maxHeartbeats 1600000 in
theorem c_goes {c o : Int} {b : Nat} {A1 A2 A3 : Fn} {X1 X2 X3 C1 C2 C3 : Array Value} {f1 f2 : Tr → Tr} {it : It → It → Bool → It × Bool} (ho : isO o = true) (s1 : Side c f1) (s2 : Side c f2) {w : World}
    (H1 : SideW c b (.func A1 X1 C1) f1) (H2 : SideW c b (.func A2 X2 C2) f2) (H3 : ItemW b w (.func A3 X3 C3) it) {a u : Tr} {pa pb : Option Addr} {R : Ending → World → Prop} (hs : IsSch c b w) (ha : IsN w pa a) (hu : IsN w pb u) (oa : OkU c o a) (ou : OkU c o u) (hB : a.size + u.size + 10 ≤ BIG)
    (h : ∀ q w', Gs b w w' → IsSch c b w' → IsN w' q (goC c o f1 f2 it a u) → R (.returned (.tuple #[.pointer q, .int .i64 0])) w') :
    Calls Tryz.prog 69 #[.agg #[.func A1 X1 C1, .func A2 X2 C2, .func A3 X3 C3], .pointer (some (blk b)), .int .u8 o, .pointer pa, .pointer pb] w R := by
  refine sh69_ok _ _ _ _ _ _ _ _ _ _ _ _ _ ?_
  unfold sh69
  refine ⟨⟨⟨?_⟩⟩⟩
  have hlt := hs.lt
  have e0 := ext_alloc w (.cells #[.func A1 X1 C1, .func A2 X2 C2, .func A3 X3 C3] 104)
  have h14 := blk_alloc w #[.func A1 X1 C1, .func A2 X2 C2, .func A3 X3 C3] 104
  have n14 : w.heap.size ≠ b := by omega
  have k14 : w.heap.size ≤ w.heap.size := Nat.le_refl _
  generalize hb14 : w.heap.size = b14 at h14 n14 k14 ⊢
  generalize w.alloc (.cells #[.func A1 X1 C1, .func A2 X2 C2, .func A3 X3 C3] 104) = w1 at *
  have l1 := h14.lt
  have e1 := ext_alloc w1 (.cells #[.pointer (some (blk b))] 23)
  have h16 := blk_alloc w1 #[.pointer (some (blk b))] 23
  have n16 : w1.heap.size ≠ b := by omega
  generalize w1.heap.size = b16 at *
  generalize w1.alloc (.cells #[.pointer (some (blk b))] 23) = w2 at *
  have l2 := (h14.ext e1).lt
  have e2 := ext_alloc w2 (.cells #[.int .u8 o] 5)
  have h18 := blk_alloc w2 #[.int .u8 o] 5
  have n18 : w2.heap.size ≠ b := by omega
  generalize w2.heap.size = b18 at *
  generalize w2.alloc (.cells #[.int .u8 o] 5) = w3 at *
  have E3 := (e0.trans e1).trans e2
  refine ⟨_, (h16.ext e2).cell (i := 0) rfl rfl, _, h18.cell (i := 0) rfl rfl, ?_⟩
  have hs3 := hs.ext E3
  refine do_call Tryz.call105 (c_split ho ⟨by decide, by decide⟩ hs3 (t := .nil) rfl (OkM.nil hs.1).1 trivial (by decide) fun ql qr w4 g4 hs4 _ _ => retS_ret ⟨_, _, _, _, _, _, _, rfl, ⟨?_⟩⟩)
  refine do_st3 (blk_alloc w4 _ _) fun w5 h5 g5 => ?_
  have e5 : Ext w4 w5 := (ext_alloc w4 _).st g5 (Nat.le_refl _)
  have G5 := g4.trans (gs_of (b := b) e5)
  have hs5 := hs4.ext e5
  refine ifB_f rfl ⟨?_⟩
  have n36 : w5.heap.size ≠ b := by have := hs5.lt; omega
  refine do_st (blk_alloc w5 _ _) (i := 0) (add_blk _ _) (by simp) fun w6 h36 g6 => ?_
  have e6 : Ext w5 w6 := (ext_alloc w5 _).st g6 (Nat.le_refl _)
  have G6 := G5.trans (gs_of (b := b) e6)
  refine ⟨_, _, _, h36.cell (i := 0) rfl rfl, ?_⟩
  have caps : CapsM w6 b14 b16 b18 w5.heap.size b o (.func A1 X1 C1) (.func A2 X2 C2) (.func A3 X3 C3) 185 :=
    ⟨(h14.ext (e1.trans e2)).gs G6 n14, (h16.ext e2).gs G6 n16, h18.gs G6 n18, h36, n14, n16, n18, n36⟩
  have GW := (gs_of (b := b) E3).trans G6
  exact c_onM ho s1 s2 H1 H2 H3 a GW caps (hs5.ext e6) (ha.gs hs GW) (hu.gs hs GW) oa.ok.1 ou.ok oa.k ou.k ou.asc hB fun q w7 g7 hs7 h7 => retS_ret ⟨_, rfl, h _ _ (GW.trans g7) hs7 h7⟩
theorem c_goes_no {o : Int} {A1 A2 A3 : Fn} {X1 X2 X3 C1 C2 C3 : Array Value} {sp pa pb : Option Addr} {w : World} {R : Ending → World → Prop} (hno : sp = none ∨ isO o = false) (h : ∀ w', Ext w w' → R (.returned (.tuple #[.pointer none, .int .i64 2])) w') :
    Calls Tryz.prog 69 #[.agg #[.func A1 X1 C1, .func A2 X2 C2, .func A3 X3 C3], .pointer sp, .int .u8 o, .pointer pa, .pointer pb] w R := by
  refine sh69_ok _ _ _ _ _ _ _ _ _ _ _ _ _ ?_
  unfold sh69
  refine ⟨⟨⟨?_⟩⟩⟩
  have e0 := ext_alloc w (.cells #[.func A1 X1 C1, .func A2 X2 C2, .func A3 X3 C3] 104)
  generalize w.alloc (.cells #[.func A1 X1 C1, .func A2 X2 C2, .func A3 X3 C3] 104) = w1 at *
  have e1 := ext_alloc w1 (.cells #[.pointer sp] 23)
  have h16 := blk_alloc w1 #[.pointer sp] 23
  generalize w1.heap.size = b16 at *
  generalize w1.alloc (.cells #[.pointer sp] 23) = w2 at *
  have e2 := ext_alloc w2 (.cells #[.int .u8 o] 5)
  have h18 := blk_alloc w2 #[.int .u8 o] 5
  generalize w2.heap.size = b18 at *
  generalize w2.alloc (.cells #[.int .u8 o] 5) = w3 at *
  have E3 := (e0.trans e1).trans e2
  refine ⟨_, (h16.ext e2).cell (i := 0) rfl rfl, _, h18.cell (i := 0) rfl rfl, ?_⟩
  refine do_call Tryz.call105 (c_split_no ⟨by decide, by decide⟩ hno fun w4 e4 => retS_ret ⟨_, _, _, _, _, _, _, rfl, ⟨?_⟩⟩)
  refine do_st3 (blk_alloc w4 _ _) fun w5 h5 g5 => ?_
  have e5 : Ext w4 w5 := (ext_alloc w4 _).st g5 (Nat.le_refl _)
  exact ifB_t rfl (h _ ((E3.trans e4).trans e5))
section
variable {c o : Int} {b : Nat} {a u : Tr} {pa pb : Option Addr} {w : World} {R : Ending → World → Prop}
theorem c_less (ho : isO o = true) (hs : IsSch c b w) (ha : IsN w pa a) (hu : IsN w pb u) (oa : OkU c o a) (ou : OkU c o u) (hB : a.size + u.size + 10 ≤ BIG)
    (h : ∀ q w', Gs b w w' → IsSch c b w' → IsN w' q (lessC c o a u) → R (.returned (.tuple #[.pointer q, .int .i64 0])) w') : Calls Tryz.prog 18 #[.pointer (some (blk b)), .int .u8 o, .pointer pa, .pointer pb] w R := by
  refine sh18_ok _ _ _ _ ?_
  unfold sh18
  exact do_call Tryz.call69 (c_goes ho (side_whole c) (side_none hs.1) (sideW_whole c b) (sideW_none c b) (itemW_alone b w) hs ha hu oa ou hB fun q w1 g1 hs1 h1 => retS_ret ⟨_, _, rfl, h _ _ g1 hs1 h1⟩)
theorem c_less_no {sp : Option Addr} (hno : sp = none ∨ isO o = false) (h : ∀ w', Ext w w' → R (.returned (.tuple #[.pointer none, .int .i64 2])) w') : Calls Tryz.prog 18 #[.pointer sp, .int .u8 o, .pointer pa, .pointer pb] w R := by
  refine sh18_ok _ _ _ _ ?_
  unfold sh18
  exact do_call Tryz.call69 (c_goes_no hno fun w1 e1 => retS_ret ⟨_, _, rfl, h _ e1⟩)
theorem c_apart (ho : isO o = true) (hs : IsSch c b w) (ha : IsN w pa a) (hu : IsN w pb u) (oa : OkU c o a) (ou : OkU c o u) (hB : a.size + u.size + 10 ≤ BIG)
    (h : ∀ q w', Gs b w w' → IsSch c b w' → IsN w' q (apartC c o a u) → R (.returned (.tuple #[.pointer q, .int .i64 0])) w') : Calls Tryz.prog 19 #[.pointer (some (blk b)), .int .u8 o, .pointer pa, .pointer pb] w R := by
  refine sh19_ok _ _ _ _ ?_
  unfold sh19
  exact do_call Tryz.call69 (c_goes ho (side_whole c) (side_whole c) (sideW_whole c b) (sideW_whole c b) (itemW_alone b w) hs ha hu oa ou hB fun q w1 g1 hs1 h1 => retS_ret ⟨_, _, rfl, h _ _ g1 hs1 h1⟩)
theorem c_apart_no {sp : Option Addr} (hno : sp = none ∨ isO o = false) (h : ∀ w', Ext w w' → R (.returned (.tuple #[.pointer none, .int .i64 2])) w') : Calls Tryz.prog 19 #[.pointer sp, .int .u8 o, .pointer pa, .pointer pb] w R := by
  refine sh19_ok _ _ _ _ ?_
  unfold sh19
  exact do_call Tryz.call69 (c_goes_no hno fun w1 e1 => retS_ret ⟨_, _, rfl, h _ e1⟩)
theorem c_mwithin (ho : isO o = true) (hs : IsSch c b w) (ha : IsN w pa a) (hu : IsN w pb u) (oa : OkU c o a) (ou : OkU c o u) (hB : a.size + u.size + 10 ≤ BIG)
    (h : ∀ w', Gs b w w' → IsSch c b w' → R (.returned (.tuple #[.bool (!(lessC c o a u).nn), .int .i64 0])) w') : Calls Tryz.prog 20 #[.pointer (some (blk b)), .int .u8 o, .pointer pa, .pointer pb] w R := by
  refine sh20_ok _ _ _ _ ?_
  unfold sh20
  refine do_call Tryz.call18 (c_less ho hs ha hu oa ou hB fun q w1 g1 hs1 h1 => retS_ret ⟨_, _, rfl, ?_⟩)
  intro K11
  refine ifB_t rfl ?_
  simp -zeta -zetaHave only [K11]
  rw [h1.isNone]
  exact h _ g1 hs1
theorem c_mwithin_no {sp : Option Addr} (hno : sp = none ∨ isO o = false) (h : ∀ w', Ext w w' → R (.returned (.tuple #[.bool false, .int .i64 2])) w') : Calls Tryz.prog 20 #[.pointer sp, .int .u8 o, .pointer pa, .pointer pb] w R := by
  refine sh20_ok _ _ _ _ ?_
  unfold sh20
  refine do_call Tryz.call18 (c_less_no hno fun w1 e1 => retS_ret ⟨_, _, rfl, ?_⟩)
  intro K11
  exact ifB_f rfl (h _ e1)
theorem c_meet {p : Int} (ho : isO o = true) (hp : may p = true) (hs : IsSch c b w) (ha : IsN w pa a) (hu : IsN w pb u) (oa : OkU c o a) (ou : OkU c o u) (hB : a.size + u.size + 10 ≤ BIG)
    (h : ∀ q w', Gs b w w' → IsSch c b w' → IsN w' q (meetC c o p a u) → R (.returned (.tuple #[.pointer q, .int .i64 0])) w') : Calls Tryz.prog 17 #[.pointer (some (blk b)), .int .u8 o, .int .u8 p, .pointer pa, .pointer pb] w R := by
  refine sh17_ok _ _ _ _ _ ?_
  unfold sh17
  refine ⟨?_⟩
  have e0 := ext_alloc w (.cells #[.int .u8 p] 5)
  have h6 := blk_alloc w #[.int .u8 p] 5
  have n6 : w.heap.size ≠ b := by have := hs.lt; omega
  generalize w.heap.size = b6 at *
  generalize w.alloc (.cells #[.int .u8 p] 5) = w1 at *
  refine ⟨_, h6.cell (i := 0) rfl rfl, ?_⟩
  refine do_call Tryz.call65 (c_fmay fun w2 e2 => retS_ret ⟨_, rfl, ?_⟩)
  rw [hp]
  have E2 := e0.trans e2
  exact ifB_f rfl (do_call Tryz.call69 (c_goes ho (side_none hs.1) (side_none hs.1) (sideW_none c b) (sideW_none c b) (itemW_meet hp (h6.ext e2) n6) (hs.ext E2) (ha.ext E2) (hu.ext E2) oa ou hB fun q w3 g3 hs3 h3 => retS_ret ⟨_, _, rfl, h _ _ ((gs_of E2).trans g3) hs3 h3⟩))
theorem c_meet_no {p : Int} {sp : Option Addr} (hno : may p = false ∨ sp = none ∨ isO o = false) (h : ∀ w', Ext w w' → R (.returned (.tuple #[.pointer none, .int .i64 2])) w') : Calls Tryz.prog 17 #[.pointer sp, .int .u8 o, .int .u8 p, .pointer pa, .pointer pb] w R := by
  refine sh17_ok _ _ _ _ _ ?_
  unfold sh17
  refine ⟨?_⟩
  have e0 := ext_alloc w (.cells #[.int .u8 p] 5)
  have h6 := blk_alloc w #[.int .u8 p] 5
  generalize w.heap.size = b6 at *
  generalize w.alloc (.cells #[.int .u8 p] 5) = w1 at *
  refine ⟨_, h6.cell (i := 0) rfl rfl, ?_⟩
  refine do_call Tryz.call65 (c_fmay fun w2 e2 => retS_ret ⟨_, rfl, ?_⟩)
  have E2 := e0.trans e2
  cases hp : may p with
  | false => exact ifB_t rfl (h _ E2)
  | true =>
    have hno : sp = none ∨ isO o = false := by rcases hno with hno | hno; (rw [hp] at hno; cases hno); exact hno
    exact ifB_f rfl (do_call Tryz.call69 (c_goes_no hno fun w3 e3 => retS_ret ⟨_, _, rfl, h _ (E2.trans e3)⟩))
end
end Go.Proofs.YtbaoihmffobneaaGreat
