/-
  scheme: face, Join, Whole, Item, Of.
-/
/-
  scheme: Join, Whole, Item, Of.
-/
/-
  split, cut: what is parted, and joined again.
-/
/-
  split: Split, Ahead, Behind; cut: Last, Join2.
-/
import Derived.Test.YtlddfgfmkapoiaaGreatZ16

namespace Go.Proofs.YtlddfgfmkapoiaaGreat
open Go Go.Sh Go.RowKit

theorem blk_set {w : World} {b : Nat} {cs : Array Value} {t : TypeId} (h : Blk w b cs t) (i : Nat) (v : Value) : Blk (w.setCell ⟨b, i, none⟩ v) b (cs.setIfInBounds i v) t := heap_setCell_same w b i cs t v h
theorem grown_set (w : World) (b i : Nat) (v : Value) : w.grownBy (w.setCell ⟨b, i, none⟩ v) (some b) := ⟨rfl, rfl, rfl, by simp, fun k _ hk => heap_setCell_other w ⟨b, i, none⟩ k v (fun e => hk (by simp [e]))⟩
/-- the faces laid into a scheme -/
theorem do_lay8 {w : World} {b : Nat} {c m j : Int} (h : Blk w b (schFresh c m j) schT) {K : World → Prop} (k : ∀ w', Blk w' b (schDone c 0 m j) schT → w.grownBy w' (some b) → K w') :
    doSt (((blk b).add 4).add 0) (.string (nameC c)) w fun w1 => doSt (((blk b).add 4).add 1) (.func (.func (jF c)) (jX c) #[]) w1 fun w2 => doSt (((blk b).add 4).add 2) (.func (.func (wF c)) #[] #[]) w2 fun w3 => doSt (((blk b).add 4).add 3) (.func (.func (kF c)) #[] #[]) w3 fun w4 => doSt (((blk b).add 4).add 4) (.func (.func (pF c)) #[] #[]) w4 fun w5 => doSt (((blk b).add 4).add 5) (.func (.func (rF c)) (rX c) #[]) w5 fun w6 => doSt (((blk b).add 4).add 6) (.func (.func (mF c)) #[] #[]) w6 fun w7 => doSt (((blk b).add 4).add 7) (.bool (tgC c)) w7 K := by

  refine do_st h (i := 4) (by rw [Sh.add_add, add_blk]) (by simp) fun w1 h1 g1 => ?_
  have k1 : Blk w1 b #[.int .u8 c, .int .u32 0, .int .i32 m, .int .u32 0, .string (nameC c), .nilFunc, .nilFunc, .nilFunc, .nilFunc, .nilFunc, .nilFunc, .bool false, .int .u64 j] schT := h1
  clear h1
  refine do_st k1 (i := 5) (by rw [Sh.add_add, add_blk]) (by simp) fun w2 h2 g2 => ?_
  have k2 : Blk w2 b #[.int .u8 c, .int .u32 0, .int .i32 m, .int .u32 0, .string (nameC c), .func (.func (jF c)) (jX c) #[], .nilFunc, .nilFunc, .nilFunc, .nilFunc, .nilFunc, .bool false, .int .u64 j] schT := h2
  clear h2
  refine do_st k2 (i := 6) (by rw [Sh.add_add, add_blk]) (by simp) fun w3 h3 g3 => ?_
  have k3 : Blk w3 b #[.int .u8 c, .int .u32 0, .int .i32 m, .int .u32 0, .string (nameC c), .func (.func (jF c)) (jX c) #[], .func (.func (wF c)) #[] #[], .nilFunc, .nilFunc, .nilFunc, .nilFunc, .bool false, .int .u64 j] schT := h3
  clear h3
  refine do_st k3 (i := 7) (by rw [Sh.add_add, add_blk]) (by simp) fun w4 h4 g4 => ?_
  have k4 : Blk w4 b #[.int .u8 c, .int .u32 0, .int .i32 m, .int .u32 0, .string (nameC c), .func (.func (jF c)) (jX c) #[], .func (.func (wF c)) #[] #[], .func (.func (kF c)) #[] #[], .nilFunc, .nilFunc, .nilFunc, .bool false, .int .u64 j] schT := h4
  clear h4
  refine do_st k4 (i := 8) (by rw [Sh.add_add, add_blk]) (by simp) fun w5 h5 g5 => ?_
  have k5 : Blk w5 b #[.int .u8 c, .int .u32 0, .int .i32 m, .int .u32 0, .string (nameC c), .func (.func (jF c)) (jX c) #[], .func (.func (wF c)) #[] #[], .func (.func (kF c)) #[] #[], .func (.func (pF c)) #[] #[], .nilFunc, .nilFunc, .bool false, .int .u64 j] schT := h5
  clear h5
  refine do_st k5 (i := 9) (by rw [Sh.add_add, add_blk]) (by simp) fun w6 h6 g6 => ?_
  have k6 : Blk w6 b #[.int .u8 c, .int .u32 0, .int .i32 m, .int .u32 0, .string (nameC c), .func (.func (jF c)) (jX c) #[], .func (.func (wF c)) #[] #[], .func (.func (kF c)) #[] #[], .func (.func (pF c)) #[] #[], .func (.func (rF c)) (rX c) #[], .nilFunc, .bool false, .int .u64 j] schT := h6
  clear h6
  refine do_st k6 (i := 10) (by rw [Sh.add_add, add_blk]) (by simp) fun w7 h7 g7 => ?_
  have k7 : Blk w7 b #[.int .u8 c, .int .u32 0, .int .i32 m, .int .u32 0, .string (nameC c), .func (.func (jF c)) (jX c) #[], .func (.func (wF c)) #[] #[], .func (.func (kF c)) #[] #[], .func (.func (pF c)) #[] #[], .func (.func (rF c)) (rX c) #[], .func (.func (mF c)) #[] #[], .bool false, .int .u64 j] schT := h7
  clear h7
  refine do_st k7 (i := 11) (by rw [Sh.add_add, add_blk]) (by simp) fun w8 h8 g8 => ?_
  have k8 : Blk w8 b #[.int .u8 c, .int .u32 0, .int .i32 m, .int .u32 0, .string (nameC c), .func (.func (jF c)) (jX c) #[], .func (.func (wF c)) #[] #[], .func (.func (kF c)) #[] #[], .func (.func (pF c)) #[] #[], .func (.func (rF c)) (rX c) #[], .func (.func (mF c)) #[] #[], .bool (tgC c), .int .u64 j] schT := h8
  clear h8
  exact k _ k8 (grown_trans (grown_trans (grown_trans (grown_trans (grown_trans (grown_trans (grown_trans g1 g2) g3) g4) g5) g6) g7) g8)
set_option maxRecDepth 20000 in
theorem c_face1 {c m j : Int} (hc : isS c = true) {b bp : Nat} {w : World} (hb : Blk w b (schFresh c m j) schT) (hp : Blk w bp #[.pointer (some (blk b))] 25) :
    Calls Tryz.prog 245 #[.pointer (some (blk bp))] w fun e w2 => e = .returned (.tuple #[]) ∧ (Blk w2 b (schDone c 0 m j) schT ∧ w.grownBy w2 (some b)) := by
  refine sh245_ok _ ?_
  unfold sh245
  have d := ext_drew w
  refine ⟨⟨fun w' => Ext w w', d, _, fun w' e => (hp.ext e).cell (i := 0) rfl rfl, _, fun w' e => (hp.ext e).cell (i := 0) rfl rfl, _, rfl, _, fun w' e => (hb.ext e).cell (i := 0) (add_blk _ _) rfl, ?_⟩⟩
  refine do_call Tryz.call167 (c_of82 (retS_ret ⟨_, rfl, d, ?_⟩))
  rw [hc, if_pos rfl]
  refine do_faces hc fun w1 e1 => retS_ret ⟨_, _, _, _, _, _, _, _, _, _, _, _, _, _, _, _, _, _, _, _, rfl, d.trans e1, _, rfl, ?_⟩
  have E := d.trans e1
  exact do_lay8 (hb.ext E) fun w2 h2 g2 => ⟨rfl, h2, grown_trans (gs_of E) g2⟩
set_option maxRecDepth 20000 in
theorem c_face {c : Int} {b : Nat} {w : World} {R : Ending → World → Prop} (hs : IsSch c b w) (h : ∀ w', Gs b w w' → IsSch c b w' → R (.returned (.agg (facesC c))) w') : Calls Tryz.prog 188 #[.pointer (some (blk b))] w R := by
  refine sh188_ok _ ?_
  unfold sh188
  refine ⟨⟨?_⟩⟩
  have e0 := ext_alloc w (.cells #[.pointer (some (blk b))] 25)
  have hp0 := blk_alloc w #[.pointer (some (blk b))] 25
  generalize hbp : w.heap.size = bp at *
  generalize w.alloc (.cells #[.pointer (some (blk b))] 25) = w1 at *
  have e1 := ext_alloc w1 (.cells #[.string (⟨#[]⟩ : ByteArray), .nilFunc, .nilFunc, .nilFunc, .nilFunc, .nilFunc, .nilFunc, .bool false] 226)
  have hf := blk_alloc w1 #[.string (⟨#[]⟩ : ByteArray), .nilFunc, .nilFunc, .nilFunc, .nilFunc, .nilFunc, .nilFunc, .bool false] 226
  generalize hbf : w1.heap.size = bf at *
  generalize w1.alloc (.cells #[.string (⟨#[]⟩ : ByteArray), .nilFunc, .nilFunc, .nilFunc, .nilFunc, .nilFunc, .nilFunc, .bool false] 226) = w2 at *
  have hp2 := hp0.ext e1
  have E2 := e0.trans e1
  have hs2 := hs.ext E2
  have hlt := hs.lt
  have hbpf : w1.heap.size > bp := hp0.lt
  have nbp : some bp ≠ some b := ne_some (by omega)
  have nbf : some bf ≠ some b := ne_some (by omega)
  refine ⟨_, hp2.cell (i := 0) rfl rfl, _, rfl, ?_⟩
  rw [add_blk]
  -- behind Do
  have fin : ∀ w3 j, Blk w3 b (schDone c 1 0 j) schT → w2.grownBy w3 (some b) →
      (∃ (x10 : Option Addr), World.cell? w3 (blk bp) = some (.pointer x10) ∧ (
       ∃ (q11 : Addr), x10 = some q11 ∧ (
       ∃ (x12 : ByteArray), World.cell? w3 ((q11.add 4).add 0) = some (.string x12) ∧ (
       ∃ (xf13 : Fn), ∃ (xx14 : Array Value), ∃ (xc15 : Array Value), World.cell? w3 ((q11.add 4).add 1) = some (.func xf13 xx14 xc15) ∧ (
       ∃ (xf16 : Fn), ∃ (xx17 : Array Value), ∃ (xc18 : Array Value), World.cell? w3 ((q11.add 4).add 2) = some (.func xf16 xx17 xc18) ∧ (
       ∃ (xf19 : Fn), ∃ (xx20 : Array Value), ∃ (xc21 : Array Value), World.cell? w3 ((q11.add 4).add 3) = some (.func xf19 xx20 xc21) ∧ (
       ∃ (xf22 : Fn), ∃ (xx23 : Array Value), ∃ (xc24 : Array Value), World.cell? w3 ((q11.add 4).add 4) = some (.func xf22 xx23 xc24) ∧ (
       ∃ (xf25 : Fn), ∃ (xx26 : Array Value), ∃ (xc27 : Array Value), World.cell? w3 ((q11.add 4).add 5) = some (.func xf25 xx26 xc27) ∧ (
       ∃ (xf28 : Fn), ∃ (xx29 : Array Value), ∃ (xc30 : Array Value), World.cell? w3 ((q11.add 4).add 6) = some (.func xf28 xx29 xc30) ∧ (
       ∃ (x31 : Bool), World.cell? w3 ((q11.add 4).add 7) = some (.bool x31) ∧ (
       doSt ((blk bf).add 0) (.string x12) w3 (fun w32 =>
       doSt ((blk bf).add 1) (.func xf13 xx14 xc15) w32 (fun w33 =>
       doSt ((blk bf).add 2) (.func xf16 xx17 xc18) w33 (fun w34 =>
       doSt ((blk bf).add 3) (.func xf19 xx20 xc21) w34 (fun w35 =>
       doSt ((blk bf).add 4) (.func xf22 xx23 xc24) w35 (fun w36 =>
       doSt ((blk bf).add 5) (.func xf25 xx26 xc27) w36 (fun w37 =>
       doSt ((blk bf).add 6) (.func xf28 xx29 xc30) w37 (fun w38 =>
       doSt ((blk bf).add 7) (.bool x31) w38 (fun w39 =>
       ∃ (x40 : ByteArray), World.cell? w39 ((blk bf).add 0) = some (.string x40) ∧ (
       ∃ (xf41 : Fn), ∃ (xx42 : Array Value), ∃ (xc43 : Array Value), World.cell? w39 ((blk bf).add 1) = some (.func xf41 xx42 xc43) ∧ (
       ∃ (xf44 : Fn), ∃ (xx45 : Array Value), ∃ (xc46 : Array Value), World.cell? w39 ((blk bf).add 2) = some (.func xf44 xx45 xc46) ∧ (
       ∃ (xf47 : Fn), ∃ (xx48 : Array Value), ∃ (xc49 : Array Value), World.cell? w39 ((blk bf).add 3) = some (.func xf47 xx48 xc49) ∧ (
       ∃ (xf50 : Fn), ∃ (xx51 : Array Value), ∃ (xc52 : Array Value), World.cell? w39 ((blk bf).add 4) = some (.func xf50 xx51 xc52) ∧ (
       ∃ (xf53 : Fn), ∃ (xx54 : Array Value), ∃ (xc55 : Array Value), World.cell? w39 ((blk bf).add 5) = some (.func xf53 xx54 xc55) ∧ (
       ∃ (xf56 : Fn), ∃ (xx57 : Array Value), ∃ (xc58 : Array Value), World.cell? w39 ((blk bf).add 6) = some (.func xf56 xx57 xc58) ∧ (
       ∃ (x59 : Bool), World.cell? w39 ((blk bf).add 7) = some (.bool x59) ∧ (
       R (.returned (.agg #[.string x40, .func xf41 xx42 xc43, .func xf44 xx45 xc46, .func xf47 xx48 xc49, .func xf50 xx51 xc52, .func xf53 xx54 xc55, .func xf56 xx57 xc58, .bool x59])) w39))))))))))))))))))))))))))) := by
    intro w3 j h3 g3
    have hp3 := hp2.grown g3 nbp
    have hf3 := hf.grown g3 nbf
    refine ⟨_, hp3.cell (i := 0) rfl rfl, _, rfl, _, h3.cell (i := 4) (by rw [Sh.add_add, add_blk]) rfl, _, _, _, h3.cell (i := 5) (by rw [Sh.add_add, add_blk]) rfl, _, _, _, h3.cell (i := 6) (by rw [Sh.add_add, add_blk]) rfl, _, _, _, h3.cell (i := 7) (by rw [Sh.add_add, add_blk]) rfl, _, _, _, h3.cell (i := 8) (by rw [Sh.add_add, add_blk]) rfl, _, _, _, h3.cell (i := 9) (by rw [Sh.add_add, add_blk]) rfl, _, _, _, h3.cell (i := 10) (by rw [Sh.add_add, add_blk]) rfl, _, h3.cell (i := 11) (by rw [Sh.add_add, add_blk]) rfl, ?_⟩
    refine do_st8 hf3 fun w4 h4 g4 => ?_
    refine ⟨_, h4.cell (i := 0) (add_blk _ _) rfl, _, _, _, h4.cell (i := 1) (add_blk _ _) rfl, _, _, _, h4.cell (i := 2) (add_blk _ _) rfl, _, _, _, h4.cell (i := 3) (add_blk _ _) rfl, _, _, _, h4.cell (i := 4) (add_blk _ _) rfl, _, _, _, h4.cell (i := 5) (add_blk _ _) rfl, _, _, _, h4.cell (i := 6) (add_blk _ _) rfl, _, h4.cell (i := 7) (add_blk _ _) rfl, ?_⟩
    refine h _ ?_ ⟨hs.1, .inr ⟨j, h3.grown g4 (ne_some (by omega))⟩⟩
    -- what was there before is as it was, but for the scheme
    have g23 : w.grownBy w3 (some b) := grown_trans (gs_of E2) g3
    refine ⟨g4.os.trans g23.os, g4.tape.trans g23.tape, g4.output.trans g23.output, Nat.le_trans (World.grownBy.size g23) (World.grownBy.size g4), fun k hk hne => ?_⟩
    rw [g4.block k (Nat.lt_of_lt_of_le hk (World.grownBy.size g23)) (ne_some (by omega)), g23.block k hk hne]
  rcases hs2 with ⟨hss, ⟨j, hb⟩ | ⟨j, hb⟩⟩
  · have hl := blk_set hb 2 (.int .i32 1)
    have hl : Blk (w2.setCell ⟨b, 2, none⟩ (.int .i32 1)) b (schFresh c 1 j) schT := hl
    have gl := grown_set w2 b 2 (.int .i32 1)
    have hfirst := o_first b 1 (blk bp) w2 (fun w3 => Blk w3 b (schDone c 0 1 j) schT ∧ (w2.setCell ⟨b, 2, none⟩ (.int .i32 1)).grownBy w3 (some b)) (hb.cell (i := 1) rfl rfl) (hb.cell (i := 2) rfl rfl) (hb.frozen (i := 1) rfl) (hb.frozen (i := 2) rfl)
      (c_face1 hs.1 hl (hp2.grown gl nbp)) (fun w3 h3 => ⟨h3.1.cell (i := 1) rfl rfl, h3.1.cell (i := 2) rfl rfl, h3.1.frozen (i := 1) rfl, h3.1.frozen (i := 2) rfl⟩)
    refine do_call Tryz.call244 (hfirst.mono ?_)
    rintro e w' ⟨rfl, w3, ⟨h3, g3⟩, rfl⟩
    refine ⟨rfl, ?_⟩
    have h4 : Blk w3.drew b (schDone c 0 1 j) schT := h3
    have h5 : Blk (w3.drew.setCell ⟨b, 1, none⟩ (.int .u32 1)) b (schDone c 1 1 j) schT := blk_set h4 1 _
    have h6 : Blk ((w3.drew.setCell ⟨b, 1, none⟩ (.int .u32 1)).setCell ⟨b, 2, none⟩ (.int .i32 0)) b (schDone c 1 0 j) schT := blk_set h5 2 _
    exact fin _ j h6 (grown_trans (grown_trans (grown_trans (grown_trans gl g3) (grown_drew _ _)) (grown_set _ _ _ _)) (grown_set _ _ _ _))
  · refine do_call Tryz.call244 ((o_done ⟨b, 1, none⟩ _ w2 (hb.cell (i := 1) rfl rfl)).mono ?_)
    rintro e w' ⟨rfl, rfl⟩
    exact ⟨rfl, fin _ j hb (grown_refl _ _)⟩
end Go.Proofs.YtlddfgfmkapoiaaGreat

namespace Go.Proofs.YtlddfgfmkapoiaaGreat
open Go Go.Sh Go.RowKit

theorem OkP.of1 {t : Tr} (h : OkP 1 t) : Avl t := by simpa [OkP] using h
theorem OkP.of2 {t : Tr} (h : OkP 2 t) : Rb t := by simpa [OkP] using h
theorem OkP.of3 {t : Tr} (h : OkP 3 t) : Wb t := by simpa [OkP] using h
theorem do_plain {c : Int} (h123 : c = 1 ∨ c = 2 ∨ c = 3) {l r : Tr} {k v g : Int} {pl pr : Option Addr} {w : World} {R : Ending → World → Prop} (hl : IsN w pl l) (hr : IsN w pr r) (okl : OkP c l) (okr : OkP c r) (hB : l.size + r.size + 5 ≤ BIG)
    (h : ∀ q w', Ext w w' → IsN w' q (joinC c l (k, v, g) r) → R (.returned (.pointer q)) w') : doCall Tryz.prog (.func (.func (pjF c)) #[] #[]) #[.pointer pl, .int .i64 k, .int .i64 v, .pointer pr] w R := by
  rcases h123 with rfl | rfl | rfl
  · exact do_call Tryz.call218 (c_ajoin hl hr okl.of1 okr.of1 hB h)
  · exact do_call Tryz.call224 (c_rjoin hl hr okl.of2 okr.of2 hB h)
  · exact do_call Tryz.call230 (c_wjoin hl hr okl.of3 okr.of3 hB h)
set_option maxRecDepth 20000 in
theorem do_joinF {c : Int} {l r : Tr} {k v g : Int} {pl pr : Option Addr} {w : World} {R : Ending → World → Prop} (hl : IsN w pl l) (hr : IsN w pr r) (okl : OkP c l) (okr : OkP c r) (hB : l.size + r.size + 5 ≤ BIG)
    (h : ∀ q w', Ext w w' → IsN w' q (joinC c l (k, v, g) r) → R (.returned (.pointer q)) w') : doCall Tryz.prog (.func (.func (jF c)) (jX c) #[]) #[.pointer pl, .agg #[.int .i64 k, .int .i64 v, .int .u64 g], .pointer pr] w R := by
  by_cases h4 : c = 4
  · subst h4
    have hj : jF 4 = 387 := by unfold jF; rw [if_pos rfl]
    have hx : jX 4 = #[] := by unfold jX; rw [if_pos rfl]
    have ej : joinC 4 l (k, v, g) r = joinT (l.size + r.size) l k v g r := by
      unfold joinC
      rw [if_neg (by decide), if_neg (by decide), if_neg (by decide)]
    rw [hj, hx]
    rw [ej] at h
    exact do_call Tryz.call387 (c_tjoin (l.size + r.size) (Nat.le_refl _) hl hr hB h)
  · have h123 : c = 1 ∨ c = 2 ∨ c = 3 := by have := isS_iff.1 okl.s; omega
    have hj : jF c = 385 := by unfold jF; rw [if_neg h4]
    have hx : jX c = #[.agg (plainA c)] := by unfold jX; rw [if_neg h4]
    rw [hj, hx]
    refine ⟨callV_func Tryz.call385 ?_⟩
    refine sh385_ok _ _ _ _ _ _ _ _ _ _ _ _ _ _ _ _ _ _ _ _ _ _ _ _ ?_
    unfold sh385
    have e0 := ext_alloc w (.cells (plainA c) 295)
    have hb0 := blk_alloc w (plainA c) 295
    refine ⟨⟨?_⟩⟩
    have e1 := ext_alloc (w.alloc (.cells (plainA c) 295)) (.cells #[.int .i64 k, .int .i64 v, .int .u64 g] 114)
    have hb1 := blk_alloc (w.alloc (.cells (plainA c) 295)) #[.int .i64 k, .int .i64 v, .int .u64 g] 114
    have E := e0.trans e1
    refine ⟨_, _, _, (hb0.ext e1).cell (i := 1) (add_blk _ _) rfl, _, hb1.cell (i := 0) (add_blk _ _) rfl, _, hb1.cell (i := 1) (add_blk _ _) rfl, ?_⟩
    exact do_plain h123 (g := g) (hl.ext E) (hr.ext E) okl okr hB fun q w2 e2 h2 => retS_ret ⟨_, rfl, h _ _ (E.trans e2) h2⟩
theorem do_wholeF {c : Int} {t : Tr} {p : Option Addr} {w : World} {R : Ending → World → Prop} (ht : IsN w p t) (ok : OkP c t) (hB : t.size + 5 ≤ BIG) (h : ∀ q w', Ext w w' → IsN w' q (wholeC c t) → (c = 2 → redR t = true) ∨ q = p → R (.returned (.pointer q)) w') :
    doCall Tryz.prog (.func (.func (wF c)) #[] #[]) #[.pointer p] w R := by
  by_cases h2 : c = 2
  · subst h2
    refine do_call Tryz.call229 (c_rblk ht (ok.of2.tg (by omega)) (by omega) fun q w1 e1 h1 hq => h _ _ e1 h1 ?_)
    cases hr : redR t with
    | true => exact .inl fun _ => rfl
    | false => exact .inr (hq hr)
  · have e : wF c = 223 := by unfold wF; rw [if_neg h2]
    rw [e]
    refine do_call Tryz.call223 (sh223_ok _ ?_)
    unfold sh223
    refine h _ _ (ext_refl _) ?_ (.inr rfl)
    unfold wholeC; rw [if_neg h2]; exact ht
set_option maxRecDepth 20000 in
theorem c_sjoin {c : Int} {b : Nat} {l r : Tr} {k v g : Int} {pl pr : Option Addr} {w : World} {R : Ending → World → Prop} (hs : IsSch c b w) (hl : IsN w pl l) (hr : IsN w pr r) (okl : OkP c l) (okr : OkP c r) (hB : l.size + r.size + 5 ≤ BIG)
    (h : ∀ q w', Gs b w w' → IsSch c b w' → IsN w' q (joinC c l (k, v, g) r) → R (.returned (.pointer q)) w') : Calls Tryz.prog 106 #[.pointer (some (blk b)), .pointer pl, .agg #[.int .i64 k, .int .i64 v, .int .u64 g], .pointer pr] w R := by
  refine sh106_ok _ _ _ _ _ _ ?_
  unfold sh106
  refine ⟨ifB_f rfl ⟨_, rfl, ?_⟩⟩
  have e0 := ext_alloc w (.cells #[.int .i64 k, .int .i64 v, .int .u64 g] 114)
  have hi := blk_alloc w #[.int .i64 k, .int .i64 v, .int .u64 g] 114
  have hlt := hs.lt
  generalize hbi : w.heap.size = bi at *
  generalize w.alloc (.cells #[.int .i64 k, .int .i64 v, .int .u64 g] 114) = w1 at *
  have nbi : some bi ≠ some b := ne_some (by omega)
  have hs1 := hs.ext e0
  -- behind the count
  have hK : ∀ w2, IsSch c b w2 → w1.grownBy w2 (some b) → doDr w2 (fun w14 =>
      ∃ (C13 : World → Prop), C13 w14 ∧ (
      ∃ (x15 : Int), (∀ w, C13 w → World.cell? w ((blk bi).add 0) = some (.int .i64 x15)) ∧ (
      ∃ (x16 : Int), (∀ w, C13 w → World.cell? w ((blk bi).add 1) = some (.int .i64 x16)) ∧ (
      ∃ (x17 : Int), (∀ w, C13 w → World.cell? w ((blk bi).add 2) = some (.int .u64 x17)) ∧ (
      doCall Tryz.prog (.func (.func 188) #[] #[]) #[.pointer (some (blk b))] w14 (retS (fun v38 w39 => ∃ (x18 : ByteArray), ∃ (xf19 : Fn), ∃ (xx20 : Array Value), ∃ (xc21 : Array Value), ∃ (xf22 : Fn), ∃ (xx23 : Array Value), ∃ (xc24 : Array Value), ∃ (xf25 : Fn), ∃ (xx26 : Array Value), ∃ (xc27 : Array Value), ∃ (xf28 : Fn), ∃ (xx29 : Array Value), ∃ (xc30 : Array Value), ∃ (xf31 : Fn), ∃ (xx32 : Array Value), ∃ (xc33 : Array Value), ∃ (xf34 : Fn), ∃ (xx35 : Array Value), ∃ (xc36 : Array Value), ∃ (x37 : Bool), v38 = (.agg #[.string x18, .func xf19 xx20 xc21, .func xf22 xx23 xc24, .func xf25 xx26 xc27, .func xf28 xx29 xc30, .func xf31 xx32 xc33, .func xf34 xx35 xc36, .bool x37] : Value) ∧ (
      C13 w39 ∧ (
      doCall Tryz.prog (.func xf19 xx20 xc21) #[.pointer pl, .agg #[.int .i64 x15, .int .i64 x16, .int .u64 x17], .pointer pr] w39 (retS (fun v41 w42 => ∃ (x40 : Option Addr), v41 = (.pointer x40 : Value) ∧ (
      R (.returned (.pointer x40)) w42)) (fun ch w => Kfn R ch [] w))))) (fun ch w => Kfn R ch [] w))))))) := by
    intro w2 hs2 g2
    have hi2 := hi.grown g2 nbi
    refine ⟨⟨fun w' => Blk w' bi #[.int .i64 k, .int .i64 v, .int .u64 g] 114, hi2, _, fun w' e => e.cell (i := 0) (add_blk _ _) rfl, _, fun w' e => e.cell (i := 1) (add_blk _ _) rfl, _, fun w' e => e.cell (i := 2) (add_blk _ _) rfl, ?_⟩⟩
    have hsd : IsSch c b w2.drew := hs2
    refine do_call Tryz.call188 (c_face hsd fun w3 g3 hs3 => retS_ret ⟨_, _, _, _, _, _, _, _, _, _, _, _, _, _, _, _, _, _, _, _, rfl, (show Blk w2.drew bi _ _ from hi2).grown g3 nbi, ?_⟩)
    have gt : Gs b w w3 := ((Gs.trans (gs_of e0) g2).trans (gs_of (ext_drew w2))).trans g3
    exact do_joinF (hl.gs hs gt) (hr.gs hs gt) okl okr hB fun q w4 e4 h4 => retS_ret ⟨_, rfl, h _ _ (gt.trans (gs_of e4)) (hs3.ext e4) h4⟩
  refine do_call Tryz.call187 (sh187_ok _ _ ?_)
  unfold sh187
  refine ⟨_, rfl, ?_⟩
  rw [add_zero', add_blk]
  rcases hs1 with ⟨hss, ⟨j, hb⟩ | ⟨j, hb⟩⟩
  · have hb2 := blk_set hb 12 (.int .u64 (IntKind.wrap .u64 (j + 1)))
    have hb2 : Blk (w1.setCell ⟨b, 12, none⟩ (.int .u64 (IntKind.wrap .u64 (j + 1)))) b (schFresh c 0 (IntKind.wrap .u64 (j + 1))) schT := hb2
    exact o_add (hb.cell (i := 12) rfl rfl) (hb.frozen (i := 12) rfl) (retS_ret ⟨_, rfl, retS_ret ⟨_, rfl, hK _ ⟨hss, .inl ⟨_, hb2⟩⟩ (grown_set _ _ _ _)⟩⟩)
  · have hb2 := blk_set hb 12 (.int .u64 (IntKind.wrap .u64 (j + 1)))
    have hb2 : Blk (w1.setCell ⟨b, 12, none⟩ (.int .u64 (IntKind.wrap .u64 (j + 1)))) b (schDone c 1 0 (IntKind.wrap .u64 (j + 1))) schT := hb2
    exact o_add (hb.cell (i := 12) rfl rfl) (hb.frozen (i := 12) rfl) (retS_ret ⟨_, rfl, retS_ret ⟨_, rfl, hK _ ⟨hss, .inr ⟨_, hb2⟩⟩ (grown_set _ _ _ _)⟩⟩)
theorem c_swhole {c : Int} {b : Nat} {t : Tr} {p : Option Addr} {w : World} {R : Ending → World → Prop} (hs : IsSch c b w) (ht : IsN w p t) (ok : OkP c t) (hB : t.size + 5 ≤ BIG)
    (h : ∀ q w', Gs b w w' → IsSch c b w' → IsN w' q (wholeC c t) → R (.returned (.pointer q)) w') : Calls Tryz.prog 162 #[.pointer (some (blk b)), .pointer p] w R := by
  refine sh162_ok _ _ ?_
  unfold sh162
  refine ifB_f rfl (do_call Tryz.call188 (c_face hs fun w1 g1 hs1 => retS_ret ⟨_, _, _, _, _, _, _, _, _, _, _, _, _, _, _, _, _, _, _, _, rfl, ?_⟩))
  exact do_wholeF (ht.gs hs g1) ok hB fun q w2 e2 h2 _ => retS_ret ⟨_, rfl, h _ _ (g1.trans (gs_of e2)) (hs1.ext e2) h2⟩
set_option maxRecDepth 20000 in
theorem c_sitem {c : Int} {b : Nat} {t : Tr} {p : Option Addr} {w : World} {R : Ending → World → Prop} (hs : IsSch c b w) (ht : IsN w p t)
    (h : ∀ w', Gs b w w' → IsSch c b w' → R (.returned (agI (rootC c t))) w') : Calls Tryz.prog 213 #[.pointer (some (blk b)), .pointer p] w R := by
  refine sh213_ok _ _ ?_
  unfold sh213
  refine ⟨?_⟩
  have e0 := ext_alloc w (.cells #[.int .i64 0, .int .i64 0, .int .u64 0] 114)
  have hx := blk_alloc w #[.int .i64 0, .int .i64 0, .int .u64 0] 114
  have hlt := hs.lt
  generalize hbx : w.heap.size = bx at *
  generalize w.alloc (.cells #[.int .i64 0, .int .i64 0, .int .u64 0] 114) = w1 at *
  have nbx : some bx ≠ some b := ne_some (by omega)
  intro K7
  refine ifB_f rfl ?_
  unfold rootC at h
  rw [ht.isNone]
  cases hn : t.nn with
  | false =>
    rw [hn] at h
    refine ifB_t rfl (do_st3 hx fun w2 h2 g2 => ⟨_, h2.cell (i := 0) (add_blk _ _) rfl, _, h2.cell (i := 1) (add_blk _ _) rfl, _, h2.cell (i := 2) (add_blk _ _) rfl, ?_⟩)
    have e2 : Ext w w2 := e0.st g2 (by omega)
    exact h _ (gs_of e2) (hs.ext e2)
  | true =>
    rw [hn] at h
    refine ifB_f rfl (do_call Tryz.call108 (c_key (ht.ext e0) fun w2 e2 => retS_ret ⟨_, rfl, ?_⟩))
    have E2 := e0.trans e2
    refine do_call Tryz.call126 (c_val (ht.ext E2) fun w3 e3 => retS_ret ⟨_, rfl, ⟨?_⟩⟩)
    have E3 := E2.trans e3
    have hx3 := hx.ext (e2.trans e3)
    have hx3lt := hx3.lt
    refine do_st3 (blk_alloc w3 _ _) fun w4 h4 g4 => ?_
    have e4 : Ext w3 w4 := (ext_alloc w3 _).st g4 (Nat.le_refl _)
    have E4 := E3.trans e4
    have hs4 := hs.ext E4
    have hx4 := hx3.ext e4
    have hwlt : w.heap.size ≤ w3.heap.size := E3.size
    have nby : some w3.heap.size ≠ some b := ne_some (by omega)
    intro K26
    have hK26 : ∀ (g' : Int) w5, Blk w5 w3.heap.size #[.int .i64 t.key, .int .i64 t.val, .int .u64 g'] 114 → Blk w5 bx #[.int .i64 0, .int .i64 0, .int .u64 0] 114 → Gs b w w5 → IsSch c b w5 → (t.key, t.val, g') = itC c (t.key, t.val, t.tag) → K26 w5 := by
      intro g' w5 hy hx5 g5 hs5 hg
      refine ⟨_, hy.cell (i := 0) (add_blk _ _) rfl, _, hy.cell (i := 1) (add_blk _ _) rfl, _, hy.cell (i := 2) (add_blk _ _) rfl, do_st3 hx5 fun w6 h6 g6 => ⟨_, h6.cell (i := 0) (add_blk _ _) rfl, _, h6.cell (i := 1) (add_blk _ _) rfl, _, h6.cell (i := 2) (add_blk _ _) rfl, ?_⟩⟩
      have hr := h w6 ?_ ?_
      · rw [if_pos rfl, ← hg] at hr
        exact hr
      · refine ⟨g6.os.trans g5.os, g6.tape.trans g5.tape, g6.output.trans g5.output, Nat.le_trans (World.grownBy.size g5) (World.grownBy.size g6), fun k hk hne => ?_⟩
        rw [g6.block k (Nat.lt_of_lt_of_le hk (World.grownBy.size g5)) (ne_some (by omega)), g5.block k hk hne]
      · rcases hs5 with ⟨hss, ⟨j, hb⟩ | ⟨j, hb⟩⟩
        · exact ⟨hss, .inl ⟨j, hb.grown g6 (ne_some (by omega))⟩⟩
        · exact ⟨hss, .inr ⟨j, hb.grown g6 (ne_some (by omega))⟩⟩
    refine do_call Tryz.call188 (c_face hs4 fun w5 g5 hs5 => retS_ret ⟨_, _, _, _, _, _, _, _, _, _, _, _, _, _, _, _, _, _, _, _, rfl, ?_⟩)
    have gt := (gs_of E4).trans g5
    have hx5 := hx4.grown g5 nbx
    have hy5 := h4.grown g5 nby
    unfold tgC
    refine ifB_intro (fun htag => ?_) fun htag => ?_
    · have h4c : c = 4 := of_decide_eq_true htag
      refine do_call Tryz.call196 (c_tag (ht.gs hs gt) fun w6 e6 => retS_ret ⟨_, rfl, ?_⟩)
      refine do_st (i := 2) (hy5.ext e6) (by rw [Sh.add_add, add_blk]) (by simp) fun w7 h7 g7 => ?_
      refine hK26 t.tag w7 h7 ((hx5.ext e6).grown g7 (ne_some (by omega))) ?_ ?_ (by unfold itC; rw [if_pos h4c])
      · have g6 := gt.trans (gs_of e6)
        refine ⟨g7.os.trans g6.os, g7.tape.trans g6.tape, g7.output.trans g6.output, Nat.le_trans (World.grownBy.size g6) (World.grownBy.size g7), fun k hk hne => ?_⟩
        rw [g7.block k (Nat.lt_of_lt_of_le hk (World.grownBy.size g6)) (ne_some (by omega)), g6.block k hk hne]
      · rcases hs5.ext e6 with ⟨hss, ⟨j, hb⟩ | ⟨j, hb⟩⟩
        · exact ⟨hss, .inl ⟨j, hb.grown g7 (ne_some (by omega))⟩⟩
        · exact ⟨hss, .inr ⟨j, hb.grown g7 (ne_some (by omega))⟩⟩
    · have h4c : c ≠ 4 := of_decide_eq_false htag
      exact hK26 0 w5 hy5 hx5 gt hs5 (by unfold itC; rw [if_neg h4c])
/-! ### Of -/
theorem eqn_some (t : TypeId) (v : Value) : ∀ w, (do eqGuard .eql 208 (.tmp 5) (.const .nilIface) (.iface t v) .nilIface; binOp .eql 208 (.iface t v) .nilIface).run Tryz.prog w = .ok (.bool false) w := fun w => by kernel_rfl
theorem eqn_none : ∀ w, (do eqGuard .eql 208 (.tmp 5) (.const .nilIface) .nilIface .nilIface; binOp .eql 208 .nilIface .nilIface).run Tryz.prog w = .ok (.bool true) w := fun w => by kernel_rfl
theorem c_schOf {c : Int} {w : World} {R : Ending → World → Prop} (h0 : isS c = false → R (.returned (.tuple #[.pointer none, .int .i64 2])) w)
    (h1 : isS c = true → ∀ b w', Ext w w' → w.heap.size = b → IsSch c b w' → R (.returned (.tuple #[.pointer (some (blk b)), .int .i64 0])) w') : Calls Tryz.prog 92 #[.int .u8 c] w R := by
  refine sh92_ok _ ?_
  unfold sh92
  refine do_call Tryz.call167 (c_of82 (retS_ret ⟨_, rfl, ?_⟩))
  cases hc : isS c with
  | false => exact ⟨true, eqn_none, ifB_t rfl (h0 hc)⟩
  | true =>
    refine ⟨false, ?_, ifB_f rfl ⟨h1 hc _ _ (ext_alloc w _) rfl ⟨hc, .inl ⟨0, blk_alloc w _ _⟩⟩⟩⟩
    unfold mkV
    rw [if_pos rfl]
    split
    · exact eqn_some _ _
    · exact eqn_some _ _
theorem c_l22of {c : Int} {w : World} {R : Ending → World → Prop} (h0 : isS c = false → R (.returned (.tuple #[.pointer none, .bool false])) w)
    (h1 : isS c = true → ∀ b w', Ext w w' → w.heap.size = b → IsSch c b w' → R (.returned (.tuple #[.pointer (some (blk b)), .bool true])) w') : Calls Tryz.prog 15 #[.int .u8 c] w R := by
  refine sh15_ok _ ?_
  unfold sh15
  exact do_call Tryz.call92 (c_schOf (fun hc => retS_ret ⟨_, _, rfl, ifB_f rfl (h0 hc)⟩) fun hc b w1 e1 hb hs => retS_ret ⟨_, _, rfl, ifB_t rfl (h1 hc _ _ e1 hb hs)⟩)
end Go.Proofs.YtlddfgfmkapoiaaGreat

namespace Go.Proofs.YtlddfgfmkapoiaaGreat
open Go Go.Sh Go.RowKit

theorem Gs.st {b k : Nat} {w0 w1 w2 : World} (h : Gs b w0 w1) (g : w1.grownBy w2 (some k)) (hk : w0.heap.size ≤ k) : Gs b w0 w2 :=
  ⟨g.os.trans h.os, g.tape.trans h.tape, g.output.trans h.output, Nat.le_trans (World.grownBy.size h) (World.grownBy.size g), fun i hi hne => by
    rw [g.block i (Nat.lt_of_lt_of_le hi (World.grownBy.size h)) (ne_some (by omega)), h.block i hi hne]⟩
theorem IsSch.st {c : Int} {b k : Nat} {w1 w2 : World} (h : IsSch c b w1) (g : w1.grownBy w2 (some k)) (hk : k ≠ b) : IsSch c b w2 := by
  rcases h with ⟨hss, ⟨j, hb⟩ | ⟨j, hb⟩⟩
  · exact ⟨hss, .inl ⟨j, hb.grown g (ne_some (Ne.symm hk))⟩⟩
  · exact ⟨hss, .inr ⟨j, hb.grown g (ne_some (Ne.symm hk))⟩⟩
theorem _root_.Go.Sh.IsT.st {k : Nat} {w1 w2 : World} {p : Option Addr} {t : Tr} {cs : Array Value} {ty : TypeId} (h : IsN w1 p t) (g : w1.grownBy w2 (some k)) (hb : Blk w1 k cs ty) (ht : ty ≠ 249) : IsN w2 p t := by
  induction t generalizing p with
  | nil => exact h
  | node l k' v gg r ihl ihr =>
    obtain ⟨b', pl, pr, hp, hb', hl, hr⟩ := h
    refine ⟨b', pl, pr, hp, hb'.grown g (ne_some ?_), ihl hl, ihr hr⟩
    rintro rfl
    exact ht (blk_fun hb hb')
theorem _root_.Go.Sh.Blk.gs {b k : Nat} {w w' : World} {cs : Array Value} {ty : TypeId} (h : Blk w k cs ty) (g : Gs b w w') (hk : k ≠ b) : Blk w' k cs ty := h.grown g (ne_some hk)
theorem splitC_p {c o key : Int} : ∀ {t : Tr}, OkP c t → OkM c (splitC c o key t).1 ∧ OkM c (splitC c o key t).2.2 ∧ (splitC c o key t).1.size + (splitC c o key t).2.2.size ≤ t.size
  | .nil, h => ⟨.nil h.s, .nil h.s, Nat.le_refl _⟩
  | .node l k v g r, h => by
    obtain ⟨hl, hr⟩ := h.sides
    have IL := splitC_p (o := o) (key := key) hl
    have IR := splitC_p (o := o) (key := key) hr
    have e : (Tr.node l k v g r).size = l.size + 1 + r.size := rfl
    unfold splitC
    split
    · have j := joinC_ok hl IR.1.1 (itC c (k, v, g))
      refine ⟨j.1, IR.2.1, ?_⟩
      simp only [joinC_size hl IR.1.1, e]; omega
    · split
      · have j := joinC_ok IL.2.1.1 hr (itC c (k, v, g))
        refine ⟨IL.1, j.1, ?_⟩
        simp only [joinC_size IL.2.1.1 hr, e]; omega
      · refine ⟨(wholeC_ok hl).1, (wholeC_ok hr).1, ?_⟩
        simp only [wholeC_size hl, wholeC_size hr, e]; omega
abbrev itO (x : Option It) : It := x.getD (0, 0, 0)
theorem do_at {o key k : Int} (ho : isO o = true) (hk : In k) {bo bk : Nat} {w : World} {R : Ending → World → Prop} (h1 : Blk w bo #[.int .u8 o] 5) (h2 : Blk w bk #[.int .u64 (codeI o key)] 75)
    (h : ∀ w', Ext w w' → R (.returned (.int .i64 (cmpI o k key))) w') : doCall Tryz.prog (.func (.func 216) #[] #[.pointer (some (blk bo)), .pointer (some (blk bk))]) #[.int .i64 k] w R := by
  refine do_callc Tryz.call216 (by rfl) (sh216_ok _ _ _ ?_)
  unfold sh216
  refine ⟨_, h1.cell (i := 0) rfl rfl, do_call Tryz.call215 (c_code hk fun w1 e1 => retS_ret ⟨_, _, rfl, _, (h2.ext e1).cell (i := 0) rfl rfl, ?_⟩)⟩
  rw [ho, cond_true]
  refine do_call Tryz.call217 (c_cmp64 (retS_ret ⟨_, rfl, ?_⟩))
  have e : (if codeI o k < codeI o key then (-1 : Int) else if codeI o key < codeI o k then 1 else 0) = cmpI o k key := by
    have : 1 ≤ o ∧ o ≤ 7 := by simpa [isO] using ho
    unfold cmpI; rw [if_pos this]
  rw [e]
  exact h _ e1
/-- an item, read and laid again -/
theorem do_re3 {c : Int} {b bx : Nat} {x : It} {w0 w : World} (hb : Blk w bx #[.int .i64 x.1, .int .i64 x.2.1, .int .u64 x.2.2] 114) (hx : w0.heap.size ≤ bx) (hne : bx ≠ b) (hg : Gs b w0 w) (hs : IsSch c b w) {K : World → Prop}
    (k : ∀ w', Blk w' bx #[.int .i64 x.1, .int .i64 x.2.1, .int .u64 x.2.2] 114 → w.grownBy w' (some bx) → Gs b w0 w' → IsSch c b w' → K w') :
    doSt ((blk bx).add 0) (.int .i64 x.1) w fun w1 => doSt ((blk bx).add 1) (.int .i64 x.2.1) w1 fun w2 => doSt ((blk bx).add 2) (.int .u64 x.2.2) w2 K :=
  do_st3 hb fun w' h' g' => k w' h' g' (hg.st g' hx) (hs.st g' hne)
def InK : Tr → Prop
  | .nil => True
  | .node l k _ _ r => InK l ∧ In k ∧ InK r
theorem inK_its {c : Int} {t : Tr} : InK t ↔ ∀ x ∈ itsC c t, In x.1 := by
  induction t with
  | nil => exact ⟨fun _ x hx => by simp [itsC, itT] at hx, fun _ => trivial⟩
  | node l k v g r ihl ihr =>
    rw [itsC_node]
    constructor
    · rintro ⟨h1, h2, h3⟩ x hx
      rcases List.mem_append.1 hx with hx | hx
      · exact ihl.1 h1 x hx
      · rcases List.mem_cons.1 hx with rfl | hx
        · rw [itC_key]; exact h2
        · exact ihr.1 h3 x hx
    · intro h
      exact ⟨ihl.2 fun x hx => h x (List.mem_append_left _ hx), by have := h (itC c (k, v, g)) (by simp); rwa [itC_key] at this, ihr.2 fun x hx => h x (List.mem_append_right _ (List.mem_cons_of_mem _ hx))⟩
set_option maxRecDepth 20000 in
theorem c_sparts {c o key : Int} {b bo bk : Nat} (ho : isO o = true) (nbo : bo ≠ b) (nbk : bk ≠ b) : ∀ (t : Tr) {p : Option Addr} {w : World} {R : Ending → World → Prop} (_hs : IsSch c b w) (_h1 : Blk w bo #[.int .u8 o] 5) (_h2 : Blk w bk #[.int .u64 (codeI o key)] 75)
    (_ht : IsN w p t) (_ok : OkP c t) (_hk : InK t) (_hB : t.size + 6 ≤ BIG) (_h : ∀ ql qr w', Gs b w w' → IsSch c b w' → IsN w' ql (splitC c o key t).1 → IsN w' qr (splitC c o key t).2.2 →
      R (.returned (.tuple #[.pointer ql, agI (itO (splitC c o key t).2.1), .bool (splitC c o key t).2.1.isSome, .pointer qr])) w'),
    Calls Tryz.prog 165 #[.pointer (some (blk b)), .func (.func 216) #[] #[.pointer (some (blk bo)), .pointer (some (blk bk))], .pointer p] w R
  | .nil, p, w, R, hs, h1, h2, ht, ok, hk, hB, h => by
    obtain rfl : p = none := ht
    refine sh165_ok _ _ _ _ _ ?_
    unfold sh165
    refine ⟨ifB_t rfl ?_⟩
    have e0 := ext_alloc w (.cells #[.int .i64 0, .int .i64 0, .int .u64 0] 114)
    have hx := blk_alloc w #[.int .i64 0, .int .i64 0, .int .u64 0] 114
    have hlt := hs.lt
    generalize hbx : w.heap.size = bx at *
    generalize w.alloc (.cells #[.int .i64 0, .int .i64 0, .int .u64 0] 114) = w1 at *
    have d := ext_drew w1
    refine ⟨⟨fun w' => Ext w1 w', d, _, fun w' e => (hx.ext e).cell (i := 0) (add_blk _ _) rfl, _, fun w' e => (hx.ext e).cell (i := 1) (add_blk _ _) rfl, _, fun w' e => (hx.ext e).cell (i := 2) (add_blk _ _) rfl, ?_⟩⟩
    refine do_re3 (x := (0, 0, 0)) (hx.ext d) (by omega) (by omega) (gs_of (e0.trans d)) (hs.ext (e0.trans d)) fun w2 hx2 g2 gs2 hs2 => ?_
    exact ⟨_, hx2.cell (i := 0) (add_blk _ _) rfl, _, hx2.cell (i := 1) (add_blk _ _) rfl, _, hx2.cell (i := 2) (add_blk _ _) rfl, h _ _ _ gs2 hs2 rfl rfl⟩
  | .node l k v g r, p, w, R, hs, h1, h2, ht, ok, hk, hB, h => by
    refine sh165_ok _ _ _ _ _ ?_
    unfold sh165
    refine ⟨ifB_f (by rw [ht.isNone]; rfl) ?_⟩
    obtain ⟨okl, okr⟩ := ok.sides
    obtain ⟨hkl, hkk, hkr⟩ := hk
    have hsz : (Tr.node l k v g r).size = l.size + 1 + r.size := rfl
    have e0 := ext_alloc w (.cells #[.int .i64 0, .int .i64 0, .int .u64 0] 114)
    have hx := blk_alloc w #[.int .i64 0, .int .i64 0, .int .u64 0] 114
    have hlt := hs.lt
    generalize hbx : w.heap.size = bx at *
    generalize w.alloc (.cells #[.int .i64 0, .int .i64 0, .int .u64 0] 114) = w1 at *
    have nbx : bx ≠ b := by omega
    have hroot : rootC c (.node l k v g r) = itC c (k, v, g) := rfl
    refine do_call Tryz.call108 (c_key (ht.ext e0) fun w2 e2 => retS_ret ⟨_, rfl, ?_⟩)
    have E2 := e0.trans e2
    refine do_at ho hkk (h1.ext E2) (h2.ext E2) fun w3 e3 => retS_ret ⟨_, rfl, ?_⟩
    have E3 := E2.trans e3
    have hx3 := hx.ext (e2.trans e3)
    have hs3 := hs.ext E3
    have ht3 := ht.ext E3
    have h13 := h1.ext E3
    have h23 := h2.ext E3
    have g3 : Gs b w w3 := gs_of E3
    unfold splitC at h
    refine ifB_intro (fun hc => ?_) fun hc => ?_
    · have hc : cmpI o k key < 0 := of_decide_eq_true hc
      simp only [hc, if_true] at h
      have sp := splitC_p (o := o) (key := key) okr
      refine do_call Tryz.call125 (c_right ht3 fun q4 h4 => retS_ret ⟨_, rfl, ?_⟩)
      refine do_call Tryz.call165 (c_sparts ho nbo nbk r hs3 h13 h23 h4 okr hkr (by omega) fun ql qr w5 g5 hs5 hl5 hr5 => retS_ret ⟨_, _, _, _, _, _, rfl, ?_⟩)
      have hx5 := hx3.gs g5 nbx
      have gt5 := g3.trans g5
      refine do_st3 hx5 fun w6 hx6 g6 => ?_
      have gt6 := gt5.st g6 (by omega)
      have hs6 := hs5.st g6 nbx
      have hl6 := hl5.st g6 hx5 (by decide)
      have hr6 := hr5.st g6 hx5 (by decide)
      have d := ext_drew w6
      refine ⟨⟨fun w' => Blk w' bx _ _, hx6, _, fun w' e => e.cell (i := 0) (add_blk _ _) rfl, _, fun w' e => e.cell (i := 1) (add_blk _ _) rfl, _, fun w' e => e.cell (i := 2) (add_blk _ _) rfl, ?_⟩⟩
      have gt6d := gt6.trans (gs_of d)
      refine do_call Tryz.call123 (c_left (ht.gs hs gt6d) fun q7 h7 => retS_ret ⟨_, rfl, hx6.ext d, ?_⟩)
      refine do_call Tryz.call213 (c_sitem (hs6.ext d) (ht.gs hs gt6d) fun w8 g8 hs8 => retS_ret ⟨_, _, _, rfl, (hx6.ext d).gs g8 nbx, ?_⟩)
      have gt8 := gt6d.trans g8
      refine do_call Tryz.call106 (c_sjoin hs8 (h7.gs (hs6.ext d) g8) ((hl6.ext d).gs (hs6.ext d) g8) okl sp.1.1 (by simp only [Tr.left]; omega) fun q9 w9 g9 hs9 h9 => retS_ret ⟨_, rfl, ((hx6.ext d).gs g8 nbx).gs g9 nbx, ?_⟩)
      have hx9 := ((hx6.ext d).gs g8 nbx).gs g9 nbx
      refine do_re3 (x := itO (splitC c o key r).2.1) hx9 (w0 := w) (by omega) nbx (gt8.trans g9) hs9 fun w10 hx10 g10 gs10 hs10 => ?_
      exact ⟨_, hx10.cell (i := 0) (add_blk _ _) rfl, _, hx10.cell (i := 1) (add_blk _ _) rfl, _, hx10.cell (i := 2) (add_blk _ _) rfl, h _ _ _ gs10 hs10 (h9.st g10 hx9 (by decide)) ((((hr6.ext d).gs (hs6.ext d) g8).gs hs8 g9).st g10 hx9 (by decide))⟩
    · have hc : ¬ cmpI o k key < 0 := of_decide_eq_false hc
      simp only [hc, if_false] at h
      refine ifB_intro (fun hc2 => ?_) fun hc2 => ?_
      · have hc2 : 0 < cmpI o k key := of_decide_eq_true hc2
        simp only [hc2, if_true] at h
        have sp := splitC_p (o := o) (key := key) okl
        refine do_call Tryz.call123 (c_left ht3 fun q4 h4 => retS_ret ⟨_, rfl, ?_⟩)
        refine do_call Tryz.call165 (c_sparts ho nbo nbk l hs3 h13 h23 h4 okl hkl (by omega) fun ql qr w5 g5 hs5 hl5 hr5 => retS_ret ⟨_, _, _, _, _, _, rfl, ?_⟩)
        have hx5 := hx3.gs g5 nbx
        have gt5 := g3.trans g5
        refine do_st3 hx5 fun w6 hx6 g6 => ?_
        have gt6 := gt5.st g6 (by omega)
        have hs6 := hs5.st g6 nbx
        have hl6 := hl5.st g6 hx5 (by decide)
        have hr6 := hr5.st g6 hx5 (by decide)
        have d := ext_drew w6
        refine ⟨⟨fun w' => Blk w' bx _ _, hx6, _, fun w' e => e.cell (i := 0) (add_blk _ _) rfl, _, fun w' e => e.cell (i := 1) (add_blk _ _) rfl, _, fun w' e => e.cell (i := 2) (add_blk _ _) rfl, ?_⟩⟩
        have gt6d := gt6.trans (gs_of d)
        refine do_call Tryz.call213 (c_sitem (hs6.ext d) (ht.gs hs gt6d) fun w8 g8 hs8 => retS_ret ⟨_, _, _, rfl, (hx6.ext d).gs g8 nbx, ?_⟩)
        have gt8 := gt6d.trans g8
        refine do_call Tryz.call125 (c_right (ht.gs hs gt8) fun q7 h7 => retS_ret ⟨_, rfl, (hx6.ext d).gs g8 nbx, ?_⟩)
        refine do_call Tryz.call106 (c_sjoin hs8 ((hr6.ext d).gs (hs6.ext d) g8) h7 sp.2.1.1 okr (by simp only [Tr.right]; omega) fun q9 w9 g9 hs9 h9 => retS_ret ⟨_, rfl, ((hx6.ext d).gs g8 nbx).gs g9 nbx, ?_⟩)
        have hx9 := ((hx6.ext d).gs g8 nbx).gs g9 nbx
        refine do_re3 (x := itO (splitC c o key l).2.1) hx9 (w0 := w) (by omega) nbx (gt8.trans g9) hs9 fun w10 hx10 g10 gs10 hs10 => ?_
        exact ⟨_, hx10.cell (i := 0) (add_blk _ _) rfl, _, hx10.cell (i := 1) (add_blk _ _) rfl, _, hx10.cell (i := 2) (add_blk _ _) rfl, h _ _ _ gs10 hs10 ((((hl6.ext d).gs (hs6.ext d) g8).gs hs8 g9).st g10 hx9 (by decide)) (h9.st g10 hx9 (by decide))⟩
      · have hc2 : ¬ 0 < cmpI o k key := of_decide_eq_false hc2
        simp only [hc2, if_false] at h
        refine do_call Tryz.call123 (c_left ht3 fun q4 h4 => retS_ret ⟨_, rfl, ?_⟩)
        refine do_call Tryz.call162 (c_swhole hs3 h4 okl (by simp only [Tr.left]; omega) fun q5 w5 g5 hs5 h5 => retS_ret ⟨_, rfl, ?_⟩)
        have gt5 := g3.trans g5
        refine do_call Tryz.call213 (c_sitem hs5 (ht.gs hs gt5) fun w6 g6 hs6 => retS_ret ⟨_, _, _, rfl, ?_⟩)
        have gt6 := gt5.trans g6
        refine do_call Tryz.call125 (c_right (ht.gs hs gt6) fun q7 h7 => retS_ret ⟨_, rfl, ?_⟩)
        refine do_call Tryz.call162 (c_swhole hs6 h7 okr (by simp only [Tr.right]; omega) fun q8 w8 g8 hs8 h8 => retS_ret ⟨_, rfl, ?_⟩)
        have hx8 := ((hx3.gs g5 nbx).gs g6 nbx).gs g8 nbx
        refine do_st3 hx8 fun w9 hx9 g9 => ?_
        have gt9 := (gt6.trans g8).st g9 (by omega)
        exact ⟨_, hx9.cell (i := 0) (add_blk _ _) rfl, _, hx9.cell (i := 1) (add_blk _ _) rfl, _, hx9.cell (i := 2) (add_blk _ _) rfl, h _ _ _ gt9 (hs8.st g9 nbx) (((h5.gs hs5 g6).gs hs6 g8).st g9 hx8 (by decide)) (h8.st g9 hx8 (by decide))⟩
end Go.Proofs.YtlddfgfmkapoiaaGreat

namespace Go.Proofs.YtlddfgfmkapoiaaGreat
open Go Go.Sh Go.RowKit

theorem c_where {o key : Int} (hk : In key) {w : World} {R : Ending → World → Prop} (h0 : isO o = false → ∀ w', Ext w w' → R (.returned (.tuple #[.nilFunc, .int .i64 2])) w')
    (h1 : isO o = true → ∀ bo bk w', Ext w w' → Blk w' bo #[.int .u8 o] 5 → Blk w' bk #[.int .u64 (codeI o key)] 75 → w.heap.size ≤ bo → w.heap.size ≤ bk →
      R (.returned (.tuple #[.func (.func 216) #[] #[.pointer (some (blk bo)), .pointer (some (blk bk))], .int .i64 0])) w') : Calls Tryz.prog 164 #[.int .u8 o, .int .i64 key] w R := by
  refine sh164_ok _ _ ?_
  unfold sh164
  have e0 := ext_alloc w (.cells #[.int .u8 o] 5)
  have hb0 := blk_alloc w #[.int .u8 o] 5
  refine ⟨_, hb0.cell (i := 0) rfl rfl, do_call Tryz.call215 (c_code hk fun w1 e1 => retS_ret ⟨_, _, rfl, ⟨?_⟩⟩)⟩
  have E1 := e0.trans e1
  have hk0 := blk_alloc w1 #[.int .u64 0] 75
  refine do_st (i := 0) hk0 (add_blk _ _) (by simp) fun w2 hk2 g2 => ?_
  have e2 : Ext w1 w2 := (ext_alloc w1 _).st g2 (Nat.le_refl _)
  have E2 := E1.trans e2
  have hb2 := hb0.ext (e1.trans e2)
  cases ho : isO o with
  | false => exact ifB_t rfl (h0 ho _ E2)
  | true =>
    rw [ho, cond_true] at hk2
    exact ifB_f rfl (h1 ho _ _ _ E2 hb2 hk2 (Nat.le_refl _) E1.size)
set_option maxRecDepth 20000 in
theorem c_split {c o key : Int} {b : Nat} (ho : isO o = true) (hk : In key) {t : Tr} {p : Option Addr} {w : World} {R : Ending → World → Prop} (hs : IsSch c b w) (ht : IsN w p t) (ok : OkP c t) (hkt : InK t) (hB : t.size + 6 ≤ BIG)
    (h : ∀ ql qr w', Gs b w w' → IsSch c b w' → IsN w' ql (splitC c o key t).1 → IsN w' qr (splitC c o key t).2.2 →
      R (.returned (.tuple #[.pointer ql, agI (itO (splitC c o key t).2.1), .bool (splitC c o key t).2.1.isSome, .pointer qr, .int .i64 0])) w') : Calls Tryz.prog 89 #[.pointer (some (blk b)), .int .u8 o, .pointer p, .int .i64 key] w R := by
  refine sh89_ok _ _ _ _ ?_
  unfold sh89
  refine ⟨?_⟩
  have e0 := ext_alloc w (.cells #[.int .i64 0, .int .i64 0, .int .u64 0] 114)
  have hx := blk_alloc w #[.int .i64 0, .int .i64 0, .int .u64 0] 114
  have hlt := hs.lt
  generalize hbx : w.heap.size = bx at *
  generalize w.alloc (.cells #[.int .i64 0, .int .i64 0, .int .u64 0] 114) = w1 at *
  have nbx : bx ≠ b := by omega
  have hxl := hx.lt
  intro K10
  refine do_call Tryz.call164 (c_where hk (fun h0 _ _ => by rw [ho] at h0; cases h0) fun _ bo bk w2 e2 hbo hbk lo lk => retS_ret (.inl ⟨_, _, _, _, rfl, ?_⟩))
  simp -zeta -zetaHave only [K10]
  intro K13
  refine ifB_f rfl ?_
  have E2 := e0.trans e2
  refine ifB_f rfl (do_call Tryz.call165 (c_sparts ho (by omega) (by omega) t (hs.ext E2) hbo hbk (ht.ext E2) ok hkt hB fun ql qr w3 g3 hs3 hl3 hr3 => retS_ret ⟨_, _, _, _, _, _, rfl, ?_⟩))
  have gt3 : Gs b w w3 := (gs_of E2).trans g3
  have hx3 := (hx.ext e2).gs g3 nbx
  refine do_st3 hx3 fun w4 hx4 g4 => ?_
  have gt4 := gt3.st g4 (by omega)
  have hs4 := hs3.st g4 nbx
  have hl4 := hl3.st g4 hx3 (by decide)
  have hr4 := hr3.st g4 hx3 (by decide)
  have d := ext_drew w4
  refine ⟨⟨fun w' => Blk w' bx _ _, hx4, _, fun w' e => e.cell (i := 0) (add_blk _ _) rfl, _, fun w' e => e.cell (i := 1) (add_blk _ _) rfl, _, fun w' e => e.cell (i := 2) (add_blk _ _) rfl, ?_⟩⟩
  refine do_re3 (x := itO (splitC c o key t).2.1) (hx4.ext d) (w0 := w) (by omega) nbx (gt4.trans (gs_of d)) (hs4.ext d) fun w5 hx5 g5 gs5 hs5 => ?_
  exact ⟨_, hx5.cell (i := 0) (add_blk _ _) rfl, _, hx5.cell (i := 1) (add_blk _ _) rfl, _, hx5.cell (i := 2) (add_blk _ _) rfl, h _ _ _ gs5 hs5 ((hl4.ext d).st g5 (hx4.ext d) (by decide)) ((hr4.ext d).st g5 (hx4.ext d) (by decide))⟩
/-! ### cut -/
abbrev toA (bs : Nat) : Array Value := #[.func (.func 125) #[] #[], .func (.func 123) #[] #[], .func (.func 339) #[] #[.pointer (some (blk bs))]]
theorem c_to {bs0 : Option Addr} {w : World} {R : Ending → World → Prop} (h : ∀ bs w', Ext w w' → Blk w' bs #[.pointer bs0] 25 → w.heap.size ≤ bs → R (.returned (.agg (toA bs))) w') : Calls Tryz.prog 308 #[.pointer bs0, .bool true] w R := by
  refine sh308_ok _ _ ?_
  unfold sh308
  refine ⟨⟨ifB_t rfl ?_⟩⟩
  have e0 := ext_alloc w (.cells #[.pointer bs0] 25)
  have hb := blk_alloc w #[.pointer bs0] 25
  generalize w.alloc (.cells #[.pointer bs0] 25) = w1 at *
  refine do_st3 (blk_alloc w1 _ _) fun w2 h2 g2 => ?_
  have e2 : Ext w1 w2 := (ext_alloc w1 _).st g2 (Nat.le_refl _)
  exact ⟨_, _, _, h2.cell (i := 0) (add_blk _ _) rfl, _, _, _, h2.cell (i := 1) (add_blk _ _) rfl, _, _, _, h2.cell (i := 2) (add_blk _ _) rfl, h _ _ (e0.trans e2) (hb.ext e2) (Nat.le_refl _)⟩
/-- the join of a way towards the last item -/
theorem do_tojoin {c : Int} {b bs : Nat} {l r : Tr} {k v g : Int} {pl pr : Option Addr} {w : World} {R : Ending → World → Prop} (hb : Blk w bs #[.pointer (some (blk b))] 25) (hs : IsSch c b w) (hl : IsN w pl l) (hr : IsN w pr r) (okl : OkP c l) (okr : OkP c r) (hB : l.size + r.size + 5 ≤ BIG)
    (h : ∀ q w', Gs b w w' → IsSch c b w' → IsN w' q (joinC c l (k, v, g) r) → R (.returned (.pointer q)) w') : doCall Tryz.prog (.func (.func 339) #[] #[.pointer (some (blk bs))]) #[.pointer pr, .agg #[.int .i64 k, .int .i64 v, .int .u64 g], .pointer pl] w R := by
  refine do_callc Tryz.call339 (by rfl) (sh339_ok _ _ _ _ _ _ ?_)
  unfold sh339
  have e0 := ext_alloc w (.cells #[.int .i64 k, .int .i64 v, .int .u64 g] 114)
  have hx := blk_alloc w #[.int .i64 k, .int .i64 v, .int .u64 g] 114
  refine ⟨_, (hb.ext e0).cell (i := 0) rfl rfl, _, hx.cell (i := 0) (add_blk _ _) rfl, _, hx.cell (i := 1) (add_blk _ _) rfl, _, hx.cell (i := 2) (add_blk _ _) rfl, ?_⟩
  exact do_call Tryz.call106 (c_sjoin (hs.ext e0) (hl.ext e0) (hr.ext e0) okl okr hB fun q w1 g1 hs1 h1 => retS_ret ⟨_, rfl, h _ _ ((gs_of e0).trans g1) hs1 h1⟩)
theorem lastC_p {c : Int} : ∀ {t : Tr}, t.nn = true → OkP c t → OkM c (lastC c t).1 ∧ (lastC c t).1.size + 1 = t.size := fun {t} hn ok => by
  have := lastC_ok hn ok
  refine ⟨this.1, ?_⟩
  have e := congrArg List.length this.2
  simp only [itsC_len, List.length_append, List.length_cons, List.length_nil] at e
  omega
theorem lastC_eq {c : Int} {t : Tr} (hn : t.nn = true) (hr : t.right.nn = true) : lastC c t = (joinC c t.left (rootC c t) (lastC c t.right).1, (lastC c t.right).2) := by
  cases t with
  | nil => cases hn
  | node l k v g r =>
    cases r with
    | nil => cases hr
    | node a b d e f => rfl
theorem lastC_eq0 {c : Int} {t : Tr} (hn : t.nn = true) (hr : t.right.nn = false) : lastC c t = (wholeC c t.left, rootC c t) := by
  cases t with
  | nil => cases hn
  | node l k v g r =>
    cases r with
    | nil => rfl
    | node a b d e f => cases hr
theorem OkP.lr {c : Int} {t : Tr} (h : OkP c t) : OkP c t.left ∧ OkP c t.right := by
  cases t with
  | nil => exact ⟨h, h⟩
  | node l k v g r => exact h.sides
set_option maxRecDepth 20000 in
theorem c_end {c : Int} {b bs : Nat} (nbs : bs ≠ b) : ∀ (n : Nat) (t : Tr) {p : Option Addr} {w : World} {R : Ending → World → Prop} (_hn : t.size ≤ n) (_hnn : t.nn = true) (_hs : IsSch c b w) (_hb : Blk w bs #[.pointer (some (blk b))] 25) (_ht : IsN w p t) (_ok : OkP c t) (_hB : t.size + 6 ≤ BIG)
    (_h : ∀ q w', Gs b w w' → IsSch c b w' → IsN w' q (lastC c t).1 → R (.returned (.tuple #[.pointer q, agI (lastC c t).2])) w'), Calls Tryz.prog 307 #[.pointer (some (blk b)), .agg (toA bs), .pointer p] w R := fun n => by
  induction n with
  | zero => intro t p w R hn hnn; rw [Tr.nn_size] at hnn; have := of_decide_eq_true hnn; omega
  | succ n ih =>
    intro t p w R hn hnn hs hb ht ok hB h
    refine sh307_ok _ _ _ _ _ _ _ _ _ _ _ ?_
    unfold sh307
    refine ⟨⟨?_⟩⟩
    have hlt := hs.lt
    have hsz := size_nn hnn
    have okk := ok.lr
    have e0 := ext_alloc w (.cells (toA bs) 352)
    have hw := blk_alloc w (toA bs) 352
    generalize hbw : w.heap.size = bw at *
    generalize w.alloc (.cells (toA bs) 352) = w1 at *
    have e1 := ext_alloc w1 (.cells #[.int .i64 0, .int .i64 0, .int .u64 0] 114)
    have hx := blk_alloc w1 #[.int .i64 0, .int .i64 0, .int .u64 0] 114
    have hwl := hw.lt
    generalize hbx : w1.heap.size = bx at *
    generalize w1.alloc (.cells #[.int .i64 0, .int .i64 0, .int .u64 0] 114) = w2 at *
    have hw := hw.ext e1
    have E := e0.trans e1
    have nbw : bw ≠ b := by omega
    have nbx : bx ≠ b := by omega
    have nwx : bw ≠ bx := by omega
    have hxl := hx.lt
    have hs2 := hs.ext E
    have ht2 := ht.ext E
    refine ⟨_, _, _, hw.cell (i := 0) (add_blk _ _) rfl, do_call Tryz.call125 (c_right ht2 fun q3 h3 => retS_ret ⟨_, rfl, ifB_intro (fun hno => ?_) fun hno => ?_⟩)⟩
    · have hrn : t.right.nn = false := by rw [h3.isNone] at hno; simpa using hno
      rw [lastC_eq0 hnn hrn] at h
      refine ⟨_, _, _, hw.cell (i := 1) (add_blk _ _) rfl, do_call Tryz.call123 (c_left ht2 fun q4 h4 => retS_ret ⟨_, rfl, ?_⟩)⟩
      refine do_call Tryz.call162 (c_swhole hs2 h4 okk.1 (by omega) fun q5 w5 g5 hs5 h5 => retS_ret ⟨_, rfl, ?_⟩)
      have gt5 := (gs_of E).trans g5
      refine do_call Tryz.call213 (c_sitem hs5 (ht.gs hs gt5) fun w6 g6 hs6 => retS_ret ⟨_, _, _, rfl, ?_⟩)
      have hx6 := (hx.gs g5 nbx).gs g6 nbx
      refine do_st3 hx6 fun w7 hx7 g7 => ?_
      exact ⟨_, hx7.cell (i := 0) (add_blk _ _) rfl, _, hx7.cell (i := 1) (add_blk _ _) rfl, _, hx7.cell (i := 2) (add_blk _ _) rfl, h _ _ ((gt5.trans g6).st g7 (by omega)) (hs6.st g7 nbx) ((h5.gs hs5 g6).st g7 hx6 (by decide))⟩
    · have hrn : t.right.nn = true := by rw [h3.isNone] at hno; simpa using hno
      rw [lastC_eq hnn hrn] at h
      have lp := lastC_p hrn okk.2
      have lok := lastC_ok hrn okk.2
      intro K45
      have hK45 : ∀ (qr : Option Addr) (by' : Nat) w3, Gs b w w3 → IsSch c b w3 → Blk w3 bw (toA bs) 352 → Blk w3 bx #[.int .i64 0, .int .i64 0, .int .u64 0] 114 → Blk w3 by' #[.int .i64 (lastC c t.right).2.1, .int .i64 (lastC c t.right).2.2.1, .int .u64 (lastC c t.right).2.2.2] 114 → by' ≠ b → by' ≠ bx →
          Blk w3 bs #[.pointer (some (blk b))] 25 → IsN w3 qr (lastC c t.right).1 → K45 qr (blk by') w3 := by
        intro qr by' w3 g3 hs3 hw3 hx3 hy3 nby nyx hb3 hq3
        have d := ext_drew w3
        have gt := g3.trans (gs_of d)
        have hsd := hs3.ext d
        refine ⟨⟨fun w' => Blk w' bw (toA bs) 352 ∧ Blk w' by' #[.int .i64 (lastC c t.right).2.1, .int .i64 (lastC c t.right).2.2.1, .int .u64 (lastC c t.right).2.2.2] 114, ⟨hw3, hy3⟩, _, _, _, fun w' e => e.1.cell (i := 2) (add_blk _ _) rfl, _, _, _, fun w' e => e.1.cell (i := 1) (add_blk _ _) rfl, _, fun w' e => e.2.cell (i := 0) (add_blk _ _) rfl, _, fun w' e => e.2.cell (i := 1) (add_blk _ _) rfl, _, fun w' e => e.2.cell (i := 2) (add_blk _ _) rfl, ?_⟩⟩
        refine do_call Tryz.call213 (c_sitem hsd (ht.gs hs gt) fun w4 g4 hs4 => retS_ret ⟨_, _, _, rfl, ⟨(hw3.ext d).gs g4 nbw, (hy3.ext d).gs g4 nby⟩, ?_⟩)
        have gt4 := gt.trans g4
        refine do_call Tryz.call123 (c_left (ht.gs hs gt4) fun q5 h5 => retS_ret ⟨_, rfl, ⟨(hw3.ext d).gs g4 nbw, (hy3.ext d).gs g4 nby⟩, ?_⟩)
        refine do_tojoin ((hb3.ext d).gs g4 nbs) hs4 h5 ((hq3.ext d).gs hsd g4) okk.1 lp.1.1 (by omega) fun q6 w6 g6 hs6 h6 => retS_ret ⟨_, rfl, ⟨((hw3.ext d).gs g4 nbw).gs g6 nbw, ((hy3.ext d).gs g4 nby).gs g6 nby⟩, ?_⟩
        have hx6 := ((hx3.ext d).gs g4 nbx).gs g6 nbx
        refine do_st3 hx6 fun w7 hx7 g7 => ?_
        exact ⟨_, hx7.cell (i := 0) (add_blk _ _) rfl, _, hx7.cell (i := 1) (add_blk _ _) rfl, _, hx7.cell (i := 2) (add_blk _ _) rfl, h _ _ ((gt4.trans g6).st g7 (by omega)) (hs6.st g7 nbx) (h6.st g7 hx6 (by decide))⟩
      have hb2 := hb.ext E
      have d := ext_drew w2
      refine ⟨⟨fun w' => Blk w' bw (toA bs) 352, hw, _, _, _, fun w' e => e.cell (i := 0) (add_blk _ _) rfl, _, _, _, fun w' e => e.cell (i := 1) (add_blk _ _) rfl, _, _, _, fun w' e => e.cell (i := 2) (add_blk _ _) rfl, _, _, _, fun w' e => e.cell (i := 0) (add_blk _ _) rfl, ?_, ?_⟩⟩
      · refine do_call Tryz.call125 (c_right (ht2.ext d) fun q4 h4 => retS_ret ⟨_, rfl, hw, ?_, ?_⟩)
        · refine do_call Tryz.call307 (ih t.right (by omega) hrn (hs2.ext d) (hb2.ext d) h4 okk.2 (by omega) fun q5 w5 g5 hs5 h5 => retS_ret ⟨_, _, _, _, rfl, (hw.ext d).gs g5 nbw, ⟨?_⟩⟩)
          have e6 := ext_alloc w5 (.cells #[.int .i64 0, .int .i64 0, .int .u64 0] 114)
          have hw6 := ((hw.ext d).gs g5 nbw).ext e6
          have hx6 := ((hx.ext d).gs g5 nbx).ext e6
          have hb6 := ((hb2.ext d).gs g5 nbs).ext e6
          refine ⟨hw6, do_st3 (blk_alloc w5 _ _) fun w7 hy7 g7 => ?_⟩
          have l5 := World.grownBy.size g5
          have l5 : w2.heap.size ≤ w5.heap.size := l5
          have hbsl := hb2.lt
          have hblt := hs2.lt
          exact hK45 _ _ _ ((((gs_of (E.trans d)).trans g5).trans (gs_of e6)).st g7 (by omega)) ((hs5.ext e6).st g7 (by omega)) (hw6.grown g7 (ne_some (by omega))) (hx6.grown g7 (ne_some (by omega))) hy7 (by omega) (by omega) (hb6.grown g7 (ne_some (by omega))) ((h5.ext e6).st g7 (blk_alloc w5 _ _) (by decide))
        · have e6 := ext_alloc w2.drew (.cells #[.int .i64 0, .int .i64 0, .int .u64 0] 114)
          have hy6 := blk_alloc w2.drew #[.int .i64 0, .int .i64 0, .int .u64 0] 114
          refine ⟨(hw.ext d).ext e6, ?_⟩
          have hbsl := hb2.lt
          have hblt := hs2.lt
          have hys : w2.drew.heap.size = w2.heap.size := rfl
          refine do_call Tryz.call307 (ih t.right (by omega) hrn ((hs2.ext d).ext e6) ((hb2.ext d).ext e6) (h4.ext e6) okk.2 (by omega) fun q5 w5 g5 hs5 h5 => retS_ret ⟨_, _, _, _, rfl, ((hw.ext d).ext e6).gs g5 nbw, ?_⟩)
          have hy5 := hy6.gs g5 (by omega)
          refine do_st3 hy5 fun w7 hy7 g7 => ?_
          exact hK45 _ _ _ (((gs_of ((E.trans d).trans e6)).trans g5).st g7 (by omega)) (hs5.st g7 (by omega)) ((((hw.ext d).ext e6).gs g5 nbw).grown g7 (ne_some (by omega))) ((((hx.ext d).ext e6).gs g5 nbx).grown g7 (ne_some (by omega))) hy7 (by omega) (by omega) ((((hb2.ext d).ext e6).gs g5 nbs).grown g7 (ne_some (by omega))) (h5.st g7 hy5 (by decide))
      · have e6 := ext_alloc w2.drew (.cells #[.int .i64 0, .int .i64 0, .int .u64 0] 114)
        have hy6 := blk_alloc w2.drew #[.int .i64 0, .int .i64 0, .int .u64 0] 114
        refine ⟨(hw.ext d).ext e6, ?_⟩
        have hbsl := hb2.lt
        have hblt := hs2.lt
        have hys : w2.drew.heap.size = w2.heap.size := rfl
        refine do_call Tryz.call125 (c_right ((ht2.ext d).ext e6) fun q4 h4 => retS_ret ⟨_, rfl, (hw.ext d).ext e6, ?_⟩)
        refine do_call Tryz.call307 (ih t.right (by omega) hrn ((hs2.ext d).ext e6) ((hb2.ext d).ext e6) h4 okk.2 (by omega) fun q5 w5 g5 hs5 h5 => retS_ret ⟨_, _, _, _, rfl, ((hw.ext d).ext e6).gs g5 nbw, ?_⟩)
        have hy5 := hy6.gs g5 (by omega)
        refine do_st3 hy5 fun w7 hy7 g7 => ?_
        exact hK45 _ _ _ (((gs_of ((E.trans d).trans e6)).trans g5).st g7 (by omega)) (hs5.st g7 (by omega)) ((((hw.ext d).ext e6).gs g5 nbw).grown g7 (ne_some (by omega))) ((((hx.ext d).ext e6).gs g5 nbx).grown g7 (ne_some (by omega))) hy7 (by omega) (by omega) ((((hb2.ext d).ext e6).gs g5 nbs).grown g7 (ne_some (by omega))) (h5.st g7 hy5 (by decide))
end Go.Proofs.YtlddfgfmkapoiaaGreat

