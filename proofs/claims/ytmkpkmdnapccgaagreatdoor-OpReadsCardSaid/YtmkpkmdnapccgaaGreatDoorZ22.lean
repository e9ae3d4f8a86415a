/-
  How ops are written, how long that is: plain laws. No claim of its own.
-/
import Derived.Test.YtmkpkmdnapccgaaGreatDoorZ21
import Derived.Lib.ItoaLen
import Derived.Lib.Join
import Derived.Lib.SplitLaws
import Derived.Test.YtmkpkmdnapccgaaGreatDoorShf
import Derived.Lib.LaidTab

set_option maxRecDepth 100000
set_option maxHeartbeats 6400000
namespace Go.Proofs.YtmkpkmdnapccgaaGreatDoor
open Go Go.Sh Go.RowKit

def fixP : List Part := [.a, .b, .key, .val, .lo, .hi, .n, .pol, .pred, .pairs, .keys]
theorem fix_parts (d : Int) : fixP.filter (fun p => hasP p d) = partsOf d := by
  unfold hasP
  exact partsOf_cases d (C := fun l => fixP.filter (fun p => decide (p ∈ l)) = l) (by decide) (by decide) (by decide) (by decide) (by decide) (by decide) (by decide) (by decide) (by decide) (by decide) (by decide) (by decide)
theorem filter_flat {α β : Type} (f : α → List β) (q : α → Bool) : ∀ l : List α, (l.filter q).flatMap f = l.flatMap fun p => if q p = true then f p else []
  | [] => rfl
  | x :: l => by
    rw [List.filter_cons, List.flatMap_cons]
    cases h : q x
    · simp only [Bool.false_eq_true, if_false, List.nil_append]; exact filter_flat f q l
    · simp only [if_true, List.flatMap_cons]; rw [filter_flat f q l]
theorem parts_flat {β : Type} (f : Part → List β) (d : Int) : (partsOf d).flatMap f = fixP.flatMap fun p => if hasP p d = true then f p else [] := by
  rw [← fix_parts d]
  exact filter_flat f (fun p => hasP p d) fixP
theorem joinW_cons : ∀ (w : Bs) (ws : List Bs), joinW (w :: ws) = w ++ ws.flatMap fun v => 32 :: v
  | w, [] => by simp [joinW]
  | w, v :: ws => by rw [joinW, joinW_cons v ws, List.flatMap_cons, List.cons_append]
def lnP (x : POp) (p : Part) : Bs := (wrW p x).flatMap fun v => 32 :: v
def lnIf (x : POp) (p : Part) : Bs := if hasP p x.op = true then lnP x p else []
theorem lineO_fix (x : POp) : lineO x = opNames.getD x.op.toNat [] ++ fixP.flatMap (lnIf x) := by
  unfold lineO wordsOf
  rw [joinW_cons, List.flatMap_assoc, parts_flat]; rfl
theorem lnIf_pairs {x : POp} (h : Masked x) : lnIf x .pairs = lnP x .pairs := by
  unfold lnIf hasP
  by_cases hp : Part.pairs ∈ partsOf x.op
  · rw [decide_eq_true hp]; rfl
  · have e : ([] : List (Int × Int)) = x.pairs := h _ hp
    rw [decide_eq_false hp]
    simp only [lnP, wrW, ← e]
    rfl
theorem lnIf_keys {x : POp} (h : Masked x) : lnIf x .keys = lnP x .keys := by
  unfold lnIf hasP
  by_cases hp : Part.keys ∈ partsOf x.op
  · rw [decide_eq_true hp]; rfl
  · have e : ([] : List Int) = x.keys := h _ hp
    rw [decide_eq_false hp]
    simp only [lnP, wrW, ← e]
    rfl

theorem dec_len {v : Int} (h : In v) : (Go.Sh.dec v).length ≤ 21 := Lib.itoa_length_le v h.1 (by have := h.2; omega)
theorem prW_len {p : Int × Int} (h : In p.1 ∧ In p.2) : (prW p).length ≤ 43 := by
  have := dec_len h.1
  have := dec_len h.2
  unfold prW
  rw [List.length_append, List.length_cons]; omega
theorem getD_len {ns : List Bs} {m : Nat} (h : ∀ w ∈ ns, w.length ≤ m) (k : Nat) : (ns.getD k []).length ≤ m := by
  rw [List.getD_eq_getElem?_getD]
  cases hk : ns[k]? with
  | none => simp
  | some w => exact h w (List.mem_of_getElem? hk)
theorem words_len {x : POp} (h : InO x) : ∀ w ∈ wordsOf x, w.length ≤ 43 := by
  have t1 : ∀ w ∈ opNames, w.length ≤ 43 := by decide
  have t2 : ∀ w ∈ polNames, w.length ≤ 43 := by decide
  have t3 : ∀ w ∈ kindNames, w.length ≤ 43 := by decide
  have hd : ∀ {v : Int}, In v → (Go.Sh.dec v).length ≤ 43 := fun hv => Nat.le_trans (dec_len hv) (by omega)
  intro w hw
  rcases List.mem_cons.1 hw with rfl | hw
  · exact getD_len t1 _
  · obtain ⟨p, _, hw⟩ := List.mem_flatMap.1 hw
    cases p <;> simp only [wrW, List.mem_singleton, List.mem_map, List.mem_append] at hw
    case pairs => obtain ⟨p, hp, rfl⟩ := hw; exact prW_len (h.pairs p hp)
    case keys => obtain ⟨p, hp, rfl⟩ := hw; exact hd (h.keys p hp)
    case pol => rw [hw]; exact getD_len t2 _
    case pred =>
      rcases hw with hw | hw | hw
      · split at hw
        · obtain rfl : w = notW := by simpa using hw
          decide
        · simp at hw
      · rw [hw]; exact getD_len t3 _
      · split at hw
        · simp at hw
        · simp only [List.mem_cons, List.not_mem_nil, or_false] at hw
          rcases hw with rfl | rfl
          · exact hd h.pa
          · exact hd h.pb
    case a => rw [hw]; exact hd h.a
    case b => rw [hw]; exact hd h.b
    case n => rw [hw]; exact hd h.n
    case key => rw [hw]; exact hd h.key
    case val => rw [hw]; exact hd h.val
    case lo => rw [hw]; exact hd h.lo
    case hi => rw [hw]; exact hd h.hi
theorem flat_len {α β : Type} {f : α → List β} {m : Nat} : ∀ {l : List α}, (∀ a ∈ l, (f a).length ≤ m) → (l.flatMap f).length ≤ l.length * m
  | [], _ => by simp
  | a :: l, h => by
    have h1 := h a (by simp)
    have h2 := flat_len (f := f) (l := l) fun b hb => h b (by simp [hb])
    rw [List.flatMap_cons, List.length_append, List.length_cons, Nat.succ_mul]; omega
theorem joinW_len {ws : List Bs} (h : ∀ w ∈ ws, w.length ≤ 43) : (joinW ws).length ≤ ws.length * 44 := by
  cases ws with
  | nil => simp [joinW]
  | cons w ws =>
    have h1 := h w (by simp)
    have h2 : (ws.flatMap fun v => 32 :: v).length ≤ ws.length * 44 := flat_len fun v hv => by
      have := h v (by simp [hv])
      simp only [List.length_cons]; omega
    rw [joinW_cons, List.length_append, List.length_cons, Nat.succ_mul]; omega
theorem parts_len (d : Int) : (partsOf d).length ≤ 4 := partsOf_cases d (C := fun l => l.length ≤ 4) (by decide) (by decide) (by decide) (by decide) (by decide) (by decide) (by decide) (by decide) (by decide) (by decide) (by decide) (by decide)
def encR (l : List POp) : Bs × Int := if ∀ x ∈ l, mayO x = true then (encO l, 0) else ([], 2)
def lineR (x : POp) : Bs × Int := if mayO x = true then (lineO x, 0) else ([], 2)
end Go.Proofs.YtmkpkmdnapccgaaGreatDoor

namespace Go.Proofs.YtmkpkmdnapccgaaGreatDoor
open Go Go.Sh Go.RowKit

theorem index_one (b c : UInt8) (l : Bs) : Lib.index (b :: l) [c] = if b = c then 0 else if Lib.index l [c] = -1 then -1 else Lib.index l [c] + 1 := by
  rw [Lib.index]
  have e : List.isPrefixOf [c] (b :: l) = decide (b = c) := by
    simp only [List.isPrefixOf, Bool.and_true]
    by_cases h : b = c
    · subst h; simp
    · rw [decide_eq_false h, beq_eq_false_iff_ne]; exact fun e => h e.symm
  rw [e]
  by_cases h : b = c
  · rw [if_pos h, decide_eq_true h]; rfl
  · rw [if_neg h, decide_eq_false h]
    simp only [Bool.false_eq_true, if_false, beq_iff_eq]
theorem split_eq : ∀ s : Bs, Lib.splitK [32] 0 (s.count 32) s = splitW s
  | [] => rfl
  | b :: l => by
    have ih := split_eq l
    rw [splitW]
    by_cases hb : b = 32
    · subst hb
      rw [if_pos rfl, List.count_cons_self, Lib.splitK, index_one, if_pos rfl, if_neg (by decide)]
      simp only [Int.toNat_zero, Nat.zero_add, List.take_zero, List.length_cons, List.length_nil, List.drop_succ_cons, List.drop_zero]
      rw [ih]
    · rw [if_neg hb, List.count_cons_of_ne (by simpa using hb)]
      cases hk : l.count 32 with
      | zero =>
        rw [hk] at ih
        rw [← ih]; rfl
      | succ k =>
        rw [hk] at ih
        rw [← ih]
        simp only [Lib.splitK]
        rw [index_one, if_neg hb]
        by_cases hi : Lib.index l [32] = -1
        · rw [if_pos hi, hi]; rfl
        · have hg := Lib.index_ge l [32]
          rw [if_neg hi, if_neg (by simp; omega), if_neg (by simpa using hi)]
          rw [show (Lib.index l [32] + 1).toNat = (Lib.index l [32]).toNat + 1 by omega]
          simp only [Nat.add_zero, List.take_succ_cons, List.length_cons, List.length_nil, Nat.zero_add, List.drop_succ_cons]
theorem cut_eq : ∀ s : Bs, Lib.cut s [58] = match cutC s with | some (a, b) => (a, b, true) | none => (s, [], false)
  | [] => by decide
  | b :: l => by
    have ih := cut_eq l
    unfold Lib.cut at ih ⊢
    rw [cutC, index_one]
    by_cases hb : b = 58
    · subst hb
      rw [if_pos rfl, if_pos rfl, if_pos (by decide)]; rfl
    · rw [if_neg hb, if_neg hb]
      have hg := Lib.index_ge l [58]
      by_cases hi : Lib.index l [58] = -1
      · rw [hi] at ih
        rw [if_neg (by decide)] at ih
        rw [if_pos hi, if_neg (by decide)]
        cases hc : cutC l with
        | none => rfl
        | some r => rw [hc] at ih; simp at ih
      · rw [if_pos (by omega)] at ih
        rw [if_neg hi, if_pos (by omega)]
        rw [show (Lib.index l [58] + 1).toNat = (Lib.index l [58]).toNat + 1 by omega]
        cases hc : cutC l with
        | none => rw [hc] at ih; simp at ih
        | some r =>
          rw [hc] at ih
          obtain ⟨x, y⟩ := r
          simp only [Prod.mk.injEq, and_true] at ih
          simp only [Option.map_some, Prod.mk.injEq, and_true]
          refine ⟨by rw [List.take_succ_cons, ih.1], ?_⟩
          show List.drop ((Lib.index l [58]).toNat + 1 + 1) (b :: l) = y
          rw [List.drop_succ_cons]
          exact ih.2
theorem join_eq : ∀ ws : List Bs, Lib.join ws [32] = joinW ws
  | [] => rfl
  | w :: ws => by
    rw [Lib.join_cons, joinW_cons]
    rfl
end Go.Proofs.YtmkpkmdnapccgaaGreatDoor

namespace Go.Proofs.YtmkpkmdnapccgaaGreatDoor
open Go Go.Sh Go.RowKit

def gT : Nat := 0
abbrev Tab (w : World) : Prop := Lib.TabIs Tryz.prog w "internal/strconv.uint64pow10" .u64 Lib.pow10Tab
theorem tab_global : Tryz.prog.globalNamed "internal/strconv.uint64pow10" = some gT := by kernel_rfl
theorem tab_of {w w' : World} (h : Tab w) (e : w'.heap[gT]? = w.heap[gT]?) : Tab w' := by
  unfold Tab Lib.TabIs World.var? at h ⊢
  rw [tab_global] at h ⊢
  simp only [Option.bind_some] at h ⊢
  rw [e]; exact h
theorem tab_lt {w : World} (h : Tab w) : gT < w.heap.size := by
  unfold Tab Lib.TabIs World.var? at h
  rw [tab_global] at h
  simp only [Option.bind_some] at h
  split at h
  · rename_i hh; exact (Array.getElem?_eq_some_iff.1 hh).1
  · cases h
theorem tab_ext {w w' : World} (h : Tab w) (e : Ext w w') : Tab w' := tab_of h (e.block _ (tab_lt h))
theorem ext_grow (w : World) (k : Nat) (os : Array Obj) : Ext w (Sort.grow (w.drewN k) os) := ⟨rfl, rfl, rfl, by simp [Sort.grow, World.drewN], fun j hj => by simp [Sort.grow, World.drewN, Array.getElem?_append, hj]⟩
theorem c_fmt {v : Int} {w : World} {R : EW} (hv : In v) (hT : Tab w) (h : ∀ w', Ext w w' → R (.returned (strB (Go.Sh.dec v))) w') : Calls Tryz.prog 35 #[.int .i64 v, .int .i64 10] w R :=
  (Tryz.strconv_FormatInt_10 v hv.1 (by have := hv.2; omega) w hT).mono fun e w' ⟨he, k, os, hw⟩ => by
    subst he hw
    exact h _ (ext_grow w k os)
theorem c_wdec {v : Int} {w : World} {R : EW} (hv : In v) (hT : Tab w) (h : ∀ w', Ext w w' → R (.returned (strB (Go.Sh.dec v))) w') : Calls Tryz.prog 194 #[.int .i64 v] w R := by
  refine sh194_ok _ ?_
  unfold sh194
  exact do_call Tryz.call35 (c_fmt hv hT fun w1 e1 => retS_ret ⟨_, rfl, h w1 e1⟩)
theorem cat_B (a b : Bs) : (⟨a.toArray⟩ : ByteArray) ++ (⟨b.toArray⟩ : ByteArray) = ⟨(a ++ b).toArray⟩ := by
  apply ByteArray.ext
  simp
theorem do_cat {a b : Bs} {K : ByteArray → Prop} (h : a.length + b.length ≤ 9223372036854775807) (k : K ⟨(a ++ b).toArray⟩) : doCat ⟨a.toArray⟩ ⟨b.toArray⟩ K := ⟨by simpa [ByteArray.size] using h, by rw [cat_B]; exact k⟩

theorem strs_app (a b : List Bs) : strs (a ++ b) = strs a ++ strs b := by simp [strs]
theorem strs_len (a : List Bs) : (strs a).length = a.length := by simp [strs]
theorem strs_one (l : List Bs) : ∀ u ∈ strs l, u.oneCell' = true := fun u hu => by
  simp only [strs, List.mem_map] at hu
  obtain ⟨x, _, rfl⟩ := hu
  rfl
theorem elStr : ElT Tryz.prog 62 9 (.string ⟨#[]⟩) 1 16 := ⟨Tryz.underlying62, ⟨_, Tryz.type9, by kernel_rfl, by kernel_rfl, by kernel_rfl⟩, rfl, by omega⟩
structure WoI (w0 : World) (cb : Nat) (w : World) (s : List Bs) : Prop where
  ex : ∃ p c, Blk w cb #[.slice p s.length c] 64 ∧ w.ownsRow (cb + 1) 9 1 (.slice p s.length c) s.length (strs s)
  gl : w.heap[gT]? = w0.heap[gT]?
  lt : gT < cb
  tab : Tab w0
def WoOwn (cb : Nat) (w : World) (k : Nat) : Prop := OutOwn cb w k ∨ k = gT
theorem WoI.t {w0 : World} {cb : Nat} {w : World} {s : List Bs} (h : WoI w0 cb w s) : Tab w := tab_of h.tab h.gl
theorem wo_lt {w0 : World} {cb : Nat} {w : World} {s : List Bs} {k : Nat} (hI : WoI w0 cb w s) (h : WoOwn cb w k) : k < w.heap.size := by
  obtain ⟨p, c, hb, hr⟩ := hI.ex
  rcases h with h | rfl
  · rcases (out_own hb k).1 h with rfl | h
    · exact hb.lt
    · exact (hr.lt k h).2
  · exact tab_lt hI.t
theorem wo_keep {w0 : World} {cb : Nat} {w w' : World} {s : List Bs} (hI : WoI w0 cb w s) (h : ∀ k, WoOwn cb w k → w'.heap[k]? = w.heap[k]?) : WoI w0 cb w' s ∧ ∀ k, WoOwn cb w' k ↔ WoOwn cb w k := by
  obtain ⟨p, c, hb, hr⟩ := hI.ex
  have hb' : Blk w' cb #[.slice p s.length c] 64 := by unfold Blk; rw [h cb (.inl (.inl rfl))]; exact hb
  exact ⟨⟨⟨p, c, hb', keep_row hr fun b hbb => h b (.inl ((out_own hb b).2 (.inr hbb)))⟩, (h gT (.inr rfl)).trans hI.gl, hI.lt, hI.tab⟩, fun k => by unfold WoOwn; rw [out_own hb', out_own hb]⟩
theorem wo_ext {w0 : World} {cb : Nat} {w w' : World} {s : List Bs} {S : Nat → Prop} (hI : WoI w0 cb w s) (e : Ext w w') : WoI w0 cb w' s ∧ Chg (WoOwn cb) S w w' := by
  have k := wo_keep hI fun k hk => e.block k (wo_lt hI hk)
  exact ⟨k.1, e.os, e.tape, e.output, e.size, fun k hk _ _ => e.block k hk, fun j _ h1 h2 => h1 ((k.2 j).1 h2)⟩
theorem wo_extO {w0 : World} {cb : Nat} {w w' : World} {s : List Bs} (hI : WoI w0 cb w s) (e : Ext w w') {b : Nat} (h : ¬ WoOwn cb w b) : ¬ WoOwn cb w' b := fun hk => h (((wo_keep hI fun k hk => e.block k (wo_lt hI hk)).2 b).1 hk)
theorem wo_app {w0 : World} {cb : Nat} {w : World} {s : List Bs} {p : OA} {n c : Nat} {x : Bs} {nb : Nat} {bs : Array Bool} {Kf : OA → Nat → Nat → World → Prop} {Kp : List PanicEntry → World → Prop} (hb : Blk w cb #[.slice p n c] 64) (hI : WoI w0 cb w s) (hl : s.length ≤ lim + 1000) (hx : Cs w (some (blk nb)) (strs [x]))
    (h : ∀ p' c' w', Blk w' cb #[.slice p n c] 64 → w'.ownsRow (cb + 1) 9 1 (.slice p' (s.length + 1) c') (s.length + 1) (strs (s ++ [x])) → Chg (WoOwn cb) (fun _ => False) w w' →
      (∀ k, (Value.slice p' (s.length + 1) c').ownBlock = some k → OutOwn cb w k ∨ w.heap.size ≤ k) → w'.heap[gT]? = w.heap[gT]? → Kf p' (s.length + 1) c' w') :
    doGo Tryz.prog (.builtin .append #[62, 62] 62 bs) #[.slice p n c, .slice (some (blk nb)) 1 1] w (retS (fun v w' => ∃ a b d, v = (.slice a b d : Value) ∧ Kf a b d w') Kp) := by
  obtain ⟨p0, c0, hb0, hr⟩ := hI.ex
  have e := blk_inj hb hb0
  injection e with e1 e2 e3
  subst e1 e2 e3
  have hlim : lim = 1000000000000 := rfl
  refine do_append' elStr hr hx (by simp [strs]) (strs_one _) (by simp only [maxLen]; omega) (by omega) hb.lt fun p' c' w' h2 g n10 => retS_ret ⟨p', _, c', rfl, ?_⟩
  have hne : some cb ≠ (Value.slice p s.length c).ownBlock := fun e => by have := (hr.lt cb e.symm).1; omega
  have hb' := hb.grown g hne
  have hg : some gT ≠ (Value.slice p s.length c).ownBlock := fun e => by have := (hr.lt gT e.symm).1; have := hI.lt; omega
  refine h p' c' w' hb' (by rw [strs_app]; exact h2) ⟨g.os, g.tape, g.output, g.size, fun k hk ho _ => g.block k hk fun e => ho (.inl ((out_own hb k).2 (.inr e.symm))), fun k _ ho h => ho ?_⟩ (fun k hk => ?_) (g.block gT (tab_lt hI.t) hg)
  · rcases h with h | h
    · exact .inl ((out_own hb k).2 ((out_own hb' k).1 h))
    · exact .inr h
  · rcases n10 k hk with h | h
    · exact .inl ((out_own hb k).2 (.inr h))
    · exact .inr h
theorem wo_put {w0 : World} {cb : Nat} {w w' : World} {s : List Bs} {p p' : OA} {n c c' : Nat} {x : Bs} {K : World → Prop} (hw : WoI w0 cb w s) (hb' : Blk w' cb #[.slice p n c] 64)
    (hr : w'.ownsRow (cb + 1) 9 1 (.slice p' (s.length + 1) c') (s.length + 1) (strs (s ++ [x]))) (hc : Chg (WoOwn cb) (fun _ => False) w w') (hn : ∀ k, (Value.slice p' (s.length + 1) c').ownBlock = some k → OutOwn cb w k ∨ w.heap.size ≤ k) (hg : w'.heap[gT]? = w.heap[gT]?)
    (h : ∀ w'', WoI w0 cb w'' (s ++ [x]) → Chg (WoOwn cb) (fun _ => False) w w'' → K w'') : doSt (((blk cb).add 0).add 0) (.slice p' (s.length + 1) c') w' K := by
  refine do_st hb' (i := 0) rfl (by simp) fun w'' h2 g2 => ?_
  have h2 : Blk w'' cb #[.slice p' (s.length + 1) c'] 64 := h2
  have hr2 := hr.kept g2 (.inr fun e => by have := (hr.lt cb e).1; omega)
  have hT := tab_lt hw.t
  have hne : some gT ≠ some cb := ne_some (by have := hw.lt; omega)
  refine h w'' ⟨⟨p', c', by rw [List.length_append]; exact h2, by rw [List.length_append]; exact hr2⟩, ((g2.block gT (Nat.lt_of_lt_of_le hT hc.size) hne).trans hg).trans hw.gl, hw.lt, hw.tab⟩ ⟨g2.os.trans hc.os, g2.tape.trans hc.tape, g2.output.trans hc.output, Nat.le_trans hc.size g2.size, fun k hk ho hs => ?_, fun k hk ho h => ?_⟩
  · rw [g2.block k (Nat.lt_of_lt_of_le hk hc.size) (fun e => ho (by cases e; exact .inl (.inl rfl))), hc.block k hk ho hs]
  · rcases h with h | h
    · rcases (out_own h2 k).1 h with rfl | h
      · exact ho (.inl (.inl rfl))
      · rcases hn k h with h | h
        · exact ho (.inl h)
        · omega
    · exact ho (.inr h)
theorem wo_push {w0 : World} {cb : Nat} {w : World} {s : List Bs} {p : OA} {n c : Nat} {x : Bs} {nb : Nat} {bs : Array Bool} {C : World → Prop} {R : EW} {ch : EW} (hb : Blk w cb #[.slice p n c] 64) (hI : WoI w0 cb w s) (hl : s.length ≤ lim + 1000) (hx : Blk w nb #[strB x] 9)
    (hC : ∀ w', Blk w' cb #[.slice p n c] 64 → Chg (WoOwn cb) (fun _ => False) w w' → C w') (h : ∀ w', WoI w0 cb w' (s ++ [x]) → Chg (WoOwn cb) (fun _ => False) w w' → R (.returned unitV) w') :
    doGo Tryz.prog (.builtin .append #[62, 62] 62 bs) #[.slice p n c, .slice (some (blk nb)) 1 1] w (retS (fun v w' => ∃ a b d, v = (.slice a b d : Value) ∧ (C w' ∧ ∃ q, some (blk cb) = some q ∧ doSt ((q.add 0).add 0) (.slice a b d) w' fun w'' => R (.returned unitV) w'')) (fun c' w' => ch (.panicked c') w')) :=
  wo_app hb hI hl (cs_blk hx) fun p' c' w' hb' hr' c4 hn hg => ⟨hC w' hb' c4, _, rfl, wo_put hI hb' hr' c4 hn hg fun w'' hI' c5 => h w'' hI' c5⟩
theorem c_wonum {w0 : World} {cb : Nat} {w : World} {s : List Bs} {b i : Nat} {cs : Array Value} {t : TypeId} {v : Int} {R : EW} (hI : WoI w0 cb w s) (hl : s.length ≤ lim) (ho : ¬ WoOwn cb w b) (hb : Blk w b cs t) (hc : cs[i]? = some (.int .i64 v)) (hv : In v)
    (h : ∀ w', WoI w0 cb w' (s ++ [Go.Sh.dec v]) → Chg (WoOwn cb) (fun _ => False) w w' → R (.returned unitV) w') : Calls Tryz.prog 191 #[.pointer (some (blk cb)), .pointer (some ⟨b, i, none⟩)] w R := by
  refine sh191_ok _ _ ?_
  unfold sh191
  refine ⟨?_⟩
  have e1 := ext_drew w
  have hI1 := wo_ext (S := fun _ => False) hI e1
  have hb1 := hb.ext e1
  have ho1 := wo_extO hI e1 ho
  generalize w.drew = w1 at *
  obtain ⟨p, c, hcb, hr⟩ := hI1.1.ex
  refine ⟨fun w' => Blk w' cb #[.slice p s.length c] 64 ∧ Blk w' b cs t, ⟨hcb, hb1⟩, _, rfl, _, _, _, fun w' h' => h'.1.cell (i := 0) rfl rfl, _, rfl, _, fun w' h' => h'.2.cell (i := i) rfl hc, ?_⟩
  refine do_call Tryz.call194 (c_wdec hv hI1.1.t fun w2 e2 => retS_ret ⟨_, rfl, ⟨hcb.ext e2, hb1.ext e2⟩, do_al fun nb w3 e3 hx l3 => ⟨⟨(hcb.ext e2).ext e3, (hb1.ext e2).ext e3⟩, ?_⟩⟩)
  have e23 := e2.trans e3
  have hI3 := wo_ext (S := fun _ => False) hI1.1 e23
  have ho3 := wo_extO hI1.1 e23 ho1
  exact wo_push (hcb.ext e23) hI3.1 (by omega) hx (fun w' hb' c4 => ⟨hb', c4.blk (hb1.ext e23) ho3 fun h => h⟩) fun w4 hI4 c4 => h w4 hI4 ((hI1.2.trans hI3.2).trans c4)
theorem c_wopair {w0 : World} {cb : Nat} {w : World} {s : List Bs} {b : Nat} {t : TypeId} {v : Int × Int} {R : EW} (hI : WoI w0 cb w s) (hl : s.length ≤ lim) (ho : ¬ WoOwn cb w b) (hb : Blk w b #[.int .i64 v.1, .int .i64 v.2] t) (hv : In v.1 ∧ In v.2)
    (h : ∀ w', WoI w0 cb w' (s ++ [prW v]) → Chg (WoOwn cb) (fun _ => False) w w' → R (.returned unitV) w') : Calls Tryz.prog 192 #[.pointer (some (blk cb)), .pointer (some ⟨b, 0, none⟩)] w R := by
  refine sh192_ok _ _ ?_
  unfold sh192
  refine ⟨?_⟩
  have e1 := ext_drew w
  have hI1 := wo_ext (S := fun _ => False) hI e1
  have hb1 := hb.ext e1
  have ho1 := wo_extO hI e1 ho
  generalize w.drew = w1 at *
  obtain ⟨p, c, hcb, hr⟩ := hI1.1.ex
  refine ⟨fun w' => Blk w' cb #[.slice p s.length c] 64 ∧ Blk w' b #[.int .i64 v.1, .int .i64 v.2] t, ⟨hcb, hb1⟩, _, rfl, _, _, _, fun w' h' => h'.1.cell (i := 0) rfl rfl, _, rfl, _, fun w' h' => h'.2.cell (i := 0) rfl rfl, _, rfl, _, fun w' h' => h'.2.cell (i := 1) rfl rfl, ?_⟩
  have l1 := dec_len hv.1
  have l2 := dec_len hv.2
  refine do_call Tryz.call194 (c_wdec hv.1 hI1.1.t fun w2 e2 => retS_ret ⟨_, rfl, ⟨hcb.ext e2, hb1.ext e2⟩, do_cat (b := [58]) (by simp only [List.length_cons, List.length_nil]; omega) ?_⟩)
  refine do_call Tryz.call194 (c_wdec hv.2 (tab_ext hI1.1.t e2) fun w3 e3 => retS_ret ⟨_, rfl, ⟨(hcb.ext e2).ext e3, (hb1.ext e2).ext e3⟩, do_cat (by simp only [List.length_append, List.length_cons, List.length_nil]; omega) ?_⟩)
  refine do_al fun nb w4 e4 hx l4 => ⟨⟨((hcb.ext e2).ext e3).ext e4, ((hb1.ext e2).ext e3).ext e4⟩, ?_⟩
  have e24 := (e2.trans e3).trans e4
  have hI4 := wo_ext (S := fun _ => False) hI1.1 e24
  have ho4 := wo_extO hI1.1 e24 ho1
  refine wo_push (x := prW v) (hcb.ext e24) hI4.1 (by omega) (by unfold prW; rw [show Go.Sh.dec v.1 ++ 58 :: Go.Sh.dec v.2 = (Go.Sh.dec v.1 ++ [58]) ++ Go.Sh.dec v.2 by simp]; exact hx) (fun w' hb' c5 => ⟨hb', c5.blk (hb1.ext e24) ho4 fun h => h⟩) fun w5 hI5 c5 => h w5 hI5 ((hI1.2.trans hI4.2).trans c5)
theorem c_woword {w0 : World} {cb : Nat} {w : World} {s : List Bs} {b i : Nat} {cs : Array Value} {t : TypeId} {v : Int} {names : List Bs} {q : OA} {n cap : Nat} {R : EW} (hI : WoI w0 cb w s) (hl : s.length ≤ lim) (ho : ¬ WoOwn cb w b) (hb : Blk w b cs t) (hc : cs[i]? = some (.int .u8 v)) (hv : 0 ≤ v)
    (hq : Cs w q (strs names)) (hn : names.length = n) (hvn : v.toNat < names.length)
    (h : ∀ w', WoI w0 cb w' (s ++ [names.getD v.toNat []]) → Chg (WoOwn cb) (fun _ => False) w w' → R (.returned unitV) w') : Calls Tryz.prog 193 #[.pointer (some (blk cb)), .pointer (some ⟨b, i, none⟩), .slice q n cap] w R := by
  refine sh193_ok _ _ _ _ _ ?_
  unfold sh193
  refine ⟨?_⟩
  have e1 := ext_drew w
  have hI1 := wo_ext (S := fun _ => False) hI e1
  have hb1 := hb.ext e1
  have hq1 := hq.ext e1
  have ho1 := wo_extO hI e1 ho
  generalize w.drew = w1 at *
  obtain ⟨p, c, hcb, hr⟩ := hI1.1.ex
  have hw : (strs names)[v.toNat]? = some (strB (names.getD v.toNat [])) := by
    simp [strs, List.getD_eq_getElem?_getD, List.getElem?_eq_getElem hvn]
  obtain ⟨a, ha, hca⟩ := hq1 v.toNat _ hw
  refine ⟨fun w' => Blk w' cb #[.slice p s.length c] 64 ∧ Blk w' b cs t ∧ w'.cell? (a.add v.toNat) = some (strB (names.getD v.toNat [])), ⟨hcb, hb1, hca⟩, _, rfl, _, _, _, fun w' h' => h'.1.cell (i := 0) rfl rfl, _, rfl, _, fun w' h' => h'.2.1.cell (i := i) rfl hc, ?_⟩
  refine ⟨a, ha, hv, by omega, ⟨_, fun w' h' => by rw [Nat.mul_one]; exact h'.2.2, ?_⟩⟩
  refine do_al fun nb w3 e3 hx l3 => ⟨⟨hcb.ext e3, hb1.ext e3, e3.cell hca⟩, ?_⟩
  have hI3 := wo_ext (S := fun _ => False) hI1.1 e3
  have ho3 := wo_extO hI1.1 e3 ho1
  have hc3 := e3.cell hca
  refine wo_app (hcb.ext e3) hI3.1 (by omega) (cs_blk hx) fun p' c' w4 hb4 hr4 c4 hn4 hg4 => ⟨fun _ => True, trivial, _, rfl, wo_put hI3.1 hb4 hr4 c4 hn4 hg4 fun w5 hI5 c5 => ⟨fun _ => True, trivial, h w5 hI5 ((hI1.2.trans hI3.2).trans c5)⟩⟩
theorem c_woflag {w0 : World} {cb : Nat} {w : World} {s : List Bs} {b i : Nat} {cs : Array Value} {t : TypeId} {v : Bool} {R : EW} (hI : WoI w0 cb w s) (hl : s.length ≤ lim) (hb : Blk w b cs t) (hc : cs[i]? = some (.bool v))
    (h : ∀ w', WoI w0 cb w' (if v = true then s ++ [notW] else s) → Chg (WoOwn cb) (fun _ => False) w w' → R (.returned unitV) w') : Calls Tryz.prog 189 #[.pointer (some (blk cb)), .pointer (some ⟨b, i, none⟩)] w R := by
  refine sh189_ok _ _ ?_
  unfold sh189
  refine ⟨_, rfl, _, hb.cell rfl hc, ?_⟩
  cases v
  · exact ifB_f rfl (h w hI (.refl _ _ _))
  obtain ⟨p, c, hcb, hr⟩ := hI.ex
  refine ifB_t rfl ⟨_, rfl, _, _, _, hcb.cell (i := 0) rfl rfl, do_al fun nb w3 e3 hx l3 => ?_⟩
  have hI3 := wo_ext (S := fun _ => False) hI e3
  refine wo_app (x := notW) (hcb.ext e3) hI3.1 (by omega) (cs_blk hx) fun p' c' w4 hb4 hr4 c4 hn4 hg4 => ⟨_, rfl, wo_put hI3.1 hb4 hr4 c4 hn4 hg4 fun w5 hI5 c5 => h w5 hI5 (hI3.2.trans c5)⟩
theorem wo_meth (cp x : Value) (w : World) :
    (invoke (.fn (.method "joinery/op.num") #[]) #[.iface 61 cp, x]).run Tryz.prog w = .ok (.enter 191 #[cp, x]) w ∧ (invoke (.fn (.method "joinery/op.flag") #[]) #[.iface 61 cp, x]).run Tryz.prog w = .ok (.enter 189 #[cp, x]) w ∧
    (invoke (.fn (.method "joinery/op.many") #[]) #[.iface 61 cp, x]).run Tryz.prog w = .ok (.enter 190 #[cp, x]) w ∧ (invoke (.fn (.method "joinery/op.pair") #[]) #[.iface 61 cp, x]).run Tryz.prog w = .ok (.enter 192 #[cp, x]) w :=
  ⟨by kernel_rfl, by kernel_rfl, by kernel_rfl, by kernel_rfl⟩
theorem wo_methw (cp x y : Value) (w : World) : (invoke (.fn (.method "joinery/op.word") #[]) #[.iface 61 cp, x, y]).run Tryz.prog w = .ok (.enter 193 #[cp, x, y]) w := by kernel_rfl
theorem wo_ta (cb : Nat) (w : World) : (Instr.typeAssert (.iface 61 (.pointer (some (blk cb)))) 97 61 true).run Tryz.prog w = .ok (.tuple #[.pointer (some (blk cb)), .bool true]) w ∧
    (Instr.typeAssert (.iface 61 (.pointer (some (blk cb)))) 97 85 true).run Tryz.prog w = .ok (.tuple #[.pointer none, .bool false]) w := ⟨by kernel_rfl, by kernel_rfl⟩
theorem wo_nil (cb : Nat) (w : World) : (nilAhead (Tryz.prog.types.size + Made.depth) 61 (.pointer (some (blk cb))) "joinery/op.word").run Tryz.prog w = .ok (some false) w := by kernel_rfl
def WoB (w0 : World) (cb : Nat) : CBase outW where
  I := WoI w0 cb
  own := WoOwn cb
  lt := wo_lt
  keep := wo_keep
  len := List.length
  grow := 1
  numIn := fun hv h => by
    cases h
    exact ⟨hv, by rw [List.length_append]; simp⟩
  wordIn := fun hk h => by
    cases h
    exact ⟨hk, by rw [List.length_append]; simp⟩
  flagIn := fun {f s f' s'} h => by
    cases h
    cases f
    · simp
    · simp
  manyIn := fun {n s n' s'} hn h => by
    cases h
    exact ⟨Nat.le_max_left _ _, by omega⟩
  pairIn := fun hv h => by
    cases h
    exact ⟨hv, by rw [List.length_append]; simp⟩
theorem c_womany {w0 : World} {cb : Nat} {w : World} {s : List Bs} {b i : Nat} {R : EW} (_ : WoI w0 cb w s) (h : R (.returned unitV) w) : Calls Tryz.prog 190 #[.pointer (some (blk cb)), .pointer (some ⟨b, i, none⟩)] w R := by
  refine sh190_ok _ _ ?_
  unfold sh190
  exact h
def WoC (w0 : World) (cb : Nat) : Coder outW 61 (.pointer (some (blk cb))) where
  toCBase := WoB w0 cb
  pre := fun names v => v.toNat < names.length
  nc := nc_iface
  ncw := nc_func (wo_nil cb)
  ta := ⟨some (blk cb), true, none, false, rfl, fun w S h => ⟨_, (wo_ta cb w).1, h⟩, fun w S h => ⟨_, (wo_ta cb w).2, h⟩⟩
  num := fun {w s b i cs t v R} hI hl ho hb hc hv h _ => do_meth (args := #[.pointer (some ⟨b, i, none⟩)]) (wo_meth _ _ w).1 (c_wonum hI hl ho hb hc hv fun w' hI' c' => h v _ w' rfl hI' (by rw [set_self hc]; exact c'.blk hb ho fun h => h) (chg0 c'))
  word := fun {w s b i cs t v names q n cap R} hI hl ho hb hc hv hq hn hcap hp h _ => do_meth (args := #[.pointer (some ⟨b, i, none⟩), .slice q n cap]) (wo_methw _ _ _ w) (c_woword hI hl ho hb hc hv.1 hq hn hp fun w' hI' c' => h v _ w' rfl hI' (by rw [set_self hc]; exact c'.blk hb ho fun h => h) (chg0 c'))
  flag := fun {w s b i cs t v R} hI hl ho hb hc h _ => do_meth (args := #[.pointer (some ⟨b, i, none⟩)]) (wo_meth _ _ w).2.1 (c_woflag hI hl hb hc fun w' hI' c' => h v _ w' rfl hI' (by rw [set_self hc]; exact c'.blk hb ho fun h => h) (chg0 c'))
  flagD := fun h => by cases h
  many := fun {w s b t v R} hI hl ho hb hv h _ => do_meth (args := #[.pointer (some ⟨b, 0, none⟩)]) (wo_meth _ _ w).2.2.1 (c_womany hI (h v _ w rfl hI hb (.refl _ _ _)))
  pair := fun {w s b t v R} hI hl ho hb hv h _ => do_meth (args := #[.pointer (some ⟨b, 0, none⟩)]) (wo_meth _ _ w).2.2.2 (c_wopair hI hl ho hb hv fun w' hI' c' => h v _ w' rfl hI' (c'.blk hb ho fun h => h) (chg0 c'))
end Go.Proofs.YtmkpkmdnapccgaaGreatDoor

namespace Go.Proofs.YtmkpkmdnapccgaaGreatDoor
open Go Go.Sh Go.RowKit

def pv (w : Bs) : Int := match Lib.parseIntB 64 w with
  | .ok v => v
  | .range => Lib.intSat 64 w
  | _ => 0
theorem pv_undec {w : Bs} {v : Int} (h : undecW w = some v) : pv w = v := by
  unfold undecW at h
  unfold pv
  split at h
  · rename_i u hu
    rw [hu]
    split at h
    · exact Option.some.inj h
    · cases h
  · cases h
theorem pv_in (w : Bs) : In (pv w) := by
  unfold pv
  cases h : Lib.parseIntB 64 w with
  | ok v =>
    have := Lib.parseIntB_bounds h
    rw [show 2 ^ (64 - 1) = 9223372036854775808 from rfl] at this
    simp only
    unfold In
    omega
  | range =>
    simp only
    unfold Lib.intSat In
    split <;> simp
  | _ => simp [In]
def numG (ns : List Bs) (w : Bs) : Nat → Nat → Nat
  | _, 0 => 0
  | k, f + 1 => if ns.getD k [] = w then k else numG ns w (k + 1) f
def numW (ns : List Bs) (w : Bs) : Nat := numG ns w 1 (ns.length - 1)
theorem numG_spec (ns : List Bs) (w : Bs) : ∀ (f k : Nat), (∃ j, k ≤ j ∧ j < k + f ∧ ns.getD j [] = w) → ns.getD (numG ns w k f) [] = w ∧ k ≤ numG ns w k f ∧ numG ns w k f < k + f
  | 0, k, ⟨j, h1, h2, _⟩ => by omega
  | f + 1, k, ⟨j, h1, h2, h3⟩ => by
    rw [numG]
    split
    · rename_i h; exact ⟨h, Nat.le_refl _, by omega⟩
    · rename_i h
      have hj : j ≠ k := fun e => h (e ▸ h3)
      have := numG_spec ns w f (k + 1) ⟨j, by omega, by omega, h3⟩
      exact ⟨this.1, by omega, by omega⟩
theorem numG_le (ns : List Bs) (w : Bs) : ∀ (f k : Nat), numG ns w k f < k + f ∨ numG ns w k f = 0
  | 0, k => .inr rfl
  | f + 1, k => by
    rw [numG]
    split
    · exact .inl (by omega)
    · have := numG_le ns w f (k + 1); omega
theorem numW_find {ns : List Bs} {w : Bs} {v : Int} (h0 : ns[0]? = some []) (hd : ∀ i < ns.length, ∀ j < ns.length, ns.getD i [] = ns.getD j [] → i = j) (h : findW ns 0 w = some v) : (numW ns w : Int) = v := by
  obtain ⟨j, h1, h2, h3⟩ := findW_inv h
  have hj : j < ns.length := (List.getElem?_eq_some_iff.1 h2).1
  have hw : ns.getD j [] = w := by rw [List.getD_eq_getElem?_getD, h2]; rfl
  have hj0 : j ≠ 0 := fun e => by subst e; rw [h0] at h2; cases h2; exact h3 rfl
  have := numG_spec ns w (ns.length - 1) 1 ⟨j, by omega, by omega, hw⟩
  have e := hd _ (show numG ns w 1 (ns.length - 1) < ns.length by omega) _ hj (by rw [this.1, hw])
  unfold numW
  rw [e, h1]; simp
theorem numW_lt {ns : List Bs} (w : Bs) (h : 1 ≤ ns.length) : numW ns w < ns.length := by
  have := numG_le ns w (ns.length - 1) 1
  unfold numW; omega
theorem op_ne : ∀ i < opNames.length, ∀ j < opNames.length, opNames.getD i [] = opNames.getD j [] → i = j := by decide
theorem pol_ne : ∀ i < polNames.length, ∀ j < polNames.length, polNames.getD i [] = polNames.getD j [] → i = j := by decide
theorem knd_ne : ∀ i < kindNames.length, ∀ j < kindNames.length, kindNames.getD i [] = kindNames.getD j [] → i = j := by decide
def prL (w : Bs) : Int × Int := match cutC w with
  | some (a, b) => (pv a, pv b)
  | none => (0, 0)
theorem prL_pairR {w : Bs} {p : Int × Int} (h : pairR w = some p) : prL w = p := by
  unfold pairR at h
  obtain ⟨⟨a, b⟩, hc, h⟩ := Option.bind_eq_some_iff.1 h
  obtain ⟨x, hx, h⟩ := Option.bind_eq_some_iff.1 h
  obtain ⟨y, hy, h⟩ := Option.bind_eq_some_iff.1 h
  cases h
  unfold prL
  rw [hc]
  simp only
  rw [pv_undec hx, pv_undec hy]
def lenPredK (x : POp) (f : Bool) (t : List Bs) : POp × List Bs :=
  if (numW kindNames (t.headD []) : Int) = 1 then ({ x with pnot := f, pk := (numW kindNames (t.headD []) : Int) }, t.tail)
  else ({ x with pnot := f, pk := (numW kindNames (t.headD []) : Int), pa := pv (t.tail.headD []), pb := pv (t.tail.tail.headD []) }, t.tail.tail.tail)
def lenPred (x : POp) (s : List Bs) : POp × List Bs := if s.headD [] = notW then lenPredK x true s.tail else lenPredK x x.pnot s
def lenP : Part → POp → List Bs → POp × List Bs
  | .a, x, s => ({ x with a := pv (s.headD []) }, s.tail)
  | .b, x, s => ({ x with b := pv (s.headD []) }, s.tail)
  | .n, x, s => ({ x with n := pv (s.headD []) }, s.tail)
  | .key, x, s => ({ x with key := pv (s.headD []) }, s.tail)
  | .val, x, s => ({ x with val := pv (s.headD []) }, s.tail)
  | .lo, x, s => ({ x with lo := pv (s.headD []) }, s.tail)
  | .hi, x, s => ({ x with hi := pv (s.headD []) }, s.tail)
  | .pol, x, s => ({ x with pol := (numW polNames (s.headD []) : Int) }, s.tail)
  | .pred, x, s => lenPred x s
  | .pairs, x, s => ({ x with pairs := x.pairs ++ s.map prL }, [])
  | .keys, x, s => ({ x with keys := x.keys ++ s.map pv }, [])
def lens : List Part → POp → List Bs → POp × List Bs
  | [], x, s => (x, s)
  | p :: ps, x, s => lens ps (lenP p x s).1 (lenP p x s).2
def lenAll (s : List Bs) : POp × List Bs := lens (partsOf (numW opNames (s.headD []) : Int)) { POp.zero with op := (numW opNames (s.headD []) : Int) } s.tail
theorem predK_in {x : POp} (h : InO x) (f : Bool) (s : List Bs) : InO (lenPredK x f s).1 := by
  have hk : ∀ w, 0 ≤ (numW kindNames w : Int) ∧ (numW kindNames w : Int) < 256 := fun w => by
    have : numW kindNames w < 6 := numW_lt (ns := kindNames) w (by decide)
    omega
  unfold lenPredK
  split
  · exact ⟨h.op, h.a, h.b, h.key, h.val, h.lo, h.hi, h.n, h.pol, hk _, h.pa, h.pb, h.pairs, h.keys⟩
  · exact ⟨h.op, h.a, h.b, h.key, h.val, h.lo, h.hi, h.n, h.pol, hk _, pv_in _, pv_in _, h.pairs, h.keys⟩
theorem pred_in {x : POp} (h : InO x) (s : List Bs) : InO (lenPred x s).1 := by
  unfold lenPred
  split
  · exact predK_in h _ _
  · exact predK_in h _ _
theorem prL_in (w : Bs) : In (prL w).1 ∧ In (prL w).2 := by
  unfold prL
  split
  · exact ⟨pv_in _, pv_in _⟩
  · exact ⟨by simp [In], by simp [In]⟩
theorem lenP_in {x : POp} (h : InO x) (p : Part) (s : List Bs) : InO (lenP p x s).1 := by
  cases p
  case a => exact ⟨h.op, pv_in _, h.b, h.key, h.val, h.lo, h.hi, h.n, h.pol, h.pk, h.pa, h.pb, h.pairs, h.keys⟩
  case b => exact ⟨h.op, h.a, pv_in _, h.key, h.val, h.lo, h.hi, h.n, h.pol, h.pk, h.pa, h.pb, h.pairs, h.keys⟩
  case n => exact ⟨h.op, h.a, h.b, h.key, h.val, h.lo, h.hi, pv_in _, h.pol, h.pk, h.pa, h.pb, h.pairs, h.keys⟩
  case key => exact ⟨h.op, h.a, h.b, pv_in _, h.val, h.lo, h.hi, h.n, h.pol, h.pk, h.pa, h.pb, h.pairs, h.keys⟩
  case val => exact ⟨h.op, h.a, h.b, h.key, pv_in _, h.lo, h.hi, h.n, h.pol, h.pk, h.pa, h.pb, h.pairs, h.keys⟩
  case lo => exact ⟨h.op, h.a, h.b, h.key, h.val, pv_in _, h.hi, h.n, h.pol, h.pk, h.pa, h.pb, h.pairs, h.keys⟩
  case hi => exact ⟨h.op, h.a, h.b, h.key, h.val, h.lo, pv_in _, h.n, h.pol, h.pk, h.pa, h.pb, h.pairs, h.keys⟩
  case pol =>
    have : numW polNames (s.headD []) < 4 := numW_lt (ns := polNames) _ (by decide)
    exact ⟨h.op, h.a, h.b, h.key, h.val, h.lo, h.hi, h.n, (show 0 ≤ (numW polNames (s.headD []) : Int) ∧ (numW polNames (s.headD []) : Int) < 256 by omega), h.pk, h.pa, h.pb, h.pairs, h.keys⟩
  case pred => exact pred_in h s
  case pairs =>
    refine ⟨h.op, h.a, h.b, h.key, h.val, h.lo, h.hi, h.n, h.pol, h.pk, h.pa, h.pb, fun q hq => ?_, h.keys⟩
    rcases List.mem_append.1 hq with hq | hq
    · exact h.pairs q hq
    · obtain ⟨w, _, rfl⟩ := List.mem_map.1 hq; exact prL_in w
  case keys =>
    refine ⟨h.op, h.a, h.b, h.key, h.val, h.lo, h.hi, h.n, h.pol, h.pk, h.pa, h.pb, h.pairs, fun q hq => ?_⟩
    rcases List.mem_append.1 hq with hq | hq
    · exact h.keys q hq
    · obtain ⟨w, _, rfl⟩ := List.mem_map.1 hq; exact pv_in w
theorem lens_in : ∀ {ps : List Part} {x : POp} {s : List Bs}, InO x → InO (lens ps x s).1
  | [], _, _, h => h
  | p :: ps, x, s, h => lens_in (ps := ps) (lenP_in h p s)
theorem num_len1 {u v : Int} {s t : List Bs} (h : inW.num u s = some (v, t)) : pv (s.headD []) = v ∧ s.tail = t := by
  cases s with
  | nil => simp [inW] at h
  | cons w s =>
    simp only [inW, Option.map_eq_some_iff, Prod.mk.injEq] at h
    obtain ⟨a, ha, rfl, rfl⟩ := h
    exact ⟨pv_undec ha, rfl⟩
theorem word_len1 {ns : List Bs} {u v : Int} {s t : List Bs} (h0 : ns[0]? = some []) (hd : ∀ i < ns.length, ∀ j < ns.length, ns.getD i [] = ns.getD j [] → i = j) (h : inW.word ns u s = some (v, t)) : (numW ns (s.headD []) : Int) = v ∧ s.tail = t := by
  cases s with
  | nil => simp [inW] at h
  | cons w s =>
    simp only [inW, Option.map_eq_some_iff, Prod.mk.injEq] at h
    obtain ⟨a, ha, rfl, rfl⟩ := h
    exact ⟨numW_find h0 hd ha, rfl⟩
theorem pairs_len1 : ∀ (s : List Bs) (l : List (Int × Int)) (l' : List (Int × Int)) (t : List Bs), pairsP inW s.length l.length l s = some (l', t) → l' = l ++ s.map prL ∧ t = []
  | [], l, l', t, h => by
    simp only [List.length_nil, pairsP, Option.some.injEq, Prod.mk.injEq] at h
    simp [← h.1, ← h.2]
  | w :: s, l, l', t, h => by
    simp only [List.length_cons, pairsP] at h
    obtain ⟨⟨p, s1⟩, hp, h⟩ := Option.bind_eq_some_iff.1 h
    simp only [inW, Option.map_eq_some_iff, Prod.mk.injEq] at hp
    obtain ⟨a, ha, rfl, rfl⟩ := hp
    simp only [if_true] at h
    have := pairs_len1 s (l ++ [a]) l' t (by rw [List.length_append]; exact h)
    rw [this.1, this.2, List.map_cons, prL_pairR ha]; simp
theorem keys_len1 : ∀ (s : List Bs) (l : List Int) (l' : List Int) (t : List Bs), keysP inW s.length l.length l s = some (l', t) → l' = l ++ s.map pv ∧ t = []
  | [], l, l', t, h => by
    simp only [List.length_nil, keysP, Option.some.injEq, Prod.mk.injEq] at h
    simp [← h.1, ← h.2]
  | w :: s, l, l', t, h => by
    simp only [List.length_cons, keysP] at h
    obtain ⟨⟨p, s1⟩, hp, h⟩ := Option.bind_eq_some_iff.1 h
    simp only [inW, Option.map_eq_some_iff, Prod.mk.injEq] at hp
    obtain ⟨a, ha, rfl, rfl⟩ := hp
    simp only [if_true] at h
    have := keys_len1 s (l ++ [a]) l' t (by rw [List.length_append]; exact h)
    rw [this.1, this.2, List.map_cons, pv_undec ha]; simp
theorem len_strict {p : Part} {x x' : POp} {s s' : List Bs} (h0 : agree p POp.zero x) (h : partP inW p x s = some (x', s')) : lenP p x s = (x', s') := by
  cases p
  case pol =>
    simp only [partP] at h
    obtain ⟨⟨v, t⟩, hn, h⟩ := Option.bind_eq_some_iff.1 h
    cases h
    obtain ⟨h1, h2⟩ := word_len1 rfl pol_ne hn
    simp only [lenP, h1, h2]
  case pred =>
    simp only [partP, predP] at h
    rw [if_pos (show inW.words = true from rfl)] at h
    obtain ⟨⟨f, s1⟩, hf, h⟩ := Option.bind_eq_some_iff.1 h
    obtain ⟨⟨k, s2⟩, hk, h⟩ := Option.bind_eq_some_iff.1 h
    simp only at hk h
    have hfs : lenPred x s = lenPredK x f s1 := by
      cases s with
      | nil =>
        simp only [inW, Option.some.injEq, Prod.mk.injEq] at hf
        rw [← hf.1, ← hf.2]; rfl
      | cons w s =>
        simp only [inW] at hf
        rw [show lenPred x (w :: s) = if w = notW then lenPredK x true s else lenPredK x x.pnot (w :: s) from rfl]
        by_cases hw : w = notW
        · rw [if_pos hw] at hf
          cases hf
          rw [if_pos hw]
        · rw [if_neg hw] at hf
          cases hf
          rw [if_neg hw]
    obtain ⟨h1, h2⟩ := word_len1 rfl knd_ne hk
    simp only [lenP]
    rw [hfs]
    unfold lenPredK
    rw [h1, h2]
    split at h
    · rename_i hk1
      cases h
      rw [if_pos hk1]
    · rename_i hk1
      obtain ⟨⟨u, s3⟩, hu, h⟩ := Option.bind_eq_some_iff.1 h
      obtain ⟨⟨v, s4⟩, hv, h⟩ := Option.bind_eq_some_iff.1 h
      cases h
      obtain ⟨a1, a2⟩ := num_len1 hu
      obtain ⟨b1, b2⟩ := num_len1 hv
      simp only at a1 a2 b1 b2
      rw [if_neg hk1, a1, a2, b1, b2]
  case pairs =>
    have h0 : ([] : List (Int × Int)) = x.pairs := h0
    simp only [partP] at h
    obtain ⟨⟨m, s1⟩, hm, h⟩ := Option.bind_eq_some_iff.1 h
    obtain ⟨⟨l, t⟩, hl, h⟩ := Option.bind_eq_some_iff.1 h
    cases h
    simp only [inW] at hm
    split at hm
    · cases hm
      rw [← h0] at hl
      obtain ⟨h1, h2⟩ := pairs_len1 s [] l t hl
      simp only [lenP, ← h0, h1, h2]
    · cases hm
  case keys =>
    have h0 : ([] : List Int) = x.keys := h0
    simp only [partP] at h
    obtain ⟨⟨m, s1⟩, hm, h⟩ := Option.bind_eq_some_iff.1 h
    obtain ⟨⟨l, t⟩, hl, h⟩ := Option.bind_eq_some_iff.1 h
    cases h
    simp only [inW] at hm
    split at hm
    · cases hm
      rw [← h0] at hl
      obtain ⟨h1, h2⟩ := keys_len1 s [] l t hl
      simp only [lenP, ← h0, h1, h2]
    · cases hm
  all_goals
    simp only [partP] at h
    obtain ⟨⟨v, t⟩, hn, h⟩ := Option.bind_eq_some_iff.1 h
    cases h
    obtain ⟨h1, h2⟩ := num_len1 hn
    simp only [lenP, h1, h2]
theorem lens_strict : ∀ {ps : List Part} {x x' : POp} {s s' : List Bs}, ps.Nodup → (∀ p ∈ ps, agree p POp.zero x) → partsP inW ps x s = some (x', s') → lens ps x s = (x', s')
  | [], x, x', s, s', _, _, h => by simp only [partsP, Option.some.injEq] at h; exact h
  | p :: ps, x, x', s, s', hn, h0, h => by
    simp only [partsP] at h
    obtain ⟨⟨y, t⟩, hp, h⟩ := Option.bind_eq_some_iff.1 h
    have e := len_strict (h0 p (by simp)) hp
    obtain ⟨hn1, hn2⟩ := List.nodup_cons.1 hn
    have hb := (part_backW (h0 p (by simp)) hp).2.2.1
    rw [lens, e]
    exact lens_strict hn2 (fun q hq => agree_trans (h0 q (by simp [hq])) (hb q fun e => hn1 (e ▸ hq))) h
theorem lenAll_strict {s : List Bs} {x : POp} {t : List Bs} (h : allP inW .zero s = some (x, t)) : lenAll s = (x, t) := by
  unfold allP at h
  obtain ⟨⟨v, s1⟩, hw, h⟩ := Option.bind_eq_some_iff.1 h
  obtain ⟨h1, h2⟩ := word_len1 rfl op_ne hw
  unfold lenAll
  rw [h1, h2]
  exact lens_strict (partsOf_nodup _) (fun p _ => zero_op p _) h
theorem parse_lenient {s : Bs} {x : POp} (h : parseO s = some x) : (lenAll (splitW s)).1 = x := by
  unfold parseO at h
  split at h
  · rename_i y hr
    split at h
    · cases h; rw [lenAll_strict hr]
    · cases h
  · cases h
def parseR (s : Bs) : POp × Int := match parseO s with
  | some x => (x, 0)
  | none => (.zero, 7)
theorem parse_yes {s : Bs} (hi : InO (lenAll (splitW s)).1) (hm : mayO (lenAll (splitW s)).1 = true) (hl : lineO (lenAll (splitW s)).1 = s) : parseR s = ((lenAll (splitW s)).1, 0) := by
  have := parseO_line ⟨mayO_iff.1 hm, hi⟩
  rw [hl] at this
  unfold parseR
  rw [this]
theorem parse_no {s : Bs} (h : ¬ (mayO (lenAll (splitW s)).1 = true ∧ lineO (lenAll (splitW s)).1 = s)) : parseR s = (.zero, 7) := by
  unfold parseR
  cases hp : parseO s with
  | none => rfl
  | some y =>
    obtain ⟨h1, h2, h3⟩ := parseO_inv hp
    have e := parse_lenient hp
    exact absurd ⟨by rw [e]; exact mayO_iff.2 h2, by rw [e]; exact h1.symm⟩ h
end Go.Proofs.YtmkpkmdnapccgaaGreatDoor

