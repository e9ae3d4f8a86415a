/-
  Words that are read, in memory.
-/
import Derived.Test.YtmkpkmdnapccgaaGreatDoorZ22
import Derived.Lib.SmallJoins

set_option maxRecDepth 100000
set_option maxHeartbeats 6400000
namespace Go.Proofs.YtmkpkmdnapccgaaGreatDoor
open Go Go.Sh Go.RowKit

def gM : Nat := 1
def gS : Nat := 2
def gR : Nat := 3
def gls : List Nat := [gT, gM, gS, gR]
def ErrV (w : World) (g : Nat) : Prop := ∃ ev, w.cell? ⟨g, 0, none⟩ = some ev ∧ (ev = .nilIface ∨ ∃ te pe, ev = .iface te pe)
structure GOk (w : World) : Prop where
  tab : Tab w
  max : ∃ m, w.cell? ⟨gM, 0, none⟩ = some (.int .i64 m)
  lt : ∀ g ∈ gls, g < w.heap.size
theorem cell_of {w w' : World} {g : Nat} (e : w'.heap[g]? = w.heap[g]?) : w'.cell? ⟨g, 0, none⟩ = w.cell? ⟨g, 0, none⟩ := World.cell?_of_block e
theorem lt_of_same {w w' : World} {g : Nat} (h : g < w.heap.size) (e : w'.heap[g]? = w.heap[g]?) : g < w'.heap.size := by
  rw [Array.getElem?_eq_getElem h] at e
  exact (Array.getElem?_eq_some_iff.1 e).1
theorem GOk.of {w w' : World} (h : GOk w) (e : ∀ g ∈ gls, w'.heap[g]? = w.heap[g]?) : GOk w' := by
  obtain ⟨m, hm⟩ := h.max
  exact ⟨tab_of h.tab (e gT (by simp [gls])), ⟨m, by rw [cell_of (e gM (by simp [gls]))]; exact hm⟩, fun g hg => lt_of_same (h.lt g hg) (e g hg)⟩
theorem GOk.ext {w w' : World} (h : GOk w) (e : Ext w w') : GOk w' := h.of fun g hg => e.block _ (h.lt g hg)
def GErr (w : World) : Prop := ErrV w gS ∧ ErrV w gR
theorem GErr.of {w w' : World} (h : GErr w) (e : ∀ g ∈ gls, w'.heap[g]? = w.heap[g]?) : GErr w' := by
  obtain ⟨⟨a, a1, a2⟩, ⟨b, b1, b2⟩⟩ := h
  exact ⟨⟨a, by rw [cell_of (e gS (by simp [gls]))]; exact a1, a2⟩, ⟨b, by rw [cell_of (e gR (by simp [gls]))]; exact b1, b2⟩⟩
def WordOk (v : Bs) : Prop := (∃ u, Lib.parseIntB 64 v = .ok u) ∧ cutC v = none
theorem strB_size (s : Bs) : (⟨s.toArray⟩ : ByteArray).size = s.length := by simp [ByteArray.size]
theorem strB_list (s : Bs) : (⟨s.toArray⟩ : ByteArray).data.toList = s := by simp
theorem strB_eq (a b : Bs) : ((⟨a.toArray⟩ : ByteArray).toList == (⟨b.toArray⟩ : ByteArray).toList) = decide (a = b) := by
  rw [ByteArray.toList_eq, ByteArray.toList_eq]
  by_cases h : a = b
  · subst h; simp
  · rw [decide_eq_false h]; simpa using h
theorem c_parseint {s : Bs} {w : World} {R : EW} (hl : s.length ≤ 1000000000000) (hq : GErr w ∨ ∃ u, Lib.parseIntB 64 s = .ok u)
    (h : ∀ w', Ext w w' → (∃ u, Lib.parseIntB 64 s = .ok u) → R (.returned (.tuple #[.int .i64 (pv s), .nilIface])) w')
    (hn : ∀ N w', Ext w w' → (∀ u, Lib.parseIntB 64 s ≠ .ok u) → R (.returned (.tuple #[.int .i64 (pv s), .iface 177 (.pointer (some ⟨N, 0, none⟩))])) w') :
    Calls Tryz.prog 68 #[strB s, .int .i64 10, .int .i64 64] w R := by
  cases hp : Lib.parseIntB 64 s with
  | ok v =>
    refine (Tryz.strconv_ParseInt_10_at64_ok ⟨s.toArray⟩ (by rw [strB_size]; omega) v (by rw [strB_list]; exact hp) w).mono fun e w' he => ?_
    obtain ⟨rfl, hw⟩ := he
    have hv : pv s = v := by unfold pv; rw [hp]
    rw [← hv]
    refine h w' ?_ ⟨v, hp⟩
    rcases hw with rfl | ⟨t, rfl⟩
    · exact ext_refl _
    · exact Joins.below_bytesWorld _ _ _ _ (Nat.le_refl _)
  | range =>
    obtain ⟨_, ⟨ev, he1, he2⟩⟩ := hq.resolve_right fun ⟨u, hu⟩ => by rw [hp] at hu; cases hu
    refine (Tryz.strconv_ParseInt_10_at64_range ⟨s.toArray⟩ (by rw [strB_size]; omega) (by rw [strB_list]; exact hp) ev w he1 he2).mono fun e w' he => ?_
    obtain ⟨N, rfl, _, _, hb⟩ := he
    have hv : pv s = Lib.intSat 64 s := by unfold pv; rw [hp]
    rw [strB_list, ← hv]
    exact hn N w' hb fun u hu => by rw [hp] at hu; cases hu
  | _ =>
    obtain ⟨⟨ev, he1, he2⟩, _⟩ := hq.resolve_right fun ⟨u, hu⟩ => by rw [hp] at hu; cases hu
    refine (Tryz.strconv_ParseInt_10_at64_syn ⟨s.toArray⟩ (by rw [strB_size]; omega) (fun u hu => by rw [strB_list, hp] at hu; cases hu) (fun hu => by rw [strB_list, hp] at hu; cases hu) ev w he1 he2).mono fun e w' he => ?_
    obtain ⟨N, rfl, _, _, hb⟩ := he
    have hv : pv s = 0 := by unfold pv; rw [hp]
    rw [← hv]
    exact hn N w' hb fun u hu => by rw [hp] at hu; cases hu
theorem undec_of {s : Bs} {u : Int} (h : Lib.parseIntB 64 s = .ok u) : undecW s = if Go.Sh.dec (pv s) = s then some (pv s) else none := by
  unfold undecW pv
  rw [h]
theorem undec_no {s : Bs} (h : ∀ u, Lib.parseIntB 64 s ≠ .ok u) : undecW s = none := by
  unfold undecW
  cases hp : Lib.parseIntB 64 s with
  | ok v => exact absurd hp (h v)
  | _ => rfl
theorem c_undec {s : Bs} {w : World} {R : EW} (hl : s.length ≤ 1000000000000) (hT : Tab w) (hq : GErr w ∨ ∃ u, Lib.parseIntB 64 s = .ok u)
    (h : ∀ v w', undecW s = some v → Ext w w' → R (.returned (.int .i64 v)) w') (hn : ∀ w', undecW s = none → Ext w w' → R (.panicked [noneE]) w') : Calls Tryz.prog 207 #[strB s] w R := by
  refine sh207_ok _ ?_
  unfold sh207
  refine do_call Tryz.call68 (c_parseint hl hq (fun w1 e1 ⟨u, hu⟩ => retS_ret ⟨_, _, rfl, ?_⟩) fun N w1 e1 hu => retS_ret ⟨_, _, rfl, ?_⟩)
  · intro K7
    refine ⟨true, fun w => by kernel_rfl, ifB_t rfl (do_call Tryz.call194 (c_wdec (pv_in s) (tab_ext hT e1) fun w2 e2 => retS_ret ⟨_, rfl, ?_⟩))⟩
    rw [strB_eq]
    refine do_call Tryz.call42 (c_must (fun e => retS_ret ⟨rfl, ?_⟩) fun e => ?_)
    · exact h _ w2 (by rw [undec_of hu, if_pos (of_decide_eq_true e)]) (e1.trans e2)
    · exact hn w2 (by rw [undec_of hu, if_neg (of_decide_eq_false e)]) (e1.trans e2)
  · intro K7
    exact ⟨false, fun w => by kernel_rfl, ifB_f rfl (do_call Tryz.call42 (c_must (fun e => by cases e) fun _ => hn w1 (undec_no hu) e1))⟩

structure WiZ (w0 : World) (G : List Nat) (cb rb : Nat) (w : World) (s : List Bs) : Prop where
  ex : ∃ a c, a.block = rb ∧ Blk w cb #[.slice (some a) s.length c] 87 ∧ Cs w (some a) (strs s) ∧ s.length ≤ c
  rl : rb < w.heap.size
  gl : ∀ g ∈ G, w.heap[g]? = w0.heap[g]?
  gG : ∀ g ∈ gls, g ∈ G
  gn : ∀ g ∈ G, g < w0.heap.size ∧ g ≠ cb ∧ g ≠ rb
  cr : cb ≠ rb
  len : ∀ v ∈ s, v.length ≤ 1000000
  tab : GOk w0
def WiOwn (G : List Nat) (cb rb : Nat) (_ : World) (k : Nat) : Prop := k = cb ∨ k = rb ∨ k ∈ G
structure WiI (w0 : World) (G : List Nat) (cb rb : Nat) (w : World) (s : List Bs) : Prop extends WiZ w0 G cb rb w s where
  ok : GErr w0 ∨ ∀ v ∈ s, WordOk v
variable {w0 w w' : World} {G : List Nat} {cb rb : Nat} {s : List Bs}
theorem WiZ.gw (h : WiZ w0 G cb rb w s) {g : Nat} (hg : g ∈ G) : g < w.heap.size := lt_of_same (h.gn g hg).1 (h.gl g hg)
theorem WiZ.lt (h : WiZ w0 G cb rb w s) {k : Nat} (hk : WiOwn G cb rb w k) : k < w.heap.size := by
  obtain ⟨a, c, h1, h2, _⟩ := h.ex
  rcases hk with rfl | rfl | hk
  · exact h2.lt
  · exact h.rl
  · exact h.gw hk
theorem cs_keep {a : Addr} {vs : List Value} (h : Cs w (some a) vs) (e : w'.heap[a.block]? = w.heap[a.block]?) : Cs w' (some a) vs := fun i v hv => by
  obtain ⟨a', ha, hc⟩ := h i v hv
  cases ha
  have e' : w'.heap[(a.add i).block]? = w.heap[(a.add i).block]? := by rw [add_block]; exact e
  exact ⟨a, rfl, (World.cell?_of_block e').trans hc⟩
theorem WiZ.keep (h : WiZ w0 G cb rb w s) (e : ∀ k, WiOwn G cb rb w k → w'.heap[k]? = w.heap[k]?) : WiZ w0 G cb rb w' s := by
  obtain ⟨a, c, h1, h2, h3, h4⟩ := h.ex
  have hb : Blk w' cb #[.slice (some a) s.length c] 87 := by unfold Blk; rw [e cb (.inl rfl)]; exact h2
  exact ⟨⟨a, c, h1, hb, cs_keep h3 (by rw [h1]; exact e rb (.inr (.inl rfl))), h4⟩, lt_of_same h.rl (e rb (.inr (.inl rfl))), fun g hg => (e g (.inr (.inr hg))).trans (h.gl g hg), h.gG, h.gn, h.cr, h.len, h.tab⟩
theorem WiZ.ext (h : WiZ w0 G cb rb w s) (e : Ext w w') : WiZ w0 G cb rb w' s := h.keep fun k hk => e.block k (h.lt hk)
theorem WiZ.g (h : WiZ w0 G cb rb w s) : GOk w := h.tab.of fun g hg => h.gl g (h.gG g hg)
theorem WiI.q (h : WiI w0 G cb rb w s) {v : Bs} (hv : v ∈ s) : GErr w ∨ WordOk v := h.ok.imp (fun k => k.of fun g hg => h.gl g (h.gG g hg)) fun k => k v hv
theorem WiI.ext (h : WiI w0 G cb rb w s) (e : Ext w w') : WiI w0 G cb rb w' s := ⟨h.toWiZ.ext e, h.ok⟩
theorem wi_chg {S : Nat → Prop} (e : Ext w w') : Chg (WiOwn G cb rb) S w w' := ⟨e.os, e.tape, e.output, e.size, fun k hk _ _ => e.block k hk, fun _ _ h1 h2 => h1 h2⟩
theorem wi_st {b : Nat} (g : w.grownBy w' (some b)) {S : Nat → Prop} (hb : b = cb ∨ S b) : Chg (WiOwn G cb rb) S w w' :=
  ⟨g.os, g.tape, g.output, g.size, fun k hk ho hs => g.block k hk fun e => by
    cases e
    rcases hb with h | h
    · exact ho (.inl h)
    · exact hs h, fun _ _ h1 h2 => h1 h2⟩
theorem sl_tail {a : Addr} {c : Nat} {x : Value} {vs : List Value} {n : Nat} {K : OA → Nat → Nat → Prop} (h : Cs w (some a) (x :: vs)) (hc : n + 1 ≤ c) (hn : vs.length = n) (k : ∀ a', a'.block = a.block → Cs w (some a') vs → K (some a') n (c - 1)) : doSl (some a) c 1 1 ((n + 1 : Nat) : Int) K := by
  refine ⟨by omega, by omega, by omega, ?_⟩
  rw [show ((n + 1 : Nat) : Int).toNat - (1 : Int).toNat = n by omega, show c - (1 : Int).toNat = c - 1 from rfl]
  by_cases e : c = (1 : Int).toNat
  · rw [if_pos e]
    have e : c = 1 := e
    have : vs = [] := List.eq_nil_of_length_eq_zero (by omega)
    subst this
    exact k a rfl (cs_nil _ _)
  · rw [if_neg e]
    exact k (a.add ((1 : Int).toNat * 1)) (add_block _ _) (h.drop 1)
theorem c_winext {R : EW} (hI : WiZ w0 G cb rb w s)
    (h : ∀ v t w', s = v :: t → WiZ w0 G cb rb w' t → Chg (WiOwn G cb rb) (fun _ => False) w w' → w.grownBy w' (some cb) → R (.returned (strB v)) w') (hn : s = [] → R (.panicked [noneE]) w) : Calls Tryz.prog 203 #[.pointer (some (blk cb))] w R := by
  refine sh203_ok _ ?_
  unfold sh203
  obtain ⟨a, c, h1, h2, h3, h4⟩ := hI.ex
  refine ⟨_, rfl, _, _, _, h2.cell (i := 0) rfl rfl, do_call Tryz.call42 (c_must (fun e => retS_ret ⟨rfl, ?_⟩) fun e => hn ?_)⟩
  case refine_2 =>
    have := of_decide_eq_false e
    exact List.eq_nil_of_length_eq_zero (by omega)
  cases s with
  | nil => simp at e
  | cons v t =>
  obtain ⟨a', ha, hc⟩ := h3 0 (strB v) rfl
  cases ha
  have hlc : (v :: t).length = t.length + 1 := rfl
  refine ⟨_, rfl, _, _, _, h2.cell (i := 0) rfl rfl, ⟨a, rfl, by omega, by omega, _, hc, _, rfl, _, _, _, h2.cell (i := 0) rfl rfl, ?_⟩⟩
  refine sl_tail (n := t.length) h3 h4 (strs_len t) fun a2 ha2 hc2 => ⟨_, rfl, do_st h2 (i := 0) rfl (by simp) fun w1 hb1 g1 => ?_⟩
  have hb1 : Blk w1 cb #[.slice (some a2) t.length (c - 1)] 87 := hb1
  have hr : w1.heap[a2.block]? = w.heap[a2.block]? := by rw [ha2, h1]; exact g1.block rb hI.rl (ne_some (Ne.symm hI.cr))
  exact h v t w1 rfl ⟨⟨a2, _, ha2.trans h1, hb1, cs_keep hc2 hr, by omega⟩, Nat.lt_of_lt_of_le hI.rl g1.size, fun g hg => (g1.block g (hI.gw hg) (ne_some (hI.gn g hg).2.1)).trans (hI.gl g hg), hI.gG, hI.gn, hI.cr, fun u hu => hI.len u (by simp [hu]), hI.tab⟩ (wi_st g1 (.inl rfl)) g1
theorem cs_not_cell {a : Addr} {vs : List Value} {b : Nat} {v : Value} {t : TypeId} (h : Cs w (some a) vs) (hb : Blk w b #[v] t) (hv : ∀ u ∈ vs, u ≠ v) (h0 : vs ≠ []) : a.block ≠ b := by
  intro e
  cases vs with
  | nil => exact h0 rfl
  | cons u us =>
    obtain ⟨a', ha, hc⟩ := h 0 u rfl
    cases ha
    rw [add_zero'] at hc
    have hu := hv u (by simp)
    unfold World.cell? at hc
    rw [e, show w.heap[b]? = _ from hb] at hc
    simp only at hc
    split at hc
    · cases hc
    · generalize a.off = o at hc
      cases o with
      | zero => simp at hc; exact hu hc.symm
      | succ o => simp at hc
theorem WiZ.st (h : WiZ w0 G cb rb w s) {b : Nat} (g : w.grownBy w' (some b)) (ho : ¬ WiOwn G cb rb w b) : WiZ w0 G cb rb w' s :=
  h.keep fun k hk => g.block k (h.lt hk) fun e => ho (by cases e; exact hk)
theorem WiI.keep (h : WiI w0 G cb rb w s) (e : ∀ k, WiOwn G cb rb w k → w'.heap[k]? = w.heap[k]?) : WiI w0 G cb rb w' s := ⟨h.toWiZ.keep e, h.ok⟩
theorem WiI.st (h : WiI w0 G cb rb w s) {b : Nat} (g : w.grownBy w' (some b)) (ho : ¬ WiOwn G cb rb w b) : WiI w0 G cb rb w' s := ⟨h.toWiZ.st g ho, h.ok⟩
theorem WiI.tail {v : Bs} {t : List Bs} (h : WiI w0 G cb rb w (v :: t)) (hz : WiZ w0 G cb rb w' t) : WiI w0 G cb rb w' t := ⟨hz, h.ok.imp id fun k u hu => k u (List.mem_cons_of_mem _ hu)⟩
theorem WiI.qt {v : Bs} {t : List Bs} (h : WiI w0 G cb rb w (v :: t)) (hz : WiZ w0 G cb rb w' t) : GErr w' ∨ WordOk v := h.ok.imp (fun k => k.of fun g hg => hz.gl g (hz.gG g hg)) fun k => k v (by simp)
theorem c_winum {b i : Nat} {cs : Array Value} {t : TypeId} {v : Int} {R : EW} (hI : WiI w0 G cb rb w s) (ho : ¬ WiOwn G cb rb w b) (hb : Blk w b cs t) (hc : cs[i]? = some (.int .i64 v))
    (h : ∀ v' s' w', inW.num v s = some (v', s') → WiI w0 G cb rb w' s' → Blk w' b (cs.setIfInBounds i (.int .i64 v')) t → Chg (WiOwn G cb rb) (· = b) w w' → R (.returned unitV) w')
    (hn : ∀ s' w', inW.num v s = none → s'.length ≤ s.length → WiI w0 G cb rb w' s' → Blk w' b cs t → Chg (WiOwn G cb rb) (· = b) w w' → R (.panicked [noneE]) w') :
    Calls Tryz.prog 204 #[.pointer (some (blk cb)), .pointer (some ⟨b, i, none⟩)] w R := by
  refine sh204_ok _ _ ?_
  unfold sh204
  refine do_call Tryz.call203 (c_winext hI.toWiZ (fun u t' w1 hs hZ c1 _ => retS_ret ⟨_, rfl, ?_⟩) fun he => hn [] w (by subst he; rfl) (by simp) (by subst he; exact hI) hb (.refl _ _ _))
  subst hs
  have hb1 := c1.blk hb ho fun h => h
  refine do_call Tryz.call207 (c_undec (Nat.le_trans (hI.len u (by simp)) (by omega)) hZ.g.tab ((hI.qt hZ).imp id fun k => k.1) (fun v' w2 hv e2 => retS_ret ⟨_, rfl, _, rfl, ?_⟩) fun w2 hv e2 => ?_)
  · refine do_st (hb1.ext e2) (i := i) (by rw [add_zero']) (Array.getElem?_eq_some_iff.1 hc).1 fun w3 h3 g3 => ?_
    exact h v' t' w3 (by simp only [inW, hv]; rfl) (((hI.tail hZ).ext e2).st g3 ho) h3 (((chg0 c1).trans (wi_chg e2)).trans (wi_st g3 (.inr rfl)))
  · exact hn t' w2 (by simp only [inW, hv]; rfl) (by simp) ((hI.tail hZ).ext e2) (hb1.ext e2) ((chg0 c1).trans (wi_chg e2))
def inV : PC (List Bs) := { inW with word := fun ns k s => if ns.length ≤ 256 then inW.word ns k s else none }
theorem inV_w {ns : List Bs} (h : ns.length ≤ 256) : inV.word ns = inW.word ns := by
  funext k s
  show (if ns.length ≤ 256 then inW.word ns k s else none) = _
  rw [if_pos h]
theorem inV_op : inV.word opNames = inW.word opNames := inV_w (by decide)
theorem inV_pol : inV.word polNames = inW.word polNames := inV_w (by decide)
theorem inV_knd : inV.word kindNames = inW.word kindNames := inV_w (by decide)
theorem pairs_inV : ∀ (m k : Nat) (l : List (Int × Int)) (s : List Bs), pairsP inV m k l s = pairsP inW m k l s
  | 0, _, _, _ => rfl
  | m + 1, k, l, s => by
    simp only [pairsP]
    congr 1
    funext r
    exact pairs_inV m _ _ _
theorem keys_inV : ∀ (m k : Nat) (l : List Int) (s : List Bs), keysP inV m k l s = keysP inW m k l s
  | 0, _, _, _ => rfl
  | m + 1, k, l, s => by
    simp only [keysP]
    congr 1
    funext r
    exact keys_inV m _ _ _
theorem part_inV (p : Part) (x : POp) (s : List Bs) : partP inV p x s = partP inW p x s := by
  cases p
  case pol => simp only [partP]; rw [inV_pol]
  case pred => simp only [partP, predP]; rw [inV_knd]; rfl
  case pairs => simp only [partP, pairs_inV]; rfl
  case keys => simp only [partP, keys_inV]; rfl
  all_goals rfl
theorem parts_inV : ∀ (ps : List Part) (x : POp) (s : List Bs), partsP inV ps x s = partsP inW ps x s
  | [], _, _ => rfl
  | p :: ps, x, s => by
    simp only [partsP]
    rw [part_inV]
    congr 1
    funext r
    exact parts_inV ps _ _
theorem all_inV (x : POp) (s : List Bs) : allP inV x s = allP inW x s := by
  unfold allP
  rw [inV_op]
  congr 1
  funext r
  exact parts_inV _ _ _
theorem c_wiword {b i : Nat} {cs : Array Value} {t : TypeId} {v : Int} {names : List Bs} {q : OA} {n cap : Nat} {R : EW} (hI : WiZ w0 G cb rb w s) (ho : ¬ WiOwn G cb rb w b) (hb : Blk w b cs t) (hc : cs[i]? = some (.int .u8 v))
    (hq : Cs w q (strs names)) (hn' : names.length = n) (h256 : n ≤ 256)
    (h : ∀ v' s' w', inW.word names v s = some (v', s') → s' = s.tail → WiZ w0 G cb rb w' s' → Blk w' b (cs.setIfInBounds i (.int .u8 v')) t → Chg (WiOwn G cb rb) (· = b) w w' → R (.returned unitV) w')
    (hn : ∀ s' w', inW.word names v s = none → s'.length ≤ s.length → s' = s.tail → WiZ w0 G cb rb w' s' → Blk w' b cs t → Chg (WiOwn G cb rb) (· = b) w w' → R (.panicked [noneE]) w') :
    Calls Tryz.prog 206 #[.pointer (some (blk cb)), .pointer (some ⟨b, i, none⟩), .slice q n cap] w R := by
  refine sh206_ok _ _ _ _ _ ?_
  unfold sh206
  refine do_call Tryz.call203 (c_winext hI (fun u t' w1 hs hZ c1 g1 => retS_ret ⟨_, rfl, ?_⟩) fun he => hn [] w (by subst he; rfl) (by simp) (by subst he; rfl) (by subst he; exact hI) hb (.refl _ _ _))
  subst hs
  have hb1 := c1.blk hb ho fun h => h
  obtain ⟨a0, c0, _, hcb0, _⟩ := hI.ex
  have hq1 : Cs w1 q (strs names) := cs_grown hq g1 fun a ha hne => cs_not_cell (by rw [← ha]; exact hq) hcb0 (fun u hu e => by
    subst e
    simp [strs] at hu) hne
  refine ⟨fun vs w' => ∃ k : Nat, vs = [.int .i64 (k : Int)] ∧ k ≤ n ∧ w' = w1 ∧ findW (names.drop k) k u = findW names 0 u, fun vs _ => match vs with | [.int _ i] => n - i.toNat | _ => 0, ⟨0, rfl, Nat.zero_le _, rfl, rfl⟩, ?_⟩
  rintro x13 _ w2 ⟨k, hvs, hk, rfl, hf⟩
  simp only [List.cons.injEq, Value.int.injEq, true_and, and_true] at hvs
  subst hvs
  refine ifB_intro (fun z => ?_) fun z => ?_
  · have z : k < n := by have := of_decide_eq_true z; omega
    have hx : (strs names)[k]? = some (strB (names[k]'(by omega))) := by simp [strs, List.getElem?_eq_getElem (show k < names.length by omega)]
    obtain ⟨a, ha, hca⟩ := hq1 k _ hx
    have hdr : names.drop k = names[k]'(by omega) :: names.drop (k + 1) := List.drop_eq_getElem_cons (by omega)
    generalize names[k]'(by omega) = nm at *
    rw [hdr, findW] at hf
    intro K15
    have next : ¬ (nm = u ∧ nm ≠ []) → K15 w2 := fun hne => by
      rw [if_neg hne] at hf
      show (_ ∧ _)
      rw [wrap_succ z (by omega)]
      refine ⟨⟨k + 1, rfl, by omega, rfl, hf⟩, ?_⟩
      show n - ((k + 1 : Nat) : Int).toNat < n - (k : Int).toNat
      omega
    refine ⟨a, ha, by omega, by omega, ⟨_, by rw [Nat.mul_one, Int.toNat_natCast]; exact hca, ?_⟩⟩
    intro K20
    rw [strB_eq, strB_eq nm []]
    refine ifB_intro (fun z1 => ?_) fun z1 => next fun h => of_decide_eq_false z1 h.1
    have z1 := of_decide_eq_true z1
    show ifB (!decide (nm = [])) _ _
    refine ifB_intro (fun z2 => ?_) fun z2 => next fun h => ?_
    case refine_2 => simp [h.2] at z2
    have z2 : nm ≠ [] := by simpa using z2
    rw [if_pos ⟨z1, z2⟩] at hf
    rw [wrap_u8 k (by omega)]
    refine ⟨_, rfl, do_st hb1 (i := i) (by rw [add_zero']) (Array.getElem?_eq_some_iff.1 hc).1 fun w3 h3 g3 => ?_⟩
    exact h k t' w3 (by simp only [inW]; rw [← hf]; rfl) rfl (hZ.st g3 ho) h3 ((chg0 c1).trans (wi_st g3 (.inr rfl)))
  · have z : k = n := by have := of_decide_eq_false z; omega
    subst z
    rw [List.drop_of_length_le (by omega), findW] at hf
    exact do_call Tryz.call42 (c_must (fun e => by cases e) fun _ => hn t' w2 (by simp only [inW]; rw [← hf]; rfl) (by simp) rfl hZ hb1 (chg0 c1))
theorem wi_own {k : Nat} {w : World} (h : k ∉ G) (h1 : k ≠ cb) (h2 : k ≠ rb) : ¬ WiOwn G cb rb w k := fun e => by
  rcases e with e | e | e
  · exact h1 e
  · exact h2 e
  · exact h e
end Go.Proofs.YtmkpkmdnapccgaaGreatDoor

namespace Go.Proofs.YtmkpkmdnapccgaaGreatDoor
open Go Go.Sh Go.RowKit
variable {w0 w w' : World} {G : List Nat} {cb rb : Nat} {s : List Bs}

theorem c_wiflag {b i : Nat} {cs : Array Value} {t : TypeId} {v : Bool} {R : EW} (hI : WiI w0 G cb rb w s) (ho : ¬ WiOwn G cb rb w b) (hb : Blk w b cs t) (hc : cs[i]? = some (.bool v))
    (h : ∀ v' s' w', inW.flag v s = some (v', s') → WiI w0 G cb rb w' s' → Blk w' b (cs.setIfInBounds i (.bool v')) t → Chg (WiOwn G cb rb) (· = b) w w' → R (.returned unitV) w') :
    Calls Tryz.prog 201 #[.pointer (some (blk cb)), .pointer (some ⟨b, i, none⟩)] w R := by
  refine sh201_ok _ _ ?_
  unfold sh201
  obtain ⟨a, c, h1, h2, h3, h4⟩ := hI.ex
  intro K5
  have same : inW.flag v s = some (v, s) → R (.returned unitV) w := fun e => h v s w e hI (by rw [set_self hc]; exact hb) (.refl _ _ _)
  refine ⟨_, rfl, _, _, _, h2.cell (i := 0) rfl rfl, ifB_intro (fun z => ?_) fun z => ?_⟩
  · have z := of_decide_eq_true z
    cases s with
    | nil => simp at z
    | cons u t' =>
    obtain ⟨a', ha, hca⟩ := h3 0 (strB u) rfl
    cases ha
    refine ⟨_, rfl, _, _, _, h2.cell (i := 0) rfl rfl, ⟨a, rfl, by omega, by simp only [List.length_cons]; omega, _, hca, ?_⟩⟩
    rw [show (⟨#[110, 111, 116]⟩ : ByteArray) = ⟨notW.toArray⟩ from rfl, strB_eq]
    show ifB _ _ _
    refine ifB_intro (fun z1 => ?_) fun z1 => same ?_
    case refine_2 => simp only [inW]; rw [if_neg (of_decide_eq_false z1)]
    have z1 := of_decide_eq_true z1
    refine do_call Tryz.call203 (c_winext hI.toWiZ (fun u2 t2 w1 hs hZ c1 _ => retS_ret ⟨_, rfl, _, rfl, ?_⟩) fun he => by cases he)
    injection hs with hs1 hs2
    subst hs1 hs2
    refine do_st (c1.blk hb ho fun h => h) (i := i) (by rw [add_zero']) (Array.getElem?_eq_some_iff.1 hc).1 fun w3 h3 g3 => ?_
    exact h true t' w3 (by simp only [inW]; rw [if_pos z1]) ((hI.tail hZ).st g3 ho) h3 ((chg0 c1).trans (wi_st g3 (.inr rfl)))
  · have z := of_decide_eq_false z
    have : s = [] := List.eq_nil_of_length_eq_zero (by omega)
    exact same (by subst this; rfl)
theorem c_wimany {b : Nat} {t : TypeId} {v : Value} {m : Nat} {R : EW} (hI : WiI w0 G cb rb w s) (ho : ¬ WiOwn G cb rb w b) (hb : Blk w b #[v] t)
    (h : ∀ w', inW.many m s = some (s.length, s) → WiI w0 G cb rb w' s → Blk w' b #[.int .i64 (s.length : Int)] t → Chg (WiOwn G cb rb) (· = b) w w' → R (.returned unitV) w')
    (hn : ∀ w', inW.many m s = none → WiI w0 G cb rb w' s → Chg (WiOwn G cb rb) (· = b) w w' → R (.panicked [noneE]) w') :
    Calls Tryz.prog 202 #[.pointer (some (blk cb)), .pointer (some ⟨b, 0, none⟩)] w R := by
  refine sh202_ok _ _ ?_
  unfold sh202
  obtain ⟨a, c, h1, h2, h3, h4⟩ := hI.ex
  refine ⟨_, rfl, _, _, _, h2.cell (i := 0) rfl rfl, _, rfl, do_st hb (i := 0) rfl (by simp) fun w1 hb1 g1 => ?_⟩
  have hb1 : Blk w1 b #[.int .i64 (s.length : Int)] t := hb1
  refine ⟨_, rfl, _, hb1.cell (i := 0) rfl rfl, do_call Tryz.call42 (c_must (fun e => retS_ret ⟨rfl, ?_⟩) fun e => ?_)⟩
  · have e := of_decide_eq_true e
    exact h w1 (by simp only [inW]; rw [if_pos (by omega)]) (hI.st g1 ho) hb1 (wi_st g1 (.inr rfl))
  · have e := of_decide_eq_false e
    exact hn w1 (by simp only [inW]; rw [if_neg (by omega)]) (hI.st g1 ho) (wi_st g1 (.inr rfl))
theorem c_cut {u : Bs} {w : World} {R : EW} (hG : GOk w) (hl : u.length ≤ 1000000) (h : ∀ w', Ext w w' → R (.returned (.tuple #[strB (Lib.cut u [58]).1, strB (Lib.cut u [58]).2.1, .bool (Lib.cut u [58]).2.2])) w') : Calls Tryz.prog 208 #[strB u, .string ⟨#[58]⟩] w R := by
  obtain ⟨m, hm⟩ := hG.max
  refine (Tryz.strings_Cut ⟨u.toArray⟩ ⟨#[58]⟩ m w (by rw [strB_size]; omega) hm).mono fun e w' he => ?_
  obtain ⟨rfl, n, rfl⟩ := he
  have := h (w.drewN n) ⟨rfl, rfl, rfl, Nat.le_refl _, fun k _ => rfl⟩
  rw [strB_list]
  exact this
theorem cut_len {u a b : Bs} (h : cutC u = some (a, b)) : a.length ≤ u.length ∧ b.length ≤ u.length := by
  obtain ⟨rfl, _⟩ := cutC_inv h
  simp only [List.length_append, List.length_cons]
  omega
theorem c_wipair {b : Nat} {t : TypeId} {v : Int × Int} {u1 u2 : Value} {R : EW} (hI : WiI w0 G cb rb w s) (ho : ¬ WiOwn G cb rb w b) (hb : Blk w b #[u1, u2] t)
    (h : ∀ (v' : Int × Int) s' w', inW.pair v s = some (v', s') → WiI w0 G cb rb w' s' → Blk w' b #[.int .i64 v'.1, .int .i64 v'.2] t → Chg (WiOwn G cb rb) (· = b) w w' → R (.returned unitV) w')
    (hn : ∀ s' w', inW.pair v s = none → s'.length ≤ s.length → WiI w0 G cb rb w' s' → Chg (WiOwn G cb rb) (· = b) w w' → R (.panicked [noneE]) w') :
    Calls Tryz.prog 205 #[.pointer (some (blk cb)), .pointer (some ⟨b, 0, none⟩)] w R := by
  refine sh205_ok _ _ ?_
  unfold sh205
  refine do_call Tryz.call203 (c_winext hI.toWiZ (fun u t' w1 hs hZ c1 _ => retS_ret ⟨_, rfl, ?_⟩) fun he => hn [] w (by subst he; rfl) (by simp) (by subst he; exact hI) (.refl _ _ _))
  subst hs
  have hb1 := c1.blk hb ho fun h => h
  have hlu := hI.len u (by simp)
  refine do_call Tryz.call208 (c_cut hZ.g hlu fun w2 e2 => retS_ret ⟨_, _, _, rfl, ?_⟩)
  have hZ2 := hZ.ext e2
  have hq2 := hI.qt hZ2
  have k2 : Chg (WiOwn G cb rb) (· = b) w w2 := (chg0 c1).trans (wi_chg e2)
  have hb2 := hb1.ext e2
  have bad : ∀ w', pairR u = none → Ext w2 w' → R (.panicked [noneE]) w' := fun w' hp e => hn t' w' (by simp only [inW, hp]; rfl) (by simp) ((hI.tail hZ2).ext e) (k2.trans (wi_chg e))
  rw [cut_eq]
  cases hc : cutC u with
  | none =>
    exact do_call Tryz.call42 (c_must (fun e => by cases e) fun _ => bad w2 (by unfold pairR; rw [hc]; rfl) (ext_refl _))
  | some r =>
    obtain ⟨x, y⟩ := r
    have hg : GErr w2 := hq2.resolve_right fun k => by have := k.2; rw [hc] at this; cases this
    have hlc := cut_len hc
    refine do_call Tryz.call42 (c_must (fun _ => retS_ret ⟨rfl, ?_⟩) fun e => by cases e)
    refine do_call Tryz.call207 (c_undec (s := x) (by omega) hZ2.g.tab (.inl hg) (fun v1 w3 hv1 e3 => retS_ret ⟨_, rfl, ?_⟩) fun w3 hv1 e3 => bad w3 (by unfold pairR; rw [hc]; simp [hv1]) e3)
    have hZ3 := hZ2.ext e3
    refine do_call Tryz.call207 (c_undec (s := y) (by omega) hZ3.g.tab (.inl (hg.of fun g hgg => e3.block g (hZ2.g.lt g hgg))) (fun v2 w4 hv2 e4 => retS_ret ⟨_, rfl, ?_⟩) fun w4 hv2 e4 => bad w4 (by unfold pairR; rw [hc]; simp [hv1, hv2]) (e3.trans e4))
    have e34 := e3.trans e4
    refine ⟨_, rfl, do_st (hb2.ext e34) (i := 0) rfl (by simp) fun w5 h5 g5 => ⟨_, rfl, do_st h5 (i := 1) rfl (by simp) fun w6 h6 g6 => ?_⟩⟩
    refine h (v1, v2) t' w6 (by simp only [inW]; unfold pairR; rw [hc]; simp [hv1, hv2]) ((((hI.tail hZ2).ext e34).st g5 ho).st g6 ho) h6 (((k2.trans (wi_chg e34)).trans (wi_st g5 (.inr rfl))).trans (wi_st g6 (.inr rfl)))
theorem wi_meth (cp x : Value) (w : World) :
    (invoke (.fn (.method "joinery/op.num") #[]) #[.iface 85 cp, x]).run Tryz.prog w = .ok (.enter 204 #[cp, x]) w ∧ (invoke (.fn (.method "joinery/op.flag") #[]) #[.iface 85 cp, x]).run Tryz.prog w = .ok (.enter 201 #[cp, x]) w ∧
    (invoke (.fn (.method "joinery/op.many") #[]) #[.iface 85 cp, x]).run Tryz.prog w = .ok (.enter 202 #[cp, x]) w ∧ (invoke (.fn (.method "joinery/op.pair") #[]) #[.iface 85 cp, x]).run Tryz.prog w = .ok (.enter 205 #[cp, x]) w :=
  ⟨by kernel_rfl, by kernel_rfl, by kernel_rfl, by kernel_rfl⟩
theorem wi_methw (cp x y : Value) (w : World) : (invoke (.fn (.method "joinery/op.word") #[]) #[.iface 85 cp, x, y]).run Tryz.prog w = .ok (.enter 206 #[cp, x, y]) w := by kernel_rfl
theorem wi_ta (cb : Nat) (w : World) : (Instr.typeAssert (.iface 85 (.pointer (some (blk cb)))) 97 61 true).run Tryz.prog w = .ok (.tuple #[.pointer none, .bool false]) w ∧
    (Instr.typeAssert (.iface 85 (.pointer (some (blk cb)))) 97 85 true).run Tryz.prog w = .ok (.tuple #[.pointer (some (blk cb)), .bool true]) w := ⟨by kernel_rfl, by kernel_rfl⟩
theorem wi_nil (cb : Nat) (w : World) : (nilAhead (Tryz.prog.types.size + Made.depth) 85 (.pointer (some (blk cb))) "joinery/op.word").run Tryz.prog w = .ok (some false) w := by kernel_rfl
theorem find_le {ns : List Bs} {u : Bs} {v : Int} (hl : ns.length ≤ 256) (h : findW ns 0 u = some v) : 0 ≤ v ∧ v < 256 := by
  obtain ⟨j, h1, h2, _⟩ := findW_inv h
  have := (List.getElem?_eq_some_iff.1 h2).1
  omega
def WiB (w0 : World) (G : List Nat) (cb rb : Nat) : CBase inV where
  I := WiI w0 G cb rb
  own := WiOwn G cb rb
  lt := fun hI h => hI.toWiZ.lt h
  keep := fun hI h => ⟨hI.keep h, fun _ => Iff.rfl⟩
  len := List.length
  grow := 1
  numIn := fun {v s v' s'} _ h => by
    have h : inW.num v s = some (v', s') := h
    obtain ⟨rfl, hv⟩ := num_backW h
    exact ⟨hv, by simp; omega⟩
  wordIn := fun {l k s k' s'} _ h => by
    have h : (if l.length ≤ 256 then inW.word l k s else none) = some (k', s') := h
    split at h
    · rename_i hl
      cases s with
      | nil => simp [inW] at h
      | cons u t =>
        simp only [inW, Option.map_eq_some_iff, Prod.mk.injEq] at h
        obtain ⟨a, ha, rfl, rfl⟩ := h
        exact ⟨find_le hl ha, by simp; omega⟩
    · cases h
  flagIn := fun {f s f' s'} h => by
    have h : inW.flag f s = some (f', s') := h
    cases s with
    | nil => simp only [inW, Option.some.injEq, Prod.mk.injEq] at h; rw [← h.2]; simp
    | cons u t =>
      simp only [inW] at h
      split at h <;> (cases h; simp)
      omega
  manyIn := fun {n s n' s'} _ h => by
    have h : inW.many n s = some (n', s') := h
    simp only [inW] at h
    split at h
    · cases h; exact ⟨Nat.le_trans (by assumption) (Nat.le_max_right _ _), by omega⟩
    · cases h
  pairIn := fun {p s p' s'} _ h => by
    have h : inW.pair p s = some (p', s') := h
    cases s with
    | nil => simp [inW] at h
    | cons u t =>
      simp only [inW, Option.map_eq_some_iff, Prod.mk.injEq] at h
      obtain ⟨a, ha, rfl, rfl⟩ := h
      exact ⟨(pairR_inv ha).2, by simp; omega⟩
def WiC (w0 : World) (G : List Nat) (cb rb : Nat) : Coder inV 85 (.pointer (some (blk cb))) where
  toCBase := WiB w0 G cb rb
  pre := fun names _ => names.length ≤ 256
  nc := nc_iface
  ncw := nc_func (wi_nil cb)
  ta := ⟨none, false, some (blk cb), true, rfl, fun w S h => ⟨_, (wi_ta cb w).1, h⟩, fun w S h => ⟨_, (wi_ta cb w).2, h⟩⟩
  num := fun {w s b i cs t v R} hI hl ho hb hc hv h hn => do_meth (args := #[.pointer (some ⟨b, i, none⟩)]) (wi_meth _ _ w).1 (c_winum hI ho hb hc h fun s' w' he hle hI' hb' c' => hn _ v s' w' he noneCh1 (Nat.le_trans hle (Nat.le_add_right _ _)) hI' (by rw [set_self hc]; exact hb') c')
  word := fun {w s b i cs t v names q n cap R} hI hl ho hb hc hv hq hnn hcap hp h hn => by
    have e : inV.word names v s = inW.word names v s := congrFun (congrFun (inV_w hp) v) s
    refine do_meth (args := #[.pointer (some ⟨b, i, none⟩), .slice q n cap]) (wi_methw _ _ _ w) (c_wiword hI.toWiZ ho hb hc hq hnn (by have : names.length ≤ 256 := hp; omega) (fun v' s' w' he hsub hI' hb' c' => h v' s' w' (e.trans he) ⟨hI', hI.ok.imp id fun k u hu => k u (List.mem_of_mem_tail (hsub ▸ hu))⟩ hb' c') fun s' w' he hle hsub hI' hb' c' => hn _ v s' w' (e.trans he) noneCh1 (Nat.le_trans hle (Nat.le_add_right _ _)) ⟨hI', hI.ok.imp id fun k u hu => k u (List.mem_of_mem_tail (hsub ▸ hu))⟩ (by rw [set_self hc]; exact hb') c')
  flag := fun {w s b i cs t v R} hI hl ho hb hc h _ => do_meth (args := #[.pointer (some ⟨b, i, none⟩)]) (wi_meth _ _ w).2.1 (c_wiflag hI ho hb hc h)
  flagD := fun h => by cases h
  many := fun {w s b t v R} hI hl ho hb hv h hn => do_meth (args := #[.pointer (some ⟨b, 0, none⟩)]) (wi_meth _ _ w).2.2.1 (c_wimany (m := v) hI ho hb (fun w' he hI' hb' c' => h _ s w' he hI' hb' c') fun w' he hI' c' => hn _ s w' he noneCh1 (Nat.le_add_right _ _) hI' c')
  pair := fun {w s b t v R} hI hl ho hb hv h hn => do_meth (args := #[.pointer (some ⟨b, 0, none⟩)]) (wi_meth _ _ w).2.2.2 (c_wipair (v := v) hI ho hb h fun s' w' he hle hI' c' => hn _ s' w' he noneCh1 (Nat.le_trans hle (Nat.le_add_right _ _)) hI' c')
end Go.Proofs.YtmkpkmdnapccgaaGreatDoor

namespace Go.Proofs.YtmkpkmdnapccgaaGreatDoor
open Go Go.Sh Go.RowKit

theorem c_pcatch0 {b1 b2 : Nat} {w : World} {K : FrameMode → World → Prop} (h : K .returning w) : doDf Tryz.prog (.fn (.func 44) #[.pointer (some (blk b1)), .pointer (some (blk b2))]) #[] .returning w K := by
  refine ⟨by simp, 44, #[.pointer (some (blk b1)), .pointer (some (blk b2))], by simp only [invoke]; exact Tryz.call44 #[.pointer (some (blk b1)), .pointer (some (blk b2))] w, ?_⟩
  refine callsDIn_of_wpS Tryz.func44 rfl fun c₀ cs hu => ?_
  apply wpS_seq
  apply wpS_region
  simp [wpOpsS, go_sem, recoverD, hu, Exit.thenS]
  refine c_wrong0 ?_
  refine wpS_cond (t := false) (by simp [Act.eval, Array.replicate]) ?_
  simp only [Bool.false_eq_true, if_false]
  refine wpS_of_wp (wp_skip ?_)
  cases c₀
  simp_all [bodyPostS, results, dfPost]
  exact h
theorem c_dcatch0 {b1 b2 : Nat} {w : World} {K : FrameMode → World → Prop} (h : K .returning w) : doDf Tryz.prog (.fn (.func 40) #[.pointer (some (blk b1)), .pointer (some (blk b2))]) #[] .returning w K := by
  refine ⟨by simp, 40, #[.pointer (some (blk b1)), .pointer (some (blk b2))], by simp only [invoke]; exact Tryz.call40 #[.pointer (some (blk b1)), .pointer (some (blk b2))] w, ?_⟩
  refine callsDIn_of_wpS Tryz.func40 rfl fun c₀ cs hu => ?_
  apply wpS_seq
  apply wpS_region
  simp [wpOpsS, go_sem, recoverD, hu, Exit.thenS]
  refine c_wrong0 ?_
  refine wpS_cond (t := false) (by simp [Act.eval, Array.replicate]) ?_
  simp only [Bool.false_eq_true, if_false]
  refine wpS_of_wp (wp_skip ?_)
  cases c₀
  simp_all [bodyPostS, results, dfPost]
  exact h
theorem c_dcatch1 {b1 b2 : Nat} {v1 v2 : Value} {t1 t2 : TypeId} {ch : List PanicEntry} {w : World} {K : FrameMode → World → Prop} (hch : NoneCh ch) (hb1 : Blk w b1 #[v1] t1) (hb2 : Blk w b2 #[v2] t2) (hne : b1 ≠ b2) (h : ∀ w', Blk w' b1 #[.slice none 0 0] t1 → Blk w' b2 #[.int .i64 7] t2 → Chg (fun _ _ => False) (fun k => k = b1 ∨ k = b2) w w' → K .returning w') :
    doDf Tryz.prog (.fn (.func 40) #[.pointer (some (blk b1)), .pointer (some (blk b2))]) #[] (.panicking ch) w K := by
  refine ⟨by simp, 40, #[.pointer (some (blk b1)), .pointer (some (blk b2))], by simp only [invoke]; exact Tryz.call40 #[.pointer (some (blk b1)), .pointer (some (blk b2))] w, ?_⟩
  refine callsDIn_of_wpS Tryz.func40 rfl fun c₀ cs hu => ?_
  apply wpS_seq
  apply wpS_region
  obtain ⟨rest, rfl, hr⟩ := hch
  simp [wpOpsS, go_sem, recoverD, hu, Exit.thenS, noneE]
  refine c_wrong1 fun w1 e1 => ?_
  refine wpS_cond (t := true) (by simp [Act.eval, Array.replicate]) ?_
  simp only [if_true]
  have h2 := hb2.ext e1
  let F : World → Prop := fun w' => K .returning w'
  have hX : doSt ((blk b1).add 0) (.slice none 0 0) w1 fun w2 => doSt ((blk b2).add 0) (.int .i64 7) w2 fun w3 => F w3 := do_st (hb1.ext e1) (i := 0) rfl (by simp) fun w2 h21 g2 => do_st (h2.grown g2 (ne_some (Ne.symm hne))) (i := 0) rfl (by simp) fun w3 h3 g3 => h w3 (h21.grown g3 (ne_some hne)) h3 ⟨g3.os.trans (g2.os.trans e1.os), g3.tape.trans (g2.tape.trans e1.tape), g3.output.trans (g2.output.trans e1.output), Nat.le_trans e1.size (Nat.le_trans g2.size g3.size), fun k hk _ n => ((g3.block k (Nat.lt_of_lt_of_le (Nat.lt_of_lt_of_le hk e1.size) g2.size) (ne_some fun e => n (.inr e))).trans (g2.block k (Nat.lt_of_lt_of_le hk e1.size) (ne_some fun e => n (.inl e)))).trans (e1.block k hk), fun _ _ h => h⟩
  refine wpS_of_wp ((wpIn_wide (n := 0)).1 (wpIn_mono (Old.ev_sound (ann := fun _ => []) (ro := none) (Kp := fun _ _ _ => False) follows_mixed 400 0 _ (fun e _ w' => match e with | .normal => F w' | _ => False) _ w1 ((show Old.ev Tryz.prog (fun _ => []) none (fun _ _ _ => False) 400 0 _ _ _ w1 = (doSt ((blk b1).add 0) (.slice none 0 0) w1 fun w2 => doSt ((blk b2).add 0) (.int .i64 7) w2 fun w3 => F w3) by kernel_rfl) ▸ hX)) fun e a' w' he => ?_))
  cases e with
  | normal =>
    obtain ⟨hF, hfr⟩ := he
    have hd := (hfr rfl).defers
    simp only at hd
    obtain ⟨tmps, defers⟩ := a'
    simp only at hd
    subst hd
    simp [bodyPostS, results, dfPost]
    rw [settle_caught hr]
    exact hF
  | panic ch => exact he.elim
  | outgrown => exact he.elim
  | ret => exact he.1.elim
  | exit id => exact he.1.elim
  | goto l => exact he.1.elim
theorem c_pcatch1 {b1 b2 : Nat} {a0 a1 a2 a3 a4 a5 a6 a7 a8 a9 a10 a11 a12 a13 a14 v2 : Value} {t1 t2 : TypeId} {ch : List PanicEntry} {w : World} {K : FrameMode → World → Prop} (hch : NoneCh ch) (hb1 : Blk w b1 #[a0, a1, a2, a3, a4, a5, a6, a7, a8, a9, a10, a11, a12, a13, a14] t1) (hb2 : Blk w b2 #[v2] t2) (hne : b1 ≠ b2)
    (h : ∀ w', Blk w' b1 #[.int .u8 0, .int .i64 0, .int .i64 0, .int .i64 0, .int .i64 0, .int .i64 0, .int .i64 0, .int .i64 0, .int .u8 0, .int .u8 0, .int .i64 0, .int .i64 0, .bool false, .slice none 0 0, .slice none 0 0] t1 → Blk w' b2 #[.int .i64 7] t2 → Chg (fun _ _ => False) (fun k => k = b1 ∨ k = b2) w w' → K .returning w') :
    doDf Tryz.prog (.fn (.func 44) #[.pointer (some (blk b1)), .pointer (some (blk b2))]) #[] (.panicking ch) w K := by
  refine ⟨by simp, 44, #[.pointer (some (blk b1)), .pointer (some (blk b2))], by simp only [invoke]; exact Tryz.call44 #[.pointer (some (blk b1)), .pointer (some (blk b2))] w, ?_⟩
  refine callsDIn_of_wpS Tryz.func44 rfl fun c₀ cs hu => ?_
  apply wpS_seq
  apply wpS_region
  obtain ⟨rest, rfl, hr⟩ := hch
  simp [wpOpsS, go_sem, recoverD, hu, Exit.thenS, noneE]
  refine c_wrong1 fun w1 e1 => ?_
  refine wpS_cond (t := true) (by simp [Act.eval, Array.replicate]) ?_
  simp only [if_true]
  have h2 := hb2.ext e1
  let F : World → Prop := fun w' => K .returning w'
  have hX : doSt ((blk b1).add 0) (.int .u8 0) w1 fun w2 => doSt ((blk b1).add 1) (.int .i64 0) w2 fun w3 => doSt ((blk b1).add 2) (.int .i64 0) w3 fun w4 => doSt ((blk b1).add 3) (.int .i64 0) w4 fun w5 => doSt ((blk b1).add 4) (.int .i64 0) w5 fun w6 => doSt ((blk b1).add 5) (.int .i64 0) w6 fun w7 => doSt ((blk b1).add 6) (.int .i64 0) w7 fun w8 => doSt ((blk b1).add 7) (.int .i64 0) w8 fun w9 => doSt ((blk b1).add 8) (.int .u8 0) w9 fun w10 => doSt ((blk b1).add 9) (.int .u8 0) w10 fun w11 => doSt ((blk b1).add 10) (.int .i64 0) w11 fun w12 => doSt ((blk b1).add 11) (.int .i64 0) w12 fun w13 => doSt ((blk b1).add 12) (.bool false) w13 fun w14 => doSt ((blk b1).add 13) (.slice none 0 0) w14 fun w15 => doSt ((blk b1).add 14) (.slice none 0 0) w15 fun w16 => doSt ((blk b2).add 0) (.int .i64 7) w16 fun w17 => F w17 := st15 (hb1.ext e1) fun w2 h21 g2 => do_st (h2.grown g2 (ne_some (Ne.symm hne))) (i := 0) rfl (by simp) fun w3 h3 g3 => h w3 (h21.grown g3 (ne_some hne)) h3 ⟨g3.os.trans (g2.os.trans e1.os), g3.tape.trans (g2.tape.trans e1.tape), g3.output.trans (g2.output.trans e1.output), Nat.le_trans e1.size (Nat.le_trans g2.size g3.size), fun k hk _ n => ((g3.block k (Nat.lt_of_lt_of_le (Nat.lt_of_lt_of_le hk e1.size) g2.size) (ne_some fun e => n (.inr e))).trans (g2.block k (Nat.lt_of_lt_of_le hk e1.size) (ne_some fun e => n (.inl e)))).trans (e1.block k hk), fun _ _ h => h⟩
  refine wpS_of_wp ((wpIn_wide (n := 0)).1 (wpIn_mono (Old.ev_sound (ann := fun _ => []) (ro := none) (Kp := fun _ _ _ => False) follows_mixed 400 0 _ (fun e _ w' => match e with | .normal => F w' | _ => False) _ w1 ((show Old.ev Tryz.prog (fun _ => []) none (fun _ _ _ => False) 400 0 _ _ _ w1 = (doSt ((blk b1).add 0) (.int .u8 0) w1 fun w2 => doSt ((blk b1).add 1) (.int .i64 0) w2 fun w3 => doSt ((blk b1).add 2) (.int .i64 0) w3 fun w4 => doSt ((blk b1).add 3) (.int .i64 0) w4 fun w5 => doSt ((blk b1).add 4) (.int .i64 0) w5 fun w6 => doSt ((blk b1).add 5) (.int .i64 0) w6 fun w7 => doSt ((blk b1).add 6) (.int .i64 0) w7 fun w8 => doSt ((blk b1).add 7) (.int .i64 0) w8 fun w9 => doSt ((blk b1).add 8) (.int .u8 0) w9 fun w10 => doSt ((blk b1).add 9) (.int .u8 0) w10 fun w11 => doSt ((blk b1).add 10) (.int .i64 0) w11 fun w12 => doSt ((blk b1).add 11) (.int .i64 0) w12 fun w13 => doSt ((blk b1).add 12) (.bool false) w13 fun w14 => doSt ((blk b1).add 13) (.slice none 0 0) w14 fun w15 => doSt ((blk b1).add 14) (.slice none 0 0) w15 fun w16 => doSt ((blk b2).add 0) (.int .i64 7) w16 fun w17 => F w17) by kernel_rfl) ▸ hX)) fun e a' w' he => ?_))
  cases e with
  | normal =>
    obtain ⟨hF, hfr⟩ := he
    have hd := (hfr rfl).defers
    simp only at hd
    obtain ⟨tmps, defers⟩ := a'
    simp only at hd
    subst hd
    simp [bodyPostS, results, dfPost]
    rw [settle_caught hr]
    exact hF
  | panic ch => exact he.elim
  | outgrown => exact he.elim
  | ret => exact he.1.elim
  | exit id => exact he.1.elim
  | goto l => exact he.1.elim
end Go.Proofs.YtmkpkmdnapccgaaGreatDoor

namespace Go.Proofs.YtmkpkmdnapccgaaGreatDoor
open Go Go.Sh Go.RowKit

theorem pre_op {x : POp} (hm : mayO x = true) : x.op.toNat < opNames.length := by
  have := (mayO_iff.1 hm).op
  show _ < 23
  omega
theorem pre_pol {x : POp} (hm : mayO x = true) : x.pol.toNat < polNames.length := by
  show _ < 4
  have h := mayO_iff.1 hm
  by_cases hp : Part.pol ∈ partsOf x.op
  · have := may_pol (h.pol hp); omega
  · have e : (0 : Int) = x.pol := h.masked _ hp
    omega
theorem pre_knd {x : POp} (hm : mayO x = true) : x.pk.toNat < kindNames.length := by
  show _ < 6
  have h := mayO_iff.1 hm
  by_cases hp : Part.pred ∈ partsOf x.op
  · have := (predMay_kind (h.pred hp)).1; omega
  · have e : (0 : Int) = x.pk := (h.masked _ hp).1
    omega
theorem tab_not {w : World} {d : Addr} {vs : List Value} (hT : Tab w) (h : Cs w (some d) vs) (hv : ∀ u ∈ vs, ∃ n, u = .int .i64 n) (h0 : vs ≠ []) : d.block ≠ gT := by
  intro e
  cases vs with
  | nil => exact h0 rfl
  | cons u us =>
    obtain ⟨a', ha, hc⟩ := h 0 u rfl
    cases ha
    rw [add_zero'] at hc
    obtain ⟨n, rfl⟩ := hv u (by simp)
    unfold Tab Lib.TabIs World.var? at hT
    rw [tab_global] at hT
    simp only [Option.bind_some] at hT
    split at hT
    · rename_i cs t z hh
      cases hT
      unfold World.cell? at hc
      rw [e, hh] at hc
      simp only at hc
      split at hc
      · cases hc
      · simp at hc
    · cases hT
theorem prs_i64 (l : List (Int × Int)) : ∀ u ∈ prs l, ∃ n, u = Value.int .i64 n := fun u hu => by
  simp only [prs, List.mem_flatMap] at hu
  obtain ⟨x, _, hx⟩ := hu
  simp at hx
  rcases hx with rfl | rfl <;> exact ⟨_, rfl⟩
theorem ints_i64 (l : List Int) : ∀ u ∈ ints l, ∃ n, u = Value.int .i64 n := fun u hu => by
  simp only [ints, List.mem_map] at hu
  obtain ⟨x, _, rfl⟩ := hu
  exact ⟨_, rfl⟩
theorem below_g {own : World → Nat → Prop} {S : Nat → Prop} {w0 w w' : World} (e : Ext w0 w) (c : Chg own S w w') (G : Nat → Prop) (hg : ∀ k, k < w0.heap.size → G k → w'.heap[k]? = w0.heap[k]?) (ho : ∀ k, k < w0.heap.size → ¬ G k → ¬ own w k) (hs : ∀ k, k < w0.heap.size → ¬ S k) : Ext w0 w' :=
  ⟨c.os.trans e.os, c.tape.trans e.tape, c.output.trans e.output, Nat.le_trans e.size c.size, fun k hk => by
    by_cases h : G k
    · exact hg k hk h
    · exact (c.block k (Nat.lt_of_lt_of_le hk e.size) (ho k hk h) (hs k hk)).trans (e.block k hk)⟩
theorem c_join {ws : List Bs} {p : OA} {c : Nat} {base : Nat} {w : World} {R : EW} (hr : w.ownsRow base 9 1 (.slice p ws.length c) ws.length (strs ws)) (hpos : 0 < ws.length) (hl : (joinW ws).length ≤ 140737488355328) (hz : ws.length ≤ 140737488355328)
    (h : ∀ w', Ext w w' → R (.returned (strB (joinW ws))) w') : Calls Tryz.prog 29 #[.slice p ws.length c, .string ⟨#[32]⟩] w R := by
  obtain ⟨g, rfl, hg1, hg2⟩ := row_some hr hpos
  have hcs := Cs.of_row hr
  have hx : (ws.map fun v => (⟨v.toArray⟩ : ByteArray)).map (·.data.toList) = ws := by
    rw [List.map_map]
    conv => rhs; rw [← List.map_id ws]
    apply List.map_congr_left
    intro v _
    simp
  have hL : (ws.map fun v => (⟨v.toArray⟩ : ByteArray)).length = ws.length := by simp
  have hj : (Lib.join ((ws.map fun v => (⟨v.toArray⟩ : ByteArray)).map (·.data.toList)) (⟨#[32]⟩ : ByteArray).data.toList) = joinW ws := by rw [hx]; exact join_eq ws
  have := Tryz.strings_Join g 0 c (ws.map fun v => (⟨v.toArray⟩ : ByteArray)) ⟨#[32]⟩ w (fun j x hjx => ?_) (hr.lt g rfl).2 (by rw [hL]; exact hz) (by rw [hL]; exact row_cap hr) (by rw [hj]; exact hl)
  · rw [hL, hj] at this
    refine this.mono fun e w' he => ?_
    obtain ⟨rfl, hb⟩ := he
    exact h w' hb
  · rw [List.getElem?_map] at hjx
    obtain ⟨v, hv, rfl⟩ := Option.map_eq_some_iff.1 hjx
    obtain ⟨a, ha, hc⟩ := hcs j (strB v) (by simp [strs, hv])
    cases ha
    rw [add_blk] at hc
    rw [Nat.zero_add]; exact hc
theorem c_oline {x : POp} {pv kv : Value} {w : World} {R : EW} (hT : Tab w) (hx : InO x) (hr : OpRd w x pv kv) (hP : x.pairs.length ≤ 5000) (hK : x.keys.length ≤ 5000)
    (h : ∀ w', Ext w w' → R (.returned (.tuple #[strB (lineR x).1, .int .i64 (lineR x).2])) w') : Calls Tryz.prog 14 #[opV x pv kv] w R := by
  have hr0 := hr
  obtain ⟨a, c, rfl, hac, hcs, hab⟩ := hr.p
  obtain ⟨q, c', rfl, hqc, hqs, hqb⟩ := hr.k
  refine sh14_ok _ _ _ _ _ _ _ _ _ _ _ _ _ _ _ _ _ _ _ ?_
  unfold sh14
  refine do_al fun xb w1 e1 X1 l1 => ?_
  refine ⟨_, X1.cell (i := 0) rfl rfl, _, X1.cell (i := 1) rfl rfl, _, X1.cell (i := 2) rfl rfl, _, X1.cell (i := 3) rfl rfl, _, X1.cell (i := 4) rfl rfl, _, X1.cell (i := 5) rfl rfl, _, X1.cell (i := 6) rfl rfl, _, X1.cell (i := 7) rfl rfl, _, X1.cell (i := 8) rfl rfl, _, X1.cell (i := 9) rfl rfl, _, X1.cell (i := 10) rfl rfl, _, X1.cell (i := 11) rfl rfl, _, X1.cell (i := 12) rfl rfl, _, _, _, X1.cell (i := 13) rfl rfl, _, _, _, X1.cell (i := 14) rfl rfl, ?_⟩
  refine do_call Tryz.call13 (c_check hx (hr0.ext e1) hP hK fun w2 e2 => retS_ret ⟨_, rfl, ?_⟩)
  have E2 := e1.trans e2
  by_cases hm : mayO x = true
  case neg =>
    rw [if_neg hm]
    have := h w2 E2
    unfold lineR at this
    rw [if_neg hm] at this
    exact ifB_t rfl this
  rw [if_pos hm]
  have hR : lineR x = (lineO x, 0) := by unfold lineR; rw [if_pos hm]
  refine ifB_f rfl (do_al fun cb w3 e3 C3 l3 => ?_)
  have E3 := E2.trans e3
  have X3 : OpAt w3 xb x (.slice a x.pairs.length c) (.slice q x.keys.length c') := (X1.ext e2).ext e3
  have hTl := tab_lt hT
  have s1 := X1.lt
  have s2 := e2.size
  have hI3 : WoI w cb w3 [] := ⟨⟨none, 0, C3, World.ownsRow_nil _ _ _ _⟩, E3.block gT hTl, by have := e1.size; omega, hT⟩
  have own3 : ∀ k, WoOwn cb w3 k → k = cb ∨ k = gT := fun k hk => hk.imp (fun h => ((out_own C3 k).1 h).resolve_right (by simp [Value.ownBlock])) id
  have hT3 := tab_ext hT E3
  have hrow : RowsAt (WoOwn cb) xb w3 x (.slice a x.pairs.length c) (.slice q x.keys.length c') := by
    refine ⟨⟨a, c, rfl, hac, hcs.ext E3, fun d ed hz => ?_⟩, ⟨q, c', rfl, hqc, hqs.ext E3, fun d ed hz => ?_⟩⟩
    · have := hab d ed hz
      subst ed
      exact ⟨fun hd => (own3 _ hd).elim (fun e => by omega) (tab_not hT hcs (prs_i64 _) hz), by omega, by have := E3.size; omega⟩
    · have := hqb d ed hz
      subst ed
      exact ⟨fun hd => (own3 _ hd).elim (fun e => by omega) (tab_not hT hqs (ints_i64 _) hz), by omega, by have := E3.size; omega⟩
  refine do_call Tryz.call23 (c_opall (WoC w cb) (s := []) hI3 (by show 0 + 50000 * 1 ≤ lim; decide) (fun hd => (own3 _ hd).elim (fun e => by omega) (fun e => by omega)) X3 hx hrow hP hK (pre_op hm) (pre_pol hm) (pre_knd hm) (.inl fun s n s' h => by cases h; exact Nat.le_refl _) (.inl fun s n s' h => by cases h; exact Nat.le_refl _)
    (fun x5 s5 w5 pv5 kv5 hr5 hI5 _ _ _ hl5 c5 => retS_ret ⟨rfl, ?_⟩) fun ch w5 hn5 _ _ _ _ => by rw [all_outW] at hn5; cases hn5)
  rw [all_outW, List.nil_append] at hr5
  cases hr5
  have hI5 : WoI w cb w5 (wordsOf x) := hI5
  have hl5 : (wordsOf x).length ≤ 0 + 30000 * 1 := hl5
  obtain ⟨p5, c5', hb5, hrow5⟩ := hI5.ex
  refine ⟨_, rfl, _, _, _, hb5.cell (i := 0) rfl rfl, ?_⟩
  have hjl := joinW_len (words_len hx)
  refine do_call Tryz.call29 (c_join hrow5 (by simp [wordsOf]) (by omega) (by omega) fun w6 e6 => retS_ret ⟨_, rfl, ?_⟩)
  have E5 : Ext w w5 := below_g E3 c5 (· = gT) (fun k _ hk => by subst hk; exact hI5.gl) (fun k hk hg hd => (own3 _ hd).elim (fun e => by have := e1.size; omega) hg) (fun k hk e => by omega)
  have := h w6 (E5.trans e6)
  rw [hR] at this
  exact this
end Go.Proofs.YtmkpkmdnapccgaaGreatDoor

