/-
  What the document's answers of layer 5 do.
-/
import Derived.Test.YtinkkhcffoikmaaRowset4
namespace Go.Proofs.Ytinkkhcffoikmaa
open Go Go.Sh Go.RowKit

/-- append, and where the row then lies -/
theorem do_append2 {P : Program} {t e : TypeId} {z : Value} {size bytes : Nat} (E : ElT P t e z size bytes) {base : Nat} {v : Value} {n : Nat} {xs : List Value} {w : World}
    (hown : w.ownsRow base e size v n xs) {ad : Addr} {m c : Nat} {news : List Value} (hnews : Cs w (some ad) news) (hl : news.length = m * size) (h1 : ∀ u ∈ news, u.oneCell' = true) (hm0 : 0 < m)
    (h63 : n + m ≤ maxLen) (hbytes : (n + m) * bytes ≤ 140737488355328) (hbase : base ≤ w.heap.size) {bs : Array Bool} {R : Ending → World → Prop}
    (h : ∀ p c w', w'.ownsRow base e size (.slice p (n + m) c) (n + m) (xs ++ news) → w.grownBy w' v.ownBlock → ((Value.slice p (n + m) c).ownBlock = v.ownBlock ∨ (Value.slice p (n + m) c).ownBlock = some w.heap.size) → R (.returned (.slice p (n + m) c)) w') :
    doGo P (.builtin .append #[t, t] t bs) #[v, .slice (some ad) m c] w R := by
  obtain ⟨i, hi, hz, hsz, hby⟩ := E.hi
  have hnews' : ∀ j u, news[j]? = some u → w.cell? (ad.add j) = some u := fun j u hu => by obtain ⟨a, ha, hc⟩ := hnews j u hu; cases ha; exact hc
  obtain ⟨v', w', hr, h2, h3, _⟩ := run_append_own (P := P) w base t t e i z size bytes E.ht hi hz hsz hby E.hz E.hs v n xs hown ad m c news hl hnews' h1 h63 hbytes hbase
  obtain ⟨p, c', rfl⟩ := row_slice h2
  refine goV_append hr (h p c' w' h2 h3 ?_)
  have hmax : n + m ≤ 9223372036854775807 := by simp only [maxLen] at h63; omega
  subst hsz
  subst hby
  rcases hown.2 with ⟨rfl, rfl⟩ | ⟨g, cap, cur, rfl, hbg, hg, hnc, hcm, hcs, htake⟩
  · have := run_append_nil (P := P) w t t e i z E.ht hi hz ad m c news hl hnews' hm0 (by omega) (by have hb := hbytes; rw [Nat.zero_add] at hb; omega)
    rw [this] at hr
    injection hr with hr1 _
    right; rw [← hr1]; rfl
  · by_cases hroom : n + m ≤ cap
    · have := run_append_room (P := P) w t t e i E.ht hi g n cap cur hg ad m c news hl hnews' h1 hroom (by rw [hl, hcs, ← Nat.add_mul]; exact Nat.mul_le_mul_right _ hroom)
      rw [this] at hr
      injection hr with hr1 _
      left; rw [← hr1]; rfl
    · have := run_append_grow (P := P) w t t e i z E.ht hi hz ⟨g, 0, none⟩ n cap xs hown.1 (hown.cells (g := g) rfl) ad m c news hl hnews' (by omega) (by omega) (growslice_fits (by omega) hbytes)
      rw [this] at hr
      injection hr with hr1 _
      right; rw [← hr1]; rfl
/-- one pair more to a row of pairs of one's own -/
theorem do_app1 {q : Option Addr} {n c base : Nat} {r : List Pr} {w : World} (hrow : OwnP w base q n c r) (hn : n ≤ 1000000000000) (hb : base ≤ w.heap.size) {u v : Int} {Kf : Value → World → Prop} {F : List PanicEntry → World → Prop}
    (k : ∀ q' c' w', OwnP w' base q' (n + 1) c' (r ++ [(u, v)]) → (∀ w0, Ext w0 w → w0.heap.size ≤ base → Ext w0 w') → w.grownBy w' (Value.slice q n c).ownBlock →
      ((Value.slice q' (n + 1) c').ownBlock = (Value.slice q n c).ownBlock ∨ ∀ k, (Value.slice q' (n + 1) c').ownBlock = some k → w.heap.size ≤ k) → Kf (.slice q' (n + 1) c') w') :
    doAl (.cells #[.int .i64 u, .int .i64 v] 38) w (fun b w2 => doGo Try.prog (.builtin .append #[33, 33] 33 #[false, false]) #[.slice q n c, .slice (some (blk b)) 1 1] w2 (retS Kf F)) := by
  refine ⟨?_⟩
  have e1 := ext_alloc w (.cells #[.int .i64 u, .int .i64 v] 38)
  have hrow1 := e1.row hrow
  refine do_append2 elP hrow1 (m := 1) (cs_alloc w _ _) (by simp) (by simp [Value.oneCell']) (by omega) (by simp only [maxLen]; omega) (by omega) (Nat.le_trans hb e1.size) fun p' c' w' h2 g2 hor => retS_ret (k p' c' w' ?_ ?_ ?_ ?_)
  · unfold OwnP; rw [prs_append]; exact h2
  · intro w0 e0 hb0
    exact ext_own hrow1 (e0.trans e1) g2 hb0
  · have ga : w.grownBy (w.alloc (.cells #[.int .i64 u, .int .i64 v] 38)) (Value.slice q n c).ownBlock := World.grownBy_alloc _ _ _
    exact grown_trans ga g2
  · rcases hor with h | h
    · exact .inl h
    · right; intro k hk; rw [h] at hk; cases hk; exact e1.size
section
variable {o p : Int} {a b : List Pr} {qa qb : Option Addr} {na ca nb cb : Nat} {w : World} {R : Ending → World → Prop}
theorem c_r5both (hla : Cs w qa (prs a)) (hna : a.length = na) (hma : na ≤ 1000000000000) (hIa : InP a) (hlb : Cs w qb (prs b)) (hnb : b.length = nb) (hmb : nb ≤ 1000000000000) (hIb : InP b)
    (h : ∀ w', Ext w w' → R (.returned (.bool (mayR o a && mayR o b))) w') : Calls Try.prog 106 #[.int .u8 o, .slice qa na ca, .slice qb nb cb] w R := by
  refine sh106_ok _ _ _ _ _ _ _ ?_
  unfold sh106
  refine do_call Try.call49 (c_r4may hla hna hma hIa fun w1 e1 => retS_ret ⟨_, rfl, ?_⟩)
  cases ha : mayR o a
  · have := h w1 e1
    rw [ha] at this
    exact ifB_f rfl this
  · refine ifB_t rfl (do_call Try.call49 (c_r4may (hlb.ext e1) hnb hmb hIb fun w2 e2 => retS_ret ⟨_, rfl, ?_⟩))
    have := h w2 (e1.trans e2)
    rw [ha, Bool.true_and] at this
    exact this
def r5un (o p : Int) (a b : List Pr) : List Pr := cond (mayR o a && mayR o b && may p) (sortL o p (a ++ b)) []
theorem c_r5un (hla : Cs w qa (prs a)) (hna : a.length = na) (hma : na ≤ 1000000) (hIa : InP a) (hlb : Cs w qb (prs b)) (hnb : b.length = nb) (hmb : nb ≤ 1000000) (hIb : InP b)
    (h : ∀ p' n' c' w', OwnP w' w.heap.size p' n' c' (r5un o p a b) → Ext w w' → R (.returned (.tuple #[.slice p' n' c', .int .i64 (setE o p a b)])) w') :
    Calls Try.prog 60 #[.int .u8 o, .int .u8 p, .slice qa na ca, .slice qb nb cb] w R := by
  refine sh60_ok _ _ _ _ _ _ _ _ ?_
  unfold sh60
  refine do_call Try.call106 (c_r5both hla hna (by omega) hIa hlb hnb (by omega) hIb fun w1 e1 => retS_ret ⟨_, rfl, ?_⟩)
  cases hb : (mayR o a && mayR o b)
  · refine ifB_t rfl ?_
    have := h none 0 0 w1
    unfold r5un setE at this
    rw [hb, Bool.false_and] at this
    exact this (ownP_nil _ _) e1
  refine ifB_f rfl ?_
  have ho : isO o = true := by
    have : mayR o a = true := by cases ha : mayR o a <;> simp [ha] at hb ⊢
    exact mayR_o this
  refine do_app elP (World.ownsRow_nil w1 w1.heap.size 38 2) (m := na) (hla.ext e1) (by rw [prs_length]; omega) prs_one (by simp only [maxLen]; omega) (by omega) (Nat.le_refl _) fun q2 c2 w2 h2 g2 => retS_ret ⟨_, _, _, rfl, ?_⟩
  have e2 : Ext w1 w2 := (ext_refl w1).grown g2 (by intro k hk; cases hk)
  refine do_app elP h2 (m := nb) ((hlb.ext e1).ext e2) (by rw [prs_length]; omega) prs_one (by simp only [maxLen]; omega) (by omega) e2.size fun q3 c3 w3 h3 g3 => retS_ret ⟨_, _, _, rfl, ?_⟩
  have e3 : Ext w1 w3 := e2.grown g3 (fun k hk => (World.ownsRow.lt h2 k hk).1)
  rw [List.nil_append, ← prs_append] at h3
  have hIab : InP (a ++ b) := fun x hx => by
    rcases List.mem_append.1 hx with hx | hx
    · exact hIa x hx
    · exact hIb x hx
  refine do_call Try.call23 (c_r5sort (l := a ++ b) (Cs.of_row h3) (by simp; omega) (by omega) hIab fun p4 n4 c4 w4 h4 e4 => retS_ret ⟨_, _, _, _, rfl, ?_⟩)
  have := h p4 n4 c4 w4
  unfold r5un setE at this
  rw [hb, Bool.true_and] at this
  rw [ho, Bool.true_and] at h4 ⊢
  exact this (row_mono h4 (Nat.le_trans e1.size e3.size)) ((e1.trans e3).trans e4)
/-- what is met -/
def meetF (o p : Int) (b : List Pr) (x : Pr) : Option Pr := if hasR o b x.1 then some (x.1, comb p x.2 (getR o b x.1)) else none
def r5me (o p : Int) (a b : List Pr) : List Pr := cond (mayR o a && mayR o b && may p) (a.filterMap (meetF o p b)) []
theorem take_filterMap {f : Pr → Option Pr} {l : List Pr} {i : Nat} (hi : i < l.length) : (l.take (i + 1)).filterMap f = (l.take i).filterMap f ++ (f l[i]).toList := by
  rw [← List.take_append_getElem hi, List.filterMap_append]
  cases hf : f l[i] with
  | none => rw [List.filterMap_cons_none hf]; rfl
  | some v => rw [List.filterMap_cons_some hf]; rfl
theorem fm_len (f : Pr → Option Pr) (l : List Pr) : (l.filterMap f).length ≤ l.length := List.length_filterMap_le f l
/-- the state of a loop over a row, that picks -/
def PickI (w1 : World) (a : List Pr) (f : Pr → Option Pr) (n : Nat) (vs : List Value) (w' : World) : Prop :=
  ∃ (i nn cc : Nat) (qq : Option Addr), vs = [.slice qq nn cc, .int .i64 i] ∧ i ≤ n ∧ Ext w1 w' ∧ OwnP w' w1.heap.size qq nn cc ((a.take i).filterMap f)
theorem pick_start {w1 : World} {a : List Pr} {f : Pr → Option Pr} {n : Nat} : PickI w1 a f n [.slice none 0 0, .int .i64 0] w1 :=
  ⟨0, 0, 0, none, rfl, Nat.zero_le _, ext_refl _, by rw [List.take_zero]; exact ownP_nil _ _⟩
def pickM (n : Nat) (vs : List Value) : Nat := n - (intOf (vs.getD 1 undef)).toNat
theorem pick_mu {n i : Nat} {u v : Value} (h : i < n) : pickM n [u, .int .i64 ((i + 1 : Nat) : Int)] < pickM n [v, .int .i64 (i : Int)] := by
  show n - (((i + 1 : Nat) : Int)).toNat < n - ((i : Nat) : Int).toNat
  omega
theorem c_r5me (hla : Cs w qa (prs a)) (hna : a.length = na) (hma : na ≤ 1000000) (hIa : InP a) (hlb : Cs w qb (prs b)) (hnb : b.length = nb) (hmb : nb ≤ 1000000) (hIb : InP b)
    (h : ∀ p' n' c' w', OwnP w' w.heap.size p' n' c' (r5me o p a b) → Ext w w' → R (.returned (.tuple #[.slice p' n' c', .int .i64 (setE o p a b)])) w') :
    Calls Try.prog 61 #[.int .u8 o, .int .u8 p, .slice qa na ca, .slice qb nb cb] w R := by
  refine sh61_ok _ _ _ _ _ _ _ _ ?_
  unfold sh61
  refine do_call Try.call106 (c_r5both hla hna (by omega) hIa hlb hnb (by omega) hIb fun w1 e1 => retS_ret ⟨_, rfl, ?_⟩)
  cases hb : (mayR o a && mayR o b)
  · refine ifB_t rfl ?_
    have := h none 0 0 w1
    unfold r5me setE at this
    rw [hb, Bool.false_and] at this
    exact this (ownP_nil _ _) e1
  refine ifB_f rfl ?_
  refine do_call Try.call80 (c_rmay (retS_ret ⟨_, rfl, ?_⟩))
  cases hp : may p
  · refine ifB_t rfl ?_
    have := h none 0 0 w1
    unfold r5me setE at this
    rw [hp, Bool.and_false] at this
    exact this (ownP_nil _ _) e1
  refine ifB_f rfl ?_
  have hr : r5me o p a b = a.filterMap (meetF o p b) := by unfold r5me; rw [hb, hp]; rfl
  have he : setE o p a b = 0 := by unfold setE; rw [hb, hp]; rfl
  rw [hr, he] at h
  refine ⟨PickI w1 a (meetF o p b) na, fun vs _ => pickM na vs, pick_start, ?_⟩
  rintro q' n' c' x' _ w6 ⟨i, nn, cc, qq, hv, hi, e6, hrow⟩
  simp only [List.cons.injEq, Value.slice.injEq, Value.int.injEq, true_and, and_true] at hv
  obtain ⟨⟨rfl, rfl, rfl⟩, rfl⟩ := hv
  refine ifB_intro (fun hlt => ?_) fun hge => ?_
  rotate_left
  · have hge : ¬ (i : Int) < na := of_decide_eq_false hge
    rw [List.take_of_length_le (by omega)] at hrow
    exact h _ _ _ _ (row_mono hrow e1.size) (e1.trans e6)
  have hlt : i < na := by have := of_decide_eq_true hlt; omega
  have hi' : i < a.length := by omega
  have hnext : IntKind.wrap .i64 ((i : Int) + 1) = ((i + 1 : Nat) : Int) := wrap_succ (n := na) (by omega) (by omega)
  have hstep := take_filterMap (f := meetF o p b) hi'
  have hrl := ownP_len hrow
  have hrn : n' ≤ 1000000 := by have := fm_len (meetF o p b) (a.take i); rw [List.length_take] at this; omega
  have hla6 := hla.ext (e1.trans e6)
  refine ix_pr hla6 hna rfl hlt fun ad r1 _ _ => ⟨_, r1, ?_⟩
  refine do_call Try.call44 (c_r4get ((hlb.ext e1).ext e6) hnb (by omega) hIb (hIa _ (List.getElem_mem _)).1 fun w7 e7 => retS_ret ⟨_, _, rfl, ?_⟩)
  refine ifB_intro (fun hh => ?_) fun hh => ?_
  · have hf : meetF o p b a[i] = some (a[i].1, comb p a[i].2 (getR o b a[i].1)) := by unfold meetF; rw [hh]; rfl
    refine ⟨⟨fun w' => Ext w1 w', e6.trans (e7.trans (ext_drew _)), ?_⟩⟩
    have hla1 := hla.ext e1
    refine ix_prC (fun w' e' => hla1.ext e') (ext_refl _) hna (k := i) rfl hlt fun ad s1 _ => ⟨_, s1, ?_⟩
    refine ix_prC (fun w' e' => hla1.ext e') (ext_refl _) hna (k := i) rfl hlt fun ad _ s2 => ⟨_, s2, ?_⟩
    refine do_call Try.call97 (c_rcomb (retS_ret ⟨_, rfl, e6.trans (e7.trans (ext_drew _)), ?_⟩))
    have E8 := e7.trans (ext_drew w7)
    have hb8 : w1.heap.size ≤ w7.drew.heap.size := Nat.le_trans e6.size E8.size
    have hrow8 := E8.row hrow
    refine ⟨e6.trans (E8.trans (ext_alloc _ _)), ?_⟩
    refine (do_app1 hrow8 (by omega) hb8 (u := a[i].1) (v := comb p a[i].2 (getR o b a[i].1)) ?_).1
    intro q2 c2 w2 h2 hx g2 _
    have E2 := hx w1 (e6.trans E8) (Nat.le_refl _)
    refine ⟨_, _, _, rfl, E2, ⟨i + 1, n' + 1, c2, q2, by rw [hnext], by omega, E2, ?_⟩, ?_⟩
    · rw [hstep, hf]; exact h2
    · rw [hnext]; exact pick_mu hlt
  · have hf : meetF o p b a[i] = none := by unfold meetF; rw [hh]; rfl
    rw [hnext]
    refine ⟨⟨i + 1, n', c', q', rfl, by omega, e6.trans e7, ?_⟩, pick_mu hlt⟩
    rw [hstep, hf, Option.toList_none, List.append_nil]
    exact e7.row hrow
/-- what is less -/
def lessF (o : Int) (b : List Pr) (x : Pr) : Option Pr := if hasR o b x.1 then none else some x
def r5le (o : Int) (a b : List Pr) : List Pr := cond (mayR o a && mayR o b) (a.filterMap (lessF o b)) []
theorem may1 : may 1 = true := by simp [may]
theorem setE1 (o : Int) (a b : List Pr) : setE o 1 a b = cond (mayR o a && mayR o b) 0 2 := by unfold setE; rw [may1, Bool.and_true]
theorem c_r5le (hla : Cs w qa (prs a)) (hna : a.length = na) (hma : na ≤ 1000000) (hIa : InP a) (hlb : Cs w qb (prs b)) (hnb : b.length = nb) (hmb : nb ≤ 1000000) (hIb : InP b)
    (h : ∀ p' n' c' w', OwnP w' w.heap.size p' n' c' (r5le o a b) → Ext w w' → R (.returned (.tuple #[.slice p' n' c', .int .i64 (setE o 1 a b)])) w') :
    Calls Try.prog 62 #[.int .u8 o, .slice qa na ca, .slice qb nb cb] w R := by
  refine sh62_ok _ _ _ _ _ _ _ ?_
  unfold sh62
  rw [setE1] at h
  refine do_call Try.call106 (c_r5both hla hna (by omega) hIa hlb hnb (by omega) hIb fun w1 e1 => retS_ret ⟨_, rfl, ?_⟩)
  cases hb : (mayR o a && mayR o b)
  · refine ifB_t rfl ?_
    have := h none 0 0 w1
    unfold r5le at this
    rw [hb] at this
    exact this (ownP_nil _ _) e1
  refine ifB_f rfl ?_
  have hr : r5le o a b = a.filterMap (lessF o b) := by unfold r5le; rw [hb]; rfl
  rw [hr, hb, cond_true] at h
  refine ⟨PickI w1 a (lessF o b) na, fun vs _ => pickM na vs, pick_start, ?_⟩
  rintro q' n' c' x' _ w6 ⟨i, nn, cc, qq, hv, hi, e6, hrow⟩
  simp only [List.cons.injEq, Value.slice.injEq, Value.int.injEq, true_and, and_true] at hv
  obtain ⟨⟨rfl, rfl, rfl⟩, rfl⟩ := hv
  refine ifB_intro (fun hlt => ?_) fun hge => ?_
  rotate_left
  · have hge : ¬ (i : Int) < na := of_decide_eq_false hge
    rw [List.take_of_length_le (by omega)] at hrow
    exact h _ _ _ _ (row_mono hrow e1.size) (e1.trans e6)
  have hlt : i < na := by have := of_decide_eq_true hlt; omega
  have hi' : i < a.length := by omega
  have hnext : IntKind.wrap .i64 ((i : Int) + 1) = ((i + 1 : Nat) : Int) := wrap_succ (n := na) (by omega) (by omega)
  have hstep := take_filterMap (f := lessF o b) hi'
  have hrl := ownP_len hrow
  have hrn : n' ≤ 1000000 := by have := fm_len (lessF o b) (a.take i); rw [List.length_take] at this; omega
  have hla6 := hla.ext (e1.trans e6)
  refine ix_pr hla6 hna rfl hlt fun ad r1 _ _ => ⟨_, r1, ?_⟩
  refine do_call Try.call44 (c_r4get ((hlb.ext e1).ext e6) hnb (by omega) hIb (hIa _ (List.getElem_mem _)).1 fun w7 e7 => retS_ret ⟨_, _, rfl, ?_⟩)
  cases hh : hasR o b a[i].1
  · have hf : lessF o b a[i] = some a[i] := by unfold lessF; rw [hh]; rfl
    refine ifB_t rfl ?_
    refine ix_pr (hla6.ext e7) hna rfl hlt fun ad r1 r2 _ => ⟨_, r1, _, r2, ?_⟩
    refine do_app1 (e7.row hrow) (by omega) (Nat.le_trans e6.size e7.size) ?_
    intro q2 c2 w2 h2 hx g2 _
    have E2 := hx w1 (e6.trans e7) (Nat.le_refl _)
    refine ⟨_, _, _, rfl, ⟨i + 1, n' + 1, c2, q2, by rw [hnext], by omega, E2, ?_⟩, ?_⟩
    · rw [hstep, hf]; exact h2
    · rw [hnext]; exact pick_mu hlt
  · have hf : lessF o b a[i] = none := by unfold lessF; rw [hh]; rfl
    refine ifB_f rfl ?_
    rw [hnext]
    refine ⟨⟨i + 1, n', c', q', rfl, by omega, e6.trans e7, ?_⟩, pick_mu hlt⟩
    rw [hstep, hf, Option.toList_none, List.append_nil]
    exact e7.row hrow
theorem r5le_in (hIa : InP a) : InP (r5le o a b) := fun x hx => by
  unfold r5le at hx
  cases hb : (mayR o a && mayR o b) <;> rw [hb] at hx
  · cases hx
  · obtain ⟨y, hy, e⟩ := List.mem_filterMap.1 hx
    unfold lessF at e
    split at e
    · cases e
    · cases e; exact hIa _ hy
theorem r5le_len : (r5le o a b).length ≤ a.length := by
  unfold r5le
  cases (mayR o a && mayR o b)
  · exact Nat.zero_le _
  · exact fm_len _ _
def r5ap (o : Int) (a b : List Pr) : List Pr := cond (mayR o a && mayR o b) (r5un o 1 (r5le o a b) (r5le o b a)) []
/-- the parts of a row are rows -/
theorem fm_may {f : Pr → Option Pr} (hf : ∀ x y, f x = some y → y.1 = x.1) {l : List Pr} (h : mayR o l = true) : mayR o (l.filterMap f) = true := by
  rw [mayR_iff] at h ⊢
  refine ⟨h.1, ?_⟩
  have h2 := h.2
  clear h
  induction l with
  | nil => simp
  | cons x l ih =>
    simp only [List.map_cons, List.pairwise_cons, List.mem_map, forall_exists_index, and_imp, forall_apply_eq_imp_iff₂] at h2
    cases hx : f x with
    | none => rw [List.filterMap_cons_none hx]; exact ih h2.2
    | some y =>
      rw [List.filterMap_cons_some hx, List.map_cons, List.pairwise_cons]
      refine ⟨fun k hk => ?_, ih h2.2⟩
      obtain ⟨z, hz, rfl⟩ := List.mem_map.1 hk
      obtain ⟨z', hz', e⟩ := List.mem_filterMap.1 hz
      rw [hf _ _ hx, hf _ _ e]; exact h2.1 _ hz'
theorem lessF_key (x y : Pr) (h : lessF o b x = some y) : y.1 = x.1 := by
  unfold lessF at h
  split at h
  · cases h
  · cases h; rfl
theorem r5le_may (ha : mayR o a = true) (hb : mayR o b = true) : mayR o (r5le o a b) = true := by
  unfold r5le; rw [ha, hb]; exact fm_may lessF_key ha
theorem c_r5ap (hla : Cs w qa (prs a)) (hna : a.length = na) (hma : na ≤ 1000000) (hIa : InP a) (hlb : Cs w qb (prs b)) (hnb : b.length = nb) (hmb : nb ≤ 1000000) (hIb : InP b)
    (h : ∀ p' n' c' w', OwnP w' w.heap.size p' n' c' (r5ap o a b) → Ext w w' → R (.returned (.tuple #[.slice p' n' c', .int .i64 (setE o 1 a b)])) w') :
    Calls Try.prog 63 #[.int .u8 o, .slice qa na ca, .slice qb nb cb] w R := by
  refine sh63_ok _ _ _ _ _ _ _ ?_
  unfold sh63
  refine do_call Try.call62 (c_r5le hla hna hma hIa hlb hnb hmb hIb fun p1 n1 c1 w1 h1 e1 => retS_ret ⟨_, _, _, _, rfl, ?_⟩)
  rw [setE1] at h ⊢
  cases hb : (mayR o a && mayR o b)
  · refine ifB_t rfl ?_
    have := h none 0 0 w1
    unfold r5ap at this
    rw [hb] at this
    exact this (ownP_nil _ _) e1
  refine ifB_f rfl ?_
  have hr : r5ap o a b = r5un o 1 (r5le o a b) (r5le o b a) := by unfold r5ap; rw [hb]; rfl
  rw [hr, hb, cond_true] at h
  have hma' : mayR o a = true := by cases ha : mayR o a <;> simp [ha] at hb ⊢
  have hmb' : mayR o b = true := by cases ha : mayR o b <;> simp [ha] at hb ⊢
  refine do_call Try.call62 (c_r5le (hlb.ext e1) hnb hmb hIb (hla.ext e1) hna hma hIa fun p2 n2 c2 w2 h2 e2 => retS_ret ⟨_, _, _, _, rfl, ?_⟩)
  have hl1 := ownP_len h1
  have hl2 := ownP_len h2
  have k1 := r5le_len (o := o) (a := a) (b := b)
  have k2 := r5le_len (o := o) (a := b) (b := a)
  refine do_call Try.call60 (c_r5un ((ownP_cs h1).ext e2) hl1 (by omega) (r5le_in hIa) (ownP_cs h2) hl2 (by omega) (r5le_in hIb) fun p3 n3 c3 w3 h3 e3 => retS_ret ⟨_, _, _, _, rfl, ?_⟩)
  rw [setE1, r5le_may hma' hmb', r5le_may hmb' hma']
  exact h _ _ _ _ (row_mono h3 (Nat.le_trans e1.size e2.size)) ((e1.trans e2).trans e3)
/-- what lies between -/
def rangeF (o lo hi : Int) (x : Pr) : Option Pr := if !(decide (cmpI o x.1 lo < 0)) && !(decide (cmpI o hi x.1 < 0)) then some x else none
def r5rg (o : Int) (a : List Pr) (lo hi : Int) : List Pr := cond (mayR o a) (a.filterMap (rangeF o lo hi)) []
theorem c_r5rg {lo hi : Int} (hlo : In lo) (hhi : In hi) (hla : Cs w qa (prs a)) (hna : a.length = na) (hma : na ≤ 1000000) (hIa : InP a)
    (h : ∀ p' n' c' w', OwnP w' w.heap.size p' n' c' (r5rg o a lo hi) → Ext w w' → R (.returned (.tuple #[.slice p' n' c', .int .i64 (cond (mayR o a) 0 2)])) w') :
    Calls Try.prog 65 #[.int .u8 o, .slice qa na ca, .int .i64 lo, .int .i64 hi] w R := by
  refine sh65_ok _ _ _ _ _ _ ?_
  unfold sh65
  refine do_call Try.call49 (c_r4may hla hna (by omega) hIa fun w1 e1 => retS_ret ⟨_, rfl, ?_⟩)
  cases hb : mayR o a
  · refine ifB_t rfl ?_
    have := h none 0 0 w1
    unfold r5rg at this
    rw [hb] at this
    exact this (ownP_nil _ _) e1
  refine ifB_f rfl ?_
  have hr : r5rg o a lo hi = a.filterMap (rangeF o lo hi) := by unfold r5rg; rw [hb]; rfl
  rw [hr, hb, cond_true] at h
  refine ⟨PickI w1 a (rangeF o lo hi) na, fun vs _ => pickM na vs, pick_start, ?_⟩
  rintro q' n' c' x' _ w6 ⟨i, nn, cc, qq, hv, hin, e6, hrow⟩
  simp only [List.cons.injEq, Value.slice.injEq, Value.int.injEq, true_and, and_true] at hv
  obtain ⟨⟨rfl, rfl, rfl⟩, rfl⟩ := hv
  refine ifB_intro (fun hlt => ?_) fun hge => ?_
  rotate_left
  · have hge : ¬ (i : Int) < na := of_decide_eq_false hge
    rw [List.take_of_length_le (by omega)] at hrow
    exact h _ _ _ _ (row_mono hrow e1.size) (e1.trans e6)
  have hlt : i < na := by have := of_decide_eq_true hlt; omega
  have hi' : i < a.length := by omega
  have hnext : IntKind.wrap .i64 ((i : Int) + 1) = ((i + 1 : Nat) : Int) := wrap_succ (n := na) (by omega) (by omega)
  have hstep := take_filterMap (f := rangeF o lo hi) hi'
  have hrl := ownP_len hrow
  have hrn : n' ≤ 1000000 := by have := fm_len (rangeF o lo hi) (a.take i); rw [List.length_take] at this; omega
  have hla6 := hla.ext (e1.trans e6)
  have hxI := (hIa _ (List.getElem_mem hi')).1
  have hno : rangeF o lo hi a[i] = none → PickI w1 a (rangeF o lo hi) na [.slice q' n' c', .int .i64 (IntKind.wrap .i64 ((i : Int) + 1))] w6 ∧ pickM na [.slice q' n' c', .int .i64 (IntKind.wrap .i64 ((i : Int) + 1))] < pickM na [.slice q' n' c', .int .i64 (i : Int)] := by
    intro hf
    rw [hnext]
    refine ⟨⟨i + 1, n', c', q', rfl, by omega, e6, ?_⟩, pick_mu hlt⟩
    rw [hstep, hf, Option.toList_none, List.append_nil]
    exact hrow
  refine ix_pr hla6 hna rfl hlt fun ad r1 _ _ => ⟨_, r1, ?_⟩
  refine do_call Try.call96 (c_rless hxI hlo (retS_ret ⟨_, rfl, ?_⟩))
  cases h1 : decide (cmpI o a[i].1 lo < 0)
  · refine ifB_t rfl ?_
    refine ix_pr hla6 hna rfl hlt fun ad r1 _ _ => ⟨_, r1, ?_⟩
    refine do_call Try.call96 (c_rless hhi hxI (retS_ret ⟨_, rfl, ?_⟩))
    cases h2 : decide (cmpI o hi a[i].1 < 0)
    · refine ifB_t rfl ?_
      have hf : rangeF o lo hi a[i] = some a[i] := by unfold rangeF; rw [h1, h2]; rfl
      refine ix_pr hla6 hna rfl hlt fun ad r1 r2 _ => ⟨_, r1, _, r2, ?_⟩
      refine do_app1 hrow (by omega) e6.size ?_
      intro q2 c2 w2 h2 hx g2 _
      have E2 := hx w1 e6 (Nat.le_refl _)
      refine ⟨_, _, _, rfl, ⟨i + 1, n' + 1, c2, q2, by rw [hnext], by omega, E2, ?_⟩, ?_⟩
      · rw [hstep, hf]; exact h2
      · rw [hnext]; exact pick_mu hlt
    · exact ifB_f rfl (hno (by unfold rangeF; rw [h1, h2]; rfl))
  · exact ifB_f rfl (hno (by unfold rangeF; rw [h1]; rfl))
/-- how a row is cut -/
def cutAF (o key : Int) (x : Pr) : Option Pr := if decide (cmpI o x.1 key < 0) then some x else none
def cutBF (o key : Int) (x : Pr) : Option Pr := if decide (cmpI o key x.1 < 0) then some x else none
def r5ca (o : Int) (a : List Pr) (key : Int) : List Pr := cond (mayR o a) (a.filterMap (cutAF o key)) []
def r5cb (o : Int) (a : List Pr) (key : Int) : List Pr := cond (mayR o a) (a.filterMap (cutBF o key)) []
def cutM (n : Nat) (vs : List Value) : Nat := n - (intOf (vs.getD 2 undef)).toNat
theorem cut_mu {n i : Nat} {u v u' v' : Value} (h : i < n) : cutM n [u, u', .int .i64 ((i + 1 : Nat) : Int)] < cutM n [v, v', .int .i64 (i : Int)] := by
  show n - (((i + 1 : Nat) : Int)).toNat < n - ((i : Nat) : Int).toNat
  omega
/-- two rows of one's own, apart -/
def Two (w : World) (base : Nat) (p : Option Addr) (n c : Nat) (l : List Pr) (p' : Option Addr) (n' c' : Nat) (l' : List Pr) : Prop :=
  OwnP w base p n c l ∧ OwnP w base p' n' c' l' ∧ ((Value.slice p' n' c').ownBlock = none ∨ (Value.slice p' n' c').ownBlock ≠ (Value.slice p n c).ownBlock)
theorem Two.swap {w : World} {base : Nat} {p : Option Addr} {n c : Nat} {l : List Pr} {p' : Option Addr} {n' c' : Nat} {l' : List Pr} (h : Two w base p n c l p' n' c' l') : Two w base p' n' c' l' p n c l := by
  refine ⟨h.2.1, h.1, ?_⟩
  rcases h.2.2 with g | g
  · cases hq : (Value.slice p n c).ownBlock with
    | none => exact .inl rfl
    | some k => rw [g]; exact .inr (by simp)
  · exact .inr (Ne.symm g)
theorem Two.grow {w w' : World} {base : Nat} {p : Option Addr} {n c : Nat} {l : List Pr} {p' : Option Addr} {n' c' : Nat} {l' : List Pr} (h : Two w base p n c l p' n' c' l') {p2 : Option Addr} {n2 c2 : Nat} {l2 : List Pr}
    (h2 : OwnP w' base p2 n2 c2 l2) (g : w.grownBy w' (Value.slice p n c).ownBlock) (hor : (Value.slice p2 n2 c2).ownBlock = (Value.slice p n c).ownBlock ∨ ∀ k, (Value.slice p2 n2 c2).ownBlock = some k → w.heap.size ≤ k) : Two w' base p2 n2 c2 l2 p' n' c' l' := by
  refine ⟨h2, World.ownsRow.kept h.2.1 g h.2.2, ?_⟩
  rcases hor with e | e
  · rw [e]; exact h.2.2
  · cases hq : (Value.slice p' n' c').ownBlock with
    | none => exact .inl rfl
    | some k =>
      right
      intro e'
      have := (World.ownsRow.lt h.2.1 k hq).2
      have := e k e'.symm
      omega
theorem Two.ext {w w' : World} {base : Nat} {p : Option Addr} {n c : Nat} {l : List Pr} {p' : Option Addr} {n' c' : Nat} {l' : List Pr} (h : Two w base p n c l p' n' c' l') (e : Ext w w') : Two w' base p n c l p' n' c' l' :=
  ⟨e.row h.1, e.row h.2.1, h.2.2⟩
set_option maxHeartbeats 800000 in
theorem c_r5cut {key : Int} (hk : In key) (hla : Cs w qa (prs a)) (hna : a.length = na) (hma : na ≤ 1000000) (hIa : InP a)
    (h : ∀ p1 n1 c1 p2 n2 c2 w', Two w' w.heap.size p1 n1 c1 (r5ca o a key) p2 n2 c2 (r5cb o a key) → Ext w w' → R (.returned (.tuple #[.slice p1 n1 c1, .int .i64 (getR o a key), .bool (hasR o a key), .slice p2 n2 c2])) w') :
    Calls Try.prog 67 #[.int .u8 o, .slice qa na ca, .int .i64 key] w R := by
  refine sh67_ok _ _ _ _ _ ?_
  unfold sh67
  refine do_call Try.call49 (c_r4may hla hna (by omega) hIa fun w1 e1 => retS_ret ⟨_, rfl, ?_⟩)
  cases hb : mayR o a
  · refine ifB_t rfl ?_
    have := h none 0 0 none 0 0 w1
    have hh : hasR o a key = false := by unfold hasR; rw [hb]; rfl
    unfold r5ca r5cb at this
    rw [hb, get_none hh, hh] at this
    exact this ⟨ownP_nil _ _, ownP_nil _ _, .inl rfl⟩ e1
  refine ifB_f rfl ?_
  have hr : r5ca o a key = a.filterMap (cutAF o key) := by unfold r5ca; rw [hb]; rfl
  have hr' : r5cb o a key = a.filterMap (cutBF o key) := by unfold r5cb; rw [hb]; rfl
  rw [hr, hr'] at h
  have hsz1 := e1.size
  refine ⟨fun vs w' => ∃ (i n1 c1 n2 c2 : Nat) (p1 p2 : Option Addr), vs = [.slice p1 n1 c1, .slice p2 n2 c2, .int .i64 i] ∧ i ≤ na ∧ Ext w1 w' ∧ Two w' w1.heap.size p1 n1 c1 ((a.take i).filterMap (cutAF o key)) p2 n2 c2 ((a.take i).filterMap (cutBF o key)),
    fun vs _ => cutM na vs, ⟨0, 0, 0, 0, 0, none, none, rfl, Nat.zero_le _, ext_refl _, by rw [List.take_zero]; exact ⟨ownP_nil _ _, ownP_nil _ _, .inl rfl⟩⟩, ?_⟩
  rintro p1 n1 c1 p2 n2 c2 x' _ w6 ⟨i, _, _, _, _, _, _, hv, hi, e6, hrow⟩
  simp only [List.cons.injEq, Value.slice.injEq, Value.int.injEq, true_and, and_true] at hv
  obtain ⟨⟨rfl, rfl, rfl⟩, ⟨rfl, rfl, rfl⟩, rfl⟩ := hv
  refine ifB_intro (fun hlt => ?_) fun hge => ?_
  rotate_left
  · have hge : ¬ (i : Int) < na := of_decide_eq_false hge
    rw [List.take_of_length_le (by omega)] at hrow
    refine do_call Try.call44 (c_r4get (hla.ext (e1.trans e6)) hna (by omega) hIa hk fun w7 e7 => retS_ret ⟨_, _, rfl, ?_⟩)
    have hr7 := hrow.ext e7
    exact h _ _ _ _ _ _ _ ⟨row_mono hr7.1 hsz1, row_mono hr7.2.1 hsz1, hr7.2.2⟩ ((e1.trans e6).trans e7)
  have hlt : i < na := by have := of_decide_eq_true hlt; omega
  have hi' : i < a.length := by omega
  have hnext : IntKind.wrap .i64 ((i : Int) + 1) = ((i + 1 : Nat) : Int) := wrap_succ (n := na) (by omega) (by omega)
  have hstepA := take_filterMap (f := cutAF o key) hi'
  have hstepB := take_filterMap (f := cutBF o key) hi'
  have hl1 := ownP_len hrow.1
  have hl2 := ownP_len hrow.2.1
  have k1 := fm_len (cutAF o key) (a.take i)
  have k2 := fm_len (cutBF o key) (a.take i)
  rw [List.length_take] at k1 k2
  have hxI := (hIa _ (List.getElem_mem hi')).1
  have hdone : ∀ (p3 : Option Addr) (n3 c3 : Nat) (p4 : Option Addr) (n4 c4 : Nat) (w7 : World), Ext w1 w7 → Two w7 w1.heap.size p3 n3 c3 ((a.take (i + 1)).filterMap (cutAF o key)) p4 n4 c4 ((a.take (i + 1)).filterMap (cutBF o key)) →
      (∃ (i' n1 c1 n2 c2 : Nat) (p1 p2 : Option Addr), ([.slice p3 n3 c3, .slice p4 n4 c4, .int .i64 (IntKind.wrap .i64 (((i : Nat) : Int) + 1))] : List Value) = [.slice p1 n1 c1, .slice p2 n2 c2, .int .i64 i'] ∧ i' ≤ na ∧ Ext w1 w7 ∧ Two w7 w1.heap.size p1 n1 c1 ((a.take i').filterMap (cutAF o key)) p2 n2 c2 ((a.take i').filterMap (cutBF o key))) ∧
       cutM na [.slice p3 n3 c3, .slice p4 n4 c4, .int .i64 (IntKind.wrap .i64 (((i : Nat) : Int) + 1))] < cutM na [.slice p1 n1 c1, .slice p2 n2 c2, .int .i64 ((i : Nat) : Int)] := by
    intro p3 n3 c3 p4 n4 c4 w7 e7 h7
    rw [hnext]
    exact ⟨⟨i + 1, n3, c3, n4, c4, p3, p4, rfl, by omega, e7, h7⟩, cut_mu hlt⟩
  have hla6 := hla.ext (e1.trans e6)
  refine ix_pr hla6 hna rfl hlt fun ad r1 _ _ => ⟨_, r1, ?_⟩
  refine do_call Try.call96 (c_rless hxI hk (retS_ret ⟨_, rfl, ?_⟩))
  cases h1 : decide (cmpI o a[i].1 key < 0)
  · have hA : cutAF o key a[i] = none := by unfold cutAF; rw [h1]; rfl
    rw [hA, Option.toList_none, List.append_nil] at hstepA
    refine ifB_f rfl ?_
    refine ix_pr hla6 hna rfl hlt fun ad r1 _ _ => ⟨_, r1, ?_⟩
    refine do_call Try.call96 (c_rless hk hxI (retS_ret ⟨_, rfl, ?_⟩))
    cases h2 : decide (cmpI o key a[i].1 < 0)
    · have hB : cutBF o key a[i] = none := by unfold cutBF; rw [h2]; rfl
      rw [hB, Option.toList_none, List.append_nil] at hstepB
      exact ifB_f rfl (hdone _ _ _ _ _ _ _ e6 (by rw [hstepA, hstepB]; exact hrow))
    · have hB : cutBF o key a[i] = some a[i] := by unfold cutBF; rw [h2]; rfl
      rw [hB] at hstepB
      refine ifB_t rfl ?_
      refine ix_pr hla6 hna rfl hlt fun ad r1 r2 _ => ⟨_, r1, _, r2, ?_⟩
      refine do_app1 hrow.2.1 (by omega) e6.size ?_
      intro q2 c2' w2 h2 hx g2 hor
      exact ⟨_, _, _, rfl, hdone _ _ _ _ _ _ _ (hx w1 e6 (Nat.le_refl _)) (by rw [hstepA, hstepB]; exact (hrow.swap.grow h2 g2 hor).swap)⟩
  · have hA : cutAF o key a[i] = some a[i] := by unfold cutAF; rw [h1]; rfl
    rw [hA] at hstepA
    have h2 : decide (cmpI o key a[i].1 < 0) = false := by
      have := cmpI_neg (of_decide_eq_true h1)
      exact decide_eq_false (by omega)
    have hB : cutBF o key a[i] = none := by unfold cutBF; rw [h2]; rfl
    rw [hB, Option.toList_none, List.append_nil] at hstepB
    refine ifB_t rfl ?_
    refine ix_pr hla6 hna rfl hlt fun ad r1 r2 _ => ⟨_, r1, _, r2, ?_⟩
    refine do_app1 hrow.1 (by omega) e6.size ?_
    intro q2 c2' w2 h3 hx g2 hor
    have E2 := hx w1 e6 (Nat.le_refl _)
    refine ⟨_, _, _, rfl, ?_⟩
    refine ix_pr (hla.ext (e1.trans E2)) hna rfl hlt fun ad r1 _ _ => ⟨_, r1, ?_⟩
    refine do_call Try.call96 (c_rless hk hxI (retS_ret ⟨_, rfl, ?_⟩))
    exact ifB_f h2 (hdone _ _ _ _ _ _ _ E2 (by rw [hstepA, hstepB]; exact hrow.grow h3 g2 hor))
end
end Go.Proofs.Ytinkkhcffoikmaa
