/-
  Rows as sets: plain laws, and what the functions of rowset do: both, some.
-/
import Derived.Test.YtinkkhcffoikmaaSort4
import Derived.Test.YtinkkhcffoikmaaTree3
namespace Go.Proofs.Ytinkkhcffoikmaa
open Go Go.Sh Go.RowKit

/-- a key of two rows -/
structure Ke where
  key : Int
  a : Int
  b : Int
  inA : Bool
  inB : Bool
def keV (e : Ke) : Value := .agg #[.int .i64 e.key, .int .i64 e.a, .int .i64 e.b, .bool e.inA, .bool e.inB]
def mg (o : Int) : List Pr → List Pr → List Ke
  | [], [] => []
  | [], y :: b => ⟨y.1, 0, y.2, false, true⟩ :: mg o [] b
  | x :: a, [] => ⟨x.1, x.2, 0, true, false⟩ :: mg o a []
  | x :: a, y :: b =>
    if cmpI o x.1 y.1 < 0 then ⟨x.1, x.2, 0, true, false⟩ :: mg o a (y :: b)
    else if cmpI o x.1 y.1 = 0 then (if x.1 = y.1 then ⟨x.1, x.2, y.2, true, true⟩ :: mg o a b else ⟨x.1, x.2, 0, true, false⟩ :: mg o a (y :: b))
    else ⟨y.1, 0, y.2, false, true⟩ :: mg o (x :: a) b
termination_by a b => a.length + b.length
/-- one step of the walk over two rows -/
structure Step (o : Int) (ra rb ra' rb' : List Pr) (e : Ke) (tr : Int) : Prop where
  mg : mg o ra rb = e :: mg o ra' rb'
  inA : e.inA = (decide (0 < ra.length) && (decide (rb.length = 0) || decide (tr ≤ 0)))
  yesA : e.inA = true → ∃ x, ra = x :: ra' ∧ e.a = x.2 ∧ e.key = x.1
  noA : e.inA = false → ra' = ra ∧ e.a = 0
  inB : ∀ k0, (e.inA = true → k0 = e.key) → e.inB = (decide (0 < rb.length) && (!e.inA || (decide (tr = 0) && (k0 == (rb.getD 0 (0, 0)).1))))
  yesB : e.inB = true → ∃ y, rb = y :: rb' ∧ e.b = y.2 ∧ e.key = y.1
  noB : e.inB = false → rb' = rb ∧ e.b = 0
  some : e.inA = false → e.inB = true
theorem step_of {o : Int} {ra rb : List Pr} (h : 0 < ra.length + rb.length) {tr : Int} (htr : ∀ x a y b, ra = x :: a → rb = y :: b → tr = cmpI o x.1 y.1) : ∃ ra' rb' e, Step o ra rb ra' rb' e tr := by
  match ra, rb, h, htr with
  | [], y :: b, _, _ => exact ⟨[], b, ⟨y.1, 0, y.2, false, true⟩, by rw [mg], by simp, by simp, fun _ => ⟨rfl, rfl⟩, by simp, fun _ => ⟨y, rfl, rfl, rfl⟩, by simp, fun _ => rfl⟩
  | x :: a, [], _, _ => exact ⟨a, [], ⟨x.1, x.2, 0, true, false⟩, by rw [mg], by simp, fun _ => ⟨x, rfl, rfl, rfl⟩, by simp, by simp, by simp, fun _ => ⟨rfl, rfl⟩, by simp⟩
  | x :: a, y :: b, _, htr =>
    have ht := htr x a y b rfl rfl
    subst ht
    by_cases h1 : cmpI o x.1 y.1 < 0
    · refine ⟨a, y :: b, ⟨x.1, x.2, 0, true, false⟩, by rw [mg, if_pos h1], ?_, fun _ => ⟨x, rfl, rfl, rfl⟩, by simp, fun k0 hk => ?_, by simp, fun _ => ⟨rfl, rfl⟩, by simp⟩
      · simp; omega
      · simp; intro h; omega
    · by_cases h2 : cmpI o x.1 y.1 = 0
      · by_cases h3 : x.1 = y.1
        · refine ⟨a, b, ⟨x.1, x.2, y.2, true, true⟩, by rw [mg, if_neg h1, if_pos h2, if_pos h3], ?_, fun _ => ⟨x, rfl, rfl, rfl⟩, by simp, fun k0 hk => ?_, fun _ => ⟨y, rfl, rfl, h3⟩, by simp, by simp⟩
          · simp; omega
          · simp [hk rfl, h3, cmpI_self]
        · refine ⟨a, y :: b, ⟨x.1, x.2, 0, true, false⟩, by rw [mg, if_neg h1, if_pos h2, if_neg h3], ?_, fun _ => ⟨x, rfl, rfl, rfl⟩, by simp, fun k0 hk => ?_, by simp, fun _ => ⟨rfl, rfl⟩, by simp⟩
          · simp; omega
          · simp [h2, hk rfl, h3]
      · refine ⟨x :: a, b, ⟨y.1, 0, y.2, false, true⟩, by rw [mg, if_neg h1, if_neg h2], ?_, by simp, fun _ => ⟨rfl, rfl⟩, fun k0 hk => by simp, fun _ => ⟨y, rfl, rfl, rfl⟩, by simp, fun _ => rfl⟩
        simp; omega
def lenAt (b : Nat) (w : World) : Nat := match w.cell? (blk b) with
  | some (.slice _ n _) => n
  | _ => 0
theorem lenAt_of {b : Nat} {w : World} {p : Option Addr} {n c : Nat} {t : TypeId} (h : Blk w b #[.slice p n c] t) : lenAt b w = n := by
  unfold lenAt; rw [h.cell (i := 0) rfl rfl]; rfl
def turnOf (o : Int) : List Pr → List Pr → Int
  | x :: _, y :: _ => cmpI o x.1 y.1
  | _, _ => 0
/-- What 'both' asks of yield: its own two cells stay. -/
structure BothTo (hp : Nat) (o : Int) (a b : List Pr) (qa qb : Option Addr) (ba bb bo : Nat) (y : Value) (St : Nat → World → Prop) : Prop where
  cs : ∀ i w, St i w → Cs w qa (prs a) ∧ Cs w qb (prs b) ∧ Blk w bo #[.int .u8 o] 5
  ext : ∀ i w w', St i w → Ext w w' → St i w'
  grown : ∀ i w w' k, (k = ba ∨ k = bb ∨ (hp ≤ k ∧ ∃ cs, Blk w k cs 122)) → St i w → w.grownBy w' (some k) → St i w'
  size : ∀ i w, St i w → hp ≤ w.heap.size
  yields : ∀ i e, (mg o a b)[i]? = some e → ∀ w sa sb, St i w → Blk w ba sa 33 → Blk w bb sb 33 → ∀ R' : Ending → World → Prop,
    (∀ w', St (i + 1) w' → Blk w' ba sa 33 → Blk w' bb sb 33 → R' (.returned (.bool true)) w') → doCall Try.prog y #[keV e] w R'
/-- the state inside of a round of 'both' -/
structure SS (hp : Nat) (St : Nat → World → Prop) (ba bb bx i : Nat) (sa sb : Value) (cs : Array Value) (w : World) : Prop where
  st : St i w
  a : Blk w ba #[sa] 33
  b : Blk w bb #[sb] 33
  x : Blk w bx cs 122
  ne : ba ≠ bx ∧ bb ≠ bx ∧ ba ≠ bb
  hp : hp ≤ bx
theorem SS.ext {o : Int} {a b : List Pr} {qa qb : Option Addr} {ba bb bo bx i : Nat} {y : Value} {St : Nat → World → Prop} {sa sb : Value} {cs : Array Value} {w w' : World} {hp : Nat} (hy : BothTo hp o a b qa qb ba bb bo y St) (h : SS hp St ba bb bx i sa sb cs w) (e : Ext w w') : SS hp St ba bb bx i sa sb cs w' :=
  ⟨hy.ext _ _ _ h.st e, h.a.ext e, h.b.ext e, h.x.ext e, h.ne, h.hp⟩
theorem do_stx {o : Int} {a b : List Pr} {qa qb : Option Addr} {ba bb bo bx i : Nat} {y : Value} {St : Nat → World → Prop} {sa sb : Value} {cs : Array Value} {w : World} {hp : Nat} (hy : BothTo hp o a b qa qb ba bb bo y St) (h : SS hp St ba bb bx i sa sb cs w) {j : Nat} (hj : j < cs.size) {v : Value} {K : World → Prop}
    (k : ∀ w', SS hp St ba bb bx i sa sb (cs.setIfInBounds j v) w' → K w') : doSt (((blk bx).add j).add 0) v w K :=
  do_st (i := j) h.x (by rw [add_zero', add_blk]) hj fun w' h' g => k w' ⟨hy.grown _ _ _ _ (.inr (.inr ⟨h.hp, _, h.x⟩)) h.st g, h.a.grown g (ne_some h.ne.1), h.b.grown g (ne_some h.ne.2.1), h', h.ne, h.hp⟩
theorem do_sta {o : Int} {a b : List Pr} {qa qb : Option Addr} {ba bb bo bx i : Nat} {y : Value} {St : Nat → World → Prop} {sa sb : Value} {cs : Array Value} {w : World} {hp : Nat} (hy : BothTo hp o a b qa qb ba bb bo y St) (h : SS hp St ba bb bx i sa sb cs w) {v : Value} {K : World → Prop}
    (k : ∀ w', SS hp St ba bb bx i v sb cs w' → K w') : doSt ((blk ba).add 0) v w K :=
  do_st (i := 0) h.a (add_blk _ _) (by simp) fun w' h' g => k w' ⟨hy.grown _ _ _ _ (.inl rfl) h.st g, h', h.b.grown g (ne_some h.ne.2.2.symm), h.x.grown g (ne_some h.ne.1.symm), h.ne, h.hp⟩
theorem do_stb {o : Int} {a b : List Pr} {qa qb : Option Addr} {ba bb bo bx i : Nat} {y : Value} {St : Nat → World → Prop} {sa sb : Value} {cs : Array Value} {w : World} {hp : Nat} (hy : BothTo hp o a b qa qb ba bb bo y St) (h : SS hp St ba bb bx i sa sb cs w) {v : Value} {K : World → Prop}
    (k : ∀ w', SS hp St ba bb bx i sa v cs w' → K w') : doSt ((blk bb).add 0) v w K :=
  do_st (i := 0) h.b (add_blk _ _) (by simp) fun w' h' g => k w' ⟨hy.grown _ _ _ _ (.inr (.inl rfl)) h.st g, h.a.grown g (ne_some h.ne.2.2), h', h.x.grown g (ne_some h.ne.2.1.symm), h.ne, h.hp⟩
set_option maxRecDepth 20000 in
set_option maxHeartbeats 1600000 in
theorem c_both1 {hp : Nat} {o : Int} {a b : List Pr} {qa qb : Option Addr} {na ca nb cb ba bb bo : Nat} {f : Fn} {fx fc : Array Value} {St : Nat → World → Prop} {w : World} {R : Ending → World → Prop} (hy : BothTo hp o a b qa qb ba bb bo (.func f fx fc) St)
    (hna : a.length = na) (hca : na ≤ ca) (hnb : b.length = nb) (hcb : nb ≤ cb) (hm : na + nb ≤ 1000000000) (hIa : InP a) (hIb : InP b) (hne : ba ≠ bb)
    (hba : Blk w ba #[.slice qa na ca] 33) (hbb : Blk w bb #[.slice qb nb cb] 33) (h0 : St 0 w) (hend : ∀ w', St (mg o a b).length w' → R (.returned (.tuple #[])) w') :
    Calls Try.prog 159 #[.func f fx fc, .pointer (some (blk ba)), .pointer (some (blk bb)), .pointer (some (blk bo))] w R := by
  refine sh159_ok _ _ _ _ _ _ ?_
  unfold sh159
  have slA : ∀ (l : List Pr) {q : Option Addr} {n c : Nat} {w : World} {K : Option Addr → Nat → Nat → Prop} (x : Pr) (l' : List Pr), l = x :: l' → Cs w q (prs l) → l.length = n → n ≤ c → (∀ p, (∀ w', Cs w' q (prs l) → Cs w' p (prs l')) → K p (n - 1) (c - 1)) → doSl q c 2 1 ((n : Nat) : Int) K := fun l {q n c w K} x l' hl hc hn hnc k => by
    have := sl_flat (ec := fun x : Pr => [.int .i64 x.1, .int .i64 x.2]) (s := 2) (fun _ => rfl) (by omega) (w := w) (q := q) (n := n) (c := c) (lo := 1) (hi := (n : Nat)) (l := l) (K := K) hc hn hnc (a := 1) (b := n) rfl rfl (by subst hl; simp at hn; omega) (Nat.le_refl _) fun p hp => k p fun w' hc' => by
      have := hp w' hc'
      rw [List.take_of_length_le (by omega), hl] at this
      exact this
    exact this
  refine ⟨fun vs w' => vs = [] ∧ ∃ (i : Nat) (ra rb : List Pr) (pa pb : Option Addr) (xa xb : Nat), i ≤ (mg o a b).length ∧ (mg o a b).drop i = mg o ra rb ∧ St i w' ∧ Blk w' ba #[.slice pa ra.length xa] 33 ∧ Blk w' bb #[.slice pb rb.length xb] 33 ∧
      ra.length ≤ xa ∧ rb.length ≤ xb ∧ ra.length + rb.length ≤ na + nb ∧ (∀ w'', Cs w'' qa (prs a) → Cs w'' pa (prs ra)) ∧ (∀ w'', Cs w'' qb (prs b) → Cs w'' pb (prs rb)) ∧ InP ra ∧ InP rb,
    fun _ w' => lenAt ba w' + lenAt bb w',
    ⟨rfl, 0, a, b, qa, qb, ca, cb, Nat.zero_le _, rfl, h0, by rw [hna]; exact hba, by rw [hnb]; exact hbb, by omega, by omega, by omega, fun _ h => h, fun _ h => h, hIa, hIb⟩, ?_⟩
  rintro _ w1 ⟨_, i, ra, rb, pa, pb, xa, xb, hi, hdrop, hs, hA, hBb, hxa, hxb, hsum, hpa, hpb, hIra, hIrb⟩
  refine ⟨_, _, _, hA.cell (i := 0) rfl rfl, _, _, _, hBb.cell (i := 0) rfl rfl, ?_⟩
  rw [wrap_of (x := (ra.length : Int) + (rb.length : Int)) (by omega) (by omega)]
  refine ifB_intro (fun hgt => ?_) fun hle => ?_
  rotate_left
  · have h0 : ra.length = 0 ∧ rb.length = 0 := by have := of_decide_eq_false hle; omega
    have e1 : ra = [] := List.eq_nil_of_length_eq_zero h0.1
    have e2 : rb = [] := List.eq_nil_of_length_eq_zero h0.2
    subst e1 e2
    rw [mg] at hdrop
    have : i = (mg o a b).length := by
      have := congrArg List.length hdrop
      simp at this; omega
    subst this
    exact hend w1 hs
  have hgt : 0 < ra.length + rb.length := by have := of_decide_eq_true hgt; omega
  refine ⟨?_⟩
  have e2 := ext_alloc w1 (.cells #[.int .i64 0, .int .i64 0, .int .i64 0, .bool false, .bool false] 122)
  have hx2 := blk_alloc w1 #[.int .i64 0, .int .i64 0, .int .i64 0, .bool false, .bool false] 122
  have hltA := hA.lt
  have hltB := hBb.lt
  have hs2 := hy.ext _ _ _ hs e2
  have hA2 := hA.ext e2
  have hB2 := hBb.ext e2
  generalize hbx : w1.heap.size = bx at *
  generalize w1.alloc (.cells #[.int .i64 0, .int .i64 0, .int .i64 0, .bool false, .bool false] 122) = w2 at *
  have hnx : ba ≠ bx ∧ bb ≠ bx ∧ ba ≠ bb := ⟨by omega, by omega, hne⟩
  obtain ⟨tr, htr⟩ : ∃ tr : Int, tr = turnOf o ra rb := ⟨_, rfl⟩
  obtain ⟨ra', rb', e, hst⟩ := step_of (o := o) (ra := ra) (rb := rb) hgt (tr := tr) (fun x a y b h1 h2 => by rw [htr, h1, h2]; rfl)
  have hSS : ∀ {w' : World}, Ext w1 w' → Blk w' bx #[.int .i64 0, .int .i64 0, .int .i64 0, .bool false, .bool false] 122 → SS hp St ba bb bx i (.slice pa ra.length xa) (.slice pb rb.length xb) #[.int .i64 0, .int .i64 0, .int .i64 0, .bool false, .bool false] w' :=
    fun E hx => ⟨hy.ext _ _ _ hs E, hA.ext E, hBb.ext E, hx, hnx, by rw [← hbx]; exact hy.size _ _ hs⟩
  refine ⟨fun vs w' => vs = [.int .i64 tr] ∧ Ext w1 w' ∧ Blk w' bx #[.int .i64 0, .int .i64 0, .int .i64 0, .bool false, .bool false] 122, ?_, ?_⟩
  rotate_left
  · -- how the two first ones stand
    refine ⟨fun vs w' => vs = [.bool (decide (0 < ra.length) && decide (0 < rb.length))] ∧ w' = w2, ?_, ?_⟩
    rotate_left
    · refine ⟨_, _, _, hA2.cell (i := 0) rfl rfl, ?_⟩
      refine ifB_intro (fun h1 => ?_) fun h1 => ?_
      · have h1 : 0 < ra.length := by have := of_decide_eq_true h1; omega
        refine ⟨_, _, _, hB2.cell (i := 0) rfl rfl, ?_, rfl⟩
        rw [decide_eq_true h1, Bool.true_and]
        congr 2
        exact decide_eq_decide.2 (by omega)
      · have h1 : ¬ 0 < ra.length := by have := of_decide_eq_false h1; omega
        exact ⟨by rw [decide_eq_false h1]; rfl, rfl⟩
    rintro x _ w3 ⟨hv, rfl⟩
    simp only [List.cons.injEq, Value.bool.injEq, and_true] at hv
    subst hv
    refine ifB_intro (fun h1 => ?_) fun h1 => ?_
    · simp only [Bool.and_eq_true, decide_eq_true_eq] at h1
      refine ⟨⟨fun w' => Ext w3 w', ext_drew _, _, fun w' e => ((hy.cs _ _ hs2).2.2.ext e).cell (i := 0) rfl rfl, _, _, _, fun w' e => (hA2.ext e).cell (i := 0) rfl rfl, ?_⟩⟩
      have hca' := hpa _ (hy.cs _ _ hs2).1
      have hcb' := hpb _ (hy.cs _ _ hs2).2.1
      refine ix_prC (fun w' e => hca'.ext e) (ext_refl _) rfl (k := 0) rfl h1.1 fun q r1 _ => ⟨_, r1, _, _, _, fun w' e => (hB2.ext e).cell (i := 0) rfl rfl, ?_⟩
      refine ix_prC (fun w' e => hcb'.ext e) (ext_refl _) rfl (k := 0) rfl h1.2 fun q r2 _ => ⟨_, r2, ?_⟩
      refine do_call Try.call93 (c_compare (hIra _ (List.getElem_mem _)).1 (hIrb _ (List.getElem_mem _)).1 fun w4 e4 => retS_ret ⟨_, rfl, (ext_drew _).trans e4, ?_, e2.trans ((ext_drew _).trans e4), hx2.ext ((ext_drew _).trans e4)⟩)
      rw [htr]
      cases ra with
      | nil => simp at h1
      | cons x a => cases rb with
        | nil => simp at h1
        | cons y b => rfl
    · refine ⟨?_, e2, hx2⟩
      rw [htr]
      cases ra with
      | nil => rfl
      | cons x a => cases rb with
        | nil => rfl
        | cons y b => simp at h1
  rintro t' _ w3 ⟨hv, e3, hx3⟩
  simp only [List.cons.injEq, Value.int.injEq, true_and, and_true] at hv
  subst hv
  have s3 := hSS e3 hx3
  obtain ⟨k0, hk0⟩ : ∃ k0 : Int, k0 = if e.inA then e.key else 0 := ⟨_, rfl⟩
  have hkk : e.inA = true → k0 = e.key := fun h => by rw [hk0, if_pos h]
  -- what was taken of the first row
  refine ⟨fun vs w' => vs = [] ∧ ∃ pa' xa', SS hp St ba bb bx i (.slice pa' ra'.length xa') (.slice pb rb.length xb) #[.int .i64 k0, .int .i64 e.a, .int .i64 0, .bool e.inA, .bool false] w' ∧ ra'.length ≤ xa' ∧ ra'.length ≤ ra.length ∧ (∀ w'', Cs w'' qa (prs a) → Cs w'' pa' (prs ra')) ∧ InP ra', ?_, ?_⟩
  rotate_left
  · refine ⟨fun vs w' => vs = [] ∧ SS hp St ba bb bx i (.slice pa ra.length xa) (.slice pb rb.length xb) #[.int .i64 0, .int .i64 0, .int .i64 0, .bool e.inA, .bool false] w', ?_, ?_⟩
    rotate_left
    · refine ⟨_, _, _, s3.a.cell (i := 0) rfl rfl, ?_⟩
      have hin := hst.inA
      refine ifB_intro (fun h1 => ?_) fun h1 => ?_
      · have h1 : 0 < ra.length := by have := of_decide_eq_true h1; omega
        rw [decide_eq_true h1, Bool.true_and] at hin
        refine ⟨_, _, _, s3.b.cell (i := 0) rfl rfl, ?_⟩
        refine ifB_intro (fun h2 => ?_) fun h2 => ?_
        · have h2 : rb.length = 0 := by simpa using h2
          rw [decide_eq_true h2, Bool.true_or] at hin
          rw [hin]
          exact do_stx hy s3 (j := 3) (by simp) fun w4 s4 => ⟨rfl, s4⟩
        · have h2 : ¬ rb.length = 0 := by simpa using h2
          rw [decide_eq_false h2, Bool.false_or] at hin
          rw [hin]
          exact do_stx hy s3 (j := 3) (by simp) fun w4 s4 => ⟨rfl, s4⟩
      · have h1 : ¬ 0 < ra.length := by have := of_decide_eq_false h1; omega
        rw [decide_eq_false h1, Bool.false_and] at hin
        rw [hin]
        exact do_stx hy s3 (j := 3) (by simp) fun w4 s4 => ⟨rfl, s4⟩
    rintro _ w4 ⟨_, s4⟩
    refine ⟨_, s4.x.cell (i := 3) (add_blk _ _) rfl, ?_⟩
    refine ifB_intro (fun hin => ?_) fun hin => ?_
    · obtain ⟨x, hra, hea, hek⟩ := hst.yesA hin
      have hl0 : 0 < ra.length := by rw [hra]; simp
      have hx0 : ra[0]'hl0 = x := by simp only [hra]; rfl
      have s5 := s4.ext hy (ext_drew w4)
      refine ⟨⟨fun w' => St i w' ∧ Blk w' ba #[.slice pa ra.length xa] 33, ⟨s5.st, s5.a⟩, _, _, _, fun w' e => e.2.cell (i := 0) rfl rfl, ?_⟩⟩
      refine ix_prC (fun w' e => hpa _ (hy.cs _ _ e.1).1) (⟨s5.st, s5.a⟩ : St i w4.drew ∧ _) rfl (k := 0) rfl hl0 fun q r1 _ => ⟨_, r1, _, _, _, fun w' e => e.2.cell (i := 0) rfl rfl, ?_⟩
      refine ix_prC (fun w' e => hpa _ (hy.cs _ _ e.1).1) (⟨s5.st, s5.a⟩ : St i w4.drew ∧ _) rfl (k := 0) rfl hl0 fun q _ r2 => ⟨_, r2, _, _, _, fun w' e => e.2.cell (i := 0) rfl rfl, ?_⟩
      refine slA ra x ra' hra (hpa _ (hy.cs _ _ s5.st).1) rfl hxa fun pa' hpa' => ?_
      refine do_stx hy s5 (j := 0) (by simp) fun w6 s6 => ⟨⟨s6.st, s6.a⟩, do_stx hy s6 (j := 1) (by simp) fun w7 s7 => ⟨⟨s7.st, s7.a⟩, do_sta hy s7 fun w8 s8 => ⟨rfl, pa', xa - 1, ?_, ?_, ?_, fun w'' hc => hpa' w'' (hpa w'' hc), ?_⟩⟩⟩
      · have hr' : ra.length - 1 = ra'.length := by rw [hra]; simp
        rw [hr'] at s8
        rw [hkk hin, hek, hea, ← hx0]
        exact s8
      · rw [hra] at hxa; simp at hxa; omega
      · rw [hra]; simp
      · intro z hz; exact hIra z (by rw [hra]; simp [hz])
    · obtain ⟨n1, n2⟩ := hst.noA hin
      refine ⟨rfl, pa, xa, ?_, by rw [n1]; exact hxa, by rw [n1]; exact Nat.le_refl _, by rw [n1]; exact hpa, by rw [n1]; exact hIra⟩
      rw [n1, hk0, hin, n2]
      rw [hin] at s4
      exact s4
  rintro _ w4 ⟨_, pa', xa', s4, hxa', hral, hpa', hIra'⟩
  -- what was taken of the other one
  refine ⟨fun vs w' => vs = [] ∧ ∃ pb' xb', SS hp St ba bb bx i (.slice pa' ra'.length xa') (.slice pb' rb'.length xb') #[.int .i64 e.key, .int .i64 e.a, .int .i64 e.b, .bool e.inA, .bool e.inB] w' ∧ rb'.length ≤ xb' ∧ rb'.length ≤ rb.length ∧ (e.inB = true → rb'.length < rb.length) ∧ (∀ w'', Cs w'' qb (prs b) → Cs w'' pb' (prs rb')) ∧ InP rb', ?_, ?_⟩
  · -- the key is told
    rintro _ w5 ⟨_, pb', xb', s5, hxb', hrbl, hlt, hpb', hIrb'⟩
    refine ⟨_, s5.x.cell (i := 0) (add_blk _ _) rfl, _, s5.x.cell (i := 1) (add_blk _ _) rfl, _, s5.x.cell (i := 2) (add_blk _ _) rfl, _, s5.x.cell (i := 3) (add_blk _ _) rfl, _, s5.x.cell (i := 4) (add_blk _ _) rfl, ?_⟩
    have hget : (mg o a b)[i]? = some e := by
      have := congrArg List.head? hdrop
      rw [List.head?_drop, hst.mg] at this
      exact this
    have hil := (List.getElem?_eq_some_iff.1 hget).1
    refine hy.yields i e hget w5 _ _ s5.st s5.a s5.b _ fun w6 hs6 ha6 hb6 => retS_ret ⟨_, rfl, ifB_f rfl ⟨⟨rfl, i + 1, ra', rb', pa', pb', xa', xb', hil, ?_, hs6, ha6, hb6, hxa', hxb', by omega, hpa', hpb', hIra', hIrb'⟩, ?_⟩⟩
    · rw [← List.drop_drop, hdrop, hst.mg]; rfl
    · show lenAt ba w6 + lenAt bb w6 < lenAt ba w1 + lenAt bb w1
      rw [lenAt_of ha6, lenAt_of hb6, lenAt_of hA, lenAt_of hBb]
      cases hin : e.inA
      · have := hlt (hst.some hin); omega
      · obtain ⟨x, hra, _⟩ := hst.yesA hin
        have : ra.length = ra'.length + 1 := by rw [hra]; rfl
        omega
  · refine ⟨fun vs w' => vs = [] ∧ SS hp St ba bb bx i (.slice pa' ra'.length xa') (.slice pb rb.length xb) #[.int .i64 k0, .int .i64 e.a, .int .i64 0, .bool e.inA, .bool e.inB] w', ?_, ?_⟩
    rotate_left
    · have s5 := s4.ext hy (ext_drew w4)
      have hin := hst.inB k0 hkk
      refine ⟨⟨fun w' => w' = w4.drew, rfl, _, _, _, fun w' e => by subst e; exact s5.b.cell (i := 0) rfl rfl, ?_⟩⟩
      refine ifB_intro (fun h1 => ?_) fun h1 => ?_
      · have h1 : 0 < rb.length := by have := of_decide_eq_true h1; omega
        rw [decide_eq_true h1, Bool.true_and] at hin
        refine ⟨_, fun w' e => by subst e; exact s5.x.cell (i := 3) (add_blk _ _) rfl, ?_⟩
        refine ifB_intro (fun h2 => ?_) fun h2 => ?_
        · rw [h2, Bool.true_or] at hin
          rw [hin]
          exact do_stx hy s5 (j := 4) (by simp) fun w6 s6 => ⟨rfl, s6⟩
        · rw [h2, Bool.false_or] at hin
          refine ifB_intro (fun h3 => ?_) fun h3 => ?_
          · have h3 : t' = 0 := by simpa using h3
            rw [decide_eq_true h3, Bool.true_and, getD_of h1] at hin
            refine ⟨_, fun w' e => by subst e; exact s5.x.cell (i := 0) (add_blk _ _) rfl, _, _, _, fun w' e => by subst e; exact s5.b.cell (i := 0) rfl rfl, ?_⟩
            refine ix_prC (C := fun w' => w' = w4.drew) (fun w' e => by subst e; exact hpb _ (hy.cs _ _ s5.st).2.1) rfl rfl (k := 0) rfl h1 fun q r1 _ => ⟨_, r1, ?_⟩
            rw [hin]
            exact do_stx hy s5 (j := 4) (by simp) fun w6 s6 => ⟨rfl, s6⟩
          · have h3 : ¬ t' = 0 := by simpa using h3
            rw [decide_eq_false h3, Bool.false_and] at hin
            rw [hin]
            exact do_stx hy s5 (j := 4) (by simp) fun w6 s6 => ⟨rfl, s6⟩
      · have h1 : ¬ 0 < rb.length := by have := of_decide_eq_false h1; omega
        rw [decide_eq_false h1, Bool.false_and] at hin
        rw [hin]
        exact do_stx hy s5 (j := 4) (by simp) fun w6 s6 => ⟨rfl, s6⟩
    rintro _ w5 ⟨_, s5⟩
    refine ⟨_, s5.x.cell (i := 4) (add_blk _ _) rfl, ?_⟩
    refine ifB_intro (fun hin => ?_) fun hin => ?_
    · obtain ⟨y, hrb, heb, hek⟩ := hst.yesB hin
      have hl0 : 0 < rb.length := by rw [hrb]; simp
      have hx0 : rb[0]'hl0 = y := by simp only [hrb]; rfl
      have s6 := s5.ext hy (ext_drew w5)
      refine ⟨⟨fun w' => St i w' ∧ Blk w' bb #[.slice pb rb.length xb] 33, ⟨s6.st, s6.b⟩, _, _, _, fun w' e => e.2.cell (i := 0) rfl rfl, ?_⟩⟩
      refine ix_prC (fun w' e => hpb _ (hy.cs _ _ e.1).2.1) (⟨s6.st, s6.b⟩ : St i w5.drew ∧ _) rfl (k := 0) rfl hl0 fun q r1 _ => ⟨_, r1, _, _, _, fun w' e => e.2.cell (i := 0) rfl rfl, ?_⟩
      refine ix_prC (fun w' e => hpb _ (hy.cs _ _ e.1).2.1) (⟨s6.st, s6.b⟩ : St i w5.drew ∧ _) rfl (k := 0) rfl hl0 fun q _ r2 => ⟨_, r2, _, _, _, fun w' e => e.2.cell (i := 0) rfl rfl, ?_⟩
      refine slA rb y rb' hrb (hpb _ (hy.cs _ _ s6.st).2.1) rfl hxb fun pb' hpb' => ?_
      refine do_stx hy s6 (j := 0) (by simp) fun w7 s7 => ⟨⟨s7.st, s7.b⟩, do_stx hy s7 (j := 2) (by simp) fun w8 s8 => ⟨⟨s8.st, s8.b⟩, do_stb hy s8 fun w9 s9 => ⟨rfl, pb', xb - 1, ?_, ?_, ?_, fun _ => ?_, fun w'' hc => hpb' w'' (hpb w'' hc), ?_⟩⟩⟩
      · have hr' : rb.length - 1 = rb'.length := by rw [hrb]; simp
        rw [hr'] at s9
        rw [hek, heb, ← hx0]
        exact s9
      · rw [hrb] at hxb; simp at hxb; omega
      · rw [hrb]; simp
      · rw [hrb]; simp
      · intro z hz; exact hIrb z (by rw [hrb]; simp [hz])
    · obtain ⟨n1, n2⟩ := hst.noB hin
      have hina : e.inA = true := by
        cases h : e.inA
        · have := hst.some h; rw [hin] at this; cases this
        · rfl
      refine ⟨rfl, pb, xb, ?_, by rw [n1]; exact hxb, by rw [n1]; exact Nat.le_refl _, (fun h => by rw [hin] at h; cases h), by rw [n1]; exact hpb, by rw [n1]; exact hIrb⟩
      rw [n1, n2, ← hkk hina]
      exact s5
end Go.Proofs.Ytinkkhcffoikmaa
