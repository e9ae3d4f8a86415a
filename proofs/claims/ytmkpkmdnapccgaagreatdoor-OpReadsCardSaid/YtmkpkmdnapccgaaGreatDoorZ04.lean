/-
  The evaluator for functions that do not defer. No claim of its own.
-/
import Derived.Test.YtmkpkmdnapccgaaGreatDoorZ02
import Derived.RangeFuncRecord
import Derived.RangeFuncNested

set_option maxRecDepth 100000
set_option maxHeartbeats 6400000
namespace Go.Sh.Old
open Go Go.Sh

theorem put_same {a : Act} {d : Nat} {v : Value} (h : a.tmps.getD d undef = v) : a.put (some d) v = a := by
  subst h
  obtain ⟨t, ds⟩ := a
  simp only [Act.put, Act.mk.injEq, and_true]
  apply Array.ext
  · simp
  · intro i h1 h2
    by_cases hi : d = i
    · subst hi; simp [h2]
    · rw [Array.getElem_setIfInBounds h2]; simp [hi]
def forceL : List Value → (List Value → Prop) → Prop
  | [], k => k []
  | v :: vs, k => forceL vs fun vs' => k (v :: vs')
theorem forceL_eq : ∀ (l : List Value) (k : List Value → Prop), forceL l k = k l
  | [], _ => rfl
  | v :: vs, k => forceL_eq vs fun vs' => k (v :: vs')
def forceA (a : Act) (k : Act → Prop) : Prop := forceL a.tmps.toList fun l => k { tmps := l.toArray, defers := a.defers }
theorem forceA_eq (a : Act) (k : Act → Prop) : forceA a k = k a := forceL_eq _ _
def guardW (ops : Array Oper) (o : Oper) (a : Act) (X Y : Act → Prop) : Prop :=
  match o.guard with
  | none => X a
  | some (j, want) =>
    match (ops[j]?).bind (·.dst) with
    | none => Y a
    | some d =>
      match a.tmps.getD d undef with
      | .bool b => ifB b (cond want (X (a.put (some d) (.bool true))) (Y (a.put (some d) (.bool true)))) (cond want (Y (a.put (some d) (.bool false))) (X (a.put (some d) (.bool false))))
      | _ => Y a
theorem guardW_sound {ops : Array Oper} {o : Oper} {a : Act} {X Y : Act → Prop} (h : guardW ops o a X Y) :
    (Region.wanted o (yielded ops a.tmps) = true ∧ X a) ∨ (Region.wanted o (yielded ops a.tmps) = false ∧ Y a) := by
  unfold guardW at h
  split at h
  · rename_i hg; exact .inl ⟨by simp [Region.wanted, hg], h⟩
  · rename_i j want hg
    split at h
    · rename_i hd
      refine .inr ⟨?_, h⟩
      simp [Region.wanted, hg, yielded, hd]
    · rename_i d hd
      split at h
      · rename_i b hb
        have hlt : d < a.tmps.size := by
          rcases Nat.lt_or_ge d a.tmps.size with h' | h'
          · exact h'
          · simp [Array.getD, Nat.not_lt.2 h', undef] at hb
        have hy : yielded ops a.tmps j = some b := by
          have : a.tmps[d]? = some (.bool b) := by
            simp only [Array.getD, hlt, dite_true] at hb
            rw [Array.getElem?_eq_getElem hlt]; exact congrArg some hb
          simp [yielded, hd, this]
        have hw : Region.wanted o (yielded ops a.tmps) = (b == want) := by
          simp only [Region.wanted, hg, hy]
          cases b <;> cases want <;> rfl
        rw [hw]
        rcases ifB_cases h with ⟨rfl, h⟩ | ⟨rfl, h⟩
        · rw [put_same hb] at h
          cases want
          · exact .inr ⟨rfl, h⟩
          · exact .inl ⟨rfl, h⟩
        · rw [put_same hb] at h
          cases want
          · exact .inl ⟨rfl, h⟩
          · exact .inr ⟨rfl, h⟩
      · rename_i hne
        refine .inr ⟨?_, h⟩
        have hy : yielded ops a.tmps j = none := by
          simp only [yielded, hd, Option.bind_some]
          split
          · rename_i b hb
            refine absurd ?_ (hne b)
            simp [Array.getD_eq_getD_getElem?, hb]
          · rfl
        simp [Region.wanted, hg, hy]

def evOps (P : Program) (ops : Array Oper) (K : Act → World → Prop) (Kp : List PanicEntry → List Deferred → World → Prop) : List Nat → Act → World → Prop
  | [], a, w => K a w
  | i :: rest, a, w =>
    match ops[i]? with
    | none => evOps P ops K Kp rest a w
    | some o => guardW ops o a
        (fun a' => exec1 P o a'.eval w (fun v w' => forceA (a'.put o.dst v) fun a'' => evOps P ops K Kp rest a'' w') (fun ch w' => Kp ch a'.defers w'))
        (fun a' => forceA (a'.put o.dst undef) fun a'' => evOps P ops K Kp rest a'' w)
def full (Q : Exit → Act → World → Prop) (Kp : List PanicEntry → List Deferred → World → Prop) : Exit → Act → World → Prop
  | .panic ch, a, w => Kp ch a.defers w
  | .outgrown, _, _ => False
  | e, a, w => Q e a w
def allND (ops : Array Oper) : Bool := ops.toList.all noDefer
theorem allND_spec {ops : Array Oper} (h : allND ops = true) {i : Nat} {o : Oper} (ho : ops[i]? = some o) : noDefer o = true := by
  have := List.all_eq_true.1 h o (by
    have := Array.mem_of_getElem? ho
    simpa using this)
  exact this
structure Fr (ms : List Nat) (a a' : Act) : Prop where
  defers : a'.defers = a.defers
  size : a'.tmps.size = a.tmps.size
  same : ∀ i, i ∉ ms → a'.tmps[i]? = a.tmps[i]?
theorem Fr.refl (ms : List Nat) (a : Act) : Fr ms a a := ⟨rfl, rfl, fun _ _ => rfl⟩
theorem Fr.trans {ms : List Nat} {a b c : Act} (h : Fr ms a b) (k : Fr ms b c) : Fr ms a c :=
  ⟨k.defers.trans h.defers, k.size.trans h.size, fun i hi => (k.same i hi).trans (h.same i hi)⟩
theorem Fr.put {ms : List Nat} {a : Act} {d : Option Tmp} {v : Value} (h : ∀ t, d = some t → t ∈ ms) : Fr ms a (a.put d v) := by
  cases d with
  | none => exact .refl _ _
  | some d =>
    refine ⟨rfl, by simp [Act.put], fun i hi => ?_⟩
    have hne : d ≠ i := fun e => hi (e ▸ h d rfl)
    simp [Act.put, Array.getElem?_setIfInBounds_ne hne]
theorem Fr.mono {ms ms' : List Nat} {a b : Act} (h : Fr ms a b) (hm : ∀ i, i ∈ ms → i ∈ ms') : Fr ms' a b :=
  ⟨h.defers, h.size, fun i hi => h.same i fun hi' => hi (hm i hi')⟩
def dstsIn (ops : Array Oper) : List Nat := ops.toList.filterMap (·.dst)
theorem dstsIn_spec {ops : Array Oper} {i : Nat} {o : Oper} (ho : ops[i]? = some o) : ∀ t, o.dst = some t → t ∈ dstsIn ops := fun t ht =>
  List.mem_filterMap.2 ⟨o, by have := Array.mem_of_getElem? ho; simpa using this, ht⟩
def andFr (ms : List Nat) (a0 : Act) (Q : Exit → Act → World → Prop) : Exit → Act → World → Prop := fun e a w => Q e a w ∧ Fr ms a0 a
theorem evOps_sound {P : Program} {ro : Option Nat} {ops : Array Oper} {Q : Exit → Act → World → Prop} {Kp : List PanicEntry → List Deferred → World → Prop} {a0 : Act} (hnd : allND ops = true) :
    ∀ (l : List Nat) (a : Act) (w : World), Fr (dstsIn ops) a0 a → evOps P ops (Q .normal) Kp l a w → wpOpsIn (fen ro) 0 P ops (full (andFr (dstsIn ops) a0 Q) Kp) l a w
  | [], _, _, hf, h => ⟨h, hf⟩
  | i :: rest, a, w, hf, h => by
    simp only [evOps, forceA_eq] at h
    simp only [wpOpsIn]
    cases ho : ops[i]? with
    | none => simp only [ho] at h; exact evOps_sound hnd rest a w hf h
    | some o =>
      simp only [ho] at h
      have hfp : ∀ v, Fr (dstsIn ops) a0 (a.put o.dst v) := fun v => hf.trans (.put (dstsIn_spec ho))
      rcases guardW_sound h with ⟨hw, h⟩ | ⟨hw, h⟩
      · simp only [hw, if_true]
        refine wpIn_of_gives (allND_spec hnd ho) ?_
        have := exec1_sound h
        generalize (execOp a.eval o).run P w = r at this
        cases r with
        | ok n w' =>
          cases n <;> simp only [Gives] at this ⊢ <;> first
            | exact evOps_sound hnd rest _ _ (hfp _) this
            | exact this.elim
            | exact Calls.mono this fun e w'' he => by cases e <;> first | exact evOps_sound hnd rest _ _ (hfp _) he | exact he
            | exact RowsIn.mono this fun v w'' he => evOps_sound hnd rest _ _ (hfp _) he
            | exact RoundIn.mono this fun e w'' he => by cases e <;> first | exact evOps_sound hnd rest _ _ (hfp _) he | exact he
        | halt x w' => cases x <;> simp only [Gives] at this ⊢ <;> exact this
      · simp only [hw, Bool.false_eq_true, if_false]
        exact ⟨fun _ _ => trivial, evOps_sound hnd rest _ _ (hfp _) h⟩

def isLoad (o : Op) : Bool := match o with | .load .. => true | _ => false
def needC (ops : Array Oper) (j : Nat) : Bool :=
  (List.range ops.size).any fun i =>
    ((ops[i]?).map fun o => isLoad o.op).getD false && i != j && !(((ops[j]?).map fun o => o.after.any fun e => Region.binds .any e && e.on == i).getD false)
def YieldsC (P : Program) (ops : Array Oper) (C : World → Prop) (o : Oper) (v : Value) (a : Act) : Prop :=
  (Region.wanted o (yielded ops a.tmps) = true ∧ ∀ w, C w → (execOp a.eval o).run P w = .ok (.value v) w) ∨
  (Region.wanted o (yielded ops a.tmps) = false ∧ v = undef)
def past (ops : Array Oper) (listed : Array Bool) (j : Nat) : Bool :=
  (List.range ops.size).all fun i => !(((ops[i]?).map fun o => isLoad o.op).getD false && listed.getD i false) || (anc ops j).contains i
def wpAnyC (ro : Option Nat) (P : Program) (ops : Array Oper) (Q : Exit → Act → World → Prop) : Nat → (World → Prop) → Array Bool → Act → World → Prop
  | 0, _, listed, a, w => Region.ready .any ops listed = [] ∧ Q .normal a w
  | fuel + 1, C, listed, a, w =>
    (Region.ready .any ops listed = [] → Q .normal a w) ∧
    ∀ i ∈ Region.ready .any ops listed, wpOpIn (fen ro) 0 P ops Q i (fun a' w' => ∃ C' : World → Prop, (past ops listed i = false → C' = C ∧ (C w → C w')) ∧ wpAnyC ro P ops Q fuel C' (listed.setIfInBounds i true) a' w') a w
theorem wpAnyC_in {ro : Option Nat} {P : Program} {ops : Array Oper} {Q : Exit → Act → World → Prop} :
    ∀ (fuel : Nat) (C : World → Prop) (listed : Array Bool) (a : Act) (w : World), wpAnyC ro P ops Q fuel C listed a w → wpAnyIn (fen ro) 0 P .any ops Q fuel listed a w
  | 0, _, _, _, _, h => h
  | fuel + 1, _, _, _, _, h => ⟨h.1, fun i hi => wpOpIn_mono (fun a' w' h => h.elim fun _ h => wpAnyC_in fuel _ _ a' w' h.2) (h.2 i hi)⟩
section
variable {ro : Option Nat} {P : Program} {ops : Array Oper} {C : World → Prop} {Q : Exit → Act → World → Prop}
theorem YieldsC.of_same {o : Oper} {v : Value} {a a' : Act} (hy : YieldsC P ops C o v a) (he : execOp a'.eval o = execOp a.eval o)
    (hw : Region.wanted o (yielded ops a'.tmps) = Region.wanted o (yielded ops a.tmps)) : YieldsC P ops C o v a' := by
  unfold YieldsC at *
  rw [he, hw]
  exact hy
theorem YieldsC.wpOpIn {i : Nat} {o : Oper} {v : Value} {a : Act} {w : World} (hnd : allND ops = true) (hi : ops[i]? = some o) (hy : YieldsC P ops C o v a) (hC : C w)
    {K : Act → World → Prop} (h : K (a.put o.dst v) w) : wpOpIn (fen ro) 0 P ops Q i K a w := by
  unfold Go.wpOpIn
  simp only [hi]
  rcases hy with ⟨hw, hv⟩ | ⟨hw, rfl⟩
  · simp only [hw, if_true]
    refine ⟨fun _ _ => trivial, ?_⟩
    rw [Oper.semAt_eq _ _ _ (fun c hc => by have := allND_spec hnd hi; simp [noDefer, hc] at this), hv w hC]
    exact h
  · simp only [hw, Bool.false_eq_true, if_false]; exact ⟨fun _ _ => trivial, h⟩
theorem wpOpIn_putC {j : Nat} {oi oj : Oper} {v : Value} (hnd : allND ops = true) (hj : ops[j]? = some oj) (hap : oi.apart ops oj = true)
    (hsi : ∀ cs b, oi.op ≠ .select cs b) (hsj : ∀ cs b, oj.op ≠ .select cs b)
    (hQ : ∀ c a w, Q (.panic c) (a.put oi.dst v) w → Q (.panic c) a w) {K : Act → World → Prop} {a : Act} {w : World}
    (hy : YieldsC P ops C oi v a) (h : wpOpIn (fen ro) 0 P ops Q j K (a.put oi.dst v) w) :
    wpOpIn (fen ro) 0 P ops Q j (fun a' w' => YieldsC P ops C oi v a' ∧ K (a'.put oi.dst v) w') a w := by
  obtain ⟨h1, h2, h3⟩ := Oper.apart_spec hap
  have keep : ∀ (a : Act), YieldsC P ops C oi v a → ∀ u, YieldsC P ops C oi v (a.put oj.dst u) := fun a hy u =>
    hy.of_same (execOp_put oi hsi a oj.dst u h3) (wanted_put oi a oj.dst u h3)
  have keepD : ∀ d, YieldsC P ops C oi v { a with defers := d :: a.defers } := fun d => hy.of_same rfl rfl
  have hdj : ∀ c, oj.op ≠ .defer c := fun c hc => by have := allND_spec hnd hj; simp [noDefer, hc] at this
  unfold wpOpIn at *
  simp only [hj] at *
  rw [wanted_put oj a oi.dst v h1, about_put oj w a oi.dst v h1] at h
  split
  · rename_i hw
    simp only [hw, if_true] at h
    unfold Oper.wpIn at *
    rw [about_put oj w a oi.dst v h1] at h
    refine ⟨h.1, ?_⟩
    have h := h.2
    rw [Oper.semAt_eq _ _ _ hdj, execOp_put oj hsj a oi.dst v h1] at h
    rw [Oper.semAt_eq _ _ _ hdj]
    generalize (execOp a.eval oj).run P w = r at *
    cases r with
    | ok x w' =>
      cases x <;> simp only [Oper.uponIn] at h ⊢
      case value u => exact ⟨keep a hy u, by rw [← Act.put_comm a v u h2]; exact h⟩
      case skip => exact ⟨keep a hy _, by rw [← Act.put_comm a v undef h2]; exact h⟩
      case defer d =>
        refine ⟨keep _ (keepD d) _, ?_⟩
        rw [← Act.put_comm _ v undef h2, ← Act.put_defers]
        exact h
      case enter f args =>
        refine ⟨h.1, CallsIn.mono h.2 fun e w'' he => ?_⟩
        cases e with
        | returned u => exact ⟨keep a hy u, by rw [← Act.put_comm a v u h2]; exact he⟩
        | panicked c => exact hQ _ _ _ he
        | outgrown => exact he
      case row row args => exact ⟨h.1, RowsIn.mono h.2 fun u w'' he => ⟨keep a hy u, by rw [← Act.put_comm a v u h2]; exact he⟩⟩
      case round l f tmps assign body =>
        refine ⟨h.1, RoundIn.mono h.2 fun e w'' he => ?_⟩
        cases e with
        | returned u => exact ⟨keep a hy u, by rw [← Act.put_comm a v u h2]; exact he⟩
        | panicked c => exact hQ _ _ _ he
        | outgrown => exact he
    | halt x w' =>
      cases x <;> simp only [Oper.uponIn] at h ⊢
      case panic u => exact hQ _ _ _ h
  · rename_i hw
    simp only [hw] at h
    exact ⟨h.1, keep a hy _, by rw [← Act.put_comm a v undef h2]; exact h.2⟩
theorem needC_of {i j : Nat} {oi oj : Oper} (hi : ops[i]? = some oi) (hl : isLoad oi.op = true) (hne : i ≠ j) (hj : ops[j]? = some oj)
    (hnot : ∀ e ∈ oj.after, Region.binds .any e = true → e.on ≠ i) : needC ops j = true := by
  unfold needC
  refine List.any_eq_true.2 ⟨i, List.mem_range.2 (Array.getElem?_eq_some_iff.1 hi).1, ?_⟩
  simp only [hi, Option.map_some, Option.getD_some, hl, Bool.true_and, hj, Bool.and_eq_true, bne_iff_ne, ne_eq, hne, not_false_eq_true, true_and, Bool.not_eq_true', Array.any_eq_false']
  intro e he
  simp only [beq_iff_eq, not_and]
  exact hnot e he
theorem past_set {listed : Array Bool} {i j : Nat} (h : past ops listed j = false) : past ops (listed.setIfInBounds i true) j = false := by
  unfold past at *
  obtain ⟨k, hk, h⟩ := List.all_eq_false.1 h
  refine List.all_eq_false.2 ⟨k, hk, fun h' => h ?_⟩
  simp only [Bool.or_eq_true, Bool.not_eq_true', Bool.and_eq_false_imp] at h' ⊢
  refine h'.imp (fun h' hl => ?_) id
  cases hx : listed.getD k false
  · rfl
  · have := h' hl
    rw [getD_set_true hx] at this
    cases this
theorem past_not {listed : Array Bool} {i j : Nat} {oi : Oper} (hi : ops[i]? = some oi) (hl : isLoad oi.op = true) (hu : listed.getD i true = false) (hn : i ∉ anc ops j) :
    past ops (listed.setIfInBounds i true) j = false := by
  unfold past
  refine List.all_eq_false.2 ⟨i, List.mem_range.2 (Array.getElem?_eq_some_iff.1 hi).1, ?_⟩
  have hs : i < listed.size := by
    rcases Nat.lt_or_ge i listed.size with h' | h'
    · exact h'
    · simp [Array.getD, Nat.not_lt.2 h'] at hu
  simp [hi, hl, hn, hs]
theorem wpAnyC_first {i : Nat} {oi : Oper} {v : Value} (hnd : allND ops = true) (hi : ops[i]? = some oi) (hsel : ∀ (j : Nat) (o : Oper) cs b, ops[j]? = some o → o.op ≠ .select cs b)
    (hQ : ∀ c a w, Q (.panic c) (a.put oi.dst v) w → Q (.panic c) a w) :
    ∀ (fuel : Nat) (C D : World → Prop) (listed : Array Bool) (a : Act) (w : World), ((∀ w, D w) ∨ (D = C ∧ isLoad oi.op = true)) → Cl ops listed →
      (∀ j oj, ops[j]? = some oj → j ≠ i → listed.getD j true = false → (∀ e ∈ oj.after, Region.binds .any e = true → e.on ≠ i) → oi.apart ops oj = true) →
      i ∈ Region.ready .any ops listed → D w → YieldsC P ops D oi v a →
      wpAnyC ro P ops Q fuel C (listed.setIfInBounds i true) (a.put oi.dst v) w → wpAnyC ro P ops Q (fuel + 1) C listed a w := by
  intro fuel
  induction fuel with
  | zero =>
    intro C D listed a w _ _ _ hr hDw hy H
    refine ⟨fun h => (by rw [h] at hr; cases hr), fun j hj => ?_⟩
    by_cases hji : j = i
    · subst hji; exact hy.wpOpIn hnd hi hDw ⟨C, fun _ => ⟨rfl, fun h => h⟩, H⟩
    · have := ready_mono hj hji
      rw [H.1] at this
      cases this
  | succ fuel ih =>
    intro C D listed a w hD hcl hfree hr hDw hy H
    refine ⟨fun h => (by rw [h] at hr; cases hr), fun j hj => ?_⟩
    by_cases hji : j = i
    · subst hji; exact hy.wpOpIn hnd hi hDw ⟨C, fun _ => ⟨rfl, fun h => h⟩, H⟩
    · have h1 := H.2 j (ready_mono hj hji)
      obtain ⟨hjun, oj, hoj, hall⟩ := mem_ready.1 hj
      have hnot : ∀ e ∈ oj.after, Region.binds .any e = true → e.on ≠ i := fun e he hb heq => by
        have h1 := hall e he hb
        have h0 := (mem_ready.1 hr).1
        rw [heq] at h1
        rcases Nat.lt_or_ge i listed.size with h' | h'
        · simp [h'] at h0 h1; rw [h0] at h1; cases h1
        · simp [Array.getElem?_eq_none h'] at h1
      have h2 := wpOpIn_putC hnd hoj (hfree j oj hoj hji hjun hnot) (fun cs b => hsel i oi cs b hi) (fun cs b => hsel j oj cs b hoj) hQ hy h1
      have hfree' : ∀ k ok, ops[k]? = some ok → k ≠ i → (listed.setIfInBounds j true).getD k true = false →
          (∀ e ∈ ok.after, Region.binds .any e = true → e.on ≠ i) → oi.apart ops ok = true := fun k ok hk hki hun hno => by
        refine hfree k ok hk hki ?_ hno
        by_cases hjk : j = k
        · subst hjk; exact hjun
        · rw [getD_set_ne true hjk] at hun; exact hun
      refine wpOpIn_mono (fun a' w' h3 => ?_) h2
      obtain ⟨hy', C', hC', H'⟩ := h3
      rw [← Array.setIfInBounds_comm _ _ hji] at H'
      rcases hD with hD | ⟨rfl, hl⟩
      · exact ⟨C', fun hp => hC' (past_set hp), ih C' D (listed.setIfInBounds j true) a' w' (.inl hD) (hcl.set hj) hfree' (ready_mono hr (Ne.symm hji)) (hD _) hy' H'⟩
      · obtain ⟨rfl, hk⟩ := hC' (past_not hi hl (mem_ready.1 hr).1 (not_anc hcl hj (mem_ready.1 hr).1))
        exact ⟨_, fun _ => ⟨rfl, hk⟩, ih _ _ (listed.setIfInBounds j true) a' w' (.inr ⟨rfl, hl⟩) (hcl.set hj) hfree' (ready_mono hr (Ne.symm hji)) (hk hDw) hy' H'⟩
end
def takeW (P : Program) (o : Oper) (ρ : Operand → Value) (C : World → Prop) (K : Value → Prop) : Prop :=
  match o.op with
  | .load t x => match ρ x with | .pointer (some a) => ldW P (fun a v => ∀ w, C w → w.cell? a = some v) t a K | _ => False
  | _ => pureW P o ρ K
def takeable (o : Op) : Bool := isPure o || isLoad o
theorem takeW_sound {P : Program} {o : Oper} {ρ : Operand → Value} {C : World → Prop} {K : Value → Prop} (h : takeW P o ρ C K) :
    ∃ v, K v ∧ ((isLoad o.op = true ∧ ∀ w, C w → (execOp ρ o).run P w = .ok (.value v) w) ∨ ∀ w, (execOp ρ o).run P w = .ok (.value v) w) := by
  unfold takeW at h
  split at h
  · rename_i t x hop
    split at h
    · rename_i a ha
      obtain ⟨v, hK, hr⟩ := ldW_sound h
      refine ⟨v, hK, .inl ⟨by simp [isLoad, hop], fun w hC => ?_⟩⟩
      obtain ⟨dst, op, ty, pos, after, guard⟩ := o
      simp only at hop
      subst hop
      refine run_v ?_
      rw [ha]; exact hr w fun a v h => h w hC
    · exact h.elim
  · obtain ⟨v, hK, hr⟩ := pureW_sound h
    exact ⟨v, hK, .inr hr⟩
def imp (b : Bool) (p X : Prop) : Prop := cond b (p ∧ X) X
def allOf : List Nat → (Nat → Prop) → Prop
  | [], _ => True
  | i :: is, F => match is with | [] => F i | _ => F i ∧ allOf is F
theorem allOf_mem : ∀ {l : List Nat} {F : Nat → Prop}, allOf l F → ∀ i ∈ l, F i
  | [i], F, h, j, hj => by
    obtain rfl : j = i := by simpa using hj
    exact h
  | i :: k :: is, F, h, j, hj => by
    have h : F i ∧ allOf (k :: is) F := h
    rcases List.mem_cons.1 hj with rfl | hj
    · exact h.1
    · exact allOf_mem h.2 j hj
def evDraw (P : Program) (ops : Array Oper) (nw : Bool) (nt : List Nat) (K : Act → World → Prop) (Kp : List PanicEntry → List Deferred → World → Prop) : Nat → (World → Prop) → Array Bool → Act → World → Prop
  | 0, _, listed, a, w =>
    match Region.ready .any ops listed with
    | [] => K a w
    | _ => False
  | n + 1, C, listed, a, w =>
    match Region.ready .any ops listed with
    | [] => K a w
    | i :: is =>
      match (i :: is).find? fun j => ((ops[j]?).map fun o => takeable o.op).getD false && !nt.contains j && Region.free .any ops listed j with
      | some j =>
        match ops[j]? with
        | none => False
        | some o => guardW ops o a
            (fun a' => takeW P o a'.eval C fun v => forceA (a'.put o.dst v) fun a'' => evDraw P ops nw nt K Kp n C (listed.setIfInBounds j true) a'' w)
            (fun a' => forceA (a'.put o.dst undef) fun a'' => evDraw P ops nw nt K Kp n C (listed.setIfInBounds j true) a'' w)
      | none => allOf (i :: is) fun i =>
          match ops[i]? with
          | none => False
          | some o => guardW ops o a
              (fun a' => exec1 P o a'.eval w (fun v w' => cond (nw && past ops listed i)
                (∃ C' : World → Prop, C' w' ∧ forceA (a'.put o.dst v) fun a'' => evDraw P ops nw nt K Kp n C' (listed.setIfInBounds i true) a'' w')
                (imp (needC ops i) (C w') (forceA (a'.put o.dst v) fun a'' => evDraw P ops nw nt K Kp n C (listed.setIfInBounds i true) a'' w'))) (fun ch w' => Kp ch a'.defers w'))
              (fun a' => forceA (a'.put o.dst undef) fun a'' => evDraw P ops nw nt K Kp n C (listed.setIfInBounds i true) a'' w)
def LoadsLeft (ops : Array Oper) (listed : Array Bool) : Prop := ∃ i o, ops[i]? = some o ∧ isLoad o.op = true ∧ listed.getD i true = false
theorem LoadsLeft.of_set {ops : Array Oper} {listed : Array Bool} {j : Nat} (h : LoadsLeft ops (listed.setIfInBounds j true)) : LoadsLeft ops listed := by
  obtain ⟨i, o, hi, hl, hu⟩ := h
  refine ⟨i, o, hi, hl, ?_⟩
  by_cases hij : j = i
  · subst hij
    rcases Nat.lt_or_ge j listed.size with h' | h'
    · simp [h'] at hu
    · simp [Nat.not_lt.2 h'] at hu
  · rwa [getD_set_ne true hij] at hu
section
variable {ro : Option Nat} {P : Program} {ops : Array Oper} {Q : Exit → Act → World → Prop} {Kp : List PanicEntry → List Deferred → World → Prop}
theorem noLoads_of_needC {j : Nat} {listed : Array Bool} {oj : Oper} (hoj : ops[j]? = some oj) (hj : j ∈ Region.ready .any ops listed) (hn : needC ops j = false) :
    ¬ LoadsLeft ops (listed.setIfInBounds j true) := by
  rintro ⟨i, oi, hi, hl, hu⟩
  obtain ⟨hjun, oj', hoj', hall⟩ := mem_ready.1 hj
  obtain rfl : oj = oj' := by rw [hoj] at hoj'; exact Option.some.inj hoj'
  by_cases hij : j = i
  · subst hij
    rcases Nat.lt_or_ge j listed.size with h' | h'
    · simp [h'] at hu
    · simp [Nat.not_lt.2 h'] at hu
  · rw [getD_set_ne true hij] at hu
    have := needC_of hi hl (Ne.symm hij) hoj fun e he hb heq => by
      have h1 := hall e he hb
      rw [heq] at h1
      rcases Nat.lt_or_ge i listed.size with h' | h'
      · simp [h'] at h1 hu; rw [h1] at hu; cases hu
      · simp [Array.getElem?_eq_none h'] at h1
    rw [hn] at this; cases this
theorem sub_ancGo : ∀ (k : Nat) (S : List Nat) (i : Nat), i ∈ S → i ∈ ancGo ops k S
  | 0, _, _, h => h
  | k + 1, S, i, h => by
    unfold ancGo
    cases S.contains k
    · exact sub_ancGo k S i h
    · exact sub_ancGo k _ i (List.mem_append_right _ h)
theorem past_of {listed : Array Bool} {j : Nat} (hj : j ∈ Region.ready .any ops listed) (hn : needC ops j = false) : past ops listed j = true := by
  unfold past
  refine List.all_eq_true.2 fun i hi => ?_
  unfold needC at hn
  have h1 := List.any_eq_false.1 hn i hi
  obtain ⟨hu, oj, hoj, _⟩ := mem_ready.1 hj
  cases ho : ops[i]? with
  | none => simp
  | some o =>
    rw [ho] at h1
    by_cases hij : i = j
    · subst hij
      have : listed.getD i false = false := by
        rw [Array.getD_eq_getD_getElem?] at hu ⊢
        cases h : listed[i]? with
        | none => rfl
        | some b => rw [h] at hu; simpa using hu
      rw [this]; simp
    · cases hl : isLoad o.op
      · simp [hl]
      · rw [hoj] at h1
        simp only [Option.map_some, Option.getD_some, hl, Bool.true_and, Bool.and_eq_true, bne_iff_ne, ne_eq, hij, not_false_eq_true, true_and, Bool.not_eq_true', Bool.not_eq_false, Array.any_eq_true'] at h1
        obtain ⟨e, he, h1⟩ := h1
        simp only [Bool.and_eq_true, beq_iff_eq] at h1
        have : i ∈ anc ops j := sub_ancGo _ _ _ (mem_preds.2 ⟨oj, hoj, e, he, h1.1, h1.2⟩)
        simp [this]
theorem evDraw_sound {a0 : Act} {nw : Bool} {nt : List Nat} (hnd : allND ops = true) (hns : Region.noSelect ops = true) : ∀ (n : Nat) (C : World → Prop) (listed : Array Bool) (a : Act) (w : World), Cl ops listed → (LoadsLeft ops listed → C w) →
    Fr (dstsIn ops) a0 a → evDraw P ops nw nt (Q .normal) Kp n C listed a w → wpAnyC ro P ops (full (andFr (dstsIn ops) a0 Q) Kp) n C listed a w
  | 0, _, listed, a, w, _, _, hf, h => by
    simp only [evDraw] at h
    split at h
    · rename_i hr; exact ⟨hr, h, hf⟩
    · exact h.elim
  | n + 1, C, listed, a, w, hcl, hC, hf, h => by
    simp only [evDraw, forceA_eq] at h
    split at h
    · rename_i hr
      exact ⟨fun _ => ⟨h, hf⟩, by rw [hr]; simp⟩
    · rename_i i is hr
      split at h
      · rename_i j hfi
        have hjm : j ∈ Region.ready .any ops listed := by rw [hr]; exact List.mem_of_find?_eq_some hfi
        have hjp := List.find?_some hfi
        simp only [Bool.and_eq_true, and_assoc] at hjp
        split at h
        · exact h.elim
        · rename_i o ho
          have hfp : ∀ v, Fr (dstsIn ops) a0 (a.put o.dst v) := fun v => hf.trans (.put (dstsIn_spec ho))
          have hQ : ∀ v c a w, full (andFr (dstsIn ops) a0 Q) Kp (.panic c) (a.put o.dst v) w → full (andFr (dstsIn ops) a0 Q) Kp (.panic c) a w := fun v c a w hh => by
            cases hd : o.dst <;> simpa [full, Act.put, hd] using hh
          rcases guardW_sound h with ⟨hw, h⟩ | ⟨hw, h⟩
          · obtain ⟨v, hK, hv⟩ := takeW_sound h
            have hun : listed.getD j true = false := (mem_ready.1 hjm).1
            have hm := evDraw_sound hnd hns n _ _ _ w (hcl.set hjm) (fun hl => hC hl.of_set) (hfp _) hK
            rcases hv with ⟨hl, hv⟩ | hv
            · exact wpAnyC_first hnd ho (Region.noSelect_spec hns) (hQ v) n C C listed a w (.inr ⟨rfl, hl⟩) hcl (Region.free_spec ho hjp.2.2) hjm
                (hC ⟨j, o, ho, hl, hun⟩) (.inl ⟨hw, hv⟩) hm
            · exact wpAnyC_first hnd ho (Region.noSelect_spec hns) (hQ v) n C (fun _ => True) listed a w (.inl fun _ => trivial) hcl (Region.free_spec ho hjp.2.2) hjm
                trivial (.inl ⟨hw, fun w _ => hv w⟩) hm
          · have hm := evDraw_sound hnd hns n _ _ _ w (hcl.set hjm) (fun hl => hC hl.of_set) (hfp _) h
            exact wpAnyC_first hnd ho (Region.noSelect_spec hns) (hQ undef) n C (fun _ => True) listed a w (.inl fun _ => trivial) hcl (Region.free_spec ho hjp.2.2) hjm
                trivial (.inr ⟨hw, rfl⟩) hm
      · refine ⟨fun h0 => (by rw [hr] at h0; cases h0), fun j hj => ?_⟩
        have him := hj
        rw [hr] at hj
        have h := allOf_mem h j hj
        split at h
        · exact h.elim
        · rename_i o ho
          · unfold wpOpIn
            simp only [ho]
            have hfp : ∀ v, Fr (dstsIn ops) a0 (a.put o.dst v) := fun v => hf.trans (.put (dstsIn_spec ho))
            have next : ∀ v w', cond (nw && past ops listed j) (∃ C' : World → Prop, C' w' ∧ evDraw P ops nw nt (Q .normal) Kp n C' (listed.setIfInBounds j true) (a.put o.dst v) w')
                  (imp (needC ops j) (C w') (evDraw P ops nw nt (Q .normal) Kp n C (listed.setIfInBounds j true) (a.put o.dst v) w')) →
                ∃ C' : World → Prop, (past ops listed j = false → C' = C ∧ (C w → C w')) ∧ wpAnyC ro P ops (full (andFr (dstsIn ops) a0 Q) Kp) n C' (listed.setIfInBounds j true) (a.put o.dst v) w' := fun v w' hi => by
              cases hp : (nw && past ops listed j) <;> rw [hp] at hi
              · refine ⟨C, fun hp => ⟨rfl, fun _ => ?_⟩, ?_⟩
                · unfold imp at hi
                  cases hn : needC ops j <;> rw [hn] at hi
                  · rw [past_of him hn] at hp; cases hp
                  · exact hi.1
                · unfold imp at hi
                  cases hn : needC ops j <;> rw [hn] at hi
                  · exact evDraw_sound hnd hns n _ _ _ _ (hcl.set him) (fun hl => (noLoads_of_needC ho him hn hl).elim) (hfp _) hi
                  · exact evDraw_sound hnd hns n _ _ _ _ (hcl.set him) (fun _ => hi.1) (hfp _) hi.2
              · obtain ⟨C', hC', hi⟩ := hi
                simp only [Bool.and_eq_true] at hp
                exact ⟨C', fun h => (by rw [hp.2] at h; cases h), evDraw_sound hnd hns n _ _ _ _ (hcl.set him) (fun _ => hC') (hfp _) hi⟩
            rcases guardW_sound h with ⟨hw, h⟩ | ⟨hw, h⟩
            · simp only [hw, if_true]
              refine wpIn_of_gives (allND_spec hnd ho) ?_
              have := exec1_sound h
              generalize (execOp a.eval o).run P w = r at this
              cases r with
              | ok x w' =>
                cases x <;> simp only [Gives] at this ⊢ <;> first
                  | exact next _ _ this
                  | exact this.elim
                  | exact Calls.mono this fun e w'' he => by cases e <;> first | exact next _ _ he | exact he
                  | exact RowsIn.mono this fun v w'' he => next _ _ he
                  | exact RoundIn.mono this fun e w'' he => by cases e <;> first | exact next _ _ he | exact he
              | halt x w' => cases x <;> simp only [Gives] at this ⊢ <;> exact this
            · simp only [hw, Bool.false_eq_true, if_false]
              exact ⟨fun _ _ => trivial, C, fun _ => ⟨rfl, fun h => h⟩, evDraw_sound hnd hns n _ _ _ w (hcl.set him) (fun hl => hC hl.of_set) (hf.trans (.put (dstsIn_spec ho))) h⟩
end
inductive Plan where
  | done | bad
  | take (i : Nat) (p : Plan)
  | eff (i : Nat) (nc : Bool) (p : Plan)
  | anew (i : Nat) (p : Plan)
  | both (p q : Plan)
def planAll : List Nat → (Nat → Plan) → Plan
  | [], _ => .done
  | i :: is, F => match is with | [] => F i | _ => .both (F i) (planAll is F)
def planOf (ops : Array Oper) (nw : Bool) (nt : List Nat) : Nat → Array Bool → Plan
  | 0, listed =>
    match Region.ready .any ops listed with
    | [] => .done
    | _ => .bad
  | n + 1, listed =>
    match Region.ready .any ops listed with
    | [] => .done
    | i :: is =>
      match (i :: is).find? fun j => ((ops[j]?).map fun o => takeable o.op).getD false && !nt.contains j && Region.free .any ops listed j with
      | some j => .take j (planOf ops nw nt n (listed.setIfInBounds j true))
      | none => planAll (i :: is) fun i => cond (nw && past ops listed i) (.anew i (planOf ops nw nt n (listed.setIfInBounds i true))) (.eff i (needC ops i) (planOf ops nw nt n (listed.setIfInBounds i true)))
def forceP : Plan → (Plan → Prop) → Prop
  | .done, k => k .done
  | .bad, k => k .bad
  | .take i p, k => forceP p fun p' => k (.take i p')
  | .eff i nc p, k => forceP p fun p' => cond nc (k (.eff i true p')) (k (.eff i false p'))
  | .anew i p, k => forceP p fun p' => k (.anew i p')
  | .both p q, k => forceP p fun p' => forceP q fun q' => k (.both p' q')
theorem forceP_eq : ∀ (p : Plan) (k : Plan → Prop), forceP p k = k p
  | .done, _ => rfl
  | .bad, _ => rfl
  | .take i p, k => by simp only [forceP, forceP_eq p]
  | .eff i nc p, k => by simp only [forceP, forceP_eq p]; cases nc <;> rfl
  | .anew i p, k => by simp only [forceP, forceP_eq p]
  | .both p q, k => by simp only [forceP, forceP_eq p, forceP_eq q]
def evPlan (P : Program) (ops : Array Oper) (K : Act → World → Prop) (Kp : List PanicEntry → List Deferred → World → Prop) : Plan → (World → Prop) → Act → World → Prop
  | .done, _, a, w => K a w
  | .bad, _, _, _ => False
  | .take j p, C, a, w =>
    match ops[j]? with
    | none => False
    | some o => guardW ops o a
        (fun a' => takeW P o a'.eval C fun v => forceA (a'.put o.dst v) fun a'' => evPlan P ops K Kp p C a'' w)
        (fun a' => forceA (a'.put o.dst undef) fun a'' => evPlan P ops K Kp p C a'' w)
  | .eff i nc p, C, a, w =>
    match ops[i]? with
    | none => False
    | some o => guardW ops o a
        (fun a' => exec1 P o a'.eval w (fun v w' => imp nc (C w') (forceA (a'.put o.dst v) fun a'' => evPlan P ops K Kp p C a'' w')) (fun ch w' => Kp ch a'.defers w'))
        (fun a' => forceA (a'.put o.dst undef) fun a'' => evPlan P ops K Kp p C a'' w)
  | .anew i p, C, a, w =>
    match ops[i]? with
    | none => False
    | some o => guardW ops o a
        (fun a' => exec1 P o a'.eval w (fun v w' => ∃ C' : World → Prop, C' w' ∧ forceA (a'.put o.dst v) fun a'' => evPlan P ops K Kp p C' a'' w') (fun ch w' => Kp ch a'.defers w'))
        (fun a' => forceA (a'.put o.dst undef) fun a'' => evPlan P ops K Kp p C a'' w)
  | .both p q, C, a, w => evPlan P ops K Kp p C a w ∧ evPlan P ops K Kp q C a w
theorem evPlan_all {P : Program} {ops : Array Oper} {C : World → Prop} {K : Act → World → Prop} {Kp : List PanicEntry → List Deferred → World → Prop} {F : Nat → Plan} {a : Act} {w : World} :
    ∀ (i : Nat) (is : List Nat), evPlan P ops K Kp (planAll (i :: is) F) C a w = allOf (i :: is) fun i => evPlan P ops K Kp (F i) C a w
  | i, [] => rfl
  | i, k :: is => by
    have := evPlan_all (P := P) (ops := ops) (C := C) (K := K) (Kp := Kp) (F := F) (a := a) (w := w) k is
    simp only [planAll, allOf, evPlan] at this ⊢
    rw [this]
theorem evPlan_eq {P : Program} {ops : Array Oper} {nw : Bool} {nt : List Nat} {K : Act → World → Prop} {Kp : List PanicEntry → List Deferred → World → Prop} :
    ∀ (n : Nat) (C : World → Prop) (listed : Array Bool) (a : Act) (w : World), evPlan P ops K Kp (planOf ops nw nt n listed) C a w = evDraw P ops nw nt K Kp n C listed a w
  | 0, C, listed, a, w => by
    unfold planOf evDraw
    split <;> rename_i hr <;> simp only [evPlan]
  | n + 1, C, listed, a, w => by
    unfold planOf evDraw
    cases hr : Region.ready .any ops listed with
    | nil => rfl
    | cons i is =>
      simp only
      cases hf : (i :: is).find? fun j => ((ops[j]?).map fun o => takeable o.op).getD false && !nt.contains j && Region.free .any ops listed j with
      | some j => simp only [evPlan, evPlan_eq n]
      | none =>
        simp only [evPlan_all]
        congr 1
        funext i
        cases nw && past ops listed i <;> simp only [evPlan, evPlan_eq n, cond]
def drawW (P : Program) (ops : Array Oper) (nw : Bool) (nt : List Nat) (K : Act → World → Prop) (Kp : List PanicEntry → List Deferred → World → Prop) (a : Act) (w : World) : Prop :=
  forceP (planOf ops nw nt ops.size (Array.replicate ops.size false)) fun p =>
  cond (ops.toList.any fun o => isLoad o.op) (doDr w fun w' => ∃ C : World → Prop, C w' ∧ evPlan P ops K Kp p C a w')
    (doDr w fun w' => evPlan P ops K Kp p (fun _ => True) a w')
theorem drawW_sound {ro : Option Nat} {P : Program} {id : Nat} {ops : Array Oper} {nw : Bool} {nt : List Nat} {Q : Exit → Act → World → Prop} {Kp : List PanicEntry → List Deferred → World → Prop} {a : Act} {w : World}
    (hm : P.follows .mixedOrders = true) (hnd : allND ops = true) (hns : Region.noSelect ops = true) (h : drawW P ops nw nt (Q .normal) Kp a w) :
    (Code.region id ops true).wpIn (fen ro) 0 P (full (andFr (dstsIn ops) a Q) Kp) a w := by
  refine wpIn_region_any hm ?_
  unfold drawW at h
  rw [forceP_eq] at h
  simp only [evPlan_eq] at h
  cases hl : (ops.toList.any fun o => isLoad o.op) <;> rw [hl] at h
  · exact wpAnyC_in _ _ _ _ _ (evDraw_sound hnd hns _ _ _ _ _ (Cl.init _ _) (fun _ => trivial) (.refl _ _) h.out)
  · obtain ⟨C, hC, h⟩ := h.out
    exact wpAnyC_in _ _ _ _ _ (evDraw_sound hnd hns _ _ _ _ _ (Cl.init _ _) (fun _ => hC) (.refl _ _) h)

def all0 : Value → (Value → Prop) → Prop
  | .bool _, F => ∀ b, F (.bool b)
  | .int k _, F => ∀ n, F (.int k n)
  | .string _, F => ∀ s, F (.string s)
  | .pointer _, F => ∀ p, F (.pointer p)
  | .slice _ _ _, F => ∀ p n c, F (.slice p n c)
  | .map _, F => ∀ m, F (.map m)
  | .nilFunc, F => ∀ f x c, F (.func f x c)
  | _, F => ∀ v, F v
def allL0 : List Value → (List Value → Prop) → Prop
  | [], F => F []
  | z :: zs, F => all0 z fun v => allL0 zs fun vs => F (v :: vs)
def all1 : Value → (Value → Prop) → Prop
  | .agg cs, F => allL0 cs.toList fun vs => F (.agg vs.toArray)
  | z, F => all0 z F
def allL : List Value → (List Value → Prop) → Prop
  | [], F => F []
  | z :: zs, F => all1 z fun v => allL zs fun vs => F (v :: vs)
def chk0 : Value → Value → Prop → Prop
  | .bool _, .bool _, X => X
  | .int k _, .int k' _, X => if k = k' then X else False
  | .string _, .string _, X => X
  | .pointer _, .pointer _, X => X
  | .slice _ _ _, .slice _ _ _, X => X
  | .map _, .map _, X => X
  | .nilFunc, .func _ _ _, X => X
  | .nilIface, _, X => X
  | _, _, _ => False
def chkL0 : List Value → List Value → Prop → Prop
  | [], [], X => X
  | z :: zs, v :: vs, X => chk0 z v (chkL0 zs vs X)
  | _, _, _ => False
def chk1 : Value → Value → Prop → Prop
  | .agg cs, .agg vs, X => chkL0 cs.toList vs.toList X
  | z, v, X => chk0 z v X
def chkL : List Value → List Value → Prop → Prop
  | [], [], X => X
  | z :: zs, v :: vs, X => chk1 z v (chkL zs vs X)
  | _, _, _ => False
theorem chk0_spec {z v : Value} {X : Prop} (h : chk0 z v X) : X ∧ ∀ F, all0 z F → F v := by
  unfold chk0 at h
  split at h <;> first
    | exact h.elim
    | exact ⟨h, fun F hF => by simp only [all0] at hF; exact hF _⟩
    | exact ⟨h, fun F hF => by simp only [all0] at hF; exact hF _ _ _⟩
    | (split at h
       · rename_i hk; subst hk; exact ⟨h, fun F hF => by simp only [all0] at hF; exact hF _⟩
       · exact h.elim)
theorem chkL0_spec : ∀ {zs vs : List Value} {X : Prop}, chkL0 zs vs X → X ∧ ∀ F, allL0 zs F → F vs
  | [], [], _, h => ⟨h, fun _ hF => hF⟩
  | z :: zs, v :: vs, _, h => by
    obtain ⟨h, h1⟩ := chk0_spec h
    obtain ⟨h, h2⟩ := chkL0_spec h
    exact ⟨h, fun F hF => h2 (fun vs => F (v :: vs)) (h1 (fun v => allL0 zs fun vs => F (v :: vs)) hF)⟩
  | [], _ :: _, _, h => h.elim
  | _ :: _, [], _, h => h.elim
theorem chk1_spec {z v : Value} {X : Prop} (h : chk1 z v X) : X ∧ ∀ F, all1 z F → F v := by
  unfold chk1 at h
  split at h
  · obtain ⟨h, h1⟩ := chkL0_spec h
    refine ⟨h, fun F hF => ?_⟩
    exact h1 (fun vs => F (.agg vs.toArray)) hF
  · rename_i hne
    obtain ⟨h, h1⟩ := chk0_spec h
    refine ⟨h, fun F hF => h1 F ?_⟩
    cases z <;> first | exact hF | skip
    simp [chk0] at *
theorem chkL_spec : ∀ {zs vs : List Value} {X : Prop}, chkL zs vs X → X ∧ ∀ F, allL zs F → F vs
  | [], [], _, h => ⟨h, fun _ hF => hF⟩
  | z :: zs, v :: vs, _, h => by
    obtain ⟨h, h1⟩ := chk1_spec h
    obtain ⟨h, h2⟩ := chkL_spec h
    exact ⟨h, fun F hF => h2 (fun vs => F (v :: vs)) (h1 (fun v => allL zs fun vs => F (v :: vs)) hF)⟩
  | [], _ :: _, _, h => h.elim
  | _ :: _, [], _, h => h.elim
theorem chkL_length : ∀ {zs vs : List Value} {X : Prop}, chkL zs vs X → vs.length = zs.length
  | [], [], _, _ => rfl
  | z :: zs, v :: vs, _, h => by
    obtain ⟨h, _⟩ := chk1_spec h
    simp [chkL_length h]
  | [], _ :: _, _, h => h.elim
  | _ :: _, [], _, h => h.elim

def modsC : Code → List Nat
  | .region _ ops _ => ops.toList.filterMap (·.dst)
  | .seq a b => modsC a ++ modsC b
  | .cond _ a b => modsC a ++ modsC b
  | .block _ b => modsC b
  | .loop b => modsC b
  | .scope b => modsC b
  | _ => []
def noRF : Code → Bool
  | .rangeFunc .. => false
  | .scope _ => false
  | .seq a b => noRF a && noRF b
  | .cond _ a b => noRF a && noRF b
  | .block _ b => noRF b
  | .loop b => noRF b
  | _ => true

def havoc (j : Nat → Value) : List Nat → Array Value → Array Value
  | [], t => t
  | i :: is, t => havoc j is (t.setIfInBounds i (j i))
def putAll : List Nat → List Value → Array Value → Array Value
  | i :: is, v :: vs, t => putAll is vs (t.setIfInBounds i v)
  | _, _, t => t
def getAll (is : List Nat) (t : Array Value) : List Value := is.map fun i => t.getD i undef
theorem havoc_size {j : Nat → Value} : ∀ {is : List Nat} {t : Array Value}, (havoc j is t).size = t.size
  | [], _ => rfl
  | _ :: is, _ => by simp only [havoc, havoc_size (is := is)]; simp
theorem putAll_size : ∀ {is : List Nat} {vs : List Value} {t : Array Value}, (putAll is vs t).size = t.size
  | [], _, _ => rfl
  | _ :: _, [], _ => rfl
  | _ :: is, _ :: vs, _ => by simp only [putAll, putAll_size (is := is)]; simp
theorem havoc_get {j : Nat → Value} {i : Nat} : ∀ {is : List Nat} {t : Array Value}, i < t.size → (havoc j is t)[i]? = if i ∈ is then some (j i) else t[i]?
  | [], _, _ => by simp [havoc]
  | k :: is, t, hi => by
    rw [havoc, havoc_get (is := is) (by simpa using hi)]
    by_cases h : i ∈ is
    · simp [h]
    · by_cases hk : k = i
      · subst hk; simp [h, hi]
      · simp [h, Array.getElem?_setIfInBounds_ne hk, Ne.symm hk]
theorem putAll_get_not {i : Nat} : ∀ {is : List Nat} {vs : List Value} {t : Array Value}, i ∉ is → (putAll is vs t)[i]? = t[i]?
  | [], _, _, _ => rfl
  | _ :: _, [], _, _ => rfl
  | k :: is, v :: vs, t, h => by
    rw [putAll, putAll_get_not (is := is) (fun h' => h (List.mem_cons_of_mem _ h')), Array.getElem?_setIfInBounds_ne (fun e => h (List.mem_cons.2 (.inl e.symm)))]
theorem putAll_map_get {f : Nat → Value} {i : Nat} : ∀ {is : List Nat} {t : Array Value}, i < t.size → (putAll is (is.map f) t)[i]? = if i ∈ is then some (f i) else t[i]?
  | [], _, _ => by simp [putAll]
  | k :: is, t, hi => by
    rw [List.map_cons, putAll, putAll_map_get (is := is) (by simpa using hi)]
    by_cases h : i ∈ is
    · simp [h]
    · by_cases hk : k = i
      · subst hk; simp [h, hi]
      · simp [h, Array.getElem?_setIfInBounds_ne hk, Ne.symm hk]
theorem getAll_putAll : ∀ {is : List Nat} {vs : List Value} {t : Array Value}, is.Nodup → vs.length = is.length → (∀ i ∈ is, i < t.size) → getAll is (putAll is vs t) = vs
  | [], [], _, _, _, _ => rfl
  | [], _ :: _, _, _, h, _ => by simp at h
  | _ :: _, [], _, _, h, _ => by simp at h
  | k :: is, v :: vs, t, hn, hl, hb => by
    have hn' := List.nodup_cons.1 hn
    have ih := getAll_putAll (is := is) (vs := vs) (t := t.setIfInBounds k v) hn'.2 (by simpa using hl) (fun i hi => by simpa using hb i (List.mem_cons_of_mem _ hi))
    simp only [getAll, List.map_cons, putAll] at ih ⊢
    rw [ih]
    have hk := hb k List.mem_cons_self
    have : (putAll is vs (t.setIfInBounds k v))[k]? = some v := by rw [putAll_get_not hn'.1]; simp [hk]
    rw [show (putAll is vs (t.setIfInBounds k v)).getD k undef = v by simp [Array.getD_eq_getD_getElem?, this]]
def slotsOk (is ms : List Nat) (n : Nat) : Bool := decide is.Nodup && is.all (fun i => decide (i < n) && ms.contains i)
theorem putAll_havoc_self {is ms : List Nat} {t t' : Array Value} (hs : t'.size = t.size) (h : ∀ i, i ∉ ms → t'[i]? = t[i]?) :
    putAll is (getAll is t') (havoc (fun i => t'.getD i undef) ms t) = t' := by
  apply Array.ext_getElem?
  intro i
  rcases Nat.lt_or_ge i t.size with hi | hi
  · rw [getAll, putAll_map_get (by rw [havoc_size]; exact hi), havoc_get hi]
    have ht' : t'[i]? = some (t'.getD i undef) := by
      rw [Array.getD_eq_getD_getElem?, Array.getElem?_eq_getElem (by omega)]; rfl
    by_cases h1 : i ∈ is
    · simp only [h1, if_true]; exact ht'.symm
    · by_cases h2 : i ∈ ms
      · simp only [h1, h2, if_true, if_false]; exact ht'.symm
      · simp only [h1, h2, if_false]; exact (h i h2).symm
  · rw [Array.getElem?_eq_none (by rw [putAll_size, havoc_size]; exact hi), Array.getElem?_eq_none (by omega)]
def loopW (ts init : List Value) (w : World) (step : (Nat → Value) → List Value → World → (List Value → World → Prop) → Prop) : Prop :=
  ∃ (I : List Value → World → Prop) (μ : List Value → World → Nat), chkL ts init (I init w) ∧
    allL ts fun vs => ∀ j w', I vs w' → step j vs w' fun vs' w'' => chkL ts vs' (I vs' w'' ∧ μ vs' w'' < μ vs w')
def loopQ (is : List Nat) (K : List Value → World → Prop) (Q : Exit → Act → World → Prop) : Exit → Act → World → Prop
  | .normal, a, w => K (getAll is a.tmps) w
  | e, a, w => Q e a w
def cutW (ts : List Value) (A : (List Value → World → Prop) → Prop) (B : (Nat → Value) → List Value → World → Prop) : Prop :=
  ∃ J : List Value → World → Prop, (allL ts fun vs => ∀ j w', J vs w' → B j vs w') ∧ A fun vs w => chkL ts vs (J vs w)
def headId : Code → Option Nat
  | .region id _ _ => some id
  | .seq x _ => headId x
  | .block _ x => headId x
  | .loop x => headId x
  | .cond _ x y => match headId x with | some i => some i | none => headId y
  | _ => none
def cutOf (ann : Nat → List (Nat × Value)) (y : Code) : List (Nat × Value) :=
  match headId y with
  | some id => ann (1000000 + id)
  | none => []
def litC (c : Operand) (b : Bool) (a : Act) : Act :=
  match c with
  | .tmp t => a.put (some t) (.bool b)
  | _ => a
theorem litC_same {c : Operand} {b : Bool} {a : Act} (h : a.eval c = .bool b) : litC c b a = a := by
  cases c <;> first | rfl | exact put_same h

section
variable {F : Fence} {P : Program} {b : Frame} {a : Act} {k : List Item} {cs : List Frame} {w : World}
theorem stepR_scope {c : Code} : step P (lone (b.atR a (.code (.scope c) :: k)) cs w) = .next (lone (b.atR a (.code c :: .inScope c :: k)) cs w) :=
  step_lone_go (by simp [stepG, stepG.exec, Frame.atR])
theorem stepR_inScope {c : Code} : step P (lone (b.atR a (.inScope c :: k)) cs w) = .next (lone (b.atR a k) cs w) :=
  step_lone_go (by simp [stepG, stepG.exec, Frame.atR])
def scopeP (F : Fence) (P : Program) (c : Code) (Q : Exit → Act → World → Prop) : Nat → Exit → Act → World → Prop
  | 0, .goto _, _, _ => False
  | m + 1, .goto l, a, w => ∃ rest, findLabel c l = some rest ∧ rest.wpIn F 0 P (scopeP F P c Q m) a w
  | _, e, a, w => Q e a w
theorem scopeP_out {c : Code} {Q : Exit → Act → World → Prop} {M : Machine} (hro : b.roundOf = F.round) (hb : F.fn b.fn) (hr : F.room (cs.length + 1 + 0)) : ∀ (m : Nat) (e : Exit) (a₁ : Act) (w₁ : World), scopeP F P c Q m e a₁ w₁ →
    ArrivesIn (Machine.fenced P F) P M b (.inScope c :: k) cs e a₁ w₁ → ∃ e' a' w', Q e' a' w' ∧ ArrivesIn (Machine.fenced P F) P M b k cs e' a' w' := by
  intro m
  induction m with
  | zero =>
    intro e a₁ w₁ hq harr
    cases e with
    | normal => exact ⟨.normal, a₁, w₁, hq, StepsIn.trans harr (.one (fenced_calm hb hr rfl) stepR_inScope)⟩
    | exit id => exact ⟨.exit id, a₁, w₁, hq, fun k' hk => harr.1 k' (by simpa [exitTo] using hk), fun h1 h2 => harr.2 h1 (by simpa [exitTo] using h2)⟩
    | goto l => exact hq.elim
    | ret => exact ⟨_, a₁, w₁, hq, harr⟩
    | panic ch => exact ⟨_, a₁, w₁, hq, harr⟩
    | outgrown => exact ⟨_, a₁, w₁, hq, harr⟩
  | succ m ih =>
    intro e a₁ w₁ hq harr
    cases e with
    | normal => exact ⟨.normal, a₁, w₁, hq, StepsIn.trans harr (.one (fenced_calm hb hr rfl) stepR_inScope)⟩
    | exit id => exact ⟨.exit id, a₁, w₁, hq, fun k' hk => harr.1 k' (by simpa [exitTo] using hk), fun h1 h2 => harr.2 h1 (by simpa [exitTo] using h2)⟩
    | goto l =>
      obtain ⟨rest, hf, hrest⟩ := hq
      have hg : gotoIn l (.inScope c :: k) = some (.code rest :: .inScope c :: k) := by simp [gotoIn, hf]
      obtain ⟨e₂, a₂, w₂, hq₂, harr₂⟩ := hrest b (.inScope c :: k) cs hro hb hr
      exact ih e₂ a₂ w₂ hq₂ (.of_steps (harr.1 _ hg) harr₂)
    | ret => exact ⟨_, a₁, w₁, hq, harr⟩
    | panic ch => exact ⟨_, a₁, w₁, hq, harr⟩
    | outgrown => exact ⟨_, a₁, w₁, hq, harr⟩
theorem wpIn_scope {c : Code} {Q : Exit → Act → World → Prop} (m : Nat) (h : c.wpIn F 0 P (scopeP F P c Q m) a w) : (Code.scope c).wpIn F 0 P Q a w := by
  intro b k cs hro hb hr
  obtain ⟨e, a₁, w₁, hq, harr⟩ := h b (.inScope c :: k) cs hro hb hr
  exact scopeP_out hro hb hr m e a₁ w₁ hq (.of_steps (.one (fenced_calm hb hr rfl) stepR_scope) harr)
end

def scopeQ (c : Code) (G : Code → Act → World → Prop) (Q : Exit → Act → World → Prop) : Exit → Act → World → Prop
  | .goto l, a, w => match findLabel c l with | some rest => G rest a w | none => False
  | e, a, w => Q e a w
def noGotoQ (Q : Exit → Act → World → Prop) : Exit → Act → World → Prop
  | .goto _, _, _ => False
  | e, a, w => Q e a w
def ev (P : Program) (ann : Nat → List (Nat × Value)) (ro : Option Nat) (Kp : List PanicEntry → List Deferred → World → Prop) :
    Nat → Nat → Code → (Exit → Act → World → Prop) → Act → World → Prop
  | 0, _, _, _, _, _ => False
  | n + 1, bid, c, Q, a, w =>
    match c with
    | .skip => Q .normal a w
    | .label _ => Q .normal a w
    | .region id ops d => cond (allND ops && Region.noSelect ops) (cond d (drawW P ops (!(ann (3000000 + id)).isEmpty) ((ann (4000000 + id)).map (·.1)) (Q .normal) Kp a w) (evOps P ops (Q .normal) Kp (List.range ops.size) a w)) False
    | .seq x y =>
      match cutOf ann y with
      | [] => ev P ann ro Kp n bid x (Exit.then (ev P ann ro Kp n bid y Q) Q) a w
      | _ :: l =>
        cond (noRF x && slotsOk (l.map (·.1)) (modsC x) a.tmps.size)
          (cutW (l.map (·.2)) (fun K => ev P ann ro Kp n bid x (loopQ (l.map (·.1)) K Q) a w)
            fun j vs w' => ev P ann ro Kp n bid y Q { a with tmps := putAll (l.map (·.1)) vs (havoc j (modsC x) a.tmps) } w')
          False
    | .cond c x y =>
      match a.eval c with
      | .bool b => ifB b (ev P ann ro Kp n bid x Q (litC c true a) w) (ev P ann ro Kp n bid y Q (litC c false a) w)
      | _ => False
    | .block id x => ev P ann ro Kp n id x (Exit.inBlock id Q) a w
    | .loop x =>
      cond (noRF x && slotsOk ((ann bid).map (·.1)) (modsC x) a.tmps.size)
        (loopW ((ann bid).map (·.2)) (getAll ((ann bid).map (·.1)) a.tmps) w fun j vs w' K =>
          ev P ann ro Kp n 0 x (loopQ ((ann bid).map (·.1)) K Q) { a with tmps := putAll ((ann bid).map (·.1)) vs (havoc j (modsC x) a.tmps) } w')
        False
    | .scope x => ev P ann ro Kp n bid x (scopeQ x (fun rest a' w' => ev P ann ro Kp n bid rest (scopeQ x (fun rest' a'' w'' => ev P ann ro Kp n bid rest' (noGotoQ Q) a'' w'') Q) a' w') Q) a w
    | .exit id => Q (.exit id) a w
    | .goto l => Q (.goto l) a w
    | .ret => Q .ret a w
    | .rangeFunc g ps ars body =>
      match ro with
      | none =>
        rfW P (a.eval g) (mkLoop a.tmps ps ars body)
          (Q .normal { a with defers := { target := .collected w.heap.size, args := #[] } :: a.defers })
          (Q .ret { a with defers := { target := .collected w.heap.size, args := #[] } :: a.defers })
          ((exitsC body).map fun id => (id, Q (.exit id) { a with defers := { target := .collected w.heap.size, args := #[] } :: a.defers })) w
      | some l₀ => rfN P l₀ (a.eval g) (mkLoop a.tmps ps ars body) (Q .normal a) (Q .ret a) ((exitsC body).map fun id => (id, Q (.exit id) a)) w
    | _ => False
def andFrC (c : Code) (a0 : Act) (Q : Exit → Act → World → Prop) : Exit → Act → World → Prop := fun e a w => Q e a w ∧ (noRF c = true → Fr (modsC c) a0 a)
theorem full_mono {Q Q' : Exit → Act → World → Prop} {Kp : List PanicEntry → List Deferred → World → Prop} (h : ∀ e a w, Q e a w → Q' e a w) : ∀ e a w, full Q Kp e a w → full Q' Kp e a w := by
  intro e a w hq
  cases e <;> first | exact h _ _ _ hq | exact hq
section
variable {P : Program} {ann : Nat → List (Nat × Value)} {ro : Option Nat} {Kp : List PanicEntry → List Deferred → World → Prop}
theorem andFrC_out {c x : Code} {a0 : Act} {Q : Exit → Act → World → Prop} (hm : noRF c = true → noRF x = true ∧ ∀ i, i ∈ modsC x → i ∈ modsC c) {e : Exit} {a : Act} {w : World}
    (h : andFrC x a0 Q e a w) : andFrC c a0 Q e a w := ⟨h.1, fun hc => (h.2 (hm hc).1).mono (hm hc).2⟩
theorem rfPost_sound {l : Nat} {a' : Act} {Q : Exit → Act → World → Prop} {body : Code} {e : Ending} {w : World}
    (h : rfPost l (Q .normal a') (Q .ret a') ((exitsC body).map fun id => (id, Q (.exit id) a')) e w) : rangePost (fen ro) 0 P l (full Q Kp) a' e w := by
  cases e with
  | returned v =>
    obtain ⟨r, hr, hs, hj⟩ := h
    obtain ⟨state, pending, fn, tmps, params, assign, lbody, defers⟩ := r
    refine ⟨pending, _, run_endLoop hr hs, ?_⟩
    unfold jmpW at hj
    split at hj
    · rename_i hp; simp only at hp; subst hp; exact hj
    · rename_i hp; simp only at hp; subst hp; exact wpIn_ret hj
    · rename_i id hp
      simp only at hp; subst hp
      have : ∀ (L : List Nat) X, (L.map fun id => (id, Q (.exit id) a')).lookup id = some X → X = Q (.exit id) a' := by
        intro L
        induction L with
        | nil => intro X hX; simp at hX
        | cons i L ih =>
          intro X hX
          simp only [List.map_cons, List.lookup_cons] at hX
          split at hX
          · rename_i hi; simp only [beq_iff_eq] at hi; subst hi; simpa using hX.symm
          · exact ih X hX
      split at hj
      · rename_i X hX
        rw [this _ X hX] at hj
        exact wpIn_exit hj
      · exact hj.elim
    · exact hj.elim
  | panicked ch => exact h.elim
  | outgrown => exact h.elim
theorem callE_spec {v : Value} {args : Array Value} {w : World} {R : EW} (h : callE P v args w R) :
    ∃ fn first cap f ars w', v = .func fn first cap ∧ (invoke (.fn fn cap) (first ++ args)).run P w = .ok (.enter f ars) w' ∧ Calls P f ars w' R := by
  unfold callE at h
  split at h
  · split at h
    · rename_i hr; exact ⟨_, _, _, _, _, _, rfl, hr, h⟩
    · exact h.elim
  · exact h.elim
theorem rfW_sound {g : Operand} {ps : Array Tmp} {ars body : Code} {Q : Exit → Act → World → Prop} {a : Act} {w : World}
    (h : rfW P (a.eval g) (mkLoop a.tmps ps ars body)
          (Q .normal { a with defers := { target := .collected w.heap.size, args := #[] } :: a.defers })
          (Q .ret { a with defers := { target := .collected w.heap.size, args := #[] } :: a.defers })
          ((exitsC body).map fun id => (id, Q (.exit id) { a with defers := { target := .collected w.heap.size, args := #[] } :: a.defers })) w) :
    (Code.rangeFunc g ps ars body).wpIn (fen none) 0 P (full Q Kp) a w := by
  refine wpIn_rangeFunc fun fn _ => ?_
  obtain ⟨fv, first, cap, f, args, w', hv, hi, hc⟩ := callE_spec (h.out fn)
  refine ⟨_, _, _, { target := .fn fv cap, args := first ++ #[.func (.yield (w.heap.size + 1)) #[] #[]] }, _, f, args, w', run_enterLoop_outer fn a.tmps ps ars body, ?_, fun _ _ => trivial, hi, fun hx => by simp [fen, Fence.wide] at hx, ?_⟩
  · simp only [resolve]; rw [hv]; simp [Deferred.ofValue, Act.eval, mkLoop]
  · exact (callsIn_wide (n := 0 - 1)).2 (hc.mono fun e w'' he => rfPost_sound (ro := none) he)
theorem rfN_sound {l₀ : Nat} {g : Operand} {ps : Array Tmp} {ars body : Code} {Q : Exit → Act → World → Prop} {a : Act} {w : World}
    (h : rfN P l₀ (a.eval g) (mkLoop a.tmps ps ars body) (Q .normal a) (Q .ret a) ((exitsC body).map fun id => (id, Q (.exit id) a)) w) :
    (Code.rangeFunc g ps ars body).wpIn (fen (some l₀)) 0 P (full Q Kp) a w := by
  refine wpIn_rangeFunc fun fn _ => ?_
  obtain ⟨r₀, hr₀, h⟩ := h.out
  obtain ⟨fv, first, cap, f, args, w', hv, hi, hc⟩ := callE_spec (h fn)
  refine ⟨_, _, _, { target := .fn fv cap, args := first ++ #[.func (.yield w.heap.size) #[] #[]] }, _, f, args, w', run_enterLoop_inner hr₀ fn a.tmps ps ars body, ?_, fun _ _ => trivial, hi, fun hx => by simp [fen, Fence.wide] at hx, ?_⟩
  · simp only [resolve]; rw [hv]; simp [Deferred.ofValue, Act.eval, mkLoop]
  · exact (callsIn_wide (n := 0 - 1)).2 (hc.mono fun e w'' he => rfPost_sound (ro := some l₀) (a' := a) he)
theorem ev_sound (hm : P.follows .mixedOrders = true) : ∀ (n bid : Nat) (c : Code) (Q : Exit → Act → World → Prop) (a : Act) (w : World),
    ev P ann ro Kp n bid c Q a w → c.wpIn (fen ro) 0 P (full (andFrC c a Q) Kp) a w := by
  intro n
  induction n with
  | zero => intro _ _ _ _ _ h; exact h.elim
  | succ n ih =>
    intro bid c Q a w h
    unfold ev at h
    cases c with
    | skip => exact wpIn_skip ⟨h, fun _ => .refl _ _⟩
    | label l => exact wpIn_label ⟨h, fun _ => .refl _ _⟩
    | exit id => exact wpIn_exit ⟨h, fun _ => .refl _ _⟩
    | goto l => exact wpIn_goto ⟨h, fun _ => .refl _ _⟩
    | ret => exact wpIn_ret ⟨h, fun _ => .refl _ _⟩
    | refuse s => exact h.elim
    | region id ops d =>
      simp only at h
      cases hc : (allND ops && Region.noSelect ops) <;> rw [hc] at h
      · exact h.elim
      simp only [Bool.and_eq_true] at hc
      have conv : ∀ e a' w', full (andFr (dstsIn ops) a Q) Kp e a' w' → full (andFrC (.region id ops d) a Q) Kp e a' w' :=
        full_mono fun e a' w' hq => ⟨hq.1, fun _ => hq.2⟩
      cases d with
      | true => exact wpIn_mono (drawW_sound hm hc.1 hc.2 h) conv
      | false => exact wpIn_mono (wpIn_region (evOps_sound hc.1 _ _ _ (.refl _ _) h)) conv
    | seq x y =>
      simp only at h
      split at h
      case h_2 d l hcut =>
        cases hc : (noRF x && slotsOk (l.map (·.1)) (modsC x) a.tmps.size) <;> rw [hc] at h
        · exact h.elim
        simp only [Bool.and_eq_true, slotsOk, decide_eq_true_eq, List.all_eq_true, List.contains_iff_mem] at hc
        obtain ⟨hrf, hnd, hsl⟩ := hc
        generalize l.map (·.1) = is at *
        generalize l.map (·.2) = ts at *
        obtain ⟨J, hB, hA⟩ := h
        refine wpIn_seq (wpIn_mono (ih bid x _ a w hA) ?_)
        intro e a₁ w₁ he
        cases e with
        | normal =>
          obtain ⟨hK, hf⟩ := he
          have hf := hf hrf
          simp only [loopQ] at hK
          obtain ⟨hJ, hsh⟩ := chkL_spec hK
          have hB := hsh _ hB (fun i => a₁.tmps.getD i undef) w₁ hJ
          have he1 : ({ a with tmps := putAll is (getAll is a₁.tmps) (havoc (fun i => a₁.tmps.getD i undef) (modsC x) a.tmps) } : Act) = a₁ := by
            rw [putAll_havoc_self hf.size hf.same]
            obtain ⟨t, d⟩ := a₁
            have := hf.defers
            simp only at this
            rw [this]
          simp only [he1] at hB
          refine wpIn_mono (ih bid y Q a₁ w₁ hB) (full_mono fun e a₂ w₂ hq => ⟨hq.1, fun hn => ?_⟩)
          simp only [noRF, Bool.and_eq_true] at hn
          exact (hf.mono (fun i hi => List.mem_append_left _ hi)).trans ((hq.2 hn.2).mono (fun i hi => List.mem_append_right _ hi))
        | panic ch => exact he
        | outgrown => exact he
        | exit id => exact ⟨he.1, fun hn => by simp only [noRF, Bool.and_eq_true] at hn; exact (he.2 hn.1).mono (fun i hi => List.mem_append_left _ hi)⟩
        | goto id => exact ⟨he.1, fun hn => by simp only [noRF, Bool.and_eq_true] at hn; exact (he.2 hn.1).mono (fun i hi => List.mem_append_left _ hi)⟩
        | ret => exact ⟨he.1, fun hn => by simp only [noRF, Bool.and_eq_true] at hn; exact (he.2 hn.1).mono (fun i hi => List.mem_append_left _ hi)⟩
      refine wpIn_seq (wpIn_mono (ih bid x _ a w h) ?_)
      intro e a₁ w₁ he
      cases e with
      | normal =>
        obtain ⟨he, hf⟩ := he
        refine wpIn_mono (ih bid y Q a₁ w₁ he) (full_mono fun e a₂ w₂ hq => ⟨hq.1, fun hn => ?_⟩)
        simp only [noRF, Bool.and_eq_true] at hn
        exact ((hf hn.1).mono (fun i hi => List.mem_append_left _ hi)).trans ((hq.2 hn.2).mono (fun i hi => List.mem_append_right _ hi))
      | panic ch => exact he
      | outgrown => exact he
      | exit id => exact ⟨he.1, fun hn => by simp only [noRF, Bool.and_eq_true] at hn; exact (he.2 hn.1).mono (fun i hi => List.mem_append_left _ hi)⟩
      | goto id => exact ⟨he.1, fun hn => by simp only [noRF, Bool.and_eq_true] at hn; exact (he.2 hn.1).mono (fun i hi => List.mem_append_left _ hi)⟩
      | ret => exact ⟨he.1, fun hn => by simp only [noRF, Bool.and_eq_true] at hn; exact (he.2 hn.1).mono (fun i hi => List.mem_append_left _ hi)⟩
    | cond c x y =>
      simp only at h
      split at h
      · rename_i b hb
        rcases ifB_cases h with ⟨rfl, h⟩ | ⟨rfl, h⟩
        · rw [litC_same hb] at h
          exact wpIn_cond hb (wpIn_mono (ih bid x Q a w h) (full_mono fun e a₁ w₁ hq => andFrC_out (fun hn => by simp only [noRF, Bool.and_eq_true] at hn; exact ⟨hn.1, fun i hi => List.mem_append_left _ hi⟩) hq))
        · rw [litC_same hb] at h
          exact wpIn_cond hb (wpIn_mono (ih bid y Q a w h) (full_mono fun e a₁ w₁ hq => andFrC_out (fun hn => by simp only [noRF, Bool.and_eq_true] at hn; exact ⟨hn.2, fun i hi => List.mem_append_right _ hi⟩) hq))
      · exact h.elim
    | block id x =>
      refine wpIn_block (wpIn_mono (ih id x _ a w h) ?_)
      intro e a₁ w₁ he
      cases e with
      | normal => exact he
      | panic ch => exact he
      | outgrown => exact he
      | goto l => exact he
      | ret => exact he
      | exit id' =>
        obtain ⟨hq, hf⟩ := he
        simp only [Exit.inBlock] at hq ⊢
        split
        · rename_i hid; rw [if_pos hid] at hq; exact ⟨hq, hf⟩
        · rename_i hid; rw [if_neg hid] at hq; exact ⟨hq, hf⟩
    | scope x =>
      refine wpIn_scope 2 (wpIn_mono (ih bid x _ a w h) ?_)
      have outer : ∀ e a₁ w₁, full (andFrC (.scope x) a Q) Kp e a₁ w₁ ↔ full Q Kp e a₁ w₁ := fun e a₁ w₁ => by
        cases e <;> simp [full, andFrC, noRF]
      intro e a₁ w₁ he
      cases e with
      | goto l =>
        obtain ⟨hq, _⟩ := he
        simp only [scopeQ] at hq
        split at hq
        · rename_i rest hf
          refine ⟨rest, hf, wpIn_mono (ih bid rest _ a₁ w₁ hq) ?_⟩
          intro e a₂ w₂ he
          cases e with
          | goto l =>
            obtain ⟨hq, _⟩ := he
            simp only [scopeQ] at hq
            split at hq
            · rename_i rest hf
              refine ⟨rest, hf, wpIn_mono (ih bid rest _ a₂ w₂ hq) ?_⟩
              intro e a₃ w₃ he
              cases e with
              | goto l => exact he.1.elim
              | panic ch => exact he
              | outgrown => exact he
              | normal => exact (outer _ _ _).2 he.1
              | exit id => exact (outer _ _ _).2 he.1
              | ret => exact (outer _ _ _).2 he.1
            · exact hq.elim
          | panic ch => exact he
          | outgrown => exact he
          | normal => exact (outer _ _ _).2 he.1
          | exit id => exact (outer _ _ _).2 he.1
          | ret => exact (outer _ _ _).2 he.1
        · exact hq.elim
      | panic ch => exact he
      | outgrown => exact he
      | normal => exact (outer _ _ _).2 he.1
      | exit id => exact (outer _ _ _).2 he.1
      | ret => exact (outer _ _ _).2 he.1
    | rangeFunc g ps ars body =>
      have outer : ∀ e a₁ w₁, full Q Kp e a₁ w₁ → full (andFrC (.rangeFunc g ps ars body) a Q) Kp e a₁ w₁ := fun e a₁ w₁ => by
        cases e <;> simp [full, andFrC, noRF]
      cases ro with
      | none => exact wpIn_mono (rfW_sound h) outer
      | some l₀ => exact wpIn_mono (rfN_sound h) outer
    | loop x =>
      simp only at h
      cases hc : (noRF x && slotsOk ((ann bid).map (·.1)) (modsC x) a.tmps.size) <;> rw [hc] at h
      · exact h.elim
      simp only [Bool.and_eq_true, slotsOk, decide_eq_true_eq, List.all_eq_true, List.contains_iff_mem] at hc
      obtain ⟨hrf, hnd, hsl⟩ := hc
      generalize (ann bid).map (·.1) = is at *
      generalize (ann bid).map (·.2) = ts at *
      obtain ⟨I, μ, h0, hstep⟩ := h
      refine wpIn_loop (fun a₁ w₁ => ∃ vs j, (∀ F, allL ts F → F vs) ∧ vs.length = is.length ∧ I vs w₁ ∧ a₁ = { a with tmps := putAll is vs (havoc j (modsC x) a.tmps) })
        (fun a₁ w₁ => μ (getAll is a₁.tmps) w₁) ?_ ?_
      · have hl := chkL_length h0
        obtain ⟨h0, hsh⟩ := chkL_spec h0
        refine ⟨_, fun i => a.tmps.getD i undef, hsh, by simp [getAll], h0, ?_⟩
        rw [putAll_havoc_self rfl (fun _ _ => rfl)]
      · rintro a₁ w₁ ⟨vs, j, hsh, hlen, hI, rfl⟩
        have hb : ∀ i ∈ is, i < (havoc j (modsC x) a.tmps).size := fun i hi => by rw [havoc_size]; exact (hsl i hi).1
        refine wpIn_mono (ih 0 x _ _ w₁ (hsh _ hstep j w₁ hI)) ?_
        intro e a₂ w₂ he
        have hsz : ∀ a₂ : Act, Fr (modsC x) { a with tmps := putAll is vs (havoc j (modsC x) a.tmps) } a₂ → Fr (modsC x) a a₂ := fun a₂ hf =>
          ⟨hf.defers, by rw [hf.size]; simp only [putAll_size, havoc_size], fun i hi => by
            rw [hf.same i hi]
            simp only
            rw [putAll_get_not (fun hi' => hi (hsl i hi').2)]
            rcases Nat.lt_or_ge i a.tmps.size with hlt | hge
            · rw [havoc_get hlt, if_neg hi]
            · rw [Array.getElem?_eq_none (by rw [havoc_size]; exact hge), Array.getElem?_eq_none hge]⟩
        cases e with
        | normal =>
          obtain ⟨hK, hf⟩ := he
          have hf := hsz _ (hf hrf)
          simp only [loopQ] at hK
          have hl := chkL_length hK
          obtain ⟨⟨hI', hμ⟩, hsh'⟩ := chkL_spec hK
          refine ⟨⟨_, fun i => a₂.tmps.getD i undef, hsh', by simp [getAll], hI', ?_⟩, ?_⟩
          · rw [putAll_havoc_self hf.size hf.same]
            obtain ⟨t, d⟩ := a₂
            have := hf.defers
            simp only at this
            rw [this]
          · simp only
            rw [getAll_putAll hnd hlen hb]
            exact hμ
        | panic ch => exact he
        | outgrown => exact he
        | exit id => exact ⟨he.1, fun hn => hsz _ (he.2 hn)⟩
        | goto l => exact ⟨he.1, fun hn => hsz _ (he.2 hn)⟩
        | ret => exact ⟨he.1, fun hn => hsz _ (he.2 hn)⟩
end

theorem resL_sound {P : Program} {tmps : Array Value} {w : World} : ∀ {rs : List ResultVar} {F : List Value → Prop}, resL P tmps w rs F →
    ∃ vs, F vs ∧ Sem.run P (rs.mapM (resOne tmps)) w = .ok vs w
  | [], _, h => ⟨[], h, rfl⟩
  | .tmp t :: rs, _, h => by
    obtain ⟨vs, hF, hr⟩ := resL_sound (rs := rs) h
    exact ⟨_, hF, by rw [List.mapM_cons]; simp [resOne, hr]⟩
  | .cell a t :: rs, _, h => by
    simp only [resL] at h
    split at h
    · rename_i ad ha
      obtain ⟨v, hK, hl⟩ := ldW_sound h
      obtain ⟨vs, hF, hr⟩ := resL_sound (rs := rs) hK
      have hl := hl w fun _ _ h => h
      refine ⟨_, hF, ?_⟩
      have h1 : (resOne tmps (.cell a t)).run P w = .ok v w := by
        simp only [Instr.loadAt, Instr.sureAddr] at hl
        simp only [resOne, ha, asAddr]
        exact hl
      rw [List.mapM_cons, Sem.run_bind, h1]
      simp [hr]
    · exact h.elim
theorem results_of_resL {P : Program} {fn : Func} {tmps : Array Value} {w : World} {F : List Value → Prop} (h : resL P tmps w fn.results.toList F) :
    ∃ vs, F vs ∧ (results fn tmps).run P w = .ok (one vs) w := by
  obtain ⟨vs, hF, hr⟩ := resL_sound h
  refine ⟨vs, hF, ?_⟩
  have e : results fn tmps = (do let vs ← fn.results.mapM (resOne tmps); pure (if h : vs.size = 1 then vs[0] else .tuple vs)) := rfl
  rw [e, Sem.run_bind, Array.mapM_eq_mapM_toList, Sem.run_map, hr]
  simp only [Result.andThen_ok, Sem.run_pure]
  match vs with
  | [] => rfl
  | [v] => rfl
  | _ :: _ :: _ => rfl
theorem leaveW_sound {P : Program} {fn : Func} {tmps : Array Value} {R : EW} {u : FrameMode} (hu : u ≠ .run) : ∀ {ds : List Deferred} {w : World} {K : World → Prop}, leaveW ds w K →
    (∀ w', K w' → LeavesIn Fence.wide 0 P fn tmps R [] u w') → LeavesInM Fence.wide 0 P fn tmps R ds u w
  | [], _, _, h, hK => hK _ h
  | d :: ds, w, K, h, hK => by
    simp only [leaveW] at h
    split at h
    · rename_i r hd
      exact ⟨hu, .inl ⟨r, _, hd, run_takeDeferred h.1, leaveW_sound hu h.2 hK⟩⟩
    · exact h.elim
theorem calls_of_ev {P : Program} {ann : Nat → List (Nat × Value)} {f : FuncId} {fn : Func} {c : Code} {args : Array Value} {w : World} {R : EW} (n : Nat)
    (hm : P.follows .mixedOrders = true) (hf : P.funcs[f]? = some fn) (hb : fn.body = some c)
    (h : ev P ann none (Kfn R) n 0 c (Qfn P fn R) { tmps := args ++ Array.replicate (fn.ntmps - args.size) undef, defers := [] } w) : Calls P f args w R := by
  refine (callsIn_wide (n := 0)).1 (callsIn_of_wp_marks hf hb trivial (wpIn_mono (ev_sound hm n 0 c _ _ w h) ?_))
  intro e a' w' he
  cases e with
  | normal =>
    refine leaveW_sound (by simp) he.1 fun w'' hr => ?_
    obtain ⟨vs, hF, hr⟩ := results_of_resL hr
    exact ⟨_, hr, hF⟩
  | ret =>
    refine leaveW_sound (by simp) he.1 fun w'' hr => ?_
    obtain ⟨vs, hF, hr⟩ := results_of_resL hr
    exact ⟨_, hr, hF⟩
  | panic ch => exact leaveW_sound (by simp) he fun w'' hr => hr
  | outgrown => exact he.elim
  | exit id => exact he.1.elim
  | goto l => exact he.1.elim

theorem calls_of_eq {P : Program} {ann : Nat → List (Nat × Value)} {f : FuncId} {fn : Func} {c : Code} {args : Array Value} {w : World} {R : EW} {X : Prop} (n : Nat)
    (hm : P.follows .mixedOrders = true) (hf : P.funcs[f]? = some fn) (hb : fn.body = some c)
    (e : ev P ann none (Kfn R) n 0 c (Qfn P fn R) { tmps := args ++ Array.replicate (fn.ntmps - args.size) undef, defers := [] } w = X) : X → Calls P f args w R :=
  fun h => calls_of_ev n hm hf hb (e ▸ h)

def rdPost (l : Nat) (R : EW) : Exit → Act → World → Prop
  | .normal, _, w => ∃ r, w.heap[l]? = some (.loop r) ∧ R (.returned (.bool true)) (w.putObj l (.loop { r with state := .ready, pending := none }))
  | .ret, _, w => ∃ r, w.heap[l]? = some (.loop r) ∧ R (.returned (.bool false)) (w.putObj l (.loop { r with state := .done, pending := some .ret }))
  | .exit id, _, w => ∃ r, w.heap[l]? = some (.loop r) ∧ R (.returned (.bool false)) (w.putObj l (.loop { r with state := .done, pending := some (.exit id) }))
  | _, _, _ => False
def evRound (P : Program) (ann : Nat → List (Nat × Value)) (l n : Nat) (ps : Array Tmp) (ars body : Code) (tmps : Array Value) (args : Array Value) (R : EW) (w : World) : Prop :=
  ev P ann (some l) (fun _ _ _ => False) n 0 ars
    (Exit.then (fun a₁ w₁ => ∃ r, w₁.heap[l]? = some (.loop r) ∧ r.state = .ready ∧
      ev P ann (some l) (fun _ _ _ => False) n 0 body (rdPost l R) a₁ (w₁.putObj l (.loop { r with state := .busy }))) (fun _ _ _ => False))
    { tmps := (ps.zip args).foldl (fun tmps (t, a) => tmps.setIfInBounds t a) tmps, defers := [] } w
theorem call_of_round {P : Program} {ann : Nat → List (Nat × Value)} {l : Nat} {r : Loop} {args : Array Value} {w : World} {R : EW} (n : Nat)
    (hm : P.follows .mixedOrders = true) (hl : w.heap[l]? = some (.loop r)) (hs : args.size = r.params.size)
    (h : evRound P ann l n r.params r.assign r.body r.tmps args R w) : callV P (.func (.yield l) #[] #[]) args w R := by
  have hi : (invoke (.fn (.yield l) #[]) (#[] ++ args)).run P w = .ok (.round l r.fn ((r.params.zip args).foldl (fun tmps (t, a) => tmps.setIfInBounds t a) r.tmps) r.assign r.body) w := by
    rw [Array.empty_append]
    exact run_yield hl hs
  simp only [callV, goV, hi]
  refine roundIn_of_wpIn trivial (wpIn_mono (ev_sound hm n 0 _ _ _ _ h) ?_)
  intro e a₁ w₁ he
  cases e with
  | normal =>
    obtain ⟨⟨r₁, h1, h2, h3⟩, _⟩ := he
    refine ⟨_, run_beginRound h1 h2, wpIn_mono (ev_sound hm n 0 _ _ _ _ h3) ?_⟩
    intro e a₂ w₂ he
    cases e with
    | normal => obtain ⟨⟨r₂, h4, h5⟩, _⟩ := he; exact ⟨_, _, run_endRound none h4, h5⟩
    | ret => obtain ⟨⟨r₂, h4, h5⟩, _⟩ := he; exact ⟨_, _, run_endRound (some .ret) h4, h5⟩
    | exit id => obtain ⟨⟨r₂, h4, h5⟩, _⟩ := he; exact ⟨_, _, run_endRound (some (.exit id)) h4, h5⟩
    | goto l => exact he.1.elim
    | panic ch => exact he
    | outgrown => exact he
  | exit id => exact he.1
  | goto l => exact he.1
  | ret => exact he.1
  | panic ch => exact he
  | outgrown => exact he
theorem round_of_eq {P : Program} {ann : Nat → List (Nat × Value)} {l fn D : Nat} {ps : Array Tmp} {ars body : Code} {tmps : Array Value} {args : Array Value} {w : World} {R : EW} {X : Prop} (n : Nat)
    (hm : P.follows .mixedOrders = true) (hl : w.heap[l]? = some (.loop (mkLoop tmps ps ars body fn D))) (hs : args.size = ps.size)
    (e : evRound P ann l n ps ars body tmps args R w = X) : X → callV P (.func (.yield l) #[] #[]) args w R :=
  fun h => call_of_round n hm hl hs (e ▸ h)
theorem goV_func {P : Program} {f : FuncId} {cap args : Array Value} {w : World} {R : EW}
    (he : (callFunc f (args ++ cap)).run P w = .ok (.enter f (args ++ cap)) w) (h : Calls P f (args ++ cap) w R) : goV P (.fn (.func f) cap) args w R := by
  unfold goV
  rw [show (invoke (.fn (.func f) cap) args).run P w = .ok (.enter f (args ++ cap)) w from he]
  exact h
theorem callV_func {P : Program} {f : FuncId} {first cap args : Array Value} {w : World} {R : EW}
    (he : ∀ ars w, (callFunc f ars).run P w = .ok (.enter f ars) w) (h : Calls P f (first ++ args ++ cap) w R) : callV P (.func (.func f) first cap) args w R :=
  goV_func (he _ _) h
theorem callE_func {P : Program} {f : FuncId} {first cap args : Array Value} {w : World} {R : EW}
    (he : ∀ ars w, (callFunc f ars).run P w = .ok (.enter f ars) w) (h : Calls P f (first ++ args ++ cap) w R) : callE P (.func (.func f) first cap) args w R := by
  unfold callE
  simp only
  rw [show (invoke (.fn (.func f) cap) (first ++ args)).run P w = .ok (.enter f (first ++ args ++ cap)) w from he _ _]
  exact h
end Go.Sh.Old

