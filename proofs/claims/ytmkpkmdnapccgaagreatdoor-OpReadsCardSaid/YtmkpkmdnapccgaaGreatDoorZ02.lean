/-
  The evaluator, code: sequences, tests, blocks, loops, ranges over a function; a function's contract. No claim of its own.
-/
import Derived.Test.YtmkpkmdnapccgaaGreatDoorZ01
import Derived.RangeFuncRecord
import Derived.RangeFuncNested
import Derived.Recover

set_option maxRecDepth 100000
set_option maxHeartbeats 6400000
namespace Go.Sh
open Go

def all0 : Value → (Value → Prop) → Prop
  | .bool _, F => ∀ b, F (.bool b)
  | .int k _, F => ∀ n, F (.int k n)
  | .string _, F => ∀ s, F (.string s)
  | .pointer _, F => ∀ p, F (.pointer p)
  | .slice _ _ _, F => ∀ p n c, F (.slice p n c)
  | .map _, F => ∀ m, F (.map m)
  | .nilFunc, F => ∀ f x c, F (.func f x c)
  | _, F => ∀ v, F v
def allL0 : List Value → (List Value → Prop) → Prop
  | [], F => F []
  | z :: zs, F => all0 z fun v => allL0 zs fun vs => F (v :: vs)
def all1 : Value → (Value → Prop) → Prop
  | .agg cs, F => allL0 cs.toList fun vs => F (.agg vs.toArray)
  | z, F => all0 z F
def allL : List Value → (List Value → Prop) → Prop
  | [], F => F []
  | z :: zs, F => all1 z fun v => allL zs fun vs => F (v :: vs)
def chk0 : Value → Value → Prop → Prop
  | .bool _, .bool _, X => X
  | .int k _, .int k' _, X => if k = k' then X else False
  | .string _, .string _, X => X
  | .pointer _, .pointer _, X => X
  | .slice _ _ _, .slice _ _ _, X => X
  | .map _, .map _, X => X
  | .nilFunc, .func _ _ _, X => X
  | .nilIface, _, X => X
  | _, _, _ => False
def chkL0 : List Value → List Value → Prop → Prop
  | [], [], X => X
  | z :: zs, v :: vs, X => chk0 z v (chkL0 zs vs X)
  | _, _, _ => False
def chk1 : Value → Value → Prop → Prop
  | .agg cs, .agg vs, X => chkL0 cs.toList vs.toList X
  | z, v, X => chk0 z v X
def chkL : List Value → List Value → Prop → Prop
  | [], [], X => X
  | z :: zs, v :: vs, X => chk1 z v (chkL zs vs X)
  | _, _, _ => False
theorem chk0_spec {z v : Value} {X : Prop} (h : chk0 z v X) : X ∧ ∀ F, all0 z F → F v := by
  unfold chk0 at h
  split at h <;> first
    | exact h.elim
    | exact ⟨h, fun F hF => by simp only [all0] at hF; exact hF _⟩
    | exact ⟨h, fun F hF => by simp only [all0] at hF; exact hF _ _ _⟩
    | (split at h
       · rename_i hk; subst hk; exact ⟨h, fun F hF => by simp only [all0] at hF; exact hF _⟩
       · exact h.elim)
theorem chkL0_spec : ∀ {zs vs : List Value} {X : Prop}, chkL0 zs vs X → X ∧ ∀ F, allL0 zs F → F vs
  | [], [], _, h => ⟨h, fun _ hF => hF⟩
  | z :: zs, v :: vs, _, h => by
    obtain ⟨h, h1⟩ := chk0_spec h
    obtain ⟨h, h2⟩ := chkL0_spec h
    exact ⟨h, fun F hF => h2 (fun vs => F (v :: vs)) (h1 (fun v => allL0 zs fun vs => F (v :: vs)) hF)⟩
  | [], _ :: _, _, h => h.elim
  | _ :: _, [], _, h => h.elim
theorem chk1_spec {z v : Value} {X : Prop} (h : chk1 z v X) : X ∧ ∀ F, all1 z F → F v := by
  unfold chk1 at h
  split at h
  · obtain ⟨h, h1⟩ := chkL0_spec h
    refine ⟨h, fun F hF => ?_⟩
    exact h1 (fun vs => F (.agg vs.toArray)) hF
  · rename_i hne
    obtain ⟨h, h1⟩ := chk0_spec h
    refine ⟨h, fun F hF => h1 F ?_⟩
    cases z <;> first | exact hF | skip
    simp [chk0] at *
theorem chkL_spec : ∀ {zs vs : List Value} {X : Prop}, chkL zs vs X → X ∧ ∀ F, allL zs F → F vs
  | [], [], _, h => ⟨h, fun _ hF => hF⟩
  | z :: zs, v :: vs, _, h => by
    obtain ⟨h, h1⟩ := chk1_spec h
    obtain ⟨h, h2⟩ := chkL_spec h
    exact ⟨h, fun F hF => h2 (fun vs => F (v :: vs)) (h1 (fun v => allL zs fun vs => F (v :: vs)) hF)⟩
  | [], _ :: _, _, h => h.elim
  | _ :: _, [], _, h => h.elim
theorem chkL_length : ∀ {zs vs : List Value} {X : Prop}, chkL zs vs X → vs.length = zs.length
  | [], [], _, _ => rfl
  | z :: zs, v :: vs, _, h => by
    obtain ⟨h, _⟩ := chk1_spec h
    simp [chkL_length h]
  | [], _ :: _, _, h => h.elim
  | _ :: _, [], _, h => h.elim

def modsC : Code → List Nat
  | .region _ ops _ => ops.toList.filterMap (·.dst)
  | .seq a b => modsC a ++ modsC b
  | .cond _ a b => modsC a ++ modsC b
  | .block _ b => modsC b
  | .loop b => modsC b
  | .scope b => modsC b
  | _ => []
def noRF : Code → Bool
  | .rangeFunc .. => false
  | .scope _ => false
  | .region _ ops _ => allND ops
  | .seq a b => noRF a && noRF b
  | .cond _ a b => noRF a && noRF b
  | .block _ b => noRF b
  | .loop b => noRF b
  | _ => true

def havoc (j : Nat → Value) : List Nat → Array Value → Array Value
  | [], t => t
  | i :: is, t => havoc j is (t.setIfInBounds i (j i))
def putAll : List Nat → List Value → Array Value → Array Value
  | i :: is, v :: vs, t => putAll is vs (t.setIfInBounds i v)
  | _, _, t => t
def getAll (is : List Nat) (t : Array Value) : List Value := is.map fun i => t.getD i undef
theorem havoc_size {j : Nat → Value} : ∀ {is : List Nat} {t : Array Value}, (havoc j is t).size = t.size
  | [], _ => rfl
  | _ :: is, _ => by simp only [havoc, havoc_size (is := is)]; simp
theorem putAll_size : ∀ {is : List Nat} {vs : List Value} {t : Array Value}, (putAll is vs t).size = t.size
  | [], _, _ => rfl
  | _ :: _, [], _ => rfl
  | _ :: is, _ :: vs, _ => by simp only [putAll, putAll_size (is := is)]; simp
theorem havoc_get {j : Nat → Value} {i : Nat} : ∀ {is : List Nat} {t : Array Value}, i < t.size → (havoc j is t)[i]? = if i ∈ is then some (j i) else t[i]?
  | [], _, _ => by simp [havoc]
  | k :: is, t, hi => by
    rw [havoc, havoc_get (is := is) (by simpa using hi)]
    by_cases h : i ∈ is
    · simp [h]
    · by_cases hk : k = i
      · subst hk; simp [h, hi]
      · simp [h, Array.getElem?_setIfInBounds_ne hk, Ne.symm hk]
theorem putAll_get_not {i : Nat} : ∀ {is : List Nat} {vs : List Value} {t : Array Value}, i ∉ is → (putAll is vs t)[i]? = t[i]?
  | [], _, _, _ => rfl
  | _ :: _, [], _, _ => rfl
  | k :: is, v :: vs, t, h => by
    rw [putAll, putAll_get_not (is := is) (fun h' => h (List.mem_cons_of_mem _ h')), Array.getElem?_setIfInBounds_ne (fun e => h (List.mem_cons.2 (.inl e.symm)))]
theorem putAll_map_get {f : Nat → Value} {i : Nat} : ∀ {is : List Nat} {t : Array Value}, i < t.size → (putAll is (is.map f) t)[i]? = if i ∈ is then some (f i) else t[i]?
  | [], _, _ => by simp [putAll]
  | k :: is, t, hi => by
    rw [List.map_cons, putAll, putAll_map_get (is := is) (by simpa using hi)]
    by_cases h : i ∈ is
    · simp [h]
    · by_cases hk : k = i
      · subst hk; simp [h, hi]
      · simp [h, Array.getElem?_setIfInBounds_ne hk, Ne.symm hk]
theorem getAll_putAll : ∀ {is : List Nat} {vs : List Value} {t : Array Value}, is.Nodup → vs.length = is.length → (∀ i ∈ is, i < t.size) → getAll is (putAll is vs t) = vs
  | [], [], _, _, _, _ => rfl
  | [], _ :: _, _, _, h, _ => by simp at h
  | _ :: _, [], _, _, h, _ => by simp at h
  | k :: is, v :: vs, t, hn, hl, hb => by
    have hn' := List.nodup_cons.1 hn
    have ih := getAll_putAll (is := is) (vs := vs) (t := t.setIfInBounds k v) hn'.2 (by simpa using hl) (fun i hi => by simpa using hb i (List.mem_cons_of_mem _ hi))
    simp only [getAll, List.map_cons, putAll] at ih ⊢
    rw [ih]
    have hk := hb k List.mem_cons_self
    have : (putAll is vs (t.setIfInBounds k v))[k]? = some v := by rw [putAll_get_not hn'.1]; simp [hk]
    rw [show (putAll is vs (t.setIfInBounds k v)).getD k undef = v by simp [Array.getD_eq_getD_getElem?, this]]
def slotsOk (is ms : List Nat) (n : Nat) : Bool := decide is.Nodup && is.all (fun i => decide (i < n) && ms.contains i)
theorem putAll_havoc_self {is ms : List Nat} {t t' : Array Value} (hs : t'.size = t.size) (h : ∀ i, i ∉ ms → t'[i]? = t[i]?) :
    putAll is (getAll is t') (havoc (fun i => t'.getD i undef) ms t) = t' := by
  apply Array.ext_getElem?
  intro i
  rcases Nat.lt_or_ge i t.size with hi | hi
  · rw [getAll, putAll_map_get (by rw [havoc_size]; exact hi), havoc_get hi]
    have ht' : t'[i]? = some (t'.getD i undef) := by
      rw [Array.getD_eq_getD_getElem?, Array.getElem?_eq_getElem (by omega)]; rfl
    by_cases h1 : i ∈ is
    · simp only [h1, if_true]; exact ht'.symm
    · by_cases h2 : i ∈ ms
      · simp only [h1, h2, if_true, if_false]; exact ht'.symm
      · simp only [h1, h2, if_false]; exact (h i h2).symm
  · rw [Array.getElem?_eq_none (by rw [putAll_size, havoc_size]; exact hi), Array.getElem?_eq_none (by omega)]
def loopW (ts init : List Value) (w : World) (step : (Nat → Value) → List Value → World → (List Value → World → Prop) → Prop) : Prop :=
  ∃ (I : List Value → World → Prop) (μ : List Value → World → Nat), chkL ts init (I init w) ∧
    allL ts fun vs => ∀ j w', I vs w' → step j vs w' fun vs' w'' => chkL ts vs' (I vs' w'' ∧ μ vs' w'' < μ vs w')
def loopQ (is : List Nat) (K : List Value → World → Prop) (Q : Exit → Act → World → Prop) : Exit → Act → World → Prop
  | .normal, a, w => K (getAll is a.tmps) w
  | e, a, w => Q e a w
def cutW (ts : List Value) (A : (List Value → World → Prop) → Prop) (B : (Nat → Value) → List Value → World → Prop) : Prop :=
  ∃ J : List Value → World → Prop, (allL ts fun vs => ∀ j w', J vs w' → B j vs w') ∧ A fun vs w => chkL ts vs (J vs w)
def headId : Code → Option Nat
  | .region id _ _ => some id
  | .seq x _ => headId x
  | .block _ x => headId x
  | .loop x => headId x
  | .cond _ x y => match headId x with | some i => some i | none => headId y
  | _ => none
def cutOf (ann : Nat → List (Nat × Value)) (y : Code) : List (Nat × Value) :=
  match headId y with
  | some id => ann (1000000 + id)
  | none => []
def litC (c : Operand) (b : Bool) (a : Act) : Act :=
  match c with
  | .tmp t => a.put (some t) (.bool b)
  | _ => a
theorem litC_same {c : Operand} {b : Bool} {a : Act} (h : a.eval c = .bool b) : litC c b a = a := by
  cases c <;> first | rfl | exact put_same h

def jmpW (j : Option Code) (N R : World → Prop) (Xs : List (Nat × (World → Prop))) (w : World) : Prop :=
  match j with
  | none => N w
  | some .ret => R w
  | some (.exit id) => match Xs.lookup id with | some X => X w | none => False
  | _ => False
def rfPost (l : Nat) (N R : World → Prop) (Xs : List (Nat × (World → Prop))) : EW
  | .returned _, w => ∃ r, w.heap[l]? = some (.loop r) ∧ r.state ≠ .busy ∧ jmpW r.pending N R Xs (w.putObj l (.loop { r with state := .exhausted }))
  | _, _ => False
def callE (P : Program) (v : Value) (args : Array Value) (w : World) (R : EW) : Prop :=
  match v with
  | .func fn first cap =>
    match (invoke (.fn fn cap) (first ++ args)).run P w with
    | .ok (.enter f ars) w' => Calls P f ars w' R
    | _ => False
  | _ => False
structure rfW (P : Program) (gv : Value) (L : FuncId → Nat → Loop) (N R : World → Prop) (Xs : List (Nat × (World → Prop))) (w : World) : Prop where
  out : ∀ fn, callE P gv #[.func (.yield (w.heap.size + 1)) #[] #[]] ((w.alloc (.deferred (some []))).alloc (.loop (L fn w.heap.size))) (rfPost (w.heap.size + 1) N R Xs)
structure rfN (P : Program) (l₀ : Nat) (gv : Value) (L : FuncId → Nat → Loop) (N R : World → Prop) (Xs : List (Nat × (World → Prop))) (w : World) : Prop where
  out : ∃ r₀, w.heap[l₀]? = some (.loop r₀) ∧ ∀ fn, callE P gv #[.func (.yield w.heap.size) #[] #[]] (w.alloc (.loop (L fn r₀.defers))) (rfPost w.heap.size N R Xs)
def exitsC : Code → List Nat
  | .exit id => [id]
  | .seq a b => exitsC a ++ exitsC b
  | .cond _ a b => exitsC a ++ exitsC b
  | .block _ b => exitsC b
  | .loop b => exitsC b
  | .rangeFunc _ _ a b => exitsC a ++ exitsC b
  | _ => []
def mkLoop (tmps : Array Value) (ps : Array Tmp) (ars body : Code) (fn : FuncId) (D : Nat) : Loop :=
  { state := .ready, pending := none, fn, tmps, params := ps, assign := ars, body, defers := D }

section
variable {F : Fence} {P : Program} {b : Frame} {a : Act} {k : List Item} {cs : List Frame} {w : World}
theorem stepR_scope {c : Code} : step P (lone (b.atR a (.code (.scope c) :: k)) cs w) = .next (lone (b.atR a (.code c :: .inScope c :: k)) cs w) :=
  step_lone_go (by simp [stepG, stepG.exec, Frame.atR])
theorem stepR_inScope {c : Code} : step P (lone (b.atR a (.inScope c :: k)) cs w) = .next (lone (b.atR a k) cs w) :=
  step_lone_go (by simp [stepG, stepG.exec, Frame.atR])
def scopeP (F : Fence) (P : Program) (c : Code) (Q : Exit → Act → World → Prop) : Nat → Exit → Act → World → Prop
  | 0, .goto _, _, _ => False
  | m + 1, .goto l, a, w => ∃ rest, findLabel c l = some rest ∧ rest.wpIn F 0 P (scopeP F P c Q m) a w
  | _, e, a, w => Q e a w
theorem scopeP_out {c : Code} {Q : Exit → Act → World → Prop} {M : Machine} (hro : b.roundOf = F.round) (hb : F.fn b.fn) (hr : F.room (cs.length + 1 + 0)) : ∀ (m : Nat) (e : Exit) (a₁ : Act) (w₁ : World), scopeP F P c Q m e a₁ w₁ →
    ArrivesIn (Machine.fenced P F) P M b (.inScope c :: k) cs e a₁ w₁ → ∃ e' a' w', Q e' a' w' ∧ ArrivesIn (Machine.fenced P F) P M b k cs e' a' w' := by
  intro m
  induction m with
  | zero =>
    intro e a₁ w₁ hq harr
    cases e with
    | normal => exact ⟨.normal, a₁, w₁, hq, StepsIn.trans harr (.one (fenced_calm hb hr rfl) stepR_inScope)⟩
    | exit id => exact ⟨.exit id, a₁, w₁, hq, fun k' hk => harr.1 k' (by simpa [exitTo] using hk), fun h1 h2 => harr.2 h1 (by simpa [exitTo] using h2)⟩
    | goto l => exact hq.elim
    | ret => exact ⟨_, a₁, w₁, hq, harr⟩
    | panic ch => exact ⟨_, a₁, w₁, hq, harr⟩
    | outgrown => exact ⟨_, a₁, w₁, hq, harr⟩
  | succ m ih =>
    intro e a₁ w₁ hq harr
    cases e with
    | normal => exact ⟨.normal, a₁, w₁, hq, StepsIn.trans harr (.one (fenced_calm hb hr rfl) stepR_inScope)⟩
    | exit id => exact ⟨.exit id, a₁, w₁, hq, fun k' hk => harr.1 k' (by simpa [exitTo] using hk), fun h1 h2 => harr.2 h1 (by simpa [exitTo] using h2)⟩
    | goto l =>
      obtain ⟨rest, hf, hrest⟩ := hq
      have hg : gotoIn l (.inScope c :: k) = some (.code rest :: .inScope c :: k) := by simp [gotoIn, hf]
      obtain ⟨e₂, a₂, w₂, hq₂, harr₂⟩ := hrest b (.inScope c :: k) cs hro hb hr
      exact ih e₂ a₂ w₂ hq₂ (.of_steps (harr.1 _ hg) harr₂)
    | ret => exact ⟨_, a₁, w₁, hq, harr⟩
    | panic ch => exact ⟨_, a₁, w₁, hq, harr⟩
    | outgrown => exact ⟨_, a₁, w₁, hq, harr⟩
theorem wpIn_scope {c : Code} {Q : Exit → Act → World → Prop} (m : Nat) (h : c.wpIn F 0 P (scopeP F P c Q m) a w) : (Code.scope c).wpIn F 0 P Q a w := by
  intro b k cs hro hb hr
  obtain ⟨e, a₁, w₁, hq, harr⟩ := h b (.inScope c :: k) cs hro hb hr
  exact scopeP_out hro hb hr m e a₁ w₁ hq (.of_steps (.one (fenced_calm hb hr rfl) stepR_scope) harr)
end

def scopeQ (c : Code) (G : Code → Act → World → Prop) (Q : Exit → Act → World → Prop) : Exit → Act → World → Prop
  | .goto l, a, w => match findLabel c l with | some rest => G rest a w | none => False
  | e, a, w => Q e a w
def noGotoQ (Q : Exit → Act → World → Prop) : Exit → Act → World → Prop
  | .goto _, _, _ => False
  | e, a, w => Q e a w
def evOpsA (P : Program) (dok : Bool) (ops : Array Oper) (K : Act → World → Prop) (Kp : List PanicEntry → Act → World → Prop) : List Nat → Act → World → Prop
  | [], a, w => K a w
  | i :: rest, a, w =>
    match ops[i]? with
    | none => evOpsA P dok ops K Kp rest a w
    | some o => guardW ops o a
        (fun a' => match o.op with
          | .defer c => cond dok (defW c a'.eval fun d => forceA ({ a' with defers := d :: a'.defers }.put o.dst undef) fun a'' => evOpsA P dok ops K Kp rest a'' w) False
          | _ => exec1N P o a'.eval w (fun v w' => forceA (a'.put o.dst v) fun a'' => evOpsA P dok ops K Kp rest a'' w') (fun ch w' => Kp ch a' w'))
        (fun a' => forceA (a'.put o.dst undef) fun a'' => evOpsA P dok ops K Kp rest a'' w)
def fullA (Q : Exit → Act → World → Prop) (Kp : List PanicEntry → Act → World → Prop) : Exit → Act → World → Prop
  | .panic ch, a, w => Kp ch a w
  | .outgrown, _, _ => False
  | e, a, w => Q e a w
theorem evOpsA_sound {P : Program} {ro : Option Nat} {dok : Bool} (hdok : dok = true → ro = none) {ops : Array Oper} {Q : Exit → Act → World → Prop} {Kp : List PanicEntry → Act → World → Prop} {a0 : Act} (hns : Region.noSelect ops = true) :
    ∀ (l : List Nat) (a : Act) (w : World), (allND ops = true → Fr (dstsIn ops) a0 a) → evOpsA P dok ops (Q .normal) Kp l a w → wpOpsIn (fen ro) 0 P ops (fullA (andFrD (allND ops) (dstsIn ops) a0 Q) Kp) l a w
  | [], a, w, hf, h => ⟨h, hf⟩
  | i :: rest, a, w, hf, h => by
    simp only [evOpsA, forceA_eq] at h
    simp only [wpOpsIn]
    cases ho : ops[i]? with
    | none => simp only [ho] at h; exact evOpsA_sound hdok hns rest a w hf h
    | some o =>
      simp only [ho] at h
      have hfp : ∀ v, allND ops = true → Fr (dstsIn ops) a0 (a.put o.dst v) := fun v hn => (hf hn).trans (.put (dstsIn_spec ho))
      rcases guardW_sound h with ⟨hw, h⟩ | ⟨hw, h⟩
      · simp only [hw, if_true]
        split at h
        · rename_i c hc
          cases dok with
          | false => exact h.elim
          | true =>
            have h' : defW c a.eval (fun d => evOpsA P true ops (Q .normal) Kp rest (Act.put { tmps := a.tmps, defers := d :: a.defers } o.dst undef) w) := h
            obtain ⟨d, hK, hr⟩ := defW_sound (P := P) h' o.type
            have hro := hdok rfl
            subst hro
            refine ⟨fun _ _ => trivial, ?_⟩
            have e : ((Oper.semAt (fen none).round a.eval o).run P w) = .ok (.defer d) w := by
              show (execOp a.eval o).run P w = _
              obtain ⟨dst, op, ty, pos, after, guard⟩ := o
              simp only at hc; subst hc
              simp only [execOp, Sem.run_bind, hr w, Result.andThen_ok]
              rfl
            rw [e]
            refine evOpsA_sound hdok hns rest _ w (fun hn => ?_) hK
            have := allND_spec hn ho
            simp [noDefer, hc] at this
        · rename_i hnd
          have hnd' : noDefer o = true := by
            cases hop : o.op <;> first | exact absurd hop (hnd _) | (simp only [noDefer, hop]; done) | skip
            rename_i cs b
            exact absurd hop (Region.noSelect_spec hns i o cs b ho)
          refine wpIn_of_gives hnd' ?_
          have := exec1N_sound h
          generalize (execOp a.eval o).run P w = r at this
          cases r with
          | ok n w' =>
            cases n <;> simp only [Gives] at this ⊢ <;> first
              | exact evOpsA_sound hdok hns rest _ _ (hfp _) this
              | exact this.elim
              | exact Calls.mono this fun e w'' he => by cases e <;> first | exact evOpsA_sound hdok hns rest _ _ (hfp _) he | exact he
              | exact RowsIn.mono this fun v w'' he => evOpsA_sound hdok hns rest _ _ (hfp _) he
              | exact RoundIn.mono this fun e w'' he => by cases e <;> first | exact evOpsA_sound hdok hns rest _ _ (hfp _) he | exact he
          | halt x w' => cases x <;> simp only [Gives] at this ⊢ <;> exact this
      · simp only [hw, Bool.false_eq_true, if_false]
        exact ⟨fun _ _ => trivial, evOpsA_sound hdok hns rest _ _ (hfp _) h⟩
def ev (P : Program) (ann : Nat → List (Nat × Value)) (ro : Option Nat) (Kp : List PanicEntry → Act → World → Prop) (Kd : List PanicEntry → List Deferred → World → Prop) :
    Nat → Nat → Code → (Exit → Act → World → Prop) → Act → World → Prop
  | 0, _, _, _, _, _ => False
  | n + 1, bid, c, Q, a, w =>
    match c with
    | .skip => Q .normal a w
    | .label _ => Q .normal a w
    | .region _ ops d => cond (Region.noSelect ops) (cond d (cond (allND ops || ro.isNone) (drawW P ro.isNone ops (Q .normal) Kd a w) False) (evOpsA P ro.isNone ops (Q .normal) Kp (List.range ops.size) a w)) False
    | .seq x y =>
      match cutOf ann y with
      | [] => ev P ann ro Kp Kd n bid x (Exit.then (ev P ann ro Kp Kd n bid y Q) Q) a w
      | _ :: l =>
        cond (noRF x && slotsOk (l.map (·.1)) (modsC x) a.tmps.size)
          (cutW (l.map (·.2)) (fun K => ev P ann ro Kp Kd n bid x (loopQ (l.map (·.1)) K Q) a w)
            fun j vs w' => ev P ann ro Kp Kd n bid y Q { a with tmps := putAll (l.map (·.1)) vs (havoc j (modsC x) a.tmps) } w')
          False
    | .cond c x y =>
      match a.eval c with
      | .bool b => ifB b (ev P ann ro Kp Kd n bid x Q (litC c true a) w) (ev P ann ro Kp Kd n bid y Q (litC c false a) w)
      | _ => False
    | .block id x => ev P ann ro Kp Kd n id x (Exit.inBlock id Q) a w
    | .loop x =>
      cond (noRF x && slotsOk ((ann bid).map (·.1)) (modsC x) a.tmps.size)
        (loopW ((ann bid).map (·.2)) (getAll ((ann bid).map (·.1)) a.tmps) w fun j vs w' K =>
          ev P ann ro Kp Kd n 0 x (loopQ ((ann bid).map (·.1)) K Q) { a with tmps := putAll ((ann bid).map (·.1)) vs (havoc j (modsC x) a.tmps) } w')
        False
    | .scope x => ev P ann ro Kp Kd n bid x (scopeQ x (fun rest a' w' => ev P ann ro Kp Kd n bid rest (scopeQ x (fun rest' a'' w'' => ev P ann ro Kp Kd n bid rest' (noGotoQ Q) a'' w'') Q) a' w') Q) a w
    | .exit id => Q (.exit id) a w
    | .goto l => Q (.goto l) a w
    | .ret => Q .ret a w
    | .rangeFunc g ps ars body =>
      match ro with
      | none =>
        rfW P (a.eval g) (mkLoop a.tmps ps ars body)
          (Q .normal { a with defers := { target := .collected w.heap.size, args := #[] } :: a.defers })
          (Q .ret { a with defers := { target := .collected w.heap.size, args := #[] } :: a.defers })
          ((exitsC body).map fun id => (id, Q (.exit id) { a with defers := { target := .collected w.heap.size, args := #[] } :: a.defers })) w
      | some l₀ => rfN P l₀ (a.eval g) (mkLoop a.tmps ps ars body) (Q .normal a) (Q .ret a) ((exitsC body).map fun id => (id, Q (.exit id) a)) w
    | _ => False
def andFrC (c : Code) (a0 : Act) (Q : Exit → Act → World → Prop) : Exit → Act → World → Prop := fun e a w => Q e a w ∧ (noRF c = true → Fr (modsC c) a0 a)
theorem fullA_mono {Q Q' : Exit → Act → World → Prop} {Kp : List PanicEntry → Act → World → Prop} (h : ∀ e a w, Q e a w → Q' e a w) : ∀ e a w, fullA Q Kp e a w → fullA Q' Kp e a w := by
  intro e a w hq
  cases e <;> first | exact h _ _ _ hq | exact hq
section
variable {P : Program} {ann : Nat → List (Nat × Value)} {ro : Option Nat} {Kp : List PanicEntry → Act → World → Prop}
theorem andFrC_out {c x : Code} {a0 : Act} {Q : Exit → Act → World → Prop} (hm : noRF c = true → noRF x = true ∧ ∀ i, i ∈ modsC x → i ∈ modsC c) {e : Exit} {a : Act} {w : World}
    (h : andFrC x a0 Q e a w) : andFrC c a0 Q e a w := ⟨h.1, fun hc => (h.2 (hm hc).1).mono (hm hc).2⟩
theorem rfPost_sound {l : Nat} {a' : Act} {Q : Exit → Act → World → Prop} {body : Code} {e : Ending} {w : World}
    (h : rfPost l (Q .normal a') (Q .ret a') ((exitsC body).map fun id => (id, Q (.exit id) a')) e w) : rangePost (fen ro) 0 P l (fullA Q Kp) a' e w := by
  cases e with
  | returned v =>
    obtain ⟨r, hr, hs, hj⟩ := h
    obtain ⟨state, pending, fn, tmps, params, assign, lbody, defers⟩ := r
    refine ⟨pending, _, run_endLoop hr hs, ?_⟩
    unfold jmpW at hj
    split at hj
    · rename_i hp; simp only at hp; subst hp; exact hj
    · rename_i hp; simp only at hp; subst hp; exact wpIn_ret hj
    · rename_i id hp
      simp only at hp; subst hp
      have : ∀ (L : List Nat) X, (L.map fun id => (id, Q (.exit id) a')).lookup id = some X → X = Q (.exit id) a' := by
        intro L
        induction L with
        | nil => intro X hX; simp at hX
        | cons i L ih =>
          intro X hX
          simp only [List.map_cons, List.lookup_cons] at hX
          split at hX
          · rename_i hi; simp only [beq_iff_eq] at hi; subst hi; simpa using hX.symm
          · exact ih X hX
      split at hj
      · rename_i X hX
        rw [this _ X hX] at hj
        exact wpIn_exit hj
      · exact hj.elim
    · exact hj.elim
  | panicked ch => exact h.elim
  | outgrown => exact h.elim
theorem callE_spec {v : Value} {args : Array Value} {w : World} {R : EW} (h : callE P v args w R) :
    ∃ fn first cap f ars w', v = .func fn first cap ∧ (invoke (.fn fn cap) (first ++ args)).run P w = .ok (.enter f ars) w' ∧ Calls P f ars w' R := by
  unfold callE at h
  split at h
  · split at h
    · rename_i hr; exact ⟨_, _, _, _, _, _, rfl, hr, h⟩
    · exact h.elim
  · exact h.elim
theorem rfW_sound {g : Operand} {ps : Array Tmp} {ars body : Code} {Q : Exit → Act → World → Prop} {a : Act} {w : World}
    (h : rfW P (a.eval g) (mkLoop a.tmps ps ars body)
          (Q .normal { a with defers := { target := .collected w.heap.size, args := #[] } :: a.defers })
          (Q .ret { a with defers := { target := .collected w.heap.size, args := #[] } :: a.defers })
          ((exitsC body).map fun id => (id, Q (.exit id) { a with defers := { target := .collected w.heap.size, args := #[] } :: a.defers })) w) :
    (Code.rangeFunc g ps ars body).wpIn (fen none) 0 P (fullA Q Kp) a w := by
  refine wpIn_rangeFunc fun fn _ => ?_
  obtain ⟨fv, first, cap, f, args, w', hv, hi, hc⟩ := callE_spec (h.out fn)
  refine ⟨_, _, _, { target := .fn fv cap, args := first ++ #[.func (.yield (w.heap.size + 1)) #[] #[]] }, _, f, args, w', run_enterLoop_outer fn a.tmps ps ars body, ?_, fun _ _ => trivial, hi, fun hx => by simp [fen, Fence.wide] at hx, ?_⟩
  · simp only [resolve]; rw [hv]; simp [Deferred.ofValue, Act.eval, mkLoop]
  · exact (callsIn_wide (n := 0 - 1)).2 (hc.mono fun e w'' he => rfPost_sound (ro := none) he)
theorem rfN_sound {l₀ : Nat} {g : Operand} {ps : Array Tmp} {ars body : Code} {Q : Exit → Act → World → Prop} {a : Act} {w : World}
    (h : rfN P l₀ (a.eval g) (mkLoop a.tmps ps ars body) (Q .normal a) (Q .ret a) ((exitsC body).map fun id => (id, Q (.exit id) a)) w) :
    (Code.rangeFunc g ps ars body).wpIn (fen (some l₀)) 0 P (fullA Q Kp) a w := by
  refine wpIn_rangeFunc fun fn _ => ?_
  obtain ⟨r₀, hr₀, h⟩ := h.out
  obtain ⟨fv, first, cap, f, args, w', hv, hi, hc⟩ := callE_spec (h fn)
  refine ⟨_, _, _, { target := .fn fv cap, args := first ++ #[.func (.yield w.heap.size) #[] #[]] }, _, f, args, w', run_enterLoop_inner hr₀ fn a.tmps ps ars body, ?_, fun _ _ => trivial, hi, fun hx => by simp [fen, Fence.wide] at hx, ?_⟩
  · simp only [resolve]; rw [hv]; simp [Deferred.ofValue, Act.eval, mkLoop]
  · exact (callsIn_wide (n := 0 - 1)).2 (hc.mono fun e w'' he => rfPost_sound (ro := some l₀) (a' := a) he)
theorem ev_sound {Kd : List PanicEntry → List Deferred → World → Prop} (hKd : ∀ ch (a : Act) w, Kd ch a.defers w → Kp ch a w) (hm : P.follows .mixedOrders = true) : ∀ (n bid : Nat) (c : Code) (Q : Exit → Act → World → Prop) (a : Act) (w : World),
    ev P ann ro Kp Kd n bid c Q a w → c.wpIn (fen ro) 0 P (fullA (andFrC c a Q) Kp) a w := by
  intro n
  induction n with
  | zero => intro _ _ _ _ _ h; exact h.elim
  | succ n ih =>
    intro bid c Q a w h
    unfold ev at h
    cases c with
    | skip => exact wpIn_skip ⟨h, fun _ => .refl _ _⟩
    | label l => exact wpIn_label ⟨h, fun _ => .refl _ _⟩
    | exit id => exact wpIn_exit ⟨h, fun _ => .refl _ _⟩
    | goto l => exact wpIn_goto ⟨h, fun _ => .refl _ _⟩
    | ret => exact wpIn_ret ⟨h, fun _ => .refl _ _⟩
    | refuse s => exact h.elim
    | region id ops d =>
      simp only at h
      cases hc : Region.noSelect ops <;> rw [hc] at h
      · exact h.elim
      cases d with
      | true =>
        have h : cond (allND ops || ro.isNone) (drawW P ro.isNone ops (Q .normal) Kd a w) False := h
        cases hn : (allND ops || ro.isNone) <;> rw [hn] at h
        · exact h.elim
        have hn' : allND ops = true ∨ ro = none := by simpa using hn
        refine wpIn_mono (drawW_sound (fun hi => by simpa using hi) hm hn' hc h) ?_
        intro e a' w' hq
        cases e <;> first | exact hKd _ _ _ hq | exact hq.elim | exact ⟨hq.1, hq.2⟩
      | false =>
        have h : evOpsA P ro.isNone ops (Q .normal) Kp (List.range ops.size) a w := h
        refine wpIn_mono (wpIn_region (evOpsA_sound (a0 := a) (fun hi => by simpa using hi) hc _ _ _ (fun _ => .refl _ _) h)) ?_
        intro e a' w' hq
        cases e <;> first | exact hq | exact ⟨hq.1, hq.2⟩
    | seq x y =>
      simp only at h
      split at h
      case h_2 d l hcut =>
        cases hc : (noRF x && slotsOk (l.map (·.1)) (modsC x) a.tmps.size) <;> rw [hc] at h
        · exact h.elim
        simp only [Bool.and_eq_true, slotsOk, decide_eq_true_eq, List.all_eq_true, List.contains_iff_mem] at hc
        obtain ⟨hrf, hnd, hsl⟩ := hc
        generalize l.map (·.1) = is at *
        generalize l.map (·.2) = ts at *
        obtain ⟨J, hB, hA⟩ := h
        refine wpIn_seq (wpIn_mono (ih bid x _ a w hA) ?_)
        intro e a₁ w₁ he
        cases e with
        | normal =>
          obtain ⟨hK, hf⟩ := he
          have hf := hf hrf
          simp only [loopQ] at hK
          obtain ⟨hJ, hsh⟩ := chkL_spec hK
          have hB := hsh _ hB (fun i => a₁.tmps.getD i undef) w₁ hJ
          have he1 : ({ a with tmps := putAll is (getAll is a₁.tmps) (havoc (fun i => a₁.tmps.getD i undef) (modsC x) a.tmps) } : Act) = a₁ := by
            rw [putAll_havoc_self hf.size hf.same]
            obtain ⟨t, d⟩ := a₁
            have := hf.defers
            simp only at this
            rw [this]
          simp only [he1] at hB
          refine wpIn_mono (ih bid y Q a₁ w₁ hB) (fullA_mono fun e a₂ w₂ hq => ⟨hq.1, fun hn => ?_⟩)
          simp only [noRF, Bool.and_eq_true] at hn
          exact (hf.mono (fun i hi => List.mem_append_left _ hi)).trans ((hq.2 hn.2).mono (fun i hi => List.mem_append_right _ hi))
        | panic ch => exact he
        | outgrown => exact he
        | exit id => exact ⟨he.1, fun hn => by simp only [noRF, Bool.and_eq_true] at hn; exact (he.2 hn.1).mono (fun i hi => List.mem_append_left _ hi)⟩
        | goto id => exact ⟨he.1, fun hn => by simp only [noRF, Bool.and_eq_true] at hn; exact (he.2 hn.1).mono (fun i hi => List.mem_append_left _ hi)⟩
        | ret => exact ⟨he.1, fun hn => by simp only [noRF, Bool.and_eq_true] at hn; exact (he.2 hn.1).mono (fun i hi => List.mem_append_left _ hi)⟩
      refine wpIn_seq (wpIn_mono (ih bid x _ a w h) ?_)
      intro e a₁ w₁ he
      cases e with
      | normal =>
        obtain ⟨he, hf⟩ := he
        refine wpIn_mono (ih bid y Q a₁ w₁ he) (fullA_mono fun e a₂ w₂ hq => ⟨hq.1, fun hn => ?_⟩)
        simp only [noRF, Bool.and_eq_true] at hn
        exact ((hf hn.1).mono (fun i hi => List.mem_append_left _ hi)).trans ((hq.2 hn.2).mono (fun i hi => List.mem_append_right _ hi))
      | panic ch => exact he
      | outgrown => exact he
      | exit id => exact ⟨he.1, fun hn => by simp only [noRF, Bool.and_eq_true] at hn; exact (he.2 hn.1).mono (fun i hi => List.mem_append_left _ hi)⟩
      | goto id => exact ⟨he.1, fun hn => by simp only [noRF, Bool.and_eq_true] at hn; exact (he.2 hn.1).mono (fun i hi => List.mem_append_left _ hi)⟩
      | ret => exact ⟨he.1, fun hn => by simp only [noRF, Bool.and_eq_true] at hn; exact (he.2 hn.1).mono (fun i hi => List.mem_append_left _ hi)⟩
    | cond c x y =>
      simp only at h
      split at h
      · rename_i b hb
        rcases ifB_cases h with ⟨rfl, h⟩ | ⟨rfl, h⟩
        · rw [litC_same hb] at h
          exact wpIn_cond hb (wpIn_mono (ih bid x Q a w h) (fullA_mono fun e a₁ w₁ hq => andFrC_out (fun hn => by simp only [noRF, Bool.and_eq_true] at hn; exact ⟨hn.1, fun i hi => List.mem_append_left _ hi⟩) hq))
        · rw [litC_same hb] at h
          exact wpIn_cond hb (wpIn_mono (ih bid y Q a w h) (fullA_mono fun e a₁ w₁ hq => andFrC_out (fun hn => by simp only [noRF, Bool.and_eq_true] at hn; exact ⟨hn.2, fun i hi => List.mem_append_right _ hi⟩) hq))
      · exact h.elim
    | block id x =>
      refine wpIn_block (wpIn_mono (ih id x _ a w h) ?_)
      intro e a₁ w₁ he
      cases e with
      | normal => exact he
      | panic ch => exact he
      | outgrown => exact he
      | goto l => exact he
      | ret => exact he
      | exit id' =>
        obtain ⟨hq, hf⟩ := he
        simp only [Exit.inBlock] at hq ⊢
        split
        · rename_i hid; rw [if_pos hid] at hq; exact ⟨hq, hf⟩
        · rename_i hid; rw [if_neg hid] at hq; exact ⟨hq, hf⟩
    | scope x =>
      refine wpIn_scope 2 (wpIn_mono (ih bid x _ a w h) ?_)
      have outer : ∀ e a₁ w₁, fullA (andFrC (.scope x) a Q) Kp e a₁ w₁ ↔ fullA Q Kp e a₁ w₁ := fun e a₁ w₁ => by
        cases e <;> simp [fullA, andFrC, noRF]
      intro e a₁ w₁ he
      cases e with
      | goto l =>
        obtain ⟨hq, _⟩ := he
        simp only [scopeQ] at hq
        split at hq
        · rename_i rest hf
          refine ⟨rest, hf, wpIn_mono (ih bid rest _ a₁ w₁ hq) ?_⟩
          intro e a₂ w₂ he
          cases e with
          | goto l =>
            obtain ⟨hq, _⟩ := he
            simp only [scopeQ] at hq
            split at hq
            · rename_i rest hf
              refine ⟨rest, hf, wpIn_mono (ih bid rest _ a₂ w₂ hq) ?_⟩
              intro e a₃ w₃ he
              cases e with
              | goto l => exact he.1.elim
              | panic ch => exact he
              | outgrown => exact he
              | normal => exact (outer _ _ _).2 he.1
              | exit id => exact (outer _ _ _).2 he.1
              | ret => exact (outer _ _ _).2 he.1
            · exact hq.elim
          | panic ch => exact he
          | outgrown => exact he
          | normal => exact (outer _ _ _).2 he.1
          | exit id => exact (outer _ _ _).2 he.1
          | ret => exact (outer _ _ _).2 he.1
        · exact hq.elim
      | panic ch => exact he
      | outgrown => exact he
      | normal => exact (outer _ _ _).2 he.1
      | exit id => exact (outer _ _ _).2 he.1
      | ret => exact (outer _ _ _).2 he.1
    | rangeFunc g ps ars body =>
      have outer : ∀ e a₁ w₁, fullA Q Kp e a₁ w₁ → fullA (andFrC (.rangeFunc g ps ars body) a Q) Kp e a₁ w₁ := fun e a₁ w₁ => by
        cases e <;> simp [fullA, andFrC, noRF]
      cases ro with
      | none => exact wpIn_mono (rfW_sound h) outer
      | some l₀ => exact wpIn_mono (rfN_sound h) outer
    | loop x =>
      simp only at h
      cases hc : (noRF x && slotsOk ((ann bid).map (·.1)) (modsC x) a.tmps.size) <;> rw [hc] at h
      · exact h.elim
      simp only [Bool.and_eq_true, slotsOk, decide_eq_true_eq, List.all_eq_true, List.contains_iff_mem] at hc
      obtain ⟨hrf, hnd, hsl⟩ := hc
      generalize (ann bid).map (·.1) = is at *
      generalize (ann bid).map (·.2) = ts at *
      obtain ⟨I, μ, h0, hstep⟩ := h
      refine wpIn_loop (fun a₁ w₁ => ∃ vs j, (∀ F, allL ts F → F vs) ∧ vs.length = is.length ∧ I vs w₁ ∧ a₁ = { a with tmps := putAll is vs (havoc j (modsC x) a.tmps) })
        (fun a₁ w₁ => μ (getAll is a₁.tmps) w₁) ?_ ?_
      · have hl := chkL_length h0
        obtain ⟨h0, hsh⟩ := chkL_spec h0
        refine ⟨_, fun i => a.tmps.getD i undef, hsh, by simp [getAll], h0, ?_⟩
        rw [putAll_havoc_self rfl (fun _ _ => rfl)]
      · rintro a₁ w₁ ⟨vs, j, hsh, hlen, hI, rfl⟩
        have hb : ∀ i ∈ is, i < (havoc j (modsC x) a.tmps).size := fun i hi => by rw [havoc_size]; exact (hsl i hi).1
        refine wpIn_mono (ih 0 x _ _ w₁ (hsh _ hstep j w₁ hI)) ?_
        intro e a₂ w₂ he
        have hsz : ∀ a₂ : Act, Fr (modsC x) { a with tmps := putAll is vs (havoc j (modsC x) a.tmps) } a₂ → Fr (modsC x) a a₂ := fun a₂ hf =>
          ⟨hf.defers, by rw [hf.size]; simp only [putAll_size, havoc_size], fun i hi => by
            rw [hf.same i hi]
            simp only
            rw [putAll_get_not (fun hi' => hi (hsl i hi').2)]
            rcases Nat.lt_or_ge i a.tmps.size with hlt | hge
            · rw [havoc_get hlt, if_neg hi]
            · rw [Array.getElem?_eq_none (by rw [havoc_size]; exact hge), Array.getElem?_eq_none hge]⟩
        cases e with
        | normal =>
          obtain ⟨hK, hf⟩ := he
          have hf := hsz _ (hf hrf)
          simp only [loopQ] at hK
          have hl := chkL_length hK
          obtain ⟨⟨hI', hμ⟩, hsh'⟩ := chkL_spec hK
          refine ⟨⟨_, fun i => a₂.tmps.getD i undef, hsh', by simp [getAll], hI', ?_⟩, ?_⟩
          · rw [putAll_havoc_self hf.size hf.same]
            obtain ⟨t, d⟩ := a₂
            have := hf.defers
            simp only at this
            rw [this]
          · simp only
            rw [getAll_putAll hnd hlen hb]
            exact hμ
        | panic ch => exact he
        | outgrown => exact he
        | exit id => exact ⟨he.1, fun hn => hsz _ (he.2 hn)⟩
        | goto l => exact ⟨he.1, fun hn => hsz _ (he.2 hn)⟩
        | ret => exact ⟨he.1, fun hn => hsz _ (he.2 hn)⟩
end

def leaveW : List Deferred → World → (World → Prop) → Prop
  | [], w, K => K w
  | d :: ds, w, K =>
    match d.target with
    | .collected r => w.heap[r]? = some (.deferred (some [])) ∧ leaveW ds (w.putObj r (.deferred none)) K
    | _ => False
def resL (P : Program) (tmps : Array Value) (w : World) : List ResultVar → (List Value → Prop) → Prop
  | [], F => F []
  | .tmp t :: rs, F => resL P tmps w rs fun vs => F (tmps.getD t undef :: vs)
  | .cell a t :: rs, F =>
    match tmps.getD a undef with
    | .pointer (some ad) => ldW P (fun a v => w.cell? a = some v) t ad fun v => resL P tmps w rs fun vs => F (v :: vs)
    | _ => False
def one : List Value → Value
  | [v] => v
  | vs => .tuple vs.toArray
def resOne (tmps : Array Value) : ResultVar → Sem Value
  | .tmp t => pure (tmps.getD t undef)
  | .cell a t => do loadVar t (← asAddr (tmps.getD a undef))
theorem resL_sound {P : Program} {tmps : Array Value} {w : World} : ∀ {rs : List ResultVar} {F : List Value → Prop}, resL P tmps w rs F →
    ∃ vs, F vs ∧ Sem.run P (rs.mapM (resOne tmps)) w = .ok vs w
  | [], _, h => ⟨[], h, rfl⟩
  | .tmp t :: rs, _, h => by
    obtain ⟨vs, hF, hr⟩ := resL_sound (rs := rs) h
    exact ⟨_, hF, by rw [List.mapM_cons]; simp [resOne, hr]⟩
  | .cell a t :: rs, _, h => by
    simp only [resL] at h
    split at h
    · rename_i ad ha
      obtain ⟨v, hK, hl⟩ := ldW_sound h
      obtain ⟨vs, hF, hr⟩ := resL_sound (rs := rs) hK
      have hl := hl w fun _ _ h => h
      refine ⟨_, hF, ?_⟩
      have h1 : (resOne tmps (.cell a t)).run P w = .ok v w := by
        simp only [Instr.loadAt, Instr.sureAddr] at hl
        simp only [resOne, ha, asAddr]
        exact hl
      rw [List.mapM_cons, Sem.run_bind, h1]
      simp [hr]
    · exact h.elim
theorem results_of_resL {P : Program} {fn : Func} {tmps : Array Value} {w : World} {F : List Value → Prop} (h : resL P tmps w fn.results.toList F) :
    ∃ vs, F vs ∧ (results fn tmps).run P w = .ok (one vs) w := by
  obtain ⟨vs, hF, hr⟩ := resL_sound h
  refine ⟨vs, hF, ?_⟩
  have e : results fn tmps = (do let vs ← fn.results.mapM (resOne tmps); pure (if h : vs.size = 1 then vs[0] else .tuple vs)) := rfl
  rw [e, Sem.run_bind, Array.mapM_eq_mapM_toList, Sem.run_map, hr]
  simp only [Result.andThen_ok, Sem.run_pure]
  match vs with
  | [] => rfl
  | [v] => rfl
  | _ :: _ :: _ => rfl
def Qfn (P : Program) (fn : Func) (R : EW) : Exit → Act → World → Prop
  | .normal, a, w => leaveW a.defers w fun w' => resL P a.tmps w' fn.results.toList fun vs => R (.returned (one vs)) w'
  | .ret, a, w => leaveW a.defers w fun w' => resL P a.tmps w' fn.results.toList fun vs => R (.returned (one vs)) w'
  | _, _, _ => False
def Kfn (R : EW) : List PanicEntry → List Deferred → World → Prop := fun ch ds w => leaveW ds w fun w' => R (.panicked ch) w'
theorem leaveW_sound {P : Program} {fn : Func} {tmps : Array Value} {R : EW} {u : FrameMode} (hu : u ≠ .run) : ∀ {ds : List Deferred} {w : World} {K : World → Prop}, leaveW ds w K →
    (∀ w', K w' → LeavesIn Fence.wide 0 P fn tmps R [] u w') → LeavesInM Fence.wide 0 P fn tmps R ds u w
  | [], _, _, h, hK => hK _ h
  | d :: ds, w, K, h, hK => by
    simp only [leaveW] at h
    split at h
    · rename_i r hd
      exact ⟨hu, .inl ⟨r, _, hd, run_takeDeferred h.1, leaveW_sound hu h.2 hK⟩⟩
    · exact h.elim
theorem calls_of_ev {P : Program} {ann : Nat → List (Nat × Value)} {f : FuncId} {fn : Func} {c : Code} {args : Array Value} {w : World} {R : EW} (n : Nat)
    (hm : P.follows .mixedOrders = true) (hf : P.funcs[f]? = some fn) (hb : fn.body = some c)
    (h : ev P ann none (fun ch a w => Kfn R ch a.defers w) (Kfn R) n 0 c (Qfn P fn R) { tmps := args ++ Array.replicate (fn.ntmps - args.size) undef, defers := [] } w) : Calls P f args w R := by
  refine (callsIn_wide (n := 0)).1 (callsIn_of_wp_marks hf hb trivial (wpIn_mono (ev_sound (Kp := fun ch a w => Kfn R ch a.defers w) (Kd := Kfn R) (fun _ _ _ h => h) hm n 0 c _ _ w h) ?_))
  intro e a' w' he
  cases e with
  | normal =>
    refine leaveW_sound (by simp) he.1 fun w'' hr => ?_
    obtain ⟨vs, hF, hr⟩ := results_of_resL hr
    exact ⟨_, hr, hF⟩
  | ret =>
    refine leaveW_sound (by simp) he.1 fun w'' hr => ?_
    obtain ⟨vs, hF, hr⟩ := results_of_resL hr
    exact ⟨_, hr, hF⟩
  | panic ch => exact leaveW_sound (by simp) he fun w'' hr => hr
  | outgrown => exact he.elim
  | exit id => exact he.1.elim
  | goto l => exact he.1.elim

theorem calls_of_eq {P : Program} {ann : Nat → List (Nat × Value)} {f : FuncId} {fn : Func} {c : Code} {args : Array Value} {w : World} {R : EW} {X : Prop} (n : Nat)
    (hm : P.follows .mixedOrders = true) (hf : P.funcs[f]? = some fn) (hb : fn.body = some c)
    (e : ev P ann none (fun ch a w => Kfn R ch a.defers w) (Kfn R) n 0 c (Qfn P fn R) { tmps := args ++ Array.replicate (fn.ntmps - args.size) undef, defers := [] } w = X) : X → Calls P f args w R :=
  fun h => calls_of_ev n hm hf hb (e ▸ h)

structure doEnd (u : FrameMode) (A : Prop) (B : List PanicEntry → Prop) : Prop where
  out : match u with | .returning => A | .panicking ch => B ch | .run => False
def dfPost (K : FrameMode → World → Prop) : Ending → FrameMode → World → Prop
  | .returned _, u', w' => K (settle u') w'
  | .panicked ch, u', w' => K (raised u' ch) w'
  | .outgrown, _, _ => False
structure doDf (P : Program) (t : Target) (args : Array Value) (u : FrameMode) (w : World) (K : FrameMode → World → Prop) : Prop where
  out : u ≠ .run ∧ ∃ f ars, (invoke t args).run P w = .ok (.enter f ars) w ∧ CallsDIn Fence.wide 0 P f ars u w (dfPost K)
def leaveD (P : Program) (fn : Func) (tmps : Array Value) (R : EW) : List Deferred → FrameMode → World → Prop
  | [], u, w => doEnd u (resL P tmps w fn.results.toList fun vs => R (.returned (one vs)) w) (fun ch => R (.panicked ch) w)
  | d :: ds, u, w =>
    match d.target with
    | .collected r => u ≠ .run ∧ w.heap[r]? = some (.deferred (some [])) ∧ leaveD P fn tmps R ds u (w.putObj r (.deferred none))
    | .fn fv cap => doDf P (.fn fv cap) d.args u w fun u' w' => leaveD P fn tmps R ds u' w'
    | _ => False
theorem leaveD_sound {P : Program} {fn : Func} {tmps : Array Value} {R : EW} : ∀ {ds : List Deferred} {u : FrameMode} {w : World}, leaveD P fn tmps R ds u w → LeavesInM Fence.wide 0 P fn tmps R ds u w
  | [], u, w, h => by
    have h := h.out
    cases u with
    | run => exact h.elim
    | returning =>
      obtain ⟨vs, hF, hr⟩ := results_of_resL h
      exact ⟨_, hr, hF⟩
    | panicking ch => exact h
  | d :: ds, u, w, h => by
    simp only [leaveD] at h
    split at h
    · rename_i r hd
      exact ⟨h.1, .inl ⟨r, _, hd, run_takeDeferred h.2.1, leaveD_sound h.2.2⟩⟩
    · rename_i fv cap hd
      obtain ⟨hu, f, ars, hr, hc⟩ := h.out
      refine ⟨hu, .inr ⟨fun hx => by simp [Fence.wide] at hx, fv, cap, f, ars, hd, by rw [hd]; exact hr, fun _ _ => trivial, ?_⟩⟩
      refine CallsDIn.mono hc fun e u' w' he => ?_
      cases e with
      | returned v => exact leaveD_sound he
      | panicked ch => exact leaveD_sound he
      | outgrown => exact he.elim
    · exact h.elim
def QfnD (P : Program) (fn : Func) (R : EW) : Exit → Act → World → Prop
  | .normal, a, w => leaveD P fn a.tmps R a.defers .returning w
  | .ret, a, w => leaveD P fn a.tmps R a.defers .returning w
  | _, _, _ => False
theorem calls_of_evD {P : Program} {ann : Nat → List (Nat × Value)} {f : FuncId} {fn : Func} {c : Code} {args : Array Value} {w : World} {R : EW} (n : Nat)
    (hm : P.follows .mixedOrders = true) (hf : P.funcs[f]? = some fn) (hb : fn.body = some c)
    (h : ev P ann none (fun ch a w => leaveD P fn a.tmps R a.defers (.panicking ch) w) (fun _ _ _ => False) n 0 c (QfnD P fn R) { tmps := args ++ Array.replicate (fn.ntmps - args.size) undef, defers := [] } w) : Calls P f args w R := by
  refine (callsIn_wide (n := 0)).1 (callsIn_of_wp_marks hf hb trivial (wpIn_mono (ev_sound (Kd := fun _ _ _ => False) (fun _ _ _ h => h.elim) hm n 0 c _ _ w h) ?_))
  intro e a' w' he
  cases e with
  | normal => exact leaveD_sound he.1
  | ret => exact leaveD_sound he.1
  | panic ch => exact leaveD_sound he
  | outgrown => exact he.elim
  | exit id => exact he.1.elim
  | goto l => exact he.1.elim
theorem calls_of_evN {P : Program} {ann : Nat → List (Nat × Value)} {f : FuncId} {fn : Func} {c : Code} {args : Array Value} {w : World} {R : EW} (n : Nat)
    (hm : P.follows .mixedOrders = true) (hf : P.funcs[f]? = some fn) (hb : fn.body = some c) (hr : fn.results.toList = [])
    (h : ev P ann none (fun ch a w => leaveD P fn a.tmps R a.defers (.panicking ch) w) (fun ch ds w => leaveD P fn #[] R ds (.panicking ch) w) n 0 c (QfnD P fn R) { tmps := args ++ Array.replicate (fn.ntmps - args.size) undef, defers := [] } w) : Calls P f args w R := by
  have hK : ∀ (ds : List Deferred) (u : FrameMode) (w : World) (t t' : Array Value), leaveD P fn t R ds u w → leaveD P fn t' R ds u w := by
    intro ds
    induction ds with
    | nil =>
      intro u w t t' h
      have h := h.out
      refine ⟨?_⟩
      cases u with
      | run => exact h
      | returning => rw [hr] at h ⊢; exact h
      | panicking ch => exact h
    | cons d ds ih =>
      intro u w t t' h
      simp only [leaveD] at h ⊢
      split at h
      · exact ⟨h.1, h.2.1, ih _ _ _ _ h.2.2⟩
      · obtain ⟨h1, f, ars, h2, h3⟩ := h.out
        refine ⟨h1, f, ars, h2, CallsDIn.mono h3 fun e u' w' he => ?_⟩
        cases e with
        | returned v => exact ih _ _ _ _ he
        | panicked ch => exact ih _ _ _ _ he
        | outgrown => exact he
      · exact h
  refine (callsIn_wide (n := 0)).1 (callsIn_of_wp_marks hf hb trivial (wpIn_mono (ev_sound (fun _ _ _ h => hK _ _ _ _ _ h) hm n 0 c _ _ w h) ?_))
  intro e a' w' he
  cases e with
  | normal => exact leaveD_sound he.1
  | ret => exact leaveD_sound he.1
  | panic ch => exact leaveD_sound he
  | outgrown => exact he.elim
  | exit id => exact he.1.elim
  | goto l => exact he.1.elim
theorem calls_of_eqN {P : Program} {ann : Nat → List (Nat × Value)} {f : FuncId} {fn : Func} {c : Code} {args : Array Value} {w : World} {R : EW} {X : Prop} (n : Nat)
    (hm : P.follows .mixedOrders = true) (hf : P.funcs[f]? = some fn) (hb : fn.body = some c) (hr : fn.results.toList = [])
    (e : ev P ann none (fun ch a w => leaveD P fn a.tmps R a.defers (.panicking ch) w) (fun ch ds w => leaveD P fn #[] R ds (.panicking ch) w) n 0 c (QfnD P fn R) { tmps := args ++ Array.replicate (fn.ntmps - args.size) undef, defers := [] } w = X) : X → Calls P f args w R :=
  fun h => calls_of_evN n hm hf hb hr (e ▸ h)
theorem calls_of_eqD {P : Program} {ann : Nat → List (Nat × Value)} {f : FuncId} {fn : Func} {c : Code} {args : Array Value} {w : World} {R : EW} {X : Prop} (n : Nat)
    (hm : P.follows .mixedOrders = true) (hf : P.funcs[f]? = some fn) (hb : fn.body = some c)
    (e : ev P ann none (fun ch a w => leaveD P fn a.tmps R a.defers (.panicking ch) w) (fun _ _ _ => False) n 0 c (QfnD P fn R) { tmps := args ++ Array.replicate (fn.ntmps - args.size) undef, defers := [] } w = X) : X → Calls P f args w R :=
  fun h => calls_of_evD n hm hf hb (e ▸ h)
theorem callsD_of_ev {P : Program} {ann : Nat → List (Nat × Value)} {f : FuncId} {fn : Func} {c : Code} {args : Array Value} {u : FrameMode} {w : World} {R : EW} (n : Nat)
    (hm : P.follows .mixedOrders = true) (hf : P.funcs[f]? = some fn) (hb : fn.body = some c)
    (h : ev P ann none (fun ch a w => a.defers = [] ∧ R (.panicked ch) w) (fun _ _ _ => False) n 0 c
      (fun e a w => match e with | .normal | .ret => a.defers = [] ∧ resL P a.tmps w fn.results.toList fun vs => R (.returned (one vs)) w | _ => False)
      { tmps := args ++ Array.replicate (fn.ntmps - args.size) undef, defers := [] } w) : CallsDIn Fence.wide 0 P f args u w fun e u' w' => u' = u ∧ R e w' := by
  refine callsDIn_of_wp hf hb trivial (wpIn_mono (ev_sound (Kd := fun _ _ _ => False) (fun _ _ _ h => h.elim) hm n 0 c _ _ w h) ?_)
  intro e a' w' he
  cases e with
  | normal =>
    obtain ⟨⟨hd, h⟩, _⟩ := he
    obtain ⟨vs, hF, hr⟩ := results_of_resL h
    exact ⟨hd, _, hr, hF⟩
  | ret =>
    obtain ⟨⟨hd, h⟩, _⟩ := he
    obtain ⟨vs, hF, hr⟩ := results_of_resL h
    exact ⟨hd, _, hr, hF⟩
  | panic ch => exact he
  | outgrown => exact he.elim
  | exit id => exact he.1.elim
  | goto l => exact he.1.elim
theorem callsD_of_eq {P : Program} {ann : Nat → List (Nat × Value)} {f : FuncId} {fn : Func} {c : Code} {args : Array Value} {u : FrameMode} {w : World} {R : EW} {X : Prop} (n : Nat)
    (hm : P.follows .mixedOrders = true) (hf : P.funcs[f]? = some fn) (hb : fn.body = some c)
    (e : ev P ann none (fun ch a w => a.defers = [] ∧ R (.panicked ch) w) (fun _ _ _ => False) n 0 c
      (fun e a w => match e with | .normal | .ret => a.defers = [] ∧ resL P a.tmps w fn.results.toList fun vs => R (.returned (one vs)) w | _ => False)
      { tmps := args ++ Array.replicate (fn.ntmps - args.size) undef, defers := [] } w = X) : X → CallsDIn Fence.wide 0 P f args u w fun e u' w' => u' = u ∧ R e w' :=
  fun h => callsD_of_ev n hm hf hb (e ▸ h)
theorem callsDIn_of_wpS {P : Program} {f : FuncId} {fn : Func} {c : Code} {args : Array Value} {u : FrameMode} {w : World} {R : Ending → FrameMode → World → Prop}
    (hf : P.funcs[f]? = some fn) (hb : fn.body = some c)
    (h : ∀ (c₀ : Frame) (cs : List Frame), c₀.mode = u →
      c.wpS P (bodyPostS P fn c₀ cs R) { tmps := args ++ Array.replicate (fn.ntmps - args.size) undef, defers := [] } (c₀ :: cs) w) :
    CallsDIn Fence.wide 0 P f args u w R := by
  refine ⟨trivial, fun c₀ cs hu _ => ?_⟩
  let b : Frame := { (default : Frame) with fn := f, kind := .deferred }
  have henter : Frame.enter P f args .deferred =
      b.at { tmps := args ++ Array.replicate (fn.ntmps - args.size) undef, defers := [] } [.code c] := by
    simp [Frame.enter, Frame.at, hf, hb, b]
  obtain ⟨e, a', cs', w', hq, harr⟩ := h c₀ cs hu b [] rfl rfl
  rw [← henter] at harr
  cases e with
  | normal =>
    obtain ⟨hd, u', rfl, v, hr, hR⟩ := hq
    exact ⟨.returned v, u', w', _, hR, comesIn_wide.2 (Steps.trans harr (.one step_end)), rfl, rfl, rfl, hd, fn, hf, hr⟩
  | ret =>
    obtain ⟨hd, u', rfl, v, hr, hR⟩ := hq
    obtain ⟨todo, hs⟩ := harr
    exact ⟨.returned v, u', w', _, hR, comesIn_wide.2 hs, rfl, rfl, rfl, hd, fn, hf, hr⟩
  | panic chain =>
    obtain ⟨hd, u', rfl, hR⟩ := hq
    obtain ⟨todo, hs⟩ := harr
    exact ⟨.panicked chain, u', w', _, hR, comesIn_wide.2 hs, rfl, rfl, rfl, hd, fn, hf⟩
  | exit id => exact hq.elim
  | goto l => exact hq.elim
  | outgrown =>
    obtain ⟨u', hR⟩ := hq
    exact ⟨.outgrown, u', w', b, hR, comesIn_wide.2 (harr.resolve_left (by simp [b])), rfl, rfl, trivial⟩

def rdPost (l : Nat) (R : EW) : Exit → Act → World → Prop
  | .normal, _, w => ∃ r, w.heap[l]? = some (.loop r) ∧ R (.returned (.bool true)) (w.putObj l (.loop { r with state := .ready, pending := none }))
  | .ret, _, w => ∃ r, w.heap[l]? = some (.loop r) ∧ R (.returned (.bool false)) (w.putObj l (.loop { r with state := .done, pending := some .ret }))
  | .exit id, _, w => ∃ r, w.heap[l]? = some (.loop r) ∧ R (.returned (.bool false)) (w.putObj l (.loop { r with state := .done, pending := some (.exit id) }))
  | _, _, _ => False
def evRound (P : Program) (ann : Nat → List (Nat × Value)) (l n : Nat) (ps : Array Tmp) (ars body : Code) (tmps : Array Value) (args : Array Value) (R : EW) (w : World) : Prop :=
  ev P ann (some l) (fun _ _ _ => False) (fun _ _ _ => False) n 0 ars
    (Exit.then (fun a₁ w₁ => ∃ r, w₁.heap[l]? = some (.loop r) ∧ r.state = .ready ∧
      ev P ann (some l) (fun _ _ _ => False) (fun _ _ _ => False) n 0 body (rdPost l R) a₁ (w₁.putObj l (.loop { r with state := .busy }))) (fun _ _ _ => False))
    { tmps := (ps.zip args).foldl (fun tmps (t, a) => tmps.setIfInBounds t a) tmps, defers := [] } w
theorem call_of_round {P : Program} {ann : Nat → List (Nat × Value)} {l : Nat} {r : Loop} {args : Array Value} {w : World} {R : EW} (n : Nat)
    (hm : P.follows .mixedOrders = true) (hl : w.heap[l]? = some (.loop r)) (hs : args.size = r.params.size)
    (h : evRound P ann l n r.params r.assign r.body r.tmps args R w) : callV P (.func (.yield l) #[] #[]) args w R := by
  have hi : (invoke (.fn (.yield l) #[]) (#[] ++ args)).run P w = .ok (.round l r.fn ((r.params.zip args).foldl (fun tmps (t, a) => tmps.setIfInBounds t a) r.tmps) r.assign r.body) w := by
    rw [Array.empty_append]
    exact run_yield hl hs
  simp only [callV, goV, hi]
  refine roundIn_of_wpIn trivial (wpIn_mono (ev_sound (Kp := fun _ _ _ => False) (Kd := fun _ _ _ => False) (fun _ _ _ h => h) hm n 0 _ _ _ _ h) ?_)
  intro e a₁ w₁ he
  cases e with
  | normal =>
    obtain ⟨⟨r₁, h1, h2, h3⟩, _⟩ := he
    refine ⟨_, run_beginRound h1 h2, wpIn_mono (ev_sound (Kp := fun _ _ _ => False) (Kd := fun _ _ _ => False) (fun _ _ _ h => h) hm n 0 _ _ _ _ h3) ?_⟩
    intro e a₂ w₂ he
    cases e with
    | normal => obtain ⟨⟨r₂, h4, h5⟩, _⟩ := he; exact ⟨_, _, run_endRound none h4, h5⟩
    | ret => obtain ⟨⟨r₂, h4, h5⟩, _⟩ := he; exact ⟨_, _, run_endRound (some .ret) h4, h5⟩
    | exit id => obtain ⟨⟨r₂, h4, h5⟩, _⟩ := he; exact ⟨_, _, run_endRound (some (.exit id)) h4, h5⟩
    | goto l => exact he.1.elim
    | panic ch => exact he
    | outgrown => exact he
  | exit id => exact he.1
  | goto l => exact he.1
  | ret => exact he.1
  | panic ch => exact he
  | outgrown => exact he
theorem round_of_eq {P : Program} {ann : Nat → List (Nat × Value)} {l fn D : Nat} {ps : Array Tmp} {ars body : Code} {tmps : Array Value} {args : Array Value} {w : World} {R : EW} {X : Prop} (n : Nat)
    (hm : P.follows .mixedOrders = true) (hl : w.heap[l]? = some (.loop (mkLoop tmps ps ars body fn D))) (hs : args.size = ps.size)
    (e : evRound P ann l n ps ars body tmps args R w = X) : X → callV P (.func (.yield l) #[] #[]) args w R :=
  fun h => call_of_round n hm hl hs (e ▸ h)
theorem goV_func {P : Program} {f : FuncId} {cap args : Array Value} {w : World} {R : EW}
    (he : (callFunc f (args ++ cap)).run P w = .ok (.enter f (args ++ cap)) w) (h : Calls P f (args ++ cap) w R) : goV P (.fn (.func f) cap) args w R := by
  unfold goV
  rw [show (invoke (.fn (.func f) cap) args).run P w = .ok (.enter f (args ++ cap)) w from he]
  exact h
theorem callV_func {P : Program} {f : FuncId} {first cap args : Array Value} {w : World} {R : EW}
    (he : ∀ ars w, (callFunc f ars).run P w = .ok (.enter f ars) w) (h : Calls P f (first ++ args ++ cap) w R) : callV P (.func (.func f) first cap) args w R :=
  goV_func (he _ _) h
theorem callE_func {P : Program} {f : FuncId} {first cap args : Array Value} {w : World} {R : EW}
    (he : ∀ ars w, (callFunc f ars).run P w = .ok (.enter f ars) w) (h : Calls P f (first ++ args ++ cap) w R) : callE P (.func (.func f) first cap) args w R := by
  unfold callE
  simp only
  rw [show (invoke (.fn (.func f) cap) (first ++ args)).run P w = .ok (.enter f (first ++ args ++ cap)) w from he _ _]
  exact h
def bodyOf (fn : Func) : Code := fn.body.getD .skip
def rfsC : Code → List (Array Tmp × Code × Code)
  | .rangeFunc _ ps ars body => (ps, ars, body) :: rfsC body
  | .seq a b => rfsC a ++ rfsC b
  | .cond _ a b => rfsC a ++ rfsC b
  | .block _ b => rfsC b
  | .loop b => rfsC b
  | .scope b => rfsC b
  | _ => []
def rfOf (fn : Func) (i : Nat) : Array Tmp × Code × Code := (rfsC (bodyOf fn)).getD i (#[], .skip, .skip)
def bAnd (k : IntKind) (x y : Int) : Int := k.wrap (BitVec.ofInt k.bits x &&& BitVec.ofInt k.bits y).toNat
def bOr (k : IntKind) (x y : Int) : Int := k.wrap (BitVec.ofInt k.bits x ||| BitVec.ofInt k.bits y).toNat
def bXor (k : IntKind) (x y : Int) : Int := k.wrap (BitVec.ofInt k.bits x ^^^ BitVec.ofInt k.bits y).toNat
def bAndNot (k : IntKind) (x y : Int) : Int := k.wrap (BitVec.ofInt k.bits x &&& ~~~ BitVec.ofInt k.bits y).toNat
end Go.Sh

