/-
  The evaluator, regions: in order, and in whatever order. No claim of its own.
-/
import Derived.Test.YtmkpkmdnapccgaaGreatDoorZ00

set_option maxRecDepth 100000
set_option maxHeartbeats 6400000
namespace Go.Sh
open Go

def like0N : Value → (Value → Prop) → Prop
  | .nilFunc, F => (∃ f x c, F (.func f x c)) ∨ F .nilFunc
  | z, F => like0 z F
theorem like0N_some {z : Value} {F : Value → Prop} (h : like0N z F) : ∃ v, F v := by
  cases z <;> simp only [like0N] at h <;> first
    | exact like0_some h
    | (rcases h with ⟨f, x, c, h⟩ | h <;> exact ⟨_, h⟩)
def ld0N (Rd : Addr → Value → Prop) (z : Value) (a : Addr) (K : Value → Prop) : Prop := like0N z fun v => Rd a v ∧ K v
def ldLN (Rd : Addr → Value → Prop) : List Value → Addr → Nat → (List Value → Prop) → Prop
  | [], _, _, K => K []
  | z :: zs, a, i, K => ld0N Rd z (a.add i) fun v => ldLN Rd zs a (i + 1) fun vs => K (v :: vs)
def ldAN (P : Program) (Rd : Addr → Value → Prop) (t : TypeId) (a : Addr) (z : Value) (K : Value → Prop) : Prop :=
  match z with
  | .agg cs => withSize P t fun n => if n = cs.toList.length then ldLN Rd cs.toList a 0 fun vs => K (.agg vs.toArray) else False
  | _ => False
def ldWN (P : Program) (Rd : Addr → Value → Prop) (t : TypeId) (a : Addr) (K : Value → Prop) : Prop :=
  match P.underlying t with
  | some (.struct _) => ldAN P Rd t a (zeroOf P t) K
  | some (.array _ _) => ldAN P Rd t a (zeroOf P t) K
  | some _ => ld0N Rd (zeroOf P t) a K
  | none => False
theorem ld0N_sound {Rd : Addr → Value → Prop} {z : Value} {a : Addr} {K : Value → Prop} (h : ld0N Rd z a K) : ∃ v, Rd a v ∧ K v := like0N_some h
theorem ldLN_sound {Rd : Addr → Value → Prop} : ∀ {zs : List Value} {a : Addr} {i : Nat} {K : List Value → Prop}, ldLN Rd zs a i K →
    ∃ vs, vs.length = zs.length ∧ K vs ∧ ∀ j v, vs[j]? = some v → Rd (a.add (i + j)) v
  | [], _, _, _, h => ⟨[], rfl, h, by simp⟩
  | z :: zs, a, i, K, h => by
    obtain ⟨v, hv, h⟩ := ld0N_sound h
    obtain ⟨vs, hl, hK, hr⟩ := ldLN_sound h
    refine ⟨v :: vs, by simp [hl], hK, fun j u hj => ?_⟩
    cases j with
    | zero => simp only [List.getElem?_cons_zero, Option.some.injEq] at hj; subst hj; exact hv
    | succ j => have := hr j u (by simpa using hj); rwa [show i + (j + 1) = i + 1 + j by omega]
theorem ldAN_sound {P : Program} {Rd : Addr → Value → Prop} {t : TypeId} {a : Addr} {z : Value} {K : Value → Prop} (h : ldAN P Rd t a z K) :
    ∃ cs : List Value, K (.agg cs.toArray) ∧ (∀ w, (sizeOf t).run P w = .ok cs.length w) ∧ ∀ j v, cs[j]? = some v → Rd (a.add j) v := by
  unfold ldAN at h
  split at h
  · obtain ⟨n, h, hs⟩ := withSize_sound h
    split at h
    · rename_i cs hn
      obtain ⟨vs, hl, hK, hr⟩ := ldLN_sound h
      exact ⟨vs, hK, by rw [hl, ← hn]; exact hs, fun j v hj => by simpa using hr j v hj⟩
    · exact h.elim
  · exact h.elim
theorem ldWN_sound {P : Program} {Rd : Addr → Value → Prop} {t : TypeId} {a : Addr} {K : Value → Prop} (h : ldWN P Rd t a K) :
    ∃ v, K v ∧ ∀ w : World, (∀ a v, Rd a v → w.cell? a = some v) → (Instr.loadAt t (.pointer (some a))).run P w = .ok v w := by
  unfold ldWN at h
  split at h
  · rename_i fs hu
    obtain ⟨cs, hK, hs, hr⟩ := ldAN_sound h
    exact ⟨_, hK, fun w hw => by simp [Instr.loadAt, Instr.sureAddr, loadVar, isAgg, run_underlying hu, hs w, run_loadCells_list w a cs fun j v hj => hw _ _ (hr j v hj)]⟩
  · rename_i len e hu
    obtain ⟨cs, hK, hs, hr⟩ := ldAN_sound h
    exact ⟨_, hK, fun w hw => by simp [Instr.loadAt, Instr.sureAddr, loadVar, isAgg, run_underlying hu, hs w, run_loadCells_list w a cs fun j v hj => hw _ _ (hr j v hj)]⟩
  · rename_i d h1 h2 hu
    obtain ⟨v, hv, hK⟩ := ld0N_sound h
    refine ⟨v, hK, fun w hw => ?_⟩
    have hag : (isAgg t).run P w = .ok false w := by
      cases d <;> first | (exact absurd rfl (h1 _)) | (exact absurd rfl (h2 _ _)) | simp [isAgg, run_underlying hu]
    simp [Instr.loadAt, Instr.sureAddr, loadVar, hag, hw a v hv]
  · exact h.elim
def isLd (o : Op) : Bool := match o with | .load .. => true | _ => false
def ldNW (P : Program) (o : Oper) (ρ : Operand → Value) (w : World) (K : Value → World → Prop) : Prop :=
  match o.op with
  | .load t x => match ρ x with | .pointer (some a) => ldWN P (fun a v => w.cell? a = some v) t a fun v => K v w | _ => False
  | _ => False
def exec1N (P : Program) (o : Oper) (ρ : Operand → Value) (w : World) (K : Value → World → Prop) (Kp : List PanicEntry → World → Prop) : Prop :=
  cond (isLd o.op) (ldNW P o ρ w K) (exec1 P o ρ w K Kp)
theorem exec1N_sound {P : Program} {o : Oper} {ρ : Operand → Value} {w : World} {K : Value → World → Prop} {Kp : List PanicEntry → World → Prop}
    (h : exec1N P o ρ w K Kp) : Gives P ((execOp ρ o).run P w) K Kp := by
  unfold exec1N at h
  cases hl : isLd o.op <;> rw [hl] at h
  · exact exec1_sound h
  · have h2 : ldNW P o ρ w K := h
    clear h
    obtain ⟨dst, op, ty, pos, after, guard⟩ := o
    cases op <;> simp only [isLd] at hl <;> first | (cases hl; done) | skip
    rename_i t x
    have h3 : (match ρ x with | .pointer (some a) => ldWN P (fun a v => w.cell? a = some v) t a fun v => K v w | _ => False : Prop) := h2
    split at h3
    · rename_i a ha
      obtain ⟨v, hK, hr⟩ := ldWN_sound h3
      refine Gives.of_eq (r' := .ok (.value v) w) ?_ hK
      refine run_v ?_
      rw [ha]; exact hr w fun _ _ h => h
    · exact h3.elim

theorem put_same {a : Act} {d : Nat} {v : Value} (h : a.tmps.getD d undef = v) : a.put (some d) v = a := by
  subst h
  obtain ⟨t, ds⟩ := a
  simp only [Act.put, Act.mk.injEq, and_true]
  apply Array.ext
  · simp
  · intro i h1 h2
    by_cases hi : d = i
    · subst hi; simp [h2]
    · rw [Array.getElem_setIfInBounds h2]; simp [hi]
def forceL : List Value → (List Value → Prop) → Prop
  | [], k => k []
  | v :: vs, k => forceL vs fun vs' => k (v :: vs')
theorem forceL_eq : ∀ (l : List Value) (k : List Value → Prop), forceL l k = k l
  | [], _ => rfl
  | v :: vs, k => forceL_eq vs fun vs' => k (v :: vs')
def forceA (a : Act) (k : Act → Prop) : Prop := forceL a.tmps.toList fun l => k { tmps := l.toArray, defers := a.defers }
theorem forceA_eq (a : Act) (k : Act → Prop) : forceA a k = k a := forceL_eq _ _
def guardW (ops : Array Oper) (o : Oper) (a : Act) (X Y : Act → Prop) : Prop :=
  match o.guard with
  | none => X a
  | some (j, want) =>
    match (ops[j]?).bind (·.dst) with
    | none => Y a
    | some d =>
      match a.tmps.getD d undef with
      | .bool b => ifB b (cond want (X (a.put (some d) (.bool true))) (Y (a.put (some d) (.bool true)))) (cond want (Y (a.put (some d) (.bool false))) (X (a.put (some d) (.bool false))))
      | _ => Y a
theorem guardW_sound {ops : Array Oper} {o : Oper} {a : Act} {X Y : Act → Prop} (h : guardW ops o a X Y) :
    (Region.wanted o (yielded ops a.tmps) = true ∧ X a) ∨ (Region.wanted o (yielded ops a.tmps) = false ∧ Y a) := by
  unfold guardW at h
  split at h
  · rename_i hg; exact .inl ⟨by simp [Region.wanted, hg], h⟩
  · rename_i j want hg
    split at h
    · rename_i hd
      refine .inr ⟨?_, h⟩
      simp [Region.wanted, hg, yielded, hd]
    · rename_i d hd
      split at h
      · rename_i b hb
        have hlt : d < a.tmps.size := by
          rcases Nat.lt_or_ge d a.tmps.size with h' | h'
          · exact h'
          · simp [Array.getD, Nat.not_lt.2 h', undef] at hb
        have hy : yielded ops a.tmps j = some b := by
          have : a.tmps[d]? = some (.bool b) := by
            simp only [Array.getD, hlt, dite_true] at hb
            rw [Array.getElem?_eq_getElem hlt]; exact congrArg some hb
          simp [yielded, hd, this]
        have hw : Region.wanted o (yielded ops a.tmps) = (b == want) := by
          simp only [Region.wanted, hg, hy]
          cases b <;> cases want <;> rfl
        rw [hw]
        rcases ifB_cases h with ⟨rfl, h⟩ | ⟨rfl, h⟩
        · rw [put_same hb] at h
          cases want
          · exact .inr ⟨rfl, h⟩
          · exact .inl ⟨rfl, h⟩
        · rw [put_same hb] at h
          cases want
          · exact .inl ⟨rfl, h⟩
          · exact .inr ⟨rfl, h⟩
      · rename_i hne
        refine .inr ⟨?_, h⟩
        have hy : yielded ops a.tmps j = none := by
          simp only [yielded, hd, Option.bind_some]
          split
          · rename_i b hb
            refine absurd ?_ (hne b)
            simp [Array.getD_eq_getD_getElem?, hb]
          · rfl
        simp [Region.wanted, hg, hy]

def evOps (P : Program) (ops : Array Oper) (K : Act → World → Prop) (Kp : List PanicEntry → List Deferred → World → Prop) : List Nat → Act → World → Prop
  | [], a, w => K a w
  | i :: rest, a, w =>
    match ops[i]? with
    | none => evOps P ops K Kp rest a w
    | some o => guardW ops o a
        (fun a' => exec1N P o a'.eval w (fun v w' => forceA (a'.put o.dst v) fun a'' => evOps P ops K Kp rest a'' w') (fun ch w' => Kp ch a'.defers w'))
        (fun a' => forceA (a'.put o.dst undef) fun a'' => evOps P ops K Kp rest a'' w)
def full (Q : Exit → Act → World → Prop) (Kp : List PanicEntry → List Deferred → World → Prop) : Exit → Act → World → Prop
  | .panic ch, a, w => Kp ch a.defers w
  | .outgrown, _, _ => False
  | e, a, w => Q e a w
def allND (ops : Array Oper) : Bool := ops.toList.all noDefer
theorem allND_spec {ops : Array Oper} (h : allND ops = true) {i : Nat} {o : Oper} (ho : ops[i]? = some o) : noDefer o = true := by
  have := List.all_eq_true.1 h o (by
    have := Array.mem_of_getElem? ho
    simpa using this)
  exact this
structure Fr (ms : List Nat) (a a' : Act) : Prop where
  defers : a'.defers = a.defers
  size : a'.tmps.size = a.tmps.size
  same : ∀ i, i ∉ ms → a'.tmps[i]? = a.tmps[i]?
theorem Fr.refl (ms : List Nat) (a : Act) : Fr ms a a := ⟨rfl, rfl, fun _ _ => rfl⟩
theorem Fr.trans {ms : List Nat} {a b c : Act} (h : Fr ms a b) (k : Fr ms b c) : Fr ms a c :=
  ⟨k.defers.trans h.defers, k.size.trans h.size, fun i hi => (k.same i hi).trans (h.same i hi)⟩
theorem Fr.put {ms : List Nat} {a : Act} {d : Option Tmp} {v : Value} (h : ∀ t, d = some t → t ∈ ms) : Fr ms a (a.put d v) := by
  cases d with
  | none => exact .refl _ _
  | some d =>
    refine ⟨rfl, by simp [Act.put], fun i hi => ?_⟩
    have hne : d ≠ i := fun e => hi (e ▸ h d rfl)
    simp [Act.put, Array.getElem?_setIfInBounds_ne hne]
theorem Fr.mono {ms ms' : List Nat} {a b : Act} (h : Fr ms a b) (hm : ∀ i, i ∈ ms → i ∈ ms') : Fr ms' a b :=
  ⟨h.defers, h.size, fun i hi => h.same i fun hi' => hi (hm i hi')⟩
def dstsIn (ops : Array Oper) : List Nat := ops.toList.filterMap (·.dst)
theorem dstsIn_spec {ops : Array Oper} {i : Nat} {o : Oper} (ho : ops[i]? = some o) : ∀ t, o.dst = some t → t ∈ dstsIn ops := fun t ht =>
  List.mem_filterMap.2 ⟨o, by have := Array.mem_of_getElem? ho; simpa using this, ht⟩
def andFr (ms : List Nat) (a0 : Act) (Q : Exit → Act → World → Prop) : Exit → Act → World → Prop := fun e a w => Q e a w ∧ Fr ms a0 a
theorem evOps_sound {P : Program} {ro : Option Nat} {ops : Array Oper} {Q : Exit → Act → World → Prop} {Kp : List PanicEntry → List Deferred → World → Prop} {a0 : Act} (hnd : allND ops = true) :
    ∀ (l : List Nat) (a : Act) (w : World), Fr (dstsIn ops) a0 a → evOps P ops (Q .normal) Kp l a w → wpOpsIn (fen ro) 0 P ops (full (andFr (dstsIn ops) a0 Q) Kp) l a w
  | [], _, _, hf, h => ⟨h, hf⟩
  | i :: rest, a, w, hf, h => by
    simp only [evOps, forceA_eq] at h
    simp only [wpOpsIn]
    cases ho : ops[i]? with
    | none => simp only [ho] at h; exact evOps_sound hnd rest a w hf h
    | some o =>
      simp only [ho] at h
      have hfp : ∀ v, Fr (dstsIn ops) a0 (a.put o.dst v) := fun v => hf.trans (.put (dstsIn_spec ho))
      rcases guardW_sound h with ⟨hw, h⟩ | ⟨hw, h⟩
      · simp only [hw, if_true]
        refine wpIn_of_gives (allND_spec hnd ho) ?_
        have := exec1N_sound h
        generalize (execOp a.eval o).run P w = r at this
        cases r with
        | ok n w' =>
          cases n <;> simp only [Gives] at this ⊢ <;> first
            | exact evOps_sound hnd rest _ _ (hfp _) this
            | exact this.elim
            | exact Calls.mono this fun e w'' he => by cases e <;> first | exact evOps_sound hnd rest _ _ (hfp _) he | exact he
            | exact RowsIn.mono this fun v w'' he => evOps_sound hnd rest _ _ (hfp _) he
            | exact RoundIn.mono this fun e w'' he => by cases e <;> first | exact evOps_sound hnd rest _ _ (hfp _) he | exact he
        | halt x w' => cases x <;> simp only [Gives] at this ⊢ <;> exact this
      · simp only [hw, Bool.false_eq_true, if_false]
        exact ⟨fun _ _ => trivial, evOps_sound hnd rest _ _ (hfp _) h⟩

def defW (c : Call) (ρ : Operand → Value) (K : Deferred → Prop) : Prop :=
  match c.callee with
  | .value f => match ρ f with | .func fn first cap => K { target := .fn fn cap, args := first ++ c.args.map ρ } | _ => False
  | .invoke r m => K { target := .fn (.method m) #[], args := #[ρ r] ++ c.args.map ρ }
  | _ => False
theorem defW_sound {P : Program} {c : Call} {ρ : Operand → Value} {K : Deferred → Prop} (h : defW c ρ K) (t : TypeId) : ∃ d, K d ∧ ∀ w, (resolve ρ c t).run P w = .ok d w := by
  obtain ⟨callee, args, ts⟩ := c
  unfold defW at h
  split at h
  · rename_i f hc
    simp only at hc; subst hc
    split at h
    · rename_i fn first cap hf
      exact ⟨_, h, fun w => by simp [resolve, hf, Deferred.ofValue]⟩
    · exact h.elim
  · rename_i r m hc
    simp only at hc; subst hc
    exact ⟨_, h, fun w => by simp [resolve]⟩
  · exact h.elim
theorem semAt_nd {ro : Option Nat} {ops : Array Oper} (hnd : allND ops = true ∨ ro = none) {i : Nat} {o : Oper} (ho : ops[i]? = some o) (ρ : Operand → Value) : Oper.semAt (fen ro).round ρ o = execOp ρ o := by
  rcases hnd with hnd | rfl
  · exact Oper.semAt_eq _ _ _ (fun c hc => by have := allND_spec hnd ho; simp [noDefer, hc] at this)
  · rfl
def andFrD (nd : Bool) (ms : List Nat) (a0 : Act) (Q : Exit → Act → World → Prop) : Exit → Act → World → Prop := fun e a w => Q e a w ∧ (nd = true → Fr ms a0 a)
def isLoad (o : Op) : Bool := match o with | .load .. => true | _ => false
def predsOf (ops : Array Oper) (k : Nat) : List Nat := ((ops[k]?).map fun o => (o.after.toList.filter fun e => Region.binds .any e).map (·.on)).getD []
def ancGo (ops : Array Oper) : Nat → List Nat → List Nat
  | 0, S => S
  | k + 1, S => ancGo ops k (cond (S.contains k) (predsOf ops k ++ S) S)
def anc (ops : Array Oper) (j : Nat) : List Nat := ancGo ops j (predsOf ops j)
def needC (ops : Array Oper) (j : Nat) : Bool :=
  (List.range ops.size).any fun i =>
    ((ops[i]?).map fun o => isLoad o.op).getD false && i != j && !(anc ops j).contains i
def Cl (ops : Array Oper) (listed : Array Bool) : Prop := ∀ j, listed.getD j false = true → ∀ i ∈ predsOf ops j, listed.getD i false = true
theorem mem_preds {ops : Array Oper} {k i : Nat} : i ∈ predsOf ops k ↔ ∃ o, ops[k]? = some o ∧ ∃ e ∈ o.after, Region.binds .any e = true ∧ e.on = i := by
  unfold predsOf
  cases ops[k]? with
  | none => simp
  | some o => simp [and_assoc]
theorem ancGo_listed {ops : Array Oper} {listed : Array Bool} (hc : Cl ops listed) : ∀ (k : Nat) (S : List Nat), (∀ i ∈ S, listed.getD i false = true) → ∀ i ∈ ancGo ops k S, listed.getD i false = true
  | 0, S, h => h
  | k + 1, S, h => by
    unfold ancGo
    cases hk : S.contains k
    · exact ancGo_listed hc k S h
    · refine ancGo_listed hc k _ fun i hi => ?_
      rcases List.mem_append.1 hi with hi | hi
      · exact hc k (h k (by simpa using hk)) i hi
      · exact h i hi
def YieldsC (P : Program) (ops : Array Oper) (C : World → Prop) (o : Oper) (v : Value) (a : Act) : Prop :=
  (Region.wanted o (yielded ops a.tmps) = true ∧ ∀ w, C w → (execOp a.eval o).run P w = .ok (.value v) w) ∨
  (Region.wanted o (yielded ops a.tmps) = false ∧ v = undef)
def wpAnyC (ro : Option Nat) (P : Program) (ops : Array Oper) (C : World → Prop) (Q : Exit → Act → World → Prop) : Nat → Array Bool → Act → World → Prop
  | 0, listed, a, w => Region.ready .any ops listed = [] ∧ Q .normal a w
  | fuel + 1, listed, a, w =>
    (Region.ready .any ops listed = [] → Q .normal a w) ∧
    ∀ i ∈ Region.ready .any ops listed, wpOpIn (fen ro) 0 P ops Q i (fun a' w' => (needC ops i = true → C w → C w') ∧ wpAnyC ro P ops C Q fuel (listed.setIfInBounds i true) a' w') a w
theorem wpAnyC_in {ro : Option Nat} {P : Program} {ops : Array Oper} {C : World → Prop} {Q : Exit → Act → World → Prop} :
    ∀ (fuel : Nat) (listed : Array Bool) (a : Act) (w : World), wpAnyC ro P ops C Q fuel listed a w → wpAnyIn (fen ro) 0 P .any ops Q fuel listed a w
  | 0, _, _, _, h => h
  | fuel + 1, _, _, _, h => ⟨h.1, fun i hi => wpOpIn_mono (fun a' w' h => wpAnyC_in fuel _ a' w' h.2) (h.2 i hi)⟩
section
variable {ro : Option Nat} {P : Program} {ops : Array Oper} {C : World → Prop} {Q : Exit → Act → World → Prop}
theorem YieldsC.of_same {o : Oper} {v : Value} {a a' : Act} (hy : YieldsC P ops C o v a) (he : execOp a'.eval o = execOp a.eval o)
    (hw : Region.wanted o (yielded ops a'.tmps) = Region.wanted o (yielded ops a.tmps)) : YieldsC P ops C o v a' := by
  unfold YieldsC at *
  rw [he, hw]
  exact hy
theorem YieldsC.wpOpIn {i : Nat} {o : Oper} {v : Value} {a : Act} {w : World} (hnd : allND ops = true ∨ ro = none) (hi : ops[i]? = some o) (hy : YieldsC P ops C o v a) (hC : C w)
    {K : Act → World → Prop} (h : K (a.put o.dst v) w) : wpOpIn (fen ro) 0 P ops Q i K a w := by
  unfold Go.wpOpIn
  simp only [hi]
  rcases hy with ⟨hw, hv⟩ | ⟨hw, rfl⟩
  · simp only [hw, if_true]
    refine ⟨fun _ _ => trivial, ?_⟩
    rw [semAt_nd hnd hi, hv w hC]
    exact h
  · simp only [hw, Bool.false_eq_true, if_false]; exact ⟨fun _ _ => trivial, h⟩
theorem wpOpIn_putC {j : Nat} {oi oj : Oper} {v : Value} (hnd : allND ops = true ∨ ro = none) (hj : ops[j]? = some oj) (hap : oi.apart ops oj = true)
    (hsi : ∀ cs b, oi.op ≠ .select cs b) (hsj : ∀ cs b, oj.op ≠ .select cs b)
    (hQ : ∀ c a w, Q (.panic c) (a.put oi.dst v) w → Q (.panic c) a w) {K : Act → World → Prop} {a : Act} {w : World}
    (hy : YieldsC P ops C oi v a) (h : wpOpIn (fen ro) 0 P ops Q j K (a.put oi.dst v) w) :
    wpOpIn (fen ro) 0 P ops Q j (fun a' w' => YieldsC P ops C oi v a' ∧ K (a'.put oi.dst v) w') a w := by
  obtain ⟨h1, h2, h3⟩ := Oper.apart_spec hap
  have hsem : ∀ ρ, Oper.semAt (fen ro).round ρ oj = execOp ρ oj := fun ρ => semAt_nd hnd hj ρ
  have keep : ∀ (a : Act), YieldsC P ops C oi v a → ∀ u, YieldsC P ops C oi v (a.put oj.dst u) := fun a hy u =>
    hy.of_same (execOp_put oi hsi a oj.dst u h3) (wanted_put oi a oj.dst u h3)
  have keepD : ∀ d, YieldsC P ops C oi v { a with defers := d :: a.defers } := fun d => hy.of_same rfl rfl
  unfold wpOpIn at *
  simp only [hj] at *
  rw [wanted_put oj a oi.dst v h1, about_put oj w a oi.dst v h1] at h
  split
  · rename_i hw
    simp only [hw, if_true] at h
    unfold Oper.wpIn at *
    rw [about_put oj w a oi.dst v h1] at h
    refine ⟨h.1, ?_⟩
    have h := h.2
    rw [hsem, execOp_put oj hsj a oi.dst v h1] at h
    rw [hsem]
    generalize (execOp a.eval oj).run P w = r at *
    cases r with
    | ok x w' =>
      cases x <;> simp only [Oper.uponIn] at h ⊢
      case value u => exact ⟨keep a hy u, by rw [← Act.put_comm a v u h2]; exact h⟩
      case skip => exact ⟨keep a hy _, by rw [← Act.put_comm a v undef h2]; exact h⟩
      case defer d =>
        refine ⟨keep _ (keepD d) _, ?_⟩
        rw [← Act.put_comm _ v undef h2, ← Act.put_defers]
        exact h
      case enter f args =>
        refine ⟨h.1, CallsIn.mono h.2 fun e w'' he => ?_⟩
        cases e with
        | returned u => exact ⟨keep a hy u, by rw [← Act.put_comm a v u h2]; exact he⟩
        | panicked c => exact hQ _ _ _ he
        | outgrown => exact he
      case row row args => exact ⟨h.1, RowsIn.mono h.2 fun u w'' he => ⟨keep a hy u, by rw [← Act.put_comm a v u h2]; exact he⟩⟩
      case round l f tmps assign body =>
        refine ⟨h.1, RoundIn.mono h.2 fun e w'' he => ?_⟩
        cases e with
        | returned u => exact ⟨keep a hy u, by rw [← Act.put_comm a v u h2]; exact he⟩
        | panicked c => exact hQ _ _ _ he
        | outgrown => exact he
    | halt x w' =>
      cases x <;> simp only [Oper.uponIn] at h ⊢
      case panic u => exact hQ _ _ _ h
  · rename_i hw
    simp only [hw] at h
    exact ⟨h.1, keep a hy _, by rw [← Act.put_comm a v undef h2]; exact h.2⟩
theorem Cl.set {listed : Array Bool} {j : Nat} (hc : Cl ops listed) (hj : j ∈ Region.ready .any ops listed) : Cl ops (listed.setIfInBounds j true) := fun k hk i hi => by
  obtain ⟨_, oj, hoj, hall⟩ := mem_ready.1 hj
  by_cases h : j = k
  · subst h
    obtain ⟨o, ho, e, he, hb, rfl⟩ := mem_preds.1 hi
    rw [hoj] at ho
    cases ho
    exact getD_set_true (hall e he hb)
  · rw [getD_set_ne false h] at hk
    exact getD_set_true (hc k hk i hi)
theorem Cl.init (ops : Array Oper) (n : Nat) : Cl ops (Array.replicate n false) := fun k hk i hi => by
  rw [Array.getD_eq_getD_getElem?, Array.getElem?_replicate] at hk
  split at hk <;> simp at hk
theorem not_anc {listed : Array Bool} {i j : Nat} (hc : Cl ops listed) (hj : j ∈ Region.ready .any ops listed) (hu : listed.getD i true = false) : i ∉ anc ops j := fun hi => by
  obtain ⟨_, oj, hoj, hall⟩ := mem_ready.1 hj
  have h1 := ancGo_listed hc j (predsOf ops j) (fun k hk => by
    obtain ⟨o, ho, e, he, hb, rfl⟩ := mem_preds.1 hk
    rw [hoj] at ho
    cases ho
    exact hall e he hb) i hi
  rw [Array.getD_eq_getD_getElem?] at h1 hu
  cases h : listed[i]? with
  | none => rw [h] at hu; cases hu
  | some b => rw [h] at h1 hu; simp at h1 hu; rw [h1] at hu; cases hu
theorem needC_of {i j : Nat} {oi : Oper} (hi : ops[i]? = some oi) (hl : isLoad oi.op = true) (hne : i ≠ j) (hn : i ∉ anc ops j) : needC ops j = true := by
  unfold needC
  refine List.any_eq_true.2 ⟨i, List.mem_range.2 (Array.getElem?_eq_some_iff.1 hi).1, ?_⟩
  simp [hi, hl, hne, hn]
theorem wpAnyC_first {D : World → Prop} {i : Nat} {oi : Oper} {v : Value} (hnd : allND ops = true ∨ ro = none) (hi : ops[i]? = some oi) (hsel : ∀ (j : Nat) (o : Oper) cs b, ops[j]? = some o → o.op ≠ .select cs b)
    (hQ : ∀ c a w, Q (.panic c) (a.put oi.dst v) w → Q (.panic c) a w) (hD : (∀ w, D w) ∨ (D = C ∧ isLoad oi.op = true)) :
    ∀ (fuel : Nat) (listed : Array Bool) (a : Act) (w : World), Cl ops listed →
      (∀ j oj, ops[j]? = some oj → j ≠ i → listed.getD j true = false → (∀ e ∈ oj.after, Region.binds .any e = true → e.on ≠ i) → oi.apart ops oj = true) →
      i ∈ Region.ready .any ops listed → D w → YieldsC P ops D oi v a →
      wpAnyC ro P ops C Q fuel (listed.setIfInBounds i true) (a.put oi.dst v) w → wpAnyC ro P ops C Q (fuel + 1) listed a w := by
  intro fuel
  induction fuel with
  | zero =>
    intro listed a w _ _ hr hDw hy H
    refine ⟨fun h => (by rw [h] at hr; cases hr), fun j hj => ?_⟩
    by_cases hji : j = i
    · subst hji; exact hy.wpOpIn hnd hi hDw ⟨fun _ h => h, H⟩
    · have := ready_mono hj hji
      rw [H.1] at this
      cases this
  | succ fuel ih =>
    intro listed a w hcl hfree hr hDw hy H
    refine ⟨fun h => (by rw [h] at hr; cases hr), fun j hj => ?_⟩
    by_cases hji : j = i
    · subst hji; exact hy.wpOpIn hnd hi hDw ⟨fun _ h => h, H⟩
    · have h1 := H.2 j (ready_mono hj hji)
      obtain ⟨hjun, oj, hoj, hall⟩ := mem_ready.1 hj
      have hnot : ∀ e ∈ oj.after, Region.binds .any e = true → e.on ≠ i := fun e he hb heq => by
        have h1 := hall e he hb
        have h0 := (mem_ready.1 hr).1
        rw [heq] at h1
        rcases Nat.lt_or_ge i listed.size with h' | h'
        · simp [h'] at h0 h1; rw [h0] at h1; cases h1
        · simp [Array.getElem?_eq_none h'] at h1
      have h2 := wpOpIn_putC hnd hoj (hfree j oj hoj hji hjun hnot) (fun cs b => hsel i oi cs b hi) (fun cs b => hsel j oj cs b hoj) hQ hy h1
      have hfree' : ∀ k ok, ops[k]? = some ok → k ≠ i → (listed.setIfInBounds j true).getD k true = false →
          (∀ e ∈ ok.after, Region.binds .any e = true → e.on ≠ i) → oi.apart ops ok = true := fun k ok hk hki hun hno => by
        refine hfree k ok hk hki ?_ hno
        by_cases hjk : j = k
        · subst hjk; exact hjun
        · rw [getD_set_ne true hjk] at hun; exact hun
      refine wpOpIn_mono (fun a' w' h3 => ⟨fun hn hC => h3.2.1 hn hC, ih (listed.setIfInBounds j true) a' w' (hcl.set hj) hfree' (ready_mono hr (Ne.symm hji)) ?_ h3.1 ?_⟩) h2
      · rcases hD with hD | ⟨rfl, hl⟩
        · exact hD _
        · exact h3.2.1 (needC_of hi hl (Ne.symm hji) (not_anc hcl hj (mem_ready.1 hr).1)) hDw
      · rw [Array.setIfInBounds_comm _ _ hji]
        exact h3.2.2
end
def takeW (P : Program) (o : Oper) (ρ : Operand → Value) (C : World → Prop) (K : Value → Prop) : Prop :=
  match o.op with
  | .load t x => match ρ x with | .pointer (some a) => ldWN P (fun a v => ∀ w, C w → w.cell? a = some v) t a K | _ => False
  | _ => pureW P o ρ K
def takeable (o : Op) : Bool := isPure o || isLoad o
theorem takeW_sound {P : Program} {o : Oper} {ρ : Operand → Value} {C : World → Prop} {K : Value → Prop} (h : takeW P o ρ C K) :
    ∃ v, K v ∧ ((isLoad o.op = true ∧ ∀ w, C w → (execOp ρ o).run P w = .ok (.value v) w) ∨ ∀ w, (execOp ρ o).run P w = .ok (.value v) w) := by
  unfold takeW at h
  split at h
  · rename_i t x hop
    split at h
    · rename_i a ha
      obtain ⟨v, hK, hr⟩ := ldWN_sound h
      refine ⟨v, hK, .inl ⟨by simp [isLoad, hop], fun w hC => ?_⟩⟩
      obtain ⟨dst, op, ty, pos, after, guard⟩ := o
      simp only at hop
      subst hop
      refine run_v ?_
      rw [ha]; exact hr w fun a v h => h w hC
    · exact h.elim
  · obtain ⟨v, hK, hr⟩ := pureW_sound h
    exact ⟨v, hK, .inr hr⟩
def imp (b : Bool) (p X : Prop) : Prop := cond b (p ∧ X) X
def allOf : List Nat → (Nat → Prop) → Prop
  | [], _ => True
  | i :: is, F => match is with | [] => F i | _ => F i ∧ allOf is F
theorem allOf_mem : ∀ {l : List Nat} {F : Nat → Prop}, allOf l F → ∀ i ∈ l, F i
  | [i], F, h, j, hj => by
    obtain rfl : j = i := by simpa using hj
    exact h
  | i :: k :: is, F, h, j, hj => by
    have h : F i ∧ allOf (k :: is) F := h
    rcases List.mem_cons.1 hj with rfl | hj
    · exact h.1
    · exact allOf_mem h.2 j hj
def evDraw (P : Program) (dok : Bool) (ops : Array Oper) (C : World → Prop) (K : Act → World → Prop) (Kp : List PanicEntry → List Deferred → World → Prop) : Nat → Array Bool → Act → World → Prop
  | 0, listed, a, w =>
    match Region.ready .any ops listed with
    | [] => K a w
    | _ => False
  | n + 1, listed, a, w =>
    match Region.ready .any ops listed with
    | [] => K a w
    | i :: is =>
      match (i :: is).find? fun j => ((ops[j]?).map fun o => takeable o.op).getD false && Region.free .any ops listed j with
      | some j =>
        match ops[j]? with
        | none => False
        | some o => guardW ops o a
            (fun a' => takeW P o a'.eval C fun v => forceA (a'.put o.dst v) fun a'' => evDraw P dok ops C K Kp n (listed.setIfInBounds j true) a'' w)
            (fun a' => forceA (a'.put o.dst undef) fun a'' => evDraw P dok ops C K Kp n (listed.setIfInBounds j true) a'' w)
      | none => allOf (i :: is) fun i =>
          match ops[i]? with
          | none => False
          | some o => guardW ops o a
              (fun a' => match o.op with
                | .defer c => cond dok (defW c a'.eval fun d => forceA (Act.put { tmps := a'.tmps, defers := d :: a'.defers } o.dst undef) fun a'' => evDraw P dok ops C K Kp n (listed.setIfInBounds i true) a'' w) False
                | _ => exec1N P o a'.eval w (fun v w' => imp (needC ops i) (C w') (forceA (a'.put o.dst v) fun a'' => evDraw P dok ops C K Kp n (listed.setIfInBounds i true) a'' w')) (fun ch w' => Kp ch a'.defers w'))
              (fun a' => forceA (a'.put o.dst undef) fun a'' => evDraw P dok ops C K Kp n (listed.setIfInBounds i true) a'' w)
def LoadsLeft (ops : Array Oper) (listed : Array Bool) : Prop := ∃ i o, ops[i]? = some o ∧ isLoad o.op = true ∧ listed.getD i true = false
theorem LoadsLeft.of_set {ops : Array Oper} {listed : Array Bool} {j : Nat} (h : LoadsLeft ops (listed.setIfInBounds j true)) : LoadsLeft ops listed := by
  obtain ⟨i, o, hi, hl, hu⟩ := h
  refine ⟨i, o, hi, hl, ?_⟩
  by_cases hij : j = i
  · subst hij
    rcases Nat.lt_or_ge j listed.size with h' | h'
    · simp [h'] at hu
    · simp [Nat.not_lt.2 h'] at hu
  · rwa [getD_set_ne true hij] at hu
section
variable {ro : Option Nat} {P : Program} {ops : Array Oper} {C : World → Prop} {Q : Exit → Act → World → Prop} {Kp : List PanicEntry → List Deferred → World → Prop}
theorem noLoads_of_needC {j : Nat} {listed : Array Bool} (hcl : Cl ops listed) (hj : j ∈ Region.ready .any ops listed) (hn : needC ops j = false) :
    ¬ LoadsLeft ops (listed.setIfInBounds j true) := by
  rintro ⟨i, oi, hi, hl, hu⟩
  by_cases hij : j = i
  · subst hij
    rcases Nat.lt_or_ge j listed.size with h' | h'
    · simp [h'] at hu
    · simp [Nat.not_lt.2 h'] at hu
  · rw [getD_set_ne true hij] at hu
    have := needC_of hi hl (Ne.symm hij) (not_anc hcl hj hu)
    rw [hn] at this; cases this
theorem evDraw_sound {a0 : Act} {dok : Bool} (hdok : dok = true → ro = none) (hnd : allND ops = true ∨ ro = none) (hns : Region.noSelect ops = true) : ∀ (n : Nat) (listed : Array Bool) (a : Act) (w : World), Cl ops listed → (LoadsLeft ops listed → C w) →
    (allND ops = true → Fr (dstsIn ops) a0 a) → evDraw P dok ops C (Q .normal) Kp n listed a w → wpAnyC ro P ops C (full (andFrD (allND ops) (dstsIn ops) a0 Q) Kp) n listed a w
  | 0, listed, a, w, _, _, hf, h => by
    simp only [evDraw] at h
    split at h
    · rename_i hr; exact ⟨hr, h, hf⟩
    · exact h.elim
  | n + 1, listed, a, w, hcl, hC, hf, h => by
    simp only [evDraw, forceA_eq] at h
    split at h
    · rename_i hr
      exact ⟨fun _ => ⟨h, hf⟩, by rw [hr]; simp⟩
    · rename_i i is hr
      split at h
      · rename_i j hfi
        have hjm : j ∈ Region.ready .any ops listed := by rw [hr]; exact List.mem_of_find?_eq_some hfi
        have hjp := List.find?_some hfi
        simp only [Bool.and_eq_true] at hjp
        split at h
        · exact h.elim
        · rename_i o ho
          have hfp : ∀ v, allND ops = true → Fr (dstsIn ops) a0 (a.put o.dst v) := fun v hn => (hf hn).trans (.put (dstsIn_spec ho))
          have hQ : ∀ v c a w, full (andFrD (allND ops) (dstsIn ops) a0 Q) Kp (.panic c) (a.put o.dst v) w → full (andFrD (allND ops) (dstsIn ops) a0 Q) Kp (.panic c) a w := fun v c a w hh => by
            cases hd : o.dst <;> simpa [full, Act.put, hd] using hh
          rcases guardW_sound h with ⟨hw, h⟩ | ⟨hw, h⟩
          · obtain ⟨v, hK, hv⟩ := takeW_sound h
            have hun : listed.getD j true = false := (mem_ready.1 hjm).1
            have hm := evDraw_sound hdok hnd hns n _ _ w (hcl.set hjm) (fun hl => hC hl.of_set) (hfp _) hK
            rcases hv with ⟨hl, hv⟩ | hv
            · exact wpAnyC_first (D := C) hnd ho (Region.noSelect_spec hns) (hQ v) (.inr ⟨rfl, hl⟩) n listed a w hcl (Region.free_spec ho hjp.2) hjm
                (hC ⟨j, o, ho, hl, hun⟩) (.inl ⟨hw, hv⟩) hm
            · exact wpAnyC_first (D := fun _ => True) hnd ho (Region.noSelect_spec hns) (hQ v) (.inl fun _ => trivial) n listed a w hcl (Region.free_spec ho hjp.2) hjm
                trivial (.inl ⟨hw, fun w _ => hv w⟩) hm
          · have hm := evDraw_sound hdok hnd hns n _ _ w (hcl.set hjm) (fun hl => hC hl.of_set) (hfp _) h
            exact wpAnyC_first (D := fun _ => True) hnd ho (Region.noSelect_spec hns) (hQ undef) (.inl fun _ => trivial) n listed a w hcl (Region.free_spec ho hjp.2) hjm
                trivial (.inr ⟨hw, rfl⟩) hm
      · refine ⟨fun h0 => (by rw [hr] at h0; cases h0), fun j hj => ?_⟩
        have him := hj
        rw [hr] at hj
        have h := allOf_mem h j hj
        split at h
        · exact h.elim
        · rename_i o ho
          · unfold wpOpIn
            simp only [ho]
            have next : ∀ v w', imp (needC ops j) (C w') (evDraw P dok ops C (Q .normal) Kp n (listed.setIfInBounds j true) (a.put o.dst v) w') →
                (needC ops j = true → C w → C w') ∧ wpAnyC ro P ops C (full (andFrD (allND ops) (dstsIn ops) a0 Q) Kp) n (listed.setIfInBounds j true) (a.put o.dst v) w' := fun v w' hi => by
              have hfp : ∀ v, allND ops = true → Fr (dstsIn ops) a0 (a.put o.dst v) := fun v hn => (hf hn).trans (.put (dstsIn_spec ho))
              unfold imp at hi
              cases hn : needC ops j <;> rw [hn] at hi
              · exact ⟨fun h => (by cases h), evDraw_sound hdok hnd hns n _ _ _ (hcl.set him) (fun hl => (noLoads_of_needC hcl him hn hl).elim) (hfp _) hi⟩
              · exact ⟨fun _ _ => hi.1, evDraw_sound hdok hnd hns n _ _ _ (hcl.set him) (fun _ => hi.1) (hfp _) hi.2⟩
            rcases guardW_sound h with ⟨hw, h⟩ | ⟨hw, h⟩
            · simp only [hw, if_true]
              split at h
              · rename_i c hc
                cases dok with
                | false => exact h.elim
                | true =>
                  have h' : defW c a.eval (fun d => evDraw P true ops C (Q .normal) Kp n (listed.setIfInBounds j true) (Act.put { tmps := a.tmps, defers := d :: a.defers } o.dst undef) w) := h
                  obtain ⟨d, hK, hr⟩ := defW_sound (P := P) h' o.type
                  refine ⟨fun _ _ => trivial, ?_⟩
                  have e : ((Oper.semAt (fen ro).round a.eval o).run P w) = .ok (.defer d) w := by
                    rw [semAt_nd hnd ho]
                    obtain ⟨dst, op, ty, pos, after, guard⟩ := o
                    simp only at hc; subst hc
                    simp only [execOp, Sem.run_bind, hr w, Result.andThen_ok]
                    rfl
                  rw [e]
                  exact ⟨fun _ h => h, evDraw_sound hdok hnd hns n _ _ w (hcl.set him) (fun hl => hC hl.of_set) (fun hn => by have := allND_spec hn ho; simp [noDefer, hc] at this) hK⟩
              rename_i hnod
              have hnd' : noDefer o = true := by
                cases hop : o.op <;> first | exact absurd hop (hnod _) | (simp only [noDefer, hop]; done) | skip
                rename_i cs b
                exact absurd hop (Region.noSelect_spec hns j o cs b ho)
              refine wpIn_of_gives hnd' ?_
              have := exec1N_sound h
              generalize (execOp a.eval o).run P w = r at this
              cases r with
              | ok x w' =>
                cases x <;> simp only [Gives] at this ⊢ <;> first
                  | exact next _ _ this
                  | exact this.elim
                  | exact Calls.mono this fun e w'' he => by cases e <;> first | exact next _ _ he | exact he
                  | exact RowsIn.mono this fun v w'' he => next _ _ he
                  | exact RoundIn.mono this fun e w'' he => by cases e <;> first | exact next _ _ he | exact he
              | halt x w' => cases x <;> simp only [Gives] at this ⊢ <;> exact this
            · simp only [hw, Bool.false_eq_true, if_false]
              exact ⟨fun _ _ => trivial, fun _ h => h, evDraw_sound hdok hnd hns n _ _ w (hcl.set him) (fun hl => hC hl.of_set) (fun hn => (hf hn).trans (.put (dstsIn_spec ho))) h⟩
end
inductive Plan where
  | done | bad
  | take (i : Nat) (p : Plan)
  | eff (i : Nat) (nc : Bool) (p : Plan)
  | both (p q : Plan)
def planAll : List Nat → (Nat → Plan) → Plan
  | [], _ => .done
  | i :: is, F => match is with | [] => F i | _ => .both (F i) (planAll is F)
def planOf (ops : Array Oper) : Nat → Array Bool → Plan
  | 0, listed =>
    match Region.ready .any ops listed with
    | [] => .done
    | _ => .bad
  | n + 1, listed =>
    match Region.ready .any ops listed with
    | [] => .done
    | i :: is =>
      match (i :: is).find? fun j => ((ops[j]?).map fun o => takeable o.op).getD false && Region.free .any ops listed j with
      | some j => .take j (planOf ops n (listed.setIfInBounds j true))
      | none => planAll (i :: is) fun i => .eff i (needC ops i) (planOf ops n (listed.setIfInBounds i true))
def forceP : Plan → (Plan → Prop) → Prop
  | .done, k => k .done
  | .bad, k => k .bad
  | .take i p, k => forceP p fun p' => k (.take i p')
  | .eff i nc p, k => forceP p fun p' => cond nc (k (.eff i true p')) (k (.eff i false p'))
  | .both p q, k => forceP p fun p' => forceP q fun q' => k (.both p' q')
theorem forceP_eq : ∀ (p : Plan) (k : Plan → Prop), forceP p k = k p
  | .done, _ => rfl
  | .bad, _ => rfl
  | .take i p, k => by simp only [forceP, forceP_eq p]
  | .eff i nc p, k => by simp only [forceP, forceP_eq p]; cases nc <;> rfl
  | .both p q, k => by simp only [forceP, forceP_eq p, forceP_eq q]
def evPlan (P : Program) (dok : Bool) (ops : Array Oper) (C : World → Prop) (K : Act → World → Prop) (Kp : List PanicEntry → List Deferred → World → Prop) : Plan → Act → World → Prop
  | .done, a, w => K a w
  | .bad, _, _ => False
  | .take j p, a, w =>
    match ops[j]? with
    | none => False
    | some o => guardW ops o a
        (fun a' => takeW P o a'.eval C fun v => forceA (a'.put o.dst v) fun a'' => evPlan P dok ops C K Kp p a'' w)
        (fun a' => forceA (a'.put o.dst undef) fun a'' => evPlan P dok ops C K Kp p a'' w)
  | .eff i nc p, a, w =>
    match ops[i]? with
    | none => False
    | some o => guardW ops o a
        (fun a' => match o.op with
          | .defer c => cond dok (defW c a'.eval fun d => forceA (Act.put { tmps := a'.tmps, defers := d :: a'.defers } o.dst undef) fun a'' => evPlan P dok ops C K Kp p a'' w) False
          | _ => exec1N P o a'.eval w (fun v w' => imp nc (C w') (forceA (a'.put o.dst v) fun a'' => evPlan P dok ops C K Kp p a'' w')) (fun ch w' => Kp ch a'.defers w'))
        (fun a' => forceA (a'.put o.dst undef) fun a'' => evPlan P dok ops C K Kp p a'' w)
  | .both p q, a, w => evPlan P dok ops C K Kp p a w ∧ evPlan P dok ops C K Kp q a w
theorem evPlan_all {P : Program} {dok : Bool} {ops : Array Oper} {C : World → Prop} {K : Act → World → Prop} {Kp : List PanicEntry → List Deferred → World → Prop} {F : Nat → Plan} {a : Act} {w : World} :
    ∀ (i : Nat) (is : List Nat), evPlan P dok ops C K Kp (planAll (i :: is) F) a w = allOf (i :: is) fun i => evPlan P dok ops C K Kp (F i) a w
  | i, [] => rfl
  | i, k :: is => by
    have := evPlan_all (P := P) (dok := dok) (ops := ops) (C := C) (K := K) (Kp := Kp) (F := F) (a := a) (w := w) k is
    simp only [planAll, allOf, evPlan] at this ⊢
    rw [this]
theorem evPlan_eq {P : Program} {dok : Bool} {ops : Array Oper} {C : World → Prop} {K : Act → World → Prop} {Kp : List PanicEntry → List Deferred → World → Prop} :
    ∀ (n : Nat) (listed : Array Bool) (a : Act) (w : World), evPlan P dok ops C K Kp (planOf ops n listed) a w = evDraw P dok ops C K Kp n listed a w
  | 0, listed, a, w => by
    unfold planOf evDraw
    split <;> rename_i hr <;> simp only [evPlan]
  | n + 1, listed, a, w => by
    unfold planOf evDraw
    cases hr : Region.ready .any ops listed with
    | nil => rfl
    | cons i is =>
      simp only
      cases hf : (i :: is).find? fun j => ((ops[j]?).map fun o => takeable o.op).getD false && Region.free .any ops listed j with
      | some j => simp only [evPlan, evPlan_eq n]
      | none => simp only [evPlan_all, evPlan, evPlan_eq n]
structure doDr (w : World) (K : World → Prop) : Prop where
  out : K w.drew
def drawW (P : Program) (dok : Bool) (ops : Array Oper) (K : Act → World → Prop) (Kp : List PanicEntry → List Deferred → World → Prop) (a : Act) (w : World) : Prop :=
  forceP (planOf ops ops.size (Array.replicate ops.size false)) fun p =>
  cond (ops.toList.any fun o => isLoad o.op) (doDr w fun w' => ∃ C : World → Prop, C w' ∧ evPlan P dok ops C K Kp p a w')
    (doDr w fun w' => evPlan P dok ops (fun _ => True) K Kp p a w')
theorem drawW_sound {ro : Option Nat} {P : Program} {dok : Bool} (hdok : dok = true → ro = none) {id : Nat} {ops : Array Oper} {Q : Exit → Act → World → Prop} {Kp : List PanicEntry → List Deferred → World → Prop} {a : Act} {w : World}
    (hm : P.follows .mixedOrders = true) (hnd : allND ops = true ∨ ro = none) (hns : Region.noSelect ops = true) (h : drawW P dok ops (Q .normal) Kp a w) :
    (Code.region id ops true).wpIn (fen ro) 0 P (full (andFrD (allND ops) (dstsIn ops) a Q) Kp) a w := by
  refine wpIn_region_any hm ?_
  unfold drawW at h
  rw [forceP_eq] at h
  simp only [evPlan_eq] at h
  cases hl : (ops.toList.any fun o => isLoad o.op) <;> rw [hl] at h
  · exact wpAnyC_in _ _ _ _ (evDraw_sound hdok hnd hns _ _ _ _ (Cl.init _ _) (fun _ => trivial) (fun _ => .refl _ _) h.out)
  · obtain ⟨C, hC, h⟩ := h.out
    exact wpAnyC_in _ _ _ _ (evDraw_sound hdok hnd hns _ _ _ _ (Cl.init _ _) (fun _ => hC) (fun _ => .refl _ _) h)
end Go.Sh

