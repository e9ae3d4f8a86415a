/-
  A small evaluator of the model's code, as a predicate transformer that computes on concrete code, and its soundness against the kit's calculus. No claim of its own.
-/
import Derived.OrdersIn
import Derived.RangeFuncLeaves
import Derived.KernelRfl
import Derived.RowKit3
import Derived.Below
import Derived.Laws.StructEq
import Derived.Laws.IdiomCopy

set_option maxRecDepth 100000
set_option maxHeartbeats 6400000
namespace Go.Sh
open Go
abbrev EW := Ending → World → Prop
abbrev OA := Option Addr

def fen (ro : Option Nat) : Fence := { Fence.wide with round := ro }

def ifB (b : Bool) (X Y : Prop) : Prop := cond b X Y
theorem ifB_intro {b : Bool} {X Y : Prop} (h1 : b = true → X) (h2 : b = false → Y) : ifB b X Y := by
  cases b
  · exact h2 rfl
  · exact h1 rfl
theorem ifB_cases {b : Bool} {X Y : Prop} (h : ifB b X Y) : (b = true ∧ X) ∨ (b = false ∧ Y) := by
  cases b
  · exact .inr ⟨rfl, h⟩
  · exact .inl ⟨rfl, h⟩

def like0 : Value → (Value → Prop) → Prop
  | .bool _, F => ∃ b, F (.bool b)
  | .int k _, F => ∃ n, F (.int k n)
  | .string _, F => ∃ s, F (.string s)
  | .pointer _, F => ∃ p, F (.pointer p)
  | .slice _ _ _, F => ∃ p n c, F (.slice p n c)
  | .map _, F => ∃ m, F (.map m)
  | .nilFunc, F => ∃ f x c, F (.func f x c)
  | _, F => ∃ v, F v
def likeL0 : List Value → (List Value → Prop) → Prop
  | [], F => F []
  | z :: zs, F => like0 z fun v => likeL0 zs fun vs => F (v :: vs)
def like1 : Value → (Value → Prop) → Prop
  | .agg cs, F => likeL0 cs.toList fun vs => F (.agg vs.toArray)
  | z, F => like0 z F
def likeL1 : List Value → (List Value → Prop) → Prop
  | [], F => F []
  | z :: zs, F => like1 z fun v => likeL1 zs fun vs => F (v :: vs)
def like2 : Value → (Value → Prop) → Prop
  | .tuple cs, F => likeL1 cs.toList fun vs => F (.tuple vs.toArray)
  | z, F => like1 z F
theorem like0_some {z : Value} {F : Value → Prop} (h : like0 z F) : ∃ v, F v := by
  cases z <;> simp only [like0] at h <;> first
    | exact ⟨_, h.choose_spec⟩
    | (obtain ⟨a, b, c, h⟩ := h; exact ⟨_, h⟩)
theorem likeL0_some : ∀ {zs : List Value} {F : List Value → Prop}, likeL0 zs F → ∃ vs, F vs
  | [], _, h => ⟨[], h⟩
  | _ :: _, _, h => by
    obtain ⟨v, h⟩ := like0_some h
    obtain ⟨vs, h⟩ := likeL0_some h
    exact ⟨_, h⟩
theorem like1_some {z : Value} {F : Value → Prop} (h : like1 z F) : ∃ v, F v := by
  cases z <;> simp only [like1] at h <;> first
    | exact like0_some h
    | (obtain ⟨vs, h⟩ := likeL0_some h; exact ⟨_, h⟩)
theorem likeL1_some : ∀ {zs : List Value} {F : List Value → Prop}, likeL1 zs F → ∃ vs, F vs
  | [], _, h => ⟨[], h⟩
  | _ :: _, _, h => by
    obtain ⟨v, h⟩ := like1_some h
    obtain ⟨vs, h⟩ := likeL1_some h
    exact ⟨_, h⟩
theorem like2_some {z : Value} {F : Value → Prop} (h : like2 z F) : ∃ v, F v := by
  cases z <;> simp only [like2] at h <;> first
    | exact like1_some h
    | (obtain ⟨vs, h⟩ := likeL1_some h; exact ⟨_, h⟩)
def asV (z v : Value) (K : Value → Prop) : Prop := like2 z fun v' => v = v' ∧ K v'
theorem asV_sound {z v : Value} {K : Value → Prop} (h : asV z v K) : K v := by
  obtain ⟨v', rfl, h⟩ := like2_some h
  exact h

def zeroOf (P : Program) (t : TypeId) : Value := ((P.info? t).bind (·.zero)).getD undef

def pureRun {α : Type} (P : Program) : Sem α → Option α
  | .pure a => some a
  | .program k => pureRun P (k P)
  | _ => none
theorem pureRun_sound {α : Type} {P : Program} : ∀ {s : Sem α} {v : α}, pureRun P s = some v → ∀ w, s.run P w = .ok v w
  | .pure a, v, h, w => by simp only [pureRun, Option.some.injEq] at h; subst h; rfl
  | .program k, v, h, w => by simp only [pureRun] at h; exact pureRun_sound (s := k P) h w
  | .load .., _, h, _ | .store .., _, h, _ | .new .., _, h, _ | .shape .., _, h, _ | .freeze .., _, h, _ | .frozen .., _, h, _ | .getObj .., _, h, _
  | .setObj .., _, h, _ | .choose .., _, h, _ | .sys .., _, h, _ | .mark .., _, h, _ | .halt .., _, h, _ => by simp [pureRun] at h
def rp {α : Type} (P : Program) (s : Sem α) (K : α → Prop) : Prop :=
  match pureRun P s with
  | some v => K v
  | none => False
theorem rp_sound {α : Type} {P : Program} {s : Sem α} {K : α → Prop} (h : rp P s K) : ∃ v, K v ∧ ∀ w, s.run P w = .ok v w := by
  unfold rp at h
  split at h
  · exact ⟨_, h, pureRun_sound (by assumption)⟩
  · exact h.elim

def divK (b : Int) (v : Value) (K : Value → Prop) : Prop := b ≠ 0 ∧ K v
structure doCat (a b : ByteArray) (K : ByteArray → Prop) : Prop where
  out : a.size + b.size ≤ 9223372036854775807 ∧ K (a ++ b)
def catK (a b : ByteArray) (K : Value → Prop) : Prop := doCat a b fun s => K (.string s)
def shK (b : Int) (v : Value) (K : Value → Prop) : Prop := 0 ≤ b ∧ K v
def eqFs (P : Program) (xs ys : Array Value) : List Field → (Bool → Prop) → Prop
  | [], F => F true
  | f :: fs, F =>
    if f.name = "_" then False else
    match xs[f.offset]?, ys[f.offset]?, P.underlying f.type with
    | some (.int k a), some (.int k' b), some (.int _) => if k = k' then eqFs P xs ys fs fun r => F ((a == b) && r) else False
    | some (.bool a), some (.bool b), some .bool => eqFs P xs ys fs fun r => F ((a == b) && r)
    | _, _, _ => False
def eqAgg (P : Program) (t : TypeId) (xs ys : Array Value) (F : Bool → Prop) : Prop :=
  match P.underlying t with
  | some (.struct fs) => if P.stoodInHeld t = false ∧ P.eqGuardType P.depth t = false then eqFs P xs ys fs.toList F else False
  | _ => False
theorem eqFs_sound {P : Program} {xs ys : Array Value} (d : Nat) : ∀ {fs : List Field} {F : Bool → Prop}, eqFs P xs ys fs F →
    ∃ r, F r ∧ ∀ w, (Op.eqFields (d + 1) xs ys fs).run P w = .ok r w
  | [], F, h => ⟨true, h, fun _ => rfl⟩
  | f :: fs, F, h => by
    simp only [eqFs] at h
    split at h
    · exact h.elim
    rename_i hn
    split at h
    · rename_i k a k' b k'' hx hy hu
      split at h
      · rename_i hk; subst hk
        obtain ⟨r, hF, hr⟩ := eqFs_sound d h
        refine ⟨_, hF, fun w => ?_⟩
        simp only [Op.eqFields, ne_eq, hn, not_false_eq_true, if_true, part, isAgg, Sem.run_bind, run_underlying hu, Result.andThen_ok, Sem.run_pure, Bool.false_eq_true, if_false, hx, hy, run_equalIn_int w d f.type k k'' a b hu]
        cases hab : a == b <;> simp [hr w]
      · exact h.elim
    · rename_i a b hx hy hu
      obtain ⟨r, hF, hr⟩ := eqFs_sound d h
      refine ⟨_, hF, fun w => ?_⟩
      simp only [Op.eqFields, ne_eq, hn, not_false_eq_true, if_true, part, isAgg, Sem.run_bind, run_underlying hu, Result.andThen_ok, Sem.run_pure, Bool.false_eq_true, if_false, hx, hy, run_equalIn_bool' w d f.type a b hu]
      cases hab : a == b <;> simp [hr w]
    · exact h.elim
theorem eqAgg_sound {P : Program} {t : TypeId} {xs ys : Array Value} {F : Bool → Prop} (h : eqAgg P t xs ys F) :
    ∃ r, F r ∧ P.eqGuardType P.depth t = false ∧ ∀ w, (Op.equal t (.agg xs) (.agg ys)).run P w = .ok r w := by
  unfold eqAgg at h
  split at h
  · rename_i fs hu
    split at h
    · rename_i hc
      obtain ⟨r, hF, hr⟩ := eqFs_sound 9998 h
      refine ⟨r, hF, hc.2, fun w => ?_⟩
      have hf : P.fieldsOf t = fs := by simp [Program.fieldsOf, hu]
      have := run_equalIn_struct (P := P) w 9999 t xs ys (by rw [hf]; exact hu) hc.1
      rw [hf] at this
      exact this.trans (hr w)
    · exact h.elim
  · exact h.elim
def binW0 (P : Program) (op : BinOp) (t : TypeId) (ex ey : Operand) (x y : Value) (K : Value → Prop) : Prop :=
  match op, x, y with
  | .quo, .int k a, .int k' b => if k = k' then divK b (.int k (k.wrap (a.tdiv b))) K else False
  | .rem, .int k a, .int k' b => if k = k' then divK b (.int k (a.tmod b)) K else False
  | .shl, .int k a, .int _ b => shK b (.int k (k.wrap (a * 2 ^ (min b.toNat k.bits)))) K
  | .shr, .int k a, .int _ b => shK b (.int k (a.fdiv (2 ^ (min b.toNat k.bits)))) K
  | .eql, .pointer p, .pointer none => match P.underlying t with | some (.pointer _) => K (.bool p.isNone) | _ => False
  | .neq, .pointer p, .pointer none => match P.underlying t with | some (.pointer _) => K (.bool (!p.isNone)) | _ => False
  | .eql, .slice p _ _, .slice none _ _ => match P.underlying t with | some (.slice _) => K (.bool p.isNone) | _ => False
  | .neq, .slice p _ _, .slice none _ _ => match P.underlying t with | some (.slice _) => K (.bool (!p.isNone)) | _ => False
  | .eql, .agg xs, .agg ys => eqAgg P t xs ys fun r => K (.bool r)
  | .neq, .agg xs, .agg ys => eqAgg P t xs ys fun r => K (.bool (!r))
  | .add, .string a, .string b => catK a b K
  | op, x, y => rp P (do eqGuard op t ex ey x y; binOp op t x y) K
theorem run_eql_ptr {P : Program} {t e : TypeId} (h : P.underlying t = some (.pointer e)) (p : OA) (w : World) :
    (Op.equal t (.pointer p) (.pointer none)).run P w = .ok p.isNone w := by
  have key : ∀ d, (Op.equalIn (d + 1) t (.pointer p) (.pointer none)).run P w = .ok p.isNone w := fun d => by
    cases p <;> simp [Op.equalIn, run_underlying h]
  exact key 9999
theorem run_eql_slice {P : Program} {t e : TypeId} (h : P.underlying t = some (.slice e)) (p : OA) (n c m d : Nat) (w : World) :
    (Op.equal t (.slice p n c) (.slice none m d)).run P w = .ok p.isNone w := by
  have key : ∀ d', (Op.equalIn (d' + 1) t (.slice p n c) (.slice none m d)).run P w = .ok p.isNone w := fun d' => by
    cases p <;> simp [Op.equalIn, run_underlying h]
  exact key 9999
theorem binW0_sound {P : Program} {op : BinOp} {t : TypeId} {ex ey : Operand} {x y : Value} {K : Value → Prop} (h : binW0 P op t ex ey x y K) :
    ∃ v, K v ∧ ∀ w, (do eqGuard op t ex ey x y; binOp op t x y).run P w = .ok v w := by
  unfold binW0 at h
  split at h
  · rename_i k a k' b
    split at h
    · rename_i hk; subst hk
      obtain ⟨h0, h⟩ := h
      exact ⟨_, h, fun w => by simp [eqGuard, binOp, Op.intDiv, h0]⟩
    · exact h.elim
  · rename_i k a k' b
    split at h
    · rename_i hk; subst hk
      obtain ⟨h0, h⟩ := h
      exact ⟨_, h, fun w => by simp [eqGuard, binOp, Op.intDiv, h0]⟩
    · exact h.elim
  · obtain ⟨h0, h⟩ := h
    exact ⟨_, h, fun w => by simp [eqGuard, binOp, Op.shift, Int.not_lt.2 h0]⟩
  · obtain ⟨h0, h⟩ := h
    exact ⟨_, h, fun w => by simp [eqGuard, binOp, Op.shift, Int.not_lt.2 h0]⟩
  · rename_i p
    split at h
    · rename_i e hu
      exact ⟨_, h, fun w => by simp [eqGuard, binOp, run_eql_ptr hu, Result.andThen]⟩
    · exact h.elim
  · rename_i p
    split at h
    · rename_i e hu
      exact ⟨_, h, fun w => by simp [eqGuard, binOp, run_eql_ptr hu, Result.andThen]⟩
    · exact h.elim
  · rename_i p _ _ _ _
    split at h
    · rename_i e hu
      exact ⟨_, h, fun w => by simp [eqGuard, binOp, run_eql_slice hu, Result.andThen]⟩
    · exact h.elim
  · rename_i p _ _ _ _
    split at h
    · rename_i e hu
      exact ⟨_, h, fun w => by simp [eqGuard, binOp, run_eql_slice hu, Result.andThen]⟩
    · exact h.elim
  · obtain ⟨r, hF, hg, hr⟩ := eqAgg_sound h
    exact ⟨_, hF, fun w => by simp only [Sem.run_bind, run_eqGuard_agg w .eql t ex ey _ _ hg, Result.andThen_ok, binOp, hr w, Sem.run_pure]⟩
  · obtain ⟨r, hF, hg, hr⟩ := eqAgg_sound h
    exact ⟨_, hF, fun w => by simp only [Sem.run_bind, run_eqGuard_agg w .neq t ex ey _ _ hg, Result.andThen_ok, binOp, hr w, Sem.run_pure]⟩
  · rename_i a b
    obtain ⟨h0, h⟩ := (show doCat a b _ from h).out
    refine ⟨_, h, fun w => ?_⟩
    have h1 : ¬ ((a.size + b.size : Nat) : Int) > IntKind.i64.max := by
      have : IntKind.i64.max = 9223372036854775807 := by decide
      rw [this]; omega
    simp only [eqGuard, binOp, Op.stringOp, Sem.run_bind]
    rw [if_neg h1]
    rfl
  · exact rp_sound h
structure doEqN (P : Program) (op : BinOp) (t : TypeId) (ex ey : Operand) (x : Value) (K : Bool → Prop) : Prop where
  out : ∃ b : Bool, (∀ w, (do eqGuard op t ex ey x .nilIface; binOp op t x .nilIface).run P w = .ok (.bool b) w) ∧ K b
def binW (P : Program) (op : BinOp) (t : TypeId) (ex ey : Operand) (x y : Value) (K : Value → Prop) : Prop :=
  match y with
  | .nilIface => doEqN P op t ex ey x fun b => K (.bool b)
  | y => binW0 P op t ex ey x y K
theorem binW_sound {P : Program} {op : BinOp} {t : TypeId} {ex ey : Operand} {x y : Value} {K : Value → Prop} (h : binW P op t ex ey x y K) :
    ∃ v, K v ∧ ∀ w, (do eqGuard op t ex ey x y; binOp op t x y).run P w = .ok v w := by
  unfold binW at h
  split at h
  · obtain ⟨b, hr, h⟩ := h.out
    exact ⟨_, h, hr⟩
  · exact binW0_sound h

structure doSl (a : OA) (cap sz : Nat) (l h : Int) (K : OA → Nat → Nat → Prop) : Prop where
  out : 0 ≤ l ∧ l ≤ h ∧ h ≤ cap ∧ K (if cap = l.toNat then a else a.map (·.add (l.toNat * sz))) (h.toNat - l.toNat) (cap - l.toNat)
def slK (a : OA) (cap sz : Nat) (l h : Int) (K : Value → Prop) : Prop := doSl a cap sz l h fun p n c => K (.slice p n c)
structure doSs (s : ByteArray) (l h : Int) (K : ByteArray → Prop) : Prop where
  out : 0 ≤ l ∧ l ≤ h ∧ h ≤ s.size ∧ K (s.extract l.toNat h.toNat)
def ssK (s : ByteArray) (l h : Int) (K : Value → Prop) : Prop := doSs s l h fun q => K (.string q)
def withSize (P : Program) (e : TypeId) (F : Nat → Prop) : Prop :=
  match P.info? e with
  | some i => F i.size
  | none => False
def slW (P : Program) (t : TypeId) (x : Value) (lo hi : Option Value) (K : Value → Prop) : Prop :=
  match P.underlying t, x, lo, hi with
  | some (.slice e), .slice a _ cap, some (.int _ l), some (.int _ h) => withSize P e fun sz => slK a cap sz l h K
  | some (.slice e), .slice a n cap, some (.int _ l), none => withSize P e fun sz => slK a cap sz l n K
  | some (.slice e), .slice a _ cap, none, some (.int _ h) => withSize P e fun sz => slK a cap sz 0 h K
  | some (.slice e), .slice a n cap, none, none => withSize P e fun sz => slK a cap sz 0 n K
  | some .string, .string s, some (.int _ l), some (.int _ h) => ssK s l h K
  | some .string, .string s, some (.int _ l), none => ssK s l s.size K
  | some .string, .string s, none, some (.int _ h) => ssK s 0 h K
  | _, _, _, _ => False
structure doSlm (a : OA) (cap sz : Nat) (l h m : Int) (K : OA → Nat → Nat → Prop) : Prop where
  out : 0 ≤ l ∧ l ≤ h ∧ h ≤ m ∧ m ≤ cap ∧ K (if m.toNat = l.toNat then a else a.map (·.add (l.toNat * sz))) (h.toNat - l.toNat) (m.toNat - l.toNat)
def sl3K (a : OA) (cap sz : Nat) (l h m : Int) (K : Value → Prop) : Prop := doSlm a cap sz l h m fun p n c => K (.slice p n c)
def sl3W (P : Program) (t : TypeId) (x : Value) (lo : Option Value) (h m : Value) (K : Value → Prop) : Prop :=
  match P.underlying t, x, lo, h, m with
  | some (.slice e), .slice a _ cap, some (.int _ l), .int _ h, .int _ m => withSize P e fun sz => sl3K a cap sz l h m K
  | some (.slice e), .slice a _ cap, none, .int _ h, .int _ m => withSize P e fun sz => sl3K a cap sz 0 h m K
  | _, _, _, _, _ => False
structure doIx (a : OA) (len sz : Nat) (i : Int) (K : Addr → Prop) : Prop where
  out : ∃ ad, a = some ad ∧ 0 ≤ i ∧ i < len ∧ K (ad.add (i.toNat * sz))
def ixK (a : OA) (len sz : Nat) (i : Int) (K : Value → Prop) : Prop := doIx a len sz i fun ad => K (.pointer (some ad))
def ixaW (P : Program) (t : TypeId) (x i : Value) (K : Value → Prop) : Prop :=
  match P.underlying t, x, i with
  | some (.slice e), .slice a len _, .int _ i => withSize P e fun sz => ixK a len sz i K
  | some (.array len e), .pointer a, .int _ i => withSize P e fun sz => ixK a len sz i K
  | _, _, _ => False
def sbK (s : ByteArray) (i : Int) (K : Value → Prop) : Prop := ∃ b, 0 ≤ i ∧ s[i.toNat]? = some b ∧ K (.int .u8 b.toNat)
structure doIxV (P : Program) (t : TypeId) (x i : Value) (K : Value → Prop) : Prop where
  out : ∃ v, (∀ w, (Instr.index t x i).run P w = .ok v w) ∧ K v
def ixW (P : Program) (t : TypeId) (x i : Value) (K : Value → Prop) : Prop :=
  match P.underlying t, x, i with
  | some .string, .string s, .int _ i => sbK s i K
  | some (.array _ e), x, i => doIxV P t x i fun v => asV (zeroOf P e) v K
  | _, _, _ => False
def ncK (a : OA) (K : Value → Prop) : Prop := ∃ ad, a = some ad ∧ K (.pointer (some ad))
structure doNC (P : Program) (v : Value) (K : Prop) : Prop where
  out : (∀ (ρ : Operand → Value) (o : Oper) (x : Operand) (w : World), o.op = .nilCheck x → ρ x = v → (execOp ρ o).run P w = .ok (.value v) w) ∧ K
def isIf (P : Program) (t : TypeId) : Bool := match P.underlying t with | some (.interface _) => true | _ => false
def ncW (P : Program) (x : Value) (K : Value → Prop) : Prop :=
  match x with
  | .pointer a => ncK a K
  | .func (.func f) x c => K (.func (.func f) x c)
  | .func (.method m) x c => doNC P (.func (.method m) x c) (K (.func (.method m) x c))
  | _ => False
def lenW (P : Program) (t : TypeId) (x : Value) (K : Value → Prop) : Prop :=
  match P.underlying t, x with
  | some (.slice _), .slice _ n _ => K (.int .i64 n)
  | some .string, .string s => K (.int .i64 s.size)
  | _, _ => False

def pureW (P : Program) (o : Oper) (ρ : Operand → Value) (K : Value → Prop) : Prop :=
  match o.op with
  | .move x | .assign x => K (ρ x)
  | .pick c a b => match ρ c with | .bool t => ifB t (K (ρ a)) (K (ρ b)) | _ => False
  | .binOp op t x y _ => binW P op t x y (ρ x) (ρ y) K
  | .unOp op _ x => rp P (Op.unary op (ρ x)) K
  | .convert s d x => rp P (convert s d (ρ x)) K
  | .makeInterface t x => rp P (Instr.makeInterface t (ρ x)) K
  | .makeFunc fn x c => K (.func fn (x.map ρ) (c.map ρ))
  | .fieldAddr s x f => rp P (Instr.fieldAt s (ρ x) f) K
  | .field t x f => rp P (Instr.field t (ρ x) f) K
  | .extract t i => rp P (Instr.extract (ρ t) i) K
  | .build t ps => rp P (Instr.build t (ps.map fun (i, x) => (i, ρ x))) K
  | .slice t x lo hi none => slW P t (ρ x) (lo.map ρ) (hi.map ρ) K
  | .slice t x lo (some h) (some m) => sl3W P t (ρ x) (lo.map ρ) (ρ h) (ρ m) K
  | .indexAddr t x i => ixaW P t (ρ x) (ρ i) K
  | .index t x i => ixW P t (ρ x) (ρ i) K
  | .nilCheck x => cond (isIf P o.type) (doNC P (ρ x) (K (ρ x))) (ncW P (ρ x) K)
  | .call { callee := .builtin .len, args := args, argTypes := ts } => match args.toList, ts.toList with | [x], [t] => lenW P t (ρ x) K | _, _ => False
  | _ => False
def isPure : Op → Bool
  | .move _ | .assign _ | .pick .. | .binOp .. | .unOp .. | .convert .. | .makeInterface .. | .makeFunc .. | .fieldAddr .. | .field .. | .extract .. | .build .. | .indexAddr .. | .index .. | .nilCheck _ => true
  | .slice _ _ _ _ none => true
  | .slice _ _ _ (some _) (some _) => true
  | .call { callee := .builtin .len, .. } => true
  | _ => false

theorem withSize_sound {P : Program} {e : TypeId} {F : Nat → Prop} (h : withSize P e F) : ∃ n, F n ∧ ∀ w, (sizeOf e).run P w = .ok n w := by
  unfold withSize at h
  split at h
  · rename_i i hi
    exact ⟨_, h, fun w => by simp [sizeOf, typeInfo, program, Sem.run, hi, bind, Sem.bind, pure]⟩
  · exact h.elim
def bd (d : Int) : Option Value → Int → Prop
  | none, n => n = d
  | some (.int _ i), n => i = n
  | _, _ => False
theorem slK_sound {P : Program} {t e : TypeId} (hu : P.underlying t = some (.slice e)) {a : OA} {n cap sz : Nat} {l h : Int} {K : Value → Prop} {lo hi : Option Value}
    (hs : ∀ w, (sizeOf e).run P w = .ok sz w) (hl : bd 0 lo l) (hh : bd n hi h) (hK : slK a cap sz l h K) :
    ∃ v, K v ∧ ∀ w, (Instr.sliceAt t (.slice a n cap) lo hi none).run P w = .ok v w := by
  obtain ⟨h1, h2, h3, hK⟩ := hK.out
  refine ⟨_, hK, fun w => ?_⟩
  obtain ⟨l', rfl⟩ := Int.eq_ofNat_of_zero_le h1
  obtain ⟨h', rfl⟩ := Int.eq_ofNat_of_zero_le (Int.le_trans h1 h2)
  have a1 : l' ≤ h' := by omega
  have a2 : h' ≤ cap := by omega
  cases hi with
  | none =>
    simp only [bd] at hh
    obtain rfl : h' = n := by omega
    cases lo with
    | none =>
      simp only [bd] at hl
      obtain rfl : l' = 0 := by omega
      simp [Instr.sliceAt, Instr.slice, Instr.sliceBounds, run_underlying hu, hs w]
    | some v =>
      cases v <;> simp only [bd] at hl
      subst hl
      simp [Instr.sliceAt, Instr.slice, Instr.sliceBounds, Instr.sliceBound, asIntOf, run_underlying hu, hs w, a1]
  | some v =>
    cases v <;> simp only [bd] at hh
    subst hh
    cases lo with
    | none =>
      simp only [bd] at hl
      obtain rfl : l' = 0 := by omega
      simp [Instr.sliceAt, Instr.slice, Instr.sliceBounds, Instr.sliceBound, asIntOf, run_underlying hu, hs w, a2]
    | some v =>
      cases v <;> simp only [bd] at hl
      subst hl
      simp [Instr.sliceAt, Instr.slice, Instr.sliceBounds, Instr.sliceBound, asIntOf, run_underlying hu, hs w, a2, a1]
theorem ssK_sound {P : Program} {t : TypeId} (hu : P.underlying t = some .string) {s : ByteArray} {l h : Int} {K : Value → Prop} {lo hi : Option Value}
    (hl : bd 0 lo l) (hh : bd s.size hi h) (hK : ssK s l h K) :
    ∃ v, K v ∧ ∀ w, (Instr.sliceAt t (.string s) lo hi none).run P w = .ok v w := by
  obtain ⟨h1, h2, h3, hK⟩ := hK.out
  refine ⟨_, hK, fun w => ?_⟩
  obtain ⟨l', rfl⟩ := Int.eq_ofNat_of_zero_le h1
  obtain ⟨h', rfl⟩ := Int.eq_ofNat_of_zero_le (Int.le_trans h1 h2)
  have a1 : l' ≤ h' := by omega
  have a2 : h' ≤ s.size := by omega
  cases hi with
  | none =>
    simp only [bd] at hh
    obtain rfl : h' = s.size := by omega
    cases lo with
    | none =>
      simp only [bd] at hl
      obtain rfl : l' = 0 := by omega
      simp [Instr.sliceAt, Instr.slice, Instr.sliceBounds, run_underlying hu]
    | some v =>
      cases v <;> simp only [bd] at hl
      subst hl
      simp [Instr.sliceAt, Instr.slice, Instr.sliceBounds, Instr.sliceBound, asIntOf, run_underlying hu, a1]
  | some v =>
    cases v <;> simp only [bd] at hh
    subst hh
    cases lo with
    | none =>
      simp only [bd] at hl
      obtain rfl : l' = 0 := by omega
      simp [Instr.sliceAt, Instr.slice, Instr.sliceBounds, Instr.sliceBound, asIntOf, run_underlying hu, a2]
    | some v =>
      cases v <;> simp only [bd] at hl
      subst hl
      simp [Instr.sliceAt, Instr.slice, Instr.sliceBounds, Instr.sliceBound, asIntOf, run_underlying hu, a2, a1]
theorem slW_sound {P : Program} {t : TypeId} {x : Value} {lo hi : Option Value} {K : Value → Prop} (h : slW P t x lo hi K) :
    ∃ v, K v ∧ ∀ w, (Instr.sliceAt t x lo hi none).run P w = .ok v w := by
  unfold slW at h
  split at h
  · rename_i hu; obtain ⟨sz, h, hs⟩ := withSize_sound h; exact slK_sound hu hs rfl rfl h
  · rename_i hu; obtain ⟨sz, h, hs⟩ := withSize_sound h; exact slK_sound hu hs rfl rfl h
  · rename_i hu; obtain ⟨sz, h, hs⟩ := withSize_sound h; exact slK_sound hu hs rfl rfl h
  · rename_i hu; obtain ⟨sz, h, hs⟩ := withSize_sound h; exact slK_sound hu hs rfl rfl h
  · rename_i hu; exact ssK_sound hu rfl rfl h
  · rename_i hu; exact ssK_sound hu rfl rfl h
  · rename_i hu; exact ssK_sound hu rfl rfl h
  · exact h.elim
theorem sl3K_sound {P : Program} {t e : TypeId} (hu : P.underlying t = some (.slice e)) {a : OA} {n cap sz : Nat} {l h m : Int} {kh km : IntKind} {K : Value → Prop} {lo : Option Value}
    (hs : ∀ w, (sizeOf e).run P w = .ok sz w) (hl : bd 0 lo l) (hK : sl3K a cap sz l h m K) :
    ∃ v, K v ∧ ∀ w, (Instr.sliceAt t (.slice a n cap) lo (some (.int kh h)) (some (.int km m))).run P w = .ok v w := by
  obtain ⟨h1, h2, h3, h4, hK⟩ := hK.out
  refine ⟨_, hK, fun w => ?_⟩
  obtain ⟨l', rfl⟩ := Int.eq_ofNat_of_zero_le h1
  obtain ⟨h', rfl⟩ := Int.eq_ofNat_of_zero_le (Int.le_trans h1 h2)
  obtain ⟨m', rfl⟩ := Int.eq_ofNat_of_zero_le (Int.le_trans (Int.le_trans h1 h2) h3)
  have a1 : l' ≤ h' := by omega
  have a2 : h' ≤ m' := by omega
  have a3 : m' ≤ cap := by omega
  cases lo with
  | none =>
    simp only [bd] at hl
    obtain rfl : l' = 0 := by omega
    simp [Instr.sliceAt, Instr.slice, Instr.sliceBounds, Instr.sliceBound, asIntOf, run_underlying hu, hs w, a2, a3]
  | some v =>
    cases v <;> simp only [bd] at hl
    subst hl
    simp [Instr.sliceAt, Instr.slice, Instr.sliceBounds, Instr.sliceBound, asIntOf, run_underlying hu, hs w, a1, a2, a3]
theorem sl3W_sound {P : Program} {t : TypeId} {x h m : Value} {lo : Option Value} {K : Value → Prop} (hh : sl3W P t x lo h m K) :
    ∃ v, K v ∧ ∀ w, (Instr.sliceAt t x lo (some h) (some m)).run P w = .ok v w := by
  unfold sl3W at hh
  split at hh
  · rename_i hu; obtain ⟨sz, h, hs⟩ := withSize_sound hh; exact sl3K_sound hu hs rfl h
  · rename_i hu; obtain ⟨sz, h, hs⟩ := withSize_sound hh; exact sl3K_sound hu hs rfl h
  · exact hh.elim
theorem ixaW_sound {P : Program} {t : TypeId} {x i : Value} {K : Value → Prop} (h : ixaW P t x i K) :
    ∃ v, K v ∧ ∀ w, (Instr.indexAt t x i).run P w = .ok v w := by
  unfold ixaW at h
  split at h
  · rename_i e a len cap k i hu
    obtain ⟨sz, ⟨ad, rfl, h1, h2, h⟩, hs⟩ := withSize_sound h
    exact ⟨_, h, fun w => by simp [Instr.indexAt, asIntOf, run_underlying hu, hs w, h1, h2]⟩
  · rename_i len e a k i hu
    obtain ⟨sz, ⟨ad, rfl, h1, h2, h⟩, hs⟩ := withSize_sound h
    exact ⟨_, h, fun w => by simp [Instr.indexAt, Instr.sureAddr, asIntOf, run_underlying hu, hs w, h1, h2]⟩
  · exact h.elim
theorem ixW_sound {P : Program} {t : TypeId} {x i : Value} {K : Value → Prop} (h : ixW P t x i K) :
    ∃ v, K v ∧ ∀ w, (Instr.index t x i).run P w = .ok v w := by
  unfold ixW at h
  split at h
  · rename_i s k i hu
    obtain ⟨b, h1, h2, h⟩ := h
    exact ⟨_, h, fun w => by simp [Instr.index, asIntOf, run_underlying hu, h1, h2]⟩
  · obtain ⟨v, hr, h⟩ := h.out
    exact ⟨v, asV_sound h, hr⟩
  · exact h.elim
theorem lenW_sound {P : Program} {t : TypeId} {x : Value} {K : Value → Prop} (h : lenW P t x K) (u : TypeId) :
    ∃ v, K v ∧ ∀ w, (Builtin.len_ #[t] u #[x]).run P w = .ok v w := by
  unfold lenW at h
  split at h
  · rename_i hu; exact ⟨_, h, fun w => by simp [Builtin.len_, run_underlying hu, goInt]⟩
  · rename_i hu; exact ⟨_, h, fun w => by simp [Builtin.len_, run_underlying hu, goInt]⟩
  · exact h.elim
theorem run_v {P : Program} {s : Sem Value} {v : Value} {w w' : World} (h : s.run P w = .ok v w') : (do pure (Next.value (← s)) : Sem Next).run P w = .ok (.value v) w' := by
  rw [Sem.run_bind, h]; rfl
theorem run_u {P : Program} {s : Sem Unit} {w w' : World} (h : s.run P w = .ok () w') : (do s; pure Next.skip : Sem Next).run P w = .ok .skip w' := by
  rw [Sem.run_bind, h]; rfl
theorem pureW_sound {P : Program} {o : Oper} {ρ : Operand → Value} {K : Value → Prop} (h : pureW P o ρ K) :
    ∃ v, K v ∧ ∀ w, (execOp ρ o).run P w = .ok (.value v) w := by
  obtain ⟨dst, op, ty, pos, after, guard⟩ := o
  unfold pureW at h
  split at h
  all_goals (first | exact h.elim | (rename_i hop; simp only at hop; subst hop))
  · exact ⟨_, h, fun w => rfl⟩
  · exact ⟨_, h, fun w => rfl⟩
  · split at h
    · rename_i t ht
      rcases ifB_cases h with ⟨rfl, h⟩ | ⟨rfl, h⟩
      · exact ⟨_, h, fun w => by simp [execOp, ht, asBool]⟩
      · exact ⟨_, h, fun w => by simp [execOp, ht, asBool]⟩
    · exact h.elim
  · obtain ⟨v, hK, hr⟩ := binW_sound h
    exact ⟨v, hK, fun w => run_v (hr w)⟩
  · obtain ⟨v, hK, hr⟩ := rp_sound h; exact ⟨v, hK, fun w => by simp only [execOp, Sem.run_bind, hr w]; rfl⟩
  · obtain ⟨v, hK, hr⟩ := rp_sound h; exact ⟨v, hK, fun w => by simp only [execOp, Sem.run_bind, hr w]; rfl⟩
  · obtain ⟨v, hK, hr⟩ := rp_sound h; exact ⟨v, hK, fun w => by simp only [execOp, Sem.run_bind, hr w]; rfl⟩
  · exact ⟨_, h, fun w => rfl⟩
  · obtain ⟨v, hK, hr⟩ := rp_sound h; exact ⟨v, hK, fun w => by simp only [execOp, Sem.run_bind, hr w]; rfl⟩
  · obtain ⟨v, hK, hr⟩ := rp_sound h; exact ⟨v, hK, fun w => by simp only [execOp, Sem.run_bind, hr w]; rfl⟩
  · obtain ⟨v, hK, hr⟩ := rp_sound h; exact ⟨v, hK, fun w => by simp only [execOp, Sem.run_bind, hr w]; rfl⟩
  · obtain ⟨v, hK, hr⟩ := rp_sound h; exact ⟨v, hK, fun w => by simp only [execOp, Sem.run_bind, hr w]; rfl⟩
  · obtain ⟨v, hK, hr⟩ := slW_sound h; exact ⟨v, hK, fun w => by simp only [execOp, Sem.run_bind, Option.map_none, hr w]; rfl⟩
  · obtain ⟨v, hK, hr⟩ := sl3W_sound h; exact ⟨v, hK, fun w => by simp only [execOp, Sem.run_bind, Option.map_some, hr w]; rfl⟩
  · obtain ⟨v, hK, hr⟩ := ixaW_sound h; exact ⟨v, hK, fun w => by simp only [execOp, Sem.run_bind, hr w]; rfl⟩
  · obtain ⟨v, hK, hr⟩ := ixW_sound h; exact ⟨v, hK, fun w => by simp only [execOp, Sem.run_bind, hr w]; rfl⟩
  · rename_i x
    cases hif : isIf P ty <;> simp only [hif] at h
    case true =>
      obtain ⟨hr, h⟩ := (show doNC P (ρ x) (K (ρ x)) from h).out
      exact ⟨_, h, fun w => hr _ _ x w rfl rfl⟩
    have h : ncW P (ρ x) K := h
    unfold ncW at h
    split at h
    · rename_i a ha
      obtain ⟨ad, rfl, h⟩ := h
      exact ⟨_, h, fun w => by simp only [execOp, ha]; rfl⟩
    · rename_i f y c ha
      exact ⟨_, h, fun w => by simp only [execOp, ha]; rfl⟩
    · rename_i m y c ha
      obtain ⟨hr, h⟩ := h.out
      exact ⟨_, h, fun w => hr _ _ x w rfl ha⟩
    · exact h.elim
  · rename_i args ts
    split at h
    · rename_i x t hx ht
      obtain ⟨v, hK, hr⟩ := lenW_sound h ty
      refine ⟨v, hK, fun w => ?_⟩
      have e1 : args = #[x] := by apply Array.ext'; simpa using hx
      have e2 : ts = #[t] := by apply Array.ext'; simpa using ht
      subst e1; subst e2
      simp [execOp, resolve, invoke, builtin, hr w]
    · exact h.elim

def ld0 (Rd : Addr → Value → Prop) (z : Value) (a : Addr) (K : Value → Prop) : Prop := like0 z fun v => Rd a v ∧ K v
def ldL (Rd : Addr → Value → Prop) : List Value → Addr → Nat → (List Value → Prop) → Prop
  | [], _, _, K => K []
  | z :: zs, a, i, K => ld0 Rd z (a.add i) fun v => ldL Rd zs a (i + 1) fun vs => K (v :: vs)
def ldA (P : Program) (Rd : Addr → Value → Prop) (t : TypeId) (a : Addr) (z : Value) (K : Value → Prop) : Prop :=
  match z with
  | .agg cs => withSize P t fun n => if n = cs.toList.length then ldL Rd cs.toList a 0 fun vs => K (.agg vs.toArray) else False
  | _ => False
def ldW (P : Program) (Rd : Addr → Value → Prop) (t : TypeId) (a : Addr) (K : Value → Prop) : Prop :=
  match P.underlying t with
  | some (.struct _) => ldA P Rd t a (zeroOf P t) K
  | some (.array _ _) => ldA P Rd t a (zeroOf P t) K
  | some _ => ld0 Rd (zeroOf P t) a K
  | none => False
theorem ld0_sound {Rd : Addr → Value → Prop} {z : Value} {a : Addr} {K : Value → Prop} (h : ld0 Rd z a K) : ∃ v, Rd a v ∧ K v := like0_some h
theorem ldL_sound {Rd : Addr → Value → Prop} : ∀ {zs : List Value} {a : Addr} {i : Nat} {K : List Value → Prop}, ldL Rd zs a i K →
    ∃ vs, vs.length = zs.length ∧ K vs ∧ ∀ j v, vs[j]? = some v → Rd (a.add (i + j)) v
  | [], _, _, _, h => ⟨[], rfl, h, by simp⟩
  | z :: zs, a, i, K, h => by
    obtain ⟨v, hv, h⟩ := ld0_sound h
    obtain ⟨vs, hl, hK, hr⟩ := ldL_sound h
    refine ⟨v :: vs, by simp [hl], hK, fun j u hj => ?_⟩
    cases j with
    | zero => simp only [List.getElem?_cons_zero, Option.some.injEq] at hj; subst hj; exact hv
    | succ j => have := hr j u (by simpa using hj); rwa [show i + (j + 1) = i + 1 + j by omega]
theorem ldA_sound {P : Program} {Rd : Addr → Value → Prop} {t : TypeId} {a : Addr} {z : Value} {K : Value → Prop} (h : ldA P Rd t a z K) :
    ∃ cs : List Value, K (.agg cs.toArray) ∧ (∀ w, (sizeOf t).run P w = .ok cs.length w) ∧ ∀ j v, cs[j]? = some v → Rd (a.add j) v := by
  unfold ldA at h
  split at h
  · obtain ⟨n, h, hs⟩ := withSize_sound h
    split at h
    · rename_i cs hn
      obtain ⟨vs, hl, hK, hr⟩ := ldL_sound h
      exact ⟨vs, hK, by rw [hl, ← hn]; exact hs, fun j v hj => by simpa using hr j v hj⟩
    · exact h.elim
  · exact h.elim
theorem ldW_sound {P : Program} {Rd : Addr → Value → Prop} {t : TypeId} {a : Addr} {K : Value → Prop} (h : ldW P Rd t a K) :
    ∃ v, K v ∧ ∀ w : World, (∀ a v, Rd a v → w.cell? a = some v) → (Instr.loadAt t (.pointer (some a))).run P w = .ok v w := by
  unfold ldW at h
  split at h
  · rename_i fs hu
    obtain ⟨cs, hK, hs, hr⟩ := ldA_sound h
    exact ⟨_, hK, fun w hw => by simp [Instr.loadAt, Instr.sureAddr, loadVar, isAgg, run_underlying hu, hs w, run_loadCells_list w a cs fun j v hj => hw _ _ (hr j v hj)]⟩
  · rename_i len e hu
    obtain ⟨cs, hK, hs, hr⟩ := ldA_sound h
    exact ⟨_, hK, fun w hw => by simp [Instr.loadAt, Instr.sureAddr, loadVar, isAgg, run_underlying hu, hs w, run_loadCells_list w a cs fun j v hj => hw _ _ (hr j v hj)]⟩
  · rename_i d h1 h2 hu
    obtain ⟨v, hv, hK⟩ := ld0_sound h
    refine ⟨v, hK, fun w hw => ?_⟩
    have hag : (isAgg t).run P w = .ok false w := by
      cases d <;> first | (exact absurd rfl (h1 _)) | (exact absurd rfl (h2 _ _)) | simp [isAgg, run_underlying hu]
    simp [Instr.loadAt, Instr.sureAddr, loadVar, hag, hw a v hv]
  · exact h.elim
structure doSt (a : Addr) (v : Value) (w : World) (K : World → Prop) : Prop where
  out : (∃ u, w.cell? a = some u) ∧ w.frozen? a = false ∧ K (w.setCell a v)
def stL : List Value → Addr → Nat → World → (World → Prop) → Prop
  | [], _, _, w, K => K w
  | v :: vs, a, i, w, K =>
    match v with
    | .agg _ => False
    | .tuple _ => False
    | _ => doSt (a.add i) v w fun w' => stL vs a (i + 1) w' K
def stW (P : Program) (t : TypeId) (a : Addr) (v : Value) (w : World) (K : World → Prop) : Prop :=
  withSize P t fun n => if v.cells.size = n then stL v.cells.toList a 0 w K else False
theorem stL_sound {P : Program} : ∀ {vs : List Value} {a : Addr} {i : Nat} {w : World} {K : World → Prop}, stL vs a i w K →
    ∃ w', K w' ∧ (storeCells a vs i).run P w = .ok () w'
  | [], _, _, w, _, h => ⟨w, h, rfl⟩
  | v :: vs, a, i, w, K, h => by
    simp only [stL] at h
    split at h
    · exact h.elim
    · exact h.elim
    · rename_i h1 h2
      obtain ⟨⟨u, hu⟩, hf, h⟩ := h.out
      obtain ⟨w', hK, hr⟩ := stL_sound (P := P) h
      refine ⟨w', hK, ?_⟩
      have hst : (store (a.add i) v).run P w = .ok () (w.setCell (a.add i) v) := by
        cases v <;> first | exact absurd rfl (h1 _) | exact absurd rfl (h2 _) | simp [store, Sem.run, hu, hf]
      simp only [storeCells, Sem.run_bind, hst, Result.andThen_ok, hr]
theorem stW_sound {P : Program} {t : TypeId} {a : Addr} {v : Value} {w : World} {K : World → Prop} (h : stW P t a v w K) :
    ∃ w', K w' ∧ (Instr.storeAt t (.pointer (some a)) v).run P w = .ok () w' := by
  obtain ⟨n, h, hs⟩ := withSize_sound h
  split at h
  · rename_i hn
    obtain ⟨w', hK, hr⟩ := stL_sound (P := P) h
    exact ⟨w', hK, by simp [Instr.storeAt, Instr.sureAddr, storeVar, hs w, hn, hr]⟩
  · exact h.elim

def goV (P : Program) (t : Target) (args : Array Value) (w : World) (R : EW) : Prop :=
  match (invoke t args).run P w with
  | .ok (.value v) w' => R (.returned v) w'
  | .ok .skip w' => R (.returned undef) w'
  | .ok (.enter f ars) w' => Calls P f ars w' R
  | .ok (.row row ars) w' => RowsIn Fence.wide 0 P row ars w' fun v w'' => R (.returned v) w''
  | .ok (.round l f tmps assign body) w' => RoundIn Fence.wide 0 P l f tmps assign body w' R
  | .halt (.panic v) w' => R (.panicked [{ v, recovered := false }]) w'
  | _ => False
def callV (P : Program) (v : Value) (args : Array Value) (w : World) (R : EW) : Prop :=
  match v with
  | .func fn first cap => goV P (.fn fn cap) (first ++ args) w R
  | .nilFunc => goV P .nil args w R
  | _ => False
structure doCall (P : Program) (v : Value) (args : Array Value) (w : World) (R : EW) : Prop where
  out : callV P v args w R
structure doGo (P : Program) (t : Target) (args : Array Value) (w : World) (R : EW) : Prop where
  out : goV P t args w R
def retS (S : Value → World → Prop) (Kp : List PanicEntry → World → Prop) : EW
  | .returned v, w => S v w
  | .panicked ch, w => Kp ch w
  | .outgrown, _ => False
def tupNil : Value → Bool
  | .tuple cs => cs.toList.any fun | .nilFunc => true | _ => false
  | _ => false
def likeN1 : Value → (Value → Prop) → Prop
  | .nilFunc, F => F .nilFunc
  | z, F => like1 z F
def likeNL : List Value → (List Value → Prop) → Prop
  | [], F => F []
  | z :: zs, F => likeN1 z fun v => likeNL zs fun vs => F (v :: vs)
def likeN2 : Value → (Value → Prop) → Prop
  | .tuple cs, F => likeNL cs.toList fun vs => F (.tuple vs.toArray)
  | z, F => like1 z F
theorem likeN1_some {z : Value} {F : Value → Prop} (h : likeN1 z F) : ∃ v, F v := by
  cases z <;> simp only [likeN1] at h <;> first
    | exact ⟨_, h⟩
    | exact like1_some h
theorem likeNL_some : ∀ {zs : List Value} {F : List Value → Prop}, likeNL zs F → ∃ vs, F vs
  | [], _, h => ⟨[], h⟩
  | _ :: _, _, h => by
    obtain ⟨v, h⟩ := likeN1_some h
    obtain ⟨vs, h⟩ := likeNL_some h
    exact ⟨_, h⟩
theorem likeN2_some {z : Value} {F : Value → Prop} (h : likeN2 z F) : ∃ v, F v := by
  cases z <;> simp only [likeN2] at h <;> first
    | exact like1_some h
    | (obtain ⟨vs, h⟩ := likeNL_some h; exact ⟨_, h⟩)
def asR (z v : Value) (K : Value → Prop) : Prop := cond (tupNil z) (asV z v K ∨ likeN2 z fun v' => v = v' ∧ K v') (asV z v K)
theorem asR_sound {z v : Value} {K : Value → Prop} (h : asR z v K) : K v := by
  unfold asR at h
  cases hz : tupNil z <;> rw [hz] at h
  · exact asV_sound h
  · rcases h with h | h
    · exact asV_sound h
    · obtain ⟨v', rfl, h⟩ := likeN2_some h
      exact h
def retK (z : Value) (K : Value → World → Prop) (Kp : List PanicEntry → World → Prop) : EW :=
  retS (fun v w => asR z v fun v' => K v' w) Kp
def hasNil0 : Value → Bool
  | .nilFunc => true
  | _ => false
def hasNil1 : Value → Bool
  | .agg cs => cs.toList.any hasNil0
  | v => hasNil0 v
def hasNil : Value → Bool
  | .tuple cs => cs.toList.any hasNil1
  | v => hasNil1 v
structure doLk (P : Program) (t : TypeId) (m k : Value) (ok : Bool) (w : World) (S : Value → Prop) : Prop where
  out : ∃ v, (Instr.lookup t m k ok).run P w = .ok v w ∧ S v
def lkW (P : Program) (t : TypeId) (m k : Value) (ok : Bool) (w : World) (z : Value) (K : Value → Prop) : Prop :=
  doLk P t m k ok w fun v => cond (hasNil z) (asV z v K ∨ (v = z ∧ K z)) (asV z v K)
theorem lk_sound {z v : Value} {K : Value → Prop} (h : cond (hasNil z) (asV z v K ∨ (v = z ∧ K z)) (asV z v K)) : K v := by
  cases hz : hasNil z <;> rw [hz] at h
  · exact asV_sound h
  · rcases h with h | ⟨rfl, h⟩
    · exact asV_sound h
    · exact h
structure doMu (P : Program) (t : TypeId) (m k x : Value) (w : World) (K : World → Prop) : Prop where
  out : ∃ w', (Instr.mapUpdate t m k x).run P w = .ok () w' ∧ K w'
structure doPanic (P : Program) (v : Value) (w : World) (Kp : List PanicEntry → World → Prop) : Prop where
  out : ∃ u w', (Instr.panic v).run P w = .halt (.panic u) w' ∧ Kp [{ v := u, recovered := false }] w'
structure doTA (P : Program) (x : Value) (xt ars : TypeId) (ok : Bool) (w : World) (S : Value → Prop) : Prop where
  out : ∃ v, (Instr.typeAssert x xt ars ok).run P w = .ok v w ∧ S v
def msW (P : Program) (t : TypeId) (l c : Value) (w : World) (K : Value → World → Prop) : Prop :=
  ∃ p n c' w', (Instr.makeSlice t l c).run P w = .ok (.slice p n c') w' ∧ K (.slice p n c') w'
@[reducible] def blk (b : Nat) : Addr := ⟨b, 0, none⟩
structure doAl (o : Obj) (w : World) (K : Nat → World → Prop) : Prop where
  out : K w.heap.size (w.alloc o)
def bsPure (t : TypeId) (len : Nat) (parts : Array (Nat × Value)) : Sem (TypeId × Array Value) := do
  let .slice elem ← underlying t | stuck "buildSlice: slice type expected"
  let size ← sizeOf elem
  if len * size > 2 ^ 24 then unsupported (.resourceLimit "buildSlice: more than 2^24 cells")
  let zero ← if len * size = 0 then pure #[] else do pure (← zeroValue elem).cells
  let some cells := Instr.fill (fun i => some (i * size, size)) ((Array.range (len * size)).map (zero[· % zero.size]!)) parts.toList
    | stuck "buildSlice: a part of the wrong size"
  pure (elem, cells)
def alW (P : Program) (o : Oper) (ρ : Operand → Value) (w : World) (K : Value → World → Prop) : Prop :=
  match o.op with
  | .alloc t => rp P (zeroValue t) fun z => doAl (.cells z.cells t) w fun b w' => K (.pointer (some ⟨b, 0, none⟩)) w'
  | .box t x => doAl (.cells (ρ x).cells t) w fun b w' => K (.pointer (some ⟨b, 0, none⟩)) w'
  | .buildSlice t n ps => rp P (bsPure t n (ps.map fun (i, x) => (i, ρ x))) fun c => doAl (.cells c.2 c.1) w fun b w' => K (.slice (some ⟨b, 0, none⟩) n n) w'
  | .makeMap _ none => doAl (.map #[] 0) w fun b w' => K (.map (some b)) w'
  | _ => False
theorem run_bs {P : Program} {t : TypeId} {n : Nat} {ps : Array (Nat × Value)} {c : TypeId × Array Value} {w : World} (h : (bsPure t n ps).run P w = .ok c w) :
    (Instr.buildSlice t n ps).run P w = .ok (.slice (some ⟨w.heap.size, 0, none⟩) n n) (w.alloc (.cells c.2 c.1)) := by
  have e : Instr.buildSlice t n ps = (do let c ← bsPure t n ps; pure (.slice (some (← newRow c.1 c.2)) n n)) := by
    unfold Instr.buildSlice bsPure
    simp only [bind_assoc]
    congr 1; funext d
    cases d with
    | slice elem =>
      simp only [bind_assoc]
      congr 1; funext sz
      split
      · rfl
      · split
        · simp only [pure_bind]
          generalize Instr.fill _ _ _ = r
          cases r <;> rfl
        · simp only [bind_assoc, pure_bind]
          congr 1; funext z
          generalize Instr.fill _ _ _ = r
          cases r <;> rfl
    | _ => rfl
  rw [e, Sem.run_bind, h]
  simp only [Result.andThen_ok, newRow, Sem.run_bind]
  rfl
def effW (P : Program) (o : Oper) (ρ : Operand → Value) (w : World) (K : Value → World → Prop) (Kp : List PanicEntry → World → Prop) : Prop :=
  match o.op with
  | .load t x => match ρ x with | .pointer (some a) => ldW P (fun a v => w.cell? a = some v) t a fun v => K v w | _ => False
  | .store t x y => match ρ x with | .pointer (some a) => stW P t a (ρ y) w (K undef) | _ => False
  | .lookup t m k ok => lkW P t (ρ m) (ρ k) ok w (zeroOf P o.type) fun v => K v w
  | .insert t m k x => doMu P t (ρ m) (ρ k) (ρ x) w (K undef)
  | .mapUpdate t m k x => doMu P t (ρ m) (ρ k) (ρ x) w (K undef)
  | .makeSlice t l c => msW P t (ρ l) (ρ c) w K
  | .call { callee := .value f, args := args, .. } => doCall P (ρ f) (args.map ρ) w (retK (zeroOf P o.type) K Kp)
  | .call { callee := .invoke r m, args := args, .. } => doGo P (.fn (.method m) #[]) (#[ρ r] ++ args.map ρ) w (retK (zeroOf P o.type) K Kp)
  | .call { callee := .builtin b, args := args, argTypes := ts } =>
    doGo P (.builtin b ts o.type (args.map fun | .const _ => true | _ => false)) (args.map ρ) w (retK (zeroOf P o.type) K Kp)
  | .alloc _ | .box .. | .buildSlice .. | .makeMap .. => alW P o ρ w K
  | .panic x => doPanic P (ρ x) w Kp
  | .typeAssert x xt ars ok => doTA P (ρ x) xt ars ok w fun v => asV (cond ok (.tuple #[zeroOf P ars, .bool false]) (zeroOf P ars)) v fun v' => K v' w
  | _ => False
def Gives (P : Program) (r : Result Next) (K : Value → World → Prop) (Kp : List PanicEntry → World → Prop) : Prop :=
  match r with
  | .ok (.value v) w' => K v w'
  | .ok .skip w' => K undef w'
  | .ok (.enter f ars) w' => Calls P f ars w' fun | .returned v, w => K v w | .panicked ch, w => Kp ch w | .outgrown, _ => False
  | .ok (.row row ars) w' => RowsIn Fence.wide 0 P row ars w' K
  | .ok (.round l f tmps assign body) w' => RoundIn Fence.wide 0 P l f tmps assign body w' fun | .returned v, w => K v w | .panicked ch, w => Kp ch w | .outgrown, _ => False
  | .halt (.panic v) w' => Kp [{ v, recovered := false }] w'
  | _ => False
theorem retK_gives {z : Value} {K : Value → World → Prop} {Kp : List PanicEntry → World → Prop} : ∀ e w, retK z K Kp e w →
    (match e, w with | .returned v, w => K v w | .panicked ch, w => Kp ch w | .outgrown, _ => False : Prop)
  | .returned _, _, h => asR_sound h
  | .panicked _, _, h => h
  | .outgrown, _, h => h.elim
theorem goV_gives {P : Program} {t : Target} {args : Array Value} {w : World} {z : Value} {K : Value → World → Prop} {Kp : List PanicEntry → World → Prop}
    (h : goV P t args w (retK z K Kp)) : Gives P ((invoke t args).run P w) K Kp := by
  unfold goV at h
  generalize (invoke t args).run P w = r at h
  cases r with
  | ok n w' =>
    cases n <;> simp only [Gives] at h ⊢ <;> first
      | exact asR_sound h
      | exact Calls.mono h fun e w' he => retK_gives e w' he
      | exact RowsIn.mono h fun v w' => asR_sound
      | exact RoundIn.mono h fun e w' he => retK_gives e w' he
      | exact h.elim
  | halt x w' => cases x <;> simp only [Gives] at h ⊢ <;> exact h
theorem callV_gives {P : Program} {v : Value} {args : Array Value} {w : World} {z : Value} {K : Value → World → Prop} {Kp : List PanicEntry → World → Prop}
    (h : callV P v args w (retK z K Kp)) : Gives P ((do let d ← Deferred.ofValue v args; invoke d.target d.args).run P w) K Kp := by
  unfold callV at h
  split at h
  · have := goV_gives h
    simpa [Deferred.ofValue] using this
  · have := goV_gives h
    simpa [Deferred.ofValue] using this
  · exact h.elim
theorem Gives.of_eq {P : Program} {r r' : Result Next} {K : Value → World → Prop} {Kp : List PanicEntry → World → Prop} (h : r = r') (g : Gives P r' K Kp) : Gives P r K Kp := h ▸ g
theorem effW_sound {P : Program} {o : Oper} {ρ : Operand → Value} {w : World} {K : Value → World → Prop} {Kp : List PanicEntry → World → Prop}
    (h : effW P o ρ w K Kp) : Gives P ((execOp ρ o).run P w) K Kp := by
  obtain ⟨dst, op, ty, pos, after, guard⟩ := o
  unfold effW at h
  split at h
  all_goals (first | exact h.elim | (rename_i hop; simp only at hop; subst hop))
  · split at h
    · rename_i a ha
      obtain ⟨v, hK, hr⟩ := ldW_sound h
      refine Gives.of_eq (r' := .ok (.value v) w) ?_ hK
      refine run_v ?_
      rw [ha]; exact hr w fun _ _ h => h
    · exact h.elim
  · split at h
    · rename_i a ha
      obtain ⟨w', hK, hr⟩ := stW_sound h
      refine Gives.of_eq (r' := .ok .skip w') ?_ hK
      refine run_u ?_
      rw [ha]; exact hr
    · exact h.elim
  · obtain ⟨v, hr, hK⟩ := h.out
    exact Gives.of_eq (r' := .ok (.value v) w) (run_v hr) (lk_sound hK)
  · obtain ⟨w', hr, hK⟩ := h.out
    exact Gives.of_eq (r' := .ok .skip w') (run_u hr) hK
  · obtain ⟨w', hr, hK⟩ := h.out
    exact Gives.of_eq (r' := .ok .skip w') (run_u hr) hK
  · obtain ⟨p, n, c', w', hr, hK⟩ := h
    exact Gives.of_eq (r' := .ok (.value (.slice p n c')) w') (run_v hr) hK
  · have := callV_gives h.out
    simpa [execOp, resolve] using this
  · have := goV_gives h.out
    simpa [execOp, resolve] using this
  · refine Gives.of_eq ?_ (goV_gives h.out)
    simp only [execOp, resolve, Sem.run_bind, Sem.run_pure, Result.andThen_ok]
    rfl
  · rename_i t
    obtain ⟨z, hK, hr⟩ := rp_sound (show rp P (zeroValue t) _ from h)
    refine Gives.of_eq (r' := .ok (.value (.pointer (some ⟨w.heap.size, 0, none⟩))) (w.alloc (.cells z.cells t))) ?_ hK.out
    refine run_v ?_
    simp only [Instr.alloc, Sem.run_bind, hr w, Result.andThen_ok]
    rfl
  · rename_i t x
    have h : doAl (.cells (ρ x).cells t) w _ := h
    exact Gives.of_eq (r' := .ok (.value (.pointer (some ⟨w.heap.size, 0, none⟩))) (w.alloc (.cells (ρ x).cells t))) (run_v rfl) h.out
  · rename_i t n ps
    obtain ⟨c, hK, hr⟩ := rp_sound (show rp P (bsPure t n (ps.map fun (i, x) => (i, ρ x))) _ from h)
    exact Gives.of_eq (r' := .ok (.value (.slice (some ⟨w.heap.size, 0, none⟩) n n)) (w.alloc (.cells c.2 c.1))) (run_v (run_bs (hr w))) hK.out
  · rename_i t r
    cases r with
    | none =>
      have h : doAl (.map #[] 0) w _ := h
      exact Gives.of_eq (r' := .ok (.value (.map (some w.heap.size))) (w.alloc (.map #[] 0))) (run_v rfl) h.out
    | some x => exact (show False from h).elim
  · rename_i x
    obtain ⟨u, w', hr, hK⟩ := (show doPanic P (ρ x) w Kp from h).out
    refine Gives.of_eq (r' := .halt (.panic u) w') ?_ hK
    simp only [execOp, Sem.run_bind, hr]
    rfl
  · rename_i x xt ars ok
    obtain ⟨v, hr, hK⟩ := (show doTA P (ρ x) xt ars ok w _ from h).out
    exact Gives.of_eq (r' := .ok (.value v) w) (run_v hr) (asV_sound hK)
def isPtrEq (P : Program) (op : Op) : Bool :=
  match op with
  | .binOp .eql t (.tmp _) (.tmp _) _ => match P.underlying t with | some (.pointer _) => true | _ => false
  | _ => false
structure doPE (P : Program) (op : BinOp) (t : TypeId) (ex ey : Operand) (x y : Value) (w : World) (K : Bool → Prop) : Prop where
  out : ∃ b : Bool, (do eqGuard op t ex ey x y; binOp op t x y).run P w = .ok (.bool b) w ∧ K b
def ptrEqW (P : Program) (op : Op) (ρ : Operand → Value) (w : World) (K : Value → World → Prop) : Prop :=
  match op with
  | .binOp op t ex ey _ => doPE P op t ex ey (ρ ex) (ρ ey) w fun b => K (.bool b) w
  | _ => False
def isBs (P : Program) (op : Op) : Bool :=
  match op with
  | .convert src _ _ => match P.underlying src with | some (.slice _) => true | _ => false
  | _ => false
structure doBs (P : Program) (src dst : TypeId) (x : Value) (w : World) (K : ByteArray → Prop) : Prop where
  out : ∃ s, (convert src dst x).run P w = .ok (.string s) w ∧ K s
def bsW (P : Program) (op : Op) (ρ : Operand → Value) (w : World) (K : Value → World → Prop) : Prop :=
  match op with
  | .convert src dst x => doBs P src dst (ρ x) w fun s => K (.string s) w
  | _ => False
def exec1 (P : Program) (o : Oper) (ρ : Operand → Value) (w : World) (K : Value → World → Prop) (Kp : List PanicEntry → World → Prop) : Prop :=
  cond (isPtrEq P o.op) (ptrEqW P o.op ρ w K) (cond (isBs P o.op) (bsW P o.op ρ w K) (cond (isPure o.op) (pureW P o ρ fun v => K v w) (effW P o ρ w K Kp)))
theorem exec1_sound {P : Program} {o : Oper} {ρ : Operand → Value} {w : World} {K : Value → World → Prop} {Kp : List PanicEntry → World → Prop}
    (h : exec1 P o ρ w K Kp) : Gives P ((execOp ρ o).run P w) K Kp := by
  unfold exec1 at h
  cases hq : isPtrEq P o.op <;> rw [hq] at h
  · cases hb : isBs P o.op <;> rw [hb] at h
    · cases hp : isPure o.op <;> rw [hp] at h
      · exact effW_sound h
      · have h : pureW P o ρ fun v => K v w := h
        obtain ⟨v, hK, hr⟩ := pureW_sound h
        rw [hr w]; exact hK
    · have h : bsW P o.op ρ w K := h
      obtain ⟨dst, op, ty, pos, after, guard⟩ := o
      unfold bsW at h
      split at h
      · rename_i src dst' x hop
        simp only at hop
        subst hop
        obtain ⟨s, hr, hK⟩ := h.out
        have e : (execOp ρ ⟨dst, .convert src dst' x, ty, pos, after, guard⟩).run P w = .ok (.value (.string s)) w := run_v hr
        rw [e]; exact hK
      · exact h.elim
  · have h : ptrEqW P o.op ρ w K := h
    obtain ⟨dst, op, ty, pos, after, guard⟩ := o
    unfold ptrEqW at h
    split at h
    · rename_i op' t ex ey yt hop
      simp only at hop
      subst hop
      obtain ⟨b, hr, hK⟩ := h.out
      have e : (execOp ρ ⟨dst, .binOp op' t ex ey yt, ty, pos, after, guard⟩).run P w = .ok (.value (.bool b)) w := run_v hr
      rw [e]; exact hK
    · exact h.elim
def noDefer (o : Oper) : Bool := match o.op with | .defer _ => false | .select .. => false | _ => true
theorem wpIn_of_gives {P : Program} {ro : Option Nat} {o : Oper} {a : Act} {w : World} {next : Act → World → Prop} {Q : Exit → Act → World → Prop}
    (hd : noDefer o = true) (h : Gives P ((execOp a.eval o).run P w) (fun v w' => next (a.put o.dst v) w') (fun ch w' => Q (.panic ch) a w')) : o.wpIn (fen ro) 0 P a w next Q := by
  refine ⟨fun _ _ => trivial, ?_⟩
  rw [Oper.semAt_eq _ _ _ (fun c hc => by simp [noDefer, hc] at hd)]
  generalize (execOp a.eval o).run P w = r at h
  cases r with
  | ok n w' =>
    cases n <;> simp only [Gives] at h <;> simp only [Oper.uponIn] <;> first
      | exact h
      | exact h.elim
      | exact ⟨fun hx => (by simp [fen, Fence.wide] at hx), (callsIn_wide (n := 0 - 1)).2 (Calls.mono h fun e w'' he => by cases e <;> first | exact he | exact he.elim)⟩
      | exact ⟨fun hx => (by simp [fen, Fence.wide] at hx), h⟩
      | exact ⟨fun hx => (by simp [fen, Fence.wide] at hx), RoundIn.mono h fun e w'' he => by cases e <;> first | exact he | exact he.elim⟩
  | halt x w' => cases x <;> simp only [Gives] at h <;> simp only [Oper.uponIn] <;> exact h
end Go.Sh

