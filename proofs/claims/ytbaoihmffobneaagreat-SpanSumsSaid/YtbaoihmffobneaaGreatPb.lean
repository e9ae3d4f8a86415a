/-
  A small evaluator of the model's code, as a predicate transformer that computes on concrete code, and its soundness against the kit's calculus. No claim of its own.
-/
/-
  The evaluator, regions: in order, and in whatever order. No claim of its own.
-/
/-
  The evaluator, code: sequences, tests, blocks, loops, ranges over a function; a function's contract. No claim of its own.
-/
import Derived.OrdersIn
import Derived.RangeFuncLeaves
import Derived.KernelRfl
import Derived.RowKit3
import Derived.Below
import Derived.Laws.StructEq
import Derived.Laws.IdiomCopy
import Derived.RangeFuncRecord
import Derived.RangeFuncNested

namespace Go.Sh
open Go

def fen (ro : Option Nat) : Fence := { Fence.wide with round := ro }

/-- A choice by a bool that reduces where the bool is known. -/
def ifB (b : Bool) (X Y : Prop) : Prop := cond b X Y
theorem ifB_intro {b : Bool} {X Y : Prop} (h1 : b = true → X) (h2 : b = false → Y) : ifB b X Y := by
  cases b
  · exact h2 rfl
  · exact h1 rfl
theorem ifB_cases {b : Bool} {X Y : Prop} (h : ifB b X Y) : (b = true ∧ X) ∨ (b = false ∧ Y) := by
  cases b
  · exact .inr ⟨rfl, h⟩
  · exact .inl ⟨rfl, h⟩

/-! ### Values of the shape of a template -/
def like0 : Value → (Value → Prop) → Prop
  | .bool _, F => ∃ b, F (.bool b)
  | .int k _, F => ∃ n, F (.int k n)
  | .string _, F => ∃ s, F (.string s)
  | .pointer _, F => ∃ p, F (.pointer p)
  | .slice _ _ _, F => ∃ p n c, F (.slice p n c)
  | .map _, F => ∃ m, F (.map m)
  | .nilFunc, F => ∃ f x c, F (.func f x c)
  | _, F => ∃ v, F v
def likeL0 : List Value → (List Value → Prop) → Prop
  | [], F => F []
  | z :: zs, F => like0 z fun v => likeL0 zs fun vs => F (v :: vs)
def like1 : Value → (Value → Prop) → Prop
  | .agg cs, F => likeL0 cs.toList fun vs => F (.agg vs.toArray)
  | z, F => like0 z F
def likeL1 : List Value → (List Value → Prop) → Prop
  | [], F => F []
  | z :: zs, F => like1 z fun v => likeL1 zs fun vs => F (v :: vs)
def like2 : Value → (Value → Prop) → Prop
  | .tuple cs, F => likeL1 cs.toList fun vs => F (.tuple vs.toArray)
  | z, F => like1 z F
theorem like0_some {z : Value} {F : Value → Prop} (h : like0 z F) : ∃ v, F v := by
  cases z <;> simp only [like0] at h <;> first
    | exact ⟨_, h.choose_spec⟩
    | (obtain ⟨a, b, c, h⟩ := h; exact ⟨_, h⟩)
theorem likeL0_some : ∀ {zs : List Value} {F : List Value → Prop}, likeL0 zs F → ∃ vs, F vs
  | [], _, h => ⟨[], h⟩
  | _ :: _, _, h => by
    obtain ⟨v, h⟩ := like0_some h
    obtain ⟨vs, h⟩ := likeL0_some h
    exact ⟨_, h⟩
theorem like1_some {z : Value} {F : Value → Prop} (h : like1 z F) : ∃ v, F v := by
  cases z <;> simp only [like1] at h <;> first
    | exact like0_some h
    | (obtain ⟨vs, h⟩ := likeL0_some h; exact ⟨_, h⟩)
theorem likeL1_some : ∀ {zs : List Value} {F : List Value → Prop}, likeL1 zs F → ∃ vs, F vs
  | [], _, h => ⟨[], h⟩
  | _ :: _, _, h => by
    obtain ⟨v, h⟩ := like1_some h
    obtain ⟨vs, h⟩ := likeL1_some h
    exact ⟨_, h⟩
theorem like2_some {z : Value} {F : Value → Prop} (h : like2 z F) : ∃ v, F v := by
  cases z <;> simp only [like2] at h <;> first
    | exact like1_some h
    | (obtain ⟨vs, h⟩ := likeL1_some h; exact ⟨_, h⟩)
/-- v is of the template's shape, and K holds of it, written out. -/
def asV (z v : Value) (K : Value → Prop) : Prop := like2 z fun v' => v = v' ∧ K v'
theorem asV_sound {z v : Value} {K : Value → Prop} (h : asV z v K) : K v := by
  obtain ⟨v', rfl, h⟩ := like2_some h
  exact h

def zeroOf (P : Program) (t : TypeId) : Value := ((P.info? t).bind (·.zero)).getD undef

/-! ### Pure operations -/
def pureRun {α : Type} (P : Program) : Sem α → Option α
  | .pure a => some a
  | .program k => pureRun P (k P)
  | _ => none
theorem pureRun_sound {α : Type} {P : Program} : ∀ {s : Sem α} {v : α}, pureRun P s = some v → ∀ w, s.run P w = .ok v w
  | .pure a, v, h, w => by simp only [pureRun, Option.some.injEq] at h; subst h; rfl
  | .program k, v, h, w => by simp only [pureRun] at h; exact pureRun_sound (s := k P) h w
  | .load .., _, h, _ | .store .., _, h, _ | .new .., _, h, _ | .shape .., _, h, _ | .freeze .., _, h, _ | .frozen .., _, h, _ | .getObj .., _, h, _
  | .setObj .., _, h, _ | .choose .., _, h, _ | .sys .., _, h, _ | .mark .., _, h, _ | .halt .., _, h, _ => by simp [pureRun] at h
def rp {α : Type} (P : Program) (s : Sem α) (K : α → Prop) : Prop :=
  match pureRun P s with
  | some v => K v
  | none => False
theorem rp_sound {α : Type} {P : Program} {s : Sem α} {K : α → Prop} (h : rp P s K) : ∃ v, K v ∧ ∀ w, s.run P w = .ok v w := by
  unfold rp at h
  split at h
  · exact ⟨_, h, pureRun_sound (by assumption)⟩
  · exact h.elim

def divK (b : Int) (v : Value) (K : Value → Prop) : Prop := b ≠ 0 ∧ K v
def shK (b : Int) (v : Value) (K : Value → Prop) : Prop := 0 ≤ b ∧ K v
/-- Whether two structs of plain fields are the same, field by field. -/
def eqFs (P : Program) (xs ys : Array Value) : List Field → (Bool → Prop) → Prop
  | [], F => F true
  | f :: fs, F =>
    if f.name = "_" then False else
    match xs[f.offset]?, ys[f.offset]?, P.underlying f.type with
    | some (.int k a), some (.int k' b), some (.int _) => if k = k' then eqFs P xs ys fs fun r => F ((a == b) && r) else False
    | some (.bool a), some (.bool b), some .bool => eqFs P xs ys fs fun r => F ((a == b) && r)
    | _, _, _ => False
def eqAgg (P : Program) (t : TypeId) (xs ys : Array Value) (F : Bool → Prop) : Prop :=
  match P.underlying t with
  | some (.struct fs) => if P.stoodInHeld t = false ∧ P.eqGuardType P.depth t = false then eqFs P xs ys fs.toList F else False
  | _ => False
theorem eqFs_sound {P : Program} {xs ys : Array Value} (d : Nat) : ∀ {fs : List Field} {F : Bool → Prop}, eqFs P xs ys fs F →
    ∃ r, F r ∧ ∀ w, (Op.eqFields (d + 1) xs ys fs).run P w = .ok r w
  | [], F, h => ⟨true, h, fun _ => rfl⟩
  | f :: fs, F, h => by
    simp only [eqFs] at h
    split at h
    · exact h.elim
    rename_i hn
    split at h
    · rename_i k a k' b k'' hx hy hu
      split at h
      · rename_i hk; subst hk
        obtain ⟨r, hF, hr⟩ := eqFs_sound d h
        refine ⟨_, hF, fun w => ?_⟩
        simp only [Op.eqFields, ne_eq, hn, not_false_eq_true, if_true, part, isAgg, Sem.run_bind, run_underlying hu, Result.andThen_ok, Sem.run_pure, Bool.false_eq_true, if_false, hx, hy, run_equalIn_int w d f.type k k'' a b hu]
        cases hab : a == b <;> simp [hr w]
      · exact h.elim
    · rename_i a b hx hy hu
      obtain ⟨r, hF, hr⟩ := eqFs_sound d h
      refine ⟨_, hF, fun w => ?_⟩
      simp only [Op.eqFields, ne_eq, hn, not_false_eq_true, if_true, part, isAgg, Sem.run_bind, run_underlying hu, Result.andThen_ok, Sem.run_pure, Bool.false_eq_true, if_false, hx, hy, run_equalIn_bool' w d f.type a b hu]
      cases hab : a == b <;> simp [hr w]
    · exact h.elim
theorem eqAgg_sound {P : Program} {t : TypeId} {xs ys : Array Value} {F : Bool → Prop} (h : eqAgg P t xs ys F) :
    ∃ r, F r ∧ P.eqGuardType P.depth t = false ∧ ∀ w, (Op.equal t (.agg xs) (.agg ys)).run P w = .ok r w := by
  unfold eqAgg at h
  split at h
  · rename_i fs hu
    split at h
    · rename_i hc
      obtain ⟨r, hF, hr⟩ := eqFs_sound 9998 h
      refine ⟨r, hF, hc.2, fun w => ?_⟩
      have hf : P.fieldsOf t = fs := by simp [Program.fieldsOf, hu]
      have := run_equalIn_struct (P := P) w 9999 t xs ys (by rw [hf]; exact hu) hc.1
      rw [hf] at this
      exact this.trans (hr w)
    · exact h.elim
  · exact h.elim
/-- The operations on two values that do not look at memory. -/
def binW0 (P : Program) (op : BinOp) (t : TypeId) (ex ey : Operand) (x y : Value) (K : Value → Prop) : Prop :=
  match op, x, y with
  | .quo, .int k a, .int k' b => if k = k' then divK b (.int k (k.wrap (a.tdiv b))) K else False
  | .rem, .int k a, .int k' b => if k = k' then divK b (.int k (a.tmod b)) K else False
  | .shl, .int k a, .int _ b => shK b (.int k (k.wrap (a * 2 ^ (min b.toNat k.bits)))) K
  | .shr, .int k a, .int _ b => shK b (.int k (a.fdiv (2 ^ (min b.toNat k.bits)))) K
  | .eql, .pointer p, .pointer none => match P.underlying t with | some (.pointer _) => K (.bool p.isNone) | _ => False
  | .neq, .pointer p, .pointer none => match P.underlying t with | some (.pointer _) => K (.bool (!p.isNone)) | _ => False
  | .eql, .slice p _ _, .slice none _ _ => match P.underlying t with | some (.slice _) => K (.bool p.isNone) | _ => False
  | .neq, .slice p _ _, .slice none _ _ => match P.underlying t with | some (.slice _) => K (.bool (!p.isNone)) | _ => False
  | .eql, .agg xs, .agg ys => eqAgg P t xs ys fun r => K (.bool r)
  | .neq, .agg xs, .agg ys => eqAgg P t xs ys fun r => K (.bool (!r))
  | op, x, y => rp P (do eqGuard op t ex ey x y; binOp op t x y) K
theorem run_eql_ptr {P : Program} {t e : TypeId} (h : P.underlying t = some (.pointer e)) (p : Option Addr) (w : World) :
    (Op.equal t (.pointer p) (.pointer none)).run P w = .ok p.isNone w := by
  have key : ∀ d, (Op.equalIn (d + 1) t (.pointer p) (.pointer none)).run P w = .ok p.isNone w := fun d => by
    cases p <;> simp [Op.equalIn, run_underlying h]
  exact key 9999
theorem run_eql_slice {P : Program} {t e : TypeId} (h : P.underlying t = some (.slice e)) (p : Option Addr) (n c m d : Nat) (w : World) :
    (Op.equal t (.slice p n c) (.slice none m d)).run P w = .ok p.isNone w := by
  have key : ∀ d', (Op.equalIn (d' + 1) t (.slice p n c) (.slice none m d)).run P w = .ok p.isNone w := fun d' => by
    cases p <;> simp [Op.equalIn, run_underlying h]
  exact key 9999
theorem binW0_sound {P : Program} {op : BinOp} {t : TypeId} {ex ey : Operand} {x y : Value} {K : Value → Prop} (h : binW0 P op t ex ey x y K) :
    ∃ v, K v ∧ ∀ w, (do eqGuard op t ex ey x y; binOp op t x y).run P w = .ok v w := by
  unfold binW0 at h
  split at h
  · rename_i k a k' b
    split at h
    · rename_i hk; subst hk
      obtain ⟨h0, h⟩ := h
      exact ⟨_, h, fun w => by simp [eqGuard, binOp, Op.intDiv, h0]⟩
    · exact h.elim
  · rename_i k a k' b
    split at h
    · rename_i hk; subst hk
      obtain ⟨h0, h⟩ := h
      exact ⟨_, h, fun w => by simp [eqGuard, binOp, Op.intDiv, h0]⟩
    · exact h.elim
  · obtain ⟨h0, h⟩ := h
    exact ⟨_, h, fun w => by simp [eqGuard, binOp, Op.shift, Int.not_lt.2 h0]⟩
  · obtain ⟨h0, h⟩ := h
    exact ⟨_, h, fun w => by simp [eqGuard, binOp, Op.shift, Int.not_lt.2 h0]⟩
  · rename_i p
    split at h
    · rename_i e hu
      exact ⟨_, h, fun w => by simp [eqGuard, binOp, run_eql_ptr hu, Result.andThen]⟩
    · exact h.elim
  · rename_i p
    split at h
    · rename_i e hu
      exact ⟨_, h, fun w => by simp [eqGuard, binOp, run_eql_ptr hu, Result.andThen]⟩
    · exact h.elim
  · rename_i p _ _ _ _
    split at h
    · rename_i e hu
      exact ⟨_, h, fun w => by simp [eqGuard, binOp, run_eql_slice hu, Result.andThen]⟩
    · exact h.elim
  · rename_i p _ _ _ _
    split at h
    · rename_i e hu
      exact ⟨_, h, fun w => by simp [eqGuard, binOp, run_eql_slice hu, Result.andThen]⟩
    · exact h.elim
  · obtain ⟨r, hF, hg, hr⟩ := eqAgg_sound h
    exact ⟨_, hF, fun w => by simp only [Sem.run_bind, run_eqGuard_agg w .eql t ex ey _ _ hg, Result.andThen_ok, binOp, hr w, Sem.run_pure]⟩
  · obtain ⟨r, hF, hg, hr⟩ := eqAgg_sound h
    exact ⟨_, hF, fun w => by simp only [Sem.run_bind, run_eqGuard_agg w .neq t ex ey _ _ hg, Result.andThen_ok, binOp, hr w, Sem.run_pure]⟩
  · exact rp_sound h
/-- A value of an interface, held against nil. -/
structure doEqN (P : Program) (op : BinOp) (t : TypeId) (ex ey : Operand) (x : Value) (K : Bool → Prop) : Prop where
  out : ∃ b : Bool, (∀ w, (do eqGuard op t ex ey x .nilIface; binOp op t x .nilIface).run P w = .ok (.bool b) w) ∧ K b
def binW (P : Program) (op : BinOp) (t : TypeId) (ex ey : Operand) (x y : Value) (K : Value → Prop) : Prop :=
  match y with
  | .nilIface => doEqN P op t ex ey x fun b => K (.bool b)
  | y => binW0 P op t ex ey x y K
theorem binW_sound {P : Program} {op : BinOp} {t : TypeId} {ex ey : Operand} {x y : Value} {K : Value → Prop} (h : binW P op t ex ey x y K) :
    ∃ v, K v ∧ ∀ w, (do eqGuard op t ex ey x y; binOp op t x y).run P w = .ok v w := by
  unfold binW at h
  split at h
  · obtain ⟨b, hr, h⟩ := h.out
    exact ⟨_, h, hr⟩
  · exact binW0_sound h

/-- A slice expression on a slice. -/
structure doSl (a : Option Addr) (cap sz : Nat) (l h : Int) (K : Option Addr → Nat → Nat → Prop) : Prop where
  out : 0 ≤ l ∧ l ≤ h ∧ h ≤ cap ∧ K (if cap = l.toNat then a else a.map (·.add (l.toNat * sz))) (h.toNat - l.toNat) (cap - l.toNat)
def slK (a : Option Addr) (cap sz : Nat) (l h : Int) (K : Value → Prop) : Prop := doSl a cap sz l h fun p n c => K (.slice p n c)
/-- A slice expression on a string. -/
structure doSs (s : ByteArray) (l h : Int) (K : ByteArray → Prop) : Prop where
  out : 0 ≤ l ∧ l ≤ h ∧ h ≤ s.size ∧ K (s.extract l.toNat h.toNat)
def ssK (s : ByteArray) (l h : Int) (K : Value → Prop) : Prop := doSs s l h fun q => K (.string q)
def withSize (P : Program) (e : TypeId) (F : Nat → Prop) : Prop :=
  match P.info? e with
  | some i => F i.size
  | none => False
def slW (P : Program) (t : TypeId) (x : Value) (lo hi : Option Value) (K : Value → Prop) : Prop :=
  match P.underlying t, x, lo, hi with
  | some (.slice e), .slice a _ cap, some (.int _ l), some (.int _ h) => withSize P e fun sz => slK a cap sz l h K
  | some (.slice e), .slice a n cap, some (.int _ l), none => withSize P e fun sz => slK a cap sz l n K
  | some (.slice e), .slice a _ cap, none, some (.int _ h) => withSize P e fun sz => slK a cap sz 0 h K
  | some (.slice e), .slice a n cap, none, none => withSize P e fun sz => slK a cap sz 0 n K
  | some .string, .string s, some (.int _ l), some (.int _ h) => ssK s l h K
  | some .string, .string s, some (.int _ l), none => ssK s l s.size K
  | some .string, .string s, none, some (.int _ h) => ssK s 0 h K
  | _, _, _, _ => False
/-- A slice expression of three numbers. -/
structure doSlm (a : Option Addr) (cap sz : Nat) (l h m : Int) (K : Option Addr → Nat → Nat → Prop) : Prop where
  out : 0 ≤ l ∧ l ≤ h ∧ h ≤ m ∧ m ≤ cap ∧ K (if m.toNat = l.toNat then a else a.map (·.add (l.toNat * sz))) (h.toNat - l.toNat) (m.toNat - l.toNat)
def sl3K (a : Option Addr) (cap sz : Nat) (l h m : Int) (K : Value → Prop) : Prop := doSlm a cap sz l h m fun p n c => K (.slice p n c)
def sl3W (P : Program) (t : TypeId) (x : Value) (lo : Option Value) (h m : Value) (K : Value → Prop) : Prop :=
  match P.underlying t, x, lo, h, m with
  | some (.slice e), .slice a _ cap, some (.int _ l), .int _ h, .int _ m => withSize P e fun sz => sl3K a cap sz l h m K
  | some (.slice e), .slice a _ cap, none, .int _ h, .int _ m => withSize P e fun sz => sl3K a cap sz 0 h m K
  | _, _, _, _, _ => False
/-- The address of an element of a slice. -/
structure doIx (a : Option Addr) (len sz : Nat) (i : Int) (K : Addr → Prop) : Prop where
  out : ∃ ad, a = some ad ∧ 0 ≤ i ∧ i < len ∧ K (ad.add (i.toNat * sz))
def ixK (a : Option Addr) (len sz : Nat) (i : Int) (K : Value → Prop) : Prop := doIx a len sz i fun ad => K (.pointer (some ad))
def ixaW (P : Program) (t : TypeId) (x i : Value) (K : Value → Prop) : Prop :=
  match P.underlying t, x, i with
  | some (.slice e), .slice a len _, .int _ i => withSize P e fun sz => ixK a len sz i K
  | some (.array len e), .pointer a, .int _ i => withSize P e fun sz => ixK a len sz i K
  | _, _, _ => False
/-- A byte of a string. -/
def sbK (s : ByteArray) (i : Int) (K : Value → Prop) : Prop := ∃ b, 0 ≤ i ∧ s[i.toNat]? = some b ∧ K (.int .u8 b.toNat)
/-- An element of an array. -/
structure doIxV (P : Program) (t : TypeId) (x i : Value) (K : Value → Prop) : Prop where
  out : ∃ v, (∀ w, (Instr.index t x i).run P w = .ok v w) ∧ K v
def ixW (P : Program) (t : TypeId) (x i : Value) (K : Value → Prop) : Prop :=
  match P.underlying t, x, i with
  | some .string, .string s, .int _ i => sbK s i K
  | some (.array _ e), x, i => doIxV P t x i fun v => asV (zeroOf P e) v K
  | _, _, _ => False
def ncK (a : Option Addr) (K : Value → Prop) : Prop := ∃ ad, a = some ad ∧ K (.pointer (some ad))
/-- A method of an interface's value that is there. -/
structure doNC (P : Program) (v : Value) (K : Prop) : Prop where
  out : (∀ (ρ : Operand → Value) (o : Oper) (x : Operand) (w : World), o.op = .nilCheck x → ρ x = v → (execOp ρ o).run P w = .ok (.value v) w) ∧ K
def ncW (P : Program) (x : Value) (K : Value → Prop) : Prop :=
  match x with
  | .pointer a => ncK a K
  | .func (.func f) x c => K (.func (.func f) x c)
  | .func (.method m) x c => doNC P (.func (.method m) x c) (K (.func (.method m) x c))
  | _ => False
def lenW (P : Program) (t : TypeId) (x : Value) (K : Value → Prop) : Prop :=
  match P.underlying t, x with
  | some (.slice _), .slice _ n _ => K (.int .i64 n)
  | some .string, .string s => K (.int .i64 s.size)
  | _, _ => False

def pureW (P : Program) (o : Oper) (ρ : Operand → Value) (K : Value → Prop) : Prop :=
  match o.op with
  | .move x | .assign x => K (ρ x)
  | .pick c a b => match ρ c with | .bool t => ifB t (K (ρ a)) (K (ρ b)) | _ => False
  | .binOp op t x y _ => binW P op t x y (ρ x) (ρ y) K
  | .unOp op _ x => rp P (Op.unary op (ρ x)) K
  | .convert s d x => rp P (convert s d (ρ x)) K
  | .makeInterface t x => rp P (Instr.makeInterface t (ρ x)) K
  | .makeFunc fn x c => K (.func fn (x.map ρ) (c.map ρ))
  | .fieldAddr s x f => rp P (Instr.fieldAt s (ρ x) f) K
  | .field t x f => rp P (Instr.field t (ρ x) f) K
  | .extract t i => rp P (Instr.extract (ρ t) i) K
  | .build t ps => rp P (Instr.build t (ps.map fun (i, x) => (i, ρ x))) K
  | .slice t x lo hi none => slW P t (ρ x) (lo.map ρ) (hi.map ρ) K
  | .slice t x lo (some h) (some m) => sl3W P t (ρ x) (lo.map ρ) (ρ h) (ρ m) K
  | .indexAddr t x i => ixaW P t (ρ x) (ρ i) K
  | .index t x i => ixW P t (ρ x) (ρ i) K
  | .nilCheck x => ncW P (ρ x) K
  | .call { callee := .builtin .len, args := args, argTypes := ts } => match args.toList, ts.toList with | [x], [t] => lenW P t (ρ x) K | _, _ => False
  | _ => False
def isPure : Op → Bool
  | .move _ | .assign _ | .pick .. | .binOp .. | .unOp .. | .convert .. | .makeInterface .. | .makeFunc .. | .fieldAddr .. | .field .. | .extract .. | .build .. | .indexAddr .. | .index .. | .nilCheck _ => true
  | .slice _ _ _ _ none => true
  | .slice _ _ _ (some _) (some _) => true
  | .call { callee := .builtin .len, .. } => true
  | _ => false

theorem withSize_sound {P : Program} {e : TypeId} {F : Nat → Prop} (h : withSize P e F) : ∃ n, F n ∧ ∀ w, (sizeOf e).run P w = .ok n w := by
  unfold withSize at h
  split at h
  · rename_i i hi
    exact ⟨_, h, fun w => by simp [sizeOf, typeInfo, program, Sem.run, hi, bind, Sem.bind, pure]⟩
  · exact h.elim
def bd (d : Int) : Option Value → Int → Prop
  | none, n => n = d
  | some (.int _ i), n => i = n
  | _, _ => False
theorem slK_sound {P : Program} {t e : TypeId} (hu : P.underlying t = some (.slice e)) {a : Option Addr} {n cap sz : Nat} {l h : Int} {K : Value → Prop} {lo hi : Option Value}
    (hs : ∀ w, (sizeOf e).run P w = .ok sz w) (hl : bd 0 lo l) (hh : bd n hi h) (hK : slK a cap sz l h K) :
    ∃ v, K v ∧ ∀ w, (Instr.sliceAt t (.slice a n cap) lo hi none).run P w = .ok v w := by
  obtain ⟨h1, h2, h3, hK⟩ := hK.out
  refine ⟨_, hK, fun w => ?_⟩
  obtain ⟨l', rfl⟩ := Int.eq_ofNat_of_zero_le h1
  obtain ⟨h', rfl⟩ := Int.eq_ofNat_of_zero_le (Int.le_trans h1 h2)
  have a1 : l' ≤ h' := by omega
  have a2 : h' ≤ cap := by omega
  cases hi with
  | none =>
    simp only [bd] at hh
    obtain rfl : h' = n := by omega
    cases lo with
    | none =>
      simp only [bd] at hl
      obtain rfl : l' = 0 := by omega
      simp [Instr.sliceAt, Instr.slice, Instr.sliceBounds, run_underlying hu, hs w]
    | some v =>
      cases v <;> simp only [bd] at hl
      subst hl
      simp [Instr.sliceAt, Instr.slice, Instr.sliceBounds, Instr.sliceBound, asIntOf, run_underlying hu, hs w, a1]
  | some v =>
    cases v <;> simp only [bd] at hh
    subst hh
    cases lo with
    | none =>
      simp only [bd] at hl
      obtain rfl : l' = 0 := by omega
      simp [Instr.sliceAt, Instr.slice, Instr.sliceBounds, Instr.sliceBound, asIntOf, run_underlying hu, hs w, a2]
    | some v =>
      cases v <;> simp only [bd] at hl
      subst hl
      simp [Instr.sliceAt, Instr.slice, Instr.sliceBounds, Instr.sliceBound, asIntOf, run_underlying hu, hs w, a2, a1]
theorem ssK_sound {P : Program} {t : TypeId} (hu : P.underlying t = some .string) {s : ByteArray} {l h : Int} {K : Value → Prop} {lo hi : Option Value}
    (hl : bd 0 lo l) (hh : bd s.size hi h) (hK : ssK s l h K) :
    ∃ v, K v ∧ ∀ w, (Instr.sliceAt t (.string s) lo hi none).run P w = .ok v w := by
  obtain ⟨h1, h2, h3, hK⟩ := hK.out
  refine ⟨_, hK, fun w => ?_⟩
  obtain ⟨l', rfl⟩ := Int.eq_ofNat_of_zero_le h1
  obtain ⟨h', rfl⟩ := Int.eq_ofNat_of_zero_le (Int.le_trans h1 h2)
  have a1 : l' ≤ h' := by omega
  have a2 : h' ≤ s.size := by omega
  cases hi with
  | none =>
    simp only [bd] at hh
    obtain rfl : h' = s.size := by omega
    cases lo with
    | none =>
      simp only [bd] at hl
      obtain rfl : l' = 0 := by omega
      simp [Instr.sliceAt, Instr.slice, Instr.sliceBounds, run_underlying hu]
    | some v =>
      cases v <;> simp only [bd] at hl
      subst hl
      simp [Instr.sliceAt, Instr.slice, Instr.sliceBounds, Instr.sliceBound, asIntOf, run_underlying hu, a1]
  | some v =>
    cases v <;> simp only [bd] at hh
    subst hh
    cases lo with
    | none =>
      simp only [bd] at hl
      obtain rfl : l' = 0 := by omega
      simp [Instr.sliceAt, Instr.slice, Instr.sliceBounds, Instr.sliceBound, asIntOf, run_underlying hu, a2]
    | some v =>
      cases v <;> simp only [bd] at hl
      subst hl
      simp [Instr.sliceAt, Instr.slice, Instr.sliceBounds, Instr.sliceBound, asIntOf, run_underlying hu, a2, a1]
theorem slW_sound {P : Program} {t : TypeId} {x : Value} {lo hi : Option Value} {K : Value → Prop} (h : slW P t x lo hi K) :
    ∃ v, K v ∧ ∀ w, (Instr.sliceAt t x lo hi none).run P w = .ok v w := by
  unfold slW at h
  split at h
  · rename_i hu; obtain ⟨sz, h, hs⟩ := withSize_sound h; exact slK_sound hu hs rfl rfl h
  · rename_i hu; obtain ⟨sz, h, hs⟩ := withSize_sound h; exact slK_sound hu hs rfl rfl h
  · rename_i hu; obtain ⟨sz, h, hs⟩ := withSize_sound h; exact slK_sound hu hs rfl rfl h
  · rename_i hu; obtain ⟨sz, h, hs⟩ := withSize_sound h; exact slK_sound hu hs rfl rfl h
  · rename_i hu; exact ssK_sound hu rfl rfl h
  · rename_i hu; exact ssK_sound hu rfl rfl h
  · rename_i hu; exact ssK_sound hu rfl rfl h
  · exact h.elim
theorem sl3K_sound {P : Program} {t e : TypeId} (hu : P.underlying t = some (.slice e)) {a : Option Addr} {n cap sz : Nat} {l h m : Int} {kh km : IntKind} {K : Value → Prop} {lo : Option Value}
    (hs : ∀ w, (sizeOf e).run P w = .ok sz w) (hl : bd 0 lo l) (hK : sl3K a cap sz l h m K) :
    ∃ v, K v ∧ ∀ w, (Instr.sliceAt t (.slice a n cap) lo (some (.int kh h)) (some (.int km m))).run P w = .ok v w := by
  obtain ⟨h1, h2, h3, h4, hK⟩ := hK.out
  refine ⟨_, hK, fun w => ?_⟩
  obtain ⟨l', rfl⟩ := Int.eq_ofNat_of_zero_le h1
  obtain ⟨h', rfl⟩ := Int.eq_ofNat_of_zero_le (Int.le_trans h1 h2)
  obtain ⟨m', rfl⟩ := Int.eq_ofNat_of_zero_le (Int.le_trans (Int.le_trans h1 h2) h3)
  have a1 : l' ≤ h' := by omega
  have a2 : h' ≤ m' := by omega
  have a3 : m' ≤ cap := by omega
  cases lo with
  | none =>
    simp only [bd] at hl
    obtain rfl : l' = 0 := by omega
    simp [Instr.sliceAt, Instr.slice, Instr.sliceBounds, Instr.sliceBound, asIntOf, run_underlying hu, hs w, a2, a3]
  | some v =>
    cases v <;> simp only [bd] at hl
    subst hl
    simp [Instr.sliceAt, Instr.slice, Instr.sliceBounds, Instr.sliceBound, asIntOf, run_underlying hu, hs w, a1, a2, a3]
theorem sl3W_sound {P : Program} {t : TypeId} {x h m : Value} {lo : Option Value} {K : Value → Prop} (hh : sl3W P t x lo h m K) :
    ∃ v, K v ∧ ∀ w, (Instr.sliceAt t x lo (some h) (some m)).run P w = .ok v w := by
  unfold sl3W at hh
  split at hh
  · rename_i hu; obtain ⟨sz, h, hs⟩ := withSize_sound hh; exact sl3K_sound hu hs rfl h
  · rename_i hu; obtain ⟨sz, h, hs⟩ := withSize_sound hh; exact sl3K_sound hu hs rfl h
  · exact hh.elim
theorem ixaW_sound {P : Program} {t : TypeId} {x i : Value} {K : Value → Prop} (h : ixaW P t x i K) :
    ∃ v, K v ∧ ∀ w, (Instr.indexAt t x i).run P w = .ok v w := by
  unfold ixaW at h
  split at h
  · rename_i e a len cap k i hu
    obtain ⟨sz, ⟨ad, rfl, h1, h2, h⟩, hs⟩ := withSize_sound h
    exact ⟨_, h, fun w => by simp [Instr.indexAt, asIntOf, run_underlying hu, hs w, h1, h2]⟩
  · rename_i len e a k i hu
    obtain ⟨sz, ⟨ad, rfl, h1, h2, h⟩, hs⟩ := withSize_sound h
    exact ⟨_, h, fun w => by simp [Instr.indexAt, Instr.sureAddr, asIntOf, run_underlying hu, hs w, h1, h2]⟩
  · exact h.elim
theorem ixW_sound {P : Program} {t : TypeId} {x i : Value} {K : Value → Prop} (h : ixW P t x i K) :
    ∃ v, K v ∧ ∀ w, (Instr.index t x i).run P w = .ok v w := by
  unfold ixW at h
  split at h
  · rename_i s k i hu
    obtain ⟨b, h1, h2, h⟩ := h
    exact ⟨_, h, fun w => by simp [Instr.index, asIntOf, run_underlying hu, h1, h2]⟩
  · obtain ⟨v, hr, h⟩ := h.out
    exact ⟨v, asV_sound h, hr⟩
  · exact h.elim
theorem lenW_sound {P : Program} {t : TypeId} {x : Value} {K : Value → Prop} (h : lenW P t x K) (u : TypeId) :
    ∃ v, K v ∧ ∀ w, (Builtin.len_ #[t] u #[x]).run P w = .ok v w := by
  unfold lenW at h
  split at h
  · rename_i hu; exact ⟨_, h, fun w => by simp [Builtin.len_, run_underlying hu, goInt]⟩
  · rename_i hu; exact ⟨_, h, fun w => by simp [Builtin.len_, run_underlying hu, goInt]⟩
  · exact h.elim
theorem run_v {P : Program} {s : Sem Value} {v : Value} {w w' : World} (h : s.run P w = .ok v w') : (do pure (Next.value (← s)) : Sem Next).run P w = .ok (.value v) w' := by
  rw [Sem.run_bind, h]; rfl
theorem run_u {P : Program} {s : Sem Unit} {w w' : World} (h : s.run P w = .ok () w') : (do s; pure Next.skip : Sem Next).run P w = .ok .skip w' := by
  rw [Sem.run_bind, h]; rfl
/-- A pure operation yields one value in whatever world. -/
theorem pureW_sound {P : Program} {o : Oper} {ρ : Operand → Value} {K : Value → Prop} (h : pureW P o ρ K) :
    ∃ v, K v ∧ ∀ w, (execOp ρ o).run P w = .ok (.value v) w := by
  obtain ⟨dst, op, ty, pos, after, guard⟩ := o
  unfold pureW at h
  split at h
  all_goals (first | exact h.elim | (rename_i hop; simp only at hop; subst hop))
  · exact ⟨_, h, fun w => rfl⟩
  · exact ⟨_, h, fun w => rfl⟩
  · split at h
    · rename_i t ht
      rcases ifB_cases h with ⟨rfl, h⟩ | ⟨rfl, h⟩
      · exact ⟨_, h, fun w => by simp [execOp, ht, asBool]⟩
      · exact ⟨_, h, fun w => by simp [execOp, ht, asBool]⟩
    · exact h.elim
  · obtain ⟨v, hK, hr⟩ := binW_sound h
    exact ⟨v, hK, fun w => run_v (hr w)⟩
  · obtain ⟨v, hK, hr⟩ := rp_sound h; exact ⟨v, hK, fun w => by simp only [execOp, Sem.run_bind, hr w]; rfl⟩
  · obtain ⟨v, hK, hr⟩ := rp_sound h; exact ⟨v, hK, fun w => by simp only [execOp, Sem.run_bind, hr w]; rfl⟩
  · obtain ⟨v, hK, hr⟩ := rp_sound h; exact ⟨v, hK, fun w => by simp only [execOp, Sem.run_bind, hr w]; rfl⟩
  · exact ⟨_, h, fun w => rfl⟩
  · obtain ⟨v, hK, hr⟩ := rp_sound h; exact ⟨v, hK, fun w => by simp only [execOp, Sem.run_bind, hr w]; rfl⟩
  · obtain ⟨v, hK, hr⟩ := rp_sound h; exact ⟨v, hK, fun w => by simp only [execOp, Sem.run_bind, hr w]; rfl⟩
  · obtain ⟨v, hK, hr⟩ := rp_sound h; exact ⟨v, hK, fun w => by simp only [execOp, Sem.run_bind, hr w]; rfl⟩
  · obtain ⟨v, hK, hr⟩ := rp_sound h; exact ⟨v, hK, fun w => by simp only [execOp, Sem.run_bind, hr w]; rfl⟩
  · obtain ⟨v, hK, hr⟩ := slW_sound h; exact ⟨v, hK, fun w => by simp only [execOp, Sem.run_bind, Option.map_none, hr w]; rfl⟩
  · obtain ⟨v, hK, hr⟩ := sl3W_sound h; exact ⟨v, hK, fun w => by simp only [execOp, Sem.run_bind, Option.map_some, hr w]; rfl⟩
  · obtain ⟨v, hK, hr⟩ := ixaW_sound h; exact ⟨v, hK, fun w => by simp only [execOp, Sem.run_bind, hr w]; rfl⟩
  · obtain ⟨v, hK, hr⟩ := ixW_sound h; exact ⟨v, hK, fun w => by simp only [execOp, Sem.run_bind, hr w]; rfl⟩
  · rename_i x
    unfold ncW at h
    split at h
    · rename_i a ha
      obtain ⟨ad, rfl, h⟩ := h
      exact ⟨_, h, fun w => by simp only [execOp, ha]; rfl⟩
    · rename_i f y c ha
      exact ⟨_, h, fun w => by simp only [execOp, ha]; rfl⟩
    · rename_i m y c ha
      obtain ⟨hr, h⟩ := h.out
      exact ⟨_, h, fun w => hr _ _ x w rfl ha⟩
    · exact h.elim
  · rename_i args ts
    split at h
    · rename_i x t hx ht
      obtain ⟨v, hK, hr⟩ := lenW_sound h ty
      refine ⟨v, hK, fun w => ?_⟩
      have e1 : args = #[x] := by apply Array.ext'; simpa using hx
      have e2 : ts = #[t] := by apply Array.ext'; simpa using ht
      subst e1; subst e2
      simp [execOp, resolve, invoke, builtin, hr w]
    · exact h.elim

/-! ### Operations that look at memory, or turn it -/
def ld0 (Rd : Addr → Value → Prop) (z : Value) (a : Addr) (K : Value → Prop) : Prop := like0 z fun v => Rd a v ∧ K v
def ldL (Rd : Addr → Value → Prop) : List Value → Addr → Nat → (List Value → Prop) → Prop
  | [], _, _, K => K []
  | z :: zs, a, i, K => ld0 Rd z (a.add i) fun v => ldL Rd zs a (i + 1) fun vs => K (v :: vs)
def ldA (P : Program) (Rd : Addr → Value → Prop) (t : TypeId) (a : Addr) (z : Value) (K : Value → Prop) : Prop :=
  match z with
  | .agg cs => withSize P t fun n => if n = cs.toList.length then ldL Rd cs.toList a 0 fun vs => K (.agg vs.toArray) else False
  | _ => False
def ldW (P : Program) (Rd : Addr → Value → Prop) (t : TypeId) (a : Addr) (K : Value → Prop) : Prop :=
  match P.underlying t with
  | some (.struct _) => ldA P Rd t a (zeroOf P t) K
  | some (.array _ _) => ldA P Rd t a (zeroOf P t) K
  | some _ => ld0 Rd (zeroOf P t) a K
  | none => False
theorem ld0_sound {Rd : Addr → Value → Prop} {z : Value} {a : Addr} {K : Value → Prop} (h : ld0 Rd z a K) : ∃ v, Rd a v ∧ K v := like0_some h
theorem ldL_sound {Rd : Addr → Value → Prop} : ∀ {zs : List Value} {a : Addr} {i : Nat} {K : List Value → Prop}, ldL Rd zs a i K →
    ∃ vs, vs.length = zs.length ∧ K vs ∧ ∀ j v, vs[j]? = some v → Rd (a.add (i + j)) v
  | [], _, _, _, h => ⟨[], rfl, h, by simp⟩
  | z :: zs, a, i, K, h => by
    obtain ⟨v, hv, h⟩ := ld0_sound h
    obtain ⟨vs, hl, hK, hr⟩ := ldL_sound h
    refine ⟨v :: vs, by simp [hl], hK, fun j u hj => ?_⟩
    cases j with
    | zero => simp only [List.getElem?_cons_zero, Option.some.injEq] at hj; subst hj; exact hv
    | succ j => have := hr j u (by simpa using hj); rwa [show i + (j + 1) = i + 1 + j by omega]
theorem ldA_sound {P : Program} {Rd : Addr → Value → Prop} {t : TypeId} {a : Addr} {z : Value} {K : Value → Prop} (h : ldA P Rd t a z K) :
    ∃ cs : List Value, K (.agg cs.toArray) ∧ (∀ w, (sizeOf t).run P w = .ok cs.length w) ∧ ∀ j v, cs[j]? = some v → Rd (a.add j) v := by
  unfold ldA at h
  split at h
  · obtain ⟨n, h, hs⟩ := withSize_sound h
    split at h
    · rename_i cs hn
      obtain ⟨vs, hl, hK, hr⟩ := ldL_sound h
      exact ⟨vs, hK, by rw [hl, ← hn]; exact hs, fun j v hj => by simpa using hr j v hj⟩
    · exact h.elim
  · exact h.elim
theorem ldW_sound {P : Program} {Rd : Addr → Value → Prop} {t : TypeId} {a : Addr} {K : Value → Prop} (h : ldW P Rd t a K) :
    ∃ v, K v ∧ ∀ w : World, (∀ a v, Rd a v → w.cell? a = some v) → (Instr.loadAt t (.pointer (some a))).run P w = .ok v w := by
  unfold ldW at h
  split at h
  · rename_i fs hu
    obtain ⟨cs, hK, hs, hr⟩ := ldA_sound h
    exact ⟨_, hK, fun w hw => by simp [Instr.loadAt, Instr.sureAddr, loadVar, isAgg, run_underlying hu, hs w, run_loadCells_list w a cs fun j v hj => hw _ _ (hr j v hj)]⟩
  · rename_i len e hu
    obtain ⟨cs, hK, hs, hr⟩ := ldA_sound h
    exact ⟨_, hK, fun w hw => by simp [Instr.loadAt, Instr.sureAddr, loadVar, isAgg, run_underlying hu, hs w, run_loadCells_list w a cs fun j v hj => hw _ _ (hr j v hj)]⟩
  · rename_i d h1 h2 hu
    obtain ⟨v, hv, hK⟩ := ld0_sound h
    refine ⟨v, hK, fun w hw => ?_⟩
    have hag : (isAgg t).run P w = .ok false w := by
      cases d <;> first | (exact absurd rfl (h1 _)) | (exact absurd rfl (h2 _ _)) | simp [isAgg, run_underlying hu]
    simp [Instr.loadAt, Instr.sureAddr, loadVar, hag, hw a v hv]
  · exact h.elim
structure doSt (a : Addr) (v : Value) (w : World) (K : World → Prop) : Prop where
  out : (∃ u, w.cell? a = some u) ∧ w.frozen? a = false ∧ K (w.setCell a v)
def stL : List Value → Addr → Nat → World → (World → Prop) → Prop
  | [], _, _, w, K => K w
  | v :: vs, a, i, w, K =>
    match v with
    | .agg _ => False
    | .tuple _ => False
    | _ => doSt (a.add i) v w fun w' => stL vs a (i + 1) w' K
def stW (P : Program) (t : TypeId) (a : Addr) (v : Value) (w : World) (K : World → Prop) : Prop :=
  withSize P t fun n => if v.cells.size = n then stL v.cells.toList a 0 w K else False
theorem stL_sound {P : Program} : ∀ {vs : List Value} {a : Addr} {i : Nat} {w : World} {K : World → Prop}, stL vs a i w K →
    ∃ w', K w' ∧ (storeCells a vs i).run P w = .ok () w'
  | [], _, _, w, _, h => ⟨w, h, rfl⟩
  | v :: vs, a, i, w, K, h => by
    simp only [stL] at h
    split at h
    · exact h.elim
    · exact h.elim
    · rename_i h1 h2
      obtain ⟨⟨u, hu⟩, hf, h⟩ := h.out
      obtain ⟨w', hK, hr⟩ := stL_sound (P := P) h
      refine ⟨w', hK, ?_⟩
      have hst : (store (a.add i) v).run P w = .ok () (w.setCell (a.add i) v) := by
        cases v <;> first | exact absurd rfl (h1 _) | exact absurd rfl (h2 _) | simp [store, Sem.run, hu, hf]
      simp only [storeCells, Sem.run_bind, hst, Result.andThen_ok, hr]
theorem stW_sound {P : Program} {t : TypeId} {a : Addr} {v : Value} {w : World} {K : World → Prop} (h : stW P t a v w K) :
    ∃ w', K w' ∧ (Instr.storeAt t (.pointer (some a)) v).run P w = .ok () w' := by
  obtain ⟨n, h, hs⟩ := withSize_sound h
  split at h
  · rename_i hn
    obtain ⟨w', hK, hr⟩ := stL_sound (P := P) h
    exact ⟨w', hK, by simp [Instr.storeAt, Instr.sureAddr, storeVar, hs w, hn, hr]⟩
  · exact h.elim

/-- A call of a target. -/
def goV (P : Program) (t : Target) (args : Array Value) (w : World) (R : Ending → World → Prop) : Prop :=
  match (invoke t args).run P w with
  | .ok (.value v) w' => R (.returned v) w'
  | .ok .skip w' => R (.returned undef) w'
  | .ok (.enter f as) w' => Calls P f as w' R
  | .ok (.row row as) w' => RowsIn Fence.wide 0 P row as w' fun v w'' => R (.returned v) w''
  | .ok (.round l f tmps assign body) w' => RoundIn Fence.wide 0 P l f tmps assign body w' R
  | .halt (.panic v) w' => R (.panicked [{ v, recovered := false }]) w'
  | _ => False
/-- A call of a function value. -/
def callV (P : Program) (v : Value) (args : Array Value) (w : World) (R : Ending → World → Prop) : Prop :=
  match v with
  | .func fn first cap => goV P (.fn fn cap) (first ++ args) w R
  | .nilFunc => goV P .nil args w R
  | _ => False
theorem goV_mono {P : Program} {t : Target} {args : Array Value} {w : World} {R R' : Ending → World → Prop} (h : goV P t args w R) (hr : ∀ e w', R e w' → R' e w') : goV P t args w R' := by
  unfold goV at *
  split at h
  · exact hr _ _ h
  · exact hr _ _ h
  · exact h.mono hr
  · exact h.mono fun v w' => hr _ _
  · exact h.mono hr
  · exact hr _ _ h
  · exact h.elim
theorem callV_mono {P : Program} {v : Value} {args : Array Value} {w : World} {R R' : Ending → World → Prop} (h : callV P v args w R) (hr : ∀ e w', R e w' → R' e w') : callV P v args w R' := by
  unfold callV at *
  split at h
  · exact goV_mono h hr
  · exact goV_mono h hr
  · exact h.elim
structure doCall (P : Program) (v : Value) (args : Array Value) (w : World) (R : Ending → World → Prop) : Prop where
  out : callV P v args w R
structure doGo (P : Program) (t : Target) (args : Array Value) (w : World) (R : Ending → World → Prop) : Prop where
  out : goV P t args w R
/-- What stands behind a call. -/
def retS (S : Value → World → Prop) (Kp : List PanicEntry → World → Prop) : Ending → World → Prop
  | .returned v, w => S v w
  | .panicked ch, w => Kp ch w
  | .outgrown, _ => False
/-- A tuple with a function among its parts: the function may be nil. -/
def tupNil : Value → Bool
  | .tuple cs => cs.toList.any fun | .nilFunc => true | _ => false
  | _ => false
def likeN1 : Value → (Value → Prop) → Prop
  | .nilFunc, F => F .nilFunc
  | z, F => like1 z F
def likeNL : List Value → (List Value → Prop) → Prop
  | [], F => F []
  | z :: zs, F => likeN1 z fun v => likeNL zs fun vs => F (v :: vs)
def likeN2 : Value → (Value → Prop) → Prop
  | .tuple cs, F => likeNL cs.toList fun vs => F (.tuple vs.toArray)
  | z, F => like1 z F
theorem likeN1_some {z : Value} {F : Value → Prop} (h : likeN1 z F) : ∃ v, F v := by
  cases z <;> simp only [likeN1] at h <;> first
    | exact ⟨_, h⟩
    | exact like1_some h
theorem likeNL_some : ∀ {zs : List Value} {F : List Value → Prop}, likeNL zs F → ∃ vs, F vs
  | [], _, h => ⟨[], h⟩
  | _ :: _, _, h => by
    obtain ⟨v, h⟩ := likeN1_some h
    obtain ⟨vs, h⟩ := likeNL_some h
    exact ⟨_, h⟩
theorem likeN2_some {z : Value} {F : Value → Prop} (h : likeN2 z F) : ∃ v, F v := by
  cases z <;> simp only [likeN2] at h <;> first
    | exact like1_some h
    | (obtain ⟨vs, h⟩ := likeNL_some h; exact ⟨_, h⟩)
def asR (z v : Value) (K : Value → Prop) : Prop := cond (tupNil z) (asV z v K ∨ likeN2 z fun v' => v = v' ∧ K v') (asV z v K)
theorem asR_sound {z v : Value} {K : Value → Prop} (h : asR z v K) : K v := by
  unfold asR at h
  cases hz : tupNil z <;> rw [hz] at h
  · exact asV_sound h
  · rcases h with h | h
    · exact asV_sound h
    · obtain ⟨v', rfl, h⟩ := likeN2_some h
      exact h
/-- The value of the wanted shape; or a panic. -/
def retK (z : Value) (K : Value → World → Prop) (Kp : List PanicEntry → World → Prop) : Ending → World → Prop :=
  retS (fun v w => asR z v fun v' => K v' w) Kp
/-- Is there a nil function among the cells? -/
def hasNil0 : Value → Bool
  | .nilFunc => true
  | _ => false
def hasNil1 : Value → Bool
  | .agg cs => cs.toList.any hasNil0
  | v => hasNil0 v
def hasNil : Value → Bool
  | .tuple cs => cs.toList.any hasNil1
  | v => hasNil1 v
structure doLk (P : Program) (t : TypeId) (m k : Value) (ok : Bool) (w : World) (S : Value → Prop) : Prop where
  out : ∃ v, (Instr.lookup t m k ok).run P w = .ok v w ∧ S v
def lkW (P : Program) (t : TypeId) (m k : Value) (ok : Bool) (w : World) (z : Value) (K : Value → Prop) : Prop :=
  doLk P t m k ok w fun v => cond (hasNil z) (asV z v K ∨ (v = z ∧ K z)) (asV z v K)
theorem lk_sound {z v : Value} {K : Value → Prop} (h : cond (hasNil z) (asV z v K ∨ (v = z ∧ K z)) (asV z v K)) : K v := by
  cases hz : hasNil z <;> rw [hz] at h
  · exact asV_sound h
  · rcases h with h | ⟨rfl, h⟩
    · exact asV_sound h
    · exact h
structure doMu (P : Program) (t : TypeId) (m k x : Value) (w : World) (K : World → Prop) : Prop where
  out : ∃ w', (Instr.mapUpdate t m k x).run P w = .ok () w' ∧ K w'
def msW (P : Program) (t : TypeId) (l c : Value) (w : World) (K : Value → World → Prop) : Prop :=
  ∃ p n c' w', (Instr.makeSlice t l c).run P w = .ok (.slice p n c') w' ∧ K (.slice p n c') w'
/-- The first cell of a block. -/
@[reducible] def blk (b : Nat) : Addr := ⟨b, 0, none⟩
/-- A new block. -/
structure doAl (o : Obj) (w : World) (K : Nat → World → Prop) : Prop where
  out : K w.heap.size (w.alloc o)
/-- What a slice literal is made of. -/
def bsPure (t : TypeId) (len : Nat) (parts : Array (Nat × Value)) : Sem (TypeId × Array Value) := do
  let .slice elem ← underlying t | stuck "buildSlice: slice type expected"
  let size ← sizeOf elem
  if len * size > 2 ^ 24 then unsupported (.resourceLimit "buildSlice: more than 2^24 cells")
  let zero ← if len * size = 0 then pure #[] else do pure (← zeroValue elem).cells
  let some cells := Instr.fill (fun i => some (i * size, size)) ((Array.range (len * size)).map (zero[· % zero.size]!)) parts.toList
    | stuck "buildSlice: a part of the wrong size"
  pure (elem, cells)
def alW (P : Program) (o : Oper) (ρ : Operand → Value) (w : World) (K : Value → World → Prop) : Prop :=
  match o.op with
  | .alloc t => rp P (zeroValue t) fun z => doAl (.cells z.cells t) w fun b w' => K (.pointer (some ⟨b, 0, none⟩)) w'
  | .box t x => doAl (.cells (ρ x).cells t) w fun b w' => K (.pointer (some ⟨b, 0, none⟩)) w'
  | .buildSlice t n ps => rp P (bsPure t n (ps.map fun (i, x) => (i, ρ x))) fun c => doAl (.cells c.2 c.1) w fun b w' => K (.slice (some ⟨b, 0, none⟩) n n) w'
  | .makeMap _ none => doAl (.map #[] 0) w fun b w' => K (.map (some b)) w'
  | _ => False
theorem run_bs {P : Program} {t : TypeId} {n : Nat} {ps : Array (Nat × Value)} {c : TypeId × Array Value} {w : World} (h : (bsPure t n ps).run P w = .ok c w) :
    (Instr.buildSlice t n ps).run P w = .ok (.slice (some ⟨w.heap.size, 0, none⟩) n n) (w.alloc (.cells c.2 c.1)) := by
  have e : Instr.buildSlice t n ps = (do let c ← bsPure t n ps; pure (.slice (some (← newRow c.1 c.2)) n n)) := by
    unfold Instr.buildSlice bsPure
    simp only [bind_assoc]
    congr 1; funext d
    cases d with
    | slice elem =>
      simp only [bind_assoc]
      congr 1; funext sz
      split
      · rfl
      · split
        · simp only [pure_bind]
          generalize Instr.fill _ _ _ = r
          cases r <;> rfl
        · simp only [bind_assoc, pure_bind]
          congr 1; funext z
          generalize Instr.fill _ _ _ = r
          cases r <;> rfl
    | _ => rfl
  rw [e, Sem.run_bind, h]
  simp only [Result.andThen_ok, newRow, Sem.run_bind]
  rfl
def effW (P : Program) (o : Oper) (ρ : Operand → Value) (w : World) (K : Value → World → Prop) (Kp : List PanicEntry → World → Prop) : Prop :=
  match o.op with
  | .load t x => match ρ x with | .pointer (some a) => ldW P (fun a v => w.cell? a = some v) t a fun v => K v w | _ => False
  | .store t x y => match ρ x with | .pointer (some a) => stW P t a (ρ y) w (K undef) | _ => False
  | .lookup t m k ok => lkW P t (ρ m) (ρ k) ok w (zeroOf P o.type) fun v => K v w
  | .insert t m k x => doMu P t (ρ m) (ρ k) (ρ x) w (K undef)
  | .mapUpdate t m k x => doMu P t (ρ m) (ρ k) (ρ x) w (K undef)
  | .makeSlice t l c => msW P t (ρ l) (ρ c) w K
  | .call { callee := .value f, args := args, .. } => doCall P (ρ f) (args.map ρ) w (retK (zeroOf P o.type) K Kp)
  | .call { callee := .invoke r m, args := args, .. } => doGo P (.fn (.method m) #[]) (#[ρ r] ++ args.map ρ) w (retK (zeroOf P o.type) K Kp)
  | .call { callee := .builtin b, args := args, argTypes := ts } =>
    doGo P (.builtin b ts o.type (args.map fun | .const _ => true | _ => false)) (args.map ρ) w (retK (zeroOf P o.type) K Kp)
  | .alloc _ | .box .. | .buildSlice .. | .makeMap .. => alW P o ρ w K
  | _ => False
/-- What the machine's answer to an operation has to give. -/
def Gives (P : Program) (r : Result Next) (K : Value → World → Prop) (Kp : List PanicEntry → World → Prop) : Prop :=
  match r with
  | .ok (.value v) w' => K v w'
  | .ok .skip w' => K undef w'
  | .ok (.enter f as) w' => Calls P f as w' fun | .returned v, w => K v w | .panicked ch, w => Kp ch w | .outgrown, _ => False
  | .ok (.row row as) w' => RowsIn Fence.wide 0 P row as w' K
  | .ok (.round l f tmps assign body) w' => RoundIn Fence.wide 0 P l f tmps assign body w' fun | .returned v, w => K v w | .panicked ch, w => Kp ch w | .outgrown, _ => False
  | .halt (.panic v) w' => Kp [{ v, recovered := false }] w'
  | _ => False
theorem retK_gives {z : Value} {K : Value → World → Prop} {Kp : List PanicEntry → World → Prop} : ∀ e w, retK z K Kp e w →
    (match e, w with | .returned v, w => K v w | .panicked ch, w => Kp ch w | .outgrown, _ => False : Prop)
  | .returned _, _, h => asR_sound h
  | .panicked _, _, h => h
  | .outgrown, _, h => h.elim
theorem goV_gives {P : Program} {t : Target} {args : Array Value} {w : World} {z : Value} {K : Value → World → Prop} {Kp : List PanicEntry → World → Prop}
    (h : goV P t args w (retK z K Kp)) : Gives P ((invoke t args).run P w) K Kp := by
  unfold goV at h
  generalize (invoke t args).run P w = r at h
  cases r with
  | ok n w' =>
    cases n <;> simp only [Gives] at h ⊢ <;> first
      | exact asR_sound h
      | exact Calls.mono h fun e w' he => retK_gives e w' he
      | exact RowsIn.mono h fun v w' => asR_sound
      | exact RoundIn.mono h fun e w' he => retK_gives e w' he
      | exact h.elim
  | halt x w' => cases x <;> simp only [Gives] at h ⊢ <;> exact h
theorem callV_gives {P : Program} {v : Value} {args : Array Value} {w : World} {z : Value} {K : Value → World → Prop} {Kp : List PanicEntry → World → Prop}
    (h : callV P v args w (retK z K Kp)) : Gives P ((do let d ← Deferred.ofValue v args; invoke d.target d.args).run P w) K Kp := by
  unfold callV at h
  split at h
  · have := goV_gives h
    simpa [Deferred.ofValue] using this
  · have := goV_gives h
    simpa [Deferred.ofValue] using this
  · exact h.elim
theorem Gives.of_eq {P : Program} {r r' : Result Next} {K : Value → World → Prop} {Kp : List PanicEntry → World → Prop} (h : r = r') (g : Gives P r' K Kp) : Gives P r K Kp := h ▸ g
theorem effW_sound {P : Program} {o : Oper} {ρ : Operand → Value} {w : World} {K : Value → World → Prop} {Kp : List PanicEntry → World → Prop}
    (h : effW P o ρ w K Kp) : Gives P ((execOp ρ o).run P w) K Kp := by
  obtain ⟨dst, op, ty, pos, after, guard⟩ := o
  unfold effW at h
  split at h
  all_goals (first | exact h.elim | (rename_i hop; simp only at hop; subst hop))
  · split at h
    · rename_i a ha
      obtain ⟨v, hK, hr⟩ := ldW_sound h
      refine Gives.of_eq (r' := .ok (.value v) w) ?_ hK
      refine run_v ?_
      rw [ha]; exact hr w fun _ _ h => h
    · exact h.elim
  · split at h
    · rename_i a ha
      obtain ⟨w', hK, hr⟩ := stW_sound h
      refine Gives.of_eq (r' := .ok .skip w') ?_ hK
      refine run_u ?_
      rw [ha]; exact hr
    · exact h.elim
  · obtain ⟨v, hr, hK⟩ := h.out
    exact Gives.of_eq (r' := .ok (.value v) w) (run_v hr) (lk_sound hK)
  · obtain ⟨w', hr, hK⟩ := h.out
    exact Gives.of_eq (r' := .ok .skip w') (run_u hr) hK
  · obtain ⟨w', hr, hK⟩ := h.out
    exact Gives.of_eq (r' := .ok .skip w') (run_u hr) hK
  · obtain ⟨p, n, c', w', hr, hK⟩ := h
    exact Gives.of_eq (r' := .ok (.value (.slice p n c')) w') (run_v hr) hK
  · have := callV_gives h.out
    simpa [execOp, resolve] using this
  · have := goV_gives h.out
    simpa [execOp, resolve] using this
  · refine Gives.of_eq ?_ (goV_gives h.out)
    simp only [execOp, resolve, Sem.run_bind, Sem.run_pure, Result.andThen_ok]
    rfl
  · rename_i t
    obtain ⟨z, hK, hr⟩ := rp_sound (show rp P (zeroValue t) _ from h)
    refine Gives.of_eq (r' := .ok (.value (.pointer (some ⟨w.heap.size, 0, none⟩))) (w.alloc (.cells z.cells t))) ?_ hK.out
    refine run_v ?_
    simp only [Instr.alloc, Sem.run_bind, hr w, Result.andThen_ok]
    rfl
  · rename_i t x
    have h : doAl (.cells (ρ x).cells t) w _ := h
    exact Gives.of_eq (r' := .ok (.value (.pointer (some ⟨w.heap.size, 0, none⟩))) (w.alloc (.cells (ρ x).cells t))) (run_v rfl) h.out
  · rename_i t n ps
    obtain ⟨c, hK, hr⟩ := rp_sound (show rp P (bsPure t n (ps.map fun (i, x) => (i, ρ x))) _ from h)
    exact Gives.of_eq (r' := .ok (.value (.slice (some ⟨w.heap.size, 0, none⟩) n n)) (w.alloc (.cells c.2 c.1))) (run_v (run_bs (hr w))) hK.out
  · rename_i t r
    cases r with
    | none =>
      have h : doAl (.map #[] 0) w _ := h
      exact Gives.of_eq (r' := .ok (.value (.map (some w.heap.size))) (w.alloc (.map #[] 0))) (run_v rfl) h.out
    | some x => exact (show False from h).elim
/-- One operation. -/
def exec1 (P : Program) (o : Oper) (ρ : Operand → Value) (w : World) (K : Value → World → Prop) (Kp : List PanicEntry → World → Prop) : Prop :=
  cond (isPure o.op) (pureW P o ρ fun v => K v w) (effW P o ρ w K Kp)
theorem exec1_sound {P : Program} {o : Oper} {ρ : Operand → Value} {w : World} {K : Value → World → Prop} {Kp : List PanicEntry → World → Prop}
    (h : exec1 P o ρ w K Kp) : Gives P ((execOp ρ o).run P w) K Kp := by
  unfold exec1 at h
  cases hp : isPure o.op <;> rw [hp] at h
  · exact effW_sound h
  · have h : pureW P o ρ fun v => K v w := h
    obtain ⟨v, hK, hr⟩ := pureW_sound h
    rw [hr w]; exact hK
/-- No 'defer' statement. -/
def noDefer (o : Oper) : Bool := match o.op with | .defer _ => false | .select .. => false | _ => true
theorem wpIn_of_gives {P : Program} {ro : Option Nat} {o : Oper} {a : Act} {w : World} {next : Act → World → Prop} {Q : Exit → Act → World → Prop}
    (hd : noDefer o = true) (h : Gives P ((execOp a.eval o).run P w) (fun v w' => next (a.put o.dst v) w') (fun ch w' => Q (.panic ch) a w')) : o.wpIn (fen ro) 0 P a w next Q := by
  refine ⟨fun _ _ => trivial, ?_⟩
  rw [Oper.semAt_eq _ _ _ (fun c hc => by simp [noDefer, hc] at hd)]
  generalize (execOp a.eval o).run P w = r at h
  cases r with
  | ok n w' =>
    cases n <;> simp only [Gives] at h <;> simp only [Oper.uponIn] <;> first
      | exact h
      | exact h.elim
      | exact ⟨fun hx => (by simp [fen, Fence.wide] at hx), (callsIn_wide (n := 0 - 1)).2 (Calls.mono h fun e w'' he => by cases e <;> first | exact he | exact he.elim)⟩
      | exact ⟨fun hx => (by simp [fen, Fence.wide] at hx), h⟩
      | exact ⟨fun hx => (by simp [fen, Fence.wide] at hx), RoundIn.mono h fun e w'' he => by cases e <;> first | exact he | exact he.elim⟩
  | halt x w' => cases x <;> simp only [Gives] at h <;> simp only [Oper.uponIn] <;> exact h
end Go.Sh

namespace Go.Sh
open Go

theorem put_same {a : Act} {d : Nat} {v : Value} (h : a.tmps.getD d undef = v) : a.put (some d) v = a := by
  subst h
  obtain ⟨t, ds⟩ := a
  simp only [Act.put, Act.mk.injEq, and_true]
  apply Array.ext
  · simp
  · intro i h1 h2
    by_cases hi : d = i
    · subst hi; simp [h2]
    · rw [Array.getElem_setIfInBounds h2]; simp [hi]
/-- The temporaries written out (so that the kernel does not carry a tower of stores along). -/
def forceL : List Value → (List Value → Prop) → Prop
  | [], k => k []
  | v :: vs, k => forceL vs fun vs' => k (v :: vs')
theorem forceL_eq : ∀ (l : List Value) (k : List Value → Prop), forceL l k = k l
  | [], _ => rfl
  | v :: vs, k => forceL_eq vs fun vs' => k (v :: vs')
def forceA (a : Act) (k : Act → Prop) : Prop := forceL a.tmps.toList fun l => k { tmps := l.toArray, defers := a.defers }
theorem forceA_eq (a : Act) (k : Act → Prop) : forceA a k = k a := forceL_eq _ _
/-- An operation under a guard: X where it is wanted, Y where it is passed over. -/
def guardW (ops : Array Oper) (o : Oper) (a : Act) (X Y : Act → Prop) : Prop :=
  match o.guard with
  | none => X a
  | some (j, want) =>
    match (ops[j]?).bind (·.dst) with
    | none => Y a
    | some d =>
      match a.tmps.getD d undef with
      | .bool b => ifB b (cond want (X (a.put (some d) (.bool true))) (Y (a.put (some d) (.bool true)))) (cond want (Y (a.put (some d) (.bool false))) (X (a.put (some d) (.bool false))))
      | _ => Y a
theorem guardW_sound {ops : Array Oper} {o : Oper} {a : Act} {X Y : Act → Prop} (h : guardW ops o a X Y) :
    (Region.wanted o (yielded ops a.tmps) = true ∧ X a) ∨ (Region.wanted o (yielded ops a.tmps) = false ∧ Y a) := by
  unfold guardW at h
  split at h
  · rename_i hg; exact .inl ⟨by simp [Region.wanted, hg], h⟩
  · rename_i j want hg
    split at h
    · rename_i hd
      refine .inr ⟨?_, h⟩
      simp [Region.wanted, hg, yielded, hd]
    · rename_i d hd
      split at h
      · rename_i b hb
        have hlt : d < a.tmps.size := by
          rcases Nat.lt_or_ge d a.tmps.size with h' | h'
          · exact h'
          · simp [Array.getD, Nat.not_lt.2 h', undef] at hb
        have hy : yielded ops a.tmps j = some b := by
          have : a.tmps[d]? = some (.bool b) := by
            simp only [Array.getD, hlt, dite_true] at hb
            rw [Array.getElem?_eq_getElem hlt]; exact congrArg some hb
          simp [yielded, hd, this]
        have hw : Region.wanted o (yielded ops a.tmps) = (b == want) := by
          simp only [Region.wanted, hg, hy]
          cases b <;> cases want <;> rfl
        rw [hw]
        rcases ifB_cases h with ⟨rfl, h⟩ | ⟨rfl, h⟩
        · rw [put_same hb] at h
          cases want
          · exact .inr ⟨rfl, h⟩
          · exact .inl ⟨rfl, h⟩
        · rw [put_same hb] at h
          cases want
          · exact .inl ⟨rfl, h⟩
          · exact .inr ⟨rfl, h⟩
      · rename_i hne
        refine .inr ⟨?_, h⟩
        have hy : yielded ops a.tmps j = none := by
          simp only [yielded, hd, Option.bind_some]
          split
          · rename_i b hb
            refine absurd ?_ (hne b)
            simp [Array.getD_eq_getD_getElem?, hb]
          · rfl
        simp [Region.wanted, hg, hy]

/-- Operations in order. -/
def evOps (P : Program) (ops : Array Oper) (K : Act → World → Prop) (Kp : List PanicEntry → List Deferred → World → Prop) : List Nat → Act → World → Prop
  | [], a, w => K a w
  | i :: rest, a, w =>
    match ops[i]? with
    | none => evOps P ops K Kp rest a w
    | some o => guardW ops o a
        (fun a' => exec1 P o a'.eval w (fun v w' => forceA (a'.put o.dst v) fun a'' => evOps P ops K Kp rest a'' w') (fun ch w' => Kp ch a'.defers w'))
        (fun a' => forceA (a'.put o.dst undef) fun a'' => evOps P ops K Kp rest a'' w)
/-- The exits of a piece of code: panics apart. -/
def full (Q : Exit → Act → World → Prop) (Kp : List PanicEntry → List Deferred → World → Prop) : Exit → Act → World → Prop
  | .panic ch, a, w => Kp ch a.defers w
  | .outgrown, _, _ => False
  | e, a, w => Q e a w
def allND (ops : Array Oper) : Bool := ops.toList.all noDefer
theorem allND_spec {ops : Array Oper} (h : allND ops = true) {i : Nat} {o : Oper} (ho : ops[i]? = some o) : noDefer o = true := by
  have := List.all_eq_true.1 h o (by
    have := Array.mem_of_getElem? ho
    simpa using this)
  exact this
/-- What code leaves alone: all temporaries but those listed; the deferred calls. -/
structure Fr (ms : List Nat) (a a' : Act) : Prop where
  defers : a'.defers = a.defers
  size : a'.tmps.size = a.tmps.size
  same : ∀ i, i ∉ ms → a'.tmps[i]? = a.tmps[i]?
theorem Fr.refl (ms : List Nat) (a : Act) : Fr ms a a := ⟨rfl, rfl, fun _ _ => rfl⟩
theorem Fr.trans {ms : List Nat} {a b c : Act} (h : Fr ms a b) (k : Fr ms b c) : Fr ms a c :=
  ⟨k.defers.trans h.defers, k.size.trans h.size, fun i hi => (k.same i hi).trans (h.same i hi)⟩
theorem Fr.put {ms : List Nat} {a : Act} {d : Option Tmp} {v : Value} (h : ∀ t, d = some t → t ∈ ms) : Fr ms a (a.put d v) := by
  cases d with
  | none => exact .refl _ _
  | some d =>
    refine ⟨rfl, by simp [Act.put], fun i hi => ?_⟩
    have hne : d ≠ i := fun e => hi (e ▸ h d rfl)
    simp [Act.put, Array.getElem?_setIfInBounds_ne hne]
theorem Fr.mono {ms ms' : List Nat} {a b : Act} (h : Fr ms a b) (hm : ∀ i, i ∈ ms → i ∈ ms') : Fr ms' a b :=
  ⟨h.defers, h.size, fun i hi => h.same i fun hi' => hi (hm i hi')⟩
def dstsIn (ops : Array Oper) : List Nat := ops.toList.filterMap (·.dst)
theorem dstsIn_spec {ops : Array Oper} {i : Nat} {o : Oper} (ho : ops[i]? = some o) : ∀ t, o.dst = some t → t ∈ dstsIn ops := fun t ht =>
  List.mem_filterMap.2 ⟨o, by have := Array.mem_of_getElem? ho; simpa using this, ht⟩
/-- The exits, and what was left alone. -/
def andFr (ms : List Nat) (a0 : Act) (Q : Exit → Act → World → Prop) : Exit → Act → World → Prop := fun e a w => Q e a w ∧ Fr ms a0 a
theorem evOps_sound {P : Program} {ro : Option Nat} {ops : Array Oper} {Q : Exit → Act → World → Prop} {Kp : List PanicEntry → List Deferred → World → Prop} {a0 : Act} (hnd : allND ops = true) :
    ∀ (l : List Nat) (a : Act) (w : World), Fr (dstsIn ops) a0 a → evOps P ops (Q .normal) Kp l a w → wpOpsIn (fen ro) 0 P ops (full (andFr (dstsIn ops) a0 Q) Kp) l a w
  | [], _, _, hf, h => ⟨h, hf⟩
  | i :: rest, a, w, hf, h => by
    simp only [evOps, forceA_eq] at h
    simp only [wpOpsIn]
    cases ho : ops[i]? with
    | none => simp only [ho] at h; exact evOps_sound hnd rest a w hf h
    | some o =>
      simp only [ho] at h
      have hfp : ∀ v, Fr (dstsIn ops) a0 (a.put o.dst v) := fun v => hf.trans (.put (dstsIn_spec ho))
      rcases guardW_sound h with ⟨hw, h⟩ | ⟨hw, h⟩
      · simp only [hw, if_true]
        refine wpIn_of_gives (allND_spec hnd ho) ?_
        have := exec1_sound h
        generalize (execOp a.eval o).run P w = r at this
        cases r with
        | ok n w' =>
          cases n <;> simp only [Gives] at this ⊢ <;> first
            | exact evOps_sound hnd rest _ _ (hfp _) this
            | exact this.elim
            | exact Calls.mono this fun e w'' he => by cases e <;> first | exact evOps_sound hnd rest _ _ (hfp _) he | exact he
            | exact RowsIn.mono this fun v w'' he => evOps_sound hnd rest _ _ (hfp _) he
            | exact RoundIn.mono this fun e w'' he => by cases e <;> first | exact evOps_sound hnd rest _ _ (hfp _) he | exact he
        | halt x w' => cases x <;> simp only [Gives] at this ⊢ <;> exact this
      · simp only [hw, Bool.false_eq_true, if_false]
        exact ⟨fun _ _ => trivial, evOps_sound hnd rest _ _ (hfp _) h⟩

/-! ### Whatever order -/
def isLoad (o : Op) : Bool := match o with | .load .. => true | _ => false
/-- A load that an operation does not wait for itself. -/
def needC (ops : Array Oper) (j : Nat) : Bool :=
  (List.range ops.size).any fun i =>
    ((ops[i]?).map fun o => isLoad o.op).getD false && i != j && !(((ops[j]?).map fun o => o.after.any fun e => Region.binds .any e && e.on == i).getD false)
def YieldsC (P : Program) (ops : Array Oper) (C : World → Prop) (o : Oper) (v : Value) (a : Act) : Prop :=
  (Region.wanted o (yielded ops a.tmps) = true ∧ ∀ w, C w → (execOp a.eval o).run P w = .ok (.value v) w) ∨
  (Region.wanted o (yielded ops a.tmps) = false ∧ v = undef)
def wpAnyC (ro : Option Nat) (P : Program) (ops : Array Oper) (C : World → Prop) (Q : Exit → Act → World → Prop) : Nat → Array Bool → Act → World → Prop
  | 0, listed, a, w => Region.ready .any ops listed = [] ∧ Q .normal a w
  | fuel + 1, listed, a, w =>
    (Region.ready .any ops listed = [] → Q .normal a w) ∧
    ∀ i ∈ Region.ready .any ops listed, wpOpIn (fen ro) 0 P ops Q i (fun a' w' => (needC ops i = true → C w → C w') ∧ wpAnyC ro P ops C Q fuel (listed.setIfInBounds i true) a' w') a w
theorem wpAnyC_in {ro : Option Nat} {P : Program} {ops : Array Oper} {C : World → Prop} {Q : Exit → Act → World → Prop} :
    ∀ (fuel : Nat) (listed : Array Bool) (a : Act) (w : World), wpAnyC ro P ops C Q fuel listed a w → wpAnyIn (fen ro) 0 P .any ops Q fuel listed a w
  | 0, _, _, _, h => h
  | fuel + 1, _, _, _, h => ⟨h.1, fun i hi => wpOpIn_mono (fun a' w' h => wpAnyC_in fuel _ a' w' h.2) (h.2 i hi)⟩
section
variable {ro : Option Nat} {P : Program} {ops : Array Oper} {C : World → Prop} {Q : Exit → Act → World → Prop}
theorem YieldsC.of_same {o : Oper} {v : Value} {a a' : Act} (hy : YieldsC P ops C o v a) (he : execOp a'.eval o = execOp a.eval o)
    (hw : Region.wanted o (yielded ops a'.tmps) = Region.wanted o (yielded ops a.tmps)) : YieldsC P ops C o v a' := by
  unfold YieldsC at *
  rw [he, hw]
  exact hy
theorem YieldsC.wpOpIn {i : Nat} {o : Oper} {v : Value} {a : Act} {w : World} (hnd : allND ops = true) (hi : ops[i]? = some o) (hy : YieldsC P ops C o v a) (hC : C w)
    {K : Act → World → Prop} (h : K (a.put o.dst v) w) : wpOpIn (fen ro) 0 P ops Q i K a w := by
  unfold Go.wpOpIn
  simp only [hi]
  rcases hy with ⟨hw, hv⟩ | ⟨hw, rfl⟩
  · simp only [hw, if_true]
    refine ⟨fun _ _ => trivial, ?_⟩
    rw [Oper.semAt_eq _ _ _ (fun c hc => by have := allND_spec hnd hi; simp [noDefer, hc] at this), hv w hC]
    exact h
  · simp only [hw, Bool.false_eq_true, if_false]; exact ⟨fun _ _ => trivial, h⟩
theorem wpOpIn_putC {j : Nat} {oi oj : Oper} {v : Value} (hnd : allND ops = true) (hj : ops[j]? = some oj) (hap : oi.apart ops oj = true)
    (hsi : ∀ cs b, oi.op ≠ .select cs b) (hsj : ∀ cs b, oj.op ≠ .select cs b)
    (hQ : ∀ c a w, Q (.panic c) (a.put oi.dst v) w → Q (.panic c) a w) {K : Act → World → Prop} {a : Act} {w : World}
    (hy : YieldsC P ops C oi v a) (h : wpOpIn (fen ro) 0 P ops Q j K (a.put oi.dst v) w) :
    wpOpIn (fen ro) 0 P ops Q j (fun a' w' => YieldsC P ops C oi v a' ∧ K (a'.put oi.dst v) w') a w := by
  obtain ⟨h1, h2, h3⟩ := Oper.apart_spec hap
  have keep : ∀ (a : Act), YieldsC P ops C oi v a → ∀ u, YieldsC P ops C oi v (a.put oj.dst u) := fun a hy u =>
    hy.of_same (execOp_put oi hsi a oj.dst u h3) (wanted_put oi a oj.dst u h3)
  have keepD : ∀ d, YieldsC P ops C oi v { a with defers := d :: a.defers } := fun d => hy.of_same rfl rfl
  have hdj : ∀ c, oj.op ≠ .defer c := fun c hc => by have := allND_spec hnd hj; simp [noDefer, hc] at this
  unfold wpOpIn at *
  simp only [hj] at *
  rw [wanted_put oj a oi.dst v h1, about_put oj w a oi.dst v h1] at h
  split
  · rename_i hw
    simp only [hw, if_true] at h
    unfold Oper.wpIn at *
    rw [about_put oj w a oi.dst v h1] at h
    refine ⟨h.1, ?_⟩
    have h := h.2
    rw [Oper.semAt_eq _ _ _ hdj, execOp_put oj hsj a oi.dst v h1] at h
    rw [Oper.semAt_eq _ _ _ hdj]
    generalize (execOp a.eval oj).run P w = r at *
    cases r with
    | ok x w' =>
      cases x <;> simp only [Oper.uponIn] at h ⊢
      case value u => exact ⟨keep a hy u, by rw [← Act.put_comm a v u h2]; exact h⟩
      case skip => exact ⟨keep a hy _, by rw [← Act.put_comm a v undef h2]; exact h⟩
      case defer d =>
        refine ⟨keep _ (keepD d) _, ?_⟩
        rw [← Act.put_comm _ v undef h2, ← Act.put_defers]
        exact h
      case enter f args =>
        refine ⟨h.1, CallsIn.mono h.2 fun e w'' he => ?_⟩
        cases e with
        | returned u => exact ⟨keep a hy u, by rw [← Act.put_comm a v u h2]; exact he⟩
        | panicked c => exact hQ _ _ _ he
        | outgrown => exact he
      case row row args => exact ⟨h.1, RowsIn.mono h.2 fun u w'' he => ⟨keep a hy u, by rw [← Act.put_comm a v u h2]; exact he⟩⟩
      case round l f tmps assign body =>
        refine ⟨h.1, RoundIn.mono h.2 fun e w'' he => ?_⟩
        cases e with
        | returned u => exact ⟨keep a hy u, by rw [← Act.put_comm a v u h2]; exact he⟩
        | panicked c => exact hQ _ _ _ he
        | outgrown => exact he
    | halt x w' =>
      cases x <;> simp only [Oper.uponIn] at h ⊢
      case panic u => exact hQ _ _ _ h
  · rename_i hw
    simp only [hw] at h
    exact ⟨h.1, keep a hy _, by rw [← Act.put_comm a v undef h2]; exact h.2⟩
theorem needC_of {i j : Nat} {oi oj : Oper} (hi : ops[i]? = some oi) (hl : isLoad oi.op = true) (hne : i ≠ j) (hj : ops[j]? = some oj)
    (hnot : ∀ e ∈ oj.after, Region.binds .any e = true → e.on ≠ i) : needC ops j = true := by
  unfold needC
  refine List.any_eq_true.2 ⟨i, List.mem_range.2 (Array.getElem?_eq_some_iff.1 hi).1, ?_⟩
  simp only [hi, Option.map_some, Option.getD_some, hl, Bool.true_and, hj, Bool.and_eq_true, bne_iff_ne, ne_eq, hne, not_false_eq_true, true_and, Bool.not_eq_true', Array.any_eq_false']
  intro e he
  simp only [beq_iff_eq, not_and]
  exact hnot e he
/-- An operation that may come up now may be taken first, if it yields one value in every world of the class (or in every world), and all else is apart from it, and keeps the class. -/
theorem wpAnyC_first {D : World → Prop} {i : Nat} {oi : Oper} {v : Value} (hnd : allND ops = true) (hi : ops[i]? = some oi) (hsel : ∀ (j : Nat) (o : Oper) cs b, ops[j]? = some o → o.op ≠ .select cs b)
    (hQ : ∀ c a w, Q (.panic c) (a.put oi.dst v) w → Q (.panic c) a w) (hD : (∀ w, D w) ∨ (D = C ∧ isLoad oi.op = true)) :
    ∀ (fuel : Nat) (listed : Array Bool) (a : Act) (w : World),
      (∀ j oj, ops[j]? = some oj → j ≠ i → listed.getD j true = false → (∀ e ∈ oj.after, Region.binds .any e = true → e.on ≠ i) → oi.apart ops oj = true) →
      i ∈ Region.ready .any ops listed → D w → YieldsC P ops D oi v a →
      wpAnyC ro P ops C Q fuel (listed.setIfInBounds i true) (a.put oi.dst v) w → wpAnyC ro P ops C Q (fuel + 1) listed a w := by
  intro fuel
  induction fuel with
  | zero =>
    intro listed a w _ hr hDw hy H
    refine ⟨fun h => (by rw [h] at hr; cases hr), fun j hj => ?_⟩
    by_cases hji : j = i
    · subst hji; exact hy.wpOpIn hnd hi hDw ⟨fun _ h => h, H⟩
    · have := ready_mono hj hji
      rw [H.1] at this
      cases this
  | succ fuel ih =>
    intro listed a w hfree hr hDw hy H
    refine ⟨fun h => (by rw [h] at hr; cases hr), fun j hj => ?_⟩
    by_cases hji : j = i
    · subst hji; exact hy.wpOpIn hnd hi hDw ⟨fun _ h => h, H⟩
    · have h1 := H.2 j (ready_mono hj hji)
      obtain ⟨hjun, oj, hoj, hall⟩ := mem_ready.1 hj
      have hnot : ∀ e ∈ oj.after, Region.binds .any e = true → e.on ≠ i := fun e he hb heq => by
        have h1 := hall e he hb
        have h0 := (mem_ready.1 hr).1
        rw [heq] at h1
        rcases Nat.lt_or_ge i listed.size with h' | h'
        · simp [h'] at h0 h1; rw [h0] at h1; cases h1
        · simp [Array.getElem?_eq_none h'] at h1
      have h2 := wpOpIn_putC hnd hoj (hfree j oj hoj hji hjun hnot) (fun cs b => hsel i oi cs b hi) (fun cs b => hsel j oj cs b hoj) hQ hy h1
      have hfree' : ∀ k ok, ops[k]? = some ok → k ≠ i → (listed.setIfInBounds j true).getD k true = false →
          (∀ e ∈ ok.after, Region.binds .any e = true → e.on ≠ i) → oi.apart ops ok = true := fun k ok hk hki hun hno => by
        refine hfree k ok hk hki ?_ hno
        by_cases hjk : j = k
        · subst hjk; exact hjun
        · rw [getD_set_ne true hjk] at hun; exact hun
      refine wpOpIn_mono (fun a' w' h3 => ⟨fun hn hC => h3.2.1 hn hC, ih (listed.setIfInBounds j true) a' w' hfree' (ready_mono hr (Ne.symm hji)) ?_ h3.1 ?_⟩) h2
      · rcases hD with hD | ⟨rfl, hl⟩
        · exact hD _
        · exact h3.2.1 (needC_of hi hl (Ne.symm hji) hoj hnot) hDw
      · rw [Array.setIfInBounds_comm _ _ hji]
        exact h3.2.2
end
/-- What a load, or a pure operation, yields in every world of the class. -/
def takeW (P : Program) (o : Oper) (ρ : Operand → Value) (C : World → Prop) (K : Value → Prop) : Prop :=
  match o.op with
  | .load t x => match ρ x with | .pointer (some a) => ldW P (fun a v => ∀ w, C w → w.cell? a = some v) t a K | _ => False
  | _ => pureW P o ρ K
def takeable (o : Op) : Bool := isPure o || isLoad o
theorem takeW_sound {P : Program} {o : Oper} {ρ : Operand → Value} {C : World → Prop} {K : Value → Prop} (h : takeW P o ρ C K) :
    ∃ v, K v ∧ ((isLoad o.op = true ∧ ∀ w, C w → (execOp ρ o).run P w = .ok (.value v) w) ∨ ∀ w, (execOp ρ o).run P w = .ok (.value v) w) := by
  unfold takeW at h
  split at h
  · rename_i t x hop
    split at h
    · rename_i a ha
      obtain ⟨v, hK, hr⟩ := ldW_sound h
      refine ⟨v, hK, .inl ⟨by simp [isLoad, hop], fun w hC => ?_⟩⟩
      obtain ⟨dst, op, ty, pos, after, guard⟩ := o
      simp only at hop
      subst hop
      refine run_v ?_
      rw [ha]; exact hr w fun a v h => h w hC
    · exact h.elim
  · obtain ⟨v, hK, hr⟩ := pureW_sound h
    exact ⟨v, hK, .inr hr⟩
def imp (b : Bool) (p X : Prop) : Prop := cond b (p ∧ X) X
/-- One of them after another, whichever comes first. -/
def allOf : List Nat → (Nat → Prop) → Prop
  | [], _ => True
  | i :: is, F => match is with | [] => F i | _ => F i ∧ allOf is F
theorem allOf_mem : ∀ {l : List Nat} {F : Nat → Prop}, allOf l F → ∀ i ∈ l, F i
  | [i], F, h, j, hj => by
    obtain rfl : j = i := by simpa using hj
    exact h
  | i :: k :: is, F, h, j, hj => by
    have h : F i ∧ allOf (k :: is) F := h
    rcases List.mem_cons.1 hj with rfl | hj
    · exact h.1
    · exact allOf_mem h.2 j hj
/-- A region in whatever order: pure operations, and loads that are the same in all worlds of the class C, as soon as they may come; of the others one at a time. -/
def evDraw (P : Program) (ops : Array Oper) (C : World → Prop) (K : Act → World → Prop) (Kp : List PanicEntry → List Deferred → World → Prop) : Nat → Array Bool → Act → World → Prop
  | 0, listed, a, w =>
    match Region.ready .any ops listed with
    | [] => K a w
    | _ => False
  | n + 1, listed, a, w =>
    match Region.ready .any ops listed with
    | [] => K a w
    | i :: is =>
      match (i :: is).find? fun j => ((ops[j]?).map fun o => takeable o.op).getD false && Region.free .any ops listed j with
      | some j =>
        match ops[j]? with
        | none => False
        | some o => guardW ops o a
            (fun a' => takeW P o a'.eval C fun v => forceA (a'.put o.dst v) fun a'' => evDraw P ops C K Kp n (listed.setIfInBounds j true) a'' w)
            (fun a' => forceA (a'.put o.dst undef) fun a'' => evDraw P ops C K Kp n (listed.setIfInBounds j true) a'' w)
      | none => allOf (i :: is) fun i =>
          match ops[i]? with
          | none => False
          | some o => guardW ops o a
              (fun a' => exec1 P o a'.eval w (fun v w' => imp (needC ops i) (C w') (forceA (a'.put o.dst v) fun a'' => evDraw P ops C K Kp n (listed.setIfInBounds i true) a'' w')) (fun ch w' => Kp ch a'.defers w'))
              (fun a' => forceA (a'.put o.dst undef) fun a'' => evDraw P ops C K Kp n (listed.setIfInBounds i true) a'' w)
def LoadsLeft (ops : Array Oper) (listed : Array Bool) : Prop := ∃ i o, ops[i]? = some o ∧ isLoad o.op = true ∧ listed.getD i true = false
theorem LoadsLeft.of_set {ops : Array Oper} {listed : Array Bool} {j : Nat} (h : LoadsLeft ops (listed.setIfInBounds j true)) : LoadsLeft ops listed := by
  obtain ⟨i, o, hi, hl, hu⟩ := h
  refine ⟨i, o, hi, hl, ?_⟩
  by_cases hij : j = i
  · subst hij
    rcases Nat.lt_or_ge j listed.size with h' | h'
    · simp [h'] at hu
    · simp [Nat.not_lt.2 h'] at hu
  · rwa [getD_set_ne true hij] at hu
section
variable {ro : Option Nat} {P : Program} {ops : Array Oper} {C : World → Prop} {Q : Exit → Act → World → Prop} {Kp : List PanicEntry → List Deferred → World → Prop}
theorem noLoads_of_needC {j : Nat} {listed : Array Bool} {oj : Oper} (hoj : ops[j]? = some oj) (hj : j ∈ Region.ready .any ops listed) (hn : needC ops j = false) :
    ¬ LoadsLeft ops (listed.setIfInBounds j true) := by
  rintro ⟨i, oi, hi, hl, hu⟩
  obtain ⟨hjun, oj', hoj', hall⟩ := mem_ready.1 hj
  obtain rfl : oj = oj' := by rw [hoj] at hoj'; exact Option.some.inj hoj'
  by_cases hij : j = i
  · subst hij
    rcases Nat.lt_or_ge j listed.size with h' | h'
    · simp [h'] at hu
    · simp [Nat.not_lt.2 h'] at hu
  · rw [getD_set_ne true hij] at hu
    have := needC_of hi hl (Ne.symm hij) hoj fun e he hb heq => by
      have h1 := hall e he hb
      rw [heq] at h1
      rcases Nat.lt_or_ge i listed.size with h' | h'
      · simp [h'] at h1 hu; rw [h1] at hu; cases hu
      · simp [Array.getElem?_eq_none h'] at h1
    rw [hn] at this; cases this
theorem evDraw_sound {a0 : Act} (hnd : allND ops = true) (hns : Region.noSelect ops = true) : ∀ (n : Nat) (listed : Array Bool) (a : Act) (w : World), (LoadsLeft ops listed → C w) →
    Fr (dstsIn ops) a0 a → evDraw P ops C (Q .normal) Kp n listed a w → wpAnyC ro P ops C (full (andFr (dstsIn ops) a0 Q) Kp) n listed a w
  | 0, listed, a, w, _, hf, h => by
    simp only [evDraw] at h
    split at h
    · rename_i hr; exact ⟨hr, h, hf⟩
    · exact h.elim
  | n + 1, listed, a, w, hC, hf, h => by
    simp only [evDraw, forceA_eq] at h
    split at h
    · rename_i hr
      exact ⟨fun _ => ⟨h, hf⟩, by rw [hr]; simp⟩
    · rename_i i is hr
      split at h
      · rename_i j hfi
        have hjm : j ∈ Region.ready .any ops listed := by rw [hr]; exact List.mem_of_find?_eq_some hfi
        have hjp := List.find?_some hfi
        simp only [Bool.and_eq_true] at hjp
        split at h
        · exact h.elim
        · rename_i o ho
          have hfp : ∀ v, Fr (dstsIn ops) a0 (a.put o.dst v) := fun v => hf.trans (.put (dstsIn_spec ho))
          have hQ : ∀ v c a w, full (andFr (dstsIn ops) a0 Q) Kp (.panic c) (a.put o.dst v) w → full (andFr (dstsIn ops) a0 Q) Kp (.panic c) a w := fun v c a w hh => by
            cases hd : o.dst <;> simpa [full, Act.put, hd] using hh
          rcases guardW_sound h with ⟨hw, h⟩ | ⟨hw, h⟩
          · obtain ⟨v, hK, hv⟩ := takeW_sound h
            have hun : listed.getD j true = false := (mem_ready.1 hjm).1
            have hm := evDraw_sound hnd hns n _ _ w (fun hl => hC hl.of_set) (hfp _) hK
            rcases hv with ⟨hl, hv⟩ | hv
            · exact wpAnyC_first (D := C) hnd ho (Region.noSelect_spec hns) (hQ v) (.inr ⟨rfl, hl⟩) n listed a w (Region.free_spec ho hjp.2) hjm
                (hC ⟨j, o, ho, hl, hun⟩) (.inl ⟨hw, hv⟩) hm
            · exact wpAnyC_first (D := fun _ => True) hnd ho (Region.noSelect_spec hns) (hQ v) (.inl fun _ => trivial) n listed a w (Region.free_spec ho hjp.2) hjm
                trivial (.inl ⟨hw, fun w _ => hv w⟩) hm
          · have hm := evDraw_sound hnd hns n _ _ w (fun hl => hC hl.of_set) (hfp _) h
            exact wpAnyC_first (D := fun _ => True) hnd ho (Region.noSelect_spec hns) (hQ undef) (.inl fun _ => trivial) n listed a w (Region.free_spec ho hjp.2) hjm
                trivial (.inr ⟨hw, rfl⟩) hm
      · refine ⟨fun h0 => (by rw [hr] at h0; cases h0), fun j hj => ?_⟩
        have him := hj
        rw [hr] at hj
        have h := allOf_mem h j hj
        split at h
        · exact h.elim
        · rename_i o ho
          · unfold wpOpIn
            simp only [ho]
            have next : ∀ v w', imp (needC ops j) (C w') (evDraw P ops C (Q .normal) Kp n (listed.setIfInBounds j true) (a.put o.dst v) w') →
                (needC ops j = true → C w → C w') ∧ wpAnyC ro P ops C (full (andFr (dstsIn ops) a0 Q) Kp) n (listed.setIfInBounds j true) (a.put o.dst v) w' := fun v w' hi => by
              have hfp : ∀ v, Fr (dstsIn ops) a0 (a.put o.dst v) := fun v => hf.trans (.put (dstsIn_spec ho))
              unfold imp at hi
              cases hn : needC ops j <;> rw [hn] at hi
              · exact ⟨fun h => (by cases h), evDraw_sound hnd hns n _ _ _ (fun hl => (noLoads_of_needC ho him hn hl).elim) (hfp _) hi⟩
              · exact ⟨fun _ _ => hi.1, evDraw_sound hnd hns n _ _ _ (fun _ => hi.1) (hfp _) hi.2⟩
            rcases guardW_sound h with ⟨hw, h⟩ | ⟨hw, h⟩
            · simp only [hw, if_true]
              refine wpIn_of_gives (allND_spec hnd ho) ?_
              have := exec1_sound h
              generalize (execOp a.eval o).run P w = r at this
              cases r with
              | ok x w' =>
                cases x <;> simp only [Gives] at this ⊢ <;> first
                  | exact next _ _ this
                  | exact this.elim
                  | exact Calls.mono this fun e w'' he => by cases e <;> first | exact next _ _ he | exact he
                  | exact RowsIn.mono this fun v w'' he => next _ _ he
                  | exact RoundIn.mono this fun e w'' he => by cases e <;> first | exact next _ _ he | exact he
              | halt x w' => cases x <;> simp only [Gives] at this ⊢ <;> exact this
            · simp only [hw, Bool.false_eq_true, if_false]
              exact ⟨fun _ _ => trivial, fun _ h => h, evDraw_sound hnd hns n _ _ w (fun hl => hC hl.of_set) (hf.trans (.put (dstsIn_spec ho))) h⟩
end
/-- The order in which a region's operations are taken, worked out ahead. -/
inductive Plan where
  | done | bad
  | take (i : Nat) (p : Plan)
  | eff (i : Nat) (nc : Bool) (p : Plan)
  | both (p q : Plan)
def planAll : List Nat → (Nat → Plan) → Plan
  | [], _ => .done
  | i :: is, F => match is with | [] => F i | _ => .both (F i) (planAll is F)
def planOf (ops : Array Oper) : Nat → Array Bool → Plan
  | 0, listed =>
    match Region.ready .any ops listed with
    | [] => .done
    | _ => .bad
  | n + 1, listed =>
    match Region.ready .any ops listed with
    | [] => .done
    | i :: is =>
      match (i :: is).find? fun j => ((ops[j]?).map fun o => takeable o.op).getD false && Region.free .any ops listed j with
      | some j => .take j (planOf ops n (listed.setIfInBounds j true))
      | none => planAll (i :: is) fun i => .eff i (needC ops i) (planOf ops n (listed.setIfInBounds i true))
def forceP : Plan → (Plan → Prop) → Prop
  | .done, k => k .done
  | .bad, k => k .bad
  | .take i p, k => forceP p fun p' => k (.take i p')
  | .eff i nc p, k => forceP p fun p' => cond nc (k (.eff i true p')) (k (.eff i false p'))
  | .both p q, k => forceP p fun p' => forceP q fun q' => k (.both p' q')
theorem forceP_eq : ∀ (p : Plan) (k : Plan → Prop), forceP p k = k p
  | .done, _ => rfl
  | .bad, _ => rfl
  | .take i p, k => by simp only [forceP, forceP_eq p]
  | .eff i nc p, k => by simp only [forceP, forceP_eq p]; cases nc <;> rfl
  | .both p q, k => by simp only [forceP, forceP_eq p, forceP_eq q]
/-- A region by a plan. -/
def evPlan (P : Program) (ops : Array Oper) (C : World → Prop) (K : Act → World → Prop) (Kp : List PanicEntry → List Deferred → World → Prop) : Plan → Act → World → Prop
  | .done, a, w => K a w
  | .bad, _, _ => False
  | .take j p, a, w =>
    match ops[j]? with
    | none => False
    | some o => guardW ops o a
        (fun a' => takeW P o a'.eval C fun v => forceA (a'.put o.dst v) fun a'' => evPlan P ops C K Kp p a'' w)
        (fun a' => forceA (a'.put o.dst undef) fun a'' => evPlan P ops C K Kp p a'' w)
  | .eff i nc p, a, w =>
    match ops[i]? with
    | none => False
    | some o => guardW ops o a
        (fun a' => exec1 P o a'.eval w (fun v w' => imp nc (C w') (forceA (a'.put o.dst v) fun a'' => evPlan P ops C K Kp p a'' w')) (fun ch w' => Kp ch a'.defers w'))
        (fun a' => forceA (a'.put o.dst undef) fun a'' => evPlan P ops C K Kp p a'' w)
  | .both p q, a, w => evPlan P ops C K Kp p a w ∧ evPlan P ops C K Kp q a w
theorem evPlan_all {P : Program} {ops : Array Oper} {C : World → Prop} {K : Act → World → Prop} {Kp : List PanicEntry → List Deferred → World → Prop} {F : Nat → Plan} {a : Act} {w : World} :
    ∀ (i : Nat) (is : List Nat), evPlan P ops C K Kp (planAll (i :: is) F) a w = allOf (i :: is) fun i => evPlan P ops C K Kp (F i) a w
  | i, [] => rfl
  | i, k :: is => by
    have := evPlan_all (P := P) (ops := ops) (C := C) (K := K) (Kp := Kp) (F := F) (a := a) (w := w) k is
    simp only [planAll, allOf, evPlan] at this ⊢
    rw [this]
theorem evPlan_eq {P : Program} {ops : Array Oper} {C : World → Prop} {K : Act → World → Prop} {Kp : List PanicEntry → List Deferred → World → Prop} :
    ∀ (n : Nat) (listed : Array Bool) (a : Act) (w : World), evPlan P ops C K Kp (planOf ops n listed) a w = evDraw P ops C K Kp n listed a w
  | 0, listed, a, w => by
    unfold planOf evDraw
    split <;> rename_i hr <;> simp only [evPlan]
  | n + 1, listed, a, w => by
    unfold planOf evDraw
    cases hr : Region.ready .any ops listed with
    | nil => rfl
    | cons i is =>
      simp only
      cases hf : (i :: is).find? fun j => ((ops[j]?).map fun o => takeable o.op).getD false && Region.free .any ops listed j with
      | some j => simp only [evPlan, evPlan_eq n]
      | none => simp only [evPlan_all, evPlan, evPlan_eq n]
structure doDr (w : World) (K : World → Prop) : Prop where
  out : K w.drew
/-- A region that draws its order. -/
def drawW (P : Program) (ops : Array Oper) (K : Act → World → Prop) (Kp : List PanicEntry → List Deferred → World → Prop) (a : Act) (w : World) : Prop :=
  forceP (planOf ops ops.size (Array.replicate ops.size false)) fun p =>
  cond (ops.toList.any fun o => isLoad o.op) (doDr w fun w' => ∃ C : World → Prop, C w' ∧ evPlan P ops C K Kp p a w')
    (doDr w fun w' => evPlan P ops (fun _ => True) K Kp p a w')
theorem drawW_sound {ro : Option Nat} {P : Program} {id : Nat} {ops : Array Oper} {Q : Exit → Act → World → Prop} {Kp : List PanicEntry → List Deferred → World → Prop} {a : Act} {w : World}
    (hm : P.follows .mixedOrders = true) (hnd : allND ops = true) (hns : Region.noSelect ops = true) (h : drawW P ops (Q .normal) Kp a w) :
    (Code.region id ops true).wpIn (fen ro) 0 P (full (andFr (dstsIn ops) a Q) Kp) a w := by
  refine wpIn_region_any hm ?_
  unfold drawW at h
  rw [forceP_eq] at h
  simp only [evPlan_eq] at h
  cases hl : (ops.toList.any fun o => isLoad o.op) <;> rw [hl] at h
  · exact wpAnyC_in _ _ _ _ (evDraw_sound hnd hns _ _ _ _ (fun _ => trivial) (.refl _ _) h.out)
  · obtain ⟨C, hC, h⟩ := h.out
    exact wpAnyC_in _ _ _ _ (evDraw_sound hnd hns _ _ _ _ (fun _ => hC) (.refl _ _) h)
end Go.Sh

namespace Go.Sh
open Go

/-! ### All values of a shape -/
def all0 : Value → (Value → Prop) → Prop
  | .bool _, F => ∀ b, F (.bool b)
  | .int k _, F => ∀ n, F (.int k n)
  | .string _, F => ∀ s, F (.string s)
  | .pointer _, F => ∀ p, F (.pointer p)
  | .slice _ _ _, F => ∀ p n c, F (.slice p n c)
  | .map _, F => ∀ m, F (.map m)
  | .nilFunc, F => ∀ f x c, F (.func f x c)
  | _, F => ∀ v, F v
def allL0 : List Value → (List Value → Prop) → Prop
  | [], F => F []
  | z :: zs, F => all0 z fun v => allL0 zs fun vs => F (v :: vs)
def all1 : Value → (Value → Prop) → Prop
  | .agg cs, F => allL0 cs.toList fun vs => F (.agg vs.toArray)
  | z, F => all0 z F
def allL : List Value → (List Value → Prop) → Prop
  | [], F => F []
  | z :: zs, F => all1 z fun v => allL zs fun vs => F (v :: vs)
/-- v has the shape of the template, and X. -/
def chk0 : Value → Value → Prop → Prop
  | .bool _, .bool _, X => X
  | .int k _, .int k' _, X => if k = k' then X else False
  | .string _, .string _, X => X
  | .pointer _, .pointer _, X => X
  | .slice _ _ _, .slice _ _ _, X => X
  | .map _, .map _, X => X
  | .nilFunc, .func _ _ _, X => X
  | .nilIface, _, X => X
  | _, _, _ => False
def chkL0 : List Value → List Value → Prop → Prop
  | [], [], X => X
  | z :: zs, v :: vs, X => chk0 z v (chkL0 zs vs X)
  | _, _, _ => False
def chk1 : Value → Value → Prop → Prop
  | .agg cs, .agg vs, X => chkL0 cs.toList vs.toList X
  | z, v, X => chk0 z v X
def chkL : List Value → List Value → Prop → Prop
  | [], [], X => X
  | z :: zs, v :: vs, X => chk1 z v (chkL zs vs X)
  | _, _, _ => False
theorem chk0_spec {z v : Value} {X : Prop} (h : chk0 z v X) : X ∧ ∀ F, all0 z F → F v := by
  unfold chk0 at h
  split at h <;> first
    | exact h.elim
    | exact ⟨h, fun F hF => by simp only [all0] at hF; exact hF _⟩
    | exact ⟨h, fun F hF => by simp only [all0] at hF; exact hF _ _ _⟩
    | (split at h
       · rename_i hk; subst hk; exact ⟨h, fun F hF => by simp only [all0] at hF; exact hF _⟩
       · exact h.elim)
theorem chkL0_spec : ∀ {zs vs : List Value} {X : Prop}, chkL0 zs vs X → X ∧ ∀ F, allL0 zs F → F vs
  | [], [], _, h => ⟨h, fun _ hF => hF⟩
  | z :: zs, v :: vs, _, h => by
    obtain ⟨h, h1⟩ := chk0_spec h
    obtain ⟨h, h2⟩ := chkL0_spec h
    exact ⟨h, fun F hF => h2 (fun vs => F (v :: vs)) (h1 (fun v => allL0 zs fun vs => F (v :: vs)) hF)⟩
  | [], _ :: _, _, h => h.elim
  | _ :: _, [], _, h => h.elim
theorem chk1_spec {z v : Value} {X : Prop} (h : chk1 z v X) : X ∧ ∀ F, all1 z F → F v := by
  unfold chk1 at h
  split at h
  · obtain ⟨h, h1⟩ := chkL0_spec h
    refine ⟨h, fun F hF => ?_⟩
    exact h1 (fun vs => F (.agg vs.toArray)) hF
  · rename_i hne
    obtain ⟨h, h1⟩ := chk0_spec h
    refine ⟨h, fun F hF => h1 F ?_⟩
    cases z <;> first | exact hF | skip
    simp [chk0] at *
theorem chkL_spec : ∀ {zs vs : List Value} {X : Prop}, chkL zs vs X → X ∧ ∀ F, allL zs F → F vs
  | [], [], _, h => ⟨h, fun _ hF => hF⟩
  | z :: zs, v :: vs, _, h => by
    obtain ⟨h, h1⟩ := chk1_spec h
    obtain ⟨h, h2⟩ := chkL_spec h
    exact ⟨h, fun F hF => h2 (fun vs => F (v :: vs)) (h1 (fun v => allL zs fun vs => F (v :: vs)) hF)⟩
  | [], _ :: _, _, h => h.elim
  | _ :: _, [], _, h => h.elim
theorem chkL_length : ∀ {zs vs : List Value} {X : Prop}, chkL zs vs X → vs.length = zs.length
  | [], [], _, _ => rfl
  | z :: zs, v :: vs, _, h => by
    obtain ⟨h, _⟩ := chk1_spec h
    simp [chkL_length h]
  | [], _ :: _, _, h => h.elim
  | _ :: _, [], _, h => h.elim

/-! ### What code may write -/
def modsC : Code → List Nat
  | .region _ ops _ => ops.toList.filterMap (·.dst)
  | .seq a b => modsC a ++ modsC b
  | .cond _ a b => modsC a ++ modsC b
  | .block _ b => modsC b
  | .loop b => modsC b
  | .scope b => modsC b
  | _ => []
def noRF : Code → Bool
  | .rangeFunc .. => false
  | .scope _ => false
  | .seq a b => noRF a && noRF b
  | .cond _ a b => noRF a && noRF b
  | .block _ b => noRF b
  | .loop b => noRF b
  | _ => true

/-! ### Loops -/
def havoc (j : Nat → Value) : List Nat → Array Value → Array Value
  | [], t => t
  | i :: is, t => havoc j is (t.setIfInBounds i (j i))
def putAll : List Nat → List Value → Array Value → Array Value
  | i :: is, v :: vs, t => putAll is vs (t.setIfInBounds i v)
  | _, _, t => t
def getAll (is : List Nat) (t : Array Value) : List Value := is.map fun i => t.getD i undef
theorem havoc_size {j : Nat → Value} : ∀ {is : List Nat} {t : Array Value}, (havoc j is t).size = t.size
  | [], _ => rfl
  | _ :: is, _ => by simp only [havoc, havoc_size (is := is)]; simp
theorem putAll_size : ∀ {is : List Nat} {vs : List Value} {t : Array Value}, (putAll is vs t).size = t.size
  | [], _, _ => rfl
  | _ :: _, [], _ => rfl
  | _ :: is, _ :: vs, _ => by simp only [putAll, putAll_size (is := is)]; simp
theorem havoc_get {j : Nat → Value} {i : Nat} : ∀ {is : List Nat} {t : Array Value}, i < t.size → (havoc j is t)[i]? = if i ∈ is then some (j i) else t[i]?
  | [], _, _ => by simp [havoc]
  | k :: is, t, hi => by
    rw [havoc, havoc_get (is := is) (by simpa using hi)]
    by_cases h : i ∈ is
    · simp [h]
    · by_cases hk : k = i
      · subst hk; simp [h, hi]
      · simp [h, Array.getElem?_setIfInBounds_ne hk, Ne.symm hk]
theorem putAll_get_not {i : Nat} : ∀ {is : List Nat} {vs : List Value} {t : Array Value}, i ∉ is → (putAll is vs t)[i]? = t[i]?
  | [], _, _, _ => rfl
  | _ :: _, [], _, _ => rfl
  | k :: is, v :: vs, t, h => by
    rw [putAll, putAll_get_not (is := is) (fun h' => h (List.mem_cons_of_mem _ h')), Array.getElem?_setIfInBounds_ne (fun e => h (List.mem_cons.2 (.inl e.symm)))]
theorem putAll_map_get {f : Nat → Value} {i : Nat} : ∀ {is : List Nat} {t : Array Value}, i < t.size → (putAll is (is.map f) t)[i]? = if i ∈ is then some (f i) else t[i]?
  | [], _, _ => by simp [putAll]
  | k :: is, t, hi => by
    rw [List.map_cons, putAll, putAll_map_get (is := is) (by simpa using hi)]
    by_cases h : i ∈ is
    · simp [h]
    · by_cases hk : k = i
      · subst hk; simp [h, hi]
      · simp [h, Array.getElem?_setIfInBounds_ne hk, Ne.symm hk]
theorem getAll_putAll : ∀ {is : List Nat} {vs : List Value} {t : Array Value}, is.Nodup → vs.length = is.length → (∀ i ∈ is, i < t.size) → getAll is (putAll is vs t) = vs
  | [], [], _, _, _, _ => rfl
  | [], _ :: _, _, _, h, _ => by simp at h
  | _ :: _, [], _, _, h, _ => by simp at h
  | k :: is, v :: vs, t, hn, hl, hb => by
    have hn' := List.nodup_cons.1 hn
    have ih := getAll_putAll (is := is) (vs := vs) (t := t.setIfInBounds k v) hn'.2 (by simpa using hl) (fun i hi => by simpa using hb i (List.mem_cons_of_mem _ hi))
    simp only [getAll, List.map_cons, putAll] at ih ⊢
    rw [ih]
    have hk := hb k List.mem_cons_self
    have : (putAll is vs (t.setIfInBounds k v))[k]? = some v := by rw [putAll_get_not hn'.1]; simp [hk]
    rw [show (putAll is vs (t.setIfInBounds k v)).getD k undef = v by simp [Array.getD_eq_getD_getElem?, this]]
def slotsOk (is ms : List Nat) (n : Nat) : Bool := decide is.Nodup && is.all (fun i => decide (i < n) && ms.contains i)
theorem putAll_havoc_self {is ms : List Nat} {t t' : Array Value} (hs : t'.size = t.size) (h : ∀ i, i ∉ ms → t'[i]? = t[i]?) :
    putAll is (getAll is t') (havoc (fun i => t'.getD i undef) ms t) = t' := by
  apply Array.ext_getElem?
  intro i
  rcases Nat.lt_or_ge i t.size with hi | hi
  · rw [getAll, putAll_map_get (by rw [havoc_size]; exact hi), havoc_get hi]
    have ht' : t'[i]? = some (t'.getD i undef) := by
      rw [Array.getD_eq_getD_getElem?, Array.getElem?_eq_getElem (by omega)]; rfl
    by_cases h1 : i ∈ is
    · simp only [h1, if_true]; exact ht'.symm
    · by_cases h2 : i ∈ ms
      · simp only [h1, h2, if_true, if_false]; exact ht'.symm
      · simp only [h1, h2, if_false]; exact (h i h2).symm
  · rw [Array.getElem?_eq_none (by rw [putAll_size, havoc_size]; exact hi), Array.getElem?_eq_none (by omega)]
/-- A loop: an invariant on the live temporaries, and a measure. -/
def loopW (ts init : List Value) (w : World) (step : (Nat → Value) → List Value → World → (List Value → World → Prop) → Prop) : Prop :=
  ∃ (I : List Value → World → Prop) (μ : List Value → World → Nat), chkL ts init (I init w) ∧
    allL ts fun vs => ∀ j w', I vs w' → step j vs w' fun vs' w'' => chkL ts vs' (I vs' w'' ∧ μ vs' w'' < μ vs w')
def loopQ (is : List Nat) (K : List Value → World → Prop) (Q : Exit → Act → World → Prop) : Exit → Act → World → Prop
  | .normal, a, w => K (getAll is a.tmps) w
  | e, a, w => Q e a w
/-- A cut: what holds where several ways meet. -/
def cutW (ts : List Value) (A : (List Value → World → Prop) → Prop) (B : (Nat → Value) → List Value → World → Prop) : Prop :=
  ∃ J : List Value → World → Prop, (allL ts fun vs => ∀ j w', J vs w' → B j vs w') ∧ A fun vs w => chkL ts vs (J vs w)
def headId : Code → Option Nat
  | .region id _ _ => some id
  | .seq x _ => headId x
  | .block _ x => headId x
  | .loop x => headId x
  | .cond _ x y => match headId x with | some i => some i | none => headId y
  | _ => none
/-- Where the code y is to be cut off: the annotation of its first region. -/
def cutOf (ann : Nat → List (Nat × Value)) (y : Code) : List (Nat × Value) :=
  match headId y with
  | some id => ann (1000000 + id)
  | none => []
def litC (c : Operand) (b : Bool) (a : Act) : Act :=
  match c with
  | .tmp t => a.put (some t) (.bool b)
  | _ => a
theorem litC_same {c : Operand} {b : Bool} {a : Act} (h : a.eval c = .bool b) : litC c b a = a := by
  cases c <;> first | rfl | exact put_same h

/-! ### Ranges over a function -/
/-- What stands behind a range over a function, by the jump that a round has left. -/
def jmpW (j : Option Code) (N R : World → Prop) (Xs : List (Nat × (World → Prop))) (w : World) : Prop :=
  match j with
  | none => N w
  | some .ret => R w
  | some (.exit id) => match Xs.lookup id with | some X => X w | none => False
  | _ => False
def rfPost (l : Nat) (N R : World → Prop) (Xs : List (Nat × (World → Prop))) : Ending → World → Prop
  | .returned _, w => ∃ r, w.heap[l]? = some (.loop r) ∧ r.state ≠ .busy ∧ jmpW r.pending N R Xs (w.putObj l (.loop { r with state := .exhausted }))
  | _, _ => False
/-- A call of a function value that leads into a function of the program. -/
def callE (P : Program) (v : Value) (args : Array Value) (w : World) (R : Ending → World → Prop) : Prop :=
  match v with
  | .func fn first cap =>
    match (invoke (.fn fn cap) (first ++ args)).run P w with
    | .ok (.enter f as) w' => Calls P f as w' R
    | _ => False
  | _ => False
/-- A range over a function, outside every other one. -/
structure rfW (P : Program) (gv : Value) (L : FuncId → Nat → Loop) (N R : World → Prop) (Xs : List (Nat × (World → Prop))) (w : World) : Prop where
  out : ∀ fn, callE P gv #[.func (.yield (w.heap.size + 1)) #[] #[]] ((w.alloc (.deferred (some []))).alloc (.loop (L fn w.heap.size))) (rfPost (w.heap.size + 1) N R Xs)
/-- A range over a function within a round of loop l₀. -/
structure rfN (P : Program) (l₀ : Nat) (gv : Value) (L : FuncId → Nat → Loop) (N R : World → Prop) (Xs : List (Nat × (World → Prop))) (w : World) : Prop where
  out : ∃ r₀, w.heap[l₀]? = some (.loop r₀) ∧ ∀ fn, callE P gv #[.func (.yield w.heap.size) #[] #[]] (w.alloc (.loop (L fn r₀.defers))) (rfPost w.heap.size N R Xs)
def exitsC : Code → List Nat
  | .exit id => [id]
  | .seq a b => exitsC a ++ exitsC b
  | .cond _ a b => exitsC a ++ exitsC b
  | .block _ b => exitsC b
  | .loop b => exitsC b
  | .rangeFunc _ _ a b => exitsC a ++ exitsC b
  | _ => []
def mkLoop (tmps : Array Value) (ps : Array Tmp) (as body : Code) (fn : FuncId) (D : Nat) : Loop :=
  { state := .ready, pending := none, fn, tmps, params := ps, assign := as, body, defers := D }

/-! ### Scopes -/
section
variable {F : Fence} {P : Program} {b : Frame} {a : Act} {k : List Item} {cs : List Frame} {w : World}
theorem stepR_scope {c : Code} : step P (lone (b.atR a (.code (.scope c) :: k)) cs w) = .next (lone (b.atR a (.code c :: .inScope c :: k)) cs w) :=
  step_lone_go (by simp [stepG, stepG.exec, Frame.atR])
theorem stepR_inScope {c : Code} : step P (lone (b.atR a (.inScope c :: k)) cs w) = .next (lone (b.atR a k) cs w) :=
  step_lone_go (by simp [stepG, stepG.exec, Frame.atR])
/-- The exits of a scope: at most so many jumps to labels of its own. -/
def scopeP (F : Fence) (P : Program) (c : Code) (Q : Exit → Act → World → Prop) : Nat → Exit → Act → World → Prop
  | 0, .goto _, _, _ => False
  | m + 1, .goto l, a, w => ∃ rest, findLabel c l = some rest ∧ rest.wpIn F 0 P (scopeP F P c Q m) a w
  | _, e, a, w => Q e a w
theorem scopeP_out {c : Code} {Q : Exit → Act → World → Prop} {M : Machine} (hro : b.roundOf = F.round) (hb : F.fn b.fn) (hr : F.room (cs.length + 1 + 0)) : ∀ (m : Nat) (e : Exit) (a₁ : Act) (w₁ : World), scopeP F P c Q m e a₁ w₁ →
    ArrivesIn (Machine.fenced P F) P M b (.inScope c :: k) cs e a₁ w₁ → ∃ e' a' w', Q e' a' w' ∧ ArrivesIn (Machine.fenced P F) P M b k cs e' a' w' := by
  intro m
  induction m with
  | zero =>
    intro e a₁ w₁ hq harr
    cases e with
    | normal => exact ⟨.normal, a₁, w₁, hq, StepsIn.trans harr (.one (fenced_calm hb hr rfl) stepR_inScope)⟩
    | exit id => exact ⟨.exit id, a₁, w₁, hq, fun k' hk => harr.1 k' (by simpa [exitTo] using hk), fun h1 h2 => harr.2 h1 (by simpa [exitTo] using h2)⟩
    | goto l => exact hq.elim
    | ret => exact ⟨_, a₁, w₁, hq, harr⟩
    | panic ch => exact ⟨_, a₁, w₁, hq, harr⟩
    | outgrown => exact ⟨_, a₁, w₁, hq, harr⟩
  | succ m ih =>
    intro e a₁ w₁ hq harr
    cases e with
    | normal => exact ⟨.normal, a₁, w₁, hq, StepsIn.trans harr (.one (fenced_calm hb hr rfl) stepR_inScope)⟩
    | exit id => exact ⟨.exit id, a₁, w₁, hq, fun k' hk => harr.1 k' (by simpa [exitTo] using hk), fun h1 h2 => harr.2 h1 (by simpa [exitTo] using h2)⟩
    | goto l =>
      obtain ⟨rest, hf, hrest⟩ := hq
      have hg : gotoIn l (.inScope c :: k) = some (.code rest :: .inScope c :: k) := by simp [gotoIn, hf]
      obtain ⟨e₂, a₂, w₂, hq₂, harr₂⟩ := hrest b (.inScope c :: k) cs hro hb hr
      exact ih e₂ a₂ w₂ hq₂ (.of_steps (harr.1 _ hg) harr₂)
    | ret => exact ⟨_, a₁, w₁, hq, harr⟩
    | panic ch => exact ⟨_, a₁, w₁, hq, harr⟩
    | outgrown => exact ⟨_, a₁, w₁, hq, harr⟩
theorem wpIn_scope {c : Code} {Q : Exit → Act → World → Prop} (m : Nat) (h : c.wpIn F 0 P (scopeP F P c Q m) a w) : (Code.scope c).wpIn F 0 P Q a w := by
  intro b k cs hro hb hr
  obtain ⟨e, a₁, w₁, hq, harr⟩ := h b (.inScope c :: k) cs hro hb hr
  exact scopeP_out hro hb hr m e a₁ w₁ hq (.of_steps (.one (fenced_calm hb hr rfl) stepR_scope) harr)
end

/-! ### Code -/
def scopeQ (c : Code) (G : Code → Act → World → Prop) (Q : Exit → Act → World → Prop) : Exit → Act → World → Prop
  | .goto l, a, w => match findLabel c l with | some rest => G rest a w | none => False
  | e, a, w => Q e a w
def noGotoQ (Q : Exit → Act → World → Prop) : Exit → Act → World → Prop
  | .goto _, _, _ => False
  | e, a, w => Q e a w
def ev (P : Program) (ann : Nat → List (Nat × Value)) (ro : Option Nat) (Kp : List PanicEntry → List Deferred → World → Prop) :
    Nat → Nat → Code → (Exit → Act → World → Prop) → Act → World → Prop
  | 0, _, _, _, _, _ => False
  | n + 1, bid, c, Q, a, w =>
    match c with
    | .skip => Q .normal a w
    | .label _ => Q .normal a w
    | .region _ ops d => cond (allND ops && Region.noSelect ops) (cond d (drawW P ops (Q .normal) Kp a w) (evOps P ops (Q .normal) Kp (List.range ops.size) a w)) False
    | .seq x y =>
      match cutOf ann y with
      | [] => ev P ann ro Kp n bid x (Exit.then (ev P ann ro Kp n bid y Q) Q) a w
      | _ :: l =>
        cond (noRF x && slotsOk (l.map (·.1)) (modsC x) a.tmps.size)
          (cutW (l.map (·.2)) (fun K => ev P ann ro Kp n bid x (loopQ (l.map (·.1)) K Q) a w)
            fun j vs w' => ev P ann ro Kp n bid y Q { a with tmps := putAll (l.map (·.1)) vs (havoc j (modsC x) a.tmps) } w')
          False
    | .cond c x y =>
      match a.eval c with
      | .bool b => ifB b (ev P ann ro Kp n bid x Q (litC c true a) w) (ev P ann ro Kp n bid y Q (litC c false a) w)
      | _ => False
    | .block id x => ev P ann ro Kp n id x (Exit.inBlock id Q) a w
    | .loop x =>
      cond (noRF x && slotsOk ((ann bid).map (·.1)) (modsC x) a.tmps.size)
        (loopW ((ann bid).map (·.2)) (getAll ((ann bid).map (·.1)) a.tmps) w fun j vs w' K =>
          ev P ann ro Kp n 0 x (loopQ ((ann bid).map (·.1)) K Q) { a with tmps := putAll ((ann bid).map (·.1)) vs (havoc j (modsC x) a.tmps) } w')
        False
    | .scope x => ev P ann ro Kp n bid x (scopeQ x (fun rest a' w' => ev P ann ro Kp n bid rest (scopeQ x (fun rest' a'' w'' => ev P ann ro Kp n bid rest' (noGotoQ Q) a'' w'') Q) a' w') Q) a w
    | .exit id => Q (.exit id) a w
    | .goto l => Q (.goto l) a w
    | .ret => Q .ret a w
    | .rangeFunc g ps as body =>
      match ro with
      | none =>
        rfW P (a.eval g) (mkLoop a.tmps ps as body)
          (Q .normal { a with defers := { target := .collected w.heap.size, args := #[] } :: a.defers })
          (Q .ret { a with defers := { target := .collected w.heap.size, args := #[] } :: a.defers })
          ((exitsC body).map fun id => (id, Q (.exit id) { a with defers := { target := .collected w.heap.size, args := #[] } :: a.defers })) w
      | some l₀ => rfN P l₀ (a.eval g) (mkLoop a.tmps ps as body) (Q .normal a) (Q .ret a) ((exitsC body).map fun id => (id, Q (.exit id) a)) w
    | _ => False
/-- The exits, and, where no loop over a function is in it, what was left alone. -/
def andFrC (c : Code) (a0 : Act) (Q : Exit → Act → World → Prop) : Exit → Act → World → Prop := fun e a w => Q e a w ∧ (noRF c = true → Fr (modsC c) a0 a)
theorem full_mono {Q Q' : Exit → Act → World → Prop} {Kp : List PanicEntry → List Deferred → World → Prop} (h : ∀ e a w, Q e a w → Q' e a w) : ∀ e a w, full Q Kp e a w → full Q' Kp e a w := by
  intro e a w hq
  cases e <;> first | exact h _ _ _ hq | exact hq
section
variable {P : Program} {ann : Nat → List (Nat × Value)} {ro : Option Nat} {Kp : List PanicEntry → List Deferred → World → Prop}
theorem then_full {K : Act → World → Prop} {Q : Exit → Act → World → Prop} {K' : Act → World → Prop} {Q' : Exit → Act → World → Prop}
    (h1 : ∀ a w, K a w → K' a w) (h2 : ∀ e a w, e ≠ .normal → full Q Kp e a w → Q' e a w) : ∀ e a w, full (Exit.then K Q) Kp e a w → Exit.then K' Q' e a w := by
  intro e a w h
  cases e <;> first | exact h1 _ _ h | exact h2 _ _ _ (by simp) h
theorem andFrC_out {c x : Code} {a0 : Act} {Q : Exit → Act → World → Prop} (hm : noRF c = true → noRF x = true ∧ ∀ i, i ∈ modsC x → i ∈ modsC c) {e : Exit} {a : Act} {w : World}
    (h : andFrC x a0 Q e a w) : andFrC c a0 Q e a w := ⟨h.1, fun hc => (h.2 (hm hc).1).mono (hm hc).2⟩
theorem rfPost_sound {l : Nat} {a' : Act} {Q : Exit → Act → World → Prop} {body : Code} {e : Ending} {w : World}
    (h : rfPost l (Q .normal a') (Q .ret a') ((exitsC body).map fun id => (id, Q (.exit id) a')) e w) : rangePost (fen ro) 0 P l (full Q Kp) a' e w := by
  cases e with
  | returned v =>
    obtain ⟨r, hr, hs, hj⟩ := h
    obtain ⟨state, pending, fn, tmps, params, assign, lbody, defers⟩ := r
    refine ⟨pending, _, run_endLoop hr hs, ?_⟩
    unfold jmpW at hj
    split at hj
    · rename_i hp; simp only at hp; subst hp; exact hj
    · rename_i hp; simp only at hp; subst hp; exact wpIn_ret hj
    · rename_i id hp
      simp only at hp; subst hp
      have : ∀ (L : List Nat) X, (L.map fun id => (id, Q (.exit id) a')).lookup id = some X → X = Q (.exit id) a' := by
        intro L
        induction L with
        | nil => intro X hX; simp at hX
        | cons i L ih =>
          intro X hX
          simp only [List.map_cons, List.lookup_cons] at hX
          split at hX
          · rename_i hi; simp only [beq_iff_eq] at hi; subst hi; simpa using hX.symm
          · exact ih X hX
      split at hj
      · rename_i X hX
        rw [this _ X hX] at hj
        exact wpIn_exit hj
      · exact hj.elim
    · exact hj.elim
  | panicked ch => exact h.elim
  | outgrown => exact h.elim
theorem callE_spec {v : Value} {args : Array Value} {w : World} {R : Ending → World → Prop} (h : callE P v args w R) :
    ∃ fn first cap f as w', v = .func fn first cap ∧ (invoke (.fn fn cap) (first ++ args)).run P w = .ok (.enter f as) w' ∧ Calls P f as w' R := by
  unfold callE at h
  split at h
  · split at h
    · rename_i hr; exact ⟨_, _, _, _, _, _, rfl, hr, h⟩
    · exact h.elim
  · exact h.elim
theorem rfW_sound {g : Operand} {ps : Array Tmp} {as body : Code} {Q : Exit → Act → World → Prop} {a : Act} {w : World}
    (h : rfW P (a.eval g) (mkLoop a.tmps ps as body)
          (Q .normal { a with defers := { target := .collected w.heap.size, args := #[] } :: a.defers })
          (Q .ret { a with defers := { target := .collected w.heap.size, args := #[] } :: a.defers })
          ((exitsC body).map fun id => (id, Q (.exit id) { a with defers := { target := .collected w.heap.size, args := #[] } :: a.defers })) w) :
    (Code.rangeFunc g ps as body).wpIn (fen none) 0 P (full Q Kp) a w := by
  refine wpIn_rangeFunc fun fn _ => ?_
  obtain ⟨fv, first, cap, f, args, w', hv, hi, hc⟩ := callE_spec (h.out fn)
  refine ⟨_, _, _, { target := .fn fv cap, args := first ++ #[.func (.yield (w.heap.size + 1)) #[] #[]] }, _, f, args, w', run_enterLoop_outer fn a.tmps ps as body, ?_, fun _ _ => trivial, hi, fun hx => by simp [fen, Fence.wide] at hx, ?_⟩
  · simp only [resolve]; rw [hv]; simp [Deferred.ofValue, Act.eval, mkLoop]
  · exact (callsIn_wide (n := 0 - 1)).2 (hc.mono fun e w'' he => rfPost_sound (ro := none) he)
theorem rfN_sound {l₀ : Nat} {g : Operand} {ps : Array Tmp} {as body : Code} {Q : Exit → Act → World → Prop} {a : Act} {w : World}
    (h : rfN P l₀ (a.eval g) (mkLoop a.tmps ps as body) (Q .normal a) (Q .ret a) ((exitsC body).map fun id => (id, Q (.exit id) a)) w) :
    (Code.rangeFunc g ps as body).wpIn (fen (some l₀)) 0 P (full Q Kp) a w := by
  refine wpIn_rangeFunc fun fn _ => ?_
  obtain ⟨r₀, hr₀, h⟩ := h.out
  obtain ⟨fv, first, cap, f, args, w', hv, hi, hc⟩ := callE_spec (h fn)
  refine ⟨_, _, _, { target := .fn fv cap, args := first ++ #[.func (.yield w.heap.size) #[] #[]] }, _, f, args, w', run_enterLoop_inner hr₀ fn a.tmps ps as body, ?_, fun _ _ => trivial, hi, fun hx => by simp [fen, Fence.wide] at hx, ?_⟩
  · simp only [resolve]; rw [hv]; simp [Deferred.ofValue, Act.eval, mkLoop]
  · exact (callsIn_wide (n := 0 - 1)).2 (hc.mono fun e w'' he => rfPost_sound (ro := some l₀) (a' := a) he)
/-- The evaluator is sound. -/
theorem ev_sound (hm : P.follows .mixedOrders = true) : ∀ (n bid : Nat) (c : Code) (Q : Exit → Act → World → Prop) (a : Act) (w : World),
    ev P ann ro Kp n bid c Q a w → c.wpIn (fen ro) 0 P (full (andFrC c a Q) Kp) a w := by
  intro n
  induction n with
  | zero => intro _ _ _ _ _ h; exact h.elim
  | succ n ih =>
    intro bid c Q a w h
    unfold ev at h
    cases c with
    | skip => exact wpIn_skip ⟨h, fun _ => .refl _ _⟩
    | label l => exact wpIn_label ⟨h, fun _ => .refl _ _⟩
    | exit id => exact wpIn_exit ⟨h, fun _ => .refl _ _⟩
    | goto l => exact wpIn_goto ⟨h, fun _ => .refl _ _⟩
    | ret => exact wpIn_ret ⟨h, fun _ => .refl _ _⟩
    | refuse s => exact h.elim
    | region id ops d =>
      simp only at h
      cases hc : (allND ops && Region.noSelect ops) <;> rw [hc] at h
      · exact h.elim
      simp only [Bool.and_eq_true] at hc
      have conv : ∀ e a' w', full (andFr (dstsIn ops) a Q) Kp e a' w' → full (andFrC (.region id ops d) a Q) Kp e a' w' :=
        full_mono fun e a' w' hq => ⟨hq.1, fun _ => hq.2⟩
      cases d with
      | true => exact wpIn_mono (drawW_sound hm hc.1 hc.2 h) conv
      | false => exact wpIn_mono (wpIn_region (evOps_sound hc.1 _ _ _ (.refl _ _) h)) conv
    | seq x y =>
      simp only at h
      split at h
      case h_2 d l hcut =>
        cases hc : (noRF x && slotsOk (l.map (·.1)) (modsC x) a.tmps.size) <;> rw [hc] at h
        · exact h.elim
        simp only [Bool.and_eq_true, slotsOk, decide_eq_true_eq, List.all_eq_true, List.contains_iff_mem] at hc
        obtain ⟨hrf, hnd, hsl⟩ := hc
        generalize l.map (·.1) = is at *
        generalize l.map (·.2) = ts at *
        obtain ⟨J, hB, hA⟩ := h
        refine wpIn_seq (wpIn_mono (ih bid x _ a w hA) ?_)
        intro e a₁ w₁ he
        cases e with
        | normal =>
          obtain ⟨hK, hf⟩ := he
          have hf := hf hrf
          simp only [loopQ] at hK
          obtain ⟨hJ, hsh⟩ := chkL_spec hK
          have hB := hsh _ hB (fun i => a₁.tmps.getD i undef) w₁ hJ
          have he1 : ({ a with tmps := putAll is (getAll is a₁.tmps) (havoc (fun i => a₁.tmps.getD i undef) (modsC x) a.tmps) } : Act) = a₁ := by
            rw [putAll_havoc_self hf.size hf.same]
            obtain ⟨t, d⟩ := a₁
            have := hf.defers
            simp only at this
            rw [this]
          simp only [he1] at hB
          refine wpIn_mono (ih bid y Q a₁ w₁ hB) (full_mono fun e a₂ w₂ hq => ⟨hq.1, fun hn => ?_⟩)
          simp only [noRF, Bool.and_eq_true] at hn
          exact (hf.mono (fun i hi => List.mem_append_left _ hi)).trans ((hq.2 hn.2).mono (fun i hi => List.mem_append_right _ hi))
        | panic ch => exact he
        | outgrown => exact he
        | exit id => exact ⟨he.1, fun hn => by simp only [noRF, Bool.and_eq_true] at hn; exact (he.2 hn.1).mono (fun i hi => List.mem_append_left _ hi)⟩
        | goto id => exact ⟨he.1, fun hn => by simp only [noRF, Bool.and_eq_true] at hn; exact (he.2 hn.1).mono (fun i hi => List.mem_append_left _ hi)⟩
        | ret => exact ⟨he.1, fun hn => by simp only [noRF, Bool.and_eq_true] at hn; exact (he.2 hn.1).mono (fun i hi => List.mem_append_left _ hi)⟩
      refine wpIn_seq (wpIn_mono (ih bid x _ a w h) ?_)
      intro e a₁ w₁ he
      cases e with
      | normal =>
        obtain ⟨he, hf⟩ := he
        refine wpIn_mono (ih bid y Q a₁ w₁ he) (full_mono fun e a₂ w₂ hq => ⟨hq.1, fun hn => ?_⟩)
        simp only [noRF, Bool.and_eq_true] at hn
        exact ((hf hn.1).mono (fun i hi => List.mem_append_left _ hi)).trans ((hq.2 hn.2).mono (fun i hi => List.mem_append_right _ hi))
      | panic ch => exact he
      | outgrown => exact he
      | exit id => exact ⟨he.1, fun hn => by simp only [noRF, Bool.and_eq_true] at hn; exact (he.2 hn.1).mono (fun i hi => List.mem_append_left _ hi)⟩
      | goto id => exact ⟨he.1, fun hn => by simp only [noRF, Bool.and_eq_true] at hn; exact (he.2 hn.1).mono (fun i hi => List.mem_append_left _ hi)⟩
      | ret => exact ⟨he.1, fun hn => by simp only [noRF, Bool.and_eq_true] at hn; exact (he.2 hn.1).mono (fun i hi => List.mem_append_left _ hi)⟩
    | cond c x y =>
      simp only at h
      split at h
      · rename_i b hb
        rcases ifB_cases h with ⟨rfl, h⟩ | ⟨rfl, h⟩
        · rw [litC_same hb] at h
          exact wpIn_cond hb (wpIn_mono (ih bid x Q a w h) (full_mono fun e a₁ w₁ hq => andFrC_out (fun hn => by simp only [noRF, Bool.and_eq_true] at hn; exact ⟨hn.1, fun i hi => List.mem_append_left _ hi⟩) hq))
        · rw [litC_same hb] at h
          exact wpIn_cond hb (wpIn_mono (ih bid y Q a w h) (full_mono fun e a₁ w₁ hq => andFrC_out (fun hn => by simp only [noRF, Bool.and_eq_true] at hn; exact ⟨hn.2, fun i hi => List.mem_append_right _ hi⟩) hq))
      · exact h.elim
    | block id x =>
      refine wpIn_block (wpIn_mono (ih id x _ a w h) ?_)
      intro e a₁ w₁ he
      cases e with
      | normal => exact he
      | panic ch => exact he
      | outgrown => exact he
      | goto l => exact he
      | ret => exact he
      | exit id' =>
        obtain ⟨hq, hf⟩ := he
        simp only [Exit.inBlock] at hq ⊢
        split
        · rename_i hid; rw [if_pos hid] at hq; exact ⟨hq, hf⟩
        · rename_i hid; rw [if_neg hid] at hq; exact ⟨hq, hf⟩
    | scope x =>
      refine wpIn_scope 2 (wpIn_mono (ih bid x _ a w h) ?_)
      have outer : ∀ e a₁ w₁, full (andFrC (.scope x) a Q) Kp e a₁ w₁ ↔ full Q Kp e a₁ w₁ := fun e a₁ w₁ => by
        cases e <;> simp [full, andFrC, noRF]
      intro e a₁ w₁ he
      cases e with
      | goto l =>
        obtain ⟨hq, _⟩ := he
        simp only [scopeQ] at hq
        split at hq
        · rename_i rest hf
          refine ⟨rest, hf, wpIn_mono (ih bid rest _ a₁ w₁ hq) ?_⟩
          intro e a₂ w₂ he
          cases e with
          | goto l =>
            obtain ⟨hq, _⟩ := he
            simp only [scopeQ] at hq
            split at hq
            · rename_i rest hf
              refine ⟨rest, hf, wpIn_mono (ih bid rest _ a₂ w₂ hq) ?_⟩
              intro e a₃ w₃ he
              cases e with
              | goto l => exact he.1.elim
              | panic ch => exact he
              | outgrown => exact he
              | normal => exact (outer _ _ _).2 he.1
              | exit id => exact (outer _ _ _).2 he.1
              | ret => exact (outer _ _ _).2 he.1
            · exact hq.elim
          | panic ch => exact he
          | outgrown => exact he
          | normal => exact (outer _ _ _).2 he.1
          | exit id => exact (outer _ _ _).2 he.1
          | ret => exact (outer _ _ _).2 he.1
        · exact hq.elim
      | panic ch => exact he
      | outgrown => exact he
      | normal => exact (outer _ _ _).2 he.1
      | exit id => exact (outer _ _ _).2 he.1
      | ret => exact (outer _ _ _).2 he.1
    | rangeFunc g ps as body =>
      have outer : ∀ e a₁ w₁, full Q Kp e a₁ w₁ → full (andFrC (.rangeFunc g ps as body) a Q) Kp e a₁ w₁ := fun e a₁ w₁ => by
        cases e <;> simp [full, andFrC, noRF]
      cases ro with
      | none => exact wpIn_mono (rfW_sound h) outer
      | some l₀ => exact wpIn_mono (rfN_sound h) outer
    | loop x =>
      simp only at h
      cases hc : (noRF x && slotsOk ((ann bid).map (·.1)) (modsC x) a.tmps.size) <;> rw [hc] at h
      · exact h.elim
      simp only [Bool.and_eq_true, slotsOk, decide_eq_true_eq, List.all_eq_true, List.contains_iff_mem] at hc
      obtain ⟨hrf, hnd, hsl⟩ := hc
      generalize (ann bid).map (·.1) = is at *
      generalize (ann bid).map (·.2) = ts at *
      obtain ⟨I, μ, h0, hstep⟩ := h
      refine wpIn_loop (fun a₁ w₁ => ∃ vs j, (∀ F, allL ts F → F vs) ∧ vs.length = is.length ∧ I vs w₁ ∧ a₁ = { a with tmps := putAll is vs (havoc j (modsC x) a.tmps) })
        (fun a₁ w₁ => μ (getAll is a₁.tmps) w₁) ?_ ?_
      · have hl := chkL_length h0
        obtain ⟨h0, hsh⟩ := chkL_spec h0
        refine ⟨_, fun i => a.tmps.getD i undef, hsh, by simp [getAll], h0, ?_⟩
        rw [putAll_havoc_self rfl (fun _ _ => rfl)]
      · rintro a₁ w₁ ⟨vs, j, hsh, hlen, hI, rfl⟩
        have hb : ∀ i ∈ is, i < (havoc j (modsC x) a.tmps).size := fun i hi => by rw [havoc_size]; exact (hsl i hi).1
        refine wpIn_mono (ih 0 x _ _ w₁ (hsh _ hstep j w₁ hI)) ?_
        intro e a₂ w₂ he
        have hsz : ∀ a₂ : Act, Fr (modsC x) { a with tmps := putAll is vs (havoc j (modsC x) a.tmps) } a₂ → Fr (modsC x) a a₂ := fun a₂ hf =>
          ⟨hf.defers, by rw [hf.size]; simp only [putAll_size, havoc_size], fun i hi => by
            rw [hf.same i hi]
            simp only
            rw [putAll_get_not (fun hi' => hi (hsl i hi').2)]
            rcases Nat.lt_or_ge i a.tmps.size with hlt | hge
            · rw [havoc_get hlt, if_neg hi]
            · rw [Array.getElem?_eq_none (by rw [havoc_size]; exact hge), Array.getElem?_eq_none hge]⟩
        cases e with
        | normal =>
          obtain ⟨hK, hf⟩ := he
          have hf := hsz _ (hf hrf)
          simp only [loopQ] at hK
          have hl := chkL_length hK
          obtain ⟨⟨hI', hμ⟩, hsh'⟩ := chkL_spec hK
          refine ⟨⟨_, fun i => a₂.tmps.getD i undef, hsh', by simp [getAll], hI', ?_⟩, ?_⟩
          · rw [putAll_havoc_self hf.size hf.same]
            obtain ⟨t, d⟩ := a₂
            have := hf.defers
            simp only at this
            rw [this]
          · simp only
            rw [getAll_putAll hnd hlen hb]
            exact hμ
        | panic ch => exact he
        | outgrown => exact he
        | exit id => exact ⟨he.1, fun hn => hsz _ (he.2 hn)⟩
        | goto l => exact ⟨he.1, fun hn => hsz _ (he.2 hn)⟩
        | ret => exact ⟨he.1, fun hn => hsz _ (he.2 hn)⟩
end

/-! ### A function's contract -/
def leaveW : List Deferred → World → (World → Prop) → Prop
  | [], w, K => K w
  | d :: ds, w, K =>
    match d.target with
    | .collected r => w.heap[r]? = some (.deferred (some [])) ∧ leaveW ds (w.putObj r (.deferred none)) K
    | _ => False
def resL (P : Program) (tmps : Array Value) (w : World) : List ResultVar → (List Value → Prop) → Prop
  | [], F => F []
  | .tmp t :: rs, F => resL P tmps w rs fun vs => F (tmps.getD t undef :: vs)
  | .cell a t :: rs, F =>
    match tmps.getD a undef with
    | .pointer (some ad) => ldW P (fun a v => w.cell? a = some v) t ad fun v => resL P tmps w rs fun vs => F (v :: vs)
    | _ => False
def one : List Value → Value
  | [v] => v
  | vs => .tuple vs.toArray
def resOne (tmps : Array Value) : ResultVar → Sem Value
  | .tmp t => pure (tmps.getD t undef)
  | .cell a t => do loadVar t (← asAddr (tmps.getD a undef))
theorem resL_sound {P : Program} {tmps : Array Value} {w : World} : ∀ {rs : List ResultVar} {F : List Value → Prop}, resL P tmps w rs F →
    ∃ vs, F vs ∧ Sem.run P (rs.mapM (resOne tmps)) w = .ok vs w
  | [], _, h => ⟨[], h, rfl⟩
  | .tmp t :: rs, _, h => by
    obtain ⟨vs, hF, hr⟩ := resL_sound (rs := rs) h
    exact ⟨_, hF, by rw [List.mapM_cons]; simp [resOne, hr]⟩
  | .cell a t :: rs, _, h => by
    simp only [resL] at h
    split at h
    · rename_i ad ha
      obtain ⟨v, hK, hl⟩ := ldW_sound h
      obtain ⟨vs, hF, hr⟩ := resL_sound (rs := rs) hK
      have hl := hl w fun _ _ h => h
      refine ⟨_, hF, ?_⟩
      have h1 : (resOne tmps (.cell a t)).run P w = .ok v w := by
        simp only [Instr.loadAt, Instr.sureAddr] at hl
        simp only [resOne, ha, asAddr]
        exact hl
      rw [List.mapM_cons, Sem.run_bind, h1]
      simp [hr]
    · exact h.elim
theorem results_of_resL {P : Program} {fn : Func} {tmps : Array Value} {w : World} {F : List Value → Prop} (h : resL P tmps w fn.results.toList F) :
    ∃ vs, F vs ∧ (results fn tmps).run P w = .ok (one vs) w := by
  obtain ⟨vs, hF, hr⟩ := resL_sound h
  refine ⟨vs, hF, ?_⟩
  have e : results fn tmps = (do let vs ← fn.results.mapM (resOne tmps); pure (if h : vs.size = 1 then vs[0] else .tuple vs)) := rfl
  rw [e, Sem.run_bind, Array.mapM_eq_mapM_toList, Sem.run_map, hr]
  simp only [Result.andThen_ok, Sem.run_pure]
  match vs with
  | [] => rfl
  | [v] => rfl
  | _ :: _ :: _ => rfl
def Qfn (P : Program) (fn : Func) (R : Ending → World → Prop) : Exit → Act → World → Prop
  | .normal, a, w => leaveW a.defers w fun w' => resL P a.tmps w' fn.results.toList fun vs => R (.returned (one vs)) w'
  | .ret, a, w => leaveW a.defers w fun w' => resL P a.tmps w' fn.results.toList fun vs => R (.returned (one vs)) w'
  | _, _, _ => False
def Kfn (R : Ending → World → Prop) : List PanicEntry → List Deferred → World → Prop := fun ch ds w => leaveW ds w fun w' => R (.panicked ch) w'
theorem leaveW_sound {P : Program} {fn : Func} {tmps : Array Value} {R : Ending → World → Prop} {u : FrameMode} (hu : u ≠ .run) : ∀ {ds : List Deferred} {w : World} {K : World → Prop}, leaveW ds w K →
    (∀ w', K w' → LeavesIn Fence.wide 0 P fn tmps R [] u w') → LeavesInM Fence.wide 0 P fn tmps R ds u w
  | [], _, _, h, hK => hK _ h
  | d :: ds, w, K, h, hK => by
    simp only [leaveW] at h
    split at h
    · rename_i r hd
      exact ⟨hu, .inl ⟨r, _, hd, run_takeDeferred h.1, leaveW_sound hu h.2 hK⟩⟩
    · exact h.elim
/-- **A function's contract, out of its evaluation.** -/
theorem calls_of_ev {P : Program} {ann : Nat → List (Nat × Value)} {f : FuncId} {fn : Func} {c : Code} {args : Array Value} {w : World} {R : Ending → World → Prop} (n : Nat)
    (hm : P.follows .mixedOrders = true) (hf : P.funcs[f]? = some fn) (hb : fn.body = some c)
    (h : ev P ann none (Kfn R) n 0 c (Qfn P fn R) { tmps := args ++ Array.replicate (fn.ntmps - args.size) undef, defers := [] } w) : Calls P f args w R := by
  refine (callsIn_wide (n := 0)).1 (callsIn_of_wp_marks hf hb trivial (wpIn_mono (ev_sound hm n 0 c _ _ w h) ?_))
  intro e a' w' he
  cases e with
  | normal =>
    refine leaveW_sound (by simp) he.1 fun w'' hr => ?_
    obtain ⟨vs, hF, hr⟩ := results_of_resL hr
    exact ⟨_, hr, hF⟩
  | ret =>
    refine leaveW_sound (by simp) he.1 fun w'' hr => ?_
    obtain ⟨vs, hF, hr⟩ := results_of_resL hr
    exact ⟨_, hr, hF⟩
  | panic ch => exact leaveW_sound (by simp) he fun w'' hr => hr
  | outgrown => exact he.elim
  | exit id => exact he.1.elim
  | goto l => exact he.1.elim

theorem calls_of_eq {P : Program} {ann : Nat → List (Nat × Value)} {f : FuncId} {fn : Func} {c : Code} {args : Array Value} {w : World} {R : Ending → World → Prop} {X : Prop} (n : Nat)
    (hm : P.follows .mixedOrders = true) (hf : P.funcs[f]? = some fn) (hb : fn.body = some c)
    (e : ev P ann none (Kfn R) n 0 c (Qfn P fn R) { tmps := args ++ Array.replicate (fn.ntmps - args.size) undef, defers := [] } w = X) : X → Calls P f args w R :=
  fun h => calls_of_ev n hm hf hb (e ▸ h)

/-! ### A round -/
def rdPost (l : Nat) (R : Ending → World → Prop) : Exit → Act → World → Prop
  | .normal, _, w => ∃ r, w.heap[l]? = some (.loop r) ∧ R (.returned (.bool true)) (w.putObj l (.loop { r with state := .ready, pending := none }))
  | .ret, _, w => ∃ r, w.heap[l]? = some (.loop r) ∧ R (.returned (.bool false)) (w.putObj l (.loop { r with state := .done, pending := some .ret }))
  | .exit id, _, w => ∃ r, w.heap[l]? = some (.loop r) ∧ R (.returned (.bool false)) (w.putObj l (.loop { r with state := .done, pending := some (.exit id) }))
  | _, _, _ => False
/-- One round: the assignments to the loop's left sides; the body. -/
def evRound (P : Program) (ann : Nat → List (Nat × Value)) (l n : Nat) (ps : Array Tmp) (as body : Code) (tmps : Array Value) (args : Array Value) (R : Ending → World → Prop) (w : World) : Prop :=
  ev P ann (some l) (fun _ _ _ => False) n 0 as
    (Exit.then (fun a₁ w₁ => ∃ r, w₁.heap[l]? = some (.loop r) ∧ r.state = .ready ∧
      ev P ann (some l) (fun _ _ _ => False) n 0 body (rdPost l R) a₁ (w₁.putObj l (.loop { r with state := .busy }))) (fun _ _ _ => False))
    { tmps := (ps.zip args).foldl (fun tmps (t, a) => tmps.setIfInBounds t a) tmps, defers := [] } w
theorem call_of_round {P : Program} {ann : Nat → List (Nat × Value)} {l : Nat} {r : Loop} {args : Array Value} {w : World} {R : Ending → World → Prop} (n : Nat)
    (hm : P.follows .mixedOrders = true) (hl : w.heap[l]? = some (.loop r)) (hs : args.size = r.params.size)
    (h : evRound P ann l n r.params r.assign r.body r.tmps args R w) : callV P (.func (.yield l) #[] #[]) args w R := by
  have hi : (invoke (.fn (.yield l) #[]) (#[] ++ args)).run P w = .ok (.round l r.fn ((r.params.zip args).foldl (fun tmps (t, a) => tmps.setIfInBounds t a) r.tmps) r.assign r.body) w := by
    rw [Array.empty_append]
    exact run_yield hl hs
  simp only [callV, goV, hi]
  refine roundIn_of_wpIn trivial (wpIn_mono (ev_sound hm n 0 _ _ _ _ h) ?_)
  intro e a₁ w₁ he
  cases e with
  | normal =>
    obtain ⟨⟨r₁, h1, h2, h3⟩, _⟩ := he
    refine ⟨_, run_beginRound h1 h2, wpIn_mono (ev_sound hm n 0 _ _ _ _ h3) ?_⟩
    intro e a₂ w₂ he
    cases e with
    | normal => obtain ⟨⟨r₂, h4, h5⟩, _⟩ := he; exact ⟨_, _, run_endRound none h4, h5⟩
    | ret => obtain ⟨⟨r₂, h4, h5⟩, _⟩ := he; exact ⟨_, _, run_endRound (some .ret) h4, h5⟩
    | exit id => obtain ⟨⟨r₂, h4, h5⟩, _⟩ := he; exact ⟨_, _, run_endRound (some (.exit id)) h4, h5⟩
    | goto l => exact he.1.elim
    | panic ch => exact he
    | outgrown => exact he
  | exit id => exact he.1
  | goto l => exact he.1
  | ret => exact he.1
  | panic ch => exact he
  | outgrown => exact he
theorem round_of_eq {P : Program} {ann : Nat → List (Nat × Value)} {l fn D : Nat} {ps : Array Tmp} {as body : Code} {tmps : Array Value} {args : Array Value} {w : World} {R : Ending → World → Prop} {X : Prop} (n : Nat)
    (hm : P.follows .mixedOrders = true) (hl : w.heap[l]? = some (.loop (mkLoop tmps ps as body fn D))) (hs : args.size = ps.size)
    (e : evRound P ann l n ps as body tmps args R w = X) : X → callV P (.func (.yield l) #[] #[]) args w R :=
  fun h => call_of_round n hm hl hs (e ▸ h)
/-- A call of a named function, by its contract. -/
theorem goV_func {P : Program} {f : FuncId} {cap args : Array Value} {w : World} {R : Ending → World → Prop}
    (he : (callFunc f (args ++ cap)).run P w = .ok (.enter f (args ++ cap)) w) (h : Calls P f (args ++ cap) w R) : goV P (.fn (.func f) cap) args w R := by
  unfold goV
  rw [show (invoke (.fn (.func f) cap) args).run P w = .ok (.enter f (args ++ cap)) w from he]
  exact h
theorem callV_func {P : Program} {f : FuncId} {first cap args : Array Value} {w : World} {R : Ending → World → Prop}
    (he : ∀ as w, (callFunc f as).run P w = .ok (.enter f as) w) (h : Calls P f (first ++ args ++ cap) w R) : callV P (.func (.func f) first cap) args w R :=
  goV_func (he _ _) h
theorem callE_func {P : Program} {f : FuncId} {first cap args : Array Value} {w : World} {R : Ending → World → Prop}
    (he : ∀ as w, (callFunc f as).run P w = .ok (.enter f as) w) (h : Calls P f (first ++ args ++ cap) w R) : callE P (.func (.func f) first cap) args w R := by
  unfold callE
  simp only
  rw [show (invoke (.fn (.func f) cap) (first ++ args)).run P w = .ok (.enter f (first ++ args ++ cap)) w from he _ _]
  exact h
def bodyOf (fn : Func) : Code := fn.body.getD .skip
/-- The ranges over a function in code, in order. -/
def rfsC : Code → List (Array Tmp × Code × Code)
  | .rangeFunc _ ps as body => (ps, as, body) :: rfsC body
  | .seq a b => rfsC a ++ rfsC b
  | .cond _ a b => rfsC a ++ rfsC b
  | .block _ b => rfsC b
  | .loop b => rfsC b
  | .scope b => rfsC b
  | _ => []
def rfOf (fn : Func) (i : Nat) : Array Tmp × Code × Code := (rfsC (bodyOf fn)).getD i (#[], .skip, .skip)
/-! Words of the printed texts -/
def slP (a : Option Addr) (cap sz : Nat) (l : Int) : Option Addr := if cap = l.toNat then a else a.map (·.add (l.toNat * sz))
def bAnd (k : IntKind) (x y : Int) : Int := k.wrap (BitVec.ofInt k.bits x &&& BitVec.ofInt k.bits y).toNat
def bOr (k : IntKind) (x y : Int) : Int := k.wrap (BitVec.ofInt k.bits x ||| BitVec.ofInt k.bits y).toNat
def bXor (k : IntKind) (x y : Int) : Int := k.wrap (BitVec.ofInt k.bits x ^^^ BitVec.ofInt k.bits y).toNat
def bAndNot (k : IntKind) (x y : Int) : Int := k.wrap (BitVec.ofInt k.bits x &&& ~~~ BitVec.ofInt k.bits y).toNat
end Go.Sh
