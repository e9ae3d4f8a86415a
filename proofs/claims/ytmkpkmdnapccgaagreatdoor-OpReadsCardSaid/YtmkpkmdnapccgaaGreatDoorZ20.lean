/-
  What writes bytes, as a coder.
-/
import Derived.Test.YtmkpkmdnapccgaaGreatDoorZ19
import Derived.WalkKit
import Derived.Test.YtmkpkmdnapccgaaGreatDoorZ14
import Derived.Test.YtmkpkmdnapccgaaGreatDoorZ16

set_option maxRecDepth 100000
set_option maxHeartbeats 6400000
namespace Go.Proofs.YtmkpkmdnapccgaaGreatDoor
open Go Go.Sh Go.RowKit

theorem set_self {cs : Array Value} {i : Nat} {v : Value} (h : cs[i]? = some v) : cs.setIfInBounds i v = cs := by
  apply Array.ext_getElem?
  intro j
  rw [Array.getElem?_setIfInBounds]
  split
  · rename_i e
    subst e
    split
    · exact h.symm
    · rename_i hlt
      have := (Array.getElem?_eq_some_iff.1 h).1
      exact absurd this hlt
  · rfl
theorem out_ownE {cb : Nat} {w w' : World} {s : Bs} (hI : OutI cb w s) (e : Ext w w') (k : Nat) : OutOwn cb w' k ↔ OutOwn cb w k := (out_keep hI fun k hk => e.block k (out_lt hI hk)).2 k
theorem c_omany {cb : Nat} {w : World} {s : Bs} {b : Nat} {t : TypeId} {v : Nat} {R : EW} (hI : OutI cb w s) (hl : s.length ≤ lim) (hb : Blk w b #[.int .i64 (v : Int)] t) (hv : v ≤ 1000000)
    (h : ∀ w', OutI cb w' (s ++ numE v) → Chg (OutOwn cb) (fun _ => False) w w' → R (.returned unitV) w') : Calls Tryz.prog 158 #[.pointer (some (blk cb)), .pointer (some ⟨b, 0, none⟩)] w R := by
  refine sh158_ok _ _ ?_
  unfold sh158
  refine ⟨_, rfl, _, hb.cell rfl rfl, ⟨?_⟩⟩
  have e1 := ext_alloc w (.cells #[.int .i64 0] 2)
  refine do_st (blk_alloc w _ _) (i := 0) rfl (by simp) fun w2 h2 g2 => ?_
  have e2 : Ext w w2 := e1.st g2 (Nat.le_refl _)
  have hI2 := out_ext (S := fun _ => False) hI e2
  exact do_call Tryz.call159 (c_onum (i := 0) hI2.1 (by omega) h2 rfl (by unfold In; omega) fun w3 hI3 c3 => retS_ret ⟨rfl, h w3 hI3 (hI2.2.trans c3)⟩)
theorem c_opair {cb : Nat} {w : World} {s : Bs} {b : Nat} {t : TypeId} {v : Int × Int} {R : EW} (hI : OutI cb w s) (hl : s.length ≤ lim) (ho : ¬ OutOwn cb w b) (hb : Blk w b #[.int .i64 v.1, .int .i64 v.2] t) (hv : In v.1 ∧ In v.2)
    (h : ∀ w', OutI cb w' (s ++ (numE v.1 ++ numE v.2)) → Chg (OutOwn cb) (fun _ => False) w w' → R (.returned unitV) w') : Calls Tryz.prog 160 #[.pointer (some (blk cb)), .pointer (some ⟨b, 0, none⟩)] w R := by
  refine sh160_ok _ _ ?_
  unfold sh160
  refine ⟨_, rfl, do_call Tryz.call159 (c_onum (b := b) (i := 0) hI (by omega) hb rfl hv.1 fun w1 hI1 c1 => retS_ret ⟨rfl, _, rfl, ?_⟩)⟩
  have := (numE_len hv.1).2
  exact do_call Tryz.call159 (c_onum (b := b) (i := 1) hI1 (by rw [List.length_append]; omega) (c1.blk hb ho fun h => h) rfl hv.2 fun w2 hI2 c2 => retS_ret ⟨rfl, h w2 (by rw [← List.append_assoc]; exact hI2) (c1.trans c2)⟩)
theorem c_oflag {cb : Nat} {w : World} {s : Bs} {b i : Nat} {cs : Array Value} {t : TypeId} {v : Bool} {R : EW} (hI : OutI cb w s) (hl : s.length ≤ lim) (hb : Blk w b cs t) (hc : cs[i]? = some (.bool v))
    (h : ∀ w', OutI cb w' (s ++ [flagB v]) → Chg (OutOwn cb) (fun _ => False) w w' → R (.returned unitV) w') : Calls Tryz.prog 157 #[.pointer (some (blk cb)), .pointer (some ⟨b, i, none⟩)] w R := by
  refine sh157_ok _ _ ?_
  unfold sh157
  refine ⟨?_⟩
  have e1 := ext_alloc w (.cells #[.int .u8 0] 5)
  refine do_st (blk_alloc w _ _) (i := 0) rfl (by simp) fun w2 h2 g2 => ?_
  have e2 : Ext w w2 := e1.st g2 (Nat.le_refl _)
  refine ⟨_, rfl, _, (hb.ext e2).cell rfl hc, ?_⟩
  have go : ∀ (x : Int) w3, x = (if v then 1 else 0) → Ext w w3 → Blk w3 w.heap.size #[.int .u8 x] 5 → doCall Tryz.prog (.func (.func 161) #[] #[]) #[.pointer (some (blk cb)), .pointer (some (blk w.heap.size)), .slice none 0 0] w3 (retS (fun v8 w9 => v8 = (.tuple #[] : Value) ∧ (
      R (.returned (.tuple #[])) w9)) (fun ch w => Kfn R ch [] w)) := fun x w3 hx e3 hb3 => by
    have hI3 := out_ext (S := fun _ => False) hI e3
    have hn : ¬ OutOwn cb w3 w.heap.size := fun h => by have := out_lt hI ((out_ownE hI e3 _).1 h); omega
    refine do_call Tryz.call161 (c_oword (i := 0) hI3.1 (Nat.le_trans hl (Nat.le_add_right _ _)) hn hb3 rfl (by cases v <;> (rw [hx]; decide)) fun w4 hI4 c4 => retS_ret ⟨rfl, h w4 ?_ (hI3.2.trans c4)⟩)
    have : u8 x = flagB v := by subst hx; cases v <;> rfl
    rw [← this]; exact hI4
  cases v
  · exact ifB_f rfl (go 0 w2 rfl e2 h2)
  · exact ifB_t rfl (do_st h2 (i := 0) rfl (by simp) fun w3 h3 g3 => go 1 w3 rfl (e2.st g3 (Nat.le_refl _)) h3)
theorem c_oflagD {cb : Nat} {w : World} {s : Bs} {b i : Nat} {cs : Array Value} {t : TypeId} {v : Bool} {u : FrameMode} {R : EW} (hI : OutI cb w s) (hl : s.length ≤ lim) (hb : Blk w b cs t) (hc : cs[i]? = some (.bool v))
    (h : ∀ w', OutI cb w' (s ++ [flagB v]) → Chg (OutOwn cb) (fun _ => False) w w' → R (.returned unitV) w') : CallsDIn Fence.wide 0 Tryz.prog 157 #[.pointer (some (blk cb)), .pointer (some ⟨b, i, none⟩)] u w (fun e u1 w1 => u1 = u ∧ R e w1) := by
  refine sh157d_ok _ _ ?_
  unfold sh157d
  refine ⟨?_⟩
  have e1 := ext_alloc w (.cells #[.int .u8 0] 5)
  refine do_st (blk_alloc w _ _) (i := 0) rfl (by simp) fun w2 h2 g2 => ?_
  have e2 : Ext w w2 := e1.st g2 (Nat.le_refl _)
  refine ⟨_, rfl, _, (hb.ext e2).cell rfl hc, ?_⟩
  have go : ∀ (x : Int) w3, x = (if v then 1 else 0) → Ext w w3 → Blk w3 w.heap.size #[.int .u8 x] 5 → doCall Tryz.prog (.func (.func 161) #[] #[]) #[.pointer (some (blk cb)), .pointer (some (blk w.heap.size)), .slice none 0 0] w3 (retS (fun v8 w9 => v8 = (.tuple #[] : Value) ∧ (
      ([] : List Deferred) = [] ∧ (R (.returned (.tuple #[])) w9))) (fun ch w => ([] : List Deferred) = [] ∧ R (.panicked ch) w)) := fun x w3 hx e3 hb3 => by
    have hI3 := out_ext (S := fun _ => False) hI e3
    have hn : ¬ OutOwn cb w3 w.heap.size := fun h => by have := out_lt hI ((out_ownE hI e3 _).1 h); omega
    refine do_call Tryz.call161 (c_oword (i := 0) hI3.1 (Nat.le_trans hl (Nat.le_add_right _ _)) hn hb3 rfl (by cases v <;> (rw [hx]; decide)) fun w4 hI4 c4 => retS_ret ⟨rfl, rfl, h w4 ?_ (hI3.2.trans c4)⟩)
    have : u8 x = flagB v := by subst hx; cases v <;> rfl
    rw [← this]; exact hI4
  cases v
  · exact ifB_f rfl (go 0 w2 rfl e2 h2)
  · exact ifB_t rfl (do_st h2 (i := 0) rfl (by simp) fun w3 h3 g3 => go 1 w3 rfl (e2.st g3 (Nat.le_refl _)) h3)
theorem nc_iface {t : TypeId} {v : Value} {K : Prop} (h : K) : doNC Tryz.prog (.iface t v) K := ⟨fun ρ o x w ho hx => by
  obtain ⟨dst, op, ty, pos, after, guard⟩ := o
  simp only at ho; subst ho
  simp only [execOp, hx]; rfl, h⟩
theorem do_df {m : String} {ct : TypeId} {cp : Value} {k : Nat} {args : Array Value} {u : FrameMode} {w : World} {K : FrameMode → World → Prop} (hu : u ≠ .run) (he : (invoke (.fn (.method m) #[]) (#[.iface ct cp] ++ args)).run Tryz.prog w = .ok (.enter k (#[cp] ++ args)) w)
    (h : CallsDIn Fence.wide 0 Tryz.prog k (#[cp] ++ args) u w (fun e u1 w1 => u1 = u ∧ dfPost K e u w1)) : doDf Tryz.prog (.fn (.method m) #[]) (#[.iface ct cp] ++ args) u w K :=
  ⟨hu, k, _, he, CallsDIn.mono h fun e u' w' he => by rw [he.1]; exact he.2⟩
theorem out_meth (cp x : Value) (w : World) :
    (invoke (.fn (.method "joinery/op.num") #[]) #[.iface 50 cp, x]).run Tryz.prog w = .ok (.enter 159 #[cp, x]) w ∧ (invoke (.fn (.method "joinery/op.flag") #[]) #[.iface 50 cp, x]).run Tryz.prog w = .ok (.enter 157 #[cp, x]) w ∧
    (invoke (.fn (.method "joinery/op.many") #[]) #[.iface 50 cp, x]).run Tryz.prog w = .ok (.enter 158 #[cp, x]) w ∧ (invoke (.fn (.method "joinery/op.pair") #[]) #[.iface 50 cp, x]).run Tryz.prog w = .ok (.enter 160 #[cp, x]) w :=
  ⟨by kernel_rfl, by kernel_rfl, by kernel_rfl, by kernel_rfl⟩
theorem out_methw (cp x y : Value) (w : World) : (invoke (.fn (.method "joinery/op.word") #[]) #[.iface 50 cp, x, y]).run Tryz.prog w = .ok (.enter 161 #[cp, x, y]) w := by kernel_rfl
theorem out_ta (cb : Nat) (w : World) : (Instr.typeAssert (.iface 50 (.pointer (some (blk cb)))) 97 61 true).run Tryz.prog w = .ok (.tuple #[.pointer none, .bool false]) w ∧
    (Instr.typeAssert (.iface 50 (.pointer (some (blk cb)))) 97 85 true).run Tryz.prog w = .ok (.tuple #[.pointer none, .bool false]) w := ⟨by kernel_rfl, by kernel_rfl⟩
theorem out_nil (cb : Nat) (w : World) : (nilAhead (Tryz.prog.types.size + Made.depth) 50 (.pointer (some (blk cb))) "joinery/op.word").run Tryz.prog w = .ok (some false) w := by kernel_rfl
theorem nc_func {t : TypeId} {v : Value} {m : String} {K : Prop} (hn : ∀ w, (nilAhead (Tryz.prog.types.size + Made.depth) t v m).run Tryz.prog w = .ok (some false) w) (h : K) : doNC Tryz.prog (.func (.method m) #[.iface t v] #[]) K := ⟨fun ρ o x w ho hx => by
  obtain ⟨dst, op, ty, pos, after, guard⟩ := o
  simp only at ho; subst ho
  simp only [execOp, hx]
  have hp : (program).run Tryz.prog w = .ok Tryz.prog w := rfl
  have e : (#[Value.iface t v] : Array Value)[0]? = some (.iface t v) := rfl
  simp only [e, Sem.run_bind, hp, Result.andThen_ok, hn w]
  rfl, h⟩
def OutB (cb : Nat) : CBase outB where
  I := OutI cb
  own := OutOwn cb
  lt := out_lt
  keep := out_keep
  len := List.length
  grow := 20
  numIn := fun hv h => by
    cases h
    have := numE_len hv
    exact ⟨hv, by rw [List.length_append]; omega⟩
  wordIn := fun hk h => by
    cases h
    exact ⟨hk, by rw [List.length_append]; simp⟩
  flagIn := fun h => by
    cases h
    rw [List.length_append]; simp
  manyIn := fun {n s n' s'} hn h => by
    cases h
    have := numE_len (v := (n : Int)) (by unfold In; omega)
    exact ⟨Nat.le_max_left _ _, by rw [List.length_append]; omega⟩
  pairIn := fun hv h => by
    cases h
    have := numE_len hv.1
    have := numE_len hv.2
    exact ⟨hv, by rw [List.length_append, List.length_append]; omega⟩
end Go.Proofs.YtmkpkmdnapccgaaGreatDoor

namespace Go.Proofs.YtmkpkmdnapccgaaGreatDoor
open Go Go.Sh Go.RowKit

def OutC (cb : Nat) : Coder outB 50 (.pointer (some (blk cb))) where
  toCBase := OutB cb
  pre := fun _ _ => True
  nc := nc_iface
  ncw := nc_func (out_nil cb)
  ta := ⟨none, false, none, false, rfl, fun w S h => ⟨_, (out_ta cb w).1, h⟩, fun w S h => ⟨_, (out_ta cb w).2, h⟩⟩
  num := fun {w s b i cs t v R} hI hl ho hb hc hv h _ => do_meth (args := #[.pointer (some ⟨b, i, none⟩)]) (out_meth _ _ w).1 (c_onum hI (Nat.le_trans hl (Nat.le_add_right _ _)) hb hc hv fun w' hI' c' => h v _ w' rfl hI' (by rw [set_self hc]; exact c'.blk hb ho fun h => h) (chg0 c'))
  word := fun {w s b i cs t v names q n cap R} hI hl ho hb hc hv _ _ _ _ h _ => do_meth (args := #[.pointer (some ⟨b, i, none⟩), .slice q n cap]) (out_methw _ _ _ w) (c_oword hI (Nat.le_trans hl (Nat.le_add_right _ _)) ho hb hc hv fun w' hI' c' => h v _ w' rfl hI' (by rw [set_self hc]; exact c'.blk hb ho fun h => h) (chg0 c'))
  flag := fun {w s b i cs t v R} hI hl ho hb hc h _ => do_meth (args := #[.pointer (some ⟨b, i, none⟩)]) (out_meth _ _ w).2.1 (c_oflag hI hl hb hc fun w' hI' c' => h v _ w' rfl hI' (by rw [set_self hc]; exact c'.blk hb ho fun h => h) (chg0 c'))
  flagD := fun _ {w s b i cs t v u K} hu hI hl ho hb hc h _ => do_df (args := #[.pointer (some ⟨b, i, none⟩)]) hu (out_meth _ _ w).2.1 (c_oflagD (R := fun e w1 => dfPost K e u w1) hI hl hb hc fun w' hI' c' => h v _ w' rfl hI' (by rw [set_self hc]; exact c'.blk hb ho fun h => h) (chg0 c'))
  many := fun {w s b t v R} hI hl ho hb hv h _ => do_meth (args := #[.pointer (some ⟨b, 0, none⟩)]) (out_meth _ _ w).2.2.1 (c_omany hI hl hb hv fun w' hI' c' => h v _ w' rfl hI' (c'.blk hb ho fun h => h) (chg0 c'))
  pair := fun {w s b t v R} hI hl ho hb hv h _ => do_meth (args := #[.pointer (some ⟨b, 0, none⟩)]) (out_meth _ _ w).2.2.2 (c_opair hI hl ho hb hv fun w' hI' c' => h v _ w' rfl hI' (c'.blk hb ho fun h => h) (chg0 c'))

abbrev strB (s : Bs) : Value := .string ⟨s.toArray⟩
def InOwn (cb : Nat) (_ : World) (k : Nat) : Prop := k = cb
def InI (cb : Nat) (w : World) (s : Bs) : Prop := Blk w cb #[strB s] 79
theorem in_ext {cb : Nat} {w w' : World} {s : Bs} {S : Nat → Prop} (hI : InI cb w s) (e : Ext w w') : InI cb w' s ∧ Chg (InOwn cb) S w w' := ⟨Blk.ext hI e, e.os, e.tape, e.output, e.size, fun k hk _ _ => e.block k hk, fun _ _ h1 h2 => h1 h2⟩
theorem in_st {cb b : Nat} {w w' : World} (g : w.grownBy w' (some b)) {S : Nat → Prop} (hb : b = cb ∨ S b ∨ w.heap.size ≤ b) : Chg (InOwn cb) S w w' :=
  ⟨g.os, g.tape, g.output, g.size, fun k hk ho hs => g.block k hk fun e => by
    cases e
    rcases hb with h | h | h
    · exact ho h
    · exact hs h
    · omega, fun _ _ h1 h2 => h1 h2⟩
theorem c_must {is : Bool} {w : World} {R : EW} (h : is = true → R (.returned unitV) w) (hn : is = false → R (.panicked [noneE]) w) : Calls Tryz.prog 42 #[.bool is] w R := by
  refine sh42_ok _ ?_
  unfold sh42
  cases is
  · exact ifB_t rfl ⟨_, w, rfl, hn rfl⟩
  · exact ifB_f rfl (h rfl)
theorem str_nil (s : Bs) : ((⟨s.toArray⟩ : ByteArray).toList == (⟨#[]⟩ : ByteArray).toList) = decide (s = []) := by
  rw [ByteArray.toList_eq, ByteArray.toList_eq]
  cases s <;> simp
theorem str_ext (x : UInt8) (s : Bs) : (⟨(x :: s).toArray⟩ : ByteArray).extract 1 (⟨(x :: s).toArray⟩ : ByteArray).size = ⟨s.toArray⟩ := by
  apply ByteArray.ext
  rw [ByteArray.data_extract]
  simp [ByteArray.size]
theorem c_iword {cb : Nat} {w : World} {s : Bs} {b i : Nat} {cs : Array Value} {t : TypeId} {v : Value} {q : OA} {n' c' : Nat} {R : EW} (hI : InI cb w s) (ho : b ≠ cb) (hb : Blk w b cs t) (hc : cs[i]? = some v) (hs : s.length ≤ 1000000000000000)
    (h : ∀ x s' w', s = x :: s' → InI cb w' s' → Blk w' b (cs.setIfInBounds i (.int .u8 ((x.toNat : Nat) : Int))) t → Chg (InOwn cb) (· = b) w w' → R (.returned unitV) w') (hn : s = [] → R (.panicked [noneE]) w) :
    Calls Tryz.prog 199 #[.pointer (some (blk cb)), .pointer (some ⟨b, i, none⟩), .slice q n' c'] w R := by
  refine sh199_ok _ _ _ _ _ ?_
  unfold sh199
  refine ⟨_, rfl, _, Blk.cell (i := 0) hI rfl rfl, ?_⟩
  rw [str_nil]
  refine do_call Tryz.call42 (c_must (fun hne => retS_ret ⟨rfl, ⟨?_⟩⟩) fun he => hn (by simpa using he))
  cases s with
  | nil => simp at hne
  | cons x s =>
  have e1 := ext_drew w
  have hI1 : InI cb w.drew (x :: s) := Blk.ext hI e1
  have hb1 := hb.ext e1
  generalize w.drew = w1 at *
  refine ⟨fun w' => InI cb w' (x :: s), hI1, _, rfl, _, fun w' h' => Blk.cell (i := 0) h' rfl rfl, x, by omega, rfl, _, rfl, _, fun w' h' => Blk.cell (i := 0) h' rfl rfl, ?_⟩
  have hsz : (⟨(x :: s).toArray⟩ : ByteArray).size = s.length + 1 := by simp [ByteArray.size]
  refine ⟨by omega, by rw [hsz]; omega, by omega, ?_⟩
  refine ⟨_, rfl, do_st hb1 (i := i) (by rw [add_zero']) (Array.getElem?_eq_some_iff.1 hc).1 fun w2 h2 g2 => ?_⟩
  have hI2 : InI cb w2 (x :: s) := Blk.grown hI1 g2 (ne_some (Ne.symm ho))
  refine ⟨_, rfl, do_st hI2 (i := 0) rfl (by simp) fun w3 h3 g3 => ?_⟩
  refine h x s w3 rfl ?_ (h2.grown g3 (ne_some ho)) (((in_ext (S := (· = b)) hI e1).2.trans (in_st g2 (.inr (.inl rfl)))).trans (in_st g3 (.inl rfl)))
  have e : (⟨(x :: s).toArray⟩ : ByteArray).extract (1 : Int).toNat (((⟨(x :: s).toArray⟩ : ByteArray).size : Int)).toNat = ⟨s.toArray⟩ := str_ext x s
  show Blk w3 cb #[.string ⟨s.toArray⟩] _
  rw [← e]
  exact h3
theorem nat_U (n : Nat) (h : n < 18446744073709551616) : (n : Int) = U (BitVec.ofNat 64 n) := by unfold U; rw [BitVec.toNat_ofNat]; omega
theorem wrap_u64 (n : Nat) (h : n < 18446744073709551616) : IntKind.wrap .u64 (n : Int) = (n : Int) := by rw [wrap64u]; omega
theorem and_127 (x : Nat) (h : x < 256) : bAnd .u8 (x : Int) 127 = ((x % 128 : Nat) : Int) := by
  have h8 : ∀ y : BitVec 8, (y &&& 127#8).toNat = y.toNat % 128 := by decide
  unfold bAnd
  show IntKind.wrap .u8 ((BitVec.ofInt 8 (x : Int) &&& 127#8).toNat : Int) = _
  rw [h8, BitVec.toNat_ofInt]
  simp only [IntKind.wrap, IntKind.signed, IntKind.bits]
  simp
  omega
theorem or_shift {k u x : Nat} (hk : k ≤ 9) (hu : u < 2 ^ (7 * k)) (hx : x < 256) (h64 : u + x % 128 * 2 ^ (7 * k) < 18446744073709551616) :
    bOr .u64 (u : Int) (IntKind.wrap .u64 (IntKind.wrap .u64 (bAnd .u8 (x : Int) 127) * 2 ^ (min (IntKind.wrap .i64 (7 * (k : Int))).toNat (IntKind.bits .u64)))) = ((u + x % 128 * 2 ^ (7 * k) : Nat) : Int) := by
  have e7 : (IntKind.wrap .i64 (7 * (k : Int))).toNat = 7 * k := by rw [wrap_of (by omega) (by omega)]; omega
  rw [and_127 x hx, wrap_u64 _ (by omega), e7, show min (7 * k) (IntKind.bits .u64) = 7 * k from Nat.min_eq_left (by simp only [IntKind.bits]; omega)]
  rw [show ((x % 128 : Nat) : Int) * 2 ^ (7 * k) = ((x % 128 * 2 ^ (7 * k) : Nat) : Int) by norm_cast, wrap_u64 _ (by omega), nat_U u (by omega), nat_U (x % 128 * 2 ^ (7 * k)) (by omega), bOr_U]
  unfold U
  rw [BitVec.toNat_or, BitVec.toNat_ofNat, BitVec.toNat_ofNat, show (2 : Nat) ^ 64 = 18446744073709551616 from rfl, Nat.mod_eq_of_lt (by omega), Nat.mod_eq_of_lt (by omega)]
  rw [Nat.or_comm, Nat.mul_comm (x % 128), ← Nat.two_pow_add_eq_or_of_lt hu, Nat.add_comm]
theorem pow_le8 {k : Nat} (hk : k ≤ 8) : 2 ^ (7 * k) ≤ 72057594037927936 := by
  have : 2 ^ (7 * k) ≤ 2 ^ 56 := Nat.pow_le_pow_right (by omega) (by omega)
  simpa using this
theorem c_inum {cb : Nat} {w : World} {s : Bs} {b i : Nat} {cs : Array Value} {t : TypeId} {v : Value} {R : EW} (hI : InI cb w s) (ho : b ≠ cb) (hb : Blk w b cs t) (hc : cs[i]? = some v) (hs : s.length ≤ 1000000000000000)
    (h : ∀ v' s' w', numD s = some (v', s') → InI cb w' s' → Blk w' b (cs.setIfInBounds i (.int .i64 v')) t → Chg (InOwn cb) (· = b) w w' → R (.returned unitV) w')
    (hn : ∀ s' w', numD s = none → s'.length ≤ s.length → InI cb w' s' → Chg (InOwn cb) (fun _ => False) w w' → R (.panicked [noneE]) w') :
    Calls Tryz.prog 197 #[.pointer (some (blk cb)), .pointer (some ⟨b, i, none⟩)] w R := by
  refine sh197_ok _ _ ?_
  unfold sh197
  refine ⟨fun vs w' => ∃ (k u : Nat) (s' : Bs), vs = [.int .u64 (u : Int), .int .i64 (k : Int)] ∧ k ≤ 9 ∧ u < 2 ^ (7 * k) ∧ InI cb w' s' ∧ vDec k u s' = vDec 0 0 s ∧ s'.length ≤ s.length ∧ Chg (InOwn cb) (fun _ => False) w w',
    fun vs _ => match vs with | [_, .int _ i] => 10 - i.toNat | _ => 0, ⟨0, 0, s, rfl, by omega, by simp, hI, rfl, Nat.le_refl _, .refl _ _ _⟩, ?_⟩
  rintro _ _ _ w2 ⟨k, u, s2, hvs, hk, hu, hI2, hD, hl2, c2⟩
  simp only [List.cons.injEq, Value.int.injEq, true_and, and_true] at hvs
  obtain ⟨rfl, rfl⟩ := hvs
  refine ⟨?_⟩
  have e3 := ext_alloc w2 (.cells #[.int .u8 0] 5)
  have hb3 := blk_alloc w2 #[.int .u8 0] 5
  have hI3 := in_ext (S := fun _ => False) hI2 e3
  have hne : w2.heap.size ≠ cb := by have := Blk.lt hI2; omega
  generalize w2.alloc (.cells #[.int .u8 0] 5) = w3 at *
  have hsz := c2.size
  refine do_call Tryz.call199 (c_iword (i := 0) hI3.1 hne hb3 rfl (by omega) (fun x s1 w4 hs2 hI4 hb4 c4 => retS_ret ⟨rfl, ?_⟩) fun he => ?_)
  case refine_2 =>
    subst he
    refine hn [] w3 ?_ (by simp) hI3.1 (c2.trans hI3.2)
    unfold numD; rw [← hD]; rfl
  subst hs2
  have hx := UInt8.toNat_lt x
  have c : Chg (InOwn cb) (fun _ => False) w w4 := (((chg0 c2).trans (chg0 hI3.2)).trans c4).cut fun k hk e => by omega
  have hb4 : Blk w4 w2.heap.size #[.int .u8 ((x.toNat : Nat) : Int)] 5 := hb4
  have hl1 : s1.length ≤ s.length := by simp only [List.length_cons] at hl2; omega
  have bad : ¬ ((k < 9 ∨ x.toNat < 2) ∧ (k = 0 ∨ x.toNat ≠ 0)) → R (.panicked [noneE]) w4 := fun hbad => hn s1 w4 (by unfold numD; rw [← hD]; simp only [vDec]; rw [if_neg hbad]; rfl) hl1 hI4 c
  intro K14
  have good : (k < 9 ∨ x.toNat < 2) ∧ (k = 0 ∨ x.toNat ≠ 0) → K14 w4 := by
    intro hg
    have h64 : u + x.toNat % 128 * 2 ^ (7 * k) < 18446744073709551616 ∧ (128 ≤ x.toNat → k ≤ 8 ∧ u + x.toNat % 128 * 2 ^ (7 * k) < 2 ^ (7 * (k + 1))) := by
      by_cases hk9 : k = 9
      · subst hk9
        rw [show (2 : Nat) ^ (7 * 9) = 9223372036854775808 from rfl] at hu ⊢
        omega
      · have h8 := pow_le8 (show k ≤ 8 by omega)
        rw [pow_step]
        have hm : x.toNat % 128 < 128 := Nat.mod_lt _ (by omega)
        generalize 2 ^ (7 * k) = M at *
        have : x.toNat % 128 * M ≤ 127 * M := Nat.mul_le_mul_right _ (by omega)
        omega
    refine ⟨_, hb4.cell (i := 0) rfl rfl, by rw [wrap_of (by omega) (by omega)]; omega, _, hb4.cell (i := 0) rfl rfl, ?_⟩
    rw [or_shift hk hu (by omega) h64.1]
    refine ifB_intro (fun z => ?_) fun z => ?_
    · have z : x.toNat < 128 := by have := of_decide_eq_true z; omega
      refine do_call Tryz.call200 (c_okey h64.1 fun w5 e5 => retS_ret ⟨_, _, rfl, _, rfl, do_st ((c.blk hb ho fun h => h).ext e5) (i := i) (by rw [add_zero']) (Array.getElem?_eq_some_iff.1 hc).1 fun w6 h6 g6 => ?_⟩)
      have hI5 := in_ext (S := fun _ => False) hI4 e5
      refine h _ s1 w6 ?_ (Blk.grown hI5.1 g6 (ne_some (Ne.symm ho))) h6 ((chg0 (c.trans hI5.2)).trans (in_st g6 (.inr (.inl rfl))))
      unfold numD; rw [← hD]; simp only [vDec]; rw [if_pos hg, if_pos z]; rfl
    · have z : 128 ≤ x.toNat := by have := of_decide_eq_false z; omega
      obtain ⟨hk8, hu'⟩ := h64.2 z
      refine ⟨⟨k + 1, _, s1, by rw [wrap_succ (n := 10) (by omega) (by omega)], by omega, hu', hI4, ?_, hl1, c⟩, ?_⟩
      · rw [← hD]; simp only [vDec]; rw [if_pos hg, if_neg (by omega)]
      · rw [wrap_succ (n := 10) (by omega) (by omega)]
        show 10 - ((k + 1 : Nat) : Int).toNat < 10 - (k : Int).toNat
        omega
  have nz : (((x.toNat : Nat) : Int) != 0) = decide (x.toNat ≠ 0) := by
    by_cases h0 : x.toNat = 0 <;> simp [h0]
  have kz : (((k : Nat) : Int) == 0) = decide (k = 0) := by
    by_cases h0 : k = 0 <;> simp [h0]
  rw [kz]
  refine ifB_intro (fun z9 => ?_) fun z9 => ?_
  · have z9 : k < 9 := by have := of_decide_eq_true z9; omega
    refine ifB_intro (fun z0 => ?_) fun z0 => ?_
    · exact do_call Tryz.call42 (c_must (fun _ => retS_ret ⟨rfl, good ⟨.inl z9, .inl (of_decide_eq_true z0)⟩⟩) fun e => by cases e)
    · refine ⟨_, hb4.cell (i := 0) rfl rfl, do_call Tryz.call42 (c_must (fun e => retS_ret ⟨rfl, good ⟨.inl z9, .inr ?_⟩⟩) fun e => bad ?_)⟩
      · rw [nz] at e; exact of_decide_eq_true e
      · rw [nz] at e
        have := of_decide_eq_false e
        have := of_decide_eq_false z0
        omega
  · have z9 : ¬ k < 9 := by have := of_decide_eq_false z9; omega
    refine ⟨_, hb4.cell (i := 0) rfl rfl, ifB_intro (fun z2 => ?_) fun z2 => ?_⟩
    · have z2 : x.toNat < 2 := by have := of_decide_eq_true z2; omega
      refine ifB_intro (fun z0 => ?_) fun z0 => ?_
      · exact do_call Tryz.call42 (c_must (fun _ => retS_ret ⟨rfl, good ⟨.inr z2, .inl (of_decide_eq_true z0)⟩⟩) fun e => by cases e)
      · refine ⟨_, hb4.cell (i := 0) rfl rfl, do_call Tryz.call42 (c_must (fun e => retS_ret ⟨rfl, good ⟨.inr z2, .inr ?_⟩⟩) fun e => bad ?_)⟩
        · rw [nz] at e; exact of_decide_eq_true e
        · rw [nz] at e
          have := of_decide_eq_false e
          have := of_decide_eq_false z0
          omega
    · have z2 : ¬ x.toNat < 2 := by have := of_decide_eq_false z2; omega
      exact do_call Tryz.call42 (c_must (fun e => by cases e) fun _ => bad (by omega))
end Go.Proofs.YtmkpkmdnapccgaaGreatDoor

namespace Go.Proofs.YtmkpkmdnapccgaaGreatDoor
open Go Go.Sh Go.RowKit

theorem num_len {s s' : Bs} {v : Int} (h : numD s = some (v, s')) : In v ∧ s'.length ≤ s.length := by
  obtain ⟨rfl, hv⟩ := numD_inv h
  exact ⟨hv, by rw [List.length_append]; omega⟩
theorem c_imany {cb : Nat} {w : World} {s : Bs} {b : Nat} {t : TypeId} {v : Value} {m : Nat} {R : EW} (hI : InI cb w s) (ho : b ≠ cb) (hb : Blk w b #[v] t) (hs : s.length ≤ 1000000000000000)
    (h : ∀ (v' : Nat) s' w', inB.many m s = some (v', s') → InI cb w' s' → Blk w' b #[.int .i64 (v' : Int)] t → Chg (InOwn cb) (· = b) w w' → R (.returned unitV) w')
    (hn : ∀ s' w', inB.many m s = none → s'.length ≤ s.length → InI cb w' s' → Chg (InOwn cb) (fun _ => False) w w' → R (.panicked [noneE]) w') :
    Calls Tryz.prog 196 #[.pointer (some (blk cb)), .pointer (some ⟨b, 0, none⟩)] w R := by
  refine sh196_ok _ _ ?_
  unfold sh196
  refine ⟨?_⟩
  have e1 := ext_alloc w (.cells #[.int .i64 0] 2)
  have hb1 := blk_alloc w #[.int .i64 0] 2
  have hI1 := in_ext (S := fun _ => False) hI e1
  have hne : w.heap.size ≠ cb := by have := Blk.lt hI; omega
  generalize w.alloc (.cells #[.int .i64 0] 2) = w1 at *
  refine do_call Tryz.call197 (c_inum (i := 0) hI1.1 hne hb1 rfl hs (fun x s2 w2 hx hI2 hb2 c2 => retS_ret ⟨rfl, ?_⟩) fun s2 w2 hx hl2 hI2 c2 => ?_)
  case refine_2 => exact hn s2 w2 (by simp only [inB]; rw [hx]; rfl) hl2 hI2 (hI1.2.trans c2)
  have c : Chg (InOwn cb) (fun _ => False) w w2 := ((chg0 hI1.2).trans c2).cut fun k hk e => by omega
  have hb2 : Blk w2 w.heap.size #[.int .i64 x] 2 := hb2
  obtain ⟨hin, hl2⟩ := num_len hx
  intro K8
  have good : 0 ≤ x ∧ x ≤ 4096 → K8 w2 := fun hg => by
    refine ⟨_, hb2.cell (i := 0) rfl rfl, _, rfl, do_st (c.blk hb ho fun h => h) (i := 0) rfl (by simp) fun w3 h3 g3 => ?_⟩
    refine h x.toNat s2 w3 ?_ (Blk.grown hI2 g3 (ne_some (Ne.symm ho))) ?_ ((chg0 c).trans (in_st g3 (.inr (.inl rfl))))
    · simp only [inB]; rw [hx]; simp only [Option.bind_some]; rw [if_pos hg]
    · rw [show ((x.toNat : Nat) : Int) = x by omega]; exact h3
  have bad : ¬ (0 ≤ x ∧ x ≤ 4096) → R (.panicked [noneE]) w2 := fun hb => hn s2 w2 (by simp only [inB]; rw [hx]; simp only [Option.bind_some]; rw [if_neg hb]) hl2 hI2 c
  refine ⟨_, hb2.cell (i := 0) rfl rfl, ifB_intro (fun z => ?_) fun z => ?_⟩
  · have z := of_decide_eq_true z
    exact ⟨_, hb2.cell (i := 0) rfl rfl, do_call Tryz.call42 (c_must (fun e => retS_ret ⟨rfl, good ⟨z, of_decide_eq_true e⟩⟩) fun e => bad fun hg => absurd hg.2 (of_decide_eq_false e))⟩
  · have z := of_decide_eq_false z
    exact do_call Tryz.call42 (c_must (fun e => by cases e) fun _ => bad fun hg => z hg.1)
theorem c_ipair {cb : Nat} {w : World} {s : Bs} {b : Nat} {t : TypeId} {v : Int × Int} {u1 u2 : Value} {R : EW} (hI : InI cb w s) (ho : b ≠ cb) (hb : Blk w b #[u1, u2] t) (hs : s.length ≤ 1000000000000000)
    (h : ∀ (v' : Int × Int) s' w', inB.pair v s = some (v', s') → InI cb w' s' → Blk w' b #[.int .i64 v'.1, .int .i64 v'.2] t → Chg (InOwn cb) (· = b) w w' → R (.returned unitV) w')
    (hn : ∀ s' w', inB.pair v s = none → s'.length ≤ s.length → InI cb w' s' → Chg (InOwn cb) (· = b) w w' → R (.panicked [noneE]) w') :
    Calls Tryz.prog 198 #[.pointer (some (blk cb)), .pointer (some ⟨b, 0, none⟩)] w R := by
  refine sh198_ok _ _ ?_
  unfold sh198
  refine ⟨_, rfl, do_call Tryz.call197 (c_inum (b := b) (i := 0) hI ho hb rfl hs (fun x s1 w1 hx hI1 hb1 c1 => retS_ret ⟨rfl, _, rfl, ?_⟩) fun s1 w1 hx hl1 hI1 c1 => ?_)⟩
  case refine_2 => exact hn s1 w1 (by simp only [inB]; rw [hx]; rfl) hl1 hI1 (chg0 c1)
  have hb1 : Blk w1 b #[.int .i64 x, u2] t := hb1
  have l1 := num_len hx
  refine do_call Tryz.call197 (c_inum (b := b) (i := 1) hI1 ho hb1 rfl (by omega) (fun y s2 w2 hy hI2 hb2 c2 => retS_ret ⟨rfl, h (x, y) s2 w2 ?_ hI2 hb2 (c1.trans c2)⟩) fun s2 w2 hy hl2 hI2 c2 => ?_)
  · simp only [inB]; rw [hx]; simp only [Option.bind_some]; rw [hy]; rfl
  · exact hn s2 w2 (by simp only [inB]; rw [hx]; simp only [Option.bind_some]; rw [hy]; rfl) (Nat.le_trans hl2 l1.2) hI2 (c1.trans (chg0 c2))
theorem one_eq (x : UInt8) : (((x.toNat : Nat) : Int) == 1) = (x == 1) := by
  by_cases h : x = 1
  · subst h; rfl
  · rw [show (x == 1) = false by simpa using h]
    have : x.toNat ≠ 1 := fun e => h (UInt8.toNat_inj.1 e)
    simp; omega
theorem c_iflag {cb : Nat} {w : World} {s : Bs} {b i : Nat} {cs : Array Value} {t : TypeId} {v : Bool} {R : EW} (hI : InI cb w s) (ho : b ≠ cb) (hb : Blk w b cs t) (hc : cs[i]? = some (.bool v)) (hs : s.length ≤ 1000000000000000)
    (h : ∀ v' s' w', inB.flag v s = some (v', s') → InI cb w' s' → Blk w' b (cs.setIfInBounds i (.bool v')) t → Chg (InOwn cb) (· = b) w w' → R (.returned unitV) w')
    (hn : ∀ s' w', inB.flag v s = none → s'.length ≤ s.length → InI cb w' s' → Chg (InOwn cb) (fun _ => False) w w' → R (.panicked [noneE]) w') :
    Calls Tryz.prog 195 #[.pointer (some (blk cb)), .pointer (some ⟨b, i, none⟩)] w R := by
  refine sh195_ok _ _ ?_
  unfold sh195
  refine ⟨?_⟩
  have e1 := ext_alloc w (.cells #[.int .u8 0] 5)
  have hb1 := blk_alloc w #[.int .u8 0] 5
  have hI1 := in_ext (S := fun _ => False) hI e1
  have hne : w.heap.size ≠ cb := by have := Blk.lt hI; omega
  generalize w.alloc (.cells #[.int .u8 0] 5) = w1 at *
  refine do_call Tryz.call199 (c_iword (i := 0) hI1.1 hne hb1 rfl hs (fun x s2 w2 hx hI2 hb2 c2 => retS_ret ⟨rfl, ?_⟩) fun he => hn s w1 (by subst he; rfl) (Nat.le_refl _) hI1.1 hI1.2)
  subst hx
  have c : Chg (InOwn cb) (fun _ => False) w w2 := ((chg0 hI1.2).trans c2).cut fun k hk e => by omega
  have hb2 : Blk w2 w.heap.size #[.int .u8 ((x.toNat : Nat) : Int)] 5 := hb2
  refine ⟨_, hb2.cell (i := 0) rfl rfl, do_call Tryz.call42 (c_must (fun e => retS_ret ⟨rfl, ?_⟩) fun e => ?_)⟩
  · have e := of_decide_eq_true e
    refine ⟨_, hb2.cell (i := 0) rfl rfl, _, rfl, ?_⟩
    rw [one_eq]
    refine do_st (c.blk hb ho fun h => h) (i := i) (by rw [add_zero']) (Array.getElem?_eq_some_iff.1 hc).1 fun w3 h3 g3 => ?_
    exact h _ s2 w3 (by simp only [inB]; rw [if_pos (by omega)]) (Blk.grown hI2 g3 (ne_some (Ne.symm ho))) h3 ((chg0 c).trans (in_st g3 (.inr (.inl rfl))))
  · have e := of_decide_eq_false e
    exact hn s2 w2 (by simp only [inB]; rw [if_neg (by omega)]) (by simp) hI2 c
theorem c_iflagD {cb : Nat} {w : World} {s : Bs} {b i : Nat} {cs : Array Value} {t : TypeId} {v : Bool} {u : FrameMode} {R : EW} (hI : InI cb w s) (ho : b ≠ cb) (hb : Blk w b cs t) (hc : cs[i]? = some (.bool v)) (hs : s.length ≤ 1000000000000000)
    (h : ∀ v' s' w', inB.flag v s = some (v', s') → InI cb w' s' → Blk w' b (cs.setIfInBounds i (.bool v')) t → Chg (InOwn cb) (· = b) w w' → R (.returned unitV) w')
    (hn : ∀ s' w', inB.flag v s = none → s'.length ≤ s.length → InI cb w' s' → Chg (InOwn cb) (fun _ => False) w w' → R (.panicked [noneE]) w') :
    CallsDIn Fence.wide 0 Tryz.prog 195 #[.pointer (some (blk cb)), .pointer (some ⟨b, i, none⟩)] u w (fun e u1 w1 => u1 = u ∧ R e w1) := by
  refine sh195d_ok _ _ ?_
  unfold sh195d
  refine ⟨?_⟩
  have e1 := ext_alloc w (.cells #[.int .u8 0] 5)
  have hb1 := blk_alloc w #[.int .u8 0] 5
  have hI1 := in_ext (S := fun _ => False) hI e1
  have hne : w.heap.size ≠ cb := by have := Blk.lt hI; omega
  generalize w.alloc (.cells #[.int .u8 0] 5) = w1 at *
  refine do_call Tryz.call199 (c_iword (i := 0) hI1.1 hne hb1 rfl hs (fun x s2 w2 hx hI2 hb2 c2 => retS_ret ⟨rfl, ?_⟩) fun he => ⟨rfl, hn s w1 (by subst he; rfl) (Nat.le_refl _) hI1.1 hI1.2⟩)
  subst hx
  have c : Chg (InOwn cb) (fun _ => False) w w2 := ((chg0 hI1.2).trans c2).cut fun k hk e => by omega
  have hb2 : Blk w2 w.heap.size #[.int .u8 ((x.toNat : Nat) : Int)] 5 := hb2
  refine ⟨_, hb2.cell (i := 0) rfl rfl, do_call Tryz.call42 (c_must (fun e => retS_ret ⟨rfl, ?_⟩) fun e => ⟨rfl, ?_⟩)⟩
  · have e := of_decide_eq_true e
    refine ⟨_, hb2.cell (i := 0) rfl rfl, _, rfl, ?_⟩
    rw [one_eq]
    refine do_st (c.blk hb ho fun h => h) (i := i) (by rw [add_zero']) (Array.getElem?_eq_some_iff.1 hc).1 fun w3 h3 g3 => ⟨rfl, ?_⟩
    exact h _ s2 w3 (by simp only [inB]; rw [if_pos (by omega)]) (Blk.grown hI2 g3 (ne_some (Ne.symm ho))) h3 ((chg0 c).trans (in_st g3 (.inr (.inl rfl))))
  · have e := of_decide_eq_false e
    exact hn s2 w2 (by simp only [inB]; rw [if_neg (by omega)]) (by simp) hI2 c
theorem in_meth (cp x : Value) (w : World) :
    (invoke (.fn (.method "joinery/op.num") #[]) #[.iface 77 cp, x]).run Tryz.prog w = .ok (.enter 197 #[cp, x]) w ∧ (invoke (.fn (.method "joinery/op.flag") #[]) #[.iface 77 cp, x]).run Tryz.prog w = .ok (.enter 195 #[cp, x]) w ∧
    (invoke (.fn (.method "joinery/op.many") #[]) #[.iface 77 cp, x]).run Tryz.prog w = .ok (.enter 196 #[cp, x]) w ∧ (invoke (.fn (.method "joinery/op.pair") #[]) #[.iface 77 cp, x]).run Tryz.prog w = .ok (.enter 198 #[cp, x]) w :=
  ⟨by kernel_rfl, by kernel_rfl, by kernel_rfl, by kernel_rfl⟩
theorem in_methw (cp x y : Value) (w : World) : (invoke (.fn (.method "joinery/op.word") #[]) #[.iface 77 cp, x, y]).run Tryz.prog w = .ok (.enter 199 #[cp, x, y]) w := by kernel_rfl
theorem in_ta (cb : Nat) (w : World) : (Instr.typeAssert (.iface 77 (.pointer (some (blk cb)))) 97 61 true).run Tryz.prog w = .ok (.tuple #[.pointer none, .bool false]) w ∧
    (Instr.typeAssert (.iface 77 (.pointer (some (blk cb)))) 97 85 true).run Tryz.prog w = .ok (.tuple #[.pointer none, .bool false]) w := ⟨by kernel_rfl, by kernel_rfl⟩
theorem in_nil (cb : Nat) (w : World) : (nilAhead (Tryz.prog.types.size + Made.depth) 77 (.pointer (some (blk cb))) "joinery/op.word").run Tryz.prog w = .ok (some false) w := by kernel_rfl
def InB (cb : Nat) : CBase inB where
  I := InI cb
  own := InOwn cb
  lt := fun hI h => by cases h; exact Blk.lt hI
  keep := fun {w w' s} hI h => ⟨by unfold InI Blk; rw [h cb rfl]; exact hI, fun k => Iff.rfl⟩
  len := List.length
  grow := 0
  numIn := fun _ h => num_len h
  wordIn := fun _ h => by
    obtain ⟨rfl, h1, h2⟩ := word_inv h
    exact ⟨⟨h1, h2⟩, by simp⟩
  flagIn := fun h => by
    rw [flag_inv h]; simp
  manyIn := fun _ h => by
    obtain ⟨rfl, hn⟩ := many_inv h
    exact ⟨Nat.le_trans hn (Nat.le_max_right _ _), by simp⟩
  pairIn := fun _ h => by
    simp only [inB] at h
    obtain ⟨⟨a, s1⟩, ha, h⟩ := Option.bind_eq_some_iff.1 h
    obtain ⟨⟨b, s2⟩, hb, h⟩ := Option.bind_eq_some_iff.1 h
    cases h
    have l1 := num_len ha
    have l2 := num_len hb
    exact ⟨⟨l1.1, l2.1⟩, Nat.le_trans l2.2 l1.2⟩
theorem lim_le {n : Nat} (h : n ≤ lim) : n ≤ 1000000000000000 := Nat.le_trans h (by decide)
def InC (cb : Nat) : Coder inB 77 (.pointer (some (blk cb))) where
  toCBase := InB cb
  pre := fun _ _ => True
  nc := nc_iface
  ncw := nc_func (in_nil cb)
  ta := ⟨none, false, none, false, rfl, fun w S h => ⟨_, (in_ta cb w).1, h⟩, fun w S h => ⟨_, (in_ta cb w).2, h⟩⟩
  num := fun {w s b i cs t v R} hI hl ho hb hc _ h hn => do_meth (args := #[.pointer (some ⟨b, i, none⟩)]) (in_meth _ _ w).1 (c_inum hI ho hb hc (lim_le hl) (fun v' s' w' hv hI' hb' c' => h v' s' w' hv hI' hb' c') fun s' w' hv hl' hI' c' => hn _ v s' w' hv noneCh1 hl' hI' (by rw [set_self hc]; exact c'.blk hb ho fun h => h) (chg0 c'))
  word := fun {w s b i cs t v names q n cap R} hI hl ho hb hc _ _ _ _ _ h hn => do_meth (args := #[.pointer (some ⟨b, i, none⟩), .slice q n cap]) (in_methw _ _ _ w) (c_iword hI ho hb hc (lim_le hl) (fun x s' w' hs hI' hb' c' => h _ s' w' (by subst hs; rfl) hI' hb' c') fun hs => hn _ v s w (by subst hs; rfl) noneCh1 (Nat.le_refl _) hI (by rw [set_self hc]; exact hb) (.refl _ _ _))
  flag := fun {w s b i cs t v R} hI hl ho hb hc h hn => do_meth (args := #[.pointer (some ⟨b, i, none⟩)]) (in_meth _ _ w).2.1 (c_iflag hI ho hb hc (lim_le hl) (fun v' s' w' hv hI' hb' c' => h v' s' w' hv hI' hb' c') fun s' w' hv hl' hI' c' => hn _ v s' w' hv noneCh1 hl' hI' (by rw [set_self hc]; exact c'.blk hb ho fun h => h) (chg0 c'))
  flagD := fun _ {w s b i cs t v u K} hu hI hl ho hb hc h hn => do_df (args := #[.pointer (some ⟨b, i, none⟩)]) hu (in_meth _ _ w).2.1 (c_iflagD (R := fun e w1 => dfPost K e u w1) hI ho hb hc (lim_le hl) (fun v' s' w' hv hI' hb' c' => h v' s' w' hv hI' hb' c') fun s' w' hv hl' hI' c' => hn _ v s' w' hv noneCh1 hl' hI' (by rw [set_self hc]; exact c'.blk hb ho fun h => h) (chg0 c'))
  many := fun {w s b t v R} hI hl ho hb _ h hn => do_meth (args := #[.pointer (some ⟨b, 0, none⟩)]) (in_meth _ _ w).2.2.1 (c_imany (m := v) hI ho hb (lim_le hl) (fun v' s' w' hv hI' hb' c' => h v' s' w' hv hI' hb' c') fun s' w' hv hl' hI' c' => hn _ s' w' hv noneCh1 hl' hI' (chg0 c'))
  pair := fun {w s b t v R} hI hl ho hb _ h hn => do_meth (args := #[.pointer (some ⟨b, 0, none⟩)]) (in_meth _ _ w).2.2.2 (c_ipair (v := v) hI ho hb (lim_le hl) (fun v' s' w' hv hI' hb' c' => h v' s' w' hv hI' hb' c') fun s' w' hv hl' hI' c' => hn _ s' w' hv noneCh1 hl' hI' c')
end Go.Proofs.YtmkpkmdnapccgaaGreatDoor

namespace Go.Proofs.YtmkpkmdnapccgaaGreatDoor
open Go Go.Sh Go.RowKit

theorem c_wrong0 {w : World} {R : EW} (h : R (.returned (.bool false)) w) : Calls Tryz.prog 41 #[.nilIface] w R := by
  refine sh41_ok _ ?_
  unfold sh41
  exact ⟨true, fun w => by kernel_rfl, ifB_t rfl h⟩
theorem c_wrong1 {w : World} {R : EW} (h : ∀ w', Ext w w' → R (.returned (.bool true)) w') : Calls Tryz.prog 41 #[.iface 129 (.agg #[])] w R := by
  refine sh41_ok _ ?_
  unfold sh41
  refine ⟨false, fun w => by kernel_rfl, ifB_f rfl ⟨.tuple #[.agg #[], .bool true], by kernel_rfl, true, rfl, ifB_t rfl ⟨h _ (ext_alloc w _)⟩⟩⟩
theorem no_exit : ∀ {rest : List PanicEntry}, (∀ e ∈ rest, e.goexit = false) → rest.dropWhile (!·.goexit) = []
  | [], _ => rfl
  | e :: rest, h => by
    rw [List.dropWhile_cons, h e (by simp)]
    exact no_exit fun e he => h e (by simp [he])
theorem settle_caught {rest : List PanicEntry} {v : Value} (h : ∀ e ∈ rest, e.goexit = false) : settle (.panicking ({ v := v, recovered := true } :: rest)) = .returning := by
  simp only [settle, no_exit h]
theorem c_catch0 {b : Nat} {w : World} {K : FrameMode → World → Prop} (h : K .returning w) : doDf Tryz.prog (.fn (.func 55) #[.pointer (some (blk b))]) #[] .returning w K := by
  refine ⟨by simp, 55, #[.pointer (some (blk b))], by simp only [invoke]; exact Tryz.call55 #[.pointer (some (blk b))] w, ?_⟩
  refine callsDIn_of_wpS Tryz.func55 rfl fun c₀ cs hu => ?_
  apply wpS_seq
  apply wpS_region
  simp [wpOpsS, go_sem, recoverD, hu, Exit.thenS]
  refine c_wrong0 ?_
  refine wpS_cond (t := false) (by simp [Act.eval, Array.replicate]) ?_
  simp only [Bool.false_eq_true, if_false]
  refine wpS_of_wp (wp_skip ?_)
  cases c₀
  simp_all [bodyPostS, results, dfPost]
  exact h
theorem c_catch1 {b : Nat} {v : Bool} {t : TypeId} {ch : List PanicEntry} {w : World} {K : FrameMode → World → Prop} (hch : NoneCh ch) (hb : Blk w b #[.bool v] t) (h : ∀ w', Blk w' b #[.bool false] t → w.grownBy w' (some b) → K .returning w') :
    doDf Tryz.prog (.fn (.func 55) #[.pointer (some (blk b))]) #[] (.panicking ch) w K := by
  refine ⟨by simp, 55, #[.pointer (some (blk b))], by simp only [invoke]; exact Tryz.call55 #[.pointer (some (blk b))] w, ?_⟩
  refine callsDIn_of_wpS Tryz.func55 rfl fun c₀ cs hu => ?_
  apply wpS_seq
  apply wpS_region
  obtain ⟨rest, rfl, hr⟩ := hch
  simp [wpOpsS, go_sem, recoverD, hu, Exit.thenS, noneE]
  refine c_wrong1 fun w1 e1 => ?_
  refine wpS_cond (t := true) (by simp [Act.eval, Array.replicate]) ?_
  simp only [if_true]
  apply wpS_region
  have hb1 := hb.ext e1
  have hc : w1.cell? (blk b) = some (.bool v) := hb1.cell (i := 0) rfl rfl
  have hf : w1.frozen? (blk b) = false := hb1.frozen (i := 0) rfl
  have hst := (do_st hb1 (a := blk b) (i := 0) (v := .bool false) (K := fun w' => K .returning w') rfl (by simp) fun w2 h2 g2 =>
    h w2 h2 (grown_trans ⟨e1.os, e1.tape, e1.output, e1.size, fun k hk _ => e1.block k hk⟩ g2)).out.2.2
  simp [wpOpsS, go_sem, hc, hf, bodyPostS, results, dfPost]
  rw [settle_caught hr]
  exact hst
end Go.Proofs.YtmkpkmdnapccgaaGreatDoor

namespace Go.Proofs.YtmkpkmdnapccgaaGreatDoor
open Go Go.Sh Go.RowKit

def comb (p a b : Int) : Int := if p = 1 then a else if p = 2 then b else IntKind.wrap .i64 (a + b)
def may (p : Int) : Bool := p == 1 || p == 2 || p == 3
theorem may_cases {p : Int} (h : may p = true) : p = 1 ∨ p = 2 ∨ p = 3 := by simpa [may, or_assoc] using h
def fn (k : Nat) : Value := .agg #[.func (.func k) #[] #[]]
def kindEs : Array MapEntry := #[{ key := .int .u8 1, val := fn 81, born := 0 }, { key := .int .u8 2, val := fn 82, born := 1 }, { key := .int .u8 3, val := fn 83, born := 2 }]
theorem c_kinds {w : World} {R : EW} (h : ∀ b w', Ext w w' → w'.heap[b]? = some (.map kindEs 3) → R (.returned (.map (some b))) w') : Calls Tryz.prog 56 #[] w R := by
  refine sh56_ok ?_
  unfold sh56
  refine ⟨?_⟩
  refine do_mu_new Tryz.underlying110 Tryz.underlying5 (heap_alloc_new w _) (by rfl) (by rfl) fun w3 h3 g3 => ?_
  refine do_mu_new Tryz.underlying110 Tryz.underlying5 h3 (by rfl) (by rfl) fun w4 h4 g4 => ?_
  refine do_mu_new Tryz.underlying110 Tryz.underlying5 h4 (by rfl) (by rfl) fun w5 h5 g5 => ?_
  have e := ext_alloc w (.map #[] 0)
  exact h _ _ (((e.grown g3 (by rintro _ ⟨⟩; exact Nat.le_refl _)).grown g4 (by rintro _ ⟨⟩; exact Nat.le_refl _)).grown g5 (by rintro _ ⟨⟩; exact Nat.le_refl _)) h5
theorem find_kind {p : Int} (h : may p = true) : ∃ i k, Instr.findNow (.int .u8) (.int .u8 p) kindEs.toList 0 = some (some (i, fn k)) ∧
    ∀ (a b : Int) (w : World) (R : EW), R (.returned (.int .i64 (comb p a b))) w → doCall Tryz.prog (.func (.func k) #[] #[]) #[.int .i64 a, .int .i64 b] w R := by
  rcases may_cases h with rfl | rfl | rfl
  · exact ⟨0, 81, rfl, fun a b w R h => do_call Tryz.call81 (sh81_ok _ _ h)⟩
  · exact ⟨1, 82, rfl, fun a b w R h => do_call Tryz.call82 (sh82_ok _ _ h)⟩
  · exact ⟨2, 83, rfl, fun a b w R h => do_call Tryz.call83 (sh83_ok _ _ h)⟩
theorem find_none {p : Int} (h : may p = false) : Instr.findNow (.int .u8) (.int .u8 p) kindEs.toList 0 = some none := by
  simp [may] at h
  obtain ⟨⟨h1, h2⟩, h3⟩ := h
  have e1 : (p == 1) = false := by simpa using h1
  have e2 : (p == 2) = false := by simpa using h2
  have e3 : (p == 3) = false := by simpa using h3
  simp [kindEs, Instr.findNow, Instr.sameNow, e1, e2, e3]
theorem c_fmay {p : Int} {w : World} {R : EW} (h : ∀ w', Ext w w' → R (.returned (.bool (may p))) w') : Calls Tryz.prog 27 #[.int .u8 p] w R := by
  refine sh27_ok _ ?_
  unfold sh27
  refine do_call Tryz.call56 (c_kinds fun b w1 e1 hb => retS_ret ⟨_, rfl, ?_⟩)
  cases hm : may p
  · refine do_lk_miss Tryz.underlying110 Tryz.underlying5 hb (by rfl) (find_none hm) (z := .agg #[.nilFunc]) (by kernel_rfl) (.inr ⟨rfl, ⟨?_⟩⟩)
    refine ⟨⟨_, by rw [add_zero']; exact cell_alloc0 _ _ _⟩, by rw [add_zero']; exact frozen_alloc _ _ _ _, ?_⟩
    exact hm ▸ h _ ((e1.alloc _).set (by rw [add_block]; exact e1.size) _)
  · obtain ⟨i, k, hf, _⟩ := find_kind hm
    refine do_lk_hit Tryz.underlying110 Tryz.underlying5 hb (by rfl) hf (.inl ⟨_, _, _, _, rfl, ⟨?_⟩⟩)
    refine ⟨⟨_, by rw [add_zero']; exact cell_alloc0 _ _ _⟩, by rw [add_zero']; exact frozen_alloc _ _ _ _, ?_⟩
    exact hm ▸ h _ ((e1.alloc _).set (by rw [add_block]; exact e1.size) _)
theorem take_succ {l : List Int} {k : Nat} (h : k < l.length) : l.take (k + 1) = l.take k ++ [l[k]] := (List.take_append_getElem h).symm
abbrev W64 (x : Int) : Int := IntKind.wrap .i64 x
def sumL (l : List Int) : Int := l.foldl (fun s x => W64 (s + x)) 0
def sumsL (l : List Int) : List Int := (List.range l.length).map fun i => sumL (l.take (i + 1))
@[simp] theorem sumsL_length (l : List Int) : (sumsL l).length = l.length := by simp [sumsL]
theorem c_rmay {p : Int} {w : World} {R : EW} (h : R (.returned (.bool (may p))) w) : Calls Tryz.prog 36 #[.int .u8 p] w R := by
  refine sh36_ok _ ?_
  unfold sh36
  unfold may at h
  refine ifB_intro (fun h1 => ?_) fun h1 => ifB_intro (fun h2 => ?_) fun h2 => ?_
  · simpa [h1] using h
  · simpa [h1, h2] using h
  · simpa [h1, h2] using h
theorem c_rsame {l r : List Int} {q q' : OA} {n c n' c' : Nat} {w : World} {R : EW} (hl : Cs w q (ints l)) (hn : l.length = n) (hr : Cs w q' (ints r)) (hn' : r.length = n') (h63 : n ≤ 9223372036854775807)
    (h : ∀ w', Ext w w' → R (.returned (.bool (decide (l = r)))) w') : Calls Tryz.prog 39 #[.slice q n c, .slice q' n' c'] w R := by
  refine sh39_ok _ _ _ _ _ _ ?_
  unfold sh39
  refine ifB_intro (fun h0 => ?_) fun h0 => ?_
  · have : ¬ l = r := fun e => by subst e; simp at h0; omega
    rw [decide_eq_false this] at h
    exact h _ (ext_refl _)
  have h0 : n = n' := by simp at h0; omega
  subst h0
  refine ⟨fun vs w' => ∃ i : Nat, vs = [.int .i64 i] ∧ i ≤ n ∧ Ext w w' ∧ l.take i = r.take i,
    fun vs _ => n - (intOf (vs.getD 0 undef)).toNat, ⟨0, rfl, by omega, ext_refl _, rfl⟩, ?_⟩
  rintro i j w3 ⟨m, hv, hmn, e3, ht⟩
  simp only [List.cons.injEq, Value.int.injEq, true_and, and_true] at hv
  obtain rfl := hv
  refine ifB_intro (fun h1 => ?_) fun h1 => ?_
  · have h1 : m < n := by simpa using h1
    refine ⟨⟨fun w' => Ext w3 w', ext_drew _, ?_⟩⟩
    refine ix_int (hl.ext e3) hn (by omega) (by omega) fun a _ hx => ⟨_, fun w' e' => e'.cell hx, ix_int (hr.ext e3) hn' (by omega) (by omega) fun a' _ hx' => ⟨_, fun w' e' => e'.cell hx', ?_⟩⟩
    have g1 : l.getD m 0 = l[m] := by simp [List.getElem?_eq_getElem (show m < l.length by omega)]
    have g2 : r.getD m 0 = r[m] := by simp [List.getElem?_eq_getElem (show m < r.length by omega)]
    rw [Int.toNat_natCast, g1, g2]
    refine ifB_intro (fun h2 => ?_) fun h2 => ⟨⟨m + 1, by rw [wrap_succ h1 h63], by omega, e3.drew, ?_⟩, ?_⟩
    · have : ¬ l = r := fun e => by subst e; simp at h2
      rw [decide_eq_false this] at h
      exact h _ e3.drew
    · rw [take_succ (by omega), take_succ (by omega), ht]; simp at h2; rw [h2]
    · rw [wrap_succ h1 h63]
      simp [intOf]; omega
  · have h1 : m = n := by simp at h1; omega
    rw [List.take_of_length_le (by omega), List.take_of_length_le (by omega)] at ht
    rw [decide_eq_true ht] at h
    exact h _ e3
end Go.Proofs.YtmkpkmdnapccgaaGreatDoor

namespace Go.Proofs.YtmkpkmdnapccgaaGreatDoor
open Go Go.Sh Go.RowKit

abbrev Pr := Int × Int
theorem elP : ElT Tryz.prog 34 49 (.agg #[.int .i64 0, .int .i64 0]) 2 16 := ⟨Tryz.underlying34, ⟨_, Tryz.type49, by kernel_rfl, by kernel_rfl, by kernel_rfl⟩, rfl, by omega⟩
def agP (x : Pr) : Value := .agg #[.int .i64 x.1, .int .i64 x.2]
def chain (o : Int) : List Pr → Bool
  | a :: b :: l => decide (cmpI o a.1 b.1 < 0) && chain o (b :: l)
  | _ => true
end Go.Proofs.YtmkpkmdnapccgaaGreatDoor

namespace Go.Proofs.YtmkpkmdnapccgaaGreatDoor
open Go Go.Sh Go.RowKit

end Go.Proofs.YtmkpkmdnapccgaaGreatDoor

namespace Go.Proofs.YtmkpkmdnapccgaaGreatDoor
open Go Go.Sh Go.RowKit

end Go.Proofs.YtmkpkmdnapccgaaGreatDoor

