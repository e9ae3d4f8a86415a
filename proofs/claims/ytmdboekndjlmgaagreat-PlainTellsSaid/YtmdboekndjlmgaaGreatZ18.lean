/-
  The codes of keys, as numbers: plain laws of 64 bits. No claim of its own.
-/
import Derived.Test.YtmdboekndjlmgaaGreatZ03
set_option maxRecDepth 100000
set_option maxHeartbeats 6400000
namespace Go.Sh
open Go
variable {w:World}{R:EW}
def U(x:BitVec 64):Int:=(x.toNat:Int)
theorem U_lt(x:BitVec 64):0≤U x∧U x < 18446744073709551616:=by
 have:=x.isLt
 unfold U;omega
theorem aKz{x y:BitVec 64}(h:U x=U y):x=y:=BitVec.eq_of_toNat_eq (by unfold U at h;omega)
theorem qR(n:Int):IntKind.wrap .u64 n=n % 18446744073709551616:=by simp [IntKind.wrap,IntKind.bits,IntKind.signed]
theorem uM(x:Int):IntKind.wrap .u64 x=U (BitVec.ofInt 64 x):=by
 rw [qR];unfold U;simp
 omega
theorem wB(x:BitVec 64):BitVec.ofInt 64 (U x)=x:=by
 apply BitVec.eq_of_toNat_eq
 have:=x.isLt
 simp [U]
theorem xC:IntKind.bits .u64=64:=rfl
theorem aJg(x y:BitVec 64):bXor .u64 (U x) (U y)=U (x ^^^ y):=by
 unfold bXor
 rw [xC,wB,wB]
 rw [uM]
 exact congrArg U (wB (x ^^^ y))
theorem aBg(x y:BitVec 64):bAnd .u64 (U x) (U y)=U (x &&& y):=by
 unfold bAnd
 rw [xC,wB,wB]
 rw [uM]
 exact congrArg U (wB (x &&& y))
theorem bOr_U(x y:BitVec 64):bOr .u64 (U x) (U y)=U (x ||| y):=by
 unfold bOr
 rw [xC,wB,wB]
 rw [uM]
 exact congrArg U (wB (x ||| y))
theorem aDf(x:BitVec 64)(s:Nat)(hs:s≤64):Int.fdiv (U x) (2 ^ (min ((s:Int)).toNat (IntKind.bits .u64)))=U (x >>> s):=by
 rw [xC,Int.toNat_natCast,Nat.min_eq_left hs]
 unfold U
 rw [BitVec.toNat_ushiftRight,Nat.shiftRight_eq_div_pow,Int.fdiv_eq_ediv_of_nonneg _ (Int.pow_nonneg (by omega))]
 simp
theorem aEj(x:BitVec 64)(s:Nat)(hs:s≤64):IntKind.wrap .u64 (U x * 2 ^ (min ((s:Int)).toNat (IntKind.bits .u64)))=U (x <<< s):=by
 rw [xC,Int.toNat_natCast,Nat.min_eq_left hs,qR]
 unfold U
 rw [BitVec.toNat_shiftLeft,Nat.shiftLeft_eq]
 simp
theorem mul_U(x y:BitVec 64):IntKind.wrap .u64 (U x * U y)=U (x * y):=by
 rw [qR];unfold U;rw [BitVec.toNat_mul];simp
theorem add_U(x y:BitVec 64):IntKind.wrap .u64 (U x+U y)=U (x+y):=by
 rw [qR];unfold U;rw [BitVec.toNat_add];simp
theorem aHp(x:BitVec 64)(s:Nat):IntKind.wrap .u64 (Int.tdiv (U x) ((2 ^ s:Nat):Int))=U (x >>> s):=by
 rw [qR];unfold U
 rw [BitVec.toNat_ushiftRight,Nat.shiftRight_eq_div_pow,Int.tdiv_eq_ediv_of_nonneg (by omega)]
 rw [show ((x.toNat:Int) / ((2 ^ s:Nat):Int))=((x.toNat / 2 ^ s:Nat):Int) from (Int.natCast_ediv _ _).symm]
 have:x.toNat / 2 ^ s < 18446744073709551616:=Nat.lt_of_le_of_lt (Nat.div_le_self _ _) x.isLt
 generalize x.toNat / 2 ^ s=q at this ⊢
 omega
def xs(s:Nat)(x:BitVec 64):BitVec 64:=x ^^^ (x >>> s)
def mixB(x:BitVec 64):BitVec 64:=xs 31 (xs 27 (xs 30 x * 13787848793156543929#64) * 10723151780598845931#64)
theorem aLb{s:Nat}(hs:22≤s){x y:BitVec 64}(h:xs s x=xs s y):x=y:=by
 have inv:∀x:BitVec 64,xs s x ^^^ (xs s x >>> s) ^^^ (xs s x >>> (2 * s))=x:=fun x=>by
  apply BitVec.eq_of_getLsbD_eq
  intro i hi
  simp only [xs,BitVec.getLsbD_xor,BitVec.getLsbD_ushiftRight]
  have h1:x.getLsbD (s+(2 * s+i))=false:=BitVec.getLsbD_of_ge _ _ (by omega)
  have e1:s+(s+i)=2 * s+i:=by omega
  rw [h1,e1]
  cases x.getLsbD i <;> cases x.getLsbD (s+i) <;> cases x.getLsbD (2 * s+i) <;> rfl
 rw [←inv x,←inv y,h]
theorem aNo{c d:BitVec 64}(hc:c * d=1#64){x y:BitVec 64}(h:x * c=y * c):x=y:=by
 have:x * c * d=y * c * d:=by rw [h]
 rwa [BitVec.mul_assoc,BitVec.mul_assoc,hc,BitVec.mul_one,BitVec.mul_one] at this
theorem mixB_inj{x y:BitVec 64}(h:mixB x=mixB y):x=y:=by
 unfold mixB at h
 have h:=aLb (by omega) h
 have h:=aNo (d:=3573116690164977347#64) (by decide) h
 have h:=aLb (by omega) h
 have h:=aNo (d:=10871156337175269513#64) (by decide) h
 exact aLb (by omega) h
def Rev(x y:BitVec 64):Prop:=∀j,j < 64→y.getLsbD j=x.getLsbD (63 - j)
theorem rev_eq{x y z:BitVec 64}(h:Rev x y)(k:Rev x z):y=z:=BitVec.eq_of_getLsbD_eq fun i hi=>by rw [h i hi,k i hi]
theorem rev_inj{x y z:BitVec 64}(h:Rev x z)(k:Rev y z):x=y:=BitVec.eq_of_getLsbD_eq fun i hi=>by
 have h1:=h (63 - i) (by omega)
 have h2:=k (63 - i) (by omega)
 rw [show 63 - (63 - i)=i by omega] at h1 h2
 rw [←h1,←h2]
def yT(m:BitVec 64)(s:Nat)(x:BitVec 64):BitVec 64:=((x >>> s) &&& m) ||| ((x &&& m) <<< s)
def revBytes(x:BitVec 64):BitVec 64:=
 let a:=yT 71777214294589695#64 8 x
 let b:=yT 281470681808895#64 16 a
 (b >>> 32) ||| (b <<< 32)
def revB(x:BitVec 64):BitVec 64:=revBytes (yT 1085102592571150095#64 4 (yT 3689348814741910323#64 2 (yT 6148914691236517205#64 1 x)))
theorem zC{m:BitVec 64}{s:Nat}{x:BitVec 64}{i:Nat}(hi:i < 64)(hs:0 < s)
  (hm:∀i,i < 64→m.getLsbD i=decide (i / s % 2=0)):(yT m s x).getLsbD i=x.getLsbD (if i / s % 2=0 then i+s else i - s):=by
 simp only [yT,BitVec.getLsbD_or,BitVec.getLsbD_and,BitVec.getLsbD_ushiftRight,BitVec.getLsbD_shiftLeft,hm i hi,decide_eq_true hi,Bool.true_and]
 by_cases h:i / s % 2=0
 ·rw [if_pos h,decide_eq_true h,Bool.and_true,Nat.add_comm s i]
  by_cases h1:i < s
  ·simp [h1]
  ·have e:(i - s) / s % 2=1:=by
    have:i / s=(i - s) / s+1:=by rw [←Nat.add_div_right _ hs,Nat.sub_add_cancel (by omega)]
    omega
   rw [hm (i - s) (by omega)]
   simp [e]
 ·rw [if_neg h,decide_eq_false h,Bool.and_false,Bool.false_or]
  have h1:¬i < s:=fun h1=>h (by rw [Nat.div_eq_of_lt h1])
  have e:(i - s) / s % 2=0:=by
   have:i / s=(i - s) / s+1:=by rw [←Nat.add_div_right _ hs,Nat.sub_add_cancel (by omega)]
   omega
  rw [hm (i - s) (by omega),decide_eq_true e,decide_eq_false h1]
  simp
theorem aBw{m:BitVec 64}{s:Nat}(h:∀i:Fin 64,m.getLsbD i.val=decide (i.val / s % 2=0)):∀i,i < 64→m.getLsbD i=decide (i / s % 2=0):=fun i hi=>h ⟨i,hi⟩
theorem aEn(x:BitVec 64):Rev x (revB x):=by
 intro j hj
 simp only [revB,revBytes,BitVec.getLsbD_or,BitVec.getLsbD_ushiftRight,BitVec.getLsbD_shiftLeft,decide_eq_true hj,Bool.true_and]
 have s1:∀(x:BitVec 64) i,i < 64→(yT 6148914691236517205#64 1 x).getLsbD i=x.getLsbD (if i / 1 % 2=0 then i+1 else i - 1):=fun x i hi=>zC hi (by omega) (aBw (by decide))
 have s2:∀(x:BitVec 64) i,i < 64→(yT 3689348814741910323#64 2 x).getLsbD i=x.getLsbD (if i / 2 % 2=0 then i+2 else i - 2):=fun x i hi=>zC hi (by omega) (aBw (by decide))
 have s4:∀(x:BitVec 64) i,i < 64→(yT 1085102592571150095#64 4 x).getLsbD i=x.getLsbD (if i / 4 % 2=0 then i+4 else i - 4):=fun x i hi=>zC hi (by omega) (aBw (by decide))
 have s8:∀(x:BitVec 64) i,i < 64→(yT 71777214294589695#64 8 x).getLsbD i=x.getLsbD (if i / 8 % 2=0 then i+8 else i - 8):=fun x i hi=>zC hi (by omega) (aBw (by decide))
 have s16:∀(x:BitVec 64) i,i < 64→(yT 281470681808895#64 16 x).getLsbD i=x.getLsbD (if i / 16 % 2=0 then i+16 else i - 16):=fun x i hi=>zC hi (by omega) (aBw (by decide))
 have last:∀y:BitVec 64,(y.getLsbD (32+j)||!decide (j < 32)&&y.getLsbD (j - 32))=y.getLsbD (if j < 32 then 32+j else j - 32):=fun y=>by
  by_cases h:j < 32
  ·simp [h]
  ·rw [BitVec.getLsbD_of_ge y (32+j) (by omega)];simp [h]
 rw [last]
 have hl:(if j < 32 then 32+j else j - 32) < 64:=by split <;> omega
 generalize hk:(if j < 32 then 32+j else j - 32)=k at hl
 rw [s16 _ k hl]
 have hl2:(if k / 16 % 2=0 then k+16 else k - 16) < 64:=by split <;> omega
 generalize hk2:(if k / 16 % 2=0 then k+16 else k - 16)=k2 at hl2
 rw [s8 _ k2 hl2]
 have hl3:(if k2 / 8 % 2=0 then k2+8 else k2 - 8) < 64:=by split <;> omega
 generalize hk3:(if k2 / 8 % 2=0 then k2+8 else k2 - 8)=k3 at hl3
 rw [s4 _ k3 hl3]
 have hl4:(if k3 / 4 % 2=0 then k3+4 else k3 - 4) < 64:=by split <;> omega
 generalize hk4:(if k3 / 4 % 2=0 then k3+4 else k3 - 4)=k4 at hl4
 rw [s2 _ k4 hl4]
 have hl5:(if k4 / 2 % 2=0 then k4+2 else k4 - 2) < 64:=by split <;> omega
 generalize hk5:(if k4 / 2 % 2=0 then k4+2 else k4 - 2)=k5 at hl5
 rw [s1 _ k5 hl5]
 congr 1
 have key:∀j:Fin 64,(let k:=if j.val < 32 then 32+j.val else j.val - 32
  let k2:=if k / 16 % 2=0 then k+16 else k - 16
  let k3:=if k2 / 8 % 2=0 then k2+8 else k2 - 8
  let k4:=if k3 / 4 % 2=0 then k3+4 else k3 - 4
  let k5:=if k4 / 2 % 2=0 then k4+2 else k4 - 2
  if k5 / 1 % 2=0 then k5+1 else k5 - 1)=63 - j.val:=by decide
 have:=key ⟨j,hj⟩
 simp only [hk,hk2,hk3,hk4,hk5] at this
 exact this
structure FlipI (x0:BitVec 64) (i:Nat) (x y:BitVec 64):Prop where
 x:x=x0 >>> i
 lt:y.toNat < 2 ^ i
 y:∀j,j < i→y.getLsbD j=x0.getLsbD (i - 1 - j)
theorem aMd(x0:BitVec 64):FlipI x0 0 x0 0#64:=⟨by simp,by simp,fun j hj=>by omega⟩
theorem aMc{x0 x y:BitVec 64}{i:Nat}(hi:i < 64)(h:FlipI x0 i x y):FlipI x0 (i+1) (x >>> 1) (y * 2#64+(x &&& 1#64)):=by
 have hy2:(y * 2#64+(x &&& 1#64))=(y <<< 1) ||| (x &&& 1#64):=by
  rw [←BitVec.add_eq_or_of_and_eq_zero]
  ·congr 1
   rw [BitVec.shiftLeft_eq_mul_twoPow];rfl
  ·apply BitVec.eq_of_getLsbD_eq
   intro k hk
   simp only [BitVec.getLsbD_and,BitVec.getLsbD_shiftLeft,BitVec.getLsbD_zero]
   by_cases h0:k < 1
   ·simp [h0]
   ·have:(1#64).getLsbD k=false:=by
     have:∀k:Fin 64,¬k.val < 1→(1#64).getLsbD k.val=false:=by decide
     exact this ⟨k,hk⟩ h0
    simp [this]
 have hget:∀j,j < 64→(y * 2#64+(x &&& 1#64)).getLsbD j=if j=0 then x.getLsbD 0 else y.getLsbD (j - 1):=fun j hj=>by
  rw [hy2]
  simp only [BitVec.getLsbD_or,BitVec.getLsbD_and,BitVec.getLsbD_shiftLeft]
  by_cases h0:j=0
  ·subst h0;simp
  ·have:(1#64).getLsbD j=false:=by
    have:∀k:Fin 64,¬k.val=0→(1#64).getLsbD k.val=false:=by decide
    exact this ⟨j,hj⟩ h0
   rw [this,if_neg h0]
   simp [hj]
   intro;omega
 refine ⟨by rw [h.x];simp [BitVec.shiftRight_add],?_,fun j hj=>?_⟩
 ·have h1:(x &&& 1#64).toNat≤1:=by
   rw [BitVec.toNat_and];exact Nat.and_le_right
  have h2:(y * 2#64).toNat≤y.toNat * 2:=by rw [BitVec.toNat_mul];exact Nat.mod_le _ _
  have h3:(y * 2#64+(x &&& 1#64)).toNat≤(y * 2#64).toNat+(x &&& 1#64).toNat:=by rw [BitVec.toNat_add];exact Nat.mod_le _ _
  have:=h.lt
  rw [Nat.pow_succ];omega
 ·rw [hget j (by omega)]
  by_cases h0:j=0
  ·subst h0;rw [if_pos rfl,h.x,BitVec.getLsbD_ushiftRight];congr 1
  ·rw [if_neg h0,h.y (j - 1) (by omega)];congr 1;omega
theorem aPp{x0 x y:BitVec 64}(h:FlipI x0 64 x y):Rev x0 y:=fun j hj=>by rw [h.y j hj]
theorem tdiv2_U(x:BitVec 64):IntKind.wrap .u64 (Int.tdiv (U x) 2)=U (x >>> 1):=aHp x 1
theorem tmod2_U(x:BitVec 64):Int.tmod (U x) 2=U (x &&& 1#64):=by
 unfold U
 rw [BitVec.toNat_and,show (1#64).toNat=2 ^ 1 - 1 from rfl,Nat.and_two_pow_sub_one_eq_mod,Int.tmod_eq_emod_of_nonneg (by omega)]
 simp
theorem mul2_U(x:BitVec 64):IntKind.wrap .u64 (U x * 2)=U (x * 2#64):=mul_U x 2#64
def In(x:Int):Prop:=-9223372036854775808≤x∧x < 9223372036854775808
def upI(k:Int):Int:=k+9223372036854775808
def qC(o k:Int):Int:=
 if o=1 then upI k
 else if o=2 then 18446744073709551615 - upI k
 else if o=3 then (if k < 0 then -2 * k - 1 else 2 * k)
 else if o=4 then U (revB (BitVec.ofInt 64 k))
 else if o=5 then upI k / 2+(if k % 2=1 then 9223372036854775808 else 0)
 else if o=6 then upI k % 4294967296 * 4294967296+upI k / 4294967296
 else U (mixB (BitVec.ofInt 64 k))
theorem aGs{a b:Int}(ha:In a)(hb:In b)(h:BitVec.ofInt 64 a=BitVec.ofInt 64 b):a=b:=by
 have:=congrArg BitVec.toInt h
 rw [BitVec.toInt_ofInt,BitVec.toInt_ofInt] at this
 unfold In at *
 simp [Int.bmod] at this
 omega
theorem aPu{o a b:Int}(ha:In a)(hb:In b)(h:qC o a=qC o b):a=b:=by
 unfold qC at h
 have ha':=ha;have hb':=hb
 unfold In at ha' hb'
 unfold upI at h
 split at h
 ·omega
 split at h
 ·omega
 split at h
 ·split at h <;> split at h <;> omega
 split at h
 ·exact aGs ha hb (rev_inj (aEn _) (by rw [aKz h];exact aEn _))
 split at h
 ·split at h <;> split at h <;> omega
 split at h
 ·omega
 ·exact aGs ha hb (mixB_inj (aKz h))
theorem aCz{o k:Int}(hk:In k):0≤qC o k∧qC o k < 18446744073709551616:=by
 unfold qC upI
 unfold In at hk
 split
 ·omega
 split
 ·omega
 split
 ·split <;> omega
 split
 ·exact U_lt _
 split
 ·split <;> omega
 split
 ·omega
 ·exact U_lt _
def cmpI(o a b:Int):Int:=if 1≤o∧o≤7 then (if qC o a < qC o b then -1 else if qC o b < qC o a then 1 else 0) else 0
theorem xor_top(x:BitVec 64):x ^^^ 9223372036854775808#64=x+9223372036854775808#64:=by
 apply BitVec.eq_of_getLsbD_eq
 intro i hi
 rw [BitVec.getLsbD_xor]
 have e:(x+9223372036854775808#64).getLsbD i=((2 ^ 63+x.toNat) % 2 ^ 64).testBit i:=by
  rw [BitVec.getLsbD,BitVec.toNat_add,Nat.add_comm];rfl
 rw [e,Nat.testBit_mod_two_pow,decide_eq_true hi,Bool.true_and]
 have ht:∀k:Fin 64,(9223372036854775808#64).getLsbD k.val=decide (k.val=63):=by decide
 rw [ht ⟨i,hi⟩]
 by_cases h:i=63
 ·subst h
  rw [Nat.testBit_two_pow_add_eq]
  simp [BitVec.getLsbD]
 ·rw [Nat.testBit_two_pow_add_gt (by omega)]
  simp [h,BitVec.getLsbD]
theorem vN(x:Int):U (BitVec.ofInt 64 x)=x % 18446744073709551616:=by rw [←uM,qR]
theorem upB_U{k:Int}(hk:In k):bXor .u64 (IntKind.wrap .u64 k) 9223372036854775808=upI k:=by
 rw [uM,show (9223372036854775808:Int)=U 9223372036854775808#64 from rfl,aJg,xor_top,←add_U,vN,qR]
 unfold upI In at *
 rw [show U 9223372036854775808#64=9223372036854775808 from rfl]
 omega
theorem upR_U{k:Int}(hk:In k):IntKind.wrap .u64 (IntKind.wrap .u64 k+9223372036854775808)=upI k:=by
 rw [qR,qR]
 unfold upI In at *
 omega
theorem not_U{x:Int}(h0:0≤x)(h1:x < 18446744073709551616):bXor .u64 (IntKind.max .u64) x=18446744073709551615 - x:=by
 have hx:U (BitVec.ofInt 64 x)=x:=by rw [vN];omega
 have hm:IntKind.max .u64=U (BitVec.allOnes 64):=by decide
 rw [hm,←hx,aJg,BitVec.allOnes_xor]
 unfold U
 rw [BitVec.toNat_not]
 have:=(BitVec.ofInt 64 x).isLt
 omega
theorem size_U{k:Int}(hk:In k):IntKind.wrap .u64 (bXor .i64 (IntKind.wrap .i64 (k * 2 ^ (min (1:Int).toNat (IntKind.bits .i64)))) (Int.fdiv k (2 ^ (min (63:Int).toNat (IntKind.bits .i64)))))=if k < 0 then -2 * k - 1 else 2 * k:=by
 have e1:(2:Int) ^ (min (1:Int).toNat (IntKind.bits .i64))=2:=by decide
 have e2:(2:Int) ^ (min (63:Int).toNat (IntKind.bits .i64))=9223372036854775808:=by decide
 rw [e1,e2]
 have key:∀x y:Int,IntKind.wrap .u64 (bXor .i64 x y)=U (BitVec.ofInt 64 x ^^^ BitVec.ofInt 64 y):=fun x y=>by
  unfold bXor
  rw [show IntKind.bits .i64=64 from rfl]
  have:=(BitVec.ofInt 64 x ^^^ BitVec.ofInt 64 y).isLt
  unfold U
  generalize (BitVec.ofInt 64 x ^^^ BitVec.ofInt 64 y).toNat=n at this ⊢
  rw [qR]
  simp [IntKind.wrap,IntKind.bits,IntKind.signed]
  omega
 rw [key]
 have hw:BitVec.ofInt 64 (IntKind.wrap .i64 (k * 2))=BitVec.ofInt 64 (k * 2):=by
  apply aKz
  rw [vN,vN]
  simp [IntKind.wrap,IntKind.bits,IntKind.signed]
  omega
 rw [hw]
 unfold In at hk
 rw [Int.fdiv_eq_ediv_of_nonneg _ (by omega)]
 by_cases h:k < 0
 ·rw [if_pos h,show k / 9223372036854775808=-1 by omega,show BitVec.ofInt 64 (-1)=BitVec.allOnes 64 from rfl,BitVec.xor_allOnes]
  have:U (~~~ BitVec.ofInt 64 (k * 2))=18446744073709551615 - U (BitVec.ofInt 64 (k * 2)):=by
   unfold U;rw [BitVec.toNat_not]
   have:=(BitVec.ofInt 64 (k * 2)).isLt
   omega
  rw [this,vN];omega
 ·rw [if_neg h,show k / 9223372036854775808=0 by omega,show BitVec.ofInt 64 0=0#64 from rfl,BitVec.xor_zero,vN];omega
theorem rot_U(x:BitVec 64){s:Nat}(h0:0 < s)(hs:s < 64):U ((x <<< s) ||| (x >>> (64 - s)))=((x.toNat % 2 ^ (64 - s) * 2 ^ s+x.toNat / 2 ^ (64 - s):Nat):Int):=by
 unfold U
 rw [BitVec.toNat_or,BitVec.toNat_shiftLeft,BitVec.toNat_ushiftRight,Nat.shiftLeft_eq,Nat.shiftRight_eq_div_pow]
 have e:x.toNat * 2 ^ s % 2 ^ 64=2 ^ s * (x.toNat % 2 ^ (64 - s)):=by
  have:(2:Nat) ^ 64=2 ^ (64 - s) * 2 ^ s:=by rw [←Nat.pow_add];congr 1;omega
  rw [this,Nat.mul_mod_mul_right,Nat.mul_comm]
 have hlt:x.toNat / 2 ^ (64 - s) < 2 ^ s:=by
  apply Nat.div_lt_of_lt_mul
  rw [←Nat.pow_add,show 64 - s+s=64 by omega]
  exact x.isLt
 rw [e,←Nat.two_pow_add_eq_or_of_lt hlt,Nat.mul_comm]
theorem shr_1(x:BitVec 64):Int.fdiv (U x) (2 ^ (min (1:Int).toNat (IntKind.bits .u64)))=U (x >>> 1):=aDf x 1 (by omega)
theorem shl_1(x:BitVec 64):IntKind.wrap .u64 (U x * 2 ^ (min (1:Int).toNat (IntKind.bits .u64)))=U (x <<< 1):=aEj x 1 (by omega)
theorem shr_2(x:BitVec 64):Int.fdiv (U x) (2 ^ (min (2:Int).toNat (IntKind.bits .u64)))=U (x >>> 2):=aDf x 2 (by omega)
theorem shl_2(x:BitVec 64):IntKind.wrap .u64 (U x * 2 ^ (min (2:Int).toNat (IntKind.bits .u64)))=U (x <<< 2):=aEj x 2 (by omega)
theorem shr_4(x:BitVec 64):Int.fdiv (U x) (2 ^ (min (4:Int).toNat (IntKind.bits .u64)))=U (x >>> 4):=aDf x 4 (by omega)
theorem shl_4(x:BitVec 64):IntKind.wrap .u64 (U x * 2 ^ (min (4:Int).toNat (IntKind.bits .u64)))=U (x <<< 4):=aEj x 4 (by omega)
theorem shr_8(x:BitVec 64):Int.fdiv (U x) (2 ^ (min (8:Int).toNat (IntKind.bits .u64)))=U (x >>> 8):=aDf x 8 (by omega)
theorem shl_8(x:BitVec 64):IntKind.wrap .u64 (U x * 2 ^ (min (8:Int).toNat (IntKind.bits .u64)))=U (x <<< 8):=aEj x 8 (by omega)
theorem shr_16(x:BitVec 64):Int.fdiv (U x) (2 ^ (min (16:Int).toNat (IntKind.bits .u64)))=U (x >>> 16):=aDf x 16 (by omega)
theorem shl_16(x:BitVec 64):IntKind.wrap .u64 (U x * 2 ^ (min (16:Int).toNat (IntKind.bits .u64)))=U (x <<< 16):=aEj x 16 (by omega)
theorem shr_32(x:BitVec 64):Int.fdiv (U x) (2 ^ (min (32:Int).toNat (IntKind.bits .u64)))=U (x >>> 32):=aDf x 32 (by omega)
theorem shl_32(x:BitVec 64):IntKind.wrap .u64 (U x * 2 ^ (min (32:Int).toNat (IntKind.bits .u64)))=U (x <<< 32):=aEj x 32 (by omega)
theorem and_a(x:BitVec 64):bAnd .u64 (U x) 6148914691236517205=U (x &&& 6148914691236517205#64):=aBg x 6148914691236517205#64
theorem and_b(x:BitVec 64):bAnd .u64 (U x) 3689348814741910323=U (x &&& 3689348814741910323#64):=aBg x 3689348814741910323#64
theorem and_c(x:BitVec 64):bAnd .u64 (U x) 1085102592571150095=U (x &&& 1085102592571150095#64):=aBg x 1085102592571150095#64
theorem and_d(x:BitVec 64):bAnd .u64 (U x) 71777214294589695=U (x &&& 71777214294589695#64):=aBg x 71777214294589695#64
theorem and_e(x:BitVec 64):bAnd .u64 (U x) 281470681808895=U (x &&& 281470681808895#64):=aBg x 281470681808895#64
def zA(x i:Nat):Nat:=if i≤32 then x % 2 ^ i * 4294967296 else x % 4294967296 * 4294967296+x / 4294967296 % 2 ^ (i - 32)
theorem aLc{x i:Nat}(hi:i < 64):zA x (i+1)=zA x i+x / 2 ^ i % 2 * 2 ^ ((i+32) % 64):=by
 unfold zA
 rcases Nat.lt_trichotomy i 32 with h | h | h
 ·rw [if_pos (by omega),if_pos (by omega),Nat.mod_pow_succ,show (i+32) % 64=i+32 by omega,Nat.pow_add]
  rw [Nat.add_mul,show (2:Nat) ^ 32=4294967296 from rfl,Nat.mul_comm (2 ^ i),Nat.mul_assoc]
 ·subst h
  rw [if_neg (by omega),if_pos (by omega)]
  simp
 ·rw [if_neg (by omega),if_neg (by omega),show i+1 - 32=(i - 32)+1 by omega,Nat.mod_pow_succ,show (i+32) % 64=i - 32 by omega]
  have:x / 4294967296 / 2 ^ (i - 32)=x / 2 ^ i:=by
   rw [Nat.div_div_eq_div_mul,show (4294967296:Nat)=2 ^ 32 from rfl,←Nat.pow_add,show 32+(i - 32)=i by omega]
  rw [this,Nat.mul_comm (2 ^ (i - 32))]
  omega
theorem turnY_lt{x i:Nat}(_hx:x < 18446744073709551616)(_hi:i≤64):zA x i < 18446744073709551616:=by
 unfold zA
 split
 ·rename_i h
  have:x % 2 ^ i < 2 ^ i:=Nat.mod_lt _ (Nat.two_pow_pos _)
  have:2 ^ i≤2 ^ 32:=Nat.pow_le_pow_right (by omega) h
  omega
 ·have h1:x / 4294967296 % 2 ^ (i - 32)≤x / 4294967296:=Nat.mod_le _ _
  omega
theorem turnY_64{x:Nat}(hx:x < 18446744073709551616):zA x 64=x % 4294967296 * 4294967296+x / 4294967296:=by
 unfold zA
 rw [if_neg (by omega),Nat.mod_eq_of_lt (a:=x / 4294967296) (by omega)]
def isO(o:Int):Bool:=decide (1≤o)&&decide (o≤7)
def aGu(o:Int):ByteArray:=
 if o=1 then ⟨#[117,112]⟩ else if o=2 then ⟨#[100,111,119,110]⟩ else if o=3 then ⟨#[115,105,122,101]⟩ else if o=4 then ⟨#[98,105,116,115]⟩
 else if o=5 then ⟨#[101,118,101,110]⟩ else if o=6 then ⟨#[108,111,119]⟩ else if o=7 then ⟨#[109,105,120]⟩ else ⟨#[]⟩
theorem aCu{o:Int}(h:isO o=true):o=1∨o=2∨o=3∨o=4∨o=5∨o=6∨o=7:=by
 simp [isO] at h;omega
theorem aAy(o:Int):((aGu o).toList==(⟨#[]⟩:ByteArray).toList)=!isO o:=by
 rw [ByteArray.toList_eq,ByteArray.toList_eq]
 cases h:isO o
 ·have h':¬(1≤o∧o≤7):=fun hh=>by simp [isO,hh.1,hh.2] at h
  unfold aGu
  rw [if_neg (by omega),if_neg (by omega),if_neg (by omega),if_neg (by omega),if_neg (by omega),if_neg (by omega),if_neg (by omega)]
  rfl
 ·rcases aCu h with rfl | rfl | rfl | rfl | rfl | rfl | rfl <;> decide
end Go.Sh
