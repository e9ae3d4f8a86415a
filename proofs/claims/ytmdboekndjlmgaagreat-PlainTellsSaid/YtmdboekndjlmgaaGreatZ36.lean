/-
  What the document's predicates take, and keep.
-/
import Derived.Test.YtmdboekndjlmgaaGreatZ35
set_option maxRecDepth 100000
set_option maxHeartbeats 6400000
namespace Go.Proofs.YtmdboekndjlmgaaGreat
open Go Go.Sh Go.RowKit Tryz
variable {w:World}{R:EW}
theorem aQe(a b:BitVec 64):b &&& ~~~a=0#64↔a ||| b=a:=by
 constructor
 ·intro h
  apply BitVec.eq_of_getLsbD_eq
  intro i hi
  have h1:=congrArg (fun v=>v.getLsbD i) h
  simp only [BitVec.getLsbD_and,BitVec.getLsbD_not,BitVec.getLsbD_zero] at h1
  rw [BitVec.getLsbD_or]
  cases ha:a.getLsbD i <;> cases hb:b.getLsbD i <;> simp_all
 ·intro h
  apply BitVec.eq_of_getLsbD_eq
  intro i hi
  have h1:=congrArg (fun v=>v.getLsbD i) h
  simp only [BitVec.getLsbD_or] at h1
  rw [BitVec.getLsbD_and,BitVec.getLsbD_not,BitVec.getLsbD_zero]
  cases ha:a.getLsbD i <;> cases hb:b.getLsbD i <;> simp_all
theorem vN(x:BitVec 64):BitVec.ofInt 64 (U x)=x:=by
 apply BitVec.eq_of_toNat_eq
 unfold U
 simp
theorem aQd(x y:BitVec 64):aEb .u64 (U x) (U y)=U (x &&& ~~~y):=by
 unfold aEb
 show IntKind.wrap .u64 ((BitVec.ofInt 64 (U x) &&& ~~~(BitVec.ofInt 64 (U y))).toNat:Int)=_
 rw [vN,vN,qR]
 have:=(x &&& ~~~y).isLt
 unfold U
 omega
theorem bits_may(a c:Int):((aEb .u64 (IntKind.wrap .u64 c) (IntKind.wrap .u64 a))==0)=decide (BitVec.ofInt 64 a ||| BitVec.ofInt 64 c=BitVec.ofInt 64 a):=by
 rw [uM,uM,aQd,Bool.eq_iff_iff,beq_iff_eq,decide_eq_true_eq,←aQe]
 constructor
 ·intro h;exact aKz h
 ·intro h;rw [h];rfl
theorem aMr(x a c:Int):((bAnd .u64 (IntKind.wrap .u64 x) (IntKind.wrap .u64 a))==(IntKind.wrap .u64 c))=decide (BitVec.ofInt 64 x &&& BitVec.ofInt 64 a=BitVec.ofInt 64 c):=by
 rw [uM,uM,uM,aBg,Bool.eq_iff_iff,beq_iff_eq,decide_eq_true_eq]
 constructor
 ·intro h;exact aKz h
 ·intro h;rw [h]
theorem aOf{k a c:Int}{f:Bool}(h:∀w',Ext w w'→R (.returned (.bool (qJ k a c))) w'):Calls prog 138 #[.agg #[.int .u8 k,.int .i64 a,.int .i64 c,.bool f]] w R:=by
 refine sh138_ok ?_
 unfold sh138
 refine rK fun b2 w2 e2 X2 l2=>?_
 have h:=h w2 e2
 refine ⟨_,X2.cell (i:=0) (pU _ _) rfl,?_⟩
 unfold qJ at h
 refine pO (fun z=>?_) fun z1=>?_
 ·obtain rfl:k=1:=by simpa using z
  intro K10
  refine ⟨_,X2.cell (i:=1) (pU _ _) rfl,?_⟩
  refine pO (fun y=>⟨_,X2.cell (i:=2) (pU _ _) rfl,?_⟩) fun y=>?_
  ·have y:a=0:=by simpa using y
   simp -zeta -zetaHave only [K10]
   rw [if_pos rfl,show decide (a=0∧c=0)=(c==0) by rw [Bool.eq_iff_iff];simp [y]] at h
   exact h
  ·have y:a≠0:=by simpa using y
   rw [if_pos rfl,show decide (a=0∧c=0)=false by simp [y]] at h
   exact h
 have z1:k≠1:=by simpa using z1
 rw [if_neg z1] at h
 intro K15
 refine pO (fun z=>?_) fun z2=>?_
 ·have z:k=2:=by simpa using z
  rw [if_pos (.inl z)] at h
  exact h
 have z2:k≠2:=by simpa using z2
 simp -zeta -zetaHave only [K15]
 refine pO (fun z=>?_) fun z3=>?_
 ·have z:k=3:=by simpa using z
  rw [if_pos (.inr z)] at h
  exact h
 have z3:k≠3:=by simpa using z3
 rw [if_neg (by omega)] at h
 refine pO (fun z=>?_) fun z4=>?_
 ·obtain rfl:k=4:=by simpa using z
  rw [if_pos rfl] at h
  intro K18
  refine ⟨_,X2.cell (i:=1) (pU _ _) rfl,?_⟩
  refine pO (fun y=>⟨_,X2.cell (i:=2) (pU _ _) rfl,?_⟩) fun y=>?_
  ·have y:=of_decide_eq_true y
   refine pO (fun x=>⟨_,X2.cell (i:=2) (pU _ _) rfl,_,X2.cell (i:=1) (pU _ _) rfl,?_⟩) fun x=>?_
   ·have x:=of_decide_eq_true x
    simp -zeta -zetaHave only [K18]
    rw [show decide (1≤a∧0≤c∧c < a)=decide (c < a) by rw [Bool.eq_iff_iff];simp;omega] at h
    exact h
   ·have x:=of_decide_eq_false x
    rw [show decide (1≤a∧0≤c∧c < a)=false by simp;omega] at h
    exact h
  ·have y:=of_decide_eq_false y
   rw [show decide (1≤a∧0≤c∧c < a)=false by simp;omega] at h
   exact h
 have z4:k≠4:=by simpa using z4
 rw [if_neg z4] at h
 refine pO (fun z=>?_) fun z5=>?_
 ·obtain rfl:k=5:=by simpa using z
  rw [if_pos rfl] at h
  refine ⟨_,X2.cell (i:=2) (pU _ _) rfl,_,X2.cell (i:=1) (pU _ _) rfl,?_⟩
  rw [bits_may];exact h
 have z5:k≠5:=by simpa using z5
 rw [if_neg z5] at h
 exact h
theorem rest_mod{x a:Int}(hx:In x)(ha:In a)(h:1≤a):(x.tmod a < 0→IntKind.wrap .i64 (x.tmod a+a)=x % a)∧(¬x.tmod a < 0→x.tmod a=x % a):=by
 have h0:=Int.emod_nonneg x (show a≠0 by omega)
 have h1:=Int.emod_lt_of_pos x (show 0 < a by omega)
 have ht:=Int.tmod_eq_emod (a:=x) (b:=a)
 unfold In at hx ha
 split at ht
 ·have ht:x.tmod a=x % a:=by simpa using ht
  rw [ht]
  exact ⟨fun h=>by omega,fun _=>rfl⟩
 ·have ht:x.tmod a=x % a - a:=by
   rw [ht]
   have:((a.natAbs:Nat):Int)=a:=by omega
   rw [this]
  rw [ht]
  exact ⟨fun _=>by rw [qB (by omega) (by omega)];omega,fun h=>by omega⟩
theorem c_r6rest{x a:Int}(hx:In x)(ha:In a)(h1:1≤a)(h:R (.returned (.int .i64 (x % a))) w):Calls prog 164 #[.int .i64 x,.int .i64 a] w R:=by
 refine sh164_ok ?_
 unfold sh164
 have:=rest_mod hx ha h1
 refine ⟨by omega,pO (fun z=>?_) fun z=>?_⟩
 ·rw [this.1 (of_decide_eq_true z)];exact h
 ·rw [this.2 (of_decide_eq_false z)];exact h
theorem aPy{k a c:Int}{f:Bool}{x:Pr}(ha:In a)(hc:In c)(hx:In x.1)(hp:qJ k a c=true)(h:∀w',Ext w w'→R (.returned (.bool (sV k a c x))) w'):
  Calls prog 139 #[.agg #[.int .u8 k,.int .i64 a,.int .i64 c,.bool f],.agg #[.int .i64 x.1,.int .i64 x.2]] w R:=by
 refine sh139_ok ?_
 unfold sh139
 refine rK fun b2 w2 e2 X2 l2=>rK fun b3 w3 e3 X3 l3=>?_
 have X2:=X2.ext e3
 have h:=fun w' (e:Ext w3 w')=>h w' ((e2.trans e3).trans e)
 refine ⟨_,X2.cell (i:=0) (pU _ _) rfl,?_⟩
 unfold sV at h
 refine pO (fun z=>?_) fun z2=>?_
 ·obtain rfl:k=2:=by simpa using z
  intro K14
  have h:=h w3 (pR _)
  rw [if_pos rfl] at h
  refine ⟨_,X2.cell (i:=1) (pU _ _) rfl,_,X3.cell (i:=0) (pU _ _) rfl,?_⟩
  refine pO (fun y=>⟨_,X3.cell (i:=0) (pU _ _) rfl,_,X2.cell (i:=2) (pU _ _) rfl,?_⟩) fun y=>?_
  ·have y:=of_decide_eq_true y
   simp -zeta -zetaHave only [K14]
   rw [show decide (a≤x.1∧x.1≤c)=decide (x.1≤c) by rw [Bool.eq_iff_iff];simp;omega] at h
   exact h
  ·have y:=of_decide_eq_false y
   rw [show decide (a≤x.1∧x.1≤c)=false by simp;omega] at h
   exact h
 have z2:k≠2:=by simpa using z2
 refine pO (fun z=>?_) fun z3=>?_
 ·obtain rfl:k=3:=by simpa using z
  intro K14
  have h:=h w3 (pR _)
  rw [if_neg (by omega),if_pos rfl] at h
  refine ⟨_,X2.cell (i:=1) (pU _ _) rfl,_,X3.cell (i:=1) (pU _ _) rfl,?_⟩
  refine pO (fun y=>⟨_,X3.cell (i:=1) (pU _ _) rfl,_,X2.cell (i:=2) (pU _ _) rfl,?_⟩) fun y=>?_
  ·have y:=of_decide_eq_true y
   simp -zeta -zetaHave only [K14]
   rw [show decide (a≤x.2∧x.2≤c)=decide (x.2≤c) by rw [Bool.eq_iff_iff];simp;omega] at h
   exact h
  ·have y:=of_decide_eq_false y
   rw [show decide (a≤x.2∧x.2≤c)=false by simp;omega] at h
   exact h
 have z3:k≠3:=by simpa using z3
 refine pO (fun z=>?_) fun z4=>?_
 ·obtain rfl:k=4:=by simpa using z
  have hp1:1≤a:=by
   have:decide (1≤a∧0≤c∧c < a)=true:=hp
   rw [decide_eq_true_eq] at this
   exact this.1
  have e34:=pT w3
  refine ⟨fun w'=>Ext w3.drew w',pR _,_,fun w' e=>((X3.ext e34).ext e).cell (i:=0) (pU _ _) rfl,_,fun w' e=>((X2.ext e34).ext e).cell (i:=1) (pU _ _) rfl,_,fun w' e=>((X2.ext e34).ext e).cell (i:=2) (pU _ _) rfl,?_⟩
  refine pP call164 (c_r6rest hx ha hp1 (pN ⟨_,rfl,pR _,?_⟩))
  have h:=h _ e34
  rw [if_neg (by omega),if_neg (by omega),if_pos rfl] at h
  exact h
 have z4:k≠4:=by simpa using z4
 refine pO (fun z=>?_) fun z5=>?_
 ·obtain rfl:k=5:=by simpa using z
  have h:=h w3 (pR _)
  rw [if_neg (by omega),if_neg (by omega),if_neg (by omega),if_pos rfl] at h
  refine ⟨_,X3.cell (i:=0) (pU _ _) rfl,_,X2.cell (i:=1) (pU _ _) rfl,_,X2.cell (i:=2) (pU _ _) rfl,?_⟩
  rw [aMr];exact h
 have z5:k≠5:=by simpa using z5
 have h:=h w3 (pR _)
 rw [if_neg z2,if_neg z3,if_neg z4,if_neg z5] at h
 exact h
theorem aPz{k a c:Int}{f:Bool}{x:Pr}(ha:In a)(hc:In c)(hx:In x.1)(h:∀w',Ext w w'→R (.returned (.bool (qJ k a c&&(sV k a c x !=f)))) w'):
  Calls prog 92 #[.agg #[.int .u8 k,.int .i64 a,.int .i64 c,.bool f],.agg #[.int .i64 x.1,.int .i64 x.2]] w R:=by
 refine sh92_ok ?_
 unfold sh92
 refine rK fun b2 w2 e2 X2 l2=>rK fun b3 w3 e3 X3 l3=>?_
 intro K13
 have e34:=pT w3
 have Y2:∀w',Ext w3.drew w'→Blk w' b2 _ _:=fun w' e=>((X2.ext e3).ext e34).ext e
 have Y3:∀w',Ext w3.drew w'→Blk w' b3 _ _:=fun w' e=>(X3.ext e34).ext e
 have E:=(e2.trans e3).trans e34
 refine ⟨fun w'=>Ext w3.drew w',pR _,_,fun w' e=>(Y2 w' e).cell (i:=0) (pU _ _) rfl,_,fun w' e=>(Y2 w' e).cell (i:=1) (pU _ _) rfl,_,fun w' e=>(Y2 w' e).cell (i:=2) (pU _ _) rfl,_,fun w' e=>(Y2 w' e).cell (i:=3) (pU _ _) rfl,?_⟩
 refine pP call138 (aOf fun w4 e4=>pN ⟨_,rfl,e4,?_⟩)
 cases hp:qJ k a c with
 | false=>
  have h:=h w4 (E.trans e4)
  rw [hp] at h
  exact pY rfl h
 | true=>
  refine pZ rfl ⟨_,fun w' e=>(Y2 w' e).cell (i:=0) (pU _ _) rfl,_,fun w' e=>(Y2 w' e).cell (i:=1) (pU _ _) rfl,_,fun w' e=>(Y2 w' e).cell (i:=2) (pU _ _) rfl,_,fun w' e=>(Y2 w' e).cell (i:=3) (pU _ _) rfl,_,fun w' e=>(Y3 w' e).cell (i:=0) (pU _ _) rfl,_,fun w' e=>(Y3 w' e).cell (i:=1) (pU _ _) rfl,_,fun w' e=>(Y2 w' e).cell (i:=3) (pU _ _) rfl,?_⟩
  refine pP call139 (aPy ha hc hx hp fun w5 e5=>pN ⟨_,rfl,e4.trans e5,?_⟩)
  have h:=h w5 ((E.trans e4).trans e5)
  rw [hp,Bool.true_and] at h
  exact h
theorem c_r6keep{k a c:Int}{f:Bool}{l:List Pr}{q:OA}{n c':Nat}(ha:In a)(hc:In c)(hl:Cs w q (prs l))(hn:l.length=n)(hm:n≤1000000)(hI:InP l)
  (h:∀p n' c' w',OwnP w' w.heap.size p n' c' (yU k a c f l)→Ext w w'→R (.returned (.slice p n' c')) w') :
  Calls prog 46 #[.agg #[.int .u8 k,.int .i64 a,.int .i64 c,.bool f],.slice q n c'] w R:=by
 refine sh46_ok ?_
 unfold sh46
 refine rK fun b2 w2 e2 X2 l2=>?_
 have s2:=e2.size
 let F:Pr→Bool:=fun x=>qJ k a c&&(sV k a c x !=f)
 have hF:l.filter F=yU k a c f l:=by
  unfold yU
  cases hp:qJ k a c with
  | false=>simp only [F,hp,Bool.false_and,cond_false];exact List.filter_eq_nil_iff.2 fun a _=>(by simp)
  | true=>simp only [F,hp,Bool.true_and,cond_true]
 refine ⟨fun vs w'=>∃(k:Nat) (p:OA) (n1 c1:Nat),vs=[.slice p n1 c1,.int .i64 (k:Int)]∧k≤n∧Ext w2 w'∧OwnP w' w2.heap.size p n1 c1 ((l.take k).filter F),fun vs _=>match vs with | [_,.int _ i]=>n - i.toNat | _=>0,⟨0,none,0,0,rfl,Nat.zero_le _,pR _,qH _ _⟩,?_⟩
 rintro p n1 c1 i_ _ w3 ⟨k1,p0,n0,c0,hv,hk,e3,ho⟩
 simp only [List.cons.injEq,Value.int.injEq,Value.slice.injEq,true_and,and_true] at hv
 obtain ⟨⟨rfl,rfl,rfl⟩,rfl⟩:=hv
 refine pO (fun z=>?_) fun z=>?_
 ·have z:k1 < n:=by have:=of_decide_eq_true z;omega
  have hlt:k1 < l.length:=by omega
  have htk:l.take (k1+1)=l.take k1++[l[k1]]:=(List.take_append_getElem hlt).symm
  intro K22
  have e34:=pT w3
  have E4:=(e2.trans e3).trans e34
  have Y2:∀w',Ext w3.drew w'→Blk w' b2 _ _:=fun w' e=>((X2.ext e3).ext e34).ext e
  refine ⟨fun w'=>Ext w3.drew w',pR _,_,fun w' e=>(Y2 w' e).cell (i:=0) (pU _ _) rfl,_,fun w' e=>(Y2 w' e).cell (i:=1) (pU _ _) rfl,_,fun w' e=>(Y2 w' e).cell (i:=2) (pU _ _) rfl,_,fun w' e=>(Y2 w' e).cell (i:=3) (pU _ _) rfl,?_⟩
  refine qZ (fun w' e=>(hl.ext E4).ext e) (pR _) hn rfl z fun a1 r1 r2=>⟨_,r1,_,r2,?_⟩
  have hI1:=hI l[k1] (List.getElem_mem hlt)
  refine pP call92 (aPz ha hc hI1.1 fun w5 e5=>pN ⟨_,rfl,?_⟩)
  have E5:=E4.trans e5
  have ho5:OwnP w5 w2.heap.size p n1 c1 ((l.take k1).filter F):=(e34.trans e5).row ho
  cases ht:(qJ k a c&&(sV k a c l[k1] !=f)) with
  | false=>
   refine pY rfl ?_
   simp -zeta -zetaHave only [K22]
   rw [pW z (by omega)]
   refine ⟨⟨k1+1,p,n1,c1,rfl,by omega,(e3.trans e34).trans e5,?_⟩,?_⟩
   ·rw [htk,List.filter_append,List.filter_cons_of_neg (by show ¬F l[k1]=true;simp only [F];rw [ht];simp),List.filter_nil,List.append_nil]
    exact ho5
   ·show n - ((k1+1:Nat):Int).toNat < n - (k1:Int).toNat
    omega
  | true=>
   refine pZ rfl ?_
   refine rI (hl.ext E5) hn (k:=k1) rfl z fun a2 r1 r2 _=>⟨_,r1,_,r2,rK fun b6 w6 e6 X6 l6=>?_⟩
   have hn1:=qF ho5
   have hfl:((l.take k1).filter F).length≤k1:=Nat.le_trans (List.length_filter_le _ _) (by rw [List.length_take];omega)
   refine wI elP (e6.row ho5) (m:=1) (tW X6) (by simp) (by simp [Value.oneCell']) (by simp only [maxLen];omega) (by omega) (by have:=(e3.trans (e34.trans e5)).size;have:=e6.size;omega) fun p' c' w7 ho7 g7=>pN ⟨_,_,_,rfl,?_⟩
   simp -zeta -zetaHave only [K22]
   rw [pW z (by omega)]
   refine ⟨⟨k1+1,p',n1+1,c',rfl,by omega,?_,?_⟩,?_⟩
   ·refine (((e3.trans e34).trans e5).trans e6).grown g7 fun b hb=>?_
    have hb2:=(ho5.lt b hb).1
    exact hb2
   ·rw [htk,List.filter_append,List.filter_cons_of_pos (by show F l[k1]=true;simp only [F];rw [ht]),List.filter_nil]
    unfold OwnP
    rw [rH]
    exact ho7
   ·show n - ((k1+1:Nat):Int).toNat < n - (k1:Int).toNat
    omega
 ·have z:k1=n:=by have:=of_decide_eq_false z;omega
  subst z
  rw [List.take_of_length_le (by omega),hF] at ho
  exact h p n1 c1 w3 (rO ho s2) (e2.trans e3)
end Go.Proofs.YtmdboekndjlmgaaGreat
namespace Go.Sh.Old
open Go Go.Sh
variable {w:World}{R:EW}
def seqL:List Code→Code→Code
 | [],y=>y
 | x::xs,y=>.seq x (seqL xs y)
def aCw:Nat→Code→List Code
 | k+1,.seq x y=>x::aCw k y
 | _,_=>[]
def tailC:Nat→Code→Code
 | k+1,.seq _ y=>tailC k y
 | _,c=>c
theorem aEk:∀(k:Nat) (c:Code),seqL (aCw k c) (tailC k c)=c
 | 0,c=>by cases c <;> rfl
 | k+1,c=>by
  cases c with
  | seq x y=>simp only [aCw,tailC,seqL,aEk k y]
  | _=>rfl
section
variable {P:Program} {ann:Nat→List (Nat × Value)} {ro:Option Nat} {Kp:List PanicEntry→List Deferred→World→Prop}
def evs(P:Program)(ann:Nat→List (Nat × Value))(ro:Option Nat)(Kp:List PanicEntry→List Deferred→World→Prop)(n:Nat):List Code→(Exit→Act→World→Prop)→(Act→World→Prop)→Act→World→Prop
 | [],_,K=>K
 | x::xs,Q,K=>ev P ann ro Kp n 0 x (Exit.then (evs P ann ro Kp n xs Q K) Q)
theorem aFm(hm:P.follows .mixedOrders=true){n:Nat}{y:Code}{Q:Exit→Act→World→Prop}{K:Act→World→Prop}:
  ∀(xs:List Code) (a:Act) (w:World),xs.all noRF=true→(∀a' w',K a' w'→a'.tmps.size=a.tmps.size→a'.defers=a.defers→y.wpIn (fen ro) 0 P (full Q Kp) a' w')→evs P ann ro Kp n xs Q K a w→(seqL xs y).wpIn (fen ro) 0 P (full Q Kp) a w
 | [],a,w,_,hK,h=>hK a w h rfl rfl
 | x::xs,a,w,hx,hK,h=>by
  rw [List.all_cons,Bool.and_eq_true] at hx
  refine wpIn_seq (wpIn_mono (sR hm n 0 x _ a w h) ?_)
  intro e a' w' he
  cases e with
  | normal=>
   have hf:=he.2 hx.1
   exact aFm hm xs a' w' hx.2 (fun a2 w2 h2 hs hd=>hK a2 w2 h2 (hs.trans hf.size) (hd.trans hf.defers)) he.1
  | panic ch=>exact he
  | outgrown=>exact he
  | ret=>exact he.1
  | exit id=>exact he.1
  | goto l=>exact he.1
theorem wp_part(hm:P.follows .mixedOrders=true){n k:Nat}{c:Code}{Q:Exit→Act→World→Prop}{K:List Value→World→Prop}{is:List Nat}{a:Act}{X:Prop}(hx:(aCw k c).all noRF=true)
  (e:evs P ann ro Kp n (aCw k c) Q (fun a w=>K (getAll is a.tmps) w) a w=X)
  (hK:∀a' w',K (getAll is a'.tmps) w'→a'.tmps.size=a.tmps.size→a'.defers=a.defers→(tailC k c).wpIn (fen ro) 0 P (full Q Kp) a' w') (h:X):c.wpIn (fen ro) 0 P (full Q Kp) a w:=by
 rw [←e] at h
 have:=aFm hm (aCw k c) a w hx hK h
 rwa [aEk] at this
theorem wp_last(hm:P.follows .mixedOrders=true){n:Nat}{c:Code}{Q:Exit→Act→World→Prop}{a:Act}{X:Prop}(e:ev P ann ro Kp n 0 c Q a w=X)(h:X):c.wpIn (fen ro) 0 P (full Q Kp) a w:=
 wpIn_mono (sR hm n 0 _ _ a w (e▸h)) (wF fun e a' w' hq=>hq.1)
theorem arr_lit{t:Array Value}{n:Nat}(hs:t.size=n):t=((List.range n).map fun i=>t.getD i undef).toArray:=by
 subst hs
 apply Array.ext_getElem?
 intro i
 simp only [List.getElem?_toArray,List.getElem?_map,List.getElem?_range,Array.getD_eq_getD_getElem?]
 rcases Nat.lt_or_ge i t.size with h | h
 ·simp [h]
 ·simp [h,Nat.not_lt.2 h]
theorem aPg{F:Fence}{n:Nat}{P:Program}{o:Oper}{a:Act}{K K':Act→World→Prop}{Q Q':Exit→Act→World→Prop}(h:∀a w,K a w→K' a w)(hp:∀ch a w,Q (.panic ch) a w→Q' (.panic ch) a w)(ho:LetsOut Q→LetsOut Q')(hh:o.wpIn F n P a w K Q):o.wpIn F n P a w K' Q':=by
 unfold Oper.wpIn at *
 refine ⟨hh.1,?_⟩
 have hh:=hh.2
 generalize (o.semAt F.round a.eval).run P w=r at *
 cases r with
 | ok x w'=>
  cases x <;> simp only [Oper.uponIn] at hh ⊢ <;>
   first
    | exact h _ _ hh
    | exact ⟨hh.1,CallsIn.mono hh.2 (fun e w'' he=>by cases e <;> first | exact h _ _ he | exact hp _ _ _ he | exact ho he)⟩
    | exact ⟨hh.1,RowsIn.mono hh.2 (fun _ _ he=>h _ _ he)⟩
    | exact ⟨hh.1,RoundIn.mono hh.2 (fun e w'' he=>by cases e <;> first | exact h _ _ he | exact hp _ _ _ he | exact ho he)⟩
 | halt x w'=>cases x <;> simp only [Oper.uponIn] at hh ⊢ <;> first | exact hp _ _ _ hh | exact hh
theorem zM{F:Fence}{n:Nat}{P:Program}{ops:Array Oper}{Q Q':Exit→Act→World→Prop}{l2:List Nat}(hn:∀a w,Q .normal a w→wpOpsIn F n P ops Q' l2 a w)(hp:∀ch a w,Q (.panic ch) a w→Q' (.panic ch) a w)(ho:LetsOut Q→LetsOut Q'):
  ∀(l1:List Nat) (a:Act) (w:World),wpOpsIn F n P ops Q l1 a w→wpOpsIn F n P ops Q' (l1++l2) a w
 | [],a,w,h=>hn a w h
 | i::l1,a,w,h=>by
  rw [wpOpsIn_cons] at h
  rw [List.cons_append,wpOpsIn_cons]
  unfold wpOpIn at *
  split
  ·exact zM hn hp ho l1 _ _ (by simpa [*] using h)
  ·rename_i o ho'
   simp only [ho'] at h
   split
   ·rename_i hw;simp only [hw,if_true] at h;exact aPg (fun a w hk=>zM hn hp ho l1 a w hk) hp ho h
   ·rename_i hw;simp only [hw] at h;exact ⟨h.1,zM hn hp ho l1 _ _ h.2⟩
def midW(P:Program)(ro:Option Nat)(Kp:List PanicEntry→List Deferred→World→Prop)(m:Nat)(ops:Array Oper)(z y:Code)(Q:Exit→Act→World→Prop):Act→World→Prop:=
 wpOpsIn (fen ro) 0 P ops (Exit.then (z.wpIn (fen ro) 0 P (Exit.then (y.wpIn (fen ro) 0 P (full Q Kp)) (full Q Kp))) (Exit.then (y.wpIn (fen ro) 0 P (full Q Kp)) (full Q Kp))) (List.range' m (ops.size - m))
def regOps:Code→Array Oper
 | .seq (.seq (.region _ ops _) _) _=>ops
 | _=>#[]
def regZ:Code→Code
 | .seq (.seq (.region _ _ _) z) _=>z
 | _=>.skip
def regY:Code→Code
 | .seq (.seq (.region _ _ _) _) y=>y
 | _=>.skip
def regIs:Code→Bool
 | .seq (.seq (.region _ _ d) _) _=>!d
 | _=>false
theorem wp_half1{n m:Nat}{c:Code}{Q:Exit→Act→World→Prop}{K:List Value→World→Prop}{is:List Nat}{a:Act}{X:Prop}(hr:regIs c=true)(hnd:rN (regOps c)=true)(hm:m≤(regOps c).size)
  (e:xG P (regOps c) (fun a w=>K (getAll is a.tmps) w) Kp (List.range m) a w=X)
  (hK:∀a' w',K (getAll is a'.tmps) w'→a'.tmps.size=a.tmps.size→a'.defers=a.defers→midW P ro Kp m (regOps c) (regZ c) (regY c) Q a' w') (h:X):c.wpIn (fen ro) 0 P (full Q Kp) a w:=by
 rw [←e] at h
 unfold regIs at hr
 split at hr
 case h_2=>cases hr
 rename_i id ops d z y
 simp only [Bool.not_eq_true'] at hr
 subst hr
 refine wpIn_seq (wpIn_seq (wpIn_region ?_))
 have hs:=qP (ro:=ro) (Q:=fun e a w=>match e with | .normal=>K (getAll is a.tmps) w | _=>False) hnd (List.range m) a w (.refl _ _) h
 have hl:List.range ops.size=List.range m++List.range' m (ops.size - m):=by
  have h0:=List.range'_append_1 (s:=0) (m:=m) (n:=ops.size - m)
  have hm':m≤ops.size:=hm
  rw [Nat.zero_add,Nat.add_sub_cancel' hm'] at h0
  rw [List.range_eq_range',List.range_eq_range',h0]
 rw [hl]
 refine zM ?_ ?_ ?_ _ _ _ hs
 ·intro a' w' hq
  exact hK a' w' hq.1 hq.2.size hq.2.defers
 ·intro ch a' w' hq
  exact hq
 ·intro hq
  exact hq
theorem wp_half2(hmx:P.follows .mixedOrders=true){n m:Nat}{ops:Array Oper}{z y:Code}{Q:Exit→Act→World→Prop}{K:List Value→World→Prop}{is:List Nat}{a:Act}{X:Prop}(hnd:rN ops=true)(hz:noRF z=true)
  (e:xG P ops (fun a w=>ev P ann ro Kp n 0 z (Exit.then (fun a w=>K (getAll is a.tmps) w) Q) a w) Kp (List.range' m (ops.size - m)) a w=X)
  (hK:∀a' w',K (getAll is a'.tmps) w'→a'.tmps.size=a.tmps.size→a'.defers=a.defers→y.wpIn (fen ro) 0 P (full Q Kp) a' w') (h:X):midW P ro Kp m ops z y Q a w:=by
 rw [←e] at h
 have hs:=qP (ro:=ro) (Q:=fun e a w=>match e with | .normal=>ev P ann ro Kp n 0 z (Exit.then (fun a w=>K (getAll is a.tmps) w) Q) a w | _=>False) hnd (List.range' m (ops.size - m)) a w (.refl _ _) h
 have hb:wpOpsIn (fen ro) 0 P ops (Exit.then (z.wpIn (fen ro) 0 P (Exit.then (y.wpIn (fen ro) 0 P (full Q Kp)) (full Q Kp))) (Exit.then (y.wpIn (fen ro) 0 P (full Q Kp)) (full Q Kp))) (List.range' m (ops.size - m)++[]) a w:=by
  refine zM ?_ ?_ ?_ _ _ _ hs
  ·intro a' w' hq
   refine wpIn_mono (sR hmx n 0 z _ a' w' hq.1) fun e a2 w2 he=>?_
   cases e with
   | normal=>exact hK a2 w2 he.1 ((he.2 hz).size.trans hq.2.size) ((he.2 hz).defers.trans hq.2.defers)
   | panic ch=>exact he
   | outgrown=>exact he
   | ret=>exact he.1
   | exit id=>exact he.1
   | goto l=>exact he.1
  ·intro ch a' w' hq
   exact hq
  ·intro hq
   exact hq
 rwa [List.append_nil] at hb
end
theorem calls_of_wp{P:Program}{f:FuncId}{fn:Func}{c:Code}{args:Array Value}
  (hf:P.funcs[f]?=some fn) (hb:fn.body=some c)
  (hw:c.wpIn (fen none) 0 P (full (Qfn P fn R) (Kfn R)) { tmps:=args++Array.replicate (fn.ntmps - args.size) undef,defers:=[] } w):Calls P f args w R:=by
 refine (callsIn_wide (n:=0)).1 (callsIn_of_wp_marks hf hb trivial (wpIn_mono hw ?_))
 intro e a' w' he
 cases e with
 | normal=>
  refine rC (by simp) he fun w'' hr=>?_
  obtain ⟨vs,hF,hr⟩:=qT hr
  exact ⟨_,hr,hF⟩
 | ret=>
  refine rC (by simp) he fun w'' hr=>?_
  obtain ⟨vs,hF,hr⟩:=qT hr
  exact ⟨_,hr,hF⟩
 | panic ch=>exact rC (by simp) he fun w'' hr=>hr
 | outgrown=>exact he.elim
 | exit id=>exact he.elim
 | goto l=>exact he.elim
end Go.Sh.Old
namespace Go.Proofs.YtmdboekndjlmgaaGreat
open Go Go.Sh Tryz
variable {w:World}{R:EW}
def aHu(a f:Addr)(R:EW)(w:World):Prop:=
 let e:Bool→World→Prop:=fun E F=>R (.returned (.bool E)) F
 ∃g,w.cell? (f.add 7)=some (.bool g)∧ifB (!g) (∃h,w.cell? (f.add 8)=some (.bool h)∧ifB (!h) (∃G i H,w.cell? (a.add 13)=some (.slice G i H)∧ifB (decide ((((i:Nat):Int):Int)≤4096)) (∃I j J,w.cell? (a.add 14)=some (.slice I j J)∧e (decide ((((j:Nat):Int):Int)≤4096)) w) (R (.returned (.bool false)) w)) (∃k,w.cell? ((a.add 9).add 0)=some (iB k)∧∃l,w.cell? ((a.add 9).add 1)=some (iL l)∧∃m,w.cell? ((a.add 9).add 2)=some (iL m)∧∃n,w.cell? ((a.add 9).add 3)=some (.bool n)∧cF 138 #[.agg #[iB k,iL l,iL m,.bool n]] w (retS (fun K c=>∃o,K=(.bool o:Value)∧ifB o (∃L p M,c.cell? (a.add 13)=some (.slice L p M)∧ifB (decide ((((p:Nat):Int):Int)≤4096)) (∃N q O,c.cell? (a.add 14)=some (.slice N q O)∧e (decide ((((q:Nat):Int):Int)≤4096)) c) (R (.returned (.bool false)) c)) (R (.returned (.bool false)) c)) (kN R)))) (∃r,w.cell? (a.add 8)=some (iB r)∧cF 89 #[iB r] w (retS (fun P b=>∃s,P=(.bool s:Value)∧ifB s (∃t,b.cell? (f.add 8)=some (.bool t)∧ifB (!t) (∃Q u S,b.cell? (a.add 13)=some (.slice Q u S)∧ifB (decide ((((u:Nat):Int):Int)≤4096)) (∃T v U,b.cell? (a.add 14)=some (.slice T v U)∧e (decide ((((v:Nat):Int):Int)≤4096)) b) (R (.returned (.bool false)) b)) (∃x,b.cell? ((a.add 9).add 0)=some (iB x)∧∃y,b.cell? ((a.add 9).add 1)=some (iL y)∧∃z,b.cell? ((a.add 9).add 2)=some (iL z)∧∃A,b.cell? ((a.add 9).add 3)=some (.bool A)∧cF 138 #[.agg #[iB x,iL y,iL z,.bool A]] b (retS (fun V d=>∃B,V=(.bool B:Value)∧ifB B (∃W C X,d.cell? (a.add 13)=some (.slice W C X)∧ifB (decide ((((C:Nat):Int):Int)≤4096)) (∃Y D Z,d.cell? (a.add 14)=some (.slice Y D Z)∧e (decide ((((D:Nat):Int):Int)≤4096)) d) (R (.returned (.bool false)) d)) (R (.returned (.bool false)) d)) (kN R)))) (R (.returned (.bool false)) b)) (kN R)))
def xH(R:EW):List Value→World→Prop:=fun vs w=>∃(x_1:Addr),∃(n_2:Addr),vs=[.pointer (some x_1),.pointer (some n_2)]∧aHu x_1 n_2 R w
theorem aOt{j:Nat→Value}(x_1:Addr)(n_2:Addr)(g1:j 1=(.pointer (some x_1):Value))(g3:j 3=(.pointer (some n_2):Value))(h:aHu x_1 n_2 R w):Code.wpIn (fen none) 0 prog (Old.tailC 4 (tO f83)) (Old.full (Qfn prog f83 R) (Kfn R)) { tmps:=#[j 0,j 1,j 2,j 3,j 4,j 5,j 6,j 7,j 8,j 9,j 10,j 11,j 12,j 13,j 14,j 15,j 16,j 17,j 18,j 19,j 20,j 21,j 22,j 23,j 24,j 25,j 26,j 27,j 28,j 29,j 30,j 31,j 32,j 33,j 34,j 35,j 36,j 37,j 38,j 39,j 40,j 41,j 42,j 43,j 44,j 45,j 46,j 47,j 48,j 49,j 50,j 51,j 52,j 53,j 54,j 55,j 56,j 57,j 58,j 59,j 60,j 61,j 62,j 63,j 64,j 65,j 66,j 67,j 68,j 69,j 70,j 71,j 72,j 73,j 74,j 75,j 76,j 77,j 78,j 79,j 80,j 81,j 82,j 83,j 84,j 85,j 86,j 87,j 88,j 89,j 90,j 91,j 92,j 93,j 94,j 95,j 96,j 97,j 98,j 99,j 100,j 101,j 102,j 103,j 104,j 105,j 106,j 107,j 108,j 109,j 110,j 111,j 112,j 113,j 114,j 115,j 116,j 117,j 118,j 119,j 120,j 121,j 122,j 123,j 124,j 125,j 126,j 127,j 128,j 129,j 130,j 131,j 132,j 133,j 134,j 135,j 136,j 137,j 138,j 139,j 140,j 141,j 142,j 143,j 144,j 145,j 146,j 147,j 148,j 149,j 150,j 151,j 152,j 153],defers:=[] } w:=by
 rw [g1,g3]
 exact Old.wp_last (ann:=fun _=>[]) (n:=400) (X:=aHu x_1 n_2 R w) qO (by kernel_rfl) h
def aHv(a b:Addr)(R:EW)(w:World):Prop:=
 let c:Bool→World→Prop:=fun P d=>ifB P (R (.returned (.bool false)) d) (xH R [.pointer (some a),.pointer (some b)] d)
 ∃e,w.cell? (b.add 7)=some (.bool e)∧ifB (!e) (∃f,w.cell? (a.add 8)=some (iB f)∧ifB ((f:Int) !=0) (R (.returned (.bool false)) w) (∃g,w.cell? (b.add 8)=some (.bool g)∧ifB (!g) (∃h,w.cell? ((a.add 9).add 0)=some (iB h)∧∃i,w.cell? ((a.add 9).add 1)=some (iL i)∧∃j,w.cell? ((a.add 9).add 2)=some (iL j)∧∃k,w.cell? ((a.add 9).add 3)=some (.bool k)∧ifB (!(((h:Int)==0)&&(((i:Int)==0)&&(((j:Int)==0)&&((k==false)&&true))))) (R (.returned (.bool false)) w) (∃l,w.cell? (b.add 9)=some (.bool l)∧ifB (!l) (∃Q m S,w.cell? (a.add 13)=some (.slice Q m S)∧ifB (decide ((((m:Nat):Int):Int) > 0)) (R (.returned (.bool false)) w) (∃n,w.cell? (b.add 10)=some (.bool n)∧ifB (!n) (∃T o U,w.cell? (a.add 14)=some (.slice T o U)∧c (decide ((((o:Nat):Int):Int) > 0)) w) (xH R [.pointer (some a),.pointer (some b)] w))) (∃p,w.cell? (b.add 10)=some (.bool p)∧ifB (!p) (∃V q W,w.cell? (a.add 14)=some (.slice V q W)∧c (decide ((((q:Nat):Int):Int) > 0)) w) (xH R [.pointer (some a),.pointer (some b)] w)))) (∃r,w.cell? (b.add 9)=some (.bool r)∧ifB (!r) (∃X s Y,w.cell? (a.add 13)=some (.slice X s Y)∧ifB (decide ((((s:Nat):Int):Int) > 0)) (R (.returned (.bool false)) w) (∃t,w.cell? (b.add 10)=some (.bool t)∧ifB (!t) (∃Z u a0,w.cell? (a.add 14)=some (.slice Z u a0)∧c (decide ((((u:Nat):Int):Int) > 0)) w) (xH R [.pointer (some a),.pointer (some b)] w))) (∃v,w.cell? (b.add 10)=some (.bool v)∧ifB (!v) (∃a1 x a2,w.cell? (a.add 14)=some (.slice a1 x a2)∧c (decide ((((x:Nat):Int):Int) > 0)) w) (xH R [.pointer (some a),.pointer (some b)] w))))) (∃y,w.cell? (b.add 8)=some (.bool y)∧ifB (!y) (∃z,w.cell? ((a.add 9).add 0)=some (iB z)∧∃A,w.cell? ((a.add 9).add 1)=some (iL A)∧∃B,w.cell? ((a.add 9).add 2)=some (iL B)∧∃C,w.cell? ((a.add 9).add 3)=some (.bool C)∧ifB (!(((z:Int)==0)&&(((A:Int)==0)&&(((B:Int)==0)&&((C==false)&&true))))) (R (.returned (.bool false)) w) (∃D,w.cell? (b.add 9)=some (.bool D)∧ifB (!D) (∃a3 E a4,w.cell? (a.add 13)=some (.slice a3 E a4)∧ifB (decide ((((E:Nat):Int):Int) > 0)) (R (.returned (.bool false)) w) (∃F,w.cell? (b.add 10)=some (.bool F)∧ifB (!F) (∃a5 G a6,w.cell? (a.add 14)=some (.slice a5 G a6)∧c (decide ((((G:Nat):Int):Int) > 0)) w) (xH R [.pointer (some a),.pointer (some b)] w))) (∃H,w.cell? (b.add 10)=some (.bool H)∧ifB (!H) (∃a7 I a8,w.cell? (a.add 14)=some (.slice a7 I a8)∧c (decide ((((I:Nat):Int):Int) > 0)) w) (xH R [.pointer (some a),.pointer (some b)] w)))) (∃J,w.cell? (b.add 9)=some (.bool J)∧ifB (!J) (∃a9 K b0,w.cell? (a.add 13)=some (.slice a9 K b0)∧ifB (decide ((((K:Nat):Int):Int) > 0)) (R (.returned (.bool false)) w) (∃L,w.cell? (b.add 10)=some (.bool L)∧ifB (!L) (∃b1 M b2,w.cell? (a.add 14)=some (.slice b1 M b2)∧c (decide ((((M:Nat):Int):Int) > 0)) w) (xH R [.pointer (some a),.pointer (some b)] w))) (∃N,w.cell? (b.add 10)=some (.bool N)∧ifB (!N) (∃b3 O b4,w.cell? (a.add 14)=some (.slice b3 O b4)∧c (decide ((((O:Nat):Int):Int) > 0)) w) (xH R [.pointer (some a),.pointer (some b)] w))))
def tF(R:EW):List Value→World→Prop:=fun vs w=>∃(x_1:Addr),∃(n_2:Addr),vs=[.pointer (some x_1),.pointer (some n_2)]∧aHv x_1 n_2 R w
theorem aOu{j:Nat→Value}(x_1:Addr)(n_2:Addr)(g1:j 1=(.pointer (some x_1):Value))(g3:j 3=(.pointer (some n_2):Value))(h:aHv x_1 n_2 R w):Code.wpIn (fen none) 0 prog (Old.tailC 3 (tO f83)) (Old.full (Qfn prog f83 R) (Kfn R)) { tmps:=#[j 0,j 1,j 2,j 3,j 4,j 5,j 6,j 7,j 8,j 9,j 10,j 11,j 12,j 13,j 14,j 15,j 16,j 17,j 18,j 19,j 20,j 21,j 22,j 23,j 24,j 25,j 26,j 27,j 28,j 29,j 30,j 31,j 32,j 33,j 34,j 35,j 36,j 37,j 38,j 39,j 40,j 41,j 42,j 43,j 44,j 45,j 46,j 47,j 48,j 49,j 50,j 51,j 52,j 53,j 54,j 55,j 56,j 57,j 58,j 59,j 60,j 61,j 62,j 63,j 64,j 65,j 66,j 67,j 68,j 69,j 70,j 71,j 72,j 73,j 74,j 75,j 76,j 77,j 78,j 79,j 80,j 81,j 82,j 83,j 84,j 85,j 86,j 87,j 88,j 89,j 90,j 91,j 92,j 93,j 94,j 95,j 96,j 97,j 98,j 99,j 100,j 101,j 102,j 103,j 104,j 105,j 106,j 107,j 108,j 109,j 110,j 111,j 112,j 113,j 114,j 115,j 116,j 117,j 118,j 119,j 120,j 121,j 122,j 123,j 124,j 125,j 126,j 127,j 128,j 129,j 130,j 131,j 132,j 133,j 134,j 135,j 136,j 137,j 138,j 139,j 140,j 141,j 142,j 143,j 144,j 145,j 146,j 147,j 148,j 149,j 150,j 151,j 152,j 153],defers:=[] } w:=by
 rw [g1,g3]
 exact Old.wp_part (ann:=fun _=>[]) (n:=400) (k:=1) (K:=xH R) (is:=[1,3]) (X:=aHv x_1 n_2 R w) qO (by kernel_rfl) (by kernel_rfl) (fun a' w' hK hs hd=>by
  obtain ⟨x_1,n_2,hv,h2⟩:=hK
  obtain ⟨tmps,defers⟩:=a'
  simp only at hs hd hv
  subst hd
  have hs:tmps.size=154:=hs.trans (by kernel_rfl)
  have hl:=Old.arr_lit hs
  obtain ⟨j,hj⟩:∃j:Nat→Value,∀i,tmps.getD i undef=j i:=⟨_,fun _=>rfl⟩
  rw [show (fun i=>tmps.getD i undef)=j from funext hj] at hl
  have e2:tmps=#[j 0,j 1,j 2,j 3,j 4,j 5,j 6,j 7,j 8,j 9,j 10,j 11,j 12,j 13,j 14,j 15,j 16,j 17,j 18,j 19,j 20,j 21,j 22,j 23,j 24,j 25,j 26,j 27,j 28,j 29,j 30,j 31,j 32,j 33,j 34,j 35,j 36,j 37,j 38,j 39,j 40,j 41,j 42,j 43,j 44,j 45,j 46,j 47,j 48,j 49,j 50,j 51,j 52,j 53,j 54,j 55,j 56,j 57,j 58,j 59,j 60,j 61,j 62,j 63,j 64,j 65,j 66,j 67,j 68,j 69,j 70,j 71,j 72,j 73,j 74,j 75,j 76,j 77,j 78,j 79,j 80,j 81,j 82,j 83,j 84,j 85,j 86,j 87,j 88,j 89,j 90,j 91,j 92,j 93,j 94,j 95,j 96,j 97,j 98,j 99,j 100,j 101,j 102,j 103,j 104,j 105,j 106,j 107,j 108,j 109,j 110,j 111,j 112,j 113,j 114,j 115,j 116,j 117,j 118,j 119,j 120,j 121,j 122,j 123,j 124,j 125,j 126,j 127,j 128,j 129,j 130,j 131,j 132,j 133,j 134,j 135,j 136,j 137,j 138,j 139,j 140,j 141,j 142,j 143,j 144,j 145,j 146,j 147,j 148,j 149,j 150,j 151,j 152,j 153]:=hl.trans (by kernel_rfl)
  simp only [Old.getAll,List.map_cons,List.map_nil,hj,List.cons.injEq,and_true] at hv
  obtain ⟨g1,g3⟩:=hv
  rw [e2]
  exact aOt x_1 n_2 g1 g3 h2) h
def aCo(a b:Addr)(H:Bool)(R:EW)(w:World):Prop:=
 ifB H (R (.returned (.bool false)) w) (∃c,w.cell? (b.add 3)=some (.bool c)∧ifB (!c) (∃d,w.cell? (a.add 4)=some (iL d)∧ifB ((d:Int) !=0) (R (.returned (.bool false)) w) (∃e,w.cell? (b.add 4)=some (.bool e)∧ifB (!e) (∃f,w.cell? (a.add 5)=some (iL f)∧ifB ((f:Int) !=0) (R (.returned (.bool false)) w) (∃g,w.cell? (b.add 5)=some (.bool g)∧ifB (!g) (∃h,w.cell? (a.add 6)=some (iL h)∧ifB ((h:Int) !=0) (R (.returned (.bool false)) w) (∃i,w.cell? (b.add 6)=some (.bool i)∧ifB (!i) (∃j,w.cell? (a.add 7)=some (iL j)∧ifB ((j:Int) !=0) (R (.returned (.bool false)) w) (tF R [.pointer (some a),.pointer (some b)] w)) (tF R [.pointer (some a),.pointer (some b)] w))) (∃k,w.cell? (b.add 6)=some (.bool k)∧ifB (!k) (∃l,w.cell? (a.add 7)=some (iL l)∧ifB ((l:Int) !=0) (R (.returned (.bool false)) w) (tF R [.pointer (some a),.pointer (some b)] w)) (tF R [.pointer (some a),.pointer (some b)] w)))) (∃m,w.cell? (b.add 5)=some (.bool m)∧ifB (!m) (∃n,w.cell? (a.add 6)=some (iL n)∧ifB ((n:Int) !=0) (R (.returned (.bool false)) w) (∃o,w.cell? (b.add 6)=some (.bool o)∧ifB (!o) (∃p,w.cell? (a.add 7)=some (iL p)∧ifB ((p:Int) !=0) (R (.returned (.bool false)) w) (tF R [.pointer (some a),.pointer (some b)] w)) (tF R [.pointer (some a),.pointer (some b)] w))) (∃q,w.cell? (b.add 6)=some (.bool q)∧ifB (!q) (∃r,w.cell? (a.add 7)=some (iL r)∧ifB ((r:Int) !=0) (R (.returned (.bool false)) w) (tF R [.pointer (some a),.pointer (some b)] w)) (tF R [.pointer (some a),.pointer (some b)] w))))) (∃s,w.cell? (b.add 4)=some (.bool s)∧ifB (!s) (∃t,w.cell? (a.add 5)=some (iL t)∧ifB ((t:Int) !=0) (R (.returned (.bool false)) w) (∃u,w.cell? (b.add 5)=some (.bool u)∧ifB (!u) (∃v,w.cell? (a.add 6)=some (iL v)∧ifB ((v:Int) !=0) (R (.returned (.bool false)) w) (∃x,w.cell? (b.add 6)=some (.bool x)∧ifB (!x) (∃y,w.cell? (a.add 7)=some (iL y)∧ifB ((y:Int) !=0) (R (.returned (.bool false)) w) (tF R [.pointer (some a),.pointer (some b)] w)) (tF R [.pointer (some a),.pointer (some b)] w))) (∃z,w.cell? (b.add 6)=some (.bool z)∧ifB (!z) (∃A,w.cell? (a.add 7)=some (iL A)∧ifB ((A:Int) !=0) (R (.returned (.bool false)) w) (tF R [.pointer (some a),.pointer (some b)] w)) (tF R [.pointer (some a),.pointer (some b)] w)))) (∃B,w.cell? (b.add 5)=some (.bool B)∧ifB (!B) (∃C,w.cell? (a.add 6)=some (iL C)∧ifB ((C:Int) !=0) (R (.returned (.bool false)) w) (∃D,w.cell? (b.add 6)=some (.bool D)∧ifB (!D) (∃E,w.cell? (a.add 7)=some (iL E)∧ifB ((E:Int) !=0) (R (.returned (.bool false)) w) (tF R [.pointer (some a),.pointer (some b)] w)) (tF R [.pointer (some a),.pointer (some b)] w))) (∃F,w.cell? (b.add 6)=some (.bool F)∧ifB (!F) (∃G,w.cell? (a.add 7)=some (iL G)∧ifB ((G:Int) !=0) (R (.returned (.bool false)) w) (tF R [.pointer (some a),.pointer (some b)] w)) (tF R [.pointer (some a),.pointer (some b)] w)))))
def uO(R:EW):List Value→World→Prop:=fun vs w=>∃(x_1:Addr),∃(n_2:Addr),∃(x3:Bool),vs=[.pointer (some x_1),.pointer (some n_2),.bool x3]∧aCo x_1 n_2 x3 R w
theorem aOv{j:Nat→Value}(x_1:Addr)(n_2:Addr)(x3:Bool)(g1:j 1=(.pointer (some x_1):Value))(g3:j 3=(.pointer (some n_2):Value))(g42:j 42=(.bool x3:Value))(h:aCo x_1 n_2 x3 R w):Old.midW prog none (Kfn R) 32 (Old.regOps (Old.tailC 2 (tO f83))) (Old.regZ (Old.tailC 2 (tO f83))) (Old.regY (Old.tailC 2 (tO f83))) (Qfn prog f83 R) { tmps:=#[j 0,j 1,j 2,j 3,j 4,j 5,j 6,j 7,j 8,j 9,j 10,j 11,j 12,j 13,j 14,j 15,j 16,j 17,j 18,j 19,j 20,j 21,j 22,j 23,j 24,j 25,j 26,j 27,j 28,j 29,j 30,j 31,j 32,j 33,j 34,j 35,j 36,j 37,j 38,j 39,j 40,j 41,j 42,j 43,j 44,j 45,j 46,j 47,j 48,j 49,j 50,j 51,j 52,j 53,j 54,j 55,j 56,j 57,j 58,j 59,j 60,j 61,j 62,j 63,j 64,j 65,j 66,j 67,j 68,j 69,j 70,j 71,j 72,j 73,j 74,j 75,j 76,j 77,j 78,j 79,j 80,j 81,j 82,j 83,j 84,j 85,j 86,j 87,j 88,j 89,j 90,j 91,j 92,j 93,j 94,j 95,j 96,j 97,j 98,j 99,j 100,j 101,j 102,j 103,j 104,j 105,j 106,j 107,j 108,j 109,j 110,j 111,j 112,j 113,j 114,j 115,j 116,j 117,j 118,j 119,j 120,j 121,j 122,j 123,j 124,j 125,j 126,j 127,j 128,j 129,j 130,j 131,j 132,j 133,j 134,j 135,j 136,j 137,j 138,j 139,j 140,j 141,j 142,j 143,j 144,j 145,j 146,j 147,j 148,j 149,j 150,j 151,j 152,j 153],defers:=[] } w:=by
 rw [g1,g3,g42]
 exact Old.wp_half2 (ann:=fun _=>[]) (n:=400) (K:=tF R) (is:=[1,3]) (X:=aCo x_1 n_2 x3 R w) qO (by kernel_rfl) (by kernel_rfl) (by kernel_rfl) (fun a' w' hK hs hd=>by
  obtain ⟨x_1,n_2,hv,h2⟩:=hK
  obtain ⟨tmps,defers⟩:=a'
  simp only at hs hd hv
  subst hd
  have hs:tmps.size=154:=hs.trans (by kernel_rfl)
  have hl:=Old.arr_lit hs
  obtain ⟨j,hj⟩:∃j:Nat→Value,∀i,tmps.getD i undef=j i:=⟨_,fun _=>rfl⟩
  rw [show (fun i=>tmps.getD i undef)=j from funext hj] at hl
  have e2:tmps=#[j 0,j 1,j 2,j 3,j 4,j 5,j 6,j 7,j 8,j 9,j 10,j 11,j 12,j 13,j 14,j 15,j 16,j 17,j 18,j 19,j 20,j 21,j 22,j 23,j 24,j 25,j 26,j 27,j 28,j 29,j 30,j 31,j 32,j 33,j 34,j 35,j 36,j 37,j 38,j 39,j 40,j 41,j 42,j 43,j 44,j 45,j 46,j 47,j 48,j 49,j 50,j 51,j 52,j 53,j 54,j 55,j 56,j 57,j 58,j 59,j 60,j 61,j 62,j 63,j 64,j 65,j 66,j 67,j 68,j 69,j 70,j 71,j 72,j 73,j 74,j 75,j 76,j 77,j 78,j 79,j 80,j 81,j 82,j 83,j 84,j 85,j 86,j 87,j 88,j 89,j 90,j 91,j 92,j 93,j 94,j 95,j 96,j 97,j 98,j 99,j 100,j 101,j 102,j 103,j 104,j 105,j 106,j 107,j 108,j 109,j 110,j 111,j 112,j 113,j 114,j 115,j 116,j 117,j 118,j 119,j 120,j 121,j 122,j 123,j 124,j 125,j 126,j 127,j 128,j 129,j 130,j 131,j 132,j 133,j 134,j 135,j 136,j 137,j 138,j 139,j 140,j 141,j 142,j 143,j 144,j 145,j 146,j 147,j 148,j 149,j 150,j 151,j 152,j 153]:=hl.trans (by kernel_rfl)
  simp only [Old.getAll,List.map_cons,List.map_nil,hj,List.cons.injEq,and_true] at hv
  obtain ⟨g1,g3⟩:=hv
  rw [e2]
  exact aOu x_1 n_2 g1 g3 h2) h
def aHw(a b:Addr)(q:Bool)(R:EW)(w:World):Prop:=
 ifB (!q) (uO R [.pointer (some a),.pointer (some b),.bool true] w) (∃c,w.cell? (b.add 0)=some (.bool c)∧ifB (!c) (∃d,w.cell? (a.add 1)=some (iL d)∧ifB ((d:Int) !=0) (uO R [.pointer (some a),.pointer (some b),.bool true] w) (∃e,w.cell? (b.add 1)=some (.bool e)∧ifB (!e) (∃f,w.cell? (a.add 2)=some (iL f)∧ifB ((f:Int) !=0) (uO R [.pointer (some a),.pointer (some b),.bool true] w) (∃g,w.cell? (b.add 2)=some (.bool g)∧ifB (!g) (∃h,w.cell? (a.add 3)=some (iL h)∧uO R [.pointer (some a),.pointer (some b),.bool ((h:Int) !=0)] w) (uO R [.pointer (some a),.pointer (some b),.bool false] w))) (∃i,w.cell? (b.add 2)=some (.bool i)∧ifB (!i) (∃j,w.cell? (a.add 3)=some (iL j)∧uO R [.pointer (some a),.pointer (some b),.bool ((j:Int) !=0)] w) (uO R [.pointer (some a),.pointer (some b),.bool false] w)))) (∃k,w.cell? (b.add 1)=some (.bool k)∧ifB (!k) (∃l,w.cell? (a.add 2)=some (iL l)∧ifB ((l:Int) !=0) (uO R [.pointer (some a),.pointer (some b),.bool true] w) (∃m,w.cell? (b.add 2)=some (.bool m)∧ifB (!m) (∃n,w.cell? (a.add 3)=some (iL n)∧uO R [.pointer (some a),.pointer (some b),.bool ((n:Int) !=0)] w) (uO R [.pointer (some a),.pointer (some b),.bool false] w))) (∃o,w.cell? (b.add 2)=some (.bool o)∧ifB (!o) (∃p,w.cell? (a.add 3)=some (iL p)∧uO R [.pointer (some a),.pointer (some b),.bool ((p:Int) !=0)] w) (uO R [.pointer (some a),.pointer (some b),.bool false] w))))
def sh83k1(R:EW):List Value→World→Prop:=fun vs w=>∃(x_1:Addr),∃(n_2:Addr),∃(is_3:Bool),vs=[.pointer (some x_1),.pointer (some n_2),.bool is_3]∧aHw x_1 n_2 is_3 R w
theorem aOw{j:Nat→Value}(x_1:Addr)(n_2:Addr)(is_3:Bool)(g1:j 1=(.pointer (some x_1):Value))(g3:j 3=(.pointer (some n_2):Value))(g4:j 4=(.bool is_3:Value))(h:aHw x_1 n_2 is_3 R w):Code.wpIn (fen none) 0 prog (Old.tailC 2 (tO f83)) (Old.full (Qfn prog f83 R) (Kfn R)) { tmps:=#[j 0,j 1,j 2,j 3,j 4,j 5,j 6,j 7,j 8,j 9,j 10,j 11,j 12,j 13,j 14,j 15,j 16,j 17,j 18,j 19,j 20,j 21,j 22,j 23,j 24,j 25,j 26,j 27,j 28,j 29,j 30,j 31,j 32,j 33,j 34,j 35,j 36,j 37,j 38,j 39,j 40,j 41,j 42,j 43,j 44,j 45,j 46,j 47,j 48,j 49,j 50,j 51,j 52,j 53,j 54,j 55,j 56,j 57,j 58,j 59,j 60,j 61,j 62,j 63,j 64,j 65,j 66,j 67,j 68,j 69,j 70,j 71,j 72,j 73,j 74,j 75,j 76,j 77,j 78,j 79,j 80,j 81,j 82,j 83,j 84,j 85,j 86,j 87,j 88,j 89,j 90,j 91,j 92,j 93,j 94,j 95,j 96,j 97,j 98,j 99,j 100,j 101,j 102,j 103,j 104,j 105,j 106,j 107,j 108,j 109,j 110,j 111,j 112,j 113,j 114,j 115,j 116,j 117,j 118,j 119,j 120,j 121,j 122,j 123,j 124,j 125,j 126,j 127,j 128,j 129,j 130,j 131,j 132,j 133,j 134,j 135,j 136,j 137,j 138,j 139,j 140,j 141,j 142,j 143,j 144,j 145,j 146,j 147,j 148,j 149,j 150,j 151,j 152,j 153],defers:=[] } w:=by
 rw [g1,g3,g4]
 exact Old.wp_half1 (n:=400) (m:=32) (K:=uO R) (is:=[1,3,42]) (X:=aHw x_1 n_2 is_3 R w) (by kernel_rfl) (by kernel_rfl) (by decide +kernel) (by kernel_rfl) (fun a' w' hK hs hd=>by
  obtain ⟨x_1,n_2,x3,hv,h2⟩:=hK
  obtain ⟨tmps,defers⟩:=a'
  simp only at hs hd hv
  subst hd
  have hs:tmps.size=154:=hs.trans (by kernel_rfl)
  have hl:=Old.arr_lit hs
  obtain ⟨j,hj⟩:∃j:Nat→Value,∀i,tmps.getD i undef=j i:=⟨_,fun _=>rfl⟩
  rw [show (fun i=>tmps.getD i undef)=j from funext hj] at hl
  have e2:tmps=#[j 0,j 1,j 2,j 3,j 4,j 5,j 6,j 7,j 8,j 9,j 10,j 11,j 12,j 13,j 14,j 15,j 16,j 17,j 18,j 19,j 20,j 21,j 22,j 23,j 24,j 25,j 26,j 27,j 28,j 29,j 30,j 31,j 32,j 33,j 34,j 35,j 36,j 37,j 38,j 39,j 40,j 41,j 42,j 43,j 44,j 45,j 46,j 47,j 48,j 49,j 50,j 51,j 52,j 53,j 54,j 55,j 56,j 57,j 58,j 59,j 60,j 61,j 62,j 63,j 64,j 65,j 66,j 67,j 68,j 69,j 70,j 71,j 72,j 73,j 74,j 75,j 76,j 77,j 78,j 79,j 80,j 81,j 82,j 83,j 84,j 85,j 86,j 87,j 88,j 89,j 90,j 91,j 92,j 93,j 94,j 95,j 96,j 97,j 98,j 99,j 100,j 101,j 102,j 103,j 104,j 105,j 106,j 107,j 108,j 109,j 110,j 111,j 112,j 113,j 114,j 115,j 116,j 117,j 118,j 119,j 120,j 121,j 122,j 123,j 124,j 125,j 126,j 127,j 128,j 129,j 130,j 131,j 132,j 133,j 134,j 135,j 136,j 137,j 138,j 139,j 140,j 141,j 142,j 143,j 144,j 145,j 146,j 147,j 148,j 149,j 150,j 151,j 152,j 153]:=hl.trans (by kernel_rfl)
  simp only [Old.getAll,List.map_cons,List.map_nil,hj,List.cons.injEq,and_true] at hv
  obtain ⟨g1,g3,g42⟩:=hv
  rw [e2]
  exact aOv x_1 n_2 x3 g1 g3 g42 h2) h
def sh83(q r s t u v x y z A B C:Int)(D:Bool)(E:OA)(F G:Nat)(H:OA)(I J:Nat)(R:EW)(w:World):Prop:=
 doAl (.cells #[iB q,iL r,iL s,iL t,iL u,iL v,iL x,iL y,iB z,iB A,iL B,iL C,.bool D,.slice E F G,.slice H I J] 30) w fun b c=>∃d,c.cell? ((blk b).add 0)=some (iB d)∧cF 84 #[iB d] c (retS (fun K L=>∃e f g h i j k l m n o p,K=(.tuple #[.agg #[.bool e,.bool f,.bool g,.bool h,.bool i,.bool j,.bool k,.bool l,.bool m,.bool n,.bool o],.bool p]:Value)∧doAl (.cells #[.bool false,.bool false,.bool false,.bool false,.bool false,.bool false,.bool false,.bool false,.bool false,.bool false,.bool false] 115) L fun a M=>doSt ((blk a).add 0) (.bool e) M fun N=>doSt ((blk a).add 1) (.bool f) N fun O=>doSt ((blk a).add 2) (.bool g) O fun P=>doSt ((blk a).add 3) (.bool h) P fun Q=>doSt ((blk a).add 4) (.bool i) Q fun S=>doSt ((blk a).add 5) (.bool j) S fun T=>doSt ((blk a).add 6) (.bool k) T fun U=>doSt ((blk a).add 7) (.bool l) U fun V=>doSt ((blk a).add 8) (.bool m) V fun W=>doSt ((blk a).add 9) (.bool n) W fun X=>doSt ((blk a).add 10) (.bool o) X fun Y=>sh83k1 R [.pointer (some (blk b)),.pointer (some (blk a)),.bool p] Y) (kN R))
theorem sh83_ok{x_1:Int}{x_2:Int}{x_3:Int}{x_4:Int}{x_5:Int}{x_6:Int}{x_7:Int}{x_8:Int}{x_9:Int}{x_10:Int}{x_11:Int}{x_12:Int}{x_13:Bool}{x_p14:OA}{x_n15:Nat}{x_c16:Nat}{x_p17:OA}{x_n18:Nat}{x_c19:Nat}:sh83 x_1 x_2 x_3 x_4 x_5 x_6 x_7 x_8 x_9 x_10 x_11 x_12 x_13 x_p14 x_n15 x_c16 x_p17 x_n18 x_c19 R w→Calls prog 83 #[.agg #[.int .u8 x_1,.int .i64 x_2,.int .i64 x_3,.int .i64 x_4,.int .i64 x_5,.int .i64 x_6,.int .i64 x_7,.int .i64 x_8,.int .u8 x_9,.int .u8 x_10,.int .i64 x_11,.int .i64 x_12,.bool x_13,.slice x_p14 x_n15 x_c16,.slice x_p17 x_n18 x_c19]] w R:=fun h=>
 Old.calls_of_wp (fn:=f83) (c:=tO f83) (args:=#[.agg #[.int .u8 x_1,.int .i64 x_2,.int .i64 x_3,.int .i64 x_4,.int .i64 x_5,.int .i64 x_6,.int .i64 x_7,.int .i64 x_8,.int .u8 x_9,.int .u8 x_10,.int .i64 x_11,.int .i64 x_12,.bool x_13,.slice x_p14 x_n15 x_c16,.slice x_p17 x_n18 x_c19]]) func83 (by kernel_rfl) (Old.wp_part (ann:=fun _=>[]) (n:=400) (k:=2) (K:=sh83k1 R) (is:=[1,3,4]) (X:=sh83 x_1 x_2 x_3 x_4 x_5 x_6 x_7 x_8 x_9 x_10 x_11 x_12 x_13 x_p14 x_n15 x_c16 x_p17 x_n18 x_c19 R w) qO (by kernel_rfl) (by kernel_rfl) (fun a' w' hK hs hd=>by
  obtain ⟨x_1,n_2,is_3,hv,h2⟩:=hK
  obtain ⟨tmps,defers⟩:=a'
  simp only at hs hd hv
  subst hd
  have hs:tmps.size=154:=hs.trans (by kernel_rfl)
  have hl:=Old.arr_lit hs
  obtain ⟨j,hj⟩:∃j:Nat→Value,∀i,tmps.getD i undef=j i:=⟨_,fun _=>rfl⟩
  rw [show (fun i=>tmps.getD i undef)=j from funext hj] at hl
  have e2:tmps=#[j 0,j 1,j 2,j 3,j 4,j 5,j 6,j 7,j 8,j 9,j 10,j 11,j 12,j 13,j 14,j 15,j 16,j 17,j 18,j 19,j 20,j 21,j 22,j 23,j 24,j 25,j 26,j 27,j 28,j 29,j 30,j 31,j 32,j 33,j 34,j 35,j 36,j 37,j 38,j 39,j 40,j 41,j 42,j 43,j 44,j 45,j 46,j 47,j 48,j 49,j 50,j 51,j 52,j 53,j 54,j 55,j 56,j 57,j 58,j 59,j 60,j 61,j 62,j 63,j 64,j 65,j 66,j 67,j 68,j 69,j 70,j 71,j 72,j 73,j 74,j 75,j 76,j 77,j 78,j 79,j 80,j 81,j 82,j 83,j 84,j 85,j 86,j 87,j 88,j 89,j 90,j 91,j 92,j 93,j 94,j 95,j 96,j 97,j 98,j 99,j 100,j 101,j 102,j 103,j 104,j 105,j 106,j 107,j 108,j 109,j 110,j 111,j 112,j 113,j 114,j 115,j 116,j 117,j 118,j 119,j 120,j 121,j 122,j 123,j 124,j 125,j 126,j 127,j 128,j 129,j 130,j 131,j 132,j 133,j 134,j 135,j 136,j 137,j 138,j 139,j 140,j 141,j 142,j 143,j 144,j 145,j 146,j 147,j 148,j 149,j 150,j 151,j 152,j 153]:=hl.trans (by kernel_rfl)
  simp only [Old.getAll,List.map_cons,List.map_nil,hj,List.cons.injEq,and_true] at hv
  obtain ⟨g1,g3,g4⟩:=hv
  rw [e2]
  exact aOw x_1 n_2 is_3 g1 g3 g4 h2) h)
end Go.Proofs.YtmdboekndjlmgaaGreat
