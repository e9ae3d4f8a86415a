/-
  Whether two ops are the same, whether an op may be: what Check does.
-/
import Derived.Test.YtmdboekndjlmgaaGreatZ25
set_option maxRecDepth 100000
set_option maxHeartbeats 6400000
namespace Go.Proofs.YtmdboekndjlmgaaGreat
open Go Go.Sh Go.RowKit Tryz
variable {w:World}{R:EW}
theorem aNs{C:World→Prop}{p:OA}{n:Nat}{l:List Int}{K:Addr→Prop}(h:∀w,C w→Cs w p (ints l)){w0:World}(hw:C w0)(hn:l.length=n){k:Nat}(h1:k < n)
  (c:∀a:Addr,(∀w,C w→w.cell? a=some (.int .i64 (l[k]'(by omega))))→K a):doIx p n 1 (k:Int) K:=by
 obtain ⟨a,ha,_⟩:=(h w0 hw).int (i:=k) (by omega)
 refine ⟨a,ha,by omega,by omega,c _ fun w hC=>?_⟩
 obtain ⟨a',ha',hc⟩:=(h w hC).int (i:=k) (by omega)
 rw [ha] at ha';cases ha'
 rw [Int.toNat_natCast,Nat.mul_one];exact hc
theorem aMz{α:Type}{l m:List α}{k:Nat}(hl:k < l.length)(hm:k < m.length)(h:l.take k=m.take k)(he:l[k]=m[k]):l.take (k+1)=m.take (k+1):=by
 rw [←List.take_append_getElem hl,←List.take_append_getElem hm,h,he]
theorem c_osame{x y:POp}{pv kv pv' kv':Value}(hx:OpRd w x pv kv)(hy:OpRd w y pv' kv')(hP:x.pairs.length≤5000)(hK:x.keys.length≤5000)
  (h1:∀w',Ext w w'→x=y→R (.returned (.bool true)) w') (h0:∀w',Ext w w'→x≠y→R (.returned (.bool false)) w'):Calls prog 117 #[opV x pv kv,opV y pv' kv'] w R:=by
 obtain ⟨a,c,rfl,hac,hcs,hab⟩:=hx.p
 obtain ⟨q,c',rfl,hqc,hqs,hqb⟩:=hx.k
 obtain ⟨d,e,rfl,hde,hds,hdb⟩:=hy.p
 obtain ⟨r,e',rfl,hre,hrs,hrb⟩:=hy.k
 refine sh117_ok ?_
 unfold sh117
 refine ⟨⟨?_⟩⟩
 have e1:=pQ w (.cells #[.int .u8 x.op,.int .i64 x.a,.int .i64 x.b,.int .i64 x.key,.int .i64 x.val,.int .i64 x.lo,.int .i64 x.hi,.int .i64 x.n,.int .u8 x.pol,.int .u8 x.pk,.int .i64 x.pa,.int .i64 x.pb,.bool x.pnot,.slice a x.pairs.length c,.slice q x.keys.length c'] 30)
 have X1:OpAt _ _ x (.slice a x.pairs.length c) (.slice q x.keys.length c'):=pS w #[.int .u8 x.op,.int .i64 x.a,.int .i64 x.b,.int .i64 x.key,.int .i64 x.val,.int .i64 x.lo,.int .i64 x.hi,.int .i64 x.n,.int .u8 x.pol,.int .u8 x.pk,.int .i64 x.pa,.int .i64 x.pb,.bool x.pnot,.slice a x.pairs.length c,.slice q x.keys.length c'] 30
 generalize w.alloc (.cells #[.int .u8 x.op,.int .i64 x.a,.int .i64 x.b,.int .i64 x.key,.int .i64 x.val,.int .i64 x.lo,.int .i64 x.hi,.int .i64 x.n,.int .u8 x.pol,.int .u8 x.pk,.int .i64 x.pa,.int .i64 x.pb,.bool x.pnot,.slice a x.pairs.length c,.slice q x.keys.length c'] 30)=w1 at *
 generalize w.heap.size=xb at X1 ⊢
 have e2:=pQ w1 (.cells #[.int .u8 y.op,.int .i64 y.a,.int .i64 y.b,.int .i64 y.key,.int .i64 y.val,.int .i64 y.lo,.int .i64 y.hi,.int .i64 y.n,.int .u8 y.pol,.int .u8 y.pk,.int .i64 y.pa,.int .i64 y.pb,.bool y.pnot,.slice d y.pairs.length e,.slice r y.keys.length e'] 30)
 have Y2:OpAt _ _ y (.slice d y.pairs.length e) (.slice r y.keys.length e'):=pS w1 #[.int .u8 y.op,.int .i64 y.a,.int .i64 y.b,.int .i64 y.key,.int .i64 y.val,.int .i64 y.lo,.int .i64 y.hi,.int .i64 y.n,.int .u8 y.pol,.int .u8 y.pk,.int .i64 y.pa,.int .i64 y.pb,.bool y.pnot,.slice d y.pairs.length e,.slice r y.keys.length e'] 30
 generalize w1.alloc (.cells #[.int .u8 y.op,.int .i64 y.a,.int .i64 y.b,.int .i64 y.key,.int .i64 y.val,.int .i64 y.lo,.int .i64 y.hi,.int .i64 y.n,.int .u8 y.pol,.int .u8 y.pk,.int .i64 y.pa,.int .i64 y.pb,.bool y.pnot,.slice d y.pairs.length e,.slice r y.keys.length e'] 30)=w2 at *
 generalize w1.heap.size=yb at Y2 ⊢
 have X2:OpAt w2 xb x (.slice a x.pairs.length c) (.slice q x.keys.length c'):=Blk.ext X1 e2
 have E2:=e1.trans e2
 have hcs2:=hcs.ext E2
 have hqs2:=hqs.ext E2
 have hds2:=hds.ext E2
 have hrs2:=hrs.ext E2
 intro K45
 refine ⟨_,_,_,X2.cell (i:=13) rfl rfl,_,_,_,Y2.cell (i:=13) rfl rfl,pO (fun z=>h0 _ E2 fun e=>by rw [e] at z;simp at z) fun zp=>⟨_,_,_,X2.cell (i:=14) rfl rfl,_,_,_,Y2.cell (i:=14) rfl rfl,?_⟩⟩
 have zp:x.pairs.length=y.pairs.length:=by
  have zp:((x.pairs.length:Nat):Int)=((y.pairs.length:Nat):Int):=by simpa using zp
  omega
 refine pO (fun z=>h0 _ E2 fun e=>by rw [e] at z;simp at z) fun zk=>?_
 have zk:x.keys.length=y.keys.length:=by
  have zk:((x.keys.length:Nat):Int)=((y.keys.length:Nat):Int):=by simpa using zk
  omega
 refine ⟨_,_,_,X2.cell (i:=13) rfl rfl,?_⟩
 refine ⟨fun vs w'=>∃k:Nat,vs=[.int .i64 (k:Int)]∧k≤x.pairs.length∧Ext w2 w'∧x.pairs.take k=y.pairs.take k,fun vs _=>match vs with | [.int _ i]=>x.pairs.length - i.toNat | _=>0,⟨0,rfl,Nat.zero_le _,pR _,rfl⟩,?_⟩
 rintro _ _ w3 ⟨k,hvs,hk,e3,ht⟩
 simp only [List.cons.injEq,Value.int.injEq,true_and,and_true] at hvs
 subst hvs
 refine pO (fun z=>?_) fun z=>?_
 ·have z:k < x.pairs.length:=by have:=of_decide_eq_true z;omega
  refine ⟨?_⟩
  have e4:=e3.trans (pT w3)
  refine ⟨fun w'=>Ext w2 w',e4,_,_,_,fun w' e=>(X2.ext e).cell (i:=13) rfl rfl,?_⟩
  refine qZ (l:=x.pairs) (fun w' e=>hcs2.ext e) e4 rfl rfl z fun ad r1 r2=>⟨_,r1,_,r2,_,_,_,fun w' e=>(Y2.ext e).cell (i:=13) rfl rfl,?_⟩
  refine qZ (l:=y.pairs) (fun w' e=>hds2.ext e) e4 rfl rfl (by omega) fun ad r3 r4=>⟨_,r3,_,r4,pO (fun zz=>h0 _ (E2.trans e4) fun e=>?_) fun zz=>?_⟩
  ·subst e;simp at zz
  ·have he:x.pairs[k]=y.pairs[k]'(by omega):=by
    simp only [Bool.and_true,Bool.not_eq_false',Bool.and_eq_true,beq_iff_eq] at zz
    exact Prod.ext zz.1 zz.2
   rw [pW (n:=5000) (by omega) (by omega)]
   refine ⟨⟨k+1,rfl,by omega,e4,aMz z (by omega) ht he⟩,?_⟩
   show x.pairs.length - ((k+1:Nat):Int).toNat < x.pairs.length - (k:Int).toNat
   omega
 ·have z:k=x.pairs.length:=by have:=of_decide_eq_false z;omega
  have hpe:x.pairs=y.pairs:=by rwa [List.take_of_length_le (by omega),List.take_of_length_le (by omega)] at ht
  clear ht
  refine ⟨_,_,_,(X2.ext e3).cell (i:=14) rfl rfl,?_⟩
  refine ⟨fun vs w'=>∃k:Nat,vs=[.int .i64 (k:Int)]∧k≤x.keys.length∧Ext w2 w'∧x.keys.take k=y.keys.take k,fun vs _=>match vs with | [.int _ i]=>x.keys.length - i.toNat | _=>0,⟨0,rfl,Nat.zero_le _,e3,rfl⟩,?_⟩
  rintro _ _ w4 ⟨k',hvs,hk',e4,ht⟩
  simp only [List.cons.injEq,Value.int.injEq,true_and,and_true] at hvs
  subst hvs
  refine pO (fun z=>?_) fun z=>?_
  ·have z:k' < x.keys.length:=by have:=of_decide_eq_true z;omega
   refine ⟨?_⟩
   have e5:=e4.trans (pT w4)
   refine ⟨fun w'=>Ext w2 w',e5,_,_,_,fun w' e=>(X2.ext e).cell (i:=14) rfl rfl,?_⟩
   refine aNs (l:=x.keys) (fun w' e=>hqs2.ext e) e5 rfl z fun ad r1=>⟨_,r1,_,_,_,fun w' e=>(Y2.ext e).cell (i:=14) rfl rfl,?_⟩
   refine aNs (l:=y.keys) (fun w' e=>hrs2.ext e) e5 rfl (by omega) fun ad r3=>⟨_,r3,pO (fun zz=>h0 _ (E2.trans e5) fun e=>?_) fun zz=>?_⟩
   ·subst e;simp at zz
   ·have he:x.keys[k']=y.keys[k']'(by omega):=by simpa using zz
    rw [pW (n:=5000) (by omega) (by omega)]
    refine ⟨⟨k'+1,rfl,by omega,e5,aMz z (by omega) ht he⟩,?_⟩
    show x.keys.length - ((k'+1:Nat):Int).toNat < x.keys.length - (k':Int).toNat
    omega
  ·have z:k'=x.keys.length:=by have:=of_decide_eq_false z;omega
   have hke:x.keys=y.keys:=by rwa [List.take_of_length_le (by omega),List.take_of_length_le (by omega)] at ht
   have X4:OpAt w4 xb x (.slice a x.pairs.length c) (.slice q x.keys.length c'):=Blk.ext X2 e4
   have Y4:OpAt w4 yb y (.slice d y.pairs.length e) (.slice r y.keys.length e'):=Blk.ext Y2 e4
   have E4:=E2.trans e4
   intro K90
   refine ⟨_,X4.cell (i:=0) rfl rfl,_,Y4.cell (i:=0) rfl rfl,pO (fun z0=>?_) fun z=>h0 _ E4 fun e=>by rw [e] at z;simp at z⟩
   refine ⟨_,X4.cell (i:=1) rfl rfl,_,Y4.cell (i:=1) rfl rfl,pO (fun z1=>?_) fun z=>h0 _ E4 fun e=>by rw [e] at z;simp at z⟩
   refine ⟨_,X4.cell (i:=2) rfl rfl,_,Y4.cell (i:=2) rfl rfl,pO (fun z2=>?_) fun z=>h0 _ E4 fun e=>by rw [e] at z;simp at z⟩
   refine ⟨_,X4.cell (i:=3) rfl rfl,_,Y4.cell (i:=3) rfl rfl,pO (fun z3=>?_) fun z=>h0 _ E4 fun e=>by rw [e] at z;simp at z⟩
   refine ⟨_,X4.cell (i:=4) rfl rfl,_,Y4.cell (i:=4) rfl rfl,pO (fun z4=>?_) fun z=>h0 _ E4 fun e=>by rw [e] at z;simp at z⟩
   refine ⟨_,X4.cell (i:=5) rfl rfl,_,Y4.cell (i:=5) rfl rfl,pO (fun z5=>?_) fun z=>h0 _ E4 fun e=>by rw [e] at z;simp at z⟩
   refine ⟨_,X4.cell (i:=6) rfl rfl,_,Y4.cell (i:=6) rfl rfl,pO (fun z6=>?_) fun z=>h0 _ E4 fun e=>by rw [e] at z;simp at z⟩
   refine ⟨_,X4.cell (i:=7) rfl rfl,_,Y4.cell (i:=7) rfl rfl,pO (fun z7=>?_) fun z=>h0 _ E4 fun e=>by rw [e] at z;simp at z⟩
   refine ⟨_,X4.cell (i:=8) rfl rfl,_,Y4.cell (i:=8) rfl rfl,pO (fun z8=>?_) fun z=>h0 _ E4 fun e=>by rw [e] at z;simp at z⟩
   refine ⟨_,X4.cell (i:=9) rfl rfl,_,X4.cell (i:=10) rfl rfl,_,X4.cell (i:=11) rfl rfl,_,X4.cell (i:=12) rfl rfl,_,Y4.cell (i:=9) rfl rfl,_,Y4.cell (i:=10) rfl rfl,_,Y4.cell (i:=11) rfl rfl,_,Y4.cell (i:=12) rfl rfl,?_⟩
   show R (.returned (.bool ((x.pk==y.pk)&&((x.pa==y.pa)&&((x.pb==y.pb)&&((x.pnot==y.pnot)&&true)))))) w4
   cases hb:((x.pk==y.pk)&&((x.pa==y.pa)&&((x.pb==y.pb)&&((x.pnot==y.pnot)&&true))))
   ·exact h0 _ E4 fun e=>by rw [e] at hb;simp at hb
   ·simp only [Bool.and_true,Bool.and_eq_true,beq_iff_eq] at hb
    simp only [beq_iff_eq] at z0 z1 z2 z3 z4 z5 z6 z7 z8
    exact h1 _ E4 (POp.ext' z0 z1 z2 z3 z4 z5 z6 z7 z8 hb.1 hb.2.1 hb.2.2.1 hb.2.2.2 hpe hke)
theorem may_fold(p:Int):may p=vA p:=rfl
theorem hasP_pol(d:Int):hasP .pol d=(d==1||d==8||d==9||d==10||d==14):=by
 unfold hasP partsOf
 by_cases h1:d=1
 ·subst h1;rfl
 by_cases h2:d=8
 ·subst h2;rfl
 by_cases h3:d=9
 ·subst h3;rfl
 by_cases h4:d=10
 ·subst h4;rfl
 by_cases h5:d=14
 ·subst h5;rfl
 rw [show (d==1||d==8||d==9||d==10||d==14)=false by simp [h1,h2,h3,h4,h5]]
 simp only [h1,h2,h3,h4,h5,if_false,or_self,decide_eq_false_iff_not]
 intro h
 repeat' split at h
 all_goals simp at h
theorem aAk(d:Int):hasP .pred d=(d==13):=by
 unfold hasP partsOf
 by_cases h1:d=13
 ·subst h1;rfl
 rw [show (d==13)=false by simp [h1]]
 simp only [h1,if_false,decide_eq_false_iff_not]
 intro h
 repeat' split at h
 all_goals simp at h
theorem aOk{x:POp}{pv kv:Value}(hx:InO x)(hr:OpRd w x pv kv)(hP:x.pairs.length≤5000)(hK:x.keys.length≤5000)
  (h:∀w',Ext w w'→R (.returned (.int .i64 (if mayO x=true then 0 else 2))) w'):Calls prog 81 #[opV x pv kv] w R:=by
 have hr0:=hr
 obtain ⟨a,c,rfl,hac,hcs,hab⟩:=hr.p
 obtain ⟨q,c',rfl,hqc,hqs,hqb⟩:=hr.k
 refine sh81_ok ?_
 unfold sh81
 refine ⟨?_⟩
 have e1:=pQ w (.cells #[.int .u8 x.op,.int .i64 x.a,.int .i64 x.b,.int .i64 x.key,.int .i64 x.val,.int .i64 x.lo,.int .i64 x.hi,.int .i64 x.n,.int .u8 x.pol,.int .u8 x.pk,.int .i64 x.pa,.int .i64 x.pb,.bool x.pnot,.slice a x.pairs.length c,.slice q x.keys.length c'] 30)
 have X1:OpAt _ _ x (.slice a x.pairs.length c) (.slice q x.keys.length c'):=pS w #[.int .u8 x.op,.int .i64 x.a,.int .i64 x.b,.int .i64 x.key,.int .i64 x.val,.int .i64 x.lo,.int .i64 x.hi,.int .i64 x.n,.int .u8 x.pol,.int .u8 x.pk,.int .i64 x.pa,.int .i64 x.pb,.bool x.pnot,.slice a x.pairs.length c,.slice q x.keys.length c'] 30
 generalize w.alloc (.cells #[.int .u8 x.op,.int .i64 x.a,.int .i64 x.b,.int .i64 x.key,.int .i64 x.val,.int .i64 x.lo,.int .i64 x.hi,.int .i64 x.n,.int .u8 x.pol,.int .u8 x.pk,.int .i64 x.pa,.int .i64 x.pb,.bool x.pnot,.slice a x.pairs.length c,.slice q x.keys.length c'] 30)=w1 at *
 have xlt:=X1.lt
 generalize hxb:w.heap.size=xb at *
 rw [←aMi hx] at h
 refine ⟨_,X1.cell (i:=0) rfl rfl,_,X1.cell (i:=1) rfl rfl,_,X1.cell (i:=2) rfl rfl,_,X1.cell (i:=3) rfl rfl,_,X1.cell (i:=4) rfl rfl,_,X1.cell (i:=5) rfl rfl,_,X1.cell (i:=6) rfl rfl,_,X1.cell (i:=7) rfl rfl,_,X1.cell (i:=8) rfl rfl,_,X1.cell (i:=9) rfl rfl,_,X1.cell (i:=10) rfl rfl,_,X1.cell (i:=11) rfl rfl,_,X1.cell (i:=12) rfl rfl,_,_,_,X1.cell (i:=13) rfl rfl,_,_,_,X1.cell (i:=14) rfl rfl,?_⟩
 have R2:∀w',Ext w w'→aBe x=false→R (.returned (.int .i64 2)) w':=fun w' e hc=>by
  have:=h w' e
  rwa [hc,if_neg (by simp)] at this
 have R0:∀w',Ext w w'→aBe x=true→R (.returned (.int .i64 0)) w':=fun w' e hc=>by
  have:=h w' e
  rwa [hc,if_pos rfl] at this
 refine pP call116 (c_copied hx (hr0.ext e1) hP hK (fun y pv' kv' w2 hc e2 hy=>?_) fun y p n0 c0 q0 m0 d0 w2 hc e2=>?_)
 ·obtain ⟨p,c0,rfl,_⟩:=hy.p
  obtain ⟨q0,d0,rfl,_⟩:=hy.k
  refine pN ⟨_,_,_,_,_,_,_,_,_,_,_,_,_,_,_,_,_,_,_,_,rfl,⟨?_⟩⟩
  have e3:=pQ w2 (.cells #[.int .u8 0,.int .i64 0,.int .i64 0,.int .i64 0,.int .i64 0,.int .i64 0,.int .i64 0,.int .i64 0,.int .u8 0,.int .u8 0,.int .i64 0,.int .i64 0,.bool false,.slice none 0 0,.slice none 0 0] 30)
  refine st15 (pS w2 #[.int .u8 0,.int .i64 0,.int .i64 0,.int .i64 0,.int .i64 0,.int .i64 0,.int .i64 0,.int .i64 0,.int .u8 0,.int .u8 0,.int .i64 0,.int .i64 0,.bool false,.slice none 0 0,.slice none 0 0] 30) fun w4 h4 g4=>?_
  have e4:Ext w2 w4:=e3.st g4 (Nat.le_refl _)
  have Y4:OpAt w4 w2.heap.size y (.slice p y.pairs.length c0) (.slice q0 y.keys.length d0):=h4
  have X4:OpAt w4 xb x (.slice a x.pairs.length c) (.slice q x.keys.length c'):=Blk.ext X1 (e2.trans e4)
  have E4:=(e1.trans e2).trans e4
  have hr4:=hr0.ext E4
  have hy4:=hy.ext e4
  have hchk:aBe x=(decide (1≤x.op∧x.op≤22)&&aGi x y&&(!hasP .pol x.op||vA x.pol)&&(!hasP .pred x.op||qJ x.pk x.pa x.pb)):=by unfold aBe;rw [hc]
  generalize w2.heap.size=yb at *
  intro K82
  have fin:∀pol:Bool,pol=hasP .pol x.op→K82 pol w4:=by
   intro pol hpol
   refine pY rfl ⟨_,X4.cell (i:=0) rfl rfl,pO (fun z=>R2 _ E4 ?_) fun z1=>⟨_,X4.cell (i:=0) rfl rfl,pO (fun z=>R2 _ E4 ?_) fun z2=>?_⟩⟩
   ·have z:=of_decide_eq_true z
    rw [hchk,show decide (1≤x.op∧x.op≤22)=false by simp;omega];rfl
   ·have z:=of_decide_eq_true z
    rw [hchk,show decide (1≤x.op∧x.op≤22)=false by simp;omega];rfl
   have z1:=of_decide_eq_false z1
   have z2:=of_decide_eq_false z2
   rw [show decide (1≤x.op∧x.op≤22)=true by simp;omega,Bool.true_and] at hchk
   refine ⟨_,X4.cell (i:=0) rfl rfl,_,X4.cell (i:=1) rfl rfl,_,X4.cell (i:=2) rfl rfl,_,X4.cell (i:=3) rfl rfl,_,X4.cell (i:=4) rfl rfl,_,X4.cell (i:=5) rfl rfl,_,X4.cell (i:=6) rfl rfl,_,X4.cell (i:=7) rfl rfl,_,X4.cell (i:=8) rfl rfl,_,X4.cell (i:=9) rfl rfl,_,X4.cell (i:=10) rfl rfl,_,X4.cell (i:=11) rfl rfl,_,X4.cell (i:=12) rfl rfl,_,_,_,X4.cell (i:=13) rfl rfl,_,_,_,X4.cell (i:=14) rfl rfl,_,Y4.cell (i:=0) rfl rfl,_,Y4.cell (i:=1) rfl rfl,_,Y4.cell (i:=2) rfl rfl,_,Y4.cell (i:=3) rfl rfl,_,Y4.cell (i:=4) rfl rfl,_,Y4.cell (i:=5) rfl rfl,_,Y4.cell (i:=6) rfl rfl,_,Y4.cell (i:=7) rfl rfl,_,Y4.cell (i:=8) rfl rfl,_,Y4.cell (i:=9) rfl rfl,_,Y4.cell (i:=10) rfl rfl,_,Y4.cell (i:=11) rfl rfl,_,Y4.cell (i:=12) rfl rfl,_,_,_,Y4.cell (i:=13) rfl rfl,_,_,_,Y4.cell (i:=14) rfl rfl,pP call117 (c_osame hr4 hy4 hP hK (fun w5 e5 he=>pN ⟨true,rfl,pY rfl ?_⟩) fun w5 e5 hne=>pN ⟨false,rfl,pZ rfl (R2 _ (E4.trans e5) ?_)⟩)⟩
   ·rw [show aGi x y=true from zZ.2 he,Bool.true_and,←hpol] at hchk
    have X5:OpAt w5 xb x (.slice a x.pairs.length c) (.slice q x.keys.length c'):=Blk.ext X4 e5
    cases pol
    ·rw [show (!false||vA x.pol)=true from rfl,Bool.true_and] at hchk
     refine pY rfl ⟨_,(Blk.ext X5 (pR _)).cell (i:=0) rfl rfl,pO (fun z13=>⟨_,(Blk.ext X5 (pR _)).cell (i:=9) rfl rfl,_,(Blk.ext X5 (pR _)).cell (i:=10) rfl rfl,_,(Blk.ext X5 (pR _)).cell (i:=11) rfl rfl,_,(Blk.ext X5 (pR _)).cell (i:=12) rfl rfl,pP call119 (aIx hx.pa hx.pb fun w8 e8=>pN ⟨_,rfl,?_⟩)⟩) fun z13=>?_⟩
     ·rw [aAk,z13] at hchk
      cases hpm:qJ x.pk x.pa x.pb
      ·exact pZ rfl (R2 _ ((E4.trans e5).trans e8) (by rw [hchk,hpm];rfl))
      ·exact pY rfl (R0 _ ((E4.trans e5).trans e8) (by rw [hchk,hpm];rfl))
     ·exact R0 _ (E4.trans e5) (by rw [hchk,aAk,z13];rfl)
    ·rw [show (!true||vA x.pol)=vA x.pol from rfl] at hchk
     refine pZ rfl ⟨_,X5.cell (i:=8) rfl rfl,pP call118 (aJe fun w6 e6=>pN ⟨_,rfl,?_⟩)⟩
     rw [may_fold]
     cases hpp:vA x.pol
     ·exact pZ rfl (R2 _ ((E4.trans e5).trans e6) (by rw [hchk,hpp];rfl))
     rw [hpp,Bool.true_and] at hchk
     refine pY rfl ⟨_,(Blk.ext X5 e6).cell (i:=0) rfl rfl,pO (fun z13=>⟨_,(Blk.ext X5 e6).cell (i:=9) rfl rfl,_,(Blk.ext X5 e6).cell (i:=10) rfl rfl,_,(Blk.ext X5 e6).cell (i:=11) rfl rfl,_,(Blk.ext X5 e6).cell (i:=12) rfl rfl,pP call119 (aIx hx.pa hx.pb fun w8 e8=>pN ⟨_,rfl,?_⟩)⟩) fun z13=>?_⟩
     ·rw [aAk,z13] at hchk
      cases hpm:qJ x.pk x.pa x.pb
      ·exact pZ rfl (R2 _ (((E4.trans e5).trans e6).trans e8) (by rw [hchk,hpm];rfl))
      ·exact pY rfl (R0 _ (((E4.trans e5).trans e6).trans e8) (by rw [hchk,hpm];rfl))
     ·exact R0 _ ((E4.trans e5).trans e6) (by rw [hchk,aAk,z13];rfl)
   ·rw [hchk]
    cases hs:aGi x y
    ·rfl
    ·exact absurd (zZ.1 hs) hne
  have hp:=hasP_pol x.op
  refine ⟨_,X4.cell (i:=0) rfl rfl,pO (fun z=>fin true (by rw [hp,z];rfl)) fun z1=>⟨_,X4.cell (i:=0) rfl rfl,pO (fun z=>fin true (by rw [hp,z1,z];rfl)) fun z2=>⟨_,X4.cell (i:=0) rfl rfl,pO (fun z=>fin true (by rw [hp,z1,z2,z];rfl)) fun z3=>
   ⟨_,X4.cell (i:=0) rfl rfl,pO (fun z=>fin true (by rw [hp,z1,z2,z3,z];rfl)) fun z4=>⟨_,X4.cell (i:=0) rfl rfl,fin _ (by rw [hp,z1,z2,z3,z4];rfl)⟩⟩⟩⟩⟩
 ·refine pN ⟨_,_,_,_,_,_,_,_,_,_,_,_,_,_,_,_,_,_,_,_,rfl,⟨?_⟩⟩
  have e3:=pQ w2 (.cells #[.int .u8 0,.int .i64 0,.int .i64 0,.int .i64 0,.int .i64 0,.int .i64 0,.int .i64 0,.int .i64 0,.int .u8 0,.int .u8 0,.int .i64 0,.int .i64 0,.bool false,.slice none 0 0,.slice none 0 0] 30)
  refine st15 (pS w2 #[.int .u8 0,.int .i64 0,.int .i64 0,.int .i64 0,.int .i64 0,.int .i64 0,.int .i64 0,.int .i64 0,.int .u8 0,.int .u8 0,.int .i64 0,.int .i64 0,.bool false,.slice none 0 0,.slice none 0 0] 30) fun w4 h4 g4=>?_
  have e4:Ext w2 w4:=e3.st g4 (Nat.le_refl _)
  have X4:OpAt w4 xb x (.slice a x.pairs.length c) (.slice q x.keys.length c'):=Blk.ext X1 (e2.trans e4)
  have bad:=R2 w4 ((e1.trans e2).trans e4) (by unfold aBe;rw [hc])
  intro K82
  have fin:∀pol,K82 pol w4:=fun pol=>pZ rfl bad
  exact ⟨_,X4.cell (i:=0) rfl rfl,pO (fun z=>fin _) fun z1=>⟨_,X4.cell (i:=0) rfl rfl,pO (fun z=>fin _) fun z2=>⟨_,X4.cell (i:=0) rfl rfl,pO (fun z=>fin _) fun z3=>
   ⟨_,X4.cell (i:=0) rfl rfl,pO (fun z=>fin _) fun z4=>⟨_,X4.cell (i:=0) rfl rfl,fin _⟩⟩⟩⟩⟩
theorem wJ(o a:Int):cmpI o a a=0:=by unfold cmpI;split <;> simp
theorem aFq{o a b:Int}(h:cmpI o a b < 0):0 < cmpI o b a:=by
 unfold cmpI at *
 split at h
 ·rename_i ho
  rw [if_pos ho]
  split at h
  ·rw [if_neg (by omega),if_pos (by omega)];omega
  ·split at h <;> omega
 ·omega
theorem xZ{o a b:Int}(h:0 < cmpI o a b):cmpI o b a < 0:=by
 unfold cmpI at *
 split at h
 ·rename_i ho
  rw [if_pos ho]
  split at h
  ·omega
  ·split at h
   ·rw [if_pos (by omega)];omega
   ·omega
 ·omega
theorem aCf{o a b:Int}(ho:isO o=true)(ha:In a)(hb:In b)(h:cmpI o a b=0):a=b:=by
 have ho':1≤o∧o≤7:=by simpa [isO] using ho
 unfold cmpI at h
 rw [if_pos ho'] at h
 split at h
 ·omega
 ·split at h
  ·omega
  ·exact aPu (o:=o) ha hb (by omega)
theorem xL{o:Int}{l:List Pr}(h:mayR o l=true):isO o=true:=by simp [mayR] at h;exact h.1
theorem aFh{o:Int}{l:List Pr}(hc:chain o l=true){i:Nat}(hi:i < l.length):idxR o l l[i].1=i:=
 aCb (by omega) (fun j hj hji=>vU hc hji hi) fun _=>by rw [wJ];omega
theorem wT{o:Int}{l:List Pr}{key:Int}(hm:mayR o l=true):hasR o l key=true↔∃i,∃h:i < l.length,l[i].1=key:=by
 constructor
 ·intro h;exact ⟨_,sH h,wS h⟩
 ·rintro ⟨i,hi,rfl⟩
  have:=aFh (tK hm) hi
  unfold hasR
  rw [hm,this,List.getElem?_eq_getElem hi]
  simp
theorem wE{o:Int}{l:List Pr}{q:OA}{n c:Nat}(hl:Cs w q (prs l))(hn:l.length=n)(hm:n≤1000000000000)(hI:InP l)
  (h:∀w',Ext w w'→R (.returned (.bool (mayR o l))) w'):Calls prog 88 #[.int .u8 o,.slice q n c] w R:=by
 refine sh88_ok ?_
 unfold sh88
 refine ⟨fun vs w'=>∃k:Nat,vs=[.int .i64 (k+1:Nat)]∧(k=0∨k < n)∧Ext w w'∧chain o (l.take (k+1))=true,fun vs _=>n+1 - (intOf (vs.getD 0 undef)).toNat,
  ⟨0,rfl,.inl rfl,pR w,?_⟩,?_⟩
 ·cases l <;> rfl
 rintro i _ w1 ⟨k,hv,hk,E,hc⟩
 simp only [List.cons.injEq,Value.int.injEq,true_and,and_true] at hv
 subst hv
 refine pO (fun hlt=>?_) fun hge=>?_
 ·have hlt:k+1 < n:=by have:=of_decide_eq_true hlt;omega
  have e:IntKind.wrap .i64 (((k+1:Nat):Int) - 1)=(k:Int):=by rw [qB (by omega) (by omega)];omega
  refine ⟨⟨fun w'=>Ext w1 w',pT _,?_⟩⟩
  refine qZ (fun w' e=>(hl.ext E).ext e) (pR _) hn e (by omega) fun a r1 _=>⟨_,r1,?_⟩
  refine qZ (fun w' e=>(hl.ext E).ext e) (pR _) hn rfl hlt fun a' r2 _=>⟨_,r2,?_⟩
  refine pP call87 (wD (hI _ (List.getElem_mem _)).1 (hI _ (List.getElem_mem _)).1 (pN ⟨_,rfl,?_⟩))
  refine pO (fun h1=>?_) fun h1=>?_
  ·have h1:¬cmpI o l[k].1 l[k+1].1 < 0:=by simpa using h1
   have hf:chain o l=false:=by
    cases hch:chain o l
    ·rfl
    ·exact absurd (wK hch k (by omega)) h1
   have hr:=h w1.drew E.drew
   simp only [mayR,hf,Bool.and_false] at hr
   exact hr
  ·have h1:cmpI o l[k].1 l[k+1].1 < 0:=by simpa using h1
   refine ⟨⟨k+1,?_,by omega,E.drew,aFs fun j hj=>?_⟩,?_⟩
   ·rw [pW hlt (by omega)]
   ·simp only [List.length_take] at hj
    simp only [List.getElem_take]
    by_cases hjk:j=k
    ·subst hjk;exact h1
    ·have:=wK hc j (by simp only [List.length_take];omega)
     simpa only [List.getElem_take] using this
   ·rw [pW hlt (by omega)];simp [intOf];omega
 ·have hge:n≤k+1:=by have:=of_decide_eq_false hge;omega
  rw [List.take_of_length_le (by omega)] at hc
  refine pP call19 (aHj (pN ⟨_,rfl,?_⟩))
  have hr:=h w1 E
  simp only [mayR,hc,Bool.and_true] at hr
  exact hr
theorem aCi{o key:Int}{l:List Pr}{q:OA}{n c:Nat}(hl:Cs w q (prs l))(hn:l.length=n)(hm:n≤1000000000000)(hI:InP l)(hk:In key)
  (h:∀w',Ext w w'→R (.returned (.tuple #[.int .i64 (posR o l key:Nat),.bool (hasR o l key)])) w'):Calls prog 48 #[.int .u8 o,.slice q n c,.int .i64 key] w R:=by
 refine sh48_ok ?_
 unfold sh48
 refine pP call88 (wE hl hn hm hI fun w1 e1=>pN ⟨_,rfl,?_⟩)
 cases hmay:mayR o l
 ·refine pZ rfl ?_
  have hr:=h w1 e1
  simp only [posR,hasR,hmay,cond_false,Bool.false_and] at hr
  exact hr
 refine pY rfl ?_
 have hp:posR o l key=idxR o l key:=by unfold posR;rw [hmay];rfl
 refine ⟨fun vs w'=>∃k:Nat,vs=[.int .i64 k]∧k≤n∧Ext w w'∧∀i (h:i < l.length),i < k→cmpI o l[i].1 key < 0,fun vs _=>n - (intOf (vs.getD 0 undef)).toNat,⟨0,rfl,by omega,e1,fun i _ hi=>by omega⟩,?_⟩
 rintro i _ w2 ⟨k,hv,hkn,E,hlo⟩
 simp only [List.cons.injEq,Value.int.injEq,true_and,and_true] at hv
 subst hv
 refine pO (fun hlt=>?_) fun hge=>?_
 ·have hlt:k < n:=by have:=of_decide_eq_true hlt;omega
  refine rI (hl.ext E) hn rfl hlt fun a r1 _ _=>⟨_,r1,?_⟩
  refine pP call87 (wD (hI _ (List.getElem_mem _)).1 hk (pN ⟨_,rfl,?_⟩))
  refine pO (fun h1=>?_) fun h1=>?_
  ·have h1:0≤cmpI o l[k].1 key:=by
                      have:¬cmpI o l[k].1 key < 0:=by simpa using h1
                      omega
   have hi:idxR o l key=k:=aCb (by omega) hlo fun _=>h1
   refine ⟨⟨fun w'=>Ext w2 w',pT _,?_⟩⟩
   refine qZ (fun w' e=>(hl.ext E).ext e) (pR _) hn rfl hlt fun a r2 _=>⟨_,r2,?_⟩
   have hr:=h w2.drew E.drew
   simp only [hp,hasR,hmay,Bool.true_and,hi] at hr
   rw [List.getElem?_eq_getElem (by omega)] at hr
   exact hr
  ·have h1:cmpI o l[k].1 key < 0:=by simpa using h1
   refine ⟨⟨k+1,?_,by omega,E,fun i hi hik=>?_⟩,?_⟩
   ·rw [pW hlt (by omega)]
   ·by_cases hik':i=k
    ·subst hik';exact h1
    ·exact hlo i hi (by omega)
   ·rw [pW hlt (by omega)];simp [intOf];omega
 ·have hge:k=n:=by have:=of_decide_eq_false hge;omega
  subst hge
  have hi:idxR o l key=k:=aCb (by omega) hlo fun hlt=>by omega
  have hr:=h w2 E
  simp only [hp,hasR,hmay,Bool.true_and,hi] at hr
  rw [List.getElem?_eq_none (by omega)] at hr
  exact hr
theorem aDz{o key:Int}{l:List Pr}{q:OA}{n c:Nat}(hl:Cs w q (prs l))(hn:l.length=n)(hm:n≤1000000000000)(hI:InP l)(hk:In key)
  (h:∀w',Ext w w'→R (.returned (.tuple #[.int .i64 (getR o l key),.bool (hasR o l key)])) w'):Calls prog 33 #[.int .u8 o,.slice q n c,.int .i64 key] w R:=by
 refine sh33_ok ?_
 unfold sh33
 refine pP call48 (aCi hl hn hm hI hk fun w1 e1=>pN ⟨_,_,rfl,?_⟩)
 have hr:=h w1 e1
 unfold getR at hr
 cases hm:hasR o l key
 ·refine pZ rfl ?_
  rw [hm] at hr
  exact hr
 ·refine pY rfl ?_
  have hlt:=sH hm
  rw [hm,rQ hlt] at hr
  exact rI (hl.ext e1) hn rfl (by omega) fun a _ r2 _=>⟨_,r2,hr⟩
theorem c_r4ceil{o key:Int}{l:List Pr}{q:OA}{n c:Nat}(hl:Cs w q (prs l))(hn:l.length=n)(hm:n≤1000000000000)(hI:InP l)(hk:In key)
  (h:∀w',Ext w w'→R (.returned (.tuple #[agP (vY o l key),.bool (sM o l key)])) w'):Calls prog 39 #[.int .u8 o,.slice q n c,.int .i64 key] w R:=by
 refine sh39_ok ?_
 unfold sh39
 refine ⟨?_⟩
 have e0:=pQ w (.cells #[.int .i64 0,.int .i64 0] 63)
 have hb:=pS w #[.int .i64 0,.int .i64 0] 63
 generalize hb0:w.heap.size=b at *
 generalize w.alloc (.cells #[.int .i64 0,.int .i64 0] 63)=w0 at *
 have hno:∀{w':World},Ext w w'→Blk w' b #[.int .i64 0,.int .i64 0] 63→sM o l key=false→vY o l key=(0,0)→
   doSt ((blk b).add 0) (.int .i64 0) w' (fun w10=>doSt ((blk b).add 1) (.int .i64 0) w10 (fun w11=>∃(x12:Int),w11.cell? ((blk b).add 0)=some (.int .i64 x12)∧(
    ∃(x13:Int),w11.cell? ((blk b).add 1)=some (.int .i64 x13)∧(R (.returned (.tuple #[.agg #[.int .i64 x12,.int .i64 x13],.bool false])) w11)))):=by
  intro w' e' hb' hi hc
  refine vX hb' fun w2 h2 g2=>⟨_,h2.cell (i:=0) rfl rfl,_,h2.cell (i:=1) rfl rfl,?_⟩
  have hr:=h w2 (e'.st g2 (by omega))
  rw [hi,hc] at hr
  exact hr
 refine pP call48 (aCi (hl.ext e0) hn hm hI hk fun w1 e1=>pN ⟨_,_,rfl,?_⟩)
 have E:=e0.trans e1
 have hb:=hb.ext e1
 refine pP call88 (wE (hl.ext E) hn hm hI fun w2 e2=>pN ⟨_,rfl,?_⟩)
 have E:=E.trans e2
 have hb:=hb.ext e2
 refine pO (fun hm=>?_) fun hm=>?_
 ·have hm:mayR o l=false:=by simpa using hm
  exact hno E hb (by simp [sM,hm]) (by simp [vY,hm])
 ·have hm:mayR o l=true:=by simpa using hm
  refine pO (fun hp=>?_) fun hp=>?_
  ·have hp:¬posR o l key < l.length:=by have:=of_decide_eq_true hp;omega
   refine hno E hb (by simp [sM,hp]) ?_
   unfold vY
   simp [hm,List.getElem?_eq_none (show l.length≤posR o l key by omega)]
  ·have hp:posR o l key < n:=by have:=of_decide_eq_false hp;omega
   refine rI (hl.ext E) hn rfl (by omega) fun a r1 r2 _=>⟨_,r1,_,r2,?_⟩
   refine vX hb fun w2 h2 g2=>⟨_,h2.cell (i:=0) rfl rfl,_,h2.cell (i:=1) rfl rfl,?_⟩
   have hr:=h w2 (E.st g2 (by omega))
   simp only [vY,sM,hm,cond_true,rQ (show posR o l key < l.length by omega),Bool.true_and,decide_eq_true (show posR o l key < l.length by omega)] at hr
   exact hr
theorem aFx{l r:List Pr}{q q':OA}{n c n' c':Nat}(hl:Cs w q (prs l))(hn:l.length=n)(hr:Cs w q' (prs r))(hn':r.length=n')(hm:n≤1000000000000)
  (h:∀w',Ext w w'→R (.returned (.bool (decide (l=r)))) w'):Calls prog 8 #[.slice q n c,.slice q' n' c'] w R:=by
 refine sh8_ok ?_
 unfold sh8
 refine pO (fun hne=>?_) fun heq=>?_
 ·have hne:l≠r:=fun e=>by subst e;simp [←hn,←hn'] at hne
  have:=h w (pR w)
  rw [decide_eq_false hne] at this
  exact this
 have heq:n=n':=by simp at heq;omega
 subst heq
 refine ⟨fun vs w'=>∃k:Nat,vs=[.int .i64 k]∧k≤n∧Ext w w'∧l.take k=r.take k,fun vs _=>n - (intOf (vs.getD 0 undef)).toNat,⟨0,rfl,by omega,pR w,by simp⟩,?_⟩
 rintro i _ w2 ⟨k,hv,hkn,E,hlo⟩
 simp only [List.cons.injEq,Value.int.injEq,true_and,and_true] at hv
 subst hv
 refine pO (fun hlt=>?_) fun hge=>?_
 ·have hlt:k < n:=by have:=of_decide_eq_true hlt;omega
  refine ⟨⟨fun w'=>Ext w2 w',pT _,?_⟩⟩
  refine qZ (fun w' e=>(hl.ext E).ext e) (pR _) hn rfl hlt fun a r1 r2=>⟨_,r1,_,r2,?_⟩
  refine qZ (fun w' e=>(hr.ext E).ext e) (pR _) hn' rfl hlt fun a r3 r4=>⟨_,r3,_,r4,?_⟩
  refine pO (fun h1=>?_) fun h1=>?_
  ·have hne:l≠r:=fun e=>by subst e;simp at h1
   have:=h w2.drew E.drew
   rw [decide_eq_false hne] at this
   exact this
  ·have h1:l[k]=r[k]:=by simp at h1;exact Prod.ext h1.1 h1.2
   refine ⟨⟨k+1,?_,by omega,E.drew,?_⟩,?_⟩
   ·rw [pW hlt (by omega)]
   ·rw [←List.take_append_getElem (by omega),←List.take_append_getElem (by omega),hlo,h1]
   ·rw [pW hlt (by omega)];simp [intOf];omega
 ·have hge:k=n:=by have:=of_decide_eq_false hge;omega
  subst hge
  rw [List.take_of_length_le (by omega),List.take_of_length_le (by omega)] at hlo
  have:=h w2 E
  rw [decide_eq_true hlo] at this
  exact this
theorem c_r4sum{l:List Pr}{q:OA}{n c:Nat}(hl:Cs w q (prs l))(hn:l.length=n)(hm:n≤1000000000000)
  (h:R (.returned (.int .i64 (sumL (l.map (·.2))))) w):Calls prog 50 #[.slice q n c] w R:=by
 refine sh50_ok ?_
 unfold sh50
 refine ⟨fun vs w'=>∃k:Nat,vs=[.int .i64 (sumL ((l.take k).map (·.2))),.int .i64 k]∧k≤n∧w'=w,fun vs _=>n - (intOf (vs.getD 1 undef)).toNat,⟨0,rfl,by omega,rfl⟩,?_⟩
 rintro v i _ w2 ⟨k,hv,hkn,rfl⟩
 simp only [List.cons.injEq,Value.int.injEq,true_and,and_true] at hv
 obtain ⟨rfl,rfl⟩:=hv
 refine pO (fun hlt=>?_) fun hge=>?_
 ·have hlt:k < n:=by have:=of_decide_eq_true hlt;omega
  refine rI hl hn rfl hlt fun a _ r2 _=>⟨_,r2,⟨k+1,?_,by omega,rfl⟩,?_⟩
  ·rw [pW hlt (by omega),show l.take (k+1)=l.take k++[l[k]'(by omega)] from (List.take_append_getElem (by omega)).symm]
   simp only [List.map_append,List.map_cons,List.map_nil,sumL,List.foldl_append,List.foldl_cons,List.foldl_nil]
  ·rw [pW hlt (by omega)];simp [intOf];omega
 ·have hge:k=n:=by have:=of_decide_eq_false hge;omega
  subst hge
  rw [List.take_of_length_le (by omega)]
  exact h
theorem key_ne{o:Int}{l:List Pr}(hc:chain o l=true){i j:Nat}(hi:i < l.length)(hj:j < l.length)(h:l[i].1=l[j].1):i=j:=by
 rcases Nat.lt_trichotomy i j with h1 | h1 | h1
 ·have:=vU hc h1 hj;rw [h,wJ] at this;omega
 ·exact h1
 ·have:=vU hc h1 hi;rw [h,wJ] at this;omega
theorem aBb{l:List Pr}{key:Int}(h:∀i (h:i < l.length),l[i].1≠key):l.filter (fun x=>!(x.1==key))=l:=by
 rw [List.filter_eq_self]
 intro x hx
 obtain ⟨i,hi,rfl⟩:=List.getElem_of_mem hx
 simpa using h i hi
theorem uK{o:Int}{l:List Pr}{key:Int}(hm:mayR o l=true):rY o l key=l.filter (fun x=>!(x.1==key)):=by
 unfold rY
 rw [hm]
 cases hh:hasR o l key
 ·refine (aBb fun i hi e=>?_).symm
  have:=(wT hm).2 ⟨i,hi,e⟩
  rw [hh] at this;cases this
 ·have hlt:=sH hh
  have hk:=wS hh
  have hc:=tK hm
  obtain ⟨i,hi⟩:∃i,i=posR o l key:=⟨_,rfl⟩
  simp only [←hi] at hlt hk ⊢
  have e:l=l.take i++(l[i]::l.drop (i+1)):=by rw [←List.drop_eq_getElem_cons hlt,List.take_append_drop]
  have h1:(l.take i).filter (fun x=>!(x.1==key))=l.take i:=aBb fun j hj e=>by
   simp only [List.length_take] at hj
   simp only [List.getElem_take] at e
   have:=key_ne hc (i:=j) (j:=i) (by omega) hlt (by rw [e,hk])
   omega
  have h2:(l.drop (i+1)).filter (fun x=>!(x.1==key))=l.drop (i+1):=aBb fun j hj e=>by
   simp only [List.length_drop] at hj
   simp only [List.getElem_drop] at e
   have:=key_ne hc (i:=i+1+j) (j:=i) (by omega) hlt (by rw [e,hk])
   omega
  simp only [cond_true]
  conv=>rhs;rw [e]
  rw [List.filter_append,List.filter_cons_of_neg (by simp [hk]),h1,h2]
theorem has_any{o:Int}{l:List Pr}{key:Int}(hm:mayR o l=true):hasR o l key=l.any (fun x=>x.1==key):=by
 rw [Bool.eq_iff_iff,wT hm,List.any_eq_true]
 constructor
 ·rintro ⟨i,hi,e⟩;exact ⟨_,List.getElem_mem hi,by simpa using e⟩
 ·rintro ⟨x,hx,e⟩
  obtain ⟨i,hi,rfl⟩:=List.getElem_of_mem hx
  exact ⟨i,hi,by simpa using e⟩
theorem aKu{o key:Int}{l:List Pr}{q:OA}{n c:Nat}(hl:Cs w q (prs l))(hn:l.length=n)(hm:n≤1000000000000)(hI:InP l)
  (h:∀p n' c' w',OwnP w' w.heap.size p n' c' (rY o l key)→Ext w w'→R (.returned (.tuple #[.slice p n' c',.bool (hasR o l key)])) w'):Calls prog 36 #[.int .u8 o,.slice q n c,.int .i64 key] w R:=by
 refine sh36_ok ?_
 unfold sh36
 refine pP call88 (wE hl hn hm hI fun w1 e1=>pN ⟨_,rfl,?_⟩)
 cases hmay:mayR o l
 ·refine pZ rfl ?_
  have hr:=h none 0 0 w1
  simp only [rY,hasR,hmay,cond_false,Bool.false_and] at hr
  exact hr (qH _ _) e1
 refine pY rfl ?_
 refine ⟨fun vs w'=>∃(k n' c':Nat) (p:OA),vs=[.slice p n' c',.bool ((l.take k).any fun x=>x.1==key),.int .i64 k]∧k≤n∧n'≤k∧Ext w w'∧OwnP w' w.heap.size p n' c' ((l.take k).filter fun x=>!(x.1==key)),
  fun vs _=>n - (intOf (vs.getD 2 undef)).toNat,⟨0,0,0,none,rfl,by omega,by omega,e1,qH _ _⟩,?_⟩
 rintro p1 n1 c1 b1 i1 _ w2 ⟨k,n',c',p,hv,hkn,hnk,E,ho⟩
 simp only [List.cons.injEq,Value.slice.injEq,Value.int.injEq,Value.bool.injEq,true_and,and_true] at hv
 obtain ⟨⟨rfl,rfl,rfl⟩,rfl,rfl⟩:=hv
 refine pO (fun hlt=>?_) fun hge=>?_
 ·have hlt:k < n:=by have:=of_decide_eq_true hlt;omega
  have htk:l.take (k+1)=l.take k++[l[k]'(by omega)]:=(List.take_append_getElem (by omega)).symm
  refine rI (hl.ext E) hn rfl hlt fun a r1 _ _=>⟨_,r1,?_⟩
  refine pO (fun h1=>?_) fun h1=>?_
  ·refine ⟨⟨k+1,n1,c1,p1,?_,by omega,by omega,E,?_⟩,?_⟩
   ·rw [pW hlt (by omega),htk,List.any_append];simp only [List.any_cons,h1,Bool.true_or,Bool.or_true]
   ·rw [htk,List.filter_append,List.filter_cons_of_neg (by simp [h1]),List.filter_nil,List.append_nil];exact ho
   ·rw [pW hlt (by omega)];simp [intOf];omega
  ·refine rI (hl.ext E) hn rfl hlt fun a r1 r2 _=>⟨_,r1,_,r2,⟨?_⟩⟩
   have e3:=pQ w2 (.cells #[.int .i64 (l[k]'(by omega)).1,.int .i64 (l[k]'(by omega)).2] 63)
   refine wX elP (e3.row ho) (m:=1) (qY w2 _ _) (by simp) (by simp [Value.oneCell']) (by simp only [maxLen];omega) (by omega) (Nat.le_trans E.size e3.size) fun p' c' w4 h4 g4=>pN ⟨_,_,_,rfl,?_⟩
   refine ⟨⟨k+1,n1+1,c',p',?_,by omega,by omega,tS (e3.row ho) (E.trans e3) g4 (Nat.le_refl _),?_⟩,?_⟩
   ·rw [pW hlt (by omega),htk,List.any_append];simp only [List.any_cons,List.any_nil,h1,Bool.or_false]
   ·rw [htk,List.filter_append,List.filter_cons_of_pos (by simp [h1]),List.filter_nil]
    unfold OwnP
    rw [rH];exact h4
   ·rw [pW hlt (by omega)];simp [intOf];omega
 ·have hge:k=n:=by have:=of_decide_eq_false hge;omega
  subst hge
  have hr:=h p1 n1 c1 w2
  rw [uK hmay,has_any hmay] at hr
  rw [List.take_of_length_le (by omega)] at ho ⊢
  exact hr ho E
theorem put_eq{o p:Int}{l:List Pr}{x:Pr}(hh:hasR o l x.1=true):
  l.set (posR o l x.1) (x.1,comb p (l.getD (posR o l x.1) (0,0)).2 x.2)=l.take (posR o l x.1)++(x.1,comb p (l.getD (posR o l x.1) (0,0)).2 x.2)::l.drop (posR o l x.1+1):=
 List.set_eq_take_append_cons_drop.trans (if_pos (sH hh))
theorem aOg{o p:Int}{l:List Pr}{x:Pr}{q:OA}{n c:Nat}(hl:Cs w q (prs l))(hn:l.length=n)(hnc:n≤c)(hm:n≤1000000000000)(hI:InP l)(hx:In x.1)
  (h:∀p' n' c' w',OwnP w' w.heap.size p' n' c' (putR o p l x)→Ext w w'→R (.returned (.tuple #[.slice p' n' c',.int .i64 (putE o p l)])) w'):Calls prog 34 #[.int .u8 o,.int .u8 p,.slice q n c,agP x] w R:=by
 refine sh34_ok ?_
 unfold sh34
 refine ⟨?_⟩
 have e0:=pQ w (.cells #[.int .i64 x.1,.int .i64 x.2] 63)
 have hb:=pS w #[.int .i64 x.1,.int .i64 x.2] 63
 generalize hb0:w.heap.size=b at *
 generalize w.alloc (.cells #[.int .i64 x.1,.int .i64 x.2] 63)=w0 at *
 refine pP call88 (wE (hl.ext e0) hn hm hI fun w1 e1=>pN ⟨_,rfl,?_⟩)
 have E1:=e0.trans e1
 have hb1:=hb.ext e1
 cases hmay:mayR o l
 ·refine pZ rfl ?_
  have hr:=h none 0 0 w1
  simp only [putR,putE,hmay,cond_false,Bool.false_and] at hr
  exact hr (qH _ _) E1
 refine pY rfl ?_
 refine pP call89 (aIy (pN ⟨_,rfl,?_⟩))
 cases hp:may p
 ·refine pZ rfl ?_
  have hr:=h none 0 0 w1
  simp only [putR,putE,hp,cond_false,Bool.and_false] at hr
  exact hr (qH _ _) E1
 refine pY rfl ?_
 refine ⟨_,hb1.cell (by rw [pU]) rfl,?_⟩
 refine pP call48 (aCi (hl.ext E1) hn hm hI hx fun w2 e2=>pN ⟨_,_,rfl,?_⟩)
 have E2:=E1.trans e2
 have hb2:=hb1.ext e2
 have hple:=aAf o l x.1
 refine aEh (a:=0) (b:=posR o l x.1) (hl.ext E2) hn hnc rfl rfl (by omega) (by omega) fun q1 hq1 _=>?_
 simp only [List.drop_zero,Nat.sub_zero] at hq1 ⊢
 refine wX elP (qH w2 w2.heap.size) (m:=posR o l x.1) hq1 (by simp;omega) tE (by simp only [maxLen];omega) (by omega) (Nat.le_refl _) fun p3 c3 w3 h3 g3=>pN ⟨_,_,_,rfl,?_⟩
 simp only [Nat.zero_add,aIb,List.nil_append] at h3 ⊢
 have e3:Ext w2 w3:=(pR w2).grown g3 (by simp [Value.ownBlock])
 have E3:=E2.trans e3
 have hb3:=hb2.ext e3
 have hsz:b < w2.heap.size:=hb2.lt
 have hK:∀(y:Pr) (i:Nat) (w4:World),Ext w w4→Blk w4 b #[.int .i64 y.1,.int .i64 y.2] 63→OwnP w4 w2.heap.size p3 (posR o l x.1) c3 (l.take (posR o l x.1))→w2.heap.size≤w4.heap.size→i≤n→
   putR o p l x=l.take (posR o l x.1)++y::l.drop i → 
   doDr w4 (fun w30=>∃(C29:World→Prop),C29 w30∧(∃(x31:Int),(∀w,C29 w→w.cell? ((blk b).add 0)=some (.int .i64 x31))∧(∃(x32:Int),(∀w,C29 w→w.cell? ((blk b).add 1)=some (.int .i64 x32))∧(
    doSl q c 2 (i:Nat) (((n:Nat):Int)) (fun p33 n34 c35=>doAl (.cells #[.int .i64 x31,.int .i64 x32] 63) w30 (fun b36 w37=>
    doGo prog (.builtin .append #[22,22] 22 #[false,false]) #[.slice p3 (posR o l x.1) c3,.slice (some (blk b36)) 1 1] w37 (retS (fun v41 w42=>∃(xp38:OA),∃(xn39:Nat),∃(xc40:Nat),v41=(.slice xp38 xn39 xc40:Value)∧(C29 w42∧(
    doGo prog (.builtin .append #[22,22] 22 #[false,false]) #[.slice xp38 xn39 xc40,.slice p33 n34 c35] w42 (retS (fun v46 w47=>∃(xp43:OA),∃(xn44:Nat),∃(xc45:Nat),v46=(.slice xp43 xn44 xc45:Value)∧(C29 w47∧(
    R (.returned (.tuple #[.slice xp43 xn44 xc45,.int .i64 0])) w47))) (fun ch w=>Kfn R ch [] w))))) (fun ch w=>Kfn R ch [] w)))))))):=by
  intro y i w4 E4 hb4 ho4 hsz4 hi hput
  refine ⟨⟨fun w'=>Ext w w'∧Blk w' b #[.int .i64 y.1,.int .i64 y.2] 63,⟨E4.drew,hb4⟩,_,fun w' e=>e.2.cell (by rw [pU]) rfl,_,fun w' e=>e.2.cell (by rw [pU]) rfl,?_⟩⟩
  refine aEh (w:=w) (a:=i) (b:=n) hl hn hnc rfl rfl hi (Nat.le_refl n) fun q5 hq5 _=>⟨?_⟩
  rw [←hn,List.take_length] at hq5
  have e5:=pQ w4.drew (.cells #[.int .i64 y.1,.int .i64 y.2] 63)
  have ho5:=wP ho4 ((pT w4).trans e5) (Nat.le_refl _)
  refine wX elP ho5 (m:=1) (qY w4.drew _ _) (by simp) (by simp [Value.oneCell']) (by simp only [maxLen];omega) (by omega) (Nat.le_trans hsz4 e5.size) fun p6 c6 w6 h6 g6=>pN ⟨_,_,_,rfl,?_⟩
  have e6:Ext w w6:=tS ho5 (E4.drew.trans e5) g6 (by omega)
  have hb6:Blk w6 b #[.int .i64 y.1,.int .i64 y.2] 63:=Blk.grown (Blk.ext hb4 ((pT w4).trans e5)) g6 (by
   intro hk;have:=(World.ownsRow.lt ho5 _ hk.symm).1;omega)
  have h6':OwnP w6 w2.heap.size p6 (posR o l x.1+1) c6 (l.take (posR o l x.1)++[y]):=by unfold OwnP;rw [rH];exact h6
  refine ⟨⟨e6,hb6⟩,?_⟩
  refine wX elP h6' (m:=n - i) (hq5.ext e6) (by simp;omega) tE (by simp only [maxLen];omega) (by omega) (Nat.le_trans hsz4 (Nat.le_trans e5.size g6.size)) fun p7 c7 w7 h7 g7=>pN ⟨_,_,_,rfl,?_⟩
  have e7:Ext w w7:=tS h6' e6 g7 (by omega)
  have hb7:Blk w7 b #[.int .i64 y.1,.int .i64 y.2] 63:=Blk.grown hb6 g7 (by
   intro hk;have:=(World.ownsRow.lt h6' _ hk.symm).1;omega)
  refine ⟨⟨e7,hb7⟩,?_⟩
  have hr:=h p7 (posR o l x.1+1+(n - i)) c7 w7
  simp only [putE,hp,hmay,cond_true,Bool.and_true] at hr
  refine hr ?_ e7
  rw [hput,show l.take (posR o l x.1)++y::l.drop i=(l.take (posR o l x.1)++[y])++l.drop i by simp]
  unfold OwnP
  rw [rH]
  exact rO h7 (by omega)
 have hp3:OwnP w3 w2.heap.size p3 (posR o l x.1) c3 (l.take (posR o l x.1)):=h3
 cases hh:hasR o l x.1
 ·refine pY rfl ?_
  refine hK x _ w3 E3 hb3 hp3 e3.size (by omega) ?_
  simp only [putR,hp,hmay,hh,cond_false,cond_true,Bool.and_true]
 ·refine pZ rfl ?_
  have hlt:=sH hh
  refine ⟨⟨fun w'=>Ext w3 w',pT _,?_⟩⟩
  refine qZ (fun w' e=>(hl.ext E3).ext e) (pR _) hn rfl (by omega) fun a _ r2=>⟨_,r2,_,fun w' e=>(hb3.ext e).cell (i:=1) (by rw [pU]) rfl,?_⟩
  refine pP call90 (aOe (pN ⟨_,rfl,?_⟩))
  refine qA (i:=1) (b:=b) (w:=w3.drew) hb3 (by rw [add_zero',pU]) (by simp) fun w5 hb5 g5=>?_
  rw [show IntKind.wrap .i64 ((posR o l x.1:Nat)+1:Int)=((posR o l x.1+1:Nat):Int) from pW (n:=n) (by omega) (by omega)]
  refine hK (x.1,comb p (l[posR o l x.1]'hlt).2 x.2) _ w5 (E3.drew.st g5 (by omega)) hb5 ?_ (Nat.le_trans e3.size g5.size) (by omega) ?_
  ·refine World.ownsRow.kept (World.ownsRow.kept hp3 (yM w3 none) ?_) g5 ?_
   ·cases (Value.slice p3 (posR o l x.1) c3).ownBlock <;> simp
   ·right
    intro hk;have:=(World.ownsRow.lt hp3 _ hk).1;omega
  ·simp only [putR,hp,hmay,hh,cond_true,Bool.and_true]
   rw [put_eq hh,rQ hlt]
theorem aKj{o key:Int}{l:List Pr}(hmay:mayR o l=true)(hI:InP l)(hk:In key){i:Nat}(hi:i < l.length):(0≤cmpI o key l[i].1)↔(i < posR o l key∨(hasR o l key=true∧i=posR o l key)):=by
 have hc:=tK hmay
 have hp:posR o l key=idxR o l key:=by unfold posR;rw [hmay];rfl
 constructor
 ·intro h
  rcases Nat.lt_trichotomy i (posR o l key) with h1 | h1 | h1
  ·exact .inl h1
  ·right
   refine ⟨?_,h1⟩
   have hge:0≤cmpI o l[i].1 key:=by
    have:=aDu (o:=o) (l:=l) (key:=key) (by rw [←hp];omega)
    simp only [←hp,←h1] at this;exact this
   have h0:cmpI o l[i].1 key=0:=by
    rcases Int.lt_or_le 0 (cmpI o l[i].1 key) with h2 | h2
    ·have:=xZ h2;omega
    ·omega
   exact (wT hmay).2 ⟨i,hi,aCf (xL hmay) (hI _ (List.getElem_mem hi)).1 hk h0⟩
  ·exfalso
   have hlt:idxR o l key < l.length:=by omega
   have hge:=aDu (o:=o) (l:=l) (key:=key) hlt
   have h2:=vU hc (i:=idxR o l key) (j:=i) (by omega) hi
   have h3:cmpI o key l[i].1 < 0:=by
    rcases Int.lt_or_le 0 (cmpI o l[idxR o l key].1 key) with h4 | h4
    ·exact sX (xZ h4) h2
    ·have h0:cmpI o l[idxR o l key].1 key=0:=by omega
     rw [←aCf (xL hmay) (hI _ (List.getElem_mem hlt)).1 hk h0]
     exact h2
   omega
 ·rintro (h | ⟨h,rfl⟩)
  ·have:=(aIo (o:=o) (l:=l) (key:=key) (i:=i) (by omega)).2
   have:=aFq this;omega
  ·have:=wS h
   rw [this,wJ];omega
def xU(o:Int)(l:List Pr)(key:Int)(k:Nat):Bool × Pr:=(List.range k).foldl (fun s i=>if 0≤cmpI o key (l.getD i (0,0)).1 then (true,l.getD i (0,0)) else s) (false,(0,0))
theorem aAz(o:Int)(l:List Pr)(key:Int)(k:Nat):xU o l key (k+1)=if 0≤cmpI o key (l.getD k (0,0)).1 then (true,l.getD k (0,0)) else xU o l key k:=by
 simp [xU,List.range_succ,List.foldl_append]
theorem aKb{o key:Int}{l:List Pr}(hmay:mayR o l=true)(hI:InP l)(hk:In key){m:Nat}(hm:m≤l.length)(k:Nat)(hkm:k≤m)(h1:∀i,i < k→i < posR o l key∨(hasR o l key=true∧i=posR o l key))
  (h2:∀i,k≤i→¬(i < posR o l key∨(hasR o l key=true∧i=posR o l key))):xU o l key m=if k=0 then (false,(0,0)) else (true,l.getD (k - 1) (0,0)):=by
 induction m with
 | zero=>
      have:k=0:=by omega
      subst this;rfl
 | succ m ih=>
  rw [aAz,rQ (by omega)]
  have hiff:=aKj (i:=m) hmay hI hk (by omega)
  by_cases hmk:m+1=k
  ·subst hmk
   rw [if_pos (hiff.2 (h1 m (by omega))),if_neg (by omega),Nat.add_sub_cancel,rQ (by omega)]
  ·rw [if_neg (fun h=>h2 m (by omega) (hiff.1 h)),ih (by omega) (by omega)]
theorem aPl{o key:Int}{l:List Pr}(hmay:mayR o l=true)(hI:InP l)(hk:In key):xU o l key l.length=(rS o l key,tV o l key):=by
 have hple:=aAf o l key
 cases hh:hasR o l key
 ·rw [aKb hmay hI hk (Nat.le_refl _) (posR o l key) hple (fun i hi=>.inl hi) (fun i hi h=>by
   rcases h with h | ⟨h,_⟩
   ·omega
   ·rw [hh] at h;cases h)]
  unfold rS tV
  rw [hh]
  by_cases h0:posR o l key=0
  ·simp [h0]
  ·simp [h0];omega
 ·have hlt:=sH hh
  rw [aKb hmay hI hk (Nat.le_refl _) (posR o l key+1) (by omega) (fun i hi=>by
   rcases Nat.lt_or_ge i (posR o l key) with h | h
   ·exact .inl h
   ·exact .inr ⟨hh,by omega⟩) (fun i hi h=>by
   rcases h with h | ⟨_,h⟩ <;> omega)]
  unfold rS tV
  rw [hh]
  simp
theorem aQa{o key:Int}{l:List Pr}{q:OA}{n c:Nat}(hl:Cs w q (prs l))(hn:l.length=n)(hm:n≤1000000000000)(hI:InP l)(hk:In key)
  (h:∀w',Ext w w'→R (.returned (.tuple #[agP (tV o l key),.bool (rS o l key)])) w'):Calls prog 38 #[.int .u8 o,.slice q n c,.int .i64 key] w R:=by
 refine sh38_ok ?_
 unfold sh38
 refine ⟨⟨?_⟩⟩
 have e0:=pQ w (.cells #[.int .i64 0,.int .i64 0] 63)
 have hb:=pS w #[.int .i64 0,.int .i64 0] 63
 generalize hb0:w.heap.size=b at *
 generalize w.alloc (.cells #[.int .i64 0,.int .i64 0] 63)=w0 at *
 have hbx:b < w0.heap.size:=hb.lt
 have e1:=e0.trans (pQ w0 (.cells #[.int .i64 0,.int .i64 0] 63))
 have hx:=pS w0 #[.int .i64 0,.int .i64 0] 63
 have hb:=hb.ext (pQ w0 (.cells #[.int .i64 0,.int .i64 0] 63))
 generalize hx0:w0.heap.size=bx at *
 generalize w0.alloc (.cells #[.int .i64 0,.int .i64 0] 63)=w1 at *
 refine vX hx fun w2 hx2 g2=>?_
 have e2:=e1.st g2 (by omega)
 have hb2:=hb.grown g2 (pV (by omega))
 clear e0 e1 hx hb g2
 have hend:∀{y:Pr} {is:Bool} {w':World},Ext w w'→Blk w' b #[.int .i64 0,.int .i64 0] 63→Blk w' bx #[.int .i64 y.1,.int .i64 y.2] 63→is=rS o l key→y=tV o l key→
   (∃(x15:Int),World.cell? w' ((blk bx).add 0)=some (.int .i64 x15)∧(∃(x16:Int),World.cell? w' ((blk bx).add 1)=some (.int .i64 x16)∧(
    doSt ((blk b).add 0) (.int .i64 x15) w' (fun w17=>doSt ((blk b).add 1) (.int .i64 x16) w17 (fun w18=>∃(x19:Int),w18.cell? ((blk b).add 0)=some (.int .i64 x19)∧(
    ∃(x20:Int),w18.cell? ((blk b).add 1)=some (.int .i64 x20)∧(R (.returned (.tuple #[.agg #[.int .i64 x19,.int .i64 x20],.bool is])) w18))))))):=by
  intro y is w' E hb hx his hy
  refine ⟨_,hx.cell (i:=0) (by rw [pU]) rfl,_,hx.cell (i:=1) (by rw [pU]) rfl,?_⟩
  refine vX hb fun w3 h3 g3=>⟨_,h3.cell (i:=0) (by rw [pU]) rfl,_,h3.cell (i:=1) (by rw [pU]) rfl,?_⟩
  subst his hy
  exact h _ (E.st g3 (by omega))
 refine ⟨fun vs w'=>∃k:Nat,vs=[.bool (xU o l key k).1,.int .i64 k]∧k≤n∧(k=0∨mayR o l=true)∧Ext w w'∧Blk w' b #[.int .i64 0,.int .i64 0] 63∧Blk w' bx #[.int .i64 (xU o l key k).2.1,.int .i64 (xU o l key k).2.2] 63,
  fun vs _=>n - (intOf (vs.getD 1 undef)).toNat,⟨0,rfl,by omega,.inl rfl,e2,hb2,hx2⟩,?_⟩
 rintro is i _ w3 ⟨k,hv,hkn,hkm,E,hb3,hx3⟩
 simp only [List.cons.injEq,Value.int.injEq,Value.bool.injEq,true_and,and_true] at hv
 obtain ⟨rfl,rfl⟩:=hv
 refine pP call88 (wE (hl.ext E) hn hm hI fun w4 e4=>pN ⟨_,rfl,?_⟩)
 have E4:=E.trans e4
 have hb4:=hb3.ext e4
 have hx4:=hx3.ext e4
 cases hmay:mayR o l
 ·have hk0:k=0:=by
             rcases hkm with h | h
             ·exact h
             ·rw [hmay] at h;cases h
  subst hk0
  refine pY rfl (hend E4 hb4 hx4 ?_ ?_)
  ·simp [xU,rS,hasR,posR,hmay]
  ·simp [xU,tV,hasR,posR,hmay]
 refine pZ rfl ?_
 refine pO (fun hlt=>?_) fun hge=>?_
 ·have hlt:k < n:=by have:=of_decide_eq_true hlt;omega
  refine rI (hl.ext E4) hn rfl hlt fun a r1 _ _=>⟨_,r1,?_⟩
  refine pP call87 (wD hk (hI _ (List.getElem_mem _)).1 (pN ⟨_,rfl,?_⟩))
  refine pO (fun h1=>?_) fun h1=>?_
  ·have h1:0≤cmpI o key l[k].1:=by
                      have:¬cmpI o key l[k].1 < 0:=by simpa using h1
                      omega
   have hs:xU o l key (k+1)=(true,l[k]):=by rw [aAz,rQ (by omega),if_pos h1]
   refine rI (hl.ext E4) hn rfl hlt fun a r1 r2 _=>⟨_,r1,_,r2,?_⟩
   refine vX hx4 fun w5 h5 g5=>⟨⟨k+1,?_,by omega,.inr rfl,E4.st g5 (by omega),hb4.grown g5 (pV (by omega)),?_⟩,?_⟩
   ·rw [pW hlt (by omega),hs]
   ·rw [hs];exact h5
   ·rw [pW hlt (by omega)];simp [intOf];omega
  ·have h1:cmpI o key l[k].1 < 0:=by simpa using h1
   have hs:xU o l key (k+1)=xU o l key k:=by rw [aAz,rQ (by omega),if_neg (by omega)]
   refine ⟨⟨k+1,?_,by omega,.inr rfl,E4,hb4,?_⟩,?_⟩
   ·rw [pW hlt (by omega),hs]
   ·rw [hs];exact hx4
   ·rw [pW hlt (by omega)];simp [intOf];omega
 ·have hge:k=n:=by have:=of_decide_eq_false hge;omega
  have hall:=aPl hmay hI hk
  rw [hn,←hge] at hall
  exact hend E4 hb4 hx4 (by rw [hall]) (by rw [hall])
theorem pos_at{o:Int}{l:List Pr}(hm:mayR o l=true){i:Nat}(hi:i < l.length):posR o l l[i].1=i∧hasR o l l[i].1=true∧getR o l l[i].1=l[i].2:=by
 have h1:posR o l l[i].1=i:=by unfold posR;rw [hm];exact aFh (tK hm) hi
 have h2:hasR o l l[i].1=true:=(wT hm).2 ⟨i,hi,rfl⟩
 refine ⟨h1,h2,?_⟩
 unfold getR
 rw [h1,h2,rQ hi];rfl
end Go.Proofs.YtmdboekndjlmgaaGreat
