/-
  slices.SortStableFunc over pairs, part 3: symMerge.
-/
import Derived.Test.YtmdboekndjlmgaaGreatZ27
set_option maxRecDepth 100000
set_option maxHeartbeats 6400000
namespace Go.Proofs.YtmdboekndjlmgaaGreat
open Go Go.Sh Go.RowKit Tryz
variable {w:World}{R:EW}
theorem aKi{P X Q:List Pr}{i:Nat}(h1:P.length≤i)(h2:i < P.length+X.length)(h3:i < (P++(X++Q)).length):(P++(X++Q))[i]=X[i - P.length]'(by omega):=by
 rw [List.getElem_append_right h1,List.getElem_append_left]
theorem Rw.to{w0:World}{B:Nat}{p:OA}{n c:Nat}{w w':World}{l:List Pr}(h:Rw w0 B p n c w l)(e:Ext w w'):Rw w0 B p n c w' l:=⟨wP h.own e (Nat.le_refl _),h.ext.trans e,h.keys⟩
theorem aMg{o:Int}{w0:World}{B:Nat}{p:OA}{n c:Nat}{f:Fn}{fx fc:Array Value}(hcmp:Cmp o w0 f fx fc){l:List Pr}(hr:Rw w0 B p n c w l){iX iY:Int}{x y:Nat}(hX:iX=(x:Int))(hY:iY=(y:Int))(hx:x < n)(hy:y < n){K:Int→World→Prop}{Kf:List PanicEntry→World→Prop}
  (k:∀w',Ext w w'→K (cmpI o (l[x]'(by rw [hr.len];exact hx)).1 (l[y]'(by rw [hr.len];exact hy)).1) w') :
  doDr w (fun w17=>∃(C16:World→Prop),C16 w17∧(doIx p n 2 iX (fun a18=>∃(x19:Int),(∀w,C16 w→w.cell? (a18.add 0)=some (.int .i64 x19))∧(∃(x20:Int),(∀w,C16 w→w.cell? (a18.add 1)=some (.int .i64 x20))∧(
   doIx p n 2 iY (fun a21=>∃(x22:Int),(∀w,C16 w→w.cell? (a21.add 0)=some (.int .i64 x22))∧(∃(x23:Int),(∀w,C16 w→w.cell? (a21.add 1)=some (.int .i64 x23))∧(
   doCall prog (.func f fx fc) #[.agg #[.int .i64 x19,.int .i64 x20],.agg #[.int .i64 x22,.int .i64 x23]] w17 (retS (fun v25 w26=>∃(x24:Int),v25=(.int .i64 x24:Value)∧(K x24 w26)) Kf))))))))):=by
 have hC:∀w',Ext w w'→Cs w' p (prs l):=fun w' e=>(rB hr.own).ext e
 refine ⟨⟨fun w'=>Ext w w',pT _,?_⟩⟩
 refine qZ hC (pR _) hr.len hX hx fun q r1 r2=>⟨_,r1,_,r2,?_⟩
 refine qZ hC (pR _) hr.len hY hy fun q r3 r4=>⟨_,r3,_,r4,?_⟩
 exact hcmp _ _ (hr.keys _ (List.getElem_mem _)) (hr.keys _ (List.getElem_mem _)) w.drew hr.ext.drew _ fun w3 e3=>pN ⟨_,rfl,k w3 ((pT _).trans e3)⟩
theorem aFu{o:Int}{w0:World}{B:Nat}{p:OA}{n c:Nat}{f:Fn}{fx fc:Array Value}(hB:w0.heap.size≤B)(hm:n≤1000000000000)(hcmp:Cmp o w0 f fx fc)(hO:isO o=true):
  ∀(N:Nat) {L X Y S:List Pr} {a m b:Nat} {w:World} {R:EW},X.length+Y.length≤N→Rw w0 B p n c w (L++(X++(Y++S)))→Srt o X→Srt o Y→0 < X.length→0 < Y.length→a=L.length→m=L.length+X.length→b=L.length+X.length+Y.length→
   (∀w' M,Srt o M→Stab M (X++Y)→M.length=X.length+Y.length→Rw w0 B p n c w' (L++(M++S))→R (.returned (.tuple #[])) w')→
   Calls prog 193 #[.slice p n c,.int .i64 (a:Nat),.int .i64 (m:Nat),.int .i64 (b:Nat),.func f fx fc] w R:=by
 intro N
 induction N with
 | zero=>intro L X Y S a m b w R hN;intros;omega
 | succ N ih=>
  intro L X Y S a m b w R hN hw hsX hsY hX0 hY0 ha hmm hb h
  refine sh193_ok ?_
  unfold sh193
  have hlen:=hw.len
  simp only [List.length_append] at hlen
  have dX:∀(i:Nat) (h:i < X.length),(L++(X++(Y++S)))[a+i]'(by simp;omega)=X[i]:=fun i hi=>by
   rw [aKi (by omega) (by omega)];simp [ha]
  have dY:∀(i:Nat) (h:i < Y.length),(L++(X++(Y++S)))[m+i]'(by simp;omega)=Y[i]:=fun i hi=>by
   have:=aKi (P:=L++X) (X:=Y) (Q:=S) (i:=m+i) (by simp;omega) (by simp;omega) (by simp;omega)
   simp only [List.append_assoc] at this
   rw [this];simp [hmm]
  refine pO (fun h1=>?_) fun h1=>?_
  ·-- one element ahead
   have hX1:X.length=1:=by
    rw [qB (by omega) (by omega)] at h1
    have:(m:Int) - (a:Int)=1:=by simpa using h1
    omega
   obtain ⟨x,rfl⟩:∃x,X=[x]:=List.length_eq_one_iff.1 hX1
   have hx1:([x]:List Pr).length=1:=rfl
   have dx:(L++([x]++(Y++S)))[a]'(by simp;omega)=x:=by have:=dX 0 (by omega);simpa using this
   refine ⟨fun vs w'=>∃i j:Nat,vs=[.int .i64 i,.int .i64 j]∧m≤i∧i≤j∧j≤b∧Rw w0 B p n c w' (L++([x]++(Y++S)))∧(∀k (h:k < Y.length),m+k < i→qC o Y[k].1 < qC o x.1)∧(∀k (h:k < Y.length),j≤m+k→qC o x.1≤qC o Y[k].1),
    fun vs _=>(intOf (vs.getD 1 undef)).toNat - (intOf (vs.getD 0 undef)).toNat,⟨m,b,rfl,by omega,by omega,by omega,hw,fun k hk h=>by omega,fun k hk h=>by omega⟩,?_⟩
   rintro i' j' _ w1 ⟨i,j,hv,hmi,hij,hjb,hr,hlo,hhi⟩
   simp only [List.cons.injEq,Value.int.injEq,true_and,and_true] at hv
   obtain ⟨rfl,rfl⟩:=hv
   refine pO (fun hlt=>?_) fun hge=>?_
   ·have hlt:i < j:=by have:=of_decide_eq_true hlt;omega
    rw [aEy hlt (by omega)]
    refine ⟨by omega,?_⟩
    obtain ⟨hh,hhe⟩:∃hh,(i+j) / 2=m+hh:=⟨(i+j) / 2 - m,by omega⟩
    have hhl:hh < Y.length:=by omega
    refine aMg hcmp hr (x:=(i+j) / 2) (y:=a) rfl rfl (by omega) (by omega) fun w2 e2=>?_
    have dh:(L++([x]++(Y++S)))[(i+j) / 2]'(by simp;omega)=Y[hh]:=by simp only [hhe];exact dY hh hhl
    rw [dh,dx]
    refine pO (fun hc=>?_) fun hc=>?_
    ·have hc:=(wY hO).1 (of_decide_eq_true hc)
     have e:IntKind.wrap .i64 ((((i+j) / 2:Nat):Int)+1)=(((i+j) / 2+1:Nat):Int):=pW (n:=n) (by omega) (by omega)
     rw [e]
     refine ⟨⟨(i+j) / 2+1,j,rfl,by omega,by omega,hjb,hr.to e2,fun k hk h=>?_,hhi⟩,by simp [intOf];omega⟩
     have:=tQ hsY (i:=k) (j:=hh) (by omega) hhl
     omega
    ·have hc:qC o x.1≤qC o Y[hh].1:=by have:=of_decide_eq_false hc;rw [wY hO] at this;omega
     refine ⟨⟨i,(i+j) / 2,rfl,hmi,by omega,by omega,hr.to e2,hlo,fun k hk h=>?_⟩,by simp [intOf];omega⟩
     have:=tQ hsY (i:=hh) (j:=k) (by omega) hk
     omega
   have hge:i=j:=by have:=of_decide_eq_false hge;omega
   subst hge
   obtain ⟨t0,ht0⟩:∃t0,i=m+t0:=⟨i - m,by omega⟩
   have hY1:∀y∈Y.take t0,qC o y.1 < qC o x.1:=fun y hy=>by
    obtain ⟨k,hk,rfl⟩:=List.getElem_of_mem hy
    rw [List.length_take] at hk
    rw [List.getElem_take]
    exact hlo k (by omega) (by omega)
   have hY2:∀y∈Y.drop t0,qC o x.1≤qC o y.1:=fun y hy=>by
    obtain ⟨k,hk,rfl⟩:=List.getElem_of_mem hy
    rw [List.length_drop] at hk
    rw [List.getElem_drop]
    exact hhi (t0+k) (by omega) (by omega)
   have ei:IntKind.wrap .i64 ((i:Int) - 1)=((a+t0:Nat):Int):=by rw [qB (by omega) (by omega)];omega
   rw [ei]
   have hYl:(Y.take t0).length=t0:=by rw [List.length_take];omega
   have hYs:Y.take t0++Y.drop t0=Y:=List.take_append_drop _ _
   refine ⟨fun vs w'=>∃u v:List Pr,vs=[.int .i64 (a+u.length:Nat)]∧Y.take t0=u++v∧Rw w0 B p n c w' (L++(u++x::(v++(Y.drop t0++S)))),fun vs _=>a+t0 - (intOf (vs.getD 0 undef)).toNat,
    ⟨[],Y.take t0,by simp,rfl,by rw [←List.append_assoc (Y.take t0),hYs];exact hr⟩,?_⟩
   rintro k' _ w2 ⟨u,v,hv,huv,hr2⟩
   simp only [List.cons.injEq,Value.int.injEq,true_and,and_true] at hv
   subst hv
   have huvl:=congrArg List.length huv
   rw [hYl,List.length_append] at huvl
   have hlen2:=hr2.len
   simp only [List.length_append,List.length_cons] at hlen2
   refine pO (fun hlt=>?_) fun hge=>?_
   ·have hlt:u.length < t0:=by have:=of_decide_eq_true hlt;omega
    obtain ⟨y,v',rfl⟩:∃y v',v=y::v':=by
     cases v with
     | nil=>simp at huvl;omega
     | cons y v'=>exact ⟨y,v',rfl⟩
    have e:IntKind.wrap .i64 (((a+u.length:Nat):Int)+1)=((a+u.length+1:Nat):Int):=pW (n:=n) (by omega) (by omega)
    rw [e]
    have ed:L++(u++x::(y::v'++(Y.drop t0++S)))=(L++u)++x::([]++y::(v'++(Y.drop t0++S))):=by simp
    rw [ed] at hr2
    simp only [List.length_cons] at hlen2
    refine aDw hr2.own (x:=a+u.length) (y:=a+u.length+1) rfl rfl (by omega) (by omega) fun w3 ho3 g3=>?_
    rw [(yG (x:=a+u.length) (y:=a+u.length+1) (by simp;omega) (by simp;omega) (by rw [hr2.len];omega) (by rw [hr2.len];omega)).1] at ho3
    refine ⟨⟨u++[y],v',by simp;omega,by rw [huv];simp,⟨by simpa using ho3,tS hr2.own hr2.ext g3 hB,fun q hq=>hr2.keys q ?_⟩⟩,?_⟩
    ·simp only [List.mem_append,List.mem_cons,List.not_mem_nil,or_false,false_or] at hq ⊢
     rcases hq with h | (h | h) | h | h | h | h <;> simp [h]
    ·simp [intOf];omega
   ·have hge:v=[]:=List.eq_nil_of_length_eq_zero (by have:=of_decide_eq_false hge;omega)
    subst hge
    rw [List.append_nil] at huv
    refine h w2 (Y.take t0++x::Y.drop t0) ?_ ?_ (by simp;omega) (by rw [huv];simpa using hr2)
    ·rw [uN]
     rw [←hYs,uN] at hsY
     refine ⟨hsY.1,List.Pairwise.cons hY2 hsY.2.1,fun y hy z hz=>?_⟩
     rcases List.mem_cons.1 hz with rfl | hz
     ·have:=hY1 y hy;omega
     ·exact hsY.2.2 y hy z hz
    ·have e1:Stab (Y.take t0++[x]) ([x]++Y.take t0):=zX fun y hy z hz=>by simp at hy;subst hy;exact hY1 z hz
     have:=e1.app (Stab.refl (Y.drop t0))
     rw [List.append_assoc,List.append_assoc,hYs] at this
     exact this
  have hX2:2≤X.length:=by
   rw [qB (by omega) (by omega)] at h1
   have:¬(m:Int) - (a:Int)=1:=by simpa using h1
   omega
  refine pO (fun h2=>?_) fun h2=>?_
  ·-- one element behind
   have hY1:Y.length=1:=by
    rw [qB (by omega) (by omega)] at h2
    have:(b:Int) - (m:Int)=1:=by simpa using h2
    omega
   obtain ⟨y,rfl⟩:∃y,Y=[y]:=List.length_eq_one_iff.1 hY1
   have hy1:([y]:List Pr).length=1:=rfl
   have dy:(L++(X++([y]++S)))[m]'(by simp;omega)=y:=by have:=dY 0 (by omega);simpa using this
   refine ⟨fun vs w'=>∃i j:Nat,vs=[.int .i64 i,.int .i64 j]∧a≤i∧i≤j∧j≤m∧Rw w0 B p n c w' (L++(X++([y]++S)))∧(∀k (h:k < X.length),a+k < i→qC o X[k].1≤qC o y.1)∧(∀k (h:k < X.length),j≤a+k→qC o y.1 < qC o X[k].1),
    fun vs _=>(intOf (vs.getD 1 undef)).toNat - (intOf (vs.getD 0 undef)).toNat,⟨a,m,rfl,by omega,by omega,by omega,hw,fun k hk h=>by omega,fun k hk h=>by omega⟩,?_⟩
   rintro i' j' _ w1 ⟨i,j,hv,hmi,hij,hjb,hr,hlo,hhi⟩
   simp only [List.cons.injEq,Value.int.injEq,true_and,and_true] at hv
   obtain ⟨rfl,rfl⟩:=hv
   refine pO (fun hlt=>?_) fun hge=>?_
   ·have hlt:i < j:=by have:=of_decide_eq_true hlt;omega
    rw [aEy hlt (by omega)]
    refine ⟨by omega,?_⟩
    obtain ⟨hh,hhe⟩:∃hh,(i+j) / 2=a+hh:=⟨(i+j) / 2 - a,by omega⟩
    have hhl:hh < X.length:=by omega
    refine aMg hcmp hr (x:=m) (y:=(i+j) / 2) rfl rfl (by omega) (by omega) fun w2 e2=>?_
    have dh:(L++(X++([y]++S)))[(i+j) / 2]'(by simp;omega)=X[hh]:=by simp only [hhe];exact dX hh hhl
    rw [dh,dy]
    refine pO (fun hc=>?_) fun hc=>?_
    ·have hc:qC o X[hh].1≤qC o y.1:=by
      have:¬cmpI o y.1 X[hh].1 < 0:=by simpa using hc
      rw [wY hO] at this;omega
     have e:IntKind.wrap .i64 ((((i+j) / 2:Nat):Int)+1)=(((i+j) / 2+1:Nat):Int):=pW (n:=n) (by omega) (by omega)
     rw [e]
     refine ⟨⟨(i+j) / 2+1,j,rfl,by omega,by omega,hjb,hr.to e2,fun k hk h=>?_,hhi⟩,by simp [intOf];omega⟩
     have:=tQ hsX (i:=k) (j:=hh) (by omega) hhl
     omega
    ·have hc:qC o y.1 < qC o X[hh].1:=by
      have:cmpI o y.1 X[hh].1 < 0:=by simpa using hc
      rw [wY hO] at this;exact this
     refine ⟨⟨i,(i+j) / 2,rfl,hmi,by omega,by omega,hr.to e2,hlo,fun k hk h=>?_⟩,by simp [intOf];omega⟩
     have:=tQ hsX (i:=hh) (j:=k) (by omega) hk
     omega
   have hge:i=j:=by have:=of_decide_eq_false hge;omega
   subst hge
   obtain ⟨t0,ht0⟩:∃t0,i=a+t0:=⟨i - a,by omega⟩
   have hX1':∀x∈X.take t0,qC o x.1≤qC o y.1:=fun x hx=>by
    obtain ⟨k,hk,rfl⟩:=List.getElem_of_mem hx
    rw [List.length_take] at hk
    rw [List.getElem_take]
    exact hlo k (by omega) (by omega)
   have hX2':∀x∈X.drop t0,qC o y.1 < qC o x.1:=fun x hx=>by
    obtain ⟨k,hk,rfl⟩:=List.getElem_of_mem hx
    rw [List.length_drop] at hk
    rw [List.getElem_drop]
    exact hhi (t0+k) (by omega) (by omega)
   have hXl:(X.take t0).length=t0:=by rw [List.length_take];omega
   have hXd:(X.drop t0).length=X.length - t0:=by rw [List.length_drop]
   have hXs:X.take t0++X.drop t0=X:=List.take_append_drop _ _
   refine ⟨fun vs w'=>∃u v:List Pr,vs=[.int .i64 (i+u.length:Nat)]∧X.drop t0=u++v∧Rw w0 B p n c w' (L++(X.take t0++(u++y::(v++S)))),fun vs _=>(intOf (vs.getD 0 undef)).toNat,
    ⟨X.drop t0,[],by rw [hXd,show i+(X.length - t0)=m by omega],by simp,by rw [←List.append_assoc (X.take t0),hXs];exact hr⟩,?_⟩
   rintro k' _ w2 ⟨u,v,hv,huv,hr2⟩
   simp only [List.cons.injEq,Value.int.injEq,true_and,and_true] at hv
   subst hv
   have huvl:=congrArg List.length huv
   rw [hXd,List.length_append] at huvl
   have hlen2:=hr2.len
   simp only [List.length_append,List.length_cons,hXl] at hlen2
   refine pO (fun hlt=>?_) fun hge=>?_
   ·have hlt:0 < u.length:=by have:=of_decide_eq_true hlt;omega
    obtain ⟨u',z,rfl⟩:=aFf hlt
    simp only [List.length_append,List.length_cons,List.length_nil] at hlen2
    have ed:L++(X.take t0++((u'++[z])++y::(v++S)))=(L++(X.take t0++u'))++z::([]++y::(v++S)):=by simp
    rw [ed] at hr2
    have ej:IntKind.wrap .i64 (((i+(u'++[z]).length:Nat):Int) - 1)=((i+u'.length:Nat):Int):=by
     rw [List.length_append,List.length_singleton,qB (by omega) (by omega)];omega
    rw [ej]
    have ej':i+(u'++[z]).length=i+u'.length+1:=by rw [List.length_append,List.length_singleton];omega
    rw [ej']
    refine aDw hr2.own (x:=i+u'.length+1) (y:=i+u'.length) rfl rfl (by omega) (by omega) fun w3 ho3 g3=>?_
    rw [(yG (x:=i+u'.length) (y:=i+u'.length+1) (by simp;omega) (by simp;omega) (by rw [hr2.len];omega) (by rw [hr2.len];omega)).2] at ho3
    refine ⟨⟨u',z::v,rfl,by rw [huv];simp,⟨by simpa using ho3,tS hr2.own hr2.ext g3 hB,fun q hq=>hr2.keys q ?_⟩⟩,?_⟩
    ·simp only [List.mem_append,List.mem_cons,List.not_mem_nil,false_or] at hq ⊢
     rcases hq with h | h | h | h | (h | h) | h <;> simp [h]
    ·simp [intOf];omega
   ·have hge:u=[]:=List.eq_nil_of_length_eq_zero (by have:=of_decide_eq_false hge;omega)
    subst hge
    rw [List.nil_append] at huv
    refine h w2 (X.take t0++y::X.drop t0) ?_ ?_ (by simp;omega) (by rw [huv];simpa using hr2)
    ·rw [uN]
     rw [←hXs,uN] at hsX
     refine ⟨hsX.1,List.Pairwise.cons (fun x hx=>by have:=hX2' x hx;omega) hsX.2.1,fun x hx z hz=>?_⟩
     rcases List.mem_cons.1 hz with rfl | hz
     ·exact hX1' x hx
     ·exact hsX.2.2 x hx z hz
    ·have e1:Stab ([y]++X.drop t0) (X.drop t0++[y]):=zX fun x hx z hz=>by simp at hz;subst hz;exact hX2' x hx
     have:=(Stab.refl (X.take t0)).app e1
     rw [←List.append_assoc (X.take t0) (X.drop t0),hXs] at this
     exact this
  have hY2:2≤Y.length:=by
   rw [qB (by omega) (by omega)] at h2
   have:¬(b:Int) - (m:Int)=1:=by simpa using h2
   omega
  clear h1 h2
  have hab:a < b:=by omega
  obtain ⟨mid,hmid⟩:∃mid,mid=(a+b) / 2:=⟨_,rfl⟩
  rw [aEy hab (by omega),←hmid]
  have en:IntKind.wrap .i64 ((mid:Int)+(m:Int))=((mid+m:Nat):Int):=by rw [qB (by omega) (by omega)];omega
  rw [en]
  refine ⟨by omega,fun vs w'=>∃s r:Nat,vs=[.int .i64 s,.int .i64 r]∧w'=w∧((mid < m∧s+b=mid+m∧r=mid)∨(m≤mid∧s=a∧r=m)),?_,?_⟩
  rotate_left
  ·refine pO (fun hgt=>?_) fun hle=>?_
   ·have hgt:mid < m:=by have:=of_decide_eq_true hgt;omega
    refine ⟨mid+m - b,mid,?_,rfl,.inl ⟨hgt,by omega,rfl⟩⟩
    rw [qB (by omega) (by omega),show (((mid+m:Nat):Int) - (b:Int))=((mid+m - b:Nat):Int) by omega]
   ·have hle:m≤mid:=by have:=of_decide_eq_false hle;omega
    exact ⟨a,m,rfl,rfl,.inr ⟨hle,rfl,rfl⟩⟩
  rintro s' r' _ w1 ⟨s0,r0,hv,rfl,hsr⟩
  simp only [List.cons.injEq,Value.int.injEq,true_and,and_true] at hv
  obtain ⟨rfl,rfl⟩:=hv
  have hs0:a≤s0∧s0≤r0∧r0≤m∧mid+m≤s0+b∧mid≤r0+(mid - r0)∧(r0≤mid):=by rcases hsr with h | h <;> omega
  -- c in [s0, r0): the element c, and the one that stands opposite
  have hop:∀c,s0≤c→c < r0→a≤c∧c < m∧m≤mid+m - 1 - c∧mid+m - 1 - c < b:=fun c h1 h2=>by rcases hsr with h | h <;> omega
  have hd1:∀c (h1:a≤c) (h2:c < m),(L++(X++(Y++S)))[c]'(by simp;omega)=X[c - a]'(by omega):=fun c h1 h2=>by
   have:=dX (c - a) (by omega);simp only [show a+(c - a)=c by omega] at this;exact this
  have hd2:∀c (h1:m≤c) (h2:c < b),(L++(X++(Y++S)))[c]'(by simp;omega)=Y[c - m]'(by omega):=fun c h1 h2=>by
   have:=dY (c - m) (by omega);simp only [show m+(c - m)=c by omega] at this;exact this
  refine ⟨fun vs w'=>∃i j:Nat,vs=[.int .i64 i,.int .i64 j]∧s0≤i∧i≤j∧j≤r0∧Rw w0 B p n c w' (L++(X++(Y++S)))∧
    (∀k (h1:s0≤k) (h2:k < i) (h3:k < r0),qC o (X[k - a]'(by have:=hop k h1 h3;omega)).1≤qC o (Y[mid+m - 1 - k - m]'(by have:=hop k h1 h3;omega)).1)∧
    (∀k (h1:j≤k) (h2:k < r0) (h3:s0≤k),qC o (Y[mid+m - 1 - k - m]'(by have:=hop k h3 h2;omega)).1 < qC o (X[k - a]'(by have:=hop k h3 h2;omega)).1),
   fun vs _=>(intOf (vs.getD 1 undef)).toNat - (intOf (vs.getD 0 undef)).toNat,⟨s0,r0,rfl,by omega,by omega,by omega,hw,fun k h1 h2 h3=>by omega,fun k h1 h2 h3=>by omega⟩,?_⟩
  rintro i' j' _ w2 ⟨i,j,hv,hsi,hij,hjr,hr,hlo,hhi⟩
  simp only [List.cons.injEq,Value.int.injEq,true_and,and_true] at hv
  obtain ⟨rfl,rfl⟩:=hv
  refine pO (fun hlt=>?_) fun hge=>?_
  ·have hlt:i < j:=by have:=of_decide_eq_true hlt;omega
   rw [aEy hlt (by omega)]
   refine ⟨by omega,?_⟩
   obtain ⟨q,hq⟩:∃q,q=(i+j) / 2:=⟨_,rfl⟩
   rw [←hq]
   have hqb:i≤q∧q < j:=by omega
   obtain ⟨o1,o2,o3,o4⟩:=hop q (by omega) (by omega)
   have ep:IntKind.wrap .i64 (IntKind.wrap .i64 (((mid+m:Nat):Int) - 1) - (q:Int))=((mid+m - 1 - q:Nat):Int):=by
    rw [qB (x:=((mid+m:Nat):Int) - 1) (by omega) (by omega),qB (by omega) (by omega)];omega
   rw [ep]
   refine aMg hcmp hr (x:=mid+m - 1 - q) (y:=q) rfl rfl (by omega) (by omega) fun w3 e3=>?_
   rw [hd1 q o1 o2,hd2 (mid+m - 1 - q) o3 o4]
   refine pO (fun hc=>?_) fun hc=>?_
   ·have hc:qC o (X[q - a]'(by omega)).1≤qC o (Y[mid+m - 1 - q - m]'(by omega)).1:=by
     have:¬cmpI o (Y[mid+m - 1 - q - m]'(by omega)).1 (X[q - a]'(by omega)).1 < 0:=by simpa using hc
     rw [wY hO] at this;omega
    have e:IntKind.wrap .i64 ((q:Int)+1)=((q+1:Nat):Int):=pW (n:=n) (by omega) (by omega)
    rw [e]
    refine ⟨⟨q+1,j,rfl,by omega,by omega,hjr,hr.to e3,fun k g1 g2 g3=>?_,hhi⟩,by simp [intOf];omega⟩
    have p1:=hop k g1 g3
    have t1:=tQ hsX (i:=k - a) (j:=q - a) (by omega) (by omega)
    have t2:=tQ hsY (i:=mid+m - 1 - q - m) (j:=mid+m - 1 - k - m) (by omega) (by omega)
    omega
   ·have hc:qC o (Y[mid+m - 1 - q - m]'(by omega)).1 < qC o (X[q - a]'(by omega)).1:=by
     have:cmpI o (Y[mid+m - 1 - q - m]'(by omega)).1 (X[q - a]'(by omega)).1 < 0:=by simpa using hc
     rw [wY hO] at this;exact this
    refine ⟨⟨i,q,rfl,hsi,by omega,by omega,hr.to e3,hlo,fun k g1 g2 g3=>?_⟩,by simp [intOf];omega⟩
    have p1:=hop k g3 g2
    have t1:=tQ hsX (i:=q - a) (j:=k - a) (by omega) (by omega)
    have t2:=tQ hsY (i:=mid+m - 1 - k - m) (j:=mid+m - 1 - q - m) (by omega) (by omega)
    omega
  have hge:i=j:=by have:=of_decide_eq_false hge;omega
  subst hge
  -- the four parts
  obtain ⟨u,hu⟩:∃u,u=i - a:=⟨_,rfl⟩
  obtain ⟨v,hv⟩:∃v,v=mid+m - i - m:=⟨_,rfl⟩
  have hul:u≤X.length:=by omega
  have hvl:v≤Y.length:=by omega
  have huv:a+u+v=mid∧a+u=i∧m+v=mid+m - i:=by omega
  obtain ⟨X1,hX1⟩:∃X1,X1=X.take u:=⟨_,rfl⟩
  obtain ⟨X3,hX3⟩:∃X3,X3=X.drop u:=⟨_,rfl⟩
  obtain ⟨Y1,hY1⟩:∃Y1,Y1=Y.take v:=⟨_,rfl⟩
  obtain ⟨Y3,hY3⟩:∃Y3,Y3=Y.drop v:=⟨_,rfl⟩
  have hXs:X1++X3=X:=by rw [hX1,hX3];exact List.take_append_drop _ _
  have hYs:Y1++Y3=Y:=by rw [hY1,hY3];exact List.take_append_drop _ _
  have l1:X1.length=u:=by rw [hX1,List.length_take];omega
  have l2:X3.length=X.length - u:=by rw [hX3,List.length_drop]
  have l3:Y1.length=v:=by rw [hY1,List.length_take];omega
  have l4:Y3.length=Y.length - v:=by rw [hY3,List.length_drop]
  -- behind the turn all that is before stands before all that is behind
  have hA:∀x∈X1,∀y∈Y3,qC o x.1≤qC o y.1:=fun x hx y hy=>by
   rw [hX1] at hx;rw [hY3] at hy
   obtain ⟨k1,hk1,rfl⟩:=List.getElem_of_mem hx
   obtain ⟨k2,hk2,rfl⟩:=List.getElem_of_mem hy
   rw [List.length_take] at hk1;rw [List.length_drop] at hk2
   rw [List.getElem_take,List.getElem_drop]
   have hi0:s0 < i:=by rcases hsr with h | h <;> omega
   have t0:=hlo (i - 1) (by omega) (by omega) (by omega)
   have p1:=hop (i - 1) (by omega) (by omega)
   have t1:=tQ hsX (i:=k1) (j:=i - 1 - a) (by omega) (by omega)
   have t2:=tQ hsY (i:=mid+m - 1 - (i - 1) - m) (j:=v+k2) (by omega) (by omega)
   omega
  have hBB:∀x∈X3,∀y∈Y1,qC o y.1 < qC o x.1:=fun x hx y hy=>by
   rw [hX3] at hx;rw [hY1] at hy
   obtain ⟨k1,hk1,rfl⟩:=List.getElem_of_mem hx
   obtain ⟨k2,hk2,rfl⟩:=List.getElem_of_mem hy
   rw [List.length_drop] at hk1;rw [List.length_take] at hk2
   rw [List.getElem_drop,List.getElem_take]
   have hi0:i < r0:=by rcases hsr with h | h <;> omega
   have t0:=hhi i (by omega) (by omega) (by omega)
   have p1:=hop i (by omega) (by omega)
   have t1:=tQ hsX (i:=i - a) (j:=u+k1) (by omega) (by omega)
   have t2:=tQ hsY (i:=k2) (j:=mid+m - 1 - i - m) (by omega) (by omega)
   omega
  have hsX':=hsX
  have hsY':=hsY
  rw [←hXs,uN] at hsX'
  rw [←hYs,uN] at hsY'
  have hend:IntKind.wrap .i64 (((mid+m:Nat):Int) - (i:Int))=((m+v:Nat):Int):=by rw [qB (by omega) (by omega)];omega
  rw [hend]
  have hr2:Rw w0 B p n c w2 (L++X1++(X3++(Y1++(Y3++S)))):=by
   rw [←hXs,←hYs] at hr;simpa using hr
  refine ⟨fun vs w'=>vs=[]∧Rw w0 B p n c w' (L++(X1++(Y1++(X3++(Y3++S))))),?_,?_⟩
  rotate_left
  ·-- the turn
   refine ⟨fun vs w'=>vs=[.bool (decide (i < m)&&decide (m < m+v))]∧w'=w2,?_,?_⟩
   rotate_left
   ·refine pO (fun h1=>⟨?_,rfl⟩) fun h1=>⟨?_,rfl⟩
    ·have h1:i < m:=by have:=of_decide_eq_true h1;omega
     rw [decide_eq_true h1,Bool.true_and]
     congr 2
     exact decide_eq_decide.2 (by omega)
    ·have h1:¬i < m:=by have:=of_decide_eq_false h1;omega
     rw [decide_eq_false h1];rfl
   rintro x _ w3 ⟨hv',rfl⟩
   simp only [List.cons.injEq,Value.bool.injEq,and_true] at hv'
   subst hv'
   refine pO (fun h1=>?_) fun h1=>?_
   ·simp only [Bool.and_eq_true,decide_eq_true_eq] at h1
    refine pP call208 (c_rotate hB hm hr2 (a:=i) (m:=m) (b:=m+v) (by simp;omega) (by simp;omega) (by simp;omega) (by omega) (by omega) fun w4 hr4=>pN ⟨rfl,rfl,by simpa using hr4⟩)
   ·refine ⟨rfl,?_⟩
    have hno:X3=[]∨Y1=[]:=by
     simp only [Bool.and_eq_false_iff,decide_eq_false_iff_not] at h1
     rcases h1 with h1 | h1
     ·exact .inl (List.eq_nil_of_length_eq_zero (by omega))
     ·exact .inr (List.eq_nil_of_length_eq_zero (by omega))
    rcases hno with h0 | h0
    ·rw [h0] at hr2 ⊢;simpa using hr2
    ·rw [h0] at hr2 ⊢;simpa using hr2
  rintro _ w3 ⟨_,hr3⟩
  -- both sides
  refine ⟨fun vs w'=>vs=[]∧∃M1,Srt o M1∧Stab M1 (X1++Y1)∧M1.length=u+v∧Rw w0 B p n c w' (L++(M1++(X3++(Y3++S)))),?_,?_⟩
  rotate_left
  ·refine ⟨fun vs w'=>vs=[.bool (decide (a < i)&&decide (i < mid))]∧w'=w3,?_,?_⟩
   rotate_left
   ·refine pO (fun h1=>⟨?_,rfl⟩) fun h1=>⟨?_,rfl⟩
    ·have h1:a < i:=by have:=of_decide_eq_true h1;omega
     rw [decide_eq_true h1,Bool.true_and]
     congr 2
     exact decide_eq_decide.2 (by omega)
    ·have h1:¬a < i:=by have:=of_decide_eq_false h1;omega
     rw [decide_eq_false h1];rfl
   rintro x _ w4 ⟨hv',rfl⟩
   simp only [List.cons.injEq,Value.bool.injEq,and_true] at hv'
   subst hv'
   refine pO (fun h1=>?_) fun h1=>?_
   ·simp only [Bool.and_eq_true,decide_eq_true_eq] at h1
    refine pP call193 (ih (X:=X1) (Y:=Y1) (S:=X3++(Y3++S)) (a:=a) (m:=i) (b:=mid) (by omega) hr3 hsX'.1 hsY'.1 (by omega) (by omega) ha (by omega) (by omega) fun w5 M1 hM1 hM2 hM3 hr5=>pN ⟨rfl,rfl,M1,hM1,hM2,by omega,hr5⟩)
   ·refine ⟨rfl,X1++Y1,?_,Stab.refl _,by simp;omega,by simpa using hr3⟩
    simp only [Bool.and_eq_false_iff,decide_eq_false_iff_not] at h1
    rcases h1 with h1 | h1
    ·rw [List.eq_nil_of_length_eq_zero (l:=X1) (by omega)];exact hsY'.1
    ·rw [List.eq_nil_of_length_eq_zero (l:=Y1) (by omega),List.append_nil];exact hsX'.1
  rintro _ w4 ⟨_,M1,hM1,hM2,hM3,hr4⟩
  have hr4':Rw w0 B p n c w4 ((L++M1)++(X3++(Y3++S))):=by simpa using hr4
  -- what stands in both halves together
  have hfin:∀{w':World} {M3:List Pr},Srt o M3→Stab M3 (X3++Y3)→M3.length=X3.length+Y3.length→Rw w0 B p n c w' ((L++M1)++(M3++S))→R (.returned (.tuple #[])) w':=by
   intro w' M3 g1 g2 g3 g4
   refine h w' (M1++M3) ?_ ?_ (by simp;omega) (by simpa using g4)
   ·rw [uN]
    refine ⟨hM1,g1,fun x hx y hy=>?_⟩
    have hx:=(hM2.mem x).1 hx
    have hy:=(g2.mem y).1 hy
    rcases List.mem_append.1 hx with hx | hx <;> rcases List.mem_append.1 hy with hy | hy
    ·exact hsX'.2.2 x hx y hy
    ·exact hA x hx y hy
    ·have:=hBB y hy x hx;omega
    ·exact hsY'.2.2 x hx y hy
   ·have t1:Stab (M1++M3) ((X1++Y1)++(X3++Y3)):=hM2.app g2
    have t2:Stab (X1++((Y1++X3)++Y3)) (X1++((X3++Y1)++Y3)):=(Stab.refl X1).app ((zX hBB).app (Stab.refl Y3))
    have t3:=t1.trans (B:=(X1++Y1)++(X3++Y3)) (by rw [show (X1++Y1)++(X3++Y3)=X1++((Y1++X3)++Y3) by simp];exact t2)
    rw [show X1++((X3++Y1)++Y3)=(X1++X3)++(Y1++Y3) by simp,hXs,hYs] at t3
    exact t3
  refine ⟨fun vs w'=>vs=[.bool (decide (mid < m+v)&&decide (m+v < b))]∧w'=w4,?_,?_⟩
  rotate_left
  ·refine pO (fun h1=>⟨?_,rfl⟩) fun h1=>⟨?_,rfl⟩
   ·have h1:mid < m+v:=by have:=of_decide_eq_true h1;omega
    rw [decide_eq_true h1,Bool.true_and]
    congr 2
    exact decide_eq_decide.2 (by omega)
   ·have h1:¬mid < m+v:=by have:=of_decide_eq_false h1;omega
    rw [decide_eq_false h1];rfl
  rintro x _ w5 ⟨hv',rfl⟩
  simp only [List.cons.injEq,Value.bool.injEq,and_true] at hv'
  subst hv'
  refine pO (fun h1=>?_) fun h1=>?_
  ·simp only [Bool.and_eq_true,decide_eq_true_eq] at h1
   refine pP call193 (ih (L:=L++M1) (X:=X3) (Y:=Y3) (S:=S) (a:=mid) (m:=m+v) (b:=b) (by omega) hr4' hsX'.2.1 hsY'.2.1 (by omega) (by omega) (by simp;omega) (by simp;omega) (by simp;omega) fun w6 M3 g1 g2 g3 g4=>pN ⟨rfl,hfin g1 g2 g3 g4⟩)
  ·refine hfin (M3:=X3++Y3) ?_ (Stab.refl _) (by simp) (by simpa using hr4')
   simp only [Bool.and_eq_false_iff,decide_eq_false_iff_not] at h1
   rcases h1 with h1 | h1
   ·rw [List.eq_nil_of_length_eq_zero (l:=X3) (by omega)];exact hsY'.2.1
   ·rw [List.eq_nil_of_length_eq_zero (l:=Y3) (by omega),List.append_nil];exact hsX'.2.1
def Bks(o:Int)(s:Nat)(l:List Pr):Prop:=∀i,Srt o ((l.drop (i * s)).take s)
theorem aCj{o:Int}{s t:Nat}{D X:List Pr}(hD:Bks o s D)(hl:D.length=t * s)(hX:Srt o X)(hXl:X.length≤s):Bks o s (D++X):=by
 intro i
 rcases Nat.lt_trichotomy i t with h | h | h
 ·have h1:i * s+s≤D.length:=by rw [hl,←Nat.succ_mul];exact Nat.mul_le_mul_right s h
  rw [List.drop_append_of_le_length (by omega),List.take_append_of_le_length (by rw [List.length_drop];omega)]
  exact hD i
 ·subst h
  rw [←hl,List.drop_left,List.take_of_length_le hXl]
  exact hX
 ·have h1:D.length+X.length≤i * s:=by
   have:(t+1) * s≤i * s:=Nat.mul_le_mul_right s h
   rw [Nat.succ_mul] at this;omega
  rw [List.drop_of_length_le (by simp;omega)];simp
theorem aKw{o:Int}{s:Nat}{T:List Pr}(h:Bks o s T)(k:Nat):Bks o s (T.drop (k * s)):=fun i=>by
 rw [List.drop_drop,←Nat.add_mul];exact h (k+i)
theorem aJf{o:Int}{s:Nat}{T:List Pr}(h:Bks o s T)(hl:T.length≤s):Srt o T:=by
 have:=h 0
 rw [Nat.zero_mul,List.drop_zero,List.take_of_length_le hl] at this;exact this
theorem aOl(o:Int)(s:Nat):Bks o s []:=fun i=>by simp
theorem c_stable{o:Int}{w0:World}{B:Nat}{p:OA}{n c:Nat}{f:Fn}{fx fc:Array Value}(hB:w0.heap.size≤B)(hm:n≤1000000000)(hcmp:Cmp o w0 f fx fc)(hO:isO o=true){l:List Pr}
  (hw:Rw w0 B p n c w l) (h:∀w' l',Srt o l'→Stab l' l→Rw w0 B p n c w' l'→R (.returned (.tuple #[])) w') :
  Calls prog 167 #[.slice p n c,.int .i64 (n:Nat),.func f fx fc] w R:=by
 refine sh167_ok ?_
 unfold sh167
 have hln:=hw.len
 have hm':n≤1000000000000:=by omega
 refine ⟨fun vs w'=>∃(t:Nat) (D D0 T:List Pr),vs=[.int .i64 (t * 20:Nat),.int .i64 (t * 20+20:Nat)]∧l=D0++T∧D.length=t * 20∧t * 20≤n∧D0.length=t * 20∧Bks o 20 D∧Stab D D0∧Rw w0 B p n c w' (D++T),fun vs _=>n+20 - (intOf (vs.getD 0 undef)).toNat,
  ⟨0,[],[],l,rfl,rfl,rfl,by omega,rfl,aOl _ _,Stab.refl _,hw⟩,?_⟩
 rintro a' b' _ w1 ⟨t,D,D0,T,hv,hl,hDl,htn,hD0,hbk,hst,hr⟩
 simp only [List.cons.injEq,Value.int.injEq,true_and,and_true] at hv
 obtain ⟨rfl,rfl⟩:=hv
 have hTl:T.length=n - t * 20:=by have:=congrArg List.length hl;rw [hln,List.length_append] at this;omega
 refine pO (fun hle=>?_) fun hgt=>?_
 ·have hle:t * 20+20≤n:=by have:=of_decide_eq_true hle;omega
  have hsp:T.take 20++T.drop 20=T:=List.take_append_drop _ _
  have ht20:(T.take 20).length=20:=by rw [List.length_take];omega
  rw [←hsp] at hr
  refine pP call192 (aDo hB hm' hcmp hO (a:=t * 20) (b:=t * 20+20) hr (by omega) (by omega) fun w2 X' hs hst' hr2=>pN ⟨rfl,⟨t+1,D++X',D0++T.take 20,T.drop 20,?_,?_,?_,by omega,?_,?_,hst.app hst',by simpa using hr2⟩,?_⟩)
  ·have e:IntKind.wrap .i64 (((t * 20+20:Nat):Int)+20)=(((t+1) * 20+20:Nat):Int):=by rw [qB (by omega) (by omega)];omega
   rw [e,show t * 20+20=(t+1) * 20 by omega]
  ·rw [List.append_assoc,hsp];exact hl
  ·have:=hr2.len;simp at this ⊢;omega
  ·simp;omega
  ·exact aCj hbk hDl hs (by have:=hr2.len;simp at this;omega)
  ·simp [intOf];omega
 have hgt:n < t * 20+20:=by have:=of_decide_eq_false hgt;omega
 have hr':Rw w0 B p n c w1 (D++(T++[])):=by simpa using hr
 refine pP call192 (aDo hB hm' hcmp hO (a:=t * 20) (b:=n) hr' (by omega) (by omega) fun w2 X' hs hst' hr2=>pN ⟨rfl,?_⟩)
 rw [List.append_nil] at hr2
 have hX'l:X'.length≤20:=by have:=hr2.len;simp at this;omega
 have hbk2:Bks o 20 (D++X'):=aCj hbk hDl hs hX'l
 have hst2:Stab (D++X') l:=by rw [hl];exact hst.app hst'
 -- ever greater parts
 refine ⟨fun vs w'=>∃(bs:Nat) (q:List Pr),vs=[.int .i64 (bs:Nat)]∧1≤bs∧bs≤2 * n+20∧Bks o bs q∧Stab q l∧Rw w0 B p n c w' q,fun vs _=>2 * n+40 - (intOf (vs.getD 0 undef)).toNat,⟨20,_,rfl,by omega,by omega,hbk2,hst2,hr2⟩,?_⟩
 rintro bs' _ w3 ⟨bs,q,hv,hbs1,hbs2,hbq,hsq,hr3⟩
 simp only [List.cons.injEq,Value.int.injEq,true_and,and_true] at hv
 subst hv
 have hql:=hr3.len
 refine pO (fun hlt=>?_) fun hge=>?_
 rotate_left
 ·have hge:n≤bs:=by have:=of_decide_eq_false hge;omega
  exact h w3 q (aJf hbq (by omega)) hsq hr3
 have hlt:bs < n:=by have:=of_decide_eq_true hlt;omega
 have e2:IntKind.wrap .i64 (2 * (bs:Int))=((2 * bs:Nat):Int):=by rw [qB (by omega) (by omega)];omega
 have e3:IntKind.wrap .i64 ((bs:Int) * 2)=((2 * bs:Nat):Int):=by rw [qB (by omega) (by omega)];omega
 rw [e2]
 refine ⟨fun vs w'=>∃(t:Nat) (D D0 T:List Pr),vs=[.int .i64 (t * (2 * bs):Nat),.int .i64 (t * (2 * bs)+2 * bs:Nat)]∧q=D0++T∧D.length=t * (2 * bs)∧t * (2 * bs)≤n∧D0.length=t * (2 * bs)∧Bks o (2 * bs) D∧Bks o bs T∧Stab D D0∧Rw w0 B p n c w' (D++T),fun vs _=>n+2 * bs - (intOf (vs.getD 0 undef)).toNat,
  ⟨0,[],[],q,by rw [Nat.zero_mul,Nat.zero_add];rfl,rfl,by simp,by omega,by simp,aOl _ _,hbq,Stab.refl _,hr3⟩,?_⟩
 rintro a' b' _ w4 ⟨t,D,D0,T,hv,hl,hDl,htn,hD0,hbk,hbT,hst,hr⟩
 simp only [List.cons.injEq,Value.int.injEq,true_and,and_true] at hv
 obtain ⟨rfl,rfl⟩:=hv
 obtain ⟨tb,htb⟩:∃tb,tb=t * (2 * bs):=⟨_,rfl⟩
 have htb1:(t+1) * (2 * bs)=tb+2 * bs:=by rw [Nat.add_mul t 1 (2 * bs),Nat.one_mul,←htb]
 rw [←htb] at hDl htn hD0 ⊢
 have hTl:T.length=n - tb:=by have:=congrArg List.length hl;rw [hql,List.length_append] at this;omega
 refine pO (fun hle=>?_) fun hgt=>?_
 ·have hle:tb+2 * bs≤n:=by have:=of_decide_eq_true hle;omega
  have hs1:T.take bs++((T.drop bs).take bs++T.drop (2 * bs))=T:=by
   rw [show T.drop (2 * bs)=(T.drop bs).drop bs by rw [List.drop_drop,show bs+bs=2 * bs by omega],List.take_append_drop,List.take_append_drop]
  have l1:(T.take bs).length=bs:=by rw [List.length_take];omega
  have l2:((T.drop bs).take bs).length=bs:=by rw [List.length_take,List.length_drop];omega
  have ea:IntKind.wrap .i64 ((tb:Int)+(bs:Int))=((tb+bs:Nat):Int):=by rw [qB (by omega) (by omega)];omega
  rw [ea]
  rw [←hs1] at hr
  have hsA:Srt o (T.take bs):=by have:=hbT 0;simpa using this
  have hsB:Srt o ((T.drop bs).take bs):=by have:=hbT 1;simpa using this
  refine pP call193 (aFu hB hm' hcmp hO (2 * bs) (L:=D) (X:=T.take bs) (Y:=(T.drop bs).take bs) (S:=T.drop (2 * bs)) (a:=tb) (m:=tb+bs) (b:=tb+2 * bs) (by omega) hr hsA hsB (by omega) (by omega) (by omega) (by omega) (by omega) fun w5 M g1 g2 g3 g4=>pN ⟨rfl,⟨t+1,D++M,D0++(T.take bs++(T.drop bs).take bs),T.drop (2 * bs),?_,?_,?_,?_,?_,?_,?_,hst.app g2,by simpa using g4⟩,?_⟩)
  ·have e:IntKind.wrap .i64 (((tb+2 * bs:Nat):Int)+((2 * bs:Nat):Int))=(((t+1) * (2 * bs)+2 * bs:Nat):Int):=by
    rw [htb1,qB (by omega) (by omega)];omega
   rw [e,htb1]
  ·rw [List.append_assoc,List.append_assoc,hs1];exact hl
  ·rw [htb1];simp;omega
  ·rw [htb1];omega
  ·rw [htb1];simp;omega
  ·exact aCj hbk (by rw [hDl,htb]) g1 (by omega)
  ·exact aKw hbT 2
  ·simp [intOf];omega
 have hgt:n < tb+2 * bs:=by have:=of_decide_eq_false hgt;omega
 have ea:IntKind.wrap .i64 ((tb:Int)+(bs:Int))=((tb+bs:Nat):Int):=by rw [qB (by omega) (by omega)];omega
 rw [ea,e3]
 -- the rest
 have hK:∀{w':World} {T':List Pr},Srt o T'→Stab T' T→T'.length=T.length→Rw w0 B p n c w' (D++T')→
   (∃(bs2:Nat) (q:List Pr),[Value.int .i64 ((2 * bs:Nat):Int)]=[.int .i64 (bs2:Nat)]∧1≤bs2∧bs2≤2 * n+20∧Bks o bs2 q∧Stab q l∧Rw w0 B p n c w' q)∧
    2 * n+40 - (intOf (([Value.int .i64 ((2 * bs:Nat):Int)]:List Value).getD 0 undef)).toNat < 2 * n+40 - (intOf (([Value.int .i64 (bs:Int)]:List Value).getD 0 undef)).toNat:=by
  intro w' T' g1 g2 g3 g4
  refine ⟨⟨2 * bs,D++T',rfl,by omega,by omega,aCj hbk (by rw [hDl,htb]) g1 (by omega),?_,g4⟩,?_⟩
  ·have:=hst.app g2
   rw [←hl] at this
   exact this.trans hsq
  ·simp [intOf];omega
 refine pO (fun hlt2=>?_) fun hge2=>?_
 ·have hlt2:tb+bs < n:=by have:=of_decide_eq_true hlt2;omega
  have l1:(T.take bs).length=bs:=by rw [List.length_take];omega
  have l2:(T.drop bs).length=n - tb - bs:=by rw [List.length_drop];omega
  have hs1:T.take bs++(T.drop bs++[])=T:=by rw [List.append_nil,List.take_append_drop]
  rw [←hs1] at hr
  have hsA:Srt o (T.take bs):=by have:=hbT 0;simpa using this
  have hsB:Srt o (T.drop bs):=aJf (by have:=aKw hbT 1;simpa using this) (by omega)
  refine pP call193 (aFu hB hm' hcmp hO n (L:=D) (X:=T.take bs) (Y:=T.drop bs) (S:=[]) (a:=tb) (m:=tb+bs) (b:=n) (by omega) hr hsA hsB (by omega) (by omega) (by omega) (by omega) (by omega) fun w5 M g1 g2 g3 g4=>pN ⟨rfl,hK (T':=M) g1 (by rw [List.take_append_drop] at g2;exact g2) (by omega) (by simpa using g4)⟩)
 ·have hge2:n≤tb+bs:=by have:=of_decide_eq_false hge2;omega
  exact hK (T':=T) (aJf hbT (by omega)) (Stab.refl _) rfl hr
theorem aIw{o:Int}{w0:World}{B:Nat}{p:OA}{n c:Nat}{f:Fn}{fx fc:Array Value}(hB:w0.heap.size≤B)(hm:n≤1000000000)(hcmp:Cmp o w0 f fx fc)(hO:isO o=true){l:List Pr}
  (hw:Rw w0 B p n c w l) (h:∀w' l',Srt o l'→Stab l' l→Rw w0 B p n c w' l'→R (.returned (.tuple #[])) w') :
  Calls prog 144 #[.slice p n c,.func f fx fc] w R:=by
 refine sh144_ok ?_
 unfold sh144
 exact pP call167 (c_stable hB hm hcmp hO hw fun w2 l' g1 g2 g3=>pN ⟨rfl,h w2 l' g1 g2 g3⟩)
end Go.Proofs.YtmdboekndjlmgaaGreat
namespace Go.Sh
open Go Go.RowKit
variable {w:World}{R:EW}
theorem aPr{α:Type}{ec:α→List Value}{s:Nat}(hs:∀x,(ec x).length=s)(l:List α)(k:Nat):(l.flatMap ec).drop (k * s)=(l.drop k).flatMap ec:=by
 induction l generalizing k with
 | nil=>simp
 | cons x xs ih=>
  cases k with
  | zero=>simp
  | succ k=>
   rw [List.flatMap_cons,List.drop_succ_cons,←ih k,show (k+1) * s=(ec x).length+k * s by rw [hs,Nat.add_mul];omega,List.drop_append]
   simp [List.drop_of_length_le]
theorem aPq{α:Type}{ec:α→List Value}{s:Nat}(hs:∀x,(ec x).length=s)(l:List α)(k:Nat):(l.flatMap ec).take (k * s)=(l.take k).flatMap ec:=by
 induction l generalizing k with
 | nil=>simp
 | cons x xs ih=>
  cases k with
  | zero=>simp
  | succ k=>
   rw [List.flatMap_cons,List.take_succ_cons,List.flatMap_cons,←ih k,show (k+1) * s=(ec x).length+k * s by rw [hs,Nat.add_mul];omega,List.take_append]
   simp [List.take_of_length_le]
theorem aHs{α:Type}{ec:α→List Value}{s:Nat}(hs:∀x,(ec x).length=s)(h0:0 < s){q:OA}{n c:Nat}{lo hi:Int}{l:List α}{K:OA→Nat→Nat→Prop}(hl:Cs w q (l.flatMap ec))(hn:l.length=n)(hnc:n≤c){a b:Nat}(ha:lo=(a:Int))(hb:hi=(b:Int))(h1:a≤b)(h2:b≤n)
  (k:∀p,(∀w',Cs w' q (l.flatMap ec)→Cs w' p (((l.take b).drop a).flatMap ec))→K p (b - a) (c - a)):doSl q c s lo hi K:=by
 subst ha;subst hb
 refine ⟨by omega,by omega,by omega,?_⟩
 rw [Int.toNat_natCast,Int.toNat_natCast]
 refine k _ fun w' hl'=>?_
 rw [←aPr hs,←aPq hs]
 split
 ·rw [List.drop_of_length_le (by rw [List.length_take,aKk hs];rename_i h;subst h;exact Nat.le_trans (Nat.min_le_left _ _) (Nat.mul_le_mul_right _ (by omega)))];exact cs_nil _ _
 ·cases q with
  | none=>
   have:l=[]:=by
    cases l with
    | nil=>rfl
    | cons x xs=>
     obtain ⟨a,ha,_⟩:=hl 0 ((ec x)[0]'(by rw [hs];exact h0)) (by rw [List.flatMap_cons,List.getElem?_append_left (by rw [hs];exact h0)];exact List.getElem?_eq_getElem _)
     cases ha
   subst this;simp;exact cs_nil _ _
  | some ad=>exact (hl'.take _).drop _
end Go.Sh
namespace Go.Proofs.YtmdboekndjlmgaaGreat
open Go Go.Sh Go.RowKit Tryz
variable {w:World}{R:EW}
theorem do_st5{b:Nat}{v0 v1 v2 v3 v4 x0 x1 x2 x3 x4:Value}{t:TypeId}(h:Blk w b #[v0,v1,v2,v3,v4] t){K:World→Prop}(k:∀w',Blk w' b #[x0,x1,x2,x3,x4] t→w.grownBy w' (some b)→K w'):
  doSt ((blk b).add 0) x0 w fun w1=>doSt ((blk b).add 1) x1 w1 fun w2=>doSt ((blk b).add 2) x2 w2 fun w3=>doSt ((blk b).add 3) x3 w3 fun w4=>doSt ((blk b).add 4) x4 w4 K:=by
 refine qA h (i:=0) (pU b 0) (by simp) fun w1 h1 g1=>?_
 have k1:Blk w1 b #[x0,v1,v2,v3,v4] t:=h1
 have e1:=g1
 refine qA k1 (i:=1) (pU b 1) (by simp) fun w2 h2 g2=>?_
 have k2:Blk w2 b #[x0,x1,v2,v3,v4] t:=h2
 have e2:=pX e1 g2
 refine qA k2 (i:=2) (pU b 2) (by simp) fun w3 h3 g3=>?_
 have k3:Blk w3 b #[x0,x1,x2,v3,v4] t:=h3
 have e3:=pX e2 g3
 refine qA k3 (i:=3) (pU b 3) (by simp) fun w4 h4 g4=>?_
 have k4:Blk w4 b #[x0,x1,x2,x3,v4] t:=h4
 have e4:=pX e3 g4
 refine qA k4 (i:=4) (pU b 4) (by simp) fun w5 h5 g5=>?_
 have k5:Blk w5 b #[x0,x1,x2,x3,x4] t:=h5
 have e5:=pX e4 g5
 exact k _ k5 e5
def sC(o p:Int)(l:List Pr):List Pr:=l.foldl (fun r x=>putR o p r x) []
theorem aEg(o p:Int)(l:List Pr)(x:Pr):sC o p (l++[x])=putR o p (sC o p l) x:=by simp [sC]
theorem aEf{o p:Int}{l:List Pr}{k:Nat}(h:k < l.length):sC o p (l.take (k+1))=putR o p (sC o p (l.take k)) l[k]:=by
 rw [←List.take_append_getElem h,aEg]
theorem snoc_ind{α:Type}{P:List α→Prop}(h0:P [])(h1:∀l x,P l→P (l++[x]))(l:List α):P l:=by
 have:∀k,k≤l.length→P (l.take k):=fun k=>by
  induction k with
  | zero=>intro _;exact h0
  | succ k ih=>intro hk;rw [←List.take_append_getElem (show k < l.length by omega)];exact h1 _ _ (ih (by omega))
 have:=this l.length (Nat.le_refl _)
 rwa [List.take_length] at this
theorem sO{o p:Int}{l:List Pr}(ho:isO o=true)(hp:may p=true)(hI:InP l):mayR o (sC o p l)=true∧InP (sC o p l)∧(sC o p l).length≤l.length:=by
 revert hI
 induction l using snoc_ind with
 | h0=>intro _;exact ⟨by simp [sC,mayR,ho,chain],(by intro x hx;cases hx),Nat.le_refl _⟩
 | h1 l x ih=>
  intro hI
  obtain ⟨h1,h2,h3⟩:=ih fun y hy=>hI y (List.mem_append_left _ hy)
  have hx:=hI x (by simp)
  rw [aEg]
  refine ⟨aBo h1 hp h2 hx.1,aLk h1 hp h2 hx,?_⟩
  rw [put_len h1 hp]
  simp only [List.length_append,List.length_cons,List.length_nil]
  split <;> omega
theorem aFw{o p:Int}{l:List Pr}{q:OA}{n c:Nat}(hl:Cs w q (prs l))(hn:l.length=n)(hm:n≤1000000000000 - 1)(hI:InP l)
  (h:∀p' n' c' w',OwnP w' w.heap.size p' n' c' (cond (isO o&&may p) (sC o p l) [])→Ext w w'→R (.returned (.tuple #[.slice p' n' c',.int .i64 (cond (isO o&&may p) 0 2)])) w'):Calls prog 40 #[.int .u8 o,.int .u8 p,.slice q n c] w R:=by
 refine sh40_ok ?_
 unfold sh40
 refine pP call19 (aHj (pN ⟨_,rfl,?_⟩))
 cases ho:isO o
 ·have hr:=h none 0 0 w
  rw [ho] at hr
  exact pZ rfl (hr (qH _ _) (pR w))
 refine pY rfl (pP call89 (aIy (pN ⟨_,rfl,?_⟩)))
 cases hp:may p
 ·have hr:=h none 0 0 w
  rw [ho,hp] at hr
  exact pZ rfl (hr (qH _ _) (pR w))
 refine pY rfl ?_
 rw [ho,hp] at h
 refine ⟨fun vs w'=>∃(k n' c':Nat) (p':OA),vs=[.slice p' n' c',.int .i64 k]∧k≤n∧Ext w w'∧OwnP w' w.heap.size p' n' c' (sC o p (l.take k)),fun vs _=>n - (intOf (vs.getD 1 undef)).toNat,⟨0,0,0,none,rfl,by omega,pR w,qH _ _⟩,?_⟩
 rintro p1 n1 c1 i1 _ w1 ⟨k,n',c',p',hv,hkn,E,ho1⟩
 simp only [List.cons.injEq,Value.slice.injEq,Value.int.injEq,true_and,and_true] at hv
 obtain ⟨⟨rfl,rfl,rfl⟩,rfl⟩:=hv
 refine pO (fun hlt=>?_) fun hge=>?_
 ·have hlt:k < n:=by have:=of_decide_eq_true hlt;omega
  obtain ⟨m1,m2,m3⟩:=sO (p:=p) ho hp (fun x (hx:x∈l.take k)=>hI x (List.mem_of_mem_take hx))
  have hl1:=qF ho1
  rw [List.length_take] at m3
  refine rI (hl.ext E) hn rfl hlt fun a r1 r2 _=>⟨_,r1,_,r2,?_⟩
  refine pP call34 (aOg (x:=l[k]'(by omega)) (rB ho1) hl1 (tD ho1) (by omega) m2 (hI _ (List.getElem_mem _)).1 fun p2 n2 c2 w2 h2 e2=>pN ⟨_,_,_,_,rfl,?_⟩)
  refine ⟨⟨k+1,n2,c2,p2,by rw [pW hlt (by omega)],by omega,E.trans e2,?_⟩,?_⟩
  ·rw [aEf (by omega)];exact rO h2 E.size
  ·rw [pW hlt (by omega)];simp [intOf];omega
 ·have hge:k=n:=by have:=of_decide_eq_false hge;omega
  subst hge
  rw [List.take_of_length_le (by omega)] at ho1
  exact h _ _ _ _ ho1 E
end Go.Proofs.YtmdboekndjlmgaaGreat
