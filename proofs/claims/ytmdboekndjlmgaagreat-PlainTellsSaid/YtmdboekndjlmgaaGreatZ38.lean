/-
  An op done in the document's book.
-/
import Derived.Test.YtmdboekndjlmgaaGreatZ37
set_option maxRecDepth 100000
set_option maxHeartbeats 6400000
namespace Go.Proofs.YtmdboekndjlmgaaGreat.Rb
open Go Go.Sh Go.RowKit Tryz
variable {w:World}{R:EW}
theorem do_dr{w u:World}{K:World→Prop}(e:u=w.drew)(h:K u):doDr w K:=⟨e▸h⟩
theorem srtP_in{o p:Int}{l:List Pr}(hI:InP l):InP (srtP o p l)∧(srtP o p l).length≤l.length:=by
 unfold srtP
 cases ho:isO o with
 | false=>exact ⟨(by intro x hx;cases hx),Nat.zero_le _⟩
 | true=>
  cases hp:may p with
  | false=>exact ⟨(by intro x hx;cases hx),Nat.zero_le _⟩
  | true=>exact ⟨(sO ho hp hI).2.1,(sO ho hp hI).2.2⟩
theorem wG(y:Pr)(is:Bool):(qG y is).new=[]:=by unfold qG;split <;> rfl
theorem found_pairs(y:Pr)(is:Bool):(qG y is).pairs=[]:=by unfold qG;split <;> rfl
theorem finish{P:Nat→Prop}{rb b3:Nat}{o:Int}{L:Rows}{w wk w':World}(hB:BookN (fun k=>P k∧k≠b3) wk rb o L)(c:Chg (BkOwn rb) (fun _=>False) w wk)(l3:w.heap.size≤b3)(n3:¬BkOwn rb wk b3)(g:wk.grownBy w' (some b3)):
  BookN P w' rb o L∧Chg (BkOwn rb) (fun _=>False) w w'∧(∀k,BkOwn rb w' k↔BkOwn rb wk k):=by
 have B:=hB.st g fun b hb=>by cases hb;exact ⟨fun h=>h.2 rfl,n3⟩
 exact ⟨B.1.up fun k hk=>hk.1,zS c g (fun b hb=>by cases hb;exact l3) fun k hk=>(B.2 k).1 hk,B.2⟩
theorem c_do{P:Nat→Prop}{rb:Nat}{o:Int}{L:Rows}{x:POp}{pp kp:OA}{pc kc:Nat}(ho:isO o=true)(hB:BookN P w rb o L)(hP:∀k,w.heap.size≤k→P k)(hL:0 < L.length)(zL:L.length≤4500)(hat:∀m,mayR o (atL L m)=true∧InP (atL L m)∧(atL L m).length≤5000)(hx:InO x)
  (hp:Cs w pp (prs x.pairs)) (hk:Cs w kp (ints x.keys)) (zp:x.pairs.length≤5000) (zk:x.keys.length≤5000) (hpc:x.pairs.length≤pc)
  (h:∀v w',RepAt w.heap.size rb w' v (doP o L x).1→BookN P w' rb o (doP o L x).2→Chg (BkOwn rb) (fun _=>False) w w'→R (.returned v) w') :
  Calls prog 22 #[.pointer (some (blk rb)),.agg #[.int .u8 x.op,.int .i64 x.a,.int .i64 x.b,.int .i64 x.key,.int .i64 x.val,.int .i64 x.lo,.int .i64 x.hi,.int .i64 x.n,.int .u8 x.pol,.int .u8 x.pk,.int .i64 x.pa,.int .i64 x.pb,.bool x.pnot,.slice pp x.pairs.length pc,.slice kp x.keys.length kc]] w R:=by
 refine sh22_ok ?_
 unfold sh22
 refine rK fun b2 w2 e2 X2 l2=>rK fun b3 w3 e3 T3 l3=>?_
 have X3:=X2.ext e3
 have s2:=e2.size
 have lb3:w.heap.size≤b3:=by omega
 have hB3:BookN (fun k=>P k∧k≠b3) w3 rb o L:=(hB.top.up fun k hk=>⟨hk.1,by have:=hk.2;omega⟩).ext (e2.trans e3)
 have nb3:¬BkOwn rb w3 b3:=fun hk=>by have:=hB.lt ((hB.own_ext (e2.trans e3) b3).1 hk);omega
 have E03:=e2.trans e3
 refine ⟨_,X3.cell (i:=0) rfl rfl,_,X3.cell (i:=1) rfl rfl,_,X3.cell (i:=2) rfl rfl,_,X3.cell (i:=3) rfl rfl,_,X3.cell (i:=4) rfl rfl,_,X3.cell (i:=5) rfl rfl,_,X3.cell (i:=6) rfl rfl,_,X3.cell (i:=7) rfl rfl,_,X3.cell (i:=8) rfl rfl,_,X3.cell (i:=9) rfl rfl,_,X3.cell (i:=10) rfl rfl,_,X3.cell (i:=11) rfl rfl,_,X3.cell (i:=12) rfl rfl,_,_,_,X3.cell (i:=13) rfl rfl,_,_,_,X3.cell (i:=14) rfl rfl,?_⟩
 refine pP call32 (c_wrong hB3 (by omega) hx fun w4 e4=>pN ⟨_,rfl,?_⟩)
 by_cases hw:rT o L x=0
 case neg=>
  refine pZ (by simpa using hw) (ep7 (T3.ext e4) fun w5 g5=>?_)
  have hd:doP o L x=({ Rep.zero with err:=rT o L x },L):=do_wrong rfl hw
  rw [hd] at h
  obtain ⟨f1,f2,_⟩:=finish (hB3.ext e4) (hB.chg (E03.trans e4)) lb3 (fun hk=>nb3 ((hB3.own_ext e4 b3).1 hk)) g5
  exact h _ w5 ⟨_,_,rfl,rP _ _ _,rP _ _ _,fun a m d e=>(by cases e),fun a m d e=>(by cases e)⟩ f1 f2
 refine pY (by simpa using hw) ?_
 obtain ⟨hmayx,hta,htb,hsel,_⟩:=aEc hw hL
 have hdo:=do_act hw
 obtain ⟨ham,hIa,za⟩:=hat x.a
 obtain ⟨hcm,hIc,zc⟩:=hat x.b
 have B4:=hB3.ext e4
 obtain ⟨pB,cB,hbB,hixa⟩:=B4.ix (m:=x.a)
 obtain ⟨aA,qa,da,rfl,ga1,ga2,ga3,ra4,ba⟩:=hixa hta
 obtain ⟨pB',cB',hbB',hixb⟩:=B4.ix (m:=x.b)
 obtain ⟨aB,qc,dc,ep,gc1,gc2,gc3,rc4,bc⟩:=hixb htb
 obtain ⟨_,eb⟩:=aGb hbB hbB'
 subst ep
 injection eb with eb1 eb2 eb3
 cases eb1
 clear hixa hixb
 have X4:=X3.ext e4
 obtain ⟨w5,ew5⟩:∃u,u=w4.drew:=⟨_,rfl⟩
 have e5:Ext w4 w5:=by rw [ew5];exact pT w4
 refine do_dr ew5 ?_
 have X5:=X4.ext e5
 have hb5:=hbB.ext e5
 refine ⟨fun w'=>Ext w5 w',pR _,_,rfl,_,_,_,fun w' e=>(hb5.ext e).cell (i:=1) rfl rfl,_,fun w' e=>(X5.ext e).cell (i:=1) rfl rfl,?_⟩
 refine ⟨_,rfl,ga1,ga2,_,_,_,fun w' e=>(e5.trans e).cell ga3,?_⟩
 refine ⟨_,rfl,_,_,_,fun w' e=>(hb5.ext e).cell (i:=1) rfl rfl,_,fun w' e=>(X5.ext e).cell (i:=2) rfl rfl,?_⟩
 refine ⟨_,rfl,gc1,gc2,_,_,_,fun w' e=>(e5.trans e).cell gc3,?_⟩
 obtain ⟨w6,ew6⟩:∃u,u=w5.drew:=⟨_,rfl⟩
 have e6:Ext w5 w6:=by rw [ew6];exact pT w5
 refine do_dr ew6 ?_
 have X6:=X5.ext e6
 have hb6:=hb5.ext e6
 refine ⟨fun w'=>Ext w6 w',pR _,_,rfl,_,fun w' e=>(hb6.ext e).cell (i:=0) rfl rfl,_,fun w' e=>(X6.ext e).cell (i:=3) rfl rfl,?_⟩
 have e46:=e5.trans e6
 have raK:=ra4
 obtain ⟨qa',ca',ea',hac,hca,_⟩:=ra4
 injection ea' with ea1 ea2 ea3
 subst ea1 ea3
 obtain ⟨qc',cc',ec',_,hcc,_⟩:=rc4
 injection ec' with ec1 ec2 ec3
 subst ec1 ec3
 refine pP call33 (aDz (hca.ext e46) rfl (by omega) hIa hx.key fun w7 e7=>pN ⟨_,_,rfl,?_⟩)
 have e47:=e46.trans e7
 have X7:=X6.ext e7
 refine ⟨_,X7.cell (i:=0) rfl rfl,?_⟩
 have B6:=B4.ext e47
 have T6:=(T3.ext e4).ext e47
 have hb7:=hb6.ext e7
 have hca:=hca.ext e47
 have hcc:=hcc.ext e47
 have E07:Ext w w7:=(E03.trans e4).trans e47
 have hp:=hp.ext E07
 have hk:=hk.ext E07
 have n6:¬BkOwn rb w7 b3:=fun hk=>nb3 ((hB3.own_ext (e4.trans e47) b3).1 hk)
 have ra:RowAt (BkOwn rb) rb w7 (.slice qa (atL L x.a).length da) (atL L x.a).length (prs (atL L x.a)):=raK.chg (B4.chg e47)
 have hP3:∀{u:World},Ext w7 u→∀k,u.heap.size≤k→P k∧k≠b3:=fun {u} e k hk=>by
  have:=e.size;have:=E07.size;have:=T6.lt
  exact ⟨hP k (by omega),by omega⟩
 have n3:∀{u:World},Ext w7 u→¬BkOwn rb u b3:=fun {u} e hk=>n6 ((B6.own_ext e b3).1 hk)
 have c7:=hB.chg (S:=fun _=>False) E07
 have nb2:∀{u:World},Ext w7 u→¬BkOwn rb u b2:=fun {u} e hk=>by have:=hB.lt ((hB.own_ext (E07.trans e) b2).1 hk);omega
 clear raK X2 X3 X4 X5 T3 hB3 B4 hb5 hbB hbB' e2 e3 e4 e5 e6 e7 e46 e47 E03 l2 l3 s2 nb3
 -- an answer with no rows
 have fin0:∀(r:Rep) (u u':World),Ext w7 u→doP o L x=(r,L)→r.new=[]→r.pairs=[]→u.grownBy u' (some b3)→R (.returned (.agg #[.int .i64 r.err,.bool r.is,.int .i64 r.key,.int .i64 r.val,.int .i64 r.n,.slice none 0 0,.slice none 0 0])) u':=fun r u u' e hd h1 h2 g=>by
  obtain ⟨f1,f2,_⟩:=finish (B6.ext e) (c7.trans (B6.chg e)) lb3 (n3 e) g
  rw [hd] at h
  exact h _ u' (uQ h1 h2) f1 f2
 -- one version more
 have finC:∀(l:List Pr) (u:World),Ext w7 u→doP o L x=countP L l→∀(v:Value) (u2:World),RepAt u.heap.size rb u2 v (countP L l).1→BookN (fun k=>P k∧k≠b3) u2 rb o (countP L l).2→Chg (BkOwn rb) (fun _=>False) u u2→
   ∃v',v=v'∧∀u3,u2.grownBy u3 (some b3)→R (.returned v') u3:=fun l u e hd v u2 hR hB2 c2=>by
  refine ⟨v,rfl,fun u3 g=>?_⟩
  have n2:¬BkOwn rb u2 b3:=c2.out b3 (Nat.lt_of_lt_of_le T6.lt e.size) (n3 e)
  obtain ⟨f1,f2,f3⟩:=finish hB2 ((c7.trans (B6.chg e)).trans c2) lb3 n2 g
  rw [hd] at h
  exact h _ u3 ((hR.st g (Nat.lt_of_lt_of_le T6.lt e.size) fun k hk=>(f3 k).1 hk).mono (by have:=E07.size;have:=e.size;omega)) f1 f2
 -- a row more, and what was ahead of it
 have finM:∀(r0:Rep) (l:List Pr) (u u2:World) (b8:Nat) (u3:World),Ext w7 u→BookN (fun k=>P k∧k≠b3) u2 rb o (L++[l])→Chg (BkOwn rb) (fun _=>False) u u2→Blk u2 b8 #[.int .i64 (L.length:Int)] 3→u.heap.size≤b8→¬BkOwn rb u2 b8→u2.grownBy u3 (some b3)→doP o L x=sT r0 L [l]→r0.pairs=[]→
   R (.returned (.agg #[.int .i64 r0.err,.bool r0.is,.int .i64 r0.key,.int .i64 r0.val,.int .i64 r0.n,.slice (some (blk b8)) 1 1,.slice none 0 0])) u3:=fun r0 l u u2 b8 u3 e hB2 c2 X l8 n8 g hd hr=>by
  have n2:¬BkOwn rb u2 b3:=c2.out b3 (Nat.lt_of_lt_of_le T6.lt e.size) (n3 e)
  obtain ⟨f1,f2,f3⟩:=finish hB2 ((c7.trans (B6.chg e)).trans c2) lb3 n2 g
  rw [hd] at h
  have s1:=T6.lt
  have s2:=e.size
  have s3:=E07.size
  have X3:Blk u3 b8 #[.int .i64 (L.length:Int)] 3:=X.grown g (pV (by omega))
  have s4:=hB.lt (.inl rfl)
  refine h _ u3 ⟨.slice (some (blk b8)) 1 1,.slice none 0 0,rfl,⟨_,1,rfl,by show 1≤1;omega,tW X3,fun a ha _=>?_⟩,?_,fun a m d e=>?_,fun a m d e=>(by cases e)⟩ f1 f2
  ·cases ha
   exact ⟨fun hk=>n8 ((f3 _).1 hk),fun e=>by simp only at e;omega,X3.lt⟩
  ·show RowAt _ _ _ _ r0.pairs.length (prs r0.pairs)
   rw [hr];exact rP _ _ _
  ·cases e;simp only;omega
 refine pO (fun z=>?_) fun z1=>?_
 ·have z:x.op=1:=by simpa using z
  have hd:doP o L x=sT (wasP o (atL L x.a) x.key) L [putR o x.pol (atL L x.a) (x.key,x.val)]:=by rw [hdo];unfold actP;rw [z];rfl
  have E7:=pR w7
  obtain ⟨w8,ew8⟩:∃u,u=w7.drew:=⟨_,rfl⟩
  have e8:Ext w7 w8:=by rw [ew8];exact pT w7
  have X8:=X7.ext e8
  have hb8:=hb7.ext e8
  have E8:=E7.trans e8
  refine do_dr ew8 ?_
  refine ⟨fun w'=>Ext w8 w',pR _,_,rfl,_,fun w' e=>(hb8.ext e).cell (i:=0) rfl rfl,_,fun w' e=>(X8.ext e).cell (i:=8) rfl rfl,_,fun w' e=>(X8.ext e).cell (i:=3) rfl rfl,_,fun w' e=>(X8.ext e).cell (i:=4) rfl rfl,?_⟩
  refine pP call34 (aOg (x:=(x.key,x.val)) (hca.ext e8) rfl hac (by omega) hIa hx.key fun p9 n9 c9 w9 ho9 e9=>pN ⟨_,_,_,_,rfl,e9,?_⟩)
  have E9:=E8.trans e9
  obtain ⟨f1,f2⟩:=fresh (B6.ext E8) (Nat.le_refl _) (hP3 E8) e9 ho9
  refine pP call35 (zW (l:=(putR o x.pol (atL L x.a) (x.key,x.val))) (B6.ext E9) zL f1 f2 fun b20 w20 B20 c20 X20 l20 n20=>pN ⟨_,_,_,rfl,?_⟩)
  refine ep7 (c20.blk (T6.ext E9) (n3 E9) fun h=>h) fun w21 g21=>?_
  exact finM (wasP o (atL L x.a) x.key) (putR o x.pol (atL L x.a) (x.key,x.val)) _ _ _ _ E9 B20 c20 X20 l20 n20 g21 hd rfl
 refine pO (fun z=>?_) fun z2=>?_
 ·have z:x.op=2:=by simpa using z
  have hd:doP o L x=sT (wasP o (atL L x.a) x.key) L [rY o (atL L x.a) x.key]:=by rw [hdo];unfold actP;rw [z];rfl
  have E7:=pR w7
  obtain ⟨w8,ew8⟩:∃u,u=w7.drew:=⟨_,rfl⟩
  have e8:Ext w7 w8:=by rw [ew8];exact pT w7
  have X8:=X7.ext e8
  have hb8:=hb7.ext e8
  have E8:=E7.trans e8
  refine do_dr ew8 ?_
  refine ⟨fun w'=>Ext w8 w',pR _,_,rfl,_,fun w' e=>(hb8.ext e).cell (i:=0) rfl rfl,_,fun w' e=>(X8.ext e).cell (i:=3) rfl rfl,?_⟩
  refine pP call36 (aKu (hca.ext e8) rfl (by omega) hIa fun p9 n9 c9 w9 ho9 e9=>pN ⟨_,_,_,_,rfl,?_⟩)
  have E9:=E8.trans e9
  obtain ⟨f1,f2⟩:=fresh (B6.ext E8) (Nat.le_refl _) (hP3 E8) e9 ho9
  refine pP call35 (zW (l:=(rY o (atL L x.a) x.key)) (B6.ext E9) zL f1 f2 fun b20 w20 B20 c20 X20 l20 n20=>pN ⟨_,_,_,rfl,?_⟩)
  refine ep7 (c20.blk (T6.ext E9) (n3 E9) fun h=>h) fun w21 g21=>?_
  exact finM (wasP o (atL L x.a) x.key) (rY o (atL L x.a) x.key) _ _ _ _ E9 B20 c20 X20 l20 n20 g21 hd rfl
 refine pO (fun z=>?_) fun z3=>?_
 ·have z:x.op=3:=by simpa using z
  have hd:doP o L x=(qG (x.key,getR o (atL L x.a) x.key) (hasR o (atL L x.a) x.key),L):=by rw [hdo];unfold actP;rw [z];rfl
  have E7:=pR w7
  refine ⟨_,X7.cell (i:=3) rfl rfl,?_⟩
  refine pP call37 (c_of (x:=(x.key,getR o (atL L x.a) x.key)) (is:=(hasR o (atL L x.a) x.key)) fun w8 e8=>pN ⟨_,_,_,_,_,_,_,_,_,_,_,rfl,ep7 (T6.ext (E7.trans e8)) fun w21 g21=>?_⟩)
  exact fin0 (qG (x.key,getR o (atL L x.a) x.key) (hasR o (atL L x.a) x.key)) _ _ (E7.trans e8) hd (wG _ _) (found_pairs _ _) g21
 refine pO (fun z=>?_) fun z4=>?_
 ·have z:x.op=4:=by simpa using z
  have hd:doP o L x=(qG ((atL L x.a).getD 0 (0,0)) (decide (0 < (atL L x.a).length)),L):=by rw [hdo];unfold actP;rw [z];rfl
  have E7:=pR w7
  refine pO (fun y=>?_) fun y=>?_
  ·have y:(atL L x.a).length=0:=by simpa using y
   refine ep7 T6 fun w21 g21=>?_
   have hd0:doP o L x=(Rep.zero,L):=by rw [hd,show decide (0 < (atL L x.a).length)=false by rw [y];rfl];rfl
   exact fin0 Rep.zero _ _ (pR _) hd0 rfl rfl g21
  ·have y:0 < (atL L x.a).length:=Nat.pos_of_ne_zero (by simpa using y)
   have hlt:0 < (atL L x.a).length:=by omega
   rw [show decide (0 < (atL L x.a).length)=true from decide_eq_true y,List.getD_eq_getElem?_getD,List.getElem?_eq_getElem hlt] at hd
   have hd:doP o L x=(qG ((atL L x.a)[0]'hlt) true,L):=hd
   refine rI hca rfl (k:=0) rfl hlt fun a1 r1 r2 _=>⟨_,r1,_,r2,?_⟩
   refine pP call37 (c_of (x:=((atL L x.a)[0]'hlt)) (is:=true) fun w8 e8=>pN ⟨_,_,_,_,_,_,_,_,_,_,_,rfl,ep7 (T6.ext (E7.trans e8)) fun w21 g21=>?_⟩)
   exact fin0 (qG ((atL L x.a)[0]'hlt) true) _ _ (E7.trans e8) hd (wG _ _) (found_pairs _ _) g21
 refine pO (fun z=>?_) fun z5=>?_
 ·have z:x.op=5:=by simpa using z
  have hd:doP o L x=(qG ((atL L x.a).getD ((atL L x.a).length - 1) (0,0)) (decide (0 < (atL L x.a).length)),L):=by rw [hdo];unfold actP;rw [z];rfl
  have E7:=pR w7
  refine pO (fun y=>?_) fun y=>?_
  ·have y:(atL L x.a).length=0:=by simpa using y
   refine ep7 T6 fun w21 g21=>?_
   have hd0:doP o L x=(Rep.zero,L):=by rw [hd,show decide (0 < (atL L x.a).length)=false by rw [y];rfl];rfl
   exact fin0 Rep.zero _ _ (pR _) hd0 rfl rfl g21
  ·have y:0 < (atL L x.a).length:=Nat.pos_of_ne_zero (by simpa using y)
   have hlt:((atL L x.a).length - 1) < (atL L x.a).length:=by omega
   rw [show decide (0 < (atL L x.a).length)=true from decide_eq_true y,List.getD_eq_getElem?_getD,List.getElem?_eq_getElem hlt] at hd
   have hd:doP o L x=(qG ((atL L x.a)[((atL L x.a).length - 1)]'hlt) true,L):=hd
   rw [qB (by omega) (by omega)]
   refine rI hca rfl (k:=((atL L x.a).length - 1)) (by omega) hlt fun a1 r1 r2 _=>⟨_,r1,_,r2,?_⟩
   refine pP call37 (c_of (x:=((atL L x.a)[((atL L x.a).length - 1)]'hlt)) (is:=true) fun w8 e8=>pN ⟨_,_,_,_,_,_,_,_,_,_,_,rfl,ep7 (T6.ext (E7.trans e8)) fun w21 g21=>?_⟩)
   exact fin0 (qG ((atL L x.a)[((atL L x.a).length - 1)]'hlt) true) _ _ (E7.trans e8) hd (wG _ _) (found_pairs _ _) g21
 refine pO (fun z=>?_) fun z6=>?_
 ·have z:x.op=6:=by simpa using z
  have hd:doP o L x=(qG (tV o (atL L x.a) x.key) (rS o (atL L x.a) x.key),L):=by rw [hdo];unfold actP;rw [z];rfl
  have E7:=pR w7
  obtain ⟨w8,ew8⟩:∃u,u=w7.drew:=⟨_,rfl⟩
  have e8:Ext w7 w8:=by rw [ew8];exact pT w7
  have X8:=X7.ext e8
  have hb8:=hb7.ext e8
  have E8:=E7.trans e8
  refine do_dr ew8 ?_
  refine ⟨fun w'=>Ext w8 w',pR _,_,rfl,_,fun w' e=>(hb8.ext e).cell (i:=0) rfl rfl,_,fun w' e=>(X8.ext e).cell (i:=3) rfl rfl,?_⟩
  refine pP call38 (aQa (hca.ext e8) rfl (by omega) hIa hx.key fun w9 e9=>pN ⟨_,_,_,rfl,?_⟩)
  have E9:=E8.trans e9
  refine pP call37 (c_of (x:=(tV o (atL L x.a) x.key)) (is:=(rS o (atL L x.a) x.key)) fun w10 e10=>pN ⟨_,_,_,_,_,_,_,_,_,_,_,rfl,e9.trans e10,ep7 (T6.ext (E9.trans e10)) fun w21 g21=>?_⟩)
  exact fin0 (qG (tV o (atL L x.a) x.key) (rS o (atL L x.a) x.key)) _ _ (E9.trans e10) hd (wG _ _) (found_pairs _ _) g21
 refine pO (fun z=>?_) fun z7=>?_
 ·have z:x.op=7:=by simpa using z
  have hd:doP o L x=(qG (vY o (atL L x.a) x.key) (sM o (atL L x.a) x.key),L):=by rw [hdo];unfold actP;rw [z];rfl
  have E7:=pR w7
  obtain ⟨w8,ew8⟩:∃u,u=w7.drew:=⟨_,rfl⟩
  have e8:Ext w7 w8:=by rw [ew8];exact pT w7
  have X8:=X7.ext e8
  have hb8:=hb7.ext e8
  have E8:=E7.trans e8
  refine do_dr ew8 ?_
  refine ⟨fun w'=>Ext w8 w',pR _,_,rfl,_,fun w' e=>(hb8.ext e).cell (i:=0) rfl rfl,_,fun w' e=>(X8.ext e).cell (i:=3) rfl rfl,?_⟩
  refine pP call39 (c_r4ceil (hca.ext e8) rfl (by omega) hIa hx.key fun w9 e9=>pN ⟨_,_,_,rfl,?_⟩)
  have E9:=E8.trans e9
  refine pP call37 (c_of (x:=(vY o (atL L x.a) x.key)) (is:=(sM o (atL L x.a) x.key)) fun w10 e10=>pN ⟨_,_,_,_,_,_,_,_,_,_,_,rfl,e9.trans e10,ep7 (T6.ext (E9.trans e10)) fun w21 g21=>?_⟩)
  exact fin0 (qG (vY o (atL L x.a) x.key) (sM o (atL L x.a) x.key)) _ _ (E9.trans e10) hd (wG _ _) (found_pairs _ _) g21
 refine pO (fun z=>?_) fun z8=>?_
 ·have z:x.op=8:=by simpa using z
  have hd:doP o L x=countP L (srtP o x.pol x.pairs):=by rw [hdo];unfold actP;rw [z];rfl
  have E7:=pR w7
  obtain ⟨w8,ew8⟩:∃u,u=w7.drew:=⟨_,rfl⟩
  have e8:Ext w7 w8:=by rw [ew8];exact pT w7
  have X8:=X7.ext e8
  have hb8:=hb7.ext e8
  have E8:=E7.trans e8
  refine do_dr ew8 ?_
  refine ⟨fun w'=>Ext w8 w',pR _,_,rfl,_,fun w' e=>(hb8.ext e).cell (i:=0) rfl rfl,_,fun w' e=>(X8.ext e).cell (i:=8) rfl rfl,_,_,_,fun w' e=>(X8.ext e).cell (i:=13) rfl rfl,?_⟩
  refine pP call40 (aFw (hp.ext e8) rfl (by omega) hx.pairs fun p9 n9 c9 w9 ho9 e9=>pN ⟨_,_,_,_,rfl,?_⟩)
  have E9:=E8.trans e9
  obtain ⟨f1,f2⟩:=fresh (B6.ext E8) (Nat.le_refl _) (hP3 E8) e9 ho9
  refine pP call41 (sS (l:=(srtP o x.pol x.pairs)) (B6.ext E9) (hP3 E9) zL f1 f2 fun v w20 hR B20 c20=>?_)
  obtain ⟨nv,pv,rfl,h1,h2,_⟩:=hR.ex
  obtain ⟨q1,d1,rfl,_⟩:=h1
  obtain ⟨q2,d2,rfl,_⟩:=h2
  obtain ⟨v',ev',fv'⟩:=finC _ _ E9 hd _ _ hR B20 c20
  subst ev'
  exact pN ⟨_,_,_,_,_,_,_,_,_,_,_,rfl,ep7 (c20.blk (T6.ext E9) (n3 E9) fun h=>h) fun w21 g21=>fv' w21 g21⟩
 refine pO (fun z=>?_) fun z9=>?_
 ·have z:x.op=9:=by simpa using z
  have hd:doP o L x=countP L (setL o x.pol wU (atL L x.a) (atL L x.b)):=by rw [hdo];unfold actP;rw [z];rfl
  rw [un_eq hIa hIc] at hd
  have E7:=pR w7
  obtain ⟨w8,ew8⟩:∃u,u=w7.drew:=⟨_,rfl⟩
  have e8:Ext w7 w8:=by rw [ew8];exact pT w7
  have X8:=X7.ext e8
  have hb8:=hb7.ext e8
  have E8:=E7.trans e8
  refine do_dr ew8 ?_
  refine ⟨fun w'=>Ext w8 w',pR _,_,rfl,_,fun w' e=>(hb8.ext e).cell (i:=0) rfl rfl,_,fun w' e=>(X8.ext e).cell (i:=8) rfl rfl,?_⟩
  refine pP call42 (c_r5un (hca.ext e8) rfl (by omega) hIa (hcc.ext e8) rfl (by omega) hIc fun p9 n9 c9 w9 ho9 e9=>pN ⟨_,_,_,_,rfl,?_⟩)
  have E9:=E8.trans e9
  obtain ⟨f1,f2⟩:=fresh (B6.ext E8) (Nat.le_refl _) (hP3 E8) e9 ho9
  refine pP call41 (sS (l:=(r5un o x.pol (atL L x.a) (atL L x.b))) (B6.ext E9) (hP3 E9) zL f1 f2 fun v w20 hR B20 c20=>?_)
  obtain ⟨nv,pv,rfl,h1,h2,_⟩:=hR.ex
  obtain ⟨q1,d1,rfl,_⟩:=h1
  obtain ⟨q2,d2,rfl,_⟩:=h2
  obtain ⟨v',ev',fv'⟩:=finC _ _ E9 hd _ _ hR B20 c20
  subst ev'
  exact pN ⟨_,_,_,_,_,_,_,_,_,_,_,rfl,ep7 (c20.blk (T6.ext E9) (n3 E9) fun h=>h) fun w21 g21=>fv' w21 g21⟩
 refine pO (fun z=>?_) fun z10=>?_
 ·have z:x.op=10:=by simpa using z
  have hd:doP o L x=countP L (setL o x.pol wM (atL L x.a) (atL L x.b)):=by rw [hdo];unfold actP;rw [z];rfl
  rw [me_eq hIa hIc] at hd
  have E7:=pR w7
  obtain ⟨w8,ew8⟩:∃u,u=w7.drew:=⟨_,rfl⟩
  have e8:Ext w7 w8:=by rw [ew8];exact pT w7
  have X8:=X7.ext e8
  have hb8:=hb7.ext e8
  have E8:=E7.trans e8
  refine do_dr ew8 ?_
  refine ⟨fun w'=>Ext w8 w',pR _,_,rfl,_,fun w' e=>(hb8.ext e).cell (i:=0) rfl rfl,_,fun w' e=>(X8.ext e).cell (i:=8) rfl rfl,?_⟩
  refine pP call43 (c_r5me (hca.ext e8) rfl (by omega) hIa (hcc.ext e8) rfl (by omega) hIc fun p9 n9 c9 w9 ho9 e9=>pN ⟨_,_,_,_,rfl,?_⟩)
  have E9:=E8.trans e9
  obtain ⟨f1,f2⟩:=fresh (B6.ext E8) (Nat.le_refl _) (hP3 E8) e9 ho9
  refine pP call41 (sS (l:=(r5me o x.pol (atL L x.a) (atL L x.b))) (B6.ext E9) (hP3 E9) zL f1 f2 fun v w20 hR B20 c20=>?_)
  obtain ⟨nv,pv,rfl,h1,h2,_⟩:=hR.ex
  obtain ⟨q1,d1,rfl,_⟩:=h1
  obtain ⟨q2,d2,rfl,_⟩:=h2
  obtain ⟨v',ev',fv'⟩:=finC _ _ E9 hd _ _ hR B20 c20
  subst ev'
  exact pN ⟨_,_,_,_,_,_,_,_,_,_,_,rfl,ep7 (c20.blk (T6.ext E9) (n3 E9) fun h=>h) fun w21 g21=>fv' w21 g21⟩
 refine pO (fun z=>?_) fun z11=>?_
 ·have z:x.op=11:=by simpa using z
  have hd:doP o L x=countP L (setL o 1 wL (atL L x.a) (atL L x.b)):=by rw [hdo];unfold actP;rw [z];rfl
  rw [le_eq hIa hIc] at hd
  have E7:=pR w7
  refine ⟨_,rfl,_,hb7.cell (i:=0) rfl rfl,?_⟩
  refine pP call44 (c_r5le hca rfl (by omega) hIa hcc rfl (by omega) hIc fun p9 n9 c9 w9 ho9 e9=>pN ⟨_,_,_,_,rfl,?_⟩)
  have E9:=E7.trans e9
  obtain ⟨f1,f2⟩:=fresh (B6.ext E7) (Nat.le_refl _) (hP3 E7) e9 ho9
  refine pP call41 (sS (l:=(r5le o (atL L x.a) (atL L x.b))) (B6.ext E9) (hP3 E9) zL f1 f2 fun v w20 hR B20 c20=>?_)
  obtain ⟨nv,pv,rfl,h1,h2,_⟩:=hR.ex
  obtain ⟨q1,d1,rfl,_⟩:=h1
  obtain ⟨q2,d2,rfl,_⟩:=h2
  obtain ⟨v',ev',fv'⟩:=finC _ _ E9 hd _ _ hR B20 c20
  subst ev'
  exact pN ⟨_,_,_,_,_,_,_,_,_,_,_,rfl,ep7 (c20.blk (T6.ext E9) (n3 E9) fun h=>h) fun w21 g21=>fv' w21 g21⟩
 refine pO (fun z=>?_) fun z12=>?_
 ·have z:x.op=12:=by simpa using z
  have hd:doP o L x=countP L (setL o 1 wA (atL L x.a) (atL L x.b)):=by rw [hdo];unfold actP;rw [z];rfl
  rw [ap_eq hIa hIc] at hd
  have E7:=pR w7
  refine ⟨_,rfl,_,hb7.cell (i:=0) rfl rfl,?_⟩
  refine pP call45 (c_r5ap hca rfl (by omega) hIa hcc rfl (by omega) hIc fun p9 n9 c9 w9 ho9 e9=>pN ⟨_,_,_,_,rfl,?_⟩)
  have E9:=E7.trans e9
  obtain ⟨f1,f2⟩:=fresh (B6.ext E7) (Nat.le_refl _) (hP3 E7) e9 ho9
  refine pP call41 (sS (l:=(r5ap o (atL L x.a) (atL L x.b))) (B6.ext E9) (hP3 E9) zL f1 f2 fun v w20 hR B20 c20=>?_)
  obtain ⟨nv,pv,rfl,h1,h2,_⟩:=hR.ex
  obtain ⟨q1,d1,rfl,_⟩:=h1
  obtain ⟨q2,d2,rfl,_⟩:=h2
  obtain ⟨v',ev',fv'⟩:=finC _ _ E9 hd _ _ hR B20 c20
  subst ev'
  exact pN ⟨_,_,_,_,_,_,_,_,_,_,_,rfl,ep7 (c20.blk (T6.ext E9) (n3 E9) fun h=>h) fun w21 g21=>fv' w21 g21⟩
 refine pO (fun z=>?_) fun z13=>?_
 ·have z:x.op=13:=by simpa using z
  have hd:doP o L x=countP L (yU x.pk x.pa x.pb x.pnot (atL L x.a)):=by rw [hdo];unfold actP;rw [z];rfl
  have E7:=pR w7
  refine ⟨_,X7.cell (i:=9) rfl rfl,_,X7.cell (i:=10) rfl rfl,_,X7.cell (i:=11) rfl rfl,_,X7.cell (i:=12) rfl rfl,?_⟩
  refine pP call46 (c_r6keep hx.pa hx.pb hca rfl (by omega) hIa fun p9 n9 c9 w9 ho9 e9=>pN ⟨_,_,_,rfl,?_⟩)
  have E9:=E7.trans e9
  obtain ⟨f1,f2⟩:=fresh (B6.ext E7) (Nat.le_refl _) (hP3 E7) e9 ho9
  refine pP call41 (sS (l:=(yU x.pk x.pa x.pb x.pnot (atL L x.a))) (B6.ext E9) (hP3 E9) zL f1 f2 fun v w20 hR B20 c20=>?_)
  obtain ⟨nv,pv,rfl,h1,h2,_⟩:=hR.ex
  obtain ⟨q1,d1,rfl,_⟩:=h1
  obtain ⟨q2,d2,rfl,_⟩:=h2
  obtain ⟨v',ev',fv'⟩:=finC _ _ E9 hd _ _ hR B20 c20
  subst ev'
  exact pN ⟨_,_,_,_,_,_,_,_,_,_,_,rfl,ep7 (c20.blk (T6.ext E9) (n3 E9) fun h=>h) fun w21 g21=>fv' w21 g21⟩
 refine pO (fun z=>?_) fun z14=>?_
 ·have z:x.op=14:=by simpa using z
  have hd:doP o L x=countP L (setL o x.pol wU (atL L x.a) (srtP o x.pol x.pairs)):=by rw [hdo];unfold actP;rw [z];rfl
  obtain ⟨hIs,zs⟩:=srtP_in (o:=o) (p:=x.pol) hx.pairs
  rw [un_eq hIa hIs] at hd
  have E7:=pR w7
  obtain ⟨w8,ew8⟩:∃u,u=w7.drew:=⟨_,rfl⟩
  have e8:Ext w7 w8:=by rw [ew8];exact pT w7
  have X8:=X7.ext e8
  have hb8:=hb7.ext e8
  have E8:=E7.trans e8
  refine do_dr ew8 ?_
  refine ⟨fun w'=>Ext w8 w',pR _,_,rfl,_,fun w' e=>(hb8.ext e).cell (i:=0) rfl rfl,_,fun w' e=>(X8.ext e).cell (i:=8) rfl rfl,_,_,_,fun w' e=>(X8.ext e).cell (i:=13) rfl rfl,?_⟩
  refine pP call40 (aFw (hp.ext e8) rfl (by omega) hx.pairs fun p9 n9 c9 w9 ho9 e9=>pN ⟨_,_,_,_,rfl,?_⟩)
  have ho9:OwnP w9 w8.heap.size p9 n9 c9 (srtP o x.pol x.pairs):=ho9
  have E9:=E8.trans e9
  have X9:=X8.ext e9
  have hb9:=hb8.ext e9
  obtain ⟨w10,ew10⟩:∃u,u=w9.drew:=⟨_,rfl⟩
  have e10:Ext w9 w10:=by rw [ew10];exact pT w9
  have X10:=X9.ext e10
  have hb10:=hb9.ext e10
  have E10:=E9.trans e10
  refine do_dr ew10 ?_
  refine ⟨fun w'=>Ext w10 w',pR _,_,rfl,_,fun w' e=>(hb10.ext e).cell (i:=0) rfl rfl,_,fun w' e=>(X10.ext e).cell (i:=8) rfl rfl,?_⟩
  refine pP call42 (c_r5un (hca.ext E10) rfl (by omega) hIa ((rB ho9).ext e10) (qF ho9) (by have:=qF ho9;omega) hIs fun p11 n11 c11 w11 ho11 e11=>pN ⟨_,_,_,_,rfl,?_⟩)
  have E11:=E10.trans e11
  obtain ⟨f1,f2⟩:=fresh (B6.ext E10) (Nat.le_refl _) (hP3 E10) e11 ho11
  refine pP call41 (sS (l:=(r5un o x.pol (atL L x.a) (srtP o x.pol x.pairs))) (B6.ext E11) (hP3 E11) zL f1 f2 fun v w20 hR B20 c20=>?_)
  obtain ⟨nv,pv,rfl,h1,h2,_⟩:=hR.ex
  obtain ⟨q1,d1,rfl,_⟩:=h1
  obtain ⟨q2,d2,rfl,_⟩:=h2
  obtain ⟨v',ev',fv'⟩:=finC _ _ E11 hd _ _ hR B20 c20
  subst ev'
  exact pN ⟨_,_,_,_,_,_,_,_,_,_,_,rfl,ep7 (c20.blk (T6.ext E11) (n3 E11) fun h=>h) fun w21 g21=>fv' w21 g21⟩
 refine pO (fun z=>?_) fun z15=>?_
 ·have z:x.op=15:=by simpa using z
  have hd:doP o L x=countP L (setL o 1 wL (atL L x.a) (srtP o 1 (x.keys.map fun k=>(k,0)))):=by rw [hdo];unfold actP;rw [z];rfl
  rw [drops_eq ham hIa hx.keys] at hd
  have E7:=pR w7
  obtain ⟨w8,ew8⟩:∃u,u=w7.drew:=⟨_,rfl⟩
  have e8:Ext w7 w8:=by rw [ew8];exact pT w7
  have X8:=X7.ext e8
  have hb8:=hb7.ext e8
  refine do_dr ew8 ?_
  refine ⟨fun w'=>Blk w' b2 #[.int .u8 x.op,.int .i64 x.a,.int .i64 x.b,.int .i64 x.key,.int .i64 x.val,.int .i64 x.lo,.int .i64 x.hi,.int .i64 x.n,.int .u8 x.pol,.int .u8 x.pk,.int .i64 x.pa,.int .i64 x.pb,.bool x.pnot,.slice pp x.pairs.length pc,.slice kp x.keys.length kc] 30∧w'.cell? ⟨rb,0,none⟩=some (.int .u8 o),⟨X8,hb8.cell (i:=0) rfl rfl⟩,_,rfl,_,fun w' e=>e.2,_,_,_,fun w' e=>e.1.cell (i:=14) rfl rfl,?_⟩
  refine pP call47 (aPv (B6.ext e8) (hP3 e8) (ra.chg (B6.chg e8)) ba ham hIa (by omega) (hk.ext e8) rfl (by omega) fun p9 n9 c9 w9 f1 f2 e9=>pN ⟨_,_,_,rfl,?_⟩)
  have E9:=e8.trans e9
  refine pP call41 (sS (l:=(x.keys.foldl (rY o) (atL L x.a))) (B6.ext E9) (hP3 E9) zL f1 f2 fun v w20 hR B20 c20=>?_)
  obtain ⟨nv,pv,rfl,h1,h2,_⟩:=hR.ex
  obtain ⟨q1,d1,rfl,_⟩:=h1
  obtain ⟨q2,d2,rfl,_⟩:=h2
  obtain ⟨v',ev',fv'⟩:=finC _ _ E9 hd _ _ hR B20 c20
  subst ev'
  exact pN ⟨_,_,_,_,_,_,_,_,_,_,_,rfl,⟨c20.blk (X8.ext e9) (nb2 E9) (fun h=>h),B20.ord⟩,ep7 (c20.blk (T6.ext E9) (n3 E9) fun h=>h) fun w21 g21=>fv' w21 g21⟩
 refine pO (fun z=>?_) fun z16=>?_
 ·have z:x.op=16:=by simpa using z
  have hd:doP o L x=({ Rep.zero with is:=hasR o (atL L x.a) x.key,n:=posR o (atL L x.a) x.key },L):=by rw [hdo];unfold actP;rw [z];rfl
  have E7:=pR w7
  obtain ⟨w8,ew8⟩:∃u,u=w7.drew:=⟨_,rfl⟩
  have e8:Ext w7 w8:=by rw [ew8];exact pT w7
  have X8:=X7.ext e8
  have hb8:=hb7.ext e8
  have E8:=E7.trans e8
  refine do_dr ew8 ?_
  refine ⟨fun w'=>Ext w8 w',pR _,_,rfl,_,fun w' e=>(hb8.ext e).cell (i:=0) rfl rfl,_,fun w' e=>(X8.ext e).cell (i:=3) rfl rfl,?_⟩
  refine pP call48 (aCi (hca.ext e8) rfl (by omega) hIa hx.key fun w9 e9=>pN ⟨_,_,rfl,ep7 (T6.ext (E8.trans e9)) fun w21 g21=>?_⟩)
  exact fin0 _ _ _ (E8.trans e9) hd rfl rfl g21
 refine pO (fun z=>?_) fun z17=>?_
 ·have z:x.op=17:=by simpa using z
  have hd:doP o L x=(qG ((atL L x.a).getD x.n.toNat (0,0)) true,L):=by rw [hdo];unfold actP;rw [z];rfl
  have E7:=pR w7
  obtain ⟨u1,u2⟩:=hsel z
  have hlt:x.n.toNat < (atL L x.a).length:=by omega
  rw [List.getD_eq_getElem?_getD,List.getElem?_eq_getElem hlt] at hd
  have hd:doP o L x=(qG ((atL L x.a)[x.n.toNat]'hlt) true,L):=hd
  refine ⟨_,X7.cell (i:=7) rfl rfl,?_⟩
  refine rI hca rfl (k:=x.n.toNat) (by omega) hlt fun a1 r1 r2 _=>⟨_,r1,_,r2,?_⟩
  refine pP call37 (c_of (x:=((atL L x.a)[x.n.toNat]'hlt)) (is:=true) fun w8 e8=>pN ⟨_,_,_,_,_,_,_,_,_,_,_,rfl,ep7 (T6.ext (E7.trans e8)) fun w21 g21=>?_⟩)
  exact fin0 (qG ((atL L x.a)[x.n.toNat]'hlt) true) _ _ (E7.trans e8) hd (wG _ _) (found_pairs _ _) g21
 refine pO (fun z=>?_) fun z18=>?_
 ·have z:x.op=18:=by simpa using z
  have hd:doP o L x=countP L (rngP o (atL L x.a) x.lo x.hi):=by rw [hdo];unfold actP;rw [z];rfl
  have hrg:rngP o (atL L x.a) x.lo x.hi=r5rg o (atL L x.a) x.lo x.hi:=(rg_eq hIa).1
  rw [hrg] at hd
  have E7:=pR w7
  obtain ⟨w8,ew8⟩:∃u,u=w7.drew:=⟨_,rfl⟩
  have e8:Ext w7 w8:=by rw [ew8];exact pT w7
  have X8:=X7.ext e8
  have hb8:=hb7.ext e8
  have E8:=E7.trans e8
  refine do_dr ew8 ?_
  refine ⟨fun w'=>Ext w8 w',pR _,_,rfl,_,fun w' e=>(hb8.ext e).cell (i:=0) rfl rfl,_,fun w' e=>(X8.ext e).cell (i:=5) rfl rfl,_,fun w' e=>(X8.ext e).cell (i:=6) rfl rfl,?_⟩
  refine pP call49 (c_r5rg hx.lo hx.hi (hca.ext e8) rfl (by omega) hIa fun p9 n9 c9 w9 ho9 e9=>pN ⟨_,_,_,_,rfl,?_⟩)
  have E9:=E8.trans e9
  obtain ⟨f1,f2⟩:=fresh (B6.ext E8) (Nat.le_refl _) (hP3 E8) e9 ho9
  refine pP call41 (sS (l:=(r5rg o (atL L x.a) x.lo x.hi)) (B6.ext E9) (hP3 E9) zL f1 f2 fun v w20 hR B20 c20=>?_)
  obtain ⟨nv,pv,rfl,h1,h2,_⟩:=hR.ex
  obtain ⟨q1,d1,rfl,_⟩:=h1
  obtain ⟨q2,d2,rfl,_⟩:=h2
  obtain ⟨v',ev',fv'⟩:=finC _ _ E9 hd _ _ hR B20 c20
  subst ev'
  exact pN ⟨_,_,_,_,_,_,_,_,_,_,_,rfl,ep7 (c20.blk (T6.ext E9) (n3 E9) fun h=>h) fun w21 g21=>fv' w21 g21⟩
 refine pO (fun z=>?_) fun z19=>?_
 ·have z:x.op=19:=by simpa using z
  have hd:doP o L x=({ Rep.zero with n:=(rngP o (atL L x.a) x.lo x.hi).length },L):=by rw [hdo];unfold actP;rw [z];rfl
  have hrg:rngP o (atL L x.a) x.lo x.hi=r5rg o (atL L x.a) x.lo x.hi:=(rg_eq hIa).1
  rw [hrg] at hd
  have E7:=pR w7
  obtain ⟨w8,ew8⟩:∃u,u=w7.drew:=⟨_,rfl⟩
  have e8:Ext w7 w8:=by rw [ew8];exact pT w7
  have X8:=X7.ext e8
  have hb8:=hb7.ext e8
  have E8:=E7.trans e8
  refine do_dr ew8 ?_
  refine ⟨fun w'=>Ext w8 w',pR _,_,rfl,_,fun w' e=>(hb8.ext e).cell (i:=0) rfl rfl,_,fun w' e=>(X8.ext e).cell (i:=5) rfl rfl,_,fun w' e=>(X8.ext e).cell (i:=6) rfl rfl,?_⟩
  refine pP call49 (c_r5rg hx.lo hx.hi (hca.ext e8) rfl (by omega) hIa fun p9 n9 c9 w9 ho9 e9=>pN ⟨_,_,_,_,rfl,?_⟩)
  have E9:=E8.trans e9
  rw [←qF ho9]
  exact ep7 (T6.ext E9) fun w21 g21=>fin0 _ _ _ E9 hd rfl rfl g21
 refine pO (fun z=>?_) fun z20=>?_
 ·have z:x.op=20:=by simpa using z
  have hd:doP o L x=({ Rep.zero with val:=sumL ((rngP o (atL L x.a) x.lo x.hi).map (·.2)) },L):=by rw [hdo];unfold actP;rw [z];rfl
  have hrg:rngP o (atL L x.a) x.lo x.hi=r5rg o (atL L x.a) x.lo x.hi:=(rg_eq hIa).1
  rw [hrg] at hd
  have E7:=pR w7
  obtain ⟨w8,ew8⟩:∃u,u=w7.drew:=⟨_,rfl⟩
  have e8:Ext w7 w8:=by rw [ew8];exact pT w7
  have X8:=X7.ext e8
  have hb8:=hb7.ext e8
  have E8:=E7.trans e8
  refine do_dr ew8 ?_
  refine ⟨fun w'=>Ext w8 w',pR _,_,rfl,_,fun w' e=>(hb8.ext e).cell (i:=0) rfl rfl,_,fun w' e=>(X8.ext e).cell (i:=5) rfl rfl,_,fun w' e=>(X8.ext e).cell (i:=6) rfl rfl,?_⟩
  refine pP call49 (c_r5rg hx.lo hx.hi (hca.ext e8) rfl (by omega) hIa fun p9 n9 c9 w9 ho9 e9=>pN ⟨_,_,_,_,rfl,?_⟩)
  have E9:=E8.trans e9
  have hlr:(r5rg o (atL L x.a) x.lo x.hi).length≤(atL L x.a).length:=by unfold r5rg;rw [ham];exact List.length_filterMap_le _ _
  refine pP call50 (c_r4sum (rB ho9) (qF ho9) (by have:=qF ho9;omega) (pN ⟨_,rfl,?_⟩))
  exact ep7 (T6.ext E9) fun w21 g21=>fin0 _ _ _ E9 hd rfl rfl g21
 refine pO (fun z=>?_) fun z21=>?_
 ·have z:x.op=21:=by simpa using z
  have hd:doP o L x=({ Rep.zero with n:=(atL L x.a).length,pairs:=(atL L x.a) },L):=by rw [hdo];unfold actP;rw [z];rfl
  refine wX elP (qH w7 w7.heap.size) (m:=(atL L x.a).length) hca (by simp) tE (by simp only [maxLen];omega) (by omega) (Nat.le_refl _) fun p9 c9 w9 ho9 g9=>pN ⟨_,_,_,rfl,?_⟩
  simp only [Nat.zero_add,aIb,List.nil_append] at ho9 ⊢
  have e9:Ext w7 w9:=(pR w7).grown g9 (by simp [Value.ownBlock])
  refine ep7 (T6.ext e9) fun w21 g21=>?_
  obtain ⟨f1,f2,f3⟩:=finish (B6.ext e9) (c7.trans (B6.chg e9)) lb3 (n3 e9) g21
  rw [hd] at h
  have hlt:=T6.lt
  have ho21:OwnP w21 w7.heap.size p9 (atL L x.a).length c9 (atL L x.a):=vT ho9 fun b hb=>g21.block b (ho9.lt b hb).2 fun e=>by have e:b=b3:=Option.some.inj e;have:=(ho9.lt b hb).1;omega
  refine h _ w21 ⟨_,_,rfl,rP _ _ _,RowAt.own_row ho21 (fun k hk=>.inl (B6.lt ((B6.own_ext e9 k).1 ((f3 k).1 hk)))) (B6.lt (.inl rfl)),fun a m d e=>(by cases e),fun a m d e=>?_⟩ f1 f2
  injection e with e1
  have:=(tG ho9 e1).1
  have:=E07.size
  omega
 have hop:=(aIj hmayx)
 have z:x.op=22:=by
  simp only [beq_eq_false_iff_ne,ne_eq] at z1 z2 z3 z4 z5 z6 z7 z8 z9 z10 z11 z12 z13 z14 z15 z16 z17 z18 z19 z20 z21
  omega
 have hd:doP o L x=sT (wasP o (atL L x.a) x.key) L [cutA o (atL L x.a) x.key,cutB o (atL L x.a) x.key]:=by rw [hdo];unfold actP;rw [z];rfl
 rw [ca_eq,cb_eq hIa hx.key] at hd
 have E7:=pR w7
 obtain ⟨w8,ew8⟩:∃u,u=w7.drew:=⟨_,rfl⟩
 have e8:Ext w7 w8:=by rw [ew8];exact pT w7
 have X8:=X7.ext e8
 have hb8:=hb7.ext e8
 have E8:=E7.trans e8
 refine do_dr ew8 ?_
 refine ⟨fun w'=>Ext w8 w',pR _,_,rfl,_,fun w' e=>(hb8.ext e).cell (i:=0) rfl rfl,_,fun w' e=>(X8.ext e).cell (i:=3) rfl rfl,?_⟩
 refine pP call51 (c_r5cut hx.key (hca.ext e8) rfl (by omega) hIa fun p9 n9 c9 p10 n10 c10 w9 hT e9=>pN ⟨_,_,_,_,_,_,_,_,rfl,?_⟩)
 have E9:=E8.trans e9
 obtain ⟨f1,f2⟩:=fresh (B6.ext E8) (Nat.le_refl _) (hP3 E8) e9 hT.1
 obtain ⟨f3,f4⟩:=fresh (B6.ext E8) (Nat.le_refl _) (hP3 E8) e9 hT.2.1
 have f2:uW (fun k=>(P k∧k≠b3)∧k < w9.heap.size) (.slice p9 n9 c9):=fun a m d e hz=>⟨f2 a m d e hz,by
  injection e with e1
  exact (tG hT.1 e1).2⟩
 have f4:uW (fun k=>(P k∧k≠b3)∧k < w9.heap.size) (.slice p10 n10 c10):=fun a m d e hz=>⟨f4 a m d e hz,by
  injection e with e1
  exact (tG hT.2.1 e1).2⟩
 refine pP call35 (zW (l:=r5ca o (atL L x.a) x.key) (B6.ext E9).top zL f1 f2 fun b11 w11 B11 c11 X11 l11 n11=>pN ⟨_,_,_,rfl,?_⟩)
 refine pP call35 (zW (l:=r5cb o (atL L x.a) x.key) B11 (by rw [List.length_append];simp;omega) (f3.chg (chg0 c11)) f4 fun b12 w12 B12 c12 X12 l12 n12=>pN ⟨_,_,_,rfl,?_⟩)
 have s9:=E9.size
 have s7:=T6.lt
 have s11:=c11.size
 have s12:=c12.size
 have s07:=E07.size
 have X11':=c12.blk X11 n11 fun h=>h
 have hown:w12.ownsRow w9.heap.size 3 1 (.slice (some (blk b11)) 1 1) 1 [.int .i64 (L.length:Int)]:=⟨rfl,.inr ⟨b11,1,#[.int .i64 (L.length:Int)],rfl,l11,X11',Nat.le_refl _,by simp [maxLen],rfl,rfl⟩⟩
 refine rR elNi hown (m:=1) (tW X12) (by simp) (by simp [Value.oneCell']) (by simp only [maxLen];omega) (by omega) (by omega) fun p13 c13 w13 row13 g13 n13=>pN ⟨_,_,_,rfl,?_⟩
 have n11':¬BkOwn rb w11 b3:=c11.out b3 (by omega) (n3 E9)
 have n12':¬BkOwn rb w12 b3:=c12.out b3 (by omega) n11'
 have T12:=c12.blk (c11.blk (T6.ext E9) (n3 E9) fun h=>h) n11' fun h=>h
 have T13:=T12.grown g13 (pV (show b3≠b11 by omega))
 have n12b:¬BkOwn rb w12 b11:=c12.out b11 X11.lt n11
 have B13:=B12.st g13 fun b hb=>by cases hb;exact ⟨fun hp=>by have:=hp.2;simp only at this;omega,n12b⟩
 have s13:=g13.size
 refine ep7 T13 fun w21 g21=>?_
 have c13':Chg (BkOwn rb) (fun _=>False) w w13:=zS (((c7.trans (B6.chg E9)).trans c11).trans c12) g13 (fun b hb=>by cases hb;simp only;omega) fun k hk=>(B13.2 k).1 hk
 obtain ⟨g1,g2,g3⟩:=finish (B13.1.up fun k hk=>hk.1) c13' lb3 (fun hk=>n12' ((B13.2 b3).1 hk)) g21
 rw [hd] at h
 have row21:=vT row13 fun b hb=>g21.block b (row13.lt b hb).2 fun e=>by
  have e:b=b3:=Option.some.inj e
  have:=(row13.lt b hb).1
  omega
 have sB:=hB.lt (.inl rfl)
 have hL2:(sT (wasP o (atL L x.a) x.key) L [r5ca o (atL L x.a) x.key,r5cb o (atL L x.a) x.key]).2=(L++[r5ca o (atL L x.a) x.key])++[r5cb o (atL L x.a) x.key]:=by show L++_=_;simp
 refine h _ w21 ⟨.slice p13 2 c13,.slice none 0 0,rfl,⟨p13,c13,rfl,tD row21,?_,fun a ha _=>?_⟩,rP _ _ _,fun a m d e=>?_,fun a m d e=>(by cases e)⟩ (by rw [hL2];exact g1) g2
 ·have hc:=Cs.of_row row21
  have e:ints (sT (wasP o (atL L x.a) x.key) L [r5ca o (atL L x.a) x.key,r5cb o (atL L x.a) x.key]).1.new=[.int .i64 (L.length:Int)]++[.int .i64 (((L++[r5ca o (atL L x.a) x.key]).length:Nat):Int)]:=by
   show [Value.int .i64 ((L.length+0:Nat):Int),.int .i64 ((L.length+1:Nat):Int)]=_
   simp
  rw [e];exact hc
 ·have hlt:=tG row21 ha
  have hlo:w9.heap.size≤a.block:=hlt.1
  refine ⟨fun hk=>?_,by omega,hlt.2⟩
  have hk:=(B13.2 _).1 ((g3 _).1 hk)
  rcases n13 a.block (by rw [ha];rfl) with hh | hh
  ·have e:b11=a.block:=Option.some.inj hh
   rw [←e] at hk;exact n12b hk
  ·have:=B12.lt hk;omega
 ·injection e with e1
  have:=(tG row21 e1).1
  omega
end Go.Proofs.YtmdboekndjlmgaaGreat.Rb
namespace Go.Proofs.YtmdboekndjlmgaaGreat
open Go Go.Sh Go.RowKit Tryz
variable {w:World}{R:EW}
theorem elOp:ElT prog 38 30 (.agg #[.int .u8 0,.int .i64 0,.int .i64 0,.int .i64 0,.int .i64 0,.int .i64 0,.int .i64 0,.int .i64 0,.int .u8 0,.int .u8 0,.int .i64 0,.int .i64 0,.bool false,.slice none 0 0,.slice none 0 0]) 15 152:=⟨underlying38,⟨_,type30,by kernel_rfl,by kernel_rfl,by kernel_rfl⟩,rfl,by omega⟩
structure OpOk (w:World) (r:Option Nat) (e:OpE):Prop where
 p:∃a c,e.2.1=.slice a e.1.pairs.length c∧e.1.pairs.length≤c∧Cs w a (prs e.1.pairs)∧∀d,a=some d→prs e.1.pairs≠[]→r≠some d.block
 k:∃a c,e.2.2=.slice a e.1.keys.length c∧e.1.keys.length≤c∧Cs w a (ints e.1.keys)∧∀d,a=some d→ints e.1.keys≠[]→r≠some d.block
theorem OpOk.ext{w w':World}{r:Option Nat}{e:OpE}(h:OpOk w r e)(E:Ext w w'):OpOk w' r e:=by
 obtain ⟨a,c,h1,h2,h3,h4⟩:=h.p
 obtain ⟨b,d,g1,g2,g3,g4⟩:=h.k
 exact ⟨⟨a,c,h1,h2,h3.ext E,h4⟩,⟨b,d,g1,g2,g3.ext E,g4⟩⟩
theorem cs_gr{w w':World}{p:OA}{vs:List Value}{r:Option Nat}(h:Cs w p vs)(g:w.grownBy w' r)(hne:∀a,p=some a→vs≠[]→r≠some a.block):Cs w' p vs:=fun i v hv=>by
 obtain ⟨a,ha,hc⟩:=h i v hv
 refine ⟨a,ha,?_⟩
 rw [World.cell?_of_block (g.block _ (World.block_lt_of_cell? _ _ hc) fun e=>hne a ha (by rintro rfl;simp at hv) (by rw [qV] at e;exact e.symm))]
 exact hc
theorem OpOk.grow{w w':World}{r r':Option Nat}{e:OpE}(h:OpOk w r e)(g:w.grownBy w' r)(hr:∀b,r'=some b→r=some b∨w.heap.size≤b):OpOk w' r' e:=by
 obtain ⟨a,c,h1,h2,h3,h4⟩:=h.p
 obtain ⟨b,d,g1,g2,g3,g4⟩:=h.k
 have nx:∀{p:OA} {vs:List Value},Cs w p vs→(∀d,p=some d→vs≠[]→r≠some d.block)→∀d,p=some d→vs≠[]→r'≠some d.block:=fun hc hn d hd hz he=>by
  rcases hr _ he with hh | hh
  ·exact hn d hd hz hh
  ·have:=aGl hc d hd hz;omega
 exact ⟨⟨a,c,h1,h2,cs_gr h3 g h4,nx h3 h4⟩,⟨b,d,g1,g2,cs_gr g3 g g4,nx g3 g4⟩⟩
theorem OpOk.rd{r:Option Nat}{e:OpE}(h:OpOk w r e):OpRd w e.1 e.2.1 e.2.2:=by
 obtain ⟨a,c,h1,h2,h3,h4⟩:=h.p
 obtain ⟨b,d,g1,g2,g3,g4⟩:=h.k
 exact ⟨⟨a,c,h1,h2,h3,aGl h3⟩,⟨b,d,g1,g2,g3,aGl g3⟩⟩
theorem aNl{w w':World}{p:OA}{n c e s:Nat}{xs:List Value}(h:w'.ownsRow w.heap.size e s (.slice p n c) n xs){r:Option Nat}(hr:∀b,r=some b→b < w.heap.size):∀d,p=some d→xs≠[]→r≠some d.block:=fun d hd _ he=>by
 have:=(tG h hd).1
 have:=hr _ he
 omega
theorem c_own{ops:List OpE}{lp:OA}{n lc:Nat}(hl:Cs w lp (ops.flatMap opC))(hn:ops.length=n)(hz:n≤100)(hin:∀e∈ops,OpRd w e.1 e.2.1 e.2.2∧e.1.pairs.length≤5000∧e.1.keys.length≤5000)
  (h:∀p c (Fs:List OpE) w',Ext w w'→Fs.map (·.1)=ops.map (·.1)→Cs w' p (Fs.flatMap opC)→(∀e∈Fs,OpRd w' e.1 e.2.1 e.2.2)→R (.returned (.slice p n c)) w'):Calls prog 15 #[.slice lp n lc] w R:=by
 refine sh15_ok ?_
 unfold sh15
 refine ⟨fun vs w'=>∃(k:Nat) (p:OA) (c:Nat) (Fs:List OpE),vs=[.slice p k c,.int .i64 (k:Int)]∧k≤n∧Ext w w'∧Fs.map (·.1)=(ops.take k).map (·.1)∧w'.ownsRow w.heap.size 30 15 (.slice p k c) k (Fs.flatMap opC)∧∀e∈Fs,OpOk w' (Value.slice p k c).ownBlock e,
  fun vs _=>match vs with | [_,.int _ i]=>n - i.toNat | _=>0,⟨0,none,0,[],rfl,Nat.zero_le _,pR _,rfl,World.ownsRow_nil _ _ _ _,fun e he=>(by cases he)⟩,?_⟩
 rintro p m c i_ _ w3 ⟨k,p0,c0,Fs,hv,hk,E,hF,row,rd⟩
 simp only [List.cons.injEq,Value.int.injEq,Value.slice.injEq,true_and,and_true] at hv
 obtain ⟨⟨rfl,rfl,rfl⟩,rfl⟩:=hv
 refine pO (fun z=>?_) fun z=>?_
 ·have z:m < n:=by have:=of_decide_eq_true z;omega
  have hkl:m < ops.length:=by omega
  refine aBz (ec:=opC) (s:=15) (fun _=>rfl) (by omega) (hl.ext E) hn (k:=m) rfl z fun a1 r1 _=>?_
  have hin':=hin ops[m] (List.getElem_mem hkl)
  have htk:ops.take (m+1)=ops.take m++[ops[m]]:=(List.take_append_getElem hkl).symm
  generalize ops[m]=e at *
  obtain ⟨x,pv,kv⟩:=e
  obtain ⟨hO,zp,zk⟩:=hin'
  obtain ⟨pp,pc,e1p,hp1,hp2,_⟩:=hO.p
  obtain ⟨kp,kc,e1k,hk1,hk2,_⟩:=hO.k
  simp only at e1p e1k zp zk hp1 hp2 hk1 hk2
  subst e1p e1k
  refine ⟨_,r1 0 _ rfl,_,r1 1 _ rfl,_,r1 2 _ rfl,_,r1 3 _ rfl,_,r1 4 _ rfl,_,r1 5 _ rfl,_,r1 6 _ rfl,_,r1 7 _ rfl,_,r1 8 _ rfl,_,r1 9 _ rfl,_,r1 10 _ rfl,_,r1 11 _ rfl,_,r1 12 _ rfl,_,_,_,r1 13 _ rfl,_,_,_,r1 14 _ rfl,rK fun b4 w4 e4 X4 l4=>st15 X4 fun w5 X5 g5=>?_⟩
  have e45:Ext w3 w5:=e4.st g5 l4
  refine ⟨_,_,_,X5.cell (i:=13) rfl rfl,?_⟩
  refine wX elP (qH w5 w5.heap.size) (m:=x.pairs.length) ((hp2.ext E).ext e45) (by simp) tE (by simp only [maxLen];omega) (by omega) (Nat.le_refl _) fun qp qc w6 ho6 g6=>pN ⟨_,_,_,rfl,?_⟩
  simp only [Nat.zero_add,aIb,List.nil_append] at ho6 ⊢
  have e6:Ext w5 w6:=(pR w5).grown g6 (by simp [Value.ownBlock])
  refine qA (X5.ext e6) (i:=13) rfl (by simp) fun w7 X7 g7=>?_
  have X7:Blk w7 b4 #[.int .u8 x.op,.int .i64 x.a,.int .i64 x.b,.int .i64 x.key,.int .i64 x.val,.int .i64 x.lo,.int .i64 x.hi,.int .i64 x.n,.int .u8 x.pol,.int .u8 x.pk,.int .i64 x.pa,.int .i64 x.pb,.bool x.pnot,.slice qp x.pairs.length qc,.slice kp x.keys.length kc] 30:=X7
  have s3:=E.size
  have s45:=e45.size
  have s6:=e6.size
  have s7:=g7.size
  have lb4:=X5.lt
  have e57:Ext w3 w7:=(e45.trans e6).st g7 l4
  refine ⟨_,_,_,X7.cell (i:=14) rfl rfl,?_⟩
  refine wX elIo (World.ownsRow_nil w7 w7.heap.size _ _) (m:=x.keys.length) ((hk2.ext E).ext e57) (by simp) aFg (by simp only [maxLen];omega) (by omega) (Nat.le_refl _) fun lp' lc' w8 ho8 g8=>pN ⟨_,_,_,rfl,?_⟩
  simp only [Nat.zero_add,List.nil_append] at ho8 ⊢
  have e8:Ext w7 w8:=(pR w7).grown g8 (by simp [Value.ownBlock])
  refine qA (X7.ext e8) (i:=14) rfl (by simp) fun w9 X9 g9=>?_
  have X9:Blk w9 b4 #[.int .u8 x.op,.int .i64 x.a,.int .i64 x.b,.int .i64 x.key,.int .i64 x.val,.int .i64 x.lo,.int .i64 x.hi,.int .i64 x.n,.int .u8 x.pol,.int .u8 x.pk,.int .i64 x.pa,.int .i64 x.pb,.bool x.pnot,.slice qp x.pairs.length qc,.slice lp' x.keys.length lc'] 30:=X9
  have s8:=e8.size
  have s9:=g9.size
  have e59:Ext w3 w9:=(e57.trans e8).st g9 l4
  have hq9:w9.ownsRow w5.heap.size 63 2 (.slice qp x.pairs.length qc) x.pairs.length (prs x.pairs):=by
   have h7:OwnP w7 w5.heap.size qp x.pairs.length qc x.pairs:=vT ho6 fun b hb=>g7.block b (ho6.lt b hb).2 fun e=>by have e:b=b4:=Option.some.inj e;have:=(ho6.lt b hb).1;omega
   exact vT (e8.row h7) fun b hb=>g9.block b ((e8.row h7).lt b hb).2 fun e=>by have e:b=b4:=Option.some.inj e;have:=(h7.lt b hb).1;omega
  have hl9:=vT ho8 fun b hb=>g9.block b (ho8.lt b hb).2 fun e=>by have e:b=b4:=Option.some.inj e;have:=(ho8.lt b hb).1;omega
  refine ⟨_,X9.cell (i:=0) rfl rfl,_,X9.cell (i:=1) rfl rfl,_,X9.cell (i:=2) rfl rfl,_,X9.cell (i:=3) rfl rfl,_,X9.cell (i:=4) rfl rfl,_,X9.cell (i:=5) rfl rfl,_,X9.cell (i:=6) rfl rfl,_,X9.cell (i:=7) rfl rfl,_,X9.cell (i:=8) rfl rfl,_,X9.cell (i:=9) rfl rfl,_,X9.cell (i:=10) rfl rfl,_,X9.cell (i:=11) rfl rfl,_,X9.cell (i:=12) rfl rfl,_,_,_,X9.cell (i:=13) rfl rfl,_,_,_,X9.cell (i:=14) rfl rfl,rK fun b10 w10 e10 X10 l10=>?_⟩
  have e3t:=e59.trans e10
  have s10:=e10.size
  refine rR elOp (e3t.row row) (m:=1) (tW X10) (by simp) (by simp [Value.oneCell']) (by simp only [maxLen];omega) (by omega) (by omega) fun p' c' w11 row11 g11 n11=>pN ⟨_,_,_,rfl,?_⟩
  have hrl:∀b,(Value.slice p m c).ownBlock=some b→b < w3.heap.size:=fun b hb=>(row.lt b hb).2
  have new:OpOk w10 (Value.slice p m c).ownBlock (x,.slice qp x.pairs.length qc,.slice lp' x.keys.length lc'):=
   ⟨⟨qp,qc,rfl,tD hq9,(Cs.of_row hq9).ext e10,aNl hq9 fun b hb=>by have:=hrl b hb;omega⟩,⟨lp',lc',rfl,tD hl9,(Cs.of_row hl9).ext e10,aNl hl9 fun b hb=>by have:=hrl b hb;omega⟩⟩
  rw [pW z (by omega)]
  refine ⟨⟨m+1,p',c',Fs++[(x,.slice qp x.pairs.length qc,.slice lp' x.keys.length lc')],rfl,by omega,(E.trans e3t).grown g11 fun b hb=>(row.lt b hb).1,?_,?_,fun e he=>?_⟩,?_⟩
  ·rw [List.map_append,hF,htk,List.map_append];rfl
  ·simp only [List.flatMap_append,List.flatMap_cons,List.flatMap_nil,List.append_nil];exact row11
  ·rcases List.mem_append.1 he with he | he
   ·exact ((rd e he).ext e3t).grow g11 n11
   ·obtain rfl:e=(x,.slice qp x.pairs.length qc,.slice lp' x.keys.length lc'):=by simpa using he
    exact new.grow g11 n11
  ·show n - ((m+1:Nat):Int).toNat < n - (m:Int).toNat
   omega
 ·have z:m=n:=by have:=of_decide_eq_false z;omega
  subst z
  rw [←hn,List.take_length] at hF
  exact h p c Fs w3 E hF (Cs.of_row row) fun e he=>(rd e he).rd
theorem aQb{x:POp}{pp kp qp lp:OA}{pc kc qc lc:Nat}(zp:x.pairs.length≤5000)(zk:x.keys.length≤5000)(h1:Cs w pp (prs x.pairs))(h2:Cs w kp (ints x.keys))(g1:Cs w qp (prs x.pairs))(g2:Cs w lp (ints x.keys))(h:∀w',Ext w w'→R (.returned (.bool true)) w'):
  Calls prog 52 #[.agg #[.int .u8 x.op,.int .i64 x.a,.int .i64 x.b,.int .i64 x.key,.int .i64 x.val,.int .i64 x.lo,.int .i64 x.hi,.int .i64 x.n,.int .u8 x.pol,.int .u8 x.pk,.int .i64 x.pa,.int .i64 x.pb,.bool x.pnot,.slice pp x.pairs.length pc,.slice kp x.keys.length kc],.agg #[.int .u8 x.op,.int .i64 x.a,.int .i64 x.b,.int .i64 x.key,.int .i64 x.val,.int .i64 x.lo,.int .i64 x.hi,.int .i64 x.n,.int .u8 x.pol,.int .u8 x.pk,.int .i64 x.pa,.int .i64 x.pb,.bool x.pnot,.slice qp x.pairs.length qc,.slice lp x.keys.length lc]] w R:=by
 refine sh52_ok ?_
 unfold sh52
 refine rK fun b2 w2 e2 X2 l2=>rK fun b3 w3 e3 Y l3=>?_
 have X:=X2.ext e3
 have E:=e2.trans e3
 intro K45
 refine ⟨_,X.cell (i:=0) rfl rfl,_,Y.cell (i:=0) rfl rfl,pZ (by simp) ?_⟩
 refine ⟨_,X.cell (i:=1) rfl rfl,_,Y.cell (i:=1) rfl rfl,pZ (by simp) ?_⟩
 refine ⟨_,X.cell (i:=2) rfl rfl,_,Y.cell (i:=2) rfl rfl,pZ (by simp) ?_⟩
 refine ⟨_,X.cell (i:=3) rfl rfl,_,Y.cell (i:=3) rfl rfl,pZ (by simp) ?_⟩
 refine ⟨_,X.cell (i:=4) rfl rfl,_,Y.cell (i:=4) rfl rfl,pZ (by simp) ?_⟩
 refine ⟨_,X.cell (i:=5) rfl rfl,_,Y.cell (i:=5) rfl rfl,pZ (by simp) ?_⟩
 refine ⟨_,X.cell (i:=6) rfl rfl,_,Y.cell (i:=6) rfl rfl,pZ (by simp) ?_⟩
 refine ⟨_,X.cell (i:=7) rfl rfl,_,Y.cell (i:=7) rfl rfl,pZ (by simp) ?_⟩
 refine ⟨_,X.cell (i:=8) rfl rfl,_,Y.cell (i:=8) rfl rfl,pZ (by simp) ?_⟩
 refine ⟨_,X.cell (i:=9) rfl rfl,_,X.cell (i:=10) rfl rfl,_,X.cell (i:=11) rfl rfl,_,X.cell (i:=12) rfl rfl,_,Y.cell (i:=9) rfl rfl,_,Y.cell (i:=10) rfl rfl,_,Y.cell (i:=11) rfl rfl,_,Y.cell (i:=12) rfl rfl,pZ (by simp) ?_⟩
 refine ⟨_,_,_,X.cell (i:=13) rfl rfl,_,_,_,Y.cell (i:=13) rfl rfl,pP call8 (aFx (h1.ext E) rfl (g1.ext E) rfl (by omega) fun w4 e4=>pN ⟨_,rfl,pZ (by simp) ?_⟩)⟩
 refine ⟨_,_,_,(X.ext e4).cell (i:=14) rfl rfl,_,_,_,(Y.ext e4).cell (i:=14) rfl rfl,pP call93 (c_rsame ((h2.ext E).ext e4) rfl ((g2.ext E).ext e4) rfl (by omega) fun w5 e5=>pN ⟨_,rfl,?_⟩)⟩
 have:=h w5 ((E.trans e4).trans e5)
 simpa using this
theorem aPw{Es Fs:List OpE}{p q:OA}{n c d:Nat}(hz:n≤100)(hE:Es.length=n)(hF:Fs.length=n)(hp:Cs w p (Es.flatMap opC))(hq:Cs w q (Fs.flatMap opC))(he:Es.map (·.1)=Fs.map (·.1))(rE:∀e∈Es,OpRd w e.1 e.2.1 e.2.2∧e.1.pairs.length≤5000∧e.1.keys.length≤5000)(rF:∀e∈Fs,OpRd w e.1 e.2.1 e.2.2)
  (h:∀w',Ext w w'→R (.returned (.bool true)) w'):Calls prog 23 #[.slice p n c,.slice q n d] w R:=by
 refine sh23_ok ?_
 unfold sh23
 refine pY (by simp) ?_
 refine ⟨fun vs w'=>∃k:Nat,vs=[.int .i64 (k:Int)]∧k≤n∧Ext w w',fun vs _=>match vs with | [.int _ i]=>n - i.toNat | _=>0,⟨0,rfl,Nat.zero_le _,pR _⟩,?_⟩
 rintro i_ _ w2 ⟨k,hv,hk,e⟩
 simp only [List.cons.injEq,Value.int.injEq,true_and,and_true] at hv
 subst hv
 refine pO (fun z=>?_) fun z=>?_
 ·have z:k < n:=by have:=of_decide_eq_true z;omega
  have e2:=e.trans (pT w2)
  refine ⟨fun w'=>Ext w2.drew w',pR _,?_⟩
  have hk1:k < Es.length:=by omega
  have hk2:k < Fs.length:=by omega
  have hkk:Es[k].1=Fs[k].1:=by
   have h1:(Es.map (·.1))[k]?=some Es[k].1:=by rw [List.getElem?_map,List.getElem?_eq_getElem hk1];rfl
   have h2:(Fs.map (·.1))[k]?=some Fs[k].1:=by rw [List.getElem?_map,List.getElem?_eq_getElem hk2];rfl
   rw [he,h2] at h1
   exact (Option.some.inj h1).symm
  have R1:=rE Es[k] (List.getElem_mem hk1)
  have R2:=rF Fs[k] (List.getElem_mem hk2)
  refine uC (ec:=opC) (s:=15) (C:=fun w'=>Ext w2.drew w') (fun _=>rfl) (by omega) (fun w' e'=>hp.ext (e2.trans e')) (pR _) hE (k:=k) rfl z fun a3 r3=>?_
  generalize Es[k]=E1 at *
  obtain ⟨x,pv,kv⟩:=E1
  obtain ⟨hO,zp,zk⟩:=R1
  obtain ⟨pp,pc,e1p,hp1,hp2,_⟩:=hO.p
  obtain ⟨kp,kc,e1k,hk1,hk2,_⟩:=hO.k
  simp only at e1p e1k hp2 hk2 zp zk
  subst e1p e1k
  refine ⟨_,fun w' e'=>r3 w' e' 0 _ rfl,_,fun w' e'=>r3 w' e' 1 _ rfl,_,fun w' e'=>r3 w' e' 2 _ rfl,_,fun w' e'=>r3 w' e' 3 _ rfl,_,fun w' e'=>r3 w' e' 4 _ rfl,_,fun w' e'=>r3 w' e' 5 _ rfl,_,fun w' e'=>r3 w' e' 6 _ rfl,_,fun w' e'=>r3 w' e' 7 _ rfl,_,fun w' e'=>r3 w' e' 8 _ rfl,_,fun w' e'=>r3 w' e' 9 _ rfl,_,fun w' e'=>r3 w' e' 10 _ rfl,_,fun w' e'=>r3 w' e' 11 _ rfl,_,fun w' e'=>r3 w' e' 12 _ rfl,_,_,_,fun w' e'=>r3 w' e' 13 _ rfl,_,_,_,fun w' e'=>r3 w' e' 14 _ rfl,?_⟩
  refine uC (ec:=opC) (s:=15) (C:=fun w'=>Ext w2.drew w') (fun _=>rfl) (by omega) (fun w' e'=>hq.ext (e2.trans e')) (pR _) hF (k:=k) rfl z fun a4 r4=>?_
  generalize Fs[k]=F1 at *
  obtain ⟨y,pv,kv⟩:=F1
  obtain ⟨qp,qc,e2p,_,hq2,_⟩:=R2.p
  obtain ⟨lp,lc,e2k,_,hl2,_⟩:=R2.k
  simp only at e2p e2k hq2 hl2 hkk
  subst hkk
  subst e2p e2k
  refine ⟨_,fun w' e'=>r4 w' e' 0 _ rfl,_,fun w' e'=>r4 w' e' 1 _ rfl,_,fun w' e'=>r4 w' e' 2 _ rfl,_,fun w' e'=>r4 w' e' 3 _ rfl,_,fun w' e'=>r4 w' e' 4 _ rfl,_,fun w' e'=>r4 w' e' 5 _ rfl,_,fun w' e'=>r4 w' e' 6 _ rfl,_,fun w' e'=>r4 w' e' 7 _ rfl,_,fun w' e'=>r4 w' e' 8 _ rfl,_,fun w' e'=>r4 w' e' 9 _ rfl,_,fun w' e'=>r4 w' e' 10 _ rfl,_,fun w' e'=>r4 w' e' 11 _ rfl,_,fun w' e'=>r4 w' e' 12 _ rfl,_,_,_,fun w' e'=>r4 w' e' 13 _ rfl,_,_,_,fun w' e'=>r4 w' e' 14 _ rfl,?_⟩
  refine pP call52 (aQb zp zk (hp2.ext e2) (hk2.ext e2) (hq2.ext e2) (hl2.ext e2) fun w3 e3=>pN ⟨_,rfl,pY rfl ?_⟩)
  rw [pW z (by omega)]
  refine ⟨⟨k+1,rfl,by omega,e2.trans e3⟩,?_⟩
  show n - ((k+1:Nat):Int).toNat < n - (k:Int).toNat
  omega
 ·exact h w2 e
theorem c_prow0{n:Int}(h:R (.returned (.tuple #[.slice none 0 0,.bool false])) w):Calls prog 11 #[.pointer none,.int .i64 n] w R:=by
 refine aNe ?_
 unfold sh11
 intro K5
 exact pZ rfl h
theorem c_plen0(h:R (.returned (.int .i64 0)) w):Calls prog 14 #[.pointer none] w R:=by
 refine aNa ?_
 unfold sh14
 exact pZ rfl h
theorem c_pdo0{x:POp}{pp kp:OA}{pc kc:Nat}(h:∀w',Ext w w'→R (.returned (.agg #[.int .i64 1,.bool false,.int .i64 0,.int .i64 0,.int .i64 0,.slice none 0 0,.slice none 0 0])) w'):
  Calls prog 12 #[.pointer none,.agg #[.int .u8 x.op,.int .i64 x.a,.int .i64 x.b,.int .i64 x.key,.int .i64 x.val,.int .i64 x.lo,.int .i64 x.hi,.int .i64 x.n,.int .u8 x.pol,.int .u8 x.pk,.int .i64 x.pa,.int .i64 x.pb,.bool x.pnot,.slice pp x.pairs.length pc,.slice kp x.keys.length kc]] w R:=by
 refine aNd ?_
 unfold sh12
 refine rK fun b2 w2 e2 X2 l2=>rK fun b3 w3 e3 X3 l3=>pZ rfl (ep7 X3 fun w4 g4=>h w4 ((e2.trans e3).st g4 (by have:=e2.size;omega)))
end Go.Proofs.YtmdboekndjlmgaaGreat
