/-
  Ops are run, by either book, by any order.
-/
import Derived.Test.YtmdboekndjlmgaaGreatZ38
set_option maxRecDepth 100000
set_option maxHeartbeats 6400000
namespace Go.Proofs.YtmdboekndjlmgaaGreat
open Go Go.Sh Go.RowKit Tryz
variable {w:World}{R:EW}
def errR:Rep:={ Rep.zero with err:=2 }
def errE:Ent:=(errR,.slice none 0 0,.slice none 0 0)
def runQ(o:Int)(xs:List POp):List Rep:=if isO o=true then runP o [[]] xs else xs.map fun _=>errR
theorem aQg(o:Int)(L:Rows)(x:POp)(a c:List Pr):(actP o L x a c).1.pairs.length≤a.length:=by
 unfold actP
 split <;> first
  | exact Nat.zero_le _
  | (rw [Rb.found_pairs];exact Nat.zero_le _)
  | exact Nat.le_refl _
theorem aHx(o:Int):∀(xs:List POp) (L:Rows),(runP o L xs).length=xs.length
 | [],_=>rfl
 | x::xs,L=>by rw [runP,List.length_cons,aHx o xs,List.length_cons]
theorem aKo(o:Int)(L:Rows)(x:POp):(doP o L x).1.new.length≤2∧(doP o L x).1.pairs.length≤(atL L x.a).length:=by
 constructor
 ·obtain ⟨ls,h1,h2⟩:=do_new o L x
  have h3:=aIp o L x
  rw [h1,List.length_append] at h3
  rw [h2];simp;omega
 ·unfold doP
  split
  ·exact aQg _ _ _ _ _
  ·exact Nat.zero_le _
theorem aGj{o:Int}{KK:List Int}(ho:isO o=true):∀(xs:List POp) (L:Rows),OkL o KK L→(∀x∈xs,InO x∧∀k∈newK x,k∈KK)→∀r∈runP o L xs,r.new.length≤2∧r.pairs.length≤KK.length
 | [],_,_,_,r,hr=>by cases hr
 | x::xs,L,h,hx,r,hr=>by
  rw [runP] at hr
  rcases List.mem_cons.1 hr with rfl | hr
  ·have h1:=aKo o L x
   have h2:=h.at' ho x.a
   have h3:=aAa h2.1 h2.2.2
   exact ⟨h1.1,by omega⟩
  ·have hx1:=hx x (by simp)
   exact aGj ho xs _ ((do_ok ho h hx1.1).mono fun y hy=>(List.mem_append.1 hy).elim (hx1.2 y) id) (fun y hy=>hx y (by simp [hy])) r hr
theorem aEm{o:Int}{KK:List Int}{xs:List POp}(hx:∀x∈xs,InO x∧∀k∈newK x,k∈KK):∀r∈runQ o xs,r.new.length≤2∧r.pairs.length≤KK.length:=fun r hr=>by
 unfold runQ at hr
 by_cases ho:isO o=true
 ·rw [if_pos ho] at hr
  exact aGj ho xs [[]] (OkL.one (tJ ho) (by intro x hx;cases hx) (by intro y hy;cases hy)) hx r hr
 ·rw [if_neg ho] at hr
  obtain ⟨_,_,rfl⟩:=List.mem_map.1 hr
  exact ⟨Nat.zero_le _,Nat.zero_le _⟩
theorem ent_rd{own:World→Nat→Prop}{bb:Nat}{e:Ent}(h1:RowAt own bb w e.2.1 e.1.new.length (ints e.1.new))(h2:RowAt own bb w e.2.2 e.1.pairs.length (prs e.1.pairs))(z1:e.1.new.length≤1000000)(z2:e.1.pairs.length≤1000000):EntRd w e:=by
 obtain ⟨q1,c1,en,g1⟩:=h1.rd
 obtain ⟨q2,c2,ep,g2⟩:=h2.rd
 exact ⟨q1,c1,q2,c2,en,ep,g1,g2,z1,z2⟩
theorem aJo{k:Nat}:(List.replicate (k+1) errE).flatMap entC=(List.replicate k errE).flatMap entC++entC errE:=by
 rw [List.replicate_succ',List.flatMap_append];simp
theorem aNg{n:Nat}{xs:List POp}(h:xs.length=n):(List.replicate n errE).map (·.1)=xs.map fun _=>errR:=by
 subst h
 induction xs with
 | nil=>rfl
 | cons x xs ih=>simp only [List.length_cons,List.replicate_succ,List.map_cons,ih];rfl
theorem aNh{n:Nat}:∀e∈List.replicate n errE,EntRd w e:=fun e he=>by
 obtain rfl:=List.eq_of_mem_replicate he
 exact ⟨none,0,none,0,rfl,rfl,cs_nil _ _,cs_nil _ _,Nat.le_of_ble_eq_true rfl,Nat.le_of_ble_eq_true rfl⟩
theorem c_prunQ{o:Int}{KK:List Int}{ops:List OpE}{lp:OA}{n lc:Nat}(hl:Cs w lp (ops.flatMap opC))(hn:ops.length=n)(hz:n≤100)
  (hin:∀e∈ops,OpIn w e) (hK:∀e∈ops,∀k∈newK e.1,k∈KK) (zK:KK.length≤5000)
  (h:∀p c (Es:List Ent) w',Ext w w'→Es.length=n→Es.map (·.1)=runQ o (ops.map (·.1))→Cs w' p (Es.flatMap entC)→(∀e∈Es,EntRd w' e)→R (.returned (.slice p n c)) w') :
  Calls prog 7 #[.int .u8 o,.slice lp n lc] w R:=by
 have hsm:=aEm (o:=o) (KK:=KK) (xs:=ops.map (·.1)) fun x hx=>by
  obtain ⟨e,he,rfl⟩:=List.mem_map.1 hx
  exact ⟨(hin e he).1,hK e he⟩
 cases ho:isO o with
 | true=>
  refine c_prun ho hl hn hz hin hK zK fun p c Es bb w' E hr row hrd=>h p c Es w' E (by have:=congrArg List.length hr;simp only [List.length_map] at this;rw [this,aHx,List.length_map,hn]) (by unfold runQ;rw [if_pos ho];exact hr) (Cs.of_row row) fun e he=>?_
  have hz:=hsm e.1 (by unfold runQ;rw [if_pos ho,←hr];exact List.mem_map.2 ⟨e,he,rfl⟩)
  exact ent_rd (hrd e he).1 (hrd e he).2 (by omega) (by omega)
 | false=>
  refine sh7_ok ?_
  unfold sh7
  refine pP call16 (aMm (fun w1 e1 _=>pN ⟨_,_,rfl,?_⟩) fun bb w1 hf _ _ _=>by rw [ho] at hf;cases hf)
  refine ⟨fun vs w'=>∃(k:Nat) (p:OA) (c:Nat),vs=[.slice p k c,.int .i64 (k:Int)]∧k≤n∧Ext w w'∧w'.ownsRow w.heap.size 34 7 (.slice p k c) k ((List.replicate k errE).flatMap entC),
   fun vs _=>match vs with | [_,.int _ i]=>n - i.toNat | _=>0,⟨0,none,0,rfl,Nat.zero_le _,e1,World.ownsRow_nil _ _ _ _⟩,?_⟩
  rintro p k c i_ _ w3 ⟨k0,p0,c0,hv,hk,E,row⟩
  simp only [List.cons.injEq,Value.int.injEq,Value.slice.injEq,true_and,and_true] at hv
  obtain ⟨⟨rfl,rfl,rfl⟩,rfl⟩:=hv
  refine pO (fun z=>?_) fun z=>?_
  ·have z:k < n:=by have:=of_decide_eq_true z;omega
   have hkl:k < ops.length:=by omega
   intro K21
   refine aBz (ec:=opC) (s:=15) (fun _=>rfl) (by omega) (hl.ext E) hn (k:=k) rfl z fun a1 r1 _=>?_
   have hin':=hin ops[k] (List.getElem_mem hkl)
   generalize ops[k]=e at *
   obtain ⟨x,pv,kv⟩:=e
   obtain ⟨_,hO,_,_⟩:=hin'
   obtain ⟨pp,pc,e1p,_⟩:=hO.p
   obtain ⟨kp,kc,e1k,_⟩:=hO.k
   simp only at e1p e1k
   subst e1p e1k
   refine ⟨_,r1 0 _ rfl,_,r1 1 _ rfl,_,r1 2 _ rfl,_,r1 3 _ rfl,_,r1 4 _ rfl,_,r1 5 _ rfl,_,r1 6 _ rfl,_,r1 7 _ rfl,_,r1 8 _ rfl,_,r1 9 _ rfl,_,r1 10 _ rfl,_,r1 11 _ rfl,_,r1 12 _ rfl,_,_,_,r1 13 _ rfl,_,_,_,r1 14 _ rfl,rK fun b4 w4 e4 X4 l4=>st15 X4 fun w5 X5 g5=>pZ rfl (rK fun b6 w6 e6 X6 l6=>?_)⟩
   have e36:=(e4.st g5 l4).trans e6
   refine rR elR (e36.row row) (m:=1) (tW X6) (by simp) (by simp [Value.oneCell']) (by simp only [maxLen];omega) (by omega) (by have:=E.size;have:=e36.size;omega) fun p' c' w8 row8 g8 n8=>pN ⟨_,_,_,rfl,?_⟩
   simp -zeta -zetaHave only [K21]
   rw [pW z (by omega)]
   refine ⟨⟨k+1,p',c',rfl,by omega,(E.trans e36).grown g8 fun b hb=>(row.lt b hb).1,by rw [aJo];exact row8⟩,?_⟩
   show n - ((k+1:Nat):Int).toNat < n - (k:Int).toNat
   omega
  ·have z:k=n:=by have:=of_decide_eq_false z;omega
   subst z
   exact h p c _ w3 E (List.length_replicate ..) (by unfold runQ;rw [ho,if_neg (by decide)];exact aNg (by rw [List.length_map];exact hn)) (Cs.of_row row) aNh
namespace Rb
structure RunI (bb:Nat) (o:Int) (KK:List Int) (xs:List POp) (Es:List Ent) (L:Rows) (p:OA) (k c:Nat) (w0 w:World):Prop where
 B:BookN (fun j=>(Value.slice p k c).ownBlock≠some j) w bb o L
 ok:OkL o KK L
 l0:0 < L.length
 l1:L.length≤1+2 * k
 row:w.ownsRow w0.heap.size 34 7 (.slice p k c) k (Es.flatMap entC)
 no:∀j,(Value.slice p k c).ownBlock=some j→¬BkOwn bb w j
 rows:∀e∈Es,RowAt (BkOwn bb) bb w e.2.1 e.1.new.length (ints e.1.new)∧RowAt (BkOwn bb) bb w e.2.2 e.1.pairs.length (prs e.1.pairs)∧(∀a n d,e.2.1=.slice (some a) n d→ints e.1.new≠[]→(Value.slice p k c).ownBlock≠some a.block)∧∀a n d,e.2.2=.slice (some a) n d→prs e.1.pairs≠[]→(Value.slice p k c).ownBlock≠some a.block
 run:Es.map (·.1)++runP o L (xs.drop k)=runP o [[]] xs
 E:Ext w0 w
 hi:∀j,BkOwn bb w j→w0.heap.size≤j
theorem RunI.step{bb:Nat}{o:Int}{KK:List Int}{xs:List POp}{Es:List Ent}{L L':Rows}{p p':OA}{k c c':Nat}{w0 w4 w5 w6 w7:World}{x:POp}{r:Rep}{nv pv:Value}(I:RunI bb o KK xs Es L p k c w0 w4)(hk:k < xs.length)(hx:xs[k]=x)
  (hd:doP o L x=(r,L')) (hok:OkL o KK L') (hB5:BookN (fun j=>(Value.slice p k c).ownBlock≠some j) w5 bb o L') (hC:Chg (BkOwn bb) (fun _=>False) w4 w5) (h1:RowAt (BkOwn bb) bb w5 nv r.new.length (ints r.new)) (h2:RowAt (BkOwn bb) bb w5 pv r.pairs.length (prs r.pairs)) (n1:AbN w4.heap.size nv) (n2:AbN w4.heap.size pv)
  (e6:Ext w5 w6) (row7:w7.ownsRow w0.heap.size 34 7 (.slice p' (k+1) c') (k+1) (Es.flatMap entC++entC (r,nv,pv))) (g7:w6.grownBy w7 (Value.slice p k c).ownBlock) (n7:∀b,(Value.slice p' (k+1) c').ownBlock=some b→(Value.slice p k c).ownBlock=some b∨w6.heap.size≤b) :
  RunI bb o KK xs (Es++[(r,nv,pv)]) L' p' (k+1) c' w0 w7:=by
 have B6:=hB5.ext e6
 have no5:∀j,(Value.slice p k c).ownBlock=some j→¬BkOwn bb w5 j:=fun j hj hk=>hC.out j (I.row.lt j hj).2 (I.no j hj) hk
 have no6:∀j,(Value.slice p k c).ownBlock=some j→¬BkOwn bb w6 j:=fun j hj hk=>no5 j hj ((hB5.own_ext e6 j).1 hk)
 have B7:=B6.top.st g7 fun b hb=>⟨fun hp=>hp.1 hb,no6 b hb⟩
 have s5:w4.heap.size≤w5.heap.size:=hC.size
 have s6:=e6.size
 have hl:L.length≤L'.length∧L'.length≤L.length+2:=by
  have:=aIp o L x
  rw [hd] at this
  exact this
 have R6:∀{v:Value} {n:Nat} {us:List Value},RowAt (BkOwn bb) bb w5 v n us→(∀a n d,v=.slice (some a) n d→us≠[]→(Value.slice p k c).ownBlock≠some a.block)→RowAt (BkOwn bb) bb w7 v n us∧∀a n d,v=.slice (some a) n d→us≠[]→(Value.slice p' (k+1) c').ownBlock≠some a.block:=fun {v n us} hv hn=>by
  have h6:=aLi hv hB5 e6
  refine ⟨h6.gro g7 hn fun j hj=>(B7.2 j).1 hj,fun a n d e hz hb=>?_⟩
  rcases n7 _ hb with hb | hb
  ·exact hn a n d e hz hb
  ·obtain ⟨q,d',e',_,_,hq⟩:=h6
   rw [e] at e'
   injection e' with e1
   have:=(hq a e1.symm hz).2.2
   omega
 have old:∀{v:Value},AbN w4.heap.size v→∀a n d,v=.slice (some a) n d→(Value.slice p k c).ownBlock≠some a.block:=fun hn a n d e hb=>by
  have:=hn a n d e
  have:=(I.row.lt _ hb).2
  omega
 have E5:Ext w0 w5:=by
  have s:=I.E.size
  have b:=hC.ext (B:=w0.heap.size) (fun j hj hk=>by have:=I.hi j hk;omega) (fun _ _ h=>h) s
  exact ⟨b.os.trans I.E.os,b.tape.trans I.E.tape,b.output.trans I.E.output,Nat.le_trans s b.size,fun j hj=>(b.block j hj).trans (I.E.block j hj)⟩
 refine ⟨B7.1.up fun j hj hb=>?_,hok,by have:=I.l0;omega,by have:=I.l1;omega,by rw [List.flatMap_append];simpa using row7,fun j hj hk=>?_,fun e he=>?_,?_,(E5.trans e6).grown g7 fun b hb=>(I.row.lt b hb).1,fun j hj=>?_⟩
 ·rcases n7 j hb with h | h
  ·exact hj.1 h
  ·have:=hj.2;omega
 ·have h6:=(B7.2 j).1 hk
  rcases n7 j hj with h | h
  ·exact no6 j h h6
  ·have:=B6.lt h6;omega
 ·rcases List.mem_append.1 he with he | he
  ·obtain ⟨a1,a2,a3⟩:=I.rows e he
   have b1:=R6 (a1.chg (chg0 hC)) a3.1
   have b2:=R6 (a2.chg (chg0 hC)) a3.2
   exact ⟨b1.1,b2.1,b1.2,b2.2⟩
  ·obtain rfl:e=(r,nv,pv):=by simpa using he
   have b1:=R6 h1 fun a n d h _=>old n1 a n d h
   have b2:=R6 h2 fun a n d h _=>old n2 a n d h
   exact ⟨b1.1,b2.1,b1.2,b2.2⟩
 ·have hr:=I.run
  rw [List.drop_eq_getElem_cons hk,hx,runP,hd] at hr
  rw [List.map_append,←hr,List.append_assoc]
  rfl
 ·have h5:=(hB5.own_ext e6 j).1 ((B7.2 j).1 hj)
  rcases Nat.lt_or_ge j w4.heap.size with hj4 | hj4
  ·by_cases h4:BkOwn bb w4 j
   ·exact I.hi j h4
   ·exact absurd h5 (hC.out j hj4 h4)
  ·have:=I.E.size;omega
theorem c_run{o:Int}{KK:List Int}{ops:List OpE}{lp:OA}{n lc:Nat}(hl:Cs w lp (ops.flatMap opC))(hn:ops.length=n)(hz:n≤100)
  (hin:∀e∈ops,OpIn w e) (hK:∀e∈ops,∀k∈newK e.1,k∈KK) (zK:KK.length≤5000)
  (h:∀p c (Es:List Ent) w',Ext w w'→Es.length=n→Es.map (·.1)=runQ o (ops.map (·.1))→Cs w' p (Es.flatMap entC)→(∀e∈Es,EntRd w' e)→R (.returned (.slice p n c)) w') :
  Calls prog 18 #[.int .u8 o,.slice lp n lc] w R:=by
 have hsm:=aEm (o:=o) (KK:=KK) (xs:=ops.map (·.1)) fun x hx=>by
  obtain ⟨e,he,rfl⟩:=List.mem_map.1 hx
  exact ⟨(hin e he).1,hK e he⟩
 refine sh18_ok ?_
 unfold sh18
 refine pP call20 (c_new fun rb w1 hB e1 hown=>pN ⟨_,rfl,?_⟩)
 cases ho:isO o with
 | false=>
  refine ⟨fun vs w'=>∃(k:Nat) (p:OA) (c:Nat),vs=[.slice p k c,.int .i64 (k:Int)]∧k≤n∧Ext w w'∧w'.ownsRow w.heap.size 34 7 (.slice p k c) k ((List.replicate k errE).flatMap entC),
   fun vs _=>match vs with | [_,.int _ i]=>n - i.toNat | _=>0,⟨0,none,0,rfl,Nat.zero_le _,e1,World.ownsRow_nil _ _ _ _⟩,?_⟩
  rintro p k c i_ _ w3 ⟨k0,p0,c0,hv,hk,E,row⟩
  simp only [List.cons.injEq,Value.int.injEq,Value.slice.injEq,true_and,and_true] at hv
  obtain ⟨⟨rfl,rfl,rfl⟩,rfl⟩:=hv
  refine pO (fun z=>?_) fun z=>?_
  ·have z:k < n:=by have:=of_decide_eq_true z;omega
   intro K20
   refine pP call19 (aHj (pN ⟨_,rfl,?_⟩))
   rw [ho]
   refine pY rfl (rK fun b6 w6 e6 X6 l6=>?_)
   refine rR elR (e6.row row) (m:=1) (tW X6) (by simp) (by simp [Value.oneCell']) (by simp only [maxLen];omega) (by omega) (by have:=E.size;have:=e6.size;omega) fun p' c' w8 row8 g8 n8=>pN ⟨_,_,_,rfl,?_⟩
   simp -zeta -zetaHave only [K20]
   rw [pW z (by omega)]
   refine ⟨⟨k+1,p',c',rfl,by omega,(E.trans e6).grown g8 fun b hb=>(row.lt b hb).1,by rw [aJo];exact row8⟩,?_⟩
   show n - ((k+1:Nat):Int).toNat < n - (k:Int).toNat
   omega
  ·have z:k=n:=by have:=of_decide_eq_false z;omega
   subst z
   exact h p c _ w3 E (List.length_replicate ..) (by unfold runQ;rw [ho,if_neg (by decide)];exact aNg (by rw [List.length_map];exact hn)) (Cs.of_row row) aNh
 | true=>
  refine ⟨fun vs w'=>∃(k:Nat) (p:OA) (c:Nat) (Es:List Ent) (L:Rows),vs=[.slice p k c,.int .i64 (k:Int)]∧k≤n∧RunI rb o KK (ops.map (·.1)) Es L p k c w w',
   fun vs _=>match vs with | [_,.int _ i]=>n - i.toNat | _=>0,⟨0,none,0,[],[[]],rfl,Nat.zero_le _,⟨hB.up fun _ _=>(fun hh=>(by cases hh)),OkL.one (tJ ho) (by intro x hx;cases hx) (by intro y hy;cases hy),(by decide),(by decide),World.ownsRow_nil _ _ _ _,fun j hj=>(by cases hj),fun e he=>(by cases he),rfl,e1,hown⟩⟩,?_⟩
  rintro p k c i_ _ w3 ⟨k0,p0,c0,Es,L,hv,hk,I⟩
  simp only [List.cons.injEq,Value.int.injEq,Value.slice.injEq,true_and,and_true] at hv
  obtain ⟨⟨rfl,rfl,rfl⟩,rfl⟩:=hv
  refine pO (fun z=>?_) fun z=>?_
  ·have z:k < n:=by have:=of_decide_eq_true z;omega
   have hkl:k < ops.length:=by omega
   intro K20
   refine pP call19 (aHj (pN ⟨_,rfl,?_⟩))
   rw [ho]
   refine pZ rfl ?_
   refine aBz (ec:=opC) (s:=15) (fun _=>rfl) (by omega) (hl.ext I.E) hn (k:=k) rfl z fun a1 r1 _=>?_
   have hin':=hin ops[k] (List.getElem_mem hkl)
   have hKk:=hK ops[k] (List.getElem_mem hkl)
   have hxk:(ops.map (·.1))[k]'(by simpa using hkl)=ops[k].1:=List.getElem_map ..
   generalize ops[k]=e at *
   obtain ⟨x,pv,kv⟩:=e
   obtain ⟨hx,hO,zp,zk⟩:=hin'
   obtain ⟨pp,pc,e1p,hp1,hp2,hp3⟩:=hO.p
   obtain ⟨kp,kc,e1k,hk1,hk2,hk3⟩:=hO.k
   simp only at e1p e1k hx zp zk hKk hxk hp1 hp2 hk1 hk2
   subst e1p e1k
   have l1:=I.l1
   refine ⟨_,r1 0 _ rfl,_,r1 1 _ rfl,_,r1 2 _ rfl,_,r1 3 _ rfl,_,r1 4 _ rfl,_,r1 5 _ rfl,_,r1 6 _ rfl,_,r1 7 _ rfl,_,r1 8 _ rfl,_,r1 9 _ rfl,_,r1 10 _ rfl,_,r1 11 _ rfl,_,r1 12 _ rfl,_,_,_,r1 13 _ rfl,_,_,_,r1 14 _ rfl,pP call22 (c_do ho I.B (fun j hj hb=>by have:=(I.row.lt j hb).2;omega) I.l0 (by omega) (fun m=>⟨(I.ok.at' ho m).1,(I.ok.at' ho m).2.1,by have:=aAa (I.ok.at' ho m).1 (I.ok.at' ho m).2.2;omega⟩) hx (hp2.ext I.E) (hk2.ext I.E) zp zk hp1 fun v w6 hR hB6 hC6=>?_)⟩
   obtain ⟨nv,pv,rfl,h1,h2,n1,n2⟩:=hR.ex
   have h1':=h1
   have h2':=h2
   obtain ⟨q1,d1,rfl,_⟩:=h1'
   obtain ⟨q2,d2,rfl,_⟩:=h2'
   have row6:=aCg hC6 I.row I.no (fun _ _ h=>h)
   have s6:=hC6.size
   have s5:=I.E.size
   generalize hr:(doP o L x).1=r at *
   generalize hL':(doP o L x).2=L' at *
   refine pN ⟨_,_,_,_,_,_,_,_,_,_,_,rfl,rK fun b7 w7 e7 X7 l7=>?_⟩
   have s7:=e7.size
   refine rR elR (e7.row row6) (m:=1) (tW X7) (by simp) (by simp [Value.oneCell']) (by simp only [maxLen];omega) (by omega) (by omega) fun p' c' w8 row8 g8 n8=>pN ⟨_,_,_,rfl,?_⟩
   simp -zeta -zetaHave only [K20]
   rw [pW z (by omega)]
   refine ⟨⟨k+1,p',c',_,_,rfl,by omega,I.step (by simpa using hkl) hxk (by rw [←hr,←hL']) (by rw [←hL'];exact (do_ok ho I.ok hx).mono fun y hy=>(List.mem_append.1 hy).elim (hKk y) id) hB6 hC6 h1 h2 n1 n2 e7 row8 g8 n8⟩,?_⟩
   show n - ((k+1:Nat):Int).toNat < n - (k:Int).toNat
   omega
  ·have z:k=n:=by have:=of_decide_eq_false z;omega
   subst z
   have hrun:=I.run
   rw [List.drop_of_length_le (by simp;omega)] at hrun
   have hrun:Es.map (·.1)=runP o [[]] (ops.map (·.1)):=by simpa [runP] using hrun
   refine h p c Es w3 I.E (by have:=congrArg List.length hrun;simp only [List.length_map] at this;rw [this,aHx,List.length_map,hn]) (by unfold runQ;rw [if_pos ho];exact hrun) (Cs.of_row I.row) fun e he=>?_
   have hz:=hsm e.1 (by unfold runQ;rw [if_pos ho,←hrun];exact List.mem_map.2 ⟨e,he,rfl⟩)
   exact ent_rd (I.rows e he).1 (I.rows e he).2.1 (by omega) (by omega)
end Rb
end Go.Proofs.YtmdboekndjlmgaaGreat
namespace Go.Proofs.YtmdboekndjlmgaaGreat
open Go Go.Sh Tryz
variable {w:World}{R:EW}
def sh4(k:Int)(j:OA)(g l:Nat)(v:Int)(R:EW)(w:World):Prop:=
 cF 10 #[.slice j g l] w (retS (fun m2 H=>∃I,m2=(.bool I:Value)∧ifB I (cF 6 #[] H (retS (fun m3 m4=>∃J,m3=(.bool J:Value)∧R (.returned (.bool J)) m4) (kN R))) (cF 11 #[.pointer none,iL 0] H (retS (fun m5 K=>∃m6 m7 m8 L,m5=(.tuple #[.slice m6 m7 m8,.bool L]:Value)∧(
 let m9:Bool→World→Prop:=fun n0 M=>ifB n0 (R (.returned (.bool false)) M) (cF 15 #[.slice j g l] M (retS (fun n1 n2=>∃m n r,n1=(.slice m n r:Value)∧cF 16 #[iB k] n2 (retS (fun n3 n4=>∃h s,n3=(.tuple #[.pointer h,iL s]:Value)∧(
 let n5:Bool→World→Prop:=fun n6 t=>ifB n6 (R (.returned (.bool false)) t) (ifB ((h).isNone) (
 let n7:Bool→World→Prop:=fun n8 n9=>R (.returned (.bool n8)) n9
 ifB ((s:Int)==2) (cF 6 #[] t (retS (fun o0 o1=>∃N,o0=(.bool N:Value)∧n7 N o1) (kN R))) (R (.returned (.bool false)) t)) (cF 20 #[iB k] t (retS (fun o2 o3=>∃f,o2=(.pointer f:Value)∧∃(x:List Value→World→Prop) (O:List Value→World→Nat),x [iL 0] o3∧∀(i:Int),∀(u2:Nat→Value) (u:World),x [iL i] u→(ifB (decide ((i:Int) < ((g:Nat):Int))) (
 let o4:Bool→World→Prop:=fun o5 y=>ifB o5 (R (.returned (.bool false)) y) (x [iL (IntKind.wrap .i64 (i+1))] y∧O [iL (IntKind.wrap .i64 (i+1))] y < O [iL i] u)
 doDr u fun P=>∃(a:World→Prop),a P∧doIx m n 15 (i) fun b=>∃Q,(∀w,a w→w.cell? (b.add 0)=some (iB Q))∧∃S,(∀w,a w→w.cell? (b.add 1)=some (iL S))∧∃T,(∀w,a w→w.cell? (b.add 2)=some (iL T))∧∃U,(∀w,a w→w.cell? (b.add 3)=some (iL U))∧∃V,(∀w,a w→w.cell? (b.add 4)=some (iL V))∧∃W,(∀w,a w→w.cell? (b.add 5)=some (iL W))∧∃X,(∀w,a w→w.cell? (b.add 6)=some (iL X))∧∃Y,(∀w,a w→w.cell? (b.add 7)=some (iL Y))∧∃Z,(∀w,a w→w.cell? (b.add 8)=some (iB Z))∧∃a0,(∀w,a w→w.cell? (b.add 9)=some (iB a0))∧∃a1,(∀w,a w→w.cell? (b.add 10)=some (iL a1))∧∃a2,(∀w,a w→w.cell? (b.add 11)=some (iL a2))∧∃a3,(∀w,a w→w.cell? (b.add 12)=some (.bool a3))∧∃a4 a5 a6,(∀w,a w→w.cell? (b.add 13)=some (.slice a4 a5 a6))∧∃a7 a8 a9,(∀w,a w→w.cell? (b.add 14)=some (.slice a7 a8 a9))∧doIx j g 15 (i) fun c=>∃b0,(∀w,a w→w.cell? (c.add 0)=some (iB b0))∧∃b1,(∀w,a w→w.cell? (c.add 1)=some (iL b1))∧∃b2,(∀w,a w→w.cell? (c.add 2)=some (iL b2))∧∃b3,(∀w,a w→w.cell? (c.add 3)=some (iL b3))∧∃b4,(∀w,a w→w.cell? (c.add 4)=some (iL b4))∧∃b5,(∀w,a w→w.cell? (c.add 5)=some (iL b5))∧∃b6,(∀w,a w→w.cell? (c.add 6)=some (iL b6))∧∃b7,(∀w,a w→w.cell? (c.add 7)=some (iL b7))∧∃b8,(∀w,a w→w.cell? (c.add 8)=some (iB b8))∧∃b9,(∀w,a w→w.cell? (c.add 9)=some (iB b9))∧∃c0,(∀w,a w→w.cell? (c.add 10)=some (iL c0))∧∃c1,(∀w,a w→w.cell? (c.add 11)=some (iL c1))∧∃c2,(∀w,a w→w.cell? (c.add 12)=some (.bool c2))∧∃c3 c4 c5,(∀w,a w→w.cell? (c.add 13)=some (.slice c3 c4 c5))∧∃c6 c7 c8,(∀w,a w→w.cell? (c.add 14)=some (.slice c6 c7 c8))∧cF 12 #[.pointer h,.agg #[iB Q,iL S,iL T,iL U,iL V,iL W,iL X,iL Y,iB Z,iB a0,iL a1,iL a2,.bool a3,.slice a4 a5 a6,.slice a7 a8 a9]] P (retS (fun o6 c9=>∃d0 d1 d2 d3 d4 d5 d6 d7 d8 d9 e0,o6=(.agg #[iL d0,.bool d1,iL d2,iL d3,iL d4,.slice d5 d6 d7,.slice d8 d9 e0]:Value)∧a c9∧cF 22 #[.pointer f,.agg #[iB b0,iL b1,iL b2,iL b3,iL b4,iL b5,iL b6,iL b7,iB b8,iB b9,iL c0,iL c1,.bool c2,.slice c3 c4 c5,.slice c6 c7 c8]] c9 (retS (fun o7 e1=>∃e2 e3 e4 e5 e6 e7 e8 e9 f0 f1 f2,o7=(.agg #[iL e2,.bool e3,iL e4,iL e5,iL e6,.slice e7 e8 e9,.slice f0 f1 f2]:Value)∧∃(o8:World→Prop),o8 e1∧cF 21 #[.agg #[iL d0,.bool d1,iL d2,iL d3,iL d4,.slice d5 d6 d7,.slice d8 d9 e0],.agg #[iL e2,.bool e3,iL e4,iL e5,iL e6,.slice e7 e8 e9,.slice f0 f1 f2]] e1 (retS (fun o9 z=>∃f3,o9=(.bool f3:Value)∧∃(A:World→Prop),A z∧ifB (!f3) (R (.returned (.bool false)) z) (∃f4,f=some f4∧∃p0 f5 p1,(∀w,A w→w.cell? (f4.add 1)=some (.slice p0 f5 p1))∧cF 14 #[.pointer h] z (retS (fun p2 f6=>∃f7,p2=(iL f7:Value)∧A f6∧o4 ((f7:Int) !=((f5:Nat):Int)) f6) (kN R)))) (kN R))) (kN R))) (kN R))) (∃(B:List Value→World→Prop) (f8:List Value→World→Nat),B [iL (-1)] u∧∀(e:Int),∀(u3:Nat→Value) (o:World),B [iL e] o→(∃f9,f=some f9∧∃p3 g0 p4,o.cell? (f9.add 1)=some (.slice p3 g0 p4)∧ifB (decide ((e:Int)≤((g0:Nat):Int))) (
 let C:World→Prop:=fun g1=>B [iL (IntKind.wrap .i64 (e+1))] g1∧f8 [iL (IntKind.wrap .i64 (e+1))] g1 < f8 [iL e] o
 cF 11 #[.pointer h,iL e] o (retS (fun p5 d=>∃D E F p,p5=(.tuple #[.slice D E F,.bool p]:Value)∧(
 let g2:Bool→World→Prop:=fun p6 g3=>ifB p6 (R (.returned (.bool false)) g3) (C g3)
 ifB (decide ((e:Int)≥0)) (∃g4,f=some g4∧∃p7 g5 p8,d.cell? (g4.add 1)=some (.slice p7 g5 p8)∧ifB (!(p==(decide ((e:Int) < ((g5:Nat):Int))))) (R (.returned (.bool false)) d) (ifB p (∃g6,f=some g6∧∃g7 g8 p9,d.cell? (g6.add 1)=some (.slice g7 g8 p9)∧doIx g7 g8 1 (e) fun q0=>∃g9 h0 h1,d.cell? q0=some (.slice g9 h0 h1)∧cF 8 #[.slice D E F,.slice g9 h0 h1] d (retS (fun q1 q2=>∃h2,q1=(.bool h2:Value)∧g2 (!h2) q2) (kN R))) (C d))) (ifB (!(p==false)) (R (.returned (.bool false)) d) (ifB p (∃h3,f=some h3∧∃h4 h5 q3,d.cell? (h3.add 1)=some (.slice h4 h5 q3)∧doIx h4 h5 1 (e) fun q4=>∃h6 h7 h8,d.cell? q4=some (.slice h6 h7 h8)∧cF 8 #[.slice D E F,.slice h6 h7 h8] d (retS (fun q5 q6=>∃h9,q5=(.bool h9:Value)∧g2 (!h9) q6) (kN R))) (C d))))) (kN R))) (cF 11 #[.pointer h,iL v] o (retS (fun q7 q=>∃q8 q9 r0 G,q7=(.tuple #[.slice q8 q9 r0,.bool G]:Value)∧(
 let i0:Bool→World→Prop:=fun r1 r2=>R (.returned (.bool r1)) r2
 ifB (decide ((v:Int)≥0)) (∃i1,f=some i1∧∃r3 i2 r4,q.cell? (i1.add 1)=some (.slice r3 i2 r4)∧ifB (G==(decide ((v:Int) < ((i2:Nat):Int)))) (cF 23 #[.slice m n r,.slice j g l] q (retS (fun r5 i3=>∃i4,r5=(.bool i4:Value)∧ifB i4 (cF 6 #[] i3 (retS (fun r6 r7=>∃i5,r6=(.bool i5:Value)∧i0 i5 r7) (kN R))) (R (.returned (.bool false)) i3)) (kN R))) (R (.returned (.bool false)) q)) (ifB (G==false) (cF 23 #[.slice m n r,.slice j g l] q (retS (fun r8 i6=>∃i7,r8=(.bool i7:Value)∧ifB i7 (cF 6 #[] i6 (retS (fun r9 s0=>∃i9,r9=(.bool i9:Value)∧i0 i9 s0) (kN R))) (R (.returned (.bool false)) i6)) (kN R))) (R (.returned (.bool false)) q)))) (kN R))))))) (kN R))))
 cF 7 #[iB k,.slice m n r] n4 (retS (fun s1 s2=>∃j0 j1 j2,s1=(.slice j0 j1 j2:Value)∧cF 18 #[iB k,.slice j g l] s2 (retS (fun s3 s4=>∃j3 j4 j5,s3=(.slice j3 j4 j5:Value)∧cF 17 #[.slice j0 j1 j2,.slice j3 j4 j5] s4 (retS (fun s5 j6=>∃j7,s5=(.bool j7:Value)∧ifB (!j7) (R (.returned (.bool false)) j6) (cF 19 #[iB k] j6 (retS (fun s6 j8=>∃j9,s6=(.bool j9:Value)∧ifB (!(((s:Int)==0)==j9)) (R (.returned (.bool false)) j8) (n5 (!((!(h).isNone)==((s:Int)==0))) j8)) (kN R)))) (kN R))) (kN R))) (kN R)))) (kN R))) (kN R)))
 ifB L (R (.returned (.bool false)) K) (cF 13 #[] K (retS (fun s7 s8=>∃k0 k1 k2 k3 k4 k5 k6 k7 k8 k9 l0 l1 l2 l3 l4 l5 l6 l7 l8,s7=(.agg #[iB k0,iL k1,iL k2,iL k3,iL k4,iL k5,iL k6,iL k7,iB k8,iB k9,iL l0,iL l1,.bool l2,.slice l3 l4 l5,.slice l6 l7 l8]:Value)∧cF 12 #[.pointer none,.agg #[iB k0,iL k1,iL k2,iL k3,iL k4,iL k5,iL k6,iL k7,iB k8,iB k9,iL l0,iL l1,.bool l2,.slice l3 l4 l5,.slice l6 l7 l8]] s8 (retS (fun s9 l9=>∃m0 t0 t1 t2 t3 t4 t5 t6 t7 t8 t9,s9=(.agg #[iL m0,.bool t0,iL t1,iL t2,iL t3,.slice t4 t5 t6,.slice t7 t8 t9]:Value)∧ifB ((m0:Int) !=1) (R (.returned (.bool false)) l9) (cF 14 #[.pointer none] l9 (retS (fun u0 u1=>∃m1,u0=(iL m1:Value)∧m9 ((m1:Int) !=0) u1) (kN R)))) (kN R))) (kN R))))) (kN R)))) (kN R))
theorem sh4_ok{a:Int}{b:OA}{c d:Nat}{e:Int}:sh4 a b c d e R w→Calls prog 4 #[.int .u8 a,.slice b c d,.int .i64 e] w R:=
 ceqA (fun i=>if i=2 then [(15,.int .i64 0)] else if i=3000017 then [(0,.nilIface)] else if i=0 then [(14,.int .i64 0)] else []) func4
open Go.RowKit
structure BkTwo (bb rb:Nat) (o:Int) (L1 L2:Rows) (w0 w:World):Prop where
 B:BookN (fun j=>¬Rb.BkOwn rb w j) w bb o L1
 D:Rb.BookN (fun j=>¬BkOwn bb w j) w rb o L2
 sep:∀j,BkOwn bb w j→¬Rb.BkOwn rb w j
 E:Ext w0 w
 hi:∀j,BkOwn bb w j∨Rb.BkOwn rb w j→w0.heap.size≤j
section
variable {bb rb:Nat} {o:Int} {L1 L2 L:Rows} {w0 w w':World}
theorem BkTwo.ext(T:BkTwo bb rb o L1 L2 w0 w)(e:Ext w w'):BkTwo bb rb o L1 L2 w0 w':=
 have hb:=T.B.own_ext e
 have hd:=T.D.own_ext e
 ⟨(T.B.ext e).up fun j hj hk=>hj ((hd j).1 hk),(T.D.ext e).up fun j hj hk=>hj ((hb j).1 hk),fun j hj hk=>T.sep j ((hb j).1 hj) ((hd j).1 hk),T.E.trans e,fun j hj=>T.hi j (hj.imp (hb j).1 (hd j).1)⟩
theorem BkTwo.actB(T:BkTwo bb rb o L1 L2 w0 w)(hB:BookN (fun j=>¬Rb.BkOwn rb w j) w' bb o L)(hC:Chg (BkOwn bb) (fun _=>False) w w'):BkTwo bb rb o L L2 w0 w'∧∀j,Rb.BkOwn rb w' j↔Rb.BkOwn rb w j:=by
 have hk:∀k,Rb.BkOwn rb w k∨((¬BkOwn bb w k∧k < w.heap.size)∧k < w.heap.size)→w'.heap[k]?=w.heap[k]?:=fun k hk=>by
  rcases hk with hk | ⟨⟨hk,hs⟩,_⟩
  ·exact hC.block k (T.D.lt hk) (fun h=>T.sep k h hk) id
  ·exact hC.block k hs hk id
 have ho:=T.D.own (w':=w') fun k h=>hk k (.inl h)
 have D':=T.D.top.keep hk hC.size
 have old:∀j,BkOwn bb w' j→BkOwn bb w j∨w.heap.size≤j:=fun j hj=>by
  rcases Nat.lt_or_ge j w.heap.size with h | h
  ·by_cases h2:BkOwn bb w j
   ·exact .inl h2
   ·exact absurd hj (hC.out j h h2)
  ·exact .inr h
 have s:=T.E.size
 have b:=hC.ext (B:=w0.heap.size) (fun j hj hk=>by have:=T.hi j (.inl hk);omega) (fun _ _ h=>h) s
 refine ⟨⟨hB.up fun j hj hk=>hj ((ho j).1 hk),D'.up fun j hj hk=>(old j hk).elim hj.1 (fun h=>by have:=hj.2;omega),fun j hj hk=>?_,
  ⟨b.os.trans T.E.os,b.tape.trans T.E.tape,b.output.trans T.E.output,Nat.le_trans s b.size,fun j hj=>(b.block j hj).trans (T.E.block j hj)⟩,fun j hj=>?_⟩,ho⟩
 ·have hk:=(ho j).1 hk
  rcases old j hj with h | h
  ·exact T.sep j h hk
  ·have:=T.D.lt hk;omega
 ·rcases hj with hj | hj
  ·rcases old j hj with h | h
   ·exact T.hi j (.inl h)
   ·omega
  ·exact T.hi j (.inr ((ho j).1 hj))
theorem BkTwo.actD(T:BkTwo bb rb o L1 L2 w0 w)(hD:Rb.BookN (fun j=>¬BkOwn bb w j) w' rb o L)(hC:Chg (Rb.BkOwn rb) (fun _=>False) w w'):BkTwo bb rb o L1 L w0 w':=by
 have hk:∀k,BkOwn bb w k∨((¬Rb.BkOwn rb w k∧k < w.heap.size)∧k < w.heap.size)→w'.heap[k]?=w.heap[k]?:=fun k hk=>by
  rcases hk with hk | ⟨⟨hk,hs⟩,_⟩
  ·exact hC.block k (T.B.lt hk) (T.sep k hk) id
  ·exact hC.block k hs hk id
 have ho:=T.B.own (w':=w') fun k h=>hk k (.inl h)
 have B':=T.B.top.keep hk hC.size
 have old:∀j,Rb.BkOwn rb w' j→Rb.BkOwn rb w j∨w.heap.size≤j:=fun j hj=>by
  rcases Nat.lt_or_ge j w.heap.size with h | h
  ·by_cases h2:Rb.BkOwn rb w j
   ·exact .inl h2
   ·exact absurd hj (hC.out j h h2)
  ·exact .inr h
 have s:=T.E.size
 have b:=hC.ext (B:=w0.heap.size) (fun j hj hk=>by have:=T.hi j (.inr hk);omega) (fun _ _ h=>h) s
 refine ⟨B'.up fun j hj hk=>(old j hk).elim hj.1 (fun h=>by have:=hj.2;omega),hD.up fun j hj hk=>hj ((ho j).1 hk),fun j hj hk=>?_,
  ⟨b.os.trans T.E.os,b.tape.trans T.E.tape,b.output.trans T.E.output,Nat.le_trans s b.size,fun j hj=>(b.block j hj).trans (T.E.block j hj)⟩,fun j hj=>?_⟩
 ·have hj:=(ho j).1 hj
  rcases old j hk with h | h
  ·exact T.sep j hj h
  ·have:=T.B.lt hj;omega
 ·rcases hj with hj | hj
  ·exact T.hi j (.inl ((ho j).1 hj))
  ·rcases old j hj with h | h
   ·exact T.hi j (.inr h)
   ·omega
end
theorem aOa{own:World→Nat→Prop}{w w':World}{p:OA}{vs:List Value}(h:Cs w p vs)(hC:Chg own (fun _=>False) w w')(ho:∀a,p=some a→vs≠[]→¬own w a.block):Cs w' p vs:=fun i v hv=>by
 obtain ⟨a,ha,hc⟩:=h i v hv
 refine ⟨a,ha,?_⟩
 rw [World.cell?_of_block (hC.block _ (World.block_lt_of_cell? _ _ hc) (by rw [qV];exact ho a ha (by rintro rfl;simp at hv)) id)]
 exact hc
theorem Rb.BookN.any{P Q:Nat→Prop}{rb:Nat}{o:Int}(h:Rb.BookN P w rb o [[]]):Rb.BookN Q w rb o [[]]:=by
 obtain ⟨p,c,vs,hb,hr,hv⟩:=h.ex
 refine ⟨p,c,vs,hb,hr,fun i l hl=>?_⟩
 obtain ⟨v,h1,h2,_⟩:=hv i l hl
 refine ⟨v,h1,h2,fun a n d e hz=>?_⟩
 have hl':l=[]:=by
  cases i with
  | zero=>simpa using hl.symm
  | succ i=>simp at hl
 subst hl'
 obtain ⟨q,cc,e',_⟩:=h2
 rw [e] at e'
 injection e' with _ e2 _
 exact absurd e2 hz
theorem EntRd.ext{w w':World}{e:Ent}(h:EntRd w e)(E:Ext w w'):EntRd w' e:=by
 obtain ⟨q1,c1,q2,c2,en,ep,g1,g2,z⟩:=h
 exact ⟨q1,c1,q2,c2,en,ep,g1.ext E,g2.ext E,z⟩
theorem aIz{o y:Int}{lp:OA}{n lc:Nat}{ops:List OpE}(hl:aJh w lp n lc ops)(h:∀w',Ext w w'→R (.returned (.bool true)) w'):Calls prog 4 #[.int .u8 o,.slice lp n lc,.int .i64 y] w R:=by
 refine sh4_ok ?_
 unfold sh4
 refine pP call10 (c_heavy hl (fun w1 e1 z60 z300=>pN ⟨_,rfl,?_⟩) fun w1 e1=>pN ⟨_,rfl,pZ rfl (pP call6 (aDa fun w2 e2=>pN ⟨_,rfl,h w2 (e1.trans e2)⟩))⟩)
 obtain ⟨hn,hcs,hO,_⟩:=hl
 refine pY rfl ?_
 have zK:(kOf ops).length≤360:=stay_kof (by omega) z300
 have zO:∀e∈ops,e.1.pairs.length+e.1.keys.length≤300:=fun e he=>Nat.le_trans (sz_mem he) z300
 refine pP call11 (c_prow0 (pN ⟨_,_,_,_,rfl,?_⟩))
 intro K20
 refine pY rfl ?_
 refine pP call13 (aHk fun b2 w2 e2 X2 _=>pN ⟨_,_,_,_,_,_,_,_,_,_,_,_,_,_,_,_,_,_,_,rfl,?_⟩)
 refine pP call12 (c_pdo0 (x:=aCr 3 [(1,10),(2,20)]) fun w3 e3=>pN ⟨_,_,_,_,_,_,_,_,_,_,_,rfl,pY rfl ?_⟩)
 refine pP call14 (c_plen0 (pN ⟨_,rfl,?_⟩))
 simp -zeta -zetaHave only [K20]
 refine pY rfl ?_
 have E3:=(e1.trans e2).trans e3
 refine pP call15 (c_own (hcs.ext E3) hn (by omega) (fun e he=>⟨(hO e he).2.1.ext E3,by have:=zO e he;omega,by have:=zO e he;omega⟩) fun op oc Fs w4 e4 hF hFc hFr=>pN ⟨_,_,_,rfl,?_⟩)
 have E4:=E3.trans e4
 have hFin:∀e∈Fs,InO e.1∧e.1.pairs.length+e.1.keys.length≤300∧∀k∈newK e.1,k∈kOf ops:=fun e he=>by
  have:e.1∈ops.map (·.1):=hF▸List.mem_map.2 ⟨e,he,rfl⟩
  obtain ⟨e',he',h'⟩:=List.mem_map.1 this
  rw [←h']
  exact ⟨(hO e' he').1,zO e' he',fun k hk=>aDt _ he' k hk⟩
 have hFn:Fs.length=n:=by have:=congrArg List.length hF;simpa [hn] using this
 refine pP call16 (aMm (fun w5 e5 ho=>pN ⟨_,_,rfl,?_⟩) fun bb w5 ho hB e5 hown=>pN ⟨_,_,rfl,?_⟩)
 all_goals
  intro K32
  have E5:=E4.trans e5
  refine pP call7 (c_prunQ (KK:=kOf ops) (ops:=Fs) (hFc.ext e5) hFn (by omega) (fun e he=>⟨(hFin e he).1,(hFr e he).ext e5,by have:=(hFin e he).2.1;omega,by have:=(hFin e he).2.1;omega⟩) (fun e he=>(hFin e he).2.2) (by omega) fun p c Es w6 e6 hEn hEr hEc hEd=>pN ⟨_,_,_,rfl,?_⟩)
  have E6:=E5.trans e6
  refine pP call18 (Rb.c_run (KK:=kOf ops) (ops:=ops) (hcs.ext E6) hn (by omega) (fun e he=>⟨(hO e he).1,(hO e he).2.1.ext E6,by have:=zO e he;omega,by have:=zO e he;omega⟩) (fun e he=>aDt e he) (by omega) fun q d Gs w7 e7 hGn hGr hGc hGd=>pN ⟨_,_,_,rfl,?_⟩)
  have E7:=E6.trans e7
  refine pP call17 (aOc (by omega) hEn hGn (hEc.ext e7) hGc (by rw [hEr,hGr,hF]) (fun e he=>(hEd e he).ext e7) hGd fun w8 e8=>pN ⟨_,rfl,pY rfl ?_⟩)
  refine pP call19 (aHj (pN ⟨_,rfl,?_⟩))
  rw [ho]
  refine pY rfl ?_
  simp -zeta -zetaHave only [K32]
  refine pY rfl ?_
 ·refine pZ rfl ?_
  intro K35
  refine pZ rfl (pP call6 (aDa fun w9 e9=>pN ⟨_,rfl,?_⟩))
  simp -zeta -zetaHave only [K35]
  exact h w9 ((E7.trans e8).trans e9)
 refine pY rfl ?_
 refine pP call20 (Rb.c_new fun rb w9 hD e9 hownD=>pN ⟨_,rfl,?_⟩)
 have e58:=(e6.trans e7).trans e8
 have e59:=e58.trans e9
 have ownB:=hB.own_ext e59
 have s58:=e58.size
 have s45:=e5.size
 have T0:BkTwo bb rb o [[]] [[]] w4 w9:=⟨(hB.ext e59).up fun j hj hk=>by have:=hownD j hk;omega,hD.any,fun j hj hk=>by have:=hB.lt ((ownB j).1 hj);have:=hownD j hk;omega,e5.trans e59,fun j hj=>hj.elim (fun h=>hown j ((ownB j).1 h)) fun h=>by have:=hownD j h;omega⟩
 clear hD hB ownB hown hownD
 -- both books do what they are told
 refine ⟨fun vs w'=>∃(k:Nat) (L:Rows),vs=[.int .i64 (k:Int)]∧k≤n∧L.length≤1+2 * k∧0 < L.length∧OkL o (kOf ops) L∧BkTwo bb rb o L L w4 w',fun vs _=>match vs with | [.int _ i]=>n - i.toNat | _=>0,⟨0,[[]],rfl,Nat.zero_le _,by decide,by decide,OkL.one (tJ ho) (by intro x hx;cases hx) (by intro y hy;cases hy),T0⟩,?_⟩
 clear T0
 rintro i_ _ w10 ⟨k,L,hv,hk,zL,l0,ok,T⟩
 simp only [List.cons.injEq,Value.int.injEq,true_and,and_true] at hv
 subst hv
 have hat:∀m,mayR o (atL L m)=true∧InP (atL L m)∧(atL L m).length≤5000:=fun m=>⟨(ok.at' ho m).1,(ok.at' ho m).2.1,by have:=aAa (ok.at' ho m).1 (ok.at' ho m).2.2;omega⟩
 refine pO (fun z=>?_) fun z=>?_
 ·have z:k < n:=by have:=of_decide_eq_true z;omega
  intro K49
  obtain ⟨w11,ew⟩:∃u,u=w10.drew:=⟨_,rfl⟩
  have e11:Ext w10 w11:=by rw [ew];exact pT w10
  refine Rb.do_dr ew ?_
  have T:=T.ext e11
  have hk1:k < Fs.length:=by omega
  have hk2:k < ops.length:=by omega
  have hkk:Fs[k].1=ops[k].1:=by
   have h1:(Fs.map (·.1))[k]?=some Fs[k].1:=by rw [List.getElem?_map,List.getElem?_eq_getElem hk1];rfl
   have h2:(ops.map (·.1))[k]?=some ops[k].1:=by rw [List.getElem?_map,List.getElem?_eq_getElem hk2];rfl
   rw [hF,h2] at h1
   exact (Option.some.inj h1).symm
  have R1:=hFr Fs[k] (List.getElem_mem hk1)
  have R2:=(hO ops[k] (List.getElem_mem hk2)).2.1.ext E4
  have hx:=(hO ops[k] (List.getElem_mem hk2)).1
  have zx:=zO ops[k] (List.getElem_mem hk2)
  have hKk:=aDt (ops:=ops) ops[k] (List.getElem_mem hk2)
  refine ⟨fun w'=>Ext w4 w',T.E,?_⟩
  refine uC (ec:=opC) (s:=15) (C:=fun w'=>Ext w4 w') (fun _=>rfl) (by omega) (fun w' e'=>hFc.ext e') T.E hFn (k:=k) rfl z fun a1 r1=>?_
  generalize Fs[k]=F1 at *
  obtain ⟨x,pv,kv⟩:=F1
  obtain ⟨pp,pc,e1p,hp1,hp2,hp3⟩:=R1.p
  obtain ⟨kp,kc,e1k,hk1',hk2',hk3⟩:=R1.k
  simp only at e1p e1k hp1 hp2 hp3 hk1' hk2' hk3 hkk
  subst e1p e1k
  refine ⟨_,fun w' e'=>r1 w' e' 0 _ rfl,_,fun w' e'=>r1 w' e' 1 _ rfl,_,fun w' e'=>r1 w' e' 2 _ rfl,_,fun w' e'=>r1 w' e' 3 _ rfl,_,fun w' e'=>r1 w' e' 4 _ rfl,_,fun w' e'=>r1 w' e' 5 _ rfl,_,fun w' e'=>r1 w' e' 6 _ rfl,_,fun w' e'=>r1 w' e' 7 _ rfl,_,fun w' e'=>r1 w' e' 8 _ rfl,_,fun w' e'=>r1 w' e' 9 _ rfl,_,fun w' e'=>r1 w' e' 10 _ rfl,_,fun w' e'=>r1 w' e' 11 _ rfl,_,fun w' e'=>r1 w' e' 12 _ rfl,_,_,_,fun w' e'=>r1 w' e' 13 _ rfl,_,_,_,fun w' e'=>r1 w' e' 14 _ rfl,?_⟩
  refine uC (ec:=opC) (s:=15) (C:=fun w'=>Ext w4 w') (fun _=>rfl) (by omega) (fun w' e'=>hcs.ext (E4.trans e')) T.E hn (k:=k) rfl z fun a2 r2=>?_
  generalize ops[k]=F2 at *
  obtain ⟨x',pv,kv⟩:=F2
  obtain ⟨qp,qc,e2p,hq1,hq2,_⟩:=R2.p
  obtain ⟨lq,lqc,e2k,_,hl2,_⟩:=R2.k
  simp only at e2p e2k hq1 hq2 hl2 hkk hx zx hKk
  subst hkk
  subst e2p e2k
  refine ⟨_,fun w' e'=>r2 w' e' 0 _ rfl,_,fun w' e'=>r2 w' e' 1 _ rfl,_,fun w' e'=>r2 w' e' 2 _ rfl,_,fun w' e'=>r2 w' e' 3 _ rfl,_,fun w' e'=>r2 w' e' 4 _ rfl,_,fun w' e'=>r2 w' e' 5 _ rfl,_,fun w' e'=>r2 w' e' 6 _ rfl,_,fun w' e'=>r2 w' e' 7 _ rfl,_,fun w' e'=>r2 w' e' 8 _ rfl,_,fun w' e'=>r2 w' e' 9 _ rfl,_,fun w' e'=>r2 w' e' 10 _ rfl,_,fun w' e'=>r2 w' e' 11 _ rfl,_,fun w' e'=>r2 w' e' 12 _ rfl,_,_,_,fun w' e'=>r2 w' e' 13 _ rfl,_,_,_,fun w' e'=>r2 w' e' 14 _ rfl,?_⟩
  clear r1 r2 R1 R2
  have zp:x.pairs.length≤5000:=by omega
  have zk:x.keys.length≤5000:=by omega
  have rp:RowAt (BkOwn bb) bb w11 (.slice pp x.pairs.length pc) x.pairs.length (prs x.pairs):=⟨pp,pc,rfl,hp1,hp2.ext T.E,fun a ha hz=>⟨fun hk=>by have:=T.hi _ (.inl hk);have:=hp3 a ha hz;omega,by have:=hp3 a ha hz;have:=T.hi bb (.inl (.inl rfl));omega,Nat.lt_of_lt_of_le (hp3 a ha hz) T.E.size⟩⟩
  have rk:RowAt (BkOwn bb) bb w11 (.slice kp x.keys.length kc) x.keys.length (ints x.keys):=⟨kp,kc,rfl,hk1',hk2'.ext T.E,fun a ha hz=>⟨fun hk=>by have:=T.hi _ (.inl hk);have:=hk3 a ha hz;omega,by have:=hk3 a ha hz;have:=T.hi bb (.inl (.inl rfl));omega,Nat.lt_of_lt_of_le (hk3 a ha hz) T.E.size⟩⟩
  refine pP call12 (c_pdo ho T.B (fun j hj hb=>by have:=T.D.lt hb;omega) l0 (by omega) (fun m=>(hat m).2.1) (fun m=>(hat m).2.2) hx rp rk zp zk fun v1 w12 hR1 hB12 hC12=>?_)
  obtain ⟨T12,ho12⟩:=T.actB hB12 hC12
  obtain ⟨nv,pv,rfl,h1,h2,n1,n2⟩:=hR1.ex
  obtain ⟨q1,d1,rfl,_,c1,_⟩:=h1
  obtain ⟨q2,d2,rfl,_,c2,_⟩:=h2
  refine pN ⟨_,_,_,_,_,_,_,_,_,_,_,rfl,T12.E,?_⟩
  refine pP call22 (Rb.c_do ho T12.D (fun j hj hb=>by have:=T12.B.lt hb;omega) l0 (by omega) hat hx (hq2.ext T12.E) (hl2.ext T12.E) zp zk hq1 fun v2 w13 hR2 hD13 hC13=>?_)
  have T13:=T12.actD hD13 hC13
  obtain ⟨nv',pv',rfl,g1,g2,_,_⟩:=hR2.ex
  obtain ⟨s1,t1,rfl,_,y1,_⟩:=g1
  obtain ⟨s2,t2,rfl,_,y2,_⟩:=g2
  have sm:=aKo o L x
  have sa:=(hat x.a).2.2
  have dl:=aIp o L x
  refine pN ⟨_,_,_,_,_,_,_,_,_,_,_,rfl,fun _=>True,trivial,?_⟩
  refine pP call21 (c_srep (r:=(doP o L x).1) (by omega) (by omega) (aOa c1 hC13 fun a ha _ hk=>by have:=n1 a _ _ (by rw [ha]);have:=T.D.lt ((ho12 _).1 hk);omega) (aOa c2 hC13 fun a ha _ hk=>by have:=n2 a _ _ (by rw [ha]);have:=T.D.lt ((ho12 _).1 hk);omega) y1 y2 fun w14 e14=>pN ⟨_,rfl,fun w'=>Ext w14 w',pR _,pY rfl ?_⟩)
  have T14:=T13.ext e14
  obtain ⟨p,c,hb,_⟩:=T14.D.ix (m:=0)
  refine ⟨_,rfl,_,_,_,fun w' e'=>(hb.ext e').cell (i:=1) rfl rfl,pP call14 (c_plen T14.B (pN ⟨_,rfl,pR _,?_⟩))⟩
  simp -zeta -zetaHave only [K49]
  refine pY (by simp) ?_
  rw [pW z (by omega)]
  refine ⟨⟨k+1,_,rfl,by omega,by omega,by omega,(do_ok ho ok hx).mono fun y hy=>(List.mem_append.1 hy).elim (hKk y) id,T14⟩,?_⟩
  show n - ((k+1:Nat):Int).toNat < n - (k:Int).toNat
  omega
 -- their versions are the same
 refine ⟨fun vs w'=>∃m:Int,vs=[.int .i64 m]∧-1≤m∧m≤L.length+1∧BkTwo bb rb o L L w4 w',fun vs _=>match vs with | [.int _ i]=>((L.length:Int)+1 - i).toNat | _=>0,⟨-1,rfl,by omega,by omega,T⟩,?_⟩
 clear T
 rintro m_ _ w11 ⟨m,hv,hm1,hm2,T⟩
 simp only [List.cons.injEq,Value.int.injEq,true_and,and_true] at hv
 subst hv
 have hz:=hat
 obtain ⟨p,c,hb,hix⟩:=T.D.ix (m:=m_)
 refine ⟨_,rfl,_,_,_,hb.cell (i:=1) rfl rfl,?_⟩
 refine pO (fun zm=>?_) fun zm=>?_
 ·have zm:m_≤L.length:=of_decide_eq_true zm
  intro K140
  have hK:∀w',Ext w11 w'→K140 w':=fun w' e'=>by
   simp -zeta -zetaHave only [K140]
   rw [qB (by omega) (by omega)]
   refine ⟨⟨m_+1,rfl,by omega,by omega,T.ext e'⟩,?_⟩
   show ((L.length:Int)+1 - (m_+1)).toNat < ((L.length:Int)+1 - m_).toNat
   omega
  refine pP call11 (c_prow T.B (hat m_).2.2 (fun ht=>pN ⟨_,_,_,_,rfl,?_⟩) fun xp xn xc w12 ht hx e12=>pN ⟨_,_,_,_,rfl,?_⟩)
  ·intro K149
   have ht':¬(0≤m_∧m_ < L.length):=of_decide_eq_false ht
   refine pO (fun z0=>?_) fun z0=>?_
   ·have z0:m_≥0:=of_decide_eq_true z0
    have hd:decide ((m_:Int) < ((L.length:Nat):Int))=false:=decide_eq_false (by omega)
    exact ⟨_,rfl,_,_,_,hb.cell (i:=1) rfl rfl,pY (by rw [hd];rfl) (pY rfl (hK _ (pR _)))⟩
   ·exact pY rfl (pY rfl (hK _ (pR _)))
  ·intro K149
   have ht':0≤m_∧m_ < L.length:=of_decide_eq_true ht
   have hb12:=hb.ext e12
   have hd:decide ((m_:Int) < ((L.length:Nat):Int))=true:=decide_eq_true ht'.2
   obtain ⟨a,q,d,rfl,g1,g2,g3,g4,_⟩:=hix ht
   obtain ⟨q',d',e',gq⟩:=g4.rd
   injection e' with e'
   subst e'
   have hl5:=(hat m_).2.2
   have hxl:=qF hx
   refine pZ (decide_eq_true ht'.1) ⟨_,rfl,_,_,_,hb12.cell (i:=1) rfl rfl,pY (by rw [hd];rfl) (pZ rfl ⟨_,rfl,_,_,_,hb12.cell (i:=1) rfl rfl,a,rfl,g1,g2,_,_,_,e12.cell g3,pP call8 (aFx (rB hx) hxl (gq.ext e12) rfl (by omega) fun w13 e13=>pN ⟨_,rfl,?_⟩)⟩)⟩
   simp -zeta -zetaHave only [K149]
   exact pY (by simp) (hK w13 (e12.trans e13))
 -- and what was told is as it was
 have so:∀{K:Bool→World→Prop} (w':World),Ext w11 w'→(∀w'',Ext w' w''→K true w'')→doCall prog (.func (.func 23) #[] #[]) #[.slice op n oc,.slice lp n lc] w' (retS (fun v w1=>∃(x:Bool),v=(.bool x:Value)∧(ifB x (doCall prog (.func (.func 6) #[] #[]) #[] w1 (retS (fun v2 w2=>∃(x2:Bool),v2=(.bool x2:Value)∧(K x2 w2)) (fun ch w=>Kfn R ch [] w))) (R (.returned (.bool false)) w1))) (fun ch w=>Kfn R ch [] w)):=fun w' e' hK=>by
  have e4':=T.E.trans e'
  exact pP call23 (aPw (by omega) hFn hn (hFc.ext e4') (hcs.ext (E4.trans e4')) hF (fun e he=>⟨(hFr e he).ext e4',by have:=(hFin e he).2.1;omega,by have:=(hFin e he).2.1;omega⟩) (fun e he=>(hO e he).2.1.ext (E4.trans e4')) fun w1 e1=>pN ⟨_,rfl,pZ rfl (pP call6 (aDa fun w2 e2=>pN ⟨_,rfl,hK w2 (e1.trans e2)⟩))⟩)
 have En:=E4.trans T.E
 refine pP call11 (c_prow T.B (hat y).2.2 (fun ht=>pN ⟨_,_,_,_,rfl,?_⟩) fun xp xn xc w12 ht hx e12=>pN ⟨_,_,_,_,rfl,?_⟩)
 ·intro K184
  have ht':¬(0≤y∧y < L.length):=of_decide_eq_false ht
  refine pO (fun z0=>?_) fun z0=>?_
  ·have z0:y≥0:=of_decide_eq_true z0
   have hd:decide ((y:Int) < ((L.length:Nat):Int))=false:=decide_eq_false (by omega)
   exact ⟨_,rfl,_,_,_,hb.cell (i:=1) rfl rfl,pZ (by rw [hd];rfl) (so w11 (pR _) fun w' e'=>h w' (En.trans e'))⟩
  ·exact pZ rfl (so w11 (pR _) fun w' e'=>h w' (En.trans e'))
 ·intro K184
  have ht':0≤y∧y < L.length:=of_decide_eq_true ht
  have hd:decide ((y:Int) < ((L.length:Nat):Int))=true:=decide_eq_true ht'.2
  exact pZ (decide_eq_true ht'.1) ⟨_,rfl,_,_,_,(hb.ext e12).cell (i:=1) rfl rfl,pZ (by rw [hd];rfl) (so w12 e12 fun w' e'=>h w' ((En.trans e12).trans e'))⟩
end Go.Proofs.YtmdboekndjlmgaaGreat
