/-
  What is wrong with an op, by a book of versions.
-/
import Derived.Test.YtmdboekndjlmgaaGreatZ33
set_option maxRecDepth 100000
set_option maxHeartbeats 6400000
namespace Go.Proofs.YtmdboekndjlmgaaGreat
open Go Go.Sh Go.RowKit Tryz
variable {w:World}{R:EW}
theorem BookN.ix{P:Nat→Prop}{bb:Nat}{o m:Int}{L:Rows}(hB:BookN P w bb o L):∃p c,Blk w bb #[.int .u8 o,.slice p L.length c] 70∧(qM L m=true→∃(a:Addr) (q:OA) (d:Nat),p=some a∧0≤m∧m < (L.length:Int)∧
  w.cell? (a.add (m.toNat * 1))=some (.slice q (atL L m).length d)∧RowAt (BkOwn bb) bb w (.slice q (atL L m).length d) (atL L m).length (prs (atL L m))∧uW P (.slice q (atL L m).length d)):=by
 obtain ⟨p,c,vs,hb,hr,hv⟩:=hB.ex
 refine ⟨p,c,hb,fun ht=>?_⟩
 have hm:0≤m∧m < (L.length:Int):=of_decide_eq_true ht
 have hi:m.toNat < L.length:=by omega
 have ea:L[m.toNat]?=some (atL L m):=by
  unfold atL
  rw [List.getD_eq_getElem?_getD,List.getElem?_eq_getElem hi]
  rfl
 obtain ⟨v,h1,h2,h3⟩:=hv _ _ ea
 obtain ⟨a,ha,hc⟩:=Cs.of_row hr.1 _ _ h1
 obtain ⟨q,d,rfl,g⟩:=h2
 exact ⟨a,q,d,ha,hm.1,hm.2,by rw [Nat.mul_one];exact hc,⟨q,d,rfl,g⟩,h3⟩
theorem oprd_of{own:World→Nat→Prop}{bb:Nat}{x:POp}{pv kv:Value}(hp:RowAt own bb w pv x.pairs.length (prs x.pairs))(hk:RowAt own bb w kv x.keys.length (ints x.keys)):OpRd w x pv kv:=by
 obtain ⟨p,c,e1,h1,h2,h3⟩:=hp
 obtain ⟨q,d,e2,g1,g2,g3⟩:=hk
 exact ⟨⟨p,c,e1,h1,h2,fun a ha hz=>(h3 a ha hz).2.2⟩,⟨q,d,e2,g1,g2,fun a ha hz=>(g3 a ha hz).2.2⟩⟩
theorem aIj{x:POp}(h:mayO x=true):1≤x.op∧x.op≤22:=(uB.1 h).op
theorem aQc{P:Nat→Prop}{bb:Nat}{o:Int}{L:Rows}{x:POp}{pv kv:Value}(hB:BookN P w bb o L)(hx:InO x)(hO:OpRd w x pv kv)(zp:x.pairs.length≤5000)(zk:x.keys.length≤5000)(hd:¬(1≤x.op∧x.op≤22))
  (h:∀w',Ext w w'→R (.returned (.int .i64 (rT o L x))) w') :
  Calls prog 29 #[.pointer (some (blk bb)),opV x pv kv,.agg #[.int .i64 0,.bool false,.bool false,.bool false,.nilFunc]] w R:=by
 have hO0:=hO
 obtain ⟨pp,pc,rfl,hp1,hp2,hp3⟩:=hO0.p
 obtain ⟨kp,kc,rfl,hk1,hk2,hk3⟩:=hO0.k
 refine sh29n_ok ?_
 unfold sh29n
 refine ⟨⟨?_⟩⟩
 have e1:=pQ w (.cells (sA x (.slice pp x.pairs.length pc) (.slice kp x.keys.length kc)) 30)
 have X1:OpAt _ _ x (.slice pp x.pairs.length pc) (.slice kp x.keys.length kc):=pS w (sA x (.slice pp x.pairs.length pc) (.slice kp x.keys.length kc)) 30
 change OpAt (w.alloc (.cells #[_,_,_,_,_,_,_,_,_,_,_,_,_,_,_] 30)) _ _ _ _ at X1
 have e2:=pQ (w.alloc (.cells (sA x (.slice pp x.pairs.length pc) (.slice kp x.keys.length kc)) 30)) (.cells #[.int .i64 0,.bool false,.bool false,.bool false,.nilFunc] 73)
 have X2:=X1.ext e2
 have E2:=e1.trans e2
 have hm:mayO x=false:=by
  cases hm:mayO x with
  | false=>rfl
  | true=>exact absurd (aIj hm) hd
 intro K33
 refine ⟨_,X2.cell (i:=0) rfl rfl,_,X2.cell (i:=1) rfl rfl,_,X2.cell (i:=2) rfl rfl,_,X2.cell (i:=3) rfl rfl,_,X2.cell (i:=4) rfl rfl,_,X2.cell (i:=5) rfl rfl,_,X2.cell (i:=6) rfl rfl,_,X2.cell (i:=7) rfl rfl,_,X2.cell (i:=8) rfl rfl,_,X2.cell (i:=9) rfl rfl,_,X2.cell (i:=10) rfl rfl,_,X2.cell (i:=11) rfl rfl,_,X2.cell (i:=12) rfl rfl,_,_,_,X2.cell (i:=13) rfl rfl,_,_,_,X2.cell (i:=14) rfl rfl,pP call81 (aOk hx (hO.ext E2) zp zk fun w3 e3=>pN ⟨_,rfl,?_⟩)⟩
 rw [if_neg (by rw [hm];decide)]
 have hw:rT o L x=2:=by unfold rT;rw [if_pos hm]
 have:=h w3 (E2.trans e3)
 rw [hw] at this
 exact pZ rfl this
theorem c_pwrong{P:Nat→Prop}{bb f:Nat}{o:Int}{L:Rows}{x:POp}{pv kv:Value}(hB:BookN P w bb o L)(zL:L.length≤5000)(hx:InO x)(hO:OpRd w x pv kv)(zp:x.pairs.length≤5000)(zk:x.keys.length≤5000)
  (h:∀w',Ext w w'→R (.returned (.int .i64 (rT o L x))) w') :
  Calls prog 29 #[.pointer (some (blk bb)),opV x pv kv,kV bb x.op f] w R:=by
 have hO0:=hO
 obtain ⟨pp,pc,rfl,hp1,hp2,hp3⟩:=hO0.p
 obtain ⟨kp,kc,rfl,hk1,hk2,hk3⟩:=hO0.k
 refine sh29_ok ?_
 unfold sh29
 refine ⟨⟨?_⟩⟩
 have e1:=pQ w (.cells (sA x (.slice pp x.pairs.length pc) (.slice kp x.keys.length kc)) 30)
 have X1:OpAt _ _ x (.slice pp x.pairs.length pc) (.slice kp x.keys.length kc):=pS w (sA x (.slice pp x.pairs.length pc) (.slice kp x.keys.length kc)) 30
 change OpAt (w.alloc (.cells #[_,_,_,_,_,_,_,_,_,_,_,_,_,_,_] 30)) _ _ _ _ at X1
 change Ext w (w.alloc (.cells #[_,_,_,_,_,_,_,_,_,_,_,_,_,_,_] 30)) at e1
 generalize w.alloc (.cells #[_,_,_,_,_,_,_,_,_,_,_,_,_,_,_] 30)=w1 at *
 have e2:=pQ w1 (.cells #[.int .i64 (mkN x.op:Nat),.bool (kA x.op),.bool (kB x.op),.bool (kS x.op),.func (.func f) #[.pointer (some (blk bb))] #[]] 73)
 have Kb:=pS w1 #[.int .i64 (mkN x.op:Nat),.bool (kA x.op),.bool (kB x.op),.bool (kS x.op),.func (.func f) #[.pointer (some (blk bb))] #[]] 73
 have X2:=X1.ext e2
 have E2:=e1.trans e2
 generalize w1.alloc (.cells #[.int .i64 (mkN x.op:Nat),.bool (kA x.op),.bool (kB x.op),.bool (kS x.op),.func (.func f) #[.pointer (some (blk bb))] #[]] 73)=w2 at *
 generalize hxb:w.heap.size=xb at *
 generalize hkb:w1.heap.size=kb at *
 intro K33
 refine ⟨_,X2.cell (i:=0) rfl rfl,_,X2.cell (i:=1) rfl rfl,_,X2.cell (i:=2) rfl rfl,_,X2.cell (i:=3) rfl rfl,_,X2.cell (i:=4) rfl rfl,_,X2.cell (i:=5) rfl rfl,_,X2.cell (i:=6) rfl rfl,_,X2.cell (i:=7) rfl rfl,_,X2.cell (i:=8) rfl rfl,_,X2.cell (i:=9) rfl rfl,_,X2.cell (i:=10) rfl rfl,_,X2.cell (i:=11) rfl rfl,_,X2.cell (i:=12) rfl rfl,_,_,_,X2.cell (i:=13) rfl rfl,_,_,_,X2.cell (i:=14) rfl rfl,pP call81 (aOk hx (hO.ext E2) zp zk fun w3 e3=>pN ⟨_,rfl,?_⟩)⟩
 cases hm:mayO x with
 | false=>
  rw [if_neg (by decide)]
  have hw:rT o L x=2:=by unfold rT;rw [if_pos hm]
  have:=h w3 (E2.trans e3)
  rw [hw] at this
  exact pZ rfl this
 | true=>
 rw [if_pos rfl]
 refine pY rfl ?_
 have E3:=E2.trans e3
 have hw:rT o L x=if (kA x.op&&!qM L x.a)=true∨(kB x.op&&!qM L x.b)=true then 3 else if 4096 < L.length+mkN x.op then 4 else if x.op=17∧(x.n < 0∨((atL L x.a).length:Int)≤x.n) then 320 else if kS x.op=true∧cmpI o x.hi x.lo < 0 then 330 else 0:=by
  unfold rT;rw [if_neg (by rw [hm];decide)]
 rw [hw] at h
 have X3:=X2.ext e3
 have Kb3:=Kb.ext e3
 have B3:=hB.ext E3
 intro K58 K98
 have hmk:mkN x.op≤2:=by unfold mkN;split <;> (try split) <;> omega
 have h3:∀w',Ext w3 w'→((kA x.op&&!qM L x.a)=true∨(kB x.op&&!qM L x.b)=true)→R (.returned (.int .i64 3)) w':=fun w' e hh=>by
  have:=h w' (E3.trans e)
  rw [if_pos hh] at this
  exact this
 have h58:∀w' (e:Ext w3 w') (bv:Bool),(kA x.op&&!qM L x.a)=false→bv=(kB x.op&&!qM L x.b)→K58 bv w':=fun w4 e4 bv hA hb=>by
  cases bv with
  | true=>
   simp -zeta -zetaHave only [K58]
   exact pZ rfl (h3 w4 e4 (.inr hb.symm))
  | false=>
  simp -zeta -zetaHave only [K58]
  refine pY rfl ⟨?_⟩
  have E4:=e4.trans (pT w4)
  obtain ⟨p,c,hb4,hix⟩:=(B3.ext E4).ix (m:=x.a)
  have X4:=X3.ext E4
  have Kb4:=Kb3.ext E4
  have hr:∀w',Ext w4.drew w'→R (.returned (.int .i64 (if 4096 < L.length+mkN x.op then 4 else if x.op=17∧(x.n < 0∨((atL L x.a).length:Int)≤x.n) then 320 else if kS x.op=true∧cmpI o x.hi x.lo < 0 then 330 else 0))) w':=fun w' e=>by
   have:=h w' (E3.trans (E4.trans e))
   rw [if_neg (by rw [hA,←hb];decide)] at this
   exact this
  generalize w4.drew=w5 at *
  refine ⟨fun w'=>Ext w5 w',pR _,_,rfl,_,_,_,fun w' e'=>(hb4.ext e').cell (i:=1) rfl rfl,_,fun w' e'=>(Kb4.ext e').cell (i:=0) rfl rfl,?_⟩
  rw [qB (by omega) (by omega)]
  refine pO (fun z=>?_) fun z=>?_
  ·have z:4096 < L.length+mkN x.op:=by have:=of_decide_eq_true z;omega
   have:=hr w5 (pR _)
   rw [if_pos z] at this
   exact this
  ·have z:¬4096 < L.length+mkN x.op:=by have:=of_decide_eq_false z;omega
   rw [if_neg z] at hr
   intro K68
   have h68:∀w' (e:Ext w5 w') (bv:Bool),bv=decide (x.op=17∧(x.n < 0∨((atL L x.a).length:Int)≤x.n))→K68 bv w':=fun w6 e6 bv hb=>by
    cases bv with
    | true=>
     simp -zeta -zetaHave only [K68]
     have:=hr w6 e6
     rw [if_pos (of_decide_eq_true hb.symm)] at this
     exact pZ rfl this
    | false=>
    simp -zeta -zetaHave only [K68]
    rw [if_neg (of_decide_eq_false hb.symm)] at hr
    refine pY rfl ?_
    intro K71
    refine ⟨?_⟩
    have E6:=e6.trans (pT w6)
    generalize w6.drew=w7 at *
    refine ⟨fun w'=>Ext w7 w',pR _,_,fun w' e'=>((Kb4.ext E6).ext e').cell (i:=3) rfl rfl,?_⟩
    refine pO (fun z=>?_) fun z=>?_
    ·refine ⟨_,rfl,o,fun w' e'=>((hb4.ext E6).ext e').cell (i:=0) rfl rfl,_,fun w' e'=>((X4.ext E6).ext e').cell (i:=6) rfl rfl,_,fun w' e'=>((X4.ext E6).ext e').cell (i:=5) rfl rfl,?_⟩
     refine pP call54 (vK hx.hi hx.lo fun w8 e8=>pN ⟨_,rfl,e8,?_⟩)
     have:=hr w8 (E6.trans e8)
     cases hc:decide (cmpI o x.hi x.lo < 0) with
     | true=>
      rw [if_pos ⟨z,of_decide_eq_true hc⟩] at this
      simp -zeta -zetaHave only [K71]
      exact pZ rfl this
     | false=>
      rw [if_neg (fun hh=>of_decide_eq_false hc hh.2)] at this
      simp -zeta -zetaHave only [K71]
      exact pY rfl this
    ·have:=hr w7 E6
     rw [if_neg (fun hh=>by rw [hh.1] at z;cases z)] at this
     exact this
   refine ⟨?_⟩
   have d5:=pT w5
   generalize w5.drew=w6 at *
   refine ⟨fun w'=>Ext w6 w',pR _,_,fun w' e'=>((X4.ext d5).ext e').cell (i:=0) rfl rfl,?_⟩
   refine pO (fun h17=>?_) fun h17=>?_
   ·have h17:x.op=17:=by simpa using h17
    refine ⟨_,fun w' e'=>((X4.ext d5).ext e').cell (i:=7) rfl rfl,?_⟩
    refine pO (fun hn=>?_) fun hn=>?_
    ·have hn:x.n < 0:=of_decide_eq_true hn
     have:=hr w6 d5
     rw [if_pos ⟨h17,.inl hn⟩] at this
     exact this
    ·have hn:¬x.n < 0:=of_decide_eq_false hn
     have ht:qM L x.a=true:=by
      have:kA x.op=true:=by rw [h17];rfl
      rw [this] at hA
      simpa using hA
     obtain ⟨a,q,d,ha,hm0,hm1,hcell,hrow,_⟩:=hix ht
     refine ⟨_,fun w' e'=>((X4.ext d5).ext e').cell (i:=7) rfl rfl,_,rfl,_,_,_,fun w' e'=>((hb4.ext d5).ext e').cell (i:=1) rfl rfl,_,fun w' e'=>((X4.ext d5).ext e').cell (i:=1) rfl rfl,a,ha,hm0,hm1,_,_,_,fun w' e'=>(d5.trans e').cell hcell,?_⟩
     refine h68 _ d5 _ ?_
     rw [decide_eq_decide]
     constructor
     ·intro hh;exact ⟨h17,.inr hh⟩
     ·rintro ⟨_,hh | hh⟩
      ·exact absurd hh hn
      ·exact hh
   ·have h17:¬x.op=17:=by simpa using h17
    exact h68 _ d5 false (decide_eq_false fun hh=>h17 hh.1).symm
 have hB58:∀w' (e:Ext w3 w'),(kA x.op&&!qM L x.a)=false→∃(y:Bool),World.cell? w' ((blk kb).add 2)=some (.bool y)∧(ifB y (∃(z:Int),World.cell? w' ((blk xb).add 2)=some (.int .i64 z)∧(doCall prog (.func (.func 26) #[] #[]) #[.pointer (some (blk bb)),.int .i64 z] w' (retS (fun v w=>∃(u:Bool),v=(.bool u:Value)∧(K58 (!u) w)) (fun ch w=>Kfn R ch [] w)))) (K58 false w')):=fun w4 e4 hA=>by
  refine ⟨_,(Kb3.ext e4).cell (i:=2) rfl rfl,pO (fun z=>?_) fun z=>?_⟩
  ·refine ⟨_,(X3.ext e4).cell (i:=2) rfl rfl,pP call26 (yQ (B3.ext e4) (pN ⟨_,rfl,h58 w4 e4 _ hA ?_⟩))⟩
   rw [z,Bool.true_and]
  ·refine h58 w4 e4 _ hA ?_
   rw [z,Bool.false_and]
 refine ⟨_,Kb3.cell (i:=1) rfl rfl,pO (fun z=>?_) fun z=>?_⟩
 ·refine ⟨_,X3.cell (i:=1) rfl rfl,pP call26 (yQ B3 (pN ⟨_,rfl,?_⟩))⟩
  cases ht:qM L x.a with
  | false=>
   simp -zeta -zetaHave only [K98]
   exact pZ rfl (h3 w3 (pR _) (.inl (by rw [z,ht];rfl)))
  | true=>
   simp -zeta -zetaHave only [K98]
   exact pY rfl (hB58 w3 (pR _) (by rw [z,ht];rfl))
 ·exact hB58 w3 (pR _) (by rw [z];rfl)
theorem may_a{x:POp}(h:mayO x=true)(hk:kA x.op=false):x.a=0:=by
 have M:=uB.1 h
 have ho:=M.op
 have h8:x.op=8:=by
  have:=of_decide_eq_false hk
  omega
 have:=M.masked .a (by rw [h8];decide)
 simpa [qK,POp.zero,eq_comm] using this
theorem may_b{x:POp}(h:mayO x=true)(hk:kB x.op=false):x.b=0:=by
 have M:=uB.1 h
 have ho:=M.op
 have hc:x.op=1∨x.op=2∨x.op=3∨x.op=4∨x.op=5∨x.op=6∨x.op=7∨x.op=8∨x.op=13∨x.op=14∨x.op=15∨x.op=16∨x.op=17∨x.op=18∨x.op=19∨x.op=20∨x.op=21∨x.op=22:=by
  have:=of_decide_eq_false hk
  omega
 have:=M.masked .b (by rcases hc with e | e | e | e | e | e | e | e | e | e | e | e | e | e | e | e | e | e <;> rw [e] <;> decide)
 simpa [qK,POp.zero,eq_comm] using this
theorem aEc{o:Int}{L:Rows}{x:POp}(h:rT o L x=0)(hL:0 < L.length):mayO x=true∧qM L x.a=true∧qM L x.b=true∧(x.op=17→0≤x.n∧x.n < ((atL L x.a).length:Int))∧L.length+mkN x.op≤4096:=by
 unfold rT at h
 by_cases hm:mayO x=false
 ·rw [if_pos hm] at h;cases h
 rw [if_neg hm] at h
 have hm:mayO x=true:=by cases h:mayO x with
  | true=>rfl
  | false=>exact absurd h hm
 by_cases h3:(kA x.op&&!qM L x.a)=true∨(kB x.op&&!qM L x.b)=true
 ·rw [if_pos h3] at h;cases h
 rw [if_neg h3] at h
 by_cases h4:4096 < L.length+mkN x.op
 ·rw [if_pos h4] at h;cases h
 rw [if_neg h4] at h
 by_cases h5:x.op=17∧(x.n < 0∨((atL L x.a).length:Int)≤x.n)
 ·rw [if_pos h5] at h;cases h
 have t0:qM L 0=true:=decide_eq_true ⟨Int.le_refl _,by omega⟩
 refine ⟨hm,?_,?_,fun hop=>?_,by omega⟩
 ·cases ha:kA x.op with
  | false=>rw [may_a hm ha];exact t0
  | true=>
   cases ht:qM L x.a with
   | true=>rfl
   | false=>exact absurd (.inl (by rw [ha,ht];rfl)) h3
 ·cases ha:kB x.op with
  | false=>rw [may_b hm ha];exact t0
  | true=>
   cases ht:qM L x.b with
   | true=>rfl
   | false=>exact absurd (.inr (by rw [ha,ht];rfl)) h3
 ·constructor
  ·have:¬x.n < 0:=fun hh=>h5 ⟨hop,.inl hh⟩
   omega
  ·have:¬((atL L x.a).length:Int)≤x.n:=fun hh=>h5 ⟨hop,.inr hh⟩
   omega
theorem c_pdo{P:Nat→Prop}{bb:Nat}{o:Int}{L:Rows}{x:POp}{pv kv:Value}(ho:isO o=true)(hB:BookN P w bb o L)(hP:∀k,w.heap.size≤k→P k)(hL:0 < L.length)(zL:L.length≤4500)(hI:∀m,InP (atL L m))(hz:∀m,(atL L m).length≤5000)(hx:InO x)
  (rp:RowAt (BkOwn bb) bb w pv x.pairs.length (prs x.pairs)) (rk:RowAt (BkOwn bb) bb w kv x.keys.length (ints x.keys)) (zp:x.pairs.length≤5000) (zk:x.keys.length≤5000)
  (h:∀v w',RepAt w.heap.size bb w' v (doP o L x).1→BookN P w' bb o (doP o L x).2→Chg (BkOwn bb) (fun _=>False) w w'→R (.returned v) w') :
  Calls prog 12 #[.pointer (some (blk bb)),opV x pv kv] w R:=by
 have rp0:=rp
 have rk0:=rk
 obtain ⟨pp,pc,rfl,hp1,hp2,hp3⟩:=rp0
 obtain ⟨kp,kc,rfl,hk1,hk2,hk3⟩:=rk0
 refine aNd ?_
 unfold sh12
 refine mid0 x (.slice pp x.pairs.length pc) (.slice kp x.keys.length kc) hB fun xb rb w2 M=>?_
 have B0:=hB
 refine pY rfl ?_
 intro K45
 have h45:∀(w4:World) (kb:Nat) (kv:Value) (w3:World),Ext w2 w4→w2.heap.size≤kb→kb < w4.heap.size→
   ((∃f,Blk w4 kb #[.int .i64 (mkN x.op:Nat),.bool (kA x.op),.bool (kB x.op),.bool (kS x.op),.func (.func f) #[.pointer (some (blk bb))] #[]] 73∧Does bb x.op f)∨(¬(1≤x.op∧x.op≤22)∧Blk w4 kb #[.int .i64 0,.bool false,.bool false,.bool false,.nilFunc] 73))→K45 (blk kb) w4:=fun w4 kb kv w3 e4 hkb hkb2 hK=>by
  simp -zeta -zetaHave only [K45]
  intro K48
  have M4:=M.ext e4
  have h48:∀w',Ext w4 w'→K48 (rT o L x) w':=fun w5 e5=>by
   have M5:=M4.ext e5
   simp -zeta -zetaHave only [K48]
   refine pO (fun hne=>?_) fun heq=>?_
   ·have hne:¬rT o L x=0:=by simpa using hne
    have ed:doP o L x=({ Rep.zero with err:=rT o L x },L):=by unfold doP;rw [if_neg hne]
    rw [ed] at h
    exact ep7 M5.Y fun w' g=>M5.done B0 (v:=rep0 { Rep.zero with err:=rT o L x }) (uQ rfl rfl) g h
   ·have heq:rT o L x=0:=by simpa using heq
    have ed:doP o L x=actP o L x (atL L x.a) (atL L x.b):=by unfold doP;rw [if_pos heq]
    rw [ed] at h
    obtain ⟨hm,hta,htb,hn17,h4096⟩:=aEc heq hL
    intro K68
    refine ⟨?_⟩
    have e6:=pT w5
    have M6:=M5.ext e6
    have E6:=(e5.trans e6)
    generalize w5.drew=w6 at *
    rcases hK with ⟨f,hKb,hdo⟩ | ⟨hno,_⟩
    ·have hKb6:=hKb.ext E6
     obtain ⟨p,c,hb6,hia⟩:=M6.B.ix (m:=x.a)
     obtain ⟨p',c',hb6',hib⟩:=M6.B.ix (m:=x.b)
     obtain ⟨a,qa,da,ha,ha0,ha1,hca,hra,hpa⟩:=hia hta
     obtain ⟨b,qb,db,hbe,hb0,hb1,hcb,hrb,hpb⟩:=hib htb
     have rp6:=rp.ext' hB M6.E
     have rk6:=rk.ext' hB M6.E
     have lX:=M6.X.lt
     have lY:=M6.Y.lt
     refine ⟨fun w'=>Ext w6 w',pR _,.inl ⟨_,_,_,fun w' e'=>(hKb6.ext e').cell (i:=4) rfl rfl,_,fun w' e'=>(M6.X.ext e').cell (i:=0) rfl rfl,_,fun w' e'=>(M6.X.ext e').cell (i:=1) rfl rfl,_,fun w' e'=>(M6.X.ext e').cell (i:=2) rfl rfl,_,fun w' e'=>(M6.X.ext e').cell (i:=3) rfl rfl,_,fun w' e'=>(M6.X.ext e').cell (i:=4) rfl rfl,_,fun w' e'=>(M6.X.ext e').cell (i:=5) rfl rfl,_,fun w' e'=>(M6.X.ext e').cell (i:=6) rfl rfl,_,fun w' e'=>(M6.X.ext e').cell (i:=7) rfl rfl,_,fun w' e'=>(M6.X.ext e').cell (i:=8) rfl rfl,_,fun w' e'=>(M6.X.ext e').cell (i:=9) rfl rfl,_,fun w' e'=>(M6.X.ext e').cell (i:=10) rfl rfl,_,fun w' e'=>(M6.X.ext e').cell (i:=11) rfl rfl,_,fun w' e'=>(M6.X.ext e').cell (i:=12) rfl rfl,_,_,_,fun w' e'=>(M6.X.ext e').cell (i:=13) rfl rfl,_,_,_,fun w' e'=>(M6.X.ext e').cell (i:=14) rfl rfl,_,rfl,_,_,_,fun w' e'=>(hb6.ext e').cell (i:=1) rfl rfl,_,fun w' e'=>(M6.X.ext e').cell (i:=1) rfl rfl,a,ha,ha0,ha1,_,_,_,fun w' e'=>e'.cell hca,_,rfl,_,_,_,fun w' e'=>(hb6'.ext e').cell (i:=1) rfl rfl,_,fun w' e'=>(M6.X.ext e').cell (i:=2) rfl rfl,b,hbe,hb0,hb1,_,_,_,fun w' e'=>e'.cell hcb,?_⟩⟩
     refine hdo (fun k=>P k∧k≠xb∧k≠rb) o L x (atL L x.a) (atL L x.b) (.slice pp x.pairs.length pc) (.slice kp x.keys.length kc) _ _ w6 _ ⟨M6.B,fun k hk=>⟨hP k (Nat.le_trans M6.E.size hk),by omega,by omega⟩,zL,hx,rp6,rk6,zp,zk,hra,hrb,hI _,hI _,hz _,hz _⟩ rfl ho hn17 fun v w7 hR hB7 hC7=>pN ?_
     exact aBm hR hB7 ((B0.chg M6.E).trans hC7) (hC7.blk M6.Y M6.ny fun h=>h) lY M6.lr (fun hp=>hp.2.2 rfl) (hC7.out _ lY M6.ny) fun v w' r b k=>h v w' (r.mono M6.lr) (b.up fun _ h=>h.1) k
    ·exact absurd (aIj hm) hno
  have hO4:OpRd w4 x (.slice pp x.pairs.length pc) (.slice kp x.keys.length kc):=(oprd_of rp rk).ext M4.E
  refine ⟨_,M4.X.cell (i:=0) rfl rfl,_,M4.X.cell (i:=1) rfl rfl,_,M4.X.cell (i:=2) rfl rfl,_,M4.X.cell (i:=3) rfl rfl,_,M4.X.cell (i:=4) rfl rfl,_,M4.X.cell (i:=5) rfl rfl,_,M4.X.cell (i:=6) rfl rfl,_,M4.X.cell (i:=7) rfl rfl,_,M4.X.cell (i:=8) rfl rfl,_,M4.X.cell (i:=9) rfl rfl,_,M4.X.cell (i:=10) rfl rfl,_,M4.X.cell (i:=11) rfl rfl,_,M4.X.cell (i:=12) rfl rfl,_,_,_,M4.X.cell (i:=13) rfl rfl,_,_,_,M4.X.cell (i:=14) rfl rfl,?_⟩
  rcases hK with ⟨f,hKb,hdo⟩ | ⟨hno,hKb⟩
  ·exact ⟨_,hKb.cell (i:=0) rfl rfl,_,hKb.cell (i:=1) rfl rfl,_,hKb.cell (i:=2) rfl rfl,_,hKb.cell (i:=3) rfl rfl,.inl ⟨_,_,_,hKb.cell (i:=4) rfl rfl,pP call29 (c_pwrong M4.B (by omega) hx hO4 zp zk fun w5 e5=>pN ⟨_,rfl,h48 w5 e5⟩)⟩⟩
  ·exact ⟨_,hKb.cell (i:=0) rfl rfl,_,hKb.cell (i:=1) rfl rfl,_,hKb.cell (i:=2) rfl rfl,_,hKb.cell (i:=3) rfl rfl,.inr ⟨hKb.cell (i:=4) rfl rfl,pP call29 (aQc M4.B hx hO4 zp zk hno fun w5 e5=>pN ⟨_,rfl,h48 w5 e5⟩)⟩⟩
 refine ⟨?_⟩
 have d2:=pT w2
 have M2:=M.ext d2
 have d2s:=d2.size
 have hhit:∀(v0:World) (kb f:Nat),Blk v0 kb #[.int .i64 0,.bool false,.bool false,.bool false,.nilFunc] 73→Ext w2.drew v0→w2.drew.heap.size≤kb→Does bb x.op f→(doSt ((blk kb).add 0) (.int .i64 (mkN x.op:Nat)) v0 fun u1=>doSt ((blk kb).add 1) (.bool (kA x.op)) u1 fun u2=>doSt ((blk kb).add 2) (.bool (kB x.op)) u2 fun u3=>doSt ((blk kb).add 3) (.bool (kS x.op)) u3 fun u4=>doSt ((blk kb).add 4) (.func (.func f) #[.pointer (some (blk bb))] #[]) u4 fun u5=>K45 (blk kb) u5):=fun v0 kb f K0 E lk hdo=>by
  refine qA K0 (i:=0) rfl (by simp) fun v1 K1 k1=>?_
  have K1:Blk v1 kb #[.int .i64 (mkN x.op:Nat),.bool false,.bool false,.bool false,.nilFunc] 73:=K1
  refine qA K1 (i:=1) rfl (by simp) fun v2 K2 k2=>?_
  have K2:Blk v2 kb #[.int .i64 (mkN x.op:Nat),.bool (kA x.op),.bool false,.bool false,.nilFunc] 73:=K2
  refine qA K2 (i:=2) rfl (by simp) fun v3 K3 k3=>?_
  have K3:Blk v3 kb #[.int .i64 (mkN x.op:Nat),.bool (kA x.op),.bool (kB x.op),.bool false,.nilFunc] 73:=K3
  refine qA K3 (i:=3) rfl (by simp) fun v4 K4 k4=>?_
  have K4:Blk v4 kb #[.int .i64 (mkN x.op:Nat),.bool (kA x.op),.bool (kB x.op),.bool (kS x.op),.nilFunc] 73:=K4
  refine qA K4 (i:=4) rfl (by simp) fun v5 K5 k5=>?_
  have K5:Blk v5 kb #[.int .i64 (mkN x.op:Nat),.bool (kA x.op),.bool (kB x.op),.bool (kS x.op),.func (.func f) #[.pointer (some (blk bb))] #[]] 73:=K5
  exact h45 v5 kb .nilFunc w2 (d2.trans (((((E.st k1 lk).st k2 lk).st k3 lk).st k4 lk).st k5 lk)) (Nat.le_trans d2s lk) K5.lt (.inl ⟨f,K5,hdo⟩)
 have hmiss:∀(v0:World) (kb:Nat),Blk v0 kb #[.int .i64 0,.bool false,.bool false,.bool false,.nilFunc] 73→Ext w2.drew v0→w2.drew.heap.size≤kb→¬(1≤x.op∧x.op≤22)→(doSt ((blk kb).add 0) (.int .i64 0) v0 fun u1=>doSt ((blk kb).add 1) (.bool false) u1 fun u2=>doSt ((blk kb).add 2) (.bool false) u2 fun u3=>doSt ((blk kb).add 3) (.bool false) u3 fun u4=>doSt ((blk kb).add 4) (.nilFunc) u4 fun u5=>K45 (blk kb) u5):=fun v0 kb K0 E lk hd=>by
  refine qA K0 (i:=0) rfl (by simp) fun v1 K1 k1=>?_
  have K1:Blk v1 kb #[.int .i64 0,.bool false,.bool false,.bool false,.nilFunc] 73:=K1
  refine qA K1 (i:=1) rfl (by simp) fun v2 K2 k2=>?_
  have K2:Blk v2 kb #[.int .i64 0,.bool false,.bool false,.bool false,.nilFunc] 73:=K2
  refine qA K2 (i:=2) rfl (by simp) fun v3 K3 k3=>?_
  have K3:Blk v3 kb #[.int .i64 0,.bool false,.bool false,.bool false,.nilFunc] 73:=K3
  refine qA K3 (i:=3) rfl (by simp) fun v4 K4 k4=>?_
  have K4:Blk v4 kb #[.int .i64 0,.bool false,.bool false,.bool false,.nilFunc] 73:=K4
  refine qA K4 (i:=4) rfl (by simp) fun v5 K5 k5=>?_
  have K5:Blk v5 kb #[.int .i64 0,.bool false,.bool false,.bool false,.nilFunc] 73:=K5
  exact h45 v5 kb .nilFunc w2 (d2.trans (((((E.st k1 lk).st k2 lk).st k3 lk).st k4 lk).st k5 lk)) (Nat.le_trans d2s lk) K5.lt (.inr ⟨hd,K5⟩)
 have hlk:∀(v:World) (m:Nat) (S:Value→Prop),v.heap[m]?=some (.map (aEs bb) 22)→(∀f,Does bb x.op f→S (kV bb x.op f))→(¬(1≤x.op∧x.op≤22)→S (.agg #[.int .i64 0,.bool false,.bool false,.bool false,.nilFunc]))→doLk prog 74 (.map (some m)) (.int .u8 x.op) false v S:=fun v m S hm h1 h2=>by
  by_cases hd:1≤x.op∧x.op≤22
  ·obtain ⟨i,f,hf,hdo⟩:=aPt (bb:=bb) hd
   exact aBd underlying74 underlying5 hm (by rfl) hf (h1 f hdo)
  ·exact aDn underlying74 underlying5 hm (by rfl) (aFj hd) (z:=.agg #[.int .i64 0,.bool false,.bool false,.bool false,.nilFunc]) (by kernel_rfl) (h2 hd)
 refine ⟨fun w'=>Ext w2.drew w',pR _,_,fun w' e'=>(M2.X.ext e').cell (i:=0) rfl rfl,?_,?_⟩
 ·refine pP call28 (aKv fun m w3 e3 hm hml=>pN ⟨_,rfl,e3,?_,?_⟩)
  ·refine hlk w3 m _ hm (fun f hdo=>.inl ⟨_,_,_,_,_,_,_,rfl,⟨?_⟩⟩) (fun hd=>.inr ⟨rfl,⟨?_⟩⟩)
   ·exact ⟨e3.trans (pQ _ _),hhit _ _ f (pS w3 _ _) (e3.trans (pQ _ _)) e3.size hdo⟩
   ·exact ⟨e3.trans (pQ _ _),hmiss _ _ (pS w3 _ _) (e3.trans (pQ _ _)) e3.size hd⟩
  ·refine ⟨⟨e3.trans (pQ _ _),?_⟩⟩
   have e4:=pQ w3 (.cells #[.int .i64 0,.bool false,.bool false,.bool false,.nilFunc] 73)
   refine hlk _ m _ ((e4.block m (Array.getElem?_eq_some_iff.1 hm).1).trans hm) (fun f hdo=>.inl ⟨_,_,_,_,_,_,_,rfl,?_⟩) (fun hd=>.inr ⟨rfl,?_⟩)
   ·exact hhit _ _ f (pS w3 _ _) (e3.trans e4) e3.size hdo
   ·exact hmiss _ _ (pS w3 _ _) (e3.trans e4) e3.size hd
 ·refine ⟨⟨pQ _ _,?_⟩⟩
  have e4:=pQ w2.drew (.cells #[.int .i64 0,.bool false,.bool false,.bool false,.nilFunc] 73)
  refine pP call28 (aKv fun m w3 e3 hm hml=>pN ⟨_,rfl,e4.trans e3,?_⟩)
  refine hlk w3 m _ hm (fun f hdo=>.inl ⟨_,_,_,_,_,_,_,rfl,?_⟩) (fun hd=>.inr ⟨rfl,?_⟩)
  ·exact hhit _ _ f ((pS w2.drew _ _).ext e3) (e4.trans e3) (Nat.le_refl _) hdo
  ·exact hmiss _ _ ((pS w2.drew _ _).ext e3) (e4.trans e3) (Nat.le_refl _) hd
theorem c_plen{P:Nat→Prop}{bb:Nat}{o:Int}{L:Rows}(hB:BookN P w bb o L)(h:R (.returned (.int .i64 L.length)) w):Calls prog 14 #[.pointer (some (blk bb))] w R:=by
 refine aNa ?_
 unfold sh14
 obtain ⟨p,c,vs,hb,_⟩:=hB.ex
 exact pY rfl ⟨_,rfl,_,_,_,hb.cell (i:=1) rfl rfl,h⟩
theorem c_prow{P:Nat→Prop}{bb:Nat}{o m:Int}{L:Rows}(hB:BookN P w bb o L)(hz:(atL L m).length≤5000)(h0:qM L m=false→R (.returned (.tuple #[.slice none 0 0,.bool false])) w)
  (h1:∀p n c w',qM L m=true→OwnP w' w.heap.size p n c (atL L m)→Ext w w'→R (.returned (.tuple #[.slice p n c,.bool true])) w'):Calls prog 11 #[.pointer (some (blk bb)),.int .i64 m] w R:=by
 refine aNe ?_
 unfold sh11
 intro K5
 refine pY rfl (pP call26 (yQ hB (pN ⟨_,rfl,?_⟩)))
 cases ht:qM L m with
 | false=>
  simp -zeta -zetaHave only [K5]
  exact pZ rfl (h0 ht)
 | true=>
  obtain ⟨p,c,hb,hix⟩:=hB.ix (m:=m)
  obtain ⟨a,q,d,ha,hm0,hm1,hcell,⟨q',d',e,hn,hcs,hq⟩,_⟩:=hix ht
  injection e with e1 e2 e3
  subst e1 e3
  simp -zeta -zetaHave only [K5]
  refine pY rfl ⟨_,rfl,_,_,_,hb.cell (i:=1) rfl rfl,a,ha,hm0,hm1,_,_,_,hcell,?_⟩
  exact pP call27 (yR hcs rfl (by omega) fun p c w' g e=>pN ⟨_,_,_,rfl,h1 _ _ _ _ ht g e⟩)
theorem aMm{o:Int}(h0:∀w',Ext w w'→isO o=false→R (.returned (.tuple #[.pointer none,.int .i64 2])) w')
  (h1:∀bb w',isO o=true→BookAt w' bb o [[]]→Ext w w'→(∀k,BkOwn bb w' k→w.heap.size≤k)→R (.returned (.tuple #[.pointer (some (blk bb)),.int .i64 0])) w'):Calls prog 16 #[.int .u8 o] w R:=by
 refine sh16_ok ?_
 unfold sh16
 refine pP call30 (aMn fun w1 e1=>pN ⟨_,rfl,?_⟩)
 rw [aAy]
 cases ho:isO o with
 | false=>exact pZ rfl (h0 _ e1 ho)
 | true=>
 refine pY rfl ?_
 obtain ⟨i,hi,hz,hsz,hby⟩:=elV.hi
 obtain ⟨w2,hr,hro,hg⟩:=run_makeSlice_full (P:=prog) (w:=w1) w1.heap.size 55 22 i _ 1 elV.ht hi hz hsz .i64 .i64 1 (by omega) (by rw [hby];omega) (by simp [maxLen]) (Nat.le_refl _)
 refine ⟨_,_,_,w2,hr,⟨?_⟩⟩
 have e2:Ext w1 w2:=(pR w1).grown hg (by intro k hk;cases hk)
 have em:(madeCells (Value.slice none 0 0).cells (1 * 1)).toList=[.slice none 0 0]:=by first | kernel_rfl | simp [madeCells,Value.cells]
 rw [em] at hro
 have hlt:=hro.lt w1.heap.size rfl
 have e3:=pQ w2 (.cells #[.int .u8 o,.slice (some ⟨w1.heap.size,0,none⟩) 1 1] 70)
 have hb:=pS w2 #[.int .u8 o,.slice (some ⟨w1.heap.size,0,none⟩) 1 1] 70
 have ho3:=e3.row hro
 generalize w2.alloc (.cells #[.int .u8 o,.slice (some ⟨w1.heap.size,0,none⟩) 1 1] 70)=w3 at *
 have e1s:=e1.size
 have E:=(e1.trans e2).trans e3
 refine h1 _ w3 ho ⟨_,_,[.slice none 0 0],hb,⟨⟨ho3.1,?_⟩,fun e=>by have e:w1.heap.size=w2.heap.size:=Option.some.inj e;omega⟩,fun i l hl=>?_⟩ E fun k hk=>?_
 ·rcases ho3.2 with ⟨hv,_⟩ | ⟨g,cap,cur,hv,hb0,hgg,rest⟩
  ·cases hv
  ·exact .inr ⟨g,cap,cur,hv,Nat.zero_le _,hgg,rest⟩
 ·match i,hl with
  | 0,hl=>
   obtain rfl:[]=l:=by simpa using hl
   exact ⟨_,rfl,rP _ _ _,fun a n c e _=>by cases e⟩
  | i+1,hl=>simp at hl
 ·rcases (tP hb k).1 hk with rfl | hk
  ·omega
  ·have hk:w1.heap.size=k:=Option.some.inj hk
   omega
abbrev Ent:=Rep × Value × Value
def entC(e:Ent):List Value:=[.int .i64 e.1.err,.bool e.1.is,.int .i64 e.1.key,.int .i64 e.1.val,.int .i64 e.1.n,e.2.1,e.2.2]
abbrev OpE:=POp × Value × Value
def opC(e:OpE):List Value:=(sA e.1 e.2.1 e.2.2).toList
theorem elR:ElT prog 24 34 (.agg #[.int .i64 0,.bool false,.int .i64 0,.int .i64 0,.int .i64 0,.slice none 0 0,.slice none 0 0]) 7 88:=⟨underlying24,⟨_,type34,by kernel_rfl,by kernel_rfl,by kernel_rfl⟩,rfl,by omega⟩
theorem aIp(o:Int)(L:Rows)(x:POp):L.length≤(doP o L x).2.length∧(doP o L x).2.length≤L.length+2:=by
 unfold doP
 split
 ·unfold actP
  split <;> simp only [sT,countP,List.length_append,List.length_cons,List.length_nil] <;> omega
 ·exact ⟨Nat.le_refl _,Nat.le_add_right _ _⟩
theorem RowAt.gro{own:World→Nat→Prop}{bb:Nat}{w w':World}{v:Value}{n:Nat}{xs:List Value}{r:Option Nat}(h:RowAt own bb w v n xs)(g:w.grownBy w' r)(hr:∀a n c,v=.slice (some a) n c→xs≠[]→r≠some a.block)(ho:∀k,own w' k→own w k):RowAt own bb w' v n xs:=by
 obtain ⟨q,c,rfl,h1,h2,h3⟩:=h
 refine ⟨q,c,rfl,h1,fun i u hu=>?_,fun a ha hz=>⟨fun hk=>(h3 a ha hz).1 (ho _ hk),(h3 a ha hz).2.1,Nat.lt_of_lt_of_le (h3 a ha hz).2.2 g.size⟩⟩
 obtain ⟨a,ha,hc⟩:=h2 i u hu
 refine ⟨a,ha,?_⟩
 rw [World.cell?_of_block (g.block _ (World.block_lt_of_cell? _ _ hc) fun e=>hr a n c (by rw [ha]) (by rintro rfl;simp at hu) (by rw [qV] at e;exact e.symm))]
 exact hc
structure RunI (bb:Nat) (o:Int) (KK:List Int) (xs:List POp) (Es:List Ent) (L:Rows) (p:OA) (k c:Nat) (w0 w:World):Prop where
 B:BookN (fun j=>(Value.slice p k c).ownBlock≠some j) w bb o L
 ok:OkL o KK L
 l0:0 < L.length
 l1:L.length≤1+2 * k
 row:w.ownsRow w0.heap.size 34 7 (.slice p k c) k (Es.flatMap entC)
 no:∀j,(Value.slice p k c).ownBlock=some j→¬BkOwn bb w j
 rows:∀e∈Es,RowAt (BkOwn bb) bb w e.2.1 e.1.new.length (ints e.1.new)∧RowAt (BkOwn bb) bb w e.2.2 e.1.pairs.length (prs e.1.pairs)∧(∀a n d,e.2.1=.slice (some a) n d→ints e.1.new≠[]→(Value.slice p k c).ownBlock≠some a.block)∧∀a n d,e.2.2=.slice (some a) n d→prs e.1.pairs≠[]→(Value.slice p k c).ownBlock≠some a.block
 run:Es.map (·.1)++runP o L (xs.drop k)=runP o [[]] xs
 E:Ext w0 w
 hi:∀j,BkOwn bb w j→w0.heap.size≤j
theorem RunI.ext{bb:Nat}{o:Int}{KK:List Int}{xs:List POp}{Es:List Ent}{L:Rows}{p:OA}{k c:Nat}{w0 w w':World}(I:RunI bb o KK xs Es L p k c w0 w)(e:Ext w w'):RunI bb o KK xs Es L p k c w0 w':=
 ⟨I.B.ext e,I.ok,I.l0,I.l1,e.row I.row,fun j hj hk=>I.no j hj ((I.B.own_ext e j).1 hk),fun x hx=>⟨(I.rows x hx).1.ext' I.B e,(I.rows x hx).2.1.ext' I.B e,(I.rows x hx).2.2⟩,I.run,I.E.trans e,fun j hj=>I.hi j ((I.B.own_ext e j).1 hj)⟩
theorem RunI.step{bb:Nat}{o:Int}{KK:List Int}{xs:List POp}{Es:List Ent}{L L':Rows}{p p':OA}{k c c':Nat}{w0 w4 w5 w6 w7:World}{x:POp}{r:Rep}{nv pv:Value}(I:RunI bb o KK xs Es L p k c w0 w4)(hk:k < xs.length)(hx:xs[k]=x)
  (hd:doP o L x=(r,L')) (hok:OkL o KK L') (hB5:BookN (fun j=>(Value.slice p k c).ownBlock≠some j) w5 bb o L') (hC:Chg (BkOwn bb) (fun _=>False) w4 w5) (h1:RowAt (BkOwn bb) bb w5 nv r.new.length (ints r.new)) (h2:RowAt (BkOwn bb) bb w5 pv r.pairs.length (prs r.pairs)) (n1:AbN w4.heap.size nv) (n2:AbN w4.heap.size pv)
  (e6:Ext w5 w6) (row7:w7.ownsRow w0.heap.size 34 7 (.slice p' (k+1) c') (k+1) (Es.flatMap entC++entC (r,nv,pv))) (g7:w6.grownBy w7 (Value.slice p k c).ownBlock) (n7:∀b,(Value.slice p' (k+1) c').ownBlock=some b→(Value.slice p k c).ownBlock=some b∨w6.heap.size≤b) :
  RunI bb o KK xs (Es++[(r,nv,pv)]) L' p' (k+1) c' w0 w7:=by
 have B6:=hB5.ext e6
 have no5:∀j,(Value.slice p k c).ownBlock=some j→¬BkOwn bb w5 j:=fun j hj hk=>hC.out j (I.row.lt j hj).2 (I.no j hj) hk
 have no6:∀j,(Value.slice p k c).ownBlock=some j→¬BkOwn bb w6 j:=fun j hj hk=>no5 j hj ((hB5.own_ext e6 j).1 hk)
 have B7:=B6.top.st g7 fun b hb=>⟨fun hp=>hp.1 hb,no6 b hb⟩
 have s5:w4.heap.size≤w5.heap.size:=hC.size
 have s6:=e6.size
 have hl:L.length≤L'.length∧L'.length≤L.length+2:=by
  have:=aIp o L x
  rw [hd] at this
  exact this
 have R6:∀{v:Value} {n:Nat} {us:List Value},RowAt (BkOwn bb) bb w5 v n us→(∀a n d,v=.slice (some a) n d→us≠[]→(Value.slice p k c).ownBlock≠some a.block)→RowAt (BkOwn bb) bb w7 v n us∧∀a n d,v=.slice (some a) n d→us≠[]→(Value.slice p' (k+1) c').ownBlock≠some a.block:=fun {v n us} hv hn=>by
  have h6:=hv.ext' hB5 e6
  refine ⟨h6.gro g7 hn fun j hj=>(B7.2 j).1 hj,fun a n d e hz hb=>?_⟩
  rcases n7 _ hb with hb | hb
  ·exact hn a n d e hz hb
  ·obtain ⟨q,d',e',_,_,hq⟩:=h6
   rw [e] at e'
   injection e' with e1
   have:=(hq a e1.symm hz).2.2
   omega
 have old:∀{v:Value},AbN w4.heap.size v→∀a n d,v=.slice (some a) n d→(Value.slice p k c).ownBlock≠some a.block:=fun hn a n d e hb=>by
  have:=hn a n d e
  have:=(I.row.lt _ hb).2
  omega
 have E5:Ext w0 w5:=by
  have s:=I.E.size
  have b:=hC.ext (B:=w0.heap.size) (fun j hj hk=>by have:=I.hi j hk;omega) (fun _ _ h=>h) s
  exact ⟨b.os.trans I.E.os,b.tape.trans I.E.tape,b.output.trans I.E.output,Nat.le_trans s b.size,fun j hj=>(b.block j hj).trans (I.E.block j hj)⟩
 refine ⟨B7.1.up fun j hj hb=>?_,hok,by have:=I.l0;omega,by have:=I.l1;omega,by rw [List.flatMap_append];simpa using row7,fun j hj hk=>?_,fun e he=>?_,?_,(E5.trans e6).grown g7 fun b hb=>(I.row.lt b hb).1,fun j hj=>?_⟩
 ·rcases n7 j hb with h | h
  ·exact hj.1 h
  ·have:=hj.2;omega
 ·have h6:=(B7.2 j).1 hk
  rcases n7 j hj with h | h
  ·exact no6 j h h6
  ·have:=B6.lt h6;omega
 ·rcases List.mem_append.1 he with he | he
  ·obtain ⟨a1,a2,a3⟩:=I.rows e he
   have b1:=R6 (a1.chg (chg0 hC)) a3.1
   have b2:=R6 (a2.chg (chg0 hC)) a3.2
   exact ⟨b1.1,b2.1,b1.2,b2.2⟩
  ·obtain rfl:e=(r,nv,pv):=by simpa using he
   have b1:=R6 h1 fun a n d h _=>old n1 a n d h
   have b2:=R6 h2 fun a n d h _=>old n2 a n d h
   exact ⟨b1.1,b2.1,b1.2,b2.2⟩
 ·have hr:=I.run
  rw [List.drop_eq_getElem_cons hk,hx,runP,hd] at hr
  rw [List.map_append,←hr,List.append_assoc]
  rfl
 ·have h5:=(hB5.own_ext e6 j).1 ((B7.2 j).1 hj)
  rcases Nat.lt_or_ge j w4.heap.size with hj4 | hj4
  ·by_cases h4:BkOwn bb w4 j
   ·exact I.hi j h4
   ·exact absurd h5 (hC.out j hj4 h4)
  ·have:=I.E.size;omega
theorem c_prun{o:Int}{KK:List Int}{ops:List OpE}{lp:OA}{n lc:Nat}(ho:isO o=true)(hl:Cs w lp (ops.flatMap opC))(hn:ops.length=n)(hz:n≤100)
  (hin:∀e∈ops,InO e.1∧OpRd w e.1 e.2.1 e.2.2∧e.1.pairs.length≤5000∧e.1.keys.length≤5000) (hK:∀e∈ops,∀k∈newK e.1,k∈KK) (zK:KK.length≤5000)
  (h:∀p c (Es:List Ent) bb w',Ext w w'→Es.map (·.1)=runP o [[]] (ops.map (·.1))→w'.ownsRow w.heap.size 34 7 (.slice p n c) n (Es.flatMap entC)→
   (∀e∈Es,RowAt (BkOwn bb) bb w' e.2.1 e.1.new.length (ints e.1.new)∧RowAt (BkOwn bb) bb w' e.2.2 e.1.pairs.length (prs e.1.pairs))→R (.returned (.slice p n c)) w') :
  Calls prog 7 #[.int .u8 o,.slice lp n lc] w R:=by
 refine sh7_ok ?_
 unfold sh7
 refine pP call16 (aMm (fun w1 e1 hf=>by rw [ho] at hf;cases hf) fun bb w1 _ hB e1 hown=>pN ⟨_,_,rfl,?_⟩)
 refine ⟨fun vs w'=>∃(k:Nat) (p:OA) (c:Nat) (Es:List Ent) (L:Rows),vs=[.slice p k c,.int .i64 (k:Int)]∧k≤n∧RunI bb o KK (ops.map (·.1)) Es L p k c w w',
  fun vs _=>match vs with | [_,.int _ i]=>n - i.toNat | _=>0,⟨0,none,0,[],[[]],rfl,Nat.zero_le _,⟨hB.up fun _ _=>(fun hh=>(by cases hh)),OkL.one (tJ ho) (by intro x hx;cases hx) (by intro y hy;cases hy),(by decide),(by decide),World.ownsRow_nil _ _ _ _,fun j hj=>(by cases hj),fun e he=>(by cases he),rfl,e1,hown⟩⟩,?_⟩
 rintro p k c i_ _ w3 ⟨k0,p0,c0,Es,L,hv,hk,I⟩
 simp only [List.cons.injEq,Value.int.injEq,Value.slice.injEq,true_and,and_true] at hv
 obtain ⟨⟨rfl,rfl,rfl⟩,rfl⟩:=hv
 refine pO (fun z=>?_) fun z=>?_
 ·have z:k < n:=by have:=of_decide_eq_true z;omega
  have hkl:k < ops.length:=by omega
  intro K21
  refine aBz (ec:=opC) (s:=15) (fun _=>rfl) (by omega) (hl.ext I.E) hn (k:=k) rfl z fun a1 r1 _=>?_
  have hin':=hin ops[k] (List.getElem_mem hkl)
  have hKk:=hK ops[k] (List.getElem_mem hkl)
  have hxk:(ops.map (·.1))[k]'(by simpa using hkl)=ops[k].1:=List.getElem_map ..
  generalize ops[k]=e at *
  obtain ⟨x,pv,kv⟩:=e
  obtain ⟨hx,hO,zp,zk⟩:=hin'
  obtain ⟨pp,pc,e1p,hp1,hp2,hp3⟩:=hO.p
  obtain ⟨kp,kc,e1k,hk1,hk2,hk3⟩:=hO.k
  simp only at e1p e1k hx zp zk hKk hxk hp1 hp2 hk1 hk2
  subst e1p e1k
  refine ⟨_,r1 0 _ rfl,_,r1 1 _ rfl,_,r1 2 _ rfl,_,r1 3 _ rfl,_,r1 4 _ rfl,_,r1 5 _ rfl,_,r1 6 _ rfl,_,r1 7 _ rfl,_,r1 8 _ rfl,_,r1 9 _ rfl,_,r1 10 _ rfl,_,r1 11 _ rfl,_,r1 12 _ rfl,_,_,_,r1 13 _ rfl,_,_,_,r1 14 _ rfl,⟨?_⟩⟩
  have e4:=pQ w3 (.cells #[.int .u8 0,.int .i64 0,.int .i64 0,.int .i64 0,.int .i64 0,.int .i64 0,.int .i64 0,.int .i64 0,.int .u8 0,.int .u8 0,.int .i64 0,.int .i64 0,.bool false,.slice none 0 0,.slice none 0 0] 30)
  have X4:=pS w3 #[.int .u8 0,.int .i64 0,.int .i64 0,.int .i64 0,.int .i64 0,.int .i64 0,.int .i64 0,.int .i64 0,.int .u8 0,.int .u8 0,.int .i64 0,.int .i64 0,.bool false,.slice none 0 0,.slice none 0 0] 30
  generalize hb4:w3.heap.size=b4 at *
  generalize w3.alloc (.cells #[.int .u8 0,.int .i64 0,.int .i64 0,.int .i64 0,.int .i64 0,.int .i64 0,.int .i64 0,.int .i64 0,.int .u8 0,.int .u8 0,.int .i64 0,.int .i64 0,.bool false,.slice none 0 0,.slice none 0 0] 30)=w4 at *
  refine st15 X4 fun w5 X5 g5=>?_
  have E45:Ext w3 w5:=e4.st g5 (by omega)
  refine pY rfl ?_
  have I5:=I.ext E45
  have hbb:w.heap.size≤bb:=I5.hi bb (.inl rfl)
  have rp:RowAt (BkOwn bb) bb w5 (.slice pp x.pairs.length pc) x.pairs.length (prs x.pairs):=⟨pp,pc,rfl,hp1,hp2.ext I5.E,fun a ha hz=>⟨fun hk=>by have:=I5.hi _ hk;have:=hp3 a ha hz;omega,by have:=hp3 a ha hz;omega,Nat.lt_of_lt_of_le (hp3 a ha hz) I5.E.size⟩⟩
  have rk:RowAt (BkOwn bb) bb w5 (.slice kp x.keys.length kc) x.keys.length (ints x.keys):=⟨kp,kc,rfl,hk1,hk2.ext I5.E,fun a ha hz=>⟨fun hk=>by have:=I5.hi _ hk;have:=hk3 a ha hz;omega,by have:=hk3 a ha hz;omega,Nat.lt_of_lt_of_le (hk3 a ha hz) I5.E.size⟩⟩
  have l1:=I5.l1
  refine ⟨_,X5.cell (i:=0) rfl rfl,_,X5.cell (i:=1) rfl rfl,_,X5.cell (i:=2) rfl rfl,_,X5.cell (i:=3) rfl rfl,_,X5.cell (i:=4) rfl rfl,_,X5.cell (i:=5) rfl rfl,_,X5.cell (i:=6) rfl rfl,_,X5.cell (i:=7) rfl rfl,_,X5.cell (i:=8) rfl rfl,_,X5.cell (i:=9) rfl rfl,_,X5.cell (i:=10) rfl rfl,_,X5.cell (i:=11) rfl rfl,_,X5.cell (i:=12) rfl rfl,_,_,_,X5.cell (i:=13) rfl rfl,_,_,_,X5.cell (i:=14) rfl rfl,pP call12 (c_pdo ho I5.B (fun j hj hb=>by have:=(I5.row.lt j hb).2;omega) I5.l0 (by omega) (fun m=>(I5.ok.at' ho m).2.1) (fun m=>by have:=aAa (I5.ok.at' ho m).1 (I5.ok.at' ho m).2.2;omega) hx rp rk zp zk fun v w6 hR hB6 hC6=>?_)⟩
  obtain ⟨nv,pv,rfl,h1,h2,n1,n2⟩:=hR.ex
  have h1':=h1
  have h2':=h2
  obtain ⟨q1,d1,rfl,_⟩:=h1'
  obtain ⟨q2,d2,rfl,_⟩:=h2'
  have row6:=aCg hC6 I5.row I5.no (fun _ _ h=>h)
  have s6:=hC6.size
  have s5:=I5.E.size
  generalize hr:(doP o L x).1=r at *
  generalize hL':(doP o L x).2=L' at *
  refine pN ⟨_,_,_,_,_,_,_,_,_,_,_,rfl,⟨?_⟩⟩
  have e7:=pQ w6 (.cells #[.int .i64 r.err,.bool r.is,.int .i64 r.key,.int .i64 r.val,.int .i64 r.n,.slice q1 r.new.length d1,.slice q2 r.pairs.length d2] 34)
  have hx7:=qY w6 #[.int .i64 r.err,.bool r.is,.int .i64 r.key,.int .i64 r.val,.int .i64 r.n,.slice q1 r.new.length d1,.slice q2 r.pairs.length d2] 34
  generalize w6.alloc (.cells #[.int .i64 r.err,.bool r.is,.int .i64 r.key,.int .i64 r.val,.int .i64 r.n,.slice q1 r.new.length d1,.slice q2 r.pairs.length d2] 34)=w7 at *
  have s7:=e7.size
  refine rR elR (e7.row row6) (m:=1) hx7 (by simp) (by simp [Value.oneCell']) (by simp only [maxLen];omega) (by omega) (by omega) fun p' c' w8 row8 g8 n8=>pN ⟨_,_,_,rfl,?_⟩
  simp -zeta -zetaHave only [K21]
  rw [pW z (by omega)]
  refine ⟨⟨k+1,p',c',_,_,rfl,by omega,I5.step (by simpa using hkl) hxk (by rw [←hr,←hL']) (by rw [←hL'];exact (do_ok ho I5.ok hx).mono fun y hy=>(List.mem_append.1 hy).elim (hKk y) id) hB6 hC6 h1 h2 n1 n2 e7 row8 g8 n8⟩,?_⟩
  show n - ((k+1:Nat):Int).toNat < n - (k:Int).toNat
  omega
 ·have z:k=n:=by have:=of_decide_eq_false z;omega
  subst z
  have hrun:=I.run
  rw [List.drop_of_length_le (by simp;omega)] at hrun
  exact h p c Es bb w3 I.E (by simpa [runP] using hrun) I.row fun e he=>⟨(I.rows e he).1,(I.rows e he).2.1⟩
theorem c_sints{l:List Int}{p q:OA}{c d:Nat}(hz:l.length≤1000000)(hp:Cs w p (ints l))(hq:Cs w q (ints l))(h:∀w',Ext w w'→R (.returned (.bool true)) w'):Calls prog 31 #[.slice p l.length c,.slice q l.length d] w R:=by
 refine sh31_ok ?_
 unfold sh31
 refine pY (by simp) ?_
 refine ⟨fun vs w'=>∃k:Nat,vs=[.int .i64 (k:Int)]∧k≤l.length∧Ext w w',fun vs _=>match vs with | [.int _ i]=>l.length - i.toNat | _=>0,⟨0,rfl,Nat.zero_le _,pR _⟩,?_⟩
 rintro i_ _ w2 ⟨k,hv,hk,e⟩
 simp only [List.cons.injEq,Value.int.injEq,true_and,and_true] at hv
 subst hv
 refine pO (fun z=>?_) fun z=>?_
 ·have z:k < l.length:=by have:=of_decide_eq_true z;omega
  have e2:=e.trans (pT w2)
  refine ⟨fun w'=>Ext w2.drew w',pR _,?_⟩
  have oI:∀{s:OA},Cs w s (ints l)→∀w',Ext w2.drew w'→Cs w' s (l.flatMap fun x=>[.int .i64 x]):=fun hs w' e'=>by
   have:=hs.ext (e2.trans e')
   unfold ints at this
   rwa [List.map_eq_flatMap] at this
  refine uC (ec:=fun x:Int=>[.int .i64 x]) (s:=1) (C:=fun w'=>Ext w2.drew w') (fun _=>rfl) (by omega) (oI hp) (pR _) rfl (k:=k) rfl z fun a3 r3=>⟨l[k],fun w' e'=>by have:=r3 w' e' 0 _ rfl;rwa [add_zero'] at this,?_⟩
  refine uC (ec:=fun x:Int=>[.int .i64 x]) (s:=1) (C:=fun w'=>Ext w2.drew w') (fun _=>rfl) (by omega) (oI hq) (pR _) rfl (k:=k) rfl z fun a4 r4=>⟨l[k],fun w' e'=>by have:=r4 w' e' 0 _ rfl;rwa [add_zero'] at this,?_⟩
  refine pY (by simp) ?_
  rw [pW z (by omega)]
  refine ⟨⟨k+1,rfl,by omega,e2⟩,?_⟩
  show l.length - ((k+1:Nat):Int).toNat < l.length - (k:Int).toNat
  omega
 ·exact h w2 e
theorem c_srep{r:Rep}{q1 q2 s1 s2:OA}{d1 d2 t1 t2:Nat}(z1:r.new.length≤1000000)(z2:r.pairs.length≤1000000)(h1:Cs w q1 (ints r.new))(h2:Cs w q2 (prs r.pairs))(g1:Cs w s1 (ints r.new))(g2:Cs w s2 (prs r.pairs))
  (h:∀w',Ext w w'→R (.returned (.bool true)) w'):Calls prog 21 #[.agg #[.int .i64 r.err,.bool r.is,.int .i64 r.key,.int .i64 r.val,.int .i64 r.n,.slice q1 r.new.length d1,.slice q2 r.pairs.length d2],.agg #[.int .i64 r.err,.bool r.is,.int .i64 r.key,.int .i64 r.val,.int .i64 r.n,.slice s1 r.new.length t1,.slice s2 r.pairs.length t2]] w R:=by
 refine sh21_ok ?_
 unfold sh21
 refine ⟨⟨?_⟩⟩
 have e1:=pQ w (.cells #[.int .i64 r.err,.bool r.is,.int .i64 r.key,.int .i64 r.val,.int .i64 r.n,.slice q1 r.new.length d1,.slice q2 r.pairs.length d2] 34)
 have X1:=pS w #[.int .i64 r.err,.bool r.is,.int .i64 r.key,.int .i64 r.val,.int .i64 r.n,.slice q1 r.new.length d1,.slice q2 r.pairs.length d2] 34
 generalize w.alloc (.cells #[.int .i64 r.err,.bool r.is,.int .i64 r.key,.int .i64 r.val,.int .i64 r.n,.slice q1 r.new.length d1,.slice q2 r.pairs.length d2] 34)=w1 at *
 have e2:=pQ w1 (.cells #[.int .i64 r.err,.bool r.is,.int .i64 r.key,.int .i64 r.val,.int .i64 r.n,.slice s1 r.new.length t1,.slice s2 r.pairs.length t2] 34)
 have Y:=pS w1 #[.int .i64 r.err,.bool r.is,.int .i64 r.key,.int .i64 r.val,.int .i64 r.n,.slice s1 r.new.length t1,.slice s2 r.pairs.length t2] 34
 have X:=X1.ext e2
 have E2:=e1.trans e2
 generalize w1.alloc (.cells #[.int .i64 r.err,.bool r.is,.int .i64 r.key,.int .i64 r.val,.int .i64 r.n,.slice s1 r.new.length t1,.slice s2 r.pairs.length t2] 34)=w2 at *
 intro K29
 refine ⟨_,X.cell (i:=0) rfl rfl,_,Y.cell (i:=0) rfl rfl,pZ (by simp) ?_⟩
 refine ⟨_,X.cell (i:=1) rfl rfl,_,Y.cell (i:=1) rfl rfl,pZ (by simp) ?_⟩
 refine ⟨_,X.cell (i:=2) rfl rfl,_,Y.cell (i:=2) rfl rfl,pZ (by simp) ?_⟩
 refine ⟨_,X.cell (i:=3) rfl rfl,_,Y.cell (i:=3) rfl rfl,pZ (by simp) ?_⟩
 refine ⟨_,X.cell (i:=4) rfl rfl,_,Y.cell (i:=4) rfl rfl,pZ (by simp) ?_⟩
 refine ⟨_,_,_,X.cell (i:=5) rfl rfl,_,_,_,Y.cell (i:=5) rfl rfl,pP call31 (c_sints z1 (h1.ext E2) (g1.ext E2) fun w3 e3=>pN ⟨_,rfl,pZ rfl ?_⟩)⟩
 refine ⟨_,_,_,(X.ext e3).cell (i:=6) rfl rfl,_,_,_,(Y.ext e3).cell (i:=6) rfl rfl,pP call8 (aFx (h2.ext (E2.trans e3)) rfl (g2.ext (E2.trans e3)) rfl (by omega) fun w4 e4=>pN ⟨_,rfl,?_⟩)⟩
 have:=h w4 ((E2.trans e3).trans e4)
 simpa using this
def EntRd(w:World)(e:Ent):Prop:=∃q1 d1 q2 d2,e.2.1=.slice q1 e.1.new.length d1∧e.2.2=.slice q2 e.1.pairs.length d2∧Cs w q1 (ints e.1.new)∧Cs w q2 (prs e.1.pairs)∧e.1.new.length≤1000000∧e.1.pairs.length≤1000000
theorem aOc{Es Fs:List Ent}{p q:OA}{n c d:Nat}(hz:n≤1000000)(hE:Es.length=n)(hF:Fs.length=n)(hp:Cs w p (Es.flatMap entC))(hq:Cs w q (Fs.flatMap entC))(he:Es.map (·.1)=Fs.map (·.1))(rE:∀e∈Es,EntRd w e)(rF:∀e∈Fs,EntRd w e)
  (h:∀w',Ext w w'→R (.returned (.bool true)) w'):Calls prog 17 #[.slice p n c,.slice q n d] w R:=by
 refine sh17_ok ?_
 unfold sh17
 refine pY (by simp) ?_
 refine ⟨fun vs w'=>∃k:Nat,vs=[.int .i64 (k:Int)]∧k≤n∧Ext w w',fun vs _=>match vs with | [.int _ i]=>n - i.toNat | _=>0,⟨0,rfl,Nat.zero_le _,pR _⟩,?_⟩
 rintro i_ _ w2 ⟨k,hv,hk,e⟩
 simp only [List.cons.injEq,Value.int.injEq,true_and,and_true] at hv
 subst hv
 refine pO (fun z=>?_) fun z=>?_
 ·have z:k < n:=by have:=of_decide_eq_true z;omega
  have e2:=e.trans (pT w2)
  refine ⟨fun w'=>Ext w2.drew w',pR _,?_⟩
  have hk1:k < Es.length:=by omega
  have hk2:k < Fs.length:=by omega
  have hkk:Es[k].1=Fs[k].1:=by
   have h1:(Es.map (·.1))[k]?=some Es[k].1:=by rw [List.getElem?_map,List.getElem?_eq_getElem hk1];rfl
   have h2:(Fs.map (·.1))[k]?=some Fs[k].1:=by rw [List.getElem?_map,List.getElem?_eq_getElem hk2];rfl
   rw [he,h2] at h1
   exact (Option.some.inj h1).symm
  have R1:=rE Es[k] (List.getElem_mem hk1)
  have R2:=rF Fs[k] (List.getElem_mem hk2)
  refine uC (ec:=entC) (s:=7) (C:=fun w'=>Ext w2.drew w') (fun _=>rfl) (by omega) (fun w' e'=>hp.ext (e2.trans e')) (pR _) hE (k:=k) rfl z fun a3 r3=>?_
  generalize Es[k]=E1 at *
  obtain ⟨r,nv,pv⟩:=E1
  obtain ⟨q1,d1,q2,d2,en,ep,c1,c2,z1,z2⟩:=R1
  simp only at en ep c1 c2 z1 z2
  subst en ep
  refine ⟨_,fun w' e'=>r3 w' e' 0 _ rfl,_,fun w' e'=>r3 w' e' 1 _ rfl,_,fun w' e'=>r3 w' e' 2 _ rfl,_,fun w' e'=>r3 w' e' 3 _ rfl,_,fun w' e'=>r3 w' e' 4 _ rfl,_,_,_,fun w' e'=>r3 w' e' 5 _ rfl,_,_,_,fun w' e'=>r3 w' e' 6 _ rfl,?_⟩
  refine uC (ec:=entC) (s:=7) (C:=fun w'=>Ext w2.drew w') (fun _=>rfl) (by omega) (fun w' e'=>hq.ext (e2.trans e')) (pR _) hF (k:=k) rfl z fun a4 r4=>?_
  generalize Fs[k]=F1 at *
  obtain ⟨r',nv',pv'⟩:=F1
  obtain ⟨s1,t1,s2,t2,en,ep,g1,g2,_,_⟩:=R2
  simp only at en ep g1 g2
  subst en ep
  obtain rfl:r=r':=hkk
  refine ⟨_,fun w' e'=>r4 w' e' 0 _ rfl,_,fun w' e'=>r4 w' e' 1 _ rfl,_,fun w' e'=>r4 w' e' 2 _ rfl,_,fun w' e'=>r4 w' e' 3 _ rfl,_,fun w' e'=>r4 w' e' 4 _ rfl,_,_,_,fun w' e'=>r4 w' e' 5 _ rfl,_,_,_,fun w' e'=>r4 w' e' 6 _ rfl,?_⟩
  refine pP call21 (c_srep z1 z2 (c1.ext e2) (c2.ext e2) (g1.ext e2) (g2.ext e2) fun w3 e3=>pN ⟨_,rfl,pY rfl ?_⟩)
  rw [pW z (by omega)]
  refine ⟨⟨k+1,rfl,by omega,e2.trans e3⟩,?_⟩
  show n - ((k+1:Nat):Int).toNat < n - (k:Int).toNat
  omega
 ·exact h w2 e
theorem do_act{o:Int}{L:Rows}{x:POp}(h:rT o L x=0):doP o L x=actP o L x (atL L x.a) (atL L x.b):=by unfold doP;rw [if_pos h]
theorem do_wrong{o:Int}{L:Rows}{x:POp}{e:Int}(h:rT o L x=e)(he:e≠0):doP o L x=({ Rep.zero with err:=e },L):=by unfold doP;rw [if_neg (by rw [h];exact he),h]
def aCr(p:Int)(l:List Pr):POp:={ POp.zero with op:=8,pol:=p,pairs:=l }
def aIg(a k v p:Int):POp:={ POp.zero with op:=1,a:=a,key:=k,val:=v,pol:=p }
def oKey(d a k:Int):POp:={ POp.zero with op:=d,a:=a,key:=k }
def oList(a:Int):POp:={ POp.zero with op:=21,a:=a }
def aIf(a n:Int):POp:={ POp.zero with op:=17,a:=a,n:=n }
theorem in0:In 0:=by unfold In;omega
theorem u80:(0:Int)≤0∧(0:Int) < 256:=by omega
theorem aPo{p:Int}{l:List Pr}(hp:0≤p∧p < 256)(hl:InP l):InO (aCr p l):=
 ⟨⟨by show (0:Int)≤8;omega,by show (8:Int) < 256;omega⟩,in0,in0,in0,in0,in0,in0,in0,hp,u80,in0,in0,hl,fun x hx=>(by cases hx)⟩
theorem aMa{a k v p:Int}(ha:In a)(hk:In k)(hv:In v)(hp:0≤p∧p < 256):InO (aIg a k v p):=
 ⟨⟨by show (0:Int)≤1;omega,by show (1:Int) < 256;omega⟩,ha,in0,hk,hv,in0,in0,in0,hp,u80,in0,in0,fun x hx=>(by cases hx),fun x hx=>(by cases hx)⟩
theorem ino_key{d a k:Int}(hd:0≤d∧d < 256)(ha:In a)(hk:In k):InO (oKey d a k):=
 ⟨hd,ha,in0,hk,in0,in0,in0,in0,u80,u80,in0,in0,fun x hx=>(by cases hx),fun x hx=>(by cases hx)⟩
theorem ino_list{a:Int}(ha:In a):InO (oList a):=
 ⟨⟨by show (0:Int)≤21;omega,by show (21:Int) < 256;omega⟩,ha,in0,in0,in0,in0,in0,in0,u80,u80,in0,in0,fun x hx=>(by cases hx),fun x hx=>(by cases hx)⟩
theorem aLz{a n:Int}(ha:In a)(hn:In n):InO (aIf a n):=
 ⟨⟨by show (0:Int)≤17;omega,by show (17:Int) < 256;omega⟩,ha,in0,in0,in0,in0,in0,hn,u80,u80,in0,in0,fun x hx=>(by cases hx),fun x hx=>(by cases hx)⟩
def aliveOps:List POp:=[aCr 3 [(1,10),(2,20)],aIg 1 1 5 3,oKey 22 2 2,aIf 1 2,oList 3]
def yF:List Rep:=[⟨0,false,0,0,2,[1],[]⟩,⟨0,true,0,10,0,[2],[]⟩,⟨0,true,0,20,0,[3,4],[]⟩,⟨320,false,0,0,0,[],[]⟩,⟨0,false,0,0,1,[],[(1,15)]⟩]
theorem aQf:runP 1 [[]] aliveOps=yF:=by kernel_rfl
theorem aHk(h:∀b w',Ext w w'→Blk w' b #[.int .i64 1,.int .i64 10,.int .i64 2,.int .i64 20] 63→w.heap.size≤b→R (.returned (opV (aCr 3 [(1,10),(2,20)]) (.slice (some (blk b)) 2 2) (.slice none 0 0))) w'):Calls prog 13 #[] w R:=by
 refine sh13_ok ?_
 unfold sh13
 refine ⟨⟨?_⟩⟩
 have e1:=pQ w (.cells #[.int .u8 0,.int .i64 0,.int .i64 0,.int .i64 0,.int .i64 0,.int .i64 0,.int .i64 0,.int .i64 0,.int .u8 0,.int .u8 0,.int .i64 0,.int .i64 0,.bool false,.slice none 0 0,.slice none 0 0] 30)
 have X1:=pS w #[.int .u8 0,.int .i64 0,.int .i64 0,.int .i64 0,.int .i64 0,.int .i64 0,.int .i64 0,.int .i64 0,.int .u8 0,.int .u8 0,.int .i64 0,.int .i64 0,.bool false,.slice none 0 0,.slice none 0 0] 30
 generalize w.alloc (.cells #[.int .u8 0,.int .i64 0,.int .i64 0,.int .i64 0,.int .i64 0,.int .i64 0,.int .i64 0,.int .i64 0,.int .u8 0,.int .u8 0,.int .i64 0,.int .i64 0,.bool false,.slice none 0 0,.slice none 0 0] 30)=w1 at *
 have e2:=pQ w1 (.cells #[.int .i64 1,.int .i64 10,.int .i64 2,.int .i64 20] 63)
 have Y2:=pS w1 #[.int .i64 1,.int .i64 10,.int .i64 2,.int .i64 20] 63
 have X2:=X1.ext e2
 have l1:=X1.lt
 generalize w1.alloc (.cells #[.int .i64 1,.int .i64 10,.int .i64 2,.int .i64 20] 63)=w2 at *
 refine st15 X2 fun w3 X3 g3=>?_
 exact ⟨_,X3.cell (i:=0) rfl rfl,_,X3.cell (i:=1) rfl rfl,_,X3.cell (i:=2) rfl rfl,_,X3.cell (i:=3) rfl rfl,_,X3.cell (i:=4) rfl rfl,_,X3.cell (i:=5) rfl rfl,_,X3.cell (i:=6) rfl rfl,_,X3.cell (i:=7) rfl rfl,_,X3.cell (i:=8) rfl rfl,_,X3.cell (i:=9) rfl rfl,_,X3.cell (i:=10) rfl rfl,_,X3.cell (i:=11) rfl rfl,_,X3.cell (i:=12) rfl rfl,_,_,_,X3.cell (i:=13) rfl rfl,_,_,_,X3.cell (i:=14) rfl rfl,h _ w3 ((e1.trans e2).st g3 (Nat.le_refl _)) (Y2.grown g3 (pV (by omega))) e1.size⟩
end Go.Proofs.YtmdboekndjlmgaaGreat
