/-
  The methods of a book of versions, on.
-/
import Derived.Test.YtmdboekndjlmgaaGreatZ32
set_option maxRecDepth 100000
set_option maxHeartbeats 6400000
namespace Go.Proofs.YtmdboekndjlmgaaGreat
open Go Go.Sh Go.RowKit Tryz
variable {w:World}{R:EW}
theorem c_was{P:Nat→Prop}{bb:Nat}{o:Int}{L:Rows}{x:POp}{a:List Pr}{pp kp qa:OA}{np pc nk kc ca:Nat}(hB:BookN P w bb o L)(hk:In x.key)(ha2:Cs w qa (prs a))(Ia:InP a)(za:a.length≤5000)
  (h:∀w',Ext w w'→R (.returned (rep0 (wasP o a x.key))) w'):Calls prog 99 #[.pointer (some (blk bb)),opV x (.slice pp np pc) (.slice kp nk kc),.slice qa a.length ca] w R:=by
 refine sh99_ok ?_
 unfold sh99
 refine mid0 (P:=fun _=>True) x (.slice pp np pc) (.slice kp nk kc) (hB.up fun _ _=>trivial) fun xb rb w2 M=>?_
 have M:=M.ext (pT w2)
 refine ⟨⟨Cls bb o xb x _ _,M.cls,_,rfl,o,fun w' h=>h.1,_,fun w' h=>h.2.cell (i:=3) rfl rfl,?_⟩⟩
 refine pP call101 (aKt (ha2.ext M.E) rfl (by omega) Ia hk fun w3 e3=>pN ⟨_,_,rfl,?_⟩)
 have M3:=M.ext e3
 refine qA M3.Y (i:=3) rfl (by simp) fun w4 Y4 g4=>?_
 have Y4:Blk w4 rb #[.int .i64 0,.bool false,.int .i64 0,.int .i64 (getR o a x.key),.int .i64 0,.slice none 0 0,.slice none 0 0] 34:=Y4
 refine qA Y4 (i:=1) rfl (by simp) fun w5 Y5 g5=>?_
 have Y5:Blk w5 rb #[.int .i64 0,.bool (hasR o a x.key),.int .i64 0,.int .i64 (getR o a x.key),.int .i64 0,.slice none 0 0,.slice none 0 0] 34:=Y5
 refine ⟨_,Y5.cell (i:=0) rfl rfl,_,Y5.cell (i:=1) rfl rfl,_,Y5.cell (i:=2) rfl rfl,_,Y5.cell (i:=3) rfl rfl,_,Y5.cell (i:=4) rfl rfl,_,_,_,Y5.cell (i:=5) rfl rfl,_,_,_,Y5.cell (i:=6) rfl rfl,ep7 Y5 fun w6 g6=>?_⟩
 exact h w6 (M3.E.st (pX (pX g4 g5) g6) M.lr)
section
variable {P:Nat→Prop} {bb:Nat} {o:Int} {L:Rows} {x:POp} {pv kv:Value} {w0 w:World} {xb rb:Nat} {R:EW} {Kp:List PanicEntry→World→Prop}
theorem Mid.made{ls:Rows}{r:Rep}{vs:Array Value}{n:Nat}(M:Mid P bb o L x pv kv w0 xb rb w)(B0:BookN P w0 bb o L)(zL:L.length≤4500)(hls:ls.length≤4)(hn:ls.length=n)(hnew:r.new=[])(hpr:r.pairs=[])
  (hvs:∀(i:Nat) (l:List Pr),ls[i]?=some l→∃v,vs.toList[i]?=some v∧RowAt (BkOwn bb) bb w v l.length (prs l)∧uW (fun k=>P k∧k≠xb∧k≠rb) v)
  (h:∀v w',RepAt w0.heap.size bb w' v (sT r L ls).1→BookN P w' bb o (sT r L ls).2→Chg (BkOwn bb) (fun _=>False) w0 w'→R (.returned v) w') :
  doAl (.cells vs 22) w (fun b1 w1=>doCall prog (.func (.func 98) #[] #[]) #[.pointer (some (blk bb)),rep0 r,.slice (some (blk b1)) n n] w1 (retS (fun v w=>∃(x0:Int),∃(x1:Bool),∃(x2:Int),∃(x3:Int),∃(x4:Int),∃(p5:OA),∃(n5:Nat),∃(c5:Nat),∃(p6:OA),∃(n6:Nat),∃(c6:Nat),v=(.agg #[.int .i64 x0,.bool x1,.int .i64 x2,.int .i64 x3,.int .i64 x4,.slice p5 n5 c5,.slice p6 n6 c6]:Value)∧(doSt ((blk rb).add 0) (.int .i64 x0) w fun w1=>doSt ((blk rb).add 1) (.bool x1) w1 fun w2=>doSt ((blk rb).add 2) (.int .i64 x2) w2 fun w3=>doSt ((blk rb).add 3) (.int .i64 x3) w3 fun w4=>doSt ((blk rb).add 4) (.int .i64 x4) w4 fun w5=>doSt ((blk rb).add 5) (.slice p5 n5 c5) w5 fun w6=>doSt ((blk rb).add 6) (.slice p6 n6 c6) w6 fun w7=>∃(y0:Int),w7.cell? ((blk rb).add 0)=some (.int .i64 y0)∧(∃(y1:Bool),w7.cell? ((blk rb).add 1)=some (.bool y1)∧(∃(y2:Int),w7.cell? ((blk rb).add 2)=some (.int .i64 y2)∧(∃(y3:Int),w7.cell? ((blk rb).add 3)=some (.int .i64 y3)∧(∃(y4:Int),w7.cell? ((blk rb).add 4)=some (.int .i64 y4)∧(∃(q5:OA),∃(m5:Nat),∃(d5:Nat),w7.cell? ((blk rb).add 5)=some (.slice q5 m5 d5)∧(∃(q6:OA),∃(m6:Nat),∃(d6:Nat),w7.cell? ((blk rb).add 6)=some (.slice q6 m6 d6)∧(R (.returned (.agg #[.int .i64 y0,.bool y1,.int .i64 y2,.int .i64 y3,.int .i64 y4,.slice q5 m5 d5,.slice q6 m6 d6])) w7))))))))) Kp)):=by
 refine ⟨?_⟩
 have e1:=pQ w (.cells vs 22)
 have hx1:=qY w vs 22
 have lz:(w.alloc (.cells vs 22)).heap.size=w.heap.size+1:=by simp
 generalize w.alloc (.cells vs 22)=w1 at *
 have M':=M.ext e1
 have own1:=M.B.own_ext e1
 refine pP call98 (zW M'.B zL hls hn hx1 (fun a ha=>?_) (fun i l hl=>?_) hnew hpr fun v w3 hR hB3 hC3=>pN ?_)
 ·cases ha
  exact ⟨fun hk=>by have:=M.B.lt ((own1 _).1 hk);simp only [blk] at *;omega,by simp only [blk] at *;omega⟩
 ·obtain ⟨v,h1,h2,h3⟩:=hvs i l hl
  exact ⟨v,h1,h2.ext' M.B e1,h3⟩
 ·exact aBm hR hB3 ((B0.chg M'.E).trans hC3) (hC3.blk M'.Y M'.ny fun h=>h) M'.Y.lt M.lr (fun hp=>hp.2.2 rfl) (hC3.out _ M'.Y.lt M'.ny) fun v w' r b k=>h v w' (r.mono M.lr) (b.up fun _ h=>h.1) k
end
theorem m_insert{P:Nat→Prop}{bb:Nat}{o:Int}{L:Rows}{x:POp}{a c:List Pr}{pv kv va vc:Value}(A:Arg P bb o L x a c pv kv va vc w) 
  (h:∀v w',RepAt w.heap.size bb w' v (sT (wasP o a x.key) L [putR o x.pol a (x.key,x.val)]).1→BookN P w' bb o (sT (wasP o a x.key) L [putR o x.pol a (x.key,x.val)]).2→Chg (BkOwn bb) (fun _=>False) w w'→R (.returned v) w'):Calls prog 59 #[.pointer (some (blk bb)),opV x pv kv,va,vc] w R:=by
 have Ap:=A.rp
 have Ak:=A.rk
 have Aa:=A.ra
 have Ac:=A.rc
 obtain ⟨pp,pc,rfl,hp1,hp2,hp3⟩:=Ap
 obtain ⟨kp,kc,rfl,hk1,hk2,hk3⟩:=Ak
 obtain ⟨qa,ca,rfl,ha1,ha2,ha3⟩:=Aa
 obtain ⟨qc,cc,rfl,hc1,hc2,hc3⟩:=Ac
 have za:=A.za
 have zc:=A.zc
 have zp:=A.zp
 have zk:=A.zk
 refine sh59_ok ?_
 unfold sh59
 refine mid0 x (.slice pp x.pairs.length pc) (.slice kp x.keys.length kc) A.B fun xb rb w2 M=>?_
 have M:=M.ext (pT w2)
 refine ⟨⟨Cls bb o xb x _ _,M.cls,_,rfl,o,fun w' h=>h.1,_,fun w' h=>h.2.cell (i:=8) rfl rfl,_,fun w' h=>h.2.cell (i:=3) rfl rfl,_,fun w' h=>h.2.cell (i:=4) rfl rfl,?_⟩⟩
 have ha:=ha2.ext M.E
 have hc:=hc2.ext M.E
 refine pP call97 (c_put ha rfl (by omega) A.Ia (x:=(x.key,x.val)) A.inx.key fun p n c3 w3 ho e3=>pN ⟨_,_,_,_,rfl,?_⟩)
 have M3:=M.ext e3
 refine ⟨M3.cls,_,M3.X.cell (i:=0) rfl rfl,_,M3.X.cell (i:=1) rfl rfl,_,M3.X.cell (i:=2) rfl rfl,_,M3.X.cell (i:=3) rfl rfl,_,M3.X.cell (i:=4) rfl rfl,_,M3.X.cell (i:=5) rfl rfl,_,M3.X.cell (i:=6) rfl rfl,_,M3.X.cell (i:=7) rfl rfl,_,M3.X.cell (i:=8) rfl rfl,_,M3.X.cell (i:=9) rfl rfl,_,M3.X.cell (i:=10) rfl rfl,_,M3.X.cell (i:=11) rfl rfl,_,M3.X.cell (i:=12) rfl rfl,_,_,_,M3.X.cell (i:=13) rfl rfl,_,_,_,M3.X.cell (i:=14) rfl rfl,?_⟩
 refine pP call99 (c_was M3.B A.inx.key (ha.ext e3) A.Ia A.za fun w4 e4=>pN ⟨_,_,_,_,_,_,_,_,_,_,_,rfl,?_⟩)
 have M4:=M3.ext e4
 have lX:=M.X.lt
 have lY:=M.Y.lt
 obtain rfl:(putR o x.pol a (x.key,x.val)).length=n:=qF ho
 refine M4.made A.B A.zL (ls:=[putR o x.pol a (x.key,x.val)]) (r:=wasP o a x.key) (by simp) rfl rfl rfl (fun i l hl=>?_) h
 cases i with
 | zero=>
  obtain rfl:putR o x.pol a (x.key,x.val)=l:=by simpa using hl
  refine ⟨_,rfl,RowAt.ext' (RowAt.own_row ho (fun k hk=>.inl (M.B.lt ((M.B.own_ext e3 k).1 hk))) (M.B.lt (.inl rfl))) M3.B e4,fun a n c e _=>?_⟩
  injection e with e1
  have:=(tG ho e1).1
  have:=M.E.size
  exact ⟨A.hP _ (by omega),by omega,by omega⟩
 | succ i=>simp at hl
theorem m_delete{P:Nat→Prop}{bb:Nat}{o:Int}{L:Rows}{x:POp}{a c:List Pr}{pv kv va vc:Value}(A:Arg P bb o L x a c pv kv va vc w) 
  (h:∀v w',RepAt w.heap.size bb w' v (sT (wasP o a x.key) L [rY o a x.key]).1→BookN P w' bb o (sT (wasP o a x.key) L [rY o a x.key]).2→Chg (BkOwn bb) (fun _=>False) w w'→R (.returned v) w'):Calls prog 60 #[.pointer (some (blk bb)),opV x pv kv,va,vc] w R:=by
 have Ap:=A.rp
 have Ak:=A.rk
 have Aa:=A.ra
 have Ac:=A.rc
 obtain ⟨pp,pc,rfl,hp1,hp2,hp3⟩:=Ap
 obtain ⟨kp,kc,rfl,hk1,hk2,hk3⟩:=Ak
 obtain ⟨qa,ca,rfl,ha1,ha2,ha3⟩:=Aa
 obtain ⟨qc,cc,rfl,hc1,hc2,hc3⟩:=Ac
 have za:=A.za
 have zc:=A.zc
 have zp:=A.zp
 have zk:=A.zk
 refine sh60_ok ?_
 unfold sh60
 refine mid0 x (.slice pp x.pairs.length pc) (.slice kp x.keys.length kc) A.B fun xb rb w2 M=>?_
 have M:=M.ext (pT w2)
 refine ⟨⟨Cls bb o xb x _ _,M.cls,_,rfl,o,fun w' h=>h.1,_,fun w' h=>h.2.cell (i:=3) rfl rfl,?_⟩⟩
 have ha:=ha2.ext M.E
 have hc:=hc2.ext M.E
 refine pP call100 (c_drop ha rfl (by omega) A.Ia A.inx.key fun p n c3 w3 ho e3=>pN ⟨_,_,_,_,rfl,?_⟩)
 have M3:=M.ext e3
 refine ⟨_,M3.X.cell (i:=0) rfl rfl,_,M3.X.cell (i:=1) rfl rfl,_,M3.X.cell (i:=2) rfl rfl,_,M3.X.cell (i:=3) rfl rfl,_,M3.X.cell (i:=4) rfl rfl,_,M3.X.cell (i:=5) rfl rfl,_,M3.X.cell (i:=6) rfl rfl,_,M3.X.cell (i:=7) rfl rfl,_,M3.X.cell (i:=8) rfl rfl,_,M3.X.cell (i:=9) rfl rfl,_,M3.X.cell (i:=10) rfl rfl,_,M3.X.cell (i:=11) rfl rfl,_,M3.X.cell (i:=12) rfl rfl,_,_,_,M3.X.cell (i:=13) rfl rfl,_,_,_,M3.X.cell (i:=14) rfl rfl,?_⟩
 refine pP call99 (c_was M3.B A.inx.key (ha.ext e3) A.Ia A.za fun w4 e4=>pN ⟨_,_,_,_,_,_,_,_,_,_,_,rfl,?_⟩)
 have M4:=M3.ext e4
 have lX:=M.X.lt
 have lY:=M.Y.lt
 obtain rfl:(rY o a x.key).length=n:=qF ho
 refine M4.made A.B A.zL (ls:=[rY o a x.key]) (r:=wasP o a x.key) (by simp) rfl rfl rfl (fun i l hl=>?_) h
 cases i with
 | zero=>
  obtain rfl:rY o a x.key=l:=by simpa using hl
  refine ⟨_,rfl,RowAt.ext' (RowAt.own_row ho (fun k hk=>.inl (M.B.lt ((M.B.own_ext e3 k).1 hk))) (M.B.lt (.inl rfl))) M3.B e4,fun a n c e _=>?_⟩
  injection e with e1
  have:=(tG ho e1).1
  have:=M.E.size
  exact ⟨A.hP _ (by omega),by omega,by omega⟩
 | succ i=>simp at hl
theorem m_min{P:Nat→Prop}{bb:Nat}{o:Int}{L:Rows}{x:POp}{a c:List Pr}{pv kv va vc:Value}(A:Arg P bb o L x a c pv kv va vc w) 
  (h:∀v w',RepAt w.heap.size bb w' v (((qG (a.getD 0 (0,0)) (decide (0 < a.length)),L):Rep × Rows)).1→BookN P w' bb o (((qG (a.getD 0 (0,0)) (decide (0 < a.length)),L):Rep × Rows)).2→Chg (BkOwn bb) (fun _=>False) w w'→R (.returned v) w'):Calls prog 62 #[.pointer (some (blk bb)),opV x pv kv,va,vc] w R:=by
 have Ap:=A.rp
 have Ak:=A.rk
 have Aa:=A.ra
 have Ac:=A.rc
 obtain ⟨pp,pc,rfl,hp1,hp2,hp3⟩:=Ap
 obtain ⟨kp,kc,rfl,hk1,hk2,hk3⟩:=Ak
 obtain ⟨qa,ca,rfl,ha1,ha2,ha3⟩:=Aa
 obtain ⟨qc,cc,rfl,hc1,hc2,hc3⟩:=Ac
 have za:=A.za
 have zc:=A.zc
 have zp:=A.zp
 have zk:=A.zk
 refine sh62_ok ?_
 unfold sh62
 refine mid0 x (.slice pp x.pairs.length pc) (.slice kp x.keys.length kc) A.B fun xb rb w2 M=>?_
 have ha:=ha2.ext M.E
 refine pO (fun z=>?_) fun z=>?_
 ·have z:a.length=0:=by have:=of_decide_eq_true (p:=((a.length:Nat):Int)=0) (by simpa using z);omega
  have e0:qG (a.getD 0 (0,0)) (decide (0 < a.length))=Rep.zero:=by simp [qG,z]
  rw [e0] at h
  exact ep7 M.Y fun w' g=>M.done A.B (v:=rep0 Rep.zero) (uQ rfl rfl) g h
 ·have z:0 < a.length:=by
   rcases Nat.eq_zero_or_pos a.length with hz | hz
   ·rw [hz] at z;simp at z
   ·exact hz
  have hk:0 < a.length:=by omega
  have eg:a.getD (0) (0,0)=a[0]:=by rw [List.getD_eq_getElem?_getD,List.getElem?_eq_getElem hk];rfl
  rw [eg,decide_eq_true z] at h
  refine rI ha rfl (k:=0) rfl hk fun a1 r1 r2 _=>⟨_,r1,_,r2,?_⟩
  refine pP call102 (aAn (is:=true) fun w4 e4=>pN ?_)
  exact (M.ext e4).read' A.B (uQ rfl rfl) h
theorem m_max{P:Nat→Prop}{bb:Nat}{o:Int}{L:Rows}{x:POp}{a c:List Pr}{pv kv va vc:Value}(A:Arg P bb o L x a c pv kv va vc w) 
  (h:∀v w',RepAt w.heap.size bb w' v (((qG (a.getD (a.length - 1) (0,0)) (decide (0 < a.length)),L):Rep × Rows)).1→BookN P w' bb o (((qG (a.getD (a.length - 1) (0,0)) (decide (0 < a.length)),L):Rep × Rows)).2→Chg (BkOwn bb) (fun _=>False) w w'→R (.returned v) w'):Calls prog 63 #[.pointer (some (blk bb)),opV x pv kv,va,vc] w R:=by
 have Ap:=A.rp
 have Ak:=A.rk
 have Aa:=A.ra
 have Ac:=A.rc
 obtain ⟨pp,pc,rfl,hp1,hp2,hp3⟩:=Ap
 obtain ⟨kp,kc,rfl,hk1,hk2,hk3⟩:=Ak
 obtain ⟨qa,ca,rfl,ha1,ha2,ha3⟩:=Aa
 obtain ⟨qc,cc,rfl,hc1,hc2,hc3⟩:=Ac
 have za:=A.za
 have zc:=A.zc
 have zp:=A.zp
 have zk:=A.zk
 refine sh63_ok ?_
 unfold sh63
 refine mid0 x (.slice pp x.pairs.length pc) (.slice kp x.keys.length kc) A.B fun xb rb w2 M=>?_
 have ha:=ha2.ext M.E
 refine pO (fun z=>?_) fun z=>?_
 ·have z:a.length=0:=by have:=of_decide_eq_true (p:=((a.length:Nat):Int)=0) (by simpa using z);omega
  have e0:qG (a.getD (a.length - 1) (0,0)) (decide (0 < a.length))=Rep.zero:=by simp [qG,z]
  rw [e0] at h
  exact ep7 M.Y fun w' g=>M.done A.B (v:=rep0 Rep.zero) (uQ rfl rfl) g h
 ·have z:0 < a.length:=by
   rcases Nat.eq_zero_or_pos a.length with hz | hz
   ·rw [hz] at z;simp at z
   ·exact hz
  have hk:(a.length - 1) < a.length:=by omega
  have eg:a.getD ((a.length - 1)) (0,0)=a[(a.length - 1)]:=by rw [List.getD_eq_getElem?_getD,List.getElem?_eq_getElem hk];rfl
  rw [eg,decide_eq_true z] at h
  refine rI ha rfl (k:=(a.length - 1)) (by rw [qB (by omega) (by omega)];omega) hk fun a1 r1 r2 _=>⟨_,r1,_,r2,?_⟩
  refine pP call102 (aAn (is:=true) fun w4 e4=>pN ?_)
  exact (M.ext e4).read' A.B (uQ rfl rfl) h
theorem m_pick{P:Nat→Prop}{bb:Nat}{o:Int}{L:Rows}{x:POp}{a c:List Pr}{pv kv va vc:Value}(A:Arg P bb o L x a c pv kv va vc w)(HN:0≤x.n∧x.n < a.length)
  (h:∀v w',RepAt w.heap.size bb w' v (((qG (a.getD x.n.toNat (0,0)) true,L):Rep × Rows)).1→BookN P w' bb o (((qG (a.getD x.n.toNat (0,0)) true,L):Rep × Rows)).2→Chg (BkOwn bb) (fun _=>False) w w'→R (.returned v) w'):Calls prog 75 #[.pointer (some (blk bb)),opV x pv kv,va,vc] w R:=by
 have Ap:=A.rp
 have Ak:=A.rk
 have Aa:=A.ra
 have Ac:=A.rc
 obtain ⟨pp,pc,rfl,hp1,hp2,hp3⟩:=Ap
 obtain ⟨kp,kc,rfl,hk1,hk2,hk3⟩:=Ak
 obtain ⟨qa,ca,rfl,ha1,ha2,ha3⟩:=Aa
 obtain ⟨qc,cc,rfl,hc1,hc2,hc3⟩:=Ac
 have za:=A.za
 have zc:=A.zc
 have zp:=A.zp
 have zk:=A.zk
 refine sh75_ok ?_
 unfold sh75
 refine mid0 x (.slice pp x.pairs.length pc) (.slice kp x.keys.length kc) A.B fun xb rb w2 M=>?_
 have ha:=ha2.ext M.E
 refine ⟨_,M.X.cell (i:=7) rfl rfl,?_⟩
 have hk:x.n.toNat < a.length:=by omega
 have eg:a.getD x.n.toNat (0,0)=a[x.n.toNat]:=by rw [List.getD_eq_getElem?_getD,List.getElem?_eq_getElem hk];rfl
 rw [eg] at h
 refine rI ha rfl (k:=x.n.toNat) (by omega) hk fun a1 r1 r2 _=>⟨_,r1,_,r2,?_⟩
 refine pP call102 (aAn (is:=true) fun w4 e4=>pN ?_)
 exact (M.ext e4).read' A.B (uQ rfl rfl) h
theorem m_rank{P:Nat→Prop}{bb:Nat}{o:Int}{L:Rows}{x:POp}{a c:List Pr}{pv kv va vc:Value}(A:Arg P bb o L x a c pv kv va vc w) 
  (h:∀v w',RepAt w.heap.size bb w' v ((({ Rep.zero with is:=hasR o a x.key,n:=posR o a x.key },L):Rep × Rows)).1→BookN P w' bb o ((({ Rep.zero with is:=hasR o a x.key,n:=posR o a x.key },L):Rep × Rows)).2→Chg (BkOwn bb) (fun _=>False) w w'→R (.returned v) w'):Calls prog 74 #[.pointer (some (blk bb)),opV x pv kv,va,vc] w R:=by
 have Ap:=A.rp
 have Ak:=A.rk
 have Aa:=A.ra
 have Ac:=A.rc
 obtain ⟨pp,pc,rfl,hp1,hp2,hp3⟩:=Ap
 obtain ⟨kp,kc,rfl,hk1,hk2,hk3⟩:=Ak
 obtain ⟨qa,ca,rfl,ha1,ha2,ha3⟩:=Aa
 obtain ⟨qc,cc,rfl,hc1,hc2,hc3⟩:=Ac
 have za:=A.za
 have zc:=A.zc
 have zp:=A.zp
 have zk:=A.zk
 refine sh74_ok ?_
 unfold sh74
 refine mid0 x (.slice pp x.pairs.length pc) (.slice kp x.keys.length kc) A.B fun xb rb w2 M=>?_
 have M:=M.ext (pT w2)
 refine ⟨⟨Cls bb o xb x _ _,M.cls,_,rfl,o,fun w' h=>h.1,_,fun w' h=>h.2.cell (i:=3) rfl rfl,?_⟩⟩
 have ha:=ha2.ext M.E
 have hc:=hc2.ext M.E
 refine pP call112 (vJ ha rfl (by omega) A.Ia A.inx.key fun w3 e3=>pN ⟨_,_,rfl,?_⟩)
 have M3:=M.ext e3
 refine qA M3.Y (i:=4) rfl (by simp) fun w4 Y4 g4=>?_
 have Y4:Blk w4 rb #[.int .i64 0,.bool false,.int .i64 0,.int .i64 0,.int .i64 (posR o a x.key:Nat),.slice none 0 0,.slice none 0 0] 34:=Y4
 refine qA Y4 (i:=1) rfl (by simp) fun w5 Y5 g5=>?_
 have Y5:Blk w5 rb #[.int .i64 0,.bool (hasR o a x.key),.int .i64 0,.int .i64 0,.int .i64 (posR o a x.key:Nat),.slice none 0 0,.slice none 0 0] 34:=Y5
 refine ⟨_,Y5.cell (i:=0) rfl rfl,_,Y5.cell (i:=1) rfl rfl,_,Y5.cell (i:=2) rfl rfl,_,Y5.cell (i:=3) rfl rfl,_,Y5.cell (i:=4) rfl rfl,_,_,_,Y5.cell (i:=5) rfl rfl,_,_,_,Y5.cell (i:=6) rfl rfl,ep7 Y5 fun w6 g6=>?_⟩
 exact M3.done A.B (v:=rep0 { Rep.zero with is:=hasR o a x.key,n:=posR o a x.key }) (uQ rfl rfl) (pX (pX g4 g5) g6) h
theorem m_count{P:Nat→Prop}{bb:Nat}{o:Int}{L:Rows}{x:POp}{a c:List Pr}{pv kv va vc:Value}(A:Arg P bb o L x a c pv kv va vc w) 
  (h:∀v w',RepAt w.heap.size bb w' v ((({ Rep.zero with n:=(rngP o a x.lo x.hi).length },L):Rep × Rows)).1→BookN P w' bb o ((({ Rep.zero with n:=(rngP o a x.lo x.hi).length },L):Rep × Rows)).2→Chg (BkOwn bb) (fun _=>False) w w'→R (.returned v) w'):Calls prog 77 #[.pointer (some (blk bb)),opV x pv kv,va,vc] w R:=by
 have Ap:=A.rp
 have Ak:=A.rk
 have Aa:=A.ra
 have Ac:=A.rc
 obtain ⟨pp,pc,rfl,hp1,hp2,hp3⟩:=Ap
 obtain ⟨kp,kc,rfl,hk1,hk2,hk3⟩:=Ak
 obtain ⟨qa,ca,rfl,ha1,ha2,ha3⟩:=Aa
 obtain ⟨qc,cc,rfl,hc1,hc2,hc3⟩:=Ac
 have za:=A.za
 have zc:=A.zc
 have zp:=A.zp
 have zk:=A.zk
 refine sh77_ok ?_
 unfold sh77
 refine mid0 x (.slice pp x.pairs.length pc) (.slice kp x.keys.length kc) A.B fun xb rb w2 M=>?_
 have M:=M.ext (pT w2)
 refine ⟨⟨Cls bb o xb x _ _,M.cls,_,rfl,o,fun w' h=>h.1,_,fun w' h=>h.2.cell (i:=5) rfl rfl,_,fun w' h=>h.2.cell (i:=6) rfl rfl,?_⟩⟩
 have ha:=ha2.ext M.E
 have hc:=hc2.ext M.E
 refine pP call113 (c_range A.inx.lo A.inx.hi ha rfl ha1 (by omega) A.Ia fun p n c3 w3 ho e3=>pN ⟨_,_,_,_,rfl,?_⟩)
 have M3:=M.ext e3
 obtain rfl:(rngP o a x.lo x.hi).length=n:=qF ho
 exact ep7 M3.Y fun w' g=>M3.done A.B (v:=rep0 { Rep.zero with n:=(rngP o a x.lo x.hi).length }) (uQ rfl rfl) g h
theorem m_sum{P:Nat→Prop}{bb:Nat}{o:Int}{L:Rows}{x:POp}{a c:List Pr}{pv kv va vc:Value}(A:Arg P bb o L x a c pv kv va vc w) 
  (h:∀v w',RepAt w.heap.size bb w' v ((({ Rep.zero with val:=sumL ((rngP o a x.lo x.hi).map (·.2)) },L):Rep × Rows)).1→BookN P w' bb o ((({ Rep.zero with val:=sumL ((rngP o a x.lo x.hi).map (·.2)) },L):Rep × Rows)).2→Chg (BkOwn bb) (fun _=>False) w w'→R (.returned v) w'):Calls prog 78 #[.pointer (some (blk bb)),opV x pv kv,va,vc] w R:=by
 have Ap:=A.rp
 have Ak:=A.rk
 have Aa:=A.ra
 have Ac:=A.rc
 obtain ⟨pp,pc,rfl,hp1,hp2,hp3⟩:=Ap
 obtain ⟨kp,kc,rfl,hk1,hk2,hk3⟩:=Ak
 obtain ⟨qa,ca,rfl,ha1,ha2,ha3⟩:=Aa
 obtain ⟨qc,cc,rfl,hc1,hc2,hc3⟩:=Ac
 have za:=A.za
 have zc:=A.zc
 have zp:=A.zp
 have zk:=A.zk
 refine sh78_ok ?_
 unfold sh78
 refine mid0 x (.slice pp x.pairs.length pc) (.slice kp x.keys.length kc) A.B fun xb rb w2 M=>?_
 have M:=M.ext (pT w2)
 refine ⟨⟨Cls bb o xb x _ _,M.cls,_,rfl,o,fun w' h=>h.1,_,fun w' h=>h.2.cell (i:=5) rfl rfl,_,fun w' h=>h.2.cell (i:=6) rfl rfl,?_⟩⟩
 have ha:=ha2.ext M.E
 have hc:=hc2.ext M.E
 refine pP call113 (c_range A.inx.lo A.inx.hi ha rfl ha1 (by omega) A.Ia fun p n c3 w3 ho e3=>pN ⟨_,_,_,_,rfl,?_⟩)
 have M3:=M.ext e3
 obtain rfl:(rngP o a x.lo x.hi).length=n:=qF ho
 have zr:(rngP o a x.lo x.hi).length≤5000:=by have:=setL_len o 1 (wR o x.lo x.hi) a [];unfold rngP;simp only [List.length_nil] at this;omega
 refine pP call114 (c_rowsum (l:=rngP o a x.lo x.hi) (rB ho) rfl (by omega) fun w4 e4=>pN ⟨_,rfl,?_⟩)
 have M4:=M3.ext e4
 exact ep7 M4.Y fun w' g=>M4.done A.B (v:=rep0 { Rep.zero with val:=sumL ((rngP o a x.lo x.hi).map (·.2)) }) (uQ rfl rfl) g h
theorem m_list{P:Nat→Prop}{bb:Nat}{o:Int}{L:Rows}{x:POp}{a c:List Pr}{pv kv va vc:Value}(A:Arg P bb o L x a c pv kv va vc w) 
  (h:∀v w',RepAt w.heap.size bb w' v ((({ Rep.zero with n:=a.length,pairs:=a },L):Rep × Rows)).1→BookN P w' bb o ((({ Rep.zero with n:=a.length,pairs:=a },L):Rep × Rows)).2→Chg (BkOwn bb) (fun _=>False) w w'→R (.returned v) w'):Calls prog 79 #[.pointer (some (blk bb)),opV x pv kv,va,vc] w R:=by
 have Ap:=A.rp
 have Ak:=A.rk
 have Aa:=A.ra
 have Ac:=A.rc
 obtain ⟨pp,pc,rfl,hp1,hp2,hp3⟩:=Ap
 obtain ⟨kp,kc,rfl,hk1,hk2,hk3⟩:=Ak
 obtain ⟨qa,ca,rfl,ha1,ha2,ha3⟩:=Aa
 obtain ⟨qc,cc,rfl,hc1,hc2,hc3⟩:=Ac
 have za:=A.za
 have zc:=A.zc
 have zp:=A.zp
 have zk:=A.zk
 refine sh79_ok ?_
 unfold sh79
 refine mid0 x (.slice pp x.pairs.length pc) (.slice kp x.keys.length kc) A.B fun xb rb w2 M=>?_
 refine pP call27 (yR (ha2.ext M.E) rfl (by omega) fun p c3 w3 ho e3=>pN ⟨_,_,_,rfl,?_⟩)
 have M3:=M.ext e3
 have lY:=M.Y.lt
 refine ep7 M3.Y fun w' g=>M3.done A.B ⟨_,_,rfl,rP _ _ _,RowAt.own_row ho (fun k hk=>.inl (M.B.lt ((M.B.own_ext e3 k).1 hk))) (M.B.lt (.inl rfl)),fun a n c e=>(by cases e),fun a' n c e=>?_⟩ g h
 injection e with e1
 have:=(tG ho e1).1
 omega
theorem m_split{P:Nat→Prop}{bb:Nat}{o:Int}{L:Rows}{x:POp}{a c:List Pr}{pv kv va vc:Value}(A:Arg P bb o L x a c pv kv va vc w) 
  (h:∀v w',RepAt w.heap.size bb w' v (sT (wasP o a x.key) L [cutA o a x.key,cutB o a x.key]).1→BookN P w' bb o (sT (wasP o a x.key) L [cutA o a x.key,cutB o a x.key]).2→Chg (BkOwn bb) (fun _=>False) w w'→R (.returned v) w'):Calls prog 80 #[.pointer (some (blk bb)),opV x pv kv,va,vc] w R:=by
 have Ap:=A.rp
 have Ak:=A.rk
 have Aa:=A.ra
 have Ac:=A.rc
 obtain ⟨pp,pc,rfl,hp1,hp2,hp3⟩:=Ap
 obtain ⟨kp,kc,rfl,hk1,hk2,hk3⟩:=Ak
 obtain ⟨qa,ca,rfl,ha1,ha2,ha3⟩:=Aa
 obtain ⟨qc,cc,rfl,hc1,hc2,hc3⟩:=Ac
 have za:=A.za
 have zc:=A.zc
 have zp:=A.zp
 have zk:=A.zk
 refine sh80_ok ?_
 unfold sh80
 refine mid0 x (.slice pp x.pairs.length pc) (.slice kp x.keys.length kc) A.B fun xb rb w2 M=>?_
 have M:=M.ext (pT w2)
 refine ⟨⟨Cls bb o xb x _ _,M.cls,_,rfl,o,fun w' h=>h.1,_,fun w' h=>h.2.cell (i:=3) rfl rfl,?_⟩⟩
 have ha:=ha2.ext M.E
 have hc:=hc2.ext M.E
 have l2:xb < w2.heap.size∧rb < w2.heap.size∧w2.heap.size≤w2.drew.heap.size:=⟨by have:=M.X.lt;simpa using this,by have:=M.Y.lt;simpa using this,(pT w2).size⟩
 refine pP call115 (c_cutF ha rfl ha1 (by omega) A.Ia A.inx.key fun p1 n1 c1 p2 n2 c2 w3 g1 g2 g3 g4 g5 g6 e3 b1 b2=>pN ⟨_,_,_,_,_,_,_,_,rfl,?_⟩)
 have M3:=M.ext e3
 refine ⟨_,M3.X.cell (i:=0) rfl rfl,_,M3.X.cell (i:=1) rfl rfl,_,M3.X.cell (i:=2) rfl rfl,_,M3.X.cell (i:=3) rfl rfl,_,M3.X.cell (i:=4) rfl rfl,_,M3.X.cell (i:=5) rfl rfl,_,M3.X.cell (i:=6) rfl rfl,_,M3.X.cell (i:=7) rfl rfl,_,M3.X.cell (i:=8) rfl rfl,_,M3.X.cell (i:=9) rfl rfl,_,M3.X.cell (i:=10) rfl rfl,_,M3.X.cell (i:=11) rfl rfl,_,M3.X.cell (i:=12) rfl rfl,_,_,_,M3.X.cell (i:=13) rfl rfl,_,_,_,M3.X.cell (i:=14) rfl rfl,?_⟩
 refine pP call99 (c_was M3.B A.inx.key (ha.ext e3) A.Ia A.za fun w4 e4=>pN ⟨_,_,_,_,_,_,_,_,_,_,_,rfl,?_⟩)
 have M4:=M3.ext e4
 have lX:=M.X.lt
 have lY:=M.Y.lt
 have hi:∀k,w2.drew.heap.size≤k→¬BkOwn bb w4 k:=fun k hk hb=>by have:=M.B.lt ((M.B.own_ext (e3.trans e4) k).1 hb);omega
 have hbb:bb < w2.drew.heap.size:=M.B.lt (.inl rfl)
 have e4s:=e4.size
 subst g2 g5
 refine M4.made A.B A.zL (ls:=[cutA o a x.key,cutB o a x.key]) (r:=wasP o a x.key) (by simp) rfl rfl rfl (fun i l hl=>?_) h
 match i,hl with
 | 0,hl=>
  obtain rfl:cutA o a x.key=l:=by simpa using hl
  exact ⟨_,rfl,⟨p1,c1,rfl,g3,g1.ext e4,fun d hd _=>⟨hi _ (b1 d hd).1,by have:=(b1 d hd).1;omega,by have:=(b1 d hd).2;omega⟩⟩,fun d n c e _=>by injection e with e1;have:=(b1 d e1).1;have:=M.E.size;exact ⟨A.hP _ (by omega),by omega,by omega⟩⟩
 | 1,hl=>
  obtain rfl:cutB o a x.key=l:=by simpa using hl
  exact ⟨_,rfl,⟨p2,c2,rfl,g6,g4.ext e4,fun d hd _=>⟨hi _ (b2 d hd).1,by have:=(b2 d hd).1;omega,by have:=(b2 d hd).2;omega⟩⟩,fun d n c e _=>by injection e with e1;have:=(b2 d e1).1;have:=M.E.size;exact ⟨A.hP _ (by omega),by omega,by omega⟩⟩
 | i+2,hl=>simp at hl
theorem m_drops{P:Nat→Prop}{bb:Nat}{o:Int}{L:Rows}{x:POp}{a c:List Pr}{pv kv va vc:Value}(A:Arg P bb o L x a c pv kv va vc w)(HO:isO o=true)
  (h:∀v w',RepAt w.heap.size bb w' v (countP L (setL o 1 wL a (srtP o 1 (x.keys.map fun k=>(k,0))))).1→BookN P w' bb o (countP L (setL o 1 wL a (srtP o 1 (x.keys.map fun k=>(k,0))))).2→Chg (BkOwn bb) (fun _=>False) w w'→R (.returned v) w'):Calls prog 73 #[.pointer (some (blk bb)),opV x pv kv,va,vc] w R:=by
 have Ap:=A.rp
 have Ak:=A.rk
 have Aa:=A.ra
 have Ac:=A.rc
 obtain ⟨pp,pc,rfl,hp1,hp2,hp3⟩:=Ap
 obtain ⟨kp,kc,rfl,hk1,hk2,hk3⟩:=Ak
 obtain ⟨qa,ca,rfl,ha1,ha2,ha3⟩:=Aa
 obtain ⟨qc,cc,rfl,hc1,hc2,hc3⟩:=Ac
 have za:=A.za
 have zc:=A.zc
 have zp:=A.zp
 have zk:=A.zk
 refine sh73_ok ?_
 unfold sh73
 refine mid0 x (.slice pp x.pairs.length pc) (.slice kp x.keys.length kc) A.B fun xb rb w2 M=>?_
 refine ⟨_,_,_,M.X.cell (i:=14) rfl rfl,?_⟩
 have hks:=hk2.ext M.E
 refine ⟨fun vs w'=>∃(k:Nat) (p:OA) (c:Nat),vs=[.slice p k c,.int .i64 (k:Int)]∧k≤x.keys.length∧OwnP w' w2.heap.size p k c ((x.keys.take k).map fun k=>(k,0))∧Ext w2 w',
  fun vs _=>match vs with | [_,.int _ i]=>x.keys.length - i.toNat | _=>0,⟨0,none,0,rfl,Nat.zero_le _,World.ownsRow_nil _ _ _ _,pR _⟩,?_⟩
 rintro p k c3 i_ _ w3 ⟨k0,p0,c0,hv,hk,ho,E3⟩
 simp only [List.cons.injEq,Value.int.injEq,Value.slice.injEq,true_and,and_true] at hv
 obtain ⟨⟨rfl,rfl,rfl⟩,rfl⟩:=hv
 refine pO (fun z=>?_) fun z=>?_
 ·have z:k < x.keys.length:=by have:=of_decide_eq_true z;omega
  refine aIm (hks.ext E3) rfl (by omega) (by omega) fun a1 _ r1=>⟨_,r1,⟨?_⟩⟩
  have eg:x.keys.getD (k:Int).toNat 0=x.keys[k]:=by rw [Int.toNat_natCast,List.getD_eq_getElem?_getD,List.getElem?_eq_getElem z];rfl
  rw [eg]
  have e5:=pQ w3 (.cells #[.int .i64 x.keys[k],.int .i64 0] 63)
  have hx5:=qY w3 #[.int .i64 x.keys[k],.int .i64 0] 63
  have ho5:=e5.row ho
  have E5:=E3.trans e5
  generalize w3.alloc (.cells #[.int .i64 x.keys[k],.int .i64 0] 63)=w5 at *
  refine wI elPo ho5 (m:=1) hx5 (by simp) (by simp [Value.oneCell']) (by simp only [maxLen];omega) (by omega) E5.size fun p' c' w' h1 g=>pN ⟨_,_,_,rfl,?_⟩
  rw [pW z (by omega)]
  refine ⟨⟨k+1,p',c',rfl,by omega,?_,E5.grown g fun b hb=>(ho5.lt b hb).1⟩,?_⟩
  ·rw [←List.take_append_getElem z,List.map_append]
   show World.ownsRow w' _ _ _ _ _ (prs (_++_))
   rw [rH]
   exact h1
  ·show x.keys.length - ((k+1:Nat):Int).toNat < x.keys.length - (k:Int).toNat
   omega
 ·have z:k=x.keys.length:=by have:=of_decide_eq_false z;omega
  subst z
  rw [List.take_of_length_le (Nat.le_refl _)] at ho
  have M3:=M.ext E3
  have hI:InP (x.keys.map fun k=>(k,0)):=fun y hy=>by
   obtain ⟨k,hk,rfl⟩:=List.mem_map.1 hy
   exact ⟨A.inx.keys k hk,by unfold In;omega⟩
  refine ⟨_,rfl,o,M3.B.ord,pP call106 (c_rsort (rB ho) (qF ho) (by omega) hI fun ps ns cs w4 hs e4=>pN ⟨_,_,_,_,rfl,?_⟩)⟩
  have M4:=M3.ext e4
  have sp:=aBk (o:=o) (p:=1) (l:=x.keys.map fun k=>(k,0)) HO hI
  have ns0:=qF hs
  have hm:a.length+ns≤1000000:=by
   have h4:=sp.2.2.2
   unfold srtP at h4
   rw [List.length_map] at h4
   omega
  refine ⟨_,rfl,o,M4.B.ord,pP call109 (c_le (ha2.ext M4.E) rfl ha1 (rB hs) ns0 (tD hs) hm A.Ia sp.2.1 fun p n c3 w5 ho5 e5=>pN ⟨_,_,_,_,rfl,pP call105 (M4.count' A.B A.hP A.zL ho5 e5 h)⟩)⟩
theorem yQ{P:Nat→Prop}{bb:Nat}{o m:Int}{L:Rows}(hB:BookN P w bb o L)(h:R (.returned (.bool (qM L m))) w):Calls prog 26 #[.pointer (some (blk bb)),.int .i64 m] w R:=by
 refine sh26_ok ?_
 unfold sh26
 obtain ⟨p,c,vs,hb,_⟩:=hB.ex
 intro K5
 refine pO (fun z=>?_) fun z=>?_
 ·have z:0≤m:=by have:=of_decide_eq_true z;omega
  refine ⟨_,rfl,_,_,_,hb.cell (i:=1) rfl rfl,?_⟩
  have e:qM L m=decide (m < (L.length:Int)):=by
   unfold qM
   rw [decide_eq_decide]
   omega
  rw [e] at h
  exact h
 ·have z:¬0≤m:=by have:=of_decide_eq_false z;omega
  have e:qM L m=false:=by unfold qM;exact decide_eq_false (by omega)
  rw [e] at h
  exact h
def pe1(bb:Nat):MapEntry:={ key:=.int .u8 1,val:=.agg #[.int .i64 1,.bool true,.bool false,.bool false,.func (.func 59) #[.pointer (some (blk bb))] #[]],born:=0 }
def pe2(bb:Nat):MapEntry:={ key:=.int .u8 2,val:=.agg #[.int .i64 1,.bool true,.bool false,.bool false,.func (.func 60) #[.pointer (some (blk bb))] #[]],born:=1 }
def pe3(bb:Nat):MapEntry:={ key:=.int .u8 3,val:=.agg #[.int .i64 0,.bool true,.bool false,.bool false,.func (.func 61) #[.pointer (some (blk bb))] #[]],born:=2 }
def pe4(bb:Nat):MapEntry:={ key:=.int .u8 4,val:=.agg #[.int .i64 0,.bool true,.bool false,.bool false,.func (.func 62) #[.pointer (some (blk bb))] #[]],born:=3 }
def pe5(bb:Nat):MapEntry:={ key:=.int .u8 5,val:=.agg #[.int .i64 0,.bool true,.bool false,.bool false,.func (.func 63) #[.pointer (some (blk bb))] #[]],born:=4 }
def pe6(bb:Nat):MapEntry:={ key:=.int .u8 6,val:=.agg #[.int .i64 0,.bool true,.bool false,.bool false,.func (.func 64) #[.pointer (some (blk bb))] #[]],born:=5 }
def pe7(bb:Nat):MapEntry:={ key:=.int .u8 7,val:=.agg #[.int .i64 0,.bool true,.bool false,.bool false,.func (.func 65) #[.pointer (some (blk bb))] #[]],born:=6 }
def pe8(bb:Nat):MapEntry:={ key:=.int .u8 8,val:=.agg #[.int .i64 1,.bool false,.bool false,.bool false,.func (.func 66) #[.pointer (some (blk bb))] #[]],born:=7 }
def pe9(bb:Nat):MapEntry:={ key:=.int .u8 9,val:=.agg #[.int .i64 1,.bool true,.bool true,.bool false,.func (.func 67) #[.pointer (some (blk bb))] #[]],born:=8 }
def pe10(bb:Nat):MapEntry:={ key:=.int .u8 10,val:=.agg #[.int .i64 1,.bool true,.bool true,.bool false,.func (.func 68) #[.pointer (some (blk bb))] #[]],born:=9 }
def pe11(bb:Nat):MapEntry:={ key:=.int .u8 11,val:=.agg #[.int .i64 1,.bool true,.bool true,.bool false,.func (.func 69) #[.pointer (some (blk bb))] #[]],born:=10 }
def pe12(bb:Nat):MapEntry:={ key:=.int .u8 12,val:=.agg #[.int .i64 1,.bool true,.bool true,.bool false,.func (.func 70) #[.pointer (some (blk bb))] #[]],born:=11 }
def pe13(bb:Nat):MapEntry:={ key:=.int .u8 13,val:=.agg #[.int .i64 1,.bool true,.bool false,.bool false,.func (.func 71) #[.pointer (some (blk bb))] #[]],born:=12 }
def pe14(bb:Nat):MapEntry:={ key:=.int .u8 14,val:=.agg #[.int .i64 1,.bool true,.bool false,.bool false,.func (.func 72) #[.pointer (some (blk bb))] #[]],born:=13 }
def pe15(bb:Nat):MapEntry:={ key:=.int .u8 15,val:=.agg #[.int .i64 1,.bool true,.bool false,.bool false,.func (.func 73) #[.pointer (some (blk bb))] #[]],born:=14 }
def pe16(bb:Nat):MapEntry:={ key:=.int .u8 16,val:=.agg #[.int .i64 0,.bool true,.bool false,.bool false,.func (.func 74) #[.pointer (some (blk bb))] #[]],born:=15 }
def pe17(bb:Nat):MapEntry:={ key:=.int .u8 17,val:=.agg #[.int .i64 0,.bool true,.bool false,.bool false,.func (.func 75) #[.pointer (some (blk bb))] #[]],born:=16 }
def pe18(bb:Nat):MapEntry:={ key:=.int .u8 18,val:=.agg #[.int .i64 1,.bool true,.bool false,.bool true,.func (.func 76) #[.pointer (some (blk bb))] #[]],born:=17 }
def pe19(bb:Nat):MapEntry:={ key:=.int .u8 19,val:=.agg #[.int .i64 0,.bool true,.bool false,.bool true,.func (.func 77) #[.pointer (some (blk bb))] #[]],born:=18 }
def pe20(bb:Nat):MapEntry:={ key:=.int .u8 20,val:=.agg #[.int .i64 0,.bool true,.bool false,.bool true,.func (.func 78) #[.pointer (some (blk bb))] #[]],born:=19 }
def pe21(bb:Nat):MapEntry:={ key:=.int .u8 21,val:=.agg #[.int .i64 0,.bool true,.bool false,.bool false,.func (.func 79) #[.pointer (some (blk bb))] #[]],born:=20 }
def pe22(bb:Nat):MapEntry:={ key:=.int .u8 22,val:=.agg #[.int .i64 2,.bool true,.bool false,.bool false,.func (.func 80) #[.pointer (some (blk bb))] #[]],born:=21 }
def aEs(bb:Nat):Array MapEntry:=#[pe1 bb,pe2 bb,pe3 bb,pe4 bb,pe5 bb,pe6 bb,pe7 bb,pe8 bb,pe9 bb,pe10 bb,pe11 bb,pe12 bb,pe13 bb,pe14 bb,pe15 bb,pe16 bb,pe17 bb,pe18 bb,pe19 bb,pe20 bb,pe21 bb,pe22 bb]
theorem aKv{bb:Nat}(h:∀m w',Ext w w'→w'.heap[m]?=some (.map (aEs bb) 22)→w.heap.size≤m→R (.returned (.map (some m))) w'):Calls prog 28 #[.pointer (some (blk bb))] w R:=by
 refine sh28_ok ?_
 unfold sh28
 refine ⟨?_⟩
 refine qE underlying74 underlying5 (heap_alloc_new w _) (by rfl) (by rfl) fun w1 h1 g1=>?_
 have h1:w1.heap[w.heap.size]?=some (.map #[pe1 bb] 1):=h1
 refine qE underlying74 underlying5 h1 (by rfl) (by rfl) fun w2 h2 g2=>?_
 have h2:w2.heap[w.heap.size]?=some (.map #[pe1 bb,pe2 bb] 2):=h2
 refine qE underlying74 underlying5 h2 (by rfl) (by rfl) fun w3 h3 g3=>?_
 have h3:w3.heap[w.heap.size]?=some (.map #[pe1 bb,pe2 bb,pe3 bb] 3):=h3
 refine qE underlying74 underlying5 h3 (by rfl) (by rfl) fun w4 h4 g4=>?_
 have h4:w4.heap[w.heap.size]?=some (.map #[pe1 bb,pe2 bb,pe3 bb,pe4 bb] 4):=h4
 refine qE underlying74 underlying5 h4 (by rfl) (by rfl) fun w5 h5 g5=>?_
 have h5:w5.heap[w.heap.size]?=some (.map #[pe1 bb,pe2 bb,pe3 bb,pe4 bb,pe5 bb] 5):=h5
 refine qE underlying74 underlying5 h5 (by rfl) (by rfl) fun w6 h6 g6=>?_
 have h6:w6.heap[w.heap.size]?=some (.map #[pe1 bb,pe2 bb,pe3 bb,pe4 bb,pe5 bb,pe6 bb] 6):=h6
 refine qE underlying74 underlying5 h6 (by rfl) (by rfl) fun w7 h7 g7=>?_
 have h7:w7.heap[w.heap.size]?=some (.map #[pe1 bb,pe2 bb,pe3 bb,pe4 bb,pe5 bb,pe6 bb,pe7 bb] 7):=h7
 refine qE underlying74 underlying5 h7 (by rfl) (by rfl) fun w8 h8 g8=>?_
 have h8:w8.heap[w.heap.size]?=some (.map #[pe1 bb,pe2 bb,pe3 bb,pe4 bb,pe5 bb,pe6 bb,pe7 bb,pe8 bb] 8):=h8
 refine qE underlying74 underlying5 h8 (by rfl) (by rfl) fun w9 h9 g9=>?_
 have h9:w9.heap[w.heap.size]?=some (.map #[pe1 bb,pe2 bb,pe3 bb,pe4 bb,pe5 bb,pe6 bb,pe7 bb,pe8 bb,pe9 bb] 9):=h9
 refine qE underlying74 underlying5 h9 (by rfl) (by rfl) fun w10 h10 g10=>?_
 have h10:w10.heap[w.heap.size]?=some (.map #[pe1 bb,pe2 bb,pe3 bb,pe4 bb,pe5 bb,pe6 bb,pe7 bb,pe8 bb,pe9 bb,pe10 bb] 10):=h10
 refine qE underlying74 underlying5 h10 (by rfl) (by rfl) fun w11 h11 g11=>?_
 have h11:w11.heap[w.heap.size]?=some (.map #[pe1 bb,pe2 bb,pe3 bb,pe4 bb,pe5 bb,pe6 bb,pe7 bb,pe8 bb,pe9 bb,pe10 bb,pe11 bb] 11):=h11
 refine qE underlying74 underlying5 h11 (by rfl) (by rfl) fun w12 h12 g12=>?_
 have h12:w12.heap[w.heap.size]?=some (.map #[pe1 bb,pe2 bb,pe3 bb,pe4 bb,pe5 bb,pe6 bb,pe7 bb,pe8 bb,pe9 bb,pe10 bb,pe11 bb,pe12 bb] 12):=h12
 refine qE underlying74 underlying5 h12 (by rfl) (by rfl) fun w13 h13 g13=>?_
 have h13:w13.heap[w.heap.size]?=some (.map #[pe1 bb,pe2 bb,pe3 bb,pe4 bb,pe5 bb,pe6 bb,pe7 bb,pe8 bb,pe9 bb,pe10 bb,pe11 bb,pe12 bb,pe13 bb] 13):=h13
 refine qE underlying74 underlying5 h13 (by rfl) (by rfl) fun w14 h14 g14=>?_
 have h14:w14.heap[w.heap.size]?=some (.map #[pe1 bb,pe2 bb,pe3 bb,pe4 bb,pe5 bb,pe6 bb,pe7 bb,pe8 bb,pe9 bb,pe10 bb,pe11 bb,pe12 bb,pe13 bb,pe14 bb] 14):=h14
 refine qE underlying74 underlying5 h14 (by rfl) (by rfl) fun w15 h15 g15=>?_
 have h15:w15.heap[w.heap.size]?=some (.map #[pe1 bb,pe2 bb,pe3 bb,pe4 bb,pe5 bb,pe6 bb,pe7 bb,pe8 bb,pe9 bb,pe10 bb,pe11 bb,pe12 bb,pe13 bb,pe14 bb,pe15 bb] 15):=h15
 refine qE underlying74 underlying5 h15 (by rfl) (by rfl) fun w16 h16 g16=>?_
 have h16:w16.heap[w.heap.size]?=some (.map #[pe1 bb,pe2 bb,pe3 bb,pe4 bb,pe5 bb,pe6 bb,pe7 bb,pe8 bb,pe9 bb,pe10 bb,pe11 bb,pe12 bb,pe13 bb,pe14 bb,pe15 bb,pe16 bb] 16):=h16
 refine qE underlying74 underlying5 h16 (by rfl) (by rfl) fun w17 h17 g17=>?_
 have h17:w17.heap[w.heap.size]?=some (.map #[pe1 bb,pe2 bb,pe3 bb,pe4 bb,pe5 bb,pe6 bb,pe7 bb,pe8 bb,pe9 bb,pe10 bb,pe11 bb,pe12 bb,pe13 bb,pe14 bb,pe15 bb,pe16 bb,pe17 bb] 17):=h17
 refine qE underlying74 underlying5 h17 (by rfl) (by rfl) fun w18 h18 g18=>?_
 have h18:w18.heap[w.heap.size]?=some (.map #[pe1 bb,pe2 bb,pe3 bb,pe4 bb,pe5 bb,pe6 bb,pe7 bb,pe8 bb,pe9 bb,pe10 bb,pe11 bb,pe12 bb,pe13 bb,pe14 bb,pe15 bb,pe16 bb,pe17 bb,pe18 bb] 18):=h18
 refine qE underlying74 underlying5 h18 (by rfl) (by rfl) fun w19 h19 g19=>?_
 have h19:w19.heap[w.heap.size]?=some (.map #[pe1 bb,pe2 bb,pe3 bb,pe4 bb,pe5 bb,pe6 bb,pe7 bb,pe8 bb,pe9 bb,pe10 bb,pe11 bb,pe12 bb,pe13 bb,pe14 bb,pe15 bb,pe16 bb,pe17 bb,pe18 bb,pe19 bb] 19):=h19
 refine qE underlying74 underlying5 h19 (by rfl) (by rfl) fun w20 h20 g20=>?_
 have h20:w20.heap[w.heap.size]?=some (.map #[pe1 bb,pe2 bb,pe3 bb,pe4 bb,pe5 bb,pe6 bb,pe7 bb,pe8 bb,pe9 bb,pe10 bb,pe11 bb,pe12 bb,pe13 bb,pe14 bb,pe15 bb,pe16 bb,pe17 bb,pe18 bb,pe19 bb,pe20 bb] 20):=h20
 refine qE underlying74 underlying5 h20 (by rfl) (by rfl) fun w21 h21 g21=>?_
 have h21:w21.heap[w.heap.size]?=some (.map #[pe1 bb,pe2 bb,pe3 bb,pe4 bb,pe5 bb,pe6 bb,pe7 bb,pe8 bb,pe9 bb,pe10 bb,pe11 bb,pe12 bb,pe13 bb,pe14 bb,pe15 bb,pe16 bb,pe17 bb,pe18 bb,pe19 bb,pe20 bb,pe21 bb] 21):=h21
 refine qE underlying74 underlying5 h21 (by rfl) (by rfl) fun w22 h22 g22=>?_
 have h22:w22.heap[w.heap.size]?=some (.map #[pe1 bb,pe2 bb,pe3 bb,pe4 bb,pe5 bb,pe6 bb,pe7 bb,pe8 bb,pe9 bb,pe10 bb,pe11 bb,pe12 bb,pe13 bb,pe14 bb,pe15 bb,pe16 bb,pe17 bb,pe18 bb,pe19 bb,pe20 bb,pe21 bb,pe22 bb] 22):=h22
 have e:=pQ w (.map #[] 0)
 exact h _ _ ((((((((((((((((((((((e.st g1 (Nat.le_refl _)).st g2 (Nat.le_refl _)).st g3 (Nat.le_refl _)).st g4 (Nat.le_refl _)).st g5 (Nat.le_refl _)).st g6 (Nat.le_refl _)).st g7 (Nat.le_refl _)).st g8 (Nat.le_refl _)).st g9 (Nat.le_refl _)).st g10 (Nat.le_refl _)).st g11 (Nat.le_refl _)).st g12 (Nat.le_refl _)).st g13 (Nat.le_refl _)).st g14 (Nat.le_refl _)).st g15 (Nat.le_refl _)).st g16 (Nat.le_refl _)).st g17 (Nat.le_refl _)).st g18 (Nat.le_refl _)).st g19 (Nat.le_refl _)).st g20 (Nat.le_refl _)).st g21 (Nat.le_refl _)).st g22 (Nat.le_refl _)) h22 (Nat.le_refl _)
theorem qX{P:Program}{k:Nat}{first cap ars bs:Array Value}(he:∀ars w,(callFunc k ars).run P w=.ok (.enter k ars) w)(hb:first++ars++cap=bs)(h:Calls P k bs w R):
  doCall P (.func (.func k) first cap) ars w R:=⟨xA he (by subst hb;exact h)⟩
def kV(bb:Nat)(d:Int)(f:Nat):Value:=.agg #[.int .i64 (mkN d:Nat),.bool (kA d),.bool (kB d),.bool (kS d),.func (.func f) #[.pointer (some (blk bb))] #[]]
def Does(bb:Nat)(d:Int)(f:Nat):Prop:=∀(P:Nat→Prop) (o:Int) (L:Rows) (x:POp) (a c:List Pr) (pv kv va vc:Value) (w:World) (R:EW),Arg P bb o L x a c pv kv va vc w→x.op=d→isO o=true→(d=17→0≤x.n∧x.n < a.length)→
 (∀v w',RepAt w.heap.size bb w' v (actP o L x a c).1→BookN P w' bb o (actP o L x a c).2→Chg (BkOwn bb) (fun _=>False) w w'→R (.returned v) w')→doCall prog (.func (.func f) #[.pointer (some (blk bb))] #[]) #[opV x pv kv,va,vc] w R
theorem aPt{bb:Nat}{d:Int}(hd:1≤d∧d≤22):∃i f,Instr.findNow (.int .u8) (.int .u8 d) (aEs bb).toList 0=some (some (i,kV bb d f))∧Does bb d f:=by
 have hc:d=1∨d=2∨d=3∨d=4∨d=5∨d=6∨d=7∨d=8∨d=9∨d=10∨d=11∨d=12∨d=13∨d=14∨d=15∨d=16∨d=17∨d=18∨d=19∨d=20∨d=21∨d=22:=by omega
 rcases hc with rfl | rfl | rfl | rfl | rfl | rfl | rfl | rfl | rfl | rfl | rfl | rfl | rfl | rfl | rfl | rfl | rfl | rfl | rfl | rfl | rfl | rfl
 ·refine ⟨0,59,rfl,fun P o L x a c pv kv va vc w R A hop ho hn h=>?_⟩
  simp only [actP,hop] at h
  exact qX call59 (by rfl) (m_insert A h)
 ·refine ⟨1,60,rfl,fun P o L x a c pv kv va vc w R A hop ho hn h=>?_⟩
  simp only [actP,hop] at h
  exact qX call60 (by rfl) (m_delete A h)
 ·refine ⟨2,61,rfl,fun P o L x a c pv kv va vc w R A hop ho hn h=>?_⟩
  simp only [actP,hop] at h
  exact qX call61 (by rfl) (m_get A h)
 ·refine ⟨3,62,rfl,fun P o L x a c pv kv va vc w R A hop ho hn h=>?_⟩
  simp only [actP,hop] at h
  exact qX call62 (by rfl) (m_min A h)
 ·refine ⟨4,63,rfl,fun P o L x a c pv kv va vc w R A hop ho hn h=>?_⟩
  simp only [actP,hop] at h
  exact qX call63 (by rfl) (m_max A h)
 ·refine ⟨5,64,rfl,fun P o L x a c pv kv va vc w R A hop ho hn h=>?_⟩
  simp only [actP,hop] at h
  exact qX call64 (by rfl) (m_floor A h)
 ·refine ⟨6,65,rfl,fun P o L x a c pv kv va vc w R A hop ho hn h=>?_⟩
  simp only [actP,hop] at h
  exact qX call65 (by rfl) (m_ceil A h)
 ·refine ⟨7,66,rfl,fun P o L x a c pv kv va vc w R A hop ho hn h=>?_⟩
  simp only [actP,hop] at h
  exact qX call66 (by rfl) (m_build A h)
 ·refine ⟨8,67,rfl,fun P o L x a c pv kv va vc w R A hop ho hn h=>?_⟩
  simp only [actP,hop] at h
  exact qX call67 (by rfl) (m_union A h)
 ·refine ⟨9,68,rfl,fun P o L x a c pv kv va vc w R A hop ho hn h=>?_⟩
  simp only [actP,hop] at h
  exact qX call68 (by rfl) (m_meet A h)
 ·refine ⟨10,69,rfl,fun P o L x a c pv kv va vc w R A hop ho hn h=>?_⟩
  simp only [actP,hop] at h
  exact qX call69 (by rfl) (m_less A h)
 ·refine ⟨11,70,rfl,fun P o L x a c pv kv va vc w R A hop ho hn h=>?_⟩
  simp only [actP,hop] at h
  exact qX call70 (by rfl) (m_apart A h)
 ·refine ⟨12,71,rfl,fun P o L x a c pv kv va vc w R A hop ho hn h=>?_⟩
  simp only [actP,hop] at h
  exact qX call71 (by rfl) (m_keep A h)
 ·refine ⟨13,72,rfl,fun P o L x a c pv kv va vc w R A hop ho hn h=>?_⟩
  simp only [actP,hop] at h
  exact qX call72 (by rfl) (m_puts A ho h)
 ·refine ⟨14,73,rfl,fun P o L x a c pv kv va vc w R A hop ho hn h=>?_⟩
  simp only [actP,hop] at h
  exact qX call73 (by rfl) (m_drops A ho h)
 ·refine ⟨15,74,rfl,fun P o L x a c pv kv va vc w R A hop ho hn h=>?_⟩
  simp only [actP,hop] at h
  exact qX call74 (by rfl) (m_rank A h)
 ·refine ⟨16,75,rfl,fun P o L x a c pv kv va vc w R A hop ho hn h=>?_⟩
  simp only [actP,hop] at h
  exact qX call75 (by rfl) (m_pick A (hn rfl) h)
 ·refine ⟨17,76,rfl,fun P o L x a c pv kv va vc w R A hop ho hn h=>?_⟩
  simp only [actP,hop] at h
  exact qX call76 (by rfl) (m_span A h)
 ·refine ⟨18,77,rfl,fun P o L x a c pv kv va vc w R A hop ho hn h=>?_⟩
  simp only [actP,hop] at h
  exact qX call77 (by rfl) (m_count A h)
 ·refine ⟨19,78,rfl,fun P o L x a c pv kv va vc w R A hop ho hn h=>?_⟩
  simp only [actP,hop] at h
  exact qX call78 (by rfl) (m_sum A h)
 ·refine ⟨20,79,rfl,fun P o L x a c pv kv va vc w R A hop ho hn h=>?_⟩
  simp only [actP,hop] at h
  exact qX call79 (by rfl) (m_list A h)
 ·refine ⟨21,80,rfl,fun P o L x a c pv kv va vc w R A hop ho hn h=>?_⟩
  simp only [actP,hop] at h
  exact qX call80 (by rfl) (m_split A h)
theorem aFj{bb:Nat}{d:Int}(hd:¬(1≤d∧d≤22)):Instr.findNow (.int .u8) (.int .u8 d) (aEs bb).toList 0=some none:=by
 have hn:∀i:Int,1≤i→i≤22→(d==i)=false:=fun i h1 h2=>by simp;omega
 simp [aEs,pe1,pe2,pe3,pe4,pe5,pe6,pe7,pe8,pe9,pe10,pe11,pe12,pe13,pe14,pe15,pe16,pe17,pe18,pe19,pe20,pe21,pe22,Instr.findNow,Instr.sameNow,hn]
end Go.Proofs.YtmdboekndjlmgaaGreat
