/-
  What the methods of a book of versions share.
-/
import Derived.Test.YtmdboekndjlmgaaGreatZ31
set_option maxRecDepth 100000
set_option maxHeartbeats 6400000
namespace Go.Proofs.YtmdboekndjlmgaaGreat
open Go Go.Sh Go.RowKit Tryz
variable {w:World}{R:EW}
theorem ep7{b:Nat}{a0 a1 a2 a3 a4 a5 a6:Value}{t:TypeId}{x0:Int}{x1:Bool}{x2 x3 x4:Int}{p5:OA}{n5 c5:Nat}{p6:OA}{n6 c6:Nat}(h:Blk w b #[a0,a1,a2,a3,a4,a5,a6] t)(k:∀w',w.grownBy w' (some b)→R (.returned (.agg #[.int .i64 x0,.bool x1,.int .i64 x2,.int .i64 x3,.int .i64 x4,.slice p5 n5 c5,.slice p6 n6 c6])) w'):
  doSt ((blk b).add 0) (.int .i64 x0) w fun w1=>doSt ((blk b).add 1) (.bool x1) w1 fun w2=>doSt ((blk b).add 2) (.int .i64 x2) w2 fun w3=>doSt ((blk b).add 3) (.int .i64 x3) w3 fun w4=>doSt ((blk b).add 4) (.int .i64 x4) w4 fun w5=>doSt ((blk b).add 5) (.slice p5 n5 c5) w5 fun w6=>doSt ((blk b).add 6) (.slice p6 n6 c6) w6 fun w7=>∃(y0:Int),w7.cell? ((blk b).add 0)=some (.int .i64 y0)∧(∃(y1:Bool),w7.cell? ((blk b).add 1)=some (.bool y1)∧(∃(y2:Int),w7.cell? ((blk b).add 2)=some (.int .i64 y2)∧(∃(y3:Int),w7.cell? ((blk b).add 3)=some (.int .i64 y3)∧(∃(y4:Int),w7.cell? ((blk b).add 4)=some (.int .i64 y4)∧(∃(q5:OA),∃(m5:Nat),∃(d5:Nat),w7.cell? ((blk b).add 5)=some (.slice q5 m5 d5)∧(∃(q6:OA),∃(m6:Nat),∃(d6:Nat),w7.cell? ((blk b).add 6)=some (.slice q6 m6 d6)∧(R (.returned (.agg #[.int .i64 y0,.bool y1,.int .i64 y2,.int .i64 y3,.int .i64 y4,.slice q5 m5 d5,.slice q6 m6 d6])) w7))))))):=by
 refine st7 h fun w' H g=>?_
 exact ⟨_,H.cell (i:=0) rfl rfl,_,H.cell (i:=1) rfl rfl,_,H.cell (i:=2) rfl rfl,_,H.cell (i:=3) rfl rfl,_,H.cell (i:=4) rfl rfl,_,_,_,H.cell (i:=5) rfl rfl,_,_,_,H.cell (i:=6) rfl rfl,k w' g⟩
theorem RepAt.st{N bb:Nat}{w w':World}{v:Value}{r:Rep}{b:Nat}(h:RepAt N bb w v r)(g:w.grownBy w' (some b))(hb:b < N)(ho:∀k,BkOwn bb w' k→BkOwn bb w k):RepAt N bb w' v r:=by
 obtain ⟨nv,pv,rfl,⟨q1,c1,rfl,a1,a2,a3⟩,⟨q2,c2,rfl,b1,b2,b3⟩,n1,n2⟩:=h.ex
 refine ⟨_,_,rfl,⟨q1,c1,rfl,a1,xY a2 g fun a ha hz=>?_,fun a ha hz=>⟨fun hk=>(a3 a ha hz).1 (ho _ hk),(a3 a ha hz).2.1,Nat.lt_of_lt_of_le (a3 a ha hz).2.2 g.size⟩⟩,⟨q2,c2,rfl,b1,xY b2 g fun a ha hz=>?_,fun a ha hz=>⟨fun hk=>(b3 a ha hz).1 (ho _ hk),(b3 a ha hz).2.1,Nat.lt_of_lt_of_le (b3 a ha hz).2.2 g.size⟩⟩,n1,n2⟩
 ·have:=n1 a _ _ (by rw [ha]);omega
 ·have:=n2 a _ _ (by rw [ha]);omega
theorem RepAt.mono{N M bb:Nat}{v:Value}{r:Rep}(h:RepAt N bb w v r)(hM:M≤N):RepAt M bb w v r:=by
 obtain ⟨nv,pv,e,h1,h2,n1,n2⟩:=h.ex
 exact ⟨nv,pv,e,h1,h2,fun a n c e=>Nat.le_trans hM (n1 a n c e),fun a n c e=>Nat.le_trans hM (n2 a n c e)⟩
theorem RowAt.ext'{P:Nat→Prop}{bb:Nat}{w w':World}{o:Int}{L:Rows}{v:Value}{n:Nat}{xs:List Value}(h:RowAt (BkOwn bb) bb w v n xs)(hB:BookN P w bb o L)(e:Ext w w'):RowAt (BkOwn bb) bb w' v n xs:=h.chg (hB.chg e)
theorem uQ{N bb:Nat}{r:Rep}(h1:r.new=[])(h2:r.pairs=[]):RepAt N bb w (rep0 r) r:=
 ⟨_,_,rfl,by rw [h1];exact rP _ _ _,by rw [h2];exact rP _ _ _,fun a n c e=>(by cases e),fun a n c e=>(by cases e)⟩
theorem aHz{P:Nat→Prop}{bb M b:Nat}{o:Int}{L:Rows}{r:Rep}{w0 w:World}{v:Value}{a0 a1 a2 a3 a4 a5 a6:Value}{t:TypeId}{C:World→Prop}(hR:RepAt M bb w v r)(hB:BookN P w bb o L)(hC:Chg (BkOwn bb) (fun _=>False) w0 w)(hY:Blk w b #[a0,a1,a2,a3,a4,a5,a6] t)
  (hM:b < M) (hN:w0.heap.size≤b) (hP:¬P b) (nr:¬BkOwn bb w b) (hc:C w) (h:∀v w',RepAt b bb w' v r→BookN P w' bb o L→Chg (BkOwn bb) (fun _=>False) w0 w'→R (.returned v) w') :
  ∃(x0:Int),∃(x1:Bool),∃(x2:Int),∃(x3:Int),∃(x4:Int),∃(p5:OA),∃(n5:Nat),∃(c5:Nat),∃(p6:OA),∃(n6:Nat),∃(c6:Nat),v=(.agg #[.int .i64 x0,.bool x1,.int .i64 x2,.int .i64 x3,.int .i64 x4,.slice p5 n5 c5,.slice p6 n6 c6]:Value)∧(C w∧(doSt ((blk b).add 0) (.int .i64 x0) w fun w1=>doSt ((blk b).add 1) (.bool x1) w1 fun w2=>doSt ((blk b).add 2) (.int .i64 x2) w2 fun w3=>doSt ((blk b).add 3) (.int .i64 x3) w3 fun w4=>doSt ((blk b).add 4) (.int .i64 x4) w4 fun w5=>doSt ((blk b).add 5) (.slice p5 n5 c5) w5 fun w6=>doSt ((blk b).add 6) (.slice p6 n6 c6) w6 fun w7=>∃(y0:Int),w7.cell? ((blk b).add 0)=some (.int .i64 y0)∧(∃(y1:Bool),w7.cell? ((blk b).add 1)=some (.bool y1)∧(∃(y2:Int),w7.cell? ((blk b).add 2)=some (.int .i64 y2)∧(∃(y3:Int),w7.cell? ((blk b).add 3)=some (.int .i64 y3)∧(∃(y4:Int),w7.cell? ((blk b).add 4)=some (.int .i64 y4)∧(∃(q5:OA),∃(m5:Nat),∃(d5:Nat),w7.cell? ((blk b).add 5)=some (.slice q5 m5 d5)∧(∃(q6:OA),∃(m6:Nat),∃(d6:Nat),w7.cell? ((blk b).add 6)=some (.slice q6 m6 d6)∧(R (.returned (.agg #[.int .i64 y0,.bool y1,.int .i64 y2,.int .i64 y3,.int .i64 y4,.slice q5 m5 d5,.slice q6 m6 d6])) w7))))))))):=by
 obtain ⟨nv,pv,e,⟨q1,c1,rfl,a1,a2,a3⟩,⟨q2,c2,rfl,b1,b2,b3⟩,n1,n2⟩:=hR.ex
 refine ⟨_,_,_,_,_,_,_,_,_,_,_,e,hc,ep7 hY fun w' g=>?_⟩
 have B:=hB.st g fun k hk=>by cases hk;exact ⟨hP,nr⟩
 rw [←e]
 exact h v w' ((hR.st g hM fun k hk=>(B.2 k).1 hk).mono (by omega)) B.1 (zS hC g (fun k hk=>by cases hk;exact hN) fun k hk=>(B.2 k).1 hk)
theorem aBm{P:Nat→Prop}{bb M b:Nat}{o:Int}{L:Rows}{r:Rep}{w0 w:World}{v:Value}{a0 a1 a2 a3 a4 a5 a6:Value}{t:TypeId}(hR:RepAt M bb w v r)(hB:BookN P w bb o L)(hC:Chg (BkOwn bb) (fun _=>False) w0 w)(hY:Blk w b #[a0,a1,a2,a3,a4,a5,a6] t)
  (hM:b < M) (hN:w0.heap.size≤b) (hP:¬P b) (nr:¬BkOwn bb w b) (h:∀v w',RepAt b bb w' v r→BookN P w' bb o L→Chg (BkOwn bb) (fun _=>False) w0 w'→R (.returned v) w') :
  ∃(x0:Int),∃(x1:Bool),∃(x2:Int),∃(x3:Int),∃(x4:Int),∃(p5:OA),∃(n5:Nat),∃(c5:Nat),∃(p6:OA),∃(n6:Nat),∃(c6:Nat),v=(.agg #[.int .i64 x0,.bool x1,.int .i64 x2,.int .i64 x3,.int .i64 x4,.slice p5 n5 c5,.slice p6 n6 c6]:Value)∧(doSt ((blk b).add 0) (.int .i64 x0) w fun w1=>doSt ((blk b).add 1) (.bool x1) w1 fun w2=>doSt ((blk b).add 2) (.int .i64 x2) w2 fun w3=>doSt ((blk b).add 3) (.int .i64 x3) w3 fun w4=>doSt ((blk b).add 4) (.int .i64 x4) w4 fun w5=>doSt ((blk b).add 5) (.slice p5 n5 c5) w5 fun w6=>doSt ((blk b).add 6) (.slice p6 n6 c6) w6 fun w7=>∃(y0:Int),w7.cell? ((blk b).add 0)=some (.int .i64 y0)∧(∃(y1:Bool),w7.cell? ((blk b).add 1)=some (.bool y1)∧(∃(y2:Int),w7.cell? ((blk b).add 2)=some (.int .i64 y2)∧(∃(y3:Int),w7.cell? ((blk b).add 3)=some (.int .i64 y3)∧(∃(y4:Int),w7.cell? ((blk b).add 4)=some (.int .i64 y4)∧(∃(q5:OA),∃(m5:Nat),∃(d5:Nat),w7.cell? ((blk b).add 5)=some (.slice q5 m5 d5)∧(∃(q6:OA),∃(m6:Nat),∃(d6:Nat),w7.cell? ((blk b).add 6)=some (.slice q6 m6 d6)∧(R (.returned (.agg #[.int .i64 y0,.bool y1,.int .i64 y2,.int .i64 y3,.int .i64 y4,.slice q5 m5 d5,.slice q6 m6 d6])) w7)))))))):=by
 obtain ⟨x0,x1,x2,x3,x4,p5,n5,c5,p6,n6,c6,e,_,k⟩:=aHz (C:=fun _=>True) hR hB hC hY hM hN hP nr trivial h
 exact ⟨x0,x1,x2,x3,x4,p5,n5,c5,p6,n6,c6,e,k⟩
theorem sS{P:Nat→Prop}{bb:Nat}{o e:Int}{L:Rows}{l:List Pr}{q:OA}{n c:Nat}(hB:BookN P w bb o L)(hL:L.length≤4500)(hl:RowAt (BkOwn bb) bb w (.slice q n c) l.length (prs l))(hq:uW P (.slice q n c))
  (h:∀v w',RepAt w.heap.size bb w' v (countP L l).1→BookN P w' bb o (countP L l).2→Chg (BkOwn bb) (fun _=>False) w w'→R (.returned v) w') :
  Calls prog 105 #[.pointer (some (blk bb)),.slice q n c,.int .i64 e] w R:=by
 refine sh105_ok ?_
 unfold sh105
 refine ⟨⟨?_⟩⟩
 have e1:=pQ w (.cells #[.int .i64 0,.bool false,.int .i64 0,.int .i64 0,.int .i64 0,.slice none 0 0,.slice none 0 0] 34)
 have Y1:=pS w #[.int .i64 0,.bool false,.int .i64 0,.int .i64 0,.int .i64 0,.slice none 0 0,.slice none 0 0] 34
 generalize w.alloc (.cells #[.int .i64 0,.bool false,.int .i64 0,.int .i64 0,.int .i64 0,.slice none 0 0,.slice none 0 0] 34)=w1 at *
 have e2:=pQ w1 (.cells #[.slice q n c] 22)
 have hx2:=qY w1 #[.slice q n c] 22
 have lz:(w1.alloc (.cells #[.slice q n c] 22)).heap.size=w1.heap.size+1:=by simp
 generalize w1.alloc (.cells #[.slice q n c] 22)=w2 at *
 have Y2:=Y1.ext e2
 have E2:=e1.trans e2
 have l1:=Y1.lt
 have B2:BookN (fun k=>P k∧k < w.heap.size) w2 bb o L:=hB.top.ext E2
 have own2:=hB.own_ext E2
 have hl2:=hl.ext' hB E2
 obtain ⟨q',c',hqe,hnc,hcs,hqa⟩:=hl
 injection hqe with hq1 hq2 hq3
 subst hq1 hq2 hq3
 have no2:¬BkOwn bb w2 w.heap.size:=fun hk=>by have:=hB.lt ((own2 _).1 hk);omega
 refine pP call98 (zW (ls:=[l]) (r:={ Rep.zero with n:=l.length }) B2 hL (by simp) (by simp) hx2 (fun a ha=>?_) (fun i m hm=>?_) rfl rfl fun v w3 hR hB3 hC3=>pN ?_)
 ·cases ha
  exact ⟨fun hk=>by have:=hB.lt ((own2 _).1 hk);have:=e1.size;simp only [blk] at *;omega,by simp only [blk] at *;omega⟩
 ·cases i with
  | zero=>
   obtain rfl:l=m:=by simpa using hm
   exact ⟨_,rfl,hl2,fun a n c e hz=>⟨hq a n c e hz,by cases e;exact (hqa a rfl (aEq hz)).2.2⟩⟩
  | succ i=>simp at hm
 ·exact aBm hR hB3 ((hB.chg E2).trans hC3) (hC3.blk Y2 no2 fun h=>h) (by omega) (Nat.le_refl _) (fun hp=>by have:=hp.2;omega) (hC3.out _ (by omega) no2) fun v w' r b k=>h v w' r (b.up fun _ h=>h.1) k
structure Arg (P:Nat→Prop) (bb:Nat) (o:Int) (L:Rows) (x:POp) (a c:List Pr) (pv kv va vc:Value) (w:World):Prop where
 B:BookN P w bb o L
 hP:∀k,w.heap.size≤k→P k
 zL:L.length≤4500
 inx:InO x
 rp:RowAt (BkOwn bb) bb w pv x.pairs.length (prs x.pairs)
 rk:RowAt (BkOwn bb) bb w kv x.keys.length (ints x.keys)
 zp:x.pairs.length≤5000
 zk:x.keys.length≤5000
 ra:RowAt (BkOwn bb) bb w va a.length (prs a)
 rc:RowAt (BkOwn bb) bb w vc c.length (prs c)
 Ia:InP a
 Ic:InP c
 za:a.length≤5000
 zc:c.length≤5000
structure Mid (P:Nat→Prop) (bb:Nat) (o:Int) (L:Rows) (x:POp) (pv kv:Value) (w0:World) (xb rb:Nat) (w:World):Prop where
 B:BookN (fun k=>P k∧k≠xb∧k≠rb) w bb o L
 X:OpAt w xb x pv kv
 Y:Blk w rb #[.int .i64 0,.bool false,.int .i64 0,.int .i64 0,.int .i64 0,.slice none 0 0,.slice none 0 0] 34
 E:Ext w0 w
 lx:w0.heap.size≤xb
 lr:w0.heap.size≤rb
 ne:xb≠rb
 nx:¬BkOwn bb w xb
 ny:¬BkOwn bb w rb
theorem Mid.ext{P:Nat→Prop}{bb:Nat}{o:Int}{L:Rows}{x:POp}{pv kv:Value}{w0 w:World}{xb rb:Nat}{w':World}(M:Mid P bb o L x pv kv w0 xb rb w)(e:Ext w w'):Mid P bb o L x pv kv w0 xb rb w':=
 ⟨M.B.ext e,M.X.ext e,M.Y.ext e,M.E.trans e,M.lx,M.lr,M.ne,fun h=>M.nx ((M.B.own_ext e _).1 h),fun h=>M.ny ((M.B.own_ext e _).1 h)⟩
theorem mid0{P:Nat→Prop}{bb:Nat}{o:Int}{L:Rows}(x:POp)(pv kv:Value){K:Nat→Nat→World→Prop}(hB:BookN P w bb o L)(h:∀xb rb w',Mid P bb o L x pv kv w xb rb w'→K xb rb w'):
  doAl (.cells (sA x pv kv) 30) w (fun b1 w1=>doAl (.cells #[.int .i64 0,.bool false,.int .i64 0,.int .i64 0,.int .i64 0,.slice none 0 0,.slice none 0 0] 34) w1 (fun b2 w2=>K b1 b2 w2)):=by
 refine ⟨⟨?_⟩⟩
 have e1:=pQ w (.cells (sA x pv kv) 30)
 have X1:OpAt _ _ x pv kv:=pS w (sA x pv kv) 30
 generalize w.alloc (.cells (sA x pv kv) 30)=w1 at *
 have e2:=pQ w1 (.cells #[.int .i64 0,.bool false,.int .i64 0,.int .i64 0,.int .i64 0,.slice none 0 0,.slice none 0 0] 34)
 have Y2:=pS w1 #[.int .i64 0,.bool false,.int .i64 0,.int .i64 0,.int .i64 0,.slice none 0 0,.slice none 0 0] 34
 generalize w1.alloc (.cells #[.int .i64 0,.bool false,.int .i64 0,.int .i64 0,.int .i64 0,.slice none 0 0,.slice none 0 0] 34)=w2 at *
 have l1:=X1.lt
 have E2:=e1.trans e2
 have own:=hB.own_ext E2
 exact h _ _ _ ⟨(hB.top.up fun k hk=>⟨hk.1,by have:=hk.2;omega,by have:=hk.2;omega⟩).ext E2,X1.ext e2,Y2,E2,Nat.le_refl _,e1.size,by omega,fun hk=>by have:=hB.lt ((own _).1 hk);omega,fun hk=>by have:=hB.lt ((own _).1 hk);omega⟩
def Cls(bb:Nat)(o:Int)(xb:Nat)(x:POp)(pv kv:Value)(w:World):Prop:=w.cell? ⟨bb,0,none⟩=some (.int .u8 o)∧OpAt w xb x pv kv
theorem Mid.cls{P:Nat→Prop}{bb:Nat}{o:Int}{L:Rows}{x:POp}{pv kv:Value}{w0 w:World}{xb rb:Nat}(M:Mid P bb o L x pv kv w0 xb rb w):Cls bb o xb x pv kv w:=⟨M.B.ord,M.X⟩
theorem Mid.done{P:Nat→Prop}{bb:Nat}{o:Int}{L:Rows}{x:POp}{pv kv:Value}{w0 w:World}{xb rb:Nat}{v:Value}{r:Rep}(M:Mid P bb o L x pv kv w0 xb rb w)(B0:BookN P w0 bb o L)(hR:RepAt (rb+1) bb w v r){w':World}(g:w.grownBy w' (some rb))
  (h:∀v w',RepAt w0.heap.size bb w' v r→BookN P w' bb o L→Chg (BkOwn bb) (fun _=>False) w0 w'→R (.returned v) w'):R (.returned v) w':=by
 have B:=M.B.st g fun k hk=>by cases hk;exact ⟨fun hp=>hp.2.2 rfl,M.ny⟩
 have lr:=M.lr
 exact h _ _ ((hR.st g (by omega) fun k hk=>(B.2 k).1 hk).mono (by omega)) (B.1.up fun _ h=>h.1) (zS (B0.chg M.E) g (fun k hk=>by cases hk;exact lr) fun k hk=>(B.2 k).1 hk)
theorem Mid.read{P:Nat→Prop}{bb:Nat}{o:Int}{L:Rows}{x:POp}{pv kv:Value}{w0 w:World}{xb rb:Nat}{v:Value}{r:Rep}{C:World→Prop}(M:Mid P bb o L x pv kv w0 xb rb w)(B0:BookN P w0 bb o L)(hR:RepAt (rb+1) bb w v r)(hc:C w)
  (h:∀v w',RepAt w0.heap.size bb w' v r→BookN P w' bb o L→Chg (BkOwn bb) (fun _=>False) w0 w'→R (.returned v) w'):∃(x0:Int),∃(x1:Bool),∃(x2:Int),∃(x3:Int),∃(x4:Int),∃(p5:OA),∃(n5:Nat),∃(c5:Nat),∃(p6:OA),∃(n6:Nat),∃(c6:Nat),v=(.agg #[.int .i64 x0,.bool x1,.int .i64 x2,.int .i64 x3,.int .i64 x4,.slice p5 n5 c5,.slice p6 n6 c6]:Value)∧(C w∧(doSt ((blk rb).add 0) (.int .i64 x0) w fun w1=>doSt ((blk rb).add 1) (.bool x1) w1 fun w2=>doSt ((blk rb).add 2) (.int .i64 x2) w2 fun w3=>doSt ((blk rb).add 3) (.int .i64 x3) w3 fun w4=>doSt ((blk rb).add 4) (.int .i64 x4) w4 fun w5=>doSt ((blk rb).add 5) (.slice p5 n5 c5) w5 fun w6=>doSt ((blk rb).add 6) (.slice p6 n6 c6) w6 fun w7=>∃(y0:Int),w7.cell? ((blk rb).add 0)=some (.int .i64 y0)∧(∃(y1:Bool),w7.cell? ((blk rb).add 1)=some (.bool y1)∧(∃(y2:Int),w7.cell? ((blk rb).add 2)=some (.int .i64 y2)∧(∃(y3:Int),w7.cell? ((blk rb).add 3)=some (.int .i64 y3)∧(∃(y4:Int),w7.cell? ((blk rb).add 4)=some (.int .i64 y4)∧(∃(q5:OA),∃(m5:Nat),∃(d5:Nat),w7.cell? ((blk rb).add 5)=some (.slice q5 m5 d5)∧(∃(q6:OA),∃(m6:Nat),∃(d6:Nat),w7.cell? ((blk rb).add 6)=some (.slice q6 m6 d6)∧(R (.returned (.agg #[.int .i64 y0,.bool y1,.int .i64 y2,.int .i64 y3,.int .i64 y4,.slice q5 m5 d5,.slice q6 m6 d6])) w7))))))))):=
 aHz hR M.B (B0.chg M.E) M.Y (by omega) M.lr (fun hp=>hp.2.2 rfl) M.ny hc fun v w' r b k=>h v w' (r.mono M.lr) (b.up fun _ h=>h.1) k
theorem Mid.read'{P:Nat→Prop}{bb:Nat}{o:Int}{L:Rows}{x:POp}{pv kv:Value}{w0 w:World}{xb rb:Nat}{v:Value}{r:Rep}(M:Mid P bb o L x pv kv w0 xb rb w)(B0:BookN P w0 bb o L)(hR:RepAt (rb+1) bb w v r)
  (h:∀v w',RepAt w0.heap.size bb w' v r→BookN P w' bb o L→Chg (BkOwn bb) (fun _=>False) w0 w'→R (.returned v) w'):∃(x0:Int),∃(x1:Bool),∃(x2:Int),∃(x3:Int),∃(x4:Int),∃(p5:OA),∃(n5:Nat),∃(c5:Nat),∃(p6:OA),∃(n6:Nat),∃(c6:Nat),v=(.agg #[.int .i64 x0,.bool x1,.int .i64 x2,.int .i64 x3,.int .i64 x4,.slice p5 n5 c5,.slice p6 n6 c6]:Value)∧(doSt ((blk rb).add 0) (.int .i64 x0) w fun w1=>doSt ((blk rb).add 1) (.bool x1) w1 fun w2=>doSt ((blk rb).add 2) (.int .i64 x2) w2 fun w3=>doSt ((blk rb).add 3) (.int .i64 x3) w3 fun w4=>doSt ((blk rb).add 4) (.int .i64 x4) w4 fun w5=>doSt ((blk rb).add 5) (.slice p5 n5 c5) w5 fun w6=>doSt ((blk rb).add 6) (.slice p6 n6 c6) w6 fun w7=>∃(y0:Int),w7.cell? ((blk rb).add 0)=some (.int .i64 y0)∧(∃(y1:Bool),w7.cell? ((blk rb).add 1)=some (.bool y1)∧(∃(y2:Int),w7.cell? ((blk rb).add 2)=some (.int .i64 y2)∧(∃(y3:Int),w7.cell? ((blk rb).add 3)=some (.int .i64 y3)∧(∃(y4:Int),w7.cell? ((blk rb).add 4)=some (.int .i64 y4)∧(∃(q5:OA),∃(m5:Nat),∃(d5:Nat),w7.cell? ((blk rb).add 5)=some (.slice q5 m5 d5)∧(∃(q6:OA),∃(m6:Nat),∃(d6:Nat),w7.cell? ((blk rb).add 6)=some (.slice q6 m6 d6)∧(R (.returned (.agg #[.int .i64 y0,.bool y1,.int .i64 y2,.int .i64 y3,.int .i64 y4,.slice q5 m5 d5,.slice q6 m6 d6])) w7)))))))):=
 aBm hR M.B (B0.chg M.E) M.Y (by omega) M.lr (fun hp=>hp.2.2 rfl) M.ny fun v w' r b k=>h v w' (r.mono M.lr) (b.up fun _ h=>h.1) k
section
variable {P:Nat→Prop} {bb:Nat} {o:Int} {L:Rows} {x:POp} {pv kv:Value} {w0 w:World} {xb rb:Nat} {w':World} {p:OA} {n c:Nat} {l:List Pr} {e':Int} {R:EW} {Kp:List PanicEntry→World→Prop}
theorem Mid.count{C:World→Prop}(M:Mid P bb o L x pv kv w0 xb rb w)(B0:BookN P w0 bb o L)(hP:∀k,w0.heap.size≤k→P k)(zL:L.length≤4500)(ho:OwnP w' w.heap.size p n c l)(e:Ext w w')(hc:∀w'',Cls bb o xb x pv kv w''→C w'')
  (h:∀v w',RepAt w0.heap.size bb w' v (countP L l).1→BookN P w' bb o (countP L l).2→Chg (BkOwn bb) (fun _=>False) w0 w'→R (.returned v) w') :
  Calls prog 105 #[.pointer (some (blk bb)),.slice p n c,.int .i64 e'] w' (retS (fun v w=>∃(x0:Int),∃(x1:Bool),∃(x2:Int),∃(x3:Int),∃(x4:Int),∃(p5:OA),∃(n5:Nat),∃(c5:Nat),∃(p6:OA),∃(n6:Nat),∃(c6:Nat),v=(.agg #[.int .i64 x0,.bool x1,.int .i64 x2,.int .i64 x3,.int .i64 x4,.slice p5 n5 c5,.slice p6 n6 c6]:Value)∧(C w∧(doSt ((blk rb).add 0) (.int .i64 x0) w fun w1=>doSt ((blk rb).add 1) (.bool x1) w1 fun w2=>doSt ((blk rb).add 2) (.int .i64 x2) w2 fun w3=>doSt ((blk rb).add 3) (.int .i64 x3) w3 fun w4=>doSt ((blk rb).add 4) (.int .i64 x4) w4 fun w5=>doSt ((blk rb).add 5) (.slice p5 n5 c5) w5 fun w6=>doSt ((blk rb).add 6) (.slice p6 n6 c6) w6 fun w7=>∃(y0:Int),w7.cell? ((blk rb).add 0)=some (.int .i64 y0)∧(∃(y1:Bool),w7.cell? ((blk rb).add 1)=some (.bool y1)∧(∃(y2:Int),w7.cell? ((blk rb).add 2)=some (.int .i64 y2)∧(∃(y3:Int),w7.cell? ((blk rb).add 3)=some (.int .i64 y3)∧(∃(y4:Int),w7.cell? ((blk rb).add 4)=some (.int .i64 y4)∧(∃(q5:OA),∃(m5:Nat),∃(d5:Nat),w7.cell? ((blk rb).add 5)=some (.slice q5 m5 d5)∧(∃(q6:OA),∃(m6:Nat),∃(d6:Nat),w7.cell? ((blk rb).add 6)=some (.slice q6 m6 d6)∧(R (.returned (.agg #[.int .i64 y0,.bool y1,.int .i64 y2,.int .i64 y3,.int .i64 y4,.slice q5 m5 d5,.slice q6 m6 d6])) w7)))))))))) Kp):=by
 have M':=M.ext e
 obtain rfl:l.length=n:=qF ho
 have lX:=M.X.lt
 have lY:=M.Y.lt
 refine sS M'.B zL (RowAt.own_row ho (fun k hk=>.inl (M.B.lt ((M.B.own_ext e k).1 hk))) (M.B.lt (.inl rfl))) (fun a n c e _=>by injection e with e1;have:=(tG ho e1).1;have:=M.E.size;exact ⟨hP _ (by omega),by omega,by omega⟩) fun v w3 hR hB3 hC3=>pN ?_
 exact aHz hR hB3 ((B0.chg M'.E).trans hC3) (hC3.blk M'.Y M'.ny fun h=>h) M'.Y.lt M.lr (fun hp=>hp.2.2 rfl) (hC3.out _ M'.Y.lt M'.ny) (hc _ ⟨hB3.ord,hC3.blk M'.X M'.nx fun h=>h⟩) fun v w' r b k=>h v w' (r.mono M.lr) (b.up fun _ h=>h.1) k
theorem Mid.count'(M:Mid P bb o L x pv kv w0 xb rb w)(B0:BookN P w0 bb o L)(hP:∀k,w0.heap.size≤k→P k)(zL:L.length≤4500)(ho:OwnP w' w.heap.size p n c l)(e:Ext w w')
  (h:∀v w',RepAt w0.heap.size bb w' v (countP L l).1→BookN P w' bb o (countP L l).2→Chg (BkOwn bb) (fun _=>False) w0 w'→R (.returned v) w') :
  Calls prog 105 #[.pointer (some (blk bb)),.slice p n c,.int .i64 e'] w' (retS (fun v w=>∃(x0:Int),∃(x1:Bool),∃(x2:Int),∃(x3:Int),∃(x4:Int),∃(p5:OA),∃(n5:Nat),∃(c5:Nat),∃(p6:OA),∃(n6:Nat),∃(c6:Nat),v=(.agg #[.int .i64 x0,.bool x1,.int .i64 x2,.int .i64 x3,.int .i64 x4,.slice p5 n5 c5,.slice p6 n6 c6]:Value)∧(doSt ((blk rb).add 0) (.int .i64 x0) w fun w1=>doSt ((blk rb).add 1) (.bool x1) w1 fun w2=>doSt ((blk rb).add 2) (.int .i64 x2) w2 fun w3=>doSt ((blk rb).add 3) (.int .i64 x3) w3 fun w4=>doSt ((blk rb).add 4) (.int .i64 x4) w4 fun w5=>doSt ((blk rb).add 5) (.slice p5 n5 c5) w5 fun w6=>doSt ((blk rb).add 6) (.slice p6 n6 c6) w6 fun w7=>∃(y0:Int),w7.cell? ((blk rb).add 0)=some (.int .i64 y0)∧(∃(y1:Bool),w7.cell? ((blk rb).add 1)=some (.bool y1)∧(∃(y2:Int),w7.cell? ((blk rb).add 2)=some (.int .i64 y2)∧(∃(y3:Int),w7.cell? ((blk rb).add 3)=some (.int .i64 y3)∧(∃(y4:Int),w7.cell? ((blk rb).add 4)=some (.int .i64 y4)∧(∃(q5:OA),∃(m5:Nat),∃(d5:Nat),w7.cell? ((blk rb).add 5)=some (.slice q5 m5 d5)∧(∃(q6:OA),∃(m6:Nat),∃(d6:Nat),w7.cell? ((blk rb).add 6)=some (.slice q6 m6 d6)∧(R (.returned (.agg #[.int .i64 y0,.bool y1,.int .i64 y2,.int .i64 y3,.int .i64 y4,.slice q5 m5 d5,.slice q6 m6 d6])) w7))))))))) Kp):=
 (M.count (C:=fun _=>True) (Kp:=Kp) B0 hP zL ho e (fun _ _=>trivial) h).mono fun en w hr=>by
  cases en with
  | returned v=>
   obtain ⟨x0,x1,x2,x3,x4,p5,n5,c5,p6,n6,c6,e,_,k⟩:=hr
   exact ⟨x0,x1,x2,x3,x4,p5,n5,c5,p6,n6,c6,e,k⟩
  | _=>exact hr
end
theorem aAn{k v:Int}{is:Bool}(h:∀w',Ext w w'→R (.returned (rep0 (qG (k,v) is))) w'):Calls prog 102 #[agP (k,v),.bool is] w R:=by
 refine sh102_ok ?_
 unfold sh102
 refine ⟨⟨?_⟩⟩
 have e1:=pQ w (.cells #[.int .i64 k,.int .i64 v] 63)
 have X1:=pS w #[.int .i64 k,.int .i64 v] 63
 generalize w.alloc (.cells #[.int .i64 k,.int .i64 v] 63)=w1 at *
 have e2:=pQ w1 (.cells #[.int .i64 0,.bool false,.int .i64 0,.int .i64 0,.int .i64 0,.slice none 0 0,.slice none 0 0] 34)
 have Y2:=pS w1 #[.int .i64 0,.bool false,.int .i64 0,.int .i64 0,.int .i64 0,.slice none 0 0,.slice none 0 0] 34
 generalize w1.alloc (.cells #[.int .i64 0,.bool false,.int .i64 0,.int .i64 0,.int .i64 0,.slice none 0 0,.slice none 0 0] 34)=w2 at *
 have X2:=X1.ext e2
 have E2:=e1.trans e2
 cases is with
 | false=>exact pZ rfl (ep7 Y2 fun w' g=>h w' (E2.st g e1.size))
 | true=>exact pY rfl ⟨_,X2.cell (i:=0) rfl rfl,_,X2.cell (i:=1) rfl rfl,ep7 Y2 fun w' g=>h w' (E2.st g e1.size)⟩
theorem m_build{P:Nat→Prop}{bb:Nat}{o:Int}{L:Rows}{x:POp}{a c:List Pr}{pv kv va vc:Value}(A:Arg P bb o L x a c pv kv va vc w) 
  (h:∀v w',RepAt w.heap.size bb w' v (countP L (srtP o x.pol x.pairs)).1→BookN P w' bb o (countP L (srtP o x.pol x.pairs)).2→Chg (BkOwn bb) (fun _=>False) w w'→R (.returned v) w'):Calls prog 66 #[.pointer (some (blk bb)),opV x pv kv,va,vc] w R:=by
 have Ap:=A.rp
 have Ak:=A.rk
 have Aa:=A.ra
 have Ac:=A.rc
 obtain ⟨pp,pc,rfl,hp1,hp2,hp3⟩:=Ap
 obtain ⟨kp,kc,rfl,hk1,hk2,hk3⟩:=Ak
 obtain ⟨qa,ca,rfl,ha1,ha2,ha3⟩:=Aa
 obtain ⟨qc,cc,rfl,hc1,hc2,hc3⟩:=Ac
 have za:=A.za
 have zc:=A.zc
 have zp:=A.zp
 have zk:=A.zk
 refine sh66_ok ?_
 unfold sh66
 refine mid0 x (.slice pp x.pairs.length pc) (.slice kp x.keys.length kc) A.B fun xb rb w2 M=>?_
 have M:=M.ext (pT w2)
 refine ⟨⟨Cls bb o xb x _ _,M.cls,_,rfl,o,fun w' h=>h.1,_,fun w' h=>h.2.cell (i:=8) rfl rfl,_,_,_,fun w' h=>h.2.cell (i:=13) rfl rfl,?_⟩⟩
 have ha:=ha2.ext M.E
 have hc:=hc2.ext M.E
 refine pP call106 (c_rsort (hp2.ext M.E) rfl (by omega) A.inx.pairs fun p n c3 w3 ho e3=>pN ⟨_,_,_,_,rfl,pP call105 (M.count A.B A.hP A.zL ho e3 (fun _ h=>h) h)⟩)
theorem m_union{P:Nat→Prop}{bb:Nat}{o:Int}{L:Rows}{x:POp}{a c:List Pr}{pv kv va vc:Value}(A:Arg P bb o L x a c pv kv va vc w) 
  (h:∀v w',RepAt w.heap.size bb w' v (countP L (setL o x.pol wU a c)).1→BookN P w' bb o (countP L (setL o x.pol wU a c)).2→Chg (BkOwn bb) (fun _=>False) w w'→R (.returned v) w'):Calls prog 67 #[.pointer (some (blk bb)),opV x pv kv,va,vc] w R:=by
 have Ap:=A.rp
 have Ak:=A.rk
 have Aa:=A.ra
 have Ac:=A.rc
 obtain ⟨pp,pc,rfl,hp1,hp2,hp3⟩:=Ap
 obtain ⟨kp,kc,rfl,hk1,hk2,hk3⟩:=Ak
 obtain ⟨qa,ca,rfl,ha1,ha2,ha3⟩:=Aa
 obtain ⟨qc,cc,rfl,hc1,hc2,hc3⟩:=Ac
 have za:=A.za
 have zc:=A.zc
 have zp:=A.zp
 have zk:=A.zk
 refine sh67_ok ?_
 unfold sh67
 refine mid0 x (.slice pp x.pairs.length pc) (.slice kp x.keys.length kc) A.B fun xb rb w2 M=>?_
 have M:=M.ext (pT w2)
 refine ⟨⟨Cls bb o xb x _ _,M.cls,_,rfl,o,fun w' h=>h.1,_,fun w' h=>h.2.cell (i:=8) rfl rfl,?_⟩⟩
 have ha:=ha2.ext M.E
 have hc:=hc2.ext M.E
 refine pP call107 (c_un ha rfl ha1 hc rfl hc1 (by omega) A.Ia A.Ic fun p n c3 w3 ho e3=>pN ⟨_,_,_,_,rfl,pP call105 (M.count A.B A.hP A.zL ho e3 (fun _ h=>h) h)⟩)
theorem m_meet{P:Nat→Prop}{bb:Nat}{o:Int}{L:Rows}{x:POp}{a c:List Pr}{pv kv va vc:Value}(A:Arg P bb o L x a c pv kv va vc w) 
  (h:∀v w',RepAt w.heap.size bb w' v (countP L (setL o x.pol wM a c)).1→BookN P w' bb o (countP L (setL o x.pol wM a c)).2→Chg (BkOwn bb) (fun _=>False) w w'→R (.returned v) w'):Calls prog 68 #[.pointer (some (blk bb)),opV x pv kv,va,vc] w R:=by
 have Ap:=A.rp
 have Ak:=A.rk
 have Aa:=A.ra
 have Ac:=A.rc
 obtain ⟨pp,pc,rfl,hp1,hp2,hp3⟩:=Ap
 obtain ⟨kp,kc,rfl,hk1,hk2,hk3⟩:=Ak
 obtain ⟨qa,ca,rfl,ha1,ha2,ha3⟩:=Aa
 obtain ⟨qc,cc,rfl,hc1,hc2,hc3⟩:=Ac
 have za:=A.za
 have zc:=A.zc
 have zp:=A.zp
 have zk:=A.zk
 refine sh68_ok ?_
 unfold sh68
 refine mid0 x (.slice pp x.pairs.length pc) (.slice kp x.keys.length kc) A.B fun xb rb w2 M=>?_
 have M:=M.ext (pT w2)
 refine ⟨⟨Cls bb o xb x _ _,M.cls,_,rfl,o,fun w' h=>h.1,_,fun w' h=>h.2.cell (i:=8) rfl rfl,?_⟩⟩
 have ha:=ha2.ext M.E
 have hc:=hc2.ext M.E
 refine pP call108 (c_me ha rfl ha1 hc rfl hc1 (by omega) A.Ia A.Ic fun p n c3 w3 ho e3=>pN ⟨_,_,_,_,rfl,pP call105 (M.count A.B A.hP A.zL ho e3 (fun _ h=>h) h)⟩)
theorem m_less{P:Nat→Prop}{bb:Nat}{o:Int}{L:Rows}{x:POp}{a c:List Pr}{pv kv va vc:Value}(A:Arg P bb o L x a c pv kv va vc w) 
  (h:∀v w',RepAt w.heap.size bb w' v (countP L (setL o 1 wL a c)).1→BookN P w' bb o (countP L (setL o 1 wL a c)).2→Chg (BkOwn bb) (fun _=>False) w w'→R (.returned v) w'):Calls prog 69 #[.pointer (some (blk bb)),opV x pv kv,va,vc] w R:=by
 have Ap:=A.rp
 have Ak:=A.rk
 have Aa:=A.ra
 have Ac:=A.rc
 obtain ⟨pp,pc,rfl,hp1,hp2,hp3⟩:=Ap
 obtain ⟨kp,kc,rfl,hk1,hk2,hk3⟩:=Ak
 obtain ⟨qa,ca,rfl,ha1,ha2,ha3⟩:=Aa
 obtain ⟨qc,cc,rfl,hc1,hc2,hc3⟩:=Ac
 have za:=A.za
 have zc:=A.zc
 have zp:=A.zp
 have zk:=A.zk
 refine sh69_ok ?_
 unfold sh69
 refine mid0 x (.slice pp x.pairs.length pc) (.slice kp x.keys.length kc) A.B fun xb rb w2 M=>?_
 refine ⟨_,rfl,o,M.B.ord,?_⟩
 have ha:=ha2.ext M.E
 have hc:=hc2.ext M.E
 refine pP call109 (c_le ha rfl ha1 hc rfl hc1 (by omega) A.Ia A.Ic fun p n c3 w3 ho e3=>pN ⟨_,_,_,_,rfl,pP call105 (M.count' A.B A.hP A.zL ho e3 h)⟩)
theorem m_apart{P:Nat→Prop}{bb:Nat}{o:Int}{L:Rows}{x:POp}{a c:List Pr}{pv kv va vc:Value}(A:Arg P bb o L x a c pv kv va vc w) 
  (h:∀v w',RepAt w.heap.size bb w' v (countP L (setL o 1 wA a c)).1→BookN P w' bb o (countP L (setL o 1 wA a c)).2→Chg (BkOwn bb) (fun _=>False) w w'→R (.returned v) w'):Calls prog 70 #[.pointer (some (blk bb)),opV x pv kv,va,vc] w R:=by
 have Ap:=A.rp
 have Ak:=A.rk
 have Aa:=A.ra
 have Ac:=A.rc
 obtain ⟨pp,pc,rfl,hp1,hp2,hp3⟩:=Ap
 obtain ⟨kp,kc,rfl,hk1,hk2,hk3⟩:=Ak
 obtain ⟨qa,ca,rfl,ha1,ha2,ha3⟩:=Aa
 obtain ⟨qc,cc,rfl,hc1,hc2,hc3⟩:=Ac
 have za:=A.za
 have zc:=A.zc
 have zp:=A.zp
 have zk:=A.zk
 refine sh70_ok ?_
 unfold sh70
 refine mid0 x (.slice pp x.pairs.length pc) (.slice kp x.keys.length kc) A.B fun xb rb w2 M=>?_
 refine ⟨_,rfl,o,M.B.ord,?_⟩
 have ha:=ha2.ext M.E
 have hc:=hc2.ext M.E
 refine pP call110 (c_ap ha rfl ha1 hc rfl hc1 (by omega) A.Ia A.Ic fun p n c3 w3 ho e3=>pN ⟨_,_,_,_,rfl,pP call105 (M.count' A.B A.hP A.zL ho e3 h)⟩)
theorem m_span{P:Nat→Prop}{bb:Nat}{o:Int}{L:Rows}{x:POp}{a c:List Pr}{pv kv va vc:Value}(A:Arg P bb o L x a c pv kv va vc w) 
  (h:∀v w',RepAt w.heap.size bb w' v (countP L (rngP o a x.lo x.hi)).1→BookN P w' bb o (countP L (rngP o a x.lo x.hi)).2→Chg (BkOwn bb) (fun _=>False) w w'→R (.returned v) w'):Calls prog 76 #[.pointer (some (blk bb)),opV x pv kv,va,vc] w R:=by
 have Ap:=A.rp
 have Ak:=A.rk
 have Aa:=A.ra
 have Ac:=A.rc
 obtain ⟨pp,pc,rfl,hp1,hp2,hp3⟩:=Ap
 obtain ⟨kp,kc,rfl,hk1,hk2,hk3⟩:=Ak
 obtain ⟨qa,ca,rfl,ha1,ha2,ha3⟩:=Aa
 obtain ⟨qc,cc,rfl,hc1,hc2,hc3⟩:=Ac
 have za:=A.za
 have zc:=A.zc
 have zp:=A.zp
 have zk:=A.zk
 refine sh76_ok ?_
 unfold sh76
 refine mid0 x (.slice pp x.pairs.length pc) (.slice kp x.keys.length kc) A.B fun xb rb w2 M=>?_
 have M:=M.ext (pT w2)
 refine ⟨⟨Cls bb o xb x _ _,M.cls,_,rfl,o,fun w' h=>h.1,_,fun w' h=>h.2.cell (i:=5) rfl rfl,_,fun w' h=>h.2.cell (i:=6) rfl rfl,?_⟩⟩
 have ha:=ha2.ext M.E
 have hc:=hc2.ext M.E
 refine pP call113 (c_range A.inx.lo A.inx.hi ha rfl ha1 (by omega) A.Ia fun p n c3 w3 ho e3=>pN ⟨_,_,_,_,rfl,pP call105 (M.count A.B A.hP A.zL ho e3 (fun _ h=>h) h)⟩)
theorem m_keep{P:Nat→Prop}{bb:Nat}{o:Int}{L:Rows}{x:POp}{a c:List Pr}{pv kv va vc:Value}(A:Arg P bb o L x a c pv kv va vc w) 
  (h:∀v w',RepAt w.heap.size bb w' v (countP L (yU x.pk x.pa x.pb x.pnot a)).1→BookN P w' bb o (countP L (yU x.pk x.pa x.pb x.pnot a)).2→Chg (BkOwn bb) (fun _=>False) w w'→R (.returned v) w'):Calls prog 71 #[.pointer (some (blk bb)),opV x pv kv,va,vc] w R:=by
 have Ap:=A.rp
 have Ak:=A.rk
 have Aa:=A.ra
 have Ac:=A.rc
 obtain ⟨pp,pc,rfl,hp1,hp2,hp3⟩:=Ap
 obtain ⟨kp,kc,rfl,hk1,hk2,hk3⟩:=Ak
 obtain ⟨qa,ca,rfl,ha1,ha2,ha3⟩:=Aa
 obtain ⟨qc,cc,rfl,hc1,hc2,hc3⟩:=Ac
 have za:=A.za
 have zc:=A.zc
 have zp:=A.zp
 have zk:=A.zk
 refine sh71_ok ?_
 unfold sh71
 refine mid0 x (.slice pp x.pairs.length pc) (.slice kp x.keys.length kc) A.B fun xb rb w2 M=>?_
 refine ⟨_,M.X.cell (i:=9) rfl rfl,_,M.X.cell (i:=10) rfl rfl,_,M.X.cell (i:=11) rfl rfl,_,M.X.cell (i:=12) rfl rfl,?_⟩
 have ha:=ha2.ext M.E
 refine pP call111 (c_skeep A.inx.pa A.inx.pb ha rfl (by omega) A.Ia fun p n c3 w3 ho e3=>pN ⟨_,_,_,_,rfl,pP call105 (M.count' A.B A.hP A.zL ho e3 h)⟩)
theorem m_puts{P:Nat→Prop}{bb:Nat}{o:Int}{L:Rows}{x:POp}{a c:List Pr}{pv kv va vc:Value}(A:Arg P bb o L x a c pv kv va vc w)(HO:isO o=true)
  (h:∀v w',RepAt w.heap.size bb w' v (countP L (setL o x.pol wU a (srtP o x.pol x.pairs))).1→BookN P w' bb o (countP L (setL o x.pol wU a (srtP o x.pol x.pairs))).2→Chg (BkOwn bb) (fun _=>False) w w'→R (.returned v) w'):Calls prog 72 #[.pointer (some (blk bb)),opV x pv kv,va,vc] w R:=by
 have Ap:=A.rp
 have Ak:=A.rk
 have Aa:=A.ra
 have Ac:=A.rc
 obtain ⟨pp,pc,rfl,hp1,hp2,hp3⟩:=Ap
 obtain ⟨kp,kc,rfl,hk1,hk2,hk3⟩:=Ak
 obtain ⟨qa,ca,rfl,ha1,ha2,ha3⟩:=Aa
 obtain ⟨qc,cc,rfl,hc1,hc2,hc3⟩:=Ac
 have za:=A.za
 have zc:=A.zc
 have zp:=A.zp
 have zk:=A.zk
 refine sh72_ok ?_
 unfold sh72
 refine mid0 x (.slice pp x.pairs.length pc) (.slice kp x.keys.length kc) A.B fun xb rb w2 M=>?_
 have M:=M.ext (pT w2)
 refine ⟨⟨Cls bb o xb x _ _,M.cls,_,rfl,o,fun w' h=>h.1,_,fun w' h=>h.2.cell (i:=8) rfl rfl,_,_,_,fun w' h=>h.2.cell (i:=13) rfl rfl,?_⟩⟩
 have ha:=ha2.ext M.E
 have hc:=hc2.ext M.E
 refine pP call106 (c_rsort (hp2.ext M.E) rfl (by omega) A.inx.pairs fun ps ns cs w3 hs e3=>pN ⟨_,_,_,_,rfl,?_⟩)
 have M3:=M.ext (e3.drew)
 have hs':=(pT w3).row hs
 have ns0:=qF hs
 have sp:=aBk (o:=o) (p:=x.pol) (l:=x.pairs) HO A.inx.pairs
 refine ⟨⟨Cls bb o xb x _ _,M3.cls,_,rfl,o,fun w' h=>h.1,_,fun w' h=>h.2.cell (i:=8) rfl rfl,?_⟩⟩
 refine pP call107 (c_un (ha.ext e3.drew) rfl ha1 (rB hs') ns0 (tD hs) (by have h4:=sp.2.2.2;unfold srtP at h4;omega) A.Ia sp.2.1 fun p n c3 w3 ho e3=>pN ⟨_,_,_,_,rfl,pP call105 (M3.count A.B A.hP A.zL ho e3 (fun _ h=>h) h)⟩)
theorem m_get{P:Nat→Prop}{bb:Nat}{o:Int}{L:Rows}{x:POp}{a c:List Pr}{pv kv va vc:Value}(A:Arg P bb o L x a c pv kv va vc w) 
  (h:∀v w',RepAt w.heap.size bb w' v (((qG (x.key,getR o a x.key) (hasR o a x.key),L):Rep × Rows)).1→BookN P w' bb o (((qG (x.key,getR o a x.key) (hasR o a x.key),L):Rep × Rows)).2→Chg (BkOwn bb) (fun _=>False) w w'→R (.returned v) w'):Calls prog 61 #[.pointer (some (blk bb)),opV x pv kv,va,vc] w R:=by
 have Ap:=A.rp
 have Ak:=A.rk
 have Aa:=A.ra
 have Ac:=A.rc
 obtain ⟨pp,pc,rfl,hp1,hp2,hp3⟩:=Ap
 obtain ⟨kp,kc,rfl,hk1,hk2,hk3⟩:=Ak
 obtain ⟨qa,ca,rfl,ha1,ha2,ha3⟩:=Aa
 obtain ⟨qc,cc,rfl,hc1,hc2,hc3⟩:=Ac
 have za:=A.za
 have zc:=A.zc
 have zp:=A.zp
 have zk:=A.zk
 refine sh61_ok ?_
 unfold sh61
 refine mid0 x (.slice pp x.pairs.length pc) (.slice kp x.keys.length kc) A.B fun xb rb w2 M=>?_
 have M:=M.ext (pT w2)
 refine ⟨⟨Cls bb o xb x _ _,M.cls,_,rfl,o,fun w' h=>h.1,_,fun w' h=>h.2.cell (i:=3) rfl rfl,?_⟩⟩
 have ha:=ha2.ext M.E
 have hc:=hc2.ext M.E
 refine pP call101 (aKt ha rfl (by omega) A.Ia A.inx.key fun w3 e3=>pN ⟨_,_,rfl,?_⟩)
 have M3:=M.ext e3
 refine ⟨_,M3.X.cell (i:=3) rfl rfl,?_⟩
 refine pP call102 (aAn fun w4 e4=>pN ?_)
 have M4:=M3.ext e4
 exact M4.read' A.B (uQ (by unfold qG;split <;> rfl) (by unfold qG;split <;> rfl)) h
theorem m_floor{P:Nat→Prop}{bb:Nat}{o:Int}{L:Rows}{x:POp}{a c:List Pr}{pv kv va vc:Value}(A:Arg P bb o L x a c pv kv va vc w) 
  (h:∀v w',RepAt w.heap.size bb w' v (((qG (tV o a x.key) (rS o a x.key),L):Rep × Rows)).1→BookN P w' bb o (((qG (tV o a x.key) (rS o a x.key),L):Rep × Rows)).2→Chg (BkOwn bb) (fun _=>False) w w'→R (.returned v) w'):Calls prog 64 #[.pointer (some (blk bb)),opV x pv kv,va,vc] w R:=by
 have Ap:=A.rp
 have Ak:=A.rk
 have Aa:=A.ra
 have Ac:=A.rc
 obtain ⟨pp,pc,rfl,hp1,hp2,hp3⟩:=Ap
 obtain ⟨kp,kc,rfl,hk1,hk2,hk3⟩:=Ak
 obtain ⟨qa,ca,rfl,ha1,ha2,ha3⟩:=Aa
 obtain ⟨qc,cc,rfl,hc1,hc2,hc3⟩:=Ac
 have za:=A.za
 have zc:=A.zc
 have zp:=A.zp
 have zk:=A.zk
 refine sh64_ok ?_
 unfold sh64
 refine mid0 x (.slice pp x.pairs.length pc) (.slice kp x.keys.length kc) A.B fun xb rb w2 M=>?_
 have M:=M.ext (pT w2)
 refine ⟨⟨Cls bb o xb x _ _,M.cls,_,rfl,o,fun w' h=>h.1,_,fun w' h=>h.2.cell (i:=3) rfl rfl,?_⟩⟩
 have ha:=ha2.ext M.E
 have hc:=hc2.ext M.E
 refine pP call103 (aMj ha rfl (by omega) A.Ia A.inx.key fun w3 e3=>pN ⟨_,_,_,rfl,?_⟩)
 have M3:=M.ext e3
 refine pP call102 (aAn fun w4 e4=>pN ?_)
 have M4:=M3.ext e4
 exact M4.read (C:=Cls bb o xb x _ _) A.B (uQ (by unfold qG;split <;> rfl) (by unfold qG;split <;> rfl)) M4.cls h
theorem m_ceil{P:Nat→Prop}{bb:Nat}{o:Int}{L:Rows}{x:POp}{a c:List Pr}{pv kv va vc:Value}(A:Arg P bb o L x a c pv kv va vc w) 
  (h:∀v w',RepAt w.heap.size bb w' v (((qG (vY o a x.key) (sM o a x.key),L):Rep × Rows)).1→BookN P w' bb o (((qG (vY o a x.key) (sM o a x.key),L):Rep × Rows)).2→Chg (BkOwn bb) (fun _=>False) w w'→R (.returned v) w'):Calls prog 65 #[.pointer (some (blk bb)),opV x pv kv,va,vc] w R:=by
 have Ap:=A.rp
 have Ak:=A.rk
 have Aa:=A.ra
 have Ac:=A.rc
 obtain ⟨pp,pc,rfl,hp1,hp2,hp3⟩:=Ap
 obtain ⟨kp,kc,rfl,hk1,hk2,hk3⟩:=Ak
 obtain ⟨qa,ca,rfl,ha1,ha2,ha3⟩:=Aa
 obtain ⟨qc,cc,rfl,hc1,hc2,hc3⟩:=Ac
 have za:=A.za
 have zc:=A.zc
 have zp:=A.zp
 have zk:=A.zk
 refine sh65_ok ?_
 unfold sh65
 refine mid0 x (.slice pp x.pairs.length pc) (.slice kp x.keys.length kc) A.B fun xb rb w2 M=>?_
 have M:=M.ext (pT w2)
 refine ⟨⟨Cls bb o xb x _ _,M.cls,_,rfl,o,fun w' h=>h.1,_,fun w' h=>h.2.cell (i:=3) rfl rfl,?_⟩⟩
 have ha:=ha2.ext M.E
 have hc:=hc2.ext M.E
 refine pP call104 (aPx ha rfl (by omega) A.Ia A.inx.key fun w3 e3=>pN ⟨_,_,_,rfl,?_⟩)
 have M3:=M.ext e3
 refine pP call102 (aAn fun w4 e4=>pN ?_)
 have M4:=M3.ext e4
 exact M4.read (C:=Cls bb o xb x _ _) A.B (uQ (by unfold qG;split <;> rfl) (by unfold qG;split <;> rfl)) M4.cls h
end Go.Proofs.YtmdboekndjlmgaaGreat
