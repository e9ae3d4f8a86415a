/-
  Which ops may be, by the document.
-/
import Derived.Test.YtmdboekndjlmgaaGreatZ36
set_option maxRecDepth 100000
set_option maxHeartbeats 6400000
namespace Go.Proofs.YtmdboekndjlmgaaGreat
open Go Go.Sh Go.RowKit Tryz
variable {w:World}{R:EW}
theorem uT{x:POp}{p:Part}(hp:p∉partsOf x.op)(ha:¬qK p POp.zero x):mayO x=false:=by
 cases hm:mayO x
 ·rfl
 ·exact absurd ((uB.1 hm).masked p hp) ha
theorem mayO_nop{x:POp}(h:¬(1≤x.op∧x.op≤22)):mayO x=false:=by
 cases hm:mayO x
 ·rfl
 ·exact absurd (uB.1 hm).op h
theorem aPj{x:POp}(h:Part.pol∈partsOf x.op)(hp:vA x.pol=false):mayO x=false:=by
 cases hm:mayO x
 ·rfl
 ·have:=(uB.1 hm).pol h;rw [hp] at this;cases this
theorem aLp{x:POp}(h:Part.pred∈partsOf x.op)(hp:qJ x.pk x.pa x.pb=false):mayO x=false:=by
 cases hm:mayO x
 ·rfl
 ·have:=(uB.1 hm).pred h;rw [hp] at this;cases this
theorem aJw{x:POp}(h:¬x.pairs.length≤4096):mayO x=false:=by
 cases hm:mayO x
 ·rfl
 ·exact absurd (uB.1 hm).pairs h
theorem mayO_end{x:POp}(hop:1≤x.op∧x.op≤22)(hm:aGd x)(h7:Part.pol∈partsOf x.op→vA x.pol=true)(h8:Part.pred∈partsOf x.op→qJ x.pk x.pa x.pb=true)(hp:x.pairs.length≤4096):mayO x=decide (x.keys.length≤4096):=by
 rw [Bool.eq_iff_iff,uB,decide_eq_true_eq]
 exact ⟨fun h=>h.keys,fun h=>⟨hop,hm,h7,h8,hp,h⟩⟩
theorem c_r37may{x:POp}{pp kp:OA}{pc kc:Nat}(h:∀w',Ext w w'→R (.returned (.bool (mayO x))) w'):
  Calls prog 83 #[.agg #[.int .u8 x.op,.int .i64 x.a,.int .i64 x.b,.int .i64 x.key,.int .i64 x.val,.int .i64 x.lo,.int .i64 x.hi,.int .i64 x.n,.int .u8 x.pol,.int .u8 x.pk,.int .i64 x.pa,.int .i64 x.pb,.bool x.pnot,.slice pp x.pairs.length pc,.slice kp x.keys.length kc]] w R:=by
 refine sh83_ok ?_
 unfold sh83
 refine rK fun b2 w2 e2 X2 l2=>⟨_,X2.cell (i:=0) rfl rfl,?_⟩
 refine pP call84 (aOh fun w3 e3=>pN ⟨_,_,_,_,_,_,_,_,_,_,_,_,rfl,rK fun b4 w4 e4 X4 l4=>st11 X4 fun w5 X5 g5=>?_⟩)
 have XX:Blk w5 b2 #[.int .u8 x.op,.int .i64 x.a,.int .i64 x.b,.int .i64 x.key,.int .i64 x.val,.int .i64 x.lo,.int .i64 x.hi,.int .i64 x.n,.int .u8 x.pol,.int .u8 x.pk,.int .i64 x.pa,.int .i64 x.pb,.bool x.pnot,.slice pp x.pairs.length pc,.slice kp x.keys.length kc] 30:=((X2.ext e3).ext e4).grown g5 (pV (by have:=(X2.ext e3).lt;omega))
 have E5:Ext w w5:=(((e2.trans e3).trans e4)).st g5 (by have:=e2.size;have:=e3.size;omega)
 have fin:∀w' b,Ext w5 w'→mayO x=b→R (.returned (.bool b)) w':=fun w' b e hb=>by subst hb;exact h w' (E5.trans e)
 clear h X2 X4 g5 e2 e3 e4 l2 l4 E5
 refine ⟨_,_,_,rfl,?_⟩
 have hno:mayO x=false→uO R [.pointer (some (blk b2)),.pointer (some (blk b4)),.bool true] w5:=fun hb=>⟨_,_,_,rfl,by unfold aCo;exact pZ rfl (fin _ false (pR _) hb)⟩
 unfold aHw
 by_cases hop:1≤x.op∧x.op≤22
 case neg=>exact pZ (by rw [decide_eq_false hop];rfl) (hno (mayO_nop hop))
 refine pY (by rw [decide_eq_true hop];rfl) ?_
 unfold hasP at X5
 refine xK x.op (C:=fun l=>partsOf x.op=l→Blk w5 b4 #[.bool (decide (Part.a∈l)),.bool (decide (Part.b∈l)),.bool (decide (Part.key∈l)),.bool (decide (Part.val∈l)),.bool (decide (Part.lo∈l)),.bool (decide (Part.hi∈l)),.bool (decide (Part.n∈l)),.bool (decide (Part.pol∈l)),.bool (decide (Part.pred∈l)),.bool (decide (Part.pairs∈l)),.bool (decide (Part.keys∈l))] 115→_) ?_ ?_ ?_ ?_ ?_ ?_ ?_ ?_ ?_ ?_ ?_ ?_ rfl X5
 all_goals (clear X5;intro hl X5)
 all_goals refine ⟨_,X5.cell (i:=0) rfl rfl,?_⟩
 all_goals first
  | (
   refine pY rfl ?_
   have ga:Part.a∉partsOf x.op→x.a=0:=fun h=>absurd (by rw [hl];decide) h)
  | (
   refine pZ rfl ⟨_,XX.cell (i:=1) rfl rfl,pO (fun z=>hno (uT (p:=.a) (by rw [hl];decide) fun e=>(by have e:(0:Int)=x.a:=e;simp [←e] at z))) fun z=>?_⟩
   have ga:Part.a∉partsOf x.op→x.a=0:=fun _=>(by simpa using z))
 all_goals refine ⟨_,X5.cell (i:=1) rfl rfl,?_⟩
 all_goals first
  | (
   refine pY rfl ?_
   have gb:Part.b∉partsOf x.op→x.b=0:=fun h=>absurd (by rw [hl];decide) h)
  | (
   refine pZ rfl ⟨_,XX.cell (i:=2) rfl rfl,pO (fun z=>hno (uT (p:=.b) (by rw [hl];decide) fun e=>(by have e:(0:Int)=x.b:=e;simp [←e] at z))) fun z=>?_⟩
   have gb:Part.b∉partsOf x.op→x.b=0:=fun _=>(by simpa using z))
 all_goals refine ⟨_,X5.cell (i:=2) rfl rfl,?_⟩
 all_goals first
  | (
   refine pY rfl ?_
   have gkey:Part.key∉partsOf x.op→x.key=0:=fun h=>absurd (by rw [hl];decide) h
   refine ⟨_,_,_,rfl,?_⟩
   unfold aCo
   refine pY rfl ?_)
  | (
   refine pZ rfl ⟨_,XX.cell (i:=3) rfl rfl,?_⟩
   refine ⟨_,_,_,rfl,?_⟩
   unfold aCo
   refine pO (fun z=>fin _ false (pR _) (uT (p:=.key) (by rw [hl];decide) fun e=>(by have e:(0:Int)=x.key:=e;simp [←e] at z))) fun z=>?_
   have gkey:Part.key∉partsOf x.op→x.key=0:=fun _=>(by simpa using z))
 all_goals refine ⟨_,X5.cell (i:=3) rfl rfl,?_⟩
 all_goals first
  | (
   refine pY rfl ?_
   have gval:Part.val∉partsOf x.op→x.val=0:=fun h=>absurd (by rw [hl];decide) h)
  | (
   refine pZ rfl ⟨_,XX.cell (i:=4) rfl rfl,pO (fun z=>fin _ false (pR _) (uT (p:=.val) (by rw [hl];decide) fun e=>(by have e:(0:Int)=x.val:=e;simp [←e] at z))) fun z=>?_⟩
   have gval:Part.val∉partsOf x.op→x.val=0:=fun _=>(by simpa using z))
 all_goals refine ⟨_,X5.cell (i:=4) rfl rfl,?_⟩
 all_goals first
  | (
   refine pY rfl ?_
   have glo:Part.lo∉partsOf x.op→x.lo=0:=fun h=>absurd (by rw [hl];decide) h)
  | (
   refine pZ rfl ⟨_,XX.cell (i:=5) rfl rfl,pO (fun z=>fin _ false (pR _) (uT (p:=.lo) (by rw [hl];decide) fun e=>(by have e:(0:Int)=x.lo:=e;simp [←e] at z))) fun z=>?_⟩
   have glo:Part.lo∉partsOf x.op→x.lo=0:=fun _=>(by simpa using z))
 all_goals refine ⟨_,X5.cell (i:=5) rfl rfl,?_⟩
 all_goals first
  | (
   refine pY rfl ?_
   have ghi:Part.hi∉partsOf x.op→x.hi=0:=fun h=>absurd (by rw [hl];decide) h)
  | (
   refine pZ rfl ⟨_,XX.cell (i:=6) rfl rfl,pO (fun z=>fin _ false (pR _) (uT (p:=.hi) (by rw [hl];decide) fun e=>(by have e:(0:Int)=x.hi:=e;simp [←e] at z))) fun z=>?_⟩
   have ghi:Part.hi∉partsOf x.op→x.hi=0:=fun _=>(by simpa using z))
 all_goals refine ⟨_,X5.cell (i:=6) rfl rfl,?_⟩
 all_goals first
  | (
   refine pY rfl ?_
   have gn:Part.n∉partsOf x.op→x.n=0:=fun h=>absurd (by rw [hl];decide) h)
  | (
   refine pZ rfl ⟨_,XX.cell (i:=7) rfl rfl,pO (fun z=>fin _ false (pR _) (uT (p:=.n) (by rw [hl];decide) fun e=>(by have e:(0:Int)=x.n:=e;simp [←e] at z))) fun z=>?_⟩
   have gn:Part.n∉partsOf x.op→x.n=0:=fun _=>(by simpa using z))
 all_goals (refine ⟨_,_,rfl,?_⟩;unfold aHv;intro K2)
 all_goals refine ⟨_,X5.cell (i:=7) rfl rfl,?_⟩
 all_goals first
  | (
   refine pY rfl ?_
   have gpol:Part.pol∉partsOf x.op→x.pol=0:=fun h=>absurd (by rw [hl];decide) h)
  | (
   refine pZ rfl ⟨_,XX.cell (i:=8) rfl rfl,pO (fun z=>fin _ false (pR _) (uT (p:=.pol) (by rw [hl];decide) fun e=>(by have e:(0:Int)=x.pol:=e;simp [←e] at z))) fun z=>?_⟩
   have gpol:Part.pol∉partsOf x.op→x.pol=0:=fun _=>(by simpa using z))
 all_goals refine ⟨_,X5.cell (i:=8) rfl rfl,?_⟩
 all_goals first
  | (
   refine pY rfl ?_
   have gpred:Part.pred∉partsOf x.op→x.pk=0∧x.pa=0∧x.pb=0∧x.pnot=false:=fun h=>absurd (by rw [hl];decide) h)
  | (
   refine pZ rfl ⟨_,XX.cell (i:=9) rfl rfl,_,XX.cell (i:=10) rfl rfl,_,XX.cell (i:=11) rfl rfl,_,XX.cell (i:=12) rfl rfl,pO (fun z=>fin _ false (pR _) (uT (p:=.pred) (by rw [hl];decide) fun e=>(by have e:(0:Int)=x.pk∧(0:Int)=x.pa∧(0:Int)=x.pb∧false=x.pnot:=e;simp [←e.1,←e.2.1,←e.2.2.1,←e.2.2.2] at z))) fun z=>?_⟩
   have gpred:Part.pred∉partsOf x.op→x.pk=0∧x.pa=0∧x.pb=0∧x.pnot=false:=fun _=>(by simpa using z))
 all_goals refine ⟨_,X5.cell (i:=9) rfl rfl,?_⟩
 all_goals first
  | (
   refine pY rfl ?_
   have gpairs:Part.pairs∉partsOf x.op→x.pairs=[]:=fun h=>absurd (by rw [hl];decide) h)
  | (
   refine pZ rfl ⟨_,_,_,XX.cell (i:=13) rfl rfl,pO (fun z=>fin _ false (pR _) (uT (p:=.pairs) (by rw [hl];decide) fun e=>(by have e:([]:List _)=x.pairs:=e;simp [←e] at z))) fun z=>?_⟩
   have gpairs:Part.pairs∉partsOf x.op→x.pairs=[]:=fun _=>(by simpa using z))
 all_goals refine ⟨_,X5.cell (i:=10) rfl rfl,?_⟩
 all_goals first
  | (
   refine pY rfl ?_
   have gkeys:Part.keys∉partsOf x.op→x.keys=[]:=fun h=>absurd (by rw [hl];decide) h)
  | (
   refine pZ rfl ⟨_,_,_,XX.cell (i:=14) rfl rfl,?_⟩
   simp -zeta -zetaHave only [K2]
   refine pO (fun z=>fin _ false (pR _) (uT (p:=.keys) (by rw [hl];decide) fun e=>(by have e:([]:List _)=x.keys:=e;simp [←e] at z))) fun z=>?_
   have gkeys:Part.keys∉partsOf x.op→x.keys=[]:=fun _=>(by simpa using z))
 all_goals (refine ⟨_,_,rfl,?_⟩;unfold aHu;intro K3)
 all_goals
  have hm:aGd x:=fun p hp=>by
   cases p
   ·exact (ga hp).symm
   ·exact (gb hp).symm
   ·exact (gn hp).symm
   ·exact (gkey hp).symm
   ·exact (gval hp).symm
   ·exact (glo hp).symm
   ·exact (ghi hp).symm
   ·exact (gpol hp).symm
   ·exact ⟨(gpred hp).1.symm,(gpred hp).2.1.symm,(gpred hp).2.2.1.symm,(gpred hp).2.2.2.symm⟩
   ·exact (gpairs hp).symm
   ·exact (gkeys hp).symm
 all_goals refine ⟨_,X5.cell (i:=7) rfl rfl,?_⟩
 all_goals first
  | (
   refine pZ rfl ?_
   have h7:Part.pol∈partsOf x.op→vA x.pol=true:=fun h=>absurd h (by rw [hl];decide))
  | (
   refine pY rfl ⟨_,XX.cell (i:=8) rfl rfl,pP call89 (aIy (pN ⟨_,rfl,pO (fun z=>?_) fun z=>fin _ false (pR _) (aPj (by rw [hl];decide) z)⟩))⟩
   have h7:Part.pol∈partsOf x.op→vA x.pol=true:=fun _=>z)
 all_goals refine ⟨_,X5.cell (i:=8) rfl rfl,?_⟩
 all_goals first
  | (
   refine pZ rfl ?_
   have h8:Part.pred∈partsOf x.op→qJ x.pk x.pa x.pb=true:=fun h=>absurd h (by rw [hl];decide)
   have e6:=pR w5)
  | (
   refine pY rfl ⟨_,XX.cell (i:=9) rfl rfl,_,XX.cell (i:=10) rfl rfl,_,XX.cell (i:=11) rfl rfl,_,XX.cell (i:=12) rfl rfl,pP call138 (aOf fun w6 e6=>pN ⟨_,rfl,pO (fun z=>?_) fun z=>fin _ false e6 (aLp (by rw [hl];decide) z)⟩)⟩
   have h8:Part.pred∈partsOf x.op→qJ x.pk x.pa x.pb=true:=fun _=>z)
 all_goals refine ⟨_,_,_,(XX.ext e6).cell (i:=13) rfl rfl,?_⟩
 all_goals refine pO (fun z=>⟨_,_,_,(XX.ext e6).cell (i:=14) rfl rfl,?_⟩) fun z=>fin _ false e6 (aJw (by have:=of_decide_eq_false z;omega))
 all_goals simp -zeta -zetaHave only [K3]
 all_goals refine fin _ _ e6 ?_
 all_goals rw [mayO_end hop hm h7 h8 (by have:=of_decide_eq_true z;omega)]
 all_goals (rw [Bool.eq_iff_iff];simp;omega)
end Go.Proofs.YtmdboekndjlmgaaGreat
namespace Go.Proofs.YtmdboekndjlmgaaGreat.Rb
open Go Go.Sh Go.RowKit Tryz
variable {w:World}{R:EW}
theorem has_a(d:Int):hasP .a d=kA d:=by
 unfold hasP partsOf kA
 repeat' split
 all_goals (simp;try omega)
theorem has_b(d:Int):hasP .b d=kB d:=by
 unfold hasP partsOf kB
 repeat' split
 all_goals (simp;try omega)
theorem has_lo(d:Int):hasP .lo d=kS d:=by
 unfold hasP partsOf kS
 repeat' split
 all_goals (simp;try omega)
theorem mkN_le(d:Int):mkN d≤2:=by
 unfold mkN
 split
 ·omega
 ·split <;> omega
theorem c_wrong{P:Nat→Prop}{rb:Nat}{o:Int}{L:Rows}{x:POp}{pp kp:OA}{pc kc:Nat}(hB:BookN P w rb o L)(zL:L.length≤5000)(hx:InO x)
  (h:∀w',Ext w w'→R (.returned (.int .i64 (rT o L x))) w'):Calls prog 32 #[.pointer (some (blk rb)),.agg #[.int .u8 x.op,.int .i64 x.a,.int .i64 x.b,.int .i64 x.key,.int .i64 x.val,.int .i64 x.lo,.int .i64 x.hi,.int .i64 x.n,.int .u8 x.pol,.int .u8 x.pk,.int .i64 x.pa,.int .i64 x.pb,.bool x.pnot,.slice pp x.pairs.length pc,.slice kp x.keys.length kc]] w R:=by
 refine sh32_ok ?_
 unfold sh32
 refine rK fun b2 w2 e2 X2 l2=>⟨_,X2.cell (i:=0) rfl rfl,_,X2.cell (i:=1) rfl rfl,_,X2.cell (i:=2) rfl rfl,_,X2.cell (i:=3) rfl rfl,_,X2.cell (i:=4) rfl rfl,_,X2.cell (i:=5) rfl rfl,_,X2.cell (i:=6) rfl rfl,_,X2.cell (i:=7) rfl rfl,_,X2.cell (i:=8) rfl rfl,_,X2.cell (i:=9) rfl rfl,_,X2.cell (i:=10) rfl rfl,_,X2.cell (i:=11) rfl rfl,_,X2.cell (i:=12) rfl rfl,_,_,_,X2.cell (i:=13) rfl rfl,_,_,_,X2.cell (i:=14) rfl rfl,?_⟩
 refine pP call83 (c_r37may fun w3 e3=>pN ⟨_,rfl,?_⟩)
 cases hmay:mayO x with
 | false=>
  have h:=h w3 (e2.trans e3)
  unfold rT at h
  rw [if_pos hmay] at h
  exact pZ rfl h
 | true=>
 refine pY rfl ⟨_,(X2.ext e3).cell (i:=0) rfl rfl,?_⟩
 refine pP call84 (aOh fun w4 e4=>pN ⟨_,_,_,_,_,_,_,_,_,_,_,_,rfl,rK fun b5 w5 e5 X5 l5=>st11 X5 fun w6 X6 g6=>?_⟩)
 have XX:Blk w6 b2 #[.int .u8 x.op,.int .i64 x.a,.int .i64 x.b,.int .i64 x.key,.int .i64 x.val,.int .i64 x.lo,.int .i64 x.hi,.int .i64 x.n,.int .u8 x.pol,.int .u8 x.pk,.int .i64 x.pa,.int .i64 x.pb,.bool x.pnot,.slice pp x.pairs.length pc,.slice kp x.keys.length kc] 30:=(((X2.ext e3).ext e4).ext e5).grown g6 (pV (by have:=((X2.ext e3).ext e4).lt;omega))
 have E6:Ext w w6:=((((e2.trans e3).trans e4).trans e5)).st g6 (by have:=e2.size;have:=e3.size;have:=e4.size;omega)
 have B6:BookN P w6 rb o L:=hB.ext E6
 have h:=fun w' (e:Ext w6 w')=>h w' (E6.trans e)
 unfold rT at h
 rw [if_neg (by rw [hmay];decide)] at h
 rw [has_a,has_b,has_lo] at X6
 clear X2 X5 g6 e2 e3 e4 e5 l2 l5 E6 hB
 intro K74 K121
 have h3:((kA x.op&&!qM L x.a)=true∨(kB x.op&&!qM L x.b)=true)→R (.returned (.int .i64 3)) w6:=fun hc=>by
  have h:=h w6 (pR _)
  rw [if_pos hc] at h;exact h
 have hK:¬((kA x.op&&!qM L x.a)=true∨(kB x.op&&!qM L x.b)=true)→K74 w6:=fun hc=>by
  simp -zeta -zetaHave only [K74]
  have h:=fun w' (e:Ext w6 w')=>h w' e
  rw [if_neg hc] at h
  have e67:=pT w6
  have HC:=pR w6.drew
  obtain ⟨p,cc,vs,hb,_⟩:=B6.ex
  have Y:∀w',Ext w6.drew w'→Blk w' b2 _ _:=fun w' e=>(XX.ext e67).ext e
  have Z:∀w',Ext w6.drew w'→Blk w' rb _ _:=fun w' e=>(hb.ext e67).ext e
  refine ⟨fun w'=>Ext w6.drew w',HC,_,rfl,_,_,_,fun w' e=>(Z w' e).cell (i:=1) rfl rfl,_,fun w' e=>(Y w' e).cell (i:=0) rfl rfl,?_⟩
  refine pP call86 (c_makes (pN ⟨_,rfl,HC,?_⟩))
  have hmk:=mkN_le x.op
  rw [qB (by omega) (by omega)]
  refine pO (fun z=>?_) fun z=>?_
  ·have z:=of_decide_eq_true z
   have h:=h _ e67
   rw [if_pos (by omega)] at h;exact h
  have z:=of_decide_eq_false z
  rw [if_neg (by omega)] at h
  have h:=fun w' (e:Ext w6.drew w')=>h w' (e67.trans e)
  have B7:=B6.ext e67
  have X7:=XX.ext e67
  have F7:=X6.ext e67
  clear Y Z B6 XX X6 z
  generalize w6.drew=w7 at *
  intro K86 K104
  have hK86:¬(x.op=17∧(x.n < 0∨((atL L x.a).length:Int)≤x.n))→∀w8,Ext w7 w8→K86 w8:=fun hc w8 e8=>by
   simp -zeta -zetaHave only [K86]
   intro K88 K91
   rw [if_neg hc] at h
   have e89:=e8.trans (pT w8)
   obtain ⟨p,cc,vs,hb,_⟩:=B7.ex
   have Y:∀w',Ext w8.drew w'→Blk w' b2 _ _:=fun w' e=>(X7.ext e89).ext e
   have Z:∀w',Ext w8.drew w'→Blk w' rb _ _:=fun w' e=>(hb.ext e89).ext e
   have V:∀w',Ext w8.drew w'→Blk w' b5 _ _:=fun w' e=>(F7.ext e89).ext e
   have HC:=pR w8.drew
   have h0:¬(kS x.op=true∧cmpI o x.hi x.lo < 0)→R (.returned (.int .i64 0)) w8.drew:=fun hc=>by
    have h:=h _ e89
    rw [if_neg hc] at h;exact h
   refine ⟨fun w'=>Ext w8.drew w',HC,_,fun w' e=>(V w' e).cell (i:=4) rfl rfl,?_⟩
   cases hks:kS x.op with
   | false=>
    refine pY rfl ?_
    simp -zeta -zetaHave only [K88]
    exact h0 (by rw [hks];simp)
   | true=>
    refine pZ rfl ⟨_,rfl,_,fun w' e=>(Z w' e).cell (i:=0) rfl rfl,_,fun w' e=>(Y w' e).cell (i:=6) rfl rfl,_,fun w' e=>(Y w' e).cell (i:=5) rfl rfl,?_⟩
    refine pP call87 (wD hx.hi hx.lo (pN ⟨_,rfl,HC,?_⟩))
    simp -zeta -zetaHave only [K91]
    refine pO (fun y=>?_) fun y=>?_
    ·have h:=h _ e89
     rw [if_pos ⟨hks,of_decide_eq_true y⟩] at h;exact h
    ·simp -zeta -zetaHave only [K88]
     exact h0 fun hh=>of_decide_eq_false y hh.2
  have e78:=pT w7
  have HC:=pR w7.drew
  have Y:∀w',Ext w7.drew w'→Blk w' b2 _ _:=fun w' e=>(X7.ext e78).ext e
  refine ⟨fun w'=>Ext w7.drew w',HC,_,fun w' e=>(Y w' e).cell (i:=0) rfl rfl,?_⟩
  refine pO (fun y=>?_) fun y=>?_
  ·have y:x.op=17:=by simpa using y
   have h320:(x.n < 0∨((atL L x.a).length:Int)≤x.n)→R (.returned (.int .i64 320)) w7.drew:=fun hc=>by
    have h:=h _ e78
    rw [if_pos ⟨y,hc⟩] at h;exact h
   refine ⟨_,fun w' e=>(Y w' e).cell (i:=7) rfl rfl,?_⟩
   refine pO (fun u=>h320 (.inl (of_decide_eq_true u))) fun u=>?_
   have u:=of_decide_eq_false u
   have hta:qM L x.a=true:=by
    cases ht:qM L x.a
    ·exact absurd (.inl (by rw [ht,y];rfl)) hc
    ·rfl
   obtain ⟨p,cc,hb,hix⟩:=B7.ix (m:=x.a)
   obtain ⟨a,q,d,rfl,g1,g2,g3,_,_⟩:=hix hta
   have Z:∀w',Ext w7.drew w'→Blk w' rb _ _:=fun w' e=>(hb.ext e78).ext e
   refine ⟨_,fun w' e=>(Y w' e).cell (i:=7) rfl rfl,_,rfl,_,_,_,fun w' e=>(Z w' e).cell (i:=1) rfl rfl,_,fun w' e=>(Y w' e).cell (i:=1) rfl rfl,?_⟩
   refine ⟨a,rfl,g1,g2,_,_,_,fun w' e=>(e78.trans e).cell g3,?_⟩
   simp -zeta -zetaHave only [K104]
   refine pO (fun v=>h320 (.inr (by have:=of_decide_eq_true v;omega))) fun v=>?_
   exact hK86 (fun hh=>by have:=of_decide_eq_false v;omega) _ e78
  ·have y:x.op≠17:=by simpa using y
   exact hK86 (fun hh=>y hh.1) _ e78
 refine ⟨_,X6.cell (i:=0) rfl rfl,?_⟩
 have hK121:∀b,((kA x.op&&!qM L x.a)=true∨(kB x.op&&!qM L x.b)=true↔b=true)→K121 b w6:=fun b hb=>by
  simp -zeta -zetaHave only [K121]
  cases b with
  | true=>exact pZ rfl (h3 (hb.2 rfl))
  | false=>exact pY rfl (hK fun hc=>by have:=hb.1 hc;cases this)
 cases ha:kA x.op with
 | true=>
  refine pZ rfl ⟨_,XX.cell (i:=1) rfl rfl,pP call85 (yQ B6 (pN ⟨_,rfl,?_⟩))⟩
  cases hta:qM L x.a with
  | false=>exact pZ rfl (h3 (.inl (by rw [ha,hta];rfl)))
  | true=>
   refine pY rfl ⟨_,X6.cell (i:=1) rfl rfl,?_⟩
   cases hb:kB x.op with
   | true=>
    refine pZ rfl ⟨_,XX.cell (i:=2) rfl rfl,pP call85 (yQ B6 (pN ⟨_,rfl,hK121 _ ?_⟩))⟩
    rw [ha,hta,hb];simp
   | false=>exact pY rfl (hK (by rw [ha,hta,hb];simp))
 | false=>
  refine pY rfl ⟨_,X6.cell (i:=1) rfl rfl,?_⟩
  cases hb:kB x.op with
  | true=>
   refine pZ rfl ⟨_,XX.cell (i:=2) rfl rfl,pP call85 (yQ B6 (pN ⟨_,rfl,hK121 _ ?_⟩))⟩
   rw [ha,hb];simp
  | false=>exact pY rfl (hK (by rw [ha,hb];simp))
end Go.Proofs.YtmdboekndjlmgaaGreat.Rb
namespace Go.Proofs.YtmdboekndjlmgaaGreat
open Go Go.Sh Go.RowKit Tryz
variable {w:World}{R:EW}
theorem sort_mem{o p k:Int}(ho:isO o=true)(hp:may p=true){l:List Pr}(hl:InP l):(∃y∈sC o p l,y.1=k)↔∃z∈l,z.1=k:=by
 constructor
 ·rintro ⟨y,hy,rfl⟩
  exact sortL_keys ho hp hl y hy
 ·rintro ⟨z,hz,rfl⟩
  have hm:=sO ho hp hl
  have e:=xO ho hp hl z.1
  have hz':z∈l.filter fun x=>x.1==z.1:=List.mem_filter.2 ⟨hz,by simp⟩
  have hs:∀(m:List Int) (a:Option Int),a.isSome=true∨m≠[]→(m.foldl (addO p) a).isSome=true:=by
   intro m
   induction m with
   | nil=>
       intro a h;rcases h with h | h
       ·exact h
       ·exact absurd rfl h
   | cons x m ih=>intro a _;exact ih _ (.inl (by cases a <;> rfl))
  have:=hs ((l.filter fun x=>x.1==z.1).map (·.2)) none (.inr fun q=>by
   have:=List.map_eq_nil_iff.1 q
   rw [this] at hz';cases hz')
  rw [←e] at this
  cases hv:lk o (sC o p l) z.1 with
  | none=>rw [hv] at this;cases this
  | some v=>exact ⟨_,(tL hm.1).1 hv,rfl⟩
theorem aHh{o:Int}:∀(keys:List Int) {a:List Pr},mayR o a=true→mayR o (keys.foldl (rY o) a)=true∧(keys.foldl (rY o) a).Sublist a
 | [],a,h=>⟨h,List.Sublist.refl _⟩
 | k::keys,a,h=>by
  have h1:=aHh keys (aFn (key:=k) h)
  have h2:(rY o a k).Sublist a:=by rw [uK h];exact List.filter_sublist
  exact ⟨h1.1,h1.2.trans h2⟩
theorem aCd{o:Int}:∀(keys:List Int) {a:List Pr},mayR o a=true→keys.foldl (rY o) a=a.filter (fun x=>!keys.contains x.1)
 | [],a,_=>by
  show a=a.filter fun _=>true
  exact (List.filter_eq_self.2 fun _ _=>rfl).symm
 | k::keys,a,h=>by
  have h1:=aCd keys (aFn (key:=k) h)
  rw [List.foldl_cons,h1,uK h,List.filter_filter]
  congr 1
  funext x
  rw [Bool.eq_iff_iff]
  simp
  constructor <;> (intro h;exact ⟨h.2,h.1⟩)
theorem drops_eq{o:Int}{a:List Pr}{keys:List Int}(hm:mayR o a=true)(hI:InP a)(hk:∀k∈keys,In k):setL o 1 wL a (srtP o 1 (keys.map fun k=>(k,0)))=keys.foldl (rY o) a:=by
 have ho:=xL hm
 have hz:InP (keys.map fun k=>(k,(0:Int))):=fun x hx=>by
  obtain ⟨k,hk',rfl⟩:=List.mem_map.1 hx
  exact ⟨hk k hk',in0⟩
 have es:srtP o 1 (keys.map fun k=>(k,0))=sC o 1 (keys.map fun k=>(k,0)):=by unfold srtP;rw [ho,may1];rfl
 obtain ⟨bm,bI,_⟩:=sO ho may1 hz
 have hmem:=fun k=>sort_mem (o:=o) (p:=1) (k:=k) ho may1 hz
 rw [es,le_eq hI bI]
 unfold r5le
 rw [hm,bm,Bool.and_self,cond_true,aCd keys hm]
 have e:∀x:Pr,lessF o (sC o 1 (keys.map fun k=>(k,0))) x=if (!keys.contains x.1)=true then some x else none:=fun x=>by
  unfold lessF
  have hx:hasR o (sC o 1 (keys.map fun k=>(k,0))) x.1=keys.contains x.1:=by
   rw [Bool.eq_iff_iff,wT bm,List.contains_iff_mem]
   constructor
   ·rintro ⟨i,hi,hxi⟩
    obtain ⟨z,hz,hzx⟩:=(hmem x.1).1 ⟨_,List.getElem_mem hi,hxi⟩
    obtain ⟨k,hk',rfl⟩:=List.mem_map.1 hz
    rw [←hzx];exact hk'
   ·intro hx
    obtain ⟨y,hy,hyx⟩:=(hmem x.1).2 ⟨(x.1,0),List.mem_map.2 ⟨_,hx,rfl⟩,rfl⟩
    obtain ⟨i,hi,rfl⟩:=List.getElem_of_mem hy
    exact ⟨i,hi,hyx⟩
  rw [hx]
  cases keys.contains x.1 <;> rfl
 rw [show a.filterMap (lessF o (sC o 1 (keys.map fun k=>(k,0))))=a.filterMap (fun x=>if (!keys.contains x.1)=true then some x else none) from by congr 1;funext x;exact e x]
 exact fm_filter
namespace Rb
theorem c_new{o:Int}(h:∀rb w',BookN (fun _=>True) w' rb o [[]]→Ext w w'→(∀k,BkOwn rb w' k→w.heap.size≤k)→R (.returned (.pointer (some (blk rb)))) w'):Calls prog 20 #[.int .u8 o] w R:=by
 refine sh20_ok ?_
 unfold sh20
 refine rK fun b2 w2 e2 X2 l2=>rK fun b3 w3 e3 X3 l3=>?_
 have hlt:=X2.lt
 have X2':=X2.ext e3
 refine h b3 w3 ⟨_,_,[.slice none 0 0],X3,⟨⟨rfl,.inr ⟨b2,1,#[.slice none 0 0],rfl,Nat.zero_le _,X2',Nat.le_refl _,by simp [maxLen],rfl,rfl⟩⟩,fun e=>by have e:b2=b3:=Option.some.inj e;omega⟩,fun i l hl=>?_⟩ (e2.trans e3) fun k hk=>?_
 ·match i,hl with
  | 0,hl=>
   obtain rfl:[]=l:=by simpa using hl
   exact ⟨_,rfl,rP _ _ _,fun a n c e _=>by cases e⟩
  | i+1,hl=>simp at hl
 ·rcases (tP X3 k).1 hk with rfl | hk
  ·have:=e2.size;omega
  ·have hk:b2=k:=Option.some.inj hk
   omega
theorem fresh{P:Nat→Prop}{rb base:Nat}{o:Int}{L:Rows}{l:List Pr}{q:OA}{n c:Nat}{w0 w:World}(hB:BookN P w0 rb o L)(hb:w0.heap.size≤base)(hP:∀k,w0.heap.size≤k→P k)(e:Ext w0 w)(ho:OwnP w base q n c l):
  RowAt (BkOwn rb) rb w (.slice q n c) l.length (prs l)∧uW P (.slice q n c):=by
 have hn:=qF ho
 refine ⟨?_,fun a m d e' _=>by injection e' with e1;exact hP _ (by have:=(tG ho e1).1;omega)⟩
 rw [hn]
 exact RowAt.own_row ho (fun k hk=>.inl (by have:=hB.lt ((hB.own_ext e k).1 hk);omega)) (by have:=hB.lt (.inl rfl);omega)
theorem aPv{P:Nat→Prop}{rb:Nat}{o:Int}{L:Rows}{a:List Pr}{keys:List Int}{q kq:OA}{n c kn kc:Nat}(hB:BookN P w rb o L)(hP:∀k,w.heap.size≤k→P k)(ha:RowAt (BkOwn rb) rb w (.slice q n c) a.length (prs a))(hb:uW P (.slice q n c))
  (hm:mayR o a=true) (hI:InP a) (hz:a.length≤1000000) (hk:Cs w kq (ints keys)) (hkn:keys.length=kn) (hkz:kn≤1000000)
  (h:∀q' n' c' w',RowAt (BkOwn rb) rb w' (.slice q' n' c') (keys.foldl (rY o) a).length (prs (keys.foldl (rY o) a))→uW P (.slice q' n' c')→Ext w w'→R (.returned (.slice q' n' c')) w') :
  Calls prog 47 #[.int .u8 o,.slice q n c,.slice kq kn kc] w R:=by
 refine sh47_ok ?_
 unfold sh47
 refine ⟨fun vs w'=>∃(k:Nat) (q':OA) (n' c':Nat),vs=[.slice q' n' c',.int .i64 (k:Int)]∧k≤kn∧Ext w w'∧RowAt (BkOwn rb) rb w' (.slice q' n' c') ((keys.take k).foldl (rY o) a).length (prs ((keys.take k).foldl (rY o) a))∧uW P (.slice q' n' c'),
  fun vs _=>match vs with | [_,.int _ i]=>kn - i.toNat | _=>0,⟨0,q,n,c,rfl,Nat.zero_le _,pR _,ha,hb⟩,?_⟩
 rintro q1 n1 c1 i_ _ w2 ⟨k,q2,n2,c2,hv,hk',e2,hr,hbl⟩
 simp only [List.cons.injEq,Value.int.injEq,Value.slice.injEq,true_and,and_true] at hv
 obtain ⟨⟨rfl,rfl,rfl⟩,rfl⟩:=hv
 refine pO (fun z=>?_) fun z=>?_
 ·have z:k < kn:=by have:=of_decide_eq_true z;omega
  have hlt:k < keys.length:=by omega
  refine aNt (hk.ext e2) hkn z fun a3 r3=>⟨_,r3,?_⟩
  obtain ⟨dm,ds⟩:=aHh (keys.take k) hm
  have hr0:=hr
  obtain ⟨q3,c3,ev,_,hcs,_⟩:=hr0
  injection ev with ev1 ev2 ev3
  subst ev1
  have hlen:=ds.length_le
  refine pP call36 (aKu hcs ev2.symm (by omega) (aHr hI ds) fun p' n' c' w4 ho e4=>pN ⟨_,_,_,_,rfl,?_⟩)
  rw [pW z (by omega)]
  have hB2:=hB.ext e2
  have s2:=e2.size
  obtain ⟨f1,f2⟩:=fresh hB2 (Nat.le_refl _) (fun k hk=>hP k (by omega)) e4 ho
  have et:(keys.take (k+1)).foldl (rY o) a=rY o ((keys.take k).foldl (rY o) a) keys[k]:=by
   rw [←List.take_append_getElem hlt,List.foldl_append];rfl
  refine ⟨⟨k+1,p',n',c',rfl,by omega,e2.trans e4,?_,f2⟩,?_⟩
  ·rw [et];exact f1
  ·show kn - ((k+1:Nat):Int).toNat < kn - (k:Int).toNat
   omega
 ·have z:k=kn:=by have:=of_decide_eq_false z;omega
  rw [z,←hkn,List.take_length] at hr
  exact h q1 n1 c1 w2 hr hbl e2
end Rb
end Go.Proofs.YtmdboekndjlmgaaGreat
