/-
  Rows as sets: plain laws, and what the functions of rowset do: both, some.
-/
import Derived.Test.YtmdboekndjlmgaaGreatZ28
set_option maxRecDepth 100000
set_option maxHeartbeats 6400000
namespace Go.Proofs.YtmdboekndjlmgaaGreat
open Go Go.Sh Go.RowKit Tryz
variable {w:World}{R:EW}
structure Ke where
 key:Int
 a:Int
 b:Int
 inA:Bool
 inB:Bool
def keV(e:Ke):Value:=.agg #[.int .i64 e.key,.int .i64 e.a,.int .i64 e.b,.bool e.inA,.bool e.inB]
def mg(o:Int):List Pr→List Pr→List Ke
 | [],[]=>[]
 | [],y::b=>⟨y.1,0,y.2,false,true⟩::mg o [] b
 | x::a,[]=>⟨x.1,x.2,0,true,false⟩::mg o a []
 | x::a,y::b=>
  if cmpI o x.1 y.1 < 0 then ⟨x.1,x.2,0,true,false⟩::mg o a (y::b)
  else if cmpI o x.1 y.1=0 then (if x.1=y.1 then ⟨x.1,x.2,y.2,true,true⟩::mg o a b else ⟨x.1,x.2,0,true,false⟩::mg o a (y::b))
  else ⟨y.1,0,y.2,false,true⟩::mg o (x::a) b
termination_by a b=>a.length+b.length
structure Step (o:Int) (ra rb ra' rb':List Pr) (e:Ke) (tr:Int):Prop where
 mg:mg o ra rb=e::mg o ra' rb'
 inA:e.inA=(decide (0 < ra.length)&&(decide (rb.length=0)||decide (tr≤0)))
 yesA:e.inA=true→∃x,ra=x::ra'∧e.a=x.2∧e.key=x.1
 noA:e.inA=false→ra'=ra∧e.a=0
 inB:∀k0,(e.inA=true→k0=e.key)→e.inB=(decide (0 < rb.length)&&(!e.inA||(decide (tr=0)&&(k0==(rb.getD 0 (0,0)).1))))
 yesB:e.inB=true→∃y,rb=y::rb'∧e.b=y.2∧e.key=y.1
 noB:e.inB=false→rb'=rb∧e.b=0
 some:e.inA=false→e.inB=true
theorem step_of{o:Int}{ra rb:List Pr}(h:0 < ra.length+rb.length){tr:Int}(htr:∀x a y b,ra=x::a→rb=y::b→tr=cmpI o x.1 y.1):∃ra' rb' e,Step o ra rb ra' rb' e tr:=by
 match ra,rb,h,htr with
 | [],y::b,_,_=>exact ⟨[],b,⟨y.1,0,y.2,false,true⟩,by rw [mg],by simp,by simp,fun _=>⟨rfl,rfl⟩,by simp,fun _=>⟨y,rfl,rfl,rfl⟩,by simp,fun _=>rfl⟩
 | x::a,[],_,_=>exact ⟨a,[],⟨x.1,x.2,0,true,false⟩,by rw [mg],by simp,fun _=>⟨x,rfl,rfl,rfl⟩,by simp,by simp,by simp,fun _=>⟨rfl,rfl⟩,by simp⟩
 | x::a,y::b,_,htr=>
  have ht:=htr x a y b rfl rfl
  subst ht
  by_cases h1:cmpI o x.1 y.1 < 0
  ·refine ⟨a,y::b,⟨x.1,x.2,0,true,false⟩,by rw [mg,if_pos h1],?_,fun _=>⟨x,rfl,rfl,rfl⟩,by simp,fun k0 hk=>?_,by simp,fun _=>⟨rfl,rfl⟩,by simp⟩
   ·simp;omega
   ·simp;intro h;omega
  ·by_cases h2:cmpI o x.1 y.1=0
   ·by_cases h3:x.1=y.1
    ·refine ⟨a,b,⟨x.1,x.2,y.2,true,true⟩,by rw [mg,if_neg h1,if_pos h2,if_pos h3],?_,fun _=>⟨x,rfl,rfl,rfl⟩,by simp,fun k0 hk=>?_,fun _=>⟨y,rfl,rfl,h3⟩,by simp,by simp⟩
     ·simp;omega
     ·simp [hk rfl,h3,wJ]
    ·refine ⟨a,y::b,⟨x.1,x.2,0,true,false⟩,by rw [mg,if_neg h1,if_pos h2,if_neg h3],?_,fun _=>⟨x,rfl,rfl,rfl⟩,by simp,fun k0 hk=>?_,by simp,fun _=>⟨rfl,rfl⟩,by simp⟩
     ·simp;omega
     ·simp [h2,hk rfl,h3]
   ·refine ⟨x::a,b,⟨y.1,0,y.2,false,true⟩,by rw [mg,if_neg h1,if_neg h2],?_,by simp,fun _=>⟨rfl,rfl⟩,fun k0 hk=>by simp,fun _=>⟨y,rfl,rfl,rfl⟩,by simp,fun _=>rfl⟩
    simp;omega
def lenAt(b:Nat)(w:World):Nat:=match w.cell? (blk b) with
 | some (.slice _ n _)=>n
 | _=>0
theorem lenAt_of{b:Nat}{p:OA}{n c:Nat}{t:TypeId}(h:Blk w b #[.slice p n c] t):lenAt b w=n:=by
 unfold lenAt;rw [h.cell (i:=0) rfl rfl];rfl
def turnOf(o:Int):List Pr→List Pr→Int
 | x::_,y::_=>cmpI o x.1 y.1
 | _,_=>0
structure BothTo (hp:Nat) (o:Int) (a b:List Pr) (qa qb:OA) (ba bb bo:Nat) (y:Value) (St:Nat→World→Prop):Prop where
 cs:∀i w,St i w→Cs w qa (prs a)∧Cs w qb (prs b)∧Blk w bo #[.int .u8 o] 5
 ext:∀i w w',St i w→Ext w w'→St i w'
 grown:∀i w w' k,(k=ba∨k=bb∨(hp≤k∧∃cs,Blk w k cs 149))→St i w→w.grownBy w' (some k)→St i w'
 size:∀i w,St i w→hp≤w.heap.size
 yields:∀i e,(mg o a b)[i]?=some e→∀w sa sb,St i w→Blk w ba sa 22→Blk w bb sb 22→∀R':EW,
  (∀w',St (i+1) w'→Blk w' ba sa 22→Blk w' bb sb 22→R' (.returned (.bool true)) w')→doCall prog y #[keV e] w R'
structure SS (hp:Nat) (St:Nat→World→Prop) (ba bb bx i:Nat) (sa sb:Value) (cs:Array Value) (w:World):Prop where
 st:St i w
 a:Blk w ba #[sa] 22
 b:Blk w bb #[sb] 22
 x:Blk w bx cs 149
 ne:ba≠bx∧bb≠bx∧ba≠bb
 hp:hp≤bx
theorem SS.ext{o:Int}{a b:List Pr}{qa qb:OA}{ba bb bo bx i:Nat}{y:Value}{St:Nat→World→Prop}{sa sb:Value}{cs:Array Value}{w w':World}{hp:Nat}(hy:BothTo hp o a b qa qb ba bb bo y St)(h:SS hp St ba bb bx i sa sb cs w)(e:Ext w w'):SS hp St ba bb bx i sa sb cs w':=
 ⟨hy.ext _ _ _ h.st e,h.a.ext e,h.b.ext e,h.x.ext e,h.ne,h.hp⟩
theorem do_stx{o:Int}{a b:List Pr}{qa qb:OA}{ba bb bo bx i:Nat}{y:Value}{St:Nat→World→Prop}{sa sb:Value}{cs:Array Value}{hp:Nat}(hy:BothTo hp o a b qa qb ba bb bo y St)(h:SS hp St ba bb bx i sa sb cs w){j:Nat}(hj:j < cs.size){v:Value}{K:World→Prop}
  (k:∀w',SS hp St ba bb bx i sa sb (cs.setIfInBounds j v) w'→K w'):doSt (((blk bx).add j).add 0) v w K:=
 qA (i:=j) h.x (by rw [add_zero',pU]) hj fun w' h' g=>k w' ⟨hy.grown _ _ _ _ (.inr (.inr ⟨h.hp,_,h.x⟩)) h.st g,h.a.grown g (pV h.ne.1),h.b.grown g (pV h.ne.2.1),h',h.ne,h.hp⟩
theorem do_sta{o:Int}{a b:List Pr}{qa qb:OA}{ba bb bo bx i:Nat}{y:Value}{St:Nat→World→Prop}{sa sb:Value}{cs:Array Value}{hp:Nat}(hy:BothTo hp o a b qa qb ba bb bo y St)(h:SS hp St ba bb bx i sa sb cs w){v:Value}{K:World→Prop}
  (k:∀w',SS hp St ba bb bx i v sb cs w'→K w'):doSt ((blk ba).add 0) v w K:=
 qA (i:=0) h.a (pU _ _) (by simp) fun w' h' g=>k w' ⟨hy.grown _ _ _ _ (.inl rfl) h.st g,h',h.b.grown g (pV h.ne.2.2.symm),h.x.grown g (pV h.ne.1.symm),h.ne,h.hp⟩
theorem do_stb{o:Int}{a b:List Pr}{qa qb:OA}{ba bb bo bx i:Nat}{y:Value}{St:Nat→World→Prop}{sa sb:Value}{cs:Array Value}{hp:Nat}(hy:BothTo hp o a b qa qb ba bb bo y St)(h:SS hp St ba bb bx i sa sb cs w){v:Value}{K:World→Prop}
  (k:∀w',SS hp St ba bb bx i sa v cs w'→K w'):doSt ((blk bb).add 0) v w K:=
 qA (i:=0) h.b (pU _ _) (by simp) fun w' h' g=>k w' ⟨hy.grown _ _ _ _ (.inr (.inl rfl)) h.st g,h.a.grown g (pV h.ne.2.2),h',h.x.grown g (pV h.ne.2.1.symm),h.ne,h.hp⟩
theorem c_both1{hp:Nat}{o:Int}{a b:List Pr}{qa qb:OA}{na ca nb cb ba bb bo:Nat}{f:Fn}{fx fc:Array Value}{St:Nat→World→Prop}(hy:BothTo hp o a b qa qb ba bb bo (.func f fx fc) St)
  (hna:a.length=na) (hca:na≤ca) (hnb:b.length=nb) (hcb:nb≤cb) (hm:na+nb≤1000000000) (hIa:InP a) (hIb:InP b) (hne:ba≠bb)
  (hba:Blk w ba #[.slice qa na ca] 22) (hbb:Blk w bb #[.slice qb nb cb] 22) (h0:St 0 w) (hend:∀w',St (mg o a b).length w'→R (.returned (.tuple #[])) w') :
  Calls prog 194 #[.func f fx fc,.pointer (some (blk ba)),.pointer (some (blk bb)),.pointer (some (blk bo))] w R:=by
 refine sh194_ok ?_
 unfold sh194
 have slA:∀(l:List Pr) {q:OA} {n c:Nat} {w:World} {K:OA→Nat→Nat→Prop} (x:Pr) (l':List Pr),l=x::l'→Cs w q (prs l)→l.length=n→n≤c→(∀p,(∀w',Cs w' q (prs l)→Cs w' p (prs l'))→K p (n - 1) (c - 1))→doSl q c 2 1 ((n:Nat):Int) K:=fun l {q n c w K} x l' hl hc hn hnc k=>by
  have:=aHs (ec:=fun x:Pr=>[.int .i64 x.1,.int .i64 x.2]) (s:=2) (fun _=>rfl) (by omega) (w:=w) (q:=q) (n:=n) (c:=c) (lo:=1) (hi:=(n:Nat)) (l:=l) (K:=K) hc hn hnc (a:=1) (b:=n) rfl rfl (by subst hl;simp at hn;omega) (Nat.le_refl _) fun p hp=>k p fun w' hc'=>by
   have:=hp w' hc'
   rw [List.take_of_length_le (by omega),hl] at this
   exact this
  exact this
 refine ⟨fun vs w'=>vs=[]∧∃(i:Nat) (ra rb:List Pr) (pa pb:OA) (xa xb:Nat),i≤(mg o a b).length∧(mg o a b).drop i=mg o ra rb∧St i w'∧Blk w' ba #[.slice pa ra.length xa] 22∧Blk w' bb #[.slice pb rb.length xb] 22∧
   ra.length≤xa∧rb.length≤xb∧ra.length+rb.length≤na+nb∧(∀w'',Cs w'' qa (prs a)→Cs w'' pa (prs ra))∧(∀w'',Cs w'' qb (prs b)→Cs w'' pb (prs rb))∧InP ra∧InP rb,
  fun _ w'=>lenAt ba w'+lenAt bb w',
  ⟨rfl,0,a,b,qa,qb,ca,cb,Nat.zero_le _,rfl,h0,by rw [hna];exact hba,by rw [hnb];exact hbb,by omega,by omega,by omega,fun _ h=>h,fun _ h=>h,hIa,hIb⟩,?_⟩
 rintro _ w1 ⟨_,i,ra,rb,pa,pb,xa,xb,hi,hdrop,hs,hA,hBb,hxa,hxb,hsum,hpa,hpb,hIra,hIrb⟩
 refine ⟨_,_,_,hA.cell (i:=0) rfl rfl,_,_,_,hBb.cell (i:=0) rfl rfl,?_⟩
 rw [qB (x:=(ra.length:Int)+(rb.length:Int)) (by omega) (by omega)]
 refine pO (fun hgt=>?_) fun hle=>?_
 rotate_left
 ·have h0:ra.length=0∧rb.length=0:=by have:=of_decide_eq_false hle;omega
  have e1:ra=[]:=List.eq_nil_of_length_eq_zero h0.1
  have e2:rb=[]:=List.eq_nil_of_length_eq_zero h0.2
  subst e1 e2
  rw [mg] at hdrop
  have:i=(mg o a b).length:=by
   have:=congrArg List.length hdrop
   simp at this;omega
  subst this
  exact hend w1 hs
 have hgt:0 < ra.length+rb.length:=by have:=of_decide_eq_true hgt;omega
 refine ⟨?_⟩
 have e2:=pQ w1 (.cells #[.int .i64 0,.int .i64 0,.int .i64 0,.bool false,.bool false] 149)
 have hx2:=pS w1 #[.int .i64 0,.int .i64 0,.int .i64 0,.bool false,.bool false] 149
 have hltA:=hA.lt
 have hltB:=hBb.lt
 have hs2:=hy.ext _ _ _ hs e2
 have hA2:=hA.ext e2
 have hB2:=hBb.ext e2
 generalize hbx:w1.heap.size=bx at *
 generalize w1.alloc (.cells #[.int .i64 0,.int .i64 0,.int .i64 0,.bool false,.bool false] 149)=w2 at *
 have hnx:ba≠bx∧bb≠bx∧ba≠bb:=⟨by omega,by omega,hne⟩
 obtain ⟨tr,htr⟩:∃tr:Int,tr=turnOf o ra rb:=⟨_,rfl⟩
 obtain ⟨ra',rb',e,hst⟩:=step_of (o:=o) (ra:=ra) (rb:=rb) hgt (tr:=tr) (fun x a y b h1 h2=>by rw [htr,h1,h2];rfl)
 have hSS:∀{w':World},Ext w1 w'→Blk w' bx #[.int .i64 0,.int .i64 0,.int .i64 0,.bool false,.bool false] 149→SS hp St ba bb bx i (.slice pa ra.length xa) (.slice pb rb.length xb) #[.int .i64 0,.int .i64 0,.int .i64 0,.bool false,.bool false] w':=
  fun E hx=>⟨hy.ext _ _ _ hs E,hA.ext E,hBb.ext E,hx,hnx,by rw [←hbx];exact hy.size _ _ hs⟩
 refine ⟨fun vs w'=>vs=[.int .i64 tr]∧Ext w1 w'∧Blk w' bx #[.int .i64 0,.int .i64 0,.int .i64 0,.bool false,.bool false] 149,?_,?_⟩
 rotate_left
 ·-- how the two first ones stand
  refine ⟨fun vs w'=>vs=[.bool (decide (0 < ra.length)&&decide (0 < rb.length))]∧w'=w2,?_,?_⟩
  rotate_left
  ·refine ⟨_,_,_,hA2.cell (i:=0) rfl rfl,?_⟩
   refine pO (fun h1=>?_) fun h1=>?_
   ·have h1:0 < ra.length:=by have:=of_decide_eq_true h1;omega
    refine ⟨_,_,_,hB2.cell (i:=0) rfl rfl,?_,rfl⟩
    rw [decide_eq_true h1,Bool.true_and]
    congr 2
    exact decide_eq_decide.2 (by omega)
   ·have h1:¬0 < ra.length:=by have:=of_decide_eq_false h1;omega
    exact ⟨by rw [decide_eq_false h1];rfl,rfl⟩
  rintro x _ w3 ⟨hv,rfl⟩
  simp only [List.cons.injEq,Value.bool.injEq,and_true] at hv
  subst hv
  refine pO (fun h1=>?_) fun h1=>?_
  ·simp only [Bool.and_eq_true,decide_eq_true_eq] at h1
   refine ⟨⟨fun w'=>Ext w3 w',pT _,_,fun w' e=>((hy.cs _ _ hs2).2.2.ext e).cell (i:=0) rfl rfl,_,_,_,fun w' e=>(hA2.ext e).cell (i:=0) rfl rfl,?_⟩⟩
   have hca':=hpa _ (hy.cs _ _ hs2).1
   have hcb':=hpb _ (hy.cs _ _ hs2).2.1
   refine qZ (fun w' e=>hca'.ext e) (pR _) rfl (k:=0) rfl h1.1 fun q r1 _=>⟨_,r1,_,_,_,fun w' e=>(hB2.ext e).cell (i:=0) rfl rfl,?_⟩
   refine qZ (fun w' e=>hcb'.ext e) (pR _) rfl (k:=0) rfl h1.2 fun q r2 _=>⟨_,r2,?_⟩
   refine pP call54 (vK (hIra _ (List.getElem_mem _)).1 (hIrb _ (List.getElem_mem _)).1 fun w4 e4=>pN ⟨_,rfl,(pT _).trans e4,?_,e2.trans ((pT _).trans e4),hx2.ext ((pT _).trans e4)⟩)
   rw [htr]
   cases ra with
   | nil=>simp at h1
   | cons x a=>cases rb with
    | nil=>simp at h1
    | cons y b=>rfl
  ·refine ⟨?_,e2,hx2⟩
   rw [htr]
   cases ra with
   | nil=>rfl
   | cons x a=>cases rb with
    | nil=>rfl
    | cons y b=>simp at h1
 rintro t' _ w3 ⟨hv,e3,hx3⟩
 simp only [List.cons.injEq,Value.int.injEq,true_and,and_true] at hv
 subst hv
 have s3:=hSS e3 hx3
 obtain ⟨k0,hk0⟩:∃k0:Int,k0=if e.inA then e.key else 0:=⟨_,rfl⟩
 have hkk:e.inA=true→k0=e.key:=fun h=>by rw [hk0,if_pos h]
 -- what was taken of the first row
 refine ⟨fun vs w'=>vs=[]∧∃pa' xa',SS hp St ba bb bx i (.slice pa' ra'.length xa') (.slice pb rb.length xb) #[.int .i64 k0,.int .i64 e.a,.int .i64 0,.bool e.inA,.bool false] w'∧ra'.length≤xa'∧ra'.length≤ra.length∧(∀w'',Cs w'' qa (prs a)→Cs w'' pa' (prs ra'))∧InP ra',?_,?_⟩
 rotate_left
 ·refine ⟨fun vs w'=>vs=[]∧SS hp St ba bb bx i (.slice pa ra.length xa) (.slice pb rb.length xb) #[.int .i64 0,.int .i64 0,.int .i64 0,.bool e.inA,.bool false] w',?_,?_⟩
  rotate_left
  ·refine ⟨_,_,_,s3.a.cell (i:=0) rfl rfl,?_⟩
   have hin:=hst.inA
   refine pO (fun h1=>?_) fun h1=>?_
   ·have h1:0 < ra.length:=by have:=of_decide_eq_true h1;omega
    rw [decide_eq_true h1,Bool.true_and] at hin
    refine ⟨_,_,_,s3.b.cell (i:=0) rfl rfl,?_⟩
    refine pO (fun h2=>?_) fun h2=>?_
    ·have h2:rb.length=0:=by simpa using h2
     rw [decide_eq_true h2,Bool.true_or] at hin
     rw [hin]
     exact do_stx hy s3 (j:=3) (by simp) fun w4 s4=>⟨rfl,s4⟩
    ·have h2:¬rb.length=0:=by simpa using h2
     rw [decide_eq_false h2,Bool.false_or] at hin
     rw [hin]
     exact do_stx hy s3 (j:=3) (by simp) fun w4 s4=>⟨rfl,s4⟩
   ·have h1:¬0 < ra.length:=by have:=of_decide_eq_false h1;omega
    rw [decide_eq_false h1,Bool.false_and] at hin
    rw [hin]
    exact do_stx hy s3 (j:=3) (by simp) fun w4 s4=>⟨rfl,s4⟩
  rintro _ w4 ⟨_,s4⟩
  refine ⟨_,s4.x.cell (i:=3) (pU _ _) rfl,?_⟩
  refine pO (fun hin=>?_) fun hin=>?_
  ·obtain ⟨x,hra,hea,hek⟩:=hst.yesA hin
   have hl0:0 < ra.length:=by rw [hra];simp
   have hx0:ra[0]'hl0=x:=by simp only [hra];rfl
   have s5:=s4.ext hy (pT w4)
   refine ⟨⟨fun w'=>St i w'∧Blk w' ba #[.slice pa ra.length xa] 22,⟨s5.st,s5.a⟩,_,_,_,fun w' e=>e.2.cell (i:=0) rfl rfl,?_⟩⟩
   refine qZ (fun w' e=>hpa _ (hy.cs _ _ e.1).1) (⟨s5.st,s5.a⟩:St i w4.drew∧_) rfl (k:=0) rfl hl0 fun q r1 _=>⟨_,r1,_,_,_,fun w' e=>e.2.cell (i:=0) rfl rfl,?_⟩
   refine qZ (fun w' e=>hpa _ (hy.cs _ _ e.1).1) (⟨s5.st,s5.a⟩:St i w4.drew∧_) rfl (k:=0) rfl hl0 fun q _ r2=>⟨_,r2,_,_,_,fun w' e=>e.2.cell (i:=0) rfl rfl,?_⟩
   refine slA ra x ra' hra (hpa _ (hy.cs _ _ s5.st).1) rfl hxa fun pa' hpa'=>?_
   refine do_stx hy s5 (j:=0) (by simp) fun w6 s6=>⟨⟨s6.st,s6.a⟩,do_stx hy s6 (j:=1) (by simp) fun w7 s7=>⟨⟨s7.st,s7.a⟩,do_sta hy s7 fun w8 s8=>⟨rfl,pa',xa - 1,?_,?_,?_,fun w'' hc=>hpa' w'' (hpa w'' hc),?_⟩⟩⟩
   ·have hr':ra.length - 1=ra'.length:=by rw [hra];simp
    rw [hr'] at s8
    rw [hkk hin,hek,hea,←hx0]
    exact s8
   ·rw [hra] at hxa;simp at hxa;omega
   ·rw [hra];simp
   ·intro z hz;exact hIra z (by rw [hra];simp [hz])
  ·obtain ⟨n1,n2⟩:=hst.noA hin
   refine ⟨rfl,pa,xa,?_,by rw [n1];exact hxa,by rw [n1];exact Nat.le_refl _,by rw [n1];exact hpa,by rw [n1];exact hIra⟩
   rw [n1,hk0,hin,n2]
   rw [hin] at s4
   exact s4
 rintro _ w4 ⟨_,pa',xa',s4,hxa',hral,hpa',hIra'⟩
 -- what was taken of the other one
 refine ⟨fun vs w'=>vs=[]∧∃pb' xb',SS hp St ba bb bx i (.slice pa' ra'.length xa') (.slice pb' rb'.length xb') #[.int .i64 e.key,.int .i64 e.a,.int .i64 e.b,.bool e.inA,.bool e.inB] w'∧rb'.length≤xb'∧rb'.length≤rb.length∧(e.inB=true→rb'.length < rb.length)∧(∀w'',Cs w'' qb (prs b)→Cs w'' pb' (prs rb'))∧InP rb',?_,?_⟩
 ·-- the key is told
  rintro _ w5 ⟨_,pb',xb',s5,hxb',hrbl,hlt,hpb',hIrb'⟩
  refine ⟨_,s5.x.cell (i:=0) (pU _ _) rfl,_,s5.x.cell (i:=1) (pU _ _) rfl,_,s5.x.cell (i:=2) (pU _ _) rfl,_,s5.x.cell (i:=3) (pU _ _) rfl,_,s5.x.cell (i:=4) (pU _ _) rfl,?_⟩
  have hget:(mg o a b)[i]?=some e:=by
   have:=congrArg List.head? hdrop
   rw [List.head?_drop,hst.mg] at this
   exact this
  have hil:=(List.getElem?_eq_some_iff.1 hget).1
  refine hy.yields i e hget w5 _ _ s5.st s5.a s5.b _ fun w6 hs6 ha6 hb6=>pN ⟨_,rfl,pY rfl ⟨⟨rfl,i+1,ra',rb',pa',pb',xa',xb',hil,?_,hs6,ha6,hb6,hxa',hxb',by omega,hpa',hpb',hIra',hIrb'⟩,?_⟩⟩
  ·rw [←List.drop_drop,hdrop,hst.mg];rfl
  ·show lenAt ba w6+lenAt bb w6 < lenAt ba w1+lenAt bb w1
   rw [lenAt_of ha6,lenAt_of hb6,lenAt_of hA,lenAt_of hBb]
   cases hin:e.inA
   ·have:=hlt (hst.some hin);omega
   ·obtain ⟨x,hra,_⟩:=hst.yesA hin
    have:ra.length=ra'.length+1:=by rw [hra];rfl
    omega
 ·refine ⟨fun vs w'=>vs=[]∧SS hp St ba bb bx i (.slice pa' ra'.length xa') (.slice pb rb.length xb) #[.int .i64 k0,.int .i64 e.a,.int .i64 0,.bool e.inA,.bool e.inB] w',?_,?_⟩
  rotate_left
  ·have s5:=s4.ext hy (pT w4)
   have hin:=hst.inB k0 hkk
   refine ⟨⟨fun w'=>w'=w4.drew,rfl,_,_,_,fun w' e=>by subst e;exact s5.b.cell (i:=0) rfl rfl,?_⟩⟩
   refine pO (fun h1=>?_) fun h1=>?_
   ·have h1:0 < rb.length:=by have:=of_decide_eq_true h1;omega
    rw [decide_eq_true h1,Bool.true_and] at hin
    refine ⟨_,fun w' e=>by subst e;exact s5.x.cell (i:=3) (pU _ _) rfl,?_⟩
    refine pO (fun h2=>?_) fun h2=>?_
    ·rw [h2,Bool.true_or] at hin
     rw [hin]
     exact do_stx hy s5 (j:=4) (by simp) fun w6 s6=>⟨rfl,s6⟩
    ·rw [h2,Bool.false_or] at hin
     refine pO (fun h3=>?_) fun h3=>?_
     ·have h3:t'=0:=by simpa using h3
      rw [decide_eq_true h3,Bool.true_and,rQ h1] at hin
      refine ⟨_,fun w' e=>by subst e;exact s5.x.cell (i:=0) (pU _ _) rfl,_,_,_,fun w' e=>by subst e;exact s5.b.cell (i:=0) rfl rfl,?_⟩
      refine qZ (C:=fun w'=>w'=w4.drew) (fun w' e=>by subst e;exact hpb _ (hy.cs _ _ s5.st).2.1) rfl rfl (k:=0) rfl h1 fun q r1 _=>⟨_,r1,?_⟩
      rw [hin]
      exact do_stx hy s5 (j:=4) (by simp) fun w6 s6=>⟨rfl,s6⟩
     ·have h3:¬t'=0:=by simpa using h3
      rw [decide_eq_false h3,Bool.false_and] at hin
      rw [hin]
      exact do_stx hy s5 (j:=4) (by simp) fun w6 s6=>⟨rfl,s6⟩
   ·have h1:¬0 < rb.length:=by have:=of_decide_eq_false h1;omega
    rw [decide_eq_false h1,Bool.false_and] at hin
    rw [hin]
    exact do_stx hy s5 (j:=4) (by simp) fun w6 s6=>⟨rfl,s6⟩
  rintro _ w5 ⟨_,s5⟩
  refine ⟨_,s5.x.cell (i:=4) (pU _ _) rfl,?_⟩
  refine pO (fun hin=>?_) fun hin=>?_
  ·obtain ⟨y,hrb,heb,hek⟩:=hst.yesB hin
   have hl0:0 < rb.length:=by rw [hrb];simp
   have hx0:rb[0]'hl0=y:=by simp only [hrb];rfl
   have s6:=s5.ext hy (pT w5)
   refine ⟨⟨fun w'=>St i w'∧Blk w' bb #[.slice pb rb.length xb] 22,⟨s6.st,s6.b⟩,_,_,_,fun w' e=>e.2.cell (i:=0) rfl rfl,?_⟩⟩
   refine qZ (fun w' e=>hpb _ (hy.cs _ _ e.1).2.1) (⟨s6.st,s6.b⟩:St i w5.drew∧_) rfl (k:=0) rfl hl0 fun q r1 _=>⟨_,r1,_,_,_,fun w' e=>e.2.cell (i:=0) rfl rfl,?_⟩
   refine qZ (fun w' e=>hpb _ (hy.cs _ _ e.1).2.1) (⟨s6.st,s6.b⟩:St i w5.drew∧_) rfl (k:=0) rfl hl0 fun q _ r2=>⟨_,r2,_,_,_,fun w' e=>e.2.cell (i:=0) rfl rfl,?_⟩
   refine slA rb y rb' hrb (hpb _ (hy.cs _ _ s6.st).2.1) rfl hxb fun pb' hpb'=>?_
   refine do_stx hy s6 (j:=0) (by simp) fun w7 s7=>⟨⟨s7.st,s7.b⟩,do_stx hy s7 (j:=2) (by simp) fun w8 s8=>⟨⟨s8.st,s8.b⟩,do_stb hy s8 fun w9 s9=>⟨rfl,pb',xb - 1,?_,?_,?_,fun _=>?_,fun w'' hc=>hpb' w'' (hpb w'' hc),?_⟩⟩⟩
   ·have hr':rb.length - 1=rb'.length:=by rw [hrb];simp
    rw [hr'] at s9
    rw [hek,heb,←hx0]
    exact s9
   ·rw [hrb] at hxb;simp at hxb;omega
   ·rw [hrb];simp
   ·rw [hrb];simp
   ·intro z hz;exact hIrb z (by rw [hrb];simp [hz])
  ·obtain ⟨n1,n2⟩:=hst.noB hin
   have hina:e.inA=true:=by
    cases h:e.inA
    ·have:=hst.some h;rw [hin] at this;cases this
    ·rfl
   refine ⟨rfl,pb,xb,?_,by rw [n1];exact hxb,by rw [n1];exact Nat.le_refl _,(fun h=>by rw [hin] at h;cases h),by rw [n1];exact hpb,by rw [n1];exact hIrb⟩
   rw [n1,n2,←hkk hina]
   exact s5
def valK(p:Int)(e:Ke):Int:=if e.inA&&e.inB then comb p e.a e.b else IntKind.wrap .i64 (e.a+e.b)
def outL(p:Int)(want:Ke→Bool)(l:List Ke):List Pr:=(l.filter want).map fun e=>(e.key,valK p e)
def someL(o p:Int)(want:Ke→Bool)(a b:List Pr):List Pr:=outL p want (mg o a b)
theorem outL_len(p:Int)(want:Ke→Bool)(l:List Ke):(outL p want l).length≤l.length:=by
 unfold outL;rw [List.length_map];exact List.length_filter_le _ _
theorem mg_len(o:Int)(a b:List Pr):(mg o a b).length≤a.length+b.length:=by
 induction a,b using mg.induct o with
 | case1=>simp [mg]
 | case2 y b ih=>rw [mg];simp at ih ⊢;omega
 | case3 x a ih=>rw [mg];simp at ih ⊢;omega
 | case4 x a y b h ih=>rw [mg,if_pos h];simp at ih ⊢;omega
 | case5 x a y b h h2 h3 ih=>rw [mg,if_neg h,if_pos h2,if_pos h3];simp at ih ⊢;omega
 | case6 x a y b h h2 h3 ih=>rw [mg,if_neg h,if_pos h2,if_neg h3];simp at ih ⊢;omega
 | case7 x a y b h h2 ih=>rw [mg,if_neg h,if_neg h2];simp at ih ⊢;omega
theorem mg_all{Q:Ke→Prop}(o:Int)(a b:List Pr)(hA:∀x∈a,Q ⟨x.1,x.2,0,true,false⟩)(hB:∀y∈b,Q ⟨y.1,0,y.2,false,true⟩)(hAB:∀x∈a,∀y∈b,x.1=y.1→Q ⟨x.1,x.2,y.2,true,true⟩):∀e∈mg o a b,Q e:=by
 induction a,b using mg.induct o with
 | case1=>simp [mg]
 | case2 y b ih=>
  rw [mg];intro e he;rcases List.mem_cons.1 he with h | h
  ·rw [h];exact hB y (by simp)
  ·exact ih hA (fun x hx=>hB x (by simp [hx])) (fun x hx=>by cases hx) e h
 | case3 x a ih=>
  rw [mg];intro e he;rcases List.mem_cons.1 he with h | h
  ·rw [h];exact hA x (by simp)
  ·exact ih (fun x hx=>hA x (by simp [hx])) hB (fun x _ y hy=>by cases hy) e h
 | case4 x a y b h ih=>
  rw [mg,if_pos h];intro e he;rcases List.mem_cons.1 he with h | h
  ·rw [h];exact hA x (by simp)
  ·exact ih (fun x hx=>hA x (by simp [hx])) hB (fun x hx=>hAB x (by simp [hx])) e h
 | case5 x a y b h h2 h3 ih=>
  rw [mg,if_neg h,if_pos h2,if_pos h3];intro e he;rcases List.mem_cons.1 he with h | h
  ·rw [h];exact hAB x (by simp) y (by simp) h3
  ·exact ih (fun x hx=>hA x (by simp [hx])) (fun x hx=>hB x (by simp [hx])) (fun x hx y hy=>hAB x (by simp [hx]) y (by simp [hy])) e h
 | case6 x a y b h h2 h3 ih=>
  rw [mg,if_neg h,if_pos h2,if_neg h3];intro e he;rcases List.mem_cons.1 he with h | h
  ·rw [h];exact hA x (by simp)
  ·exact ih (fun x hx=>hA x (by simp [hx])) hB (fun x hx=>hAB x (by simp [hx])) e h
 | case7 x a y b h h2 ih=>
  rw [mg,if_neg h,if_neg h2];intro e he;rcases List.mem_cons.1 he with h | h
  ·rw [h];exact hB y (by simp)
  ·exact ih hA (fun x hx=>hB x (by simp [hx])) (fun x hx y hy=>hAB x hx y (by simp [hy])) e h
theorem mg_key{P:Int→Prop}(o:Int)(a b:List Pr)(ha:∀x∈a,P x.1)(hb:∀x∈b,P x.1):∀e∈mg o a b,P e.key:=
 mg_all (Q:=fun e=>P e.key) o a b ha hb fun x hx _ _ _=>ha x hx
theorem in_zero:In 0:=by unfold In;omega
theorem mg_in(o:Int)(a b:List Pr)(ha:InP a)(hb:InP b):∀e∈mg o a b,In e.key∧In e.a∧In e.b:=
 mg_all (Q:=fun e=>In e.key∧In e.a∧In e.b) o a b (fun x hx=>⟨(ha x hx).1,(ha x hx).2,in_zero⟩) (fun x hx=>⟨(hb x hx).1,in_zero,(hb x hx).2⟩) fun x hx y hy _=>⟨(ha x hx).1,(ha x hx).2,(hb y hy).2⟩
theorem comb_in{p a b:Int}(ha:In a)(hb:In b):In (comb p a b):=by
 unfold comb
 split
 ·exact ha
 ·split
  ·exact hb
  ·exact aHo _
def Wn(w0:World)(want:Ke→Bool)(f:Fn)(fx fc:Array Value)(ok:Ke→Prop):Prop:=
 ∀(e:Ke),ok e→∀w,Ext w0 w→∀R:EW,(∀w',Ext w w'→R (.returned (.bool (want e))) w')→doCall prog (.func f fx fc) #[keV e] w R
theorem blk_ne{b k:Nat}{cs cs':Array Value}{t t':TypeId}(h:Blk w b cs t)(h':Blk w k cs' t')(ht:t≠t'):b≠k:=fun e=>by
 subst e
 have:=h.symm.trans h'
 simp at this
 exact ht this.2
theorem c_both{o:Int}{qa qb:OA}{na ca nb cb:Nat} (h:∀bo ba bb w',Ext w w'→w.heap.size≤bo→bo < ba→ba < bb→Blk w' bo #[.int .u8 o] 5→Blk w' ba #[.slice qa na ca] 22→Blk w' bb #[.slice qb nb cb] 22→
   R (.returned (.func (.func 194) #[] #[.pointer (some (blk ba)),.pointer (some (blk bb)),.pointer (some (blk bo))])) w'):Calls prog 168 #[.int .u8 o,.slice qa na ca,.slice qb nb cb] w R:=by
 refine sh168_ok ?_
 unfold sh168
 refine ⟨⟨⟨?_⟩⟩⟩
 have e1:=pQ w (.cells #[.int .u8 o] 5)
 have h1:=pS w #[.int .u8 o] 5
 generalize hb1:w.heap.size=b1 at *
 generalize w.alloc (.cells #[.int .u8 o] 5)=w1 at *
 have e2:=pQ w1 (.cells #[.slice qa na ca] 22)
 have h2:=pS w1 #[.slice qa na ca] 22
 have h1':=h1.ext e2
 have l1:=h1.lt
 generalize hb2:w1.heap.size=b2 at *
 generalize w1.alloc (.cells #[.slice qa na ca] 22)=w2 at *
 have e3:=pQ w2 (.cells #[.slice qb nb cb] 22)
 have h3:=pS w2 #[.slice qb nb cb] 22
 have l2:=h2.lt
 exact h _ _ _ _ ((e1.trans e2).trans e3) (by omega) (by omega) (by omega) (h1'.ext e3) (h2.ext e3) h3
theorem c_some{o p:Int}{a b:List Pr}{want:Ke→Bool}{qa qb:OA}{na ca nb cb:Nat}{f:Fn}{fx fc:Array Value}(hwant:Wn w want f fx fc fun e=>In e.key)
  (hla:Cs w qa (prs a)) (hna:a.length=na) (hca:na≤ca) (hlb:Cs w qb (prs b)) (hnb:b.length=nb) (hcb:nb≤cb) (hm:na+nb≤1000000) (hIa:InP a) (hIb:InP b)
  (h:∀p' n' c' w',OwnP w' w.heap.size p' n' c' (cond (mayR o a&&mayR o b&&may p) (someL o p want a b) [])→Ext w w'→R (.returned (.tuple #[.slice p' n' c',.int .i64 (cond (mayR o a&&mayR o b&&may p) 0 2)])) w') :
  Calls prog 146 #[.int .u8 o,.int .u8 p,.slice qa na ca,.slice qb nb cb,.agg #[.func f fx fc]] w R:=by
 refine sh146_ok ?_
 unfold sh146
 refine ⟨⟨⟨?_⟩⟩⟩
 have e1:=pQ w (.cells #[.int .u8 p] 5)
 have hp1:=pS w #[.int .u8 p] 5
 generalize hbp:w.heap.size=bp at *
 generalize w.alloc (.cells #[.int .u8 p] 5)=w1 at *
 have lp:=hp1.lt
 have e2:=pQ w1 (.cells #[.func f fx fc] 152)
 have hf2:=pS w1 #[.func f fx fc] 152
 have hp2:=hp1.ext e2
 generalize hbf:w1.heap.size=bf at *
 generalize w1.alloc (.cells #[.func f fx fc] 152)=w2 at *
 have lf:=hf2.lt
 have e3:=pQ w2 (.cells #[.slice none 0 0] 22)
 have ho3:=pS w2 #[.slice none 0 0] 22
 have hp3:=hp2.ext e3
 have hf3:=hf2.ext e3
 generalize hbo:w2.heap.size=bout at *
 generalize w2.alloc (.cells #[.slice none 0 0] 22)=w3 at *
 have lo:=ho3.lt
 have E3:=(e1.trans e2).trans e3
 clear e1 e2 e3 hp1 hp2 hf2
 have hno:∀{w':World},Ext w3 w'→(mayR o a&&mayR o b&&may p)=false→doSt ((blk bout).add 0) (.slice none 0 0) w' (fun w74=>∃(xp75:OA),∃(xn76:Nat),∃(xc77:Nat),w74.cell? (blk bout)=some (.slice xp75 xn76 xc77)∧(R (.returned (.tuple #[.slice xp75 xn76 xc77,.int .i64 2])) w74)):=by
  intro w' e hf
  refine qA (i:=0) (ho3.ext e) (pU _ _) (by simp) fun w4 h4 g4=>⟨_,_,_,h4.cell (i:=0) rfl rfl,?_⟩
  have hr:=h none 0 0 w4
  rw [hf] at hr
  exact hr (qH _ _) ((E3.trans e).st g4 (by omega))
 refine pP call24 (aFz (hla.ext E3) hna (by omega) hIa fun w4 e4=>pN ⟨_,rfl,?_⟩)
 refine pO (fun h1=>hno e4 (by
                    have:mayR o a=false:=by simpa using h1
                    rw [this];rfl)) fun h1=>?_
 have h1:mayR o a=true:=by simpa using h1
 refine pP call24 (aFz (hlb.ext (E3.trans e4)) hnb (by omega) hIb fun w5 e5=>pN ⟨_,rfl,?_⟩)
 have E35:=e4.trans e5
 refine pO (fun h2=>hno E35 (by
                     have:mayR o b=false:=by simpa using h2
                     rw [this,Bool.and_false];rfl)) fun h2=>?_
 have h2:mayR o b=true:=by simpa using h2
 refine ⟨_,(hp3.ext E35).cell (i:=0) rfl rfl,?_⟩
 refine pP call118 (aJe fun w6 e6=>pN ⟨_,rfl,?_⟩)
 have E36:=E35.trans e6
 refine pO (fun h3=>hno E36 (by
                     have:may p=false:=by simpa using h3
                     rw [this,Bool.and_false])) fun h3=>?_
 have h3:may p=true:=by simpa using h3
 have hmay:(mayR o a&&mayR o b&&may p)=true:=by rw [h1,h2,h3];rfl
 rw [hmay] at h
 simp only [cond_true] at h
 refine pP call168 (c_both fun bo ba bb w7 e7 n1 n2 n3 hbo7 hba7 hbb7=>pN ⟨_,_,_,rfl,do_rf fun fn L w8 d hd hL hst hpe e8 hd8 hl8=>?_⟩)
 have E38:=(E36.trans e7).trans e8
 have E8:=E3.trans E38
 have hp8:=hp3.ext E38
 have hf8:=hf3.ext E38
 have ho8:=ho3.ext E38
 have hbo8:=hbo7.ext e8
 have hba8:=hba7.ext e8
 have hbb8:=hbb7.ext e8
 have n4:bb < d:=by rw [hd];exact hbb7.lt
 have n0:bout < bo:=Nat.lt_of_lt_of_le lo (Nat.le_trans E36.size n1)
 have n00:bp < bf∧bf < bout:=by omega
 clear e4 e5 e6 e7 e8 E35 E36 E38 hp3 hf3 ho3 hbo7 hba7 hbb7 E3
 rw [←hd]
 obtain ⟨St,hSt⟩:∃St:Nat→World→Prop,St=fun i w'=>Ext w w'∧(∃q n c,Blk w' bout #[.slice q n c] 22∧OwnP w' (d+2) q n c (outL p want ((mg o a b).take i)))∧Blk w' bp #[.int .u8 p] 5∧Blk w' bf #[.func f fx fc] 152∧Blk w' bo #[.int .u8 o] 5∧
  w'.heap[d]?=some (.deferred (some []))∧w'.heap[d+1]?=some (.loop L):=⟨_,rfl⟩
 have hds:∀{w':World},w'.heap[d+1]?=some (.loop L)→d+2≤w'.heap.size:=fun hl=>(Array.getElem?_eq_some_iff.1 hl).1
 have hmgI:∀e∈mg o a b,In e.key:=mg_key o a b (fun x hx=>(hIa x hx).1) (fun x hx=>(hIb x hx).1)
 refine aIv call194 (by rfl) (c_both1 (hp:=bp) (o:=o) (a:=a) (b:=b) (qa:=qa) (qb:=qb) (ba:=ba) (bb:=bb) (bo:=bo) (St:=St) ⟨?_,?_,?_,?_,?_⟩ hna hca hnb hcb (by omega) hIa hIb (by omega) hba8 hbb8 ?_ ?_)
 ·subst hSt
  rintro i w' ⟨E,_,_,_,hbo',_⟩
  exact ⟨hla.ext E,hlb.ext E,hbo'⟩
 ·subst hSt
  rintro i w' w'' ⟨E,⟨q,n,c,g1,g2⟩,g3,g4,g5,g6,g7⟩ e
  exact ⟨E.trans e,⟨q,n,c,g1.ext e,wP g2 e (Nat.le_refl _)⟩,g3.ext e,g4.ext e,g5.ext e,e.heap g6,e.heap g7⟩
 ·subst hSt
  rintro i w' w'' k hk ⟨E,⟨q,n,c,g1,g2⟩,g3,g4,g5,g6,g7⟩ g
  have hkp:bp≤k:=by rcases hk with h | h | h <;> omega
  have hne:∀{x:Nat} {cs:Array Value} {t:TypeId},Blk w' x cs t→x≠ba→x≠bb→t≠149→x≠k:=fun hx h1 h2 h3=>by
   rcases hk with h | h | ⟨_,cs',h⟩
   ·omega
   ·omega
   ·exact blk_ne hx h h3
  have hnh:∀{x:Nat} {ob:Obj},w'.heap[x]?=some ob→x≠ba→x≠bb→(∀cs t fr,ob≠.cells cs t fr)→x≠k:=fun hx h1 h2 h3=>by
   rcases hk with h | h | ⟨_,cs',h⟩
   ·omega
   ·omega
   ·intro e;subst e
    have:=hx.symm.trans h
    exact h3 _ _ _ (Option.some.inj this)
  refine ⟨E.st g (by omega),⟨q,n,c,g1.grown g (pV (hne g1 (by omega) (by omega) (by decide))),?_⟩,g3.grown g (pV (hne g3 (by omega) (by omega) (by decide))),g4.grown g (pV (hne g4 (by omega) (by omega) (by decide))),g5.grown g (pV (hne g5 (by omega) (by omega) (by decide))),
   qI g g6 (pV (hnh g6 (by omega) (by omega) (by intros;simp))),qI g g7 (pV (hnh g7 (by omega) (by omega) (by intros;simp)))⟩
  refine World.ownsRow.kept g2 g ?_
  rcases xQ g2 with ⟨hq,_,_⟩ | ⟨gg,cur,hq,hgg,hblk,_⟩
  ·subst hq;exact .inl rfl
  ·subst hq
   right
   have hgg':gg≠k:=hne hblk (by omega) (by omega) (by decide)
   exact pV hgg'
 ·subst hSt
  rintro i w' ⟨E,_,_,_,_,_,g7⟩
  have:=hds g7;omega
 ·-- a round
  intro i e he w9 sa sb hs9 hsa hsb R' hR'
  have hs9':=hs9
  rw [hSt] at hs9'
  obtain ⟨E9,⟨q,n,c,hout,hrow⟩,hp9,hf9,hbo9,hd9,hl9⟩:=hs9'
  have heI:=hmgI e (List.mem_of_getElem? he)
  refine aLg (by rw [hl9,hL]) ?_
  unfold aNb
  refine ⟨?_⟩
  refine do_st5 (pS w9 _ _) fun w10 hx10 g10=>?_
  have e10:Ext w9 w10:=(pQ w9 _).st g10 (Nat.le_refl _)
  have hl10:=e10.heap hl9
  have hd1:=hds hl9
  refine ⟨_,hl10,hst,?_⟩
  have g11:=qN w10 (d+1) (.loop { L with state:=.busy })
  have hl11:=vR (o':=.loop { L with state:=.busy }) hl10
  have hx11:=hx10.grown g11 (pV (by omega))
  have hout11:=(hout.ext e10).grown g11 (pV (by omega))
  have hp11:=(hp9.ext e10).grown g11 (pV (by omega))
  have hf11:=(hf9.ext e10).grown g11 (pV (by omega))
  have hbo11:=(hbo9.ext e10).grown g11 (pV (by omega))
  have hsa11:=(hsa.ext e10).grown g11 (pV (by omega))
  have hsb11:=(hsb.ext e10).grown g11 (pV (by omega))
  have hd11:=qI g11 (e10.heap hd9) (pV (by omega))
  have hrow11:OwnP (w10.putObj (d+1) (.loop { L with state:=.busy })) (d+2) q n c (outL p want ((mg o a b).take i)):=World.ownsRow.kept (e10.row hrow) g11 (.inr fun hk=>by have:=(World.ownsRow.lt hrow _ hk).1;omega)
  have E11:=(E9.trans e10).st g11 (by omega)
  have hsz11:=Nat.le_trans (Nat.le_trans hd1 e10.size) g11.size
  generalize w10.putObj (d+1) (.loop { L with state:=.busy })=w11 at *
  refine ⟨_,_,_,hf11.cell (i:=0) (pU _ _) rfl,_,hx11.cell (i:=0) (pU _ _) rfl,_,hx11.cell (i:=1) (pU _ _) rfl,_,hx11.cell (i:=2) (pU _ _) rfl,_,hx11.cell (i:=3) (pU _ _) rfl,_,hx11.cell (i:=4) (pU _ _) rfl,?_⟩
  refine hwant e heI w11 E11 _ fun w12 e12=>pN ⟨_,rfl,?_⟩
  have hx12:=hx11.ext e12
  have hil:=(List.getElem?_eq_some_iff.1 he).1
  have hti:(mg o a b).take (i+1)=(mg o a b).take i++[e]:=by
   rw [←List.take_append_getElem hil,(List.getElem?_eq_some_iff.1 he).2]
  refine pO (fun hw=>?_) fun hw=>?_
  ·have hw:want e=false:=by simpa using hw
   have hl12:=e12.heap hl11
   have g13:=qN w12 (d+1) (.loop L)
   refine ⟨_,hl12,hR' _ ?_ ?_ ?_⟩
   ·rw [aBn hst hpe,hSt]
    refine ⟨(E11.trans e12).st g13 (by omega),⟨q,n,c,(hout11.ext e12).grown g13 (pV (by omega)),?_⟩,(hp11.ext e12).grown g13 (pV (by omega)),(hf11.ext e12).grown g13 (pV (by omega)),(hbo11.ext e12).grown g13 (pV (by omega)),qI g13 (e12.heap hd11) (pV (by omega)),vR hl12⟩
    rw [hti,show outL p want ((mg o a b).take i++[e])=outL p want ((mg o a b).take i) by simp [outL,List.filter_append,hw]]
    exact World.ownsRow.kept (e12.row hrow11) g13 (.inr fun hk=>by have:=(World.ownsRow.lt hrow11 _ hk).1;omega)
   ·exact (hsa11.ext e12).grown (qN _ _ _) (pV (by omega))
   ·exact (hsb11.ext e12).grown (qN _ _ _) (pV (by omega))
  have hw:want e=true:=by simpa using hw
  refine ⟨_,hx12.cell (i:=1) (pU _ _) rfl,_,hx12.cell (i:=2) (pU _ _) rfl,?_⟩
  have hrl:=qF hrow11
  have hol:=outL_len p want ((mg o a b).take i)
  have hml:=mg_len o a b
  rw [List.length_take] at hol
  -- the pair goes out
  have hK:∀{w':World} (v:Int),Ext w12 w'→v=valK p e→(∃(xp99:OA),∃(xn100:Nat),∃(xc101:Nat),World.cell? w' (blk bout)=some (.slice xp99 xn100 xc101)∧(∃(x102:Int),World.cell? w' ((blk w9.heap.size).add 0)=some (.int .i64 x102)∧(
    doAl (.cells #[.int .i64 x102,.int .i64 v] 63) w' (fun b103 w104=>
    doGo prog (.builtin .append #[22,22] 22 #[false,false]) #[.slice xp99 xn100 xc101,.slice (some (blk b103)) 1 1] w104 (retS (fun v108 w109=>∃(xp105:OA),∃(xn106:Nat),∃(xc107:Nat),v108=(.slice xp105 xn106 xc107:Value)∧(
    doSt ((blk bout).add 0) (.slice xp105 xn106 xc107) w109 (fun w110=>∃(r111:Loop),w110.heap[d+1]?=some (.loop r111)∧R' (.returned (.bool true)) (w110.putObj (d+1) (.loop { r111 with state:=.ready,pending:=none }))))) (fun _ _=>False)))))):=by
   intro w' v e' hv
   have e13:=e12.trans e'
   refine ⟨_,_,_,(hout11.ext e13).cell (i:=0) rfl rfl,_,(hx11.ext e13).cell (i:=0) (pU _ _) rfl,⟨?_⟩⟩
   have e14:=e13.trans (pQ w' (.cells #[.int .i64 e.key,.int .i64 v] 63))
   have hrow14:=wP hrow11 e14 (Nat.le_refl _)
   refine wX elP hrow14 (m:=1) (qY w' _ _) (by simp) (by simp [Value.oneCell']) (by simp only [maxLen];omega) (by omega) (Nat.le_trans hsz11 e14.size) fun q' c' w15 h15 g15=>pN ⟨_,_,_,rfl,?_⟩
   have hne:∀k,k < d+2→some k≠(Value.slice q n c).ownBlock:=fun k hk e=>by have:=(World.ownsRow.lt hrow14 _ e.symm).1;omega
   have hout15:=(hout11.ext e14).grown g15 (hne _ (by omega))
   refine qA (i:=0) hout15 (pU _ _) (by simp) fun w16 h16 g16=>?_
   have hl16:=qI g16 (qI g15 (e14.heap hl11) (hne _ (by omega))) (pV (by omega))
   refine ⟨_,hl16,?_⟩
   rw [aBn hst hpe]
   have g17:=qN w16 (d+1) (.loop L)
   have hkept:∀{x:Nat} {cs:Array Value} {t:TypeId},x < d→x≠bout→Blk w11 x cs t→Blk (w16.putObj (d+1) (.loop L)) x cs t:=fun h1 h2 hb=>(((hb.ext e14).grown g15 (hne _ (by omega))).grown g16 (pV h2)).grown g17 (pV (by omega))
   refine hR' _ ?_ (hkept (by omega) (by omega) hsa11) (hkept (by omega) (by omega) hsb11)
   rw [hSt]
   refine ⟨(((E11.trans e14).grown g15 fun k hk=>by have:=(World.ownsRow.lt hrow14 _ hk).1;omega).st g16 (by omega)).st g17 (by omega),⟨q',n+1,c',h16.grown g17 (pV (by omega)),?_⟩,hkept (by omega) (by omega) hp11,hkept (by omega) (by omega) hf11,hkept (by omega) (by omega) hbo11,
    qI g17 (qI g16 (qI g15 (e14.heap hd11) (hne _ (by omega))) (pV (by omega))) (pV (by omega)),vR hl16⟩
   have hrow15:OwnP w15 (d+2) q' (n+1) c' (outL p want ((mg o a b).take (i+1))):=by
    rw [hti,show outL p want ((mg o a b).take i++[e])=outL p want ((mg o a b).take i)++[(e.key,valK p e)] by simp [outL,List.filter_append,hw]]
    unfold OwnP;rw [rH,←hv];exact h15
   exact World.ownsRow.kept (World.ownsRow.kept hrow15 g16 (.inr fun hk=>by have:=(World.ownsRow.lt hrow15 _ hk).1;omega)) g17 (.inr fun hk=>by have:=(World.ownsRow.lt hrow15 _ hk).1;omega)
  refine ⟨_,hx12.cell (i:=3) (pU _ _) rfl,?_⟩
  refine pO (fun hia=>?_) fun hia=>?_
  ·refine ⟨_,hx12.cell (i:=4) (pU _ _) rfl,?_⟩
   refine pO (fun hib=>?_) fun hib=>?_
   ·refine ⟨_,(hp11.ext e12).cell (i:=0) rfl rfl,_,hx12.cell (i:=1) (pU _ _) rfl,_,hx12.cell (i:=2) (pU _ _) rfl,?_⟩
    refine pP call142 (aMo fun w13 e13=>pN ⟨_,_,rfl,hK _ e13 ?_⟩)
    rw [h3];unfold valK;rw [hia,hib];rfl
   ·refine hK _ (pR _) ?_
    unfold valK;rw [hia,hib];rfl
  ·refine hK _ (pR _) ?_
   unfold valK;rw [hia];rfl
 ·rw [hSt]
  exact ⟨E8,⟨none,0,0,ho8,qH _ _⟩,hp8,hf8,hbo8,hd8,hl8⟩
 ·intro w' hs'
  rw [hSt] at hs'
  obtain ⟨E9,⟨q,n,c,hout,hrow⟩,hp9,hf9,hbo9,hd9,hl9⟩:=hs'
  rw [List.take_length] at hrow
  refine aHy hl9 (by rw [hst];simp) hpe fun ob=>?_
  have gob:=qN w' (d+1) ob
  have hout':=hout.grown gob (pV (by omega))
  refine ⟨_,_,_,hout'.cell (i:=0) rfl rfl,qA (i:=0) hout' (pU _ _) (by simp) fun w10 h10 g10=>⟨qI g10 (qI gob hd9 (pV (by omega))) (pV (by omega)),_,_,_,(h10.grown (qN _ _ _) (pV (by omega))).cell (i:=0) rfl rfl,?_⟩⟩
  refine h _ _ _ _ (rO (World.ownsRow.kept (World.ownsRow.kept (World.ownsRow.kept hrow gob ?_) g10 ?_) (qN w10 d _) ?_) (by have:=E8.size;omega)) (((E9.put (by omega) _).st g10 (by omega)).put (by omega) _)
  ·exact .inr fun hk=>by have:=(World.ownsRow.lt hrow _ hk).1;omega
  ·exact .inr fun hk=>by have:=(World.ownsRow.lt hrow _ hk).1;omega
  ·exact .inr fun hk=>by have:=(World.ownsRow.lt hrow _ hk).1;omega
def wU(_:Ke):Bool:=true
def wM(e:Ke):Bool:=e.inA&&e.inB
def wL(e:Ke):Bool:=!e.inB
def wA(e:Ke):Bool:=!(e.inA==e.inB)
def wR(o lo hi:Int)(e:Ke):Bool:=decide (cmpI o e.key lo≥0)&&decide (cmpI o e.key hi≤0)
theorem wn_u{ok:Ke→Prop}:Wn w wU (.func 147) #[] #[] ok:=by
 intro e _ w' _ R h
 refine uE call147 (by rfl) (sh147_ok ?_)
 unfold sh147
 exact ⟨h _ (pQ _ _)⟩
theorem wn_m{ok:Ke→Prop}:Wn w wM (.func 148) #[] #[] ok:=by
 intro e _ w' _ R h
 refine uE call148 (by rfl) (sh148_ok ?_)
 unfold sh148
 have hx:=pS w' #[.int .i64 e.key,.int .i64 e.a,.int .i64 e.b,.bool e.inA,.bool e.inB] 149
 refine ⟨⟨_,hx.cell (i:=3) (pU _ _) rfl,pO (fun h1=>⟨_,hx.cell (i:=4) (pU _ _) rfl,?_⟩) fun h1=>?_⟩⟩
 ·rw [show wM e=e.inB by unfold wM;rw [h1];rfl] at h;exact h _ (pQ w' _)
 ·rw [show wM e=false by unfold wM;rw [h1];rfl] at h;exact h _ (pQ w' _)
theorem wn_l{ok:Ke→Prop}:Wn w wL (.func 149) #[] #[] ok:=by
 intro e _ w' _ R h
 refine uE call149 (by rfl) (sh149_ok ?_)
 unfold sh149
 have hx:=pS w' #[.int .i64 e.key,.int .i64 e.a,.int .i64 e.b,.bool e.inA,.bool e.inB] 149
 exact ⟨⟨_,hx.cell (i:=4) (pU _ _) rfl,h _ (pQ w' _)⟩⟩
theorem wn_a{ok:Ke→Prop}:Wn w wA (.func 150) #[] #[] ok:=by
 intro e _ w' _ R h
 refine uE call150 (by rfl) (sh150_ok ?_)
 unfold sh150
 have hx:=pS w' #[.int .i64 e.key,.int .i64 e.a,.int .i64 e.b,.bool e.inA,.bool e.inB] 149
 exact ⟨⟨_,hx.cell (i:=3) (pU _ _) rfl,_,hx.cell (i:=4) (pU _ _) rfl,h _ (pQ w' _)⟩⟩
theorem wn_r{o lo hi:Int}{b1 b2 b3:Nat}(h1:Blk w b1 #[.int .u8 o] 5)(h2:Blk w b2 #[.int .i64 lo] 2)(h3:Blk w b3 #[.int .i64 hi] 2)(hlo:In lo)(hhi:In hi):
  Wn w (wR o lo hi) (.func 153) #[] #[.pointer (some (blk b1)),.pointer (some (blk b2)),.pointer (some (blk b3))] fun e=>In e.key:=by
 intro e he w' e' R h
 refine uE call153 (by rfl) (sh153_ok ?_)
 unfold sh153
 refine ⟨?_⟩
 have hx:=pS w' #[.int .i64 e.key,.int .i64 e.a,.int .i64 e.b,.bool e.inA,.bool e.inB] 149
 have e2:=pQ w' (.cells #[.int .i64 e.key,.int .i64 e.a,.int .i64 e.b,.bool e.inA,.bool e.inB] 149)
 generalize w'.alloc (.cells #[.int .i64 e.key,.int .i64 e.a,.int .i64 e.b,.bool e.inA,.bool e.inB] 149)=w2 at *
 have E:=e'.trans e2
 refine ⟨_,(h1.ext E).cell (i:=0) rfl rfl,_,hx.cell (i:=0) (pU _ _) rfl,_,(h2.ext E).cell (i:=0) rfl rfl,pP call54 (vK he hlo fun w3 e3=>pN ⟨_,rfl,?_⟩)⟩
 refine pO (fun g1=>?_) fun g1=>?_
 ·refine ⟨_,(h1.ext (E.trans e3)).cell (i:=0) rfl rfl,_,(hx.ext e3).cell (i:=0) (pU _ _) rfl,_,(h3.ext (E.trans e3)).cell (i:=0) rfl rfl,pP call54 (vK he hhi fun w4 e4=>pN ⟨_,rfl,?_⟩)⟩
  have:=h _ ((e2.trans e3).trans e4)
  unfold wR at this
  rw [g1,Bool.true_and] at this
  exact this
 ·have:=h _ (e2.trans e3)
  unfold wR at this
  rw [g1,Bool.false_and] at this
  exact this
def setL(o p:Int)(want:Ke→Bool)(a b:List Pr):List Pr:=cond (mayR o a&&mayR o b&&may p) (someL o p want a b) []
def setE(o p:Int)(a b:List Pr):Int:=cond (mayR o a&&mayR o b&&may p) 0 2
theorem someL_len(o p:Int)(want:Ke→Bool)(a b:List Pr):(someL o p want a b).length≤a.length+b.length:=
 Nat.le_trans (outL_len _ _ _) (mg_len _ _ _)
theorem setL_len(o p:Int)(want:Ke→Bool)(a b:List Pr):(setL o p want a b).length≤a.length+b.length:=by
 unfold setL;cases (mayR o a&&mayR o b&&may p)
 ·exact Nat.zero_le _
 ·exact someL_len _ _ _ _ _
theorem inv_outL{p:Int}{want:Ke→Bool}{l:List Ke}(h:∀e∈l,In e.key∧In e.a∧In e.b):InP (outL p want l):=by
 intro x hx
 unfold outL at hx
 obtain ⟨e,he,rfl⟩:=List.mem_map.1 hx
 have:=h e (List.mem_filter.1 he |>.1)
 refine ⟨this.1,?_⟩
 unfold valK
 split
 ·exact comb_in this.2.1 this.2.2
 ·exact aHo _
theorem setL_in{o p:Int}{want:Ke→Bool}{a b:List Pr}(ha:InP a)(hb:InP b):InP (setL o p want a b):=by
 unfold setL;cases (mayR o a&&mayR o b&&may p)
 ·intro x hx;cases hx
 ·exact inv_outL fun e he=>mg_in o a b ha hb e he
section
variable {o p:Int} {a b:List Pr} {qa qb:OA} {na ca nb cb:Nat} {w:World} {R:EW}
theorem c_un(hla:Cs w qa (prs a))(hna:a.length=na)(hca:na≤ca)(hlb:Cs w qb (prs b))(hnb:b.length=nb)(hcb:nb≤cb)(hm:na+nb≤1000000)(hIa:InP a)(hIb:InP b)
  (h:∀p' n' c' w',OwnP w' w.heap.size p' n' c' (setL o p wU a b)→Ext w w'→R (.returned (.tuple #[.slice p' n' c',.int .i64 (setE o p a b)])) w') :
  Calls prog 107 #[.int .u8 o,.int .u8 p,.slice qa na ca,.slice qb nb cb] w R:=by
 refine sh107_ok ?_
 unfold sh107
 exact pP call146 (c_some wn_u hla hna hca hlb hnb hcb hm hIa hIb fun p' n' c' w' h1 e1=>pN ⟨_,_,_,_,rfl,h _ _ _ _ h1 e1⟩)
theorem c_me(hla:Cs w qa (prs a))(hna:a.length=na)(hca:na≤ca)(hlb:Cs w qb (prs b))(hnb:b.length=nb)(hcb:nb≤cb)(hm:na+nb≤1000000)(hIa:InP a)(hIb:InP b)
  (h:∀p' n' c' w',OwnP w' w.heap.size p' n' c' (setL o p wM a b)→Ext w w'→R (.returned (.tuple #[.slice p' n' c',.int .i64 (setE o p a b)])) w') :
  Calls prog 108 #[.int .u8 o,.int .u8 p,.slice qa na ca,.slice qb nb cb] w R:=by
 refine sh108_ok ?_
 unfold sh108
 exact pP call146 (c_some wn_m hla hna hca hlb hnb hcb hm hIa hIb fun p' n' c' w' h1 e1=>pN ⟨_,_,_,_,rfl,h _ _ _ _ h1 e1⟩)
theorem c_le(hla:Cs w qa (prs a))(hna:a.length=na)(hca:na≤ca)(hlb:Cs w qb (prs b))(hnb:b.length=nb)(hcb:nb≤cb)(hm:na+nb≤1000000)(hIa:InP a)(hIb:InP b)
  (h:∀p' n' c' w',OwnP w' w.heap.size p' n' c' (setL o 1 wL a b)→Ext w w'→R (.returned (.tuple #[.slice p' n' c',.int .i64 (setE o 1 a b)])) w') :
  Calls prog 109 #[.int .u8 o,.slice qa na ca,.slice qb nb cb] w R:=by
 refine sh109_ok ?_
 unfold sh109
 exact pP call146 (c_some wn_l hla hna hca hlb hnb hcb hm hIa hIb fun p' n' c' w' h1 e1=>pN ⟨_,_,_,_,rfl,h _ _ _ _ h1 e1⟩)
theorem c_ap(hla:Cs w qa (prs a))(hna:a.length=na)(hca:na≤ca)(hlb:Cs w qb (prs b))(hnb:b.length=nb)(hcb:nb≤cb)(hm:na+nb≤1000000)(hIa:InP a)(hIb:InP b)
  (h:∀p' n' c' w',OwnP w' w.heap.size p' n' c' (setL o 1 wA a b)→Ext w w'→R (.returned (.tuple #[.slice p' n' c',.int .i64 (setE o 1 a b)])) w') :
  Calls prog 110 #[.int .u8 o,.slice qa na ca,.slice qb nb cb] w R:=by
 refine sh110_ok ?_
 unfold sh110
 exact pP call146 (c_some wn_a hla hna hca hlb hnb hcb hm hIa hIb fun p' n' c' w' h1 e1=>pN ⟨_,_,_,_,rfl,h _ _ _ _ h1 e1⟩)
theorem c_range{lo hi:Int}(hlo:In lo)(hhi:In hi)(hla:Cs w qa (prs a))(hna:a.length=na)(hca:na≤ca)(hm:na≤1000000)(hIa:InP a)
  (h:∀p' n' c' w',OwnP w' w.heap.size p' n' c' (setL o 1 (wR o lo hi) a [])→Ext w w'→R (.returned (.tuple #[.slice p' n' c',.int .i64 (setE o 1 a [])])) w') :
  Calls prog 113 #[.int .u8 o,.slice qa na ca,.int .i64 lo,.int .i64 hi] w R:=by
 refine sh113_ok ?_
 unfold sh113
 refine ⟨⟨⟨?_⟩⟩⟩
 have e1:=pQ w (.cells #[.int .u8 o] 5)
 have h1:=pS w #[.int .u8 o] 5
 generalize w.alloc (.cells #[.int .u8 o] 5)=w1 at *
 have e2:=pQ w1 (.cells #[.int .i64 lo] 2)
 have h2:=pS w1 #[.int .i64 lo] 2
 generalize w1.alloc (.cells #[.int .i64 lo] 2)=w2 at *
 have e3:=pQ w2 (.cells #[.int .i64 hi] 2)
 have h3:=pS w2 #[.int .i64 hi] 2
 generalize w2.alloc (.cells #[.int .i64 hi] 2)=w3 at *
 have E:=(e1.trans e2).trans e3
 refine ⟨_,((h1.ext e2).ext e3).cell (i:=0) rfl rfl,?_⟩
 refine pP call146 (c_some (b:=[]) (wn_r ((h1.ext e2).ext e3) (h2.ext e3) h3 hlo hhi) (hla.ext E) hna hca (cs_nil _ _) rfl (Nat.le_refl _) (by omega) hIa (by intro x hx;cases hx) fun p' n' c' w' g1 g2=>pN ⟨_,_,_,_,rfl,h _ _ _ _ (rO g1 E.size) (E.trans g2)⟩)
end
def cutA(o:Int)(l:List Pr)(key:Int):List Pr:=cond (mayR o l) (l.take (posR o l key)) []
def cutB(o:Int)(l:List Pr)(key:Int):List Pr:=cond (mayR o l) (l.drop (posR o l key+(if hasR o l key then 1 else 0))) []
theorem c_cutF{o key:Int}{l:List Pr}{q:OA}{n c:Nat}(hl:Cs w q (prs l))(hn:l.length=n)(hnc:n≤c)(hm:n≤1000000000000)(hI:InP l)(hk:In key)
  (h:∀p1 n1 c1 p2 n2 c2 w',Cs w' p1 (prs (cutA o l key))→(cutA o l key).length=n1→n1≤c1→Cs w' p2 (prs (cutB o l key))→(cutB o l key).length=n2→n2≤c2→Ext w w'→(∀a,p1=some a→w.heap.size≤a.block∧a.block < w'.heap.size)→(∀a,p2=some a→w.heap.size≤a.block∧a.block < w'.heap.size)→
   R (.returned (.tuple #[.slice p1 n1 c1,.int .i64 (getR o l key),.bool (hasR o l key),.slice p2 n2 c2])) w') :
  Calls prog 115 #[.int .u8 o,.slice q n c,.int .i64 key] w R:=by
 refine sh115_ok ?_
 unfold sh115
 refine pP call24 (aFz hl hn (by omega) hI fun w1 e1=>pN ⟨_,rfl,?_⟩)
 cases hmay:mayR o l
 ·refine pZ rfl ?_
  have hh:hasR o l key=false:=by unfold hasR;rw [hmay];rfl
  have hr:=h none 0 0 none 0 0 w1
  simp only [cutA,cutB,getR,hh,hmay,cond_false] at hr
  exact hr (cs_nil _ _) rfl (Nat.le_refl _) (cs_nil _ _) rfl (Nat.le_refl _) e1 (fun a e=>by cases e) fun a e=>by cases e
 refine pY rfl ?_
 refine pP call112 (vJ (hl.ext e1) hn (by omega) hI hk fun w2 e2=>pN ⟨_,_,rfl,⟨?_⟩⟩)
 have hle:=aAf o l key
 have E2:=(e1.trans e2).trans (pT w2)
 have hl2:=hl.ext E2
 refine aHs (ec:=fun x:Pr=>[.int .i64 x.1,.int .i64 x.2]) (s:=2) (fun _=>rfl) (by omega) hl2 hn hnc (a:=0) (b:=posR o l key) rfl rfl (by omega) (by omega) fun p1 h1=>?_
 refine aHs (ec:=fun x:Pr=>[.int .i64 x.1,.int .i64 x.2]) (s:=2) (fun _=>rfl) (by omega) hl2 hn hnc (a:=posR o l key) (b:=n) rfl rfl (by omega) (by omega) fun p2 h2=>?_
 have h1:=h1 _ hl2
 have h2:=h2 _ hl2
 rw [List.drop_zero] at h1
 rw [List.take_of_length_le (by omega)] at h2
 refine pP call27 (yR h1 (by simp;omega) (by omega) fun p3 c3 w3 g3 e3=>pN ⟨_,_,_,rfl,?_⟩)
 refine pP call27 (yR (h2.ext e3) (by simp;omega) (by omega) fun p4 c4 w4 g4 e4=>pN ⟨_,_,_,rfl,?_⟩)
 have hA:cutA o l key=l.take (posR o l key):=by unfold cutA;rw [hmay];rfl
 have hB:cutB o l key=l.drop (posR o l key+(if hasR o l key then 1 else 0)):=by unfold cutB;rw [hmay];rfl
 have h3:=(rB g3).ext e4
 have E2s:=E2.size
 have e3s:=e3.size
 have e4s:=e4.size
 have b3:∀a,p3=some a→w.heap.size≤a.block∧a.block < w4.heap.size:=fun a ha=>by have:=tG g3 ha;omega
 have b4:∀a,p4=some a→w.heap.size≤a.block∧a.block < w4.heap.size:=fun a ha=>by have:=tG g4 ha;omega
 have hc3:posR o l key - 0≤c3:=tD g3
 have hc4:n - posR o l key≤c4:=tD g4
 cases hh:hasR o l key
 ·refine pY rfl ?_
  rw [hh] at hB
  have hg:getR o l key=0:=get_none hh
  have hr:=h p3 _ c3 p4 _ c4 w4 (by rw [hA];exact h3) (by rw [hA];simp;omega) hc3 (by rw [hB];exact rB g4) (by rw [hB];simp;omega) hc4 ((E2.trans e3).trans e4) b3 b4
  rw [hg,hh] at hr
  exact hr
 ·refine pZ rfl ?_
  rw [hh] at hB
  have hlt:=sH hh
  refine ⟨⟨fun w'=>Ext w4 w',pT _,?_⟩⟩
  have h4:=rB g4
  refine qZ (fun w' e'=>h4.ext e') (pR _) (by simp;omega) (k:=0) rfl (by omega) fun a _ r2=>⟨_,r2,?_⟩
  refine aEh (h4.ext (pT _)) (by simp;omega) hc4 (a:=1) (b:=n - posR o l key) rfl rfl (by omega) (by omega) fun p5 h5 hp5=>?_
  rw [List.take_of_length_le (by simp;omega),List.drop_drop] at h5
  have hg:getR o l key=((l.drop (posR o l key))[0]'(by simp;omega)).2:=by
   unfold getR;rw [hh,cond_true,List.getElem_drop,rQ hlt];rfl
  have hr:=h p3 (posR o l key - 0) c3 p5 (n - posR o l key - 1) (c4 - 1) _ (by rw [hA];exact h3.ext (pT _)) (by rw [hA,List.length_take];omega) hc3 (by rw [hB];exact h5) (by rw [hB,if_pos rfl,List.length_drop];omega) (by omega) (((E2.trans e3).trans e4).trans (pT _)) b3 (fun a ha=>by
   have hb:∃a0,p4=some a0∧a.block=a0.block:=by
    rw [hp5] at ha
    split at ha
    ·exact ⟨a,ha,rfl⟩
    ·obtain ⟨a0,h0,rfl⟩:=Option.map_eq_some_iff.1 ha
     exact ⟨a0,h0,by rw [qV]⟩
   obtain ⟨a0,h0,e⟩:=hb
   rw [e]
   exact b4 a0 h0)
  rw [hh,hg] at hr
  exact hr
end Go.Proofs.YtmdboekndjlmgaaGreat
