/-
  RowKeeps: the plain laws of rows, and the walk.
-/
import Derived.Test.YtmdboekndjlmgaaGreatZ26
set_option maxRecDepth 100000
set_option maxHeartbeats 6400000
namespace Go.Proofs.YtmdboekndjlmgaaGreat
open Go Go.Sh Go.RowKit Tryz
variable {w:World}{R:EW}
theorem aHo(x:Int):In (IntKind.wrap .i64 x):=by
 simp only [IntKind.wrap,IntKind.signed,IntKind.bits,In]
 simp
 omega
abbrev ltO(o:Int)(a b:Int):Prop:=cmpI o a b < 0
theorem aKr{o:Int}:∀{l:List Pr},chain o l=true↔(l.map (·.1)).Pairwise (ltO o)
 | []=>by simp [chain]
 | [a]=>by simp [chain]
 | a::b::l=>by
  rw [aBf,Bool.and_eq_true,decide_eq_true_eq,aKr (l:=b::l)]
  simp only [List.map_cons,List.pairwise_cons,List.mem_cons,List.mem_map,forall_eq_or_imp]
  constructor
  ·rintro ⟨h1,h2,h3⟩
   exact ⟨⟨h1,fun x hx=>sX h1 (h2 x hx)⟩,h2,h3⟩
  ·rintro ⟨⟨h1,_⟩,h2,h3⟩
   exact ⟨h1,h2,h3⟩
theorem sG{o:Int}{l:List Pr}:mayR o l=true↔isO o=true∧(l.map (·.1)).Pairwise (ltO o):=by
 unfold mayR;rw [Bool.and_eq_true,aKr]
theorem aDs{o:Int}{l:List Pr}(hm:mayR o l=true){key v:Int}(h:(key,v)∈l):hasR o l key=true∧getR o l key=v:=by
 obtain ⟨i,hi,e⟩:=List.getElem_of_mem h
 have:=pos_at hm hi
 rw [e] at this
 exact ⟨this.2.1,this.2.2⟩
theorem aDv{o:Int}{l:List Pr}{key:Int}(h:hasR o l key=true):(key,getR o l key)∈l:=by
 have hlt:=sH h
 have hk:=wS h
 have:getR o l key=(l[posR o l key]'hlt).2:=by unfold getR;rw [h,rQ hlt];rfl
 rw [this]
 have hm:=List.getElem_mem hlt
 rw [show (l[posR o l key]'hlt)=(key,(l[posR o l key]'hlt).2) from Prod.ext hk rfl] at hm
 exact hm
theorem get_none{o:Int}{l:List Pr}{key:Int}(h:hasR o l key=false):getR o l key=0:=by unfold getR;rw [h];rfl
theorem same_at{o:Int}{l r:List Pr}(hl:mayR o l=true)(hr:mayR o r=true){key:Int}(h:∀v,(key,v)∈l↔(key,v)∈r):hasR o l key=hasR o r key∧getR o l key=getR o r key:=by
 cases hh:hasR o l key
 ·cases hh':hasR o r key
  ·exact ⟨rfl,by rw [get_none hh,get_none hh']⟩
  ·have:=(aDs hl ((h _).2 (aDv hh'))).1
   rw [hh] at this;cases this
 ·have:=aDs hr ((h _).1 (aDv hh))
  exact ⟨this.1.symm,this.2.symm⟩
theorem aFn{o key:Int}{l:List Pr}(hm:mayR o l=true):mayR o (rY o l key)=true:=by
 rw [uK hm,sG]
 have:=sG.1 hm
 exact ⟨this.1,this.2.sublist (List.filter_sublist.map _)⟩
theorem drop_in{o key:Int}{l:List Pr}(hm:mayR o l=true)(hI:InP l):InP (rY o l key):=fun x hx=>by
 rw [uK hm,List.mem_filter] at hx
 exact hI x hx.1
theorem xP{o p:Int}{l:List Pr}{x:Pr}(hm:mayR o l=true)(hp:may p=true)(hh:hasR o l x.1=false):putR o p l x=l.take (posR o l x.1)++x::l.drop (posR o l x.1):=by
 unfold putR;rw [hm,hp,hh];rfl
theorem aAc{o p:Int}{l:List Pr}{x:Pr}(hm:mayR o l=true)(hp:may p=true)(hh:hasR o l x.1=true):putR o p l x=l.set (posR o l x.1) (x.1,comb p (getR o l x.1) x.2):=by
 unfold putR getR;rw [hm,hp,hh];rfl
theorem aBo{o p:Int}{l:List Pr}{x:Pr}(hm:mayR o l=true)(hp:may p=true)(hI:InP l)(hx:In x.1):mayR o (putR o p l x)=true:=by
 have hpw:=sG.1 hm
 cases hh:hasR o l x.1
 ·rw [xP hm hp hh,sG]
  refine ⟨hpw.1,?_⟩
  have hpx:posR o l x.1=idxR o l x.1:=by unfold posR;rw [hm];rfl
  have hsplit:=hpw.2
  rw [←List.take_append_drop (posR o l x.1) l,List.map_append,List.pairwise_append] at hsplit
  rw [List.map_append,List.map_cons,List.pairwise_append,List.pairwise_cons]
  have hlo:∀a∈(l.take (posR o l x.1)).map (·.1),ltO o a x.1:=fun a ha=>by
   simp only [List.mem_map] at ha
   obtain ⟨y,hy,rfl⟩:=ha
   obtain ⟨i,hi,rfl⟩:=List.getElem_of_mem hy
   rw [List.length_take] at hi
   rw [List.getElem_take]
   exact (aIo (o:=o) (l:=l) (key:=x.1) (i:=i) (by omega)).2
  have hhi:∀b∈(l.drop (posR o l x.1)).map (·.1),ltO o x.1 b:=fun b hb=>by
   simp only [List.mem_map] at hb
   obtain ⟨y,hy,rfl⟩:=hb
   obtain ⟨i,hi,rfl⟩:=List.getElem_of_mem hy
   rw [List.length_drop] at hi
   rw [List.getElem_drop]
   have hlt:idxR o l x.1 < l.length:=by omega
   have hge:=aDu (o:=o) (l:=l) (key:=x.1) hlt
   have hne:cmpI o l[idxR o l x.1].1 x.1≠0:=fun h0=>by
    have:=(wT hm).2 ⟨_,hlt,aCf hpw.1 (hI _ (List.getElem_mem hlt)).1 hx h0⟩
    rw [hh] at this;cases this
   have h1:cmpI o x.1 l[idxR o l x.1].1 < 0:=xZ (by omega)
   simp only [hpx]
   rcases Nat.eq_zero_or_pos i with h0 | h0
   ·subst h0;exact h1
   ·exact sX h1 (vU (tK hm) (i:=idxR o l x.1) (j:=idxR o l x.1+i) (by omega) (by omega))
  refine ⟨hsplit.1,⟨hhi,hsplit.2.1⟩,fun a ha b hb=>?_⟩
  rcases List.mem_cons.1 hb with rfl | hb
  ·exact hlo a ha
  ·exact hsplit.2.2 a ha b hb
 ·rw [aAc hm hp hh,sG]
  refine ⟨hpw.1,?_⟩
  have hlt:=sH hh
  have hk:=wS hh
  have:(l.set (posR o l x.1) (x.1,comb p (getR o l x.1) x.2)).map (·.1)=l.map (·.1):=by
   refine List.ext_getElem (by simp) fun i h1 h2=>?_
   simp only [List.getElem_map,List.getElem_set]
   split
   ·rename_i e;subst e;exact hk.symm
   ·rfl
  rw [this];exact hpw.2
theorem put_len{o p:Int}{l:List Pr}{x:Pr}(hm:mayR o l=true)(hp:may p=true):(putR o p l x).length=if hasR o l x.1 then l.length else l.length+1:=by
 cases hh:hasR o l x.1
 ·rw [xP hm hp hh]
  have:=aAf o l x.1
  simp;omega
 ·rw [aAc hm hp hh];simp
theorem aIa{o p:Int}{l:List Pr}{x:Pr}(hm:mayR o l=true)(hp:may p=true)(y:Pr):y∈putR o p l x→y=(x.1,if hasR o l x.1 then comb p (getR o l x.1) x.2 else x.2)∨y∈l:=by
 intro hy
 cases hh:hasR o l x.1
 ·rw [xP hm hp hh] at hy
  rcases List.mem_append.1 hy with h | h
  ·exact .inr (List.mem_of_mem_take h)
  ·rcases List.mem_cons.1 h with h | h
   ·exact .inl h
   ·exact .inr (List.mem_of_mem_drop h)
 ·rw [aAc hm hp hh] at hy
  rcases List.mem_or_eq_of_mem_set hy with h | h
  ·exact .inr h
  ·exact .inl h
theorem put_key{o p:Int}{l:List Pr}{x:Pr}(hm:mayR o l=true)(hp:may p=true)(hI:InP l)(hx:In x.1):
  hasR o (putR o p l x) x.1=true∧getR o (putR o p l x) x.1=if hasR o l x.1 then comb p (getR o l x.1) x.2 else x.2:=by
 refine aDs (aBo hm hp hI hx) ?_
 cases hh:hasR o l x.1
 ·rw [xP hm hp hh];simp
 ·rw [aAc hm hp hh]
  have hlt:=sH hh
  exact List.mem_of_getElem (i:=posR o l x.1) (h:=by simpa using hlt) (by simp)
theorem aPb{o p key:Int}{l:List Pr}{x:Pr}(hm:mayR o l=true)(hp:may p=true)(hI:InP l)(hx:In x.1)(hne:key≠x.1):hasR o (putR o p l x) key=hasR o l key∧getR o (putR o p l x) key=getR o l key:=by
 refine same_at (aBo hm hp hI hx) hm fun v=>?_
 constructor
 ·intro h
  rcases aIa hm hp _ h with h | h
  ·exact absurd (congrArg Prod.fst h) hne
  ·exact h
 ·intro h
  cases hh:hasR o l x.1
  ·rw [xP hm hp hh]
   rw [←List.take_append_drop (posR o l x.1) l] at h
   rcases List.mem_append.1 h with h | h
   ·exact List.mem_append_left _ h
   ·exact List.mem_append_right _ (List.mem_cons_of_mem _ h)
  ·rw [aAc hm hp hh]
   have hlt:=sH hh
   have hk:=wS hh
   obtain ⟨i,hi,e⟩:=List.getElem_of_mem h
   have hii:posR o l x.1≠i:=fun e'=>by
    subst e'
    rw [e] at hk
    exact hne hk
   refine List.mem_of_getElem (i:=i) (h:=by simpa using hi) ?_
   rw [List.getElem_set_ne hii];exact e
theorem aLk{o p:Int}{l:List Pr}{x:Pr}(hm:mayR o l=true)(hp:may p=true)(hI:InP l)(hx:In x.1∧In x.2):InP (putR o p l x):=fun y hy=>by
 rcases aIa hm hp _ hy with rfl | h
 ·refine ⟨hx.1,?_⟩
  show In (if hasR o l x.1 then comb p (getR o l x.1) x.2 else x.2)
  split
  ·rename_i hh
   have hg:=(hI _ (aDv hh)).2
   unfold comb
   split
   ·exact hg
   ·split
    ·exact hx.2
    ·exact aHo _
  ·exact hx.2
 ·exact hI _ h
theorem wY{o a b:Int}(ho:isO o=true):cmpI o a b < 0↔qC o a < qC o b:=by
 have ho':1≤o∧o≤7:=by simpa [isO] using ho
 unfold cmpI
 rw [if_pos ho']
 split
 ·exact ⟨fun _=>by assumption,fun _=>by omega⟩
 ·split <;> omega
abbrev Srt(o:Int)(l:List Pr):Prop:=l.Pairwise fun a b=>qC o a.1≤qC o b.1
def Stab(M L:List Pr):Prop:=∀k:Int,M.filter (fun x=>x.1==k)=L.filter (fun x=>x.1==k)
theorem Stab.refl(L:List Pr):Stab L L:=fun _=>rfl
theorem Stab.trans{A B C:List Pr}(h:Stab A B)(k:Stab B C):Stab A C:=fun i=>(h i).trans (k i)
theorem Stab.app{A B C D:List Pr}(h:Stab A B)(k:Stab C D):Stab (A++C) (B++D):=fun i=>by rw [List.filter_append,List.filter_append,h i,k i]
theorem Stab.mem{A B:List Pr}(h:Stab A B)(x:Pr):x∈A↔x∈B:=by
 have:∀C:List Pr,x∈C↔x∈C.filter (fun y=>y.1==x.1):=fun C=>by simp [List.mem_filter]
 rw [this A,this B,h x.1]
theorem wC{p:Pr→Bool}{l:List Pr}(h:∀x∈l,p x=false):l.filter p=[]:=by
 rw [List.filter_eq_nil_iff];intro x hx;simp [h x hx]
theorem zX{o:Int}{A B:List Pr}(h:∀a∈A,∀b∈B,qC o b.1 < qC o a.1):Stab (B++A) (A++B):=fun k=>by
 rw [List.filter_append,List.filter_append]
 by_cases hk:∃a∈A,a.1=k
 ·obtain ⟨a,ha,rfl⟩:=hk
  rw [wC (l:=B) fun b hb=>by
   have:=h a ha b hb
   cases hq:(b.1==a.1)
   ·rfl
   ·have e:b.1=a.1:=by simpa using hq
    rw [e] at this;omega]
  simp
 ·rw [wC (l:=A) fun a ha=>by
   cases hq:(a.1==k)
   ·rfl
   ·exact absurd ⟨a,ha,by simpa using hq⟩ hk]
  simp
theorem uN{o:Int}{A B:List Pr}:Srt o (A++B)↔Srt o A∧Srt o B∧∀a∈A,∀b∈B,qC o a.1≤qC o b.1:=List.pairwise_append
theorem tQ{o:Int}{l:List Pr}(h:Srt o l){i j:Nat}(hij:i≤j)(hj:j < l.length):qC o l[i].1≤qC o l[j].1:=by
 rcases Nat.lt_or_ge i j with h1 | h1
 ·exact List.pairwise_iff_getElem.1 h i j (by omega) hj h1
 ·have:i=j:=by omega
  subst this;exact Int.le_refl _
theorem aNf{α:Type}{U V:List α}{x y:α}{i:Nat}(hi:i=U.length):(U++x::V).set i y=U++y::V:=by
 subst hi
 rw [List.set_append_right _ _ (Nat.le_refl _),Nat.sub_self];rfl
theorem own_st{l:List Pr}{p:OA}{n c base k:Nat}(ho:OwnP w base p n c l)(hk:k < n){a:Addr}(ha:∃b,p=some b∧a=b.add (k * 2)){u v:Int}{K:World→Prop}
  (h:∀w',OwnP w' base p n c (l.set k (u,v))→w.grownBy w' (Value.slice p n c).ownBlock→K w'):doSt (a.add 0) (.int .i64 u) w fun w1=>doSt (a.add 1) (.int .i64 v) w1 K:=by
 obtain ⟨b,hb,rfl⟩:=ha
 have hl:=qF ho
 rcases xQ ho with ⟨hp,hn0,_⟩ | ⟨g,cur,hp,hbg,hg,_,hcm,hcl,hct⟩
 ·omega
 subst hp;cases hb
 rw [add_zero',add_add]
 have ea:(⟨g,0,none⟩:Addr).add (k * 2)=⟨g,k * 2,none⟩:=pU g _
 have eb:(⟨g,0,none⟩:Addr).add (k * 2+1)=⟨g,k * 2+1,none⟩:=pU g _
 rw [ea,eb]
 have hs:=ho.stored (k * 2) (.int .i64 u)
 rw [prs_set1 (by omega)] at hs
 refine ⟨⟨_,by rw [ho.cellAt _ (by omega)];exact List.getElem?_eq_getElem (by simp;omega)⟩,ho.frozenAt _,?_⟩
 have ho1:OwnP (w.setCell ⟨g,k * 2,none⟩ (.int .i64 u)) base (some ⟨g,0,none⟩) n c (l.set k (u,(l[k]'(by omega)).2)):=hs.1
 have hs1:=ho1.stored (k * 2+1) (.int .i64 v)
 rw [aJp (by simp;omega)] at hs1
 refine ⟨⟨_,by rw [ho1.cellAt _ (by omega)];exact List.getElem?_eq_getElem (by simp;omega)⟩,ho1.frozenAt _,h _ ?_ (pX hs.2 hs1.2)⟩
 have:=hs1.1
 simp only [List.getElem_set_self,List.set_set] at this
 exact this
theorem aDw{l:List Pr}{p:OA}{n c B:Nat}(ho:OwnP w B p n c l){iX iY:Int}{x y:Nat}(hX:iX=(x:Int))(hY:iY=(y:Int))(hx:x < n)(hy:y < n){K:World→Prop}
  (k:∀w',OwnP w' B p n c ((l.set x (l[y]'(by rw [qF ho];exact hy))).set y (l[x]'(by rw [qF ho];exact hx)))→w.grownBy w' (Value.slice p n c).ownBlock→K w') :
  doDr w (fun w16=>∃(C15:World→Prop),C15 w16∧(doIx p n 2 iY (fun a17=>∃(x18:Int),(∀w,C15 w→w.cell? (a17.add 0)=some (.int .i64 x18))∧(∃(x19:Int),(∀w,C15 w→w.cell? (a17.add 1)=some (.int .i64 x19))∧(
   doIx p n 2 iX (fun a20=>∃(x21:Int),(∀w,C15 w→w.cell? (a20.add 0)=some (.int .i64 x21))∧(∃(x22:Int),(∀w,C15 w→w.cell? (a20.add 1)=some (.int .i64 x22))∧(
   doIx p n 2 iX (fun a23=>doSt (a23.add 0) (.int .i64 x18) w16 (fun w24=>doSt (a23.add 1) (.int .i64 x19) w24 (fun w25=>
   doIx p n 2 iY (fun a26=>doSt (a26.add 0) (.int .i64 x21) w25 (fun w27=>doSt (a26.add 1) (.int .i64 x22) w27 K))))))))))))):=by
 have hl:=qF ho
 have ho1:OwnP w.drew B p n c l:=wP ho (pT w) (Nat.le_refl _)
 refine ⟨⟨fun w'=>w'=w.drew,rfl,?_⟩⟩
 have hC:∀w',w'=w.drew→Cs w' p (prs l):=fun w' e=>by subst e;exact rB ho1
 refine qZ hC rfl hl hY hy fun a r1 r2=>⟨_,r1,_,r2,?_⟩
 refine qZ hC rfl hl hX hx fun a r3 r4=>⟨_,r3,_,r4,?_⟩
 refine rI (rB ho1) hl hX hx fun a _ _ ha=>?_
 refine own_st ho1 hx ha fun w2 ho2 g2=>?_
 refine rI (rB ho2) (by simp [hl]) hY hy fun a _ _ ha=>?_
 refine own_st ho2 hy ha fun w3 ho3 g3=>?_
 exact k w3 ho3 (pX (pX (yM w _) g2) g3)
theorem yG{U V W:List Pr}{a b:Pr}{x y:Nat}(hx:x=U.length)(hy:y=U.length+1+V.length):
  ∀(h1:x < (U++a::(V++b::W)).length) (h2:y < (U++a::(V++b::W)).length),((U++a::(V++b::W)).set x (U++a::(V++b::W))[y]).set y (U++a::(V++b::W))[x]=U++b::(V++a::W)∧
   ((U++a::(V++b::W)).set y (U++a::(V++b::W))[x]).set x (U++a::(V++b::W))[y]=U++b::(V++a::W):=by
 intro h1 h2
 have e1:(U++a::(V++b::W))[x]=a:=by
  subst hx;simp
 have e2:(U++a::(V++b::W))[y]=b:=by
  subst hy
  rw [List.getElem_append_right (by omega)]
  simp only [show U.length+1+V.length - U.length=V.length+1 by omega,List.getElem_cons_succ]
  rw [List.getElem_append_right (Nat.le_refl _)]
  simp
 have e3:∀(a b c:Pr),(U++a::(V++b::W)).set y c=U++a::(V++c::W):=fun a b c=>by
  have:=aNf (U:=U++a::V) (V:=W) (x:=b) (y:=c) (i:=y) (by simp;omega)
  simpa using this
 have e4:∀(a b c:Pr),(U++a::(V++b::W)).set x c=U++c::(V++b::W):=fun a b c=>aNf hx
 rw [e1,e2]
 exact ⟨by rw [e4,e3],by rw [e3,e4]⟩
structure Rw (w0:World) (B:Nat) (p:OA) (n c:Nat) (w:World) (l:List Pr):Prop where
 own:OwnP w B p n c l
 ext:Ext w0 w
 keys:∀x∈l,In x.1
theorem Rw.len{w0:World}{B:Nat}{p:OA}{n c:Nat}{l:List Pr}(h:Rw w0 B p n c w l):l.length=n:=qF h.own
def Cmp(o:Int)(w0:World)(f:Fn)(fx fc:Array Value):Prop:=∀(x y:Pr),In x.1→In y.1→∀w,Ext w0 w→∀R:EW,(∀w',Ext w w'→R (.returned (.int .i64 (cmpI o x.1 y.1))) w')→doCall prog (.func f fx fc) #[agP x,agP y] w R
theorem zV{w0:World}{B:Nat}{p:OA}{n c:Nat}{f:Fn}{fx fc:Array Value}(hB:w0.heap.size≤B)(hm:n≤1000000000000){L A M Bq S:List Pr}{a b k:Nat}
  (hw:Rw w0 B p n c w (L++(A++(M++(Bq++S))))) (hA:A.length=k) (hBq:Bq.length=k) (ha:a=L.length) (hb:b=L.length+k+M.length)
  (h:∀w',Rw w0 B p n c w' (L++(Bq++(M++(A++S))))→R (.returned (.tuple #[])) w') :
  Calls prog 210 #[.slice p n c,.int .i64 (a:Nat),.int .i64 (b:Nat),.int .i64 (k:Nat),.func f fx fc] w R:=by
 refine sh210_ok ?_
 unfold sh210
 have hlen:=hw.len
 simp only [List.length_append] at hlen
 refine ⟨fun vs w'=>∃t:Nat,vs=[.int .i64 t]∧t≤k∧Rw w0 B p n c w' (L++((Bq.take t++A.drop t)++(M++((A.take t++Bq.drop t)++S)))),fun vs _=>k - (intOf (vs.getD 0 undef)).toNat,⟨0,rfl,by omega,by simpa using hw⟩,?_⟩
 rintro i _ w1 ⟨t,hv,htk,hr⟩
 simp only [List.cons.injEq,Value.int.injEq,true_and,and_true] at hv
 subst hv
 refine pO (fun hlt=>?_) fun hge=>?_
 ·have hlt:t < k:=by have:=of_decide_eq_true hlt;omega
  have hAt:A.drop t=(A[t]'(by omega))::A.drop (t+1):=List.drop_eq_getElem_cons (by omega)
  have hBt:Bq.drop t=(Bq[t]'(by omega))::Bq.drop (t+1):=List.drop_eq_getElem_cons (by omega)
  have el:L++((Bq.take t++A.drop t)++(M++((A.take t++Bq.drop t)++S)))=(L++Bq.take t)++(A[t]'(by omega))::((A.drop (t+1)++(M++A.take t))++(Bq[t]'(by omega))::(Bq.drop (t+1)++S)):=by
   rw [hAt,hBt];simp only [List.append_assoc,List.cons_append]
  rw [el] at hr
  have hx:a+t=(L++Bq.take t).length:=by simp;omega
  have hy:b+t=(L++Bq.take t).length+1+(A.drop (t+1)++(M++A.take t)).length:=by simp;omega
  have e1:IntKind.wrap .i64 ((a:Int)+(t:Int))=((a+t:Nat):Int):=by rw [qB (by omega) (by omega)];omega
  have e2:IntKind.wrap .i64 ((b:Int)+(t:Int))=((b+t:Nat):Int):=by rw [qB (by omega) (by omega)];omega
  have hlen1:=hr.len
  refine aDw hr.own e1 e2 (by omega) (by omega) fun w2 ho2 g2=>?_
  rw [(yG hx hy (by omega) (by omega)).1] at ho2
  refine ⟨⟨t+1,by rw [pW hlt (by omega)],by omega,⟨?_,tS hr.own hr.ext g2 hB,fun x hx=>hr.keys x ?_⟩⟩,?_⟩
  ·have:L++((Bq.take (t+1)++A.drop (t+1))++(M++((A.take (t+1)++Bq.drop (t+1))++S)))=(L++Bq.take t)++(Bq[t]'(by omega))::((A.drop (t+1)++(M++A.take t))++(A[t]'(by omega))::(Bq.drop (t+1)++S)):=by
    rw [show Bq.take (t+1)=Bq.take t++[Bq[t]'(by omega)] from (List.take_append_getElem (by omega)).symm,show A.take (t+1)=A.take t++[A[t]'(by omega)] from (List.take_append_getElem (by omega)).symm]
    simp only [List.append_assoc,List.cons_append,List.nil_append]
   rw [this];exact ho2
  ·rw [show Bq.take (t+1)=Bq.take t++[Bq[t]'(by omega)] from (List.take_append_getElem (by omega)).symm,show A.take (t+1)=A.take t++[A[t]'(by omega)] from (List.take_append_getElem (by omega)).symm] at hx
   simp only [List.mem_append,List.mem_cons,List.not_mem_nil,or_false] at hx ⊢
   rcases hx with h | ((h | h) | h) | h | ((h | h) | h) | h <;> simp [h]
  ·rw [pW hlt (by omega)];simp [intOf];omega
 ·have hge:t=k:=by have:=of_decide_eq_false hge;omega
  subst hge
  rw [List.take_of_length_le (by omega),List.take_of_length_le (by omega),List.drop_of_length_le (by omega),List.drop_of_length_le (by omega)] at hr
  exact h w1 (by simpa using hr)
theorem c_rotate{w0:World}{B:Nat}{p:OA}{n c:Nat}{f:Fn}{fx fc:Array Value}(hB:w0.heap.size≤B)(hm:n≤1000000000000){L U V S:List Pr}{a m b:Nat}
  (hw:Rw w0 B p n c w (L++(U++(V++S)))) (ha:a=L.length) (hmm:m=L.length+U.length) (hb:b=L.length+U.length+V.length) (hU:0 < U.length) (hV:0 < V.length)
  (h:∀w',Rw w0 B p n c w' (L++(V++(U++S)))→R (.returned (.tuple #[])) w') :
  Calls prog 208 #[.slice p n c,.int .i64 (a:Nat),.int .i64 (m:Nat),.int .i64 (b:Nat),.func f fx fc] w R:=by
 refine sh208_ok ?_
 unfold sh208
 have hlen:=hw.len
 simp only [List.length_append] at hlen
 refine ⟨fun vs w'=>∃(l u v s:List Pr),vs=[.int .i64 (u.length:Nat),.int .i64 (v.length:Nat)]∧Rw w0 B p n c w' (l++(u++(v++s)))∧0 < u.length∧0 < v.length∧m=l.length+u.length∧l++(v++(u++s))=L++(V++(U++S)),
  fun vs _=>(intOf (vs.getD 0 undef)).toNat+(intOf (vs.getD 1 undef)).toNat,⟨L,U,V,S,?_,hw,hU,hV,hmm,rfl⟩,?_⟩
 ·rw [qB (by omega) (by omega),qB (by omega) (by omega),show (m:Int) - (a:Int)=(U.length:Int) by omega,show (b:Int) - (m:Int)=(V.length:Int) by omega]
 rintro i j _ w1 ⟨l,u,v,s,hv,hr,hu,hvv,hml,hfin⟩
 simp only [List.cons.injEq,Value.int.injEq,true_and,and_true] at hv
 obtain ⟨rfl,rfl⟩:=hv
 have hlen1:=hr.len
 simp only [List.length_append] at hlen1
 have e1:IntKind.wrap .i64 ((m:Int) - (u.length:Int))=((m - u.length:Nat):Int):=by rw [qB (by omega) (by omega)];omega
 refine pO (fun hne=>?_) fun heq=>?_
 ·have hne:u.length≠v.length:=by intro e;rw [e] at hne;simp at hne
  refine pO (fun hgt=>?_) fun hle=>?_
  ·have hgt:v.length < u.length:=by have:=of_decide_eq_true hgt;omega
   rw [e1]
   have hsp:l++(u++(v++s))=l++(u.take v.length++(u.drop v.length++(v++s))):=by rw [←List.append_assoc (u.take _),List.take_append_drop]
   rw [hsp] at hr
   refine pP call210 (zV hB hm hr (k:=v.length) (by simp;omega) rfl (by omega) (by simp;omega) fun w2 hr2=>pN ⟨rfl,⟨l++v,u.drop v.length,u.take v.length,s,?_,?_,?_,?_,?_,?_⟩,?_⟩)
   ·rw [qB (by omega) (by omega),List.length_drop,List.length_take,show ((u.length:Int) - (v.length:Int))=((u.length - v.length:Nat):Int) by omega,show min v.length u.length=v.length by omega]
   ·simpa using hr2
   ·simp;omega
   ·simp;omega
   ·simp;omega
   ·rw [←hfin];simp only [List.append_assoc];rw [←List.append_assoc (u.take _) (u.drop _),List.take_append_drop]
   ·rw [qB (by omega) (by omega)];simp [intOf];omega
  ·have hle:u.length < v.length:=by have:=of_decide_eq_false hle;omega
   have e2:IntKind.wrap .i64 (IntKind.wrap .i64 ((m:Int)+(v.length:Int)) - (u.length:Int))=((m+v.length - u.length:Nat):Int):=by
    rw [qB (x:=(m:Int)+(v.length:Int)) (by omega) (by omega),qB (by omega) (by omega)];omega
   rw [e1,e2]
   have hsp:l++(u++(v++s))=l++(u++(v.take (v.length - u.length)++(v.drop (v.length - u.length)++s))):=by rw [←List.append_assoc (v.take _),List.take_append_drop]
   rw [hsp] at hr
   refine pP call210 (zV hB hm hr (k:=u.length) rfl (by simp;omega) (by omega) (by simp;omega) fun w2 hr2=>pN ⟨rfl,⟨l,v.drop (v.length - u.length),v.take (v.length - u.length),u++s,?_,?_,?_,?_,?_,?_⟩,?_⟩)
   ·rw [qB (by omega) (by omega),List.length_drop,List.length_take,show ((v.length:Int) - (u.length:Int))=((v.length - u.length:Nat):Int) by omega,show min (v.length - u.length) v.length=v.length - u.length by omega,show v.length - (v.length - u.length)=u.length by omega]
   ·exact hr2
   ·simp;omega
   ·simp;omega
   ·simp;omega
   ·rw [←hfin,←List.append_assoc (v.take _) (v.drop _),List.take_append_drop]
   ·rw [qB (by omega) (by omega)];simp [intOf];omega
 ·have heq:u.length=v.length:=by simp at heq;omega
  rw [e1]
  have hsp:l++(u++(v++s))=l++(u++([]++(v++s))):=rfl
  rw [hsp] at hr
  refine pP call210 (zV hB hm hr (k:=u.length) rfl heq.symm (by omega) (by simp;omega) fun w2 hr2=>pN ⟨rfl,h w2 ?_⟩)
  rw [←hfin];exact hr2
theorem aFf{l:List Pr}(h:0 < l.length):∃u z,l=u++[z]:=by
 have hne:l≠[]:=by intro e;subst e;simp at h
 exact ⟨l.dropLast,l.getLast hne,(List.dropLast_concat_getLast hne).symm⟩
theorem aDo{o:Int}{w0:World}{B:Nat}{p:OA}{n c:Nat}{f:Fn}{fx fc:Array Value}(hB:w0.heap.size≤B)(hm:n≤1000000000000)(hcmp:Cmp o w0 f fx fc)(hO:isO o=true){L X S:List Pr}{a b:Nat}
  (hw:Rw w0 B p n c w (L++(X++S))) (ha:a=L.length) (hb:b=L.length+X.length)
  (h:∀w' X',Srt o X'→Stab X' X→Rw w0 B p n c w' (L++(X'++S))→R (.returned (.tuple #[])) w') :
  Calls prog 192 #[.slice p n c,.int .i64 (a:Nat),.int .i64 (b:Nat),.func f fx fc] w R:=by
 refine sh192_ok ?_
 unfold sh192
 have hlen:=hw.len
 simp only [List.length_append] at hlen
 refine ⟨fun vs w'=>∃(i:Nat) (Xp Y M:List Pr),vs=[.int .i64 i]∧X=Xp++Y∧Srt o M∧Stab M Xp∧M.length=Xp.length∧Rw w0 B p n c w' (L++(M++(Y++S)))∧((i=a+Xp.length∧0 < Xp.length)∨(X=[]∧i=a+1)),fun vs _=>n+2 - (intOf (vs.getD 0 undef)).toNat,?_,?_⟩
 ·have e:IntKind.wrap .i64 ((a:Int)+1)=((a+1:Nat):Int):=by rw [qB (by omega) (by omega)];omega
  rw [e]
  cases X with
  | nil=>exact ⟨a+1,[],[],[],rfl,rfl,List.Pairwise.nil,Stab.refl _,rfl,hw,.inr ⟨rfl,rfl⟩⟩
  | cons x xs=>exact ⟨a+1,[x],xs,[x],rfl,rfl,List.pairwise_singleton _ _,Stab.refl _,rfl,hw,.inl ⟨rfl,by simp⟩⟩
 rintro i' _ w1 ⟨i,Xp,Y,M,hv,hX,hsM,hstM,hMl,hr,hi⟩
 simp only [List.cons.injEq,Value.int.injEq,true_and,and_true] at hv
 subst hv
 have hXl:X.length=Xp.length+Y.length:=by rw [hX,List.length_append]
 refine pO (fun hlt=>?_) fun hge=>?_
 rotate_left
 ·have hge:b≤i:=by have:=of_decide_eq_false hge;omega
  have hY:Y=[]:=by
   rcases hi with ⟨h1,h2⟩ | ⟨h1,h2⟩
   ·exact List.eq_nil_of_length_eq_zero (by omega)
   ·rw [h1] at hXl;exact List.eq_nil_of_length_eq_zero (by simp at hXl;omega)
  subst hY
  rw [List.append_nil] at hX
  subst hX
  exact h w1 M hsM hstM (by simpa using hr)
 have hlt:i < b:=by have:=of_decide_eq_true hlt;omega
 have hia:i=a+Xp.length∧0 < Xp.length:=by
  rcases hi with h1 | ⟨h1,h2⟩
  ·exact h1
  ·rw [h1] at hb;simp at hb;omega
 obtain ⟨hia,hpos⟩:=hia
 obtain ⟨x,Y',rfl⟩:∃x Y',Y=x::Y':=by
  cases Y with
  | nil=>simp at hXl;omega
  | cons x Y'=>exact ⟨x,Y',rfl⟩
 have hxI:In x.1:=hr.keys x (by simp)
 have ei:IntKind.wrap .i64 ((i:Int)+1)=((i+1:Nat):Int):=pW (n:=n) (by omega) (by omega)
 rw [ei]
 -- behind a round
 have hK:∀{w':World} {M1 M2:List Pr},M=M1++M2→(∀y∈M2,qC o x.1 < qC o y.1)→(∀y∈M1,qC o y.1≤qC o x.1)→Rw w0 B p n c w' (L++(M1++x::(M2++(Y'++S))))→
   (∃(i2:Nat) (Xp Y M:List Pr),[Value.int .i64 ((i+1:Nat):Int)]=[.int .i64 (i2:Nat)]∧X=Xp++Y∧Srt o M∧Stab M Xp∧M.length=Xp.length∧Rw w0 B p n c w' (L++(M++(Y++S)))∧((i2=a+Xp.length∧0 < Xp.length)∨(X=[]∧i2=a+1)))∧
    n+2 - (intOf (([Value.int .i64 ((i+1:Nat):Int)]:List Value).getD 0 undef)).toNat < n+2 - (intOf (([Value.int .i64 (i:Int)]:List Value).getD 0 undef)).toNat:=by
  intro w' M1 M2 hM h2 h1 hrw
  have hs:=hsM
  rw [hM,uN] at hs
  refine ⟨⟨i+1,Xp++[x],Y',M1++x::M2,rfl,by rw [hX];simp,?_,?_,?_,?_,.inl ⟨?_,?_⟩⟩,?_⟩
  ·rw [uN]
   refine ⟨hs.1,List.Pairwise.cons (fun y hy=>by have:=h2 y hy;omega) hs.2.1,fun y hy z hz=>?_⟩
   rcases List.mem_cons.1 hz with rfl | hz
   ·exact h1 y hy
   ·exact hs.2.2 y hy z hz
  ·have e1:Stab (M1++([x]++M2)) (M1++(M2++[x])):=(Stab.refl M1).app (zX fun y hy z hz=>by simp at hz;subst hz;exact h2 y hy)
   have e2:Stab (M1++(M2++[x])) (Xp++[x]):=by rw [←List.append_assoc,←hM];exact hstM.app (Stab.refl _)
   exact e1.trans e2
  ·have:=congrArg List.length hM
   simp only [List.length_append,List.length_cons,List.length_nil] at this ⊢
   omega
  ·rw [List.append_assoc,List.cons_append];exact hrw
  ·simp;omega
  ·simp
  ·simp [intOf];omega
 refine ⟨fun vs w'=>∃M1 M2:List Pr,vs=[.int .i64 (a+M1.length:Nat)]∧M=M1++M2∧(∀y∈M2,qC o x.1 < qC o y.1)∧Rw w0 B p n c w' (L++(M1++x::(M2++(Y'++S)))),fun vs _=>(intOf (vs.getD 0 undef)).toNat,
  ⟨M,[],by rw [hMl,hia],by simp,by simp,by simpa using hr⟩,?_⟩
 rintro j _ w2 ⟨M1,M2,hv,hM,h2,hr2⟩
 simp only [List.cons.injEq,Value.int.injEq,true_and,and_true] at hv
 subst hv
 have hlen2:=hr2.len
 simp only [List.length_append,List.length_cons] at hlen2
 have hsM':=hsM
 rw [hM,uN] at hsM'
 refine ⟨⟨fun w'=>Ext w2 w',pT _,?_⟩⟩
 refine pO (fun hgt=>?_) fun hle=>?_
 rotate_left
 ·have h0:M1=[]:=List.eq_nil_of_length_eq_zero (by have:=of_decide_eq_false hle;omega)
  have hr3:Rw w0 B p n c w2.drew (L++(M1++x::(M2++(Y'++S)))):=⟨wP hr2.own (pT _) (Nat.le_refl _),hr2.ext.drew,hr2.keys⟩
  exact hK hM h2 (by rw [h0];intro y hy;cases hy) hr3
 have hgt:0 < M1.length:=by have:=of_decide_eq_true hgt;omega
 obtain ⟨u,z,rfl⟩:=aFf hgt
 simp only [List.length_append,List.length_cons,List.length_nil] at hlen2
 have ed:L++((u++[z])++x::(M2++(Y'++S)))=(L++u)++z::([]++x::(M2++(Y'++S))):=by simp
 rw [ed] at hr2
 have ej:IntKind.wrap .i64 (((a+(u++[z]).length:Nat):Int) - 1)=((a+u.length:Nat):Int):=by
  rw [List.length_append,List.length_singleton,qB (by omega) (by omega)];omega
 rw [ej]
 have ej':a+(u++[z]).length=a+u.length+1:=by rw [List.length_append,List.length_singleton];omega
 rw [ej']
 have hln:=hr2.len
 have g1:((L++u)++z::([]++x::(M2++(Y'++S))))[a+u.length]'(by rw [hln];omega)=z:=by
  rw [List.getElem_append_right (by simp;omega)];simp [ha]
 have g2:((L++u)++z::([]++x::(M2++(Y'++S))))[a+u.length+1]'(by rw [hln];omega)=x:=by
  rw [List.getElem_append_right (by simp;omega)];simp [ha,show L.length+u.length+1 - (L.length+u.length)=1 by omega]
 have hC:∀w',Ext w2 w'→Cs w' p (prs ((L++u)++z::([]++x::(M2++(Y'++S))))):=fun w' e=>(rB hr2.own).ext e
 have hzI:In z.1:=hr2.keys z (by simp)
 refine qZ hC (pR _) hln (k:=a+u.length+1) rfl (by omega) fun q r1 r2=>⟨_,r1,_,r2,?_⟩
 refine qZ hC (pR _) hln (k:=a+u.length) rfl (by omega) fun q r3 r4=>⟨_,r3,_,r4,?_⟩
 rw [g1,g2]
 refine hcmp x z hxI hzI w2.drew hr2.ext.drew _ fun w3 e3=>pN ⟨_,rfl,?_⟩
 have hr3:Rw w0 B p n c w3 ((L++u)++z::([]++x::(M2++(Y'++S)))):=⟨wP hr2.own ((pT _).trans e3) (Nat.le_refl _),hr2.ext.trans ((pT _).trans e3),hr2.keys⟩
 refine pO (fun hc=>?_) fun hc=>?_
 ·have hc:qC o x.1 < qC o z.1:=(wY hO).1 (of_decide_eq_true hc)
  refine aDw hr3.own (x:=a+u.length+1) (y:=a+u.length) rfl rfl (by omega) (by omega) fun w4 ho4 g4=>?_
  rw [(yG (x:=a+u.length) (y:=a+u.length+1) (by simp;omega) (by simp;omega) (by rw [hln];omega) (by rw [hln];omega)).2] at ho4
  refine ⟨⟨u,z::M2,rfl,by rw [hM];simp,fun y hy=>?_,⟨?_,tS hr3.own hr3.ext g4 hB,fun y hy=>hr3.keys y ?_⟩⟩,?_⟩
  ·rcases List.mem_cons.1 hy with rfl | hy
   ·exact hc
   ·exact h2 y hy
  ·simpa using ho4
  ·simp only [List.mem_append,List.mem_cons,List.not_mem_nil,false_or] at hy ⊢
   rcases hy with h | h | h | (h | h) | h | h <;> simp [h]
  ·simp [intOf];omega
 ·have hc:qC o z.1≤qC o x.1:=by
   have:=of_decide_eq_false hc
   rw [wY hO] at this;omega
  refine hK hM h2 (fun y hy=>?_) (by rw [ed];exact hr3)
  rcases List.mem_append.1 hy with h | h
  ·have:=(uN.1 hsM'.1).2.2 y h z (by simp);omega
  ·simp at h;subst h;exact hc
end Go.Proofs.YtmdboekndjlmgaaGreat
