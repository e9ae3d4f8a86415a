/-
  The plain laws of layer 5: what the document says, and what the program does, are the same; and the algebra.
-/
import Derived.Test.YtmdboekndjlmgaaGreatZ30
set_option maxRecDepth 100000
set_option maxHeartbeats 6400000
namespace Go.Proofs.YtmdboekndjlmgaaGreat
open Go Go.Sh Go.RowKit Tryz
variable {w:World}{R:EW}
theorem aGm{o:Int}:∀{l:List Pr},(l.map (·.1)).Pairwise (ltO o)→∀{k v:Int},(k,v)∈l→l.filter (fun x=>x.1==k)=[(k,v)]
 | [],_,_,_,h=>by cases h
 | x::l,hp,k,v,h=>by
  simp only [List.map_cons,List.pairwise_cons,List.mem_map,forall_exists_index,and_imp,forall_apply_eq_imp_iff₂] at hp
  rcases List.mem_cons.1 h with e | h
  ·subst e
   rw [List.filter_cons_of_pos (by simp),wC fun y hy=>?_]
   have:=vW (hp.1 y hy)
   simp at this ⊢
   exact fun e=>this e.symm
  ·rw [List.filter_cons_of_neg ?_,aGm hp.2 h]
   have:=vW (hp.1 _ h)
   simpa using this
theorem aGw{o:Int}{l:List Pr}(hm:mayR o l=true)(k:Int):(l.filter (fun x=>x.1==k)).map (·.2)=(lk o l k).toList:=by
 cases h:lk o l k with
 | none=>rw [wC fun y hy=>by simpa using (aIk hm).1 h y hy];rfl
 | some v=>rw [aGm (sG.1 hm).2 ((tL hm).1 h)];rfl
theorem fm_lk{o:Int}{f:Pr→Option Pr}(hf:∀x y,f x=some y→y.1=x.1){l:List Pr}(h:mayR o l=true)(k:Int):lk o (l.filterMap f) k=(lk o l k).bind fun v=>(f (k,v)).map (·.2):=by
 have hm:=fm_may (o:=o) hf h
 have key:∀v,lk o (l.filterMap f) k=some v→((lk o l k).bind fun v=>(f (k,v)).map (·.2))=some v:=fun v hv=>by
  obtain ⟨x,hx,e⟩:=List.mem_filterMap.1 ((tL hm).1 hv)
  have hk:=hf _ _ e
  have:(k,x.2)∈l:=by rw [show (k,x.2)=x from by rw [show k=x.1 from hk]];exact hx
  rw [(tL h).2 this,Option.bind_some,show (k,x.2)=x from by rw [show k=x.1 from hk],e];rfl
 cases hv:lk o (l.filterMap f) k with
 | some v=>exact (key v hv).symm
 | none=>
  cases hw:(lk o l k).bind fun v=>(f (k,v)).map (·.2) with
  | none=>rfl
  | some v=>
   exfalso
   cases hl:lk o l k with
   | none=>rw [hl] at hw;cases hw
   | some x=>
    rw [hl,Option.bind_some] at hw
    cases hfx:f (k,x) with
    | none=>rw [hfx] at hw;cases hw
    | some y=>
     have:y∈l.filterMap f:=List.mem_filterMap.2 ⟨_,(tL h).1 hl,hfx⟩
     have hy:=hf _ _ hfx
     have:=(tL hm (k:=k) (v:=y.2)).2 (by rw [show (k,y.2)=y from by rw [show k=y.1 from hy.symm]];exact this)
     rw [hv] at this;cases this
theorem aGv{o p:Int}{b:List Pr}(x y:Pr)(h:meetF o p b x=some y):y.1=x.1:=by
 unfold meetF at h
 split at h
 ·cases h;rfl
 ·cases h
theorem aJm{o p:Int}{want:Ke→Bool}{a b:List Pr}(ha:InP a)(hb:InP b):InP (someL o p want a b):=
 inv_outL fun e he=>mg_in o a b ha hb e he
theorem both3{x y z:Bool}(h:(x&&y&&z)=true):x=true∧y=true∧z=true:=by
 cases x <;> cases y <;> cases z <;> simp at h ⊢
section
variable {o p:Int} {a b:List Pr}
theorem un_eq(hIa:InP a)(hIb:InP b):setL o p wU a b=r5un o p a b:=by
 unfold setL r5un
 cases hb:(mayR o a&&mayR o b&&may p)
 ·rfl
 obtain ⟨h1,h2,h3⟩:=both3 hb
 rw [cond_true,cond_true]
 have hI:InP (a++b):=fun x hx=>by
  rcases List.mem_append.1 hx with hx | hx
  ·exact hIa x hx
  ·exact hIb x hx
 refine aAb (sZ h1 h2 hIa hIb) (sO (xL h1) h3 hI).1 fun k=>?_
 rw [vP h1 h2 hIa hIb,xO (xL h1) h3 hI,List.filter_append,List.map_append,aGw h1,aGw h2]
 cases lk o a k <;> cases lk o b k <;> simp [wantK,wU,addO]
theorem get_of{l:List Pr}{k v:Int}(h:lk o l k=some v):hasR o l k=true∧getR o l k=v:=by
 unfold lk at h
 cases hh:hasR o l k
 ·rw [hh] at h;cases h
 ·rw [hh] at h;exact ⟨rfl,by simpa using h⟩
theorem has_of{l:List Pr}{k:Int}(h:lk o l k=none):hasR o l k=false:=by
 unfold lk at h
 cases hh:hasR o l k
 ·rfl
 ·rw [hh] at h;cases h
theorem me_eq(hIa:InP a)(hIb:InP b):setL o p wM a b=r5me o p a b:=by
 unfold setL r5me
 cases hb:(mayR o a&&mayR o b&&may p)
 ·rfl
 obtain ⟨h1,h2,h3⟩:=both3 hb
 rw [cond_true,cond_true]
 refine aAb (sZ h1 h2 hIa hIb) (fm_may aGv h1) fun k=>?_
 rw [vP h1 h2 hIa hIb,fm_lk aGv h1]
 cases hA:lk o a k <;> cases hB:lk o b k
 ·simp [wantK]
 ·simp [wantK,wM]
 ·simp [wantK,wM,meetF,has_of hB]
 ·simp [wantK,wM,meetF,get_of hB]
theorem le_eq(hIa:InP a)(hIb:InP b):setL o 1 wL a b=r5le o a b:=by
 unfold setL r5le
 rw [may1,Bool.and_true]
 cases hb:(mayR o a&&mayR o b)
 ·rfl
 obtain ⟨h1,h2⟩:mayR o a=true∧mayR o b=true:=by simpa using hb
 rw [cond_true,cond_true]
 refine aAb (sZ h1 h2 hIa hIb) (fm_may lessF_key h1) fun k=>?_
 rw [vP h1 h2 hIa hIb,fm_lk lessF_key h1]
 cases hA:lk o a k <;> cases hB:lk o b k
 ·simp [wantK]
 ·simp [wantK,wL]
 ·simp [wantK,wL,lessF,has_of hB]
 ·simp [wantK,wL,lessF,get_of hB]
theorem ap_eq(hIa:InP a)(hIb:InP b):setL o 1 wA a b=r5ap o a b:=by
 unfold setL r5ap
 rw [may1,Bool.and_true]
 cases hb:(mayR o a&&mayR o b)
 ·rfl
 obtain ⟨h1,h2⟩:mayR o a=true∧mayR o b=true:=by simpa using hb
 rw [cond_true,cond_true,←un_eq (r5le_in hIa) (r5le_in hIb),←le_eq hIa hIb,←le_eq hIb hIa]
 have e1:setL o 1 wL a b=someL o 1 wL a b:=by unfold setL;rw [h1,h2,may1];rfl
 have e2:setL o 1 wL b a=someL o 1 wL b a:=by unfold setL;rw [h1,h2,may1];rfl
 rw [e1,e2]
 have m1:=sZ (p:=1) (want:=wL) h1 h2 hIa hIb
 have m2:=sZ (p:=1) (want:=wL) h2 h1 hIb hIa
 have e3:setL o 1 wU (someL o 1 wL a b) (someL o 1 wL b a)=someL o 1 wU (someL o 1 wL a b) (someL o 1 wL b a):=by unfold setL;rw [m1,m2,may1];rfl
 rw [e3]
 have i1:=aJm (o:=o) (p:=1) (want:=wL) hIa hIb
 have i2:=aJm (o:=o) (p:=1) (want:=wL) hIb hIa
 refine aAb (sZ h1 h2 hIa hIb) (sZ m1 m2 i1 i2) fun k=>?_
 rw [vP h1 h2 hIa hIb,vP m1 m2 i1 i2,vP h1 h2 hIa hIb,vP h2 h1 hIb hIa]
 cases hA:lk o a k <;> cases hB:lk o b k <;> simp [wantK,wL,wA,wU]
theorem aEp{lo hi:Int}(x y:Pr)(h:rangeF o lo hi x=some y):y.1=x.1:=by
 unfold rangeF at h
 split at h
 ·cases h;rfl
 ·cases h
theorem range_b{k lo hi:Int}:(decide (cmpI o k lo≥0)&&decide (cmpI o k hi≤0))=(!(decide (cmpI o k lo < 0))&&!(decide (cmpI o hi k < 0))):=by
 have h1:decide (cmpI o k lo≥0)=!(decide (cmpI o k lo < 0)):=by
  by_cases h:cmpI o k lo < 0
  ·simp [h]
  ·simp [h];omega
 have h2:decide (cmpI o k hi≤0)=!(decide (cmpI o hi k < 0)):=by
  by_cases h:cmpI o hi k < 0
  ·have:=aFq h
   simp [h];omega
  ·have:¬0 < cmpI o k hi:=fun g=>h (xZ g)
   simp [h];omega
 rw [h1,h2]
theorem rg_eq{lo hi:Int}(hIa:InP a):setL o 1 (wR o lo hi) a []=r5rg o a lo hi∧setE o 1 a []=cond (mayR o a) 0 2:=by
 have hIb:InP []:=fun x hx=>by cases hx
 cases h1:mayR o a
 ·exact ⟨by unfold setL r5rg;rw [h1];rfl,by unfold setE;rw [h1];rfl⟩
 have h2:mayR o []=true:=tJ (xL h1)
 refine ⟨?_,by unfold setE;rw [h1,h2,may1];rfl⟩
 unfold setL r5rg
 rw [h1,h2,may1]
 simp only [Bool.and_self,cond_true]
 refine aAb (sZ h1 h2 hIa hIb) (fm_may aEp h1) fun k=>?_
 rw [vP h1 h2 hIa hIb,fm_lk aEp h1,lk_nil]
 cases hA:lk o a k with
 | none=>rfl
 | some v=>
  rw [Option.bind_some]
  unfold wantK rangeF wR
  simp only
  rw [range_b]
  split <;> rfl
theorem pos_iff{key:Int}{l:List Pr}(hm:mayR o l=true){i:Nat}(hi:i < l.length):cmpI o l[i].1 key < 0↔i < posR o l key:=by
 unfold posR;rw [hm,cond_true]
 constructor
 ·intro h
  rcases Nat.lt_or_ge i (idxR o l key) with g | g
  ·exact g
  ·exfalso
   have hlt:idxR o l key < l.length:=by omega
   have h0:=aDu hlt
   rcases Nat.eq_or_lt_of_le g with e | g
   ·simp only [←e] at h;omega
   ·have:=sX (vU (tK hm) g hi) h;omega
 ·intro h;exact (aIo h).2
theorem aMe{α:Type}{P:α→Bool}{l:List α}{m:Nat}(h:∀i (hi:i < l.length),P l[i]=true↔i < m):l.filter P=l.take m:=by
 conv=>lhs;rw [←List.take_append_drop m l]
 rw [List.filter_append,List.filter_eq_self.2 fun x hx=>?_,List.filter_eq_nil_iff.2 fun x hx=>?_,List.append_nil]
 ·obtain ⟨i,hi,e⟩:=List.getElem_of_mem hx
  rw [List.length_drop] at hi
  rw [←e,List.getElem_drop,h _ (by omega)];omega
 ·obtain ⟨i,hi,e⟩:=List.getElem_of_mem hx
  rw [List.length_take] at hi
  rw [←e,List.getElem_take,h _ (by omega)];omega
theorem aKn{α:Type}{P:α→Bool}{l:List α}{m:Nat}(h:∀i (hi:i < l.length),P l[i]=true↔m≤i):l.filter P=l.drop m:=by
 conv=>lhs;rw [←List.take_append_drop m l]
 rw [List.filter_append,List.filter_eq_nil_iff.2 fun x hx=>?_,List.filter_eq_self.2 fun x hx=>?_,List.nil_append]
 ·obtain ⟨i,hi,e⟩:=List.getElem_of_mem hx
  rw [List.length_drop] at hi
  rw [←e,List.getElem_drop,h _ (by omega)];omega
 ·obtain ⟨i,hi,e⟩:=List.getElem_of_mem hx
  rw [List.length_take] at hi
  rw [←e,List.getElem_take,h _ (by omega)];omega
theorem fm_filter{P:Pr→Bool}{l:List Pr}:l.filterMap (fun x=>if P x=true then some x else none)=l.filter P:=by
 induction l with
 | nil=>rfl
 | cons x l ih=>
  cases h:P x
  ·rw [List.filterMap_cons_none (by simp [h]),List.filter_cons_of_neg (by simp [h]),ih]
  ·rw [List.filterMap_cons_some (b:=x) (by simp [h]),List.filter_cons_of_pos h,ih]
theorem ca_eq{key:Int}:cutA o a key=r5ca o a key:=by
 unfold cutA r5ca
 cases h:mayR o a
 ·rfl
 ·exact (fm_filter.trans (aMe fun i hi=>by rw [decide_eq_true_eq];exact pos_iff h hi)).symm
theorem cb_eq{key:Int}(hI:InP a)(hk:In key):cutB o a key=r5cb o a key:=by
 unfold cutB r5cb
 cases h:mayR o a
 ·rfl
 ·refine (fm_filter.trans (aKn fun i hi=>?_)).symm
  rw [decide_eq_true_eq]
  have:=aKj h hI hk hi
  cases hh:hasR o a key
  ·rw [hh] at this
   simp only [Bool.false_eq_true,false_and,or_false] at this
   simp;omega
  ·rw [hh] at this
   simp only [true_and] at this
   simp;omega
end
section
variable {o p:Int} {x y z:List Pr}
end
def yU(k a b:Int)(f:Bool)(l:List Pr):List Pr:=cond (qJ k a b) (l.filter fun x=>sV k a b x !=f) []
abbrev Rows:=List (List Pr)
def qM(L:Rows)(n:Int):Bool:=decide (0≤n∧n < L.length)
def atL(L:Rows)(n:Int):List Pr:=L.getD n.toNat []
structure Rep where
 err:Int
 is:Bool
 key:Int
 val:Int
 n:Int
 new:List Int
 pairs:List Pr
def Rep.zero:Rep:=⟨0,false,0,0,0,[],[]⟩
def mkN(d:Int):Nat:=if d=22 then 2 else if d=1∨d=2∨(8≤d∧d≤15)∨d=18 then 1 else 0
def kA(d:Int):Bool:=decide (1≤d∧d≤22∧d≠8)
def kB(d:Int):Bool:=decide (9≤d∧d≤12)
def kS(d:Int):Bool:=decide (18≤d∧d≤20)
def rT(o:Int)(L:Rows)(x:POp):Int:=
 if mayO x=false then 2
 else if (kA x.op&&!qM L x.a)=true∨(kB x.op&&!qM L x.b)=true then 3
 else if 4096 < L.length+mkN x.op then 4
 else if x.op=17∧(x.n < 0∨((atL L x.a).length:Int)≤x.n) then 320
 else if kS x.op=true∧cmpI o x.hi x.lo < 0 then 330
 else 0
def sT(r:Rep)(L ls:Rows):Rep × Rows:=({ r with new:=(List.range ls.length).map fun i=>((L.length+i:Nat):Int) },L++ls)
def countP(L:Rows)(l:List Pr):Rep × Rows:=sT { Rep.zero with n:=l.length } L [l]
def qG(x:Pr)(is:Bool):Rep:=if is then { Rep.zero with is:=true,key:=x.1,val:=x.2 } else Rep.zero
def wasP(o:Int)(a:List Pr)(key:Int):Rep:={ Rep.zero with is:=hasR o a key,val:=getR o a key }
def srtP(o p:Int)(l:List Pr):List Pr:=cond (isO o&&may p) (sC o p l) []
def rngP(o:Int)(a:List Pr)(lo hi:Int):List Pr:=setL o 1 (wR o lo hi) a []
def actP(o:Int)(L:Rows)(x:POp)(a c:List Pr):Rep × Rows:=
 match x.op.toNat with
 | 1=>sT (wasP o a x.key) L [putR o x.pol a (x.key,x.val)]
 | 2=>sT (wasP o a x.key) L [rY o a x.key]
 | 3=>(qG (x.key,getR o a x.key) (hasR o a x.key),L)
 | 4=>(qG (a.getD 0 (0,0)) (decide (0 < a.length)),L)
 | 5=>(qG (a.getD (a.length - 1) (0,0)) (decide (0 < a.length)),L)
 | 6=>(qG (tV o a x.key) (rS o a x.key),L)
 | 7=>(qG (vY o a x.key) (sM o a x.key),L)
 | 8=>countP L (srtP o x.pol x.pairs)
 | 9=>countP L (setL o x.pol wU a c)
 | 10=>countP L (setL o x.pol wM a c)
 | 11=>countP L (setL o 1 wL a c)
 | 12=>countP L (setL o 1 wA a c)
 | 13=>countP L (yU x.pk x.pa x.pb x.pnot a)
 | 14=>countP L (setL o x.pol wU a (srtP o x.pol x.pairs))
 | 15=>countP L (setL o 1 wL a (srtP o 1 (x.keys.map fun k=>(k,0))))
 | 16=>({ Rep.zero with is:=hasR o a x.key,n:=posR o a x.key },L)
 | 17=>(qG (a.getD x.n.toNat (0,0)) true,L)
 | 18=>countP L (rngP o a x.lo x.hi)
 | 19=>({ Rep.zero with n:=(rngP o a x.lo x.hi).length },L)
 | 20=>({ Rep.zero with val:=sumL ((rngP o a x.lo x.hi).map (·.2)) },L)
 | 21=>({ Rep.zero with n:=a.length,pairs:=a },L)
 | _=>sT (wasP o a x.key) L [cutA o a x.key,cutB o a x.key]
def doP(o:Int)(L:Rows)(x:POp):Rep × Rows:=
 if rT o L x=0 then actP o L x (atL L x.a) (atL L x.b) else ({ Rep.zero with err:=rT o L x },L)
def runP(o:Int):Rows→List POp→List Rep
 | _,[]=>[]
 | L,x::xs=>(doP o L x).1::runP o (doP o L x).2 xs
structure OkL (o:Int) (K:List Int) (L:Rows):Prop where
 may:∀r∈L,mayR o r=true
 inp:∀r∈L,InP r
 keys:∀r∈L,∀y∈r,y.1∈K
theorem aGt:∀{l K:List Int},l.Nodup→(∀x∈l,x∈K)→l.length≤K.length
 | [],_,_,_=>Nat.zero_le _
 | x::l,K,hn,h=>by
  have hn':=List.nodup_cons.1 hn
  have hx:x∈K:=h x (by simp)
  have:=aGt (l:=l) (K:=K.erase x) hn'.2 fun y hy=>(List.mem_erase_of_ne (show y≠x from fun e=>hn'.1 (by rw [←e];exact hy))).2 (h y (by simp [hy]))
  rw [List.length_erase_of_mem hx] at this
  have:=List.length_pos_of_mem hx
  simp only [List.length_cons]
  omega
theorem aPa{o:Int}{r:List Pr}(h:mayR o r=true):(r.map (·.1)).Nodup:=(sG.1 h).2.imp fun h=>vW h
theorem aAa{o:Int}{r:List Pr}{K:List Int}(h:mayR o r=true)(hk:∀y∈r,y.1∈K):r.length≤K.length:=by
 have:=aGt (aPa h) (K:=K) fun x hx=>by
  obtain ⟨y,hy,rfl⟩:=List.mem_map.1 hx
  exact hk y hy
 simpa using this
theorem OkL.at'{o:Int}{K:List Int}{L:Rows}(ho:isO o=true)(h:OkL o K L)(n:Int):mayR o (atL L n)=true∧InP (atL L n)∧∀y∈atL L n,y.1∈K:=by
 unfold atL
 rw [List.getD_eq_getElem?_getD]
 cases hg:L[n.toNat]? with
 | none=>exact ⟨tJ ho,(by intro x hx;cases hx),by intro y hy;cases hy⟩
 | some r=>
  have hr:=List.mem_of_getElem? hg
  exact ⟨h.may r hr,h.inp r hr,h.keys r hr⟩
theorem OkL.app{o:Int}{K K':List Int}{L ls:Rows}(h:OkL o K L)(hK:∀k∈K,k∈K')(hl:OkL o K' ls):OkL o K' (L++ls):=by
 refine ⟨fun r hr=>?_,fun r hr=>?_,fun r hr y hy=>?_⟩ <;> rcases List.mem_append.1 hr with hr | hr
 ·exact h.may r hr
 ·exact hl.may r hr
 ·exact h.inp r hr
 ·exact hl.inp r hr
 ·exact hK _ (h.keys r hr y hy)
 ·exact hl.keys r hr y hy
theorem OkL.one{o:Int}{K:List Int}{r:List Pr}(h1:mayR o r=true)(h2:InP r)(h3:∀y∈r,y.1∈K):OkL o K [r]:=by
 refine ⟨fun s hs=>?_,fun s hs=>?_,fun s hs y hy=>?_⟩ <;> obtain rfl:s=r:=by simpa using hs
 ·exact h1
 ·exact h2
 ·exact h3 y hy
theorem OkL.mono{o:Int}{K K':List Int}{L:Rows}(h:OkL o K L)(hK:∀k∈K,k∈K'):OkL o K' L:=⟨h.may,h.inp,fun r hr y hy=>hK _ (h.keys r hr y hy)⟩
theorem aHq{o:Int}{r s:List Pr}(h:mayR o r=true)(hs:s.Sublist r):mayR o s=true:=by
 rw [sG] at h ⊢
 exact ⟨h.1,h.2.sublist (hs.map _)⟩
theorem aHr{r s:List Pr}(h:InP r)(hs:s.Sublist r):InP s:=fun x hx=>h x (hs.subset hx)
theorem aLe{o p:Int}{want:Ke→Bool}{a b:List Pr}(ha:mayR o a=true)(hb:mayR o b=true)(hIa:InP a)(hIb:InP b):∀y∈someL o p want a b,(∃z∈a,z.1=y.1)∨∃z∈b,z.1=y.1:=fun y hy=>by
 unfold someL outL at hy
 obtain ⟨e,he,rfl⟩:=List.mem_map.1 hy
 have M:=(aLo ha hb hIa hIb).of e (List.mem_filter.1 he).1
 cases hA:e.inA with
 | true=>exact .inl ⟨_,M.yesA hA,rfl⟩
 | false=>
  have h1:=M.one
  rw [hA,Bool.false_or] at h1
  exact .inr ⟨_,M.yesB h1,rfl⟩
theorem setL_ok{o p:Int}{want:Ke→Bool}{a b:List Pr}{K:List Int}(ha:mayR o a=true)(hb:mayR o b=true)(hIa:InP a)(hIb:InP b)(hka:∀y∈a,y.1∈K)(hkb:∀y∈b,y.1∈K):OkL o K [setL o p want a b]:=by
 refine OkL.one ?_ (setL_in hIa hIb) ?_
 ·unfold setL
  rw [ha,hb]
  cases may p
  ·exact tJ (xL ha)
  ·exact sZ ha hb hIa hIb
 ·unfold setL
  rw [ha,hb]
  cases may p
  ·intro y hy;cases hy
  ·intro y hy
   rcases aLe ha hb hIa hIb y hy with ⟨z,hz,e⟩ | ⟨z,hz,e⟩
   ·rw [←e];exact hka z hz
   ·rw [←e];exact hkb z hz
theorem aBk{o p:Int}{l:List Pr}(ho:isO o=true)(hI:InP l):mayR o (srtP o p l)=true∧InP (srtP o p l)∧(∀y∈srtP o p l,y.1∈l.map (·.1))∧(srtP o p l).length≤l.length:=by
 unfold srtP
 rw [ho]
 cases hp:may p
 ·exact ⟨tJ ho,(by intro x hx;cases hx),(by intro y hy;cases hy),Nat.zero_le _⟩
 ·obtain ⟨h1,h2,h3⟩:=sO ho hp hI
  refine ⟨h1,h2,fun y hy=>?_,h3⟩
  obtain ⟨z,hz,e⟩:=sortL_keys ho hp hI y hy
  rw [←e];exact List.mem_map_of_mem hz
def newK(x:POp):List Int:=x.key::(x.pairs.map (·.1)++x.keys)
theorem act_ok{o:Int}{K:List Int}{L:Rows}{x:POp}{a c:List Pr}(ho:isO o=true)(h:OkL o K L)(hx:InO x)(ha:mayR o a=true)(hIa:InP a)(hka:∀y∈a,y.1∈K)(hc:mayR o c=true)(hIc:InP c)(hkc:∀y∈c,y.1∈K):
  OkL o (newK x++K) (actP o L x a c).2:=by
 have mono:∀k∈K,k∈newK x++K:=fun k hk=>List.mem_append_right _ hk
 have same:OkL o (newK x++K) L:=h.mono mono
 have ka:∀y∈a,y.1∈newK x++K:=fun y hy=>mono _ (hka y hy)
 have kc:∀y∈c,y.1∈newK x++K:=fun y hy=>mono _ (hkc y hy)
 have one:∀r l,mayR o l=true→InP l→(∀y∈l,y.1∈newK x++K)→OkL o (newK x++K) (sT r L [l]).2:=fun r l h1 h2 h3=>h.app mono (.one h1 h2 h3)
 have st:∀p want b,mayR o b=true→InP b→(∀y∈b,y.1∈newK x++K)→OkL o (newK x++K) (countP L (setL o p want a b)).2:=fun p want b h1 h2 h3=>h.app mono (setL_ok ha h1 hIa h2 ka h3)
 have sub:∀r l,l.Sublist a→OkL o (newK x++K) (sT r L [l]).2:=fun r l hs=>one r l (aHq ha hs) (aHr hIa hs) fun y hy=>ka y (hs.subset hy)
 have nilr:∀r,OkL o (newK x++K) (sT r L [[]]).2:=fun r=>one r [] (tJ ho) (by intro x hx;cases hx) (by intro y hy;cases hy)
 unfold actP
 split
 ·-- insert
  cases hp:may x.pol
  ·have:putR o x.pol a (x.key,x.val)=[]:=by unfold putR;rw [hp,Bool.and_false];rfl
   rw [this];exact nilr _
  ·refine one _ _ (aBo ha hp hIa hx.key) (aLk ha hp hIa ⟨hx.key,hx.val⟩) fun y hy=>?_
   rcases aIa ha hp y hy with e | hy
   ·rw [e];exact List.mem_append_left _ (by simp [newK])
   ·exact ka y hy
 ·refine one _ _ (aFn ha) (drop_in ha hIa) fun y hy=>ka y ?_
  rw [uK ha] at hy
  exact (List.mem_filter.1 hy).1
 ·exact same
 ·exact same
 ·exact same
 ·exact same
 ·exact same
 ·obtain ⟨h1,h2,h3,_⟩:=aBk (p:=x.pol) ho hx.pairs
  exact one _ _ h1 h2 fun y hy=>List.mem_append_left _ (by have:=h3 y hy;simp only [newK,List.mem_cons,List.mem_append];exact .inr (.inl this))
 ·exact st _ _ c hc hIc kc
 ·exact st _ _ c hc hIc kc
 ·exact st _ _ c hc hIc kc
 ·exact st _ _ c hc hIc kc
 ·unfold yU countP
  cases qJ x.pk x.pa x.pb
  ·exact nilr _
  ·exact sub _ _ (List.filter_sublist)
 ·obtain ⟨h1,h2,h3,_⟩:=aBk (p:=x.pol) ho hx.pairs
  exact st _ _ _ h1 h2 fun y hy=>List.mem_append_left _ (by have:=h3 y hy;simp only [newK,List.mem_cons,List.mem_append];exact .inr (.inl this))
 ·have hI:InP (x.keys.map fun k=>(k,0)):=fun y hy=>by
   obtain ⟨k,hk,rfl⟩:=List.mem_map.1 hy
   exact ⟨hx.keys k hk,by unfold In;omega⟩
  obtain ⟨h1,h2,h3,_⟩:=aBk (p:=1) ho hI
  refine st _ _ _ h1 h2 fun y hy=>List.mem_append_left _ ?_
  have:=h3 y hy
  simp only [List.map_map,List.mem_map,Function.comp] at this
  obtain ⟨k,hk,e⟩:=this
  simp only [newK,List.mem_cons,List.mem_append]
  exact .inr (.inr (e▸hk))
 ·exact same
 ·exact same
 ·exact st _ _ [] (tJ ho) (by intro x hx;cases hx) (by intro y hy;cases hy)
 ·exact same
 ·exact same
 ·exact same
 ·refine h.app mono ?_
  have g1:OkL o (newK x++K) [cutA o a x.key]:=by
   unfold cutA;rw [ha]
   exact .one (aHq ha (List.take_sublist _ _)) (aHr hIa (List.take_sublist _ _)) fun y hy=>ka y ((List.take_sublist _ _).subset hy)
  have g2:OkL o (newK x++K) [cutB o a x.key]:=by
   unfold cutB;rw [ha]
   exact .one (aHq ha (List.drop_sublist _ _)) (aHr hIa (List.drop_sublist _ _)) fun y hy=>ka y ((List.drop_sublist _ _).subset hy)
  exact g1.app (fun _ h=>h) g2
theorem do_ok{o:Int}{K:List Int}{L:Rows}{x:POp}(ho:isO o=true)(h:OkL o K L)(hx:InO x):OkL o (newK x++K) (doP o L x).2:=by
 unfold doP
 split
 ·have ha:=h.at' ho x.a
  have hb:=h.at' ho x.b
  exact act_ok ho h hx ha.1 ha.2.1 ha.2.2 hb.1 hb.2.1 hb.2.2
 ·exact h.mono fun k hk=>List.mem_append_right _ hk
theorem act_new(o:Int)(L:Rows)(x:POp)(a c:List Pr):∃ls,(actP o L x a c).2=L++ls∧(actP o L x a c).1.new=(List.range ls.length).map fun i=>((L.length+i:Nat):Int):=by
 have m:∀r ls,∃ls',(sT r L ls).2=L++ls'∧(sT r L ls).1.new=(List.range ls'.length).map fun i=>((L.length+i:Nat):Int):=fun r ls=>⟨ls,rfl,rfl⟩
 have f:∀(r:Rep),r.new=[]→∃ls',L=L++ls'∧r.new=(List.range ls'.length).map fun i=>((L.length+i:Nat):Int):=fun r hr=>⟨[],by simp,by rw [hr];rfl⟩
 have g:∀(y:Pr) is,(qG y is).new=[]:=fun y is=>by unfold qG;split <;> rfl
 unfold actP
 split <;> first
  | exact m _ _
  | exact f _ (g _ _)
  | exact f _ rfl
theorem do_new(o:Int)(L:Rows)(x:POp):∃ls,(doP o L x).2=L++ls∧(doP o L x).1.new=(List.range ls.length).map fun i=>((L.length+i:Nat):Int):=by
 unfold doP
 split
 ·exact act_new o L x _ _
 ·exact ⟨[],by simp,rfl⟩
theorem c_stakes{k a c:Int}{f:Bool}{x:Pr}(ha:In a)(hc:In c)(hx:In x.1)(h:∀w',Ext w w'→R (.returned (.bool (qJ k a c&&(sV k a c x !=f)))) w'):
  Calls prog 169 #[.agg #[.int .u8 k,.int .i64 a,.int .i64 c,.bool f],agP x] w R:=by
 refine sh169_ok ?_
 unfold sh169
 refine ⟨⟨?_⟩⟩
 have e1:=pQ w (.cells #[.int .u8 k,.int .i64 a,.int .i64 c,.bool f] 27)
 have hb1:=pS w #[.int .u8 k,.int .i64 a,.int .i64 c,.bool f] 27
 generalize w.alloc (.cells #[.int .u8 k,.int .i64 a,.int .i64 c,.bool f] 27)=w1 at *
 generalize w.heap.size=b1 at hb1 ⊢
 have e2:=pQ w1 (.cells #[.int .i64 x.1,.int .i64 x.2] 63)
 have hb2:=pS w1 #[.int .i64 x.1,.int .i64 x.2] 63
 generalize w1.alloc (.cells #[.int .i64 x.1,.int .i64 x.2] 63)=w2 at *
 generalize w1.heap.size=b2 at hb2 ⊢
 intro K13
 refine ⟨?_⟩
 have E3:=(e1.trans e2).trans (pT w2)
 have h1:=(hb1.ext e2).ext (pT w2)
 have h2:=hb2.ext (pT w2)
 generalize w2.drew=w3 at *
 refine ⟨fun w'=>Ext w3 w',pR _,_,fun w' e=>(h1.ext e).cell (i:=0) rfl rfl,_,fun w' e=>(h1.ext e).cell (i:=1) rfl rfl,_,fun w' e=>(h1.ext e).cell (i:=2) rfl rfl,_,fun w' e=>(h1.ext e).cell (i:=3) rfl rfl,?_⟩
 refine pP call119 (aIx ha hc fun w4 e4=>pN ⟨_,rfl,e4,?_⟩)
 cases hp:qJ k a c
 ·refine pY rfl ?_
  have:=h w4 (E3.trans e4)
  rw [hp] at this;exact this
 ·refine pZ rfl ⟨_,fun w' e=>(h1.ext e).cell (i:=0) rfl rfl,_,fun w' e=>(h1.ext e).cell (i:=1) rfl rfl,_,fun w' e=>(h1.ext e).cell (i:=2) rfl rfl,_,fun w' e=>(h2.ext e).cell (i:=0) rfl rfl,_,fun w' e=>(h2.ext e).cell (i:=1) rfl rfl,_,fun w' e=>(h1.ext e).cell (i:=3) rfl rfl,?_⟩
  refine pP call159 (aFv fun b m t w5 e5 hm hbf=>pN ⟨_,rfl,e4.trans e5,?_⟩)
  obtain ⟨i,ff,g,gc,hf,_,h3⟩:=aAm (b:=b) (aBq hp).1
  refine aBd underlying178 underlying5 hm (by rfl) hf (.inl ⟨_,_,_,_,_,_,rfl,e4.trans e5,?_⟩)
  refine h3 a c x ha hc hx hp w5 t _ hbf fun w6 e6=>pN ⟨_,rfl,(e4.trans e5).trans e6,?_⟩
  have:=h w6 (((E3.trans e4).trans e5).trans e6)
  rw [hp,Bool.true_and] at this
  have hne:(!(sV k a c x==f))=(sV k a c x !=f):=rfl
  show R (.returned (.bool (!(sV k a c x==f)))) w6
  rw [hne];exact this
def outP(k a b:Int)(f:Bool)(l:List Pr):List Pr:=l.filter fun x=>!(sV k a b x !=f)
theorem c_skeep{k a c:Int}{f:Bool}{l:List Pr}{q:OA}{n c':Nat}(ha:In a)(hc:In c)(hl:Cs w q (prs l))(hn:l.length=n)(hm:n≤1000000)(hI:InP l)
  (h:∀p n' c' w',OwnP w' w.heap.size p n' c' (yU k a c f l)→Ext w w'→R (.returned (.tuple #[.slice p n' c',.int .i64 (cond (qJ k a c) 0 2)])) w') :
  Calls prog 111 #[.agg #[.int .u8 k,.int .i64 a,.int .i64 c,.bool f],.slice q n c'] w R:=by
 refine sh111_ok ?_
 unfold sh111
 refine ⟨?_⟩
 have e1:=pQ w (.cells #[.int .u8 k,.int .i64 a,.int .i64 c,.bool f] 27)
 have hb1:=pS w #[.int .u8 k,.int .i64 a,.int .i64 c,.bool f] 27
 generalize w.alloc (.cells #[.int .u8 k,.int .i64 a,.int .i64 c,.bool f] 27)=w1 at *
 refine ⟨_,hb1.cell (i:=0) rfl rfl,_,hb1.cell (i:=1) rfl rfl,_,hb1.cell (i:=2) rfl rfl,_,hb1.cell (i:=3) rfl rfl,pP call151 (sh151_ok ?_)⟩
 clear hb1
 unfold sh151
 refine ⟨?_⟩
 have e2:=pQ w1 (.cells #[.int .u8 k,.int .i64 a,.int .i64 c,.bool f] 27)
 have hb2:=pS w1 #[.int .u8 k,.int .i64 a,.int .i64 c,.bool f] 27
 have hlt2:=hb2.lt
 generalize w1.alloc (.cells #[.int .u8 k,.int .i64 a,.int .i64 c,.bool f] 27)=w2 at *
 generalize hbb:w1.heap.size=b2 at *
 refine ⟨_,hb2.cell (i:=0) rfl rfl,_,hb2.cell (i:=1) rfl rfl,_,hb2.cell (i:=2) rfl rfl,_,hb2.cell (i:=3) rfl rfl,pP call119 (aIx ha hc fun w3 e3=>pN ⟨_,rfl,?_⟩)⟩
 have E3:=(e1.trans e2).trans e3
 cases hp:qJ k a c
 ·refine pZ rfl (pN ⟨_,_,_,_,_,_,_,rfl,?_⟩)
  have:=h none 0 0 w3 (by unfold yU;rw [hp];exact qH _ _) E3
  rw [hp] at this;exact this
 refine pY rfl ?_
 have hb3:=hb2.ext e3
 have s1:=e1.size
 have hl3:=hl.ext E3
 refine ⟨fun vs w'=>∃(j n1 c1 n2 c2:Nat) (p1 p2:OA),vs=[.slice p1 n1 c1,.slice p2 n2 c2,.int .i64 (j:Nat)]∧j≤n∧Ext w3 w'∧Two w' w3.heap.size p1 n1 c1 ((l.take j).filter fun x=>sV k a c x !=f) p2 n2 c2 (outP k a c f (l.take j)),
  fun vs _=>match vs with | [_,_,.int _ i]=>n - i.toNat | _=>0,⟨0,0,0,0,0,none,none,rfl,by omega,pR _,?_⟩,?_⟩
 ·rw [List.take_zero]
  exact ⟨qH _ _,qH _ _,.inl rfl⟩
 rintro _ _ _ _ _ _ _ _ w4 ⟨j,n1,c1,n2,c2,p1,p2,hvs,hj,e4,hT⟩
 simp only [List.cons.injEq,Value.int.injEq,Value.slice.injEq,true_and,and_true] at hvs
 obtain ⟨⟨rfl,rfl,rfl⟩,⟨rfl,rfl,rfl⟩,rfl⟩:=hvs
 refine pO (fun z=>?_) fun z=>?_
 ·have z:j < n:=by have:=of_decide_eq_true z;omega
  intro K35
  have hjl:j < l.length:=by omega
  have hnext:IntKind.wrap .i64 ((j:Int)+1)=((j+1:Nat):Int):=pW (n:=n) (by omega) (by omega)
  have hl1:=qF hT.1
  have hl2:=qF hT.2.1
  have k1:((l.take j).filter fun x=>sV k a c x !=f).length≤j:=Nat.le_trans (List.length_filter_le _ _) (by rw [List.length_take];omega)
  have k2:(outP k a c f (l.take j)).length≤j:=Nat.le_trans (List.length_filter_le _ _) (by rw [List.length_take];omega)
  have t1:∀P:Pr→Bool,(l.take (j+1)).filter P=(l.take j).filter P++(if P l[j] then [l[j]] else []):=fun P=>by
   rw [←List.take_append_getElem hjl,List.filter_append]
   congr 1
   simp only [List.filter_cons,List.filter_nil]
  refine rI (hl3.ext e4) hn rfl z fun ad r1 r2 _=>⟨_,r1,_,r2,⟨?_⟩⟩
  have e5:=pQ w4 (.cells #[.int .i64 0,.int .i64 0] 63)
  refine qA (pS w4 _ _) (i:=0) rfl (by simp) fun w5 h5 g5=>qA h5 (i:=1) rfl (by simp) fun w6 h6 g6=>?_
  have e6:Ext w4 w6:=(e5.st g5 (Nat.le_refl _)).st g6 (Nat.le_refl _)
  have h6:Blk w6 w4.heap.size #[.int .i64 l[j].1,.int .i64 l[j].2] 63:=h6
  have hb6:=(hb3.ext e4).ext e6
  refine ⟨_,hb6.cell (i:=0) rfl rfl,_,hb6.cell (i:=1) rfl rfl,_,hb6.cell (i:=2) rfl rfl,_,hb6.cell (i:=3) rfl rfl,_,h6.cell (i:=0) rfl rfl,_,h6.cell (i:=1) rfl rfl,?_⟩
  refine pP call169 (c_stakes (x:=l[j]) ha hc (hI _ (List.getElem_mem hjl)).1 fun w7 e7=>pN ⟨_,rfl,?_⟩)
  rw [hp,Bool.true_and]
  have h7:=h6.ext e7
  have hT7:=(hT.ext e6).ext e7
  have E7:=(e4.trans e6).trans e7
  have done:∀(p3:OA) (n3 c3:Nat) (p4:OA) (n4 c4:Nat) (w8:World),Ext w3 w8→Two w8 w3.heap.size p3 n3 c3 ((l.take (j+1)).filter fun x=>sV k a c x !=f) p4 n4 c4 (outP k a c f (l.take (j+1)))→K35 p3 n3 c3 p4 n4 c4 w8:=by
   intro p3 n3 c3 p4 n4 c4 w8 e8 h8
   refine ⟨⟨j+1,n3,c3,n4,c4,p3,p4,by rw [hnext],by omega,e8,h8⟩,?_⟩
   rw [hnext]
   show n - ((j+1:Nat):Int).toNat < n - (j:Int).toNat
   omega
  unfold outP at *
  have ho:∀x:Pr,(!(sV k a c x !=f))=!(sV k a c x !=f):=fun _=>rfl
  cases ht:(sV k a c l[j] !=f)
  ·refine pY rfl ⟨_,h7.cell (i:=0) rfl rfl,_,h7.cell (i:=1) rfl rfl,?_⟩
   refine do_app1 hT7.2.1 (by omega) E7.size ?_
   intro q2 c2' w8 h8 hx g8 hor
   refine ⟨_,_,_,rfl,done _ _ _ _ _ _ _ (hx w3 E7 (Nat.le_refl _)) ?_⟩
   rw [t1,t1,ht,if_neg (by simp),List.append_nil,if_pos (by simp)]
   exact (hT7.swap.grow h8 g8 hor).swap
  ·refine pZ rfl ⟨_,h7.cell (i:=0) rfl rfl,_,h7.cell (i:=1) rfl rfl,?_⟩
   refine do_app1 hT7.1 (by omega) E7.size ?_
   intro q2 c2' w8 h8 hx g8 hor
   refine ⟨_,_,_,rfl,done _ _ _ _ _ _ _ (hx w3 E7 (Nat.le_refl _)) ?_⟩
   rw [t1,t1,ht,if_pos rfl,if_neg (by simp),List.append_nil]
   exact hT7.grow h8 g8 hor
 ·have z:j=n:=by have:=of_decide_eq_false z;omega
  rw [List.take_of_length_le (by omega)] at hT
  refine pN ⟨_,_,_,_,_,_,_,rfl,?_⟩
  have:=h _ _ _ w4 (by unfold yU;rw [hp];exact rO hT.1 E3.size) (E3.trans e4)
  rw [hp] at this;exact this
theorem st7{b:Nat}{a0 a1 a2 a3 a4 a5 a6 v0 v1 v2 v3 v4 v5 v6:Value}{t:TypeId}{K:World→Prop}(h:Blk w b #[a0,a1,a2,a3,a4,a5,a6] t)(k:∀w',Blk w' b #[v0,v1,v2,v3,v4,v5,v6] t→w.grownBy w' (some b)→K w'):
  doSt ((blk b).add 0) v0 w fun w1=>doSt ((blk b).add 1) v1 w1 fun w2=>doSt ((blk b).add 2) v2 w2 fun w3=>doSt ((blk b).add 3) v3 w3 fun w4=>doSt ((blk b).add 4) v4 w4 fun w5=>doSt ((blk b).add 5) v5 w5 fun w6=>doSt ((blk b).add 6) v6 w6 fun w7=>K w7:=by
 refine qA h (i:=0) rfl (by simp) fun w1 h1 g1=>?_
 have h1:Blk w1 b #[v0,a1,a2,a3,a4,a5,a6] t:=h1
 refine qA h1 (i:=1) rfl (by simp) fun w2 h2 g2=>?_
 have h2:Blk w2 b #[v0,v1,a2,a3,a4,a5,a6] t:=h2
 refine qA h2 (i:=2) rfl (by simp) fun w3 h3 g3=>?_
 have h3:Blk w3 b #[v0,v1,v2,a3,a4,a5,a6] t:=h3
 refine qA h3 (i:=3) rfl (by simp) fun w4 h4 g4=>?_
 have h4:Blk w4 b #[v0,v1,v2,v3,a4,a5,a6] t:=h4
 refine qA h4 (i:=4) rfl (by simp) fun w5 h5 g5=>?_
 have h5:Blk w5 b #[v0,v1,v2,v3,v4,a5,a6] t:=h5
 refine qA h5 (i:=5) rfl (by simp) fun w6 h6 g6=>?_
 have h6:Blk w6 b #[v0,v1,v2,v3,v4,v5,a6] t:=h6
 refine qA h6 (i:=6) rfl (by simp) fun w7 h7 g7=>?_
 have h7:Blk w7 b #[v0,v1,v2,v3,v4,v5,v6] t:=h7
 exact k _ h7 (pX (pX (pX (pX (pX (pX g1 g2) g3) g4) g5) g6) g7)
def BkOwn(bb:Nat)(w:World)(k:Nat):Prop:=k=bb∨∃a n c,w.cell? ⟨bb,1,none⟩=some (.slice (some a) n c)∧a.block=k
theorem tP{bb:Nat}{u:Value}{p:OA}{n c:Nat}{t:TypeId}(hb:Blk w bb #[u,.slice p n c] t)(k:Nat):BkOwn bb w k↔k=bb∨(Value.slice p n c).ownBlock=some k:=by
 unfold BkOwn
 rw [hb.cell (i:=1) rfl rfl,aIc]
 constructor
 ·rintro (h | ⟨a,n',c',h,e⟩)
  ·exact .inl h
  ·injection h with h
   injection h with h1 h2 h3
   exact .inr ⟨a,h1,e⟩
 ·rintro (h | ⟨a,h,e⟩)
  ·exact .inl h
  ·subst h
   exact .inr ⟨a,n,c,rfl,e⟩
theorem aEq{l:List Pr}(h:l.length≠0):prs l≠[]:=fun e=>h (by cases l with | nil=>rfl | cons x l=>simp [prs] at e)
def uW(P:Nat→Prop)(v:Value):Prop:=∀a n c,v=.slice (some a) n c→n≠0→P a.block
structure BookN (P:Nat→Prop) (w:World) (bb:Nat) (o:Int) (L:Rows):Prop where
 ex:∃(p:OA) (c:Nat) (vs:List Value),Blk w bb #[.int .u8 o,.slice p L.length c] 70∧(w.ownsRow 0 22 1 (.slice p L.length c) L.length vs∧(Value.slice p L.length c).ownBlock≠some bb)∧
  ∀(i:Nat) (l:List Pr),L[i]?=some l→∃v,vs[i]?=some v∧RowAt (BkOwn bb) bb w v l.length (prs l)∧uW P v
abbrev BookAt(w:World)(bb:Nat)(o:Int)(L:Rows):Prop:=BookN (fun k=>k < w.heap.size) w bb o L
section
variable {P:Nat→Prop} {w w':World} {bb:Nat} {o:Int} {L:Rows}
theorem BookN.top(h:BookN P w bb o L):BookN (fun k=>P k∧k < w.heap.size) w bb o L:=by
 obtain ⟨p,c,vs,hb,hr,hv⟩:=h.ex
 refine ⟨p,c,vs,hb,hr,fun i l hl=>?_⟩
 obtain ⟨v,h1,h2,h4⟩:=hv i l hl
 obtain ⟨q,c',rfl,g1,g2,g3⟩:=h2
 exact ⟨_,h1,⟨q,c',rfl,g1,g2,g3⟩,fun a n c e hz=>⟨h4 a n c e hz,by cases e;exact (g3 a rfl (aEq hz)).2.2⟩⟩
theorem BookN.up(h:BookN P w bb o L){Q:Nat→Prop}(hM:∀k,P k→Q k):BookN Q w bb o L:=by
 obtain ⟨p,c,vs,hb,hr,hv⟩:=h.ex
 refine ⟨p,c,vs,hb,hr,fun i l hl=>?_⟩
 obtain ⟨v,h1,h2,h3⟩:=hv i l hl
 exact ⟨_,h1,h2,fun a n c e hz=>hM _ (h3 a n c e hz)⟩
theorem BookN.lt(h:BookN P w bb o L){k:Nat}(hk:BkOwn bb w k):k < w.heap.size:=by
 obtain ⟨p,c,vs,hb,hr,_⟩:=h.ex
 rcases (tP hb k).1 hk with rfl | hk
 ·exact hb.lt
 ·exact (hr.1.lt k hk).2
theorem BookN.own(h:BookN P w bb o L)(hk:∀k,BkOwn bb w k→w'.heap[k]?=w.heap[k]?):∀k,BkOwn bb w' k↔BkOwn bb w k:=fun k=>by
 obtain ⟨p,c,vs,hb,hr,_⟩:=h.ex
 have hb':Blk w' bb #[.int .u8 o,.slice p L.length c] 70:=by unfold Blk;rw [hk bb (.inl rfl)];exact hb
 rw [tP hb',tP hb]
theorem BookN.keep(h:BookN P w bb o L)(hk:∀k,BkOwn bb w k∨(P k∧k < w.heap.size)→w'.heap[k]?=w.heap[k]?)(hs:w.heap.size≤w'.heap.size):BookN P w' bb o L:=by
 have ho:=h.own (w':=w') fun k hk'=>hk k (.inl hk')
 obtain ⟨p,c,vs,hb,hr,hv⟩:=h.ex
 have hb':Blk w' bb #[.int .u8 o,.slice p L.length c] 70:=by unfold Blk;rw [hk bb (.inl (.inl rfl))];exact hb
 refine ⟨p,c,vs,hb',⟨vT hr.1 fun b hbb=>hk b (.inl ((tP hb b).2 (.inr hbb))),hr.2⟩,fun i l hl=>?_⟩
 obtain ⟨v,h1,⟨q,c',rfl,g1,g2,g3⟩,h3⟩:=hv i l hl
 refine ⟨_,h1,⟨q,c',rfl,g1,fun j u hu=>?_,fun a ha hz=>⟨fun hx=>(g3 a ha hz).1 ((ho _).1 hx),(g3 a ha hz).2.1,Nat.lt_of_lt_of_le (g3 a ha hz).2.2 hs⟩⟩,h3⟩
 obtain ⟨a,ha,hc⟩:=g2 j u hu
 subst ha
 refine ⟨a,rfl,?_⟩
 rw [World.cell?_of_block (hk _ (.inr ⟨by rw [qV];exact h3 a _ _ rfl (fun e=>by rw [List.length_eq_zero_iff.1 e] at hu;simp [prs] at hu),World.block_lt_of_cell? _ _ hc⟩))]
 exact hc
theorem BookN.st{r:Option Nat}(h:BookN P w bb o L)(g:w.grownBy w' r)(hr:∀b,r=some b→¬P b∧¬BkOwn bb w b):BookN P w' bb o L∧∀k,BkOwn bb w' k↔BkOwn bb w k:=by
 have hk:∀k,BkOwn bb w k∨(P k∧k < w.heap.size)→w'.heap[k]?=w.heap[k]?:=fun k hk=>by
  rcases hk with hk | ⟨hk,hs⟩
  ·exact g.block k (h.lt hk) fun e=>(hr k e.symm).2 hk
  ·exact g.block k hs fun e=>(hr k e.symm).1 hk
 exact ⟨h.keep hk g.size,h.own fun k h=>hk k (.inl h)⟩
theorem BookN.ext(h:BookN P w bb o L)(e:Ext w w'):BookN P w' bb o L:=h.keep (fun k hk=>e.block k (hk.elim h.lt And.right)) e.size
theorem BookN.chg{S:Nat→Prop}(h:BookN P w bb o L)(e:Ext w w'):Chg (BkOwn bb) S w w':=
 ⟨e.os,e.tape,e.output,e.size,fun k hk _ _=>e.block k hk,fun k _ h1 h2=>h1 ((h.own (fun j hj=>e.block j (h.lt hj)) k).1 h2)⟩
theorem BookN.own_ext(h:BookN P w bb o L)(e:Ext w w')(k:Nat):BkOwn bb w' k↔BkOwn bb w k:=h.own (fun j hj=>e.block j (h.lt hj)) k
theorem BookN.ord(h:BookN P w bb o L):w.cell? ⟨bb,0,none⟩=some (.int .u8 o):=by
 obtain ⟨p,c,vs,hb,_⟩:=h.ex
 exact hb.cell (i:=0) rfl rfl
end
theorem hi_no{P own:Nat→Prop}{xb:Nat}{r:Option Nat}(h:∀b,r=some b→xb≤b∧¬own b):∀b,r=some b→¬(P b∧b < xb)∧¬own b:=fun b hb=>⟨fun hp=>by have:=(h b hb).1;omega,(h b hb).2⟩
theorem zS{own:World→Nat→Prop}{S:Nat→Prop}{w0 w w':World}{r:Option Nat}(c:Chg own S w0 w)(g:w.grownBy w' r)(hr:∀b,r=some b→w0.heap.size≤b)(ho:∀k,own w' k→own w k):Chg own S w0 w':=
 ⟨g.os.trans c.os,g.tape.trans c.tape,g.output.trans c.output,Nat.le_trans c.size g.size,fun k hk h1 h2=>by
  rw [g.block k (Nat.lt_of_lt_of_le hk c.size) (fun e=>by have:=hr k e.symm;omega),c.block k hk h1 h2],fun k hk h1 h2=>c.out k hk h1 (ho k h2)⟩
theorem elV:ElT prog 55 22 (.slice none 0 0) 1 24:=⟨underlying55,⟨_,type22,by kernel_rfl,by kernel_rfl,by kernel_rfl⟩,rfl,by omega⟩
theorem elNi:ElT prog 32 3 (.int .i64 0) 1 8:=⟨underlying32,⟨_,type3,by kernel_rfl,by kernel_rfl,by kernel_rfl⟩,rfl,by omega⟩
theorem aGb{b:Nat}{x y x' y':Value}{t t':TypeId}(h:Blk w b #[x,y] t)(k:Blk w b #[x',y'] t'):x=x'∧y=y':=by
 unfold Blk at h k
 rw [h] at k
 injection k with k
 injection k with k
 simpa using k
theorem aMq{P:Nat→Prop}{bb:Nat}{o:Int}{L:Rows}{l:List Pr}{v:Value}{nb:Nat}{p:OA}{n c:Nat}{u:Value}{t:TypeId}{bs:Array Bool}{K:World→Prop}{Kp:List PanicEntry→World→Prop}(hB:BookN P w bb o L)(hl:L.length≤5000)
  (hx:Cs w (some (blk nb)) [v]) (hv:RowAt (BkOwn bb) bb w v l.length (prs l)) (hvN:uW P v) (hb:Blk w bb #[u,.slice p n c] t) (h:∀w',BookN P w' bb o (L++[l])→Chg (BkOwn bb) (fun _=>False) w w'→K w') :
  doGo prog (.builtin .append #[55,55] 55 bs) #[.slice p n c,.slice (some (blk nb)) 1 1] w (retS (fun v' w'=>∃(a:OA) (b d:Nat),v'=(.slice a b d:Value)∧(∃q:Addr,(some (blk bb):OA)=some q∧doSt ((q.add 1).add 0) (.slice a b d) w' K)) Kp):=by
 obtain ⟨p0,c0,vs,hb0,hr,hvs⟩:=hB.ex
 obtain ⟨_,e⟩:=aGb hb hb0
 injection e with e1 e2 e3
 subst e1 e2 e3
 obtain ⟨pv,cv,rfl,hnc,hcv,hav⟩:=hv
 refine rR elV hr.1 hx (by simp) (by simp [Value.oneCell']) (by simp only [maxLen];omega) (by omega) (Nat.zero_le _) fun p' c' w' h2 g n10=>pN ⟨p',_,c',rfl,_,rfl,?_⟩
 have hne:some bb≠(Value.slice p L.length c).ownBlock:=fun e=>hr.2 e.symm
 have hn2:(Value.slice p' (L.length+1) c').ownBlock≠some bb:=fun e=>by
  rcases n10 bb e with h | h
  ·exact hr.2 h
  ·have:=hb0.lt;omega
 have hb':=hb0.grown g hne
 refine qA hb' (i:=1) rfl (by simp) fun w'' h3 g3=>?_
 have h3:Blk w'' bb #[.int .u8 o,.slice p' (L.length+1) c'] 70:=h3
 have hr3:=h2.kept g3 (.inr hn2)
 have own3:∀k,k < w.heap.size→¬BkOwn bb w k→¬BkOwn bb w'' k:=fun k hk ho hk'=>by
  rcases (tP h3 k).1 hk' with rfl | hk'
  ·exact ho (.inl rfl)
  ·rcases n10 k hk' with h | h
   ·exact ho ((tP hb0 k).2 (.inr h))
   ·omega
 have hc:Chg (BkOwn bb) (fun _=>False) w w'':=⟨g3.os.trans g.os,g3.tape.trans g.tape,g3.output.trans g.output,Nat.le_trans g.size g3.size,fun k hk ho _=>by
  rw [g3.block k (Nat.lt_of_lt_of_le hk g.size) (fun e=>ho (by cases e;exact .inl rfl)),g.block k hk fun e=>ho ((tP hb0 k).2 (.inr e.symm))],own3⟩
 have hlen:vs.length=L.length:=by have:=hr.1.1;simpa using this
 refine h w'' ⟨p',c',vs++[.slice pv l.length cv],by rw [List.length_append];exact h3,by rw [List.length_append];exact ⟨hr3,hn2⟩,fun i m hm=>?_⟩ hc
 by_cases hi:i < L.length
 ·rw [List.getElem?_append_left hi] at hm
  obtain ⟨v,hv1,hv2,hv3⟩:=hvs i m hm
  exact ⟨v,by rw [List.getElem?_append_left (by omega)];exact hv1,hv2.chg (chg0 hc),hv3⟩
 ·rw [List.getElem?_append_right (by omega)] at hm
  have hi0:i - L.length=0:=by
   rcases Nat.eq_zero_or_pos (i - L.length) with h | h
   ·exact h
   ·rw [List.getElem?_eq_none (by simp;omega)] at hm;cases hm
  rw [hi0] at hm
  obtain rfl:l=m:=by simpa using hm
  refine ⟨_,by rw [List.getElem?_append_right (by omega),show i - vs.length=0 by omega];rfl,?_⟩
  exact ⟨RowAt.chg ⟨pv,cv,rfl,hnc,hcv,hav⟩ (chg0 hc),hvN⟩
def AbN(N:Nat)(v:Value):Prop:=∀a n c,v=.slice (some a) n c→N≤a.block
structure RepAt (N bb:Nat) (w:World) (v:Value) (r:Rep):Prop where
 ex:∃nv pv,v=.agg #[.int .i64 r.err,.bool r.is,.int .i64 r.key,.int .i64 r.val,.int .i64 r.n,nv,pv]∧RowAt (BkOwn bb) bb w nv r.new.length (ints r.new)∧RowAt (BkOwn bb) bb w pv r.pairs.length (prs r.pairs)∧AbN N nv∧AbN N pv
theorem rP(own:World→Nat→Prop)(xb:Nat)(w:World):RowAt own xb w (.slice none 0 0) 0 []:=⟨none,0,rfl,Nat.le_refl _,cs_nil _ _,fun d e=>by cases e⟩
theorem RowAt.own_row{own:World→Nat→Prop}{bb:Nat}{p:OA}{n c e size base:Nat}{xs:List Value}(h:w.ownsRow base e size (.slice p n c) n xs)(ho:∀k,own w k→k < base∨w.heap.size≤k)(hb:bb < base):RowAt own bb w (.slice p n c) n xs:=
 ⟨p,c,rfl,tD h,Cs.of_row h,fun a ha _=>by
  have:=tG h ha
  exact ⟨fun hk=>by have:=ho _ hk;omega,by omega,this.2⟩⟩
def rep0(r:Rep):Value:=.agg #[.int .i64 r.err,.bool r.is,.int .i64 r.key,.int .i64 r.val,.int .i64 r.n,.slice none 0 0,.slice none 0 0]
theorem zW{P:Nat→Prop}{bb:Nat}{o:Int}{L ls:Rows}{r:Rep}{vs:List Value}{q:OA}{n c:Nat}(hB:BookN P w bb o L)(hL:L.length≤4500)(hls:ls.length≤4)(hn:ls.length=n)(hq:Cs w q vs)(hqo:∀a,q=some a→¬BkOwn bb w a.block∧a.block < w.heap.size)
  (hvs:∀(i:Nat) (l:List Pr),ls[i]?=some l→∃v,vs[i]?=some v∧RowAt (BkOwn bb) bb w v l.length (prs l)∧uW P v) (hnew:r.new=[]) (hpr:r.pairs=[])
  (h:∀v w',RepAt w.heap.size bb w' v (sT r L ls).1→BookN P w' bb o (sT r L ls).2→Chg (BkOwn bb) (fun _=>False) w w'→R (.returned v) w') :
  Calls prog 98 #[.pointer (some (blk bb)),rep0 r,.slice q n c] w R:=by
 refine sh98_ok ?_
 unfold sh98
 refine ⟨⟨?_⟩⟩
 have e1:=pQ w (.cells #[.int .i64 r.err,.bool r.is,.int .i64 r.key,.int .i64 r.val,.int .i64 r.n,.slice none 0 0,.slice none 0 0] 34)
 have X1:=pS w #[.int .i64 r.err,.bool r.is,.int .i64 r.key,.int .i64 r.val,.int .i64 r.n,.slice none 0 0,.slice none 0 0] 34
 generalize w.alloc (.cells #[.int .i64 r.err,.bool r.is,.int .i64 r.key,.int .i64 r.val,.int .i64 r.n,.slice none 0 0,.slice none 0 0] 34)=w1 at *
 have e2:=pQ w1 (.cells #[.int .i64 0,.bool false,.int .i64 0,.int .i64 0,.int .i64 0,.slice none 0 0,.slice none 0 0] 34)
 have Y2:=pS w1 #[.int .i64 0,.bool false,.int .i64 0,.int .i64 0,.int .i64 0,.slice none 0 0,.slice none 0 0] 34
 generalize w1.alloc (.cells #[.int .i64 0,.bool false,.int .i64 0,.int .i64 0,.int .i64 0,.slice none 0 0,.slice none 0 0] 34)=w2 at *
 have l1:=X1.lt
 have l2:=Y2.lt
 have X2:=X1.ext e2
 have E2:=e1.trans e2
 have B2:BookN (fun k=>P k∧k < w.heap.size) w2 bb o L:=hB.top.ext E2
 have hbb:bb < w.heap.size:=hB.lt (.inl rfl)
 have own2:=hB.own_ext E2
 have c2:Chg (BkOwn bb) (fun _=>False) w w2:=hB.chg E2
 generalize hxb:w.heap.size=xb at *
 generalize hyb:w1.heap.size=yb at *
 refine ⟨fun vs' w'=>∃(k:Nat) (pn:OA) (cn:Nat),vs'=[.int .i64 (k:Int)]∧k≤n∧Blk w' xb #[.int .i64 r.err,.bool r.is,.int .i64 r.key,.int .i64 r.val,.int .i64 r.n,.slice pn k cn,.slice none 0 0] 34∧
   w'.ownsRow (yb+1) 3 1 (.slice pn k cn) k (ints ((List.range k).map fun i=>((L.length+i:Nat):Int)))∧(∀b,(Value.slice pn k cn).ownBlock=some b→¬BkOwn bb w' b)∧Blk w' yb #[.int .i64 0,.bool false,.int .i64 0,.int .i64 0,.int .i64 0,.slice none 0 0,.slice none 0 0] 34∧
   BookN (fun k=>P k∧k < xb) w' bb o (L++ls.take k)∧Chg (BkOwn bb) (fun _=>False) w w'∧¬BkOwn bb w' xb∧¬BkOwn bb w' yb,
  fun vs' _=>match vs' with | [.int _ i]=>n - i.toNat | _=>0,⟨0,none,0,rfl,Nat.zero_le _,X2,World.ownsRow_nil _ _ _ _,fun b hb=>by simp [Value.ownBlock] at hb,Y2,by rw [List.take_zero,List.append_nil];exact B2,c2,fun hk=>by have:=hB.lt ((own2 _).1 hk);omega,fun hk=>by have:=hB.lt ((own2 _).1 hk);omega⟩,?_⟩
 rintro _ _ w3 ⟨k,pn,cn,hv,hk,X3,N3,no3,Y3,B3,c3,nx3,ny3⟩
 simp only [List.cons.injEq,Value.int.injEq,true_and,and_true] at hv
 subst hv
 have hlen3:(L++ls.take k).length=L.length+k:=by rw [List.length_append,List.length_take];omega
 refine pO (fun z=>?_) fun z=>?_
 ·have z:k < n:=by have:=of_decide_eq_true z;omega
  have hkl:k < ls.length:=by omega
  obtain ⟨v,hvk,hrv,hvP⟩:=hvs k ls[k] (List.getElem?_eq_getElem hkl)
  obtain ⟨a,ha,hca⟩:=hq k v hvk
  obtain ⟨hao,hal⟩:=hqo a ha
  have hca3:w3.cell? (a.add k)=some v:=c3.cell hca (by rw [qV];exact hao) fun h=>h
  obtain ⟨pv,cv,rfl,hnv,hcv,hpv⟩:=hrv
  refine ⟨a,ha,by omega,by omega,?_⟩
  rw [Int.toNat_natCast,Nat.mul_one]
  refine ⟨_,_,_,hca3,⟨?_⟩⟩
  have e4:=pT w3
  have X4:=X3.ext e4
  have Y4:=Y3.ext e4
  have B4:=B3.ext e4
  have N4:=e4.row N3
  have own4:=B3.own_ext e4
  have c4:Chg (BkOwn bb) (fun _=>False) w w3.drew:=c3.trans (B3.chg e4)
  have no4:∀b,(Value.slice pn k cn).ownBlock=some b→¬BkOwn bb w3.drew b:=fun b hb hk=>no3 b hb ((own4 b).1 hk)
  have nx4:¬BkOwn bb w3.drew xb:=fun hk=>nx3 ((own4 _).1 hk)
  have ny4:¬BkOwn bb w3.drew yb:=fun hk=>ny3 ((own4 _).1 hk)
  generalize w3.drew=w4 at *
  obtain ⟨p4,d4,us4,hb4,_,_⟩:=B4.ex
  rw [hlen3] at hb4
  refine ⟨fun w'=>Blk w' xb #[.int .i64 r.err,.bool r.is,.int .i64 r.key,.int .i64 r.val,.int .i64 r.n,.slice pn k cn,.slice none 0 0] 34∧Blk w' bb #[.int .u8 o,.slice p4 (L.length+k) d4] 70,⟨X4,hb4⟩,_,_,_,fun w' h'=>h'.1.cell (i:=5) rfl rfl,_,rfl,_,_,_,fun w' h'=>h'.2.cell (i:=1) rfl rfl,⟨?_⟩⟩
  have e5:=pQ w4 (.cells #[.int .i64 ((L.length+k:Nat):Int)] 3)
  have hx5:=qY w4 #[.int .i64 ((L.length+k:Nat):Int)] 3
  have X5:=X4.ext e5
  have Y5:=Y4.ext e5
  have B5:=B4.ext e5
  have N5:=e5.row N4
  have own5:=B4.own_ext e5
  have c5:Chg (BkOwn bb) (fun _=>False) w _:=c4.trans (B4.chg e5)
  have no5:∀b,(Value.slice pn k cn).ownBlock=some b→¬BkOwn bb (w4.alloc (.cells #[.int .i64 ((L.length+k:Nat):Int)] 3)) b:=fun b hb hk=>no4 b hb ((own5 b).1 hk)
  have nx5:¬BkOwn bb (w4.alloc (.cells #[.int .i64 ((L.length+k:Nat):Int)] 3)) xb:=fun hk=>nx4 ((own5 _).1 hk)
  have ny5:¬BkOwn bb (w4.alloc (.cells #[.int .i64 ((L.length+k:Nat):Int)] 3)) yb:=fun hk=>ny4 ((own5 _).1 hk)
  have hb5:=hb4.ext e5
  have z5:yb+1≤w4.heap.size:=by have:=Y4.lt;omega
  generalize w4.alloc (.cells #[.int .i64 ((L.length+k:Nat):Int)] 3)=w5 at *
  refine ⟨⟨X5,hb5⟩,?_⟩
  refine rR elNi N5 hx5 (by simp) (by simp [Value.oneCell']) (by simp only [maxLen];omega) (by omega) (Nat.le_trans z5 e5.size) fun pn' cn' w6 N6 g6 n6=>pN ⟨_,_,_,rfl,?_⟩
  have hN5:=N5.lt
  have X6:=X5.grown g6 (fun e=>by have:=(hN5 _ e.symm).1;omega)
  have Y6:=Y5.grown g6 (fun e=>by have:=(hN5 _ e.symm).1;omega)
  have hr6:∀b,(Value.slice pn k cn).ownBlock=some b→xb≤b∧¬BkOwn bb w5 b:=fun b hb=>⟨by have:=(hN5 b hb).1;omega,no5 b hb⟩
  have B6:=B5.st g6 (hi_no hr6)
  have hb6:Blk w6 bb #[.int .u8 o,.slice p4 (L.length+k) d4] 70:=hb5.grown g6 fun e=>(hr6 bb e.symm).2 (.inl rfl)
  have c6:=zS c5 g6 (fun b hb=>by rw [hxb];exact (hr6 b hb).1) fun j hj=>(B6.2 j).1 hj
  have nx6:¬BkOwn bb w6 xb:=fun hk=>nx5 ((B6.2 _).1 hk)
  have ny6:¬BkOwn bb w6 yb:=fun hk=>ny5 ((B6.2 _).1 hk)
  refine ⟨⟨X6,hb6⟩,qA X6 (i:=5) rfl (by simp) fun w7 X7 g7=>?_⟩
  have X7:Blk w7 xb #[.int .i64 r.err,.bool r.is,.int .i64 r.key,.int .i64 r.val,.int .i64 r.n,.slice pn' (k+1) cn',.slice none 0 0] 34:=X7
  have hN6:=N6.lt
  have N7:=N6.kept g7 (.inr fun e=>by have:=(hN6 _ e).1;omega)
  have Y7:=Y6.grown g7 (pV (by omega))
  have hr7:∀b,some xb=some b→xb≤b∧¬BkOwn bb w6 b:=fun b hb=>by cases hb;exact ⟨Nat.le_refl _,nx6⟩
  have B7:=B6.1.st g7 (hi_no hr7)
  have hb7:=hb6.grown g7 (pV (by omega))
  have c7:=zS c6 g7 (fun b hb=>by rw [hxb];exact (hr7 b hb).1) fun j hj=>(B7.2 j).1 hj
  have nx7:¬BkOwn bb w7 xb:=fun hk=>nx6 ((B7.2 _).1 hk)
  have ny7:¬BkOwn bb w7 yb:=fun hk=>ny6 ((B7.2 _).1 hk)
  have no7:∀b,(Value.slice pn' (k+1) cn').ownBlock=some b→¬BkOwn bb w7 b:=fun b hb hk=>by
   have h6:=(B7.2 b).1 hk
   have h5:=(B6.2 b).1 h6
   rcases n6 b hb with h | h
   ·exact no5 b h h5
   ·have:=B5.lt h5;omega
  refine ⟨_,rfl,_,_,_,hb7.cell (i:=1) rfl rfl,⟨?_⟩⟩
  have e8:=pQ w7 (.cells #[.slice pv ls[k].length cv] 22)
  have hx8:=qY w7 #[.slice pv ls[k].length cv] 22
  have c8:=c7.trans (B7.1.chg (S:=fun _=>False) e8)
  have B8:=B7.1.ext e8
  have hrv8:=RowAt.chg (xb:=bb) ⟨pv,cv,rfl,hnv,hcv,hpv⟩ (chg0 c8)
  have N8:=e8.row N7
  have X8:=X7.ext e8
  have Y8:=Y7.ext e8
  have hb8:=hb7.ext e8
  have own8:=B7.1.own_ext e8
  have no8:∀b,(Value.slice pn' (k+1) cn').ownBlock=some b→¬BkOwn bb (w7.alloc (.cells #[.slice pv ls[k].length cv] 22)) b:=fun b hb hk=>no7 b hb ((own8 b).1 hk)
  have nx8:¬BkOwn bb (w7.alloc (.cells #[.slice pv ls[k].length cv] 22)) xb:=fun hk=>nx7 ((own8 _).1 hk)
  have ny8:¬BkOwn bb (w7.alloc (.cells #[.slice pv ls[k].length cv] 22)) yb:=fun hk=>ny7 ((own8 _).1 hk)
  generalize w7.alloc (.cells #[.slice pv ls[k].length cv] 22)=w8 at *
  refine aMq (l:=ls[k]) B8 (by omega) hx8 hrv8 (fun a n c e hz=>⟨hvP a n c e hz,by cases e;have:=(hpv a rfl (aEq hz)).2.2;omega⟩) hb8 fun w9 B9 c9=>?_
  have X9:Blk w9 xb _ _:=c9.blk X8 nx8 fun h=>h
  have Y9:Blk w9 yb _ _:=c9.blk Y8 ny8 fun h=>h
  have N9:=aCg c9 N8 no8 (fun _ _ h=>h)
  have l8:xb < w8.heap.size∧yb < w8.heap.size:=⟨X8.lt,Y8.lt⟩
  rw [pW (n:=10) (by omega) (by omega)]
  refine ⟨⟨k+1,pn',cn',rfl,by omega,X9,?_,fun b hb=>c9.out b (N8.lt b hb).2 (no8 b hb),Y9,?_,c8.trans c9,c9.out _ l8.1 nx8,c9.out _ l8.2 ny8⟩,?_⟩
  ·rw [List.range_succ,List.map_append,zP]
   exact N9
  ·rw [←List.take_append_getElem hkl,←List.append_assoc]
   exact B9
  ·show n - ((k+1:Nat):Int).toNat < n - (k:Int).toNat
   omega
 ·have z:k=n:=by have:=of_decide_eq_false z;omega
  subst z
  have ht:ls.take k=ls:=List.take_of_length_le (by omega)
  rw [ht] at B3
  refine ⟨_,X3.cell (i:=0) rfl rfl,_,X3.cell (i:=1) rfl rfl,_,X3.cell (i:=2) rfl rfl,_,X3.cell (i:=3) rfl rfl,_,X3.cell (i:=4) rfl rfl,_,_,_,X3.cell (i:=5) rfl rfl,_,_,_,X3.cell (i:=6) rfl rfl,st7 Y3 fun w4 Y4 g4=>?_⟩
  have hr4:∀b,some yb=some b→xb≤b∧¬BkOwn bb w3 b:=fun b hb=>by cases hb;exact ⟨by omega,ny3⟩
  have B4:=B3.st g4 (hi_no hr4)
  have c4:=zS c3 g4 (fun b hb=>by rw [hxb];exact (hr4 b hb).1) fun j hj=>(B4.2 j).1 hj
  have hN3:=N3.lt
  have N4:=N3.kept g4 (.inr fun e=>by have:=(hN3 _ e).1;omega)
  refine ⟨_,Y4.cell (i:=0) rfl rfl,_,Y4.cell (i:=1) rfl rfl,_,Y4.cell (i:=2) rfl rfl,_,Y4.cell (i:=3) rfl rfl,_,Y4.cell (i:=4) rfl rfl,_,_,_,Y4.cell (i:=5) rfl rfl,_,_,_,Y4.cell (i:=6) rfl rfl,h _ w4 ⟨_,_,rfl,?_,?_,fun a n' c' e=>by injection e with e1 e2 e3;have:=(tG N4 e1).1;omega,fun a n' c' e=>by cases e⟩ (B4.1.up fun k h=>h.1) c4⟩
  ·show RowAt (BkOwn bb) bb w4 _ ((List.range ls.length).map fun i=>((L.length+i:Nat):Int)).length _
   rw [List.length_map,List.length_range,hn]
   refine ⟨pn,cn,rfl,tD N4,?_,fun a ha _=>?_⟩
   ·have:=Cs.of_row N4
    show Cs w4 pn (ints ((List.range ls.length).map fun i=>((L.length+i:Nat):Int)))
    rw [hn];exact this
   ·have hlt:=tG N4 ha
    have hno:=no3 a.block (by subst ha;rfl)
    exact ⟨fun hk=>hno ((B4.2 _).1 hk),by omega,hlt.2⟩
  ·show RowAt (BkOwn bb) bb w4 _ r.pairs.length (prs r.pairs)
   rw [hpr];exact rP _ _ _
end Go.Proofs.YtmdboekndjlmgaaGreat
