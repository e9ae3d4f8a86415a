/-
  Rows as sets: plain laws of what is looked up, of the walk over two rows, and of sorting.
-/
import Derived.Test.YtmdboekndjlmgaaGreatZ29
set_option maxRecDepth 100000
set_option maxHeartbeats 6400000
namespace Go.Proofs.YtmdboekndjlmgaaGreat
open Go Go.Sh Go.RowKit Tryz
variable {w:World}{R:EW}
def lk(o:Int)(r:List Pr)(k:Int):Option Int:=cond (hasR o r k) (some (getR o r k)) none
theorem tL{o:Int}{r:List Pr}(hm:mayR o r=true){k v:Int}:lk o r k=some v↔(k,v)∈r:=by
 unfold lk
 constructor
 ·intro h
  cases hh:hasR o r k
  ·rw [hh] at h;cases h
  ·rw [hh] at h
   have:=aDv hh
   rw [cond_true,Option.some.injEq] at h
   rw [←h];exact this
 ·intro h
  have:=aDs hm h
  rw [this.1,this.2];rfl
theorem aIk{o:Int}{r:List Pr}(hm:mayR o r=true){k:Int}:lk o r k=none↔∀x∈r,x.1≠k:=by
 constructor
 ·rintro h ⟨k',v⟩ hx rfl
  have:=(tL hm).2 hx
  rw [h] at this;cases this
 ·intro h
  cases hk:lk o r k with
  | none=>rfl
  | some v=>exact absurd rfl (h _ ((tL hm).1 hk))
theorem lk_nil(o k:Int):lk o [] k=none:=by
 unfold lk hasR;simp
theorem lk_put{o p:Int}{l:List Pr}{x:Pr}(hm:mayR o l=true)(hp:may p=true)(hI:InP l)(hx:In x.1)(k:Int):
  lk o (putR o p l x) k=if k=x.1 then some (match lk o l k with | none=>x.2 | some y=>comb p y x.2) else lk o l k:=by
 by_cases hk:k=x.1
 ·rw [if_pos hk];subst hk
  have:=put_key hm hp hI hx
  unfold lk
  rw [this.1,this.2]
  cases hasR o l x.1 <;> rfl
 ·rw [if_neg hk]
  have:=aPb hm hp hI hx hk
  unfold lk
  rw [this.1,this.2]
theorem yJ{o a:Int}:¬ltO o a a:=by unfold ltO;rw [wJ];omega
theorem aPk{o a b:Int}(h:ltO o a b):¬ltO o b a:=fun k=>yJ (sX h k)
theorem pw_ext{o:Int}:∀{r s:List Pr},(r.map (·.1)).Pairwise (ltO o)→(s.map (·.1)).Pairwise (ltO o)→(∀x,x∈r↔x∈s)→r=s
 | [],[],_,_,_=>rfl
 | [],y::s,_,_,h=>by have:=(h y).2 (by simp);cases this
 | x::r,[],_,_,h=>by have:=(h x).1 (by simp);cases this
 | x::r,y::s,hr,hs,h=>by
  simp only [List.map_cons,List.pairwise_cons,List.mem_map,forall_exists_index,and_imp,forall_apply_eq_imp_iff₂] at hr hs
  have hxy:x=y:=by
   rcases List.mem_cons.1 ((h x).1 (by simp)) with e | h1
   ·exact e
   ·rcases List.mem_cons.1 ((h y).2 (by simp)) with e | h2
    ·exact e.symm
    ·exact absurd (hs.1 x h1) (aPk (hr.1 y h2))
  subst hxy
  rw [pw_ext hr.2 hs.2 fun z=>?_]
  constructor
  ·intro hz
   rcases List.mem_cons.1 ((h z).1 (by simp [hz])) with e | h1
   ·exact absurd (hr.1 z hz) (by rw [e];exact yJ)
   ·exact h1
  ·intro hz
   rcases List.mem_cons.1 ((h z).2 (by simp [hz])) with e | h1
   ·exact absurd (hs.1 z hz) (by rw [e];exact yJ)
   ·exact h1
theorem aAb{o:Int}{r s:List Pr}(hr:mayR o r=true)(hs:mayR o s=true)(h:∀k,lk o r k=lk o s k):r=s:=
 pw_ext (sG.1 hr).2 (sG.1 hs).2 fun x=>by rw [show x=(x.1,x.2) from rfl,←tL hr,←tL hs,h]
structure KeOf (a b:List Pr) (e:Ke):Prop where
 yesA:e.inA=true→(e.key,e.a)∈a
 noA:e.inA=false→e.a=0∧∀x∈a,x.1≠e.key
 yesB:e.inB=true→(e.key,e.b)∈b
 noB:e.inB=false→e.b=0∧∀x∈b,x.1≠e.key
 one:(e.inA||e.inB)=true
structure Mg (o:Int) (a b:List Pr) (m:List Ke):Prop where
 asc:(m.map (·.key)).Pairwise (ltO o)
 of:∀e∈m,KeOf a b e
 hasA:∀x∈a,∃e∈m,e.key=x.1
 hasB:∀x∈b,∃e∈m,e.key=x.1
theorem vW{o a b:Int}(h:ltO o a b):a≠b:=fun e=>by subst e;exact yJ h
theorem yC{o:Int}{e:Ke}{m:List Ke}(h:∀x∈m,ltO o e.key x.key)(hm:(m.map (·.key)).Pairwise (ltO o)):((e::m).map (·.key)).Pairwise (ltO o):=by
 rw [List.map_cons,List.pairwise_cons]
 exact ⟨fun k hk=>by obtain ⟨x,hx,rfl⟩:=List.mem_map.1 hk;exact h x hx,hm⟩
theorem aAh{k:Int}{x:Pr}{a:List Pr}(hx:x.1≠k)(h:∀z∈a,z.1≠k):∀z∈x::a,z.1≠k:=fun z hz=>by
 rcases List.mem_cons.1 hz with rfl | hz
 ·exact hx
 ·exact h z hz
theorem mg_of{o:Int}(ho:isO o=true)(a b:List Pr)(ha:(a.map (·.1)).Pairwise (ltO o))(hb:(b.map (·.1)).Pairwise (ltO o))(hIa:InP a)(hIb:InP b):Mg o a b (mg o a b):=by
 induction a,b using mg.induct o with
 | case1=>rw [mg];exact ⟨List.Pairwise.nil,(fun e he=>by cases he),(fun x hx=>by cases hx),(fun x hx=>by cases hx)⟩
 | case2 y b ih=>
  rw [mg]
  simp only [List.map_cons,List.pairwise_cons,List.mem_map,forall_exists_index,and_imp,forall_apply_eq_imp_iff₂] at hb
  have I:=ih ha hb.2 hIa fun x hx=>hIb x (by simp [hx])
  have hgt:∀e∈mg o [] b,ltO o y.1 e.key:=mg_key o [] b (fun x hx=>by cases hx) hb.1
  refine ⟨yC hgt I.asc,fun e he=>?_,(fun x hx=>by cases hx),fun x hx=>?_⟩
  ·rcases List.mem_cons.1 he with rfl | hm
   ·exact ⟨by simp,fun _=>⟨rfl,by simp⟩,fun _=>by simp,by simp,rfl⟩
   ·have K:=I.of e hm
    exact ⟨K.yesA,K.noA,fun g=>by simp [K.yesB g],fun g=>⟨(K.noB g).1,aAh (vW (hgt e hm)) (K.noB g).2⟩,K.one⟩
  ·rcases List.mem_cons.1 hx with rfl | h
   ·exact ⟨_,List.mem_cons_self,rfl⟩
   ·obtain ⟨e,he,hk⟩:=I.hasB x h;exact ⟨e,by simp [he],hk⟩
 | case3 x a ih=>
  rw [mg]
  simp only [List.map_cons,List.pairwise_cons,List.mem_map,forall_exists_index,and_imp,forall_apply_eq_imp_iff₂] at ha
  have I:=ih ha.2 hb (fun x hx=>hIa x (by simp [hx])) hIb
  have hgt:∀e∈mg o a [],ltO o x.1 e.key:=mg_key o a [] ha.1 (fun x hx=>by cases hx)
  refine ⟨yC hgt I.asc,fun e he=>?_,fun z hx=>?_,fun x hx=>by cases hx⟩
  ·rcases List.mem_cons.1 he with rfl | hm
   ·exact ⟨fun _=>by simp,by simp,by simp,fun _=>⟨rfl,by simp⟩,rfl⟩
   ·have K:=I.of e hm
    exact ⟨fun g=>by simp [K.yesA g],fun g=>⟨(K.noA g).1,aAh (vW (hgt e hm)) (K.noA g).2⟩,K.yesB,K.noB,K.one⟩
  ·rcases List.mem_cons.1 hx with rfl | h
   ·exact ⟨_,List.mem_cons_self,rfl⟩
   ·obtain ⟨e,he,hk⟩:=I.hasA z h;exact ⟨e,by simp [he],hk⟩
 | case4 x a y b h ih=>
  rw [mg,if_pos h]
  have ha':=ha
  have hb':=hb
  simp only [List.map_cons,List.pairwise_cons,List.mem_map,forall_exists_index,and_imp,forall_apply_eq_imp_iff₂] at ha' hb'
  have I:=ih ha'.2 hb (fun x hx=>hIa x (by simp [hx])) hIb
  have hyb:∀z∈y::b,ltO o x.1 z.1:=fun z hz=>by
   rcases List.mem_cons.1 hz with rfl | hz
   ·exact h
   ·exact sX h (hb'.1 z hz)
  have hgt:∀e∈mg o a (y::b),ltO o x.1 e.key:=mg_key o a (y::b) ha'.1 hyb
  refine ⟨yC hgt I.asc,fun e he=>?_,fun z hx=>?_,fun z hx=>?_⟩
  ·rcases List.mem_cons.1 he with rfl | hm
   ·exact ⟨fun _=>by simp,by simp,by simp,fun _=>⟨rfl,fun z hz=>(vW (hyb z hz)).symm⟩,rfl⟩
   ·have K:=I.of e hm
    exact ⟨fun g=>by simp [K.yesA g],fun g=>⟨(K.noA g).1,aAh (vW (hgt e hm)) (K.noA g).2⟩,K.yesB,K.noB,K.one⟩
  ·rcases List.mem_cons.1 hx with rfl | h
   ·exact ⟨_,List.mem_cons_self,rfl⟩
   ·obtain ⟨e,he,hk⟩:=I.hasA z h;exact ⟨e,by simp [he],hk⟩
  ·obtain ⟨e,he,hk⟩:=I.hasB z hx;exact ⟨e,by simp [he],hk⟩
 | case5 x a y b h h2 h3 ih=>
  rw [mg,if_neg h,if_pos h2,if_pos h3]
  simp only [List.map_cons,List.pairwise_cons,List.mem_map,forall_exists_index,and_imp,forall_apply_eq_imp_iff₂] at ha hb
  have I:=ih ha.2 hb.2 (fun x hx=>hIa x (by simp [hx])) (fun x hx=>hIb x (by simp [hx]))
  have hgt:∀e∈mg o a b,ltO o x.1 e.key:=mg_key o a b ha.1 (by rw [h3];exact hb.1)
  refine ⟨yC hgt I.asc,fun e he=>?_,fun z hx=>?_,fun z hx=>?_⟩
  ·rcases List.mem_cons.1 he with rfl | hm
   ·exact ⟨fun _=>by simp,by simp,fun _=>by simp [h3],by simp,rfl⟩
   ·have K:=I.of e hm
    exact ⟨fun g=>by simp [K.yesA g],fun g=>⟨(K.noA g).1,aAh (vW (hgt e hm)) (K.noA g).2⟩,
       fun g=>by simp [K.yesB g],fun g=>⟨(K.noB g).1,aAh (by rw [←h3];exact vW (hgt e hm)) (K.noB g).2⟩,K.one⟩
  ·rcases List.mem_cons.1 hx with rfl | h
   ·exact ⟨_,List.mem_cons_self,rfl⟩
   ·obtain ⟨e,he,hk⟩:=I.hasA z h;exact ⟨e,by simp [he],hk⟩
  ·rcases List.mem_cons.1 hx with rfl | h
   ·exact ⟨_,List.mem_cons_self,h3⟩
   ·obtain ⟨e,he,hk⟩:=I.hasB z h;exact ⟨e,by simp [he],hk⟩
 | case6 x a y b h h2 h3 ih=>exact absurd (aCf ho (hIa x (by simp)).1 (hIb y (by simp)).1 h2) h3
 | case7 x a y b h h2 ih=>
  rw [mg,if_neg h,if_neg h2]
  have hlt:ltO o y.1 x.1:=xZ (by omega)
  have ha':=ha
  simp only [List.map_cons,List.pairwise_cons,List.mem_map,forall_exists_index,and_imp,forall_apply_eq_imp_iff₂] at ha' hb
  have I:=ih ha hb.2 hIa (fun x hx=>hIb x (by simp [hx]))
  have hxa:∀z∈x::a,ltO o y.1 z.1:=fun z hz=>by
   rcases List.mem_cons.1 hz with rfl | hz
   ·exact hlt
   ·exact sX hlt (ha'.1 z hz)
  have hgt:∀e∈mg o (x::a) b,ltO o y.1 e.key:=mg_key o (x::a) b hxa hb.1
  refine ⟨yC hgt I.asc,fun e he=>?_,fun z hx=>?_,fun z hx=>?_⟩
  ·rcases List.mem_cons.1 he with rfl | hm
   ·exact ⟨by simp,fun _=>⟨rfl,fun z hz=>(vW (hxa z hz)).symm⟩,fun _=>by simp,by simp,rfl⟩
   ·have K:=I.of e hm
    exact ⟨K.yesA,K.noA,fun g=>by simp [K.yesB g],fun g=>⟨(K.noB g).1,aAh (vW (hgt e hm)) (K.noB g).2⟩,K.one⟩
  ·obtain ⟨e,he,hk⟩:=I.hasA z hx;exact ⟨e,by simp [he],hk⟩
  ·rcases List.mem_cons.1 hx with rfl | h
   ·exact ⟨_,List.mem_cons_self,rfl⟩
   ·obtain ⟨e,he,hk⟩:=I.hasB z h;exact ⟨e,by simp [he],hk⟩
theorem aLo{o:Int}{a b:List Pr}(ha:mayR o a=true)(hb:mayR o b=true)(hIa:InP a)(hIb:InP b):Mg o a b (mg o a b):=
 mg_of (xL ha) a b (sG.1 ha).2 (sG.1 hb).2 hIa hIb
def wantK(p:Int)(want:Ke→Bool)(k:Int):Option Int→Option Int→Option Int
 | none,none=>none
 | some x,none=>if want ⟨k,x,0,true,false⟩ then some x else none
 | none,some y=>if want ⟨k,0,y,false,true⟩ then some y else none
 | some x,some y=>if want ⟨k,x,y,true,true⟩ then some (comb p x y) else none
theorem sZ{o p:Int}{want:Ke→Bool}{a b:List Pr}(ha:mayR o a=true)(hb:mayR o b=true)(hIa:InP a)(hIb:InP b):mayR o (someL o p want a b)=true:=by
 rw [sG]
 refine ⟨xL ha,?_⟩
 have h:=(aLo ha hb hIa hIb).asc
 unfold someL outL
 rw [List.map_map]
 exact List.Pairwise.sublist ((List.filter_sublist).map _) h
theorem aMx{x:Int}(h:In x):IntKind.wrap .i64 x=x:=by
 unfold In at h
 exact qB (by omega) (by omega)
theorem KeOf.lkA{o:Int}{a b:List Pr}{e:Ke}(h:KeOf a b e)(ha:mayR o a=true):lk o a e.key=if e.inA then some e.a else none:=by
 cases g:e.inA
 ·rw [if_neg (by simp)];exact (aIk ha).2 (h.noA g).2
 ·rw [if_pos rfl];exact (tL ha).2 (h.yesA g)
theorem KeOf.lkB{o:Int}{a b:List Pr}{e:Ke}(h:KeOf a b e)(hb:mayR o b=true):lk o b e.key=if e.inB then some e.b else none:=by
 cases g:e.inB
 ·rw [if_neg (by simp)];exact (aIk hb).2 (h.noB g).2
 ·rw [if_pos rfl];exact (tL hb).2 (h.yesB g)
theorem KeOf.wantK{o p:Int}{want:Ke→Bool}{a b:List Pr}{e:Ke}(h:KeOf a b e)(ha:mayR o a=true)(hb:mayR o b=true)(hIa:InP a)(hIb:InP b):
  wantK p want e.key (lk o a e.key) (lk o b e.key)=if want e then some (valK p e) else none:=by
 rw [h.lkA ha,h.lkB hb]
 obtain ⟨k,x,y,ia,ib⟩:=e
 have hx:ia=true→In x:=fun g=>(hIa _ (h.yesA g)).2
 have hy:ib=true→In y:=fun g=>(hIb _ (h.yesB g)).2
 have h0a:ia=false→x=0:=fun g=>(h.noA g).1
 have h0b:ib=false→y=0:=fun g=>(h.noB g).1
 have hs:=h.one
 cases ia <;> cases ib
 ·simp at hs
 ·have:=h0a rfl;subst this
  simp only [if_true,Bool.false_eq_true,if_false,Proofs.YtmdboekndjlmgaaGreat.wantK,valK,Bool.false_and,Int.zero_add,aMx (hy rfl)]
 ·have:=h0b rfl;subst this
  simp only [if_true,Bool.false_eq_true,if_false,Proofs.YtmdboekndjlmgaaGreat.wantK,valK,Bool.and_false,Int.add_zero,aMx (hx rfl)]
 ·simp [Proofs.YtmdboekndjlmgaaGreat.wantK,valK]
theorem vP{o p:Int}{want:Ke→Bool}{a b:List Pr}(ha:mayR o a=true)(hb:mayR o b=true)(hIa:InP a)(hIb:InP b)(k:Int):
  lk o (someL o p want a b) k=wantK p want k (lk o a k) (lk o b k):=by
 have hs:=sZ (p:=p) (want:=want) ha hb hIa hIb
 have M:=aLo ha hb hIa hIb
 have key:∀v,lk o (someL o p want a b) k=some v→wantK p want k (lk o a k) (lk o b k)=some v:=fun v hv=>by
  rw [tL hs] at hv
  unfold someL outL at hv
  obtain ⟨e,he,hev⟩:=List.mem_map.1 hv
  obtain ⟨he,hw⟩:=List.mem_filter.1 he
  injection hev with h1 h2
  have:=(M.of e he).wantK (p:=p) (want:=want) ha hb hIa hIb
  rw [h1,hw,h2] at this
  exact this
 cases hv:lk o (someL o p want a b) k with
 | some v=>exact (key v hv).symm
 | none=>
  cases hw:wantK p want k (lk o a k) (lk o b k) with
  | none=>rfl
  | some v=>
   exfalso
   have he:∃e∈mg o a b,e.key=k:=by
    cases hA:lk o a k with
    | some x=>exact M.hasA _ ((tL ha).1 hA)
    | none=>
     cases hB:lk o b k with
     | some y=>exact M.hasB _ ((tL hb).1 hB)
     | none=>rw [hA,hB] at hw;cases hw
   obtain ⟨e,he,rfl⟩:=he
   have:=(M.of e he).wantK (p:=p) (want:=want) ha hb hIa hIb
   rw [hw] at this
   cases hwe:want e
   ·rw [hwe] at this;cases this
   ·rw [hwe] at this
    have hmem:(e.key,valK p e)∈someL o p want a b:=List.mem_map.2 ⟨e,List.mem_filter.2 ⟨he,hwe⟩,rfl⟩
    have:=(tL hs).2 hmem
    rw [hv] at this;cases this
def addO(p:Int)(v:Option Int)(y:Int):Option Int:=some (match v with | none=>y | some x=>comb p x y)
theorem aJl{o p:Int}(ho:isO o=true)(hp:may p=true)(k:Int):∀(l:List Pr) (r:List Pr),mayR o r=true→InP r→InP l→
  lk o (l.foldl (fun r x=>putR o p r x) r) k=((l.filter fun x=>x.1==k).map (·.2)).foldl (addO p) (lk o r k)
 | [],r,_,_,_=>rfl
 | x::l,r,hm,hI,hl=>by
  have hx:=hl x (by simp)
  rw [List.foldl_cons,aJl ho hp k l _ (aBo hm hp hI hx.1) (aLk hm hp hI hx) fun y hy=>hl y (by simp [hy]),lk_put hm hp hI hx.1]
  by_cases hk:k=x.1
  ·rw [if_pos hk,List.filter_cons_of_pos (by simp [hk])];rfl
  ·rw [if_neg hk,List.filter_cons_of_neg (by simp;exact fun e=>hk e.symm)]
theorem tJ{o:Int}(ho:isO o=true):mayR o []=true:=by simp [mayR,ho,chain]
theorem xO{o p:Int}(ho:isO o=true)(hp:may p=true){l:List Pr}(hl:InP l)(k:Int):lk o (sC o p l) k=((l.filter fun x=>x.1==k).map (·.2)).foldl (addO p) none:=by
 have:=aJl ho hp k l [] (tJ ho) (by intro x hx;cases hx) hl
 rw [lk_nil] at this
 exact this
theorem aLd{o p:Int}(ho:isO o=true)(hp:may p=true){l l':List Pr}(hl:InP l)(h:Stab l' l):sC o p l'=sC o p l:=by
 have hl':InP l':=fun x hx=>hl x ((h.mem x).1 hx)
 exact aAb (sO ho hp hl').1 (sO ho hp hl).1 fun k=>by rw [xO ho hp hl',xO ho hp hl,h k]
theorem put_end{o p:Int}{r:List Pr}{x:Pr}(hm:mayR o r=true)(hp:may p=true)(h:∀y∈r,ltO o y.1 x.1):putR o p r x=r++[x]:=by
 have hh:hasR o r x.1=false:=by
  cases hq:hasR o r x.1
  ·rfl
  ·obtain ⟨i,hi,e⟩:=(wT hm).1 hq
   exact absurd e (vW (h _ (List.getElem_mem hi)))
 have hpos:posR o r x.1=r.length:=by
  unfold posR;rw [hm,cond_true]
  exact aCb (Nat.le_refl _) (fun i hi _=>h _ (List.getElem_mem hi)) fun hi=>absurd hi (Nat.lt_irrefl _)
 rw [xP hm hp hh,hpos,List.take_length,List.drop_length]
theorem put_last{o p:Int}{r:List Pr}{x:Pr}(hm:mayR o r=true)(hp:may p=true)(h0:0 < r.length)(h:(r[r.length - 1]).1=x.1):
  putR o p r x=r.set (r.length - 1) ((r[r.length - 1]).1,comb p (r[r.length - 1]).2 x.2):=by
 have:=pos_at hm (show r.length - 1 < r.length by omega)
 rw [h] at this
 rw [aAc hm hp this.2.1,this.1,this.2.2,h]
theorem sortL_keys{o p:Int}(ho:isO o=true)(hp:may p=true){l:List Pr}(hl:InP l):∀y∈sC o p l,∃z∈l,z.1=y.1:=fun y hy=>by
 have:=(tL (sO ho hp hl).1 (k:=y.1) (v:=y.2)).2 hy
 rw [xO ho hp hl] at this
 cases hf:l.filter (fun x=>x.1==y.1) with
 | nil=>rw [hf] at this;cases this
 | cons z t=>
  have hz:z∈l.filter (fun x=>x.1==y.1):=by rw [hf];simp
  have:=List.mem_filter.1 hz
  exact ⟨z,this.1,by simpa using this.2⟩
theorem c_srt1{o:Int}{b:Nat}{w0:World}(h:Blk w0 b #[.int .u8 o] 5):Cmp o w0 (.func 145) #[] #[.pointer (some (blk b))]:=by
 intro x y hx hy w e R h'
 refine uE call145 (by rfl) (sh145_ok ?_)
 unfold sh145
 refine ⟨⟨?_⟩⟩
 have e1:=pQ w (.cells #[.int .i64 x.1,.int .i64 x.2] 63)
 have h1:=pS w #[.int .i64 x.1,.int .i64 x.2] 63
 generalize hb1:w.heap.size=b1 at *
 generalize w.alloc (.cells #[.int .i64 x.1,.int .i64 x.2] 63)=w1 at *
 have e2:=pQ w1 (.cells #[.int .i64 y.1,.int .i64 y.2] 63)
 have h2:=pS w1 #[.int .i64 y.1,.int .i64 y.2] 63
 generalize hb2:w1.heap.size=b2 at *
 generalize w1.alloc (.cells #[.int .i64 y.1,.int .i64 y.2] 63)=w2 at *
 refine ⟨_,(h.ext ((e.trans e1).trans e2)).cell (i:=0) rfl rfl,_,(h1.ext e2).cell (i:=0) (pU _ _) rfl,_,h2.cell (i:=0) (pU _ _) rfl,?_⟩
 exact pP call54 (vK hx hy fun w3 e3=>pN ⟨_,rfl,h' _ ((e1.trans e2).trans e3)⟩)
theorem c_rsort{o p:Int}{l:List Pr}{q:OA}{n c:Nat}(hl:Cs w q (prs l))(hn:l.length=n)(hm:n≤1000000)(hI:InP l)
  (h:∀p' n' c' w',OwnP w' w.heap.size p' n' c' (cond (isO o&&may p) (sC o p l) [])→Ext w w'→R (.returned (.tuple #[.slice p' n' c',.int .i64 (cond (isO o&&may p) 0 2)])) w') :
  Calls prog 106 #[.int .u8 o,.int .u8 p,.slice q n c] w R:=by
 refine sh106_ok ?_
 unfold sh106
 refine ⟨?_⟩
 have e1:=pQ w (.cells #[.int .u8 o] 5)
 have h1:=pS w #[.int .u8 o] 5
 generalize w.heap.size=b1 at h1
 generalize w.alloc (.cells #[.int .u8 o] 5)=w1 at *
 refine ⟨_,h1.cell (i:=0) rfl rfl,?_⟩
 refine pP call30 (aMn fun w2 e2=>pN ⟨_,rfl,?_⟩)
 rw [aAy]
 cases ho:isO o
 ·refine pZ rfl ?_
  have hr:=h none 0 0 w2
  rw [ho,Bool.false_and] at hr
  exact hr (qH _ _) (e1.trans e2)
 refine pY rfl ?_
 refine pP call118 (aJe fun w3 e3=>pN ⟨_,rfl,?_⟩)
 cases hp:may p
 ·refine pZ rfl ?_
  have hr:=h none 0 0 w3
  rw [ho,hp,Bool.and_false] at hr
  exact hr (qH _ _) ((e1.trans e2).trans e3)
 refine pY rfl ?_
 rw [ho,hp] at h
 simp only [Bool.and_self,cond_true] at h
 have E3:=(e1.trans e2).trans e3
 have h3:=(h1.ext e2).ext e3
 clear e1 e2 e3
 refine pP call27 (yR (hl.ext E3) hn (by omega) fun q4 c4 w4 g4 e4=>pN ⟨_,_,_,rfl,?_⟩)
 refine pP call144 (aIw (o:=o) (w0:=w3) (B:=w3.heap.size) (Nat.le_refl _) (by omega) (c_srt1 h3) ho (l:=l) ⟨g4,e4,fun x hx=>(hI x hx).1⟩ fun w5 S hS hst hw5=>pN ⟨rfl,?_⟩)
 have E5:=E3.trans hw5.ext
 have hIS:InP S:=fun x hx=>hI x ((hst.mem x).1 hx)
 have hSn:S.length=n:=hw5.len
 have hsrc:=rB hw5.own
 have hsz5:w.heap.size≤w5.heap.size:=E5.size
 clear h1 h3 g4 e4 hl
 refine ⟨fun vs w'=>∃(i nn cc:Nat) (qq:OA),vs=[.slice qq nn cc,.int .i64 i]∧i≤n∧Ext w5 w'∧OwnP w' w5.heap.size qq nn cc (sC o p (S.take i)),
  fun vs _=>n - (intOf (vs.getD 1 undef)).toNat,⟨0,0,0,none,rfl,by omega,pR _,qH _ _⟩,?_⟩
 rintro q' n' c' x' _ w6 ⟨i,nn,cc,qq,hv,hi,e6,hrow⟩
 simp only [List.cons.injEq,Value.slice.injEq,Value.int.injEq,true_and,and_true] at hv
 obtain ⟨⟨rfl,rfl,rfl⟩,rfl⟩:=hv
 refine pO (fun hlt=>?_) fun hge=>?_
 rotate_left
 ·have hge:¬(i:Int) < n:=of_decide_eq_false hge
  rw [List.take_of_length_le (by omega),aLd ho hp hI hst] at hrow
  exact h _ _ _ _ (rO hrow hsz5) (E5.trans e6)
 have hlt:i < n:=by have:=of_decide_eq_true hlt;omega
 have hi':i < S.length:=by omega
 have hinv:∀x∈S.take i,In x.1∧In x.2:=fun x hx=>hIS x (List.mem_of_mem_take hx)
 obtain ⟨m1,m2,m3⟩:=sO (p:=p) ho hp hinv
 have hkeys:=sortL_keys ho hp hinv
 have hxI:=hIS _ (List.getElem_mem hi')
 have hle:∀y∈sC o p (S.take i),qC o y.1≤qC o S[i].1:=fun y hy=>by
  obtain ⟨z,hz,e⟩:=hkeys y hy
  obtain ⟨j,hj,e'⟩:=List.getElem_of_mem hz
  rw [List.length_take] at hj
  rw [←e,←e',List.getElem_take]
  exact tQ hS (by omega) hi'
 have hstep:sC o p (S.take (i+1))=putR o p (sC o p (S.take i)) S[i]:=aEf hi'
 rw [List.length_take] at m3
 have hrl:=qF hrow
 have hcap:n'≤n:=by omega
 generalize hr0:sC o p (S.take i)=r at *
 refine rI (hsrc.ext e6) hSn rfl hlt fun a r1 r2 _=>⟨_,r1,_,r2,⟨?_⟩⟩
 have e7:=pQ w6 (.cells #[.int .i64 0,.int .i64 0] 63)
 refine vX (pS w6 _ _) fun w8 h8 g8=>?_
 have E8:Ext w6 w8:=e7.st g8 (Nat.le_refl _)
 generalize hbx:w6.heap.size=bx at *
 have hrow8:=E8.row hrow
 have hnext:IntKind.wrap .i64 ((i:Int)+1)=((i+1:Nat):Int):=pW (n:=n) (by omega) (by omega)
 have hmu:n - (intOf ((([.slice q' n' c',.int .i64 ((i+1:Nat):Int)]:List Value)).getD 1 undef)).toNat < n - (intOf ((([.slice q' n' c',.int .i64 (i:Int)]:List Value)).getD 1 undef)).toNat:=by
  show n - (((i+1:Nat):Int)).toNat < n - ((i:Nat):Int).toNat
  omega
 have hbsz:w5.heap.size≤bx:=by rw [←hbx];exact e6.size
 -- a new key
 have hnew:∀w',Ext w8 w'→(∀y∈r,ltO o y.1 S[i].1)→∃(x41:Int),World.cell? w' ((blk bx).add 0)=some (.int .i64 x41)∧(
  ∃(x42:Int),World.cell? w' ((blk bx).add 1)=some (.int .i64 x42)∧(
  doAl (.cells #[.int .i64 x41,.int .i64 x42] 63) w' (fun b43 w44=>
  doGo prog (.builtin .append #[22,22] 22 #[false,false]) #[.slice q' n' c',.slice (some (blk b43)) 1 1] w44 (retS (fun v48 w49=>∃(xp45:OA),∃(xn46:Nat),∃(xc47:Nat),v48=(.slice xp45 xn46 xc47:Value)∧(
   (∃(i' nn cc:Nat) (qq:OA),([.slice xp45 xn46 xc47,.int .i64 (IntKind.wrap .i64 ((i:Int)+1))]:List Value)=[.slice qq nn cc,.int .i64 i']∧i'≤n∧Ext w5 w49∧OwnP w49 w5.heap.size qq nn cc (sC o p (S.take i')))∧
   n - (intOf (([.slice xp45 xn46 xc47,.int .i64 (IntKind.wrap .i64 ((i:Int)+1))]:List Value).getD 1 undef)).toNat < n - (intOf (([.slice q' n' c',.int .i64 (i:Int)]:List Value).getD 1 undef)).toNat)) (fun ch w=>Kfn R ch [] w))))):=by
  intro w' e9 hall
  have h9:=h8.ext e9
  refine ⟨_,h9.cell (i:=0) (pU _ _) rfl,_,h9.cell (i:=1) (pU _ _) rfl,⟨?_⟩⟩
  have e10:=pQ w' (.cells #[.int .i64 S[i].1,.int .i64 S[i].2] 63)
  have hrow10:=(e9.trans e10).row hrow8
  refine wX elP hrow10 (m:=1) (qY w' _ _) (by simp) (by simp [Value.oneCell']) (by simp only [maxLen];omega) (by omega) (Nat.le_trans e6.size (Nat.le_trans E8.size (e9.trans e10).size)) fun q11 c11 w11 h11 g11=>pN ⟨_,_,_,rfl,?_⟩
  rw [hnext]
  refine ⟨⟨i+1,n'+1,c11,q11,rfl,by omega,?_,?_⟩,?_⟩
  ·exact tS hrow10 (((e6.trans E8).trans e9).trans e10) g11 (Nat.le_refl _)
  ·rw [hstep,put_end m1 hp hall]
   unfold OwnP;rw [rH];exact h11
  ·show n - (((i+1:Nat):Int)).toNat < n - ((i:Nat):Int).toNat
   omega
 refine ⟨⟨fun w'=>Ext w8 w',pT _,?_⟩⟩
 refine pO (fun h0=>?_) fun h0=>?_
 ·have h0:n'=0:=by simpa using h0
  refine pZ rfl (hnew _ (pT _) ?_)
  have:r=[]:=List.eq_nil_of_length_eq_zero (by omega)
  subst this;intro y hy;cases hy
 have h0:0 < n':=by
            have:¬n'=0:=by simpa using h0
            omega
 have hw1:IntKind.wrap .i64 ((n':Int) - 1)=((n' - 1:Nat):Int):=by rw [qB (by omega) (by omega)];omega
 rw [hw1]
 refine qZ (fun w' e'=>(rB hrow8).ext e') (pR _) hrl (k:=n' - 1) rfl (by omega) fun a s1 _=>⟨_,s1,_,fun w' e'=>(h8.ext e').cell (i:=0) (pU _ _) rfl,?_⟩
 refine pO (fun hne=>?_) fun heq=>?_
 ·have hne:(r[n' - 1]'(by omega)).1≠S[i].1:=by simpa using hne
  refine hnew _ (pT _) fun y hy=>?_
  have hlast:ltO o (r[n' - 1]'(by omega)).1 S[i].1:=by
   have h1:=hle _ (List.getElem_mem (show n' - 1 < r.length by omega))
   show cmpI o _ _ < 0
   rw [wY ho]
   rcases Int.lt_or_le (qC o (r[n' - 1]'(by omega)).1) (qC o S[i].1) with h | h
   ·exact h
   ·exfalso
    refine hne (aCf ho (m2 _ (List.getElem_mem _)).1 hxI.1 ?_)
    have k1:¬cmpI o (r[n' - 1]'(by omega)).1 S[i].1 < 0:=by rw [wY ho];omega
    have k2:¬0 < cmpI o (r[n' - 1]'(by omega)).1 S[i].1:=fun k=>by
     have:=xZ k
     rw [wY ho] at this;omega
    omega
  obtain ⟨j,hj,e⟩:=List.getElem_of_mem hy
  rcases Nat.lt_or_ge j (n' - 1) with hjl | hjl
  ·rw [←e];exact sX (vU (tK m1) hjl (by omega)) hlast
  ·have:j=n' - 1:=by omega
   subst this;rw [←e];exact hlast
 have heq:(r[n' - 1]'(by omega)).1=S[i].1:=by simpa using heq
 refine ⟨⟨fun w'=>Ext w8.drew w',pT _,?_⟩⟩
 have e9:=pT w8
 refine qZ (fun w' e'=>((rB hrow8).ext e9).ext e') (pR _) hrl (k:=n' - 1) rfl (by omega) fun a _ s2=>⟨_,s2,_,fun w' e'=>((h8.ext e9).ext e').cell (i:=1) (pU _ _) rfl,?_⟩
 refine pP call142 (aMo fun w11 e11=>pN ⟨_,_,rfl,?_⟩)
 rw [hp,cond_true]
 have E11:=(e9.trans (pT _)).trans e11
 have hrow11:=E11.row hrow8
 refine rI (rB hrow11) hrl (k:=n' - 1) rfl (by omega) fun a' _ _ ha'=>?_
 refine aNk hrow11 (by omega) ha' fun w12 h12 g12=>?_
 rw [hnext]
 refine ⟨⟨i+1,n',c',q',rfl,by omega,tS hrow11 ((e6.trans E8).trans E11) g12 (Nat.le_refl _),?_⟩,hmu⟩
 rw [hstep,put_last m1 hp (by omega) (by simpa [hrl] using heq)]
 simp only [hrl]
 exact h12
theorem do_append2{P:Program}{t e:TypeId}{z:Value}{size bytes:Nat}(E:ElT P t e z size bytes){base:Nat}{v:Value}{n:Nat}{xs:List Value}
  (hown:w.ownsRow base e size v n xs) {ad:Addr} {m c:Nat} {news:List Value} (hnews:Cs w (some ad) news) (hl:news.length=m * size) (h1:∀u∈news,u.oneCell'=true) (hm0:0 < m)
  (h63:n+m≤maxLen) (hbytes:(n+m) * bytes≤140737488355328) (hbase:base≤w.heap.size) {bs:Array Bool} {R:EW}
  (h:∀p c w',w'.ownsRow base e size (.slice p (n+m) c) (n+m) (xs++news)→w.grownBy w' v.ownBlock→((Value.slice p (n+m) c).ownBlock=v.ownBlock∨(Value.slice p (n+m) c).ownBlock=some w.heap.size)→R (.returned (.slice p (n+m) c)) w') :
  doGo P (.builtin .append #[t,t] t bs) #[v,.slice (some ad) m c] w R:=by
 obtain ⟨i,hi,hz,hsz,hby⟩:=E.hi
 have hnews':∀j u,news[j]?=some u→w.cell? (ad.add j)=some u:=fun j u hu=>by obtain ⟨a,ha,hc⟩:=hnews j u hu;cases ha;exact hc
 obtain ⟨v',w',hr,h2,h3,_⟩:=run_append_own (P:=P) w base t t e i z size bytes E.ht hi hz hsz hby E.hz E.hs v n xs hown ad m c news hl hnews' h1 h63 hbytes hbase
 obtain ⟨p,c',rfl⟩:=uZ h2
 refine vF hr (h p c' w' h2 h3 ?_)
 have hmax:n+m≤9223372036854775807:=by simp only [maxLen] at h63;omega
 subst hsz
 subst hby
 rcases hown.2 with ⟨rfl,rfl⟩ | ⟨g,cap,cur,rfl,hbg,hg,hnc,hcm,hcs,htake⟩
 ·have:=run_append_nil (P:=P) w t t e i z E.ht hi hz ad m c news hl hnews' hm0 (by omega) (by have hb:=hbytes;rw [Nat.zero_add] at hb;omega)
  rw [this] at hr
  injection hr with hr1 _
  right;rw [←hr1];rfl
 ·by_cases hroom:n+m≤cap
  ·have:=run_append_room (P:=P) w t t e i E.ht hi g n cap cur hg ad m c news hl hnews' h1 hroom (by rw [hl,hcs,←Nat.add_mul];exact Nat.mul_le_mul_right _ hroom)
   rw [this] at hr
   injection hr with hr1 _
   left;rw [←hr1];rfl
  ·have:=run_append_grow (P:=P) w t t e i z E.ht hi hz ⟨g,0,none⟩ n cap xs hown.1 (hown.cells (g:=g) rfl) ad m c news hl hnews' (by omega) (by omega) (growslice_fits (by omega) hbytes)
   rw [this] at hr
   injection hr with hr1 _
   right;rw [←hr1];rfl
theorem do_app1{q:OA}{n c base:Nat}{r:List Pr}(hrow:OwnP w base q n c r)(hn:n≤1000000000000)(hb:base≤w.heap.size){u v:Int}{Kf:Value→World→Prop}{F:List PanicEntry→World→Prop}
  (k:∀q' c' w',OwnP w' base q' (n+1) c' (r++[(u,v)])→(∀w0,Ext w0 w→w0.heap.size≤base→Ext w0 w')→w.grownBy w' (Value.slice q n c).ownBlock→
   ((Value.slice q' (n+1) c').ownBlock=(Value.slice q n c).ownBlock∨∀k,(Value.slice q' (n+1) c').ownBlock=some k→w.heap.size≤k)→Kf (.slice q' (n+1) c') w') :
  doAl (.cells #[.int .i64 u,.int .i64 v] 63) w (fun b w2=>doGo prog (.builtin .append #[22,22] 22 #[false,false]) #[.slice q n c,.slice (some (blk b)) 1 1] w2 (retS Kf F)):=by
 refine ⟨?_⟩
 have e1:=pQ w (.cells #[.int .i64 u,.int .i64 v] 63)
 have hrow1:=e1.row hrow
 refine do_append2 elP hrow1 (m:=1) (qY w _ _) (by simp) (by simp [Value.oneCell']) (by omega) (by simp only [maxLen];omega) (by omega) (Nat.le_trans hb e1.size) fun p' c' w' h2 g2 hor=>pN (k p' c' w' ?_ ?_ ?_ ?_)
 ·unfold OwnP;rw [rH];exact h2
 ·intro w0 e0 hb0
  exact tS hrow1 (e0.trans e1) g2 hb0
 ·have ga:w.grownBy (w.alloc (.cells #[.int .i64 u,.int .i64 v] 63)) (Value.slice q n c).ownBlock:=World.grownBy_alloc _ _ _
  exact pX ga g2
 ·rcases hor with h | h
  ·exact .inl h
  ·right;intro k hk;rw [h] at hk;cases hk;exact e1.size
section
variable {o p:Int} {a b:List Pr} {qa qb:OA} {na ca nb cb:Nat} {w:World} {R:EW}
theorem c_r5both(hla:Cs w qa (prs a))(hna:a.length=na)(hma:na≤1000000000000)(hIa:InP a)(hlb:Cs w qb (prs b))(hnb:b.length=nb)(hmb:nb≤1000000000000)(hIb:InP b)
  (h:∀w',Ext w w'→R (.returned (.bool (mayR o a&&mayR o b))) w'):Calls prog 91 #[.int .u8 o,.slice qa na ca,.slice qb nb cb] w R:=by
 refine sh91_ok ?_
 unfold sh91
 refine pP call88 (wE hla hna hma hIa fun w1 e1=>pN ⟨_,rfl,?_⟩)
 cases ha:mayR o a
 ·have:=h w1 e1
  rw [ha] at this
  exact pY rfl this
 ·refine pZ rfl (pP call88 (wE (hlb.ext e1) hnb hmb hIb fun w2 e2=>pN ⟨_,rfl,?_⟩))
  have:=h w2 (e1.trans e2)
  rw [ha,Bool.true_and] at this
  exact this
def r5un(o p:Int)(a b:List Pr):List Pr:=cond (mayR o a&&mayR o b&&may p) (sC o p (a++b)) []
theorem c_r5un(hla:Cs w qa (prs a))(hna:a.length=na)(hma:na≤1000000)(hIa:InP a)(hlb:Cs w qb (prs b))(hnb:b.length=nb)(hmb:nb≤1000000)(hIb:InP b)
  (h:∀p' n' c' w',OwnP w' w.heap.size p' n' c' (r5un o p a b)→Ext w w'→R (.returned (.tuple #[.slice p' n' c',.int .i64 (setE o p a b)])) w') :
  Calls prog 42 #[.int .u8 o,.int .u8 p,.slice qa na ca,.slice qb nb cb] w R:=by
 refine sh42_ok ?_
 unfold sh42
 refine pP call91 (c_r5both hla hna (by omega) hIa hlb hnb (by omega) hIb fun w1 e1=>pN ⟨_,rfl,?_⟩)
 cases hb:(mayR o a&&mayR o b)
 ·refine pZ rfl ?_
  have:=h none 0 0 w1
  unfold r5un setE at this
  rw [hb,Bool.false_and] at this
  exact this (qH _ _) e1
 refine pY rfl ?_
 have ho:isO o=true:=by
  have:mayR o a=true:=by cases ha:mayR o a <;> simp [ha] at hb ⊢
  exact xL this
 refine wX elP (World.ownsRow_nil w1 w1.heap.size 63 2) (m:=na) (hla.ext e1) (by rw [aEr];omega) tE (by simp only [maxLen];omega) (by omega) (Nat.le_refl _) fun q2 c2 w2 h2 g2=>pN ⟨_,_,_,rfl,?_⟩
 have e2:Ext w1 w2:=(pR w1).grown g2 (by intro k hk;cases hk)
 refine wX elP h2 (m:=nb) ((hlb.ext e1).ext e2) (by rw [aEr];omega) tE (by simp only [maxLen];omega) (by omega) e2.size fun q3 c3 w3 h3 g3=>pN ⟨_,_,_,rfl,?_⟩
 have e3:Ext w1 w3:=e2.grown g3 (fun k hk=>(World.ownsRow.lt h2 k hk).1)
 rw [List.nil_append,←rH] at h3
 have hIab:InP (a++b):=fun x hx=>by
  rcases List.mem_append.1 hx with hx | hx
  ·exact hIa x hx
  ·exact hIb x hx
 refine pP call40 (aFw (l:=a++b) (Cs.of_row h3) (by simp;omega) (by omega) hIab fun p4 n4 c4 w4 h4 e4=>pN ⟨_,_,_,_,rfl,?_⟩)
 have:=h p4 n4 c4 w4
 unfold r5un setE at this
 rw [hb,Bool.true_and] at this
 rw [ho,Bool.true_and] at h4 ⊢
 exact this (rO h4 (Nat.le_trans e1.size e3.size)) ((e1.trans e3).trans e4)
def meetF(o p:Int)(b:List Pr)(x:Pr):Option Pr:=if hasR o b x.1 then some (x.1,comb p x.2 (getR o b x.1)) else none
def r5me(o p:Int)(a b:List Pr):List Pr:=cond (mayR o a&&mayR o b&&may p) (a.filterMap (meetF o p b)) []
theorem take_filterMap{f:Pr→Option Pr}{l:List Pr}{i:Nat}(hi:i < l.length):(l.take (i+1)).filterMap f=(l.take i).filterMap f++(f l[i]).toList:=by
 rw [←List.take_append_getElem hi,List.filterMap_append]
 cases hf:f l[i] with
 | none=>rw [List.filterMap_cons_none hf];rfl
 | some v=>rw [List.filterMap_cons_some hf];rfl
theorem fm_len(f:Pr→Option Pr)(l:List Pr):(l.filterMap f).length≤l.length:=List.length_filterMap_le f l
def PickI(w1:World)(a:List Pr)(f:Pr→Option Pr)(n:Nat)(vs:List Value)(w':World):Prop:=
 ∃(i nn cc:Nat) (qq:OA),vs=[.slice qq nn cc,.int .i64 i]∧i≤n∧Ext w1 w'∧OwnP w' w1.heap.size qq nn cc ((a.take i).filterMap f)
theorem pick_start{w1:World}{a:List Pr}{f:Pr→Option Pr}{n:Nat}:PickI w1 a f n [.slice none 0 0,.int .i64 0] w1:=
 ⟨0,0,0,none,rfl,Nat.zero_le _,pR _,by rw [List.take_zero];exact qH _ _⟩
def pickM(n:Nat)(vs:List Value):Nat:=n - (intOf (vs.getD 1 undef)).toNat
theorem pick_mu{n i:Nat}{u v:Value}(h:i < n):pickM n [u,.int .i64 ((i+1:Nat):Int)] < pickM n [v,.int .i64 (i:Int)]:=by
 show n - (((i+1:Nat):Int)).toNat < n - ((i:Nat):Int).toNat
 omega
theorem c_r5me(hla:Cs w qa (prs a))(hna:a.length=na)(hma:na≤1000000)(hIa:InP a)(hlb:Cs w qb (prs b))(hnb:b.length=nb)(hmb:nb≤1000000)(hIb:InP b)
  (h:∀p' n' c' w',OwnP w' w.heap.size p' n' c' (r5me o p a b)→Ext w w'→R (.returned (.tuple #[.slice p' n' c',.int .i64 (setE o p a b)])) w') :
  Calls prog 43 #[.int .u8 o,.int .u8 p,.slice qa na ca,.slice qb nb cb] w R:=by
 refine sh43_ok ?_
 unfold sh43
 refine pP call91 (c_r5both hla hna (by omega) hIa hlb hnb (by omega) hIb fun w1 e1=>pN ⟨_,rfl,?_⟩)
 cases hb:(mayR o a&&mayR o b)
 ·refine pZ rfl ?_
  have:=h none 0 0 w1
  unfold r5me setE at this
  rw [hb,Bool.false_and] at this
  exact this (qH _ _) e1
 refine pY rfl ?_
 refine pP call89 (aIy (pN ⟨_,rfl,?_⟩))
 cases hp:may p
 ·refine pZ rfl ?_
  have:=h none 0 0 w1
  unfold r5me setE at this
  rw [hp,Bool.and_false] at this
  exact this (qH _ _) e1
 refine pY rfl ?_
 have hr:r5me o p a b=a.filterMap (meetF o p b):=by unfold r5me;rw [hb,hp];rfl
 have he:setE o p a b=0:=by unfold setE;rw [hb,hp];rfl
 rw [hr,he] at h
 refine ⟨PickI w1 a (meetF o p b) na,fun vs _=>pickM na vs,pick_start,?_⟩
 rintro q' n' c' x' _ w6 ⟨i,nn,cc,qq,hv,hi,e6,hrow⟩
 simp only [List.cons.injEq,Value.slice.injEq,Value.int.injEq,true_and,and_true] at hv
 obtain ⟨⟨rfl,rfl,rfl⟩,rfl⟩:=hv
 refine pO (fun hlt=>?_) fun hge=>?_
 rotate_left
 ·have hge:¬(i:Int) < na:=of_decide_eq_false hge
  rw [List.take_of_length_le (by omega)] at hrow
  exact h _ _ _ _ (rO hrow e1.size) (e1.trans e6)
 have hlt:i < na:=by have:=of_decide_eq_true hlt;omega
 have hi':i < a.length:=by omega
 have hnext:IntKind.wrap .i64 ((i:Int)+1)=((i+1:Nat):Int):=pW (n:=na) (by omega) (by omega)
 have hstep:=take_filterMap (f:=meetF o p b) hi'
 have hrl:=qF hrow
 have hrn:n'≤1000000:=by have:=fm_len (meetF o p b) (a.take i);rw [List.length_take] at this;omega
 have hla6:=hla.ext (e1.trans e6)
 refine rI hla6 hna rfl hlt fun ad r1 _ _=>⟨_,r1,?_⟩
 refine pP call33 (aDz ((hlb.ext e1).ext e6) hnb (by omega) hIb (hIa _ (List.getElem_mem _)).1 fun w7 e7=>pN ⟨_,_,rfl,?_⟩)
 refine pO (fun hh=>?_) fun hh=>?_
 ·have hf:meetF o p b a[i]=some (a[i].1,comb p a[i].2 (getR o b a[i].1)):=by unfold meetF;rw [hh];rfl
  refine ⟨⟨fun w'=>Ext w1 w',e6.trans (e7.trans (pT _)),?_⟩⟩
  have hla1:=hla.ext e1
  refine qZ (fun w' e'=>hla1.ext e') (pR _) hna (k:=i) rfl hlt fun ad s1 _=>⟨_,s1,?_⟩
  refine qZ (fun w' e'=>hla1.ext e') (pR _) hna (k:=i) rfl hlt fun ad _ s2=>⟨_,s2,?_⟩
  refine pP call90 (aOe (pN ⟨_,rfl,e6.trans (e7.trans (pT _)),?_⟩))
  have E8:=e7.trans (pT w7)
  have hb8:w1.heap.size≤w7.drew.heap.size:=Nat.le_trans e6.size E8.size
  have hrow8:=E8.row hrow
  refine ⟨e6.trans (E8.trans (pQ _ _)),?_⟩
  refine (do_app1 hrow8 (by omega) hb8 (u:=a[i].1) (v:=comb p a[i].2 (getR o b a[i].1)) ?_).1
  intro q2 c2 w2 h2 hx g2 _
  have E2:=hx w1 (e6.trans E8) (Nat.le_refl _)
  refine ⟨_,_,_,rfl,E2,⟨i+1,n'+1,c2,q2,by rw [hnext],by omega,E2,?_⟩,?_⟩
  ·rw [hstep,hf];exact h2
  ·rw [hnext];exact pick_mu hlt
 ·have hf:meetF o p b a[i]=none:=by unfold meetF;rw [hh];rfl
  rw [hnext]
  refine ⟨⟨i+1,n',c',q',rfl,by omega,e6.trans e7,?_⟩,pick_mu hlt⟩
  rw [hstep,hf,Option.toList_none,List.append_nil]
  exact e7.row hrow
def lessF(o:Int)(b:List Pr)(x:Pr):Option Pr:=if hasR o b x.1 then none else some x
def r5le(o:Int)(a b:List Pr):List Pr:=cond (mayR o a&&mayR o b) (a.filterMap (lessF o b)) []
theorem may1:may 1=true:=by simp [may]
theorem setE1(o:Int)(a b:List Pr):setE o 1 a b=cond (mayR o a&&mayR o b) 0 2:=by unfold setE;rw [may1,Bool.and_true]
theorem c_r5le(hla:Cs w qa (prs a))(hna:a.length=na)(hma:na≤1000000)(hIa:InP a)(hlb:Cs w qb (prs b))(hnb:b.length=nb)(hmb:nb≤1000000)(hIb:InP b)
  (h:∀p' n' c' w',OwnP w' w.heap.size p' n' c' (r5le o a b)→Ext w w'→R (.returned (.tuple #[.slice p' n' c',.int .i64 (setE o 1 a b)])) w') :
  Calls prog 44 #[.int .u8 o,.slice qa na ca,.slice qb nb cb] w R:=by
 refine sh44_ok ?_
 unfold sh44
 rw [setE1] at h
 refine pP call91 (c_r5both hla hna (by omega) hIa hlb hnb (by omega) hIb fun w1 e1=>pN ⟨_,rfl,?_⟩)
 cases hb:(mayR o a&&mayR o b)
 ·refine pZ rfl ?_
  have:=h none 0 0 w1
  unfold r5le at this
  rw [hb] at this
  exact this (qH _ _) e1
 refine pY rfl ?_
 have hr:r5le o a b=a.filterMap (lessF o b):=by unfold r5le;rw [hb];rfl
 rw [hr,hb,cond_true] at h
 refine ⟨PickI w1 a (lessF o b) na,fun vs _=>pickM na vs,pick_start,?_⟩
 rintro q' n' c' x' _ w6 ⟨i,nn,cc,qq,hv,hi,e6,hrow⟩
 simp only [List.cons.injEq,Value.slice.injEq,Value.int.injEq,true_and,and_true] at hv
 obtain ⟨⟨rfl,rfl,rfl⟩,rfl⟩:=hv
 refine pO (fun hlt=>?_) fun hge=>?_
 rotate_left
 ·have hge:¬(i:Int) < na:=of_decide_eq_false hge
  rw [List.take_of_length_le (by omega)] at hrow
  exact h _ _ _ _ (rO hrow e1.size) (e1.trans e6)
 have hlt:i < na:=by have:=of_decide_eq_true hlt;omega
 have hi':i < a.length:=by omega
 have hnext:IntKind.wrap .i64 ((i:Int)+1)=((i+1:Nat):Int):=pW (n:=na) (by omega) (by omega)
 have hstep:=take_filterMap (f:=lessF o b) hi'
 have hrl:=qF hrow
 have hrn:n'≤1000000:=by have:=fm_len (lessF o b) (a.take i);rw [List.length_take] at this;omega
 have hla6:=hla.ext (e1.trans e6)
 refine rI hla6 hna rfl hlt fun ad r1 _ _=>⟨_,r1,?_⟩
 refine pP call33 (aDz ((hlb.ext e1).ext e6) hnb (by omega) hIb (hIa _ (List.getElem_mem _)).1 fun w7 e7=>pN ⟨_,_,rfl,?_⟩)
 cases hh:hasR o b a[i].1
 ·have hf:lessF o b a[i]=some a[i]:=by unfold lessF;rw [hh];rfl
  refine pZ rfl ?_
  refine rI (hla6.ext e7) hna rfl hlt fun ad r1 r2 _=>⟨_,r1,_,r2,?_⟩
  refine do_app1 (e7.row hrow) (by omega) (Nat.le_trans e6.size e7.size) ?_
  intro q2 c2 w2 h2 hx g2 _
  have E2:=hx w1 (e6.trans e7) (Nat.le_refl _)
  refine ⟨_,_,_,rfl,⟨i+1,n'+1,c2,q2,by rw [hnext],by omega,E2,?_⟩,?_⟩
  ·rw [hstep,hf];exact h2
  ·rw [hnext];exact pick_mu hlt
 ·have hf:lessF o b a[i]=none:=by unfold lessF;rw [hh];rfl
  refine pY rfl ?_
  rw [hnext]
  refine ⟨⟨i+1,n',c',q',rfl,by omega,e6.trans e7,?_⟩,pick_mu hlt⟩
  rw [hstep,hf,Option.toList_none,List.append_nil]
  exact e7.row hrow
theorem r5le_in(hIa:InP a):InP (r5le o a b):=fun x hx=>by
 unfold r5le at hx
 cases hb:(mayR o a&&mayR o b) <;> rw [hb] at hx
 ·cases hx
 ·obtain ⟨y,hy,e⟩:=List.mem_filterMap.1 hx
  unfold lessF at e
  split at e
  ·cases e
  ·cases e;exact hIa _ hy
theorem r5le_len:(r5le o a b).length≤a.length:=by
 unfold r5le
 cases (mayR o a&&mayR o b)
 ·exact Nat.zero_le _
 ·exact fm_len _ _
def r5ap(o:Int)(a b:List Pr):List Pr:=cond (mayR o a&&mayR o b) (r5un o 1 (r5le o a b) (r5le o b a)) []
theorem fm_may{f:Pr→Option Pr}(hf:∀x y,f x=some y→y.1=x.1){l:List Pr}(h:mayR o l=true):mayR o (l.filterMap f)=true:=by
 rw [sG] at h ⊢
 refine ⟨h.1,?_⟩
 have h2:=h.2
 clear h
 induction l with
 | nil=>simp
 | cons x l ih=>
  simp only [List.map_cons,List.pairwise_cons,List.mem_map,forall_exists_index,and_imp,forall_apply_eq_imp_iff₂] at h2
  cases hx:f x with
  | none=>rw [List.filterMap_cons_none hx];exact ih h2.2
  | some y=>
   rw [List.filterMap_cons_some hx,List.map_cons,List.pairwise_cons]
   refine ⟨fun k hk=>?_,ih h2.2⟩
   obtain ⟨z,hz,rfl⟩:=List.mem_map.1 hk
   obtain ⟨z',hz',e⟩:=List.mem_filterMap.1 hz
   rw [hf _ _ hx,hf _ _ e];exact h2.1 _ hz'
theorem lessF_key(x y:Pr)(h:lessF o b x=some y):y.1=x.1:=by
 unfold lessF at h
 split at h
 ·cases h
 ·cases h;rfl
theorem r5le_may(ha:mayR o a=true)(hb:mayR o b=true):mayR o (r5le o a b)=true:=by
 unfold r5le;rw [ha,hb];exact fm_may lessF_key ha
theorem c_r5ap(hla:Cs w qa (prs a))(hna:a.length=na)(hma:na≤1000000)(hIa:InP a)(hlb:Cs w qb (prs b))(hnb:b.length=nb)(hmb:nb≤1000000)(hIb:InP b)
  (h:∀p' n' c' w',OwnP w' w.heap.size p' n' c' (r5ap o a b)→Ext w w'→R (.returned (.tuple #[.slice p' n' c',.int .i64 (setE o 1 a b)])) w') :
  Calls prog 45 #[.int .u8 o,.slice qa na ca,.slice qb nb cb] w R:=by
 refine sh45_ok ?_
 unfold sh45
 refine pP call44 (c_r5le hla hna hma hIa hlb hnb hmb hIb fun p1 n1 c1 w1 h1 e1=>pN ⟨_,_,_,_,rfl,?_⟩)
 rw [setE1] at h ⊢
 cases hb:(mayR o a&&mayR o b)
 ·refine pZ rfl ?_
  have:=h none 0 0 w1
  unfold r5ap at this
  rw [hb] at this
  exact this (qH _ _) e1
 refine pY rfl ?_
 have hr:r5ap o a b=r5un o 1 (r5le o a b) (r5le o b a):=by unfold r5ap;rw [hb];rfl
 rw [hr,hb,cond_true] at h
 have hma':mayR o a=true:=by cases ha:mayR o a <;> simp [ha] at hb ⊢
 have hmb':mayR o b=true:=by cases ha:mayR o b <;> simp [ha] at hb ⊢
 refine pP call44 (c_r5le (hlb.ext e1) hnb hmb hIb (hla.ext e1) hna hma hIa fun p2 n2 c2 w2 h2 e2=>pN ⟨_,_,_,_,rfl,?_⟩)
 have hl1:=qF h1
 have hl2:=qF h2
 have k1:=r5le_len (o:=o) (a:=a) (b:=b)
 have k2:=r5le_len (o:=o) (a:=b) (b:=a)
 refine pP call42 (c_r5un ((rB h1).ext e2) hl1 (by omega) (r5le_in hIa) (rB h2) hl2 (by omega) (r5le_in hIb) fun p3 n3 c3 w3 h3 e3=>pN ⟨_,_,_,_,rfl,?_⟩)
 rw [setE1,r5le_may hma' hmb',r5le_may hmb' hma']
 exact h _ _ _ _ (rO h3 (Nat.le_trans e1.size e2.size)) ((e1.trans e2).trans e3)
def rangeF(o lo hi:Int)(x:Pr):Option Pr:=if !(decide (cmpI o x.1 lo < 0))&&!(decide (cmpI o hi x.1 < 0)) then some x else none
def r5rg(o:Int)(a:List Pr)(lo hi:Int):List Pr:=cond (mayR o a) (a.filterMap (rangeF o lo hi)) []
theorem c_r5rg{lo hi:Int}(hlo:In lo)(hhi:In hi)(hla:Cs w qa (prs a))(hna:a.length=na)(hma:na≤1000000)(hIa:InP a)
  (h:∀p' n' c' w',OwnP w' w.heap.size p' n' c' (r5rg o a lo hi)→Ext w w'→R (.returned (.tuple #[.slice p' n' c',.int .i64 (cond (mayR o a) 0 2)])) w') :
  Calls prog 49 #[.int .u8 o,.slice qa na ca,.int .i64 lo,.int .i64 hi] w R:=by
 refine sh49_ok ?_
 unfold sh49
 refine pP call88 (wE hla hna (by omega) hIa fun w1 e1=>pN ⟨_,rfl,?_⟩)
 cases hb:mayR o a
 ·refine pZ rfl ?_
  have:=h none 0 0 w1
  unfold r5rg at this
  rw [hb] at this
  exact this (qH _ _) e1
 refine pY rfl ?_
 have hr:r5rg o a lo hi=a.filterMap (rangeF o lo hi):=by unfold r5rg;rw [hb];rfl
 rw [hr,hb,cond_true] at h
 refine ⟨PickI w1 a (rangeF o lo hi) na,fun vs _=>pickM na vs,pick_start,?_⟩
 rintro q' n' c' x' _ w6 ⟨i,nn,cc,qq,hv,hin,e6,hrow⟩
 simp only [List.cons.injEq,Value.slice.injEq,Value.int.injEq,true_and,and_true] at hv
 obtain ⟨⟨rfl,rfl,rfl⟩,rfl⟩:=hv
 refine pO (fun hlt=>?_) fun hge=>?_
 rotate_left
 ·have hge:¬(i:Int) < na:=of_decide_eq_false hge
  rw [List.take_of_length_le (by omega)] at hrow
  exact h _ _ _ _ (rO hrow e1.size) (e1.trans e6)
 have hlt:i < na:=by have:=of_decide_eq_true hlt;omega
 have hi':i < a.length:=by omega
 have hnext:IntKind.wrap .i64 ((i:Int)+1)=((i+1:Nat):Int):=pW (n:=na) (by omega) (by omega)
 have hstep:=take_filterMap (f:=rangeF o lo hi) hi'
 have hrl:=qF hrow
 have hrn:n'≤1000000:=by have:=fm_len (rangeF o lo hi) (a.take i);rw [List.length_take] at this;omega
 have hla6:=hla.ext (e1.trans e6)
 have hxI:=(hIa _ (List.getElem_mem hi')).1
 have hno:rangeF o lo hi a[i]=none→PickI w1 a (rangeF o lo hi) na [.slice q' n' c',.int .i64 (IntKind.wrap .i64 ((i:Int)+1))] w6∧pickM na [.slice q' n' c',.int .i64 (IntKind.wrap .i64 ((i:Int)+1))] < pickM na [.slice q' n' c',.int .i64 (i:Int)]:=by
  intro hf
  rw [hnext]
  refine ⟨⟨i+1,n',c',q',rfl,by omega,e6,?_⟩,pick_mu hlt⟩
  rw [hstep,hf,Option.toList_none,List.append_nil]
  exact hrow
 refine rI hla6 hna rfl hlt fun ad r1 _ _=>⟨_,r1,?_⟩
 refine pP call87 (wD hxI hlo (pN ⟨_,rfl,?_⟩))
 cases h1:decide (cmpI o a[i].1 lo < 0)
 ·refine pZ rfl ?_
  refine rI hla6 hna rfl hlt fun ad r1 _ _=>⟨_,r1,?_⟩
  refine pP call87 (wD hhi hxI (pN ⟨_,rfl,?_⟩))
  cases h2:decide (cmpI o hi a[i].1 < 0)
  ·refine pZ rfl ?_
   have hf:rangeF o lo hi a[i]=some a[i]:=by unfold rangeF;rw [h1,h2];rfl
   refine rI hla6 hna rfl hlt fun ad r1 r2 _=>⟨_,r1,_,r2,?_⟩
   refine do_app1 hrow (by omega) e6.size ?_
   intro q2 c2 w2 h2 hx g2 _
   have E2:=hx w1 e6 (Nat.le_refl _)
   refine ⟨_,_,_,rfl,⟨i+1,n'+1,c2,q2,by rw [hnext],by omega,E2,?_⟩,?_⟩
   ·rw [hstep,hf];exact h2
   ·rw [hnext];exact pick_mu hlt
  ·exact pY rfl (hno (by unfold rangeF;rw [h1,h2];rfl))
 ·exact pY rfl (hno (by unfold rangeF;rw [h1];rfl))
def cutAF(o key:Int)(x:Pr):Option Pr:=if decide (cmpI o x.1 key < 0) then some x else none
def cutBF(o key:Int)(x:Pr):Option Pr:=if decide (cmpI o key x.1 < 0) then some x else none
def r5ca(o:Int)(a:List Pr)(key:Int):List Pr:=cond (mayR o a) (a.filterMap (cutAF o key)) []
def r5cb(o:Int)(a:List Pr)(key:Int):List Pr:=cond (mayR o a) (a.filterMap (cutBF o key)) []
def cutM(n:Nat)(vs:List Value):Nat:=n - (intOf (vs.getD 2 undef)).toNat
theorem cut_mu{n i:Nat}{u v u' v':Value}(h:i < n):cutM n [u,u',.int .i64 ((i+1:Nat):Int)] < cutM n [v,v',.int .i64 (i:Int)]:=by
 show n - (((i+1:Nat):Int)).toNat < n - ((i:Nat):Int).toNat
 omega
def Two(w:World)(base:Nat)(p:OA)(n c:Nat)(l:List Pr)(p':OA)(n' c':Nat)(l':List Pr):Prop:=
 OwnP w base p n c l∧OwnP w base p' n' c' l'∧((Value.slice p' n' c').ownBlock=none∨(Value.slice p' n' c').ownBlock≠(Value.slice p n c).ownBlock)
theorem Two.swap{base:Nat}{p:OA}{n c:Nat}{l:List Pr}{p':OA}{n' c':Nat}{l':List Pr}(h:Two w base p n c l p' n' c' l'):Two w base p' n' c' l' p n c l:=by
 refine ⟨h.2.1,h.1,?_⟩
 rcases h.2.2 with g | g
 ·cases hq:(Value.slice p n c).ownBlock with
  | none=>exact .inl rfl
  | some k=>rw [g];exact .inr (by simp)
 ·exact .inr (Ne.symm g)
theorem Two.grow{w w':World}{base:Nat}{p:OA}{n c:Nat}{l:List Pr}{p':OA}{n' c':Nat}{l':List Pr}(h:Two w base p n c l p' n' c' l'){p2:OA}{n2 c2:Nat}{l2:List Pr}
  (h2:OwnP w' base p2 n2 c2 l2) (g:w.grownBy w' (Value.slice p n c).ownBlock) (hor:(Value.slice p2 n2 c2).ownBlock=(Value.slice p n c).ownBlock∨∀k,(Value.slice p2 n2 c2).ownBlock=some k→w.heap.size≤k):Two w' base p2 n2 c2 l2 p' n' c' l':=by
 refine ⟨h2,World.ownsRow.kept h.2.1 g h.2.2,?_⟩
 rcases hor with e | e
 ·rw [e];exact h.2.2
 ·cases hq:(Value.slice p' n' c').ownBlock with
  | none=>exact .inl rfl
  | some k=>
   right
   intro e'
   have:=(World.ownsRow.lt h.2.1 k hq).2
   have:=e k e'.symm
   omega
theorem Two.ext{w w':World}{base:Nat}{p:OA}{n c:Nat}{l:List Pr}{p':OA}{n' c':Nat}{l':List Pr}(h:Two w base p n c l p' n' c' l')(e:Ext w w'):Two w' base p n c l p' n' c' l':=
 ⟨e.row h.1,e.row h.2.1,h.2.2⟩
theorem c_r5cut{key:Int}(hk:In key)(hla:Cs w qa (prs a))(hna:a.length=na)(hma:na≤1000000)(hIa:InP a)
  (h:∀p1 n1 c1 p2 n2 c2 w',Two w' w.heap.size p1 n1 c1 (r5ca o a key) p2 n2 c2 (r5cb o a key)→Ext w w'→R (.returned (.tuple #[.slice p1 n1 c1,.int .i64 (getR o a key),.bool (hasR o a key),.slice p2 n2 c2])) w') :
  Calls prog 51 #[.int .u8 o,.slice qa na ca,.int .i64 key] w R:=by
 refine sh51_ok ?_
 unfold sh51
 refine pP call88 (wE hla hna (by omega) hIa fun w1 e1=>pN ⟨_,rfl,?_⟩)
 cases hb:mayR o a
 ·refine pZ rfl ?_
  have:=h none 0 0 none 0 0 w1
  have hh:hasR o a key=false:=by unfold hasR;rw [hb];rfl
  unfold r5ca r5cb at this
  rw [hb,get_none hh,hh] at this
  exact this ⟨qH _ _,qH _ _,.inl rfl⟩ e1
 refine pY rfl ?_
 have hr:r5ca o a key=a.filterMap (cutAF o key):=by unfold r5ca;rw [hb];rfl
 have hr':r5cb o a key=a.filterMap (cutBF o key):=by unfold r5cb;rw [hb];rfl
 rw [hr,hr'] at h
 have hsz1:=e1.size
 refine ⟨fun vs w'=>∃(i n1 c1 n2 c2:Nat) (p1 p2:OA),vs=[.slice p1 n1 c1,.slice p2 n2 c2,.int .i64 i]∧i≤na∧Ext w1 w'∧Two w' w1.heap.size p1 n1 c1 ((a.take i).filterMap (cutAF o key)) p2 n2 c2 ((a.take i).filterMap (cutBF o key)),
  fun vs _=>cutM na vs,⟨0,0,0,0,0,none,none,rfl,Nat.zero_le _,pR _,by rw [List.take_zero];exact ⟨qH _ _,qH _ _,.inl rfl⟩⟩,?_⟩
 rintro p1 n1 c1 p2 n2 c2 x' _ w6 ⟨i,_,_,_,_,_,_,hv,hi,e6,hrow⟩
 simp only [List.cons.injEq,Value.slice.injEq,Value.int.injEq,true_and,and_true] at hv
 obtain ⟨⟨rfl,rfl,rfl⟩,⟨rfl,rfl,rfl⟩,rfl⟩:=hv
 refine pO (fun hlt=>?_) fun hge=>?_
 rotate_left
 ·have hge:¬(i:Int) < na:=of_decide_eq_false hge
  rw [List.take_of_length_le (by omega)] at hrow
  refine pP call33 (aDz (hla.ext (e1.trans e6)) hna (by omega) hIa hk fun w7 e7=>pN ⟨_,_,rfl,?_⟩)
  have hr7:=hrow.ext e7
  exact h _ _ _ _ _ _ _ ⟨rO hr7.1 hsz1,rO hr7.2.1 hsz1,hr7.2.2⟩ ((e1.trans e6).trans e7)
 have hlt:i < na:=by have:=of_decide_eq_true hlt;omega
 have hi':i < a.length:=by omega
 have hnext:IntKind.wrap .i64 ((i:Int)+1)=((i+1:Nat):Int):=pW (n:=na) (by omega) (by omega)
 have hstepA:=take_filterMap (f:=cutAF o key) hi'
 have hstepB:=take_filterMap (f:=cutBF o key) hi'
 have hl1:=qF hrow.1
 have hl2:=qF hrow.2.1
 have k1:=fm_len (cutAF o key) (a.take i)
 have k2:=fm_len (cutBF o key) (a.take i)
 rw [List.length_take] at k1 k2
 have hxI:=(hIa _ (List.getElem_mem hi')).1
 have hdone:∀(p3:OA) (n3 c3:Nat) (p4:OA) (n4 c4:Nat) (w7:World),Ext w1 w7→Two w7 w1.heap.size p3 n3 c3 ((a.take (i+1)).filterMap (cutAF o key)) p4 n4 c4 ((a.take (i+1)).filterMap (cutBF o key))→
   (
   ∃(i' n1 c1 n2 c2:Nat) (p1 p2:OA),([.slice p3 n3 c3,.slice p4 n4 c4,.int .i64 (IntKind.wrap .i64 (((i:Nat):Int)+1))]:List Value)=[.slice p1 n1 c1,.slice p2 n2 c2,.int .i64 i']∧i'≤na∧Ext w1 w7∧Two w7 w1.heap.size p1 n1 c1 ((a.take i').filterMap (cutAF o key)) p2 n2 c2 ((a.take i').filterMap (cutBF o key)))∧
   cutM na [.slice p3 n3 c3,.slice p4 n4 c4,.int .i64 (IntKind.wrap .i64 (((i:Nat):Int)+1))] < cutM na [.slice p1 n1 c1,.slice p2 n2 c2,.int .i64 ((i:Nat):Int)]:=by
  intro p3 n3 c3 p4 n4 c4 w7 e7 h7
  rw [hnext]
  exact ⟨⟨i+1,n3,c3,n4,c4,p3,p4,rfl,by omega,e7,h7⟩,cut_mu hlt⟩
 have hla6:=hla.ext (e1.trans e6)
 refine rI hla6 hna rfl hlt fun ad r1 _ _=>⟨_,r1,?_⟩
 refine pP call87 (wD hxI hk (pN ⟨_,rfl,?_⟩))
 cases h1:decide (cmpI o a[i].1 key < 0)
 ·have hA:cutAF o key a[i]=none:=by unfold cutAF;rw [h1];rfl
  rw [hA,Option.toList_none,List.append_nil] at hstepA
  refine pY rfl ?_
  refine rI hla6 hna rfl hlt fun ad r1 _ _=>⟨_,r1,?_⟩
  refine pP call87 (wD hk hxI (pN ⟨_,rfl,?_⟩))
  cases h2:decide (cmpI o key a[i].1 < 0)
  ·have hB:cutBF o key a[i]=none:=by unfold cutBF;rw [h2];rfl
   rw [hB,Option.toList_none,List.append_nil] at hstepB
   exact pY rfl (hdone _ _ _ _ _ _ _ e6 (by rw [hstepA,hstepB];exact hrow))
  ·have hB:cutBF o key a[i]=some a[i]:=by unfold cutBF;rw [h2];rfl
   rw [hB] at hstepB
   refine pZ rfl ?_
   refine rI hla6 hna rfl hlt fun ad r1 r2 _=>⟨_,r1,_,r2,?_⟩
   refine do_app1 hrow.2.1 (by omega) e6.size ?_
   intro q2 c2' w2 h2 hx g2 hor
   exact ⟨_,_,_,rfl,hdone _ _ _ _ _ _ _ (hx w1 e6 (Nat.le_refl _)) (by rw [hstepA,hstepB];exact (hrow.swap.grow h2 g2 hor).swap)⟩
 ·have hA:cutAF o key a[i]=some a[i]:=by unfold cutAF;rw [h1];rfl
  rw [hA] at hstepA
  have h2:decide (cmpI o key a[i].1 < 0)=false:=by
   have:=aFq (of_decide_eq_true h1)
   exact decide_eq_false (by omega)
  have hB:cutBF o key a[i]=none:=by unfold cutBF;rw [h2];rfl
  rw [hB,Option.toList_none,List.append_nil] at hstepB
  refine pZ rfl ?_
  refine rI hla6 hna rfl hlt fun ad r1 r2 _=>⟨_,r1,_,r2,?_⟩
  refine do_app1 hrow.1 (by omega) e6.size ?_
  intro q2 c2' w2 h3 hx g2 hor
  have E2:=hx w1 e6 (Nat.le_refl _)
  refine ⟨_,_,_,rfl,?_⟩
  refine rI (hla.ext (e1.trans E2)) hna rfl hlt fun ad r1 _ _=>⟨_,r1,?_⟩
  refine pP call87 (wD hk hxI (pN ⟨_,rfl,?_⟩))
  exact pY h2 (hdone _ _ _ _ _ _ _ E2 (by rw [hstepA,hstepB];exact hrow.grow h3 g2 hor))
end
end Go.Proofs.YtmdboekndjlmgaaGreat
