/-
  What the functions of row do, part 3: rows of one's own: Clone, Insert, Delete, Put, Drop, Sum.
-/
import Derived.Test.YtmdboekndjlmgaaGreatZ24
import Derived.Test.YtmdboekndjlmgaaGreatZ23
import Derived.Laws.IdiomStrings
set_option maxRecDepth 100000
set_option maxHeartbeats 6400000
namespace Go.Proofs.YtmdboekndjlmgaaGreat
open Go Go.Sh Go.RowKit Tryz
variable {w:World}{R:EW}
abbrev OwnP(w:World)(base:Nat)(p:OA)(n c:Nat)(l:List Pr):Prop:=w.ownsRow base 63 2 (.slice p n c) n (prs l)
theorem xQ{base n c:Nat}{p:OA}{l:List Pr}(h:OwnP w base p n c l):(p=none∧n=0∧c=0) ∨
  ∃g cur,p=some ⟨g,0,none⟩∧base≤g∧Blk w g (List.toArray cur) 63∧n≤c∧c≤maxLen∧cur.length=c * 2∧cur.take (n * 2)=prs l:=by
 rcases h.2 with ⟨hv,hn⟩ | ⟨g,cap,cur,hv,hb,hg,h1,h2,h3,h4⟩
 ·cases hv;exact .inl ⟨rfl,rfl,rfl⟩
 ·cases hv;exact .inr ⟨g,cur.toList,rfl,hb,hg,h1,h2,by simpa using h3,h4⟩
theorem aAv{base g n c:Nat}{cur:List Value}{l:List Pr}(hb:base≤g)(hg:Blk w g cur.toArray 63)(h1:n≤c)(h2:c≤maxLen)(h3:cur.length=c * 2)(h4:cur.take (n * 2)=prs l):OwnP w base (some ⟨g,0,none⟩) n c l:=by
 refine ⟨by rw [←h4];simp;omega,.inr ⟨g,c,cur.toArray,rfl,hb,hg,h1,h2,by simpa using h3,h4⟩⟩
theorem qF{base n c:Nat}{p:OA}{l:List Pr}(h:OwnP w base p n c l):l.length=n:=by have:=h.1;simp at this;omega
theorem rB{base n c:Nat}{p:OA}{l:List Pr}(h:OwnP w base p n c l):Cs w p (prs l):=Cs.of_row h
theorem qH(w:World)(base:Nat):OwnP w base none 0 0 []:=World.ownsRow_nil _ _ _ _
theorem aMh{q:OA}{l:List Pr}(h:Cs w q (prs l))(hq:q=none):l=[]:=by
 subst hq
 cases l with
 | nil=>rfl
 | cons x xs=>obtain ⟨a,ha,_⟩:=h 0 (.int .i64 x.1) rfl;cases ha
theorem yR{l:List Pr}{q:OA}{n c:Nat}(hl:Cs w q (prs l))(hn:l.length=n)(hm:n≤1000000000000)
  (h:∀p c' w',OwnP w' w.heap.size p n c' l→Ext w w'→R (.returned (.slice p n c')) w'):Calls prog 27 #[.slice q n c] w R:=by
 refine sh27_ok ?_
 unfold sh27
 cases q with
 | none=>
  have h0:=aMh hl rfl
  subst h0
  have hn0:n=0:=by simpa using hn.symm
  subst hn0
  exact pZ rfl (h _ _ _ (qH w _) (pR w))
 | some a=>
  refine pY rfl ⟨?_⟩
  have e1:=pQ w (.cells #[] 63)
  have hr:=World.ownsRow_lit (base:=w.heap.size) (size:=2) (e:=63) w #[] 0 (Nat.le_refl _) (by simp [maxLen]) (by simp)
  refine wI elP hr (news:=prs l) (hl.ext e1) (by simp [hn]) tE (by simp only [maxLen];omega) (by omega) e1.size fun p c' w' h1 h2=>pN ⟨_,_,_,rfl,?_⟩
  simp only [Nat.zero_add,List.nil_append] at h1 ⊢
  exact h p c' w' h1 (e1.grown h2 (by rintro _ ⟨⟩;exact Nat.le_refl _))
theorem aGo(l:List Pr)(i:Nat):prs l=prs (l.take i)++prs (l.drop i):=by rw [←rH,List.take_append_drop]
theorem drop2{Q:List Value}(h:2≤Q.length):∃a b Z,Q=a::b::Z:=by
 match Q,h with
 | a::b::Z,_=>exact ⟨a,b,Z,rfl⟩
theorem c_insert{l:List Pr}{x:Pr}{p:OA}{n c base vb i:Nat}(ho:OwnP w base p n c l)(hb:base≤w.heap.size)(hm:n≤1000000000000)(hi:i≤n)
  (hv:Blk w vb #[.int .i64 x.1,.int .i64 x.2] 63) (hne:p≠some (blk vb))
  (h:∀p' c' w',OwnP w' base p' (n+1) c' (l.take i++x::l.drop i)→w.grownBy w' (Value.slice p n c).ownBlock→R (.returned (.slice p' (n+1:Nat) c')) w') :
  Calls prog 141 #[.slice p n c,.int .i64 (i:Nat),.slice (some (blk vb)) 1 1] w R:=by
 refine sh141_ok ?_
 unfold sh141
 have hl:=qF ho
 have hcs:=rB ho
 have hnc:n≤c:=tD ho
 have hvc:Cs w (some (blk vb)) (prs [x]):=fun j v hj=>by
  match j,hj with
  | 0,hj=>cases hj;exact ⟨_,rfl,hv.cell (by rw [pU]) rfl⟩
  | 1,hj=>cases hj;exact ⟨_,rfl,hv.cell (by rw [pU]) rfl⟩
  | j+2,hj=>simp at hj
 have hA:(prs (l.take i)).length=i * 2:=by simp;omega
 have hB:(prs (l.drop i)).length=(n - i) * 2:=by simp;omega
 have hX:(prs [x]).length=2:=rfl
 have hres:prs (l.take i++x::l.drop i)=prs (l.take i)++(prs [x]++prs (l.drop i)):=by rw [rH];rfl
 have hdrop:∀{w':World} {K:OA→Nat→Nat→Prop},Cs w' p (prs l)→(∀q,Cs w' q (prs (l.drop i))→K q (n - i) (c - i))→doSl p c 2 (i:Nat) (n:Nat) K:=fun hc k=>
  aEh hc hl hnc rfl rfl hi (Nat.le_refl n) fun q hq _=>by rw [←hl,List.take_length] at hq;exact hl▸k q hq
 refine hdrop hcs fun q0 _=>?_
 refine pY (by rfl) ?_
 refine pO (fun hin=>?_) fun hin=>?_
 ·have hin:i=n:=Int.ofNat_inj.1 (by simpa using hin)
  subst hin
  refine wI elP ho (m:=1) hvc rfl tE (by simp only [maxLen];omega) (by omega) hb fun p' c' w' h1 h2=>pN ⟨_,_,_,rfl,?_⟩
  refine h p' c' w' ?_ h2
  have e:l.take i++x::l.drop i=l++[x]:=by rw [←hl,List.take_length,List.drop_length]
  rw [e]
  unfold OwnP
  rw [rH]
  exact h1
 ·have hin:i < n:=by
             have:¬(i:Int)=n:=by simpa using hin
             omega
  refine do_cap (underlying22) (pN ⟨_,rfl,?_⟩)
  have e1:IntKind.wrap .i64 ((n:Int)+((1:Nat):Int))=((n+1:Nat):Int):=by rw [qB (by omega) (by omega)];omega
  have e2:IntKind.wrap .i64 ((i:Int)+((1:Nat):Int))=((i+1:Nat):Int):=by rw [qB (by omega) (by omega)];omega
  have e3:IntKind.wrap .i64 (((n+1:Nat):Int) - (i:Int))=((n+1 - i:Nat):Int):=by rw [qB (by omega) (by omega)];omega
  simp only [e1,e2,e3]
  refine pO (fun hgt=>?_) fun hgt=>?_
  ·have hgt:c < n+1:=by have:=of_decide_eq_true hgt;omega
   refine aEh (a:=0) (b:=i) hcs hl hnc rfl rfl (by omega) hi fun q1 hq1 _=>?_
   simp only [List.drop_zero,Nat.sub_zero] at hq1 ⊢
   refine aDp elP (underlying3) (cs:=prs (l.take i)) (n:=i) (m:=n+1 - i) hA hq1 (by omega) (by omega) (by omega) (by simp only [maxLen];omega) ?_
   intro b c' Q w1 hbb hc1 hc2 hQ hblk e1' 
   refine pN ⟨_,_,_,rfl,?_⟩
   rw [show i+(n+1 - i)=n+1 by omega] at hc1 ⊢
   obtain ⟨y1,y2,Z,rfl⟩:=drop2 (Q:=Q) (by rw [hQ];omega)
   have hZ:Z.length=(c' - i) * 2 - 2:=by simp at hQ;omega
   obtain ⟨Z1,Z2,rfl,hZ1⟩:∃Z1 Z2,Z=Z1++Z2∧Z1.length=(n - i) * 2:=⟨Z.take ((n - i) * 2),Z.drop ((n - i) * 2),(List.take_append_drop _ _).symm,by simp;omega⟩
   have hcell:c'≤maxLen:=hc2
   refine ⟨by omega,by omega,by omega,?_⟩
   rw [if_neg (by omega)]
   refine aDx elP (g:=b) (off:=i * 2) (cs:=prs [x]) hblk (fun _=>?_) ?_ (hvc.ext e1') (by simp at hZ ⊢;omega) tE fun w2 hb2 g2=>pN ⟨_,rfl,⟨?_⟩⟩
   ·simp only [Option.map_some,Int.toNat_natCast,Option.some.injEq];exact pU b _
   ·rw [show min 1 (((n+1:Nat):Int).toNat - (i:Int).toNat)=1 by omega];rfl
   have hl2:lay (prs (l.take i)++(y1::y2::(Z1++Z2))) (i * 2) (prs [x])=prs (l.take i)++(prs [x]++(Z1++Z2)):=aAj (Y:=[y1,y2]) hA.symm rfl
   rw [hl2] at hb2
   refine ⟨by omega,by omega,by omega,?_⟩
   have e12:Ext w w2:=e1'.st g2 (by omega)
   refine hdrop ((hcs.ext e12).ext (pT _)) fun q3 hq3=>?_
   refine aDx elP (g:=b) (off:=(i+1) * 2) (cs:=prs (l.drop i)) (cur:=prs (l.take i)++(prs [x]++(Z1++Z2))) (w:=w2.drew) hb2 (fun _=>?_) ?_ hq3 ?_ tE fun w3 hb3 g3=>pN ⟨_,rfl,?_⟩
   ·rw [if_neg (by omega)]
    simp only [Option.map_some,Int.toNat_natCast,Option.some.injEq];exact pU b _
   ·rw [hB,show min (n - i) (((n+1:Nat):Int).toNat - ((i+1:Nat):Int).toNat)=n - i by omega]
   ·simp at hZ ⊢;omega
   have hl3:lay (prs (l.take i)++(prs [x]++(Z1++Z2))) ((i+1) * 2) (prs (l.drop i))=prs (l.take i)++(prs [x]++(prs (l.drop i)++Z2)):=by
    rw [←List.append_assoc,aAj (by simp;omega) (by rw [hZ1,hB]),List.append_assoc]
   rw [hl3] at hb3
   refine h _ _ _ (aAv (by omega) hb3 hc1 hc2 ?_ ?_) ?_
   ·simp at hZ ⊢;omega
   ·rw [hres,←List.append_assoc,←List.append_assoc,List.take_left' (by simp;omega),List.append_assoc]
   ·have:=e12.drew.st g3 (by omega)
    exact ⟨this.os,this.tape,this.output,this.size,fun k hk _=>this.block k hk⟩
  ·have hge:n+1≤c:=by have:=of_decide_eq_false hgt;omega
   rcases xQ ho with ⟨_,hn0,_⟩ | ⟨g,cur,hp,hbg,hg,_,hcm,hcl,hct⟩
   ·omega
   subst hp
   have hvg:vb≠g:=fun e=>hne (by rw [e])
   obtain ⟨C,hC⟩:∃C,cur=prs (l.take i)++(prs (l.drop i)++C):=⟨cur.drop (n * 2),by rw [←List.append_assoc,←aGo l i,←hct,List.take_append_drop]⟩
   have hCl:C.length=(c - n) * 2:=by rw [hC] at hcl;simp at hcl;omega
   obtain ⟨y1,y2,C',rfl⟩:=drop2 (Q:=C) (by omega)
   refine ⟨by omega,by omega,by omega,?_⟩
   rw [if_neg (by omega)]
   simp only [Option.map_some,Int.toNat_zero,Nat.zero_mul,add_zero',Int.toNat_natCast,Nat.sub_zero]
   have hsub:∀{j:Nat} {K:OA→Nat→Nat→Prop},j≤n+1→(∀q,(j < n+1→q=some ⟨g,j * 2,none⟩)→K q (n+1 - j) (c - j))→doSl (some ⟨g,0,none⟩) c 2 (j:Nat) ((n+1:Nat):Int) K:=fun hj k=>by
    refine ⟨by omega,by omega,by omega,?_⟩
    simp only [Int.toNat_natCast]
    refine k _ fun hlt=>?_
    rw [if_neg (by omega)]
    simp only [Option.map_some,Option.some.injEq];exact pU g _
   refine hsub (by omega) fun q1 hq1=>?_
   have hcall:∀{R:EW},R (.returned (.bool false)) w→doCall prog (.func (.func 165) #[] #[]) #[.slice (some (blk vb)) 1 1,.slice q1 (n+1 - (i+1)) (c - (i+1))] w R:=fun hR=>by
    have hq1':=hq1 (by omega)
    subst hq1'
    exact aKp func165 (by kernel_rfl) (by kernel_rfl) (by kernel_rfl) (t:=22) (tr:=4) (by kernel_rfl) elP hv hg hvg (by rw [List.size_toArray,hcl];omega) hR
   refine hcall (pN ⟨_,rfl,?_⟩)
   refine pZ rfl ⟨?_⟩
   refine hsub (by omega) fun q2 hq2=>hsub (by omega) fun q3 hq3=>?_
   have hc3:Cs w.drew q3 (prs (l.drop i)):=by
    rw [hq3 (by omega)]
    intro j v hj
    refine ⟨_,rfl,?_⟩
    have hd:=hcs.drop (i * 2) j v (by rw [aJq];exact hj)
    obtain ⟨a,ha,hcell⟩:=hd
    cases ha
    rw [add_add,pU] at hcell
    have:(⟨g,i * 2,none⟩:Addr).add j=⟨g,i * 2+j,none⟩:=by unfold Addr.add;split <;> simp_all
    rw [this];exact hcell
   refine aDx elP (g:=g) (off:=(i+1) * 2) (cs:=prs (l.drop i)) (cur:=cur) (w:=w.drew) hg (fun _=>hq2 (by omega)) ?_ hc3 (by rw [hB,hcl];omega) tE fun w2 hb2 g2=>pN ⟨_,rfl,?_⟩
   ·rw [hB,show min (n+1 - i) (n+1 - (i+1))=n - i by omega]
   obtain ⟨b1,b2,B',hB'⟩:=drop2 (Q:=prs (l.drop i)) (by omega)
   have hBl:B'.length+2=(n - i) * 2:=by rw [←hB,hB'];rfl
   have hl2:lay cur ((i+1) * 2) (prs (l.drop i))=prs (l.take i)++([b1,b2]++(prs (l.drop i)++C')):=by
    rw [hC,←List.append_assoc (prs (l.take i)) [b1,b2]]
    have:prs (l.take i)++(prs (l.drop i)++y1::y2::C')=(prs (l.take i)++[b1,b2])++((B'++[y1,y2])++C'):=by rw [hB'];simp
    rw [this,aAj (by simp;omega) (by rw [hB];simp;omega)]
   rw [hl2] at hb2
   refine hsub (by omega) fun q4 hq4=>?_
   refine aDx elP (g:=g) (off:=i * 2) (cs:=prs [x]) hb2 (fun _=>hq4 (by omega)) ?_ (q:=some (blk vb)) ?_ (by simp;omega) tE fun w3 hb3 g3=>pN ⟨_,rfl,?_⟩
   ·rw [show min 1 (n+1 - i)=1 by omega];rfl
   ·have hv2:Blk w2 vb #[.int .i64 x.1,.int .i64 x.2] 63:=Blk.grown (w:=w.drew) hv g2 (pV hvg)
    intro j v hj
    match j,hj with
    | 0,hj=>cases hj;exact ⟨_,rfl,hv2.cell (by rw [pU]) rfl⟩
    | 1,hj=>cases hj;exact ⟨_,rfl,hv2.cell (by rw [pU]) rfl⟩
    | j+2,hj=>simp at hj
   rw [aAj (A:=prs (l.take i)) (Y:=[b1,b2]) (X:=prs [x]) hA.symm rfl] at hb3
   refine h _ _ _ (aAv hbg hb3 hge hcm ?_ ?_) (pX (pX (yM w _) g2) g3)
   ·simp at hCl ⊢;omega
   ·rw [hres,←List.append_assoc,←List.append_assoc,List.take_left' (by simp;omega),List.append_assoc]
theorem c_delete{l:List Pr}{p:OA}{n c base i:Nat}(ho:OwnP w base p n c l)(hm:n≤1000000000000)(hi:i < n)
  (h:∀p' c' w',OwnP w' base p' (n - 1) c' (l.take i++l.drop (i+1))→w.grownBy w' (Value.slice p n c).ownBlock→R (.returned (.slice p' (n - 1:Nat) c')) w') :
  Calls prog 143 #[.slice p n c,.int .i64 (i:Nat),.int .i64 (i+1:Nat)] w R:=by
 refine sh143_ok ?_
 unfold sh143
 have hl:=qF ho
 have hcs:=rB ho
 have hnc:n≤c:=tD ho
 rcases xQ ho with ⟨_,hn0,_⟩ | ⟨g,cur,hp,hbg,hg,_,hcm,hcl,hct⟩
 ·omega
 subst hp
 have hA:(prs (l.take i)).length=i * 2:=by simp;omega
 have hB:(prs (l.drop (i+1))).length=(n - (i+1)) * 2:=by simp;omega
 have hres:prs (l.take i++l.drop (i+1))=prs (l.take i)++prs (l.drop (i+1)):=rH _ _
 refine ⟨by omega,by omega,by omega,by omega,pY ?_ ⟨?_⟩⟩
 ·simp;omega
 refine aEh (a:=0) (b:=i) hcs hl hnc rfl rfl (by omega) (by omega) fun q1 _ hq1=>?_
 rw [if_neg (by omega)] at hq1
 simp only [Option.map_some,Nat.zero_mul,add_zero'] at hq1
 subst hq1
 refine aEh (a:=i+1) (b:=n) hcs hl hnc rfl rfl (by omega) (Nat.le_refl n) fun q2 hc2 hq2=>?_
 rw [←hl,List.take_length] at hc2
 obtain ⟨C,hC⟩:∃C,cur=prs (l.take i)++(prs (l.drop i)++C):=⟨cur.drop (n * 2),by rw [←List.append_assoc,←aGo l i,←hct,List.take_append_drop]⟩
 have hCl:C.length=(c - n) * 2:=by rw [hC] at hcl;simp at hcl;omega
 have hD:prs (l.drop i)=.int .i64 (l[i]'(by omega)).1::.int .i64 (l[i]'(by omega)).2::prs (l.drop (i+1)):=by rw [List.drop_eq_getElem_cons (by omega)];rfl
 refine aFo elP (w:=w.drew) (n:=i) (m:=n - (i+1)) (cs:=prs (l.drop (i+1))) hg hB (hc2.ext (pT w)) (by omega) (by rw [hB,hcl];omega) tE (fun hq=>?_) fun w1 hb1 g1=>pN ⟨_,_,_,rfl,?_⟩
 ·rw [hq2] at hq;split at hq <;> cases hq
 obtain ⟨Z1,Z2,hZ,hZ1⟩:∃Z1 Z2,prs (l.drop i)=Z1++Z2∧Z1.length=(n - (i+1)) * 2:=⟨_,_,(List.take_append_drop ((n - (i+1)) * 2) _).symm,by rw [List.length_take];simp;omega⟩
 have hZ2:Z2.length=2:=by
  have:=congrArg List.length hZ
  simp [hZ1] at this;omega
 have hl1:lay cur (i * 2) (prs (l.drop (i+1)))=(prs (l.take i)++prs (l.drop (i+1)))++(Z2++C):=by
  rw [hC,hZ,List.append_assoc Z1,aAj hA.symm (by rw [hZ1,hB]),List.append_assoc]
 rw [hl1] at hb1
 have en:i+(n - (i+1))=n - 1:=by omega
 rw [en]
 refine ⟨by omega,by omega,by omega,?_⟩
 refine do_clear elP (by intro u hu;simp [Value.cells] at hu;subst hu;rfl) (g:=g) (off:=(n - 1) * 2) hb1 ?_ (by simp;omega) fun Q w2 hQ hb2 g2=>pN ⟨rfl,?_⟩
 ·rw [if_neg (by omega)]
  simp only [Option.map_some,Int.toNat_natCast,Option.some.injEq];exact pU g _
 rw [aAj (by simp;omega) (by rw [hZ2,hQ];omega)] at hb2
 refine h _ _ _ (aAv hbg hb2 (by omega) hcm ?_ ?_) (pX (pX (yM w _) g1) g2)
 ·simp [hQ];omega
 ·rw [hres,List.take_left' (by simp;omega)]
def rY(o:Int)(l:List Pr)(key:Int):List Pr:=cond (mayR o l) (cond (hasR o l key) (l.take (posR o l key)++l.drop (posR o l key+1)) l) []
theorem wP{w w':World}{base base' n c:Nat}{p:OA}{l:List Pr}(h:OwnP w base p n c l)(e:Ext w w')(hb:base'≤base):OwnP w' base' p n c l:=rO (e.row h) hb
theorem tS{a w w':World}{base n c:Nat}{p:OA}{l:List Pr}(h:OwnP w base p n c l)(e:Ext a w)(g:w.grownBy w' (Value.slice p n c).ownBlock)(hb:a.heap.size≤base):Ext a w':=
 e.grown g fun k hk=>Nat.le_trans hb (World.ownsRow.lt h k hk).1
theorem c_drop{o key:Int}{l:List Pr}{q:OA}{n c:Nat}(hl:Cs w q (prs l))(hn:l.length=n)(hm:n≤1000000000000)(hI:InP l)(hk:In key)
  (h:∀p n' c' w',OwnP w' w.heap.size p n' c' (rY o l key)→Ext w w'→R (.returned (.tuple #[.slice p n' c',.bool (hasR o l key)])) w'):Calls prog 100 #[.int .u8 o,.slice q n c,.int .i64 key] w R:=by
 refine sh100_ok ?_
 unfold sh100
 refine pP call24 (aFz hl hn (by omega) hI fun w1 e1=>pN ⟨_,rfl,?_⟩)
 cases hmay:mayR o l
 ·refine pZ rfl ?_
  have hr:=h none 0 0 w1
  simp only [rY,hasR,hmay,cond_false,Bool.false_and] at hr
  exact hr (qH _ _) e1
 ·refine pY rfl ?_
  refine pP call27 (yR (hl.ext e1) hn hm fun p c1 w2 ho e2=>pN ⟨_,_,_,rfl,?_⟩)
  refine pP call112 (vJ ((hl.ext e1).ext e2) hn (by omega) hI hk fun w3 e3=>pN ⟨_,_,rfl,?_⟩)
  have E3:=(e1.trans e2).trans e3
  have ho3:=wP ho e3 e1.size
  cases hh:hasR o l key
  ·refine pZ rfl ?_
   have hr:=h p n c1 w3
   simp only [rY,hh,hmay,cond_false,cond_true] at hr
   exact hr ho3 E3
  ·refine pY rfl ?_
   have hlt:=sH hh
   rw [show IntKind.wrap .i64 ((posR o l key:Nat)+1:Int)=((posR o l key+1:Nat):Int) from pW (n:=n) (by omega) (by omega)]
   refine pP call143 (c_delete ho3 hm (by omega) fun p' c' w4 ho4 g4=>pN ⟨_,_,_,rfl,?_⟩)
   have hr:=h p' (n - 1) c' w4
   simp only [rY,hh,hmay,cond_true] at hr
   exact hr ho4 (tS ho3 E3 g4 (Nat.le_refl _))
def putR(o p:Int)(l:List Pr)(x:Pr):List Pr:=
 cond (mayR o l&&may p) (cond (hasR o l x.1) (l.set (posR o l x.1) (x.1,comb p (l.getD (posR o l x.1) (0,0)).2 x.2)) (l.take (posR o l x.1)++x::l.drop (posR o l x.1))) []
def putE(o p:Int)(l:List Pr):Int:=cond (mayR o l&&may p) 0 2
theorem aJp{l:List Pr}{k:Nat}(hk:k < l.length)(v:Int):(prs l).set (k * 2+1) (.int .i64 v)=prs (l.set k (l[k].1,v)):=by
 induction l generalizing k with
 | nil=>simp at hk
 | cons x xs ih=>
  cases k with
  | zero=>rfl
  | succ k=>
   have:=ih (k:=k) (by simpa using hk)
   rw [show (k+1) * 2+1=k * 2+1+1+1 by omega]
   simp only [aBp,List.set_cons_succ,List.getElem_cons_succ,this]
theorem prs_set1{l:List Pr}{k:Nat}(hk:k < l.length)(v:Int):(prs l).set (k * 2) (.int .i64 v)=prs (l.set k (v,l[k].2)):=by
 induction l generalizing k with
 | nil=>simp at hk
 | cons x xs ih=>
  cases k with
  | zero=>rfl
  | succ k=>
   have:=ih (k:=k) (by simpa using hk)
   rw [show (k+1) * 2=k * 2+1+1 by omega]
   simp only [aBp,List.set_cons_succ,List.getElem_cons_succ,this]
theorem aNk{l:List Pr}{p:OA}{n c base k:Nat}(ho:OwnP w base p n c l)(hk:k < n){a:Addr}(ha:∃b,p=some b∧a=b.add (k * 2)){v:Int}{K:World→Prop}
  (h:∀w',OwnP w' base p n c (l.set k ((l[k]'(by rw [qF ho];exact hk)).1,v))→w.grownBy w' (Value.slice p n c).ownBlock→K w'):doSt ((a.add 1).add 0) (.int .i64 v) w K:=by
 obtain ⟨b,hb,rfl⟩:=ha
 have hl:=qF ho
 rcases xQ ho with ⟨hp,hn0,_⟩ | ⟨g,cur,hp,hbg,hg,_,hcm,hcl,hct⟩
 ·omega
 subst hp;cases hb
 rw [add_zero',add_add]
 have ea:(⟨g,0,none⟩:Addr).add (k * 2+1)=⟨g,k * 2+1,none⟩:=pU g _
 rw [ea]
 have hs:=ho.stored (k * 2+1) (.int .i64 v)
 rw [aJp (by omega)] at hs
 exact ⟨⟨_,by rw [ho.cellAt _ (by omega)];exact List.getElem?_eq_getElem (by simp;omega)⟩,ho.frozenAt _,h _ hs.1 hs.2⟩
theorem c_put{o p:Int}{l:List Pr}{x:Pr}{q:OA}{n c:Nat}(hl:Cs w q (prs l))(hn:l.length=n)(hm:n≤1000000000000)(hI:InP l)(hx:In x.1)
  (h:∀p' n' c' w',OwnP w' w.heap.size p' n' c' (putR o p l x)→Ext w w'→R (.returned (.tuple #[.slice p' n' c',.int .i64 (putE o p l)])) w'):Calls prog 97 #[.int .u8 o,.int .u8 p,.slice q n c,agP x] w R:=by
 refine sh97_ok ?_
 unfold sh97
 refine ⟨?_⟩
 have e0:=pQ w (.cells #[.int .i64 x.1,.int .i64 x.2] 63)
 have hb:=pS w #[.int .i64 x.1,.int .i64 x.2] 63
 generalize hb0:w.heap.size=b at *
 generalize w.alloc (.cells #[.int .i64 x.1,.int .i64 x.2] 63)=w0 at *
 refine pP call24 (aFz (hl.ext e0) hn (by omega) hI fun w1 e1=>pN ⟨_,rfl,?_⟩)
 have E1:=e0.trans e1
 have hb1:=hb.ext e1
 cases hmay:mayR o l
 ·refine pZ rfl ?_
  have hr:=h none 0 0 w1
  simp only [putR,putE,hmay,cond_false,Bool.false_and] at hr
  exact hr (qH _ _) E1
 refine pY rfl ?_
 refine pP call118 (aJe fun w2 e2=>pN ⟨_,rfl,?_⟩)
 have E2:=E1.trans e2
 have hb2:=hb1.ext e2
 cases hp:may p
 ·refine pZ rfl ?_
  have hr:=h none 0 0 w2
  simp only [putR,putE,hp,cond_false,Bool.and_false] at hr
  exact hr (qH _ _) E2
 refine pY rfl ?_
 refine pP call27 (yR (hl.ext E2) hn hm fun q3 c3 w3 ho e3=>pN ⟨_,_,_,rfl,?_⟩)
 have E3:=E2.trans e3
 have hb3:=hb2.ext e3
 refine ⟨_,hb3.cell (by rw [pU]) rfl,?_⟩
 refine pP call112 (vJ (hl.ext E3) hn (by omega) hI hx fun w4 e4=>pN ⟨_,_,rfl,?_⟩)
 have E4:=E3.trans e4
 have hb4:=hb3.ext e4
 have hsz2:b < w2.heap.size:=hb2.lt
 cases hh:hasR o l x.1
 ·refine pZ rfl ?_
  refine ⟨_,hb4.cell (by rw [pU]) rfl,_,hb4.cell (by rw [pU]) rfl,⟨?_⟩⟩
  have e5:=pQ w4 (.cells #[.int .i64 x.1,.int .i64 x.2] 63)
  have hb5:=pS w4 #[.int .i64 x.1,.int .i64 x.2] 63
  have ho5:=wP ho (e4.trans e5) (Nat.le_refl _)
  have hne:q3≠some (blk w4.heap.size):=fun e=>by
   have:=(tG (wP ho e4 (Nat.le_refl _)) e).2
   exact absurd this (Nat.lt_irrefl _)
  refine pP call141 (c_insert (x:=x) ho5 (Nat.le_trans e3.size (e4.trans e5).size) hm (by have:=aAf o l x.1;omega) hb5 hne fun p' c' w6 ho6 g6=>pN ⟨_,_,_,rfl,?_⟩)
  have hr:=h p' (n+1) c' w6
  simp only [putR,putE,hp,hmay,hh,cond_false,cond_true,Bool.and_true] at hr
  exact hr (rO ho6 (by omega)) (tS ho5 (E4.trans e5) g6 (by omega))
 ·refine pY rfl ?_
  have hlt:=sH hh
  refine ⟨⟨fun w'=>Ext w4 w',pT _,?_⟩⟩
  refine qZ (fun w' e=>(hl.ext E4).ext e) (pR _) hn rfl (by omega) fun a _ r2=>⟨_,r2,_,fun w' e=>(hb4.ext e).cell (i:=1) (by rw [pU]) rfl,?_⟩
  refine pP call142 (aMo fun w6 e6=>pN ⟨_,_,rfl,?_⟩)
  have ho6:=wP ho ((e4.drew).trans e6) (Nat.le_refl _)
  refine rI (rB ho6) hn rfl (by omega) fun a' _ _ ha'=>?_
  refine aNk ho6 (by omega) ha' fun w7 ho7 g7=>?_
  have hr:=h q3 n c3 w7
  simp only [putR,putE,hp,hmay,hh,cond_true,Bool.and_true,rQ hlt] at hr
  have e:(l[posR o l x.1]'hlt).1=x.1:=wS hh
  simp only [hp,cond_true,e] at ho7
  refine hr (rO ho7 (by omega)) (tS ho6 (E4.drew.trans e6) g7 (by omega))
theorem c_rowsum{l:List Pr}{q:OA}{n c:Nat}(hl:Cs w q (prs l))(hn:l.length=n)(hm:n≤1000000000000)
  (h:∀w',Ext w w'→R (.returned (.int .i64 (sumL (l.map (·.2))))) w'):Calls prog 114 #[.slice q n c] w R:=by
 refine sh114_ok ?_
 unfold sh114
 refine ⟨fun vs w'=>∃(p:OA) (k c':Nat),vs=[.slice p k c',.int .i64 (k:Nat)]∧k≤n∧Ext w w'∧w'.ownsRow w.heap.size 2 1 (.slice p k c') k (ints ((l.take k).map (·.2))),fun vs _=>n - (intOf (vs.getD 1 undef)).toNat,
  ⟨none,0,0,rfl,by omega,pR w,World.ownsRow_nil _ _ _ _⟩,?_⟩
 rintro p1 n1 c1 i1 _ w1 ⟨p,k,c',hv,hk,E,ho⟩
 simp only [List.cons.injEq,Value.slice.injEq,Value.int.injEq,true_and,and_true] at hv
 obtain ⟨⟨rfl,rfl,rfl⟩,rfl⟩:=hv
 refine pO (fun hlt=>?_) fun hge=>?_
 ·have hlt:n1 < n:=by have:=of_decide_eq_true hlt;omega
  refine rI (hl.ext E) hn rfl hlt fun a r1 r2 _=>⟨_,r1,_,r2,⟨?_⟩⟩
  refine vX (pS w1 _ _) fun w2 h2 g2=>⟨_,h2.cell (i:=1) (by rw [pU]) rfl,⟨?_⟩⟩
  have e2:Ext w1 w2:=(pQ w1 _).st g2 (Nat.le_refl _)
  have e3:=pQ w2 (.cells #[.int .i64 (l[n1]'(by omega)).2] 2)
  have ho3:=(e2.trans e3).row ho
  refine wI elI ho3 (m:=1) (qY w2 _ _) (by simp) (by simp [Value.oneCell']) (by simp only [maxLen];omega) (by omega) (Nat.le_trans E.size (e2.trans e3).size) fun p' c' w4 h4 g4=>pN ⟨_,_,_,rfl,?_⟩
  refine ⟨⟨p',n1+1,c',?_,by omega,(E.trans (e2.trans e3)).grown g4 fun k hk=>(World.ownsRow.lt ho3 k hk).1,?_⟩,?_⟩
  ·rw [pW hlt (by omega)]
  ·rw [show l.take (n1+1)=l.take n1++[l[n1]'(by omega)] from (List.take_append_getElem (by omega)).symm,List.map_append,zP];exact h4
  ·rw [pW hlt (by omega)];simp [intOf];omega
 ·have hge:n1=n:=by have:=of_decide_eq_false hge;omega
  subst hge
  rw [←hn,List.take_length] at ho
  refine pP call154 (c_sum (l:=l.map (·.2)) (Cs.of_row (by rw [hn] at ho;exact ho)) (by simpa using hn) (by omega) fun w2 e2=>pN ⟨_,rfl,h w2 (E.trans e2)⟩)
def sV(k a b:Int)(x:Pr):Bool:=
 if k=2 then decide (a≤x.1∧x.1≤b) else if k=3 then decide (a≤x.2∧x.2≤b) else if k=4 then decide (x.1 % a=b)
 else if k=5 then decide (BitVec.ofInt 64 x.1 &&& BitVec.ofInt 64 a=BitVec.ofInt 64 b) else true
theorem aMy(v:BitVec 64):IntKind.wrap .i64 (v.toNat:Int)=v.toInt:=by
 have:=v.isLt
 rw [BitVec.toInt_eq_toNat_cond]
 simp only [IntKind.wrap,IntKind.signed,IntKind.bits]
 simp
 split <;> omega
theorem ofInt_toInt{a:Int}(h:In a):(BitVec.ofInt 64 a).toInt=a:=by
 unfold In at h
 rw [BitVec.toInt_ofInt]
 simp only [Int.bmod]
 omega
theorem bor_eq{a b:Int}(ha:In a):((bOr .i64 a b)==a)=decide (BitVec.ofInt 64 a ||| BitVec.ofInt 64 b=BitVec.ofInt 64 a):=by
 rw [Bool.eq_iff_iff]
 simp only [beq_iff_eq,decide_eq_true_eq]
 show IntKind.wrap .i64 ((BitVec.ofInt 64 a ||| BitVec.ofInt 64 b).toNat:Int)=a↔_
 rw [aMy]
 constructor
 ·intro h
  apply BitVec.eq_of_toInt_eq
  rw [h,ofInt_toInt ha]
 ·intro h
  rw [h,ofInt_toInt ha]
theorem band_eq{a b c:Int}(hc:In c):((bAnd .i64 a b)==c)=decide (BitVec.ofInt 64 a &&& BitVec.ofInt 64 b=BitVec.ofInt 64 c):=by
 rw [Bool.eq_iff_iff]
 simp only [beq_iff_eq,decide_eq_true_eq]
 show IntKind.wrap .i64 ((BitVec.ofInt 64 a &&& BitVec.ofInt 64 b).toNat:Int)=c↔_
 rw [aMy]
 constructor
 ·intro h
  apply BitVec.eq_of_toInt_eq
  rw [h,ofInt_toInt hc]
 ·intro h
  rw [h,ofInt_toInt hc]
theorem mod_eq{x a b:Int}(hx:In x)(ha:In a)(h:1≤a∧0≤b∧b < a):(x.tmod a=b→x % a=b)∧(x.tmod a≠b→((IntKind.wrap .i64 (x.tmod a+a))==b)=decide (x % a=b)):=by
 have h0:=Int.emod_nonneg x (show a≠0 by omega)
 have h1:=Int.emod_lt_of_pos x (show 0 < a by omega)
 have ht:=Int.tmod_eq_emod (a:=x) (b:=a)
 have hw:∀y:Int,-9223372036854775808≤y→y < 18446744073709551616→(IntKind.wrap .i64 y=y∧y < 9223372036854775808)∨(IntKind.wrap .i64 y=y - 18446744073709551616∧9223372036854775808≤y):=fun y h1 h2=>by
  by_cases hy:y < 9223372036854775808
  ·exact .inl ⟨qB h1 hy,hy⟩
  ·right
   simp only [IntKind.wrap,IntKind.signed,IntKind.bits]
   simp
   omega
 unfold In at hx ha
 split at ht
 ·rename_i hc
  have ht:x.tmod a=x % a:=by simpa using ht
  rw [ht]
  refine ⟨id,fun hne=>?_⟩
  rw [show decide (x % a=b)=false by simpa using hne]
  have:=hw (x % a+a) (by omega) (by omega)
  have hne:IntKind.wrap .i64 (x % a+a)≠b:=by omega
  simpa using hne
 ·rename_i hc
  have ht:x.tmod a=x % a - a:=by
   rw [ht]
   have:((a.natAbs:Nat):Int)=a:=by omega
   rw [this]
  have hne0:x % a≠0:=fun e=>hc (.inr (Int.dvd_of_emod_eq_zero e))
  rw [ht]
  refine ⟨fun e=>by omega,fun _=>?_⟩
  rw [qB (by omega) (by omega),show x % a - a+a=x % a by omega]
  by_cases e:x % a=b <;> simp [e]
def aHt(b:Nat):Array MapEntry:=#[
 { key:=.int .u8 1,val:=.agg #[.func (.func 180) #[] #[],.func (.func 181) #[] #[]],born:=0 },
 { key:=.int .u8 2,val:=.agg #[.func (.func 178) #[] #[],.func (.func 182) #[] #[.pointer (some (blk b))]],born:=1 },
 { key:=.int .u8 3,val:=.agg #[.func (.func 178) #[] #[],.func (.func 183) #[] #[.pointer (some (blk b))]],born:=2 },
 { key:=.int .u8 4,val:=.agg #[.func (.func 184) #[] #[],.func (.func 185) #[] #[]],born:=3 },
 { key:=.int .u8 5,val:=.agg #[.func (.func 186) #[] #[],.func (.func 187) #[] #[]],born:=4 }]
abbrev fromV:Array Value:=#[.func (.func 179) #[] #[]]
theorem aFv(h:∀b m t w',Ext w w'→w'.heap[m]?=some (.map (aHt b) 5)→Blk w' b fromV t→R (.returned (.map (some m))) w'):Calls prog 159 #[] w R:=by
 refine sh159_ok ?_
 unfold sh159
 refine ⟨qA (pS w _ _) (i:=0) rfl (by simp) fun w0 h0 g0=>⟨?_⟩⟩
 have e0:=(pQ w (.cells (Value.cells .nilFunc) _)).st g0 (Nat.le_refl _)
 have hm0:=heap_alloc_new w0 (.map #[] 0)
 have e1:=pQ w0 (.map #[] 0)
 have hb1:=Blk.ext h0 e1
 have hlt:=Blk.lt h0
 generalize w0.alloc (.map #[] 0)=wm at *
 refine qE underlying178 underlying5 hm0 (by rfl) (by rfl) fun w1 h1 g1=>?_
 refine qE underlying178 underlying5 h1 (by rfl) (by rfl) fun w2 h2 g2=>?_
 refine qE underlying178 underlying5 h2 (by rfl) (by rfl) fun w3 h3 g3=>?_
 refine qE underlying178 underlying5 h3 (by rfl) (by rfl) fun w4 h4 g4=>?_
 refine qE underlying178 underlying5 h4 (by rfl) (by rfl) fun w5 h5 g5=>?_
 have hne:some w.heap.size≠some w0.heap.size:=pV (by omega)
 have s0:=e0.size
 exact h _ _ _ _ ((((((e0.trans e1).st g1 s0).st g2 s0).st g3 s0).st g4 s0).st g5 s0) h5 (((((hb1.grown g1 hne).grown g2 hne).grown g3 hne).grown g4 hne).grown g5 hne)
theorem aAm{b:Nat}{k:Int}(hk:1≤k∧k≤5):∃i f g gc,Instr.findNow (.int .u8) (.int .u8 k) (aHt b).toList 0=some (some (i,.agg #[.func (.func f) #[] #[],.func (.func g) #[] gc]))∧
  (∀(a c:Int),In a→In c→∀(w:World) (R:EW),R (.returned (.bool (qJ k a c))) w→doCall prog (.func (.func f) #[] #[]) #[.int .i64 a,.int .i64 c] w R)∧
  ∀(a c:Int) (x:Pr),In a→In c→In x.1→qJ k a c=true→∀(w:World) (t:TypeId) (R:EW),Blk w b fromV t→(∀w',Ext w w'→R (.returned (.bool (sV k a c x))) w')→
   doCall prog (.func (.func g) #[] gc) #[.int .i64 a,.int .i64 c,agP x] w R:=by
 have any:∀(a c:Int) (w:World) (R:EW),R (.returned (.bool true)) w→doCall prog (.func (.func 178) #[] #[]) #[.int .i64 a,.int .i64 c] w R:=fun a c w R h=>pP call178 (sh178_ok h)
 have from_:∀(a c v:Int) (w:World) (R:EW),R (.returned (.bool (decide (a≤v∧v≤c)))) w→doCall prog (.func (.func 179) #[] #[]) #[.int .i64 a,.int .i64 c,.int .i64 v] w R:=fun a c v w R h=>pP call179 (sh179_ok (by
  unfold sh179
  refine pO (fun z=>?_) fun z=>?_
  ·have z:=of_decide_eq_true z
   rw [show decide (a≤v∧v≤c)=decide (v≤c) by rw [Bool.eq_iff_iff];simp;omega] at h
   exact h
  ·have z:=of_decide_eq_false z
   rw [show decide (a≤v∧v≤c)=false by simp;omega] at h
   exact h))
 rcases (show k=1∨k=2∨k=3∨k=4∨k=5 by omega) with rfl | rfl | rfl | rfl | rfl
 ·refine ⟨0,180,181,#[],rfl,fun a c ha hc w R h=>pP call180 (sh180_ok ?_),fun a c x ha hc hx hp w t R hb h=>pP call181 (sh181_ok ?_)⟩
  ·unfold sh180
   refine pO (fun z=>?_) fun z=>?_
   ·have z:a=0:=by simpa using z
    rw [show qJ 1 a c=(c==0) by rw [Bool.eq_iff_iff];simp [qJ,z]] at h
    exact h
   ·have z:a≠0:=by simpa using z
    rw [show qJ 1 a c=false by simp [qJ,z]] at h
    exact h
  ·unfold sh181
   exact ⟨h _ (pQ w _)⟩
 ·refine ⟨1,178,182,#[.pointer (some (blk b))],rfl,fun a c ha hc w R h=>any a c w R h,fun a c x ha hc hx hp w t R hb h=>uE call182 rfl (sh182_ok ?_)⟩
  unfold sh182
  have e1:=pQ w (.cells #[.int .i64 x.1,.int .i64 x.2] 63)
  exact ⟨⟨_,_,_,(hb.ext e1).cell (i:=0) rfl rfl,_,(pS w _ _).cell (i:=0) rfl rfl,from_ a c x.1 _ _ (pN ⟨_,rfl,h _ e1⟩)⟩⟩
 ·refine ⟨2,178,183,#[.pointer (some (blk b))],rfl,fun a c ha hc w R h=>any a c w R h,fun a c x ha hc hx hp w t R hb h=>uE call183 rfl (sh183_ok ?_)⟩
  unfold sh183
  have e1:=pQ w (.cells #[.int .i64 x.1,.int .i64 x.2] 63)
  exact ⟨⟨_,_,_,(hb.ext e1).cell (i:=0) rfl rfl,_,(pS w _ _).cell (i:=1) rfl rfl,from_ a c x.2 _ _ (pN ⟨_,rfl,h _ e1⟩)⟩⟩
 ·refine ⟨3,184,185,#[],rfl,fun a c ha hc w R h=>pP call184 (sh184_ok ?_),fun a c x ha hc hx hp w t R hb h=>pP call185 (sh185_ok ?_)⟩
  ·unfold sh184
   have hp:qJ 4 a c=decide (1≤a∧0≤c∧c < a):=rfl
   rw [hp] at h
   refine pO (fun z=>pO (fun y=>?_) fun y=>?_) fun z=>?_
   ·have z:=of_decide_eq_true z
    have y:=of_decide_eq_true y
    rw [show decide (1≤a∧0≤c∧c < a)=decide (c < a) by rw [Bool.eq_iff_iff];simp;omega] at h
    exact h
   ·have y:=of_decide_eq_false y
    rw [show decide (1≤a∧0≤c∧c < a)=false by simp;omega] at h
    exact h
   ·have z:=of_decide_eq_false z
    rw [show decide (1≤a∧0≤c∧c < a)=false by simp;omega] at h
    exact h
  ·unfold sh185
   have hp:1≤a∧0≤c∧c < a:=of_decide_eq_true (show decide (1≤a∧0≤c∧c < a)=true from hp)
   have M:=mod_eq hx ha hp
   have hb1:=pS w #[.int .i64 x.1,.int .i64 x.2] 63
   have hr:=h _ (pQ w (.cells #[.int .i64 x.1,.int .i64 x.2] 63))
   rw [show sV 4 a c x=decide (x.1 % a=c) from rfl] at hr
   refine ⟨⟨_,hb1.cell (i:=0) rfl rfl,by omega,pO (fun z=>?_) fun z=>⟨_,hb1.cell (i:=0) rfl rfl,by omega,?_⟩⟩⟩
   ·rw [show decide (x.1 % a=c)=true by simpa using M.1 (by simpa using z)] at hr
    exact hr
   ·show R (.returned (.bool ((IntKind.wrap .i64 (x.1.tmod a+a))==c))) _
    rw [M.2 (by simpa using z)]
    exact hr
 ·refine ⟨4,186,187,#[],rfl,fun a c ha hc w R h=>pP call186 (sh186_ok ?_),fun a c x ha hc hx hp w t R hb h=>pP call187 (sh187_ok ?_)⟩
  ·unfold sh186
   rw [bor_eq ha]
   exact h
  ·unfold sh187
   refine ⟨⟨_,(pS w _ _).cell (i:=0) rfl rfl,?_⟩⟩
   rw [band_eq hc]
   exact h _ (pQ w _)
theorem wV{b:Nat}{k:Int}(hk:¬(1≤k∧k≤5)):Instr.findNow (.int .u8) (.int .u8 k) (aHt b).toList 0=some none:=by
 have hn:∀i:Int,1≤i→i≤5→(k==i)=false:=fun i h1 h2=>by simp;omega
 simp [aHt,Instr.findNow,Instr.sameNow,hn]
theorem aEz{k a c:Int}(hk:¬(1≤k∧k≤5)):qJ k a c=false:=by
 cases h:qJ k a c
 ·rfl
 ·exact absurd (aBq h).1 hk
theorem aIx{k a c:Int}{f:Bool}(ha:In a)(hc:In c)(h:∀w',Ext w w'→R (.returned (.bool (qJ k a c))) w'):
  Calls prog 119 #[.agg #[.int .u8 k,.int .i64 a,.int .i64 c,.bool f]] w R:=by
 refine sh119_ok ?_
 unfold sh119
 refine ⟨?_⟩
 have e1:=pQ w (.cells #[.int .u8 k,.int .i64 a,.int .i64 c,.bool f] 27)
 have hb1:=pS w #[.int .u8 k,.int .i64 a,.int .i64 c,.bool f] 27
 generalize w.alloc (.cells #[.int .u8 k,.int .i64 a,.int .i64 c,.bool f] 27)=w1 at *
 generalize w.heap.size=b1 at hb1 ⊢
 intro K10
 refine ⟨?_⟩
 have e2:=e1.trans (pT w1)
 have hb2:=hb1.ext (pT w1)
 generalize w1.drew=w2 at *
 have hit:∀(w':World) (bk ff:Nat) (gv:Value),Ext w2 w'→Blk w' bk #[.func (.func ff) #[] #[],gv] 176→(∀(a c:Int),In a→In c→∀(w:World) (R:EW),R (.returned (.bool (qJ k a c))) w→doCall prog (.func (.func ff) #[] #[]) #[.int .i64 a,.int .i64 c] w R)→K10 (blk bk) true w':=fun w' bk ff gv e hbk hf=>
  pZ rfl ⟨_,_,_,hbk.cell (i:=0) rfl rfl,_,(hb2.ext e).cell (i:=1) rfl rfl,_,(hb2.ext e).cell (i:=2) rfl rfl,hf a c ha hc _ _ (pN ⟨_,rfl,h _ (e2.trans e)⟩)⟩
 refine ⟨fun w'=>Ext w2 w',pR _,_,fun w' e=>(hb2.ext e).cell (i:=0) rfl rfl,⟨?_,?_⟩⟩
 ·refine pP call159 (aFv fun b m t w3 e3 hm hbf=>pN ⟨_,rfl,e3,⟨?_,?_⟩⟩)
  ·by_cases hk:1≤k∧k≤5
   ·obtain ⟨i,ff,g,gc,hf,h1,_⟩:=aAm (b:=b) hk
    refine vI underlying178 underlying5 hm (by rfl) hf (.inl ⟨_,_,_,_,_,_,_,rfl,⟨e3.trans (pQ _ _),?_⟩⟩)
    refine qA (pS w3 _ _) (i:=0) rfl (by simp) fun w4 h4 g4=>qA h4 (i:=1) rfl (by simp) fun w5 h5 g5=>?_
    exact hit w5 _ ff _ (((e3.alloc (.cells #[.nilFunc,.nilFunc] 176)).st g4 e3.size).st g5 e3.size) h5 h1
   ·refine vH underlying178 underlying5 hm (by rfl) (wV hk) (z:=.agg #[.nilFunc,.nilFunc]) (by kernel_rfl) (.inr ⟨rfl,⟨e3.trans (pQ _ _),?_⟩⟩)
    refine qA (pS w3 _ _) (i:=0) rfl (by simp) fun w4 h4 g4=>qA h4 (i:=1) rfl (by simp) fun w5 h5 g5=>?_
    have:=h w5 (e2.trans (((e3.alloc (.cells #[.nilFunc,.nilFunc] 176)).st g4 e3.size).st g5 e3.size))
    rw [aEz hk] at this;exact this
  ·refine ⟨e3.trans (pQ _ _),?_⟩
   have e4:=e3.alloc (.cells #[.nilFunc,.nilFunc] 176)
   have hm4:=(pQ w3 (.cells #[.nilFunc,.nilFunc] 176)).heap hm
   by_cases hk:1≤k∧k≤5
   ·obtain ⟨i,ff,g,gc,hf,h1,_⟩:=aAm (b:=b) hk
    refine vI underlying178 underlying5 hm4 (by rfl) hf (.inl ⟨_,_,_,_,_,_,_,rfl,?_⟩)
    refine qA (pS w3 _ _) (i:=0) rfl (by simp) fun w4 h4 g4=>qA h4 (i:=1) rfl (by simp) fun w5 h5 g5=>?_
    exact hit w5 _ ff _ ((e4.st g4 e3.size).st g5 e3.size) h5 h1
   ·refine vH underlying178 underlying5 hm4 (by rfl) (wV hk) (z:=.agg #[.nilFunc,.nilFunc]) (by kernel_rfl) (.inr ⟨rfl,?_⟩)
    refine qA (pS w3 _ _) (i:=0) rfl (by simp) fun w4 h4 g4=>qA h4 (i:=1) rfl (by simp) fun w5 h5 g5=>?_
    have:=h w5 (e2.trans ((e4.st g4 e3.size).st g5 e3.size))
    rw [aEz hk] at this;exact this
 ·refine ⟨pQ _ _,?_⟩
  have e3:=pQ w2 (.cells #[.nilFunc,.nilFunc] 176)
  have hb3:=pS w2 #[.nilFunc,.nilFunc] 176
  have s3:w2.heap.size≤w2.heap.size:=Nat.le_refl _
  refine pP call159 (aFv fun b m t w4 e4 hm hbf=>pN ⟨_,rfl,e3.trans e4,?_⟩)
  have hb4:=hb3.ext e4
  by_cases hk:1≤k∧k≤5
  ·obtain ⟨i,ff,g,gc,hf,h1,_⟩:=aAm (b:=b) hk
   refine vI underlying178 underlying5 hm (by rfl) hf (.inl ⟨_,_,_,_,_,_,_,rfl,?_⟩)
   refine qA hb4 (i:=0) rfl (by simp) fun w5 h5 g5=>qA h5 (i:=1) rfl (by simp) fun w6 h6 g6=>?_
   exact hit w6 _ ff _ (((e3.trans e4).st g5 s3).st g6 s3) h6 h1
  ·refine vH underlying178 underlying5 hm (by rfl) (wV hk) (z:=.agg #[.nilFunc,.nilFunc]) (by kernel_rfl) (.inr ⟨rfl,?_⟩)
   refine qA hb4 (i:=0) rfl (by simp) fun w5 h5 g5=>qA h5 (i:=1) rfl (by simp) fun w6 h6 g6=>?_
   have:=h w6 (e2.trans (((e3.trans e4).st g5 s3).st g6 s3))
   rw [aEz hk] at this;exact this
def opV(x:POp)(pv kv:Value):Value:=.agg (sA x pv kv)
structure OpRd (w:World) (x:POp) (pv kv:Value):Prop where
 p:∃a c,pv=.slice a x.pairs.length c∧x.pairs.length≤c∧Cs w a (prs x.pairs)∧∀d,a=some d→prs x.pairs≠[]→d.block < w.heap.size
 k:∃a c,kv=.slice a x.keys.length c∧x.keys.length≤c∧Cs w a (ints x.keys)∧∀d,a=some d→ints x.keys≠[]→d.block < w.heap.size
theorem OpRd.ext{w w':World}{x:POp}{pv kv:Value}(h:OpRd w x pv kv)(e:Ext w w'):OpRd w' x pv kv:=by
 obtain ⟨a,c,h1,h2,h3,h4⟩:=h.p
 obtain ⟨b,d,g1,g2,g3,g4⟩:=h.k
 exact ⟨⟨a,c,h1,h2,h3.ext e,fun x hx hz=>Nat.lt_of_lt_of_le (h4 x hx hz) e.size⟩,⟨b,d,g1,g2,g3.ext e,fun x hx hz=>Nat.lt_of_lt_of_le (g4 x hx hz) e.size⟩⟩
theorem st15{b:Nat}{a0 a1 a2 a3 a4 a5 a6 a7 a8 a9 a10 a11 a12 a13 a14 v0 v1 v2 v3 v4 v5 v6 v7 v8 v9 v10 v11 v12 v13 v14:Value}{t:TypeId}{K:World→Prop}(h:Blk w b #[a0,a1,a2,a3,a4,a5,a6,a7,a8,a9,a10,a11,a12,a13,a14] t)
  (k:∀w',Blk w' b #[v0,v1,v2,v3,v4,v5,v6,v7,v8,v9,v10,v11,v12,v13,v14] t→w.grownBy w' (some b)→K w') :
  doSt ((blk b).add 0) v0 w fun w1=>doSt ((blk b).add 1) v1 w1 fun w2=>doSt ((blk b).add 2) v2 w2 fun w3=>doSt ((blk b).add 3) v3 w3 fun w4=>doSt ((blk b).add 4) v4 w4 fun w5=>doSt ((blk b).add 5) v5 w5 fun w6=>doSt ((blk b).add 6) v6 w6 fun w7=>doSt ((blk b).add 7) v7 w7 fun w8=>doSt ((blk b).add 8) v8 w8 fun w9=>doSt ((blk b).add 9) v9 w9 fun w10=>doSt ((blk b).add 10) v10 w10 fun w11=>doSt ((blk b).add 11) v11 w11 fun w12=>doSt ((blk b).add 12) v12 w12 fun w13=>doSt ((blk b).add 13) v13 w13 fun w14=>doSt ((blk b).add 14) v14 w14 fun w15=>K w15:=by
 refine qA h (i:=0) rfl (by simp) fun w1 h1 g1=>?_
 have h1:Blk w1 b #[v0,a1,a2,a3,a4,a5,a6,a7,a8,a9,a10,a11,a12,a13,a14] t:=h1
 refine qA h1 (i:=1) rfl (by simp) fun w2 h2 g2=>?_
 have h2:Blk w2 b #[v0,v1,a2,a3,a4,a5,a6,a7,a8,a9,a10,a11,a12,a13,a14] t:=h2
 refine qA h2 (i:=2) rfl (by simp) fun w3 h3 g3=>?_
 have h3:Blk w3 b #[v0,v1,v2,a3,a4,a5,a6,a7,a8,a9,a10,a11,a12,a13,a14] t:=h3
 refine qA h3 (i:=3) rfl (by simp) fun w4 h4 g4=>?_
 have h4:Blk w4 b #[v0,v1,v2,v3,a4,a5,a6,a7,a8,a9,a10,a11,a12,a13,a14] t:=h4
 refine qA h4 (i:=4) rfl (by simp) fun w5 h5 g5=>?_
 have h5:Blk w5 b #[v0,v1,v2,v3,v4,a5,a6,a7,a8,a9,a10,a11,a12,a13,a14] t:=h5
 refine qA h5 (i:=5) rfl (by simp) fun w6 h6 g6=>?_
 have h6:Blk w6 b #[v0,v1,v2,v3,v4,v5,a6,a7,a8,a9,a10,a11,a12,a13,a14] t:=h6
 refine qA h6 (i:=6) rfl (by simp) fun w7 h7 g7=>?_
 have h7:Blk w7 b #[v0,v1,v2,v3,v4,v5,v6,a7,a8,a9,a10,a11,a12,a13,a14] t:=h7
 refine qA h7 (i:=7) rfl (by simp) fun w8 h8 g8=>?_
 have h8:Blk w8 b #[v0,v1,v2,v3,v4,v5,v6,v7,a8,a9,a10,a11,a12,a13,a14] t:=h8
 refine qA h8 (i:=8) rfl (by simp) fun w9 h9 g9=>?_
 have h9:Blk w9 b #[v0,v1,v2,v3,v4,v5,v6,v7,v8,a9,a10,a11,a12,a13,a14] t:=h9
 refine qA h9 (i:=9) rfl (by simp) fun w10 h10 g10=>?_
 have h10:Blk w10 b #[v0,v1,v2,v3,v4,v5,v6,v7,v8,v9,a10,a11,a12,a13,a14] t:=h10
 refine qA h10 (i:=10) rfl (by simp) fun w11 h11 g11=>?_
 have h11:Blk w11 b #[v0,v1,v2,v3,v4,v5,v6,v7,v8,v9,v10,a11,a12,a13,a14] t:=h11
 refine qA h11 (i:=11) rfl (by simp) fun w12 h12 g12=>?_
 have h12:Blk w12 b #[v0,v1,v2,v3,v4,v5,v6,v7,v8,v9,v10,v11,a12,a13,a14] t:=h12
 refine qA h12 (i:=12) rfl (by simp) fun w13 h13 g13=>?_
 have h13:Blk w13 b #[v0,v1,v2,v3,v4,v5,v6,v7,v8,v9,v10,v11,v12,a13,a14] t:=h13
 refine qA h13 (i:=13) rfl (by simp) fun w14 h14 g14=>?_
 have h14:Blk w14 b #[v0,v1,v2,v3,v4,v5,v6,v7,v8,v9,v10,v11,v12,v13,a14] t:=h14
 refine qA h14 (i:=14) rfl (by simp) fun w15 h15 g15=>?_
 have h15:Blk w15 b #[v0,v1,v2,v3,v4,v5,v6,v7,v8,v9,v10,v11,v12,v13,v14] t:=h15
 refine k _ h15 ?_
 exact pX (pX (pX (pX (pX (pX (pX (pX (pX (pX (pX (pX (pX (pX g1 g2) g3) g4) g5) g6) g7) g8) g9) g10) g11) g12) g13) g14) g15
theorem xY{w w':World}{p:OA}{vs:List Value}{b:Nat}(h:Cs w p vs)(g:w.grownBy w' (some b))(hne:∀a,p=some a→vs≠[]→a.block≠b):Cs w' p vs:=fun i v hv=>by
 obtain ⟨a,ha,hc⟩:=h i v hv
 refine ⟨a,ha,?_⟩
 have hb:=hne a ha (by rintro rfl;simp at hv)
 rw [World.cell?_of_block (g.block _ (World.block_lt_of_cell? _ _ hc) (by rw [qV];exact pV hb))]
 exact hc
theorem aKq{a:Addr}{vs:List Value}{b:Nat}{v:Bool}{t:TypeId}(h:Cs w (some a) vs)(hb:Blk w b #[.bool v] t)(hv:∀u∈vs,∃k n,u=.int k n)(h0:vs≠[]):a.block≠b:=by
 intro e
 cases vs with
 | nil=>exact h0 rfl
 | cons u us=>
  obtain ⟨a',ha,hc⟩:=h 0 u rfl
  cases ha
  rw [add_zero'] at hc
  obtain ⟨k,n,rfl⟩:=hv u (by simp)
  unfold World.cell? at hc
  rw [e,show w.heap[b]?=_ from hb] at hc
  simp only at hc
  split at hc
  ·cases hc
  ·generalize a.off=o at hc
   cases o with
   | zero=>simp at hc
   | succ o=>simp at hc
theorem prs_ints(l:List (Int × Int)):∀u∈prs l,∃k n,u=Value.int k n:=fun u hu=>by
 simp only [prs,List.mem_flatMap] at hu
 obtain ⟨x,_,hx⟩:=hu
 simp at hx
 rcases hx with rfl | rfl <;> exact ⟨_,_,rfl⟩
theorem aPn(l:List Int):∀u∈ints l,∃k n,u=Value.int k n:=fun u hu=>by
 simp only [ints,List.mem_map] at hu
 obtain ⟨x,_,rfl⟩:=hu
 exact ⟨_,_,rfl⟩
theorem rd_of{own:World→Nat→Prop}{yb ib:Nat}{w w1 w2:World}{v:Value}{n:Nat}{vs:List Value}{t:TypeId}{f:Bool}(h:RowAt own yb w v n vs)(g1:w.grownBy w1 (some yb))(hb:Blk w1 ib #[.bool f] t)(g2:w1.grownBy w2 (some ib))(hi:∀u∈vs,∃k n,u=Value.int k n):
  ∃a c,v=.slice a n c∧n≤c∧Cs w2 a vs∧∀d,a=some d→vs≠[]→d.block < w2.heap.size:=by
 obtain ⟨p,c,rfl,hn,hc,ha⟩:=h
 have h1:=xY hc g1 fun a e hz=>(ha a e hz).2.1
 refine ⟨p,c,rfl,hn,xY h1 g2 fun a e h0=>?_,fun d e hz=>Nat.lt_of_lt_of_le (ha d e hz).2.2 (Nat.le_trans g1.size g2.size)⟩
 subst e
 exact aKq h1 hb hi h0
theorem zero_in:InO POp.zero:=by
 refine ⟨?_,?_,?_,?_,?_,?_,?_,?_,?_,?_,?_,?_,?_,?_⟩ <;> simp [POp.zero,In,InPs]
theorem aDb{own:World→Nat→Prop}{S:Nat→Prop}{w0 w w':World}(e:Ext w0 w)(c:Chg own S w w')(ho:∀k,k < w0.heap.size→¬own w k)(hs:∀k,k < w0.heap.size→¬S k):Ext w0 w':=Below.trans e (c.ext ho hs e.size)
theorem c_copied{x:POp}{pv kv:Value}(hx:InO x)(hr:OpRd w x pv kv)(hP:x.pairs.length≤5000)(hK:x.keys.length≤5000)
  (h:∀y pv' kv' w',aHi x=some y→Ext w w'→OpRd w' y pv' kv'→R (.returned (.tuple #[opV y pv' kv',.bool true])) w')
  (hn:∀y p n c q m c' w',aHi x=none→Ext w w'→R (.returned (.tuple #[opV y (.slice p n c) (.slice q m c'),.bool false])) w'):Calls prog 116 #[opV x pv kv] w R:=by
 obtain ⟨a,c,rfl,hac,hcs,hab⟩:=hr.p
 obtain ⟨q,c',rfl,hqc,hqs,hqb⟩:=hr.k
 refine sh116_ok ?_
 unfold sh116
 refine ⟨⟨⟨⟨?_⟩⟩⟩⟩
 have e1:=pQ w (.cells #[.int .u8 x.op,.int .i64 x.a,.int .i64 x.b,.int .i64 x.key,.int .i64 x.val,.int .i64 x.lo,.int .i64 x.hi,.int .i64 x.n,.int .u8 x.pol,.int .u8 x.pk,.int .i64 x.pa,.int .i64 x.pb,.bool x.pnot,.slice a x.pairs.length c,.slice q x.keys.length c'] 30)
 have h1:OpAt _ _ x (.slice a x.pairs.length c) (.slice q x.keys.length c'):=pS w #[.int .u8 x.op,.int .i64 x.a,.int .i64 x.b,.int .i64 x.key,.int .i64 x.val,.int .i64 x.lo,.int .i64 x.hi,.int .i64 x.n,.int .u8 x.pol,.int .u8 x.pk,.int .i64 x.pa,.int .i64 x.pb,.bool x.pnot,.slice a x.pairs.length c,.slice q x.keys.length c'] 30
 generalize w.alloc (.cells #[.int .u8 x.op,.int .i64 x.a,.int .i64 x.b,.int .i64 x.key,.int .i64 x.val,.int .i64 x.lo,.int .i64 x.hi,.int .i64 x.n,.int .u8 x.pol,.int .u8 x.pk,.int .i64 x.pa,.int .i64 x.pb,.bool x.pnot,.slice a x.pairs.length c,.slice q x.keys.length c'] 30)=w1 at *
 have e2:=pQ w1 (.cells #[.int .u8 0,.int .i64 0,.int .i64 0,.int .i64 0,.int .i64 0,.int .i64 0,.int .i64 0,.int .i64 0,.int .u8 0,.int .u8 0,.int .i64 0,.int .i64 0,.bool false,.slice none 0 0,.slice none 0 0] 30)
 have h2:OpAt _ _ POp.zero (.slice none 0 0) (.slice none 0 0):=pS w1 #[.int .u8 0,.int .i64 0,.int .i64 0,.int .i64 0,.int .i64 0,.int .i64 0,.int .i64 0,.int .i64 0,.int .u8 0,.int .u8 0,.int .i64 0,.int .i64 0,.bool false,.slice none 0 0,.slice none 0 0] 30
 generalize w1.alloc (.cells #[.int .u8 0,.int .i64 0,.int .i64 0,.int .i64 0,.int .i64 0,.int .i64 0,.int .i64 0,.int .i64 0,.int .u8 0,.int .u8 0,.int .i64 0,.int .i64 0,.bool false,.slice none 0 0,.slice none 0 0] 30)=w2 at *
 have e3:=pQ w2 (.cells #[.bool false] 4)
 have h3:=pS w2 #[.bool false] 4
 generalize w2.alloc (.cells #[.bool false] 4)=w3 at *
 have e4:=pQ w3 (.cells #[.slice none 0 0] 161)
 have h4:=pS w3 #[.slice none 0 0] 161
 generalize w3.alloc (.cells #[.slice none 0 0] 161)=w4 at *
 have E4:=((e1.trans e2).trans e3).trans e4
 have l1:=h1.lt
 have l2:=h2.lt
 have l3:=h3.lt
 have l4:=h4.lt
 generalize hxb:w.heap.size=xb at *
 generalize hyb:w1.heap.size=yb at *
 generalize hib:w2.heap.size=ib at *
 generalize hob:w3.heap.size=ob at *
 have own4:∀k,rA ob w4 k→k=ob:=fun k hk=>((vL h4 k).1 hk).resolve_right (by simp [Value.ownBlock])
 have hI4:OutI ob w4 []:=⟨none,0,h4,World.ownsRow_nil _ _ _ _⟩
 have hx4:OpAt w4 xb x (.slice a x.pairs.length c) (.slice q x.keys.length c'):=Blk.ext h1 ((e2.trans e3).trans e4)
 have hy4:OpAt w4 yb POp.zero (.slice none 0 0) (.slice none 0 0):=Blk.ext h2 (e3.trans e4)
 have hi4:=h3.ext e4
 have hrow:RowsAt (rA ob) xb w4 x (.slice a x.pairs.length c) (.slice q x.keys.length c'):=by
  refine ⟨⟨a,c,rfl,hac,hcs.ext E4,fun d ed hz=>?_⟩,⟨q,c',rfl,hqc,hqs.ext E4,fun d ed hz=>?_⟩⟩
  ·have:=hab d ed hz
   exact ⟨fun hd=>by have:=own4 _ hd;omega,by omega,by omega⟩
  ·have:=hqb d ed hz
   exact ⟨fun hd=>by have:=own4 _ hd;omega,by omega,by omega⟩
 refine pP call157 (aOi (OutC ob) (s:=[]) hI4 (by show 0+50000 * 20≤lim;decide) (fun hd=>by have:=own4 _ hd;omega) hx4 hx hrow hP hK trivial trivial trivial (.inl fun s n s' h=>by cases h;exact Nat.le_refl _) (.inl fun s n s' h=>by cases h;exact Nat.le_refl _)
  (fun x5 s5 w5 pv5 kv5 hr5 hI5 _ _ _ hl5 c5=>pN ⟨rfl,?_⟩) fun ch w5 hn5 _ _ _=>by rw [aKy] at hn5;cases hn5)
 rw [aKy] at hr5
 cases hr5
 have hI5:OutI ob w5 (wrB x):=hI5
 have hl5:(wrB x).length≤0+30000 * 20:=hl5
 obtain ⟨p5,c5',hb5,hrow5⟩:=hI5.ex
 have hpos:0 < (wrB x).length:=List.length_pos_iff.2 (wrB_ne x)
 obtain ⟨g,rfl,_,_⟩:=row_some hrow5 hpos
 have hcs5:=Cs.of_row hrow5
 refine ⟨_,rfl,_,_,_,hb5.cell (i:=0) rfl rfl,⟨⟨(wrB x).toArray⟩,run_convert_bytes_back w5 _ _ 5 (blk g) c5' (wrB x) underlying159 underlying5 underlying9 (fun j hj=>?_),⟨?_⟩⟩⟩
 ·obtain ⟨a',ha',hc⟩:=hcs5 j (.int .u8 (((wrB x)[j].toNat:Nat):Int)) (by simp [bys,List.getElem?_eq_getElem hj])
  cases ha'
  exact hc
 have e6:=pQ w5 (.cells #[.string ⟨(wrB x).toArray⟩] 166)
 have hI6:InI w5.heap.size _ (wrB x):=pS w5 #[.string ⟨(wrB x).toArray⟩] 166
 generalize w5.alloc (.cells #[.string ⟨(wrB x).toArray⟩] 166)=w6 at *
 have l5:=c5.size
 generalize hsb:w5.heap.size=sb at *
 have ny:¬rA ob w4 yb:=fun hd=>by have:=own4 _ hd;omega
 have ni:¬rA ob w4 ib:=fun hd=>by have:=own4 _ hd;omega
 have hy6:OpAt w6 yb POp.zero (.slice none 0 0) (.slice none 0 0):=Blk.ext (c5.blk hy4 ny (by omega)) e6
 have hi6:=(c5.blk hi4 ni (by omega)).ext e6
 have E5:Ext w w5:=aDb E4 c5 (fun k hk hd=>by have:=own4 _ hd;omega) (fun k hk e=>by omega)
 have E6:=E5.trans e6
 have hrow6:RowsAt (uL sb) yb w6 POp.zero (.slice none 0 0) (.slice none 0 0):=⟨⟨none,0,rfl,Nat.le_refl _,cs_nil _ _,fun d e=>by cases e⟩,⟨none,0,rfl,Nat.le_refl _,cs_nil _ _,fun d e=>by cases e⟩⟩
 refine pP call157 (aOi (InC sb) (s:=wrB x) hI6 (by show (wrB x).length+50000 * 0≤1000000000000;omega) (fun hd=>by have:yb=sb:=hd;omega) hy6 zero_in hrow6 (Nat.zero_le _) (Nat.zero_le _) trivial trivial trivial (.inr ⟨rfl,rfl⟩) (.inr ⟨rfl,rfl⟩)
  (fun y s7 w7 pv7 kv7 hr7 hI7 hy7 hrow7 hin7 _ c7=>pN ⟨rfl,?_⟩) fun ch w7 hn7 hch hs7 c7=>?_)
 ·have E7:Ext w w7:=aDb E6 c7 (fun k hk hd=>by have:k=sb:=hd;omega) (fun k hk e=>by omega)
  have hi7:=c7.blk hi6 (fun hd=>by have:ib=sb:=hd;omega) (by omega)
  obtain ⟨p7,d7,hpv7,_⟩:=hrow7.p
  obtain ⟨q7,f7,hkv7,_⟩:=hrow7.k
  have hrp:=hrow7.p
  have hrk:=hrow7.k
  subst hpv7 hkv7
  refine ⟨_,hy7.cell (i:=0) rfl rfl,_,hy7.cell (i:=1) rfl rfl,_,hy7.cell (i:=2) rfl rfl,_,hy7.cell (i:=3) rfl rfl,_,hy7.cell (i:=4) rfl rfl,_,hy7.cell (i:=5) rfl rfl,_,hy7.cell (i:=6) rfl rfl,_,hy7.cell (i:=7) rfl rfl,_,hy7.cell (i:=8) rfl rfl,_,hy7.cell (i:=9) rfl rfl,_,hy7.cell (i:=10) rfl rfl,_,hy7.cell (i:=11) rfl rfl,_,hy7.cell (i:=12) rfl rfl,_,_,_,hy7.cell (i:=13) rfl rfl,_,_,_,hy7.cell (i:=14) rfl rfl,st15 hy7 fun w8 h8 g8=>?_⟩
  have hi8:=hi7.grown g8 (pV (by omega))
  refine qA hi8 (i:=0) rfl (by simp) fun w9 h9 g9=>c_catch0 ⟨?_⟩
  have h8':OpAt w9 yb y (.slice p7 y.pairs.length d7) (.slice q7 y.keys.length f7):=Blk.grown h8 g9 (pV (by omega))
  refine ⟨_,h8'.cell (i:=0) rfl rfl,_,h8'.cell (i:=1) rfl rfl,_,h8'.cell (i:=2) rfl rfl,_,h8'.cell (i:=3) rfl rfl,_,h8'.cell (i:=4) rfl rfl,_,h8'.cell (i:=5) rfl rfl,_,h8'.cell (i:=6) rfl rfl,_,h8'.cell (i:=7) rfl rfl,_,h8'.cell (i:=8) rfl rfl,_,h8'.cell (i:=9) rfl rfl,_,h8'.cell (i:=10) rfl rfl,_,h8'.cell (i:=11) rfl rfl,_,h8'.cell (i:=12) rfl rfl,_,_,_,h8'.cell (i:=13) rfl rfl,_,_,_,h8'.cell (i:=14) rfl rfl,_,h9.cell (i:=0) rfl rfl,h y _ _ w9 (by unfold aHi;rw [hr7];rfl) ((E7.st g8 (by omega)).st g9 (by omega)) ⟨rd_of hrp g8 hi8 g9 (prs_ints _),rd_of hrk g8 hi8 g9 (aPn _)⟩⟩
 ·have E7:Ext w w7:=aDb E6 c7 (fun k hk hd=>by have:k=sb:=hd;omega) (fun k hk e=>by omega)
  have hi7:=c7.blk hi6 (fun hd=>by have:ib=sb:=hd;omega) (by omega)
  obtain ⟨y,p,n,c8,q8,m,c9,hy7⟩:=hs7
  refine c_catch1 hch hi7 fun w8 h8 g8=>⟨?_⟩
  have h8':OpAt w8 yb y (.slice p n c8) (.slice q8 m c9):=Blk.grown hy7 g8 (pV (by omega))
  exact ⟨_,h8'.cell (i:=0) rfl rfl,_,h8'.cell (i:=1) rfl rfl,_,h8'.cell (i:=2) rfl rfl,_,h8'.cell (i:=3) rfl rfl,_,h8'.cell (i:=4) rfl rfl,_,h8'.cell (i:=5) rfl rfl,_,h8'.cell (i:=6) rfl rfl,_,h8'.cell (i:=7) rfl rfl,_,h8'.cell (i:=8) rfl rfl,_,h8'.cell (i:=9) rfl rfl,_,h8'.cell (i:=10) rfl rfl,_,h8'.cell (i:=11) rfl rfl,_,h8'.cell (i:=12) rfl rfl,_,_,_,h8'.cell (i:=13) rfl rfl,_,_,_,h8'.cell (i:=14) rfl rfl,_,h8.cell (i:=0) rfl rfl,hn y p n c8 q8 m c9 w8 (by unfold aHi;rw [hn7];rfl) (E7.st g8 (by omega))⟩
end Go.Proofs.YtmdboekndjlmgaaGreat
