/-
  What the functions of fold do.
-/
import Derived.Test.YtmdboekndjlmgaaGreatZ22
set_option maxRecDepth 100000
set_option maxHeartbeats 6400000
namespace Go.Proofs.YtmdboekndjlmgaaGreat
open Go Go.Sh Go.RowKit Tryz
variable {w:World}{R:EW}
theorem elI:ElT prog 28 2 (.int .i64 0) 1 8:=⟨underlying28,⟨_,type2,by kernel_rfl,by kernel_rfl,by kernel_rfl⟩,rfl,by omega⟩
def comb(p a b:Int):Int:=if p=1 then a else if p=2 then b else IntKind.wrap .i64 (a+b)
def may(p:Int):Bool:=p==1||p==2||p==3
theorem aPi{p:Int}(h:may p=true):p=1∨p=2∨p=3:=by simpa [may,or_assoc] using h
def fn(k:Nat):Value:=.agg #[.func (.func k) #[] #[]]
def kindEs:Array MapEntry:=#[{ key:=.int .u8 1,val:=fn 175,born:=0 },{ key:=.int .u8 2,val:=fn 176,born:=1 },{ key:=.int .u8 3,val:=fn 177,born:=2 }]
theorem aOj(h:∀b w',Ext w w'→w'.heap[b]?=some (.map kindEs 3)→R (.returned (.map (some b))) w'):Calls prog 158 #[] w R:=by
 refine sh158_ok ?_
 unfold sh158
 refine ⟨?_⟩
 refine qE underlying171 underlying5 (heap_alloc_new w _) (by rfl) (by rfl) fun w3 h3 g3=>?_
 refine qE underlying171 underlying5 h3 (by rfl) (by rfl) fun w4 h4 g4=>?_
 refine qE underlying171 underlying5 h4 (by rfl) (by rfl) fun w5 h5 g5=>?_
 have e:=pQ w (.map #[] 0)
 exact h _ _ (((e.grown g3 (by rintro _ ⟨⟩;exact Nat.le_refl _)).grown g4 (by rintro _ ⟨⟩;exact Nat.le_refl _)).grown g5 (by rintro _ ⟨⟩;exact Nat.le_refl _)) h5
theorem aHg{p:Int}(h:may p=true):∃i k,Instr.findNow (.int .u8) (.int .u8 p) kindEs.toList 0=some (some (i,fn k))∧
  ∀(a b:Int) (w:World) (R:EW),R (.returned (.int .i64 (comb p a b))) w→doCall prog (.func (.func k) #[] #[]) #[.int .i64 a,.int .i64 b] w R:=by
 rcases aPi h with rfl | rfl | rfl
 ·exact ⟨0,175,rfl,fun a b w R h=>pP call175 (sh175_ok h)⟩
 ·exact ⟨1,176,rfl,fun a b w R h=>pP call176 (sh176_ok h)⟩
 ·exact ⟨2,177,rfl,fun a b w R h=>pP call177 (sh177_ok h)⟩
theorem aHf{p:Int}(h:may p=false):Instr.findNow (.int .u8) (.int .u8 p) kindEs.toList 0=some none:=by
 simp [may] at h
 obtain ⟨⟨h1,h2⟩,h3⟩:=h
 have e1:(p==1)=false:=by simpa using h1
 have e2:(p==2)=false:=by simpa using h2
 have e3:(p==3)=false:=by simpa using h3
 simp [kindEs,Instr.findNow,Instr.sameNow,e1,e2,e3]
theorem aJe{p:Int}(h:∀w',Ext w w'→R (.returned (.bool (may p))) w'):Calls prog 118 #[.int .u8 p] w R:=by
 refine sh118_ok ?_
 unfold sh118
 refine pP call158 (aOj fun b w1 e1 hb=>pN ⟨_,rfl,?_⟩)
 cases hm:may p
 ·refine vH underlying171 underlying5 hb (by rfl) (aHf hm) (z:=.agg #[.nilFunc]) (by kernel_rfl) (.inr ⟨rfl,⟨?_⟩⟩)
  refine ⟨⟨_,by rw [add_zero'];exact vV _ _ _⟩,by rw [add_zero'];exact uU _ _ _ _,?_⟩
  exact hm▸h _ ((e1.alloc _).set (by rw [qV];exact e1.size) _)
 ·obtain ⟨i,k,hf,_⟩:=aHg hm
  refine vI underlying171 underlying5 hb (by rfl) hf (.inl ⟨_,_,_,_,rfl,⟨?_⟩⟩)
  refine ⟨⟨_,by rw [add_zero'];exact vV _ _ _⟩,by rw [add_zero'];exact uU _ _ _ _,?_⟩
  exact hm▸h _ ((e1.alloc _).set (by rw [qV];exact e1.size) _)
theorem aMo{p a b:Int}(h:∀w',Ext w w'→R (.returned (.tuple #[.int .i64 (cond (may p) (comb p a b) 0),.int .i64 (cond (may p) 0 2)])) w'):
  Calls prog 142 #[.int .u8 p,.int .i64 a,.int .i64 b] w R:=by
 refine sh142_ok ?_
 unfold sh142
 refine pP call158 (aOj fun b w1 e1 hb=>pN ⟨_,rfl,?_⟩)
 cases hm:may p <;> simp only [hm] at h
 ·refine vH underlying171 underlying5 hb (by rfl) (aHf hm) (z:=.agg #[.nilFunc]) (by kernel_rfl) (.inr ⟨rfl,⟨?_⟩⟩)
  refine ⟨⟨_,by rw [add_zero'];exact vV _ _ _⟩,by rw [add_zero'];exact uU _ _ _ _,?_⟩
  exact h _ ((e1.alloc _).set (by rw [qV];exact e1.size) _)
 ·obtain ⟨i,k,hf,hc⟩:=aHg hm
  refine vI underlying171 underlying5 hb (by rfl) hf (.inl ⟨_,_,_,_,rfl,⟨?_⟩⟩)
  have hz:=vV w1 .nilFunc 169
  rw [←add_zero' (blk _)] at hz
  refine ⟨⟨_,hz⟩,by rw [add_zero'];exact uU _ _ _ _,?_⟩
  refine ⟨_,_,_,World.cell?_setCell_same _ _ _ hz,hc _ _ _ _ (pN ⟨_,rfl,?_⟩)⟩
  exact h _ ((e1.alloc _).set (by rw [qV];exact e1.size) _)
theorem take_succ{l:List Int}{k:Nat}(h:k < l.length):l.take (k+1)=l.take k++[l[k]]:=(List.take_append_getElem h).symm
abbrev W64(x:Int):Int:=IntKind.wrap .i64 x
def sumL(l:List Int):Int:=l.foldl (fun s x=>W64 (s+x)) 0
def sumsL(l:List Int):List Int:=(List.range l.length).map fun i=>sumL (l.take (i+1))
theorem aGg{l:List Int}{k:Nat}(h:k < l.length):sumL (l.take (k+1))=W64 (sumL (l.take k)+l[k]):=by
 rw [take_succ h];simp only [sumL,List.foldl_append,List.foldl_cons,List.foldl_nil]
@[simp] theorem sumsL_length(l:List Int):(sumsL l).length=l.length:=by simp [sumsL]
theorem c_adder (h:∀b w',Ext w w'→w.heap.size≤b→b < w'.heap.size→w'.cell? (blk b)=some (.int .i64 0)→w'.frozen? (blk b)=false→
  R (.returned (.func (.func 195) #[] #[.pointer (some (blk b))])) w'):Calls prog 172 #[] w R:=by
 refine sh172_ok ?_
 unfold sh172
 have hz:=vV w (.int .i64 0) 2
 have hf:=uU w #[.int .i64 0] 2 0
 refine ⟨⟨⟨_,by rw [add_zero'];exact hz⟩,by rw [add_zero'];exact hf,?_⟩⟩
 rw [add_zero']
 exact h _ _ ((pQ w _).set (Nat.le_refl _) _) (Nat.le_refl _) (by simp) (World.cell?_setCell_same _ _ _ hz) (by rw [World.frozen?_setCell];exact hf)
theorem c_add{v x:Int}{a:Addr}(hc:w.cell? a=some (.int .i64 x))(hf:w.frozen? a=false)
  (h:R (.returned (.int .i64 (W64 (x+v)))) (w.setCell a (.int .i64 (W64 (x+v))))):doCall prog (.func (.func 195) #[] #[.pointer (some a)]) #[.int .i64 v] w R:=by
 refine uE call195 (by rfl) (sh195_ok ?_)
 unfold sh195
 refine ⟨_,hc,⟨⟨_,by rw [add_zero'];exact hc⟩,by rw [add_zero'];exact hf,?_⟩⟩
 rw [add_zero']
 exact ⟨_,World.cell?_setCell_same _ _ _ hc,h⟩
theorem c_sum{l:List Int}{q:OA}{n c:Nat}(hl:Cs w q (ints l))(hn:l.length=n)(h63:n≤9223372036854775807)
  (h:∀w',Ext w w'→R (.returned (.int .i64 (sumL l))) w'):Calls prog 154 #[.slice q n c] w R:=by
 refine sh154_ok ?_
 unfold sh154
 refine pP call172 (c_adder fun b w1 e1 hb1 hb2 hc hf=>pN ⟨_,_,_,rfl,?_⟩)
 refine ⟨fun vs w'=>∃i:Nat,vs=[.int .i64 (sumL (l.take i)),.int .i64 i]∧i≤n∧Ext w w'∧w'.cell? (blk b)=some (.int .i64 (sumL (l.take i)))∧w'.frozen? (blk b)=false,
  fun vs _=>n - (intOf (vs.getD 1 undef)).toNat,⟨0,rfl,by omega,e1,hc,hf⟩,?_⟩
 rintro v i j w3 ⟨m,hv,hmn,e3,hc,hf⟩
 simp only [List.cons.injEq,Value.int.injEq,true_and,and_true] at hv
 obtain ⟨rfl,rfl⟩:=hv
 refine pO (fun h1=>?_) fun h1=>?_
 ·have h1:m < n:=by simpa using h1
  refine aIm (hl.ext e3) hn (by omega) (by omega) fun a' _ hx'=>⟨_,hx',c_add hc hf (pN ⟨_,rfl,⟨m+1,?_,by omega,e3.set hb1 _,?_,by rw [World.frozen?_setCell];exact hf⟩,?_⟩)⟩
  ·rw [pW h1 h63,aGg (by omega)]
   simp [List.getElem?_eq_getElem (show m < l.length by omega)]
  ·rw [World.cell?_setCell_same _ _ _ hc,aGg (by omega)]
   simp [List.getElem?_eq_getElem (show m < l.length by omega)]
  ·rw [pW h1 h63]
   simp [intOf];omega
 ·have h1:m=n:=by simp at h1;omega
  rw [List.take_of_length_le (by omega)]
  exact h _ e3
theorem aIy{p:Int}(h:R (.returned (.bool (may p))) w):Calls prog 89 #[.int .u8 p] w R:=by
 refine sh89_ok ?_
 unfold sh89
 unfold may at h
 refine pO (fun h1=>?_) fun h1=>pO (fun h2=>?_) fun h2=>?_
 ·simpa [h1] using h
 ·simpa [h1,h2] using h
 ·simpa [h1,h2] using h
theorem aOe{p a b:Int}(h:R (.returned (.int .i64 (comb p a b))) w):Calls prog 90 #[.int .u8 p,.int .i64 a,.int .i64 b] w R:=by
 refine sh90_ok ?_
 unfold sh90
 unfold comb at h
 refine pO (fun h1=>?_) fun h1=>pO (fun h2=>?_) fun h2=>?_
 ·simp at h1;simpa [h1] using h
 ·simp at h1 h2;simpa [h1,h2] using h
 ·simp at h1 h2;simpa [h1,h2] using h
theorem c_rsame{l r:List Int}{q q':OA}{n c n' c':Nat}(hl:Cs w q (ints l))(hn:l.length=n)(hr:Cs w q' (ints r))(hn':r.length=n')(h63:n≤9223372036854775807)
  (h:∀w',Ext w w'→R (.returned (.bool (decide (l=r)))) w'):Calls prog 93 #[.slice q n c,.slice q' n' c'] w R:=by
 refine sh93_ok ?_
 unfold sh93
 refine pO (fun h0=>?_) fun h0=>?_
 ·have:¬l=r:=fun e=>by subst e;simp at h0;omega
  rw [decide_eq_false this] at h
  exact h _ (pR _)
 have h0:n=n':=by simp at h0;omega
 subst h0
 refine ⟨fun vs w'=>∃i:Nat,vs=[.int .i64 i]∧i≤n∧Ext w w'∧l.take i=r.take i,
  fun vs _=>n - (intOf (vs.getD 0 undef)).toNat,⟨0,rfl,by omega,pR _,rfl⟩,?_⟩
 rintro i j w3 ⟨m,hv,hmn,e3,ht⟩
 simp only [List.cons.injEq,Value.int.injEq,true_and,and_true] at hv
 obtain rfl:=hv
 refine pO (fun h1=>?_) fun h1=>?_
 ·have h1:m < n:=by simpa using h1
  refine ⟨⟨fun w'=>Ext w3 w',pT _,?_⟩⟩
  refine aIm (hl.ext e3) hn (by omega) (by omega) fun a _ hx=>⟨_,fun w' e'=>e'.cell hx,aIm (hr.ext e3) hn' (by omega) (by omega) fun a' _ hx'=>⟨_,fun w' e'=>e'.cell hx',?_⟩⟩
  have g1:l.getD m 0=l[m]:=by simp [List.getElem?_eq_getElem (show m < l.length by omega)]
  have g2:r.getD m 0=r[m]:=by simp [List.getElem?_eq_getElem (show m < r.length by omega)]
  rw [Int.toNat_natCast,g1,g2]
  refine pO (fun h2=>?_) fun h2=>⟨⟨m+1,by rw [pW h1 h63],by omega,e3.drew,?_⟩,?_⟩
  ·have:¬l=r:=fun e=>by subst e;simp at h2
   rw [decide_eq_false this] at h
   exact h _ e3.drew
  ·rw [take_succ (by omega),take_succ (by omega),ht];simp at h2;rw [h2]
  ·rw [pW h1 h63]
   simp [intOf];omega
 ·have h1:m=n:=by simp at h1;omega
  rw [List.take_of_length_le (by omega),List.take_of_length_le (by omega)] at ht
  rw [decide_eq_true ht] at h
  exact h _ e3
abbrev Pr:=Int × Int
theorem elP:ElT prog 22 63 (.agg #[.int .i64 0,.int .i64 0]) 2 16:=⟨underlying22,⟨_,type63,by kernel_rfl,by kernel_rfl,by kernel_rfl⟩,rfl,by omega⟩
def agP(x:Pr):Value:=.agg #[.int .i64 x.1,.int .i64 x.2]
def InP(l:List Pr):Prop:=∀x∈l,In x.1∧In x.2
def chain(o:Int):List Pr→Bool
 | a::b::l=>decide (cmpI o a.1 b.1 < 0)&&chain o (b::l)
 | _=>true
def mayR(o:Int)(l:List Pr):Bool:=isO o&&chain o l
def twoL(l:List Pr):List (Array Value):=(l.zip l.tail).map fun (a,b)=>#[agP a,agP b]
theorem aJk{l:List Pr}{i:Nat}(hi:i+1 < l.length):(twoL l)[i]?=some #[agP l[i],agP l[i+1]]:=by
 simp only [twoL,List.getElem?_map]
 have:(l.zip l.tail)[i]?=some (l[i],l[i+1]):=List.getElem?_zip_eq_some.2 ⟨List.getElem?_eq_getElem (by omega),by rw [List.getElem?_tail];exact List.getElem?_eq_getElem hi⟩
 rw [this];rfl
theorem aOq{l:List Pr}{i:Nat}{x:Array Value}(h:(twoL l)[i]?=some x):∃hi:i+1 < l.length,x=#[agP (l[i]'(by omega)),agP l[i+1]]:=by
 have hlt:=(List.getElem?_eq_some_iff.1 h).1
 have hi:i+1 < l.length:=by simp [twoL] at hlt;omega
 rw [aJk hi] at h
 exact ⟨hi,(Option.some.inj h).symm⟩
theorem c_two{q:OA}{n c:Nat}(h:∀b w',Ext w w'→w.heap.size≤b→Blk w' b #[.slice q n c] 22→R (.returned (.func (.func 94) #[] #[.pointer (some (blk b))])) w'):
  Calls prog 53 #[.slice q n c] w R:=by
 refine sh53_ok ?_
 unfold sh53
 exact ⟨h _ _ (pQ _ _) (Nat.le_refl _) (pS _ _ _)⟩
theorem c_two1{l:List Pr}{q:OA}{n c b:Nat}{f:Fn}{fx fc:Array Value}{St:Nat→World→Prop}{Stop:World→Prop}(hn:l.length=n)(h63:n≤9223372036854775807)
  (hS:∀i w',St i w'→Blk w' b #[.slice q n c] 22∧Cs w' q (prs l)) (hD:∀i w',St i w'→St i w'.drew) (hStop:∀w',Stop w'→Blk w' b #[.slice q n c] 22∧Cs w' q (prs l))
  (hy:YieldsTo prog (.func f fx fc) (twoL l) St Stop) (h0:St 0 w) (hend:∀w',St (n - 1) w'→R (.returned (.tuple #[])) w') (hend':∀w',Stop w'→R (.returned (.tuple #[])) w') :
  Calls prog 94 #[.func f fx fc,.pointer (some (blk b))] w R:=by
 refine sh94_ok ?_
 unfold sh94
 refine ⟨_,_,_,(hS 0 w h0).1.cell (i:=0) rfl rfl,fun vs w'=>∃i:Nat,vs=[.int .i64 i]∧i≤n∧St (i - 1) w',fun vs _=>n - (intOf (vs.getD 0 undef)).toNat,⟨0,rfl,by omega,h0⟩,?_⟩
 rintro i j w1 ⟨m,hm,hmn,hs⟩
 simp only [List.cons.injEq,Value.int.injEq,true_and,and_true] at hm
 obtain rfl:=hm
 refine pO (fun hlt=>?_) fun hge=>?_
 ·have hlt:m < n:=by have:=of_decide_eq_true hlt;omega
  refine ⟨⟨fun w'=>Blk w' b #[.slice q n c] 22∧Cs w' q (prs l),hS _ _ (hD _ _ hs),?_⟩⟩
  refine pO (fun hpos=>?_) fun hzero=>?_
  ·have hpos:0 < m:=by have:=of_decide_eq_true hpos;omega
   have e:IntKind.wrap .i64 ((m:Int) - 1)=((m - 1:Nat):Int):=by rw [qB (by omega) (by omega)];omega
   refine ⟨_,_,_,fun w' hc=>hc.1.cell (i:=0) rfl rfl,?_⟩
   have hw:=hS _ _ (hD _ _ hs)
   refine qZ (fun w' hc=>hc.2) hw hn e (by omega) fun a1 r1 r2=>⟨_,r1,_,r2,_,_,_,fun w' hc=>hc.1.cell (i:=0) rfl rfl,qZ (fun w' hc=>hc.2) hw hn rfl (by omega) fun a2 r3 r4=>⟨_,r3,_,r4,?_⟩⟩
   have hg:=aJk (l:=l) (i:=m - 1) (by omega)
   simp only [show m - 1+1=m by omega] at hg
   refine hy (m - 1) _ hg _ (hD _ _ hs) _ (fun w' hs'=>pN ⟨_,rfl,hS _ _ hs',pY rfl ⟨⟨m+1,by rw [pW hlt h63],by omega,by rw [show m - 1+1=m+1 - 1 by omega] at hs';exact hs'⟩,?_⟩⟩)
    fun w' hs'=>pN ⟨_,rfl,hStop _ hs',pZ rfl (hend' _ hs')⟩
   rw [pW hlt h63]
   simp [intOf];omega
  ·have hzero:m=0:=by have:=of_decide_eq_false hzero;omega
   subst hzero
   exact ⟨⟨1,by rw [pW hlt h63],by omega,hD _ _ hs⟩,by rw [pW hlt h63];simp [intOf];omega⟩
 ·have hge:m=n:=by have:=of_decide_eq_false hge;omega
  subst hge
  exact hend _ hs
theorem aBf{o:Int}{a b:Pr}{l:List Pr}:chain o (a::b::l)=(decide (cmpI o a.1 b.1 < 0)&&chain o (b::l)):=rfl
theorem aFs{o:Int}:∀{l:List Pr},(∀i (h:i+1 < l.length),cmpI o l[i].1 l[i+1].1 < 0)→chain o l=true
 | [],_=>rfl
 | [_],_=>rfl
 | a::b::l,h=>by
  rw [aBf,aFs (l:=b::l) fun i hi=>h (i+1) (by simpa using hi)]
  simpa using h 0 (by simp)
theorem wK{o:Int}:∀{l:List Pr},chain o l=true→∀i (h:i+1 < l.length),cmpI o l[i].1 l[i+1].1 < 0
 | [],_,i,h=>by simp at h
 | [_],_,i,h=>by simp at h
 | a::b::l,hc,i,h=>by
  rw [aBf] at hc
  simp only [Bool.and_eq_true,decide_eq_true_eq] at hc
  cases i with
  | zero=>exact hc.1
  | succ i=>exact wK (l:=b::l) hc.2 i (by simpa using h)
theorem aFz{o:Int}{l:List Pr}{q:OA}{n c:Nat}(hl:Cs w q (prs l))(hn:l.length=n)(h63:n≤9223372036854775807)(hI:InP l)
  (h:∀w',Ext w w'→R (.returned (.bool (mayR o l))) w'):Calls prog 24 #[.int .u8 o,.slice q n c] w R:=by
 refine sh24_ok ?_
 unfold sh24
 refine ⟨⟨?_⟩⟩
 have e1:=pQ w (.cells #[.int .u8 o] 5)
 have ho:=pS w #[.int .u8 o] 5
 generalize hbo:w.heap.size=bo at *
 generalize w.alloc (.cells #[.int .u8 o] 5)=w1 at *
 have e2:=pQ w1 (.cells #[.bool false] 4)
 have hr:=pS w1 #[.bool false] 4
 have ho2:=ho.ext e2
 have hne1:bo < w1.heap.size:=ho.lt
 generalize hbr:w1.heap.size=br at *
 generalize w1.alloc (.cells #[.bool false] 4)=w2 at *
 have E2:=e1.trans e2
 refine pP call53 (c_two fun bt w3 e3 hbt ht=>pN ⟨_,_,_,rfl,do_rf fun fn L w4 d hd hL hst hpe e4 hd4 hl4=>?_⟩)
 have ho3:=ho2.ext e3
 have hr3:=hr.ext e3
 have ho4:=ho3.ext e4
 have hr4:=hr3.ext e4
 have ht4:=ht.ext e4
 have hE4:=(E2.trans e3).trans e4
 have n1:br < d:=by rw [hd];exact hr3.lt
 have n2:bt < d:=by rw [hd];exact ht.lt
 have n3:br < bt:=Nat.lt_of_lt_of_le hr.lt hbt
 have hsz:bo≤br:=by omega
 clear ho ho2 ho3 hr hr3 ht e1 e2 e3 e4 E2
 have hend:∀{w':World} {b:Bool},Ext w w'→Blk w' br #[.bool b] 4→w'.heap[d]?=some (.deferred (some []))→b=mayR o l→
   w'.heap[d]?=some (.deferred (some []))∧(∃x,World.cell? (w'.putObj d (.deferred none)) (blk br)=some (.bool x)∧R (.returned (.bool x)) (w'.putObj d (.deferred none))):=fun E hb hd' hb'=>by
  refine ⟨hd',_,(hb.grown (qN _ d _) (pV (by omega))).cell (i:=0) rfl rfl,?_⟩
  subst hb'
  exact h _ (E.put (by omega) _)
 refine aIv call94 (by rfl) (c_two1 (l:=l) (q:=q) (n:=n) (c:=c) (b:=bt) hn h63
  (St:=fun i w'=>chain o (l.take (i+1))=true∧Ext w w'∧Blk w' bo #[.int .u8 o] 5∧Blk w' br #[.bool false] 4∧Blk w' bt #[.slice q n c] 22∧w'.heap[d]?=some (.deferred (some []))∧w'.heap[d+1]?=some (.loop L))
  (Stop:=fun w'=>mayR o l=false∧Ext w w'∧Blk w' br #[.bool false] 4∧Blk w' bt #[.slice q n c] 22∧w'.heap[d]?=some (.deferred (some []))∧w'.heap[d+1]?=some (.loop { L with state:=.done,pending:=some .ret }))
  (fun i w' hs=>⟨hs.2.2.2.2.1,hl.ext hs.2.1⟩) (fun i w' hs=>⟨hs.1,hs.2.1.drew,hs.2.2⟩) (fun w' hs=>⟨hs.2.2.2.1,hl.ext hs.2.1⟩) ?_ ⟨?_,hE4,ho4,hr4,ht4,hd4,hl4⟩ ?_ ?_)
 ·rintro i x hx w5 ⟨hc,E5,ho5,hr5,ht5,hd5,hl5⟩ R' hy hno
  obtain ⟨hi,rfl⟩:=aOq hx
  refine aOx (by rw [hl5,hL]) ?_
  unfold sh24_0
  refine ⟨?_⟩
  have hd5':=(Array.getElem?_eq_some_iff.1 hl5).1
  refine qA (pS w5 _ _) (i:=0) rfl (by simp) fun w6 h6 g6=>qA h6 (i:=1) rfl (by simp) fun w7 h7 g7=>⟨?_⟩
  have e7:Ext w5 w7:=((pQ w5 _).st g6 (Nat.le_refl _)).st g7 (Nat.le_refl _)
  refine qA (pS w7 _ _) (i:=0) rfl (by simp) fun w8 h8 g8=>qA h8 (i:=1) rfl (by simp) fun w9 h9 g9=>?_
  have e9:Ext w7 w9:=((pQ w7 _).st g8 (Nat.le_refl _)).st g9 (Nat.le_refl _)
  have h79:=h7.ext e9
  have e59:=e7.trans e9
  refine ⟨_,e59.heap hl5,hst,?_⟩
  have g10:=qN w9 (d+1) (.loop { L with state:=.busy })
  have hl10:=vR (o':=.loop { L with state:=.busy }) (e59.heap hl5)
  have hsz5:w5.heap.size≤w7.heap.size:=e7.size
  have h7a:=h79.grown g10 (pV (by omega))
  have h9a:=h9.grown g10 (pV (by omega))
  have ho10:=(ho5.ext e59).grown g10 (pV (by omega))
  have hr10:=(hr5.ext e59).grown g10 (pV (by omega))
  have ht10:=(ht5.ext e59).grown g10 (pV (by omega))
  have hd10:=qI g10 (e59.heap hd5) (pV (by omega))
  have E10:=(E5.trans e59).st g10 (by omega)
  generalize w9.putObj (d+1) (.loop { L with state:=.busy })=w10 at hl10 h7a h9a ho10 hr10 ht10 hd10 E10 ⊢
  refine ⟨_,ho10.cell (i:=0) rfl rfl,_,h7a.cell (i:=0) rfl rfl,_,h9a.cell (i:=0) rfl rfl,?_⟩
  refine pP call54 (vK (hI _ (List.getElem_mem _)).1 (hI _ (List.getElem_mem _)).1 fun w11 e11=>pN ⟨_,rfl,?_⟩)
  have hl11:=e11.heap hl10
  have hd11:=e11.heap hd10
  have E11:=E10.trans e11
  refine pO (fun h1=>?_) fun h1=>?_
  ·have h1:=of_decide_eq_true h1
   refine qA (hr10.ext e11) (i:=0) rfl (by simp) fun w12 h12 g12=>?_
   have hl12:=qI g12 hl11 (pV (by omega))
   refine ⟨_,hl12,hno _ ⟨?_,(E11.st g12 (by omega)).put (by omega) _,h12.grown (qN _ _ _) (pV (by omega)),((ht10.ext e11).grown g12 (pV (by omega))).grown (qN _ _ _) (pV (by omega)),
    qI (qN _ _ _) (qI g12 hd11 (pV (by omega))) (pV (by omega)),vR hl12⟩⟩
   unfold mayR
   cases hch:chain o l
   ·simp
   ·have:=wK hch i hi
    exact absurd h1 (by omega)
  ·have h1:=of_decide_eq_false h1
   refine ⟨_,hl11,hy _ ?_⟩
   rw [aBn hst hpe]
   refine ⟨?_,E11.put (by omega) _,(ho10.ext e11).grown (qN _ _ _) (pV (by omega)),(hr10.ext e11).grown (qN _ _ _) (pV (by omega)),(ht10.ext e11).grown (qN _ _ _) (pV (by omega)),
    qI (qN _ _ _) hd11 (pV (by omega)),vR hl11⟩
   refine aFs fun k hk=>?_
   simp only [List.length_take] at hk
   simp only [List.getElem_take]
   by_cases hki:k=i
   ·subst hki;omega
   ·have:=wK hc k (by simp only [List.length_take];omega)
    simpa only [List.getElem_take] using this
 ·cases l with
  | nil=>rfl
  | cons a l=>rfl
 ·rintro w5 ⟨hc,E5,ho5,hr5,ht5,hd5,hl5⟩
  refine aHy hl5 (by rw [hst];simp) hpe fun ob=>?_
  have gob:=qN w5 (d+1) ob
  refine ⟨_,(ho5.grown gob (pV (by omega))).cell (i:=0) rfl rfl,?_⟩
  have hd5':=qI gob hd5 (pV (by omega))
  have hr5':=hr5.grown gob (pV (by omega))
  have E5':=E5.put (l:=d+1) (by omega) ob
  refine pP call30 (aMn fun w6 e6=>pN ⟨_,rfl,qA (hr5'.ext e6) (i:=0) rfl (by simp) fun w7 h7 g7=>?_⟩)
  rw [aAy] at h7
  rw [←hd]
  refine hend ((E5'.trans e6).st g7 (by omega)) h7 (qI g7 (e6.heap hd5') (pV (by omega))) ?_
  unfold mayR
  have:l.take (n - 1+1)=l:=List.take_of_length_le (by omega)
  rw [this] at hc
  rw [hc];simp
 ·rintro w5 ⟨hc,E5,hr5,ht5,hd5,hl5⟩
  refine rf_ret hl5 (by simp) rfl fun ob=>?_
  have gob:=qN w5 (d+1) ob
  rw [←hd]
  exact hend (E5.put (l:=d+1) (by omega) ob) (hr5.grown gob (pV (by omega))) (qI gob hd5 (pV (by omega))) hc.symm
theorem aEy{i j:Nat}(h:i < j)(hj:j≤4611686018427387903):IntKind.wrap .i64 (Int.fdiv (IntKind.wrap .u64 (IntKind.wrap .i64 ((i:Int)+(j:Int)))) (2 ^ (min (1:Int).toNat (IntKind.bits .u64))))=(((i+j) / 2:Nat):Int):=by
 have e2:(2:Int) ^ (min (1:Int).toNat (IntKind.bits .u64))=2:=by decide
 rw [e2,qB (x:=(i:Int)+j) (by omega) (by omega),qR,Int.fdiv_eq_ediv_of_nonneg _ (by omega),qB (by omega) (by omega)]
 omega
theorem c_search{n:Nat}{p:Nat→Bool}{Inv:World→Prop}{f:Fn}{fx fc:Array Value}(hn:n≤4611686018427387903)(hmono:∀i j,i≤j→j < n→p i=true→p j=true)
  (hf:∀k,k < n→∀w',Inv w'→∀R':EW,(∀w'',Inv w''→R' (.returned (.bool (p k))) w'')→doCall prog (.func f fx fc) #[.int .i64 (k:Int)] w' R') (h0:Inv w)
  (h:∀(r:Nat) w',Inv w'→r≤n→(∀i,i < r→p i=false)→(∀i,r≤i→i < n→p i=true)→R (.returned (.int .i64 (r:Int))) w'):Calls prog 170 #[.int .i64 (n:Int),.func f fx fc] w R:=by
 refine sh170_ok ?_
 unfold sh170
 refine ⟨fun vs w'=>∃i j:Nat,vs=[.int .i64 i,.int .i64 j]∧i≤j∧j≤n∧Inv w'∧(∀k,k < i→p k=false)∧(∀k,j≤k→k < n→p k=true),fun vs _=>(intOf (vs.getD 1 undef)).toNat - (intOf (vs.getD 0 undef)).toNat,
  ⟨0,n,rfl,by omega,by omega,h0,fun k hk=>by omega,fun k h1 h2=>by omega⟩,?_⟩
 rintro i' j' _ w1 ⟨i,j,hv,hij,hjn,hI,hlo,hhi⟩
 simp only [List.cons.injEq,Value.int.injEq,true_and,and_true] at hv
 obtain ⟨rfl,rfl⟩:=hv
 refine pO (fun h1=>?_) fun h1=>?_
 ·have h1:i < j:=by have:=of_decide_eq_true h1;omega
  rw [aEy h1 (by omega)]
  refine ⟨by omega,?_⟩
  refine hf ((i+j) / 2) (by omega) w1 hI _ ?_
  intro w2 hI2
  refine pN ?_
  refine ⟨p ((i+j) / 2),rfl,?_⟩
  cases hp:p ((i+j) / 2)
  ·refine pZ rfl ?_
   rw [pW (n:=n) (by omega) (by omega)]
   refine ⟨⟨(i+j) / 2+1,j,rfl,by omega,hjn,hI2,fun k hk=>?_,hhi⟩,by simp [intOf];omega⟩
   cases hk':p k
   ·rfl
   ·have:=hmono k ((i+j) / 2) (by omega) (by omega) hk'
    rw [hp] at this;cases this
  ·refine pY rfl ?_
   exact ⟨⟨i,(i+j) / 2,rfl,by omega,by omega,hI2,hlo,fun k h2 h3=>hmono _ _ h2 h3 hp⟩,by simp [intOf];omega⟩
 ·have h1:i=j:=by have:=of_decide_eq_false h1;omega
  subst h1
  exact h i _ hI hjn hlo hhi
theorem sX{o a b c:Int}(h1:cmpI o a b < 0)(h2:cmpI o b c < 0):cmpI o a c < 0:=by
 unfold cmpI at *
 split at h1
 ·rename_i ho
  rw [if_pos ho] at h2 ⊢
  split at h1
  ·split at h2
   ·rw [if_pos (by omega)];omega
   ·split at h2 <;> omega
  ·split at h1 <;> omega
 ·omega
theorem cmpI_ge{o a b c:Int}(h1:cmpI o a b < 0)(h2:0≤cmpI o a c):0≤cmpI o b c:=by
 unfold cmpI at *
 split at h1
 ·rename_i ho
  rw [if_pos ho] at h2 ⊢
  split at h1
  ·split at h2
   ·omega
   ·split
    ·omega
    ·split <;> omega
  ·split at h1 <;> omega
 ·omega
theorem vU{o:Int}{l:List Pr}(h:chain o l=true):∀{i j:Nat} (hij:i < j) (hj:j < l.length),cmpI o l[i].1 l[j].1 < 0:=by
 intro i j hij hj
 induction j with
 | zero=>omega
 | succ j ih=>
  have h1:=wK h j hj
  rcases Nat.lt_or_ge i j with h2 | h2
  ·exact sX (ih h2 (by omega)) h1
  ·have:i=j:=by omega
   subst this;exact h1
def idxR(o:Int)(l:List Pr)(key:Int):Nat:=l.findIdx fun x=>decide (0≤cmpI o x.1 key)
theorem aNv(o:Int)(l:List Pr)(key:Int):idxR o l key≤l.length:=List.findIdx_le_length
theorem aCb{o:Int}{l:List Pr}{key:Int}{r:Nat}(hr:r≤l.length)(h1:∀i (h:i < l.length),i < r→cmpI o l[i].1 key < 0)(h2:∀(h:r < l.length),0≤cmpI o l[r].1 key):idxR o l key=r:=by
 unfold idxR
 rcases Nat.lt_or_ge r l.length with hlt | hge
 ·rw [List.findIdx_eq hlt]
  refine ⟨by simpa using h2 hlt,fun j hj=>?_⟩
  have:=h1 j (by omega) hj
  simp;omega
 ·have:r=l.length:=by omega
  subst this
  rw [List.findIdx_eq_length]
  intro x hx
  obtain ⟨i,hi,rfl⟩:=List.getElem_of_mem hx
  have:=h1 i hi hi
  simp;omega
theorem aIo{o:Int}{l:List Pr}{key:Int}{i:Nat}(hi:i < idxR o l key):∃h:i < l.length,cmpI o l[i].1 key < 0:=by
 have hl:i < l.length:=Nat.lt_of_lt_of_le hi (aNv o l key)
 refine ⟨hl,?_⟩
 have:=List.not_of_lt_findIdx hi
 simp at this;omega
theorem aDu{o:Int}{l:List Pr}{key:Int}(h:idxR o l key < l.length):0≤cmpI o l[idxR o l key].1 key:=by
 unfold idxR at h
 exact of_decide_eq_true (List.findIdx_getElem (w:=h))
theorem rQ{l:List Pr}{k:Nat}(h:k < l.length):l.getD k (0,0)=l[k]:=by simp [h]
theorem c_at{o key:Int}{l:List Pr}{q:OA}{n c:Nat}(hl:Cs w q (prs l))(hn:l.length=n)(h63:n≤4611686018427387903)(hI:InP l)(hk:In key)(hc:chain o l=true)
  (h:∀w',Ext w w'→R (.returned (.int .i64 (idxR o l key:Nat))) w'):Calls prog 152 #[.int .u8 o,.slice q n c,.int .i64 key] w R:=by
 refine sh152_ok ?_
 unfold sh152
 refine ⟨⟨⟨?_⟩⟩⟩
 have e1:=pQ w (.cells #[.int .u8 o] 5)
 have h1:=pS w #[.int .u8 o] 5
 generalize w.heap.size=b1 at *
 generalize w.alloc (.cells #[.int .u8 o] 5)=w1 at *
 have e2:=pQ w1 (.cells #[.slice q n c] 22)
 have h2:=pS w1 #[.slice q n c] 22
 have h1:=h1.ext e2
 generalize w1.heap.size=b2 at *
 generalize w1.alloc (.cells #[.slice q n c] 22)=w2 at *
 have e3:=pQ w2 (.cells #[.int .i64 key] 2)
 have h3:=pS w2 #[.int .i64 key] 2
 have h1:=h1.ext e3
 have h2:=h2.ext e3
 generalize w2.heap.size=b3 at *
 generalize w2.alloc (.cells #[.int .i64 key] 2)=w3 at *
 have E:=(e1.trans e2).trans e3
 clear e1 e2 e3
 refine ⟨_,_,_,h2.cell (i:=0) rfl rfl,?_⟩
 refine pP call170 (c_search (n:=n) (p:=fun k=>decide (0≤cmpI o (l.getD k (0,0)).1 key)) (Inv:=fun w'=>Ext w3 w') h63 ?_ ?_ (pR _) ?_)
 ·intro i j hij hj hp
  have hp:=of_decide_eq_true hp
  refine decide_eq_true ?_
  rw [rQ (by omega)] at hp ⊢
  rcases Nat.lt_or_ge i j with h | h
  ·exact cmpI_ge (vU hc h (by omega)) hp
  ·have:i=j:=by omega
   subst this;exact hp
 ·intro k hk' w4 e4 R' hR
  refine uE call171 (by rfl) (sh171_ok ?_)
  unfold sh171
  have E4:=E.trans e4
  refine ⟨⟨fun w'=>Ext w3 w',e4.drew,_,fun w' e=>(h1.ext e).cell (i:=0) rfl rfl,_,_,_,fun w' e=>(h2.ext e).cell (i:=0) rfl rfl,?_⟩⟩
  refine qZ (fun w' e=>(hl.ext E).ext e) (pR _) hn rfl hk' fun a r1 _=>⟨_,r1,_,fun w' e=>(h3.ext e).cell (i:=0) rfl rfl,?_⟩
  refine pP call54 (vK (hI _ (List.getElem_mem _)).1 hk fun w5 e5=>pN ⟨_,rfl,e4.drew.trans e5,?_⟩)
  have:=hR w5 (e4.drew.trans e5)
  simp only [rQ (show k < l.length by omega)] at this
  exact this
 ·intro r w4 e4 hr hlo hhi
  refine pN ⟨_,rfl,?_⟩
  have:idxR o l key=r:=by
   refine aCb (by omega) (fun i hi hir=>?_) fun hr'=>?_
   ·have:=of_decide_eq_false (hlo i hir)
    rw [rQ hi] at this;omega
   ·have:=of_decide_eq_true (hhi r (Nat.le_refl _) (by omega))
    rw [rQ hr'] at this;exact this
  rw [←this]
  exact h _ (E.trans e4)
def hasR(o:Int)(l:List Pr)(key:Int):Bool:=mayR o l&&(match l[idxR o l key]? with | some x=>x.1==key | none=>false)
def posR(o:Int)(l:List Pr)(key:Int):Nat:=cond (mayR o l) (idxR o l key) 0
theorem aAf(o:Int)(l:List Pr)(key:Int):posR o l key≤l.length:=by
 unfold posR;cases mayR o l
 ·simp
 ·exact aNv _ _ _
theorem tK{o:Int}{l:List Pr}(h:mayR o l=true):chain o l=true:=by simp [mayR] at h;exact h.2
theorem aKf{o:Int}{l:List Pr}{key:Int}(h:hasR o l key=true):mayR o l=true:=by simp [hasR] at h;exact h.1
theorem sH{o:Int}{l:List Pr}{key:Int}(h:hasR o l key=true):posR o l key < l.length:=by
 have hm:=aKf h
 simp only [hasR,hm,Bool.true_and] at h
 unfold posR;rw [hm]
 rcases Nat.lt_or_ge (idxR o l key) l.length with h' | h'
 ·exact h'
 ·rw [List.getElem?_eq_none h'] at h;cases h
theorem wS{o:Int}{l:List Pr}{key:Int}(h:hasR o l key=true):(l[posR o l key]'(sH h)).1=key:=by
 have hlt:=sH h
 have hm:=aKf h
 have hp:posR o l key=idxR o l key:=by unfold posR;rw [hm];rfl
 simp only [hasR,hm,Bool.true_and] at h
 simp only [hp] at hlt ⊢
 rw [List.getElem?_eq_getElem hlt] at h
 simpa using h
theorem vJ{o key:Int}{l:List Pr}{q:OA}{n c:Nat}(hl:Cs w q (prs l))(hn:l.length=n)(h63:n≤4611686018427387903)(hI:InP l)(hk:In key)
  (h:∀w',Ext w w'→R (.returned (.tuple #[.int .i64 (posR o l key:Nat),.bool (hasR o l key)])) w'):Calls prog 112 #[.int .u8 o,.slice q n c,.int .i64 key] w R:=by
 refine sh112_ok ?_
 unfold sh112
 refine pP call24 (aFz hl hn (by omega) hI fun w1 e1=>pN ⟨_,rfl,?_⟩)
 cases hm:mayR o l
 ·refine pZ rfl ?_
  have:=h w1 e1
  simp only [posR,hasR,hm] at this
  exact this
 ·refine pY rfl ?_
  refine pP call152 (c_at (hl.ext e1) hn h63 hI hk (tK hm) fun w2 e2=>pN ⟨_,rfl,?_⟩)
  have E:=(e1.trans e2).drew
  have hr:=h w2.drew E
  simp only [posR,hasR,hm,cond_true,Bool.true_and] at hr
  refine ⟨⟨fun w'=>Ext w w',E,?_⟩⟩
  refine pO (fun hlt=>?_) fun hge=>?_
  ·have hlt:idxR o l key < n:=by have:=of_decide_eq_true hlt;omega
   refine qZ (fun w' e=>hl.ext e) E hn rfl hlt fun a r1 _=>⟨_,r1,?_⟩
   rw [List.getElem?_eq_getElem (by omega)] at hr
   exact hr
  ·have hge:n≤idxR o l key:=by have:=of_decide_eq_false hge;omega
   rw [List.getElem?_eq_none (by omega)] at hr
   exact hr
def getR(o:Int)(l:List Pr)(key:Int):Int:=cond (hasR o l key) (l.getD (posR o l key) (0,0)).2 0
theorem aKt{o key:Int}{l:List Pr}{q:OA}{n c:Nat}(hl:Cs w q (prs l))(hn:l.length=n)(h63:n≤4611686018427387903)(hI:InP l)(hk:In key)
  (h:∀w',Ext w w'→R (.returned (.tuple #[.int .i64 (getR o l key),.bool (hasR o l key)])) w'):Calls prog 101 #[.int .u8 o,.slice q n c,.int .i64 key] w R:=by
 refine sh101_ok ?_
 unfold sh101
 refine pP call112 (vJ hl hn h63 hI hk fun w1 e1=>pN ⟨_,_,rfl,?_⟩)
 have hr:=h w1 e1
 unfold getR at hr
 cases hm:hasR o l key
 ·refine pZ rfl ?_
  rw [hm] at hr
  exact hr
 ·refine pY rfl ?_
  have hlt:=sH hm
  rw [hm,rQ hlt] at hr
  exact rI (hl.ext e1) hn rfl (by omega) fun a _ r2 _=>⟨_,r2,hr⟩
def tV(o:Int)(l:List Pr)(key:Int):Pr:=cond (hasR o l key) (l.getD (posR o l key) (0,0)) (if posR o l key=0 then (0,0) else l.getD (posR o l key - 1) (0,0))
def rS(o:Int)(l:List Pr)(key:Int):Bool:=hasR o l key||decide (0 < posR o l key)
def vY(o:Int)(l:List Pr)(key:Int):Pr:=cond (mayR o l) (l.getD (posR o l key) (0,0)) (0,0)
def sM(o:Int)(l:List Pr)(key:Int):Bool:=mayR o l&&decide (posR o l key < l.length)
theorem vX{b:Nat}{u v x y:Value}{t:TypeId}(h:Blk w b #[u,v] t){K:World→Prop}(k:∀w',Blk w' b #[x,y] t→w.grownBy w' (some b)→K w'):
  doSt ((blk b).add 0) x w fun w1=>doSt ((blk b).add 1) y w1 K:=
 qA h (i:=0) rfl (by simp) fun _ h1 g1=>qA h1 (i:=1) rfl (by simp) fun _ h2 g2=>k _ h2 (pX g1 g2)
theorem aMj{o key:Int}{l:List Pr}{q:OA}{n c:Nat}(hl:Cs w q (prs l))(hn:l.length=n)(h63:n≤4611686018427387903)(hI:InP l)(hk:In key)
  (h:∀w',Ext w w'→R (.returned (.tuple #[agP (tV o l key),.bool (rS o l key)])) w'):Calls prog 103 #[.int .u8 o,.slice q n c,.int .i64 key] w R:=by
 refine sh103_ok ?_
 unfold sh103
 refine ⟨?_⟩
 have e0:=pQ w (.cells #[.int .i64 0,.int .i64 0] 63)
 have hb:=pS w #[.int .i64 0,.int .i64 0] 63
 generalize hb0:w.heap.size=b at *
 generalize w.alloc (.cells #[.int .i64 0,.int .i64 0] 63)=w0 at *
 refine pP call112 (vJ (hl.ext e0) hn h63 hI hk fun w1 e1=>pN ⟨_,_,rfl,?_⟩)
 have E:=e0.trans e1
 have hb:=hb.ext e1
 refine pO (fun hm=>?_) fun hm=>?_
 ·have hlt:=sH hm
  refine rI (hl.ext E) hn rfl (by omega) fun a r1 r2 _=>⟨_,r1,_,r2,?_⟩
  refine vX hb fun w2 h2 g2=>⟨_,h2.cell (i:=0) rfl rfl,_,h2.cell (i:=1) rfl rfl,?_⟩
  have hr:=h w2 (E.st g2 (by omega))
  simp only [tV,rS,hm,rQ hlt] at hr
  exact hr
 ·refine pO (fun hp=>?_) fun hp=>?_
  ·have hp:0 < posR o l key:=by have:=of_decide_eq_true hp;omega
   have hle:=aAf o l key
   have e:IntKind.wrap .i64 ((posR o l key:Nat) - 1:Int)=((posR o l key - 1:Nat):Int):=by rw [qB (by omega) (by omega)];omega
   refine rI (hl.ext E) hn e (by omega) fun a r1 r2 _=>⟨_,r1,_,r2,?_⟩
   refine vX hb fun w2 h2 g2=>⟨_,h2.cell (i:=0) rfl rfl,_,h2.cell (i:=1) rfl rfl,?_⟩
   have hr:=h w2 (E.st g2 (by omega))
   simp only [tV,rS,hm,cond_false,if_neg (show ¬posR o l key=0 by omega),decide_eq_true hp,Bool.false_or,rQ (show posR o l key - 1 < l.length by omega)] at hr
   exact hr
  ·have hp:posR o l key=0:=by have:=of_decide_eq_false hp;omega
   refine vX hb fun w2 h2 g2=>⟨_,h2.cell (i:=0) rfl rfl,_,h2.cell (i:=1) rfl rfl,?_⟩
   have hr:=h w2 (E.st g2 (by omega))
   simp only [tV,rS,hm,cond_false,hp,Bool.false_or] at hr
   exact hr
theorem aPx{o key:Int}{l:List Pr}{q:OA}{n c:Nat}(hl:Cs w q (prs l))(hn:l.length=n)(h63:n≤4611686018427387903)(hI:InP l)(hk:In key)
  (h:∀w',Ext w w'→R (.returned (.tuple #[agP (vY o l key),.bool (sM o l key)])) w'):Calls prog 104 #[.int .u8 o,.slice q n c,.int .i64 key] w R:=by
 refine sh104_ok ?_
 unfold sh104
 refine ⟨?_⟩
 have e0:=pQ w (.cells #[.int .i64 0,.int .i64 0] 63)
 have hb:=pS w #[.int .i64 0,.int .i64 0] 63
 generalize hb0:w.heap.size=b at *
 generalize w.alloc (.cells #[.int .i64 0,.int .i64 0] 63)=w0 at *
 have hno:∀{w':World},Ext w w'→Blk w' b #[.int .i64 0,.int .i64 0] 63→sM o l key=false→vY o l key=(0,0)→
   doSt ((blk b).add 0) (.int .i64 0) w' (fun w10=>doSt ((blk b).add 1) (.int .i64 0) w10 (fun w11=>∃(x12:Int),w11.cell? ((blk b).add 0)=some (.int .i64 x12)∧(
    ∃(x13:Int),w11.cell? ((blk b).add 1)=some (.int .i64 x13)∧(R (.returned (.tuple #[.agg #[.int .i64 x12,.int .i64 x13],.bool false])) w11)))):=by
  intro w' e' hb' hi hc
  refine vX hb' fun w2 h2 g2=>⟨_,h2.cell (i:=0) rfl rfl,_,h2.cell (i:=1) rfl rfl,?_⟩
  have hr:=h w2 (e'.st g2 (by omega))
  rw [hi,hc] at hr
  exact hr
 refine pP call112 (vJ (hl.ext e0) hn h63 hI hk fun w1 e1=>pN ⟨_,_,rfl,?_⟩)
 have E:=e0.trans e1
 have hb:=hb.ext e1
 refine pO (fun hp=>?_) fun hp=>?_
 ·have hp:posR o l key < n:=by have:=of_decide_eq_true hp;omega
  refine pP call24 (aFz (hl.ext E) hn (by omega) hI fun w2 e2=>pN ⟨_,rfl,?_⟩)
  have E:=E.trans e2
  have hb:=hb.ext e2
  refine pO (fun hm=>?_) fun hm=>?_
  ·refine rI (hl.ext E) hn rfl (by omega) fun a r1 r2 _=>⟨_,r1,_,r2,?_⟩
   refine vX hb fun w2 h2 g2=>⟨_,h2.cell (i:=0) rfl rfl,_,h2.cell (i:=1) rfl rfl,?_⟩
   have hr:=h w2 (E.st g2 (by omega))
   simp only [vY,sM,hm,cond_true,rQ (show posR o l key < l.length by omega),Bool.true_and,decide_eq_true (show posR o l key < l.length by omega)] at hr
   exact hr
  ·exact hno E hb (by simp [sM,hm]) (by simp [vY,hm])
 ·have hp:¬posR o l key < l.length:=by have:=of_decide_eq_false hp;omega
  refine hno E hb (by simp [sM,hp]) ?_
  unfold vY
  cases mayR o l
  ·rfl
  ·simp [List.getElem?_eq_none (show l.length≤posR o l key by omega)]
end Go.Proofs.YtmdboekndjlmgaaGreat
