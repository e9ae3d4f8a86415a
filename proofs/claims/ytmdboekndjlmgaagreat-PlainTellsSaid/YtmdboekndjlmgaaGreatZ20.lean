/-
  copy, clear, append on rows of one's own, cell by cell. No claim of its own.
-/
import Derived.Lib.AppendZerosOnto
import Derived.Lib.Overlaps
import Derived.Laws.CopyRow
import Derived.Test.YtmdboekndjlmgaaGreatZ19
import Derived.Test.YtmdboekndjlmgaaGreatZ17
set_option maxRecDepth 100000
set_option maxHeartbeats 6400000
namespace Go.Sh
open Go Go.RowKit
variable {w:World}{R:EW}
def lay(L:List Value)(off:Nat)(cs:List Value):List Value:=L.take off++(cs++L.drop (off+cs.length))
theorem aIl(L:List Value)(off:Nat):lay L off []=L:=by simp [lay]
theorem aAj{A Y Z X:List Value}{off:Nat}(ho:off=A.length)(hy:Y.length=X.length):lay (A++(Y++Z)) off X=A++(X++Z):=by
 subst ho
 unfold lay
 rw [List.take_left,←hy,List.drop_append,List.drop_of_length_le (Nat.le_add_right _ _),Nat.add_sub_cancel_left,List.drop_left,List.nil_append]
theorem yH(w:World)(g:Nat)(cs:Array Value):w.grownBy (w.setRow g cs) (some g):=
 ⟨rfl,rfl,rfl,by simp,fun k _ hk=>setRow_other w g k cs (fun e=>hk (by simp [e]))⟩
theorem vE(w:World)(r:Option Nat):w.grownBy w r:=⟨rfl,rfl,rfl,Nat.le_refl _,fun _ _ _=>rfl⟩
theorem pX{a b c:World}{r:Option Nat}(g:a.grownBy b r)(k:b.grownBy c r):a.grownBy c r:=
 ⟨k.os.trans g.os,k.tape.trans g.tape,k.output.trans g.output,Nat.le_trans g.size k.size,fun i hi hr=>by rw [k.block i (Nat.lt_of_lt_of_le hi g.size) hr,g.block i hi hr]⟩
theorem yM(w:World)(r:Option Nat):w.grownBy w.drew r:=⟨rfl,rfl,rfl,Nat.le_refl _,fun _ _ _=>rfl⟩
theorem aKg{P:Program}{t s ty:TypeId}{bs:Array Bool}{v x v':Value}{w w':World}
  (hr:(Builtin.copy_ #[t,s] ty #[v,x]).run P w=.ok v' w') (h:R (.returned v') w'):doGo P (.builtin .copy #[t,s] ty bs) #[v,x] w R:=by
 refine ⟨?_⟩
 unfold goV
 simp only [invoke,builtin,Sem.run_bind,hr,Result.andThen_ok,Sem.run_pure]
 exact h
theorem aKh{P:Program}{t s ty:TypeId}{bs:Array Bool}{v x v':Value}{w w':World}
  (hr:(Builtin.append_ #[t,s] ty #[v,x]).run P w=.ok v' w') (h:R (.returned v') w'):doGo P (.builtin .append #[t,s] ty bs) #[v,x] w R:=by
 refine ⟨?_⟩
 unfold goV
 simp only [invoke,builtin,Sem.run_bind,hr,Result.andThen_ok,Sem.run_pure]
 exact h
theorem aDx{P:Program}{t e:TypeId}{z:Value}{size bytes:Nat}(E:ElT P t e z size bytes){g off dl dc sl sc:Nat}{p:OA}{cur:List Value}(hg:Blk w g cur.toArray e)
  (hp:0 < min sl dl→p=some ⟨g,off,none⟩) {q:OA} {cs:List Value} (hn:cs.length=min sl dl * size) (hs:Cs w q cs) (hfit:off+cs.length≤cur.length) (h1:∀u∈cs,u.oneCell'=true)
  {ty:TypeId} {bs:Array Bool} {R:EW} (h:∀w',Blk w' g (lay cur off cs).toArray e→w.grownBy w' (some g)→R (.returned (.int .i64 (min sl dl:Nat))) w') :
  doGo P (.builtin .copy #[t,t] ty bs) #[.slice p dl dc,.slice q sl sc] w R:=by
 obtain ⟨i,hi,hz,hsz,hby⟩:=E.hi
 by_cases h0:0 < min sl dl
 ·have hlt:0 < cs.length:=by rw [hn];exact Nat.mul_pos h0 E.hs
  obtain ⟨a,ha,_⟩:=hs 0 _ (List.getElem?_eq_getElem hlt)
  have hp':=hp h0
  subst ha hp'
  have hf:=run_firstCells_some (P:=P) w size (min sl dl) a sl sc cs hn (fun j u hu=>by obtain ⟨b,hb,hc⟩:=hs j u hu;cases hb;exact hc)
  have hst:=run_storeCells_at P g off e cs 0 cur.toArray w hg (by simpa using hfit) h1
  simp only [Nat.add_zero,List.append_assoc] at hst
  refine aKg (w':=w.setRow g (lay cur off cs).toArray) (v':=.int .i64 (min sl dl:Nat)) ?_ (h _ (setRow_heap w g _ _ e _ hg) (yH w g _))
  have hmin:Nat.min sl dl=min sl dl:=rfl
  simp [Builtin.copy_,run_underlying E.ht,Builtin.lenOf,sizeOf,typeInfo,hi,hsz,hmin,hf,hst,lay,goInt]
 ·have h0:min sl dl=0:=by omega
  have hcs:cs=[]:=List.eq_nil_of_length_eq_zero (by rw [hn,h0];simp)
  subst hcs
  have hl:∀(x:Addr),(loadCells x 0).run P w=.ok #[] w:=fun x=>by simpa using run_loadCells_list (P:=P) w x [] (by simp)
  have hmin:Nat.min sl dl=0:=h0
  refine aKg (w':=w) (v':=.int .i64 (min sl dl:Nat)) ?_ (h _ (by rw [aIl];exact hg) (vE w _))
  cases p <;> cases q <;> simp [Builtin.copy_,run_underlying E.ht,Builtin.lenOf,Builtin.firstCells,sizeOf,typeInfo,hi,hmin,storeCells,hl,goInt]
theorem aFo{P:Program}{t e:TypeId}{z:Value}{size bytes:Nat}(E:ElT P t e z size bytes){g n m c c':Nat}{cur:List Value}(hg:Blk w g cur.toArray e)
  {q:OA} {cs:List Value} (hn:cs.length=m * size) (hs:Cs w q cs) (hroom:n+m≤c) (hfit:n * size+cs.length≤cur.length) (h1:∀u∈cs,u.oneCell'=true) (hnil:q=none→m=0)
  {bs:Array Bool} {R:EW} (h:∀w',Blk w' g (lay cur (n * size) cs).toArray e→w.grownBy w' (some g)→R (.returned (.slice (some ⟨g,0,none⟩) (n+m) c)) w') :
  doGo P (.builtin .append #[t,t] t bs) #[.slice (some ⟨g,0,none⟩) n c,.slice q m c'] w R:=by
 obtain ⟨i,hi,hz,hsz,hby⟩:=E.hi
 cases q with
 | none=>
  have hm:=hnil rfl
  subst hm
  have hcs:cs=[]:=List.eq_nil_of_length_eq_zero (by rw [hn];simp)
  subst hcs
  refine vF (v':=.slice (some ⟨g,0,none⟩) n c) (w':=w) ?_ (h w (by rw [aIl];exact hg) (vE w _))
  simp [Builtin.append_,run_underlying E.ht,sizeOf,typeInfo,hi,Builtin.lenOf,Builtin.firstCells,show n≤c by omega,storeCells]
 | some a=>
  have hr:=run_append_room (P:=P) w t t e i E.ht hi g n c cur.toArray hg a m c' cs (by rw [hsz];exact hn) (fun j u hu=>by obtain ⟨b,hb,hc⟩:=hs j u hu;cases hb;exact hc) h1 hroom (by rw [hsz];simpa using hfit)
  rw [hsz] at hr
  simp only [List.append_assoc] at hr
  exact vF hr (h _ (setRow_heap w g _ _ e _ hg) (yH w g _))
theorem aDp{P:Program}{t ti e:TypeId}{z:Value}{size bytes:Nat}(E:ElT P t e z size bytes){ki:IntKind}(hti:P.underlying ti=some (.int ki)){n m c:Nat}
  {q:OA} {cs:List Value} (hn:cs.length=n * size) (hs:Cs w q cs) (hgrow:c < n+m) (hm:0 < m) (hb:(n+m) * bytes≤140737488355328) (h63:n+m≤maxLen)
  {bs:Array Bool} {R:EW} (h:∀(b c':Nat) (Q:List Value) w',b=w.heap.size→n+m≤c'→c'≤maxLen→Q.length=(c' - n) * size→Blk w' b (cs++Q).toArray e→Ext w w'→R (.returned (.slice (some ⟨b,0,none⟩) (n+m) c')) w') :
  doGo P (.builtin .append #[t,ti] t bs) #[.slice q n c,.int .i64 (m:Int)] w R:=by
 obtain ⟨i,hi,hz,hsz,hby⟩:=E.hi
 have hsm:n+m≤9223372036854775807:=by simp only [maxLen] at h63;omega
 have hold:(Builtin.firstCells i.size n (.slice q n c)).run P w.drew=.ok cs.toArray w.drew:=by
  cases q with
  | none=>
   have hcs:cs=[]:=by
    cases cs with
    | nil=>rfl
    | cons x xs=>obtain ⟨a,ha,_⟩:=hs 0 x rfl;cases ha
   subst hcs
   exact run_firstCells_none (P:=P) w.drew _ _ _ _
  | some a=>exact run_firstCells_some (P:=P) w.drew i.size n a n c cs (by rw [hsz];exact hn) (fun j u hu=>by obtain ⟨b,hb',hc⟩:=hs j u hu;cases hb';exact hc)
 have hbm:m * bytes≤(n+m) * bytes:=Nat.mul_le_mul_right _ (by omega)
 have hr:=Lib.run_append_grow_zeros (P:=P) w t ti t e i z .i64 ki E.ht hti hi hz q n c cs hold m hm (by rw [hsz];exact E.hs) hgrow (by omega) (by rw [hby];omega) (growslice_fits (by omega) (by rw [hby];exact hb))
 have hge:=grownCap_ge w (n+m) c e
 have hcm:=grownCap_le_maxLen w (n+m) c e h63
 refine aKh hr (h w.heap.size (grownCap w (n+m) c e) ((Builtin.zeroCells z.cells m).toList++(Builtin.zeroCells z.cells (grownCap w (n+m) c e - (n+m))).toList) _ rfl hge hcm ?_ ?_ ?_)
 ·simp only [List.length_append,Array.length_toList,size_zeroCells,E.hz]
  rw [←Nat.add_mul];congr 1;omega
 ·unfold Blk
  rw [show (cs++((Builtin.zeroCells z.cells m).toList++(Builtin.zeroCells z.cells (grownCap w (n+m) c e - (n+m))).toList)).toArray=cs.toArray++Builtin.zeroCells z.cells m++Builtin.zeroCells z.cells (grownCap w (n+m) c e - (n+m)) by simp]
  exact heap_alloc_new w.drew _
 ·exact (pT w).alloc _
theorem do_clear{P:Program}{t e:TypeId}{z:Value}{size bytes:Nat}(E:ElT P t e z size bytes)(h1:∀u∈z.cells.toList,u.oneCell'=true){g off n c:Nat}{p:OA}{cur:List Value}(hg:Blk w g cur.toArray e)
  (hp:p=some ⟨g,off,none⟩) (hfit:off+n * size≤cur.length) {bs:Array Bool} {ty:TypeId} {R:EW}
  (h:∀Q w',Q.length=n * size→Blk w' g (lay cur off Q).toArray e→w.grownBy w' (some g)→R (.returned (.tuple #[])) w') :
  doGo P (.builtin .clear #[t] ty bs) #[.slice p n c] w R:=by
 obtain ⟨i,hi,hz,hsz,hby⟩:=E.hi
 subst hp
 have hq:(Builtin.zeroCells z.cells n).toList.length=n * size:=by rw [Array.length_toList,size_zeroCells,E.hz]
 refine ⟨?_⟩
 unfold goV
 have hR:=fun w'=>h (Builtin.zeroCells z.cells n).toList w' hq
 cases n with
 | zero=>
  have hr:(Builtin.clear_ #[t] ty #[.slice (some ⟨g,off,none⟩) 0 c]).run P w=.ok (.tuple #[]) w:=by
   simp [Builtin.clear_,run_underlying E.ht]
  simp only [invoke,builtin,Sem.run_bind,hr,Result.andThen_ok,Sem.run_pure]
  refine hR w ?_ (vE w _)
  rw [show (Builtin.zeroCells z.cells 0).toList=[] from List.eq_nil_of_length_eq_zero (by rw [hq];simp),aIl]
  exact hg
 | succ n=>
  have hst:=run_storeCells_at P g off e (Builtin.zeroCells z.cells (n+1)).toList 0 cur.toArray w hg (by rw [hq];simpa using hfit) (fun u hu=>by
   simp only [Builtin.zeroCells,Array.toList_map,List.mem_map] at hu
   obtain ⟨j,_,rfl⟩:=hu
   have hlt:j % z.cells.size < z.cells.size:=Nat.mod_lt _ (by rw [E.hz];exact E.hs)
   rw [getElem!_pos z.cells _ hlt]
   exact h1 _ (by simp))
  simp only [Nat.add_zero,List.append_assoc] at hst
  have hzv:∀w,(zeroValue e).run P w=.ok z w:=fun w=>by simp [zeroValue,typeInfo,hi,hz,Result.andThen]
  have hr:(Builtin.clear_ #[t] ty #[.slice (some ⟨g,off,none⟩) (n+1) c]).run P w=.ok (.tuple #[]) (w.setRow g (lay cur off (Builtin.zeroCells z.cells (n+1)).toList).toArray):=by
   simp [Builtin.clear_,run_underlying E.ht,hzv,hst,lay]
  simp only [invoke,builtin,Sem.run_bind,hr,Result.andThen_ok,Sem.run_pure]
  exact hR _ (setRow_heap w g _ _ e _ hg) (yH w g _)
theorem do_cap{P:Program}{t e ty:TypeId}(ht:P.underlying t=some (.slice e)){p:OA}{n c:Nat}{bs:Array Bool}(h:R (.returned (.int .i64 (c:Int))) w):
  doGo P (.builtin .cap #[t] ty bs) #[.slice p n c] w R:=by
 refine ⟨?_⟩
 unfold goV
 have hr:(Builtin.cap_ #[t] ty #[.slice p n c]).run P w=.ok (.int .i64 (c:Int)) w:=by simp [Builtin.cap_,run_underlying ht,goInt]
 simp only [invoke,builtin,Sem.run_bind,hr,Result.andThen_ok,Sem.run_pure]
 exact h
theorem aKp{P : Program}{k : Nat}{fn : Func}(hf : P.funcs[k]? = some fn)(hname : (fn.name == "runtime.NumGoroutine") = false)(hb : fn.body.isNone = true)(hn : Extern.findNext fn = none){t tr e : TypeId}
  (he:Extern.find fn=some (Extern.SlicesOverlaps.overlaps #[t,t] #[tr])) {z:Value} {size bytes:Nat} (E:ElT P t e z size bytes) {b g off la ca lb cb:Nat} {w:World} {cs cur:Array Value} {tA tB:TypeId} (hA:Blk w b cs tA) (hB:Blk w g cur tB) (hne:b≠g) (hsz:cur.size≠0)
  {R:EW} (h:R (.returned (.bool false)) w):doCall P (.func (.func k) #[] #[]) #[.slice (some (blk b)) la ca,.slice (some ⟨g,off,none⟩) lb cb] w R:=by
 obtain ⟨i,hi,hz,hsize,_⟩:=E.hi
 refine ⟨?_⟩
 have hr:(invoke (.fn (.func k) #[]) (#[]++#[.slice (some (blk b)) la ca,.slice (some ⟨g,off,none⟩) lb cb])).run P w=.ok (.value (.bool false)) w:=by
  simp only [invoke]
  rw [run_callFunc_extern hf hname hb hn he]
  have:=Lib.run_overlaps_apart (P:=P) w t tr e E.ht size (fun w=>by simp [sizeOf,typeInfo,hi,hsize,Result.andThen]) (blk b) ⟨g,off,none⟩ la ca lb cb hne tA tB cs.size cur.size
   (by unfold World.shape?;rw [show w.heap[(blk b).block]?=_ from hA]) (by unfold World.shape?;rw [show w.heap[(⟨g,off,none⟩:Addr).block]?=_ from hB]) hsz (hA.frozen (i:=0) rfl) (hA.frozen rfl)
  simp only [Array.empty_append,Array.append_empty] at *
  rw [this];rfl
 show goV P _ _ w R
 unfold goV
 rw [hr]
 exact h
theorem wX{P:Program}{t e:TypeId}{z:Value}{size bytes:Nat}(E:ElT P t e z size bytes){base:Nat}{v:Value}{n:Nat}{xs:List Value}
  (hown:w.ownsRow base e size v n xs) {q:OA} {m c:Nat} {news:List Value} (hnews:Cs w q news) (hl:news.length=m * size) (h1:∀u∈news,u.oneCell'=true)
  (h63:n+m≤maxLen) (hbytes:(n+m) * bytes≤140737488355328) (hbase:base≤w.heap.size) {bs:Array Bool} {R:EW}
  (h:∀p c w',w'.ownsRow base e size (.slice p (n+m) c) (n+m) (xs++news)→w.grownBy w' v.ownBlock→R (.returned (.slice p (n+m) c)) w') :
  doGo P (.builtin .append #[t,t] t bs) #[v,.slice q m c] w R:=by
 cases q with
 | some a=>exact wI E hown hnews hl h1 h63 hbytes hbase h
 | none=>
  have hcs:news=[]:=by
   cases news with
   | nil=>rfl
   | cons x xs=>obtain ⟨a,ha,_⟩:=hnews 0 x rfl;cases ha
  subst hcs
  have hm:m=0:=by
   simp only [List.length_nil] at hl
   rcases Nat.eq_zero_or_pos m with h0 | h0
   ·exact h0
   ·have:=Nat.mul_pos h0 E.hs;omega
  subst hm
  obtain ⟨i,hi,_,_,_⟩:=E.hi
  obtain ⟨p,c',rfl⟩:=uZ hown
  have hr:=h p c' w
  simp only [Nat.add_zero,List.append_nil] at hr
  refine vF (v':=.slice p n c') (w':=w) ?_ (hr hown (vE w _))
  have hnc:=tD hown
  cases p <;> simp [Builtin.append_,run_underlying E.ht,sizeOf,typeInfo,hi,Builtin.lenOf,Builtin.firstCells,hnc,storeCells]
theorem aKl{α:Type}{ec:α→List Value}{s:Nat}(hs:∀x,(ec x).length=s){l:List α}{k j:Nat}(hk:k < l.length)(hj:j < s):(l.flatMap ec)[k * s+j]?=(ec l[k])[j]?:=by
 induction l generalizing k with
 | nil=>simp at hk
 | cons x xs ih=>
  rw [List.flatMap_cons]
  cases k with
  | zero=>rw [Nat.zero_mul,Nat.zero_add,List.getElem?_append_left (by rw [hs];exact hj)];rfl
  | succ k=>
   rw [List.getElem?_append_right (by rw [hs,Nat.add_mul];omega),hs,show (k+1) * s+j - s=k * s+j by rw [Nat.add_mul];omega]
   exact ih (by simpa using hk)
theorem aKk{α:Type}{ec:α→List Value}{s:Nat}(hs:∀x,(ec x).length=s)(l:List α):(l.flatMap ec).length=l.length * s:=by
 induction l with
 | nil=>simp
 | cons x xs ih=>rw [List.flatMap_cons,List.length_append,hs,ih,List.length_cons,Nat.add_mul];omega
theorem aBz{α:Type}{ec:α→List Value}{s:Nat}(hs:∀x,(ec x).length=s)(h0:0 < s){p:OA}{n:Nat}{i:Int}{l:List α}{K:Addr→Prop}(h:Cs w p (l.flatMap ec))(hn:l.length=n){k:Nat}(hk:i=(k:Int))(h1:k < n)
  (c:∀a:Addr,(∀j v,(ec (l[k]'(by omega)))[j]?=some v→w.cell? (a.add j)=some v)→(∃b,p=some b∧a=b.add (k * s))→K a):doIx p n s i K:=by
 subst hk
 have hg:∀j v,(ec (l[k]'(by omega)))[j]?=some v→∃a,p=some a∧w.cell? (a.add (k * s+j))=some v:=fun j v hv=>by
  have hj:j < s:=by have:=(List.getElem?_eq_some_iff.1 hv).1;rw [hs] at this;exact this
  exact h _ _ (by rw [aKl hs (by omega) hj];exact hv)
 obtain ⟨a,ha,_⟩:=hg 0 _ (List.getElem?_eq_getElem (by rw [hs];exact h0))
 refine ⟨a,ha,by omega,by omega,?_⟩
 rw [Int.toNat_natCast]
 refine c _ (fun j v hv=>?_) ⟨a,ha,rfl⟩
 obtain ⟨a',ha',hc⟩:=hg j v hv
 rw [ha] at ha';cases ha'
 rw [add_add];exact hc
theorem uC{α:Type}{ec:α→List Value}{s:Nat}(hs:∀x,(ec x).length=s)(h0:0 < s){C:World→Prop}{p:OA}{n:Nat}{i:Int}{l:List α}{K:Addr→Prop}(h:∀w,C w→Cs w p (l.flatMap ec)){w0:World}(hw:C w0)(hn:l.length=n){k:Nat}(hk:i=(k:Int))(h1:k < n)
  (c:∀a:Addr,(∀w,C w→∀j v,(ec (l[k]'(by omega)))[j]?=some v→w.cell? (a.add j)=some v)→K a):doIx p n s i K:=by
 refine aBz hs h0 (h w0 hw) hn hk h1 fun a _ ⟨b,hb,hab⟩=>c a fun w hC j v hv=>?_
 have hj:j < s:=by have:=(List.getElem?_eq_some_iff.1 hv).1;rw [hs] at this;exact this
 obtain ⟨a',ha',hc⟩:=h w hC (k * s+j) v (by rw [aKl hs (by omega) hj];exact hv)
 rw [hb] at ha';cases ha'
 rw [hab,add_add];exact hc
structure Chg (own:World→Nat→Prop) (S:Nat→Prop) (w w':World):Prop where
 os:w'.os=w.os
 tape:w'.tape=w.tape
 output:w'.output=w.output
 size:w.heap.size≤w'.heap.size
 block:∀k,k < w.heap.size→¬own w k→¬S k→w'.heap[k]?=w.heap[k]?
 out:∀k,k < w.heap.size→¬own w k→¬own w' k
section
variable {own:World→Nat→Prop} {S S':Nat→Prop} {a b c:World}
theorem Chg.refl(own:World→Nat→Prop)(S:Nat→Prop)(a:World):Chg own S a a:=⟨rfl,rfl,rfl,Nat.le_refl _,fun _ _ _ _=>rfl,fun _ _ h=>h⟩
theorem Chg.trans(h:Chg own S a b)(k:Chg own S b c):Chg own S a c:=
 ⟨k.os.trans h.os,k.tape.trans h.tape,k.output.trans h.output,Nat.le_trans h.size k.size,
  fun i hi ho hs=>(k.block i (Nat.lt_of_lt_of_le hi h.size) (h.out i hi ho) hs).trans (h.block i hi ho hs),
  fun i hi ho=>k.out i (Nat.lt_of_lt_of_le hi h.size) (h.out i hi ho)⟩
theorem Chg.cut(h:Chg own S a b)(hs:∀k,k < a.heap.size→S k→S' k):Chg own S' a b:=
 ⟨h.os,h.tape,h.output,h.size,fun k hk ho hn=>h.block k hk ho fun hS=>hn (hs k hk hS),h.out⟩
abbrev SF(B:Nat)(S:Nat→Prop):Nat→Prop:=fun k=>S k∨B≤k
theorem Chg.fresh(h:Chg own (SF a.heap.size S) a b):Chg own S a b:=h.cut fun k hk hs=>hs.resolve_right (by omega)
theorem Chg.mono(h:Chg own S a b)(hs:∀k,S k→S' k):Chg own S' a b:=h.cut fun k _=>hs k
theorem Chg.of_grown{i:Nat}(g:a.grownBy b (some i))(hS:i < a.heap.size→S i)(ho:∀k,own b k→own a k):Chg own S a b:=
 ⟨g.os,g.tape,g.output,g.size,fun k hk _ hn=>g.block k hk fun e=>hn (by cases e;exact hS hk),fun k _ h1 h2=>h1 (ho k h2)⟩
theorem Chg.blk{i:Nat}{cs:Array Value}{t:TypeId}(h:Chg own S a b)(hb:Blk a i cs t)(ho:¬own a i)(hs:¬S i):Blk b i cs t:=by
 unfold Blk at *
 rw [h.block i (Array.getElem?_eq_some_iff.1 hb).1 ho hs];exact hb
theorem Chg.cell{p:Addr}{v:Value}(h:Chg own S a b)(hc:a.cell? p=some v)(ho:¬own a p.block)(hs:¬S p.block):b.cell? p=some v:=by
 rw [World.cell?_of_block (h.block _ (World.block_lt_of_cell? a p hc) ho hs)];exact hc
theorem Chg.ext{B:Nat}(h:Chg own S a b)(ho:∀k,k < B→¬own a k)(hs:∀k,k < B→¬S k)(hB:B≤a.heap.size):Below B a b:=
 ⟨h.os,h.tape,h.output,h.size,fun k hk=>h.block k (by omega) (ho k hk) (hs k hk)⟩
end
theorem rR{P:Program}{t e:TypeId}{z:Value}{size bytes:Nat}(E:ElT P t e z size bytes){base:Nat}{v:Value}{n:Nat}{xs:List Value}
  (hown:w.ownsRow base e size v n xs) {ad:Addr} {m c:Nat} {news:List Value} (hnews:Cs w (some ad) news) (hl:news.length=m * size) (h1:∀u∈news,u.oneCell'=true)
  (h63:n+m≤maxLen) (hbytes:(n+m) * bytes≤140737488355328) (hbase:base≤w.heap.size) {bs:Array Bool} {R:EW}
  (h:∀p c w',w'.ownsRow base e size (.slice p (n+m) c) (n+m) (xs++news)→w.grownBy w' v.ownBlock→(∀b,(Value.slice p (n+m) c).ownBlock=some b→v.ownBlock=some b∨w.heap.size≤b)→R (.returned (.slice p (n+m) c)) w') :
  doGo P (.builtin .append #[t,t] t bs) #[v,.slice (some ad) m c] w R:=by
 obtain ⟨i,hi,hz,hsz,hby⟩:=E.hi
 have hnw:∀j u,news[j]?=some u→w.cell? (ad.add j)=some u:=fun j u hu=>by obtain ⟨a,ha,hc⟩:=hnews j u hu;cases ha;exact hc
 obtain ⟨v',w',hr,h2,h3,_⟩:=run_append_own (P:=P) w base t t e i z size bytes E.ht hi hz hsz hby E.hz E.hs v n xs hown ad m c news hl hnw h1 h63 hbytes hbase
 obtain ⟨p,c',rfl⟩:=uZ h2
 refine vF hr (h p c' w' h2 h3 fun b hb=>?_)
 rcases hown.2 with ⟨rfl,rfl⟩ | ⟨g,cap,cur,rfl,hbg,hg,hnc,hcm,hcs,htake⟩
 ·have hx:xs=[]:=List.eq_nil_of_length_eq_zero (by simpa using hown.1)
  subst hx
  obtain ⟨v2,w2,hr2,h22,_⟩:=run_append_own (P:=P) w w.heap.size t t e i z size bytes E.ht hi hz hsz hby E.hz E.hs (.slice none 0 0) 0 [] (World.ownsRow_nil w _ e size) ad m c news hl hnw h1 h63 hbytes (Nat.le_refl _)
  rw [hr] at hr2
  cases hr2
  exact .inr (h22.lt b hb).1
 ·by_cases hroom:n+m≤cap
  ·obtain ⟨w2,hr2,_⟩:=run_append_fits (P:=P) w base t t e i size E.ht hi hsz g n cap xs hown ad m c news hl hnw h1 hroom
   rw [hr] at hr2
   cases hr2
   exact .inl hb
  ·have holds:∀j u,xs[j]?=some u→w.cell? ((⟨g,0,none⟩:Addr).add j)=some u:=hown.cells (g:=g) rfl
   subst hsz hby
   have hr2:=run_append_grow (P:=P) w t t e i z E.ht hi hz ⟨g,0,none⟩ n cap xs hown.1 holds ad m c news hl hnw (by omega) (by simp only [maxLen] at h63;omega) (growslice_fits (by omega) hbytes)
   rw [hr] at hr2
   cases hr2
   right
   simp only [Value.ownBlock,Option.some.injEq] at hb
   omega
theorem aGk{own:World→Nat→Prop}{base e size n:Nat}{v:Value}{xs:List Value}(h:w.ownsRow base e size v n xs)(ho:∀b,v.ownBlock=some b→¬own w b):
  ∃p cap,v=.slice p n cap∧n≤cap∧Cs w p xs∧∀a,p=some a→¬own w a.block∧base≤a.block∧a.block < w.heap.size:=by
 obtain ⟨p,c,rfl⟩:=uZ h
 refine ⟨p,c,rfl,tD h,Cs.of_row h,fun a ha=>?_⟩
 subst ha
 have:=h.lt a.block rfl
 exact ⟨ho _ rfl,this⟩
theorem aCg{own:World→Nat→Prop}{S:Nat→Prop}{a b:World}(c:Chg own S a b){base e size n:Nat}{v:Value}{xs:List Value}(h:a.ownsRow base e size v n xs)(ho:∀k,v.ownBlock=some k→¬own a k)(hs:∀k,v.ownBlock=some k→¬S k):
  b.ownsRow base e size v n xs:=by
 refine ⟨h.1,?_⟩
 rcases h.2 with hn | ⟨g,cap,cur,rfl,hb,hgg,rest⟩
 ·exact .inl hn
 ·exact .inr ⟨g,cap,cur,rfl,hb,by rw [c.block g (Array.getElem?_eq_some_iff.1 hgg).1 (ho g rfl) (hs g rfl)];exact hgg,rest⟩
structure CBase {σ:Type} (c:PC σ) where
 I:World→σ→Prop
 own:World→Nat→Prop
 lt:∀{w s k},I w s→own w k→k < w.heap.size
 keep:∀{w w' s},I w s→(∀k,own w k→w'.heap[k]?=w.heap[k]?)→I w' s∧∀k,own w' k↔own w k
 len:σ→Nat
 grow:Nat
 numIn:∀{v s v' s'},In v→c.num v s=some (v',s')→In v'∧len s'≤len s+grow
 wordIn:∀{l k s k' s'},0≤k∧k < 256→c.word l k s=some (k',s')→(0≤k'∧k' < 256)∧len s'≤len s+grow
 flagIn:∀{f s f' s'},c.flag f s=some (f',s')→len s'≤len s+grow
 manyIn:∀{n s n' s'},n≤1000000→c.many n s=some (n',s')→n'≤max n 4096∧len s'≤len s+grow
 pairIn:∀{p s p' s'},In p.1∧In p.2→c.pair p s=some (p',s')→(In p'.1∧In p'.2)∧len s'≤len s+grow
section
variable {σ:Type} {c:PC σ} (C:CBase c) {w w':World} {s:σ}
theorem CBase.st{b:Nat}(h:C.I w s)(g:w.grownBy w' (some b))(hb:¬C.own w b):C.I w' s∧∀k,C.own w' k↔C.own w k:=
 C.keep h fun k hk=>g.block k (C.lt h hk) fun e=>hb (by cases e;exact hk)
theorem CBase.ext(h:C.I w s)(e:Ext w w'):C.I w' s∧∀k,C.own w' k↔C.own w k:=C.keep h fun k hk=>e.block k (C.lt h hk)
theorem CBase.chg_ext{S:Nat→Prop}(h:C.I w s)(e:Ext w w'):Chg C.own S w w':=
 ⟨e.os,e.tape,e.output,e.size,fun k hk _ _=>e.block k hk,fun k _ h1 h2=>h1 (((C.ext h e).2 k).1 h2)⟩
theorem CBase.new'{k:Nat}(h:C.I w s)(hk:w.heap.size≤k):¬C.own w k:=fun hk'=>by have:=C.lt h hk';omega
theorem CBase.new(h:C.I w s):¬C.own w w.heap.size:=fun hk=>Nat.lt_irrefl _ (C.lt h hk)
theorem CBase.chg_st{S:Nat→Prop}{b:Nat}(h:C.I w s)(g:w.grownBy w' (some b))(hb:¬C.own w b)(hS:b < w.heap.size→S b):Chg C.own S w w':=
 .of_grown g hS fun k=>((C.st h g hb).2 k).1
end
end Go.Sh
namespace Go.Proofs.YtmdboekndjlmgaaGreat
open Go Go.Sh Go.RowKit Tryz
variable {w:World}{R:EW}
def xS:PanicEntry:={ v:=.iface 194 (.agg #[]),recovered:=false }
def NoneCh(ch:List PanicEntry):Prop:=∃rest,ch=xS::rest∧∀e∈rest,e.goexit=false
theorem aAg:NoneCh [xS]:=⟨[],rfl,by simp⟩
theorem NoneCh.app{a b:List PanicEntry}(h:NoneCh a)(k:NoneCh b):NoneCh (a++b):=by
 obtain ⟨r,rfl,hr⟩:=h
 obtain ⟨q,rfl,hq⟩:=k
 refine ⟨r++xS::q,rfl,fun e he=>?_⟩
 rcases List.mem_append.1 he with he | he
 ·exact hr e he
 ·rcases List.mem_cons.1 he with rfl | he
  ·rfl
  ·exact hq e he
abbrev rW:Value:=.tuple #[]
def strs(l:List Bs):List Value:=l.map fun s=>.string ⟨s.toArray⟩
def lim:Nat:=1000000000000
structure Coder {σ:Type} (c:PC σ) (ct:TypeId) (cp:Value) extends CBase c where
 pre:List Bs→Int→Prop
 nc:∀{K:Prop},K→doNC prog (.iface ct cp) K
 ncw : ∀ {K : Prop}, K → doNC prog (.func (.method "joinery/op.word") #[.iface ct cp] #[]) K
 ta:∃p1 b1 p2 b2,(b1||b2)=c.words∧(∀(w:World) (S:Value→Prop),S (.tuple #[.pointer p1,.bool b1])→doTA prog (.iface ct cp) 196 219 true w S)∧
  ∀(w:World) (S:Value→Prop),S (.tuple #[.pointer p2,.bool b2])→doTA prog (.iface ct cp) 196 220 true w S
 num:∀{w:World} {s:σ} {b i:Nat} {cs:Array Value} {t:TypeId} {v:Int} {R:EW},I w s→len s≤lim→¬own w b→Blk w b cs t→cs[i]?=some (.int .i64 v)→In v→
  (∀v' s' w',c.num v s=some (v',s')→I w' s'→Blk w' b (cs.setIfInBounds i (.int .i64 v')) t→Chg own (·=b) w w'→R (.returned rW) w')→
  (∀ch u s' w',c.num v s=none→NoneCh ch→len s'≤len s+grow→I w' s'→Blk w' b (cs.setIfInBounds i (.int .i64 u)) t→Chg own (·=b) w w'→R (.panicked ch) w')→
  doGo prog (.fn (.method "joinery/op.num") #[]) #[.iface ct cp, .pointer (some ⟨b, i, none⟩)] w R
 word:∀{w:World} {s:σ} {b i:Nat} {cs:Array Value} {t:TypeId} {v:Int} {names:List Bs} {q:OA} {n cap:Nat} {R:EW},I w s→len s≤lim→¬own w b→Blk w b cs t→cs[i]?=some (.int .u8 v)→0≤v∧v < 256→
  Cs w q (strs names)→names.length=n→n≤cap→pre names v→
  (∀v' s' w',c.word names v s=some (v',s')→I w' s'→Blk w' b (cs.setIfInBounds i (.int .u8 v')) t→Chg own (·=b) w w'→R (.returned rW) w')→
  (∀ch u s' w',c.word names v s=none→NoneCh ch→len s'≤len s+grow→I w' s'→Blk w' b (cs.setIfInBounds i (.int .u8 u)) t→Chg own (·=b) w w'→R (.panicked ch) w')→
  doGo prog (.fn (.method "joinery/op.word") #[]) #[.iface ct cp, .pointer (some ⟨b, i, none⟩), .slice q n cap] w R
 flag:∀{w:World} {s:σ} {b i:Nat} {cs:Array Value} {t:TypeId} {v:Bool} {R:EW},I w s→len s≤lim→¬own w b→Blk w b cs t→cs[i]?=some (.bool v)→
  (∀v' s' w',c.flag v s=some (v',s')→I w' s'→Blk w' b (cs.setIfInBounds i (.bool v')) t→Chg own (·=b) w w'→R (.returned rW) w')→
  (∀ch u s' w',c.flag v s=none→NoneCh ch→len s'≤len s+grow→I w' s'→Blk w' b (cs.setIfInBounds i (.bool u)) t→Chg own (·=b) w w'→R (.panicked ch) w')→
  doGo prog (.fn (.method "joinery/op.flag") #[]) #[.iface ct cp, .pointer (some ⟨b, i, none⟩)] w R
 flagD:c.words=false→∀{w:World} {s:σ} {b i:Nat} {cs:Array Value} {t:TypeId} {v:Bool} {u:FrameMode} {K:FrameMode→World→Prop},u≠.run→I w s→len s≤lim→¬own w b→Blk w b cs t→cs[i]?=some (.bool v)→
  (∀v' s' w',c.flag v s=some (v',s')→I w' s'→Blk w' b (cs.setIfInBounds i (.bool v')) t→Chg own (·=b) w w'→K (settle u) w')→
  (∀ch u' s' w',c.flag v s=none→NoneCh ch→len s'≤len s+grow→I w' s'→Blk w' b (cs.setIfInBounds i (.bool u')) t→Chg own (·=b) w w'→K (raised u ch) w')→
  doDf prog (.fn (.method "joinery/op.flag") #[]) #[.iface ct cp, .pointer (some ⟨b, i, none⟩)] u w K
 many:∀{w:World} {s:σ} {b:Nat} {t:TypeId} {v:Nat} {R:EW},I w s→len s≤lim→¬own w b→Blk w b #[.int .i64 (v:Int)] t→v≤1000000→
  (∀v' s' w',c.many v s=some (v',s')→I w' s'→Blk w' b #[.int .i64 ((v':Nat):Int)] t→Chg own (·=b) w w'→R (.returned rW) w')→
  (∀ch s' w',c.many v s=none→NoneCh ch→len s'≤len s+grow→I w' s'→Chg own (·=b) w w'→R (.panicked ch) w')→
  doGo prog (.fn (.method "joinery/op.many") #[]) #[.iface ct cp, .pointer (some ⟨b, 0, none⟩)] w R
 pair:∀{w:World} {s:σ} {b:Nat} {t:TypeId} {v:Int × Int} {R:EW},I w s→len s≤lim→¬own w b→Blk w b #[.int .i64 v.1,.int .i64 v.2] t→In v.1∧In v.2→
  (∀v' s' w',c.pair v s=some (v',s')→I w' s'→Blk w' b #[.int .i64 v'.1,.int .i64 v'.2] t→Chg own (·=b) w w'→R (.returned rW) w')→
  (∀ch s' w',c.pair v s=none→NoneCh ch→len s'≤len s+grow→I w' s'→Chg own (·=b) w w'→R (.panicked ch) w')→
  doGo prog (.fn (.method "joinery/op.pair") #[]) #[.iface ct cp, .pointer (some ⟨b, 0, none⟩)] w R
def sA(x:POp)(pv kv:Value):Array Value:=
 #[.int .u8 x.op,.int .i64 x.a,.int .i64 x.b,.int .i64 x.key,.int .i64 x.val,.int .i64 x.lo,.int .i64 x.hi,.int .i64 x.n,.int .u8 x.pol,.int .u8 x.pk,.int .i64 x.pa,.int .i64 x.pb,.bool x.pnot,pv,kv]
def OpAt(w:World)(b:Nat)(x:POp)(pv kv:Value):Prop:=Blk w b (sA x pv kv) 30
section
variable {σ:Type} {c:PC σ} {ct:TypeId} {cp:Value} (C:Coder c ct cp)
theorem aJa{fp:OA}{s:σ}{b i:Nat}{cs:Array Value}{t:TypeId}{v:Int}(hI:C.I w s)(hl:C.len s≤lim)(ho:¬C.own w b)(hb:Blk w b cs t)(hc:cs[i]?=some (.int .i64 v))(hv:In v)
  (h:∀v' s' w',c.num v s=some (v',s')→C.I w' s'→Blk w' b (cs.setIfInBounds i (.int .i64 v')) t→Chg C.own (·=b) w w'→R (.returned rW) w')
  (hn:∀ch s' w',c.num v s=none→NoneCh ch→C.len s'≤C.len s+C.grow→C.I w' s'→Blk w' b cs t→Chg C.own (·=b) w w'→R (.panicked ch) w') :
  Calls prog 209 #[.agg #[.pointer fp,.iface ct cp],.pointer (some ⟨b,i,none⟩)] w R:=by
 refine sh209_ok ?_
 unfold sh209
 refine ⟨?_⟩
 have e1:=pQ w (.cells #[.pointer fp,.iface ct cp] 203)
 have hf1:=pS w #[.pointer fp,.iface ct cp] 203
 have z1:(w.alloc (.cells #[.pointer fp,.iface ct cp] 203)).heap.size=w.heap.size+1:=by simp
 generalize w.alloc (.cells #[.pointer fp,.iface ct cp] 203)=w1 at e1 hf1 z1 ⊢
 refine ⟨_,rfl,v,(hb.ext e1).cell rfl hc,⟨?_⟩⟩
 refine qA (pS w1 _ _) (i:=0) rfl (by simp) fun w2 h2 g2=>?_
 have e2:Ext w w2:=(e1.alloc _).st g2 e1.size
 have z2:¬C.own w2 w1.heap.size:=fun h=>C.new' hI e1.size (((C.ext hI e2).2 _).1 h)
 have hf2:Blk w2 w.heap.size #[.pointer fp,.iface ct cp] 203:=(hf1.ext (pQ w1 _)).grown g2 (pV (by omega))
 refine ⟨_,hf2.cell (i:=1) rfl rfl,C.num (C.ext hI e2).1 hl z2 h2 rfl hv (fun v' s' w3 hr hI3 hb3 c3=>pN ⟨rfl,?_⟩) fun ch u s' w3 hr hch hls hI3 hb3 c3=>?_⟩
 ·refine ⟨v',hb3.cell (i:=0) rfl rfl,_,rfl,?_⟩
  have hne:b≠w1.heap.size:=fun e=>by have:=hb.lt;have:=e1.size;omega
  have ho2:¬C.own w2 b:=fun h=>ho (((C.ext hI e2).2 _).1 h)
  have hb3':Blk w3 b cs t:=c3.blk (hb.ext e2) ho2 hne
  have ho3:¬C.own w3 b:=c3.out b (hb.ext e2).lt ho2
  refine qA hb3' (i:=i) (by rw [add_zero']) (Array.getElem?_eq_some_iff.1 hc).1 fun w4 h4 g4=>?_
  have k1:Chg C.own (SF w.heap.size (·=b)) w w2:=C.chg_ext hI e2
  have k2:Chg C.own (SF w.heap.size (·=b)) w2 w3:=c3.mono fun k hk=>.inr (by have:=e1.size;omega)
  have k3:Chg C.own (SF w.heap.size (·=b)) w3 w4:=C.chg_st hI3 g4 ho3 fun _=>.inl rfl
  exact h v' s' w4 hr (C.st hI3 g4 ho3).1 h4 ((k1.trans k2).trans k3).fresh
 ·have hne:b≠w1.heap.size:=fun e=>by have:=hb.lt;have:=e1.size;omega
  have ho2:¬C.own w2 b:=fun h=>ho (((C.ext hI e2).2 _).1 h)
  have k1:Chg C.own (SF w.heap.size (·=b)) w w2:=C.chg_ext hI e2
  have k2:Chg C.own (SF w.heap.size (·=b)) w2 w3:=c3.mono fun k hk=>.inr (by have:=e1.size;omega)
  exact hn ch s' w3 hr hch hls hI3 (c3.blk (hb.ext e2) ho2 hne) (k1.trans k2).fresh
end
def RowAt(own:World→Nat→Prop)(xb:Nat)(w:World)(v:Value)(n:Nat)(cells:List Value):Prop:=
 ∃p cap,v=.slice p n cap∧n≤cap∧Cs w p cells∧∀a,p=some a→cells≠[]→¬own w a.block∧a.block≠xb∧a.block < w.heap.size
theorem RowAt.chg{own:World→Nat→Prop}{xb:Nat}{w w':World}{v:Value}{n:Nat}{cells:List Value}(h:RowAt own xb w v n cells)(c:Chg own (·=xb) w w'):RowAt own xb w' v n cells:=by
 obtain ⟨p,cap,rfl,hn,hc,ha⟩:=h
 refine ⟨p,cap,rfl,hn,fun i u hu=>?_,fun a e hz=>?_⟩
 ·obtain ⟨a,e,hcell⟩:=hc i u hu
  obtain ⟨h1,h2,_⟩:=ha a e (by rintro rfl;simp at hu)
  exact ⟨a,e,c.cell hcell (by rw [qV];exact h1) (by rw [qV];exact h2)⟩
 ·obtain ⟨h1,h2,h3⟩:=ha a e hz
  exact ⟨c.out _ h3 h1,h2,Nat.lt_of_lt_of_le h3 c.size⟩
structure RowsAt (own:World→Nat→Prop) (xb:Nat) (w:World) (x:POp) (pv kv:Value):Prop where
 p:RowAt own xb w pv x.pairs.length (prs x.pairs)
 k:RowAt own xb w kv x.keys.length (ints x.keys)
theorem RowsAt.chg{own:World→Nat→Prop}{xb:Nat}{w w':World}{x:POp}{pv kv:Value}(h:RowsAt own xb w x pv kv)(c:Chg own (·=xb) w w'):RowsAt own xb w' x pv kv:=⟨h.p.chg c,h.k.chg c⟩
def uV(w:World)(b:Nat):Prop:=∃x p n cap q m cap',OpAt w b x (.slice p n cap) (.slice q m cap')
theorem RowsAt.some{own:World→Nat→Prop}{xb:Nat}{x:POp}{pv kv:Value}(h:RowsAt own xb w x pv kv){w':World}{y:POp}(ha:OpAt w' xb y pv kv):uV w' xb:=by
 obtain ⟨p,cap,rfl,_⟩:=h.p
 obtain ⟨q,cap',rfl,_⟩:=h.k
 exact ⟨y,p,_,cap,q,_,cap',ha⟩
section
variable {σ:Type} {c:PC σ} {ct:TypeId} {cp:Value} (C:Coder c ct cp)
theorem c_fkey{xb:Nat}{x:POp}{pv kv:Value}{s:σ}(hI:C.I w s)(hl:C.len s≤lim)(ho:¬C.own w xb)(hx:OpAt w xb x pv kv)(hin:InO x)(hr:RowsAt C.own xb w x pv kv)
  (h:∀x' s' w',qD c .key x s=some (x',s')→C.I w' s'→OpAt w' xb x' pv kv→RowsAt C.own xb w' x' pv kv→Chg C.own (·=xb) w w'→R (.returned rW) w')
  (hn:∀ch w',qD c .key x s=none→NoneCh ch→uV w' xb→Chg C.own (·=xb) w w'→R (.panicked ch) w') :
  Calls prog 197 #[.agg #[.pointer (some (blk xb)),.iface ct cp]] w R:=by
 refine sh197_ok ?_
 unfold sh197
 refine ⟨?_⟩
 have e1:=pQ w (.cells #[.pointer (some (blk xb)),.iface ct cp] 203)
 have hf1:=pS w #[.pointer (some (blk xb)),.iface ct cp] 203
 generalize w.alloc (.cells #[.pointer (some (blk xb)),.iface ct cp] 203)=w1 at e1 hf1 ⊢
 refine ⟨?_⟩
 have e2:=e1.drew
 have hf2:=hf1.ext (pT w1)
 generalize w1.drew=w2 at e2 hf2 ⊢
 have hxb:=hx.lt
 have ho2:¬C.own w2 xb:=fun h=>ho (((C.ext hI e2).2 _).1 h)
 have hof:¬C.own w2 w.heap.size:=fun h=>C.new' hI (Nat.le_refl _) (((C.ext hI e2).2 _).1 h)
 have hne:w.heap.size≠xb:=by omega
 refine ⟨fun w'=>Blk w' w.heap.size #[.pointer (some (blk xb)),.iface ct cp] 203,hf2,_,fun w' h'=>h'.cell (i:=1) rfl rfl,_,fun w' h'=>h'.cell (i:=0) rfl rfl,_,rfl,C.nc ?_⟩
 refine C.num (b:=xb) (i:=3) (C.ext hI e2).1 hl ho2 (hx.ext e2) rfl hin.key (fun v' s' w3 hv hI3 hb3 c3=>pN ⟨rfl,c3.blk hf2 hof hne,?_⟩) fun ch u s' w3 hv hch hls hI3 hb3 c3=>?_
 ·have k1:Chg C.own (SF w.heap.size (·=xb)) w w2:=C.chg_ext hI e2
  have k:Chg C.own (·=xb) w w3:=(k1.trans (c3.mono fun _=>.inl)).fresh
  refine h { x with key:=v' } s' w3 (by simp only [qD,hv];rfl) hI3 hb3 ?_ k
  exact ⟨(hr.chg k).p,(hr.chg k).k⟩
 ·have k1:Chg C.own (SF w.heap.size (·=xb)) w w2:=C.chg_ext hI e2
  have k:Chg C.own (·=xb) w w3:=(k1.trans (c3.mono fun _=>.inl)).fresh
  exact hn ch w3 (by simp only [qD,hv];rfl) hch (hr.some (y:={ x with key:=u }) hb3) k
theorem c_fval{xb:Nat}{x:POp}{pv kv:Value}{s:σ}(hI:C.I w s)(hl:C.len s≤lim)(ho:¬C.own w xb)(hx:OpAt w xb x pv kv)(hin:InO x)(hr:RowsAt C.own xb w x pv kv)
  (h:∀x' s' w',qD c .val x s=some (x',s')→C.I w' s'→OpAt w' xb x' pv kv→RowsAt C.own xb w' x' pv kv→Chg C.own (·=xb) w w'→R (.returned rW) w')
  (hn:∀ch w',qD c .val x s=none→NoneCh ch→uV w' xb→Chg C.own (·=xb) w w'→R (.panicked ch) w') :
  Calls prog 198 #[.agg #[.pointer (some (blk xb)),.iface ct cp]] w R:=by
 refine sh198_ok ?_
 unfold sh198
 refine ⟨?_⟩
 have e1:=pQ w (.cells #[.pointer (some (blk xb)),.iface ct cp] 203)
 have hf1:=pS w #[.pointer (some (blk xb)),.iface ct cp] 203
 generalize w.alloc (.cells #[.pointer (some (blk xb)),.iface ct cp] 203)=w1 at e1 hf1 ⊢
 refine ⟨?_⟩
 have e2:=e1.drew
 have hf2:=hf1.ext (pT w1)
 generalize w1.drew=w2 at e2 hf2 ⊢
 have hxb:=hx.lt
 have ho2:¬C.own w2 xb:=fun h=>ho (((C.ext hI e2).2 _).1 h)
 have hof:¬C.own w2 w.heap.size:=fun h=>C.new' hI (Nat.le_refl _) (((C.ext hI e2).2 _).1 h)
 have hne:w.heap.size≠xb:=by omega
 refine ⟨fun w'=>Blk w' w.heap.size #[.pointer (some (blk xb)),.iface ct cp] 203,hf2,_,fun w' h'=>h'.cell (i:=1) rfl rfl,_,fun w' h'=>h'.cell (i:=0) rfl rfl,_,rfl,C.nc ?_⟩
 refine C.num (b:=xb) (i:=4) (C.ext hI e2).1 hl ho2 (hx.ext e2) rfl hin.val (fun v' s' w3 hv hI3 hb3 c3=>pN ⟨rfl,c3.blk hf2 hof hne,?_⟩) fun ch u s' w3 hv hch hls hI3 hb3 c3=>?_
 ·have k1:Chg C.own (SF w.heap.size (·=xb)) w w2:=C.chg_ext hI e2
  have k:Chg C.own (·=xb) w w3:=(k1.trans (c3.mono fun _=>.inl)).fresh
  refine h { x with val:=v' } s' w3 (by simp only [qD,hv];rfl) hI3 hb3 ?_ k
  exact ⟨(hr.chg k).p,(hr.chg k).k⟩
 ·have k1:Chg C.own (SF w.heap.size (·=xb)) w w2:=C.chg_ext hI e2
  have k:Chg C.own (·=xb) w w3:=(k1.trans (c3.mono fun _=>.inl)).fresh
  exact hn ch w3 (by simp only [qD,hv];rfl) hch (hr.some (y:={ x with val:=u }) hb3) k
theorem c_flo{xb:Nat}{x:POp}{pv kv:Value}{s:σ}(hI:C.I w s)(hl:C.len s≤lim)(ho:¬C.own w xb)(hx:OpAt w xb x pv kv)(hin:InO x)(hr:RowsAt C.own xb w x pv kv)
  (h:∀x' s' w',qD c .lo x s=some (x',s')→C.I w' s'→OpAt w' xb x' pv kv→RowsAt C.own xb w' x' pv kv→Chg C.own (·=xb) w w'→R (.returned rW) w')
  (hn:∀ch w',qD c .lo x s=none→NoneCh ch→uV w' xb→Chg C.own (·=xb) w w'→R (.panicked ch) w') :
  Calls prog 205 #[.agg #[.pointer (some (blk xb)),.iface ct cp]] w R:=by
 refine sh205_ok ?_
 unfold sh205
 refine ⟨?_⟩
 have e1:=pQ w (.cells #[.pointer (some (blk xb)),.iface ct cp] 203)
 have hf1:=pS w #[.pointer (some (blk xb)),.iface ct cp] 203
 generalize w.alloc (.cells #[.pointer (some (blk xb)),.iface ct cp] 203)=w1 at e1 hf1 ⊢
 refine ⟨?_⟩
 have e2:=e1.drew
 have hf2:=hf1.ext (pT w1)
 generalize w1.drew=w2 at e2 hf2 ⊢
 have hxb:=hx.lt
 have ho2:¬C.own w2 xb:=fun h=>ho (((C.ext hI e2).2 _).1 h)
 have hof:¬C.own w2 w.heap.size:=fun h=>C.new' hI (Nat.le_refl _) (((C.ext hI e2).2 _).1 h)
 have hne:w.heap.size≠xb:=by omega
 refine ⟨fun w'=>Blk w' w.heap.size #[.pointer (some (blk xb)),.iface ct cp] 203,hf2,_,fun w' h'=>h'.cell (i:=1) rfl rfl,_,fun w' h'=>h'.cell (i:=0) rfl rfl,_,rfl,C.nc ?_⟩
 refine C.num (b:=xb) (i:=5) (C.ext hI e2).1 hl ho2 (hx.ext e2) rfl hin.lo (fun v' s' w3 hv hI3 hb3 c3=>pN ⟨rfl,c3.blk hf2 hof hne,?_⟩) fun ch u s' w3 hv hch hls hI3 hb3 c3=>?_
 ·have k1:Chg C.own (SF w.heap.size (·=xb)) w w2:=C.chg_ext hI e2
  have k:Chg C.own (·=xb) w w3:=(k1.trans (c3.mono fun _=>.inl)).fresh
  refine h { x with lo:=v' } s' w3 (by simp only [qD,hv];rfl) hI3 hb3 ?_ k
  exact ⟨(hr.chg k).p,(hr.chg k).k⟩
 ·have k1:Chg C.own (SF w.heap.size (·=xb)) w w2:=C.chg_ext hI e2
  have k:Chg C.own (·=xb) w w3:=(k1.trans (c3.mono fun _=>.inl)).fresh
  exact hn ch w3 (by simp only [qD,hv];rfl) hch (hr.some (y:={ x with lo:=u }) hb3) k
theorem c_fhi{xb:Nat}{x:POp}{pv kv:Value}{s:σ}(hI:C.I w s)(hl:C.len s≤lim)(ho:¬C.own w xb)(hx:OpAt w xb x pv kv)(hin:InO x)(hr:RowsAt C.own xb w x pv kv)
  (h:∀x' s' w',qD c .hi x s=some (x',s')→C.I w' s'→OpAt w' xb x' pv kv→RowsAt C.own xb w' x' pv kv→Chg C.own (·=xb) w w'→R (.returned rW) w')
  (hn:∀ch w',qD c .hi x s=none→NoneCh ch→uV w' xb→Chg C.own (·=xb) w w'→R (.panicked ch) w') :
  Calls prog 206 #[.agg #[.pointer (some (blk xb)),.iface ct cp]] w R:=by
 refine sh206_ok ?_
 unfold sh206
 refine ⟨?_⟩
 have e1:=pQ w (.cells #[.pointer (some (blk xb)),.iface ct cp] 203)
 have hf1:=pS w #[.pointer (some (blk xb)),.iface ct cp] 203
 generalize w.alloc (.cells #[.pointer (some (blk xb)),.iface ct cp] 203)=w1 at e1 hf1 ⊢
 refine ⟨?_⟩
 have e2:=e1.drew
 have hf2:=hf1.ext (pT w1)
 generalize w1.drew=w2 at e2 hf2 ⊢
 have hxb:=hx.lt
 have ho2:¬C.own w2 xb:=fun h=>ho (((C.ext hI e2).2 _).1 h)
 have hof:¬C.own w2 w.heap.size:=fun h=>C.new' hI (Nat.le_refl _) (((C.ext hI e2).2 _).1 h)
 have hne:w.heap.size≠xb:=by omega
 refine ⟨fun w'=>Blk w' w.heap.size #[.pointer (some (blk xb)),.iface ct cp] 203,hf2,_,fun w' h'=>h'.cell (i:=1) rfl rfl,_,fun w' h'=>h'.cell (i:=0) rfl rfl,_,rfl,C.nc ?_⟩
 refine C.num (b:=xb) (i:=6) (C.ext hI e2).1 hl ho2 (hx.ext e2) rfl hin.hi (fun v' s' w3 hv hI3 hb3 c3=>pN ⟨rfl,c3.blk hf2 hof hne,?_⟩) fun ch u s' w3 hv hch hls hI3 hb3 c3=>?_
 ·have k1:Chg C.own (SF w.heap.size (·=xb)) w w2:=C.chg_ext hI e2
  have k:Chg C.own (·=xb) w w3:=(k1.trans (c3.mono fun _=>.inl)).fresh
  refine h { x with hi:=v' } s' w3 (by simp only [qD,hv];rfl) hI3 hb3 ?_ k
  exact ⟨(hr.chg k).p,(hr.chg k).k⟩
 ·have k1:Chg C.own (SF w.heap.size (·=xb)) w w2:=C.chg_ext hI e2
  have k:Chg C.own (·=xb) w w3:=(k1.trans (c3.mono fun _=>.inl)).fresh
  exact hn ch w3 (by simp only [qD,hv];rfl) hch (hr.some (y:={ x with hi:=u }) hb3) k
theorem c_fa{xb:Nat}{x:POp}{pv kv:Value}{s:σ}(hI:C.I w s)(hl:C.len s≤lim)(ho:¬C.own w xb)(hx:OpAt w xb x pv kv)(hin:InO x)(hr:RowsAt C.own xb w x pv kv)
  (h:∀x' s' w',qD c .a x s=some (x',s')→C.I w' s'→OpAt w' xb x' pv kv→RowsAt C.own xb w' x' pv kv→Chg C.own (·=xb) w w'→R (.returned rW) w')
  (hn:∀ch w',qD c .a x s=none→NoneCh ch→uV w' xb→Chg C.own (·=xb) w w'→R (.panicked ch) w') :
  Calls prog 196 #[.agg #[.pointer (some (blk xb)),.iface ct cp]] w R:=by
 refine sh196_ok ?_
 unfold sh196
 refine ⟨?_⟩
 have e1:=pQ w (.cells #[.pointer (some (blk xb)),.iface ct cp] 203)
 have hf1:=pS w #[.pointer (some (blk xb)),.iface ct cp] 203
 generalize w.alloc (.cells #[.pointer (some (blk xb)),.iface ct cp] 203)=w1 at e1 hf1 ⊢
 refine ⟨?_⟩
 have e2:=e1.drew
 have hf2:=hf1.ext (pT w1)
 generalize w1.drew=w2 at e2 hf2 ⊢
 have hxb:=hx.lt
 have ho2:¬C.own w2 xb:=fun h=>ho (((C.ext hI e2).2 _).1 h)
 have hof:¬C.own w2 w.heap.size:=fun h=>C.new' hI (Nat.le_refl _) (((C.ext hI e2).2 _).1 h)
 have hne:w.heap.size≠xb:=by omega
 refine ⟨fun w'=>Blk w' w.heap.size #[.pointer (some (blk xb)),.iface ct cp] 203,hf2,_,fun w' h'=>h'.cell (i:=0) rfl rfl,_,fun w' h'=>h'.cell (i:=1) rfl rfl,_,fun w' h'=>h'.cell (i:=0) rfl rfl,_,rfl,pP call209 ?_⟩
 refine aJa C (b:=xb) (i:=1) (C.ext hI e2).1 hl ho2 (hx.ext e2) rfl hin.a (fun v' s' w3 hv hI3 hb3 c3=>pN ⟨rfl,c3.blk hf2 hof hne,?_⟩) fun ch s' w3 hv hch hls hI3 hb3 c3=>?_
 ·have k1:Chg C.own (SF w.heap.size (·=xb)) w w2:=C.chg_ext hI e2
  have k:Chg C.own (·=xb) w w3:=(k1.trans (c3.mono fun _=>.inl)).fresh
  refine h { x with a:=v' } s' w3 (by simp only [qD,hv];rfl) hI3 hb3 ?_ k
  exact ⟨(hr.chg k).p,(hr.chg k).k⟩
 ·have k1:Chg C.own (SF w.heap.size (·=xb)) w w2:=C.chg_ext hI e2
  have k:Chg C.own (·=xb) w w3:=(k1.trans (c3.mono fun _=>.inl)).fresh
  exact hn ch w3 (by simp only [qD,hv];rfl) hch (hr.some (y:=x) hb3) k
theorem c_fb{xb:Nat}{x:POp}{pv kv:Value}{s:σ}(hI:C.I w s)(hl:C.len s≤lim)(ho:¬C.own w xb)(hx:OpAt w xb x pv kv)(hin:InO x)(hr:RowsAt C.own xb w x pv kv)
  (h:∀x' s' w',qD c .b x s=some (x',s')→C.I w' s'→OpAt w' xb x' pv kv→RowsAt C.own xb w' x' pv kv→Chg C.own (·=xb) w w'→R (.returned rW) w')
  (hn:∀ch w',qD c .b x s=none→NoneCh ch→uV w' xb→Chg C.own (·=xb) w w'→R (.panicked ch) w') :
  Calls prog 201 #[.agg #[.pointer (some (blk xb)),.iface ct cp]] w R:=by
 refine sh201_ok ?_
 unfold sh201
 refine ⟨?_⟩
 have e1:=pQ w (.cells #[.pointer (some (blk xb)),.iface ct cp] 203)
 have hf1:=pS w #[.pointer (some (blk xb)),.iface ct cp] 203
 generalize w.alloc (.cells #[.pointer (some (blk xb)),.iface ct cp] 203)=w1 at e1 hf1 ⊢
 refine ⟨?_⟩
 have e2:=e1.drew
 have hf2:=hf1.ext (pT w1)
 generalize w1.drew=w2 at e2 hf2 ⊢
 have hxb:=hx.lt
 have ho2:¬C.own w2 xb:=fun h=>ho (((C.ext hI e2).2 _).1 h)
 have hof:¬C.own w2 w.heap.size:=fun h=>C.new' hI (Nat.le_refl _) (((C.ext hI e2).2 _).1 h)
 have hne:w.heap.size≠xb:=by omega
 refine ⟨fun w'=>Blk w' w.heap.size #[.pointer (some (blk xb)),.iface ct cp] 203,hf2,_,fun w' h'=>h'.cell (i:=0) rfl rfl,_,fun w' h'=>h'.cell (i:=1) rfl rfl,_,fun w' h'=>h'.cell (i:=0) rfl rfl,_,rfl,pP call209 ?_⟩
 refine aJa C (b:=xb) (i:=2) (C.ext hI e2).1 hl ho2 (hx.ext e2) rfl hin.b (fun v' s' w3 hv hI3 hb3 c3=>pN ⟨rfl,c3.blk hf2 hof hne,?_⟩) fun ch s' w3 hv hch hls hI3 hb3 c3=>?_
 ·have k1:Chg C.own (SF w.heap.size (·=xb)) w w2:=C.chg_ext hI e2
  have k:Chg C.own (·=xb) w w3:=(k1.trans (c3.mono fun _=>.inl)).fresh
  refine h { x with b:=v' } s' w3 (by simp only [qD,hv];rfl) hI3 hb3 ?_ k
  exact ⟨(hr.chg k).p,(hr.chg k).k⟩
 ·have k1:Chg C.own (SF w.heap.size (·=xb)) w w2:=C.chg_ext hI e2
  have k:Chg C.own (·=xb) w w3:=(k1.trans (c3.mono fun _=>.inl)).fresh
  exact hn ch w3 (by simp only [qD,hv];rfl) hch (hr.some (y:=x) hb3) k
theorem c_fn{xb:Nat}{x:POp}{pv kv:Value}{s:σ}(hI:C.I w s)(hl:C.len s≤lim)(ho:¬C.own w xb)(hx:OpAt w xb x pv kv)(hin:InO x)(hr:RowsAt C.own xb w x pv kv)
  (h:∀x' s' w',qD c .n x s=some (x',s')→C.I w' s'→OpAt w' xb x' pv kv→RowsAt C.own xb w' x' pv kv→Chg C.own (·=xb) w w'→R (.returned rW) w')
  (hn:∀ch w',qD c .n x s=none→NoneCh ch→uV w' xb→Chg C.own (·=xb) w w'→R (.panicked ch) w') :
  Calls prog 204 #[.agg #[.pointer (some (blk xb)),.iface ct cp]] w R:=by
 refine sh204_ok ?_
 unfold sh204
 refine ⟨?_⟩
 have e1:=pQ w (.cells #[.pointer (some (blk xb)),.iface ct cp] 203)
 have hf1:=pS w #[.pointer (some (blk xb)),.iface ct cp] 203
 generalize w.alloc (.cells #[.pointer (some (blk xb)),.iface ct cp] 203)=w1 at e1 hf1 ⊢
 refine ⟨?_⟩
 have e2:=e1.drew
 have hf2:=hf1.ext (pT w1)
 generalize w1.drew=w2 at e2 hf2 ⊢
 have hxb:=hx.lt
 have ho2:¬C.own w2 xb:=fun h=>ho (((C.ext hI e2).2 _).1 h)
 have hof:¬C.own w2 w.heap.size:=fun h=>C.new' hI (Nat.le_refl _) (((C.ext hI e2).2 _).1 h)
 have hne:w.heap.size≠xb:=by omega
 refine ⟨fun w'=>Blk w' w.heap.size #[.pointer (some (blk xb)),.iface ct cp] 203,hf2,_,fun w' h'=>h'.cell (i:=0) rfl rfl,_,fun w' h'=>h'.cell (i:=1) rfl rfl,_,fun w' h'=>h'.cell (i:=0) rfl rfl,_,rfl,pP call209 ?_⟩
 refine aJa C (b:=xb) (i:=7) (C.ext hI e2).1 hl ho2 (hx.ext e2) rfl hin.n (fun v' s' w3 hv hI3 hb3 c3=>pN ⟨rfl,c3.blk hf2 hof hne,?_⟩) fun ch s' w3 hv hch hls hI3 hb3 c3=>?_
 ·have k1:Chg C.own (SF w.heap.size (·=xb)) w w2:=C.chg_ext hI e2
  have k:Chg C.own (·=xb) w w3:=(k1.trans (c3.mono fun _=>.inl)).fresh
  refine h { x with n:=v' } s' w3 (by simp only [qD,hv];rfl) hI3 hb3 ?_ k
  exact ⟨(hr.chg k).p,(hr.chg k).k⟩
 ·have k1:Chg C.own (SF w.heap.size (·=xb)) w w2:=C.chg_ext hI e2
  have k:Chg C.own (·=xb) w w3:=(k1.trans (c3.mono fun _=>.inl)).fresh
  exact hn ch w3 (by simp only [qD,hv];rfl) hch (hr.some (y:=x) hb3) k
end
end Go.Proofs.YtmdboekndjlmgaaGreat
