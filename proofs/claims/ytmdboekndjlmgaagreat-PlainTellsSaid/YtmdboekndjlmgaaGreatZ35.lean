/-
  Arguments opened to cells: slices of structs. No claim of its own.
-/
import Derived.Deep.Slices
import Derived.Deep.Fields
import Derived.ChangeSame
import Derived.Lib.SmallJoins
import Derived.SizedLaws
import Derived.Test.YtmdboekndjlmgaaGreatZ34
set_option maxRecDepth 100000
set_option maxHeartbeats 6400000
namespace Go.Sh
open Go Go.RowKit Go.ChangeShapes Go.WideShapes Go.Deep
variable {w:World}{R:EW}
theorem aOb{α:Type}{enc:α→List Value}{s:Nat}(hs:∀x,(enc x).length=s){a:Addr}{l:List α}
  (h:∀i (hi:i < l.length),∀j,j < s→w.cell? (a.add (i * s+j))=(enc l[i])[j]?):Cs w (some a) (l.flatMap enc):=by
 induction l generalizing a with
 | nil=>intro i v hv;simp at hv
 | cons x xs ih=>
  intro i v hv
  refine ⟨a,rfl,?_⟩
  rw [List.flatMap_cons] at hv
  rcases Nat.lt_or_ge i s with hi | hi
  ·rw [List.getElem?_append_left (by rw [hs];exact hi)] at hv
   have:=h 0 (by simp) i hi
   simp only [Nat.zero_mul,Nat.zero_add,List.getElem_cons_zero] at this
   rw [this];exact hv
  ·rw [List.getElem?_append_right (by rw [hs];exact hi),hs] at hv
   have:=ih (a:=a.add s) (fun i hi j hj=>by
    have:=h (i+1) (by simpa using hi) j hj
    simp only [List.getElem_cons_succ] at this
    rw [Sh.add_add,show s+(i * s+j)=(i+1) * s+j by rw [Nat.add_mul];omega]
    exact this) (i - s) v hv
   obtain ⟨b,hb,hc⟩:=this
   cases hb
   rw [Sh.add_add,show s+(i - s)=i by omega] at hc
   exact hc
theorem aNq{α:Type}{p:Nat→α→Prop}(n:Nat)(h:∀i,i < n→∃x,p i x):∃l:List α,l.length=n∧∀i (hi:i < l.length),p i l[i]:=by
 induction n with
 | zero=>exact ⟨[],rfl,fun i hi=>by simp at hi⟩
 | succ n ih=>
  obtain ⟨l,hl,hp⟩:=ih fun i hi=>h i (by omega)
  obtain ⟨x,hx⟩:=h n (by omega)
  refine ⟨l++[x],by simp [hl],fun i hi=>?_⟩
  rcases Nat.lt_or_ge i l.length with h1 | h1
  ·rw [List.getElem_append_left h1];exact hp i h1
  ·have:i=l.length:=by simp at hi;omega
   subst this
   simp [hl];exact hx
variable {H:Type} {enc:TypeId × Value→H} {P:Program} {w:World} {base:Nat} {spare:Nat→Bool} {held:Bool}
theorem aHl{α:Type}{ec:α→List Value}{Pr:α→Prop}{s:Nat}(hs:∀x,(ec x).length=s){t e:TypeId}(ht:P.underlying t=some (.slice e))(hc:P.cellsOf e=s)
  (hdec:∀n cs y,DataW.trod enc P w base spare held n e cs=some y→∃x:α,cs=ec x∧Pr x) {q:OA} {len cap:Nat} {d:DataW H} {p:List MemPlace} (h:DataW.Trod enc P w base spare held t (.slice q len cap) d p) :
  ∃l:List α,l.length=len∧Cs w q (l.flatMap ec)∧(∀x∈l,Pr x)∧len≤cap∧cap≤maxLen∧(q=none→len=0∧cap=0):=by
 obtain ⟨fuel,hf⟩:=h
 rcases open_slice ht hf with ⟨hcs,_⟩ | ⟨a,l',c',m,n,D,Pl,hcs,hb,hl,hm,hmm,hx,hi⟩
 ·simp [Value.cells] at hcs
  obtain ⟨rfl,rfl,rfl⟩:=hcs
  exact ⟨[],rfl,Sh.cs_nil _ _,by simp,Nat.le_refl _,Nat.zero_le _,fun _=>⟨rfl,rfl⟩⟩
 ·simp [Value.cells] at hcs
  obtain ⟨rfl,rfl,rfl⟩:=hcs
  have hlm:len≤m:=by rw [hmm];split <;> omega
  obtain ⟨l,hll,hp⟩:=aNq (p:=fun i (x:α)=>(∀j,j < s→w.cell? (a.add (i * s+j))=(ec x)[j]?)∧Pr x) len (fun i hil=>by
   obtain ⟨cs',hcc,htr⟩:=hi i (by omega)
   rw [hc] at hcc
   obtain ⟨_,hcl,hat⟩:=World.cells?_some hcc
   obtain ⟨x,rfl,hpx⟩:=hdec _ _ _ htr
   refine ⟨x,fun j hj=>?_,hpx⟩
   rw [←Sh.add_add];exact hat j hj)
  refine ⟨l,hll,aOb hs fun i hi j hj=>(hp i hi).1 j hj,fun x hx=>?_,hl,hm,by simp⟩
  obtain ⟨i,hi,rfl⟩:=List.getElem_of_mem hx
  exact (hp i hi).2
theorem uF{x:Int}(h:(Lit.int .i64 x).wf=true):-9223372036854775808≤x∧x < 9223372036854775808:=by
 simp [Lit.wf,IntKind.min,IntKind.max,IntKind.signed,IntKind.bits] at h
 omega
theorem u8_of{x:Int}(h:(Lit.int .u8 x).wf=true):0≤x∧x < 256:=by
 simp [Lit.wf,IntKind.min,IntKind.max,IntKind.signed,IntKind.bits] at h
 omega
theorem dec_int2{e i:TypeId}{f0 f1:Field}(he:P.underlying e=some (.struct #[f0,f1]))(h0:f0.offset=0)(h1:f1.offset=1)(hi:P.underlying i=some (.int .i64))(ht0:f0.type=i)(ht1:f1.type=i)(hce:P.cellsOf e=2)(hci:P.cellsOf i=1)
  (n:Nat) (cs:List Value) (y:DataW H × List MemPlace) (h:DataW.trod enc P w base spare held n e cs=some y) :
  ∃x:Int × Int,cs=[.int .i64 x.1,.int .i64 x.2]∧((-9223372036854775808≤x.1∧x.1 < 9223372036854775808)∧(-9223372036854775808≤x.2∧x.2 < 9223372036854775808)):=by
 obtain ⟨y0,y1,n',hx,hl,hf0,hf1⟩:=trod_struct2 he h
 rw [hce] at hl
 match cs,hl with
 | [c0,c1],_=>
  rw [h0,ht0,hci] at hf0
  rw [h1,ht1,hci] at hf1
  obtain ⟨m0,hc0,_,hw0⟩:=DataW.trod_int hi hf0
  obtain ⟨m1,hc1,_,hw1⟩:=DataW.trod_int hi hf1
  simp at hc0 hc1
  subst hc0 hc1
  exact ⟨(m0,m1),rfl,uF hw0,uF hw1⟩
end Go.Sh
namespace Go.Proofs.YtmdboekndjlmgaaGreat
open Go Go.Sh Go.RowKit Go.ChangeShapes Go.WideShapes Tryz
variable {w:World}{R:EW}
variable {H:Type} {enc:TypeId × Value→H} {w:World} {base:Nat} {spare:Nat→Bool} {held:Bool}
def Is_pairs(w:World)(q:OA)(len cap:Nat)(l:List Pr):Prop:=l.length=len∧Cs w q (prs l)∧InP l∧len≤cap∧cap≤maxLen∧(q=none→len=0∧cap=0)
theorem aPe{q:OA}{len cap:Nat}{d:DataW H}{p:List MemPlace}(h:DataW.Trod enc prog w base spare held 22 (.slice q len cap) d p):∃l:List Pr,Is_pairs w q len cap l:=
 aHl (ec:=fun x:Pr=>[.int .i64 x.1,.int .i64 x.2]) (Pr:=fun x=>In x.1∧In x.2) (s:=2) (fun _=>rfl) underlying22 (by kernel_rfl)
  (dec_int2 underlying63 rfl rfl underlying2 rfl rfl (by kernel_rfl) (by kernel_rfl)) h
def aOn(w:World)(q:OA)(len cap:Nat)(l:List Int):Prop:=l.length=len∧Cs w q (ints l)∧(∀x∈l,In x)∧len≤cap∧cap≤maxLen∧(q=none→len=0∧cap=0)
theorem ints_of{t e:TypeId}(ht:prog.underlying t=some (.slice e))(he:prog.underlying e=some (.int .i64))(hc:prog.cellsOf e=1){q:OA}{len cap:Nat}{d:DataW H}{p:List MemPlace}
  (h:DataW.Trod enc prog w base spare held t (.slice q len cap) d p):∃l,aOn w q len cap l:=by
 obtain ⟨l,h1,h2,h3⟩:=aHl (ec:=fun x:Int=>[.int .i64 x]) (Pr:=fun x=>In x) (s:=1) (fun _=>rfl) ht hc (fun n cs y hy=>by
  obtain ⟨m,hm,_,hw⟩:=DataW.trod_int he hy
  exact ⟨m,hm,uF hw⟩) h
 refine ⟨l,h1,?_,h3⟩
 unfold ints
 rw [List.map_eq_flatMap]
 exact h2
theorem ints_arg{q:OA}{len cap:Nat}{d:DataW H}{p:List MemPlace}(h:DataW.Trod enc prog w base spare held 28 (.slice q len cap) d p):∃l,aOn w q len cap l:=
 ints_of underlying28 underlying2 (by kernel_rfl) h
open Go.Deep
variable {H:Type} {enc:TypeId × Value→H} {P:Program} {w:World} {base:Nat} {spare:Nat→Bool} {held:Bool}
theorem aDe{e:TypeId}{m:Nat}:∀{l:List (DataW H)} {d:DataW H},d∈l→m∈d.weights P e→m∈DataW.weightsAll P e l
 | [],_,h,_=>by cases h
 | x::l,d,h,hm=>by
  simp only [DataW.weightsAll,List.mem_append]
  rcases List.mem_cons.1 h with rfl | h
  ·exact .inl hm
  ·exact .inr (aDe h hm)
theorem aMt{α:Type}{ec:α→List Value}{Pr:α→Prop}{s:Nat}(hs:∀x,(ec x).length=s){t e:TypeId}(ht:P.underlying t=some (.slice e))(hc:P.cellsOf e=s)
  (hdec:∀n cs y,DataW.trod enc P w base spare held n e cs=some y→(∀m∈y.1.weights P e,m≤reachBytes)→∃x:α,cs=ec x∧Pr x) {q:OA} {len cap:Nat} {d:DataW H} {p:List MemPlace} (h:DataW.Trod enc P w base spare held t (.slice q len cap) d p)
  (hz:∀m∈d.weights P t,m≤reachBytes) :
  ∃l:List α,l.length=len∧Cs w q (l.flatMap ec)∧(∀x∈l,Pr x)∧len≤cap∧cap≤maxLen∧(q=none→len=0∧cap=0):=by
 obtain ⟨fuel,hf⟩:=h
 rcases open_slice ht hf with ⟨hcs,_⟩ | ⟨a,l',c',m,n,D,Pl,hcs,hb,hl,hm,hmm,hx,hi⟩
 ·simp [Value.cells] at hcs
  obtain ⟨rfl,rfl,rfl⟩:=hcs
  exact ⟨[],rfl,Sh.cs_nil _ _,by simp,Nat.le_refl _,Nat.zero_le _,fun _=>⟨rfl,rfl⟩⟩
 ·simp [Value.cells] at hcs
  obtain ⟨rfl,rfl,rfl⟩:=hcs
  have hx:=congrArg Prod.fst hx
  simp only at hx
  subst hx
  have hlm:len≤m:=by rw [hmm];split <;> omega
  obtain ⟨l,hll,hp⟩:=aNq (p:=fun i (x:α)=>(∀j,j < s→w.cell? (a.add (i * s+j))=(ec x)[j]?)∧Pr x) len (fun i hil=>by
   obtain ⟨cs',hcc,htr⟩:=hi i (by omega)
   rw [hc] at hcc
   obtain ⟨_,hcl,hat⟩:=World.cells?_some hcc
   obtain ⟨x,rfl,hpx⟩:=hdec _ _ _ htr fun k hk=>hz k (by
    simp only [DataW.weights,ht,List.mem_cons,List.mem_append]
    exact .inr (.inl (aDe (List.mem_map.2 ⟨i,List.mem_range.2 hil,rfl⟩) hk)))
   refine ⟨x,fun j hj=>?_,hpx⟩
   rw [←Sh.add_add];exact hat j hj)
  refine ⟨l,hll,aOb hs fun i hi j hj=>(hp i hi).1 j hj,fun x hx=>?_,hl,hm,by simp⟩
  obtain ⟨i,hi,rfl⟩:=List.getElem_of_mem hx
  exact (hp i hi).2
variable {H:Type} {enc:TypeId × Value→H} {P:Program} {w:World} {base:Nat} {spare:Nat→Bool} {held:Bool}
def Is_op(w:World)(e:OpE):Prop:=InO e.1∧OpRd w e.1 e.2.1 e.2.2∧e.1.pairs.length≤17592186044416∧e.1.keys.length≤17592186044416
def aJh(w:World)(q:OA)(len cap:Nat)(l:List OpE):Prop:=l.length=len∧Cs w q (l.flatMap opC)∧(∀e∈l,Is_op w e)∧len≤cap∧cap≤maxLen∧(q=none→len=0∧cap=0)
theorem aEx{t e:TypeId}(ht:prog.underlying t=some (.slice e)){k:Nat}(hk:prog.bytesOf e=k)(k8:8≤k){n:Nat}{c:Value}{y:DataW H × List MemPlace}(h:DataW.trod enc prog w base spare held n t [c]=some y)(hw:∀m∈y.1.weights prog t,m≤reachBytes):
  ∃qq nn cc,c=.slice qq nn cc∧nn≤17592186044416:=by
 rcases DataW.trod_slice ht h with ⟨hcs,_⟩ | ⟨a,len',cap',elems,rest,n,_,hcs,hx,_,_,_,hlen,_⟩
 ·simp at hcs;exact ⟨_,_,_,hcs,by omega⟩
 ·simp at hcs
  refine ⟨_,_,_,hcs,?_⟩
  rw [hx] at hw
  have g:=hw ((elems.length+rest.length) * prog.bytesOf e) (by simp [DataW.weights,ht])
  have er:reachBytes=140737488351232:=rfl
  rw [hk,er] at g
  have g2:len' * 8≤(elems.length+rest.length) * k:=Nat.mul_le_mul (by omega) k8
  omega
theorem aGl{p:OA}{cs:List Value}(h:Cs w p cs):∀d,p=some d→cs≠[]→d.block < w.heap.size:=fun d hd hne=>by
 match cs,hne with
 | v::vs,_=>
  obtain ⟨a,ha,hc⟩:=h 0 v rfl
  rw [hd] at ha
  cases ha
  have:=World.block_lt_of_cell? _ _ hc
  rwa [qV] at this
theorem op_dec{n:Nat}{cs:List Value}{y:DataW H × List MemPlace}(hy:DataW.trod enc prog w base spare held n 30 cs=some y)(hw:∀m∈y.1.weights prog 30,m≤reachBytes):∃e:OpE,cs=opC e∧Is_op w e:=by
 obtain ⟨xs,n',_,hx,hl,hlen,hf⟩:=DataW.trod_struct underlying30 hy
 have hce:prog.cellsOf 30=15:=by kernel_rfl
 have hc8:prog.cellsOf 5=1:=by kernel_rfl
 have hci:prog.cellsOf 3=1:=by kernel_rfl
 have hc64:prog.cellsOf 2=1:=by kernel_rfl
 have hcp:prog.cellsOf 22=1:=by kernel_rfl
 have hck:prog.cellsOf 28=1:=by kernel_rfl
 have hcq:prog.cellsOf 27=4:=by kernel_rfl
 rw [hce] at hl
 match cs,hl,xs,hlen with
 | [c0,c1,c2,c3,c4,c5,c6,c7,c8,c9,c10,c11,c12,c13,c14],_,[y0,y1,y2,y3,y4,y5,y6,y7,y8,y9,y10,y11],_=>
  have h0:DataW.trod enc prog w base spare held n' 5 [c0]=some y0:=by simpa [hc8,hci,hc64,hcp,hck,hcq] using hf 0 _ rfl
  have h1:DataW.trod enc prog w base spare held n' 3 [c1]=some y1:=by simpa [hc8,hci,hc64,hcp,hck,hcq] using hf 1 _ rfl
  have h2:DataW.trod enc prog w base spare held n' 3 [c2]=some y2:=by simpa [hc8,hci,hc64,hcp,hck,hcq] using hf 2 _ rfl
  have h3:DataW.trod enc prog w base spare held n' 2 [c3]=some y3:=by simpa [hc8,hci,hc64,hcp,hck,hcq] using hf 3 _ rfl
  have h4:DataW.trod enc prog w base spare held n' 2 [c4]=some y4:=by simpa [hc8,hci,hc64,hcp,hck,hcq] using hf 4 _ rfl
  have h5:DataW.trod enc prog w base spare held n' 2 [c5]=some y5:=by simpa [hc8,hci,hc64,hcp,hck,hcq] using hf 5 _ rfl
  have h6:DataW.trod enc prog w base spare held n' 2 [c6]=some y6:=by simpa [hc8,hci,hc64,hcp,hck,hcq] using hf 6 _ rfl
  have h7:DataW.trod enc prog w base spare held n' 3 [c7]=some y7:=by simpa [hc8,hci,hc64,hcp,hck,hcq] using hf 7 _ rfl
  have h8:DataW.trod enc prog w base spare held n' 5 [c8]=some y8:=by simpa [hc8,hci,hc64,hcp,hck,hcq] using hf 8 _ rfl
  have h9:DataW.trod enc prog w base spare held n' 27 [c9,c10,c11,c12]=some y9:=by simpa [hc8,hci,hc64,hcp,hck,hcq] using hf 9 _ rfl
  have h10:DataW.trod enc prog w base spare held n' 22 [c13]=some y10:=by simpa [hc8,hci,hc64,hcp,hck,hcq] using hf 10 _ rfl
  have h11:DataW.trod enc prog w base spare held n' 28 [c14]=some y11:=by simpa [hc8,hci,hc64,hcp,hck,hcq] using hf 11 _ rfl
  obtain ⟨m0,e0,_,w0⟩:=DataW.trod_int underlying5 h0
  obtain ⟨m1,e1,_,w1⟩:=DataW.trod_int underlying3 h1
  obtain ⟨m2,e2,_,w2⟩:=DataW.trod_int underlying3 h2
  obtain ⟨m3,e3,_,w3⟩:=DataW.trod_int underlying2 h3
  obtain ⟨m4,e4,_,w4⟩:=DataW.trod_int underlying2 h4
  obtain ⟨m5,e5,_,w5⟩:=DataW.trod_int underlying2 h5
  obtain ⟨m6,e6,_,w6⟩:=DataW.trod_int underlying2 h6
  obtain ⟨m7,e7,_,w7⟩:=DataW.trod_int underlying3 h7
  obtain ⟨m8,e8,_,w8⟩:=DataW.trod_int underlying5 h8
  obtain ⟨zs,n'',_,_,_,glen,gf⟩:=DataW.trod_struct underlying27 h9
  match zs,glen with
  | [z0,z1,z2,z3],_=>
   have g0:DataW.trod enc prog w base spare held n'' 5 [c9]=some z0:=by simpa [hc8] using gf 0 _ rfl
   have g1:DataW.trod enc prog w base spare held n'' 2 [c10]=some z1:=by simpa [hc64] using gf 1 _ rfl
   have g2:DataW.trod enc prog w base spare held n'' 2 [c11]=some z2:=by simpa [hc64] using gf 2 _ rfl
   have hcb:prog.cellsOf 4=1:=by kernel_rfl
   have g3:DataW.trod enc prog w base spare held n'' 4 [c12]=some z3:=by simpa [hcb] using gf 3 _ rfl
   obtain ⟨m9,e9,_,w9⟩:=DataW.trod_int underlying5 g0
   obtain ⟨m10,e10,_,w10⟩:=DataW.trod_int underlying2 g1
   obtain ⟨m11,e11,_,w11⟩:=DataW.trod_int underlying2 g2
   obtain ⟨b12,e12,_⟩:=DataW.trod_bool underlying4 g3
   rw [hx] at hw
   simp only [DataW.weights,underlying30,DataW.weightsEach,List.map_cons,List.map_nil,List.mem_append] at hw
   obtain ⟨qp,np,cp,ep,zp⟩:=aEx underlying22 (k:=16) (by kernel_rfl) (by omega) h10 fun m hm=>hw m (.inr (.inr (.inr (.inr (.inr (.inr (.inr (.inr (.inr (.inr (.inl hm)))))))))))
   obtain ⟨qk,nk,ck,ek,zk⟩:=aEx underlying28 (k:=8) (by kernel_rfl) (by omega) h11 fun m hm=>hw m (.inr (.inr (.inr (.inr (.inr (.inr (.inr (.inr (.inr (.inr (.inr (.inl hm))))))))))))
   simp only [List.cons.injEq,and_true] at e0 e1 e2 e3 e4 e5 e6 e7 e8 e9 e10 e11 e12
   subst e0 e1 e2 e3 e4 e5 e6 e7 e8 e9 e10 e11 e12 ep ek
   obtain ⟨lp,p1,p2,p3,p4,_,_⟩:=aPe ⟨n',h10⟩
   obtain ⟨lk,k1,k2,k3,k4,_,_⟩:=ints_arg ⟨n',h11⟩
   subst p1 k1
   refine ⟨(⟨m0,m1,m2,m3,m4,m5,m6,m7,m8,m9,m10,m11,b12,lp,lk⟩,_,_),rfl,⟨Go.Sh.u8_of w0,uF w1,uF w2,uF w3,uF w4,uF w5,uF w6,uF w7,Go.Sh.u8_of w8,Go.Sh.u8_of w9,uF w10,uF w11,p3,k3⟩,⟨⟨qp,cp,rfl,p4,p2,aGl p2⟩,⟨qk,ck,rfl,k4,k2,aGl k2⟩⟩,zp,zk⟩
theorem ops_arg{q:OA}{len cap:Nat}{d:DataW H}{p:List MemPlace}(h:DataW.Trod enc prog w base spare held 38 (.slice q len cap) d p){ts:List TypeId}{ds:List (DataW H)}(hz:(DataW.weightsEach prog ts ds).all (·≤reachBytes)=true){j:Nat}(ht:ts[j]?=some 38)(hd:ds[j]?=some d):∃l,aJh w q len cap l:=
 aMt (ec:=opC) (Pr:=Is_op w) (s:=15) (fun _=>rfl) underlying38 (by kernel_rfl) (fun n cs y hy hw=>op_dec hy hw) h fun m hm=>by
  have:=List.all_eq_true.1 hz _ (DataW.weights_mem_each ht hd m hm)
  simpa using this
theorem rK{cs:Array Value}{t:TypeId}{K:Nat→World→Prop}(h:∀b w',Ext w w'→Blk w' b cs t→w.heap.size≤b→K b w'):doAl (.cells cs t) w K:=⟨h _ _ (pQ _ _) (pS _ _ _) (Nat.le_refl _)⟩
theorem tW{b:Nat}{cs:Array Value}{t:TypeId}(h:Blk w b cs t):Cs w (some (blk b)) cs.toList:=fun i v hv=>⟨_,rfl,h.cell (pU b i) (by simpa using hv)⟩
def OpIn(w:World)(e:OpE):Prop:=InO e.1∧OpRd w e.1 e.2.1 e.2.2∧e.1.pairs.length≤5000∧e.1.keys.length≤5000
def opN(x:POp):OpE:=(x,.slice none 0 0,.slice none 0 0)
theorem aBr{x:POp}(h:InO x)(h1:x.pairs=[])(h2:x.keys=[]):OpIn w (opN x):=by
 obtain ⟨a0,a1,a2,a3,a4,a5,a6,a7,a8,a9,a10,a11,a12,a13,a14⟩:=x
 simp only at h1 h2
 subst h1 h2
 exact ⟨h,⟨⟨none,0,rfl,Nat.le_refl _,cs_nil _ _,fun d h=>(by cases h)⟩,⟨none,0,rfl,Nat.le_refl _,cs_nil _ _,fun d h=>(by cases h)⟩⟩,Nat.zero_le _,Nat.zero_le _⟩
theorem aLn{p:Int}{l:List Pr}{q:OA}{n c:Nat}(hp:0≤p∧p < 256)(hl:InP l)(hn:l.length=n)(hc:n≤c)(hz:n≤5000)(h:Cs w q (prs l)):OpIn w (aCr p l,.slice q n c,.slice none 0 0):=by
 subst hn
 exact ⟨aPo hp hl,⟨⟨q,c,rfl,hc,h,aGl h⟩,⟨none,0,rfl,Nat.le_refl _,cs_nil _ _,fun d h=>(by cases h)⟩⟩,hz,Nat.zero_le _⟩
def kOf(ops:List OpE):List Int:=(ops.map (·.1)).flatMap newK
theorem aDt{ops:List OpE}:∀e∈ops,∀k∈newK e.1,k∈kOf ops:=fun e he k hk=>List.mem_flatMap.2 ⟨e.1,List.mem_map.2 ⟨e,he,rfl⟩,hk⟩
theorem RowAt.rd{own:World→Nat→Prop}{bb:Nat}{v:Value}{n:Nat}{xs:List Value}(h:RowAt own bb w v n xs):∃q c,v=.slice q n c∧Cs w q xs:=by
 obtain ⟨q,c,e,_,h,_⟩:=h
 exact ⟨q,c,e,h⟩
theorem alive_in:InP [((1:Int),(10:Int)),(2,20)]:=by
 intro x hx
 simp only [List.mem_cons,List.not_mem_nil,or_false] at hx
 rcases hx with rfl | rfl <;> exact ⟨by unfold In;decide,by unfold In;decide⟩
def aGc(b:Nat):List OpE:=[(aCr 3 [(1,10),(2,20)],.slice (some (blk b)) 2 2,.slice none 0 0),opN (aIg 1 1 5 3),opN (oKey 22 2 2),opN (aIf 1 2),opN (oList 3)]
def aliveF(a b c d:Nat):List Ent:=
 [(
  ⟨0,false,0,0,2,[1],[]⟩,.slice (some (blk a)) 1 1,.slice none 0 0),(⟨0,true,0,10,0,[2],[]⟩,.slice (some (blk b)) 1 1,.slice none 0 0),(⟨0,true,0,20,0,[3,4],[]⟩,.slice (some (blk c)) 2 2,.slice none 0 0),(⟨320,false,0,0,0,[],[]⟩,.slice none 0 0,.slice none 0 0),
  (⟨0,false,0,0,1,[],[(1,15)]⟩,.slice none 0 0,.slice (some (blk d)) 1 1)]
theorem aDa(h:∀w',Ext w w'→R (.returned (.bool true)) w'):Calls prog 6 #[] w R:=by
 refine sh6_ok ?_
 unfold sh6
 refine pP call13 (aHk fun b w1 e1 hb1 _=>pN ⟨8,0,0,0,0,0,0,0,3,0,0,0,false,some (blk b),2,2,none,0,0,rfl,rK fun b2 w2 e2 X2 _=>?_⟩)
 have hc:Cs w2 (some (blk b2)) ((aGc b).flatMap opC):=tW X2
 have hp:Cs w2 (some (blk b)) (prs [(1,10),(2,20)]):=(tW hb1).ext e2
 have i1:In 1:=by unfold In;omega
 have i2:In 2:=by unfold In;omega
 have i3:In 3:=by unfold In;omega
 have i5:In 5:=by unfold In;omega
 have hin:∀e∈aGc b,OpIn w2 e:=List.forall_mem_cons.2 ⟨aLn (by omega) alive_in rfl (by omega) (by omega) hp,
  List.forall_mem_cons.2 ⟨aBr (aMa i1 i1 i5 (by omega)) rfl rfl,List.forall_mem_cons.2 ⟨aBr (ino_key (by omega) i2 i2) rfl rfl,List.forall_mem_cons.2 ⟨aBr (aLz i1 i2) rfl rfl,List.forall_mem_cons.2 ⟨aBr (ino_list i3) rfl rfl,fun _ h=>(by cases h)⟩⟩⟩⟩⟩
 refine pP call7 (c_prun (ops:=aGc b) (KK:=kOf (aGc b)) (o:=1) (by decide) hc rfl (by omega) hin aDt (by show (kOf (aGc 0)).length≤5000;decide) fun p c Es bb w3 e3 hrun row hrd=>pN ⟨_,_,_,rfl,rK fun b4 w4 e4 X4 _=>rK fun b5 w5 e5 X5 _=>rK fun b6 w6 e6 X6 _=>rK fun b7 w7 e7 X7 _=>rK fun b8 w8 e8 X8 _=>?_⟩)
 have hr2:Es.map (·.1)=yF:=hrun.trans aQf
 have E38:=(((e4.trans e5).trans e6).trans e7).trans e8
 have hz:∀r∈yF,r.new.length≤1000000∧r.pairs.length≤1000000:=by
  intro r hr
  simp only [yF,List.mem_cons,List.not_mem_nil,or_false] at hr
  rcases hr with rfl | rfl | rfl | rfl | rfl <;> simp
 refine pP call17 (aOc (Es:=Es) (Fs:=aliveF b4 b5 b6 b7) (by omega) (by have:=congrArg List.length hr2;simpa [yF] using this) rfl ((Cs.of_row row).ext E38) (tW X8) (hr2.trans rfl) (fun e he=>?_) ?_ fun w9 e9=>pN ⟨_,rfl,h w9 ((((e1.trans e2).trans e3).trans E38).trans e9)⟩)
 ·obtain ⟨q1,c1,en,g1⟩:=(hrd e he).1.rd
  obtain ⟨q2,c2,ep,g2⟩:=(hrd e he).2.rd
  have:=hz e.1 (by rw [←hr2];exact List.mem_map.2 ⟨e,he,rfl⟩)
  exact ⟨q1,c1,q2,c2,en,ep,g1.ext E38,g2.ext E38,this.1,this.2⟩
 ·refine List.forall_mem_cons.2 ⟨⟨some (blk b4),1,none,0,rfl,rfl,(tW X4).ext (((e5.trans e6).trans e7).trans e8),cs_nil _ _,Nat.le_of_ble_eq_true rfl,Nat.le_of_ble_eq_true rfl⟩,List.forall_mem_cons.2 ⟨⟨some (blk b5),1,none,0,rfl,rfl,(tW X5).ext ((e6.trans e7).trans e8),cs_nil _ _,Nat.le_of_ble_eq_true rfl,Nat.le_of_ble_eq_true rfl⟩,
   List.forall_mem_cons.2 ⟨⟨some (blk b6),2,none,0,rfl,rfl,(tW X6).ext (e7.trans e8),cs_nil _ _,Nat.le_of_ble_eq_true rfl,Nat.le_of_ble_eq_true rfl⟩,List.forall_mem_cons.2 ⟨⟨none,0,none,0,rfl,rfl,cs_nil _ _,cs_nil _ _,Nat.le_of_ble_eq_true rfl,Nat.le_of_ble_eq_true rfl⟩,
   List.forall_mem_cons.2 ⟨⟨none,0,some (blk b7),1,rfl,rfl,cs_nil _ _,(tW X7).ext e8,Nat.le_of_ble_eq_true rfl,Nat.le_of_ble_eq_true rfl⟩,fun _ h=>(by cases h)⟩⟩⟩⟩⟩
def szO(e:OpE):Nat:=e.1.pairs.length+e.1.keys.length
theorem szO_le:∀{l:List OpE},(∀e∈l,szO e≤35184372088832)→(l.map szO).sum≤l.length * 35184372088832
 | [],_=>Nat.zero_le _
 | e::l,h=>by
  have h1:=h e (by simp)
  have h2:=szO_le (l:=l) fun x hx=>h x (by simp [hx])
  simp only [List.map_cons,List.sum_cons,List.length_cons]
  omega
theorem c_heavy{l:List OpE}{q:OA}{len cap:Nat}(hI:aJh w q len cap l)(h:∀w',Ext w w'→len≤60→(l.map szO).sum≤300→R (.returned (.bool false)) w')(ht:∀w',Ext w w'→R (.returned (.bool true)) w'):
  Calls prog 10 #[.slice q len cap] w R:=by
 obtain ⟨hn,hl,hO,_⟩:=hI
 refine sh10_ok ?_
 unfold sh10
 refine pO (fun z=>ht w (pR _)) fun z=>?_
 have z60:len≤60:=by have:=of_decide_eq_false z;omega
 refine ⟨fun vs w'=>∃k:Nat,vs=[.int .i64 ((((l.take k).map szO).sum:Nat):Int),.int .i64 (k:Int)]∧k≤len∧Ext w w',fun vs _=>match vs with | [_,.int _ i]=>len - i.toNat | _=>0,⟨0,rfl,Nat.zero_le _,pR _⟩,?_⟩
 rintro n_ i_ _ w2 ⟨k,hv,hk,e⟩
 simp only [List.cons.injEq,Value.int.injEq,true_and,and_true] at hv
 obtain ⟨rfl,rfl⟩:=hv
 have hsz:∀e∈l,szO e≤35184372088832:=fun e he=>by have:=(hO e he).2.2;unfold szO;omega
 refine pO (fun z=>?_) fun z=>?_
 ·have z:k < len:=by have:=of_decide_eq_true z;omega
  have hkl:k < l.length:=by omega
  have e2:=e.trans (pT w2)
  have hs:=szO_le (l:=l.take (k+1)) fun x hx=>hsz x (List.mem_of_mem_take hx)
  have ht1:((l.take (k+1)).map szO).sum=((l.take k).map szO).sum+szO l[k]:=by
   rw [←List.take_append_getElem hkl,List.map_append,List.sum_append];simp
  have hlt:(l.take (k+1)).length≤60:=by rw [List.length_take];omega
  refine ⟨fun w'=>Ext w2.drew w',pR _,?_⟩
  have O:=hO l[k] (List.getElem_mem hkl)
  refine uC (ec:=opC) (s:=15) (C:=fun w'=>Ext w2.drew w') (fun _=>rfl) (by omega) (fun w' e'=>hl.ext (e2.trans e')) (pR _) hn (k:=k) rfl z fun a3 r3=>?_
  obtain ⟨⟨pp,pc,ep,_⟩,⟨kp,kc,ek,_⟩⟩:=O.2.1
  refine ⟨pp,l[k].1.pairs.length,pc,fun w' e'=>by rw [←ep];exact r3 w' e' 13 _ rfl,uC (ec:=opC) (s:=15) (C:=fun w'=>Ext w2.drew w') (fun _=>rfl) (by omega) (fun w' e'=>hl.ext (e2.trans e')) (pR _) hn (k:=k) rfl z fun a4 r4=>⟨kp,l[k].1.keys.length,kc,fun w' e'=>by rw [←ek];exact r4 w' e' 14 _ rfl,?_⟩⟩
  rw [pW z (by omega)]
  have hszk:szO l[k]=l[k].1.pairs.length+l[k].1.keys.length:=rfl
  rw [qB (x:=_+((l[k].1.pairs.length:Nat):Int)) (by omega) (by omega),qB (by omega) (by omega)]
  refine ⟨⟨k+1,?_,by omega,e2⟩,?_⟩
  ·rw [ht1,hszk]
   simp [Int.add_assoc]
  ·show len - ((k+1:Nat):Int).toNat < len - (k:Int).toNat
   omega
 ·have z:k=len:=by have:=of_decide_eq_false z;omega
  rw [z,←hn,List.take_length]
  by_cases h3:300 < (l.map szO).sum
  ·rw [show decide ((((l.map szO).sum:Nat):Int) > 300)=true by rw [decide_eq_true_eq];omega];exact ht w2 e
  ·rw [show decide ((((l.map szO).sum:Nat):Int) > 300)=false by rw [decide_eq_false_iff_not];omega];exact h w2 e z60 (by omega)
theorem sz_mem{e:OpE}:∀{l:List OpE},e∈l→szO e≤(l.map szO).sum
 | x::l,h=>by
  simp only [List.map_cons,List.sum_cons]
  rcases List.mem_cons.1 h with rfl | h
  ·omega
  ·have:=sz_mem h;omega
theorem aNr:∀ops:List OpE,(kOf ops).length=ops.length+(ops.map szO).sum
 | []=>rfl
 | e::l=>by
  have:=aNr l
  have h:kOf (e::l)=newK e.1++kOf l:=rfl
  rw [h,List.length_append,this]
  simp only [newK,List.length_cons,List.length_append,List.length_map,List.map_cons,List.sum_cons,szO]
  omega
theorem stay_kof{ops:List OpE}(h:ops.length≤60)(hs:(ops.map szO).sum≤300):(kOf ops).length≤360:=by rw [aNr];omega
section
variable {P F F' Q:Nat→Prop} {bb:Nat} {o:Int} {KK:List Int} {L:Rows} {ys:List Value} {w0 w w':World}
end
abbrev ob(p:OA)(n c:Nat)(j:Nat):Prop:=(Value.slice p n c).ownBlock=some j
end Go.Proofs.YtmdboekndjlmgaaGreat
namespace Go.Proofs.YtmdboekndjlmgaaGreat.Rb
open Go Go.Sh Go.RowKit Tryz
variable {w:World}{R:EW}
def BkOwn(bb:Nat)(w:World)(k:Nat):Prop:=k=bb∨∃a n c,w.cell? ⟨bb,1,none⟩=some (.slice (some a) n c)∧a.block=k
theorem tP{bb:Nat}{u:Value}{p:OA}{n c:Nat}{t:TypeId}(hb:Blk w bb #[u,.slice p n c] t)(k:Nat):BkOwn bb w k↔k=bb∨(Value.slice p n c).ownBlock=some k:=by
 unfold BkOwn
 rw [hb.cell (i:=1) rfl rfl,aIc]
 constructor
 ·rintro (h | ⟨a,n',c',h,e⟩)
  ·exact .inl h
  ·injection h with h
   injection h with h1 h2 h3
   exact .inr ⟨a,h1,e⟩
 ·rintro (h | ⟨a,h,e⟩)
  ·exact .inl h
  ·subst h
   exact .inr ⟨a,n,c,rfl,e⟩
structure BookN (P:Nat→Prop) (w:World) (bb:Nat) (o:Int) (L:Rows):Prop where
 ex:∃(p:OA) (c:Nat) (vs:List Value),Blk w bb #[.int .u8 o,.slice p L.length c] 57∧(w.ownsRow 0 22 1 (.slice p L.length c) L.length vs∧(Value.slice p L.length c).ownBlock≠some bb)∧
  ∀(i:Nat) (l:List Pr),L[i]?=some l→∃v,vs[i]?=some v∧RowAt (BkOwn bb) bb w v l.length (prs l)∧uW P v
section
variable {P:Nat→Prop} {w w':World} {bb:Nat} {o:Int} {L:Rows}
theorem BookN.top(h:BookN P w bb o L):BookN (fun k=>P k∧k < w.heap.size) w bb o L:=by
 obtain ⟨p,c,vs,hb,hr,hv⟩:=h.ex
 refine ⟨p,c,vs,hb,hr,fun i l hl=>?_⟩
 obtain ⟨v,h1,h2,h4⟩:=hv i l hl
 obtain ⟨q,c',rfl,g1,g2,g3⟩:=h2
 exact ⟨_,h1,⟨q,c',rfl,g1,g2,g3⟩,fun a n c e hz=>⟨h4 a n c e hz,by cases e;exact (g3 a rfl (aEq hz)).2.2⟩⟩
theorem BookN.up(h:BookN P w bb o L){Q:Nat→Prop}(hM:∀k,P k→Q k):BookN Q w bb o L:=by
 obtain ⟨p,c,vs,hb,hr,hv⟩:=h.ex
 refine ⟨p,c,vs,hb,hr,fun i l hl=>?_⟩
 obtain ⟨v,h1,h2,h3⟩:=hv i l hl
 exact ⟨_,h1,h2,fun a n c e hz=>hM _ (h3 a n c e hz)⟩
theorem BookN.lt(h:BookN P w bb o L){k:Nat}(hk:BkOwn bb w k):k < w.heap.size:=by
 obtain ⟨p,c,vs,hb,hr,_⟩:=h.ex
 rcases (tP hb k).1 hk with rfl | hk
 ·exact hb.lt
 ·exact (hr.1.lt k hk).2
theorem BookN.own(h:BookN P w bb o L)(hk:∀k,BkOwn bb w k→w'.heap[k]?=w.heap[k]?):∀k,BkOwn bb w' k↔BkOwn bb w k:=fun k=>by
 obtain ⟨p,c,vs,hb,hr,_⟩:=h.ex
 have hb':Blk w' bb #[.int .u8 o,.slice p L.length c] 57:=by unfold Blk;rw [hk bb (.inl rfl)];exact hb
 rw [tP hb',tP hb]
theorem BookN.keep(h:BookN P w bb o L)(hk:∀k,BkOwn bb w k∨(P k∧k < w.heap.size)→w'.heap[k]?=w.heap[k]?)(hs:w.heap.size≤w'.heap.size):BookN P w' bb o L:=by
 have ho:=h.own (w':=w') fun k hk'=>hk k (.inl hk')
 obtain ⟨p,c,vs,hb,hr,hv⟩:=h.ex
 have hb':Blk w' bb #[.int .u8 o,.slice p L.length c] 57:=by unfold Blk;rw [hk bb (.inl (.inl rfl))];exact hb
 refine ⟨p,c,vs,hb',⟨vT hr.1 fun b hbb=>hk b (.inl ((tP hb b).2 (.inr hbb))),hr.2⟩,fun i l hl=>?_⟩
 obtain ⟨v,h1,⟨q,c',rfl,g1,g2,g3⟩,h3⟩:=hv i l hl
 refine ⟨_,h1,⟨q,c',rfl,g1,fun j u hu=>?_,fun a ha hz=>⟨fun hx=>(g3 a ha hz).1 ((ho _).1 hx),(g3 a ha hz).2.1,Nat.lt_of_lt_of_le (g3 a ha hz).2.2 hs⟩⟩,h3⟩
 obtain ⟨a,ha,hc⟩:=g2 j u hu
 subst ha
 refine ⟨a,rfl,?_⟩
 rw [World.cell?_of_block (hk _ (.inr ⟨by rw [qV];exact h3 a _ _ rfl (fun e=>by rw [List.length_eq_zero_iff.1 e] at hu;simp [prs] at hu),World.block_lt_of_cell? _ _ hc⟩))]
 exact hc
theorem BookN.st{r:Option Nat}(h:BookN P w bb o L)(g:w.grownBy w' r)(hr:∀b,r=some b→¬P b∧¬BkOwn bb w b):BookN P w' bb o L∧∀k,BkOwn bb w' k↔BkOwn bb w k:=by
 have hk:∀k,BkOwn bb w k∨(P k∧k < w.heap.size)→w'.heap[k]?=w.heap[k]?:=fun k hk=>by
  rcases hk with hk | ⟨hk,hs⟩
  ·exact g.block k (h.lt hk) fun e=>(hr k e.symm).2 hk
  ·exact g.block k hs fun e=>(hr k e.symm).1 hk
 exact ⟨h.keep hk g.size,h.own fun k h=>hk k (.inl h)⟩
theorem BookN.ext(h:BookN P w bb o L)(e:Ext w w'):BookN P w' bb o L:=h.keep (fun k hk=>e.block k (hk.elim h.lt And.right)) e.size
theorem BookN.chg{S:Nat→Prop}(h:BookN P w bb o L)(e:Ext w w'):Chg (BkOwn bb) S w w':=
 ⟨e.os,e.tape,e.output,e.size,fun k hk _ _=>e.block k hk,fun k _ h1 h2=>h1 ((h.own (fun j hj=>e.block j (h.lt hj)) k).1 h2)⟩
theorem BookN.own_ext(h:BookN P w bb o L)(e:Ext w w')(k:Nat):BkOwn bb w' k↔BkOwn bb w k:=h.own (fun j hj=>e.block j (h.lt hj)) k
theorem BookN.ord(h:BookN P w bb o L):w.cell? ⟨bb,0,none⟩=some (.int .u8 o):=by
 obtain ⟨p,c,vs,hb,_⟩:=h.ex
 exact hb.cell (i:=0) rfl rfl
end
theorem aMq{P:Nat→Prop}{bb:Nat}{o:Int}{L:Rows}{l:List Pr}{v:Value}{nb:Nat}{p:OA}{n c:Nat}{u:Value}{t:TypeId}{bs:Array Bool}{K:World→Prop}{Kp:List PanicEntry→World→Prop}(hB:BookN P w bb o L)(hl:L.length≤5000)
  (hx:Cs w (some (blk nb)) [v]) (hv:RowAt (BkOwn bb) bb w v l.length (prs l)) (hvN:uW P v) (hb:Blk w bb #[u,.slice p n c] t) (h:∀w',BookN P w' bb o (L++[l])→Chg (BkOwn bb) (fun _=>False) w w'→K w') :
  doGo prog (.builtin .append #[55,55] 55 bs) #[.slice p n c,.slice (some (blk nb)) 1 1] w (retS (fun v' w'=>∃(a:OA) (b d:Nat),v'=(.slice a b d:Value)∧(∃q:Addr,(some (blk bb):OA)=some q∧doSt ((q.add 1).add 0) (.slice a b d) w' K)) Kp):=by
 obtain ⟨p0,c0,vs,hb0,hr,hvs⟩:=hB.ex
 obtain ⟨_,e⟩:=aGb hb hb0
 injection e with e1 e2 e3
 subst e1 e2 e3
 obtain ⟨pv,cv,rfl,hnc,hcv,hav⟩:=hv
 refine rR elV hr.1 hx (by simp) (by simp [Value.oneCell']) (by simp only [maxLen];omega) (by omega) (Nat.zero_le _) fun p' c' w' h2 g n10=>pN ⟨p',_,c',rfl,_,rfl,?_⟩
 have hne:some bb≠(Value.slice p L.length c).ownBlock:=fun e=>hr.2 e.symm
 have hn2:(Value.slice p' (L.length+1) c').ownBlock≠some bb:=fun e=>by
  rcases n10 bb e with h | h
  ·exact hr.2 h
  ·have:=hb0.lt;omega
 have hb':=hb0.grown g hne
 refine qA hb' (i:=1) rfl (by simp) fun w'' h3 g3=>?_
 have h3:Blk w'' bb #[.int .u8 o,.slice p' (L.length+1) c'] 57:=h3
 have hr3:=h2.kept g3 (.inr hn2)
 have own3:∀k,k < w.heap.size→¬BkOwn bb w k→¬BkOwn bb w'' k:=fun k hk ho hk'=>by
  rcases (tP h3 k).1 hk' with rfl | hk'
  ·exact ho (.inl rfl)
  ·rcases n10 k hk' with h | h
   ·exact ho ((tP hb0 k).2 (.inr h))
   ·omega
 have hc:Chg (BkOwn bb) (fun _=>False) w w'':=⟨g3.os.trans g.os,g3.tape.trans g.tape,g3.output.trans g.output,Nat.le_trans g.size g3.size,fun k hk ho _=>by
  rw [g3.block k (Nat.lt_of_lt_of_le hk g.size) (fun e=>ho (by cases e;exact .inl rfl)),g.block k hk fun e=>ho ((tP hb0 k).2 (.inr e.symm))],own3⟩
 have hlen:vs.length=L.length:=by have:=hr.1.1;simpa using this
 refine h w'' ⟨p',c',vs++[.slice pv l.length cv],by rw [List.length_append];exact h3,by rw [List.length_append];exact ⟨hr3,hn2⟩,fun i m hm=>?_⟩ hc
 by_cases hi:i < L.length
 ·rw [List.getElem?_append_left hi] at hm
  obtain ⟨v,hv1,hv2,hv3⟩:=hvs i m hm
  exact ⟨v,by rw [List.getElem?_append_left (by omega)];exact hv1,hv2.chg (chg0 hc),hv3⟩
 ·rw [List.getElem?_append_right (by omega)] at hm
  have hi0:i - L.length=0:=by
   rcases Nat.eq_zero_or_pos (i - L.length) with h | h
   ·exact h
   ·rw [List.getElem?_eq_none (by simp;omega)] at hm;cases hm
  rw [hi0] at hm
  obtain rfl:l=m:=by simpa using hm
  refine ⟨_,by rw [List.getElem?_append_right (by omega),show i - vs.length=0 by omega];rfl,?_⟩
  exact ⟨RowAt.chg ⟨pv,cv,rfl,hnc,hcv,hav⟩ (chg0 hc),hvN⟩
structure RepAt (N bb:Nat) (w:World) (v:Value) (r:Rep):Prop where
 ex:∃nv pv,v=.agg #[.int .i64 r.err,.bool r.is,.int .i64 r.key,.int .i64 r.val,.int .i64 r.n,nv,pv]∧RowAt (BkOwn bb) bb w nv r.new.length (ints r.new)∧RowAt (BkOwn bb) bb w pv r.pairs.length (prs r.pairs)∧AbN N nv∧AbN N pv
theorem aLi{P:Nat→Prop}{bb:Nat}{w w':World}{o:Int}{L:Rows}{v:Value}{n:Nat}{xs:List Value}(h:RowAt (BkOwn bb) bb w v n xs)(hB:BookN P w bb o L)(e:Ext w w'):RowAt (BkOwn bb) bb w' v n xs:=h.chg (hB.chg e)
theorem uQ{N bb:Nat}{r:Rep}(h1:r.new=[])(h2:r.pairs=[]):RepAt N bb w (rep0 r) r:=
 ⟨_,_,rfl,by rw [h1];exact rP _ _ _,by rw [h2];exact rP _ _ _,fun a n c e=>(by cases e),fun a n c e=>(by cases e)⟩
theorem RepAt.st{N bb:Nat}{w w':World}{v:Value}{r:Rep}{b:Nat}(h:RepAt N bb w v r)(g:w.grownBy w' (some b))(hb:b < N)(ho:∀k,BkOwn bb w' k→BkOwn bb w k):RepAt N bb w' v r:=by
 obtain ⟨nv,pv,rfl,⟨q1,c1,rfl,a1,a2,a3⟩,⟨q2,c2,rfl,b1,b2,b3⟩,n1,n2⟩:=h.ex
 refine ⟨_,_,rfl,⟨q1,c1,rfl,a1,xY a2 g fun a ha hz=>?_,fun a ha hz=>⟨fun hk=>(a3 a ha hz).1 (ho _ hk),(a3 a ha hz).2.1,Nat.lt_of_lt_of_le (a3 a ha hz).2.2 g.size⟩⟩,⟨q2,c2,rfl,b1,xY b2 g fun a ha hz=>?_,fun a ha hz=>⟨fun hk=>(b3 a ha hz).1 (ho _ hk),(b3 a ha hz).2.1,Nat.lt_of_lt_of_le (b3 a ha hz).2.2 g.size⟩⟩,n1,n2⟩
 ·have:=n1 a _ _ (by rw [ha]);omega
 ·have:=n2 a _ _ (by rw [ha]);omega
theorem RepAt.mono{N M bb:Nat}{v:Value}{r:Rep}(h:RepAt N bb w v r)(hM:M≤N):RepAt M bb w v r:=by
 obtain ⟨nv,pv,e,h1,h2,n1,n2⟩:=h.ex
 exact ⟨nv,pv,e,h1,h2,fun a n c e=>Nat.le_trans hM (n1 a n c e),fun a n c e=>Nat.le_trans hM (n2 a n c e)⟩
theorem BookN.ix{P:Nat→Prop}{bb:Nat}{o m:Int}{L:Rows}(hB:BookN P w bb o L):∃p c,Blk w bb #[.int .u8 o,.slice p L.length c] 57∧(qM L m=true→∃(a:Addr) (q:OA) (d:Nat),p=some a∧0≤m∧m < (L.length:Int)∧
  w.cell? (a.add (m.toNat * 1))=some (.slice q (atL L m).length d)∧RowAt (BkOwn bb) bb w (.slice q (atL L m).length d) (atL L m).length (prs (atL L m))∧uW P (.slice q (atL L m).length d)):=by
 obtain ⟨p,c,vs,hb,hr,hv⟩:=hB.ex
 refine ⟨p,c,hb,fun ht=>?_⟩
 have hm:0≤m∧m < (L.length:Int):=of_decide_eq_true ht
 have hi:m.toNat < L.length:=by omega
 have ea:L[m.toNat]?=some (atL L m):=by
  unfold atL
  rw [List.getD_eq_getElem?_getD,List.getElem?_eq_getElem hi]
  rfl
 obtain ⟨v,h1,h2,h3⟩:=hv _ _ ea
 obtain ⟨a,ha,hc⟩:=Cs.of_row hr.1 _ _ h1
 obtain ⟨q,d,rfl,g⟩:=h2
 exact ⟨a,q,d,ha,hm.1,hm.2,by rw [Nat.mul_one];exact hc,⟨q,d,rfl,g⟩,h3⟩
theorem aFg(x:Int):ints [x]=[.int .i64 x]:=rfl
theorem zW{P:Nat→Prop}{rb:Nat}{o:Int}{L:Rows}{l:List Pr}{q:OA}{n c:Nat}(hB:BookN P w rb o L)(hL:L.length≤4500)(hv:RowAt (BkOwn rb) rb w (.slice q n c) l.length (prs l))(hvN:uW P (.slice q n c))
  (h:∀b w',BookN P w' rb o (L++[l])→Chg (BkOwn rb) (fun _=>False) w w'→Blk w' b #[.int .i64 (L.length:Int)] 3→w.heap.size≤b→¬BkOwn rb w' b→R (.returned (.slice (some (blk b)) 1 1)) w') :
  Calls prog 35 #[.pointer (some (blk rb)),.slice q n c] w R:=by
 refine sh35_ok ?_
 unfold sh35
 have hv0:=hv
 obtain ⟨q0,c0,e0,_⟩:=hv
 injection e0 with e1 e2 e3
 subst e2
 obtain ⟨p,cc,vs,hb,_⟩:=hB.ex
 refine ⟨_,rfl,_,_,_,hb.cell (i:=1) rfl rfl,rK fun b2 w2 e2 X2 l2=>?_⟩
 have B2:=hB.ext e2
 refine aMq (l:=l) B2 (by omega) (tW X2) (hv0.chg (hB.chg e2)) hvN (hb.ext e2) fun w3 B3 c3=>?_
 obtain ⟨p3,cc3,vs3,hb3,_⟩:=B3.ex
 refine ⟨_,rfl,_,_,_,hb3.cell (i:=1) rfl rfl,rK fun b4 w4 e4 X4 l4=>?_⟩
 have e:IntKind.wrap .i64 ((((L++[l]).length:Nat):Int) - 1)=(L.length:Int):=by
  rw [List.length_append,List.length_cons,List.length_nil,qB (by omega) (by omega)];omega
 rw [e] at X4
 have s2:=e2.size
 have s3:=c3.size
 exact h b4 w4 (B3.ext e4) (((hB.chg e2).trans c3).trans (B3.chg e4)) X4 (by omega) fun hk=>by have:=B3.lt ((B3.own_ext e4 b4).1 hk);omega
theorem sS{P:Nat→Prop}{rb:Nat}{o:Int}{L:Rows}{l:List Pr}{q:OA}{n c:Nat}(hB:BookN P w rb o L)(hP:∀k,w.heap.size≤k→P k)(hL:L.length≤4500)(hv:RowAt (BkOwn rb) rb w (.slice q n c) l.length (prs l))(hvN:uW P (.slice q n c))
  (h:∀v w',RepAt w.heap.size rb w' v (countP L l).1→BookN P w' rb o (countP L l).2→Chg (BkOwn rb) (fun _=>False) w w'→R (.returned v) w') :
  Calls prog 41 #[.pointer (some (blk rb)),.slice q n c] w R:=by
 refine sh41_ok ?_
 unfold sh41
 refine rK fun b2 w2 e2 X2 l2=>?_
 have hn:n=l.length:=by obtain ⟨_,_,e0,_⟩:=hv;injection e0
 have B2:BookN (fun k=>P k∧k < w.heap.size) w2 rb o L:=hB.top.ext e2
 have own2:=hB.own_ext e2
 have nb2:¬BkOwn rb w2 b2:=fun hk=>by have:=hB.lt ((own2 _).1 hk);omega
 have hvN2:uW (fun k=>P k∧k < w.heap.size) (.slice q n c):=fun a m d e hz=>⟨hvN a m d e hz,by
  obtain ⟨q0,c0,e0,_,_,hq⟩:=hv
  rw [e] at e0
  injection e0 with e1 e2
  exact (hq a e1.symm (aEq (by omega))).2.2⟩
 refine pP call35 (zW B2 hL (hv.chg (hB.chg e2)) hvN2 fun b3 w3 B3 c3 X3 l3 n3=>pN ⟨_,_,_,rfl,?_⟩)
 have Y3:=c3.blk X2 nb2 fun h=>h
 have s2:=e2.size
 have s3:=c3.size
 have X2lt:=X2.lt
 have nb3:¬BkOwn rb w3 b2:=c3.out b2 X2lt nb2
 refine ep7 Y3 fun w4 g4=>?_
 have B4:=B3.st g4 fun b hb=>by cases hb;exact ⟨fun hp=>by have:=hp.2;omega,nb3⟩
 have c4:Chg (BkOwn rb) (fun _=>False) w w4:=zS ((hB.chg e2).trans c3) g4 (fun b hb=>by cases hb;exact l2) fun k hk=>(B4.2 k).1 hk
 have X4:Blk w4 b3 #[.int .i64 (L.length:Int)] 3:=X3.grown g4 (pV (by omega))
 refine h _ w4 ⟨_,_,by rw [hn];rfl,⟨_,1,rfl,by show 1≤1;omega,tW X4,fun a ha _=>?_⟩,rP _ _ _,fun a m d e=>?_,fun a m d e=>by cases e⟩ (B4.1.up fun k hk=>hk.1) c4
 ·cases ha
  exact ⟨fun hk=>n3 ((B4.2 _).1 hk),fun e=>by have:=B3.lt (.inl rfl);have:=hB.lt (.inl rfl);simp only at e;omega,X4.lt⟩
 ·cases e;simp only;omega
theorem c_of{x:Pr}{is:Bool}(h:∀w',Ext w w'→R (.returned (.agg #[.int .i64 (qG x is).err,.bool (qG x is).is,.int .i64 (qG x is).key,.int .i64 (qG x is).val,.int .i64 (qG x is).n,.slice none 0 0,.slice none 0 0])) w'):
  Calls prog 37 #[.agg #[.int .i64 x.1,.int .i64 x.2],.bool is] w R:=by
 refine sh37_ok ?_
 unfold sh37
 refine rK fun b2 w2 e2 X2 l2=>rK fun b3 w3 e3 X3 l3=>?_
 have X2':=X2.ext e3
 have s2:=e2.size
 cases is with
 | false=>
  refine pZ rfl (ep7 X3 fun w4 g4=>?_)
  exact h w4 ((e2.trans e3).st g4 (by omega))
 | true=>
  refine pY rfl ⟨_,X2'.cell (i:=0) (pU _ _) rfl,_,X2'.cell (i:=1) (pU _ _) rfl,ep7 X3 fun w4 g4=>?_⟩
  exact h w4 ((e2.trans e3).st g4 (by omega))
theorem yQ{P:Nat→Prop}{rb:Nat}{o m:Int}{L:Rows}(hB:BookN P w rb o L)(h:R (.returned (.bool (qM L m))) w):Calls prog 85 #[.pointer (some (blk rb)),.int .i64 m] w R:=by
 refine sh85_ok ?_
 unfold sh85
 obtain ⟨p,cc,vs,hb,_⟩:=hB.ex
 intro K5
 refine pO (fun z=>?_) fun z=>?_
 ·refine ⟨_,rfl,_,_,_,hb.cell (i:=1) rfl rfl,?_⟩
  simp -zeta -zetaHave only [K5]
  have z:0≤m:=by have:=of_decide_eq_true z;omega
  have e:decide (m < ((L.length:Nat):Int))=qM L m:=by unfold qM;simp [z]
  rw [e];exact h
 ·have z:¬0≤m:=by have:=of_decide_eq_false z;omega
  have e:qM L m=false:=by unfold qM;simp [z]
  rw [e] at h;exact h
theorem c_makes{d:Int}(h:R (.returned (.int .i64 (mkN d:Nat))) w):Calls prog 86 #[.int .u8 d] w R:=by
 refine sh86_ok ?_
 unfold sh86
 intro K4
 unfold mkN at h
 refine pO (fun z=>?_) fun z1=>?_
 ·obtain rfl:d=1:=by simpa using z
  exact h
 refine pO (fun z=>?_) fun z2=>?_
 ·obtain rfl:d=2:=by simpa using z
  exact h
 refine pO (fun z=>?_) fun z8=>?_
 ·obtain rfl:d=8:=by simpa using z
  exact h
 refine pO (fun z=>?_) fun z9=>?_
 ·obtain rfl:d=9:=by simpa using z
  exact h
 refine pO (fun z=>?_) fun z10=>?_
 ·obtain rfl:d=10:=by simpa using z
  exact h
 refine pO (fun z=>?_) fun z11=>?_
 ·obtain rfl:d=11:=by simpa using z
  exact h
 refine pO (fun z=>?_) fun z12=>?_
 ·obtain rfl:d=12:=by simpa using z
  exact h
 refine pO (fun z=>?_) fun z13=>?_
 ·obtain rfl:d=13:=by simpa using z
  exact h
 refine pO (fun z=>?_) fun z14=>?_
 ·obtain rfl:d=14:=by simpa using z
  exact h
 refine pO (fun z=>?_) fun z15=>?_
 ·obtain rfl:d=15:=by simpa using z
  exact h
 simp -zeta -zetaHave only [K4]
 refine pO (fun z=>?_) fun z18=>?_
 ·obtain rfl:d=18:=by simpa using z
  exact h
 refine pO (fun z=>?_) fun z22=>?_
 ·obtain rfl:d=22:=by simpa using z
  exact h
 simp only [beq_eq_false_iff_ne,ne_eq] at z1 z2 z8 z9 z10 z11 z12 z13 z14 z15 z18 z22
 rw [if_neg z22,if_neg (by omega)] at h
 exact h
end Go.Proofs.YtmdboekndjlmgaaGreat.Rb
namespace Go.Proofs.YtmdboekndjlmgaaGreat
open Go Go.Sh Go.RowKit Tryz
variable {w:World}{R:EW}
theorem st11{b:Nat}{a0 a1 a2 a3 a4 a5 a6 a7 a8 a9 a10 v0 v1 v2 v3 v4 v5 v6 v7 v8 v9 v10:Value}{t:TypeId}{K:World→Prop}(h:Blk w b #[a0,a1,a2,a3,a4,a5,a6,a7,a8,a9,a10] t)(k:∀w',Blk w' b #[v0,v1,v2,v3,v4,v5,v6,v7,v8,v9,v10] t→w.grownBy w' (some b)→K w'):
  doSt ((blk b).add 0) v0 w fun w1=>doSt ((blk b).add 1) v1 w1 fun w2=>doSt ((blk b).add 2) v2 w2 fun w3=>doSt ((blk b).add 3) v3 w3 fun w4=>doSt ((blk b).add 4) v4 w4 fun w5=>doSt ((blk b).add 5) v5 w5 fun w6=>doSt ((blk b).add 6) v6 w6 fun w7=>doSt ((blk b).add 7) v7 w7 fun w8=>doSt ((blk b).add 8) v8 w8 fun w9=>doSt ((blk b).add 9) v9 w9 fun w10=>doSt ((blk b).add 10) v10 w10 fun w11=>K w11:=by
 refine qA h (i:=0) rfl (by simp) fun w1 h1 g1=>?_
 have h1:Blk w1 b #[v0,a1,a2,a3,a4,a5,a6,a7,a8,a9,a10] t:=h1
 refine qA h1 (i:=1) rfl (by simp) fun w2 h2 g2=>?_
 have h2:Blk w2 b #[v0,v1,a2,a3,a4,a5,a6,a7,a8,a9,a10] t:=h2
 refine qA h2 (i:=2) rfl (by simp) fun w3 h3 g3=>?_
 have h3:Blk w3 b #[v0,v1,v2,a3,a4,a5,a6,a7,a8,a9,a10] t:=h3
 refine qA h3 (i:=3) rfl (by simp) fun w4 h4 g4=>?_
 have h4:Blk w4 b #[v0,v1,v2,v3,a4,a5,a6,a7,a8,a9,a10] t:=h4
 refine qA h4 (i:=4) rfl (by simp) fun w5 h5 g5=>?_
 have h5:Blk w5 b #[v0,v1,v2,v3,v4,a5,a6,a7,a8,a9,a10] t:=h5
 refine qA h5 (i:=5) rfl (by simp) fun w6 h6 g6=>?_
 have h6:Blk w6 b #[v0,v1,v2,v3,v4,v5,a6,a7,a8,a9,a10] t:=h6
 refine qA h6 (i:=6) rfl (by simp) fun w7 h7 g7=>?_
 have h7:Blk w7 b #[v0,v1,v2,v3,v4,v5,v6,a7,a8,a9,a10] t:=h7
 refine qA h7 (i:=7) rfl (by simp) fun w8 h8 g8=>?_
 have h8:Blk w8 b #[v0,v1,v2,v3,v4,v5,v6,v7,a8,a9,a10] t:=h8
 refine qA h8 (i:=8) rfl (by simp) fun w9 h9 g9=>?_
 have h9:Blk w9 b #[v0,v1,v2,v3,v4,v5,v6,v7,v8,a9,a10] t:=h9
 refine qA h9 (i:=9) rfl (by simp) fun w10 h10 g10=>?_
 have h10:Blk w10 b #[v0,v1,v2,v3,v4,v5,v6,v7,v8,v9,a10] t:=h10
 refine qA h10 (i:=10) rfl (by simp) fun w11 h11 g11=>?_
 have h11:Blk w11 b #[v0,v1,v2,v3,v4,v5,v6,v7,v8,v9,v10] t:=h11
 exact k w11 h11 (pX (pX (pX (pX (pX (pX (pX (pX (pX (pX (g1) g2) g3) g4) g5) g6) g7) g8) g9) g10) g11)
theorem ep11{b:Nat}{a0 a1 a2 a3 a4 a5 a6 a7 a8 a9 a10:Value}{t:TypeId}{b0 b1 b2 b3 b4 b5 b6 b7 b8 b9 b10 is:Bool}(h:Blk w b #[a0,a1,a2,a3,a4,a5,a6,a7,a8,a9,a10] t)(k:∀w',w.grownBy w' (some b)→R (.returned (.tuple #[.agg #[.bool b0,.bool b1,.bool b2,.bool b3,.bool b4,.bool b5,.bool b6,.bool b7,.bool b8,.bool b9,.bool b10],.bool is])) w'):
  doSt ((blk b).add 0) (.bool b0) w fun w1=>doSt ((blk b).add 1) (.bool b1) w1 fun w2=>doSt ((blk b).add 2) (.bool b2) w2 fun w3=>doSt ((blk b).add 3) (.bool b3) w3 fun w4=>doSt ((blk b).add 4) (.bool b4) w4 fun w5=>doSt ((blk b).add 5) (.bool b5) w5 fun w6=>doSt ((blk b).add 6) (.bool b6) w6 fun w7=>doSt ((blk b).add 7) (.bool b7) w7 fun w8=>doSt ((blk b).add 8) (.bool b8) w8 fun w9=>doSt ((blk b).add 9) (.bool b9) w9 fun w10=>doSt ((blk b).add 10) (.bool b10) w10 fun w11=>∃(y0:Bool),w11.cell? ((blk b).add 0)=some (.bool y0)∧(∃(y1:Bool),w11.cell? ((blk b).add 1)=some (.bool y1)∧(∃(y2:Bool),w11.cell? ((blk b).add 2)=some (.bool y2)∧(∃(y3:Bool),w11.cell? ((blk b).add 3)=some (.bool y3)∧(∃(y4:Bool),w11.cell? ((blk b).add 4)=some (.bool y4)∧(∃(y5:Bool),w11.cell? ((blk b).add 5)=some (.bool y5)∧(∃(y6:Bool),w11.cell? ((blk b).add 6)=some (.bool y6)∧(∃(y7:Bool),w11.cell? ((blk b).add 7)=some (.bool y7)∧(∃(y8:Bool),w11.cell? ((blk b).add 8)=some (.bool y8)∧(∃(y9:Bool),w11.cell? ((blk b).add 9)=some (.bool y9)∧(∃(y10:Bool),w11.cell? ((blk b).add 10)=some (.bool y10)∧(R (.returned (.tuple #[.agg #[.bool y0,.bool y1,.bool y2,.bool y3,.bool y4,.bool y5,.bool y6,.bool y7,.bool y8,.bool y9,.bool y10],.bool is])) w11))))))))))):=by
 refine st11 h fun w' H g=>?_
 exact ⟨_,H.cell (i:=0) rfl rfl,_,H.cell (i:=1) rfl rfl,_,H.cell (i:=2) rfl rfl,_,H.cell (i:=3) rfl rfl,_,H.cell (i:=4) rfl rfl,_,H.cell (i:=5) rfl rfl,_,H.cell (i:=6) rfl rfl,_,H.cell (i:=7) rfl rfl,_,H.cell (i:=8) rfl rfl,_,H.cell (i:=9) rfl rfl,_,H.cell (i:=10) rfl rfl,k w' g⟩
theorem aLm{d:Int}(h:¬(1≤d∧d≤22)):partsOf d=[]:=by
 unfold partsOf
 rw [if_neg (by omega),if_neg (by omega),if_neg (by omega),if_neg (by omega),if_neg (by omega),if_neg (by omega),if_neg (by omega),if_neg (by omega),if_neg (by omega),if_neg (by omega),if_neg (by omega)]
theorem aOh{d:Int}(h:∀w',Ext w w'→R (.returned (.tuple #[.agg #[.bool (hasP .a d),.bool (hasP .b d),.bool (hasP .key d),.bool (hasP .val d),.bool (hasP .lo d),.bool (hasP .hi d),.bool (hasP .n d),.bool (hasP .pol d),.bool (hasP .pred d),.bool (hasP .pairs d),.bool (hasP .keys d)],.bool (decide (1≤d∧d≤22))])) w'):Calls prog 84 #[.int .u8 d] w R:=by
 refine sh84_ok ?_
 unfold sh84
 refine rK fun b2 w2 e2 X2 l2=>?_
 refine pO (fun z=>?_) fun z1=>?_
 ·obtain rfl:d=1:=by simpa using z
  exact ep11 X2 fun w3 g3=>h w3 (e2.st g3 l2)
 intro Kg2
 refine pO (fun z=>?_) fun z2=>?_
 ·obtain rfl:d=2:=by simpa using z
  simp -zeta -zetaHave only [Kg2]
  refine pZ rfl ?_
  exact ep11 X2 fun w3 g3=>h w3 (e2.st g3 l2)
 refine pO (fun z=>?_) fun z3=>?_
 ·obtain rfl:d=3:=by simpa using z
  simp -zeta -zetaHave only [Kg2]
  refine pZ rfl ?_
  exact ep11 X2 fun w3 g3=>h w3 (e2.st g3 l2)
 refine pO (fun z=>?_) fun z6=>?_
 ·obtain rfl:d=6:=by simpa using z
  simp -zeta -zetaHave only [Kg2]
  refine pZ rfl ?_
  exact ep11 X2 fun w3 g3=>h w3 (e2.st g3 l2)
 refine pO (fun z=>?_) fun z7=>?_
 ·obtain rfl:d=7:=by simpa using z
  simp -zeta -zetaHave only [Kg2]
  refine pZ rfl ?_
  exact ep11 X2 fun w3 g3=>h w3 (e2.st g3 l2)
 refine pO (fun z=>?_) fun z16=>?_
 ·obtain rfl:d=16:=by simpa using z
  simp -zeta -zetaHave only [Kg2]
  refine pZ rfl ?_
  exact ep11 X2 fun w3 g3=>h w3 (e2.st g3 l2)
 simp -zeta -zetaHave only [Kg2]
 refine pO (fun z=>?_) fun z22=>?_
 ·obtain rfl:d=22:=by simpa using z
  exact ep11 X2 fun w3 g3=>h w3 (e2.st g3 l2)
 intro Kg4
 refine pO (fun z=>?_) fun z4=>?_
 ·obtain rfl:d=4:=by simpa using z
  simp -zeta -zetaHave only [Kg4]
  refine pZ rfl ?_
  exact ep11 X2 fun w3 g3=>h w3 (e2.st g3 l2)
 refine pO (fun z=>?_) fun z5=>?_
 ·obtain rfl:d=5:=by simpa using z
  simp -zeta -zetaHave only [Kg4]
  refine pZ rfl ?_
  exact ep11 X2 fun w3 g3=>h w3 (e2.st g3 l2)
 simp -zeta -zetaHave only [Kg4]
 refine pO (fun z=>?_) fun z21=>?_
 ·obtain rfl:d=21:=by simpa using z
  exact ep11 X2 fun w3 g3=>h w3 (e2.st g3 l2)
 refine pO (fun z=>?_) fun z8=>?_
 ·obtain rfl:d=8:=by simpa using z
  exact ep11 X2 fun w3 g3=>h w3 (e2.st g3 l2)
 intro Kg9
 refine pO (fun z=>?_) fun z9=>?_
 ·obtain rfl:d=9:=by simpa using z
  simp -zeta -zetaHave only [Kg9]
  refine pZ rfl ?_
  exact ep11 X2 fun w3 g3=>h w3 (e2.st g3 l2)
 simp -zeta -zetaHave only [Kg9]
 refine pO (fun z=>?_) fun z10=>?_
 ·obtain rfl:d=10:=by simpa using z
  exact ep11 X2 fun w3 g3=>h w3 (e2.st g3 l2)
 intro Kg11
 refine pO (fun z=>?_) fun z11=>?_
 ·obtain rfl:d=11:=by simpa using z
  simp -zeta -zetaHave only [Kg11]
  refine pZ rfl ?_
  exact ep11 X2 fun w3 g3=>h w3 (e2.st g3 l2)
 simp -zeta -zetaHave only [Kg11]
 refine pO (fun z=>?_) fun z12=>?_
 ·obtain rfl:d=12:=by simpa using z
  exact ep11 X2 fun w3 g3=>h w3 (e2.st g3 l2)
 refine pO (fun z=>?_) fun z13=>?_
 ·obtain rfl:d=13:=by simpa using z
  exact ep11 X2 fun w3 g3=>h w3 (e2.st g3 l2)
 refine pO (fun z=>?_) fun z14=>?_
 ·obtain rfl:d=14:=by simpa using z
  exact ep11 X2 fun w3 g3=>h w3 (e2.st g3 l2)
 refine pO (fun z=>?_) fun z15=>?_
 ·obtain rfl:d=15:=by simpa using z
  exact ep11 X2 fun w3 g3=>h w3 (e2.st g3 l2)
 refine pO (fun z=>?_) fun z17=>?_
 ·obtain rfl:d=17:=by simpa using z
  exact ep11 X2 fun w3 g3=>h w3 (e2.st g3 l2)
 intro Kg18
 refine pO (fun z=>?_) fun z18=>?_
 ·obtain rfl:d=18:=by simpa using z
  simp -zeta -zetaHave only [Kg18]
  refine pZ rfl ?_
  exact ep11 X2 fun w3 g3=>h w3 (e2.st g3 l2)
 refine pO (fun z=>?_) fun z19=>?_
 ·obtain rfl:d=19:=by simpa using z
  simp -zeta -zetaHave only [Kg18]
  refine pZ rfl ?_
  exact ep11 X2 fun w3 g3=>h w3 (e2.st g3 l2)
 simp -zeta -zetaHave only [Kg18]
 refine pO (fun z=>?_) fun z20=>?_
 ·obtain rfl:d=20:=by simpa using z
  exact ep11 X2 fun w3 g3=>h w3 (e2.st g3 l2)
 simp only [beq_eq_false_iff_ne,ne_eq] at z1 z2 z3 z6 z7 z16 z22 z4 z5 z21 z8 z9 z10 z11 z12 z13 z14 z15 z17 z18 z19 z20
 have hn:¬(1≤d∧d≤22):=by omega
 have hp:=aLm hn
 refine ep11 X2 fun w3 g3=>?_
 have:=h w3 (e2.st g3 l2)
 unfold hasP at this
 rw [hp,decide_eq_false hn] at this
 exact this
end Go.Proofs.YtmdboekndjlmgaaGreat
