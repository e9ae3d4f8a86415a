/-
  Bytes that are written, in memory.
-/
import Derived.Test.YtmdboekndjlmgaaGreatZ22
import Derived.Laws.Closers25b
import Derived.WalkKit
set_option maxRecDepth 100000
set_option maxHeartbeats 6400000
namespace Go.Proofs.YtmdboekndjlmgaaGreat
open Go Go.Sh Go.RowKit Tryz
variable {w:World}{R:EW}
theorem vT{w w':World}{base e size n:Nat}{v:Value}{xs:List Value}(h:w.ownsRow base e size v n xs)(hk:∀b,v.ownBlock=some b→w'.heap[b]?=w.heap[b]?):w'.ownsRow base e size v n xs:=by
 refine ⟨h.1,?_⟩
 rcases h.2 with hn | ⟨g,cap,cur,rfl,hb,hgg,rest⟩
 ·exact .inl hn
 ·exact .inr ⟨g,cap,cur,rfl,hb,by rw [hk g rfl];exact hgg,rest⟩
theorem and_one(u:Nat)(h:u < 18446744073709551616):bAnd .u64 (u:Int) 1=((u % 2:Nat):Int):=by
 have e:(u:Int)=U (BitVec.ofNat 64 u):=by unfold U;rw [BitVec.toNat_ofNat];omega
 rw [e,show (1:Int)=U 1#64 from rfl,aBg]
 unfold U
 rw [BitVec.toNat_and,BitVec.toNat_ofNat,show (2:Nat) ^ 64=18446744073709551616 from rfl,Nat.mod_eq_of_lt h]
 show ((u &&& 1:Nat):Int)=_
 rw [Nat.and_one_is_mod]
theorem fdiv_pow(u s:Nat):Int.fdiv (u:Int) (2 ^ s)=((u / 2 ^ s:Nat):Int):=by
 rw [Int.fdiv_eq_ediv_of_nonneg _ (by exact_mod_cast Nat.zero_le (2 ^ s))]
 norm_cast
theorem xor_zero(x:Nat)(h:x < 9223372036854775808):bXor .i64 (x:Int) 0=(x:Int):=by
 unfold bXor
 rw [show (BitVec.ofInt (IntKind.bits .i64) 0)=0#64 from rfl]
 show IntKind.wrap .i64 ((BitVec.ofInt 64 (x:Int) ^^^ 0#64).toNat:Int)=_
 rw [BitVec.xor_zero,BitVec.toNat_ofInt,qB (by omega) (by omega)]
 omega
theorem xor_ones(x:Nat)(h:x < 9223372036854775808):bXor .i64 (x:Int) (-1)=-(x:Int) - 1:=by
 unfold bXor
 rw [show (BitVec.ofInt (IntKind.bits .i64) (-1))=BitVec.allOnes 64 from rfl]
 show IntKind.wrap .i64 ((BitVec.ofInt 64 (x:Int) ^^^ BitVec.allOnes 64).toNat:Int)=_
 rw [BitVec.xor_allOnes,BitVec.toNat_not,BitVec.toNat_ofInt]
 simp only [IntKind.wrap,IntKind.signed,IntKind.bits]
 simp
 omega
theorem key_U{u:Nat}(h:u < 18446744073709551616):
  bXor .i64 (IntKind.wrap .i64 (Int.fdiv (u:Int) (2 ^ (min (1:Int).toNat (IntKind.bits .u64))))) (IntKind.wrap .i64 (0 - IntKind.wrap .i64 (bAnd .u64 (u:Int) 1)))=zag u:=by
 rw [show min (1:Int).toNat (IntKind.bits .u64)=1 from rfl,fdiv_pow,and_one u h,qB (x:=((u / 2 ^ 1:Nat):Int)) (by omega) (by omega),qB (x:=((u % 2:Nat):Int)) (by omega) (by omega),qB (by omega) (by omega)]
 unfold zag
 rw [show (2:Nat) ^ 1=2 from rfl]
 by_cases hu:u % 2=1
 ·rw [if_pos hu,hu,show (0:Int) - ((1:Nat):Int)=-1 from rfl,xor_ones _ (by omega)]
 ·rw [if_neg hu,show u % 2=0 by omega,show (0:Int) - ((0:Nat):Int)=0 from rfl,xor_zero _ (by omega)]
theorem aPs:Instr.findNow (.int .u8) (.int .u8 3) orderEs.toList 0=some (some (2,kd ⟨#[115,105,122,101]⟩ 124 125)):=by rfl
theorem c_okey{u:Nat}(hu:u < 18446744073709551616)(h:∀w',Ext w w'→R (.returned (.tuple #[.int .i64 (zag u),.int .i64 0])) w'):
  Calls prog 238 #[.int .u8 3,.int .u64 (u:Int)] w R:=by
 refine sh238_ok ?_
 unfold sh238
 refine pP call82 (aFy fun b w1 e1 hb=>pN ⟨_,rfl,?_⟩)
 refine vI underlying111 underlying5 hb (by rfl) aPs (.inl ⟨_,_,_,_,_,_,_,_,rfl,⟨?_⟩⟩)
 refine qA (pS w1 _ _) (i:=0) rfl (by simp) fun w2 h2 g2=>qA h2 (i:=1) rfl (by simp) fun w3 h3 g3=>qA h3 (i:=2) rfl (by simp) fun w4 h4 g4=>?_
 have E4:=(((e1.alloc (.cells #[.string ⟨#[]⟩,.nilFunc,.nilFunc] 110)).st g2 e1.size).st g3 e1.size).st g4 e1.size
 refine pY rfl ⟨_,_,_,h4.cell (i:=2) rfl rfl,pP call125 (sh125_ok ?_)⟩
 unfold sh125
 rw [key_U hu]
 exact ⟨by omega,pN ⟨_,rfl,h _ E4⟩⟩
theorem vM{P:Program}{m:String}{ct:TypeId}{cp:Value}{k:Nat}{args:Array Value}(he:(invoke (.fn (.method m) #[]) (#[.iface ct cp]++args)).run P w=.ok (.enter k (#[cp]++args)) w)
  (h:Calls P k (#[cp]++args) w R):doGo P (.fn (.method m) #[]) (#[.iface ct cp]++args) w R:=by
 refine ⟨?_⟩
 unfold goV
 rw [he]
 exact h
def bys(l:Bs):List Value:=l.map fun b=>.int .u8 ((b.toNat:Nat):Int)
theorem bys_app(a b:Bs):bys (a++b)=bys a++bys b:=by simp [bys]
theorem bys_one(l:Bs):∀u∈bys l,u.oneCell'=true:=fun u hu=>by
 simp only [bys,List.mem_map] at hu
 obtain ⟨x,_,rfl⟩:=hu
 rfl
theorem elB8:ElT prog 159 5 (.int .u8 0) 1 1:=⟨underlying159,⟨_,type5,by kernel_rfl,by kernel_rfl,by kernel_rfl⟩,rfl,by omega⟩
structure OutI (cb:Nat) (w:World) (s:Bs):Prop where
 ex:∃p c,Blk w cb #[.slice p s.length c] 161∧w.ownsRow (cb+1) 5 1 (.slice p s.length c) s.length (bys s)
def rA(cb:Nat)(w:World)(k:Nat):Prop:=k=cb∨∃a n c,w.cell? (blk cb)=some (.slice (some a) n c)∧a.block=k
theorem aIc(p:OA)(n c:Nat)(k:Nat):(Value.slice p n c).ownBlock=some k↔∃a,p=some a∧a.block=k:=by
 cases p <;> simp [Value.ownBlock]
theorem vL{cb:Nat}{p:OA}{n c:Nat}{t:TypeId}(hb:Blk w cb #[.slice p n c] t)(k:Nat):rA cb w k↔k=cb∨(Value.slice p n c).ownBlock=some k:=by
 unfold rA
 rw [hb.cell (i:=0) rfl rfl,aIc]
 constructor
 ·rintro (h | ⟨a,n',c',h,e⟩)
  ·exact .inl h
  ·injection h with h
   injection h with h1 h2 h3
   exact .inr ⟨a,h1,e⟩
 ·rintro (h | ⟨a,h,e⟩)
  ·exact .inl h
  ·subst h
   exact .inr ⟨a,n,c,rfl,e⟩
theorem blk_inj{b:Nat}{x y:Value}{t t':TypeId}(h:Blk w b #[x] t)(k:Blk w b #[y] t'):x=y:=by
 unfold Blk at h k
 rw [h] at k
 injection k with k
 injection k with k
 simpa using k
theorem aAw{cb:Nat}{s:Bs}{k:Nat}(hI:OutI cb w s)(h:rA cb w k):k < w.heap.size:=by
 obtain ⟨p,c,hb,hr⟩:=hI.ex
 rcases (vL hb k).1 h with rfl | h
 ·exact hb.lt
 ·exact (hr.lt k h).2
theorem zJ{cb:Nat}{w w':World}{s:Bs}(hI:OutI cb w s)(h:∀k,rA cb w k→w'.heap[k]?=w.heap[k]?):OutI cb w' s∧∀k,rA cb w' k↔rA cb w k:=by
 obtain ⟨p,c,hb,hr⟩:=hI.ex
 have hb':Blk w' cb #[.slice p s.length c] 161:=by unfold Blk;rw [h cb (.inl rfl)];exact hb
 exact ⟨⟨p,c,hb',vT hr fun b hbb=>h b ((vL hb b).2 (.inr hbb))⟩,fun k=>by rw [vL hb',vL hb]⟩
theorem aIe{cb:Nat}{s:Bs}{p:OA}{n c:Nat}{x:UInt8}{nb:Nat}{bs:Array Bool}{Kf:OA→Nat→Nat→World→Prop}{Kp:List PanicEntry→World→Prop}(hb:Blk w cb #[.slice p n c] 161)(hI:OutI cb w s)(hl:s.length≤lim+1000)(hx:Cs w (some (blk nb)) (bys [x]))
  (h:∀p' c' w',Blk w' cb #[.slice p n c] 161→w'.ownsRow (cb+1) 5 1 (.slice p' (s.length+1) c') (s.length+1) (bys (s++[x]))→Chg (rA cb) (fun _=>False) w w'→
   (∀k,(Value.slice p' (s.length+1) c').ownBlock=some k→rA cb w k∨w.heap.size≤k)→Kf p' (s.length+1) c' w') :
  doGo prog (.builtin .append #[159,159] 159 bs) #[.slice p n c,.slice (some (blk nb)) 1 1] w (retS (fun v w'=>∃a b d,v=(.slice a b d:Value)∧Kf a b d w') Kp):=by
 obtain ⟨p0,c0,hb0,hr⟩:=hI.ex
 have e:=blk_inj hb hb0
 injection e with e1 e2 e3
 subst e1 e2 e3
 have hlim:lim=1000000000000:=rfl
 refine rR elB8 hr hx (by simp [bys]) (bys_one _) (by simp only [maxLen];omega) (by omega) hb.lt fun p' c' w' h2 g n10=>pN ⟨p',_,c',rfl,?_⟩
 have hne:some cb≠(Value.slice p s.length c).ownBlock:=fun e=>by have:=(hr.lt cb e.symm).1;omega
 have hb':=hb.grown g hne
 refine h p' c' w' hb' (by rw [bys_app];exact h2) ⟨g.os,g.tape,g.output,g.size,fun k hk ho _=>g.block k hk fun e=>ho ((vL hb k).2 (.inr e.symm)),fun k _ ho h=>ho ((vL hb k).2 ((vL hb' k).1 h))⟩ fun k hk=>?_
 rcases n10 k hk with h | h
 ·exact .inl ((vL hb k).2 (.inr h))
 ·exact .inr h
theorem aId{cb:Nat}{w w':World}{s:Bs}{p p':OA}{n c c':Nat}{x:UInt8}{K:World→Prop}(hw:OutI cb w s)(hb':Blk w' cb #[.slice p n c] 161)
  (hr:w'.ownsRow (cb+1) 5 1 (.slice p' (s.length+1) c') (s.length+1) (bys (s++[x]))) (hc:Chg (rA cb) (fun _=>False) w w') (hn:∀k,(Value.slice p' (s.length+1) c').ownBlock=some k→rA cb w k∨w.heap.size≤k)
  (h:∀w'',OutI cb w'' (s++[x])→Chg (rA cb) (fun _=>False) w w''→K w''):doSt (((blk cb).add 0).add 0) (.slice p' (s.length+1) c') w' K:=by
 refine qA hb' (i:=0) rfl (by simp) fun w'' h2 g2=>?_
 have h2:Blk w'' cb #[.slice p' (s.length+1) c'] 161:=h2
 have hr2:=hr.kept g2 (.inr fun e=>by have:=(hr.lt cb e).1;omega)
 refine h w'' ⟨p',c',by rw [List.length_append];exact h2,by rw [List.length_append];exact hr2⟩ ⟨g2.os.trans hc.os,g2.tape.trans hc.tape,g2.output.trans hc.output,Nat.le_trans hc.size g2.size,fun k hk ho hs=>?_,fun k hk ho h=>?_⟩
 ·rw [g2.block k (Nat.lt_of_lt_of_le hk hc.size) (fun e=>ho (by cases e;exact .inl rfl)),hc.block k hk ho hs]
 ·rcases (vL h2 k).1 h with rfl | h
  ·exact ho (.inl rfl)
  ·rcases hn k h with h | h
   ·exact ho h
   ·omega
theorem chg0{own:World→Nat→Prop}{S:Nat→Prop}{w w':World}(h:Chg own (fun _=>False) w w'):Chg own S w w':=h.mono fun _ h=>h.elim
theorem xF{cb:Nat}{w w':World}{s:Bs}{S:Nat→Prop}(hI:OutI cb w s)(e:Ext w w'):OutI cb w' s∧Chg (rA cb) S w w':=by
 have k:=zJ hI fun k hk=>e.block k (aAw hI hk)
 exact ⟨k.1,e.os,e.tape,e.output,e.size,fun k hk _ _=>e.block k hk,fun j _ h1 h2=>h1 ((k.2 j).1 h2)⟩
theorem aJb{cb:Nat}{s:Bs}{b i:Nat}{cs:Array Value}{t:TypeId}{v:Int}{q:OA}{n' c':Nat}(hI:OutI cb w s)(hl:s.length≤lim+1000)(ho:¬rA cb w b)(hb:Blk w b cs t)(hc:cs[i]?=some (.int .u8 v))(hv:0≤v∧v < 256)
  (h:∀w',OutI cb w' (s++[u8 v])→Chg (rA cb) (fun _=>False) w w'→R (.returned rW) w'):Calls prog 231 #[.pointer (some (blk cb)),.pointer (some ⟨b,i,none⟩),.slice q n' c'] w R:=by
 refine sh231_ok ?_
 unfold sh231
 refine ⟨?_⟩
 have e1:=pT w
 have hI1:=xF (S:=fun _=>False) hI e1
 have hb1:=hb.ext e1
 have ho1:¬rA cb w.drew b:=fun h=>ho (((zJ hI fun k hk=>e1.block k (aAw hI hk)).2 b).1 h)
 generalize w.drew=w1 at *
 obtain ⟨p,c,hcb,hr⟩:=hI1.1.ex
 refine ⟨fun w'=>Blk w' cb #[.slice p s.length c] 161∧Blk w' b cs t,⟨hcb,hb1⟩,_,rfl,_,_,_,fun w' h'=>h'.1.cell (i:=0) rfl rfl,_,rfl,_,fun w' h'=>h'.2.cell (i:=i) rfl hc,⟨?_⟩⟩
 have e2:=pQ w1 (.cells #[.int .u8 v] 5)
 have hx:=qY w1 #[.int .u8 v] 5
 have hI2:=xF (S:=fun _=>False) hI1.1 e2
 have ho2:¬rA cb (w1.alloc (.cells #[.int .u8 v] 5)) b:=fun h=>ho1 (((zJ hI1.1 fun k hk=>e2.block k (aAw hI1.1 hk)).2 b).1 h)
 generalize w1.alloc (.cells #[.int .u8 v] 5)=w2 at *
 have hb2:=hb1.ext e2
 refine ⟨⟨hcb.ext e2,hb2⟩,aIe (x:=u8 v) (hcb.ext e2) hI2.1 hl (by simpa [bys,aDr hv.1 hv.2] using hx) fun p' c' w3 hb3 hr3 c3 hn3=>?_⟩
 refine ⟨⟨hb3,c3.blk hb2 ho2 fun h=>h⟩,_,rfl,aId hI2.1 hb3 hr3 c3 hn3 fun w4 hI4 c4=>h w4 hI4 ((hI1.2.trans hI2.2).trans c4)⟩
theorem vEnc_ne(u:Nat):1≤(vEnc u).length:=by
 rw [vO];split <;> simp
theorem aJi:∀(k u:Nat),u < 128 ^ (k+1)→(vEnc u).length≤k+1
 | 0,u,h=>by rw [vO,if_pos (by simpa using h)];simp
 | k+1,u,h=>by
  rw [vO]
  split
  ·simp
  ·have:(vEnc (u / 128)).length≤k+1:=aJi k _ (by rw [Nat.pow_succ] at h;omega)
   simp;omega
theorem xR{v:Int}(h:In v):1≤(numE v).length∧(numE v).length≤10:=by
 have:=aLa h
 exact ⟨vEnc_ne _,aJi 9 _ (by rw [show (128:Nat) ^ (9+1)=1180591620717411303424 from rfl];omega)⟩
theorem or_128(u:Nat):bOr .u8 (IntKind.wrap .u8 (u:Int)) 128=((u % 128+128:Nat):Int):=by
 have h8:∀x:BitVec 8,(x ||| 128#8).toNat=x.toNat % 128+128:=by decide
 unfold bOr
 show IntKind.wrap .u8 ((BitVec.ofInt 8 (IntKind.wrap .u8 (u:Int)) ||| 128#8).toNat:Int)=_
 rw [h8,BitVec.toNat_ofInt]
 simp only [IntKind.wrap,IntKind.signed,IntKind.bits]
 simp
 omega
theorem wrap_u8(u:Nat)(h:u < 256):IntKind.wrap .u8 (u:Int)=(u:Int):=by
 simp only [IntKind.wrap,IntKind.signed,IntKind.bits]
 simp
 omega
theorem u8_of{n:Nat}(h:n < 256):(((UInt8.ofNat n).toNat:Nat):Int)=(n:Int):=by rw [u8n h]
theorem aJc{cb:Nat}{s:Bs}{b i:Nat}{cs:Array Value}{t:TypeId}{v:Int}(hI:OutI cb w s)(hl:s.length≤lim+100)(hb:Blk w b cs t)(hc:cs[i]?=some (.int .i64 v))(hv:In v)
  (h:∀w',OutI cb w' (s++numE v)→Chg (rA cb) (fun _=>False) w w'→R (.returned rW) w'):Calls prog 229 #[.pointer (some (blk cb)),.pointer (some ⟨b,i,none⟩)] w R:=by
 refine sh229_ok ?_
 unfold sh229
 refine ⟨_,rfl,v,hb.cell rfl hc,pP call95 (aMp hv fun w1 e1=>pN ⟨_,_,rfl,?_⟩)⟩
 rw [show isO 3=true from rfl,cond_true,←zig_cast hv]
 have hI1:=xF (S:=fun _=>False) hI e1
 have hz:=aLa hv
 have hlen:=xR hv
 refine ⟨fun vs w'=>∃(u:Nat) (s':Bs),vs=[.int .u64 (u:Int)]∧u < 18446744073709551616∧OutI cb w' s'∧s'++vEnc u=s++numE v∧Chg (rA cb) (fun _=>False) w w',
  fun vs _=>match vs with | [.int _ i]=>i.toNat | _=>0,⟨zig v,s,rfl,hz,hI1.1,rfl,hI1.2⟩,?_⟩
 rintro _ _ w2 ⟨u,s2,hvs,hu,hI2,hs,c2⟩
 simp only [List.cons.injEq,Value.int.injEq,true_and,and_true] at hvs
 subst hvs
 have hl2:s2.length≤s.length+10:=by
  have:=congrArg List.length hs
  simp only [List.length_append] at this
  omega
 obtain ⟨p,c,hcb,hr⟩:=hI2.ex
 refine pO (fun z=>?_) fun z=>?_
 ·have z:128≤u:=by have:=of_decide_eq_true z;omega
  refine ⟨_,rfl,_,_,_,hcb.cell (i:=0) rfl rfl,⟨?_⟩⟩
  rw [or_128]
  have e3:=pQ w2 (.cells #[.int .u8 ((u % 128+128:Nat):Int)] 5)
  have hx:=qY w2 #[.int .u8 ((u % 128+128:Nat):Int)] 5
  have hI3:=xF (S:=fun _=>False) hI2 e3
  generalize w2.alloc (.cells #[.int .u8 ((u % 128+128:Nat):Int)] 5)=w3 at *
  refine aIe (x:=UInt8.ofNat (u % 128+128)) (hcb.ext e3) hI3.1 (by omega) (by rw [show bys [UInt8.ofNat (u % 128+128)]=[.int .u8 ((u % 128+128:Nat):Int)] by simp only [bys,List.map_cons,List.map_nil,u8_of (show u % 128+128 < 256 by omega)]];exact hx) fun p' c' w4 hb4 hr4 c4 hn4=>⟨_,rfl,aId hI3.1 hb4 hr4 c4 hn4 fun w5 hI5 c5=>⟨by omega,?_⟩⟩
  rw [show min (7:Int).toNat (IntKind.bits .u64)=7 from rfl,fdiv_pow,show (2:Nat) ^ 7=128 from rfl]
  refine ⟨⟨u / 128,_,rfl,by omega,hI5,?_,(c2.trans hI3.2).trans c5⟩,?_⟩
  ·rw [vO u,if_neg (by omega)] at hs
   rw [←hs];simp
  ·show ((u / 128:Nat):Int).toNat < (u:Int).toNat
   omega
 ·have z:u < 128:=by have:=of_decide_eq_false z;omega
  refine ⟨_,rfl,_,_,_,hcb.cell (i:=0) rfl rfl,⟨?_⟩⟩
  rw [wrap_u8 u (by omega)]
  have e3:=pQ w2 (.cells #[.int .u8 (u:Int)] 5)
  have hx:=qY w2 #[.int .u8 (u:Int)] 5
  have hI3:=xF (S:=fun _=>False) hI2 e3
  generalize w2.alloc (.cells #[.int .u8 (u:Int)] 5)=w3 at *
  refine aIe (x:=UInt8.ofNat u) (hcb.ext e3) hI3.1 (by omega) (by rw [show bys [UInt8.ofNat u]=[.int .u8 (u:Int)] by simp only [bys,List.map_cons,List.map_nil,u8_of (show u < 256 by omega)]];exact hx) fun p' c' w4 hb4 hr4 c4 hn4=>⟨_,rfl,aId hI3.1 hb4 hr4 c4 hn4 fun w5 hI5 c5=>?_⟩
  rw [vO u,if_pos z] at hs
  exact h w5 (by rw [←hs];exact hI5) ((c2.trans hI3.2).trans c5)
def sh227d(f g:OA)(R:EW)(w:World):Prop:=
 doAl (.cells #[iB 0] 5) w fun a h=>doSt ((blk a).add 0) (iB 0) h fun b=>
 let c:World→Prop:=fun i=>cF 231 #[.pointer f,.pointer (some (blk a)),.slice none 0 0] i (retS (fun j k=>j=(.tuple #[]:Value)∧([]:List Deferred)=[]∧R (.returned (.tuple #[])) k) fun ch w=>([]:List Deferred)=[]∧R (.panicked ch) w)
 ∃d,g=some d∧∃e,b.cell? d=some (.bool e)∧ifB e (doSt ((blk a).add 0) (iB 1) b fun l=>c l) (c b)
theorem aOz{c_1:OA}{is_2:OA}{u:FrameMode}:sh227d c_1 is_2 R w→CallsDIn Fence.wide 0 prog 227 #[.pointer c_1,.pointer is_2] u w (fun e u1 w1=>u1=u∧R e w1):=
 aCh (ann:=fun _=>[]) (fn:=f227) (c:=tO f227) (args:=#[.pointer c_1,.pointer is_2]) 400 qO func227 (by kernel_rfl) (by kernel_rfl)
def sh232d(g h:OA)(R:EW)(w:World):Prop:=
 doAl (.cells #[iB 0] 5) w fun a i=>cF 236 #[.pointer g,.pointer (some (blk a)),.slice none 0 0] i (retS (fun j b=>j=(.tuple #[]:Value)∧∃c,b.cell? (blk a)=some (iB c)∧cF 237 #[.bool (decide ((c:Int) < 2))] b (retS (fun k d=>k=(.tuple #[]:Value)∧∃e,d.cell? (blk a)=some (iB e)∧∃f,h=some f∧doSt (f.add 0) (.bool ((e:Int)==1)) d fun l=>([]:List Deferred)=[]∧R (.returned (.tuple #[])) l) fun ch w=>([]:List Deferred)=[]∧R (.panicked ch) w)) fun ch w=>([]:List Deferred)=[]∧R (.panicked ch) w)
theorem aOy{c_1:OA}{is_2:OA}{u:FrameMode}:sh232d c_1 is_2 R w→CallsDIn Fence.wide 0 prog 232 #[.pointer c_1,.pointer is_2] u w (fun e u1 w1=>u1=u∧R e w1):=
 aCh (ann:=fun _=>[]) (fn:=f232) (c:=tO f232) (args:=#[.pointer c_1,.pointer is_2]) 400 qO func232 (by kernel_rfl) (by kernel_rfl)
theorem vQ{cs:Array Value}{i:Nat}{v:Value}(h:cs[i]?=some v):cs.setIfInBounds i v=cs:=by
 apply Array.ext_getElem?
 intro j
 rw [Array.getElem?_setIfInBounds]
 split
 ·rename_i e
  subst e
  split
  ·exact h.symm
  ·rename_i hlt
   have:=(Array.getElem?_eq_some_iff.1 h).1
   exact absurd this hlt
 ·rfl
theorem aJu{cb:Nat}{w w':World}{s:Bs}(hI:OutI cb w s)(e:Ext w w')(k:Nat):rA cb w' k↔rA cb w k:=(zJ hI fun k hk=>e.block k (aAw hI hk)).2 k
theorem c_omany{cb:Nat}{s:Bs}{b:Nat}{t:TypeId}{v:Nat}(hI:OutI cb w s)(hl:s.length≤lim)(hb:Blk w b #[.int .i64 (v:Int)] t)(hv:v≤1000000)
  (h:∀w',OutI cb w' (s++numE v)→Chg (rA cb) (fun _=>False) w w'→R (.returned rW) w'):Calls prog 228 #[.pointer (some (blk cb)),.pointer (some ⟨b,0,none⟩)] w R:=by
 refine sh228_ok ?_
 unfold sh228
 refine ⟨_,rfl,_,hb.cell rfl rfl,⟨?_⟩⟩
 have e1:=pQ w (.cells #[.int .i64 0] 2)
 refine qA (pS w _ _) (i:=0) rfl (by simp) fun w2 h2 g2=>?_
 have e2:Ext w w2:=e1.st g2 (Nat.le_refl _)
 have hI2:=xF (S:=fun _=>False) hI e2
 exact pP call229 (aJc (i:=0) hI2.1 (by omega) h2 rfl (by unfold In;omega) fun w3 hI3 c3=>pN ⟨rfl,h w3 hI3 (hI2.2.trans c3)⟩)
theorem c_opair{cb:Nat}{s:Bs}{b:Nat}{t:TypeId}{v:Int × Int}(hI:OutI cb w s)(hl:s.length≤lim)(ho:¬rA cb w b)(hb:Blk w b #[.int .i64 v.1,.int .i64 v.2] t)(hv:In v.1∧In v.2)
  (h:∀w',OutI cb w' (s++(numE v.1++numE v.2))→Chg (rA cb) (fun _=>False) w w'→R (.returned rW) w'):Calls prog 230 #[.pointer (some (blk cb)),.pointer (some ⟨b,0,none⟩)] w R:=by
 refine sh230_ok ?_
 unfold sh230
 refine ⟨_,rfl,pP call229 (aJc (b:=b) (i:=0) hI (by omega) hb rfl hv.1 fun w1 hI1 c1=>pN ⟨rfl,_,rfl,?_⟩)⟩
 have:=(xR hv.1).2
 exact pP call229 (aJc (b:=b) (i:=1) hI1 (by rw [List.length_append];omega) (c1.blk hb ho fun h=>h) rfl hv.2 fun w2 hI2 c2=>pN ⟨rfl,h w2 (by rw [←List.append_assoc];exact hI2) (c1.trans c2)⟩)
theorem c_oflag{cb:Nat}{s:Bs}{b i:Nat}{cs:Array Value}{t:TypeId}{v:Bool}(hI:OutI cb w s)(hl:s.length≤lim)(hb:Blk w b cs t)(hc:cs[i]?=some (.bool v))
  (h:∀w',OutI cb w' (s++[aAq v])→Chg (rA cb) (fun _=>False) w w'→R (.returned rW) w'):Calls prog 227 #[.pointer (some (blk cb)),.pointer (some ⟨b,i,none⟩)] w R:=by
 refine sh227_ok ?_
 unfold sh227
 refine ⟨?_⟩
 have e1:=pQ w (.cells #[.int .u8 0] 5)
 refine qA (pS w _ _) (i:=0) rfl (by simp) fun w2 h2 g2=>?_
 have e2:Ext w w2:=e1.st g2 (Nat.le_refl _)
 refine ⟨_,rfl,_,(hb.ext e2).cell rfl hc,?_⟩
 have go:∀(x:Int) w3,x=(if v then 1 else 0)→Ext w w3→Blk w3 w.heap.size #[.int .u8 x] 5→doCall prog (.func (.func 231) #[] #[]) #[.pointer (some (blk cb)),.pointer (some (blk w.heap.size)),.slice none 0 0] w3 (retS (fun v8 w9=>v8=(.tuple #[]:Value)∧(
   R (.returned (.tuple #[])) w9)) (fun ch w=>Kfn R ch [] w)):=fun x w3 hx e3 hb3=>by
  have hI3:=xF (S:=fun _=>False) hI e3
  have hn:¬rA cb w3 w.heap.size:=fun h=>by have:=aAw hI ((aJu hI e3 _).1 h);omega
  refine pP call231 (aJb (i:=0) hI3.1 (Nat.le_trans hl (Nat.le_add_right _ _)) hn hb3 rfl (by cases v <;> (rw [hx];decide)) fun w4 hI4 c4=>pN ⟨rfl,h w4 ?_ (hI3.2.trans c4)⟩)
  have:u8 x=aAq v:=by subst hx;cases v <;> rfl
  rw [←this];exact hI4
 cases v
 ·exact pY rfl (go 0 w2 rfl e2 h2)
 ·exact pZ rfl (qA h2 (i:=0) rfl (by simp) fun w3 h3 g3=>go 1 w3 rfl (e2.st g3 (Nat.le_refl _)) h3)
theorem c_oflagD{cb:Nat}{s:Bs}{b i:Nat}{cs:Array Value}{t:TypeId}{v:Bool}{u:FrameMode}(hI:OutI cb w s)(hl:s.length≤lim)(hb:Blk w b cs t)(hc:cs[i]?=some (.bool v))
  (h:∀w',OutI cb w' (s++[aAq v])→Chg (rA cb) (fun _=>False) w w'→R (.returned rW) w'):CallsDIn Fence.wide 0 prog 227 #[.pointer (some (blk cb)),.pointer (some ⟨b,i,none⟩)] u w (fun e u1 w1=>u1=u∧R e w1):=by
 refine aOz ?_
 unfold sh227d
 refine ⟨?_⟩
 have e1:=pQ w (.cells #[.int .u8 0] 5)
 refine qA (pS w _ _) (i:=0) rfl (by simp) fun w2 h2 g2=>?_
 have e2:Ext w w2:=e1.st g2 (Nat.le_refl _)
 refine ⟨_,rfl,_,(hb.ext e2).cell rfl hc,?_⟩
 have go:∀(x:Int) w3,x=(if v then 1 else 0)→Ext w w3→Blk w3 w.heap.size #[.int .u8 x] 5→doCall prog (.func (.func 231) #[] #[]) #[.pointer (some (blk cb)),.pointer (some (blk w.heap.size)),.slice none 0 0] w3 (retS (fun v8 w9=>v8=(.tuple #[]:Value)∧(
   ([]:List Deferred)=[]∧(R (.returned (.tuple #[])) w9))) (fun ch w=>([]:List Deferred)=[]∧R (.panicked ch) w)):=fun x w3 hx e3 hb3=>by
  have hI3:=xF (S:=fun _=>False) hI e3
  have hn:¬rA cb w3 w.heap.size:=fun h=>by have:=aAw hI ((aJu hI e3 _).1 h);omega
  refine pP call231 (aJb (i:=0) hI3.1 (Nat.le_trans hl (Nat.le_add_right _ _)) hn hb3 rfl (by cases v <;> (rw [hx];decide)) fun w4 hI4 c4=>pN ⟨rfl,rfl,h w4 ?_ (hI3.2.trans c4)⟩)
  have:u8 x=aAq v:=by subst hx;cases v <;> rfl
  rw [←this];exact hI4
 cases v
 ·exact pY rfl (go 0 w2 rfl e2 h2)
 ·exact pZ rfl (qA h2 (i:=0) rfl (by simp) fun w3 h3 g3=>go 1 w3 rfl (e2.st g3 (Nat.le_refl _)) h3)
theorem aJv{t:TypeId}{v:Value}{K:Prop}(h:K):doNC prog (.iface t v) K:=⟨fun ρ o x w ho hx=>by
 obtain ⟨dst,op,ty,pos,after,guard⟩:=o
 simp only at ho;subst ho
 simp only [execOp,hx];rfl,h⟩
theorem do_df{m:String}{ct:TypeId}{cp:Value}{k:Nat}{args:Array Value}{u:FrameMode}{K:FrameMode→World→Prop}(hu:u≠.run)(he:(invoke (.fn (.method m) #[]) (#[.iface ct cp]++args)).run prog w=.ok (.enter k (#[cp]++args)) w)
  (h:CallsDIn Fence.wide 0 prog k (#[cp]++args) u w (fun e u1 w1=>u1=u∧aCy K e u w1)):doDf prog (.fn (.method m) #[]) (#[.iface ct cp]++args) u w K:=
 ⟨hu,k,_,he,CallsDIn.mono h fun e u' w' he=>by rw [he.1];exact he.2⟩
theorem zI(cp x:Value)(w:World):
  (invoke (.fn (.method "joinery/op.num") #[]) #[.iface 158 cp, x]).run prog w = .ok (.enter 229 #[cp, x]) w ∧ (invoke (.fn (.method "joinery/op.flag") #[]) #[.iface 158 cp, x]).run prog w = .ok (.enter 227 #[cp, x]) w ∧
  (invoke (.fn (.method "joinery/op.many") #[]) #[.iface 158 cp, x]).run prog w = .ok (.enter 228 #[cp, x]) w ∧ (invoke (.fn (.method "joinery/op.pair") #[]) #[.iface 158 cp, x]).run prog w = .ok (.enter 230 #[cp, x]) w :=
 ⟨by kernel_rfl,by kernel_rfl,by kernel_rfl,by kernel_rfl⟩
theorem aPf(cp x y : Value)(w : World): (invoke (.fn (.method "joinery/op.word") #[]) #[.iface 158 cp, x, y]).run prog w = .ok (.enter 231 #[cp, x, y]) w := by kernel_rfl
theorem out_ta(cb:Nat)(w:World):(Instr.typeAssert (.iface 158 (.pointer (some (blk cb)))) 196 219 true).run prog w=.ok (.tuple #[.pointer none,.bool false]) w∧
  (Instr.typeAssert (.iface 158 (.pointer (some (blk cb)))) 196 220 true).run prog w=.ok (.tuple #[.pointer none,.bool false]) w:=⟨by kernel_rfl,by kernel_rfl⟩
theorem out_nil(cb : Nat)(w : World): (nilAhead (prog.types.size + Made.depth) 158 (.pointer (some (blk cb))) "joinery/op.word").run prog w = .ok (some false) w := by kernel_rfl
theorem aNn{t:TypeId}{v:Value}{m:String}{K:Prop}(hn:∀w,(nilAhead (prog.types.size+Made.depth) t v m).run prog w=.ok (some false) w)(h:K):doNC prog (.func (.method m) #[.iface t v] #[]) K:=⟨fun ρ o x w ho hx=>by
 obtain ⟨dst,op,ty,pos,after,guard⟩:=o
 simp only at ho;subst ho
 simp only [execOp,hx]
 have hp:(program).run prog w=.ok prog w:=rfl
 have e:(#[Value.iface t v]:Array Value)[0]?=some (.iface t v):=rfl
 simp only [e,Sem.run_bind,hp,Result.andThen_ok,hn w]
 rfl,h⟩
def OutB(cb:Nat):CBase outB where
 I:=OutI cb
 own:=rA cb
 lt:=aAw
 keep:=zJ
 len:=List.length
 grow:=20
 numIn:=fun hv h=>by
  cases h
  have:=xR hv
  exact ⟨hv,by rw [List.length_append];omega⟩
 wordIn:=fun hk h=>by
  cases h
  exact ⟨hk,by rw [List.length_append];simp⟩
 flagIn:=fun h=>by
  cases h
  rw [List.length_append];simp
 manyIn:=fun {n s n' s'} hn h=>by
  cases h
  have:=xR (v:=(n:Int)) (by unfold In;omega)
  exact ⟨Nat.le_max_left _ _,by rw [List.length_append];omega⟩
 pairIn:=fun hv h=>by
  cases h
  have:=xR hv.1
  have:=xR hv.2
  exact ⟨hv,by rw [List.length_append,List.length_append];omega⟩
def OutC(cb:Nat):Coder outB 158 (.pointer (some (blk cb))) where
 toCBase:=OutB cb
 pre:=fun _ _=>True
 nc:=aJv
 ncw:=aNn (out_nil cb)
 ta:=⟨none,false,none,false,rfl,fun w S h=>⟨_,(out_ta cb w).1,h⟩,fun w S h=>⟨_,(out_ta cb w).2,h⟩⟩
 num:=fun {w s b i cs t v R} hI hl ho hb hc hv h _=>vM (args:=#[.pointer (some ⟨b,i,none⟩)]) (zI _ _ w).1 (aJc hI (Nat.le_trans hl (Nat.le_add_right _ _)) hb hc hv fun w' hI' c'=>h v _ w' rfl hI' (by rw [vQ hc];exact c'.blk hb ho fun h=>h) (chg0 c'))
 word:=fun {w s b i cs t v names q n cap R} hI hl ho hb hc hv _ _ _ _ h _=>vM (args:=#[.pointer (some ⟨b,i,none⟩),.slice q n cap]) (aPf _ _ _ w) (aJb hI (Nat.le_trans hl (Nat.le_add_right _ _)) ho hb hc hv fun w' hI' c'=>h v _ w' rfl hI' (by rw [vQ hc];exact c'.blk hb ho fun h=>h) (chg0 c'))
 flag:=fun {w s b i cs t v R} hI hl ho hb hc h _=>vM (args:=#[.pointer (some ⟨b,i,none⟩)]) (zI _ _ w).2.1 (c_oflag hI hl hb hc fun w' hI' c'=>h v _ w' rfl hI' (by rw [vQ hc];exact c'.blk hb ho fun h=>h) (chg0 c'))
 flagD:=fun _ {w s b i cs t v u K} hu hI hl ho hb hc h _=>do_df (args:=#[.pointer (some ⟨b,i,none⟩)]) hu (zI _ _ w).2.1 (c_oflagD (R:=fun e w1=>aCy K e u w1) hI hl hb hc fun w' hI' c'=>h v _ w' rfl hI' (by rw [vQ hc];exact c'.blk hb ho fun h=>h) (chg0 c'))
 many:=fun {w s b t v R} hI hl ho hb hv h _=>vM (args:=#[.pointer (some ⟨b,0,none⟩)]) (zI _ _ w).2.2.1 (c_omany hI hl hb hv fun w' hI' c'=>h v _ w' rfl hI' (c'.blk hb ho fun h=>h) (chg0 c'))
 pair:=fun {w s b t v R} hI hl ho hb hv h _=>vM (args:=#[.pointer (some ⟨b,0,none⟩)]) (zI _ _ w).2.2.2 (c_opair hI hl ho hb hv fun w' hI' c'=>h v _ w' rfl hI' (c'.blk hb ho fun h=>h) (chg0 c'))
abbrev strB(s:Bs):Value:=.string ⟨s.toArray⟩
def uL(cb:Nat)(_:World)(k:Nat):Prop:=k=cb
def InI(cb:Nat)(w:World)(s:Bs):Prop:=Blk w cb #[strB s] 166
theorem aCv{cb:Nat}{w w':World}{s:Bs}{S:Nat→Prop}(hI:InI cb w s)(e:Ext w w'):InI cb w' s∧Chg (uL cb) S w w':=⟨Blk.ext hI e,e.os,e.tape,e.output,e.size,fun k hk _ _=>e.block k hk,fun _ _ h1 h2=>h1 h2⟩
theorem aHe{cb b:Nat}{w w':World}(g:w.grownBy w' (some b)){S:Nat→Prop}(hb:b=cb∨S b∨w.heap.size≤b):Chg (uL cb) S w w':=
 ⟨g.os,g.tape,g.output,g.size,fun k hk ho hs=>g.block k hk fun e=>by
  cases e
  rcases hb with h | h | h
  ·exact ho h
  ·exact hs h
  ·omega,fun _ _ h1 h2=>h1 h2⟩
theorem xN{is:Bool}(h:is=true→R (.returned rW) w)(hn:is=false→R (.panicked [xS]) w):Calls prog 237 #[.bool is] w R:=by
 refine sh237_ok ?_
 unfold sh237
 cases is
 ·exact pZ rfl ⟨_,w,rfl,hn rfl⟩
 ·exact pY rfl (h rfl)
theorem str_nil(s:Bs):((⟨s.toArray⟩:ByteArray).toList==(⟨#[]⟩:ByteArray).toList)=decide (s=[]):=by
 rw [ByteArray.toList_eq,ByteArray.toList_eq]
 cases s <;> simp
theorem str_ext(x:UInt8)(s:Bs):(⟨(x::s).toArray⟩:ByteArray).extract 1 (⟨(x::s).toArray⟩:ByteArray).size=⟨s.toArray⟩:=by
 apply ByteArray.ext
 rw [ByteArray.data_extract]
 simp [ByteArray.size]
theorem aEa{cb:Nat}{s:Bs}{b i:Nat}{cs:Array Value}{t:TypeId}{v:Value}{q:OA}{n' c':Nat}(hI:InI cb w s)(ho:b≠cb)(hb:Blk w b cs t)(hc:cs[i]?=some v)(hs:s.length≤1000000000000000)
  (h:∀x s' w',s=x::s'→InI cb w' s'→Blk w' b (cs.setIfInBounds i (.int .u8 ((x.toNat:Nat):Int))) t→Chg (uL cb) (·=b) w w'→R (.returned rW) w') (hn:s=[]→R (.panicked [xS]) w) :
  Calls prog 236 #[.pointer (some (blk cb)),.pointer (some ⟨b,i,none⟩),.slice q n' c'] w R:=by
 refine sh236_ok ?_
 unfold sh236
 refine ⟨_,rfl,_,Blk.cell (i:=0) hI rfl rfl,?_⟩
 rw [str_nil]
 refine pP call237 (xN (fun hne=>pN ⟨rfl,⟨?_⟩⟩) fun he=>hn (by simpa using he))
 cases s with
 | nil=>simp at hne
 | cons x s=>
 have e1:=pT w
 have hI1:InI cb w.drew (x::s):=Blk.ext hI e1
 have hb1:=hb.ext e1
 generalize w.drew=w1 at *
 refine ⟨fun w'=>InI cb w' (x::s),hI1,_,rfl,_,fun w' h'=>Blk.cell (i:=0) h' rfl rfl,x,by omega,rfl,_,rfl,_,fun w' h'=>Blk.cell (i:=0) h' rfl rfl,?_⟩
 have hsz:(⟨(x::s).toArray⟩:ByteArray).size=s.length+1:=by simp [ByteArray.size]
 refine ⟨by omega,by rw [hsz];omega,by omega,?_⟩
 refine ⟨_,rfl,qA hb1 (i:=i) (by rw [add_zero']) (Array.getElem?_eq_some_iff.1 hc).1 fun w2 h2 g2=>?_⟩
 have hI2:InI cb w2 (x::s):=Blk.grown hI1 g2 (pV (Ne.symm ho))
 refine ⟨_,rfl,qA hI2 (i:=0) rfl (by simp) fun w3 h3 g3=>?_⟩
 refine h x s w3 rfl ?_ (h2.grown g3 (pV ho)) (((aCv (S:=(·=b)) hI e1).2.trans (aHe g2 (.inr (.inl rfl)))).trans (aHe g3 (.inl rfl)))
 have e:(⟨(x::s).toArray⟩:ByteArray).extract (1:Int).toNat (((⟨(x::s).toArray⟩:ByteArray).size:Int)).toNat=⟨s.toArray⟩:=str_ext x s
 show Blk w3 cb #[.string ⟨s.toArray⟩] _
 rw [←e]
 exact h3
theorem nat_U(n:Nat)(h:n < 18446744073709551616):(n:Int)=U (BitVec.ofNat 64 n):=by unfold U;rw [BitVec.toNat_ofNat];omega
theorem wrap_u64(n:Nat)(h:n < 18446744073709551616):IntKind.wrap .u64 (n:Int)=(n:Int):=by rw [qR];omega
theorem and_127(x:Nat)(h:x < 256):bAnd .u8 (x:Int) 127=((x % 128:Nat):Int):=by
 have h8:∀y:BitVec 8,(y &&& 127#8).toNat=y.toNat % 128:=by decide
 unfold bAnd
 show IntKind.wrap .u8 ((BitVec.ofInt 8 (x:Int) &&& 127#8).toNat:Int)=_
 rw [h8,BitVec.toNat_ofInt]
 simp only [IntKind.wrap,IntKind.signed,IntKind.bits]
 simp
 omega
theorem or_shift{k u x:Nat}(hk:k≤9)(hu:u < 2 ^ (7 * k))(hx:x < 256)(h64:u+x % 128 * 2 ^ (7 * k) < 18446744073709551616):
  bOr .u64 (u:Int) (IntKind.wrap .u64 (IntKind.wrap .u64 (bAnd .u8 (x:Int) 127) * 2 ^ (min (IntKind.wrap .i64 (7 * (k:Int))).toNat (IntKind.bits .u64))))=((u+x % 128 * 2 ^ (7 * k):Nat):Int):=by
 have e7:(IntKind.wrap .i64 (7 * (k:Int))).toNat=7 * k:=by rw [qB (by omega) (by omega)];omega
 rw [and_127 x hx,wrap_u64 _ (by omega),e7,show min (7 * k) (IntKind.bits .u64)=7 * k from Nat.min_eq_left (by simp only [IntKind.bits];omega)]
 rw [show ((x % 128:Nat):Int) * 2 ^ (7 * k)=((x % 128 * 2 ^ (7 * k):Nat):Int) by norm_cast,wrap_u64 _ (by omega),nat_U u (by omega),nat_U (x % 128 * 2 ^ (7 * k)) (by omega),bOr_U]
 unfold U
 rw [BitVec.toNat_or,BitVec.toNat_ofNat,BitVec.toNat_ofNat,show (2:Nat) ^ 64=18446744073709551616 from rfl,Nat.mod_eq_of_lt (by omega),Nat.mod_eq_of_lt (by omega)]
 rw [Nat.or_comm,Nat.mul_comm (x % 128),←Nat.two_pow_add_eq_or_of_lt hu,Nat.add_comm]
theorem pow_le8{k:Nat}(hk:k≤8):2 ^ (7 * k)≤72057594037927936:=by
 have:2 ^ (7 * k)≤2 ^ 56:=Nat.pow_le_pow_right (by omega) (by omega)
 simpa using this
theorem aJd{cb:Nat}{s:Bs}{b i:Nat}{cs:Array Value}{t:TypeId}{v:Value}(hI:InI cb w s)(ho:b≠cb)(hb:Blk w b cs t)(hc:cs[i]?=some v)(hs:s.length≤1000000000000000)
  (h:∀v' s' w',numD s=some (v',s')→InI cb w' s'→Blk w' b (cs.setIfInBounds i (.int .i64 v')) t→Chg (uL cb) (·=b) w w'→R (.returned rW) w')
  (hn:∀s' w',numD s=none→s'.length≤s.length→InI cb w' s'→Chg (uL cb) (fun _=>False) w w'→R (.panicked [xS]) w') :
  Calls prog 234 #[.pointer (some (blk cb)),.pointer (some ⟨b,i,none⟩)] w R:=by
 refine sh234_ok ?_
 unfold sh234
 refine ⟨fun vs w'=>∃(k u:Nat) (s':Bs),vs=[.int .u64 (u:Int),.int .i64 (k:Int)]∧k≤9∧u < 2 ^ (7 * k)∧InI cb w' s'∧vDec k u s'=vDec 0 0 s∧s'.length≤s.length∧Chg (uL cb) (fun _=>False) w w',
  fun vs _=>match vs with | [_,.int _ i]=>10 - i.toNat | _=>0,⟨0,0,s,rfl,by omega,by simp,hI,rfl,Nat.le_refl _,.refl _ _ _⟩,?_⟩
 rintro _ _ _ w2 ⟨k,u,s2,hvs,hk,hu,hI2,hD,hl2,c2⟩
 simp only [List.cons.injEq,Value.int.injEq,true_and,and_true] at hvs
 obtain ⟨rfl,rfl⟩:=hvs
 refine ⟨?_⟩
 have e3:=pQ w2 (.cells #[.int .u8 0] 5)
 have hb3:=pS w2 #[.int .u8 0] 5
 have hI3:=aCv (S:=fun _=>False) hI2 e3
 have hne:w2.heap.size≠cb:=by have:=Blk.lt hI2;omega
 generalize w2.alloc (.cells #[.int .u8 0] 5)=w3 at *
 have hsz:=c2.size
 refine pP call236 (aEa (i:=0) hI3.1 hne hb3 rfl (by omega) (fun x s1 w4 hs2 hI4 hb4 c4=>pN ⟨rfl,?_⟩) fun he=>?_)
 case refine_2=>
  subst he
  refine hn [] w3 ?_ (by simp) hI3.1 (c2.trans hI3.2)
  unfold numD;rw [←hD];rfl
 subst hs2
 have hx:=UInt8.toNat_lt x
 have c:Chg (uL cb) (fun _=>False) w w4:=(((chg0 c2).trans (chg0 hI3.2)).trans c4).cut fun k hk e=>by omega
 have hb4:Blk w4 w2.heap.size #[.int .u8 ((x.toNat:Nat):Int)] 5:=hb4
 have hl1:s1.length≤s.length:=by simp only [List.length_cons] at hl2;omega
 have bad:¬((k < 9∨x.toNat < 2)∧(k=0∨x.toNat≠0))→R (.panicked [xS]) w4:=fun hbad=>hn s1 w4 (by unfold numD;rw [←hD];simp only [vDec];rw [if_neg hbad];rfl) hl1 hI4 c
 intro K14
 have good:(k < 9∨x.toNat < 2)∧(k=0∨x.toNat≠0)→K14 w4:=by
  intro hg
  have h64:u+x.toNat % 128 * 2 ^ (7 * k) < 18446744073709551616∧(128≤x.toNat→k≤8∧u+x.toNat % 128 * 2 ^ (7 * k) < 2 ^ (7 * (k+1))):=by
   by_cases hk9:k=9
   ·subst hk9
    rw [show (2:Nat) ^ (7 * 9)=9223372036854775808 from rfl] at hu ⊢
    omega
   ·have h8:=pow_le8 (show k≤8 by omega)
    rw [zG]
    have hm:x.toNat % 128 < 128:=Nat.mod_lt _ (by omega)
    generalize 2 ^ (7 * k)=M at *
    have:x.toNat % 128 * M≤127 * M:=Nat.mul_le_mul_right _ (by omega)
    omega
  refine ⟨_,hb4.cell (i:=0) rfl rfl,by rw [qB (by omega) (by omega)];omega,_,hb4.cell (i:=0) rfl rfl,?_⟩
  rw [or_shift hk hu (by omega) h64.1]
  refine pO (fun z=>?_) fun z=>?_
  ·have z:x.toNat < 128:=by have:=of_decide_eq_true z;omega
   refine pP call238 (c_okey h64.1 fun w5 e5=>pN ⟨_,_,rfl,_,rfl,qA ((c.blk hb ho fun h=>h).ext e5) (i:=i) (by rw [add_zero']) (Array.getElem?_eq_some_iff.1 hc).1 fun w6 h6 g6=>?_⟩)
   have hI5:=aCv (S:=fun _=>False) hI4 e5
   refine h _ s1 w6 ?_ (Blk.grown hI5.1 g6 (pV (Ne.symm ho))) h6 ((chg0 (c.trans hI5.2)).trans (aHe g6 (.inr (.inl rfl))))
   unfold numD;rw [←hD];simp only [vDec];rw [if_pos hg,if_pos z];rfl
  ·have z:128≤x.toNat:=by have:=of_decide_eq_false z;omega
   obtain ⟨hk8,hu'⟩:=h64.2 z
   refine ⟨⟨k+1,_,s1,by rw [pW (n:=10) (by omega) (by omega)],by omega,hu',hI4,?_,hl1,c⟩,?_⟩
   ·rw [←hD];simp only [vDec];rw [if_pos hg,if_neg (by omega)]
   ·rw [pW (n:=10) (by omega) (by omega)]
    show 10 - ((k+1:Nat):Int).toNat < 10 - (k:Int).toNat
    omega
 have nz:(((x.toNat:Nat):Int) !=0)=decide (x.toNat≠0):=by
  by_cases h0:x.toNat=0 <;> simp [h0]
 have kz:(((k:Nat):Int)==0)=decide (k=0):=by
  by_cases h0:k=0 <;> simp [h0]
 rw [kz]
 refine pO (fun z9=>?_) fun z9=>?_
 ·have z9:k < 9:=by have:=of_decide_eq_true z9;omega
  refine pO (fun z0=>?_) fun z0=>?_
  ·exact pP call237 (xN (fun _=>pN ⟨rfl,good ⟨.inl z9,.inl (of_decide_eq_true z0)⟩⟩) fun e=>by cases e)
  ·refine ⟨_,hb4.cell (i:=0) rfl rfl,pP call237 (xN (fun e=>pN ⟨rfl,good ⟨.inl z9,.inr ?_⟩⟩) fun e=>bad ?_)⟩
   ·rw [nz] at e;exact of_decide_eq_true e
   ·rw [nz] at e
    have:=of_decide_eq_false e
    have:=of_decide_eq_false z0
    omega
 ·have z9:¬k < 9:=by have:=of_decide_eq_false z9;omega
  refine ⟨_,hb4.cell (i:=0) rfl rfl,pO (fun z2=>?_) fun z2=>?_⟩
  ·have z2:x.toNat < 2:=by have:=of_decide_eq_true z2;omega
   refine pO (fun z0=>?_) fun z0=>?_
   ·exact pP call237 (xN (fun _=>pN ⟨rfl,good ⟨.inr z2,.inl (of_decide_eq_true z0)⟩⟩) fun e=>by cases e)
   ·refine ⟨_,hb4.cell (i:=0) rfl rfl,pP call237 (xN (fun e=>pN ⟨rfl,good ⟨.inr z2,.inr ?_⟩⟩) fun e=>bad ?_)⟩
    ·rw [nz] at e;exact of_decide_eq_true e
    ·rw [nz] at e
     have:=of_decide_eq_false e
     have:=of_decide_eq_false z0
     omega
  ·have z2:¬x.toNat < 2:=by have:=of_decide_eq_false z2;omega
   exact pP call237 (xN (fun e=>by cases e) fun _=>bad (by omega))
theorem aBt{s s':Bs}{v:Int}(h:numD s=some (v,s')):In v∧s'.length≤s.length:=by
 obtain ⟨rfl,hv⟩:=vS h
 exact ⟨hv,by rw [List.length_append];omega⟩
theorem c_imany{cb:Nat}{s:Bs}{b:Nat}{t:TypeId}{v:Value}{m:Nat}(hI:InI cb w s)(ho:b≠cb)(hb:Blk w b #[v] t)(hs:s.length≤1000000000000000)
  (h:∀(v':Nat) s' w',inB.many m s=some (v',s')→InI cb w' s'→Blk w' b #[.int .i64 (v':Int)] t→Chg (uL cb) (·=b) w w'→R (.returned rW) w')
  (hn:∀s' w',inB.many m s=none→s'.length≤s.length→InI cb w' s'→Chg (uL cb) (fun _=>False) w w'→R (.panicked [xS]) w') :
  Calls prog 233 #[.pointer (some (blk cb)),.pointer (some ⟨b,0,none⟩)] w R:=by
 refine sh233_ok ?_
 unfold sh233
 refine ⟨?_⟩
 have e1:=pQ w (.cells #[.int .i64 0] 2)
 have hb1:=pS w #[.int .i64 0] 2
 have hI1:=aCv (S:=fun _=>False) hI e1
 have hne:w.heap.size≠cb:=by have:=Blk.lt hI;omega
 generalize w.alloc (.cells #[.int .i64 0] 2)=w1 at *
 refine pP call234 (aJd (i:=0) hI1.1 hne hb1 rfl hs (fun x s2 w2 hx hI2 hb2 c2=>pN ⟨rfl,?_⟩) fun s2 w2 hx hl2 hI2 c2=>?_)
 case refine_2=>exact hn s2 w2 (by simp only [inB];rw [hx];rfl) hl2 hI2 (hI1.2.trans c2)
 have c:Chg (uL cb) (fun _=>False) w w2:=((chg0 hI1.2).trans c2).cut fun k hk e=>by omega
 have hb2:Blk w2 w.heap.size #[.int .i64 x] 2:=hb2
 obtain ⟨hin,hl2⟩:=aBt hx
 intro K8
 have good:0≤x∧x≤4096→K8 w2:=fun hg=>by
  refine ⟨_,hb2.cell (i:=0) rfl rfl,_,rfl,qA (c.blk hb ho fun h=>h) (i:=0) rfl (by simp) fun w3 h3 g3=>?_⟩
  refine h x.toNat s2 w3 ?_ (Blk.grown hI2 g3 (pV (Ne.symm ho))) ?_ ((chg0 c).trans (aHe g3 (.inr (.inl rfl))))
  ·simp only [inB];rw [hx];simp only [Option.bind_some];rw [if_pos hg]
  ·rw [show ((x.toNat:Nat):Int)=x by omega];exact h3
 have bad:¬(0≤x∧x≤4096)→R (.panicked [xS]) w2:=fun hb=>hn s2 w2 (by simp only [inB];rw [hx];simp only [Option.bind_some];rw [if_neg hb]) hl2 hI2 c
 refine ⟨_,hb2.cell (i:=0) rfl rfl,pO (fun z=>?_) fun z=>?_⟩
 ·have z:=of_decide_eq_true z
  exact ⟨_,hb2.cell (i:=0) rfl rfl,pP call237 (xN (fun e=>pN ⟨rfl,good ⟨z,of_decide_eq_true e⟩⟩) fun e=>bad fun hg=>absurd hg.2 (of_decide_eq_false e))⟩
 ·have z:=of_decide_eq_false z
  exact pP call237 (xN (fun e=>by cases e) fun _=>bad fun hg=>z hg.1)
theorem c_ipair{cb:Nat}{s:Bs}{b:Nat}{t:TypeId}{v:Int × Int}{u1 u2:Value}(hI:InI cb w s)(ho:b≠cb)(hb:Blk w b #[u1,u2] t)(hs:s.length≤1000000000000000)
  (h:∀(v':Int × Int) s' w',inB.pair v s=some (v',s')→InI cb w' s'→Blk w' b #[.int .i64 v'.1,.int .i64 v'.2] t→Chg (uL cb) (·=b) w w'→R (.returned rW) w')
  (hn:∀s' w',inB.pair v s=none→s'.length≤s.length→InI cb w' s'→Chg (uL cb) (·=b) w w'→R (.panicked [xS]) w') :
  Calls prog 235 #[.pointer (some (blk cb)),.pointer (some ⟨b,0,none⟩)] w R:=by
 refine sh235_ok ?_
 unfold sh235
 refine ⟨_,rfl,pP call234 (aJd (b:=b) (i:=0) hI ho hb rfl hs (fun x s1 w1 hx hI1 hb1 c1=>pN ⟨rfl,_,rfl,?_⟩) fun s1 w1 hx hl1 hI1 c1=>?_)⟩
 case refine_2=>exact hn s1 w1 (by simp only [inB];rw [hx];rfl) hl1 hI1 (chg0 c1)
 have hb1:Blk w1 b #[.int .i64 x,u2] t:=hb1
 have l1:=aBt hx
 refine pP call234 (aJd (b:=b) (i:=1) hI1 ho hb1 rfl (by omega) (fun y s2 w2 hy hI2 hb2 c2=>pN ⟨rfl,h (x,y) s2 w2 ?_ hI2 hb2 (c1.trans c2)⟩) fun s2 w2 hy hl2 hI2 c2=>?_)
 ·simp only [inB];rw [hx];simp only [Option.bind_some];rw [hy];rfl
 ·exact hn s2 w2 (by simp only [inB];rw [hx];simp only [Option.bind_some];rw [hy];rfl) (Nat.le_trans hl2 l1.2) hI2 (c1.trans (chg0 c2))
theorem one_eq(x:UInt8):(((x.toNat:Nat):Int)==1)=(x==1):=by
 by_cases h:x=1
 ·subst h;rfl
 ·rw [show (x==1)=false by simpa using h]
  have:x.toNat≠1:=fun e=>h (UInt8.toNat_inj.1 e)
  simp;omega
theorem c_iflag{cb:Nat}{s:Bs}{b i:Nat}{cs:Array Value}{t:TypeId}{v:Bool}(hI:InI cb w s)(ho:b≠cb)(hb:Blk w b cs t)(hc:cs[i]?=some (.bool v))(hs:s.length≤1000000000000000)
  (h:∀v' s' w',inB.flag v s=some (v',s')→InI cb w' s'→Blk w' b (cs.setIfInBounds i (.bool v')) t→Chg (uL cb) (·=b) w w'→R (.returned rW) w')
  (hn:∀s' w',inB.flag v s=none→s'.length≤s.length→InI cb w' s'→Chg (uL cb) (fun _=>False) w w'→R (.panicked [xS]) w') :
  Calls prog 232 #[.pointer (some (blk cb)),.pointer (some ⟨b,i,none⟩)] w R:=by
 refine sh232_ok ?_
 unfold sh232
 refine ⟨?_⟩
 have e1:=pQ w (.cells #[.int .u8 0] 5)
 have hb1:=pS w #[.int .u8 0] 5
 have hI1:=aCv (S:=fun _=>False) hI e1
 have hne:w.heap.size≠cb:=by have:=Blk.lt hI;omega
 generalize w.alloc (.cells #[.int .u8 0] 5)=w1 at *
 refine pP call236 (aEa (i:=0) hI1.1 hne hb1 rfl hs (fun x s2 w2 hx hI2 hb2 c2=>pN ⟨rfl,?_⟩) fun he=>hn s w1 (by subst he;rfl) (Nat.le_refl _) hI1.1 hI1.2)
 subst hx
 have c:Chg (uL cb) (fun _=>False) w w2:=((chg0 hI1.2).trans c2).cut fun k hk e=>by omega
 have hb2:Blk w2 w.heap.size #[.int .u8 ((x.toNat:Nat):Int)] 5:=hb2
 refine ⟨_,hb2.cell (i:=0) rfl rfl,pP call237 (xN (fun e=>pN ⟨rfl,?_⟩) fun e=>?_)⟩
 ·have e:=of_decide_eq_true e
  refine ⟨_,hb2.cell (i:=0) rfl rfl,_,rfl,?_⟩
  rw [one_eq]
  refine qA (c.blk hb ho fun h=>h) (i:=i) (by rw [add_zero']) (Array.getElem?_eq_some_iff.1 hc).1 fun w3 h3 g3=>?_
  exact h _ s2 w3 (by simp only [inB];rw [if_pos (by omega)]) (Blk.grown hI2 g3 (pV (Ne.symm ho))) h3 ((chg0 c).trans (aHe g3 (.inr (.inl rfl))))
 ·have e:=of_decide_eq_false e
  exact hn s2 w2 (by simp only [inB];rw [if_neg (by omega)]) (by simp) hI2 c
theorem c_iflagD{cb:Nat}{s:Bs}{b i:Nat}{cs:Array Value}{t:TypeId}{v:Bool}{u:FrameMode}(hI:InI cb w s)(ho:b≠cb)(hb:Blk w b cs t)(hc:cs[i]?=some (.bool v))(hs:s.length≤1000000000000000)
  (h:∀v' s' w',inB.flag v s=some (v',s')→InI cb w' s'→Blk w' b (cs.setIfInBounds i (.bool v')) t→Chg (uL cb) (·=b) w w'→R (.returned rW) w')
  (hn:∀s' w',inB.flag v s=none→s'.length≤s.length→InI cb w' s'→Chg (uL cb) (fun _=>False) w w'→R (.panicked [xS]) w') :
  CallsDIn Fence.wide 0 prog 232 #[.pointer (some (blk cb)),.pointer (some ⟨b,i,none⟩)] u w (fun e u1 w1=>u1=u∧R e w1):=by
 refine aOy ?_
 unfold sh232d
 refine ⟨?_⟩
 have e1:=pQ w (.cells #[.int .u8 0] 5)
 have hb1:=pS w #[.int .u8 0] 5
 have hI1:=aCv (S:=fun _=>False) hI e1
 have hne:w.heap.size≠cb:=by have:=Blk.lt hI;omega
 generalize w.alloc (.cells #[.int .u8 0] 5)=w1 at *
 refine pP call236 (aEa (i:=0) hI1.1 hne hb1 rfl hs (fun x s2 w2 hx hI2 hb2 c2=>pN ⟨rfl,?_⟩) fun he=>⟨rfl,hn s w1 (by subst he;rfl) (Nat.le_refl _) hI1.1 hI1.2⟩)
 subst hx
 have c:Chg (uL cb) (fun _=>False) w w2:=((chg0 hI1.2).trans c2).cut fun k hk e=>by omega
 have hb2:Blk w2 w.heap.size #[.int .u8 ((x.toNat:Nat):Int)] 5:=hb2
 refine ⟨_,hb2.cell (i:=0) rfl rfl,pP call237 (xN (fun e=>pN ⟨rfl,?_⟩) fun e=>⟨rfl,?_⟩)⟩
 ·have e:=of_decide_eq_true e
  refine ⟨_,hb2.cell (i:=0) rfl rfl,_,rfl,?_⟩
  rw [one_eq]
  refine qA (c.blk hb ho fun h=>h) (i:=i) (by rw [add_zero']) (Array.getElem?_eq_some_iff.1 hc).1 fun w3 h3 g3=>⟨rfl,?_⟩
  exact h _ s2 w3 (by simp only [inB];rw [if_pos (by omega)]) (Blk.grown hI2 g3 (pV (Ne.symm ho))) h3 ((chg0 c).trans (aHe g3 (.inr (.inl rfl))))
 ·have e:=of_decide_eq_false e
  exact hn s2 w2 (by simp only [inB];rw [if_neg (by omega)]) (by simp) hI2 c
theorem aCa(cp x:Value)(w:World):
  (invoke (.fn (.method "joinery/op.num") #[]) #[.iface 164 cp, x]).run prog w = .ok (.enter 234 #[cp, x]) w ∧ (invoke (.fn (.method "joinery/op.flag") #[]) #[.iface 164 cp, x]).run prog w = .ok (.enter 232 #[cp, x]) w ∧
  (invoke (.fn (.method "joinery/op.many") #[]) #[.iface 164 cp, x]).run prog w = .ok (.enter 233 #[cp, x]) w ∧ (invoke (.fn (.method "joinery/op.pair") #[]) #[.iface 164 cp, x]).run prog w = .ok (.enter 235 #[cp, x]) w :=
 ⟨by kernel_rfl,by kernel_rfl,by kernel_rfl,by kernel_rfl⟩
theorem in_methw(cp x y : Value)(w : World): (invoke (.fn (.method "joinery/op.word") #[]) #[.iface 164 cp, x, y]).run prog w = .ok (.enter 236 #[cp, x, y]) w := by kernel_rfl
theorem in_ta(cb:Nat)(w:World):(Instr.typeAssert (.iface 164 (.pointer (some (blk cb)))) 196 219 true).run prog w=.ok (.tuple #[.pointer none,.bool false]) w∧
  (Instr.typeAssert (.iface 164 (.pointer (some (blk cb)))) 196 220 true).run prog w=.ok (.tuple #[.pointer none,.bool false]) w:=⟨by kernel_rfl,by kernel_rfl⟩
theorem in_nil(cb : Nat)(w : World): (nilAhead (prog.types.size + Made.depth) 164 (.pointer (some (blk cb))) "joinery/op.word").run prog w = .ok (some false) w := by kernel_rfl
def InB(cb:Nat):CBase inB where
 I:=InI cb
 own:=uL cb
 lt:=fun hI h=>by cases h;exact Blk.lt hI
 keep:=fun {w w' s} hI h=>⟨by unfold InI Blk;rw [h cb rfl];exact hI,fun k=>Iff.rfl⟩
 len:=List.length
 grow:=0
 numIn:=fun _ h=>aBt h
 wordIn:=fun _ h=>by
  obtain ⟨rfl,h1,h2⟩:=aBi h
  exact ⟨⟨h1,h2⟩,by simp⟩
 flagIn:=fun h=>by
  rw [aKm h];simp
 manyIn:=fun _ h=>by
  obtain ⟨rfl,hn⟩:=aFa h
  exact ⟨Nat.le_trans hn (Nat.le_max_right _ _),by simp⟩
 pairIn:=fun _ h=>by
  simp only [inB] at h
  obtain ⟨⟨a,s1⟩,ha,h⟩:=Option.bind_eq_some_iff.1 h
  obtain ⟨⟨b,s2⟩,hb,h⟩:=Option.bind_eq_some_iff.1 h
  cases h
  have l1:=aBt ha
  have l2:=aBt hb
  exact ⟨⟨l1.1,l2.1⟩,Nat.le_trans l2.2 l1.2⟩
theorem aCt{n:Nat}(h:n≤lim):n≤1000000000000000:=Nat.le_trans h (by decide)
def InC(cb:Nat):Coder inB 164 (.pointer (some (blk cb))) where
 toCBase:=InB cb
 pre:=fun _ _=>True
 nc:=aJv
 ncw:=aNn (in_nil cb)
 ta:=⟨none,false,none,false,rfl,fun w S h=>⟨_,(in_ta cb w).1,h⟩,fun w S h=>⟨_,(in_ta cb w).2,h⟩⟩
 num:=fun {w s b i cs t v R} hI hl ho hb hc _ h hn=>vM (args:=#[.pointer (some ⟨b,i,none⟩)]) (aCa _ _ w).1 (aJd hI ho hb hc (aCt hl) (fun v' s' w' hv hI' hb' c'=>h v' s' w' hv hI' hb' c') fun s' w' hv hl' hI' c'=>hn _ v s' w' hv aAg hl' hI' (by rw [vQ hc];exact c'.blk hb ho fun h=>h) (chg0 c'))
 word:=fun {w s b i cs t v names q n cap R} hI hl ho hb hc _ _ _ _ _ h hn=>vM (args:=#[.pointer (some ⟨b,i,none⟩),.slice q n cap]) (in_methw _ _ _ w) (aEa hI ho hb hc (aCt hl) (fun x s' w' hs hI' hb' c'=>h _ s' w' (by subst hs;rfl) hI' hb' c') fun hs=>hn _ v s w (by subst hs;rfl) aAg (Nat.le_refl _) hI (by rw [vQ hc];exact hb) (.refl _ _ _))
 flag:=fun {w s b i cs t v R} hI hl ho hb hc h hn=>vM (args:=#[.pointer (some ⟨b,i,none⟩)]) (aCa _ _ w).2.1 (c_iflag hI ho hb hc (aCt hl) (fun v' s' w' hv hI' hb' c'=>h v' s' w' hv hI' hb' c') fun s' w' hv hl' hI' c'=>hn _ v s' w' hv aAg hl' hI' (by rw [vQ hc];exact c'.blk hb ho fun h=>h) (chg0 c'))
 flagD:=fun _ {w s b i cs t v u K} hu hI hl ho hb hc h hn=>do_df (args:=#[.pointer (some ⟨b,i,none⟩)]) hu (aCa _ _ w).2.1 (c_iflagD (R:=fun e w1=>aCy K e u w1) hI ho hb hc (aCt hl) (fun v' s' w' hv hI' hb' c'=>h v' s' w' hv hI' hb' c') fun s' w' hv hl' hI' c'=>hn _ v s' w' hv aAg hl' hI' (by rw [vQ hc];exact c'.blk hb ho fun h=>h) (chg0 c'))
 many:=fun {w s b t v R} hI hl ho hb _ h hn=>vM (args:=#[.pointer (some ⟨b,0,none⟩)]) (aCa _ _ w).2.2.1 (c_imany (m:=v) hI ho hb (aCt hl) (fun v' s' w' hv hI' hb' c'=>h v' s' w' hv hI' hb' c') fun s' w' hv hl' hI' c'=>hn _ s' w' hv aAg hl' hI' (chg0 c'))
 pair:=fun {w s b t v R} hI hl ho hb _ h hn=>vM (args:=#[.pointer (some ⟨b,0,none⟩)]) (aCa _ _ w).2.2.2 (c_ipair (v:=v) hI ho hb (aCt hl) (fun v' s' w' hv hI' hb' c'=>h v' s' w' hv hI' hb' c') fun s' w' hv hl' hI' c'=>hn _ s' w' hv aAg hl' hI' c')
theorem c_wrong0(h:R (.returned (.bool false)) w):Calls prog 156 #[.nilIface] w R:=by
 refine aJn ?_
 unfold sh156
 exact ⟨true,fun w=>by kernel_rfl,pZ rfl h⟩
theorem c_wrong1(h:∀w',Ext w w'→R (.returned (.bool true)) w'):Calls prog 156 #[.iface 194 (.agg #[])] w R:=by
 refine aJn ?_
 unfold sh156
 refine ⟨false,fun w=>by kernel_rfl,pY rfl ⟨.tuple #[.agg #[],.bool true],by kernel_rfl,true,rfl,pZ rfl ⟨h _ (pQ w _)⟩⟩⟩
theorem aNm:∀{rest:List PanicEntry},(∀e∈rest,e.goexit=false)→rest.dropWhile (!·.goexit)=[]
 | [],_=>rfl
 | e::rest,h=>by
  rw [List.dropWhile_cons,h e (by simp)]
  exact aNm fun e he=>h e (by simp [he])
theorem aGe{rest:List PanicEntry}{v:Value}(h:∀e∈rest,e.goexit=false):settle (.panicking ({ v:=v,recovered:=true }::rest))=.returning:=by
 simp only [settle,aNm h]
theorem c_catch0{b:Nat}{K:FrameMode→World→Prop}(h:K .returning w):doDf prog (.fn (.func 155) #[.pointer (some (blk b))]) #[] .returning w K:=by
 refine ⟨by simp,155,#[.pointer (some (blk b))],by simp only [invoke];exact call155 #[.pointer (some (blk b))] w,?_⟩
 refine yW func155 rfl fun c₀ cs hu=>?_
 apply wpS_seq
 apply wpS_region
 simp [wpOpsS,go_sem,recoverD,hu,Exit.thenS]
 refine c_wrong0 ?_
 refine wpS_cond (t:=false) (by simp [Act.eval,Array.replicate]) ?_
 simp only [Bool.false_eq_true,if_false]
 refine wpS_of_wp (wp_skip ?_)
 cases c₀
 simp_all [bodyPostS,results,aCy]
 exact h
theorem c_catch1{b:Nat}{v:Bool}{t:TypeId}{ch:List PanicEntry}{K:FrameMode→World→Prop}(hch:NoneCh ch)(hb:Blk w b #[.bool v] t)(h:∀w',Blk w' b #[.bool false] t→w.grownBy w' (some b)→K .returning w'):
  doDf prog (.fn (.func 155) #[.pointer (some (blk b))]) #[] (.panicking ch) w K:=by
 refine ⟨by simp,155,#[.pointer (some (blk b))],by simp only [invoke];exact call155 #[.pointer (some (blk b))] w,?_⟩
 refine yW func155 rfl fun c₀ cs hu=>?_
 apply wpS_seq
 apply wpS_region
 obtain ⟨rest,rfl,hr⟩:=hch
 simp [wpOpsS,go_sem,recoverD,hu,Exit.thenS,xS]
 refine c_wrong1 fun w1 e1=>?_
 refine wpS_cond (t:=true) (by simp [Act.eval,Array.replicate]) ?_
 simp only [if_true]
 apply wpS_region
 have hb1:=hb.ext e1
 have hc:w1.cell? (blk b)=some (.bool v):=hb1.cell (i:=0) rfl rfl
 have hf:w1.frozen? (blk b)=false:=hb1.frozen (i:=0) rfl
 have hst:=(qA hb1 (a:=blk b) (i:=0) (v:=.bool false) (K:=fun w'=>K .returning w') rfl (by simp) fun w2 h2 g2=>
  h w2 h2 (pX ⟨e1.os,e1.tape,e1.output,e1.size,fun k hk _=>e1.block k hk⟩ g2)).out.2.2
 simp [wpOpsS,go_sem,hc,hf,bodyPostS,results,aCy]
 rw [aGe hr]
 exact hst
end Go.Proofs.YtmdboekndjlmgaaGreat
