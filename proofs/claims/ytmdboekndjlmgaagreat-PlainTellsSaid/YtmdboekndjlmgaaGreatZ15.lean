/-
  Printed by a program (gen.py): what the functions of the program do, as formulas; each with the proof that its call is what the formula says.
-/
import Derived.Test.YtmdboekndjlmgaaGreatZ05
set_option maxRecDepth 100000
set_option maxHeartbeats 6400000
namespace Go.Proofs.YtmdboekndjlmgaaGreat
open Go Go.Sh Tryz
variable {w:World}{R:EW}
def sh161(b a:Int)(R:EW)(w:World):Prop:=
 (0:Int)≤(bAnd .u64 (IntKind.wrap .u64 a) 63)∧(0:Int)≤(IntKind.wrap .u64 (64 - (bAnd .u64 (IntKind.wrap .u64 a) 63)))∧R (.returned (.int .u64 (bOr .u64 (IntKind.wrap .u64 (b * 2 ^ (min ((bAnd .u64 (IntKind.wrap .u64 a) 63):Int).toNat (IntKind.bits .u64)))) (Int.fdiv b (2 ^ (min ((IntKind.wrap .u64 (64 - (bAnd .u64 (IntKind.wrap .u64 a) 63))):Int).toNat (IntKind.bits .u64))))))) w
theorem sh161_ok{a b:Int}:sh161 a b R w→Calls prog 161 #[.int .u64 a,.int .i64 b] w R:=
 ceq func161
def sh162(h:Bool)(R:EW)(w:World):Prop:=
 doAl (.cells #[.bool h] 4) w fun i j=>cF 189 #[] j (retS (fun k l=>∃b c d e f g,k=(.agg #[iL b,.int .u64 c,iL d,.int .u64 e,iL f,.int .u64 g]:Value)∧doAl (.cells #[iL 0,.int .u64 0,iL 0,.int .u64 0,iL 0,.int .u64 0] 206) l fun a m=>doSt ((blk a).add 0) (iL b) m fun n=>doSt ((blk a).add 1) (.int .u64 c) n fun o=>doSt ((blk a).add 2) (iL d) o fun p=>doSt ((blk a).add 3) (.int .u64 e) p fun q=>doSt ((blk a).add 4) (iL f) q fun r=>doSt ((blk a).add 5) (.int .u64 g) r fun s=>R (.returned (.func (.func 190) #[] #[.pointer (some (blk i)),.pointer (some (blk a))])) s) (kN R))
theorem sh162_ok{a:Bool}:sh162 a R w→Calls prog 162 #[.bool a] w R:=
 ceq func162
def sh167(g:OA)(h i:Nat)(e:Int)(j:Fn)(k l:Array Value)(R:EW)(w:World):Prop:=
 ∃(p:List Value→World→Prop) (s:List Value→World→Nat),p [iL 0,iL 20] w∧∀(m:Int),∀(b:Int),∀(G:Nat→Value) (n:World),p [iL m,iL b] n→(ifB (decide ((b:Int)≤e)) (cF 192 #[.slice g h i,iL m,iL b,.func j k l] n (retS (fun A t=>A=(.tuple #[]:Value)∧p [iL b,iL (IntKind.wrap .i64 (b+20))] t∧s [iL b,iL (IntKind.wrap .i64 (b+20))] t < s [iL m,iL b] n) (kN R))) (cF 192 #[.slice g h i,iL m,iL e,.func j k l] n (retS (fun B C=>B=(.tuple #[]:Value)∧∃(q:List Value→World→Prop) (u:List Value→World→Nat),q [iL 20] C∧∀(a:Int),∀(H:Nat→Value) (o:World),q [iL a] o→(ifB (decide ((a:Int) < e)) (∃(r:List Value→World→Prop) (v:List Value→World→Nat),r [iL 0,iL (IntKind.wrap .i64 (2 * a))] o∧∀(d:Int),∀(c:Int),∀(I:Nat→Value) (f:World),r [iL d,iL c] f→(ifB (decide ((c:Int)≤e)) (cF 193 #[.slice g h i,iL d,iL (IntKind.wrap .i64 (d+a)),iL c,.func j k l] f (retS (fun D x=>D=(.tuple #[]:Value)∧r [iL c,iL (IntKind.wrap .i64 (c+(IntKind.wrap .i64 (2 * a))))] x∧v [iL c,iL (IntKind.wrap .i64 (c+(IntKind.wrap .i64 (2 * a))))] x < v [iL d,iL c] f) (kN R))) (
 let y:World→Prop:=fun z=>q [iL (IntKind.wrap .i64 (a * 2))] z∧u [iL (IntKind.wrap .i64 (a * 2))] z < u [iL a] o
 ifB (decide (((IntKind.wrap .i64 (d+a)):Int) < e)) (cF 193 #[.slice g h i,iL d,iL (IntKind.wrap .i64 (d+a)),iL e,.func j k l] f (retS (fun E F=>E=(.tuple #[]:Value)∧y F) (kN R))) (y f)))) (R (.returned (.tuple #[])) o))) (kN R))))
theorem sh167_ok{a:OA}{b c:Nat}{d:Int}{e:Fn}{f g:Array Value}:sh167 a b c d e f g R w→Calls prog 167 #[.slice a b c,.int .i64 d,.func e f g] w R:=
 ceqA (fun i=>if i=4 then [(7,.int .i64 0),(8,.int .i64 0)] else if i=2 then [(6,.int .i64 0)] else if i=0 then [(7,.int .i64 0),(8,.int .i64 0)] else []) func167
def sh168(a:Int)(b:OA)(c d:Nat)(e:OA)(f g:Nat)(R:EW)(w:World):Prop:=
 doAl (.cells #[iB a] 5) w fun h i=>doAl (.cells #[.slice b c d] 22) i fun j k=>doAl (.cells #[.slice e f g] 22) k fun l m=>R (.returned (.func (.func 194) #[] #[.pointer (some (blk j)),.pointer (some (blk l)),.pointer (some (blk h))])) m
theorem sh168_ok{a:Int}{b:OA}{c d:Nat}{e:OA}{f g:Nat}:sh168 a b c d e f g R w→Calls prog 168 #[.int .u8 a,.slice b c d,.slice e f g] w R:=
 ceq func168
def sh169(C D E:Int)(F:Bool)(G H:Int)(R:EW)(w:World):Prop:=
 doAl (.cells #[iB C,iL D,iL E,.bool F] 27) w fun b I=>doAl (.cells #[iL G,iL H] 63) I fun j J=>
 let k:Bool→World→Prop:=fun K L=>R (.returned (.bool K)) L
 doDr J fun l=>∃(a:World→Prop),a l∧∃m,(∀w,a w→w.cell? ((blk b).add 0)=some (iB m))∧∃n,(∀w,a w→w.cell? ((blk b).add 1)=some (iL n))∧∃o,(∀w,a w→w.cell? ((blk b).add 2)=some (iL o))∧∃p,(∀w,a w→w.cell? ((blk b).add 3)=some (.bool p))∧cF 119 #[.agg #[iB m,iL n,iL o,.bool p]] l (retS (fun M d=>∃q,M=(.bool q:Value)∧a d∧ifB q (∃r,(∀w,a w→w.cell? ((blk b).add 0)=some (iB r))∧∃e,(∀w,a w→w.cell? ((blk b).add 1)=some (iL e))∧∃f,(∀w,a w→w.cell? ((blk b).add 2)=some (iL f))∧∃g,(∀w,a w→w.cell? ((blk j).add 0)=some (iL g))∧∃h,(∀w,a w→w.cell? ((blk j).add 1)=some (iL h))∧∃i,(∀w,a w→w.cell? ((blk b).add 3)=some (.bool i))∧cF 159 #[] d (retS (fun N c=>∃s,N=(.map s:Value)∧a c∧doLk prog 178 (.map s) (iB r) false c fun t=>(∃O P Q u v x,t=(.agg #[.func O P Q,.func u v x]:Value)∧a c∧doCall prog (.func u v x) #[iL e,iL f,.agg #[iL g,iL h]] c (retS (fun S y=>∃z,S=(.bool z:Value)∧a y∧k (!(z==i)) y) (kN R)))∨(t=(.agg #[.nilFunc,.nilFunc]:Value)∧a c∧doCall prog (.nilFunc) #[iL e,iL f,.agg #[iL g,iL h]] c (retS (fun T A=>∃B,T=(.bool B:Value)∧a A∧k (!(B==i)) A) (kN R)))) (kN R))) (R (.returned (.bool false)) d)) (kN R))
theorem sh169_ok{a b c:Int}{d:Bool}{e f:Int}:sh169 a b c d e f R w→Calls prog 169 #[.agg #[.int .u8 a,.int .i64 b,.int .i64 c,.bool d],.agg #[.int .i64 e,.int .i64 f]] w R:=
 ceq func169
def sh170(h:Int)(i:Fn)(j k:Array Value)(R:EW)(w:World):Prop:=
 ∃(d:List Value→World→Prop) (e:List Value→World→Nat),d [iL 0,iL h] w∧∀(a:Int),∀(b:Int),∀(m:Nat→Value) (c:World),d [iL a,iL b] c→(ifB (decide ((a:Int) < b)) ((0:Int)≤1∧doCall prog (.func i j k) #[iL (IntKind.wrap .i64 (Int.fdiv (IntKind.wrap .u64 (IntKind.wrap .i64 (a+b))) (2 ^ (min (1:Int).toNat (IntKind.bits .u64)))))] c (retS (fun l f=>∃g,l=(.bool g:Value)∧ifB (!g) (d [iL (IntKind.wrap .i64 ((IntKind.wrap .i64 (Int.fdiv (IntKind.wrap .u64 (IntKind.wrap .i64 (a+b))) (2 ^ (min (1:Int).toNat (IntKind.bits .u64)))))+1)),iL b] f∧e [iL (IntKind.wrap .i64 ((IntKind.wrap .i64 (Int.fdiv (IntKind.wrap .u64 (IntKind.wrap .i64 (a+b))) (2 ^ (min (1:Int).toNat (IntKind.bits .u64)))))+1)),iL b] f < e [iL a,iL b] c) (d [iL a,iL (IntKind.wrap .i64 (Int.fdiv (IntKind.wrap .u64 (IntKind.wrap .i64 (a+b))) (2 ^ (min (1:Int).toNat (IntKind.bits .u64)))))] f∧e [iL a,iL (IntKind.wrap .i64 (Int.fdiv (IntKind.wrap .u64 (IntKind.wrap .i64 (a+b))) (2 ^ (min (1:Int).toNat (IntKind.bits .u64)))))] f < e [iL a,iL b] c)) (kN R))) (R (.returned (iL a)) c))
theorem sh170_ok{a:Int}{b:Fn}{c d:Array Value}:sh170 a b c d R w→Calls prog 170 #[.int .i64 a,.func b c d] w R:=
 ceqA (fun i=>if i=0 then [(5,.int .i64 0),(6,.int .i64 0)] else []) func170
def sh171(j:Int)(k l m:Addr)(R:EW)(w:World):Prop:=
 doDr w fun b=>∃(a:World→Prop),a b∧∃c,(∀w,a w→w.cell? k=some (iB c))∧∃d e n,(∀w,a w→w.cell? l=some (.slice d e n))∧doIx d e 2 (j) fun o=>∃f,(∀w,a w→w.cell? (o.add 0)=some (iL f))∧∃g,(∀w,a w→w.cell? m=some (iL g))∧cF 54 #[iB c,iL f,iL g] b (retS (fun p h=>∃i,p=(iL i:Value)∧a h∧R (.returned (.bool (decide ((i:Int)≥0)))) h) (kN R))
theorem sh171_ok{a:Int}{b c d:Addr}:sh171 a b c d R w→Calls prog 171 #[.int .i64 a,.pointer (some b),.pointer (some c),.pointer (some d)] w R:=
 ceq func171
def sh172  (R:EW) (w:World):Prop:=
 doAl (.cells #[iL 0] 2) w fun a b=>doSt ((blk a).add 0) (iL 0) b fun c=>R (.returned (.func (.func 195) #[] #[.pointer (some (blk a))])) c
theorem sh172_ok  {R:EW} {w:World}:sh172  R w→Calls prog 172 #[] w R:=
 ceq func172
def sh173  (R:EW) (w:World):Prop:=
 doAl (.cells #[.string (⟨#[]⟩:ByteArray),.string (⟨#[105,110,115,101,114,116]⟩:ByteArray),.string (⟨#[100,101,108,101,116,101]⟩:ByteArray),.string (⟨#[103,101,116]⟩:ByteArray),.string (⟨#[109,105,110]⟩:ByteArray),.string (⟨#[109,97,120]⟩:ByteArray),.string (⟨#[102,108,111,111,114]⟩:ByteArray),.string (⟨#[99,101,105,108]⟩:ByteArray),.string (⟨#[98,117,105,108,100]⟩:ByteArray),.string (⟨#[117,110,105,111,110]⟩:ByteArray),.string (⟨#[109,101,101,116]⟩:ByteArray),.string (⟨#[108,101,115,115]⟩:ByteArray),.string (⟨#[97,112,97,114,116]⟩:ByteArray),.string (⟨#[107,101,101,112]⟩:ByteArray),.string (⟨#[112,117,116,115]⟩:ByteArray),.string (⟨#[100,114,111,112,115]⟩:ByteArray),.string (⟨#[114,97,110,107]⟩:ByteArray),.string (⟨#[115,101,108,101,99,116]⟩:ByteArray),.string (⟨#[114,97,110,103,101]⟩:ByteArray),.string (⟨#[99,111,117,110,116]⟩:ByteArray),.string (⟨#[115,117,109]⟩:ByteArray),.string (⟨#[108,105,115,116]⟩:ByteArray),.string (⟨#[115,112,108,105,116]⟩:ByteArray)] 9) w fun a b=>R (.returned (.slice (some (blk a)) 23 23)) b
theorem sh173_ok  {R:EW} {w:World}:sh173  R w→Calls prog 173 #[] w R:=
 ceq func173
def sh174(c0:OA)(c1:Value)(R:EW)(w:World):Prop:=
 doAl (.cells #[.pointer c0,c1] 203) w fun a d=>∃k,d.cell? ((blk a).add 0)=some (.pointer k)∧∃l,k=some l∧∃c,d.cell? (l.add 0)=some (iB c)∧ifB ((c:Int)==1) (∃m,d.cell? ((blk a).add 0)=some (.pointer m)∧∃n,d.cell? ((blk a).add 1)=some (n)∧∃o,d.cell? ((blk a).add 0)=some (.pointer o)∧∃p,d.cell? ((blk a).add 1)=some (p)∧∃q,d.cell? ((blk a).add 0)=some (.pointer q)∧∃r,d.cell? ((blk a).add 1)=some (r)∧∃s,d.cell? ((blk a).add 0)=some (.pointer s)∧∃t,d.cell? ((blk a).add 1)=some (t)∧doAl (.cells #[.func (.func 196) #[.agg #[.pointer m,n]] #[],.func (.func 197) #[.agg #[.pointer o,p]] #[],.func (.func 198) #[.agg #[.pointer q,r]] #[],.func (.func 199) #[.agg #[.pointer s,t]] #[]] 1) d fun c2 c3=>R (.returned (.slice (some (blk c2)) 4 4)) c3) (
 let i:Bool→World→Prop:=fun c4 e=>ifB c4 (∃u,e.cell? ((blk a).add 0)=some (.pointer u)∧∃v,e.cell? ((blk a).add 1)=some (v)∧∃x,e.cell? ((blk a).add 0)=some (.pointer x)∧∃y,e.cell? ((blk a).add 1)=some (y)∧doAl (.cells #[.func (.func 196) #[.agg #[.pointer u,v]] #[],.func (.func 197) #[.agg #[.pointer x,y]] #[]] 1) e fun c5 c6=>R (.returned (.slice (some (blk c5)) 2 2)) c6) (
 let c7:Bool→World→Prop:=fun c8 f=>ifB c8 (∃z,f.cell? ((blk a).add 0)=some (.pointer z)∧∃A,f.cell? ((blk a).add 1)=some (A)∧doAl (.cells #[.func (.func 196) #[.agg #[.pointer z,A]] #[]] 1) f fun c9 d0=>R (.returned (.slice (some (blk c9)) 1 1)) d0) (ifB ((c:Int)==8) (∃B,f.cell? ((blk a).add 0)=some (.pointer B)∧∃C,f.cell? ((blk a).add 1)=some (C)∧∃D,f.cell? ((blk a).add 0)=some (.pointer D)∧∃E,f.cell? ((blk a).add 1)=some (E)∧doAl (.cells #[.func (.func 199) #[.agg #[.pointer B,C]] #[],.func (.func 200) #[.agg #[.pointer D,E]] #[]] 1) f fun d1 d2=>R (.returned (.slice (some (blk d1)) 2 2)) d2) (
 let F:Bool→World→Prop:=fun d3 g=>ifB d3 (∃G,g.cell? ((blk a).add 0)=some (.pointer G)∧∃H,g.cell? ((blk a).add 1)=some (H)∧∃I,g.cell? ((blk a).add 0)=some (.pointer I)∧∃J,g.cell? ((blk a).add 1)=some (J)∧∃K,g.cell? ((blk a).add 0)=some (.pointer K)∧∃L,g.cell? ((blk a).add 1)=some (L)∧doAl (.cells #[.func (.func 196) #[.agg #[.pointer G,H]] #[],.func (.func 201) #[.agg #[.pointer I,J]] #[],.func (.func 199) #[.agg #[.pointer K,L]] #[]] 1) g fun d4 d5=>R (.returned (.slice (some (blk d4)) 3 3)) d5) (
 let M:Bool→World→Prop:=fun d6 b=>ifB d6 (∃N,b.cell? ((blk a).add 0)=some (.pointer N)∧∃O,b.cell? ((blk a).add 1)=some (O)∧∃P,b.cell? ((blk a).add 0)=some (.pointer P)∧∃Q,b.cell? ((blk a).add 1)=some (Q)∧doAl (.cells #[.func (.func 196) #[.agg #[.pointer N,O]] #[],.func (.func 201) #[.agg #[.pointer P,Q]] #[]] 1) b fun d7 d8=>R (.returned (.slice (some (blk d7)) 2 2)) d8) (ifB ((c:Int)==13) (∃S,b.cell? ((blk a).add 0)=some (.pointer S)∧∃T,b.cell? ((blk a).add 1)=some (T)∧∃U,b.cell? ((blk a).add 0)=some (.pointer U)∧∃V,b.cell? ((blk a).add 1)=some (V)∧doAl (.cells #[.func (.func 196) #[.agg #[.pointer S,T]] #[],.func (.func 202) #[.agg #[.pointer U,V]] #[]] 1) b fun d9 e0=>R (.returned (.slice (some (blk d9)) 2 2)) e0) (ifB ((c:Int)==14) (∃W,b.cell? ((blk a).add 0)=some (.pointer W)∧∃X,b.cell? ((blk a).add 1)=some (X)∧∃Y,b.cell? ((blk a).add 0)=some (.pointer Y)∧∃Z,b.cell? ((blk a).add 1)=some (Z)∧∃a0,b.cell? ((blk a).add 0)=some (.pointer a0)∧∃a1,b.cell? ((blk a).add 1)=some (a1)∧doAl (.cells #[.func (.func 196) #[.agg #[.pointer W,X]] #[],.func (.func 199) #[.agg #[.pointer Y,Z]] #[],.func (.func 200) #[.agg #[.pointer a0,a1]] #[]] 1) b fun e1 e2=>R (.returned (.slice (some (blk e1)) 3 3)) e2) (ifB ((c:Int)==15) (∃a2,b.cell? ((blk a).add 0)=some (.pointer a2)∧∃a3,b.cell? ((blk a).add 1)=some (a3)∧∃a4,b.cell? ((blk a).add 0)=some (.pointer a4)∧∃a5,b.cell? ((blk a).add 1)=some (a5)∧doAl (.cells #[.func (.func 196) #[.agg #[.pointer a2,a3]] #[],.func (.func 203) #[.agg #[.pointer a4,a5]] #[]] 1) b fun e3 e4=>R (.returned (.slice (some (blk e3)) 2 2)) e4) (ifB ((c:Int)==17) (∃a6,b.cell? ((blk a).add 0)=some (.pointer a6)∧∃a7,b.cell? ((blk a).add 1)=some (a7)∧∃a8,b.cell? ((blk a).add 0)=some (.pointer a8)∧∃a9,b.cell? ((blk a).add 1)=some (a9)∧doAl (.cells #[.func (.func 196) #[.agg #[.pointer a6,a7]] #[],.func (.func 204) #[.agg #[.pointer a8,a9]] #[]] 1) b fun e5 e6=>R (.returned (.slice (some (blk e5)) 2 2)) e6) (
 let j:Bool→World→Prop:=fun e7 h=>ifB e7 (∃b0,h.cell? ((blk a).add 0)=some (.pointer b0)∧∃b1,h.cell? ((blk a).add 1)=some (b1)∧∃b2,h.cell? ((blk a).add 0)=some (.pointer b2)∧∃b3,h.cell? ((blk a).add 1)=some (b3)∧∃b4,h.cell? ((blk a).add 0)=some (.pointer b4)∧∃b5,h.cell? ((blk a).add 1)=some (b5)∧doAl (.cells #[.func (.func 196) #[.agg #[.pointer b0,b1]] #[],.func (.func 205) #[.agg #[.pointer b2,b3]] #[],.func (.func 206) #[.agg #[.pointer b4,b5]] #[]] 1) h fun e8 e9=>R (.returned (.slice (some (blk e8)) 3 3)) e9) (R (.returned (.slice none 0 0)) h)
 ifB ((c:Int)==18) (j true b) (ifB ((c:Int)==19) (j true b) (j ((c:Int)==20) b)))))))
 ifB ((c:Int)==11) (M true g) (M ((c:Int)==12) g))
 ifB ((c:Int)==9) (F true f) (F ((c:Int)==10) f)))
 ifB ((c:Int)==4) (∃b6,e.cell? ((blk a).add 0)=some (.pointer b6)∧∃b7,e.cell? ((blk a).add 1)=some (b7)∧doAl (.cells #[.func (.func 196) #[.agg #[.pointer b6,b7]] #[]] 1) e fun f0 f1=>R (.returned (.slice (some (blk f0)) 1 1)) f1) (ifB ((c:Int)==5) (∃b8,e.cell? ((blk a).add 0)=some (.pointer b8)∧∃b9,e.cell? ((blk a).add 1)=some (b9)∧doAl (.cells #[.func (.func 196) #[.agg #[.pointer b8,b9]] #[]] 1) e fun f2 f3=>R (.returned (.slice (some (blk f2)) 1 1)) f3) (c7 ((c:Int)==21) e)))
 ifB ((c:Int)==2) (i true d) (ifB ((c:Int)==3) (i true d) (ifB ((c:Int)==6) (i true d) (ifB ((c:Int)==7) (i true d) (ifB ((c:Int)==16) (i true d) (i ((c:Int)==22) d))))))
theorem sh174_ok{a:OA}{b:Value}:sh174 a b R w→Calls prog 174 #[.agg #[.pointer a,b]] w R:=
 ceq func174
def sh175(a b:Int)(R:EW)(w:World):Prop:=
 R (.returned (iL a)) w
theorem sh175_ok{a b:Int}:sh175 a b R w→Calls prog 175 #[.int .i64 a,.int .i64 b] w R:=
 ceq func175
def sh176(b a:Int)(R:EW)(w:World):Prop:=
 R (.returned (iL a)) w
theorem sh176_ok{a b:Int}:sh176 a b R w→Calls prog 176 #[.int .i64 a,.int .i64 b] w R:=
 ceq func176
def sh177(a b:Int)(R:EW)(w:World):Prop:=
 R (.returned (iL (IntKind.wrap .i64 (a+b)))) w
theorem sh177_ok{a b:Int}:sh177 a b R w→Calls prog 177 #[.int .i64 a,.int .i64 b] w R:=
 ceq func177
def sh178(a b:Int)(R:EW)(w:World):Prop:=
 R (.returned (.bool true)) w
theorem sh178_ok{a b:Int}:sh178 a b R w→Calls prog 178 #[.int .i64 a,.int .i64 b] w R:=
 ceq func178
def sh179(b c a:Int)(R:EW)(w:World):Prop:=
 let d:Bool→World→Prop:=fun e f=>R (.returned (.bool e)) f
 ifB (decide ((a:Int)≥b)) (d (decide ((a:Int)≤c)) w) (R (.returned (.bool false)) w)
theorem sh179_ok{a b c:Int}:sh179 a b c R w→Calls prog 179 #[.int .i64 a,.int .i64 b,.int .i64 c] w R:=
 ceq func179
def sh180(a b:Int)(R:EW)(w:World):Prop:=
 let c:Bool→World→Prop:=fun d e=>R (.returned (.bool d)) e
 ifB ((a:Int)==0) (c ((b:Int)==0) w) (R (.returned (.bool false)) w)
theorem sh180_ok{a b:Int}:sh180 a b R w→Calls prog 180 #[.int .i64 a,.int .i64 b] w R:=
 ceq func180
def sh181(d e a b:Int)(R:EW)(w:World):Prop:=
 doAl (.cells #[iL a,iL b] 63) w fun f c=>R (.returned (.bool true)) c
theorem sh181_ok{a b c d:Int}:sh181 a b c d R w→Calls prog 181 #[.int .i64 a,.int .i64 b,.agg #[.int .i64 c,.int .i64 d]] w R:=
 ceq func181
def sh182(g h i j:Int)(k:Addr)(R:EW)(w:World):Prop:=
 doAl (.cells #[iL i,iL j] 63) w fun l a=>∃b c d,a.cell? k=some (.func b c d)∧∃e,a.cell? ((blk l).add 0)=some (iL e)∧doCall prog (.func b c d) #[iL g,iL h,iL e] a (retS (fun m n=>∃f,m=(.bool f:Value)∧R (.returned (.bool f)) n) (kN R))
theorem sh182_ok{a b c d:Int}{e:Addr}:sh182 a b c d e R w→Calls prog 182 #[.int .i64 a,.int .i64 b,.agg #[.int .i64 c,.int .i64 d],.pointer (some e)] w R:=
 ceq func182
end Go.Proofs.YtmdboekndjlmgaaGreat
