/-
  Printed by a program (gen.py): what the functions of the program do, as formulas; each with the proof that its call is what the formula says.
-/
import Derived.Test.YtmdboekndjlmgaaGreatZ05
set_option maxRecDepth 100000
set_option maxHeartbeats 6400000
namespace Go.Proofs.YtmdboekndjlmgaaGreat
open Go Go.Sh Tryz
variable {w:World}{R:EW}
def sh142(p q r:Int)(R:EW)(w:World):Prop:=
 let c:Addr→Bool→World→Prop:=fun s t a=>ifB (!t) (R (.returned (.tuple #[iL 0,iL 2])) a) (∃d e f,a.cell? (s.add 0)=some (.func d e f)∧doCall prog (.func d e f) #[iL q,iL r] a (retS (fun u v=>∃g,u=(iL g:Value)∧R (.returned (.tuple #[iL g,iL 0])) v) (kN R)))
 cF 158 #[] w (retS (fun x b=>∃h,x=(.map h:Value)∧doLk prog 171 (.map h) (iB p) true b fun i=>(∃j k l m,i=(.tuple #[.agg #[.func j k l],.bool m]:Value)∧doAl (.cells #[.nilFunc] 169) b fun n y=>doSt ((blk n).add 0) (.func j k l) y fun z=>c (blk n) m z)∨(i=(.tuple #[.agg #[.nilFunc],.bool false]:Value)∧doAl (.cells #[.nilFunc] 169) b fun o A=>doSt ((blk o).add 0) (.nilFunc) A fun B=>c (blk o) false B)) (kN R))
theorem sh142_ok{a b c:Int}:sh142 a b c R w→Calls prog 142 #[.int .u8 a,.int .i64 b,.int .i64 c] w R:=
 ceq func142
def sh143(a:OA)(b c:Nat)(d e:Int)(R:EW)(w:World):Prop:=
 doSlm a c 2 (d) (e) (((b:Nat):Int)) fun x y z=>ifB ((d:Int)==e) (R (.returned (.slice a b c)) w) (doDr w fun i=>doSl a c 2 (0) (d) fun j k l=>doSl a c 2 (e) (((b:Nat):Int)) fun m n o=>doGo prog (.builtin .append #[22,22] 22 #[false,false]) #[.slice j k l,.slice m n o] i (retS (fun p q=>∃f g h,p=(.slice f g h:Value)∧doSl f h 2 (((g:Nat):Int)) (((b:Nat):Int)) fun r s t=>doGo prog (.builtin .clear #[22] 0 #[false]) #[.slice r s t] q (retS (fun u v=>u=(.tuple #[]:Value)∧R (.returned (.slice f g h)) v) (kN R))) (kN R)))
theorem sh143_ok{a:OA}{b c:Nat}{d e:Int}:sh143 a b c d e R w→Calls prog 143 #[.slice a b c,.int .i64 d,.int .i64 e] w R:=
 ceq func143
def sh144(b:OA)(a c:Nat)(d:Fn)(e f:Array Value)(R:EW)(w:World):Prop:=
 cF 167 #[.slice b a c,iL ((a:Nat):Int),.func d e f] w (retS (fun g h=>g=(.tuple #[]:Value)∧R (.returned (.tuple #[])) h) (kN R))
theorem sh144_ok{a:OA}{b c:Nat}{d:Fn}{e f:Array Value}:sh144 a b c d e f R w→Calls prog 144 #[.slice a b c,.func d e f] w R:=
 ceq func144
def sh145(f g h i:Int)(j:Addr)(R:EW)(w:World):Prop:=
 doAl (.cells #[iL f,iL g] 63) w fun k l=>doAl (.cells #[iL h,iL i] 63) l fun m a=>∃b,a.cell? j=some (iB b)∧∃c,a.cell? ((blk k).add 0)=some (iL c)∧∃d,a.cell? ((blk m).add 0)=some (iL d)∧cF 54 #[iB b,iL c,iL d] a (retS (fun n o=>∃e,n=(iL e:Value)∧R (.returned (iL e)) o) (kN R))
theorem sh145_ok{a b c d:Int}{e:Addr}:sh145 a b c d e R w→Calls prog 145 #[.agg #[.int .i64 a,.int .i64 b],.agg #[.int .i64 c,.int .i64 d],.pointer (some e)] w R:=
 ceq func145
def sh146(b r:Int)(c:OA)(d e:Nat)(f:OA)(g h:Nat)(s:Fn)(t u:Array Value)(R:EW)(w:World):Prop:=
 doAl (.cells #[iB r] 5) w fun v a0=>doAl (.cells #[.func s t u] 152) a0 fun a1 a2=>doAl (.cells #[.slice none 0 0] 22) a2 fun a a3=>
 let a4:Bool→Bool→Bool→Value→Value→Value→Value→Bool→Bool→Value→Value→Value→World→Prop:=fun a5 a6 a7 a8 a9 b0 b1 b2 b3 b4 b5 b6 b7=>cF 168 #[iB b,.slice c d e,.slice f g h] b7 (retS (fun b8 i=>∃m n o,b8=(.func m n o:Value)∧rfW prog (.func m n o) (rU #[iB b,iB r,.slice c d e,.slice f g h,.agg #[.func s t u],undef,.pointer (some (blk v)),undef,undef,.pointer (some (blk a1)),.pointer (some (blk a)),iL 0,undef,undef,iB b,.slice c d e,.bool a5,.bool a6,.bool a7,a8,a9,b0,b1,.bool b2,.bool b3,b4,b5,b6,.bool false,iB b,.slice c d e,.slice f g h,.func m n o,undef,undef,undef,undef,undef,undef,undef,undef,undef,undef,undef,undef,undef,undef,undef,undef,undef,undef,undef,undef,undef,undef,undef,undef,undef,undef,undef,undef,undef,undef,undef,undef,undef,undef] (rfOf f146 0).1 (rfOf f146 0).2.1 (rfOf f146 0).2.2)
 (fun x=>∃y z A,x.cell? (blk a)=some (.slice y z A)∧doSt ((blk a).add 0) (.slice y z A) x fun B=>B.heap[i.heap.size]?=some (.deferred (some []))∧(
 let C:World:=B.putObj i.heap.size (.deferred none)
 ∃D E F,C.cell? (blk a)=some (.slice D E F)∧R (.returned (.tuple #[.slice D E F,iL 0])) C))
 (fun G=>G.heap[i.heap.size]?=some (.deferred (some []))∧(
 let H:World:=G.putObj i.heap.size (.deferred none)
 ∃I J K,H.cell? (blk a)=some (.slice I J K)∧R (.returned (.tuple #[.slice I J K,iL 0])) H))
 [(1,fun _=>False)] i) (kN R))
 let b9:Bool→Bool→Bool→Value→Value→Value→Value→Bool→Bool→Value→Value→Value→Bool→World→Prop:=fun c0 c1 c2 c3 c4 c5 c6 c7 c8 c9 d0 d1 d2 L=>ifB d2 (doSt ((blk a).add 0) (.slice none 0 0) L fun M=>∃N O P,M.cell? (blk a)=some (.slice N O P)∧R (.returned (.tuple #[.slice N O P,iL 2])) M) (a4 c0 c1 c2 (c3:Value) (c4:Value) (c5:Value) (c6:Value) c7 c8 (c9:Value) (d0:Value) (d1:Value) L)
 cF 24 #[iB b,.slice c d e] a3 (retS (fun d3 Q=>∃k,d3=(.bool k:Value)∧ifB (!k) (doSt ((blk a).add 0) (.slice none 0 0) Q fun S=>∃T U V,S.cell? (blk a)=some (.slice T U V)∧R (.returned (.tuple #[.slice T U V,iL 2])) S) (cF 24 #[iB b,.slice f g h] Q (retS (fun d4 p=>∃j,d4=(.bool j:Value)∧ifB (!j) (doSt ((blk a).add 0) (.slice none 0 0) p fun W=>∃X Y Z,W.cell? (blk a)=some (.slice X Y Z)∧R (.returned (.tuple #[.slice X Y Z,iL 2])) W) (∃q,p.cell? (blk v)=some (iB q)∧cF 118 #[iB q] p (retS (fun d5 d6=>∃l,d5=(.bool l:Value)∧b9 k (!k) false (iB b:Value) (.slice f g h:Value) (.bool j:Value) (.bool (!j):Value) (!j) false (iB q:Value) (.bool l:Value) (.bool (!l):Value) (!l) d6) (kN R)))) (kN R)))) (kN R))
theorem sh146_ok{a b:Int}{c:OA}{d e:Nat}{f:OA}{g h:Nat}{i:Fn}{j k:Array Value}:sh146 a b c d e f g h i j k R w→Calls prog 146 #[.int .u8 a,.int .u8 b,.slice c d e,.slice f g h,.agg #[.func i j k]] w R:=
 ceq func146
def aNb(M N j:Addr)(O P Q:Int)(S T:Bool)(l:Nat)(R:EW)(w:World):Prop:=
 doAl (.cells #[iL 0,iL 0,iL 0,.bool false,.bool false] 149) w fun a U=>doSt ((blk a).add 0) (iL O) U fun V=>doSt ((blk a).add 1) (iL P) V fun W=>doSt ((blk a).add 2) (iL Q) W fun X=>doSt ((blk a).add 3) (.bool S) X fun Y=>doSt ((blk a).add 4) (.bool T) Y fun k=>∃e,k.heap[l]?=some (.loop e)∧e.state=.ready∧(
 let c:World:=k.putObj l (.loop { e with state:=.busy })
 ∃m n o,c.cell? (N.add 0)=some (.func m n o)∧∃p,c.cell? ((blk a).add 0)=some (iL p)∧∃q,c.cell? ((blk a).add 1)=some (iL q)∧∃r,c.cell? ((blk a).add 2)=some (iL r)∧∃s,c.cell? ((blk a).add 3)=some (.bool s)∧∃t,c.cell? ((blk a).add 4)=some (.bool t)∧doCall prog (.func m n o) #[.agg #[iL p,iL q,iL r,.bool s,.bool t]] c (retS (fun Z b=>∃u,Z=(.bool u:Value)∧ifB (!u) (∃v,b.heap[l]?=some (.loop v)∧R (.returned (.bool true)) (b.putObj l (.loop { v with state:=.ready,pending:=none }))) (∃f,b.cell? ((blk a).add 1)=some (iL f)∧∃g,b.cell? ((blk a).add 2)=some (iL g)∧(
 let h:Int→World→Prop:=fun a0 i=>∃x y z,i.cell? j=some (.slice x y z)∧(∃A,i.cell? ((blk a).add 0)=some (iL A)∧doAl (.cells #[iL A,iL a0] 63) i fun a1 a2=>doGo prog (.builtin .append #[22,22] 22 #[false,false]) #[.slice x y z,.slice (some (blk a1)) 1 1] a2 (retS (fun a3 a4=>∃B C D,a3=(.slice B C D:Value)∧doSt (j.add 0) (.slice B C D) a4 fun E=>∃F,E.heap[l]?=some (.loop F)∧R (.returned (.bool true)) (E.putObj l (.loop { F with state:=.ready,pending:=none }))) fun _ _=>False))
 let a5:Bool→World→Prop:=fun a6 d=>ifB a6 (∃G,d.cell? M=some (iB G)∧∃H,d.cell? ((blk a).add 1)=some (iL H)∧∃I,d.cell? ((blk a).add 2)=some (iL I)∧cF 142 #[iB G,iL H,iL I] d (retS (fun a7 a8=>∃J a9,a7=(.tuple #[iL J,iL a9]:Value)∧h J a8) fun _ _=>False)) (h (IntKind.wrap .i64 (f+g)) d)
 ∃K,b.cell? ((blk a).add 3)=some (.bool K)∧ifB K (∃L,b.cell? ((blk a).add 4)=some (.bool L)∧a5 L b) (h (IntKind.wrap .i64 (f+g)) b)))) fun _ _=>False))
theorem aLg{dd4:Value}{dd5:Value}{dd6:Value}{dd7:Value}{dd8:Value}{dd9:Value}{dd10:Value}{dd11:Value}{dd12:Value}{dd13:Value}{dd14:Value}{dd15:Value}{dd16:Value}{dd17:Value}{dd18:Value}{dd19:Value}{dd20:Value}{dd21:Value}{dd22:Value}{dd23:Value}{dd24:Value}{dd25:Value}{dd26:Value}{dd27:Value}{dd28:Value}{dd29:Value}{dd30:Value}{dd31:Value}{dd32:Value}{dd33:Value}{dd34:Value}{dd35:Value}{dd36:Value}{dd37:Value}{dd38:Value}{dd39:Value}{dd40:Value}{dd41:Value}{dd42:Value}{dd43:Value}{dd44:Value}{dd45:Value}{dd46:Value}{dd47:Value}{dd48:Value}{dd49:Value}{dd50:Value}{dd51:Value}{dd52:Value}{dd53:Value}{dd54:Value}{dd55:Value}{dd56:Value}{dd57:Value}{dd58:Value}{dd59:Value}{dd60:Value}{dd61:Value}{dd62:Value}{dd63:Value}{dd64:Value}{dd65:Value}{dd66:Value}{dd67:Value}{p_1:Addr}{w_2:Addr}{out_3:Addr}{y68:Int}{y69:Int}{y70:Int}{y71:Bool}{y72:Bool}{l fn D:Nat}(hl:w.heap[l]?=some (.loop (rU #[dd4,dd5,dd6,dd7,dd8,dd9,.pointer (some p_1),dd10,dd11,.pointer (some w_2),.pointer (some out_3),dd12,dd13,dd14,dd15,dd16,dd17,dd18,dd19,dd20,dd21,dd22,dd23,dd24,dd25,dd26,dd27,dd28,dd29,dd30,dd31,dd32,dd33,dd34,dd35,dd36,dd37,dd38,dd39,dd40,dd41,dd42,dd43,dd44,dd45,dd46,dd47,dd48,dd49,dd50,dd51,dd52,dd53,dd54,dd55,dd56,dd57,dd58,dd59,dd60,dd61,dd62,dd63,dd64,dd65,dd66,dd67] (rfOf f146 0).1 (rfOf f146 0).2.1 (rfOf f146 0).2.2 fn D))):aNb p_1 w_2 out_3 y68 y69 y70 y71 y72 l R w→doCall prog (.func (.yield l) #[] #[]) #[.agg #[.int .i64 y68,.int .i64 y69,.int .i64 y70,.bool y71,.bool y72]] w R:=
 fun h=>⟨Old.round_of_eq (ann:=fun _=>[]) 400 qO hl (by kernel_rfl) (by kernel_rfl) h⟩
def sh147(a b c:Int)(d e:Bool)(R:EW)(w:World):Prop:=
 doAl (.cells #[iL a,iL b,iL c,.bool d,.bool e] 149) w fun g f=>R (.returned (.bool true)) f
theorem sh147_ok{a b c:Int}{d e:Bool}:sh147 a b c d e R w→Calls prog 147 #[.agg #[.int .i64 a,.int .i64 b,.int .i64 c,.bool d,.bool e]] w R:=
 ceq func147
def sh148(e f g:Int)(h i:Bool)(R:EW)(w:World):Prop:=
 doAl (.cells #[iL e,iL f,iL g,.bool h,.bool i] 149) w fun b a=>
 let j:Bool→World→Prop:=fun k l=>R (.returned (.bool k)) l
 ∃c,a.cell? ((blk b).add 3)=some (.bool c)∧ifB c (∃d,a.cell? ((blk b).add 4)=some (.bool d)∧j d a) (R (.returned (.bool false)) a)
theorem sh148_ok{a b c:Int}{d e:Bool}:sh148 a b c d e R w→Calls prog 148 #[.agg #[.int .i64 a,.int .i64 b,.int .i64 c,.bool d,.bool e]] w R:=
 ceq func148
def sh149(c d e:Int)(f g:Bool)(R:EW)(w:World):Prop:=
 doAl (.cells #[iL c,iL d,iL e,.bool f,.bool g] 149) w fun h a=>∃b,a.cell? ((blk h).add 4)=some (.bool b)∧R (.returned (.bool (!b))) a
theorem sh149_ok{a b c:Int}{d e:Bool}:sh149 a b c d e R w→Calls prog 149 #[.agg #[.int .i64 a,.int .i64 b,.int .i64 c,.bool d,.bool e]] w R:=
 ceq func149
def sh150(e f g:Int)(h i:Bool)(R:EW)(w:World):Prop:=
 doAl (.cells #[iL e,iL f,iL g,.bool h,.bool i] 149) w fun b a=>∃c,a.cell? ((blk b).add 3)=some (.bool c)∧∃d,a.cell? ((blk b).add 4)=some (.bool d)∧R (.returned (.bool (!(c==d)))) a
theorem sh150_ok{a b c:Int}{d e:Bool}:sh150 a b c d e R w→Calls prog 150 #[.agg #[.int .i64 a,.int .i64 b,.int .i64 c,.bool d,.bool e]] w R:=
 ceq func150
def sh151(a0 a1 a2:Int)(a3:Bool)(a4:OA)(o b7:Nat)(R:EW)(w:World):Prop:=
 doAl (.cells #[iB a0,iL a1,iL a2,.bool a3] 27) w fun a g=>∃p,g.cell? ((blk a).add 0)=some (iB p)∧∃q,g.cell? ((blk a).add 1)=some (iL q)∧∃r,g.cell? ((blk a).add 2)=some (iL r)∧∃s,g.cell? ((blk a).add 3)=some (.bool s)∧cF 119 #[.agg #[iB p,iL q,iL r,.bool s]] g (retS (fun a5 t=>∃u,a5=(.bool u:Value)∧ifB (!u) (R (.returned (.tuple #[.slice none 0 0,.slice none 0 0,iL 2])) t) (∃(n:List Value→World→Prop) (v:List Value→World→Nat),n [.slice none 0 0,.slice none 0 0,iL 0] t∧∀(h:OA),∀(i:Nat),∀(j:Nat),∀(k:OA),∀(l:Nat),∀(m:Nat),∀(d:Int),∀(b8:Nat→Value) (e:World),n [.slice h i j,.slice k l m,iL d] e→(ifB (decide ((d:Int) < ((o:Nat):Int))) (
 let x:(OA)→Nat→Nat→(OA)→Nat→Nat→World→Prop:=fun y z A B C D E=>n [.slice y z A,.slice B C D,iL (IntKind.wrap .i64 (d+1))] E∧v [.slice y z A,.slice B C D,iL (IntKind.wrap .i64 (d+1))] E < v [.slice h i j,.slice k l m,iL d] e
 doIx a4 o 2 (d) fun F=>∃G,e.cell? (F.add 0)=some (iL G)∧∃H,e.cell? (F.add 1)=some (iL H)∧doAl (.cells #[iL 0,iL 0] 63) e fun b a6=>doSt ((blk b).add 0) (iL G) a6 fun a7=>doSt ((blk b).add 1) (iL H) a7 fun c=>∃I,c.cell? ((blk a).add 0)=some (iB I)∧∃J,c.cell? ((blk a).add 1)=some (iL J)∧∃K,c.cell? ((blk a).add 2)=some (iL K)∧∃L,c.cell? ((blk a).add 3)=some (.bool L)∧∃M,c.cell? ((blk b).add 0)=some (iL M)∧∃N,c.cell? ((blk b).add 1)=some (iL N)∧cF 169 #[.agg #[iB I,iL J,iL K,.bool L],.agg #[iL M,iL N]] c (retS (fun a8 f=>∃O,a8=(.bool O:Value)∧ifB O (∃P,f.cell? ((blk b).add 0)=some (iL P)∧∃Q,f.cell? ((blk b).add 1)=some (iL Q)∧doAl (.cells #[iL P,iL Q] 63) f fun a9 b0=>doGo prog (.builtin .append #[22,22] 22 #[false,false]) #[.slice h i j,.slice (some (blk a9)) 1 1] b0 (retS (fun b1 b2=>∃S T U,b1=(.slice S T U:Value)∧x S T U k l m b2) (kN R))) (∃V,f.cell? ((blk b).add 0)=some (iL V)∧∃W,f.cell? ((blk b).add 1)=some (iL W)∧doAl (.cells #[iL V,iL W] 63) f fun b3 b4=>doGo prog (.builtin .append #[22,22] 22 #[false,false]) #[.slice k l m,.slice (some (blk b3)) 1 1] b4 (retS (fun b5 b6=>∃X Y Z,b5=(.slice X Y Z:Value)∧x h i j X Y Z b6) (kN R)))) (kN R))) (R (.returned (.tuple #[.slice h i j,.slice k l m,iL 0])) e)))) (kN R))
theorem sh151_ok{a b c:Int}{d:Bool}{e:OA}{f g:Nat}:sh151 a b c d e f g R w→Calls prog 151 #[.agg #[.int .u8 a,.int .i64 b,.int .i64 c,.bool d],.slice e f g] w R:=
 ceqA (fun i=>if i=0 then [(4,.slice none 0 0),(5,.slice none 0 0),(14,.int .i64 0)] else []) func151
def sh152(e:Int)(f:OA)(g h:Nat)(i:Int)(R:EW)(w:World):Prop:=
 doAl (.cells #[iB e] 5) w fun j k=>doAl (.cells #[.slice f g h] 22) k fun a l=>doAl (.cells #[iL i] 2) l fun m b=>∃n c o,b.cell? (blk a)=some (.slice n c o)∧cF 170 #[iL ((c:Nat):Int),.func (.func 171) #[] #[.pointer (some (blk j)),.pointer (some (blk a)),.pointer (some (blk m))]] b (retS (fun p q=>∃d,p=(iL d:Value)∧R (.returned (iL d)) q) (kN R))
theorem sh152_ok{a:Int}{b:OA}{c d:Nat}{e:Int}:sh152 a b c d e R w→Calls prog 152 #[.int .u8 a,.slice b c d,.int .i64 e] w R:=
 ceq func152
def sh153(m n o:Int)(p q:Bool)(c r s:Addr)(R:EW)(w:World):Prop:=
 doAl (.cells #[iL m,iL n,iL o,.bool p,.bool q] 149) w fun d b=>
 let t:Bool→World→Prop:=fun u v=>R (.returned (.bool u)) v
 ∃e,b.cell? c=some (iB e)∧∃f,b.cell? ((blk d).add 0)=some (iL f)∧∃g,b.cell? r=some (iL g)∧cF 54 #[iB e,iL f,iL g] b (retS (fun x a=>∃h,x=(iL h:Value)∧ifB (decide ((h:Int)≥0)) (∃i,a.cell? c=some (iB i)∧∃j,a.cell? ((blk d).add 0)=some (iL j)∧∃k,a.cell? s=some (iL k)∧cF 54 #[iB i,iL j,iL k] a (retS (fun y z=>∃l,y=(iL l:Value)∧t (decide ((l:Int)≤0)) z) (kN R))) (R (.returned (.bool false)) a)) (kN R))
theorem sh153_ok{a b c:Int}{d e:Bool}{f g h:Addr}:sh153 a b c d e f g h R w→Calls prog 153 #[.agg #[.int .i64 a,.int .i64 b,.int .i64 c,.bool d,.bool e],.pointer (some f),.pointer (some g),.pointer (some h)] w R:=
 ceq func153
def sh154(m:OA)(f r:Nat)(R:EW)(w:World):Prop:=
 cF 172 #[] w (retS (fun n o=>∃g h i,n=(.func g h i:Value)∧∃(c:List Value→World→Prop) (j:List Value→World→Nat),c [iL 0,iL 0] o∧∀(d:Int),∀(a:Int),∀(s:Nat→Value) (b:World),c [iL d,iL a] b→(ifB (decide ((a:Int) < ((f:Nat):Int))) (doIx m f 1 (a) fun p=>∃k,b.cell? p=some (iL k)∧doCall prog (.func g h i) #[iL k] b (retS (fun q l=>∃e,q=(iL e:Value)∧c [iL e,iL (IntKind.wrap .i64 (a+1))] l∧j [iL e,iL (IntKind.wrap .i64 (a+1))] l < j [iL d,iL a] b) (kN R))) (R (.returned (iL d)) b))) (kN R))
theorem sh154_ok{a:OA}{b c:Nat}:sh154 a b c R w→Calls prog 154 #[.slice a b c] w R:=
 ceqA (fun i=>if i=0 then [(2,.int .i64 0),(9,.int .i64 0)] else []) func154
def sh156(a:Value)(R:EW)(w:World):Prop:=
 doEqN prog .eql 20 (.tmp 6) (.const (.nilIface)) (a) fun c=>ifB c (R (.returned (.bool false)) w) (doTA prog (a) 20 194 true w fun d=>∃b,d=(.tuple #[.agg #[],.bool b]:Value)∧ifB b (doAl (.cells #[] 194) w fun f e=>R (.returned (.bool true)) e) (doPanic prog (a) w (kN R)))
theorem aJn{a:Value}:sh156 a R w→Calls prog 156 #[a] w R:=
 ceq func156
def sh157(x_1:OA)(c_t2:TypeId)(c_v3:Value)(R:EW)(w:World):Prop:=
doDr w (fun w4=>
∃q5,x_1=some q5∧(
doNC prog (.func (.method "joinery/op.word") #[.iface c_t2 c_v3] #[]) (
doCall prog (.func (.func 173) #[] #[]) #[] w4 (retS (fun v9 w10=>∃xp6 xn7 xc8,v9=(.slice xp6 xn7 xc8:Value)∧(
doGo prog (.fn (.method "joinery/op.word") #[]) #[.iface c_t2 c_v3, .pointer (some (q5.add 0)), .slice xp6 xn7 xc8] w10 (retS (fun v11 w12 => v11 = (.tuple #[] : Value) ∧ (
doCall prog (.func (.func 174) #[] #[]) #[.agg #[.pointer x_1,.iface c_t2 c_v3]] w12 (retS (fun v16 w17=>∃xp13 xn14 xc15,v16=(.slice xp13 xn14 xc15:Value)∧(
∃(I18:List Value→World→Prop) (μ19:List Value→World→Nat),I18 [.int .i64 0] w17∧(∀(x22:Int),∀(_j20:Nat→Value) (w21:World),I18 [.int .i64 x22] w21→(
ifB (decide ((x22:Int) < ((xn14:Nat):Int))) (
doIx xp13 xn14 1 (x22) (fun a23=>
∃xf24 xx25 xc26,w21.cell? a23=some (.func xf24 xx25 xc26)∧(
doCall prog (.func xf24 xx25 xc26) #[] w21 (retS (fun v27 w28=>v27=(.tuple #[]:Value)∧(
I18 [.int .i64 (IntKind.wrap .i64 (x22+1))] w28∧μ19 [.int .i64 (IntKind.wrap .i64 (x22+1))] w28 < μ19 [.int .i64 x22] w21)) (kN R))))) (
R (.returned (.tuple #[])) w21))))) (kN R)))) (kN R)))) (kN R)))))
theorem sh157_ok{a:OA}{b:TypeId}{c:Value}:sh157 a b c R w→Calls prog 157 #[.pointer a,.iface b c] w R:=
 ceqA (fun i=>if i=0 then [(20,.int .i64 0)] else []) func157
def sh158  (R:EW) (w:World):Prop:=
 doAl (.map #[] 0) w fun a b=>doMu prog 171 (.map (some a)) (iB 1) (.agg #[.func (.func 175) #[] #[]]) b fun c=>doMu prog 171 (.map (some a)) (iB 2) (.agg #[.func (.func 176) #[] #[]]) c fun d=>doMu prog 171 (.map (some a)) (iB 3) (.agg #[.func (.func 177) #[] #[]]) d fun e=>R (.returned (.map (some a))) e
theorem sh158_ok  {R:EW} {w:World}:sh158  R w→Calls prog 158 #[] w R:=
 ceq func158
def sh159  (R:EW) (w:World):Prop:=
 doAl (.cells #[.nilFunc] 205) w fun b c=>doSt ((blk b).add 0) (.func (.func 179) #[] #[]) c fun d=>doAl (.map #[] 0) d fun a e=>doMu prog 178 (.map (some a)) (iB 1) (.agg #[.func (.func 180) #[] #[],.func (.func 181) #[] #[]]) e fun f=>doMu prog 178 (.map (some a)) (iB 2) (.agg #[.func (.func 178) #[] #[],.func (.func 182) #[] #[.pointer (some (blk b))]]) f fun g=>doMu prog 178 (.map (some a)) (iB 3) (.agg #[.func (.func 178) #[] #[],.func (.func 183) #[] #[.pointer (some (blk b))]]) g fun h=>doMu prog 178 (.map (some a)) (iB 4) (.agg #[.func (.func 184) #[] #[],.func (.func 185) #[] #[]]) h fun i=>doMu prog 178 (.map (some a)) (iB 5) (.agg #[.func (.func 186) #[] #[],.func (.func 187) #[] #[]]) i fun j=>R (.returned (.map (some a))) j
theorem sh159_ok  {R:EW} {w:World}:sh159  R w→Calls prog 159 #[] w R:=
 ceq func159
def sh160(a:Int)(R:EW)(w:World):Prop:=
 (0:Int)≤1∧(0:Int)≤1∧(0:Int)≤2∧(0:Int)≤2∧(0:Int)≤4∧(0:Int)≤4∧cF 188 #[.int .u64 (bOr .u64 (bAnd .u64 (Int.fdiv (bOr .u64 (bAnd .u64 (Int.fdiv (bOr .u64 (bAnd .u64 (Int.fdiv a (2 ^ (min (1:Int).toNat (IntKind.bits .u64)))) 6148914691236517205) (IntKind.wrap .u64 ((bAnd .u64 a 6148914691236517205) * 2 ^ (min (1:Int).toNat (IntKind.bits .u64))))) (2 ^ (min (2:Int).toNat (IntKind.bits .u64)))) 3689348814741910323) (IntKind.wrap .u64 ((bAnd .u64 (bOr .u64 (bAnd .u64 (Int.fdiv a (2 ^ (min (1:Int).toNat (IntKind.bits .u64)))) 6148914691236517205) (IntKind.wrap .u64 ((bAnd .u64 a 6148914691236517205) * 2 ^ (min (1:Int).toNat (IntKind.bits .u64))))) 3689348814741910323) * 2 ^ (min (2:Int).toNat (IntKind.bits .u64))))) (2 ^ (min (4:Int).toNat (IntKind.bits .u64)))) 1085102592571150095) (IntKind.wrap .u64 ((bAnd .u64 (bOr .u64 (bAnd .u64 (Int.fdiv (bOr .u64 (bAnd .u64 (Int.fdiv a (2 ^ (min (1:Int).toNat (IntKind.bits .u64)))) 6148914691236517205) (IntKind.wrap .u64 ((bAnd .u64 a 6148914691236517205) * 2 ^ (min (1:Int).toNat (IntKind.bits .u64))))) (2 ^ (min (2:Int).toNat (IntKind.bits .u64)))) 3689348814741910323) (IntKind.wrap .u64 ((bAnd .u64 (bOr .u64 (bAnd .u64 (Int.fdiv a (2 ^ (min (1:Int).toNat (IntKind.bits .u64)))) 6148914691236517205) (IntKind.wrap .u64 ((bAnd .u64 a 6148914691236517205) * 2 ^ (min (1:Int).toNat (IntKind.bits .u64))))) 3689348814741910323) * 2 ^ (min (2:Int).toNat (IntKind.bits .u64))))) 1085102592571150095) * 2 ^ (min (4:Int).toNat (IntKind.bits .u64)))))] w (retS (fun c d=>∃b,c=(.int .u64 b:Value)∧R (.returned (.int .u64 b)) d) (kN R))
theorem sh160_ok{a:Int}:sh160 a R w→Calls prog 160 #[.int .u64 a] w R:=
 ceq func160
end Go.Proofs.YtmdboekndjlmgaaGreat
