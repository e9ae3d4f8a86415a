/-
  Printed by a program (gen.py): what the functions of the program do, as formulas; each with the proof that its call is what the formula says.
-/
import Derived.Test.YtmdboekndjlmgaaGreatZ05
set_option maxRecDepth 100000
set_option maxHeartbeats 6400000
namespace Go.Proofs.YtmdboekndjlmgaaGreat
open Go Go.Sh Tryz
variable {w:World}{R:EW}
def sh31(k:OA)(d o:Nat)(l:OA)(g p:Nat)(R:EW)(w:World):Prop:=
 ifB ((((d:Nat):Int):Int) !=((g:Nat):Int)) (R (.returned (.bool false)) w) (∃(e:List Value→World→Prop) (h:List Value→World→Nat),e [iL 0] w∧∀(a:Int),∀(q:Nat→Value) (b:World),e [iL a] b→(ifB (decide ((a:Int) < ((d:Nat):Int))) (doDr b fun c=>∃(f:World→Prop),f c∧doIx k d 1 (a) fun m=>∃i,(∀w,f w→w.cell? m=some (iL i))∧doIx l g 1 (a) fun n=>∃j,(∀w,f w→w.cell? n=some (iL j))∧ifB ((i:Int) !=j) (R (.returned (.bool false)) c) (e [iL (IntKind.wrap .i64 (a+1))] c∧h [iL (IntKind.wrap .i64 (a+1))] c < h [iL a] b)) (R (.returned (.bool true)) b)))
theorem sh31_ok{a:OA}{b c:Nat}{d:OA}{e f:Nat}:sh31 a b c d e f R w→Calls prog 31 #[.slice a b c,.slice d e f] w R:=
 ceqA (fun i=>if i=0 then [(5,.int .i64 0)] else []) func31
def sh33(g:Int)(b:OA)(c h:Nat)(i:Int)(R:EW)(w:World):Prop:=
 cF 48 #[iB g,.slice b c h,iL i] w (retS (fun j a=>∃d e,j=(.tuple #[iL d,.bool e]:Value)∧ifB (!e) (R (.returned (.tuple #[iL 0,.bool false])) a) (doIx b c 2 (d) fun k=>∃f,a.cell? (k.add 1)=some (iL f)∧R (.returned (.tuple #[iL f,.bool true])) a)) (kN R))
theorem sh33_ok{a:Int}{b:OA}{c d:Nat}{e:Int}:sh33 a b c d e R w→Calls prog 33 #[.int .u8 a,.slice b c d,.int .i64 e] w R:=
 ceq func33
def sh34(i j:Int)(a:OA)(e f:Nat)(K L:Int)(R:EW)(w:World):Prop:=
 doAl (.cells #[iL K,iL L] 63) w fun b M=>
 let N:Bool→World→Prop:=fun O g=>ifB O (R (.returned (.tuple #[.slice none 0 0,iL 2])) g) (∃k,g.cell? ((blk b).add 0)=some (iL k)∧cF 48 #[iB i,.slice a e f,iL k] g (retS (fun P Q=>∃c l,P=(.tuple #[iL c,.bool l]:Value)∧doSl a f 2 (0) (c) fun S T U=>doGo prog (.builtin .append #[22,22] 22 #[true,false]) #[.slice none 0 0,.slice S T U] Q (retS (fun V m=>∃n o p,V=(.slice n o p:Value)∧(
 let q:Int→World→Prop:=fun W X=>doDr X (fun r=>∃(d:World→Prop),d r∧∃s,(∀w,d w→w.cell? ((blk b).add 0)=some (iL s))∧∃t,(∀w,d w→w.cell? ((blk b).add 1)=some (iL t))∧doSl a f 2 (W) (((e:Nat):Int)) fun Y Z a0=>doAl (.cells #[iL s,iL t] 63) r fun a1 a2=>doGo prog (.builtin .append #[22,22] 22 #[false,false]) #[.slice n o p,.slice (some (blk a1)) 1 1] a2 (retS (fun a3 u=>∃v x y,a3=(.slice v x y:Value)∧d u∧doGo prog (.builtin .append #[22,22] 22 #[false,false]) #[.slice v x y,.slice Y Z a0] u (retS (fun a4 z=>∃A B C,a4=(.slice A B C:Value)∧d z∧R (.returned (.tuple #[.slice A B C,iL 0])) z) (kN R))) (kN R)))
 ifB l (doDr m fun D=>∃(h:World→Prop),h D∧doIx a e 2 (c) fun a5=>∃E,(∀w,h w→w.cell? (a5.add 1)=some (iL E))∧∃F,(∀w,h w→w.cell? ((blk b).add 1)=some (iL F))∧cF 90 #[iB j,iL E,iL F] D (retS (fun a6 a7=>∃G,a6=(iL G:Value)∧doSt (((blk b).add 1).add 0) (iL G) a7 fun a8=>q (IntKind.wrap .i64 (c+1)) a8) (kN R))) (q c m))) (kN R))) (kN R)))
 cF 88 #[iB i,.slice a e f] M (retS (fun a9 H=>∃I,a9=(.bool I:Value)∧ifB (!I) (R (.returned (.tuple #[.slice none 0 0,iL 2])) H) (cF 89 #[iB j] H (retS (fun b0 b1=>∃J,b0=(.bool J:Value)∧N (!J) b1) (kN R)))) (kN R))
theorem sh34_ok{a b:Int}{c:OA}{d e:Nat}{f g:Int}:sh34 a b c d e f g R w→Calls prog 34 #[.int .u8 a,.int .u8 b,.slice c d e,.agg #[.int .i64 f,.int .i64 g]] w R:=
 ceq func34
def sh36(z:Int)(j:OA)(g A:Nat)(B:Int)(R:EW)(w:World):Prop:=
 cF 88 #[iB z,.slice j g A] w (retS (fun C k=>∃l,C=(.bool l:Value)∧ifB (!l) (R (.returned (.tuple #[.slice none 0 0,.bool false])) k) (∃(h:List Value→World→Prop) (i:List Value→World→Nat),h [.slice none 0 0,.bool false,iL 0] k∧∀(c:OA),∀(d:Nat),∀(e:Nat),∀(f:Bool),∀(a:Int),∀(J:Nat→Value) (b:World),h [.slice c d e,.bool f,iL a] b→(ifB (decide ((a:Int) < ((g:Nat):Int))) (
 let D:(OA)→Nat→Nat→Bool→World→Prop:=fun m n o p q=>h [.slice m n o,.bool p,iL (IntKind.wrap .i64 (a+1))] q∧i [.slice m n o,.bool p,iL (IntKind.wrap .i64 (a+1))] q < i [.slice c d e,.bool f,iL a] b
 doIx j g 2 (a) fun E=>∃r,b.cell? (E.add 0)=some (iL r)∧ifB ((r:Int)==B) (h [.slice c d e,.bool true,iL (IntKind.wrap .i64 (a+1))] b∧i [.slice c d e,.bool true,iL (IntKind.wrap .i64 (a+1))] b < i [.slice c d e,.bool f,iL a] b) (doIx j g 2 (a) fun s=>∃t,b.cell? (s.add 0)=some (iL t)∧∃u,b.cell? (s.add 1)=some (iL u)∧doAl (.cells #[iL t,iL u] 63) b fun F G=>doGo prog (.builtin .append #[22,22] 22 #[false,false]) #[.slice c d e,.slice (some (blk F)) 1 1] G (retS (fun H I=>∃v x y,H=(.slice v x y:Value)∧D v x y f I) (kN R)))) (R (.returned (.tuple #[.slice c d e,.bool f])) b)))) (kN R))
theorem sh36_ok{a:Int}{b:OA}{c d:Nat}{e:Int}:sh36 a b c d e R w→Calls prog 36 #[.int .u8 a,.slice b c d,.int .i64 e] w R:=
 ceqA (fun i=>if i=0 then [(8,.slice none 0 0),(9,.bool false),(10,.int .i64 0)] else []) func36
def sh38(n:Int)(j:OA)(d E:Nat)(F:Int)(R:EW)(w:World):Prop:=
 doAl (.cells #[iL 0,iL 0] 63) w fun e G=>doAl (.cells #[iL 0,iL 0] 63) G fun b H=>doSt ((blk b).add 0) (iL 0) H fun I=>doSt ((blk b).add 1) (iL 0) I fun J=>
 let o:Bool→World→Prop:=fun K k=>∃p,k.cell? ((blk b).add 0)=some (iL p)∧(∃q,k.cell? ((blk b).add 1)=some (iL q)∧doSt ((blk e).add 0) (iL p) k fun L=>doSt ((blk e).add 1) (iL q) L fun l=>∃r,l.cell? ((blk e).add 0)=some (iL r)∧∃s,l.cell? ((blk e).add 1)=some (iL s)∧R (.returned (.tuple #[.agg #[iL r,iL s],.bool K])) l)
 ∃(f:List Value→World→Prop) (g:List Value→World→Nat),f [.bool false,iL 0] J∧∀(c:Bool),∀(a:Int),∀(U:Nat→Value) (h:World),f [.bool c,iL a] h→(
 let M:Bool→World→Prop:=fun N m=>ifB N (
 let O:Bool→World→Prop:=fun t u=>f [.bool t,iL (IntKind.wrap .i64 (a+1))] u∧g [.bool t,iL (IntKind.wrap .i64 (a+1))] u < g [.bool c,iL a] h
 doIx j d 2 (a) fun P=>∃v,m.cell? (P.add 0)=some (iL v)∧cF 87 #[iB n,iL F,iL v] m (retS (fun Q i=>∃x,Q=(.bool x:Value)∧ifB (!x) (doIx j d 2 (a) fun y=>∃z,i.cell? (y.add 0)=some (iL z)∧∃A,i.cell? (y.add 1)=some (iL A)∧doSt ((blk b).add 0) (iL z) i fun S=>doSt ((blk b).add 1) (iL A) S fun B=>f [.bool true,iL (IntKind.wrap .i64 (a+1))] B∧g [.bool true,iL (IntKind.wrap .i64 (a+1))] B < g [.bool c,iL a] h) (O c i)) (kN R))) (o c m)
 cF 88 #[iB n,.slice j d E] h (retS (fun T C=>∃D,T=(.bool D:Value)∧ifB D (M (decide ((a:Int) < ((d:Nat):Int))) C) (o c C)) (kN R)))
theorem sh38_ok{a:Int}{b:OA}{c d:Nat}{e:Int}:sh38 a b c d e R w→Calls prog 38 #[.int .u8 a,.slice b c d,.int .i64 e] w R:=
 ceqA (fun i=>if i=0 then [(9,.bool false),(10,.int .i64 0)] else []) func38
def sh39(i:Int)(d:OA)(b j:Nat)(v:Int)(R:EW)(w:World):Prop:=
 doAl (.cells #[iL 0,iL 0] 63) w fun a x=>cF 48 #[iB i,.slice d b j,iL v] x (retS (fun y z=>∃e A,y=(.tuple #[iL e,.bool A]:Value)∧(
 let B:Bool→World→Prop:=fun C c=>ifB C (doSt ((blk a).add 0) (iL 0) c fun D=>doSt ((blk a).add 1) (iL 0) D fun f=>∃k,f.cell? ((blk a).add 0)=some (iL k)∧∃l,f.cell? ((blk a).add 1)=some (iL l)∧R (.returned (.tuple #[.agg #[iL k,iL l],.bool false])) f) (doIx d b 2 (e) fun m=>∃n,c.cell? (m.add 0)=some (iL n)∧∃o,c.cell? (m.add 1)=some (iL o)∧doSt ((blk a).add 0) (iL n) c fun E=>doSt ((blk a).add 1) (iL o) E fun g=>∃p,g.cell? ((blk a).add 0)=some (iL p)∧∃q,g.cell? ((blk a).add 1)=some (iL q)∧R (.returned (.tuple #[.agg #[iL p,iL q],.bool true])) g)
 cF 88 #[iB i,.slice d b j] z (retS (fun F r=>∃s,F=(.bool s:Value)∧ifB (!s) (doSt ((blk a).add 0) (iL 0) r fun G=>doSt ((blk a).add 1) (iL 0) G fun h=>∃t,h.cell? ((blk a).add 0)=some (iL t)∧∃u,h.cell? ((blk a).add 1)=some (iL u)∧R (.returned (.tuple #[.agg #[iL t,iL u],.bool false])) h) (B (decide ((e:Int)≥((b:Nat):Int))) r)) (kN R)))) (kN R))
theorem sh39_ok{a:Int}{b:OA}{c d:Nat}{e:Int}:sh39 a b c d e R w→Calls prog 39 #[.int .u8 a,.slice b c d,.int .i64 e] w R:=
 ceq func39
def sh40(j k:Int)(v:OA)(l E:Nat)(R:EW)(w:World):Prop:=
 let x:Bool→World→Prop:=fun y m=>ifB y (R (.returned (.tuple #[.slice none 0 0,iL 2])) m) (∃(f:List Value→World→Prop) (n:List Value→World→Nat),f [.slice none 0 0,iL 0] m∧∀(c:OA),∀(d:Nat),∀(e:Nat),∀(a:Int),∀(F:Nat→Value) (b:World),f [.slice c d e,iL a] b→(ifB (decide ((a:Int) < ((l:Nat):Int))) (doIx v l 2 (a) fun o=>∃p,b.cell? (o.add 0)=some (iL p)∧∃q,b.cell? (o.add 1)=some (iL q)∧cF 34 #[iB j,iB k,.slice c d e,.agg #[iL p,iL q]] b (retS (fun z r=>∃g h i A,z=(.tuple #[.slice g h i,iL A]:Value)∧f [.slice g h i,iL (IntKind.wrap .i64 (a+1))] r∧n [.slice g h i,iL (IntKind.wrap .i64 (a+1))] r < n [.slice c d e,iL a] b) (kN R))) (R (.returned (.tuple #[.slice c d e,iL 0])) b)))
 cF 19 #[iB j] w (retS (fun B s=>∃t,B=(.bool t:Value)∧ifB (!t) (R (.returned (.tuple #[.slice none 0 0,iL 2])) s) (cF 89 #[iB k] s (retS (fun C D=>∃u,C=(.bool u:Value)∧x (!u) D) (kN R)))) (kN R))
theorem sh40_ok{a b:Int}{c:OA}{d e:Nat}:sh40 a b c d e R w→Calls prog 40 #[.int .u8 a,.int .u8 b,.slice c d e] w R:=
 ceqA (fun i=>if i=0 then [(8,.slice none 0 0),(9,.int .i64 0)] else []) func40
def sh42(a t:Int)(b:OA)(c d:Nat)(e:OA)(f g:Nat)(R:EW)(w:World):Prop:=
 cF 91 #[iB a,.slice b c d,.slice e f g] w (retS (fun u h=>∃i,u=(.bool i:Value)∧ifB (!i) (R (.returned (.tuple #[.slice none 0 0,iL 2])) h) (doGo prog (.builtin .append #[22,22] 22 #[true,false]) #[.slice none 0 0,.slice b c d] h (retS (fun v x=>∃j k l,v=(.slice j k l:Value)∧doGo prog (.builtin .append #[22,22] 22 #[false,false]) #[.slice j k l,.slice e f g] x (retS (fun y z=>∃m n o,y=(.slice m n o:Value)∧cF 40 #[iB a,iB t,.slice m n o] z (retS (fun A B=>∃p q r s,A=(.tuple #[.slice p q r,iL s]:Value)∧R (.returned (.tuple #[.slice p q r,iL s])) B) (kN R))) (kN R))) (kN R)))) (kN R))
theorem sh42_ok{a b:Int}{c:OA}{d e:Nat}{f:OA}{g h:Nat}:sh42 a b c d e f g h R w→Calls prog 42 #[.int .u8 a,.int .u8 b,.slice c d e,.slice f g h] w R:=
 ceq func42
def sh43(j k:Int)(h:OA)(c N:Nat)(l:OA)(m n:Nat)(R:EW)(w:World):Prop:=
 let O:Bool→World→Prop:=fun P o=>ifB P (R (.returned (.tuple #[.slice none 0 0,iL 2])) o) (∃(i:List Value→World→Prop) (p:List Value→World→Nat),i [.slice none 0 0,iL 0] o∧∀(d:OA),∀(e:Nat),∀(f:Nat),∀(a:Int),∀(a1:Nat→Value) (g:World),i [.slice d e f,iL a] g→(ifB (decide ((a:Int) < ((c:Nat):Int))) (
 let q:(OA)→Nat→Nat→World→Prop:=fun r s t u=>i [.slice r s t,iL (IntKind.wrap .i64 (a+1))] u∧p [.slice r s t,iL (IntKind.wrap .i64 (a+1))] u < p [.slice d e f,iL a] g
 doIx h c 2 (a) fun Q=>∃v,g.cell? (Q.add 0)=some (iL v)∧cF 33 #[iB j,.slice l m n,iL v] g (retS (fun S x=>∃y z,S=(.tuple #[iL y,.bool z]:Value)∧ifB z (doDr x fun A=>∃(b:World→Prop),b A∧doIx h c 2 (a) fun T=>∃B,(∀w,b w→w.cell? (T.add 0)=some (iL B))∧doIx h c 2 (a) fun U=>∃C,(∀w,b w→w.cell? (U.add 1)=some (iL C))∧cF 90 #[iB k,iL C,iL y] A (retS (fun V D=>∃E,V=(iL E:Value)∧b D∧doAl (.cells #[iL B,iL E] 63) D fun W F=>b F∧doGo prog (.builtin .append #[22,22] 22 #[false,false]) #[.slice d e f,.slice (some (blk W)) 1 1] F (retS (fun X G=>∃H I J,X=(.slice H I J:Value)∧b G∧q H I J G) (kN R))) (kN R))) (q d e f x)) (kN R))) (R (.returned (.tuple #[.slice d e f,iL 0])) g)))
 cF 91 #[iB j,.slice h c N,.slice l m n] w (retS (fun Y K=>∃L,Y=(.bool L:Value)∧ifB (!L) (R (.returned (.tuple #[.slice none 0 0,iL 2])) K) (cF 89 #[iB k] K (retS (fun Z a0=>∃M,Z=(.bool M:Value)∧O (!M) a0) (kN R)))) (kN R))
theorem sh43_ok{a b:Int}{c:OA}{d e:Nat}{f:OA}{g h:Nat}:sh43 a b c d e f g h R w→Calls prog 43 #[.int .u8 a,.int .u8 b,.slice c d e,.slice f g h] w R:=
 ceqA (fun i=>if i=0 then [(10,.slice none 0 0),(11,.int .i64 0)] else []) func43
def sh44(j:Int)(h:OA)(f E:Nat)(k:OA)(l m:Nat)(R:EW)(w:World):Prop:=
 cF 91 #[iB j,.slice h f E,.slice k l m] w (retS (fun F n=>∃o,F=(.bool o:Value)∧ifB (!o) (R (.returned (.tuple #[.slice none 0 0,iL 2])) n) (∃(i:List Value→World→Prop) (p:List Value→World→Nat),i [.slice none 0 0,iL 0] n∧∀(b:OA),∀(c:Nat),∀(d:Nat),∀(a:Int),∀(N:Nat→Value) (e:World),i [.slice b c d,iL a] e→(ifB (decide ((a:Int) < ((f:Nat):Int))) (
 let q:(OA)→Nat→Nat→World→Prop:=fun r s t u=>i [.slice r s t,iL (IntKind.wrap .i64 (a+1))] u∧p [.slice r s t,iL (IntKind.wrap .i64 (a+1))] u < p [.slice b c d,iL a] e
 doIx h f 2 (a) fun G=>∃v,e.cell? (G.add 0)=some (iL v)∧cF 33 #[iB j,.slice k l m,iL v] e (retS (fun H g=>∃I x,H=(.tuple #[iL I,.bool x]:Value)∧ifB (!x) (doIx h f 2 (a) fun y=>∃z,g.cell? (y.add 0)=some (iL z)∧∃A,g.cell? (y.add 1)=some (iL A)∧doAl (.cells #[iL z,iL A] 63) g fun J K=>doGo prog (.builtin .append #[22,22] 22 #[false,false]) #[.slice b c d,.slice (some (blk J)) 1 1] K (retS (fun L M=>∃B C D,L=(.slice B C D:Value)∧q B C D M) (kN R))) (q b c d g)) (kN R))) (R (.returned (.tuple #[.slice b c d,iL 0])) e)))) (kN R))
theorem sh44_ok{a:Int}{b:OA}{c d:Nat}{e:OA}{f g:Nat}:sh44 a b c d e f g R w→Calls prog 44 #[.int .u8 a,.slice b c d,.slice e f g] w R:=
 ceqA (fun i=>if i=0 then [(8,.slice none 0 0),(9,.int .i64 0)] else []) func44
def sh45(a:Int)(c:OA)(d e:Nat)(f:OA)(g h:Nat)(R:EW)(w:World):Prop:=
 cF 44 #[iB a,.slice c d e,.slice f g h] w (retS (fun t i=>∃j k l b,t=(.tuple #[.slice j k l,iL b]:Value)∧ifB ((b:Int) !=0) (R (.returned (.tuple #[.slice none 0 0,iL b])) i) (cF 44 #[iB a,.slice f g h,.slice c d e] i (retS (fun u v=>∃m n o x,u=(.tuple #[.slice m n o,iL x]:Value)∧cF 42 #[iB a,iB 1,.slice j k l,.slice m n o] v (retS (fun y z=>∃p q r s,y=(.tuple #[.slice p q r,iL s]:Value)∧R (.returned (.tuple #[.slice p q r,iL s])) z) (kN R))) (kN R)))) (kN R))
theorem sh45_ok{a:Int}{b:OA}{c d:Nat}{e:OA}{f g:Nat}:sh45 a b c d e f g R w→Calls prog 45 #[.int .u8 a,.slice b c d,.slice e f g] w R:=
 ceq func45
def sh48(g:Int)(d:OA)(b q:Nat)(h:Int)(R:EW)(w:World):Prop:=
 cF 88 #[iB g,.slice d b q] w (retS (fun r i=>∃j,r=(.bool j:Value)∧ifB (!j) (R (.returned (.tuple #[iL 0,.bool false])) i) (∃(e:List Value→World→Prop) (k:List Value→World→Nat),e [iL 0] i∧∀(a:Int),∀(v:Nat→Value) (c:World),e [iL a] c→(ifB (decide ((a:Int) < ((b:Nat):Int))) (doIx d b 2 (a) fun s=>∃l,c.cell? (s.add 0)=some (iL l)∧cF 87 #[iB g,iL l,iL h] c (retS (fun t f=>∃m,t=(.bool m:Value)∧ifB (!m) (doDr f fun n=>∃(o:World→Prop),o n∧doIx d b 2 (a) fun u=>∃p,(∀w,o w→w.cell? (u.add 0)=some (iL p))∧R (.returned (.tuple #[iL a,.bool ((p:Int)==h)])) n) (e [iL (IntKind.wrap .i64 (a+1))] f∧k [iL (IntKind.wrap .i64 (a+1))] f < k [iL a] c)) (kN R))) (R (.returned (.tuple #[iL ((b:Nat):Int),.bool false])) c)))) (kN R))
theorem sh48_ok{a:Int}{b:OA}{c d:Nat}{e:Int}:sh48 a b c d e R w→Calls prog 48 #[.int .u8 a,.slice b c d,.int .i64 e] w R:=
 ceqA (fun i=>if i=0 then [(8,.int .i64 0)] else []) func48
def sh49(i:Int)(g:OA)(e E:Nat)(F G:Int)(R:EW)(w:World):Prop:=
 cF 88 #[iB i,.slice g e E] w (retS (fun H m=>∃n,H=(.bool n:Value)∧ifB (!n) (R (.returned (.tuple #[.slice none 0 0,iL 2])) m) (∃(j:List Value→World→Prop) (o:List Value→World→Nat),j [.slice none 0 0,iL 0] m∧∀(b:OA),∀(c:Nat),∀(d:Nat),∀(a:Int),∀(U:Nat→Value) (f:World),j [.slice b c d,iL a] f→(ifB (decide ((a:Int) < ((e:Nat):Int))) (
 let k:(OA)→Nat→Nat→World→Prop:=fun p q r s=>j [.slice p q r,iL (IntKind.wrap .i64 (a+1))] s∧o [.slice p q r,iL (IntKind.wrap .i64 (a+1))] s < o [.slice b c d,iL a] f
 let I:Bool→World→Prop:=fun J h=>ifB J (doIx g e 2 (a) fun t=>∃u,h.cell? (t.add 0)=some (iL u)∧∃v,h.cell? (t.add 1)=some (iL v)∧doAl (.cells #[iL u,iL v] 63) h fun K L=>doGo prog (.builtin .append #[22,22] 22 #[false,false]) #[.slice b c d,.slice (some (blk K)) 1 1] L (retS (fun M N=>∃x y z,M=(.slice x y z:Value)∧k x y z N) (kN R))) (k b c d h)
 doIx g e 2 (a) fun O=>∃A,f.cell? (O.add 0)=some (iL A)∧cF 87 #[iB i,iL A,iL F] f (retS (fun P l=>∃B,P=(.bool B:Value)∧ifB (!B) (doIx g e 2 (a) fun Q=>∃C,l.cell? (Q.add 0)=some (iL C)∧cF 87 #[iB i,iL G,iL C] l (retS (fun S T=>∃D,S=(.bool D:Value)∧I (!D) T) (kN R))) (k b c d l)) (kN R))) (R (.returned (.tuple #[.slice b c d,iL 0])) f)))) (kN R))
theorem sh49_ok{a:Int}{b:OA}{c d:Nat}{e f:Int}:sh49 a b c d e f R w→Calls prog 49 #[.int .u8 a,.slice b c d,.int .i64 e,.int .i64 f] w R:=
 ceqA (fun i=>if i=0 then [(10,.slice none 0 0),(11,.int .i64 0)] else []) func49
def sh50(h:OA)(f j:Nat)(R:EW)(w:World):Prop:=
 ∃(d:List Value→World→Prop) (g:List Value→World→Nat),d [iL 0,iL 0] w∧∀(c:Int),∀(a:Int),∀(k:Nat→Value) (b:World),d [iL c,iL a] b→(ifB (decide ((a:Int) < ((f:Nat):Int))) (doIx h f 2 (a) fun i=>∃e,b.cell? (i.add 1)=some (iL e)∧d [iL (IntKind.wrap .i64 (c+e)),iL (IntKind.wrap .i64 (a+1))] b∧g [iL (IntKind.wrap .i64 (c+e)),iL (IntKind.wrap .i64 (a+1))] b < g [iL c,iL a] b) (R (.returned (iL c)) b))
theorem sh50_ok{a:OA}{b c:Nat}:sh50 a b c R w→Calls prog 50 #[.slice a b c] w R:=
 ceqA (fun i=>if i=0 then [(3,.int .i64 0),(4,.int .i64 0)] else []) func50
def sh51(k:Int)(c:OA)(b p:Nat)(n:Int)(R:EW)(w:World):Prop:=
 cF 88 #[iB k,.slice c b p] w (retS (fun a0 q=>∃r,a0=(.bool r:Value)∧ifB (!r) (R (.returned (.tuple #[.slice none 0 0,iL 0,.bool false,.slice none 0 0])) q) (∃(o:List Value→World→Prop) (s:List Value→World→Nat),o [.slice none 0 0,.slice none 0 0,iL 0] q∧∀(d:OA),∀(e:Nat),∀(f:Nat),∀(g:OA),∀(h:Nat),∀(i:Nat),∀(a:Int),∀(b5:Nat→Value) (j:World),o [.slice d e f,.slice g h i,iL a] j→(ifB (decide ((a:Int) < ((b:Nat):Int))) (
 let t:(OA)→Nat→Nat→(OA)→Nat→Nat→World→Prop:=fun u v x y z A B=>o [.slice u v x,.slice y z A,iL (IntKind.wrap .i64 (a+1))] B∧s [.slice u v x,.slice y z A,iL (IntKind.wrap .i64 (a+1))] B < s [.slice d e f,.slice g h i,iL a] j
 let C:(OA)→Nat→Nat→World→Prop:=fun D E F G=>doIx c b 2 (a) (fun a1=>∃H,G.cell? (a1.add 0)=some (iL H)∧cF 87 #[iB k,iL n,iL H] G (retS (fun a2 l=>∃I,a2=(.bool I:Value)∧ifB I (doIx c b 2 (a) fun J=>∃K,l.cell? (J.add 0)=some (iL K)∧∃L,l.cell? (J.add 1)=some (iL L)∧doAl (.cells #[iL K,iL L] 63) l fun a3 a4=>doGo prog (.builtin .append #[22,22] 22 #[false,false]) #[.slice g h i,.slice (some (blk a3)) 1 1] a4 (retS (fun a5 a6=>∃M N O,a5=(.slice M N O:Value)∧t D E F M N O a6) (kN R))) (t D E F g h i l)) (kN R)))
 doIx c b 2 (a) fun a7=>∃P,j.cell? (a7.add 0)=some (iL P)∧cF 87 #[iB k,iL P,iL n] j (retS (fun a8 m=>∃Q,a8=(.bool Q:Value)∧ifB Q (doIx c b 2 (a) fun S=>∃T,m.cell? (S.add 0)=some (iL T)∧∃U,m.cell? (S.add 1)=some (iL U)∧doAl (.cells #[iL T,iL U] 63) m fun a9 b0=>doGo prog (.builtin .append #[22,22] 22 #[false,false]) #[.slice d e f,.slice (some (blk a9)) 1 1] b0 (retS (fun b1 b2=>∃V W X,b1=(.slice V W X:Value)∧C V W X b2) (kN R))) (C d e f m)) (kN R))) (cF 33 #[iB k,.slice c b p,iL n] j (retS (fun b3 b4=>∃Y Z,b3=(.tuple #[iL Y,.bool Z]:Value)∧R (.returned (.tuple #[.slice d e f,iL Y,.bool Z,.slice g h i])) b4) (kN R)))))) (kN R))
theorem sh51_ok{a:Int}{b:OA}{c d:Nat}{e:Int}:sh51 a b c d e R w→Calls prog 51 #[.int .u8 a,.slice b c d,.int .i64 e] w R:=
 ceqA (fun i=>if i=0 then [(10,.slice none 0 0),(11,.slice none 0 0),(12,.int .i64 0)] else []) func51
def sh53(a:OA)(b c:Nat)(R:EW)(w:World):Prop:=
 doAl (.cells #[.slice a b c] 22) w fun d e=>R (.returned (.func (.func 94) #[] #[.pointer (some (blk d))])) e
theorem sh53_ok{a:OA}{b c:Nat}:sh53 a b c R w→Calls prog 53 #[.slice a b c] w R:=
 ceq func53
def sh54(a g h:Int)(R:EW)(w:World):Prop:=
 cF 95 #[iB a,iL g] w (retS (fun i j=>∃b c,i=(.tuple #[.int .u64 b,iL c]:Value)∧cF 95 #[iB a,iL h] j (retS (fun k d=>∃e l,k=(.tuple #[.int .u64 e,iL l]:Value)∧ifB ((c:Int) !=0) (R (.returned (iL 0)) d) (cF 96 #[.int .u64 b,.int .u64 e] d (retS (fun m n=>∃f,m=(iL f:Value)∧R (.returned (iL f)) n) (kN R)))) (kN R))) (kN R))
theorem sh54_ok{a b c:Int}:sh54 a b c R w→Calls prog 54 #[.int .u8 a,.int .i64 b,.int .i64 c] w R:=
 ceq func54
def sh55(a:Int)(R:EW)(w:World):Prop:=
 R (.returned (.int .u64 (IntKind.wrap .u64 ((IntKind.wrap .u64 a)+9223372036854775808)))) w
theorem sh55_ok{a:Int}:sh55 a R w→Calls prog 55 #[.int .i64 a] w R:=
 ceq func55
end Go.Proofs.YtmdboekndjlmgaaGreat
