/-
  Printed by a program (gen.py): what the functions of the program do, as formulas; each with the proof that its call is what the formula says.
-/
import Derived.Test.YtmdboekndjlmgaaGreatZ05
set_option maxRecDepth 100000
set_option maxHeartbeats 6400000
namespace Go.Proofs.YtmdboekndjlmgaaGreat
open Go Go.Sh Tryz
variable {w:World}{R:EW}
def sh183(g h i j:Int)(k:Addr)(R:EW)(w:World):Prop:=
 doAl (.cells #[iL i,iL j] 63) w fun l a=>∃b c d,a.cell? k=some (.func b c d)∧∃e,a.cell? ((blk l).add 1)=some (iL e)∧doCall prog (.func b c d) #[iL g,iL h,iL e] a (retS (fun m n=>∃f,m=(.bool f:Value)∧R (.returned (.bool f)) n) (kN R))
theorem sh183_ok{a b c d:Int}{e:Addr}:sh183 a b c d e R w→Calls prog 183 #[.int .i64 a,.int .i64 b,.agg #[.int .i64 c,.int .i64 d],.pointer (some e)] w R:=
 ceq func183
def sh184(a b:Int)(R:EW)(w:World):Prop:=
 let c:Bool→World→Prop:=fun d e=>R (.returned (.bool d)) e
 ifB (decide ((a:Int) > 0)) (ifB (decide ((b:Int)≥0)) (c (decide ((b:Int) < a)) w) (R (.returned (.bool false)) w)) (R (.returned (.bool false)) w)
theorem sh184_ok{a b:Int}:sh184 a b R w→Calls prog 184 #[.int .i64 a,.int .i64 b] w R:=
 ceq func184
def sh185(a c g h:Int)(R:EW)(w:World):Prop:=
 doAl (.cells #[iL g,iL h] 63) w fun d b=>
 let i:Bool→World→Prop:=fun j k=>R (.returned (.bool j)) k
 ∃e,b.cell? ((blk d).add 0)=some (iL e)∧a≠(0:Int)∧ifB (((Int.tmod e a):Int)==c) (R (.returned (.bool true)) b) (∃f,b.cell? ((blk d).add 0)=some (iL f)∧a≠(0:Int)∧i (((IntKind.wrap .i64 ((Int.tmod f a)+a)):Int)==c) b)
theorem sh185_ok{a b c d:Int}:sh185 a b c d R w→Calls prog 185 #[.int .i64 a,.int .i64 b,.agg #[.int .i64 c,.int .i64 d]] w R:=
 ceq func185
def sh186(a b:Int)(R:EW)(w:World):Prop:=
 R (.returned (.bool (((bOr .i64 a b):Int)==a))) w
theorem sh186_ok{a b:Int}:sh186 a b R w→Calls prog 186 #[.int .i64 a,.int .i64 b] w R:=
 ceq func186
def sh187(c d e f:Int)(R:EW)(w:World):Prop:=
 doAl (.cells #[iL e,iL f] 63) w fun g a=>∃b,a.cell? ((blk g).add 0)=some (iL b)∧R (.returned (.bool (((bAnd .i64 b c):Int)==d))) a
theorem sh187_ok{a b c d:Int}:sh187 a b c d R w→Calls prog 187 #[.int .i64 a,.int .i64 b,.agg #[.int .i64 c,.int .i64 d]] w R:=
 ceq func187
def sh188(a:Int)(R:EW)(w:World):Prop:=
 (0:Int)≤8∧(0:Int)≤8∧(0:Int)≤16∧(0:Int)≤16∧(0:Int)≤32∧(0:Int)≤32∧R (.returned (.int .u64 (bOr .u64 (Int.fdiv (bOr .u64 (bAnd .u64 (Int.fdiv (bOr .u64 (bAnd .u64 (Int.fdiv a (2 ^ (min (8:Int).toNat (IntKind.bits .u64)))) 71777214294589695) (IntKind.wrap .u64 ((bAnd .u64 a 71777214294589695) * 2 ^ (min (8:Int).toNat (IntKind.bits .u64))))) (2 ^ (min (16:Int).toNat (IntKind.bits .u64)))) 281470681808895) (IntKind.wrap .u64 ((bAnd .u64 (bOr .u64 (bAnd .u64 (Int.fdiv a (2 ^ (min (8:Int).toNat (IntKind.bits .u64)))) 71777214294589695) (IntKind.wrap .u64 ((bAnd .u64 a 71777214294589695) * 2 ^ (min (8:Int).toNat (IntKind.bits .u64))))) 281470681808895) * 2 ^ (min (16:Int).toNat (IntKind.bits .u64))))) (2 ^ (min (32:Int).toNat (IntKind.bits .u64)))) (IntKind.wrap .u64 ((bOr .u64 (bAnd .u64 (Int.fdiv (bOr .u64 (bAnd .u64 (Int.fdiv a (2 ^ (min (8:Int).toNat (IntKind.bits .u64)))) 71777214294589695) (IntKind.wrap .u64 ((bAnd .u64 a 71777214294589695) * 2 ^ (min (8:Int).toNat (IntKind.bits .u64))))) (2 ^ (min (16:Int).toNat (IntKind.bits .u64)))) 281470681808895) (IntKind.wrap .u64 ((bAnd .u64 (bOr .u64 (bAnd .u64 (Int.fdiv a (2 ^ (min (8:Int).toNat (IntKind.bits .u64)))) 71777214294589695) (IntKind.wrap .u64 ((bAnd .u64 a 71777214294589695) * 2 ^ (min (8:Int).toNat (IntKind.bits .u64))))) 281470681808895) * 2 ^ (min (16:Int).toNat (IntKind.bits .u64))))) * 2 ^ (min (32:Int).toNat (IntKind.bits .u64))))))) w
theorem sh188_ok{a:Int}:sh188 a R w→Calls prog 188 #[.int .u64 a] w R:=
 ceq func188
def sh189  (R:EW) (w:World):Prop:=
 doAl (.cells #[iL 0,.int .u64 0,iL 0,.int .u64 0,iL 0,.int .u64 0] 206) w fun a i=>doSt ((blk a).add 0) (iL 30) i fun j=>doSt ((blk a).add 1) (.int .u64 13787848793156543929) j fun k=>doSt ((blk a).add 2) (iL 27) k fun l=>doSt ((blk a).add 3) (.int .u64 10723151780598845931) l fun m=>doSt ((blk a).add 4) (iL 31) m fun n=>doSt ((blk a).add 5) (.int .u64 1) n fun b=>∃c,b.cell? ((blk a).add 0)=some (iL c)∧∃d,b.cell? ((blk a).add 1)=some (.int .u64 d)∧∃e,b.cell? ((blk a).add 2)=some (iL e)∧∃f,b.cell? ((blk a).add 3)=some (.int .u64 f)∧∃g,b.cell? ((blk a).add 4)=some (iL g)∧∃h,b.cell? ((blk a).add 5)=some (.int .u64 h)∧R (.returned (.agg #[iL c,.int .u64 d,iL e,.int .u64 f,iL g,.int .u64 h])) b
theorem sh189_ok  {R:EW} {w:World}:sh189  R w→Calls prog 189 #[] w R:=
 ceq func189
def sh190(m:Fn)(n o:Array Value)(p q:Addr)(R:EW)(w:World):Prop:=
 ∃(c:List Value→World→Prop) (f:List Value→World→Nat),c [iL 0] w∧∀(a:Int),∀(t:Nat→Value) (b:World),c [iL a] b→(ifB (decide ((a:Int) < 3)) (
 let g:Int→World→Prop:=fun r d=>doIx (some q) 3 2 (r) (fun h=>∃i,d.cell? (h.add 0)=some (iL i)∧∃j,d.cell? (h.add 1)=some (.int .u64 j)∧doCall prog (.func m n o) #[.agg #[iL i,.int .u64 j]] d (retS (fun s e=>∃k,s=(.bool k:Value)∧ifB (!k) (R (.returned (.tuple #[])) e) (c [iL (IntKind.wrap .i64 (a+1))] e∧f [iL (IntKind.wrap .i64 (a+1))] e < f [iL a] b)) (kN R)))
 ∃l,b.cell? p=some (.bool l)∧ifB l (g (IntKind.wrap .i64 (2 - a)) b) (g a b)) (R (.returned (.tuple #[])) b))
theorem sh190_ok{a:Fn}{b c:Array Value}{d e:Addr}:sh190 a b c d e R w→Calls prog 190 #[.func a b c,.pointer (some d),.pointer (some e)] w R:=
 ceqA (fun i=>if i=0 then [(5,.int .i64 0)] else []) func190
def sh192(b:OA)(c V:Nat)(l J:Int)(K:Fn)(L M:Array Value)(R:EW)(w:World):Prop:=
 ∃(h:List Value→World→Prop) (m:List Value→World→Nat),h [iL (IntKind.wrap .i64 (l+1))] w∧∀(d:Int),∀(W:Nat→Value) (g:World),h [iL d] g→(ifB (decide ((d:Int) < J)) (
 let n:World→Prop:=fun o=>h [iL (IntKind.wrap .i64 (d+1))] o∧m [iL (IntKind.wrap .i64 (d+1))] o < m [iL d] g
 ∃(i:List Value→World→Prop) (p:List Value→World→Nat),i [iL d] g∧∀(a:Int),∀(X:Nat→Value) (j:World),i [iL a] j→(
 let N:Bool→World→Prop:=fun O q=>ifB O (doDr q fun r=>∃(e:World→Prop),e r∧doIx b c 2 (IntKind.wrap .i64 (a - 1)) fun s=>∃t,(∀w,e w→w.cell? (s.add 0)=some (iL t))∧∃u,(∀w,e w→w.cell? (s.add 1)=some (iL u))∧doIx b c 2 (a) fun v=>∃x,(∀w,e w→w.cell? (v.add 0)=some (iL x))∧∃y,(∀w,e w→w.cell? (v.add 1)=some (iL y))∧doIx b c 2 (a) fun z=>doSt (z.add 0) (iL t) r fun P=>doSt (z.add 1) (iL u) P fun Q=>doIx b c 2 (IntKind.wrap .i64 (a - 1)) fun A=>doSt (A.add 0) (iL x) Q fun S=>doSt (A.add 1) (iL y) S fun B=>i [iL (IntKind.wrap .i64 (a - 1))] B∧p [iL (IntKind.wrap .i64 (a - 1))] B < p [iL a] j) (n q)
 doDr j fun k=>∃(f:World→Prop),f k∧ifB (decide ((a:Int) > l)) (doIx b c 2 (a) fun C=>∃D,(∀w,f w→w.cell? (C.add 0)=some (iL D))∧∃E,(∀w,f w→w.cell? (C.add 1)=some (iL E))∧doIx b c 2 (IntKind.wrap .i64 (a - 1)) fun F=>∃G,(∀w,f w→w.cell? (F.add 0)=some (iL G))∧∃H,(∀w,f w→w.cell? (F.add 1)=some (iL H))∧doCall prog (.func K L M) #[.agg #[iL D,iL E],.agg #[iL G,iL H]] k (retS (fun T U=>∃I,T=(iL I:Value)∧N (decide ((I:Int) < 0)) U) (kN R))) (n k))) (R (.returned (.tuple #[])) g))
theorem sh192_ok{a:OA}{b c:Nat}{d e:Int}{f:Fn}{g h:Array Value}:sh192 a b c d e f g h R w→Calls prog 192 #[.slice a b c,.int .i64 d,.int .i64 e,.func f g h] w R:=
 ceqA (fun i=>if i=2 then [(9,.int .i64 0)] else if i=0 then [(8,.int .i64 0)] else []) func192
def sh195(e:Int)(a:Addr)(R:EW)(w:World):Prop:=
 ∃b,w.cell? a=some (iL b)∧doSt (a.add 0) (iL (IntKind.wrap .i64 (b+e))) w fun c=>∃d,c.cell? a=some (iL d)∧R (.returned (iL d)) c
theorem sh195_ok{a:Int}{b:Addr}:sh195 a b R w→Calls prog 195 #[.int .i64 a,.pointer (some b)] w R:=
 ceq func195
def sh196(i:OA)(j:Value)(R:EW)(w:World):Prop:=
 doAl (.cells #[.pointer i,j] 203) w fun b k=>doDr k fun c=>∃(a:World→Prop),a c∧∃d,(∀w,a w→w.cell? ((blk b).add 0)=some (.pointer d))∧∃e,(∀w,a w→w.cell? ((blk b).add 1)=some (e))∧∃f,(∀w,a w→w.cell? ((blk b).add 0)=some (.pointer f))∧∃g,f=some g∧cF 209 #[.agg #[.pointer d,e],.pointer (some (g.add 1))] c (retS (fun l h=>l=(.tuple #[]:Value)∧a h∧R (.returned (.tuple #[])) h) (kN R))
theorem sh196_ok{a:OA}{b:Value}:sh196 a b R w→Calls prog 196 #[.agg #[.pointer a,b]] w R:=
 ceq func196
def sh197(f_1:OA)(f_2:Value)(R:EW)(w:World):Prop:=
doAl (.cells #[.pointer f_1,f_2] 203) w (fun b3 w4=>
doDr w4 (fun w6=>
∃(C5:World→Prop),C5 w6∧(
∃x7,(∀w,C5 w→w.cell? ((blk b3).add 1)=some (x7))∧(
∃x8,(∀w,C5 w→w.cell? ((blk b3).add 0)=some (.pointer x8))∧(
∃q9,x8=some q9∧(
doNC prog (x7) (
doGo prog (.fn (.method "joinery/op.num") #[]) #[x7, .pointer (some (q9.add 3))] w6 (retS (fun v10 w11 => v10 = (.tuple #[] : Value) ∧ (
C5 w11∧(
R (.returned (.tuple #[])) w11))) (kN R)))))))))
theorem sh197_ok{a:OA}{b:Value}:sh197 a b R w→Calls prog 197 #[.agg #[.pointer a,b]] w R:=
 ceq func197
def sh198(f_1:OA)(f_2:Value)(R:EW)(w:World):Prop:=
doAl (.cells #[.pointer f_1,f_2] 203) w (fun b3 w4=>
doDr w4 (fun w6=>
∃(C5:World→Prop),C5 w6∧(
∃x7,(∀w,C5 w→w.cell? ((blk b3).add 1)=some (x7))∧(
∃x8,(∀w,C5 w→w.cell? ((blk b3).add 0)=some (.pointer x8))∧(
∃q9,x8=some q9∧(
doNC prog (x7) (
doGo prog (.fn (.method "joinery/op.num") #[]) #[x7, .pointer (some (q9.add 4))] w6 (retS (fun v10 w11 => v10 = (.tuple #[] : Value) ∧ (
C5 w11∧(
R (.returned (.tuple #[])) w11))) (kN R)))))))))
theorem sh198_ok{a:OA}{b:Value}:sh198 a b R w→Calls prog 198 #[.agg #[.pointer a,b]] w R:=
 ceq func198
def sh199(f_1:OA)(f_2:Value)(R:EW)(w:World):Prop:=
doAl (.cells #[.pointer f_1,f_2] 203) w (fun b3 w4=>
doDr w4 (fun w6=>
∃(C5:World→Prop),C5 w6∧(
∃x7,(∀w,C5 w→w.cell? ((blk b3).add 1)=some (x7))∧(
∃x8,(∀w,C5 w→w.cell? ((blk b3).add 0)=some (.pointer x8))∧(
∃q9,x8=some q9∧(
doNC prog (x7) (
doAl (.cells #[.string (⟨#[]⟩:ByteArray),.string (⟨#[108,101,102,116]⟩:ByteArray),.string (⟨#[114,105,103,104,116]⟩:ByteArray),.string (⟨#[115,117,109]⟩:ByteArray)] 9) w6 (fun b10 w11=>
C5 w11∧(
doGo prog (.fn (.method "joinery/op.word") #[]) #[x7, .pointer (some (q9.add 8)), .slice (some (blk b10)) 4 4] w11 (retS (fun v12 w13 => v12 = (.tuple #[] : Value) ∧ (
C5 w13∧(
R (.returned (.tuple #[])) w13))) (kN R)))))))))))
theorem sh199_ok{a:OA}{b:Value}:sh199 a b R w→Calls prog 199 #[.agg #[.pointer a,b]] w R:=
 ceq func199
def sh200(f_1:OA)(f_2:Value)(R:EW)(w:World):Prop:=
doAl (.cells #[.pointer f_1,f_2] 203) w (fun b3 w4=>
∃x5,w4.cell? ((blk b3).add 0)=some (.pointer x5)∧(
∃q6,x5=some q6∧(
∃xp7 xn8 xc9,w4.cell? (q6.add 13)=some (.slice xp7 xn8 xc9)∧(
doAl (.cells #[.int .i64 0] 3) w4 (fun b10 w11=>
doSt ((blk b10).add 0) (.int .i64 ((xn8:Nat):Int)) w11 (fun w12=>
∃x13,w12.cell? ((blk b3).add 1)=some (x13)∧(
doGo prog (.fn (.method "joinery/op.many") #[]) #[x13, .pointer (some (blk b10))] w12 (retS (fun v14 w15 => v14 = (.tuple #[] : Value) ∧ (
∃x16,w15.cell? (blk b10)=some (.int .i64 x16)∧(
∃(I17:List Value→World→Prop) (μ18:List Value→World→Nat),I17 [.int .i64 0] w15∧(∀(x21:Int),∀(_j19:Nat→Value) (w20:World),I17 [.int .i64 x21] w20→(
ifB (decide ((x21:Int) < x16)) (
let K23:World→Prop:=fun w22 => 
I17 [.int .i64 (IntKind.wrap .i64 (x21+1))] w22∧μ18 [.int .i64 (IntKind.wrap .i64 (x21+1))] w22 < μ18 [.int .i64 x21] w20
doAl (.cells #[.int .i64 0,.int .i64 0] 63) w20 (fun b24 w25=>
let K27:World→Prop:=fun w26 => 
∃x28,w26.cell? ((blk b3).add 1)=some (x28)∧(
doGo prog (.fn (.method "joinery/op.pair") #[]) #[x28, .pointer (some (blk b24))] w26 (retS (fun v29 w30 => v29 = (.tuple #[] : Value) ∧ (
∃x31,w30.cell? ((blk b3).add 0)=some (.pointer x31)∧(
∃q32,x31=some q32∧(
∃xp33 xn34 xc35,w30.cell? (q32.add 13)=some (.slice xp33 xn34 xc35)∧(
ifB ((x21:Int)==((xn34:Nat):Int)) (
doDr w30 (fun w37=>
∃(C36:World→Prop),C36 w37∧(
∃x38,(∀w,C36 w→w.cell? ((blk b3).add 0)=some (.pointer x38))∧(
∃x39,(∀w,C36 w→w.cell? ((blk b3).add 0)=some (.pointer x39))∧(
∃q40,x39=some q40∧(
∃xp41 xn42 xc43,(∀w,C36 w→w.cell? (q40.add 13)=some (.slice xp41 xn42 xc43))∧(
∃x44,(∀w,C36 w→w.cell? ((blk b24).add 0)=some (.int .i64 x44))∧(
∃x45,(∀w,C36 w→w.cell? ((blk b24).add 1)=some (.int .i64 x45))∧(
doAl (.cells #[.int .i64 x44,.int .i64 x45] 63) w37 (fun b46 w47=>
C36 w47∧(
doGo prog (.builtin .append #[22,22] 22 #[false,false]) #[.slice xp41 xn42 xc43,.slice (some (blk b46)) 1 1] w47 (retS (fun v51 w52=>∃xp48 xn49 xc50,v51=(.slice xp48 xn49 xc50:Value)∧(
C36 w52∧(
∃q53,x38=some q53∧(
doSt ((q53.add 13).add 0) (.slice xp48 xn49 xc50) w52 (fun w54=>
K23 w54))))) (kN R))))))))))))) (
K23 w30)))))) (kN R)))
∃x55,w25.cell? ((blk b3).add 0)=some (.pointer x55)∧(
∃q56,x55=some q56∧(
∃xp57 xn58 xc59,w25.cell? (q56.add 13)=some (.slice xp57 xn58 xc59)∧(
ifB (decide ((x21:Int) < ((xn58:Nat):Int))) (
∃x60,w25.cell? ((blk b3).add 0)=some (.pointer x60)∧(
∃q61,x60=some q61∧(
∃xp62 xn63 xc64,w25.cell? (q61.add 13)=some (.slice xp62 xn63 xc64)∧(
doIx xp62 xn63 2 (x21) (fun a65=>
∃x66,w25.cell? (a65.add 0)=some (.int .i64 x66)∧(
∃x67,w25.cell? (a65.add 1)=some (.int .i64 x67)∧(
doSt ((blk b24).add 0) (.int .i64 x66) w25 (fun w68=>
doSt ((blk b24).add 1) (.int .i64 x67) w68 (fun w69=>
K27 w69))))))))) (
K27 w25)))))) (
R (.returned (.tuple #[])) w20)))))) (kN R)))))))))
theorem sh200_ok{a:OA}{b:Value}:sh200 a b R w→Calls prog 200 #[.agg #[.pointer a,b]] w R:=
 ceqA (fun i=>if i=0 then [(15,.int .i64 0)] else []) func200
def sh201(i:OA)(j:Value)(R:EW)(w:World):Prop:=
 doAl (.cells #[.pointer i,j] 203) w fun b k=>doDr k fun c=>∃(a:World→Prop),a c∧∃d,(∀w,a w→w.cell? ((blk b).add 0)=some (.pointer d))∧∃e,(∀w,a w→w.cell? ((blk b).add 1)=some (e))∧∃f,(∀w,a w→w.cell? ((blk b).add 0)=some (.pointer f))∧∃g,f=some g∧cF 209 #[.agg #[.pointer d,e],.pointer (some (g.add 2))] c (retS (fun l h=>l=(.tuple #[]:Value)∧a h∧R (.returned (.tuple #[])) h) (kN R))
theorem sh201_ok{a:OA}{b:Value}:sh201 a b R w→Calls prog 201 #[.agg #[.pointer a,b]] w R:=
 ceq func201
def sh202(f_1:OA)(f_2:Value)(R:EW)(w:World):Prop:=
doAl (.cells #[.pointer f_1,f_2] 203) w (fun b3 w4=>
∃x5,w4.cell? ((blk b3).add 0)=some (.pointer x5)∧(
∃q6,x5=some q6∧(
doAl (.cells #[.string (⟨#[]⟩:ByteArray),.string (⟨#[97,108,108]⟩:ByteArray),.string (⟨#[107,101,121]⟩:ByteArray),.string (⟨#[118,97,108]⟩:ByteArray),.string (⟨#[109,111,100]⟩:ByteArray),.string (⟨#[98,105,116,115]⟩:ByteArray)] 9) w4 (fun b7 w8=>
∃x9,w8.cell? ((blk b3).add 1)=some (x9)∧(
let K12:Bool→World→Prop:=fun x10 w11 => 
ifB x10 (
doDr w11 (fun w14=>
∃(C13:World→Prop),C13 w14∧(
∃x15,(∀w,C13 w→w.cell? ((blk b3).add 1)=some (x15))∧(
∃q16,(some (q6.add 9))=some q16∧(
doNC prog (x15) (
doGo prog (.fn (.method "joinery/op.flag") #[]) #[x15, .pointer (some (q16.add 3))] w14 (retS (fun v17 w18 => v17 = (.tuple #[] : Value) ∧ (
doDr w18 (fun w20=>
∃(C19:World→Prop),C19 w20∧(
∃x21,(∀w,C19 w→w.cell? ((blk b3).add 1)=some (x21))∧(
∃q22,(some (q6.add 9))=some q22∧(
doNC prog (x21) (
doGo prog (.fn (.method "joinery/op.word") #[]) #[x21, .pointer (some (q22.add 0)), .slice (some (blk b7)) 6 6] w20 (retS (fun v23 w24 => v23 = (.tuple #[] : Value) ∧ (
∃q25,(some (q6.add 9))=some q25∧(
∃x26,w24.cell? (q25.add 0)=some (.int .u8 x26)∧(
ifB ((x26:Int)==1) (
doEnd (.returning) (
R (.returned (.tuple #[])) w24) (fun ch27=>R (.panicked ch27) w24)) (
doDr w24 (fun w29=>
∃(C28:World→Prop),C28 w29∧(
∃x30,(∀w,C28 w→w.cell? ((blk b3).add 1)=some (x30))∧(
∃q31,(some (q6.add 9))=some q31∧(
doNC prog (x30) (
doGo prog (.fn (.method "joinery/op.num") #[]) #[x30, .pointer (some (q31.add 1))] w29 (retS (fun v32 w33 => v32 = (.tuple #[] : Value) ∧ (
doDr w33 (fun w35=>
∃(C34:World→Prop),C34 w35∧(
∃x36,(∀w,C34 w→w.cell? ((blk b3).add 1)=some (x36))∧(
∃q37,(some (q6.add 9))=some q37∧(
doNC prog (x36) (
doGo prog (.fn (.method "joinery/op.num") #[]) #[x36, .pointer (some (q37.add 2))] w35 (retS (fun v38 w39 => v38 = (.tuple #[] : Value) ∧ (
doEnd (.returning) (
R (.returned (.tuple #[])) w39) (fun ch40=>R (.panicked ch40) w39))) (fun (ch41:List PanicEntry) (w42:World)=>
doEnd (.panicking ch41) (
R (.returned (.tuple #[])) w42) (fun ch43=>R (.panicked ch43) w42)))))))))) (fun (ch44:List PanicEntry) (w45:World)=>
doEnd (.panicking ch44) (
R (.returned (.tuple #[])) w45) (fun ch46=>R (.panicked ch46) w45))))))))))))) (fun (ch47:List PanicEntry) (w48:World)=>
doEnd (.panicking ch47) (
R (.returned (.tuple #[])) w48) (fun ch49=>R (.panicked ch49) w48)))))))))) (fun (ch50:List PanicEntry) (w51:World)=>
doEnd (.panicking ch50) (
R (.returned (.tuple #[])) w51) (fun ch52=>R (.panicked ch52) w51))))))))) (
doDr w11 (fun w54=>
∃(C53:World→Prop),C53 w54∧(
∃x55,(∀w,C53 w→w.cell? ((blk b3).add 1)=some (x55))∧(
∃q56,(some (q6.add 9))=some q56∧(
doNC prog (x55) (
doGo prog (.fn (.method "joinery/op.word") #[]) #[x55, .pointer (some (q56.add 0)), .slice (some (blk b7)) 6 6] w54 (retS (fun v57 w58 => v57 = (.tuple #[] : Value) ∧ (
doDr w58 (fun w60=>
∃(C59:World→Prop),C59 w60∧(
∃x61,(∀w,C59 w→w.cell? ((blk b3).add 1)=some (x61))∧(
doNC prog (x61) (
∃q62,(some (q6.add 9))=some q62∧(
doDr w60 (fun w64=>
∃(C63:World→Prop),C63 w64∧(
∃x65,(∀w,C63 w→w.cell? ((blk b3).add 1)=some (x65))∧(
∃q66,(some (q6.add 9))=some q66∧(
doNC prog (x65) (
doGo prog (.fn (.method "joinery/op.num") #[]) #[x65, .pointer (some (q66.add 1))] w64 (retS (fun v67 w68 => v67 = (.tuple #[] : Value) ∧ (
doDr w68 (fun w70=>
∃(C69:World→Prop),C69 w70∧(
∃x71,(∀w,C69 w→w.cell? ((blk b3).add 1)=some (x71))∧(
∃q72,(some (q6.add 9))=some q72∧(
doNC prog (x71) (
doGo prog (.fn (.method "joinery/op.num") #[]) #[x71, .pointer (some (q72.add 2))] w70 (retS (fun v73 w74 => v73 = (.tuple #[] : Value) ∧ (
doDf prog (.fn (.method "joinery/op.flag") #[]) #[x61, .pointer (some (q62.add 3))] (.returning) w74 (fun u76 w75 =>
doEnd (u76) (
R (.returned (.tuple #[])) w75) (fun ch77=>R (.panicked ch77) w75)))) (fun (ch78:List PanicEntry) (w79:World)=>
doDf prog (.fn (.method "joinery/op.flag") #[]) #[x61, .pointer (some (q62.add 3))] (.panicking ch78) w79 (fun u81 w80 =>
doEnd (u81) (
R (.returned (.tuple #[])) w80) (fun ch82=>R (.panicked ch82) w80))))))))))) (fun (ch83:List PanicEntry) (w84:World)=>
doDf prog (.fn (.method "joinery/op.flag") #[]) #[x61, .pointer (some (q62.add 3))] (.panicking ch83) w84 (fun u86 w85 =>
doEnd (u86) (
R (.returned (.tuple #[])) w85) (fun ch87=>R (.panicked ch87) w85)))))))))))))))) (fun (ch88:List PanicEntry) (w89:World)=>
doEnd (.panicking ch88) (
R (.returned (.tuple #[])) w89) (fun ch90=>R (.panicked ch90) w89)))))))))
doTA prog (x9) 196 219 true w8 (fun v93=>∃x91 x92,v93=(.tuple #[.pointer x91,.bool x92]:Value)∧(
doTA prog (x9) 196 220 true w8 (fun v96=>∃x94 x95,v96=(.tuple #[.pointer x94,.bool x95]:Value)∧(
ifB x92 (K12 true w8) (K12 x95 w8))))))))))
theorem sh202_ok{f_1:OA}{f_2:Value}:sh202 f_1 f_2 R w→Calls prog 202 #[.agg #[.pointer f_1,f_2]] w R:=
 aIs (ann:=fun _=>[]) (fn:=f202) (c:=tO f202) (args:=#[.agg #[.pointer f_1,f_2]]) 400 qO func202 (by kernel_rfl) (by rfl) (by kernel_rfl)
def sh203(f_1:OA)(f_2:Value)(R:EW)(w:World):Prop:=
doAl (.cells #[.pointer f_1,f_2] 203) w (fun b3 w4=>
∃x5,w4.cell? ((blk b3).add 0)=some (.pointer x5)∧(
∃q6,x5=some q6∧(
∃xp7 xn8 xc9,w4.cell? (q6.add 14)=some (.slice xp7 xn8 xc9)∧(
doAl (.cells #[.int .i64 0] 3) w4 (fun b10 w11=>
doSt ((blk b10).add 0) (.int .i64 ((xn8:Nat):Int)) w11 (fun w12=>
∃x13,w12.cell? ((blk b3).add 1)=some (x13)∧(
doGo prog (.fn (.method "joinery/op.many") #[]) #[x13, .pointer (some (blk b10))] w12 (retS (fun v14 w15 => v14 = (.tuple #[] : Value) ∧ (
∃x16,w15.cell? (blk b10)=some (.int .i64 x16)∧(
∃(I17:List Value→World→Prop) (μ18:List Value→World→Nat),I17 [.int .i64 0] w15∧(∀(x21:Int),∀(_j19:Nat→Value) (w20:World),I17 [.int .i64 x21] w20→(
ifB (decide ((x21:Int) < x16)) (
let K23:World→Prop:=fun w22 => 
I17 [.int .i64 (IntKind.wrap .i64 (x21+1))] w22∧μ18 [.int .i64 (IntKind.wrap .i64 (x21+1))] w22 < μ18 [.int .i64 x21] w20
doAl (.cells #[.int .i64 0] 2) w20 (fun b24 w25=>
let K27:World→Prop:=fun w26 => 
∃x28,w26.cell? ((blk b3).add 1)=some (x28)∧(
doGo prog (.fn (.method "joinery/op.num") #[]) #[x28, .pointer (some (blk b24))] w26 (retS (fun v29 w30 => v29 = (.tuple #[] : Value) ∧ (
∃x31,w30.cell? ((blk b3).add 0)=some (.pointer x31)∧(
∃q32,x31=some q32∧(
∃xp33 xn34 xc35,w30.cell? (q32.add 14)=some (.slice xp33 xn34 xc35)∧(
ifB ((x21:Int)==((xn34:Nat):Int)) (
doDr w30 (fun w37=>
∃(C36:World→Prop),C36 w37∧(
∃x38,(∀w,C36 w→w.cell? ((blk b3).add 0)=some (.pointer x38))∧(
∃x39,(∀w,C36 w→w.cell? ((blk b3).add 0)=some (.pointer x39))∧(
∃q40,x39=some q40∧(
∃xp41 xn42 xc43,(∀w,C36 w→w.cell? (q40.add 14)=some (.slice xp41 xn42 xc43))∧(
∃x44,(∀w,C36 w→w.cell? (blk b24)=some (.int .i64 x44))∧(
doAl (.cells #[.int .i64 x44] 2) w37 (fun b45 w46=>
C36 w46∧(
doGo prog (.builtin .append #[28,28] 28 #[false,false]) #[.slice xp41 xn42 xc43,.slice (some (blk b45)) 1 1] w46 (retS (fun v50 w51=>∃xp47 xn48 xc49,v50=(.slice xp47 xn48 xc49:Value)∧(
C36 w51∧(
∃q52,x38=some q52∧(
doSt ((q52.add 14).add 0) (.slice xp47 xn48 xc49) w51 (fun w53=>
K23 w53))))) (kN R)))))))))))) (
K23 w30)))))) (kN R)))
∃x54,w25.cell? ((blk b3).add 0)=some (.pointer x54)∧(
∃q55,x54=some q55∧(
∃xp56 xn57 xc58,w25.cell? (q55.add 14)=some (.slice xp56 xn57 xc58)∧(
ifB (decide ((x21:Int) < ((xn57:Nat):Int))) (
∃x59,w25.cell? ((blk b3).add 0)=some (.pointer x59)∧(
∃q60,x59=some q60∧(
∃xp61 xn62 xc63,w25.cell? (q60.add 14)=some (.slice xp61 xn62 xc63)∧(
doIx xp61 xn62 1 (x21) (fun a64=>
∃x65,w25.cell? a64=some (.int .i64 x65)∧(
doSt ((blk b24).add 0) (.int .i64 x65) w25 (fun w66=>
K27 w66))))))) (
K27 w25)))))) (
R (.returned (.tuple #[])) w20)))))) (kN R)))))))))
theorem sh203_ok{a:OA}{b:Value}:sh203 a b R w→Calls prog 203 #[.agg #[.pointer a,b]] w R:=
 ceqA (fun i=>if i=0 then [(15,.int .i64 0)] else []) func203
end Go.Proofs.YtmdboekndjlmgaaGreat
