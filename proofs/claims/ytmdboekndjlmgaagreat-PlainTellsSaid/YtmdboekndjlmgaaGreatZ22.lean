/-
  What goes over a whole op.
-/
import Derived.Test.YtmdboekndjlmgaaGreatZ21
set_option maxRecDepth 100000
set_option maxHeartbeats 6400000
namespace Go.Proofs.YtmdboekndjlmgaaGreat
open Go Go.Sh Go.RowKit Tryz
variable {w:World}{R:EW}
section
variable {σ:Type} {c:PC σ}
theorem aJt{p:Part}{x x':POp}{s s':σ}(h:qD c p x s=some (x',s')):x'.op=x.op∧∀q,q≠p→qK q x x':=by
 cases p
 case pred=>
  simp only [qD,uR] at h
  split at h
  ·obtain ⟨r,_,h⟩:=Option.bind_eq_some_iff.1 h
   obtain ⟨q,_,h⟩:=Option.bind_eq_some_iff.1 h
   split at h
   ·cases h
    exact ⟨rfl,fun q hq=>by cases q <;> first | exact absurd rfl hq | simp [qK]⟩
   ·obtain ⟨u,_,h⟩:=Option.bind_eq_some_iff.1 h
    obtain ⟨v,_,h⟩:=Option.bind_eq_some_iff.1 h
    cases h
    exact ⟨rfl,fun q hq=>by cases q <;> first | exact absurd rfl hq | simp [qK]⟩
  ·obtain ⟨r,_,h⟩:=Option.bind_eq_some_iff.1 h
   obtain ⟨q,_,h⟩:=Option.bind_eq_some_iff.1 h
   obtain ⟨u,_,h⟩:=Option.bind_eq_some_iff.1 h
   obtain ⟨v,_,h⟩:=Option.bind_eq_some_iff.1 h
   cases h
   exact ⟨rfl,fun q hq=>by cases q <;> first | exact absurd rfl hq | simp [qK]⟩
 case pairs=>
  simp only [qD] at h
  obtain ⟨r,_,h⟩:=Option.bind_eq_some_iff.1 h
  obtain ⟨q,_,h⟩:=Option.bind_eq_some_iff.1 h
  cases h
  exact ⟨rfl,fun q hq=>by cases q <;> first | exact absurd rfl hq | simp [qK]⟩
 case keys=>
  simp only [qD] at h
  obtain ⟨r,_,h⟩:=Option.bind_eq_some_iff.1 h
  obtain ⟨q,_,h⟩:=Option.bind_eq_some_iff.1 h
  cases h
  exact ⟨rfl,fun q hq=>by cases q <;> first | exact absurd rfl hq | simp [qK]⟩
 all_goals
  simp only [qD] at h
  obtain ⟨r,_,h⟩:=Option.bind_eq_some_iff.1 h
  cases h
  exact ⟨rfl,fun q hq=>by cases q <;> first | exact absurd rfl hq | simp [qK]⟩
variable (C:CBase c)
theorem aGr:∀(m k:Nat) (l l':List (Int × Int)) (s s':σ),InPs l→sD c m k l s=some (l',s')→InPs l'∧C.len s'≤C.len s+m * C.grow
 | 0,k,l,l',s,s',hl,h=>by
  simp only [sD,Option.some.injEq,Prod.mk.injEq] at h
  obtain ⟨rfl,rfl⟩:=h
  exact ⟨hl,by omega⟩
 | m+1,k,l,l',s,s',hl,h=>by
  simp only [sD] at h
  obtain ⟨⟨v,s1⟩,hv,h⟩:=Option.bind_eq_some_iff.1 h
  have h0:In (l.getD k (0,0)).1∧In (l.getD k (0,0)).2:=by
   rw [List.getD_eq_getElem?_getD]
   cases hg:l[k]? with
   | none=>simp [In]
   | some u=>exact hl u (List.mem_of_getElem? hg)
  obtain ⟨h1,h2⟩:=C.pairIn h0 hv
  obtain ⟨h3,h4⟩:=aGr m (k+1) _ l' s1 s' (by
   split
   ·intro u hu
    rcases List.mem_append.1 hu with hu | hu
    ·exact hl u hu
    ·obtain rfl:u=v:=by simpa using hu
     exact h1
   ·exact hl) h
  exact ⟨h3,by rw [Nat.add_mul,Nat.one_mul];omega⟩
theorem aKe:∀(m k:Nat) (l l':List Int) (s s':σ),(∀v∈l,In v)→tU c m k l s=some (l',s')→(∀v∈l',In v)∧C.len s'≤C.len s+m * C.grow
 | 0,k,l,l',s,s',hl,h=>by
  simp only [tU,Option.some.injEq,Prod.mk.injEq] at h
  obtain ⟨rfl,rfl⟩:=h
  exact ⟨hl,by omega⟩
 | m+1,k,l,l',s,s',hl,h=>by
  simp only [tU] at h
  obtain ⟨⟨v,s1⟩,hv,h⟩:=Option.bind_eq_some_iff.1 h
  have h0:In (l.getD k 0):=by
   rw [List.getD_eq_getElem?_getD]
   cases hg:l[k]? with
   | none=>simp [In]
   | some u=>exact hl u (List.mem_of_getElem? hg)
  obtain ⟨h1,h2⟩:=C.numIn h0 hv
  obtain ⟨h3,h4⟩:=aKe m (k+1) _ l' s1 s' (by
   split
   ·intro u hu
    rcases List.mem_append.1 hu with hu | hu
    ·exact hl u hu
    ·obtain rfl:u=v:=by simpa using hu
     exact h1
   ·exact hl) h
  exact ⟨h3,by rw [Nat.add_mul,Nat.one_mul];omega⟩
theorem partP_in{p:Part}{x x':POp}{s s':σ}(hin:InO x)(hP:x.pairs.length≤5000)(hK:x.keys.length≤5000)(h:qD c p x s=some (x',s')):InO x'∧C.len s'≤C.len s+6000 * C.grow:=by
 cases p
 case pred=>
  simp only [qD,uR] at h
  split at h
  ·obtain ⟨r,hr,h⟩:=Option.bind_eq_some_iff.1 h
   obtain ⟨q,hq,h⟩:=Option.bind_eq_some_iff.1 h
   have l1:=C.flagIn hr
   have l2:=C.wordIn hin.pk hq
   split at h
   ·cases h
    exact ⟨{ hin with pk:=l2.1 },by omega⟩
   ·obtain ⟨u,hu,h⟩:=Option.bind_eq_some_iff.1 h
    obtain ⟨v,hv,h⟩:=Option.bind_eq_some_iff.1 h
    have l3:=C.numIn hin.pa hu
    have l4:=C.numIn hin.pb hv
    cases h
    exact ⟨{ hin with pk:=l2.1,pa:=l3.1,pb:=l4.1 },by omega⟩
  ·obtain ⟨q,hq,h⟩:=Option.bind_eq_some_iff.1 h
   obtain ⟨u,hu,h⟩:=Option.bind_eq_some_iff.1 h
   obtain ⟨v,hv,h⟩:=Option.bind_eq_some_iff.1 h
   obtain ⟨r,hr,h⟩:=Option.bind_eq_some_iff.1 h
   have l1:=C.flagIn hr
   have l2:=C.wordIn hin.pk hq
   have l3:=C.numIn hin.pa hu
   have l4:=C.numIn hin.pb hv
   cases h
   exact ⟨{ hin with pk:=l2.1,pa:=l3.1,pb:=l4.1 },by omega⟩
 case pairs=>
  simp only [qD] at h
  obtain ⟨r,hr,h⟩:=Option.bind_eq_some_iff.1 h
  obtain ⟨q,hq,h⟩:=Option.bind_eq_some_iff.1 h
  obtain ⟨m,s1⟩:=r
  obtain ⟨l,s2⟩:=q
  cases h
  have l1:=C.manyIn (by omega) hr
  have l2:=aGr C m 0 _ _ _ _ hin.pairs hq
  have:m * C.grow≤5000 * C.grow:=Nat.mul_le_mul_right _ (by omega)
  exact ⟨{ hin with pairs:=l2.1 },by have h2:C.len s2≤C.len s1+m * C.grow:=l2.2;show C.len s2≤_;have h1:=l1.2;omega⟩
 case keys=>
  simp only [qD] at h
  obtain ⟨r,hr,h⟩:=Option.bind_eq_some_iff.1 h
  obtain ⟨q,hq,h⟩:=Option.bind_eq_some_iff.1 h
  obtain ⟨m,s1⟩:=r
  obtain ⟨l,s2⟩:=q
  cases h
  have l1:=C.manyIn (by omega) hr
  have l2:=aKe C m 0 _ _ _ _ hin.keys hq
  have:m * C.grow≤5000 * C.grow:=Nat.mul_le_mul_right _ (by omega)
  exact ⟨{ hin with keys:=l2.1 },by have h2:C.len s2≤C.len s1+m * C.grow:=l2.2;show C.len s2≤_;have h1:=l1.2;omega⟩
 all_goals
  simp only [qD] at h
  obtain ⟨r,hr,h⟩:=Option.bind_eq_some_iff.1 h
  cases h
 case pol=>
  have l:=C.wordIn hin.pol hr
  exact ⟨{ hin with pol:=l.1 },by omega⟩
 case a=>have l:=C.numIn hin.a hr;exact ⟨{ hin with a:=l.1 },by omega⟩
 case b=>have l:=C.numIn hin.b hr;exact ⟨{ hin with b:=l.1 },by omega⟩
 case n=>have l:=C.numIn hin.n hr;exact ⟨{ hin with n:=l.1 },by omega⟩
 case key=>have l:=C.numIn hin.key hr;exact ⟨{ hin with key:=l.1 },by omega⟩
 case val=>have l:=C.numIn hin.val hr;exact ⟨{ hin with val:=l.1 },by omega⟩
 case lo=>have l:=C.numIn hin.lo hr;exact ⟨{ hin with lo:=l.1 },by omega⟩
 case hi=>have l:=C.numIn hin.hi hr;exact ⟨{ hin with hi:=l.1 },by omega⟩
end
section
variable {σ:Type} {c:PC σ} {ct:TypeId} {cp:Value} (C:Coder c ct cp)
theorem c_part(p:Part){xb:Nat}{x:POp}{pv kv:Value}{s:σ}(hI:C.I w s)(hl:C.len s+10000 * C.grow≤lim)(ho:¬C.own w xb)(hx:OpAt w xb x pv kv)(hin:InO x)(hr:RowsAt C.own xb w x pv kv)
  (hP:p=.pairs→x.pairs.length≤5000) (hK:p=.keys→x.keys.length≤5000) (hpol:p=.pol→C.pre zH x.pol) (hpred:p=.pred→C.pre sP x.pk) (hmp:p=.pairs→aHn c x.pairs.length pv) (hmk:p=.keys→aHn c x.keys.length kv)
  (h:∀x' s' w' pv' kv',qD c p x s=some (x',s')→C.I w' s'→OpAt w' xb x' pv' kv'→RowsAt C.own xb w' x' pv' kv'→Chg C.own (·=xb) w w'→(p≠.pairs→pv'=pv)→(p≠.keys→kv'=kv)→R (.returned rW) w')
  (hn:∀ch w',qD c p x s=none→NoneCh ch→uV w' xb→Chg C.own (·=xb) w w'→R (.panicked ch) w') :
  Calls prog (fnOf p) #[.agg #[.pointer (some (blk xb)),.iface ct cp]] w R:=by
 have hl':C.len s≤lim:=by omega
 cases p
 case a=>exact c_fa C hI hl' ho hx hin hr (fun x' s' w' h1 h2 h3 h4 h5=>h x' s' w' pv kv h1 h2 h3 h4 h5 (fun _=>rfl) fun _=>rfl) hn
 case b=>exact c_fb C hI hl' ho hx hin hr (fun x' s' w' h1 h2 h3 h4 h5=>h x' s' w' pv kv h1 h2 h3 h4 h5 (fun _=>rfl) fun _=>rfl) hn
 case n=>exact c_fn C hI hl' ho hx hin hr (fun x' s' w' h1 h2 h3 h4 h5=>h x' s' w' pv kv h1 h2 h3 h4 h5 (fun _=>rfl) fun _=>rfl) hn
 case key=>exact c_fkey C hI hl' ho hx hin hr (fun x' s' w' h1 h2 h3 h4 h5=>h x' s' w' pv kv h1 h2 h3 h4 h5 (fun _=>rfl) fun _=>rfl) hn
 case val=>exact c_fval C hI hl' ho hx hin hr (fun x' s' w' h1 h2 h3 h4 h5=>h x' s' w' pv kv h1 h2 h3 h4 h5 (fun _=>rfl) fun _=>rfl) hn
 case lo=>exact c_flo C hI hl' ho hx hin hr (fun x' s' w' h1 h2 h3 h4 h5=>h x' s' w' pv kv h1 h2 h3 h4 h5 (fun _=>rfl) fun _=>rfl) hn
 case hi=>exact c_fhi C hI hl' ho hx hin hr (fun x' s' w' h1 h2 h3 h4 h5=>h x' s' w' pv kv h1 h2 h3 h4 h5 (fun _=>rfl) fun _=>rfl) hn
 case pol=>exact c_fpol C hI hl' ho hx hin hr (hpol rfl) (fun x' s' w' h1 h2 h3 h4 h5=>h x' s' w' pv kv h1 h2 h3 h4 h5 (fun _=>rfl) fun _=>rfl) hn
 case pred=>exact c_fpred C hI (by omega) ho hx hin hr (hpred rfl) (fun x' s' w' h1 h2 h3 h4 h5=>h x' s' w' pv kv h1 h2 h3 h4 h5 (fun _=>rfl) fun _=>rfl) hn
 case pairs=>exact c_fpairs C hI hl ho hx hin hr (hP rfl) (hmp rfl) (fun x' s' w' pv' h1 h2 h3 h4 h5=>h x' s' w' pv' kv h1 h2 h3 h4 h5 (fun e=>absurd rfl e) fun _=>rfl) hn
 case keys=>exact c_fkeys C hI hl ho hx hin hr (hK rfl) (hmk rfl) (fun x' s' w' kv' h1 h2 h3 h4 h5=>h x' s' w' pv kv' h1 h2 h3 h4 h5 (fun _=>rfl) fun e=>absurd rfl e) hn
theorem c_names(h:∀b w',Ext w w'→Cs w' (some (blk b)) (strs aBs)→w.heap.size≤b→b < w'.heap.size→R (.returned (.slice (some (blk b)) 23 23)) w'):Calls prog 173 #[] w R:=by
 refine sh173_ok ?_
 unfold sh173
 exact ⟨h _ _ (pQ w _) (qY w _ _) (Nat.le_refl _) (by simp)⟩
theorem ix_val{p:OA}{n:Nat}{l:List Value}{K:Addr→Prop}(h:Cs w p l)(hn:l.length=n){k:Nat}(h1:k < n)(c:∀a:Addr,w.cell? a=some (l[k]'(by omega))→K a):doIx p n 1 (k:Int) K:=by
 obtain ⟨a,ha,hc⟩:=h k _ (List.getElem?_eq_getElem (by omega))
 exact ⟨a,ha,by omega,by omega,c _ (by rw [Int.toNat_natCast,Nat.mul_one];exact hc)⟩
end
theorem do_callf{P:Program}{k:Nat}{first bs:Array Value}(he:∀xs w,(callFunc k xs).run P w=.ok (.enter k xs) w)(h:Calls P k (first++bs) w R):
  doCall P (.func (.func k) first #[]) bs w R:=⟨xA he (by simpa using h)⟩
theorem call_fn(p:Part):∀xs w,(callFunc (fnOf p) xs).run prog w=.ok (.enter (fnOf p) xs) w:=by
 cases p
 ·exact call196
 ·exact call201
 ·exact call204
 ·exact call197
 ·exact call198
 ·exact call205
 ·exact call206
 ·exact call199
 ·exact call202
 ·exact call200
 ·exact call203
theorem aJs(d:Int):(partsOf d).length≤4:=xK d (C:=fun l=>l.length≤4) (by simp) (by simp) (by simp) (by simp) (by simp) (by simp) (by simp) (by simp) (by simp) (by simp) (by simp) (by simp)
section
variable {σ:Type} {c:PC σ}
theorem aEw:∀(m k:Nat) (l l':List (Int × Int)) (s s':σ),sD c m k l s=some (l',s')→l'.length≤max l.length (k+m)
 | 0,k,l,l',s,s',h=>by
  simp only [sD,Option.some.injEq,Prod.mk.injEq] at h
  obtain ⟨rfl,rfl⟩:=h
  omega
 | m+1,k,l,l',s,s',h=>by
  simp only [sD] at h
  obtain ⟨⟨v,s1⟩,hv,h⟩:=Option.bind_eq_some_iff.1 h
  have:=aEw m (k+1) _ l' s1 s' h
  split at this
  ·rw [List.length_append,List.length_singleton] at this;omega
  ·omega
theorem aHd:∀(m k:Nat) (l l':List Int) (s s':σ),tU c m k l s=some (l',s')→l'.length≤max l.length (k+m)
 | 0,k,l,l',s,s',h=>by
  simp only [tU,Option.some.injEq,Prod.mk.injEq] at h
  obtain ⟨rfl,rfl⟩:=h
  omega
 | m+1,k,l,l',s,s',h=>by
  simp only [tU] at h
  obtain ⟨⟨v,s1⟩,hv,h⟩:=Option.bind_eq_some_iff.1 h
  have:=aHd m (k+1) _ l' s1 s' h
  split at this
  ·rw [List.length_append,List.length_singleton] at this;omega
  ·omega
theorem aPd(C:CBase c){p:Part}{x x':POp}{s s':σ}(hP:x.pairs.length≤5000)(hK:x.keys.length≤5000)(h:qD c p x s=some (x',s')):x'.pairs.length≤5000∧x'.keys.length≤5000:=by
 obtain ⟨_,hag⟩:=aJt h
 by_cases h1:p=.pairs
 ·subst h1
  have hk:x.keys=x'.keys:=hag .keys (by simp)
  simp only [qD] at h
  obtain ⟨⟨m,s1⟩,hr,h⟩:=Option.bind_eq_some_iff.1 h
  obtain ⟨⟨l,s2⟩,hq,h⟩:=Option.bind_eq_some_iff.1 h
  cases h
  have:=aEw m 0 _ _ _ _ hq
  have:=(C.manyIn (by omega) hr).1
  refine ⟨?_,hK⟩
  show l.length≤5000
  omega
 by_cases h2:p=.keys
 ·subst h2
  simp only [qD] at h
  obtain ⟨⟨m,s1⟩,hr,h⟩:=Option.bind_eq_some_iff.1 h
  obtain ⟨⟨l,s2⟩,hq,h⟩:=Option.bind_eq_some_iff.1 h
  cases h
  have:=aHd m 0 _ _ _ _ hq
  have:=(C.manyIn (by omega) hr).1
  refine ⟨hP,?_⟩
  show l.length≤5000
  omega
 ·rw [←show x.pairs=x'.pairs from hag .pairs (Ne.symm h1),←show x.keys=x'.keys from hag .keys (Ne.symm h2)]
  exact ⟨hP,hK⟩
end
section
variable {σ:Type} {c:PC σ} {ct:TypeId} {cp:Value} (C:Coder c ct cp)
theorem aOi{xb:Nat}{x:POp}{pv kv:Value}{s:σ}(hI:C.I w s)(hl:C.len s+50000 * C.grow≤lim)(ho:¬C.own w xb)(hx:OpAt w xb x pv kv)(hin:InO x)(hr:RowsAt C.own xb w x pv kv)
  (hP:x.pairs.length≤5000) (hK:x.keys.length≤5000) (hop:C.pre aBs x.op) (hpol:C.pre zH x.pol) (hpred:C.pre sP x.pk) (hmp:aHn c x.pairs.length pv) (hmk:aHn c x.keys.length kv)
  (h:∀x' s' w' pv' kv',allP c x s=some (x',s')→C.I w' s'→OpAt w' xb x' pv' kv'→RowsAt C.own xb w' x' pv' kv'→InO x'→C.len s'≤C.len s+30000 * C.grow→Chg C.own (·=xb) w w'→R (.returned rW) w')
  (hn:∀ch w',allP c x s=none→NoneCh ch→uV w' xb→Chg C.own (·=xb) w w'→R (.panicked ch) w') :
  Calls prog 157 #[.pointer (some (blk xb)),.iface ct cp] w R:=by
 refine sh157_ok ?_
 unfold sh157
 refine ⟨?_⟩
 have e1:=pT w
 generalize w.drew=w1 at e1 ⊢
 have hxb:=hx.lt
 refine ⟨_,rfl,C.ncw (pP call173 (c_names fun nb w2 e2 hcs hnb1 hnb2=>pN ⟨_,_,_,rfl,?_⟩))⟩
 have e12:=e1.trans e2
 have own2:=(C.ext hI e12).2
 have hx2:OpAt w2 xb x pv kv:=hx.ext e12
 have k2:Chg C.own (SF w.heap.size (·=xb)) w w2:=C.chg_ext hI e12
 have hs1:=e1.size
 refine C.word (b:=xb) (i:=0) (C.ext hI e12).1 (by omega) (fun h=>ho ((own2 _).1 h)) hx2 rfl hin.op hcs rfl (Nat.le_refl _) hop (fun d s3 w3 hv hI3 hb3 c3=>pN ⟨rfl,?_⟩) fun ch u s3 w3 hv hch hls hI3 hb3 c3=>?_
 case refine_2=>
  have k:Chg C.own (·=xb) w w3:=(k2.trans (c3.mono fun _=>.inl)).fresh
  exact hn ch w3 (by simp only [allP,hv];rfl) hch (hr.some (y:={ x with op:=u }) hb3) k
 have l3:=C.wordIn hin.op hv
 have hx3:OpAt w3 xb { x with op:=d } pv kv:=hb3
 have k3:Chg C.own (SF w.heap.size (·=xb)) w w3:=k2.trans (c3.mono fun _=>.inl)
 have hq:allP c x s=uH c (partsOf d) { x with op:=d } s3:=by simp only [allP,hv];rfl
 refine pP call174 (c_parts (hx3.cell (i:=0) rfl rfl) fun q w4 e4 hcq hqb=>pN ⟨_,_,_,rfl,?_⟩)
 have own4:=(C.ext hI3 e4).2
 have hx4:OpAt w4 xb { x with op:=d } pv kv:=hx3.ext e4
 have k4:Chg C.own (SF w.heap.size (·=xb)) w w4:=k3.trans (C.chg_ext hI3 e4)
 have hs3:=k3.size
 have hqo:∀a,q=some a→¬C.own w4 a.block:=fun a ha h=>C.new' hI3 (hqb a ha).1 ((own4 _).1 h)
 have hin1:InO { x with op:=d }:={ hin with op:=l3.1 }
 refine ⟨fun vs w'=>∃k x' s' pv' kv',vs=[.int .i64 ((k:Nat):Int)]∧k≤(partsOf d).length∧C.I w' s'∧OpAt w' xb x' pv' kv'∧RowsAt C.own xb w' x' pv' kv'∧InO x'∧uH c ((partsOf d).drop k) x' s'=allP c x s∧
   Chg C.own (SF w.heap.size (·=xb)) w w'∧C.len s'≤C.len s3+k * (6000 * C.grow)∧(∀p∈(partsOf d).drop k,qK p x x')∧(.pairs∈(partsOf d).drop k→pv'=pv)∧(.keys∈(partsOf d).drop k→kv'=kv)∧
   x'.pairs.length≤5000∧x'.keys.length≤5000∧(∀i v,((partsOf d).map (partV xb (.iface ct cp)))[i]?=some v→∃a,q=some a∧w'.cell? (a.add i)=some v)∧(∀a,q=some a→¬C.own w' a.block)∧w4.heap.size≤w'.heap.size,
  fun vs _=>match vs with | [.int _ i]=>((partsOf d).length - i.toNat) | _=>0,
  ⟨0,{ x with op:=d },s3,pv,kv,rfl,Nat.zero_le _,(C.ext hI3 e4).1,hx4,?_,hin1,by rw [List.drop_zero,hq],k4,by omega,fun p _=>by cases p <;> simp [qK],fun _=>rfl,fun _=>rfl,hP,hK,hcq,hqo,Nat.le_refl _⟩,?_⟩
 ·exact ⟨(hr.chg k4.fresh).p,(hr.chg k4.fresh).k⟩
 ·rintro i _ w5 ⟨k,x5,s5,pv5,kv5,hvs,hk,hI5,hx5,hr5,hin5,hp5,k5,hl5,ha5,hpv5,hkv5,hP5,hK5,hc5,hqo5,hz5⟩
  obtain rfl:i=(k:Int):=by simpa using hvs
  have hlen:=aJs d
  refine pO (fun z=>?_) fun z=>?_
  case refine_2=>
   have z:¬k < (partsOf d).length:=by have z:¬((k:Nat):Int) < (((partsOf d).length:Nat):Int):=of_decide_eq_false z;omega
   rw [List.drop_of_length_le (by omega),uH] at hp5
   have hkk:k * (6000 * C.grow)≤24000 * C.grow:=by rw [←Nat.mul_assoc];exact Nat.mul_le_mul_right _ (by omega)
   exact h x5 s5 w5 pv5 kv5 hp5.symm hI5 hx5 hr5 hin5 (by have:=l3.2;omega) k5.fresh
  have z:k < (partsOf d).length:=by have z:((k:Nat):Int) < (((partsOf d).length:Nat):Int):=of_decide_eq_true z;omega
  have hdr:(partsOf d).drop k=(partsOf d)[k]::(partsOf d).drop (k+1):=List.drop_eq_getElem_cons z
  have hnd:((partsOf d).drop k).Nodup:=(xJ d).sublist (List.drop_sublist _ _)
  rw [hdr] at hp5 ha5 hpv5 hkv5 hnd
  have hnd':=List.nodup_cons.1 hnd
  refine ix_val (l:=(partsOf d).map (partV xb (.iface ct cp))) (fun i v hv=>hc5 i v hv) (by simp) z fun a hca=>?_
  rw [List.getElem_map] at hca
  refine ⟨_,_,_,hca,do_callf (call_fn _) ?_⟩
  generalize (partsOf d)[k]=p at *
  have hag:∀q∈p::(partsOf d).drop (k+1),qK q x x5:=ha5
  have hkk:k * (6000 * C.grow)≤24000 * C.grow:=by rw [←Nat.mul_assoc];exact Nat.mul_le_mul_right _ (by omega)
  rw [uH] at hp5
  refine c_part C p hI5 (by have:=l3.2;omega) (k5.out xb hxb ho) hx5 hin5 hr5 (fun _=>hP5) (fun _=>hK5) ?_ ?_ ?_ ?_ (fun x6 s6 w6 pv6 kv6 hp6 hI6 hx6 hr6 c6 hpp hkk6=>pN ⟨rfl,?_⟩) fun ch w6 hp6 hch hs6 c6=>?_
  ·rintro rfl
   rw [←show x.pol=x5.pol from hag .pol (by simp)];exact hpol
  ·rintro rfl
   rw [←show x.pk=x5.pk from (hag .pred (by simp)).1];exact hpred
  ·rintro rfl
   rw [←show x.pairs=x5.pairs from hag .pairs (by simp),hpv5 (by simp)];exact hmp
  ·rintro rfl
   rw [←show x.keys=x5.keys from hag .keys (by simp),hkv5 (by simp)];exact hmk
  ·obtain ⟨hop6,hag6⟩:=aJt hp6
   obtain ⟨hin6,hl6⟩:=partP_in C.toCBase hin5 hP5 hK5 hp6
   rw [hp6,Option.bind_some] at hp5
   have hpl:=aPd C.toCBase hP5 hK5 hp6
   have hgr:(k+1) * (6000 * C.grow)=k * (6000 * C.grow)+6000 * C.grow:=by rw [Nat.add_mul,Nat.one_mul]
   refine ⟨⟨k+1,x6,s6,pv6,kv6,by rw [pW (n:=5000) (by omega) (by omega)],by omega,hI6,hx6,hr6,hin6,hp5,k5.trans (c6.mono fun _=>.inl),by omega,fun q hq=>?_,fun hq=>?_,fun hq=>?_,hpl.1,hpl.2,fun i v hv=>?_,fun a ha=>?_,Nat.le_trans hz5 c6.size⟩,?_⟩
   ·exact sK (hag q (List.mem_cons_of_mem _ hq)) (hag6 q fun e=>hnd'.1 (e▸hq))
   ·rw [hpp (fun e=>hnd'.1 (e▸hq)),hpv5 (List.mem_cons_of_mem _ hq)]
   ·rw [hkk6 (fun e=>hnd'.1 (e▸hq)),hkv5 (List.mem_cons_of_mem _ hq)]
   ·obtain ⟨a,ha,hc⟩:=hc5 i v hv
    exact ⟨a,ha,c6.cell hc (by rw [qV];exact hqo5 a ha) (by rw [qV];have:=(hqb a ha).1;omega)⟩
   ·exact c6.out _ (Nat.lt_of_lt_of_le (hqb a ha).2 hz5) (hqo5 a ha)
   ·rw [pW (n:=5000) (by omega) (by omega)]
    simp only [Int.toNat_natCast]
    omega
  ·refine hn ch w6 (by rw [←hp5,hp6];rfl) hch hs6 (k5.trans (c6.mono fun _=>.inl)).fresh
end
def aEe:Array Value:=#[.int .i64 30,.int .u64 13787848793156543929,.int .i64 27,.int .u64 10723151780598845931,.int .i64 31,.int .u64 1]
theorem c_all(h:∀w',Ext w w'→R (.returned (.agg aEe)) w'):Calls prog 189 #[] w R:=by
 refine sh189_ok ?_
 unfold sh189
 refine ⟨?_⟩
 refine qA (pS w _ _) (i:=0) rfl (by decide) fun w1 h1 g1=>?_
 refine qA h1 (i:=1) rfl (by decide) fun w2 h2 g2=>?_
 refine qA h2 (i:=2) rfl (by decide) fun w3 h3 g3=>?_
 refine qA h3 (i:=3) rfl (by decide) fun w4 h4 g4=>?_
 refine qA h4 (i:=4) rfl (by decide) fun w5 h5 g5=>?_
 refine qA h5 (i:=5) rfl (by decide) fun w6 h6 g6=>?_
 refine ⟨_,h6.cell (i:=0) rfl rfl,_,h6.cell (i:=1) rfl rfl,_,h6.cell (i:=2) rfl rfl,_,h6.cell (i:=3) rfl rfl,_,h6.cell (i:=4) rfl rfl,_,h6.cell (i:=5) rfl rfl,?_⟩
 have e:=pQ w (.cells #[.int .i64 0,.int .u64 0,.int .i64 0,.int .u64 0,.int .i64 0,.int .u64 0] 206)
 exact h _ ((((((e.st g1 (Nat.le_refl _)).st g2 (Nat.le_refl _)).st g3 (Nat.le_refl _)).st g4 (Nat.le_refl _)).st g5 (Nat.le_refl _)).st g6 (Nat.le_refl _))
theorem c_steps{back:Bool} (h:∀b1 b2 w',Ext w w'→w.heap.size≤b1→w.heap.size≤b2→b1≠b2→Blk w' b1 #[.bool back] 4→Blk w' b2 aEe 206→
  R (.returned (.func (.func 190) #[] #[.pointer (some (blk b1)),.pointer (some (blk b2))])) w'):Calls prog 162 #[.bool back] w R:=by
 refine sh162_ok ?_
 unfold sh162
 refine ⟨?_⟩
 have hb:=pS w #[.bool back] 4
 refine pP call189 (c_all fun w0 e0=>pN ⟨_,_,_,_,_,_,rfl,⟨?_⟩⟩)
 have E0:=(pQ w (.cells #[.bool back] 4)).trans e0
 have hb0:=(hb.ext e0).ext (pQ w0 (.cells #[.int .i64 0,.int .u64 0,.int .i64 0,.int .u64 0,.int .i64 0,.int .u64 0] 206))
 have hne:w.heap.size≠w0.heap.size:=by have:=(hb.ext e0).lt;omega
 have hle:w.heap.size≤w0.heap.size:=by have:=(hb.ext e0).lt;omega
 refine qA (pS w0 _ _) (i:=0) rfl (by decide) fun w1 h1 g1=>?_
 refine qA h1 (i:=1) rfl (by decide) fun w2 h2 g2=>?_
 refine qA h2 (i:=2) rfl (by decide) fun w3 h3 g3=>?_
 refine qA h3 (i:=3) rfl (by decide) fun w4 h4 g4=>?_
 refine qA h4 (i:=4) rfl (by decide) fun w5 h5 g5=>?_
 refine qA h5 (i:=5) rfl (by decide) fun w6 h6 g6=>?_
 have hb6:=(((((hb0.grown g1 (pV hne)).grown g2 (pV hne)).grown g3 (pV hne)).grown g4 (pV hne)).grown g5 (pV hne)).grown g6 (pV hne)
 have e:=E0.alloc (.cells #[.int .i64 0,.int .u64 0,.int .i64 0,.int .u64 0,.int .i64 0,.int .u64 0] 206)
 exact h _ _ _ ((((((e.st g1 hle).st g2 hle).st g3 hle).st g4 hle).st g5 hle).st g6 hle) (Nat.le_refl _) hle hne hb6 h6
def stepB(x:BitVec 64):Nat→BitVec 64
 | 0=>xs 30 x * 13787848793156543929#64
 | 1=>xs 27 x * 10723151780598845931#64
 | _=>xs 31 x * 1#64
def zD(x:BitVec 64):Nat→BitVec 64
 | 0=>x
 | i+1=>stepB (zD x i) i
theorem stepsB_3(x:BitVec 64):zD x 3=mixB x:=by simp [zD,stepB,mixB]
theorem c_mix{x:BitVec 64}(h:∀w',Ext w w'→R (.returned (.int .u64 (U (mixB x)))) w'):Calls prog 135 #[.int .u64 (U x)] w R:=by
 refine sh135_ok ?_
 unfold sh135
 refine ⟨?_⟩
 have hx:=pS w #[.int .u64 (U x)] 65
 refine pP call162 (c_steps fun b1 b2 w1 e1 hb1 hb2 hne h1 h2=>pN ⟨_,_,_,rfl,⟨fun fn=>?_⟩⟩)
 have hx1:=hx.ext e1
 have E1:=(pQ w (.cells #[.int .u64 (U x)] 65)).trans e1
 have hd:(w1.alloc (.deferred (some []))).heap[w1.heap.size]?=some (.deferred (some [])):=heap_alloc_new _ _
 generalize hrec:rU _ _ _ _=L
 have hl:((w1.alloc (.deferred (some []))).alloc (.loop (L fn w1.heap.size))).heap[w1.heap.size+1]?=some (.loop (L fn w1.heap.size)):=by
  have:=heap_alloc_new (w1.alloc (.deferred (some []))) (.loop (L fn w1.heap.size))
  simpa using this
 have e2:=(pQ w1 (.deferred (some []))).trans (pQ _ (.loop (L fn w1.heap.size)))
 have hd:=(pQ _ (.loop (L fn w1.heap.size))).heap hd
 have hE:w.heap.size < w1.heap.size:=hx1.lt
 have hl1:=h1.lt
 have hl2:=h2.lt
 have hx2:=hx1.ext e2
 have h1:=h1.ext e2
 have h2:=h2.ext e2
 have E2:=E1.trans e2
 simp at hb1 hb2
 generalize (w1.alloc (.deferred (some []))).alloc (.loop (L fn w1.heap.size))=w2 at hd hl hx2 h1 h2 E2 ⊢
 generalize hsz:w1.heap.size=d at *
 clear e1 hx1 e2 E1 hx
 have hst:(L fn d).state=.ready∧(L fn d).pending=none:=by rw [←hrec];exact ⟨rfl,rfl⟩
 refine aIv call190 (by rfl) (sh190_ok ?_)
 unfold sh190
 refine ⟨fun vs w'=>∃i:Nat,vs=[.int .i64 i]∧i≤3∧Ext w w'∧w'.heap[d]?=some (.deferred (some []))∧w'.heap[d+1]?=some (.loop (L fn d))∧Blk w' b1 #[.bool false] 4∧Blk w' b2 aEe 206∧
   Blk w' w.heap.size #[.int .u64 (U (zD x i))] 65,fun vs _=>3 - (intOf (vs.getD 0 undef)).toNat,⟨0,rfl,by omega,E2,hd,hl,h1,h2,hx2⟩,?_⟩
 clear hd hl h1 h2 hx2 E2
 rintro i j w3 ⟨m,hm,hm3,E3,hd,hl,h1,h2,hx⟩
 simp only [List.cons.injEq,Value.int.injEq,true_and,and_true] at hm
 obtain rfl:=hm
 refine pO (fun hlt=>?_) fun hge=>?_
 ·have hlt:m < 3:=by have:=of_decide_eq_true hlt;omega
  refine ⟨_,h1.cell (i:=0) rfl rfl,pY rfl ?_⟩
  have hA:∃(s:Nat) (c:BitVec 64),aEe[2 * m]?=some (.int .i64 s)∧aEe[2 * m+1]?=some (.int .u64 (U c))∧s≤64∧zD x (m+1)=xs s (zD x m) * c:=by
   rcases m with _ | _ | _ | m
   ·exact ⟨30,13787848793156543929#64,rfl,rfl,by omega,rfl⟩
   ·exact ⟨27,10723151780598845931#64,rfl,rfl,by omega,rfl⟩
   ·exact ⟨31,1#64,rfl,rfl,by omega,rfl⟩
   ·omega
  obtain ⟨s,c,hs,hc,hs64,hst'⟩:=hA
  have ha:∀k,((blk b2).add ((m:Int).toNat * 2)).add k=⟨b2,2 * m+k,none⟩:=fun k=>by rw [pU];simp only [Addr.add];split <;> simp <;> omega
  refine ⟨_,rfl,by omega,by omega,_,h2.cell (ha 0) hs,_,h2.cell (ha 1) hc,?_⟩
  refine aLh (by rw [hl,←hrec]) ?_
  unfold aNc
  refine ⟨?_⟩
  have hw3:=hx.lt
  have hd3:=(Array.getElem?_eq_some_iff.1 hl).1
  refine qA (pS w3 _ _) (i:=0) rfl (by simp) fun w5 h5 g5=>qA h5 (i:=1) rfl (by simp) fun w6 h6 g6=>?_
  have e6:Ext w3 w6:=((pQ w3 _).st g5 (Nat.le_refl _)).st g6 (Nat.le_refl _)
  refine ⟨_,e6.heap hl,hst.1,?_⟩
  have g7:=qN w6 (d+1) (.loop { L fn d with state:=.busy })
  have hl7:=vR (o':=.loop { L fn d with state:=.busy }) (e6.heap hl)
  have hx7:=(hx.ext e6).grown g7 (pV (by omega))
  have h17:=(h1.ext e6).grown g7 (pV (by omega))
  have h27:=(h2.ext e6).grown g7 (pV (by omega))
  have hd7:=qI g7 (e6.heap hd) (pV (by omega))
  have h67:=h6.grown g7 (pV (by omega))
  have E7:=(E3.trans e6).st g7 (by omega)
  generalize w6.putObj (d+1) (.loop { L fn d with state:=.busy })=w7 at hl7 hx7 h17 h27 hd7 h67 E7 ⊢
  refine ⟨⟨fun w'=>Ext w7 w',pT _,?_⟩⟩
  refine ⟨_,fun w' e'=>(hx7.ext e').cell (i:=0) rfl rfl,_,fun w' e'=>(hx7.ext e').cell (i:=0) rfl rfl,_,fun w' e'=>(h67.ext e').cell (i:=0) rfl rfl,by omega,_,fun w' e'=>(h67.ext e').cell (i:=1) rfl rfl,?_⟩
  rw [aDf _ s hs64,aJg,mul_U]
  refine qA (w:=w7.drew) (b:=w.heap.size) hx7 (i:=0) rfl (by simp) fun w8 h8 g8=>?_
  have hl8:=qI (w:=w7.drew) g8 hl7 (pV (by omega))
  refine ⟨_,hl8,?_⟩
  rw [aBn hst.1 hst.2]
  have g9:=qN w8 (d+1) (.loop (L fn d))
  refine pN ⟨_,rfl,pY rfl ⟨⟨m+1,by rw [pW hlt (by omega)],by omega,?_,?_,vR hl8,?_,?_,?_⟩,?_⟩⟩
  ·exact (E7.drew.st g8 (Nat.le_refl _)).st g9 (by omega)
  ·exact qI g9 (qI (w:=w7.drew) g8 hd7 (pV (by omega))) (pV (by omega))
  ·exact (Blk.grown (w:=w7.drew) h17 g8 (pV (by omega))).grown g9 (pV (by omega))
  ·exact (Blk.grown (w:=w7.drew) h27 g8 (pV (by omega))).grown g9 (pV (by omega))
  ·have:zD x (m+1)=(xs s (zD x m)) * c:=hst'
   rw [this]
   exact h8.grown g9 (pV (by omega))
  ·rw [pW hlt (by omega)]
   simp [intOf];omega
 ·have hge:m=3:=by have:=of_decide_eq_false hge;omega
  subst hge
  rw [←stepsB_3] at h
  have hd3:=(Array.getElem?_eq_some_iff.1 hl).1
  refine aHy hl (by rw [hst.1];simp) hst.2 fun o=>?_
  have g9:=qN w3 (d+1) o
  exact ⟨_,(hx.grown g9 (pV (by omega))).cell (i:=0) rfl rfl,qI g9 hd (pV (by omega)),h _ ((E3.st g9 (by omega)).put (by omega) _)⟩
theorem aMk{x:BitVec 64}(h:R (.returned (.int .u64 (U (revBytes x)))) w):Calls prog 188 #[.int .u64 (U x)] w R:=by
 refine sh188_ok ?_
 unfold sh188
 refine ⟨by omega,by omega,by omega,by omega,by omega,by omega,?_⟩
 simp only [shr_8,shr_16,shr_32,and_d,and_e,shl_8,shl_16,shl_32,bOr_U]
 exact h
theorem c_rev64{x:BitVec 64}(h:R (.returned (.int .u64 (U (revB x)))) w):Calls prog 160 #[.int .u64 (U x)] w R:=by
 refine sh160_ok ?_
 unfold sh160
 refine ⟨by omega,by omega,by omega,by omega,by omega,by omega,?_⟩
 simp only [shr_1,shr_2,shr_4,and_a,and_b,and_c,shl_1,shl_2,shl_4,bOr_U]
 exact pP call188 (aMk (pN ⟨_,rfl,h⟩))
theorem c_flip{x:BitVec 64}(h:R (.returned (.int .u64 (U (revB x)))) w):Calls prog 127 #[.int .u64 (U x)] w R:=by
 refine sh127_ok ?_
 unfold sh127
 exact pP call160 (c_rev64 (pN ⟨_,rfl,h⟩))
theorem c_rotl{x:BitVec 64}{k:Int}{s:Nat}(hs:s < 64)(hk:bAnd .u64 (IntKind.wrap .u64 k) 63=(s:Int))
  (h:R (.returned (.int .u64 (U ((x <<< s) ||| (x >>> (64 - s)))))) w):Calls prog 161 #[.int .u64 (U x),.int .i64 k] w R:=by
 refine sh161_ok ?_
 unfold sh161
 have e:IntKind.wrap .u64 (64 - (s:Int))=((64 - s:Nat):Int):=by rw [qR];omega
 rw [hk,e]
 refine ⟨by omega,by omega,?_⟩
 rw [aEj x s (by omega),aDf x (64 - s) (by omega),bOr_U]
 exact h
theorem c_turn{x:BitVec 64}{n:Int}{s:Nat}(hs:s < 64)(hk:bAnd .u64 (IntKind.wrap .u64 (Int.tmod n 64)) 63=(s:Int))
  (h:R (.returned (.int .u64 (U ((x <<< s) ||| (x >>> (64 - s)))))) w):Calls prog 130 #[.int .u64 (U x),.int .i64 n] w R:=by
 refine sh130_ok ?_
 unfold sh130
 exact ⟨by omega,pP call161 (c_rotl hs hk (pN ⟨_,rfl,h⟩))⟩
theorem c_up{k:Int}(hk:In k)(h:R (.returned (.int .u64 (upI k))) w):Calls prog 120 #[.int .i64 k] w R:=by
 refine sh120_ok ?_
 unfold sh120
 rw [upB_U hk]
 exact h
theorem up_U{k:Int}(hk:In k):upI k=U (BitVec.ofInt 64 (upI k)):=by
 rw [vN];unfold upI In at *;omega
def kd(nm:ByteArray)(f g:Nat):Value:=.agg #[.string nm,.func (.func f) #[] #[],.func (.func g) #[] #[]]
def orderEs:Array MapEntry:=#[
 { key:=.int .u8 1,val:=kd ⟨#[117,112]⟩ 120 121,born:=0 },
 { key:=.int .u8 2,val:=kd ⟨#[100,111,119,110]⟩ 122 123,born:=1 },
 { key:=.int .u8 3,val:=kd ⟨#[115,105,122,101]⟩ 124 125,born:=2 },
 { key:=.int .u8 4,val:=kd ⟨#[98,105,116,115]⟩ 126 128,born:=3 },
 { key:=.int .u8 5,val:=kd ⟨#[101,118,101,110]⟩ 129 131,born:=4 },
 { key:=.int .u8 6,val:=kd ⟨#[108,111,119]⟩ 132 133,born:=5 },
 { key:=.int .u8 7,val:=kd ⟨#[109,105,120]⟩ 134 136,born:=6 }]
theorem aFy(h:∀b w',Ext w w'→w'.heap[b]?=some (.map orderEs 7)→R (.returned (.map (some b))) w'):Calls prog 82 #[] w R:=by
 refine sh82_ok ?_
 unfold sh82
 refine ⟨?_⟩
 refine qE underlying111 underlying5 (heap_alloc_new w _) (by rfl) (by rfl) fun w1 h1 g1=>?_
 refine qE underlying111 underlying5 h1 (by rfl) (by rfl) fun w2 h2 g2=>?_
 refine qE underlying111 underlying5 h2 (by rfl) (by rfl) fun w3 h3 g3=>?_
 refine qE underlying111 underlying5 h3 (by rfl) (by rfl) fun w4 h4 g4=>?_
 refine qE underlying111 underlying5 h4 (by rfl) (by rfl) fun w5 h5 g5=>?_
 refine qE underlying111 underlying5 h5 (by rfl) (by rfl) fun w6 h6 g6=>?_
 refine qE underlying111 underlying5 h6 (by rfl) (by rfl) fun w7 h7 g7=>?_
 have e:=pQ w (.map #[] 0)
 exact h _ _ (((((((e.st g1 (Nat.le_refl _)).st g2 (Nat.le_refl _)).st g3 (Nat.le_refl _)).st g4 (Nat.le_refl _)).st g5 (Nat.le_refl _)).st g6 (Nat.le_refl _)).st g7 (Nat.le_refl _)) h7
theorem aFk{o:Int}(h:isO o=true):∃i f g,Instr.findNow (.int .u8) (.int .u8 o) orderEs.toList 0=some (some (i,kd (aGu o) f g))∧
  ∀(k:Int),In k→∀(w:World) (R:EW),(∀w',Ext w w'→R (.returned (.int .u64 (qC o k))) w')→doCall prog (.func (.func f) #[] #[]) #[.int .i64 k] w R:=by
 rcases aCu h with rfl | rfl | rfl | rfl | rfl | rfl | rfl
 ·exact ⟨0,120,121,rfl,fun k hk w R h=>pP call120 (c_up hk (h _ (pR _)))⟩
 ·refine ⟨1,122,123,rfl,fun k hk w R h=>pP call122 (sh122_ok ?_)⟩
  unfold sh122
  refine pP call120 (c_up hk (pN ⟨_,rfl,?_⟩))
  rw [not_U (by unfold upI In at *;omega) (by unfold upI In at *;omega)]
  exact h _ (pR _)
 ·refine ⟨2,124,125,rfl,fun k hk w R h=>pP call124 (sh124_ok ?_)⟩
  unfold sh124
  refine ⟨by omega,by omega,?_⟩
  rw [size_U hk]
  exact h _ (pR _)
 ·refine ⟨3,126,128,rfl,fun k hk w R h=>pP call126 (sh126_ok ?_)⟩
  unfold sh126
  rw [uM]
  exact pP call127 (c_flip (pN ⟨_,rfl,h _ (pR _)⟩))
 ·refine ⟨4,129,131,rfl,fun k hk w R h=>pP call129 (sh129_ok ?_)⟩
  unfold sh129
  refine pP call120 (c_up hk (pN ⟨_,rfl,?_⟩))
  have hu:=up_U hk
  rw [hu]
  refine pP call130 (c_turn (s:=63) (by omega) (by decide) (pN ⟨_,rfl,?_⟩))
  have:=h _ (pR _)
  have e:U ((BitVec.ofInt 64 (upI k)) <<< 63 ||| (BitVec.ofInt 64 (upI k)) >>> (64 - 63))=qC 5 k:=by
   rw [rot_U _ (by omega) (by omega)]
   have hn:((BitVec.ofInt 64 (upI k)).toNat:Int)=upI k:=hu.symm
   simp only [qC]
   simp
   unfold upI In at *
   split <;> omega
  rw [e];exact this
 ·refine ⟨5,132,133,rfl,fun k hk w R h=>pP call132 (sh132_ok ?_)⟩
  unfold sh132
  refine pP call120 (c_up hk (pN ⟨_,rfl,?_⟩))
  have hu:=up_U hk
  rw [hu]
  refine pP call130 (c_turn (s:=32) (by omega) (by decide) (pN ⟨_,rfl,?_⟩))
  have:=h _ (pR _)
  have e:U ((BitVec.ofInt 64 (upI k)) <<< 32 ||| (BitVec.ofInt 64 (upI k)) >>> (64 - 32))=qC 6 k:=by
   rw [rot_U _ (by omega) (by omega)]
   have hn:((BitVec.ofInt 64 (upI k)).toNat:Int)=upI k:=hu.symm
   simp only [qC]
   simp
   unfold upI In at *
   omega
  rw [e];exact this
 ·refine ⟨6,134,136,rfl,fun k hk w R h=>pP call134 (sh134_ok ?_)⟩
  unfold sh134
  rw [uM]
  exact pP call135 (c_mix fun w' e=>pN ⟨_,rfl,h _ e⟩)
theorem yV{o:Int}(h:isO o=false):Instr.findNow (.int .u8) (.int .u8 o) orderEs.toList 0=some none:=by
 have hn:∀i:Int,1≤i→i≤7→(o==i)=false:=fun i h1 h2=>by
  simp [isO] at h
  simp;omega
 simp [orderEs,Instr.findNow,Instr.sameNow,hn]
theorem aMn{o:Int}(h:∀w',Ext w w'→R (.returned (.string (aGu o))) w'):Calls prog 30 #[.int .u8 o] w R:=by
 refine sh30_ok ?_
 unfold sh30
 refine pP call82 (aFy fun b w1 e1 hb=>pN ⟨_,rfl,?_⟩)
 cases hm:isO o
 ·refine aDn underlying111 underlying5 hb (by rfl) (yV hm) (z:=.agg #[.string ⟨#[]⟩,.nilFunc,.nilFunc]) (by kernel_rfl) (.inr ⟨rfl,?_⟩)
  have:aGu o=⟨#[]⟩:=by
   simp [isO] at hm
   unfold aGu
   rw [if_neg (by omega),if_neg (by omega),if_neg (by omega),if_neg (by omega),if_neg (by omega),if_neg (by omega),if_neg (by omega)]
  exact this▸h _ e1
 ·obtain ⟨i,f,g,hf,hc⟩:=aFk hm
  exact aBd underlying111 underlying5 hb (by rfl) hf (.inl ⟨_,_,_,_,_,_,_,rfl,h _ e1⟩)
theorem aMp{o k:Int}(hk:In k)(h:∀w',Ext w w'→R (.returned (.tuple #[.int .u64 (cond (isO o) (qC o k) 0),.int .i64 (cond (isO o) 0 2)])) w'):
  Calls prog 95 #[.int .u8 o,.int .i64 k] w R:=by
 refine sh95_ok ?_
 unfold sh95
 refine pP call82 (aFy fun b w1 e1 hb=>pN ⟨_,rfl,?_⟩)
 cases hm:isO o <;> simp only [hm] at h
 ·refine vH underlying111 underlying5 hb (by rfl) (yV hm) (z:=.agg #[.string ⟨#[]⟩,.nilFunc,.nilFunc]) (by kernel_rfl) (.inr ⟨rfl,⟨?_⟩⟩)
  refine qA (pS w1 _ _) (i:=0) rfl (by simp) fun w2 h2 g2=>qA h2 (i:=1) rfl (by simp) fun w3 h3 g3=>qA h3 (i:=2) rfl (by simp) fun w4 h4 g4=>?_
  exact h _ ((((e1.alloc _).st g2 e1.size).st g3 e1.size).st g4 e1.size)
 ·obtain ⟨i,f,g,hf,hc⟩:=aFk hm
  refine vI underlying111 underlying5 hb (by rfl) hf (.inl ⟨_,_,_,_,_,_,_,_,rfl,⟨?_⟩⟩)
  refine qA (pS w1 _ _) (i:=0) rfl (by simp) fun w2 h2 g2=>qA h2 (i:=1) rfl (by simp) fun w3 h3 g3=>qA h3 (i:=2) rfl (by simp) fun w4 h4 g4=>?_
  have E4:=(((e1.alloc (.cells #[.string ⟨#[]⟩,.nilFunc,.nilFunc] 110)).st g2 e1.size).st g3 e1.size).st g4 e1.size
  exact ⟨_,_,_,h4.cell (i:=1) rfl rfl,hc k hk _ _ fun w5 e5=>pN ⟨_,rfl,h _ (E4.trans e5)⟩⟩
theorem c_cmp64{x y:Int}(h:R (.returned (.int .i64 (if x < y then -1 else if y < x then 1 else 0))) w):Calls prog 96 #[.int .u64 x,.int .u64 y] w R:=by
 have nan:∀x:Int,∀{w:World} {R:EW},R (.returned (.bool false)) w→Calls prog 140 #[.int .u64 x] w R:=fun x w R h=>sh140_ok (by
  unfold sh140
  rw [show (x !=x)=false by simp];exact h)
 refine sh96_ok ?_
 unfold sh96
 refine pP call140 (nan _ (pN ⟨_,rfl,pP call140 (nan _ (pN ⟨_,rfl,pY rfl (pY rfl ?_)⟩))⟩))
 refine pO (fun h1=>?_) fun h1=>pO (fun h2=>?_) fun h2=>?_
 ·rw [if_pos (of_decide_eq_true h1)] at h;exact h
 ·rw [if_neg (of_decide_eq_false h1),if_pos (of_decide_eq_true h2)] at h;exact h
 ·rw [if_neg (of_decide_eq_false h1),if_neg (of_decide_eq_false h2)] at h;exact h
theorem vK{o a b:Int}(ha:In a)(hb:In b)(h:∀w',Ext w w'→R (.returned (.int .i64 (cmpI o a b))) w'):
  Calls prog 54 #[.int .u8 o,.int .i64 a,.int .i64 b] w R:=by
 refine sh54_ok ?_
 unfold sh54
 refine pP call95 (aMp ha fun w1 e1=>pN ⟨_,_,rfl,pP call95 (aMp hb fun w2 e2=>pN ⟨_,_,rfl,?_⟩)⟩)
 cases hm:isO o
 ·refine pZ rfl ?_
  have:cmpI o a b=0:=by simp [isO] at hm;unfold cmpI;rw [if_neg (by omega)]
  exact this▸h _ (e1.trans e2)
 ·have:cmpI o a b=(if qC o a < qC o b then -1 else if qC o b < qC o a then 1 else 0):=by simp [isO] at hm;unfold cmpI;rw [if_pos hm]
  exact pY rfl (pP call96 (c_cmp64 (pN ⟨_,rfl,this▸h _ (e1.trans e2)⟩)))
theorem aHj{o:Int}(h:R (.returned (.bool (isO o))) w):Calls prog 19 #[.int .u8 o] w R:=by
 refine sh19_ok ?_
 unfold sh19
 unfold isO at h
 refine pO (fun h1=>?_) fun h1=>?_
 ·have h1:1≤o:=by simpa using h1
  simpa [h1] using h
 ·have h1:¬1≤o:=by simpa using h1
  simpa [h1] using h
theorem c_rup{k:Int}(hk:In k)(h:R (.returned (.int .u64 (upI k))) w):Calls prog 55 #[.int .i64 k] w R:=by
 refine sh55_ok ?_
 unfold sh55
 rw [upR_U hk]
 exact h
theorem c_rflip{x:BitVec 64}(h:R (.returned (.int .u64 (U (revB x)))) w):Calls prog 56 #[.int .u64 (U x)] w R:=by
 refine sh56_ok ?_
 unfold sh56
 refine ⟨fun vs w'=>∃(i:Nat) (a b:BitVec 64),vs=[.int .u64 (U a),.int .u64 (U b),.int .i64 i]∧i≤64∧FlipI x i a b∧w'=w,fun vs _=>64 - (intOf (vs.getD 2 undef)).toNat,
  ⟨0,x,0#64,rfl,by omega,aMd x,rfl⟩,?_⟩
 rintro a b i j w3 ⟨m,a',b',hv,hm,hf,rfl⟩
 simp only [List.cons.injEq,Value.int.injEq,true_and,and_true] at hv
 obtain ⟨rfl,rfl,rfl⟩:=hv
 refine pO (fun h1=>?_) fun h1=>?_
 ·have h1:m < 64:=by have:=of_decide_eq_true h1;omega
  refine ⟨by omega,by omega,?_⟩
  rw [tdiv2_U,tmod2_U,mul2_U,add_U,pW h1 (by omega)]
  exact ⟨⟨m+1,_,_,rfl,by omega,aMc h1 hf,rfl⟩,by simp [intOf];omega⟩
 ·have h1:m=64:=by have:=of_decide_eq_false h1;omega
  subst h1
  rw [rev_eq (aPp hf) (aEn x)]
  exact h
theorem c_rturn{x:Nat}(hx:x < 18446744073709551616)(h:R (.returned (.int .u64 ((x % 4294967296 * 4294967296+x / 4294967296:Nat):Int))) w):Calls prog 57 #[.int .u64 (x:Int),.int .i64 32] w R:=by
 refine sh57_ok ?_
 unfold sh57
 rw [←turnY_64 hx] at h
 refine ⟨by omega,by omega,fun vs w'=>∃i:Nat,vs=[.int .u64 ((zA x i:Nat):Int),.int .i64 i]∧i≤64∧w'=w,fun vs _=>64 - (intOf (vs.getD 1 undef)).toNat,
  ⟨0,by simp [zA,Nat.mod_one],by omega,rfl⟩,?_⟩
 rintro y i j w3 ⟨m,hv,hm,rfl⟩
 simp only [List.cons.injEq,Value.int.injEq,true_and,and_true] at hv
 obtain ⟨rfl,rfl⟩:=hv
 refine pO (fun h1=>?_) fun h1=>?_
 ·have h1:m < 64:=by have:=of_decide_eq_true h1;omega
  have e1:Int.tmod (IntKind.wrap .i64 (Int.tmod 32 64+64)) 64=32:=by decide
  have e2:IntKind.wrap .i64 ((m:Int)+32)=((m+32:Nat):Int):=by rw [qB (by omega) (by omega)];simp
  have e3:IntKind.wrap .u64 (Int.tmod ((m+32:Nat):Int) 64)=(((m+32) % 64:Nat):Int):=by
   rw [qR,Int.tmod_eq_emod_of_nonneg (by omega)];omega
  have e4:IntKind.wrap .u64 (m:Int)=(m:Int):=by rw [qR];omega
  rw [e1,e2,e3,e4,pW h1 (by omega)]
  refine ⟨by omega,by omega,by omega,by omega,?_⟩
  have e5:Int.fdiv (x:Int) (2 ^ (min ((m:Nat):Int).toNat (IntKind.bits .u64)))=((x / 2 ^ m:Nat):Int):=by
   rw [xC,Int.toNat_natCast,Nat.min_eq_left (by omega),Int.fdiv_eq_ediv_of_nonneg _ (Int.pow_nonneg (by omega))]
   simp
  have e6:Int.tmod ((x / 2 ^ m:Nat):Int) 2=((x / 2 ^ m % 2:Nat):Int):=by
   generalize x / 2 ^ m=q
   rw [Int.tmod_eq_emod_of_nonneg (by omega)];omega
  have hlt:x / 2 ^ m % 2 * 2 ^ ((m+32) % 64) < 18446744073709551616:=by
   have h2:x / 2 ^ m % 2≤1:=by omega
   have h3:2 ^ ((m+32) % 64)≤2 ^ 63:=Nat.pow_le_pow_right (by omega) (by omega)
   have:=Nat.mul_le_mul h2 h3
   omega
  have e7:IntKind.wrap .u64 (((x / 2 ^ m % 2:Nat):Int) * 2 ^ (min (((m+32) % 64:Nat):Int).toNat (IntKind.bits .u64)))=((x / 2 ^ m % 2 * 2 ^ ((m+32) % 64):Nat):Int):=by
   rw [xC,Int.toNat_natCast,Nat.min_eq_left (by omega),qR]
   have:(((x / 2 ^ m % 2:Nat):Int) * 2 ^ ((m+32) % 64))=((x / 2 ^ m % 2 * 2 ^ ((m+32) % 64):Nat):Int):=by simp
   rw [this]
   generalize x / 2 ^ m % 2 * 2 ^ ((m+32) % 64)=q at hlt ⊢
   omega
  have e8:IntKind.wrap .u64 (((zA x m:Nat):Int)+((x / 2 ^ m % 2 * 2 ^ ((m+32) % 64):Nat):Int))=((zA x (m+1):Nat):Int):=by
   have h2:=aLc (x:=x) h1
   have h3:=turnY_lt hx (show m+1≤64 by omega)
   rw [h2] at h3 ⊢
   rw [qR]
   generalize x / 2 ^ m % 2 * 2 ^ ((m+32) % 64)=q at h3 ⊢
   omega
  rw [e5,e6,e7,e8]
  exact ⟨⟨m+1,rfl,by omega,rfl⟩,by simp [intOf];omega⟩
 ·have h1:m=64:=by have:=of_decide_eq_false h1;omega
  subst h1
  exact h
theorem c_rmix{x:BitVec 64}(h:R (.returned (.int .u64 (U (mixB x)))) w):Calls prog 58 #[.int .u64 (U x)] w R:=by
 refine sh58_ok ?_
 unfold sh58
 refine ⟨by omega,by omega,by omega,?_⟩
 have d1:∀x:BitVec 64,IntKind.wrap .u64 (Int.tdiv (U x) 1073741824)=U (x >>> 30):=fun x=>aHp x 30
 have d2:∀x:BitVec 64,IntKind.wrap .u64 (Int.tdiv (U x) 134217728)=U (x >>> 27):=fun x=>aHp x 27
 have d3:∀x:BitVec 64,IntKind.wrap .u64 (Int.tdiv (U x) 2147483648)=U (x >>> 31):=fun x=>aHp x 31
 have m1:∀x:BitVec 64,IntKind.wrap .u64 (U x * 13787848793156543929)=U (x * 13787848793156543929#64):=fun x=>mul_U x 13787848793156543929#64
 have m2:∀x:BitVec 64,IntKind.wrap .u64 (U x * 10723151780598845931)=U (x * 10723151780598845931#64):=fun x=>mul_U x 10723151780598845931#64
 simp only [d1,aJg,m1,d2,m2,d3]
 exact h
theorem aDy{o k:Int}(ho:isO o=true)(hk:In k)(h:R (.returned (.int .u64 (qC o k))) w):Calls prog 25 #[.int .u8 o,.int .i64 k] w R:=by
 refine sh25_ok ?_
 unfold sh25
 have hr:=aCz (o:=o) hk
 rcases aCu ho with rfl | rfl | rfl | rfl | rfl | rfl | rfl
 ·exact pZ rfl (pP call55 (c_rup hk (pN ⟨_,rfl,h⟩)))
 ·refine pY rfl (pZ rfl (pP call55 (c_rup hk (pN ⟨_,rfl,?_⟩))))
  rw [qR,Int.emod_eq_of_lt (by unfold upI In at *;omega) (by unfold upI In at *;omega)]
  exact h
 ·refine pY rfl (pY rfl (pZ rfl (pO (fun h1=>?_) fun h1=>?_)))
  ·have h1:=of_decide_eq_true h1
   have e:IntKind.wrap .u64 (IntKind.wrap .u64 (IntKind.wrap .u64 (IntKind.wrap .i64 (0 - IntKind.wrap .i64 (k+1))) * 2)+1)=qC 3 k:=by
    unfold In at hk
    rw [qB (x:=k+1) (by omega) (by omega),qB (by omega) (by omega),qR,qR,qR]
    simp only [qC];simp [h1];omega
   rw [e];exact h
  ·have h1:=of_decide_eq_false h1
   have e:IntKind.wrap .u64 (IntKind.wrap .u64 k * 2)=qC 3 k:=by
    unfold In at hk
    rw [qR,qR]
    simp only [qC];simp [h1];omega
   rw [e];exact h
 ·refine pY rfl (pY rfl (pY rfl (pZ rfl ?_)))
  rw [uM]
  exact pP call56 (c_rflip (pN ⟨_,rfl,h⟩))
 ·refine pY rfl (pY rfl (pY rfl (pY rfl (pZ rfl (pP call55 (c_rup hk (pN ⟨_,rfl,by omega,by omega,?_⟩)))))))
  have ht:Int.tdiv (upI k) 2=upI k / 2:=Int.tdiv_eq_ediv_of_nonneg (by unfold upI In at *;omega)
  have hm:Int.tmod (IntKind.wrap .u64 k) 2=k % 2:=by
   rw [qR,Int.tmod_eq_emod_of_nonneg (by omega)];omega
  rw [hm,ht]
  refine pO (fun h1=>?_) fun h1=>?_
  ·have h1:k % 2=1:=by simpa using h1
   have e:IntKind.wrap .u64 (IntKind.wrap .u64 (upI k / 2)+9223372036854775808)=qC 5 k:=by
    unfold In at hk
    rw [qR,qR]
    simp only [qC];simp [h1];unfold upI;omega
   rw [e];exact h
  ·have h1:¬k % 2=1:=by simpa using h1
   have e:IntKind.wrap .u64 (upI k / 2)=qC 5 k:=by
    unfold In at hk
    rw [qR]
    simp only [qC];simp [h1];unfold upI;omega
   rw [e];exact h
 ·refine pY rfl (pY rfl (pY rfl (pY rfl (pY rfl (pZ rfl (pP call55 (c_rup hk (pN ⟨_,rfl,?_⟩))))))))
  obtain ⟨x,hx⟩:∃x:Nat,upI k=(x:Int):=⟨(upI k).toNat,by unfold upI In at *;omega⟩
  rw [hx]
  refine pP call57 (c_rturn (by unfold upI In at *;omega) (pN ⟨_,rfl,?_⟩))
  have e:((x % 4294967296 * 4294967296+x / 4294967296:Nat):Int)=qC 6 k:=by
   simp only [qC];simp;rw [hx]
  rw [e];exact h
 ·refine pY rfl (pY rfl (pY rfl (pY rfl (pY rfl (pY rfl ?_)))))
  rw [uM]
  exact pP call58 (c_rmix (pN ⟨_,rfl,h⟩))
theorem aMl{o a b:Int}(ha:In a)(hb:In b)(h:R (.returned (.int .i64 (cmpI o a b))) w):
  Calls prog 9 #[.int .u8 o,.int .i64 a,.int .i64 b] w R:=by
 refine sh9_ok ?_
 unfold sh9
 refine pP call19 (aHj (pN ⟨_,rfl,?_⟩))
 cases hm:isO o
 ·refine pZ rfl ?_
  have:cmpI o a b=0:=by simp [isO] at hm;unfold cmpI;rw [if_neg (by omega)]
  exact this▸h
 ·have hc:cmpI o a b=(if qC o a < qC o b then -1 else if qC o b < qC o a then 1 else 0):=by simp [isO] at hm;unfold cmpI;rw [if_pos hm]
  refine pY rfl (pP call25 (aDy hm ha (pN ⟨_,rfl,pP call25 (aDy hm hb (pN ⟨_,rfl,?_⟩))⟩)))
  refine pO (fun h1=>?_) fun h1=>?_
  ·have h1:qC o a=qC o b:=by simpa using h1
   rw [hc,if_neg (by omega),if_neg (by omega)] at h;exact h
  ·have h1:¬qC o a=qC o b:=by simpa using h1
   refine pP call25 (aDy hm ha (pN ⟨_,rfl,pP call25 (aDy hm hb (pN ⟨_,rfl,?_⟩))⟩))
   refine pO (fun h2=>?_) fun h2=>?_
   ·rw [hc,if_pos (of_decide_eq_true h2)] at h;exact h
   ·have h2:=of_decide_eq_false h2
    rw [hc,if_neg h2,if_pos (by omega)] at h;exact h
theorem wD{o a b:Int}(ha:In a)(hb:In b)(h:R (.returned (.bool (decide (cmpI o a b < 0)))) w):
  Calls prog 87 #[.int .u8 o,.int .i64 a,.int .i64 b] w R:=by
 refine sh87_ok ?_
 unfold sh87
 exact pP call9 (aMl ha hb (pN ⟨_,rfl,h⟩))
end Go.Proofs.YtmdboekndjlmgaaGreat
