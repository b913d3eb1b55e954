/- Texts behind the claim, part 2: the abstract machine, and what the functions answer. No condition. -/
import Derived.Test.YtifdkhfldbkkpaaGreatCC1
set_option linter.unusedVariables false
set_option maxHeartbeats 4000000
set_option maxRecDepth 100000
set_option linter.unusedSimpArgs false
set_option linter.unusedSectionVars false
namespace Go.Proofs.YtifdkhfldbkkpaaGreat.Am
open Go.RowKit
variable{a:Act}{bf:Array Nat}{ops:Array Oper}{xs ys:Array Value}{B:Bs}{c:Code}{G:Ca}{Q:Exit->Act->World->Prop}{R1' R2' U b rd:List Nat}{d h i j n nx t:Nat}{H Hx:Nat->Option O}{X m:Nat->Prop}{ob:O}{o oi oj:Oper}{P:Program}{st':St}{p q:St×Ew}{gl:T (List V)}{tm tm':TM}{α:Type}{x:V}{w w':World}
theorem qF{F:Fence}(J:Nat->Act->World->Prop)
  (round: ∀j a w,J j a w->c.wpIn F n P (Exit.then (λa' w'=>∃i,i<j/\J i a' w') Q) a w): ∀(j:Nat)(a:Act)(w:World),J j a w->(Code.loop c).wpIn F n P Q a w:=by
 intro j0 a w h₀ b k cs hro hb hr
 have key: ∀j a w,J j a w->
   ∃e a' w',Q e a' w'/\ArrivesIn (Machine.fenced P F) P (lone (b.atR a (.code c:: .inLoop c::k)) cs w) b k cs e a' w':=by
  intro j
  induction j using Nat.strongRecOn with
  | _ j ih=>
   intro a w hJ
   obtain⟨e,a₁,w₁,hq,harr⟩:=round j a w hJ b (.inLoop c::k) cs hro hb hr
   cases e with
   |normal=>
    obtain⟨i,hlt,hJ₁⟩:=hq
    obtain⟨e₂,a₂,w₂,hq₂,harr₂⟩:=ih i hlt a₁ w₁ hJ₁
    exact⟨e₂,a₂,w₂,hq₂,.of_steps (StepsIn.trans harr (.one (fenced_calm hb hr rfl) stepR_inLoop)) harr₂⟩
   |exit id=>exact⟨_,a₁,w₁,hq,.pass (x:=.inLoop c) rfl (λ_ _=>.inl s_) harr⟩
   |goto l=>exact⟨_,a₁,w₁,hq,.pass (x:=.inLoop c) rfl (λ_ _=>.inl s_) harr⟩
   |ret=>exact⟨_,a₁,w₁,hq,.pass (x:=.inLoop c) rfl (λ_ _=>.inl s_) harr⟩
   |panic ch=>exact⟨_,a₁,w₁,hq,.pass (x:=.inLoop c) rfl (λ_ _=>.inl s_) harr⟩
   |outgrown=>exact⟨_,a₁,w₁,hq,.pass (x:=.inLoop c) rfl (λ_ _=>.inl s_) harr⟩
 obtain⟨e,a',w',hq,harr⟩:=key j0 a w h₀
 exact⟨e,a',w',hq,.of_steps (.one (fenced_calm hb hr rfl) stepR_loop) harr⟩
theorem AW{l:Option Nat}{m:Nat}(h:c.wpIn (FF l) n P Q a w):c.wpIn (FF l) m P Q a w:=
 λb k cs h1 h2 _=>h b k cs h1 h2 (BE l _)
def Zn:Ex->Exit
 | .normal=>.normal
 | .exit id=>.exit id
 | .ret=>.ret
 | .pan _=>.ret
def V9(P:Program)(E:B9):Prop:=
 ∀{gl:T (List V)}{call:Dq}(_:Na P gl call)(_:J4 call){ops:Array Oper}{l:Option Nat}{B:Bs}{id:Nat}{Q:Exit->Act->World->Prop}{st st':St}{s:Av}{w:World}{a:Act},
  LG E call ops st=some st'->st.tm.gl=gl->Ir B s w st a->(∀a' w',Iu B s w st st' a a' w'->Q .normal a' w')->(Code.region id ops true).wpIn (FF l) 5 P Q a w
structure B9.Ok(E:B9)(P:Program):Prop where
 G:E.G.Ok P
 code: ∀f fi,E.code f=some fi->∃fn,P.funcs[f]? =some fn/\fn.body=some fi.body/\fn.ntmps=fi.ntmps/\fn.results.toList=fi.res/\∀ars w,(callFunc f ars).run P w= .ok (.enter f ars) w
 ext:RX E P
 hook: ∀f ars H gl v,E.hook f ars H gl=some v->∀(s:Av)(w:World)(vals:Array Value),RL s w ars vals.toList->RH s w H.get->GL s w gl->∀nx,(∀i,nx<=i->¬s.dom i)->
  (callFunc f vals).run P w= .ok (.enter f vals) w/\Calls P f vals w (Ge s w nx ⟨v,H,nx,[]⟩)
def SH(a:Array Value):ResultVar->Sem Value
 | .tmp t=>pure (a.getD t undef)
 | .cell p t=>do loadVar t (<-asAddr (a.getD p undef))
theorem jg(fn:Func)(a:Array Value):results fn a=(do let vs<-fn.results.mapM (SH a);pure (if h:vs.size=1 then vs[0]else .tuple vs)):=by
 trivial
theorem Rt(hG:G.Ok P){s:Av}{a:Array Value}(hH:RH s w H)(hT:RT s w tm a){t:T O}(ht:t.get=H){r:ResultVar}(h:FQ G tm t r=some x):
  ∃v,RV s w x v/\(SH a r).run P w= .ok v w:=by
 cases r with
 |tmp i=>
  obtain⟨v,hv,hr⟩:=hT.2.1 i x h
  simp_all[SH]
 | cell p i =>
  simp only[FQ]at h
  split at h
  .rename_i hd off ti hp hti
   split at h
   .rename_i et sp c ho
    rw[ht]at ho
    obtain⟨_,_,_,vs,rest,b1,b2,_⟩:=hH.obj _ _ ho rfl
    obtain⟨v,hr,hrun⟩:=oU (P:=P) hG hti (b2.drop off) h
    refine⟨v,hr,?_⟩
    obtain⟨u,hu,hdm,rfl⟩:=hT.2.1 p _ hp
    simp_all[World.cell?,aM,dR,Instr.loadAt,Instr.sureAddr,SH,asAddr]
   .cases h
  .cases h
theorem xS(hG:G.Ok P){s:Av}{a:Array Value}(hH:RH s w H)(hT:RT s w tm a){t:T O}(ht:t.get=H): ∀{rs:List ResultVar}{xs:List V},Lq G tm t rs=some xs->
  ∃vs,RL s w xs vs/\(rs.mapM (SH a)).run P w= .ok vs w
 |[],_,h=>by cases h;exact⟨[],rfl,rfl⟩
 | r :: rs, _, h => by
  unfold Lq at h
  split at h
  .rename_i x xs h1 h2
   cases h
   obtain⟨v,g1,g2⟩:=Rt (P:=P) hG hH hT ht h1
   obtain⟨vs,g3,g4⟩:=xS hG hH hT ht h2
   refine⟨v::vs,⟨v,vs,rfl,g1,g3⟩,?_⟩
   simp_all
  .cases h
theorem YI(hG:G.Ok P){s:Av}{a:Array Value}(hH:RH s w H)(hT:RT s w tm a){t:T O}(ht:t.get=H){fn:Func}(h:Db G tm t fn.results.toList=some x):
  ∃v,RV s w x v/\(results fn a).run P w= .ok v w:=by
 unfold Db at h
 have key: ∀{xs:List V},Lq G tm t fn.results.toList=some xs->∃vs:List Value,RL s w xs vs/\(results fn a).run P w= .ok (if h:vs.toArray.size=1 then vs.toArray[0]else .tuple vs.toArray) w:=by
  intro xs hx
  obtain⟨vs,g1,g2⟩:=xS (P:=P) hG hH hT ht hx
  refine⟨vs,g1,?_⟩
  rw[jg,Sem.run_bind,Array.mapM_eq_mapM_toList,map_eq_pure_bind,Sem.run_bind,g2,Result.andThen_ok]
  rfl
 split at h
 .rename_i v hv
  cases h
  obtain⟨vs,g1,g2⟩:=key hv
  obtain⟨u,us,rfl,hu,e⟩:=g1
  cases e
  simp_all
 .rename_i l hno hl
  cases h
  obtain⟨vs,g1,g2⟩:=key hl
  have hlen:=g1.length
  have hne:vs.toArray.size≠1:=λe=>by
   grind[List.length_eq_one_iff]
  rw[dif_neg hne]at g2
  exact⟨_,⟨_,rfl,by simpa using g1⟩,g2⟩
 .cases h
theorem qC{fn:Func}{tmps:Array Value}{R:Ending->World->Prop}: ∀(Ds:List Nat)(w:World),Ds.Nodup->(∀D∈Ds,w.heap[D]? =some (.deferred (some [])))->
  (∀w',(∀b,b∉Ds->w'.heap[b]? =w.heap[b]?)->w'.heap.size=w.heap.size->w'.os=w.os->w'.tape=w.tape->w'.output=w.output->∃v,(results fn tmps).run P w'= .ok v w'/\R (.returned v) w')->LeavesInM Fence.wide n P fn tmps R (Ds.map Mm) .returning w
 |[],w,_,_,h=>h w (λ_ _=>rfl) rfl rfl rfl rfl
 |D::Ds,w,hn,hD,h=>by
  have hd:=hD D (aZ)
  obtain⟨h1,h2⟩:=dC.1 hn
  refine⟨by simp,.inl ⟨D,w.putObj D (.deferred none),rfl,run_takeDeferred hd,?_⟩⟩
  refine qC Ds _ h2 (λD' hD'=>?_) (λw' g1 g2 g3 g4 g5=>?_)
  all_goals grind[World.putObj]
theorem pX: ∀(f n i:Nat),(JB f n).get i=none
 |0,_,_=>rfl
 | f + 1, n, i => by
  unfold JB
  cases Nat.beq n 0 with
  |true=>rfl
  |false=>
   show(bif Nat.beq i 0 then none else bif Nat.beq (i%2) 1 then(JB f (n/2)).get (i/2)else(JB f ((n-1)/2)).get (i/2-1))=none
   rw[pX f,pX f]
   simp
theorem EJ(n i:Nat):(B0 n).get i=none:=pX _ _ _
theorem ZI: ∀(l:List V)(t:T V)(k i:Nat),(Cf t k l).get i=if k<=i/\i<k+l.length then l[i-k]? else t.get i
 |[],t,k,i=>by grind[Cf]
 |x::xs,t,k,i=>by
  rw[Cf,ZI xs _ _ i,T.get_put]
  grind
def G0(P:Program)(E:B9)(n:Nat):Prop:=
 ∀(rd:Option Nat)(c:Code)(st:St)(L:Rs)(s:Av)(w:World)(a:Act)(B:Bs),Dh E n rd c st=some L->Ir B s w st a->B.n<=w.heap.size->(∀h,rd=some h->s.dom h)->
  ∀(Q:Exit->Act->World->Prop),(∀e st',(e,st')∈L->∀a' w',Iu B s w st st' a a' w'->Q (Zn e) a' w')->c.wpIn (FF (rd.map s.μ)) 5 P Q a w
theorem G0.one{E:B9}(hX:G0 P E n)(rd:Option Nat)(c:Code)(st st':St)(e:Ex)(s:Av)(w:World)(a:Act)(B:Bs)(h:Dh E n rd c st=some [(e,st')])(hr:Ir B s w st a)(hB:B.n<=w.heap.size)(hrd: ∀h,rd=some h->s.dom h)(Q:Exit->Act->World->Prop)(hQ: ∀a' w',Iu B s w st st' a a' w'->Q (Zn e) a' w'):c.wpIn (FF (rd.map s.μ)) 5 P Q a w:=
 hX rd c st _ s w a B h hr hB hrd Q (λe' s' hm=>by simp_all)
theorem yS{rs:List ResultVar}: ∀{L:Rs}{v:V},Ob G rs nx L=some v->∀x∈L,I4 G rs nx x=some v
 |[],_,h,_,_=>by cases h
 |[y],v,h,x,hx=>by rw[aN]at hx;subst hx;exact h
 | y :: z :: l, v, h, x, hx => by
  unfold Ob at h
  split at h
  .rename_i v1 u h1 h2
   obtain⟨hb,h⟩:=Hi h
   cases h
   have:=Gd _ _ hb
   subst this
   rcases aK.1 hx with rfl|hx
   .exact h1
   .exact yS h2 x hx
  .cases h
theorem jd{rs:List ResultVar}{e:Ex}{st:St}{v:V}(h:I4 G rs nx (e,st)=some v):(e= .normal\/e= .ret)/\Db G st.tm st.H rs=some v/\T4 v=true/\Sf nx st.lg=true:=by
 unfold I4 at h
 grind
theorem RH.below{s:Av}(hH:RH s w H)(hb:Below w.heap.size w w'):RH s w' H/\Br s w s w' []:=by
 have hk:Ee s w w':=λb hb'=>hb.block b (hH.old b hb')
 refine⟨⟨λh o ho hl=>?_,hH.inj,λb hb'=>aQ (hH.old b hb') hb.size⟩,Av.Le.refl s,λ_ h=>.inl h,hk,Jl.of_below hb,λ_ h k=>absurd h k⟩
 obtain⟨a1,a2,a3,a4⟩:=hH.obj h o ho hl
 exact⟨a1,aQ a2 hb.size,a3,RO.mono (Av.Le.refl s) hk.k a1 a4 (λ_=>hb.block _ a2)⟩
theorem Br.drop{s s':Av}{l m:List Nat}(h:Br s w s' w' m)(hl: ∀x∈m,x∈l\/¬s.dom x):Br s w s' w' l:=by
 refine⟨h.le,λb hb=>(h.fz b hb).imp id (Or.imp id λ⟨g,hg,hd,e⟩=>⟨g,(hl g hg).resolve_right (λk=>k hd),hd,e⟩),h.kept,h.mod.mono (λ_⟨g,hg,hd,e⟩=>⟨g,(hl g hg).resolve_right (λk=>k hd),hd,e⟩),λi hi hn=>(h.new i hi hn).imp id (λ⟨g,hg,hd,e⟩=>⟨g,(hl g hg).resolve_right (λk=>k hd),hd,e⟩)⟩
theorem BA{s:Av}{H:T O}{st:LoopState}{pd:Option Code}{fn:Nat}{ps:List Nat}{asg bd:Code}(hH:RH s w H.get)(ho:H.get h=some (.loop st pd fn tm ps asg bd)):
  ∃r:Loop,w.heap[s.μ h]? =some (.loop r)/\r.state=st/\r.pending=pd/\r.params=ps.toArray/\r.assign=asg/\r.body=bd/\RT s w tm r.tmps/\s.dom h/\∀(st':LoopState)(pd':Option Code)(o':O),(o'= .loop st' pd' fn tm ps asg bd\/o'= .dead)->
   RH s (w.putObj (s.μ h) (.loop {r with state:=st',pending:=pd'})) (H.put h o').get/\Br s w s (w.putObj (s.μ h) (.loop {r with state:=st',pending:=pd'})) [h]:=by
 obtain⟨a1,a2,a3,tmps,d,f0,a0,a4,a5⟩:=hH.obj h _ ho rfl
 refine⟨_,a4,rfl,rfl,rfl,rfl,rfl,a5,a1,λst' pd' o' ho'=>?_⟩
 have hother: ∀b,b≠s.μ h->(w.putObj (s.μ h) (.loop {state:=st',pending:=pd',fn:=f0,tmps,params:=ps.toArray,assign:=asg,body:=bd,defers:=d})).heap[b]? =w.heap[b]? :=λb hb=>World.putObj_heap_other hb
 obtain⟨r1,r2⟩:=hH.write (o':=o') ho rfl hother s_ (λhk=>by
  rcases ho' with rfl|rfl
  .exact⟨tmps,d,f0,a0,World.putObj_heap_same a2,a5.mono (Av.Le.refl s) hk.k⟩
  .trivial)
 exact⟨by grind[A9],yV hH ho rfl r2 hother ⟨rfl,rfl,rfl⟩ s_⟩
theorem nZ{s:Av}: ∀{ps:List Nat}{ars:List V}{t t':TM}{a:Act}{vs:List Value},RT s w t a.tmps->RL s w ars vs->Iy t ps ars=some t'->
  ps.length=vs.length/\RT s w t' ((ps.zip vs).foldl (λtmps(p:Nat×Value)=>tmps.setIfInBounds p.1 p.2) a.tmps)
 |[],[],t,t',a,vs,hT,hv,h=>by cases h;cases hv;exact⟨rfl,hT⟩
 |p::ps,x::ars,t,t',a,_,hT,⟨v,vs,e,hx,hv⟩,h=>by
  subst e
  have:=nZ (a:=a.put (some p) v) (hT.put (d:=some p) hx) hv h
  exact⟨by simp[this.1],this.2⟩
 |[],_:: _,_,_,_,_,_,_,h=>by cases h
 | _:: _,[],_,_,_,_,_,_,h=>by cases h
theorem Ir.world{s:Av}{st:St}(h:Ir B s w st a){lg:List Nat}(hs:Br s w s w' lg){H':T O}{lg':List Nat}(hH:RH s w' H'.get):Ir B s w' ⟨st.tm,H',st.nx,lg'⟩ a:=by
 refine⟨hH,h.rt.mono hs.le hs.k,h.nx,?_⟩
 obtain⟨Ds,h1,h2,h3⟩:=h.df
 exact⟨Ds,h1,h2,λD hD=>(h3 D hD).step hs⟩
theorem yK  {E : B9} (hE : E.Ok P)  (hX : G0 P E n) (gl : T (List V)) : Na P gl (LM E (Dh E n) gl) := by
 intro c ars H nx r s w fv vals h hc hargs hH hgl hn
 unfold LM at h
 split at h
 .rename_i f caps
  obtain⟨vs,rfl,hcaps⟩:=hc
  have hall:RL s w (ars++caps) (vals++vs).toList:=by rw[eB];exact hargs.append hcaps
  have hrun: ∀x:Result Next,(callFunc f (vals++vs)).run P w=x->((do let d<-Deferred.ofValue (.func (.func f) #[] vs) vals;invoke d.target d.args):Sem Next).run P w=x:=by
   intro x hx;simp[Deferred.ofValue,invoke,hx]
  split at h
  .rename_i v hv
   cases h
   obtain⟨k1,k2⟩:=hE.hook f _ H gl v hv s w (vals++vs) hall hH hgl nx hn
   exact⟨_,hrun _ k1,callsIn_wide.2 k2,λ_=>⟨_,_,rfl⟩⟩
  .split at h
   .rename_i fi hfi
    cases hb:Nat.ble (ars++caps).length fi.ntmps with
    |false=>simp_all
    | true =>
     rw[hb,cond_true]at h
     have hle:=aI hb
     obtain⟨fn,f1,f2,f3,f4,f5⟩:=hE.code f fi hfi
     refine⟨_,hrun _ (f5 _ w),?_,λ_=>⟨_,_,rfl⟩⟩
     have hsize:(vals++vs).size<=fi.ntmps:=by have:=hall.length;simp only[cB]at this;omega
     have hrel:Ir (bs w.heap.size) s w ⟨⟨Cf (B0 fi.ntmps) 0 (ars++caps),gl,fi.ntmps⟩,H,nx,[]⟩ {tmps:=(vals++vs)++Array.replicate (fn.ntmps-(vals++vs).size) undef,defers:=[]}:=by
      refine⟨hH,⟨by grind,λi x hx=>?_,hgl⟩,hn,[],rfl,cF,λD hD=>by simp at hD⟩
      dsimp only at hx
      rw[ZI]at hx
      split at hx
      .obtain⟨v,hv,hr⟩:=hall.get hx
       grind
      .grind[EJ]
     have leave: ∀(st:St)(x:V)(R:Ending->World->Prop),Db E.G st.tm st.H fi.res=some x->(∀e w',Ge s w nx ⟨x,st.H,st.nx,st.lg⟩ e w'->R e w')->
       ∀a' w',Iu (bs w.heap.size) s w ⟨⟨Cf (B0 fi.ntmps) 0 (ars++caps),gl,fi.ntmps⟩,H,nx,[]⟩ st {tmps:=(vals++vs)++Array.replicate (fn.ntmps-(vals++vs).size) undef,defers:=[]} a' w'->LeavesInM Fence.wide 4 P fn a'.tmps R a'.defers .returning w':=by
      rintro st x R hret hR a' w' ⟨lg,s',W⟩
      obtain⟨Ds,d1,d2,d3⟩:=W.rel.df
      have d2:=(dM.1 d2).1
      have d3:=λD(hD:D∈Ds)=>d3 D (aL.2 (.inl hD))
      rw[d1,aV]
      refine qC Ds w' d2 (λD hD=>(d3 D hD).2.2.1) (λw'' g1 g2 g3 g4 g5=>?_)
      have hold: ∀b,b<w.heap.size->w''.heap[b]? =w'.heap[b]? :=λb hb=>g1 b (λhD=>by have h9:w.heap.size<=b:=(d3 b hD).1;omega)
      have hk:Er s' w' w'':=λb hb=>g1 b (λhD=>(d3 b hD).2.2.2 hb)
      have hH':RH s' w'' st.H.get:=by
       refine⟨λh o ho hl=>?_,W.rel.rh.inj,λb hb=>by rw[g2];exact W.rel.rh.old b hb⟩
       obtain⟨a1,a2,a3,a4⟩:=W.rel.rh.obj h o ho hl
       exact⟨a1,o_,a3,RO.mono (Av.Le.refl s') hk a1 a4 (λ_=>g1 _ (λhD=>a3 (.inr (d3 _ hD).2.1)))⟩
      rw[<-f4]at hret
      obtain⟨v,v1,v2⟩:=YI (P:=P) hE.G hH' (W.rel.rt.mono (Av.Le.refl s') hk) rfl hret
      refine⟨v,v2,hR _ _ ⟨v,s',rfl,v1,hH',?_,W.dom,W.le⟩⟩
      have hlg:lg=st.lg:=by have:=W.log;rw[this];simp
      subst hlg
      exact⟨W.step.le,W.step.fz,λb hb=>(hold b (hH.old b hb)).trans (W.step.kept b hb),⟨g3.trans W.step.mod.os,g4.trans W.step.mod.tape,g5.trans W.step.mod.output,by rw[g2];exact W.step.mod.size,λk hk hno=>(hold k hk).trans (W.step.mod.block k hk hno)⟩,W.step.new⟩
     have key: ∀(e:Ex)(st:St)(x:V),(e= .normal\/e= .ret)->Dh E n none fi.body ⟨⟨Cf (B0 fi.ntmps) 0 (ars++caps),gl,fi.ntmps⟩,H,nx,[]⟩=some [(e,st)]->Db E.G st.tm st.H fi.res=some x->
       BD P (Ge s w nx ⟨x,st.H,st.nx,st.lg⟩) (.enter f (vals++vs)) w:=by
      intro e st x he hex hret
      refine callsIn_of_wp_marks (F:=Fence.wide) (n:=4) f1 f2 trivial (AW (l:=none) (hX.one none fi.body _ st e s w _ (bs w.heap.size) hex hrel (aC _) (λh e=>by cases e) _ ?_))
      intro a' w' hg
      have goal:=leave st x _ hret (λ_ _ h=>h) a' w' hg
      rcases he with rfl|rfl<;>exact goal
     split at h
     .grind
     .grind
     .rename_i L _ _ hex
      split at h
      .rename_i x hag
       cases h
       refine callsIn_of_wp_marks (F:=Fence.wide) (n:=4) f1 f2 trivial (AW (l:=none) (hX none fi.body _ L s w _ (bs w.heap.size) hex hrel (aC _) (λh e=>by cases e) _ ?_))
       intro e st hm a' w' hg
       obtain⟨he,hret,hgn,how⟩:=jd (yS hag _ hm)
       have goal:=leave st x (Ge s w nx ⟨x,H,nx,[]⟩) hret (by
        rintro e w' ⟨v,s',rfl,g1,g2,g3,g4,g5⟩
        have hno: ∀i,¬ ∃h∈st.lg,s.dom h/\i=s.μ h:=λi⟨h,h1,h2,_⟩=>by
         have:=aO.1 how h h1
         simp_all
        obtain⟨r1,r2⟩:=hH.below (w':=w') ⟨g3.mod.os,g3.mod.tape,g3.mod.output,g3.mod.size,λk hk=>g3.mod.block k hk (hno k)⟩
        exact⟨v,s,rfl,I9 _ _ hgn g1,r1,r2,Cp s _,aC _⟩) a' w' hg
       rcases he with rfl|rfl<;>exact goal
      .cases h
     .cases h
   .cases h
 .rename_i hd
  obtain⟨hdm,rfl⟩:=hc
  split at h
  .rename_i pd0 fn0 tm ps assign body ho
   split at h
   .rename_i tm1 htm1
    split at h
    .rename_i st1 hex1
     split at h
     .rename_i pd fn1 tm1' ps1 as1 bd1 ho1
      split at h
      .rename_i e st2 hex2
       split at h
       .rename_i ls2 pd2 fn2 tm2 ps2 as2 bd2 ho2
        cases h
        obtain⟨r0,q1,q2,q3,q4,q5,q6,q7,_,_⟩:=BA hH ho
        obtain⟨p1,p2⟩:=nZ (a:={tmps:=r0.tmps,defers:=[]}) q7 hargs htm1
        have hps:vals.size=r0.params.size:=by rw[q4];simp at p1⊢;omega
        have hy:=run_yield (P:=P) (args:=vals) q1 hps
        obtain⟨X,hX'⟩: ∃X,(r0.params.zip vals).foldl (λtmps(t,a)=>tmps.setIfInBounds t a) r0.tmps=X:=⟨_,rfl⟩
        rw[hX']at hy
        have hfold:X=(ps.zip vals.toList).foldl (λtmps(x:Nat×Value)=>tmps.setIfInBounds x.1 x.2) r0.tmps:=by
         rw[<-hX',q4,<-Array.foldl_toList,Array.toList_zip]
        refine⟨.round (s.μ hd) r0.fn X r0.assign r0.body,by grind[Deferred.ofValue,invoke],?_,λ⟨f,c,e⟩=>by cases e⟩
        .skip
         refine roundIn_of_wpIn (F:=Fence.wide) (n:=3) trivial ?_
         rw[q5,q6]
         have hrel:Ir (bs w.heap.size) s w ⟨tm1,H,nx,[]⟩ {tmps:=X,defers:=[]}:=
          ⟨hH,by simp_all,hn,[],rfl,cF,λD hD=>by simp at hD⟩
         refine AW (l:=some (s.μ hd)) (hX.one (some hd) assign _ st1 .normal s w _ (bs w.heap.size) hex1 hrel (aC _) (λh e=>by simp_all) _ ?_)
         rintro a1 w1 ⟨lg1,s1,W1⟩
         obtain⟨r1,t1,t2,t3,t4,t5,t6,t7,t8,t9⟩:=BA W1.rel.rh ho1
         have hμ:s1.μ hd=s.μ hd:=W1.step.le.μ hd hdm
         rw[hμ]at t1 t9
         obtain⟨u1,u2⟩:=t9 .busy pd _ (.inl rfl)
         refine⟨_,run_beginRound t1 t2,?_⟩
         have hreq:{r1 with state:=.busy,pending:=pd}={r1 with state:=.busy}:=by rw[<-t3]
         rw[hreq]at u1 u2
         have hrel1:Ir (bs w.heap.size) s1 _ ⟨st1.tm,st1.H.put hd (.loop .busy pd fn1 tm1' ps1 as1 bd1),st1.nx,hd::st1.lg⟩ a1:=W1.rel.world u2 u1
         have hmap:(some hd).map s1.μ=some (s.μ hd):=by simp[hμ]
         have hwp:=hX.one (some hd) body _ st2 e s1 _ a1 (bs w.heap.size) hex2 hrel1 (aP W1.step.mod.size u2.mod.size) (λh e=>by simp_all) (roundPost P (s.μ hd) (Ge s w nx ⟨.bool e.pend.isNone,st2.H.put hd (.loop (bif e.pend.isNone then .ready else .done) e.pend fn2 tm2 ps2 as2 bd2),st2.nx,hd::st2.lg⟩)) (by
          rintro a2 w2 ⟨lg2,s2,W2⟩
          obtain⟨r2,t1',t2',t3',_,_,_,_,t8',t9'⟩:=BA W2.rel.rh ho2
          have hμ2:s2.μ hd=s.μ hd:=(W2.step.le.μ hd t8).trans hμ
          rw[hμ2]at t1' t9'
          have fin: ∃v w',(Instr.endRound (s.μ hd) e.pend).run P w2= .ok v w'/\Ge s w nx ⟨.bool e.pend.isNone,st2.H.put hd (.loop (bif e.pend.isNone then .ready else .done) e.pend fn2 tm2 ps2 as2 bd2),st2.nx,hd::st2.lg⟩ (.returned v) w':=by
           obtain⟨v1,v2⟩:=t9' (if e.pend.isNone then .ready else .done) e.pend _ (.inl rfl)
           refine⟨_,_,run_endRound e.pend t1',_,s2,rfl,rfl,?_,?_,?_,?_⟩
           .grind
           .have hst:=((W1.step.trans u2).trans W2.step).trans v2
            refine hst.more (λx hx=>?_)
            have e1:=W1.log
            have e2:=W2.log
            grind
           .intro i
            rw[W2.dom,W1.dom]
            have h1:=W1.le
            have h2:=W2.le
            grind
           .exact aP W1.le W2.le
          cases e<;>exact fin)
         rw[hmap]at hwp
         exact AW (l:=some (s.μ hd)) hwp
       .cases h
      .cases h
     .cases h
    .cases h
   .cases h
  .cases h
 .cases h
theorem YV{E:B9}(hE:E.Ok P)(hX:G0 P E n)(gl:T (List V)):Na P gl (Jg E (Dh E n) gl):=by
 intro c ars H nx r s w fv vals h hc hargs hH hgl hn
 unfold Jg at h
 split at h
 .rename_i f l
  obtain⟨vs,rfl,hl⟩:=hc
  obtain⟨next,e1,e2,e3⟩:=yK hE hX gl (c:=.fn f []) (fv:=.func (.func f) #[] #[]) (vals:=vs++vals) h ⟨#[],rfl,rfl⟩ (by rw[eB];exact hl.append hargs) hH hgl hn
  grind[Deferred.ofValue]
 .exact yK hE hX gl h hc hargs hH hgl hn
theorem MR{b:Frame}{k:List Item}{cs:List Frame}:step P (lone (b.atR a (.code (.scope c)::k)) cs w)= .next (lone (b.atR a (.code c:: .inScope c::k)) cs w):=
 step_lone_go (by trivial)
theorem jx{b:Frame}{k:List Item}{cs:List Frame}:step P (lone (b.atR a (.inScope c::k)) cs w)= .next (lone (b.atR a k) cs w):=
 step_lone_go (by trivial)
theorem ar{F:Fence}(h:c.wpIn F n P (Exit.noGoto Q) a w):(Code.scope c).wpIn F n P Q a w:=by
 intro b k cs hro hb hr
 have h0:(lone (b.atR a (.code (.scope c)::k)) cs w).fenced P F:=fenced_calm hb hr rfl
 obtain⟨e,a₁,w₁,hq,harr⟩:=h b (.inScope c::k) cs hro hb hr
 cases e with
 |normal=>exact⟨.normal,a₁,w₁,hq,.head h0 MR (StepsIn.trans harr (.one (fenced_calm hb hr rfl) jx))⟩
 | exit id =>
  have hx:exitTo id (.inScope c::k)=exitTo id k:=by simp[exitTo]
  exact⟨.exit id,a₁,w₁,hq,λk' hk=>.head h0 MR (harr.1 k' (by assumption)),
   λhr' hk=>let ⟨k₁,h1,h2⟩:=harr.2 hr' (by assumption);⟨k₁,h1,.head h0 MR h2⟩⟩
 |goto l=>exact hq.elim
 |ret=>exact⟨_,a₁,w₁,hq,.of_steps (.one h0 MR) harr⟩
 |panic ch=>exact⟨_,a₁,w₁,hq,.of_steps (.one h0 MR) harr⟩
 |outgrown=>exact⟨_,a₁,w₁,hq,.of_steps (.one h0 MR) harr⟩
def Av.addMark(s:Av)(D:Nat):Av:={s with mark:=λb=>s.mark b\/b=D}
theorem zN(s:Av)(D:Nat):s.Le (s.addMark D):=⟨⟨λ_ _=>rfl,λ_ _=>rfl,λ_ h=>h,λ_ h=>h⟩,λ_ h=>.inl h⟩
theorem zF{s:Av}{st:St}{rd:Option Nat}{ps:Array Nat}{asg body:Code}(hr:Ir B s w st a)(hB:B.n<=w.heap.size)(hrd: ∀h,rd=some h->s.dom h)(hl:Kl rd st.H=true)(fn:Nat)(fw:Nat)(hfn: ∀f,fw=f+1->fn=f):
  ∃(L:Nat)(mark:List Deferred)(w1:World)(s1:Av),(Instr.enterLoop fn a.tmps ps asg body (rd.map s.μ)).run P w= .ok (L,mark) w1/\RH s1 w1 (st.H.put st.nx (.loop .ready none fw st.tm ps.toList asg body)).get/\s1.μ st.nx=L/\
   Br s w s1 w1 []/\(∀i,s1.dom i↔s.dom i\/i=st.nx)/\∃Ds:List Nat,mark++a.defers=Ds.map Mm++B.d/\(Ds++B.ms).Nodup/\∀D∈Ds++B.ms,EK B.n s1 w1 D:=by
 obtain⟨Ds,d1,d2,d3⟩:=hr.df
 have hnx:=hr.nx st.nx (aC _)
 cases rd with
 | none =>
  have hbelow:Below w.heap.size w (w.alloc (.deferred (some []))):=(Below.refl _ w).alloc (aC _) _
  obtain⟨b1,b2⟩:=hr.rh.below hbelow
  have hnew:(w.alloc (.deferred (some []))).heap[w.heap.size]? =some (.deferred (some [])):=World.alloc_heap_new w _
  have hH1:RH (s.addMark w.heap.size) (w.alloc (.deferred (some []))) st.H.get:=by
   refine⟨λh o ho hlv=>?_,b1.inj,λb hb=>?_⟩
   .obtain⟨a1,a2,a3,a4⟩:=b1.obj h o ho hlv
    refine⟨a1,a2,?_,RO.mono (zN s _) (λ_ _=>rfl) a1 a4 (λ_=>rfl)⟩
    rintro(hf|hf|hf)
    .exact a3 (.inl hf)
    .exact a3 (.inr hf)
    .have:=(hr.rh.obj h o ho hlv).2.1
     have:s.μ h=w.heap.size:=hf
     omega
   .rcases hb with hb|hb|hb
    .exact b1.old b (.inl hb)
    .exact b1.old b (.inr hb)
    simp_all
  have hS1:Br s w (s.addMark w.heap.size) (w.alloc (.deferred (some []))) []:=⟨zN s _,λ_ h=>.inl h,b2.kept,b2.mod,λi hi hn=>absurd hi hn⟩
  have hrt:RT (s.addMark w.heap.size) (w.alloc (.deferred (some []))) st.tm a.tmps:=hr.rt.mono hS1.le hS1.k
  have hk:Er (s.addMark w.heap.size) (w.alloc (.deferred (some []))) ((w.alloc (.deferred (some []))).alloc (.loop {state:=.ready,pending:=none,fn,tmps:=a.tmps,params:=ps,assign:=asg,body,defers:=w.heap.size})):=
   λb hb=>Below.heap_alloc _ _ b (hH1.old b (.inl hb))
  obtain⟨g1,g2,g3⟩:=UB (c:=0) (o:=.loop .ready none fw st.tm ps.toList asg body) (ob:=.loop {state:=.ready,pending:=none,fn,tmps:=a.tmps,params:=ps,assign:=asg,body,defers:=w.heap.size}) hH1 (h:=st.nx) hnx
   ⟨a.tmps,w.heap.size,fn,hfn,by rw[Ig,World.alloc_heap_new],hrt.mono (Av.ext_le (s:=s.addMark w.heap.size) (h:=st.nx) hnx) hk⟩
  refine⟨w.heap.size+1,_,_,_,run_enterLoop_outer fn a.tmps ps asg body,by grind[A9],by rw[Ig];simp,(hS1.trans g2).more s_,λi=>fK,w.heap.size::Ds,by rw[d1];rfl,?_,λD hD=>?_⟩
  .refine dC.2 ⟨λh=>?_,d2⟩
   have:=(d3 _ h).2.2.1
   simp_all
  .rcases aK.1 hD with rfl|hD
   .exact⟨hB,.inr rfl,(Below.heap_alloc _ _ _ s_).trans hnew,λhf=>by have:=hr.rh.old _ (.inl hf);omega⟩
   .exact((d3 D hD).step hS1).step g2
 | some h0 =>
  simp only[Kl]at hl
  cases ho:st.H.get h0 with
  |none=>rw[ho]at hl;cases hl
  | some o =>
   cases o with
   | loop ls pd f0 tm0 ps0 as0 bd0 =>
    obtain⟨r0,q1,_⟩:=BA hr.rh ho
    have hk:Er s w (w.alloc (.loop {state:=.ready,pending:=none,fn,tmps:=a.tmps,params:=ps,assign:=asg,body,defers:=r0.defers})):=λb hb=>Below.heap_alloc w _ b (hr.rh.old b (.inl hb))
    obtain⟨g1,g2,g3⟩:=UB (c:=0) (o:=.loop .ready none fw st.tm ps.toList asg body) (ob:=.loop {state:=.ready,pending:=none,fn,tmps:=a.tmps,params:=ps,assign:=asg,body,defers:=r0.defers}) hr.rh (h:=st.nx) hnx
     ⟨a.tmps,r0.defers,fn,hfn,by rw[Ig,World.alloc_heap_new],hr.rt.mono (Av.ext_le hnx) hk⟩
    refine⟨_,_,_,_,run_enterLoop_inner q1 fn a.tmps ps asg body,by grind[A9],by rw[Ig],g2,λi=>fK,Ds,by rw[<-d1];rfl,d2,λD hD=>?_⟩
    exact(d3 D hD).step g2
   | _=>rw[ho]at hl;cases hl
theorem LZ{k:St->Option Rs}: ∀{l m:Rs},Nv k l=some m->(∀st,(Ex.normal,st)∈l->∃m',k st=some m'/\∀x∈m',x∈m)/\∀e st,e≠ .normal->(e,st)∈l->(e,st)∈m
 |[],_,h=>by simp
 | (x, s0) :: l, m, h => by
  cases x with
  | normal =>
   unfold Nv at h
   split at h
   .rename_i m1 m2 h1 h2
    cases h
    obtain⟨i1,i2⟩:=LZ h2
    grind
   .cases h
  | exit id =>
   unfold Nv at h
   split at h
   .rename_i m2 h2
    cases h
    obtain⟨i1,i2⟩:=LZ h2
    grind
   .cases h
  | ret =>
   unfold Nv at h
   split at h
   .rename_i m2 h2
    cases h
    obtain⟨i1,i2⟩:=LZ h2
    grind
   .cases h
  | pan v =>
   unfold Nv at h
   split at h
   .rename_i m2 h2
    cases h
    obtain⟨i1,i2⟩:=LZ h2
    grind
   .cases h
theorem zK{id:Nat}: ∀{l:Rs},(∀st,(Ex.exit id,st)∈l->(Ex.normal,st)∈blockN id l)/\(∀i st,i≠id->(Ex.exit i,st)∈l->(Ex.exit i,st)∈blockN id l)/\(∀st,(Ex.normal,st)∈l->(Ex.normal,st)∈blockN id l)/\(∀st,(Ex.ret,st)∈l->(Ex.ret,st)∈blockN id l)/\∀v st,(Ex.pan v,st)∈l->(Ex.pan v,st)∈blockN id l
 |[]=>⟨λ_ h=>(by cases h),λ_ _ _ h=>(by cases h),λ_ h=>(by cases h),λ_ h=>(by cases h),λ_ _ h=>(by cases h)⟩
 | (x, s0) :: l => by
  obtain⟨i1,i2,i3,i4,i5⟩:=zK (id:=id) (l:=l)
  have tail: ∀y,y∈blockN id l->y∈blockN id ((x,s0)::l):=λy hy=>by cases x<;>exact aW _ hy
  refine⟨λst h=>?_,λi st hi h=>?_,λst h=>?_,λst h=>?_,λv st h=>?_⟩<;>rcases aK.1 h with e|h
  .cases e
   simp_all[blockN]
  all_goals grind[Nat.eq_of_beq_eq_true,blockN]
theorem jz{it:Operand}{l:List Oper}(h:E5 ops=some (it,o,l)):ops.toList=o::l/\o.guard=none/\o.op= .next it false:=by
 grind[E5]
theorem vU{E:B9}(hG:E.G.Ok P)(hx:RX E P){call:Dq}{st:St}(hcall:Na P st.tm.gl call){l:Option Nat}{it:Operand}{ol:List Oper}{R:Rs}{s:Av}(hf:E5 ops=some (it,o,ol))(h:Nx E call ops it o ol st=some R)(hr:Ir B s w st a)
  (hQ: ∀e st',(e,st')∈R->∀a' w',Iu B s w st st' a a' w'->Q (Zn e) a' w'):wpOpsIn (FF l) 5 P ops Q (List.range' 0 ops.toList.length) a w:=by
 obtain⟨hops,hg,hop⟩:=jz hf
 have h0:ops[0]? =some o:=by rw[<-cZ,hops];rfl
 rw[hops,bZ,dX,wpOpsIn_cons]
 unfold wpOpIn
 rw[h0]
 dsimp only
 have hw:Region.wanted o (yielded ops a.tmps)=true:=by unfold Region.wanted;rw[hg]
 rw[if_pos hw]
 refine⟨λf _=>Vx l f,?_⟩
 rw[Oper.semAt_plain (FF l) a.eval o (λc e=>by simp_all)]
 unfold Nx at h
 split at h
 all_goals trivial
theorem nO{E:B9}(hE:E.Ok P)(hD:V9 P E): ∀n,G0 P E n
 |0=>λ_ _ _ _ _ _ _ _ h=>by cases h
 | n + 1 => by
  have ih:=nO hE hD n
  intro rd c st R s w a B h hr hB hrd Q hQ
  unfold Dh at h
  have keep: ∀(s1:Av),s.Le s1->rd.map s1.μ=rd.map s.μ/\∀h,rd=some h->s1.dom h:=by
   intro s1 hle
   cases rd with
   |none=>simp
   |some h0=>exact⟨by simp[hle.μ h0 (hrd h0 rfl)],λh e=>hle.dom h (hrd h e)⟩
  split at h
  .cases h;exact wpIn_skip (hQ _ _ (aN.2 rfl) a w ⟨_,_,E7.refl hr⟩)
  .cases h;exact wpIn_label (hQ _ _ (aN.2 rfl) a w ⟨_,_,E7.refl hr⟩)
  .-- seq
   rename_i x y
   refine wpIn_seq ?_
   split at h
   .rename_i L h1
    obtain⟨m1,m2⟩:=LZ h
    refine ih rd x st L s w a B h1 hr hB hrd _ ?_
    rintro e st1 hm a1 w1 ⟨lg1,s1,W1⟩
    cases e with
    | normal =>
     obtain⟨m',q1,q2⟩:=m1 st1 hm
     obtain⟨k1,k2⟩:=keep s1 W1.step.le
     have:=ih rd y st1 m' s1 w1 a1 B q1 W1.rel (aP hB W1.step.mod.size) k2 Q (by
      rintro e2 st2 hm2 a2 w2 ⟨lg2,s2,W2⟩
      exact hQ e2 st2 (q2 _ hm2) a2 w2 ⟨_,_,W1.trans W2⟩)
     rw[k1]at this
     exact this
    |exit id=>exact hQ _ _ (m2 _ _ s_ hm) a1 w1 ⟨_,_,W1⟩
    |ret=>exact hQ _ _ (m2 _ _ s_ hm) a1 w1 ⟨_,_,W1⟩
    |pan v=>exact hQ _ _ (m2 _ _ s_ hm) a1 w1 ⟨_,_,W1⟩
   .cases h
  .-- region
   rename_i id ops draw
   have single: ∀{o:Option St},one? o=some R->∃st',o=some st'/\R=[(.normal,st')]:=by
    intro o ho
    cases o with
    |none=>cases ho
    |some st'=>cases ho;simp
   unfold AT at h
   cases draw with
   |true=>
    rw[cond_true]at h
    obtain⟨st',h1,rfl⟩:=single h
    exact hD (YV hE ih st.tm.gl) (iw E n st.tm.gl) h1 rfl hr (hQ .normal st' (aN.2 rfl))
   | false =>
    rw[cond_false]at h
    refine wpIn_region ?_
    rw[dP,<-cB]
    split at h
    .rename_i it o ol hf
     exact vU hE.G hE.ext (YV hE ih st.tm.gl) hf h hr hQ
    .obtain⟨st',h1,rfl⟩:=single h
     exact SF hE.G hE.ext (YV hE ih st.tm.gl) (l:=rd.map s.μ) (Q:=Q) ops.toList 0 st st' s w a (λj _=>by simp) h1 rfl hr (hQ .normal st' (aN.2 rfl))
  .-- cond
   rename_i cnd x y
   split at h
   .rename_i t ht
    have hev:a.eval cnd= .bool t:=Bb hr.rt ht
    refine wpIn_cond hev ?_
    have:=ih rd _ st R s w a B h hr hB hrd Q hQ
    grind
   .cases h
  .-- block
   rename_i id b
   refine wpIn_block ?_
   split at h
   .rename_i L h1
    cases h
    obtain⟨m1,m2,m3,m4,m5⟩:=zK (id:=id) (l:=L)
    refine ih rd b st L s w a B h1 hr hB hrd _ ?_
    intro e st1 hm a1 w1 W
    cases e with
    |normal=>exact hQ _ _ (m3 _ hm) a1 w1 W
    |ret=>exact hQ _ _ (m4 _ hm) a1 w1 W
    |pan v=>exact hQ _ _ (m5 _ _ hm) a1 w1 W
    | exit i =>
     show Exit.inBlock id Q (.exit i) a1 w1
     by_cases hi:i=id
     .subst hi
      simp only[Exit.inBlock,if_true]
      exact hQ .normal _ (m1 _ hm) a1 w1 W
     .simp only[Exit.inBlock,if_neg hi]
      exact hQ (.exit i) _ (m2 _ _ hi hm) a1 w1 W
   .cases h
  .-- loop
   rename_i b
   have hloop:Dh E (n+1) rd (.loop b) st=some R:=by unfold Dh;exact h
   refine qF (λj a1 w1=>j<=n+1/\∃st1 lg1 s1 R1,Dh E j rd (.loop b) st1=some R1/\(∀x∈R1,x∈R)/\E7 B s w st st1 a lg1 s1 w1 a1) ?_ (n+1) a w ⟨aC _,st,[],s,R,hloop,λ_ h=>h,E7.refl hr⟩
   rintro j a1 w1 ⟨hj,st1,lg1,s1,R1,hex,hsub,W1⟩
   cases j with
   |zero=>cases hex
   | succ j =>
    have ihj:G0 P E j:=nO hE hD j
    unfold Dh at hex
    dsimp only at hex
    obtain⟨k1,k2⟩:=keep s1 W1.step.le
    rw[<-k1]
    split at hex
    .rename_i L h2
     obtain⟨m1,m2⟩:=LZ hex
     refine ihj rd b st1 L s1 w1 a1 B h2 W1.rel (aP hB W1.step.mod.size) k2 _ ?_
     rintro e st2 hm a2 w2 ⟨lg2,s2,W2⟩
     cases e with
     |normal=>
      obtain⟨m',q1,q2⟩:=m1 st2 hm
      exact⟨j,dH j,o_,st2,_,s2,m',q1,λx hx=>hsub x (q2 x hx),W1.trans W2⟩
     |exit id=>exact hQ _ _ (hsub _ (m2 _ _ s_ hm)) a2 w2 ⟨_,_,W1.trans W2⟩
     |ret=>exact hQ _ _ (hsub _ (m2 _ _ s_ hm)) a2 w2 ⟨_,_,W1.trans W2⟩
     |pan v=>exact hQ _ _ (hsub _ (m2 _ _ s_ hm)) a2 w2 ⟨_,_,W1.trans W2⟩
    .cases hex
  .-- scope
   rename_i b
   refine ar ?_
   refine ih rd b st R s w a B h hr hB hrd _ ?_
   intro e st' hm a1 w1 W
   have:=hQ e st' hm a1 w1 W
   cases e<;>exact this
  .cases h;exact wpIn_exit (hQ _ _ (aN.2 rfl) a w ⟨_,_,E7.refl hr⟩)
  .cases h;exact wpIn_ret (hQ _ _ (aN.2 rfl) a w ⟨_,_,E7.refl hr⟩)
  .-- a loop PA a function
   rename_i g ps asg body
   split at h
   .rename_i f caps hg
    cases hlb:Kl rd st.H with
    |false=>simp_all
    | true =>
     rw[hlb,cond_true]at h
     split at h
     .rename_i r hcall
      refine wpIn_rangeFunc ?_
      intro fn _
      have hround:(FF (rd.map s.μ)).round=rd.map s.μ:=by cases rd<;>rfl
      rw[hround]
      obtain⟨L,mark,w1,s1,e1,e2,e3,e4,e5,Ds,e6,e7,e8⟩:=zF (P:=P) (asg:=asg) (body:=body) (ps:=ps) hr hB hrd hlb fn 0 (λ_ e=>by cases e)
      obtain⟨vs,hgv,hcaps⟩:=Bb hr.rt hg
      have hfv:RV s1 w1 (.fn f caps) (.func (.func f) #[] vs):=RV.mono e4.le e4.k _ _ ⟨vs,rfl,hcaps⟩
      have hyv:RL s1 w1 [V.yld st.nx] (#[Value.func (.yield L) #[] #[]]:Array Value).toList:=⟨_,_,rfl,⟨(e5 _).2 (.inr rfl),by rw[e3]⟩,rfl⟩
      have hn1: ∀i,st.nx+1<=i->¬s1.dom i:=λi hi hd=>by
       rcases(e5 i).1 hd with hd|hd
       .exact hr.nx i o_ hd
       .omega
      obtain⟨next,n1,n2,n3⟩:=YV hE ih st.tm.gl hcall hfv hyv e2 (hr.rt.mono e4.le e4.k).2.2 hn1
      obtain⟨f',ars',rfl⟩:=n3 ⟨f,caps,rfl⟩
      have hinv:(invoke (.fn (.func f) vs) (#[]++ #[Value.func (.yield L) #[] #[]])).run P w1= .ok (.enter f' ars') w1:=by
       simpa [Deferred.ofValue]using n1
      refine⟨L,mark,w1,{target:=.fn (.func f) vs,args:= #[]++ #[Value.func (.yield L) #[] #[]]},w1,f',ars',w1,e1,?_,λf' _=>Vx _ f',hinv,λh=> o_,?_⟩
      .show(Deferred.ofValue (a.eval g) _).run P w1=_
       rw[hgv]
       simp[Deferred.ofValue,Act.eval]
      .refine(pW (rd.map s.μ) n2).mono ?_
       rintro ee w3 ⟨v,s3,rfl,c1,c2,c3,c4,c5⟩
       have hdnx:s3.dom st.nx:=c3.le.dom _ ((e5 _).2 (.inr rfl))
       have hμ:s3.μ st.nx=L:=by rw[c3.le.μ _ ((e5 _).2 (.inr rfl)),e3]
       have hst3:Br s w s3 w3 r.lg:=(e4.trans c3).more s_
       have hdom3: ∀i,s3.dom i↔s.dom i\/st.nx<=i/\i<r.nx:=λi=>by
        grind
       -- behind the loop
       have after: ∀(ls:LoopState)(pd:Option Code) f0 tm0 ps0 as0 bd0,r.H.get st.nx=some (.loop ls pd f0 tm0 ps0 as0 bd0)->ls≠ .busy->
         ∃w4,(Instr.endLoop L).run P w3= .ok pd w4/\E7 B s w st ⟨st.tm,r.H.put st.nx .dead,r.nx,r.lg++st.lg⟩ a r.lg s3 w4 {a with defers:=mark++a.defers}:=by
        intro ls pd f0 tm0 ps0 as0 bd0 ho hls
        obtain⟨r0,q1,q2,q3,_,_,_,_,_,q9⟩:=BA c2 ho
        rw[hμ]at q1 q9
        obtain⟨z1,z2⟩:=q9 .exhausted pd .dead (.inr rfl)
        have hreq:({r0 with state:=.exhausted,pending:=pd}:Loop)={r0 with state:=.exhausted}:=by rw[<-q3]
        rw[hreq]at z1 z2
        refine⟨_,by grind[run_endLoop],⟨z1,hr.rt.mono (hst3.trans z2).le (hst3.trans z2).k,λi hi=>?_,Ds,e6,e7,λD hD=>?_⟩,?_,hdom3,aP (Nat.le_succ _) c5,rfl⟩
        .grind
        .exact((e8 D hD).step c3).step z2
        .refine(hst3.trans z2).drop (λx hx=>?_)
         rcases aL.1 hx with hx|hx
         .exact .inl hx
         .simp only[aN]at hx
          exact .inr (by rw[hx];exact hr.nx st.nx (aC _))
       split at h
       .rename_i f0 tm0 ps0 as0 bd0 ho
        cases h
        obtain⟨w4,v1,v2⟩:=after _ _ _ _ _ _ _ ho d_
        exact⟨none,w4,v1,hQ .normal _ (aN.2 rfl) _ _ ⟨_,_,v2⟩⟩
       .rename_i cc f0 tm0 ps0 as0 bd0 ho
        obtain⟨w4,v1,v2⟩:=after _ _ _ _ _ _ _ ho d_
        refine⟨some cc,w4,v1,?_⟩
        obtain⟨k1,k2⟩:=keep s3 v2.step.le
        have:=ih rd cc _ R s3 w4 _ B h v2.rel (aP hB v2.step.mod.size) k2 Q (by
         rintro e st' hm a2 w2 ⟨lg2,s2,W2⟩
         exact hQ e st' hm a2 w2 ⟨_,_,⟨(v2.trans W2).rel,(v2.trans W2).step,(v2.trans W2).dom,(v2.trans W2).le,(v2.trans W2).log⟩⟩)
        simp_all
       .cases h
     .cases h
   .cases h
  .cases h
mutual
def Sc(D:Nat->Prop):V->Prop
 | .ptr h _=>D h
 | .sl h _ _ _=>D h
 | .mp h=>D h
 | .yld h=>D h
 | .fn _ l=>AJ D l
 | .mfn _ l=>AJ D l
 | .agg l=>AJ D l
 | .tup l=>AJ D l
 | .ifc _ x=>Sc D x
 | .bool _| .int _ _| .str _| .nilp| .nilf| .nili| .nils| .nilm| .im _ _| .imp _=>True
def AJ(D:Nat->Prop):List V->Prop
 |[]=>True
 |x::xs=>Sc D x/\AJ D xs
end
def Av.cut(s:Av)(D:Nat->Prop)(m:Nat->Prop):Av:={s with dom:=λh=>s.dom h/\D h,mark:=m}
mutual
theorem RV.sc{s:Av}: ∀(x:V)(v:Value),RV s w x v->Sc s.dom x
 | .bool _,_,_| .int _ _,_,_| .str _,_,_| .nilp,_,_| .nilf,_,_| .nili,_,_| .nils,_,_| .nilm,_,_=>trivial
 | .ptr _ _,_,h=>h.1
 | .sl _ _ _ _,_,h=>h.1
 | .mp _,_,h=>h.1
 | .yld _,_,h=>h.1
 | .fn _ l,_,⟨vs,_,h⟩=>RL.sc l vs.toList h
 | .mfn _ l,_,⟨vs,_,h⟩=>RL.sc l vs.toList h
 | .agg l,_,⟨vs,_,h⟩=>RL.sc l vs.toList h
 | .tup l,_,⟨vs,_,h⟩=>RL.sc l vs.toList h
 | .ifc _ x,_,⟨u,_,h⟩=>RV.sc x u h
 | .im _ _,_,_| .imp _,_,_=>trivial
theorem RL.sc{s:Av}: ∀(l:List V)(vs:List Value),RL s w l vs->AJ s.dom l
 |[],_,_=>trivial
 |x::xs,_,⟨v,vs',_,hx,hl⟩=>⟨RV.sc x v hx,RL.sc xs vs' hl⟩
end
mutual
theorem RV.cut{s:Av}{D:Nat->Prop}: ∀(x:V)(v:Value),RV s w x v->Sc D x->RV (s.cut D m) w x v
 | .bool _,_,h,_| .int _ _,_,h,_| .str _,_,h,_| .nilp,_,h,_| .nilf,_,h,_| .nili,_,h,_| .nils,_,h,_| .nilm,_,h,_=>h
 | .ptr _ _,_,h,d=>⟨⟨h.1,d⟩,h.2⟩
 | .sl _ _ _ _,_,h,d=>⟨⟨h.1,d⟩,h.2⟩
 | .mp _,_,h,d=>⟨⟨h.1,d⟩,h.2⟩
 | .yld _,_,h,d=>⟨⟨h.1,d⟩,h.2⟩
 | .fn _ l,_,⟨vs,e,h⟩,d=>⟨vs,e,RL.cut l vs.toList h d⟩
 | .mfn _ l,_,⟨vs,e,h⟩,d=>⟨vs,e,RL.cut l vs.toList h d⟩
 | .agg l,_,⟨vs,e,h⟩,d=>⟨vs,e,RL.cut l vs.toList h d⟩
 | .tup l,_,⟨vs,e,h⟩,d=>⟨vs,e,RL.cut l vs.toList h d⟩
 | .ifc _ x,_,⟨u,e,h⟩,d=>⟨u,e,RV.cut x u h d⟩
 | .im n l,_,⟨a,cap,e,hc,h⟩,_=>⟨a,cap,e,hc,λhn=>let ⟨b,off,ha,hl⟩:=h hn;⟨b,off,ha,RC.mono' (s:=s) (s':=s.cut D m) (λ_ h=>h) (λ_ _=>rfl) l b off hl⟩⟩
 | .imp l,_,⟨b,off,e,hl⟩,_=>⟨b,off,e,RC.mono' (s:=s) (s':=s.cut D m) (λ_ h=>h) (λ_ _=>rfl) l b off hl⟩
theorem RL.cut{s:Av}{D:Nat->Prop}: ∀(l:List V)(vs:List Value),RL s w l vs->AJ D l->RL (s.cut D m) w l vs
 |[],_,h,_=>h
 |x::xs,_,⟨v,vs',e,hx,hl⟩,d=>⟨v,vs',e,RV.cut x v hx d.1,RL.cut xs vs' hl d.2⟩
end
def WD(D:Nat->Prop):List (V×V×Nat)->Prop
 |[]=>True
 |(k,v,_)::xs=>Sc D k/\Sc D v/\WD D xs
theorem RE.sc{s:Av}: ∀{l:List (V×V×Nat)}{es:List MapEntry},RE s w l es->WD s.dom l
 |[],_,_=>trivial
 |(_,_,_):: _,_,⟨_,_,_,h1,h2,_,h4⟩=>⟨RV.sc _ _ h1,RV.sc _ _ h2,RE.sc h4⟩
theorem RE.cut{s:Av}{D:Nat->Prop}: ∀{l:List (V×V×Nat)}{es:List MapEntry},RE s w l es->WD D l->RE (s.cut D m) w l es
 |[],_,h,_=>h
 |(_,_,_):: _,_,⟨e,es',he,h1,h2,h3,h4⟩,d=>⟨e,es',he,RV.cut _ _ h1 d.1,RV.cut _ _ h2 d.2.1,h3,RE.cut h4 d.2.2⟩
def KX(D:Nat->Prop)(t:TM):Prop:=∀i x,t.sl.get i=some x->Sc D x
theorem RT.sc{s:Av}{t:TM}{a:Array Value}(h:RT s w t a):KX s.dom t:=
 λi x hx=>let ⟨v,_,hr⟩:=h.2.1 i x hx;RV.sc x v hr
theorem RT.cut{s:Av}{D:Nat->Prop}{t:TM}{a:Array Value}(h:RT s w t a)(d:KX D t):RT (s.cut D m) w t a:=
 ⟨h.1,λi x hx=>let ⟨v,hv,hr⟩:=h.2.1 i x hx;⟨v,hv,RV.cut x v hr (d i x hx)⟩,λg l hg=>RC.mono' (s:=s) (s':=s.cut D m) (λ_ h=>h) (λ_ _=>rfl) l g 0 (h.2.2 g l hg)⟩
def kR(D:Nat->Prop):O->Prop
 | .row _ _ c=>AJ D c
 | .map es _=>WD D es
 | .iter m .. =>∀g,m=some g->D g
 | .loop _ _ _ tm .. =>KX D tm
 | .dead=>True
theorem RO.sc{s:Av}{o:O}(ho:RO s w o h):kR s.dom o:=by
 cases o with
 |row=>obtain⟨vs,rest,_,h2,_⟩:=ho;exact RL.sc _ _ h2
 |map=>obtain⟨arr,_,h2⟩:=ho;exact RE.sc h2
 |iter=>exact ho.1
 |loop=>obtain⟨_,_,_,_,_,h2⟩:=ho;exact RT.sc h2
 |dead=>trivial
theorem RO.cut{s:Av}{D:Nat->Prop}{o:O}(ho:RO s w o h)(d:kR D o):RO (s.cut D m) w o h:=by
 cases o with
 |row=>obtain⟨vs,rest,h1,h2,h3⟩:=ho;exact⟨vs,rest,h1,RL.cut _ _ h2 d,h3⟩
 |map=>obtain⟨arr,h1,h2⟩:=ho;exact⟨arr,h1,RE.cut h2 d⟩
 |iter=>exact⟨λg e=>⟨ho.1 g e,d g e⟩,ho.2⟩
 |loop=>obtain⟨a1,a2,a3,a0,a4,h2⟩:=ho;exact⟨a1,a2,a3,a0,a4,RT.cut h2 d⟩
 |dead=>trivial
theorem WQ: ∀{l:List Operand},(∀x∈l,ev tm x=ev tm' x)->L3 tm l=L3 tm' l
 |[],_=>rfl
 |x::l,h=>by unfold L3;rw[h x s_,WQ (λy hy=>h y (by simp[hy]))]
theorem lV: ∀{l:List (Nat×Operand)},(∀x∈l.map (·.2),ev tm x=ev tm' x)->Wj tm l=Wj tm' l
 |[],_=>rfl
 |(i,x)::l,h=>by unfold Wj;rw[h x s_,lV (λy hy=>h y (by simp_all))]
theorem HL{o:Option Operand}(h: ∀x,o=some x->ev tm x=ev tm' x):calm.evO tm o=calm.evO tm' o:=by
 cases o with
 |none=>rfl
 |some x=>grind[calm.evO]
theorem Z0(h: ∀x∈o.op.operands.toList,ev tm x=ev tm' x):calm G tm H o=calm G tm' H o:=by
 unfold calm
 cases hop:o.op<;>rw[hop]at h<;>try rfl
 case build t ps=>grind[Op.operands,lV]
 case makeFunc fn f c=>
  cases fn<;>try rfl
  grind[Op.operands,WQ]
 case slice t x l hh m=>
  grind[Op.operands,HL]
 case call c=>
  have ha: ∀x∈c.args.toList,ev tm x=ev tm' x:=λx hx=>h x (by grind[Op.operands,Call.operands])
  grind[WQ]
 all_goals simp_all[Op.operands]
theorem Vf(h: ∀x∈o.op.operands.toList,ev tm x=ev tm' x):Bj G tm nx o=Bj G tm' nx o:=by
 unfold Bj
 cases hop:o.op<;>rw[hop]at h<;>try rfl
 case buildSlice t len ps=>simp only[Op.operands]at h;simp only[lV (l:=ps.toList) h]
 case makeMap t r=>
  cases r with
  |none=>rfl
  |some x=>grind[Op.operands]
 all_goals grind[Op.operands]
theorem HQ{E:B9}{call:Dq}{H:T O}(h: ∀x∈o.op.operands.toList,ev tm x=ev tm' x):Dp E call tm H nx o=Dp E call tm' H nx o:=by
 unfold Dp
 cases hop:o.op<;>rw[hop]at h<;>try rfl
 case call c=>
  have ha: ∀x∈c.args.toList,ev tm x=ev tm' x:=λx hx=>h x (by grind[Op.operands,Call.operands])
  dsimp only
  cases hc:c.callee with
  |builtin b=>
   grind
  |value f=>
   grind[Op.operands,Call.operands,WQ]
  |invoke=>rfl
 all_goals grind[Op.operands,Fd]
theorem GU{H':Nat->Option O}{p:V}(hl:Lt G H t p=some (n,rd))(hH: ∀i∈rd,H' i=H i):Lt G H' t p=some (n,rd):=by
 unfold Lt at hl⊢
 split at hl
 all_goals grind
theorem IG{H':Nat->Option O}(h:calm G tm H o=some (x,rd))(hH: ∀i∈rd,H' i=H i):calm G tm H' o=some (x,rd):=by
 unfold calm at h⊢
 cases hop:o.op<;>rw[hop]at h<;>try exact h
 case load t a=>
  grind
 case makeFunc fn f c=>cases fn<;>exact h
 case call c=>
  dsimp only at h⊢
  split at h
  all_goals grind[GU]
theorem Z3(h:calm G tm H o=some (x,rd)): ∀i∈rd,∃y∈o.op.operands.toList,(∃off,ev tm y=some (.ptr i off))\/ev tm y=some (.mp i):=by
 unfold calm at h
 cases hop:o.op<;>rw[hop]at h
 case load t a=>
  grind[Op.operands]
 case makeFunc fn f c=>
  grind
 case call c=>
  dsimp only at h
  split at h
  .rename_i a t _ ea _
   split at h
   .rename_i p hp
    split at h
    .rename_i n rd' hl
     cases h
     unfold Lt at hl
     grind[Op.operands,Call.operands]
    .cases h
   .cases h
  all_goals grind
 case makeInterface t a=>
  grind
 case typeAssert a t1 t2 ok=>
  grind
 all_goals(try dsimp only at h);(repeat' split at h)<;>first|(cases h;intro i hi;cases hi;done)|(cases h;done)
theorem SY{f:Oper×Nat->Bool}(h:ops.toList.zipIdx.all f=true)(ho:ops[j]? =some o):f (o,j)=true:=by
 grind
theorem zX: ∀{l:List Nat},AO l=true->l.Nodup
 |[],_=>cF
 |x::xs,h=>by
  unfold AO at h
  simp only[aD,bI,List.contains_eq_mem,decide_eq_false_iff_not]at h
  exact dC.2 ⟨h.1,zX h.2⟩
theorem vH(h:AO (ops.toList.filterMap (·.dst))=true)(hi:ops[i]? =some oi)(hj:ops[j]? =some oj)(di:oi.dst=some t)(dj:oj.dst=some t):i=j:=by
 have hn:=zX h
 have key: ∀(l:List Oper)(i j:Nat),(l.filterMap (·.dst)).Nodup->l[i]? =some oi->l[j]? =some oj->i=j:=by
  intro l
  induction l with
  |nil=>simp
  |cons o l ih=>
   grind
 exact key ops.toList i j hn (by simpa using hi) (by simpa using hj)
theorem YT(h:JC ops=true)(ho:ops[j]? =some o){e:Edge}(he:e∈o.after)(hb:Region.binds .any e=true):e.on<j:=by
 have:=SY h ho
 simp only[aO,bT,bI]at this
 rcases this e (by simpa using he)with h'|h'
 all_goals simp_all
theorem J9(bf:Array Nat)(i:Nat): ∀(l:List Edge)(m:Nat),(l.foldl (λs e=>bif Region.binds .any e then s|||(2^e.on|||bf.getD e.on 0)else s) m).testBit i=true↔m.testBit i=true\/∃e∈l,Region.binds .any e=true/\(e.on=i\/(bf.getD e.on 0).testBit i=true)
 |[],m=>by simp
 |e::l,m=>by
  rw[List.foldl_cons,J9 bf i l]
  grind
theorem zY(hm:lG ops bf=true)(he:JC ops=true)(hX: ∀k o,X k->ops[k]? =some o->∀e∈o.after,Region.binds .any e=true->X e.on): ∀(j:Nat)(o:Oper),ops[j]? =some o->(∀e∈o.after,Region.binds .any e=true->X e.on)->∀i,(bf.getD j 0).testBit i=true->X i:=by
 intro j
 induction j using Nat.strongRecOn with
 | _ j ih=>
  intro o ho hd i hi
  have:=aF (SY hm ho)
  dsimp only at this
  rw[this]at hi
  unfold S8 at hi
  rcases(J9 bf i _ 0).1 hi with h|⟨e,hel,hb,h⟩
  .simp at h
  .have hel':e∈o.after:=by simpa using hel
   have hlt:=YT he ho hel' hb
   grind
theorem zD(h:lC ops bf=true)(hi:ops[i]? =some oi)(hj:ops[j]? =some oj)(hlt:i<j):(bf.getD j 0).testBit i=true\/oi.apart ops oj=true:=by
 have:=SY (SY h hj) hi
 grind[Nat.blt,Nat.ble_eq_true_of_le]
theorem oH: ∀(l:List Nat)(m:Nat)(pre:List Nat),(∀i,m.testBit i=true↔i∈pre)->KU ops bf l m=true->
  (∀a j b,l=a++j::b->∃o,ops[j]? =some o/\j∉pre++a/\(∀i,(bf.getD j 0).testBit i=true->i∈pre++a)/\(Jz o=true->∀i∈pre++a,(bf.getD j 0).testBit i=true))/\∀j,j<ops.size->j∈pre++l
 |[],m,pre,hm,h=>by
  simp_all[KU]
 | j0 :: l, m, pre, hm, h => by
  unfold KU at h
  split at h
  .rename_i o ho
   simp only[aD,bI]at h
   obtain⟨⟨h1,h2⟩,h3⟩:=h
   have hm': ∀i,(m|||2^j0).testBit i=true↔i∈pre++[j0]:=λi=>by
    grind
   obtain⟨k1,k2⟩:=oH l _ (pre++[j0]) hm' h3
   refine⟨λa j b e=>?_,λj hj=>by simp_all⟩
   cases a with
   |nil=>
    grind[Nat.eq_of_beq_eq_true]
   |cons x a=>
    grind
  .cases h
section
variable {E:B9} {call:Dq} {ops:Array Oper} {bf:Array Nat}
theorem pF(j:Nat)(l:List Nat)(p:St×Ew):D7 E call ops bf (j::l) p=(match Dl E call ops bf j p with|some q=>D7 E call ops bf l q|none=>none):=rfl
theorem pZ: ∀(a b:List Nat)(p q:St×Ew),D7 E call ops bf (a++b) p=some q↔∃p1,D7 E call ops bf a p=some p1/\D7 E call ops bf b p1=some q
 |[],b,p,q=>by simp[D7]
 |j::a,b,p,q=>by
  rw[dY,pF,pF]
  cases Dl E call ops bf j p with
  |none=>simp
  |some p1=>exact pZ a b p1 q
theorem xI:D7 E call ops bf [j] p=some q↔Dl E call ops bf j p=some q:=by
 grind[D7]
theorem U3(h:Dl E call ops bf j p=some q):q.1.tm.gl=p.1.tm.gl/\q.1.tm.n=p.1.tm.n/\∀t,(ops[j]?).bind (·.dst)≠some t->q.1.tm.sl.get t=p.1.tm.sl.get t:=by
 have key: ∀(tm:TM)(d:Option Nat)(x:V),(tm.put d x).gl=tm.gl/\(tm.put d x).n=tm.n/\∀t,d≠some t->(tm.put d x).sl.get t=tm.sl.get t:=by
  intro tm d x
  refine⟨Kz tm d x,?_,λt ht=>?_⟩
  .cases d with
   |none=>rfl
   |some i=>grind[TM.put_some]
  .cases d with
   |none=>rfl
   |some i=>
    grind[TM.put_some,T.get_put]
 grind[Dl]
theorem Dv: ∀{l:List Nat}{p q:St×Ew},D7 E call ops bf l p=some q->q.1.tm.gl=p.1.tm.gl/\q.1.tm.n=p.1.tm.n/\∀t,(∀j∈l,(ops[j]?).bind (·.dst)≠some t)->q.1.tm.sl.get t=p.1.tm.sl.get t
 |[],_,_,h=>by cases h;simp
 | j :: l, p, q, h => by
  unfold D7 at h
  split at h
  .rename_i p1 h1
   obtain⟨a1,a2,a3⟩:=U3 h1
   obtain⟨b1,b2,b3⟩:=Dv h
   simp_all
  .cases h
theorem ix(hc:J4 call)(h:Dl E call ops bf j p=some q):p.1.nx<=q.1.nx/\∃es:Ew,q.2=es++p.2/\(∀z∈es,z.1=j/\∃r,Em E call ops j p.1=some (.eff r))/\∀i,i<p.1.nx->(∀z∈es,i∉z.2)->q.1.H.get i=p.1.H.get i:=by
 obtain⟨lg,h1,h2,h3⟩:=yP hc h
 refine⟨h2,?_⟩
 unfold Dl at h
 split at h
 .obtain⟨_,h⟩:=Hi h;cases h;simp
 .cases h
  refine⟨[],rfl,λ_ h=>by simp at h,λi hi _=>?_⟩
  rw[A9];exact if_neg o_
 .rename_i r hk
  cases h
  refine⟨[(j,r.lg)],rfl,λz hz=>by simp_all,λi hi hz=>?_⟩
  have hlg:lg=r.lg:=by
   have:r.lg++p.1.lg=lg++p.1.lg:=h1
   exact(List.append_cancel_right this).symm
  subst hlg
  exact h3 i (hz (j,r.lg) s_) o_
 .cases h
theorem pE(hc:J4 call): ∀{l:List Nat}{p q:St×Ew},D7 E call ops bf l p=some q->p.1.nx<=q.1.nx/\∃es:Ew,q.2=es++p.2/\(∀z∈es,∃l1 l2 p1 r,l=l1++z.1::l2/\D7 E call ops bf l1 p=some p1/\Em E call ops z.1 p1.1=some (.eff r))/\
  ∀i,i<p.1.nx->(∀z∈es,i∉z.2)->q.1.H.get i=p.1.H.get i
 |[],p,q,h=>by cases h;simp
 | j :: l, p, q, h => by
  have h0:=h
  unfold D7 at h
  split at h
  .rename_i p1 h1
   obtain⟨a1,es1,a2,a3,a4⟩:=ix hc h1
   obtain⟨b1,es2,b2,b3,b4⟩:=pE hc h
   refine⟨aP a1 b1,es2++es1,by grind,λz hz=>?_,λi hi hz=>?_⟩
   .rcases aL.1 hz with hz|hz
    .grind[D7]
    .obtain⟨k1,r,k2⟩:=a3 z hz
     exact⟨[],l,p,r,by rw[k1];rfl,rfl,by grind⟩
   .rw[b4 i o_ (λz hz'=>hz z (by simp[hz'])),a4 i hi (λz hz'=>hz z (by simp[hz']))]
  .cases h
end
structure D9(P:Program) where
 E:B9
 call:Dq
 ops:Array Oper
 bf:Array Nat
 ord:List Nat
 st0:St
 fin:St×Ew
 s0:Av
 w0:World
 a0:Act
 B:Bs
 l:Option Nat
 hG:E.G.Ok P
 hX:RX E P
 hcall:Na P st0.tm.gl call
 hlog:J4 call
 edges:JC ops=true
 masks:lG ops bf=true
 pairs:lC ops bf=true
 uniq:AO (ops.toList.filterMap (·.dst))=true
 cok:KU ops bf ord 0=true
 run:D7 E call ops bf ord (st0,[])=some fin
 rel:Ir B s0 w0 st0 a0
variable {P:Program}
def D9.go(g:D9 P)(l:List Nat)(p:St×Ew):Option (St×Ew):=D7 g.E g.call g.ops g.bf l p
def D9.kd(g:D9 P)(j:Nat)(st:St):Option Kd:=Em g.E g.call g.ops j st
def D9.dst(g:D9 P)(j:Nat):Option Nat:=(g.ops[j]?).bind (·.dst)
def D9.D(g:D9 P)(n h:Nat):Prop:=g.s0.dom h\/(g.st0.nx<=h/\h<n)
theorem D9.spec(g:D9 P){a:List Nat}(h:g.ord=a++j::b): ∃o,g.ops[j]? =some o/\j∉a/\(∀i,(g.bf.getD j 0).testBit i=true->i∈a)/\(Jz o=true->∀i∈a,(g.bf.getD j 0).testBit i=true):=by
 have:=(oH g.ord 0 [] s_ g.cok).1 a j b h
 simpa using this
theorem D9.all(g:D9 P)(h:j<g.ops.size):j∈g.ord:=by
 have:=(oH g.ord 0 [] s_ g.cok).2 j h
 simpa using this
theorem D9.split(g:D9 P){a:List Nat}(h:g.ord=a++b): ∃p,g.go a (g.st0,[])=some p/\g.go b p=some g.fin:=by
 have:=g.run
 rw[h,pZ]at this
 exact this
theorem D9.same(g:D9 P){a a' b':List Nat}(h:g.ord=a++j::b)(h':g.ord=a'++j::b'):a=a'/\b=b':=by
 have hj:j∉a:=by obtain⟨_,_,h2,_⟩:=g.spec h;exact h2
 have hj':j∉a':=by obtain⟨_,_,h2,_⟩:=g.spec h';exact h2
 rw[h]at h'
 clear h
 induction a generalizing a' with
 |nil=>
  cases a' with
  |nil=>simpa using h'
  |cons x a'=>simp at h';exact absurd (by simp[h'.1]) hj'
 | cons x a ih =>
  cases a' with
  |nil=>simp at h';exact absurd (by simp[h'.1]) hj
  |cons y a'=>
   simp only[dY,cT]at h'
   obtain⟨rfl,h'⟩:=h'
   obtain⟨e1,e2⟩:=ih h' (by simp at hj;exact hj.2) (by simp at hj';exact hj'.2)
   exact⟨by rw[e1],e2⟩
theorem yR{E:B9}{call:Dq}{st:St}{r:CR}(h:Em E call ops j st=some (.eff r)): ∃o,ops[j]? =some o/\Cc st.tm ops o=some true/\Jz o=true/\Dp E call st.tm st.H st.nx o=some r:=by
 unfold Em at h
 split at h
 .cases h
 .rename_i o ho
  split at h
  .rename_i hw
   split at h
   .cases h
   .split at h
    .cases h
    .obtain⟨he,h⟩:=Hi h
     split at h
     .rename_i r' hr;cases h;exact⟨o,ho,hw,he,hr⟩
     .cases h
  .cases h
  .cases h
theorem pG{E:B9}{call:Dq}{st:St}(h:Em E call ops j st=some (.new x ob)): ∃o,ops[j]? =some o/\Cc st.tm ops o=some true/\Bj E.G st.tm st.nx o=some (x,ob):=by
 unfold Em at h
 split at h
 .cases h
 .rename_i o ho
  split at h
  .rename_i hw
   split at h
   .cases h
   .split at h
    .rename_i hal;cases h;exact⟨o,ho,hw,hal⟩
    .obtain⟨he,h⟩:=Hi h
     split at h<;>cases h
  .cases h
  .cases h
theorem yQ{E:B9}{call:Dq}{st:St}(h:Em E call ops j st=some (.put x rd)): ∃o,ops[j]? =some o/\((Cc st.tm ops o=some true/\calm E.G st.tm st.H.get o=some (x,rd))\/(Cc st.tm ops o=some false/\x= .tup []/\rd=[])):=by
 unfold Em at h
 split at h
 .cases h
 .rename_i o ho
  split at h
  .rename_i hw
   split at h
   .rename_i hc;cases h;exact⟨o,ho,.inl ⟨hw,hc⟩⟩
   .split at h
    .cases h
    .obtain⟨he,h⟩:=Hi h
     split at h<;>cases h
  .rename_i hw;cases h;exact⟨o,ho,.inr ⟨hw,rfl,rfl⟩⟩
  .cases h
theorem D9.conc(g:D9 P): ∀(A:List Nat)(p:St×Ew)(B':List Nat),g.ord=A++B'->g.go A (g.st0,[])=some p->∃(s:Av)(w:World)(a:Act),RH s w p.1.H.get/\RT s w p.1.tm a.tmps/\(∀h,s.dom h↔g.D p.1.nx h)/\g.st0.nx<=p.1.nx/\p.1.tm.gl=g.st0.tm.gl:=by
 have step: ∀(j:Nat)(p q:St×Ew),Dl g.E g.call g.ops g.bf j p=some q->(∃(s:Av)(w:World)(a:Act),RH s w p.1.H.get/\RT s w p.1.tm a.tmps/\(∀h,s.dom h↔g.D p.1.nx h)/\g.st0.nx<=p.1.nx/\p.1.tm.gl=g.st0.tm.gl)->
   ∃(s:Av)(w:World)(a:Act),RH s w q.1.H.get/\RT s w q.1.tm a.tmps/\(∀h,s.dom h↔g.D q.1.nx h)/\g.st0.nx<=q.1.nx/\q.1.tm.gl=g.st0.tm.gl:=by
  rintro j p q h ⟨s,w,a,h1,h2,h3,h4,h5⟩
  have hn: ∀i,p.1.nx<=i->¬s.dom i:=λi hi hd=>by
   rcases(h3 i).1 hd with h|h
   .exact g.rel.nx i o_ h
   .omega
  unfold Dl at h
  split at h
  .rename_i x rd hk
   obtain⟨_,h⟩:=Hi h
   cases h
   obtain⟨o,ho,⟨_,hc⟩|⟨_,rfl,rfl⟩⟩:=yQ hk
   .obtain⟨v,hv,_⟩:=YU g.hG h1 h2 hc
    exact⟨s,w,a.put _ v,h1,h2.put hv,h3,h4,by rw[Kz];exact h5⟩
   .exact⟨s,w,a.put _ (.tuple #[]),h1,h2.put ⟨#[],rfl,rfl⟩,h3,h4,by rw[Kz];exact h5⟩
  .rename_i x ob hk
   cases h
   obtain⟨o,ho,_,hal⟩:=pG hk
   obtain⟨v,w',s',_,g2,g3,g4,g5⟩:=pI g.hG h1 h2 (hn _ (aC _)) hal
   refine⟨s',w',a.put _ v,by rw[A9];exact g3,(h2.mono g4.le g4.k).put g2,λi=>?_,by dsimp only;omega,by rw[Kz];exact h5⟩
   rw[g5,h3]
   unfold D9.D
   dsimp only
   constructor
   .rintro((h|h)|h)
    .exact .inl h
    .exact .inr ⟨h.1,o_⟩
    .exact .inr ⟨o_,o_⟩
   .rintro(h|h)
    .exact .inl (.inl h)
    .by_cases h':i<p.1.nx
     .exact .inl (.inr ⟨h.1,h'⟩)
     .exact .inr o_
  .rename_i r hk
   cases h
   obtain⟨o,ho,_,_,he⟩:=yR hk
   have hcl:Na P p.1.tm.gl g.call:=by rw[h5];exact g.hcall
   have:=lQ (hx:=g.hX) (l:=none) (K:=λa' w'=>∃s',RH s' w' r.H.get/\RT s' w' (p.1.tm.put o.dst r.v) a'.tmps/\(∀i,s'.dom i↔s.dom i\/p.1.nx<=i/\i<r.nx)/\p.1.nx<=r.nx) (Q:=λ_ _ _=>False) g.hG hcl rfl h1 h2 hn he (by
    rintro v w' ⟨v',s',e,g1,g2,g3,g4,g5⟩
    cases e
    exact⟨s',g2,(h2.mono g3.le g3.k).put g1,g4,g5⟩)
   obtain⟨a',w',s',k1,k2,k3,k4⟩:=bo (F:=FF none) rfl this
   have hd:(g.ops[j]?).bind (·.dst)=o.dst:=by rw[ho];rfl
   refine⟨s',w',a',k1,by rw[hd];exact k2,λi=>?_,by dsimp only;omega,by rw[Kz];exact h5⟩
   rw[k3,h3]
   unfold D9.D
   dsimp only
   constructor
   .rintro((h|h)|h)
    .exact .inl h
    .exact .inr ⟨h.1,o_⟩
    .exact .inr ⟨o_,h.2⟩
   .rintro(h|h)
    .exact .inl (.inl h)
    .by_cases h':i<p.1.nx
     .exact .inl (.inr ⟨h.1,h'⟩)
     .exact .inr ⟨o_,h.2⟩
  .cases h
 have key: ∀(l:List Nat)(p q:St×Ew),g.go l p=some q->(∃(s:Av)(w:World)(a:Act),RH s w p.1.H.get/\RT s w p.1.tm a.tmps/\(∀h,s.dom h↔g.D p.1.nx h)/\g.st0.nx<=p.1.nx/\p.1.tm.gl=g.st0.tm.gl)->
   ∃(s:Av)(w:World)(a:Act),RH s w q.1.H.get/\RT s w q.1.tm a.tmps/\(∀h,s.dom h↔g.D q.1.nx h)/\g.st0.nx<=q.1.nx/\q.1.tm.gl=g.st0.tm.gl:=by
  intro l
  induction l with
  |nil=>intro p q h hp;cases h;exact hp
  |cons j l ih=>
   intro p q h hp
   unfold D9.go at h
   rw[pF]at h
   split at h
   .rename_i p1 h1;exact ih p1 q h (step j p p1 h1 hp)
   .cases h
 intro A p B' _ h
 exact key A _ p h ⟨g.s0,g.w0,g.a0,g.rel.rh,g.rel.rt,λi=>⟨.inl,λh=>h.elim id (λh=>absurd h.2 (by have:=h.1;dsimp only at this⊢;omega))⟩,aC _,rfl⟩
structure C3(g:D9 P)(C R:List Nat)(S:St×Ew)(X:Nat->Prop)(s:Av)(w:World)(a:Act)(Hx:Nat->Option O):Prop where
 ord:g.ord=C++R
 run:g.go C (g.st0,[])=some S
 inC: ∀j∈C,X j
 kinds: ∀R1 j R2,R=R1++j::R2->X j->∀p,g.go R1 S=some p->∀r,g.kd j p.1≠some (.eff r)
 sz:a.tmps.size=S.1.tm.n
 gl:GL s w g.st0.tm.gl
 t1: ∀t,(∀j∈R,X j->g.dst j≠some t)->∀x,S.1.tm.sl.get t=some x->∃v,a.tmps[t]? =some v/\RV s w x v
 t2: ∀R1 j R2,R=R1++j::R2->X j->∀p q,g.go R1 S=some p->g.go [j] p=some q->∀t,g.dst j=some t->∀x,q.1.tm.sl.get t=some x->∃v,a.tmps[t]? =some v/\RV s w x v
 rh:RH s w Hx
 h1: ∀i,i<S.1.nx->Hx i=S.1.H.get i
 h2: ∀R1 j R2,R=R1++j::R2->X j->∀p,g.go R1 S=some p->∀x ob,g.kd j p.1=some (.new x ob)->Hx p.1.nx=some ob
 dm: ∀i,s.dom i↔g.D S.1.nx i\/∃R1 j R2 p x ob,R=R1++j::R2/\X j/\g.go R1 S=some p/\g.kd j p.1=some (.new x ob)/\i=p.1.nx
 step: ∃lg,S.1.lg=lg++g.st0.lg/\Br g.s0 g.w0 s w lg
 df: ∃Ds:List Nat,a.defers=Ds.map Mm++g.B.d/\(Ds++g.B.ms).Nodup/\∀D∈Ds++g.B.ms,EK g.B.n s w D
theorem Ol(g:D9 P){a:List Nat}:g.go (a++b) p=some q↔∃p1,g.go a p=some p1/\g.go b p1=some q:=pZ a b p q
theorem Pz(g:D9 P):g.go (j::b) p=some q↔∃p1,g.go [j] p=some p1/\g.go b p1=some q:=Ol g (a:=[j])
theorem C3.at_{g:D9 P}{C R:List Nat}{S:St×Ew}{s:Av}(I:C3 g C R S X s w a Hx){V:List Nat}(h:R=U++V): ∃p,g.go U S=some p/\g.go V p=some g.fin:=by
 obtain⟨p,h1,h2⟩:=g.split (a:=C++U) (b:=V) (by rw[I.ord,h,cE])
 obtain⟨p1,k1,k2⟩:=(Ol g).1 h1
 rw[I.run]at k1
 cases k1
 exact⟨p,k2,h2⟩
theorem tB{g:D9 P}(h:g.go [j] p=some q): ∃k,g.kd j p.1=some k:=by
 have h':Dl g.E g.call g.ops g.bf j p=some q:=xI.1 h
 unfold Dl at h'
 unfold D9.kd
 split at h'
 .rename_i hk;exact⟨_,hk⟩
 .rename_i hk;exact⟨_,hk⟩
 .rename_i hk;exact⟨_,hk⟩
 .cases h'
theorem DT{g:D9 P}(h:g.go [j] p=some q):(∀x rd,g.kd j p.1=some (.put x rd)->q.1=⟨p.1.tm.put (g.dst j) x,p.1.H,p.1.nx,p.1.lg⟩/\q.2=p.2/\∀z∈p.2,(g.bf.getD j 0).testBit z.1=true\/O8 rd z.2=true)/\
  (∀x ob,g.kd j p.1=some (.new x ob)->q=(⟨p.1.tm.put (g.dst j) x,p.1.H.put p.1.nx ob,p.1.nx+1,p.1.lg⟩,p.2))/\
  (∀r,g.kd j p.1=some (.eff r)->q=(⟨p.1.tm.put (g.dst j) r.v,r.H,r.nx,r.lg++p.1.lg⟩,(j,r.lg)::p.2)):=by
 have h':Dl g.E g.call g.ops g.bf j p=some q:=xI.1 h
 unfold Dl at h'
 refine⟨λx rd hk=>?_,λx ob hk=>?_,λr hk=>?_⟩<;>unfold D9.kd at hk<;>rw[hk]at h'<;>dsimp only at h'
 .obtain⟨hb,h'⟩:=Hi h'
  cases h'
  refine⟨rfl,rfl,λz hz=>?_⟩
  have:=aO.1 hb z hz
  simpa using this
 .cases h';rfl
 .cases h';rfl
theorem C3.absorb{g:D9 P}{C R:List Nat}{S:St×Ew}{s:Av}(I:C3 g C (j::R) S X s w a Hx)(hj:X j): ∃S',C3 g (C++[j]) R S' X s w a Hx:=by
 obtain⟨S',r1,r2⟩:=I.at_ (U:=[j]) (V:=R) rfl
 have hrun:g.go (C++[j]) (g.st0,[])=some S':=(Ol g).2 ⟨S,I.run,r1⟩
 obtain⟨k,hk⟩:=tB r1
 obtain⟨n1,n2,n3⟩:=DT r1
 obtain⟨c1,c2,c3⟩:=Dv r1
 have hne: ∀r,k≠ .eff r:=λr e=>I.kinds [] j R rfl hj S rfl r (by rw[hk,e])
 have hgo: ∀{U:List Nat}{p:St×Ew},g.go U S'=some p->g.go (j::U) S=some p:=λh=>(Pz g).2 ⟨S',r1,h⟩
 have hlg:S'.1.lg=S.1.lg/\S.1.nx<=S'.1.nx/\(∀i,i<S.1.nx->S'.1.H.get i=S.1.H.get i)/\∀i,(S.1.nx<=i/\i<S'.1.nx)↔∃x ob,g.kd j S.1=some (.new x ob)/\i=S.1.nx:=by
  cases k with
  |put x rd=>
   obtain⟨e1,_⟩:=n1 x rd hk
   rw[e1]
   exact⟨rfl,aC _,λ_ _=>rfl,λi=>⟨λh=>absurd h.2 (by have:=h.1;dsimp only at this⊢;omega),λ⟨x',ob,h,_⟩=>by rw[hk]at h;cases h⟩⟩
  |new x ob=>
   rw[n2 x ob hk]
   refine⟨rfl,by dsimp only;omega,λi hi=>by dsimp only;rw[A9];exact if_neg o_,λi=>⟨λh=>⟨x,ob,hk,by dsimp only at h;omega⟩,λ⟨x',ob',h,e⟩=>by dsimp only;omega⟩⟩
  |eff r=>exact absurd rfl (hne r)
 refine⟨S',?_⟩
 refine⟨by rw[I.ord];simp,hrun,λi hi=>?_,λR1 i R2 e hi p hp=>I.kinds (j::R1) i R2 (by rw[e];rfl) hi p (hgo hp),by rw[I.sz,c2],I.gl,λt ht x hx=>?_,λR1 i R2 e hi p q hp hq=>I.t2 (j::R1) i R2 (by rw[e];rfl) hi p q (hgo hp) hq,I.rh,λi hi=>?_,
  λR1 i R2 e hi p hp=>I.h2 (j::R1) i R2 (by rw[e];rfl) hi p (hgo hp),λi=>?_,?_,I.df⟩
 .rcases aL.1 hi with hi|hi
  .exact I.inC i hi
  .simp at hi;rw[hi];exact hj
 .by_cases hd:g.dst j=some t
  .exact I.t2 [] j R rfl hj S S' rfl r1 t hd x hx
  .have:=c3 t (by intro i hi;simp at hi;rw[hi];exact hd)
   rw[this]at hx
   exact I.t1 t (λi hi hX=>by
    rcases aK.1 hi with rfl|hi
    .exact hd
    .exact ht i hi hX) x hx
 .by_cases h:i<S.1.nx
  .rw[I.h1 i h,hlg.2.2.1 i h]
  .obtain⟨x,ob,hk',e⟩:=(hlg.2.2.2 i).1 ⟨o_,hi⟩
   have:=I.h2 [] j R rfl hj S rfl x ob hk'
   rw[e,this,n2 x ob hk']
   dsimp only
   rw[A9]
   exact(if_pos rfl).symm
 .rw [I.dm]
  constructor
  .rintro(h|⟨R1,j',R2,p,x,ob,e1,e2,e3,e4,e5⟩)
   .left
    rcases h with h|h
    .exact .inl h
    .exact .inr ⟨h.1,by have:=hlg.2.1;omega⟩
   .cases R1 with
    |nil=>
     simp only[eZ,cT]at e1
     obtain⟨rfl,rfl⟩:=e1
     cases e3
     left
     have hnx:=(g.conc C S (j::R) I.ord I.run)
     obtain⟨_,_,_,_,_,_,hle,_⟩:=hnx
     have:=(hlg.2.2.2 i).2 ⟨x,ob,e4,e5⟩
     exact .inr ⟨o_,this.2⟩
    |cons y R1=>
     simp only[dY,cT]at e1
     obtain⟨rfl,e1⟩:=e1
     obtain⟨p1,k1,k2⟩:=(Pz g).1 e3
     rw[r1]at k1
     cases k1
     exact .inr ⟨R1,j',R2,p,x,ob,e1,e2,k2,e4,e5⟩
  .rintro(h|⟨R1,j',R2,p,x,ob,e1,e2,e3,e4,e5⟩)
   .rcases h with h|h
    .exact .inl (.inl h)
    .by_cases hi:i<S.1.nx
     .exact .inl (.inr ⟨h.1,hi⟩)
     .obtain⟨x,ob,hk',e⟩:=(hlg.2.2.2 i).1 ⟨o_,h.2⟩
      exact .inr ⟨[],j,R,S,x,ob,rfl,hj,rfl,hk',e⟩
   .exact .inr ⟨j::R1,j',R2,p,x,ob,by rw[e1];rfl,e2,hgo e3,e4,e5⟩
 .obtain⟨lg,k1,k2⟩:=I.step
  exact⟨lg,by rw[hlg.1];exact k1,k2⟩
theorem C3.absorbs{g:D9 P}{s:Av}: ∀{U C R:List Nat}{S:St×Ew},C3 g C (U++R) S X s w a Hx->(∀j∈U,X j)->∃S',C3 g (C++U) R S' X s w a Hx
 |[],C,R,S,I,_=>⟨S,by simpa using I⟩
 |j::U,C,R,S,I,h=>by
  obtain⟨S1,I1⟩:=C3.absorb I (h j s_)
  obtain⟨S2,I2⟩:=C3.absorbs I1 (λi hi=>h i (by simp[hi]))
  exact⟨S2,by simpa using I2⟩
variable {P:Program}
theorem Hm: ∀{R1 R2 R1' R2':List Nat}{j k:Nat},R1++j::R2=R1'++k::R2'->(R1=R1'/\j=k/\R2=R2')\/(∃U,R1'=R1++j::U)\/∃U,R1=R1'++k::U
 |[],R2,[],R2',j,k,h=>by
  simp at h;exact .inl ⟨rfl,h.1,h.2⟩
 |[],R2,y::R1',R2',j,k,h=>by
  simp at h;exact .inr (.inl ⟨R1',by rw[h.1];rfl⟩)
 |x::R1,R2,[],R2',j,k,h=>by
  simp at h;exact .inr (.inr ⟨R1,by rw[h.1];rfl⟩)
 |x::R1,R2,y::R1',R2',j,k,h=>by
  simp only[dY,cT]at h
  obtain⟨rfl,h⟩:=h
  rcases Hm h with⟨e1,e2,e3⟩|⟨U,e⟩|⟨U,e⟩
  .exact .inl ⟨by rw[e1],e2,e3⟩
  .exact .inr (.inl ⟨U,by rw[e];rfl⟩)
  .exact .inr (.inr ⟨U,by rw[e];rfl⟩)
theorem DN(g:D9 P){l:List Nat}(h:g.go l p=some q):p.1.nx<=q.1.nx:=(pE g.hlog h).1
def restr:List Nat->T V->T V
 |[],_=>.e
 |i::l,t=>match t.get i with
  |some x=>(restr l t).put i x
  |none=>restr l t
theorem MO: ∀(l:List Nat)(t:T V)(i:Nat),(restr l t).get i=if i∈l then t.get i else none
 |[],t,i=>by simp[restr]
 | k :: l, t, i => by
  unfold restr
  split
  .rename_i x hx
   rw[T.get_put,MO l t i]
   by_cases h:i=k
   .subst h;simp[hx]
   .simp[h]
  .rename_i hx
   rw[MO l t i]
   by_cases h:i=k
   .subst h;simp[hx]
   .simp[h]
def Ry(ops:Array Oper)(o:Oper)(tm:TM):TM:=⟨restr (o.looksAt ops) tm.sl,tm.gl,tm.n⟩
theorem SQ: ∀x∈o.op.operands.toList,ev tm x=ev (Ry ops o tm) x:=by
 intro x hx
 cases x with
 |tmp t=>
  simp only[ev,Ry,MO]
  rw[if_pos]
  exact dQ _ (List.mem_filterMap.2 ⟨_,hx,rfl⟩)
 |const v=>rfl
 |func f=>rfl
 |global i=>rfl
theorem ZG:Cc tm ops o=Cc (Ry ops o tm) ops o:=by
 unfold Cc
 cases hg:o.guard with
 |none=>rfl
 | some p =>
  obtain⟨j,b⟩:=p
  dsimp only
  cases hd:(ops[j]?).bind (·.dst)with
  |none=>rfl
  |some d=>
   simp only[Ry,MO]
   rw[if_pos]
   refine eS _ ?_
   simp[hg,hd]
variable {g:D9 P} {C R:List Nat} {S:St×Ew} {X:Nat->Prop} {s:Av} {w:World} {a:Act} {Hx:Nat->Option O}
def Hy(g:D9 P)(X:Nat->Prop):Prop:=∀k o,X k->g.ops[k]? =some o->∀e∈o.after,Region.binds .any e=true->X e.on
structure At(g:D9 P)(C R:List Nat)(S:St×Ew)(X:Nat->Prop)(R1:List Nat)(j:Nat)(R2:List Nat)(o:Oper)(p q:St×Ew):Prop where
 pos:R=R1++j::R2
 op:g.ops[j]? =some o
 nX: ¬X j
 cl:Hy g X
 dn: ∀i,(g.bf.getD j 0).testBit i=true->X i
 pr: ∀i,(g.bf.getD j 0).testBit i=true->i∈C++R1
 ef:Jz o=true->∀i∈C++R1,(g.bf.getD j 0).testBit i=true
 go1:g.go R1 S=some p
 go2:g.go [j] p=some q
theorem C3.place(I:C3 g C R S X s w a Hx)(ho:g.ops[j]? =some o)(hX: ¬X j)(cl:Hy g X)(hd: ∀e∈o.after,Region.binds .any e=true->X e.on): ∃R1 R2 p q,At g C R S X R1 j R2 o p q:=by
 have hj:j∈g.ord:=g.all (bM.1 ho).1
 rw[I.ord]at hj
 rcases aL.1 hj with hj|hj
 .exact absurd (I.inC j hj) hX
 .obtain⟨R1,R2,e⟩:=eJ hj
  obtain⟨p,h1,h2⟩:=I.at_ e
  obtain⟨q,h3,_⟩:=(Pz g).1 h2
  obtain⟨o',h4,h5,h6,h7⟩:=g.spec (a:=C++R1) (j:=j) (b:=R2) (by rw[I.ord,e,cE])
  rw[ho]at h4
  cases h4
  exact⟨R1,R2,p,q,e,ho,hX,cl,zY g.masks g.edges cl j o ho hd,h6,h7,h1,h3⟩
theorem ae{x y:Oper}(h:x.apart ops y=true\/y.apart ops x=true)(hd:x.dst=some d):d∉y.looksAt ops:=by
 rcases h with h|h
 .exact(Oper.apart_spec h).1 d hd
 .exact(Oper.apart_spec h).2.2 d hd
theorem D9.away(g:D9 P)(hi:g.ops[i]? =some oi)(hj:g.ops[j]? =some oj)(hne:i≠j)(h1: ¬(g.bf.getD j 0).testBit i=true)(h2: ¬(g.bf.getD i 0).testBit j=true)(hd:oi.dst=some d):d∉oj.looksAt g.ops:=by
 rcases cU i j with h|h
 .exact ae (.inl ((zD g.pairs hi hj h).resolve_left h1)) hd
 .exact ae (.inr ((zD g.pairs hj hi o_).resolve_left h2)) hd
theorem C3.has(I:C3 g C R S X s w a Hx)(h:i∈C++R): ∃o,g.ops[i]? =some o:=by
 rw[<-I.ord]at h
 obtain⟨A,B,e⟩:=eJ h
 obtain⟨o,ho,_⟩:=g.spec e
 exact⟨o,ho⟩
theorem C3.nodup(I:C3 g C R S X s w a Hx){A B:List Nat}(h:C++R=A++i::B):i∉A:=by
 rw[<-I.ord]at h
 obtain⟨_,_,h,_⟩:=g.spec h
 exact h
theorem C3.mask(I:C3 g C R S X s w a Hx){A B:List Nat}(h:C++R=A++i::B): ∀k,(g.bf.getD i 0).testBit k=true->k∈A:=by
 rw[<-I.ord]at h
 obtain⟨_,_,_,h,_⟩:=g.spec h
 exact h
theorem Hy.mask(cl:Hy g X)(hi:g.ops[i]? =some oi)(hx:X i): ∀k,(g.bf.getD i 0).testBit k=true->X k:=
 zY g.masks g.edges cl i oi hi (λe he hb=>cl i oi hx hi e he hb)
variable {R1 R2:List Nat} {j:Nat} {o:Oper} {p q:St×Ew}
theorem C3.see(I:C3 g C R S X s w a Hx)(A:At g C R S X R1 j R2 o p q)(ht:t∈o.looksAt g.ops)(hx:p.1.tm.sl.get t=some x): ∃v,a.tmps[t]? =some v/\RV s w x v:=by
 by_cases hw: ∃i∈R1,g.dst i=some t
 .obtain⟨i,hi,hd⟩:=hw
  obtain⟨U,V,e⟩:=eJ hi
  have epos:R=U++i::(V++j::R2):=by rw[A.pos,e];simp
  have hpos:C++R=(C++U)++i::(V++j::R2):=by rw[epos];simp
  obtain⟨oi,hoi⟩:=I.has (i:=i) (by rw[hpos];simp)
  have hne:i≠j:=λe'=>by
   have:=I.nodup (A:=C++U++i::V) (i:=j) (B:=R2) (by rw[hpos];simp)
   exact this (by rw[e'];simp)
  have hdi:oi.dst=some t:=by have:=hd;unfold D9.dst at this;rw[hoi]at this;exact this
  have hXi:X i:=by
   refine Classical.byContradiction λhn=>g.away hoi A.op hne (λh=>hn (A.dn i h)) (λh=>?_) hdi ht
   have h1:=I.mask hpos j h
   have h2:=I.nodup (A:=C++U++i::V) (i:=j) (B:=R2) (by rw[hpos];simp)
   exact h2 (dQ _ h1)
  have hgo:=A.go1
  rw[e]at hgo
  obtain⟨p1,k1,k2⟩:=(Ol g).1 hgo
  obtain⟨q1,k3,k4⟩:=(Pz g).1 k2
  refine I.t2 U i (V++j::R2) epos hXi p1 q1 k1 k3 t hd x ?_
  rw[<-(Dv k4).2.2 t (λk hk hdk=>?_)]
  .exact hx
  .obtain⟨V1,V2,e2⟩:=eJ hk
   have hpos2:C++R=(C++U++i::V1)++k::(V2++j::R2):=by rw[hpos,e2];simp
   obtain⟨ok,hok⟩:=I.has (i:=k) (by rw[hpos2];simp)
   have hdk':ok.dst=some t:=by rw[hok]at hdk;exact hdk
   have:=vH g.uniq hoi hok hdi hdk'
   exact I.nodup hpos2 (by rw[<-this];simp)
 .have hget:p.1.tm.sl.get t=S.1.tm.sl.get t:=(Dv A.go1).2.2 t (λk hk hd=>hw ⟨k,hk,hd⟩)
  rw[hget]at hx
  refine I.t1 t (λi hi hXi hd=>?_) x hx
  rw[A.pos]at hi
  rcases aL.1 hi with hi|hi
  .exact hw ⟨i,hi,hd⟩
  rcases aK.1 hi with rfl|hi
  .exact A.nX hXi
  obtain⟨V1,V2,e2⟩:=eJ hi
  have hpos2:C++R=(C++R1++j::V1)++i::V2:=by rw[A.pos,e2];simp
  obtain⟨oi,hoi⟩:=I.has (i:=i) (by rw[hpos2];simp)
  have hdi:oi.dst=some t:=by have:=hd;unfold D9.dst at this;rw[hoi]at this;exact this
  refine g.away hoi A.op (λe=>A.nX (e▸hXi)) (λh=>?_) (λh=>A.nX (A.cl.mask hoi hXi j h)) hdi ht
  have:=A.pr i h
  exact I.nodup hpos2 (dQ _ this)
theorem C3.gl_eq(I:C3 g C R S X s w a Hx)(A:At g C R S X R1 j R2 o p q):p.1.tm.gl=g.st0.tm.gl/\p.1.tm.n=S.1.tm.n:=
 ⟨((Dv A.go1).1.trans (Dv I.run).1),(Dv A.go1).2.1⟩
theorem C3.rt(I:C3 g C R S X s w a Hx)(A:At g C R S X R1 j R2 o p q):RT s w (Ry g.ops o p.1.tm) a.tmps:=by
 obtain⟨e1,e2⟩:=I.gl_eq A
 refine⟨by rw[I.sz];exact e2.symm,λi x hx=>?_,λgi l hl=>I.gl gi l (by rw[<-e1];exact hl)⟩
 simp only[Ry,MO]at hx
 split at hx
 .rename_i hi;exact I.see A hi hx
 .cases hx
theorem C3.conc(I:C3 g C R S X s w a Hx){V:List Nat}(h:R=U++V){p:St×Ew}(hp:g.go U S=some p): ∃(s:Av)(w:World)(a:Act),RH s w p.1.H.get/\RT s w p.1.tm a.tmps/\(∀h,s.dom h↔g.D p.1.nx h)/\g.st0.nx<=p.1.nx/\p.1.tm.gl=g.st0.tm.gl:=
 g.conc (C++U) p V (by rw[I.ord,h,cE]) ((Ol g).2 ⟨S,I.run,hp⟩)
theorem C3.nx0(I:C3 g C R S X s w a Hx):g.st0.nx<=S.1.nx:=DN g I.run
theorem D9.D_lt(g:D9 P)(hn:g.st0.nx<=n)(h:g.D n i):i<n:=by
 rcases h with h|h
 .rcases cU i n with hl|hl
  .exact hl
  .exact absurd h (g.rel.nx i o_)
 .exact h.2
theorem C3.quiet(I:C3 g C R S X s w a Hx)(A:At g C R S X R1 j R2 o p q){V:List Nat}(e:R1=U++V){p1:St×Ew}(h1:g.go U S=some p1)(h2:g.go V p1=some p)(hrd: ∀z∈p.2,(g.bf.getD j 0).testBit z.1=true\/O8 rd z.2=true)(hi:i∈rd)(hlt:i<p1.1.nx):p.1.H.get i=p1.1.H.get i:=by
 obtain⟨_,es,k2,k3,k4⟩:=pE g.hlog h2
 refine k4 i hlt (λz hz hiz=>?_)
 obtain⟨l1,l2,p2,r,m1,m2,m3⟩:=k3 z hz
 have hpz:=hrd z (by rw[k2];exact dQ _ hz)
 rcases hpz with hm|hdj
 .exact I.kinds (U++l1) z.1 (l2++j::R2) (by rw[A.pos,e,m1];simp) (A.dn _ hm) p2 ((Ol g).2 ⟨p1,h1,m2⟩) r m3
 .have:=aO.1 hdj i hi
  simp at this
  exact this hiz
theorem C3.reads(I:C3 g C R S X s w a Hx)(A:At g C R S X R1 j R2 o p q)(hk:g.kd j p.1=some (.put x rd))(hc:calm g.E.G p.1.tm p.1.H.get o=some (x,rd)):calm g.E.G (Ry g.ops o p.1.tm) Hx o=some (x,rd):=by
 have hrd:=((DT A.go2).1 x rd hk).2.2
 rw[Z0 (SQ (ops:=g.ops))]at hc
 refine IG hc (λi hi=>?_)
 -- the handle is one that there is
 obtain⟨y,hy,hev⟩:=Z3 hc i hi
 have hdom:s.dom i:=by
  rcases hev with⟨off,hev⟩|hev
  .exact(Bb (I.rt A) hev).1
  .exact(Bb (I.rt A) hev).1
 obtain⟨s',w',a',c1,c2,c3,c4,_⟩:=I.conc A.pos A.go1
 have hD:g.D p.1.nx i:=by
  rw[<-c3]
  rcases hev with⟨off,hev⟩|hev
  .rw[<-SQ y hy]at hev;exact(Bb c2 hev).1
  .rw[<-SQ y hy]at hev;exact(Bb c2 hev).1
 have hlt:=g.D_lt c4 hD
 rcases cU i S.1.nx with hl|hl
 .rw[I.h1 i hl,I.quiet A (U:=[]) (V:=R1) rfl rfl A.go1 hrd hi hl]
 .rcases(I.dm i).1 hdom with hd|⟨R1',j',R2',p',x',ob,e1,e2,e3,e4,e5⟩
  .exact absurd (g.D_lt I.nx0 hd) o_
  .rw[e5,I.h2 R1' j' R2' e1 e2 p' e3 x' ob e4,<-e5]
   rcases Hm (A.pos.symm.trans e1)with⟨_,e,_⟩|⟨U,e⟩|⟨U,e⟩
   .exact absurd (e▸e2) A.nX
   .rw[e]at e3
    obtain⟨p2,k1,k2⟩:=(Ol g).1 e3
    rw[A.go1]at k1
    cases k1
    have:=DN g k2
    omega
   .have hgo:=A.go1
    rw[e]at hgo
    obtain⟨p2,k1,k2⟩:=(Ol g).1 hgo
    rw[e3]at k1
    cases k1
    obtain⟨q',k3,k4⟩:=(Pz g).1 k2
    have hq:=(DT k3).2.1 x' ob e4
    have hgo':g.go (R1'++[j']) S=some q':=(Ol g).2 ⟨p',e3,k3⟩
    rw[I.quiet A (U:=R1'++[j']) (V:=U) (by rw[e];simp) hgo' k4 hrd hi (by rw[hq];dsimp only;omega),hq]
    dsimp only
    rw[e5,A9]
    exact(if_pos rfl).symm
variable {P:Program} {g:D9 P} {C R:List Nat} {S:St×Ew} {X:Nat->Prop} {s:Av} {w:World} {a:Act} {Hx:Nat->Option O} {R1 R2:List Nat} {j:Nat} {o:Oper} {p q:St×Ew}
def KZ(X:Nat->Prop)(j:Nat):Nat->Prop:=λi=>X i\/i=j
theorem NU{s:Av}{w:World}{t:TM}{a:Array Value}(h:RT s w t a)(hx:t.sl.get i=some x):i<t.n:=by
 obtain⟨v,hv,_⟩:=h.2.1 i x hx
 rw[<-h.1]
 exact(bM.1 hv).1
theorem EI{a:Act}{d:Option Nat}{v:Value}(h:d≠some t):(a.put d v).tmps[t]? =a.tmps[t]? :=by
 cases d with
 |none=>rfl
 |some i=>
  simp only[Act.put]
  exact Array.getElem?_setIfInBounds_ne (λe=>h (by rw[e]))
theorem YJ(a:Act)(d:Option Nat)(v:Value):(a.put d v).tmps.size=a.tmps.size:=by
 cases d with
 |none=>rfl
 |some i=>simp[Act.put]
theorem YK{a:Act}{v:Value}(h:t<a.tmps.size):(a.put (some t) v).tmps[t]? =some v:=by
 simp[Act.put,h]
theorem j8(h:t<tm.n):(tm.put (some t) x).sl.get t=some x:=by
 rw[TM.put_some]
 have:Nat.blt t tm.n=true:=aU h
 rw[this,cond_true]
 simp[T.get_put]
theorem At.dst(A:At g C R S X R1 j R2 o p q):g.dst j=o.dst:=by unfold D9.dst;rw[A.op];rfl
theorem C3.set(I:C3 g C R S X s w a Hx)(A:At g C R S X R1 j R2 o p q)(hq:q.1.tm=p.1.tm.put (g.dst j) x)(hd:g.dst j=some t){y:V}(hy:q.1.tm.sl.get t=some y):y=x/\t<a.tmps.size:=by
 obtain⟨_,_,a',_,c2,_⟩:=I.conc (U:=R1++[j]) (V:=R2) (by rw[A.pos];simp) ((Ol g).2 ⟨p,A.go1,A.go2⟩)
 have hlt:=NU c2 hy
 have hn:q.1.tm.n=p.1.tm.n:=(Dv A.go2).2.1
 rw[hn]at hlt
 rw[hq,hd,j8 hlt]at hy
 exact⟨(eY hy).symm,by rw[I.sz,<-(I.gl_eq A).2];exact hlt⟩
theorem C3.dst_ne(I:C3 g C R S X s w a Hx)(A:At g C R S X R1 j R2 o p q){k:Nat}(hk:k∈R)(hne:k≠j)(hd:g.dst k=some t):g.dst j≠some t:=by
 obtain⟨ok,hok⟩:=I.has (eS C hk)
 intro hd'
 rw[A.dst]at hd'
 unfold D9.dst at hd
 rw[hok]at hd
 exact hne (vH g.uniq hok A.op hd hd')
theorem C3.only(I:C3 g C R S X s w a Hx)(A:At g C R S X R1 j R2 o p q)(e:R=R1'++j::R2'):R1'=R1/\R2'=R2:=by
 obtain⟨h1,h2⟩:=g.same (a:=C++R1) (a':=C++R1') (b:=R2) (b':=R2') (by rw[I.ord,A.pos,cE]) (by rw[I.ord,e,cE])
 exact⟨(List.append_cancel_left h1).symm,h2.symm⟩
theorem C3.only_st(I:C3 g C R S X s w a Hx)(A:At g C R S X R1 j R2 o p q)(e:R=R1'++j::R2'){p':St×Ew}(h:g.go R1' S=some p'):p'=p:=by
 rw[(I.only A e).1,A.go1]at h
 exact(eY h).symm
theorem C3.put(I:C3 g C R S X s w a Hx)(A:At g C R S X R1 j R2 o p q)(hk:g.kd j p.1=some (.put x rd)){v:Value}(hv:RV s w x v):C3 g C R S (KZ X j) s w (a.put o.dst v) Hx:=by
 have hq:q.1.tm=p.1.tm.put (g.dst j) x:=by rw[((DT A.go2).1 x rd hk).1]
 rw[<-A.dst]
 refine⟨I.ord,I.run,λi hi=>.inl (I.inC i hi),λR1' i R2' e hi p' hp' r hr=>?_,by rw[YJ];exact I.sz,I.gl,λt ht y hy=>?_,λR1' i R2' e hi p' q' hp' hq' t hd y hy=>?_,I.rh,I.h1,λR1' i R2' e hi p' hp' x' ob hk'=>?_,λi=>?_,I.step,?_⟩
 .rcases hi with hi|rfl
  .exact I.kinds R1' i R2' e hi p' hp' r hr
  .rw[I.only_st A e hp',hk]at hr;cases hr
 .obtain⟨u,hu,hr⟩:=I.t1 t (λi hi hX=>ht i hi (.inl hX)) y hy
  exact⟨u,by rw[EI (ht j (by rw[A.pos];simp) (.inr rfl))];exact hu,hr⟩
 .by_cases hij:i=j
  .subst hij
   rw[I.only_st A e hp']at hq'
   rw[A.go2]at hq'
   cases hq'
   obtain⟨rfl,hlt⟩:=I.set A hq hd hy
   exact⟨v,by rw[hd];exact YK hlt,hv⟩
  .obtain⟨u,hu,hr⟩:=I.t2 R1' i R2' e (hi.resolve_right hij) p' q' hp' hq' t hd y hy
   exact⟨u,by rw[EI (I.dst_ne A (by rw[e];simp) hij hd)];exact hu,hr⟩
 .rcases hi with hi|rfl
  .exact I.h2 R1' i R2' e hi p' hp' x' ob hk'
  .rw[I.only_st A e hp',hk]at hk';cases hk'
 .rw[I.dm]
  refine or_congr fK ⟨λ⟨R1',j',R2',p',x',ob,e1,e2,e3,e4,e5⟩=>⟨R1',j',R2',p',x',ob,e1,.inl e2,e3,e4,e5⟩,λ⟨R1',j',R2',p',x',ob,e1,e2,e3,e4,e5⟩=>?_⟩
  rcases e2 with e2|rfl
  .exact⟨R1',j',R2',p',x',ob,e1,e2,e3,e4,e5⟩
  .rw[I.only_st A e1 e3,hk]at e4;cases e4
 .obtain⟨Ds,h1,h2,h3⟩:=I.df
  exact⟨Ds,by rw[ZH];exact h1,h2,h3⟩
theorem C3.nx_ne(_I:C3 g C R S X s w a Hx)(A:At g C R S X R1 j R2 o p q)(hk:g.kd j p.1=some (.new x ob))(e:R=R1'++i::R2')(hne:i≠j){p':St×Ew}(hp':g.go R1' S=some p'){x':V}{ob':O}(hk':g.kd i p'.1=some (.new x' ob')):p'.1.nx≠p.1.nx:=by
 rcases Hm (A.pos.symm.trans e)with⟨_,e2,_⟩|⟨U,e2⟩|⟨U,e2⟩
 .exact absurd e2.symm hne
 .rw[e2]at hp'
  obtain⟨p2,k1,k2⟩:=(Ol g).1 hp'
  rw[A.go1]at k1
  cases k1
  obtain⟨q2,k3,k4⟩:=(Pz g).1 k2
  have h1:=DN g k4
  have h2:=(DT k3).2.1 x ob hk
  rw[h2]at h1
  dsimp only at h1
  omega
 .have hgo:=A.go1
  rw[e2]at hgo
  obtain⟨p2,k1,k2⟩:=(Ol g).1 hgo
  rw[hp']at k1
  cases k1
  obtain⟨q2,k3,k4⟩:=(Pz g).1 k2
  have h1:=DN g k4
  have h2:=(DT k3).2.1 x' ob' hk'
  rw[h2]at h1
  dsimp only at h1
  omega
theorem C3.le_at(_I:C3 g C R S X s w a Hx)(A:At g C R S X R1 j R2 o p q):S.1.nx<=p.1.nx:=DN g A.go1
theorem C3.fresh(I:C3 g C R S X s w a Hx)(A:At g C R S X R1 j R2 o p q)(hk:g.kd j p.1=some (.new x ob)): ¬s.dom p.1.nx:=by
 intro hd
 rcases(I.dm _).1 hd with h|⟨R1',j',R2',p',x',ob',e1,e2,e3,e4,e5⟩
 .have h1:=g.D_lt I.nx0 h
  have h2:=I.le_at A
  omega
 .exact I.nx_ne A hk e1 (λe=>A.nX (e▸e2)) e3 e4 e5.symm
theorem C3.new(I:C3 g C R S X s w a Hx)(A:At g C R S X R1 j R2 o p q)(hk:g.kd j p.1=some (.new x ob)){s':Av}{v:Value}(hv:RV s' w' x v)(hH:RH s' w' (Jm Hx p.1.nx ob))(hs:Br s w s' w' [])(hd: ∀i,s'.dom i↔s.dom i\/i=p.1.nx):C3 g C R S (KZ X j) s' w' (a.put o.dst v) (Jm Hx p.1.nx ob):=by
 have hq:q.1.tm=p.1.tm.put (g.dst j) x:=by rw[(DT A.go2).2.1 x ob hk]
 rw[<-A.dst]
 refine⟨I.ord,I.run,λi hi=>.inl (I.inC i hi),λR1' i R2' e hi p' hp' r hr=>?_,by rw[YJ];exact I.sz,λgi l hl=>RC.mono hs.le hs.k _ _ _ (I.gl gi l hl),λt ht y hy=>?_,λR1' i R2' e hi p' q' hp' hq' t hd y hy=>?_,hH,λi hi=>?_,λR1' i R2' e hi p' hp' x' ob' hk'=>?_,λi=>?_,?_,?_⟩
 .rcases hi with hi|rfl
  .exact I.kinds R1' i R2' e hi p' hp' r hr
  .rw[I.only_st A e hp',hk]at hr;cases hr
 .obtain⟨u,hu,hr⟩:=I.t1 t (λi hi hX=>ht i hi (.inl hX)) y hy
  exact⟨u,by rw[EI (ht j (by rw[A.pos];simp) (.inr rfl))];exact hu,RV.mono hs.le hs.k _ _ hr⟩
 .by_cases hij:i=j
  .subst hij
   rw[I.only_st A e hp']at hq'
   rw[A.go2]at hq'
   cases hq'
   obtain⟨rfl,hlt⟩:=I.set A hq hd hy
   exact⟨v,by rw[hd];exact YK hlt,hv⟩
  .obtain⟨u,hu,hr⟩:=I.t2 R1' i R2' e (hi.resolve_right hij) p' q' hp' hq' t hd y hy
   exact⟨u,by rw[EI (I.dst_ne A (by rw[e];simp) hij hd)];exact hu,RV.mono hs.le hs.k _ _ hr⟩
 .have:=I.le_at A
  unfold Jm
  rw[if_neg o_]
  exact I.h1 i hi
 .unfold Jm
  rcases hi with hi|rfl
  .rw[if_neg (I.nx_ne A hk e (λe'=>A.nX (e'▸hi)) hp' hk')]
   exact I.h2 R1' i R2' e hi p' hp' x' ob' hk'
  .rw[I.only_st A e hp',hk]at hk'
   cases hk'
   rw[I.only_st A e hp']
   exact if_pos rfl
 .rw [hd, I.dm]
  constructor
  .rintro((h|⟨R1',j',R2',p',x',ob',e1,e2,e3,e4,e5⟩)|h)
   .exact .inl h
   .exact .inr ⟨R1',j',R2',p',x',ob',e1,.inl e2,e3,e4,e5⟩
   .exact .inr ⟨R1,j,R2,p,x,ob,A.pos,.inr rfl,A.go1,hk,h⟩
  .rintro(h|⟨R1',j',R2',p',x',ob',e1,e2,e3,e4,e5⟩)
   .exact .inl (.inl h)
   .rcases e2 with e2|rfl
    .exact .inl (.inr ⟨R1',j',R2',p',x',ob',e1,e2,e3,e4,e5⟩)
    .rw[I.only_st A e1 e3]at e5
     exact .inr e5
 .obtain⟨lg,h1,h2⟩:=I.step
  exact⟨lg,h1,by have:=h2.trans hs;rwa [aV]at this⟩
 .obtain⟨Ds,h1,h2,h3⟩:=I.df
  exact⟨Ds,by rw[ZH];exact h1,h2,λD hD=>(h3 D hD).step hs⟩
variable {P:Program} {g:D9 P} {C R:List Nat} {S:St×Ew} {X:Nat->Prop} {s:Av} {w:World} {a:Act} {Hx:Nat->Option O} {R1 R2:List Nat} {j:Nat} {o:Oper} {p q:St×Ew}
theorem ig{o:Oper}(h:Bj G tm nx o=some (x,ob)):ob.live=true:=by
 unfold Bj at h
 split at h
 .split at h<;>cases h;rfl
 .split at h<;>cases h;rfl
 .split at h
  .split at h
   .obtain⟨_,h⟩:=Hi h
    generalize Nat.beq _ _=b at h
    cases b with
    |true=>
     rw[cond_true]at h
     split at h<;>cases h;rfl
    |false=>
     rw[cond_false]at h
     split at h
     .split at h<;>cases h;rfl
     .cases h
   .cases h
  .cases h
 .split at h
  .split at h
   .split at h<;>cases h;rfl
   .cases h
  .cases h
 .split at h
  .split at h
   .cases h;rfl
   .split at h<;>cases h;rfl
  .cases h
 .cases h
def On(s:Av)(S:St×Ew)(h:Nat):Prop:=s.dom h/\S.1.nx<=h
theorem C3.ahead(I:C3 g C R S X s w a Hx)(hh:On s S h): ∃R1 j R2 p x ob,R=R1++j::R2/\X j/\g.go R1 S=some p/\g.kd j p.1=some (.new x ob)/\h=p.1.nx/\Hx h=some ob/\ob.live=true:=by
 rcases(I.dm h).1 hh.1 with hd|⟨R1,j,R2,p,x,ob,e1,e2,e3,e4,e5⟩
 .have h1:=g.D_lt I.nx0 hd
  have h2:=hh.2
  omega
 .obtain⟨o,_,_,hal⟩:=pG e4
  exact⟨R1,j,R2,p,x,ob,e1,e2,e3,e4,e5,by rw[e5];exact I.h2 R1 j R2 e1 e2 p e3 x ob e4,ig hal⟩
def C3.sig(s:Av)(g:D9 P)(S:St×Ew):Av:=s.cut (g.D S.1.nx) (λb=>s.mark b\/∃h,On s S h/\b=s.μ h)
theorem C3.rh1(I:C3 g C R S X s w a Hx):RH (C3.sig s g S) w S.1.H.get:=by
 obtain⟨s',w',a',c1,c2,c3,c4,_⟩:=I.conc (U:=[]) (V:=R) rfl rfl
 have hdom:s'.dom=g.D S.1.nx:=funext λi=>propext (c3 i)
 have hx: ∀h o,S.1.H.get h=some o->o.live=true->g.D S.1.nx h/\s.dom h/\Hx h=some o/\kR (g.D S.1.nx) o:=by
  intro h o ho hl
  obtain⟨d1,_,_,d4⟩:=c1.obj h o ho hl
  have hD:=(c3 h).1 d1
  refine⟨hD,(I.dm h).2 (.inl hD),by rw[I.h1 h (g.D_lt I.nx0 hD)];exact ho,?_⟩
  rw[<-hdom];exact RO.sc d4
 refine⟨λh o ho hl=>?_,λh h' o o' ho ho' hl hl' e=>?_,λb hb=>?_⟩
 .obtain⟨x1,x2,x3,x4⟩:=hx h o ho hl
  obtain⟨b1,b2,b3,b4⟩:=I.rh.obj h o x3 hl
  refine⟨⟨x2,x1⟩,b2,?_,RO.cut b4 x4⟩
  rintro(hf|hm|⟨h',ha,e⟩)
  .exact b3 (.inl hf)
  .exact b3 (.inr hm)
  .obtain⟨_,_,_,_,_,ob,_,_,_,_,_,e6,e7⟩:=I.ahead ha
   have:=I.rh.inj h h' o ob x3 e6 hl e7 e
   have h1:=g.D_lt I.nx0 x1
   have h2:=ha.2
   omega
 .obtain⟨_,_,x3,_⟩:=hx h o ho hl
  obtain⟨_,_,x3',_⟩:=hx h' o' ho' hl'
  exact I.rh.inj h h' o o' x3 x3' hl hl' e
 .rcases hb with hb|hb|⟨h',ha,e⟩
  .exact I.rh.old b (.inl hb)
  .exact I.rh.old b (.inr hb)
  .obtain⟨_,_,_,_,_,ob,_,_,_,_,_,e6,e7⟩:=I.ahead ha
   rw[e]
   exact(I.rh.obj h' ob e6 e7).2.1
theorem KX.restr{D:Nat->Prop}{o:Oper}(h:KX D tm):KX D (Ry ops o tm):=by
 intro i x hx
 simp only[Ry,MO]at hx
 split at hx
 .exact h i x hx
 .cases hx
theorem C3.rt1(I:C3 g C (j::R2) S X s w a Hx)(A:At g C (j::R2) S X [] j R2 o S q):RT (C3.sig s g S) w (Ry g.ops o S.1.tm) a.tmps:=by
 obtain⟨s',w',a',c1,c2,c3,c4,_⟩:=I.conc (U:=[]) (V:=j::R2) rfl rfl
 have hdom:s'.dom=g.D S.1.nx:=funext λi=>propext (c3 i)
 have:=c2.sc
 rw[hdom]at this
 exact(I.rt A).cut this.restr
theorem C3.eff(I:C3 g C (j::R2) S X s w a Hx)(A:At g C (j::R2) S X [] j R2 o S q){r:CR}(hk:g.kd j S.1=some (.eff r)){v:Value}(hc:Ge (C3.sig s g S) w S.1.nx r (.returned v) w'):
  ∃s2 H2,C3 g (C++[j]) R2 q (KZ X j) s2 w' (a.put o.dst v) H2:=by
 obtain⟨v',s',hv,g1,g2,g3,g4,g5⟩:=hc
 cases hv
 have hq:=(DT A.go2).2.2 r hk
 have hq1:q.1=⟨S.1.tm.put (g.dst j) r.v,r.H,r.nx,r.lg++S.1.lg⟩:=by rw[hq]
 have hqn:q.1.nx=r.nx:=by rw[hq1]
 have hlt1: ∀i,(C3.sig s g S).dom i->i<S.1.nx:=λi hi=>g.D_lt I.nx0 hi.2
 have hlt': ∀i,s'.dom i->i<r.nx:=λi hi=>by
  rcases(g4 i).1 hi with h|h
  .have:=hlt1 i h;omega
  .exact h.2
 have hnx: ∀{R1 R2':List Nat}{i:Nat}{p:St×Ew},j::R2=R1++i::R2'->i≠j->g.go R1 S=some p->∃R1',R1=j::R1'/\R2=R1'++i::R2'/\g.go R1' q=some p/\r.nx<=p.1.nx:=by
  intro R1 R2' i p e hne hp
  cases R1 with
  |nil=>simp at e;exact absurd e.1.symm hne
  |cons y R1=>
   simp only[dY,cT]at e
   obtain⟨rfl,e⟩:=e
   obtain⟨q',k1,k2⟩:=(Pz g).1 hp
   rw[A.go2]at k1
   cases k1
   exact⟨R1,rfl,e,k2,by rw[<-hqn];exact DN g k2⟩
 have hah: ∀i,On s S i->r.nx<=i:=by
  intro i hi
  obtain⟨R1,k,R2',p,x,ob,e1,e2,e3,e4,e5,_⟩:=I.ahead hi
  obtain⟨_,_,_,_,h⟩:=hnx e1 (λe=>A.nX (e▸e2)) e3
  omega
 have hmem: ∀{R1 R2':List Nat}{i:Nat},R2=R1++i::R2'->i≠j:=λ{R1 R2' i} e e'=>by
  have h1:=I.nodup (A:=C++j::R1) (i:=i) (B:=R2') (by rw[e];simp)
  exact h1 (by rw[e'];simp)
 have hdm: ∀i,s.dom i->i<r.nx->(C3.sig s g S).dom i:=λi hi hlt=>by
  refine⟨hi,?_⟩
  rcases(I.dm i).1 hi with h|⟨R1,k,R2',p,x,ob,e1,e2,e3,e4,e5⟩
  .exact h
  .obtain⟨_,_,_,_,h⟩:=hnx e1 (λe=>A.nX (e▸e2)) e3
   omega
 have hge: ∀i,s.dom i->r.nx<=i->On s S i:=λi hi h=>⟨hi,o_⟩
 -- the two are laid together
 let s2:Av:={μ:=λi=>if i<r.nx then s'.μ i else s.μ i,cp:=λi=>if i<r.nx then s'.cp i else s.cp i,dom:=λi=>s'.dom i\/s.dom i/\r.nx<=i,fz:=s'.fz,mark:=s.mark}
 let H2:Nat->Option O:=λi=>if i<r.nx then r.H.get i else Hx i
 have sub':s'.Sub s2:=⟨λi hi=>if_pos (c:=i<r.nx) (hlt' i hi),λi hi=>if_pos (c:=i<r.nx) (hlt' i hi),λi hi=>.inl hi,λ_ h=>h⟩
 have sub:s.Sub s2:=by
  refine⟨λi hi=>?_,λi hi=>?_,λi hi=>?_,λb hb=>g3.le.fz b hb⟩
  .by_cases h:i<r.nx
   .exact(if_pos (c:=i<r.nx) h).trans (g3.le.μ i (hdm i hi h))
   .exact if_neg (c:=i<r.nx) h
  .by_cases h:i<r.nx
   .exact(if_pos (c:=i<r.nx) h).trans (g3.le.cp i (hdm i hi h))
   .exact if_neg (c:=i<r.nx) h
  .by_cases h:i<r.nx
   .exact .inl (g3.le.dom i (hdm i hi h))
   .exact .inr ⟨hi,o_⟩
 have le:s.Le s2:=⟨sub,λ_ h=>h⟩
 have kept:Ee s w w':=λb hb=>g3.kept b (hb.imp id .inl)
 have hstep:Br s w s2 w' r.lg:=by
  refine⟨le,λb hb=>(g3.fz b hb).imp id (Or.imp id λ⟨h,h1,h2,h3,h4⟩=>⟨h,h1,h2.1,h3,λk=>h4 (.inl k)⟩),kept,g3.mod.mono (λb⟨h,h1,h2,h3⟩=>⟨h,h1,h2.1,h3⟩),λi hi hno=>?_⟩
  rcases hi with hi|hi
  .have hi1: ¬(C3.sig s g S).dom i:=λh=>hno h.1
   have e:s2.μ i=s'.μ i:=if_pos (c:=i<r.nx) (hlt' i hi)
   rw[e]
   rcases g3.new i hi hi1 with h|⟨gg,h1,h2,h3⟩
   .exact .inl h
   .exact .inr ⟨gg,h1,h2.1,h3⟩
  .exact absurd hi.1 hno
 have hrh:RH s2 w' H2:=by
  have low: ∀h o,h<r.nx->H2 h=some o->r.H.get h=some o:=λh o hl e=>by
   have:H2 h=r.H.get h:=if_pos (c:=h<r.nx) hl
   rw[this]at e;exact e
  have high: ∀h o,¬h<r.nx->H2 h=some o->Hx h=some o:=λh o hl e=>by
   have:H2 h=Hx h:=if_neg (c:=h<r.nx) hl
   rw[this]at e;exact e
  have cross: ∀h h' o o',h<r.nx->¬h'<r.nx->H2 h=some o->H2 h'=some o'->o.live=true->o'.live=true->s2.μ h≠s2.μ h':=by
   intro h h' o o' hl hl' e e' ho ho' he
   obtain⟨a1,a2,a3,a4⟩:=g2.obj h o (low h o hl e) ho
   obtain⟨b1,_,_,_⟩:=I.rh.obj h' o' (high h' o' hl' e') ho'
   have e1:s2.μ h=s'.μ h:=if_pos (c:=h<r.nx) hl
   have e2:s2.μ h'=s.μ h':=if_neg (c:=h'<r.nx) hl'
   rw[e1,e2]at he
   exact a3 (.inr (by rw[he];exact g3.le.mark _ (.inr ⟨h',hge h' b1 o_,rfl⟩)))
  refine⟨λh o ho hl=>?_,λh h' o o' ho ho' hl hl' e=>?_,λb hb=>?_⟩
  .by_cases hlt:h<r.nx
   .obtain⟨a1,a2,a3,a4⟩:=g2.obj h o (low h o hlt ho) hl
    have e1:s2.μ h=s'.μ h:=if_pos (c:=h<r.nx) hlt
    refine⟨.inl a1,by rw[e1];exact a2,?_,RO.mono' sub' (λ_ _=>rfl) a1 a4 (λ_=>rfl)⟩
    rw[e1]
    rintro(hf|hm)
    .exact a3 (.inl hf)
    .exact a3 (.inr (g3.le.mark _ (.inl hm)))
   .obtain⟨b1,b2,b3,b4⟩:=I.rh.obj h o (high h o hlt ho) hl
    have e2:s2.μ h=s.μ h:=if_neg (c:=h<r.nx) hlt
    refine⟨.inr ⟨b1,o_⟩,by rw[e2];exact aQ b2 g3.mod.size,?_,RO.mono' sub kept.k b1 b4 (λ_=>g3.kept _ (.inr (.inr ⟨h,hge h b1 o_,rfl⟩)))⟩
    rw[e2]
    rintro(hf|hm)
    .rcases g3.fz _ hf with hf|hf|⟨_,_,_,_,k⟩
     .exact b3 (.inl hf)
     .omega
     .exact k (.inr ⟨h,hge h b1 o_,rfl⟩)
    .exact b3 (.inr hm)
  .by_cases hlt:h<r.nx<;>by_cases hlt':h'<r.nx
   .have e1:s2.μ h=s'.μ h:=if_pos (c:=h<r.nx) hlt
    have e2:s2.μ h'=s'.μ h':=if_pos (c:=h'<r.nx) hlt'
    rw[e1,e2]at e
    exact g2.inj h h' o o' (low h o hlt ho) (low h' o' hlt' ho') hl hl' e
   .exact absurd e (cross h h' o o' hlt hlt' ho ho' hl hl')
   .exact absurd e.symm (cross h' h o' o hlt' hlt ho' ho hl' hl)
   .have e1:s2.μ h=s.μ h:=if_neg (c:=h<r.nx) hlt
    have e2:s2.μ h'=s.μ h':=if_neg (c:=h'<r.nx) hlt'
    rw[e1,e2]at e
    exact I.rh.inj h h' o o' (high h o hlt ho) (high h' o' hlt' ho') hl hl' e
  .rcases hb with hb|hb
   .exact g2.old b (.inl hb)
   .exact aQ (I.rh.old b (.inr hb)) g3.mod.size
 refine⟨s2,H2,?_⟩
 rw[<-A.dst]
 refine⟨by rw[I.ord];simp,(Ol g).2 ⟨S,I.run,A.go2⟩,λi hi=>?_,λR1' i R2' e hi p' hp' r' hr'=>?_,by rw[YJ,I.sz];exact((Dv A.go2).2.1).symm,λgi l hl=>RC.mono le kept.k _ _ _ (I.gl gi l hl),λt ht y hy=>?_,λR1' i R2' e hi p' q' hp' hq' t hd y hy=>?_,hrh,λi hi=>?_,λR1' i R2' e hi p' hp' x' ob' hk'=>?_,λi=>?_,?_,?_⟩
 .rcases aL.1 hi with hi|hi
  .exact .inl (I.inC i hi)
  .simp at hi;exact .inr hi
 .refine I.kinds (j::R1') i R2' (by rw[e];rfl) (hi.resolve_right (hmem e)) p' ((Pz g).2 ⟨q,A.go2,hp'⟩) r' hr'
 .by_cases hd:g.dst j=some t
  .obtain⟨rfl,hlt⟩:=I.set A (x:=r.v) (by rw[hq1]) hd hy
   exact⟨v,by rw[hd];exact YK hlt,RV.mono' sub' (λ_ _=>rfl) _ _ g1⟩
  .rw[(Dv A.go2).2.2 t (λk hk=>by simp at hk;rw[hk];exact hd)]at hy
   obtain⟨u,hu,hr⟩:=I.t1 t (λi hi hX=>by
    rcases aK.1 hi with rfl|hi
    .exact hd
    .exact ht i hi (.inl hX)) y hy
   exact⟨u,by rw[EI hd];exact hu,RV.mono le kept.k _ _ hr⟩
 .obtain⟨u,hu,hr⟩:=I.t2 (j::R1') i R2' (by rw[e];rfl) (hi.resolve_right (hmem e)) p' q' ((Pz g).2 ⟨q,A.go2,hp'⟩) hq' t hd y hy
  exact⟨u,by rw[EI (I.dst_ne A (by rw[e];simp) (hmem e) hd)];exact hu,RV.mono le kept.k _ _ hr⟩
 .rw[hqn]at hi
  rw[hq1]
  exact if_pos (c:=i<r.nx) hi
 .have hp2:=DN g hp'
  rw[hqn]at hp2
  have:H2 p'.1.nx=Hx p'.1.nx:=if_neg (c:=p'.1.nx<r.nx) o_
  rw[this]
  exact I.h2 (j::R1') i R2' (by rw[e];rfl) (hi.resolve_right (hmem e)) p' ((Pz g).2 ⟨q,A.go2,hp'⟩) x' ob' hk'
 .have hD:g.D q.1.nx i↔g.D S.1.nx i\/S.1.nx<=i/\i<r.nx:=by
   rw[hqn]
   have h0:=I.nx0
   unfold D9.D
   constructor
   .rintro(h|h)
    .exact .inl (.inl h)
    .by_cases h':i<S.1.nx
     .exact .inl (.inr ⟨h.1,h'⟩)
     .exact .inr ⟨o_,h.2⟩
   .rintro((h|h)|h)
    .exact .inl h
    .exact .inr ⟨h.1,o_⟩
    .exact .inr ⟨o_,h.2⟩
  rw[hD]
  have h1:(C3.sig s g S).dom i↔g.D S.1.nx i:=⟨λh=>h.2,λh=>⟨(I.dm i).2 (.inl h),h⟩⟩
  have h2:s2.dom i↔s'.dom i\/s.dom i/\r.nx<=i:=fK
  rw[h2,g4 i,h1]
  refine or_congr fK ⟨λ⟨hd,hl⟩=>?_,λ⟨R1',k,R2',p',x',ob',e1,e2,e3,e4,e5⟩=>?_⟩
  .obtain⟨R1',k,R2',p',x',ob',e1,e2,e3,e4,e5,_⟩:=I.ahead (hge i hd hl)
   obtain⟨R1'',_,f2,f3,_⟩:=hnx e1 (λe=>A.nX (e▸e2)) e3
   exact⟨R1'',k,R2',p',x',ob',f2,.inl e2,f3,e4,e5⟩
  .have hle:=DN g e3
   rw[hqn]at hle
   exact⟨(I.dm i).2 (.inr ⟨j::R1',k,R2',p',x',ob',by rw[e1];rfl,e2.resolve_right (hmem e1),(Pz g).2 ⟨q,A.go2,e3⟩,e4,e5⟩),o_⟩
 .obtain⟨lg,h1,h2⟩:=I.step
  refine⟨r.lg++lg,by rw[hq1];dsimp only;rw[h1,cE],(h2.trans hstep).more (λx hx=>aL.2 ((aL.1 hx).symm))⟩
 .obtain⟨Ds,h1,h2,h3⟩:=I.df
  exact⟨Ds,by rw[ZH];exact h1,h2,λD hD=>(h3 D hD).step hstep⟩
variable {P:Program}
def K0(b:Array Bool):Nat->Prop:=λi=>b.getD i false=true
def Ab(b:Array Bool):Nat->Nat
 |0=>0
 |n+1=>Ab b n+(bif b.getD n false then 0 else 1)
theorem wE{b:Array Bool}(hi:i<b.size)(k:Nat):(b.setIfInBounds i true).getD k false=if k=i then true else b.getD k false:=by
 rw[fF,fF,Array.getElem?_setIfInBounds]
 grind
theorem uO{b:Array Bool}(hi:i<b.size)(hb:b.getD i false=false): ∀n,Ab (b.setIfInBounds i true) n+(if i<n then 1 else 0)=Ab b n
 |0=>by simp[Ab]
 |n+1=>by
  have ih:=uO hi hb n
  grind[Ab,wE]
theorem xG{b:Array Bool}: ∀{n:Nat},Ab b n=0->∀i,i<n->K0 b i
 |n+1,h,i,hi=>by
  unfold Ab at h
  by_cases hin:i=n
  .grind[K0]
  .exact xG (n:=n) o_ i o_
theorem xT{b:Array Bool}(hs:b.size=ops.size)(he:JC ops=true)(h:Region.ready .any ops b=[]): ∀i,i<ops.size->K0 b i:=by
 intro i
 induction i using Nat.strongRecOn with
 | _ i ih=>
  intro hi
  unfold K0
  cases hb:b.getD i false with
  |true=>rfl
  | false =>
   exfalso
   have:i∈Region.ready .any ops b:=by
    refine mem_ready.2 ⟨?_,ops[i],Array.getElem?_eq_getElem hi,λe hem hbn=>?_⟩
    .simp_all
    .have hlt:=YT he (Array.getElem?_eq_getElem hi) hem hbn
     exact ih e.on hlt o_
   simp_all
theorem C3.done{g:D9 P}{C R:List Nat}{S:St×Ew}{X:Nat->Prop}{s:Av}{w:World}{a:Act}{Hx:Nat->Option O}(I:C3 g C R S X s w a Hx)(hX: ∀i,i<g.ops.size->X i):Iu g.B g.s0 g.w0 g.st0 g.fin.1 g.a0 a w:=by
 have hR: ∀j∈R,X j:=λj hj=>by
  obtain⟨o,ho⟩:=I.has (eS C hj)
  grind
 obtain⟨S',J⟩:=C3.absorbs (U:=R) (R:=[]) (by rw[aV];exact I) hR
 have hfin:S'=g.fin:=by
  have h1:=J.run
  have h2:=J.ord
  rw[aV]at h2
  rw[<-h2]at h1
  have h3:=g.run
  unfold D9.go at h1
  rw[h1]at h3
  exact eY h3
 subst hfin
 obtain⟨s',w',a',c1,c2,c3,c4,c5⟩:=J.conc (U:=[]) (V:=[]) rfl rfl
 obtain⟨lg,k1,k2⟩:=J.step
 have hdm: ∀i,s.dom i↔g.D g.fin.1.nx i:=λi=>(J.dm i).trans ⟨λh=>h.elim id (λ⟨R1,j,R2,_,_,_,e,_⟩=>by simp at e),.inl⟩
 have hH: ∀h o,g.fin.1.H.get h=some o->o.live=true->Hx h=some o:=λh o ho hl=>by
  obtain⟨d1,_⟩:=c1.obj h o ho hl
  rw[J.h1 h (g.D_lt c4 ((c3 h).1 d1))];exact ho
 refine⟨lg,s,⟨⟨λh o ho hl=>J.rh.obj h o (hH h o ho hl) hl,λh h' o o' ho ho' hl hl' e=>J.rh.inj h h' o o' (hH h o ho hl) (hH h' o' ho' hl') hl hl' e,J.rh.old⟩,⟨J.sz,λt x hx=>J.t1 t (λj hj=>by cases hj) x hx,λgi l hl=>J.gl gi l (by simp_all)⟩,λi hi hd=>?_,J.df⟩,k2,λi=>hdm i,c4,k1⟩
 have:=g.D_lt c4 ((hdm i).1 hd)
 omega
theorem Vd(g:D9 P)(hQ: ∀a' w',Iu g.B g.s0 g.w0 g.st0 g.fin.1 g.a0 a' w'->Q .normal a' w'): ∀(fuel:Nat)(b:Array Bool)(C R:List Nat)(S:St×Ew)(s:Av)(w:World)(a:Act)(Hx:Nat->Option O),C3 g C R S (K0 b) s w a Hx->Hy g (K0 b)->b.size=g.ops.size->Ab b g.ops.size<=fuel->
  wpAnyIn (FF g.l) 5 P .any g.ops Q fuel b a w
 |0,b,C,R,S,s,w,a,Hx,I,cl,hs,hc=>by
  have hall:=xG (b:=b) (n:=g.ops.size) o_
  refine⟨?_,hQ a w (I.done hall)⟩
  simp_all[Region.ready,K0]
 | fuel + 1, b, C, R, S, s, w, a, Hx, I, cl, hs, hc => by
  refine⟨λh=>hQ a w (I.done (xT hs g.edges h)),λj hj=>?_⟩
  obtain⟨h1,o,ho,hall⟩:=mem_ready.1 hj
  have hjs:j<b.size:=by rw[hs];exact(bM.1 ho).1
  have hb:b.getD j false=false:=by
   cases hb:b.getD j false with
   |false=>rfl
   |true=>simp_all
  have hnX: ¬K0 b j:=λh=>Sq h1 h
  have hX':K0 (b.setIfInBounds j true)=KZ (K0 b) j:=funext λi=>propext (by
   grind[K0,KZ,wE])
  have cl':Hy g (K0 (b.setIfInBounds j true)):=by
   rw[hX']
   rintro k ok (hk|rfl) hok e he hbn
   .exact .inl (cl k ok hk hok e he hbn)
   .rw[ho]at hok;cases hok
    exact .inl (hall e he hbn)
  have hs':(b.setIfInBounds j true).size=g.ops.size:=by simp[hs]
  have hc':Ab (b.setIfInBounds j true) g.ops.size<=fuel:=by
   have:=uO hjs hb g.ops.size
   rw[if_pos o_]at this
   omega
  have next: ∀{C R:List Nat}{S:St×Ew}{s:Av}{w:World}{a:Act}{Hx:Nat->Option O},C3 g C R S (KZ (K0 b) j) s w a Hx->wpAnyIn (FF g.l) 5 P .any g.ops Q fuel (b.setIfInBounds j true) a w:=λJ=>
   Vd g hQ fuel _ _ _ _ _ _ _ _ (by rw[hX'];exact J) cl' hs' hc'
  obtain⟨R1,R2,p,q,A⟩:=I.place ho hnX cl hall
  obtain⟨k,hk⟩:=tB A.go2
  unfold wpOpIn
  rw[ho]
  dsimp only
  have hRT:=I.rt A
  cases k with
  | put x rd =>
   obtain⟨o',ho',⟨hw,hcalm⟩|⟨hw,rfl,rfl⟩⟩:=yQ hk
   .rw[ho]at ho';cases ho'
    rw[ZG]at hw
    rw[if_pos (EH hRT hw)]
    have hc:=I.reads A hk hcalm
    obtain⟨u,g1,g2⟩:=YU g.hG I.rh hRT hc
    refine⟨λf _=>Vx g.l f,?_⟩
    rw[zH hc,g2 w (λ_ _=>rfl) (λ_ _=>rfl)]
    exact next (I.put A hk g1)
   .rw[ho]at ho';cases ho'
    rw[ZG]at hw
    rw[if_neg (by grind[EH])]
    exact⟨λf _=>Vx g.l f,next (I.put A hk ⟨#[],rfl,rfl⟩)⟩
  |new x ob=>
   obtain⟨o',ho',hw,hal⟩:=pG hk
   rw[ho]at ho';cases ho'
   rw[ZG]at hw
   rw[if_pos (EH hRT hw)]
   rw[Vf (SQ (ops:=g.ops))]at hal
   obtain⟨u,w',s',g1,g2,g3,g4,g5⟩:=pI g.hG I.rh hRT (I.fresh A hk) hal
   refine⟨λf _=>Vx g.l f,?_⟩
   rw[af hal,g1]
   exact next (I.new A hk g2 g3 g4 g5)
  | eff r =>
   obtain⟨o',ho',hw,hef,he⟩:=yR hk
   rw[ho]at ho';cases ho'
   rw[ZG]at hw
   rw[if_pos (EH hRT hw)]
   -- all ahead of it is done
   have hR1: ∀i∈R1,K0 b i:=λi hi=>A.dn i (A.ef hef i (eS C hi))
   have I0:C3 g C (R1++j::R2) S (K0 b) s w a Hx:=A.pos▸I
   obtain⟨S1,J⟩:=C3.absorbs I0 hR1
   have hS1:S1=p:=by
    have h1:=J.run
    have h2:=(Ol g (a:=C) (b:=R1)).2 ⟨S,I.run,A.go1⟩
    rw[h1]at h2
    exact eY h2
   subst hS1
   have B:At g (C++R1) (j::R2) S1 (K0 b) [] j R2 o S1 q:=⟨rfl,ho,A.nX,A.cl,A.dn,by rw[aV];exact A.pr,by rw[aV];exact A.ef,rfl,A.go2⟩
   have hgl:(Ry g.ops o S1.1.tm).gl=g.st0.tm.gl:=(J.gl_eq B).1
   rw[HQ (SQ (ops:=g.ops))]at he
   refine lQ g.hG g.hX g.hcall hgl J.rh1 (J.rt1 B) (λi hi hd=>?_) he ?_
   .have:=g.D_lt J.nx0 hd.2
    omega
   .intro v w' hv
    obtain⟨s2,H2,J2⟩:=J.eff B hk hv
    exact next J2
theorem zO{F:Fence}{K:Exit->Act->World->Prop}{N:Act->World->Prop}{a:Act}{w:World}(hp: ∀ch a w,Q (.panic ch) a w->K (.panic ch) a w)(ho:LetsOut Q->LetsOut K)(h:wpOpIn F n P ops Q i N a w):wpOpIn F n P ops K i N a w:=by
 unfold wpOpIn at h⊢
 split
 .simp_all
 .rename_i o e
  rw[e]at h
  dsimp only at h
  split at h
  .rename_i hw
   rw[if_pos hw]
   refine⟨h.1,?_⟩
   have hh:=h.2
   generalize (o.semAt F.round a.eval).run P w=r at*
   cases r with
   | ok x w' =>
    cases x<;>simp only[Oper.uponIn]at hh⊢<;>
     first
      |exact hh
      |exact⟨hh.1,CallsIn.mono hh.2 (λe w'' he=>by cases e<;>first|exact he|exact hp _ _ _ he|exact ho he)⟩
      |exact⟨hh.1,RoundIn.mono hh.2 (λe w'' he=>by cases e<;>first|exact he|exact hp _ _ _ he|exact ho he)⟩
   | halt x w' =>
    cases x<;>simp only[Oper.uponIn]at hh⊢<;>
     first
      |exact hp _ _ _ hh
      |exact hh
  simp_all
theorem wM{P:Program}{E:B9}(hE:E.Ok P){call:Dq}(hcall:Na P gl call)(hlog:J4 call){l:Option Nat}{st:St}{s:Av}{w:World}{a:Act}(h:Hb E call ops st=some st')(hgl:st.tm.gl=gl)(hrel:Ir B s w st a)(hQ: ∀a' w',Iu B s w st st' a a' w'->Q .normal a' w'):
  wpAnyIn (FF l) 5 P .any ops Q ops.size (Array.replicate ops.size false) a {w with drawn:=w.drawn+1}:=by
 unfold Hb at h
 obtain⟨hreg,h⟩:=Hi h
 split at h
 .rename_i p hp
  cases h
  unfold Nr at hreg
  simp only[aD]at hreg
  obtain⟨⟨⟨⟨r1,r2⟩,r3⟩,r4⟩,r5⟩:=hreg
  subst hgl
  let g:D9 P:={E,call,ops,bf:=Region.before ops,ord:=Hv (Region.before ops) ops.size ops.toList 0 0,st0:=st,fin:=p,s0:=s,w0:=w,a0:=a,B,l,hG:=hE.G,hX:=hE.ext,hcall,hlog,edges:=r1,masks:=r2,pairs:=r3,uniq:=r4,cok:=r5,run:=hp,rel:=hrel}
  have hL:K0 (Array.replicate ops.size false)=λ_=>False:=funext λi=>propext ⟨λh=>by
   unfold K0 at h
   rw[fF,Array.getElem?_replicate]at h
   grind,False.elim⟩
  have kd:Er s w w.drew:=λ_ _=>rfl
  refine Vd g hQ ops.size _ [] g.ord (st,[]) s w.drew a st.H.get ?_ ?_ (by simp[g]) ?_
  .rw[hL]
   refine⟨rfl,rfl,λ_ h=>by simp at h,λ_ _ _ _ h=>h.elim,hrel.rt.1,λgi l hl=>RC.mono (Av.Le.refl s) kd _ _ _ (hrel.rt.2.2 gi l hl),λt _ x hx=>?_,λ_ _ _ _ h=>h.elim,hrel.rh.drew,λ_ _=>rfl,λ_ _ _ _ h=>h.elim,λi=>⟨λh=>.inl (.inl h),?_⟩,⟨[],rfl,(Br.refl s w []).drew⟩,?_⟩
   .obtain⟨v,hv,hr⟩:=hrel.rt.2.1 t x hx
    exact⟨v,hv,RV.mono (Av.Le.refl s) kd _ _ hr⟩
   .rintro((h|h)|⟨_,_,_,_,_,_,_,h,_⟩)
    all_goals grind
   .obtain⟨Ds,h1,h2,h3⟩:=hrel.df
    exact⟨Ds,h1,h2,h3⟩
  .rw[hL];exact λ_ _ h=>h.elim
  .have: ∀n,Ab (Array.replicate ops.size false) n<=n:=by
    intro n
    induction n with
    |zero=>simp[Ab]
    |succ n ih=>grind[Ab]
   grind
 .cases h
theorem yW{F:Fence}{P:Program}: ∀(f:Nat)(b:Array Bool)(a:Act)(w:World),wpAnyIn F n P .any ops Q f b a w->wpAnyIn F n P .any ops Q (f+1) b a w
 |0,b,a,w,h=>⟨λ_=>h.2,λi hi=>by rw[h.1]at hi;cases hi⟩
 |f+1,b,a,w,h=>⟨h.1,λi hi=>wpOpIn_mono (λa w=>yW f _ a w) (h.2 i hi)⟩
theorem zP{F:Fence}{P:Program}{f:Nat}{b:Array Bool}{a:Act}{w:World}(h:wpAnyIn F n P .any ops Q f b a w): ∀k,wpAnyIn F n P .any ops Q (k+f) b a w
 |0=>by simp_all
 |k+1=>by rw[Nat.add_right_comm];exact yW _ _ _ _ (zP h k)
def qA(F:Fence)(n:Nat)(P:Program)(ops:Array Oper)(Q:Exit->Act->World->Prop)(na nb:Nat):Exit->Act->World->Prop
 | .normal=>wpAnyIn F n P .any ops Q nb (Array.replicate na true++Array.replicate nb false)
 |e=>Q e
theorem UD{bA:Array Bool}{nb:Nat}{d:Bool}(h:i<bA.size):(bA++Array.replicate nb false).getD i d=bA.getD i d:=by
 simp_all[Array.getElem?_append]
structure DK(A ops:Array Oper)(na nb:Nat):Prop where
 sA:A.size=na
 s:ops.size=na+nb
 eq: ∀i,i<na->A[i]? =ops[i]?
 gd: ∀i o,i<na->ops[i]? =some o->o.guard=none
 ed:JC A=true
 aft: ∀i o,na<=i->ops[i]? =some o->∀k,k<na->∃e∈o.after,Region.binds .any e=true/\e.on=k
theorem cr{F:Fence}{P:Program}{A:Array Oper}{na nb:Nat}(S:DK A ops na nb): ∀(f:Nat)(bA:Array Bool)(a:Act)(w:World),bA.size=na->wpAnyIn F n P .any A (qA F n P ops Q na nb) f bA a w->wpAnyIn F n P .any ops Q (f+nb) (bA++Array.replicate nb false) a w:=by
 have fin: ∀(f:Nat)(bA:Array Bool)(a:Act)(w:World),bA.size=na->Region.ready .any A bA=[]->qA F n P ops Q na nb .normal a w->wpAnyIn F n P .any ops Q (f+nb) (bA++Array.replicate nb false) a w:=by
  intro f bA a w hb hr hq
  have hall:=xT (hb.trans S.sA.symm) S.ed hr
  have e:bA=Array.replicate na true:=by
   apply Array.ext
   .simp_all
   .intro i h1 h2
    have:=hall i (by rw[S.sA];omega)
    unfold K0 at this
    rw[Array.getElem_replicate]
    simp_all
  subst e
  exact zP hq f
 intro f
 induction f with
 |zero=>intro bA a w hb h;exact fin 0 bA a w hb h.1 h.2
 | succ f ih =>
  intro bA a w hb h
  by_cases hr:Region.ready .any A bA=[]
  .exact fin (f+1) bA a w hb hr (h.1 hr)
  .have sub: ∀i,i∈Region.ready .any A bA ->i<na/\i∈Region.ready .any ops (bA++Array.replicate nb false):=by
    intro i hi
    obtain⟨h1,o,h2,h3⟩:=mem_ready.1 hi
    have hlt:i<na:=by rw[<-S.sA];exact(bM.1 h2).1
    refine⟨hlt,mem_ready.2 ⟨by rw[UD o_];exact h1,o,by rw[<-S.eq i hlt];exact h2,λe he hbn=>?_⟩⟩
    have hl:=h3 e he hbn
    have:e.on<na:=fR (YT S.ed h2 he hbn) hlt
    rw[UD o_];exact hl
   have back: ∀i,i∈Region.ready .any ops (bA++Array.replicate nb false)->i∈Region.ready .any A bA:=by
    intro i hi
    obtain⟨h1,o,h2,h3⟩:=mem_ready.1 hi
    by_cases hlt:i<na
    .refine mem_ready.2 ⟨by rw[UD o_]at h1;exact h1,o,by rw[S.eq i hlt];exact h2,λe he hbn=>?_⟩
     have hl:=h3 e he hbn
     have:e.on<na:=by
      refine fR (YT S.ed (by rw[S.eq i hlt];exact h2) he hbn) hlt
     rw[UD o_]at hl;exact hl
    .exfalso
     have hlist: ∀k,k<na->bA.getD k false=true:=by
      intro k hk
      obtain⟨e,he,hbn,rfl⟩:=S.aft i o o_ h2 k hk
      have:=h3 e he hbn
      rw[UD o_]at this;exact this
     apply hr
     apply List.eq_nil_iff_forall_not_mem.2
     grind[mem_ready]
   rw[Nat.add_right_comm]
   refine⟨λh0=>absurd (List.eq_nil_iff_forall_not_mem.2 λi hi=>by simp_all) hr,λi hi=>?_⟩
   have hiA:=back i hi
   obtain⟨hlt,_⟩:=sub i hiA
   have hop:=h.2 i hiA
   have hset:(bA++Array.replicate nb false).setIfInBounds i true=bA.setIfInBounds i true++Array.replicate nb false:=by
    apply Array.ext_getElem?
    intro k
    simp only[Array.getElem?_setIfInBounds,Array.getElem?_append,Array.size_setIfInBounds,Array.size_append,Array.size_replicate]
    by_cases hk:i=k
    .grind
    .simp_all
   rw[hset]
   have h1:=wpOpIn_mono (λa w=>ih (bA.setIfInBounds i true) a w (by simpa using hb)) hop
   have h2:wpOpIn F n P A Q i (wpAnyIn F n P .any ops Q (f+nb) (bA.setIfInBounds i true++Array.replicate nb false)) a w:=zO (λch a w hq=>hq) (λ⟨a,w,hq⟩=>⟨a,w,hq⟩) h1
   unfold wpOpIn at h2⊢
   rw[S.eq i hlt]at h2
   cases ho:ops[i]? with
   |none=>simp_all
   |some o=>
    rw[ho]at h2
    have hg:=S.gd i o hlt ho
    grind[Region.wanted]
theorem ct{na:Nat}(h:kY ops na=true):DK (ops.extract 0 na) ops na (ops.size-na):=by
 unfold kY at h
 simp only[aD]at h
 obtain⟨⟨⟨h1,h2⟩,h3⟩,h4⟩:=h
 have h1:=aI h1
 refine⟨by simp;omega,o_,λi hi=>?_,λi o hi ho=>?_,h3,λi o hi ho k hk=>?_⟩
 .simp_all
 .have:=aO.1 h2 o (by grind)
  simpa using this
 .have:=SY h4 ho
  rw[bT]at this
  rcases this with hc|hc
  .exact absurd (aI hc) o_
  .have:=aO.1 hc k (bB.2 hk)
   grind[Nat.eq_of_beq_eq_true]
theorem lX: ∀(a b:T V),HN a b=true->a=b
 | .e,b,h=>by grind[HN]
 | .n l v r,b,h=>by
  cases b with
  |e=>simp[HN]at h
  |n l' v' r'=>
   simp only[HN,aD]at h
   rw[lX l l' h.1.1,lX r r' h.2]
   grind[Gd]
theorem Uk: ∀(a b:List (V×V×Nat)),KM a b=true->a=b
 |[],l,h=>by cases l<;>simp_all[KM]
 | x :: l, m, h => by
  cases m with
  |nil=>simp[KM]at h
  |cons y m=>
   obtain⟨x1,x2,x3⟩:=x
   obtain⟨y1,y2,y3⟩:=y
   simp only[KM,aD]at h
   rw[Uk l m h.2,Gd _ _ h.1.1.1,Gd _ _ h.1.1.2,aF h.1.2]
theorem HO{a b:Option O}(h:jP a b=true):a=b:=by
 unfold jP at h
 grind[Nat.eq_of_beq_eq_true,Ef,Uk]
def Ps(r q:St):Prop:=q.tm=r.tm/\q.nx=r.nx/\(∀i,q.H.get i=r.H.get i)/\∀x∈q.lg,x∈r.lg
theorem Ps.refl(r:St):Ps r r:=⟨rfl,rfl,λ_=>rfl,λ_ h=>h⟩
theorem Ps.trans{a b c:St}(h:Ps a b)(k:Ps b c):Ps a c:=⟨k.1.trans h.1,k.2.1.trans h.2.1,λi=>(k.2.2.1 i).trans (h.2.2.1 i),λx hx=>h.2.2.2 x (k.2.2.2 x hx)⟩
theorem cf{st r q:St}(hr:Bt st r)(hq:Bt st q)(h:Q3 st.nx r q=true):Ps r q:=by
 unfold Q3 at h
 simp only[aD,aO]at h
 obtain⟨⟨⟨⟨⟨⟨h1,h2⟩,h3⟩,h4⟩,h5⟩,h6⟩,h7⟩:=h
 have h1:=aF h1
 have h2:=aF h2
 refine⟨?_,o_,λi=>?_,λx hx=>by simp_all⟩
 .obtain⟨⟨a1,a2,a3⟩,_,_,_⟩:=r
  obtain⟨⟨b1,b2,b3⟩,_,_,_⟩:=q
  grind[lX,Nat.eq_of_beq_eq_true]
 .obtain⟨l1,e1,k1⟩:=hr
  obtain⟨l2,e2,k2⟩:=hq
  by_cases hi:i∈r.lg++q.lg
  .grind[HO]
  .rw[aL,not_or,e1,e2,aL,aL,not_or,not_or]at hi
   rw[k1.2 i hi.1.1 o_,k2.2 i hi.2.1 o_]
theorem Q1{E:B9}{call:Dq}{o:Oper}{st:St}(h:D1 E call ops [o] st=some st'):st'.tm.gl=st.tm.gl:=by
 grind[D1,Kz]
theorem vA{E:B9}(hE:E.Ok P){call:Dq}(hcall:Na P gl call)(hlog:J4 call){l:Option Nat}: ∀(f:Nat)(b:Array Bool)(st r:St)(s:Av)(w:World)(a:Act),Jh E call ops f b st=some r->st.tm.gl=gl->Ir B s w st a->
  (∀q,Ps r q->∀a' w',Iu B s w st q a a' w'->Q .normal a' w')->wpAnyIn (FF l) 5 P .any ops Q f b a w
 |0,b,st,r,s,w,a,h,hgl,hr,hQ=>by
  unfold Jh at h
  split at h
  .rename_i h0;cases h;exact⟨h0,hQ _ (Ps.refl _) a w ⟨_,_,E7.refl hr⟩⟩
  .cases h
 | f + 1, b, st, r, s, w, a, h, hgl, hr, hQ => by
  unfold Jh at h
  split at h
  .rename_i h0;cases h;exact⟨λ_=>hQ _ (Ps.refl _) a w ⟨_,_,E7.refl hr⟩,λi hi=>by simp_all⟩
  .rename_i i0 il h0
   split at h
   .rename_i r' hr'
    obtain⟨hall,h⟩:=Hi h
    cases h
    have lg: ∀{k q},(ops[k]?).bind (λo=>(D1 E call ops [o] st).bind (Jh E call ops f (b.setIfInBounds k true)))=some q->Bt st q:=λhq=>by
     obtain⟨o,_,hq⟩:=cH.1 hq
     obtain⟨st1,h1,h2⟩:=cH.1 hq
     exact(JL hlog _ _ _ h1).trans (oI hlog f _ _ _ h2)
    have one: ∀k∈i0::il,∃q,(ops[k]?).bind (λo=>(D1 E call ops [o] st).bind (Jh E call ops f (b.setIfInBounds k true)))=some q/\Ps r q:=λk hk=>by
     grind[Ps.refl,cf]
    refine⟨λh1=>(by simp_all),λk hk=>?_⟩
    obtain⟨q,hq,hs⟩:=one k (by simp_all)
    obtain⟨o,ho,hq⟩:=cH.1 hq
    obtain⟨st1,h1,h2⟩:=cH.1 hq
    have key:=SF hE.G hE.ext hcall (ops:=ops) (l:=l) (B:=B) (Q:=λe=>match e with| .normal=>wpAnyIn (FF l) 5 P .any ops Q f (b.setIfInBounds k true)|e=>Q e) [o] k st st1 s w a (λj hj=>by
     simp_all) h1 hgl hr (λa' w'⟨_,s',W⟩=>vA hE hcall hlog f _ st1 q s' w' a' h2 ((Q1 h1).trans hgl) W.rel λq' hs' a'' w''⟨_,_,W2⟩=>hQ q' (hs.trans hs') a'' w'' ⟨_,_,W.trans W2⟩)
    assumption
   .cases h
theorem Us{E:B9}{call:Dq}{st:St}(h:Hb E call ops st=some st'):st'.tm.gl=st.tm.gl:=by
 unfold Hb at h
 obtain⟨_,h⟩:=Hi h
 split at h
 .rename_i p hp;cases h;exact(Dv hp).1
 .cases h
theorem HU{E:B9}(_:E.Ok P){call:Dq}(_:Na P gl call)(_:J4 call){l:Option Nat}{s:Av}{w:World}{a:Act}{st:St}(h:jU E call ops st=some st')(_:st.tm.gl=gl)(_:Ir B s w st a)(_: ∀a' w',Iu B s w st st' a a' w'->Q .normal a' w'):wpAnyIn (FF l) 5 P .any ops Q ops.size (Array.replicate ops.size false) a {w with drawn:=w.drawn+1}:=by
 cases h
theorem uM{E:B9}(hE:E.Ok P)(hm:P.follows .mixedOrders=true):V9 P E:=by
 intro gl call hcall hlog ops l B id Q st st' s w a h hgl hrel hQ
 refine wpIn_region_any hm ?_
 unfold LG at h
 split at h
 .grind[wM]
 .split at h
  .rename_i st2 h
   cases ‹some st2=some st'›
   unfold Tk at h
   obtain⟨hb,h⟩:=Hi h
   split at h
   .rename_i st1 h1
    split at h
    .rename_i r hr
     cases h
     have S:=ct hb
     have k1:=wM hE hcall hlog h1 hgl hrel (l:=l) (Q:=qA (FF l) 5 P ops Q (ops.size-3) (ops.size-(ops.size-3))) (λa' w'⟨lg,s',W⟩=>by
      refine vA hE hcall hlog (l:=l) (B:=B) (Q:=Q) _ _ ⟨st1.tm,st1.H,st1.nx,[]⟩ r s' w' a' hr ((Us h1).trans hgl) ⟨W.rel.rh,W.rel.rt,W.rel.nx,W.rel.df⟩ (λq⟨q1,q2,q3,q4⟩ a'' w''⟨lg2,s2,W2⟩=>?_)
      have e3:r.H.get=q.H.get:=funext λi=>(q3 i).symm
      have k1:=W2.rel.rt
      have k2:=W2.rel.nx
      have k3:=W2.dom
      have k4:=W2.le
      have k5:=W2.log
      rw[q1]at k1
      rw[q2]at k2 k3 k4
      rw[aV]at k5
      exact hQ a'' w'' ⟨_,s2,W.trans (st2:=⟨r.tm,r.H,r.nx,r.lg++st1.lg⟩) (m:=r.lg) ⟨⟨by rw[e3];exact W2.rel.rh,k1,k2,W2.rel.df⟩,W2.step.more (λx hx=>q4 x (by simp_all)),k3,k4,rfl⟩⟩)
     have k2:=cr S _ (Array.replicate (ops.extract 0 (ops.size-3)).size false) a _ s_ k1
     simp_all
    .cases h
   .cases h
  .exact HU hE hcall hlog h hgl hrel hQ
theorem pT{E:B9}(hE:E.Ok P)(hm:P.follows .mixedOrders=true): ∀n,G0 P E n:=nO hE (uM hE hm)
variable {P:Program}
def RG:TypeDesc->Bool
 | .struct _| .array _ _=>true
 | _=>false
def P3(agg:Bool)(size:Nat):Value->Option (List V)
 | .agg l=>bif agg&&Nat.beq l.size size then Fv l.toList else none
 | .tuple _=>none
 |v=>bif !agg&&Nat.beq 1 size then(match Iz v with|some x=>some [x]|none=>none)else none
def NT(P:Program)(t:Nat):Option TI:=
 match P.info? t,P.underlying t with
 |some i,some d=>some {desc:=d,size:=i.size,bytes:=i.bytes,agg:=RG d,zero:=match i.zero with|some v=>P3 (RG d) i.size v|none=>none}
 | _,_=>none
def Gn:TypeDesc->Option Bool
 | .int _=>some true
 | .bool=>some false
 | _=>none
def Ka(P:Program):Nat->List Field->Option (List Bool)
 | _,[]=>some []
 | i, f :: fs => match P.underlying f.type with
  |some d=>match Gn d,Ka P (i+1) fs with
   |some b,some l=>bif !decide (f.name= "_")&&Nat.beq f.offset i then some (b::l)else none
   | _,_=>none
  |none=>none
def lN(P:Program)(t:Nat):Option (List Bool):=
 match P.underlying t with
 |some (.struct fs)=>bif !P.stoodInHeld t&& !P.eqGuardType P.depth t then Ka P 0 fs.toList else none
 | some (.array n e) => match P.info? e, P.underlying e with
  |some i,some d=>match Gn d with
   |some b=>bif Nat.beq i.size 1&& !P.eqGuardType P.depth t then some (List.replicate n b)else none
   |none=>none
  | _,_=>none
 | _=>none
def Gt(P:Program)(f:Nat):Option FI:=
 match P.funcs[f]? with
 |some fn=>match fn.body with
  |some b=>some ⟨b,fn.ntmps,fn.results.toList⟩
  |none=>none
 |none=>none
def B1(P:Program):Ca:=⟨NT P,lN P⟩
theorem fy{agg:Bool}{size:Nat}{v:Value}{z:List V}(h:P3 agg size v=some z):v.cells.size=size/\(∀s w,RL s w z v.cells.toList)/\∀s w,RV s w (zv agg z) v:=by
 unfold P3 at h
 split at h
 .obtain⟨hb,k⟩:=Hi h
  simp only[aD]at hb
  obtain⟨rfl,hb⟩:=hb
  exact⟨aF hb,λs w=>E3 k,λs w=>⟨_,rfl,E3 k⟩⟩
 .cases h
 .rename_i hv1 hv2
  obtain⟨hb,k⟩:=Hi h
  clear h
  simp only[aD,bI]at hb
  obtain⟨rfl,hb⟩:=hb
  split at k
  .rename_i x hx
   cases k
   have hc:v.cells= #[v]:=by
    cases v<;>first|rfl|exact(hv1 _ rfl).elim
   rw[hc]
   exact⟨aF hb,λs w=>⟨v,[],rfl,Ga hx,rfl⟩,λs w=>Ga hx⟩
  .cases k
theorem XU{t:TypeId}{td:TypeDesc}{b:Bool}{ks:List Bool}(hu:P.underlying t=some td)(hk:Gn td=some b)(h:Lk (b::ks) (xs.toList.drop i) (ys.toList.drop i)=true):
  ∃x y r,(∀w,(part t xs i).run P w= .ok x w)/\(∀w,(part t ys i).run P w= .ok y w)/\(∀w,(Op.equalIn (d+1) t x y).run P w= .ok r w)/\(r=true↔x=y)/\xs.toList.drop i=x::xs.toList.drop (i+1)/\ys.toList.drop i=y::ys.toList.drop (i+1)/\Lk ks (xs.toList.drop (i+1)) (ys.toList.drop (i+1))=true:=by
 have hp:P.plainKey t=true:=by
  unfold Program.plainKey
  rw[hu]
  unfold Gn at hk
  split at hk<;>first|rfl|cases hk
 have cut: ∀{zs:Array Value}{z:Value}{rest:List Value},zs.toList.drop i=z::rest->zs[i]? =some z/\rest=zs.toList.drop (i+1):=by
  intro zs z rest e
  have h0:=congrArg (·[0]?) e
  simp only[List.getElem?_drop,dE,List.getElem?_cons_zero]at h0
  refine⟨by simpa using h0,?_⟩
  have:=congrArg (·.drop 1) e
  simpa [List.drop_drop]using this.symm
 generalize hx:xs.toList.drop i=lx at h
 generalize hy:ys.toList.drop i=ly at h
 unfold Lk at h
 split at h
 .trivial
 .rename_i ks' k a xs' k' b' ys' e
  cases e
  simp only[aD,beq_iff_eq]at h
  obtain⟨rfl,h⟩:=h
  obtain⟨x1,rfl⟩:=cut hx
  obtain⟨y1,rfl⟩:=cut hy
  unfold Gn at hk
  split at hk
  .rename_i q
   exact⟨_,_,a==b',λw=>run_part_plain w hp x1,λw=>run_part_plain w hp y1,λw=>run_equalIn_int w d t k q a b' hu,by simp,rfl,rfl,h⟩
  all_goals trivial
 .rename_i ks' a xs' b' ys' e
  cases e
  obtain⟨x1,rfl⟩:=cut hx
  obtain⟨y1,rfl⟩:=cut hy
  unfold Gn at hk
  split at hk
  .cases hk
  .exact⟨_,_,a==b',λw=>run_part_plain w hp x1,λw=>run_part_plain w hp y1,λw=>run_equalIn_bool w d t a b' hu,by simp,rfl,rfl,h⟩
  .cases hk
 .cases h
theorem sM{xs ys:List Value}(h:Lk [] xs ys=true):xs=ys:=by
 grind[Lk]
theorem yD{d:Nat}{xs ys:Array Value}(w:World): ∀{fs:List Field}{i:Nat}{ks:List Bool},Ka P i fs=some ks->Lk ks (xs.toList.drop i) (ys.toList.drop i)=true->∃b:Bool,(Op.eqFields (d+1) xs ys fs).run P w= .ok b w/\(b=true↔xs.toList.drop i=ys.toList.drop i)
 |[],i,ks,h,hs=>by
  cases h
  exact⟨true,by trivial,by simp[sM hs]⟩
 | f :: fs, i, ks, h, hs => by
  unfold Ka at h
  split at h
  .rename_i td hu
   split at h
   .rename_i b l hk hl
    obtain⟨hb,h⟩:=Hi h
    cases h
    simp only[aD,bI,decide_eq_false_iff_not]at hb
    have ho:=aF hb.2
    obtain⟨x,y,r,p1,p2,p3,p4,e1,e2,hs'⟩:=XU (d:=d) hu hk hs
    obtain⟨b',q1,q2⟩:=yD (d:=d) w hl hs'
    rw[<-ho]at p1 p2
    simp only[Op.eqFields,ne_eq,hb.1,not_false_eq_true,if_true,Sem.run_bind,p1,p2,p3,Result.andThen_ok]
    rw[e1,e2,cT,<-p4,<-q2]
    cases r with
    |false=>simp
    |true=>simp_all
   .cases h
  .cases h
theorem xW{e:Nat}{td:TypeDesc}{b:Bool}(hu:P.underlying e=some td)(hk:Gn td=some b)(w:World): ∀(n i:Nat),Lk (List.replicate n b) (xs.toList.drop i) (ys.toList.drop i)=true->∃r:Bool,(Op.eqItems (d+1) e 1 xs ys (List.range' i n)).run P w= .ok r w/\(r=true↔xs.toList.drop i=ys.toList.drop i)
 |0,i,hs=>⟨true,by trivial,by simp[sM hs]⟩
 |n+1,i,hs=>by
  obtain⟨x,y,r,p1,p2,p3,p4,e1,e2,hs'⟩:=XU (d:=d) hu hk (by assumption)
  obtain⟨b',q1,q2⟩:=xW hu hk w n (i+1) hs'
  rw[dX]
  simp only[Op.eqItems,Nat.mul_one,Sem.run_bind,p1,p2,p3,Result.andThen_ok]
  rw[e1,e2,cT,<-p4,<-q2]
  cases r with
  |false=>simp
  |true=>exact⟨b',by simpa using q1,by simp⟩
theorem a9{b:Bool}(w:World): ∀{fs:List Field}{i:Nat}{ks:List Bool},Ka P i fs=some ks->Lk ks (xs.toList.drop i) (xs.toList.drop i)=true->∀f∈fs,f.name≠ "_"/\∃v,(part f.type xs f.offset).run P w= .ok v w/\(Instr.checkKey b (n+1) f.type v).run P w= .ok () w
 |[],i,ks,h,hs,f,hf=>by cases hf
 | g :: fs, i, ks, h, hs, f, hf => by
  unfold Ka at h
  split at h
  .rename_i td hu
   split at h
   .rename_i bb l hk hl
    obtain⟨hb,h⟩:=Hi h
    cases h
    simp only[aD,bI,decide_eq_false_iff_not]at hb
    have ho:=aF hb.2
    obtain⟨x,y,r,p1,p2,p3,p4,e1,e2,hs'⟩:=XU (d:=0) hu hk hs
    rcases aK.1 hf with rfl|hf
    .refine⟨hb.1,x,by simp_all,?_⟩
     have hund:(underlying f.type).run P w= .ok td w:=run_underlying hu w
     unfold Gn at hk
     split at hk
     .simp[Instr.checkKey,hund]
     all_goals simp_all[Instr.checkKey]
    .exact a9 w hl hs' f hf
   .cases h
  .cases h
theorem a7{b:Bool}{m:Nat}{e:Nat}{td:TypeDesc}{bb:Bool}(hu:P.underlying e=some td)(hk:Gn td=some bb)(w:World): ∀(n i:Nat),Lk (List.replicate n bb) (xs.toList.drop i) (xs.toList.drop i)=true->∀j∈List.range' i n,∃v,(part e xs j).run P w= .ok v w/\(Instr.checkKey b (m+1) e v).run P w= .ok () w
 |0,i,hs,j,hj=>by simp at hj
 | n + 1, i, hs, j, hj => by
  obtain⟨x,y,r,p1,p2,p3,p4,e1,e2,hs'⟩:=XU (d:=0) hu hk (by assumption)
  rw[dX]at hj
  rcases aK.1 hj with rfl|hj
  .refine⟨x,p1 w,?_⟩
   have hund:(underlying e).run P w= .ok td w:=run_underlying hu w
   unfold Gn at hk
   split at hk
   .simp[Instr.checkKey,hund]
   all_goals simp_all[Instr.checkKey]
  .exact a7 hu hk w n (i+1) hs' j hj
theorem IC(P:Program):(B1 P).Ok P:=by
 refine⟨λt i h=>?_,λt ks h xs ys w hs=>?_,λt ks h b xs w hs=>?_⟩
 .unfold B1 NT at h
  dsimp only at h
  split at h
  .rename_i f d hf hd
   cases h
   refine⟨f,hf,hd,rfl,rfl,by cases d<;>rfl,λz hz=>?_⟩
   grind[fy]
  .cases h
 .unfold B1 lN at h
  dsimp only at h
  split at h
  .rename_i fs hu
   obtain⟨hb,h⟩:=Hi h
   simp only[aD,bI]at hb
   refine⟨hb.2,?_⟩
   obtain⟨b,h1,h2⟩:=yD (d:=9998) w h (xs:=xs) (ys:=ys) (by simpa using hs)
   refine⟨b,?_,by simpa using h2⟩
   have hfs:P.fieldsOf t=fs:=by simp[Program.fieldsOf,hu]
   have:=run_equalIn_struct w 9999 t xs ys (by simp_all) hb.1
   rw[hfs]at this
   exact this.trans h1
  .rename_i n e hu
   split at h
   .rename_i i d hi hd
    split at h
    .rename_i b hk
     obtain⟨hb,h⟩:=Hi h
     cases h
     simp only[aD,bI]at hb
     refine⟨hb.2,?_⟩
     obtain⟨r,h1,h2⟩:=xW (d:=9998) hd hk w n 0 (xs:=xs) (ys:=ys) (by simpa using hs)
     refine⟨r,?_,by simpa using h2⟩
     have hc:P.cellsOf e=1:=by simp[Program.cellsOf,hi,aF hb.1]
     have:=run_equalIn_array w 9999 xs ys hu hi
     rw[hc,dP]at this
     exact this.trans h1
    .cases h
   .cases h
  .cases h
 .unfold B1 lN at h
  dsimp only at h
  split at h
  .rename_i fs hu
   obtain⟨hb,h⟩:=Hi h
   have hall:=a9 (b:=b) (n:=9998) w h (by simpa using hs)
   rw[show(10000:Nat)=9999+1 from rfl,Instr.checkKey]
   simp only[Sem.run_bind,run_underlying hu,Result.andThen_ok]
   rw[<-Array.forIn_toList]
   generalize fs.toList=L at hall
   induction L with
   |nil=>simp
   |cons f L ih=>
    grind[Sem.run_bind,Result.andThen_ok,Sem.run_pure]
  .rename_i n e hu
   split at h
   .rename_i i d hi hd
    split at h
    .rename_i bb hk
     obtain⟨hb,h⟩:=Hi h
     cases h
     simp only[aD,bI]at hb
     have hsz:P.cellsOf e=1:=by simp[Program.cellsOf,hi,aF hb.1]
     have hall:=a7 (b:=b) (m:=9998) hd hk w n 0 (xs:=xs) (by simpa using hs)
     rw[show(10000:Nat)=9999+1 from rfl,Instr.checkKey]
     simp only[Sem.run_bind,run_underlying hu,Result.andThen_ok]
     simp only[Std.Legacy.Range.forIn_eq_forIn_range',Std.Legacy.Range.size,cO,Nat.add_one_sub_one,Nat.div_one]
     generalize List.range' 0 n=L at hall
     induction L with
     |nil=>simp
     |cons j L ih=>
      obtain⟨v,p1,p2⟩:=hall j s_
      simp_all[run_sizeOf]
    .cases h
   .cases h
  .cases h
def pQ(P:Program):Bool:=P.funcs.toList.all λfn=> !(fn.name== "runtime.NumGoroutine")
theorem nS(hp:pQ P=true){f:Nat}{fi:FI}(h:Gt P f=some fi): ∃fn,P.funcs[f]? =some fn/\fn.body=some fi.body/\fn.ntmps=fi.ntmps/\fn.results.toList=fi.res/\∀ars w,(callFunc f ars).run P w= .ok (.enter f ars) w:=by
 unfold Gt at h
 split at h
 .rename_i fn hf
  split at h
  .rename_i b hb
   cases h
   refine⟨fn,hf,hb,rfl,rfl,λars w=>?_⟩
   have:(fn.name== "runtime.NumGoroutine")=false:=by
    have:=aO.1 hp fn (Array.mem_toList_iff.2 (Array.mem_of_getElem? hf))
    simpa using this
   simp_all[callFunc]
  .cases h
 .cases h
abbrev Et:=Nat->List V->T O->T (List V)->Option V
def RW(P:Program)(hook:Et)(ext:Nat->List V->Option V):B9:=⟨B1 P,Gt P,hook,ext⟩
def Lg(P:Program)(hook:Et):Prop:=
 ∀f ars H gl v,hook f ars H gl=some v->∀(s:Av)(w:World)(vals:Array Value),RL s w ars vals.toList->RH s w H.get->GL s w gl->∀nx,(∀i,nx<=i->¬s.dom i)->
  (callFunc f vals).run P w= .ok (.enter f vals) w/\Calls P f vals w (Ge s w nx ⟨v,H,nx,[]⟩)
theorem Ty{s:Av}{w:World}{H:T O}{v:V}{e:Ending}(hH:RH s w H.get)(h: ∃u,e= .returned u/\Below w.heap.size w w'/\∀s' w'',RV s' w'' v u):Ge s w nx ⟨v,H,nx,[]⟩ e w':=by
 obtain⟨u,rfl,hb,hu⟩:=h
 obtain⟨r1,r2⟩:=hH.below hb
 exact⟨u,s,rfl,hu _ _,r1,r2,Cp s _,aC _⟩
def uY(P:Program)(ext:Nat->List V->Option V):Prop:=∀f l v,ext f l=some v->∀(s:Av)(w:World)(vals:Array Value),RL s w l vals.toList->∃u,(callFunc f vals).run P w= .ok (.value u) w/\RV s w v u
theorem WS(hp:pQ P=true){hook:Et}(hh:Lg P hook){ext:Nat->List V->Option V}(he:uY P ext):(RW P hook ext).Ok P:=
 ⟨IC P,λ_ _ h=>nS hp h,he,hh⟩
def WK:Et:=λ_ _ _ _=>none
theorem oS:Lg P WK:=λ_ _ _ _ _ h=>by cases h
def sg(fz:Nat->Prop):Av:=⟨λ_=>0,λ_=>0,λ_=>False,fz,λ_=>False⟩
theorem PG{s:Av}{w:World}:GL s w .e:=λ_ _ h=>by simp at h
def Mx:Nat->Nat->List Bool
 |0,_=>[]
 |f+1,i=>bif Nat.beq i 0 then[]else bif Nat.beq (i%2) 1 then true::Mx f (i/2)else false::Mx f (i/2-1)
def rG(i:Nat):List Bool:=Mx (i+1) i
noncomputable def QA(p:List Bool):T α->Option α:=
 List.rec (motive:=λ_=>T α->Option α) (λt=>T.rec (motive:=λ_=>Option α) none (λ_ v _ _ _=>v) t)
  (λb _ ih t=>T.rec (motive:=λ_=>Option α) none (λl _ r _ _=>Bool.rec (motive:=λ_=>Option α) (ih r) (ih l) b) t) p
noncomputable def OU(x:Option α)(p:List Bool):T α->T α:=
 List.rec (motive:=λ_=>T α->T α) (λt=>T.rec (motive:=λ_=>T α) (.n .e x .e) (λl _ r _ _=>.n l x r) t)
  (λb _ ih t=>T.rec (motive:=λ_=>T α) (Bool.rec (motive:=λ_=>T α) (.n .e none (ih .e)) (.n (ih .e) none .e) b) (λl v r _ _=>Bool.rec (motive:=λ_=>T α) (.n l v (ih r)) (.n (ih l) v r) b) t) p
theorem mX: ∀(f:Nat)(t:T α)(i:Nat),i<f->QA (Mx f i) t=t.get i
 |0,_,_,h=>absurd h (aJ _)
 | f + 1, t, i, h => by
  unfold Mx
  cases t with
  |e=>cases Nat.beq i 0<;>cases Nat.beq (i%2) 1<;>rfl
  | n l v r =>
   have h1:=mX f l (i/2)
   have h2:=mX f r (i/2-1)
   unfold T.get
   cases hb:Nat.beq i 0 with
   |true=>rfl
   |false=>
    have hi:i≠0:=λe=>by subst e;cases hb
    cases Nat.beq (i%2) 1 with
    |true=>exact h1 o_
    |false=>exact h2 o_
theorem TK(x:Option α): ∀(f:Nat)(t:T α)(i:Nat),i<f->OU x (Mx f i) t=T.set f t i x
 |0,_,_,h=>absurd h (aJ _)
 | f + 1, t, i, h => by
  unfold Mx
  cases t with
  | e =>
   have h1:=TK x f .e (i/2)
   have h2:=TK x f .e (i/2-1)
   unfold T.set
   cases hb:Nat.beq i 0 with
   |true=>rfl
   |false=>
    have hi:i≠0:=λe=>by subst e;cases hb
    cases Nat.beq (i%2) 1 with
    |true=>exact congrArg (λz=>T.n z none .e) (h1 o_)
    |false=>exact congrArg (λz=>T.n .e none z) (h2 o_)
  | n l v r =>
   have h1:=TK x f l (i/2)
   have h2:=TK x f r (i/2-1)
   unfold T.set
   cases hb:Nat.beq i 0 with
   |true=>rfl
   |false=>
    have hi:i≠0:=λe=>by subst e;cases hb
    cases Nat.beq (i%2) 1 with
    |true=>exact congrArg (λz=>T.n z v r) (h1 o_)
    |false=>exact congrArg (λz=>T.n l v z) (h2 o_)
noncomputable def gt(t:T α)(i:Nat):Option α:=QA (rG i) t
noncomputable def pt(t:T α)(i:Nat)(x:α):T α:=OU (some x) (rG i) t
theorem Cm(t:T α)(i:Nat):gt t i=t.get i:=mX _ t i (dH i)
theorem Bh(t:T α)(i:Nat)(x:α):pt t i x=t.put i x:=TK _ _ t i (dH i)
noncomputable def Jx:TM->Option Nat->V->TM
 |⟨sl,gl,n⟩,some i,x=>bif Nat.blt i n then⟨pt sl i x,gl,n⟩else⟨sl,gl,n⟩
 |t,none,_=>t
theorem DV(t:TM)(d:Option Nat)(x:V):Jx t d x=t.put d x:=by
 cases d with
 |none=>cases t;rfl
 |some i=>
  cases t with
  |mk sl gl n=>unfold Jx TM.put;dsimp only;rw[Bh]
noncomputable def Ud(gl:T (List V))(i:Nat):Option V:=match gt gl i with|some l=>some (.imp l)|none=>none
noncomputable def Cy(tm:TM):Operand->Option V
 | .tmp t=>gt tm.sl t
 | .const v=>Nw v
 | .func f=>some (.fn f [])
 | .global i=>Ud tm.gl i
theorem Bv(tm:TM)(x:Operand):Cy tm x=ev tm x:=by
 cases x with
 |tmp t=>exact Cm _ _
 |const v=>rfl
 |func f=>rfl
 |global i=>show Ud tm.gl i=_;unfold Ud;rw[Cm];rfl
def Dj:Nat->List V->Option (List V)
 |0,_=>some []
 | _+1,[]=>none
 |n+1,x::c=>match Dj n c with|some l=>some (x::l)|none=>none
theorem vN: ∀(n:Nat)(c:List V),Dj n c=bif Nat.ble n c.length then some (c.take n)else none
 |0,c=>by cases c<;>rfl
 |n+1,[]=>rfl
 |n+1,x::c=>by
  unfold Dj
  rw[vN n c,bZ]
  have:Nat.ble (n+1) (c.length+1)=Nat.ble n c.length:=rfl
  rw[this]
  cases Nat.ble n c.length<;>rfl
def KJ:List V->List V->Option (List V)
 |c,[]=>some c
 |[],_:: _=>none
 | _::c,x::xs=>match KJ c xs with|some l=>some (x::l)|none=>none
def Bg:Nat->List V->List V->Option (List V)
 |0,c,xs=>KJ c xs
 | _+1,[],_=>none
 |n+1,y::c,xs=>match Bg n c xs with|some l=>some (y::l)|none=>none
theorem Tj: ∀(c xs:List V),KJ c xs=bif Nat.ble xs.length c.length then some (xs++c.drop xs.length)else none
 |c,[]=>by cases c<;>rfl
 |[],_:: _=>rfl
 |y::c,x::xs=>by
  unfold KJ
  rw[Tj c xs,bZ,bZ]
  have:Nat.ble (xs.length+1) (c.length+1)=Nat.ble xs.length c.length:=rfl
  rw[this]
  cases Nat.ble xs.length c.length<;>rfl
theorem YP: ∀(n:Nat)(c xs:List V),Bg n c xs=bif Nat.ble (n+xs.length) c.length then some (c.take n++xs++c.drop (n+xs.length))else none
 |0,c,xs=>by
  unfold Bg
  rw[Tj];simp
 |n+1,[],xs=>by
  unfold Bg
  have:Nat.ble (n+1+xs.length) 0=false:=by rw[show n+1+xs.length=(n+xs.length)+1 by omega];rfl
  simp[this]
 |n+1,y::c,xs=>by
  unfold Bg
  rw[YP n c xs,bZ]
  have:Nat.ble (n+1+xs.length) (c.length+1)=Nat.ble (n+xs.length) c.length:=by rw[show n+1+xs.length=(n+xs.length)+1 by omega];rfl
  rw[this]
  have h2:n+1+xs.length=(n+xs.length)+1:=o_
  cases Nat.ble (n+xs.length) c.length<;>simp[h2]
theorem mO(n:Nat)(c xs:List V):Bg n c xs=bif Nat.ble (n+xs.length) c.length then some (ov c n xs)else none:=by
 rw[YP]
 cases hb:Nat.ble (n+xs.length) c.length with
 |false=>rfl
 |true=>rw[cond_true,cond_true,Sg xs c n (aI hb)]
def Af:Nat->List V->List V
 |0,c=>c
 | _+1,[]=>[]
 |n+1,_::c=>Af n c
theorem Om: ∀(n:Nat)(c:List V),Af n c=c.drop n
 |0,c=>by simp[Af]
 | _+1,[]=>rfl
 |n+1,_::c=>by simp[Af,Om n c]
def Ae:List V->Option V
 |[]=>none
 |x:: _=>some x
def Z9(c:List V)(n:Nat):Option V:=match Dj n c with|some l=>some (.agg l)|none=>none
def H7(i:TI)(c:List V):Option V:=bif i.agg then Z9 c i.size else Ae c
theorem YO(i:TI)(c:List V):H7 i c=E4 i c:=by
 unfold H7 E4 Z9
 rw[vN]
 cases i.agg with
 |true=>cases Nat.ble i.size c.length<;>rfl
 |false=>cases c<;>rfl
abbrev Hh:=Option (V×List Nat)
noncomputable def IX(tm:TM)(x:Operand):Hh:=match Cy tm x with|some v=>some (v,[])|none=>none
noncomputable def Oc(tm:TM)(c a b:Operand):Hh:=match Cy tm c,Cy tm a,Cy tm b with
  |some (.bool t),some x,some y=>some (bif t then x else y,[])
  | _,_,_=>none
def tL(ti:TI)(h off:Nat):Option O->Hh
 |some (.row _ _ c)=>match H7 ti (Af off c)with|some v=>some (v,[h])|none=>none
 | _=>none
noncomputable def loadAt(H:T O)(ti:TI):Option V->Hh
 |some (.ptr h off)=>tL ti h off (gt H h)
 |some (.imp l)=>match H7 ti l with|some v=>some (v,[])|none=>none
 | _=>none
noncomputable def RY(G:Ca)(tm:TM)(H:T O)(t:Nat)(x:Operand):Hh:=match G.ty t with
 |some ti=>loadAt H ti (Cy tm x)
 |none=>none
noncomputable def AG(tm:TM)(x:Operand):Hh:=match Cy tm x with
  |some (.ptr h off)=>some (.ptr h off,[])
  |some (.imp l)=>some (.imp l,[])
  |some (.fn f l)=>some (.fn f l,[])
  | _=>none
noncomputable def AH(G:Ca)(tm:TM)(op:BinOp)(t:Nat)(x y:Operand):Hh:=match Cy tm x,Cy tm y with
  |some a,some b=>match B6 G op t a b with|some v=>some (v,[])|none=>none
  | _,_=>none
noncomputable def WB(tm:TM)(op:UnOp)(x:Operand):Hh:=match Cy tm x with
  |some a=>match UV op a with|some v=>some (v,[])|none=>none
  |none=>none
noncomputable def Oe(G:Ca)(tm:TM)(src dst:Nat)(x:Operand):Hh:=match G.ty src,G.ty dst,Cy tm x with
  |some _,some {desc:=.int k,.. },some (.int _ n)=>some (.int k (wr k n),[])
  | _,_,_=>none
noncomputable def ZF(G:Ca)(tm:TM)(t f:Nat)(x:Operand):Hh:=match Cy tm x with
  |some a=>match Ku G t f a with|some v=>some (v,[])|none=>none
  |none=>none
noncomputable def WZ(G:Ca)(tm:TM)(t f:Nat)(x:Operand):Hh:=match Cy tm x with
  |some a=>match Zg G t f a with|some v=>some (v,[])|none=>none
  |none=>none
noncomputable def ZL(G:Ca)(tm:TM)(t:Nat)(x i:Operand):Hh:=match Cy tm x,Cy tm i with
  |some a,some (.int _ n)=>match Gs G t a n with|some v=>some (v,[])|none=>none
  | _,_=>none
noncomputable def WY(G:Ca)(tm:TM)(t:Nat)(x i:Operand):Hh:=match Cy tm x,Cy tm i with
  |some a,some (.int _ n)=>match Jw G t a n with|some v=>some (v,[])|none=>none
  | _,_=>none
noncomputable def M5(tm:TM):Option Operand->Option (Option Int)
  |none=>some none
  |some x=>match Cy tm x with
   |some (.int _ n)=>some (some n)
   | _=>none
noncomputable def WX(G:Ca)(tm:TM)(t:Nat)(x:Operand)(l h m:Option Operand):Hh:=match Cy tm x,M5 tm l,M5 tm h,M5 tm m with
  |some a,some l,some h,some m=>match Ce G t a l h m with|some v=>some (v,[])|none=>none
  | _,_,_,_=>none
noncomputable def YY(tm:TM)(x:Operand)(i:Nat):Hh:=match Cy tm x with
  |some a=>match Zm a i with|some v=>some (v,[])|none=>none
  |none=>none
noncomputable def Zh(tm:TM):List (Nat×Operand)->Option (List (Nat×V))
 |[]=>some []
 |(i,x)::xs=>match Cy tm x,Zh tm xs with
  |some v,some vs=>some ((i,v)::vs)
  | _,_=>none
noncomputable def Jy(tm:TM):List Operand->Option (List V)
 |[]=>some []
 |x::xs=>match Cy tm x,Jy tm xs with
  |some v,some vs=>some (v::vs)
  | _,_=>none
noncomputable def XA(G:Ca)(tm:TM)(t:Nat)(ps:Array (Nat×Operand)):Hh:=match Zh tm ps.toList with
  |some l=>match Kw G t l with|some v=>some (v,[])|none=>none
  |none=>none
noncomputable def yU(tm:TM)(f:Nat)(fs:List (Operand))(cs:List Operand):Hh:=match fs,cs with
  |[],cs'=>match Jy tm cs' with|some l=>some (.fn f l,[])|none=>none
  |x::fs',[]=>match Jy tm (x::fs')with|some l=>some (.mfn f l,[])|none=>none
  | _:: _,_:: _=>none
noncomputable def XY(G:Ca)(tm:TM)(H:T O)(t:Nat)(x i:Operand)(ok:Bool):Hh:=match Cy tm x,Cy tm i with
  |some a,some k=>Te G H.get t a k ok
  | _,_=>none
noncomputable def RJ(G:Ca)(tm:TM)(H:T O)(t:Nat)(x:Operand):Hh:=match Cy tm x with
   |some a=>match Lt G H.get t a with|some (n,rd)=>some (.int .i64 n,rd)|none=>none
   |none=>none
noncomputable def IQ(tm:TM)(mx:Bool)(x:Operand)(l:List Operand):Hh:=match Cy tm x,Jy tm l with
   |some (.int k n),some l=>match O2 mx k n l with|some v=>some (v,[])|none=>none
   | _,_=>none
noncomputable def LP(G:Ca)(tm:TM)(H:T O)(c:Call):Hh:=match c.callee,c.args.toList,c.argTypes.toList with
  | .builtin .len,[x],[t]=>RJ G tm H t x
  | .builtin .max,x::l,_=>IQ tm true x l
  | .builtin .min,x::l,_=>IQ tm false x l
  | _,_,_=>none
theorem uE(tm:TM)(o:Option Operand):M5 tm o=calm.evO tm o:=by
 cases o with
 |none=>rfl
 |some x=>show(match Cy tm x with|some (.int _ n)=>some (some n)| _=>none)=_;rw[Bv];rfl
theorem uD(tm:TM): ∀l,Zh tm l=Wj tm l
 |[]=>rfl
 |(i,x)::xs=>by unfold Zh Wj;rw[Bv,uD tm xs];rfl
theorem JG(tm:TM): ∀l,Jy tm l=L3 tm l
 |[]=>rfl
 |x::xs=>by unfold Jy L3;rw[Bv,JG tm xs];rfl
noncomputable def Vo(G:Ca)(tm:TM)(t:Nat)(x:Operand):Hh:=match G.ty t,Cy tm x with
 |some ti,some a=>bif Hq ti.desc then none else some (.ifc t a,[])
 | _,_=>none
noncomputable def uX(G:Ca)(tm:TM)(x:Operand)(t2:Nat)(ok:Bool):Hh:=match G.ty t2,Cy tm x with
 |some ti,some (.ifc t v)=>bif Nat.beq t t2&& !Hq ti.desc then some (bif ok then .tup [v,.bool true]else v,[])else none
 | _,_=>none
noncomputable def AN(G:Ca)(tm:TM)(H:T O)(o:Op):Hh:=
 match o with
 | .move x=>IX tm x
 | .assign x=>IX tm x
 | .pick c a b=>Oc tm c a b
 | .load t x=>RY G tm H t x
 | .nilCheck x=>AG tm x
 | .binOp op t x y _=>AH G tm op t x y
 | .unOp op _ x=>WB tm op x
 | .convert src dst x=>Oe G tm src dst x
 | .fieldAddr t x f=>ZF G tm t f x
 | .field t x f=>WZ G tm t f x
 | .indexAddr t x i=>ZL G tm t x i
 | .index t x i=>WY G tm t x i
 | .slice t x l h m=>WX G tm t x l h m
 | .extract x i=>YY tm x i
 | .build t ps=>XA G tm t ps
 | .makeFunc (.func f) fs cs=>yU tm f fs.toList cs.toList
 | .lookup t x i ok=>XY G tm H t x i ok
 | .call c=>LP G tm H c
 | .makeInterface t x=>Vo G tm t x
 | .typeAssert x _ t2 ok=>uX G tm x t2 ok
 | _=>none
theorem Vn(G:Ca)(tm:TM)(H:T O)(t:Nat)(x:Operand):RY G tm H t x=(match G.ty t,ev tm x with
  |some ti,some (.ptr h off)=>match H.get h with
   |some (.row _ _ c)=>match E4 ti (c.drop off)with|some v=>some (v,[h])|none=>none
   | _=>none
  |some ti,some (.imp l)=>match E4 ti l with|some v=>some (v,[])|none=>none
  | _,_=>none):=by
 unfold RY
 rw[Bv]
 cases G.ty t with
 |none=>rfl
 | some ti =>
  cases ev tm x with
  |none=>rfl
  | some v =>
   cases v<;>try rfl
   .rename_i h off
    show tL ti h off (gt H h)=(match H.get h with
     |some (.row _ _ c)=>match E4 ti (c.drop off)with|some v=>some (v,[h])|none=>none
     | _=>none)
    rw[Cm]
    cases H.get h with
    |none=>rfl
    |some ob=>
     cases ob<;>try rfl
     show(match H7 ti (Af off _)with|some v=>some (v,[h])|none=>none)=_
     rw[YO,Om]
   .rename_i l
    show(match H7 ti l with|some v=>some (v,[])|none=>none)=(match E4 ti l with|some v=>some (v,[])|none=>none)
    rw[YO]
theorem Ue(G:Ca)(tm:TM)(H:T O)(o:Oper):AN G tm H o.op=calm G tm H.get o:=by
 unfold calm
 cases hop:o.op<;>try rfl
 case load t x=>exact Vn G tm H t x
 case makeFunc fn f c=>
  cases fn<;>try rfl
  simp only[AN,yU,JG]
  rfl
 case call c=>
  simp only[AN,LP,RJ,IQ,Bv,JG]
  rfl
 all_goals simp only[AN,IX,Oc,AG,AH,WB,Oe,ZF,WZ,ZL,WY,WX,YY,XA,XY,Vo,uX,Bv,uE,uD]<;>rfl
noncomputable def mF(m:Nat)(c:Nat->α):α:=Nat.rec (motive:=λ_=>α) (c 0) (λp _=>c (Nat.succ p)) m
theorem yY(m:Nat)(c:Nat->α):mF m c=c m:=by cases m<;>rfl
noncomputable def tA(n:Int)(c:Int->α):α:=Int.rec (motive:=λ_=>α) (λm=>mF m λm=>c (Int.ofNat m)) (λm=>mF m λm=>c (Int.negSucc m)) n
theorem gh(n:Int)(c:Int->α):tA n c=c n:=by
 cases n with
 |ofNat m=>exact yY m (λm=>c (Int.ofNat m))
 |negSucc m=>exact yY m (λm=>c (Int.negSucc m))
noncomputable def sZ(v:V)(c:V->α):α:=match v with
 | .int k n=>tA n λn=>c (.int k n)
 |v=>c v
theorem gf(v:V)(c:V->α):sZ v c=c v:=by
 cases v<;>first|rfl|skip
 rename_i k n
 exact gh n (λn=>c (.int k n))
noncomputable def yC(H:T O)(ti:TI)(h off:Nat)(xs:List V):Option O->Option (T O×List Nat)
 |some (.row et sp c)=>bif Nat.beq xs.length ti.size&&Bl xs then(match Bg off c xs with|some c'=>some (pt H h (.row et sp c'),[h])|none=>none)else none
 | _=>none
noncomputable def LO(G:Ca)(tm:TM)(H:T O)(t:Nat)(x y:Operand):Option (T O×List Nat):=
 match G.ty t,Cy tm x,Cy tm y with
 |some ti,some (.ptr h off),some v=>yC H ti h off (Bi v) (gt H h)
 | _,_,_=>none
theorem ib(G:Ca)(tm:TM)(H:T O)(t:Nat)(x y:Operand):LO G tm H t x y=Fd G tm H t x y:=by
 unfold LO Fd
 rw[Bv,Bv]
 cases G.ty t with
 |none=>rfl
 | some ti =>
  cases ev tm x with
  |none=>rfl
  | some p =>
   cases p<;>try rfl
   rename_i h off
   cases ev tm y with
   |none=>rfl
   | some v =>
    show yC H ti h off (Bi v) (gt H h)=(match H.get h with
     |some (.row et sp c)=>bif Nat.beq (Bi v).length ti.size&&Bl (Bi v)&&Nat.ble (off+(Bi v).length) c.length then some (H.put h (.row et sp (ov c off (Bi v))),[h])else none
     | _=>none)
    rw[Cm]
    cases H.get h with
    |none=>rfl
    |some ob=>
     cases ob<;>try rfl
     rename_i et sp c
     show(bif Nat.beq (Bi v).length ti.size&&Bl (Bi v)then(match Bg off c (Bi v)with|some c'=>some (pt H h (.row et sp c'),[h])|none=>none)else none)=_
     rw[mO]
     show _=bif Nat.beq (Bi v).length ti.size&&Bl (Bi v)&&Nat.ble (off+(Bi v).length) c.length then some (H.put h (.row et sp (ov c off (Bi v))),[h])else none
     generalize (Nat.beq (Bi v).length ti.size&&Bl (Bi v))=b1
     generalize Nat.ble (off+(Bi v).length) c.length=b2
     cases b1<;>cases b2<;>first|rfl|exact congrArg (λz=>some (z,[h])) (Bh _ _ _)
noncomputable def AP(G:Ca)(tm:TM)(H:T O)(nx t:Nat)(m k v:Operand):Option CR:=match Cy tm m,Cy tm k,Cy tm v with
  |some m,some k,some v=>match Kq G H t m k v with
   |some (H',lg)=>some ⟨.tup [],H',nx,lg⟩
   |none=>none
  | _,_,_=>none
noncomputable def SX(G:Ca)(tm:TM)(H:T O)(nx t:Nat)(m k:Operand):Option CR:=match Cy tm m,Cy tm k with
  |some m,some k=>match Mz G H t m k with
   |some (r,H',lg)=>some ⟨r,H',nx,lg⟩
   |none=>none
  | _,_=>none
noncomputable def ST(tm:TM)(H:T O)(nx:Nat)(m s v:Operand):Option CR:=match Cy tm m,Cy tm s,Cy tm v with
  |some m,some s,some v=>match M9 H m s v with
   |some (H',lg)=>some ⟨.tup [],H',nx,lg⟩
   |none=>none
  | _,_,_=>none
noncomputable def TO(G:Ca)(tm:TM)(H:T O)(nx:Nat)(c:Call):Option CR:=match c.args.toList,c.argTypes.toList with
   | [x, y], [t, tx] => match Cy tm x, Cy tm y with
    |some x,some y=>match Dg G H nx t tx x y with
     |some (r,H',nx',lg)=>some ⟨r,H',nx',lg⟩
     |none=>none
    | _,_=>none
   | _,_=>none
noncomputable def RZ(G:Ca)(tm:TM)(H:T O)(nx:Nat)(c:Call):Option CR:=match c.args.toList,c.argTypes.toList with
   | [x, y], [t, tx] => match Cy tm x, Cy tm y with
    |some x,some y=>match Kc G H t x y with
     |some (r,H',lg)=>some ⟨r,H',nx,lg⟩
     |none=>none
    | _,_=>none
   | _,_=>none
noncomputable def SA(E:B9)(call:Dq)(tm:TM)(H:T O)(nx:Nat)(f:Operand)(l:List Operand):Option CR:=match Cy tm f,Jy tm l with
   |some f,some l=>match Fg E f l with
    |some v=>some ⟨v,H,nx,[]⟩
    |none=>call f l H nx
   | _,_=>none
noncomputable def SW(G:Ca)(tm:TM)(H:T O)(nx t:Nat)(x:Operand):Option CR:=match Cy tm x with
  |some x=>match Rw G H t x with
   |some ob=>some ⟨.ptr nx 0,H.put nx ob,nx+1,[]⟩
   |none=>none
  |none=>none
noncomputable def TN(tm:TM)(H:T O)(nx:Nat)(x:Operand):Option CR:=match Cy tm x with
  |some x=>match Ul H x with
   |some v=>some ⟨v,H,nx,[]⟩
   |none=>none
  |none=>none
def NY(nx:Nat):Option (T O×List Nat)->Option CR
 |some (H',lg)=>some ⟨.tup [],H',nx,lg⟩
 |none=>none
noncomputable def O6(E:B9)(call:Dq)(tm:TM)(H:T O)(nx:Nat)(o:Op):Option CR:=
 match o with
 | .store t x y=>NY nx (LO E.G tm H t x y)
 | .mapUpdate t m k v=>AP E.G tm H nx t m k v
 | .insert t m k v=>AP E.G tm H nx t m k v
 | .mapEntry t m k=>SX E.G tm H nx t m k
 | .entryStore _ m s v=>ST tm H nx m s v
 | .range t x=>SW E.G tm H nx t x
 | .entry x=>TN tm H nx x
 | .call c=>match c.callee with
  | .builtin .append=>TO E.G tm H nx c
  | .builtin .copy=>RZ E.G tm H nx c
  | .value f=>SA E call tm H nx f c.args.toList
  | _=>none
 | _=>none
theorem Zi (E : B9) (call : Dq) (tm : TM) (H : T O) (nx : Nat) (o : Oper) : O6 E call tm H nx o.op = Dp E call tm H nx o := by
  unfold Dp
  cases hop:o.op<;>try rfl
  case store t x y=>simp only[O6,ib,NY];rfl
  case call c=>
    simp only[O6]
    cases c.callee with
    | builtin b => cases b <;> try rfl
                   all_goals simp only[TO,RZ,Bv];rfl
    |value f=>simp only[SA,Bv,JG];rfl
    |invoke=>rfl
  all_goals simp only[O6,AP,SX,ST,SW,TN,Bv]<;>rfl
def XB(G:Ca)(nx t:Nat):Option (V×O):=match G.ty t with
  |some {zero:=some z,.. }=>some (.ptr nx 0,.row t none z)
  | _=>none
noncomputable def Vp(tm:TM)(nx t:Nat)(x:Operand):Option (V×O):=match Cy tm x with
  |some v=>some (.ptr nx 0,.row t none (Bi v))
  |none=>none
noncomputable def lS(G:Ca)(tm:TM)(nx:Nat)(o:Oper):Option (V×O):=
 match o.op with
 | .alloc t=>XB G nx t
 | .box t x=>Vp tm nx t x
 | _=>Bj G tm nx o
theorem ei(G:Ca)(tm:TM)(nx:Nat)(o:Oper):lS G tm nx o=Bj G tm nx o:=by
 unfold lS
 cases hop:o.op<;>try rfl
 .unfold Bj;rw[hop];rfl
 .unfold Bj Vp;simp only[hop,Bv];rfl
noncomputable def Jq:Hh->Option OR
 |some (v,rd)=>sZ v λv=>some (.calm v rd)
 |none=>none
def Kp:Option (V×O)->Option OR
 |some (v,ob)=>some (.alloc v ob)
 |none=>none
def Do:Option CR->Option OR
 |some r=>some (.eff r)
 |none=>none
noncomputable def VO(E:B9)(call:Dq)(tm:TM)(H:T O)(nx:Nat)(o:Oper):Option OR:=
 match o.op with
 | .alloc t=>Kp (XB E.G nx t)
 | .box t x=>Kp (Vp tm nx t x)
 | .buildSlice .. | .makeSlice .. | .makeMap .. =>Kp (Bj E.G tm nx o)
 | .store t x y=>Do (NY nx (LO E.G tm H t x y))
 | .mapUpdate t m k v=>Do (AP E.G tm H nx t m k v)
 | .insert t m k v=>Do (AP E.G tm H nx t m k v)
 | .mapEntry t m k=>Do (SX E.G tm H nx t m k)
 | .entryStore _ m s v=>Do (ST tm H nx m s v)
 | .range t x=>Do (SW E.G tm H nx t x)
 | .entry x=>Do (TN tm H nx x)
 | .call c=>match c.callee with
  | .builtin .append=>Do (TO E.G tm H nx c)
  | .builtin .copy=>Do (RZ E.G tm H nx c)
  | .value f=>Do (SA E call tm H nx f c.args.toList)
  | _=>Jq (LP E.G tm H c)
 |o=>Jq (AN E.G tm H o)
theorem Je(x:Hh):Jq x=match x with|some (v,rd)=>some (.calm v rd)|none=>none:=by
 cases x with
 |none=>rfl
 |some p=>exact gf p.1 (λv=>(some (OR.calm v p.2):Option OR))
theorem HJ(E:B9)(call:Dq)(tm:TM)(H:T O)(nx:Nat)(o:Oper):VO E call tm H nx o=G1 E call tm H nx o:=by
 unfold G1
 rw[<-Ue,<-ei,<-Zi]
 unfold VO lS
 cases hop:o.op<;>try rfl
 case call c=>
  have hal:Bj E.G tm nx o=none:=by unfold Bj;rw[hop]
  simp only[AN,O6,hal]
  unfold LP
  cases c.callee with
  |builtin b=>
   cases b<;>simp only[Je]<;>try rfl
   all_goals((repeat' split)<;>first|rfl|simp_all)
  |value f=>rfl
  |invoke=>rfl
 all_goals simp only[Je,AN,O6,Bj,hop]
 all_goals first|rfl|((repeat' split)<;>first|rfl|simp_all)
structure OC where
 f:Dq->TM->T O->Nat->Option OR
noncomputable def VZ(E:B9)(o:Oper):OC:=
 match o.op with
 | .alloc t=>⟨λ_ _ _ nx=>Kp (XB E.G nx t)⟩
 | .box t x=>⟨λ_ tm _ nx=>Kp (Vp tm nx t x)⟩
 | .buildSlice .. | .makeSlice .. | .makeMap .. =>⟨λ_ tm _ nx=>Kp (Bj E.G tm nx o)⟩
 | .store t x y=>⟨λ_ tm H nx=>Do (NY nx (LO E.G tm H t x y))⟩
 | .mapUpdate t m k v=>⟨λ_ tm H nx=>Do (AP E.G tm H nx t m k v)⟩
 | .insert t m k v=>⟨λ_ tm H nx=>Do (AP E.G tm H nx t m k v)⟩
 | .mapEntry t m k=>⟨λ_ tm H nx=>Do (SX E.G tm H nx t m k)⟩
 | .entryStore _ m s v=>⟨λ_ tm H nx=>Do (ST tm H nx m s v)⟩
 | .range t x=>⟨λ_ tm H nx=>Do (SW E.G tm H nx t x)⟩
 | .entry x=>⟨λ_ tm H nx=>Do (TN tm H nx x)⟩
 | .call c=>match c.callee with
  | .builtin .append=>⟨λ_ tm H nx=>Do (TO E.G tm H nx c)⟩
  | .builtin .copy=>⟨λ_ tm H nx=>Do (RZ E.G tm H nx c)⟩
  | .value f=>⟨λcall tm H nx=>Do (SA E call tm H nx f c.args.toList)⟩
  | _=>⟨λ_ tm H _=>Jq (LP E.G tm H c)⟩
 | .move x=>⟨λ_ tm _ _=>Jq (IX tm x)⟩
 | .assign x=>⟨λ_ tm _ _=>Jq (IX tm x)⟩
 | .pick c a b=>⟨λ_ tm _ _=>Jq (Oc tm c a b)⟩
 | .load t x=>⟨λ_ tm H _=>Jq (RY E.G tm H t x)⟩
 | .nilCheck x=>⟨λ_ tm _ _=>Jq (AG tm x)⟩
 | .binOp op t x y _=>⟨λ_ tm _ _=>Jq (AH E.G tm op t x y)⟩
 | .unOp op _ x=>⟨λ_ tm _ _=>Jq (WB tm op x)⟩
 | .convert src dst x=>⟨λ_ tm _ _=>Jq (Oe E.G tm src dst x)⟩
 | .fieldAddr t x f=>⟨λ_ tm _ _=>Jq (ZF E.G tm t f x)⟩
 | .field t x f=>⟨λ_ tm _ _=>Jq (WZ E.G tm t f x)⟩
 | .indexAddr t x i=>⟨λ_ tm _ _=>Jq (ZL E.G tm t x i)⟩
 | .index t x i=>⟨λ_ tm _ _=>Jq (WY E.G tm t x i)⟩
 | .slice t x l h m=>⟨λ_ tm _ _=>Jq (WX E.G tm t x l h m)⟩
 | .extract x i=>⟨λ_ tm _ _=>Jq (YY tm x i)⟩
 | .build t ps=>⟨λ_ tm _ _=>Jq (XA E.G tm t ps)⟩
 | .lookup t x i ok=>⟨λ_ tm H _=>Jq (XY E.G tm H t x i ok)⟩
 |o=>⟨λ_ tm H _=>Jq (AN E.G tm H o)⟩
theorem IE(E:B9)(call:Dq)(tm:TM)(H:T O)(nx:Nat)(o:Oper):(VZ E o).f call tm H nx=VO E call tm H nx o:=by
 unfold VZ VO
 cases o.op<;>try rfl
 rename_i c
 dsimp only
 cases c.callee with
 |builtin b=>cases b<;>rfl
 |value f=>rfl
 |invoke=>rfl
noncomputable def Iv(tm:TM)(ops:Array Oper)(o:Oper):Option Bool:=
 match o.guard with
 |none=>some true
 |some _=>Cc tm ops o
theorem zT(tm:TM)(ops:Array Oper)(o:Oper):Iv tm ops o=Cc tm ops o:=by
 unfold Iv
 split
 .rename_i h;unfold Cc;rw[h]
 .rfl
noncomputable def DU:T V->Nat->List V->T V
 |t,_,[]=>t
 |t,i,x::xs=>DU (pt t i x) (i+1) xs
theorem EC: ∀(l:List V)(t:T V)(i:Nat),DU t i l=Cf t i l
 |[],_,_=>rfl
 |x::xs,t,i=>by unfold DU Cf;rw[Bh,EC xs]
section
variable {E:B9} {rd:Option Nat} {st st1 st2:St} {e:Ex}
structure F6 where
 c:V
 l:List V
 H:T O
 nx:Nat
 r:CR
end
variable {P:Program}
end Go.Proofs.YtifdkhfldbkkpaaGreat.Am
