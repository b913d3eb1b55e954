/- Texts behind the claim, part 3: the abstract machine, and what the functions answer. No condition. -/
import Derived.Test.YtifdkhfldbkkpaaGreatCC2
set_option linter.unusedVariables false
set_option maxHeartbeats 4000000
set_option maxRecDepth 100000
set_option linter.unusedSimpArgs false
set_option linter.unusedSectionVars false
namespace Go.Proofs.YtifdkhfldbkkpaaGreat.Am
open Go.RowKit
variable{a:Act}{ops:Array Oper}{B:Bs}{b c:Code}{E:B9}{fi:FI}{L lg lg' r:List Nat}{OS:List O}{qs:List F6}{ars ars':List V}{f g h i id n nx:Nat}{ρ:Nat->Option Nat}{F:Nat->Prop}{y:O}{o:Oper}{rd:Option Nat}{q:F6}{s s' s0:Av}{st':St}{gl:T (List V)}{H:T O}{tm:TM}{α:Type}{w w0:World}
mutual
def Bo(H:Nat->Option O)(F:Nat->Prop):(Nat->Option Nat)->V->V->Prop
 |ρ,.ptr h off,y=>∃g,ρ h=some g/\y= .ptr g off
 |ρ,.sl h off len room,y=>∃g,ρ h=some g/\y= .sl g off len room
 |ρ,.mp h,y=>∃g,ρ h=some g/\y= .mp g
 |ρ,.yld h,y=>∃g,ρ h=some g/\y= .yld g
 |ρ,.fn f l,y=>∃l',y= .fn f l'/\A8 H F ρ l l'
 |ρ,.mfn f l,y=>∃l',y= .mfn f l'/\A8 H F ρ l l'
 |ρ,.agg l,y=>∃l',y= .agg l'/\A8 H F ρ l l'
 |ρ,.tup l,y=>∃l',y= .tup l'/\A8 H F ρ l l'
 |ρ,.ifc t x,y=>∃x',y= .ifc t x'/\Bo H F ρ x x'
 | _,.im n l,y=>y= .im n l\/(y= .nils/\n=0)\/∃g off room t sp c,y= .sl g off n room/\F g/\H g=some (.row t sp c)/\Bq H F l (c.drop off)
 | _,.imp l,y=>y= .imp l\/∃g off t sp c,y= .ptr g off/\F g/\H g=some (.row t sp c)/\Bq H F l (c.drop off)
 | _,.bool b,y=>y= .bool b
 | _,.int k n,y=>y= .int k n
 | _,.str x,y=>y= .str x
 | _,.nilp,y=>y= .nilp
 | _,.nilf,y=>y= .nilf
 | _,.nili,y=>y= .nili
 | _,.nils,y=>y= .nils
 | _,.nilm,y=>y= .nilm
def A8(H:Nat->Option O)(F:Nat->Prop):(Nat->Option Nat)->List V->List V->Prop
 | _,[],ys=>ys=[]
 |ρ,x::xs,ys=>∃y ys',ys=y::ys'/\Bo H F ρ x y/\A8 H F ρ xs ys'
def Bq(H:Nat->Option O)(F:Nat->Prop):List V->List V->Prop
 |[],_=>True
 |x::xs,ys=>∃y ys',ys=y::ys'/\Bo H F (λ_=>none) x y/\Bq H F xs ys'
end
structure En(H:Nat->Option O)(F:Nat->Prop)(ρ:Nat->Option Nat)(s s':Av):Prop where
 ren: ∀h g,ρ h=some g->s.dom g->s'.dom h/\s'.μ h=s.μ g/\s'.cp h=s.cp g
 frz: ∀g t sp c,F g->H g=some (.row t sp c)->s'.fz (s.μ g)
 fz: ∀b,s.fz b->s'.fz b
theorem En.bare{H:Nat->Option O}(h:En H F ρ s s'):En H F (λ_=>none) s s'.bare:=
 ⟨λ_ _ e=>(by cases e),h.frz,h.fz⟩
mutual
theorem Bo.rv{H:Nat->Option O}(hH:RH s w H): ∀{ρ:Nat->Option Nat}{s':Av}(_:En H F ρ s s')(x y:V)(v:Value),Bo H F ρ x y->RV s w y v->RV s' w x v
 | _,_,T,.ptr h off,_,_,⟨g,e,hy⟩,hv=>by subst hy;obtain⟨a,b,_⟩:=T.ren h g e hv.1;exact⟨a,by rw[b];exact hv.2⟩
 | _,_,T,.sl h off len room,_,_,⟨g,e,hy⟩,hv=>by subst hy;obtain⟨a,b,c⟩:=T.ren h g e hv.1;exact⟨a,by rw[b,c];exact hv.2⟩
 | _,_,T,.mp h,_,_,⟨g,e,hy⟩,hv=>by subst hy;obtain⟨a,b,_⟩:=T.ren h g e hv.1;exact⟨a,by rw[b];exact hv.2⟩
 | _,_,T,.yld h,_,_,⟨g,e,hy⟩,hv=>by subst hy;obtain⟨a,b,_⟩:=T.ren h g e hv.1;exact⟨a,by rw[b];exact hv.2⟩
 | _,_,T,.fn f l,_,_,⟨l',hy,hl⟩,hv=>by subst hy;obtain⟨vs,e,h⟩:=hv;exact⟨vs,e,A8.rl hH T l l' _ hl h⟩
 | _,_,T,.mfn f l,_,_,⟨l',hy,hl⟩,hv=>by subst hy;obtain⟨vs,e,h⟩:=hv;exact⟨vs,e,A8.rl hH T l l' _ hl h⟩
 | _,_,T,.agg l,_,_,⟨l',hy,hl⟩,hv=>by subst hy;obtain⟨vs,e,h⟩:=hv;exact⟨vs,e,A8.rl hH T l l' _ hl h⟩
 | _,_,T,.tup l,_,_,⟨l',hy,hl⟩,hv=>by subst hy;obtain⟨vs,e,h⟩:=hv;exact⟨vs,e,A8.rl hH T l l' _ hl h⟩
 | _,_,T,.ifc t x,_,_,⟨x',hy,hx⟩,hv=>by subst hy;obtain⟨u,e,h⟩:=hv;exact⟨u,e,Bo.rv hH T x x' _ hx h⟩
 | _,_,T,.im n l,_,_,hx,hv=>by
  rcases hx with rfl|⟨rfl,rfl⟩|⟨g,off,room,t,sp,c,rfl,hF,hg,hl⟩
  .obtain⟨a,cap,e,hc,h⟩:=hv
   exact⟨a,cap,e,hc,λhn=>let ⟨b,off,ha,hl⟩:=h hn;⟨b,off,ha,RC.mono' T.fz (λ_ _=>rfl) l b off hl⟩⟩
  .obtain rfl:=hv
   exact⟨none,0,rfl,aC _,λh=>absurd rfl h⟩
  .obtain⟨_,cap,e,hc,_⟩:=hv
   refine⟨_,cap,e,hc,λ_=>⟨_,_,rfl,?_⟩⟩
   obtain⟨_,_,_,vs,rest,b1,b2,_⟩:=hH.obj _ _ hg rfl
   exact Bq.rc hH T (T.frz g t sp c hF hg) l _ _ off hl (b2.drop off) (λj v hv=>by
    simp only[World.cell?,b1]
    rw[List.getElem?_drop]at hv
    obtain⟨hlt,he⟩:=aM.1 hv
    simp[dR,hlt,he])
 | _,_,T,.imp l,_,_,hx,hv=>by
  rcases hx with rfl|⟨g,off,t,sp,c,rfl,hF,hg,hl⟩
  .obtain⟨b,off,e,hl⟩:=hv
   exact⟨b,off,e,RC.mono' T.fz (λ_ _=>rfl) l b off hl⟩
  .obtain⟨_,rfl⟩:=hv
   refine⟨_,_,rfl,?_⟩
   obtain⟨_,_,_,vs,rest,b1,b2,_⟩:=hH.obj _ _ hg rfl
   exact Bq.rc hH T (T.frz g t sp c hF hg) l _ _ off hl (b2.drop off) (λj v hv=>by
    simp only[World.cell?,b1]
    rw[List.getElem?_drop]at hv
    obtain⟨hlt,he⟩:=aM.1 hv
    simp[dR,hlt,he])
 | _,_,_,.bool _,_,_,h,hv| _,_,_,.int _ _,_,_,h,hv| _,_,_,.str _,_,_,h,hv| _,_,_,.nilp,_,_,h,hv| _,_,_,.nilf,_,_,h,hv| _,_,_,.nili,_,_,h,hv| _,_,_,.nils,_,_,h,hv| _,_,_,.nilm,_,_,h,hv=>by subst h;exact hv
theorem A8.rl{H:Nat->Option O}(hH:RH s w H): ∀{ρ:Nat->Option Nat}{s':Av}(_:En H F ρ s s')(l l':List V)(vs:List Value),A8 H F ρ l l'->RL s w l' vs->RL s' w l vs
 | _,_,_,[],_,_,h,hv=>by subst h;exact hv
 | _,_,T,x::xs,_,_,⟨y,ys,e,hx,hl⟩,hv=>by
  subst e
  obtain⟨v,vs',rfl,h1,h2⟩:=hv
  exact⟨v,vs',rfl,Bo.rv hH T x y v hx h1,A8.rl hH T xs ys vs' hl h2⟩
theorem Bq.rc{H:Nat->Option O}(hH:RH s w H): ∀{ρ:Nat->Option Nat}{s':Av}(_:En H F ρ s s'){b:Nat}(_:s'.fz b)(l l':List V)(vs:List Value)(off:Nat),Bq H F l l'->RL s w l' vs->(∀(j:Nat)(v:Value),vs[j]? =some v->w.cell? ⟨b,off+j,none⟩=some v)->RC s' w l b off
 | _,_,_,_,_,[],_,_,_,_,_,_=>trivial
 | _,_,T,b,hb,x::xs,_,_,off,⟨y,ys,e,hx,hl⟩,hv,hc=>by
  subst e
  obtain⟨v,vs',rfl,h1,h2⟩:=hv
  refine⟨⟨hb,v,hc 0 v rfl,Bo.rv hH T.bare x y v hx h1⟩,Bq.rc hH T hb xs ys vs' (off+1) hl h2 (λj u hu=>?_)⟩
  have:=hc (j+1) u (by simpa using hu)
  rwa [show off+1+j=off+(j+1)by omega]
end
def F2(H:Nat->Option O)(F:Nat->Prop)(ρ:Nat->Option Nat):List (V×V×Nat)->List (V×V×Nat)->Prop
 |[],es=>es=[]
 |(k,v,n)::xs,es=>∃k' v' es',es=(k',v',n)::es'/\Bo H F ρ k k'/\Bo H F ρ v v'/\F2 H F ρ xs es'
theorem F2.re{H:Nat->Option O}(hH:RH s w H)(T:En H F ρ s s'): ∀(l l':List (V×V×Nat))(es:List MapEntry),F2 H F ρ l l'->RE s w l' es->RE s' w l es
 |[],_,_,h,hv=>by cases h;exact hv
 |(k,v,n)::xs,_,_,⟨k',v',es',e,h1,h2,h3⟩,hv=>by
  subst e
  obtain⟨en,es2,rfl,g1,g2,g3,g4⟩:=hv
  exact⟨en,es2,rfl,Bo.rv hH T _ _ _ h1 g1,Bo.rv hH T _ _ _ h2 g2,g3,F2.re hH T xs es' es2 h3 g4⟩
def Hd(H:Nat->Option O)(F:Nat->Prop)(ρ:Nat->Option Nat):O->O->Prop
 | .row t sp c,o=>∃c',o= .row t sp c'/\A8 H F ρ c c'
 | .map es ck,o=>∃es',o= .map es' ck/\F2 H F ρ es es'
 | .iter m since seen last,o=>∃m',o= .iter m' since seen last/\(match m with|none=>m'=none|some h=>∃g,ρ h=some g/\m'=some g)
 | .loop st pend fn tm ps asg bd,o=>o= .loop st pend fn tm ps asg bd/\∀i x,tm.sl.get i=some x->Bo H F ρ x x
 | .dead,_=>True
def G5(nx0:Nat)(r:List Nat)(h:Nat):Option Nat:=bif Nat.blt h nx0 then some h else r[h-nx0]?
theorem JA{nx0:Nat}(hl:h<nx0):G5 nx0 r h=some h:=by
 have:Nat.blt h nx0=true:=aU hl
 rw[G5,this];rfl
theorem Rq{nx0:Nat}(hl: ¬h<nx0):G5 nx0 r h=r[h-nx0]? :=by
 have:Nat.blt h nx0=false:=by
  cases hb:Nat.blt h nx0 with
  |false=>rfl
  |true=>exact absurd (aI hb) hl
 rw[G5,this];rfl
def Fr(nx0:Nat)(r lg:List Nat)(g:Nat):Prop:=nx0<=g/\g∉r/\∀h∈lg,nx0<=h
structure Gc(nx0:Nat)(r:List Nat)(st st':St):Prop where
 nx:st'.nx=nx0+r.length
 le: ∀g∈r,nx0<=g/\g<st.nx
 nodup:r.Nodup
 n:st'.tm.n=st.tm.n
 gl:st'.tm.gl=st.tm.gl
 sl: ∀i x,st'.tm.sl.get i=some x->∃y,st.tm.sl.get i=some y/\Bo st.H.get (Fr nx0 r st.lg) (G5 nx0 r) x y
 H: ∀h o,st'.H.get h=some o->o.live=true->∃g y,G5 nx0 r h=some g/\st.H.get g=some y/\Hd st.H.get (Fr nx0 r st.lg) (G5 nx0 r) o y
 lg: ∀h∈st.lg,h<nx0->h∈st'.lg
structure J6(B:Bs)(s0:Av)(w0:World)(nx0:Nat)(st:St)(s:Av)(w:World)(a:Act):Prop where
 rel:Ir B s w st a
 step:Br s0 w0 s w st.lg
 dom: ∀i,s.dom i↔s0.dom i\/nx0<=i/\i<st.nx
 le:nx0<=st.nx
theorem Hd.live{H:Nat->Option O}{o:O}(h:Hd H F ρ o y)(hl:o.live=true):y.live=true:=by
 cases o with
 |row=>obtain⟨_,rfl,_⟩:=h;rfl
 |map=>obtain⟨_,rfl,_⟩:=h;rfl
 |iter=>obtain⟨_,rfl,_⟩:=h;rfl
 |loop=>obtain⟨rfl,_⟩:=h;rfl
 |dead=>cases hl
theorem Hd.ro{H:Nat->Option O}(hH:RH s w H)(T:En H F ρ s s'){o:O}(hv:Hd H F ρ o y)(hr:ρ h=some g)(hd:s.dom g)(ho:RO s w y g):RO s' w o h:=by
 obtain⟨_,hμ,hcp⟩:=T.ren h g hr hd
 cases o with
 |row t sp c=>
  obtain⟨c',rfl,hc⟩:=hv
  obtain⟨vs,rest,h1,h2,h3,h4⟩:=ho
  exact⟨vs,rest,by rw[hμ];exact h1,A8.rl hH T _ _ _ hc h2,h3,by rw[hcp];exact h4⟩
 |map es ck=>
  obtain⟨es',rfl,hc⟩:=hv
  obtain⟨arr,h1,h2⟩:=ho
  exact⟨arr,by rw[hμ];exact h1,F2.re hH T _ _ _ hc h2⟩
 | iter m since seen last =>
  obtain⟨m',rfl,hm⟩:=hv
  obtain⟨h0,h1⟩:=ho
  cases m with
  |none=>dsimp only at hm;subst hm;exact⟨λ_ e=>(by cases e),by rw[hμ];exact h1⟩
  |some h2=>
   obtain⟨g2,e,rfl⟩:=hm
   obtain⟨k1,k2,_⟩:=T.ren h2 g2 e (h0 g2 rfl)
   exact⟨λi e=>(by cases e;exact k1),by rw[hμ];simpa [k2]using h1⟩
 |loop st pend fn tm ps asg bd=>
  obtain⟨rfl,hc⟩:=hv
  obtain⟨tmps,d,f',h0,h1,h2⟩:=ho
  refine⟨tmps,d,f',h0,by rw[hμ];exact h1,h2.1,λi x hx=>?_,λgi l hl=>RC.mono' T.fz (λ_ _=>rfl) l gi 0 (h2.2.2 gi l hl)⟩
  obtain⟨v,hv,hrv⟩:=h2.2.1 i x hx
  exact⟨v,hv,Bo.rv hH T x x v (hc i x hx) hrv⟩
 |dead=>trivial
theorem J6.gc{nx0:Nat}{st:St}(hn: ∀i,nx0<=i->¬s0.dom i)(A:J6 B s0 w0 nx0 st s w a)(g:Gc nx0 r st st'): ∃s',J6 B s0 w0 nx0 st' s' w a:=by
 have hH:=A.rel.rh
 have hlo: ∀h,s.dom h->h<nx0->s0.dom h:=λh hd hl=>((A.dom h).1 hd).resolve_right (λk=>o_)
 have hhi: ∀i∈r,s.dom i:=λi hi=>(A.dom i).2 (.inr (g.le i hi))
 have hrho: ∀h i,G5 nx0 r h=some i->(h<nx0/\i=h)\/(nx0<=h/\h<st'.nx/\i∈r/\r[h-nx0]? =some i):=by
  intro h i e
  by_cases hl:h<nx0
  .rw[JA hl]at e;cases e;exact .inl ⟨hl,rfl⟩
  .rw[Rq hl]at e
   have:=(aM.1 e).1
   exact .inr ⟨o_,by rw[g.nx];omega,bG e,e⟩
 let s':Av:={μ:=λh=>match G5 nx0 r h with|some i=>s.μ i|none=>0,cp:=λh=>match G5 nx0 r h with|some i=>s.cp i|none=>0,dom:=λh=>s0.dom h\/nx0<=h/\h<st'.nx,fz:=λb=>s.fz b\/∃i,Fr nx0 r st.lg i/\(∃t sp c,st.H.get i=some (.row t sp c))/\b=s.μ i,mark:=s.mark}
 have hμ: ∀h i,G5 nx0 r h=some i->s'.μ h=s.μ i:=λh i e=>by show(match G5 nx0 r h with|some i=>s.μ i|none=>0)=_;rw[e]
 have hcp: ∀h i,G5 nx0 r h=some i->s'.cp h=s.cp i:=λh i e=>by show(match G5 nx0 r h with|some i=>s.cp i|none=>0)=_;rw[e]
 have T:En st.H.get (Fr nx0 r st.lg) (G5 nx0 r) s s':=by
  refine⟨λh i e hd=>⟨?_,hμ h i e,hcp h i e⟩,λi t sp c hF hi=>.inr ⟨i,hF,⟨t,sp,c,hi⟩,rfl⟩,λb hb=>.inl hb⟩
  rcases hrho h i e with⟨h1,rfl⟩|⟨h1,h2,_⟩
  .exact .inl (hlo _ hd h1)
  .exact .inr ⟨h1,h2⟩
 have hfzlt: ∀b,s'.fz b->b<w.heap.size:=by
  rintro b (hb|⟨i,_,⟨t,sp,c,hi⟩,rfl⟩)
  .exact hH.old b (.inl hb)
  .exact(hH.obj _ _ hi rfl).2.1
 refine⟨s',⟨⟨λh o ho hl=>?_,λh h' o o' ho ho' hl hl' e=>?_,?_⟩,⟨?_,λi x hx=>?_,λgi l hl=>?_⟩,λi hi hd=>?_,?_⟩,⟨⟨⟨λh hd=>?_,λh hd=>?_,λh hd=>.inl hd,λb hb=>.inl (A.step.le.fz b hb)⟩,A.step.le.mark⟩,?_,A.step.kept,A.step.mod.mono ?_,λh hd hno=>?_⟩,λi=>fK,by rw[g.nx];omega⟩
 .obtain⟨i,y,e,hy,hv⟩:=g.H h o ho hl
  obtain⟨a1,a2,a3,a4⟩:=hH.obj i y hy (hv.live hl)
  refine⟨(T.ren h i e a1).1,by rw[hμ h i e];exact a2,?_,hv.ro hH T e a1 a4⟩
  rw[hμ h i e]
  rintro((hf|⟨j,hF,⟨t,sp,c,hj⟩,e2⟩)|hm)
  .exact a3 (.inl hf)
  .have:=hH.inj i j y _ hy hj (hv.live hl) rfl e2
   subst this
   rcases hrho h i e with⟨h1,rfl⟩|⟨_,_,h3,_⟩
   .have:=hF.1;omega
   .exact hF.2.1 h3
  .exact a3 (.inr hm)
 .obtain⟨i,y,e1,hy,hv⟩:=g.H h o ho hl
  obtain⟨i',y',e1',hy',hv'⟩:=g.H h' o' ho' hl'
  rw[hμ h i e1,hμ h' i' e1']at e
  have:=hH.inj i i' y y' hy hy' (hv.live hl) (hv'.live hl') e
  subst this
  rcases hrho h i e1 with⟨h1,rfl⟩|⟨h1,_,h3,h4⟩<;>rcases hrho h' _ e1' with⟨k1,k2⟩|⟨k1,_,k3,k4⟩
  .exact k2
  .have:=(g.le _ k3).1;omega
  .have:=(g.le _ h3).1;omega
  .have:=(aM.1 h4).1
   have:=(List.getElem?_inj this g.nodup).1 (h4.trans k4.symm)
   omega
 .rintro b (hb|hb)
  .exact hfzlt b hb
  .exact hH.old b (.inr hb)
 .rw[g.n];exact A.rel.rt.1
 .obtain⟨y,hy,hv⟩:=g.sl i x hx
  obtain⟨v,h1,h2⟩:=A.rel.rt.2.1 i y hy
  exact⟨v,h1,Bo.rv hH T x y v hv h2⟩
 .rw[g.gl]at hl
  exact RC.mono' T.fz (λ_ _=>rfl) l gi 0 (A.rel.rt.2.2 gi l hl)
 .have:=g.nx
  rcases hd with hd|hd
  .exact hn i o_ hd
  .omega
 .obtain⟨Ds,h1,h2,h3⟩:=A.rel.df
  refine⟨Ds,h1,h2,λD hD=>?_⟩
  obtain⟨k1,k2,k3,k4⟩:=h3 D hD
  refine⟨k1,k2,k3,?_⟩
  rintro(hf|⟨i,_,⟨t,sp,c,hi⟩,rfl⟩)
  .exact k4 hf
  .obtain⟨_,_,_,vs,rest,b1,_⟩:=hH.obj _ _ hi rfl
   rw[b1]at k3;cases k3
 .have hl:h<nx0:=dW λhge=>hn h hge hd
  rw[hμ h h (JA hl),A.step.le.μ h hd]
 .have hl:h<nx0:=dW λhge=>hn h hge hd
  rw[hcp h h (JA hl),A.step.le.cp h hd]
 .rintro b (hb|⟨i,hF,⟨t,sp,c,hi⟩,rfl⟩)
  .rcases A.step.fz b hb with k|k|⟨h,h1,h2,h3⟩
   .exact .inl k
   .exact .inr (.inl k)
   .exact .inr (.inr ⟨h,g.lg h h1 (dW λhge=>hn h hge h2),h2,h3⟩)
  .have hd:=(hH.obj _ _ hi rfl).1
   rcases A.step.new i hd (hn i hF.1)with h|⟨j,h1,h2,_⟩
   .exact .inr (.inl h)
   .exact absurd h2 (hn j (hF.2.2 j h1))
 .rintro b ⟨h,h1,h2,h3⟩
  exact⟨h,g.lg h h1 (dW λhge=>hn h hge h2),h2,h3⟩
 .rcases hd with hd|⟨h1,h2⟩
  .exact absurd hd hno
  .have hlt:h-nx0<r.length:=by have:=g.nx;omega
   have e:G5 nx0 r h=some r[h-nx0]:=by rw[Rq o_];exact aB hlt
   have hm:r[h-nx0]∈r:=cL hlt
   rw[hμ _ _ e]
   rcases A.step.new _ (hhi _ hm) (hn _ (g.le _ hm).1)with k|⟨j,k1,k2,k3⟩
   .exact .inl k
   .exact .inr ⟨j,g.lg j k1 (dW λhge=>hn j hge k2),k2,k3⟩
variable {P:Program}
theorem J6.went{nx0:Nat}{w':World}{st:St}{a':Act}(h:J6 B s0 w0 nx0 st s w a)(k:E7 B s w st st' a lg s' w' a'):J6 B s0 w0 nx0 st' s' w' a':=by
 have h1:=h.le
 have h2:=k.le
 refine⟨k.rel,(h.step.trans k.step).more (λx hx=>by rw[k.log];exact aL.2 ((aL.1 hx).symm)),λi=>?_,aP h1 h2⟩
 rw[k.dom,h.dom]
 constructor
 .rintro((h|h)|h)
  .exact .inl h
  .exact .inr ⟨h.1,o_⟩
  .exact .inr ⟨o_,h.2⟩
 .rintro(h|h)
  .exact .inl (.inl h)
  .by_cases h':i<st.nx
   .exact .inl (.inr ⟨h.1,h'⟩)
   .exact .inr ⟨o_,h.2⟩
def bg(Q:Exit->Act->World->Prop)(w:World)(a:Act):Ex->Prop
 | .normal=>Q .normal a w
 | .exit id=>Q (.exit id) a w
 | .ret=>Q .ret a w
 | .pan x=>∀u,(∀s' w',RV s' w' x u)->Q (.panic [{v:=u,recovered:=false}]) a w
def Au(P:Program)(rd:Option Nat)(nx0:Nat)(c:Code)(st:St)(R:Ex->St->Prop):Prop:=
 ∀(B:Bs)(s0:Av)(w0:World)(s:Av)(w:World)(a:Act),(∀i,nx0<=i->¬s0.dom i)->B.n<=w0.heap.size->(∀h,rd=some h->s0.dom h)->J6 B s0 w0 nx0 st s w a->
  ∀Q:Exit->Act->World->Prop,(∀e st',R e st'->∀s' w' a',J6 B s0 w0 nx0 st' s' w' a'->bg Q w' a' e)->c.wpIn (FF (rd.map s0.μ)) 5 P Q a w
section
variable {rd:Option Nat} {nx0:Nat} {st:St} {R R':Ex->St->Prop}
theorem Au.mono(h:Au P rd nx0 c st R)(k: ∀e st',R e st'->R' e st'):Au P rd nx0 c st R':=
 λB s0 w0 s w a hn hB hrd A Q hQ=>h B s0 w0 s w a hn hB hrd A Q (λe st' he=>hQ e st' (k e st' he))
theorem Au.gc(g:Gc nx0 r st st')(h:Au P rd nx0 c st' R):Au P rd nx0 c st R:=
 λB s0 w0 _ w a hn hB hrd A Q hQ=>let ⟨s',A'⟩:=A.gc hn g;h B s0 w0 s' w a hn hB hrd A' Q hQ
theorem Au.gc_post(h:Au P rd nx0 c st (λe st1=>∃r st2,Gc nx0 r st1 st2/\R e st2)):Au P rd nx0 c st R:=
 λB s0 w0 s w a hn hB hrd A Q hQ=>h B s0 w0 s w a hn hB hrd A Q (λe _⟨_,st2,g,hR⟩ _ w' a' A'=>let ⟨s2,A2⟩:=A'.gc hn g;hQ e st2 hR s2 w' a' A2)
theorem Au.skip(h:R .normal st):Au P rd nx0 .skip st R:=λ_ _ _ s w a _ _ _ A _ hQ=>wpIn_skip (hQ _ _ h s w a A)
theorem Au.label{l:Nat}(h:R .normal st):Au P rd nx0 (.label l) st R:=λ_ _ _ s w a _ _ _ A _ hQ=>wpIn_label (hQ _ _ h s w a A)
theorem Au.exit(h:R (.exit i) st):Au P rd nx0 (.exit i) st R:=λ_ _ _ s w a _ _ _ A _ hQ=>wpIn_exit (hQ _ _ h s w a A)
theorem Au.ret(h:R .ret st):Au P rd nx0 .ret st R:=λ_ _ _ s w a _ _ _ A _ hQ=>wpIn_ret (hQ _ _ h s w a A)
theorem Au.seq{x y:Code}(h:Au P rd nx0 x st R')(k: ∀st1,R' .normal st1->Au P rd nx0 y st1 R)(ho: ∀e st1,e≠ .normal->R' e st1->R e st1):Au P rd nx0 (.seq x y) st R:=by
 intro B s0 w0 s w a hn hB hrd A Q hQ
 refine wpIn_seq (h B s0 w0 s w a hn hB hrd A _ ?_)
 intro e st1 he s1 w1 a1 A1
 cases e with
 |normal=>exact k st1 he B s0 w0 s1 w1 a1 hn hB hrd A1 Q hQ
 |exit id=>exact hQ _ _ (ho _ _ s_ he) s1 w1 a1 A1
 |ret=>exact hQ _ _ (ho _ _ s_ he) s1 w1 a1 A1
 |pan v=>exact λu hu=>hQ _ _ (ho _ _ s_ he) s1 w1 a1 A1 u hu
theorem Au.cond{c:Operand}{x y:Code}{t:Bool}(hc:ev st.tm c=some (.bool t))(h:Au P rd nx0 (bif t then x else y) st R):Au P rd nx0 (.cond c x y) st R:=by
 intro B s0 w0 s w a hn hB hrd A Q hQ
 have hev:a.eval c= .bool t:=Bb A.rel.rt hc
 refine wpIn_cond hev ?_
 have:=h B s0 w0 s w a hn hB hrd A Q hQ
 cases t<;>exact this
theorem Au.block(h:Au P rd nx0 b st R')(h1: ∀st1,R' (.exit id) st1->R .normal st1)(h2: ∀e st1,e≠ .exit id->R' e st1->R e st1):Au P rd nx0 (.block id b) st R:=by
 intro B s0 w0 s w a hn hB hrd A Q hQ
 refine wpIn_block (h B s0 w0 s w a hn hB hrd A _ ?_)
 intro e st1 he s1 w1 a1 A1
 cases e with
 |normal=>exact hQ _ _ (h2 _ _ s_ he) s1 w1 a1 A1
 |ret=>exact hQ _ _ (h2 _ _ s_ he) s1 w1 a1 A1
 |pan v=>exact λu hu=>hQ _ _ (h2 _ _ s_ he) s1 w1 a1 A1 u hu
 | exit i =>
  show Exit.inBlock id Q (.exit i) a1 w1
  by_cases hi:i=id
  .subst hi
   simp only[Exit.inBlock,if_true]
   exact hQ .normal _ (h1 _ he) s1 w1 a1 A1
  .simp only[Exit.inBlock,if_neg hi]
   exact hQ (.exit i) _ (h2 _ _ (by simpa using hi) he) s1 w1 a1 A1
theorem Au.scope(h:Au P rd nx0 b st R):Au P rd nx0 (.scope b) st R:=by
 intro B s0 w0 s w a hn hB hrd A Q hQ
 refine ar (h B s0 w0 s w a hn hB hrd A _ ?_)
 intro e st1 he s1 w1 a1 A1
 have:=hQ e st1 he s1 w1 a1 A1
 cases e<;>exact this
theorem Au.loop(S:α->St)(m:α->Nat)(h: ∀x,Au P rd nx0 b (S x) (λe st1=>(e= .normal/\∃x',m x'<m x/\st1=S x')\/(e≠ .normal/\R e st1)))(x:α):Au P rd nx0 (.loop b) (S x) R:=by
 intro B s0 w0 s w a hn hB hrd A Q hQ
 refine qF (λj a1 w1=>∃x s1,m x=j/\J6 B s0 w0 nx0 (S x) s1 w1 a1) ?_ (m x) a w ⟨x,s,rfl,A⟩
 rintro j a1 w1 ⟨y,s1,rfl,A1⟩
 refine h y B s0 w0 s1 w1 a1 hn hB hrd A1 _ ?_
 rintro e st2 (⟨rfl,x',hlt,rfl⟩|⟨hne,he⟩) s2 w2 a2 A2
 .exact⟨m x',hlt,x',s2,rfl,A2⟩
 .cases e with
  |normal=>exact absurd rfl hne
  |exit id=>exact hQ _ _ he s2 w2 a2 A2
  |ret=>exact hQ _ _ he s2 w2 a2 A2
  |pan v=>exact λu hu=>hQ _ _ he s2 w2 a2 A2 u hu
theorem Au.region(hE:E.Ok P)(hm:P.follows .mixedOrders=true){draw:Bool}{call:Dq}(hc:Na P st.tm.gl call)(hlog:J4 call){L:Rs}(h:AT E call ops draw st=some L)(hN: ∀e st',(e,st')∈L->e= .normal)(hR: ∀e st',(e,st')∈L->R e st'):Au P rd nx0 (.region id ops draw) st R:=by
 intro B s0 w0 s w a hn hB hrd A Q hQ
 have hr:=A.rel
 have hQ': ∀e st',(e,st')∈L->∀a' w',Iu B s w st st' a a' w'->Q (Zn e) a' w':=λe st' hm a' w'⟨lg,s',W⟩=>by
  have h1:=hQ e st' (hR e st' hm) s' w' a' (A.went W)
  have h2:=hN e st' hm
  subst h2
  exact h1
 have single: ∀{o:Option St},one? o=some L->∃st',o=some st'/\L=[(.normal,st')]:=by
  intro o ho
  cases o with
  |none=>cases ho
  |some st'=>cases ho;exact⟨st',rfl,rfl⟩
 unfold AT at h
 cases draw with
 |true=>
  rw[cond_true]at h
  obtain⟨st',h1,rfl⟩:=single h
  exact uM hE hm hc hlog h1 rfl hr (hQ' .normal st' (aN.2 rfl))
 | false =>
  rw[cond_false]at h
  refine wpIn_region ?_
  rw[dP,<-cB]
  split at h
  .rename_i it o ol hf
   exact vU hE.G hE.ext hc hf h hr hQ'
  .obtain⟨st',h1,rfl⟩:=single h
   exact SF hE.G hE.ext hc (l:=rd.map s0.μ) (Q:=Q) ops.toList 0 st st' s w a (λj _=>by simp) h1 rfl hr (hQ' .normal st' (aN.2 rfl))
end
def Lp(P:Program)(rd:Option Nat)(nx0:Nat)(b:Code)(R:Ex->St->Prop):Nat->St->Prop
 |0,_=>False
 |j+1,st=>Au P rd nx0 b st (λe st1=>(e= .normal/\Lp P rd nx0 b R j st1)\/(e≠ .normal/\R e st1))
theorem Lp.sat{nx0:Nat}{R:Ex->St->Prop}{j:Nat}{st:St}(h:Lp P rd nx0 b R j st):Au P rd nx0 (.loop b) st R:=by
 intro B s0 w0 s w a hn hB hrd A Q hQ
 refine qF (λj a1 w1=>∃st1 s1,Lp P rd nx0 b R j st1/\J6 B s0 w0 nx0 st1 s1 w1 a1) ?_ j a w ⟨st,s,h,A⟩
 rintro j a1 w1 ⟨st1,s1,h1,A1⟩
 cases j with
 |zero=>exact h1.elim
 | succ j =>
  refine h1 B s0 w0 s1 w1 a1 hn hB hrd A1 _ ?_
  rintro e st2 (⟨rfl,hk⟩|⟨hne,he⟩) s2 w2 a2 A2
  .exact⟨j,dH j,st2,s2,hk,A2⟩
  .cases e with
   |normal=>exact absurd rfl hne
   |exit id=>exact hQ _ _ he s2 w2 a2 A2
   |ret=>exact hQ _ _ he s2 w2 a2 A2
   |pan v=>exact λu hu=>hQ _ _ he s2 w2 a2 A2 u hu
def Ac(P:Program)(gl:T (List V))(c:V)(ars:List V)(H:T O)(nx:Nat)(r:CR):Prop:=
 (∀(s:Av)(w:World)(fv:Value)(vals:Array Value),RV s w c fv ->RL s w ars vals.toList ->RH s w H.get ->GL s w gl ->(∀i,nx<=i -> ¬s.dom i) ->
  ∃next,((do let d<-Deferred.ofValue fv vals;invoke d.target d.args):Sem Next).run P w= .ok next w/\BD P (Ge s w nx r) next w/\((∃f caps,c= .fn f caps)->∃f ars,next= .enter f ars))/\
 C5 H.get nx r.H.get r.nx r.lg
open Classical in
noncomputable def Wc:List F6->Dq
 |[],_,_,_,_=>none
 |q::qs,c,l,H,nx=>if q.c=c/\q.l=l/\q.H=H/\q.nx=nx then some q.r else Wc qs c l H nx
theorem mD: ∀{qs:List F6}{c:V}{l:List V}{H:T O}{nx:Nat}{r:CR},Wc qs c l H nx=some r->∃q∈qs,q.c=c/\q.l=l/\q.H=H/\q.nx=nx/\q.r=r
 |[],_,_,_,_,_,h=>by cases h
 | q :: qs, c, l, H, nx, r, h => by
  unfold Wc at h
  split at h
  .rename_i hq
   cases h
   exact⟨q,aZ,hq.1,hq.2.1,hq.2.2.1,hq.2.2.2,rfl⟩
  .obtain⟨q',h1,h2⟩:=mD h
   exact⟨q',aW _ h1,h2⟩
def Kf(q:F6):List F6->Prop
 |[]=>True
 |p::qs=>(p.c=q.c->p.l=q.l->p.H=q.H->p.nx=q.nx->p.r=q.r)/\Kf q qs
def BF(P:Program)(gl:T (List V))(qs:List F6):Prop:=∀q∈qs,Ac P gl q.c q.l q.H q.nx q.r
theorem Kf.mem: ∀{qs:List F6},Kf q qs->∀p∈qs,p.c=q.c->p.l=q.l->p.H=q.H->p.nx=q.nx->p.r=q.r
 |[],_,_,h=>by cases h
 |p::qs,h,x,hx=>by
  rcases aK.1 hx with rfl|hx
  .exact h.1
  .exact Kf.mem h.2 x hx
def iM:V->V->Bool
 | .fn a _,.fn b _=>Nat.beq a b
 | _,_=>true
theorem Su(v:V):iM v v=true:=by cases v<;>first|rfl|exact Nat.beq_refl _
def Fi(q:F6)(K:Prop):List F6->Prop
 |[]=>K
 |p::qs=>bif iM p.c q.c then(p.c=q.c->p.l=q.l->p.H=q.H->p.nx=q.nx->p.r=q.r)/\Fi q K qs else Fi q K qs
theorem Fi.out{K:Prop}: ∀{qs:List F6},Fi q K qs->Kf q qs/\K
 |[],h=>⟨trivial,h⟩
 |p::qs,h=>by
  unfold Fi at h
  cases hb:iM p.c q.c with
  |true=>rw[hb,cond_true]at h;exact⟨⟨h.1,(Fi.out h.2).1⟩,(Fi.out h.2).2⟩
  |false=>rw[hb,cond_false]at h;exact⟨⟨(λe=>by rw[e,Su]at hb;cases hb),(Fi.out h).1⟩,(Fi.out h).2⟩
structure C6(P:Program)(gl:T (List V))(qs:List F6):Prop where
 spec:BF P gl qs
 meets: ∀q∈qs,Wc qs q.c q.l q.H q.nx=some q.r
theorem C6.nil:C6 P gl []:=⟨λ_ h=>(by cases h),λ_ h=>(by cases h)⟩
theorem C6.cons(h:C6 P gl qs)(hq:Ac P gl q.c q.l q.H q.nx q.r)(hc:Kf q qs):C6 P gl (q::qs):=by
 refine⟨λp hp=>?_,λp hp=>?_⟩
 .rcases aK.1 hp with rfl|hp
  .exact hq
  .exact h.spec p hp
 .unfold Wc
  rcases aK.1 hp with rfl|hp
  .rw[if_pos ⟨rfl,rfl,rfl,rfl⟩]
  .split
   .rename_i he
    exact congrArg some (hc.mem p hp he.1.symm he.2.1.symm he.2.2.1.symm he.2.2.2.symm).symm
   .exact h.meets p hp
theorem C6.call(h:C6 P gl qs):Na P gl (Wc qs):=by
 intro c ars H nx r s w fv vals e
 obtain⟨q,hq,rfl,rfl,rfl,rfl,rfl⟩:=mD e
 exact(h.spec q hq).1 s w fv vals
theorem C6.log(h:C6 P gl qs):J4 (Wc qs):=by
 intro c ars H nx r e
 obtain⟨q,hq,rfl,rfl,rfl,rfl,rfl⟩:=mD e
 exact(h.spec q hq).2
theorem Ac.fnC(hE:E.Ok P){caps:List V}{r:CR}{R:Ex->St->Prop}(hfi:E.code f=some fi)(hle:Nat.ble (ars++caps).length fi.ntmps=true)(hlog:C5 H.get nx r.H.get r.nx r.lg)
  (h:Au P none nx fi.body ⟨⟨Cf (B0 fi.ntmps) 0 (ars++caps),gl,fi.ntmps⟩,H,nx,[]⟩ R)
  (hR: ∀e st,R e st->(e= .normal\/e= .ret)/\∃v,Db E.G st.tm st.H fi.res=some v/\∀(s:Av)(w:World)(ee:Ending)(w':World),RH s w H.get->(∀i,nx<=i->¬s.dom i)->Ge s w nx ⟨v,st.H,st.nx,st.lg⟩ ee w'->Ge s w nx r ee w'):Ac P gl (.fn f caps) ars H nx r:=by
 refine⟨λs w fv vals hc hargs hH hgl hn=>?_,hlog⟩
 obtain⟨vs,rfl,hcaps⟩:=hc
 have hall:RL s w (ars++caps) (vals++vs).toList:=by rw[eB];exact hargs.append hcaps
 have hrun: ∀x:Result Next,(callFunc f (vals++vs)).run P w=x->((do let d<-Deferred.ofValue (.func (.func f) #[] vs) vals;invoke d.target d.args):Sem Next).run P w=x:=by
  intro x hx;simp[Deferred.ofValue,invoke,hx]
 have hle:=aI hle
 obtain⟨fn,f1,f2,f3,f4,f5⟩:=hE.code f fi hfi
 refine⟨_,hrun _ (f5 _ w),?_,λ_=>⟨_,_,rfl⟩⟩
 have hsize:(vals++vs).size<=fi.ntmps:=by have:=hall.length;simp only[cB]at this;omega
 have hrel:Ir (bs w.heap.size) s w ⟨⟨Cf (B0 fi.ntmps) 0 (ars++caps),gl,fi.ntmps⟩,H,nx,[]⟩ {tmps:=(vals++vs)++Array.replicate (fn.ntmps-(vals++vs).size) undef,defers:=[]}:=by
  refine⟨hH,⟨by rw[Array.size_append,Array.size_replicate,f3];dsimp only;omega,λi x hx=>?_,hgl⟩,hn,[],rfl,cF,λD hD=>by simp at hD⟩
  dsimp only at hx
  rw[ZI]at hx
  split at hx
  .obtain⟨v,hv,hr⟩:=hall.get hx
   rw[cO,cZ]at hv
   exact⟨v,by rw[Array.getElem?_append_left (bM.1 hv).1];exact hv,hr⟩
  .rw[EJ]at hx;cases hx
 refine callsIn_of_wp_marks (F:=Fence.wide) (n:=4) f1 f2 trivial (AW (l:=none) (h (bs w.heap.size) s w s w _ hn (aC _) (λh e=>by cases e) ⟨hrel,Br.refl s w [],Cp s _,aC _⟩ _ ?_))
 intro e st hRe s' w' a' A
 obtain⟨he,x,hret,hconv⟩:=hR e st hRe
 have leave:LeavesInM Fence.wide 4 P fn a'.tmps (Ge s w nx r) a'.defers .returning w':=by
  obtain⟨Ds,d1,d2,d3⟩:=A.rel.df
  have d2:=(dM.1 d2).1
  have d3:=λD(hD:D∈Ds)=>d3 D (aL.2 (.inl hD))
  rw[d1,aV]
  refine qC Ds w' d2 (λD hD=>(d3 D hD).2.2.1) (λw'' g1 g2 g3 g4 g5=>?_)
  have hold: ∀b,b<w.heap.size->w''.heap[b]? =w'.heap[b]? :=λb hb=>g1 b (λhD=>by have h9:w.heap.size<=b:=(d3 b hD).1;omega)
  have hk:Er s' w' w'':=λb hb=>g1 b (λhD=>(d3 b hD).2.2.2 hb)
  have hH':RH s' w'' st.H.get:=by
   refine⟨λh o ho hl=>?_,A.rel.rh.inj,λb hb=>by rw[g2];exact A.rel.rh.old b hb⟩
   obtain⟨a1,a2,a3,a4⟩:=A.rel.rh.obj h o ho hl
   exact⟨a1,by rw[g2];exact a2,a3,RO.mono (Av.Le.refl s') hk a1 a4 (λ_=>g1 _ (λhD=>a3 (.inr (d3 _ hD).2.1)))⟩
  rw[<-f4]at hret
  obtain⟨v,v1,v2⟩:=YI (P:=P) hE.G hH' (A.rel.rt.mono (Av.Le.refl s') hk) rfl hret
  refine⟨v,v2,hconv s w _ _ hH hn ⟨v,s',rfl,v1,hH',?_,A.dom,A.le⟩⟩
  exact⟨A.step.le,A.step.fz,λb hb=>(hold b (hH.old b hb)).trans (A.step.kept b hb),⟨g3.trans A.step.mod.os,g4.trans A.step.mod.tape,g5.trans A.step.mod.output,by rw[g2];exact A.step.mod.size,λk hk hno=>(hold k hk).trans (A.step.mod.block k hk hno)⟩,A.step.new⟩
 rcases he with rfl|rfl<;>exact leave
def Ag(P:Program)(gl:T (List V))(f:Nat)(ars:List V)(v:V):Prop:=Ac P gl (.fn f []) ars .e 0 ⟨v,.e,0,[]⟩
theorem Ac.caps{caps:List V}{r:CR}(h:Ac P gl (.fn f []) (ars++caps) H nx r):Ac P gl (.fn f caps) ars H nx r:=by
 refine⟨λs w fv vals hc hargs hH hgl hn=>?_,h.2⟩
 obtain⟨vs,rfl,hcaps⟩:=hc
 obtain⟨next,e1,e2,e3⟩:=h.1 s w (.func (.func f) #[] #[]) (vals++vs) ⟨#[],rfl,rfl⟩ (by rw[eB];exact hargs.append hcaps) hH hgl hn
 refine⟨next,?_,e2,λ_=>e3 ⟨f,[],rfl⟩⟩
 simpa [Deferred.ofValue,invoke]using e1
theorem Ac.fn(hE:E.Ok P){caps:List V}{r:CR}(hfi:E.code f=some fi)(hle:Nat.ble (ars++caps).length fi.ntmps=true)(hlog:C5 H.get nx r.H.get r.nx r.lg)
  (h:Au P none nx fi.body ⟨⟨Cf (B0 fi.ntmps) 0 (ars++caps),gl,fi.ntmps⟩,H,nx,[]⟩ (λe st=>(e= .normal\/e= .ret)/\Db E.G st.tm st.H fi.res=some r.v/\st.H=r.H/\st.nx=r.nx/\st.lg=r.lg)):Ac P gl (.fn f caps) ars H nx r:=
 Ac.fnC hE hfi hle hlog h λe st⟨he,hret,h1,h2,h3⟩=>⟨he,_,hret,λs w ee w' _ _ hp=>by
  have:(⟨r.v,st.H,st.nx,st.lg⟩:CR)=r:=by cases r;simp_all
  rwa [this]at hp⟩
variable {P:Program}
theorem xM{F:Fence}{Q:Exit->Act->World->Prop}{l2:List Nat}: ∀(l1:List Nat)(a:Act)(w:World),wpOpsIn F n P ops (Exit.then (λa w=>wpOpsIn F n P ops Q l2 a w) Q) l1 a w->wpOpsIn F n P ops Q (l1++l2) a w
 |[],a,w,h=>h
 |i::l1,a,w,h=>by
  rw[dY,wpOpsIn_cons]
  rw[wpOpsIn_cons]at h
  exact wpOpIn_mono (λa w=>xM l1 a w) (zO (λ_ _ _ h=>h) (λh=>h) h)
theorem pR{fn:Func}{tmps:Array Value}{R:Ending->World->Prop}{F:Fence}{u:FrameMode}{tail:List Deferred}(hu:u≠ .run): ∀(Ds:List Nat)(w:World),Ds.Nodup->(∀D∈Ds,w.heap[D]? =some (.deferred (some [])))->
  (∀w',(∀b,b∉Ds->w'.heap[b]? =w.heap[b]?)->w'.heap.size=w.heap.size->w'.os=w.os->w'.tape=w.tape->w'.output=w.output->LeavesInM F n P fn tmps R tail u w')->LeavesInM F n P fn tmps R (Ds.map Mm++tail) u w
 |[],w,_,_,h=>h w (λ_ _=>rfl) rfl rfl rfl rfl
 | D :: Ds, w, hn, hD, h => by
  have hd:=hD D (aZ)
  obtain⟨h1,h2⟩:=dC.1 hn
  refine⟨hu,.inl ⟨D,w.putObj D (.deferred none),rfl,run_takeDeferred hd,?_⟩⟩
  refine pR hu Ds _ h2 (λD' hD'=>?_) (λw' g1 g2 g3 g4 g5=>?_)
  .have hne:D≠D':=λe=>h1 (e▸hD')
   rw[World.putObj_heap_other (Ne.symm hne)]
   exact hD D' (aW _ hD')
  .refine h w' (λb hb=>?_) (by rw[g2];simp[World.putObj]) g3 g4 g5
   rw[aK,not_or]at hb
   rw[g1 b hb.2,World.putObj_heap_other hb.1]
theorem J6.unmarked{nx0:Nat}{st:St}{Ds:List Nat}(A:J6 B s0 w0 nx0 st s w a)(hB:w0.heap.size<=B.n)(d3: ∀D∈Ds,EK B.n s w D){w'':World}
  (g1: ∀b,b∉Ds->w''.heap[b]? =w.heap[b]?)(g2:w''.heap.size=w.heap.size)(g3:w''.os=w.os)(g4:w''.tape=w.tape)(g5:w''.output=w.output)(hold: ∀b,s0.pr b->b<w0.heap.size):
  RH s w'' st.H.get/\Br s0 w0 s w'' st.lg/\Er s w w'':=by
 have hk:Er s w w'':=λb hb=>g1 b (λhD=>(d3 b hD).2.2.2 hb)
 have hlt: ∀b,b<w0.heap.size->w''.heap[b]? =w.heap[b]? :=λb hb=>g1 b (λhD=>by have h9:B.n<=b:=(d3 b hD).1;omega)
 refine⟨⟨λh o ho hl=>?_,A.rel.rh.inj,λb hb=>by rw[g2];exact A.rel.rh.old b hb⟩,?_,hk⟩
 .obtain⟨a1,a2,a3,a4⟩:=A.rel.rh.obj h o ho hl
  exact⟨a1,by rw[g2];exact a2,a3,RO.mono (Av.Le.refl s) hk a1 a4 (λ_=>g1 _ (λhD=>a3 (.inr (d3 _ hD).2.1)))⟩
 .exact⟨A.step.le,A.step.fz,λb hb=>(hlt b (hold b hb)).trans (A.step.kept b hb),⟨g3.trans A.step.mod.os,g4.trans A.step.mod.tape,g5.trans A.step.mod.output,by rw[g2];exact A.step.mod.size,λk hk hno=>(hlt k hk).trans (A.step.mod.block k hk hno)⟩,A.step.new⟩
theorem yH{P:Program}(hE:E.Ok P){caps:List V}(hfi:E.code f=some fi)(hle:Nat.ble (ars++caps).length fi.ntmps=true){vs vals:Array Value}(hcaps:RL s w caps vs.toList)(hargs:RL s w ars vals.toList)(hH:RH s w H.get)(hgl:GL s w gl)(hn: ∀i,nx<=i->¬s.dom i)(d:List Deferred):
  J6 ⟨w.heap.size,d,[]⟩ s w nx ⟨⟨Cf (B0 fi.ntmps) 0 (ars++caps),gl,fi.ntmps⟩,H,nx,[]⟩ s w {tmps:=(vals++vs)++Array.replicate (fi.ntmps-(vals++vs).size) undef,defers:=d}:=by
 have hall:RL s w (ars++caps) (vals++vs).toList:=by rw[eB];exact hargs.append hcaps
 have hle:=aI hle
 have hsize:(vals++vs).size<=fi.ntmps:=by have:=hall.length;simp only[cB]at this;omega
 refine⟨⟨hH,⟨by rw[Array.size_append,Array.size_replicate];dsimp only;omega,λi x hx=>?_,hgl⟩,hn,[],rfl,cF,λD hD=>by simp at hD⟩,Br.refl s w [],Cp s _,aC _⟩
 dsimp only at hx
 rw[ZI]at hx
 split at hx
 .obtain⟨v,hv,hr⟩:=hall.get hx
  rw[cO,cZ]at hv
  exact⟨v,by rw[Array.getElem?_append_left (bM.1 hv).1];exact hv,hr⟩
 .rw[EJ]at hx;cases hx
section
variable {rd:Option Nat} {nx0:Nat} {st:St} {R:Ex->St->Prop}
end
section
variable {P:Program} {E:B9} {call:Dq} {ops:Array Oper} {H:T O} {nx:Nat}
theorem OT(tm:TM)(d:Option Nat)(x:V):(tm.put d x).n=tm.n:=by
 cases d with
 |none=>rfl
 |some t=>rw[TM.put_some];cases Nat.blt t tm.n<;>rfl
end
noncomputable def Ky:Hh->Option OR
 |some (v,rd)=>some (.calm v rd)
 |none=>none
theorem Jf(x:Hh):Ky x=Jq x:=by rw[Je];rfl
noncomputable def Pa(E:B9)(o:Oper):OC:=
 match o.op with
 | .alloc t=>⟨λ_ _ _ nx=>Kp (XB E.G nx t)⟩
 | .box t x=>⟨λ_ tm _ nx=>Kp (Vp tm nx t x)⟩
 | .buildSlice .. | .makeSlice .. | .makeMap .. =>⟨λ_ tm _ nx=>Kp (Bj E.G tm nx o)⟩
 | .store t x y=>⟨λ_ tm H nx=>Do (NY nx (LO E.G tm H t x y))⟩
 | .mapUpdate t m k v=>⟨λ_ tm H nx=>Do (AP E.G tm H nx t m k v)⟩
 | .insert t m k v=>⟨λ_ tm H nx=>Do (AP E.G tm H nx t m k v)⟩
 | .mapEntry t m k=>⟨λ_ tm H nx=>Do (SX E.G tm H nx t m k)⟩
 | .entryStore _ m s v=>⟨λ_ tm H nx=>Do (ST tm H nx m s v)⟩
 | .range t x=>⟨λ_ tm H nx=>Do (SW E.G tm H nx t x)⟩
 | .entry x=>⟨λ_ tm H nx=>Do (TN tm H nx x)⟩
 | .call c=>match c.callee with
  | .builtin .append=>⟨λ_ tm H nx=>Do (TO E.G tm H nx c)⟩
  | .builtin .copy=>⟨λ_ tm H nx=>Do (RZ E.G tm H nx c)⟩
  | .value f=>⟨λcall tm H nx=>Do (SA E call tm H nx f c.args.toList)⟩
  | _=>⟨λ_ tm H _=>Ky (LP E.G tm H c)⟩
 | .move x=>⟨λ_ tm _ _=>Ky (IX tm x)⟩
 | .assign x=>⟨λ_ tm _ _=>Ky (IX tm x)⟩
 | .pick c a b=>⟨λ_ tm _ _=>Ky (Oc tm c a b)⟩
 | .load t x=>⟨λ_ tm H _=>Ky (RY E.G tm H t x)⟩
 | .nilCheck x=>⟨λ_ tm _ _=>Ky (AG tm x)⟩
 | .binOp op t x y _=>⟨λ_ tm _ _=>Ky (AH E.G tm op t x y)⟩
 | .unOp op _ x=>⟨λ_ tm _ _=>Ky (WB tm op x)⟩
 | .convert src dst x=>⟨λ_ tm _ _=>Ky (Oe E.G tm src dst x)⟩
 | .fieldAddr t x f=>⟨λ_ tm _ _=>Ky (ZF E.G tm t f x)⟩
 | .field t x f=>⟨λ_ tm _ _=>Ky (WZ E.G tm t f x)⟩
 | .indexAddr t x i=>⟨λ_ tm _ _=>Ky (ZL E.G tm t x i)⟩
 | .index t x i=>⟨λ_ tm _ _=>Ky (WY E.G tm t x i)⟩
 | .slice t x l h m=>⟨λ_ tm _ _=>Ky (WX E.G tm t x l h m)⟩
 | .extract x i=>⟨λ_ tm _ _=>Ky (YY tm x i)⟩
 | .build t ps=>⟨λ_ tm _ _=>Ky (XA E.G tm t ps)⟩
 | .lookup t x i ok=>⟨λ_ tm H _=>Ky (XY E.G tm H t x i ok)⟩
 |o=>⟨λ_ tm H _=>Ky (AN E.G tm H o)⟩
theorem Zw(E:B9)(call:Dq)(tm:TM)(H:T O)(nx:Nat)(o:Oper):(Pa E o).f call tm H nx=(VZ E o).f call tm H nx:=by
 unfold Pa VZ
 cases o.op<;>first|rfl|(simp only[Jf];done)|skip
 rename_i c
 dsimp only
 cases c.callee with
 |builtin b=>cases b<;>first|rfl|(simp only[Jf];done)
 |value f=>rfl
 |invoke=>simp only[Jf]
mutual
def Hf:V->Prop
 | .bool _| .int _ _| .str _| .nilp| .nilf| .nili| .nils| .nilm| .im _ _| .imp _=>True
 | .fn _ l=>Ba l
 | .mfn _ l=>Ba l
 | .agg l=>Ba l
 | .tup l=>Ba l
 | .ifc _ x=>Hf x
 | .ptr _ _| .sl _ _ _ _| .mp _| .yld _=>False
def Ba:List V->Prop
 |[]=>True
 |x::xs=>Hf x/\Ba xs
end
structure SL where
 sl:List (Nat×V)
 os:List O:=[]
 lg:List Nat:=[]
 md:List Nat:=[]
noncomputable def Hl:T V->List (Nat×V)->T V
 |t,[]=>t
 |t,(i,x)::l=>Hl (pt t i x) l
noncomputable def Ai:T O->Nat->List O->T O
 |t,_,[]=>t
 |t,i,o::os=>Ai (pt t i o) (i+1) os
noncomputable def Al(gl:T (List V))(n:Nat)(S:SL):St:=⟨⟨Hl (B0 n) S.sl,gl,n⟩,Ai .e 0 S.os,S.os.length,S.lg⟩
inductive E9 where
 |bool(t:Bool)
 |num(n:Int)
 |val(v:V)
 |at_
 |ld(v:V)
 |st(c:List V)
 |app
 |mk
 |call(r:CR)
 |fn(v:V)
 |loop(r:List Nat)(S:SL)(outs:List (Prop×Ex×SL))
 |unroll(n:Nat)
 |lk(es:List (V×V×Nat))(ck:Nat)(r0:Option (Nat×V))
 |up(es:List (V×V×Nat))(ck:Nat)(o':O)
 |lo(o:O)(v:V)
 |so(o:O)(c':List V)
 |ao(o:O)(n:Nat)(news:List V)
 |en(b:Nat)(k v:V)
 |an(n:Nat)(news:List V)
 |cp(n:Nat)(news:List V)
 |loopM(sl:List (Nat×V))(e:Ex)(sl':Nat->List (Nat×V))(Q:Nat->T O->Nat->List Nat->Prop)(rest:Nat->T O->Nat->List Nat->List (Nat×E9))
 |loopK(sl:List (Nat×V))(outs:List (Prop×Ex×SL))
 |fnP(v:V)
 |sw
 |nx(l:List Nat)(view:Nat->V×V×Nat)(ha:Nat->List (Nat×E9))(h0:List (Nat×E9))
 |to(r:List Nat)(S:SL)
 |toO(sl:List (Nat×V))
 |loopF(sl:List (Nat×V))(outs:List (Prop×Ex×List (Nat×V)))
 |aop(o:O)(n:Nat)(news:List V)
 |pn(i:Nat)(v:Option V)
 |pc(i:Nat)(r:CR)
abbrev Hs:=List (Nat×E9)
def key:Option Nat->Nat
 |some d=>d
 |none=>999999
def Ho:Dq:=λ_ _ _ _=>none
abbrev Ld:=Nat->List V->Option (Prop×V)
def T7(n:Option Nat)(off:Nat):Option O->Option (V×Prop)
 |some (.row _ _ c)=>match n with
  |some n=>some (.im n (Af off c),Ba (Af off c))
  |none=>some (.imp (Af off c),Ba (Af off c))
 | _=>none
mutual
noncomputable def frz(H:T O):V->Option (V×Prop)
 | .bool b=>some (.bool b,True)
 | .int k n=>some (.int k n,True)
 | .str x=>some (.str x,True)
 | .nilp=>some (.nilp,True)
 | .nilf=>some (.nilf,True)
 | .nili=>some (.nili,True)
 | .nils=>some (.im 0 [],True)
 | .nilm=>some (.nilm,True)
 | .im n l=>some (.im n l,True)
 | .imp l=>some (.imp l,True)
 | .sl h off len _=>T7 (some len) off (gt H h)
 | .ptr h off=>T7 none off (gt H h)
 | .agg l=>match Ff H l with|some (l',p)=>some (.agg l',p)|none=>none
 | .tup l=>match Ff H l with|some (l',p)=>some (.tup l',p)|none=>none
 | .fn f l=>match Ff H l with|some (l',p)=>some (.fn f l',p)|none=>none
 | .mfn f l=>match Ff H l with|some (l',p)=>some (.mfn f l',p)|none=>none
 | .ifc t x=>match frz H x with|some (x',p)=>some (.ifc t x',p)|none=>none
 | .mp _=>none
 | .yld _=>none
noncomputable def Ff(H:T O):List V->Option (List V×Prop)
 |[]=>some ([],True)
 |x::xs=>match frz H x,Ff H xs with
  |some (y,p),some (ys,q)=>some (y::ys,p/\q)
  | _,_=>none
end
mutual
def Jo:V->Bool
 | .bool _| .int _ _| .str _| .nilp| .nilf| .nili| .nils| .nilm| .im _ _| .imp _=>true
 | .fn _ l=>El l
 | .mfn _ l=>El l
 | .agg l=>El l
 | .tup l=>El l
 | .ifc _ x=>Jo x
 | .ptr _ _| .sl _ _ _ _| .mp _| .yld _=>false
def El:List V->Bool
 |[]=>true
 |x::xs=>Jo x&&El xs
end
def Ve(b:Bool)(p q:Prop):Prop:=bif b then q else p/\q
theorem Ve.out{b:Bool}{p q:Prop}(h:Ve b p q)(hp:b=true->p):p/\q:=by
 unfold Ve at h
 cases b with
 |true=>exact⟨hp rfl,h⟩
 |false=>exact h
def DC(t:Bool)(K:OR->Prop):Option OR->Prop
 |some (.calm (.bool b) rd)=>b=t/\K (.calm (.bool t) rd)
 | _=>False
def PF(n:Int)(K:OR->Prop):Option OR->Prop
 |some (.calm (.int k m) rd)=>m=n/\K (.calm (.int k n) rd)
 | _=>False
def W4(v:V)(K:OR->Prop)(o:Option V):Prop:=o=some v/\K (.calm v [])
def sD(ti:TI)(n:Int)(K:OR->Prop):V->Prop
 | .im m l=>(0<=n/\n<m)/\K (.calm (.imp (l.drop (n.toNat*ti.size))) [])
 | .sl h off m _=>(0<=n/\n<m)/\K (.calm (.ptr h (off+n.toNat*ti.size)) [])
 | _=>False
def IV(ti:TI)(v:V)(l:List V)(rd:List Nat)(K:OR->Prop):Prop:=
 bif ti.agg then(match v with| .agg c=>Dj ti.size l=some c/\K (.calm (.agg c) rd)| _=>False)else(Ae l=some v/\K (.calm v rd))
noncomputable def rM(H:T O)(ti:TI)(v:V)(K:OR->Prop):V->Prop
 | .imp l=>IV ti v l [] K
 | .ptr h off=>match gt H h with
  |some (.row _ _ c)=>IV ti v (Af off c) [h] K
  | _=>False
 | _=>False
noncomputable def rC(H:T O)(nx:Nat)(ti:TI)(c':List V)(xs:List V)(K:OR->Prop):V->Prop
 | .ptr h off=>match gt H h with
  |some (.row et sp c)=>bif Nat.beq xs.length ti.size&&Bl xs then Bg off c xs=some c'/\K (.eff ⟨.tup [],pt H h (.row et sp c'),nx,[h]⟩)else False
  | _=>False
 | _=>False
noncomputable def RF(H:T O)(nx e sz by_:Nat)(n:Nat)(news:List V)(K:OR->Prop):V->Prop
 | .sl h off len none=>match gt H h with
  | some (.row et (some sz') c) => bif Nat.beq off 0 && Nat.beq et e && Nat.beq sz' sz && Bl news then
    c.length=len*sz/\len+n<=9223372036854775807/\(len+n)*by_<=140737488355328/\K (.eff ⟨.sl nx 0 (len+n) none,pt (pt H h .dead) nx (.row e (some sz) (c++news)),nx+1,[h]⟩)else False
  | _=>False
 | _=>False
def az(nx e:Nat)(by_:Nat)(z:List V)(l c:Int)(K:OR->Prop):Prop:=
 (0<=l/\l<=c/\(by_:Int)*c<=281474976710656/\c<=9223372036854775807)/\K (.alloc (.sl nx 0 l.toNat (some (c.toNat-l.toNat))) (.row e none (Cx c.toNat z)))
noncomputable def rK(H:T O)(ti:TI)(o:O)(v:V)(K:OR->Prop):V->Prop
 | .ptr h off=>match o with
  | .row _ _ c=>gt H h=some o/\IV ti v (Af off c) [h] K
  | _=>False
 | _=>False
noncomputable def rD(H:T O)(nx:Nat)(ti:TI)(o:O)(c':List V)(xs:List V)(K:OR->Prop):V->Prop
 | .ptr h off=>match o with
  | .row et sp c=>bif Nat.beq xs.length ti.size&&Bl xs then(gt H h=some o/\Bg off c xs=some c')/\K (.eff ⟨.tup [],pt H h (.row et sp c'),nx,[h]⟩)else False
  | _=>False
 | _=>False
noncomputable def sF(H:T O)(nx e sz by_:Nat)(o:O)(n:Nat)(news:List V)(K:OR->Prop):V->Prop
 | .sl h off len none=>match o with
  | .row et (some sz') c=>bif Nat.beq off 0&&Nat.beq et e&&Nat.beq sz' sz&&Bl news then
    gt H h=some o/\c.length=len*sz/\len+n<=9223372036854775807/\(len+n)*by_<=140737488355328/\K (.eff ⟨.sl nx 0 (len+n) none,pt (pt H h .dead) nx (.row e (some sz) (c++news)),nx+1,[h]⟩)else False
  | _=>False
 | _=>False
noncomputable def sE(H:T O)(nx e sz by_:Nat)(o:O)(n:Nat)(news:List V)(K:OR->Prop):V->Prop
 | .sl h off len none=>match o with
  | .row et (some sz') c=>bif Nat.beq off 0&&Nat.beq et e&&Nat.beq sz' sz&& !(Nat.beq sz 0)then
    (gt H h=some o/\c.length=len*sz/\1<=n/\len+n<=9223372036854775807/\(len+n)*by_<=140737488355328/\Bl news=true)/\K (.eff ⟨.sl nx 0 (len+n) none,pt (pt H h .dead) nx (.row e (some sz) (c++news)),nx+1,[h]⟩)else False
  | _=>False
 | _=>False
section
variable (P:Program) (E:B9) (sp:Ld)
noncomputable def kX(qs:List F6)(h:E9)(tm:TM)(H:T O)(nx:Nat)(o:Oper)(K:List F6->OR->Prop):Prop:=
 match h with
 | .bool t=>DC t (K qs) ((Pa E o).f Ho tm H nx)
 | .num n=>PF n (K qs) ((Pa E o).f Ho tm H nx)
 | .val v=>match o.op with
  | .binOp op t x y _=>match Cy tm x,Cy tm y with
   |some a,some b=>W4 v (K qs) (B6 E.G op t a b)
   | _,_=>False
  | .slice t x l h m=>match Cy tm x,M5 tm l,M5 tm h,M5 tm m with
   |some a,some l,some h,some m=>W4 v (K qs) (Ce E.G t a l h m)
   | _,_,_,_=>False
  | .index t x i=>match Cy tm x,Cy tm i with
   |some a,some (.int _ n)=>W4 v (K qs) (Jw E.G t a n)
   | _,_=>False
  | .indexAddr t x i=>match Cy tm x,Cy tm i with
   |some a,some (.int _ n)=>W4 v (K qs) (Gs E.G t a n)
   | _,_=>False
  | _=>False
 | .at_=>match o.op with
  | .indexAddr t x i=>match E.G.ty t,Cy tm x,Cy tm i with
   |some {desc:=.slice elem,.. },some a,some (.int _ n)=>match E.G.ty elem with
    |some ti=>sD ti n (K qs) a
    |none=>False
   | _,_,_=>False
  | _=>False
 | .ld v=>match o.op with
  | .load t x=>match E.G.ty t,Cy tm x with
   |some ti,some a=>rM H ti v (K qs) a
   | _,_=>False
  | _=>False
 | .st c=>match o.op with
  | .store t x y=>match E.G.ty t,Cy tm x,Cy tm y with
   |some ti,some a,some v=>rC H nx ti c (Bi v) (K qs) a
   | _,_,_=>False
  | _=>False
 | .app=>match o.op with
  | .call c=>match c.callee with
   | .builtin .append=>match c.args.toList,c.argTypes.toList with
    | [x, y], [t, tx] => match E.G.ty t, E.G.ty tx, Cy tm x, Cy tm y with
     | some { desc := .slice e, .. }, some { desc := .slice _, .. }, some a, some b => match E.G.ty e with
      |some {size:=sz,bytes:=by_,zero:=some _,.. }=>match A6 H sz b with
       |some (n,news)=>bif Nat.beq n 0||Nat.beq sz 0 then False else RF H nx e sz by_ n news (K qs) a
       |none=>False
      | _=>False
     | _,_,_,_=>False
    | _,_=>False
   | _=>False
  | _=>False
 | .mk=>match o.op with
  | .makeSlice t l c=>match E.G.ty t,Cy tm l,Cy tm c with
   |some {desc:=.slice e,.. },some (.int _ l),some (.int _ c)=>match E.G.ty e with
    |some {bytes:=by_,zero:=some z,.. }=>az nx e by_ z l c (K qs)
    | _=>False
   | _,_,_=>False
  | _=>False
 | .call r=>match o.op with
  | .call c=>match c.callee with
   | .value f=>match Cy tm f,Jy tm c.args.toList with
    |some g,some l=>match Fg E g l with
     |some _=>False
     |none=>Ac P tm.gl g l H nx r/\Fi ⟨g,l,H,nx,r⟩ (K (⟨g,l,H,nx,r⟩::qs) (.eff r)) qs
    | _,_=>False
   | _=>False
  | _=>False
 | .fn v=>match o.op with
  | .call c=>match c.callee with
   | .value f=>match Cy tm f,Jy tm c.args.toList with
    | some (.fn f caps), some l => match Fg E (.fn f caps) l with
     |some _=>False
     |none=>match Ff H (l++caps)with
      |some (l',p1)=>bif Jo v&&(El (l++caps)||T4 v)then Ve (El (l++caps)) p1 (Ag P tm.gl f l' v/\Fi ⟨.fn f caps,l,H,nx,⟨v,H,nx,[]⟩⟩ (K (⟨.fn f caps,l,H,nx,⟨v,H,nx,[]⟩⟩::qs) (.eff ⟨v,H,nx,[]⟩)) qs)else False
      |none=>False
    | _,_=>False
   | _=>False
  | _=>False
 | .lo ob v=>match o.op with
  | .load t x=>match E.G.ty t,Cy tm x with
   |some ti,some a=>rK H ti ob v (K qs) a
   | _,_=>False
  | _=>False
 | .so ob c=>match o.op with
  | .store t x y=>match E.G.ty t,Cy tm x,Cy tm y with
   |some ti,some a,some v=>rD H nx ti ob c (Bi v) (K qs) a
   | _,_,_=>False
  | _=>False
 | .cp n news=>match o.op with
  | .call c=>match c.callee with
   | .builtin .append=>match c.args.toList,c.argTypes.toList with
    | [x, y], [t, tx] => match E.G.ty t, E.G.ty tx, Cy tm x, Cy tm y with
     |some {desc:=.slice e,.. },some {desc:=.slice _,.. },some (.sl h off len (some r)),some b=>match E.G.ty e with
      |some {size:=sz,bytes:=by_,zero:=some _,.. }=>bif Nat.beq sz 0|| !(Nat.beq r 0)then False else(bif Nat.beq len 0 then(A6 H sz b=some (n,news)/\A6 H sz (.sl h off len (some r))=some (0,[])/\1<=n/\n<=9223372036854775807/\n*by_<=140737488355328)/\K qs (.eff ⟨.sl nx 0 n none,pt H nx (.row e (some sz) news),nx+1,[]⟩)else(A6 H sz b=some (n,news.drop (len*sz))/\A6 H sz (.sl h off len (some r))=some (len,news.take (len*sz))/\1<=n/\len+n<=9223372036854775807/\(len+n)*by_<=140737488355328)/\K qs (.eff ⟨.sl nx 0 (len+n) none,pt H nx (.row e (some sz) news),nx+1,[]⟩))
      | _=>False
     | _,_,_,_=>False
    | _,_=>False
   | _=>False
  | _=>False
 | .an n news=>match o.op with
  | .call c=>match c.callee with
   | .builtin .append=>match c.args.toList,c.argTypes.toList with
    | [x, y], [t, tx] => match E.G.ty t, E.G.ty tx, Cy tm x, Cy tm y with
     |some {desc:=.slice e,.. },some {desc:=.slice _,.. },some .nils,some b=>match E.G.ty e with
      |some {size:=sz,bytes:=by_,zero:=some _,.. }=>bif Nat.beq n 0||Nat.beq sz 0 then False else(A6 H sz b=some (n,news)/\n<=9223372036854775807/\n*by_<=140737488355328)/\K qs (.eff ⟨.sl nx 0 n none,pt H nx (.row e (some sz) news),nx+1,[]⟩)
      | _=>False
     | _,_,_,_=>False
    | _,_=>False
   | _=>False
  | _=>False
 | .ao ob n news=>match o.op with
  | .call c=>match c.callee with
   | .builtin .append=>match c.args.toList,c.argTypes.toList with
    | [x, y], [t, tx] => match E.G.ty t, E.G.ty tx, Cy tm x, Cy tm y with
     |some {desc:=.slice e,.. },some {desc:=.slice _,.. },some a,some b=>match E.G.ty e with
      |some {size:=sz,bytes:=by_,zero:=some _,.. }=>A6 H sz b=some (n,news)/\(bif Nat.beq n 0||Nat.beq sz 0 then False else sF H nx e sz by_ ob n news (K qs) a)
      | _=>False
     | _,_,_,_=>False
    | _,_=>False
   | _=>False
  | _=>False
 | .aop ob n news=>match o.op with
  | .call c=>match c.callee with
   | .builtin .append=>match c.args.toList,c.argTypes.toList with
    | [x, y], [t, tx] => match E.G.ty t, E.G.ty tx, Cy tm x, Cy tm y with
     |some {desc:=.slice e,.. },some {desc:=.slice _,.. },some a,some b=>match E.G.ty e with
      |some {size:=sz,bytes:=by_,zero:=some _,.. }=>A6 H sz b=some (n,news)/\sE H nx e sz by_ ob n news (K qs) a
      | _=>False
     | _,_,_,_=>False
    | _,_=>False
   | _=>False
  | _=>False
 | _=>False
noncomputable def Qb(qs:List F6)(gl:T (List V))(g:V)(l:List V)(H:T O)(nx:Nat)(K:List F6->OR->Prop):Prop:=
 match Fg E g l with
 |some _=>False
 | none => match g with
  | .fn f []=>match Ff H l with
   |some (l',p1)=>match sp f l' with
    |some (p,v)=>bif Jo v&&(El l||T4 v)then Ve (El l) p1 (p/\Fi ⟨.fn f [],l,H,nx,⟨v,H,nx,[]⟩⟩ (K (⟨.fn f [],l,H,nx,⟨v,H,nx,[]⟩⟩::qs) (.eff ⟨v,H,nx,[]⟩)) qs)else False
    |none=>False
   |none=>False
  | _=>False
noncomputable def W0(qs:List F6)(tm:TM)(H:T O)(nx:Nat)(o:Oper)(K:List F6->OR->Prop):Prop:=
 match(Pa E o).f Ho tm H nx with
 |some r=>K qs r
 | none => match o.op with
  | .call c=>match c.callee with
   | .value f=>match Cy tm f,Jy tm c.args.toList with
    |some g,some l=>Qb E sp qs tm.gl g l H nx K
    | _,_=>False
   | _=>False
  | _=>False
noncomputable def Wy(hs:Hs)(qs:List F6)(tm:TM)(H:T O)(nx:Nat)(o:Oper)(K:Hs->List F6->OR->Prop):Prop:=
 match hs with
 |(d,h)::hs'=>bif Nat.beq d (key o.dst)then kX P E qs h tm H nx o (K hs')else W0 E sp qs tm H nx o (K hs)
 |[]=>W0 E sp qs tm H nx o (K [])
noncomputable def IT(ops:Array Oper)(K:Hs->List F6->St->Prop):List Oper->Hs->List F6->St->Prop
 |[],hs,qs,st=>K hs qs st
 | o :: l, hs, qs, ⟨tm, H, nx, lg⟩ => match Iv tm ops o with
  |some true=>Wy P E sp hs qs tm H nx o λhs qs r=>match r with
   | .calm v _=>IT ops K l hs qs ⟨Jx tm o.dst v,H,nx,lg⟩
   | .alloc v ob=>IT ops K l hs qs ⟨Jx tm o.dst v,pt H nx ob,nx+1,lg⟩
   | .eff r=>IT ops K l hs qs ⟨Jx tm o.dst r.v,r.H,r.nx,r.lg++lg⟩
  |some false=>IT ops K l hs qs ⟨Jx tm o.dst (.tup []),H,nx,lg⟩
  |none=>False
noncomputable def IY(ops:Array Oper)(bf:Array Nat)(K:Hs->List F6->St->Prop):List Nat->Hs->List F6->St->Ew->Prop
 |[],hs,qs,st,_=>K hs qs st
 | j :: js, hs, qs, ⟨tm, H, nx, lg⟩, ef => match ops[j]? with
  |none=>False
  | some o => match Iv tm ops o with
   |some true=>Wy P E sp hs qs tm H nx o λhs qs r=>match r with
    | .calm v rd=>bif ef.all λq=>(bf.getD j 0).testBit q.1||O8 rd q.2 then IY ops bf K js hs qs ⟨Jx tm o.dst v,H,nx,lg⟩ ef else False
    | .alloc v ob=>IY ops bf K js hs qs ⟨Jx tm o.dst v,pt H nx ob,nx+1,lg⟩ ef
    | .eff r=>bif Jz o then IY ops bf K js hs qs ⟨Jx tm o.dst r.v,r.H,r.nx,r.lg++lg⟩ ((j,r.lg)::ef)else False
   |some false=>IY ops bf K js hs qs ⟨Jx tm o.dst (.tup []),H,nx,lg⟩ ef
   |none=>False
noncomputable def YE(ops:Array Oper)(draw:Bool)(hs:Hs)(st:St)(K:Hs->St->Prop):Prop:=
 bif draw then(bif Nr ops then IY P E sp ops (Region.before ops) (λhs _ st=>K hs st) (Hv (Region.before ops) ops.size ops.toList 0 0) hs [] st []else False)
 else match E5 ops with
  |some _=>False
  |none=>IT P E sp ops (λhs _ st=>K hs st) ops.toList hs [] st
end
variable {P:Program}
theorem AR:(∀x,Jo x=true->Hf x)/\∀l,El l=true->Ba l:=by
 have: ∀x,(Jo x=true->Hf x):=by
  intro x
  induction x using V.rec (motive_2:=λl=>El l=true->Ba l)with
  |fn f l ih=>assumption
  |mfn f l ih=>assumption
  |agg l ih=>assumption
  |tup l ih=>assumption
  |ifc t x ih=>assumption
  |nil=>trivial
  |cons x l ih1 ih2=>
   rename_i h
   unfold El at h
   rw[aD]at h
   exact⟨ih1 h.1,ih2 h.2⟩
  | _=>intro h;trivial
 refine⟨this,λl=>?_⟩
 induction l with
 |nil=>intro _;trivial
 |cons x l ih=>
  intro h
  unfold El at h
  rw[aD]at h
  exact⟨this x h.1,ih h.2⟩
mutual
theorem Hf.rv(hf: ∀b,s.fz b->s'.fz b): ∀(x:V)(v:Value),Hf x->RV s w x v->RV s' w x v
 | .bool _,_,_,h| .int _ _,_,_,h| .str _,_,_,h| .nilp,_,_,h| .nilf,_,_,h| .nili,_,_,h| .nils,_,_,h| .nilm,_,_,h=>h
 | .fn _ l,_,hx,⟨vs,e,h⟩=>⟨vs,e,Ba.rl hf l _ hx h⟩
 | .mfn _ l,_,hx,⟨vs,e,h⟩=>⟨vs,e,Ba.rl hf l _ hx h⟩
 | .agg l,_,hx,⟨vs,e,h⟩=>⟨vs,e,Ba.rl hf l _ hx h⟩
 | .tup l,_,hx,⟨vs,e,h⟩=>⟨vs,e,Ba.rl hf l _ hx h⟩
 | .ifc _ x,_,hx,⟨u,e,h⟩=>⟨u,e,Hf.rv hf x _ hx h⟩
 | .im _ l,_,_,⟨a,cap,e,hc,h⟩=>⟨a,cap,e,hc,λhn=>let ⟨b,off,ha,hl⟩:=h hn;⟨b,off,ha,RC.mono' hf (λ_ _=>rfl) l b off hl⟩⟩
 | .imp l,_,_,⟨b,off,e,hl⟩=>⟨b,off,e,RC.mono' hf (λ_ _=>rfl) l b off hl⟩
 | .ptr _ _,_,hx,_| .sl _ _ _ _,_,hx,_| .mp _,_,hx,_| .yld _,_,hx,_=>hx.elim
theorem Ba.rl(hf: ∀b,s.fz b->s'.fz b): ∀(l:List V)(vs:List Value),Ba l->RL s w l vs->RL s' w l vs
 |[],_,_,h=>h
 |x::xs,_,hx,⟨v,vs',e,h1,h2⟩=>⟨v,vs',e,Hf.rv hf x v hx.1 h1,Ba.rl hf xs vs' hx.2 h2⟩
end
mutual
theorem Bo.of_hf{H:Nat->Option O}: ∀{ρ:Nat->Option Nat}(x:V),Hf x->Bo H F ρ x x
 | _,.bool _,_| _,.int _ _,_| _,.str _,_| _,.nilp,_| _,.nilf,_| _,.nili,_| _,.nils,_| _,.nilm,_=>rfl
 | _,.im _ _,_=>.inl rfl
 | _,.imp _,_=>.inl rfl
 | _,.fn _ l,h=>⟨l,rfl,A8.of_hf l h⟩
 | _,.mfn _ l,h=>⟨l,rfl,A8.of_hf l h⟩
 | _,.agg l,h=>⟨l,rfl,A8.of_hf l h⟩
 | _,.tup l,h=>⟨l,rfl,A8.of_hf l h⟩
 | _,.ifc _ x,h=>⟨x,rfl,Bo.of_hf x h⟩
 | _,.ptr _ _,h| _,.sl _ _ _ _,h| _,.mp _,h| _,.yld _,h=>h.elim
theorem A8.of_hf{H:Nat->Option O}: ∀{ρ:Nat->Option Nat}(l:List V),Ba l->A8 H F ρ l l
 | _,[],_=>rfl
 | _,x::xs,h=>⟨x,xs,rfl,Bo.of_hf x h.1,A8.of_hf xs h.2⟩
end
theorem Bq.of_hf{H:Nat->Option O}: ∀(l:List V),Ba l->Bq H F l l
 |[],_=>trivial
 |x::xs,h=>⟨x,xs,rfl,Bo.of_hf x h.1,Bq.of_hf xs h.2⟩
mutual
theorem Ly: ∀(x y:V)(p:Prop),frz H x=some (y,p)->p->Bo H.get (λ_=>True) ρ y x
 | .bool _,_,_,h,_| .int _ _,_,_,h,_| .str _,_,_,h,_| .nilp,_,_,h,_| .nilf,_,_,h,_| .nili,_,_,h,_| .nilm,_,_,h,_=>by cases h;rfl
 | .nils,_,_,h,_=>by cases h;exact .inr (.inl ⟨rfl,rfl⟩)
 | .im _ _,_,_,h,_| .imp _,_,_,h,_=>by cases h;exact .inl rfl
 | .sl g off len room,_,_,h,hp=>by
  unfold frz at h
  rw[Cm]at h
  cases ho:H.get g with
  |none=>rw[ho]at h;cases h
  |some o=>
   rw[ho]at h
   cases o<;>try(cases h;done)
   cases h
   rw[Om]at hp⊢
   exact .inr (.inr ⟨g,off,room,_,_,_,rfl,trivial,ho,Bq.of_hf _ hp⟩)
 | .ptr g off,_,_,h,hp=>by
  unfold frz at h
  rw[Cm]at h
  cases ho:H.get g with
  |none=>rw[ho]at h;cases h
  |some o=>
   rw[ho]at h
   cases o<;>try(cases h;done)
   cases h
   rw[Om]at hp⊢
   exact .inr ⟨g,off,_,_,_,rfl,trivial,ho,Bq.of_hf _ hp⟩
 | .agg l,_,_,h,hp=>by
  unfold frz at h
  split at h
  .rename_i l' q e;cases h;exact⟨l,rfl,Dc l l' _ e hp⟩
  .cases h
 | .tup l,_,_,h,hp=>by
  unfold frz at h
  split at h
  .rename_i l' q e;cases h;exact⟨l,rfl,Dc l l' _ e hp⟩
  .cases h
 | .fn f l,_,_,h,hp=>by
  unfold frz at h
  split at h
  .rename_i l' q e;cases h;exact⟨l,rfl,Dc l l' _ e hp⟩
  .cases h
 | .mfn f l,_,_,h,hp=>by
  unfold frz at h
  split at h
  .rename_i l' q e;cases h;exact⟨l,rfl,Dc l l' _ e hp⟩
  .cases h
 | .ifc t x,_,_,h,hp=>by
  unfold frz at h
  split at h
  .rename_i x' q e;cases h;exact⟨x,rfl,Ly x x' _ e hp⟩
  .cases h
 | .mp _,_,_,h,_| .yld _,_,_,h,_=>by cases h
theorem Dc: ∀(l m:List V)(p:Prop),Ff H l=some (m,p)->p->A8 H.get (λ_=>True) ρ m l
 |[],_,_,h,_=>by cases h;rfl
 | x :: xs, _, _, h, hp => by
  unfold Ff at h
  split at h
  .rename_i y q ys q' e1 e2
   cases h
   exact⟨x,xs,rfl,Ly x y q e1 hp.1,Dc xs ys q' e2 hp.2⟩
  .cases h
end
theorem DP(hd: ∀b,s.pr b->b<w.heap.size):RH s w (T.e:T O).get:=⟨λ_ _ h=>by simp at h,λ_ _ _ _ h=>by simp at h,hd⟩
theorem tX(H H':T O):(∀x,Jo x=true->frz H x=frz H' x)/\∀l,El l=true->Ff H l=Ff H' l:=by
 have: ∀x,(Jo x=true->frz H x=frz H' x):=by
  intro x
  induction x using V.rec (motive_2:=λl=>El l=true->Ff H l=Ff H' l)with
  |fn f l ih=>intro h;unfold frz;rw[ih h]
  |mfn f l ih=>intro h;unfold frz;rw[ih h]
  |agg l ih=>intro h;unfold frz;rw[ih h]
  |tup l ih=>intro h;unfold frz;rw[ih h]
  |ifc t x ih=>intro h;unfold frz;rw[ih h]
  |nil=>rfl
  |cons x l ih1 ih2=>
   grind[El,Ff]
  | _=>intro h;trivial
 refine⟨this,λl=>?_⟩
 induction l with
 |nil=>intro _;rfl
 |cons x l ih=>
  grind[El,Ff]
theorem wG:(∀x,Jo x=true->∀y p,frz H x=some (y,p)->p)/\∀l,El l=true->∀m p,Ff H l=some (m,p)->p:=by
 have key: ∀x,(Jo x=true->∀y p,frz H x=some (y,p)->p):=by
  intro x
  induction x using V.rec (motive_2:=λl=>El l=true->∀m p,Ff H l=some (m,p)->p)with
  |nil=>rename_i e;cases e;trivial
  |cons x l ih1 ih2=>
   rename_i h m p e
   unfold El at h
   rw[aD]at h
   unfold Ff at e
   split at e
   .rename_i e1 e2;cases e;exact⟨ih1 h.1 _ _ e1,ih2 h.2 _ _ e2⟩
   .cases e
  |fn f l ih|mfn f l ih|agg l ih|tup l ih|ifc t x ih=>
   intro h y p e
   unfold frz at e
   split at e
   .rename_i e1;cases e;exact ih h _ _ e1
   .cases e
  | _=>intro h y p e;first|(unfold frz at e;cases e;trivial)|(unfold Jo at h;cases h)
 refine⟨key,λl=>?_⟩
 induction l with
 |nil=>intro _ m p e;cases e;trivial
 |cons x l ih=>
  intro h m p e
  unfold El at h
  rw[aD]at h
  unfold Ff at e
  split at e
  .rename_i e1 e2;cases e;exact⟨key x h.1 _ _ e1,ih h.2 _ _ e2⟩
  .cases e
theorem zV{v:V}(h:Ag P gl f ars v)
  (hx: ∀(s:Av)(w:World)(vals:Array Value),RL s w ars' vals.toList ->RH s w H.get -> ∃F:Nat ->Prop,(∀b,s.fz b ->F b)/\(∀b,F b ->b<w.heap.size)/\RL (sg F) w ars vals.toList/\
   ∀(s':Av)(w':World)(u:Value),RV s' w' v u->Br (sg F) w s' w' []->RH s w' H.get->(∀b,s'.fz b->b<w'.heap.size)->∃s'':Av,RV s'' w' v u/\RH s'' w' H.get/\Br s w s'' w' []/\s''.dom=s.dom):Ac P gl (.fn f []) ars' H nx ⟨v,H,nx,[]⟩:=by
 refine⟨λs w fv vals hc hargs hH hgl hn=>?_,C5.refl _ _ _⟩
 obtain⟨F,hF1,hF2,hF3,hF4⟩:=hx s w vals hargs hH
 obtain⟨next,e1,e2,e3⟩:=h.1 (sg F) w fv vals (Hf.rv (s':=sg F) hF1 _ _ trivial hc) hF3 (DP (λb hb=>hb.elim (hF2 b) False.elim)) (λg l hg=>RC.mono' (s':=sg F) hF1 (λ_ _=>rfl) l g 0 (hgl g l hg)) (λ_ _ h=>h)
 refine⟨next,e1,?_,e3⟩
 obtain⟨f',ars2,rfl⟩:=e3 ⟨f,[],rfl⟩
 refine CallsIn.mono e2 ?_
 rintro e w' ⟨u,s',rfl,g1,g2,g3,g4,g5⟩
 obtain⟨r1,r2⟩:=hH.below (w':=w') ⟨g3.mod.os,g3.mod.tape,g3.mod.output,g3.mod.size,λk hk=>g3.mod.block k hk (λ⟨_,hm,_⟩=>by cases hm)⟩
 obtain⟨s'',q1,q2,q3,q4⟩:=hF4 s' w' u g1 g3 r1 (λb hb=>g2.old b (.inl hb))
 exact⟨u,s'',rfl,q1,q2,q3,λi=>by simp_all,aC _⟩
theorem lM{v:V}(h:Ag P gl f ars v)(hv:A8 (T.e:T O).get (λ_=>True) (λ_=>none) ars ars')(hhf:Hf v):Ac P gl (.fn f []) ars' H nx ⟨v,H,nx,[]⟩:=by
 refine zV h λs w vals hargs hH=>⟨s.fz,λ_ h=>h,λb hb=>hH.old b (.inl hb),?_,λs' w' u g1 g3 r1 hlt=>?_⟩
 .exact A8.rl (s:=s) (DP hH.old) (s':=sg s.fz) ⟨λ_ _ e=>(by cases e),λg t sp c _ hg=>(by simp at hg),λb hb=>hb⟩ _ _ _ hv hargs
 .have hsz:=g3.mod.size
  have hfzs: ∀b,s.fz b->s'.fz b:=g3.le.fz
  refine⟨{s with fz:=s'.fz},Hf.rv (s:=s') (s':={s with fz:=s'.fz}) (λ_ h=>h) _ _ hhf g1,⟨λi o ho hl=>?_,r1.inj,λb hb=>?_⟩,⟨⟨⟨λ_ _=>rfl,λ_ _=>rfl,λ_ h=>h,hfzs⟩,λ_ h=>h⟩,λb hb=>(g3.fz b hb).imp id (Or.imp id λ⟨_,hm,_⟩=>by cases hm),λb hb=>?_,?_,λi hi hno=>absurd hi hno⟩,rfl⟩
  .obtain⟨a1,a2,a3,a4⟩:=r1.obj i o ho hl
   have a2':=(hH.obj i o ho hl).2.1
   refine⟨a1,a2,?_,RO.mono' (s:=s) (s':={s with fz:=s'.fz}) ⟨λ_ _=>rfl,λ_ _=>rfl,λ_ h=>h,hfzs⟩ (λ_ _=>rfl) a1 a4 (λ_=>rfl)⟩
   rintro(hf|hm)
   .rcases g3.fz _ hf with hf|hge|⟨_,hm,_⟩
    .exact a3 (.inl hf)
    all_goals grind
   .exact a3 (.inr hm)
  .exact hb.elim (hlt b) (λhm=>r1.old b (.inr hm))
  .exact g3.mod.block b (hH.old b hb) (λ⟨_,hm,_⟩=>by cases hm)
  .exact⟨g3.mod.os,g3.mod.tape,g3.mod.output,hsz,λk hk _=>g3.mod.block k hk (λ⟨_,hm,_⟩=>by cases hm)⟩
theorem LU{v:V}(h:Ag P gl f ars v)(hv:A8 H.get (λ_=>True) (λ_=>none) ars ars')(hg:T4 v=true):Ac P gl (.fn f []) ars' H nx ⟨v,H,nx,[]⟩:=by
 refine zV h λs w vals hargs hH=>⟨λb=>s.fz b\/∃g t sp c,H.get g=some (.row t sp c)/\b=s.μ g,λ_ h=>.inl h,?_,?_,λs' w' u g1 g3 r1 hlt=>?_⟩
 .rintro b (hb|⟨g,t,sp,c,hg,rfl⟩)
  .exact hH.old b (.inl hb)
  .exact(hH.obj _ _ hg rfl).2.1
 .exact A8.rl hH (s':=sg _) ⟨λ_ _ e=>(by cases e),λg t sp c _ hg=>.inr ⟨g,t,sp,c,hg,rfl⟩,λb hb=>.inl hb⟩ _ _ _ hv hargs
 .obtain⟨_,r2⟩:=hH.below (w':=w') ⟨g3.mod.os,g3.mod.tape,g3.mod.output,g3.mod.size,λk hk=>g3.mod.block k hk (λ⟨_,hm,_⟩=>by cases hm)⟩
  grind[I9]
theorem lL{v:V}{H2:T O}(hs:List Nat)(h:Ag P gl f ars v)(hv:A8 H.get (λg=>g∈hs) (λ_=>none) ars ars')(hhf:Hf v)(hrow: ∀g∈hs,∃t sp c,H.get g=some (.row t sp c))(hH2: ∀i,i∉hs->H2.get i=H.get i)(hd: ∀i∈hs,H2.get i=some .dead):Ac P gl (.fn f []) ars' H nx ⟨v,H2,nx,hs⟩:=by
 refine⟨λs w fv vals hc hargs hH hgl hn=>?_,⟨aC _,λi hi _=>hH2 i hi⟩⟩
 have hF1: ∀b,s.fz b->s.fz b\/∃g∈hs,b=s.μ g:=λ_ h=>.inl h
 have hlow: ∀b,(s.fz b\/∃g∈hs,b=s.μ g)->b<w.heap.size:=by
  rintro b (hb|⟨g,hg,rfl⟩)
  .exact hH.old b (.inl hb)
  .obtain⟨t,sp,c,e⟩:=hrow g hg;exact(hH.obj _ _ e rfl).2.1
 obtain⟨next,e1,e2,e3⟩:=h.1 (sg λb=>s.fz b\/∃g∈hs,b=s.μ g) w fv vals (Hf.rv (s':=sg λb=>s.fz b\/∃g∈hs,b=s.μ g) hF1 _ _ trivial hc) (A8.rl hH (s':=sg _) ⟨λ_ _ e=>(by cases e),λg t sp c hF hg=>.inr ⟨g,hF,rfl⟩,λb hb=>.inl hb⟩ _ _ _ hv hargs) (DP (λb hb=>hb.elim (hlow b) False.elim)) (λg l hg=>RC.mono' (s':=sg λb=>s.fz b\/∃g∈hs,b=s.μ g) hF1 (λ_ _=>rfl) l g 0 (hgl g l hg)) (λ_ _ h=>h)
 refine⟨next,e1,?_,e3⟩
 obtain⟨f',ars2,rfl⟩:=e3 ⟨f,[],rfl⟩
 refine CallsIn.mono e2 ?_
 rintro e w' ⟨u,s',rfl,g1,g2,g3,g4,g5⟩
 obtain⟨r1,r2⟩:=hH.below (w':=w') ⟨g3.mod.os,g3.mod.tape,g3.mod.output,g3.mod.size,λk hk=>g3.mod.block k hk (λ⟨_,hm,_⟩=>by cases hm)⟩
 have hsz:=g3.mod.size
 have hfzs: ∀b,s.fz b->s'.fz b:=λb hb=>g3.le.fz b (.inl hb)
 have hin: ∀i o,H2.get i=some o->o.live=true->i∉hs/\H.get i=some o:=λi o ho hl=>by
  have hi:i∉hs:=λhi=>by rw[hd i hi]at ho;cases ho;cases hl
  simp_all
 refine⟨u,{s with fz:=s'.fz},rfl,Hf.rv (s:=s') (s':={s with fz:=s'.fz}) (λ_ h=>h) _ _ hhf g1,⟨λi o ho hl=>?_,λi j o o' ho ho' hl hl' e=>r1.inj i j o o' (hin i o ho hl).2 (hin j o' ho' hl').2 hl hl' e,λb hb=>?_⟩,⟨⟨⟨λ_ _=>rfl,λ_ _=>rfl,λ_ h=>h,hfzs⟩,λ_ h=>h⟩,λb hb=>?_,λb hb=>?_,?_,λi hi hno=>absurd hi hno⟩,Cp s _,aC _⟩
 .obtain⟨hi,ho2⟩:=hin i o ho hl
  obtain⟨a1,a2,a3,a4⟩:=r1.obj i o ho2 hl
  have a2':=(hH.obj i o ho2 hl).2.1
  refine⟨a1,a2,?_,RO.mono' (s:=s) (s':={s with fz:=s'.fz}) ⟨λ_ _=>rfl,λ_ _=>rfl,λ_ h=>h,hfzs⟩ (λ_ _=>rfl) a1 a4 (λ_=>rfl)⟩
  rintro(hf|hm)
  .rcases g3.fz _ hf with(hf|⟨g,hg,e⟩)|hge|⟨_,hm,_⟩
   .exact a3 (.inl hf)
   .obtain⟨t,sp,c,eg⟩:=hrow g hg
    have:=hH.inj i g o _ ho2 eg hl rfl e
    simp_all
   all_goals grind
  .exact a3 (.inr hm)
 .rcases hb with hb|hm
  .exact g2.old b (.inl hb)
  .exact r1.old b (.inr hm)
 .rcases g3.fz _ hb with(hf|⟨g,hg,e⟩)|hge|⟨_,hm,_⟩
  .exact .inl hf
  .obtain⟨t,sp,c,eg⟩:=hrow g hg
   obtain⟨b1,b2,b3,_⟩:=hH.obj _ _ eg rfl
   exact .inr (.inr ⟨g,hg,b1,e,λk=>b3 (.inr (e▸k))⟩)
  all_goals simp_all
 .exact g3.mod.block b (hH.old b hb) (λ⟨_,hm,_⟩=>by cases hm)
 .exact⟨g3.mod.os,g3.mod.tape,g3.mod.output,hsz,λk hk _=>g3.mod.block k hk (λ⟨_,hm,_⟩=>by cases hm)⟩
def oJ(call:Dq)(qs:List F6):Prop:=∀q∈qs,call q.c q.l q.H q.nx=some q.r
theorem oP{r:OR}(h:G1 E Ho tm H nx o=some r)(call:Dq):G1 E call tm H nx o=some r:=by
 unfold G1 at h⊢
 split
 .simp_all
 .rename_i hc
  rw[hc]at h
  dsimp only at h
  split
  .simp_all
  .rename_i ha
   rw[ha]at h
   dsimp only at h
   split at h
   .rename_i r' he
    cases h
    have:Dp E call tm H nx o=some r':=by
     unfold Dp at he⊢
     split at he<;>try exact he
     rename_i c hop
     split at he<;>try exact he
     rename_i fo hcal
     split at he
     .rename_i f l hf hl
      try simp only[hf,hl]
      split at he
      all_goals trivial
     .cases he
    rw[this]
   .cases h
def XW(E:B9)(tm:TM)(H:T O)(nx:Nat)(o:Oper)(qs:List F6)(r:OR):Prop:=∀call,oJ call qs->G1 E call tm H nx o=some r
theorem AV{call:Dq}{v:V}{rd:List Nat}(h:calm E.G tm H.get o=some (v,rd)):G1 E call tm H nx o=some (.calm v rd):=by grind[G1]
theorem mK{call:Dq}{c:Call}{fo:Operand}{g:V}{l:List V}{r:CR}(ho:o.op= .call c)(hc:c.callee= .value fo)(hf:ev tm fo=some g)(hl:L3 tm c.args.toList=some l)(hx:Fg E g l=none)(hcall:call g l H nx=some r):G1 E call tm H nx o=some (.eff r):=by
 grind[calm,Bj,Dp,G1]
theorem nQ(E:B9)(call:Dq)(tm:TM)(H:T O)(nx:Nat)(o:Oper):(Pa E o).f call tm H nx=G1 E call tm H nx o:=by rw[Zw,IE,HJ]
theorem Yt{ti:TI}{v:V}{c:List V}{rd:List Nat}{K:OR->Prop}(hl:IV ti v c rd K):E4 ti c=some v/\K (.calm v rd):=by
 rw[<-YO]
 unfold IV at hl
 grind[H7,Z9]
section
variable {E:B9} {sp:Ld} {qs:List F6} {tm:TM} {H:T O} {nx:Nat} {o:Oper}
theorem bv {h : E9} {K : List F6 -> OR -> Prop} (hq : C6 P tm.gl qs) (hv : kX P E qs h tm H nx o K) : ∃ qs' r, K qs' r/\C6 P tm.gl qs'/\(∀ q ∈ qs, q ∈ qs')/\XW E tm H nx o qs' r := by
 have calm1: ∀{v:V}{rd:List Nat},K qs (.calm v rd)->(∀call,G1 E call tm H nx o=some (.calm v rd))->∃qs' r,K qs' r/\C6 P tm.gl qs'/\(∀q∈qs,q∈qs')/\XW E tm H nx o qs' r:=
  λhk ho=>⟨qs,_,hk,hq,λ_ h=>h,λcall _=>ho call⟩
 unfold kX at hv
 split at hv
 .rw[nQ]at hv
  cases hr:G1 E Ho tm H nx o with
  |none=>rw[hr]at hv;exact hv.elim
  |some r=>
   rw[hr]at hv
   unfold DC at hv
   grind[oP]
 .rw[nQ]at hv
  cases hr:G1 E Ho tm H nx o with
  |none=>rw[hr]at hv;exact hv.elim
  |some r=>
   rw[hr]at hv
   unfold PF at hv
   grind[oP]
 .split at hv
  .rename_i op t x y _ ho
   simp only[Bv]at hv
   split at hv
   .rename_i a b hx hy
    obtain⟨hu,hk⟩:=hv
    grind[AV,calm]
   .exact hv.elim
  .rename_i t x l h m ho
   simp only[Bv,uE]at hv
   split at hv
   .rename_i a l' h' m' hx h1 h2 h3
    obtain⟨hu,hk⟩:=hv
    grind[AV,calm]
   .exact hv.elim
  .rename_i t x i ho
   simp only[Bv]at hv
   split at hv
   .rename_i a k n hx hi
    obtain⟨hu,hk⟩:=hv
    grind[AV,calm]
   .exact hv.elim
  .rename_i t x i ho
   simp only[Bv]at hv
   split at hv
   .rename_i a k n hx hi
    obtain⟨hu,hk⟩:=hv
    grind[AV,calm]
   .exact hv.elim
  .exact hv.elim
 .split at hv
  .rename_i t x i ho
   simp only[Bv]at hv
   split at hv
   .rename_i elem _ _ _ _ a k n ht hx hi
    split at hv
    .rename_i ti he
     unfold sD at hv
     split at hv
     .obtain⟨hn,hk⟩:=hv
      exact calm1 hk (λcall=>AV (by grind[calm,Gs]))
     .obtain⟨hn,hk⟩:=hv
      exact calm1 hk (λcall=>AV (by grind[calm,Gs]))
     .exact hv.elim
    .exact hv.elim
   .exact hv.elim
  .exact hv.elim
 .rename_i v
  split at hv
  .rename_i t x ho
   simp only[Bv]at hv
   split at hv
   .rename_i ti a ht hx
    have ld: ∀{c:List V}{rd:List Nat},IV ti v c rd (K qs)->E4 ti c=some v/\K qs (.calm v rd):=by
     intro c rd hl
     rw[<-YO]
     unfold IV at hl
     unfold H7 Z9
     cases ha:ti.agg with
     |true=>
      grind
     |false=>simp_all
    unfold rM at hv
    split at hv
    .grind[AV,calm]
    .rename_i g off
     rw[Cm]at hv
     split at hv
     .rename_i hg
      obtain⟨h1,hk⟩:=ld hv
      grind[Om,AV,calm]
     .exact hv.elim
    .exact hv.elim
   .exact hv.elim
  .exact hv.elim
 .rename_i c'
  split at hv
  .rename_i t x y ho
   simp only[Bv]at hv
   split at hv
   .rename_i ti a v ht hx hy
    unfold rC at hv
    split at hv
    .rename_i g off
     rw[Cm]at hv
     split at hv
     .rename_i et sp c hg
      cases hb:(Nat.beq (Bi v).length ti.size&&Bl (Bi v))with
      |false=>simp_all
      |true=>
       rw[hb,cond_true,mO,Bh]at hv
       obtain⟨h1,hk⟩:=hv
       obtain⟨hb2,h1⟩:=Hi h1
       cases h1
       refine⟨qs,_,hk,hq,λ_ h=>h,λcall _=>?_⟩
       grind[calm,Bj,Dp,Fd,G1]
     .exact hv.elim
    .exact hv.elim
   .exact hv.elim
  .exact hv.elim
 .split at hv
  .rename_i c ho
   split at hv
   .rename_i hc
    split at hv
    .rename_i x y t tx hal htl
     simp only[Bv]at hv
     split at hv
     .rename_i e _ _ _ _ e2 _ _ _ _ a b ht htx hx hy
      split at hv
      .rename_i sz by_ _ z he
       split at hv
       .rename_i n news hsrc
        cases hb0:(Nat.beq n 0||Nat.beq sz 0)with
        |true=>simp_all
        | false =>
         rw[hb0,cond_false]at hv
         rw[dT]at hb0
         unfold RF at hv
         split at hv
         .rename_i g off len
          rw[Cm]at hv
          split at hv
          .rename_i et sz' c2 hg
           cases hb:(Nat.beq off 0&&Nat.beq et e&&Nat.beq sz' sz&&Bl news)with
           |false=>simp_all
           | true =>
            rw[hb,cond_true,Bh,Bh]at hv
            obtain⟨h1,h2,h3,hk⟩:=hv
            have b1:Nat.beq c2.length (len*sz)=true:=by rw[h1];simp
            have b2:Nat.ble (len+n) 9223372036854775807=true:=aU h2
            have b3:Nat.ble ((len+n)*by_) 140737488355328=true:=aU h3
            simp only[aD]at hb
            refine⟨qs,_,hk,hq,λ_ h=>h,λcall _=>?_⟩
            have e1:calm E.G tm H.get o=none:=by unfold calm;rw[ho];simp only[hc]
            have e2:Bj E.G tm nx o=none:=by unfold Bj;rw[ho]
            have e3:Dp E call tm H nx o=some ⟨.sl nx 0 (len+n) none,(H.put g .dead).put nx (.row e (some sz) (c2++news)),nx+1,[g]⟩:=by
             unfold Dp;rw[ho];simp only[hc,hal,htl,hx,hy,Dg,ht,htx,he,hsrc,hb0.1,hb0.2,hg,hb.1.1.1,hb.1.1.2,hb.1.2,hb.2,b1,b2,b3,cond_false,eV,cond_true]
            grind[G1]
          .exact hv.elim
         .exact hv.elim
       .exact hv.elim
      .exact hv.elim
     .exact hv.elim
    .exact hv.elim
   .exact hv.elim
  .exact hv.elim
 .split at hv
  .rename_i t l c ho
   simp only[Bv]at hv
   split at hv
   .rename_i e _ _ _ _ k l' k' c' ht hl hc
    split at hv
    .rename_i _ by_ _ z he
     obtain⟨hn,hk⟩:=hv
     refine⟨qs,_,hk,hq,λ_ h=>h,λcall _=>?_⟩
     grind[calm,Bj,G1]
    .exact hv.elim
   .exact hv.elim
  .exact hv.elim
 .rename_i r
  split at hv
  .rename_i c ho
   split at hv
   .rename_i fo hc
    simp only[Bv,JG]at hv
    split at hv
    .rename_i g l hf hl
     split at hv
     .exact hv.elim
     .rename_i hx
      obtain⟨h1,h2⟩:=hv;obtain⟨h2,hk⟩:=h2.out
      exact⟨_,_,hk,hq.cons (q:=⟨g,l,H,nx,r⟩) h1 h2,λ_ h=>aW _ h,λcall hm=>mK ho hc hf hl hx (hm _ aZ)⟩
    .exact hv.elim
   .exact hv.elim
  .exact hv.elim
 .rename_i v
  split at hv
  .rename_i c ho
   split at hv
   .rename_i fo hc
    simp only[Bv,JG]at hv
    split at hv
    .rename_i f caps l hf hl
     split at hv
     .exact hv.elim
     .rename_i hx
      split at hv
      .rename_i l' p1 hfr
       cases hb:(Jo v&&(El (l++caps)||T4 v))with
       |false=>simp_all
       | true =>
        rw[hb,cond_true]at hv
        obtain⟨h1,hfn,h3⟩:=hv.out λe=>wG.2 _ e _ _ hfr;obtain⟨h3,hk⟩:=h3.out
        rw[aD,bT]at hb
        have hcs:Ac P tm.gl (.fn f caps) l H nx ⟨v,H,nx,[]⟩:=by
         refine Ac.caps ?_
         rcases hb.2 with hb2|hb2
         .rw[(tX H .e).2 _ hb2]at hfr
          exact lM hfn (Dc _ l' p1 hfr h1) (AR.1 v hb.1)
         .grind[LU,Dc]
        exact⟨_,_,hk,hq.cons (q:=⟨.fn f caps,l,H,nx,⟨v,H,nx,[]⟩⟩) hcs h3,λ_ h=>aW _ h,λcall hm=>mK ho hc hf hl hx (hm _ aZ)⟩
      .exact hv.elim
    .exact hv.elim
   .exact hv.elim
  .exact hv.elim
 .rename_i ob v
  split at hv
  .rename_i t x ho
   simp only[Bv]at hv
   split at hv
   .rename_i ti a ht hx
    unfold rK at hv
    split at hv
    .rename_i g off
     split at hv
     .rename_i et sp c
      obtain⟨hg,hl⟩:=hv
      rw[Cm]at hg
      obtain⟨h1,hk⟩:=Yt hl
      grind[Om,AV,calm]
     .exact hv.elim
    .exact hv.elim
   .exact hv.elim
  .exact hv.elim
 .rename_i ob c'
  split at hv
  .rename_i t x y ho
   simp only[Bv]at hv
   split at hv
   .rename_i ti a v ht hx hy
    unfold rD at hv
    split at hv
    .rename_i g off
     split at hv
     .rename_i et sp c
      cases hb:(Nat.beq (Bi v).length ti.size&&Bl (Bi v))with
      |false=>simp_all
      |true=>
       rw[hb,cond_true,mO,Bh,Cm]at hv
       obtain⟨⟨hg,h1⟩,hk⟩:=hv
       obtain⟨hb2,h1⟩:=Hi h1
       cases h1
       refine⟨qs,_,hk,hq,λ_ h=>h,λcall _=>?_⟩
       grind[calm,Bj,Dp,Fd,G1]
     .exact hv.elim
    .exact hv.elim
   .exact hv.elim
  .exact hv.elim
 .rename_i n news
  split at hv
  .rename_i c ho
   split at hv
   .rename_i hc
    split at hv
    .rename_i x y t tx hal htl
     simp only[Bv]at hv
     split at hv
     .rename_i e _ _ _ _ e2 _ _ _ _ h off len r b ht htx hx hy
      split at hv
      .rename_i sz by_ _ z he
       cases hb0:(Nat.beq sz 0|| !(Nat.beq r 0))with
       |true=>simp_all
       | false =>
        rw[hb0,cond_false,Bh]at hv
        simp only[dT,Bool.not_eq_false']at hb0
        obtain⟨hz,hr0⟩:=hb0
        have hr0:=aF hr0
        subst hr0
        have bs: ∀m,1<=m->Nat.beq m 0=false/\Nat.ble m 0=false:=λm hm=>by
         cases m with
         |zero=>omega
         |succ m=>trivial
        have e1:calm E.G tm H.get o=none:=by unfold calm;rw[ho];simp only[hc]
        have e2:Bj E.G tm nx o=none:=by unfold Bj;rw[ho]
        cases hl0:Nat.beq len 0 with
        | true =>
         have hlen:=aF hl0
         subst hlen
         rw[hl0,cond_true]at hv
         obtain⟨⟨hsrc,hsrc2,h0,h1,h2⟩,hk⟩:=hv
         have b2:Nat.ble n 9223372036854775807=true:=aU h1
         have b3:Nat.ble (n*by_) 140737488355328=true:=aU h2
         refine⟨qs,_,hk,hq,λ_ h=>h,λcall _=>?_⟩
         have e3:Dp E call tm H nx o=some ⟨.sl nx 0 n none,H.put nx (.row e (some sz) news),nx+1,[]⟩:=by
          unfold Dp;rw[ho];simp only[hc,hal,htl,hx,hy,Dg,ht,htx,he,hsrc,hsrc2,(bs n h0).1,(bs n h0).2,hz,b2,b3,cond_false,eV,cond_true,cM,eZ]
         grind[G1]
        | false =>
         rw[hl0,cond_false]at hv
         obtain⟨⟨hsrc,hsrc2,h0,h1,h2⟩,hk⟩:=hv
         have b2:Nat.ble (len+n) 9223372036854775807=true:=aU h1
         have b3:Nat.ble ((len+n)*by_) 140737488355328=true:=aU h2
         refine⟨qs,_,hk,hq,λ_ h=>h,λcall _=>?_⟩
         have e3:Dp E call tm H nx o=some ⟨.sl nx 0 (len+n) none,H.put nx (.row e (some sz) news),nx+1,[]⟩:=by
          unfold Dp;rw[ho];simp only[hc,hal,htl,hx,hy,Dg,ht,htx,he,hsrc,hsrc2,(bs n h0).1,(bs n h0).2,hz,b2,b3,cond_false,eV,cond_true,fU]
         grind[G1]
      .exact hv.elim
     .exact hv.elim
    .exact hv.elim
   .exact hv.elim
  .exact hv.elim
 .rename_i n news
  split at hv
  .rename_i c ho
   split at hv
   .rename_i hc
    split at hv
    .rename_i x y t tx hal htl
     simp only[Bv]at hv
     split at hv
     .rename_i e _ _ _ _ e2 _ _ _ _ b ht htx hx hy
      split at hv
      .rename_i sz by_ _ z he
       cases hb0:(Nat.beq n 0||Nat.beq sz 0)with
       |true=>simp_all
       | false =>
        rw[hb0,cond_false,Bh]at hv
        rw[dT]at hb0
        obtain⟨⟨hsrc,h1,h2⟩,hk⟩:=hv
        have b2:Nat.ble n 9223372036854775807=true:=aU h1
        have b3:Nat.ble (n*by_) 140737488355328=true:=aU h2
        refine⟨qs,_,hk,hq,λ_ h=>h,λcall _=>?_⟩
        have e1:calm E.G tm H.get o=none:=by unfold calm;rw[ho];simp only[hc]
        have e2:Bj E.G tm nx o=none:=by unfold Bj;rw[ho]
        have e3:Dp E call tm H nx o=some ⟨.sl nx 0 n none,H.put nx (.row e (some sz) news),nx+1,[]⟩:=by
         unfold Dp;rw[ho];simp only[hc,hal,htl,hx,hy,Dg,ht,htx,he,hsrc,hb0.1,hb0.2,b2,b3,cond_false,eV,cond_true]
        grind[G1]
      .exact hv.elim
     .exact hv.elim
    .exact hv.elim
   .exact hv.elim
  .exact hv.elim
 .rename_i ob n news
  split at hv
  .rename_i c ho
   split at hv
   .rename_i hc
    split at hv
    .rename_i x y t tx hal htl
     simp only[Bv]at hv
     split at hv
     .rename_i e _ _ _ _ e2 _ _ _ _ a b ht htx hx hy
      split at hv
      .rename_i sz by_ _ z he
       obtain⟨hsrc,hv⟩:=hv
       cases hb0:(Nat.beq n 0||Nat.beq sz 0)with
       |true=>simp_all
       | false =>
        rw[hb0,cond_false]at hv
        rw[dT]at hb0
        unfold sF at hv
        split at hv
        .rename_i g off len
         split at hv
         .rename_i et sz' c2
          cases hb:(Nat.beq off 0&&Nat.beq et e&&Nat.beq sz' sz&&Bl news)with
          |false=>simp_all
          | true =>
           rw[hb,cond_true,Bh,Bh,Cm]at hv
           obtain⟨hg,h1,h2,h3,hk⟩:=hv
           have b1:Nat.beq c2.length (len*sz)=true:=by rw[h1];simp
           have b2:Nat.ble (len+n) 9223372036854775807=true:=aU h2
           have b3:Nat.ble ((len+n)*by_) 140737488355328=true:=aU h3
           simp only[aD]at hb
           refine⟨qs,_,hk,hq,λ_ h=>h,λcall _=>?_⟩
           have e1:calm E.G tm H.get o=none:=by unfold calm;rw[ho];simp only[hc]
           have e2:Bj E.G tm nx o=none:=by unfold Bj;rw[ho]
           have e3:Dp E call tm H nx o=some ⟨.sl nx 0 (len+n) none,(H.put g .dead).put nx (.row e (some sz) (c2++news)),nx+1,[g]⟩:=by
            unfold Dp;rw[ho];simp only[hc,hal,htl,hx,hy,Dg,ht,htx,he,hsrc,hb0.1,hb0.2,hg,hb.1.1.1,hb.1.1.2,hb.1.2,hb.2,b1,b2,b3,cond_false,eV,cond_true]
           grind[G1]
         .exact hv.elim
        .exact hv.elim
      .exact hv.elim
     .exact hv.elim
    .exact hv.elim
   .exact hv.elim
  .exact hv.elim
 .rename_i ob n news
  split at hv
  .rename_i c ho
   split at hv
   .rename_i hc
    split at hv
    .rename_i x y t tx hal htl
     simp only[Bv]at hv
     split at hv
     .rename_i e _ _ _ _ e2 _ _ _ _ a b ht htx hx hy
      split at hv
      .rename_i sz by_ _ z he
       obtain⟨hsrc,hv⟩:=hv
       unfold sE at hv
       split at hv
       .rename_i g off len
        split at hv
        .rename_i et sz' c2
         cases hb:(Nat.beq off 0&&Nat.beq et e&&Nat.beq sz' sz&& !(Nat.beq sz 0))with
         |false=>simp_all
         | true =>
          rw[hb,cond_true,Bh,Bh,Cm]at hv
          obtain⟨⟨hg,h1,h0,h2,h3,hat⟩,hk⟩:=hv
          have b1:Nat.beq c2.length (len*sz)=true:=by rw[h1];simp
          have b2:Nat.ble (len+n) 9223372036854775807=true:=aU h2
          have b3:Nat.ble ((len+n)*by_) 140737488355328=true:=aU h3
          have b0:Nat.beq n 0=false:=by
           cases hb0:Nat.beq n 0 with
           |false=>rfl
           |true=>simp_all
          simp only[aD,bI]at hb
          refine⟨qs,_,hk,hq,λ_ h=>h,λcall _=>?_⟩
          have e1:calm E.G tm H.get o=none:=by unfold calm;rw[ho];simp only[hc]
          have e2:Bj E.G tm nx o=none:=by unfold Bj;rw[ho]
          have e3:Dp E call tm H nx o=some ⟨.sl nx 0 (len+n) none,(H.put g .dead).put nx (.row e (some sz) (c2++news)),nx+1,[g]⟩:=by
           unfold Dp;rw[ho];simp only[hc,hal,htl,hx,hy,Dg,ht,htx,he,hsrc,b0,hb.2,hg,hb.1.1.1,hb.1.1.2,hb.1.2,hat,b1,b2,b3,cond_false,eV,cond_true]
          grind[G1]
        .exact hv.elim
       .exact hv.elim
      .exact hv.elim
     .exact hv.elim
    .exact hv.elim
   .exact hv.elim
  .exact hv.elim
 .exact hv.elim
def Lf(P:Program)(gl:T (List V))(sp:Ld):Prop:=∀f l p v,sp f l=some (p,v)->p->Ag P gl f l v
theorem Wz(hsp:Lf P tm.gl sp){K:List F6 ->OR ->Prop}(hq:C6 P tm.gl qs)(hv:W0 E sp qs tm H nx o K): ∃qs' r,K qs' r/\C6 P tm.gl qs'/\(∀q∈qs,q∈qs')/\XW E tm H nx o qs' r:=by
 unfold W0 at hv
 rw[nQ]at hv
 split at hv
 .rename_i r hr
  exact⟨qs,r,hv,hq,λ_ h=>h,λcall _=>oP hr call⟩
 .split at hv
  .rename_i c ho
   split at hv
   .rename_i fo hc
    simp only[Bv,JG]at hv
    split at hv
    .rename_i g l hf hl
     unfold Qb at hv
     split at hv
     .exact hv.elim
     .rename_i hx
      split at hv
      .rename_i f
       split at hv
       .rename_i l' p1 hfr
        split at hv
        .rename_i p v hs
         cases hb:(Jo v&&(El l||T4 v))with
         |false=>simp_all
         | true =>
          rw[hb,cond_true]at hv
          obtain⟨h1,h2,h3⟩:=hv.out λe=>wG.2 _ e _ _ hfr;obtain⟨h3,hk⟩:=h3.out
          rw[aD,bT]at hb
          have hfn:=hsp f l' p v hs h2
          have hcs:Ac P tm.gl (.fn f []) l H nx ⟨v,H,nx,[]⟩:=by
           rcases hb.2 with hb2|hb2
           .rw[(tX H .e).2 l hb2]at hfr
            exact lM hfn (Dc l l' p1 hfr h1) (AR.1 v hb.1)
           .grind[LU,Dc]
          exact⟨_,_,hk,hq.cons (q:=⟨.fn f [],l,H,nx,⟨v,H,nx,[]⟩⟩) hcs h3,λ_ h=>aW _ h,λcall hm=>mK ho hc hf hl hx (hm _ aZ)⟩
        .exact hv.elim
       .exact hv.elim
      .exact hv.elim
    .exact hv.elim
   .exact hv.elim
  .exact hv.elim
theorem sG(hsp:Lf P tm.gl sp){hs:Hs}{K:Hs->List F6->OR->Prop}(hq:C6 P tm.gl qs)(hv:Wy P E sp hs qs tm H nx o K): ∃hs' qs' r,K hs' qs' r/\C6 P tm.gl qs'/\(∀q∈qs,q∈qs')/\XW E tm H nx o qs' r:=by
 unfold Wy at hv
 grind[bv,Wz]
end
section
variable {E:B9} {sp:Ld} {gl:T (List V)} {ops:Array Oper}
theorem TR(hsp:Lf P gl sp){K:Hs->List F6->St->Prop}: ∀(l:List Oper)(hs:Hs)(qs:List F6)(st:St),st.tm.gl=gl->C6 P gl qs->IT P E sp ops K l hs qs st->
  ∃hs' qs' st',(K hs' qs' st'/\st'.tm.gl=gl)/\C6 P gl qs'/\(∀q∈qs,q∈qs')/\∀call,oJ call qs'->D1 E call ops l st=some st'
 |[],hs,qs,st,hgl,hq,h=>⟨hs,qs,st,⟨h,hgl⟩,hq,λ_ h=>h,λ_ _=>rfl⟩
 | o :: l, hs, qs, ⟨tm, H, nx, lg⟩, hgl, hq, h => by
  unfold IT at h
  rw[zT]at h
  dsimp only at hgl
  split at h
  .rename_i hw
   obtain⟨hs1,qs1,r,hk,hq1,hsub,hans⟩:=sG (tm:=tm) (by simp_all) (by simp_all) h
   rw[hgl]at hq1
   cases r with
   |calm v rd=>
    dsimp only at hk
    rw[DV]at hk
    obtain⟨hs2,qs2,st2,k1,k2,k3,k4⟩:=TR hsp l hs1 qs1 _ (by grind[Kz]) hq1 hk
    refine⟨hs2,qs2,st2,k1,k2,λq hq=>k3 q (hsub q hq),λcall hm=>?_⟩
    unfold D1
    rw[hw]
    dsimp only
    rw[hans call (λq hq=>hm q (k3 q hq))]
    simp_all
   |alloc v ob=>
    dsimp only at hk
    rw[DV,Bh]at hk
    obtain⟨hs2,qs2,st2,k1,k2,k3,k4⟩:=TR hsp l hs1 qs1 _ (by grind[Kz]) hq1 hk
    refine⟨hs2,qs2,st2,k1,k2,λq hq=>k3 q (hsub q hq),λcall hm=>?_⟩
    unfold D1
    rw[hw]
    dsimp only
    rw[hans call (λq hq=>hm q (k3 q hq))]
    simp_all
   |eff r=>
    dsimp only at hk
    rw[DV]at hk
    obtain⟨hs2,qs2,st2,k1,k2,k3,k4⟩:=TR hsp l hs1 qs1 _ (by grind[Kz]) hq1 hk
    refine⟨hs2,qs2,st2,k1,k2,λq hq=>k3 q (hsub q hq),λcall hm=>?_⟩
    unfold D1
    rw[hw]
    dsimp only
    rw[hans call (λq hq=>hm q (k3 q hq))]
    simp_all
  .rename_i hw
   rw[DV]at h
   obtain⟨hs2,qs2,st2,k1,k2,k3,k4⟩:=TR hsp l hs qs _ (by grind[Kz]) hq h
   grind[D1]
  .exact h.elim
def Y5:OR->Kd
 | .calm v rd=>.put v rd
 | .alloc v ob=>.new v ob
 | .eff c=>.eff c
theorem oB{E:B9}{call:Dq}{st:St}{ops:Array Oper}{j:Nat}(ho:ops[j]? =some o)(hw:Cc st.tm ops o=some true){r:OR}(h:G1 E call st.tm st.H st.nx o=some r)(he: ∀c,r= .eff c->Jz o=true):
  Em E call ops j st=some (Y5 r):=by
 unfold Em
 rw[ho]
 dsimp only
 rw[hw]
 dsimp only
 unfold G1 at h
 cases hc:calm E.G st.tm st.H.get o with
 |some p=>rw[hc]at h;cases h;rfl
 | none =>
  rw[hc]at h
  dsimp only at h⊢
  cases ha:Bj E.G st.tm st.nx o with
  |some p=>rw[ha]at h;cases h;rfl
  |none=>
   rw[ha]at h
   dsimp only at h⊢
   cases hf:Dp E call st.tm st.H st.nx o with
   |some c=>rw[hf]at h;cases h;rw[he c rfl,cond_true];rfl
   |none=>simp_all
theorem UF(hsp:Lf P gl sp){bf:Array Nat}{K:Hs->List F6->St->Prop}: ∀(l:List Nat)(hs:Hs)(qs:List F6)(st:St)(ef:Ew),st.tm.gl=gl->C6 P gl qs->IY P E sp ops bf K l hs qs st ef->
  ∃hs' qs' p,(K hs' qs' p.1/\p.1.tm.gl=gl)/\C6 P gl qs'/\(∀q∈qs,q∈qs')/\∀call,oJ call qs'->D7 E call ops bf l (st,ef)=some p
 |[],hs,qs,st,ef,hgl,hq,h=>⟨hs,qs,(st,ef),⟨h,hgl⟩,hq,λ_ h=>h,λ_ _=>rfl⟩
 | j :: l, hs, qs, ⟨tm, H, nx, lg⟩, ef, hgl, hq, h => by
  unfold IY at h
  dsimp only at hgl
  split at h
  .exact h.elim
  .rename_i o ho
   rw[zT]at h
   split at h
   .rename_i hw
    obtain⟨hs1,qs1,r,hk,hq1,hsub,hans⟩:=sG (tm:=tm) (by simp_all) (by simp_all) h
    rw[hgl]at hq1
    cases r with
    | calm v rd =>
     dsimp only at hk
     cases hb:(ef.all λq=>(bf.getD j 0).testBit q.1||O8 rd q.2)with
     |false=>grind
     |true=>
      rw[hb,cond_true,DV]at hk
      obtain⟨hs2,qs2,p,k1,k2,k3,k4⟩:=UF hsp l hs1 qs1 _ ef (by grind[Kz]) hq1 hk
      refine⟨hs2,qs2,p,k1,k2,λq hq=>k3 q (hsub q hq),λcall hm=>?_⟩
      unfold D7 Dl
      rw[oB (st:=⟨tm,H,nx,lg⟩) ho hw (hans call (λq hq=>hm q (k3 q hq))) (λ_ e=>by cases e)]
      grind[Y5]
    |alloc v ob=>
     dsimp only at hk
     rw[DV,Bh]at hk
     obtain⟨hs2,qs2,p,k1,k2,k3,k4⟩:=UF hsp l hs1 qs1 _ ef (by grind[Kz]) hq1 hk
     refine⟨hs2,qs2,p,k1,k2,λq hq=>k3 q (hsub q hq),λcall hm=>?_⟩
     unfold D7 Dl
     rw[oB (st:=⟨tm,H,nx,lg⟩) ho hw (hans call (λq hq=>hm q (k3 q hq))) (λ_ e=>by cases e)]
     grind[Y5]
    | eff r =>
     dsimp only at hk
     cases hb:Jz o with
     |false=>simp_all
     |true=>
      rw[hb,cond_true,DV]at hk
      obtain⟨hs2,qs2,p,k1,k2,k3,k4⟩:=UF hsp l hs1 qs1 _ _ (by grind[Kz]) hq1 hk
      refine⟨hs2,qs2,p,k1,k2,λq hq=>k3 q (hsub q hq),λcall hm=>?_⟩
      unfold D7 Dl
      rw[oB (st:=⟨tm,H,nx,lg⟩) ho hw (hans call (λq hq=>hm q (k3 q hq))) (λ_ _=>hb)]
      grind[Y5]
   .rename_i hw
    rw[DV]at h
    obtain⟨hs2,qs2,p,k1,k2,k3,k4⟩:=UF hsp l hs qs _ ef (by grind[Kz]) hq h
    refine⟨hs2,qs2,p,k1,k2,k3,λcall hm=>?_⟩
    have hkd:Em E call ops j ⟨tm,H,nx,lg⟩=some (.put (.tup []) []):=by
     unfold Em
     rw[ho]
     dsimp only
     rw[hw]
    grind[D7,Dl,O8]
   .exact h.elim
theorem j6(hE:E.Ok P)(hm:P.follows .mixedOrders=true){nx0:Nat}{draw:Bool}{hs:Hs}{st:St}(hsp:Lf P st.tm.gl sp){K:Hs->St->Prop}(h:YE P E sp ops draw hs st K):Au P rd nx0 (.region id ops draw) st (λe st'=>e= .normal/\st'.tm.gl=st.tm.gl/\∃hs',K hs' st'):=by
 have fin: ∀{qs:List F6}{st':St},C6 P st.tm.gl qs->AT E (Wc qs) ops draw st=some [(.normal,st')]->(st'.tm.gl=st.tm.gl/\∃hs',K hs' st')->Au P rd nx0 (.region id ops draw) st (λe st'=>e= .normal/\st'.tm.gl=st.tm.gl/\∃hs',K hs' st'):=by
  intro qs st' hq hr hk
  refine Au.region hE hm hq.call hq.log hr (λe st2 hmem=>by simp_all) ?_
  intro e st'' hmem
  rw[aN]at hmem
  cases hmem
  exact⟨rfl,hk⟩
 unfold YE at h
 cases draw with
 | true =>
  rw[cond_true]at h
  cases hb:Nr ops with
  |false=>simp_all
  |true=>
   rw[hb,cond_true]at h
   obtain⟨hs',qs,p,k1,k2,_,k4⟩:=UF hsp _ hs [] st [] rfl C6.nil h
   refine fin (st':=p.1) k2 ?_ ⟨k1.2,hs',k1.1⟩
   unfold AT
   rw[cond_true]
   unfold LG Hb
   rw[hb,cond_true,k4 _ k2.meets]
   rfl
 | false =>
  rw[cond_false]at h
  split at h
  .exact h.elim
  .rename_i hf
   obtain⟨hs',qs,st',k1,k2,_,k4⟩:=TR hsp _ hs [] st rfl C6.nil h
   refine fin (st':=st') k2 ?_ ⟨k1.2,hs',k1.1⟩
   unfold AT
   rw[cond_false,hf,k4 _ k2.meets]
   rfl
end
variable {P:Program}
def Mv(nx0:Nat)(r:List Nat)(h g:Nat):Bool:=match G5 nx0 r h with|some g'=>Nat.beq g' g|none=>false
noncomputable def Ze(H:T O)(off:Nat)(l:List V)(g:Nat):Prop:=
 match gt H g with
 |some (.row _ _ c)=>l=Af off c/\Ba (Af off c)
 | _=>False
def Rn:Option Nat->Option Nat->Prop
 |none,none=>True
 |some a,some b=>a=b
 | _,_=>False
theorem wQ{a b:Option Nat}(h:Rn a b):a=b:=by
 cases a<;>cases b<;>first|rfl|(exact h.elim;done)|exact congrArg some h
mutual
noncomputable def vw(nx0:Nat)(r:List Nat)(ok:Bool)(H:T O):V->V->Prop
 | .bool a,.bool b=>a=b
 | .int k a,.int k' b=>bif decide (k=k')then a=b else False
 | .str a,.str b=>a=b
 | .nilp,.nilp=>True
 | .nilf,.nilf=>True
 | .nili,.nili=>True
 | .nils,.nils=>True
 | .nilm,.nilm=>True
 | .ptr h off,.ptr g off'=>bif Mv nx0 r h g then off=off' else False
 | .sl h off len room,.sl g off' len' room'=>bif Mv nx0 r h g then off=off'/\len=len'/\Rn room room' else False
 | .mp h,.mp g=>bif Mv nx0 r h g then True else False
 | .yld h,.yld g=>bif Mv nx0 r h g then True else False
 | .fn f l,.fn f' l'=>bif Nat.beq f f' then EX nx0 r ok H l l' else False
 | .mfn f l,.mfn f' l'=>bif Nat.beq f f' then EX nx0 r ok H l l' else False
 | .agg l,.agg l'=>EX nx0 r ok H l l'
 | .tup l,.tup l'=>EX nx0 r ok H l l'
 | .ifc t x,.ifc t' x'=>bif Nat.beq t t' then vw nx0 r ok H x x' else False
 | .im n l,.im n' l'=>n=n'/\l=l'
 | .im n _,.nils=>n=0
 | .im n l,.sl g off len _=>bif ok&&Nat.ble nx0 g&& !r.contains g then n=len/\Ze H off l g else False
 | .imp l,.imp l'=>l=l'
 | .imp l,.ptr g off=>bif ok&&Nat.ble nx0 g&& !r.contains g then Ze H off l g else False
 | _,_=>False
noncomputable def EX(nx0:Nat)(r:List Nat)(ok:Bool)(H:T O):List V->List V->Prop
 |[],[]=>True
 |x::xs,y::ys=>vw nx0 r ok H x y/\EX nx0 r ok H xs ys
 | _,_=>False
end
theorem TJ{nx0:Nat}(hb:Mv nx0 r h g=true):G5 nx0 r h=some g:=by
 grind[Mv,Nat.eq_of_beq_eq_true]
theorem Fc{b:Bool}{p:Prop}(h:bif b then p else False):b=true/\p:=by
 simp_all
theorem CV{nx0:Nat}{ok:Bool}(hok:ok=true->∀h∈lg,nx0<=h)(h:(ok&&Nat.ble nx0 g&& !r.contains g)=true):Fr nx0 r lg g:=by
 simp only[aD,bI]at h
 refine⟨aI h.1.2,λhm=>?_,hok h.1.1⟩
 simp_all
mutual
theorem mA{nx0:Nat}{ok:Bool}(hok:ok=true->∀h∈lg,nx0<=h): ∀(x y:V),vw nx0 r ok H x y->Bo H.get (Fr nx0 r lg) (G5 nx0 r) x y
 | .bool a,y,h=>by cases y<;>first|(exact h.elim;done)|(cases h;rfl)
 | .int k a,y,h=>by
  cases y<;>try(exact h.elim;done)
  obtain⟨h1,h2⟩:=Fc h
  have:=of_decide_eq_true h1
  subst this;cases h2;rfl
 | .str a,y,h=>by cases y<;>first|(exact h.elim;done)|(cases h;rfl)
 | .nilp,y,h=>by cases y<;>first|(exact h.elim;done)|rfl
 | .nilf,y,h=>by cases y<;>first|(exact h.elim;done)|rfl
 | .nili,y,h=>by cases y<;>first|(exact h.elim;done)|rfl
 | .nils,y,h=>by cases y<;>first|(exact h.elim;done)|rfl
 | .nilm,y,h=>by cases y<;>first|(exact h.elim;done)|rfl
 | .ptr i off,y,h=>by
  cases y<;>try(exact h.elim;done)
  obtain⟨h1,rfl⟩:=Fc h
  exact⟨_,TJ h1,rfl⟩
 | .sl i off len room,y,h=>by
  cases y<;>try(exact h.elim;done)
  obtain⟨h1,rfl,rfl,h2⟩:=Fc h
  have:=wQ h2
  subst this
  exact⟨_,TJ h1,rfl⟩
 | .mp i,y,h=>by
  cases y<;>try(exact h.elim;done)
  obtain⟨h1,_⟩:=Fc h
  exact⟨_,TJ h1,rfl⟩
 | .yld i,y,h=>by
  cases y<;>try(exact h.elim;done)
  obtain⟨h1,_⟩:=Fc h
  exact⟨_,TJ h1,rfl⟩
 | .fn f l,y,h=>by
  cases y<;>try(exact h.elim;done)
  obtain⟨h1,h2⟩:=Fc h
  have:=aF h1
  subst this
  exact⟨_,rfl,MH hok _ _ h2⟩
 | .mfn f l,y,h=>by
  cases y<;>try(exact h.elim;done)
  obtain⟨h1,h2⟩:=Fc h
  have:=aF h1
  subst this
  exact⟨_,rfl,MH hok _ _ h2⟩
 | .agg l,y,h=>by
  cases y<;>try(exact h.elim;done)
  exact⟨_,rfl,MH hok _ _ h⟩
 | .tup l,y,h=>by
  cases y<;>try(exact h.elim;done)
  exact⟨_,rfl,MH hok _ _ h⟩
 | .ifc t x,y,h=>by
  cases y<;>try(exact h.elim;done)
  obtain⟨h1,h2⟩:=Fc h
  have:=aF h1
  subst this
  exact⟨_,rfl,mA hok x _ h2⟩
 | .im n l,y,h=>by
  cases y<;>try(exact h.elim;done)
  .exact .inr (.inl ⟨rfl,h⟩)
  .obtain⟨h1,h2,h3⟩:=Fc h
   unfold Ze at h3
   rw[Cm]at h3
   split at h3
   .rename_i hg
    obtain⟨rfl,h4⟩:=h3
    subst h2
    rw[Om]at h4⊢
    exact .inr (.inr ⟨_,_,_,_,_,_,rfl,CV hok h1,hg,Bq.of_hf _ h4⟩)
   .exact h3.elim
  .obtain⟨rfl,rfl⟩:=h;exact .inl rfl
 | .imp l,y,h=>by
  cases y<;>try(exact h.elim;done)
  .obtain⟨h1,h3⟩:=Fc h
   unfold Ze at h3
   rw[Cm]at h3
   split at h3
   .rename_i hg
    obtain⟨rfl,h4⟩:=h3
    rw[Om]at h4⊢
    exact .inr ⟨_,_,_,_,_,rfl,CV hok h1,hg,Bq.of_hf _ h4⟩
   .exact h3.elim
  .cases h;exact .inl rfl
theorem MH{nx0:Nat}{ok:Bool}(hok:ok=true->∀h∈lg,nx0<=h): ∀(l m:List V),EX nx0 r ok H l m->A8 H.get (Fr nx0 r lg) (G5 nx0 r) l m
 |[],m,h=>by cases m with
  |nil=>rfl
  |cons _ _=>exact h.elim
 |x::xs,m,h=>by cases m with
  |nil=>exact h.elim
  |cons y ys=>exact⟨y,ys,rfl,mA hok x y h.1,MH hok xs ys h.2⟩
end
def U7:Option Nat->Option Nat->Bool
 |none,none=>true
 |some a,some b=>Nat.beq a b
 | _,_=>false
theorem xK{a b:Option Nat}(h:U7 a b=true):a=b:=by
 cases a<;>cases b<;>first|rfl|(cases h;done)|(rw[aF h])
def ZP:List (V×V×Nat)->Prop
 |[]=>True
 |(k,v,_)::es=>Hf k/\Hf v/\ZP es
theorem F2.of_hf{H:Nat->Option O}: ∀(l:List (V×V×Nat)),ZP l->F2 H F ρ l l
 |[],_=>rfl
 |(k,v,n)::es,h=>⟨k,v,es,rfl,Bo.of_hf k h.1,Bo.of_hf v h.2.1,F2.of_hf es h.2.2⟩
mutual
theorem Bo.of_sc{H:Nat->Option O}{nx0:Nat}: ∀(x:V),Sc (λh=>h<nx0) x->Bo H F (G5 nx0 r) x x
 | .bool _,_| .int _ _,_| .str _,_| .nilp,_| .nilf,_| .nili,_| .nils,_| .nilm,_=>rfl
 | .im _ _,_=>.inl rfl
 | .imp _,_=>.inl rfl
 | .ptr _ _,h=>⟨_,JA h,rfl⟩
 | .sl _ _ _ _,h=>⟨_,JA h,rfl⟩
 | .mp _,h=>⟨_,JA h,rfl⟩
 | .yld _,h=>⟨_,JA h,rfl⟩
 | .fn _ l,h=>⟨l,rfl,A8.of_sc l h⟩
 | .mfn _ l,h=>⟨l,rfl,A8.of_sc l h⟩
 | .agg l,h=>⟨l,rfl,A8.of_sc l h⟩
 | .tup l,h=>⟨l,rfl,A8.of_sc l h⟩
 | .ifc _ x,h=>⟨x,rfl,Bo.of_sc x h⟩
theorem A8.of_sc{H:Nat->Option O}{nx0:Nat}: ∀(l:List V),AJ (λh=>h<nx0) l->A8 H F (G5 nx0 r) l l
 |[],_=>rfl
 |x::xs,h=>⟨x,xs,rfl,Bo.of_sc x h.1,A8.of_sc xs h.2⟩
end
def qH(nx0:Nat)(tm:TM):Prop:=∀i x,tm.sl.get i=some x->Sc (λh=>h<nx0) x
noncomputable def ZY(nx0:Nat)(r lg:List Nat)(ok:Bool)(H:T O)(md:Nat):O->O->Prop
 | .row t sp c,.row t' sp' c'=>bif Nat.beq t t'&&U7 sp sp' then(match md with
  |0=>c=c'/\Ba c
  |1=>EX nx0 r ok H c c'
  | _=>True/\A8 H.get (Fr nx0 r lg) (G5 nx0 r) c c')else False
 | .map es ck,.map es' ck'=>es=es'/\ZP es/\ck=ck'
 | .iter (some i) since seen last,.iter (some g) since' seen' last'=>bif Mv nx0 r i g then since=since'/\seen=seen'/\last=last' else False
 | .dead,_=>True
 | .loop ls pd fn tm ps asg bd,y=>y= .loop ls pd fn tm ps asg bd/\qH nx0 tm
 | _,_=>False
theorem P8{nx0:Nat}{ok:Bool}(hok:ok=true->∀h∈lg,nx0<=h){md:Nat}{o:O}(h:ZY nx0 r lg ok H md o y):Hd H.get (Fr nx0 r lg) (G5 nx0 r) o y:=by
 cases o with
 |row t sp c=>
  cases y<;>try(exact h.elim;done)
  obtain⟨h1,h2⟩:=Fc h
  rw[aD]at h1
  have e1:=aF h1.1
  have e2:=xK h1.2
  subst e1 e2
  refine⟨_,rfl,?_⟩
  grind[A8.of_hf,MH]
 |map es ck=>
  cases y<;>try(exact h.elim;done)
  obtain⟨rfl,h1,rfl⟩:=h
  exact⟨_,rfl,F2.of_hf _ h1⟩
 |dead=>trivial
 |iter m since seen last=>
  cases m<;>cases y<;>try(exact h.elim;done)
  rename_i i m' _ _ _
  cases m'<;>try(exact h.elim;done)
  obtain⟨h1,rfl,rfl,rfl⟩:=Fc h
  exact⟨_,rfl,_,TJ h1,rfl⟩
 |loop ls pd fn tm ps asg bd=>obtain⟨rfl,hl⟩:=h;exact⟨rfl,λi x hx=>Bo.of_sc x (hl i x hx)⟩
noncomputable def Ms(nx0:Nat)(r:List Nat)(ok:Bool)(st:St):List (Nat×V)->Prop
 |[]=>True
 |(i,x)::l=>(match gt st.tm.sl i with|some y=>vw nx0 r ok st.H x y|none=>False)/\Ms nx0 r ok st l
noncomputable def Sp(nx0:Nat)(r lg:List Nat)(ok:Bool)(H:T O):Nat->List O->List Nat->Prop
 | _,[],_=>True
 | i, o :: os, md => (match o with
  | .dead=>True
  | o => match G5 nx0 r i with
   |some g=>match gt H g with
    |some y=>ZY nx0 r lg ok H (md.headD 0) o y
    |none=>False
   |none=>False)/\Sp nx0 r lg ok H (i+1) os md.tail
def rT(nx0 nx:Nat)(r lg lg':List Nat)(len:Nat):Bool:=
 Nat.beq len (nx0+r.length)&&r.all (λg=>Nat.ble nx0 g&&Nat.blt g nx)&&AO r&&lg.all (λh=>Nat.ble nx0 h||lg'.contains h)
noncomputable def O5(nx0:Nat)(r:List Nat)(st:St)(S:SL):Prop:=
 bif rT nx0 st.nx r st.lg S.lg S.os.length then Ms nx0 r (st.lg.all (Nat.ble nx0 ·)) st S.sl/\Sp nx0 r st.lg (st.lg.all (Nat.ble nx0 ·)) st.H 0 S.os S.md else False
theorem E2: ∀(l:List (Nat×V))(t:T V)(i:Nat)(x:V),(Hl t l).get i=some x->(i,x)∈l\/t.get i=some x
 |[],_,_,_,h=>.inr h
 |(j,y)::l,t,i,x,h=>by
  unfold Hl at h
  rcases E2 l _ i x h with k|k
  all_goals grind[Bh,T.get_put]
theorem Ej: ∀(os:List O)(t:T O)(k i:Nat)(o:O),(Ai t k os).get i=some o->(k<=i/\os[i-k]? =some o)\/t.get i=some o
 |[],_,_,_,_,h=>.inr h
 |x::os,t,k,i,o,h=>by
  unfold Ai at h
  rcases Ej os _ (k+1) i o h with⟨h1,h2⟩|q
  all_goals grind[Bh,T.get_put]
theorem zA{nx0:Nat}{ok:Bool}{st:St}: ∀{l:List (Nat×V)},Ms nx0 r ok st l->∀p∈l,∃y,st.tm.sl.get p.1=some y/\vw nx0 r ok st.H p.2 y
 |[],_,_,h=>by cases h
 | (i, x) :: l, h, p, hp => by
  rcases aK.1 hp with rfl|hp
  .have:=h.1
   grind[Cm]
  .exact zA h.2 p hp
theorem yO{nx0:Nat}{ok:Bool}: ∀{os:List O}{k:Nat}{md:List Nat},Sp nx0 r lg ok H k os md->∀(j:Nat)(o:O),os[j]? =some o->o.live=true->∃g y m,G5 nx0 r (k+j)=some g/\H.get g=some y/\ZY nx0 r lg ok H m o y
 |[],_,_,_,_,_,h,_=>by simp at h
 |x::os,k,md,h,0,o,hj,hl=>by
  obtain rfl:x=o:=by simpa using hj
  have h1:=h.1
  cases x<;>first|(cases hl;done)|skip
  all_goals grind[Cm]
 |x::os,k,md,h,j+1,o,hj,hl=>by
  obtain⟨g,y,m,h1,h2,h3⟩:=yO h.2 j o (by simpa using hj) hl
  grind
theorem aj: ∀{l:List Nat},AO l=true->l.Nodup
 |[],_=>cF
 |x::l,h=>by
  unfold AO at h
  rw[aD]at h
  refine dC.2 ⟨λhm=>?_,aj h.2⟩
  simp_all
theorem Wo{nx0:Nat}{st:St}{S:SL}(h:O5 nx0 r st S):Gc nx0 r st (Al st.tm.gl st.tm.n S):=by
 obtain⟨hb,h1,h2⟩:=Fc h
 unfold rT at hb
 simp only[aD]at hb
 obtain⟨⟨⟨b1,b2⟩,b3⟩,b4⟩:=hb
 have hok:st.lg.all (Nat.ble nx0 ·)=true->∀h∈st.lg,nx0<=h:=λe h hm=>aI (aO.1 e h hm)
 refine⟨aF b1,λg hg=>?_,aj b3,rfl,rfl,λi x hx=>?_,λi o ho hl=>?_,λi hi hlt=>?_⟩
 .simp_all
 .rcases E2 _ _ _ _ hx with hm|hm
  all_goals grind[zA,mA,EJ]
 .rcases Ej _ _ _ _ _ ho with⟨_,hm⟩|hm
  .grind[yO,P8]
  .simp at hm
 .have:=aO.1 b4 i hi
  rw[bT]at this
  rcases this with h|h
  .have:=aI h;omega
  .exact List.contains_iff_mem.1 h
noncomputable def Be(gl:T (List V))(n:Nat)(sl:List (Nat×V))(H:T O)(nx:Nat)(lg:List Nat):St:=⟨⟨Hl (B0 n) sl,gl,n⟩,H,nx,lg⟩
noncomputable def C4(tm:TM):List (Nat×V)->Prop
 |[]=>True
 |(i,x)::l=>(match gt tm.sl i with|some y=>y=x|none=>False)/\C4 tm l
theorem yZ: ∀{l:List (Nat×V)},C4 tm l->∀p∈l,tm.sl.get p.1=some p.2
 |[],_,_,h=>by cases h
 | (i, x) :: l, h, p, hp => by
  rcases aK.1 hp with rfl|hp
  .have:=h.1
   grind[Cm]
  .exact yZ h.2 p hp
theorem J6.fewer{nx0:Nat}{st:St}{sl:List (Nat×V)}(A:J6 B s0 w0 nx0 st s w a)(h:C4 st.tm sl):J6 B s0 w0 nx0 (Be st.tm.gl st.tm.n sl st.H st.nx st.lg) s w a:=by
 refine⟨⟨A.rel.rh,⟨A.rel.rt.1,λi x hx=>?_,A.rel.rt.2.2⟩,A.rel.nx,A.rel.df⟩,A.step,A.dom,A.le⟩
 rcases E2 _ _ _ _ hx with hm|hm
 .exact A.rel.rt.2.1 i x (yZ h _ hm)
 grind[EJ]
theorem Au.fewer{nx0:Nat}{st:St}{R:Ex->St->Prop}{sl:List (Nat×V)}(h:C4 st.tm sl)(k:Au P rd nx0 c (Be st.tm.gl st.tm.n sl st.H st.nx st.lg) R):Au P rd nx0 c st R:=
 λB s0 w0 s w a hn hB hrd A Q hQ=>k B s0 w0 s w a hn hB hrd (A.fewer h) Q hQ
theorem Au.fewer_post{nx0:Nat}{st:St}{R:Ex->St->Prop}(h:Au P rd nx0 c st (λe st1=>∃sl,C4 st1.tm sl/\R e (Be st1.tm.gl st1.tm.n sl st1.H st1.nx st1.lg))):Au P rd nx0 c st R:=
 λB s0 w0 s w a hn hB hrd A Q hQ=>h B s0 w0 s w a hn hB hrd A Q (λe _⟨_,hs,hR⟩ s' w' a' A'=>hQ e _ hR s' w' a' (A'.fewer hs))
def DQ(gl:T (List V))(n:Nat)(H:T O)(nx:Nat)(lg:List Nat):List (Prop×Ex×List (Nat×V))->Ex->St->Prop
 |[],_,_=>False
 |(p,e',sl)::l,e,st=>(p/\e=e'/\st=Be gl n sl H nx lg)\/DQ gl n H nx lg l e st
def Oj(gl:T (List V))(n:Nat)(e:Ex)(sl':Nat->List (Nat×V))(Q:Nat->T O->Nat->List Nat->Prop):Ex->St->Prop:=λe' st=>∃h H nx lg,e'=e/\st=Be gl n (sl' h) H nx lg/\Q h H nx lg
def B3(gl:T (List V))(n:Nat):List (Prop×Ex×SL)->Ex->St->Prop
 |[],_,_=>False
 |(p,e',S)::l,e,st=>(p/\e=e'/\st=Al gl n S)\/B3 gl n l e st
section
variable (P:Program) (E:B9) (sp:Ld) (rd:Option Nat) (nx0:Nat)
abbrev KF:=Ex->Hs->St->Prop
abbrev IS:=Code->Hs->St->KF->Prop
noncomputable def jI(ex:IS)(b:Code)(K:KF):KF:=λe hs st=>match e with
 | .normal=>ex b hs st K
 | .exit i=>K (.exit i) hs st
 | .ret=>K .ret hs st
 | .pan v=>K (.pan v) hs st
noncomputable def lP(id:Nat)(K:KF):KF:=λe hs st=>match e with
 | .exit i=>bif Nat.beq i id then K .normal hs st else K (.exit i) hs st
 | .normal=>K .normal hs st
 | .ret=>K .ret hs st
 | .pan v=>K (.pan v) hs st
noncomputable def Nu(gl:T (List V))(n:Nat)(hs:Hs)(K:KF):List (Prop×Ex×SL)->Prop
 |[]=>True
 |(p,e,S)::l=>(p->K e hs (Al gl n S))/\Nu gl n hs K l
noncomputable def lD(gl:T (List V))(n:Nat)(H:T O)(nx:Nat)(lg:List Nat)(hs:Hs)(K:KF):List (Prop×Ex×List (Nat×V))->Prop
 |[]=>True
 |(p,e,sl)::l=>(p->K e hs (Be gl n sl H nx lg))/\lD gl n H nx lg hs K l
noncomputable def qV(ex:IS)(b:Code)(K:KF)(n:Nat):Hs->St->Prop:=Nat.rec (motive:=λ_=>Hs->St->Prop) (λ_ _=>False) (λ_ ih hs st=>ex b hs st (λe hs st=>match e with
 | .normal=>ih hs st
 | .exit i=>K (.exit i) hs st
 | .ret=>K .ret hs st
 | .pan v=>K (.pan v) hs st)) n
noncomputable def Qc(ex:IS)(b:Code)(hs:Hs)(st:St)(K:KF):Prop:=match hs with
 |(_,.loop r S outs)::hs'=>O5 nx0 r st S/\Au P rd nx0 (.loop b) (Al st.tm.gl st.tm.n S) (B3 st.tm.gl st.tm.n outs)/\Nu st.tm.gl st.tm.n hs' K outs
 |(_,.unroll n)::hs'=>qV ex b K n hs' st
 |(_,.loopF sl outs)::hs'=>C4 st.tm sl/\Au P rd nx0 (.loop b) (Be st.tm.gl st.tm.n sl st.H st.nx st.lg) (DQ st.tm.gl st.tm.n st.H st.nx st.lg outs)/\lD st.tm.gl st.tm.n st.H st.nx st.lg hs' K outs
 |(_,.loopM sl e sl' Q rest):: _=>C4 st.tm sl/\Au P rd nx0 (.loop b) (Be st.tm.gl st.tm.n sl st.H st.nx st.lg) (Oj st.tm.gl st.tm.n e sl' Q)/\∀(h:Nat)(H:T O)(nx:Nat)(lg:List Nat),Q h H nx lg->K e (rest h H nx lg) (Be st.tm.gl st.tm.n (sl' h) H nx lg)
 | _=>False
noncomputable def NK(c:Code)(hs:Hs)(st:St)(K:KF):Prop:=match hs with
 |(_,.loop r S outs)::hs'=>O5 nx0 r st S/\Au P rd nx0 c (Al st.tm.gl st.tm.n S) (B3 st.tm.gl st.tm.n outs)/\Nu st.tm.gl st.tm.n hs' K outs
 |(_,.loopM sl e sl' Q rest):: _=>C4 st.tm sl/\Au P rd nx0 c (Be st.tm.gl st.tm.n sl st.H st.nx st.lg) (Oj st.tm.gl st.tm.n e sl' Q)/\∀(h:Nat)(H:T O)(nx:Nat)(lg:List Nat),Q h H nx lg->K e (rest h H nx lg) (Be st.tm.gl st.tm.n (sl' h) H nx lg)
 | _=>False
noncomputable def Qd(ex:IS)(a b:Code)(hs:Hs)(st:St)(K:KF):Option V->Prop
 |some (.bool t)=>ex (bif t then a else b) hs st K
 | _=>False
noncomputable def NJ(_:Nat)(ops:Array Oper)(draw:Bool)(hs:Hs)(st:St)(K:KF):Prop:=YE P E sp ops draw hs st (λhs st=>K .normal hs st)
noncomputable def kW(ex:IS)(c:Code)(hs:Hs)(st:St)(K:KF):Prop:=
 match c with
 | .skip=>K .normal hs st
 | .label _=>K .normal hs st
 | .seq a b=>ex a hs st (jI ex b K)
 | .region id ops draw=>NJ P E sp id ops draw hs st K
 | .cond c a b=>Qd ex a b hs st K (Cy st.tm c)
 | .block id b=>ex b hs st (lP id K)
 | .loop b=>Qc P rd nx0 ex b hs st K
 | .scope b=>ex b hs st K
 | .rangeFunc g ps asg b=>NK P rd nx0 (.rangeFunc g ps asg b) hs st K
 | .exit id=>K (.exit id) hs st
 | .ret=>K .ret hs st
 | _=>False
noncomputable def vc(n:Nat):IS:=Nat.rec (motive:=λ_=>IS) (λ_ _ _ _=>False) (λ_ ih=>kW P E sp rd nx0 ih) n
end
section
variable {E:B9} {sp:Ld} {rd:Option Nat} {nx0:Nat}
theorem pD{hs:Hs}{K:KF}: ∀{l:List (Prop×Ex×SL)}{e:Ex}{st:St},Nu gl n hs K l->B3 gl n l e st->K e hs st
 |[],_,_,_,h=>h.elim
 |(p,e',S)::l,e,st,hk,h=>by
  rcases h with⟨hp,rfl,rfl⟩|h
  .exact hk.1 hp
  .exact pD hk.2 h
theorem zE{hs:Hs}{K:KF}: ∀{l:List (Prop×Ex×List (Nat×V))}{e:Ex}{st:St},lD gl n H nx lg hs K l->DQ gl n H nx lg l e st->K e hs st/\st.tm.gl=gl
 |[],_,_,_,h=>h.elim
 |(p,e',S)::l,e,st,hk,h=>by
  rcases h with⟨hp,rfl,rfl⟩|h
  .exact⟨hk.1 hp,rfl⟩
  .exact zE hk.2 h
theorem wV: ∀{l:List (Prop×Ex×SL)}{e:Ex}{st:St},B3 gl n l e st->st.tm.gl=gl
 |[],_,_,h=>h.elim
 | _:: _,_,_,h=>by
  rcases h with⟨_,_,rfl⟩|h
  .rfl
  .exact wV h
theorem BI(hE:E.Ok P)(hm:P.follows .mixedOrders=true)(hsp:Lf P gl sp): ∀(n:Nat)(c:Code)(hs:Hs)(st:St)(K:KF),st.tm.gl=gl->vc P E sp rd nx0 n c hs st K->Au P rd nx0 c st (λe st'=>st'.tm.gl=gl/\∃hs',K e hs' st')
 |0,_,_,_,_,_,h=>h.elim
 | n + 1, c, hs, st, K, hgl, h => by
  have ih:=BI hE hm hsp n
  change kW P E sp rd nx0 (vc P E sp rd nx0 n) c hs st K at h
  unfold kW at h
  split at h
  .grind[Au.skip]
  .grind[Au.label]
  .rename_i a b
   refine Au.seq (ih a hs st _ hgl h) (λst1⟨hg,hs1,h1⟩=>ih b hs1 st1 K hg h1) (λe st1 he⟨hg,hs1,h1⟩=>⟨hg,hs1,?_⟩)
   cases e with
   |normal=>trivial
   |exit=>exact h1
   |ret=>exact h1
   |pan=>exact h1
  .rename_i id ops draw
   have Dy:YE P E sp ops draw hs st (λhs st=>K .normal hs st)->Au P rd nx0 (.region id ops draw) st (λe st'=>st'.tm.gl=gl/\∃hs',K e hs' st'):=λh=>by
    refine(j6 hE hm (by simp_all) h).mono ?_
    simp_all
   unfold NJ at h
   exact Dy h
  .rename_i c a b
   unfold Qd at h
   grind[Bv,Au.cond]
  .rename_i id b
   refine Au.block (ih b hs st _ hgl h) (λst1⟨hg,hs1,h1⟩=>⟨hg,hs1,?_⟩) (λe st1 he⟨hg,hs1,h1⟩=>⟨hg,hs1,?_⟩)
   .unfold lP at h1
    simp_all
   .unfold lP at h1
    grind[Nat.eq_of_beq_eq_true]
  .rename_i b
   unfold Qc at h
   split at h
   .rename_i _ _ r S outs hs'
    obtain⟨h1,h2,h3⟩:=h
    refine Au.gc (Wo h1) (h2.mono λe st' ho=>⟨?_,hs',pD h3 ho⟩)
    have: ∀{l:List (Prop×Ex×SL)},B3 st.tm.gl st.tm.n l e st'->st'.tm.gl=st.tm.gl:=by
     intro l
     induction l with
     |nil=>intro h;exact h.elim
     |cons p l ih=>
      rintro(⟨_,_,rfl⟩|h)
      .rfl
      .exact ih h
    grind
   .rename_i _ m hs'
    have key: ∀(m:Nat)(hs:Hs)(st:St),st.tm.gl=gl->qV (vc P E sp rd nx0 n) b K m hs st->Lp P rd nx0 b (λe st'=>st'.tm.gl=gl/\∃hs',K e hs' st') m st:=by
     intro m
     induction m with
     |zero=>intro _ _ _ h;exact h.elim
     |succ m ihm=>
      intro hs st hgl h
      refine(ih b hs st _ hgl h).mono ?_
      rintro e st1 ⟨hg,hs1,h1⟩
      cases e with
      |normal=>exact .inl ⟨rfl,ihm hs1 st1 hg h1⟩
      |exit i=>grind
      |ret=>grind
      |pan v=>grind
    exact(key m hs' st hgl h).sat
   .rename_i _ sl outs hs'
    obtain⟨h1,h2,h3⟩:=h
    refine Au.fewer h1 (h2.mono λe st' ho=>?_)
    grind[zE]
   .rename_i _ sl e sl' Q rest _
    obtain⟨h1,h2,h3⟩:=h
    refine Au.fewer h1 (h2.mono λe' st' ho=>?_)
    obtain⟨g,H,nx,lg,rfl,rfl,hQ⟩:=ho
    exact⟨hgl,_,h3 g H nx lg hQ⟩
   .exact h.elim
  .grind[Au.scope]
  .unfold NK at h
   split at h
   .rename_i _ r S outs hs'
    obtain⟨h1,h2,h3⟩:=h
    exact Au.gc (Wo h1) (h2.mono λe st' ho=>⟨(wV ho).trans hgl,hs',pD h3 ho⟩)
   .rename_i _ sl e sl' Q rest _
    obtain⟨h1,h2,h3⟩:=h
    refine Au.fewer h1 (h2.mono λe' st' ho=>?_)
    obtain⟨g,H,nx,lg,rfl,rfl,hQ⟩:=ho
    exact⟨hgl,_,h3 g H nx lg hQ⟩
   .exact h.elim
  all_goals grind[Au.exit,Au.ret]
theorem Au.of_vc(hE:E.Ok P)(hm:P.follows .mixedOrders=true)(hsp:Lf P gl sp){hs:Hs}{st:St}{K:KF}{R:Ex->St->Prop}(hgl:st.tm.gl=gl)(h:vc P E sp rd nx0 n c hs st K)(hK: ∀e hs st',st'.tm.gl=gl->K e hs st'->R e st'):Au P rd nx0 c st R:=
 (BI hE hm hsp n c hs st K hgl h).mono λe st'⟨hg,hs',hk⟩=>hK e hs' st' hg hk
def QG:Ex->Ex->Bool
 | .exit i,.exit j=>Nat.beq i j
 | .ret,.ret=>true
 | _,_=>false
noncomputable def L8(nx0:Nat)(n:Nat)(r:List Nat)(S:SL):KF:=λe _ st=>match e with
 | .normal=>bif Nat.beq st.tm.n n then O5 nx0 r st S else False
 | _=>False
noncomputable def Kr(nx0:Nat)(n:Nat)(e':Ex)(r:List Nat)(S:SL):KF:=λe _ st=>match e' with
 | .pan v'=>match e with
  | .pan v=>bif Nat.beq st.tm.n n then v=v'/\O5 nx0 r st S else False
  | _=>False
 | _=>bif QG e e'&&Nat.beq st.tm.n n then O5 nx0 r st S else False
theorem xV{nx0:Nat}{e' e:Ex}{S:SL}{hs:Hs}{st:St}(h:Kr nx0 n e' r S e hs st):e=e'/\e≠ .normal/\st.tm.n=n/\O5 nx0 r st S:=by
 unfold Kr at h
 split at h
 .grind[Nat.eq_of_beq_eq_true]
 .obtain⟨hb,hk⟩:=Fc h
  rw[aD]at hb
  have he:=hb.1
  unfold QG at he
  grind[Nat.eq_of_beq_eq_true]
theorem PO(hE:E.Ok P)(hm:P.follows .mixedOrders=true)(hsp:Lf P gl sp){k:Nat}(I:α->Prop)(S:α->SL)(m:α->Nat){R:Ex->St->Prop}
  (h: ∀x,I x->(∃y r hs n,I y/\m y<m x/\vc P E sp rd nx0 n b hs (Al gl k (S x)) (L8 nx0 k r (S y)))\/(∃e r So hs n,R e (Al gl k So)/\vc P E sp rd nx0 n b hs (Al gl k (S x)) (Kr nx0 k e r So)))(x:α)(hx:I x):Au P rd nx0 (.loop b) (Al gl k (S x)) R:=by
 refine Au.loop (α:={x//I x}) (λx=>Al gl k (S x.1)) (λx=>m x.1) (λ⟨x,hx⟩=>?_) ⟨x,hx⟩
 refine Au.gc_post ?_
 rcases h x hx with⟨y,r,hs,n,hy,hlt,hv⟩|⟨e',r,So,hs,n,hR,hv⟩
 .refine Au.of_vc hE hm hsp rfl hv λe hs' st' hg hk=>?_
  unfold L8 at hk
  split at hk
  .obtain⟨hb,hk⟩:=Fc hk
   have:=aF hb
   refine⟨r,_,Wo hk,.inl ⟨rfl,⟨y,hy⟩,hlt,?_⟩⟩
   rw[hg,this]
  .exact hk.elim
 .refine Au.of_vc hE hm hsp rfl hv λe hs' st' hg hk=>?_
  obtain⟨rfl,hne,this,hk⟩:=xV hk
  refine⟨r,_,Wo hk,.inr ?_⟩
  simp_all
theorem au(hE:E.Ok P)(hm:P.follows .mixedOrders=true)(hsp:Lf P gl sp)(hc:c= .loop b){k:Nat}(I:α->Prop)(S:α->SL)(m:α->Nat){R:Ex->St->Prop}
  (h: ∀x,I x->(∃y r hs n,I y/\m y<m x/\vc P E sp rd nx0 n b hs (Al gl k (S x)) (L8 nx0 k r (S y)))\/(∃e r So hs n,R e (Al gl k So)/\vc P E sp rd nx0 n b hs (Al gl k (S x)) (Kr nx0 k e r So)))(x:α)(hx:I x):Au P rd nx0 c (Al gl k (S x)) R:=hc▸PO hE hm hsp I S m h x hx
noncomputable def AK(n:Nat)(G:Ex->List (Nat×V)->T O->Nat->List Nat->Prop):KF:=λe hs st=>match hs with
 |(_,.toO sl):: _=>bif Nat.beq st.tm.n n then G e sl st.H st.nx st.lg/\C4 st.tm sl else False
 | _=>False
structure Mem where
 H:T O
 nx:Nat
 lg:List Nat
def Tc(I:α->Mem->Prop)(S:α->List (Nat×V))(m:α->Nat)(k:Nat)(out:Ex->List (Nat×V)->Mem->Prop):Ex->List (Nat×V)->T O->Nat->List Nat->Prop:=λe sl H nx lg=>match e with
 | .normal=>∃y,I y ⟨H,nx,lg⟩/\m y<k/\sl=S y
 | .exit i=>out (.exit i) sl ⟨H,nx,lg⟩
 | .ret=>out .ret sl ⟨H,nx,lg⟩
 | .pan v=>out (.pan v) sl ⟨H,nx,lg⟩
theorem PN(hE:E.Ok P)(hm:P.follows .mixedOrders=true)(hsp:Lf P gl sp)(hc:c= .loop b){k:Nat}(I:α->Mem->Prop)(S:α->List (Nat×V))(m:α->Nat)(out:Ex->List (Nat×V)->Mem->Prop)
  (h: ∀x(H:T O)(nx:Nat)(lg:List Nat),I x ⟨H,nx,lg⟩->∃hs n,vc P E sp rd nx0 n b hs (Be gl k (S x) H nx lg) (AK k (Tc I S m (m x) out)))(x:α)(M:Mem)(hx:I x M):Au P rd nx0 c (Be gl k (S x) M.H M.nx M.lg) (λe st=>∃sl M',st=Be gl k sl M'.H M'.nx M'.lg/\out e sl M'):=by
 subst hc
 refine Au.loop (α:={q:α×Mem//I q.1 q.2}) (λq=>Be gl k (S q.1.1) q.1.2.H q.1.2.nx q.1.2.lg) (λq=>m q.1.1) (λ⟨⟨x,⟨H,nx,lg⟩⟩,hx⟩=>?_) ⟨(x,M),hx⟩
 refine Au.fewer_post ?_
 obtain⟨hs,n,hv⟩:=h x H nx lg hx
 refine Au.of_vc hE hm hsp rfl hv λe hs' st' hg hk=>?_
 unfold AK at hk
 split at hk
 .rename_i _ sl _
  obtain⟨hb,hG,hk⟩:=Fc hk
  have hn:=aF hb
  refine⟨sl,hk,?_⟩
  rw[hg,hn]
  unfold Tc at hG
  cases e with
  |normal=>
   obtain⟨y,hy,hlt,rfl⟩:=hG
   exact .inl ⟨rfl,⟨(y,_),hy⟩,hlt,rfl⟩
  |exit i=>grind
  |ret=>grind
  |pan v=>grind
 .exact hk.elim
theorem ZE{w':World}{v:V}{u:Value}(hH:RH s w H.get)(g1:RV s' w' v u)(hhf:Hf v)(g3:Br s w s' w' lg)(how: ∀h∈lg,¬s.dom h)(hlt: ∀b,s'.fz b->b<w'.heap.size): ∃s'':Av,RV s'' w' v u/\RH s'' w' H.get/\Br s w s'' w' []/\s''.dom=s.dom:=by
 have hno: ∀b,¬ ∃h∈lg,s.dom h/\b=s.μ h:=λb⟨h,h1,h2,_⟩=>how h h1 h2
 obtain⟨r1,_⟩:=hH.below (w':=w') ⟨g3.mod.os,g3.mod.tape,g3.mod.output,g3.mod.size,λk hk=>g3.mod.block k hk (hno k)⟩
 have hsz:=g3.mod.size
 have hfzs: ∀b,s.fz b->s'.fz b:=g3.le.fz
 refine⟨{s with fz:=s'.fz},Hf.rv (s:=s') (s':={s with fz:=s'.fz}) (λ_ h=>h) _ _ hhf g1,⟨λi o ho hl=>?_,r1.inj,λb hb=>?_⟩,⟨⟨⟨λ_ _=>rfl,λ_ _=>rfl,λ_ h=>h,hfzs⟩,λ_ h=>h⟩,λb hb=>(g3.fz b hb).imp id (Or.imp id λ⟨h,h1,h2,_⟩=>absurd h2 (how h h1)),λb hb=>?_,?_,λi hi hno=>absurd hi hno⟩,rfl⟩
 .obtain⟨a1,a2,a3,a4⟩:=r1.obj i o ho hl
  have a2':=(hH.obj i o ho hl).2.1
  refine⟨a1,a2,?_,RO.mono' (s:=s) (s':={s with fz:=s'.fz}) ⟨λ_ _=>rfl,λ_ _=>rfl,λ_ h=>h,hfzs⟩ (λ_ _=>rfl) a1 a4 (λ_=>rfl)⟩
  rintro(hf|hm)
  .rcases g3.fz _ hf with hf|hge|⟨h,h1,h2,_⟩
   .exact a3 (.inl hf)
   all_goals grind
  .exact a3 (.inr hm)
 .exact hb.elim (hlt b) (λhm=>r1.old b (.inr hm))
 .exact g3.kept b hb
 .exact⟨g3.mod.os,g3.mod.tape,g3.mod.output,hsz,λk hk _=>g3.mod.block k hk (hno k)⟩
def Gr(v:V):Option V->Prop
 |some u=>u=v
 |none=>False
noncomputable def PW(n:Nat)(r:List Nat)(S:SL):KF:=λe _ st=>match e with
 | .exit _=>False
 | .pan _=>False
 | _=>bif Nat.beq st.tm.n n then O5 0 r st S else False
noncomputable def NM(P:Program)(E:B9)(sp:Ld)(gl:T (List V))(n:Nat)(ars:List V)(hs:Hs)(r:List Nat)(S:SL)(v:V):Option FI->Prop
 |some fi=>bif Nat.ble ars.length fi.ntmps&&Jo v then Gr v (Db E.G (Al gl fi.ntmps S).tm (Al gl fi.ntmps S).H fi.res)/\vc P E sp none 0 n fi.body hs ⟨⟨DU (B0 fi.ntmps) 0 ars,gl,fi.ntmps⟩,.e,0,[]⟩ (PW fi.ntmps r S)else False
 |none=>False
noncomputable def Oo(P:Program)(E:B9)(sp:Ld)(gl:T (List V))(n f:Nat)(ars:List V)(hs:Hs)(r:List Nat)(S:SL)(v:V):Prop:=NM P E sp gl n ars hs r S v (E.code f)
theorem Ag.of_vc(hE:E.Ok P)(hm:P.follows .mixedOrders=true)(hsp:Lf P gl sp){hs:Hs}{S:SL}{v:V}(h:Oo P E sp gl n f ars hs r S v):Ag P gl f ars v:=by
 unfold Oo NM at h
 split at h
 .rename_i fi hfi
  obtain⟨hb,hret,hv⟩:=Fc h
  rw[aD]at hb
  have hret':Db E.G (Al gl fi.ntmps S).tm (Al gl fi.ntmps S).H fi.res=some v:=by
   unfold Gr at hret
   split at hret
   .simp_all
   .exact hret.elim
  rw[EC]at hv
  refine Ac.fnC hE hfi (by simp_all) (C5.refl _ _ _) (R:=λe st=>(e= .normal\/e= .ret)/\st=Al gl fi.ntmps S) ?_ ?_
  .rw[aV]
   refine Au.gc_post (Au.of_vc hE hm hsp rfl hv λe hs' st' hg hk=>?_)
   unfold PW at hk
   have fin:(bif Nat.beq st'.tm.n fi.ntmps then O5 0 r st' S else False)->∃r st2,Gc 0 r st' st2/\st2=Al gl fi.ntmps S:=by
    intro hk
    obtain⟨hb,hk⟩:=Fc hk
    exact⟨r,_,Wo hk,by simp_all⟩
   cases e with
   |exit=>exact hk.elim
   |pan=>exact hk.elim
   |normal=>simp_all
   |ret=>simp_all
  .rintro e st ⟨he,rfl⟩
   refine⟨he,v,hret',λs w ee w' hH hn⟨u,s',h1,g1,g2,g3,_,_⟩=>?_⟩
   subst h1
   obtain⟨s'',q1,q2,q3,q4⟩:=ZE hH g1 (AR.1 v hb.2) g3 (λh _=>hn h (aG _)) (λb hb=>g2.old b (.inl hb))
   exact⟨u,s'',rfl,q1,q2,q3,λi=>by simp_all,aC _⟩
 .exact h.elim
end
section
variable {P:Program} {rd:Option Nat} {nx0:Nat} {st:St} {R:Ex->St->Prop}
theorem Au.rangeFunc'{g:Operand}{ps:Array Tmp}{asg body:Code}{caps:List V}{r:CR}(hg:ev st.tm g=some (.fn f caps))(hlb:Kl rd st.H=true)
  (hc:Ac P st.tm.gl (.fn f caps) [.yld st.nx] (st.H.put st.nx (.loop .ready none 0 st.tm ps.toList asg body)) (st.nx+1) r)
  (hR:(∃f0 tm0 ps0 as0 bd0,r.H.get st.nx=some (.loop .ready none f0 tm0 ps0 as0 bd0)/\R .normal ⟨st.tm,r.H.put st.nx .dead,r.nx,r.lg++st.lg⟩)\/
   (∃cc f0 tm0 ps0 as0 bd0,r.H.get st.nx=some (.loop .done (some cc) f0 tm0 ps0 as0 bd0)/\Au P rd nx0 cc ⟨st.tm,r.H.put st.nx .dead,r.nx,r.lg++st.lg⟩ R)):
  Au P rd nx0 (.rangeFunc g ps asg body) st R:=by
 intro B s0 w0 s w a hn hB hrd A Q hQ
 have hr:=A.rel
 have hrd2: ∀h,rd=some h->s.dom h:=λh e=>A.step.le.dom h (hrd h e)
 have hmu:rd.map s0.μ=rd.map s.μ:=by
  cases rd with
  |none=>rfl
  |some h0=>simp[A.step.le.μ h0 (hrd h0 rfl)]
 have hB2:B.n<=w.heap.size:=aP hB A.step.mod.size
 rw[hmu]
 refine wpIn_rangeFunc ?_
 intro fn _
 have hround:(FF (rd.map s.μ)).round=rd.map s.μ:=by cases rd<;>rfl
 rw[hround]
 obtain⟨L,mark,w1,s1,e1,e2,e3,e4,e5,Ds,e6,e7,e8⟩:=zF (P:=P) (asg:=asg) (body:=body) (ps:=ps) hr hB2 hrd2 hlb fn 0 (λ_ e=>by cases e)
 obtain⟨vs,hgv,hcaps⟩:=Bb hr.rt hg
 have hfv:RV s1 w1 (.fn f caps) (.func (.func f) #[] vs):=RV.mono e4.le e4.k _ _ ⟨vs,rfl,hcaps⟩
 have hyv:RL s1 w1 [V.yld st.nx] (#[Value.func (.yield L) #[] #[]]:Array Value).toList:=⟨_,_,rfl,⟨(e5 _).2 (.inr rfl),by rw[e3]⟩,rfl⟩
 have hn1: ∀i,st.nx+1<=i->¬s1.dom i:=λi hi hd=>by
  rcases(e5 i).1 hd with hd|hd
  .exact hr.nx i o_ hd
  .omega
 obtain⟨next,n1,n2,n3⟩:=hc.1 s1 w1 _ _ hfv hyv e2 (hr.rt.mono e4.le e4.k).2.2 hn1
 obtain⟨f',ars',rfl⟩:=n3 ⟨f,caps,rfl⟩
 have hinv:(invoke (.fn (.func f) vs) (#[]++ #[Value.func (.yield L) #[] #[]])).run P w1= .ok (.enter f' ars') w1:=by
  simpa [Deferred.ofValue]using n1
 refine⟨L,mark,w1,{target:=.fn (.func f) vs,args:= #[]++ #[Value.func (.yield L) #[] #[]]},w1,f',ars',w1,e1,?_,λf' _=>Vx _ f',hinv,λh=>(by rw[xD]at h;cases h),?_⟩
 .show(Deferred.ofValue (a.eval g) _).run P w1=_
  rw[hgv]
  simp[Deferred.ofValue,Act.eval]
 .refine(pW (rd.map s.μ) n2).mono ?_
  rintro ee w3 ⟨v,s3,rfl,c1,c2,c3,c4,c5⟩
  have hdnx:s3.dom st.nx:=c3.le.dom _ ((e5 _).2 (.inr rfl))
  have hμ:s3.μ st.nx=L:=by rw[c3.le.μ _ ((e5 _).2 (.inr rfl)),e3]
  have hst3:Br s w s3 w3 r.lg:=(e4.trans c3).more s_
  have hdom3: ∀i,s3.dom i↔s.dom i\/st.nx<=i/\i<r.nx:=λi=>by
   rw[c4,e5]
   constructor
   .rintro((h|h)|h)
    .exact .inl h
    .exact .inr ⟨o_,o_⟩
    .exact .inr ⟨o_,h.2⟩
   .rintro(h|h)
    .exact .inl (.inl h)
    .by_cases h':i=st.nx
     .exact .inl (.inr h')
     .exact .inr ⟨o_,h.2⟩
  have after: ∀(ls:LoopState)(pd:Option Code) f0 tm0 ps0 as0 bd0,r.H.get st.nx=some (.loop ls pd f0 tm0 ps0 as0 bd0)->ls≠ .busy->
    ∃w4,(Instr.endLoop L).run P w3= .ok pd w4/\E7 B s w st ⟨st.tm,r.H.put st.nx .dead,r.nx,r.lg++st.lg⟩ a r.lg s3 w4 {a with defers:=mark++a.defers}:=by
   intro ls pd f0 tm0 ps0 as0 bd0 ho hls
   obtain⟨r0,q1,q2,q3,_,_,_,_,_,q9⟩:=BA c2 ho
   rw[hμ]at q1 q9
   obtain⟨z1,z2⟩:=q9 .exhausted pd .dead (.inr rfl)
   have hreq:({r0 with state:=.exhausted,pending:=pd}:Loop)={r0 with state:=.exhausted}:=by rw[<-q3]
   rw[hreq]at z1 z2
   refine⟨_,by rw[<-q3];exact run_endLoop q1 (by rw[q2];exact hls),⟨z1,hr.rt.mono (hst3.trans z2).le (hst3.trans z2).k,λi hi=>?_,Ds,e6,e7,λD hD=>?_⟩,?_,hdom3,aP (Nat.le_succ _) c5,rfl⟩
   .intro hd
    rcases(hdom3 i).1 hd with hd|hd
    .exact hr.nx i (by dsimp only at hi;omega) hd
    .dsimp only at hi;omega
   .exact((e8 D hD).step c3).step z2
   .refine(hst3.trans z2).drop (λx hx=>?_)
    rcases aL.1 hx with hx|hx
    .exact .inl hx
    .simp only[aN]at hx
     exact .inr (by rw[hx];exact hr.nx st.nx (aC _))
  rcases hR with⟨f0,tm0,ps0,as0,bd0,ho,hR⟩|⟨cc,f0,tm0,ps0,as0,bd0,ho,hR⟩
  .obtain⟨w4,v1,v2⟩:=after _ _ _ _ _ _ _ ho d_
   exact⟨none,w4,v1,hQ .normal _ hR _ _ _ (A.went v2)⟩
  .obtain⟨w4,v1,v2⟩:=after _ _ _ _ _ _ _ ho d_
   refine⟨some cc,w4,v1,?_⟩
   have:=hR B s0 w0 _ w4 _ hn hB hrd (A.went v2) Q hQ
   rw[hmu]at this
   exact this
def Ex.np:Ex->Bool
 | .pan _=>false
 | _=>true
theorem Ac.yld{hd:Nat}{r:CR}{pd0:Option Code}{fn0:Nat}{tm1:TM}{ps:List Nat}{assign body:Code}(ho:H.get hd=some (.loop .ready pd0 fn0 tm ps assign body))(htm1:Iy tm ps ars=some tm1)(hlog:C5 H.get nx r.H.get r.nx r.lg)
  (h:Au P (some hd) nx assign ⟨tm1,H,nx,[]⟩ (λe st1=>e= .normal/\∃pd fn1 tmx ps1 as1 bd1,st1.H.get hd=some (.loop .ready pd fn1 tmx ps1 as1 bd1)/\
   Au P (some hd) nx body ⟨st1.tm,st1.H.put hd (.loop .busy pd fn1 tmx ps1 as1 bd1),st1.nx,hd::st1.lg⟩ (λe st2=>e.np=true/\∃ls2 pd2 fn2 tm2 ps2 as2 bd2,st2.H.get hd=some (.loop ls2 pd2 fn2 tm2 ps2 as2 bd2)/\
    r.v= .bool e.pend.isNone/\r.H=st2.H.put hd (.loop (bif e.pend.isNone then .ready else .done) e.pend fn2 tm2 ps2 as2 bd2)/\r.nx=st2.nx/\∀x,x∈hd::st2.lg->x∈r.lg))):Ac P gl (.yld hd) ars H nx r:=by
 refine⟨λs w fv vals hc hargs hH hgl hn=>?_,hlog⟩
 obtain⟨hdm,rfl⟩:=hc
 obtain⟨r0,q1,q2,q3,q4,q5,q6,q7,_,_⟩:=BA hH ho
 obtain⟨p1,p2⟩:=nZ (a:={tmps:=r0.tmps,defers:=[]}) q7 hargs htm1
 have hps:vals.size=r0.params.size:=by rw[q4];simp at p1⊢;omega
 have hy:=run_yield (P:=P) (args:=vals) q1 hps
 obtain⟨X,hX'⟩: ∃X,(r0.params.zip vals).foldl (λtmps(t,a)=>tmps.setIfInBounds t a) r0.tmps=X:=⟨_,rfl⟩
 rw[hX']at hy
 have hfold:X=(ps.zip vals.toList).foldl (λtmps(x:Nat×Value)=>tmps.setIfInBounds x.1 x.2) r0.tmps:=by
  rw[<-hX',q4,<-Array.foldl_toList,Array.toList_zip]
 refine⟨.round (s.μ hd) r0.fn X r0.assign r0.body,by simp[Deferred.ofValue,invoke,hy],?_,λ⟨f,c,e⟩=>by cases e⟩
 refine roundIn_of_wpIn (F:=Fence.wide) (n:=3) trivial ?_
 rw[q5,q6]
 have hrel:Ir (bs w.heap.size) s w ⟨tm1,H,nx,[]⟩ {tmps:=X,defers:=[]}:=
  ⟨hH,by dsimp only;rw[hfold];exact p2,hn,[],rfl,cF,λD hD=>by simp at hD⟩
 have hrdd: ∀h,some hd=some h->s.dom h:=λh e=>by cases e;exact hdm
 refine AW (l:=some (s.μ hd)) (h (bs w.heap.size) s w s w _ hn (aC _) hrdd ⟨hrel,Br.refl s w [],Cp s _,aC _⟩ _ ?_)
 rintro e st1 ⟨rfl,pd,fn1,tmx,ps1,as1,bd1,ho1,hbody⟩ s1 w1 a1 A1
 obtain⟨r1,t1,t2,t3,t4,t5,t6,t7,t8,t9⟩:=BA A1.rel.rh ho1
 have hμ:s1.μ hd=s.μ hd:=A1.step.le.μ hd hdm
 rw[hμ]at t1 t9
 obtain⟨u1,u2⟩:=t9 .busy pd _ (.inl rfl)
 refine⟨_,run_beginRound t1 t2,?_⟩
 have hreq:{r1 with state:=.busy,pending:=pd}={r1 with state:=.busy}:=by rw[<-t3]
 rw[hreq]at u1 u2
 have hrel1:Ir (bs w.heap.size) s1 _ ⟨st1.tm,st1.H.put hd (.loop .busy pd fn1 tmx ps1 as1 bd1),st1.nx,hd::st1.lg⟩ a1:=A1.rel.world u2 u1
 have A1':J6 (bs w.heap.size) s w nx ⟨st1.tm,st1.H.put hd (.loop .busy pd fn1 tmx ps1 as1 bd1),st1.nx,hd::st1.lg⟩ s1 _ a1:=
  ⟨hrel1,(A1.step.trans u2).more (λx hx=>by
   rcases aL.1 hx with hx|hx
   .exact aW _ hx
   .simp only[aN]at hx;exact hx▸aZ),A1.dom,A1.le⟩
 have hwp:=hbody (bs w.heap.size) s w s1 _ a1 hn (aC _) hrdd A1' (roundPost P (s.μ hd) (Ge s w nx r)) (by
  rintro e st2 ⟨hnp,ls2,pd2,fn2,tm2,ps2,as2,bd2,ho2,hv,hHr,hnxr,hlgr⟩ s2 w2 a2 A2
  obtain⟨r2,t1',t2',t3',_,_,_,_,t8',t9'⟩:=BA A2.rel.rh ho2
  have hμ2:s2.μ hd=s.μ hd:=A2.step.le.μ hd hdm
  rw[hμ2]at t1' t9'
  have fin: ∃v w',(Instr.endRound (s.μ hd) e.pend).run P w2= .ok v w'/\Ge s w nx r (.returned v) w':=by
   obtain⟨v1,v2⟩:=t9' (if e.pend.isNone then .ready else .done) e.pend _ (.inl rfl)
   refine⟨_,_,run_endRound e.pend t1',_,s2,rfl,by rw[hv];rfl,?_,?_,λi=>?_,?_⟩
   .have:(bif e.pend.isNone then LoopState.ready else LoopState.done)=if e.pend.isNone then .ready else .done:=by cases e.pend.isNone<;>rfl
    rw[hHr,this]
    exact v1
   .refine(A2.step.trans v2).more (λx hx=>hlgr x ?_)
    rcases aL.1 hx with hx|hx
    .exact aW _ hx
    .simp only[aN]at hx;exact hx▸aZ
   .rw[hnxr];exact A2.dom i
   .rw[hnxr];exact A2.le
  cases e<;>first|exact fin|cases hnp)
 exact AW (l:=some (s.μ hd)) hwp
end
section
variable {P:Program}
theorem Ac.frameR{Hs H':T O}{k nx':Nat}{r:CR}{v':V}{σ:Nat->Option Nat}
  (h:Ac P gl (.fn f []) ars Hs k r)
  (hρk: ∀i g,ρ i=some g->i<k)
  (hρi: ∀i j g,ρ i=some g->ρ j=some g->i=j)
  (hars:A8 H.get (λ_=>False) ρ ars ars')
  (hobj: ∀i o,Hs.get i=some o->o.live=true->∃g y,ρ i=some g/\H.get g=some y/\Hd H.get (λ_=>False) ρ o y)
  (hσ: ∀g i,σ g=some i->(i<k/\ρ i=some g)\/(nx<=g/\g<nx'/\k<=i/\i<r.nx))
  (hσi: ∀g g' i,σ g=some i->σ g'=some i->g=g')
  (hσn: ∀g,nx<=g->g<nx'->∃i,σ g=some i/\k<=i/\i<r.nx)
  (hnx:nx<=nx')
  (hv:Bo r.H.get (λ_=>False) σ v' r.v)
  (hH': ∀g y,H'.get g=some y->y.live=true->(∃i o,σ g=some i/\r.H.get i=some o/\Hd r.H.get (λ_=>False) σ y o)\/((∀i,ρ i≠some g)/\g<nx/\H.get g=some y))
  (hlive: ∀i,i<k->(i∈r.lg\/∃o,r.H.get i=some o/\o.live=true)->∃o,Hs.get i=some o/\o.live=true)
  (hlgk: ∀i∈r.lg,∀g,ρ i=some g->g∈lg')
  (hlog:C5 H.get nx H'.get nx' lg'):Ac P gl (.fn f []) ars' H nx ⟨v',H',nx',lg'⟩:=by
 refine⟨λs w fv vals hc hargs hH hgl hn=>?_,hlog⟩
 have hlow: ∀g,s.dom g->g<nx:=λg hd=>dW λhle=>hn g hle hd
 let ss:Av:={μ:=λi=>match ρ i with|some g=>s.μ g|none=>0,cp:=λi=>match ρ i with|some g=>s.cp g|none=>0,dom:=λi=>∃g,ρ i=some g/\s.dom g,fz:=s.fz,mark:=s.mark}
 have eμ: ∀i g,ρ i=some g->ss.μ i=s.μ g:=λi g e=>by show(match ρ i with|some g=>s.μ g|none=>0)=_;rw[e]
 have ecp: ∀i g,ρ i=some g->ss.cp i=s.cp g:=λi g e=>by show(match ρ i with|some g=>s.cp g|none=>0)=_;rw[e]
 have T1:En H.get (λ_=>False) ρ s ss:=⟨λi g e hd=>⟨⟨g,e,hd⟩,eμ i g e,ecp i g e⟩,λ_ _ _ _ hF=>hF.elim,λ_ hb=>hb⟩
 have hRH:RH ss w Hs.get:=by
  refine⟨λi o ho hl=>?_,λi j o o' ho ho' hl hl' e=>?_,hH.old⟩
  .obtain⟨g,y,e,hy,hvo⟩:=hobj i o ho hl
   obtain⟨a1,a2,a3,a4⟩:=hH.obj g y hy (hvo.live hl)
   exact⟨⟨g,e,a1⟩,by rw[eμ i g e];exact a2,by rw[eμ i g e];exact a3,hvo.ro hH T1 e a1 a4⟩
  .obtain⟨g,y,e1,hy,hvo⟩:=hobj i o ho hl
   obtain⟨g',y',e2,hy',hvo'⟩:=hobj j o' ho' hl'
   rw[eμ i g e1,eμ j g' e2]at e
   have:=hH.inj g g' y y' hy hy' (hvo.live hl) (hvo'.live hl') e
   subst this
   exact hρi i j g e1 e2
 obtain⟨vs,rfl,hcaps⟩:=hc
 have hvs:vs= #[]:=by
  have:vs.toList=[]:=hcaps
  simpa using this
 obtain⟨next,e1,e2,e3⟩:=h.1 ss w (.func (.func f) #[] vs) vals ⟨vs,rfl,by rw[hvs];rfl⟩ (A8.rl hH T1 _ _ _ hars hargs) hRH (λg l hg=>RC.mono' (s:=s) (s':=ss) (w:=w) (w':=w) (λ_ hb=>hb) (λ_ _=>rfl) l g 0 (hgl g l hg)) (λi hi⟨g,e,_⟩=>absurd (hρk i g e) o_)
 refine⟨next,e1,?_,e3⟩
 obtain⟨f',ars2,rfl⟩:=e3 ⟨f,[],rfl⟩
 refine CallsIn.mono e2 ?_
 rintro e w' ⟨u,s',rfl,g1,g2,g3,g4,g5⟩
 have hsz:=g3.mod.size
 let s2:Av:={μ:=λg=>if g<nx then s.μ g else match σ g with|some i=>s'.μ i|none=>0,cp:=λg=>if g<nx then s.cp g else match σ g with|some i=>s'.cp i|none=>0,dom:=λg=>s.dom g\/nx<=g/\g<nx',fz:=s'.fz,mark:=s.mark}
 have lμ: ∀g,g<nx->s2.μ g=s.μ g:=λg hg=>if_pos hg
 have lcp: ∀g,g<nx->s2.cp g=s.cp g:=λg hg=>if_pos hg
 have nμ: ∀g i,¬g<nx->σ g=some i->s2.μ g=s'.μ i:=λg i hg e=>by show(if g<nx then s.μ g else match σ g with|some i=>s'.μ i|none=>0)=_;rw[if_neg hg,e]
 have ncp: ∀g i,¬g<nx->σ g=some i->s2.cp g=s'.cp i:=λg i hg e=>by show(if g<nx then s.cp g else match σ g with|some i=>s'.cp i|none=>0)=_;rw[if_neg hg,e]
 -- old handles
 have hold: ∀i g,i<k->ρ i=some g->s'.dom i->s.dom g/\s'.μ i=s.μ g/\s'.cp i=s.cp g:=λi g hi e hd=>by
  rcases(g4 i).1 hd with⟨g',e',hd'⟩|⟨hge,_⟩
  .rw[e]at e';cases e'
   have hds:ss.dom i:=⟨g,e,hd'⟩
   exact⟨hd',by rw[g3.le.μ i hds,eμ i g e],by rw[g3.le.cp i hds,ecp i g e]⟩
  .omega
 have T2:En r.H.get (λ_=>False) σ s' s2:=by
  refine⟨λg i e hd=>?_,λ_ _ _ _ hF=>hF.elim,λ_ hb=>hb⟩
  rcases hσ g i e with⟨hi,er⟩|⟨hg1,hg2,hi1,hi2⟩
  .obtain⟨a,b,c⟩:=hold i g hi er hd
   exact⟨.inl a,by rw[lμ g (hlow g a),b],by rw[lcp g (hlow g a),c]⟩
  .exact⟨.inr ⟨hg1,hg2⟩,nμ g i o_ e,ncp g i o_ e⟩
 -- what the log of the small memory names is live in the greater one
 have hlogged: ∀i g,i∈r.lg->ρ i=some g->∃y,H.get g=some y/\y.live=true:=λi g hi e=>by
  obtain⟨o,ho,hl⟩:=hlive i (hρk i g e) (.inl hi)
  obtain⟨g',y,e',hy,hvo⟩:=hobj i o ho hl
  rw[e]at e';cases e'
  exact⟨y,hy,hvo.live hl⟩
 have huntouched: ∀g y,H.get g=some y->y.live=true->(∀i,ρ i≠some g)->∀i,i∈r.lg->ss.dom i->s.μ g≠ss.μ i:=λg y hy hl hno i hi⟨g',e',hd'⟩ em=>by
  obtain⟨y',hy',hl'⟩:=hlogged i g' hi e'
  rw[eμ i g' e']at em
  have:=hH.inj g g' y y' hy hy' hl hl' em
  subst this
  exact hno i e'
 refine⟨u,s2,rfl,Bo.rv g2 T2 _ _ _ hv g1,⟨λg y hy hl=>?_,λg g' y y' hy hy' hl hl' em=>?_,λb hb=>?_⟩,⟨⟨⟨λg hd=>lμ g (hlow g hd),λg hd=>lcp g (hlow g hd),λg hd=>.inl hd,λb hb=>g3.le.fz b hb⟩,λ_ hm=>hm⟩,λb hb=>?_,λb hb=>g3.kept b hb,g3.mod.mono ?_,λg hd hno=>?_⟩,λi=>fK,hnx⟩
 .-- each object
  rcases hH' g y hy hl with⟨i,o,e,ho,hvo⟩|⟨hno,hg,hy0⟩
  .obtain⟨a1,a2,a3,a4⟩:=g2.obj i o ho (hvo.live hl)
   obtain⟨b1,b2,b3⟩:=T2.ren g i e a1
   refine⟨b1,by rw[b2];exact a2,?_,hvo.ro g2 T2 e a1 a4⟩
   rw[b2]
   rintro(hf|hm)
   .exact a3 (.inl hf)
   .exact a3 (.inr (g3.le.mark _ hm))
  .obtain⟨a1,a2,a3,a4⟩:=hH.obj g y hy0 hl
   have hblk:w'.heap[s.μ g]? =w.heap[s.μ g]? :=g3.mod.block _ a2 (λ⟨i,hi,hd,em⟩=>huntouched g y hy0 hl hno i hi hd em)
   have hkept:Er s w w':=λb hb=>g3.kept b (.inl hb)
   refine⟨.inl a1,by rw[lμ g hg];omega,?_,RO.mono' (s:=s) (s':=s2) ⟨λg hd=>lμ g (hlow g hd),λg hd=>lcp g (hlow g hd),λg hd=>.inl hd,λb hb=>g3.le.fz b hb⟩ hkept a1 a4 (λ_=>hblk)⟩
   rw[lμ g hg]
   rintro(hf|hm)
   .rcases g3.fz _ hf with hf|hge|⟨i,hi,hd,em,_⟩
    .exact a3 (.inl hf)
    .omega
    .exact huntouched g y hy0 hl hno i hi hd em
   .exact a3 (.inr hm)
 .-- no two in one block
  have Bx: ∀g i o g' y',σ g=some i->r.H.get i=some o->o.live=true->(∀i,ρ i≠some g')->g'<nx->H.get g'=some y'->y'.live=true->s2.μ g=s2.μ g'->False:=by
   intro g i o g' y' e ho hlo hno hg' hy0 hly em
   obtain⟨a1,a2,a3,a4⟩:=g2.obj i o ho hlo
   obtain⟨b1,b2,b3⟩:=T2.ren g i e a1
   rw[b2,lμ g' hg']at em
   obtain⟨c1,c2,c3,c4⟩:=hH.obj g' y' hy0 hly
   rcases hσ g i e with⟨hi,er⟩|⟨hg1,hg2,hi1,hi2⟩
   .obtain⟨d1,d2,_⟩:=hold i g hi er a1
    obtain⟨o0,ho0,hl0⟩:=hlive i hi (.inr ⟨o,ho,hlo⟩)
    obtain⟨g2',y2,e2',hy2,hvo2⟩:=hobj i o0 ho0 hl0
    rw[er]at e2';cases e2'
    rw[d2]at em
    have:=hH.inj g g' y2 y' hy2 hy0 (hvo2.live hl0) hly em
    subst this
    exact hno i er
   .have hnd: ¬ss.dom i:=λ⟨g0,e0,_⟩=>absurd (hρk i g0 e0) o_
    rcases g3.new i a1 hnd with hge|⟨j,hj,hdj,emj⟩
    .omega
    .exact huntouched g' y' hy0 hly hno j hj hdj (em.symm.trans emj)
  rcases hH' g y hy hl with⟨i,o,e,ho,hvo⟩|⟨hno,hg,hy0⟩<;>rcases hH' g' y' hy' hl' with⟨i',o',e',ho',hvo'⟩|⟨hno',hg',hy0'⟩
  .obtain⟨a1,_⟩:=g2.obj i o ho (hvo.live hl)
   obtain⟨a1',_⟩:=g2.obj i' o' ho' (hvo'.live hl')
   obtain⟨_,b2,_⟩:=T2.ren g i e a1
   obtain⟨_,b2',_⟩:=T2.ren g' i' e' a1'
   rw[b2,b2']at em
   have:=g2.inj i i' o o' ho ho' (hvo.live hl) (hvo'.live hl') em
   subst this
   exact hσi g g' i e e'
  .exact(Bx g i o g' y' e ho (hvo.live hl) hno' hg' hy0' hl' em).elim
  .exact(Bx g' i' o' g y e' ho' (hvo'.live hl') hno hg hy0 hl em.symm).elim
  .rw[lμ g hg,lμ g' hg']at em
   exact hH.inj g g' y y' hy0 hy0' hl hl' em
 .rcases hb with hb|hm
  .exact g2.old b (.inl hb)
  .have:=hH.old b (.inr hm);omega
 .rcases g3.fz b hb with hf|hge|⟨i,hi,⟨g,e,hd⟩,em,hm⟩
  .exact .inl hf
  .exact .inr (.inl hge)
  .exact .inr (.inr ⟨g,hlgk i hi g e,hd,by rw[em,eμ i g e],hm⟩)
 .rintro b ⟨i,hi,⟨g,e,hd⟩,em⟩
  exact⟨g,hlgk i hi g e,hd,by rw[em,eμ i g e]⟩
 .rcases hd with hd|⟨hg1,hg2⟩
  .exact absurd hd hno
  .obtain⟨i,e,hi1,hi2⟩:=hσn g hg1 hg2
   have hdi:s'.dom i:=(g4 i).2 (.inr ⟨hi1,hi2⟩)
   have hnd: ¬ss.dom i:=λ⟨g0,e0,_⟩=>absurd (hρk i g0 e0) o_
   rw[nμ g i o_ e]
   rcases g3.new i hdi hnd with hge|⟨j,hj,⟨g0,e0,hd0⟩,em⟩
   .exact .inl hge
   .exact .inr ⟨g0,hlgk j hj g0 e0,hd0,by rw[em,eμ j g0 e0]⟩
end
mutual
def vm(b:Nat->Nat->Bool):V->V->Prop
 | .bool x,.bool y=>x=y
 | .int k x,.int k' y=>bif decide (k=k')then x=y else False
 | .str x,.str y=>x=y
 | .nilp,.nilp=>True
 | .nilf,.nilf=>True
 | .nili,.nili=>True
 | .nils,.nils=>True
 | .nilm,.nilm=>True
 | .ptr h off,.ptr g off'=>bif b h g then off=off' else False
 | .sl h off len room,.sl g off' len' room'=>bif b h g then off=off'/\len=len'/\Rn room room' else False
 | .mp h,.mp g=>bif b h g then True else False
 | .yld h,.yld g=>bif b h g then True else False
 | .fn f l,.fn f' l'=>bif Nat.beq f f' then BH b l l' else False
 | .mfn f l,.mfn f' l'=>bif Nat.beq f f' then BH b l l' else False
 | .agg l,.agg l'=>BH b l l'
 | .tup l,.tup l'=>BH b l l'
 | .ifc t x,.ifc t' x'=>bif Nat.beq t t' then vm b x x' else False
 | .im n l,.im n' l'=>n=n'/\l=l'
 | .imp l,.imp l'=>l=l'
 | _,_=>False
def BH(b:Nat->Nat->Bool):List V->List V->Prop
 |[],[]=>True
 |x::xs,y::ys=>vm b x y/\BH b xs ys
 | _,_=>False
end
mutual
theorem mB{b:Nat->Nat->Bool}{H:Nat->Option O}(hb: ∀h g,b h g=true->ρ h=some g): ∀(x y:V),vm b x y->Bo H F ρ x y
 | .bool a,y,h=>by cases y<;>first|(exact h.elim;done)|(cases h;rfl)
 | .int k a,y,h=>by
  cases y<;>try(exact h.elim;done)
  obtain⟨h1,h2⟩:=Fc h
  have:=of_decide_eq_true h1
  subst this;cases h2;rfl
 | .str a,y,h=>by cases y<;>first|(exact h.elim;done)|(cases h;rfl)
 | .nilp,y,h=>by cases y<;>first|(exact h.elim;done)|rfl
 | .nilf,y,h=>by cases y<;>first|(exact h.elim;done)|rfl
 | .nili,y,h=>by cases y<;>first|(exact h.elim;done)|rfl
 | .nils,y,h=>by cases y<;>first|(exact h.elim;done)|rfl
 | .nilm,y,h=>by cases y<;>first|(exact h.elim;done)|rfl
 | .ptr i off,y,h=>by
  cases y<;>try(exact h.elim;done)
  obtain⟨h1,rfl⟩:=Fc h
  exact⟨_,hb _ _ h1,rfl⟩
 | .sl i off len room,y,h=>by
  cases y<;>try(exact h.elim;done)
  obtain⟨h1,rfl,rfl,h2⟩:=Fc h
  have:=wQ h2
  subst this
  exact⟨_,hb _ _ h1,rfl⟩
 | .mp i,y,h=>by
  cases y<;>try(exact h.elim;done)
  obtain⟨h1,_⟩:=Fc h
  exact⟨_,hb _ _ h1,rfl⟩
 | .yld i,y,h=>by
  cases y<;>try(exact h.elim;done)
  obtain⟨h1,_⟩:=Fc h
  exact⟨_,hb _ _ h1,rfl⟩
 | .fn f l,y,h=>by
  cases y<;>try(exact h.elim;done)
  obtain⟨h1,h2⟩:=Fc h
  have:=aF h1
  subst this
  exact⟨_,rfl,JJ hb _ _ h2⟩
 | .mfn f l,y,h=>by
  cases y<;>try(exact h.elim;done)
  obtain⟨h1,h2⟩:=Fc h
  have:=aF h1
  subst this
  exact⟨_,rfl,JJ hb _ _ h2⟩
 | .agg l,y,h=>by
  cases y<;>try(exact h.elim;done)
  exact⟨_,rfl,JJ hb _ _ h⟩
 | .tup l,y,h=>by
  cases y<;>try(exact h.elim;done)
  exact⟨_,rfl,JJ hb _ _ h⟩
 | .ifc t x,y,h=>by
  cases y<;>try(exact h.elim;done)
  obtain⟨h1,h2⟩:=Fc h
  have:=aF h1
  subst this
  exact⟨_,rfl,mB hb x _ h2⟩
 | .im n l,y,h=>by
  cases y<;>try(exact h.elim;done)
  obtain⟨rfl,rfl⟩:=h;exact .inl rfl
 | .imp l,y,h=>by
  cases y<;>try(exact h.elim;done)
  cases h;exact .inl rfl
theorem JJ{b:Nat->Nat->Bool}{H:Nat->Option O}(hb: ∀h g,b h g=true->ρ h=some g): ∀(l m:List V),BH b l m->A8 H F ρ l m
 |[],m,h=>by cases m with
  |nil=>rfl
  |cons _ _=>exact h.elim
 |x::xs,m,h=>by cases m with
  |nil=>exact h.elim
  |cons y ys=>exact⟨y,ys,rfl,mB hb x y h.1,JJ hb xs ys h.2⟩
end
def JS(b:Nat->Nat->Bool)(md:Nat):O->O->Prop
 | .row t sp c,.row t' sp' c'=>bif Nat.beq t t'&&U7 sp sp' then(match md with
  |0=>c=c'/\Ba c
  | _=>BH b c c')else False
 | .map es ck,.map es' ck'=>es=es'/\ZP es/\ck=ck'
 | .dead,.dead=>True
 | _,_=>False
theorem vF{b:Nat->Nat->Bool}{H:Nat->Option O}(hb: ∀h g,b h g=true->ρ h=some g){md:Nat}{o:O}(h:JS b md o y):Hd H F ρ o y:=by
 cases o with
 |row t sp c=>
  cases y<;>try(exact h.elim;done)
  obtain⟨h1,h2⟩:=Fc h
  rw[aD]at h1
  have e1:=aF h1.1
  have e2:=xK h1.2
  subst e1 e2
  refine⟨_,rfl,?_⟩
  split at h2
  .obtain⟨rfl,h3⟩:=h2;exact A8.of_hf _ h3
  .exact JJ hb _ _ h2
 |map es ck=>
  cases y<;>try(exact h.elim;done)
  obtain⟨rfl,h1,rfl⟩:=h
  exact⟨_,rfl,F2.of_hf _ h1⟩
 |iter m since seen last=>cases y<;>exact h.elim
 |loop=>cases y<;>exact h.elim
 |dead=>trivial
def O3(L:List Nat)(i g:Nat):Bool:=match L[i]? with|some x=>Nat.beq x g|none=>false
def I8:List (Nat×Nat)->Nat->Option Nat
 |[],_=>none
 |(g,i)::M,x=>bif Nat.beq g x then some i else I8 M x
def O4(M:List (Nat×Nat))(g i:Nat):Bool:=match I8 M g with|some x=>Nat.beq x i|none=>false
def LQ:List Nat->Bool
 |[]=>true
 |x::xs=> !(xs.any λy=>Nat.beq y x)&&LQ xs
def RS(os:List O)(i:Nat):Bool:=match os[i]? with|some o=>o.live|none=>false
def rU(k k1 n n1:Nat)(L:List Nat)(M:List (Nat×Nat))(lg lg':List Nat)(lv0 lv1:Nat->Bool):Bool:=
 Nat.beq L.length k&&(LQ L&&(L.all (λg=>Nat.blt g n)&&(Nat.ble n n1&&(LQ (M.map (·.1))&&(LQ (M.map (·.2))&&
 (M.all (λp=>(Nat.blt p.2 k&&O3 L p.2 p.1)||(Nat.ble n p.1&&Nat.blt p.1 n1&&Nat.ble k p.2&&Nat.blt p.2 k1))&&
 ((List.range n1).all (λg=>Nat.blt g n||(match I8 M g with|some i=>Nat.ble k i|none=>false))&&
 (lg.all (λi=>(Nat.ble k i)||(match L[i]? with|some g=>lg'.any (Nat.beq g)|none=>false))&&
 ((List.range k).all (λi=> !(lg.any (Nat.beq i)||lv1 i)||lv0 i))))))))))
def jM(L:List Nat)(OS:List O):Nat ->List O ->List Nat ->Prop
 | _,[],_=>True
 | i, o :: os, md => (match o with
  | .dead=>True
  | o => match L[i]? with
   |some g=>match OS[g]? with
    |some y=>JS (O3 L) (md.headD 0) o y
    |none=>False
   |none=>False)/\jM L OS (i+1) os md.tail
def jN(n:Nat)(M:List (Nat×Nat))(L lg':List Nat)(OS os1:List O):Nat ->List O ->List Nat ->Prop
 | _,[],_=>True
 | g, y :: ys, md => (bif Nat.blt g n && !(lg'.any (Nat.beq g)) then OS[g]? = some y else True)/\
  (match y with
  | .dead=>True
  | y => match I8 M g with
   |some i=>match os1[i]? with
    |some o=>JS (O4 M) (md.headD 0) y o
    |none=>False
   |none=>bif L.any (Nat.beq g)then False else bif Nat.blt g n then OS[g]? =some y else False)/\jN n M L lg' OS os1 (g+1) ys md.tail
theorem mS(h:O3 L i g=true):L[i]? =some g:=by
 unfold O3 at h
 split at h
 .rename_i x e;rw[e,aF h]
 .cases h
theorem tY{M:List (Nat×Nat)}(h:O4 M g i=true):I8 M g=some i:=by
 unfold O4 at h
 split at h
 .rename_i x e;rw[e,aF h]
 .cases h
theorem YR: ∀{M:List (Nat×Nat)}{g i:Nat},I8 M g=some i->(g,i)∈M
 |[],_,_,h=>by cases h
 | (a, j) :: M, g, i, h => by
  unfold I8 at h
  cases hb:Nat.beq a g with
  |true=>
   rw[hb,cond_true]at h
   cases h
   rw[aF hb]
   exact aZ
  |false=>
   rw[hb,cond_false]at h
   exact aW _ (YR h)
theorem ZM: ∀{l:List Nat},LQ l=true->l.Nodup
 |[],_=>cF
 |x::l,h=>by
  unfold LQ at h
  rw[aD,bI]at h
  refine dC.2 ⟨λhm=>?_,ZM h.2⟩
  have:(l.any λy=>Nat.beq y x)=true:=List.any_eq_true.2 ⟨x,hm,Nat.beq_refl x⟩
  rw[this]at h
  cases h.1
theorem XV{l:List Nat}:l.any (Nat.beq g)=true↔g∈l:=by
 rw[List.any_eq_true]
 constructor
 .rintro⟨x,hx,h⟩;rw[aF h];exact hx
 .intro h;exact⟨g,h,Nat.beq_refl g⟩
theorem uB: ∀{os:List O}{i:Nat}{md:List Nat},jM L OS i os md->∀(j:Nat)(o:O),os[j]? =some o->o.live=true->∃g y m,L[i+j]? =some g/\OS[g]? =some y/\JS (O3 L) m o y
 |[],_,_,_,_,_,h,_=>by simp at h
 | x :: os, i, md, h, 0, o, hj, hl => by
  obtain rfl:x=o:=by simpa using hj
  have h1:=h.1
  cases x<;>first|(cases hl;done)|skip
  all_goals
   dsimp only at h1
   split at h1
   .rename_i g hg
    split at h1
    .rename_i y hy;exact⟨g,y,_,hg,hy,h1⟩
    .exact h1.elim
   .exact h1.elim
 |x::os,i,md,h,j+1,o,hj,hl=>by
  obtain⟨g,y,m,h1,h2,h3⟩:=uB h.2 j o (by simpa using hj) hl
  exact⟨g,y,m,by rw[show i+(j+1)=i+1+j by omega];exact h1,h2,h3⟩
theorem Kt{M:List (Nat×Nat)}{os1:List O}: ∀{ys:List O}{g:Nat}{md:List Nat},jN n M L lg' OS os1 g ys md->∀(j:Nat)(y:O),ys[j]? =some y->
  (g+j<n->g+j∉lg'->OS[g+j]? =some y)/\(y.live=true->(∃i o m,I8 M (g+j)=some i/\os1[i]? =some o/\JS (O4 M) m y o)\/(g+j∉L/\g+j<n/\OS[g+j]? =some y))
 |[],_,_,_,_,_,h=>by simp at h
 | x :: ys, g, md, h, 0, y, hj => by
  obtain rfl:x=y:=by simpa using hj
  obtain⟨h1,h2,_⟩:=h
  refine⟨λhlt hno=>?_,λhl=>?_⟩
  .have hb:(Nat.blt (g+0) n&& !(lg'.any (Nat.beq (g+0))))=true:=by
    rw[aD,bI]
    refine⟨aU hlt,?_⟩
    cases hb:lg'.any (Nat.beq (g+0))with
    |false=>rfl
    |true=>exact absurd (XV.1 hb) hno
   rw[dE]at hb⊢
   rw[hb,cond_true]at h1
   exact h1
  .rw [dE]
   have key:(match I8 M g with
     |some i=>match os1[i]? with
      |some o=>JS (O4 M) (md.headD 0) x o
      |none=>False
     |none=>bif L.any (Nat.beq g)then False else bif Nat.blt g n then OS[g]? =some x else False):=by
    cases x<;>first|(cases hl;done)|exact h2
   split at key
   .rename_i i hi
    split at key
    .rename_i o ho;exact .inl ⟨i,o,_,hi,ho,key⟩
    .exact key.elim
   .cases hL:L.any (Nat.beq g)with
    |true=>rw[hL,cond_true]at key;exact key.elim
    |false=>
     rw[hL,cond_false]at key
     obtain⟨hb,hk⟩:=Fc key
     exact .inr ⟨λhm=>(by rw[XV.2 hm]at hL;cases hL),aI hb,hk⟩
 |x::ys,g,md,h,j+1,y,hj=>by
  have:=Kt h.2.2 j y (by simpa using hj)
  rw[show g+(j+1)=g+1+j by omega]
  exact this
theorem vT: ∀(os:List O)(t:T O)(k i:Nat),k<=i->i<k+os.length->(Ai t k os).get i=os[i-k]?
 |[],_,_,_,h1,h2=>by simp at h2;omega
 | o :: os, t, k, i, h1, h2 => by
  rw[Ai]
  by_cases hi:i=k
  .subst hi
   have: ∀(os:List O)(t:T O)(j i:Nat),i<j->(Ai t j os).get i=t.get i:=by
    intro os
    induction os with
    |nil=>intro t j i _;rfl
    |cons o os ih=>
     intro t j i h
     rw[Ai,ih _ _ _ o_,Bh,T.get_put,if_neg o_]
   rw[this _ _ _ _ o_,Bh,T.get_put,if_pos rfl]
   simp
  .rw[vT os _ _ _ o_ (by simp at h2;omega)]
   rw[show i-k=(i-(k+1))+1 by omega,List.getElem?_cons_succ]
theorem oQ{os:List O}(h:os.length<=i):(Ai .e 0 os).get i=none:=by
 cases hg:(Ai .e 0 os).get i with
 |none=>rfl
 | some o =>
  rcases Ej os .e 0 i o hg with⟨_,h2⟩|h2
  .have:=(aM.1 h2).1
   omega
  .cases h2
theorem Ac.frameL{P:Program}{os0 os1 OS':List O}{v v':V}(L:List Nat)(M:List (Nat×Nat))(md0 md1:List Nat)
  (h:Ac P gl (.fn f []) ars (Ai .e 0 os0) os0.length ⟨v,Ai .e 0 os1,os1.length,lg⟩)
  (hb:rU os0.length os1.length OS.length OS'.length L M lg lg' (RS os0) (RS os1)=true)
  (ha:BH (O3 L) ars ars')(ho:jM L OS 0 os0 md0)(hv:vm (O4 M) v' v)(hn:jN OS.length M L lg' OS os1 0 OS' md1):Ac P gl (.fn f []) ars' (Ai .e 0 OS) OS.length ⟨v',Ai .e 0 OS',OS'.length,lg'⟩:=by
 unfold rU at hb
 simp only[aD]at hb
 obtain⟨b1,b2,b3,b4,b5,b6,b7,b8,b9,b10⟩:=hb
 have b1:=aF b1
 have b2:=ZM b2
 have b4:=aI b4
 have b5:=ZM b5
 have b6:=ZM b6
 have hat: ∀(os:List O)(i:Nat)(o:O),(Ai .e 0 os).get i=some o↔os[i]? =some o:=λos i o=>by
  by_cases hi:i<os.length
  .rw[vT _ _ _ _ (aG _) o_,cO]
  .rw[oQ o_,aX o_]
 have hL: ∀i g,L[i]? =some g->g<OS.length:=λi g e=>aI (aO.1 b3 g (bG e))
 have hM: ∀g i,I8 M g=some i->(i<os0.length/\L[i]? =some g)\/(OS.length<=g/\g<OS'.length/\os0.length<=i/\i<os1.length):=λg i e=>by
  have:=aO.1 b7 _ (YR e)
  rw[bT]at this
  rcases this with h1|h1
  .rw[aD]at h1
   exact .inl ⟨aI h1.1,mS h1.2⟩
  .simp only[aD]at h1
   exact .inr ⟨aI h1.1.1.1,aI h1.1.1.2,aI h1.1.2,aI h1.2⟩
 refine Ac.frameR (ρ:=λi=>L[i]?) (σ:=I8 M) h (λi g e=>by have:=(aM.1 e).1;omega) (λi j g e1 e2=>?_) (JJ (λh g hb=>mS hb) _ _ ha) (λi o hi hl=>?_) hM (λg g' i e1 e2=>?_) (λg h1 h2=>?_) b4 (mB (λh g hb=>tY hb) _ _ hv) (λg y hy hl=>?_) (λi hi hor=>?_) (λi hi g e=>?_) ⟨b4,λg hno hnr=>?_⟩
 .exact(List.getElem?_inj (aM.1 e1).1 b2).1 (e1.trans e2.symm)
 .rw[hat]at hi
  obtain⟨g,y,m,h1,h2,h3⟩:=uB ho i o hi hl
  rw[cM]at h1
  exact⟨g,y,h1,(hat _ _ _).2 h2,vF (λh g hb=>mS hb) h3⟩
 .have m1:=YR e1
  have m2:=YR e2
  obtain⟨a,ha,ea⟩:=List.mem_iff_getElem.1 m1
  obtain⟨c,hc,ec⟩:=List.mem_iff_getElem.1 m2
  have:a=c:=by
   refine(List.getElem?_inj (l:=M.map (·.2)) (by simpa using ha) b6).1 ?_
   simp[ha,hc,ea,ec]
  subst this
  rw[ea]at ec
  cases ec;rfl
 .have:=aO.1 b8 g (bB.2 h2)
  rw[bT]at this
  rcases this with h3|h3
  .have:=aI h3;omega
  .split at h3
   .rename_i i e
    refine⟨i,e,aI h3,?_⟩
    rcases hM g i e with⟨h4,h5⟩|⟨_,_,_,h4⟩
    .have:=aI h3;omega
    .exact h4
   .cases h3
 .rw[hat]at hy
  rcases(Kt hn g y hy).2 hl with⟨i,o,m,h1,h2,h3⟩|⟨h1,h2,h3⟩
  .rw[cM]at h1
   exact .inl ⟨i,o,h1,(hat _ _ _).2 h2,vF (λh g hb=>tY hb) h3⟩
  .rw[cM]at h1 h2 h3
   exact .inr ⟨λi e=>h1 (bG e),h2,(hat _ _ _).2 h3⟩
 .have:=aO.1 b10 i (bB.2 hi)
  rw[bT,bI,dT]at this
  have hlv:RS os0 i=true:=by
   rcases this with⟨h1,h2⟩|h1
   .rcases hor with h3|⟨o,h3,h4⟩
    .rw[XV.2 h3]at h1;cases h1
    .dsimp only at h3
     rw[hat]at h3
     unfold RS at h2
     rw[h3]at h2
     dsimp only at h2
     rw[h4]at h2;cases h2
   .exact h1
  unfold RS at hlv
  split at hlv
  .rename_i o ho';exact⟨o,(hat _ _ _).2 ho',hlv⟩
  .cases hlv
 .have:=aO.1 b9 i hi
  rw[bT]at this
  have hik:i<os0.length:=by have:=(aM.1 e).1;omega
  rcases this with h1|h1
  .have:=aI h1;omega
  .rw[e]at h1
   exact XV.1 h1
 .by_cases hg:g<OS.length
  .have hg':g<OS'.length:=o_
   have:=(Kt hn g OS'[g] (aB hg')).1 o_ (by rw[cM];exact hno)
   rw[cM]at this
   rw[(hat OS' g OS'[g]).2 (aB hg')]
   exact((hat OS g OS'[g]).2 this).symm
  .have hg': ¬g<OS'.length:=λh=>hnr ⟨o_,h⟩
   rw[oQ o_,oQ o_]
section
variable {F:Fence} {n:Nat} {P:Program} {Q:Exit->Act->World->Prop} {a:Act} {w:World} {f0:Nat}
end
variable {P:Program}
section
variable {f0:Nat} {rd:Option Nat} {nx0:Nat} {st:St} {R R':Ex->St->Prop}
end
variable {P:Program}
variable {P:Program}
def Dd:Option V->Bool->Value->FrameMode
 |none,_,_=>.returning
 |some _,b,u=>.panicking [{v:=u,recovered:=b}]
def He(P:Program)(gl:T (List V))(g:Nat)(caps ars:List V)(H:T O)(nx:Nat)(pan:Option V)(r:CR):Prop:=
 ∀(s:Av)(w:World)(vs vals:Array Value)(u:Value),RL s w caps vs.toList->RL s w ars vals.toList->RH s w H.get->GL s w gl->(∀i,nx<=i->¬s.dom i)->(∀x,pan=some x->∀s2 w2,RV s2 w2 x u)->
  CallsDIn Fence.wide 3 P g (vals++vs) (Dd pan false u) w (λe u' w'=>Ge s w nx r e w'/\u'=Dd pan true u)
theorem gk(pan:Option V)(u:Value):settle (Dd pan true u)= .returning:=by
 cases pan<;>rfl
theorem zG(pan:Option V)(b:Bool)(u:Value):Dd pan b u≠ .run:=by
 cases pan<;>simp[Dd]
theorem Uw{l:Option Nat}{c:Call}{fo:Operand}{caps:List V}{K:Act->World->Prop}{Q:Exit->Act->World->Prop}(hl:l=none)(hop:o.op= .defer c)(hc:c.callee= .value fo)(hT:RT s w tm a.tmps)(hf:ev tm fo=some (.fn g caps))(ha:L3 tm c.args.toList=some ars)
  (hK: ∀vs vals:Array Value,RL s w caps vs.toList->RL s w ars vals.toList->K ({a with defers:={target:=.fn (.func g) vs,args:=vals}::a.defers}.put o.dst undef) w):o.wpIn (FF l) 5 P a w K Q:=by
 subst hl
 refine⟨λf _=>Vx none f,?_⟩
 obtain⟨vs,hfv,hcaps⟩:=Bb hT hf
 have:(o.semAt (FF none).round a.eval).run P w= .ok (.defer {target:=.fn (.func g) vs,args:=c.args.map a.eval}) w:=by
  show(execOp a.eval o).run P w=_
  simp only[execOp,hop,resolve,hc,hfv]
  simp[Deferred.ofValue]
 rw[this]
 exact hK vs _ hcaps (by rw[fP];exact Fx hT ha)
def XC(P:Program)(E:B9)(gl:T (List V))(g:Nat)(caps ars:List V)(res:List ResultVar)(Z:V->T O->Nat->List Nat->Prop)(e:Ex)(st:St):Prop:=
 ∃(pan:Option V)(r:CR),((e= .normal\/e= .ret)/\pan=none\/∃x,e= .pan x/\pan=some x)/\He P gl g caps ars st.H st.nx pan r/\
  ∃v,Db E.G st.tm r.H res=some v/\Z v r.H r.nx (r.lg++st.lg)
variable {P:Program}
theorem zZ{F:Fence}{cs:List Frame}: ∀(Ds:List Nat)(w:World)(fr:Frame),fr.mode≠ .run->fr.defers=Ds.map Mm->F.fn fr.fn->F.room (cs.length+1+n)->Ds.Nodup->(∀D∈Ds,w.heap[D]? =some (.deferred (some [])))->
  ∃w',StepsIn (Machine.fenced P F) P (lone fr cs w) (lone {fr with defers:=[]} cs w')/\(∀b,b∉Ds->w'.heap[b]? =w.heap[b]?)/\w'.heap.size=w.heap.size/\w'.os=w.os/\w'.tape=w.tape/\w'.output=w.output
 | [], w, fr, _, hd, _, _, _, _ => ⟨w, by
   have:({fr with defers:=[]}:Frame)=fr:=by cases fr;simp at hd;simp[hd]
   rw[this];exact StepsIn.refl _,λ_ _=>rfl,rfl,rfl,rfl,rfl⟩
 | D :: Ds, w, fr, hm, hd, hF, hr, hn, hD => by
  have hd0:=hD D (aZ)
  obtain⟨h1,h2⟩:=dC.1 hn
  have hs:=step_collected (P:=P) (cs:=cs) (w:=w) (fr:=fr) hm hd (r:=D) rfl (run_takeDeferred hd0)
  have i1:(lone fr cs w).fenced P F:=fenced_out hF hr hm hd (λg hg=>by simp[Mm,Target.leads]at hg)
  obtain⟨w',g0,g1,g2,g3,g4,g5⟩:=zZ Ds (w.putObj D (.deferred none)) {fr with defers:=[]++Ds.map Mm} hm rfl hF hr h2 (λD' hD'=>by
   have hne:D≠D':=λe=>h1 (e▸hD')
   rw[World.putObj_heap_other (Ne.symm hne)]
   exact hD D' (aW _ hD'))
  refine⟨w',.head i1 hs g0,λb hb=>?_,by rw[g2];simp[World.putObj],g3,g4,g5⟩
  rw[aK,not_or]at hb
  rw[g1 b hb.2,World.putObj_heap_other hb.1]
def UK(P:Program)(fn:Func)(c₀:Frame)(cs:List Frame)(R:Ending->FrameMode->World->Prop):Exit->Act->List Frame->World->Prop
 | .normal,a,cs',w| .ret,a,cs',w=>∃Ds:List Nat,a.defers=Ds.map Mm/\Ds.Nodup/\(∀D∈Ds,w.heap[D]? =some (.deferred (some [])))/\∃u',cs'={c₀ with mode:=u'}::cs/\
   ∀w',(∀b,b∉Ds->w'.heap[b]? =w.heap[b]?)->w'.heap.size=w.heap.size->w'.os=w.os->w'.tape=w.tape->w'.output=w.output->∃v,(results fn a.tmps).run P w'= .ok v w'/\R (.returned v) u' w'
 | _,_,_,_=>False
theorem jt{F:Fence}{f:FuncId}{fn:Func}{args:Array Value}{u:FrameMode}{R:Ending->FrameMode->World->Prop}
  (hf:P.funcs[f]? =some fn)(hb:fn.body=some c)(hF:F.fn f)
  (h: ∀(c₀:Frame)(cs:List Frame),c₀.mode=u->c.wpSIn F n P (UK P fn c₀ cs R) {tmps:=args++Array.replicate (fn.ntmps-args.size) undef,defers:=[]} (c₀::cs) w):
  CallsDIn F n P f args u w R:=by
 refine⟨hF,λc₀ cs hu hroom=>?_⟩
 let b:Frame:={(default:Frame)with fn:=f,kind:=.deferred,roundOf:=none}
 have henter:Frame.enter P f args .deferred=
   b.atR {tmps:=args++Array.replicate (fn.ntmps-args.size) undef,defers:=[]} [.code c]:=by
  simp[Frame.enter,Frame.atR,hf,hb,b]
 obtain⟨e,a',cs',w',hl,hq,harr⟩:=h c₀ cs hu b [] rfl rfl hF hroom
 rw[<-henter]at harr
 have fin: ∀(todo:List Item),StepsIn (Machine.fenced P F) P (lone (Frame.enter P f args .deferred) (c₀::cs) w) (lone {b.atR a' todo with mode:=.returning} cs' w')->UK P fn c₀ cs R .normal a' cs' w'->
   ∃e u' w2 fr,R e u' w2/\ComesIn (Machine.fenced P F) P (lone (Frame.enter P f args .deferred) (c₀::cs) w) (lone fr ({c₀ with mode:=u'}::cs) w2) e/\fr.kind= .deferred/\fr.fn=f/\fr.going P w2 e:=by
  rintro todo hs ⟨Ds,d1,d2,d3,u',rfl,hres⟩
  obtain⟨w2,g0,g1,g2,g3,g4,g5⟩:=zZ (P:=P) (F:=F) (n:=n) (cs:={c₀ with mode:=u'}::cs) Ds w' {b.atR a' todo with mode:=.returning} s_ d1 hF hroom d2 d3
  obtain⟨v,hr,hR⟩:=hres w2 g1 g2 g3 g4 g5
  exact⟨.returned v,u',w2,_,hR,StepsIn.trans hs g0,rfl,rfl,rfl,rfl,fn,hf,hr⟩
 cases e with
 |normal=>exact fin [] (StepsIn.trans harr (.one (fenced_calm (fr:=b.atR a' []) hF (hl▸hroom) rfl) (stepR_end rfl))) hq
 |ret=>
  obtain⟨todo,hs⟩:=harr.1 rfl
  exact fin todo hs hq
 |panic chain=>exact hq.elim
 |exit id=>exact hq.elim
 |goto l=>exact hq.elim
 |outgrown=>exact hq.elim
def Jd(E:B9)(ops:Array Oper)(H:T O):List Oper->TM->Option TM
 |[],tm=>some tm
 | o :: l, tm => match Cc tm ops o with
  |some true=>match calm E.G tm H.get o with
   |some (x,_)=>Jd E ops H l (tm.put o.dst x)
   |none=>none
  | _=>none
theorem RT.putv(hT:RT s w tm a.tmps){d:Option Nat}{x:V}{v:Value}(hv:RV s w x v):RT s w (tm.put d x) (a.put d v).tmps:=by
 refine⟨by rw[YJ,OT];exact hT.1,λi y hy=>?_,by rw[Kz];exact hT.2.2⟩
 cases d with
 |none=>exact hT.2.1 i y (by obtain⟨p,q,r⟩:=tm;exact hy)
 | some t =>
  rw[TM.put_some]at hy
  cases hb:Nat.blt t tm.n with
  | false =>
   rw[hb,cond_false]at hy
   obtain⟨u,hu,hr⟩:=hT.2.1 i y hy
   have hlt:=(bM.1 hu).1
   have hne:some t≠some i:=λe=>by
    have e':=eY e
    rw[hT.1]at hlt
    have h2:t<tm.n:=o_
    have:Nat.blt t tm.n=true:=aU h2
    rw[hb]at this;cases this
   exact⟨u,by rw[EI hne];exact hu,hr⟩
  | true =>
   rw[hb,cond_true]at hy
   dsimp only at hy
   rw[T.get_put]at hy
   split at hy
   .rename_i e
    cases hy
    rw[e]
    exact⟨v,YK (by rw[hT.1];exact aI hb),hv⟩
   .rename_i hne
    obtain⟨u,hu,hr⟩:=hT.2.1 i y hy
    exact⟨u,by rw[EI (λe=>hne (by cases e;rfl))];exact hu,hr⟩
theorem yJ(hG:E.G.Ok P){cs:List Frame}{Q:Exit->Act->List Frame->World->Prop}(hH:RH s w H.get): ∀(os:List Oper)(k:Nat)(tm tm':TM)(a:Act),(∀j,j<os.length->os[j]? =ops[k+j]?)->Jd E ops H os tm=some tm'->RT s w tm a.tmps->(∀a':Act,a'.defers=a.defers->RT s w tm' a'.tmps->Q .normal a' cs w)->
  wpOpsSIn Fence.wide n P ops Q (List.range' k os.length) a cs w
 |[],k,tm,tm',a,_,h,hT,hQ=>by cases h;exact hQ a rfl hT
 | o :: os, k, tm, tm', a, hl, h, hT, hQ => by
  have h0:ops[k]? =some o:=by simpa using (hl 0 s_).symm
  have hl': ∀j,j<os.length->os[j]? =ops[k+1+j]? :=λj hj=>by have:=hl (j+1) (by simpa using hj);simpa [Nat.add_assoc,eP 1 j]using this
  rw[bZ,dX]
  unfold wpOpsSIn
  rw[h0]
  dsimp only
  unfold Jd at h
  split at h
  .rename_i hw
   split at h
   .rename_i x rd hc
    rw[if_pos (EH hT hw)]
    obtain⟨u,g1,g2⟩:=YU hG hH hT hc
    refine⟨λf _=>trivial,?_⟩
    rw[g2 w (λ_ _=>rfl) (λ_ _=>rfl)]
    refine yJ hG hH os (k+1) (tm.put o.dst x) tm' _ hl' h (RT.putv hT g1) (λa' hd hT'=>hQ a' (hd.trans ?_) hT')
    cases o.dst<;>rfl
   .cases h
  .cases h
def X0:Option V->V
 |none=>.nili
 |some x=>x
theorem He.of(hE:E.Ok P){caps:List V}{pan:Option V}{r:CR}{fg:FI}{rest:Code}{os:List Oper}{c:Call}{tm1:TM}(hfg:E.code g=some fg)(hle:Nat.ble (ars++caps).length fg.ntmps=true)(hbody:fg.body= .seq (.region id ops false) rest)(hops:ops.toList=o::os)(hgd:o.guard=none)(hop:o.op= .call c)(hcc:c.callee= .builtin .recover)
  (h1:Jd E ops H os ((⟨Cf (B0 fg.ntmps) 0 (ars++caps),gl,fg.ntmps⟩:TM).put o.dst (X0 pan))=some tm1)
  (h2:Au P none nx rest ⟨tm1,H,nx,[]⟩ (λe st=>(e= .normal\/e= .ret)/\Db E.G st.tm st.H fg.res=some r.v/\st.H=r.H/\st.nx=r.nx/\st.lg=r.lg)):He P gl g caps ars H nx pan r:=by
 intro s w vs vals u hcaps hargs hH hgl hn hu
 obtain⟨fn,f1,f2,f3,f4,f5⟩:=hE.code g fg hfg
 have A0:=yH hE hfg hle hcaps hargs hH hgl hn []
 refine jt (F:=Fence.wide) (n:=3) f1 f2 trivial λc₀ cs hmode=>?_
 rw[f3,hbody]
 refine wpSIn_seq (wpSIn_region ?_)
 have h0:ops[0]? =some o:=by rw[<-cZ,hops];rfl
 have hsz:ops.size=os.length+1:=by rw[<-cB,hops];rfl
 rw[hsz,dP,dX]
 unfold wpOpsSIn
 rw[h0]
 dsimp only
 have hw:Region.wanted o (yielded ops ((vals++vs)++Array.replicate (fg.ntmps-(vals++vs).size) undef))=true:=by unfold Region.wanted;rw[hgd]
 rw[if_pos hw]
 refine⟨λf _=>trivial,?_⟩
 have hrun: ∀a:Act,(execOp a.eval o).run P w= .ok .recover w:=λa=>by
  simp[execOp,hop,resolve,hcc,invoke,builtin]
 rw[hrun]
 dsimp only
 -- whatever is caught: the rest
 have go: ∀(cs':List Frame)(v:Value)(u':FrameMode),cs'={c₀ with mode:=u'}::cs->RV s w (X0 pan) v->u'=Dd pan true u->
   wpOpsSIn Fence.wide 3 P ops (Exit.thenS (rest.wpSIn Fence.wide 3 P (UK P fn c₀ cs (λe u' w'=>Ge s w nx r e w'/\u'=Dd pan true u))) (UK P fn c₀ cs (λe u' w'=>Ge s w nx r e w'/\u'=Dd pan true u))) (List.range' (0+1) os.length) (({tmps:=(vals++vs)++Array.replicate (fg.ntmps-(vals++vs).size) undef,defers:=[]}:Act).put o.dst v) cs' w:=by
  intro cs' v u' hcs hv hu'
  refine yJ hE.G hH os 1 _ tm1 _ (λj hj=>?_) h1 (RT.putv A0.rel.rt hv) (λa' hd hT'=>?_)
  .rw[<-cZ,hops,eP];rfl
  .have hd0:a'.defers=[]:=hd.trans (by cases o.dst<;>rfl)
   have A1:J6 (bs w.heap.size) s w nx ⟨tm1,H,nx,[]⟩ s w a':=⟨⟨hH,hT',hn,[],by rw[hd0];rfl,cF,λD hD=>by simp at hD⟩,Br.refl s w [],Cp s _,aC _⟩
   show rest.wpSIn _ _ _ _ _ _ _
   refine wpSIn_of_wpIn rfl (AW (n:=5) (l:=none) (h2 _ s w s w a' hn (aC _) (λh e=>by cases e) A1 _ ?_))
   rintro e st ⟨he,hret,e1,e2,e3⟩ s' w' a2 A
   have key:UK P fn c₀ cs (λe u' w'=>Ge s w nx r e w'/\u'=Dd pan true u) .normal a2 cs' w':=by
    obtain⟨Ds,d1,d2,d3⟩:=A.rel.df
    have d2:=(dM.1 d2).1
    have d3:=λD(hD:D∈Ds)=>d3 D (aL.2 (.inl hD))
    rw[aV]at d1
    refine⟨Ds,d1,d2,λD hD=>(d3 D hD).2.2.1,u',hcs,λw'' g1 g2 g3 g4 g5=>?_⟩
    obtain⟨k1,k2,k3⟩:=A.unmarked (Ds:=Ds) (aC _) d3 g1 g2 g3 g4 g5 hH.old
    rw[<-f4]at hret
    obtain⟨x,v1,v2⟩:=YI (P:=P) hE.G k1 (A.rel.rt.mono (Av.Le.refl s') k3) rfl hret
    refine⟨x,v2,⟨x,s',rfl,v1,by rw[<-e1];exact k1,by rw[<-e3];exact k2,λi=>by rw[A.dom,e2],by rw[<-e2];exact A.le⟩,hu'⟩
   rcases he with rfl|rfl
   .exact key
   .exact key
 cases pan with
 |none=>
  have hrec:recoverD (c₀::cs)=none:=by simp[recoverD,hmode,Dd]
  rw[hrec]
  dsimp only
  exact go (c₀::cs) .nilIface .returning (by rw[<-(show c₀.mode= .returning from hmode)]) rfl rfl
 |some x=>
  have hrec:recoverD (c₀::cs)=some (u,{c₀ with mode:=.panicking [{v:=u,recovered:=true}]}::cs):=by simp[recoverD,hmode,Dd]
  rw[hrec]
  dsimp only
  exact go _ u _ rfl (hu x rfl s w) rfl
variable {P:Program}
end Go.Proofs.YtifdkhfldbkkpaaGreat.Am
