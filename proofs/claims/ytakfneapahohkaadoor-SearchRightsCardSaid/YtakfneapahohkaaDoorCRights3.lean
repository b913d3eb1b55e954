/- Texts behind the claim, part 3: the abstract machine, and what the functions answer. No condition. -/
import Derived.Test.YtakfneapahohkaaDoorCRights2
set_option linter.unusedVariables false
set_option linter.unusedSimpArgs false
set_option linter.unusedSectionVars false
namespace Go.Proofs.YtakfneapahohkaaDoor.Am
open Go.RowKit
mutual
def Ca(H:Nat->Option O)(F:Nat->Prop):(Nat->Option Nat)->V->V->Prop
 |ρ,.ptr h off,y=>∃g,ρ h=some g/\y= .ptr g off
 |ρ,.sl h off len room,y=>∃g,ρ h=some g/\y= .sl g off len room
 |ρ,.mp h,y=>∃g,ρ h=some g/\y= .mp g
 |ρ,.yld h,y=>∃g,ρ h=some g/\y= .yld g
 |ρ,.fn f l,y=>∃l',y= .fn f l'/\Be H F ρ l l'
 |ρ,.agg l,y=>∃l',y= .agg l'/\Be H F ρ l l'
 |ρ,.tup l,y=>∃l',y= .tup l'/\Be H F ρ l l'
 |ρ,.ifc t x,y=>∃x',y= .ifc t x'/\Ca H F ρ x x'
 | _,.im n l,y=>y= .im n l\/(y= .nils/\n=0)\/∃g off room t sp c,y= .sl g off n room/\F g/\H g=some (.row t sp c)/\Ci H F l (c.drop off)
 | _,.imp l,y=>y= .imp l\/∃g off t sp c,y= .ptr g off/\F g/\H g=some (.row t sp c)/\Ci H F l (c.drop off)
 | _,.bool b,y=>y= .bool b
 | _,.int k n,y=>y= .int k n
 | _,.str x,y=>y= .str x
 | _,.nilp,y=>y= .nilp
 | _,.nilf,y=>y= .nilf
 | _,.nili,y=>y= .nili
 | _,.nils,y=>y= .nils
 | _,.nilm,y=>y= .nilm
def Be(H:Nat->Option O)(F:Nat->Prop):(Nat->Option Nat)->List V->List V->Prop
 | _,[],ys=>ys=[]
 |ρ,x::xs,ys=>∃y ys',ys=y::ys'/\Ca H F ρ x y/\Be H F ρ xs ys'
def Ci(H:Nat->Option O)(F:Nat->Prop):List V->List V->Prop
 |[],_=>True
 |x::xs,ys=>∃y ys',ys=y::ys'/\Ca H F (fun _=>none) x y/\Ci H F xs ys'
end
structure C0(H:Nat->Option O)(F:Nat->Prop)(ρ:Nat->Option Nat)(s s':Sig):Prop where
 ren: ∀h g,ρ h=some g->s.dom g->s'.dom h/\s'.μ h=s.μ g/\s'.cp h=s.cp g
 frz: ∀g t sp c,F g->H g=some (.row t sp c)->s'.fz (s.μ g)
 fz: ∀b,s.fz b->s'.fz b
theorem C0.bare{H:Nat->Option O}{F:Nat->Prop}{ρ:Nat->Option Nat}{s s':Sig}(h:C0 H F ρ s s'):C0 H F (fun _=>none) s s'.bare:=
 ⟨fun _ _ e=>(by cases e),h.frz,h.fz⟩
mutual
theorem Ca.rv{H:Nat->Option O}{F:Nat->Prop}{s:Sig}{w:World}(hH:RH s w H): ∀{ρ:Nat->Option Nat}{s':Sig}(_:C0 H F ρ s s')(x y:V)(v:Value),Ca H F ρ x y->RV s w y v->RV s' w x v
 | _,_,T,.ptr h off,_,_,⟨g,e,hy⟩,hv=>by subst hy;obtain⟨a,b,_⟩:=T.ren h g e hv.1;exact⟨a,by rw[b];exact hv.2⟩
 | _,_,T,.sl h off len room,_,_,⟨g,e,hy⟩,hv=>by subst hy;obtain⟨a,b,c⟩:=T.ren h g e hv.1;exact⟨a,by rw[b,c];exact hv.2⟩
 | _,_,T,.mp h,_,_,⟨g,e,hy⟩,hv=>by subst hy;obtain⟨a,b,_⟩:=T.ren h g e hv.1;exact⟨a,by rw[b];exact hv.2⟩
 | _,_,T,.yld h,_,_,⟨g,e,hy⟩,hv=>by subst hy;obtain⟨a,b,_⟩:=T.ren h g e hv.1;exact⟨a,by rw[b];exact hv.2⟩
 | _,_,T,.fn f l,_,_,⟨l',hy,hl⟩,hv=>by subst hy;obtain⟨vs,e,h⟩:=hv;exact⟨vs,e,Be.rl hH T l l' _ hl h⟩
 | _,_,T,.agg l,_,_,⟨l',hy,hl⟩,hv=>by subst hy;obtain⟨vs,e,h⟩:=hv;exact⟨vs,e,Be.rl hH T l l' _ hl h⟩
 | _,_,T,.tup l,_,_,⟨l',hy,hl⟩,hv=>by subst hy;obtain⟨vs,e,h⟩:=hv;exact⟨vs,e,Be.rl hH T l l' _ hl h⟩
 | _,_,T,.ifc t x,_,_,⟨x',hy,hx⟩,hv=>by subst hy;obtain⟨u,e,h⟩:=hv;exact⟨u,e,Ca.rv hH T x x' _ hx h⟩
 | _, _, T, .im n l, _, _, hx, hv => by
  rcases hx with rfl|⟨rfl,rfl⟩|⟨g,off,room,t,sp,c,rfl,hF,hg,hl⟩
  ·obtain ⟨a, cap, e, hc, h⟩ := hv
   exact⟨a,cap,e,hc,fun hn=>let ⟨b,off,ha,hl⟩:=h hn;⟨b,off,ha,RC.mono' T.fz (fun _ _=>rfl) l b off hl⟩⟩
  ·obtain rfl := hv
   exact⟨none,0,rfl,Nat.le_refl _,fun h=>absurd rfl h⟩
  ·obtain ⟨_, cap, e, hc, _⟩ := hv
   refine⟨_,cap,e,hc,fun _=>⟨_,_,rfl,?_⟩⟩
   obtain⟨_,_,_,vs,jq,b1,b2,_⟩:=hH.obj _ _ hg rfl
   exact Ci.rc hH T (T.frz g t sp c hF hg) l _ _ off hl (b2.drop off) (fun j v hv=>by
    simp only[World.cell?,b1]
    rw[List.getElem?_drop]at hv
    obtain⟨hlt,he⟩:=List.getElem?_eq_some_iff.1 hv
    simp[List.getElem?_append,hlt,he])
 | _, _, T, .imp l, _, _, hx, hv => by
  rcases hx with rfl|⟨g,off,t,sp,c,rfl,hF,hg,hl⟩
  ·obtain ⟨b, off, e, hl⟩ := hv
   exact⟨b,off,e,RC.mono' T.fz (fun _ _=>rfl) l b off hl⟩
  ·obtain ⟨_, rfl⟩ := hv
   refine⟨_,_,rfl,?_⟩
   obtain⟨_,_,_,vs,jq,b1,b2,_⟩:=hH.obj _ _ hg rfl
   exact Ci.rc hH T (T.frz g t sp c hF hg) l _ _ off hl (b2.drop off) (fun j v hv=>by
    simp only[World.cell?,b1]
    rw[List.getElem?_drop]at hv
    obtain⟨hlt,he⟩:=List.getElem?_eq_some_iff.1 hv
    simp[List.getElem?_append,hlt,he])
 | _,_,_,.bool _,_,_,h,hv| _,_,_,.int _ _,_,_,h,hv| _,_,_,.str _,_,_,h,hv| _,_,_,.nilp,_,_,h,hv| _,_,_,.nilf,_,_,h,hv| _,_,_,.nili,_,_,h,hv| _,_,_,.nils,_,_,h,hv| _,_,_,.nilm,_,_,h,hv=>by subst h;exact hv
theorem Be.rl{H:Nat->Option O}{F:Nat->Prop}{s:Sig}{w:World}(hH:RH s w H): ∀{ρ:Nat->Option Nat}{s':Sig}(_:C0 H F ρ s s')(l l':List V)(vs:List Value),Be H F ρ l l'->RL s w l' vs->RL s' w l vs
 | _,_,_,[],_,_,h,hv=>by subst h;exact hv
 | _,_,T,x::xs,_,_,⟨y,ys,e,hx,hl⟩,hv=>by
  subst e
  obtain⟨v,vs',rfl,h1,h2⟩:=hv
  exact⟨v,vs',rfl,Ca.rv hH T x y v hx h1,Be.rl hH T xs ys vs' hl h2⟩
theorem Ci.rc{H:Nat->Option O}{F:Nat->Prop}{s:Sig}{w:World}(hH:RH s w H): ∀{ρ:Nat->Option Nat}{s':Sig}(_:C0 H F ρ s s'){b:Nat}(_:s'.fz b)(l l':List V)(vs:List Value)(off:Nat),Ci H F l l'->RL s w l' vs->(∀(j:Nat)(v:Value),vs[j]? =some v->w.cell? ⟨b,off+j,none⟩=some v)->RC s' w l b off
 | _,_,_,_,_,[],_,_,_,_,_,_=>trivial
 | _,_,T,b,hb,x::xs,_,_,off,⟨y,ys,e,hx,hl⟩,hv,hc=>by
  subst e
  obtain⟨v,vs',rfl,h1,h2⟩:=hv
  refine⟨⟨hb,v,hc 0 v rfl,Ca.rv hH T.bare x y v hx h1⟩,Ci.rc hH T hb xs ys vs' (off+1) hl h2 (fun j u hu=>?_)⟩
  have:=hc (j+1) u (by simpa using hu)
  rwa [show off+1+j=off+(j+1)by omega]
end
def Dr(H:Nat->Option O)(F:Nat->Prop)(ρ:Nat->Option Nat):List (V×V×Nat)->List (V×V×Nat)->Prop
 |[],es=>es=[]
 |(k,v,n)::xs,es=>∃k' v' es',es=(k',v',n)::es'/\Ca H F ρ k k'/\Ca H F ρ v v'/\Dr H F ρ xs es'
theorem Dr.re{H:Nat->Option O}{F:Nat->Prop}{ρ:Nat->Option Nat}{s s':Sig}{w:World}(hH:RH s w H)(T:C0 H F ρ s s'): ∀(l l':List (V×V×Nat))(es:List MapEntry),Dr H F ρ l l'->RE s w l' es->RE s' w l es
 |[],_,_,h,hv=>by cases h;exact hv
 |(k,v,n)::xs,_,_,⟨k',v',es',e,h1,h2,h3⟩,hv=>by
  subst e
  obtain⟨en,es2,rfl,g1,g2,g3,g4⟩:=hv
  exact⟨en,es2,rfl,Ca.rv hH T _ _ _ h1 g1,Ca.rv hH T _ _ _ h2 g2,g3,Dr.re hH T xs es' es2 h3 g4⟩
def Ej(H:Nat->Option O)(F:Nat->Prop)(ρ:Nat->Option Nat):O->O->Prop
 | .row t sp c,o=>∃c',o= .row t sp c'/\Be H F ρ c c'
 | .map es ck,o=>∃es',o= .map es' ck/\Dr H F ρ es es'
 | .iter m since jz last,o=>∃m',o= .iter m' since jz last/\(match m with|none=>m'=none|some h=>∃g,ρ h=some g/\m'=some g)
 | .loop st pend fn tm ps asg bd,o=>o= .loop st pend fn tm ps asg bd/\∀i x,tm.sl.get i=some x->Ca H F ρ x x
 | .dead,_=>True
def rho(nx0:Nat)(r:List Nat)(h:Nat):Option Nat:=bif Nat.blt h nx0 then some h else r[h-nx0]?
theorem Qha{nx0 h:Nat}{r:List Nat}(hl:h<nx0):rho nx0 r h=some h:=by
 have:Nat.blt h nx0=true:=Nat.ble_eq_true_of_le hl
 rw[rho,this];rfl
theorem G4{nx0 h:Nat}{r:List Nat}(hl: ¬h<nx0):rho nx0 r h=r[h-nx0]? :=by
 have:Nat.blt h nx0=false:=by
  cases hb:Nat.blt h nx0 with
  |false=>rfl
  |true=>exact absurd (Nat.le_of_ble_eq_true hb) hl
 rw[rho,this];rfl
def Fr(nx0:Nat)(r lg:List Nat)(g:Nat):Prop:=nx0<=g/\g∉r/\∀h∈lg,nx0<=h
structure Gc(nx0:Nat)(r:List Nat)(st st':St):Prop where
 nx:st'.nx=nx0+r.length
 le: ∀g∈r,nx0<=g/\g<st.nx
 nodup:r.Nodup
 n:st'.tm.n=st.tm.n
 gl:st'.tm.gl=st.tm.gl
 sl: ∀i x,st'.tm.sl.get i=some x->∃y,st.tm.sl.get i=some y/\Ca st.H.get (Fr nx0 r st.lg) (rho nx0 r) x y
 H: ∀h o,st'.H.get h=some o->o.live=true->∃g y,rho nx0 r h=some g/\st.H.get g=some y/\Ej st.H.get (Fr nx0 r st.lg) (rho nx0 r) o y
 lg: ∀h∈st.lg,h<nx0->h∈st'.lg
structure Ats(B:Nat)(s0:Sig)(w0:World)(nx0:Nat)(st:St)(s:Sig)(w:World)(a:Act):Prop where
 rel:Rel B s w st a
 step:Bb s0 w0 s w st.lg
 dom: ∀i,s.dom i↔s0.dom i\/nx0<=i/\i<st.nx
 le:nx0<=st.nx
theorem Ej.live{H:Nat->Option O}{F:Nat->Prop}{ρ:Nat->Option Nat}{o y:O}(h:Ej H F ρ o y)(hl:o.live=true):y.live=true:=by
 cases o with
 |row=>obtain⟨_,rfl,_⟩:=h;rfl
 |map=>obtain⟨_,rfl,_⟩:=h;rfl
 |iter=>obtain⟨_,rfl,_⟩:=h;rfl
 |loop=>obtain⟨rfl,_⟩:=h;rfl
 |dead=>cases hl
theorem Ej.ro{H:Nat->Option O}{F:Nat->Prop}{ρ:Nat->Option Nat}{s s':Sig}{w:World}(hH:RH s w H)(T:C0 H F ρ s s'){o y:O}{h g:Nat}(hv:Ej H F ρ o y)(hr:ρ h=some g)(hd:s.dom g)(ho:RO s w y g):RO s' w o h:=by
 obtain⟨_,hμ,hcp⟩:=T.ren h g hr hd
 cases o with
 |row t sp c=>
  obtain⟨c',rfl,hc⟩:=hv
  obtain⟨vs,jq,h1,h2,h3,h4⟩:=ho
  exact⟨vs,jq,by rw[hμ];exact h1,Be.rl hH T _ _ _ hc h2,h3,by rw[hcp];exact h4⟩
 |map es ck=>
  obtain⟨es',rfl,hc⟩:=hv
  obtain⟨arr,h1,h2⟩:=ho
  exact⟨arr,by rw[hμ];exact h1,Dr.re hH T _ _ _ hc h2⟩
 | iter m since jz last =>
  obtain⟨m',rfl,hm⟩:=hv
  obtain⟨h0,h1⟩:=ho
  cases m with
  |none=>dsimp only at hm;subst hm;exact⟨fun _ e=>(by cases e),by rw[hμ];exact h1⟩
  |some h2=>
   obtain⟨g2,e,rfl⟩:=hm
   obtain⟨k1,k2,_⟩:=T.ren h2 g2 e (h0 g2 rfl)
   exact⟨fun i e=>(by cases e;exact k1),by rw[hμ];simpa [k2]using h1⟩
 |loop st pend fn tm ps asg bd=>
  obtain⟨rfl,hc⟩:=hv
  obtain⟨tmps,d,f',h1,h2⟩:=ho
  refine⟨tmps,d,f',by rw[hμ];exact h1,h2.1,fun i x hx=>?_,fun gi l hl=>RC.mono' T.fz (fun _ _=>rfl) l gi 0 (h2.2.2 gi l hl)⟩
  obtain⟨v,hv,hrv⟩:=h2.2.1 i x hx
  exact⟨v,hv,Ca.rv hH T x x v (hc i x hx) hrv⟩
 |dead=>trivial
theorem Ats.gc{B nx0:Nat}{s0 s:Sig}{w0 w:World}{st st':St}{a:Act}{r:List Nat}(hn: ∀i,nx0<=i->¬s0.dom i)(A:Ats B s0 w0 nx0 st s w a)(g:Gc nx0 r st st'): ∃s',Ats B s0 w0 nx0 st' s' w a:=by
 have hH:=A.rel.rh
 have hlo: ∀h,s.dom h->h<nx0->s0.dom h:=fun h hd hl=>((A.dom h).1 hd).resolve_right (fun k=>by omega)
 have hhi: ∀i∈r,s.dom i:=fun i hi=>(A.dom i).2 (.inr (g.le i hi))
 have hrho: ∀h i,rho nx0 r h=some i->(h<nx0/\i=h)\/(nx0<=h/\h<st'.nx/\i∈r/\r[h-nx0]? =some i):=by
  intro h i e
  by_cases hl:h<nx0
  ·rw[Qha hl]at e;cases e;exact .inl ⟨hl,rfl⟩
  ·rw [G4 hl] at e
   have:=(List.getElem?_eq_some_iff.1 e).1
   exact .inr ⟨by omega,by rw[g.nx];omega,List.mem_of_getElem? e,e⟩
 let s':Sig:={μ:=fun h=>match rho nx0 r h with|some i=>s.μ i|none=>0,cp:=fun h=>match rho nx0 r h with|some i=>s.cp i|none=>0,dom:=fun h=>s0.dom h\/nx0<=h/\h<st'.nx,fz:=fun b=>s.fz b\/∃i,Fr nx0 r st.lg i/\(∃t sp c,st.H.get i=some (.row t sp c))/\b=s.μ i,mark:=s.mark}
 have hμ: ∀h i,rho nx0 r h=some i->s'.μ h=s.μ i:=fun h i e=>by show(match rho nx0 r h with|some i=>s.μ i|none=>0)=_;rw[e]
 have hcp: ∀h i,rho nx0 r h=some i->s'.cp h=s.cp i:=fun h i e=>by show(match rho nx0 r h with|some i=>s.cp i|none=>0)=_;rw[e]
 have T:C0 st.H.get (Fr nx0 r st.lg) (rho nx0 r) s s':=by
  refine⟨fun h i e hd=>⟨?_,hμ h i e,hcp h i e⟩,fun i t sp c hF hi=>.inr ⟨i,hF,⟨t,sp,c,hi⟩,rfl⟩,fun b hb=>.inl hb⟩
  rcases hrho h i e with⟨h1,rfl⟩|⟨h1,h2,_⟩
  ·exact .inl (hlo _ hd h1)
  ·exact .inr ⟨h1,h2⟩
 have hfzlt: ∀b,s'.fz b->b<w.heap.size:=by
  rintro b (hb|⟨i,_,⟨t,sp,c,hi⟩,rfl⟩)
  ·exact hH.old b (.inl hb)
  ·exact(hH.obj _ _ hi rfl).2.1
 refine⟨s',⟨⟨fun h o ho hl=>?_,fun h h' o o' ho ho' hl hl' e=>?_,?_⟩,⟨?_,fun i x hx=>?_,fun gi l hl=>?_⟩,fun i hi hd=>?_,?_⟩,⟨⟨⟨fun h hd=>?_,fun h hd=>?_,fun h hd=>.inl hd,fun b hb=>.inl (A.step.le.fz b hb)⟩,A.step.le.mark⟩,?_,A.step.kept,A.step.mod.mono ?_,fun h hd hno=>?_⟩,fun i=>Iff.rfl,by rw[g.nx];omega⟩
 ·obtain ⟨i, y, e, hy, hv⟩ := g.H h o ho hl
  obtain⟨a1,a2,a3,a4⟩:=hH.obj i y hy (hv.live hl)
  refine⟨(T.ren h i e a1).1,by rw[hμ h i e];exact a2,?_,hv.ro hH T e a1 a4⟩
  rw[hμ h i e]
  rintro((hf|⟨j,hF,⟨t,sp,c,hj⟩,e2⟩)|hm)
  ·exact a3 (.inl hf)
  ·have := hH.inj i j y _ hy hj (hv.live hl) rfl e2
   subst this
   rcases hrho h i e with⟨h1,rfl⟩|⟨_,_,h3,_⟩
   ·have:=hF.1;omega
   ·exact hF.2.1 h3
  ·exact a3 (.inr hm)
 ·obtain ⟨i, y, e1, hy, hv⟩ := g.H h o ho hl
  obtain⟨i',y',e1',hy',hv'⟩:=g.H h' o' ho' hl'
  rw[hμ h i e1,hμ h' i' e1']at e
  have:=hH.inj i i' y y' hy hy' (hv.live hl) (hv'.live hl') e
  subst this
  rcases hrho h i e1 with⟨h1,rfl⟩|⟨h1,_,h3,h4⟩<;>rcases hrho h' _ e1' with⟨k1,k2⟩|⟨k1,_,k3,k4⟩
  ·exact k2
  ·have:=(g.le _ k3).1;omega
  ·have:=(g.le _ h3).1;omega
  ·have := (List.getElem?_eq_some_iff.1 h4).1
   have:=(List.getElem?_inj this g.nodup).1 (h4.trans k4.symm)
   omega
 ·rintro b (hb | hb)
  ·exact hfzlt b hb
  ·exact hH.old b (.inr hb)
 ·rw[g.n];exact A.rel.rt.1
 ·obtain ⟨y, hy, hv⟩ := g.sl i x hx
  obtain⟨v,h1,h2⟩:=A.rel.rt.2.1 i y hy
  exact⟨v,h1,Ca.rv hH T x y v hv h2⟩
 ·rw [g.gl] at hl
  exact RC.mono' T.fz (fun _ _=>rfl) l gi 0 (A.rel.rt.2.2 gi l hl)
 ·have := g.nx
  rcases hd with hd|hd
  ·exact hn i o_ hd
  ·omega
 ·obtain ⟨Ds, h1, h2, h3⟩ := A.rel.df
  refine⟨Ds,h1,h2,fun D hD=>?_⟩
  obtain⟨k1,k2,k3,k4⟩:=h3 D hD
  refine⟨k1,k2,k3,?_⟩
  rintro(hf|⟨i,_,⟨t,sp,c,hi⟩,rfl⟩)
  ·exact k4 hf
  ·obtain ⟨_, _, _, vs, jq, b1, _⟩ := hH.obj _ _ hi rfl
   rw[b1]at k3;cases k3
 ·have hl : h < nx0 := Nat.lt_of_not_le fun hge => hn h hge hd
  rw[hμ h h (Qha hl),A.step.le.μ h hd]
 ·have hl : h < nx0 := Nat.lt_of_not_le fun hge => hn h hge hd
  rw[hcp h h (Qha hl),A.step.le.cp h hd]
 ·rintro b (hb | ⟨i, hF, ⟨t, sp, c, hi⟩, rfl⟩)
  ·rcases A.step.fz b hb with k | k | ⟨h, h1, h2, h3⟩
   ·exact .inl k
   ·exact .inr (.inl k)
   ·exact .inr (.inr ⟨h,g.lg h h1 (Nat.lt_of_not_le fun hge=>hn h hge h2),h2,h3⟩)
  ·have hd := (hH.obj _ _ hi rfl).1
   rcases A.step.new i hd (hn i hF.1)with h|⟨j,h1,h2,_⟩
   ·exact .inr (.inl h)
   ·exact absurd h2 (hn j (hF.2.2 j h1))
 ·rintro b ⟨h, h1, h2, h3⟩
  exact⟨h,g.lg h h1 (Nat.lt_of_not_le fun hge=>hn h hge h2),h2,h3⟩
 ·rcases hd with hd | ⟨h1, h2⟩
  ·exact absurd hd hno
  ·have hlt : h - nx0 < r.length := by have := g.nx; omega
   have e:rho nx0 r h=some r[h-nx0]:=by rw[G4 o_];exact List.getElem?_eq_getElem hlt
   have hm:r[h-nx0]∈r:=List.getElem_mem hlt
   rw[hμ _ _ e]
   rcases A.step.new _ (hhi _ hm) (hn _ (g.le _ hm).1)with k|⟨j,k1,k2,k3⟩
   ·exact .inl k
   ·exact .inr ⟨j,g.lg j k1 (Nat.lt_of_not_le fun hge=>hn j hge k2),k2,k3⟩
variable {P:Program}
theorem Ats.went{B nx0:Nat}{s0 s s':Sig}{w0 w w':World}{st st':St}{a a':Act}{lg:List Nat}(h:Ats B s0 w0 nx0 st s w a)(k:E7 B s w st st' a lg s' w' a'):Ats B s0 w0 nx0 st' s' w' a':=by
 have h1:=h.le
 have h2:=k.le
 refine⟨k.rel,(h.step.trans k.step).more (fun x hx=>by rw[k.log];exact List.mem_append.2 ((List.mem_append.1 hx).symm)),fun i=>?_,Nat.le_trans h1 h2⟩
 rw[k.dom,h.dom]
 constructor
 ·rintro ((h | h) | h)
  ·exact .inl h
  ·exact .inr ⟨h.1,by omega⟩
  ·exact .inr ⟨by omega,h.2⟩
 ·rintro (h | h)
  ·exact .inl (.inl h)
  ·by_cases h' : i < st.nx
   ·exact .inl (.inr ⟨h.1,h'⟩)
   ·exact .inr ⟨by omega,h.2⟩
def Sat(P:Program)(rd:Option Nat)(nx0:Nat)(c:Code)(st:St)(R:Ex->St->Prop):Prop:=
 ∀(B:Nat)(s0:Sig)(w0:World)(s:Sig)(w:World)(a:Act),(∀i,nx0<=i->¬s0.dom i)->B<=w0.heap.size->(∀h,rd=some h->s0.dom h)->Ats B s0 w0 nx0 st s w a->
  ∀Q:Exit->Act->World->Prop,(∀e st',R e st'->∀s' w' a',Ats B s0 w0 nx0 st' s' w' a'->Q (exOf e) a' w')->c.wpIn (FF (rd.map s0.μ)) 5 P Q a w
section
variable {rd:Option Nat} {nx0:Nat} {st:St} {R R':Ex->St->Prop}
theorem Sat.mono{c:Code}(h:Sat P rd nx0 c st R)(k: ∀e st',R e st'->R' e st'):Sat P rd nx0 c st R':=
 fun B s0 w0 s w a hn hB hrd A Q hQ=>h B s0 w0 s w a hn hB hrd A Q (fun e st' he=>hQ e st' (k e st' he))
theorem Sat.gc{c:Code}{r:List Nat}{st':St}(g:Gc nx0 r st st')(h:Sat P rd nx0 c st' R):Sat P rd nx0 c st R:=
 fun B s0 w0 _ w a hn hB hrd A Q hQ=>let ⟨s',A'⟩:=A.gc hn g;h B s0 w0 s' w a hn hB hrd A' Q hQ
theorem Sat.gc_post{c:Code}(h:Sat P rd nx0 c st (fun e st1=>∃r st2,Gc nx0 r st1 st2/\R e st2)):Sat P rd nx0 c st R:=
 fun B s0 w0 s w a hn hB hrd A Q hQ=>h B s0 w0 s w a hn hB hrd A Q (fun e _⟨_,st2,g,hR⟩ _ w' a' A'=>let ⟨s2,A2⟩:=A'.gc hn g;hQ e st2 hR s2 w' a' A2)
theorem Sat.skip(h:R .normal st):Sat P rd nx0 .skip st R:=fun _ _ _ s w a _ _ _ A _ hQ=>wpIn_skip (hQ _ _ h s w a A)
theorem Sat.label{l:Nat}(h:R .normal st):Sat P rd nx0 (.label l) st R:=fun _ _ _ s w a _ _ _ A _ hQ=>wpIn_label (hQ _ _ h s w a A)
theorem Sat.exit{i:Nat}(h:R (.exit i) st):Sat P rd nx0 (.exit i) st R:=fun _ _ _ s w a _ _ _ A _ hQ=>wpIn_exit (hQ _ _ h s w a A)
theorem Sat.ret(h:R .ret st):Sat P rd nx0 .ret st R:=fun _ _ _ s w a _ _ _ A _ hQ=>wpIn_ret (hQ _ _ h s w a A)
theorem Sat.seq{x y:Code}(h:Sat P rd nx0 x st R')(k: ∀st1,R' .normal st1->Sat P rd nx0 y st1 R)(ho: ∀e st1,e≠ .normal->R' e st1->R e st1):Sat P rd nx0 (.seq x y) st R:=by
 intro B s0 w0 s w a hn hB hrd A Q hQ
 refine wpIn_seq (h B s0 w0 s w a hn hB hrd A _ ?_)
 intro e st1 he s1 w1 a1 A1
 cases e with
 |normal=>exact k st1 he B s0 w0 s1 w1 a1 hn hB hrd A1 Q hQ
 |exit id=>exact hQ _ _ (ho _ _ (by simp) he) s1 w1 a1 A1
 |ret=>exact hQ _ _ (ho _ _ (by simp) he) s1 w1 a1 A1
theorem Sat.cond{c:Operand}{x y:Code}{t:Bool}(hc:ev st.tm c=some (.bool t))(h:Sat P rd nx0 (bif t then x else y) st R):Sat P rd nx0 (.cond c x y) st R:=by
 intro B s0 w0 s w a hn hB hrd A Q hQ
 have hev:a.eval c= .bool t:=Ay A.rel.rt hc
 refine wpIn_cond hev ?_
 have:=h B s0 w0 s w a hn hB hrd A Q hQ
 cases t<;>exact this
theorem Sat.block{id:Nat}{b:Code}(h:Sat P rd nx0 b st R')(h1: ∀st1,R' (.exit id) st1->R .normal st1)(h2: ∀e st1,e≠ .exit id->R' e st1->R e st1):Sat P rd nx0 (.block id b) st R:=by
 intro B s0 w0 s w a hn hB hrd A Q hQ
 refine wpIn_block (h B s0 w0 s w a hn hB hrd A _ ?_)
 intro e st1 he s1 w1 a1 A1
 cases e with
 |normal=>exact hQ _ _ (h2 _ _ (by simp) he) s1 w1 a1 A1
 |ret=>exact hQ _ _ (h2 _ _ (by simp) he) s1 w1 a1 A1
 | exit i =>
  show Exit.inBlock id Q (.exit i) a1 w1
  by_cases hi:i=id
  ·subst hi
   simp only[Exit.inBlock,if_true]
   exact hQ .normal _ (h1 _ he) s1 w1 a1 A1
  ·simp only [Exit.inBlock, if_neg hi]
   exact hQ (.exit i) _ (h2 _ _ (by simpa using hi) he) s1 w1 a1 A1
theorem Sat.scope{b:Code}(h:Sat P rd nx0 b st R):Sat P rd nx0 (.scope b) st R:=by
 intro B s0 w0 s w a hn hB hrd A Q hQ
 refine Qeh (h B s0 w0 s w a hn hB hrd A _ ?_)
 intro e st1 he s1 w1 a1 A1
 have:=hQ e st1 he s1 w1 a1 A1
 cases e<;>exact this
theorem Sat.loop{b:Code}{α:Type}(S:α->St)(m:α->Nat)(h: ∀x,Sat P rd nx0 b (S x) (fun e st1=>(e= .normal/\∃x',m x'<m x/\st1=S x')\/(e≠ .normal/\R e st1)))(x:α):Sat P rd nx0 (.loop b) (S x) R:=by
 intro B s0 w0 s w a hn hB hrd A Q hQ
 refine Qea (fun j a1 w1=>∃x s1,m x=j/\Ats B s0 w0 nx0 (S x) s1 w1 a1) ?_ (m x) a w ⟨x,s,rfl,A⟩
 rintro j a1 w1 ⟨y,s1,rfl,A1⟩
 refine h y B s0 w0 s1 w1 a1 hn hB hrd A1 _ ?_
 rintro e st2 (⟨rfl,x',hlt,rfl⟩|⟨hne,he⟩) s2 w2 a2 A2
 ·exact⟨m x',hlt,x',s2,rfl,A2⟩
 ·cases e with
  |normal=>exact absurd rfl hne
  |exit id=>exact hQ _ _ he s2 w2 a2 A2
  |ret=>exact hQ _ _ he s2 w2 a2 A2
theorem Sat.region{E:Env}(hE:E.Ok P)(hm:P.follows .mixedOrders=true){id:Nat}{ops:Array Oper}{draw:Bool}{call:Qa6}(hc:Qfe P st.tm.gl call)(hlog:Qdb call){L:Rs}(h:Qe9 E call ops draw st=some L)(hR: ∀e st',(e,st')∈L->R e st'):Sat P rd nx0 (.region id ops draw) st R:=by
 intro B s0 w0 s w a hn hB hrd A Q hQ
 have hr:=A.rel
 have hQ': ∀e st',(e,st')∈L->∀a' w',Goes B s w st st' a a' w'->Q (exOf e) a' w':=fun e st' hm a' w'⟨lg,s',W⟩=>hQ e st' (hR e st' hm) s' w' a' (A.went W)
 have single: ∀{o:Option St},one? o=some L->∃st',o=some st'/\L=[(.normal,st')]:=by
  intro o ho
  cases o with
  |none=>cases ho
  |some st'=>cases ho;exact⟨st',rfl,rfl⟩
 unfold Qe9 at h
 cases draw with
 |true=>
  rw[cond_true]at h
  obtain⟨st',h1,rfl⟩:=single h
  exact draw_ok hE hm hc hlog h1 rfl hr (hQ' .normal st' (List.mem_singleton.2 rfl))
 | false =>
  rw[cond_false]at h
  refine wpIn_region ?_
  rw[List.range_eq_range',<-Array.length_toList]
  split at h
  ·rename_i it o ol hf
   exact nextR_wp hE.G hE.ext hc hf h hr hQ'
  ·obtain ⟨st', h1, rfl⟩ := single h
   exact Qtg hE.G hE.ext hc (l:=rd.map s0.μ) (Q:=Q) ops.toList 0 st st' s w a (fun j=>by simp) h1 rfl hr (hQ' .normal st' (List.mem_singleton.2 rfl))
end
def Lp(P:Program)(rd:Option Nat)(nx0:Nat)(b:Code)(R:Ex->St->Prop):Nat->St->Prop
 |0,_=>False
 |j+1,st=>Sat P rd nx0 b st (fun e st1=>(e= .normal/\Lp P rd nx0 b R j st1)\/(e≠ .normal/\R e st1))
theorem Lp.sat{rd:Option Nat}{nx0:Nat}{R:Ex->St->Prop}{b:Code}{j:Nat}{st:St}(h:Lp P rd nx0 b R j st):Sat P rd nx0 (.loop b) st R:=by
 intro B s0 w0 s w a hn hB hrd A Q hQ
 refine Qea (fun j a1 w1=>∃st1 s1,Lp P rd nx0 b R j st1/\Ats B s0 w0 nx0 st1 s1 w1 a1) ?_ j a w ⟨st,s,h,A⟩
 rintro j a1 w1 ⟨st1,s1,h1,A1⟩
 cases j with
 |zero=>exact h1.elim
 | succ j =>
  refine h1 B s0 w0 s1 w1 a1 hn hB hrd A1 _ ?_
  rintro e st2 (⟨rfl,hk⟩|⟨hne,he⟩) s2 w2 a2 A2
  ·exact⟨j,Nat.lt_succ_self j,st2,s2,hk,A2⟩
  ·cases e with
   |normal=>exact absurd rfl hne
   |exit id=>exact hQ _ _ he s2 w2 a2 A2
   |ret=>exact hQ _ _ he s2 w2 a2 A2
def Aa(P:Program)(gl:T (List V))(c:V)(ars:List V)(H:T O)(nx:Nat)(r:CR):Prop:=
 (∀ (s : Sig) (w : World) (fv : Value) (jk : Array Value), RV s w c fv -> RL s w ars jk.toList -> RH s w H.get -> GL s w gl -> (∀ i, nx <= i -> ¬ s.dom i) ->
  ∃next,((do let d<-Deferred.ofValue fv jk;invoke d.target d.args):Sem Next).run P w= .ok next w/\Into P (Qft s w nx r) next w/\((∃f caps,c= .fn f caps)->∃f ars,next= .enter f ars))/\
 Log H.get nx r.H.get r.nx r.lg
open Classical in
noncomputable def tbl:List Qa8->Qa6
 |[],_,_,_,_=>none
 |q::qs,c,l,H,nx=>if q.c=c/\q.l=l/\q.H=H/\q.nx=nx then some q.r else tbl qs c l H nx
theorem Qmz: ∀{qs:List Qa8}{c:V}{l:List V}{H:T O}{nx:Nat}{r:CR},tbl qs c l H nx=some r->∃q∈qs,q.c=c/\q.l=l/\q.H=H/\q.nx=nx/\q.r=r
 |[],_,_,_,_,_,h=>by cases h
 | q :: qs, c, l, H, nx, r, h => by
  unfold tbl at h
  split at h
  ·rename_i hq
   cases h
   exact⟨q,List.mem_cons_self,hq.1,hq.2.1,hq.2.2.1,hq.2.2.2,rfl⟩
  ·obtain ⟨q', h1, h2⟩ := Qmz h
   exact⟨q',List.mem_cons_of_mem _ h1,h2⟩
def Ek(q:Qa8):List Qa8->Prop
 |[]=>True
 |p::qs=>(p.c=q.c->p.l=q.l->p.H=q.H->p.nx=q.nx->p.r=q.r)/\Ek q qs
def AllSpec(P:Program)(gl:T (List V))(qs:List Qa8):Prop:=∀q∈qs,Aa P gl q.c q.l q.H q.nx q.r
theorem Ek.mem{q:Qa8}: ∀{qs:List Qa8},Ek q qs->∀p∈qs,p.c=q.c->p.l=q.l->p.H=q.H->p.nx=q.nx->p.r=q.r
 |[],_,_,h=>by cases h
 |p::qs,h,x,hx=>by
  rcases List.mem_cons.1 hx with rfl|hx
  ·exact h.1
  ·exact Ek.mem h.2 x hx
structure Bz(P:Program)(gl:T (List V))(qs:List Qa8):Prop where
 spec:AllSpec P gl qs
 meets: ∀q∈qs,tbl qs q.c q.l q.H q.nx=some q.r
theorem Bz.nil{gl:T (List V)}:Bz P gl []:=⟨fun _ h=>(by cases h),fun _ h=>(by cases h)⟩
theorem Bz.cons{gl:T (List V)}{qs:List Qa8}{q:Qa8}(h:Bz P gl qs)(hq:Aa P gl q.c q.l q.H q.nx q.r)(hc:Ek q qs):Bz P gl (q::qs):=by
 refine⟨fun p hp=>?_,fun p hp=>?_⟩
 ·rcases List.mem_cons.1 hp with rfl | hp
  ·exact hq
  ·exact h.spec p hp
 ·unfold tbl
  rcases List.mem_cons.1 hp with rfl|hp
  ·rw[if_pos ⟨rfl,rfl,rfl,rfl⟩]
  ·split
   ·rename_i he
    exact congrArg some (hc.mem p hp he.1.symm he.2.1.symm he.2.2.1.symm he.2.2.2.symm).symm
   ·exact h.meets p hp
theorem Bz.call{gl:T (List V)}{qs:List Qa8}(h:Bz P gl qs):Qfe P gl (tbl qs):=by
 intro c ars H nx r s w fv jk e
 obtain⟨q,hq,rfl,rfl,rfl,rfl,rfl⟩:=Qmz e
 exact(h.spec q hq).1 s w fv jk
theorem Bz.log{gl:T (List V)}{qs:List Qa8}(h:Bz P gl qs):Qdb (tbl qs):=by
 intro c ars H nx r e
 obtain⟨q,hq,rfl,rfl,rfl,rfl,rfl⟩:=Qmz e
 exact(h.spec q hq).2
theorem Aa.fnC{E:Env}(hE:E.Ok P){gl:T (List V)}{f:Nat}{caps ars:List V}{H:T O}{nx:Nat}{r:CR}{fi:FI}{R:Ex->St->Prop}(hfi:E.code f=some fi)(hle:Nat.ble (ars++caps).length fi.ntmps=true)(hlog:Log H.get nx r.H.get r.nx r.lg)
  (h:Sat P none nx fi.body ⟨⟨Qfi (Qdg fi.ntmps) 0 (ars++caps),gl,fi.ntmps⟩,H,nx,[]⟩ R)
  (hR: ∀e st,R e st->(e= .normal\/e= .ret)/\∃v,Ff E.G st.tm st.H fi.res=some v/\∀(s:Sig)(w:World)(ee:Ending)(w':World),RH s w H.get->(∀i,nx<=i->¬s.dom i)->Qft s w nx ⟨v,st.H,st.nx,st.lg⟩ ee w'->Qft s w nx r ee w'):Aa P gl (.fn f caps) ars H nx r:=by
 refine⟨fun s w fv jk hc kx hH hgl hn=>?_,hlog⟩
 obtain⟨vs,rfl,hcaps⟩:=hc
 have jf:RL s w (ars++caps) (jk++vs).toList:=by rw[Array.toList_append];exact kx.append hcaps
 have kq: ∀x:Result Next,(callFunc f (jk++vs)).run P w=x->((do let d<-Deferred.ofValue (.func (.func f) #[] vs) jk;invoke d.target d.args):Sem Next).run P w=x:=by
  intro x hx;simp[Deferred.ofValue,invoke,hx]
 have hle:=Nat.le_of_ble_eq_true hle
 obtain⟨fn,f1,f2,f3,f4,f5⟩:=hE.code f fi hfi
 refine⟨_,kq _ (f5 _ w),?_,fun _=>⟨_,_,rfl⟩⟩
 have hsize:(jk++vs).size<=fi.ntmps:=by have:=jf.length;simp only[Array.length_toList]at this;omega
 have hrel:Rel w.heap.size s w ⟨⟨Qfi (Qdg fi.ntmps) 0 (ars++caps),gl,fi.ntmps⟩,H,nx,[]⟩ {tmps:=(jk++vs)++Array.replicate (fn.ntmps-(jk++vs).size) undef,defers:=[]}:=by
  refine⟨hH,⟨by rw[Array.size_append,Array.size_replicate,f3];dsimp only;omega,fun i x hx=>?_,hgl⟩,hn,[],rfl,List.nodup_nil,fun D hD=>by cases hD⟩
  dsimp only at hx
  rw[Qig]at hx
  split at hx
  ·obtain ⟨v, hv, hr⟩ := jf.get hx
   rw[Nat.sub_zero,Array.getElem?_toList]at hv
   exact⟨v,by rw[Array.getElem?_append_left (Array.getElem?_eq_some_iff.1 hv).1];exact hv,hr⟩
  ·rw[Qbz]at hx;cases hx
 refine callsIn_of_wp_marks (F:=Fence.wide) (n:=4) f1 f2 trivial (Qj6 (l:=none) (h w.heap.size s w s w _ hn (Nat.le_refl _) (fun h e=>by cases e) ⟨hrel,Bb.refl s w [],Cg s _,Nat.le_refl _⟩ _ ?_))
 intro e st hRe s' w' a' A
 obtain⟨he,x,kp,hconv⟩:=hR e st hRe
 have leave:LeavesInM Fence.wide 4 P fn a'.tmps (Qft s w nx r) a'.defers .returning w':=by
  obtain⟨Ds,d1,d2,d3⟩:=A.rel.df
  rw[d1]
  refine Qfg Ds w' d2 (fun D hD=>(d3 D hD).2.2.1) (fun w'' g1 g2 g3 g4 g5=>?_)
  have hold: ∀b,b<w.heap.size->w''.heap[b]? =w'.heap[b]? :=fun b hb=>g1 b (fun hD=>by have:=(d3 b hD).1;omega)
  have hk:Dl s' w' w'':=fun b hb=>g1 b (fun hD=>(d3 b hD).2.2.2 hb)
  have hH':RH s' w'' st.H.get:=by
   refine⟨fun h o ho hl=>?_,A.rel.rh.inj,fun b hb=>by rw[g2];exact A.rel.rh.old b hb⟩
   obtain⟨a1,a2,a3,a4⟩:=A.rel.rh.obj h o ho hl
   exact⟨a1,by rw[g2];exact a2,a3,RO.mono (Sig.Le.refl s') hk a1 a4 (fun _=>g1 _ (fun hD=>a3 (.inr (d3 _ hD).2.1)))⟩
  rw[<-f4]at kp
  obtain⟨v,v1,v2⟩:=G6 (P:=P) hE.G hH' (A.rel.rt.mono (Sig.Le.refl s') hk) rfl kp
  refine⟨v,v2,hconv s w _ _ hH hn ⟨v,s',rfl,v1,hH',?_,A.dom,A.le⟩⟩
  exact⟨A.step.le,A.step.fz,fun b hb=>(hold b (hH.old b hb)).trans (A.step.kept b hb),⟨g3.trans A.step.mod.os,g4.trans A.step.mod.tape,g5.trans A.step.mod.output,by rw[g2];exact A.step.mod.size,fun k hk hno=>(hold k hk).trans (A.step.mod.block k hk hno)⟩,A.step.new⟩
 rcases he with rfl|rfl<;>exact leave
def Ac(P:Program)(gl:T (List V))(f:Nat)(ars:List V)(v:V):Prop:=Aa P gl (.fn f []) ars .e 0 ⟨v,.e,0,[]⟩
theorem Aa.caps{gl:T (List V)}{f:Nat}{caps ars:List V}{H:T O}{nx:Nat}{r:CR}(h:Aa P gl (.fn f []) (ars++caps) H nx r):Aa P gl (.fn f caps) ars H nx r:=by
 refine⟨fun s w fv jk hc kx hH hgl hn=>?_,h.2⟩
 obtain⟨vs,rfl,hcaps⟩:=hc
 obtain⟨next,e1,e2,e3⟩:=h.1 s w (.func (.func f) #[] #[]) (jk++vs) ⟨#[],rfl,rfl⟩ (by rw[Array.toList_append];exact kx.append hcaps) hH hgl hn
 refine⟨next,?_,e2,fun _=>e3 ⟨f,[],rfl⟩⟩
 simpa [Deferred.ofValue,invoke]using e1
noncomputable def Qc0:RV0->Option OR
 |some (v,rd)=>some (.calm v rd)
 |none=>none
theorem Fy(x:RV0):Qc0 x=Qcg x:=by rw[Fx];rfl
noncomputable def copL(E:Env)(o:Oper):OC:=
 match o.op with
 | .alloc t=>⟨fun _ _ _ nx=>newR (Qna E.G nx t)⟩
 | .box t x=>⟨fun _ tm _ nx=>newR (aBox tm nx t x)⟩
 | .buildSlice .. | .makeSlice .. | .makeMap .. =>⟨fun _ tm _ nx=>newR (Aw E.G tm nx o)⟩
 | .store t x y=>⟨fun _ tm H nx=>Cp (stO nx (Qhv E.G tm H t x y))⟩
 | .mapUpdate t m k v=>⟨fun _ tm H nx=>Cp (Qek E.G tm H nx t m k v)⟩
 | .insert t m k v=>⟨fun _ tm H nx=>Cp (Qek E.G tm H nx t m k v)⟩
 | .mapEntry t m k=>⟨fun _ tm H nx=>Cp (Qkb E.G tm H nx t m k)⟩
 | .entryStore _ m s v=>⟨fun _ tm H nx=>Cp (Qj9 tm H nx m s v)⟩
 | .range t x=>⟨fun _ tm H nx=>Cp (Qkc E.G tm H nx t x)⟩
 | .entry x=>⟨fun _ tm H nx=>Cp (Qfx tm H nx x)⟩
 | .call c=>match c.callee with
  | .builtin .append=>⟨fun _ tm H nx=>Cp (Qfw E.G tm H nx c)⟩
  | .value f=>⟨fun call tm H nx=>Cp (Qqg E call tm H nx f c.args.toList)⟩
  | _=>⟨fun _ tm H _=>Qc0 (Qhu E.G tm H c)⟩
 | .move x=>⟨fun _ tm _ _=>Qc0 (Ql4 tm x)⟩
 | .assign x=>⟨fun _ tm _ _=>Qc0 (Ql4 tm x)⟩
 | .pick c a b=>⟨fun _ tm _ _=>Qc0 (aPick tm c a b)⟩
 | .load t x=>⟨fun _ tm H _=>Qc0 (Qqh E.G tm H t x)⟩
 | .nilCheck x=>⟨fun _ tm _ _=>Qc0 (aNil tm x)⟩
 | .binOp op t x y _=>⟨fun _ tm _ _=>Qc0 (aBin E.G tm op t x y)⟩
 | .unOp op _ x=>⟨fun _ tm _ _=>Qc0 (aUn tm op x)⟩
 | .convert src dst x=>⟨fun _ tm _ _=>Qc0 (aConv E.G tm src dst x)⟩
 | .fieldAddr t x f=>⟨fun _ tm _ _=>Qc0 (Qdv E.G tm t f x)⟩
 | .field t x f=>⟨fun _ tm _ _=>Qc0 (Qnc E.G tm t f x)⟩
 | .indexAddr t x i=>⟨fun _ tm _ _=>Qc0 (Qdw E.G tm t x i)⟩
 | .index t x i=>⟨fun _ tm _ _=>Qc0 (Qnd E.G tm t x i)⟩
 | .slice t x l h m=>⟨fun _ tm _ _=>Qc0 (Qne E.G tm t x l h m)⟩
 | .extract x i=>⟨fun _ tm _ _=>Qc0 (Qfk tm x i)⟩
 | .build t ps=>⟨fun _ tm _ _=>Qc0 (Qnb E.G tm t ps)⟩
 | .lookup t x i ok=>⟨fun _ tm H _=>Qc0 (Qit E.G tm H t x i ok)⟩
 |o=>⟨fun _ tm H _=>Qc0 (Qi9 E.G tm H o)⟩
theorem copL_eq(E:Env)(call:Qa6)(tm:TM)(H:T O)(nx:Nat)(o:Oper):(copL E o).f call tm H nx=(cop E o).f call tm H nx:=by
 unfold copL cop
 cases o.op<;>first|rfl|(simp only[Fy];done)|skip
 rename_i c
 dsimp only
 cases c.callee with
 |builtin b=>cases b<;>first|rfl|(simp only[Fy];done)
 |value f=>rfl
 |invoke=>simp only[Fy]
mutual
def Hf:V->Prop
 | .bool _| .int _ _| .str _| .nilp| .nilf| .nili| .nils| .nilm| .im _ _| .imp _=>True
 | .fn _ l=>HfL l
 | .agg l=>HfL l
 | .tup l=>HfL l
 | .ifc _ x=>Hf x
 | .ptr _ _| .sl _ _ _ _| .mp _| .yld _=>False
def HfL:List V->Prop
 |[]=>True
 |x::xs=>Hf x/\HfL xs
end
structure SL where
 sl:List (Nat×V)
 os:List O:=[]
 lg:List Nat:=[]
 md:List Nat:=[]
noncomputable def En:T V->List (Nat×V)->T V
 |t,[]=>t
 |t,(i,x)::l=>En (pt t i x) l
noncomputable def Ae:T O->Nat->List O->T O
 |t,_,[]=>t
 |t,i,o::os=>Ae (pt t i o) (i+1) os
noncomputable def Ah(gl:T (List V))(n:Nat)(S:SL):St:=⟨⟨En (Qdg n) S.sl,gl,n⟩,Ae .e 0 S.os,S.os.length,S.lg⟩
inductive C6 where
 |bool(t:Bool)
 |num(n:Int)
 |val(v:V)
 |at_
 |ld(v:V)
 |st(c:List V)
 |app
 |mk
 |call(r:CR)
 |fn(v:V)
 |loop(r:List Nat)(S:SL)(kz:List (Prop×Ex×SL))
 |unroll(n:Nat)
 |lk(es:List (V×V×Nat))(ck:Nat)(r0:Option (Nat×V))
 |up(es:List (V×V×Nat))(ck:Nat)(o':O)
 |lo(o:O)(v:V)
 |so(o:O)(c':List V)
 |ao(o:O)(n:Nat)(jg:List V)
 |en(b:Nat)(k v:V)
 |an(n:Nat)(jg:List V)
 |cp(n:Nat)(jg:List V)
 |loopM(sl:List (Nat×V))(e:Ex)(sl':Nat->List (Nat×V))(Q:Nat->T O->Nat->List Nat->Prop)(jq:Nat->T O->Nat->List Nat->List (Nat×C6))
 |loopK(sl:List (Nat×V))(kz:List (Prop×Ex×SL))
 |fnP(v:V)
 |sw
 |nx(l:List Nat)(view:Nat->V×V×Nat)(ha:Nat->List (Nat×C6))(h0:List (Nat×C6))
 |to(r:List Nat)(S:SL)
 |toO(sl:List (Nat×V))
 |loopF(sl:List (Nat×V))(kz:List (Prop×Ex×List (Nat×V)))
 |aop(o:O)(n:Nat)(jg:List V)
abbrev Hs:=List (Nat×C6)
def key:Option Nat->Nat
 |some d=>d
 |none=>999999
def Es:Qa6:=fun _ _ _ _=>none
abbrev Qdc:=Nat->List V->Option (Prop×V)
def frzRow(n:Option Nat)(off:Nat):Option O->Option (V×Prop)
 |some (.row _ _ c)=>match n with
  |some n=>some (.im n (Aj off c),HfL (Aj off c))
  |none=>some (.imp (Aj off c),HfL (Aj off c))
 | _=>none
mutual
noncomputable def frz(H:T O):V->Option (V×Prop)
 | .bool b=>some (.bool b,True)
 | .int k n=>some (.int k n,True)
 | .str x=>some (.str x,True)
 | .nilp=>some (.nilp,True)
 | .nilf=>some (.nilf,True)
 | .nili=>some (.nili,True)
 | .nils=>some (.im 0 [],True)
 | .nilm=>some (.nilm,True)
 | .im n l=>some (.im n l,True)
 | .imp l=>some (.imp l,True)
 | .sl h off len _=>frzRow (some len) off (gt H h)
 | .ptr h off=>frzRow none off (gt H h)
 | .agg l=>match Ec H l with|some (l',p)=>some (.agg l',p)|none=>none
 | .tup l=>match Ec H l with|some (l',p)=>some (.tup l',p)|none=>none
 | .fn f l=>match Ec H l with|some (l',p)=>some (.fn f l',p)|none=>none
 | .ifc t x=>match frz H x with|some (x',p)=>some (.ifc t x',p)|none=>none
 | .mp _=>none
 | .yld _=>none
noncomputable def Ec(H:T O):List V->Option (List V×Prop)
 |[]=>some ([],True)
 |x::xs=>match frz H x,Ec H xs with
  |some (y,p),some (ys,q)=>some (y::ys,p/\q)
  | _,_=>none
end
mutual
def hfB:V->Bool
 | .bool _| .int _ _| .str _| .nilp| .nilf| .nili| .nils| .nilm| .im _ _| .imp _=>true
 | .fn _ l=>Dv l
 | .agg l=>Dv l
 | .tup l=>Dv l
 | .ifc _ x=>hfB x
 | .ptr _ _| .sl _ _ _ _| .mp _| .yld _=>false
def Dv:List V->Bool
 |[]=>true
 |x::xs=>hfB x&&Dv xs
end
def boolH(t:Bool)(K:OR->Prop):Option OR->Prop
 |some (.calm (.bool b) rd)=>b=t/\K (.calm (.bool t) rd)
 | _=>False
def numH(n:Int)(K:OR->Prop):Option OR->Prop
 |some (.calm (.int k m) rd)=>m=n/\K (.calm (.int k n) rd)
 | _=>False
def valH(v:V)(K:OR->Prop)(o:Option V):Prop:=o=some v/\K (.calm v [])
def atH(ti:TI)(n:Int)(K:OR->Prop):V->Prop
 | .im m l=>(0<=n/\n<m)/\K (.calm (.imp (l.drop (n.toNat*ti.size))) [])
 | .sl h off m _=>(0<=n/\n<m)/\K (.calm (.ptr h (off+n.toNat*ti.size)) [])
 | _=>False
def Qmk(ti:TI)(v:V)(l:List V)(rd:List Nat)(K:OR->Prop):Prop:=
 bif ti.agg then(match v with| .agg c=>A6 ti.size l=some c/\K (.calm (.agg c) rd)| _=>False)else(Ad l=some v/\K (.calm v rd))
noncomputable def ldH(H:T O)(ti:TI)(v:V)(K:OR->Prop):V->Prop
 | .imp l=>Qmk ti v l [] K
 | .ptr h off=>match gt H h with
  |some (.row _ _ c)=>Qmk ti v (Aj off c) [h] K
  | _=>False
 | _=>False
noncomputable def stH(H:T O)(nx:Nat)(ti:TI)(c':List V)(xs:List V)(K:OR->Prop):V->Prop
 | .ptr h off=>match gt H h with
  |some (.row et sp c)=>bif Nat.beq xs.length ti.size&&Bp xs then Ax off c xs=some c'/\K (.eff ⟨.tup [],pt H h (.row et sp c'),nx,[h]⟩)else False
  | _=>False
 | _=>False
noncomputable def appH(H:T O)(nx e sz by_:Nat)(n:Nat)(jg:List V)(K:OR->Prop):V->Prop
 | .sl h off len none=>match gt H h with
  | some (.row et (some sz') c) => bif Nat.beq off 0 && Nat.beq et e && Nat.beq sz' sz && Bp jg then
    c.length=len*sz/\len+n<=9223372036854775807/\(len+n)*by_<=140737488355328/\K (.eff ⟨.sl nx 0 (len+n) none,pt (pt H h .dead) nx (.row e (some sz) (c++jg)),nx+1,[h]⟩)else False
  | _=>False
 | _=>False
def mkH(nx e:Nat)(by_:Nat)(z:List V)(l c:Int)(K:OR->Prop):Prop:=
 (0<=l/\l<=c/\(by_:Int)*c<=281474976710656/\c<=9223372036854775807)/\K (.alloc (.sl nx 0 l.toNat (some (c.toNat-l.toNat))) (.row e none (rep c.toNat z)))
noncomputable def lkH(G:Ctx)(H:T O)(t:Nat)(ok:Bool)(es:List (V×V×Nat))(ck:Nat)(r0:Option (Nat×V))(K:OR->Prop):V->V->Prop
 | .mp h, .int k n => match G.ty t with
  | some { desc := .map kt elem, .. } => match G.ty kt with
   | some { desc := .int _, .. } => (gt H h = some (.map es ck) /\ B6 k n es 0 = some r0) /\ (match r0 with
    |some (_,v)=>K (.calm (bif ok then .tup [v,.bool true]else v) [h])
    |none=>match Ez G elem with
     |some z=>K (.calm (bif ok then .tup [z,.bool false]else z) [h])
     |none=>False)
   | _=>False
  | _=>False
 | .mp h, .agg xs => match G.ty t with
  | some { desc := .map kt elem, .. } => match G.ty kt, G.flat kt with
   | some _, some ks => match eqL ks xs xs with
    | some _ => (gt H h = some (.map es ck) /\ Bg ks xs es 0 = some r0) /\ (match r0 with
     |some (_,v)=>K (.calm (bif ok then .tup [v,.bool true]else v) [h])
     |none=>match Ez G elem with
      |some z=>K (.calm (bif ok then .tup [z,.bool false]else z) [h])
      |none=>False)
    |none=>False
   | _,_=>False
  | _=>False
 | _,_=>False
noncomputable def upH(G:Ctx)(H:T O)(nx t:Nat)(v:V)(es:List (V×V×Nat))(ck:Nat)(o':O)(K:OR->Prop):V->V->Prop
 | .mp h,.int k n=>match G.ty t with
  |some {desc:=.map kt _,.. }=>bif Ef G kt then(gt H h=some (.map es ck)/\putE k n v es ck=some o')/\K (.eff ⟨.tup [],pt H h o',nx,[h]⟩)else False
  | _=>False
 | .mp h, .agg xs => match G.ty t with
  | some { desc := .map kt _, .. } => match G.ty kt, G.flat kt with
   |some _,some ks=>match eqL ks xs xs with
    |some _=>(gt H h=some (.map es ck)/\putS ks xs v es ck=some o')/\K (.eff ⟨.tup [],pt H h o',nx,[h]⟩)
    |none=>False
   | _,_=>False
  | _=>False
 | _,_=>False
noncomputable def loH(H:T O)(ti:TI)(o:O)(v:V)(K:OR->Prop):V->Prop
 | .ptr h off=>match o with
  | .row _ _ c=>gt H h=some o/\Qmk ti v (Aj off c) [h] K
  | _=>False
 | _=>False
noncomputable def soH(H:T O)(nx:Nat)(ti:TI)(o:O)(c':List V)(xs:List V)(K:OR->Prop):V->Prop
 | .ptr h off=>match o with
  | .row et sp c=>bif Nat.beq xs.length ti.size&&Bp xs then(gt H h=some o/\Ax off c xs=some c')/\K (.eff ⟨.tup [],pt H h (.row et sp c'),nx,[h]⟩)else False
  | _=>False
 | _=>False
noncomputable def aoH(H:T O)(nx e sz by_:Nat)(o:O)(n:Nat)(jg:List V)(K:OR->Prop):V->Prop
 | .sl h off len none=>match o with
  | .row et (some sz') c => bif Nat.beq off 0 && Nat.beq et e && Nat.beq sz' sz && Bp jg then
    gt H h=some o/\c.length=len*sz/\len+n<=9223372036854775807/\(len+n)*by_<=140737488355328/\K (.eff ⟨.sl nx 0 (len+n) none,pt (pt H h .dead) nx (.row e (some sz) (c++jg)),nx+1,[h]⟩)else False
  | _=>False
 | _=>False
noncomputable def apH(H:T O)(nx e sz by_:Nat)(o:O)(n:Nat)(jg:List V)(K:OR->Prop):V->Prop
 | .sl h off len none=>match o with
  | .row et (some sz') c => bif Nat.beq off 0 && Nat.beq et e && Nat.beq sz' sz && !(Nat.beq sz 0) then
    (gt H h=some o/\c.length=len*sz/\1<=n/\len+n<=9223372036854775807/\(len+n)*by_<=140737488355328/\Bp jg=true)/\K (.eff ⟨.sl nx 0 (len+n) none,pt (pt H h .dead) nx (.row e (some sz) (c++jg)),nx+1,[h]⟩)else False
  | _=>False
 | _=>False
noncomputable def enI(H:T O)(nx b:Nat)(k v:V)(K:OR->Prop):Option O->Prop
 |some (.iter (some m) _ jz last)=>match gt H m with
  |some (.map es ck)=>(jz.getLast?=some b/\ck=last/\Eg b es=some (k,v))/\K (.eff ⟨.tup [k,v],H,nx,[]⟩)
  | _=>False
 | _=>False
noncomputable def enH(H:T O)(nx b:Nat)(k v:V)(K:OR->Prop):V->Prop
 | .ptr h off=>bif Nat.beq off 0 then enI H nx b k v K (gt H h)else False
 | _=>False
noncomputable def swH(H:T O)(nx:Nat)(ti:TI)(xs:List V)(K:OR->Prop):V->Prop
 | .ptr h off=>bif Nat.beq off 0 then(match gt H h with
  |some (.row et sp c)=>(xs.length=ti.size/\Bp xs=true/\c.length=xs.length)/\K (.eff ⟨.tup [],pt H h (.row et sp xs),nx,[h]⟩)
  | _=>False)else False
 | _=>False
section
variable (P:Program) (E:Env) (sp:Qdc)
noncomputable def Qt8(qs:List Qa8)(h:C6)(tm:TM)(H:T O)(nx:Nat)(o:Oper)(K:List Qa8->OR->Prop):Prop:=
 match h with
 | .bool t=>boolH t (K qs) ((copL E o).f Es tm H nx)
 | .num n=>numH n (K qs) ((copL E o).f Es tm H nx)
 | .val v => match o.op with
  | .binOp op t x y _=>match fev tm x,fev tm y with
   |some a,some b=>valH v (K qs) (Ai E.G op t a b)
   | _,_=>False
  | .slice t x l h m=>match fev tm x,fevO tm l,fevO tm h,fevO tm m with
   |some a,some l,some h,some m=>valH v (K qs) (Bv E.G t a l h m)
   | _,_,_,_=>False
  | .index t x i=>match fev tm x,fev tm i with
   |some a,some (.int _ n)=>valH v (K qs) (C3 E.G t a n)
   | _,_=>False
  | .indexAddr t x i=>match fev tm x,fev tm i with
   |some a,some (.int _ n)=>valH v (K qs) (Az E.G t a n)
   | _,_=>False
  | _=>False
 | .at_ => match o.op with
  | .indexAddr t x i => match E.G.ty t, fev tm x, fev tm i with
   |some {desc:=.slice elem,.. },some a,some (.int _ n)=>match E.G.ty elem with
    |some ti=>atH ti n (K qs) a
    |none=>False
   | _,_,_=>False
  | _=>False
 | .ld v => match o.op with
  | .load t x=>match E.G.ty t,fev tm x with
   |some ti,some a=>ldH H ti v (K qs) a
   | _,_=>False
  | _=>False
 | .st c => match o.op with
  | .store t x y=>match E.G.ty t,fev tm x,fev tm y with
   |some ti,some a,some v=>stH H nx ti c (Au v) (K qs) a
   | _,_,_=>False
  | _=>False
 | .app => match o.op with
  | .call c => match c.callee with
   | .builtin .append => match c.args.toList, c.argTypes.toList with
    | [x, y], [t, tx] => match E.G.ty t, E.G.ty tx, fev tm x, fev tm y with
     | some { desc := .slice e, .. }, some { desc := .slice _, .. }, some a, some b => match E.G.ty e with
      |some {size:=sz,bytes:=by_,zero:=some _,.. }=>match A3 H sz b with
       |some (n,jg)=>bif Nat.beq n 0||Nat.beq sz 0 then False else appH H nx e sz by_ n jg (K qs) a
       |none=>False
      | _=>False
     | _,_,_,_=>False
    | _,_=>False
   | _=>False
  | _=>False
 | .mk => match o.op with
  | .makeSlice t l c => match E.G.ty t, fev tm l, fev tm c with
   |some {desc:=.slice e,.. },some (.int _ l),some (.int _ c)=>match E.G.ty e with
    |some {bytes:=by_,zero:=some z,.. }=>mkH nx e by_ z l c (K qs)
    | _=>False
   | _,_,_=>False
  | _=>False
 | .call r => match o.op with
  | .call c => match c.callee with
   | .value f => match fev tm f, F2 tm c.args.toList with
    |some g,some l=>match C8 E g l with
     |some _=>False
     |none=>Aa P tm.gl g l H nx r/\Ek ⟨g,l,H,nx,r⟩ qs/\K (⟨g,l,H,nx,r⟩::qs) (.eff r)
    | _,_=>False
   | _=>False
  | _=>False
 | .fn v => match o.op with
  | .call c => match c.callee with
   | .value f => match fev tm f, F2 tm c.args.toList with
    | some (.fn f caps), some l => match C8 E (.fn f caps) l with
     |some _=>False
     |none=>match Ec H (l++caps)with
      |some (l',p1)=>bif hfB v&&(Dv (l++caps)||gnd v)then p1/\Ac P tm.gl f l' v/\Ek ⟨.fn f caps,l,H,nx,⟨v,H,nx,[]⟩⟩ qs/\K (⟨.fn f caps,l,H,nx,⟨v,H,nx,[]⟩⟩::qs) (.eff ⟨v,H,nx,[]⟩)else False
      |none=>False
    | _,_=>False
   | _=>False
  | _=>False
 | .lk es ck r0 => match o.op with
  | .lookup t x i ok=>match fev tm x,fev tm i with
   |some a,some b=>lkH E.G H t ok es ck r0 (K qs) a b
   | _,_=>False
  | _=>False
 | .up es ck o' => match o.op with
  | .mapUpdate t m k v=>match fev tm m,fev tm k,fev tm v with
   |some a,some b,some v=>upH E.G H nx t v es ck o' (K qs) a b
   | _,_,_=>False
  | _=>False
 | .lo ob v => match o.op with
  | .load t x=>match E.G.ty t,fev tm x with
   |some ti,some a=>loH H ti ob v (K qs) a
   | _,_=>False
  | _=>False
 | .so ob c => match o.op with
  | .store t x y=>match E.G.ty t,fev tm x,fev tm y with
   |some ti,some a,some v=>soH H nx ti ob c (Au v) (K qs) a
   | _,_,_=>False
  | _=>False
 | .en b k v => match o.op with
  | .entry x=>match fev tm x with
   |some a=>enH H nx b k v (K qs) a
   | _=>False
  | _=>False
 | .fnP v => match o.op with
  | .call c => match c.callee with
   | .value f => match fev tm f, F2 tm c.args.toList with
    | some (.fn f caps), some l => match C8 E (.fn f caps) l with
     |some _=>False
     |none=>match Ec H (l++caps)with
      |some (l',p1)=>bif Dv (l++caps)then p1/\(Hf v/\Ac P tm.gl f l' v)/\Ek ⟨.fn f caps,l,H,nx,⟨v,H,nx,[]⟩⟩ qs/\K (⟨.fn f caps,l,H,nx,⟨v,H,nx,[]⟩⟩::qs) (.eff ⟨v,H,nx,[]⟩)else False
      |none=>False
    | _,_=>False
   | _=>False
  | _=>False
 | .cp n jg => match o.op with
  | .call c => match c.callee with
   | .builtin .append => match c.args.toList, c.argTypes.toList with
    | [x, y], [t, tx] => match E.G.ty t, E.G.ty tx, fev tm x, fev tm y with
     |some {desc:=.slice e,.. },some {desc:=.slice _,.. },some (.sl h off len (some r)),some b=>match E.G.ty e with
      |some {size:=sz,bytes:=by_,zero:=some _,.. }=>bif Nat.beq sz 0|| !(Nat.beq len 0)|| !(Nat.beq r 0)then False else(A3 H sz b=some (n,jg)/\A3 H sz (.sl h off len (some r))=some (0,[])/\1<=n/\n<=9223372036854775807/\n*by_<=140737488355328)/\K qs (.eff ⟨.sl nx 0 n none,pt H nx (.row e (some sz) jg),nx+1,[]⟩)
      | _=>False
     | _,_,_,_=>False
    | _,_=>False
   | _=>False
  | _=>False
 | .an n jg => match o.op with
  | .call c => match c.callee with
   | .builtin .append => match c.args.toList, c.argTypes.toList with
    | [x, y], [t, tx] => match E.G.ty t, E.G.ty tx, fev tm x, fev tm y with
     |some {desc:=.slice e,.. },some {desc:=.slice _,.. },some .nils,some b=>match E.G.ty e with
      |some {size:=sz,bytes:=by_,zero:=some _,.. }=>bif Nat.beq n 0||Nat.beq sz 0 then False else(A3 H sz b=some (n,jg)/\n<=9223372036854775807/\n*by_<=140737488355328)/\K qs (.eff ⟨.sl nx 0 n none,pt H nx (.row e (some sz) jg),nx+1,[]⟩)
      | _=>False
     | _,_,_,_=>False
    | _,_=>False
   | _=>False
  | _=>False
 | .sw => match o.op with
  | .store t x y=>match E.G.ty t,fev tm x,fev tm y with
   |some ti,some a,some v=>swH H nx ti (Au v) (K qs) a
   | _,_,_=>False
  | _=>False
 | .ao ob n jg => match o.op with
  | .call c => match c.callee with
   | .builtin .append => match c.args.toList, c.argTypes.toList with
    | [x, y], [t, tx] => match E.G.ty t, E.G.ty tx, fev tm x, fev tm y with
     |some {desc:=.slice e,.. },some {desc:=.slice _,.. },some a,some b=>match E.G.ty e with
      |some {size:=sz,bytes:=by_,zero:=some _,.. }=>A3 H sz b=some (n,jg)/\(bif Nat.beq n 0||Nat.beq sz 0 then False else aoH H nx e sz by_ ob n jg (K qs) a)
      | _=>False
     | _,_,_,_=>False
    | _,_=>False
   | _=>False
  | _=>False
 | .aop ob n jg => match o.op with
  | .call c => match c.callee with
   | .builtin .append => match c.args.toList, c.argTypes.toList with
    | [x, y], [t, tx] => match E.G.ty t, E.G.ty tx, fev tm x, fev tm y with
     |some {desc:=.slice e,.. },some {desc:=.slice _,.. },some a,some b=>match E.G.ty e with
      |some {size:=sz,bytes:=by_,zero:=some _,.. }=>A3 H sz b=some (n,jg)/\apH H nx e sz by_ ob n jg (K qs) a
      | _=>False
     | _,_,_,_=>False
    | _,_=>False
   | _=>False
  | _=>False
 | _=>False
noncomputable def vcSpec(qs:List Qa8)(gl:T (List V))(g:V)(l:List V)(H:T O)(nx:Nat)(K:List Qa8->OR->Prop):Prop:=
 match C8 E g l with
 |some _=>False
 | none => match g with
  | .fn f [] => match Ec H l with
   |some (l',p1)=>match sp f l' with
    |some (p,v)=>bif hfB v&&(Dv l||gnd v)then p1/\p/\Ek ⟨.fn f [],l,H,nx,⟨v,H,nx,[]⟩⟩ qs/\K (⟨.fn f [],l,H,nx,⟨v,H,nx,[]⟩⟩::qs) (.eff ⟨v,H,nx,[]⟩)else False
    |none=>False
   |none=>False
  | _=>False
noncomputable def vcGo(qs:List Qa8)(tm:TM)(H:T O)(nx:Nat)(o:Oper)(K:List Qa8->OR->Prop):Prop:=
 match(copL E o).f Es tm H nx with
 |some r=>K qs r
 | none => match o.op with
  | .call c => match c.callee with
   | .value f=>match fev tm f,F2 tm c.args.toList with
    |some g,some l=>vcSpec E sp qs tm.gl g l H nx K
    | _,_=>False
   | _=>False
  | _=>False
noncomputable def vcOp(hs:Hs)(qs:List Qa8)(tm:TM)(H:T O)(nx:Nat)(o:Oper)(K:Hs->List Qa8->OR->Prop):Prop:=
 match hs with
 |(d,h)::hs'=>bif Nat.beq d (key o.dst)then Qt8 P E qs h tm H nx o (K hs')else vcGo E sp qs tm H nx o (K hs)
 |[]=>vcGo E sp qs tm H nx o (K [])
noncomputable def Qhs(ops:Array Oper)(K:Hs->List Qa8->St->Prop):List Oper->Hs->List Qa8->St->Prop
 |[],hs,qs,st=>K hs qs st
 | o :: l, hs, qs, ⟨tm, H, nx, lg⟩ => match Fa tm ops o with
  |some true=>vcOp P E sp hs qs tm H nx o fun hs qs r=>match r with
   | .calm v _=>Qhs ops K l hs qs ⟨E4 tm o.dst v,H,nx,lg⟩
   | .alloc v ob=>Qhs ops K l hs qs ⟨E4 tm o.dst v,pt H nx ob,nx+1,lg⟩
   | .eff r=>Qhs ops K l hs qs ⟨E4 tm o.dst r.v,r.H,r.nx,r.lg++lg⟩
  |some false=>Qhs ops K l hs qs ⟨E4 tm o.dst (.tup []),H,nx,lg⟩
  |none=>False
noncomputable def Qhm(ops:Array Oper)(bf:Array Nat)(K:Hs->List Qa8->St->Prop):List Nat->Hs->List Qa8->St->Efs->Prop
 |[],hs,qs,st,_=>K hs qs st
 | j :: js, hs, qs, ⟨tm, H, nx, lg⟩, ef => match ops[j]? with
  |none=>False
  | some o => match Fa tm ops o with
   |some true=>vcOp P E sp hs qs tm H nx o fun hs qs r=>match r with
    | .calm v rd=>bif ef.all fun q=>(bf.getD j 0).testBit q.1||disj rd q.2 then Qhm ops bf K js hs qs ⟨E4 tm o.dst v,H,nx,lg⟩ ef else False
    | .alloc v ob=>Qhm ops bf K js hs qs ⟨E4 tm o.dst v,pt H nx ob,nx+1,lg⟩ ef
    | .eff r=>bif Fs o then Qhm ops bf K js hs qs ⟨E4 tm o.dst r.v,r.H,r.nx,r.lg++lg⟩ ((j,r.lg)::ef)else False
   |some false=>Qhm ops bf K js hs qs ⟨E4 tm o.dst (.tup []),H,nx,lg⟩ ef
   |none=>False
def noQ(K:Hs->St->Prop)(hs:Hs)(qs:List Qa8)(st:St):Prop:=match qs with
 |[]=>K hs st
 | _=>False
noncomputable def Qub(ops:Array Oper)(ids:List Nat)(view:Nat->V×V×Nat)(ha:Nat->Hs)(h0:Hs)(o:Oper)(l:List Oper)(tm:TM)(H:T O)(nx:Nat)(lg:List Nat)(h:Nat)(K:Hs->St->Prop):Option O->Prop
 | some (.iter (some m) since jz last) => match gt H m with
  |some (.map es ck)=>(Cz since es=true/\since<=last/\Df jz es=ids.map view)/\
   (ids=[]->Qhs P E sp ops (noQ K) l h0 [] ⟨E4 tm o.dst (.tup [.bool false]),H,nx,h::lg⟩)/\
   ∀a,a∈ids->Qhs P E sp ops (noQ K) l (ha a) [] ⟨E4 tm o.dst (.tup [.bool true,(view a).1,(view a).2.1]),pt H h (.iter (some m) since (jz++[(view a).2.2]) ck),nx,h::lg⟩
  | _=>False
 | _=>False
noncomputable def Qua(ops:Array Oper)(it:Operand)(o:Oper)(l:List Oper)(hs:Hs)(st:St)(K:Hs->St->Prop):Prop:=match hs,st with
 |(_,.nx ids view ha h0):: _,⟨tm,H,nx,lg⟩=>match fev tm it with
  |some (.ptr h 0)=>Qub P E sp ops ids view ha h0 o l tm H nx lg h K (gt H h)
  | _=>False
 | _,_=>False
noncomputable def Qj4(ops:Array Oper)(draw:Bool)(hs:Hs)(st:St)(K:Hs->St->Prop):Prop:=
 bif draw then(bif regOk ops then Qhm P E sp ops (Region.before ops) (fun hs _ st=>K hs st) (Ew (Region.before ops) ops.size ops.toList 0 0) hs [] st []else False)
 else match Dg ops with
  |some (it,o,l)=>Qua P E sp ops it o l hs st K
  |none=>Qhs P E sp ops (fun hs _ st=>K hs st) ops.toList hs [] st
end
variable {P:Program}
theorem Qk0:(∀x,hfB x=true->Hf x)/\∀l,Dv l=true->HfL l:=by
 have: ∀x,(hfB x=true->Hf x):=by
  intro x
  induction x using V.rec (motive_2:=fun l=>Dv l=true->HfL l)with
  |fn f l ih=>intro h;exact ih h
  |agg l ih=>intro h;exact ih h
  |tup l ih=>intro h;exact ih h
  |ifc t x ih=>intro h;exact ih h
  |nil=>trivial
  |cons x l ih1 ih2=>
   rename_i h
   unfold Dv at h
   rw[Bool.and_eq_true]at h
   exact⟨ih1 h.1,ih2 h.2⟩
  | _=>intro h;first|trivial|cases h
 refine⟨this,fun l=>?_⟩
 induction l with
 |nil=>intro _;trivial
 |cons x l ih=>
  intro h
  unfold Dv at h
  rw[Bool.and_eq_true]at h
  exact⟨this x h.1,ih h.2⟩
mutual
theorem Hf.rv{s s':Sig}{w:World}(hf: ∀b,s.fz b->s'.fz b): ∀(x:V)(v:Value),Hf x->RV s w x v->RV s' w x v
 | .bool _,_,_,h| .int _ _,_,_,h| .str _,_,_,h| .nilp,_,_,h| .nilf,_,_,h| .nili,_,_,h| .nils,_,_,h| .nilm,_,_,h=>h
 | .fn _ l,_,hx,⟨vs,e,h⟩=>⟨vs,e,HfL.rl hf l _ hx h⟩
 | .agg l,_,hx,⟨vs,e,h⟩=>⟨vs,e,HfL.rl hf l _ hx h⟩
 | .tup l,_,hx,⟨vs,e,h⟩=>⟨vs,e,HfL.rl hf l _ hx h⟩
 | .ifc _ x,_,hx,⟨u,e,h⟩=>⟨u,e,Hf.rv hf x _ hx h⟩
 | .im _ l,_,_,⟨a,cap,e,hc,h⟩=>⟨a,cap,e,hc,fun hn=>let ⟨b,off,ha,hl⟩:=h hn;⟨b,off,ha,RC.mono' hf (fun _ _=>rfl) l b off hl⟩⟩
 | .imp l,_,_,⟨b,off,e,hl⟩=>⟨b,off,e,RC.mono' hf (fun _ _=>rfl) l b off hl⟩
 | .ptr _ _,_,hx,_| .sl _ _ _ _,_,hx,_| .mp _,_,hx,_| .yld _,_,hx,_=>hx.elim
theorem HfL.rl{s s':Sig}{w:World}(hf: ∀b,s.fz b->s'.fz b): ∀(l:List V)(vs:List Value),HfL l->RL s w l vs->RL s' w l vs
 |[],_,_,h=>h
 |x::xs,_,hx,⟨v,vs',e,h1,h2⟩=>⟨v,vs',e,Hf.rv hf x v hx.1 h1,HfL.rl hf xs vs' hx.2 h2⟩
end
mutual
theorem Ca.of_hf{H:Nat->Option O}{F:Nat->Prop}: ∀{ρ:Nat->Option Nat}(x:V),Hf x->Ca H F ρ x x
 | _,.bool _,_| _,.int _ _,_| _,.str _,_| _,.nilp,_| _,.nilf,_| _,.nili,_| _,.nils,_| _,.nilm,_=>rfl
 | _,.im _ _,_=>.inl rfl
 | _,.imp _,_=>.inl rfl
 | _,.fn _ l,h=>⟨l,rfl,Be.of_hf l h⟩
 | _,.agg l,h=>⟨l,rfl,Be.of_hf l h⟩
 | _,.tup l,h=>⟨l,rfl,Be.of_hf l h⟩
 | _,.ifc _ x,h=>⟨x,rfl,Ca.of_hf x h⟩
 | _,.ptr _ _,h| _,.sl _ _ _ _,h| _,.mp _,h| _,.yld _,h=>h.elim
theorem Be.of_hf{H:Nat->Option O}{F:Nat->Prop}: ∀{ρ:Nat->Option Nat}(l:List V),HfL l->Be H F ρ l l
 | _,[],_=>rfl
 | _,x::xs,h=>⟨x,xs,rfl,Ca.of_hf x h.1,Be.of_hf xs h.2⟩
end
theorem Ci.of_hf{H:Nat->Option O}{F:Nat->Prop}: ∀(l:List V),HfL l->Ci H F l l
 |[],_=>trivial
 |x::xs,h=>⟨x,xs,rfl,Ca.of_hf x h.1,Ci.of_hf xs h.2⟩
mutual
theorem Cw{H:T O}{ρ:Nat->Option Nat}: ∀(x y:V)(p:Prop),frz H x=some (y,p)->p->Ca H.get (fun _=>True) ρ y x
 | .bool _,_,_,h,_| .int _ _,_,_,h,_| .str _,_,_,h,_| .nilp,_,_,h,_| .nilf,_,_,h,_| .nili,_,_,h,_| .nilm,_,_,h,_=>by cases h;rfl
 | .nils,_,_,h,_=>by cases h;exact .inr (.inl ⟨rfl,rfl⟩)
 | .im _ _,_,_,h,_| .imp _,_,_,h,_=>by cases h;exact .inl rfl
 | .sl g off len room, _, _, h, hp => by
  unfold frz at h
  rw[Qa0]at h
  cases ho:H.get g with
  |none=>rw[ho]at h;cases h
  |some o=>
   rw[ho]at h
   cases o<;>try(cases h;done)
   cases h
   rw[Qau]at hp⊢
   exact .inr (.inr ⟨g,off,room,_,_,_,rfl,trivial,ho,Ci.of_hf _ hp⟩)
 | .ptr g off, _, _, h, hp => by
  unfold frz at h
  rw[Qa0]at h
  cases ho:H.get g with
  |none=>rw[ho]at h;cases h
  |some o=>
   rw[ho]at h
   cases o<;>try(cases h;done)
   cases h
   rw[Qau]at hp⊢
   exact .inr ⟨g,off,_,_,_,rfl,trivial,ho,Ci.of_hf _ hp⟩
 | .agg l,_,_,h,hp=>by
  unfold frz at h
  split at h
  ·rename_i l' q e;cases h;exact⟨l,rfl,Cd l l' _ e hp⟩
  ·cases h
 | .tup l,_,_,h,hp=>by
  unfold frz at h
  split at h
  ·rename_i l' q e;cases h;exact⟨l,rfl,Cd l l' _ e hp⟩
  ·cases h
 | .fn f l,_,_,h,hp=>by
  unfold frz at h
  split at h
  ·rename_i l' q e;cases h;exact⟨l,rfl,Cd l l' _ e hp⟩
  ·cases h
 | .ifc t x,_,_,h,hp=>by
  unfold frz at h
  split at h
  ·rename_i x' q e;cases h;exact⟨x,rfl,Cw x x' _ e hp⟩
  ·cases h
 | .mp _,_,_,h,_| .yld _,_,_,h,_=>by cases h
theorem Cd{H:T O}{ρ:Nat->Option Nat}: ∀(l m:List V)(p:Prop),Ec H l=some (m,p)->p->Be H.get (fun _=>True) ρ m l
 |[],_,_,h,_=>by cases h;rfl
 | x :: xs, _, _, h, hp => by
  unfold Ec at h
  split at h
  ·rename_i y q ys q' e1 e2
   cases h
   exact⟨x,xs,rfl,Cw x y q e1 hp.1,Cd xs ys q' e2 hp.2⟩
  ·cases h
end
theorem no_rh{s:Sig}{w:World}(hd: ∀b,s.pr b->b<w.heap.size):RH s w (T.e:T O).get:=⟨fun _ _ h=>by simp at h,fun _ _ _ _ h=>by simp at h,hd⟩
theorem Qmg(H H':T O):(∀x,hfB x=true->frz H x=frz H' x)/\∀l,Dv l=true->Ec H l=Ec H' l:=by
 have: ∀x,(hfB x=true->frz H x=frz H' x):=by
  intro x
  induction x using V.rec (motive_2:=fun l=>Dv l=true->Ec H l=Ec H' l)with
  |fn f l ih=>intro h;unfold frz;rw[ih h]
  |agg l ih=>intro h;unfold frz;rw[ih h]
  |tup l ih=>intro h;unfold frz;rw[ih h]
  |ifc t x ih=>intro h;unfold frz;rw[ih h]
  |nil=>rfl
  |cons x l ih1 ih2=>
   rename_i h
   unfold Dv at h
   rw[Bool.and_eq_true]at h
   unfold Ec
   rw[ih1 h.1,ih2 h.2]
  | _=>intro h;first|rfl|cases h
 refine⟨this,fun l=>?_⟩
 induction l with
 |nil=>intro _;rfl
 |cons x l ih=>
  intro h
  unfold Dv at h
  rw[Bool.and_eq_true]at h
  unfold Ec
  rw[this x h.1,ih h.2]
theorem Qh6{gl:T (List V)}{f:Nat}{ars ars':List V}{v:V}{H:T O}{nx:Nat}(h:Ac P gl f ars v)
  (hx : ∀ (s : Sig) (w : World) (jk : Array Value), RL s w ars' jk.toList -> RH s w H.get -> ∃ F : Nat -> Prop, (∀ b, s.fz b -> F b) /\ (∀ b, F b -> b < w.heap.size) /\ RL (sg F) w ars jk.toList /\
   ∀(s':Sig)(w':World)(u:Value),RV s' w' v u->Bb (sg F) w s' w' []->RH s w' H.get->(∀b,s'.fz b->b<w'.heap.size)->∃s'':Sig,RV s'' w' v u/\RH s'' w' H.get/\Bb s w s'' w' []/\s''.dom=s.dom):Aa P gl (.fn f []) ars' H nx ⟨v,H,nx,[]⟩:=by
 refine⟨fun s w fv jk hc kx hH hgl hn=>?_,Log.refl _ _ _⟩
 obtain⟨F,hF1,hF2,hF3,hF4⟩:=hx s w jk kx hH
 obtain⟨next,e1,e2,e3⟩:=h.1 (sg F) w fv jk (Hf.rv (s':=sg F) hF1 _ _ trivial hc) hF3 (no_rh (fun b hb=>hb.elim (hF2 b) False.elim)) (fun g l hg=>RC.mono' (s':=sg F) hF1 (fun _ _=>rfl) l g 0 (hgl g l hg)) (fun _ _ h=>h)
 refine⟨next,e1,?_,e3⟩
 obtain⟨f',ars2,rfl⟩:=e3 ⟨f,[],rfl⟩
 refine CallsIn.mono e2 ?_
 rintro e w' ⟨u,s',rfl,g1,g2,g3,g4,g5⟩
 obtain⟨r1,r2⟩:=hH.below (w':=w') ⟨g3.mod.os,g3.mod.tape,g3.mod.output,g3.mod.size,fun k hk=>g3.mod.block k hk (fun⟨_,hm,_⟩=>by cases hm)⟩
 obtain⟨s'',q1,q2,q3,q4⟩:=hF4 s' w' u g1 g3 r1 (fun b hb=>g2.old b (.inl hb))
 exact⟨u,s'',rfl,q1,q2,q3,fun i=>by rw[q4];exact Cg s _ i,Nat.le_refl _⟩
theorem Qry{gl:T (List V)}{f:Nat}{ars ars':List V}{v:V}{H:T O}{nx:Nat}(h:Ac P gl f ars v)(hv:Be (T.e:T O).get (fun _=>True) (fun _=>none) ars ars')(hhf:Hf v):Aa P gl (.fn f []) ars' H nx ⟨v,H,nx,[]⟩:=by
 refine Qh6 h fun s w jk kx hH=>⟨s.fz,fun _ h=>h,fun b hb=>hH.old b (.inl hb),?_,fun s' w' u g1 g3 r1 hlt=>?_⟩
 ·exact Be.rl (s:=s) (no_rh hH.old) (s':=sg s.fz) ⟨fun _ _ e=>(by cases e),fun g t sp c _ hg=>(by simp at hg),fun b hb=>hb⟩ _ _ _ hv kx
 ·have hsz := g3.mod.size
  have hfzs: ∀b,s.fz b->s'.fz b:=g3.le.fz
  refine⟨{s with fz:=s'.fz},Hf.rv (s:=s') (s':={s with fz:=s'.fz}) (fun _ h=>h) _ _ hhf g1,⟨fun i o ho hl=>?_,r1.inj,fun b hb=>?_⟩,⟨⟨⟨fun _ _=>rfl,fun _ _=>rfl,fun _ h=>h,hfzs⟩,fun _ h=>h⟩,fun b hb=>(g3.fz b hb).imp id (Or.imp id fun⟨_,hm,_⟩=>by cases hm),fun b hb=>?_,?_,fun i hi hno=>absurd hi hno⟩,rfl⟩
  ·obtain ⟨a1, a2, a3, a4⟩ := r1.obj i o ho hl
   have a2':=(hH.obj i o ho hl).2.1
   refine⟨a1,a2,?_,RO.mono' (s:=s) (s':={s with fz:=s'.fz}) ⟨fun _ _=>rfl,fun _ _=>rfl,fun _ h=>h,hfzs⟩ (fun _ _=>rfl) a1 a4 (fun _=>rfl)⟩
   rintro(hf|hm)
   ·rcases g3.fz _ hf with hf | hge | ⟨_, hm, _⟩
    ·exact a3 (.inl hf)
    ·dsimp only at hge;omega
    ·cases hm
   ·exact a3 (.inr hm)
  ·exact hb.elim (hlt b) (fun hm=>r1.old b (.inr hm))
  ·exact g3.mod.block b (hH.old b hb) (fun⟨_,hm,_⟩=>by cases hm)
  ·exact⟨g3.mod.os,g3.mod.tape,g3.mod.output,hsz,fun k hk _=>g3.mod.block k hk (fun⟨_,hm,_⟩=>by cases hm)⟩
theorem frameB{gl:T (List V)}{f:Nat}{ars ars':List V}{v:V}{H:T O}{nx:Nat}(h:Ac P gl f ars v)(hv:Be H.get (fun _=>True) (fun _=>none) ars ars')(hg:gnd v=true):Aa P gl (.fn f []) ars' H nx ⟨v,H,nx,[]⟩:=by
 refine Qh6 h fun s w jk kx hH=>⟨fun b=>s.fz b\/∃g t sp c,H.get g=some (.row t sp c)/\b=s.μ g,fun _ h=>.inl h,?_,?_,fun s' w' u g1 g3 r1 hlt=>?_⟩
 ·rintro b (hb | ⟨g, t, sp, c, hg, rfl⟩)
  ·exact hH.old b (.inl hb)
  ·exact(hH.obj _ _ hg rfl).2.1
 ·exact Be.rl hH (s':=sg _) ⟨fun _ _ e=>(by cases e),fun g t sp c _ hg=>.inr ⟨g,t,sp,c,hg,rfl⟩,fun b hb=>.inl hb⟩ _ _ _ hv kx
 ·obtain ⟨_, r2⟩ := hH.below (w' := w') ⟨g3.mod.os, g3.mod.tape, g3.mod.output, g3.mod.size, fun k hk => g3.mod.block k hk (fun ⟨_, hm, _⟩ => by cases hm)⟩
  exact⟨s,Qrz _ _ hg g1,r1,r2,rfl⟩
def Qis(call:Qa6)(qs:List Qa8):Prop:=∀q∈qs,call q.c q.l q.H q.nx=some q.r
theorem Qg2{E:Env}{tm:TM}{H:T O}{nx:Nat}{o:Oper}{r:OR}(h:opR E Es tm H nx o=some r)(call:Qa6):opR E call tm H nx o=some r:=by
 unfold opR at h⊢
 split
 ·rename_i v rd hc;rw[hc]at h;exact h
 ·rename_i hc
  rw[hc]at h
  dsimp only at h
  split
  ·rename_i v ob ha;rw[ha]at h;exact h
  ·rename_i ha
   rw[ha]at h
   dsimp only at h
   split at h
   ·rename_i r' he
    cases h
    have:B7 E call tm H nx o=some r':=by
     unfold B7 at he⊢
     split at he<;>try exact he
     rename_i c hop
     split at he<;>try exact he
     rename_i fo hcal
     split at he
     ·rename_i f l hf hl
      try simp only[hf,hl]
      split at he
      ·rename_i v hv;(try simp only[hv]);exact he
      ·cases he
     ·cases he
    rw[this]
   ·cases h
def Qiv(E:Env)(tm:TM)(H:T O)(nx:Nat)(o:Oper)(qs:List Qa8)(r:OR):Prop:=∀call,Qis call qs->opR E call tm H nx o=some r
theorem Qco{E:Env}{call:Qa6}{tm:TM}{H:T O}{nx:Nat}{o:Oper}{v:V}{rd:List Nat}(h:calm E.G tm H.get o=some (v,rd)):opR E call tm H nx o=some (.calm v rd):=by unfold opR;rw[h]
theorem Qjk{E:Env}{call:Qa6}{tm:TM}{H:T O}{nx:Nat}{o:Oper}{c:Call}{fo:Operand}{g:V}{l:List V}{r:CR}(ho:o.op= .call c)(hc:c.callee= .value fo)(hf:ev tm fo=some g)(hl:evs tm c.args.toList=some l)(hx:C8 E g l=none)(hcall:call g l H nx=some r):opR E call tm H nx o=some (.eff r):=by
 have h1:calm E.G tm H.get o=none:=by unfold calm;rw[ho];simp only[hc]
 have h2:Aw E.G tm nx o=none:=by unfold Aw;rw[ho]
 have h3:B7 E call tm H nx o=some r:=by
  unfold B7;rw[ho];simp only[hc,hf,hl,hx,hcall]
 unfold opR
 rw[h1,h2,h3]
theorem Qma(E:Env)(call:Qa6)(tm:TM)(H:T O)(nx:Nat)(o:Oper):(copL E o).f call tm H nx=opR E call tm H nx o:=by rw[copL_eq,cop_eq,fop_eq]
theorem load_ok{ti:TI}{v:V}{c:List V}{rd:List Nat}{K:OR->Prop}(hl:Qmk ti v c rd K):De ti c=some v/\K (.calm v rd):=by
 rw[<-Qfo]
 unfold Qmk at hl
 unfold E0 aggF
 cases ha:ti.agg with
 |true=>
  rw[ha,cond_true]at hl
  rw[cond_true]
  split at hl
  ·rw[hl.1];exact⟨rfl,hl.2⟩
  ·exact hl.elim
 |false=>rw[ha]at hl;exact hl
theorem lkH_ok{G:Ctx}{H:T O}{t:Nat}{ok:Bool}{es:List (V×V×Nat)}{ck:Nat}{r0:Option (Nat×V)}{K:OR->Prop}{a b:V}(h:lkH G H t ok es ck r0 K a b): ∃v rd,Qgv G H.get t a b ok=some (v,rd)/\K (.calm v rd):=by
 unfold lkH at h
 split at h
 ·rename_i g k n
  split at h
  ·rename_i kt elem _ _ _ _ ht
   split at h
   ·rename_i hkt
    obtain⟨⟨hg,hf⟩,h⟩:=h
    rw[Qa0]at hg
    split at h
    ·refine ⟨_, _, ?_, h⟩
     unfold Qgv;simp only[ht,hkt,hg,hf]
    ·split at h
     ·rename_i z hz
      refine⟨_,_,?_,h⟩
      unfold Qgv;simp only[ht,hkt,hg,hf,hz]
     ·exact h.elim
   ·exact h.elim
  ·exact h.elim
 ·rename_i g xs
  split at h
  ·rename_i kt elem _ _ _ _ ht
   split at h
   ·rename_i ti ks hkt hfl
    split at h
    ·rename_i rs xv
     obtain⟨⟨hg,hf⟩,h⟩:=h
     rw[Qa0]at hg
     split at h
     ·refine ⟨_, _, ?_, h⟩
      unfold Qgv;simp only[ht,hkt,hfl,xv,hg,hf]
     ·split at h
      ·rename_i z hz
       refine⟨_,_,?_,h⟩
       unfold Qgv;simp only[ht,hkt,hfl,xv,hg,hf,hz]
      ·exact h.elim
    ·exact h.elim
   ·exact h.elim
  ·exact h.elim
 ·exact h.elim
theorem upH_ok{G:Ctx}{H:T O}{nx t:Nat}{v:V}{es:List (V×V×Nat)}{ck:Nat}{o':O}{K:OR->Prop}{a b:V}(h:upH G H nx t v es ck o' K a b): ∃H' lg,Dp G H t a b v=some (H',lg)/\K (.eff ⟨.tup [],H',nx,lg⟩):=by
 unfold upH at h
 split at h
 ·rename_i g k n
  split at h
  ·rename_i kt _ _ _ _ _ ht
   cases hi:Ef G kt with
   |false=>rw[hi]at h;exact h.elim
   |true=>
    rw[hi,cond_true,Bl,Qa0]at h
    obtain⟨⟨hg,hp⟩,hk⟩:=h
    refine⟨_,_,?_,hk⟩
    unfold Dp;simp only[ht,hg,hi,hp,cond_true]
  ·exact h.elim
 ·rename_i g xs
  split at h
  ·rename_i kt _ _ _ _ _ ht
   split at h
   ·rename_i ti ks hkt hfl
    split at h
    ·rename_i rs xv
     rw[Bl,Qa0]at h
     obtain⟨⟨hg,hp⟩,hk⟩:=h
     refine⟨_,_,?_,hk⟩
     unfold Dp;simp only[ht,hkt,hfl,hg,xv,hp]
    ·exact h.elim
   ·exact h.elim
  ·exact h.elim
 ·exact h.elim
theorem Qsz(x:V): ∀(xs:List V)(c:List V)(off:Nat),ov (x::c) (off+1) xs=x::ov c off xs
 |[],_,_=>rfl
 |y::xs,c,off=>by
  unfold ov
  rw[List.set_cons_succ,Qsz x xs (c.set off y) (off+1)]
theorem Qol: ∀{c xs:List V},c.length=xs.length->ov c 0 xs=xs
 |[],[],_=>rfl
 |[],_:: _,h=>by simp at h
 | _:: _,[],h=>by simp at h
 |a::c,x::xs,h=>by
  unfold ov
  rw[List.set_cons_zero,Qsz,Qol (by simpa using h)]
theorem enH_ok{H:T O}{nx b:Nat}{k v:V}{K:OR->Prop}{a:V}(h:enH H nx b k v K a):Ev H a=some (.tup [k,v])/\K (.eff ⟨.tup [k,v],H,nx,[]⟩):=by
 cases a<;>try(exact h.elim;done)
 rename_i g off
 unfold enH at h
 dsimp only at h
 cases hb:Nat.beq off 0 with
 |false=>rw[hb]at h;exact h.elim
 | true =>
  rw[hb,cond_true,Qa0]at h
  have:=Nat.eq_of_beq_eq_true hb
  subst this
  unfold enI at h
  split at h
  ·rename_i m since jz last hg
   rw[Qa0]at h
   split at h
   ·rename_i es ck hm
    obtain⟨⟨h1,h2,h3⟩,hk⟩:=h
    refine⟨?_,hk⟩
    unfold Ev
    have:Nat.beq ck last=true:=by rw[h2];simp
    simp only[hg,hm,h1,this,cond_true,h3]
   ·exact h.elim
  ·exact h.elim
section
variable {E:Env} {sp:Qdc} {qs:List Qa8} {tm:TM} {H:T O} {nx:Nat} {o:Oper}
theorem Qt9 {h : C6} {K : List Qa8 -> OR -> Prop} (hq : Bz P tm.gl qs) (hv : Qt8 P E qs h tm H nx o K) : ∃ qs' r, K qs' r /\ Bz P tm.gl qs' /\ (∀ q ∈ qs, q ∈ qs') /\ Qiv E tm H nx o qs' r := by
 have calm1: ∀{v:V}{rd:List Nat},K qs (.calm v rd)->(∀call,opR E call tm H nx o=some (.calm v rd))->∃qs' r,K qs' r/\Bz P tm.gl qs'/\(∀q∈qs,q∈qs')/\Qiv E tm H nx o qs' r:=
  fun hk ho=>⟨qs,_,hk,hq,fun _ h=>h,fun call _=>ho call⟩
 unfold Qt8 at hv
 split at hv
 ·rw [Qma] at hv
  cases hr:opR E Es tm H nx o with
  |none=>rw[hr]at hv;exact hv.elim
  | some r =>
   rw[hr]at hv
   unfold boolH at hv
   split at hv
   ·rename_i e; cases e
    obtain⟨rfl,hk⟩:=hv
    exact calm1 hk (Qg2 hr)
   ·exact hv.elim
 ·rw [Qma] at hv
  cases hr:opR E Es tm H nx o with
  |none=>rw[hr]at hv;exact hv.elim
  | some r =>
   rw[hr]at hv
   unfold numH at hv
   split at hv
   ·rename_i e; cases e
    obtain⟨rfl,hk⟩:=hv
    exact calm1 hk (Qg2 hr)
   ·exact hv.elim
 ·split at hv
  ·rename_i op t x y _ ho
   simp only[A7]at hv
   split at hv
   ·rename_i a b hx hy
    obtain⟨hu,hk⟩:=hv
    exact calm1 hk (fun call=>Qco (by unfold calm;rw[ho];simp only[hx,hy,hu]))
   ·exact hv.elim
  ·rename_i t x l h m ho
   simp only[A7,Qrt]at hv
   split at hv
   ·rename_i a l' h' m' hx h1 h2 h3
    obtain⟨hu,hk⟩:=hv
    exact calm1 hk (fun call=>Qco (by unfold calm;rw[ho];simp only[hx,h1,h2,h3,hu]))
   ·exact hv.elim
  ·rename_i t x i ho
   simp only[A7]at hv
   split at hv
   ·rename_i a k n hx hi
    obtain⟨hu,hk⟩:=hv
    exact calm1 hk (fun call=>Qco (by unfold calm;rw[ho];simp only[hx,hi,hu]))
   ·exact hv.elim
  ·rename_i t x i ho
   simp only[A7]at hv
   split at hv
   ·rename_i a k n hx hi
    obtain⟨hu,hk⟩:=hv
    exact calm1 hk (fun call=>Qco (by unfold calm;rw[ho];simp only[hx,hi,hu]))
   ·exact hv.elim
  ·exact hv.elim
 ·split at hv
  ·rename_i t x i ho
   simp only[A7]at hv
   split at hv
   ·rename_i elem _ _ _ _ a k n ht hx hi
    split at hv
    ·rename_i ti he
     unfold atH at hv
     split at hv
     ·obtain ⟨hn, hk⟩ := hv
      exact calm1 hk (fun call=>Qco (by unfold calm;rw[ho];simp only[hx,hi];unfold Az;simp only[ht,he,if_pos hn]))
     ·obtain ⟨hn, hk⟩ := hv
      exact calm1 hk (fun call=>Qco (by unfold calm;rw[ho];simp only[hx,hi];unfold Az;simp only[ht,he,if_pos hn]))
     ·exact hv.elim
    ·exact hv.elim
   ·exact hv.elim
  ·exact hv.elim
 ·rename_i v
  split at hv
  ·rename_i t x ho
   simp only[A7]at hv
   split at hv
   ·rename_i ti a ht hx
    have ld: ∀{c:List V}{rd:List Nat},Qmk ti v c rd (K qs)->De ti c=some v/\K qs (.calm v rd):=by
     intro c rd hl
     rw[<-Qfo]
     unfold Qmk at hl
     unfold E0 aggF
     cases ha:ti.agg with
     |true=>
      rw[ha,cond_true]at hl
      rw[cond_true]
      split at hl
      ·rw[hl.1];exact⟨rfl,hl.2⟩
      ·exact hl.elim
     |false=>rw[ha]at hl;exact hl
    unfold ldH at hv
    split at hv
    ·obtain ⟨h1, hk⟩ := ld hv
     exact calm1 hk (fun call=>Qco (by unfold calm;rw[ho];simp only[ht,hx,h1]))
    ·rename_i g off
     rw[Qa0]at hv
     split at hv
     ·rename_i hg
      obtain⟨h1,hk⟩:=ld hv
      rw[Qau]at h1
      exact calm1 hk (fun call=>Qco (by unfold calm;rw[ho];simp only[ht,hx,hg,h1]))
     ·exact hv.elim
    ·exact hv.elim
   ·exact hv.elim
  ·exact hv.elim
 ·rename_i c'
  split at hv
  ·rename_i t x y ho
   simp only[A7]at hv
   split at hv
   ·rename_i ti a v ht hx hy
    unfold stH at hv
    split at hv
    ·rename_i g off
     rw[Qa0]at hv
     split at hv
     ·rename_i et sp c hg
      cases hb:(Nat.beq (Au v).length ti.size&&Bp (Au v))with
      |false=>rw[hb]at hv;exact hv.elim
      | true =>
       rw[hb,cond_true,Qmi,Bl]at hv
       obtain⟨h1,hk⟩:=hv
       obtain⟨hb2,h1⟩:=Qar h1
       cases h1
       refine⟨qs,_,hk,hq,fun _ h=>h,fun call _=>?_⟩
       have e1:calm E.G tm H.get o=none:=by unfold calm;rw[ho]
       have e2:Aw E.G tm nx o=none:=by unfold Aw;rw[ho]
       have e3:B7 E call tm H nx o=some ⟨.tup [],H.put g (.row et sp (ov c off (Au v))),nx,[g]⟩:=by
        unfold B7;rw[ho];simp only[C9,ht,hx,hy,hg,hb,hb2,Bool.and_self,cond_true]
       unfold opR
       rw[e1,e2,e3]
     ·exact hv.elim
    ·exact hv.elim
   ·exact hv.elim
  ·exact hv.elim
 ·split at hv
  ·rename_i c ho
   split at hv
   ·rename_i hc
    split at hv
    ·rename_i x y t tx hal htl
     simp only[A7]at hv
     split at hv
     ·rename_i e _ _ _ _ e2 _ _ _ _ a b ht htx hx hy
      split at hv
      ·rename_i sz by_ _ z he
       split at hv
       ·rename_i n jg jn
        cases hb0:(Nat.beq n 0||Nat.beq sz 0)with
        |true=>rw[hb0]at hv;exact hv.elim
        | false =>
         rw[hb0,cond_false]at hv
         rw[Bool.or_eq_false_iff]at hb0
         unfold appH at hv
         split at hv
         ·rename_i g off len
          rw[Qa0]at hv
          split at hv
          ·rename_i et sz' c2 hg
           cases hb:(Nat.beq off 0&&Nat.beq et e&&Nat.beq sz' sz&&Bp jg)with
           |false=>rw[hb]at hv;exact hv.elim
           | true =>
            rw[hb,cond_true,Bl,Bl]at hv
            obtain⟨h1,h2,h3,hk⟩:=hv
            have b1:Nat.beq c2.length (len*sz)=true:=by rw[h1];simp
            have b2:Nat.ble (len+n) 9223372036854775807=true:=Nat.ble_eq_true_of_le h2
            have b3:Nat.ble ((len+n)*by_) 140737488355328=true:=Nat.ble_eq_true_of_le h3
            simp only[Bool.and_eq_true]at hb
            refine⟨qs,_,hk,hq,fun _ h=>h,fun call _=>?_⟩
            have e1:calm E.G tm H.get o=none:=by unfold calm;rw[ho];simp only[hc]
            have e2:Aw E.G tm nx o=none:=by unfold Aw;rw[ho]
            have e3:B7 E call tm H nx o=some ⟨.sl nx 0 (len+n) none,(H.put g .dead).put nx (.row e (some sz) (c2++jg)),nx+1,[g]⟩:=by
             unfold B7;rw[ho];simp only[hc,hal,htl,hx,hy,Cn,ht,htx,he,jn,hb0.1,hb0.2,hg,hb.1.1.1,hb.1.1.2,hb.1.2,hb.2,b1,b2,b3,cond_false,Bool.and_self,cond_true]
            unfold opR
            rw[e1,e2,e3]
          ·exact hv.elim
         ·exact hv.elim
       ·exact hv.elim
      ·exact hv.elim
     ·exact hv.elim
    ·exact hv.elim
   ·exact hv.elim
  ·exact hv.elim
 ·split at hv
  ·rename_i t l c ho
   simp only[A7]at hv
   split at hv
   ·rename_i e _ _ _ _ k l' k' c' ht hl hc
    split at hv
    ·rename_i _ by_ _ z he
     obtain⟨hn,hk⟩:=hv
     refine⟨qs,_,hk,hq,fun _ h=>h,fun call _=>?_⟩
     have e1:calm E.G tm H.get o=none:=by unfold calm;rw[ho]
     have e2:Aw E.G tm nx o=some (.sl nx 0 l'.toNat (some (c'.toNat-l'.toNat)),.row e none (rep c'.toNat z)):=by unfold Aw;rw[ho];simp only[ht,hl,hc,he,if_pos hn]
     unfold opR
     rw[e1,e2]
    ·exact hv.elim
   ·exact hv.elim
  ·exact hv.elim
 ·rename_i r
  split at hv
  ·rename_i c ho
   split at hv
   ·rename_i fo hc
    simp only[A7,Qdj]at hv
    split at hv
    ·rename_i g l hf hl
     split at hv
     ·exact hv.elim
     ·rename_i hx
      obtain⟨h1,h2,hk⟩:=hv
      exact⟨_,_,hk,hq.cons (q:=⟨g,l,H,nx,r⟩) h1 h2,fun _ h=>List.mem_cons_of_mem _ h,fun call hm=>Qjk ho hc hf hl hx (hm _ List.mem_cons_self)⟩
    ·exact hv.elim
   ·exact hv.elim
  ·exact hv.elim
 ·rename_i v
  split at hv
  ·rename_i c ho
   split at hv
   ·rename_i fo hc
    simp only[A7,Qdj]at hv
    split at hv
    ·rename_i f caps l hf hl
     split at hv
     ·exact hv.elim
     ·rename_i hx
      split at hv
      ·rename_i l' p1 hfr
       cases hb:(hfB v&&(Dv (l++caps)||gnd v))with
       |false=>rw[hb]at hv;exact hv.elim
       | true =>
        rw[hb,cond_true]at hv
        obtain⟨h1,hfn,h3,hk⟩:=hv
        rw[Bool.and_eq_true,Bool.or_eq_true]at hb
        have hcs:Aa P tm.gl (.fn f caps) l H nx ⟨v,H,nx,[]⟩:=by
         refine Aa.caps ?_
         rcases hb.2 with hb2|hb2
         ·rw [(Qmg H .e).2 _ hb2] at hfr
          exact Qry hfn (Cd _ l' p1 hfr h1) (Qk0.1 v hb.1)
         ·exact frameB hfn (Cd _ l' p1 hfr h1) hb2
        exact⟨_,_,hk,hq.cons (q:=⟨.fn f caps,l,H,nx,⟨v,H,nx,[]⟩⟩) hcs h3,fun _ h=>List.mem_cons_of_mem _ h,fun call hm=>Qjk ho hc hf hl hx (hm _ List.mem_cons_self)⟩
      ·exact hv.elim
    ·exact hv.elim
   ·exact hv.elim
  ·exact hv.elim
 ·rename_i es ck r0
  split at hv
  ·rename_i t x i ok ho
   simp only[A7]at hv
   split at hv
   ·rename_i a b hx hi
    obtain⟨v,rd,h1,hk⟩:=lkH_ok hv
    exact calm1 hk (fun call=>Qco (by unfold calm;rw[ho];simp only[hx,hi,h1]))
   ·exact hv.elim
  ·exact hv.elim
 ·rename_i es ck o'
  split at hv
  ·rename_i t m k v ho
   simp only[A7]at hv
   split at hv
   ·rename_i a b v hm hk hv'
    obtain⟨H',lg,h1,hK⟩:=upH_ok hv
    refine⟨qs,_,hK,hq,fun _ h=>h,fun call _=>?_⟩
    have e1:calm E.G tm H.get o=none:=by unfold calm;rw[ho]
    have e2:Aw E.G tm nx o=none:=by unfold Aw;rw[ho]
    have e3:B7 E call tm H nx o=some ⟨.tup [],H',nx,lg⟩:=by
     unfold B7;rw[ho];simp only[hm,hk,hv',h1]
    unfold opR
    rw[e1,e2,e3]
   ·exact hv.elim
  ·exact hv.elim
 ·rename_i ob v
  split at hv
  ·rename_i t x ho
   simp only[A7]at hv
   split at hv
   ·rename_i ti a ht hx
    unfold loH at hv
    split at hv
    ·rename_i g off
     split at hv
     ·rename_i et sp c
      obtain⟨hg,hl⟩:=hv
      rw[Qa0]at hg
      obtain⟨h1,hk⟩:=load_ok hl
      rw[Qau]at h1
      exact calm1 hk (fun call=>Qco (by unfold calm;rw[ho];simp only[ht,hx,hg,h1]))
     ·exact hv.elim
    ·exact hv.elim
   ·exact hv.elim
  ·exact hv.elim
 ·rename_i ob c'
  split at hv
  ·rename_i t x y ho
   simp only[A7]at hv
   split at hv
   ·rename_i ti a v ht hx hy
    unfold soH at hv
    split at hv
    ·rename_i g off
     split at hv
     ·rename_i et sp c
      cases hb:(Nat.beq (Au v).length ti.size&&Bp (Au v))with
      |false=>rw[hb]at hv;exact hv.elim
      | true =>
       rw[hb,cond_true,Qmi,Bl,Qa0]at hv
       obtain⟨⟨hg,h1⟩,hk⟩:=hv
       obtain⟨hb2,h1⟩:=Qar h1
       cases h1
       refine⟨qs,_,hk,hq,fun _ h=>h,fun call _=>?_⟩
       have e1:calm E.G tm H.get o=none:=by unfold calm;rw[ho]
       have e2:Aw E.G tm nx o=none:=by unfold Aw;rw[ho]
       have e3:B7 E call tm H nx o=some ⟨.tup [],H.put g (.row et sp (ov c off (Au v))),nx,[g]⟩:=by
        unfold B7;rw[ho];simp only[C9,ht,hx,hy,hg,hb,hb2,Bool.and_self,cond_true]
       unfold opR
       rw[e1,e2,e3]
     ·exact hv.elim
    ·exact hv.elim
   ·exact hv.elim
  ·exact hv.elim
 ·rename_i b k v
  split at hv
  ·rename_i x ho
   simp only[A7]at hv
   split at hv
   ·rename_i a hx
    obtain⟨h1,hk⟩:=enH_ok hv
    refine⟨qs,_,hk,hq,fun _ h=>h,fun call _=>?_⟩
    have e1:calm E.G tm H.get o=none:=by unfold calm;rw[ho]
    have e2:Aw E.G tm nx o=none:=by unfold Aw;rw[ho]
    have e3:B7 E call tm H nx o=some ⟨.tup [k,v],H,nx,[]⟩:=by
     unfold B7;rw[ho];simp only[hx,h1]
    unfold opR
    rw[e1,e2,e3]
   ·exact hv.elim
  ·exact hv.elim
 ·rename_i v
  split at hv
  ·rename_i c ho
   split at hv
   ·rename_i fo hc
    simp only[A7,Qdj]at hv
    split at hv
    ·rename_i f caps l hf hl
     split at hv
     ·exact hv.elim
     ·rename_i hx
      split at hv
      ·rename_i l' p1 hfr
       cases hb:Dv (l++caps)with
       |false=>rw[hb]at hv;exact hv.elim
       | true =>
        rw[hb,cond_true]at hv
        obtain⟨h1,⟨hhv,hfn⟩,h3,hk⟩:=hv
        have hcs:Aa P tm.gl (.fn f caps) l H nx ⟨v,H,nx,[]⟩:=by
         refine Aa.caps ?_
         rw[(Qmg H .e).2 _ hb]at hfr
         exact Qry hfn (Cd _ l' p1 hfr h1) hhv
        exact⟨_,_,hk,hq.cons (q:=⟨.fn f caps,l,H,nx,⟨v,H,nx,[]⟩⟩) hcs h3,fun _ h=>List.mem_cons_of_mem _ h,fun call hm=>Qjk ho hc hf hl hx (hm _ List.mem_cons_self)⟩
      ·exact hv.elim
    ·exact hv.elim
   ·exact hv.elim
  ·exact hv.elim
 ·rename_i n jg
  split at hv
  ·rename_i c ho
   split at hv
   ·rename_i hc
    split at hv
    ·rename_i x y t tx hal htl
     simp only[A7]at hv
     split at hv
     ·rename_i e _ _ _ _ e2 _ _ _ _ h off len r b ht htx hx hy
      split at hv
      ·rename_i sz by_ _ z he
       cases hb0:(Nat.beq sz 0|| !(Nat.beq len 0)|| !(Nat.beq r 0))with
       |true=>rw[hb0]at hv;exact hv.elim
       | false =>
        rw[hb0,cond_false,Bl]at hv
        simp only[Bool.or_eq_false_iff,Bool.not_eq_false']at hb0
        obtain⟨⟨hz,jy⟩,hr0⟩:=hb0
        have jy:=Nat.eq_of_beq_eq_true jy
        have hr0:=Nat.eq_of_beq_eq_true hr0
        subst jy hr0
        obtain⟨⟨jn,hsrc2,h0,h1,h2⟩,hk⟩:=hv
        have b0:Nat.beq n 0=false:=by
         cases hn:Nat.beq n 0 with
         |false=>rfl
         |true=>have:=Nat.eq_of_beq_eq_true hn;omega
        have b1:Nat.ble n 0=false:=by
         cases hn:Nat.ble n 0 with
         |false=>rfl
         |true=>have:=Nat.le_of_ble_eq_true hn;omega
        have b2:Nat.ble n 9223372036854775807=true:=Nat.ble_eq_true_of_le h1
        have b3:Nat.ble (n*by_) 140737488355328=true:=Nat.ble_eq_true_of_le h2
        refine⟨qs,_,hk,hq,fun _ h=>h,fun call _=>?_⟩
        have e1:calm E.G tm H.get o=none:=by unfold calm;rw[ho];simp only[hc]
        have e2:Aw E.G tm nx o=none:=by unfold Aw;rw[ho]
        have e3:B7 E call tm H nx o=some ⟨.sl nx 0 n none,H.put nx (.row e (some sz) jg),nx+1,[]⟩:=by
         unfold B7;rw[ho];simp only[hc,hal,htl,hx,hy,Cn,ht,htx,he,jn,hsrc2,b0,b1,hz,b2,b3,cond_false,Bool.and_self,cond_true,Nat.zero_add,List.nil_append]
        unfold opR
        rw[e1,e2,e3]
      ·exact hv.elim
     ·exact hv.elim
    ·exact hv.elim
   ·exact hv.elim
  ·exact hv.elim
 ·rename_i n jg
  split at hv
  ·rename_i c ho
   split at hv
   ·rename_i hc
    split at hv
    ·rename_i x y t tx hal htl
     simp only[A7]at hv
     split at hv
     ·rename_i e _ _ _ _ e2 _ _ _ _ b ht htx hx hy
      split at hv
      ·rename_i sz by_ _ z he
       cases hb0:(Nat.beq n 0||Nat.beq sz 0)with
       |true=>rw[hb0]at hv;exact hv.elim
       | false =>
        rw[hb0,cond_false,Bl]at hv
        rw[Bool.or_eq_false_iff]at hb0
        obtain⟨⟨jn,h1,h2⟩,hk⟩:=hv
        have b2:Nat.ble n 9223372036854775807=true:=Nat.ble_eq_true_of_le h1
        have b3:Nat.ble (n*by_) 140737488355328=true:=Nat.ble_eq_true_of_le h2
        refine⟨qs,_,hk,hq,fun _ h=>h,fun call _=>?_⟩
        have e1:calm E.G tm H.get o=none:=by unfold calm;rw[ho];simp only[hc]
        have e2:Aw E.G tm nx o=none:=by unfold Aw;rw[ho]
        have e3:B7 E call tm H nx o=some ⟨.sl nx 0 n none,H.put nx (.row e (some sz) jg),nx+1,[]⟩:=by
         unfold B7;rw[ho];simp only[hc,hal,htl,hx,hy,Cn,ht,htx,he,jn,hb0.1,hb0.2,b2,b3,cond_false,Bool.and_self,cond_true]
        unfold opR
        rw[e1,e2,e3]
      ·exact hv.elim
     ·exact hv.elim
    ·exact hv.elim
   ·exact hv.elim
  ·exact hv.elim
 ·split at hv
  ·rename_i t x y ho
   simp only[A7]at hv
   split at hv
   ·rename_i ti a v ht hx hy
    cases a<;>try(exact hv.elim;done)
    rename_i g off
    unfold swH at hv
    dsimp only at hv
    cases hoff:Nat.beq off 0 with
    |false=>rw[hoff]at hv;exact hv.elim
    | true =>
     rw[hoff,cond_true,Qa0]at hv
     simp only[Bl]at hv
     have:=Nat.eq_of_beq_eq_true hoff
     subst this
     split at hv
     ·rename_i et sp c hg
      obtain⟨⟨h1,h2,h3⟩,hk⟩:=hv
      refine⟨qs,_,hk,hq,fun _ h=>h,fun call _=>?_⟩
      have e1:calm E.G tm H.get o=none:=by unfold calm;rw[ho]
      have e2:Aw E.G tm nx o=none:=by unfold Aw;rw[ho]
      have hb:(Nat.beq (Au v).length ti.size&&Bp (Au v))=true:=by rw[h1,h2];simp
      have hb2:Nat.ble (0+(Au v).length) c.length=true:=Nat.ble_eq_true_of_le o_
      have hov:ov c 0 (Au v)=Au v:=Qol o_
      have e3:B7 E call tm H nx o=some ⟨.tup [],H.put g (.row et sp (Au v)),nx,[g]⟩:=by
       unfold B7;rw[ho];simp only[C9,ht,hx,hy,hg,hb,hb2,Bool.and_self,cond_true,hov]
      unfold opR
      rw[e1,e2,e3]
     ·exact hv.elim
   ·exact hv.elim
  ·exact hv.elim
 ·rename_i ob n jg
  split at hv
  ·rename_i c ho
   split at hv
   ·rename_i hc
    split at hv
    ·rename_i x y t tx hal htl
     simp only[A7]at hv
     split at hv
     ·rename_i e _ _ _ _ e2 _ _ _ _ a b ht htx hx hy
      split at hv
      ·rename_i sz by_ _ z he
       obtain⟨jn,hv⟩:=hv
       cases hb0:(Nat.beq n 0||Nat.beq sz 0)with
       |true=>rw[hb0]at hv;exact hv.elim
       | false =>
        rw[hb0,cond_false]at hv
        rw[Bool.or_eq_false_iff]at hb0
        unfold aoH at hv
        split at hv
        ·rename_i g off len
         split at hv
         ·rename_i et sz' c2
          cases hb:(Nat.beq off 0&&Nat.beq et e&&Nat.beq sz' sz&&Bp jg)with
          |false=>rw[hb]at hv;exact hv.elim
          | true =>
           rw[hb,cond_true,Bl,Bl,Qa0]at hv
           obtain⟨hg,h1,h2,h3,hk⟩:=hv
           have b1:Nat.beq c2.length (len*sz)=true:=by rw[h1];simp
           have b2:Nat.ble (len+n) 9223372036854775807=true:=Nat.ble_eq_true_of_le h2
           have b3:Nat.ble ((len+n)*by_) 140737488355328=true:=Nat.ble_eq_true_of_le h3
           simp only[Bool.and_eq_true]at hb
           refine⟨qs,_,hk,hq,fun _ h=>h,fun call _=>?_⟩
           have e1:calm E.G tm H.get o=none:=by unfold calm;rw[ho];simp only[hc]
           have e2:Aw E.G tm nx o=none:=by unfold Aw;rw[ho]
           have e3:B7 E call tm H nx o=some ⟨.sl nx 0 (len+n) none,(H.put g .dead).put nx (.row e (some sz) (c2++jg)),nx+1,[g]⟩:=by
            unfold B7;rw[ho];simp only[hc,hal,htl,hx,hy,Cn,ht,htx,he,jn,hb0.1,hb0.2,hg,hb.1.1.1,hb.1.1.2,hb.1.2,hb.2,b1,b2,b3,cond_false,Bool.and_self,cond_true]
           unfold opR
           rw[e1,e2,e3]
         ·exact hv.elim
        ·exact hv.elim
      ·exact hv.elim
     ·exact hv.elim
    ·exact hv.elim
   ·exact hv.elim
  ·exact hv.elim
 ·rename_i ob n jg
  split at hv
  ·rename_i c ho
   split at hv
   ·rename_i hc
    split at hv
    ·rename_i x y t tx hal htl
     simp only[A7]at hv
     split at hv
     ·rename_i e _ _ _ _ e2 _ _ _ _ a b ht htx hx hy
      split at hv
      ·rename_i sz by_ _ z he
       obtain⟨jn,hv⟩:=hv
       unfold apH at hv
       split at hv
       ·rename_i g off len
        split at hv
        ·rename_i et sz' c2
         cases hb:(Nat.beq off 0&&Nat.beq et e&&Nat.beq sz' sz&& !(Nat.beq sz 0))with
         |false=>rw[hb]at hv;exact hv.elim
         | true =>
          rw[hb,cond_true,Bl,Bl,Qa0]at hv
          obtain⟨⟨hg,h1,h0,h2,h3,hat⟩,hk⟩:=hv
          have b1:Nat.beq c2.length (len*sz)=true:=by rw[h1];simp
          have b2:Nat.ble (len+n) 9223372036854775807=true:=Nat.ble_eq_true_of_le h2
          have b3:Nat.ble ((len+n)*by_) 140737488355328=true:=Nat.ble_eq_true_of_le h3
          have b0:Nat.beq n 0=false:=by
           cases hb0:Nat.beq n 0 with
           |false=>rfl
           |true=>have:=Nat.eq_of_beq_eq_true hb0;omega
          simp only[Bool.and_eq_true,Bool.not_eq_true']at hb
          refine⟨qs,_,hk,hq,fun _ h=>h,fun call _=>?_⟩
          have e1:calm E.G tm H.get o=none:=by unfold calm;rw[ho];simp only[hc]
          have e2:Aw E.G tm nx o=none:=by unfold Aw;rw[ho]
          have e3:B7 E call tm H nx o=some ⟨.sl nx 0 (len+n) none,(H.put g .dead).put nx (.row e (some sz) (c2++jg)),nx+1,[g]⟩:=by
           unfold B7;rw[ho];simp only[hc,hal,htl,hx,hy,Cn,ht,htx,he,jn,b0,hb.2,hg,hb.1.1.1,hb.1.1.2,hb.1.2,hat,b1,b2,b3,cond_false,Bool.and_self,cond_true]
          unfold opR
          rw[e1,e2,e3]
        ·exact hv.elim
       ·exact hv.elim
      ·exact hv.elim
     ·exact hv.elim
    ·exact hv.elim
   ·exact hv.elim
  ·exact hv.elim
 ·exact hv.elim
def Qbx(P:Program)(gl:T (List V))(sp:Qdc):Prop:=∀f l p v,sp f l=some (p,v)->p->Ac P gl f l v
theorem Qt7 (hsp : Qbx P tm.gl sp) {K : List Qa8 -> OR -> Prop} (hq : Bz P tm.gl qs) (hv : vcGo E sp qs tm H nx o K) : ∃ qs' r, K qs' r /\ Bz P tm.gl qs' /\ (∀ q ∈ qs, q ∈ qs') /\ Qiv E tm H nx o qs' r := by
 unfold vcGo at hv
 rw[Qma]at hv
 split at hv
 ·rename_i r hr
  exact⟨qs,r,hv,hq,fun _ h=>h,fun call _=>Qg2 hr call⟩
 ·split at hv
  ·rename_i c ho
   split at hv
   ·rename_i fo hc
    simp only[A7,Qdj]at hv
    split at hv
    ·rename_i g l hf hl
     unfold vcSpec at hv
     split at hv
     ·exact hv.elim
     ·rename_i hx
      split at hv
      ·rename_i f
       split at hv
       ·rename_i l' p1 hfr
        split at hv
        ·rename_i p v hs
         cases hb:(hfB v&&(Dv l||gnd v))with
         |false=>rw[hb]at hv;exact hv.elim
         | true =>
          rw[hb,cond_true]at hv
          obtain⟨h1,h2,h3,hk⟩:=hv
          rw[Bool.and_eq_true,Bool.or_eq_true]at hb
          have hfn:=hsp f l' p v hs h2
          have hcs:Aa P tm.gl (.fn f []) l H nx ⟨v,H,nx,[]⟩:=by
           rcases hb.2 with hb2|hb2
           ·rw [(Qmg H .e).2 l hb2] at hfr
            exact Qry hfn (Cd l l' p1 hfr h1) (Qk0.1 v hb.1)
           ·exact frameB hfn (Cd l l' p1 hfr h1) hb2
          exact⟨_,_,hk,hq.cons (q:=⟨.fn f [],l,H,nx,⟨v,H,nx,[]⟩⟩) hcs h3,fun _ h=>List.mem_cons_of_mem _ h,fun call hm=>Qjk ho hc hf hl hx (hm _ List.mem_cons_self)⟩
        ·exact hv.elim
       ·exact hv.elim
      ·exact hv.elim
    ·exact hv.elim
   ·exact hv.elim
  ·exact hv.elim
theorem Qud(hsp:Qbx P tm.gl sp){hs:Hs}{K:Hs->List Qa8->OR->Prop}(hq:Bz P tm.gl qs)(hv:vcOp P E sp hs qs tm H nx o K): ∃hs' qs' r,K hs' qs' r/\Bz P tm.gl qs'/\(∀q∈qs,q∈qs')/\Qiv E tm H nx o qs' r:=by
 unfold vcOp at hv
 split at hv
 ·rename_i d h hs'
  cases hb:Nat.beq d (key o.dst)with
  |true=>
   rw[hb,cond_true]at hv
   obtain⟨qs',r,h1⟩:=Qt9 hq hv
   exact⟨_,qs',r,h1⟩
  |false=>
   rw[hb,cond_false]at hv
   obtain⟨qs',r,h1⟩:=Qt7 hsp hq hv
   exact⟨_,qs',r,h1⟩
 ·obtain ⟨qs', r, h1⟩ := Qt7 hsp hq hv
  exact⟨_,qs',r,h1⟩
end
section
variable {E:Env} {sp:Qdc} {gl:T (List V)} {ops:Array Oper}
theorem Qd3(hsp:Qbx P gl sp){K:Hs->List Qa8->St->Prop}: ∀(l:List Oper)(hs:Hs)(qs:List Qa8)(st:St),st.tm.gl=gl->Bz P gl qs->Qhs P E sp ops K l hs qs st->
  ∃hs' qs' st',(K hs' qs' st'/\st'.tm.gl=gl)/\Bz P gl qs'/\(∀q∈qs,q∈qs')/\∀call,Qis call qs'->D8 E call ops l st=some st'
 |[],hs,qs,st,hgl,hq,h=>⟨hs,qs,st,⟨h,hgl⟩,hq,fun _ h=>h,fun _ _=>rfl⟩
 | o :: l, hs, qs, ⟨tm, H, nx, lg⟩, hgl, hq, h => by
  unfold Qhs at h
  rw[Qh8]at h
  dsimp only at hgl
  split at h
  ·rename_i hw
   obtain⟨hs1,qs1,r,hk,hq1,kb,hans⟩:=Qud (tm:=tm) (by rw[hgl];exact hsp) (by rw[hgl];exact hq) h
   rw[hgl]at hq1
   cases r with
   |calm v rd=>
    dsimp only at hk
    rw[Qcm]at hk
    obtain⟨hs2,qs2,st2,k1,k2,k3,k4⟩:=Qd3 hsp l hs1 qs1 _ (by rw[Qbm];exact hgl) hq1 hk
    refine⟨hs2,qs2,st2,k1,k2,fun q hq=>k3 q (kb q hq),fun call hm=>?_⟩
    unfold D8
    rw[hw]
    dsimp only
    rw[hans call (fun q hq=>hm q (k3 q hq))]
    exact k4 call hm
   |alloc v ob=>
    dsimp only at hk
    rw[Qcm,Bl]at hk
    obtain⟨hs2,qs2,st2,k1,k2,k3,k4⟩:=Qd3 hsp l hs1 qs1 _ (by rw[Qbm];exact hgl) hq1 hk
    refine⟨hs2,qs2,st2,k1,k2,fun q hq=>k3 q (kb q hq),fun call hm=>?_⟩
    unfold D8
    rw[hw]
    dsimp only
    rw[hans call (fun q hq=>hm q (k3 q hq))]
    exact k4 call hm
   |eff r=>
    dsimp only at hk
    rw[Qcm]at hk
    obtain⟨hs2,qs2,st2,k1,k2,k3,k4⟩:=Qd3 hsp l hs1 qs1 _ (by rw[Qbm];exact hgl) hq1 hk
    refine⟨hs2,qs2,st2,k1,k2,fun q hq=>k3 q (kb q hq),fun call hm=>?_⟩
    unfold D8
    rw[hw]
    dsimp only
    rw[hans call (fun q hq=>hm q (k3 q hq))]
    exact k4 call hm
  ·rename_i hw
   rw[Qcm]at h
   obtain⟨hs2,qs2,st2,k1,k2,k3,k4⟩:=Qd3 hsp l hs qs _ (by rw[Qbm];exact hgl) hq h
   refine⟨hs2,qs2,st2,k1,k2,k3,fun call hm=>?_⟩
   unfold D8
   rw[hw]
   exact k4 call hm
  ·exact h.elim
def kdOf:OR->Kd
 | .calm v rd=>.put v rd
 | .alloc v ob=>.new v ob
 | .eff c=>.eff c
theorem Qjj{E:Env}{call:Qa6}{st:St}{ops:Array Oper}{j:Nat}{o:Oper}(ho:ops[j]? =some o)(hw:B0 st.tm ops o=some true){r:OR}(h:opR E call st.tm st.H st.nx o=some r)(he: ∀c,r= .eff c->Fs o=true):
  Cy E call ops j st=some (kdOf r):=by
 unfold Cy
 rw[ho]
 dsimp only
 rw[hw]
 dsimp only
 unfold opR at h
 cases hc:calm E.G st.tm st.H.get o with
 |some p=>rw[hc]at h;cases h;rfl
 | none =>
  rw[hc]at h
  dsimp only at h⊢
  cases ha:Aw E.G st.tm st.nx o with
  |some p=>rw[ha]at h;cases h;rfl
  |none=>
   rw[ha]at h
   dsimp only at h⊢
   cases hf:B7 E call st.tm st.H st.nx o with
   |some c=>rw[hf]at h;cases h;rw[he c rfl,cond_true];rfl
   |none=>rw[hf]at h;cases h
theorem Qdu(hsp:Qbx P gl sp){bf:Array Nat}{K:Hs->List Qa8->St->Prop}: ∀(l:List Nat)(hs:Hs)(qs:List Qa8)(st:St)(ef:Efs),st.tm.gl=gl->Bz P gl qs->Qhm P E sp ops bf K l hs qs st ef->
  ∃hs' qs' p,(K hs' qs' p.1/\p.1.tm.gl=gl)/\Bz P gl qs'/\(∀q∈qs,q∈qs')/\∀call,Qis call qs'->Cx E call ops bf l (st,ef)=some p
 |[],hs,qs,st,ef,hgl,hq,h=>⟨hs,qs,(st,ef),⟨h,hgl⟩,hq,fun _ h=>h,fun _ _=>rfl⟩
 | j :: l, hs, qs, ⟨tm, H, nx, lg⟩, ef, hgl, hq, h => by
  unfold Qhm at h
  dsimp only at hgl
  split at h
  ·exact h.elim
  ·rename_i o ho
   rw[Qh8]at h
   split at h
   ·rename_i hw
    obtain⟨hs1,qs1,r,hk,hq1,kb,hans⟩:=Qud (tm:=tm) (by rw[hgl];exact hsp) (by rw[hgl];exact hq) h
    rw[hgl]at hq1
    cases r with
    | calm v rd =>
     dsimp only at hk
     cases hb:(ef.all fun q=>(bf.getD j 0).testBit q.1||disj rd q.2)with
     |false=>rw[hb]at hk;exact hk.elim
     |true=>
      rw[hb,cond_true,Qcm]at hk
      obtain⟨hs2,qs2,p,k1,k2,k3,k4⟩:=Qdu hsp l hs1 qs1 _ ef (by rw[Qbm];exact hgl) hq1 hk
      refine⟨hs2,qs2,p,k1,k2,fun q hq=>k3 q (kb q hq),fun call hm=>?_⟩
      unfold Cx Ch
      rw[Qjj (st:=⟨tm,H,nx,lg⟩) ho hw (hans call (fun q hq=>hm q (k3 q hq))) (fun _ e=>by cases e)]
      dsimp only[kdOf]
      rw[hb,cond_true]
      dsimp only
      rw[ho]
      exact k4 call hm
    |alloc v ob=>
     dsimp only at hk
     rw[Qcm,Bl]at hk
     obtain⟨hs2,qs2,p,k1,k2,k3,k4⟩:=Qdu hsp l hs1 qs1 _ ef (by rw[Qbm];exact hgl) hq1 hk
     refine⟨hs2,qs2,p,k1,k2,fun q hq=>k3 q (kb q hq),fun call hm=>?_⟩
     unfold Cx Ch
     rw[Qjj (st:=⟨tm,H,nx,lg⟩) ho hw (hans call (fun q hq=>hm q (k3 q hq))) (fun _ e=>by cases e)]
     dsimp only[kdOf]
     rw[ho]
     exact k4 call hm
    | eff r =>
     dsimp only at hk
     cases hb:Fs o with
     |false=>rw[hb]at hk;exact hk.elim
     |true=>
      rw[hb,cond_true,Qcm]at hk
      obtain⟨hs2,qs2,p,k1,k2,k3,k4⟩:=Qdu hsp l hs1 qs1 _ _ (by rw[Qbm];exact hgl) hq1 hk
      refine⟨hs2,qs2,p,k1,k2,fun q hq=>k3 q (kb q hq),fun call hm=>?_⟩
      unfold Cx Ch
      rw[Qjj (st:=⟨tm,H,nx,lg⟩) ho hw (hans call (fun q hq=>hm q (k3 q hq))) (fun _ _=>hb)]
      dsimp only[kdOf]
      rw[ho]
      exact k4 call hm
   ·rename_i hw
    rw[Qcm]at h
    obtain⟨hs2,qs2,p,k1,k2,k3,k4⟩:=Qdu hsp l hs qs _ ef (by rw[Qbm];exact hgl) hq h
    refine⟨hs2,qs2,p,k1,k2,k3,fun call hm=>?_⟩
    have hkd:Cy E call ops j ⟨tm,H,nx,lg⟩=some (.put (.tup []) []):=by
     unfold Cy
     rw[ho]
     dsimp only
     rw[hw]
    unfold Cx Ch
    rw[hkd]
    dsimp only
    have:(ef.all fun q=>(bf.getD j 0).testBit q.1||disj [] q.2)=true:=by simp[disj]
    rw[this,cond_true]
    dsimp only
    rw[ho]
    exact k4 call hm
   ·exact h.elim
theorem noQ_ok{K:Hs->St->Prop}{hs:Hs}{qs:List Qa8}{st:St}(h:noQ K hs qs st):qs=[]/\K hs st:=by
 unfold noQ at h
 split at h
 ·exact⟨rfl,h⟩
 ·exact h.elim
theorem Qi5{f:V×T O->Option St}{K:St->Prop}: ∀{L:List (V×T O)},(∀p∈L,∃st',f p=some st'/\K st')->∃r,F7 f L=some r/\∀e st',(e,st')∈r->e= .normal/\K st'
 |[],_=>⟨[],rfl,fun _ _ h=>by cases h⟩
 |p::L,h=>by
  obtain⟨st',h1,h2⟩:=h p List.mem_cons_self
  obtain⟨r,h3,h4⟩:=Qi5 (L:=L) (fun q hq=>h q (List.mem_cons_of_mem _ hq))
  refine⟨(.normal,st')::r,by unfold F7;rw[h1,h3],fun e st2 hm=>?_⟩
  rcases List.mem_cons.1 hm with he|hm
  ·cases he;exact⟨rfl,h2⟩
  ·exact h4 e st2 hm
theorem Qil{H:T O}{h m since ck:Nat}{jz:List Nat}{view:Nat->V×V×Nat}: ∀{ids:List Nat}{p:V×T O},p∈Qik H h m since jz ck (ids.map view)->∃a∈ids,p=(.tup [.bool true,(view a).1,(view a).2.1],H.put h (.iter (some m) since (jz++[(view a).2.2]) ck))
 |[],_,hp=>by cases hp
 | a :: ids, p, hp => by
  rw[List.map_cons]at hp
  unfold Qik at hp
  rcases List.mem_cons.1 hp with rfl|hp
  ·exact⟨a,List.mem_cons_self,rfl⟩
  ·obtain ⟨b, h1, h2⟩ := Qil hp
   exact⟨b,List.mem_cons_of_mem _ h1,h2⟩
theorem Quc{it:Operand}{o:Oper}{l:List Oper}{hs:Hs}{st:St}(hsp:Qbx P st.tm.gl sp){K:Hs->St->Prop}(h:Qua P E sp ops it o l hs st K): ∃L,Qso E (tbl []) ops it o l st=some L/\∀e st',(e,st')∈L->e= .normal/\st'.tm.gl=st.tm.gl/\∃hs',K hs' st':=by
 obtain⟨tm,H,nx,lg⟩:=st
 cases hs with
 |nil=>exact h.elim
 | cons p hs' =>
  obtain⟨d,hint⟩:=p
  cases hint<;>try(exact h.elim;done)
  rename_i ids view ha h0
  unfold Qua at h
  dsimp only at h
  rw[A7]at h
  split at h
  ·rename_i g hx
   rw[Qa0]at h
   unfold Qub at h
   split at h
   ·rename_i m since jz last hg
    rw[Qa0]at h
    split at h
    ·rename_i es ck hm
     obtain⟨⟨h1,h2,h3⟩,h4,h5⟩:=h
     have hb:(Cz since es&&Nat.ble since last)=true:=by rw[h1,Nat.ble_eq_true_of_le h2];rfl
     have key: ∀(hs:Hs)(st:St),st.tm.gl=tm.gl->Qhs P E sp ops (noQ K) l hs [] st->∃st',D8 E (tbl []) ops l st=some st'/\st'.tm.gl=tm.gl/\∃hs',K hs' st':=by
      intro hs st hgl hv
      obtain⟨hs',qs,st',k1,k2,_,k4⟩:=Qd3 (gl:=tm.gl) hsp l hs [] st hgl Bz.nil hv
      obtain⟨rfl,hk⟩:=noQ_ok k1.1
      exact⟨st',k4 _ (fun q hq=>by cases hq),k1.2,hs',hk⟩
     unfold Qso
     simp only[hx]
     unfold nextO
     simp only[hg,hm,hb,cond_true,h3]
     cases ids with
     |nil=>
      simp only[List.map_nil]
      refine Qi5 fun p hp=>?_
      obtain rfl:=List.mem_singleton.1 hp
      have:=h4 rfl
      rw[Qcm]at this
      exact key _ _ (Qbm ..) this
     |cons a ids=>
      simp only[List.map_cons]
      refine Qi5 fun p hp=>?_
      obtain⟨b,hb1,rfl⟩:=Qil (ids:=a::ids) (view:=view) (by rw[List.map_cons];exact hp)
      have:=h5 b hb1
      rw[Qcm,Bl]at this
      exact key _ _ (Qbm ..) this
    ·exact h.elim
   ·exact h.elim
  ·exact h.elim
theorem Qm5(hE:E.Ok P)(hm:P.follows .mixedOrders=true){rd:Option Nat}{nx0 id:Nat}{draw:Bool}{hs:Hs}{st:St}(hsp:Qbx P st.tm.gl sp){K:Hs->St->Prop}(h:Qj4 P E sp ops draw hs st K):Sat P rd nx0 (.region id ops draw) st (fun e st'=>e= .normal/\st'.tm.gl=st.tm.gl/\∃hs',K hs' st'):=by
 have fin: ∀{qs:List Qa8}{st':St},Bz P st.tm.gl qs->Qe9 E (tbl qs) ops draw st=some [(.normal,st')]->(st'.tm.gl=st.tm.gl/\∃hs',K hs' st')->Sat P rd nx0 (.region id ops draw) st (fun e st'=>e= .normal/\st'.tm.gl=st.tm.gl/\∃hs',K hs' st'):=by
  intro qs st' hq hr hk
  refine Sat.region hE hm hq.call hq.log hr ?_
  intro e st'' kj
  rw[List.mem_singleton]at kj
  cases kj
  exact⟨rfl,hk⟩
 unfold Qj4 at h
 cases draw with
 | true =>
  rw[cond_true]at h
  cases hb:regOk ops with
  |false=>rw[hb]at h;exact h.elim
  |true=>
   rw[hb,cond_true]at h
   obtain⟨hs',qs,p,k1,k2,_,k4⟩:=Qdu hsp _ hs [] st [] rfl Bz.nil h
   refine fin (st':=p.1) k2 ?_ ⟨k1.2,hs',k1.1⟩
   unfold Qe9
   rw[cond_true]
   unfold drawR
   rw[hb,cond_true,k4 _ k2.meets]
   rfl
 | false =>
  rw[cond_false]at h
  split at h
  ·rename_i it o l hf
   obtain⟨L,h1,h2⟩:=Quc hsp h
   refine Sat.region hE hm (Bz.nil (P:=P) (gl:=st.tm.gl)).call (Bz.nil (P:=P) (gl:=st.tm.gl)).log (L:=L) ?_ h2
   unfold Qe9
   rw[cond_false,hf]
   exact h1
  ·rename_i hf
   obtain⟨hs',qs,st',k1,k2,_,k4⟩:=Qd3 hsp _ hs [] st rfl Bz.nil h
   refine fin (st':=st') k2 ?_ ⟨k1.2,hs',k1.1⟩
   unfold Qe9
   rw[cond_false,hf,k4 _ k2.meets]
   rfl
end
variable {P:Program}
def renB(nx0:Nat)(r:List Nat)(h g:Nat):Bool:=match rho nx0 r h with|some g'=>Nat.beq g' g|none=>false
noncomputable def frzW(H:T O)(off:Nat)(l:List V)(g:Nat):Prop:=
 match gt H g with
 |some (.row _ _ c)=>l=Aj off c/\HfL (Aj off c)
 | _=>False
def roomP:Option Nat->Option Nat->Prop
 |none,none=>True
 |some a,some b=>a=b
 | _,_=>False
theorem Qos{a b:Option Nat}(h:roomP a b):a=b:=by
 cases a<;>cases b<;>first|rfl|(exact h.elim;done)|exact congrArg some h
mutual
noncomputable def vw(nx0:Nat)(r:List Nat)(ok:Bool)(H:T O):V->V->Prop
 | .bool a,.bool b=>a=b
 | .int k a,.int k' b=>bif decide (k=k')then a=b else False
 | .str a,.str b=>a=b
 | .nilp,.nilp=>True
 | .nilf,.nilf=>True
 | .nili,.nili=>True
 | .nils,.nils=>True
 | .nilm,.nilm=>True
 | .ptr h off,.ptr g off'=>bif renB nx0 r h g then off=off' else False
 | .sl h off len room,.sl g off' len' room'=>bif renB nx0 r h g then off=off'/\len=len'/\roomP room room' else False
 | .mp h,.mp g=>bif renB nx0 r h g then True else False
 | .yld h,.yld g=>bif renB nx0 r h g then True else False
 | .fn f l,.fn f' l'=>bif Nat.beq f f' then vwL nx0 r ok H l l' else False
 | .agg l,.agg l'=>vwL nx0 r ok H l l'
 | .tup l,.tup l'=>vwL nx0 r ok H l l'
 | .ifc t x,.ifc t' x'=>bif Nat.beq t t' then vw nx0 r ok H x x' else False
 | .im n l,.im n' l'=>n=n'/\l=l'
 | .im n _,.nils=>n=0
 | .im n l,.sl g off len _=>bif ok&&Nat.ble nx0 g&& !r.contains g then n=len/\frzW H off l g else False
 | .imp l,.imp l'=>l=l'
 | .imp l,.ptr g off=>bif ok&&Nat.ble nx0 g&& !r.contains g then frzW H off l g else False
 | _,_=>False
noncomputable def vwL(nx0:Nat)(r:List Nat)(ok:Bool)(H:T O):List V->List V->Prop
 |[],[]=>True
 |x::xs,y::ys=>vw nx0 r ok H x y/\vwL nx0 r ok H xs ys
 | _,_=>False
end
theorem Qg7{nx0:Nat}{r:List Nat}{h g:Nat}(hb:renB nx0 r h g=true):rho nx0 r h=some g:=by
 unfold renB at hb
 split at hb
 ·rename_i g' e;rw[e,Nat.eq_of_beq_eq_true hb]
 ·cases hb
theorem Qak{b:Bool}{p:Prop}(h:bif b then p else False):b=true/\p:=by
 cases b with
 |false=>exact h.elim
 |true=>exact⟨rfl,h⟩
theorem fr_of{nx0:Nat}{r lg:List Nat}{ok:Bool}(hok:ok=true->∀h∈lg,nx0<=h){g:Nat}(h:(ok&&Nat.ble nx0 g&& !r.contains g)=true):Fr nx0 r lg g:=by
 simp only[Bool.and_eq_true,Bool.not_eq_true']at h
 refine⟨Nat.le_of_ble_eq_true h.1.2,fun hm=>?_,hok h.1.1⟩
 have:=h.2
 simp[hm]at this
mutual
theorem Qm7{nx0:Nat}{r lg:List Nat}{ok:Bool}{H:T O}(hok:ok=true->∀h∈lg,nx0<=h): ∀(x y:V),vw nx0 r ok H x y->Ca H.get (Fr nx0 r lg) (rho nx0 r) x y
 | .bool a,y,h=>by cases y<;>first|(exact h.elim;done)|(cases h;rfl)
 | .int k a,y,h=>by
  cases y<;>try(exact h.elim;done)
  obtain⟨h1,h2⟩:=Qak h
  have:=of_decide_eq_true h1
  subst this;cases h2;rfl
 | .str a,y,h=>by cases y<;>first|(exact h.elim;done)|(cases h;rfl)
 | .nilp,y,h=>by cases y<;>first|(exact h.elim;done)|rfl
 | .nilf,y,h=>by cases y<;>first|(exact h.elim;done)|rfl
 | .nili,y,h=>by cases y<;>first|(exact h.elim;done)|rfl
 | .nils,y,h=>by cases y<;>first|(exact h.elim;done)|rfl
 | .nilm,y,h=>by cases y<;>first|(exact h.elim;done)|rfl
 | .ptr i off,y,h=>by
  cases y<;>try(exact h.elim;done)
  obtain⟨h1,rfl⟩:=Qak h
  exact⟨_,Qg7 h1,rfl⟩
 | .sl i off len room,y,h=>by
  cases y<;>try(exact h.elim;done)
  obtain⟨h1,rfl,rfl,h2⟩:=Qak h
  have:=Qos h2
  subst this
  exact⟨_,Qg7 h1,rfl⟩
 | .mp i,y,h=>by
  cases y<;>try(exact h.elim;done)
  obtain⟨h1,_⟩:=Qak h
  exact⟨_,Qg7 h1,rfl⟩
 | .yld i,y,h=>by
  cases y<;>try(exact h.elim;done)
  obtain⟨h1,_⟩:=Qak h
  exact⟨_,Qg7 h1,rfl⟩
 | .fn f l,y,h=>by
  cases y<;>try(exact h.elim;done)
  obtain⟨h1,h2⟩:=Qak h
  have:=Nat.eq_of_beq_eq_true h1
  subst this
  exact⟨_,rfl,Qew hok _ _ h2⟩
 | .agg l,y,h=>by
  cases y<;>try(exact h.elim;done)
  exact⟨_,rfl,Qew hok _ _ h⟩
 | .tup l,y,h=>by
  cases y<;>try(exact h.elim;done)
  exact⟨_,rfl,Qew hok _ _ h⟩
 | .ifc t x,y,h=>by
  cases y<;>try(exact h.elim;done)
  obtain⟨h1,h2⟩:=Qak h
  have:=Nat.eq_of_beq_eq_true h1
  subst this
  exact⟨_,rfl,Qm7 hok x _ h2⟩
 | .im n l, y, h => by
  cases y<;>try(exact h.elim;done)
  ·exact .inr (.inl ⟨rfl,h⟩)
  ·obtain ⟨h1, h2, h3⟩ := Qak h
   unfold frzW at h3
   rw[Qa0]at h3
   split at h3
   ·rename_i hg
    obtain⟨rfl,h4⟩:=h3
    subst h2
    rw[Qau]at h4⊢
    exact .inr (.inr ⟨_,_,_,_,_,_,rfl,fr_of hok h1,hg,Ci.of_hf _ h4⟩)
   ·exact h3.elim
  ·obtain⟨rfl,rfl⟩:=h;exact .inl rfl
 | .imp l, y, h => by
  cases y<;>try(exact h.elim;done)
  ·obtain ⟨h1, h3⟩ := Qak h
   unfold frzW at h3
   rw[Qa0]at h3
   split at h3
   ·rename_i hg
    obtain⟨rfl,h4⟩:=h3
    rw[Qau]at h4⊢
    exact .inr ⟨_,_,_,_,_,rfl,fr_of hok h1,hg,Ci.of_hf _ h4⟩
   ·exact h3.elim
  ·cases h;exact .inl rfl
theorem Qew{nx0:Nat}{r lg:List Nat}{ok:Bool}{H:T O}(hok:ok=true->∀h∈lg,nx0<=h): ∀(l m:List V),vwL nx0 r ok H l m->Be H.get (Fr nx0 r lg) (rho nx0 r) l m
 |[],m,h=>by cases m with
  |nil=>rfl
  |cons _ _=>exact h.elim
 |x::xs,m,h=>by cases m with
  |nil=>exact h.elim
  |cons y ys=>exact⟨y,ys,rfl,Qm7 hok x y h.1,Qew hok xs ys h.2⟩
end
def beqON:Option Nat->Option Nat->Bool
 |none,none=>true
 |some a,some b=>Nat.beq a b
 | _,_=>false
theorem Qnj{a b:Option Nat}(h:beqON a b=true):a=b:=by
 cases a<;>cases b<;>first|rfl|(cases h;done)|(rw[Nat.eq_of_beq_eq_true h])
def HfE:List (V×V×Nat)->Prop
 |[]=>True
 |(k,v,_)::es=>Hf k/\Hf v/\HfE es
theorem Dr.of_hf{H:Nat->Option O}{F:Nat->Prop}{ρ:Nat->Option Nat}: ∀(l:List (V×V×Nat)),HfE l->Dr H F ρ l l
 |[],_=>rfl
 |(k,v,n)::es,h=>⟨k,v,es,rfl,Ca.of_hf k h.1,Ca.of_hf v h.2.1,Dr.of_hf es h.2.2⟩
mutual
theorem Ca.of_sc{H:Nat->Option O}{F:Nat->Prop}{nx0:Nat}{r:List Nat}: ∀(x:V),Sc (fun h=>h<nx0) x->Ca H F (rho nx0 r) x x
 | .bool _,_| .int _ _,_| .str _,_| .nilp,_| .nilf,_| .nili,_| .nils,_| .nilm,_=>rfl
 | .im _ _,_=>.inl rfl
 | .imp _,_=>.inl rfl
 | .ptr _ _,h=>⟨_,Qha h,rfl⟩
 | .sl _ _ _ _,h=>⟨_,Qha h,rfl⟩
 | .mp _,h=>⟨_,Qha h,rfl⟩
 | .yld _,h=>⟨_,Qha h,rfl⟩
 | .fn _ l,h=>⟨l,rfl,Be.of_sc l h⟩
 | .agg l,h=>⟨l,rfl,Be.of_sc l h⟩
 | .tup l,h=>⟨l,rfl,Be.of_sc l h⟩
 | .ifc _ x,h=>⟨x,rfl,Ca.of_sc x h⟩
theorem Be.of_sc{H:Nat->Option O}{F:Nat->Prop}{nx0:Nat}{r:List Nat}: ∀(l:List V),ScL (fun h=>h<nx0) l->Be H F (rho nx0 r) l l
 |[],_=>rfl
 |x::xs,h=>⟨x,xs,rfl,Ca.of_sc x h.1,Be.of_sc xs h.2⟩
end
def Bs(nx0:Nat)(tm:TM):Prop:=∀i x,tm.sl.get i=some x->Sc (fun h=>h<nx0) x
noncomputable def vwO(nx0:Nat)(r lg:List Nat)(ok:Bool)(H:T O)(md:Nat):O->O->Prop
 | .row t sp c,.row t' sp' c'=>bif Nat.beq t t'&&beqON sp sp' then(match md with
  |0=>c=c'/\HfL c
  |1=>vwL nx0 r ok H c c'
  | _=>Be H.get (Fr nx0 r lg) (rho nx0 r) c c')else False
 | .map es ck,.map es' ck'=>es=es'/\HfE es/\ck=ck'
 | .iter (some i) since jz last,.iter (some g) since' seen' last'=>bif renB nx0 r i g then since=since'/\jz=seen'/\last=last' else False
 | .dead,_=>True
 | .loop ls pd fn tm ps asg bd,y=>y= .loop ls pd fn tm ps asg bd/\Bs nx0 tm
 | _,_=>False
theorem Gg{nx0:Nat}{r lg:List Nat}{ok:Bool}{H:T O}(hok:ok=true->∀h∈lg,nx0<=h){md:Nat}{o y:O}(h:vwO nx0 r lg ok H md o y):Ej H.get (Fr nx0 r lg) (rho nx0 r) o y:=by
 cases o with
 |row t sp c=>
  cases y<;>try(exact h.elim;done)
  obtain⟨h1,h2⟩:=Qak h
  rw[Bool.and_eq_true]at h1
  have e1:=Nat.eq_of_beq_eq_true h1.1
  have e2:=Qnj h1.2
  subst e1 e2
  refine⟨_,rfl,?_⟩
  split at h2
  ·obtain⟨rfl,h3⟩:=h2;exact Be.of_hf _ h3
  ·exact Qew hok _ _ h2
  ·exact h2
 |map es ck=>
  cases y<;>try(exact h.elim;done)
  obtain⟨rfl,h1,rfl⟩:=h
  exact⟨_,rfl,Dr.of_hf _ h1⟩
 |dead=>trivial
 |iter m since jz last=>
  cases m<;>cases y<;>try(exact h.elim;done)
  rename_i i m' _ _ _
  cases m'<;>try(exact h.elim;done)
  obtain⟨h1,rfl,rfl,rfl⟩:=Qak h
  exact⟨_,rfl,_,Qg7 h1,rfl⟩
 |loop ls pd fn tm ps asg bd=>obtain⟨rfl,hl⟩:=h;exact⟨rfl,fun i x hx=>Ca.of_sc x (hl i x hx)⟩
noncomputable def slotsP(nx0:Nat)(r:List Nat)(ok:Bool)(st:St):List (Nat×V)->Prop
 |[]=>True
 |(i,x)::l=>(match gt st.tm.sl i with|some y=>vw nx0 r ok st.H x y|none=>False)/\slotsP nx0 r ok st l
noncomputable def objsP(nx0:Nat)(r lg:List Nat)(ok:Bool)(H:T O):Nat->List O->List Nat->Prop
 | _,[],_=>True
 | i, o :: os, md => (match o with
  | .dead=>True
  | o => match rho nx0 r i with
   |some g=>match gt H g with
    |some y=>vwO nx0 r lg ok H (md.headD 0) o y
    |none=>False
   |none=>False)/\objsP nx0 r lg ok H (i+1) os md.tail
def gcB(nx0 nx:Nat)(r lg lg':List Nat)(len:Nat):Bool:=
 Nat.beq len (nx0+r.length)&&r.all (fun g=>Nat.ble nx0 g&&Nat.blt g nx)&&Qeq r&&lg.all (fun h=>Nat.ble nx0 h||lg'.contains h)
noncomputable def gcP(nx0:Nat)(r:List Nat)(st:St)(S:SL):Prop:=
 bif gcB nx0 st.nx r st.lg S.lg S.os.length then slotsP nx0 r (st.lg.all (Nat.ble nx0 ·)) st S.sl/\objsP nx0 r st.lg (st.lg.all (Nat.ble nx0 ·)) st.H 0 S.os S.md else False
theorem Cr: ∀(l:List (Nat×V))(t:T V)(i:Nat)(x:V),(En t l).get i=some x->(i,x)∈l\/t.get i=some x
 |[],_,_,_,h=>.inr h
 | (j, y) :: l, t, i, x, h => by
  unfold En at h
  rcases Cr l _ i x h with k|k
  ·exact .inl (List.mem_cons_of_mem _ k)
  ·rw [Bl, T.get_put] at k
   split at k
   ·rename_i e;subst e;cases k;exact .inl List.mem_cons_self
   ·exact .inr k
theorem Cs: ∀(os:List O)(t:T O)(k i:Nat)(o:O),(Ae t k os).get i=some o->(k<=i/\os[i-k]? =some o)\/t.get i=some o
 |[],_,_,_,_,h=>.inr h
 | x :: os, t, k, i, o, h => by
  unfold Ae at h
  rcases Cs os _ (k+1) i o h with⟨h1,h2⟩|q
  ·refine .inl ⟨by omega, ?_⟩
   rw[show i-k=(i-(k+1))+1 by omega,List.getElem?_cons_succ]
   exact h2
  ·rw [Bl, T.get_put] at q
   split at q
   ·rename_i e;subst e;exact .inl ⟨Nat.le_refl _,by simpa using q⟩
   ·exact .inr q
theorem Qii{nx0:Nat}{r:List Nat}{ok:Bool}{st:St}: ∀{l:List (Nat×V)},slotsP nx0 r ok st l->∀p∈l,∃y,st.tm.sl.get p.1=some y/\vw nx0 r ok st.H p.2 y
 |[],_,_,h=>by cases h
 | (i, x) :: l, h, p, hp => by
  rcases List.mem_cons.1 hp with rfl|hp
  ·have := h.1
   rw[Qa0]at this
   split at this
   ·rename_i y hy;exact⟨y,hy,this⟩
   ·exact this.elim
  ·exact Qii h.2 p hp
theorem Qlh{nx0:Nat}{r lg:List Nat}{ok:Bool}{H:T O}: ∀{os:List O}{k:Nat}{md:List Nat},objsP nx0 r lg ok H k os md->∀(j:Nat)(o:O),os[j]? =some o->o.live=true->∃g y m,rho nx0 r (k+j)=some g/\H.get g=some y/\vwO nx0 r lg ok H m o y
 |[],_,_,_,_,_,h,_=>by simp at h
 | x :: os, k, md, h, 0, o, hj, hl => by
  obtain rfl:x=o:=by simpa using hj
  have h1:=h.1
  cases x<;>first|(cases hl;done)|skip
  all_goals
   dsimp only at h1
   split at h1
   ·rename_i g hg
    rw[Qa0]at h1
    split at h1
    ·rename_i y hy;exact⟨g,y,_,hg,hy,h1⟩
    ·exact h1.elim
   ·exact h1.elim
 |x::os,k,md,h,j+1,o,hj,hl=>by
  obtain⟨g,y,m,h1,h2,h3⟩:=Qlh h.2 j o (by simpa using hj) hl
  exact⟨g,y,m,by rw[show k+(j+1)=k+1+j by omega];exact h1,h2,h3⟩
theorem Qfh: ∀{l:List Nat},Qeq l=true->l.Nodup
 |[],_=>List.nodup_nil
 |x::l,h=>by
  unfold Qeq at h
  rw[Bool.and_eq_true]at h
  refine List.nodup_cons.2 ⟨fun hm=>?_,Qfh h.2⟩
  have:=h.1
  simp[hm]at this
theorem Qd7{nx0:Nat}{r:List Nat}{st:St}{S:SL}(h:gcP nx0 r st S):Gc nx0 r st (Ah st.tm.gl st.tm.n S):=by
 obtain⟨hb,h1,h2⟩:=Qak h
 unfold gcB at hb
 simp only[Bool.and_eq_true]at hb
 obtain⟨⟨⟨b1,b2⟩,b3⟩,b4⟩:=hb
 have hok:st.lg.all (Nat.ble nx0 ·)=true->∀h∈st.lg,nx0<=h:=fun e h hm=>Nat.le_of_ble_eq_true (List.all_eq_true.1 e h hm)
 refine⟨Nat.eq_of_beq_eq_true b1,fun g hg=>?_,Qfh b3,rfl,rfl,fun i x hx=>?_,fun i o ho hl=>?_,fun i hi hlt=>?_⟩
 ·have := List.all_eq_true.1 b2 g hg
  rw[Bool.and_eq_true]at this
  exact⟨Nat.le_of_ble_eq_true this.1,Nat.le_of_ble_eq_true this.2⟩
 ·rcases Cr _ _ _ _ hx with hm | hm
  ·obtain ⟨y, hy, hv⟩ := Qii h1 _ hm
   exact⟨y,hy,Qm7 hok _ _ hv⟩
  ·rw[Qbz]at hm;cases hm
 ·rcases Cs _ _ _ _ _ ho with ⟨_, hm⟩ | hm
  ·obtain ⟨g, y, m, k1, k2, k3⟩ := Qlh h2 _ o hm hl
   exact⟨g,y,by simpa using k1,k2,Gg hok k3⟩
  ·simp at hm
 ·have := List.all_eq_true.1 b4 i hi
  rw[Bool.or_eq_true]at this
  rcases this with h|h
  ·have:=Nat.le_of_ble_eq_true h;omega
  ·exact List.contains_iff_mem.1 h
noncomputable def A4(gl:T (List V))(n:Nat)(sl:List (Nat×V))(H:T O)(nx:Nat)(lg:List Nat):St:=⟨⟨En (Qdg n) sl,gl,n⟩,H,nx,lg⟩
noncomputable def Ce(tm:TM):List (Nat×V)->Prop
 |[]=>True
 |(i,x)::l=>(match gt tm.sl i with|some y=>y=x|none=>False)/\Ce tm l
theorem Qij{tm:TM}: ∀{l:List (Nat×V)},Ce tm l->∀p∈l,tm.sl.get p.1=some p.2
 |[],_,_,h=>by cases h
 | (i, x) :: l, h, p, hp => by
  rcases List.mem_cons.1 hp with rfl|hp
  ·have := h.1
   rw[Qa0]at this
   split at this
   ·rename_i y hy;rw[hy,this]
   ·exact this.elim
  ·exact Qij h.2 p hp
theorem Ats.fewer{B nx0:Nat}{s0 s:Sig}{w0 w:World}{st:St}{a:Act}{sl:List (Nat×V)}(A:Ats B s0 w0 nx0 st s w a)(h:Ce st.tm sl):Ats B s0 w0 nx0 (A4 st.tm.gl st.tm.n sl st.H st.nx st.lg) s w a:=by
 refine⟨⟨A.rel.rh,⟨A.rel.rt.1,fun i x hx=>?_,A.rel.rt.2.2⟩,A.rel.nx,A.rel.df⟩,A.step,A.dom,A.le⟩
 rcases Cr _ _ _ _ hx with hm|hm
 ·exact A.rel.rt.2.1 i x (Qij h _ hm)
 ·rw[Qbz]at hm;cases hm
theorem Sat.fewer{rd:Option Nat}{nx0:Nat}{c:Code}{st:St}{R:Ex->St->Prop}{sl:List (Nat×V)}(h:Ce st.tm sl)(k:Sat P rd nx0 c (A4 st.tm.gl st.tm.n sl st.H st.nx st.lg) R):Sat P rd nx0 c st R:=
 fun B s0 w0 s w a hn hB hrd A Q hQ=>k B s0 w0 s w a hn hB hrd (A.fewer h) Q hQ
theorem Sat.fewer_post{rd:Option Nat}{nx0:Nat}{c:Code}{st:St}{R:Ex->St->Prop}(h:Sat P rd nx0 c st (fun e st1=>∃sl,Ce st1.tm sl/\R e (A4 st1.tm.gl st1.tm.n sl st1.H st1.nx st1.lg))):Sat P rd nx0 c st R:=
 fun B s0 w0 s w a hn hB hrd A Q hQ=>h B s0 w0 s w a hn hB hrd A Q (fun e _⟨_,hs,hR⟩ s' w' a' A'=>hQ e _ hR s' w' a' (A'.fewer hs))
def Qlj(gl:T (List V))(n:Nat)(H:T O)(nx:Nat)(lg:List Nat):List (Prop×Ex×List (Nat×V))->Ex->St->Prop
 |[],_,_=>False
 |(p,e',sl)::l,e,st=>(p/\e=e'/\st=A4 gl n sl H nx lg)\/Qlj gl n H nx lg l e st
def Qcd(gl:T (List V))(n:Nat)(e:Ex)(sl':Nat->List (Nat×V))(Q:Nat->T O->Nat->List Nat->Prop):Ex->St->Prop:=fun e' st=>∃h H nx lg,e'=e/\st=A4 gl n (sl' h) H nx lg/\Q h H nx lg
def Qaf(gl:T (List V))(n:Nat):List (Prop×Ex×SL)->Ex->St->Prop
 |[],_,_=>False
 |(p,e',S)::l,e,st=>(p/\e=e'/\st=Ah gl n S)\/Qaf gl n l e st
section
variable (P:Program) (E:Env) (sp:Qdc) (rd:Option Nat) (nx0:Nat)
abbrev KF:=Ex->Hs->St->Prop
abbrev VcF:=Code->Hs->St->KF->Prop
noncomputable def kSeq(ex:VcF)(b:Code)(K:KF):KF:=fun e hs st=>match e with
 | .normal=>ex b hs st K
 | .exit i=>K (.exit i) hs st
 | .ret=>K .ret hs st
noncomputable def Qr7(id:Nat)(K:KF):KF:=fun e hs st=>match e with
 | .exit i=>bif Nat.beq i id then K .normal hs st else K (.exit i) hs st
 | .normal=>K .normal hs st
 | .ret=>K .ret hs st
noncomputable def Qpt(gl:T (List V))(n:Nat)(hs:Hs)(K:KF):List (Prop×Ex×SL)->Prop
 |[]=>True
 |(p,e,S)::l=>(p->K e hs (Ah gl n S))/\Qpt gl n hs K l
noncomputable def Qsy(gl:T (List V))(n:Nat)(H:T O)(nx:Nat)(lg:List Nat)(hs:Hs)(K:KF):List (Prop×Ex×List (Nat×V))->Prop
 |[]=>True
 |(p,e,sl)::l=>(p->K e hs (A4 gl n sl H nx lg))/\Qsy gl n H nx lg hs K l
noncomputable def vcU(ex:VcF)(b:Code)(K:KF)(n:Nat):Hs->St->Prop:=Nat.rec (motive:=fun _=>Hs->St->Prop) (fun _ _=>False) (fun _ ih hs st=>ex b hs st (fun e hs st=>match e with
 | .normal=>ih hs st
 | .exit i=>K (.exit i) hs st
 | .ret=>K .ret hs st)) n
noncomputable def vcLoop(ex:VcF)(b:Code)(hs:Hs)(st:St)(K:KF):Prop:=match hs with
 |(_,.loop r S kz)::hs'=>gcP nx0 r st S/\Sat P rd nx0 (.loop b) (Ah st.tm.gl st.tm.n S) (Qaf st.tm.gl st.tm.n kz)/\Qpt st.tm.gl st.tm.n hs' K kz
 |(_,.unroll n)::hs'=>vcU ex b K n hs' st
 |(_,.loopF sl kz)::hs'=>Ce st.tm sl/\Sat P rd nx0 (.loop b) (A4 st.tm.gl st.tm.n sl st.H st.nx st.lg) (Qlj st.tm.gl st.tm.n st.H st.nx st.lg kz)/\Qsy st.tm.gl st.tm.n st.H st.nx st.lg hs' K kz
 |(_,.loopM sl e sl' Q jq):: _=>Ce st.tm sl/\Sat P rd nx0 (.loop b) (A4 st.tm.gl st.tm.n sl st.H st.nx st.lg) (Qcd st.tm.gl st.tm.n e sl' Q)/\∀(h:Nat)(H:T O)(nx:Nat)(lg:List Nat),Q h H nx lg->K e (jq h H nx lg) (A4 st.tm.gl st.tm.n (sl' h) H nx lg)
 |(_,.loopK sl kz)::hs'=>Ce st.tm sl/\Sat P rd nx0 (.loop b) (A4 st.tm.gl st.tm.n sl st.H st.nx st.lg) (Qaf st.tm.gl st.tm.n kz)/\Qpt st.tm.gl st.tm.n hs' K kz
 | _=>False
noncomputable def vcRF(c:Code)(hs:Hs)(st:St)(K:KF):Prop:=match hs with
 |(_,.loop r S kz)::hs'=>gcP nx0 r st S/\Sat P rd nx0 c (Ah st.tm.gl st.tm.n S) (Qaf st.tm.gl st.tm.n kz)/\Qpt st.tm.gl st.tm.n hs' K kz
 |(_,.loopM sl e sl' Q jq):: _=>Ce st.tm sl/\Sat P rd nx0 c (A4 st.tm.gl st.tm.n sl st.H st.nx st.lg) (Qcd st.tm.gl st.tm.n e sl' Q)/\∀(h:Nat)(H:T O)(nx:Nat)(lg:List Nat),Q h H nx lg->K e (jq h H nx lg) (A4 st.tm.gl st.tm.n (sl' h) H nx lg)
 |(_,.loopK sl kz)::hs'=>Ce st.tm sl/\Sat P rd nx0 c (A4 st.tm.gl st.tm.n sl st.H st.nx st.lg) (Qaf st.tm.gl st.tm.n kz)/\Qpt st.tm.gl st.tm.n hs' K kz
 | _=>False
noncomputable def vcCond(ex:VcF)(a b:Code)(hs:Hs)(st:St)(K:KF):Option V->Prop
 |some (.bool t)=>ex (bif t then a else b) hs st K
 | _=>False
noncomputable def Que(ex:VcF)(c:Code)(hs:Hs)(st:St)(K:KF):Prop:=
 match c with
 | .skip=>K .normal hs st
 | .label _=>K .normal hs st
 | .seq a b=>ex a hs st (kSeq ex b K)
 | .region _ ops draw=>Qj4 P E sp ops draw hs st (fun hs st=>K .normal hs st)
 | .cond c a b=>vcCond ex a b hs st K (fev st.tm c)
 | .block id b=>ex b hs st (Qr7 id K)
 | .loop b=>vcLoop P rd nx0 ex b hs st K
 | .scope b=>ex b hs st K
 | .rangeFunc g ps asg b=>vcRF P rd nx0 (.rangeFunc g ps asg b) hs st K
 | .exit id=>K (.exit id) hs st
 | .ret=>K .ret hs st
 | _=>False
noncomputable def vc(n:Nat):VcF:=Nat.rec (motive:=fun _=>VcF) (fun _ _ _ _=>False) (fun _ ih=>Que P E sp rd nx0 ih) n
end
section
variable {E:Env} {sp:Qdc} {rd:Option Nat} {nx0:Nat}
theorem Qdq{gl:T (List V)}{n:Nat}{hs:Hs}{K:KF}: ∀{l:List (Prop×Ex×SL)}{e:Ex}{st:St},Qpt gl n hs K l->Qaf gl n l e st->K e hs st
 |[],_,_,_,h=>h.elim
 |(p,e',S)::l,e,st,hk,h=>by
  rcases h with⟨hp,rfl,rfl⟩|h
  ·exact hk.1 hp
  ·exact Qdq hk.2 h
theorem Qic{gl:T (List V)}{n:Nat}{H:T O}{nx:Nat}{lg:List Nat}{hs:Hs}{K:KF}: ∀{l:List (Prop×Ex×List (Nat×V))}{e:Ex}{st:St},Qsy gl n H nx lg hs K l->Qlj gl n H nx lg l e st->K e hs st/\st.tm.gl=gl
 |[],_,_,_,h=>h.elim
 |(p,e',S)::l,e,st,hk,h=>by
  rcases h with⟨hp,rfl,rfl⟩|h
  ·exact⟨hk.1 hp,rfl⟩
  ·exact Qic hk.2 h
theorem Qjl{gl:T (List V)}{n:Nat}: ∀{l:List (Prop×Ex×SL)}{e:Ex}{st:St},Qaf gl n l e st->st.tm.gl=gl
 |[],_,_,h=>h.elim
 | _:: _,_,_,h=>by
  rcases h with⟨_,_,rfl⟩|h
  ·rfl
  ·exact Qjl h
theorem vc_ok(hE:E.Ok P)(hm:P.follows .mixedOrders=true){gl:T (List V)}(hsp:Qbx P gl sp): ∀(n:Nat)(c:Code)(hs:Hs)(st:St)(K:KF),st.tm.gl=gl->vc P E sp rd nx0 n c hs st K->Sat P rd nx0 c st (fun e st'=>st'.tm.gl=gl/\∃hs',K e hs' st')
 |0,_,_,_,_,_,h=>h.elim
 | n + 1, c, hs, st, K, hgl, h => by
  have ih:=vc_ok hE hm hsp n
  change Que P E sp rd nx0 (vc P E sp rd nx0 n) c hs st K at h
  unfold Que at h
  split at h
  ·exact Sat.skip ⟨hgl,hs,h⟩
  ·exact Sat.label ⟨hgl,hs,h⟩
  ·rename_i a b
   refine Sat.seq (ih a hs st _ hgl h) (fun st1⟨hg,hs1,h1⟩=>ih b hs1 st1 K hg h1) (fun e st1 he⟨hg,hs1,h1⟩=>⟨hg,hs1,?_⟩)
   cases e with
   |normal=>exact absurd rfl he
   |exit=>exact h1
   |ret=>exact h1
  ·rename_i ops draw
   refine(Qm5 hE hm (by rw[hgl];exact hsp) h).mono ?_
   rintro e st' ⟨rfl,hg,hk⟩
   exact⟨hg.trans hgl,hk⟩
  ·rename_i c a b
   unfold vcCond at h
   rw[A7]at h
   split at h
   ·rename_i t ht
    exact Sat.cond ht (ih _ hs st K hgl h)
   ·exact h.elim
  ·rename_i id b
   refine Sat.block (ih b hs st _ hgl h) (fun st1⟨hg,hs1,h1⟩=>⟨hg,hs1,?_⟩) (fun e st1 he⟨hg,hs1,h1⟩=>⟨hg,hs1,?_⟩)
   ·unfold Qr7 at h1
    dsimp only at h1
    have:Nat.beq id id=true:=by simp
    rw[this]at h1;exact h1
   ·unfold Qr7 at h1
    cases e with
    |normal=>exact h1
    |ret=>exact h1
    | exit i =>
     have:Nat.beq i id=false:=by
      cases hb:Nat.beq i id with
      |false=>rfl
      |true=>exact absurd (by rw[Nat.eq_of_beq_eq_true hb]) he
     dsimp only at h1
     rw[this]at h1;exact h1
  ·rename_i b
   unfold vcLoop at h
   split at h
   ·rename_i _ _ r S kz hs'
    obtain⟨h1,h2,h3⟩:=h
    refine Sat.gc (Qd7 h1) (h2.mono fun e st' ho=>⟨?_,hs',Qdq h3 ho⟩)
    have: ∀{l:List (Prop×Ex×SL)},Qaf st.tm.gl st.tm.n l e st'->st'.tm.gl=st.tm.gl:=by
     intro l
     induction l with
     |nil=>intro h;exact h.elim
     |cons p l ih=>
      rintro(⟨_,_,rfl⟩|h)
      ·rfl
      ·exact ih h
    rw[this ho];exact hgl
   ·rename_i _ m hs'
    have key: ∀(m:Nat)(hs:Hs)(st:St),st.tm.gl=gl->vcU (vc P E sp rd nx0 n) b K m hs st->Lp P rd nx0 b (fun e st'=>st'.tm.gl=gl/\∃hs',K e hs' st') m st:=by
     intro m
     induction m with
     |zero=>intro _ _ _ h;exact h.elim
     |succ m ihm=>
      intro hs st hgl h
      refine(ih b hs st _ hgl h).mono ?_
      rintro e st1 ⟨hg,hs1,h1⟩
      cases e with
      |normal=>exact .inl ⟨rfl,ihm hs1 st1 hg h1⟩
      |exit i=>exact .inr ⟨by simp,hg,hs1,h1⟩
      |ret=>exact .inr ⟨by simp,hg,hs1,h1⟩
    exact(key m hs' st hgl h).sat
   ·rename_i _ sl kz hs'
    obtain⟨h1,h2,h3⟩:=h
    refine Sat.fewer h1 (h2.mono fun e st' ho=>?_)
    obtain⟨hk,hg⟩:=Qic h3 ho
    exact⟨hg.trans hgl,hs',hk⟩
   ·rename_i _ sl e sl' Q jq _
    obtain⟨h1,h2,h3⟩:=h
    refine Sat.fewer h1 (h2.mono fun e' st' ho=>?_)
    obtain⟨g,H,nx,lg,rfl,rfl,hQ⟩:=ho
    exact⟨hgl,_,h3 g H nx lg hQ⟩
   ·rename_i _ sl kz hs'
    obtain⟨h1,h2,h3⟩:=h
    refine Sat.fewer h1 (h2.mono fun e st' ho=>⟨?_,hs',Qdq h3 ho⟩)
    have: ∀{l:List (Prop×Ex×SL)},Qaf st.tm.gl st.tm.n l e st'->st'.tm.gl=st.tm.gl:=by
     intro l
     induction l with
     |nil=>intro h;exact h.elim
     |cons p l ih=>
      rintro(⟨_,_,rfl⟩|h)
      ·rfl
      ·exact ih h
    rw[this ho];exact hgl
   ·exact h.elim
  ·exact Sat.scope (ih _ hs st K hgl h)
  ·unfold vcRF at h
   split at h
   ·rename_i _ r S kz hs'
    obtain⟨h1,h2,h3⟩:=h
    exact Sat.gc (Qd7 h1) (h2.mono fun e st' ho=>⟨(Qjl ho).trans hgl,hs',Qdq h3 ho⟩)
   ·rename_i _ sl e sl' Q jq _
    obtain⟨h1,h2,h3⟩:=h
    refine Sat.fewer h1 (h2.mono fun e' st' ho=>?_)
    obtain⟨g,H,nx,lg,rfl,rfl,hQ⟩:=ho
    exact⟨hgl,_,h3 g H nx lg hQ⟩
   ·rename_i _ sl kz hs'
    obtain⟨h1,h2,h3⟩:=h
    exact Sat.fewer h1 (h2.mono fun e st' ho=>⟨(Qjl ho).trans hgl,hs',Qdq h3 ho⟩)
   ·exact h.elim
  ·exact Sat.exit ⟨hgl,hs,h⟩
  ·exact Sat.ret ⟨hgl,hs,h⟩
  ·exact h.elim
theorem Sat.of_vc(hE:E.Ok P)(hm:P.follows .mixedOrders=true){gl:T (List V)}(hsp:Qbx P gl sp){n:Nat}{c:Code}{hs:Hs}{st:St}{K:KF}{R:Ex->St->Prop}(hgl:st.tm.gl=gl)(h:vc P E sp rd nx0 n c hs st K)(hK: ∀e hs st',st'.tm.gl=gl->K e hs st'->R e st'):Sat P rd nx0 c st R:=
 (vc_ok hE hm hsp n c hs st K hgl h).mono fun e st'⟨hg,hs',hk⟩=>hK e hs' st' hg hk
def exEq:Ex->Ex->Bool
 | .exit i,.exit j=>Nat.beq i j
 | .ret,.ret=>true
 | _,_=>false
noncomputable def kNext(nx0:Nat)(n:Nat)(r:List Nat)(S:SL):KF:=fun e _ st=>match e with
 | .normal=>bif Nat.beq st.tm.n n then gcP nx0 r st S else False
 | _=>False
noncomputable def kOut(nx0:Nat)(n:Nat)(e':Ex)(r:List Nat)(S:SL):KF:=fun e _ st=>bif exEq e e'&&Nat.beq st.tm.n n then gcP nx0 r st S else False
theorem loopI(hE:E.Ok P)(hm:P.follows .mixedOrders=true){gl:T (List V)}(hsp:Qbx P gl sp){b:Code}{k:Nat}{α:Type}(I:α->Prop)(S:α->SL)(m:α->Nat){R:Ex->St->Prop}
  (h: ∀x,I x->(∃y r hs n,I y/\m y<m x/\vc P E sp rd nx0 n b hs (Ah gl k (S x)) (kNext nx0 k r (S y)))\/(∃e r So hs n,R e (Ah gl k So)/\vc P E sp rd nx0 n b hs (Ah gl k (S x)) (kOut nx0 k e r So)))(x:α)(hx:I x):Sat P rd nx0 (.loop b) (Ah gl k (S x)) R:=by
 refine Sat.loop (α:={x//I x}) (fun x=>Ah gl k (S x.1)) (fun x=>m x.1) (fun⟨x,hx⟩=>?_) ⟨x,hx⟩
 refine Sat.gc_post ?_
 rcases h x hx with⟨y,r,hs,n,hy,hlt,hv⟩|⟨e',r,So,hs,n,hR,hv⟩
 ·refine Sat.of_vc hE hm hsp rfl hv fun e hs' st' hg hk => ?_
  unfold kNext at hk
  split at hk
  ·obtain ⟨hb, hk⟩ := Qak hk
   have:=Nat.eq_of_beq_eq_true hb
   refine⟨r,_,Qd7 hk,.inl ⟨rfl,⟨y,hy⟩,hlt,?_⟩⟩
   rw[hg,this]
  ·exact hk.elim
 ·refine Sat.of_vc hE hm hsp rfl hv fun e hs' st' hg hk => ?_
  unfold kOut at hk
  obtain⟨hb,hk⟩:=Qak hk
  rw[Bool.and_eq_true]at hb
  have:=Nat.eq_of_beq_eq_true hb.2
  refine⟨r,_,Qd7 hk,.inr ?_⟩
  rw[hg,this]
  have he:=hb.1
  unfold exEq at he
  split at he
  ·rw[Nat.eq_of_beq_eq_true he];exact⟨by simp,hR⟩
  ·exact⟨by simp,hR⟩
  ·cases he
theorem Qax(hE:E.Ok P)(hm:P.follows .mixedOrders=true){gl:T (List V)}(hsp:Qbx P gl sp){c b:Code}(hc:c= .loop b){k:Nat}{α:Type}(I:α->Prop)(S:α->SL)(m:α->Nat){R:Ex->St->Prop}
  (h: ∀x,I x->(∃y r hs n,I y/\m y<m x/\vc P E sp rd nx0 n b hs (Ah gl k (S x)) (kNext nx0 k r (S y)))\/(∃e r So hs n,R e (Ah gl k So)/\vc P E sp rd nx0 n b hs (Ah gl k (S x)) (kOut nx0 k e r So)))(x:α)(hx:I x):Sat P rd nx0 c (Ah gl k (S x)) R:=hc▸loopI hE hm hsp I S m h x hx
noncomputable def kEnd(nx0 n:Nat)(G:Ex->SL->Prop):KF:=fun e hs st=>match hs with
 |(_,.to r S):: _=>bif Nat.beq st.tm.n n then G e S/\gcP nx0 r st S else False
 | _=>False
def loopG{α:Type}(I:α->Prop)(S:α->SL)(m:α->Nat)(k:Nat)(out:Ex->SL->Prop):Ex->SL->Prop:=fun e S'=>match e with
 | .normal=>∃y,I y/\m y<k/\S'=S y
 | .exit i=>out (.exit i) S'
 | .ret=>out .ret S'
theorem loopH(hE:E.Ok P)(hm:P.follows .mixedOrders=true){gl:T (List V)}(hsp:Qbx P gl sp){c b:Code}(hc:c= .loop b){k:Nat}{α:Type}(I:α->Prop)(S:α->SL)(m:α->Nat)(out:Ex->SL->Prop)
  (h: ∀x,I x->∃hs n,vc P E sp rd nx0 n b hs (Ah gl k (S x)) (kEnd nx0 k (loopG I S m (m x) out)))(x:α)(hx:I x):Sat P rd nx0 c (Ah gl k (S x)) (fun e st=>∃S',st=Ah gl k S'/\out e S'):=by
 subst hc
 refine Sat.loop (α:={x//I x}) (fun x=>Ah gl k (S x.1)) (fun x=>m x.1) (fun⟨x,hx⟩=>?_) ⟨x,hx⟩
 refine Sat.gc_post ?_
 obtain⟨hs,n,hv⟩:=h x hx
 refine Sat.of_vc hE hm hsp rfl hv fun e hs' st' hg hk=>?_
 unfold kEnd at hk
 split at hk
 ·rename_i _ r S' _
  obtain⟨hb,hG,hk⟩:=Qak hk
  have hn:=Nat.eq_of_beq_eq_true hb
  refine⟨r,_,Qd7 hk,?_⟩
  rw[hg,hn]
  unfold loopG at hG
  cases e with
  |normal=>
   obtain⟨y,hy,hlt,rfl⟩:=hG
   exact .inl ⟨rfl,⟨y,hy⟩,hlt,rfl⟩
  |exit i=>exact .inr ⟨by simp,S',rfl,hG⟩
  |ret=>exact .inr ⟨by simp,S',rfl,hG⟩
 ·exact hk.elim
noncomputable def kEndO(n:Nat)(G:Ex->List (Nat×V)->T O->Nat->List Nat->Prop):KF:=fun e hs st=>match hs with
 |(_,.toO sl):: _=>bif Nat.beq st.tm.n n then G e sl st.H st.nx st.lg/\Ce st.tm sl else False
 | _=>False
structure Mem where
 H:T O
 nx:Nat
 lg:List Nat
def loopGO{α:Type}(I:α->Mem->Prop)(S:α->List (Nat×V))(m:α->Nat)(k:Nat)(out:Ex->List (Nat×V)->Mem->Prop):Ex->List (Nat×V)->T O->Nat->List Nat->Prop:=fun e sl H nx lg=>match e with
 | .normal=>∃y,I y ⟨H,nx,lg⟩/\m y<k/\sl=S y
 | .exit i=>out (.exit i) sl ⟨H,nx,lg⟩
 | .ret=>out .ret sl ⟨H,nx,lg⟩
theorem loopO(hE:E.Ok P)(hm:P.follows .mixedOrders=true){gl:T (List V)}(hsp:Qbx P gl sp){c b:Code}(hc:c= .loop b){k:Nat}{α:Type}(I:α->Mem->Prop)(S:α->List (Nat×V))(m:α->Nat)(out:Ex->List (Nat×V)->Mem->Prop)
  (h: ∀x(H:T O)(nx:Nat)(lg:List Nat),I x ⟨H,nx,lg⟩->∃hs n,vc P E sp rd nx0 n b hs (A4 gl k (S x) H nx lg) (kEndO k (loopGO I S m (m x) out)))(x:α)(M:Mem)(hx:I x M):Sat P rd nx0 c (A4 gl k (S x) M.H M.nx M.lg) (fun e st=>∃sl M',st=A4 gl k sl M'.H M'.nx M'.lg/\out e sl M'):=by
 subst hc
 refine Sat.loop (α:={q:α×Mem//I q.1 q.2}) (fun q=>A4 gl k (S q.1.1) q.1.2.H q.1.2.nx q.1.2.lg) (fun q=>m q.1.1) (fun⟨⟨x,⟨H,nx,lg⟩⟩,hx⟩=>?_) ⟨(x,M),hx⟩
 refine Sat.fewer_post ?_
 obtain⟨hs,n,hv⟩:=h x H nx lg hx
 refine Sat.of_vc hE hm hsp rfl hv fun e hs' st' hg hk=>?_
 unfold kEndO at hk
 split at hk
 ·rename_i _ sl _
  obtain⟨hb,hG,hk⟩:=Qak hk
  have hn:=Nat.eq_of_beq_eq_true hb
  refine⟨sl,hk,?_⟩
  rw[hg,hn]
  unfold loopGO at hG
  cases e with
  |normal=>
   obtain⟨y,hy,hlt,rfl⟩:=hG
   exact .inl ⟨rfl,⟨(y,_),hy⟩,hlt,rfl⟩
  |exit i=>exact .inr ⟨by simp,sl,⟨_,_,_⟩,rfl,hG⟩
  |ret=>exact .inr ⟨by simp,sl,⟨_,_,_⟩,rfl,hG⟩
 ·exact hk.elim
theorem Qge{s s':Sig}{w w':World}{H:T O}{v:V}{u:Value}{lg:List Nat}(hH:RH s w H.get)(g1:RV s' w' v u)(hhf:Hf v)(g3:Bb s w s' w' lg)(how: ∀h∈lg,¬s.dom h)(hlt: ∀b,s'.fz b->b<w'.heap.size): ∃s'':Sig,RV s'' w' v u/\RH s'' w' H.get/\Bb s w s'' w' []/\s''.dom=s.dom:=by
 have hno: ∀b,¬ ∃h∈lg,s.dom h/\b=s.μ h:=fun b⟨h,h1,h2,_⟩=>how h h1 h2
 obtain⟨r1,_⟩:=hH.below (w':=w') ⟨g3.mod.os,g3.mod.tape,g3.mod.output,g3.mod.size,fun k hk=>g3.mod.block k hk (hno k)⟩
 have hsz:=g3.mod.size
 have hfzs: ∀b,s.fz b->s'.fz b:=g3.le.fz
 refine⟨{s with fz:=s'.fz},Hf.rv (s:=s') (s':={s with fz:=s'.fz}) (fun _ h=>h) _ _ hhf g1,⟨fun i o ho hl=>?_,r1.inj,fun b hb=>?_⟩,⟨⟨⟨fun _ _=>rfl,fun _ _=>rfl,fun _ h=>h,hfzs⟩,fun _ h=>h⟩,fun b hb=>(g3.fz b hb).imp id (Or.imp id fun⟨h,h1,h2,_⟩=>absurd h2 (how h h1)),fun b hb=>?_,?_,fun i hi hno=>absurd hi hno⟩,rfl⟩
 ·obtain ⟨a1, a2, a3, a4⟩ := r1.obj i o ho hl
  have a2':=(hH.obj i o ho hl).2.1
  refine⟨a1,a2,?_,RO.mono' (s:=s) (s':={s with fz:=s'.fz}) ⟨fun _ _=>rfl,fun _ _=>rfl,fun _ h=>h,hfzs⟩ (fun _ _=>rfl) a1 a4 (fun _=>rfl)⟩
  rintro(hf|hm)
  ·rcases g3.fz _ hf with hf | hge | ⟨h, h1, h2, _⟩
   ·exact a3 (.inl hf)
   ·dsimp only at hge;omega
   ·exact absurd h2 (how h h1)
  ·exact a3 (.inr hm)
 ·exact hb.elim (hlt b) (fun hm=>r1.old b (.inr hm))
 ·exact g3.kept b hb
 ·exact⟨g3.mod.os,g3.mod.tape,g3.mod.output,hsz,fun k hk _=>g3.mod.block k hk (hno k)⟩
def retP(v:V):Option V->Prop
 |some u=>u=v
 |none=>False
noncomputable def kFin(n:Nat)(r:List Nat)(S:SL):KF:=fun e _ st=>match e with
 | .exit _=>False
 | _=>bif Nat.beq st.tm.n n then gcP 0 r st S else False
noncomputable def vcFi(P:Program)(E:Env)(sp:Qdc)(gl:T (List V))(n:Nat)(ars:List V)(hs:Hs)(r:List Nat)(S:SL)(v:V):Option FI->Prop
 |some fi=>bif Nat.ble ars.length fi.ntmps&&hfB v then retP v (Ff E.G (Ah gl fi.ntmps S).tm (Ah gl fi.ntmps S).H fi.res)/\vc P E sp none 0 n fi.body hs ⟨⟨Qef (Qdg fi.ntmps) 0 ars,gl,fi.ntmps⟩,.e,0,[]⟩ (kFin fi.ntmps r S)else False
 |none=>False
noncomputable def vcFn(P:Program)(E:Env)(sp:Qdc)(gl:T (List V))(n f:Nat)(ars:List V)(hs:Hs)(r:List Nat)(S:SL)(v:V):Prop:=vcFi P E sp gl n ars hs r S v (E.code f)
theorem Ac.of_vc(hE:E.Ok P)(hm:P.follows .mixedOrders=true){gl:T (List V)}(hsp:Qbx P gl sp){n f:Nat}{ars:List V}{hs:Hs}{r:List Nat}{S:SL}{v:V}(h:vcFn P E sp gl n f ars hs r S v):Ac P gl f ars v:=by
 unfold vcFn vcFi at h
 split at h
 ·rename_i fi hfi
  obtain⟨hb,kp,hv⟩:=Qak h
  rw[Bool.and_eq_true]at hb
  have hret':Ff E.G (Ah gl fi.ntmps S).tm (Ah gl fi.ntmps S).H fi.res=some v:=by
   unfold retP at kp
   split at kp
   ·rename_i u e;rw[e,kp]
   ·exact kp.elim
  rw[Qcv]at hv
  refine Aa.fnC hE hfi (by rw[List.append_nil];exact hb.1) (Log.refl _ _ _) (R:=fun e st=>(e= .normal\/e= .ret)/\st=Ah gl fi.ntmps S) ?_ ?_
  ·rw [List.append_nil]
   refine Sat.gc_post (Sat.of_vc hE hm hsp rfl hv fun e hs' st' hg hk=>?_)
   unfold kFin at hk
   have fin:(bif Nat.beq st'.tm.n fi.ntmps then gcP 0 r st' S else False)->∃r st2,Gc 0 r st' st2/\st2=Ah gl fi.ntmps S:=by
    intro hk
    obtain⟨hb,hk⟩:=Qak hk
    exact⟨r,_,Qd7 hk,by rw[hg,Nat.eq_of_beq_eq_true hb]⟩
   cases e with
   |exit=>exact hk.elim
   |normal=>obtain⟨r,st2,h1,h2⟩:=fin hk;exact⟨r,st2,h1,.inl rfl,h2⟩
   |ret=>obtain⟨r,st2,h1,h2⟩:=fin hk;exact⟨r,st2,h1,.inr rfl,h2⟩
  ·rintro e st ⟨he, rfl⟩
   refine⟨he,v,hret',fun s w ee w' hH hn⟨u,s',h1,g1,g2,g3,_,_⟩=>?_⟩
   subst h1
   obtain⟨s'',q1,q2,q3,q4⟩:=Qge hH g1 (Qk0.1 v hb.2) g3 (fun h _=>hn h (Nat.zero_le _)) (fun b hb=>g2.old b (.inl hb))
   exact⟨u,s'',rfl,q1,q2,q3,fun i=>by rw[q4];exact Cg s _ i,Nat.le_refl _⟩
 ·exact h.elim
end
section
variable {P:Program} {rd:Option Nat} {nx0:Nat} {st:St} {R:Ex->St->Prop}
theorem Sat.rangeFunc'{g:Operand}{ps:Array Tmp}{asg body:Code}{f:Nat}{caps:List V}{r:CR}(hg:ev st.tm g=some (.fn f caps))(hlb:rdOk rd st.H=true)
  (hc:Aa P st.tm.gl (.fn f caps) [.yld st.nx] (st.H.put st.nx (.loop .ready none 0 st.tm ps.toList asg body)) (st.nx+1) r)
  (hR : (∃ f0 tm0 ps0 as0 bd0, r.H.get st.nx = some (.loop .ready none f0 tm0 ps0 as0 bd0) /\ R .normal ⟨st.tm, r.H.put st.nx .dead, r.nx, r.lg ++ st.lg⟩) \/
   (∃cc f0 tm0 ps0 as0 bd0,r.H.get st.nx=some (.loop .done (some cc) f0 tm0 ps0 as0 bd0)/\Sat P rd nx0 cc ⟨st.tm,r.H.put st.nx .dead,r.nx,r.lg++st.lg⟩ R)):
  Sat P rd nx0 (.rangeFunc g ps asg body) st R:=by
 intro B s0 w0 s w a hn hB hrd A Q hQ
 have hr:=A.rel
 have hrd2: ∀h,rd=some h->s.dom h:=fun h e=>A.step.le.dom h (hrd h e)
 have hmu:rd.map s0.μ=rd.map s.μ:=by
  cases rd with
  |none=>rfl
  |some h0=>simp[A.step.le.μ h0 (hrd h0 rfl)]
 have hB2:B<=w.heap.size:=Nat.le_trans hB A.step.mod.size
 rw[hmu]
 refine wpIn_rangeFunc ?_
 intro fn _
 have hround:(FF (rd.map s.μ)).round=rd.map s.μ:=by cases rd<;>rfl
 rw[hround]
 obtain⟨L,mark,w1,s1,e1,e2,e3,e4,e5,Ds,e6,e7,e8⟩:=Qpi (P:=P) (asg:=asg) (body:=body) (ps:=ps) hr hB2 hrd2 hlb fn
 obtain⟨vs,hgv,hcaps⟩:=Ay hr.rt hg
 have hfv:RV s1 w1 (.fn f caps) (.func (.func f) #[] vs):=RV.mono e4.le e4.k _ _ ⟨vs,rfl,hcaps⟩
 have hyv:RL s1 w1 [V.yld st.nx] (#[Value.func (.yield L) #[] #[]]:Array Value).toList:=⟨_,_,rfl,⟨(e5 _).2 (.inr rfl),by rw[e3]⟩,rfl⟩
 have hn1: ∀i,st.nx+1<=i->¬s1.dom i:=fun i hi hd=>by
  rcases(e5 i).1 hd with hd|hd
  ·exact hr.nx i o_ hd
  ·omega
 obtain⟨next,n1,n2,n3⟩:=hc.1 s1 w1 _ _ hfv hyv e2 (hr.rt.mono e4.le e4.k).2.2 hn1
 obtain⟨f',ars',rfl⟩:=n3 ⟨f,caps,rfl⟩
 have hinv:(invoke (.fn (.func f) vs) (#[]++ #[Value.func (.yield L) #[] #[]])).run P w1= .ok (.enter f' ars') w1:=by
  simpa [Deferred.ofValue]using n1
 refine⟨L,mark,w1,{target:=.fn (.func f) vs,args:= #[]++ #[Value.func (.yield L) #[] #[]]},w1,f',ars',w1,e1,?_,fun f' _=>Qiq _ f',hinv,fun h=>(by rw[Qip]at h;cases h),?_⟩
 ·show (Deferred.ofValue (a.eval g) _).run P w1 = _
  rw[hgv]
  simp[Deferred.ofValue,Act.eval]
 ·refine (Qhz (rd.map s.μ) n2).mono ?_
  rintro ee w3 ⟨v,s3,rfl,c1,c2,c3,c4,c5⟩
  have hdnx:s3.dom st.nx:=c3.le.dom _ ((e5 _).2 (.inr rfl))
  have hμ:s3.μ st.nx=L:=by rw[c3.le.μ _ ((e5 _).2 (.inr rfl)),e3]
  have hst3:Bb s w s3 w3 r.lg:=(e4.trans c3).more (by simp)
  have hdom3: ∀i,s3.dom i↔s.dom i\/st.nx<=i/\i<r.nx:=fun i=>by
   rw[c4,e5]
   constructor
   ·rintro ((h | h) | h)
    ·exact .inl h
    ·exact .inr ⟨by omega,by omega⟩
    ·exact .inr ⟨by omega,h.2⟩
   ·rintro (h | h)
    ·exact .inl (.inl h)
    ·by_cases h' : i = st.nx
     ·exact .inl (.inr h')
     ·exact .inr ⟨by omega,h.2⟩
  have after: ∀(ls:LoopState)(pd:Option Code) f0 tm0 ps0 as0 bd0,r.H.get st.nx=some (.loop ls pd f0 tm0 ps0 as0 bd0)->ls≠ .busy->
    ∃w4,(Instr.endLoop L).run P w3= .ok pd w4/\E7 B s w st ⟨st.tm,r.H.put st.nx .dead,r.nx,r.lg++st.lg⟩ a r.lg s3 w4 {a with defers:=mark++a.defers}:=by
   intro ls pd f0 tm0 ps0 as0 bd0 ho hls
   obtain⟨r0,q1,q2,q3,_,_,_,_,_,q9⟩:=Qdm c2 ho
   rw[hμ]at q1 q9
   obtain⟨z1,z2⟩:=q9 .exhausted pd .dead (.inr rfl)
   have hreq:({r0 with state:=.exhausted,pending:=pd}:Loop)={r0 with state:=.exhausted}:=by rw[<-q3]
   rw[hreq]at z1 z2
   refine⟨_,by rw[<-q3];exact run_endLoop q1 (by rw[q2];exact hls),⟨z1,hr.rt.mono (hst3.trans z2).le (hst3.trans z2).k,fun i hi=>?_,Ds,e6,e7,fun D hD=>?_⟩,?_,hdom3,Nat.le_trans (Nat.le_succ _) c5,rfl⟩
   ·intro hd
    rcases(hdom3 i).1 hd with hd|hd
    ·exact hr.nx i (by dsimp only at hi;omega) hd
    ·dsimp only at hi;omega
   ·exact((e8 D hD).step c3).step z2
   ·refine (hst3.trans z2).drop (fun x hx => ?_)
    rcases List.mem_append.1 hx with hx|hx
    ·exact .inl hx
    ·simp only [List.mem_singleton] at hx
     exact .inr (by rw[hx];exact hr.nx st.nx (Nat.le_refl _))
  rcases hR with⟨f0,tm0,ps0,as0,bd0,ho,hR⟩|⟨cc,f0,tm0,ps0,as0,bd0,ho,hR⟩
  ·obtain ⟨w4, v1, v2⟩ := after _ _ _ _ _ _ _ ho d_
   exact⟨none,w4,v1,hQ .normal _ hR _ _ _ (A.went v2)⟩
  ·obtain ⟨w4, v1, v2⟩ := after _ _ _ _ _ _ _ ho d_
   refine⟨some cc,w4,v1,?_⟩
   have:=hR B s0 w0 _ w4 _ hn hB hrd (A.went v2) Q hQ
   rw[hmu]at this
   exact this
theorem Aa.yld{gl:T (List V)}{hd:Nat}{ars:List V}{H:T O}{nx:Nat}{r:CR}{pd0:Option Code}{fn0:Nat}{tm tm1:TM}{ps:List Nat}{assign body:Code}(ho:H.get hd=some (.loop .ready pd0 fn0 tm ps assign body))(htm1:putPs tm ps ars=some tm1)(hlog:Log H.get nx r.H.get r.nx r.lg)
  (h : Sat P (some hd) nx assign ⟨tm1, H, nx, []⟩ (fun e st1 => e = .normal /\ ∃ pd fn1 tmx ps1 as1 bd1, st1.H.get hd = some (.loop .ready pd fn1 tmx ps1 as1 bd1) /\
   Sat P (some hd) nx body ⟨st1.tm,st1.H.put hd (.loop .busy pd fn1 tmx ps1 as1 bd1),st1.nx,hd::st1.lg⟩ (fun e st2=>∃ls2 pd2 fn2 tm2 ps2 as2 bd2,st2.H.get hd=some (.loop ls2 pd2 fn2 tm2 ps2 as2 bd2)/\
    r.v= .bool e.pend.isNone/\r.H=st2.H.put hd (.loop (bif e.pend.isNone then .ready else .done) e.pend fn2 tm2 ps2 as2 bd2)/\r.nx=st2.nx/\∀x,x∈hd::st2.lg->x∈r.lg))):Aa P gl (.yld hd) ars H nx r:=by
 refine⟨fun s w fv jk hc kx hH hgl hn=>?_,hlog⟩
 obtain⟨hdm,rfl⟩:=hc
 obtain⟨r0,q1,q2,q3,q4,q5,q6,q7,_,_⟩:=Qdm hH ho
 obtain⟨p1,p2⟩:=Qon (a:={tmps:=r0.tmps,defers:=[]}) q7 kx htm1
 have hps:jk.size=r0.params.size:=by rw[q4];simp at p1⊢;omega
 have hy:=run_yield (P:=P) (args:=jk) q1 hps
 obtain⟨X,hX'⟩: ∃X,(r0.params.zip jk).foldl (fun tmps(t,a)=>tmps.setIfInBounds t a) r0.tmps=X:=⟨_,rfl⟩
 rw[hX']at hy
 have hfold:X=(ps.zip jk.toList).foldl (fun tmps(x:Nat×Value)=>tmps.setIfInBounds x.1 x.2) r0.tmps:=by
  rw[<-hX',q4,<-Array.foldl_toList,Array.toList_zip]
 refine⟨.round (s.μ hd) r0.fn X r0.assign r0.body,by simp[Deferred.ofValue,invoke,hy],?_,fun⟨f,c,e⟩=>by cases e⟩
 refine roundIn_of_wpIn (F:=Fence.wide) (n:=3) trivial ?_
 rw[q5,q6]
 have hrel:Rel w.heap.size s w ⟨tm1,H,nx,[]⟩ {tmps:=X,defers:=[]}:=
  ⟨hH,by dsimp only;rw[hfold];exact p2,hn,[],rfl,List.nodup_nil,fun D hD=>by cases hD⟩
 have hrdd: ∀h,some hd=some h->s.dom h:=fun h e=>by cases e;exact hdm
 refine Qj6 (l:=some (s.μ hd)) (h w.heap.size s w s w _ hn (Nat.le_refl _) hrdd ⟨hrel,Bb.refl s w [],Cg s _,Nat.le_refl _⟩ _ ?_)
 rintro e st1 ⟨rfl,pd,fn1,tmx,ps1,as1,bd1,ho1,hbody⟩ s1 w1 a1 A1
 obtain⟨r1,t1,t2,t3,t4,t5,t6,t7,t8,t9⟩:=Qdm A1.rel.rh ho1
 have hμ:s1.μ hd=s.μ hd:=A1.step.le.μ hd hdm
 rw[hμ]at t1 t9
 obtain⟨u1,u2⟩:=t9 .busy pd _ (.inl rfl)
 refine⟨_,run_beginRound t1 t2,?_⟩
 have hreq:{r1 with state:=.busy,pending:=pd}={r1 with state:=.busy}:=by rw[<-t3]
 rw[hreq]at u1 u2
 have hrel1:Rel w.heap.size s1 _ ⟨st1.tm,st1.H.put hd (.loop .busy pd fn1 tmx ps1 as1 bd1),st1.nx,hd::st1.lg⟩ a1:=A1.rel.world u2 u1
 have A1':Ats w.heap.size s w nx ⟨st1.tm,st1.H.put hd (.loop .busy pd fn1 tmx ps1 as1 bd1),st1.nx,hd::st1.lg⟩ s1 _ a1:=
  ⟨hrel1, (A1.step.trans u2).more (fun x hx => by
   rcases List.mem_append.1 hx with hx|hx
   ·exact List.mem_cons_of_mem _ hx
   ·simp only[List.mem_singleton]at hx;exact hx▸List.mem_cons_self),A1.dom,A1.le⟩
 have hwp:=hbody w.heap.size s w s1 _ a1 hn (Nat.le_refl _) hrdd A1' (roundPost P (s.μ hd) (Qft s w nx r)) (by
  rintro e st2 ⟨ls2,pd2,fn2,tm2,ps2,as2,bd2,ho2,hv,hHr,hnxr,hlgr⟩ s2 w2 a2 A2
  obtain⟨r2,t1',t2',t3',_,_,_,_,t8',t9'⟩:=Qdm A2.rel.rh ho2
  have hμ2:s2.μ hd=s.μ hd:=A2.step.le.μ hd hdm
  rw[hμ2]at t1' t9'
  have fin: ∃v w',(Instr.endRound (s.μ hd) e.pend).run P w2= .ok v w'/\Qft s w nx r (.returned v) w':=by
   obtain⟨v1,v2⟩:=t9' (if e.pend.isNone then .ready else .done) e.pend _ (.inl rfl)
   refine⟨_,_,run_endRound e.pend t1',_,s2,rfl,by rw[hv];rfl,?_,?_,fun i=>?_,?_⟩
   ·have : (bif e.pend.isNone then LoopState.ready else LoopState.done) = if e.pend.isNone then .ready else .done := by cases e.pend.isNone <;> rfl
    rw[hHr,this]
    exact v1
   ·refine (A2.step.trans v2).more (fun x hx => hlgr x ?_)
    rcases List.mem_append.1 hx with hx|hx
    ·exact List.mem_cons_of_mem _ hx
    ·simp only[List.mem_singleton]at hx;exact hx▸List.mem_cons_self
   ·rw[hnxr];exact A2.dom i
   ·rw[hnxr];exact A2.le
  cases e<;>exact fin)
 exact Qj6 (l:=some (s.μ hd)) hwp
end
section
variable {P:Program}
theorem Aa.frameR{gl:T (List V)}{f:Nat}{ars ars':List V}{Hs H H':T O}{k nx nx':Nat}{r:CR}{v':V}{lg':List Nat}{ρ σ:Nat->Option Nat}
  (h:Aa P gl (.fn f []) ars Hs k r)
  (hρk: ∀i g,ρ i=some g->i<k)
  (hρi: ∀i j g,ρ i=some g->ρ j=some g->i=j)
  (hars:Be H.get (fun _=>False) ρ ars ars')
  (hobj: ∀i o,Hs.get i=some o->o.live=true->∃g y,ρ i=some g/\H.get g=some y/\Ej H.get (fun _=>False) ρ o y)
  (hσ: ∀g i,σ g=some i->(i<k/\ρ i=some g)\/(nx<=g/\g<nx'/\k<=i/\i<r.nx))
  (hσi: ∀g g' i,σ g=some i->σ g'=some i->g=g')
  (hσn: ∀g,nx<=g->g<nx'->∃i,σ g=some i/\k<=i/\i<r.nx)
  (hnx:nx<=nx')
  (hv:Ca r.H.get (fun _=>False) σ v' r.v)
  (hH': ∀g y,H'.get g=some y->y.live=true->(∃i o,σ g=some i/\r.H.get i=some o/\Ej r.H.get (fun _=>False) σ y o)\/((∀i,ρ i≠some g)/\g<nx/\H.get g=some y))
  (hlive: ∀i,i<k->(i∈r.lg\/∃o,r.H.get i=some o/\o.live=true)->∃o,Hs.get i=some o/\o.live=true)
  (hlgk: ∀i∈r.lg,∀g,ρ i=some g->g∈lg')
  (hlog:Log H.get nx H'.get nx' lg'):Aa P gl (.fn f []) ars' H nx ⟨v',H',nx',lg'⟩:=by
 refine⟨fun s w fv jk hc kx hH hgl hn=>?_,hlog⟩
 have hlow: ∀g,s.dom g->g<nx:=fun g hd=>Nat.lt_of_not_le fun hle=>hn g hle hd
 let ss:Sig:={μ:=fun i=>match ρ i with|some g=>s.μ g|none=>0,cp:=fun i=>match ρ i with|some g=>s.cp g|none=>0,dom:=fun i=>∃g,ρ i=some g/\s.dom g,fz:=s.fz,mark:=s.mark}
 have eμ: ∀i g,ρ i=some g->ss.μ i=s.μ g:=fun i g e=>by show(match ρ i with|some g=>s.μ g|none=>0)=_;rw[e]
 have ecp: ∀i g,ρ i=some g->ss.cp i=s.cp g:=fun i g e=>by show(match ρ i with|some g=>s.cp g|none=>0)=_;rw[e]
 have T1:C0 H.get (fun _=>False) ρ s ss:=⟨fun i g e hd=>⟨⟨g,e,hd⟩,eμ i g e,ecp i g e⟩,fun _ _ _ _ hF=>hF.elim,fun _ hb=>hb⟩
 have hRH:RH ss w Hs.get:=by
  refine⟨fun i o ho hl=>?_,fun i j o o' ho ho' hl hl' e=>?_,hH.old⟩
  ·obtain ⟨g, y, e, hy, hvo⟩ := hobj i o ho hl
   obtain⟨a1,a2,a3,a4⟩:=hH.obj g y hy (hvo.live hl)
   exact⟨⟨g,e,a1⟩,by rw[eμ i g e];exact a2,by rw[eμ i g e];exact a3,hvo.ro hH T1 e a1 a4⟩
  ·obtain ⟨g, y, e1, hy, hvo⟩ := hobj i o ho hl
   obtain⟨g',y',e2,hy',hvo'⟩:=hobj j o' ho' hl'
   rw[eμ i g e1,eμ j g' e2]at e
   have:=hH.inj g g' y y' hy hy' (hvo.live hl) (hvo'.live hl') e
   subst this
   exact hρi i j g e1 e2
 obtain⟨vs,rfl,hcaps⟩:=hc
 have hvs:vs= #[]:=by
  have:vs.toList=[]:=hcaps
  simpa using this
 obtain⟨next,e1,e2,e3⟩:=h.1 ss w (.func (.func f) #[] vs) jk ⟨vs,rfl,by rw[hvs];rfl⟩ (Be.rl hH T1 _ _ _ hars kx) hRH (fun g l hg=>RC.mono' (s:=s) (s':=ss) (w:=w) (w':=w) (fun _ hb=>hb) (fun _ _=>rfl) l g 0 (hgl g l hg)) (fun i hi⟨g,e,_⟩=>absurd (hρk i g e) o_)
 refine⟨next,e1,?_,e3⟩
 obtain⟨f',ars2,rfl⟩:=e3 ⟨f,[],rfl⟩
 refine CallsIn.mono e2 ?_
 rintro e w' ⟨u,s',rfl,g1,g2,g3,g4,g5⟩
 have hsz:=g3.mod.size
 let s2:Sig:={μ:=fun g=>if g<nx then s.μ g else match σ g with|some i=>s'.μ i|none=>0,cp:=fun g=>if g<nx then s.cp g else match σ g with|some i=>s'.cp i|none=>0,dom:=fun g=>s.dom g\/nx<=g/\g<nx',fz:=s'.fz,mark:=s.mark}
 have lμ: ∀g,g<nx->s2.μ g=s.μ g:=fun g hg=>if_pos hg
 have lcp: ∀g,g<nx->s2.cp g=s.cp g:=fun g hg=>if_pos hg
 have nμ: ∀g i,¬g<nx->σ g=some i->s2.μ g=s'.μ i:=fun g i hg e=>by show(if g<nx then s.μ g else match σ g with|some i=>s'.μ i|none=>0)=_;rw[if_neg hg,e]
 have ncp: ∀g i,¬g<nx->σ g=some i->s2.cp g=s'.cp i:=fun g i hg e=>by show(if g<nx then s.cp g else match σ g with|some i=>s'.cp i|none=>0)=_;rw[if_neg hg,e]
 -- old handles
 have hold: ∀i g,i<k->ρ i=some g->s'.dom i->s.dom g/\s'.μ i=s.μ g/\s'.cp i=s.cp g:=fun i g hi e hd=>by
  rcases(g4 i).1 hd with⟨g',e',hd'⟩|⟨hge,_⟩
  ·rw [e] at e'; cases e'
   have hds:ss.dom i:=⟨g,e,hd'⟩
   exact⟨hd',by rw[g3.le.μ i hds,eμ i g e],by rw[g3.le.cp i hds,ecp i g e]⟩
  ·omega
 have T2:C0 r.H.get (fun _=>False) σ s' s2:=by
  refine⟨fun g i e hd=>?_,fun _ _ _ _ hF=>hF.elim,fun _ hb=>hb⟩
  rcases hσ g i e with⟨hi,er⟩|⟨hg1,hg2,hi1,hi2⟩
  ·obtain ⟨a, b, c⟩ := hold i g hi er hd
   exact⟨.inl a,by rw[lμ g (hlow g a),b],by rw[lcp g (hlow g a),c]⟩
  ·exact⟨.inr ⟨hg1,hg2⟩,nμ g i o_ e,ncp g i o_ e⟩
 -- what the log of the small memory names is live in the greater one
 have hlogged: ∀i g,i∈r.lg->ρ i=some g->∃y,H.get g=some y/\y.live=true:=fun i g hi e=>by
  obtain⟨o,ho,hl⟩:=hlive i (hρk i g e) (.inl hi)
  obtain⟨g',y,e',hy,hvo⟩:=hobj i o ho hl
  rw[e]at e';cases e'
  exact⟨y,hy,hvo.live hl⟩
 have xg: ∀g y,H.get g=some y->y.live=true->(∀i,ρ i≠some g)->∀i,i∈r.lg->ss.dom i->s.μ g≠ss.μ i:=fun g y hy hl hno i hi⟨g',e',hd'⟩ em=>by
  obtain⟨y',hy',hl'⟩:=hlogged i g' hi e'
  rw[eμ i g' e']at em
  have:=hH.inj g g' y y' hy hy' hl hl' em
  subst this
  exact hno i e'
 refine⟨u,s2,rfl,Ca.rv g2 T2 _ _ _ hv g1,⟨fun g y hy hl=>?_,fun g g' y y' hy hy' hl hl' em=>?_,fun b hb=>?_⟩,⟨⟨⟨fun g hd=>lμ g (hlow g hd),fun g hd=>lcp g (hlow g hd),fun g hd=>.inl hd,fun b hb=>g3.le.fz b hb⟩,fun _ hm=>hm⟩,fun b hb=>?_,fun b hb=>g3.kept b hb,g3.mod.mono ?_,fun g hd hno=>?_⟩,fun i=>Iff.rfl,hnx⟩
 ·-- each object
  rcases hH' g y hy hl with⟨i,o,e,ho,hvo⟩|⟨hno,hg,hy0⟩
  ·obtain ⟨a1, a2, a3, a4⟩ := g2.obj i o ho (hvo.live hl)
   obtain⟨b1,b2,b3⟩:=T2.ren g i e a1
   refine⟨b1,by rw[b2];exact a2,?_,hvo.ro g2 T2 e a1 a4⟩
   rw[b2]
   rintro(hf|hm)
   ·exact a3 (.inl hf)
   ·exact a3 (.inr (g3.le.mark _ hm))
  ·obtain ⟨a1, a2, a3, a4⟩ := hH.obj g y hy0 hl
   have hblk:w'.heap[s.μ g]? =w.heap[s.μ g]? :=g3.mod.block _ a2 (fun⟨i,hi,hd,em⟩=>xg g y hy0 hl hno i hi hd em)
   have hkept:Dl s w w':=fun b hb=>g3.kept b (.inl hb)
   refine⟨.inl a1,by rw[lμ g hg];omega,?_,RO.mono' (s:=s) (s':=s2) ⟨fun g hd=>lμ g (hlow g hd),fun g hd=>lcp g (hlow g hd),fun g hd=>.inl hd,fun b hb=>g3.le.fz b hb⟩ hkept a1 a4 (fun _=>hblk)⟩
   rw[lμ g hg]
   rintro(hf|hm)
   ·rcases g3.fz _ hf with hf | hge | ⟨i, hi, hd, em, _⟩
    ·exact a3 (.inl hf)
    ·omega
    ·exact xg g y hy0 hl hno i hi hd em
   ·exact a3 (.inr hm)
 ·-- no two in one block
  have Af: ∀g i o g' y',σ g=some i->r.H.get i=some o->o.live=true->(∀i,ρ i≠some g')->g'<nx->H.get g'=some y'->y'.live=true->s2.μ g=s2.μ g'->False:=by
   intro g i o g' y' e ho hlo hno hg' hy0 hly em
   obtain⟨a1,a2,a3,a4⟩:=g2.obj i o ho hlo
   obtain⟨b1,b2,b3⟩:=T2.ren g i e a1
   rw[b2,lμ g' hg']at em
   obtain⟨c1,c2,c3,c4⟩:=hH.obj g' y' hy0 hly
   rcases hσ g i e with⟨hi,er⟩|⟨hg1,hg2,hi1,hi2⟩
   ·obtain ⟨d1, d2, _⟩ := hold i g hi er a1
    obtain⟨o0,ho0,hl0⟩:=hlive i hi (.inr ⟨o,ho,hlo⟩)
    obtain⟨g2',y2,e2',hy2,hvo2⟩:=hobj i o0 ho0 hl0
    rw[er]at e2';cases e2'
    rw[d2]at em
    have:=hH.inj g g' y2 y' hy2 hy0 (hvo2.live hl0) hly em
    subst this
    exact hno i er
   ·have hnd : ¬ ss.dom i := fun ⟨g0, e0, _⟩ => absurd (hρk i g0 e0) o_
    rcases g3.new i a1 hnd with hge|⟨j,hj,hdj,emj⟩
    ·omega
    ·exact xg g' y' hy0 hly hno j hj hdj (em.symm.trans emj)
  rcases hH' g y hy hl with⟨i,o,e,ho,hvo⟩|⟨hno,hg,hy0⟩<;>rcases hH' g' y' hy' hl' with⟨i',o',e',ho',hvo'⟩|⟨hno',hg',hy0'⟩
  ·obtain ⟨a1, _⟩ := g2.obj i o ho (hvo.live hl)
   obtain⟨a1',_⟩:=g2.obj i' o' ho' (hvo'.live hl')
   obtain⟨_,b2,_⟩:=T2.ren g i e a1
   obtain⟨_,b2',_⟩:=T2.ren g' i' e' a1'
   rw[b2,b2']at em
   have:=g2.inj i i' o o' ho ho' (hvo.live hl) (hvo'.live hl') em
   subst this
   exact hσi g g' i e e'
  ·exact(Af g i o g' y' e ho (hvo.live hl) hno' hg' hy0' hl' em).elim
  ·exact(Af g' i' o' g y e' ho' (hvo'.live hl') hno hg hy0 hl em.symm).elim
  ·rw [lμ g hg, lμ g' hg'] at em
   exact hH.inj g g' y y' hy0 hy0' hl hl' em
 ·rcases hb with hb | hm
  ·exact g2.old b (.inl hb)
  ·have:=hH.old b (.inr hm);omega
 ·rcases g3.fz b hb with hf | hge | ⟨i, hi, ⟨g, e, hd⟩, em, hm⟩
  ·exact .inl hf
  ·exact .inr (.inl hge)
  ·exact .inr (.inr ⟨g,hlgk i hi g e,hd,by rw[em,eμ i g e],hm⟩)
 ·rintro b ⟨i, hi, ⟨g, e, hd⟩, em⟩
  exact⟨g,hlgk i hi g e,hd,by rw[em,eμ i g e]⟩
 ·rcases hd with hd | ⟨hg1, hg2⟩
  ·exact absurd hd hno
  ·obtain ⟨i, e, hi1, hi2⟩ := hσn g hg1 hg2
   have hdi:s'.dom i:=(g4 i).2 (.inr ⟨hi1,hi2⟩)
   have hnd: ¬ss.dom i:=fun⟨g0,e0,_⟩=>absurd (hρk i g0 e0) o_
   rw[nμ g i o_ e]
   rcases g3.new i hdi hnd with hge|⟨j,hj,⟨g0,e0,hd0⟩,em⟩
   ·exact .inl hge
   ·exact .inr ⟨g0,hlgk j hj g0 e0,hd0,by rw[em,eμ j g0 e0]⟩
end
mutual
def vm(b:Nat->Nat->Bool):V->V->Prop
 | .bool x,.bool y=>x=y
 | .int k x,.int k' y=>bif decide (k=k')then x=y else False
 | .str x,.str y=>x=y
 | .nilp,.nilp=>True
 | .nilf,.nilf=>True
 | .nili,.nili=>True
 | .nils,.nils=>True
 | .nilm,.nilm=>True
 | .ptr h off,.ptr g off'=>bif b h g then off=off' else False
 | .sl h off len room,.sl g off' len' room'=>bif b h g then off=off'/\len=len'/\roomP room room' else False
 | .mp h,.mp g=>bif b h g then True else False
 | .yld h,.yld g=>bif b h g then True else False
 | .fn f l,.fn f' l'=>bif Nat.beq f f' then vmL b l l' else False
 | .agg l,.agg l'=>vmL b l l'
 | .tup l,.tup l'=>vmL b l l'
 | .ifc t x,.ifc t' x'=>bif Nat.beq t t' then vm b x x' else False
 | .im n l,.im n' l'=>n=n'/\l=l'
 | .imp l,.imp l'=>l=l'
 | _,_=>False
def vmL(b:Nat->Nat->Bool):List V->List V->Prop
 |[],[]=>True
 |x::xs,y::ys=>vm b x y/\vmL b xs ys
 | _,_=>False
end
mutual
theorem Qm6{b:Nat->Nat->Bool}{ρ:Nat->Option Nat}{H:Nat->Option O}{F:Nat->Prop}(hb: ∀h g,b h g=true->ρ h=some g): ∀(x y:V),vm b x y->Ca H F ρ x y
 | .bool a,y,h=>by cases y<;>first|(exact h.elim;done)|(cases h;rfl)
 | .int k a,y,h=>by
  cases y<;>try(exact h.elim;done)
  obtain⟨h1,h2⟩:=Qak h
  have:=of_decide_eq_true h1
  subst this;cases h2;rfl
 | .str a,y,h=>by cases y<;>first|(exact h.elim;done)|(cases h;rfl)
 | .nilp,y,h=>by cases y<;>first|(exact h.elim;done)|rfl
 | .nilf,y,h=>by cases y<;>first|(exact h.elim;done)|rfl
 | .nili,y,h=>by cases y<;>first|(exact h.elim;done)|rfl
 | .nils,y,h=>by cases y<;>first|(exact h.elim;done)|rfl
 | .nilm,y,h=>by cases y<;>first|(exact h.elim;done)|rfl
 | .ptr i off,y,h=>by
  cases y<;>try(exact h.elim;done)
  obtain⟨h1,rfl⟩:=Qak h
  exact⟨_,hb _ _ h1,rfl⟩
 | .sl i off len room,y,h=>by
  cases y<;>try(exact h.elim;done)
  obtain⟨h1,rfl,rfl,h2⟩:=Qak h
  have:=Qos h2
  subst this
  exact⟨_,hb _ _ h1,rfl⟩
 | .mp i,y,h=>by
  cases y<;>try(exact h.elim;done)
  obtain⟨h1,_⟩:=Qak h
  exact⟨_,hb _ _ h1,rfl⟩
 | .yld i,y,h=>by
  cases y<;>try(exact h.elim;done)
  obtain⟨h1,_⟩:=Qak h
  exact⟨_,hb _ _ h1,rfl⟩
 | .fn f l,y,h=>by
  cases y<;>try(exact h.elim;done)
  obtain⟨h1,h2⟩:=Qak h
  have:=Nat.eq_of_beq_eq_true h1
  subst this
  exact⟨_,rfl,Qd4 hb _ _ h2⟩
 | .agg l,y,h=>by
  cases y<;>try(exact h.elim;done)
  exact⟨_,rfl,Qd4 hb _ _ h⟩
 | .tup l,y,h=>by
  cases y<;>try(exact h.elim;done)
  exact⟨_,rfl,Qd4 hb _ _ h⟩
 | .ifc t x,y,h=>by
  cases y<;>try(exact h.elim;done)
  obtain⟨h1,h2⟩:=Qak h
  have:=Nat.eq_of_beq_eq_true h1
  subst this
  exact⟨_,rfl,Qm6 hb x _ h2⟩
 | .im n l,y,h=>by
  cases y<;>try(exact h.elim;done)
  obtain⟨rfl,rfl⟩:=h;exact .inl rfl
 | .imp l,y,h=>by
  cases y<;>try(exact h.elim;done)
  cases h;exact .inl rfl
theorem Qd4{b:Nat->Nat->Bool}{ρ:Nat->Option Nat}{H:Nat->Option O}{F:Nat->Prop}(hb: ∀h g,b h g=true->ρ h=some g): ∀(l m:List V),vmL b l m->Be H F ρ l m
 |[],m,h=>by cases m with
  |nil=>rfl
  |cons _ _=>exact h.elim
 |x::xs,m,h=>by cases m with
  |nil=>exact h.elim
  |cons y ys=>exact⟨y,ys,rfl,Qm6 hb x y h.1,Qd4 hb xs ys h.2⟩
end
def vmO(b:Nat->Nat->Bool)(md:Nat):O->O->Prop
 | .row t sp c,.row t' sp' c'=>bif Nat.beq t t'&&beqON sp sp' then(match md with
  |0=>c=c'/\HfL c
  | _=>vmL b c c')else False
 | .map es ck,.map es' ck'=>es=es'/\HfE es/\ck=ck'
 | .dead,.dead=>True
 | _,_=>False
theorem Qo3{b:Nat->Nat->Bool}{ρ:Nat->Option Nat}{H:Nat->Option O}{F:Nat->Prop}(hb: ∀h g,b h g=true->ρ h=some g){md:Nat}{o y:O}(h:vmO b md o y):Ej H F ρ o y:=by
 cases o with
 |row t sp c=>
  cases y<;>try(exact h.elim;done)
  obtain⟨h1,h2⟩:=Qak h
  rw[Bool.and_eq_true]at h1
  have e1:=Nat.eq_of_beq_eq_true h1.1
  have e2:=Qnj h1.2
  subst e1 e2
  refine⟨_,rfl,?_⟩
  split at h2
  ·obtain⟨rfl,h3⟩:=h2;exact Be.of_hf _ h3
  ·exact Qd4 hb _ _ h2
 |map es ck=>
  cases y<;>try(exact h.elim;done)
  obtain⟨rfl,h1,rfl⟩:=h
  exact⟨_,rfl,Dr.of_hf _ h1⟩
 |iter m since jz last=>cases y<;>exact h.elim
 |loop=>cases y<;>exact h.elim
 |dead=>trivial
def hupB(L:List Nat)(i g:Nat):Bool:=match L[i]? with|some x=>Nat.beq x g|none=>false
def Fo:List (Nat×Nat)->Nat->Option Nat
 |[],_=>none
 |(g,i)::M,x=>bif Nat.beq g x then some i else Fo M x
def hdnB(M:List (Nat×Nat))(g i:Nat):Bool:=match Fo M g with|some x=>Nat.beq x i|none=>false
def Qib:List Nat->Bool
 |[]=>true
 |x::xs=> !(xs.any fun y=>Nat.beq y x)&&Qib xs
def Qsb(os:List O)(i:Nat):Bool:=match os[i]? with|some o=>o.live|none=>false
def frB(k k1 n n1:Nat)(L:List Nat)(M:List (Nat×Nat))(lg lg':List Nat)(lv0 lv1:Nat->Bool):Bool:=
 Nat.beq L.length k&&(Qib L&&(L.all (fun g=>Nat.blt g n)&&(Nat.ble n n1&&(Qib (M.map (·.1))&&(Qib (M.map (·.2))&&
 (M.all (fun p=>(Nat.blt p.2 k&&hupB L p.2 p.1)||(Nat.ble n p.1&&Nat.blt p.1 n1&&Nat.ble k p.2&&Nat.blt p.2 k1))&&
 ((List.range n1).all (fun g=>Nat.blt g n||(match Fo M g with|some i=>Nat.ble k i|none=>false))&&
 (lg.all (fun i=>(Nat.ble k i)||(match L[i]? with|some g=>lg'.any (Nat.beq g)|none=>false))&&
 ((List.range k).all (fun i=> !(lg.any (Nat.beq i)||lv1 i)||lv0 i))))))))))
def frO (L : List Nat) (OS : List O) : Nat -> List O -> List Nat -> Prop
 | _,[],_=>True
 | i, o :: os, md => (match o with
  | .dead=>True
  | o => match L[i]? with
   |some g=>match OS[g]? with
    |some y=>vmO (hupB L) (md.headD 0) o y
    |none=>False
   |none=>False)/\frO L OS (i+1) os md.tail
def frN (n : Nat) (M : List (Nat × Nat)) (L lg' : List Nat) (OS os1 : List O) : Nat -> List O -> List Nat -> Prop
 | _,[],_=>True
 | g, y :: ys, md => (bif Nat.blt g n && !(lg'.any (Nat.beq g)) then OS[g]? = some y else True) /\
  (match y with
  | .dead=>True
  | y => match Fo M g with
   |some i=>match os1[i]? with
    |some o=>vmO (hdnB M) (md.headD 0) y o
    |none=>False
   |none=>bif L.any (Nat.beq g)then False else bif Nat.blt g n then OS[g]? =some y else False)/\frN n M L lg' OS os1 (g+1) ys md.tail
theorem Qmh{L:List Nat}{i g:Nat}(h:hupB L i g=true):L[i]? =some g:=by
 unfold hupB at h
 split at h
 ·rename_i x e;rw[e,Nat.eq_of_beq_eq_true h]
 ·cases h
theorem Qr0{M:List (Nat×Nat)}{g i:Nat}(h:hdnB M g i=true):Fo M g=some i:=by
 unfold hdnB at h
 split at h
 ·rename_i x e;rw[e,Nat.eq_of_beq_eq_true h]
 ·cases h
theorem Qfn: ∀{M:List (Nat×Nat)}{g i:Nat},Fo M g=some i->(g,i)∈M
 |[],_,_,h=>by cases h
 | (a, j) :: M, g, i, h => by
  unfold Fo at h
  cases hb:Nat.beq a g with
  |true=>
   rw[hb,cond_true]at h
   cases h
   rw[Nat.eq_of_beq_eq_true hb]
   exact List.mem_cons_self
  |false=>
   rw[hb,cond_false]at h
   exact List.mem_cons_of_mem _ (Qfn h)
theorem Qch: ∀{l:List Nat},Qib l=true->l.Nodup
 |[],_=>List.nodup_nil
 |x::l,h=>by
  unfold Qib at h
  rw[Bool.and_eq_true,Bool.not_eq_true']at h
  refine List.nodup_cons.2 ⟨fun hm=>?_,Qch h.2⟩
  have:(l.any fun y=>Nat.beq y x)=true:=List.any_eq_true.2 ⟨x,hm,Nat.beq_refl x⟩
  rw[this]at h
  cases h.1
theorem Qiw{l:List Nat}{g:Nat}:l.any (Nat.beq g)=true↔g∈l:=by
 rw[List.any_eq_true]
 constructor
 ·rintro⟨x,hx,h⟩;rw[Nat.eq_of_beq_eq_true h];exact hx
 ·intro h;exact⟨g,h,Nat.beq_refl g⟩
theorem Qrx{L:List Nat}{OS:List O}: ∀{os:List O}{i:Nat}{md:List Nat},frO L OS i os md->∀(j:Nat)(o:O),os[j]? =some o->o.live=true->∃g y m,L[i+j]? =some g/\OS[g]? =some y/\vmO (hupB L) m o y
 |[],_,_,_,_,_,h,_=>by simp at h
 | x :: os, i, md, h, 0, o, hj, hl => by
  obtain rfl:x=o:=by simpa using hj
  have h1:=h.1
  cases x<;>first|(cases hl;done)|skip
  all_goals
   dsimp only at h1
   split at h1
   ·rename_i g hg
    split at h1
    ·rename_i y hy;exact⟨g,y,_,hg,hy,h1⟩
    ·exact h1.elim
   ·exact h1.elim
 |x::os,i,md,h,j+1,o,hj,hl=>by
  obtain⟨g,y,m,h1,h2,h3⟩:=Qrx h.2 j o (by simpa using hj) hl
  exact⟨g,y,m,by rw[show i+(j+1)=i+1+j by omega];exact h1,h2,h3⟩
theorem Ag{n:Nat}{M:List (Nat×Nat)}{L lg':List Nat}{OS os1:List O}: ∀{ys:List O}{g:Nat}{md:List Nat},frN n M L lg' OS os1 g ys md->∀(j:Nat)(y:O),ys[j]? =some y->
  (g+j<n->g+j∉lg'->OS[g+j]? =some y)/\(y.live=true->(∃i o m,Fo M (g+j)=some i/\os1[i]? =some o/\vmO (hdnB M) m y o)\/(g+j∉L/\g+j<n/\OS[g+j]? =some y))
 |[],_,_,_,_,_,h=>by simp at h
 | x :: ys, g, md, h, 0, y, hj => by
  obtain rfl:x=y:=by simpa using hj
  obtain⟨h1,h2,_⟩:=h
  refine⟨fun hlt hno=>?_,fun hl=>?_⟩
  ·have hb : (Nat.blt (g + 0) n && !(lg'.any (Nat.beq (g + 0)))) = true := by
    rw[Bool.and_eq_true,Bool.not_eq_true']
    refine⟨Nat.ble_eq_true_of_le hlt,?_⟩
    cases hb:lg'.any (Nat.beq (g+0))with
    |false=>rfl
    |true=>exact absurd (Qiw.1 hb) hno
   rw[Nat.add_zero]at hb⊢
   rw[hb,cond_true]at h1
   exact h1
  ·rw [Nat.add_zero]
   have key:(match Fo M g with
     |some i=>match os1[i]? with
      |some o=>vmO (hdnB M) (md.headD 0) x o
      |none=>False
     |none=>bif L.any (Nat.beq g)then False else bif Nat.blt g n then OS[g]? =some x else False):=by
    cases x<;>first|(cases hl;done)|exact h2
   split at key
   ·rename_i i hi
    split at key
    ·rename_i o ho;exact .inl ⟨i,o,_,hi,ho,key⟩
    ·exact key.elim
   ·cases hL : L.any (Nat.beq g) with
    |true=>rw[hL,cond_true]at key;exact key.elim
    |false=>
     rw[hL,cond_false]at key
     obtain⟨hb,hk⟩:=Qak key
     exact .inr ⟨fun hm=>(by rw[Qiw.2 hm]at hL;cases hL),Nat.le_of_ble_eq_true hb,hk⟩
 |x::ys,g,md,h,j+1,y,hj=>by
  have:=Ag h.2.2 j y (by simpa using hj)
  rw[show g+(j+1)=g+1+j by omega]
  exact this
theorem Qci: ∀(os:List O)(t:T O)(k i:Nat),k<=i->i<k+os.length->(Ae t k os).get i=os[i-k]?
 |[],_,_,_,h1,h2=>by simp at h2;omega
 | o :: os, t, k, i, h1, h2 => by
  rw[Ae]
  by_cases hi:i=k
  ·subst hi
   have: ∀(os:List O)(t:T O)(j i:Nat),i<j->(Ae t j os).get i=t.get i:=by
    intro os
    induction os with
    |nil=>intro t j i _;rfl
    |cons o os ih=>
     intro t j i h
     rw[Ae,ih _ _ _ o_,Bl,T.get_put,if_neg o_]
   rw[this _ _ _ _ o_,Bl,T.get_put,if_pos rfl]
   simp
  ·rw [Qci os _ _ _ o_ (by simp at h2; omega)]
   rw[show i-k=(i-(k+1))+1 by omega,List.getElem?_cons_succ]
theorem Qb1{os:List O}{i:Nat}(h:os.length<=i):(Ae .e 0 os).get i=none:=by
 cases hg:(Ae .e 0 os).get i with
 |none=>rfl
 | some o =>
  rcases Cs os .e 0 i o hg with⟨_,h2⟩|h2
  ·have := (List.getElem?_eq_some_iff.1 h2).1
   omega
  ·cases h2
theorem Aa.frameL{P:Program}{gl:T (List V)}{f:Nat}{ars ars':List V}{os0 os1 OS OS':List O}{v v':V}{lg lg':List Nat}(L:List Nat)(M:List (Nat×Nat))(md0 md1:List Nat)
  (h:Aa P gl (.fn f []) ars (Ae .e 0 os0) os0.length ⟨v,Ae .e 0 os1,os1.length,lg⟩)
  (hb:frB os0.length os1.length OS.length OS'.length L M lg lg' (Qsb os0) (Qsb os1)=true)
  (ha:vmL (hupB L) ars ars')(ho:frO L OS 0 os0 md0)(hv:vm (hdnB M) v' v)(hn:frN OS.length M L lg' OS os1 0 OS' md1):Aa P gl (.fn f []) ars' (Ae .e 0 OS) OS.length ⟨v',Ae .e 0 OS',OS'.length,lg'⟩:=by
 unfold frB at hb
 simp only[Bool.and_eq_true]at hb
 obtain⟨b1,b2,b3,b4,b5,b6,b7,b8,b9,b10⟩:=hb
 have b1:=Nat.eq_of_beq_eq_true b1
 have b2:=Qch b2
 have b4:=Nat.le_of_ble_eq_true b4
 have b5:=Qch b5
 have b6:=Qch b6
 have hat: ∀(os:List O)(i:Nat)(o:O),(Ae .e 0 os).get i=some o↔os[i]? =some o:=fun os i o=>by
  by_cases hi:i<os.length
  ·rw[Qci _ _ _ _ (Nat.zero_le _) o_,Nat.sub_zero]
  ·rw[Qb1 o_,List.getElem?_eq_none o_]
 have hL: ∀i g,L[i]? =some g->g<OS.length:=fun i g e=>Nat.le_of_ble_eq_true (List.all_eq_true.1 b3 g (List.mem_of_getElem? e))
 have hM: ∀g i,Fo M g=some i->(i<os0.length/\L[i]? =some g)\/(OS.length<=g/\g<OS'.length/\os0.length<=i/\i<os1.length):=fun g i e=>by
  have:=List.all_eq_true.1 b7 _ (Qfn e)
  rw[Bool.or_eq_true]at this
  rcases this with h1|h1
  ·rw [Bool.and_eq_true] at h1
   exact .inl ⟨Nat.le_of_ble_eq_true h1.1,Qmh h1.2⟩
  ·simp only [Bool.and_eq_true] at h1
   exact .inr ⟨Nat.le_of_ble_eq_true h1.1.1.1,Nat.le_of_ble_eq_true h1.1.1.2,Nat.le_of_ble_eq_true h1.1.2,Nat.le_of_ble_eq_true h1.2⟩
 refine Aa.frameR (ρ:=fun i=>L[i]?) (σ:=Fo M) h (fun i g e=>by have:=(List.getElem?_eq_some_iff.1 e).1;omega) (fun i j g e1 e2=>?_) (Qd4 (fun h g hb=>Qmh hb) _ _ ha) (fun i o hi hl=>?_) hM (fun g g' i e1 e2=>?_) (fun g h1 h2=>?_) b4 (Qm6 (fun h g hb=>Qr0 hb) _ _ hv) (fun g y hy hl=>?_) (fun i hi hor=>?_) (fun i hi g e=>?_) ⟨b4,fun g hno hnr=>?_⟩
 ·exact(List.getElem?_inj (List.getElem?_eq_some_iff.1 e1).1 b2).1 (e1.trans e2.symm)
 ·rw [hat] at hi
  obtain⟨g,y,m,h1,h2,h3⟩:=Qrx ho i o hi hl
  rw[Nat.zero_add]at h1
  exact⟨g,y,h1,(hat _ _ _).2 h2,Qo3 (fun h g hb=>Qmh hb) h3⟩
 ·have m1 := Qfn e1
  have m2:=Qfn e2
  obtain⟨a,ha,ea⟩:=List.mem_iff_getElem.1 m1
  obtain⟨c,hc,ec⟩:=List.mem_iff_getElem.1 m2
  have:a=c:=by
   refine(List.getElem?_inj (l:=M.map (·.2)) (by simpa using ha) b6).1 ?_
   simp[ha,hc,ea,ec]
  subst this
  rw[ea]at ec
  cases ec;rfl
 ·have := List.all_eq_true.1 b8 g (List.mem_range.2 h2)
  rw[Bool.or_eq_true]at this
  rcases this with h3|h3
  ·have:=Nat.le_of_ble_eq_true h3;omega
  ·split at h3
   ·rename_i i e
    refine⟨i,e,Nat.le_of_ble_eq_true h3,?_⟩
    rcases hM g i e with⟨h4,h5⟩|⟨_,_,_,h4⟩
    ·have:=Nat.le_of_ble_eq_true h3;omega
    ·exact h4
   ·cases h3
 ·rw [hat] at hy
  rcases(Ag hn g y hy).2 hl with⟨i,o,m,h1,h2,h3⟩|⟨h1,h2,h3⟩
  ·rw [Nat.zero_add] at h1
   exact .inl ⟨i,o,h1,(hat _ _ _).2 h2,Qo3 (fun h g hb=>Qr0 hb) h3⟩
  ·rw [Nat.zero_add] at h1 h2 h3
   exact .inr ⟨fun i e=>h1 (List.mem_of_getElem? e),h2,(hat _ _ _).2 h3⟩
 ·have := List.all_eq_true.1 b10 i (List.mem_range.2 hi)
  rw[Bool.or_eq_true,Bool.not_eq_true',Bool.or_eq_false_iff]at this
  have hlv:Qsb os0 i=true:=by
   rcases this with⟨h1,h2⟩|h1
   ·rcases hor with h3 | ⟨o, h3, h4⟩
    ·rw[Qiw.2 h3]at h1;cases h1
    ·dsimp only at h3
     rw[hat]at h3
     unfold Qsb at h2
     rw[h3]at h2
     dsimp only at h2
     rw[h4]at h2;cases h2
   ·exact h1
  unfold Qsb at hlv
  split at hlv
  ·rename_i o ho';exact⟨o,(hat _ _ _).2 ho',hlv⟩
  ·cases hlv
 ·have := List.all_eq_true.1 b9 i hi
  rw[Bool.or_eq_true]at this
  have hik:i<os0.length:=by have:=(List.getElem?_eq_some_iff.1 e).1;omega
  rcases this with h1|h1
  ·have:=Nat.le_of_ble_eq_true h1;omega
  ·rw [e] at h1
   exact Qiw.1 h1
 ·by_cases hg : g < OS.length
  ·have hg' : g < OS'.length := by omega
   have:=(Ag hn g OS'[g] (List.getElem?_eq_getElem hg')).1 o_ (by rw[Nat.zero_add];exact hno)
   rw[Nat.zero_add]at this
   rw[(hat OS' g OS'[g]).2 (List.getElem?_eq_getElem hg')]
   exact((hat OS g OS'[g]).2 this).symm
  ·have hg' : ¬ g < OS'.length := fun h => hnr ⟨by omega, h⟩
   rw[Qb1 o_,Qb1 o_]
end Go.Proofs.YtakfneapahohkaaDoor.Am
