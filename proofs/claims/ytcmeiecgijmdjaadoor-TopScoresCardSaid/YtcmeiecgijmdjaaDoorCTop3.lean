/- Texts behind the claim, part 3: the abstract machine, and what the functions answer. No condition. -/
import Derived.Test.YtcmeiecgijmdjaaDoorCTop2
set_option linter.unusedVariables false
set_option maxHeartbeats 4000000
set_option maxRecDepth 100000
set_option linter.unusedSimpArgs false
set_option linter.unusedSectionVars false
namespace Go.Proofs.YtcmeiecgijmdjaaDoor.Am
open Go.RowKit
mutual
def View(H:Nat→Option O)(F:Nat→Prop):(Nat→Option Nat)→V→V→Prop
 |ρ,.ptr h off,y=>∃g,ρ h=some g∧y= .ptr g off
 |ρ,.sl h off len room,y=>∃g,ρ h=some g∧y= .sl g off len room
 |ρ,.mp h,y=>∃g,ρ h=some g∧y= .mp g
 |ρ,.yld h,y=>∃g,ρ h=some g∧y= .yld g
 |ρ,.fn f l,y=>∃l',y= .fn f l'∧ViewL H F ρ l l'
 |ρ,.mfn f l,y=>∃l',y= .mfn f l'∧ViewL H F ρ l l'
 |ρ,.agg l,y=>∃l',y= .agg l'∧ViewL H F ρ l l'
 |ρ,.tup l,y=>∃l',y= .tup l'∧ViewL H F ρ l l'
 |ρ,.ifc t x,y=>∃x',y= .ifc t x'∧View H F ρ x x'
 | _,.im n l,y=>y= .im n l∨(y= .nils∧n=0)∨∃g off room t sp c,y= .sl g off n room∧F g∧H g=some (.row t sp c)∧ViewP H F l (c.drop off)
 | _,.imp l,y=>y= .imp l∨∃g off t sp c,y= .ptr g off∧F g∧H g=some (.row t sp c)∧ViewP H F l (c.drop off)
 | _,.bool b,y=>y= .bool b
 | _,.int k n,y=>y= .int k n
 | _,.str x,y=>y= .str x
 | _,.nilp,y=>y= .nilp
 | _,.nilf,y=>y= .nilf
 | _,.nili,y=>y= .nili
 | _,.nils,y=>y= .nils
 | _,.nilm,y=>y= .nilm
def ViewL(H:Nat→Option O)(F:Nat→Prop):(Nat→Option Nat)→List V→List V→Prop
 | _,[],ys=>ys=[]
 |ρ,x::xs,ys=>∃y ys',ys=y::ys'∧View H F ρ x y∧ViewL H F ρ xs ys'
def ViewP(H:Nat→Option O)(F:Nat→Prop):List V→List V→Prop
 |[],_=>True
 |x::xs,ys=>∃y ys',ys=y::ys'∧View H F (fun _=>none) x y∧ViewP H F xs ys'
end
structure Turned(H:Nat→Option O)(F:Nat→Prop)(ρ:Nat→Option Nat)(s s':Sig):Prop where
 ren: ∀h g,ρ h=some g→s.dom g→s'.dom h∧s'.μ h=s.μ g∧s'.cp h=s.cp g
 frz: ∀g t sp c,F g→H g=some (.row t sp c)→s'.fz (s.μ g)
 fz: ∀b,s.fz b→s'.fz b
theorem Turned.bare{H:Nat→Option O}{F:Nat→Prop}{ρ:Nat→Option Nat}{s s':Sig}(h:Turned H F ρ s s'):Turned H F (fun _=>none) s s'.bare:=
 ⟨fun _ _ e=>(by cases e),h.frz,h.fz⟩
mutual
theorem View.rv{H:Nat→Option O}{F:Nat→Prop}{s:Sig}{w:World}(hH:RH s w H): ∀{ρ:Nat→Option Nat}{s':Sig}(_:Turned H F ρ s s')(x y:V)(v:Value),View H F ρ x y→RV s w y v→RV s' w x v
 | _,_,T,.ptr h off,_,_,⟨g,e,hy⟩,hv=>by subst hy;obtain⟨a,b,_⟩:=T.ren h g e hv.1;exact⟨a,by rw[b];exact hv.2⟩
 | _,_,T,.sl h off len room,_,_,⟨g,e,hy⟩,hv=>by subst hy;obtain⟨a,b,c⟩:=T.ren h g e hv.1;exact⟨a,by rw[b,c];exact hv.2⟩
 | _,_,T,.mp h,_,_,⟨g,e,hy⟩,hv=>by subst hy;obtain⟨a,b,_⟩:=T.ren h g e hv.1;exact⟨a,by rw[b];exact hv.2⟩
 | _,_,T,.yld h,_,_,⟨g,e,hy⟩,hv=>by subst hy;obtain⟨a,b,_⟩:=T.ren h g e hv.1;exact⟨a,by rw[b];exact hv.2⟩
 | _,_,T,.fn f l,_,_,⟨l',hy,hl⟩,hv=>by subst hy;obtain⟨vs,e,h⟩:=hv;exact⟨vs,e,ViewL.rl hH T l l' _ hl h⟩
 | _,_,T,.mfn f l,_,_,⟨l',hy,hl⟩,hv=>by subst hy;obtain⟨vs,e,h⟩:=hv;exact⟨vs,e,ViewL.rl hH T l l' _ hl h⟩
 | _,_,T,.agg l,_,_,⟨l',hy,hl⟩,hv=>by subst hy;obtain⟨vs,e,h⟩:=hv;exact⟨vs,e,ViewL.rl hH T l l' _ hl h⟩
 | _,_,T,.tup l,_,_,⟨l',hy,hl⟩,hv=>by subst hy;obtain⟨vs,e,h⟩:=hv;exact⟨vs,e,ViewL.rl hH T l l' _ hl h⟩
 | _,_,T,.ifc t x,_,_,⟨x',hy,hx⟩,hv=>by subst hy;obtain⟨u,e,h⟩:=hv;exact⟨u,e,View.rv hH T x x' _ hx h⟩
 | _, _, T, .im n l, _, _, hx, hv => by
  rcases hx with rfl|⟨rfl,rfl⟩|⟨g,off,room,t,sp,c,rfl,hF,hg,hl⟩
  ·obtain ⟨a, cap, e, hc, h⟩ := hv;exact⟨a,cap,e,hc,fun hn=>let ⟨b,off,ha,hl⟩:=h hn;⟨b,off,ha,RC.mono' T.fz (fun _ _=>rfl) l b off hl⟩⟩
  ·obtain rfl := hv;exact⟨none,0,rfl,Nat.le_refl _,fun h=>absurd rfl h⟩
  ·obtain ⟨_, cap, e, hc, _⟩ := hv;refine⟨_,cap,e,hc,fun _=>⟨_,_,rfl,?_⟩⟩
   obtain⟨_,_,_,vs,rest,b1,b2,_⟩:=hH.obj _ _ hg rfl;exact ViewP.rc hH T (T.frz g t sp c hF hg) l _ _ off hl (b2.drop off) (fun j v hv=>by
    simp only[World.cell?,b1];rw[List.getElem?_drop]at hv;obtain⟨hlt,he⟩:=List.getElem?_eq_some_iff.1 hv;simp[List.getElem?_append,hlt,he])
 | _, _, T, .imp l, _, _, hx, hv => by
  rcases hx with rfl|⟨g,off,t,sp,c,rfl,hF,hg,hl⟩
  ·obtain ⟨b, off, e, hl⟩ := hv;exact⟨b,off,e,RC.mono' T.fz (fun _ _=>rfl) l b off hl⟩
  ·obtain ⟨_, rfl⟩ := hv;refine⟨_,_,rfl,?_⟩;obtain⟨_,_,_,vs,rest,b1,b2,_⟩:=hH.obj _ _ hg rfl;exact ViewP.rc hH T (T.frz g t sp c hF hg) l _ _ off hl (b2.drop off) (fun j v hv=>by
    simp only[World.cell?,b1];rw[List.getElem?_drop]at hv;obtain⟨hlt,he⟩:=List.getElem?_eq_some_iff.1 hv;simp[List.getElem?_append,hlt,he])
 | _,_,_,.bool _,_,_,h,hv| _,_,_,.int _ _,_,_,h,hv| _,_,_,.str _,_,_,h,hv| _,_,_,.nilp,_,_,h,hv| _,_,_,.nilf,_,_,h,hv| _,_,_,.nili,_,_,h,hv| _,_,_,.nils,_,_,h,hv| _,_,_,.nilm,_,_,h,hv=>by subst h;exact hv
theorem ViewL.rl{H:Nat→Option O}{F:Nat→Prop}{s:Sig}{w:World}(hH:RH s w H): ∀{ρ:Nat→Option Nat}{s':Sig}(_:Turned H F ρ s s')(l l':List V)(vs:List Value),ViewL H F ρ l l'→RL s w l' vs→RL s' w l vs
 | _,_,_,[],_,_,h,hv=>by subst h;exact hv
 | _,_,T,x::xs,_,_,⟨y,ys,e,hx,hl⟩,hv=>by
  subst e;obtain⟨v,vs',rfl,h1,h2⟩:=hv;exact⟨v,vs',rfl,View.rv hH T x y v hx h1,ViewL.rl hH T xs ys vs' hl h2⟩
theorem ViewP.rc{H:Nat→Option O}{F:Nat→Prop}{s:Sig}{w:World}(hH:RH s w H): ∀{ρ:Nat→Option Nat}{s':Sig}(_:Turned H F ρ s s'){b:Nat}(_:s'.fz b)(l l':List V)(vs:List Value)(off:Nat),ViewP H F l l'→RL s w l' vs→(∀(j:Nat)(v:Value),vs[j]? =some v→w.cell? ⟨b,off+j,none⟩=some v)→RC s' w l b off
 | _,_,_,_,_,[],_,_,_,_,_,_=>trivial
 | _,_,T,b,hb,x::xs,_,_,off,⟨y,ys,e,hx,hl⟩,hv,hc=>by
  subst e;obtain⟨v,vs',rfl,h1,h2⟩:=hv;refine⟨⟨hb,v,hc 0 v rfl,View.rv hH T.bare x y v hx h1⟩,ViewP.rc hH T hb xs ys vs' (off+1) hl h2 (fun j u hu=>?_)⟩
  have:=hc (j+1) u (by simpa using hu)
  rwa [show off+1+j=off+(j+1)by omega]
end
def ViewE(H:Nat→Option O)(F:Nat→Prop)(ρ:Nat→Option Nat):List (V×V×Nat)→List (V×V×Nat)→Prop
 |[],es=>es=[]
 |(k,v,n)::xs,es=>∃k' v' es',es=(k',v',n)::es'∧View H F ρ k k'∧View H F ρ v v'∧ViewE H F ρ xs es'
theorem ViewE.re{H:Nat→Option O}{F:Nat→Prop}{ρ:Nat→Option Nat}{s s':Sig}{w:World}(hH:RH s w H)(T:Turned H F ρ s s'): ∀(l l':List (V×V×Nat))(es:List MapEntry),ViewE H F ρ l l'→RE s w l' es→RE s' w l es
 |[],_,_,h,hv=>by cases h;exact hv
 |(k,v,n)::xs,_,_,⟨k',v',es',e,h1,h2,h3⟩,hv=>by
  subst e;obtain⟨en,es2,rfl,g1,g2,g3,g4⟩:=hv;exact⟨en,es2,rfl,View.rv hH T _ _ _ h1 g1,View.rv hH T _ _ _ h2 g2,g3,ViewE.re hH T xs es' es2 h3 g4⟩
def ViewO(H:Nat→Option O)(F:Nat→Prop)(ρ:Nat→Option Nat):O→O→Prop
 | .row t sp c,o=>∃c',o= .row t sp c'∧ViewL H F ρ c c'
 | .map es ck,o=>∃es',o= .map es' ck∧ViewE H F ρ es es'
 | .iter m since seen last,o=>∃m',o= .iter m' since seen last∧(match m with|none=>m'=none|some h=>∃g,ρ h=some g∧m'=some g)
 | .loop st pend fn tm ps asg bd,o=>o= .loop st pend fn tm ps asg bd∧∀i x,tm.sl.get i=some x→View H F ρ x x
 | .dead,_=>True
def rho(nx0:Nat)(r:List Nat)(h:Nat):Option Nat:=bif Nat.blt h nx0 then some h else r[h-nx0]?
theorem Qho{nx0 h:Nat}{r:List Nat}(hl:h<nx0):rho nx0 r h=some h:=by
 have:Nat.blt h nx0=true:=Nat.ble_eq_true_of_le hl;rw[rho,this];rfl
theorem rho_ge{nx0 h:Nat}{r:List Nat}(hl: ¬h<nx0):rho nx0 r h=r[h-nx0]? :=by
 have:Nat.blt h nx0=false:=by
  cases hb:Nat.blt h nx0 with
  |false=>rfl
  |true=>exact absurd (Nat.le_of_ble_eq_true hb) hl
 rw[rho,this];rfl
def Fr(nx0:Nat)(r lg:List Nat)(g:Nat):Prop:=nx0≤g∧g∉r∧∀h∈lg,nx0≤h
structure Gc(nx0:Nat)(r:List Nat)(st st':St):Prop where
 nx:st'.nx=nx0+r.length
 le: ∀g∈r,nx0≤g∧g<st.nx
 nodup:r.Nodup
 n:st'.tm.n=st.tm.n
 gl:st'.tm.gl=st.tm.gl
 sl: ∀i x,st'.tm.sl.get i=some x→∃y,st.tm.sl.get i=some y∧View st.H.get (Fr nx0 r st.lg) (rho nx0 r) x y
 H: ∀h o,st'.H.get h=some o→o.live=true→∃g y,rho nx0 r h=some g∧st.H.get g=some y∧ViewO st.H.get (Fr nx0 r st.lg) (rho nx0 r) o y
 lg: ∀h∈st.lg,h<nx0→h∈st'.lg
structure Ats(B:Bs)(s0:Sig)(w0:World)(nx0:Nat)(st:St)(s:Sig)(w:World)(a:Act):Prop where
 rel:Rel B s w st a
 step:Step s0 w0 s w st.lg
 dom: ∀i,s.dom i↔s0.dom i∨nx0≤i∧i<st.nx
 le:nx0≤st.nx
theorem ViewO.live{H:Nat→Option O}{F:Nat→Prop}{ρ:Nat→Option Nat}{o y:O}(h:ViewO H F ρ o y)(hl:o.live=true):y.live=true:=by
 cases o with
 |row=>obtain⟨_,rfl,_⟩:=h;rfl
 |map=>obtain⟨_,rfl,_⟩:=h;rfl
 |iter=>obtain⟨_,rfl,_⟩:=h;rfl
 |loop=>obtain⟨rfl,_⟩:=h;rfl
 |dead=>cases hl
theorem ViewO.ro{H:Nat→Option O}{F:Nat→Prop}{ρ:Nat→Option Nat}{s s':Sig}{w:World}(hH:RH s w H)(T:Turned H F ρ s s'){o y:O}{h g:Nat}(hv:ViewO H F ρ o y)(hr:ρ h=some g)(hd:s.dom g)(ho:RO s w y g):RO s' w o h:=by
 obtain⟨_,hμ,hcp⟩:=T.ren h g hr hd;cases o with
 |row t sp c=>
  obtain⟨c',rfl,hc⟩:=hv;obtain⟨vs,rest,h1,h2,h3,h4⟩:=ho;exact⟨vs,rest,by rw[hμ];exact h1,ViewL.rl hH T _ _ _ hc h2,h3,by rw[hcp];exact h4⟩
 |map es ck=>
  obtain⟨es',rfl,hc⟩:=hv;obtain⟨arr,h1,h2⟩:=ho;exact⟨arr,by rw[hμ];exact h1,ViewE.re hH T _ _ _ hc h2⟩
 | iter m since seen last =>
  obtain⟨m',rfl,hm⟩:=hv;obtain⟨h0,h1⟩:=ho;cases m with
  |none=>dsimp only at hm;subst hm;exact⟨fun _ e=>(by cases e),by rw[hμ];exact h1⟩
  |some h2=>
   obtain⟨g2,e,rfl⟩:=hm;obtain⟨k1,k2,_⟩:=T.ren h2 g2 e (h0 g2 rfl);exact⟨fun i e=>(by cases e;exact k1),by rw[hμ];simpa [k2]using h1⟩
 |loop st pend fn tm ps asg bd=>
  obtain⟨rfl,hc⟩:=hv;obtain⟨tmps,d,f',h0,h1,h2⟩:=ho;refine⟨tmps,d,f',h0,by rw[hμ];exact h1,h2.1,fun i x hx=>?_,fun gi l hl=>RC.mono' T.fz (fun _ _=>rfl) l gi 0 (h2.2.2 gi l hl)⟩
  obtain⟨v,hv,hrv⟩:=h2.2.1 i x hx;exact⟨v,hv,View.rv hH T x x v (hc i x hx) hrv⟩
 |dead=>trivial
theorem Ats.gc{B:Bs}{nx0:Nat}{s0 s:Sig}{w0 w:World}{st st':St}{a:Act}{r:List Nat}(hn: ∀i,nx0≤i→¬s0.dom i)(A:Ats B s0 w0 nx0 st s w a)(g:Gc nx0 r st st'): ∃s',Ats B s0 w0 nx0 st' s' w a:=by
 have hH:=A.rel.rh;have hlo: ∀h,s.dom h→h<nx0→s0.dom h:=fun h hd hl=>((A.dom h).1 hd).resolve_right (fun k=>by omega)
 have hhi: ∀i∈r,s.dom i:=fun i hi=>(A.dom i).2 (.inr (g.le i hi))
 have hrho: ∀h i,rho nx0 r h=some i→(h<nx0∧i=h)∨(nx0≤h∧h<st'.nx∧i∈r∧r[h-nx0]? =some i):=by
  intro h i e;by_cases hl:h<nx0
  ·rw[Qho hl]at e;cases e;exact .inl ⟨hl,rfl⟩
  ·rw [rho_ge hl] at e;have:=(List.getElem?_eq_some_iff.1 e).1;exact .inr ⟨by omega,by rw[g.nx];omega,List.mem_of_getElem? e,e⟩
 let s':Sig:={μ:=fun h=>match rho nx0 r h with|some i=>s.μ i|none=>0,cp:=fun h=>match rho nx0 r h with|some i=>s.cp i|none=>0,dom:=fun h=>s0.dom h∨nx0≤h∧h<st'.nx,fz:=fun b=>s.fz b∨∃i,Fr nx0 r st.lg i∧(∃t sp c,st.H.get i=some (.row t sp c))∧b=s.μ i,mark:=s.mark}
 have hμ: ∀h i,rho nx0 r h=some i→s'.μ h=s.μ i:=fun h i e=>by show(match rho nx0 r h with|some i=>s.μ i|none=>0)=_;rw[e]
 have hcp: ∀h i,rho nx0 r h=some i→s'.cp h=s.cp i:=fun h i e=>by show(match rho nx0 r h with|some i=>s.cp i|none=>0)=_;rw[e]
 have T:Turned st.H.get (Fr nx0 r st.lg) (rho nx0 r) s s':=by
  refine⟨fun h i e hd=>⟨?_,hμ h i e,hcp h i e⟩,fun i t sp c hF hi=>.inr ⟨i,hF,⟨t,sp,c,hi⟩,rfl⟩,fun b hb=>.inl hb⟩
  rcases hrho h i e with⟨h1,rfl⟩|⟨h1,h2,_⟩
  ·exact .inl (hlo _ hd h1)
  ·exact .inr ⟨h1,h2⟩
 have hfzlt: ∀b,s'.fz b→b<w.heap.size:=by
  rintro b (hb|⟨i,_,⟨t,sp,c,hi⟩,rfl⟩)
  ·exact hH.old b (.inl hb)
  ·exact(hH.obj _ _ hi rfl).2.1
 refine⟨s',⟨⟨fun h o ho hl=>?_,fun h h' o o' ho ho' hl hl' e=>?_,?_⟩,⟨?_,fun i x hx=>?_,fun gi l hl=>?_⟩,fun i hi hd=>?_,?_⟩,⟨⟨⟨fun h hd=>?_,fun h hd=>?_,fun h hd=>.inl hd,fun b hb=>.inl (A.step.le.fz b hb)⟩,A.step.le.mark⟩,?_,A.step.kept,A.step.mod.mono ?_,fun h hd hno=>?_⟩,fun i=>Iff.rfl,by rw[g.nx];omega⟩
 ·obtain ⟨i, y, e, hy, hv⟩ := g.H h o ho hl;obtain⟨a1,a2,a3,a4⟩:=hH.obj i y hy (hv.live hl);refine⟨(T.ren h i e a1).1,by rw[hμ h i e];exact a2,?_,hv.ro hH T e a1 a4⟩
  rw[hμ h i e]
  rintro((hf|⟨j,hF,⟨t,sp,c,hj⟩,e2⟩)|hm)
  ·exact a3 (.inl hf)
  ·have := hH.inj i j y _ hy hj (hv.live hl) rfl e2;subst this;rcases hrho h i e with⟨h1,rfl⟩|⟨_,_,h3,_⟩
   ·have:=hF.1;omega
   ·exact hF.2.1 h3
  ·exact a3 (.inr hm)
 ·obtain ⟨i, y, e1, hy, hv⟩ := g.H h o ho hl;obtain⟨i',y',e1',hy',hv'⟩:=g.H h' o' ho' hl';rw[hμ h i e1,hμ h' i' e1']at e;have:=hH.inj i i' y y' hy hy' (hv.live hl) (hv'.live hl') e;subst this;rcases hrho h i e1 with⟨h1,rfl⟩|⟨h1,_,h3,h4⟩<;>rcases hrho h' _ e1' with⟨k1,k2⟩|⟨k1,_,k3,k4⟩
  ·exact k2
  ·have:=(g.le _ k3).1;omega
  ·have:=(g.le _ h3).1;omega
  ·have := (List.getElem?_eq_some_iff.1 h4).1;have:=(List.getElem?_inj this g.nodup).1 (h4.trans k4.symm);omega
 ·rintro b (hb | hb)
  ·exact hfzlt b hb
  ·exact hH.old b (.inr hb)
 ·rw[g.n];exact A.rel.rt.1
 ·obtain ⟨y, hy, hv⟩ := g.sl i x hx;obtain⟨v,h1,h2⟩:=A.rel.rt.2.1 i y hy;exact⟨v,h1,View.rv hH T x y v hv h2⟩
 ·rw [g.gl] at hl;exact RC.mono' T.fz (fun _ _=>rfl) l gi 0 (A.rel.rt.2.2 gi l hl)
 ·have := g.nx;rcases hd with hd|hd
  ·exact hn i (by omega) hd
  ·omega
 ·obtain ⟨Ds, h1, h2, h3⟩ := A.rel.df;refine⟨Ds,h1,h2,fun D hD=>?_⟩
  obtain⟨k1,k2,k3,k4⟩:=h3 D hD;refine⟨k1,k2,k3,?_⟩
  rintro(hf|⟨i,_,⟨t,sp,c,hi⟩,rfl⟩)
  ·exact k4 hf
  ·obtain ⟨_, _, _, vs, rest, b1, _⟩ := hH.obj _ _ hi rfl;rw[b1]at k3;cases k3
 ·have hl : h < nx0 := Nat.lt_of_not_le fun hge => hn h hge hd
  rw[hμ h h (Qho hl),A.step.le.μ h hd]
 ·have hl : h < nx0 := Nat.lt_of_not_le fun hge => hn h hge hd
  rw[hcp h h (Qho hl),A.step.le.cp h hd]
 ·rintro b (hb | ⟨i, hF, ⟨t, sp, c, hi⟩, rfl⟩)
  ·rcases A.step.fz b hb with k | k | ⟨h, h1, h2, h3⟩
   ·exact .inl k
   ·exact .inr (.inl k)
   ·exact .inr (.inr ⟨h,g.lg h h1 (Nat.lt_of_not_le fun hge=>hn h hge h2),h2,h3⟩)
  ·have hd := (hH.obj _ _ hi rfl).1;rcases A.step.new i hd (hn i hF.1)with h|⟨j,h1,h2,_⟩
   ·exact .inr (.inl h)
   ·exact absurd h2 (hn j (hF.2.2 j h1))
 ·rintro b ⟨h, h1, h2, h3⟩
  exact⟨h,g.lg h h1 (Nat.lt_of_not_le fun hge=>hn h hge h2),h2,h3⟩
 ·rcases hd with hd | ⟨h1, h2⟩
  ·exact absurd hd hno
  ·have hlt : h - nx0 < r.length := by have := g.nx; omega
   have e:rho nx0 r h=some r[h-nx0]:=by rw[rho_ge (by omega)];exact List.getElem?_eq_getElem hlt
   have hm:r[h-nx0]∈r:=List.getElem_mem hlt;rw[hμ _ _ e];rcases A.step.new _ (hhi _ hm) (hn _ (g.le _ hm).1)with k|⟨j,k1,k2,k3⟩
   ·exact .inl k
   ·exact .inr ⟨j,g.lg j k1 (Nat.lt_of_not_le fun hge=>hn j hge k2),k2,k3⟩
variable {P:Program}
theorem Ats.went{B:Bs}{nx0:Nat}{s0 s s':Sig}{w0 w w':World}{st st':St}{a a':Act}{lg:List Nat}(h:Ats B s0 w0 nx0 st s w a)(k:Went B s w st st' a lg s' w' a'):Ats B s0 w0 nx0 st' s' w' a':=by
 have h1:=h.le;have h2:=k.le;refine⟨k.rel,(h.step.trans k.step).more (fun x hx=>by rw[k.log];exact List.mem_append.2 ((List.mem_append.1 hx).symm)),fun i=>?_,Nat.le_trans h1 h2⟩
 rw[k.dom,h.dom];constructor
 ·rintro ((h | h) | h)
  ·exact .inl h
  ·exact .inr ⟨h.1,by omega⟩
  ·exact .inr ⟨by omega,h.2⟩
 ·rintro (h | h)
  ·exact .inl (.inl h)
  ·by_cases h' : i < st.nx
   ·exact .inl (.inr ⟨h.1,h'⟩)
   ·exact .inr ⟨by omega,h.2⟩
def exQ(Q:Exit→Act→World→Prop)(w:World)(a:Act):Ex→Prop
 | .normal=>Q .normal a w
 | .exit id=>Q (.exit id) a w
 | .ret=>Q .ret a w
 | .pan x=>∀u,(∀s' w',RV s' w' x u)→Q (.panic [{v:=u,recovered:=false}]) a w
def Sat(P:Program)(rd:Option Nat)(nx0:Nat)(c:Code)(st:St)(R:Ex→St→Prop):Prop:=
 ∀(B:Bs)(s0:Sig)(w0:World)(s:Sig)(w:World)(a:Act),(∀i,nx0≤i→¬s0.dom i)→B.n≤w0.heap.size→(∀h,rd=some h→s0.dom h)→Ats B s0 w0 nx0 st s w a→
  ∀Q:Exit→Act→World→Prop,(∀e st',R e st'→∀s' w' a',Ats B s0 w0 nx0 st' s' w' a'→exQ Q w' a' e)→c.wpIn (FF (rd.map s0.μ)) 5 P Q a w
section
variable {rd:Option Nat} {nx0:Nat} {st:St} {R R':Ex→St→Prop}
theorem Sat.mono{c:Code}(h:Sat P rd nx0 c st R)(k: ∀e st',R e st'→R' e st'):Sat P rd nx0 c st R':=
 fun B s0 w0 s w a hn hB hrd A Q hQ=>h B s0 w0 s w a hn hB hrd A Q (fun e st' he=>hQ e st' (k e st' he))
theorem Sat.gc{c:Code}{r:List Nat}{st':St}(g:Gc nx0 r st st')(h:Sat P rd nx0 c st' R):Sat P rd nx0 c st R:=
 fun B s0 w0 _ w a hn hB hrd A Q hQ=>let ⟨s',A'⟩:=A.gc hn g;h B s0 w0 s' w a hn hB hrd A' Q hQ
theorem Sat.gc_post{c:Code}(h:Sat P rd nx0 c st (fun e st1=>∃r st2,Gc nx0 r st1 st2∧R e st2)):Sat P rd nx0 c st R:=
 fun B s0 w0 s w a hn hB hrd A Q hQ=>h B s0 w0 s w a hn hB hrd A Q (fun e _⟨_,st2,g,hR⟩ _ w' a' A'=>let ⟨s2,A2⟩:=A'.gc hn g;hQ e st2 hR s2 w' a' A2)
theorem Sat.skip(h:R .normal st):Sat P rd nx0 .skip st R:=fun _ _ _ s w a _ _ _ A _ hQ=>wpIn_skip (hQ _ _ h s w a A)
theorem Sat.label{l:Nat}(h:R .normal st):Sat P rd nx0 (.label l) st R:=fun _ _ _ s w a _ _ _ A _ hQ=>wpIn_label (hQ _ _ h s w a A)
theorem Sat.exit{i:Nat}(h:R (.exit i) st):Sat P rd nx0 (.exit i) st R:=fun _ _ _ s w a _ _ _ A _ hQ=>wpIn_exit (hQ _ _ h s w a A)
theorem Sat.ret(h:R .ret st):Sat P rd nx0 .ret st R:=fun _ _ _ s w a _ _ _ A _ hQ=>wpIn_ret (hQ _ _ h s w a A)
theorem Sat.seq{x y:Code}(h:Sat P rd nx0 x st R')(k: ∀st1,R' .normal st1→Sat P rd nx0 y st1 R)(ho: ∀e st1,e≠ .normal→R' e st1→R e st1):Sat P rd nx0 (.seq x y) st R:=by
 intro B s0 w0 s w a hn hB hrd A Q hQ;refine wpIn_seq (h B s0 w0 s w a hn hB hrd A _ ?_);intro e st1 he s1 w1 a1 A1;cases e with
 |normal=>exact k st1 he B s0 w0 s1 w1 a1 hn hB hrd A1 Q hQ
 |exit id=>exact hQ _ _ (ho _ _ (by simp) he) s1 w1 a1 A1
 |ret=>exact hQ _ _ (ho _ _ (by simp) he) s1 w1 a1 A1
 |pan v=>exact fun u hu=>hQ _ _ (ho _ _ (by simp) he) s1 w1 a1 A1 u hu
theorem Sat.cond{c:Operand}{x y:Code}{t:Bool}(hc:ev st.tm c=some (.bool t))(h:Sat P rd nx0 (bif t then x else y) st R):Sat P rd nx0 (.cond c x y) st R:=by
 intro B s0 w0 s w a hn hB hrd A Q hQ;have hev:a.eval c= .bool t:=ev_rv A.rel.rt hc;refine wpIn_cond hev ?_;have:=h B s0 w0 s w a hn hB hrd A Q hQ;cases t<;>exact this
theorem Sat.block{id:Nat}{b:Code}(h:Sat P rd nx0 b st R')(h1: ∀st1,R' (.exit id) st1→R .normal st1)(h2: ∀e st1,e≠ .exit id→R' e st1→R e st1):Sat P rd nx0 (.block id b) st R:=by
 intro B s0 w0 s w a hn hB hrd A Q hQ;refine wpIn_block (h B s0 w0 s w a hn hB hrd A _ ?_);intro e st1 he s1 w1 a1 A1;cases e with
 |normal=>exact hQ _ _ (h2 _ _ (by simp) he) s1 w1 a1 A1
 |ret=>exact hQ _ _ (h2 _ _ (by simp) he) s1 w1 a1 A1
 |pan v=>exact fun u hu=>hQ _ _ (h2 _ _ (by simp) he) s1 w1 a1 A1 u hu
 | exit i =>
  show Exit.inBlock id Q (.exit i) a1 w1;by_cases hi:i=id
  ·subst hi;simp only[Exit.inBlock,if_true];exact hQ .normal _ (h1 _ he) s1 w1 a1 A1
  ·simp only [Exit.inBlock, if_neg hi];exact hQ (.exit i) _ (h2 _ _ (by simpa using hi) he) s1 w1 a1 A1
theorem Sat.scope{b:Code}(h:Sat P rd nx0 b st R):Sat P rd nx0 (.scope b) st R:=by
 intro B s0 w0 s w a hn hB hrd A Q hQ;refine Qb7 (h B s0 w0 s w a hn hB hrd A _ ?_);intro e st1 he s1 w1 a1 A1;have:=hQ e st1 he s1 w1 a1 A1;cases e<;>exact this
theorem Sat.loop{b:Code}{α:Type}(S:α→St)(m:α→Nat)(h: ∀x,Sat P rd nx0 b (S x) (fun e st1=>(e= .normal∧∃x',m x'<m x∧st1=S x')∨(e≠ .normal∧R e st1)))(x:α):Sat P rd nx0 (.loop b) (S x) R:=by
 intro B s0 w0 s w a hn hB hrd A Q hQ;refine Qck (fun j a1 w1=>∃x s1,m x=j∧Ats B s0 w0 nx0 (S x) s1 w1 a1) ?_ (m x) a w ⟨x,s,rfl,A⟩
 rintro j a1 w1 ⟨y,s1,rfl,A1⟩
 refine h y B s0 w0 s1 w1 a1 hn hB hrd A1 _ ?_
 rintro e st2 (⟨rfl,x',hlt,rfl⟩|⟨hne,he⟩) s2 w2 a2 A2
 ·exact⟨m x',hlt,x',s2,rfl,A2⟩
 ·cases e with
  |normal=>exact absurd rfl hne
  |exit id=>exact hQ _ _ he s2 w2 a2 A2
  |ret=>exact hQ _ _ he s2 w2 a2 A2
  |pan v=>exact fun u hu=>hQ _ _ he s2 w2 a2 A2 u hu
theorem Sat.region{E:Env}(hE:E.Ok P)(hm:P.follows .mixedOrders=true){id:Nat}{ops:Array Oper}{draw:Bool}{call:Qal}(hc:Qa9 P st.tm.gl call)(hlog:Qar call){L:Rs}(h:Qci E call ops draw st=some L)(hN: ∀e st',(e,st')∈L→e= .normal)(hR: ∀e st',(e,st')∈L→R e st'):Sat P rd nx0 (.region id ops draw) st R:=by
 intro B s0 w0 s w a hn hB hrd A Q hQ;have hr:=A.rel;have hQ': ∀e st',(e,st')∈L→∀a' w',Goes B s w st st' a a' w'→Q (exOf e) a' w':=fun e st' hm a' w'⟨lg,s',W⟩=>by
  have h1:=hQ e st' (hR e st' hm) s' w' a' (A.went W);have h2:=hN e st' hm;subst h2;exact h1
 have single: ∀{o:Option St},one? o=some L→∃st',o=some st'∧L=[(.normal,st')]:=by
  intro o ho;cases o with
  |none=>cases ho
  |some st'=>cases ho;exact⟨st',rfl,rfl⟩
 unfold Qci at h;cases draw with
 |true=>
  rw[cond_true]at h;obtain⟨st',h1,rfl⟩:=single h;exact Qs3 hE hm hc hlog h1 rfl hr (hQ' .normal st' (List.mem_singleton.2 rfl))
 | false =>
  rw[cond_false]at h;refine wpIn_region ?_;rw[List.range_eq_range',←Array.length_toList];split at h
  ·rename_i it o ol hf;exact Qqg hE.G hE.ext hc hf h hr hQ'
  ·obtain ⟨st', h1, rfl⟩ := single h;exact Qfs hE.G hE.ext hc (l:=rd.map s0.μ) (Q:=Q) ops.toList 0 st st' s w a (fun j _=>by simp) h1 rfl hr (hQ' .normal st' (List.mem_singleton.2 rfl))
end
def Lp(P:Program)(rd:Option Nat)(nx0:Nat)(b:Code)(R:Ex→St→Prop):Nat→St→Prop
 |0,_=>False
 |j+1,st=>Sat P rd nx0 b st (fun e st1=>(e= .normal∧Lp P rd nx0 b R j st1)∨(e≠ .normal∧R e st1))
theorem Lp.sat{rd:Option Nat}{nx0:Nat}{R:Ex→St→Prop}{b:Code}{j:Nat}{st:St}(h:Lp P rd nx0 b R j st):Sat P rd nx0 (.loop b) st R:=by
 intro B s0 w0 s w a hn hB hrd A Q hQ;refine Qck (fun j a1 w1=>∃st1 s1,Lp P rd nx0 b R j st1∧Ats B s0 w0 nx0 st1 s1 w1 a1) ?_ j a w ⟨st,s,h,A⟩
 rintro j a1 w1 ⟨st1,s1,h1,A1⟩
 cases j with
 |zero=>exact h1.elim
 | succ j =>
  refine h1 B s0 w0 s1 w1 a1 hn hB hrd A1 _ ?_
  rintro e st2 (⟨rfl,hk⟩|⟨hne,he⟩) s2 w2 a2 A2
  ·exact⟨j,Nat.lt_succ_self j,st2,s2,hk,A2⟩
  ·cases e with
   |normal=>exact absurd rfl hne
   |exit id=>exact hQ _ _ he s2 w2 a2 A2
   |ret=>exact hQ _ _ he s2 w2 a2 A2
   |pan v=>exact fun u hu=>hQ _ _ he s2 w2 a2 A2 u hu
def CallSpec(P:Program)(gl:T (List V))(c:V)(ars:List V)(H:T O)(nx:Nat)(r:CR):Prop:=
 (∀ (s : Sig) (w : World) (fv : Value) (vals : Array Value), RV s w c fv → RL s w ars vals.toList → RH s w H.get → GL s w gl → (∀ i, nx ≤ i → ¬ s.dom i) →
  ∃next,((do let d←Deferred.ofValue fv vals;invoke d.target d.args):Sem Next).run P w= .ok next w∧Into P (Qa8 s w nx r) next w∧((∃f caps,c= .fn f caps)→∃f ars,next= .enter f ars))∧
 Log H.get nx r.H.get r.nx r.lg
open Classical in
noncomputable def tbl:List Qay→Qal
 |[],_,_,_,_=>none
 |q::qs,c,l,H,nx=>if q.c=c∧q.l=l∧q.H=H∧q.nx=nx then some q.r else tbl qs c l H nx
theorem Qoq: ∀{qs:List Qay}{c:V}{l:List V}{H:T O}{nx:Nat}{r:CR},tbl qs c l H nx=some r→∃q∈qs,q.c=c∧q.l=l∧q.H=H∧q.nx=nx∧q.r=r
 |[],_,_,_,_,_,h=>by cases h
 | q :: qs, c, l, H, nx, r, h => by
  unfold tbl at h;split at h
  ·rename_i hq;cases h;exact⟨q,List.mem_cons_self,hq.1,hq.2.1,hq.2.2.1,hq.2.2.2,rfl⟩
  ·obtain ⟨q', h1, h2⟩ := Qoq h;exact⟨q',List.mem_cons_of_mem _ h1,h2⟩
def Cons1(q:Qay):List Qay→Prop
 |[]=>True
 |p::qs=>(p.c=q.c→p.l=q.l→p.H=q.H→p.nx=q.nx→p.r=q.r)∧Cons1 q qs
def AllSpec(P:Program)(gl:T (List V))(qs:List Qay):Prop:=∀q∈qs,CallSpec P gl q.c q.l q.H q.nx q.r
theorem Cons1.mem{q:Qay}: ∀{qs:List Qay},Cons1 q qs→∀p∈qs,p.c=q.c→p.l=q.l→p.H=q.H→p.nx=q.nx→p.r=q.r
 |[],_,_,h=>by cases h
 |p::qs,h,x,hx=>by
  rcases List.mem_cons.1 hx with rfl|hx
  ·exact h.1
  ·exact Cons1.mem h.2 x hx
structure TblOk(P:Program)(gl:T (List V))(qs:List Qay):Prop where
 spec:AllSpec P gl qs
 meets: ∀q∈qs,tbl qs q.c q.l q.H q.nx=some q.r
theorem TblOk.nil{gl:T (List V)}:TblOk P gl []:=⟨fun _ h=>(by cases h),fun _ h=>(by cases h)⟩
theorem TblOk.cons{gl:T (List V)}{qs:List Qay}{q:Qay}(h:TblOk P gl qs)(hq:CallSpec P gl q.c q.l q.H q.nx q.r)(hc:Cons1 q qs):TblOk P gl (q::qs):=by
 refine⟨fun p hp=>?_,fun p hp=>?_⟩
 ·rcases List.mem_cons.1 hp with rfl | hp
  ·exact hq
  ·exact h.spec p hp
 ·unfold tbl;rcases List.mem_cons.1 hp with rfl|hp
  ·rw[if_pos ⟨rfl,rfl,rfl,rfl⟩]
  ·split
   ·rename_i he;exact congrArg some (hc.mem p hp he.1.symm he.2.1.symm he.2.2.1.symm he.2.2.2.symm).symm
   ·exact h.meets p hp
theorem TblOk.call{gl:T (List V)}{qs:List Qay}(h:TblOk P gl qs):Qa9 P gl (tbl qs):=by
 intro c ars H nx r s w fv vals e;obtain⟨q,hq,rfl,rfl,rfl,rfl,rfl⟩:=Qoq e;exact(h.spec q hq).1 s w fv vals
theorem TblOk.log{gl:T (List V)}{qs:List Qay}(h:TblOk P gl qs):Qar (tbl qs):=by
 intro c ars H nx r e;obtain⟨q,hq,rfl,rfl,rfl,rfl,rfl⟩:=Qoq e;exact(h.spec q hq).2
theorem CallSpec.fnC{E:Env}(hE:E.Ok P){gl:T (List V)}{f:Nat}{caps ars:List V}{H:T O}{nx:Nat}{r:CR}{fi:FI}{R:Ex→St→Prop}(hfi:E.code f=some fi)(hle:Nat.ble (ars++caps).length fi.ntmps=true)(hlog:Log H.get nx r.H.get r.nx r.lg)
  (h:Sat P none nx fi.body ⟨⟨putAll (blank fi.ntmps) 0 (ars++caps),gl,fi.ntmps⟩,H,nx,[]⟩ R)
  (hR: ∀e st,R e st→(e= .normal∨e= .ret)∧∃v,retV E.G st.tm st.H fi.res=some v∧∀(s:Sig)(w:World)(ee:Ending)(w':World),RH s w H.get→(∀i,nx≤i→¬s.dom i)→Qa8 s w nx ⟨v,st.H,st.nx,st.lg⟩ ee w'→Qa8 s w nx r ee w'):CallSpec P gl (.fn f caps) ars H nx r:=by
 refine⟨fun s w fv vals hc hargs hH hgl hn=>?_,hlog⟩
 obtain⟨vs,rfl,hcaps⟩:=hc;have hall:RL s w (ars++caps) (vals++vs).toList:=by rw[Array.toList_append];exact hargs.append hcaps
 have hrun: ∀x:Result Next,(callFunc f (vals++vs)).run P w=x→((do let d←Deferred.ofValue (.func (.func f) #[] vs) vals;invoke d.target d.args):Sem Next).run P w=x:=by
  intro x hx;simp[Deferred.ofValue,invoke,hx]
 have hle:=Nat.le_of_ble_eq_true hle;obtain⟨fn,f1,f2,f3,f4,f5⟩:=hE.code f fi hfi;refine⟨_,hrun _ (f5 _ w),?_,fun _=>⟨_,_,rfl⟩⟩
 have hsize:(vals++vs).size≤fi.ntmps:=by have:=hall.length;simp only[Array.length_toList]at this;omega
 have hrel:Rel (bs w.heap.size) s w ⟨⟨putAll (blank fi.ntmps) 0 (ars++caps),gl,fi.ntmps⟩,H,nx,[]⟩ {tmps:=(vals++vs)++Array.replicate (fn.ntmps-(vals++vs).size) undef,defers:=[]}:=by
  refine⟨hH,⟨by rw[Array.size_append,Array.size_replicate,f3];dsimp only;omega,fun i x hx=>?_,hgl⟩,hn,[],rfl,List.nodup_nil,fun D hD=>by simp at hD⟩
  dsimp only at hx;rw[Qdv]at hx;split at hx
  ·obtain ⟨v, hv, hr⟩ := hall.get hx;rw[Nat.sub_zero,Array.getElem?_toList]at hv;exact⟨v,by rw[Array.getElem?_append_left (Array.getElem?_eq_some_iff.1 hv).1];exact hv,hr⟩
  ·rw[Qbj]at hx;cases hx
 refine callsIn_of_wp_marks (F:=Fence.wide) (n:=4) f1 f2 trivial (Qbr (l:=none) (h (bs w.heap.size) s w s w _ hn (Nat.le_refl _) (fun h e=>by cases e) ⟨hrel,Step.refl s w [],dom_same s _,Nat.le_refl _⟩ _ ?_))
 intro e st hRe s' w' a' A;obtain⟨he,x,hret,hconv⟩:=hR e st hRe;have leave:LeavesInM Fence.wide 4 P fn a'.tmps (Qa8 s w nx r) a'.defers .returning w':=by
  obtain⟨Ds,d1,d2,d3⟩:=A.rel.df;have d2:=(List.nodup_append.1 d2).1;have d3:=fun D(hD:D∈Ds)=>d3 D (List.mem_append.2 (.inl hD))
  rw[d1,List.append_nil];refine Qc7 Ds w' d2 (fun D hD=>(d3 D hD).2.2.1) (fun w'' g1 g2 g3 g4 g5=>?_)
  have hold: ∀b,b<w.heap.size→w''.heap[b]? =w'.heap[b]? :=fun b hb=>g1 b (fun hD=>by have h9:w.heap.size≤b:=(d3 b hD).1;omega)
  have hk:Kept s' w' w'':=fun b hb=>g1 b (fun hD=>(d3 b hD).2.2.2 hb)
  have hH':RH s' w'' st.H.get:=by
   refine⟨fun h o ho hl=>?_,A.rel.rh.inj,fun b hb=>by rw[g2];exact A.rel.rh.old b hb⟩
   obtain⟨a1,a2,a3,a4⟩:=A.rel.rh.obj h o ho hl;exact⟨a1,by rw[g2];exact a2,a3,RO.mono (Sig.Le.refl s') hk a1 a4 (fun _=>g1 _ (fun hD=>a3 (.inr (d3 _ hD).2.1)))⟩
  rw[←f4]at hret;obtain⟨v,v1,v2⟩:=Qf4 (P:=P) hE.G hH' (A.rel.rt.mono (Sig.Le.refl s') hk) rfl hret;refine⟨v,v2,hconv s w _ _ hH hn ⟨v,s',rfl,v1,hH',?_,A.dom,A.le⟩⟩;exact⟨A.step.le,A.step.fz,fun b hb=>(hold b (hH.old b hb)).trans (A.step.kept b hb),⟨g3.trans A.step.mod.os,g4.trans A.step.mod.tape,g5.trans A.step.mod.output,by rw[g2];exact A.step.mod.size,fun k hk hno=>(hold k hk).trans (A.step.mod.block k hk hno)⟩,A.step.new⟩
 rcases he with rfl|rfl<;>exact leave
def FnOk(P:Program)(gl:T (List V))(f:Nat)(ars:List V)(v:V):Prop:=CallSpec P gl (.fn f []) ars .e 0 ⟨v,.e,0,[]⟩
theorem CallSpec.caps{gl:T (List V)}{f:Nat}{caps ars:List V}{H:T O}{nx:Nat}{r:CR}(h:CallSpec P gl (.fn f []) (ars++caps) H nx r):CallSpec P gl (.fn f caps) ars H nx r:=by
 refine⟨fun s w fv vals hc hargs hH hgl hn=>?_,h.2⟩
 obtain⟨vs,rfl,hcaps⟩:=hc;obtain⟨next,e1,e2,e3⟩:=h.1 s w (.func (.func f) #[] #[]) (vals++vs) ⟨#[],rfl,rfl⟩ (by rw[Array.toList_append];exact hargs.append hcaps) hH hgl hn
 refine⟨next,?_,e2,fun _=>e3 ⟨f,[],rfl⟩⟩
 simpa [Deferred.ofValue,invoke]using e1
variable {P:Program}
def Qig(s:Sig)(w:World)(nx:Nat)(r:CR):Ending→World→Prop:=fun e w'=>
 ∃u s',e= .panicked [{v:=u,recovered:=false}]∧(∀s2 w2,RV s2 w2 r.v u)∧RH s' w' r.H.get∧Step s w s' w' r.lg∧(∀i,s'.dom i↔s.dom i∨nx≤i∧i<r.nx)∧nx≤r.nx
def CallPan(P:Program)(gl:T (List V))(c:V)(ars:List V)(H:T O)(nx:Nat)(r:CR):Prop:=
 ∀(s:Sig)(w:World)(fv:Value)(vals:Array Value),RV s w c fv→RL s w ars vals.toList→RH s w H.get→GL s w gl→(∀i,nx≤i→¬s.dom i)→
  ∃next,((do let d←Deferred.ofValue fv vals;invoke d.target d.args):Sem Next).run P w= .ok next w∧Into P (Qig s w nx r) next w∧((∃f caps,c= .fn f caps)→∃f ars,next= .enter f ars)
theorem Qh5{F:Fence}{n:Nat}{ops:Array Oper}{Q:Exit→Act→World→Prop}{l2:List Nat}: ∀(l1:List Nat)(a:Act)(w:World),wpOpsIn F n P ops (Exit.then (fun a w=>wpOpsIn F n P ops Q l2 a w) Q) l1 a w→wpOpsIn F n P ops Q (l1++l2) a w
 |[],a,w,h=>h
 |i::l1,a,w,h=>by
  rw[List.cons_append,wpOpsIn_cons];rw[wpOpsIn_cons]at h;exact wpOpIn_mono (fun a w=>Qh5 l1 a w) (Qh4 (fun _ _ _ h=>h) (fun h=>h) h)
theorem Qr7{l:Option Nat}{o:Oper}{a:Act}{w:World}{K:Act→World→Prop}{Q:Exit→Act→World→Prop}{nxt:Next}{s:Sig}{w0:World}{nx:Nat}{r:CR}(h:Into P (Qig s w0 nx r) nxt w)
  (hQ: ∀u w',Qig s w0 nx r (.panicked [{v:=u,recovered:=false}]) w'→Q (.panic [{v:=u,recovered:=false}]) a w'):o.uponIn (FF l) 5 P a K Q (.ok nxt w):=by
 have hd:(FF l).depth.isSome=true→1≤5:=fun h=>by rw[Qfw]at h;cases h
 cases nxt with
 |enter f ars=>
  refine⟨hd,(Qcn l h).mono fun e w' he=>?_⟩
  have he':=he;obtain⟨v,s',rfl,_⟩:=he;exact hQ v w' he'
 |round k f tm c b=>
  refine⟨hd,(Qi9 l h).mono fun e w' he=>?_⟩
  have he':=he;obtain⟨v,s',rfl,_⟩:=he;exact hQ v w' he'
 | _=>exact h.elim
def PanOp(P:Program)(st:St)(o:Oper)(v:V)(st':St):Prop:=
 (∃x t y,o.op= .panic x∧ev st.tm x=some (.ifc t y)∧gnd y=true∧v= .ifc t y∧st'=st)∨
 (∃c f g l r,o.op= .call c∧c.callee= .value f∧ev st.tm f=some g∧evs st.tm c.args.toList=some l∧CallPan P st.tm.gl g l st.H st.nx r∧v=r.v∧st'=⟨st.tm,r.H,r.nx,r.lg++st.lg⟩)
theorem Qb1{fn:Func}{tmps:Array Value}{R:Ending→World→Prop}{n:Nat}{F:Fence}{u:FrameMode}{tail:List Deferred}(hu:u≠ .run): ∀(Ds:List Nat)(w:World),Ds.Nodup→(∀D∈Ds,w.heap[D]? =some (.deferred (some [])))→
  (∀w',(∀b,b∉Ds→w'.heap[b]? =w.heap[b]?)→w'.heap.size=w.heap.size→w'.os=w.os→w'.tape=w.tape→w'.output=w.output→LeavesInM F n P fn tmps R tail u w')→LeavesInM F n P fn tmps R (Ds.map Qc8++tail) u w
 |[],w,_,_,h=>h w (fun _ _=>rfl) rfl rfl rfl rfl
 | D :: Ds, w, hn, hD, h => by
  have hd:=hD D (List.mem_cons_self);obtain⟨h1,h2⟩:=List.nodup_cons.1 hn;refine⟨hu,.inl ⟨D,w.putObj D (.deferred none),rfl,run_takeDeferred hd,?_⟩⟩;refine Qb1 hu Ds _ h2 (fun D' hD'=>?_) (fun w' g1 g2 g3 g4 g5=>?_)
  ·have hne : D ≠ D' := fun e => h1 (e ▸ hD')
   rw[World.putObj_heap_other (Ne.symm hne)];exact hD D' (List.mem_cons_of_mem _ hD')
  ·refine h w' (fun b hb => ?_) (by rw [g2]; simp [World.putObj]) g3 g4 g5
   rw[List.mem_cons,not_or]at hb;rw[g1 b hb.2,World.putObj_heap_other hb.1]
theorem Ats.unmarked{B:Bs}{nx0:Nat}{s0 s:Sig}{w0 w:World}{st:St}{a:Act}{Ds:List Nat}(A:Ats B s0 w0 nx0 st s w a)(hB:w0.heap.size≤B.n)(d3: ∀D∈Ds,DOk B.n s w D){w'':World}
  (g1: ∀b,b∉Ds→w''.heap[b]? =w.heap[b]?)(g2:w''.heap.size=w.heap.size)(g3:w''.os=w.os)(g4:w''.tape=w.tape)(g5:w''.output=w.output)(hold: ∀b,s0.pr b→b<w0.heap.size):
  RH s w'' st.H.get∧Step s0 w0 s w'' st.lg∧Kept s w w'':=by
 have hk:Kept s w w'':=fun b hb=>g1 b (fun hD=>(d3 b hD).2.2.2 hb)
 have hlt: ∀b,b<w0.heap.size→w''.heap[b]? =w.heap[b]? :=fun b hb=>g1 b (fun hD=>by have h9:B.n≤b:=(d3 b hD).1;omega)
 refine⟨⟨fun h o ho hl=>?_,A.rel.rh.inj,fun b hb=>by rw[g2];exact A.rel.rh.old b hb⟩,?_,hk⟩
 ·obtain ⟨a1, a2, a3, a4⟩ := A.rel.rh.obj h o ho hl;exact⟨a1,by rw[g2];exact a2,a3,RO.mono (Sig.Le.refl s) hk a1 a4 (fun _=>g1 _ (fun hD=>a3 (.inr (d3 _ hD).2.1)))⟩
 ·exact⟨A.step.le,A.step.fz,fun b hb=>(hlt b (hold b hb)).trans (A.step.kept b hb),⟨g3.trans A.step.mod.os,g4.trans A.step.mod.tape,g5.trans A.step.mod.output,by rw[g2];exact A.step.mod.size,fun k hk hno=>(hlt k hk).trans (A.step.mod.block k hk hno)⟩,A.step.new⟩
theorem Qer{P:Program}{E:Env}(hE:E.Ok P){gl:T (List V)}{f:Nat}{caps ars:List V}{H:T O}{nx:Nat}{fi:FI}(hfi:E.code f=some fi)(hle:Nat.ble (ars++caps).length fi.ntmps=true){s:Sig}{w:World}{vs vals:Array Value}(hcaps:RL s w caps vs.toList)(hargs:RL s w ars vals.toList)(hH:RH s w H.get)(hgl:GL s w gl)(hn: ∀i,nx≤i→¬s.dom i)(d:List Deferred):
  Ats ⟨w.heap.size,d,[]⟩ s w nx ⟨⟨putAll (blank fi.ntmps) 0 (ars++caps),gl,fi.ntmps⟩,H,nx,[]⟩ s w {tmps:=(vals++vs)++Array.replicate (fi.ntmps-(vals++vs).size) undef,defers:=d}:=by
 have hall:RL s w (ars++caps) (vals++vs).toList:=by rw[Array.toList_append];exact hargs.append hcaps
 have hle:=Nat.le_of_ble_eq_true hle;have hsize:(vals++vs).size≤fi.ntmps:=by have:=hall.length;simp only[Array.length_toList]at this;omega
 refine⟨⟨hH,⟨by rw[Array.size_append,Array.size_replicate];dsimp only;omega,fun i x hx=>?_,hgl⟩,hn,[],rfl,List.nodup_nil,fun D hD=>by simp at hD⟩,Step.refl s w [],dom_same s _,Nat.le_refl _⟩
 dsimp only at hx;rw[Qdv]at hx;split at hx
 ·obtain ⟨v, hv, hr⟩ := hall.get hx;rw[Nat.sub_zero,Array.getElem?_toList]at hv;exact⟨v,by rw[Array.getElem?_append_left (Array.getElem?_eq_some_iff.1 hv).1];exact hv,hr⟩
 ·rw[Qbj]at hx;cases hx
theorem CallPan.fn{E:Env}(hE:E.Ok P){gl:T (List V)}{f:Nat}{caps ars:List V}{H:T O}{nx:Nat}{r:CR}{fi:FI}(hfi:E.code f=some fi)(hle:Nat.ble (ars++caps).length fi.ntmps=true)
  (h:Sat P none nx fi.body ⟨⟨putAll (blank fi.ntmps) 0 (ars++caps),gl,fi.ntmps⟩,H,nx,[]⟩ (fun e st=>e= .pan r.v∧st.H=r.H∧st.nx=r.nx∧st.lg=r.lg)):CallPan P gl (.fn f caps) ars H nx r:=by
 intro s w fv vals hc hargs hH hgl hn;obtain⟨vs,rfl,hcaps⟩:=hc;have hrun: ∀x:Result Next,(callFunc f (vals++vs)).run P w=x→((do let d←Deferred.ofValue (.func (.func f) #[] vs) vals;invoke d.target d.args):Sem Next).run P w=x:=by
  intro x hx;simp[Deferred.ofValue,invoke,hx]
 obtain⟨fn,f1,f2,f3,f4,f5⟩:=hE.code f fi hfi;refine⟨_,hrun _ (f5 _ w),?_,fun _=>⟨_,_,rfl⟩⟩
 have A0:=Qer hE hfi hle hcaps hargs hH hgl hn [];refine callsIn_of_wp_marks (F:=Fence.wide) (n:=4) f1 f2 trivial (Qbr (n:=5) (l:=none) ?_);rw[f3];refine h _ s w s w _ hn (Nat.le_refl _) (fun h e=>by cases e) A0 _ ?_
 rintro e st ⟨rfl,h1,h2,h3⟩ s' w' a' A u hu
 obtain⟨Ds,d1,d2,d3⟩:=A.rel.df;have d2:=(List.nodup_append.1 d2).1;have d3:=fun D(hD:D∈Ds)=>d3 D (List.mem_append.2 (.inl hD))
 show LeavesInM Fence.wide 4 P fn a'.tmps (Qig s w nx r) a'.defers (.panicking [{v:=u,recovered:=false}]) w';rw[d1];refine Qb1 (by simp) Ds w' d2 (fun D hD=>(d3 D hD).2.2.1) (fun w'' g1 g2 g3 g4 g5=>?_)
 obtain⟨k1,k2,_⟩:=A.unmarked (Nat.le_refl _) d3 g1 g2 g3 g4 g5 hH.old;rw[h1]at k1;rw[h3]at k2;exact⟨u,s',rfl,hu,k1,k2,fun i=>by rw[A.dom,h2],by rw[←h2];exact A.le⟩
theorem CallPan.caps{gl:T (List V)}{f:Nat}{caps ars:List V}{H:T O}{nx:Nat}{r:CR}(h:CallPan P gl (.fn f []) (ars++caps) H nx r):CallPan P gl (.fn f caps) ars H nx r:=by
 intro s w fv vals hc hargs hH hgl hn;obtain⟨vs,rfl,hcaps⟩:=hc;obtain⟨next,e1,e2,e3⟩:=h s w (.func (.func f) #[] #[]) (vals++vs) ⟨#[],rfl,rfl⟩ (by rw[Array.toList_append];exact hargs.append hcaps) hH hgl hn
 refine⟨next,?_,e2,fun _=>e3 ⟨f,[],rfl⟩⟩
 simpa [Deferred.ofValue,invoke]using e1
def FnPan(P:Program)(gl:T (List V))(f:Nat)(ars:List V)(v:V):Prop:=CallPan P gl (.fn f []) ars .e 0 ⟨v,.e,0,[]⟩
theorem Qqp{l:Option Nat}{o:Oper}{st st':St}{v:V}{s:Sig}{w:World}{a:Act}{B:Bs}{K:Act→World→Prop}{Q:Exit→Act→World→Prop}(h:PanOp P st o v st')(hr:Rel B s w st a)
  (hQ: ∀(lg:List Nat)(s':Sig)(w':World),Went B s w st st' a lg s' w' a→exQ Q w' a (.pan v)):o.wpIn (FF l) 5 P a w K Q:=by
 refine⟨fun f _=>Qd1 l f,?_⟩
 have plain:(∀c,o.op≠ .defer c)→o.semAt (FF l).round a.eval=execOp a.eval o:=fun h=>Oper.semAt_plain (FF l) a.eval o h
 rcases h with⟨x,t,y,hop,hx,hy,rfl,rfl⟩|⟨c,f,g,al,r,hop,hc,hf,hal,hp,rfl,rfl⟩
 ·rw [plain (fun c e => by rw [hop] at e; cases e)]
  obtain⟨u,he,hu⟩:=ev_rv hr.rt hx;have hev:a.eval x= .iface t u:=he;have:(execOp a.eval o).run P w= .halt (.panic (.iface t u)) w:=by simp[execOp,hop,hev,run_panic_iface]
  rw[this];exact hQ [] s w (Went.refl hr) (.iface t u) (fun s2 w2=>⟨u,rfl,gnd_rv y u hy hu⟩)
 ·rw [plain (fun c e => by rw [hop] at e; cases e)]
  obtain⟨next,h1,h2,_⟩:=hp s w _ (c.args.map a.eval) (ev_rv hr.rt hf) (by rw[Array.toList_map];exact evs_rl hr.rt hal) hr.rh hr.rt.2.2 hr.nx
  have:(execOp a.eval o).run P w= .ok next w:=by
   simp only[execOp,hop,resolve,hc];exact h1
  rw[this];refine Qr7 h2 ?_
  rintro u w' ⟨u2,s',e,g1,g2,g3,g4,g5⟩
  cases e;refine hQ r.lg s' w' ⟨⟨g2,hr.rt.mono g3.le g3.k,Qdr hr.nx g4 g5,?_⟩,g3,g4,g5,rfl⟩ u g1;obtain⟨Ds,d1,d2,d3⟩:=hr.df;exact⟨Ds,d1,d2,fun D hD=>(d3 D hD).step g3⟩
section
variable {rd:Option Nat} {nx0:Nat} {st:St} {R:Ex→St→Prop}
theorem Sat.region_pan{E:Env}(hE:E.Ok P){id:Nat}{ops:Array Oper}{call:Qal}(hc:Qa9 P st.tm.gl call){i:Nat}{o:Oper}{st1 st2:St}{v:V}(h:seqR E call ops (ops.toList.take i) st=some st1)(ho:ops[i]? =some o)(hw:wantedV st1.tm ops o=some true)(hp:PanOp P st1 o v st2)(hR:R (.pan v) st2):Sat P rd nx0 (.region id ops false) st R:=by
 intro B s0 w0 s w a hn hB hrd A Q hQ;refine wpIn_region ?_;have hi:i<ops.size:=(Array.getElem?_eq_some_iff.1 ho).1;have hlen:(ops.toList.take i).length=i:=by rw[List.length_take,Array.length_toList];omega
 have hsp:List.range ops.size=List.range' 0 (ops.toList.take i).length++i::List.range' (i+1) (ops.size-i-1):=by
  rw[hlen,List.range_eq_range',show i::List.range' (i+1) (ops.size-i-1)=List.range' i (ops.size-i)by rw[show ops.size-i=(ops.size-i-1)+1 by omega,List.range'_succ];simp]
  rw[show ops.size=i+(ops.size-i)by omega,←List.range'_append];simp
 rw[hsp];refine Qh5 _ _ _ ?_;refine Qfs hE.G hE.ext hc (l:=rd.map s0.μ) (ops.toList.take i) 0 st st1 s w a (fun j hj=>?_) h rfl A.rel ?_
 ·rw [hlen] at hj;rw[List.getElem?_take_of_lt hj,Array.getElem?_toList,Nat.zero_add]
 ·rintro a1 w1 ⟨lg1, s1, W1⟩
  show wpOpsIn _ _ _ _ _ _ _ _;rw[wpOpsIn_cons];unfold wpOpIn;rw[ho];dsimp only;rw[if_pos (Qa4 W1.rel.rt hw)];exact Qqp hp W1.rel (fun lg2 s2 w2 W2 u hu=>hQ (.pan v) st2 hR s2 w2 a1 (A.went (W1.trans W2)) u hu)
end
section
variable {P:Program} {E:Env} {call:Qal} {ops:Array Oper} {H:T O} {nx:Nat}
def QOp(E:Env)(call:Qal)(ops:Array Oper)(H:T O)(nx:Nat)(tm:TM)(o:Oper)(x:V):Prop:=
 (wantedV tm ops o=some false∧x= .tup [])∨(wantedV tm ops o=some true∧∃rd,calm E.G tm H.get o=some (x,rd))∨(wantedV tm ops o=some true∧effO E call tm H nx o=some ⟨x,H,nx,[]⟩)
def puts(ops:Array Oper)(val:Nat→V):List Nat→TM→TM
 |[],tm=>tm
 |k::l,tm=>puts ops val l (tm.put ((ops[k]?).bind (·.dst)) (val k))
theorem put_n(tm:TM)(d:Option Nat)(x:V):(tm.put d x).n=tm.n:=by
 cases d with
 |none=>rfl
 |some t=>rw[TM.put_some];cases Nat.blt t tm.n<;>rfl
theorem Qkm(val:Nat→V): ∀(l:List Nat)(tm:TM),(puts ops val l tm).gl=tm.gl∧(puts ops val l tm).n=tm.n
 |[],tm=>⟨rfl,rfl⟩
 |k::l,tm=>by
  obtain⟨h1,h2⟩:=Qkm val l (tm.put ((ops[k]?).bind (·.dst)) (val k));exact⟨h1.trans (Qa3 _ _ _),h2.trans (put_n _ _ _)⟩
theorem puts_get(val:Nat→V): ∀(l:List Nat)(tm:TM)(t:Nat)(x:V),(puts ops val l tm).sl.get t=some x→
  (∃i∈l,(ops[i]?).bind (·.dst)=some t∧x=val i∧t<tm.n)∨((∀i∈l,(ops[i]?).bind (·.dst)=some t→False)∧tm.sl.get t=some x)∨(tm.sl.get t=some x∧tm.n≤t)
 |[],tm,t,x,h=>.inr (.inl ⟨fun _ hi=>(by cases hi),h⟩)
 | k :: l, tm, t, x, h => by
  rcases puts_get val l _ t x h with⟨i,hi,h1,h2,h3⟩|⟨h1,h2⟩|⟨h1,h2⟩
  ·exact .inl ⟨i,List.mem_cons_of_mem _ hi,h1,h2,by rw[put_n]at h3;exact h3⟩
  ·by_cases hk : (ops[k]?).bind (·.dst) = some t
   ·rw [hk, TM.put_some] at h2;cases hb:Nat.blt t tm.n with
    |true=>
     rw[hb,cond_true]at h2;dsimp only at h2;rw[T.get_put,if_pos rfl]at h2;cases h2;exact .inl ⟨k,List.mem_cons_self,hk,rfl,Nat.le_of_ble_eq_true hb⟩
    |false=>
     rw[hb,cond_false]at h2;refine .inr (.inr ⟨h2,Nat.not_lt.1 fun hlt=>?_⟩)
     have:Nat.blt t tm.n=true:=Nat.ble_eq_true_of_le hlt;rw[hb]at this;cases this
   ·refine .inr (.inl ⟨fun i hi hd => ?_, ?_⟩)
    ·rcases List.mem_cons.1 hi with rfl | hi
     ·exact hk hd
     ·exact h1 i hi hd
    ·cases hd : (ops[k]?).bind (·.dst) with
     |none=>rw[hd]at h2;obtain⟨a,b,c⟩:=tm;exact h2
     | some d =>
      rw[hd,TM.put_some]at h2;cases hb:Nat.blt d tm.n with
      |true=>
       rw[hb,cond_true]at h2;dsimp only at h2;rwa [T.get_put,if_neg (fun e=>hk (by rw[hd,e]))]at h2
      |false=>rw[hb,cond_false]at h2;exact h2
  ·rw [put_n] at h2;cases hd:(ops[k]?).bind (·.dst)with
   |none=>rw[hd]at h1;obtain⟨a,b,c⟩:=tm;exact .inr (.inr ⟨h1,h2⟩)
   | some d =>
    rw[hd,TM.put_some]at h1;cases hb:Nat.blt d tm.n with
    |true=>
     have hlt:=Nat.le_of_ble_eq_true hb;rw[hb,cond_true]at h1;dsimp only at h1;rw[T.get_put,if_neg (by omega)]at h1
     exact .inr (.inr ⟨h1,h2⟩)
    |false=>rw[hb,cond_false]at h1;exact .inr (.inr ⟨h1,h2⟩)
def Looks(ops:Array Oper)(bf:Array Nat)(k:Nat)(o:Oper)(l:List Nat):Prop:=
 ∀i t,(ops[i]?).bind (·.dst)=some t→t∈o.looksAt ops→(bf.getD k 0).testBit i=true∧i∈l
structure QInvG(B:Bs)(ops:Array Oper)(s0:Sig)(w0:World)(nx0:Nat)(H:T O)(nx:Nat)(lg:List Nat)(tm0:TM)(val:Nat→V)(Gb:List Nat)(X:Nat→Prop)(s:Sig)(w:World)(a:Act):Prop where
 at_:Ats B s0 w0 nx0 ⟨⟨.e,tm0.gl,tm0.n⟩,H,nx,lg⟩ s w a
 old: ∀t x,tm0.sl.get t=some x→(∀i,X i→(ops[i]?).bind (·.dst)=some t→False)∨tm0.n≤t→∃u,a.tmps[t]? =some u∧RV s w x u
 new: ∀i t,X i→i∉Gb→(ops[i]?).bind (·.dst)=some t→t<tm0.n→∃u,a.tmps[t]? =some u∧RV s w (val i) u
theorem QInvG.rt{B:Bs}{s0:Sig}{w0:World}{nx0:Nat}{lg:List Nat}{tm0:TM}{val:Nat→V}{Gb:List Nat}{X:Nat→Prop}{s:Sig}{w:World}{a:Act}(I:QInvG B ops s0 w0 nx0 H nx lg tm0 val Gb X s w a){k:Nat}{o:Oper}{l:List Nat}(hl:Looks ops (Region.before ops) k o l)(hg: ∀i∈l,i∉Gb)(hm: ∀i,((Region.before ops).getD k 0).testBit i=true→X i):RT s w (rTM ops o (puts ops val l tm0)) a.tmps:=by
 obtain⟨hgl,hn⟩:=Qkm (ops:=ops) val l tm0;refine⟨by show _=(puts ops val l tm0).n;rw[hn];exact I.at_.rel.rt.1,fun t x hx=>?_,by show∀g l',(puts ops val l tm0).gl.get g=some l'→_;rw[hgl];exact I.at_.rel.rt.2.2⟩
 have hx':(restr (o.looksAt ops) (puts ops val l tm0).sl).get t=some x:=hx;rw[Qb5]at hx';split at hx'
 ·rename_i ht;rcases puts_get val l tm0 t x hx' with⟨i,hi,h1,rfl,hlt⟩|⟨h1,h2⟩|⟨h1,h2⟩
  ·exact I.new i t (hm i (hl i t h1 ht).1) (hg i hi) h1 hlt
  ·exact I.old t x h2 (.inl fun i hX hd=>h1 i (hl i t hd ht).2 hd)
  ·exact I.old t x h1 (.inr h2)
 ·cases hx'
theorem QInvG.put{B:Bs}{s0:Sig}{w0:World}{nx0:Nat}{lg:List Nat}{tm0:TM}{val:Nat→V}{Gb:List Nat}{X:Nat→Prop}{s s':Sig}{w w':World}{a:Act}(I:QInvG B ops s0 w0 nx0 H nx lg tm0 val Gb X s w a)(hU:Qcz (ops.toList.filterMap (·.dst))=true){k:Nat}{o:Oper}(ho:ops[k]? =some o){u:Value}(hu:k∉Gb→RV s' w' (val k) u)(hH:RH s' w' H.get)(hs:Step s w s' w' [])(hd: ∀i,s'.dom i↔s.dom i∨nx≤i∧i<nx):QInvG B ops s0 w0 nx0 H nx lg tm0 val Gb (Qie X k) s' w' (a.put o.dst u):=by
 have hk:(ops[k]?).bind (·.dst)=o.dst:=by rw[ho];rfl
 have hsz:a.tmps.size=tm0.n:=I.at_.rel.rt.1;refine⟨?_,fun t x hx hne=>?_,fun i t hX hng hdi hlt=>?_⟩
 ·refine Ats.went I.at_ (lg := []) ⟨⟨hH, ⟨by rw [Qe4]; exact I.at_.rel.rt.1, fun i x hx => by simp at hx, (I.at_.rel.rt.mono hs.le hs.k).2.2⟩, Qdr I.at_.rel.nx hd (Nat.le_refl _), ?_⟩, hs, hd, Nat.le_refl _, rfl⟩
  obtain⟨Ds,d1,d2,d3⟩:=I.at_.rel.df;refine⟨Ds,?_,d2,fun D hD=>(d3 D hD).step hs⟩
  rw[←d1];cases o.dst<;>rfl
 ·have hne' : o.dst ≠ some t ∨ tm0.n ≤ t := by
   rcases hne with hne|hge
   ·exact .inl fun e=>hne k (.inr rfl) (hk.trans e)
   ·exact .inr hge
  obtain⟨v,hv,hr⟩:=I.old t x hx (hne.imp (fun h i hX=>h i (.inl hX)) id)
  rcases hne' with hne'|hge
  ·exact⟨v,by rw[Qbb hne'];exact hv,RV.mono hs.le hs.k _ _ hr⟩
  ·have := (Array.getElem?_eq_some_iff.1 hv).1;omega
 ·by_cases hkt : o.dst = some t
  ·have hik : i = k := by
    cases hoi:ops[i]? with
    |none=>rw[hoi]at hdi;cases hdi
    |some oi=>rw[hoi]at hdi;exact Qkx hU hoi ho hdi hkt
   subst hik;exact⟨u,by rw[hkt];exact Qe3 (by rw[hsz];exact hlt),hu hng⟩
  ·rcases hX with hX | rfl
   ·obtain ⟨v, hv, hr⟩ := I.new i t hX hng hdi hlt;exact⟨v,by rw[Qbb hkt];exact hv,RV.mono hs.le hs.k _ _ hr⟩
   ·exact absurd (hk.symm.trans hdi) hkt
theorem PanOp.tm{tm tm':TM}{H':T O}{nx':Nat}{lg lg':List Nat}{o:Oper}{v:V}(h: ∀x∈o.op.operands.toList,ev tm x=ev tm' x)(hg:tm.gl=tm'.gl)(hp:PanOp P ⟨tm,H,nx,lg⟩ o v ⟨tm,H',nx',lg'⟩):PanOp P ⟨tm',H,nx,lg⟩ o v ⟨tm',H',nx',lg'⟩:=by
 rcases hp with⟨x,t,y,hop,hx,hy,hv,hst⟩|⟨c,f,g,l,r,hop,hc,hf,hl,hcp,hv,hst⟩
 ·have h2 := congrArg St.H hst;have h3:=congrArg St.nx hst;have h4:=congrArg St.lg hst;dsimp only at h2 h3 h4;exact .inl ⟨x,t,y,hop,by rw[←h x (by rw[hop];simp[Op.operands])];exact hx,hy,hv,by rw[h2,h3,h4]⟩
 ·refine .inr ⟨c, f, g, l, r, hop, hc, ?_, ?_, by dsimp only at hcp ⊢; rw [← hg]; exact hcp, hv, ?_⟩
  ·dsimp only at hf ⊢;rw[←h f (by rw[hop];simp[Op.operands,Call.operands,hc])];exact hf
  ·dsimp only at hl ⊢;rw[←Ql0 (fun x hx=>h x (by rw[hop];simp only[Op.operands,Call.operands,Array.toList_append];exact List.mem_append.2 (.inr hx)))];exact hl
  ·have h2 := congrArg St.H hst;have h3:=congrArg St.nx hst;have h4:=congrArg St.lg hst;dsimp only at h2 h3 h4;rw[h2,h3,h4]
theorem any_panG(hG:E.G.Ok P)(hX:Qq3 E P){l:Option Nat}{Q:Exit→Act→World→Prop}{B:Bs}{s0:Sig}{w0:World}{nx0:Nat}{H':T O}{nx':Nat}{lg lg':List Nat}{tm0:TM}{val:Nat→V}{A Gb:List Nat}{j0:Nat}{oj:Oper}{v:V}(hcall:Qa9 P tm0.gl call)
  (hE:Qeq ops=true)(hM:Qml ops (Region.before ops)=true)(hU:Qcz (ops.toList.filterMap (·.dst))=true)
  (hA: ∀k∈A,∃l1 o,ops[k]? =some o∧QOp E call ops H nx (puts ops val l1 tm0) o (val k)∧Looks ops (Region.before ops) k o l1∧∀i∈l1,i∉Gb)
  (hj:ops[j0]? =some oj)(hjw:wantedV (puts ops val A tm0) ops oj=some true)(hjp:PanOp P ⟨puts ops val A tm0,H,nx,lg⟩ oj v ⟨puts ops val A tm0,H',nx',lg'⟩)(hjl:Looks ops (Region.before ops) j0 oj A)(hjA: ¬(j0∈A∨j0∈Gb))(hAG: ∀i∈A,i∉Gb)(hGb: ∀k∈Gb,∃o x ob,ops[k]? =some o∧o.guard=none∧∀tm,allocO E.G tm nx o=some (x,ob))
  (hO: ∀k o,ops[k]? =some o→k∉A→k∉Gb→k≠j0→∃e∈o.after,Region.binds .any e=true∧¬(e.on∈A∨e.on∈Gb))
  (hQ: ∀s' w' a',Ats B s0 w0 nx0 ⟨⟨.e,tm0.gl,tm0.n⟩,H',nx',lg'⟩ s' w' a'→exQ Q w' a' (.pan v)): ∀(fuel:Nat)(b:Array Bool)(s:Sig)(w:World)(a:Act),QInvG B ops s0 w0 nx0 H nx lg tm0 val Gb (Lst b) s w a→(∀k o,Lst b k→ops[k]? =some o→∀e∈o.after,Region.binds .any e=true→Lst b e.on)→b.size=ops.size→(∀i,Lst b i→i∈A∨i∈Gb)→cnt b ops.size≤fuel→
  wpAnyIn (FF l) 5 P .any ops Q fuel b a w:=by
 have hj0:j0<ops.size:=(Array.getElem?_eq_some_iff.1 hj).1;intro fuel
 induction fuel with
 |zero=>
  intro b s w a I cl hs hin hc;exact absurd (hin j0 (Qjy (b:=b) (n:=ops.size) (by omega) j0 hj0)) hjA
 | succ fuel ih =>
  intro b s w a I cl hs hin hc;refine⟨fun h=>absurd (hin j0 (Qhk hs hE h j0 hj0)) hjA,fun j hjr=>?_⟩
  obtain⟨h1,o,ho,hall⟩:=mem_ready.1 hjr;have hjs:j<b.size:=by rw[hs];exact(Array.getElem?_eq_some_iff.1 ho).1
  have hb:b.getD j false=false:=by
   cases hb:b.getD j false with
   |false=>rfl
   |true=>exact(Qql h1 hb).elim
  have hmask:=Qed hM hE (X:=Lst b) cl j o ho hall;unfold wpOpIn;rw[ho];dsimp only;by_cases hjj:j=j0
  ·subst hjj;rw[hj]at ho;cases ho;have hRT:=I.rt hjl hAG hmask;rw[Qbh]at hjw;rw[if_pos (Qa4 hRT hjw)];have hp:=PanOp.tm (Qfr (ops:=ops)) rfl hjp;have hrel:Rel B s w ⟨rTM ops oj (puts ops val A tm0),H,nx,lg⟩ a:=⟨I.at_.rel.rh,hRT,I.at_.rel.nx,I.at_.rel.df⟩;refine Qqp hp hrel (fun lg2 s2 w2 W u hu=>hQ s2 w2 a (Ats.went I.at_ (lg:=lg2) ⟨⟨W.rel.rh,⟨I.at_.rel.rt.1,fun i x hx=>by simp at hx,(I.at_.rel.rt.mono W.step.le W.step.k).2.2⟩,W.rel.nx,W.rel.df⟩,W.step,W.dom,W.le,W.log⟩) u hu)
  ·have hjA' : j ∈ A ∨ j ∈ Gb := by
    refine Classical.byContradiction fun hn=>?_
    obtain⟨e,he,hbd,hno⟩:=hO j o ho (fun h=>hn (.inl h)) (fun h=>hn (.inr h)) hjj
    exact hno (hin _ (hall e he hbd))
   have hX':Lst (b.setIfInBounds j true)=Qie (Lst b) j:=funext fun i=>propext (by
    unfold Lst Qie;rw[Qj6 hjs];by_cases h:i=j
    ·simp[h]
    ·simp[h])
   have cl': ∀k ok,Lst (b.setIfInBounds j true) k→ops[k]? =some ok→∀e∈ok.after,Region.binds .any e=true→Lst (b.setIfInBounds j true) e.on:=by
    rw[hX']
    rintro k ok (hk|rfl) hok e he hbn
    ·exact .inl (cl k ok hk hok e he hbn)
    ·rw [ho] at hok; cases hok;exact .inl (hall e he hbn)
   have hin': ∀i,Lst (b.setIfInBounds j true) i→i∈A∨i∈Gb:=by
    rw[hX']
    rintro i (hi|rfl)
    ·exact hin i hi
    ·exact hjA'
   have hcn:=Qnr hjs hb ops.size;rw[if_pos (by omega)]at hcn
   have next: ∀{s':Sig}{w':World}{a':Act},QInvG B ops s0 w0 nx0 H nx lg tm0 val Gb (Qie (Lst b) j) s' w' a'→wpAnyIn (FF l) 5 P .any ops Q fuel (b.setIfInBounds j true) a' w':=fun J=>
    ih _ _ _ _ (by rw[hX'];exact J) cl' (by simp[hs]) hin' (by omega)
   have hdom0: ∀i,s.dom i↔s.dom i∨nx≤i∧i<nx:=fun i=>⟨.inl,fun h=>h.elim id (fun h=>by omega)⟩
   rcases hjA' with hjA'|hjG
   ·obtain ⟨l1, o', ho', hq, hlk, hlg⟩ := hA j hjA';rw[ho]at ho';cases ho';have hRT:=I.rt hlk hlg hmask;rcases hq with⟨hw,hv⟩|⟨hw,rd,hc'⟩|⟨hw,he⟩
    ·rw [Qbh] at hw;rw[if_neg (by rw[Qa4 hRT hw];decide)]
     exact⟨fun f _=>Qd1 l f,next (I.put hU ho (fun _=>by rw[hv];exact⟨#[],rfl,rfl⟩) I.at_.rel.rh (Step.refl s w []) hdom0)⟩
    ·rw [Qbh] at hw;rw[if_pos (Qa4 hRT hw)];rw[Qss (Qfr (ops:=ops))]at hc';obtain⟨u,g1,g2⟩:=Qem hG I.at_.rel.rh hRT hc';refine⟨fun f _=>Qd1 l f,?_⟩
     rw[Qfc hc',g2 w (fun _ _=>rfl) (fun _ _=>rfl)]
     exact next (I.put hU ho (fun _=>g1) I.at_.rel.rh (Step.refl s w []) hdom0)
    ·rw [Qbh] at hw;rw[if_pos (Qa4 hRT hw)];rw[eff_tm (Qfr (ops:=ops))]at he;have hgl:(rTM ops o (puts ops val l1 tm0)).gl=tm0.gl:=(Qkm (ops:=ops) val l1 tm0).1;refine Qpt hG hX hcall hgl I.at_.rel.rh hRT I.at_.rel.nx he ?_
     rintro u w' ⟨u',s',e,g1,g2,g3,g4,g5⟩
     cases e;exact next (I.put hU ho (fun _=>g1) g2 g3 g4)
   ·obtain ⟨o', x, ob, ho', hgd, hal⟩ := hGb j hjG;rw[ho]at ho';cases ho';rw[if_pos (by unfold Region.wanted;rw[hgd])]
    obtain⟨u,w',s',g1,g2,g3,g4,g5⟩:=Qej hG I.at_.rel.rh I.at_.rel.rt (I.at_.rel.nx nx (Nat.le_refl _)) (hal _);have hno: ∀b,¬ ∃h∈([]:List Nat),s.dom h∧b=s.μ h:=fun b⟨h,h1,_⟩=>by cases h1
    have z0:=Step.refl s w [];obtain⟨r1,_⟩:=I.at_.rel.rh.below (w':=w') ⟨g4.mod.os,g4.mod.tape,g4.mod.output,g4.mod.size,fun k hk=>g4.mod.block k hk (fun⟨h,h1,_⟩=>by cases h1)⟩
    refine⟨fun f _=>Qd1 l f,?_⟩
    rw[Qd4 (hal ⟨.e,tm0.gl,tm0.n⟩),g1];exact next (I.put hU ho (fun h=>absurd hjG h) r1 ⟨z0.le,z0.fz,g4.kept,g4.mod,z0.new⟩ hdom0)
end
def looksB(ops:Array Oper)(bf:Array Nat)(k:Nat)(o:Oper)(l:List Nat):Bool:=ops.toList.zipIdx.all fun p=>match p.1.dst with
 |none=>true
 |some t=> !(o.looksAt ops).contains t||((bf.getD k 0).testBit p.2&&l.contains p.2)
def ordB(ops:Array Oper)(bf:Array Nat):List Nat→List Nat→Bool
 | _,[]=>true
 |pre,k::l=> !pre.contains k&& !l.contains k&&(match ops[k]? with|some o=>looksB ops bf k o pre|none=>false)&&ordB ops bf (pre++[k]) l
def Quy(ops:Array Oper)(bf:Array Nat)(A Gb:List Nat)(j0:Nat):Bool:=
 Qeq ops&&Qml ops bf&&Qcz (ops.toList.filterMap (·.dst))&&ordB ops bf [] A&&(match ops[j0]? with|some o=>looksB ops bf j0 o A|none=>false)&& !A.contains j0&& !Gb.contains j0&&(A.all fun k=> !Gb.contains k)&&
 ops.toList.zipIdx.all fun p=>A.contains p.2||Gb.contains p.2||Nat.beq p.2 j0||p.1.after.toList.any fun e=>Region.binds .any e&& !A.contains e.on&& !Gb.contains e.on
theorem Qmh{ops:Array Oper}{bf:Array Nat}{k:Nat}{o:Oper}{l:List Nat}(h:looksB ops bf k o l=true): ∀i t,(ops[i]?).bind (·.dst)=some t→t∈o.looksAt ops→(bf.getD k 0).testBit i=true∧i∈l:=by
 intro i t hd ht;cases hoi:ops[i]? with
 |none=>rw[hoi]at hd;cases hd
 |some oi=>
  rw[hoi]at hd;have:=Qef h hoi;dsimp only at this;rw[show oi.dst=some t from hd]at this;dsimp only at this;have hc:(o.looksAt ops).contains t=true:=List.contains_iff_mem.2 ht;rw[hc]at this
  simpa using this
theorem Sat.region_panDG{P:Program}{E:Env}(hE:E.Ok P)(hm:P.follows .mixedOrders=true){rd:Option Nat}{nx0:Nat}{st:St}{H':T O}{nx':Nat}{lg':List Nat}{R:Ex→St→Prop}{id:Nat}{ops:Array Oper}{call:Qal}(hc:Qa9 P st.tm.gl call){A Gb:List Nat}{j0:Nat}{oj:Oper}{v:V}{val:Nat→V}(hb:Quy ops (Region.before ops) A Gb j0=true)
  (hGb: ∀k∈Gb,∃o x ob,ops[k]? =some o∧o.guard=none∧∀tm,allocO E.G tm st.nx o=some (x,ob))
  (hA: ∀l1 k l2,A=l1++k::l2→∃o,ops[k]? =some o∧QOp E call ops st.H st.nx (puts ops val l1 st.tm) o (val k))
  (hj:ops[j0]? =some oj)(hjw:wantedV (puts ops val A st.tm) ops oj=some true)(hjp:PanOp P ⟨puts ops val A st.tm,st.H,st.nx,st.lg⟩ oj v ⟨puts ops val A st.tm,H',nx',lg'⟩)
  (hR:R (.pan v) ⟨⟨.e,st.tm.gl,st.tm.n⟩,H',nx',lg'⟩):Sat P rd nx0 (.region id ops true) st R:=by
 intro B s0 w0 s w a hn hB hrd At Q hQ;unfold Quy at hb;simp only[Bool.and_eq_true]at hb;obtain⟨⟨⟨⟨⟨⟨⟨⟨b1,b2⟩,b3⟩,b4⟩,b5⟩,b6⟩,b8⟩,b9⟩,b7⟩:=hb;have hAG: ∀i∈A,i∉Gb:=fun i hi hg=>by
  have:=List.all_eq_true.1 b9 i hi;simp[hg]at this
 refine wpIn_region_any hm ?_;have hL:Lst (Array.replicate ops.size false)=fun _=>False:=funext fun i=>propext ⟨fun h=>by
  unfold Lst at h;rw[Array.getD_eq_getD_getElem?,Array.getElem?_replicate]at h;split at h<;>simp at h,False.elim⟩
 have kd:Kept s w w.drew:=fun _ _=>rfl
 have hord: ∀(l pre:List Nat),ordB ops (Region.before ops) pre l=true→∀l1 k l2,l=l1++k::l2→∀o,ops[k]? =some o→looksB ops (Region.before ops) k o (pre++l1)=true:=by
  intro l
  induction l with
  |nil=>intro pre _ l1 k l2 e;simp at e
  | cons x l ih =>
   intro pre h l1 k l2 e o ho;unfold ordB at h;simp only[Bool.and_eq_true]at h;cases l1 with
   |nil=>
    rw[List.nil_append]at e;cases e;rw[ho]at h;rw[List.append_nil];exact h.1.2
   |cons y l1=>
    rw[List.cons_append]at e;cases e;have:=ih (pre++[x]) h.2 l1 k l2 rfl o ho
    simpa using this
 refine any_panG (l:=rd.map s0.μ) (val:=val) (A:=A) (Gb:=Gb) (j0:=j0) (tm0:=st.tm) hE.G hE.ext hc b1 b2 b3 (fun k hk=>?_) hj hjw hjp ?_ (by simp at b6 b8;exact fun h=>h.elim b6 b8) hAG hGb (fun k o ho hk hkg hkj=>?_) (fun s' w' a' A' u hu=>hQ _ _ hR s' w' a' A' u hu) ops.size _ s w.drew a ?_ ?_ (by simp) ?_ ?_
 ·obtain ⟨l1, l2, e⟩ := List.append_of_mem hk;obtain⟨o,ho,hq⟩:=hA l1 k l2 e;refine⟨l1,o,ho,hq,?_⟩;have:=hord A [] b4 l1 k l2 e o ho;rw[List.nil_append]at this;exact⟨Qmh this,fun i hi=>hAG i (by rw[e];exact List.mem_append.2 (.inl hi))⟩
 ·rw [hj] at b5;exact Qmh b5
 ·have := Qef b7 ho;dsimp only at this;rw[Bool.or_eq_true,Bool.or_eq_true,Bool.or_eq_true]at this;rcases this with((h|h)|h)|h
  ·exact absurd (List.contains_iff_mem.1 h) hk
  ·exact absurd (List.contains_iff_mem.1 h) hkg
  ·exact absurd (Nat.eq_of_beq_eq_true h) hkj
  ·obtain ⟨e, he, h2⟩ := List.any_eq_true.1 h;rw[Bool.and_eq_true,Bool.and_eq_true]at h2;exact⟨e,by simpa using he,h2.1.1,fun hm=>hm.elim (fun hm=>by have:=h2.1.2;simp[hm]at this) (fun hm=>by have:=h2.2;simp[hm]at this)⟩
 ·rw [hL];have hr:=At.rel;refine⟨⟨⟨hr.rh.drew,⟨hr.rt.1,fun i x hx=>by simp at hx,fun gi l hl=>RC.mono (Sig.Le.refl s) kd _ _ _ (hr.rt.2.2 gi l hl)⟩,hr.nx,?_⟩,At.step.drew,At.dom,At.le⟩,fun t x hx _=>?_,fun _ _ h=>h.elim⟩
  ·obtain ⟨Ds, h1, h2, h3⟩ := hr.df;exact⟨Ds,h1,h2,h3⟩
  ·obtain ⟨v, hv, hrv⟩ := hr.rt.2.1 t x hx;exact⟨v,hv,RV.mono (Sig.Le.refl s) kd _ _ hrv⟩
 ·rw[hL];exact fun _ _ h=>h.elim
 ·rw[hL];exact fun _ h=>h.elim
 ·have : ∀ n, cnt (Array.replicate ops.size false) n ≤ n := by
   intro n
   induction n with
   |zero=>simp[cnt]
   |succ n ih=>unfold cnt;cases(Array.replicate ops.size false).getD n false<;>simp<;>omega
  exact this ops.size
def panB(ops:Array Oper)(bf:Array Nat)(A:List Nat)(j0:Nat):Bool:=Quy ops bf A [] j0
theorem Sat.region_panD{P:Program}{E:Env}(hE:E.Ok P)(hm:P.follows .mixedOrders=true){rd:Option Nat}{nx0:Nat}{st:St}{H':T O}{nx':Nat}{lg':List Nat}{R:Ex→St→Prop}{id:Nat}{ops:Array Oper}{call:Qal}(hc:Qa9 P st.tm.gl call){A:List Nat}{j0:Nat}{oj:Oper}{v:V}{val:Nat→V}(hb:panB ops (Region.before ops) A j0=true)
  (hA: ∀l1 k l2,A=l1++k::l2→∃o,ops[k]? =some o∧QOp E call ops st.H st.nx (puts ops val l1 st.tm) o (val k))
  (hj:ops[j0]? =some oj)(hjw:wantedV (puts ops val A st.tm) ops oj=some true)(hjp:PanOp P ⟨puts ops val A st.tm,st.H,st.nx,st.lg⟩ oj v ⟨puts ops val A st.tm,H',nx',lg'⟩)
  (hR:R (.pan v) ⟨⟨.e,st.tm.gl,st.tm.n⟩,H',nx',lg'⟩):Sat P rd nx0 (.region id ops true) st R:=
 Sat.region_panDG hE hm hc hb (fun _ h=>by cases h) hA hj hjw hjp hR
noncomputable def Qcs:RV0→Option OR
 |some (v,rd)=>some (.calm v rd)
 |none=>none
theorem calmL_eq(x:RV0):Qcs x=Qb8 x:=by rw[calmR_eq];rfl
noncomputable def copL(E:Env)(o:Oper):OC:=
 match o.op with
 | .alloc t=>⟨fun _ _ _ nx=>newR (Qo5 E.G nx t)⟩
 | .box t x=>⟨fun _ tm _ nx=>newR (aBox tm nx t x)⟩
 | .buildSlice .. | .makeSlice .. | .makeMap .. =>⟨fun _ tm _ nx=>newR (allocO E.G tm nx o)⟩
 | .store t x y=>⟨fun _ tm H nx=>effR (stO nx (Qii E.G tm H t x y))⟩
 | .mapUpdate t m k v=>⟨fun _ tm H nx=>effR (Qei E.G tm H nx t m k v)⟩
 | .insert t m k v=>⟨fun _ tm H nx=>effR (Qei E.G tm H nx t m k v)⟩
 | .mapEntry t m k=>⟨fun _ tm H nx=>effR (Qk3 E.G tm H nx t m k)⟩
 | .entryStore _ m s v=>⟨fun _ tm H nx=>effR (Qk1 tm H nx m s v)⟩
 | .range t x=>⟨fun _ tm H nx=>effR (Qk4 E.G tm H nx t x)⟩
 | .entry x=>⟨fun _ tm H nx=>effR (Qga tm H nx x)⟩
 | .call c=>match c.callee with
  | .builtin .append=>⟨fun _ tm H nx=>effR (Qf9 E.G tm H nx c)⟩
  | .builtin .copy=>⟨fun _ tm H nx=>effR (Qsf E.G tm H nx c)⟩
  | .value f=>⟨fun call tm H nx=>effR (Qse E call tm H nx f c.args.toList)⟩
  | _=>⟨fun _ tm H _=>Qcs (Qih E.G tm H c)⟩
 | .move x=>⟨fun _ tm _ _=>Qcs (Qnk tm x)⟩
 | .assign x=>⟨fun _ tm _ _=>Qcs (Qnk tm x)⟩
 | .pick c a b=>⟨fun _ tm _ _=>Qcs (aPick tm c a b)⟩
 | .load t x=>⟨fun _ tm H _=>Qcs (Qsg E.G tm H t x)⟩
 | .nilCheck x=>⟨fun _ tm _ _=>Qcs (aNil tm x)⟩
 | .binOp op t x y _=>⟨fun _ tm _ _=>Qcs (aBin E.G tm op t x y)⟩
 | .unOp op _ x=>⟨fun _ tm _ _=>Qcs (aUn tm op x)⟩
 | .convert src dst x=>⟨fun _ tm _ _=>Qcs (aConv E.G tm src dst x)⟩
 | .fieldAddr t x f=>⟨fun _ tm _ _=>Qcs (Qdm E.G tm t f x)⟩
 | .field t x f=>⟨fun _ tm _ _=>Qcs (Qo7 E.G tm t f x)⟩
 | .indexAddr t x i=>⟨fun _ tm _ _=>Qcs (Qdn E.G tm t x i)⟩
 | .index t x i=>⟨fun _ tm _ _=>Qcs (Qo8 E.G tm t x i)⟩
 | .slice t x l h m=>⟨fun _ tm _ _=>Qcs (Qo9 E.G tm t x l h m)⟩
 | .extract x i=>⟨fun _ tm _ _=>Qcs (Qfx tm x i)⟩
 | .build t ps=>⟨fun _ tm _ _=>Qcs (Qo6 E.G tm t ps)⟩
 | .lookup t x i ok=>⟨fun _ tm H _=>Qcs (Qjn E.G tm H t x i ok)⟩
 |o=>⟨fun _ tm H _=>Qcs (Qj3 E.G tm H o)⟩
theorem copL_eq(E:Env)(call:Qal)(tm:TM)(H:T O)(nx:Nat)(o:Oper):(copL E o).f call tm H nx=(cop E o).f call tm H nx:=by
 unfold copL cop;cases o.op<;>first|rfl|(simp only[calmL_eq];done)|skip
 rename_i c;dsimp only;cases c.callee with
 |builtin b=>cases b<;>first|rfl|(simp only[calmL_eq];done)
 |value f=>rfl
 |invoke=>simp only[calmL_eq]
mutual
def Hf:V→Prop
 | .bool _| .int _ _| .str _| .nilp| .nilf| .nili| .nils| .nilm| .im _ _| .imp _=>True
 | .fn _ l=>HfL l
 | .mfn _ l=>HfL l
 | .agg l=>HfL l
 | .tup l=>HfL l
 | .ifc _ x=>Hf x
 | .ptr _ _| .sl _ _ _ _| .mp _| .yld _=>False
def HfL:List V→Prop
 |[]=>True
 |x::xs=>Hf x∧HfL xs
end
structure SL where
 sl:List (Nat×V)
 os:List O:=[]
 lg:List Nat:=[]
 md:List Nat:=[]
noncomputable def putL:T V→List (Nat×V)→T V
 |t,[]=>t
 |t,(i,x)::l=>putL (pt t i x) l
noncomputable def ofOs:T O→Nat→List O→T O
 |t,_,[]=>t
 |t,i,o::os=>ofOs (pt t i o) (i+1) os
noncomputable def mkSt(gl:T (List V))(n:Nat)(S:SL):St:=⟨⟨putL (blank n) S.sl,gl,n⟩,ofOs .e 0 S.os,S.os.length,S.lg⟩
inductive Hint where
 |bool(t:Bool)
 |num(n:Int)
 |val(v:V)
 |at_
 |ld(v:V)
 |st(c:List V)
 |app
 |mk
 |call(r:CR)
 |fn(v:V)
 |loop(r:List Nat)(S:SL)(outs:List (Prop×Ex×SL))
 |unroll(n:Nat)
 |lk(es:List (V×V×Nat))(ck:Nat)(r0:Option (Nat×V))
 |up(es:List (V×V×Nat))(ck:Nat)(o':O)
 |lo(o:O)(v:V)
 |so(o:O)(c':List V)
 |ao(o:O)(n:Nat)(news:List V)
 |en(b:Nat)(k v:V)
 |an(n:Nat)(news:List V)
 |cp(n:Nat)(news:List V)
 |loopM(sl:List (Nat×V))(e:Ex)(sl':Nat→List (Nat×V))(Q:Nat→T O→Nat→List Nat→Prop)(rest:Nat→T O→Nat→List Nat→List (Nat×Hint))
 |loopK(sl:List (Nat×V))(outs:List (Prop×Ex×SL))
 |fnP(v:V)
 |sw
 |nx(l:List Nat)(view:Nat→V×V×Nat)(ha:Nat→List (Nat×Hint))(h0:List (Nat×Hint))
 |to(r:List Nat)(S:SL)
 |toO(sl:List (Nat×V))
 |loopF(sl:List (Nat×V))(outs:List (Prop×Ex×List (Nat×V)))
 |aop(o:O)(n:Nat)(news:List V)
 |pn(i:Nat)(v:Option V)
 |pc(i:Nat)(r:CR)
abbrev Hs:=List (Nat×Hint)
def key:Option Nat→Nat
 |some d=>d
 |none=>999999
def noCall:Qal:=fun _ _ _ _=>none
abbrev Qc0:=Nat→List V→Option (Prop×V)
def frzRow(n:Option Nat)(off:Nat):Option O→Option (V×Prop)
 |some (.row _ _ c)=>match n with
  |some n=>some (.im n (dropF off c),HfL (dropF off c))
  |none=>some (.imp (dropF off c),HfL (dropF off c))
 | _=>none
mutual
noncomputable def frz(H:T O):V→Option (V×Prop)
 | .bool b=>some (.bool b,True)
 | .int k n=>some (.int k n,True)
 | .str x=>some (.str x,True)
 | .nilp=>some (.nilp,True)
 | .nilf=>some (.nilf,True)
 | .nili=>some (.nili,True)
 | .nils=>some (.im 0 [],True)
 | .nilm=>some (.nilm,True)
 | .im n l=>some (.im n l,True)
 | .imp l=>some (.imp l,True)
 | .sl h off len _=>frzRow (some len) off (gt H h)
 | .ptr h off=>frzRow none off (gt H h)
 | .agg l=>match frzL H l with|some (l',p)=>some (.agg l',p)|none=>none
 | .tup l=>match frzL H l with|some (l',p)=>some (.tup l',p)|none=>none
 | .fn f l=>match frzL H l with|some (l',p)=>some (.fn f l',p)|none=>none
 | .mfn f l=>match frzL H l with|some (l',p)=>some (.mfn f l',p)|none=>none
 | .ifc t x=>match frz H x with|some (x',p)=>some (.ifc t x',p)|none=>none
 | .mp _=>none
 | .yld _=>none
noncomputable def frzL(H:T O):List V→Option (List V×Prop)
 |[]=>some ([],True)
 |x::xs=>match frz H x,frzL H xs with
  |some (y,p),some (ys,q)=>some (y::ys,p∧q)
  | _,_=>none
end
mutual
def hfB:V→Bool
 | .bool _| .int _ _| .str _| .nilp| .nilf| .nili| .nils| .nilm| .im _ _| .imp _=>true
 | .fn _ l=>hfBL l
 | .mfn _ l=>hfBL l
 | .agg l=>hfBL l
 | .tup l=>hfBL l
 | .ifc _ x=>hfB x
 | .ptr _ _| .sl _ _ _ _| .mp _| .yld _=>false
def hfBL:List V→Bool
 |[]=>true
 |x::xs=>hfB x&&hfBL xs
end
def boolH(t:Bool)(K:OR→Prop):Option OR→Prop
 |some (.calm (.bool b) rd)=>b=t∧K (.calm (.bool t) rd)
 | _=>False
def numH(n:Int)(K:OR→Prop):Option OR→Prop
 |some (.calm (.int k m) rd)=>m=n∧K (.calm (.int k n) rd)
 | _=>False
def valH(v:V)(K:OR→Prop)(o:Option V):Prop:=o=some v∧K (.calm v [])
def atH(ti:TI)(n:Int)(K:OR→Prop):V→Prop
 | .im m l=>(0≤n∧n<m)∧K (.calm (.imp (l.drop (n.toNat*ti.size))) [])
 | .sl h off m _=>(0≤n∧n<m)∧K (.calm (.ptr h (off+n.toNat*ti.size)) [])
 | _=>False
def Qn3(ti:TI)(v:V)(l:List V)(rd:List Nat)(K:OR→Prop):Prop:=
 bif ti.agg then(match v with| .agg c=>takeE ti.size l=some c∧K (.calm (.agg c) rd)| _=>False)else(headF l=some v∧K (.calm v rd))
noncomputable def ldH(H:T O)(ti:TI)(v:V)(K:OR→Prop):V→Prop
 | .imp l=>Qn3 ti v l [] K
 | .ptr h off=>match gt H h with
  |some (.row _ _ c)=>Qn3 ti v (dropF off c) [h] K
  | _=>False
 | _=>False
noncomputable def stH(H:T O)(nx:Nat)(ti:TI)(c':List V)(xs:List V)(K:OR→Prop):V→Prop
 | .ptr h off=>match gt H h with
  |some (.row et sp c)=>bif Nat.beq xs.length ti.size&&atoms xs then layE off c xs=some c'∧K (.eff ⟨.tup [],pt H h (.row et sp c'),nx,[h]⟩)else False
  | _=>False
 | _=>False
noncomputable def appH(H:T O)(nx e sz by_:Nat)(n:Nat)(news:List V)(K:OR→Prop):V→Prop
 | .sl h off len none=>match gt H h with
  | some (.row et (some sz') c) => bif Nat.beq off 0 && Nat.beq et e && Nat.beq sz' sz && atoms news then
    c.length=len*sz∧len+n≤9223372036854775807∧(len+n)*by_≤140737488355328∧K (.eff ⟨.sl nx 0 (len+n) none,pt (pt H h .dead) nx (.row e (some sz) (c++news)),nx+1,[h]⟩)else False
  | _=>False
 | _=>False
def mkH(nx e:Nat)(by_:Nat)(z:List V)(l c:Int)(K:OR→Prop):Prop:=
 (0≤l∧l≤c∧(by_:Int)*c≤281474976710656∧c≤9223372036854775807)∧K (.alloc (.sl nx 0 l.toNat (some (c.toNat-l.toNat))) (.row e none (rep c.toNat z)))
noncomputable def lkH(G:Ctx)(H:T O)(t:Nat)(ok:Bool)(es:List (V×V×Nat))(ck:Nat)(r0:Option (Nat×V))(K:OR→Prop):V→V→Prop
 | .mp h, .int k n => match G.ty t with
  | some { desc := .map kt elem, .. } => match G.ty kt with
   | some { desc := .int _, .. } => (gt H h = some (.map es ck) ∧ findV k n es 0 = some r0) ∧ (match r0 with
    |some (_,v)=>K (.calm (bif ok then .tup [v,.bool true]else v) [h])
    |none=>match zeroV G elem with
     |some z=>K (.calm (bif ok then .tup [z,.bool false]else z) [h])
     |none=>False)
   | _=>False
  | _=>False
 | .mp h, .agg xs => match G.ty t with
  | some { desc := .map kt elem, .. } => match G.ty kt, G.flat kt with
   | some _, some ks => match eqL ks xs xs with
    | some _ => (gt H h = some (.map es ck) ∧ findS ks xs es 0 = some r0) ∧ (match r0 with
     |some (_,v)=>K (.calm (bif ok then .tup [v,.bool true]else v) [h])
     |none=>match zeroV G elem with
      |some z=>K (.calm (bif ok then .tup [z,.bool false]else z) [h])
      |none=>False)
    |none=>False
   | _,_=>False
  | _=>False
 | _,_=>False
noncomputable def upH(G:Ctx)(H:T O)(nx t:Nat)(v:V)(es:List (V×V×Nat))(ck:Nat)(o':O)(K:OR→Prop):V→V→Prop
 | .mp h,.int k n=>match G.ty t with
  |some {desc:=.map kt _,.. }=>bif isInt G kt then(gt H h=some (.map es ck)∧putE k n v es ck=some o')∧K (.eff ⟨.tup [],pt H h o',nx,[h]⟩)else False
  | _=>False
 | .mp h, .agg xs => match G.ty t with
  | some { desc := .map kt _, .. } => match G.ty kt, G.flat kt with
   |some _,some ks=>match eqL ks xs xs with
    |some _=>(gt H h=some (.map es ck)∧putS ks xs v es ck=some o')∧K (.eff ⟨.tup [],pt H h o',nx,[h]⟩)
    |none=>False
   | _,_=>False
  | _=>False
 | _,_=>False
noncomputable def loH(H:T O)(ti:TI)(o:O)(v:V)(K:OR→Prop):V→Prop
 | .ptr h off=>match o with
  | .row _ _ c=>gt H h=some o∧Qn3 ti v (dropF off c) [h] K
  | _=>False
 | _=>False
noncomputable def soH(H:T O)(nx:Nat)(ti:TI)(o:O)(c':List V)(xs:List V)(K:OR→Prop):V→Prop
 | .ptr h off=>match o with
  | .row et sp c=>bif Nat.beq xs.length ti.size&&atoms xs then(gt H h=some o∧layE off c xs=some c')∧K (.eff ⟨.tup [],pt H h (.row et sp c'),nx,[h]⟩)else False
  | _=>False
 | _=>False
noncomputable def aoH(H:T O)(nx e sz by_:Nat)(o:O)(n:Nat)(news:List V)(K:OR→Prop):V→Prop
 | .sl h off len none=>match o with
  | .row et (some sz') c => bif Nat.beq off 0 && Nat.beq et e && Nat.beq sz' sz && atoms news then
    gt H h=some o∧c.length=len*sz∧len+n≤9223372036854775807∧(len+n)*by_≤140737488355328∧K (.eff ⟨.sl nx 0 (len+n) none,pt (pt H h .dead) nx (.row e (some sz) (c++news)),nx+1,[h]⟩)else False
  | _=>False
 | _=>False
noncomputable def apH(H:T O)(nx e sz by_:Nat)(o:O)(n:Nat)(news:List V)(K:OR→Prop):V→Prop
 | .sl h off len none=>match o with
  | .row et (some sz') c => bif Nat.beq off 0 && Nat.beq et e && Nat.beq sz' sz && !(Nat.beq sz 0) then
    (gt H h=some o∧c.length=len*sz∧1≤n∧len+n≤9223372036854775807∧(len+n)*by_≤140737488355328∧atoms news=true)∧K (.eff ⟨.sl nx 0 (len+n) none,pt (pt H h .dead) nx (.row e (some sz) (c++news)),nx+1,[h]⟩)else False
  | _=>False
 | _=>False
noncomputable def enI(H:T O)(nx b:Nat)(k v:V)(K:OR→Prop):Option O→Prop
 |some (.iter (some m) _ seen last)=>match gt H m with
  |some (.map es ck)=>(seen.getLast?=some b∧ck=last∧findB b es=some (k,v))∧K (.eff ⟨.tup [k,v],H,nx,[]⟩)
  | _=>False
 | _=>False
noncomputable def enH(H:T O)(nx b:Nat)(k v:V)(K:OR→Prop):V→Prop
 | .ptr h off=>bif Nat.beq off 0 then enI H nx b k v K (gt H h)else False
 | _=>False
noncomputable def swH(H:T O)(nx:Nat)(ti:TI)(xs:List V)(K:OR→Prop):V→Prop
 | .ptr h off=>bif Nat.beq off 0 then(match gt H h with
  |some (.row et sp c)=>(xs.length=ti.size∧atoms xs=true∧c.length=xs.length)∧K (.eff ⟨.tup [],pt H h (.row et sp xs),nx,[h]⟩)
  | _=>False)else False
 | _=>False
section
variable (P:Program) (E:Env) (sp:Qc0)
noncomputable def Qvz(qs:List Qay)(h:Hint)(tm:TM)(H:T O)(nx:Nat)(o:Oper)(K:List Qay→OR→Prop):Prop:=
 match h with
 | .bool t=>boolH t (K qs) ((copL E o).f noCall tm H nx)
 | .num n=>numH n (K qs) ((copL E o).f noCall tm H nx)
 | .val v => match o.op with
  | .binOp op t x y _=>match fev tm x,fev tm y with
   |some a,some b=>valH v (K qs) (binV E.G op t a b)
   | _,_=>False
  | .slice t x l h m=>match fev tm x,fevO tm l,fevO tm h,fevO tm m with
   |some a,some l,some h,some m=>valH v (K qs) (sliceV E.G t a l h m)
   | _,_,_,_=>False
  | .index t x i=>match fev tm x,fev tm i with
   |some a,some (.int _ n)=>valH v (K qs) (idxV E.G t a n)
   | _,_=>False
  | .indexAddr t x i=>match fev tm x,fev tm i with
   |some a,some (.int _ n)=>valH v (K qs) (placeV E.G t a n)
   | _,_=>False
  | _=>False
 | .at_ => match o.op with
  | .indexAddr t x i => match E.G.ty t, fev tm x, fev tm i with
   |some {desc:=.slice elem,.. },some a,some (.int _ n)=>match E.G.ty elem with
    |some ti=>atH ti n (K qs) a
    |none=>False
   | _,_,_=>False
  | _=>False
 | .ld v => match o.op with
  | .load t x=>match E.G.ty t,fev tm x with
   |some ti,some a=>ldH H ti v (K qs) a
   | _,_=>False
  | _=>False
 | .st c => match o.op with
  | .store t x y=>match E.G.ty t,fev tm x,fev tm y with
   |some ti,some a,some v=>stH H nx ti c (cellsV v) (K qs) a
   | _,_,_=>False
  | _=>False
 | .app => match o.op with
  | .call c => match c.callee with
   | .builtin .append => match c.args.toList, c.argTypes.toList with
    | [x, y], [t, tx] => match E.G.ty t, E.G.ty tx, fev tm x, fev tm y with
     | some { desc := .slice e, .. }, some { desc := .slice _, .. }, some a, some b => match E.G.ty e with
      |some {size:=sz,bytes:=by_,zero:=some _,.. }=>match srcV H sz b with
       |some (n,news)=>bif Nat.beq n 0||Nat.beq sz 0 then False else appH H nx e sz by_ n news (K qs) a
       |none=>False
      | _=>False
     | _,_,_,_=>False
    | _,_=>False
   | _=>False
  | _=>False
 | .mk => match o.op with
  | .makeSlice t l c => match E.G.ty t, fev tm l, fev tm c with
   |some {desc:=.slice e,.. },some (.int _ l),some (.int _ c)=>match E.G.ty e with
    |some {bytes:=by_,zero:=some z,.. }=>mkH nx e by_ z l c (K qs)
    | _=>False
   | _,_,_=>False
  | _=>False
 | .call r => match o.op with
  | .call c => match c.callee with
   | .value f => match fev tm f, fevs tm c.args.toList with
    |some g,some l=>match extCall E g l with
     |some _=>False
     |none=>CallSpec P tm.gl g l H nx r∧Cons1 ⟨g,l,H,nx,r⟩ qs∧K (⟨g,l,H,nx,r⟩::qs) (.eff r)
    | _,_=>False
   | _=>False
  | _=>False
 | .fn v => match o.op with
  | .call c => match c.callee with
   | .value f => match fev tm f, fevs tm c.args.toList with
    | some (.fn f caps), some l => match extCall E (.fn f caps) l with
     |some _=>False
     |none=>match frzL H (l++caps)with
      |some (l',p1)=>bif hfB v&&(hfBL (l++caps)||gnd v)then p1∧FnOk P tm.gl f l' v∧Cons1 ⟨.fn f caps,l,H,nx,⟨v,H,nx,[]⟩⟩ qs∧K (⟨.fn f caps,l,H,nx,⟨v,H,nx,[]⟩⟩::qs) (.eff ⟨v,H,nx,[]⟩)else False
      |none=>False
    | _,_=>False
   | _=>False
  | _=>False
 | .lk es ck r0 => match o.op with
  | .lookup t x i ok=>match fev tm x,fev tm i with
   |some a,some b=>lkH E.G H t ok es ck r0 (K qs) a b
   | _,_=>False
  | _=>False
 | .up es ck o' => match o.op with
  | .mapUpdate t m k v=>match fev tm m,fev tm k,fev tm v with
   |some a,some b,some v=>upH E.G H nx t v es ck o' (K qs) a b
   | _,_,_=>False
  | _=>False
 | .lo ob v => match o.op with
  | .load t x=>match E.G.ty t,fev tm x with
   |some ti,some a=>loH H ti ob v (K qs) a
   | _,_=>False
  | _=>False
 | .so ob c => match o.op with
  | .store t x y=>match E.G.ty t,fev tm x,fev tm y with
   |some ti,some a,some v=>soH H nx ti ob c (cellsV v) (K qs) a
   | _,_,_=>False
  | _=>False
 | .en b k v => match o.op with
  | .entry x=>match fev tm x with
   |some a=>enH H nx b k v (K qs) a
   | _=>False
  | _=>False
 | .fnP v => match o.op with
  | .call c => match c.callee with
   | .value f => match fev tm f, fevs tm c.args.toList with
    | some (.fn f caps), some l => match extCall E (.fn f caps) l with
     |some _=>False
     |none=>match frzL H (l++caps)with
      |some (l',p1)=>bif hfBL (l++caps)then p1∧(Hf v∧FnOk P tm.gl f l' v)∧Cons1 ⟨.fn f caps,l,H,nx,⟨v,H,nx,[]⟩⟩ qs∧K (⟨.fn f caps,l,H,nx,⟨v,H,nx,[]⟩⟩::qs) (.eff ⟨v,H,nx,[]⟩)else False
      |none=>False
    | _,_=>False
   | _=>False
  | _=>False
 | .cp n news => match o.op with
  | .call c => match c.callee with
   | .builtin .append => match c.args.toList, c.argTypes.toList with
    | [x, y], [t, tx] => match E.G.ty t, E.G.ty tx, fev tm x, fev tm y with
     |some {desc:=.slice e,.. },some {desc:=.slice _,.. },some (.sl h off len (some r)),some b=>match E.G.ty e with
      |some {size:=sz,bytes:=by_,zero:=some _,.. }=>bif Nat.beq sz 0|| !(Nat.beq r 0)then False else(bif Nat.beq len 0 then(srcV H sz b=some (n,news)∧srcV H sz (.sl h off len (some r))=some (0,[])∧1≤n∧n≤9223372036854775807∧n*by_≤140737488355328)∧K qs (.eff ⟨.sl nx 0 n none,pt H nx (.row e (some sz) news),nx+1,[]⟩)else(srcV H sz b=some (n,news.drop (len*sz))∧srcV H sz (.sl h off len (some r))=some (len,news.take (len*sz))∧1≤n∧len+n≤9223372036854775807∧(len+n)*by_≤140737488355328)∧K qs (.eff ⟨.sl nx 0 (len+n) none,pt H nx (.row e (some sz) news),nx+1,[]⟩))
      | _=>False
     | _,_,_,_=>False
    | _,_=>False
   | _=>False
  | _=>False
 | .an n news => match o.op with
  | .call c => match c.callee with
   | .builtin .append => match c.args.toList, c.argTypes.toList with
    | [x, y], [t, tx] => match E.G.ty t, E.G.ty tx, fev tm x, fev tm y with
     |some {desc:=.slice e,.. },some {desc:=.slice _,.. },some .nils,some b=>match E.G.ty e with
      |some {size:=sz,bytes:=by_,zero:=some _,.. }=>bif Nat.beq n 0||Nat.beq sz 0 then False else(srcV H sz b=some (n,news)∧n≤9223372036854775807∧n*by_≤140737488355328)∧K qs (.eff ⟨.sl nx 0 n none,pt H nx (.row e (some sz) news),nx+1,[]⟩)
      | _=>False
     | _,_,_,_=>False
    | _,_=>False
   | _=>False
  | _=>False
 | .sw => match o.op with
  | .store t x y=>match E.G.ty t,fev tm x,fev tm y with
   |some ti,some a,some v=>swH H nx ti (cellsV v) (K qs) a
   | _,_,_=>False
  | _=>False
 | .ao ob n news => match o.op with
  | .call c => match c.callee with
   | .builtin .append => match c.args.toList, c.argTypes.toList with
    | [x, y], [t, tx] => match E.G.ty t, E.G.ty tx, fev tm x, fev tm y with
     |some {desc:=.slice e,.. },some {desc:=.slice _,.. },some a,some b=>match E.G.ty e with
      |some {size:=sz,bytes:=by_,zero:=some _,.. }=>srcV H sz b=some (n,news)∧(bif Nat.beq n 0||Nat.beq sz 0 then False else aoH H nx e sz by_ ob n news (K qs) a)
      | _=>False
     | _,_,_,_=>False
    | _,_=>False
   | _=>False
  | _=>False
 | .aop ob n news => match o.op with
  | .call c => match c.callee with
   | .builtin .append => match c.args.toList, c.argTypes.toList with
    | [x, y], [t, tx] => match E.G.ty t, E.G.ty tx, fev tm x, fev tm y with
     |some {desc:=.slice e,.. },some {desc:=.slice _,.. },some a,some b=>match E.G.ty e with
      |some {size:=sz,bytes:=by_,zero:=some _,.. }=>srcV H sz b=some (n,news)∧apH H nx e sz by_ ob n news (K qs) a
      | _=>False
     | _,_,_,_=>False
    | _,_=>False
   | _=>False
  | _=>False
 | _=>False
noncomputable def vcSpec(qs:List Qay)(gl:T (List V))(g:V)(l:List V)(H:T O)(nx:Nat)(K:List Qay→OR→Prop):Prop:=
 match extCall E g l with
 |some _=>False
 | none => match g with
  | .fn f [] => match frzL H l with
   |some (l',p1)=>match sp f l' with
    |some (p,v)=>bif hfB v&&(hfBL l||gnd v)then p1∧p∧Cons1 ⟨.fn f [],l,H,nx,⟨v,H,nx,[]⟩⟩ qs∧K (⟨.fn f [],l,H,nx,⟨v,H,nx,[]⟩⟩::qs) (.eff ⟨v,H,nx,[]⟩)else False
    |none=>False
   |none=>False
  | _=>False
noncomputable def vcGo(qs:List Qay)(tm:TM)(H:T O)(nx:Nat)(o:Oper)(K:List Qay→OR→Prop):Prop:=
 match(copL E o).f noCall tm H nx with
 |some r=>K qs r
 | none => match o.op with
  | .call c => match c.callee with
   | .value f=>match fev tm f,fevs tm c.args.toList with
    |some g,some l=>vcSpec E sp qs tm.gl g l H nx K
    | _,_=>False
   | _=>False
  | _=>False
noncomputable def vcOp(hs:Hs)(qs:List Qay)(tm:TM)(H:T O)(nx:Nat)(o:Oper)(K:Hs→List Qay→OR→Prop):Prop:=
 match hs with
 |(d,h)::hs'=>bif Nat.beq d (key o.dst)then Qvz P E qs h tm H nx o (K hs')else vcGo E sp qs tm H nx o (K hs)
 |[]=>vcGo E sp qs tm H nx o (K [])
noncomputable def Qfv(ops:Array Oper)(K:Hs→List Qay→St→Prop):List Oper→Hs→List Qay→St→Prop
 |[],hs,qs,st=>K hs qs st
 | o :: l, hs, qs, ⟨tm, H, nx, lg⟩ => match fwanted tm ops o with
  |some true=>vcOp P E sp hs qs tm H nx o fun hs qs r=>match r with
   | .calm v _=>Qfv ops K l hs qs ⟨fput tm o.dst v,H,nx,lg⟩
   | .alloc v ob=>Qfv ops K l hs qs ⟨fput tm o.dst v,pt H nx ob,nx+1,lg⟩
   | .eff r=>Qfv ops K l hs qs ⟨fput tm o.dst r.v,r.H,r.nx,r.lg++lg⟩
  |some false=>Qfv ops K l hs qs ⟨fput tm o.dst (.tup []),H,nx,lg⟩
  |none=>False
noncomputable def Qh1(ops:Array Oper)(bf:Array Nat)(K:Hs→List Qay→St→Prop):List Nat→Hs→List Qay→St→Efs→Prop
 |[],hs,qs,st,_=>K hs qs st
 | j :: js, hs, qs, ⟨tm, H, nx, lg⟩, ef => match ops[j]? with
  |none=>False
  | some o => match fwanted tm ops o with
   |some true=>vcOp P E sp hs qs tm H nx o fun hs qs r=>match r with
    | .calm v rd=>bif ef.all fun q=>(bf.getD j 0).testBit q.1||disj rd q.2 then Qh1 ops bf K js hs qs ⟨fput tm o.dst v,H,nx,lg⟩ ef else False
    | .alloc v ob=>Qh1 ops bf K js hs qs ⟨fput tm o.dst v,pt H nx ob,nx+1,lg⟩ ef
    | .eff r=>bif effC o then Qh1 ops bf K js hs qs ⟨fput tm o.dst r.v,r.H,r.nx,r.lg++lg⟩ ((j,r.lg)::ef)else False
   |some false=>Qh1 ops bf K js hs qs ⟨fput tm o.dst (.tup []),H,nx,lg⟩ ef
   |none=>False
def noQ(K:Hs→St→Prop)(hs:Hs)(qs:List Qay)(st:St):Prop:=match qs with
 |[]=>K hs st
 | _=>False
noncomputable def Qv2(ops:Array Oper)(ids:List Nat)(view:Nat→V×V×Nat)(ha:Nat→Hs)(h0:Hs)(o:Oper)(l:List Oper)(tm:TM)(H:T O)(nx:Nat)(lg:List Nat)(h:Nat)(K:Hs→St→Prop):Option O→Prop
 | some (.iter (some m) since seen last) => match gt H m with
  |some (.map es ck)=>(allOld since es=true∧since≤last∧leftE seen es=ids.map view)∧
   (ids=[]→Qfv P E sp ops (noQ K) l h0 [] ⟨fput tm o.dst (.tup [.bool false]),H,nx,h::lg⟩)∧
   ∀a,a∈ids→Qfv P E sp ops (noQ K) l (ha a) [] ⟨fput tm o.dst (.tup [.bool true,(view a).1,(view a).2.1]),pt H h (.iter (some m) since (seen++[(view a).2.2]) ck),nx,h::lg⟩
  | _=>False
 | _=>False
noncomputable def Qv1(ops:Array Oper)(it:Operand)(o:Oper)(l:List Oper)(hs:Hs)(st:St)(K:Hs→St→Prop):Prop:=match hs,st with
 |(_,.nx ids view ha h0):: _,⟨tm,H,nx,lg⟩=>match fev tm it with
  |some (.ptr h 0)=>Qv2 P E sp ops ids view ha h0 o l tm H nx lg h K (gt H h)
  | _=>False
 | _,_=>False
noncomputable def Qf7(ops:Array Oper)(draw:Bool)(hs:Hs)(st:St)(K:Hs→St→Prop):Prop:=
 bif draw then(bif regOk ops then Qh1 P E sp ops (Region.before ops) (fun hs _ st=>K hs st) (cOrder (Region.before ops) ops.size ops.toList 0 0) hs [] st []else False)
 else match firstNext ops with
  |some (it,o,l)=>Qv1 P E sp ops it o l hs st K
  |none=>Qfv P E sp ops (fun hs _ st=>K hs st) ops.toList hs [] st
end
variable {P:Program}
theorem Qso{b:Bool}{p:Prop}(h:bif b then p else False):b=true∧p:=by
 simp_all
theorem Qmb:(∀x,hfB x=true→Hf x)∧∀l,hfBL l=true→HfL l:=by
 have: ∀x,(hfB x=true→Hf x):=by
  intro x
  induction x using V.rec (motive_2:=fun l=>hfBL l=true→HfL l)with
  |fn f l ih=>assumption
  |mfn f l ih=>assumption
  |agg l ih=>assumption
  |tup l ih=>assumption
  |ifc t x ih=>assumption
  |nil=>trivial
  |cons x l ih1 ih2=>
   rename_i h;unfold hfBL at h;rw[Bool.and_eq_true]at h;exact⟨ih1 h.1,ih2 h.2⟩
  | _=>intro h;trivial
 refine⟨this,fun l=>?_⟩
 induction l with
 |nil=>intro _;trivial
 |cons x l ih=>
  intro h;unfold hfBL at h;rw[Bool.and_eq_true]at h;exact⟨this x h.1,ih h.2⟩
mutual
theorem Hf.rv{s s':Sig}{w:World}(hf: ∀b,s.fz b→s'.fz b): ∀(x:V)(v:Value),Hf x→RV s w x v→RV s' w x v
 | .bool _,_,_,h| .int _ _,_,_,h| .str _,_,_,h| .nilp,_,_,h| .nilf,_,_,h| .nili,_,_,h| .nils,_,_,h| .nilm,_,_,h=>h
 | .fn _ l,_,hx,⟨vs,e,h⟩=>⟨vs,e,HfL.rl hf l _ hx h⟩
 | .mfn _ l,_,hx,⟨vs,e,h⟩=>⟨vs,e,HfL.rl hf l _ hx h⟩
 | .agg l,_,hx,⟨vs,e,h⟩=>⟨vs,e,HfL.rl hf l _ hx h⟩
 | .tup l,_,hx,⟨vs,e,h⟩=>⟨vs,e,HfL.rl hf l _ hx h⟩
 | .ifc _ x,_,hx,⟨u,e,h⟩=>⟨u,e,Hf.rv hf x _ hx h⟩
 | .im _ l,_,_,⟨a,cap,e,hc,h⟩=>⟨a,cap,e,hc,fun hn=>let ⟨b,off,ha,hl⟩:=h hn;⟨b,off,ha,RC.mono' hf (fun _ _=>rfl) l b off hl⟩⟩
 | .imp l,_,_,⟨b,off,e,hl⟩=>⟨b,off,e,RC.mono' hf (fun _ _=>rfl) l b off hl⟩
 | .ptr _ _,_,hx,_| .sl _ _ _ _,_,hx,_| .mp _,_,hx,_| .yld _,_,hx,_=>hx.elim
theorem HfL.rl{s s':Sig}{w:World}(hf: ∀b,s.fz b→s'.fz b): ∀(l:List V)(vs:List Value),HfL l→RL s w l vs→RL s' w l vs
 |[],_,_,h=>h
 |x::xs,_,hx,⟨v,vs',e,h1,h2⟩=>⟨v,vs',e,Hf.rv hf x v hx.1 h1,HfL.rl hf xs vs' hx.2 h2⟩
end
mutual
theorem View.of_hf{H:Nat→Option O}{F:Nat→Prop}: ∀{ρ:Nat→Option Nat}(x:V),Hf x→View H F ρ x x
 | _,.bool _,_| _,.int _ _,_| _,.str _,_| _,.nilp,_| _,.nilf,_| _,.nili,_| _,.nils,_| _,.nilm,_=>rfl
 | _,.im _ _,_=>.inl rfl
 | _,.imp _,_=>.inl rfl
 | _,.fn _ l,h=>⟨l,rfl,ViewL.of_hf l h⟩
 | _,.mfn _ l,h=>⟨l,rfl,ViewL.of_hf l h⟩
 | _,.agg l,h=>⟨l,rfl,ViewL.of_hf l h⟩
 | _,.tup l,h=>⟨l,rfl,ViewL.of_hf l h⟩
 | _,.ifc _ x,h=>⟨x,rfl,View.of_hf x h⟩
 | _,.ptr _ _,h| _,.sl _ _ _ _,h| _,.mp _,h| _,.yld _,h=>h.elim
theorem ViewL.of_hf{H:Nat→Option O}{F:Nat→Prop}: ∀{ρ:Nat→Option Nat}(l:List V),HfL l→ViewL H F ρ l l
 | _,[],_=>rfl
 | _,x::xs,h=>⟨x,xs,rfl,View.of_hf x h.1,ViewL.of_hf xs h.2⟩
end
theorem ViewP.of_hf{H:Nat→Option O}{F:Nat→Prop}: ∀(l:List V),HfL l→ViewP H F l l
 |[],_=>trivial
 |x::xs,h=>⟨x,xs,rfl,View.of_hf x h.1,ViewP.of_hf xs h.2⟩
mutual
theorem frz_view{H:T O}{ρ:Nat→Option Nat}: ∀(x y:V)(p:Prop),frz H x=some (y,p)→p→View H.get (fun _=>True) ρ y x
 | .bool _,_,_,h,_| .int _ _,_,_,h,_| .str _,_,_,h,_| .nilp,_,_,h,_| .nilf,_,_,h,_| .nili,_,_,h,_| .nilm,_,_,h,_=>by cases h;rfl
 | .nils,_,_,h,_=>by cases h;exact .inr (.inl ⟨rfl,rfl⟩)
 | .im _ _,_,_,h,_| .imp _,_,_,h,_=>by cases h;exact .inl rfl
 | .sl g off len room, _, _, h, hp => by
  unfold frz at h;rw[Qaw]at h;cases ho:H.get g with
  |none=>rw[ho]at h;cases h
  |some o=>
   rw[ho]at h;cases o<;>try(cases h;done)
   cases h;rw[Qam]at hp⊢;exact .inr (.inr ⟨g,off,room,_,_,_,rfl,trivial,ho,ViewP.of_hf _ hp⟩)
 | .ptr g off, _, _, h, hp => by
  unfold frz at h;rw[Qaw]at h;cases ho:H.get g with
  |none=>rw[ho]at h;cases h
  |some o=>
   rw[ho]at h;cases o<;>try(cases h;done)
   cases h;rw[Qam]at hp⊢;exact .inr ⟨g,off,_,_,_,rfl,trivial,ho,ViewP.of_hf _ hp⟩
 | .agg l,_,_,h,hp=>by
  unfold frz at h;split at h
  ·rename_i l' q e;cases h;exact⟨l,rfl,frzL_view l l' _ e hp⟩
  ·cases h
 | .tup l,_,_,h,hp=>by
  unfold frz at h;split at h
  ·rename_i l' q e;cases h;exact⟨l,rfl,frzL_view l l' _ e hp⟩
  ·cases h
 | .fn f l,_,_,h,hp=>by
  unfold frz at h;split at h
  ·rename_i l' q e;cases h;exact⟨l,rfl,frzL_view l l' _ e hp⟩
  ·cases h
 | .mfn f l,_,_,h,hp=>by
  unfold frz at h;split at h
  ·rename_i l' q e;cases h;exact⟨l,rfl,frzL_view l l' _ e hp⟩
  ·cases h
 | .ifc t x,_,_,h,hp=>by
  unfold frz at h;split at h
  ·rename_i x' q e;cases h;exact⟨x,rfl,frz_view x x' _ e hp⟩
  ·cases h
 | .mp _,_,_,h,_| .yld _,_,_,h,_=>by cases h
theorem frzL_view{H:T O}{ρ:Nat→Option Nat}: ∀(l m:List V)(p:Prop),frzL H l=some (m,p)→p→ViewL H.get (fun _=>True) ρ m l
 |[],_,_,h,_=>by cases h;rfl
 | x :: xs, _, _, h, hp => by
  unfold frzL at h;split at h
  ·rename_i y q ys q' e1 e2;cases h;exact⟨x,xs,rfl,frz_view x y q e1 hp.1,frzL_view xs ys q' e2 hp.2⟩
  ·cases h
end
theorem Qup{s:Sig}{w:World}(hd: ∀b,s.pr b→b<w.heap.size):RH s w (T.e:T O).get:=⟨fun _ _ h=>by simp at h,fun _ _ _ _ h=>by simp at h,hd⟩
theorem Qnx(H H':T O):(∀x,hfB x=true→frz H x=frz H' x)∧∀l,hfBL l=true→frzL H l=frzL H' l:=by
 have: ∀x,(hfB x=true→frz H x=frz H' x):=by
  intro x
  induction x using V.rec (motive_2:=fun l=>hfBL l=true→frzL H l=frzL H' l)with
  |fn f l ih=>intro h;unfold frz;rw[ih h]
  |mfn f l ih=>intro h;unfold frz;rw[ih h]
  |agg l ih=>intro h;unfold frz;rw[ih h]
  |tup l ih=>intro h;unfold frz;rw[ih h]
  |ifc t x ih=>intro h;unfold frz;rw[ih h]
  |nil=>rfl
  |cons x l ih1 ih2=>
   grind[hfBL,frzL]
  | _=>intro h;trivial
 refine⟨this,fun l=>?_⟩
 induction l with
 |nil=>intro _;rfl
 |cons x l ih=>
  grind[hfBL,frzL]
theorem Qix{gl:T (List V)}{f:Nat}{ars ars':List V}{v:V}{H:T O}{nx:Nat}(h:FnOk P gl f ars v)
  (hx : ∀ (s : Sig) (w : World) (vals : Array Value), RL s w ars' vals.toList → RH s w H.get → ∃ F : Nat → Prop, (∀ b, s.fz b → F b) ∧ (∀ b, F b → b < w.heap.size) ∧ RL (sg F) w ars vals.toList ∧
   ∀(s':Sig)(w':World)(u:Value),RV s' w' v u→Step (sg F) w s' w' []→RH s w' H.get→(∀b,s'.fz b→b<w'.heap.size)→∃s'':Sig,RV s'' w' v u∧RH s'' w' H.get∧Step s w s'' w' []∧s''.dom=s.dom):CallSpec P gl (.fn f []) ars' H nx ⟨v,H,nx,[]⟩:=by
 refine⟨fun s w fv vals hc hargs hH hgl hn=>?_,Log.refl _ _ _⟩
 obtain⟨F,hF1,hF2,hF3,hF4⟩:=hx s w vals hargs hH;obtain⟨next,e1,e2,e3⟩:=h.1 (sg F) w fv vals (Hf.rv (s':=sg F) hF1 _ _ trivial hc) hF3 (Qup (fun b hb=>hb.elim (hF2 b) False.elim)) (fun g l hg=>RC.mono' (s':=sg F) hF1 (fun _ _=>rfl) l g 0 (hgl g l hg)) (fun _ _ h=>h)
 refine⟨next,e1,?_,e3⟩
 obtain⟨f',ars2,rfl⟩:=e3 ⟨f,[],rfl⟩;refine CallsIn.mono e2 ?_
 rintro e w' ⟨u,s',rfl,g1,g2,g3,g4,g5⟩
 obtain⟨r1,r2⟩:=hH.below (w':=w') ⟨g3.mod.os,g3.mod.tape,g3.mod.output,g3.mod.size,fun k hk=>g3.mod.block k hk (fun⟨_,hm,_⟩=>by cases hm)⟩
 obtain⟨s'',q1,q2,q3,q4⟩:=hF4 s' w' u g1 g3 r1 (fun b hb=>g2.old b (.inl hb))
 exact⟨u,s'',rfl,q1,q2,q3,fun i=>by simp_all,Nat.le_refl _⟩
theorem Qtw{gl:T (List V)}{f:Nat}{ars ars':List V}{v:V}{H:T O}{nx:Nat}(h:FnOk P gl f ars v)(hv:ViewL (T.e:T O).get (fun _=>True) (fun _=>none) ars ars')(hhf:Hf v):CallSpec P gl (.fn f []) ars' H nx ⟨v,H,nx,[]⟩:=by
 refine Qix h fun s w vals hargs hH=>⟨s.fz,fun _ h=>h,fun b hb=>hH.old b (.inl hb),?_,fun s' w' u g1 g3 r1 hlt=>?_⟩
 ·exact ViewL.rl (s:=s) (Qup hH.old) (s':=sg s.fz) ⟨fun _ _ e=>(by cases e),fun g t sp c _ hg=>(by simp at hg),fun b hb=>hb⟩ _ _ _ hv hargs
 ·have hsz := g3.mod.size;have hfzs: ∀b,s.fz b→s'.fz b:=g3.le.fz;refine⟨{s with fz:=s'.fz},Hf.rv (s:=s') (s':={s with fz:=s'.fz}) (fun _ h=>h) _ _ hhf g1,⟨fun i o ho hl=>?_,r1.inj,fun b hb=>?_⟩,⟨⟨⟨fun _ _=>rfl,fun _ _=>rfl,fun _ h=>h,hfzs⟩,fun _ h=>h⟩,fun b hb=>(g3.fz b hb).imp id (Or.imp id fun⟨_,hm,_⟩=>by cases hm),fun b hb=>?_,?_,fun i hi hno=>absurd hi hno⟩,rfl⟩
  ·obtain ⟨a1, a2, a3, a4⟩ := r1.obj i o ho hl;have a2':=(hH.obj i o ho hl).2.1;refine⟨a1,a2,?_,RO.mono' (s:=s) (s':={s with fz:=s'.fz}) ⟨fun _ _=>rfl,fun _ _=>rfl,fun _ h=>h,hfzs⟩ (fun _ _=>rfl) a1 a4 (fun _=>rfl)⟩
   rintro(hf|hm)
   ·rcases g3.fz _ hf with hf | hge | ⟨_, hm, _⟩
    ·exact a3 (.inl hf)
    all_goals grind
   ·exact a3 (.inr hm)
  ·exact hb.elim (hlt b) (fun hm=>r1.old b (.inr hm))
  ·exact g3.mod.block b (hH.old b hb) (fun⟨_,hm,_⟩=>by cases hm)
  ·exact⟨g3.mod.os,g3.mod.tape,g3.mod.output,hsz,fun k hk _=>g3.mod.block k hk (fun⟨_,hm,_⟩=>by cases hm)⟩
theorem frameB{gl:T (List V)}{f:Nat}{ars ars':List V}{v:V}{H:T O}{nx:Nat}(h:FnOk P gl f ars v)(hv:ViewL H.get (fun _=>True) (fun _=>none) ars ars')(hg:gnd v=true):CallSpec P gl (.fn f []) ars' H nx ⟨v,H,nx,[]⟩:=by
 refine Qix h fun s w vals hargs hH=>⟨fun b=>s.fz b∨∃g t sp c,H.get g=some (.row t sp c)∧b=s.μ g,fun _ h=>.inl h,?_,?_,fun s' w' u g1 g3 r1 hlt=>?_⟩
 ·rintro b (hb | ⟨g, t, sp, c, hg, rfl⟩)
  ·exact hH.old b (.inl hb)
  ·exact(hH.obj _ _ hg rfl).2.1
 ·exact ViewL.rl hH (s':=sg _) ⟨fun _ _ e=>(by cases e),fun g t sp c _ hg=>.inr ⟨g,t,sp,c,hg,rfl⟩,fun b hb=>.inl hb⟩ _ _ _ hv hargs
 ·obtain ⟨_, r2⟩ := hH.below (w' := w') ⟨g3.mod.os, g3.mod.tape, g3.mod.output, g3.mod.size, fun k hk => g3.mod.block k hk (fun ⟨_, hm, _⟩ => by cases hm)⟩
  grind[gnd_rv]
theorem frameP{gl:T (List V)}{f:Nat}{ars ars':List V}{v:V}{H:T O}{nx:Nat}(h:FnPan P gl f ars v)(hv:ViewL H.get (fun _=>True) (fun _=>none) ars ars'):CallPan P gl (.fn f []) ars' H nx ⟨v,H,nx,[]⟩:=by
 intro s w fv vals hc hargs hH hgl hn;have hF1: ∀b,s.fz b→(s.fz b∨∃g t sp c,H.get g=some (.row t sp c)∧b=s.μ g):=fun _ h=>.inl h
 have hF2: ∀b,(s.fz b∨∃g t sp c,H.get g=some (.row t sp c)∧b=s.μ g)→b<w.heap.size:=by
  rintro b (hb|⟨g,t,sp,c,hg,rfl⟩)
  ·exact hH.old b (.inl hb)
  ·exact(hH.obj _ _ hg rfl).2.1
 have hF3:RL (sg fun b=>s.fz b∨∃g t sp c,H.get g=some (.row t sp c)∧b=s.μ g) w ars vals.toList:=ViewL.rl hH (s':=sg _) ⟨fun _ _ e=>(by cases e),fun g t sp c _ hg=>.inr ⟨g,t,sp,c,hg,rfl⟩,fun b hb=>.inl hb⟩ _ _ _ hv hargs
 obtain⟨next,e1,e2,e3⟩:=h (sg fun b=>s.fz b∨∃g t sp c,H.get g=some (.row t sp c)∧b=s.μ g) w fv vals (Hf.rv (s':=sg fun b=>s.fz b∨∃g t sp c,H.get g=some (.row t sp c)∧b=s.μ g) hF1 _ _ trivial hc) hF3 (Qup (fun b hb=>hb.elim (hF2 b) False.elim)) (fun g l hg=>RC.mono' (s':=sg fun b=>s.fz b∨∃g t sp c,H.get g=some (.row t sp c)∧b=s.μ g) hF1 (fun _ _=>rfl) l g 0 (hgl g l hg)) (fun _ _ h=>h)
 refine⟨next,e1,?_,e3⟩
 obtain⟨f',ars2,rfl⟩:=e3 ⟨f,[],rfl⟩;refine CallsIn.mono e2 ?_
 rintro e w' ⟨u,s',rfl,g1,g2,g3,g4,g5⟩
 obtain⟨r1,r2⟩:=hH.below (w':=w') ⟨g3.mod.os,g3.mod.tape,g3.mod.output,g3.mod.size,fun k hk=>g3.mod.block k hk (fun⟨_,hm,_⟩=>by cases hm)⟩
 exact⟨u,s,rfl,g1,r1,r2,dom_same s _,Nat.le_refl _⟩
def Qdl(call:Qal)(qs:List Qay):Prop:=∀q∈qs,call q.c q.l q.H q.nx=some q.r
theorem Qhb{E:Env}{tm:TM}{H:T O}{nx:Nat}{o:Oper}{r:OR}(h:opR E noCall tm H nx o=some r)(call:Qal):opR E call tm H nx o=some r:=by
 unfold opR at h⊢;split
 ·simp_all
 ·rename_i hc;rw[hc]at h;dsimp only at h;split
  ·simp_all
  ·rename_i ha;rw[ha]at h;dsimp only at h;split at h
   ·rename_i r' he;cases h;have:effO E call tm H nx o=some r':=by
     unfold effO at he⊢;split at he<;>try exact he
     rename_i c hop;split at he<;>try exact he
     rename_i fo hcal;split at he
     ·rename_i f l hf hl
      try simp only[hf,hl]
      split at he
      all_goals trivial
     ·cases he
    rw[this]
   ·cases h
def Qjo(E:Env)(tm:TM)(H:T O)(nx:Nat)(o:Oper)(qs:List Qay)(r:OR):Prop:=∀call,Qdl call qs→opR E call tm H nx o=some r
theorem Qch{E:Env}{call:Qal}{tm:TM}{H:T O}{nx:Nat}{o:Oper}{v:V}{rd:List Nat}(h:calm E.G tm H.get o=some (v,rd)):opR E call tm H nx o=some (.calm v rd):=by grind[opR]
theorem Qkf{E:Env}{call:Qal}{tm:TM}{H:T O}{nx:Nat}{o:Oper}{c:Call}{fo:Operand}{g:V}{l:List V}{r:CR}(ho:o.op= .call c)(hc:c.callee= .value fo)(hf:ev tm fo=some g)(hl:evs tm c.args.toList=some l)(hx:extCall E g l=none)(hcall:call g l H nx=some r):opR E call tm H nx o=some (.eff r):=by
 grind[calm,allocO,effO,opR]
theorem Qns(E:Env)(call:Qal)(tm:TM)(H:T O)(nx:Nat)(o:Oper):(copL E o).f call tm H nx=opR E call tm H nx o:=by rw[copL_eq,cop_eq,fop_eq]
theorem load_ok{ti:TI}{v:V}{c:List V}{rd:List Nat}{K:OR→Prop}(hl:Qn3 ti v c rd K):loadC ti c=some v∧K (.calm v rd):=by
 rw[←Qf2];unfold Qn3 at hl;grind[loadF,aggF]
theorem lkH_ok{G:Ctx}{H:T O}{t:Nat}{ok:Bool}{es:List (V×V×Nat)}{ck:Nat}{r0:Option (Nat×V)}{K:OR→Prop}{a b:V}(h:lkH G H t ok es ck r0 K a b): ∃v rd,Qg4 G H.get t a b ok=some (v,rd)∧K (.calm v rd):=by
 unfold lkH at h;split at h
 ·rename_i g k n;split at h
  ·rename_i kt elem _ _ _ _ ht;split at h
   ·rename_i hkt;obtain⟨⟨hg,hf⟩,h⟩:=h;rw[Qaw]at hg;split at h
    ·refine ⟨_, _, ?_, h⟩;simp_all[Qg4]
    ·split at h
     ·rename_i z hz;refine⟨_,_,?_,h⟩;simp_all[Qg4]
     ·exact h.elim
   ·exact h.elim
  ·exact h.elim
 ·rename_i g xs;split at h
  ·rename_i kt elem _ _ _ _ ht;split at h
   ·rename_i ti ks hkt hfl;split at h
    ·rename_i rs hself;obtain⟨⟨hg,hf⟩,h⟩:=h;rw[Qaw]at hg;split at h
     ·refine ⟨_, _, ?_, h⟩;simp_all[Qg4]
     ·split at h
      ·rename_i z hz;refine⟨_,_,?_,h⟩;simp_all[Qg4]
      ·exact h.elim
    ·exact h.elim
   ·exact h.elim
  ·exact h.elim
 ·exact h.elim
theorem upH_ok{G:Ctx}{H:T O}{nx t:Nat}{v:V}{es:List (V×V×Nat)}{ck:Nat}{o':O}{K:OR→Prop}{a b:V}(h:upH G H nx t v es ck o' K a b): ∃H' lg,mapUpO G H t a b v=some (H',lg)∧K (.eff ⟨.tup [],H',nx,lg⟩):=by
 unfold upH at h;split at h
 ·rename_i g k n;split at h
  ·rename_i kt _ _ _ _ _ ht;cases hi:isInt G kt with
   |false=>simp_all
   |true=>
    rw[hi,cond_true,pt_eq,Qaw]at h;obtain⟨⟨hg,hp⟩,hk⟩:=h;refine⟨_,_,?_,hk⟩;simp_all[mapUpO]
  ·exact h.elim
 ·rename_i g xs;split at h
  ·rename_i kt _ _ _ _ _ ht;split at h
   ·rename_i ti ks hkt hfl;split at h
    ·rename_i rs hself;rw[pt_eq,Qaw]at h;obtain⟨⟨hg,hp⟩,hk⟩:=h;refine⟨_,_,?_,hk⟩;simp_all[mapUpO]
    ·exact h.elim
   ·exact h.elim
  ·exact h.elim
 ·exact h.elim
theorem Quw(x:V): ∀(xs:List V)(c:List V)(off:Nat),ov (x::c) (off+1) xs=x::ov c off xs
 |[],_,_=>rfl
 |y::xs,c,off=>by
  unfold ov;rw[List.set_cons_succ,Quw x xs (c.set off y) (off+1)]
theorem Qqo: ∀{c xs:List V},c.length=xs.length→ov c 0 xs=xs
 |[],[],_=>rfl
 |[],_:: _,h=>by simp at h
 | _:: _,[],h=>by simp at h
 |a::c,x::xs,h=>by
  unfold ov;rw[List.set_cons_zero,Quw,Qqo (by simpa using h)]
theorem enH_ok{H:T O}{nx b:Nat}{k v:V}{K:OR→Prop}{a:V}(h:enH H nx b k v K a):entryV H a=some (.tup [k,v])∧K (.eff ⟨.tup [k,v],H,nx,[]⟩):=by
 cases a<;>try(exact h.elim;done)
 rename_i g off;unfold enH at h;dsimp only at h;cases hb:Nat.beq off 0 with
 |false=>simp_all
 | true =>
  rw[hb,cond_true,Qaw]at h;have:=Nat.eq_of_beq_eq_true hb;subst this;unfold enI at h;split at h
  ·rename_i m since seen last hg;rw[Qaw]at h;split at h
   all_goals simp_all[entryV]
  ·exact h.elim
section
variable {E:Env} {sp:Qc0} {qs:List Qay} {tm:TM} {H:T O} {nx:Nat} {o:Oper}
theorem Qv0 {h : Hint} {K : List Qay → OR → Prop} (hq : TblOk P tm.gl qs) (hv : Qvz P E qs h tm H nx o K) : ∃ qs' r, K qs' r ∧ TblOk P tm.gl qs' ∧ (∀ q ∈ qs, q ∈ qs') ∧ Qjo E tm H nx o qs' r := by
 have calm1: ∀{v:V}{rd:List Nat},K qs (.calm v rd)→(∀call,opR E call tm H nx o=some (.calm v rd))→∃qs' r,K qs' r∧TblOk P tm.gl qs'∧(∀q∈qs,q∈qs')∧Qjo E tm H nx o qs' r:=
  fun hk ho=>⟨qs,_,hk,hq,fun _ h=>h,fun call _=>ho call⟩
 unfold Qvz at hv;split at hv
 ·rw [Qns] at hv;cases hr:opR E noCall tm H nx o with
  |none=>rw[hr]at hv;exact hv.elim
  |some r=>
   rw[hr]at hv;unfold boolH at hv;grind[Qhb]
 ·rw [Qns] at hv;cases hr:opR E noCall tm H nx o with
  |none=>rw[hr]at hv;exact hv.elim
  |some r=>
   rw[hr]at hv;unfold numH at hv;grind[Qhb]
 ·split at hv
  ·rename_i op t x y _ ho;simp only[fev_eq]at hv;split at hv
   ·rename_i a b hx hy;obtain⟨hu,hk⟩:=hv;grind[Qch,calm]
   ·exact hv.elim
  ·rename_i t x l h m ho;simp only[fev_eq,Qtq]at hv;split at hv
   ·rename_i a l' h' m' hx h1 h2 h3;obtain⟨hu,hk⟩:=hv;grind[Qch,calm]
   ·exact hv.elim
  ·rename_i t x i ho;simp only[fev_eq]at hv;split at hv
   ·rename_i a k n hx hi;obtain⟨hu,hk⟩:=hv;grind[Qch,calm]
   ·exact hv.elim
  ·rename_i t x i ho;simp only[fev_eq]at hv;split at hv
   ·rename_i a k n hx hi;obtain⟨hu,hk⟩:=hv;grind[Qch,calm]
   ·exact hv.elim
  ·exact hv.elim
 ·split at hv
  ·rename_i t x i ho;simp only[fev_eq]at hv;split at hv
   ·rename_i elem _ _ _ _ a k n ht hx hi;split at hv
    ·rename_i ti he;unfold atH at hv;split at hv
     ·obtain ⟨hn, hk⟩ := hv;exact calm1 hk (fun call=>Qch (by grind[calm,placeV]))
     ·obtain ⟨hn, hk⟩ := hv;exact calm1 hk (fun call=>Qch (by grind[calm,placeV]))
     ·exact hv.elim
    ·exact hv.elim
   ·exact hv.elim
  ·exact hv.elim
 ·rename_i v;split at hv
  ·rename_i t x ho;simp only[fev_eq]at hv;split at hv
   ·rename_i ti a ht hx;have ld: ∀{c:List V}{rd:List Nat},Qn3 ti v c rd (K qs)→loadC ti c=some v∧K qs (.calm v rd):=by
     intro c rd hl;rw[←Qf2];unfold Qn3 at hl;unfold loadF aggF;cases ha:ti.agg with
     |true=>
      grind
     |false=>simp_all
    unfold ldH at hv;split at hv
    ·grind[Qch,calm]
    ·rename_i g off;rw[Qaw]at hv;split at hv
     ·rename_i hg;obtain⟨h1,hk⟩:=ld hv;grind[Qam,Qch,calm]
     ·exact hv.elim
    ·exact hv.elim
   ·exact hv.elim
  ·exact hv.elim
 ·rename_i c';split at hv
  ·rename_i t x y ho;simp only[fev_eq]at hv;split at hv
   ·rename_i ti a v ht hx hy;unfold stH at hv;split at hv
    ·rename_i g off;rw[Qaw]at hv;split at hv
     ·rename_i et sp c hg;cases hb:(Nat.beq (cellsV v).length ti.size&&atoms (cellsV v))with
      |false=>simp_all
      |true=>
       rw[hb,cond_true,Qn0,pt_eq]at hv;obtain⟨h1,hk⟩:=hv;obtain⟨hb2,h1⟩:=Qaj h1;cases h1;refine⟨qs,_,hk,hq,fun _ h=>h,fun call _=>?_⟩
       grind[calm,allocO,effO,storeO,opR]
     ·exact hv.elim
    ·exact hv.elim
   ·exact hv.elim
  ·exact hv.elim
 ·split at hv
  ·rename_i c ho;split at hv
   ·rename_i hc;split at hv
    ·rename_i x y t tx hal htl;simp only[fev_eq]at hv;split at hv
     ·rename_i e _ _ _ _ e2 _ _ _ _ a b ht htx hx hy;split at hv
      ·rename_i sz by_ _ z he;split at hv
       ·rename_i n news hsrc;cases hb0:(Nat.beq n 0||Nat.beq sz 0)with
        |true=>simp_all
        | false =>
         rw[hb0,cond_false]at hv;rw[Bool.or_eq_false_iff]at hb0;unfold appH at hv;split at hv
         ·rename_i g off len;rw[Qaw]at hv;split at hv
          ·rename_i et sz' c2 hg;cases hb:(Nat.beq off 0&&Nat.beq et e&&Nat.beq sz' sz&&atoms news)with
           |false=>simp_all
           | true =>
            rw[hb,cond_true,pt_eq,pt_eq]at hv;obtain⟨h1,h2,h3,hk⟩:=hv;have b1:Nat.beq c2.length (len*sz)=true:=by rw[h1];simp
            have b2:Nat.ble (len+n) 9223372036854775807=true:=Nat.ble_eq_true_of_le h2;have b3:Nat.ble ((len+n)*by_) 140737488355328=true:=Nat.ble_eq_true_of_le h3;simp only[Bool.and_eq_true]at hb;refine⟨qs,_,hk,hq,fun _ h=>h,fun call _=>?_⟩
            have e1:calm E.G tm H.get o=none:=by unfold calm;rw[ho];simp only[hc]
            have e2:allocO E.G tm nx o=none:=by unfold allocO;rw[ho]
            have e3:effO E call tm H nx o=some ⟨.sl nx 0 (len+n) none,(H.put g .dead).put nx (.row e (some sz) (c2++news)),nx+1,[g]⟩:=by
             unfold effO;rw[ho];simp only[hc,hal,htl,hx,hy,appendO,ht,htx,he,hsrc,hb0.1,hb0.2,hg,hb.1.1.1,hb.1.1.2,hb.1.2,hb.2,b1,b2,b3,cond_false,Bool.and_self,cond_true]
            grind[opR]
          ·exact hv.elim
         ·exact hv.elim
       ·exact hv.elim
      ·exact hv.elim
     ·exact hv.elim
    ·exact hv.elim
   ·exact hv.elim
  ·exact hv.elim
 ·split at hv
  ·rename_i t l c ho;simp only[fev_eq]at hv;split at hv
   ·rename_i e _ _ _ _ k l' k' c' ht hl hc;split at hv
    ·rename_i _ by_ _ z he;obtain⟨hn,hk⟩:=hv;refine⟨qs,_,hk,hq,fun _ h=>h,fun call _=>?_⟩
     grind[calm,allocO,opR]
    ·exact hv.elim
   ·exact hv.elim
  ·exact hv.elim
 ·rename_i r;split at hv
  ·rename_i c ho;split at hv
   ·rename_i fo hc;simp only[fev_eq,Qb3]at hv;split at hv
    ·rename_i g l hf hl;split at hv
     ·exact hv.elim
     ·rename_i hx;obtain⟨h1,h2,hk⟩:=hv;exact⟨_,_,hk,hq.cons (q:=⟨g,l,H,nx,r⟩) h1 h2,fun _ h=>List.mem_cons_of_mem _ h,fun call hm=>Qkf ho hc hf hl hx (hm _ List.mem_cons_self)⟩
    ·exact hv.elim
   ·exact hv.elim
  ·exact hv.elim
 ·rename_i v;split at hv
  ·rename_i c ho;split at hv
   ·rename_i fo hc;simp only[fev_eq,Qb3]at hv;split at hv
    ·rename_i f caps l hf hl;split at hv
     ·exact hv.elim
     ·rename_i hx;split at hv
      ·rename_i l' p1 hfr;cases hb:(hfB v&&(hfBL (l++caps)||gnd v))with
       |false=>simp_all
       | true =>
        rw[hb,cond_true]at hv;obtain⟨h1,hfn,h3,hk⟩:=hv;rw[Bool.and_eq_true,Bool.or_eq_true]at hb;have hcs:CallSpec P tm.gl (.fn f caps) l H nx ⟨v,H,nx,[]⟩:=by
         refine CallSpec.caps ?_;rcases hb.2 with hb2|hb2
         ·rw [(Qnx H .e).2 _ hb2] at hfr;exact Qtw hfn (frzL_view _ l' p1 hfr h1) (Qmb.1 v hb.1)
         ·grind[frameB,frzL_view]
        exact⟨_,_,hk,hq.cons (q:=⟨.fn f caps,l,H,nx,⟨v,H,nx,[]⟩⟩) hcs h3,fun _ h=>List.mem_cons_of_mem _ h,fun call hm=>Qkf ho hc hf hl hx (hm _ List.mem_cons_self)⟩
      ·exact hv.elim
    ·exact hv.elim
   ·exact hv.elim
  ·exact hv.elim
 ·rename_i es ck r0;split at hv
  ·rename_i t x i ok ho;simp only[fev_eq]at hv;split at hv
   all_goals grind[lkH_ok,Qch,calm]
  ·exact hv.elim
 ·rename_i es ck o';split at hv
  ·rename_i t m k v ho;simp only[fev_eq]at hv;split at hv
   ·rename_i a b v hm hk hv';obtain⟨H',lg,h1,hK⟩:=upH_ok hv;refine⟨qs,_,hK,hq,fun _ h=>h,fun call _=>?_⟩
    grind[calm,allocO,effO,opR]
   ·exact hv.elim
  ·exact hv.elim
 ·rename_i ob v;split at hv
  ·rename_i t x ho;simp only[fev_eq]at hv;split at hv
   ·rename_i ti a ht hx;unfold loH at hv;split at hv
    ·rename_i g off;split at hv
     ·rename_i et sp c;obtain⟨hg,hl⟩:=hv;rw[Qaw]at hg;obtain⟨h1,hk⟩:=load_ok hl;grind[Qam,Qch,calm]
     ·exact hv.elim
    ·exact hv.elim
   ·exact hv.elim
  ·exact hv.elim
 ·rename_i ob c';split at hv
  ·rename_i t x y ho;simp only[fev_eq]at hv;split at hv
   ·rename_i ti a v ht hx hy;unfold soH at hv;split at hv
    ·rename_i g off;split at hv
     ·rename_i et sp c;cases hb:(Nat.beq (cellsV v).length ti.size&&atoms (cellsV v))with
      |false=>simp_all
      |true=>
       rw[hb,cond_true,Qn0,pt_eq,Qaw]at hv;obtain⟨⟨hg,h1⟩,hk⟩:=hv;obtain⟨hb2,h1⟩:=Qaj h1;cases h1;refine⟨qs,_,hk,hq,fun _ h=>h,fun call _=>?_⟩
       grind[calm,allocO,effO,storeO,opR]
     ·exact hv.elim
    ·exact hv.elim
   ·exact hv.elim
  ·exact hv.elim
 ·rename_i b k v;split at hv
  ·rename_i x ho;simp only[fev_eq]at hv;split at hv
   ·rename_i a hx;obtain⟨h1,hk⟩:=enH_ok hv;refine⟨qs,_,hk,hq,fun _ h=>h,fun call _=>?_⟩
    grind[calm,allocO,effO,opR]
   ·exact hv.elim
  ·exact hv.elim
 ·rename_i v;split at hv
  ·rename_i c ho;split at hv
   ·rename_i fo hc;simp only[fev_eq,Qb3]at hv;split at hv
    ·rename_i f caps l hf hl;split at hv
     ·exact hv.elim
     ·rename_i hx;split at hv
      ·rename_i l' p1 hfr;cases hb:hfBL (l++caps)with
       |false=>simp_all
       | true =>
        rw[hb,cond_true]at hv;obtain⟨h1,⟨hhv,hfn⟩,h3,hk⟩:=hv;have hcs:CallSpec P tm.gl (.fn f caps) l H nx ⟨v,H,nx,[]⟩:=by
         refine CallSpec.caps ?_;rw[(Qnx H .e).2 _ hb]at hfr;exact Qtw hfn (frzL_view _ l' p1 hfr h1) hhv
        exact⟨_,_,hk,hq.cons (q:=⟨.fn f caps,l,H,nx,⟨v,H,nx,[]⟩⟩) hcs h3,fun _ h=>List.mem_cons_of_mem _ h,fun call hm=>Qkf ho hc hf hl hx (hm _ List.mem_cons_self)⟩
      ·exact hv.elim
    ·exact hv.elim
   ·exact hv.elim
  ·exact hv.elim
 ·rename_i n news;split at hv
  ·rename_i c ho;split at hv
   ·rename_i hc;split at hv
    ·rename_i x y t tx hal htl;simp only[fev_eq]at hv;split at hv
     ·rename_i e _ _ _ _ e2 _ _ _ _ h off len r b ht htx hx hy;split at hv
      ·rename_i sz by_ _ z he;cases hb0:(Nat.beq sz 0|| !(Nat.beq r 0))with
       |true=>simp_all
       | false =>
        rw[hb0,cond_false,pt_eq]at hv;simp only[Bool.or_eq_false_iff,Bool.not_eq_false']at hb0;obtain⟨hz,hr0⟩:=hb0;have hr0:=Nat.eq_of_beq_eq_true hr0;subst hr0;have bs: ∀m,1≤m→Nat.beq m 0=false∧Nat.ble m 0=false:=fun m hm=>by
         cases m with
         |zero=>omega
         |succ m=>trivial
        have e1:calm E.G tm H.get o=none:=by unfold calm;rw[ho];simp only[hc]
        have e2:allocO E.G tm nx o=none:=by unfold allocO;rw[ho]
        cases hl0:Nat.beq len 0 with
        | true =>
         have hlen:=Nat.eq_of_beq_eq_true hl0;subst hlen;rw[hl0,cond_true]at hv;obtain⟨⟨hsrc,hsrc2,h0,h1,h2⟩,hk⟩:=hv;have b2:Nat.ble n 9223372036854775807=true:=Nat.ble_eq_true_of_le h1;have b3:Nat.ble (n*by_) 140737488355328=true:=Nat.ble_eq_true_of_le h2;refine⟨qs,_,hk,hq,fun _ h=>h,fun call _=>?_⟩
         have e3:effO E call tm H nx o=some ⟨.sl nx 0 n none,H.put nx (.row e (some sz) news),nx+1,[]⟩:=by
          unfold effO;rw[ho];simp only[hc,hal,htl,hx,hy,appendO,ht,htx,he,hsrc,hsrc2,(bs n h0).1,(bs n h0).2,hz,b2,b3,cond_false,Bool.and_self,cond_true,Nat.zero_add,List.nil_append]
         grind[opR]
        | false =>
         rw[hl0,cond_false]at hv;obtain⟨⟨hsrc,hsrc2,h0,h1,h2⟩,hk⟩:=hv;have b2:Nat.ble (len+n) 9223372036854775807=true:=Nat.ble_eq_true_of_le h1;have b3:Nat.ble ((len+n)*by_) 140737488355328=true:=Nat.ble_eq_true_of_le h2;refine⟨qs,_,hk,hq,fun _ h=>h,fun call _=>?_⟩
         have e3:effO E call tm H nx o=some ⟨.sl nx 0 (len+n) none,H.put nx (.row e (some sz) news),nx+1,[]⟩:=by
          unfold effO;rw[ho];simp only[hc,hal,htl,hx,hy,appendO,ht,htx,he,hsrc,hsrc2,(bs n h0).1,(bs n h0).2,hz,b2,b3,cond_false,Bool.and_self,cond_true,List.take_append_drop]
         grind[opR]
      ·exact hv.elim
     ·exact hv.elim
    ·exact hv.elim
   ·exact hv.elim
  ·exact hv.elim
 ·rename_i n news;split at hv
  ·rename_i c ho;split at hv
   ·rename_i hc;split at hv
    ·rename_i x y t tx hal htl;simp only[fev_eq]at hv;split at hv
     ·rename_i e _ _ _ _ e2 _ _ _ _ b ht htx hx hy;split at hv
      ·rename_i sz by_ _ z he;cases hb0:(Nat.beq n 0||Nat.beq sz 0)with
       |true=>simp_all
       | false =>
        rw[hb0,cond_false,pt_eq]at hv;rw[Bool.or_eq_false_iff]at hb0;obtain⟨⟨hsrc,h1,h2⟩,hk⟩:=hv;have b2:Nat.ble n 9223372036854775807=true:=Nat.ble_eq_true_of_le h1;have b3:Nat.ble (n*by_) 140737488355328=true:=Nat.ble_eq_true_of_le h2;refine⟨qs,_,hk,hq,fun _ h=>h,fun call _=>?_⟩
        have e1:calm E.G tm H.get o=none:=by unfold calm;rw[ho];simp only[hc]
        have e2:allocO E.G tm nx o=none:=by unfold allocO;rw[ho]
        have e3:effO E call tm H nx o=some ⟨.sl nx 0 n none,H.put nx (.row e (some sz) news),nx+1,[]⟩:=by
         unfold effO;rw[ho];simp only[hc,hal,htl,hx,hy,appendO,ht,htx,he,hsrc,hb0.1,hb0.2,b2,b3,cond_false,Bool.and_self,cond_true]
        grind[opR]
      ·exact hv.elim
     ·exact hv.elim
    ·exact hv.elim
   ·exact hv.elim
  ·exact hv.elim
 ·split at hv
  ·rename_i t x y ho;simp only[fev_eq]at hv;split at hv
   ·rename_i ti a v ht hx hy;cases a<;>try(exact hv.elim;done)
    rename_i g off;unfold swH at hv;dsimp only at hv;cases hoff:Nat.beq off 0 with
    |false=>simp_all
    | true =>
     rw[hoff,cond_true,Qaw]at hv;simp only[pt_eq]at hv;have:=Nat.eq_of_beq_eq_true hoff;subst this;split at hv
     ·rename_i et sp c hg;obtain⟨⟨h1,h2,h3⟩,hk⟩:=hv;refine⟨qs,_,hk,hq,fun _ h=>h,fun call _=>?_⟩
      have e1:calm E.G tm H.get o=none:=by unfold calm;rw[ho]
      have e2:allocO E.G tm nx o=none:=by unfold allocO;rw[ho]
      simp_all[Nat.ble_eq_true_of_le,Qqo,effO,storeO,opR]
     ·exact hv.elim
   ·exact hv.elim
  ·exact hv.elim
 ·rename_i ob n news;split at hv
  ·rename_i c ho;split at hv
   ·rename_i hc;split at hv
    ·rename_i x y t tx hal htl;simp only[fev_eq]at hv;split at hv
     ·rename_i e _ _ _ _ e2 _ _ _ _ a b ht htx hx hy;split at hv
      ·rename_i sz by_ _ z he;obtain⟨hsrc,hv⟩:=hv;cases hb0:(Nat.beq n 0||Nat.beq sz 0)with
       |true=>simp_all
       | false =>
        rw[hb0,cond_false]at hv;rw[Bool.or_eq_false_iff]at hb0;unfold aoH at hv;split at hv
        ·rename_i g off len;split at hv
         ·rename_i et sz' c2;cases hb:(Nat.beq off 0&&Nat.beq et e&&Nat.beq sz' sz&&atoms news)with
          |false=>simp_all
          | true =>
           rw[hb,cond_true,pt_eq,pt_eq,Qaw]at hv;obtain⟨hg,h1,h2,h3,hk⟩:=hv;have b1:Nat.beq c2.length (len*sz)=true:=by rw[h1];simp
           have b2:Nat.ble (len+n) 9223372036854775807=true:=Nat.ble_eq_true_of_le h2;have b3:Nat.ble ((len+n)*by_) 140737488355328=true:=Nat.ble_eq_true_of_le h3;simp only[Bool.and_eq_true]at hb;refine⟨qs,_,hk,hq,fun _ h=>h,fun call _=>?_⟩
           have e1:calm E.G tm H.get o=none:=by unfold calm;rw[ho];simp only[hc]
           have e2:allocO E.G tm nx o=none:=by unfold allocO;rw[ho]
           have e3:effO E call tm H nx o=some ⟨.sl nx 0 (len+n) none,(H.put g .dead).put nx (.row e (some sz) (c2++news)),nx+1,[g]⟩:=by
            unfold effO;rw[ho];simp only[hc,hal,htl,hx,hy,appendO,ht,htx,he,hsrc,hb0.1,hb0.2,hg,hb.1.1.1,hb.1.1.2,hb.1.2,hb.2,b1,b2,b3,cond_false,Bool.and_self,cond_true]
           grind[opR]
         ·exact hv.elim
        ·exact hv.elim
      ·exact hv.elim
     ·exact hv.elim
    ·exact hv.elim
   ·exact hv.elim
  ·exact hv.elim
 ·rename_i ob n news;split at hv
  ·rename_i c ho;split at hv
   ·rename_i hc;split at hv
    ·rename_i x y t tx hal htl;simp only[fev_eq]at hv;split at hv
     ·rename_i e _ _ _ _ e2 _ _ _ _ a b ht htx hx hy;split at hv
      ·rename_i sz by_ _ z he;obtain⟨hsrc,hv⟩:=hv;unfold apH at hv;split at hv
       ·rename_i g off len;split at hv
        ·rename_i et sz' c2;cases hb:(Nat.beq off 0&&Nat.beq et e&&Nat.beq sz' sz&& !(Nat.beq sz 0))with
         |false=>simp_all
         | true =>
          rw[hb,cond_true,pt_eq,pt_eq,Qaw]at hv;obtain⟨⟨hg,h1,h0,h2,h3,hat⟩,hk⟩:=hv;have b1:Nat.beq c2.length (len*sz)=true:=by rw[h1];simp
          have b2:Nat.ble (len+n) 9223372036854775807=true:=Nat.ble_eq_true_of_le h2;have b3:Nat.ble ((len+n)*by_) 140737488355328=true:=Nat.ble_eq_true_of_le h3;have b0:Nat.beq n 0=false:=by
           cases hb0:Nat.beq n 0 with
           |false=>rfl
           |true=>simp_all
          simp only[Bool.and_eq_true,Bool.not_eq_true']at hb;refine⟨qs,_,hk,hq,fun _ h=>h,fun call _=>?_⟩
          have e1:calm E.G tm H.get o=none:=by unfold calm;rw[ho];simp only[hc]
          have e2:allocO E.G tm nx o=none:=by unfold allocO;rw[ho]
          have e3:effO E call tm H nx o=some ⟨.sl nx 0 (len+n) none,(H.put g .dead).put nx (.row e (some sz) (c2++news)),nx+1,[g]⟩:=by
           unfold effO;rw[ho];simp only[hc,hal,htl,hx,hy,appendO,ht,htx,he,hsrc,b0,hb.2,hg,hb.1.1.1,hb.1.1.2,hb.1.2,hat,b1,b2,b3,cond_false,Bool.and_self,cond_true]
          grind[opR]
        ·exact hv.elim
       ·exact hv.elim
      ·exact hv.elim
     ·exact hv.elim
    ·exact hv.elim
   ·exact hv.elim
  ·exact hv.elim
 ·exact hv.elim
def Qbg(P:Program)(gl:T (List V))(sp:Qc0):Prop:=∀f l p v,sp f l=some (p,v)→p→FnOk P gl f l v
theorem vcGo_ok (hsp : Qbg P tm.gl sp) {K : List Qay → OR → Prop} (hq : TblOk P tm.gl qs) (hv : vcGo E sp qs tm H nx o K) : ∃ qs' r, K qs' r ∧ TblOk P tm.gl qs' ∧ (∀ q ∈ qs, q ∈ qs') ∧ Qjo E tm H nx o qs' r := by
 unfold vcGo at hv;rw[Qns]at hv;split at hv
 ·rename_i r hr;exact⟨qs,r,hv,hq,fun _ h=>h,fun call _=>Qhb hr call⟩
 ·split at hv
  ·rename_i c ho;split at hv
   ·rename_i fo hc;simp only[fev_eq,Qb3]at hv;split at hv
    ·rename_i g l hf hl;unfold vcSpec at hv;split at hv
     ·exact hv.elim
     ·rename_i hx;split at hv
      ·rename_i f;split at hv
       ·rename_i l' p1 hfr;split at hv
        ·rename_i p v hs;cases hb:(hfB v&&(hfBL l||gnd v))with
         |false=>simp_all
         | true =>
          rw[hb,cond_true]at hv;obtain⟨h1,h2,h3,hk⟩:=hv;rw[Bool.and_eq_true,Bool.or_eq_true]at hb;have hfn:=hsp f l' p v hs h2;have hcs:CallSpec P tm.gl (.fn f []) l H nx ⟨v,H,nx,[]⟩:=by
           rcases hb.2 with hb2|hb2
           ·rw [(Qnx H .e).2 l hb2] at hfr;exact Qtw hfn (frzL_view l l' p1 hfr h1) (Qmb.1 v hb.1)
           ·grind[frameB,frzL_view]
          exact⟨_,_,hk,hq.cons (q:=⟨.fn f [],l,H,nx,⟨v,H,nx,[]⟩⟩) hcs h3,fun _ h=>List.mem_cons_of_mem _ h,fun call hm=>Qkf ho hc hf hl hx (hm _ List.mem_cons_self)⟩
        ·exact hv.elim
       ·exact hv.elim
      ·exact hv.elim
    ·exact hv.elim
   ·exact hv.elim
  ·exact hv.elim
theorem Qow(hsp:Qbg P tm.gl sp){hs:Hs}{K:Hs→List Qay→OR→Prop}(hq:TblOk P tm.gl qs)(hv:vcOp P E sp hs qs tm H nx o K): ∃hs' qs' r,K hs' qs' r∧TblOk P tm.gl qs'∧(∀q∈qs,q∈qs')∧Qjo E tm H nx o qs' r:=by
 unfold vcOp at hv;grind[Qv0,vcGo_ok]
end
section
variable {E:Env} {sp:Qc0} {gl:T (List V)} {ops:Array Oper}
theorem Qcc(hsp:Qbg P gl sp){K:Hs→List Qay→St→Prop}: ∀(l:List Oper)(hs:Hs)(qs:List Qay)(st:St),st.tm.gl=gl→TblOk P gl qs→Qfv P E sp ops K l hs qs st→
  ∃hs' qs' st',(K hs' qs' st'∧st'.tm.gl=gl)∧TblOk P gl qs'∧(∀q∈qs,q∈qs')∧∀call,Qdl call qs'→seqR E call ops l st=some st'
 |[],hs,qs,st,hgl,hq,h=>⟨hs,qs,st,⟨h,hgl⟩,hq,fun _ h=>h,fun _ _=>rfl⟩
 | o :: l, hs, qs, ⟨tm, H, nx, lg⟩, hgl, hq, h => by
  unfold Qfv at h;rw[Qb0]at h;dsimp only at hgl;split at h
  ·rename_i hw;obtain⟨hs1,qs1,r,hk,hq1,hsub,hans⟩:=Qow (tm:=tm) (by simp_all) (by simp_all) h
   rw[hgl]at hq1;cases r with
   |calm v rd=>
    dsimp only at hk;rw[Qbm]at hk;obtain⟨hs2,qs2,st2,k1,k2,k3,k4⟩:=Qcc hsp l hs1 qs1 _ (by grind[Qa3]) hq1 hk
    refine⟨hs2,qs2,st2,k1,k2,fun q hq=>k3 q (hsub q hq),fun call hm=>?_⟩
    unfold seqR;rw[hw];dsimp only;rw[hans call (fun q hq=>hm q (k3 q hq))]
    simp_all
   |alloc v ob=>
    dsimp only at hk;rw[Qbm,pt_eq]at hk;obtain⟨hs2,qs2,st2,k1,k2,k3,k4⟩:=Qcc hsp l hs1 qs1 _ (by grind[Qa3]) hq1 hk
    refine⟨hs2,qs2,st2,k1,k2,fun q hq=>k3 q (hsub q hq),fun call hm=>?_⟩
    unfold seqR;rw[hw];dsimp only;rw[hans call (fun q hq=>hm q (k3 q hq))]
    simp_all
   |eff r=>
    dsimp only at hk;rw[Qbm]at hk;obtain⟨hs2,qs2,st2,k1,k2,k3,k4⟩:=Qcc hsp l hs1 qs1 _ (by grind[Qa3]) hq1 hk
    refine⟨hs2,qs2,st2,k1,k2,fun q hq=>k3 q (hsub q hq),fun call hm=>?_⟩
    unfold seqR;rw[hw];dsimp only;rw[hans call (fun q hq=>hm q (k3 q hq))]
    simp_all
  ·rename_i hw;rw[Qbm]at h;obtain⟨hs2,qs2,st2,k1,k2,k3,k4⟩:=Qcc hsp l hs qs _ (by grind[Qa3]) hq h
   grind[seqR]
  ·exact h.elim
def kdOf:OR→Kd
 | .calm v rd=>.put v rd
 | .alloc v ob=>.new v ob
 | .eff c=>.eff c
theorem Qke{E:Env}{call:Qal}{st:St}{ops:Array Oper}{j:Nat}{o:Oper}(ho:ops[j]? =some o)(hw:wantedV st.tm ops o=some true){r:OR}(h:opR E call st.tm st.H st.nx o=some r)(he: ∀c,r= .eff c→effC o=true):
  cKind E call ops j st=some (kdOf r):=by
 unfold cKind;rw[ho];dsimp only;rw[hw];dsimp only;unfold opR at h;cases hc:calm E.G st.tm st.H.get o with
 |some p=>rw[hc]at h;cases h;rfl
 | none =>
  rw[hc]at h;dsimp only at h⊢;cases ha:allocO E.G st.tm st.nx o with
  |some p=>rw[ha]at h;cases h;rfl
  |none=>
   rw[ha]at h;dsimp only at h⊢;cases hf:effO E call st.tm st.H st.nx o with
   |some c=>rw[hf]at h;cases h;rw[he c rfl,cond_true];rfl
   |none=>simp_all
theorem Qdj(hsp:Qbg P gl sp){bf:Array Nat}{K:Hs→List Qay→St→Prop}: ∀(l:List Nat)(hs:Hs)(qs:List Qay)(st:St)(ef:Efs),st.tm.gl=gl→TblOk P gl qs→Qh1 P E sp ops bf K l hs qs st ef→
  ∃hs' qs' p,(K hs' qs' p.1∧p.1.tm.gl=gl)∧TblOk P gl qs'∧(∀q∈qs,q∈qs')∧∀call,Qdl call qs'→cRun E call ops bf l (st,ef)=some p
 |[],hs,qs,st,ef,hgl,hq,h=>⟨hs,qs,(st,ef),⟨h,hgl⟩,hq,fun _ h=>h,fun _ _=>rfl⟩
 | j :: l, hs, qs, ⟨tm, H, nx, lg⟩, ef, hgl, hq, h => by
  unfold Qh1 at h;dsimp only at hgl;split at h
  ·exact h.elim
  ·rename_i o ho;rw[Qb0]at h;split at h
   ·rename_i hw;obtain⟨hs1,qs1,r,hk,hq1,hsub,hans⟩:=Qow (tm:=tm) (by simp_all) (by simp_all) h
    rw[hgl]at hq1;cases r with
    | calm v rd =>
     dsimp only at hk;cases hb:(ef.all fun q=>(bf.getD j 0).testBit q.1||disj rd q.2)with
     |false=>grind
     |true=>
      rw[hb,cond_true,Qbm]at hk;obtain⟨hs2,qs2,p,k1,k2,k3,k4⟩:=Qdj hsp l hs1 qs1 _ ef (by grind[Qa3]) hq1 hk
      refine⟨hs2,qs2,p,k1,k2,fun q hq=>k3 q (hsub q hq),fun call hm=>?_⟩
      unfold cRun cStep;rw[Qke (st:=⟨tm,H,nx,lg⟩) ho hw (hans call (fun q hq=>hm q (k3 q hq))) (fun _ e=>by cases e)]
      grind[kdOf]
    |alloc v ob=>
     dsimp only at hk;rw[Qbm,pt_eq]at hk;obtain⟨hs2,qs2,p,k1,k2,k3,k4⟩:=Qdj hsp l hs1 qs1 _ ef (by grind[Qa3]) hq1 hk
     refine⟨hs2,qs2,p,k1,k2,fun q hq=>k3 q (hsub q hq),fun call hm=>?_⟩
     unfold cRun cStep;rw[Qke (st:=⟨tm,H,nx,lg⟩) ho hw (hans call (fun q hq=>hm q (k3 q hq))) (fun _ e=>by cases e)]
     grind[kdOf]
    | eff r =>
     dsimp only at hk;cases hb:effC o with
     |false=>simp_all
     |true=>
      rw[hb,cond_true,Qbm]at hk;obtain⟨hs2,qs2,p,k1,k2,k3,k4⟩:=Qdj hsp l hs1 qs1 _ _ (by grind[Qa3]) hq1 hk
      refine⟨hs2,qs2,p,k1,k2,fun q hq=>k3 q (hsub q hq),fun call hm=>?_⟩
      unfold cRun cStep;rw[Qke (st:=⟨tm,H,nx,lg⟩) ho hw (hans call (fun q hq=>hm q (k3 q hq))) (fun _ _=>hb)]
      grind[kdOf]
   ·rename_i hw;rw[Qbm]at h;obtain⟨hs2,qs2,p,k1,k2,k3,k4⟩:=Qdj hsp l hs qs _ ef (by grind[Qa3]) hq h
    refine⟨hs2,qs2,p,k1,k2,k3,fun call hm=>?_⟩
    have hkd:cKind E call ops j ⟨tm,H,nx,lg⟩=some (.put (.tup []) []):=by
     unfold cKind;rw[ho];dsimp only;rw[hw]
    grind[cRun,cStep,disj]
   ·exact h.elim
theorem noQ_ok{K:Hs→St→Prop}{hs:Hs}{qs:List Qay}{st:St}(h:noQ K hs qs st):qs=[]∧K hs st:=by
 grind[noQ]
theorem Qj0{f:V×T O→Option St}{K:St→Prop}: ∀{L:List (V×T O)},(∀p∈L,∃st',f p=some st'∧K st')→∃r,eachN f L=some r∧∀e st',(e,st')∈r→e= .normal∧K st'
 |[],_=>⟨[],rfl,fun _ _ h=>by cases h⟩
 |p::L,h=>by
  obtain⟨st',h1,h2⟩:=h p List.mem_cons_self;obtain⟨r,h3,h4⟩:=Qj0 (L:=L) (fun q hq=>h q (List.mem_cons_of_mem _ hq))
  grind[eachN]
theorem Qjf{H:T O}{h m since ck:Nat}{seen:List Nat}{view:Nat→V×V×Nat}: ∀{ids:List Nat}{p:V×T O},p∈Qft H h m since seen ck (ids.map view)→∃a∈ids,p=(.tup [.bool true,(view a).1,(view a).2.1],H.put h (.iter (some m) since (seen++[(view a).2.2]) ck))
 |[],_,hp=>by cases hp
 | a :: ids, p, hp => by
  rw[List.map_cons]at hp;unfold Qft at hp;rcases List.mem_cons.1 hp with rfl|hp
  ·simp
  ·obtain ⟨b, h1, h2⟩ := Qjf hp;grind
theorem Qv3{it:Operand}{o:Oper}{l:List Oper}{hs:Hs}{st:St}(hsp:Qbg P st.tm.gl sp){K:Hs→St→Prop}(h:Qv1 P E sp ops it o l hs st K): ∃L,Qrq E (tbl []) ops it o l st=some L∧∀e st',(e,st')∈L→e= .normal∧st'.tm.gl=st.tm.gl∧∃hs',K hs' st':=by
 obtain⟨tm,H,nx,lg⟩:=st;cases hs with
 |nil=>exact h.elim
 | cons p hs' =>
  obtain⟨d,hint⟩:=p;cases hint<;>try(exact h.elim;done)
  rename_i ids view ha h0;unfold Qv1 at h;dsimp only at h;rw[fev_eq]at h;split at h
  ·rename_i g hx;rw[Qaw]at h;unfold Qv2 at h;split at h
   ·rename_i m since seen last hg;rw[Qaw]at h;split at h
    ·rename_i es ck hm;obtain⟨⟨h1,h2,h3⟩,h4,h5⟩:=h;have hb:(allOld since es&&Nat.ble since last)=true:=by rw[h1,Nat.ble_eq_true_of_le h2];rfl
     have key: ∀(hs:Hs)(st:St),st.tm.gl=tm.gl→Qfv P E sp ops (noQ K) l hs [] st→∃st',seqR E (tbl []) ops l st=some st'∧st'.tm.gl=tm.gl∧∃hs',K hs' st':=by
      intro hs st hgl hv;obtain⟨hs',qs,st',k1,k2,_,k4⟩:=Qcc (gl:=tm.gl) hsp l hs [] st hgl TblOk.nil hv;obtain⟨rfl,hk⟩:=noQ_ok k1.1;exact⟨st',k4 _ (fun q hq=>by cases hq),k1.2,hs',hk⟩
     unfold Qrq;simp only[hx];unfold nextO;simp only[hg,hm,hb,cond_true,h3];cases ids with
     |nil=>
      simp only[List.map_nil];refine Qj0 fun p hp=>?_
      grind[Qbm,Qa3]
     |cons a ids=>
      simp only[List.map_cons];refine Qj0 fun p hp=>?_
      grind[Qjf,Qbm,pt_eq,Qa3]
    ·exact h.elim
   ·exact h.elim
  ·exact h.elim
theorem Qoy(hE:E.Ok P)(hm:P.follows .mixedOrders=true){rd:Option Nat}{nx0 id:Nat}{draw:Bool}{hs:Hs}{st:St}(hsp:Qbg P st.tm.gl sp){K:Hs→St→Prop}(h:Qf7 P E sp ops draw hs st K):Sat P rd nx0 (.region id ops draw) st (fun e st'=>e= .normal∧st'.tm.gl=st.tm.gl∧∃hs',K hs' st'):=by
 have fin: ∀{qs:List Qay}{st':St},TblOk P st.tm.gl qs→Qci E (tbl qs) ops draw st=some [(.normal,st')]→(st'.tm.gl=st.tm.gl∧∃hs',K hs' st')→Sat P rd nx0 (.region id ops draw) st (fun e st'=>e= .normal∧st'.tm.gl=st.tm.gl∧∃hs',K hs' st'):=by
  intro qs st' hq hr hk;refine Sat.region hE hm hq.call hq.log hr (fun e st2 hmem=>by simp_all) ?_
  intro e st'' hmem;rw[List.mem_singleton]at hmem;cases hmem;exact⟨rfl,hk⟩
 unfold Qf7 at h;cases draw with
 | true =>
  rw[cond_true]at h;cases hb:regOk ops with
  |false=>simp_all
  |true=>
   rw[hb,cond_true]at h;obtain⟨hs',qs,p,k1,k2,_,k4⟩:=Qdj hsp _ hs [] st [] rfl TblOk.nil h;refine fin (st':=p.1) k2 ?_ ⟨k1.2,hs',k1.1⟩;unfold Qci;rw[cond_true];unfold Qrf drawR;rw[hb,cond_true,k4 _ k2.meets];rfl
 | false =>
  rw[cond_false]at h;split at h
  ·rename_i it o l hf;obtain⟨L,h1,h2⟩:=Qv3 hsp h;refine Sat.region hE hm (TblOk.nil (P:=P) (gl:=st.tm.gl)).call (TblOk.nil (P:=P) (gl:=st.tm.gl)).log (L:=L) ?_ (fun e st2 hmem=>(h2 e st2 hmem).1) h2
   grind[Qci]
  ·rename_i hf;obtain⟨hs',qs,st',k1,k2,_,k4⟩:=Qcc hsp _ hs [] st rfl TblOk.nil h;refine fin (st':=st') k2 ?_ ⟨k1.2,hs',k1.1⟩;unfold Qci;rw[cond_false,hf,k4 _ k2.meets];rfl
noncomputable def Qv6(tm:TM)(H:T O)(nx:Nat)(lg:List Nat)(K:V→St→Prop):Option V→Prop
 |some (.ifc t y)=>bif gnd y then K (.ifc t y) ⟨tm,H,nx,lg⟩else False
 | _=>False
noncomputable def Qv4(P:Program)(tm:TM)(H:T O)(nx:Nat)(lg:List Nat)(K:V→St→Prop)(v:Option V):Option V→Option (List V)→Prop
 |some (.fn f caps),some l=>match v,frzL H (l++caps)with
  |some v,some (l',p1)=>p1∧FnPan P tm.gl f l' v∧K v ⟨tm,H,nx,lg⟩
  | _,_=>False
 | _,_=>False
noncomputable def Qjj(P:Program)(tm:TM)(H:T O)(nx:Nat)(lg:List Nat)(v:Option V)(K:V→St→Prop)(o:Op):Prop:=match o with
 | .panic x=>Qv6 tm H nx lg K (fev tm x)
 | .call c=>match c.callee with
  | .value f=>Qv4 P tm H nx lg K v (fev tm f) (fevs tm c.args.toList)
  | _=>False
 | _=>False
noncomputable def vcPan(P:Program)(ops:Array Oper)(o:Oper)(r:Option V)(K:Hs→V→St→Prop):Hs→List Qay→St→Prop:=fun hs _ st=>match st with
 |⟨tm,H,nx,lg⟩=>match fwanted tm ops o with
  |some true=>Qjj P tm H nx lg r (K hs) o.op
  | _=>False
noncomputable def vcRegP(P:Program)(E:Env)(sp:Qc0)(ops:Array Oper)(i:Nat)(r:Option V)(hs:Hs)(st:St)(K:Hs→V→St→Prop):Prop:=match ops[i]? with
 |some o=>Qfv P E sp ops (vcPan P ops o r K) (ops.toList.take i) hs [] st
 |none=>False
noncomputable def vcPanM(P:Program)(tm:TM)(H:T O)(nx:Nat)(lg:List Nat)(r:CR)(K:V→St→Prop):Option V→Option (List V)→Prop
 |some g,some l=>CallPan P tm.gl g l H nx r∧K r.v ⟨tm,r.H,r.nx,r.lg++lg⟩
 | _,_=>False
noncomputable def vcPanN(P:Program)(ops:Array Oper)(o:Oper)(r:CR)(K:Hs→V→St→Prop):Hs→List Qay→St→Prop:=fun hs _ st=>match st with
 | ⟨tm, H, nx, lg⟩ => match fwanted tm ops o with
  | some true => match o.op with
   | .call c=>match c.callee with
    | .value f=>vcPanM P tm H nx lg r (K hs) (fev tm f) (fevs tm c.args.toList)
    | _=>False
   | _=>False
  | _=>False
noncomputable def vcRegC(P:Program)(E:Env)(sp:Qc0)(ops:Array Oper)(i:Nat)(r:CR)(hs:Hs)(st:St)(K:Hs→V→St→Prop):Prop:=match ops[i]? with
 |some o=>Qfv P E sp ops (vcPanN P ops o r K) (ops.toList.take i) hs [] st
 |none=>False
noncomputable def vcQ(P:Program)(E:Env)(sp:Qc0)(ops:Array Oper)(H:T O)(nx:Nat)(K:Hs→List Qay→TM→Prop):List Nat→Hs→List Qay→TM→Prop
 |[],hs,qs,tm=>K hs qs tm
 | k :: l, hs, qs, tm => match ops[k]? with
  | some o => match fwanted tm ops o with
   |some true=>vcOp P E sp hs qs tm H nx o fun hs qs r=>match r with
    | .calm v _=>vcQ P E sp ops H nx K l hs qs (fput tm o.dst v)
    | .eff r=>(r.H=H∧r.nx=nx∧r.lg=[])∧vcQ P E sp ops H nx K l hs qs (fput tm o.dst r.v)
    | .alloc _ _=>False
   |some false=>vcQ P E sp ops H nx K l hs qs (fput tm o.dst (.tup []))
   |none=>False
  |none=>False
noncomputable def Qsj(bf:Array Nat)(n j:Nat):List Nat:=(List.range n).filter fun k=> !Nat.beq k j&& !(bf.getD k 0).testBit j
noncomputable def vcRegD(P:Program)(E:Env)(sp:Qc0)(ops:Array Oper)(j:Nat)(r:Option V)(hs:Hs)(st:St)(K:Hs→V→St→Prop):Prop:=match ops[j]?,st with
 | some o, ⟨tm, H, nx, lg⟩ => bif panB ops (Region.before ops) (Qsj (Region.before ops) ops.size j) j then
   vcQ P E sp ops H nx (fun hs _ tm'=>match fwanted tm' ops o with
    |some true=>Qjj P tm' H nx lg r (fun v _=>K hs v ⟨⟨.e,tm.gl,tm.n⟩,H,nx,lg⟩) o.op
    | _=>False) (Qsj (Region.before ops) ops.size j) hs [] tm else False
 |none,_=>False
theorem Qv5{tm:TM}{H:T O}{nx:Nat}{lg:List Nat}{r:Option V}{K:V→St→Prop}{o:Oper}(h:Qjj P tm H nx lg r K o.op): ∃v st',PanOp P ⟨tm,H,nx,lg⟩ o v st'∧K v st'∧st'.tm.gl=tm.gl:=by
 unfold Qjj at h;split at h
 ·rename_i x hop;rw[fev_eq]at h;unfold Qv6 at h;split at h
  ·rename_i t y hx;cases hg:gnd y with
   |false=>simp_all
   |true=>rw[hg,cond_true]at h;exact⟨_,_,.inl ⟨x,t,y,hop,hx,hg,rfl,rfl⟩,h,rfl⟩
  ·exact h.elim
 ·rename_i c hop;split at h
  ·rename_i f hc;rw[fev_eq,Qb3]at h;unfold Qv4 at h;split at h
   ·rename_i g caps l hf hl;split at h
    ·rename_i v l' p1 hfr;obtain⟨h1,h2,h3⟩:=h;have hcp:CallPan P tm.gl (.fn g caps) l H nx ⟨v,H,nx,[]⟩:=CallPan.caps (frameP h2 (frzL_view _ l' p1 hfr h1));exact⟨_,_,.inr ⟨c,f,_,l,_,hop,hc,hf,hl,hcp,rfl,rfl⟩,h3,rfl⟩
    ·exact h.elim
   ·exact h.elim
  ·exact h.elim
 ·exact h.elim
theorem Qox{tm:TM}{H:T O}{nx:Nat}{lg:List Nat}{r:Option V}{K:V→St→Prop}{o:Oper}(h:Qjj P tm H nx lg r K o.op): ∃v,PanOp P ⟨tm,H,nx,lg⟩ o v ⟨tm,H,nx,lg⟩∧K v ⟨tm,H,nx,lg⟩:=by
 unfold Qjj at h;split at h
 ·rename_i x hop;rw[fev_eq]at h;unfold Qv6 at h;split at h
  ·rename_i t y hx;cases hg:gnd y with
   |false=>simp_all
   |true=>rw[hg,cond_true]at h;exact⟨_,.inl ⟨x,t,y,hop,hx,hg,rfl,rfl⟩,h⟩
  ·exact h.elim
 ·rename_i c hop;split at h
  ·rename_i f hc;rw[fev_eq,Qb3]at h;unfold Qv4 at h;split at h
   ·rename_i g caps l hf hl;split at h
    ·rename_i v l' p1 hfr;obtain⟨h1,h2,h3⟩:=h;have hcp:CallPan P tm.gl (.fn g caps) l H nx ⟨v,H,nx,[]⟩:=CallPan.caps (frameP h2 (frzL_view _ l' p1 hfr h1));exact⟨_,.inr ⟨c,f,_,l,_,hop,hc,hf,hl,hcp,rfl,rfl⟩,h3⟩
    ·exact h.elim
   ·exact h.elim
  ·exact h.elim
 ·exact h.elim
theorem Qkn{ops:Array Oper}{val val':Nat→V}: ∀{l:List Nat}{tm:TM},(∀i∈l,val i=val' i)→puts ops val l tm=puts ops val' l tm
 |[],_,_=>rfl
 |k::l,tm,h=>by unfold puts;rw[h k List.mem_cons_self];exact Qkn (fun i hi=>h i (List.mem_cons_of_mem _ hi))
theorem vcQ_ok {gl : T (List V)} (hsp : Qbg P gl sp) {H : T O} {nx : Nat} {K : Hs → List Qay → TM → Prop} : ∀ (A : List Nat) (hs : Hs) (qs : List Qay) (tm : TM), A.Nodup → tm.gl = gl → TblOk P gl qs → vcQ P E sp ops H nx K A hs qs tm →
  ∃hs' qs' val,K hs' qs' (puts ops val A tm)∧TblOk P gl qs'∧(∀q∈qs,q∈qs')∧∀call,Qdl call qs'→∀l1 k l2,A=l1++k::l2→∃o,ops[k]? =some o∧QOp E call ops H nx (puts ops val l1 tm) o (val k)
 |[],hs,qs,tm,_,hgl,hq,h=>⟨hs,qs,fun _=>.nilp,h,hq,fun _ h=>h,fun _ _ l1 k l2 e=>by simp at e⟩
 | k :: l, hs, qs, tm, hnd, hgl, hq, h => by
  obtain⟨hk,hnd'⟩:=List.nodup_cons.1 hnd;unfold vcQ at h;split at h
  ·rename_i o ho;rw[Qb0]at h;have hdst:(ops[k]?).bind (·.dst)=o.dst:=by rw[ho];rfl
   -- what is common: the value v of operation k, and the rest
   have go: ∀(v:V)(hs1:Hs)(qs1:List Qay),(∀q∈qs,q∈qs1)→TblOk P gl qs1→vcQ P E sp ops H nx K l hs1 qs1 (tm.put o.dst v)→(∀call,Qdl call qs1→QOp E call ops H nx tm o v)→
     ∃hs' qs' val,K hs' qs' (puts ops val (k::l) tm)∧TblOk P gl qs'∧(∀q∈qs,q∈qs')∧∀call,Qdl call qs'→∀l1 k' l2,k::l=l1++k'::l2→∃o,ops[k']? =some o∧QOp E call ops H nx (puts ops val l1 tm) o (val k'):=by
    intro v hs1 qs1 hsub hq1 hv hop;obtain⟨hs',qs',val,k1,k2,k3,k4⟩:=vcQ_ok hsp l hs1 qs1 (tm.put o.dst v) hnd' (by grind[Qa3]) hq1 hv
    obtain⟨f,hself,hne⟩: ∃f:Nat→V,f k=v∧∀i∈l,f i=val i:=
     ⟨fun i=>if i=k then v else val i,if_pos rfl,fun i hi=>if_neg (fun e:i=k=>hk (by simp_all))⟩
    refine⟨hs',qs',f,?_,k2,fun q hq=>k3 q (hsub q hq),fun call hm l1 k' l2 e=>?_⟩
    ·grind[puts,Qkn]
    ·cases l1 with
     |nil=>
      rw[List.nil_append]at e;cases e;refine⟨o,ho,?_⟩;rw[hself];exact hop call (fun q hq=>hm q (k3 q hq))
     |cons y l1=>
      grind[puts,Qkn]
   split at h
   ·rename_i hw;obtain⟨hs1,qs1,r,hk1,hq1,hsub,hans⟩:=Qow (tm:=tm) (by simp_all) (by simp_all) h
    rw[hgl]at hq1;cases r with
    |calm v rd=>
     dsimp only at hk1;rw[Qbm]at hk1;refine go v hs1 qs1 hsub hq1 hk1 (fun call hm=>.inr (.inl ⟨hw,rd,?_⟩))
     have:=hans call hm;grind[opR]
    |alloc v ob=>exact hk1.elim
    | eff r =>
     dsimp only at hk1;obtain⟨⟨e1,e2,e3⟩,hk1⟩:=hk1;rw[Qbm]at hk1;refine go r.v hs1 qs1 hsub hq1 hk1 (fun call hm=>.inr (.inr ⟨hw,?_⟩))
     have:=hans call hm;unfold opR at this;split at this
     ·cases this
     ·split at this
      ·cases this
      ·split at this
       ·rename_i r' hr;cases this;rw[hr];cases r;simp_all
       ·cases this
   ·rename_i hw;rw[Qbm]at h;exact go (.tup []) hs qs (fun _ h=>h) hq h (fun call _=>.inl ⟨hw,rfl⟩)
   ·exact h.elim
  ·exact h.elim
theorem Qi3{ops:Array Oper}{bf:Array Nat}: ∀{l pre:List Nat},ordB ops bf pre l=true→l.Nodup
 |[],_,_=>List.nodup_nil
 |k::l,pre,h=>by
  unfold ordB at h;simp only[Bool.and_eq_true]at h;exact List.nodup_cons.2 ⟨by simp_all,Qi3 h.2⟩
theorem vcRegD_ok(hE:E.Ok P)(hm:P.follows .mixedOrders=true){rd:Option Nat}{nx0 id:Nat}{j:Nat}{r:Option V}{hs:Hs}{st:St}(hsp:Qbg P st.tm.gl sp){K:Hs→V→St→Prop}(h:vcRegD P E sp ops j r hs st K):Sat P rd nx0 (.region id ops true) st (fun e st'=>st'.tm.gl=st.tm.gl∧∃v hs',e= .pan v∧K hs' v st'):=by
 unfold vcRegD at h;split at h
 ·rename_i o tm H nx lg ho;obtain⟨hb,h⟩:=Qso h;have hnd:(Qsj (Region.before ops) ops.size j).Nodup:=by
   have hb':=hb;unfold panB Quy at hb';simp only[Bool.and_eq_true]at hb';exact Qi3 hb'.1.1.1.1.1.2
  obtain⟨hs',qs',val,k1,k2,_,k4⟩:=vcQ_ok (gl:=tm.gl) hsp _ hs [] tm hnd rfl TblOk.nil h;rw[Qb0]at k1;split at k1
  ·rename_i hw;obtain⟨v,p1,p2⟩:=Qox k1;exact Sat.region_panD hE hm (st:=⟨tm,H,nx,lg⟩) k2.call hb (k4 _ k2.meets) ho hw p1 ⟨rfl,v,hs',rfl,p2⟩
  ·exact k1.elim
 ·exact h.elim
theorem vcRegP_ok(hE:E.Ok P){rd:Option Nat}{nx0 id:Nat}{i:Nat}{r:Option V}{hs:Hs}{st:St}(hsp:Qbg P st.tm.gl sp){K:Hs→V→St→Prop}(h:vcRegP P E sp ops i r hs st K):Sat P rd nx0 (.region id ops false) st (fun e st'=>st'.tm.gl=st.tm.gl∧∃v hs',e= .pan v∧K hs' v st'):=by
 unfold vcRegP at h;split at h
 ·rename_i o ho;obtain⟨hs',qs,st',⟨k1,kg⟩,k2,_,k4⟩:=Qcc hsp _ hs [] st rfl TblOk.nil h;unfold vcPan at k1;split at k1;rename_i tm H nx lg;rw[Qb0]at k1;split at k1
  ·rename_i hw;obtain⟨v,st2,p1,p2,p3⟩:=Qv5 k1;exact Sat.region_pan hE k2.call (k4 _ k2.meets) ho hw p1 ⟨p3.trans kg,v,hs',rfl,p2⟩
  ·exact k1.elim
 ·exact h.elim
theorem vcRegC_ok(hE:E.Ok P){rd:Option Nat}{nx0 id:Nat}{i:Nat}{r:CR}{hs:Hs}{st:St}(hsp:Qbg P st.tm.gl sp){K:Hs→V→St→Prop}(h:vcRegC P E sp ops i r hs st K):Sat P rd nx0 (.region id ops false) st (fun e st'=>st'.tm.gl=st.tm.gl∧∃v hs',e= .pan v∧K hs' v st'):=by
 unfold vcRegC at h;split at h
 ·rename_i o ho;obtain⟨hs',qs,st',⟨k1,kg⟩,k2,_,k4⟩:=Qcc hsp _ hs [] st rfl TblOk.nil h;unfold vcPanN at k1;split at k1;rename_i tm H nx lg;rw[Qb0]at k1;split at k1
  ·rename_i hw;split at k1
   ·rename_i c hop;split at k1
    ·rename_i f hc;rw[fev_eq,Qb3]at k1;unfold vcPanM at k1;split at k1
     ·rename_i g l hg hl;exact Sat.region_pan hE k2.call (k4 _ k2.meets) ho hw (.inr ⟨c,f,g,l,r,hop,hc,hg,hl,k1.1,rfl,rfl⟩) ⟨kg,r.v,hs',rfl,k1.2⟩
     ·exact k1.elim
    ·exact k1.elim
   ·exact k1.elim
  ·exact k1.elim
 ·exact h.elim
end
variable {P:Program}
def renB(nx0:Nat)(r:List Nat)(h g:Nat):Bool:=match rho nx0 r h with|some g'=>Nat.beq g' g|none=>false
noncomputable def frzW(H:T O)(off:Nat)(l:List V)(g:Nat):Prop:=
 match gt H g with
 |some (.row _ _ c)=>l=dropF off c∧HfL (dropF off c)
 | _=>False
def roomP:Option Nat→Option Nat→Prop
 |none,none=>True
 |some a,some b=>a=b
 | _,_=>False
theorem Qqs{a b:Option Nat}(h:roomP a b):a=b:=by
 cases a<;>cases b<;>first|rfl|(exact h.elim;done)|exact congrArg some h
mutual
noncomputable def vw(nx0:Nat)(r:List Nat)(ok:Bool)(H:T O):V→V→Prop
 | .bool a,.bool b=>a=b
 | .int k a,.int k' b=>bif decide (k=k')then a=b else False
 | .str a,.str b=>a=b
 | .nilp,.nilp=>True
 | .nilf,.nilf=>True
 | .nili,.nili=>True
 | .nils,.nils=>True
 | .nilm,.nilm=>True
 | .ptr h off,.ptr g off'=>bif renB nx0 r h g then off=off' else False
 | .sl h off len room,.sl g off' len' room'=>bif renB nx0 r h g then off=off'∧len=len'∧roomP room room' else False
 | .mp h,.mp g=>bif renB nx0 r h g then True else False
 | .yld h,.yld g=>bif renB nx0 r h g then True else False
 | .fn f l,.fn f' l'=>bif Nat.beq f f' then vwL nx0 r ok H l l' else False
 | .mfn f l,.mfn f' l'=>bif Nat.beq f f' then vwL nx0 r ok H l l' else False
 | .agg l,.agg l'=>vwL nx0 r ok H l l'
 | .tup l,.tup l'=>vwL nx0 r ok H l l'
 | .ifc t x,.ifc t' x'=>bif Nat.beq t t' then vw nx0 r ok H x x' else False
 | .im n l,.im n' l'=>n=n'∧l=l'
 | .im n _,.nils=>n=0
 | .im n l,.sl g off len _=>bif ok&&Nat.ble nx0 g&& !r.contains g then n=len∧frzW H off l g else False
 | .imp l,.imp l'=>l=l'
 | .imp l,.ptr g off=>bif ok&&Nat.ble nx0 g&& !r.contains g then frzW H off l g else False
 | _,_=>False
noncomputable def vwL(nx0:Nat)(r:List Nat)(ok:Bool)(H:T O):List V→List V→Prop
 |[],[]=>True
 |x::xs,y::ys=>vw nx0 r ok H x y∧vwL nx0 r ok H xs ys
 | _,_=>False
end
theorem Qhl{nx0:Nat}{r:List Nat}{h g:Nat}(hb:renB nx0 r h g=true):rho nx0 r h=some g:=by
 grind[renB,Nat.eq_of_beq_eq_true]
theorem Qai{b:Bool}{p:Prop}(h:bif b then p else False):b=true∧p:=by
 simp_all
theorem fr_of{nx0:Nat}{r lg:List Nat}{ok:Bool}(hok:ok=true→∀h∈lg,nx0≤h){g:Nat}(h:(ok&&Nat.ble nx0 g&& !r.contains g)=true):Fr nx0 r lg g:=by
 simp only[Bool.and_eq_true,Bool.not_eq_true']at h;refine⟨Nat.le_of_ble_eq_true h.1.2,fun hm=>?_,hok h.1.1⟩
 simp_all
mutual
theorem Qo0{nx0:Nat}{r lg:List Nat}{ok:Bool}{H:T O}(hok:ok=true→∀h∈lg,nx0≤h): ∀(x y:V),vw nx0 r ok H x y→View H.get (Fr nx0 r lg) (rho nx0 r) x y
 | .bool a,y,h=>by cases y<;>first|(exact h.elim;done)|(cases h;rfl)
 | .int k a,y,h=>by
  cases y<;>try(exact h.elim;done)
  obtain⟨h1,h2⟩:=Qai h;have:=of_decide_eq_true h1;subst this;cases h2;rfl
 | .str a,y,h=>by cases y<;>first|(exact h.elim;done)|(cases h;rfl)
 | .nilp,y,h=>by cases y<;>first|(exact h.elim;done)|rfl
 | .nilf,y,h=>by cases y<;>first|(exact h.elim;done)|rfl
 | .nili,y,h=>by cases y<;>first|(exact h.elim;done)|rfl
 | .nils,y,h=>by cases y<;>first|(exact h.elim;done)|rfl
 | .nilm,y,h=>by cases y<;>first|(exact h.elim;done)|rfl
 | .ptr i off,y,h=>by
  cases y<;>try(exact h.elim;done)
  obtain⟨h1,rfl⟩:=Qai h;exact⟨_,Qhl h1,rfl⟩
 | .sl i off len room,y,h=>by
  cases y<;>try(exact h.elim;done)
  obtain⟨h1,rfl,rfl,h2⟩:=Qai h;have:=Qqs h2;subst this;exact⟨_,Qhl h1,rfl⟩
 | .mp i,y,h=>by
  cases y<;>try(exact h.elim;done)
  obtain⟨h1,_⟩:=Qai h;exact⟨_,Qhl h1,rfl⟩
 | .yld i,y,h=>by
  cases y<;>try(exact h.elim;done)
  obtain⟨h1,_⟩:=Qai h;exact⟨_,Qhl h1,rfl⟩
 | .fn f l,y,h=>by
  cases y<;>try(exact h.elim;done)
  obtain⟨h1,h2⟩:=Qai h;have:=Nat.eq_of_beq_eq_true h1;subst this;exact⟨_,rfl,Qdz hok _ _ h2⟩
 | .mfn f l,y,h=>by
  cases y<;>try(exact h.elim;done)
  obtain⟨h1,h2⟩:=Qai h;have:=Nat.eq_of_beq_eq_true h1;subst this;exact⟨_,rfl,Qdz hok _ _ h2⟩
 | .agg l,y,h=>by
  cases y<;>try(exact h.elim;done)
  exact⟨_,rfl,Qdz hok _ _ h⟩
 | .tup l,y,h=>by
  cases y<;>try(exact h.elim;done)
  exact⟨_,rfl,Qdz hok _ _ h⟩
 | .ifc t x,y,h=>by
  cases y<;>try(exact h.elim;done)
  obtain⟨h1,h2⟩:=Qai h;have:=Nat.eq_of_beq_eq_true h1;subst this;exact⟨_,rfl,Qo0 hok x _ h2⟩
 | .im n l, y, h => by
  cases y<;>try(exact h.elim;done)
  ·exact .inr (.inl ⟨rfl,h⟩)
  ·obtain ⟨h1, h2, h3⟩ := Qai h;unfold frzW at h3;rw[Qaw]at h3;split at h3
   ·rename_i hg;obtain⟨rfl,h4⟩:=h3;subst h2;rw[Qam]at h4⊢;exact .inr (.inr ⟨_,_,_,_,_,_,rfl,fr_of hok h1,hg,ViewP.of_hf _ h4⟩)
   ·exact h3.elim
  ·obtain⟨rfl,rfl⟩:=h;exact .inl rfl
 | .imp l, y, h => by
  cases y<;>try(exact h.elim;done)
  ·obtain ⟨h1, h3⟩ := Qai h;unfold frzW at h3;rw[Qaw]at h3;split at h3
   ·rename_i hg;obtain⟨rfl,h4⟩:=h3;rw[Qam]at h4⊢;exact .inr ⟨_,_,_,_,_,rfl,fr_of hok h1,hg,ViewP.of_hf _ h4⟩
   ·exact h3.elim
  ·cases h;exact .inl rfl
theorem Qdz{nx0:Nat}{r lg:List Nat}{ok:Bool}{H:T O}(hok:ok=true→∀h∈lg,nx0≤h): ∀(l m:List V),vwL nx0 r ok H l m→ViewL H.get (Fr nx0 r lg) (rho nx0 r) l m
 |[],m,h=>by cases m with
  |nil=>rfl
  |cons _ _=>exact h.elim
 |x::xs,m,h=>by cases m with
  |nil=>exact h.elim
  |cons y ys=>exact⟨y,ys,rfl,Qo0 hok x y h.1,Qdz hok xs ys h.2⟩
end
def beqON:Option Nat→Option Nat→Bool
 |none,none=>true
 |some a,some b=>Nat.beq a b
 | _,_=>false
theorem Qpg{a b:Option Nat}(h:beqON a b=true):a=b:=by
 cases a<;>cases b<;>first|rfl|(cases h;done)|(rw[Nat.eq_of_beq_eq_true h])
def HfE:List (V×V×Nat)→Prop
 |[]=>True
 |(k,v,_)::es=>Hf k∧Hf v∧HfE es
theorem ViewE.of_hf{H:Nat→Option O}{F:Nat→Prop}{ρ:Nat→Option Nat}: ∀(l:List (V×V×Nat)),HfE l→ViewE H F ρ l l
 |[],_=>rfl
 |(k,v,n)::es,h=>⟨k,v,es,rfl,View.of_hf k h.1,View.of_hf v h.2.1,ViewE.of_hf es h.2.2⟩
mutual
theorem View.of_sc{H:Nat→Option O}{F:Nat→Prop}{nx0:Nat}{r:List Nat}: ∀(x:V),Sc (fun h=>h<nx0) x→View H F (rho nx0 r) x x
 | .bool _,_| .int _ _,_| .str _,_| .nilp,_| .nilf,_| .nili,_| .nils,_| .nilm,_=>rfl
 | .im _ _,_=>.inl rfl
 | .imp _,_=>.inl rfl
 | .ptr _ _,h=>⟨_,Qho h,rfl⟩
 | .sl _ _ _ _,h=>⟨_,Qho h,rfl⟩
 | .mp _,h=>⟨_,Qho h,rfl⟩
 | .yld _,h=>⟨_,Qho h,rfl⟩
 | .fn _ l,h=>⟨l,rfl,ViewL.of_sc l h⟩
 | .mfn _ l,h=>⟨l,rfl,ViewL.of_sc l h⟩
 | .agg l,h=>⟨l,rfl,ViewL.of_sc l h⟩
 | .tup l,h=>⟨l,rfl,ViewL.of_sc l h⟩
 | .ifc _ x,h=>⟨x,rfl,View.of_sc x h⟩
theorem ViewL.of_sc{H:Nat→Option O}{F:Nat→Prop}{nx0:Nat}{r:List Nat}: ∀(l:List V),ScL (fun h=>h<nx0) l→ViewL H F (rho nx0 r) l l
 |[],_=>rfl
 |x::xs,h=>⟨x,xs,rfl,View.of_sc x h.1,ViewL.of_sc xs h.2⟩
end
def LowT(nx0:Nat)(tm:TM):Prop:=∀i x,tm.sl.get i=some x→Sc (fun h=>h<nx0) x
noncomputable def vwO(nx0:Nat)(r lg:List Nat)(ok:Bool)(H:T O)(md:Nat):O→O→Prop
 | .row t sp c,.row t' sp' c'=>bif Nat.beq t t'&&beqON sp sp' then(match md with
  |0=>c=c'∧HfL c
  |1=>vwL nx0 r ok H c c'
  | _=>True∧ViewL H.get (Fr nx0 r lg) (rho nx0 r) c c')else False
 | .map es ck,.map es' ck'=>es=es'∧HfE es∧ck=ck'
 | .iter (some i) since seen last,.iter (some g) since' seen' last'=>bif renB nx0 r i g then since=since'∧seen=seen'∧last=last' else False
 | .dead,_=>True
 | .loop ls pd fn tm ps asg bd,y=>y= .loop ls pd fn tm ps asg bd∧LowT nx0 tm
 | _,_=>False
theorem vwO_view{nx0:Nat}{r lg:List Nat}{ok:Bool}{H:T O}(hok:ok=true→∀h∈lg,nx0≤h){md:Nat}{o y:O}(h:vwO nx0 r lg ok H md o y):ViewO H.get (Fr nx0 r lg) (rho nx0 r) o y:=by
 cases o with
 |row t sp c=>
  cases y<;>try(exact h.elim;done)
  obtain⟨h1,h2⟩:=Qai h;rw[Bool.and_eq_true]at h1;have e1:=Nat.eq_of_beq_eq_true h1.1;have e2:=Qpg h1.2;subst e1 e2;refine⟨_,rfl,?_⟩;grind[ViewL.of_hf,Qdz]
 |map es ck=>
  cases y<;>try(exact h.elim;done)
  obtain⟨rfl,h1,rfl⟩:=h;exact⟨_,rfl,ViewE.of_hf _ h1⟩
 |dead=>trivial
 |iter m since seen last=>
  cases m<;>cases y<;>try(exact h.elim;done)
  rename_i i m' _ _ _;cases m'<;>try(exact h.elim;done)
  obtain⟨h1,rfl,rfl,rfl⟩:=Qai h;exact⟨_,rfl,_,Qhl h1,rfl⟩
 |loop ls pd fn tm ps asg bd=>obtain⟨rfl,hl⟩:=h;exact⟨rfl,fun i x hx=>View.of_sc x (hl i x hx)⟩
noncomputable def slotsP(nx0:Nat)(r:List Nat)(ok:Bool)(st:St):List (Nat×V)→Prop
 |[]=>True
 |(i,x)::l=>(match gt st.tm.sl i with|some y=>vw nx0 r ok st.H x y|none=>False)∧slotsP nx0 r ok st l
noncomputable def objsP(nx0:Nat)(r lg:List Nat)(ok:Bool)(H:T O):Nat→List O→List Nat→Prop
 | _,[],_=>True
 | i, o :: os, md => (match o with
  | .dead=>True
  | o => match rho nx0 r i with
   |some g=>match gt H g with
    |some y=>vwO nx0 r lg ok H (md.headD 0) o y
    |none=>False
   |none=>False)∧objsP nx0 r lg ok H (i+1) os md.tail
def gcB(nx0 nx:Nat)(r lg lg':List Nat)(len:Nat):Bool:=
 Nat.beq len (nx0+r.length)&&r.all (fun g=>Nat.ble nx0 g&&Nat.blt g nx)&&Qcz r&&lg.all (fun h=>Nat.ble nx0 h||lg'.contains h)
noncomputable def gcP(nx0:Nat)(r:List Nat)(st:St)(S:SL):Prop:=
 bif gcB nx0 st.nx r st.lg S.lg S.os.length then slotsP nx0 r (st.lg.all (Nat.ble nx0 ·)) st S.sl∧objsP nx0 r st.lg (st.lg.all (Nat.ble nx0 ·)) st.H 0 S.os S.md else False
theorem putL_get: ∀(l:List (Nat×V))(t:T V)(i:Nat)(x:V),(putL t l).get i=some x→(i,x)∈l∨t.get i=some x
 |[],_,_,_,h=>.inr h
 |(j,y)::l,t,i,x,h=>by
  unfold putL at h;rcases putL_get l _ i x h with k|k
  all_goals grind[pt_eq,T.get_put]
theorem ofOs_get: ∀(os:List O)(t:T O)(k i:Nat)(o:O),(ofOs t k os).get i=some o→(k≤i∧os[i-k]? =some o)∨t.get i=some o
 |[],_,_,_,_,h=>.inr h
 |x::os,t,k,i,o,h=>by
  unfold ofOs at h;rcases ofOs_get os _ (k+1) i o h with⟨h1,h2⟩|q
  all_goals grind[pt_eq,T.get_put]
theorem Qjc{nx0:Nat}{r:List Nat}{ok:Bool}{st:St}: ∀{l:List (Nat×V)},slotsP nx0 r ok st l→∀p∈l,∃y,st.tm.sl.get p.1=some y∧vw nx0 r ok st.H p.2 y
 |[],_,_,h=>by cases h
 | (i, x) :: l, h, p, hp => by
  rcases List.mem_cons.1 hp with rfl|hp
  ·have := h.1;grind[Qaw]
  ·exact Qjc h.2 p hp
theorem Qms{nx0:Nat}{r lg:List Nat}{ok:Bool}{H:T O}: ∀{os:List O}{k:Nat}{md:List Nat},objsP nx0 r lg ok H k os md→∀(j:Nat)(o:O),os[j]? =some o→o.live=true→∃g y m,rho nx0 r (k+j)=some g∧H.get g=some y∧vwO nx0 r lg ok H m o y
 |[],_,_,_,_,_,h,_=>by simp at h
 |x::os,k,md,h,0,o,hj,hl=>by
  obtain rfl:x=o:=by simpa using hj
  have h1:=h.1;cases x<;>first|(cases hl;done)|skip
  all_goals grind[Qaw]
 |x::os,k,md,h,j+1,o,hj,hl=>by
  obtain⟨g,y,m,h1,h2,h3⟩:=Qms h.2 j o (by simpa using hj) hl
  grind
theorem Qfq: ∀{l:List Nat},Qcz l=true→l.Nodup
 |[],_=>List.nodup_nil
 |x::l,h=>by
  unfold Qcz at h;rw[Bool.and_eq_true]at h;refine List.nodup_cons.2 ⟨fun hm=>?_,Qfq h.2⟩
  simp_all
theorem Qfp{nx0:Nat}{r:List Nat}{st:St}{S:SL}(h:gcP nx0 r st S):Gc nx0 r st (mkSt st.tm.gl st.tm.n S):=by
 obtain⟨hb,h1,h2⟩:=Qai h;unfold gcB at hb;simp only[Bool.and_eq_true]at hb;obtain⟨⟨⟨b1,b2⟩,b3⟩,b4⟩:=hb;have hok:st.lg.all (Nat.ble nx0 ·)=true→∀h∈st.lg,nx0≤h:=fun e h hm=>Nat.le_of_ble_eq_true (List.all_eq_true.1 e h hm)
 refine⟨Nat.eq_of_beq_eq_true b1,fun g hg=>?_,Qfq b3,rfl,rfl,fun i x hx=>?_,fun i o ho hl=>?_,fun i hi hlt=>?_⟩
 ·simp_all
 ·rcases putL_get _ _ _ _ hx with hm | hm
  all_goals grind[Qjc,Qo0,Qbj]
 ·rcases ofOs_get _ _ _ _ _ ho with ⟨_, hm⟩ | hm
  ·grind[Qms,vwO_view]
  ·simp at hm
 ·have := List.all_eq_true.1 b4 i hi;rw[Bool.or_eq_true]at this;rcases this with h|h
  ·have:=Nat.le_of_ble_eq_true h;omega
  ·exact List.contains_iff_mem.1 h
noncomputable def mkSo(gl:T (List V))(n:Nat)(sl:List (Nat×V))(H:T O)(nx:Nat)(lg:List Nat):St:=⟨⟨putL (blank n) sl,gl,n⟩,H,nx,lg⟩
noncomputable def slotsQ(tm:TM):List (Nat×V)→Prop
 |[]=>True
 |(i,x)::l=>(match gt tm.sl i with|some y=>y=x|none=>False)∧slotsQ tm l
theorem Qjd{tm:TM}: ∀{l:List (Nat×V)},slotsQ tm l→∀p∈l,tm.sl.get p.1=some p.2
 |[],_,_,h=>by cases h
 | (i, x) :: l, h, p, hp => by
  rcases List.mem_cons.1 hp with rfl|hp
  ·have := h.1;grind[Qaw]
  ·exact Qjd h.2 p hp
theorem Ats.fewer{B:Bs}{nx0:Nat}{s0 s:Sig}{w0 w:World}{st:St}{a:Act}{sl:List (Nat×V)}(A:Ats B s0 w0 nx0 st s w a)(h:slotsQ st.tm sl):Ats B s0 w0 nx0 (mkSo st.tm.gl st.tm.n sl st.H st.nx st.lg) s w a:=by
 refine⟨⟨A.rel.rh,⟨A.rel.rt.1,fun i x hx=>?_,A.rel.rt.2.2⟩,A.rel.nx,A.rel.df⟩,A.step,A.dom,A.le⟩
 rcases putL_get _ _ _ _ hx with hm|hm
 ·exact A.rel.rt.2.1 i x (Qjd h _ hm)
 grind[Qbj]
theorem Sat.fewer{rd:Option Nat}{nx0:Nat}{c:Code}{st:St}{R:Ex→St→Prop}{sl:List (Nat×V)}(h:slotsQ st.tm sl)(k:Sat P rd nx0 c (mkSo st.tm.gl st.tm.n sl st.H st.nx st.lg) R):Sat P rd nx0 c st R:=
 fun B s0 w0 s w a hn hB hrd A Q hQ=>k B s0 w0 s w a hn hB hrd (A.fewer h) Q hQ
theorem Sat.fewer_post{rd:Option Nat}{nx0:Nat}{c:Code}{st:St}{R:Ex→St→Prop}(h:Sat P rd nx0 c st (fun e st1=>∃sl,slotsQ st1.tm sl∧R e (mkSo st1.tm.gl st1.tm.n sl st1.H st1.nx st1.lg))):Sat P rd nx0 c st R:=
 fun B s0 w0 s w a hn hB hrd A Q hQ=>h B s0 w0 s w a hn hB hrd A Q (fun e _⟨_,hs,hR⟩ s' w' a' A'=>hQ e _ hR s' w' a' (A'.fewer hs))
def Qmt(gl:T (List V))(n:Nat)(H:T O)(nx:Nat)(lg:List Nat):List (Prop×Ex×List (Nat×V))→Ex→St→Prop
 |[],_,_=>False
 |(p,e',sl)::l,e,st=>(p∧e=e'∧st=mkSo gl n sl H nx lg)∨Qmt gl n H nx lg l e st
def Qmu(gl:T (List V))(n:Nat)(e:Ex)(sl':Nat→List (Nat×V))(Q:Nat→T O→Nat→List Nat→Prop):Ex→St→Prop:=fun e' st=>∃h H nx lg,e'=e∧st=mkSo gl n (sl' h) H nx lg∧Q h H nx lg
def Qaf(gl:T (List V))(n:Nat):List (Prop×Ex×SL)→Ex→St→Prop
 |[],_,_=>False
 |(p,e',S)::l,e,st=>(p∧e=e'∧st=mkSt gl n S)∨Qaf gl n l e st
section
variable (P:Program) (E:Env) (sp:Qc0) (rd:Option Nat) (nx0:Nat)
abbrev KF:=Ex→Hs→St→Prop
abbrev VcF:=Code→Hs→St→KF→Prop
noncomputable def kSeq(ex:VcF)(b:Code)(K:KF):KF:=fun e hs st=>match e with
 | .normal=>ex b hs st K
 | .exit i=>K (.exit i) hs st
 | .ret=>K .ret hs st
 | .pan v=>K (.pan v) hs st
noncomputable def Qt7(id:Nat)(K:KF):KF:=fun e hs st=>match e with
 | .exit i=>bif Nat.beq i id then K .normal hs st else K (.exit i) hs st
 | .normal=>K .normal hs st
 | .ret=>K .ret hs st
 | .pan v=>K (.pan v) hs st
noncomputable def Qrr(gl:T (List V))(n:Nat)(hs:Hs)(K:KF):List (Prop×Ex×SL)→Prop
 |[]=>True
 |(p,e,S)::l=>(p→K e hs (mkSt gl n S))∧Qrr gl n hs K l
noncomputable def Quv(gl:T (List V))(n:Nat)(H:T O)(nx:Nat)(lg:List Nat)(hs:Hs)(K:KF):List (Prop×Ex×List (Nat×V))→Prop
 |[]=>True
 |(p,e,sl)::l=>(p→K e hs (mkSo gl n sl H nx lg))∧Quv gl n H nx lg hs K l
noncomputable def vcU(ex:VcF)(b:Code)(K:KF)(n:Nat):Hs→St→Prop:=Nat.rec (motive:=fun _=>Hs→St→Prop) (fun _ _=>False) (fun _ ih hs st=>ex b hs st (fun e hs st=>match e with
 | .normal=>ih hs st
 | .exit i=>K (.exit i) hs st
 | .ret=>K .ret hs st
 | .pan v=>K (.pan v) hs st)) n
noncomputable def vcLoop(ex:VcF)(b:Code)(hs:Hs)(st:St)(K:KF):Prop:=match hs with
 |(_,.loop r S outs)::hs'=>gcP nx0 r st S∧Sat P rd nx0 (.loop b) (mkSt st.tm.gl st.tm.n S) (Qaf st.tm.gl st.tm.n outs)∧Qrr st.tm.gl st.tm.n hs' K outs
 |(_,.unroll n)::hs'=>vcU ex b K n hs' st
 |(_,.loopF sl outs)::hs'=>slotsQ st.tm sl∧Sat P rd nx0 (.loop b) (mkSo st.tm.gl st.tm.n sl st.H st.nx st.lg) (Qmt st.tm.gl st.tm.n st.H st.nx st.lg outs)∧Quv st.tm.gl st.tm.n st.H st.nx st.lg hs' K outs
 |(_,.loopM sl e sl' Q rest):: _=>slotsQ st.tm sl∧Sat P rd nx0 (.loop b) (mkSo st.tm.gl st.tm.n sl st.H st.nx st.lg) (Qmu st.tm.gl st.tm.n e sl' Q)∧∀(h:Nat)(H:T O)(nx:Nat)(lg:List Nat),Q h H nx lg→K e (rest h H nx lg) (mkSo st.tm.gl st.tm.n (sl' h) H nx lg)
 |(_,.loopK sl outs)::hs'=>slotsQ st.tm sl∧Sat P rd nx0 (.loop b) (mkSo st.tm.gl st.tm.n sl st.H st.nx st.lg) (Qaf st.tm.gl st.tm.n outs)∧Qrr st.tm.gl st.tm.n hs' K outs
 | _=>False
noncomputable def vcRF(c:Code)(hs:Hs)(st:St)(K:KF):Prop:=match hs with
 |(_,.loop r S outs)::hs'=>gcP nx0 r st S∧Sat P rd nx0 c (mkSt st.tm.gl st.tm.n S) (Qaf st.tm.gl st.tm.n outs)∧Qrr st.tm.gl st.tm.n hs' K outs
 |(_,.loopM sl e sl' Q rest):: _=>slotsQ st.tm sl∧Sat P rd nx0 c (mkSo st.tm.gl st.tm.n sl st.H st.nx st.lg) (Qmu st.tm.gl st.tm.n e sl' Q)∧∀(h:Nat)(H:T O)(nx:Nat)(lg:List Nat),Q h H nx lg→K e (rest h H nx lg) (mkSo st.tm.gl st.tm.n (sl' h) H nx lg)
 |(_,.loopK sl outs)::hs'=>slotsQ st.tm sl∧Sat P rd nx0 c (mkSo st.tm.gl st.tm.n sl st.H st.nx st.lg) (Qaf st.tm.gl st.tm.n outs)∧Qrr st.tm.gl st.tm.n hs' K outs
 | _=>False
noncomputable def vcCond(ex:VcF)(a b:Code)(hs:Hs)(st:St)(K:KF):Option V→Prop
 |some (.bool t)=>ex (bif t then a else b) hs st K
 | _=>False
noncomputable def vcRg(_:Nat)(ops:Array Oper)(draw:Bool)(hs:Hs)(st:St)(K:KF):Prop:=Qf7 P E sp ops draw hs st (fun hs st=>K .normal hs st)
noncomputable def Qv7(ex:VcF)(c:Code)(hs:Hs)(st:St)(K:KF):Prop:=
 match c with
 | .skip=>K .normal hs st
 | .label _=>K .normal hs st
 | .seq a b=>ex a hs st (kSeq ex b K)
 | .region id ops draw=>vcRg P E sp id ops draw hs st K
 | .cond c a b=>vcCond ex a b hs st K (fev st.tm c)
 | .block id b=>ex b hs st (Qt7 id K)
 | .loop b=>vcLoop P rd nx0 ex b hs st K
 | .scope b=>ex b hs st K
 | .rangeFunc g ps asg b=>vcRF P rd nx0 (.rangeFunc g ps asg b) hs st K
 | .exit id=>K (.exit id) hs st
 | .ret=>K .ret hs st
 | _=>False
noncomputable def vc(n:Nat):VcF:=Nat.rec (motive:=fun _=>VcF) (fun _ _ _ _=>False) (fun _ ih=>Qv7 P E sp rd nx0 ih) n
end
section
variable {E:Env} {sp:Qc0} {rd:Option Nat} {nx0:Nat}
theorem Qdc{gl:T (List V)}{n:Nat}{hs:Hs}{K:KF}: ∀{l:List (Prop×Ex×SL)}{e:Ex}{st:St},Qrr gl n hs K l→Qaf gl n l e st→K e hs st
 |[],_,_,_,h=>h.elim
 |(p,e',S)::l,e,st,hk,h=>by
  rcases h with⟨hp,rfl,rfl⟩|h
  ·exact hk.1 hp
  ·exact Qdc hk.2 h
theorem Qi4{gl:T (List V)}{n:Nat}{H:T O}{nx:Nat}{lg:List Nat}{hs:Hs}{K:KF}: ∀{l:List (Prop×Ex×List (Nat×V))}{e:Ex}{st:St},Quv gl n H nx lg hs K l→Qmt gl n H nx lg l e st→K e hs st∧st.tm.gl=gl
 |[],_,_,_,h=>h.elim
 |(p,e',S)::l,e,st,hk,h=>by
  rcases h with⟨hp,rfl,rfl⟩|h
  ·exact⟨hk.1 hp,rfl⟩
  ·exact Qi4 hk.2 h
theorem Qkg{gl:T (List V)}{n:Nat}: ∀{l:List (Prop×Ex×SL)}{e:Ex}{st:St},Qaf gl n l e st→st.tm.gl=gl
 |[],_,_,h=>h.elim
 | _:: _,_,_,h=>by
  rcases h with⟨_,_,rfl⟩|h
  ·rfl
  ·exact Qkg h
theorem vc_ok(hE:E.Ok P)(hm:P.follows .mixedOrders=true){gl:T (List V)}(hsp:Qbg P gl sp): ∀(n:Nat)(c:Code)(hs:Hs)(st:St)(K:KF),st.tm.gl=gl→vc P E sp rd nx0 n c hs st K→Sat P rd nx0 c st (fun e st'=>st'.tm.gl=gl∧∃hs',K e hs' st')
 |0,_,_,_,_,_,h=>h.elim
 | n + 1, c, hs, st, K, hgl, h => by
  have ih:=vc_ok hE hm hsp n;change Qv7 P E sp rd nx0 (vc P E sp rd nx0 n) c hs st K at h;unfold Qv7 at h;split at h
  ·grind[Sat.skip]
  ·grind[Sat.label]
  ·rename_i a b;refine Sat.seq (ih a hs st _ hgl h) (fun st1⟨hg,hs1,h1⟩=>ih b hs1 st1 K hg h1) (fun e st1 he⟨hg,hs1,h1⟩=>⟨hg,hs1,?_⟩)
   cases e with
   |normal=>trivial
   |exit=>exact h1
   |ret=>exact h1
   |pan=>exact h1
  ·rename_i id ops draw;have plain:Qf7 P E sp ops draw hs st (fun hs st=>K .normal hs st)→Sat P rd nx0 (.region id ops draw) st (fun e st'=>st'.tm.gl=gl∧∃hs',K e hs' st'):=fun h=>by
    refine(Qoy hE hm (by simp_all) h).mono ?_
    simp_all
   unfold vcRg at h;exact plain h
  ·rename_i c a b;unfold vcCond at h;grind[fev_eq,Sat.cond]
  ·rename_i id b;refine Sat.block (ih b hs st _ hgl h) (fun st1⟨hg,hs1,h1⟩=>⟨hg,hs1,?_⟩) (fun e st1 he⟨hg,hs1,h1⟩=>⟨hg,hs1,?_⟩)
   ·unfold Qt7 at h1;simp_all
   ·unfold Qt7 at h1;grind[Nat.eq_of_beq_eq_true]
  ·rename_i b;unfold vcLoop at h;split at h
   ·rename_i _ _ r S outs hs';obtain⟨h1,h2,h3⟩:=h;refine Sat.gc (Qfp h1) (h2.mono fun e st' ho=>⟨?_,hs',Qdc h3 ho⟩)
    have: ∀{l:List (Prop×Ex×SL)},Qaf st.tm.gl st.tm.n l e st'→st'.tm.gl=st.tm.gl:=by
     intro l
     induction l with
     |nil=>intro h;exact h.elim
     |cons p l ih=>
      rintro(⟨_,_,rfl⟩|h)
      ·rfl
      ·exact ih h
    grind
   ·rename_i _ m hs';have key: ∀(m:Nat)(hs:Hs)(st:St),st.tm.gl=gl→vcU (vc P E sp rd nx0 n) b K m hs st→Lp P rd nx0 b (fun e st'=>st'.tm.gl=gl∧∃hs',K e hs' st') m st:=by
     intro m
     induction m with
     |zero=>intro _ _ _ h;exact h.elim
     |succ m ihm=>
      intro hs st hgl h;refine(ih b hs st _ hgl h).mono ?_
      rintro e st1 ⟨hg,hs1,h1⟩
      cases e with
      |normal=>exact .inl ⟨rfl,ihm hs1 st1 hg h1⟩
      |exit i=>grind
      |ret=>grind
      |pan v=>grind
    exact(key m hs' st hgl h).sat
   ·rename_i _ sl outs hs';obtain⟨h1,h2,h3⟩:=h;refine Sat.fewer h1 (h2.mono fun e st' ho=>?_)
    grind[Qi4]
   ·rename_i _ sl e sl' Q rest _;obtain⟨h1,h2,h3⟩:=h;refine Sat.fewer h1 (h2.mono fun e' st' ho=>?_)
    obtain⟨g,H,nx,lg,rfl,rfl,hQ⟩:=ho;exact⟨hgl,_,h3 g H nx lg hQ⟩
   ·rename_i _ sl outs hs';obtain⟨h1,h2,h3⟩:=h;refine Sat.fewer h1 (h2.mono fun e st' ho=>⟨?_,hs',Qdc h3 ho⟩)
    have: ∀{l:List (Prop×Ex×SL)},Qaf st.tm.gl st.tm.n l e st'→st'.tm.gl=st.tm.gl:=by
     intro l
     induction l with
     |nil=>intro h;exact h.elim
     |cons p l ih=>
      rintro(⟨_,_,rfl⟩|h)
      ·rfl
      ·exact ih h
    grind
   ·exact h.elim
  ·grind[Sat.scope]
  ·unfold vcRF at h;split at h
   ·rename_i _ r S outs hs';obtain⟨h1,h2,h3⟩:=h;exact Sat.gc (Qfp h1) (h2.mono fun e st' ho=>⟨(Qkg ho).trans hgl,hs',Qdc h3 ho⟩)
   ·rename_i _ sl e sl' Q rest _;obtain⟨h1,h2,h3⟩:=h;refine Sat.fewer h1 (h2.mono fun e' st' ho=>?_)
    obtain⟨g,H,nx,lg,rfl,rfl,hQ⟩:=ho;exact⟨hgl,_,h3 g H nx lg hQ⟩
   ·rename_i _ sl outs hs';obtain⟨h1,h2,h3⟩:=h;exact Sat.fewer h1 (h2.mono fun e st' ho=>⟨(Qkg ho).trans hgl,hs',Qdc h3 ho⟩)
   ·exact h.elim
  all_goals grind[Sat.exit,Sat.ret]
theorem Sat.of_vc(hE:E.Ok P)(hm:P.follows .mixedOrders=true){gl:T (List V)}(hsp:Qbg P gl sp){n:Nat}{c:Code}{hs:Hs}{st:St}{K:KF}{R:Ex→St→Prop}(hgl:st.tm.gl=gl)(h:vc P E sp rd nx0 n c hs st K)(hK: ∀e hs st',st'.tm.gl=gl→K e hs st'→R e st'):Sat P rd nx0 c st R:=
 (vc_ok hE hm hsp n c hs st K hgl h).mono fun e st'⟨hg,hs',hk⟩=>hK e hs' st' hg hk
def exEq:Ex→Ex→Bool
 | .exit i,.exit j=>Nat.beq i j
 | .ret,.ret=>true
 | _,_=>false
noncomputable def Qfh(nx0:Nat)(n:Nat)(r:List Nat)(S:SL):KF:=fun e _ st=>match e with
 | .normal=>bif Nat.beq st.tm.n n then gcP nx0 r st S else False
 | _=>False
noncomputable def kOut(nx0:Nat)(n:Nat)(e':Ex)(r:List Nat)(S:SL):KF:=fun e _ st=>match e' with
 | .pan v'=>match e with
  | .pan v=>bif Nat.beq st.tm.n n then v=v'∧gcP nx0 r st S else False
  | _=>False
 | _=>bif exEq e e'&&Nat.beq st.tm.n n then gcP nx0 r st S else False
theorem Qt8{nx0 n:Nat}{e' e:Ex}{r:List Nat}{S:SL}{hs:Hs}{st:St}(h:kOut nx0 n e' r S e hs st):e=e'∧e≠ .normal∧st.tm.n=n∧gcP nx0 r st S:=by
 unfold kOut at h;split at h
 ·grind[Nat.eq_of_beq_eq_true]
 ·obtain ⟨hb, hk⟩ := Qai h;rw[Bool.and_eq_true]at hb;have he:=hb.1;unfold exEq at he;grind[Nat.eq_of_beq_eq_true]
theorem loopI(hE:E.Ok P)(hm:P.follows .mixedOrders=true){gl:T (List V)}(hsp:Qbg P gl sp){b:Code}{k:Nat}{α:Type}(I:α→Prop)(S:α→SL)(m:α→Nat){R:Ex→St→Prop}
  (h: ∀x,I x→(∃y r hs n,I y∧m y<m x∧vc P E sp rd nx0 n b hs (mkSt gl k (S x)) (Qfh nx0 k r (S y)))∨(∃e r So hs n,R e (mkSt gl k So)∧vc P E sp rd nx0 n b hs (mkSt gl k (S x)) (kOut nx0 k e r So)))(x:α)(hx:I x):Sat P rd nx0 (.loop b) (mkSt gl k (S x)) R:=by
 refine Sat.loop (α:={x//I x}) (fun x=>mkSt gl k (S x.1)) (fun x=>m x.1) (fun⟨x,hx⟩=>?_) ⟨x,hx⟩
 refine Sat.gc_post ?_;rcases h x hx with⟨y,r,hs,n,hy,hlt,hv⟩|⟨e',r,So,hs,n,hR,hv⟩
 ·refine Sat.of_vc hE hm hsp rfl hv fun e hs' st' hg hk => ?_
  unfold Qfh at hk;split at hk
  ·obtain ⟨hb, hk⟩ := Qai hk;have:=Nat.eq_of_beq_eq_true hb;refine⟨r,_,Qfp hk,.inl ⟨rfl,⟨y,hy⟩,hlt,?_⟩⟩;rw[hg,this]
  ·exact hk.elim
 ·refine Sat.of_vc hE hm hsp rfl hv fun e hs' st' hg hk => ?_
  obtain⟨rfl,hne,this,hk⟩:=Qt8 hk;refine⟨r,_,Qfp hk,.inr ?_⟩;simp_all
theorem Qa6(hE:E.Ok P)(hm:P.follows .mixedOrders=true){gl:T (List V)}(hsp:Qbg P gl sp){c b:Code}(hc:c= .loop b){k:Nat}{α:Type}(I:α→Prop)(S:α→SL)(m:α→Nat){R:Ex→St→Prop}
  (h: ∀x,I x→(∃y r hs n,I y∧m y<m x∧vc P E sp rd nx0 n b hs (mkSt gl k (S x)) (Qfh nx0 k r (S y)))∨(∃e r So hs n,R e (mkSt gl k So)∧vc P E sp rd nx0 n b hs (mkSt gl k (S x)) (kOut nx0 k e r So)))(x:α)(hx:I x):Sat P rd nx0 c (mkSt gl k (S x)) R:=hc▸loopI hE hm hsp I S m h x hx
noncomputable def kEnd(nx0 n:Nat)(G:Ex→SL→Prop):KF:=fun e hs st=>match hs with
 |(_,.to r S):: _=>bif Nat.beq st.tm.n n then G e S∧gcP nx0 r st S else False
 | _=>False
def loopG{α:Type}(I:α→Prop)(S:α→SL)(m:α→Nat)(k:Nat)(out:Ex→SL→Prop):Ex→SL→Prop:=fun e S'=>match e with
 | .normal=>∃y,I y∧m y<k∧S'=S y
 | .exit i=>out (.exit i) S'
 | .ret=>out .ret S'
 | .pan v=>out (.pan v) S'
theorem loopH(hE:E.Ok P)(hm:P.follows .mixedOrders=true){gl:T (List V)}(hsp:Qbg P gl sp){c b:Code}(hc:c= .loop b){k:Nat}{α:Type}(I:α→Prop)(S:α→SL)(m:α→Nat)(out:Ex→SL→Prop)
  (h: ∀x,I x→∃hs n,vc P E sp rd nx0 n b hs (mkSt gl k (S x)) (kEnd nx0 k (loopG I S m (m x) out)))(x:α)(hx:I x):Sat P rd nx0 c (mkSt gl k (S x)) (fun e st=>∃S',st=mkSt gl k S'∧out e S'):=by
 subst hc;refine Sat.loop (α:={x//I x}) (fun x=>mkSt gl k (S x.1)) (fun x=>m x.1) (fun⟨x,hx⟩=>?_) ⟨x,hx⟩
 refine Sat.gc_post ?_;obtain⟨hs,n,hv⟩:=h x hx;refine Sat.of_vc hE hm hsp rfl hv fun e hs' st' hg hk=>?_
 unfold kEnd at hk;split at hk
 ·rename_i _ r S' _;obtain⟨hb,hG,hk⟩:=Qai hk;have hn:=Nat.eq_of_beq_eq_true hb;refine⟨r,_,Qfp hk,?_⟩;rw[hg,hn];unfold loopG at hG;cases e with
  |normal=>
   obtain⟨y,hy,hlt,rfl⟩:=hG;exact .inl ⟨rfl,⟨y,hy⟩,hlt,rfl⟩
  |exit i=>grind
  |ret=>grind
  |pan v=>grind
 ·exact hk.elim
noncomputable def kEndO(n:Nat)(G:Ex→List (Nat×V)→T O→Nat→List Nat→Prop):KF:=fun e hs st=>match hs with
 |(_,.toO sl):: _=>bif Nat.beq st.tm.n n then G e sl st.H st.nx st.lg∧slotsQ st.tm sl else False
 | _=>False
structure Mem where
 H:T O
 nx:Nat
 lg:List Nat
def loopGO{α:Type}(I:α→Mem→Prop)(S:α→List (Nat×V))(m:α→Nat)(k:Nat)(out:Ex→List (Nat×V)→Mem→Prop):Ex→List (Nat×V)→T O→Nat→List Nat→Prop:=fun e sl H nx lg=>match e with
 | .normal=>∃y,I y ⟨H,nx,lg⟩∧m y<k∧sl=S y
 | .exit i=>out (.exit i) sl ⟨H,nx,lg⟩
 | .ret=>out .ret sl ⟨H,nx,lg⟩
 | .pan v=>out (.pan v) sl ⟨H,nx,lg⟩
theorem loopO(hE:E.Ok P)(hm:P.follows .mixedOrders=true){gl:T (List V)}(hsp:Qbg P gl sp){c b:Code}(hc:c= .loop b){k:Nat}{α:Type}(I:α→Mem→Prop)(S:α→List (Nat×V))(m:α→Nat)(out:Ex→List (Nat×V)→Mem→Prop)
  (h: ∀x(H:T O)(nx:Nat)(lg:List Nat),I x ⟨H,nx,lg⟩→∃hs n,vc P E sp rd nx0 n b hs (mkSo gl k (S x) H nx lg) (kEndO k (loopGO I S m (m x) out)))(x:α)(M:Mem)(hx:I x M):Sat P rd nx0 c (mkSo gl k (S x) M.H M.nx M.lg) (fun e st=>∃sl M',st=mkSo gl k sl M'.H M'.nx M'.lg∧out e sl M'):=by
 subst hc;refine Sat.loop (α:={q:α×Mem//I q.1 q.2}) (fun q=>mkSo gl k (S q.1.1) q.1.2.H q.1.2.nx q.1.2.lg) (fun q=>m q.1.1) (fun⟨⟨x,⟨H,nx,lg⟩⟩,hx⟩=>?_) ⟨(x,M),hx⟩
 refine Sat.fewer_post ?_;obtain⟨hs,n,hv⟩:=h x H nx lg hx;refine Sat.of_vc hE hm hsp rfl hv fun e hs' st' hg hk=>?_
 unfold kEndO at hk;split at hk
 ·rename_i _ sl _;obtain⟨hb,hG,hk⟩:=Qai hk;have hn:=Nat.eq_of_beq_eq_true hb;refine⟨sl,hk,?_⟩;rw[hg,hn];unfold loopGO at hG;cases e with
  |normal=>
   obtain⟨y,hy,hlt,rfl⟩:=hG;exact .inl ⟨rfl,⟨(y,_),hy⟩,hlt,rfl⟩
  |exit i=>grind
  |ret=>grind
  |pan v=>grind
 ·exact hk.elim
theorem Qlu{s s':Sig}{w w':World}{H:T O}{v:V}{u:Value}{lg:List Nat}(hH:RH s w H.get)(g1:RV s' w' v u)(hhf:Hf v)(g3:Step s w s' w' lg)(how: ∀h∈lg,¬s.dom h)(hlt: ∀b,s'.fz b→b<w'.heap.size): ∃s'':Sig,RV s'' w' v u∧RH s'' w' H.get∧Step s w s'' w' []∧s''.dom=s.dom:=by
 have hno: ∀b,¬ ∃h∈lg,s.dom h∧b=s.μ h:=fun b⟨h,h1,h2,_⟩=>how h h1 h2
 obtain⟨r1,_⟩:=hH.below (w':=w') ⟨g3.mod.os,g3.mod.tape,g3.mod.output,g3.mod.size,fun k hk=>g3.mod.block k hk (hno k)⟩
 have hsz:=g3.mod.size;have hfzs: ∀b,s.fz b→s'.fz b:=g3.le.fz;refine⟨{s with fz:=s'.fz},Hf.rv (s:=s') (s':={s with fz:=s'.fz}) (fun _ h=>h) _ _ hhf g1,⟨fun i o ho hl=>?_,r1.inj,fun b hb=>?_⟩,⟨⟨⟨fun _ _=>rfl,fun _ _=>rfl,fun _ h=>h,hfzs⟩,fun _ h=>h⟩,fun b hb=>(g3.fz b hb).imp id (Or.imp id fun⟨h,h1,h2,_⟩=>absurd h2 (how h h1)),fun b hb=>?_,?_,fun i hi hno=>absurd hi hno⟩,rfl⟩
 ·obtain ⟨a1, a2, a3, a4⟩ := r1.obj i o ho hl;have a2':=(hH.obj i o ho hl).2.1;refine⟨a1,a2,?_,RO.mono' (s:=s) (s':={s with fz:=s'.fz}) ⟨fun _ _=>rfl,fun _ _=>rfl,fun _ h=>h,hfzs⟩ (fun _ _=>rfl) a1 a4 (fun _=>rfl)⟩
  rintro(hf|hm)
  ·rcases g3.fz _ hf with hf | hge | ⟨h, h1, h2, _⟩
   ·exact a3 (.inl hf)
   all_goals grind
  ·exact a3 (.inr hm)
 ·exact hb.elim (hlt b) (fun hm=>r1.old b (.inr hm))
 ·exact g3.kept b hb
 ·exact⟨g3.mod.os,g3.mod.tape,g3.mod.output,hsz,fun k hk _=>g3.mod.block k hk (hno k)⟩
def retP(v:V):Option V→Prop
 |some u=>u=v
 |none=>False
noncomputable def kFin(n:Nat)(r:List Nat)(S:SL):KF:=fun e _ st=>match e with
 | .exit _=>False
 | .pan _=>False
 | _=>bif Nat.beq st.tm.n n then gcP 0 r st S else False
noncomputable def vcFi(P:Program)(E:Env)(sp:Qc0)(gl:T (List V))(n:Nat)(ars:List V)(hs:Hs)(r:List Nat)(S:SL)(v:V):Option FI→Prop
 |some fi=>bif Nat.ble ars.length fi.ntmps&&hfB v then retP v (retV E.G (mkSt gl fi.ntmps S).tm (mkSt gl fi.ntmps S).H fi.res)∧vc P E sp none 0 n fi.body hs ⟨⟨Qhi (blank fi.ntmps) 0 ars,gl,fi.ntmps⟩,.e,0,[]⟩ (kFin fi.ntmps r S)else False
 |none=>False
noncomputable def vcFn(P:Program)(E:Env)(sp:Qc0)(gl:T (List V))(n f:Nat)(ars:List V)(hs:Hs)(r:List Nat)(S:SL)(v:V):Prop:=vcFi P E sp gl n ars hs r S v (E.code f)
theorem FnOk.of_vc(hE:E.Ok P)(hm:P.follows .mixedOrders=true){gl:T (List V)}(hsp:Qbg P gl sp){n f:Nat}{ars:List V}{hs:Hs}{r:List Nat}{S:SL}{v:V}(h:vcFn P E sp gl n f ars hs r S v):FnOk P gl f ars v:=by
 unfold vcFn vcFi at h;split at h
 ·rename_i fi hfi;obtain⟨hb,hret,hv⟩:=Qai h;rw[Bool.and_eq_true]at hb;have hret':retV E.G (mkSt gl fi.ntmps S).tm (mkSt gl fi.ntmps S).H fi.res=some v:=by
   unfold retP at hret;split at hret
   ·simp_all
   ·exact hret.elim
  rw[Qfm]at hv;refine CallSpec.fnC hE hfi (by simp_all) (Log.refl _ _ _) (R:=fun e st=>(e= .normal∨e= .ret)∧st=mkSt gl fi.ntmps S) ?_ ?_
  ·rw [List.append_nil];refine Sat.gc_post (Sat.of_vc hE hm hsp rfl hv fun e hs' st' hg hk=>?_)
   unfold kFin at hk;have fin:(bif Nat.beq st'.tm.n fi.ntmps then gcP 0 r st' S else False)→∃r st2,Gc 0 r st' st2∧st2=mkSt gl fi.ntmps S:=by
    intro hk;obtain⟨hb,hk⟩:=Qai hk;exact⟨r,_,Qfp hk,by simp_all⟩
   cases e with
   |exit=>exact hk.elim
   |pan=>exact hk.elim
   |normal=>simp_all
   |ret=>simp_all
  ·rintro e st ⟨he, rfl⟩
   refine⟨he,v,hret',fun s w ee w' hH hn⟨u,s',h1,g1,g2,g3,_,_⟩=>?_⟩
   subst h1;obtain⟨s'',q1,q2,q3,q4⟩:=Qlu hH g1 (Qmb.1 v hb.2) g3 (fun h _=>hn h (Nat.zero_le _)) (fun b hb=>g2.old b (.inl hb))
   exact⟨u,s'',rfl,q1,q2,q3,fun i=>by simp_all,Nat.le_refl _⟩
 ·exact h.elim
end
section
variable {P:Program} {rd:Option Nat} {nx0:Nat} {st:St} {R:Ex→St→Prop}
theorem Sat.rangeFunc'{g:Operand}{ps:Array Tmp}{asg body:Code}{f:Nat}{caps:List V}{r:CR}(hg:ev st.tm g=some (.fn f caps))(hlb:rdOk rd st.H=true)
  (hc:CallSpec P st.tm.gl (.fn f caps) [.yld st.nx] (st.H.put st.nx (.loop .ready none 0 st.tm ps.toList asg body)) (st.nx+1) r)
  (hR : (∃ f0 tm0 ps0 as0 bd0, r.H.get st.nx = some (.loop .ready none f0 tm0 ps0 as0 bd0) ∧ R .normal ⟨st.tm, r.H.put st.nx .dead, r.nx, r.lg ++ st.lg⟩) ∨
   (∃cc f0 tm0 ps0 as0 bd0,r.H.get st.nx=some (.loop .done (some cc) f0 tm0 ps0 as0 bd0)∧Sat P rd nx0 cc ⟨st.tm,r.H.put st.nx .dead,r.nx,r.lg++st.lg⟩ R)):
  Sat P rd nx0 (.rangeFunc g ps asg body) st R:=by
 intro B s0 w0 s w a hn hB hrd A Q hQ;have hr:=A.rel;have hrd2: ∀h,rd=some h→s.dom h:=fun h e=>A.step.le.dom h (hrd h e)
 have hmu:rd.map s0.μ=rd.map s.μ:=by
  cases rd with
  |none=>rfl
  |some h0=>simp[A.step.le.μ h0 (hrd h0 rfl)]
 have hB2:B.n≤w.heap.size:=Nat.le_trans hB A.step.mod.size;rw[hmu];refine wpIn_rangeFunc ?_;intro fn _;have hround:(FF (rd.map s.μ)).round=rd.map s.μ:=by cases rd<;>rfl
 rw[hround];obtain⟨L,mark,w1,s1,e1,e2,e3,e4,e5,Ds,e6,e7,e8⟩:=Qff (P:=P) (asg:=asg) (body:=body) (ps:=ps) hr hB2 hrd2 hlb fn 0 (fun _ e=>by cases e)
 obtain⟨vs,hgv,hcaps⟩:=ev_rv hr.rt hg;have hfv:RV s1 w1 (.fn f caps) (.func (.func f) #[] vs):=RV.mono e4.le e4.k _ _ ⟨vs,rfl,hcaps⟩;have hyv:RL s1 w1 [V.yld st.nx] (#[Value.func (.yield L) #[] #[]]:Array Value).toList:=⟨_,_,rfl,⟨(e5 _).2 (.inr rfl),by rw[e3]⟩,rfl⟩
 have hn1: ∀i,st.nx+1≤i→¬s1.dom i:=fun i hi hd=>by
  rcases(e5 i).1 hd with hd|hd
  ·exact hr.nx i (by omega) hd
  ·omega
 obtain⟨next,n1,n2,n3⟩:=hc.1 s1 w1 _ _ hfv hyv e2 (hr.rt.mono e4.le e4.k).2.2 hn1
 obtain⟨f',ars',rfl⟩:=n3 ⟨f,caps,rfl⟩;have hinv:(invoke (.fn (.func f) vs) (#[]++ #[Value.func (.yield L) #[] #[]])).run P w1= .ok (.enter f' ars') w1:=by
  simpa [Deferred.ofValue]using n1
 refine⟨L,mark,w1,{target:=.fn (.func f) vs,args:= #[]++ #[Value.func (.yield L) #[] #[]]},w1,f',ars',w1,e1,?_,fun f' _=>Qd1 _ f',hinv,fun h=>(by rw[Qfw]at h;cases h),?_⟩
 ·show (Deferred.ofValue (a.eval g) _).run P w1 = _;rw[hgv];simp[Deferred.ofValue,Act.eval]
 ·refine (Qcn (rd.map s.μ) n2).mono ?_
  rintro ee w3 ⟨v,s3,rfl,c1,c2,c3,c4,c5⟩
  have hdnx:s3.dom st.nx:=c3.le.dom _ ((e5 _).2 (.inr rfl));have hμ:s3.μ st.nx=L:=by rw[c3.le.μ _ ((e5 _).2 (.inr rfl)),e3]
  have hst3:Step s w s3 w3 r.lg:=(e4.trans c3).more (by simp)
  have hdom3: ∀i,s3.dom i↔s.dom i∨st.nx≤i∧i<r.nx:=fun i=>by
   rw[c4,e5];constructor
   ·rintro ((h | h) | h)
    ·exact .inl h
    ·exact .inr ⟨by omega,by omega⟩
    ·exact .inr ⟨by omega,h.2⟩
   ·rintro (h | h)
    ·exact .inl (.inl h)
    ·by_cases h' : i = st.nx
     ·exact .inl (.inr h')
     ·exact .inr ⟨by omega,h.2⟩
  have after: ∀(ls:LoopState)(pd:Option Code) f0 tm0 ps0 as0 bd0,r.H.get st.nx=some (.loop ls pd f0 tm0 ps0 as0 bd0)→ls≠ .busy→
    ∃w4,(Instr.endLoop L).run P w3= .ok pd w4∧Went B s w st ⟨st.tm,r.H.put st.nx .dead,r.nx,r.lg++st.lg⟩ a r.lg s3 w4 {a with defers:=mark++a.defers}:=by
   intro ls pd f0 tm0 ps0 as0 bd0 ho hls;obtain⟨r0,q1,q2,q3,_,_,_,_,_,q9⟩:=Qa7 c2 ho;rw[hμ]at q1 q9;obtain⟨z1,z2⟩:=q9 .exhausted pd .dead (.inr rfl);have hreq:({r0 with state:=.exhausted,pending:=pd}:Loop)={r0 with state:=.exhausted}:=by rw[←q3]
   rw[hreq]at z1 z2;refine⟨_,by rw[←q3];exact run_endLoop q1 (by rw[q2];exact hls),⟨z1,hr.rt.mono (hst3.trans z2).le (hst3.trans z2).k,fun i hi=>?_,Ds,e6,e7,fun D hD=>?_⟩,?_,hdom3,Nat.le_trans (Nat.le_succ _) c5,rfl⟩
   ·intro hd;rcases(hdom3 i).1 hd with hd|hd
    ·exact hr.nx i (by dsimp only at hi;omega) hd
    ·dsimp only at hi;omega
   ·exact((e8 D hD).step c3).step z2
   ·refine (hst3.trans z2).drop (fun x hx => ?_)
    rcases List.mem_append.1 hx with hx|hx
    ·exact .inl hx
    ·simp only [List.mem_singleton] at hx;exact .inr (by rw[hx];exact hr.nx st.nx (Nat.le_refl _))
  rcases hR with⟨f0,tm0,ps0,as0,bd0,ho,hR⟩|⟨cc,f0,tm0,ps0,as0,bd0,ho,hR⟩
  ·obtain ⟨w4, v1, v2⟩ := after _ _ _ _ _ _ _ ho (by decide)
   exact⟨none,w4,v1,hQ .normal _ hR _ _ _ (A.went v2)⟩
  ·obtain ⟨w4, v1, v2⟩ := after _ _ _ _ _ _ _ ho (by decide)
   refine⟨some cc,w4,v1,?_⟩;have:=hR B s0 w0 _ w4 _ hn hB hrd (A.went v2) Q hQ;rw[hmu]at this;exact this
def Ex.np:Ex→Bool
 | .pan _=>false
 | _=>true
theorem CallSpec.yld{gl:T (List V)}{hd:Nat}{ars:List V}{H:T O}{nx:Nat}{r:CR}{pd0:Option Code}{fn0:Nat}{tm tm1:TM}{ps:List Nat}{assign body:Code}(ho:H.get hd=some (.loop .ready pd0 fn0 tm ps assign body))(htm1:putPs tm ps ars=some tm1)(hlog:Log H.get nx r.H.get r.nx r.lg)
  (h : Sat P (some hd) nx assign ⟨tm1, H, nx, []⟩ (fun e st1 => e = .normal ∧ ∃ pd fn1 tmx ps1 as1 bd1, st1.H.get hd = some (.loop .ready pd fn1 tmx ps1 as1 bd1) ∧
   Sat P (some hd) nx body ⟨st1.tm,st1.H.put hd (.loop .busy pd fn1 tmx ps1 as1 bd1),st1.nx,hd::st1.lg⟩ (fun e st2=>e.np=true∧∃ls2 pd2 fn2 tm2 ps2 as2 bd2,st2.H.get hd=some (.loop ls2 pd2 fn2 tm2 ps2 as2 bd2)∧
    r.v= .bool e.pend.isNone∧r.H=st2.H.put hd (.loop (bif e.pend.isNone then .ready else .done) e.pend fn2 tm2 ps2 as2 bd2)∧r.nx=st2.nx∧∀x,x∈hd::st2.lg→x∈r.lg))):CallSpec P gl (.yld hd) ars H nx r:=by
 refine⟨fun s w fv vals hc hargs hH hgl hn=>?_,hlog⟩
 obtain⟨hdm,rfl⟩:=hc;obtain⟨r0,q1,q2,q3,q4,q5,q6,q7,_,_⟩:=Qa7 hH ho;obtain⟨p1,p2⟩:=Qf3 (a:={tmps:=r0.tmps,defers:=[]}) q7 hargs htm1;have hps:vals.size=r0.params.size:=by rw[q4];simp at p1⊢;omega
 have hy:=run_yield (P:=P) (args:=vals) q1 hps;obtain⟨X,hX'⟩: ∃X,(r0.params.zip vals).foldl (fun tmps(t,a)=>tmps.setIfInBounds t a) r0.tmps=X:=⟨_,rfl⟩
 rw[hX']at hy;have hfold:X=(ps.zip vals.toList).foldl (fun tmps(x:Nat×Value)=>tmps.setIfInBounds x.1 x.2) r0.tmps:=by
  rw[←hX',q4,←Array.foldl_toList,Array.toList_zip]
 refine⟨.round (s.μ hd) r0.fn X r0.assign r0.body,by simp[Deferred.ofValue,invoke,hy],?_,fun⟨f,c,e⟩=>by cases e⟩
 refine roundIn_of_wpIn (F:=Fence.wide) (n:=3) trivial ?_;rw[q5,q6];have hrel:Rel (bs w.heap.size) s w ⟨tm1,H,nx,[]⟩ {tmps:=X,defers:=[]}:=
  ⟨hH,by dsimp only;rw[hfold];exact p2,hn,[],rfl,List.nodup_nil,fun D hD=>by simp at hD⟩
 have hrdd: ∀h,some hd=some h→s.dom h:=fun h e=>by cases e;exact hdm
 refine Qbr (l:=some (s.μ hd)) (h (bs w.heap.size) s w s w _ hn (Nat.le_refl _) hrdd ⟨hrel,Step.refl s w [],dom_same s _,Nat.le_refl _⟩ _ ?_)
 rintro e st1 ⟨rfl,pd,fn1,tmx,ps1,as1,bd1,ho1,hbody⟩ s1 w1 a1 A1
 obtain⟨r1,t1,t2,t3,t4,t5,t6,t7,t8,t9⟩:=Qa7 A1.rel.rh ho1;have hμ:s1.μ hd=s.μ hd:=A1.step.le.μ hd hdm;rw[hμ]at t1 t9;obtain⟨u1,u2⟩:=t9 .busy pd _ (.inl rfl);refine⟨_,run_beginRound t1 t2,?_⟩;have hreq:{r1 with state:=.busy,pending:=pd}={r1 with state:=.busy}:=by rw[←t3]
 rw[hreq]at u1 u2;have hrel1:Rel (bs w.heap.size) s1 _ ⟨st1.tm,st1.H.put hd (.loop .busy pd fn1 tmx ps1 as1 bd1),st1.nx,hd::st1.lg⟩ a1:=A1.rel.world u2 u1;have A1':Ats (bs w.heap.size) s w nx ⟨st1.tm,st1.H.put hd (.loop .busy pd fn1 tmx ps1 as1 bd1),st1.nx,hd::st1.lg⟩ s1 _ a1:=
  ⟨hrel1, (A1.step.trans u2).more (fun x hx => by
   rcases List.mem_append.1 hx with hx|hx
   ·exact List.mem_cons_of_mem _ hx
   ·simp only[List.mem_singleton]at hx;exact hx▸List.mem_cons_self),A1.dom,A1.le⟩
 have hwp:=hbody (bs w.heap.size) s w s1 _ a1 hn (Nat.le_refl _) hrdd A1' (roundPost P (s.μ hd) (Qa8 s w nx r)) (by
  rintro e st2 ⟨hnp,ls2,pd2,fn2,tm2,ps2,as2,bd2,ho2,hv,hHr,hnxr,hlgr⟩ s2 w2 a2 A2
  obtain⟨r2,t1',t2',t3',_,_,_,_,t8',t9'⟩:=Qa7 A2.rel.rh ho2;have hμ2:s2.μ hd=s.μ hd:=A2.step.le.μ hd hdm;rw[hμ2]at t1' t9';have fin: ∃v w',(Instr.endRound (s.μ hd) e.pend).run P w2= .ok v w'∧Qa8 s w nx r (.returned v) w':=by
   obtain⟨v1,v2⟩:=t9' (if e.pend.isNone then .ready else .done) e.pend _ (.inl rfl)
   refine⟨_,_,run_endRound e.pend t1',_,s2,rfl,by rw[hv];rfl,?_,?_,fun i=>?_,?_⟩
   ·have : (bif e.pend.isNone then LoopState.ready else LoopState.done) = if e.pend.isNone then .ready else .done := by cases e.pend.isNone <;> rfl
    rw[hHr,this];exact v1
   ·refine (A2.step.trans v2).more (fun x hx => hlgr x ?_)
    rcases List.mem_append.1 hx with hx|hx
    ·exact List.mem_cons_of_mem _ hx
    ·simp only[List.mem_singleton]at hx;exact hx▸List.mem_cons_self
   ·rw[hnxr];exact A2.dom i
   ·rw[hnxr];exact A2.le
  cases e<;>first|exact fin|cases hnp)
 exact Qbr (l:=some (s.μ hd)) hwp
end
section
variable {P:Program}
theorem CallSpec.frameR{gl:T (List V)}{f:Nat}{ars ars':List V}{Hs H H':T O}{k nx nx':Nat}{r:CR}{v':V}{lg':List Nat}{ρ σ:Nat→Option Nat}
  (h:CallSpec P gl (.fn f []) ars Hs k r)
  (hρk: ∀i g,ρ i=some g→i<k)
  (hρi: ∀i j g,ρ i=some g→ρ j=some g→i=j)
  (hars:ViewL H.get (fun _=>False) ρ ars ars')
  (hobj: ∀i o,Hs.get i=some o→o.live=true→∃g y,ρ i=some g∧H.get g=some y∧ViewO H.get (fun _=>False) ρ o y)
  (hσ: ∀g i,σ g=some i→(i<k∧ρ i=some g)∨(nx≤g∧g<nx'∧k≤i∧i<r.nx))
  (hσi: ∀g g' i,σ g=some i→σ g'=some i→g=g')
  (hσn: ∀g,nx≤g→g<nx'→∃i,σ g=some i∧k≤i∧i<r.nx)
  (hnx:nx≤nx')
  (hv:View r.H.get (fun _=>False) σ v' r.v)
  (hH': ∀g y,H'.get g=some y→y.live=true→(∃i o,σ g=some i∧r.H.get i=some o∧ViewO r.H.get (fun _=>False) σ y o)∨((∀i,ρ i≠some g)∧g<nx∧H.get g=some y))
  (hlive: ∀i,i<k→(i∈r.lg∨∃o,r.H.get i=some o∧o.live=true)→∃o,Hs.get i=some o∧o.live=true)
  (hlgk: ∀i∈r.lg,∀g,ρ i=some g→g∈lg')
  (hlog:Log H.get nx H'.get nx' lg'):CallSpec P gl (.fn f []) ars' H nx ⟨v',H',nx',lg'⟩:=by
 refine⟨fun s w fv vals hc hargs hH hgl hn=>?_,hlog⟩
 have hlow: ∀g,s.dom g→g<nx:=fun g hd=>Nat.lt_of_not_le fun hle=>hn g hle hd
 let ss:Sig:={μ:=fun i=>match ρ i with|some g=>s.μ g|none=>0,cp:=fun i=>match ρ i with|some g=>s.cp g|none=>0,dom:=fun i=>∃g,ρ i=some g∧s.dom g,fz:=s.fz,mark:=s.mark}
 have eμ: ∀i g,ρ i=some g→ss.μ i=s.μ g:=fun i g e=>by show(match ρ i with|some g=>s.μ g|none=>0)=_;rw[e]
 have ecp: ∀i g,ρ i=some g→ss.cp i=s.cp g:=fun i g e=>by show(match ρ i with|some g=>s.cp g|none=>0)=_;rw[e]
 have T1:Turned H.get (fun _=>False) ρ s ss:=⟨fun i g e hd=>⟨⟨g,e,hd⟩,eμ i g e,ecp i g e⟩,fun _ _ _ _ hF=>hF.elim,fun _ hb=>hb⟩
 have hRH:RH ss w Hs.get:=by
  refine⟨fun i o ho hl=>?_,fun i j o o' ho ho' hl hl' e=>?_,hH.old⟩
  ·obtain ⟨g, y, e, hy, hvo⟩ := hobj i o ho hl;obtain⟨a1,a2,a3,a4⟩:=hH.obj g y hy (hvo.live hl);exact⟨⟨g,e,a1⟩,by rw[eμ i g e];exact a2,by rw[eμ i g e];exact a3,hvo.ro hH T1 e a1 a4⟩
  ·obtain ⟨g, y, e1, hy, hvo⟩ := hobj i o ho hl;obtain⟨g',y',e2,hy',hvo'⟩:=hobj j o' ho' hl';rw[eμ i g e1,eμ j g' e2]at e;have:=hH.inj g g' y y' hy hy' (hvo.live hl) (hvo'.live hl') e;subst this;exact hρi i j g e1 e2
 obtain⟨vs,rfl,hcaps⟩:=hc;have hvs:vs= #[]:=by
  have:vs.toList=[]:=hcaps
  simpa using this
 obtain⟨next,e1,e2,e3⟩:=h.1 ss w (.func (.func f) #[] vs) vals ⟨vs,rfl,by rw[hvs];rfl⟩ (ViewL.rl hH T1 _ _ _ hars hargs) hRH (fun g l hg=>RC.mono' (s:=s) (s':=ss) (w:=w) (w':=w) (fun _ hb=>hb) (fun _ _=>rfl) l g 0 (hgl g l hg)) (fun i hi⟨g,e,_⟩=>absurd (hρk i g e) (by omega))
 refine⟨next,e1,?_,e3⟩
 obtain⟨f',ars2,rfl⟩:=e3 ⟨f,[],rfl⟩;refine CallsIn.mono e2 ?_
 rintro e w' ⟨u,s',rfl,g1,g2,g3,g4,g5⟩
 have hsz:=g3.mod.size
 let s2:Sig:={μ:=fun g=>if g<nx then s.μ g else match σ g with|some i=>s'.μ i|none=>0,cp:=fun g=>if g<nx then s.cp g else match σ g with|some i=>s'.cp i|none=>0,dom:=fun g=>s.dom g∨nx≤g∧g<nx',fz:=s'.fz,mark:=s.mark}
 have lμ: ∀g,g<nx→s2.μ g=s.μ g:=fun g hg=>if_pos hg
 have lcp: ∀g,g<nx→s2.cp g=s.cp g:=fun g hg=>if_pos hg
 have nμ: ∀g i,¬g<nx→σ g=some i→s2.μ g=s'.μ i:=fun g i hg e=>by show(if g<nx then s.μ g else match σ g with|some i=>s'.μ i|none=>0)=_;rw[if_neg hg,e]
 have ncp: ∀g i,¬g<nx→σ g=some i→s2.cp g=s'.cp i:=fun g i hg e=>by show(if g<nx then s.cp g else match σ g with|some i=>s'.cp i|none=>0)=_;rw[if_neg hg,e]
 -- old handles
 have hold: ∀i g,i<k→ρ i=some g→s'.dom i→s.dom g∧s'.μ i=s.μ g∧s'.cp i=s.cp g:=fun i g hi e hd=>by
  rcases(g4 i).1 hd with⟨g',e',hd'⟩|⟨hge,_⟩
  ·rw [e] at e'; cases e';have hds:ss.dom i:=⟨g,e,hd'⟩;exact⟨hd',by rw[g3.le.μ i hds,eμ i g e],by rw[g3.le.cp i hds,ecp i g e]⟩
  ·omega
 have T2:Turned r.H.get (fun _=>False) σ s' s2:=by
  refine⟨fun g i e hd=>?_,fun _ _ _ _ hF=>hF.elim,fun _ hb=>hb⟩
  rcases hσ g i e with⟨hi,er⟩|⟨hg1,hg2,hi1,hi2⟩
  ·obtain ⟨a, b, c⟩ := hold i g hi er hd;exact⟨.inl a,by rw[lμ g (hlow g a),b],by rw[lcp g (hlow g a),c]⟩
  ·exact⟨.inr ⟨hg1,hg2⟩,nμ g i (by omega) e,ncp g i (by omega) e⟩
 -- what the log of the small memory names is live in the greater one
 have hlogged: ∀i g,i∈r.lg→ρ i=some g→∃y,H.get g=some y∧y.live=true:=fun i g hi e=>by
  obtain⟨o,ho,hl⟩:=hlive i (hρk i g e) (.inl hi);obtain⟨g',y,e',hy,hvo⟩:=hobj i o ho hl;rw[e]at e';cases e';exact⟨y,hy,hvo.live hl⟩
 have huntouched: ∀g y,H.get g=some y→y.live=true→(∀i,ρ i≠some g)→∀i,i∈r.lg→ss.dom i→s.μ g≠ss.μ i:=fun g y hy hl hno i hi⟨g',e',hd'⟩ em=>by
  obtain⟨y',hy',hl'⟩:=hlogged i g' hi e';rw[eμ i g' e']at em;have:=hH.inj g g' y y' hy hy' hl hl' em;subst this;exact hno i e'
 refine⟨u,s2,rfl,View.rv g2 T2 _ _ _ hv g1,⟨fun g y hy hl=>?_,fun g g' y y' hy hy' hl hl' em=>?_,fun b hb=>?_⟩,⟨⟨⟨fun g hd=>lμ g (hlow g hd),fun g hd=>lcp g (hlow g hd),fun g hd=>.inl hd,fun b hb=>g3.le.fz b hb⟩,fun _ hm=>hm⟩,fun b hb=>?_,fun b hb=>g3.kept b hb,g3.mod.mono ?_,fun g hd hno=>?_⟩,fun i=>Iff.rfl,hnx⟩
 ·-- each object
  rcases hH' g y hy hl with⟨i,o,e,ho,hvo⟩|⟨hno,hg,hy0⟩
  ·obtain ⟨a1, a2, a3, a4⟩ := g2.obj i o ho (hvo.live hl);obtain⟨b1,b2,b3⟩:=T2.ren g i e a1;refine⟨b1,by rw[b2];exact a2,?_,hvo.ro g2 T2 e a1 a4⟩
   rw[b2]
   rintro(hf|hm)
   ·exact a3 (.inl hf)
   ·exact a3 (.inr (g3.le.mark _ hm))
  ·obtain ⟨a1, a2, a3, a4⟩ := hH.obj g y hy0 hl;have hblk:w'.heap[s.μ g]? =w.heap[s.μ g]? :=g3.mod.block _ a2 (fun⟨i,hi,hd,em⟩=>huntouched g y hy0 hl hno i hi hd em)
   have hkept:Kept s w w':=fun b hb=>g3.kept b (.inl hb)
   refine⟨.inl a1,by rw[lμ g hg];omega,?_,RO.mono' (s:=s) (s':=s2) ⟨fun g hd=>lμ g (hlow g hd),fun g hd=>lcp g (hlow g hd),fun g hd=>.inl hd,fun b hb=>g3.le.fz b hb⟩ hkept a1 a4 (fun _=>hblk)⟩
   rw[lμ g hg]
   rintro(hf|hm)
   ·rcases g3.fz _ hf with hf | hge | ⟨i, hi, hd, em, _⟩
    ·exact a3 (.inl hf)
    ·omega
    ·exact huntouched g y hy0 hl hno i hi hd em
   ·exact a3 (.inr hm)
 ·-- no two in one block
  have mixed: ∀g i o g' y',σ g=some i→r.H.get i=some o→o.live=true→(∀i,ρ i≠some g')→g'<nx→H.get g'=some y'→y'.live=true→s2.μ g=s2.μ g'→False:=by
   intro g i o g' y' e ho hlo hno hg' hy0 hly em;obtain⟨a1,a2,a3,a4⟩:=g2.obj i o ho hlo;obtain⟨b1,b2,b3⟩:=T2.ren g i e a1;rw[b2,lμ g' hg']at em;obtain⟨c1,c2,c3,c4⟩:=hH.obj g' y' hy0 hly;rcases hσ g i e with⟨hi,er⟩|⟨hg1,hg2,hi1,hi2⟩
   ·obtain ⟨d1, d2, _⟩ := hold i g hi er a1;obtain⟨o0,ho0,hl0⟩:=hlive i hi (.inr ⟨o,ho,hlo⟩);obtain⟨g2',y2,e2',hy2,hvo2⟩:=hobj i o0 ho0 hl0;rw[er]at e2';cases e2';rw[d2]at em;have:=hH.inj g g' y2 y' hy2 hy0 (hvo2.live hl0) hly em;subst this;exact hno i er
   ·have hnd : ¬ ss.dom i := fun ⟨g0, e0, _⟩ => absurd (hρk i g0 e0) (by omega)
    rcases g3.new i a1 hnd with hge|⟨j,hj,hdj,emj⟩
    ·omega
    ·exact huntouched g' y' hy0 hly hno j hj hdj (em.symm.trans emj)
  rcases hH' g y hy hl with⟨i,o,e,ho,hvo⟩|⟨hno,hg,hy0⟩<;>rcases hH' g' y' hy' hl' with⟨i',o',e',ho',hvo'⟩|⟨hno',hg',hy0'⟩
  ·obtain ⟨a1, _⟩ := g2.obj i o ho (hvo.live hl);obtain⟨a1',_⟩:=g2.obj i' o' ho' (hvo'.live hl');obtain⟨_,b2,_⟩:=T2.ren g i e a1;obtain⟨_,b2',_⟩:=T2.ren g' i' e' a1';rw[b2,b2']at em;have:=g2.inj i i' o o' ho ho' (hvo.live hl) (hvo'.live hl') em;subst this;exact hσi g g' i e e'
  ·exact(mixed g i o g' y' e ho (hvo.live hl) hno' hg' hy0' hl' em).elim
  ·exact(mixed g' i' o' g y e' ho' (hvo'.live hl') hno hg hy0 hl em.symm).elim
  ·rw [lμ g hg, lμ g' hg'] at em;exact hH.inj g g' y y' hy0 hy0' hl hl' em
 ·rcases hb with hb | hm
  ·exact g2.old b (.inl hb)
  ·have:=hH.old b (.inr hm);omega
 ·rcases g3.fz b hb with hf | hge | ⟨i, hi, ⟨g, e, hd⟩, em, hm⟩
  ·exact .inl hf
  ·exact .inr (.inl hge)
  ·exact .inr (.inr ⟨g,hlgk i hi g e,hd,by rw[em,eμ i g e],hm⟩)
 ·rintro b ⟨i, hi, ⟨g, e, hd⟩, em⟩
  exact⟨g,hlgk i hi g e,hd,by rw[em,eμ i g e]⟩
 ·rcases hd with hd | ⟨hg1, hg2⟩
  ·exact absurd hd hno
  ·obtain ⟨i, e, hi1, hi2⟩ := hσn g hg1 hg2;have hdi:s'.dom i:=(g4 i).2 (.inr ⟨hi1,hi2⟩);have hnd: ¬ss.dom i:=fun⟨g0,e0,_⟩=>absurd (hρk i g0 e0) (by omega)
   rw[nμ g i (by omega) e]
   rcases g3.new i hdi hnd with hge|⟨j,hj,⟨g0,e0,hd0⟩,em⟩
   ·exact .inl hge
   ·exact .inr ⟨g0,hlgk j hj g0 e0,hd0,by rw[em,eμ j g0 e0]⟩
end
mutual
def vm(b:Nat→Nat→Bool):V→V→Prop
 | .bool x,.bool y=>x=y
 | .int k x,.int k' y=>bif decide (k=k')then x=y else False
 | .str x,.str y=>x=y
 | .nilp,.nilp=>True
 | .nilf,.nilf=>True
 | .nili,.nili=>True
 | .nils,.nils=>True
 | .nilm,.nilm=>True
 | .ptr h off,.ptr g off'=>bif b h g then off=off' else False
 | .sl h off len room,.sl g off' len' room'=>bif b h g then off=off'∧len=len'∧roomP room room' else False
 | .mp h,.mp g=>bif b h g then True else False
 | .yld h,.yld g=>bif b h g then True else False
 | .fn f l,.fn f' l'=>bif Nat.beq f f' then vmL b l l' else False
 | .mfn f l,.mfn f' l'=>bif Nat.beq f f' then vmL b l l' else False
 | .agg l,.agg l'=>vmL b l l'
 | .tup l,.tup l'=>vmL b l l'
 | .ifc t x,.ifc t' x'=>bif Nat.beq t t' then vm b x x' else False
 | .im n l,.im n' l'=>n=n'∧l=l'
 | .imp l,.imp l'=>l=l'
 | _,_=>False
def vmL(b:Nat→Nat→Bool):List V→List V→Prop
 |[],[]=>True
 |x::xs,y::ys=>vm b x y∧vmL b xs ys
 | _,_=>False
end
mutual
theorem Qoz{b:Nat→Nat→Bool}{ρ:Nat→Option Nat}{H:Nat→Option O}{F:Nat→Prop}(hb: ∀h g,b h g=true→ρ h=some g): ∀(x y:V),vm b x y→View H F ρ x y
 | .bool a,y,h=>by cases y<;>first|(exact h.elim;done)|(cases h;rfl)
 | .int k a,y,h=>by
  cases y<;>try(exact h.elim;done)
  obtain⟨h1,h2⟩:=Qai h;have:=of_decide_eq_true h1;subst this;cases h2;rfl
 | .str a,y,h=>by cases y<;>first|(exact h.elim;done)|(cases h;rfl)
 | .nilp,y,h=>by cases y<;>first|(exact h.elim;done)|rfl
 | .nilf,y,h=>by cases y<;>first|(exact h.elim;done)|rfl
 | .nili,y,h=>by cases y<;>first|(exact h.elim;done)|rfl
 | .nils,y,h=>by cases y<;>first|(exact h.elim;done)|rfl
 | .nilm,y,h=>by cases y<;>first|(exact h.elim;done)|rfl
 | .ptr i off,y,h=>by
  cases y<;>try(exact h.elim;done)
  obtain⟨h1,rfl⟩:=Qai h;exact⟨_,hb _ _ h1,rfl⟩
 | .sl i off len room,y,h=>by
  cases y<;>try(exact h.elim;done)
  obtain⟨h1,rfl,rfl,h2⟩:=Qai h;have:=Qqs h2;subst this;exact⟨_,hb _ _ h1,rfl⟩
 | .mp i,y,h=>by
  cases y<;>try(exact h.elim;done)
  obtain⟨h1,_⟩:=Qai h;exact⟨_,hb _ _ h1,rfl⟩
 | .yld i,y,h=>by
  cases y<;>try(exact h.elim;done)
  obtain⟨h1,_⟩:=Qai h;exact⟨_,hb _ _ h1,rfl⟩
 | .fn f l,y,h=>by
  cases y<;>try(exact h.elim;done)
  obtain⟨h1,h2⟩:=Qai h;have:=Nat.eq_of_beq_eq_true h1;subst this;exact⟨_,rfl,Qcy hb _ _ h2⟩
 | .mfn f l,y,h=>by
  cases y<;>try(exact h.elim;done)
  obtain⟨h1,h2⟩:=Qai h;have:=Nat.eq_of_beq_eq_true h1;subst this;exact⟨_,rfl,Qcy hb _ _ h2⟩
 | .agg l,y,h=>by
  cases y<;>try(exact h.elim;done)
  exact⟨_,rfl,Qcy hb _ _ h⟩
 | .tup l,y,h=>by
  cases y<;>try(exact h.elim;done)
  exact⟨_,rfl,Qcy hb _ _ h⟩
 | .ifc t x,y,h=>by
  cases y<;>try(exact h.elim;done)
  obtain⟨h1,h2⟩:=Qai h;have:=Nat.eq_of_beq_eq_true h1;subst this;exact⟨_,rfl,Qoz hb x _ h2⟩
 | .im n l,y,h=>by
  cases y<;>try(exact h.elim;done)
  obtain⟨rfl,rfl⟩:=h;exact .inl rfl
 | .imp l,y,h=>by
  cases y<;>try(exact h.elim;done)
  cases h;exact .inl rfl
theorem Qcy{b:Nat→Nat→Bool}{ρ:Nat→Option Nat}{H:Nat→Option O}{F:Nat→Prop}(hb: ∀h g,b h g=true→ρ h=some g): ∀(l m:List V),vmL b l m→ViewL H F ρ l m
 |[],m,h=>by cases m with
  |nil=>rfl
  |cons _ _=>exact h.elim
 |x::xs,m,h=>by cases m with
  |nil=>exact h.elim
  |cons y ys=>exact⟨y,ys,rfl,Qoz hb x y h.1,Qcy hb xs ys h.2⟩
end
def vmO(b:Nat→Nat→Bool)(md:Nat):O→O→Prop
 | .row t sp c,.row t' sp' c'=>bif Nat.beq t t'&&beqON sp sp' then(match md with
  |0=>c=c'∧HfL c
  | _=>vmL b c c')else False
 | .map es ck,.map es' ck'=>es=es'∧HfE es∧ck=ck'
 | .dead,.dead=>True
 | _,_=>False
theorem Qq0{b:Nat→Nat→Bool}{ρ:Nat→Option Nat}{H:Nat→Option O}{F:Nat→Prop}(hb: ∀h g,b h g=true→ρ h=some g){md:Nat}{o y:O}(h:vmO b md o y):ViewO H F ρ o y:=by
 cases o with
 |row t sp c=>
  cases y<;>try(exact h.elim;done)
  obtain⟨h1,h2⟩:=Qai h;rw[Bool.and_eq_true]at h1;have e1:=Nat.eq_of_beq_eq_true h1.1;have e2:=Qpg h1.2;subst e1 e2;refine⟨_,rfl,?_⟩;split at h2
  ·obtain⟨rfl,h3⟩:=h2;exact ViewL.of_hf _ h3
  ·exact Qcy hb _ _ h2
 |map es ck=>
  cases y<;>try(exact h.elim;done)
  obtain⟨rfl,h1,rfl⟩:=h;exact⟨_,rfl,ViewE.of_hf _ h1⟩
 |iter m since seen last=>cases y<;>exact h.elim
 |loop=>cases y<;>exact h.elim
 |dead=>trivial
def hupB(L:List Nat)(i g:Nat):Bool:=match L[i]? with|some x=>Nat.beq x g|none=>false
def hdnF:List (Nat×Nat)→Nat→Option Nat
 |[],_=>none
 |(g,i)::M,x=>bif Nat.beq g x then some i else hdnF M x
def hdnB(M:List (Nat×Nat))(g i:Nat):Bool:=match hdnF M g with|some x=>Nat.beq x i|none=>false
def Qi1:List Nat→Bool
 |[]=>true
 |x::xs=> !(xs.any fun y=>Nat.beq y x)&&Qi1 xs
def Qug(os:List O)(i:Nat):Bool:=match os[i]? with|some o=>o.live|none=>false
def frB(k k1 n n1:Nat)(L:List Nat)(M:List (Nat×Nat))(lg lg':List Nat)(lv0 lv1:Nat→Bool):Bool:=
 Nat.beq L.length k&&(Qi1 L&&(L.all (fun g=>Nat.blt g n)&&(Nat.ble n n1&&(Qi1 (M.map (·.1))&&(Qi1 (M.map (·.2))&&
 (M.all (fun p=>(Nat.blt p.2 k&&hupB L p.2 p.1)||(Nat.ble n p.1&&Nat.blt p.1 n1&&Nat.ble k p.2&&Nat.blt p.2 k1))&&
 ((List.range n1).all (fun g=>Nat.blt g n||(match hdnF M g with|some i=>Nat.ble k i|none=>false))&&
 (lg.all (fun i=>(Nat.ble k i)||(match L[i]? with|some g=>lg'.any (Nat.beq g)|none=>false))&&
 ((List.range k).all (fun i=> !(lg.any (Nat.beq i)||lv1 i)||lv0 i))))))))))
def frO (L : List Nat) (OS : List O) : Nat → List O → List Nat → Prop
 | _,[],_=>True
 | i, o :: os, md => (match o with
  | .dead=>True
  | o => match L[i]? with
   |some g=>match OS[g]? with
    |some y=>vmO (hupB L) (md.headD 0) o y
    |none=>False
   |none=>False)∧frO L OS (i+1) os md.tail
def frN (n : Nat) (M : List (Nat × Nat)) (L lg' : List Nat) (OS os1 : List O) : Nat → List O → List Nat → Prop
 | _,[],_=>True
 | g, y :: ys, md => (bif Nat.blt g n && !(lg'.any (Nat.beq g)) then OS[g]? = some y else True) ∧
  (match y with
  | .dead=>True
  | y => match hdnF M g with
   |some i=>match os1[i]? with
    |some o=>vmO (hdnB M) (md.headD 0) y o
    |none=>False
   |none=>bif L.any (Nat.beq g)then False else bif Nat.blt g n then OS[g]? =some y else False)∧frN n M L lg' OS os1 (g+1) ys md.tail
theorem Qny{L:List Nat}{i g:Nat}(h:hupB L i g=true):L[i]? =some g:=by
 unfold hupB at h;split at h
 ·rename_i x e;rw[e,Nat.eq_of_beq_eq_true h]
 ·cases h
theorem Qt2{M:List (Nat×Nat)}{g i:Nat}(h:hdnB M g i=true):hdnF M g=some i:=by
 unfold hdnB at h;split at h
 ·rename_i x e;rw[e,Nat.eq_of_beq_eq_true h]
 ·cases h
theorem Qf1: ∀{M:List (Nat×Nat)}{g i:Nat},hdnF M g=some i→(g,i)∈M
 |[],_,_,h=>by cases h
 | (a, j) :: M, g, i, h => by
  unfold hdnF at h;cases hb:Nat.beq a g with
  |true=>
   rw[hb,cond_true]at h;cases h;rw[Nat.eq_of_beq_eq_true hb];exact List.mem_cons_self
  |false=>
   rw[hb,cond_false]at h;exact List.mem_cons_of_mem _ (Qf1 h)
theorem Qca: ∀{l:List Nat},Qi1 l=true→l.Nodup
 |[],_=>List.nodup_nil
 |x::l,h=>by
  unfold Qi1 at h;rw[Bool.and_eq_true,Bool.not_eq_true']at h;refine List.nodup_cons.2 ⟨fun hm=>?_,Qca h.2⟩
  have:(l.any fun y=>Nat.beq y x)=true:=List.any_eq_true.2 ⟨x,hm,Nat.beq_refl x⟩
  rw[this]at h;cases h.1
theorem Qjq{l:List Nat}{g:Nat}:l.any (Nat.beq g)=true↔g∈l:=by
 rw[List.any_eq_true];constructor
 ·rintro⟨x,hx,h⟩;rw[Nat.eq_of_beq_eq_true h];exact hx
 ·intro h;exact⟨g,h,Nat.beq_refl g⟩
theorem Qtv{L:List Nat}{OS:List O}: ∀{os:List O}{i:Nat}{md:List Nat},frO L OS i os md→∀(j:Nat)(o:O),os[j]? =some o→o.live=true→∃g y m,L[i+j]? =some g∧OS[g]? =some y∧vmO (hupB L) m o y
 |[],_,_,_,_,_,h,_=>by simp at h
 | x :: os, i, md, h, 0, o, hj, hl => by
  obtain rfl:x=o:=by simpa using hj
  have h1:=h.1;cases x<;>first|(cases hl;done)|skip
  all_goals
   dsimp only at h1;split at h1
   ·rename_i g hg;split at h1
    ·rename_i y hy;exact⟨g,y,_,hg,hy,h1⟩
    ·exact h1.elim
   ·exact h1.elim
 |x::os,i,md,h,j+1,o,hj,hl=>by
  obtain⟨g,y,m,h1,h2,h3⟩:=Qtv h.2 j o (by simpa using hj) hl
  exact⟨g,y,m,by rw[show i+(j+1)=i+1+j by omega];exact h1,h2,h3⟩
theorem frN_get{n:Nat}{M:List (Nat×Nat)}{L lg':List Nat}{OS os1:List O}: ∀{ys:List O}{g:Nat}{md:List Nat},frN n M L lg' OS os1 g ys md→∀(j:Nat)(y:O),ys[j]? =some y→
  (g+j<n→g+j∉lg'→OS[g+j]? =some y)∧(y.live=true→(∃i o m,hdnF M (g+j)=some i∧os1[i]? =some o∧vmO (hdnB M) m y o)∨(g+j∉L∧g+j<n∧OS[g+j]? =some y))
 |[],_,_,_,_,_,h=>by simp at h
 | x :: ys, g, md, h, 0, y, hj => by
  obtain rfl:x=y:=by simpa using hj
  obtain⟨h1,h2,_⟩:=h;refine⟨fun hlt hno=>?_,fun hl=>?_⟩
  ·have hb : (Nat.blt (g + 0) n && !(lg'.any (Nat.beq (g + 0)))) = true := by
    rw[Bool.and_eq_true,Bool.not_eq_true'];refine⟨Nat.ble_eq_true_of_le hlt,?_⟩;cases hb:lg'.any (Nat.beq (g+0))with
    |false=>rfl
    |true=>exact absurd (Qjq.1 hb) hno
   rw[Nat.add_zero]at hb⊢;rw[hb,cond_true]at h1;exact h1
  ·rw [Nat.add_zero];have key:(match hdnF M g with
     |some i=>match os1[i]? with
      |some o=>vmO (hdnB M) (md.headD 0) x o
      |none=>False
     |none=>bif L.any (Nat.beq g)then False else bif Nat.blt g n then OS[g]? =some x else False):=by
    cases x<;>first|(cases hl;done)|exact h2
   split at key
   ·rename_i i hi;split at key
    ·rename_i o ho;exact .inl ⟨i,o,_,hi,ho,key⟩
    ·exact key.elim
   ·cases hL : L.any (Nat.beq g) with
    |true=>rw[hL,cond_true]at key;exact key.elim
    |false=>
     rw[hL,cond_false]at key;obtain⟨hb,hk⟩:=Qai key;exact .inr ⟨fun hm=>(by rw[Qjq.2 hm]at hL;cases hL),Nat.le_of_ble_eq_true hb,hk⟩
 |x::ys,g,md,h,j+1,y,hj=>by
  have:=frN_get h.2.2 j y (by simpa using hj)
  rw[show g+(j+1)=g+1+j by omega]
  exact this
theorem Qcb: ∀(os:List O)(t:T O)(k i:Nat),k≤i→i<k+os.length→(ofOs t k os).get i=os[i-k]?
 |[],_,_,_,h1,h2=>by simp at h2;omega
 | o :: os, t, k, i, h1, h2 => by
  rw[ofOs];by_cases hi:i=k
  ·subst hi;have: ∀(os:List O)(t:T O)(j i:Nat),i<j→(ofOs t j os).get i=t.get i:=by
    intro os
    induction os with
    |nil=>intro t j i _;rfl
    |cons o os ih=>
     intro t j i h;rw[ofOs,ih _ _ _ (by omega),pt_eq,T.get_put,if_neg (by omega)]
   rw[this _ _ _ _ (by omega),pt_eq,T.get_put,if_pos rfl]
   simp
  ·rw [Qcb os _ _ _ (by omega) (by simp at h2; omega)]
   rw[show i-k=(i-(k+1))+1 by omega,List.getElem?_cons_succ]
theorem Qbt{os:List O}{i:Nat}(h:os.length≤i):(ofOs .e 0 os).get i=none:=by
 cases hg:(ofOs .e 0 os).get i with
 |none=>rfl
 | some o =>
  rcases ofOs_get os .e 0 i o hg with⟨_,h2⟩|h2
  ·have := (List.getElem?_eq_some_iff.1 h2).1;omega
  ·cases h2
theorem CallSpec.frameL{P:Program}{gl:T (List V)}{f:Nat}{ars ars':List V}{os0 os1 OS OS':List O}{v v':V}{lg lg':List Nat}(L:List Nat)(M:List (Nat×Nat))(md0 md1:List Nat)
  (h:CallSpec P gl (.fn f []) ars (ofOs .e 0 os0) os0.length ⟨v,ofOs .e 0 os1,os1.length,lg⟩)
  (hb:frB os0.length os1.length OS.length OS'.length L M lg lg' (Qug os0) (Qug os1)=true)
  (ha:vmL (hupB L) ars ars')(ho:frO L OS 0 os0 md0)(hv:vm (hdnB M) v' v)(hn:frN OS.length M L lg' OS os1 0 OS' md1):CallSpec P gl (.fn f []) ars' (ofOs .e 0 OS) OS.length ⟨v',ofOs .e 0 OS',OS'.length,lg'⟩:=by
 unfold frB at hb;simp only[Bool.and_eq_true]at hb;obtain⟨b1,b2,b3,b4,b5,b6,b7,b8,b9,b10⟩:=hb;have b1:=Nat.eq_of_beq_eq_true b1;have b2:=Qca b2;have b4:=Nat.le_of_ble_eq_true b4;have b5:=Qca b5;have b6:=Qca b6;have hat: ∀(os:List O)(i:Nat)(o:O),(ofOs .e 0 os).get i=some o↔os[i]? =some o:=fun os i o=>by
  by_cases hi:i<os.length
  ·rw[Qcb _ _ _ _ (Nat.zero_le _) (by omega),Nat.sub_zero]
  ·rw[Qbt (by omega),List.getElem?_eq_none (by omega)]
 have hL: ∀i g,L[i]? =some g→g<OS.length:=fun i g e=>Nat.le_of_ble_eq_true (List.all_eq_true.1 b3 g (List.mem_of_getElem? e))
 have hM: ∀g i,hdnF M g=some i→(i<os0.length∧L[i]? =some g)∨(OS.length≤g∧g<OS'.length∧os0.length≤i∧i<os1.length):=fun g i e=>by
  have:=List.all_eq_true.1 b7 _ (Qf1 e);rw[Bool.or_eq_true]at this;rcases this with h1|h1
  ·rw [Bool.and_eq_true] at h1;exact .inl ⟨Nat.le_of_ble_eq_true h1.1,Qny h1.2⟩
  ·simp only [Bool.and_eq_true] at h1;exact .inr ⟨Nat.le_of_ble_eq_true h1.1.1.1,Nat.le_of_ble_eq_true h1.1.1.2,Nat.le_of_ble_eq_true h1.1.2,Nat.le_of_ble_eq_true h1.2⟩
 refine CallSpec.frameR (ρ:=fun i=>L[i]?) (σ:=hdnF M) h (fun i g e=>by have:=(List.getElem?_eq_some_iff.1 e).1;omega) (fun i j g e1 e2=>?_) (Qcy (fun h g hb=>Qny hb) _ _ ha) (fun i o hi hl=>?_) hM (fun g g' i e1 e2=>?_) (fun g h1 h2=>?_) b4 (Qoz (fun h g hb=>Qt2 hb) _ _ hv) (fun g y hy hl=>?_) (fun i hi hor=>?_) (fun i hi g e=>?_) ⟨b4,fun g hno hnr=>?_⟩
 ·exact(List.getElem?_inj (List.getElem?_eq_some_iff.1 e1).1 b2).1 (e1.trans e2.symm)
 ·rw [hat] at hi;obtain⟨g,y,m,h1,h2,h3⟩:=Qtv ho i o hi hl;rw[Nat.zero_add]at h1;exact⟨g,y,h1,(hat _ _ _).2 h2,Qq0 (fun h g hb=>Qny hb) h3⟩
 ·have m1 := Qf1 e1;have m2:=Qf1 e2;obtain⟨a,ha,ea⟩:=List.mem_iff_getElem.1 m1;obtain⟨c,hc,ec⟩:=List.mem_iff_getElem.1 m2;have:a=c:=by
   refine(List.getElem?_inj (l:=M.map (·.2)) (by simpa using ha) b6).1 ?_
   simp[ha,hc,ea,ec]
  subst this;rw[ea]at ec;cases ec;rfl
 ·have := List.all_eq_true.1 b8 g (List.mem_range.2 h2);rw[Bool.or_eq_true]at this;rcases this with h3|h3
  ·have:=Nat.le_of_ble_eq_true h3;omega
  ·split at h3
   ·rename_i i e;refine⟨i,e,Nat.le_of_ble_eq_true h3,?_⟩;rcases hM g i e with⟨h4,h5⟩|⟨_,_,_,h4⟩
    ·have:=Nat.le_of_ble_eq_true h3;omega
    ·exact h4
   ·cases h3
 ·rw [hat] at hy;rcases(frN_get hn g y hy).2 hl with⟨i,o,m,h1,h2,h3⟩|⟨h1,h2,h3⟩
  ·rw [Nat.zero_add] at h1;exact .inl ⟨i,o,h1,(hat _ _ _).2 h2,Qq0 (fun h g hb=>Qt2 hb) h3⟩
  ·rw [Nat.zero_add] at h1 h2 h3;exact .inr ⟨fun i e=>h1 (List.mem_of_getElem? e),h2,(hat _ _ _).2 h3⟩
 ·have := List.all_eq_true.1 b10 i (List.mem_range.2 hi);rw[Bool.or_eq_true,Bool.not_eq_true',Bool.or_eq_false_iff]at this;have hlv:Qug os0 i=true:=by
   rcases this with⟨h1,h2⟩|h1
   ·rcases hor with h3 | ⟨o, h3, h4⟩
    ·rw[Qjq.2 h3]at h1;cases h1
    ·dsimp only at h3;rw[hat]at h3;unfold Qug at h2;rw[h3]at h2;dsimp only at h2;rw[h4]at h2;cases h2
   ·exact h1
  unfold Qug at hlv;split at hlv
  ·rename_i o ho';exact⟨o,(hat _ _ _).2 ho',hlv⟩
  ·cases hlv
 ·have := List.all_eq_true.1 b9 i hi;rw[Bool.or_eq_true]at this;have hik:i<os0.length:=by have:=(List.getElem?_eq_some_iff.1 e).1;omega
  rcases this with h1|h1
  ·have:=Nat.le_of_ble_eq_true h1;omega
  ·rw [e] at h1;exact Qjq.1 h1
 ·by_cases hg : g < OS.length
  ·have hg' : g < OS'.length := by omega
   have:=(frN_get hn g OS'[g] (List.getElem?_eq_getElem hg')).1 (by omega) (by rw[Nat.zero_add];exact hno)
   rw[Nat.zero_add]at this;rw[(hat OS' g OS'[g]).2 (List.getElem?_eq_getElem hg')];exact((hat OS g OS'[g]).2 this).symm
  ·have hg' : ¬ g < OS'.length := fun h => hnr ⟨by omega, h⟩
   rw[Qbt (by omega),Qbt (by omega)]
section
variable {F:Fence} {n:Nat} {P:Program} {Q:Exit→Act→World→Prop} {a:Act} {w:World} {f0:Nat}
def wpF(F:Fence)(n:Nat)(P:Program)(f0:Nat)(c:Code)(Q:Exit→Act→World→Prop)(a:Act)(w:World):Prop:=
 ∀(b:Frame)(k:List Item)(cs:List Frame),b.roundOf=F.round→F.fn b.fn→b.fn=f0→F.room (cs.length+1+n)→
  ∃e a' w',Q e a' w'∧ArrivesIn (Machine.fenced P F) P (lone (b.atR a (.code c::k)) cs w) b k cs e a' w'
theorem wpF_of{c:Code}(h:c.wpIn F n P Q a w):wpF F n P f0 c Q a w:=fun b k cs hro hb _ hr=>h b k cs hro hb hr
theorem wpF_seq{x y:Code}(h:wpF F n P f0 x (Exit.then (wpF F n P f0 y Q) Q) a w):wpF F n P f0 (.seq x y) Q a w:=by
 intro b k cs hro hb hf hr;have h0:(lone (b.atR a (.code (.seq x y)::k)) cs w).fenced P F:=fenced_calm hb hr rfl;obtain⟨e,a₁,w₁,hq,harr⟩:=h b (.code y::k) cs hro hb hf hr;cases e with
 |normal=>
  obtain⟨e₂,a₂,w₂,hq₂,harr₂⟩:=hq b k cs hro hb hf hr;exact⟨e₂,a₂,w₂,hq₂,.of_steps (.head h0 stepR_seq harr) harr₂⟩
 |exit id=>exact⟨_,a₁,w₁,hq,.of_steps (.one h0 stepR_seq) (.pass (x:=.code y) rfl (fun _ _=>.inl (by simp)) harr)⟩
 |goto l=>exact⟨_,a₁,w₁,hq,.of_steps (.one h0 stepR_seq) (.pass (x:=.code y) rfl (fun _ _=>.inl (by simp)) harr)⟩
 |ret=>exact⟨_,a₁,w₁,hq,.of_steps (.one h0 stepR_seq) (.pass (x:=.code y) rfl (fun _ _=>.inl (by simp)) harr)⟩
 |panic ch=>exact⟨_,a₁,w₁,hq,.of_steps (.one h0 stepR_seq) (.pass (x:=.code y) rfl (fun _ _=>.inl (by simp)) harr)⟩
 |outgrown=>exact⟨_,a₁,w₁,hq,.of_steps (.one h0 stepR_seq) (.pass (x:=.code y) rfl (fun _ _=>.inl (by simp)) harr)⟩
theorem wpF_cond{c:Operand}{x y:Code}{t:Bool}(hc:a.eval c= .bool t)(h:wpF F n P f0 (if t then x else y) Q a w):wpF F n P f0 (.cond c x y) Q a w:=
 fun b k cs hro hb hf hr=>let ⟨e,a',w',q,r⟩:=h b k cs hro hb hf hr;⟨e,a',w',q,.of_steps (.one (fenced_calm hb hr rfl) (stepR_cond hc)) r⟩
theorem Qwa{id:Nat}{c:Code}(h:wpF F n P f0 c (Exit.inBlock id Q) a w):wpF F n P f0 (.block id c) Q a w:=by
 intro b k cs hro hb hf hr;have h0:(lone (b.atR a (.code (.block id c)::k)) cs w).fenced P F:=fenced_calm hb hr rfl;obtain⟨e,a₁,w₁,hq,harr⟩:=h b (.inBlock id::k) cs hro hb hf hr;cases e with
 |normal=>exact⟨.normal,a₁,w₁,hq,.head h0 stepR_block (StepsIn.trans harr (.one (fenced_calm hb hr rfl) stepR_inBlock))⟩
 | exit id' =>
  by_cases hid:id'=id
  ·simp only [Exit.inBlock, hid, if_true] at hq;exact⟨.normal,a₁,w₁,hq,.head h0 stepR_block (harr.1 k (by simp[exitTo,hid]))⟩
  ·simp only [Exit.inBlock, hid, if_false] at hq;have this:(id==id')=false:=by simp;exact fun h=>hid h.symm
   have hx:exitTo id' (.inBlock id::k)=exitTo id' k:=by simp[exitTo,this]
   exact⟨.exit id',a₁,w₁,hq,fun k' hk=>.head h0 stepR_block (harr.1 k' (by rw[hx];exact hk)),
    fun hr' hk=>let ⟨k₁,h1,h2⟩:=harr.2 hr' (by rw[hx];exact hk);⟨k₁,h1,.head h0 stepR_block h2⟩⟩
 | goto l =>
  have hx:gotoIn l (.inBlock id::k)=gotoIn l k:=by simp[gotoIn]
  exact⟨_,a₁,w₁,hq,fun k' hk=>.head h0 stepR_block (harr.1 k' (by rw[hx];exact hk)),
   fun hr' hk=>let ⟨k₁,h1,h2⟩:=harr.2 hr' (by rw[hx];exact hk);⟨k₁,h1,.head h0 stepR_block h2⟩⟩
 |ret=>exact⟨_,a₁,w₁,hq,.of_steps (.one h0 stepR_block) harr⟩
 |panic ch=>exact⟨_,a₁,w₁,hq,.of_steps (.one h0 stepR_block) harr⟩
 |outgrown=>exact⟨_,a₁,w₁,hq,.of_steps (.one h0 stepR_block) harr⟩
theorem Qwb{c:Code}(h:wpF F n P f0 c (Exit.noGoto Q) a w):wpF F n P f0 (.scope c) Q a w:=by
 intro b k cs hro hb hf hr;have h0:(lone (b.atR a (.code (.scope c)::k)) cs w).fenced P F:=fenced_calm hb hr rfl;obtain⟨e,a₁,w₁,hq,harr⟩:=h b (.inScope c::k) cs hro hb hf hr;cases e with
 |normal=>exact⟨.normal,a₁,w₁,hq,.head h0 Qat (StepsIn.trans harr (.one (fenced_calm hb hr rfl) Qe7))⟩
 | exit id =>
  have hx:exitTo id (.inScope c::k)=exitTo id k:=by simp[exitTo]
  exact⟨.exit id,a₁,w₁,hq,fun k' hk=>.head h0 Qat (harr.1 k' (by rw[hx];exact hk)),
   fun hr' hk=>let ⟨k₁,h1,h2⟩:=harr.2 hr' (by rw[hx];exact hk);⟨k₁,h1,.head h0 Qat h2⟩⟩
 |goto l=>exact hq.elim
 |ret=>exact⟨_,a₁,w₁,hq,.of_steps (.one h0 Qat) harr⟩
 |panic ch=>exact⟨_,a₁,w₁,hq,.of_steps (.one h0 Qat) harr⟩
 |outgrown=>exact⟨_,a₁,w₁,hq,.of_steps (.one h0 Qat) harr⟩
theorem Qkz{g:Operand}{ps:Array Tmp}{assign body:Code}
  (h : ∃ (l : Nat) (mark : List Deferred) (w₁ : World) (d : Deferred) (w₁' : World) (f : FuncId) (args : Array Value) (w₂ : World),
   (Instr.enterLoop f0 a.tmps ps assign body F.round).run P w= .ok (l,mark) w₁∧
   (resolve a.eval (rangeCall g l) 0).run P w₁= .ok d w₁'∧
   (∀f',Target.leads P w₁' d.target d.args=some f'→F.fn f')∧
   (invoke d.target d.args).run P w₁'= .ok (.enter f args) w₂∧
   (F.depth.isSome=true→1≤n)∧
   CallsIn F (n-1) P f args w₂ (rangePost F n P l Q {a with defers:=mark++a.defers})):
  wpF F n P f0 (.rangeFunc g ps assign body) Q a w:=by
 intro b k cs hro hb hf hr;obtain⟨l,mark,w₁,d,w₁',f,args,w₂,he,hres,hlead,hinv,hn,hF,hcall⟩:=h;rw[←hro,←hf]at he;have h0:(lone (b.atR a (.code (.rangeFunc g ps assign body)::k)) cs w).fenced P F:=by
  refine fenced_lone (.inl hb) (fun f' hf'=>hlead f' ?_) (Fence.room_le hr (by omega))
  have hev:=Frame.eval_atR b a (.code (.rangeFunc g ps assign body)::k);simp only[Frame.atR]at hev;simp only[Frame.about,Frame.atR,he,hev,hres]at hf';exact hf'
 have henter:=stepR_rangeFunc (P:=P) (b:=b) (a:=a) (k:=k) (cs:=cs) (w:=w) he hres hinv;have hroom:F.room ((b.atR {a with defers:=mark++a.defers} (.inRangeFunc l::k)::cs).length+1+(n-1)):=Fence.room_enter hr hn
 obtain⟨e,w₃,fr,hR,hsteps,hfn,hleave⟩:=hcall (b.atR {a with defers:=mark++a.defers} (.inRangeFunc l::k)::cs) hroom
 cases e with
 |outgrown=>
  obtain⟨a₀,w₀,hq⟩:=hR;exact⟨.outgrown,a₀,w₀,hq,.inr (Outgrown.of_steps (.one henter) hsteps)⟩
 | returned v =>
  have hl:(lone fr (b.atR {a with defers:=mark++a.defers} (.inRangeFunc l::k)::cs) w₃).fenced P F:=fenced_leaving (hfn▸hF) hroom hleave
  obtain⟨jump,w₄,hend,hj⟩:=hR;have sback:StepsIn (Machine.fenced P F) P (lone (b.atR a (.code (.rangeFunc g ps assign body)::k)) cs w) (lone (b.atR {a with defers:=mark++a.defers} ((jump.map Item.code).toList++k)) cs w₄):=by
   refine .head h0 henter (StepsIn.trans hsteps (.head hl ?_ (.one (fenced_calm (fr:=b.atR {a with defers:=mark++a.defers} (.endRangeFunc l::k)) hb hr rfl) (stepR_endRangeFunc hend))))
   rw[←finish_atR_inRangeFunc l v];exact step_leave_returned hleave
  cases jump with
  |none=>exact⟨.normal,_,w₄,hj,sback⟩
  |some c=>
   obtain⟨e',a'',w₅,hq,harr⟩:=hj b k cs hro hb hr;exact⟨e',a'',w₅,hq,.of_steps sback harr⟩
 |panicked chain=>
  have hl:(lone fr (b.atR {a with defers:=mark++a.defers} (.inRangeFunc l::k)::cs) w₃).fenced P F:=fenced_leaving (hfn▸hF) hroom hleave
  refine⟨.panic chain,_,w₃,hR,.inRangeFunc l::k,.head h0 henter (StepsIn.trans hsteps (.one hl ?_))⟩;rw[←Frame.raise_atR];exact step_leave_panicked hleave
theorem Qh6{f:FuncId}{fn:Func}{c:Code}{args:Array Value}{R:Ending→World→Prop}
  (hf:P.funcs[f]? =some fn)(hb:fn.body=some c)(hF:F.fn f)
  (h:wpF F n P f c (bodyPostM F n P fn R) {tmps:=args++Array.replicate (fn.ntmps-args.size) undef,defers:=[]} w)(hro:F.round=none:=by rfl):CallsIn F n P f args w R:=by
 refine⟨hF,fun cs hr=>?_⟩
 let b:Frame:={(default:Frame)with fn:=f,kind:=.normal,roundOf:=none}
 have henter:Frame.enter P f args .normal=
   b.atR {tmps:=args++Array.replicate (fn.ntmps-args.size) undef,defers:=[]} [.code c]:=by
  simp[Frame.enter,Frame.atR,hf,hb,b]
 obtain⟨e,a',w',hq,harr⟩:=h b [] cs hro.symm hF rfl hr;rw[←henter]at harr;cases e with
 |normal=>
  obtain⟨e',w'',fr',hR,hs,hfn,hl⟩:=leaves_stepsInM a'.defers .returning w' {b.atR a' []with mode:=.returning} cs rfl rfl rfl hf rfl hF hr hq
  exact⟨e',w'',fr',hR,ComesIn.of_steps (StepsIn.trans harr (.one (fenced_calm (fr:=b.atR a' []) hF hr rfl) (stepR_end rfl))) hs,hfn,hl⟩
 |ret=>
  obtain⟨todo,hs₀⟩:=harr.1 rfl;obtain⟨e',w'',fr',hR,hs,hfn,hl⟩:=leaves_stepsInM a'.defers .returning w' {b.atR a' todo with mode:=.returning} cs rfl rfl rfl hf rfl hF hr hq
  exact⟨e',w'',fr',hR,ComesIn.of_steps hs₀ hs,hfn,hl⟩
 |panic chain=>
  obtain⟨todo,hs₀⟩:=harr;obtain⟨e',w'',fr',hR,hs,hfn,hl⟩:=leaves_stepsInM a'.defers (.panicking chain) w' {b.atR a' todo with mode:=.panicking chain} cs rfl rfl rfl hf rfl hF hr hq
  exact⟨e',w'',fr',hR,ComesIn.of_steps hs₀ hs,hfn,hl⟩
 |exit id=>exact hq.elim
 |goto l=>exact hq.elim
 |outgrown=>exact⟨.outgrown,w',b,hq,harr.resolve_left (by simp[b]),rfl,trivial⟩
def Qja(F:Fence)(n:Nat)(P:Program)(l f:Nat)(R:Ending→World→Prop):Exit→Act→World→Prop
 | .panic chain,a,w=>∃fn,P.funcs[f]? =some fn∧LeavesInM F n P fn a.tmps (fun e w'=>(∃c,e= .panicked c)∧R e w') a.defers (.panicking chain) w
 |e,a,w=>roundPost P l R e a w
theorem Qia{l:Nat}{f:FuncId}{tmps:Array Value}{assign body:Code}{R:Ending→World→Prop}(hF:F.fn f)
  (h : wpF (F.inRound l) n P f assign (Exit.then (fun a₁ w₁ => ∃ w₂, (Instr.beginRound l).run P w₁ = .ok () w₂ ∧ wpF (F.inRound l) n P f body (Qja (F.inRound l) n P l f R) a₁ w₂) (fun _ _ _ => False))
   {tmps:=tmps,defers:=[]} w):
  RoundIn F n P l f tmps assign body w R:=by
 refine⟨hF,fun c cs hr=>?_⟩
 let b:Frame:={(default:Frame)with fn:=f,kind:=.normal,roundOf:=some l}
 have hb0:Frame.round l f tmps assign body .normal=b.atR {tmps:=tmps,defers:=[]} [.code assign,.beginRound,.code body]:=by
  simp[Frame.round,Frame.atR,b]
 have hr':(F.inRound l).room ((c::cs).length+1+n):=hr;have hF':(F.inRound l).fn b.fn:=hF;obtain⟨e,a₁,w₁,hq,harr⟩:=h b [.beginRound,.code body] (c::cs) rfl hF' rfl hr';rw[←hb0]at harr;cases e with
 | normal =>
  obtain⟨w₂,hbr,hbody⟩:=hq;have s1:StepsIn (Machine.fenced P (F.inRound l)) P (lone (b.atR a₁ [.beginRound,.code body]) (c::cs) w₁) (lone (b.atR a₁ [.code body]) (c::cs) w₂):=
   .one (fenced_calm (fr:=b.atR a₁ [.beginRound,.code body]) hF' hr' rfl) (stepR_beginRound rfl hbr)
  obtain⟨e₂,a₂,w₃,hq₂,harr₂⟩:=hbody b [] (c::cs) rfl hF' rfl hr';cases e₂ with
  |normal=>
   obtain⟨v,w₄,hend,hR⟩:=hq₂;exact⟨.returned v,w₄,hR,(StepsIn.trans harr s1).trans (StepsIn.trans harr₂ (.one (fenced_calm (fr:=b.atR a₂ []) hF' hr' rfl) (stepR_round_end rfl rfl hend)))⟩
  |ret=>
   obtain⟨v,w₄,hend,hR⟩:=hq₂;obtain⟨k₁,hs⟩:=harr₂.2 rfl;exact⟨.returned v,w₄,hR,(StepsIn.trans harr s1).trans (StepsIn.trans hs (.one (fenced_calm (fr:=b.atR a₂ (.code .ret::k₁)) hF' hr' rfl) (stepR_round_ret rfl rfl hend)))⟩
  |exit id=>
   obtain⟨v,w₄,hend,hR⟩:=hq₂;obtain⟨k₁,hk,hs⟩:=harr₂.2 rfl rfl;exact⟨.returned v,w₄,hR,(StepsIn.trans harr s1).trans (StepsIn.trans hs (.one (fenced_calm (fr:=b.atR a₂ (.code (.exit id)::k₁)) hF' hr' rfl) (stepR_round_exit rfl rfl hk hend)))⟩
  |goto t=>
   obtain⟨v,w₄,hend,hR⟩:=hq₂;obtain⟨k₁,hk,hs⟩:=harr₂.2 rfl rfl;exact⟨.returned v,w₄,hR,(StepsIn.trans harr s1).trans (StepsIn.trans hs (.one (fenced_calm (fr:=b.atR a₂ (.code (.goto t)::k₁)) hF' hr' rfl) (stepR_round_goto rfl rfl hk hend)))⟩
  |panic chain=>
   obtain⟨fn,hfn,hl⟩:=hq₂;obtain⟨todo,hs⟩:=harr₂;obtain⟨e',w'',fr',⟨⟨ch,rfl⟩,hR⟩,hs2,hfn',hle⟩:=leaves_stepsInM (F:=F.inRound l) a₂.defers (.panicking chain) w₃ {b.atR a₂ todo with mode:=.panicking chain} (c::cs) rfl rfl rfl hfn rfl hF' hr' hl
   have hl':(lone fr' (c::cs) w'').fenced P (F.inRound l):=fenced_leaving (F:=F.inRound l) (n:=n) (hfn'▸hF') hr' hle;exact⟨.panicked ch,w'',hR,(StepsIn.trans harr s1).trans (StepsIn.trans hs (StepsIn.trans hs2 (.one hl' (step_leave_panicked hle))))⟩
  |outgrown=>exact hq₂.elim
 |exit id=>exact hq.elim
 |goto t=>exact hq.elim
 |ret=>exact hq.elim
 |panic chain=>exact hq.elim
 |outgrown=>exact hq.elim
end
variable {P:Program}
def SatF(P:Program)(f0:Nat)(rd:Option Nat)(nx0:Nat)(c:Code)(st:St)(R:Ex→St→Prop):Prop:=
 ∀(B:Bs)(s0:Sig)(w0:World)(s:Sig)(w:World)(a:Act),(∀i,nx0≤i→¬s0.dom i)→B.n≤w0.heap.size→(∀h,rd=some h→s0.dom h)→Ats B s0 w0 nx0 st s w a→
  ∀Q:Exit→Act→World→Prop,(∀e st',R e st'→∀s' w' a',Ats B s0 w0 nx0 st' s' w' a'→exQ Q w' a' e)→wpF (FF (rd.map s0.μ)) 5 P f0 c Q a w
section
variable {f0:Nat} {rd:Option Nat} {nx0:Nat} {st:St} {R R':Ex→St→Prop}
theorem SatF.of{c:Code}(h:Sat P rd nx0 c st R):SatF P f0 rd nx0 c st R:=
 fun B s0 w0 s w a hn hB hrd A Q hQ=>wpF_of (h B s0 w0 s w a hn hB hrd A Q hQ)
theorem SatF.mono{c:Code}(h:SatF P f0 rd nx0 c st R)(k: ∀e st',R e st'→R' e st'):SatF P f0 rd nx0 c st R':=
 fun B s0 w0 s w a hn hB hrd A Q hQ=>h B s0 w0 s w a hn hB hrd A Q (fun e st' he=>hQ e st' (k e st' he))
theorem SatF.seq{x y:Code}(h:SatF P f0 rd nx0 x st R')(k: ∀st1,R' .normal st1→SatF P f0 rd nx0 y st1 R)(ho: ∀e st1,e≠ .normal→R' e st1→R e st1):SatF P f0 rd nx0 (.seq x y) st R:=by
 intro B s0 w0 s w a hn hB hrd A Q hQ;refine wpF_seq (h B s0 w0 s w a hn hB hrd A _ ?_);intro e st1 he s1 w1 a1 A1;cases e with
 |normal=>exact k st1 he B s0 w0 s1 w1 a1 hn hB hrd A1 Q hQ
 |exit id=>exact hQ _ _ (ho _ _ (by simp) he) s1 w1 a1 A1
 |ret=>exact hQ _ _ (ho _ _ (by simp) he) s1 w1 a1 A1
 |pan v=>exact fun u hu=>hQ _ _ (ho _ _ (by simp) he) s1 w1 a1 A1 u hu
theorem SatF.cond{c:Operand}{x y:Code}{t:Bool}(hc:ev st.tm c=some (.bool t))(h:SatF P f0 rd nx0 (bif t then x else y) st R):SatF P f0 rd nx0 (.cond c x y) st R:=by
 intro B s0 w0 s w a hn hB hrd A Q hQ;have hev:a.eval c= .bool t:=ev_rv A.rel.rt hc;refine wpF_cond hev ?_;have:=h B s0 w0 s w a hn hB hrd A Q hQ;cases t<;>exact this
theorem SatF.block{id:Nat}{b:Code}(h:SatF P f0 rd nx0 b st R')(h1: ∀st1,R' (.exit id) st1→R .normal st1)(h2: ∀e st1,e≠ .exit id→R' e st1→R e st1):SatF P f0 rd nx0 (.block id b) st R:=by
 intro B s0 w0 s w a hn hB hrd A Q hQ;refine Qwa (h B s0 w0 s w a hn hB hrd A _ ?_);intro e st1 he s1 w1 a1 A1;cases e with
 |normal=>exact hQ _ _ (h2 _ _ (by simp) he) s1 w1 a1 A1
 |ret=>exact hQ _ _ (h2 _ _ (by simp) he) s1 w1 a1 A1
 |pan v=>exact fun u hu=>hQ _ _ (h2 _ _ (by simp) he) s1 w1 a1 A1 u hu
 | exit i =>
  show Exit.inBlock id Q (.exit i) a1 w1;by_cases hi:i=id
  ·subst hi;simp only[Exit.inBlock,if_true];exact hQ .normal _ (h1 _ he) s1 w1 a1 A1
  ·simp only [Exit.inBlock, if_neg hi];exact hQ (.exit i) _ (h2 _ _ (by simpa using hi) he) s1 w1 a1 A1
theorem SatF.scope{b:Code}(h:SatF P f0 rd nx0 b st R):SatF P f0 rd nx0 (.scope b) st R:=by
 intro B s0 w0 s w a hn hB hrd A Q hQ;refine Qwb (h B s0 w0 s w a hn hB hrd A _ ?_);intro e st1 he s1 w1 a1 A1;have:=hQ e st1 he s1 w1 a1 A1;cases e<;>exact this
theorem Qob{B:Bs}{s0 s:Sig}{w0 w:World}{a:Act}{g:Operand}{ps:Array Tmp}{asg body:Code}{f:Nat}{caps:List V}(A:Ats B s0 w0 nx0 st s w a)(hB:B.n≤w0.heap.size)(hrd: ∀h,rd=some h→s0.dom h)(hg:ev st.tm g=some (.fn f caps))(hlb:rdOk rd st.H=true)(fn fw:Nat)(hfw: ∀f,fw=f+1→fn=f):
  ∃(L:Nat)(mark:List Deferred)(w1:World)(s1:Sig)(vs:Array Value)(Ds:List Nat),(Instr.enterLoop fn a.tmps ps asg body (rd.map s.μ)).run P w= .ok (L,mark) w1∧rd.map s0.μ=rd.map s.μ∧
   (resolve a.eval (rangeCall g L) 0).run P w1= .ok {target:=.fn (.func f) vs,args:= #[]++ #[Value.func (.yield L) #[] #[]]} w1∧
   RV s1 w1 (.fn f caps) (.func (.func f) #[] vs)∧RL s1 w1 [V.yld st.nx] (#[Value.func (.yield L) #[] #[]]:Array Value).toList∧RH s1 w1 (st.H.put st.nx (.loop .ready none fw st.tm ps.toList asg body)).get∧GL s1 w1 st.tm.gl∧(∀i,st.nx+1≤i→¬s1.dom i)∧
   s1.μ st.nx=L∧Step s w s1 w1 []∧(∀i,s1.dom i↔s.dom i∨i=st.nx)∧mark++a.defers=Ds.map Qc8++B.d∧(Ds++B.ms).Nodup∧(∀D∈Ds++B.ms,DOk B.n s1 w1 D):=by
 have hr:=A.rel;have hrd2: ∀h,rd=some h→s.dom h:=fun h e=>A.step.le.dom h (hrd h e)
 have hmu:rd.map s0.μ=rd.map s.μ:=by
  cases rd with
  |none=>rfl
  |some h0=>simp[A.step.le.μ h0 (hrd h0 rfl)]
 have hB2:B.n≤w.heap.size:=Nat.le_trans hB A.step.mod.size;obtain⟨L,mark,w1,s1,e1,e2,e3,e4,e5,Ds,e6,e7,e8⟩:=Qff (P:=P) (asg:=asg) (body:=body) (ps:=ps) hr hB2 hrd2 hlb fn fw hfw;obtain⟨vs,hgv,hcaps⟩:=ev_rv hr.rt hg;refine⟨L,mark,w1,s1,vs,Ds,e1,hmu,?_,RV.mono e4.le e4.k _ _ ⟨vs,rfl,hcaps⟩,⟨_,_,rfl,⟨(e5 _).2 (.inr rfl),by rw[e3]⟩,rfl⟩,e2,(hr.rt.mono e4.le e4.k).2.2,fun i hi hd=>?_,e3,e4,e5,e6,e7,e8⟩
 ·show (Deferred.ofValue (a.eval g) _).run P w1 = _;rw[hgv];simp[Deferred.ofValue,Act.eval]
 ·rcases (e5 i).1 hd with hd | hd
  ·exact hr.nx i (by omega) hd
  ·omega
theorem SatF.rangePan{g:Operand}{ps:Array Tmp}{asg body:Code}{f:Nat}{caps:List V}{r:CR}(hg:ev st.tm g=some (.fn f caps))(hlb:rdOk rd st.H=true)
  (hc:CallPan P st.tm.gl (.fn f caps) [.yld st.nx] (st.H.put st.nx (.loop .ready none (f0+1) st.tm ps.toList asg body)) (st.nx+1) r)
  (hR:R (.pan r.v) ⟨st.tm,r.H,r.nx,r.lg++st.lg⟩):SatF P f0 rd nx0 (.rangeFunc g ps asg body) st R:=by
 intro B s0 w0 s w a hn hB hrd A Q hQ;obtain⟨L,mark,w1,s1,vs,Ds,e1,hmu,hres,hfv,hyv,e2,hgl,hn1,e3,e4,e5,e6,e7,e8⟩:=Qob (P:=P) (ps:=ps) (asg:=asg) (body:=body) A hB hrd hg hlb f0 (f0+1) (fun f e=>by omega)
 rw[hmu];refine Qkz ?_;have hround:(FF (rd.map s.μ)).round=rd.map s.μ:=by cases rd<;>rfl
 rw[hround];obtain⟨next,n1,n2,n3⟩:=hc s1 w1 _ _ hfv hyv e2 hgl hn1
 obtain⟨f',ars',rfl⟩:=n3 ⟨f,caps,rfl⟩;have hinv:(invoke (.fn (.func f) vs) (#[]++ #[Value.func (.yield L) #[] #[]])).run P w1= .ok (.enter f' ars') w1:=by
  simpa [Deferred.ofValue]using n1
 refine⟨L,mark,w1,_,w1,f',ars',w1,e1,hres,fun f' _=>Qd1 _ f',hinv,fun h=>(by rw[Qfw]at h;cases h),?_⟩
 refine(Qcn (rd.map s.μ) n2).mono ?_
 rintro ee w3 ⟨u,s3,rfl,hu,c2,c3,c4,c5⟩
 have hst3:Step s w s3 w3 r.lg:=(e4.trans c3).more (by simp)
 have hdom3: ∀i,s3.dom i↔s.dom i∨st.nx≤i∧i<r.nx:=fun i=>by
  rw[c4,e5];constructor
  ·rintro ((h | h) | h)
   ·exact .inl h
   ·exact .inr ⟨by omega,by omega⟩
   ·exact .inr ⟨by omega,h.2⟩
  ·rintro (h | h)
   ·exact .inl (.inl h)
   ·by_cases h' : i = st.nx
    ·exact .inl (.inr h')
    ·exact .inr ⟨by omega,h.2⟩
 have hnxr: ∀i,r.nx≤i→¬s3.dom i:=fun i hi hd=>by
  rcases(hdom3 i).1 hd with hd|hd
  ·exact A.rel.nx i (by omega) hd
  ·omega
 have hW:Went B s w st ⟨st.tm,r.H,r.nx,r.lg++st.lg⟩ a r.lg s3 w3 {a with defers:=mark++a.defers}:=
  ⟨⟨c2,A.rel.rt.mono hst3.le hst3.k,hnxr,Ds,e6,e7,fun D hD=>(e8 D hD).step c3⟩,hst3,hdom3,Nat.le_trans (Nat.le_succ _) c5,rfl⟩
 exact hQ (.pan r.v) _ hR s3 w3 _ (A.went hW) u hu
end
variable {P:Program}
theorem Qo1{l:Option Nat}{n m f0:Nat}{c:Code}{Q:Exit→Act→World→Prop}{a:Act}{w:World}(h:wpF (FF l) n P f0 c Q a w):wpF (FF l) m P f0 c Q a w:=
 fun b k cs h1 h2 hf _=>h b k cs h1 h2 hf (Qr9 l _)
theorem loop_fn{s:Sig}{w:World}{H:T O}{h:Nat}{st:LoopState}{pd:Option Code}{f0:Nat}{tm:TM}{ps:List Nat}{asg bd:Code}{r:Loop}(hH:RH s w H.get)(ho:H.get h=some (.loop st pd (f0+1) tm ps asg bd))(hr:w.heap[s.μ h]? =some (.loop r)):r.fn=f0:=by
 obtain⟨_,_,_,tmps,d,f1,a0,a4,_⟩:=hH.obj h _ ho rfl;rw[a4]at hr;cases hr;exact a0 f0 rfl
theorem Qwg{s:Sig}{w:World}{hd:Nat}{ars:List V}{H:T O}{nx:Nat}{pd0:Option Code}{f0:Nat}{tm tm1:TM}{ps:List Nat}{assign body:Code}{gl:T (List V)}(ho:H.get hd=some (.loop .ready pd0 (f0+1) tm ps assign body))(htm1:putPs tm ps ars=some tm1)
  {fv:Value}{vals:Array Value}(hc:RV s w (.yld hd) fv)(hargs:RL s w ars vals.toList)(hH:RH s w H.get)(hn: ∀i,nx≤i→¬s.dom i):
  ∃X:Array Value,((do let d←Deferred.ofValue fv vals;invoke d.target d.args):Sem Next).run P w= .ok (.round (s.μ hd) f0 X assign body) w∧s.dom hd∧
   Ats (bs w.heap.size) s w nx ⟨tm1,H,nx,[]⟩ s w {tmps:=X,defers:=[]}:=by
 obtain⟨hdm,rfl⟩:=hc;obtain⟨r0,q1,q2,q3,q4,q5,q6,q7,_,_⟩:=Qa7 hH ho;have hfn:=loop_fn hH ho q1;obtain⟨p1,p2⟩:=Qf3 (a:={tmps:=r0.tmps,defers:=[]}) q7 hargs htm1;have hps:vals.size=r0.params.size:=by rw[q4];simp at p1⊢;omega
 have hy:=run_yield (P:=P) (args:=vals) q1 hps;obtain⟨X,hX'⟩: ∃X,(r0.params.zip vals).foldl (fun tmps(t,a)=>tmps.setIfInBounds t a) r0.tmps=X:=⟨_,rfl⟩
 rw[hX']at hy;have hfold:X=(ps.zip vals.toList).foldl (fun tmps(x:Nat×Value)=>tmps.setIfInBounds x.1 x.2) r0.tmps:=by
  rw[←hX',q4,←Array.foldl_toList,Array.toList_zip]
 rw[hfn,q5,q6]at hy;refine⟨X,by simp[Deferred.ofValue,invoke,hy],hdm,⟨⟨hH,by dsimp only;rw[hfold];exact p2,hn,[],rfl,List.nodup_nil,fun D hD=>by simp at hD⟩,Step.refl s w [],dom_same s _,Nat.le_refl _⟩⟩
theorem Qwf{B:Bs}{s s1:Sig}{w w1:World}{nx hd:Nat}{st1:St}{a1:Act}(A1:Ats B s w nx st1 s1 w1 a1)(hdm:s.dom hd){pd:Option Code}{fn1:Nat}{tmx:TM}{ps1:List Nat}{as1 bd1:Code}(ho1:st1.H.get hd=some (.loop .ready pd fn1 tmx ps1 as1 bd1)):
  ∃w2,(Instr.beginRound (s.μ hd)).run P w1= .ok () w2∧Ats B s w nx ⟨st1.tm,st1.H.put hd (.loop .busy pd fn1 tmx ps1 as1 bd1),st1.nx,hd::st1.lg⟩ s1 w2 a1:=by
 obtain⟨r1,t1,t2,t3,t4,t5,t6,t7,t8,t9⟩:=Qa7 A1.rel.rh ho1;have hμ:s1.μ hd=s.μ hd:=A1.step.le.μ hd hdm;rw[hμ]at t1 t9;obtain⟨u1,u2⟩:=t9 .busy pd _ (.inl rfl);refine⟨_,run_beginRound t1 t2,?_⟩;have hreq:{r1 with state:=.busy,pending:=pd}={r1 with state:=.busy}:=by rw[←t3]
 rw[hreq]at u1 u2;exact⟨A1.rel.world u2 u1,(A1.step.trans u2).more (fun x hx=>by
   rcases List.mem_append.1 hx with hx|hx
   ·exact List.mem_cons_of_mem _ hx
   ·simp only[List.mem_singleton]at hx;exact hx▸List.mem_cons_self),A1.dom,A1.le⟩
theorem CallPan.yld{gl:T (List V)}{hd:Nat}{ars:List V}{H:T O}{nx:Nat}{r:CR}{pd0:Option Code}{f0:Nat}{fn:Func}{tm tm1:TM}{ps:List Nat}{assign body:Code}(hf:P.funcs[f0]? =some fn)(ho:H.get hd=some (.loop .ready pd0 (f0+1) tm ps assign body))(htm1:putPs tm ps ars=some tm1)
  (h : SatF P f0 (some hd) nx assign ⟨tm1, H, nx, []⟩ (fun e st1 => e = .normal ∧ ∃ pd fn1 tmx ps1 as1 bd1, st1.H.get hd = some (.loop .ready pd fn1 tmx ps1 as1 bd1) ∧
   SatF P f0 (some hd) nx body ⟨st1.tm,st1.H.put hd (.loop .busy pd fn1 tmx ps1 as1 bd1),st1.nx,hd::st1.lg⟩ (fun e st2=>e= .pan r.v∧st2.H=r.H∧st2.nx=r.nx∧∀x,x∈st2.lg→x∈r.lg))):CallPan P gl (.yld hd) ars H nx r:=by
 intro s w fv vals hc hargs hH hgl hn;obtain⟨X,hrun,hdm,A0⟩:=Qwg (P:=P) (gl:=gl) ho htm1 hc hargs hH hn;refine⟨_,hrun,?_,fun⟨f,c,e⟩=>by cases e⟩
 refine Qia (F:=Fence.wide) (n:=3) trivial ?_;have hrdd: ∀h,some hd=some h→s.dom h:=fun h e=>by cases e;exact hdm
 refine Qo1 (l:=some (s.μ hd)) (h (bs w.heap.size) s w s w _ hn (Nat.le_refl _) hrdd A0 _ ?_)
 rintro e st1 ⟨rfl,pd,fn1,tmx,ps1,as1,bd1,ho1,hbody⟩ s1 w1 a1 A1
 obtain⟨w2,hbr,A1'⟩:=Qwf (P:=P) A1 hdm ho1;refine⟨w2,hbr,?_⟩;have hwp:=hbody (bs w.heap.size) s w s1 _ a1 hn (Nat.le_refl _) hrdd A1' (Qja (FF (some (s.μ hd))) 3 P (s.μ hd) f0 (Qig s w nx r)) (by
  rintro e st2 ⟨rfl,h1,h2,h3⟩ s2 w2 a2 A2 u hu
  refine⟨fn,hf,?_⟩;obtain⟨Ds,d1,d2,d3⟩:=A2.rel.df;have d2:=(List.nodup_append.1 d2).1;have d3:=fun D(hD:D∈Ds)=>d3 D (List.mem_append.2 (.inl hD))
  rw[d1];refine Qb1 (F:=FF (some (s.μ hd))) (by simp) Ds w2 d2 (fun D hD=>(d3 D hD).2.2.1) (fun w'' g1 g2 g3 g4 g5=>?_)
  obtain⟨k1,k2,_⟩:=A2.unmarked (Nat.le_refl _) d3 g1 g2 g3 g4 g5 hH.old;rw[h1]at k1;exact⟨⟨_,rfl⟩,u,s2,rfl,hu,k1,k2.more h3,fun i=>by rw[A2.dom,h2],by rw[←h2];exact A2.le⟩)
 exact Qo1 (l:=some (s.μ hd)) hwp
theorem CallPan.fnF{E:Env}(hE:E.Ok P){gl:T (List V)}{f:Nat}{caps ars:List V}{H:T O}{nx:Nat}{r:CR}{fi:FI}(hfi:E.code f=some fi)(hle:Nat.ble (ars++caps).length fi.ntmps=true)
  (h:SatF P f none nx fi.body ⟨⟨putAll (blank fi.ntmps) 0 (ars++caps),gl,fi.ntmps⟩,H,nx,[]⟩ (fun e st=>e= .pan r.v∧st.H=r.H∧st.nx=r.nx∧st.lg=r.lg)):CallPan P gl (.fn f caps) ars H nx r:=by
 intro s w fv vals hc hargs hH hgl hn;obtain⟨vs,rfl,hcaps⟩:=hc;have hrun: ∀x:Result Next,(callFunc f (vals++vs)).run P w=x→((do let d←Deferred.ofValue (.func (.func f) #[] vs) vals;invoke d.target d.args):Sem Next).run P w=x:=by
  intro x hx;simp[Deferred.ofValue,invoke,hx]
 obtain⟨fn,f1,f2,f3,f4,f5⟩:=hE.code f fi hfi;refine⟨_,hrun _ (f5 _ w),?_,fun _=>⟨_,_,rfl⟩⟩
 have A0:=Qer hE hfi hle hcaps hargs hH hgl hn [];refine Qh6 (F:=Fence.wide) (n:=4) f1 f2 trivial (Qo1 (n:=5) (l:=none) ?_);rw[f3];refine h _ s w s w _ hn (Nat.le_refl _) (fun h e=>by cases e) A0 _ ?_
 rintro e st ⟨rfl,h1,h2,h3⟩ s' w' a' A u hu
 obtain⟨Ds,d1,d2,d3⟩:=A.rel.df;have d2:=(List.nodup_append.1 d2).1;have d3:=fun D(hD:D∈Ds)=>d3 D (List.mem_append.2 (.inl hD))
 show LeavesInM Fence.wide 4 P fn a'.tmps (Qig s w nx r) a'.defers (.panicking [{v:=u,recovered:=false}]) w';rw[d1];refine Qb1 (F:=Fence.wide) (by simp) Ds w' d2 (fun D hD=>(d3 D hD).2.2.1) (fun w'' g1 g2 g3 g4 g5=>?_)
 obtain⟨k1,k2,_⟩:=A.unmarked (Nat.le_refl _) d3 g1 g2 g3 g4 g5 hH.old;rw[h1]at k1;rw[h3]at k2;exact⟨u,s',rfl,hu,k1,k2,fun i=>by rw[A.dom,h2],by rw[←h2];exact A.le⟩
variable {P:Program}
def defMode:Option V→Bool→Value→FrameMode
 |none,_,_=>.returning
 |some _,b,u=>.panicking [{v:=u,recovered:=b}]
def DefSpec(P:Program)(gl:T (List V))(g:Nat)(caps ars:List V)(H:T O)(nx:Nat)(pan:Option V)(r:CR):Prop:=
 ∀(s:Sig)(w:World)(vs vals:Array Value)(u:Value),RL s w caps vs.toList→RL s w ars vals.toList→RH s w H.get→GL s w gl→(∀i,nx≤i→¬s.dom i)→(∀x,pan=some x→∀s2 w2,RV s2 w2 x u)→
  CallsDIn Fence.wide 3 P g (vals++vs) (defMode pan false u) w (fun e u' w'=>Qa8 s w nx r e w'∧u'=defMode pan true u)
theorem Qr0(pan:Option V)(u:Value):settle (defMode pan true u)= .returning:=by
 cases pan<;>rfl
theorem Qir(pan:Option V)(b:Bool)(u:Value):defMode pan b u≠ .run:=by
 cases pan<;>simp[defMode]
theorem defer_wp{l:Option Nat}{o:Oper}{tm:TM}{c:Call}{fo:Operand}{g:Nat}{caps ars:List V}{s:Sig}{w:World}{a:Act}{K:Act→World→Prop}{Q:Exit→Act→World→Prop}(hl:l=none)(hop:o.op= .defer c)(hc:c.callee= .value fo)(hT:RT s w tm a.tmps)(hf:ev tm fo=some (.fn g caps))(ha:evs tm c.args.toList=some ars)
  (hK: ∀vs vals:Array Value,RL s w caps vs.toList→RL s w ars vals.toList→K ({a with defers:={target:=.fn (.func g) vs,args:=vals}::a.defers}.put o.dst undef) w):o.wpIn (FF l) 5 P a w K Q:=by
 subst hl;refine⟨fun f _=>Qd1 none f,?_⟩
 obtain⟨vs,hfv,hcaps⟩:=ev_rv hT hf;have:(o.semAt (FF none).round a.eval).run P w= .ok (.defer {target:=.fn (.func g) vs,args:=c.args.map a.eval}) w:=by
  show(execOp a.eval o).run P w=_;simp only[execOp,hop,resolve,hc,hfv];simp[Deferred.ofValue]
 rw[this];exact hK vs _ hcaps (by rw[Array.toList_map];exact evs_rl hT ha)
def Qo2(P:Program)(E:Env)(gl:T (List V))(g:Nat)(caps ars:List V)(res:List ResultVar)(Z:V→T O→Nat→List Nat→Prop)(e:Ex)(st:St):Prop:=
 ∃(pan:Option V)(r:CR),((e= .normal∨e= .ret)∧pan=none∨∃x,e= .pan x∧pan=some x)∧DefSpec P gl g caps ars st.H st.nx pan r∧
  ∃v,retV E.G st.tm r.H res=some v∧Z v r.H r.nx (r.lg++st.lg)
variable {P:Program}
theorem Qg5{F:Fence}{n:Nat}{cs:List Frame}: ∀(Ds:List Nat)(w:World)(fr:Frame),fr.mode≠ .run→fr.defers=Ds.map Qc8→F.fn fr.fn→F.room (cs.length+1+n)→Ds.Nodup→(∀D∈Ds,w.heap[D]? =some (.deferred (some [])))→
  ∃w',StepsIn (Machine.fenced P F) P (lone fr cs w) (lone {fr with defers:=[]} cs w')∧(∀b,b∉Ds→w'.heap[b]? =w.heap[b]?)∧w'.heap.size=w.heap.size∧w'.os=w.os∧w'.tape=w.tape∧w'.output=w.output
 | [], w, fr, _, hd, _, _, _, _ => ⟨w, by
   have:({fr with defers:=[]}:Frame)=fr:=by cases fr;simp at hd;simp[hd]
   rw[this];exact StepsIn.refl _,fun _ _=>rfl,rfl,rfl,rfl,rfl⟩
 | D :: Ds, w, fr, hm, hd, hF, hr, hn, hD => by
  have hd0:=hD D (List.mem_cons_self);obtain⟨h1,h2⟩:=List.nodup_cons.1 hn;have hs:=step_collected (P:=P) (cs:=cs) (w:=w) (fr:=fr) hm hd (r:=D) rfl (run_takeDeferred hd0);have i1:(lone fr cs w).fenced P F:=fenced_out hF hr hm hd (fun g hg=>by simp[Qc8,Target.leads]at hg)
  obtain⟨w',g0,g1,g2,g3,g4,g5⟩:=Qg5 Ds (w.putObj D (.deferred none)) {fr with defers:=[]++Ds.map Qc8} hm rfl hF hr h2 (fun D' hD'=>by
   have hne:D≠D':=fun e=>h1 (e▸hD')
   rw[World.putObj_heap_other (Ne.symm hne)];exact hD D' (List.mem_cons_of_mem _ hD'))
  refine⟨w',.head i1 hs g0,fun b hb=>?_,by rw[g2];simp[World.putObj],g3,g4,g5⟩
  rw[List.mem_cons,not_or]at hb;rw[g1 b hb.2,World.putObj_heap_other hb.1]
def Qcm(P:Program)(fn:Func)(c₀:Frame)(cs:List Frame)(R:Ending→FrameMode→World→Prop):Exit→Act→List Frame→World→Prop
 | .normal, a, cs', w | .ret, a, cs', w => ∃ Ds : List Nat, a.defers = Ds.map Qc8 ∧ Ds.Nodup ∧ (∀ D ∈ Ds, w.heap[D]? = some (.deferred (some []))) ∧ ∃ u', cs' = { c₀ with mode := u' } :: cs ∧
   ∀w',(∀b,b∉Ds→w'.heap[b]? =w.heap[b]?)→w'.heap.size=w.heap.size→w'.os=w.os→w'.tape=w.tape→w'.output=w.output→∃v,(results fn a.tmps).run P w'= .ok v w'∧R (.returned v) u' w'
 | _,_,_,_=>False
theorem Qlf{F:Fence}{n:Nat}{f:FuncId}{fn:Func}{c:Code}{args:Array Value}{u:FrameMode}{w:World}{R:Ending→FrameMode→World→Prop}
  (hf:P.funcs[f]? =some fn)(hb:fn.body=some c)(hF:F.fn f)
  (h: ∀(c₀:Frame)(cs:List Frame),c₀.mode=u→c.wpSIn F n P (Qcm P fn c₀ cs R) {tmps:=args++Array.replicate (fn.ntmps-args.size) undef,defers:=[]} (c₀::cs) w):
  CallsDIn F n P f args u w R:=by
 refine⟨hF,fun c₀ cs hu hroom=>?_⟩
 let b:Frame:={(default:Frame)with fn:=f,kind:=.deferred,roundOf:=none}
 have henter:Frame.enter P f args .deferred=
   b.atR {tmps:=args++Array.replicate (fn.ntmps-args.size) undef,defers:=[]} [.code c]:=by
  simp[Frame.enter,Frame.atR,hf,hb,b]
 obtain⟨e,a',cs',w',hl,hq,harr⟩:=h c₀ cs hu b [] rfl rfl hF hroom;rw[←henter]at harr;have fin: ∀(todo:List Item),StepsIn (Machine.fenced P F) P (lone (Frame.enter P f args .deferred) (c₀::cs) w) (lone {b.atR a' todo with mode:=.returning} cs' w')→Qcm P fn c₀ cs R .normal a' cs' w'→
   ∃e u' w2 fr,R e u' w2∧ComesIn (Machine.fenced P F) P (lone (Frame.enter P f args .deferred) (c₀::cs) w) (lone fr ({c₀ with mode:=u'}::cs) w2) e∧fr.kind= .deferred∧fr.fn=f∧fr.going P w2 e:=by
  rintro todo hs ⟨Ds,d1,d2,d3,u',rfl,hres⟩
  obtain⟨w2,g0,g1,g2,g3,g4,g5⟩:=Qg5 (P:=P) (F:=F) (n:=n) (cs:={c₀ with mode:=u'}::cs) Ds w' {b.atR a' todo with mode:=.returning} (by simp) d1 hF hroom d2 d3
  obtain⟨v,hr,hR⟩:=hres w2 g1 g2 g3 g4 g5;exact⟨.returned v,u',w2,_,hR,StepsIn.trans hs g0,rfl,rfl,rfl,rfl,fn,hf,hr⟩
 cases e with
 |normal=>exact fin [] (StepsIn.trans harr (.one (fenced_calm (fr:=b.atR a' []) hF (hl▸hroom) rfl) (stepR_end rfl))) hq
 |ret=>
  obtain⟨todo,hs⟩:=harr.1 rfl;exact fin todo hs hq
 |panic chain=>exact hq.elim
 |exit id=>exact hq.elim
 |goto l=>exact hq.elim
 |outgrown=>exact hq.elim
def calmsR(E:Env)(ops:Array Oper)(H:T O):List Oper→TM→Option TM
 |[],tm=>some tm
 | o :: l, tm => match wantedV tm ops o with
  |some true=>match calm E.G tm H.get o with
   |some (x,_)=>calmsR E ops H l (tm.put o.dst x)
   |none=>none
  | _=>none
theorem RT.putv{s:Sig}{w:World}{tm:TM}{a:Act}(hT:RT s w tm a.tmps){d:Option Nat}{x:V}{v:Value}(hv:RV s w x v):RT s w (tm.put d x) (a.put d v).tmps:=by
 refine⟨by rw[Qe4,put_n];exact hT.1,fun i y hy=>?_,by rw[Qa3];exact hT.2.2⟩
 cases d with
 |none=>exact hT.2.1 i y (by obtain⟨p,q,r⟩:=tm;exact hy)
 | some t =>
  rw[TM.put_some]at hy;cases hb:Nat.blt t tm.n with
  | false =>
   rw[hb,cond_false]at hy;obtain⟨u,hu,hr⟩:=hT.2.1 i y hy;have hlt:=(Array.getElem?_eq_some_iff.1 hu).1;have hne:some t≠some i:=fun e=>by
    have e':=Option.some.inj e;rw[hT.1]at hlt;have h2:t<tm.n:=by omega
    have:Nat.blt t tm.n=true:=Nat.ble_eq_true_of_le h2;rw[hb]at this;cases this
   exact⟨u,by rw[Qbb hne];exact hu,hr⟩
  | true =>
   rw[hb,cond_true]at hy;dsimp only at hy;rw[T.get_put]at hy;split at hy
   ·rename_i e;cases hy;rw[e];exact⟨v,Qe3 (by rw[hT.1];exact Nat.le_of_ble_eq_true hb),hv⟩
   ·rename_i hne;obtain⟨u,hu,hr⟩:=hT.2.1 i y hy;exact⟨u,by rw[Qbb (fun e=>hne (by cases e;rfl))];exact hu,hr⟩
theorem Qlg{E:Env}(hG:E.G.Ok P){n:Nat}{ops:Array Oper}{H:T O}{s:Sig}{w:World}{cs:List Frame}{Q:Exit→Act→List Frame→World→Prop}(hH:RH s w H.get): ∀(os:List Oper)(k:Nat)(tm tm':TM)(a:Act),(∀j,j<os.length→os[j]? =ops[k+j]?)→calmsR E ops H os tm=some tm'→RT s w tm a.tmps→(∀a':Act,a'.defers=a.defers→RT s w tm' a'.tmps→Q .normal a' cs w)→
  wpOpsSIn Fence.wide n P ops Q (List.range' k os.length) a cs w
 |[],k,tm,tm',a,_,h,hT,hQ=>by cases h;exact hQ a rfl hT
 | o :: os, k, tm, tm', a, hl, h, hT, hQ => by
  have h0:ops[k]? =some o:=by simpa using (hl 0 (by simp)).symm
  have hl': ∀j,j<os.length→os[j]? =ops[k+1+j]? :=fun j hj=>by have:=hl (j+1) (by simpa using hj);simpa [Nat.add_assoc,Nat.add_comm 1 j]using this
  rw[List.length_cons,List.range'_succ];unfold wpOpsSIn;rw[h0];dsimp only;unfold calmsR at h;split at h
  ·rename_i hw;split at h
   ·rename_i x rd hc;rw[if_pos (Qa4 hT hw)];obtain⟨u,g1,g2⟩:=Qem hG hH hT hc;refine⟨fun f _=>trivial,?_⟩
    rw[g2 w (fun _ _=>rfl) (fun _ _=>rfl)]
    refine Qlg hG hH os (k+1) (tm.put o.dst x) tm' _ hl' h (RT.putv hT g1) (fun a' hd hT'=>hQ a' (hd.trans ?_) hT')
    cases o.dst<;>rfl
   ·cases h
  ·cases h
def recV:Option V→V
 |none=>.nili
 |some x=>x
theorem DefSpec.of{E:Env}(hE:E.Ok P){gl:T (List V)}{g:Nat}{caps ars:List V}{H:T O}{nx:Nat}{pan:Option V}{r:CR}{fg:FI}{id:Nat}{ops:Array Oper}{rest:Code}{o:Oper}{os:List Oper}{c:Call}{tm1:TM}(hfg:E.code g=some fg)(hle:Nat.ble (ars++caps).length fg.ntmps=true)(hbody:fg.body= .seq (.region id ops false) rest)(hops:ops.toList=o::os)(hgd:o.guard=none)(hop:o.op= .call c)(hcc:c.callee= .builtin .recover)
  (h1:calmsR E ops H os ((⟨putAll (blank fg.ntmps) 0 (ars++caps),gl,fg.ntmps⟩:TM).put o.dst (recV pan))=some tm1)
  (h2:Sat P none nx rest ⟨tm1,H,nx,[]⟩ (fun e st=>(e= .normal∨e= .ret)∧retV E.G st.tm st.H fg.res=some r.v∧st.H=r.H∧st.nx=r.nx∧st.lg=r.lg)):DefSpec P gl g caps ars H nx pan r:=by
 intro s w vs vals u hcaps hargs hH hgl hn hu;obtain⟨fn,f1,f2,f3,f4,f5⟩:=hE.code g fg hfg;have A0:=Qer hE hfg hle hcaps hargs hH hgl hn [];refine Qlf (F:=Fence.wide) (n:=3) f1 f2 trivial fun c₀ cs hmode=>?_
 rw[f3,hbody];refine wpSIn_seq (wpSIn_region ?_);have h0:ops[0]? =some o:=by rw[←Array.getElem?_toList,hops];rfl
 have hsz:ops.size=os.length+1:=by rw[←Array.length_toList,hops];rfl
 rw[hsz,List.range_eq_range',List.range'_succ];unfold wpOpsSIn;rw[h0];dsimp only;have hw:Region.wanted o (yielded ops ((vals++vs)++Array.replicate (fg.ntmps-(vals++vs).size) undef))=true:=by unfold Region.wanted;rw[hgd]
 rw[if_pos hw];refine⟨fun f _=>trivial,?_⟩
 have hrun: ∀a:Act,(execOp a.eval o).run P w= .ok .recover w:=fun a=>by
  simp[execOp,hop,resolve,hcc,invoke,builtin]
 rw[hrun];dsimp only
 -- whatever is caught: the rest
 have go: ∀(cs':List Frame)(v:Value)(u':FrameMode),cs'={c₀ with mode:=u'}::cs→RV s w (recV pan) v→u'=defMode pan true u→
   wpOpsSIn Fence.wide 3 P ops (Exit.thenS (rest.wpSIn Fence.wide 3 P (Qcm P fn c₀ cs (fun e u' w'=>Qa8 s w nx r e w'∧u'=defMode pan true u))) (Qcm P fn c₀ cs (fun e u' w'=>Qa8 s w nx r e w'∧u'=defMode pan true u))) (List.range' (0+1) os.length) (({tmps:=(vals++vs)++Array.replicate (fg.ntmps-(vals++vs).size) undef,defers:=[]}:Act).put o.dst v) cs' w:=by
  intro cs' v u' hcs hv hu';refine Qlg hE.G hH os 1 _ tm1 _ (fun j hj=>?_) h1 (RT.putv A0.rel.rt hv) (fun a' hd hT'=>?_)
  ·rw[←Array.getElem?_toList,hops,Nat.add_comm];rfl
  ·have hd0 : a'.defers = [] := hd.trans (by cases o.dst <;> rfl)
   have A1:Ats (bs w.heap.size) s w nx ⟨tm1,H,nx,[]⟩ s w a':=⟨⟨hH,hT',hn,[],by rw[hd0];rfl,List.nodup_nil,fun D hD=>by simp at hD⟩,Step.refl s w [],dom_same s _,Nat.le_refl _⟩
   show rest.wpSIn _ _ _ _ _ _ _;refine wpSIn_of_wpIn rfl (Qbr (n:=5) (l:=none) (h2 _ s w s w a' hn (Nat.le_refl _) (fun h e=>by cases e) A1 _ ?_))
   rintro e st ⟨he,hret,e1,e2,e3⟩ s' w' a2 A
   have key:Qcm P fn c₀ cs (fun e u' w'=>Qa8 s w nx r e w'∧u'=defMode pan true u) .normal a2 cs' w':=by
    obtain⟨Ds,d1,d2,d3⟩:=A.rel.df;have d2:=(List.nodup_append.1 d2).1;have d3:=fun D(hD:D∈Ds)=>d3 D (List.mem_append.2 (.inl hD))
    rw[List.append_nil]at d1;refine⟨Ds,d1,d2,fun D hD=>(d3 D hD).2.2.1,u',hcs,fun w'' g1 g2 g3 g4 g5=>?_⟩
    obtain⟨k1,k2,k3⟩:=A.unmarked (Ds:=Ds) (Nat.le_refl _) d3 g1 g2 g3 g4 g5 hH.old;rw[←f4]at hret;obtain⟨x,v1,v2⟩:=Qf4 (P:=P) hE.G k1 (A.rel.rt.mono (Sig.Le.refl s') k3) rfl hret;refine⟨x,v2,⟨x,s',rfl,v1,by rw[←e1];exact k1,by rw[←e3];exact k2,fun i=>by rw[A.dom,e2],by rw[←e2];exact A.le⟩,hu'⟩
   rcases he with rfl|rfl
   ·exact key
   ·exact key
 cases pan with
 |none=>
  have hrec:recoverD (c₀::cs)=none:=by simp[recoverD,hmode,defMode]
  rw[hrec];dsimp only;exact go (c₀::cs) .nilIface .returning (by rw[←(show c₀.mode= .returning from hmode)]) rfl rfl
 |some x=>
  have hrec:recoverD (c₀::cs)=some (u,{c₀ with mode:=.panicking [{v:=u,recovered:=true}]}::cs):=by simp[recoverD,hmode,defMode]
  rw[hrec];dsimp only;exact go _ u _ rfl (hu x rfl s w) rfl
variable {P:Program}
abbrev Qsc:=V→List V→T O→Nat→T (List V)→Option CR
def panOpE (pc : Qsc) (st : St) (o : Oper) : Option (V × St) :=
 match o.op with
 | .panic x=>match ev st.tm x with
  |some (.ifc t y)=>bif gnd y then some (.ifc t y,st)else none
  | _=>none
 | .call c => match c.callee with
  | .value f => match ev st.tm f, evs st.tm c.args.toList with
   |some g,some l=>match pc g l st.H st.nx st.tm.gl with
    |some r=>some (r.v,⟨st.tm,r.H,r.nx,r.lg++st.lg⟩)
    |none=>none
   | _,_=>none
  | _=>none
 | _=>none
def failAt(E:Env)(call:Qal)(ops:Array Oper):List Oper→Nat→St→Option (Nat×St)
 |[],_,_=>none
 |o::l,i,st=>match seqR E call ops [o] st with
  |some st'=>failAt E call ops l (i+1) st'
  |none=>some (i,st)
def hookV (E : Env) (tm : TM) (H : T O) (o : Oper) : Option V := match o.op with
 | .call c => match c.callee with
  | .value f => match ev tm f, evs tm c.args.toList with
   |some (.fn g caps),some l=>match extCall E (.fn g caps) l with
    |some _=>none
    |none=>E.hook g (l++caps) H tm.gl
   | _,_=>none
  | _=>none
 | _=>none
def calmA (E : Env) (H : T O) (ops : Array Oper) (j0 : Nat) : List Oper → Nat → TM → List (Nat × V)
 |[],_,_=>[]
 | o :: l, k, tm => bif Nat.beq k j0 then calmA E H ops j0 l (k + 1) tm else match wantedV tm ops o with
  | some true => match calm E.G tm H.get o with
   |some (v,_)=>(k,v)::calmA E H ops j0 l (k+1) (tm.put o.dst v)
   |none=>match hookV E tm H o with
    |some v=>(k,v)::calmA E H ops j0 l (k+1) (tm.put o.dst v)
    |none=>calmA E H ops j0 l (k+1) tm
  |some false=>(k,.tup [])::calmA E H ops j0 l (k+1) (tm.put o.dst (.tup []))
  |none=>calmA E H ops j0 l (k+1) tm
def lookA:List (Nat×V)→Nat→V
 |[],_=>.nils
 |(j,x)::l,k=>bif Nat.beq j k then x else lookA l k
def isC:Operand→Bool
 | .const _=>true
 | _=>false
def gbsA(E:Env)(nx:Nat)(ops:Array Oper)(A:List Nat)(j0:Nat):List Nat:=(ops.toList.zipIdx.filter fun p=> !A.contains p.2&& !Nat.beq p.2 j0&&p.1.guard.isNone&&p.1.op.operands.toList.all isC&&(allocO E.G ⟨.e,.e,0⟩ nx p.1).isSome).map (·.2)
def panR (E : Env) (call : Qal) (pc : Qsc) (ops : Array Oper) (draw : Bool) (st : St) : Option (V × St) :=
 match failAt E call ops ops.toList 0 st with
 | some (i, st1) => match ops[i]? with
  | some o => bif draw then (bif Quy ops (Region.before ops) ((calmA E st.H ops i ops.toList 0 st.tm).map (·.1)) (gbsA E st.nx ops ((calmA E st.H ops i ops.toList 0 st.tm).map (·.1)) i) i then (match wantedV (puts ops (lookA (calmA E st.H ops i ops.toList 0 st.tm)) ((calmA E st.H ops i ops.toList 0 st.tm).map (·.1)) st.tm) ops o with
    |some true=>match panOpE pc ⟨puts ops (lookA (calmA E st.H ops i ops.toList 0 st.tm)) ((calmA E st.H ops i ops.toList 0 st.tm).map (·.1)) st.tm,st.H,st.nx,st.lg⟩ o with
     |some (v,st')=>some (v,⟨⟨.e,st.tm.gl,st.tm.n⟩,st'.H,st'.nx,st'.lg⟩)
     |none=>none
    | _=>none)else none)else match wantedV st1.tm ops o with
   |some true=>panOpE pc st1 o
   | _=>none
  |none=>none
 |none=>none
def panL(ex:St→Option Rs)(pa:St→Option (V×St)):Nat→St→Option (V×St)
 |0,_=>none
 |n+1,st=>match ex st with
  |some [(.normal,st1)]=>panL ex pa n st1
  | _=>pa st
theorem seqR_one{E:Env}{call:Qal}{ops:Array Oper}{o:Oper}{l:List Oper}{st st':St}(h:seqR E call ops [o] st=some st'):seqR E call ops (o::l) st=seqR E call ops l st':=by
 conv=>lhs;unfold seqR
 unfold seqR at h;split at h
 ·split at h
  ·simp only[seqR]at h;cases h;rfl
  ·simp only[seqR]at h;cases h;rfl
  ·simp only[seqR]at h;cases h;rfl
  ·cases h
 ·simp only[seqR]at h;cases h;rfl
 ·cases h
theorem Ql1{E:Env}{call:Qal}{ops:Array Oper}: ∀{l:List Oper}{i i':Nat}{st st1:St},failAt E call ops l i st=some (i',st1)→∃k,i'=i+k∧k<l.length∧seqR E call ops (l.take k) st=some st1
 |[],_,_,_,_,h=>by cases h
 | o :: l, i, i', st, st1, h => by
  unfold failAt at h;split at h
  ·rename_i st' h1;obtain⟨k,e1,e2,e3⟩:=Ql1 h;exact⟨k+1,by omega,by simpa using e2,by rw[List.take_succ_cons,seqR_one h1];exact e3⟩
  ·cases h;exact⟨0,rfl,by simp,rfl⟩
theorem Qcr{E:Env}{H:T O}{ops:Array Oper}{j0:Nat}: ∀{l:List Oper}{k:Nat}{tm:TM}{p:Nat×V},p∈calmA E H ops j0 l k tm→k≤p.1
 |[],_,_,_,h=>by cases h
 | o :: l, k, tm, p, h => by
  unfold calmA at h;cases hb:Nat.beq k j0 with
  |true=>rw[hb,cond_true]at h;exact Nat.le_of_succ_le (Qcr h)
  | false =>
   rw[hb,cond_false]at h;split at h
   ·split at h
    ·rcases List.mem_cons.1 h with rfl | h
     ·exact Nat.le_refl _
     ·exact Nat.le_of_succ_le (Qcr h)
    ·split at h
     ·rcases List.mem_cons.1 h with rfl | h
      ·exact Nat.le_refl _
      ·exact Nat.le_of_succ_le (Qcr h)
     ·exact Nat.le_of_succ_le (Qcr h)
   ·rcases List.mem_cons.1 h with rfl | h
    ·exact Nat.le_refl _
    ·exact Nat.le_of_succ_le (Qcr h)
   ·exact Nat.le_of_succ_le (Qcr h)
theorem Qi7{ops:Array Oper}{f g:Nat→V}: ∀{l:List Nat}{tm:TM},(∀k∈l,f k=g k)→puts ops f l tm=puts ops g l tm
 |[],_,_=>rfl
 |k::l,tm,h=>by
  show puts ops f l _=puts ops g l _;rw[h k (List.mem_cons_self)];exact Qi7 fun x hx=>h x (List.mem_cons_of_mem _ hx)
theorem Qoj{E:Env}{call:Qal}{ops:Array Oper}: ∀(l:List Oper)(st st':St),seqR E call ops l st=some st'→st'.tm.gl=st.tm.gl
 |[],_,_,h=>by cases h;rfl
 |o::l,st,st',h=>by
  unfold seqR at h;split at h
  ·split at h<;>first|exact(Qoj l _ _ h).trans (Qa3 _ _ _)|cases h
  ·exact(Qoj l _ _ h).trans (Qa3 _ _ _)
  ·cases h
theorem Qt5{E:Env}{ex:ExF}{tm:TM}{H:T O}{nx:Nat}{o:Oper}{v:V}(h:hookV E tm H o=some v):effO E (callW E ex tm.gl) tm H nx o=some ⟨v,H,nx,[]⟩:=by
 unfold hookV at h;split at h
 ·rename_i c hop;split at h
  ·rename_i f hc;split at h
   ·rename_i g caps l hf hl;split at h
    ·cases h
    ·rename_i hx;unfold effO;simp only[hop,hc,hf,hl,hx,callW,Qgl,h]
   ·cases h
  ·cases h
 ·cases h
theorem Qjt{E:Env}{call:Qal}{H:T O}{nx:Nat}{ops:Array Oper}{j0:Nat}: ∀(l:List Oper)(k:Nat)(tm:TM),(∀tm',tm'.gl=tm.gl→∀o v,hookV E tm' H o=some v→effO E call tm' H nx o=some ⟨v,H,nx,[]⟩)→(∀j,j<l.length→l[j]? =ops[k+j]?)→∀(L:List (Nat×V)),calmA E H ops j0 l k tm=L→∀l1 i l2,L.map (·.1)=l1++i::l2→∃o,ops[i]? =some o∧QOp E call ops H nx (puts ops (lookA L) l1 tm) o (lookA L i)
 |[],_,_,_,_,L,e,l1,i,l2,h=>by subst e;simp[calmA]at h
 | o :: l, k, tm, hh, hl, L, e0, l1, i, l2, h => by
  have hl': ∀j,j<l.length→l[j]? =ops[k+1+j]? :=fun j hj=>by have:=hl (j+1) (by simpa using hj);simpa [Nat.add_assoc,Nat.add_comm 1 j]using this
  have h0:ops[k]? =some o:=by simpa using (hl 0 (by simp)).symm
  have skip:calmA E H ops j0 l (k+1) tm=L→∃o,ops[i]? =some o∧QOp E call ops H nx (puts ops (lookA L) l1 tm) o (lookA L i):=fun e=>Qjt l (k+1) tm hh hl' L e l1 i l2 h
  have more: ∀x,QOp E call ops H nx tm o x→(k,x)::calmA E H ops j0 l (k+1) (tm.put o.dst x)=L→∃o,ops[i]? =some o∧QOp E call ops H nx (puts ops (lookA L) l1 tm) o (lookA L i):=fun x hq e=>by
   have hlk:lookA L k=x:=by
    rw[←e];show(bif Nat.beq k k then x else lookA _ k)=x
    rw[Nat.beq_refl k];rfl
   rw[←e,List.map_cons]at h;cases l1 with
   |nil=>
    rw[List.nil_append]at h;obtain⟨rfl,_⟩:=List.cons.inj h;refine⟨o,h0,?_⟩;dsimp only;rw[hlk];exact hq
   | cons y l1 =>
    rw[List.cons_append]at h;obtain⟨hy,h'⟩:=List.cons.inj h;replace h:=h';clear h';dsimp only at hy;subst hy;obtain⟨o',g1,g2⟩:=Qjt l (k+1) (tm.put o.dst x) (by rw[Qa3];exact hh) hl' _ rfl l1 i l2 h
    refine⟨o',g1,?_⟩;have hne: ∀z∈l1++i::l2,lookA L z=lookA (calmA E H ops j0 l (k+1) (tm.put o.dst x)) z:=fun z hz=>by
     rw[←h]at hz;obtain⟨p,hp,rfl⟩:=List.mem_map.1 hz;have:=Qcr hp;rw[←e];have hb:Nat.beq k p.1=false:=by
      cases hb:Nat.beq k p.1 with
      |false=>rfl
      |true=>have:=Nat.eq_of_beq_eq_true hb;omega
     show(bif Nat.beq k p.1 then x else lookA _ p.1)=_
     rw[hb];rfl
    rw[hne i (by simp)]
    have hp2:puts ops (lookA L) (k::l1) tm=puts ops (lookA (calmA E H ops j0 l (k+1) (tm.put o.dst x))) l1 (tm.put o.dst x):=by
     show puts ops _ l1 (tm.put ((ops[k]?).bind (·.dst)) (lookA L k))=_;rw[hlk,h0,Qi7 fun z hz=>hne z (by simp[hz])]
     rfl
    rw[hp2];exact g2
  unfold calmA at e0;cases hb:Nat.beq k j0 with
  |true=>rw[hb,cond_true]at e0;exact skip e0
  | false =>
   rw[hb,cond_false]at e0;split at e0
   ·rename_i hw;split at e0
    ·rename_i v rd hc;exact more v (.inr (.inl ⟨hw,rd,hc⟩)) e0
    ·split at e0
     ·rename_i v hv;exact more v (.inr (.inr ⟨hw,hh tm rfl o v hv⟩)) e0
     ·exact skip e0
   ·rename_i hw;exact more (.tup []) (.inl ⟨hw,rfl⟩) e0
   ·exact skip e0
theorem Qmv{pc:Qsc}{st st':St}{o:Oper}{v:V}(hpc: ∀g l r,pc g l st.H st.nx st.tm.gl=some r→CallPan P st.tm.gl g l st.H st.nx r)(h:panOpE pc st o=some (v,st')):PanOp P st o v st':=by
 unfold panOpE at h;split at h
 ·rename_i x hop;split at h
  ·rename_i t y hx;cases hg:gnd y with
   |false=>rw[hg,cond_false]at h;cases h
   |true=>
    rw[hg,cond_true]at h;cases h;exact .inl ⟨x,t,y,hop,hx,hg,rfl,rfl⟩
  ·cases h
 ·rename_i c hop;split at h
  ·rename_i f hc;split at h
   ·rename_i g l hf hl;split at h
    ·rename_i r hr;cases h;exact .inr ⟨c,f,g,l,r,hop,hc,hf,hl,hpc _ _ _ hr,rfl,rfl⟩
    ·cases h
   ·cases h
  ·cases h
 ·cases h
theorem panR_ok{E:Env}(hE:E.Ok P)(hm:P.follows .mixedOrders=true){n id:Nat}{rd:Option Nat}{nx0:Nat}{ops:Array Oper}{draw:Bool}{pc:Qsc}{st st':St}{v:V}(hps: ∀g l H nx r,pc g l H nx st.tm.gl=some r→CallPan P st.tm.gl g l H nx r)(h:panR E (callW E (exec E n) st.tm.gl) pc ops draw st=some (v,st')):Sat P rd nx0 (.region id ops draw) st (fun e s=>e= .pan v∧s=st'):=by
 have hc:Qa9 P st.tm.gl (callW E (exec E n) st.tm.gl):=Qel hE (Qdq hE hm n) _;unfold panR at h;split at h
 ·rename_i i st1 hf;obtain⟨k,e1,e2,e3⟩:=Ql1 hf;rw[Nat.zero_add]at e1;subst e1;split at h
  ·rename_i o ho;cases draw with
   | true =>
    rw[cond_true]at h;obtain⟨hb,h⟩:=Qaj h;split at h
    ·rename_i hw;split at h
     ·rename_i v' st2 h2;cases h;generalize hA:(calmA E st.H ops i ops.toList 0 st.tm).map (·.1)=A at*;have hg:=(Qkm (ops:=ops) (lookA (calmA E st.H ops i ops.toList 0 st.tm)) A st.tm).1;have hst:=Qmv (fun g l r hr=>by rw[hg]at hr⊢;exact hps g l _ _ r hr) h2
      obtain⟨tm2,H2,nx2,lg2⟩:=st2;have htm:tm2=puts ops (lookA (calmA E st.H ops i ops.toList 0 st.tm)) A st.tm:=by
       rcases hst with⟨_,_,_,_,_,_,_,e⟩|⟨_,_,_,_,_,_,_,_,_,_,_,e⟩
       ·exact congrArg St.tm e
       ·exact congrArg St.tm e
      subst htm;refine Sat.region_panDG hE hm hc hb (fun k hk=>?_) (fun l1 k l2 e=>Qjt ops.toList 0 st.tm (fun tm' e' o v hv=>by rw[←e'];exact Qt5 hv) (fun j hj=>by rw[Nat.zero_add,Array.getElem?_toList]) _ rfl l1 k l2 (by rw[hA];exact e)) ho hw hst ⟨rfl,rfl⟩
      obtain⟨⟨o',k'⟩,hp,rfl⟩:=List.mem_map.1 hk;obtain⟨h1,h2⟩:=List.mem_filter.1 hp;simp only[Bool.and_eq_true]at h2;obtain⟨⟨⟨_,g1⟩,g2⟩,g3⟩:=h2;obtain⟨⟨x,ob⟩,g3⟩:=Option.isSome_iff_exists.1 g3;refine⟨o',x,ob,by simpa using List.mk_mem_zipIdx_iff_getElem?.1 h1,by simpa using g1,fun tm=>?_⟩
      rw[Qpc (tm':=⟨.e,.e,0⟩) (fun y hy=>?_)]
      ·exact g3
      ·have := List.all_eq_true.1 g2 y hy;cases y<;>first|rfl|cases this
     ·cases h
    ·cases h
   | false =>
    rw[cond_false]at h;split at h
    ·rename_i hw;refine Sat.region_pan hE hc e3 ho hw (Qmv (fun g l r hr=>?_) h) ⟨rfl,rfl⟩
     have hg:=Qoj _ _ _ e3;rw[hg]at hr⊢;exact hps g l _ _ r hr
    ·cases h
  ·cases h
 ·cases h
end Go.Proofs.YtcmeiecgijmdjaaDoor.Am
