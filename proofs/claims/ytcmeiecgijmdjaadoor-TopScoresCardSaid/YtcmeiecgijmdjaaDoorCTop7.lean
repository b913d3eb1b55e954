/- Texts behind the claim, part 7: the abstract machine, and what the functions answer. No condition. -/
import Derived.Test.YtcmeiecgijmdjaaDoorCTop6
set_option linter.unusedVariables false
set_option maxHeartbeats 4000000
set_option maxRecDepth 100000
set_option linter.unusedSimpArgs false
set_option linter.unusedSectionVars false
namespace Go.Proofs.YtcmeiecgijmdjaaDoor.Am
open Go.RowKit
theorem fac_les:((List.range 44).all fun c=>(List.range 18).all fun i=>decide (0≤facF c i∧facF c i≤c))=true:=by kernel_rfl
theorem Qpy{c i:Nat}(hc:c<44)(hi:i<18):0≤facF c i∧facF c i≤c:=of_decide_eq_true (all_range.1 (all_range.1 fac_les c hc) i hi)
theorem Qop{α:Type}{f:α→Int}{g:α→Nat}: ∀l:List α,(∀x∈l,-(g x:Int)≤f x∧f x≤g x)→ -((sumN (l.map g):Nat):Int)≤sumI (l.map f)∧sumI (l.map f)≤(sumN (l.map g):Nat)
 |[],_=>by simp[sumI,sumN]
 |x::l,h=>by
  have h1:=Qop l (fun y hy=>h y (List.mem_cons_of_mem _ hy))
  have h2:=h x List.mem_cons_self;simp only[List.map_cons,sumI,sumN];omega
theorem Qvr{l:List Nat}{x:Nat}(h:x∈l):x≤sumN l:=Qdx h
theorem con_bd2{l:List Nat}{r i:Nat}(hi:i<18)(h1:1≤r)(h:sumN l+(r-1)<44): -((sumN l+(r-1):Nat):Int)≤conF facF r l i∧conF facF r l i≤(sumN l+(r-1):Nat):=by
 have h2:=Qop (f:=fun c=>facF c i) (g:=fun c=>c) l (fun c hc=>by
  have:=Qvr hc;have:=Qpy (c:=c) (by omega) hi
  omega)
 have h2':0≤sumI (l.map fun c=>facF c i):=by
  have: ∀l:List Nat,(∀c∈l,c<44)→0≤sumI (l.map fun c=>facF c i):=by
   intro l
   induction l with
   |nil=>intro _;simp[sumI]
   |cons x l ih=>
    intro h;have:=ih (fun y hy=>h y (List.mem_cons_of_mem _ hy))
    have:=Qpy (h x List.mem_cons_self) hi;simp only[List.map_cons,sumI];omega
  exact this l fun c hc=>by have:=Qvr hc;omega
 have h3:=Qpy (c:=r-1) (by omega) hi
 have h4:=Qpy (c:=sumN l+(r-1)) h hi;rw[show List.map (fun c=>c) l=l from List.map_id l]at h2
 unfold conF;omega
theorem Qdg: ∀(l:List Nat)(k:Nat),k<l.length→sumN (l.set k (l.getD k 0+1))=sumN l+1
 |[],_,h=>by cases h
 |x::l,0,_=>by simp[sumN];omega
 |x::l,k+1,h=>by
  have:=Qdg l k (by simpa using h)
  simp only[List.set_cons_succ,List.getD_cons_succ,sumN,this];omega
def totE(es:List (Nat×List Nat)):Nat:=sumN (es.map fun e=>sumN e.2)
theorem Qpn{r q k:Nat}(hk:k<r): ∀{es:List (Nat×List Nat)},(∀e∈es,e.2.length=r)→totE (bump r q k es)=totE es+1∧∀e∈bump r q k es,e.2.length=r
 |[],_=>by
  have h:=Qdg (List.replicate r 0) k (by simpa using hk)
  rw[Qkt]at h;have h0:(List.replicate r 0).getD k 0=0:=by rw[List.getD_eq_getElem?_getD,List.getElem?_replicate];split<;>rfl
  rw[h0]at h;refine⟨by simp only[bump,totE,List.map_cons,List.map_nil,sumN];rw[h],fun e he=>?_⟩
  obtain rfl:=List.mem_singleton.1 he;simp
 | (p, l) :: es, h => by
  have hl:l.length=r:=h (p,l) List.mem_cons_self;unfold bump;by_cases hp:p=q
  ·rw [if_pos hp];refine⟨?_,fun e he=>?_⟩
   ·simp only[totE,List.map_cons,sumN,Qdg l k (by omega)];omega
   ·rcases List.mem_cons.1 he with rfl | he
    ·simpa using hl
    ·exact h e (List.mem_cons_of_mem _ he)
  ·rw [if_neg hp];have ih:=Qpn (q:=q) hk (es:=es) (fun e he=>h e (List.mem_cons_of_mem _ he))
   refine⟨?_,fun e he=>?_⟩
   ·have := ih.1;simp only[totE,List.map_cons,sumN]at this⊢;omega
   ·rcases List.mem_cons.1 he with rfl | he
    ·exact hl
    ·exact ih.2 e he
theorem Qnu{r:Nat}(P:List (Nat×Nat))(h: ∀p∈P,p.2<r):totE (Qao r P)=P.length:=by
 have key: ∀(P Q:List (Nat×Nat)),(∀p∈Q,p.2<r)→(totE (Qao r P)=P.length∧∀e∈Qao r P,e.2.length=r)→totE (Qao r (P++Q))=(P++Q).length∧∀e∈Qao r (P++Q),e.2.length=r:=by
  intro P Q
  induction Q generalizing P with
  |nil=>intro _ h;rw[List.append_nil];exact h
  |cons p Q ih=>
   intro hq h;rw[show P++p::Q=(P++[p])++Q by simp]
   refine ih _ (fun x hx=>hq x (List.mem_cons_of_mem _ hx)) ?_
   rw[Qc3];have:=Qpn (q:=p.1) (hq p List.mem_cons_self) h.2;exact⟨by rw[this.1,h.1];simp,this.2⟩
 have:=key [] P h ⟨rfl,by simp[Qao]⟩
 rw[List.nil_append]at this;exact this.1
theorem Qd3{α:Type}(g:α→Nat)(c:Nat): ∀l:List α,sumN (l.map fun x=>g x+c)=sumN (l.map g)+l.length*c
 |[]=>by simp[sumN]
 |x::l=>by
  simp only[List.map_cons,sumN,Qd3 g c l,List.length_cons,Nat.add_mul];omega
theorem fam_le{cards:List Nat}{cs:List (List Nat)}{v ps:Nat}(hc:CardsOk cards)(hcs: ∀c∈cs,CaseOk cards c)(hv:v<cards.length)(hm:cs.length≤40){i:Nat}(hi:i<18): -160≤famF cards cs v ps i∧famF cards cs v ps i≤160:=by
 have hpo:=Qkh (ps:=ps) hc hcs hv;have hr:=hc.each v hv;have hlt:=fun p hp=>(hpo p hp).2
 have hel:=Qd8 hlt;have hpl:(Qaz cards v ps cs).length=cs.length:=by simp[Qaz]
 have hE:=Qbz _ hlt;have htot:=Qnu _ hlt;unfold famF;rw[←Qd9 (Qj2 i hi) hpo];have:=Qop (f:=fun e=>conF facF (cards.getD v 0) e.2 i) (g:=fun e=>sumN e.2+(cards.getD v 0-1)) (Qao (cards.getD v 0) (Qaz cards v ps cs)) (fun e he=>by
  refine con_bd2 hi (by omega) ?_
  rw[hE.row e he];have:=Qdy (Qaz cards v ps cs) e.1 hlt;omega)
 rw[Qd3]at this;unfold totE at htot;rw[htot]at this;have h3:(Qao (cards.getD v 0) (Qaz cards v ps cs)).length*(cards.getD v 0-1)≤40*3:=Nat.mul_le_mul (by omega) (by omega)
 omega
def nvF(f:Nat→Int):Nat:=Qa0 (fun i=>(f i+4000).toNat) 18
def inB(f:Nat→Int)(b:Int):Prop:=∀i,i<18→ -b≤f i∧f i≤b
theorem inB.mono{f:Nat→Int}{b c:Int}(h:inB f b)(hc:b≤c):inB f c:=fun i hi=>by have:=h i hi;omega
theorem inB.inA{f:Nat→Int}{b:Int}(h:inB f b)(hb:b≤2000):inA f=true:=Qt6 fun i hi=>by have:=h i hi;omega
theorem inB_zero:inB Qap 0:=fun i _=>by show(-0:Int)≤0∧(0:Int)≤0;omega
theorem inB.add{f g:Nat→Int}{b c:Int}(h:inB f b)(k:inB g c):inB (addA f g 1) (b+c):=fun i hi=>by
 have:=h i hi;have:=k i hi;show -(b+c)≤f i+1*g i∧f i+1*g i≤b+c;omega
theorem Qc2{a b:Nat→Int}(ha:inB a 4000)(hb:inB b 4000):cmpF a b=sgn (nvF a) (nvF b):=
 quot_cmp rfl rfl (mixF a b (-1) 18) fun i hi=>by
  rw[Qcg,if_pos hi];have:=ha i hi;have:=hb i hi;omega
theorem Qok{x y:Nat}:0<sgn x y↔y<x:=by
 unfold sgn;split
 ·constructor
  ·intro h;omega
  ·intro h;omega
 ·split
  ·constructor
   ·intro _;assumption
   ·intro _;omega
  ·constructor
   ·intro h;omega
   ·intro h;omega
theorem Qvb{x y:Nat}:sgn x y≤0↔x≤y:=by
 have:=@Qok x y;omega
theorem Qe5{x y:Nat}:sgn x y=0↔x=y:=by
 unfold sgn;split
 ·constructor
  ·intro h;omega
  ·intro h;omega
 ·split
  ·constructor
   ·intro h;omega
   ·intro h;omega
  ·constructor
   ·intro _;omega
   ·intro _;rfl
theorem cmpF_add{a b c:Nat→Int}:cmpF (addA a c 1) (addA b c 1)=cmpF a b:=by
 have e: ∀i,i<18→mixF (addA a c 1) (addA b c 1) (-1) 18 i=mixF a b (-1) 18 i:=fun i hi=>by
  rw[Qcg,Qcg,if_pos hi,if_pos hi];show(a i+1*c i)+ -1*(b i+1*c i)=a i+ -1*b i;omega
 unfold cmpF;rw[Qbe (e:=posF (mixF (addA a c 1) (addA b c 1) (-1) 18) 1) (f:=posF (mixF a b (-1) 18) 1) 18 (fun j hj=>by unfold posF;rw[e j hj]),Qbe (e:=posF (mixF (addA a c 1) (addA b c 1) (-1) 18) (-1)) (f:=posF (mixF a b (-1) 18) (-1)) 18 (fun j hj=>by unfold posF;rw[e j hj])]
theorem nv_mono{a b c:Nat→Int}(ha:inB a 1000)(hb:inB b 1000)(hc:inB c 1000)(h:nvF a≤nvF b):nvF (addA a c 1)≤nvF (addA b c 1):=by
 have e:=@cmpF_add a b c;rw[Qc2 (ha.mono (by decide)) (hb.mono (by decide)),Qc2 ((ha.add hc).mono (by decide)) ((hb.add hc).mono (by decide))]at e
 exact Qvb.1 (by rw[e];exact Qvb.2 h)
theorem nv_inj{a b:Nat→Int}(ha:inB a 4000)(hb:inB b 4000)(h:nvF a=nvF b): ∀i,i<18→a i=b i:=fun i hi=>by
 have e:=Qc2 ha hb;rw[h,show sgn (nvF b) (nvF b)=0 from Qe5.2 rfl]at e;have:=Qm0 (Qe5.1 e) i hi;rw[Qcg,if_pos hi]at this;omega
theorem Qqm{a b:Nat→Int}(h: ∀i,i<18→a i=b i):nvF a=nvF b:=Qbe 18 fun j hj=>by rw[h j hj]
def popc(p:Nat):Nat:=p%2+p/2%2+p/4%2+p/8%2+p/16%2
theorem Qu1(p:Nat):popc p≤5:=by unfold popc;omega
theorem Qb6: ∀s,s<32→∀v,v<5→s.testBit v=true→2^v≤s∧popc s=popc (s-2^v)+1∧∀u,u<5→(s-2^v).testBit u=(s.testBit u&& !decide (u=v)):=by decide+kernel
theorem Qkp: ∀s,s<32→0<s→∃v,v<5∧s.testBit v=true:=by decide+kernel
theorem Qeu: ∀n,n≤5→∀s,s<2^n→∀v,v<5→s.testBit v=true→v<n:=by decide+kernel
theorem Qfz: ∀n,n≤5→∀v,v<5→(2^n-1).testBit v=decide (v<n):=by decide+kernel
theorem Qau{n:Nat}(h:n≤5):2^n≤32:=Nat.le_trans (Nat.pow_le_pow_right (by decide) h) (by decide)
abbrev BSt:=Option (Nat×Nat×(Nat→Int))
def upT(b:BSt)(v p:Nat)(x:Nat→Int):BSt:=match b with
 |none=>some (v,p,x)
 |some (v',p',y)=>if 0<cmpF x y then some (v,p,x)else some (v',p',y)
section
variable (n lim:Nat) (F:Nat→Nat→Nat→Int)
def okT(s v p:Nat):Bool:=decide (p&&& s=p)&&(!p.testBit v&&decide (popc p≤lim))
def tryF(B:Nat→Nat→Int)(s v p:Nat):Nat→Int:=addA (B (s-2^v)) (F v p) 1
def innB(B:Nat→Nat→Int)(s v:Nat)(b:BSt):Nat→BSt
 |0=>b
 |k+1=>if okT lim s v k then upT (innB B s v b k) v k (tryF F B s v k)else innB B s v b k
def outB(B:Nat→Nat→Int)(s:Nat):Nat→BSt
 |0=>none
 |k+1=>if s.testBit k then innB lim F B s k (outB B s k) (s+1)else outB B s k
def valO:BSt→Nat→Int
 |none=>Qap
 |some (_,_,x)=>x
def vO:BSt→Nat
 |none=>0
 |some (v,_,_)=>v
def pO:BSt→Nat
 |none=>0
 |some (_,p,_)=>p
def tabB:Nat→Nat→Nat→Int
 |0=>fun _=>Qap
 |k+1=>fun s=>if s=k then valO (outB lim F (tabB k) k n)else tabB k s
def stB(s:Nat):BSt:=outB lim F (tabB n lim F s) s n
def topB(s:Nat):Nat→Int:=valO (stB n lim F s)
end
section
variable {n lim:Nat} {F:Nat→Nat→Nat→Int}
theorem Qdh: ∀(k s:Nat),tabB n lim F k s=if s<k then topB n lim F s else Qap
 |0,s=>by rw[if_neg (by omega)];rfl
 | k + 1, s => by
  unfold tabB;by_cases h:s=k
  ·rw[if_pos h,if_pos (by omega),h];rfl
  ·rw [if_neg h, Qdh k s];by_cases h2:s<k
   ·rw[if_pos h2,if_pos (by omega)]
   ·rw[if_neg h2,if_neg (by omega)]
structure Best(B:Nat→Nat→Int)(s:Nat)(T:Nat→Nat→Prop)(b:BSt):Prop where
 is: ∀v p x,b=some (v,p,x)→T v p∧x=tryF F B s v p
 top: ∀v p,T v p→∃v' p' x,b=some (v',p',x)∧nvF (tryF F B s v p)≤nvF x
theorem Best.step{B:Nat→Nat→Int}{s:Nat}{T:Nat→Nat→Prop}{b:BSt}(hb: ∀v p,T v p→inB (tryF F B s v p) 4000){v p:Nat}(hx:inB (tryF F B s v p) 4000)(h:Best (F:=F) B s T b):Best (F:=F) B s (fun v' p'=>T v' p'∨v'=v∧p'=p) (upT b v p (tryF F B s v p)):=by
 rcases b with _|⟨v0,p0,y⟩
 ·refine ⟨fun v' p' x e => ?_, fun v' p' ht => ?_⟩
  ·cases e;exact⟨.inr ⟨rfl,rfl⟩,rfl⟩
  ·rcases ht with ht | ⟨rfl, rfl⟩
   ·obtain⟨_,_,_,e,_⟩:=h.top v' p' ht;cases e
   ·exact⟨_,_,_,rfl,Nat.le_refl _⟩
 ·obtain ⟨t0, e0⟩ := h.is v0 p0 y rfl;have hy:inB y 4000:=by rw[e0];exact hb v0 p0 t0
  have hc:=Qc2 hx hy;unfold upT;dsimp only;by_cases hgt:0<cmpF (tryF F B s v p) y
  ·rw [if_pos hgt];rw[hc,Qok]at hgt;refine⟨fun v' p' x e=>?_,fun v' p' ht=>⟨v,p,_,rfl,?_⟩⟩
   ·cases e;exact⟨.inr ⟨rfl,rfl⟩,rfl⟩
   ·rcases ht with ht | ⟨rfl, rfl⟩
    ·obtain ⟨_, _, _, e, hle⟩ := h.top v' p' ht;cases e;omega
    ·exact Nat.le_refl _
  ·rw [if_neg hgt];rw[hc,Qok]at hgt;refine⟨fun v' p' x e=>?_,fun v' p' ht=>⟨v0,p0,y,rfl,?_⟩⟩
   ·cases e;exact⟨.inl t0,e0⟩
   ·rcases ht with ht | ⟨rfl, rfl⟩
    ·obtain ⟨_, _, _, e, hle⟩ := h.top v' p' ht;cases e;exact hle
    ·omega
theorem Best.inn{B:Nat→Nat→Int}{s v:Nat}{T:Nat→Nat→Prop}{b:BSt}(hb: ∀v p,inB (tryF F B s v p) 4000)(h:Best (F:=F) B s T b): ∀k,Best (F:=F) B s (fun v' p'=>T v' p'∨v'=v∧p'<k∧okT lim s v p'=true) (innB lim F B s v b k)
 | 0 => ⟨fun v' p' x e => ⟨.inl (h.is v' p' x e).1, (h.is v' p' x e).2⟩, fun v' p' ht => by
   rcases ht with ht|⟨_,h0,_⟩
   ·exact h.top v' p' ht
   ·exact absurd h0 (Nat.not_lt_zero _)⟩
 | k + 1 => by
  have ih:=Best.inn (v:=v) hb h k;unfold innB;by_cases ho:okT lim s v k=true
  ·rw [if_pos ho];have:=ih.step (fun v p _=>hb v p) (hb v k)
   refine⟨fun v' p' x e=>⟨?_,(this.is v' p' x e).2⟩,fun v' p' ht=>this.top v' p' ?_⟩
   ·rcases (this.is v' p' x e).1 with (h1 | ⟨h1, h2, h3⟩) | ⟨rfl, rfl⟩
    ·exact .inl h1
    ·exact .inr ⟨h1,by omega,h3⟩
    ·exact .inr ⟨rfl,by omega,ho⟩
   ·rcases ht with ht | ⟨h1, h2, h3⟩
    ·exact .inl (.inl ht)
    ·by_cases e : p' = k
     ·exact .inr ⟨h1,e⟩
     ·exact .inl (.inr ⟨h1,by omega,h3⟩)
  ·rw [if_neg ho];refine⟨fun v' p' x e=>⟨?_,(ih.is v' p' x e).2⟩,fun v' p' ht=>ih.top v' p' ?_⟩
   ·rcases (ih.is v' p' x e).1 with h1 | ⟨h1, h2, h3⟩
    ·exact .inl h1
    ·exact .inr ⟨h1,by omega,h3⟩
   ·rcases ht with ht | ⟨h1, h2, h3⟩
    ·exact .inl ht
    ·refine .inr ⟨h1, ?_, h3⟩;rcases Nat.lt_or_ge p' k with h'|h'
     ·exact h'
     ·exact absurd (show okT lim s v k=true by rw[←(show p'=k by omega)];exact h3) ho
theorem Best.out{B:Nat→Nat→Int}{s:Nat}(hb: ∀v p,inB (tryF F B s v p) 4000): ∀k,Best (F:=F) B s (fun v p=>v<k∧s.testBit v=true∧p<s+1∧okT lim s v p=true) (outB lim F B s k)
 |0=>⟨fun v p x e=>(by cases e),fun v p ht=>absurd ht.1 (Nat.not_lt_zero _)⟩
 | k + 1 => by
  have ih:=Best.out hb k;unfold outB;by_cases hs:s.testBit k=true
  ·rw [if_pos hs];have:=ih.inn (v:=k) (lim:=lim) hb (s+1);refine⟨fun v' p' x e=>⟨?_,(this.is v' p' x e).2⟩,fun v' p' ht=>this.top v' p' ?_⟩
   ·rcases (this.is v' p' x e).1 with ⟨h1, h2⟩ | ⟨rfl, h2, h3⟩
    ·exact⟨by omega,h2⟩
    ·exact⟨by omega,hs,h2,h3⟩
   ·obtain ⟨h1, h2, h3, h4⟩ := ht;by_cases e:v'=k
    ·subst e;exact .inr ⟨rfl,h3,h4⟩
    ·exact .inl ⟨by omega,h2,h3,h4⟩
  ·rw [if_neg hs];refine⟨fun v' p' x e=>⟨?_,(ih.is v' p' x e).2⟩,fun v' p' ht=>ih.top v' p' ?_⟩
   ·have:=(ih.is v' p' x e).1;exact⟨by omega,this.2⟩
   ·obtain ⟨h1, h2, h3⟩ := ht;refine⟨?_,h2,h3⟩;rcases Nat.lt_or_ge v' k with h'|h'
    ·exact h'
    ·exact absurd (show s.testBit k=true by rw[←(show v'=k by omega)];exact h2) hs
end
theorem Qgb(f g:Nat→Int)(i:Nat):addA f g 1 i=f i+g i:=by show f i+1*g i=_;omega
section
variable {n lim:Nat} {F:Nat→Nat→Nat→Int}
theorem Qvu(hF: ∀v p,inB (F v p) 160)(hn:n≤5): ∀s,s<2^n→inB (topB n lim F s) (160*popc s)∧Best (F:=F) (tabB n lim F s) s (fun v p=>v<n∧s.testBit v=true∧p<s+1∧okT lim s v p=true) (stB n lim F s):=by
 intro s
 induction s using Nat.strongRecOn with
 | _ s ih =>
  intro hs;have h32:=Qau hn;have ht: ∀t,inB (tabB n lim F s t) 800:=fun t=>by
   rw[Qdh];split
   ·rename_i h;have:=(ih t h (by omega)).1
    have h5:=Qu1 t;exact this.mono (by omega)
   ·exact inB_zero.mono (by decide)
  have hb: ∀v p,inB (tryF F (tabB n lim F s) s v p) 4000:=fun v p=>((ht _).add (hF v p)).mono (by decide)
  have hbest:=Best.out (lim:=lim) hb n;refine⟨?_,hbest⟩;unfold topB;cases e:stB n lim F s with
  |none=>exact inB_zero.mono (by show(0:Int)≤160*(popc s:Int);omega)
  |some b=>
   obtain⟨v,p,x⟩:=b;obtain⟨⟨h1,h2,h3,h4⟩,h5⟩:=hbest.is v p x e;obtain⟨r1,r2,_⟩:=Qb6 s (by omega) v (by omega) h2
   show inB x _;have hp:0<2^v:=Nat.pow_pos (by decide)
   rw[h5,r2];unfold tryF;rw[Qdh,if_pos (by omega)]
   have:=(ih (s-2^v) (by omega) (by omega)).1.add (hF v p)
   exact this.mono (by omega)
theorem Qhx(hF: ∀v p,inB (F v p) 160)(hn:n≤5){s:Nat}(hs:s<2^n):inB (topB n lim F s) 800:=by
 have:=(Qvu (lim:=lim) hF hn s hs).1;have h5:=Qu1 s;exact this.mono (by omega)
theorem Qb4{s v p:Nat}:okT lim s v p=true↔p&&& s=p∧p.testBit v=false∧popc p≤lim:=by
 unfold okT;simp[Bool.and_eq_true]
theorem top_max(hF: ∀v p,inB (F v p) 160)(hn:n≤5){s v p:Nat}(hs:s<2^n)(hv:v<n)(h1:s.testBit v=true)(h2:okT lim s v p=true):nvF (addA (topB n lim F (s-2^v)) (F v p) 1)≤nvF (topB n lim F s):=by
 have h32:=Qau hn;have hps:p≤s:=by
  have:=(Qb4.1 h2).1;rw[←this];exact Nat.and_le_right
 obtain⟨_,hb⟩:=Qvu (lim:=lim) hF hn s hs;obtain⟨v',p',x,e,hle⟩:=hb.top v p ⟨hv,h1,by omega,h2⟩
 obtain⟨r1,_⟩:=Qb6 s (by omega) v (by omega) h1
 have hp:0<2^v:=Nat.pow_pos (by decide)
 unfold tryF at hle;rw[Qdh,if_pos (by omega)]at hle
 unfold topB at hle⊢;rw[e];exact hle
theorem Qon(h0: ∀v,v<n→Nat.testBit 0 v=false):stB n lim F 0=none:=by
 have: ∀k,outB lim F (tabB n lim F 0) 0 k=none:=by
  intro k
  induction k with
  |zero=>rfl
  |succ k ih=>rw[outB,if_neg (by simp),ih]
 exact this n
theorem top_is(hF: ∀v p,inB (F v p) 160)(hn:n≤5){s:Nat}(hs:s<2^n)(h0:0<s): ∃v p,v<n∧s.testBit v=true∧okT lim s v p=true∧stB n lim F s=some (v,p,topB n lim F s)∧topB n lim F s=addA (topB n lim F (s-2^v)) (F v p) 1:=by
 have h32:=Qau hn;obtain⟨_,hb⟩:=Qvu (lim:=lim) hF hn s hs;obtain⟨u,u1,u2⟩:=Qkp s (by omega) h0
 have un:=Qeu n hn s hs u u1 u2;obtain⟨v,p,x,e,_⟩:=hb.top u 0 ⟨un,u2,by omega,Qb4.2 ⟨Nat.zero_and _,Nat.zero_testBit _,Nat.zero_le _⟩⟩
 obtain⟨⟨a1,a2,a3,a4⟩,a5⟩:=hb.is v p x e;obtain⟨r1,_⟩:=Qb6 s (by omega) v (by omega) a2
 have hp:0<2^v:=Nat.pow_pos (by decide)
 have ex:topB n lim F s=x:=by unfold topB;rw[e];rfl
 refine⟨v,p,a1,a2,a4,by rw[e,ex],?_⟩
 rw[ex,a5];unfold tryF;rw[Qdh,if_pos (by omega)]
variable (F)in
def scG(g:Nat→Nat)(s:Nat):Nat→Nat→Int
 |0=>Qap
 |k+1=>if s.testBit k then addA (scG g s k) (F k (g k)) 1 else scG g s k
theorem Qhr{g h:Nat→Nat}{s t:Nat}: ∀k,(∀v,v<k→s.testBit v=t.testBit v)→(∀v,v<k→s.testBit v=true→g v=h v)→scG F g s k=scG F h t k
 |0,_,_=>rfl
 |k+1,h1,h2=>by
  rw[scG,scG,Qhr k (fun v hv=>h1 v (by omega)) (fun v hv=>h2 v (by omega)),h1 k (by omega)]
  split
  ·rename_i hb;rw[h2 k (by omega) (by rw[h1 k (by omega)];exact hb)]
  ·rfl
theorem Qu6{g:Nat→Nat}{s v:Nat}(hs:s<32)(hv:v<5)(hb:s.testBit v=true)(i:Nat): ∀k,k≤5→scG F g s k i=scG F g (s-2^v) k i+if v<k then F v (g v) i else 0
 |0,_=>by rw[if_neg (by omega)];show(0:Int)=0+0;rfl
 | k + 1, hk => by
  obtain⟨_,_,r3⟩:=Qb6 s hs v hv hb;have ih:=Qu6 (g:=g) hs hv hb i k (by omega)
  rw[scG,scG,r3 k (by omega)]
  by_cases e:k=v
  ·subst e;rw[hb];simp only[if_true,Bool.true_and,decide_true,Bool.not_true,Bool.false_eq_true,if_false];rw[Qgb,ih,if_neg (by omega),if_pos (by omega)]
   omega
  ·rw [show (s.testBit k && !decide (k = v)) = s.testBit k by rw [decide_eq_false e]; simp]
   by_cases hb':s.testBit k=true
   ·rw [if_pos hb', if_pos hb', Qgb, Qgb, ih];by_cases h:v<k
    ·rw[if_pos h,if_pos (by omega)];omega
    ·rw[if_neg h,if_neg (by omega)];omega
   ·rw [if_neg hb', if_neg hb', ih];by_cases h:v<k
    ·rw[if_pos h,if_pos (by omega)]
    ·rw[if_neg h,if_neg (by omega)]
theorem Qqu(hF: ∀v p,inB (F v p) 160)(g:Nat→Nat)(s:Nat): ∀k:Nat,inB (scG F g s k) (160*k)
 |0=>inB_zero.mono (by decide)
 |k+1=>by
  rw[scG];split
  ·exact((Qqu hF g s k).add (hF k (g k))).mono (by omega)
  ·exact(Qqu hF g s k).mono (by omega)
theorem Qqa(r:Nat→Nat): ∀(k:Nat)(P:Nat→Prop),(∃v,v<k∧P v)→∃v,v<k∧P v∧∀u,u<k→P u→r u≤r v
 |0,_,⟨v,h,_⟩=>absurd h (Nat.not_lt_zero _)
 | k + 1, P, ⟨v, h, hp⟩ => by
  by_cases hex: ∃v,v<k∧P v
  ·obtain ⟨w, w1, w2, w3⟩ := Qqa r k P hex;by_cases hk:P k∧r w<r k
   ·refine ⟨k, by omega, hk.1, fun u hu hpu => ?_⟩
    by_cases e:u=k
    ·rw[e];exact Nat.le_refl _
    ·have:=w3 u (by omega) hpu;omega
   ·refine ⟨w, by omega, w2, fun u hu hpu => ?_⟩
    by_cases e:u=k
    ·subst e;rcases Nat.lt_or_ge (r w) (r u)with h'|h'
     ·exact absurd ⟨hpu,h'⟩ hk
     ·exact h'
    ·exact w3 u (by omega) hpu
  ·have hv : v = k := by
    rcases Nat.lt_or_ge v k with h'|h'
    ·exact absurd ⟨v,h',hp⟩ hex
    ·omega
   refine⟨k,by omega,hv▸hp,fun u hu hpu=>?_⟩
   by_cases e:u=k
   ·rw[e];exact Nat.le_refl _
   ·exact absurd ⟨u,by omega,hpu⟩ hex
def Qni(n:Nat)(g:Nat→Nat)(r:Nat→Nat):Prop:=∀v,v<n→g v<2^n∧∀p,p<n→(g v).testBit p=true→r p<r v
theorem Qnn: ∀s,s<32→∀p,p<32→(∀u,u<5→p.testBit u=true→s.testBit u=true)→p&&& s=p:=by decide+kernel
theorem Qno: ∀s,s<32→∀p,p<32→p&&& s=p→∀u,u<5→p.testBit u=true→s.testBit u=true:=by decide+kernel
theorem sc_le(hF: ∀v p,inB (F v p) 160)(hn:n≤5){g r:Nat→Nat}(hg:Qni n g r)(hl: ∀v,v<n→popc (g v)≤lim): ∀(k s:Nat),s<2^n→popc s=k→(∀v,v<n→s.testBit v=true→∀p,p<n→(g v).testBit p=true→s.testBit p=true)→nvF (scG F g s n)≤nvF (topB n lim F s)
 | 0, s, hs, hk, _ => by
  have h32:=Qau hn;have h0:s=0:=by
   rcases Nat.eq_zero_or_pos s with h|h
   ·exact h
   ·obtain ⟨v, v1, v2⟩ := Qkp s (by omega) h
    have:=(Qb6 s (by omega) v v1 v2).2.1
    omega
  subst h0;have e1: ∀k,scG F g 0 k=Qap:=by
   intro k
   induction k with
   |zero=>rfl
   |succ k ih=>rw[scG,if_neg (by simp),ih]
  rw[e1];unfold topB;rw[Qon (fun v _=>Nat.zero_testBit v)]
  exact Nat.le_refl _
 | k + 1, s, hs, hk, hanc => by
  have h32:=Qau hn;have hpos:0<s:=by
   rcases Nat.eq_zero_or_pos s with h|h
   ·subst h;cases hk
   ·exact h
  obtain⟨u,u1,u2⟩:=Qkp s (by omega) hpos
  obtain⟨v,v1,v2,v3⟩:=Qqa r n (fun v=>s.testBit v=true) ⟨u,Qeu n hn s hs u u1 u2,u2⟩
  obtain⟨r1,r2,r3⟩:=Qb6 s (by omega) v (by omega) v2
  have hp2:0<2^v:=Nat.pow_pos (by decide)
  obtain⟨g1,g2⟩:=hg v v1;have ih:=sc_le hF hn hg hl k (s-2^v) (by omega) (by omega) (fun w hw hb p hp hgp=>by
   rw[r3 w (by omega)]at hb
   rw[r3 p (by omega)]
   simp only[Bool.and_eq_true,Bool.not_eq_true',decide_eq_false_iff_not]at hb⊢;refine⟨hanc w hw hb.1 p hp hgp,fun e=>?_⟩
   have h1:=(hg w hw).2 p hp hgp;have h2:=v3 w hw hb.1;rw[e]at h1;omega)
  have hok:okT lim s v (g v)=true:=by
   refine Qb4.2 ⟨Qnn s (by omega) (g v) (by omega) (fun p hp hb=>hanc v v1 v2 p (Qeu n hn (g v) g1 p hp hb) hb),?_,hl v v1⟩
   cases e:(g v).testBit v with
   |false=>rfl
   |true=>have:=g2 v v1 e;omega
  have e1:nvF (scG F g s n)=nvF (addA (scG F g (s-2^v) n) (F v (g v)) 1):=Qqm fun i _=>by
   rw[Qu6 (by omega) (by omega) v2 i n hn,if_pos v1,Qgb]
  rw[e1];refine Nat.le_trans (nv_mono ((Qqu hF g _ n).mono (by omega)) ((Qhx hF hn (by omega)).mono (by decide)) ((hF v (g v)).mono (by decide)) ih) (top_max hF hn hs v1 v2 hok)
structure LadOk(n:Nat)(la pa:Nat→Nat):Prop where
 at_: ∀s,0<s→s<2^n→la s<n∧s.testBit (la s)=true∧pa s&&& (s-2^la s)=pa s
def ladG(la pa:Nat→Nat):Nat→Nat→Nat→Nat
 |0,_,_=>0
 |f+1,s,v=>if s=0 then 0 else if v=la s then pa s else ladG la pa f (s-2^la s) v
def ladR(la:Nat→Nat):Nat→Nat→Nat→Nat
 |0,_,_=>0
 |f+1,s,v=>if s=0 then 0 else if v=la s then f+1 else ladR la f (s-2^la s) v
theorem Quc(la:Nat→Nat): ∀f s v,ladR la f s v≤f
 |0,_,_=>Nat.le_refl _
 | f + 1, s, v => by
  rw[ladR];split
  ·omega
  ·split
   ·omega
   ·have:=Quc la f (s-2^la s) v;omega
theorem Qub{la pa:Nat→Nat}(hn:n≤5)(h:LadOk n la pa): ∀f s v,s<2^n→ladG la pa f s v<2^n
 |0,_,_,_=>Nat.pow_pos (by decide)
 | f + 1, s, v, hs => by
  rw[ladG];split
  ·exact Nat.pow_pos (by decide)
  ·rename_i h0;obtain⟨h1,h2,h3⟩:=h.at_ s (by omega) hs
   have hp2:0<2^la s:=Nat.pow_pos (by decide)
   split
   ·have : pa s &&& (s - 2 ^ la s) ≤ s - 2 ^ la s := Nat.and_le_right;omega
   ·exact Qub hn h f _ v (by omega)
theorem Qmf{la pa:Nat→Nat}(hn:n≤5)(h:LadOk n la pa): ∀f s,s<2^n→popc s≤f→∀v,v<n→s.testBit v=true→∀p,p<n→(ladG la pa f s v).testBit p=true→s.testBit p=true∧ladR la f s p<ladR la f s v
 |0,s,hs,hf,v,hv,hb,p,hp,hgp=>by rw[ladG]at hgp;simp at hgp
 | f + 1, s, hs, hf, v, hv, hb, p, hp, hgp => by
  have h32:=Qau hn;by_cases h0:s=0
  ·subst h0;simp at hb
  ·obtain ⟨h1, h2, h3⟩ := h.at_ s (by omega) hs
   obtain⟨r1,r2,r3⟩:=Qb6 s (by omega) (la s) (by omega) h2
   have hp2:0<2^la s:=Nat.pow_pos (by decide)
   rw[ladG,if_neg h0]at hgp;rw[ladR,if_neg h0,ladR,if_neg h0];by_cases e:v=la s
   ·rw [if_pos e] at hgp;have hpl:pa s<32:=by
     have:pa s&&& (s-2^la s)≤s-2^la s:=Nat.and_le_right;omega
    have:=Qno (s-2^la s) (by omega) (pa s) hpl h3 p (by omega) hgp
    rw[r3 p (by omega)]at this
    simp only[Bool.and_eq_true,Bool.not_eq_true',decide_eq_false_iff_not]at this;refine⟨this.1,?_⟩;rw[if_pos e,if_neg this.2];have:=Quc la f (s-2^la s) p;omega
   ·rw [if_neg e] at hgp;have hb':(s-2^la s).testBit v=true:=by rw[r3 v (by omega),hb,decide_eq_false e];rfl
    have ih:=Qmf hn h f (s-2^la s) (by omega) (by omega) v hv hb' p hp hgp
    have hps:=ih.1;rw[r3 p (by omega)]at hps
    simp only[Bool.and_eq_true,Bool.not_eq_true',decide_eq_false_iff_not]at hps;refine⟨hps.1,?_⟩;rw[if_neg e,if_neg hps.2];exact ih.2
theorem Qiz{la pa:Nat→Nat}(hn:n≤5)(h:LadOk n la pa){B:Nat→Nat→Int}(h0: ∀i,i<18→B 0 i=0)(hB: ∀s,0<s→s<2^n→∀i,i<18→B s i=B (s-2^la s) i+F (la s) (pa s) i): ∀f s,s<2^n→popc s≤f→∀i,i<18→scG F (ladG la pa f s) s n i=B s i
 | 0, s, hs, hf, i, hi => by
  have h32:=Qau hn;have hs0:s=0:=by
   rcases Nat.eq_zero_or_pos s with h|h
   ·exact h
   ·obtain ⟨v, v1, v2⟩ := Qkp s (by omega) h
    have:=(Qb6 s (by omega) v v1 v2).2.1
    omega
  subst hs0;have e1: ∀k,scG F (ladG la pa 0 0) 0 k=Qap:=by
   intro k
   induction k with
   |zero=>rfl
   |succ k ih=>rw[scG,if_neg (by simp),ih]
  rw[e1,h0 i hi];rfl
 | f + 1, s, hs, hf, i, hi => by
  have h32:=Qau hn;by_cases hs0:s=0
  ·subst hs0;have e1: ∀k,scG F (ladG la pa (f+1) 0) 0 k=Qap:=by
    intro k
    induction k with
    |zero=>rfl
    |succ k ih=>rw[scG,if_neg (by simp),ih]
   rw[e1,h0 i hi];rfl
  ·obtain ⟨h1, h2, h3⟩ := h.at_ s (by omega) hs
   obtain⟨r1,r2,r3⟩:=Qb6 s (by omega) (la s) (by omega) h2
   have hp2:0<2^la s:=Nat.pow_pos (by decide)
   have ih:=Qiz hn h h0 hB f (s-2^la s) (by omega) (by omega) i hi
   rw[Qu6 (by omega) (by omega) h2 i n hn,if_pos h1,hB s (by omega) hs i hi]
   have e1:ladG la pa (f+1) s (la s)=pa s:=by rw[ladG,if_neg hs0,if_pos rfl]
   have e2:scG F (ladG la pa (f+1) s) (s-2^la s) n=scG F (ladG la pa f (s-2^la s)) (s-2^la s) n:=Qhr n (fun _ _=>rfl) (fun v hv hb=>by
    rw[r3 v (by omega)]at hb
    simp only[Bool.and_eq_true,Bool.not_eq_true',decide_eq_false_iff_not]at hb;rw[ladG,if_neg hs0,if_neg hb.2])
   rw[e1,e2,ih]
end
def hasQ(q:Nat→Nat×Nat)(k:Nat)(x:Nat×Nat):Bool:=(List.range k).any fun j=>decide (q j=x)
theorem Qds{q:Nat→Nat×Nat}{k:Nat}{x:Nat×Nat}:hasQ q k x=true↔∃j,j<k∧q j=x:=by
 unfold hasQ;rw[List.any_eq_true];constructor
 ·rintro⟨j,hj,h⟩;exact⟨j,List.mem_range.1 hj,of_decide_eq_true h⟩
 ·rintro⟨j,hj,h⟩;exact⟨j,List.mem_range.2 hj,decide_eq_true h⟩
def askQ(q:Nat→Nat×Nat)(k:Nat)(x:Nat×Nat):Nat→Nat×Nat:=if hasQ q k x then q else upQ q k x
def askK(q:Nat→Nat×Nat)(k:Nat)(x:Nat×Nat):Nat:=if hasQ q k x then k else k+1
section
variable (lim s v:Nat) (q:Nat→Nat×Nat) (k:Nat)
def innA:Nat→(Nat→Nat×Nat)×Nat
 |0=>(q,k)
 |n+1=>if okT lim s v n then(askQ (innA n).1 (innA n).2 (v,n),askK (innA n).1 (innA n).2 (v,n))else innA n
def innK(n:Nat):Nat:=(innA lim s v q k n).2
end
theorem Qsn(q:Nat→Nat×Nat)(k:Nat)(x:Nat×Nat):k≤askK q k x∧askK q k x≤k+1:=by unfold askK;split<;>omega
theorem Qec(lim s v:Nat)(q:Nat→Nat×Nat)(k:Nat): ∀n,k≤innK lim s v q k n∧innK lim s v q k n≤k+n
 |0=>⟨Nat.le_refl _,Nat.le_refl _⟩
 | n + 1 => by
  have ih:=Qec lim s v q k n;unfold innK innA at*;split
  ·have := Qsn (innA lim s v q k n).1 (innA lim s v q k n).2 (v, n);dsimp only;cases n<;>simp only[innA]at*<;>omega
  ·cases n<;>simp only[innA]at*<;>omega
def sB(s:Nat)(b:BSt)(B:Nat→Nat→Int):Nat→Nat→Int:=fun i=>if i=s then valO b else B i
def sL(s:Nat)(b:BSt)(la:Nat→Nat):Nat→Nat:=fun i=>if i=s then vO b else la i
def sP(s:Nat)(b:BSt)(pa:Nat→Nat):Nat→Nat:=fun i=>if i=s then pO b else pa i
theorem Qrx(s:Nat)(b:BSt)(B:Nat→Nat→Int)(v p:Nat)(x:Nat→Int):(fun i=>if i=s then x else sB s b B i)=sB s (some (v,p,x)) B:=by
 funext i;unfold sB;split<;>rfl
theorem Qry(s:Nat)(b:BSt)(la:Nat→Nat)(v p:Nat)(x:Nat→Int):(fun i=>if i=s then v else sL s b la i)=sL s (some (v,p,x)) la:=by
 funext i;unfold sL;split<;>rfl
theorem Qrz(s:Nat)(b:BSt)(pa:Nat→Nat)(v p:Nat)(x:Nat→Int):(fun i=>if i=s then p else sP s b pa i)=sP s (some (v,p,x)) pa:=by
 funext i;unfold sP;split<;>rfl
theorem Qko(s v p:Nat)(y:Nat→Int)(B:Nat→Nat→Int):sB s (some (v,p,y)) B s=y:=if_pos rfl
def Qaq:BSt→Bool
 |none=>false
 |some _=>true
section
variable (cards:List Int) (cs:List (List Int)) (F:Nat→Nat→Nat→Int) (size:Nat) (q:Nat→Nat×Nat) (s:Nat) (b:BSt) (B:Nat→Nat→Int) (la pa:Nat→Nat)
abbrev tzO0:List O:=tyO0 cards cs size q s (sB s b B) (sL s b la) (sP s b pa) (Qaq b)
abbrev tzO1(k:Nat):List O:=tyO1 cards cs F size q s (sB s b B) (sL s b la) (sP s b pa) (Qaq b) k
abbrev tzO2(k:Nat):List O:=tyO2 cards cs F size q s (sB s b B) (sL s b la) (sP s b pa) (Qaq b) k
end
structure TryOk(cards:List Int)(cs:List (List Int))(F:Nat→Nat→Nat→Int)(size:Nat)(s:Nat)(b:BSt)(B:Nat→Nat→Int)(v p t bt:Nat)(x:Nat→Int):Prop where
 hs:s<size
 ht:t<size
 ne:t≠s
 h1: ∀G T,binV G .shl T (i6 1) (i6 (v:Nat))=some (i6 (bt:Nat))
 h2: ∀G T,binV G .andNot T (i6 (s:Nat)) (i6 (bt:Nat))=some (i6 (t:Nat))
 add:FnOk Pg g0 43 [ar (B t),ar (F v p)] (.tup [ar x,i6 0])
 cmp: ∀v' p' y,b=some (v',p',y)→FnOk Pg g0 14 [ar x,ar y] (.tup [i6 (cmpF x y),i6 0])
 fam:FnOk Pg g0 54 [gV cards cs,i6 (v:Nat),u6 (p:Nat)] (.tup [ar (F v p),i6 0])
section
variable {cards:List Int} {cs:List (List Int)} {F:Nat→Nat→Nat→Int} {size:Nat} {q:Nat→Nat×Nat} {s:Nat} {b:BSt} {B:Nat→Nat→Int} {la pa:Nat→Nat} {v p t bt:Nat} {x:Nat→Int}
theorem TryOk.add'(h:TryOk cards cs F size s b B v p t bt x):FnOk Pg g0 43 [ar (sB s b B t),ar (F v p)] (.tup [ar x,i6 0]):=by
 have e:sB s b B t=B t:=if_neg h.ne;rw[e];exact h.add
theorem Qot(h:TryOk cards cs F size s b B v p t bt x){k j:Nat}(hj:j<k+1)(hq:q j=(v,p))(hf:findS [true,true] [i6 (v:Nat),u6 (p:Nat)] (entM q (k+1)) 0=some (some (j,i6 (j:Nat)))):
  CallSpec Pg g0 (.fn 37 []) (i6 (v:Nat)::u6 (p:Nat)::caT) (ofOs .e 0 (tzO1 cards cs F size q s b B la pa k)) 10 ⟨i6 0,ofOs .e 0 (tzO1 cards cs F size q s (upT b v p x) B la pa k),10,[0,1,2,3,4,7]⟩:=by
 have hp:=Qqq cards cs F (sB s b B) size q k s t v p bt j x hj hq hf h.ht h.h1 h.h2 h.add';rcases b with _|⟨v',p',y⟩
 ·have := Qr6 cards cs F size q k s v p (sB s none B) (sL s none la) (sP s none pa) x h.hs hp;rw[Qrx s none B v p x,Qry s none la v p x,Qrz s none pa v p x]at this;exact this
 ·have hc := h.cmp v' p' y rfl;rw[←Qko s v' p' y B]at hc;by_cases hgt:0<cmpF x (sB s (some (v',p',y)) B s)
  ·have := Qr4 cards cs F size q k s v p (sB s (some (v', p', y)) B) (sL s (some (v', p', y)) la) (sP s (some (v', p', y)) pa) x h.hs _ hgt hc hp;rw[Qrx s _ B v p x,Qry s _ la v p x,Qrz s _ pa v p x]at this;rw[Qko]at hgt;rw[show upT (some (v',p',y)) v p x=some (v,p,x)from if_pos hgt];exact this
  ·have := Qr5 cards cs F size q k s v p (sB s (some (v', p', y)) B) (sL s (some (v', p', y)) la) (sP s (some (v', p', y)) pa) x h.hs _ hgt hc hp;rw[Qko]at hgt;rw[show upT (some (v',p',y)) v p x=some (v',p',y)from if_neg hgt];exact this
theorem Qvx(h:TryOk cards cs F size s b B v p t bt x):
  CallSpec Pg g0 (.fn 37 []) (i6 (v:Nat)::u6 (p:Nat)::caT) (ofOs .e 0 (tzO0 cards cs size q s b B la pa)) 9 ⟨i6 0,ofOs .e 0 (tzO1 cards cs F size (upQ q 0 (v,p)) s (upT b v p x) B la pa 0),10,[0,1,2,3,4,7]⟩:=by
 have hp:=Qrv cards cs F (sB s b B) size q s t v p bt x h.fam h.ht h.h1 h.h2 h.add';rcases b with _|⟨v',p',y⟩
 ·have := Qnc cards cs F size q s v p (sB s none B) (sL s none la) (sP s none pa) x h.hs hp;rw[Qrx s none B v p x,Qry s none la v p x,Qrz s none pa v p x]at this;exact this
 ·have hc := h.cmp v' p' y rfl;rw[←Qko s v' p' y B]at hc;by_cases hgt:0<cmpF x (sB s (some (v',p',y)) B s)
  ·have := Qna cards cs F size q s v p (sB s (some (v', p', y)) B) (sL s (some (v', p', y)) la) (sP s (some (v', p', y)) pa) x h.hs _ hgt hc hp;rw[Qrx s _ B v p x,Qry s _ la v p x,Qrz s _ pa v p x]at this;rw[Qko]at hgt;rw[show upT (some (v',p',y)) v p x=some (v,p,x)from if_pos hgt];exact this
  ·have := Qnb cards cs F size q s v p (sB s (some (v', p', y)) B) (sL s (some (v', p', y)) la) (sP s (some (v', p', y)) pa) x h.hs _ hgt hc hp;rw[Qko]at hgt;rw[show upT (some (v',p',y)) v p x=some (v',p',y)from if_neg hgt];exact this
theorem Qhy(h:TryOk cards cs F size s b B v p t bt x){k:Nat}(hk:k≤1000000)(hf:findS [true,true] [i6 (v:Nat),u6 (p:Nat)] (entM q (k+1)) 0=some none):
  CallSpec Pg g0 (.fn 37 []) (i6 (v:Nat)::u6 (p:Nat)::caT) (ofOs .e 0 (tzO1 cards cs F size q s b B la pa k)) 10 ⟨i6 0,ofOs .e 0 (tzO2 cards cs F size (upQ q (k+1) (v,p)) s (upT b v p x) B la pa (k+1)),11,[0,1,2,3,4,7,9]⟩:=by
 have hp:=Qi6 cards cs F (sB s b B) size q k s t v p bt x hk hf h.fam h.ht h.h1 h.h2 h.add';rcases b with _|⟨v',p',y⟩
 ·have := Qnf cards cs F size q k s v p (sB s none B) (sL s none la) (sP s none pa) x h.hs hp;rw[Qrx s none B v p x,Qry s none la v p x,Qrz s none pa v p x]at this;exact this
 ·have hc := h.cmp v' p' y rfl;rw[←Qko s v' p' y B]at hc;by_cases hgt:0<cmpF x (sB s (some (v',p',y)) B s)
  ·have := Qnd cards cs F size q k s v p (sB s (some (v', p', y)) B) (sL s (some (v', p', y)) la) (sP s (some (v', p', y)) pa) x h.hs _ hgt hc hp;rw[Qrx s _ B v p x,Qry s _ la v p x,Qrz s _ pa v p x]at this;rw[Qko]at hgt;rw[show upT (some (v',p',y)) v p x=some (v,p,x)from if_pos hgt];exact this
  ·have := Qne cards cs F size q k s v p (sB s (some (v', p', y)) B) (sL s (some (v', p', y)) la) (sP s (some (v', p', y)) pa) x h.hs _ hgt hc hp;rw[Qko]at hgt;rw[show upT (some (v',p',y)) v p x=some (v',p',y)from if_neg hgt];exact this
end
theorem T.set_set{α:Type}: ∀(f:Nat)(t:T α)(i:Nat)(x y:Option α),i<f→T.set f (T.set f t i x) i y=T.set f t i y
 |0,_,_,_,_,h=>absurd h (Nat.not_lt_zero _)
 | f + 1, t, i, x, y, h => by
  have ih:i≠0→∀t:T α,T.set f (T.set f t (i/2) x) (i/2) y=T.set f t (i/2) y:=fun _ t=>T.set_set f t (i/2) x y (by omega)
  have ih2:i≠0→∀t:T α,T.set f (T.set f t (i/2-1) x) (i/2-1) y=T.set f t (i/2-1) y:=fun _ t=>T.set_set f t (i/2-1) x y (by omega)
  by_cases h0:i=0
  ·subst h0;cases t<;>simp[T.set]
  ·have hb : Nat.beq i 0 = false := by
    cases hb:Nat.beq i 0 with
    |false=>rfl
    |true=>exact absurd (Nat.eq_of_beq_eq_true hb) h0
   cases h1:Nat.beq (i%2) 1<;>cases t<;>simp only[T.set,hb,h1,cond_true,cond_false,ih h0,ih2 h0]
theorem T.set_same{α:Type}: ∀(f:Nat)(t:T α)(i:Nat)(x:α),i<f→t.get i=some x→T.set f t i (some x)=t
 |0,_,_,_,h,_=>absurd h (Nat.not_lt_zero _)
 |f+1,.e,_,_,_,h=>by simp at h
 | f + 1, .n l v r, i, x, hf, h => by
  unfold T.get at h;unfold T.set;cases h0:Nat.beq i 0 with
  |true=>rw[h0,cond_true]at h;rw[cond_true,h]
  |false=>
   have hi:i≠0:=by rintro rfl;cases h0
   rw[h0,cond_false]at h;rw[cond_false];cases h1:Nat.beq (i%2) 1 with
   |true=>rw[h1,cond_true]at h;rw[cond_true,T.set_same f l (i/2) x (by omega) h]
   |false=>rw[h1,cond_false]at h;rw[cond_false,T.set_same f r (i/2-1) x (by omega) h]
theorem pt_pt{α:Type}(t:T α)(i:Nat)(x y:α):pt (pt t i x) i y=pt t i y:=by
 rw[pt_eq,pt_eq,pt_eq];exact T.set_set _ _ _ _ _ (Nat.lt_succ_self _)
theorem pt_same{α:Type}{t:T α}{i:Nat}{x:α}(h:gt t i=some x):pt t i x=t:=by
 rw[Qaw]at h;rw[pt_eq];exact T.set_same _ _ _ _ (Nat.lt_succ_self _) h
def SubL(a b:List Nat):Prop:=∀g,g∈a→g∈b
noncomputable def Qqr:Code→Code
 | .rangeFunc _ _ _ b=>b
 |c=>c
noncomputable def rfAsg:Code→Code
 | .rangeFunc _ _ a _=>a
 |c=>c
noncomputable def kAsg(n:Nat)(sl1:List (Nat×V))(H:T O)(nx:Nat):KF:=fun e _ st=>match e with
 | .normal=>bif Nat.beq st.tm.n n then slotsQ st.tm sl1∧st.H=H∧st.nx=nx∧st.lg=[]else False
 | _=>False
noncomputable def kBdy(H:T O)(nx:Nat)(L:List Nat):KF:=fun e _ st=>match e with
 | .normal=>st.H=H∧st.nx=nx∧SubL st.lg L
 | _=>False
theorem CallSpec.yldN{P:Program}{E:Env}{sp:Qc0}(hE:E.Ok P)(hm:P.follows .mixedOrders=true){gl:T (List V)}(hsp:Qbg P gl sp){n hd:Nat}{ars:List V}{H H2:T O}{nx nx2:Nat}{tm tm1:TM}{ps:List Nat}{assign body:Code}{fn0:Nat}{sl0 sl1:List (Nat×V)}{L:List Nat}{hs0 hs1:Hs}{m0 m1:Nat}
  (ho:gt H hd=some (.loop .ready none fn0 tm ps assign body))(htm1:putPs tm ps ars=some tm1)(hn:tm1.n=n)(hg:tm1.gl=gl)(h0:slotsQ tm1 sl0)
  (ha: ∀(H:T O)(nx:Nat),vc P E sp (some hd) nx m0 assign hs0 (mkSo gl n sl0 H nx []) (kAsg n sl1 H nx))
  (hb:vc P E sp (some hd) nx m1 body hs1 (mkSo gl n sl1 (pt H hd (.loop .busy none fn0 tm ps assign body)) nx [hd]) (kBdy (pt H2 hd (.loop .busy none fn0 tm ps assign body)) nx2 L))
  (hL:hd∈L)(hlog:Log H.get nx H2.get nx2 L)(h2:gt H2 hd=some (.loop .ready none fn0 tm ps assign body)):CallSpec P gl (.yld hd) ars H nx ⟨.bool true,H2,nx2,L⟩:=by
 rw[Qaw]at ho h2;refine CallSpec.yld ho htm1 hlog ?_;have hst:(⟨tm1,H,nx,[]⟩:St)=⟨⟨tm1.sl,gl,n⟩,H,nx,[]⟩:=by cases tm1;subst hn hg;rfl
 rw[hst];refine Sat.fewer (sl:=sl0) (by obtain⟨a,b,c⟩:=tm1;cases hn;cases hg;exact h0) ?_
 refine Sat.fewer_post ?_;refine Sat.of_vc hE hm hsp rfl (ha H nx) fun e hs' st' hgl hk=>?_
 unfold kAsg at hk;split at hk
 ·obtain ⟨hb1, k1, k2, k3, k4⟩ := Qai hk;have hn':=Nat.eq_of_beq_eq_true hb1;refine⟨sl1,k1,rfl,none,fn0,tm,ps,assign,body,by show st'.H.get hd=_;rw[k2];exact ho,?_⟩
  show Sat P (some hd) nx body ⟨_,st'.H.put hd _,st'.nx,hd::st'.lg⟩ _;rw[k2,k3,k4];have e0:(mkSo st'.tm.gl st'.tm.n sl1 H nx []).tm=(mkSo gl n sl1 H nx []).tm:=by rw[hgl,hn']
  rw[e0];rw[pt_eq]at hb;refine Sat.of_vc hE hm hsp rfl hb fun e hs2 st2 hgl2 hk2=>?_
  unfold kBdy at hk2;split at hk2
  ·obtain ⟨q1, q2, q3⟩ := hk2;refine⟨rfl,.busy,none,fn0,tm,ps,assign,body,by rw[q1,pt_eq,T.get_put,if_pos rfl],rfl,?_,q2.symm,fun x hx=>?_⟩
   ·show H2 = _;rw[q1];have: ∀x:O,(pt H2 hd x).put hd (.loop .ready none fn0 tm ps assign body)=H2:=fun x=>by
     rw[←pt_eq,pt_pt,pt_same (by rw[Qaw];exact h2)]
    exact(this _).symm
   ·rcases List.mem_cons.1 hx with rfl | hx
    ·exact hL
    ·exact q3 x hx
  ·exact hk2.elim
 ·exact hk.elim
theorem Sat.rangeC{P:Program}{gl:T (List V)}{rd:Option Nat}{nx0:Nat}{g:Operand}{ps:Array Tmp}{asg body:Code}{f:Nat}{caps:List V}{n:Nat}{S S':SL}{H1:T O}{nx1:Nat}{r L:List Nat}{v:V}
  (hg:ev (mkSt gl n S).tm g=some (.fn f caps))(hlb:rdOk rd (mkSt gl n S).H=true)
  (hc:CallSpec P gl (.fn f caps) [.yld S.os.length] (pt (ofOs .e 0 S.os) S.os.length (.loop .ready none 0 (mkSt gl n S).tm ps.toList asg body)) (S.os.length+1) ⟨v,H1,nx1,L⟩)
  (h1:gt H1 S.os.length=some (.loop .ready none 0 (mkSt gl n S).tm ps.toList asg body))
  (hr:gcP nx0 r ⟨(mkSt gl n S).tm,pt H1 S.os.length .dead,nx1,L++S.lg⟩ S'):
  Sat P rd nx0 (.rangeFunc g ps asg body) (mkSt gl n S) (Qaf gl n [(True,.normal,S')]):=by
 rw[pt_eq]at hc;rw[Qaw]at h1;rw[pt_eq]at hr;refine Sat.gc_post (Sat.rangeFunc' hg hlb hc (.inl ⟨0,_,_,_,_,h1,r,mkSt gl n S',Qfp hr,.inl ⟨trivial,rfl,rfl⟩⟩))
theorem Qka{os0 os1:List O}{lg:List Nat}(hle:os0.length≤os1.length)(h: ∀i,i<os0.length→i∉lg→os1[i]? =os0[i]?):Log (ofOs .e 0 os0).get os0.length (ofOs .e 0 os1).get os1.length lg:=by
 refine⟨hle,fun i hi hn=>?_⟩
 by_cases h1:i<os0.length
 ·rw [Qcb _ _ _ _ (Nat.zero_le _) (by omega), Qcb _ _ _ _ (Nat.zero_le _) (by omega), Nat.sub_zero]
  exact h i h1 hi
 ·rw[Qbt (by omega),Qbt (by omega)]
noncomputable abbrev rgC:Code:=at' 20 [1,1,1,1,1,0,1,0,0,1,1,0,0,1,1,1,1,0,0,1,1,0,0,1,1,1,0]
theorem rg_eq:rgC= .rangeFunc (.tmp 61) #[62] (rfAsg rgC) (Qqr rgC):=by kernel_rfl
noncomputable def rgB:Code:=Qqr rgC
noncomputable def rgA:Code:=rfAsg rgC
section
variable (cards:List Int) (cs:List (List Int)) (F:Nat→Nat→Nat→Int) (size lim n w:Nat) (q:Nat→Nat×Nat) (s:Nat) (b:BSt) (B:Nat→Nat→Int) (la pa:Nat→Nat) (v:Nat)
abbrev clZ:List (Nat×V):=[(1,i6 (lim:Nat)),(2,.ptr 0 0),(4,.ptr 1 0),(5,.ptr 2 0),(6,.ptr 3 0),(8,i6 (size:Nat)),(9,.ptr 7 0),(10,.ptr 10 0),(11,.ptr 11 0),(12,.ptr 12 0),(13,.ptr 13 0),(39,i6 (size:Nat)),(40,i6 (s:Nat)),(46,i6 (n:Nat)),(47,i6 (v:Nat))]
abbrev rgZ:List (Nat×V):=clZ size lim n s v++[(14,.ptr 14 0),(61,.fn 52 [.imp [i6 (lim:Nat)],.imp [u6 (w:Nat)]])]
abbrev clO(hs k:Nat):List O:=[.row 31 none [sl cards,gC cs],.row 73 none [.nilp],.row 38 none [.nils,.nils],.row 32 none [i6 0],.row 44 none (bF (sB s b B) size),.map (entM q k) k,.row 81 none (toC cards cs size 4 5 hs k),.row 73 none [.ptr 6 0],.row 3 none (nF (sL s b la) size),.row 50 none (uF (sP s b pa) size),.row 38 none [.sl 8 0 size (some (size-size)),.sl 9 0 size (some (size-size))],.row 3 none [i6 (s:Nat)],.row 4 none [.bool (Qaq b)],.row 101 none [.fn 37 [.ptr 7 0,.ptr 11 0,.ptr 12 0,.ptr 10 0]],.row 3 none [i6 (v:Nat)]]
abbrev clM:List Nat:=[0,0,0,0,0,0,1,1,0,0,1,0,0,1,0]
abbrev scO(k:Nat):O:=.row 44 (some 18) (bF (scF F q) (k+1))
noncomputable def rgT:TM:=(mkSt g0 75 {sl:=rgZ size lim n w s v}).tm
noncomputable abbrev lbO(ls:LoopState):O:=.loop ls none 0 (rgT size lim n w s v) [62] rgA rgB
noncomputable abbrev ykA(ls:LoopState):List O:=clO cards cs size q s b B la pa v 15 0++[lbO size lim n w s v ls]
noncomputable abbrev ykB(ls:LoopState)(k:Nat):List O:=clO cards cs size q s b B la pa v 15 (k+1)++[scO F q k,lbO size lim n w s v ls]
noncomputable abbrev ykC(ls:LoopState)(k:Nat):List O:=clO cards cs size q s b B la pa v 16 (k+1)++[lbO size lim n w s v ls,scO F q k]
noncomputable abbrev ykD(ls:LoopState)(k:Nat):List O:=clO cards cs size q s b B la pa v 17 (k+1)++[.dead,lbO size lim n w s v ls,scO F q k]
noncomputable abbrev ykC2(ls:LoopState)(k:Nat):List O:=clO cards cs size q s b B la pa v 17 (k+1)++[lbO size lim n w s v ls,.dead,scO F q k]
noncomputable abbrev ykD2(ls:LoopState)(k:Nat):List O:=clO cards cs size q s b B la pa v 18 (k+1)++[.dead,lbO size lim n w s v ls,.dead,scO F q k]
end
theorem Qmj(size lim n w s v nx0:Nat)(h:15≤nx0):LowT nx0 (rgT size lim n w s v):=by
 intro i x hx;have hx':(putL (blank 75) (rgZ size lim n w s v)).get i=some x:=hx;rcases putL_get _ _ _ _ hx' with hm|hm
 ·simp only [rgZ, clZ, List.cons_append, List.nil_append, List.mem_cons, List.not_mem_nil, or_false, Prod.mk.injEq] at hm;rcases hm with⟨_,rfl⟩|⟨_,rfl⟩|⟨_,rfl⟩|⟨_,rfl⟩|⟨_,rfl⟩|⟨_,rfl⟩|⟨_,rfl⟩|⟨_,rfl⟩|⟨_,rfl⟩|⟨_,rfl⟩|⟨_,rfl⟩|⟨_,rfl⟩|⟨_,rfl⟩|⟨_,rfl⟩|⟨_,rfl⟩|⟨_,rfl⟩|⟨_,rfl⟩<;>simp only[Sc,ScL,and_true]<;>omega
 ·rw[Qbj]at hm;cases hm
theorem Qhn(p hd:Nat)(H:T O)(nx:Nat):vc Pg vE sp0 (some hd) nx 1000 rgA [] (mkSo g0 75 [(13,.ptr 13 0),(14,.ptr 14 0),(62,u6 (p:Nat))] H nx []) (kAsg 75 [(13,.ptr 13 0),(14,.ptr 14 0),(15,u6 (p:Nat))] H nx):=by
 refine Eq.mp (by kernel_rfl:(An [An [Sm (V.ptr 13 0),Sm (V.ptr 14 0),Sm (u6 ↑p),Tt],H=H,nx=nx,([]:List Nat)=[]])=_) ?_
 (repeat'(first|with_reducible apply And.intro|refine fun(_:True)=>?_))<;>first|exact aq|skip
 all_goals skip
theorem yld_A(cards:List Int)(cs:List (List Int))(F:Nat→Nat→Nat→Int)(size lim n w:Nat)(q:Nat→Nat×Nat)(s:Nat)(b:BSt)(B:Nat→Nat→Int)(la pa:Nat→Nat)(v p t bt:Nat)(x:Nat→Int)(h:TryOk cards cs F size s b B v p t bt x):
  CallSpec Pg g0 (.yld 15) [u6 (p:Nat)] (ofOs .e 0 (ykA cards cs size lim n w q s b B la pa v .ready)) 16 ⟨.bool true,ofOs .e 0 (ykC cards cs F size lim n w (upQ q 0 (v,p)) s (upT b v p x) B la pa v .ready 0),17,[4,5,6,8,9,12,15]⟩:=by
 have hB:=Qaa (sB s b B) size;have hB1:=Qaa (sB s (upT b v p x) B) size;have hS:=Qaa (scF F (upQ q 0 (v,p))) (0+1);have hE:=Qac (upQ q 0 (v,p)) (0+1);have hS0:=Qaa (scF F q) 0;have hE0:=Qac q 0;have hc:=Qab cards;have hg:=Qav cs;have hla:=Qah (sL s b la) size;have hpa:=Qag (sP s b pa) size;have hla1:=Qah (sL s (upT b v p x) la) size;have hpa1:=Qag (sP s (upT b v p x) pa) size;have hcall:CallSpec Pg g0 (.fn 37 []) (i6 (v:Nat)::u6 (p:Nat)::[.ptr 7 0,.ptr 11 0,.ptr 12 0,.ptr 10 0]) (ofOs .e 0 (ykA cards cs size lim n w q s b B la pa v .busy)) 16 ⟨i6 0,ofOs .e 0 (ykC cards cs F size lim n w (upQ q 0 (v,p)) s (upT b v p x) B la pa v .busy 0),17,[4,5,6,8,9,12]⟩:=
  CallSpec.frameL (OS:=ykA cards cs size lim n w q s b B la pa v .busy) (OS':=ykC cards cs F size lim n w (upQ q 0 (v,p)) s (upT b v p x) B la pa v .busy 0) [4,5,6,8,9,7,11,12,10] [(4,0),(5,1),(6,2),(8,3),(9,4),(7,5),(11,6),(12,7),(10,8),(16,9)] [0,0,1,0,0,1,0,0,1] [0,0,0,0,0,0,1,1,0,0,1,0,0,1,0] (Qvx (q:=q) (la:=la) (pa:=pa) h) (by kernel_rfl) (by
   refine Eq.mp (by kernel_rfl:(An [Sm (↑v:Int),Sm (↑p:Int),Zz,Zz,Zz,Zz,Tt])=_) ?_
   (repeat'(first|with_reducible apply And.intro|refine fun(_:True)=>?_))<;>first|exact aq|skip) (by
   refine Eq.mp (by kernel_rfl:(let z3:=An [Zz,Sm size,Sm (size-size)];let z0:=nF (sL s b la) size;let z1:=uF (sP s b pa) size;let z2:=bF (sB s b B) size;An [An [z2=z2,HfL z2],An [Sm (entM q 0),HfE (entM q 0),Zz],An [An [Sm cards.length,Sm (ints cards)],An [Sm cs.length,Sm (List.map sl cs)],z3,TT 2],An [z0=z0,HfL z0],An [z1=z1,HfL z1],An [Zz,Tt],An [Sm [i6 ↑s],Tt,Tt],An [Sm [V.bool (Qaq b)],Tt,Tt],An [z3,z3,Tt],Tt])=_) ?_
   (repeat'(first|with_reducible apply And.intro|refine fun(_:True)=>?_))
   all_goals first|exact aq|exact hB|exact hB1|exact hS|exact hS0|exact hE|exact hE0|exact hla|exact hpa|exact hla1|exact hpa1|rfl|skip) (by
   refine Eq.mp (by kernel_rfl:(Sm (0:Int))=_) ?_
   (repeat'(first|with_reducible apply And.intro|refine fun(_:True)=>?_))<;>first|exact aq|skip) (by
   refine Eq.mp (by kernel_rfl:(let y4:=An [Zz,Sm size,Sm (size-size)];let z0:=ykA cards cs size lim n w q s b B la pa v .busy;let z1:=upT b v p x;let z2:=some (O.row 101 none [V.fn 37 [V.ptr 7 0,V.ptr 11 0,V.ptr 12 0,V.ptr 10 0]]);let z3:=upQ q 0 (v,p);let z6:=some (O.row 31 none [sl cards,gC cs]);let z8:=some (O.row 38 none [V.nils,V.nils]);let z9:=some (lbO size lim n w s v .busy);let y0:=some (O.row 73 none [V.nilp]);let y1:=some (O.row 3 none [i6 ↑v]);let y2:=some (O.row 32 none [i6 0]);let y3:=some (size-size);let z4:=nF (sL s z1 la) size;let z5:=uF (sP s z1 pa) size;let z7:=bF (sB s z1 B) size;An [z0[0]? =z6,z0[0]? =z6,z0[1]? =y0,z0[1]? =y0,z0[2]? =z8,z0[2]? =z8,z0[3]? =y2,z0[3]? =y2,Tt,An [z7=z7,HfL z7],Tt,An [Sm (entM z3 1),HfE (entM z3 1),1=1],Tt,An [An [Sm cards.length,Sm (ints cards)],An [Sm cs.length,Sm (List.map sl cs)],y4,Tt,An [Zz,1=1,Tt],Tt],z0[7]? =some (O.row 73 none [V.ptr 6 0]),An [Zz,Tt],Tt,An [z4=z4,HfL z4],Tt,An [z5=z5,HfL z5],z0[10]? =some (O.row 38 none [V.sl 8 0 size y3,V.sl 9 0 size y3]),An [y4,y4,Tt],z0[11]? =some (O.row 3 none [i6 ↑s]),An [Sm [i6 ↑s],Tt,Tt],Tt,An [Sm [V.bool (Qaq z1)],Tt,Tt],z0[13]? =z2,z0[13]? =z2,z0[14]? =y1,z0[14]? =y1,z0[15]? =z9,z0[15]? =z9,Tt,An [Sm (bF (scF F z3) 1),TT 18],Tt])=_) ?_
   (repeat'(first|with_reducible apply And.intro|refine fun(_:True)=>?_))
   all_goals first|exact aq|exact hB|exact hB1|exact hS|exact hS0|exact hE|exact hE0|exact hla|exact hpa|exact hla1|exact hpa1|rfl|skip)
 have hcall':=CallSpec.caps (ars:=[i6 (v:Nat),u6 (p:Nat)]) (caps:=[.ptr 7 0,.ptr 11 0,.ptr 12 0,.ptr 10 0]) hcall;refine CallSpec.yldN vE_ok mixed Qad (n:=75) (fn0:=0) (tm:=rgT size lim n w s v) (ps:=[62]) (assign:=rgA) (body:=rgB) (hs0:=[]) (hs1:=[(66,.call ⟨i6 0,ofOs .e 0 (ykC cards cs F size lim n w (upQ q 0 (v,p)) s (upT b v p x) B la pa v .busy 0),17,[4,5,6,8,9,12]⟩)]) (m0:=1000) (m1:=1000) (sl0:=[(13,.ptr 13 0),(14,.ptr 14 0),(62,u6 (p:Nat))]) (sl1:=[(13,.ptr 13 0),(14,.ptr 14 0),(15,u6 (p:Nat))]) (by kernel_rfl) rfl rfl rfl ⟨rfl,rfl,rfl,trivial⟩ (Qhn p 15) ?_ (by decide) (Qka (os0:=ykA cards cs size lim n w q s b B la pa v .ready) (os1:=ykC cards cs F size lim n w (upQ q 0 (v,p)) s (upT b v p x) B la pa v .ready 0) (by simp) (fun i hi hno=>?_)) (by kernel_rfl)
 ·refine Eq.mp (by kernel_rfl : (let z0 := ofOs T.e 0 (ykC cards cs F size lim n w (upQ q 0 (v, p)) s (upT b v p x) B la pa v .busy 0); let z1 := O.loop .busy none 0 (rgT size lim n w s v) [62] rgA rgB; An [CallSpec Pg g0 (V.fn 37 [V.ptr 7 0, V.ptr 11 0, V.ptr 12 0, V.ptr 10 0]) [i6 ↑v, u6 ↑p] (pt (ofOs T.e 0 (ykA cards cs size lim n w q s b B la pa v .ready)) 15 z1) 16 (CR.mk (i6 0) z0 17 [4, 5, 6, 8, 9, 12]), Tt, z0 = pt (ofOs T.e 0 (ykC cards cs F size lim n w (upQ q 0 (v, p)) s (upT b v p x) B la pa v .ready 0)) 15 z1, 17 = 17, ∀ (g : Nat), List.Mem g ([4, 5, 6, 8, 9, 12] ++ [15]) → List.Mem g [4, 5, 6, 8, 9, 12, 15]]) = _) ?_
  (repeat'(first|with_reducible apply And.intro|refine fun(_:True)=>?_))
  all_goals first|exact aq|exact hcall'|rfl|skip
 ·rcases(show i=0∨i=1∨i=2∨i=3∨i=4∨i=5∨i=6∨i=7∨i=8∨i=9∨i=10∨i=11∨i=12∨i=13∨i=14∨i=15 by simp at hi;omega)with rfl|rfl|rfl|rfl|rfl|rfl|rfl|rfl|rfl|rfl|rfl|rfl|rfl|rfl|rfl|rfl<;>first|rfl|(simp at hno)
theorem yld_Bh(cards:List Int)(cs:List (List Int))(F:Nat→Nat→Nat→Int)(size lim n w:Nat)(q:Nat→Nat×Nat)(s:Nat)(b:BSt)(B:Nat→Nat→Int)(la pa:Nat→Nat)(v p t bt:Nat)(x:Nat→Int)(h:TryOk cards cs F size s b B v p t bt x)(k j:Nat)(hj:j<k+1)(hq:q j=(v,p))(hf:findS [true,true] [i6 (v:Nat),u6 (p:Nat)] (entM q (k+1)) 0=some (some (j,i6 (j:Nat)))):
  CallSpec Pg g0 (.yld 16) [u6 (p:Nat)] (ofOs .e 0 (ykB cards cs F size lim n w q s b B la pa v .ready k)) 17 ⟨.bool true,ofOs .e 0 (ykB cards cs F size lim n w q s (upT b v p x) B la pa v .ready k),17,[4,5,6,8,9,12,16]⟩:=by
 have hB:=Qaa (sB s b B) size;have hB1:=Qaa (sB s (upT b v p x) B) size;have hS:=Qaa (scF F q) (k+1);have hE:=Qac q (k+1);have hS0:=Qaa (scF F q) (k+1);have hE0:=Qac q (k+1);have hc:=Qab cards;have hg:=Qav cs;have hla:=Qah (sL s b la) size;have hpa:=Qag (sP s b pa) size;have hla1:=Qah (sL s (upT b v p x) la) size;have hpa1:=Qag (sP s (upT b v p x) pa) size;have hcall:CallSpec Pg g0 (.fn 37 []) (i6 (v:Nat)::u6 (p:Nat)::[.ptr 7 0,.ptr 11 0,.ptr 12 0,.ptr 10 0]) (ofOs .e 0 (ykB cards cs F size lim n w q s b B la pa v .busy k)) 17 ⟨i6 0,ofOs .e 0 (ykB cards cs F size lim n w q s (upT b v p x) B la pa v .busy k),17,[4,5,6,8,9,12]⟩:=
  CallSpec.frameL (OS:=ykB cards cs F size lim n w q s b B la pa v .busy k) (OS':=ykB cards cs F size lim n w q s (upT b v p x) B la pa v .busy k) [4,5,6,8,9,7,11,12,10,15] [(4,0),(5,1),(6,2),(8,3),(9,4),(7,5),(11,6),(12,7),(10,8),(15,9)] [0,0,1,0,0,1,0,0,1] [0,0,0,0,0,0,1,1,0,0,1,0,0,1,0] (Qot (la:=la) (pa:=pa) h hj hq hf) (by kernel_rfl) (by
   refine Eq.mp (by kernel_rfl:(An [Sm (↑v:Int),Sm (↑p:Int),Zz,Zz,Zz,Zz,Tt])=_) ?_
   (repeat'(first|with_reducible apply And.intro|refine fun(_:True)=>?_))<;>first|exact aq|skip) (by
   refine Eq.mp (by kernel_rfl:(let z5:=An [Zz,Sm size,Sm (size-size)];let z0:=bF (scF F q) (k+1);let z1:=nF (sL s b la) size;let z2:=uF (sP s b pa) size;let z3:=bF (sB s b B) size;let z4:=entM q (k+1);An [An [z3=z3,HfL z3],An [z4=z4,HfE z4,Sm (k+1)],An [An [Sm cards.length,Sm (ints cards)],An [Sm cs.length,Sm (List.map sl cs)],z5,Tt,An [Zz,Sm (k+1),Tt],Tt],An [z1=z1,HfL z1],An [z2=z2,HfL z2],An [Zz,Tt],An [Sm [i6 ↑s],Tt,Tt],An [Sm [V.bool (Qaq b)],Tt,Tt],An [z5,z5,Tt],An [z0=z0,HfL z0],Tt])=_) ?_
   (repeat'(first|with_reducible apply And.intro|refine fun(_:True)=>?_))
   all_goals first|exact aq|exact hB|exact hB1|exact hS|exact hS0|exact hE|exact hE0|exact hla|exact hpa|exact hla1|exact hpa1|rfl|skip) (by
   refine Eq.mp (by kernel_rfl:(Sm (0:Int))=_) ?_
   (repeat'(first|with_reducible apply And.intro|refine fun(_:True)=>?_))<;>first|exact aq|skip) (by
   refine Eq.mp (by kernel_rfl:(let y5:=An [Zz,Sm size,Sm (size-size)];let z0:=ykB cards cs F size lim n w q s b B la pa v .busy k;let z1:=upT b v p x;let z2:=some (O.row 101 none [V.fn 37 [V.ptr 7 0,V.ptr 11 0,V.ptr 12 0,V.ptr 10 0]]);let z5:=bF (scF F q) (k+1);let z6:=some (O.row 31 none [sl cards,gC cs]);let z8:=some (O.row 38 none [V.nils,V.nils]);let z9:=some (lbO size lim n w s v .busy);let y0:=some (O.row 73 none [V.nilp]);let y1:=some (O.row 3 none [i6 ↑v]);let y2:=entM q (k+1);let y3:=some (O.row 32 none [i6 0]);let y4:=some (size-size);let z3:=nF (sL s z1 la) size;let z4:=uF (sP s z1 pa) size;let z7:=bF (sB s z1 B) size;An [z0[0]? =z6,z0[0]? =z6,z0[1]? =y0,z0[1]? =y0,z0[2]? =z8,z0[2]? =z8,z0[3]? =y3,z0[3]? =y3,Tt,An [z7=z7,HfL z7],Tt,An [y2=y2,HfE y2,Sm (k+1)],Tt,An [An [Sm cards.length,Sm (ints cards)],An [Sm cs.length,Sm (List.map sl cs)],y5,Tt,An [Zz,Sm (k+1),Tt],Tt],z0[7]? =some (O.row 73 none [V.ptr 6 0]),An [Zz,Tt],Tt,An [z3=z3,HfL z3],Tt,An [z4=z4,HfL z4],z0[10]? =some (O.row 38 none [V.sl 8 0 size y4,V.sl 9 0 size y4]),An [y5,y5,Tt],z0[11]? =some (O.row 3 none [i6 ↑s]),An [Sm [i6 ↑s],Tt,Tt],Tt,An [Sm [V.bool (Qaq z1)],Tt,Tt],z0[13]? =z2,z0[13]? =z2,z0[14]? =y1,z0[14]? =y1,z0[15]? =some (scO F q k),An [z5=z5,HfL z5],z0[16]? =z9,z0[16]? =z9,Tt])=_) ?_
   (repeat'(first|with_reducible apply And.intro|refine fun(_:True)=>?_))
   all_goals first|exact aq|exact hB|exact hB1|exact hS|exact hS0|exact hE|exact hE0|exact hla|exact hpa|exact hla1|exact hpa1|rfl|skip)
 have hcall':=CallSpec.caps (ars:=[i6 (v:Nat),u6 (p:Nat)]) (caps:=[.ptr 7 0,.ptr 11 0,.ptr 12 0,.ptr 10 0]) hcall;refine CallSpec.yldN vE_ok mixed Qad (n:=75) (fn0:=0) (tm:=rgT size lim n w s v) (ps:=[62]) (assign:=rgA) (body:=rgB) (hs0:=[]) (hs1:=[(66,.call ⟨i6 0,ofOs .e 0 (ykB cards cs F size lim n w q s (upT b v p x) B la pa v .busy k),17,[4,5,6,8,9,12]⟩)]) (m0:=1000) (m1:=1000) (sl0:=[(13,.ptr 13 0),(14,.ptr 14 0),(62,u6 (p:Nat))]) (sl1:=[(13,.ptr 13 0),(14,.ptr 14 0),(15,u6 (p:Nat))]) (by kernel_rfl) rfl rfl rfl ⟨rfl,rfl,rfl,trivial⟩ (Qhn p 16) ?_ (by decide) (Qka (os0:=ykB cards cs F size lim n w q s b B la pa v .ready k) (os1:=ykB cards cs F size lim n w q s (upT b v p x) B la pa v .ready k) (by simp) (fun i hi hno=>?_)) (by kernel_rfl)
 ·refine Eq.mp (by kernel_rfl : (let z0 := ofOs T.e 0 (ykB cards cs F size lim n w q s (upT b v p x) B la pa v .busy k); let z1 := O.loop .busy none 0 (rgT size lim n w s v) [62] rgA rgB; An [CallSpec Pg g0 (V.fn 37 [V.ptr 7 0, V.ptr 11 0, V.ptr 12 0, V.ptr 10 0]) [i6 ↑v, u6 ↑p] (pt (ofOs T.e 0 (ykB cards cs F size lim n w q s b B la pa v .ready k)) 16 z1) 17 (CR.mk (i6 0) z0 17 [4, 5, 6, 8, 9, 12]), Tt, z0 = pt (ofOs T.e 0 (ykB cards cs F size lim n w q s (upT b v p x) B la pa v .ready k)) 16 z1, 17 = 17, ∀ (g : Nat), List.Mem g ([4, 5, 6, 8, 9, 12] ++ [16]) → List.Mem g [4, 5, 6, 8, 9, 12, 16]]) = _) ?_
  (repeat'(first|with_reducible apply And.intro|refine fun(_:True)=>?_))
  all_goals first|exact aq|exact hcall'|rfl|skip
 ·rcases(show i=0∨i=1∨i=2∨i=3∨i=4∨i=5∨i=6∨i=7∨i=8∨i=9∨i=10∨i=11∨i=12∨i=13∨i=14∨i=15∨i=16 by simp at hi;omega)with rfl|rfl|rfl|rfl|rfl|rfl|rfl|rfl|rfl|rfl|rfl|rfl|rfl|rfl|rfl|rfl|rfl<;>first|rfl|(simp at hno)
theorem yld_Bm(cards:List Int)(cs:List (List Int))(F:Nat→Nat→Nat→Int)(size lim n w:Nat)(q:Nat→Nat×Nat)(s:Nat)(b:BSt)(B:Nat→Nat→Int)(la pa:Nat→Nat)(v p t bt:Nat)(x:Nat→Int)(h:TryOk cards cs F size s b B v p t bt x)(k:Nat)(hk:k≤1000000)(hf:findS [true,true] [i6 (v:Nat),u6 (p:Nat)] (entM q (k+1)) 0=some none):
  CallSpec Pg g0 (.yld 16) [u6 (p:Nat)] (ofOs .e 0 (ykB cards cs F size lim n w q s b B la pa v .ready k)) 17 ⟨.bool true,ofOs .e 0 (ykD cards cs F size lim n w (upQ q (k+1) (v,p)) s (upT b v p x) B la pa v .ready (k+1)),18,[4,5,6,8,9,12,15,16]⟩:=by
 have hB:=Qaa (sB s b B) size;have hB1:=Qaa (sB s (upT b v p x) B) size;have hS:=Qaa (scF F (upQ q (k+1) (v,p))) (k+1+1);have hE:=Qac (upQ q (k+1) (v,p)) (k+1+1);have hS0:=Qaa (scF F q) (k+1);have hE0:=Qac q (k+1);have hc:=Qab cards;have hg:=Qav cs;have hla:=Qah (sL s b la) size;have hpa:=Qag (sP s b pa) size;have hla1:=Qah (sL s (upT b v p x) la) size;have hpa1:=Qag (sP s (upT b v p x) pa) size;have hcall:CallSpec Pg g0 (.fn 37 []) (i6 (v:Nat)::u6 (p:Nat)::[.ptr 7 0,.ptr 11 0,.ptr 12 0,.ptr 10 0]) (ofOs .e 0 (ykB cards cs F size lim n w q s b B la pa v .busy k)) 17 ⟨i6 0,ofOs .e 0 (ykD cards cs F size lim n w (upQ q (k+1) (v,p)) s (upT b v p x) B la pa v .busy (k+1)),18,[4,5,6,8,9,12,15]⟩:=
  CallSpec.frameL (OS:=ykB cards cs F size lim n w q s b B la pa v .busy k) (OS':=ykD cards cs F size lim n w (upQ q (k+1) (v,p)) s (upT b v p x) B la pa v .busy (k+1)) [4,5,6,8,9,7,11,12,10,15] [(4,0),(5,1),(6,2),(8,3),(9,4),(7,5),(11,6),(12,7),(10,8),(15,9),(17,10)] [0,0,1,0,0,1,0,0,1] [0,0,0,0,0,0,1,1,0,0,1,0,0,1,0] (Qhy (q:=q) (la:=la) (pa:=pa) h hk hf) (by kernel_rfl) (by
   refine Eq.mp (by kernel_rfl:(An [Sm (↑v:Int),Sm (↑p:Int),Zz,Zz,Zz,Zz,Tt])=_) ?_
   (repeat'(first|with_reducible apply And.intro|refine fun(_:True)=>?_))<;>first|exact aq|skip) (by
   refine Eq.mp (by kernel_rfl:(let z5:=An [Zz,Sm size,Sm (size-size)];let z0:=bF (scF F q) (k+1);let z1:=nF (sL s b la) size;let z2:=uF (sP s b pa) size;let z3:=bF (sB s b B) size;let z4:=entM q (k+1);An [An [z3=z3,HfL z3],An [z4=z4,HfE z4,Sm (k+1)],An [An [Sm cards.length,Sm (ints cards)],An [Sm cs.length,Sm (List.map sl cs)],z5,Tt,An [Zz,Sm (k+1),Tt],Tt],An [z1=z1,HfL z1],An [z2=z2,HfL z2],An [Zz,Tt],An [Sm [i6 ↑s],Tt,Tt],An [Sm [V.bool (Qaq b)],Tt,Tt],An [z5,z5,Tt],An [z0=z0,HfL z0],Tt])=_) ?_
   (repeat'(first|with_reducible apply And.intro|refine fun(_:True)=>?_))
   all_goals first|exact aq|exact hB|exact hB1|exact hS|exact hS0|exact hE|exact hE0|exact hla|exact hpa|exact hla1|exact hpa1|rfl|skip) (by
   refine Eq.mp (by kernel_rfl:(Sm (0:Int))=_) ?_
   (repeat'(first|with_reducible apply And.intro|refine fun(_:True)=>?_))<;>first|exact aq|skip) (by
   refine Eq.mp (by kernel_rfl:(let y6:=An [Zz,Sm size,Sm (size-size)];let z0:=ykB cards cs F size lim n w q s b B la pa v .busy k;let z1:=upT b v p x;let z2:=upQ q (k+1) (v,p);let z3:=some (O.row 101 none [V.fn 37 [V.ptr 7 0,V.ptr 11 0,V.ptr 12 0,V.ptr 10 0]]);let z7:=some (O.row 31 none [sl cards,gC cs]);let y0:=some (O.row 38 none [V.nils,V.nils]);let y1:=some (lbO size lim n w s v .busy);let y2:=some (O.row 73 none [V.nilp]);let y3:=some (O.row 3 none [i6 ↑v]);let y4:=some (O.row 32 none [i6 0]);let y5:=some (size-size);let z4:=bF (scF F z2) (k+1+1);let z5:=nF (sL s z1 la) size;let z6:=uF (sP s z1 pa) size;let z8:=bF (sB s z1 B) size;let z9:=entM z2 (k+1+1);An [z0[0]? =z7,z0[0]? =z7,z0[1]? =y2,z0[1]? =y2,z0[2]? =y0,z0[2]? =y0,z0[3]? =y4,z0[3]? =y4,Tt,An [z8=z8,HfL z8],Tt,An [z9=z9,HfE z9,Sm (k+1+1)],Tt,An [An [Sm cards.length,Sm (ints cards)],An [Sm cs.length,Sm (List.map sl cs)],y6,Tt,An [Zz,Sm (Nat.succ k+1),Tt],Tt],z0[7]? =some (O.row 73 none [V.ptr 6 0]),An [Zz,Tt],Tt,An [z5=z5,HfL z5],Tt,An [z6=z6,HfL z6],z0[10]? =some (O.row 38 none [V.sl 8 0 size y5,V.sl 9 0 size y5]),An [y6,y6,Tt],z0[11]? =some (O.row 3 none [i6 ↑s]),An [Sm [i6 ↑s],Tt,Tt],Tt,An [Sm [V.bool (Qaq z1)],Tt,Tt],z0[13]? =z3,z0[13]? =z3,z0[14]? =y3,z0[14]? =y3,Tt,Tt,z0[16]? =y1,z0[16]? =y1,Tt,An [z4=z4,HfL z4],Tt])=_) ?_
   (repeat'(first|with_reducible apply And.intro|refine fun(_:True)=>?_))
   all_goals first|exact aq|exact hB|exact hB1|exact hS|exact hS0|exact hE|exact hE0|exact hla|exact hpa|exact hla1|exact hpa1|rfl|skip)
 have hcall':=CallSpec.caps (ars:=[i6 (v:Nat),u6 (p:Nat)]) (caps:=[.ptr 7 0,.ptr 11 0,.ptr 12 0,.ptr 10 0]) hcall;refine CallSpec.yldN vE_ok mixed Qad (n:=75) (fn0:=0) (tm:=rgT size lim n w s v) (ps:=[62]) (assign:=rgA) (body:=rgB) (hs0:=[]) (hs1:=[(66,.call ⟨i6 0,ofOs .e 0 (ykD cards cs F size lim n w (upQ q (k+1) (v,p)) s (upT b v p x) B la pa v .busy (k+1)),18,[4,5,6,8,9,12,15]⟩)]) (m0:=1000) (m1:=1000) (sl0:=[(13,.ptr 13 0),(14,.ptr 14 0),(62,u6 (p:Nat))]) (sl1:=[(13,.ptr 13 0),(14,.ptr 14 0),(15,u6 (p:Nat))]) (by kernel_rfl) rfl rfl rfl ⟨rfl,rfl,rfl,trivial⟩ (Qhn p 16) ?_ (by decide) (Qka (os0:=ykB cards cs F size lim n w q s b B la pa v .ready k) (os1:=ykD cards cs F size lim n w (upQ q (k+1) (v,p)) s (upT b v p x) B la pa v .ready (k+1)) (by simp) (fun i hi hno=>?_)) (by kernel_rfl)
 ·refine Eq.mp (by kernel_rfl : (let z1 := O.loop .busy none 0 (rgT size lim n w s v) [62] rgA rgB; let z2 := upQ q (k + 1) (v, p); let z3 := [4, 5, 6, 8, 9, 12, 15]; let z0 := ofOs T.e 0 (ykD cards cs F size lim n w z2 s (upT b v p x) B la pa v .busy (k + 1)); An [CallSpec Pg g0 (V.fn 37 [V.ptr 7 0, V.ptr 11 0, V.ptr 12 0, V.ptr 10 0]) [i6 ↑v, u6 ↑p] (pt (ofOs T.e 0 (ykB cards cs F size lim n w q s b B la pa v .ready k)) 16 z1) 17 (CR.mk (i6 0) z0 18 z3), Tt, z0 = pt (ofOs T.e 0 (ykD cards cs F size lim n w z2 s (upT b v p x) B la pa v .ready (k + 1))) 16 z1, 18 = 18, ∀ (g : Nat), List.Mem g (z3 ++ [16]) → List.Mem g [4, 5, 6, 8, 9, 12, 15, 16]]) = _) ?_
  (repeat'(first|with_reducible apply And.intro|refine fun(_:True)=>?_))
  all_goals first|exact aq|exact hcall'|rfl|skip
 ·rcases(show i=0∨i=1∨i=2∨i=3∨i=4∨i=5∨i=6∨i=7∨i=8∨i=9∨i=10∨i=11∨i=12∨i=13∨i=14∨i=15∨i=16 by simp at hi;omega)with rfl|rfl|rfl|rfl|rfl|rfl|rfl|rfl|rfl|rfl|rfl|rfl|rfl|rfl|rfl|rfl|rfl<;>first|rfl|(simp at hno)
theorem yld_Ch(cards:List Int)(cs:List (List Int))(F:Nat→Nat→Nat→Int)(size lim n w:Nat)(q:Nat→Nat×Nat)(s:Nat)(b:BSt)(B:Nat→Nat→Int)(la pa:Nat→Nat)(v p t bt:Nat)(x:Nat→Int)(h:TryOk cards cs F size s b B v p t bt x)(k j:Nat)(hj:j<k+1)(hq:q j=(v,p))(hf:findS [true,true] [i6 (v:Nat),u6 (p:Nat)] (entM q (k+1)) 0=some (some (j,i6 (j:Nat)))):
  CallSpec Pg g0 (.yld 15) [u6 (p:Nat)] (ofOs .e 0 (ykC cards cs F size lim n w q s b B la pa v .ready k)) 17 ⟨.bool true,ofOs .e 0 (ykC cards cs F size lim n w q s (upT b v p x) B la pa v .ready k),17,[4,5,6,8,9,12,15]⟩:=by
 have hB:=Qaa (sB s b B) size;have hB1:=Qaa (sB s (upT b v p x) B) size;have hS:=Qaa (scF F q) (k+1);have hE:=Qac q (k+1);have hS0:=Qaa (scF F q) (k+1);have hE0:=Qac q (k+1);have hc:=Qab cards;have hg:=Qav cs;have hla:=Qah (sL s b la) size;have hpa:=Qag (sP s b pa) size;have hla1:=Qah (sL s (upT b v p x) la) size;have hpa1:=Qag (sP s (upT b v p x) pa) size;have hcall:CallSpec Pg g0 (.fn 37 []) (i6 (v:Nat)::u6 (p:Nat)::[.ptr 7 0,.ptr 11 0,.ptr 12 0,.ptr 10 0]) (ofOs .e 0 (ykC cards cs F size lim n w q s b B la pa v .busy k)) 17 ⟨i6 0,ofOs .e 0 (ykC cards cs F size lim n w q s (upT b v p x) B la pa v .busy k),17,[4,5,6,8,9,12]⟩:=
  CallSpec.frameL (OS:=ykC cards cs F size lim n w q s b B la pa v .busy k) (OS':=ykC cards cs F size lim n w q s (upT b v p x) B la pa v .busy k) [4,5,6,8,9,7,11,12,10,16] [(4,0),(5,1),(6,2),(8,3),(9,4),(7,5),(11,6),(12,7),(10,8),(16,9)] [0,0,1,0,0,1,0,0,1] [0,0,0,0,0,0,1,1,0,0,1,0,0,1,0] (Qot (la:=la) (pa:=pa) h hj hq hf) (by kernel_rfl) (by
   refine Eq.mp (by kernel_rfl:(An [Sm (↑v:Int),Sm (↑p:Int),Zz,Zz,Zz,Zz,Tt])=_) ?_
   (repeat'(first|with_reducible apply And.intro|refine fun(_:True)=>?_))<;>first|exact aq|skip) (by
   refine Eq.mp (by kernel_rfl:(let z5:=An [Zz,Sm size,Sm (size-size)];let z0:=bF (scF F q) (k+1);let z1:=nF (sL s b la) size;let z2:=uF (sP s b pa) size;let z3:=bF (sB s b B) size;let z4:=entM q (k+1);An [An [z3=z3,HfL z3],An [z4=z4,HfE z4,Sm (k+1)],An [An [Sm cards.length,Sm (ints cards)],An [Sm cs.length,Sm (List.map sl cs)],z5,Tt,An [Zz,Sm (k+1),Tt],Tt],An [z1=z1,HfL z1],An [z2=z2,HfL z2],An [Zz,Tt],An [Sm [i6 ↑s],Tt,Tt],An [Sm [V.bool (Qaq b)],Tt,Tt],An [z5,z5,Tt],An [z0=z0,HfL z0],Tt])=_) ?_
   (repeat'(first|with_reducible apply And.intro|refine fun(_:True)=>?_))
   all_goals first|exact aq|exact hB|exact hB1|exact hS|exact hS0|exact hE|exact hE0|exact hla|exact hpa|exact hla1|exact hpa1|rfl|skip) (by
   refine Eq.mp (by kernel_rfl:(Sm (0:Int))=_) ?_
   (repeat'(first|with_reducible apply And.intro|refine fun(_:True)=>?_))<;>first|exact aq|skip) (by
   refine Eq.mp (by kernel_rfl:(let y5:=An [Zz,Sm size,Sm (size-size)];let z0:=ykC cards cs F size lim n w q s b B la pa v .busy k;let z1:=upT b v p x;let z2:=some (O.row 101 none [V.fn 37 [V.ptr 7 0,V.ptr 11 0,V.ptr 12 0,V.ptr 10 0]]);let z5:=bF (scF F q) (k+1);let z6:=some (O.row 31 none [sl cards,gC cs]);let z8:=some (O.row 38 none [V.nils,V.nils]);let z9:=some (lbO size lim n w s v .busy);let y0:=some (O.row 73 none [V.nilp]);let y1:=some (O.row 3 none [i6 ↑v]);let y2:=entM q (k+1);let y3:=some (O.row 32 none [i6 0]);let y4:=some (size-size);let z3:=nF (sL s z1 la) size;let z4:=uF (sP s z1 pa) size;let z7:=bF (sB s z1 B) size;An [z0[0]? =z6,z0[0]? =z6,z0[1]? =y0,z0[1]? =y0,z0[2]? =z8,z0[2]? =z8,z0[3]? =y3,z0[3]? =y3,Tt,An [z7=z7,HfL z7],Tt,An [y2=y2,HfE y2,Sm (k+1)],Tt,An [An [Sm cards.length,Sm (ints cards)],An [Sm cs.length,Sm (List.map sl cs)],y5,Tt,An [Zz,Sm (k+1),Tt],Tt],z0[7]? =some (O.row 73 none [V.ptr 6 0]),An [Zz,Tt],Tt,An [z3=z3,HfL z3],Tt,An [z4=z4,HfL z4],z0[10]? =some (O.row 38 none [V.sl 8 0 size y4,V.sl 9 0 size y4]),An [y5,y5,Tt],z0[11]? =some (O.row 3 none [i6 ↑s]),An [Sm [i6 ↑s],Tt,Tt],Tt,An [Sm [V.bool (Qaq z1)],Tt,Tt],z0[13]? =z2,z0[13]? =z2,z0[14]? =y1,z0[14]? =y1,z0[15]? =z9,z0[15]? =z9,z0[16]? =some (scO F q k),An [z5=z5,HfL z5],Tt])=_) ?_
   (repeat'(first|with_reducible apply And.intro|refine fun(_:True)=>?_))
   all_goals first|exact aq|exact hB|exact hB1|exact hS|exact hS0|exact hE|exact hE0|exact hla|exact hpa|exact hla1|exact hpa1|rfl|skip)
 have hcall':=CallSpec.caps (ars:=[i6 (v:Nat),u6 (p:Nat)]) (caps:=[.ptr 7 0,.ptr 11 0,.ptr 12 0,.ptr 10 0]) hcall;refine CallSpec.yldN vE_ok mixed Qad (n:=75) (fn0:=0) (tm:=rgT size lim n w s v) (ps:=[62]) (assign:=rgA) (body:=rgB) (hs0:=[]) (hs1:=[(66,.call ⟨i6 0,ofOs .e 0 (ykC cards cs F size lim n w q s (upT b v p x) B la pa v .busy k),17,[4,5,6,8,9,12]⟩)]) (m0:=1000) (m1:=1000) (sl0:=[(13,.ptr 13 0),(14,.ptr 14 0),(62,u6 (p:Nat))]) (sl1:=[(13,.ptr 13 0),(14,.ptr 14 0),(15,u6 (p:Nat))]) (by kernel_rfl) rfl rfl rfl ⟨rfl,rfl,rfl,trivial⟩ (Qhn p 15) ?_ (by decide) (Qka (os0:=ykC cards cs F size lim n w q s b B la pa v .ready k) (os1:=ykC cards cs F size lim n w q s (upT b v p x) B la pa v .ready k) (by simp) (fun i hi hno=>?_)) (by kernel_rfl)
 ·refine Eq.mp (by kernel_rfl : (let z0 := ofOs T.e 0 (ykC cards cs F size lim n w q s (upT b v p x) B la pa v .busy k); let z1 := O.loop .busy none 0 (rgT size lim n w s v) [62] rgA rgB; An [CallSpec Pg g0 (V.fn 37 [V.ptr 7 0, V.ptr 11 0, V.ptr 12 0, V.ptr 10 0]) [i6 ↑v, u6 ↑p] (pt (ofOs T.e 0 (ykC cards cs F size lim n w q s b B la pa v .ready k)) 15 z1) 17 (CR.mk (i6 0) z0 17 [4, 5, 6, 8, 9, 12]), Tt, z0 = pt (ofOs T.e 0 (ykC cards cs F size lim n w q s (upT b v p x) B la pa v .ready k)) 15 z1, 17 = 17, ∀ (g : Nat), List.Mem g ([4, 5, 6, 8, 9, 12] ++ [15]) → List.Mem g [4, 5, 6, 8, 9, 12, 15]]) = _) ?_
  (repeat'(first|with_reducible apply And.intro|refine fun(_:True)=>?_))
  all_goals first|exact aq|exact hcall'|rfl|skip
 ·rcases(show i=0∨i=1∨i=2∨i=3∨i=4∨i=5∨i=6∨i=7∨i=8∨i=9∨i=10∨i=11∨i=12∨i=13∨i=14∨i=15∨i=16 by simp at hi;omega)with rfl|rfl|rfl|rfl|rfl|rfl|rfl|rfl|rfl|rfl|rfl|rfl|rfl|rfl|rfl|rfl|rfl<;>first|rfl|(simp at hno)
theorem yld_Cm(cards:List Int)(cs:List (List Int))(F:Nat→Nat→Nat→Int)(size lim n w:Nat)(q:Nat→Nat×Nat)(s:Nat)(b:BSt)(B:Nat→Nat→Int)(la pa:Nat→Nat)(v p t bt:Nat)(x:Nat→Int)(h:TryOk cards cs F size s b B v p t bt x)(k:Nat)(hk:k≤1000000)(hf:findS [true,true] [i6 (v:Nat),u6 (p:Nat)] (entM q (k+1)) 0=some none):
  CallSpec Pg g0 (.yld 15) [u6 (p:Nat)] (ofOs .e 0 (ykC cards cs F size lim n w q s b B la pa v .ready k)) 17 ⟨.bool true,ofOs .e 0 (ykC2 cards cs F size lim n w (upQ q (k+1) (v,p)) s (upT b v p x) B la pa v .ready (k+1)),18,[4,5,6,8,9,12,16,15]⟩:=by
 have hB:=Qaa (sB s b B) size;have hB1:=Qaa (sB s (upT b v p x) B) size;have hS:=Qaa (scF F (upQ q (k+1) (v,p))) (k+1+1);have hE:=Qac (upQ q (k+1) (v,p)) (k+1+1);have hS0:=Qaa (scF F q) (k+1);have hE0:=Qac q (k+1);have hc:=Qab cards;have hg:=Qav cs;have hla:=Qah (sL s b la) size;have hpa:=Qag (sP s b pa) size;have hla1:=Qah (sL s (upT b v p x) la) size;have hpa1:=Qag (sP s (upT b v p x) pa) size;have hcall:CallSpec Pg g0 (.fn 37 []) (i6 (v:Nat)::u6 (p:Nat)::[.ptr 7 0,.ptr 11 0,.ptr 12 0,.ptr 10 0]) (ofOs .e 0 (ykC cards cs F size lim n w q s b B la pa v .busy k)) 17 ⟨i6 0,ofOs .e 0 (ykC2 cards cs F size lim n w (upQ q (k+1) (v,p)) s (upT b v p x) B la pa v .busy (k+1)),18,[4,5,6,8,9,12,16]⟩:=
  CallSpec.frameL (OS:=ykC cards cs F size lim n w q s b B la pa v .busy k) (OS':=ykC2 cards cs F size lim n w (upQ q (k+1) (v,p)) s (upT b v p x) B la pa v .busy (k+1)) [4,5,6,8,9,7,11,12,10,16] [(4,0),(5,1),(6,2),(8,3),(9,4),(7,5),(11,6),(12,7),(10,8),(16,9),(17,10)] [0,0,1,0,0,1,0,0,1] [0,0,0,0,0,0,1,1,0,0,1,0,0,1,0] (Qhy (q:=q) (la:=la) (pa:=pa) h hk hf) (by kernel_rfl) (by
   refine Eq.mp (by kernel_rfl:(An [Sm (↑v:Int),Sm (↑p:Int),Zz,Zz,Zz,Zz,Tt])=_) ?_
   (repeat'(first|with_reducible apply And.intro|refine fun(_:True)=>?_))<;>first|exact aq|skip) (by
   refine Eq.mp (by kernel_rfl:(let z5:=An [Zz,Sm size,Sm (size-size)];let z0:=bF (scF F q) (k+1);let z1:=nF (sL s b la) size;let z2:=uF (sP s b pa) size;let z3:=bF (sB s b B) size;let z4:=entM q (k+1);An [An [z3=z3,HfL z3],An [z4=z4,HfE z4,Sm (k+1)],An [An [Sm cards.length,Sm (ints cards)],An [Sm cs.length,Sm (List.map sl cs)],z5,Tt,An [Zz,Sm (k+1),Tt],Tt],An [z1=z1,HfL z1],An [z2=z2,HfL z2],An [Zz,Tt],An [Sm [i6 ↑s],Tt,Tt],An [Sm [V.bool (Qaq b)],Tt,Tt],An [z5,z5,Tt],An [z0=z0,HfL z0],Tt])=_) ?_
   (repeat'(first|with_reducible apply And.intro|refine fun(_:True)=>?_))
   all_goals first|exact aq|exact hB|exact hB1|exact hS|exact hS0|exact hE|exact hE0|exact hla|exact hpa|exact hla1|exact hpa1|rfl|skip) (by
   refine Eq.mp (by kernel_rfl:(Sm (0:Int))=_) ?_
   (repeat'(first|with_reducible apply And.intro|refine fun(_:True)=>?_))<;>first|exact aq|skip) (by
   refine Eq.mp (by kernel_rfl:(let y6:=An [Zz,Sm size,Sm (size-size)];let z0:=ykC cards cs F size lim n w q s b B la pa v .busy k;let z1:=upT b v p x;let z2:=upQ q (k+1) (v,p);let z3:=some (O.row 101 none [V.fn 37 [V.ptr 7 0,V.ptr 11 0,V.ptr 12 0,V.ptr 10 0]]);let z7:=some (O.row 31 none [sl cards,gC cs]);let y0:=some (O.row 38 none [V.nils,V.nils]);let y1:=some (lbO size lim n w s v .busy);let y2:=some (O.row 73 none [V.nilp]);let y3:=some (O.row 3 none [i6 ↑v]);let y4:=some (O.row 32 none [i6 0]);let y5:=some (size-size);let z4:=bF (scF F z2) (k+1+1);let z5:=nF (sL s z1 la) size;let z6:=uF (sP s z1 pa) size;let z8:=bF (sB s z1 B) size;let z9:=entM z2 (k+1+1);An [z0[0]? =z7,z0[0]? =z7,z0[1]? =y2,z0[1]? =y2,z0[2]? =y0,z0[2]? =y0,z0[3]? =y4,z0[3]? =y4,Tt,An [z8=z8,HfL z8],Tt,An [z9=z9,HfE z9,Sm (k+1+1)],Tt,An [An [Sm cards.length,Sm (ints cards)],An [Sm cs.length,Sm (List.map sl cs)],y6,Tt,An [Zz,Sm (Nat.succ k+1),Tt],Tt],z0[7]? =some (O.row 73 none [V.ptr 6 0]),An [Zz,Tt],Tt,An [z5=z5,HfL z5],Tt,An [z6=z6,HfL z6],z0[10]? =some (O.row 38 none [V.sl 8 0 size y5,V.sl 9 0 size y5]),An [y6,y6,Tt],z0[11]? =some (O.row 3 none [i6 ↑s]),An [Sm [i6 ↑s],Tt,Tt],Tt,An [Sm [V.bool (Qaq z1)],Tt,Tt],z0[13]? =z3,z0[13]? =z3,z0[14]? =y3,z0[14]? =y3,z0[15]? =y1,z0[15]? =y1,Tt,Tt,Tt,An [z4=z4,HfL z4],Tt])=_) ?_
   (repeat'(first|with_reducible apply And.intro|refine fun(_:True)=>?_))
   all_goals first|exact aq|exact hB|exact hB1|exact hS|exact hS0|exact hE|exact hE0|exact hla|exact hpa|exact hla1|exact hpa1|rfl|skip)
 have hcall':=CallSpec.caps (ars:=[i6 (v:Nat),u6 (p:Nat)]) (caps:=[.ptr 7 0,.ptr 11 0,.ptr 12 0,.ptr 10 0]) hcall;refine CallSpec.yldN vE_ok mixed Qad (n:=75) (fn0:=0) (tm:=rgT size lim n w s v) (ps:=[62]) (assign:=rgA) (body:=rgB) (hs0:=[]) (hs1:=[(66,.call ⟨i6 0,ofOs .e 0 (ykC2 cards cs F size lim n w (upQ q (k+1) (v,p)) s (upT b v p x) B la pa v .busy (k+1)),18,[4,5,6,8,9,12,16]⟩)]) (m0:=1000) (m1:=1000) (sl0:=[(13,.ptr 13 0),(14,.ptr 14 0),(62,u6 (p:Nat))]) (sl1:=[(13,.ptr 13 0),(14,.ptr 14 0),(15,u6 (p:Nat))]) (by kernel_rfl) rfl rfl rfl ⟨rfl,rfl,rfl,trivial⟩ (Qhn p 15) ?_ (by decide) (Qka (os0:=ykC cards cs F size lim n w q s b B la pa v .ready k) (os1:=ykC2 cards cs F size lim n w (upQ q (k+1) (v,p)) s (upT b v p x) B la pa v .ready (k+1)) (by simp) (fun i hi hno=>?_)) (by kernel_rfl)
 ·refine Eq.mp (by kernel_rfl : (let z1 := O.loop .busy none 0 (rgT size lim n w s v) [62] rgA rgB; let z2 := upQ q (k + 1) (v, p); let z3 := [4, 5, 6, 8, 9, 12, 16]; let z0 := ofOs T.e 0 (ykC2 cards cs F size lim n w z2 s (upT b v p x) B la pa v .busy (k + 1)); An [CallSpec Pg g0 (V.fn 37 [V.ptr 7 0, V.ptr 11 0, V.ptr 12 0, V.ptr 10 0]) [i6 ↑v, u6 ↑p] (pt (ofOs T.e 0 (ykC cards cs F size lim n w q s b B la pa v .ready k)) 15 z1) 17 (CR.mk (i6 0) z0 18 z3), Tt, z0 = pt (ofOs T.e 0 (ykC2 cards cs F size lim n w z2 s (upT b v p x) B la pa v .ready (k + 1))) 15 z1, 18 = 18, ∀ (g : Nat), List.Mem g (z3 ++ [15]) → List.Mem g [4, 5, 6, 8, 9, 12, 16, 15]]) = _) ?_
  (repeat'(first|with_reducible apply And.intro|refine fun(_:True)=>?_))
  all_goals first|exact aq|exact hcall'|rfl|skip
 ·rcases(show i=0∨i=1∨i=2∨i=3∨i=4∨i=5∨i=6∨i=7∨i=8∨i=9∨i=10∨i=11∨i=12∨i=13∨i=14∨i=15∨i=16 by simp at hi;omega)with rfl|rfl|rfl|rfl|rfl|rfl|rfl|rfl|rfl|rfl|rfl|rfl|rfl|rfl|rfl|rfl|rfl<;>first|rfl|(simp at hno)
theorem yld_Dh(cards:List Int)(cs:List (List Int))(F:Nat→Nat→Nat→Int)(size lim n w:Nat)(q:Nat→Nat×Nat)(s:Nat)(b:BSt)(B:Nat→Nat→Int)(la pa:Nat→Nat)(v p t bt:Nat)(x:Nat→Int)(h:TryOk cards cs F size s b B v p t bt x)(k j:Nat)(hj:j<k+1)(hq:q j=(v,p))(hf:findS [true,true] [i6 (v:Nat),u6 (p:Nat)] (entM q (k+1)) 0=some (some (j,i6 (j:Nat)))):
  CallSpec Pg g0 (.yld 16) [u6 (p:Nat)] (ofOs .e 0 (ykD cards cs F size lim n w q s b B la pa v .ready k)) 18 ⟨.bool true,ofOs .e 0 (ykD cards cs F size lim n w q s (upT b v p x) B la pa v .ready k),18,[4,5,6,8,9,12,16]⟩:=by
 have hB:=Qaa (sB s b B) size;have hB1:=Qaa (sB s (upT b v p x) B) size;have hS:=Qaa (scF F q) (k+1);have hE:=Qac q (k+1);have hS0:=Qaa (scF F q) (k+1);have hE0:=Qac q (k+1);have hc:=Qab cards;have hg:=Qav cs;have hla:=Qah (sL s b la) size;have hpa:=Qag (sP s b pa) size;have hla1:=Qah (sL s (upT b v p x) la) size;have hpa1:=Qag (sP s (upT b v p x) pa) size;have hcall:CallSpec Pg g0 (.fn 37 []) (i6 (v:Nat)::u6 (p:Nat)::[.ptr 7 0,.ptr 11 0,.ptr 12 0,.ptr 10 0]) (ofOs .e 0 (ykD cards cs F size lim n w q s b B la pa v .busy k)) 18 ⟨i6 0,ofOs .e 0 (ykD cards cs F size lim n w q s (upT b v p x) B la pa v .busy k),18,[4,5,6,8,9,12]⟩:=
  CallSpec.frameL (OS:=ykD cards cs F size lim n w q s b B la pa v .busy k) (OS':=ykD cards cs F size lim n w q s (upT b v p x) B la pa v .busy k) [4,5,6,8,9,7,11,12,10,17] [(4,0),(5,1),(6,2),(8,3),(9,4),(7,5),(11,6),(12,7),(10,8),(17,9)] [0,0,1,0,0,1,0,0,1] [0,0,0,0,0,0,1,1,0,0,1,0,0,1,0] (Qot (la:=la) (pa:=pa) h hj hq hf) (by kernel_rfl) (by
   refine Eq.mp (by kernel_rfl:(An [Sm (↑v:Int),Sm (↑p:Int),Zz,Zz,Zz,Zz,Tt])=_) ?_
   (repeat'(first|with_reducible apply And.intro|refine fun(_:True)=>?_))<;>first|exact aq|skip) (by
   refine Eq.mp (by kernel_rfl:(let z5:=An [Zz,Sm size,Sm (size-size)];let z0:=bF (scF F q) (k+1);let z1:=nF (sL s b la) size;let z2:=uF (sP s b pa) size;let z3:=bF (sB s b B) size;let z4:=entM q (k+1);An [An [z3=z3,HfL z3],An [z4=z4,HfE z4,Sm (k+1)],An [An [Sm cards.length,Sm (ints cards)],An [Sm cs.length,Sm (List.map sl cs)],z5,Tt,An [Zz,Sm (k+1),Tt],Tt],An [z1=z1,HfL z1],An [z2=z2,HfL z2],An [Zz,Tt],An [Sm [i6 ↑s],Tt,Tt],An [Sm [V.bool (Qaq b)],Tt,Tt],An [z5,z5,Tt],An [z0=z0,HfL z0],Tt])=_) ?_
   (repeat'(first|with_reducible apply And.intro|refine fun(_:True)=>?_))
   all_goals first|exact aq|exact hB|exact hB1|exact hS|exact hS0|exact hE|exact hE0|exact hla|exact hpa|exact hla1|exact hpa1|rfl|skip) (by
   refine Eq.mp (by kernel_rfl:(Sm (0:Int))=_) ?_
   (repeat'(first|with_reducible apply And.intro|refine fun(_:True)=>?_))<;>first|exact aq|skip) (by
   refine Eq.mp (by kernel_rfl:(let y5:=An [Zz,Sm size,Sm (size-size)];let z0:=ykD cards cs F size lim n w q s b B la pa v .busy k;let z1:=upT b v p x;let z2:=some (O.row 101 none [V.fn 37 [V.ptr 7 0,V.ptr 11 0,V.ptr 12 0,V.ptr 10 0]]);let z5:=bF (scF F q) (k+1);let z6:=some (O.row 31 none [sl cards,gC cs]);let z8:=some (O.row 38 none [V.nils,V.nils]);let z9:=some (lbO size lim n w s v .busy);let y0:=some (O.row 73 none [V.nilp]);let y1:=some (O.row 3 none [i6 ↑v]);let y2:=entM q (k+1);let y3:=some (O.row 32 none [i6 0]);let y4:=some (size-size);let z3:=nF (sL s z1 la) size;let z4:=uF (sP s z1 pa) size;let z7:=bF (sB s z1 B) size;An [z0[0]? =z6,z0[0]? =z6,z0[1]? =y0,z0[1]? =y0,z0[2]? =z8,z0[2]? =z8,z0[3]? =y3,z0[3]? =y3,Tt,An [z7=z7,HfL z7],Tt,An [y2=y2,HfE y2,Sm (k+1)],Tt,An [An [Sm cards.length,Sm (ints cards)],An [Sm cs.length,Sm (List.map sl cs)],y5,Tt,An [Zz,Sm (k+1),Tt],Tt],z0[7]? =some (O.row 73 none [V.ptr 6 0]),An [Zz,Tt],Tt,An [z3=z3,HfL z3],Tt,An [z4=z4,HfL z4],z0[10]? =some (O.row 38 none [V.sl 8 0 size y4,V.sl 9 0 size y4]),An [y5,y5,Tt],z0[11]? =some (O.row 3 none [i6 ↑s]),An [Sm [i6 ↑s],Tt,Tt],Tt,An [Sm [V.bool (Qaq z1)],Tt,Tt],z0[13]? =z2,z0[13]? =z2,z0[14]? =y1,z0[14]? =y1,z0[15]? =some O.dead,Tt,z0[16]? =z9,z0[16]? =z9,z0[17]? =some (scO F q k),An [z5=z5,HfL z5],Tt])=_) ?_
   (repeat'(first|with_reducible apply And.intro|refine fun(_:True)=>?_))
   all_goals first|exact aq|exact hB|exact hB1|exact hS|exact hS0|exact hE|exact hE0|exact hla|exact hpa|exact hla1|exact hpa1|rfl|skip)
 have hcall':=CallSpec.caps (ars:=[i6 (v:Nat),u6 (p:Nat)]) (caps:=[.ptr 7 0,.ptr 11 0,.ptr 12 0,.ptr 10 0]) hcall;refine CallSpec.yldN vE_ok mixed Qad (n:=75) (fn0:=0) (tm:=rgT size lim n w s v) (ps:=[62]) (assign:=rgA) (body:=rgB) (hs0:=[]) (hs1:=[(66,.call ⟨i6 0,ofOs .e 0 (ykD cards cs F size lim n w q s (upT b v p x) B la pa v .busy k),18,[4,5,6,8,9,12]⟩)]) (m0:=1000) (m1:=1000) (sl0:=[(13,.ptr 13 0),(14,.ptr 14 0),(62,u6 (p:Nat))]) (sl1:=[(13,.ptr 13 0),(14,.ptr 14 0),(15,u6 (p:Nat))]) (by kernel_rfl) rfl rfl rfl ⟨rfl,rfl,rfl,trivial⟩ (Qhn p 16) ?_ (by decide) (Qka (os0:=ykD cards cs F size lim n w q s b B la pa v .ready k) (os1:=ykD cards cs F size lim n w q s (upT b v p x) B la pa v .ready k) (by simp) (fun i hi hno=>?_)) (by kernel_rfl)
 ·refine Eq.mp (by kernel_rfl : (let z0 := ofOs T.e 0 (ykD cards cs F size lim n w q s (upT b v p x) B la pa v .busy k); let z1 := O.loop .busy none 0 (rgT size lim n w s v) [62] rgA rgB; An [CallSpec Pg g0 (V.fn 37 [V.ptr 7 0, V.ptr 11 0, V.ptr 12 0, V.ptr 10 0]) [i6 ↑v, u6 ↑p] (pt (ofOs T.e 0 (ykD cards cs F size lim n w q s b B la pa v .ready k)) 16 z1) 18 (CR.mk (i6 0) z0 18 [4, 5, 6, 8, 9, 12]), Tt, z0 = pt (ofOs T.e 0 (ykD cards cs F size lim n w q s (upT b v p x) B la pa v .ready k)) 16 z1, 18 = 18, ∀ (g : Nat), List.Mem g ([4, 5, 6, 8, 9, 12] ++ [16]) → List.Mem g [4, 5, 6, 8, 9, 12, 16]]) = _) ?_
  (repeat'(first|with_reducible apply And.intro|refine fun(_:True)=>?_))
  all_goals first|exact aq|exact hcall'|rfl|skip
 ·rcases(show i=0∨i=1∨i=2∨i=3∨i=4∨i=5∨i=6∨i=7∨i=8∨i=9∨i=10∨i=11∨i=12∨i=13∨i=14∨i=15∨i=16∨i=17 by simp at hi;omega)with rfl|rfl|rfl|rfl|rfl|rfl|rfl|rfl|rfl|rfl|rfl|rfl|rfl|rfl|rfl|rfl|rfl|rfl<;>first|rfl|(simp at hno)
theorem yld_Dm(cards:List Int)(cs:List (List Int))(F:Nat→Nat→Nat→Int)(size lim n w:Nat)(q:Nat→Nat×Nat)(s:Nat)(b:BSt)(B:Nat→Nat→Int)(la pa:Nat→Nat)(v p t bt:Nat)(x:Nat→Int)(h:TryOk cards cs F size s b B v p t bt x)(k:Nat)(hk:k≤1000000)(hf:findS [true,true] [i6 (v:Nat),u6 (p:Nat)] (entM q (k+1)) 0=some none):
  CallSpec Pg g0 (.yld 16) [u6 (p:Nat)] (ofOs .e 0 (ykD cards cs F size lim n w q s b B la pa v .ready k)) 18 ⟨.bool true,ofOs .e 0 (ykD2 cards cs F size lim n w (upQ q (k+1) (v,p)) s (upT b v p x) B la pa v .ready (k+1)),19,[4,5,6,8,9,12,17,16]⟩:=by
 have hB:=Qaa (sB s b B) size;have hB1:=Qaa (sB s (upT b v p x) B) size;have hS:=Qaa (scF F (upQ q (k+1) (v,p))) (k+1+1);have hE:=Qac (upQ q (k+1) (v,p)) (k+1+1);have hS0:=Qaa (scF F q) (k+1);have hE0:=Qac q (k+1);have hc:=Qab cards;have hg:=Qav cs;have hla:=Qah (sL s b la) size;have hpa:=Qag (sP s b pa) size;have hla1:=Qah (sL s (upT b v p x) la) size;have hpa1:=Qag (sP s (upT b v p x) pa) size;have hcall:CallSpec Pg g0 (.fn 37 []) (i6 (v:Nat)::u6 (p:Nat)::[.ptr 7 0,.ptr 11 0,.ptr 12 0,.ptr 10 0]) (ofOs .e 0 (ykD cards cs F size lim n w q s b B la pa v .busy k)) 18 ⟨i6 0,ofOs .e 0 (ykD2 cards cs F size lim n w (upQ q (k+1) (v,p)) s (upT b v p x) B la pa v .busy (k+1)),19,[4,5,6,8,9,12,17]⟩:=
  CallSpec.frameL (OS:=ykD cards cs F size lim n w q s b B la pa v .busy k) (OS':=ykD2 cards cs F size lim n w (upQ q (k+1) (v,p)) s (upT b v p x) B la pa v .busy (k+1)) [4,5,6,8,9,7,11,12,10,17] [(4,0),(5,1),(6,2),(8,3),(9,4),(7,5),(11,6),(12,7),(10,8),(17,9),(18,10)] [0,0,1,0,0,1,0,0,1] [0,0,0,0,0,0,1,1,0,0,1,0,0,1,0] (Qhy (q:=q) (la:=la) (pa:=pa) h hk hf) (by kernel_rfl) (by
   refine Eq.mp (by kernel_rfl:(An [Sm (↑v:Int),Sm (↑p:Int),Zz,Zz,Zz,Zz,Tt])=_) ?_
   (repeat'(first|with_reducible apply And.intro|refine fun(_:True)=>?_))<;>first|exact aq|skip) (by
   refine Eq.mp (by kernel_rfl:(let z5:=An [Zz,Sm size,Sm (size-size)];let z0:=bF (scF F q) (k+1);let z1:=nF (sL s b la) size;let z2:=uF (sP s b pa) size;let z3:=bF (sB s b B) size;let z4:=entM q (k+1);An [An [z3=z3,HfL z3],An [z4=z4,HfE z4,Sm (k+1)],An [An [Sm cards.length,Sm (ints cards)],An [Sm cs.length,Sm (List.map sl cs)],z5,Tt,An [Zz,Sm (k+1),Tt],Tt],An [z1=z1,HfL z1],An [z2=z2,HfL z2],An [Zz,Tt],An [Sm [i6 ↑s],Tt,Tt],An [Sm [V.bool (Qaq b)],Tt,Tt],An [z5,z5,Tt],An [z0=z0,HfL z0],Tt])=_) ?_
   (repeat'(first|with_reducible apply And.intro|refine fun(_:True)=>?_))
   all_goals first|exact aq|exact hB|exact hB1|exact hS|exact hS0|exact hE|exact hE0|exact hla|exact hpa|exact hla1|exact hpa1|rfl|skip) (by
   refine Eq.mp (by kernel_rfl:(Sm (0:Int))=_) ?_
   (repeat'(first|with_reducible apply And.intro|refine fun(_:True)=>?_))<;>first|exact aq|skip) (by
   refine Eq.mp (by kernel_rfl:(let y6:=An [Zz,Sm size,Sm (size-size)];let z0:=ykD cards cs F size lim n w q s b B la pa v .busy k;let z1:=upT b v p x;let z2:=upQ q (k+1) (v,p);let z3:=some (O.row 101 none [V.fn 37 [V.ptr 7 0,V.ptr 11 0,V.ptr 12 0,V.ptr 10 0]]);let z7:=some (O.row 31 none [sl cards,gC cs]);let y0:=some (O.row 38 none [V.nils,V.nils]);let y1:=some (lbO size lim n w s v .busy);let y2:=some (O.row 73 none [V.nilp]);let y3:=some (O.row 3 none [i6 ↑v]);let y4:=some (O.row 32 none [i6 0]);let y5:=some (size-size);let z4:=bF (scF F z2) (k+1+1);let z5:=nF (sL s z1 la) size;let z6:=uF (sP s z1 pa) size;let z8:=bF (sB s z1 B) size;let z9:=entM z2 (k+1+1);An [z0[0]? =z7,z0[0]? =z7,z0[1]? =y2,z0[1]? =y2,z0[2]? =y0,z0[2]? =y0,z0[3]? =y4,z0[3]? =y4,Tt,An [z8=z8,HfL z8],Tt,An [z9=z9,HfE z9,Sm (k+1+1)],Tt,An [An [Sm cards.length,Sm (ints cards)],An [Sm cs.length,Sm (List.map sl cs)],y6,Tt,An [Zz,Sm (Nat.succ k+1),Tt],Tt],z0[7]? =some (O.row 73 none [V.ptr 6 0]),An [Zz,Tt],Tt,An [z5=z5,HfL z5],Tt,An [z6=z6,HfL z6],z0[10]? =some (O.row 38 none [V.sl 8 0 size y5,V.sl 9 0 size y5]),An [y6,y6,Tt],z0[11]? =some (O.row 3 none [i6 ↑s]),An [Sm [i6 ↑s],Tt,Tt],Tt,An [Sm [V.bool (Qaq z1)],Tt,Tt],z0[13]? =z3,z0[13]? =z3,z0[14]? =y3,z0[14]? =y3,z0[15]? =some O.dead,Tt,z0[16]? =y1,z0[16]? =y1,Tt,Tt,Tt,An [z4=z4,HfL z4],Tt])=_) ?_
   (repeat'(first|with_reducible apply And.intro|refine fun(_:True)=>?_))
   all_goals first|exact aq|exact hB|exact hB1|exact hS|exact hS0|exact hE|exact hE0|exact hla|exact hpa|exact hla1|exact hpa1|rfl|skip)
 have hcall':=CallSpec.caps (ars:=[i6 (v:Nat),u6 (p:Nat)]) (caps:=[.ptr 7 0,.ptr 11 0,.ptr 12 0,.ptr 10 0]) hcall;refine CallSpec.yldN vE_ok mixed Qad (n:=75) (fn0:=0) (tm:=rgT size lim n w s v) (ps:=[62]) (assign:=rgA) (body:=rgB) (hs0:=[]) (hs1:=[(66,.call ⟨i6 0,ofOs .e 0 (ykD2 cards cs F size lim n w (upQ q (k+1) (v,p)) s (upT b v p x) B la pa v .busy (k+1)),19,[4,5,6,8,9,12,17]⟩)]) (m0:=1000) (m1:=1000) (sl0:=[(13,.ptr 13 0),(14,.ptr 14 0),(62,u6 (p:Nat))]) (sl1:=[(13,.ptr 13 0),(14,.ptr 14 0),(15,u6 (p:Nat))]) (by kernel_rfl) rfl rfl rfl ⟨rfl,rfl,rfl,trivial⟩ (Qhn p 16) ?_ (by decide) (Qka (os0:=ykD cards cs F size lim n w q s b B la pa v .ready k) (os1:=ykD2 cards cs F size lim n w (upQ q (k+1) (v,p)) s (upT b v p x) B la pa v .ready (k+1)) (by simp) (fun i hi hno=>?_)) (by kernel_rfl)
 ·refine Eq.mp (by kernel_rfl : (let z1 := O.loop .busy none 0 (rgT size lim n w s v) [62] rgA rgB; let z2 := upQ q (k + 1) (v, p); let z3 := [4, 5, 6, 8, 9, 12, 17]; let z0 := ofOs T.e 0 (ykD2 cards cs F size lim n w z2 s (upT b v p x) B la pa v .busy (k + 1)); An [CallSpec Pg g0 (V.fn 37 [V.ptr 7 0, V.ptr 11 0, V.ptr 12 0, V.ptr 10 0]) [i6 ↑v, u6 ↑p] (pt (ofOs T.e 0 (ykD cards cs F size lim n w q s b B la pa v .ready k)) 16 z1) 18 (CR.mk (i6 0) z0 19 z3), Tt, z0 = pt (ofOs T.e 0 (ykD2 cards cs F size lim n w z2 s (upT b v p x) B la pa v .ready (k + 1))) 16 z1, 19 = 19, ∀ (g : Nat), List.Mem g (z3 ++ [16]) → List.Mem g [4, 5, 6, 8, 9, 12, 17, 16]]) = _) ?_
  (repeat'(first|with_reducible apply And.intro|refine fun(_:True)=>?_))
  all_goals first|exact aq|exact hcall'|rfl|skip
 ·rcases(show i=0∨i=1∨i=2∨i=3∨i=4∨i=5∨i=6∨i=7∨i=8∨i=9∨i=10∨i=11∨i=12∨i=13∨i=14∨i=15∨i=16∨i=17 by simp at hi;omega)with rfl|rfl|rfl|rfl|rfl|rfl|rfl|rfl|rfl|rfl|rfl|rfl|rfl|rfl|rfl|rfl|rfl|rfl<;>first|rfl|(simp at hno)
def nxM(p w:Nat):Nat:=(p+18446744073709551616-w)%18446744073709551616
def nxP(p w:Nat):Nat:=nxM p w&&& w
theorem nxP_all1: ∀w:Nat,w<32→∀p:Nat,p<32→(¬p&&& w=p∨(nxP p w<32∧nxP p w&&& w=nxP p w∧(nxP p w=0→p=w)∧(p≠w→p<nxP p w))):=by decide+kernel
theorem nxP_all2: ∀w:Nat,w<32→∀p:Nat,p<32→∀r:Nat,r<32→(¬p&&& w=p∨p=w∨nxP p w≤r∨r≤p∨¬r&&& w=r):=by decide+kernel
theorem nxP_all(w:Nat)(hw:w<32)(p:Nat)(hp:p<32)(h:p&&& w=p):nxP p w<32∧nxP p w&&& w=nxP p w∧(nxP p w=0→p=w)∧(p≠w→p<nxP p w∧∀r,r<nxP p w→p<r→¬r&&& w=r):=by
 rcases nxP_all1 w hw p hp with h'|⟨a,b,c,d⟩
 ·exact absurd h h'
 ·refine ⟨a, b, c, fun hne => ⟨d hne, fun r h1 h2 => ?_⟩⟩
  rcases nxP_all2 w hw p hp r (by omega)with h'|h'|h'|h'|h'
  ·exact absurd h h'
  ·exact absurd h' hne
  ·omega
  ·omega
  ·exact h'
theorem sub_rm0: ∀s:Nat,s<32→∀v:Nat,v<5→∀p:Nat,p<32→(s.testBit v=false∨(p&&& (s-2^v)=p↔p&&& s=p∧p.testBit v=false)):=by decide+kernel
theorem sub_rm(s:Nat)(hs:s<32)(v:Nat)(hv:v<5)(hb:s.testBit v=true)(p:Nat)(hp:p<32):p&&& (s-2^v)=p↔p&&& s=p∧p.testBit v=false:=by
 rcases sub_rm0 s hs v hv p hp with h|h
 ·rw[hb]at h;cases h
 ·exact h
theorem Qur: ∀w:Nat,w<32→∀p:Nat,p<32→IntKind.u64.wrap (((p:Nat):Int)-((w:Nat):Int))=(nxM p w:Int)∧IntKind.u64.wrap ((BitVec.ofInt 64 (nxM p w:Int)&&& BitVec.ofInt 64 (w:Int)).toNat:Int)=(nxP p w:Int):=by decide+kernel
theorem nx_sub{w p:Nat}(hw:w<32)(hp:p<32)(G:Ctx)(t:Nat):binV G .sub t (u6 (p:Nat)) (u6 (w:Nat))=some (u6 (nxM p w:Nat)):=by
 have e:binV G .sub t (u6 (p:Nat)) (u6 (w:Nat))=some (.int .u64 (wr .u64 ((p:Int)-(w:Int)))):=rfl;rw[e,wr_eq,(Qur w hw p hp).1]
theorem nx_and{w p:Nat}(hw:w<32)(hp:p<32)(G:Ctx)(t:Nat):binV G .and t (u6 (nxM p w:Nat)) (u6 (w:Nat))=some (u6 (nxP p w:Nat)):=by
 have e:binV G .and t (u6 (nxM p w:Nat)) (u6 (w:Nat))=some (.int .u64 (IntKind.u64.wrap ((BitVec.ofInt 64 (nxM p w:Int)&&& BitVec.ofInt 64 (w:Int)).toNat:Int))):=rfl;rw[e,(Qur w hw p hp).2]
section
variable {lim s v:Nat} {q:Nat→Nat×Nat} {k:Nat} {F:Nat→Nat→Nat→Int} {B:Nat→Nat→Int} {b:BSt}
theorem Qgz{n:Nat}: ∀m,(∀r,n≤r→r<n+m→okT lim s v r=false)→innA lim s v q k (n+m)=innA lim s v q k n
 |0,_=>rfl
 |m+1,h=>by
  rw[←Nat.add_assoc,innA,if_neg (by rw[h (n+m) (by omega) (by omega)];decide),Qgz m (fun r h1 h2=>h r h1 (by omega))]
theorem Qg0{n:Nat}: ∀m,(∀r,n≤r→r<n+m→okT lim s v r=false)→innB lim F B s v b (n+m)=innB lim F B s v b n
 |0,_=>rfl
 |m+1,h=>by
  rw[←Nat.add_assoc,innB,if_neg (by rw[h (n+m) (by omega) (by omega)];decide),Qg0 m (fun r h1 h2=>h r h1 (by omega))]
theorem Qee(hs:s<32)(hv:v<5)(hb:s.testBit v=true){p:Nat}(hp:p<32):okT lim s v p=true↔p&&& (s-2^v)=p∧popc p≤lim:=by
 rw[Qb4,sub_rm s hs v hv hb p hp];exact and_assoc.symm
theorem Quu(hs:s<32)(hv:v<5)(hb:s.testBit v=true){p:Nat}(h: ¬p&&& (s-2^v)=p):okT lim s v p=false:=by
 cases ho:okT lim s v p with
 |false=>rfl
 |true=>
  have h1:=(Qb4.1 ho).1;have:p≤s:=by rw[←h1];exact Nat.and_le_right
  exact absurd ((Qee hs hv hb (by omega)).1 ho).1 h
theorem Qqh(hs:s<32)(hv:v<5)(hb:s.testBit v=true){p:Nat}(hp:p<32)(hsub:p&&& (s-2^v)=p):
  (p≠s-2^v→nxP p (s-2^v)<32∧nxP p (s-2^v)&&& (s-2^v)=nxP p (s-2^v)∧nxP p (s-2^v)≠0∧p<nxP p (s-2^v)∧nxP p (s-2^v)≤s-2^v∧innA lim s v q k (nxP p (s-2^v))=innA lim s v q k (p+1)∧innB lim F B s v b (nxP p (s-2^v))=innB lim F B s v b (p+1))∧
  (p=s-2^v→nxP p (s-2^v)=0∧innA lim s v q k (s+1)=innA lim s v q k (p+1)∧innB lim F B s v b (s+1)=innB lim F B s v b (p+1)):=by
 obtain⟨r1,_⟩:=Qb6 s hs v hv hb;have hp0:0<2^v:=Nat.pow_pos (by decide)
 obtain⟨a1,a2,a3,a4⟩:=nxP_all (s-2^v) (by omega) p hp hsub
 constructor
 ·intro hne;obtain⟨b1,b2⟩:=a4 hne;have h0:nxP p (s-2^v)≠0:=fun e=>hne (a3 e)
  have hle:nxP p (s-2^v)≤s-2^v:=by unfold nxP;exact Nat.and_le_right
  have hskip: ∀r,p+1≤r→r<(p+1)+(nxP p (s-2^v)-(p+1))→okT lim s v r=false:=fun r h1 h2=>Quu hs hv hb (b2 r (by omega) (by omega))
  have e:(p+1)+(nxP p (s-2^v)-(p+1))=nxP p (s-2^v):=by omega
  have e1:=Qgz (q:=q) (k:=k) _ hskip;have e2:=Qg0 (F:=F) (B:=B) (b:=b) _ hskip;rw[e]at e1 e2;exact⟨a1,a2,h0,b1,hle,e1,e2⟩
 ·intro he;have hz:nxP p (s-2^v)=0:=by
   rw[←he];have:nxM p p=0:=by
    unfold nxM;rw[show p+18446744073709551616-p=18446744073709551616 by omega]
   unfold nxP;rw[this,Nat.zero_and]
  have hp0:0<2^v:=Nat.pow_pos (by decide)
  have hskip: ∀r,p+1≤r→r<(p+1)+(s-p)→okT lim s v r=false:=fun r h1 h2=>Quu hs hv hb (fun h=>by
   have:r&&& (s-2^v)≤s-2^v:=Nat.and_le_right;omega)
  have e:(p+1)+(s-p)=s+1:=by omega
  have e1:=Qgz (q:=q) (k:=k) _ hskip;have e2:=Qg0 (F:=F) (B:=B) (b:=b) _ hskip;rw[e]at e1 e2;exact⟨hz,e1,e2⟩
theorem Qj8: ∀n,1≤n→okT lim s v 0=true→k=0→1≤innK lim s v q k n
 |0,h,_,_=>absurd h (by omega)
 |1,_,h,hk=>by
  subst hk;unfold innK innA;rw[if_pos h];dsimp only[innA];unfold askK hasQ;simp
 |n+2,_,h,hk=>by
  have ih:=Qj8 (n+1) (by omega) h hk
  have:=Qec lim s v q k (n+1);show 1≤(innA lim s v q k (n+1+1)).2;rw[innA];split
  ·exact Nat.le_trans ih (Qsn _ _ _).1
  ·exact ih
end
theorem ones_c(p:Nat)(h:(i6 (popc p:Nat)=i6 (popc p:Nat)∧(((popc p:Nat):Int)=((popc p:Nat):Int)∧True)∧True)=vcFn Pg vE sp0 g0 1000 41 [u6 (p:Nat)] [] [] {sl:=[(2,i6 (popc p:Nat))]} (i6 (popc p:Nat))):FnOk Pg g0 41 [u6 (p:Nat)] (i6 (popc p:Nat)):=FnOk.of_vc vE_ok mixed Qad (h.mp ⟨rfl,⟨rfl,trivial⟩,trivial⟩)
theorem ones64(p:Nat)(hp:p<32):FnOk Pg g0 41 [u6 (p:Nat)] (i6 (popc p:Nat)):=by
 rcases(show p=0∨p=1∨p=2∨p=3∨p=4∨p=5∨p=6∨p=7∨p=8∨p=9∨p=10∨p=11∨p=12∨p=13∨p=14∨p=15∨p=16∨p=17∨p=18∨p=19∨p=20∨p=21∨p=22∨p=23∨p=24∨p=25∨p=26∨p=27∨p=28∨p=29∨p=30∨p=31 by omega)with rfl|rfl|rfl|rfl|rfl|rfl|rfl|rfl|rfl|rfl|rfl|rfl|rfl|rfl|rfl|rfl|rfl|rfl|rfl|rfl|rfl|rfl|rfl|rfl|rfl|rfl|rfl|rfl|rfl|rfl|rfl|rfl<;>exact ones_c _ (by kernel_rfl)
theorem Qn6(p:Nat)(hp:p<32):FnOk Pg g0 27 [u6 (p:Nat)] (i6 (popc p:Nat)):=by
 have h:=ones64 p hp;refine FnOk.of_vc vE_ok mixed Qad (n:=1000) (r:=[]) (S:={sl:=[(2,i6 (popc p:Nat))]}) (hs:=[fn 7 (i6 (popc p:Nat))]) ?_;refine Eq.mp (by kernel_rfl:(An [Sm (i6 ↑(popc p)),An [Tt,Tt],FnOk Pg g0 41 [u6 ↑p] (i6 ↑(popc p)),Tt,An [Sm (↑(popc p):Int),Tt],Tt])=_) ?_
 (repeat'(first|with_reducible apply And.intro|refine fun(_:True)=>?_))<;>first|exact aq|skip
 all_goals exact h
end Go.Proofs.YtcmeiecgijmdjaaDoor.Am
