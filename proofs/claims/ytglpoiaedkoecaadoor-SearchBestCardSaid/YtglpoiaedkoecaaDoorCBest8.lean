/- Texts behind the claim, part 8: the abstract machine, and what the functions answer. No condition. -/
import Derived.Test.YtglpoiaedkoecaaDoorCBest7
set_option linter.unusedVariables false
set_option linter.unusedSimpArgs false
set_option linter.unusedSectionVars false
namespace Go.Proofs.YtglpoiaedkoecaaDoor.Am
open Go.RowKit
set_option maxHeartbeats 1000000
set_option maxRecDepth 100000
def nxM(p w:Nat):Nat:=(p+18446744073709551616-w)%18446744073709551616
def nxP(p w:Nat):Nat:=nxM p w&&& w
theorem nxP_all1: ∀w:Nat,w<32→∀p:Nat,p<32→(¬p&&& w=p∨(nxP p w<32∧nxP p w&&& w=nxP p w∧(nxP p w=0→p=w)∧(p≠w→p<nxP p w))):=by decide+kernel
theorem nxP_all2: ∀w:Nat,w<32→∀p:Nat,p<32→∀r:Nat,r<32→(¬p&&& w=p∨p=w∨nxP p w≤r∨r≤p∨¬r&&& w=r):=by decide+kernel
theorem nxP_all(w:Nat)(hw:w<32)(p:Nat)(hp:p<32)(h:p&&& w=p):nxP p w<32∧nxP p w&&& w=nxP p w∧(nxP p w=0→p=w)∧(p≠w→p<nxP p w∧∀r,r<nxP p w→p<r→¬r&&& w=r):=by
 rcases nxP_all1 w hw p hp with h'|⟨a,b,c,d⟩
 ·exact absurd h h'
 ·refine ⟨a, b, c, fun hne => ⟨d hne, fun r h1 h2 => ?_⟩⟩
  rcases nxP_all2 w hw p hp r (by omega)with h'|h'|h'|h'|h'
  ·exact absurd h h'
  ·exact absurd h' hne
  ·omega
  ·omega
  ·exact h'
theorem sub_rm0: ∀s:Nat,s<32→∀v:Nat,v<5→∀p:Nat,p<32→(s.testBit v=false∨(p&&& (s-2^v)=p↔p&&& s=p∧p.testBit v=false)):=by decide+kernel
theorem sub_rm(s:Nat)(hs:s<32)(v:Nat)(hv:v<5)(hb:s.testBit v=true)(p:Nat)(hp:p<32):p&&& (s-2^v)=p↔p&&& s=p∧p.testBit v=false:=by
 rcases sub_rm0 s hs v hv p hp with h|h
 ·rw[hb]at h;cases h
 ·exact h
theorem Qta: ∀w:Nat,w<32→∀p:Nat,p<32→IntKind.u64.wrap (((p:Nat):Int)-((w:Nat):Int))=(nxM p w:Int)∧IntKind.u64.wrap ((BitVec.ofInt 64 (nxM p w:Int)&&& BitVec.ofInt 64 (w:Int)).toNat:Int)=(nxP p w:Int):=by decide+kernel
theorem nx_sub{w p:Nat}(hw:w<32)(hp:p<32)(G:Ctx)(t:Nat):binV G .sub t (u6 (p:Nat)) (u6 (w:Nat))=some (u6 (nxM p w:Nat)):=by
 have e:binV G .sub t (u6 (p:Nat)) (u6 (w:Nat))=some (.int .u64 (wr .u64 ((p:Int)-(w:Int)))):=rfl
 rw[e,wr_eq,(Qta w hw p hp).1]
theorem nx_and{w p:Nat}(hw:w<32)(hp:p<32)(G:Ctx)(t:Nat):binV G .and t (u6 (nxM p w:Nat)) (u6 (w:Nat))=some (u6 (nxP p w:Nat)):=by
 have e:binV G .and t (u6 (nxM p w:Nat)) (u6 (w:Nat))=some (.int .u64 (IntKind.u64.wrap ((BitVec.ofInt 64 (nxM p w:Int)&&& BitVec.ofInt 64 (w:Int)).toNat:Int))):=rfl
 rw[e,(Qta w hw p hp).2]
section
variable {lim s v:Nat} {q:Nat→Nat×Nat} {k:Nat} {F:Nat→Nat→Nat→Int} {B:Nat→Nat→Int} {b:BSt}
theorem Qf3{n:Nat}: ∀m,(∀r,n≤r→r<n+m→okT lim s v r=false)→innA lim s v q k (n+m)=innA lim s v q k n
 |0,_=>rfl
 |m+1,h=>by
  rw[←Nat.add_assoc,innA,if_neg (by rw[h (n+m) (by omega) (by omega)];decide),Qf3 m (fun r h1 h2=>h r h1 (by omega))]
theorem Qf4{n:Nat}: ∀m,(∀r,n≤r→r<n+m→okT lim s v r=false)→innB lim F B s v b (n+m)=innB lim F B s v b n
 |0,_=>rfl
 |m+1,h=>by
  rw[←Nat.add_assoc,innB,if_neg (by rw[h (n+m) (by omega) (by omega)];decide),Qf4 m (fun r h1 h2=>h r h1 (by omega))]
theorem Qdu(hs:s<32)(hv:v<5)(hb:s.testBit v=true){p:Nat}(hp:p<32):okT lim s v p=true↔p&&& (s-2^v)=p∧popc p≤lim:=by
 rw[Qbw,sub_rm s hs v hv hb p hp]
 exact and_assoc.symm
theorem Qtb(hs:s<32)(hv:v<5)(hb:s.testBit v=true){p:Nat}(h: ¬p&&& (s-2^v)=p):okT lim s v p=false:=by
 cases ho:okT lim s v p with
 |false=>rfl
 |true=>
  have h1:=(Qbw.1 ho).1
  have:p≤s:=by rw[←h1];exact Nat.and_le_right
  exact absurd ((Qdu hs hv hb (by omega)).1 ho).1 h
theorem Qoy(hs:s<32)(hv:v<5)(hb:s.testBit v=true){p:Nat}(hp:p<32)(hsub:p&&& (s-2^v)=p):
  (p≠s-2^v→nxP p (s-2^v)<32∧nxP p (s-2^v)&&& (s-2^v)=nxP p (s-2^v)∧nxP p (s-2^v)≠0∧p<nxP p (s-2^v)∧nxP p (s-2^v)≤s-2^v∧innA lim s v q k (nxP p (s-2^v))=innA lim s v q k (p+1)∧innB lim F B s v b (nxP p (s-2^v))=innB lim F B s v b (p+1))∧
  (p=s-2^v→nxP p (s-2^v)=0∧innA lim s v q k (s+1)=innA lim s v q k (p+1)∧innB lim F B s v b (s+1)=innB lim F B s v b (p+1)):=by
 obtain⟨r1,_⟩:=Qbx s hs v hv hb
 have hp0:0<2^v:=Nat.pow_pos (by decide)
 obtain⟨a1,a2,a3,a4⟩:=nxP_all (s-2^v) (by omega) p hp hsub
 constructor
 ·intro hne
  obtain⟨b1,b2⟩:=a4 hne
  have h0:nxP p (s-2^v)≠0:=fun e=>hne (a3 e)
  have hle:nxP p (s-2^v)≤s-2^v:=by unfold nxP;exact Nat.and_le_right
  have hskip: ∀r,p+1≤r→r<(p+1)+(nxP p (s-2^v)-(p+1))→okT lim s v r=false:=fun r h1 h2=>Qtb hs hv hb (b2 r (by omega) (by omega))
  have e:(p+1)+(nxP p (s-2^v)-(p+1))=nxP p (s-2^v):=by omega
  have e1:=Qf3 (q:=q) (k:=k) _ hskip
  have e2:=Qf4 (F:=F) (B:=B) (b:=b) _ hskip
  rw[e]at e1 e2
  exact⟨a1,a2,h0,b1,hle,e1,e2⟩
 ·intro he
  have hz:nxP p (s-2^v)=0:=by
   rw[←he]
   have:nxM p p=0:=by
    unfold nxM
    rw[show p+18446744073709551616-p=18446744073709551616 by omega]
   unfold nxP;rw[this,Nat.zero_and]
  have hp0:0<2^v:=Nat.pow_pos (by decide)
  have hskip: ∀r,p+1≤r→r<(p+1)+(s-p)→okT lim s v r=false:=fun r h1 h2=>Qtb hs hv hb (fun h=>by
   have:r&&& (s-2^v)≤s-2^v:=Nat.and_le_right
   omega)
  have e:(p+1)+(s-p)=s+1:=by omega
  have e1:=Qf3 (q:=q) (k:=k) _ hskip
  have e2:=Qf4 (F:=F) (B:=B) (b:=b) _ hskip
  rw[e]at e1 e2
  exact⟨hz,e1,e2⟩
theorem Qiy: ∀n,1≤n→okT lim s v 0=true→k=0→1≤innK lim s v q k n
 |0,h,_,_=>absurd h (by omega)
 |1,_,h,hk=>by
  subst hk
  unfold innK innA
  rw[if_pos h]
  dsimp only[innA]
  unfold askK hasQ
  simp
 |n+2,_,h,hk=>by
  have ih:=Qiy (n+1) (by omega) h hk
  have:=Qds lim s v q k (n+1)
  show 1≤(innA lim s v q k (n+1+1)).2
  rw[innA]
  split
  ·exact Nat.le_trans ih (Qq9 _ _ _).1
  ·exact ih
end
theorem Qgh(p:Nat)(hp:p<32):FnOk Pg g0 65 [u6 (p:Nat)] (i6 (popc p:Nat)):=by
 rcases(show p=0∨p=1∨p=2∨p=3∨p=4∨p=5∨p=6∨p=7∨p=8∨p=9∨p=10∨p=11∨p=12∨p=13∨p=14∨p=15∨p=16∨p=17∨p=18∨p=19∨p=20∨p=21∨p=22∨p=23∨p=24∨p=25∨p=26∨p=27∨p=28∨p=29∨p=30∨p=31 by omega)with rfl|rfl|rfl|rfl|rfl|rfl|rfl|rfl|rfl|rfl|rfl|rfl|rfl|rfl|rfl|rfl|rfl|rfl|rfl|rfl|rfl|rfl|rfl|rfl|rfl|rfl|rfl|rfl|rfl|rfl|rfl|rfl
 all_goals exact FnOk.of_run vE_ok mixed (n:=100000) rfl (by kernel_rfl)
set_option maxHeartbeats 4000000
set_option maxRecDepth 100000
def GoodB(b:BSt):Prop:=∀v p y,b=some (v,p,y)→inB y 1000
theorem GoodB.up{b:BSt}{v p:Nat}{x:Nat→Int}(h:GoodB b)(hx:inB x 1000):GoodB (upT b v p x):=by
 intro v' p' y e
 rcases b with _|⟨v0,p0,y0⟩
 ·cases e;exact hx
 ·unfold upT at e
  dsimp only at e
  split at e
  ·cases e;exact hx
  ·cases e;exact h _ _ _ rfl
structure Qdx(cards:List Int)(cs:List (List Int))(F:Nat→Nat→Nat→Int)(size lim s v:Nat)(B:Nat→Nat→Int):Prop where
 s32:s<32
 v5:v<5
 bit:s.testBit v=true
 bd: ∀p,inB (tryF F B s v p) 1000
 ok: ∀p b,okT lim s v p=true→GoodB b→TryOk cards cs F size s b B v p (s-2^v) (2^v) (tryF F B s v p)
abbrev prZ(hd lim w p:Nat):List (Nat×V):=[(0,.yld hd),(1,.imp [i6 (lim:Nat)]),(2,.imp [u6 (w:Nat)]),(4,u6 (p:Nat))]
section
variable (cards:List Int) (cs:List (List Int)) (F:Nat→Nat→Nat→Int) (size lim n:Nat) (s:Nat) (B:Nat→Nat→Int) (la pa:Nat→Nat) (v:Nat)
noncomputable abbrev kpaS(x:Nat×(Nat→Nat×Nat)×Nat×BSt):SL:={sl:=prZ 15 lim (s-2^v) x.1,os:=match x.2.2.1 with|0=>ykA cards cs size lim n (s-2^v) x.2.1 s x.2.2.2 B la pa v .ready|k+1=>ykC cards cs F size lim n (s-2^v) x.2.1 s x.2.2.2 B la pa v .ready k,md:=clM,lg:=[4,5,6,8,9,12,15]}
noncomputable abbrev kpbS(x:Nat×(Nat→Nat×Nat)×Nat×BSt×Bool):SL:={sl:=prZ 16 lim (s-2^v) x.1,os:=match x.2.2.2.2 with|false=>ykB cards cs F size lim n (s-2^v) x.2.1 s x.2.2.2.1 B la pa v .ready x.2.2.1|true=>ykD cards cs F size lim n (s-2^v) x.2.1 s x.2.2.2.1 B la pa v .ready x.2.2.1,md:=clM,lg:=[4,5,6,8,9,12,15,16]}
end
theorem Qmu(cards:List Int)(cs:List (List Int))(F:Nat→Nat→Nat→Int)(size lim n:Nat)(q:Nat→Nat×Nat)(s:Nat)(b:BSt)(B:Nat→Nat→Int)(la pa:Nat→Nat)(v:Nat)(h:Qdx cards cs F size lim s v B)(hG:GoodB b)(q1:Nat→Nat×Nat)(k1:Nat)(b1:BSt)(hfin:innA lim s v q 0 (s+1)=(q1,k1+1))(hb1:innB lim F B s v b (s+1)=b1):
  Sat Pg none 16 (at' 122 [1,0]) (mkSt g0 22 (kpaS cards cs F size lim n s B la pa v (0,q,0,b))) (Qaf g0 22 [(True,.ret,{sl:=[],os:=ykC cards cs F size lim n (s-2^v) q1 s b1 B la pa v .ready k1,md:=clM,lg:=[4,5,6,8,9,12,15]})]):=by
 have hs32:=h.s32
 have hv5:=h.v5
 have hvb:=h.bit
 obtain⟨hw,_⟩:=Qbx s hs32 v hv5 hvb
 have hp2:0<2^v:=Nat.pow_pos (by decide)
 have hl:=Qk6 size lim n (s-2^v) s v 16 (by decide)
 have hc:=Qae cards
 have hg:=Qar cs
 refine Qaz vE_ok mixed Qab (b:=at' 122 [1,0,0]) (by kernel_rfl) (fun x=>x.1<32∧x.1&&& (s-2^v)=x.1∧(x.1≠0→1≤x.2.2.1)∧x.2.2.1≤10000+x.1∧innA lim s v q 0 x.1=(x.2.1,x.2.2.1)∧innB lim F B s v b x.1=x.2.2.2∧GoodB x.2.2.2) (kpaS cards cs F size lim n s B la pa v) (fun x=>32-x.1) (fun x hx=>?_) (0,q,0,b) ⟨(by show 0<32;decide),Nat.zero_and _,fun h=>absurd rfl h,Nat.zero_le _,rfl,rfl,hG⟩
 obtain⟨p,q',k',b'⟩:=x
 obtain⟨hp,hsub,hpos,hk,eA,eB,hG'⟩:=hx
 dsimp only at hp hsub hpos hk eA eB hG'
 have hnx:=Qoy (lim:=lim) (q:=q) (k:=0) (F:=F) (B:=B) (b:=b) hs32 hv5 hvb hp hsub
 have hone:=Qgh p hp
 have hsu:=fun G t=>nx_sub (w:=s-2^v) (p:=p) (by omega) hp G t
 have han:=fun G t=>nx_and (w:=s-2^v) (p:=p) (by omega) hp G t
 have hple:p≤s-2^v:=by rw[←hsub];exact Nat.and_le_right
 by_cases hok:popc p≤lim
 ·have ho : okT lim s v p = true := (Qdu hs32 hv5 hvb hp).2 ⟨hsub, hok⟩
  have HT:=h.ok p b' ho hG'
  have hG2:=hG'.up (v:=v) (p:=p) (h.bd p)
  have eB2:innB lim F B s v b (p+1)=upT b' v p (tryF F B s v p):=by rw[innB,if_pos ho,eB]
  cases k' with
  | zero =>
   have hhas:hasQ q' 0 (v,p)=false:=rfl
   have hcall:=yld_A cards cs F size lim n (s-2^v) q' s b' B la pa v p (s-2^v) (2^v) (tryF F B s v p) HT
   have eA2:innA lim s v q 0 (p+1)=((upQ q' 0 (v,p)),(0+1)):=by
    rw[innA,if_pos ho,eA]
    unfold askQ askK
    rw[show hasQ q' 0 (v,p)=false from hhas]
    rfl
   have hB:=Qaa (sB s b' B) size
   have hB1:=Qaa (sB s (upT b' v p (tryF F B s v p)) B) size
   have hS:=Qaa (scF F (upQ q' 0 (v,p))) (0+1)
   have hE:=Qac (upQ q' 0 (v,p)) (0+1)
   have hS0:=Qaa (scF F q') 0
   have hE0:=Qac q' 0
   have hla:=Qah (sL s b' la) size
   have hpa:=Qag (sP s b' pa) size
   have hla1:=Qah (sL s (upT b' v p (tryF F B s v p)) la) size
   have hpa1:=Qag (sP s (upT b' v p (tryF F B s v p)) pa) size
   by_cases hlast:p=s-2^v
   ·skip
    obtain⟨i1,i6_,i7⟩:=hnx.2 hlast
    rw[i6_,eA2]at hfin
    rw[i7,eB2]at hb1
    obtain⟨f1,f2⟩:=Prod.mk.inj hfin
    have f3:=Nat.succ.inj f2
    subst hb1 f1 f3
    refine .inr ⟨.ret,[16],{sl:=[],os:=ykC cards cs F size lim n (s-2^v) (upQ q' 0 (v,p)) s (upT b' v p (tryF F B s v p)) B la pa v .ready 0,md:=clM,lg:=[4,5,6,8,9,12,15]},[fn 6 (i6 (popc p:Nat)),yes 8,(12,.call ⟨.bool true,ofOs .e 0 (ykC cards cs F size lim n (s-2^v) (upQ q' 0 (v,p)) s (upT b' v p (tryF F B s v p)) B la pa v .ready 0),17,[4,5,6,8,9,12,15]⟩),va 17 (u6 (nxM p (s-2^v):Nat)),va 19 (u6 (0:Nat)),yes 21],1000,by exact .inl ⟨trivial,rfl,rfl⟩,?_⟩
    rw[i1]at han
    clear hnx h HT
    refine Eq.mp (by kernel_rfl:(let y0:=An [Zz,Sm size,Sm (size-size)];let z0:=upT b' v p (tryF F B s v p);let z1:=ofOs T.e 0 (ykA cards cs size lim n (s-2^v) q' s b' B la pa v .ready);let z3:=upQ q' 0 (v,p);let z7:=u6 (↑(nxM p (s-2^v)):Int);let z8:=rgT size lim n (s-2^v) s v;let z9:=[u6 ↑p];let z2:=CR.mk (V.bool true) (ofOs T.e 0 (ykC cards cs F size lim n (s-2^v) z3 s z0 B la pa v .ready 0)) 17 [4,5,6,8,9,12,15];let z4:=nF (sL s z0 la) size;let z5:=uF (sP s z0 pa) size;let z6:=bF (sB s z0 B) size;An [An [Tt,Tt],FnOk Pg g0 65 z9 (i6 ↑(popc p)),Tt,decide ((↑(popc p):Int)≤(↑lim:Int))=true,CallSpec Pg g0 (V.yld 15) z9 z1 16 z2,An [(V.fn 65 []=V.yld 15→z9=z9→z1=z1→16=16→CR.mk (i6 ↑(popc p)) z1 16 []=z2),Tt],binV (Qad Pg) .sub 28 (u6 ↑p) (u6 ↑(s-2^v))=some z7,binV (Qad Pg) .and 28 z7 (u6 ↑(s-2^v))=some (u6 ↑(0:Nat)),((↑(0:Nat):Int)==(0:Int))=true,Tt,An [Sm [sl cards,gC cs],TT 2],An [Sm [V.nilp],Tt,Tt],An [Sm [V.nils,V.nils],TT 2],An [Sm [i6 0],Tt,Tt],An [z6=z6,HfL z6],An [Sm (entM z3 1),HfE (entM z3 1),1=1],An [An [Sm cards.length,Sm (ints cards)],An [Sm cs.length,Sm (List.map sl cs)],y0,Tt,An [Zz,1=1,Tt],Tt],An [Zz,Tt],An [z4=z4,HfL z4],An [z5=z5,HfL z5],An [y0,y0,Tt],An [Sm [i6 ↑s],Tt,Tt],An [Sm [V.bool (Qao z0)],Tt,Tt],An [An [Zz,Zz,Zz,Zz,Tt],Tt],An [Sm [i6 ↑v],Tt,Tt],An [lbO size lim n (s-2^v) s v .ready=O.loop .ready none 0 z8 [62] rgA rgB,LowT 16 z8],An [Sm (bF (scF F z3) 1),TT 18],Tt])=_) ?_
    (repeat'(first|(with_reducible apply And.intro)|(refine fun(_:True)=>?_)))
    all_goals first|(with_reducible exact hsu _ _)|(with_reducible exact han _ _)|exact aq|exact hone|exact hcall|exact hl|exact hB|exact hB1|exact hS|exact hS0|exact hE|exact hE0|exact hla|exact hpa|exact hla1|exact hpa1|exact hsu _ _|exact han _ _|rfl|skip
   ·skip
    obtain⟨i1,i2,i3,i4,i5,i6_,i7⟩:=hnx.1 hlast
    refine .inl ⟨(nxP p (s-2^v),(upQ q' 0 (v,p)),0+1,(upT b' v p (tryF F B s v p))),[16],[fn 6 (i6 (popc p:Nat)),yes 8,(12,.call ⟨.bool true,ofOs .e 0 (ykC cards cs F size lim n (s-2^v) (upQ q' 0 (v,p)) s (upT b' v p (tryF F B s v p)) B la pa v .ready 0),17,[4,5,6,8,9,12,15]⟩),va 17 (u6 (nxM p (s-2^v):Nat)),va 19 (u6 (nxP p (s-2^v):Nat)),no 21],1000,⟨i1,i2,fun _=>Nat.succ_le_succ (Nat.zero_le _),by dsimp only;omega,by rw[i6_];exact eA2,by rw[i7];exact eB2,hG2⟩,by dsimp only;omega,?_⟩
    clear hnx h HT
    refine Eq.mp (by kernel_rfl:(let y2:=An [Zz,Sm size,Sm (size-size)];let z0:=upT b' v p (tryF F B s v p);let z1:=ofOs T.e 0 (ykA cards cs size lim n (s-2^v) q' s b' B la pa v .ready);let z3:=(↑(nxP p (s-2^v)):Int);let z4:=upQ q' 0 (v,p);let z5:=u6 ↑(s-2^v);let z9:=u6 (↑(nxM p (s-2^v)):Int);let y0:=rgT size lim n (s-2^v) s v;let y1:=[u6 ↑p];let z2:=CR.mk (V.bool true) (ofOs T.e 0 (ykC cards cs F size lim n (s-2^v) z4 s z0 B la pa v .ready 0)) 17 [4,5,6,8,9,12,15];let z6:=nF (sL s z0 la) size;let z7:=uF (sP s z0 pa) size;let z8:=bF (sB s z0 B) size;An [An [Tt,Tt],FnOk Pg g0 65 y1 (i6 ↑(popc p)),Tt,decide ((↑(popc p):Int)≤(↑lim:Int))=true,CallSpec Pg g0 (V.yld 15) y1 z1 16 z2,An [(V.fn 65 []=V.yld 15→y1=y1→z1=z1→16=16→CR.mk (i6 ↑(popc p)) z1 16 []=z2),Tt],binV (Qad Pg) .sub 28 (u6 ↑p) z5=some z9,binV (Qad Pg) .and 28 z9 z5=some (u6 z3),(z3==(0:Int))=false,An [Tt,Sm [i6 ↑lim],Sm [z5],z3=z3,Tt],An [Sm [sl cards,gC cs],TT 2],An [Sm [V.nilp],Tt,Tt],An [Sm [V.nils,V.nils],TT 2],An [Sm [i6 0],Tt,Tt],An [z8=z8,HfL z8],An [Sm (entM z4 1),HfE (entM z4 1),1=1],An [An [Sm cards.length,Sm (ints cards)],An [Sm cs.length,Sm (List.map sl cs)],y2,Tt,An [Zz,1=1,Tt],Tt],An [Zz,Tt],An [z6=z6,HfL z6],An [z7=z7,HfL z7],An [y2,y2,Tt],An [Sm [i6 ↑s],Tt,Tt],An [Sm [V.bool (Qao z0)],Tt,Tt],An [An [Zz,Zz,Zz,Zz,Tt],Tt],An [Sm [i6 ↑v],Tt,Tt],An [lbO size lim n (s-2^v) s v .ready=O.loop .ready none 0 y0 [62] rgA rgB,LowT 16 y0],An [Sm (bF (scF F z4) 1),TT 18],Tt])=_) ?_
    (repeat'(first|(with_reducible apply And.intro)|(refine fun(_:True)=>?_)))
    all_goals first|(with_reducible exact hsu _ _)|(with_reducible exact han _ _)|exact aq|exact hone|exact hcall|exact hl|exact hB|exact hB1|exact hS|exact hS0|exact hE|exact hE0|exact hla|exact hpa|exact hla1|exact hpa1|exact hsu _ _|exact han _ _|rfl|skip
  | succ k =>
   rcases find_entM q' v p (k+1)with⟨j,hj,hq,hf⟩|⟨hq,hf⟩
   ·have hhas : hasQ q' (k + 1) (v, p) = true := Qc6.2 ⟨j, hj, hq⟩
    have hcall:=yld_Ch cards cs F size lim n (s-2^v) q' s b' B la pa v p (s-2^v) (2^v) (tryF F B s v p) HT k j hj hq hf
    have eA2:innA lim s v q 0 (p+1)=(q',(k+1)):=by
     rw[innA,if_pos ho,eA]
     unfold askQ askK
     rw[show hasQ q' (k+1) (v,p)=true from hhas]
     rfl
    have hB:=Qaa (sB s b' B) size
    have hB1:=Qaa (sB s (upT b' v p (tryF F B s v p)) B) size
    have hS:=Qaa (scF F q') (k+1)
    have hE:=Qac q' (k+1)
    have hS0:=Qaa (scF F q') (k+1)
    have hE0:=Qac q' (k+1)
    have hla:=Qah (sL s b' la) size
    have hpa:=Qag (sP s b' pa) size
    have hla1:=Qah (sL s (upT b' v p (tryF F B s v p)) la) size
    have hpa1:=Qag (sP s (upT b' v p (tryF F B s v p)) pa) size
    by_cases hlast:p=s-2^v
    ·skip
     obtain⟨i1,i6_,i7⟩:=hnx.2 hlast
     rw[i6_,eA2]at hfin
     rw[i7,eB2]at hb1
     obtain⟨f1,f2⟩:=Prod.mk.inj hfin
     have f3:=Nat.succ.inj f2
     subst hb1 f1 f3
     refine .inr ⟨.ret,[16],{sl:=[],os:=ykC cards cs F size lim n (s-2^v) q' s (upT b' v p (tryF F B s v p)) B la pa v .ready k,md:=clM,lg:=[4,5,6,8,9,12,15]},[fn 6 (i6 (popc p:Nat)),yes 8,(12,.call ⟨.bool true,ofOs .e 0 (ykC cards cs F size lim n (s-2^v) q' s (upT b' v p (tryF F B s v p)) B la pa v .ready k),17,[4,5,6,8,9,12,15]⟩),va 17 (u6 (nxM p (s-2^v):Nat)),va 19 (u6 (0:Nat)),yes 21],1000,by exact .inl ⟨trivial,rfl,rfl⟩,?_⟩
     rw[i1]at han
     clear hnx h HT
     refine Eq.mp (by kernel_rfl:(let y1:=An [Zz,Sm size,Sm (size-size)];let z0:=upT b' v p (tryF F B s v p);let z1:=ofOs T.e 0 (ykC cards cs F size lim n (s-2^v) q' s b' B la pa v .ready k);let z3:=bF (scF F q') (k+1);let z7:=u6 (↑(nxM p (s-2^v)):Int);let z8:=rgT size lim n (s-2^v) s v;let z9:=entM q' (k+1);let y0:=[u6 ↑p];let z2:=CR.mk (V.bool true) (ofOs T.e 0 (ykC cards cs F size lim n (s-2^v) q' s z0 B la pa v .ready k)) 17 [4,5,6,8,9,12,15];let z4:=nF (sL s z0 la) size;let z5:=uF (sP s z0 pa) size;let z6:=bF (sB s z0 B) size;An [An [Tt,Tt],FnOk Pg g0 65 y0 (i6 ↑(popc p)),Tt,decide ((↑(popc p):Int)≤(↑lim:Int))=true,CallSpec Pg g0 (V.yld 15) y0 z1 17 z2,An [(V.fn 65 []=V.yld 15→y0=y0→z1=z1→17=17→CR.mk (i6 ↑(popc p)) z1 17 []=z2),Tt],binV (Qad Pg) .sub 28 (u6 ↑p) (u6 ↑(s-2^v))=some z7,binV (Qad Pg) .and 28 z7 (u6 ↑(s-2^v))=some (u6 ↑(0:Nat)),((↑(0:Nat):Int)==(0:Int))=true,Tt,An [Sm [sl cards,gC cs],TT 2],An [Sm [V.nilp],Tt,Tt],An [Sm [V.nils,V.nils],TT 2],An [Sm [i6 0],Tt,Tt],An [z6=z6,HfL z6],An [z9=z9,HfE z9,Sm (k+1)],An [An [Sm cards.length,Sm (ints cards)],An [Sm cs.length,Sm (List.map sl cs)],y1,Tt,An [Zz,Sm (k+1),Tt],Tt],An [Zz,Tt],An [z4=z4,HfL z4],An [z5=z5,HfL z5],An [y1,y1,Tt],An [Sm [i6 ↑s],Tt,Tt],An [Sm [V.bool (Qao z0)],Tt,Tt],An [An [Zz,Zz,Zz,Zz,Tt],Tt],An [Sm [i6 ↑v],Tt,Tt],An [lbO size lim n (s-2^v) s v .ready=O.loop .ready none 0 z8 [62] rgA rgB,LowT 16 z8],An [z3=z3,HfL z3],Tt])=_) ?_
     (repeat'(first|(with_reducible apply And.intro)|(refine fun(_:True)=>?_)))
     all_goals first|(with_reducible exact hsu _ _)|(with_reducible exact han _ _)|exact aq|exact hone|exact hcall|exact hl|exact hB|exact hB1|exact hS|exact hS0|exact hE|exact hE0|exact hla|exact hpa|exact hla1|exact hpa1|exact hsu _ _|exact han _ _|rfl|skip
    ·skip
     obtain⟨i1,i2,i3,i4,i5,i6_,i7⟩:=hnx.1 hlast
     refine .inl ⟨(nxP p (s-2^v),q',k+1,(upT b' v p (tryF F B s v p))),[16],[fn 6 (i6 (popc p:Nat)),yes 8,(12,.call ⟨.bool true,ofOs .e 0 (ykC cards cs F size lim n (s-2^v) q' s (upT b' v p (tryF F B s v p)) B la pa v .ready k),17,[4,5,6,8,9,12,15]⟩),va 17 (u6 (nxM p (s-2^v):Nat)),va 19 (u6 (nxP p (s-2^v):Nat)),no 21],1000,⟨i1,i2,fun _=>Nat.succ_le_succ (Nat.zero_le _),by dsimp only;omega,by rw[i6_];exact eA2,by rw[i7];exact eB2,hG2⟩,by dsimp only;omega,?_⟩
     clear hnx h HT
     refine Eq.mp (by kernel_rfl:(let y3:=An [Zz,Sm size,Sm (size-size)];let z0:=upT b' v p (tryF F B s v p);let z1:=ofOs T.e 0 (ykC cards cs F size lim n (s-2^v) q' s b' B la pa v .ready k);let z3:=(↑(nxP p (s-2^v)):Int);let z4:=u6 ↑(s-2^v);let z5:=bF (scF F q') (k+1);let z9:=u6 (↑(nxM p (s-2^v)):Int);let y0:=rgT size lim n (s-2^v) s v;let y1:=entM q' (k+1);let y2:=[u6 ↑p];let z2:=CR.mk (V.bool true) (ofOs T.e 0 (ykC cards cs F size lim n (s-2^v) q' s z0 B la pa v .ready k)) 17 [4,5,6,8,9,12,15];let z6:=nF (sL s z0 la) size;let z7:=uF (sP s z0 pa) size;let z8:=bF (sB s z0 B) size;An [An [Tt,Tt],FnOk Pg g0 65 y2 (i6 ↑(popc p)),Tt,decide ((↑(popc p):Int)≤(↑lim:Int))=true,CallSpec Pg g0 (V.yld 15) y2 z1 17 z2,An [(V.fn 65 []=V.yld 15→y2=y2→z1=z1→17=17→CR.mk (i6 ↑(popc p)) z1 17 []=z2),Tt],binV (Qad Pg) .sub 28 (u6 ↑p) z4=some z9,binV (Qad Pg) .and 28 z9 z4=some (u6 z3),(z3==(0:Int))=false,An [Tt,Sm [i6 ↑lim],Sm [z4],z3=z3,Tt],An [Sm [sl cards,gC cs],TT 2],An [Sm [V.nilp],Tt,Tt],An [Sm [V.nils,V.nils],TT 2],An [Sm [i6 0],Tt,Tt],An [z8=z8,HfL z8],An [y1=y1,HfE y1,Sm (k+1)],An [An [Sm cards.length,Sm (ints cards)],An [Sm cs.length,Sm (List.map sl cs)],y3,Tt,An [Zz,Sm (k+1),Tt],Tt],An [Zz,Tt],An [z6=z6,HfL z6],An [z7=z7,HfL z7],An [y3,y3,Tt],An [Sm [i6 ↑s],Tt,Tt],An [Sm [V.bool (Qao z0)],Tt,Tt],An [An [Zz,Zz,Zz,Zz,Tt],Tt],An [Sm [i6 ↑v],Tt,Tt],An [lbO size lim n (s-2^v) s v .ready=O.loop .ready none 0 y0 [62] rgA rgB,LowT 16 y0],An [z5=z5,HfL z5],Tt])=_) ?_
     (repeat'(first|(with_reducible apply And.intro)|(refine fun(_:True)=>?_)))
     all_goals first|(with_reducible exact hsu _ _)|(with_reducible exact han _ _)|exact aq|exact hone|exact hcall|exact hl|exact hB|exact hB1|exact hS|exact hS0|exact hE|exact hE0|exact hla|exact hpa|exact hla1|exact hpa1|exact hsu _ _|exact han _ _|rfl|skip
   ·have hhas : hasQ q' (k + 1) (v, p) = false := by
     cases hh:hasQ q' (k+1) (v,p)with
     |false=>rfl
     |true=>obtain⟨j,h1,h2⟩:=Qc6.1 hh;exact absurd h2 (hq j h1)
    have hcall:=yld_Cm cards cs F size lim n (s-2^v) q' s b' B la pa v p (s-2^v) (2^v) (tryF F B s v p) HT k (by omega) hf
    have eA2:innA lim s v q 0 (p+1)=((upQ q' (k+1) (v,p)),(k+1+1)):=by
     rw[innA,if_pos ho,eA]
     unfold askQ askK
     rw[show hasQ q' (k+1) (v,p)=false from hhas]
     rfl
    have hB:=Qaa (sB s b' B) size
    have hB1:=Qaa (sB s (upT b' v p (tryF F B s v p)) B) size
    have hS:=Qaa (scF F (upQ q' (k+1) (v,p))) (k+1+1)
    have hE:=Qac (upQ q' (k+1) (v,p)) (k+1+1)
    have hS0:=Qaa (scF F q') (k+1)
    have hE0:=Qac q' (k+1)
    have hla:=Qah (sL s b' la) size
    have hpa:=Qag (sP s b' pa) size
    have hla1:=Qah (sL s (upT b' v p (tryF F B s v p)) la) size
    have hpa1:=Qag (sP s (upT b' v p (tryF F B s v p)) pa) size
    by_cases hlast:p=s-2^v
    ·skip
     obtain⟨i1,i6_,i7⟩:=hnx.2 hlast
     rw[i6_,eA2]at hfin
     rw[i7,eB2]at hb1
     obtain⟨f1,f2⟩:=Prod.mk.inj hfin
     have f3:=Nat.succ.inj f2
     subst hb1 f1 f3
     refine .inr ⟨.ret,[17],{sl:=[],os:=ykC cards cs F size lim n (s-2^v) (upQ q' (k+1) (v,p)) s (upT b' v p (tryF F B s v p)) B la pa v .ready (k+1),md:=clM,lg:=[4,5,6,8,9,12,15]},[fn 6 (i6 (popc p:Nat)),yes 8,(12,.call ⟨.bool true,ofOs .e 0 (ykC2 cards cs F size lim n (s-2^v) (upQ q' (k+1) (v,p)) s (upT b' v p (tryF F B s v p)) B la pa v .ready (k+1)),18,[4,5,6,8,9,12,16,15]⟩),va 17 (u6 (nxM p (s-2^v):Nat)),va 19 (u6 (0:Nat)),yes 21],1000,by exact .inl ⟨trivial,rfl,rfl⟩,?_⟩
     rw[i1]at han
     clear hnx h HT
     refine Eq.mp (by kernel_rfl:(let y2:=An [Zz,Sm size,Sm (size-size)];let z0:=upT b' v p (tryF F B s v p);let z1:=ofOs T.e 0 (ykC cards cs F size lim n (s-2^v) q' s b' B la pa v .ready k);let z3:=upQ q' (k+1) (v,p);let z9:=u6 (↑(nxM p (s-2^v)):Int);let y0:=rgT size lim n (s-2^v) s v;let y1:=[u6 ↑p];let z2:=CR.mk (V.bool true) (ofOs T.e 0 (ykC2 cards cs F size lim n (s-2^v) z3 s z0 B la pa v .ready (k+1))) 18 [4,5,6,8,9,12,16,15];let z4:=bF (scF F z3) (k+1+1);let z5:=nF (sL s z0 la) size;let z6:=uF (sP s z0 pa) size;let z7:=bF (sB s z0 B) size;let z8:=entM z3 (k+1+1);An [An [Tt,Tt],FnOk Pg g0 65 y1 (i6 ↑(popc p)),Tt,decide ((↑(popc p):Int)≤(↑lim:Int))=true,CallSpec Pg g0 (V.yld 15) y1 z1 17 z2,An [(V.fn 65 []=V.yld 15→y1=y1→z1=z1→17=17→CR.mk (i6 ↑(popc p)) z1 17 []=z2),Tt],binV (Qad Pg) .sub 28 (u6 ↑p) (u6 ↑(s-2^v))=some z9,binV (Qad Pg) .and 28 z9 (u6 ↑(s-2^v))=some (u6 ↑(0:Nat)),((↑(0:Nat):Int)==(0:Int))=true,Tt,An [Sm [sl cards,gC cs],TT 2],An [Sm [V.nilp],Tt,Tt],An [Sm [V.nils,V.nils],TT 2],An [Sm [i6 0],Tt,Tt],An [z7=z7,HfL z7],An [z8=z8,HfE z8,Sm (k+1+1)],An [An [Sm cards.length,Sm (ints cards)],An [Sm cs.length,Sm (List.map sl cs)],y2,Tt,An [Zz,Sm (Nat.succ k+1),Tt],Tt],An [Zz,Tt],An [z5=z5,HfL z5],An [z6=z6,HfL z6],An [y2,y2,Tt],An [Sm [i6 ↑s],Tt,Tt],An [Sm [V.bool (Qao z0)],Tt,Tt],An [An [Zz,Zz,Zz,Zz,Tt],Tt],An [Sm [i6 ↑v],Tt,Tt],An [lbO size lim n (s-2^v) s v .ready=O.loop .ready none 0 y0 [62] rgA rgB,LowT 16 y0],An [z4=z4,HfL z4],Tt])=_) ?_
     (repeat'(first|(with_reducible apply And.intro)|(refine fun(_:True)=>?_)))
     all_goals first|(with_reducible exact hsu _ _)|(with_reducible exact han _ _)|exact aq|exact hone|exact hcall|exact hl|exact hB|exact hB1|exact hS|exact hS0|exact hE|exact hE0|exact hla|exact hpa|exact hla1|exact hpa1|exact hsu _ _|exact han _ _|rfl|skip
    ·skip
     obtain⟨i1,i2,i3,i4,i5,i6_,i7⟩:=hnx.1 hlast
     refine .inl ⟨(nxP p (s-2^v),(upQ q' (k+1) (v,p)),(k+1)+1,(upT b' v p (tryF F B s v p))),[17],[fn 6 (i6 (popc p:Nat)),yes 8,(12,.call ⟨.bool true,ofOs .e 0 (ykC2 cards cs F size lim n (s-2^v) (upQ q' (k+1) (v,p)) s (upT b' v p (tryF F B s v p)) B la pa v .ready (k+1)),18,[4,5,6,8,9,12,16,15]⟩),va 17 (u6 (nxM p (s-2^v):Nat)),va 19 (u6 (nxP p (s-2^v):Nat)),no 21],1000,⟨i1,i2,fun _=>Nat.succ_le_succ (Nat.zero_le _),by dsimp only;omega,by rw[i6_];exact eA2,by rw[i7];exact eB2,hG2⟩,by dsimp only;omega,?_⟩
     clear hnx h HT
     refine Eq.mp (by kernel_rfl:(let y4:=An [Zz,Sm size,Sm (size-size)];let z0:=upT b' v p (tryF F B s v p);let z1:=ofOs T.e 0 (ykC cards cs F size lim n (s-2^v) q' s b' B la pa v .ready k);let z3:=upQ q' (k+1) (v,p);let z4:=(↑(nxP p (s-2^v)):Int);let z5:=u6 ↑(s-2^v);let z6:=Nat.succ k;let y0:=u6 (↑(nxM p (s-2^v)):Int);let y1:=rgT size lim n (s-2^v) s v;let y3:=[u6 ↑p];let z2:=CR.mk (V.bool true) (ofOs T.e 0 (ykC2 cards cs F size lim n (s-2^v) z3 s z0 B la pa v .ready (k+1))) 18 [4,5,6,8,9,12,16,15];let z7:=nF (sL s z0 la) size;let z8:=uF (sP s z0 pa) size;let z9:=bF (sB s z0 B) size;let y2:=bF (scF F z3) (z6+1);An [An [Tt,Tt],FnOk Pg g0 65 y3 (i6 ↑(popc p)),Tt,decide ((↑(popc p):Int)≤(↑lim:Int))=true,CallSpec Pg g0 (V.yld 15) y3 z1 17 z2,An [(V.fn 65 []=V.yld 15→y3=y3→z1=z1→17=17→CR.mk (i6 ↑(popc p)) z1 17 []=z2),Tt],binV (Qad Pg) .sub 28 (u6 ↑p) z5=some y0,binV (Qad Pg) .and 28 y0 z5=some (u6 z4),(z4==(0:Int))=false,An [Tt,Sm [i6 ↑lim],Sm [z5],z4=z4,Tt],An [Sm [sl cards,gC cs],TT 2],An [Sm [V.nilp],Tt,Tt],An [Sm [V.nils,V.nils],TT 2],An [Sm [i6 0],Tt,Tt],An [z9=z9,HfL z9],An [entM z3 (z6+1)=entM z3 (k+1+1),HfE (entM z3 (z6+1)),z6+1=k+1+1],An [An [Sm cards.length,Sm (ints cards)],An [Sm cs.length,Sm (List.map sl cs)],y4,Tt,An [Zz,Sm (z6+1),Tt],Tt],An [Zz,Tt],An [z7=z7,HfL z7],An [z8=z8,HfL z8],An [y4,y4,Tt],An [Sm [i6 ↑s],Tt,Tt],An [Sm [V.bool (Qao z0)],Tt,Tt],An [An [Zz,Zz,Zz,Zz,Tt],Tt],An [Sm [i6 ↑v],Tt,Tt],An [lbO size lim n (s-2^v) s v .ready=O.loop .ready none 0 y1 [62] rgA rgB,LowT 16 y1],An [y2=bF (scF F z3) (k+1+1),HfL y2],Tt])=_) ?_
     (repeat'(first|(with_reducible apply And.intro)|(refine fun(_:True)=>?_)))
     all_goals first|(with_reducible exact hsu _ _)|(with_reducible exact han _ _)|exact aq|exact hone|exact hcall|exact hl|exact hB|exact hB1|exact hS|exact hS0|exact hE|exact hE0|exact hla|exact hpa|exact hla1|exact hpa1|exact hsu _ _|exact han _ _|rfl|skip
 ·have ho : ¬ okT lim s v p = true := fun h' => hok ((Qdu hs32 hv5 hvb hp).1 h').2
  have HT:=trivial
  have hcall:=trivial
  have hG2:=hG'
  have eB2:innB lim F B s v b (p+1)=b':=by rw[innB,if_neg ho,eB]
  cases k' with
  |zero=>
   have hp0:p=0:=Nat.eq_zero_of_not_pos (fun h'=>by have:=hpos (by omega);omega)
   subst hp0
   exact absurd (Nat.zero_le _) hok
  | succ k =>
   have eA2:innA lim s v q 0 (p+1)=(q',k+1):=by rw[innA,if_neg ho,eA]
   have hB:=Qaa (sB s b' B) size
   have hB1:=Qaa (sB s b' B) size
   have hS:=Qaa (scF F q') (k+1)
   have hE:=Qac q' (k+1)
   have hS0:=Qaa (scF F q') (k+1)
   have hE0:=Qac q' (k+1)
   have hla:=Qah (sL s b' la) size
   have hpa:=Qag (sP s b' pa) size
   have hla1:=Qah (sL s b' la) size
   have hpa1:=Qag (sP s b' pa) size
   by_cases hlast:p=s-2^v
   ·skip
    obtain⟨i1,i6_,i7⟩:=hnx.2 hlast
    rw[i6_,eA2]at hfin
    rw[i7,eB2]at hb1
    obtain⟨f1,f2⟩:=Prod.mk.inj hfin
    have f3:=Nat.succ.inj f2
    subst hb1 f1 f3
    refine .inr ⟨.ret,[16],{sl:=[],os:=ykC cards cs F size lim n (s-2^v) q' s b' B la pa v .ready k,md:=clM,lg:=[4,5,6,8,9,12,15]},[fn 6 (i6 (popc p:Nat)),no 8,va 17 (u6 (nxM p (s-2^v):Nat)),va 19 (u6 (0:Nat)),yes 21],1000,by exact .inl ⟨trivial,rfl,rfl⟩,?_⟩
    rw[i1]at han
    clear hnx h HT
    refine Eq.mp (by kernel_rfl:(let z7:=An [Zz,Sm size,Sm (size-size)];let z0:=bF (scF F q') (k+1);let z1:=nF (sL s b' la) size;let z2:=uF (sP s b' pa) size;let z3:=bF (sB s b' B) size;let z4:=u6 (↑(nxM p (s-2^v)):Int);let z5:=rgT size lim n (s-2^v) s v;let z6:=entM q' (k+1);An [An [Tt,Tt],FnOk Pg g0 65 [u6 ↑p] (i6 ↑(popc p)),Tt,decide ((↑(popc p):Int)≤(↑lim:Int))=false,binV (Qad Pg) .sub 28 (u6 ↑p) (u6 ↑(s-2^v))=some z4,binV (Qad Pg) .and 28 z4 (u6 ↑(s-2^v))=some (u6 ↑(0:Nat)),((↑(0:Nat):Int)==(0:Int))=true,Tt,An [Sm [sl cards,gC cs],TT 2],An [Sm [V.nilp],Tt,Tt],An [Sm [V.nils,V.nils],TT 2],An [Sm [i6 0],Tt,Tt],An [z3=z3,HfL z3],An [z6=z6,HfE z6,Sm (k+1)],An [An [Sm cards.length,Sm (ints cards)],An [Sm cs.length,Sm (List.map sl cs)],z7,Tt,An [Zz,Sm (k+1),Tt],Tt],An [Zz,Tt],An [z1=z1,HfL z1],An [z2=z2,HfL z2],An [z7,z7,Tt],An [Sm [i6 ↑s],Tt,Tt],An [Sm [V.bool (Qao b')],Tt,Tt],An [An [Zz,Zz,Zz,Zz,Tt],Tt],An [Sm [i6 ↑v],Tt,Tt],An [lbO size lim n (s-2^v) s v .ready=O.loop .ready none 0 z5 [62] rgA rgB,LowT 16 z5],An [z0=z0,HfL z0],Tt])=_) ?_
    (repeat'(first|(with_reducible apply And.intro)|(refine fun(_:True)=>?_)))
    all_goals first|(with_reducible exact hsu _ _)|(with_reducible exact han _ _)|exact aq|exact hone|exact hcall|exact hl|exact hB|exact hB1|exact hS|exact hS0|exact hE|exact hE0|exact hla|exact hpa|exact hla1|exact hpa1|exact hsu _ _|exact han _ _|rfl|skip
   ·skip
    obtain⟨i1,i2,i3,i4,i5,i6_,i7⟩:=hnx.1 hlast
    refine .inl ⟨(nxP p (s-2^v),q',k+1,b'),[16],[fn 6 (i6 (popc p:Nat)),no 8,va 17 (u6 (nxM p (s-2^v):Nat)),va 19 (u6 (nxP p (s-2^v):Nat)),no 21],1000,⟨i1,i2,fun _=>Nat.succ_le_succ (Nat.zero_le _),by dsimp only;omega,by rw[i6_];exact eA2,by rw[i7];exact eB2,hG2⟩,by dsimp only;omega,?_⟩
    clear hnx h HT
    refine Eq.mp (by kernel_rfl:(let z9:=An [Zz,Sm size,Sm (size-size)];let z0:=(↑(nxP p (s-2^v)):Int);let z1:=u6 ↑(s-2^v);let z2:=bF (scF F q') (k+1);let z3:=nF (sL s b' la) size;let z4:=uF (sP s b' pa) size;let z5:=bF (sB s b' B) size;let z6:=u6 (↑(nxM p (s-2^v)):Int);let z7:=rgT size lim n (s-2^v) s v;let z8:=entM q' (k+1);An [An [Tt,Tt],FnOk Pg g0 65 [u6 ↑p] (i6 ↑(popc p)),Tt,decide ((↑(popc p):Int)≤(↑lim:Int))=false,binV (Qad Pg) .sub 28 (u6 ↑p) z1=some z6,binV (Qad Pg) .and 28 z6 z1=some (u6 z0),(z0==(0:Int))=false,An [Tt,Sm [i6 ↑lim],Sm [z1],z0=z0,Tt],An [Sm [sl cards,gC cs],TT 2],An [Sm [V.nilp],Tt,Tt],An [Sm [V.nils,V.nils],TT 2],An [Sm [i6 0],Tt,Tt],An [z5=z5,HfL z5],An [z8=z8,HfE z8,Sm (k+1)],An [An [Sm cards.length,Sm (ints cards)],An [Sm cs.length,Sm (List.map sl cs)],z9,Tt,An [Zz,Sm (k+1),Tt],Tt],An [Zz,Tt],An [z3=z3,HfL z3],An [z4=z4,HfL z4],An [z9,z9,Tt],An [Sm [i6 ↑s],Tt,Tt],An [Sm [V.bool (Qao b')],Tt,Tt],An [An [Zz,Zz,Zz,Zz,Tt],Tt],An [Sm [i6 ↑v],Tt,Tt],An [lbO size lim n (s-2^v) s v .ready=O.loop .ready none 0 z7 [62] rgA rgB,LowT 16 z7],An [z2=z2,HfL z2],Tt])=_) ?_
    (repeat'(first|(with_reducible apply And.intro)|(refine fun(_:True)=>?_)))
    all_goals first|(with_reducible exact hsu _ _)|(with_reducible exact han _ _)|exact aq|exact hone|exact hcall|exact hl|exact hB|exact hB1|exact hS|exact hS0|exact hE|exact hE0|exact hla|exact hpa|exact hla1|exact hpa1|exact hsu _ _|exact han _ _|rfl|skip
theorem Qgk(cards:List Int)(cs:List (List Int))(F:Nat→Nat→Nat→Int)(size lim n:Nat)(q:Nat→Nat×Nat)(s:Nat)(b:BSt)(B:Nat→Nat→Int)(la pa:Nat→Nat)(v:Nat)(k0:Nat)(hk0:k0≤10000)(h:Qdx cards cs F size lim s v B)(hG:GoodB b)(q1:Nat→Nat×Nat)(k1:Nat)(b1:BSt)(hfin:innA lim s v q (k0+1) (s+1)=(q1,k1+1))(hb1:innB lim F B s v b (s+1)=b1):
  Sat Pg none 17 (at' 122 [1,0]) (mkSt g0 22 (kpbS cards cs F size lim n s B la pa v (0,q,k0,b,false))) (Qaf g0 22 [(k1=k0,.ret,{sl:=[],os:=ykB cards cs F size lim n (s-2^v) q1 s b1 B la pa v .ready k1,md:=clM,lg:=[4,5,6,8,9,12,15,16]}),(k1≠k0,.ret,{sl:=[],os:=ykD cards cs F size lim n (s-2^v) q1 s b1 B la pa v .ready k1,md:=clM,lg:=[4,5,6,8,9,12,15,16]})]):=by
 have hs32:=h.s32
 have hv5:=h.v5
 have hvb:=h.bit
 obtain⟨hw,_⟩:=Qbx s hs32 v hv5 hvb
 have hp2:0<2^v:=Nat.pow_pos (by decide)
 have hl:=Qk6 size lim n (s-2^v) s v 17 (by decide)
 have hc:=Qae cards
 have hg:=Qar cs
 refine Qaz vE_ok mixed Qab (b:=at' 122 [1,0,0]) (by kernel_rfl) (fun x=>x.1<32∧x.1&&& (s-2^v)=x.1∧x.2.2.1≤10000+x.1∧innA lim s v q (k0+1) x.1=(x.2.1,x.2.2.1+1)∧innB lim F B s v b x.1=x.2.2.2.1∧GoodB x.2.2.2.1∧(if x.2.2.2.2 then x.2.2.1≠k0 else x.2.2.1=k0)) (kpbS cards cs F size lim n s B la pa v) (fun x=>32-x.1) (fun x hx=>?_) (0,q,k0,b,false) ⟨(by show 0<32;decide),Nat.zero_and _,by dsimp only;omega,rfl,rfl,hG,rfl⟩
 obtain⟨p,q',k,b',fl⟩:=x
 obtain⟨hp,hsub,hk,eA,eB,hG',hm⟩:=hx
 dsimp only at hp hsub hk eA eB hG' hm
 have hnx:=Qoy (lim:=lim) (q:=q) (k:=(k0+1)) (F:=F) (B:=B) (b:=b) hs32 hv5 hvb hp hsub
 have hone:=Qgh p hp
 have hsu:=fun G t=>nx_sub (w:=s-2^v) (p:=p) (by omega) hp G t
 have han:=fun G t=>nx_and (w:=s-2^v) (p:=p) (by omega) hp G t
 have hple:p≤s-2^v:=by rw[←hsub];exact Nat.and_le_right
 by_cases hok:popc p≤lim
 ·have ho : okT lim s v p = true := (Qdu hs32 hv5 hvb hp).2 ⟨hsub, hok⟩
  have HT:=h.ok p b' ho hG'
  have hG2:=hG'.up (v:=v) (p:=p) (h.bd p)
  have eB2:innB lim F B s v b (p+1)=upT b' v p (tryF F B s v p):=by rw[innB,if_pos ho,eB]
  cases fl with
  | false =>
   rcases find_entM q' v p (k+1)with⟨j,hj,hq,hf⟩|⟨hq,hf⟩
   ·have hhas : hasQ q' (k + 1) (v, p) = true := Qc6.2 ⟨j, hj, hq⟩
    have hcall:=yld_Bh cards cs F size lim n (s-2^v) q' s b' B la pa v p (s-2^v) (2^v) (tryF F B s v p) HT k j hj hq hf
    have eA2:innA lim s v q (k0+1) (p+1)=(q',(k+1)):=by
     rw[innA,if_pos ho,eA]
     unfold askQ askK
     rw[show hasQ q' (k+1) (v,p)=true from hhas]
     rfl
    have hB:=Qaa (sB s b' B) size
    have hB1:=Qaa (sB s (upT b' v p (tryF F B s v p)) B) size
    have hS:=Qaa (scF F q') (k+1)
    have hE:=Qac q' (k+1)
    have hS0:=Qaa (scF F q') (k+1)
    have hE0:=Qac q' (k+1)
    have hla:=Qah (sL s b' la) size
    have hpa:=Qag (sP s b' pa) size
    have hla1:=Qah (sL s (upT b' v p (tryF F B s v p)) la) size
    have hpa1:=Qag (sP s (upT b' v p (tryF F B s v p)) pa) size
    have hfl:k=k0:=hm
    by_cases hlast:p=s-2^v
    ·skip
     obtain⟨i1,i6_,i7⟩:=hnx.2 hlast
     rw[i6_,eA2]at hfin
     rw[i7,eB2]at hb1
     obtain⟨f1,f2⟩:=Prod.mk.inj hfin
     have f3:=Nat.succ.inj f2
     subst hb1 f1 f3
     refine .inr ⟨.ret,[],{sl:=[],os:=ykB cards cs F size lim n (s-2^v) q' s (upT b' v p (tryF F B s v p)) B la pa v .ready k,md:=clM,lg:=[4,5,6,8,9,12,15,16]},[fn 6 (i6 (popc p:Nat)),yes 8,(12,.call ⟨.bool true,ofOs .e 0 (ykB cards cs F size lim n (s-2^v) q' s (upT b' v p (tryF F B s v p)) B la pa v .ready k),17,[4,5,6,8,9,12,16]⟩),va 17 (u6 (nxM p (s-2^v):Nat)),va 19 (u6 (0:Nat)),yes 21],1000,by exact .inl ⟨hfl,rfl,rfl⟩,?_⟩
     rw[i1]at han
     clear hnx h HT
     refine Eq.mp (by kernel_rfl:(let y1:=An [Zz,Sm size,Sm (size-size)];let z0:=upT b' v p (tryF F B s v p);let z1:=ofOs T.e 0 (ykB cards cs F size lim n (s-2^v) q' s b' B la pa v .ready k);let z3:=bF (scF F q') (k+1);let z7:=u6 (↑(nxM p (s-2^v)):Int);let z8:=rgT size lim n (s-2^v) s v;let z9:=entM q' (k+1);let y0:=[u6 ↑p];let z2:=CR.mk (V.bool true) (ofOs T.e 0 (ykB cards cs F size lim n (s-2^v) q' s z0 B la pa v .ready k)) 17 [4,5,6,8,9,12,16];let z4:=nF (sL s z0 la) size;let z5:=uF (sP s z0 pa) size;let z6:=bF (sB s z0 B) size;An [An [Tt,Tt],FnOk Pg g0 65 y0 (i6 ↑(popc p)),Tt,decide ((↑(popc p):Int)≤(↑lim:Int))=true,CallSpec Pg g0 (V.yld 16) y0 z1 17 z2,An [(V.fn 65 []=V.yld 16→y0=y0→z1=z1→17=17→CR.mk (i6 ↑(popc p)) z1 17 []=z2),Tt],binV (Qad Pg) .sub 28 (u6 ↑p) (u6 ↑(s-2^v))=some z7,binV (Qad Pg) .and 28 z7 (u6 ↑(s-2^v))=some (u6 ↑(0:Nat)),((↑(0:Nat):Int)==(0:Int))=true,Tt,An [Sm [sl cards,gC cs],TT 2],An [Sm [V.nilp],Tt,Tt],An [Sm [V.nils,V.nils],TT 2],An [Sm [i6 0],Tt,Tt],An [z6=z6,HfL z6],An [z9=z9,HfE z9,Sm (k+1)],An [An [Sm cards.length,Sm (ints cards)],An [Sm cs.length,Sm (List.map sl cs)],y1,Tt,An [Zz,Sm (k+1),Tt],Tt],An [Zz,Tt],An [z4=z4,HfL z4],An [z5=z5,HfL z5],An [y1,y1,Tt],An [Sm [i6 ↑s],Tt,Tt],An [Sm [V.bool (Qao z0)],Tt,Tt],An [An [Zz,Zz,Zz,Zz,Tt],Tt],An [Sm [i6 ↑v],Tt,Tt],An [z3=z3,HfL z3],An [lbO size lim n (s-2^v) s v .ready=O.loop .ready none 0 z8 [62] rgA rgB,LowT 17 z8],Tt])=_) ?_
     (repeat'(first|(with_reducible apply And.intro)|(refine fun(_:True)=>?_)))
     all_goals first|(with_reducible exact hsu _ _)|(with_reducible exact han _ _)|exact aq|exact hone|exact hcall|exact hl|exact hB|exact hB1|exact hS|exact hS0|exact hE|exact hE0|exact hla|exact hpa|exact hla1|exact hpa1|exact hsu _ _|exact han _ _|rfl|skip
    ·skip
     obtain⟨i1,i2,i3,i4,i5,i6_,i7⟩:=hnx.1 hlast
     refine .inl ⟨(nxP p (s-2^v),q',k,(upT b' v p (tryF F B s v p)),false),[],[fn 6 (i6 (popc p:Nat)),yes 8,(12,.call ⟨.bool true,ofOs .e 0 (ykB cards cs F size lim n (s-2^v) q' s (upT b' v p (tryF F B s v p)) B la pa v .ready k),17,[4,5,6,8,9,12,16]⟩),va 17 (u6 (nxM p (s-2^v):Nat)),va 19 (u6 (nxP p (s-2^v):Nat)),no 21],1000,⟨i1,i2,by dsimp only;omega,by rw[i6_];exact eA2,by rw[i7];exact eB2,hG2,hfl⟩,by dsimp only;omega,?_⟩
     clear hnx h HT
     refine Eq.mp (by kernel_rfl:(let y3:=An [Zz,Sm size,Sm (size-size)];let z0:=upT b' v p (tryF F B s v p);let z1:=ofOs T.e 0 (ykB cards cs F size lim n (s-2^v) q' s b' B la pa v .ready k);let z3:=(↑(nxP p (s-2^v)):Int);let z4:=u6 ↑(s-2^v);let z5:=bF (scF F q') (k+1);let z9:=u6 (↑(nxM p (s-2^v)):Int);let y0:=rgT size lim n (s-2^v) s v;let y1:=entM q' (k+1);let y2:=[u6 ↑p];let z2:=CR.mk (V.bool true) (ofOs T.e 0 (ykB cards cs F size lim n (s-2^v) q' s z0 B la pa v .ready k)) 17 [4,5,6,8,9,12,16];let z6:=nF (sL s z0 la) size;let z7:=uF (sP s z0 pa) size;let z8:=bF (sB s z0 B) size;An [An [Tt,Tt],FnOk Pg g0 65 y2 (i6 ↑(popc p)),Tt,decide ((↑(popc p):Int)≤(↑lim:Int))=true,CallSpec Pg g0 (V.yld 16) y2 z1 17 z2,An [(V.fn 65 []=V.yld 16→y2=y2→z1=z1→17=17→CR.mk (i6 ↑(popc p)) z1 17 []=z2),Tt],binV (Qad Pg) .sub 28 (u6 ↑p) z4=some z9,binV (Qad Pg) .and 28 z9 z4=some (u6 z3),(z3==(0:Int))=false,An [Tt,Sm [i6 ↑lim],Sm [z4],z3=z3,Tt],An [Sm [sl cards,gC cs],TT 2],An [Sm [V.nilp],Tt,Tt],An [Sm [V.nils,V.nils],TT 2],An [Sm [i6 0],Tt,Tt],An [z8=z8,HfL z8],An [y1=y1,HfE y1,Sm (k+1)],An [An [Sm cards.length,Sm (ints cards)],An [Sm cs.length,Sm (List.map sl cs)],y3,Tt,An [Zz,Sm (k+1),Tt],Tt],An [Zz,Tt],An [z6=z6,HfL z6],An [z7=z7,HfL z7],An [y3,y3,Tt],An [Sm [i6 ↑s],Tt,Tt],An [Sm [V.bool (Qao z0)],Tt,Tt],An [An [Zz,Zz,Zz,Zz,Tt],Tt],An [Sm [i6 ↑v],Tt,Tt],An [z5=z5,HfL z5],An [lbO size lim n (s-2^v) s v .ready=O.loop .ready none 0 y0 [62] rgA rgB,LowT 17 y0],Tt])=_) ?_
     (repeat'(first|(with_reducible apply And.intro)|(refine fun(_:True)=>?_)))
     all_goals first|(with_reducible exact hsu _ _)|(with_reducible exact han _ _)|exact aq|exact hone|exact hcall|exact hl|exact hB|exact hB1|exact hS|exact hS0|exact hE|exact hE0|exact hla|exact hpa|exact hla1|exact hpa1|exact hsu _ _|exact han _ _|rfl|skip
   ·have hhas : hasQ q' (k + 1) (v, p) = false := by
     cases hh:hasQ q' (k+1) (v,p)with
     |false=>rfl
     |true=>obtain⟨j,h1,h2⟩:=Qc6.1 hh;exact absurd h2 (hq j h1)
    have hcall:=yld_Bm cards cs F size lim n (s-2^v) q' s b' B la pa v p (s-2^v) (2^v) (tryF F B s v p) HT k (by omega) hf
    have eA2:innA lim s v q (k0+1) (p+1)=((upQ q' (k+1) (v,p)),(k+1+1)):=by
     rw[innA,if_pos ho,eA]
     unfold askQ askK
     rw[show hasQ q' (k+1) (v,p)=false from hhas]
     rfl
    have hB:=Qaa (sB s b' B) size
    have hB1:=Qaa (sB s (upT b' v p (tryF F B s v p)) B) size
    have hS:=Qaa (scF F (upQ q' (k+1) (v,p))) (k+1+1)
    have hE:=Qac (upQ q' (k+1) (v,p)) (k+1+1)
    have hS0:=Qaa (scF F q') (k+1)
    have hE0:=Qac q' (k+1)
    have hla:=Qah (sL s b' la) size
    have hpa:=Qag (sP s b' pa) size
    have hla1:=Qah (sL s (upT b' v p (tryF F B s v p)) la) size
    have hpa1:=Qag (sP s (upT b' v p (tryF F B s v p)) pa) size
    have hfl:(k+1)≠k0:=by have hm':k=k0:=hm;omega
    by_cases hlast:p=s-2^v
    ·skip
     obtain⟨i1,i6_,i7⟩:=hnx.2 hlast
     rw[i6_,eA2]at hfin
     rw[i7,eB2]at hb1
     obtain⟨f1,f2⟩:=Prod.mk.inj hfin
     have f3:=Nat.succ.inj f2
     subst hb1 f1 f3
     refine .inr ⟨.ret,[17],{sl:=[],os:=ykD cards cs F size lim n (s-2^v) (upQ q' (k+1) (v,p)) s (upT b' v p (tryF F B s v p)) B la pa v .ready (k+1),md:=clM,lg:=[4,5,6,8,9,12,15,16]},[fn 6 (i6 (popc p:Nat)),yes 8,(12,.call ⟨.bool true,ofOs .e 0 (ykD cards cs F size lim n (s-2^v) (upQ q' (k+1) (v,p)) s (upT b' v p (tryF F B s v p)) B la pa v .ready (k+1)),18,[4,5,6,8,9,12,15,16]⟩),va 17 (u6 (nxM p (s-2^v):Nat)),va 19 (u6 (0:Nat)),yes 21],1000,by exact .inr (.inl ⟨hfl,rfl,rfl⟩),?_⟩
     rw[i1]at han
     clear hnx h HT
     refine Eq.mp (by kernel_rfl:(let y2:=An [Zz,Sm size,Sm (size-size)];let z0:=upT b' v p (tryF F B s v p);let z1:=ofOs T.e 0 (ykB cards cs F size lim n (s-2^v) q' s b' B la pa v .ready k);let z3:=upQ q' (k+1) (v,p);let z9:=u6 (↑(nxM p (s-2^v)):Int);let y0:=rgT size lim n (s-2^v) s v;let y1:=[u6 ↑p];let z2:=CR.mk (V.bool true) (ofOs T.e 0 (ykD cards cs F size lim n (s-2^v) z3 s z0 B la pa v .ready (k+1))) 18 [4,5,6,8,9,12,15,16];let z4:=bF (scF F z3) (k+1+1);let z5:=nF (sL s z0 la) size;let z6:=uF (sP s z0 pa) size;let z7:=bF (sB s z0 B) size;let z8:=entM z3 (k+1+1);An [An [Tt,Tt],FnOk Pg g0 65 y1 (i6 ↑(popc p)),Tt,decide ((↑(popc p):Int)≤(↑lim:Int))=true,CallSpec Pg g0 (V.yld 16) y1 z1 17 z2,An [(V.fn 65 []=V.yld 16→y1=y1→z1=z1→17=17→CR.mk (i6 ↑(popc p)) z1 17 []=z2),Tt],binV (Qad Pg) .sub 28 (u6 ↑p) (u6 ↑(s-2^v))=some z9,binV (Qad Pg) .and 28 z9 (u6 ↑(s-2^v))=some (u6 ↑(0:Nat)),((↑(0:Nat):Int)==(0:Int))=true,Tt,An [Sm [sl cards,gC cs],TT 2],An [Sm [V.nilp],Tt,Tt],An [Sm [V.nils,V.nils],TT 2],An [Sm [i6 0],Tt,Tt],An [z7=z7,HfL z7],An [z8=z8,HfE z8,Sm (k+1+1)],An [An [Sm cards.length,Sm (ints cards)],An [Sm cs.length,Sm (List.map sl cs)],y2,Tt,An [Zz,Sm (Nat.succ k+1),Tt],Tt],An [Zz,Tt],An [z5=z5,HfL z5],An [z6=z6,HfL z6],An [y2,y2,Tt],An [Sm [i6 ↑s],Tt,Tt],An [Sm [V.bool (Qao z0)],Tt,Tt],An [An [Zz,Zz,Zz,Zz,Tt],Tt],An [Sm [i6 ↑v],Tt,Tt],Tt,An [lbO size lim n (s-2^v) s v .ready=O.loop .ready none 0 y0 [62] rgA rgB,LowT 17 y0],An [z4=z4,HfL z4],Tt])=_) ?_
     (repeat'(first|(with_reducible apply And.intro)|(refine fun(_:True)=>?_)))
     all_goals first|(with_reducible exact hsu _ _)|(with_reducible exact han _ _)|exact aq|exact hone|exact hcall|exact hl|exact hB|exact hB1|exact hS|exact hS0|exact hE|exact hE0|exact hla|exact hpa|exact hla1|exact hpa1|exact hsu _ _|exact han _ _|rfl|skip
    ·skip
     obtain⟨i1,i2,i3,i4,i5,i6_,i7⟩:=hnx.1 hlast
     refine .inl ⟨(nxP p (s-2^v),(upQ q' (k+1) (v,p)),(k+1),(upT b' v p (tryF F B s v p)),true),[17],[fn 6 (i6 (popc p:Nat)),yes 8,(12,.call ⟨.bool true,ofOs .e 0 (ykD cards cs F size lim n (s-2^v) (upQ q' (k+1) (v,p)) s (upT b' v p (tryF F B s v p)) B la pa v .ready (k+1)),18,[4,5,6,8,9,12,15,16]⟩),va 17 (u6 (nxM p (s-2^v):Nat)),va 19 (u6 (nxP p (s-2^v):Nat)),no 21],1000,⟨i1,i2,by dsimp only;omega,by rw[i6_];exact eA2,by rw[i7];exact eB2,hG2,hfl⟩,by dsimp only;omega,?_⟩
     clear hnx h HT
     refine Eq.mp (by kernel_rfl:(let y4:=An [Zz,Sm size,Sm (size-size)];let z0:=upT b' v p (tryF F B s v p);let z1:=ofOs T.e 0 (ykB cards cs F size lim n (s-2^v) q' s b' B la pa v .ready k);let z3:=upQ q' (k+1) (v,p);let z4:=(↑(nxP p (s-2^v)):Int);let z5:=u6 ↑(s-2^v);let y1:=u6 (↑(nxM p (s-2^v)):Int);let y2:=rgT size lim n (s-2^v) s v;let y3:=[u6 ↑p];let z2:=CR.mk (V.bool true) (ofOs T.e 0 (ykD cards cs F size lim n (s-2^v) z3 s z0 B la pa v .ready (k+1))) 18 [4,5,6,8,9,12,15,16];let z6:=bF (scF F z3) (k+1+1);let z7:=nF (sL s z0 la) size;let z8:=uF (sP s z0 pa) size;let z9:=bF (sB s z0 B) size;let y0:=entM z3 (k+1+1);An [An [Tt,Tt],FnOk Pg g0 65 y3 (i6 ↑(popc p)),Tt,decide ((↑(popc p):Int)≤(↑lim:Int))=true,CallSpec Pg g0 (V.yld 16) y3 z1 17 z2,An [(V.fn 65 []=V.yld 16→y3=y3→z1=z1→17=17→CR.mk (i6 ↑(popc p)) z1 17 []=z2),Tt],binV (Qad Pg) .sub 28 (u6 ↑p) z5=some y1,binV (Qad Pg) .and 28 y1 z5=some (u6 z4),(z4==(0:Int))=false,An [Tt,Sm [i6 ↑lim],Sm [z5],z4=z4,Tt],An [Sm [sl cards,gC cs],TT 2],An [Sm [V.nilp],Tt,Tt],An [Sm [V.nils,V.nils],TT 2],An [Sm [i6 0],Tt,Tt],An [z9=z9,HfL z9],An [y0=y0,HfE y0,Sm (k+1+1)],An [An [Sm cards.length,Sm (ints cards)],An [Sm cs.length,Sm (List.map sl cs)],y4,Tt,An [Zz,Sm (Nat.succ k+1),Tt],Tt],An [Zz,Tt],An [z7=z7,HfL z7],An [z8=z8,HfL z8],An [y4,y4,Tt],An [Sm [i6 ↑s],Tt,Tt],An [Sm [V.bool (Qao z0)],Tt,Tt],An [An [Zz,Zz,Zz,Zz,Tt],Tt],An [Sm [i6 ↑v],Tt,Tt],Tt,An [lbO size lim n (s-2^v) s v .ready=O.loop .ready none 0 y2 [62] rgA rgB,LowT 17 y2],An [z6=z6,HfL z6],Tt])=_) ?_
     (repeat'(first|(with_reducible apply And.intro)|(refine fun(_:True)=>?_)))
     all_goals first|(with_reducible exact hsu _ _)|(with_reducible exact han _ _)|exact aq|exact hone|exact hcall|exact hl|exact hB|exact hB1|exact hS|exact hS0|exact hE|exact hE0|exact hla|exact hpa|exact hla1|exact hpa1|exact hsu _ _|exact han _ _|rfl|skip
  | true =>
   rcases find_entM q' v p (k+1)with⟨j,hj,hq,hf⟩|⟨hq,hf⟩
   ·have hhas : hasQ q' (k + 1) (v, p) = true := Qc6.2 ⟨j, hj, hq⟩
    have hcall:=yld_Dh cards cs F size lim n (s-2^v) q' s b' B la pa v p (s-2^v) (2^v) (tryF F B s v p) HT k j hj hq hf
    have eA2:innA lim s v q (k0+1) (p+1)=(q',(k+1)):=by
     rw[innA,if_pos ho,eA]
     unfold askQ askK
     rw[show hasQ q' (k+1) (v,p)=true from hhas]
     rfl
    have hB:=Qaa (sB s b' B) size
    have hB1:=Qaa (sB s (upT b' v p (tryF F B s v p)) B) size
    have hS:=Qaa (scF F q') (k+1)
    have hE:=Qac q' (k+1)
    have hS0:=Qaa (scF F q') (k+1)
    have hE0:=Qac q' (k+1)
    have hla:=Qah (sL s b' la) size
    have hpa:=Qag (sP s b' pa) size
    have hla1:=Qah (sL s (upT b' v p (tryF F B s v p)) la) size
    have hpa1:=Qag (sP s (upT b' v p (tryF F B s v p)) pa) size
    have hfl:k≠k0:=hm
    by_cases hlast:p=s-2^v
    ·skip
     obtain⟨i1,i6_,i7⟩:=hnx.2 hlast
     rw[i6_,eA2]at hfin
     rw[i7,eB2]at hb1
     obtain⟨f1,f2⟩:=Prod.mk.inj hfin
     have f3:=Nat.succ.inj f2
     subst hb1 f1 f3
     refine .inr ⟨.ret,[17],{sl:=[],os:=ykD cards cs F size lim n (s-2^v) q' s (upT b' v p (tryF F B s v p)) B la pa v .ready k,md:=clM,lg:=[4,5,6,8,9,12,15,16]},[fn 6 (i6 (popc p:Nat)),yes 8,(12,.call ⟨.bool true,ofOs .e 0 (ykD cards cs F size lim n (s-2^v) q' s (upT b' v p (tryF F B s v p)) B la pa v .ready k),18,[4,5,6,8,9,12,16]⟩),va 17 (u6 (nxM p (s-2^v):Nat)),va 19 (u6 (0:Nat)),yes 21],1000,by exact .inr (.inl ⟨hfl,rfl,rfl⟩),?_⟩
     rw[i1]at han
     clear hnx h HT
     refine Eq.mp (by kernel_rfl:(let y1:=An [Zz,Sm size,Sm (size-size)];let z0:=upT b' v p (tryF F B s v p);let z1:=ofOs T.e 0 (ykD cards cs F size lim n (s-2^v) q' s b' B la pa v .ready k);let z3:=bF (scF F q') (k+1);let z7:=u6 (↑(nxM p (s-2^v)):Int);let z8:=rgT size lim n (s-2^v) s v;let z9:=entM q' (k+1);let y0:=[u6 ↑p];let z2:=CR.mk (V.bool true) (ofOs T.e 0 (ykD cards cs F size lim n (s-2^v) q' s z0 B la pa v .ready k)) 18 [4,5,6,8,9,12,16];let z4:=nF (sL s z0 la) size;let z5:=uF (sP s z0 pa) size;let z6:=bF (sB s z0 B) size;An [An [Tt,Tt],FnOk Pg g0 65 y0 (i6 ↑(popc p)),Tt,decide ((↑(popc p):Int)≤(↑lim:Int))=true,CallSpec Pg g0 (V.yld 16) y0 z1 18 z2,An [(V.fn 65 []=V.yld 16→y0=y0→z1=z1→18=18→CR.mk (i6 ↑(popc p)) z1 18 []=z2),Tt],binV (Qad Pg) .sub 28 (u6 ↑p) (u6 ↑(s-2^v))=some z7,binV (Qad Pg) .and 28 z7 (u6 ↑(s-2^v))=some (u6 ↑(0:Nat)),((↑(0:Nat):Int)==(0:Int))=true,Tt,An [Sm [sl cards,gC cs],TT 2],An [Sm [V.nilp],Tt,Tt],An [Sm [V.nils,V.nils],TT 2],An [Sm [i6 0],Tt,Tt],An [z6=z6,HfL z6],An [z9=z9,HfE z9,Sm (k+1)],An [An [Sm cards.length,Sm (ints cards)],An [Sm cs.length,Sm (List.map sl cs)],y1,Tt,An [Zz,Sm (k+1),Tt],Tt],An [Zz,Tt],An [z4=z4,HfL z4],An [z5=z5,HfL z5],An [y1,y1,Tt],An [Sm [i6 ↑s],Tt,Tt],An [Sm [V.bool (Qao z0)],Tt,Tt],An [An [Zz,Zz,Zz,Zz,Tt],Tt],An [Sm [i6 ↑v],Tt,Tt],Tt,An [lbO size lim n (s-2^v) s v .ready=O.loop .ready none 0 z8 [62] rgA rgB,LowT 17 z8],An [z3=z3,HfL z3],Tt])=_) ?_
     (repeat'(first|(with_reducible apply And.intro)|(refine fun(_:True)=>?_)))
     all_goals first|(with_reducible exact hsu _ _)|(with_reducible exact han _ _)|exact aq|exact hone|exact hcall|exact hl|exact hB|exact hB1|exact hS|exact hS0|exact hE|exact hE0|exact hla|exact hpa|exact hla1|exact hpa1|exact hsu _ _|exact han _ _|rfl|skip
    ·skip
     obtain⟨i1,i2,i3,i4,i5,i6_,i7⟩:=hnx.1 hlast
     refine .inl ⟨(nxP p (s-2^v),q',k,(upT b' v p (tryF F B s v p)),true),[17],[fn 6 (i6 (popc p:Nat)),yes 8,(12,.call ⟨.bool true,ofOs .e 0 (ykD cards cs F size lim n (s-2^v) q' s (upT b' v p (tryF F B s v p)) B la pa v .ready k),18,[4,5,6,8,9,12,16]⟩),va 17 (u6 (nxM p (s-2^v):Nat)),va 19 (u6 (nxP p (s-2^v):Nat)),no 21],1000,⟨i1,i2,by dsimp only;omega,by rw[i6_];exact eA2,by rw[i7];exact eB2,hG2,hfl⟩,by dsimp only;omega,?_⟩
     clear hnx h HT
     refine Eq.mp (by kernel_rfl:(let y3:=An [Zz,Sm size,Sm (size-size)];let z0:=upT b' v p (tryF F B s v p);let z1:=ofOs T.e 0 (ykD cards cs F size lim n (s-2^v) q' s b' B la pa v .ready k);let z3:=(↑(nxP p (s-2^v)):Int);let z4:=u6 ↑(s-2^v);let z5:=bF (scF F q') (k+1);let z9:=u6 (↑(nxM p (s-2^v)):Int);let y0:=rgT size lim n (s-2^v) s v;let y1:=entM q' (k+1);let y2:=[u6 ↑p];let z2:=CR.mk (V.bool true) (ofOs T.e 0 (ykD cards cs F size lim n (s-2^v) q' s z0 B la pa v .ready k)) 18 [4,5,6,8,9,12,16];let z6:=nF (sL s z0 la) size;let z7:=uF (sP s z0 pa) size;let z8:=bF (sB s z0 B) size;An [An [Tt,Tt],FnOk Pg g0 65 y2 (i6 ↑(popc p)),Tt,decide ((↑(popc p):Int)≤(↑lim:Int))=true,CallSpec Pg g0 (V.yld 16) y2 z1 18 z2,An [(V.fn 65 []=V.yld 16→y2=y2→z1=z1→18=18→CR.mk (i6 ↑(popc p)) z1 18 []=z2),Tt],binV (Qad Pg) .sub 28 (u6 ↑p) z4=some z9,binV (Qad Pg) .and 28 z9 z4=some (u6 z3),(z3==(0:Int))=false,An [Tt,Sm [i6 ↑lim],Sm [z4],z3=z3,Tt],An [Sm [sl cards,gC cs],TT 2],An [Sm [V.nilp],Tt,Tt],An [Sm [V.nils,V.nils],TT 2],An [Sm [i6 0],Tt,Tt],An [z8=z8,HfL z8],An [y1=y1,HfE y1,Sm (k+1)],An [An [Sm cards.length,Sm (ints cards)],An [Sm cs.length,Sm (List.map sl cs)],y3,Tt,An [Zz,Sm (k+1),Tt],Tt],An [Zz,Tt],An [z6=z6,HfL z6],An [z7=z7,HfL z7],An [y3,y3,Tt],An [Sm [i6 ↑s],Tt,Tt],An [Sm [V.bool (Qao z0)],Tt,Tt],An [An [Zz,Zz,Zz,Zz,Tt],Tt],An [Sm [i6 ↑v],Tt,Tt],Tt,An [lbO size lim n (s-2^v) s v .ready=O.loop .ready none 0 y0 [62] rgA rgB,LowT 17 y0],An [z5=z5,HfL z5],Tt])=_) ?_
     (repeat'(first|(with_reducible apply And.intro)|(refine fun(_:True)=>?_)))
     all_goals first|(with_reducible exact hsu _ _)|(with_reducible exact han _ _)|exact aq|exact hone|exact hcall|exact hl|exact hB|exact hB1|exact hS|exact hS0|exact hE|exact hE0|exact hla|exact hpa|exact hla1|exact hpa1|exact hsu _ _|exact han _ _|rfl|skip
   ·have hhas : hasQ q' (k + 1) (v, p) = false := by
     cases hh:hasQ q' (k+1) (v,p)with
     |false=>rfl
     |true=>obtain⟨j,h1,h2⟩:=Qc6.1 hh;exact absurd h2 (hq j h1)
    have hcall:=yld_Dm cards cs F size lim n (s-2^v) q' s b' B la pa v p (s-2^v) (2^v) (tryF F B s v p) HT k (by omega) hf
    have eA2:innA lim s v q (k0+1) (p+1)=((upQ q' (k+1) (v,p)),(k+1+1)):=by
     rw[innA,if_pos ho,eA]
     unfold askQ askK
     rw[show hasQ q' (k+1) (v,p)=false from hhas]
     rfl
    have hB:=Qaa (sB s b' B) size
    have hB1:=Qaa (sB s (upT b' v p (tryF F B s v p)) B) size
    have hS:=Qaa (scF F (upQ q' (k+1) (v,p))) (k+1+1)
    have hE:=Qac (upQ q' (k+1) (v,p)) (k+1+1)
    have hS0:=Qaa (scF F q') (k+1)
    have hE0:=Qac q' (k+1)
    have hla:=Qah (sL s b' la) size
    have hpa:=Qag (sP s b' pa) size
    have hla1:=Qah (sL s (upT b' v p (tryF F B s v p)) la) size
    have hpa1:=Qag (sP s (upT b' v p (tryF F B s v p)) pa) size
    have hfl:(k+1)≠k0:=by have hm':k≠k0:=hm;have:=Qds lim s v q (k0+1) p;have e2:innK lim s v q (k0+1) p=k+1:=congrArg Prod.snd eA;omega
    by_cases hlast:p=s-2^v
    ·skip
     obtain⟨i1,i6_,i7⟩:=hnx.2 hlast
     rw[i6_,eA2]at hfin
     rw[i7,eB2]at hb1
     obtain⟨f1,f2⟩:=Prod.mk.inj hfin
     have f3:=Nat.succ.inj f2
     subst hb1 f1 f3
     refine .inr ⟨.ret,[18],{sl:=[],os:=ykD cards cs F size lim n (s-2^v) (upQ q' (k+1) (v,p)) s (upT b' v p (tryF F B s v p)) B la pa v .ready (k+1),md:=clM,lg:=[4,5,6,8,9,12,15,16]},[fn 6 (i6 (popc p:Nat)),yes 8,(12,.call ⟨.bool true,ofOs .e 0 (ykD2 cards cs F size lim n (s-2^v) (upQ q' (k+1) (v,p)) s (upT b' v p (tryF F B s v p)) B la pa v .ready (k+1)),19,[4,5,6,8,9,12,17,16]⟩),va 17 (u6 (nxM p (s-2^v):Nat)),va 19 (u6 (0:Nat)),yes 21],1000,by exact .inr (.inl ⟨hfl,rfl,rfl⟩),?_⟩
     rw[i1]at han
     clear hnx h HT
     refine Eq.mp (by kernel_rfl:(let y2:=An [Zz,Sm size,Sm (size-size)];let z0:=upT b' v p (tryF F B s v p);let z1:=ofOs T.e 0 (ykD cards cs F size lim n (s-2^v) q' s b' B la pa v .ready k);let z3:=upQ q' (k+1) (v,p);let z9:=u6 (↑(nxM p (s-2^v)):Int);let y0:=rgT size lim n (s-2^v) s v;let y1:=[u6 ↑p];let z2:=CR.mk (V.bool true) (ofOs T.e 0 (ykD2 cards cs F size lim n (s-2^v) z3 s z0 B la pa v .ready (k+1))) 19 [4,5,6,8,9,12,17,16];let z4:=bF (scF F z3) (k+1+1);let z5:=nF (sL s z0 la) size;let z6:=uF (sP s z0 pa) size;let z7:=bF (sB s z0 B) size;let z8:=entM z3 (k+1+1);An [An [Tt,Tt],FnOk Pg g0 65 y1 (i6 ↑(popc p)),Tt,decide ((↑(popc p):Int)≤(↑lim:Int))=true,CallSpec Pg g0 (V.yld 16) y1 z1 18 z2,An [(V.fn 65 []=V.yld 16→y1=y1→z1=z1→18=18→CR.mk (i6 ↑(popc p)) z1 18 []=z2),Tt],binV (Qad Pg) .sub 28 (u6 ↑p) (u6 ↑(s-2^v))=some z9,binV (Qad Pg) .and 28 z9 (u6 ↑(s-2^v))=some (u6 ↑(0:Nat)),((↑(0:Nat):Int)==(0:Int))=true,Tt,An [Sm [sl cards,gC cs],TT 2],An [Sm [V.nilp],Tt,Tt],An [Sm [V.nils,V.nils],TT 2],An [Sm [i6 0],Tt,Tt],An [z7=z7,HfL z7],An [z8=z8,HfE z8,Sm (k+1+1)],An [An [Sm cards.length,Sm (ints cards)],An [Sm cs.length,Sm (List.map sl cs)],y2,Tt,An [Zz,Sm (Nat.succ k+1),Tt],Tt],An [Zz,Tt],An [z5=z5,HfL z5],An [z6=z6,HfL z6],An [y2,y2,Tt],An [Sm [i6 ↑s],Tt,Tt],An [Sm [V.bool (Qao z0)],Tt,Tt],An [An [Zz,Zz,Zz,Zz,Tt],Tt],An [Sm [i6 ↑v],Tt,Tt],Tt,An [lbO size lim n (s-2^v) s v .ready=O.loop .ready none 0 y0 [62] rgA rgB,LowT 17 y0],An [z4=z4,HfL z4],Tt])=_) ?_
     (repeat'(first|(with_reducible apply And.intro)|(refine fun(_:True)=>?_)))
     all_goals first|(with_reducible exact hsu _ _)|(with_reducible exact han _ _)|exact aq|exact hone|exact hcall|exact hl|exact hB|exact hB1|exact hS|exact hS0|exact hE|exact hE0|exact hla|exact hpa|exact hla1|exact hpa1|exact hsu _ _|exact han _ _|rfl|skip
    ·skip
     obtain⟨i1,i2,i3,i4,i5,i6_,i7⟩:=hnx.1 hlast
     refine .inl ⟨(nxP p (s-2^v),(upQ q' (k+1) (v,p)),(k+1),(upT b' v p (tryF F B s v p)),true),[18],[fn 6 (i6 (popc p:Nat)),yes 8,(12,.call ⟨.bool true,ofOs .e 0 (ykD2 cards cs F size lim n (s-2^v) (upQ q' (k+1) (v,p)) s (upT b' v p (tryF F B s v p)) B la pa v .ready (k+1)),19,[4,5,6,8,9,12,17,16]⟩),va 17 (u6 (nxM p (s-2^v):Nat)),va 19 (u6 (nxP p (s-2^v):Nat)),no 21],1000,⟨i1,i2,by dsimp only;omega,by rw[i6_];exact eA2,by rw[i7];exact eB2,hG2,hfl⟩,by dsimp only;omega,?_⟩
     clear hnx h HT
     refine Eq.mp (by kernel_rfl:(let y4:=An [Zz,Sm size,Sm (size-size)];let z0:=upT b' v p (tryF F B s v p);let z1:=ofOs T.e 0 (ykD cards cs F size lim n (s-2^v) q' s b' B la pa v .ready k);let z3:=upQ q' (k+1) (v,p);let z4:=(↑(nxP p (s-2^v)):Int);let z5:=u6 ↑(s-2^v);let y1:=u6 (↑(nxM p (s-2^v)):Int);let y2:=rgT size lim n (s-2^v) s v;let y3:=[u6 ↑p];let z2:=CR.mk (V.bool true) (ofOs T.e 0 (ykD2 cards cs F size lim n (s-2^v) z3 s z0 B la pa v .ready (k+1))) 19 [4,5,6,8,9,12,17,16];let z6:=bF (scF F z3) (k+1+1);let z7:=nF (sL s z0 la) size;let z8:=uF (sP s z0 pa) size;let z9:=bF (sB s z0 B) size;let y0:=entM z3 (k+1+1);An [An [Tt,Tt],FnOk Pg g0 65 y3 (i6 ↑(popc p)),Tt,decide ((↑(popc p):Int)≤(↑lim:Int))=true,CallSpec Pg g0 (V.yld 16) y3 z1 18 z2,An [(V.fn 65 []=V.yld 16→y3=y3→z1=z1→18=18→CR.mk (i6 ↑(popc p)) z1 18 []=z2),Tt],binV (Qad Pg) .sub 28 (u6 ↑p) z5=some y1,binV (Qad Pg) .and 28 y1 z5=some (u6 z4),(z4==(0:Int))=false,An [Tt,Sm [i6 ↑lim],Sm [z5],z4=z4,Tt],An [Sm [sl cards,gC cs],TT 2],An [Sm [V.nilp],Tt,Tt],An [Sm [V.nils,V.nils],TT 2],An [Sm [i6 0],Tt,Tt],An [z9=z9,HfL z9],An [y0=y0,HfE y0,Sm (k+1+1)],An [An [Sm cards.length,Sm (ints cards)],An [Sm cs.length,Sm (List.map sl cs)],y4,Tt,An [Zz,Sm (Nat.succ k+1),Tt],Tt],An [Zz,Tt],An [z7=z7,HfL z7],An [z8=z8,HfL z8],An [y4,y4,Tt],An [Sm [i6 ↑s],Tt,Tt],An [Sm [V.bool (Qao z0)],Tt,Tt],An [An [Zz,Zz,Zz,Zz,Tt],Tt],An [Sm [i6 ↑v],Tt,Tt],Tt,An [lbO size lim n (s-2^v) s v .ready=O.loop .ready none 0 y2 [62] rgA rgB,LowT 17 y2],An [z6=z6,HfL z6],Tt])=_) ?_
     (repeat'(first|(with_reducible apply And.intro)|(refine fun(_:True)=>?_)))
     all_goals first|(with_reducible exact hsu _ _)|(with_reducible exact han _ _)|exact aq|exact hone|exact hcall|exact hl|exact hB|exact hB1|exact hS|exact hS0|exact hE|exact hE0|exact hla|exact hpa|exact hla1|exact hpa1|exact hsu _ _|exact han _ _|rfl|skip
 ·have ho : ¬ okT lim s v p = true := fun h' => hok ((Qdu hs32 hv5 hvb hp).1 h').2
  have HT:=trivial
  have hcall:=trivial
  have hG2:=hG'
  have eB2:innB lim F B s v b (p+1)=b':=by rw[innB,if_neg ho,eB]
  cases fl with
  | false =>
   have eA2:innA lim s v q (k0+1) (p+1)=(q',k+1):=by rw[innA,if_neg ho,eA]
   have hB:=Qaa (sB s b' B) size
   have hB1:=Qaa (sB s b' B) size
   have hS:=Qaa (scF F q') (k+1)
   have hE:=Qac q' (k+1)
   have hS0:=Qaa (scF F q') (k+1)
   have hE0:=Qac q' (k+1)
   have hla:=Qah (sL s b' la) size
   have hpa:=Qag (sP s b' pa) size
   have hla1:=Qah (sL s b' la) size
   have hpa1:=Qag (sP s b' pa) size
   have hfl:k=k0:=hm
   by_cases hlast:p=s-2^v
   ·skip
    obtain⟨i1,i6_,i7⟩:=hnx.2 hlast
    rw[i6_,eA2]at hfin
    rw[i7,eB2]at hb1
    obtain⟨f1,f2⟩:=Prod.mk.inj hfin
    have f3:=Nat.succ.inj f2
    subst hb1 f1 f3
    refine .inr ⟨.ret,[],{sl:=[],os:=ykB cards cs F size lim n (s-2^v) q' s b' B la pa v .ready k,md:=clM,lg:=[4,5,6,8,9,12,15,16]},[fn 6 (i6 (popc p:Nat)),no 8,va 17 (u6 (nxM p (s-2^v):Nat)),va 19 (u6 (0:Nat)),yes 21],1000,by exact .inl ⟨hfl,rfl,rfl⟩,?_⟩
    rw[i1]at han
    clear hnx h HT
    refine Eq.mp (by kernel_rfl:(let z7:=An [Zz,Sm size,Sm (size-size)];let z0:=bF (scF F q') (k+1);let z1:=nF (sL s b' la) size;let z2:=uF (sP s b' pa) size;let z3:=bF (sB s b' B) size;let z4:=u6 (↑(nxM p (s-2^v)):Int);let z5:=rgT size lim n (s-2^v) s v;let z6:=entM q' (k+1);An [An [Tt,Tt],FnOk Pg g0 65 [u6 ↑p] (i6 ↑(popc p)),Tt,decide ((↑(popc p):Int)≤(↑lim:Int))=false,binV (Qad Pg) .sub 28 (u6 ↑p) (u6 ↑(s-2^v))=some z4,binV (Qad Pg) .and 28 z4 (u6 ↑(s-2^v))=some (u6 ↑(0:Nat)),((↑(0:Nat):Int)==(0:Int))=true,Tt,An [Sm [sl cards,gC cs],TT 2],An [Sm [V.nilp],Tt,Tt],An [Sm [V.nils,V.nils],TT 2],An [Sm [i6 0],Tt,Tt],An [z3=z3,HfL z3],An [z6=z6,HfE z6,Sm (k+1)],An [An [Sm cards.length,Sm (ints cards)],An [Sm cs.length,Sm (List.map sl cs)],z7,Tt,An [Zz,Sm (k+1),Tt],Tt],An [Zz,Tt],An [z1=z1,HfL z1],An [z2=z2,HfL z2],An [z7,z7,Tt],An [Sm [i6 ↑s],Tt,Tt],An [Sm [V.bool (Qao b')],Tt,Tt],An [An [Zz,Zz,Zz,Zz,Tt],Tt],An [Sm [i6 ↑v],Tt,Tt],An [z0=z0,HfL z0],An [lbO size lim n (s-2^v) s v .ready=O.loop .ready none 0 z5 [62] rgA rgB,LowT 17 z5],Tt])=_) ?_
    (repeat'(first|(with_reducible apply And.intro)|(refine fun(_:True)=>?_)))
    all_goals first|(with_reducible exact hsu _ _)|(with_reducible exact han _ _)|exact aq|exact hone|exact hcall|exact hl|exact hB|exact hB1|exact hS|exact hS0|exact hE|exact hE0|exact hla|exact hpa|exact hla1|exact hpa1|exact hsu _ _|exact han _ _|rfl|skip
   ·skip
    obtain⟨i1,i2,i3,i4,i5,i6_,i7⟩:=hnx.1 hlast
    refine .inl ⟨(nxP p (s-2^v),q',k,b',false),[],[fn 6 (i6 (popc p:Nat)),no 8,va 17 (u6 (nxM p (s-2^v):Nat)),va 19 (u6 (nxP p (s-2^v):Nat)),no 21],1000,⟨i1,i2,by dsimp only;omega,by rw[i6_];exact eA2,by rw[i7];exact eB2,hG2,hfl⟩,by dsimp only;omega,?_⟩
    clear hnx h HT
    refine Eq.mp (by kernel_rfl:(let z9:=An [Zz,Sm size,Sm (size-size)];let z0:=(↑(nxP p (s-2^v)):Int);let z1:=u6 ↑(s-2^v);let z2:=bF (scF F q') (k+1);let z3:=nF (sL s b' la) size;let z4:=uF (sP s b' pa) size;let z5:=bF (sB s b' B) size;let z6:=u6 (↑(nxM p (s-2^v)):Int);let z7:=rgT size lim n (s-2^v) s v;let z8:=entM q' (k+1);An [An [Tt,Tt],FnOk Pg g0 65 [u6 ↑p] (i6 ↑(popc p)),Tt,decide ((↑(popc p):Int)≤(↑lim:Int))=false,binV (Qad Pg) .sub 28 (u6 ↑p) z1=some z6,binV (Qad Pg) .and 28 z6 z1=some (u6 z0),(z0==(0:Int))=false,An [Tt,Sm [i6 ↑lim],Sm [z1],z0=z0,Tt],An [Sm [sl cards,gC cs],TT 2],An [Sm [V.nilp],Tt,Tt],An [Sm [V.nils,V.nils],TT 2],An [Sm [i6 0],Tt,Tt],An [z5=z5,HfL z5],An [z8=z8,HfE z8,Sm (k+1)],An [An [Sm cards.length,Sm (ints cards)],An [Sm cs.length,Sm (List.map sl cs)],z9,Tt,An [Zz,Sm (k+1),Tt],Tt],An [Zz,Tt],An [z3=z3,HfL z3],An [z4=z4,HfL z4],An [z9,z9,Tt],An [Sm [i6 ↑s],Tt,Tt],An [Sm [V.bool (Qao b')],Tt,Tt],An [An [Zz,Zz,Zz,Zz,Tt],Tt],An [Sm [i6 ↑v],Tt,Tt],An [z2=z2,HfL z2],An [lbO size lim n (s-2^v) s v .ready=O.loop .ready none 0 z7 [62] rgA rgB,LowT 17 z7],Tt])=_) ?_
    (repeat'(first|(with_reducible apply And.intro)|(refine fun(_:True)=>?_)))
    all_goals first|(with_reducible exact hsu _ _)|(with_reducible exact han _ _)|exact aq|exact hone|exact hcall|exact hl|exact hB|exact hB1|exact hS|exact hS0|exact hE|exact hE0|exact hla|exact hpa|exact hla1|exact hpa1|exact hsu _ _|exact han _ _|rfl|skip
  | true =>
   have eA2:innA lim s v q (k0+1) (p+1)=(q',k+1):=by rw[innA,if_neg ho,eA]
   have hB:=Qaa (sB s b' B) size
   have hB1:=Qaa (sB s b' B) size
   have hS:=Qaa (scF F q') (k+1)
   have hE:=Qac q' (k+1)
   have hS0:=Qaa (scF F q') (k+1)
   have hE0:=Qac q' (k+1)
   have hla:=Qah (sL s b' la) size
   have hpa:=Qag (sP s b' pa) size
   have hla1:=Qah (sL s b' la) size
   have hpa1:=Qag (sP s b' pa) size
   have hfl:k≠k0:=hm
   by_cases hlast:p=s-2^v
   ·skip
    obtain⟨i1,i6_,i7⟩:=hnx.2 hlast
    rw[i6_,eA2]at hfin
    rw[i7,eB2]at hb1
    obtain⟨f1,f2⟩:=Prod.mk.inj hfin
    have f3:=Nat.succ.inj f2
    subst hb1 f1 f3
    refine .inr ⟨.ret,[17],{sl:=[],os:=ykD cards cs F size lim n (s-2^v) q' s b' B la pa v .ready k,md:=clM,lg:=[4,5,6,8,9,12,15,16]},[fn 6 (i6 (popc p:Nat)),no 8,va 17 (u6 (nxM p (s-2^v):Nat)),va 19 (u6 (0:Nat)),yes 21],1000,by exact .inr (.inl ⟨hfl,rfl,rfl⟩),?_⟩
    rw[i1]at han
    clear hnx h HT
    refine Eq.mp (by kernel_rfl:(let z7:=An [Zz,Sm size,Sm (size-size)];let z0:=bF (scF F q') (k+1);let z1:=nF (sL s b' la) size;let z2:=uF (sP s b' pa) size;let z3:=bF (sB s b' B) size;let z4:=u6 (↑(nxM p (s-2^v)):Int);let z5:=rgT size lim n (s-2^v) s v;let z6:=entM q' (k+1);An [An [Tt,Tt],FnOk Pg g0 65 [u6 ↑p] (i6 ↑(popc p)),Tt,decide ((↑(popc p):Int)≤(↑lim:Int))=false,binV (Qad Pg) .sub 28 (u6 ↑p) (u6 ↑(s-2^v))=some z4,binV (Qad Pg) .and 28 z4 (u6 ↑(s-2^v))=some (u6 ↑(0:Nat)),((↑(0:Nat):Int)==(0:Int))=true,Tt,An [Sm [sl cards,gC cs],TT 2],An [Sm [V.nilp],Tt,Tt],An [Sm [V.nils,V.nils],TT 2],An [Sm [i6 0],Tt,Tt],An [z3=z3,HfL z3],An [z6=z6,HfE z6,Sm (k+1)],An [An [Sm cards.length,Sm (ints cards)],An [Sm cs.length,Sm (List.map sl cs)],z7,Tt,An [Zz,Sm (k+1),Tt],Tt],An [Zz,Tt],An [z1=z1,HfL z1],An [z2=z2,HfL z2],An [z7,z7,Tt],An [Sm [i6 ↑s],Tt,Tt],An [Sm [V.bool (Qao b')],Tt,Tt],An [An [Zz,Zz,Zz,Zz,Tt],Tt],An [Sm [i6 ↑v],Tt,Tt],Tt,An [lbO size lim n (s-2^v) s v .ready=O.loop .ready none 0 z5 [62] rgA rgB,LowT 17 z5],An [z0=z0,HfL z0],Tt])=_) ?_
    (repeat'(first|(with_reducible apply And.intro)|(refine fun(_:True)=>?_)))
    all_goals first|(with_reducible exact hsu _ _)|(with_reducible exact han _ _)|exact aq|exact hone|exact hcall|exact hl|exact hB|exact hB1|exact hS|exact hS0|exact hE|exact hE0|exact hla|exact hpa|exact hla1|exact hpa1|exact hsu _ _|exact han _ _|rfl|skip
   ·skip
    obtain⟨i1,i2,i3,i4,i5,i6_,i7⟩:=hnx.1 hlast
    refine .inl ⟨(nxP p (s-2^v),q',k,b',true),[17],[fn 6 (i6 (popc p:Nat)),no 8,va 17 (u6 (nxM p (s-2^v):Nat)),va 19 (u6 (nxP p (s-2^v):Nat)),no 21],1000,⟨i1,i2,by dsimp only;omega,by rw[i6_];exact eA2,by rw[i7];exact eB2,hG2,hfl⟩,by dsimp only;omega,?_⟩
    clear hnx h HT
    refine Eq.mp (by kernel_rfl:(let z9:=An [Zz,Sm size,Sm (size-size)];let z0:=(↑(nxP p (s-2^v)):Int);let z1:=u6 ↑(s-2^v);let z2:=bF (scF F q') (k+1);let z3:=nF (sL s b' la) size;let z4:=uF (sP s b' pa) size;let z5:=bF (sB s b' B) size;let z6:=u6 (↑(nxM p (s-2^v)):Int);let z7:=rgT size lim n (s-2^v) s v;let z8:=entM q' (k+1);An [An [Tt,Tt],FnOk Pg g0 65 [u6 ↑p] (i6 ↑(popc p)),Tt,decide ((↑(popc p):Int)≤(↑lim:Int))=false,binV (Qad Pg) .sub 28 (u6 ↑p) z1=some z6,binV (Qad Pg) .and 28 z6 z1=some (u6 z0),(z0==(0:Int))=false,An [Tt,Sm [i6 ↑lim],Sm [z1],z0=z0,Tt],An [Sm [sl cards,gC cs],TT 2],An [Sm [V.nilp],Tt,Tt],An [Sm [V.nils,V.nils],TT 2],An [Sm [i6 0],Tt,Tt],An [z5=z5,HfL z5],An [z8=z8,HfE z8,Sm (k+1)],An [An [Sm cards.length,Sm (ints cards)],An [Sm cs.length,Sm (List.map sl cs)],z9,Tt,An [Zz,Sm (k+1),Tt],Tt],An [Zz,Tt],An [z3=z3,HfL z3],An [z4=z4,HfL z4],An [z9,z9,Tt],An [Sm [i6 ↑s],Tt,Tt],An [Sm [V.bool (Qao b')],Tt,Tt],An [An [Zz,Zz,Zz,Zz,Tt],Tt],An [Sm [i6 ↑v],Tt,Tt],Tt,An [lbO size lim n (s-2^v) s v .ready=O.loop .ready none 0 z7 [62] rgA rgB,LowT 17 z7],An [z2=z2,HfL z2],Tt])=_) ?_
    (repeat'(first|(with_reducible apply And.intro)|(refine fun(_:True)=>?_)))
    all_goals first|(with_reducible exact hsu _ _)|(with_reducible exact han _ _)|exact aq|exact hone|exact hcall|exact hl|exact hB|exact hB1|exact hS|exact hS0|exact hE|exact hE0|exact hla|exact hpa|exact hla1|exact hpa1|exact hsu _ _|exact han _ _|rfl|skip
set_option maxHeartbeats 4000000
set_option maxRecDepth 100000
section
variable (cards:List Int) (cs:List (List Int)) (F:Nat→Nat→Nat→Int) (size lim n:Nat) (q:Nat→Nat×Nat) (s:Nat) (b:BSt) (B:Nat→Nat→Int) (la pa:Nat→Nat) (v:Nat)
abbrev cmO(hs k:Nat):List O:=[.row 32 none [sl cards,gC cs],.row 153 none [.nilp],.row 77 none [.nils,.nils],.row 36 none [i6 0],.row 41 none (bF (sB s b B) size),.map (entM q k) k,.row 158 none (toC cards cs size 4 5 hs k),.row 153 none [.ptr 6 0],.row 3 none (nF (sL s b la) size),.row 28 none (uF (sP s b pa) size),.row 77 none [.sl 8 0 size (some (size-size)),.sl 9 0 size (some (size-size))],.row 3 none [i6 (s:Nat)],.row 4 none [.bool (Qao b)],.row 184 none [.fn 109 [.ptr 7 0,.ptr 11 0,.ptr 12 0,.ptr 10 0]]]
abbrev vS1(k:Nat):SL:={sl:=clZ size lim n s v,os:=cmO cards cs size q s b B la pa 14 (k+1)++[scO F q k],md:=clM}
abbrev rS0:SL:={sl:=rgZ size lim n (s-2^v) s v,os:=clO cards cs size q s b B la pa v 15 0,md:=clM}
abbrev rS1(k:Nat):SL:={sl:=rgZ size lim n (s-2^v) s v,os:=clO cards cs size q s b B la pa v 15 (k+1)++[scO F q k],md:=clM}
end
theorem parts_A(cards:List Int)(cs:List (List Int))(F:Nat→Nat→Nat→Int)(size lim n:Nat)(q:Nat→Nat×Nat)(s:Nat)(b:BSt)(B:Nat→Nat→Int)(la pa:Nat→Nat)(v:Nat)(h:Qdx cards cs F size lim s v B)(hG:GoodB b)(q1:Nat→Nat×Nat)(k1:Nat)(b1:BSt)(hfin:innA lim s v q 0 (s+1)=(q1,k1+1))(hb1:innB lim F B s v b (s+1)=b1):
  CallSpec Pg g0 (.fn 122 [.imp [i6 (lim:Nat)],.imp [u6 (s-2^v:Nat)]]) [.yld 15] (ofOs .e 0 (ykA cards cs size lim n (s-2^v) q s b B la pa v .ready)) 16 ⟨.tup [],ofOs .e 0 (ykC cards cs F size lim n (s-2^v) q1 s b1 B la pa v .ready k1),17,[4,5,6,8,9,12,15]⟩:=by
 have l:Sat Pg none 16 (at' 122 [1,0]) (mkSt g0 22 (kpaS cards cs F size lim n s B la pa v (0,q,0,b))) (Qaf g0 22 [(True,.ret,{sl:=[],os:=ykC cards cs F size lim n (s-2^v) q1 s b1 B la pa v .ready k1,md:=clM,lg:=[4,5,6,8,9,12,15]})]):=Qmu cards cs F size lim n q s b B la pa v h hG q1 k1 b1 hfin hb1
 have hl:=Qk6 size lim n (s-2^v) s v 16 (by decide)
 have hB:=Qaa (sB s b B) size
 have hB1:=Qaa (sB s b1 B) size
 have hS:=Qaa (scF F q1) (k1+1)
 have hE:=Qac q1 (k1+1)
 have hS0:=Qaa (scF F q) 0
 have hE0:=Qac q 0
 have hla:=Qah (sL s b la) size
 have hpa:=Qag (sP s b pa) size
 have hla1:=Qah (sL s b1 la) size
 have hpa1:=Qag (sP s b1 pa) size
 have hc:=Qae cards
 have hg:=Qar cs
 clear h
 refine CallSpec.caps (caps:=[.imp [i6 (lim:Nat)],.imp [u6 (s-2^v:Nat)]]) (ars:=[.yld 15]) ?_
 refine CallSpec.of_vcH (P:=Pg) (E:=vE) vE_ok mixed Qab (n:=1000) (f:=122) (os0:=ykA cards cs size lim n (s-2^v) q s b B la pa v .ready) (ars:=[.yld 15,.imp [i6 (lim:Nat)],.imp [u6 (s-2^v:Nat)]]) (r:=[16])
  (S := { sl := [], os := ykC cards cs F size lim n (s - 2 ^ v) q1 s b1 B la pa v .ready k1, md := clM, lg := [4, 5, 6, 8, 9, 12, 15] }) (v := .tup []) (hs := [(0, .loop [] (kpaS cards cs F size lim n s B la pa v (0, q, 0, b)) [(True, .ret, { sl := [], os := ykC cards cs F size lim n (s - 2 ^ v) q1 s b1 B la pa v .ready k1, md := clM, lg := [4, 5, 6, 8, 9, 12, 15] })])]) (gl := g0) (by simp) (fun i hi hno => by
   rcases(show i=0∨i=1∨i=2∨i=3∨i=4∨i=5∨i=6∨i=7∨i=8∨i=9∨i=10∨i=11∨i=12∨i=13∨i=14∨i=15 by simp at hi;omega)with rfl|rfl|rfl|rfl|rfl|rfl|rfl|rfl|rfl|rfl|rfl|rfl|rfl|rfl|rfl|rfl<;>first|rfl|(simp at hno)) ?_
 refine Eq.mp (by kernel_rfl:(let y7:=An [Zz,Sm size,Sm (size-size)];let y8:=An [An [Zz,Zz,Zz,Zz,Tt],Tt];let y9:=An [Sm [V.nilp],Tt,Tt];let x0:=An [Sm [i6 0],Tt,Tt];let z0:=rgT size lim n (s-2^v) s v;let z1:=[sl cards,gC cs];let z2:=[V.nils,V.nils];let z3:=bF (scF F q1) (k1+1);let z4:=nF (sL s b1 la) size;let z5:=uF (sP s b1 pa) size;let z6:=List.map sl cs;let z7:=nF (sL s b la) size;let z8:=uF (sP s b pa) size;let z9:=bF (sB s b1 B) size;let y0:=lbO size lim n (s-2^v) s v .ready;let y1:=bF (sB s b B) size;let y3:=entM q1 (k1+1);let y4:=ints cards;let y5:=[i6 ↑s];let y6:=[i6 ↑v];let y2:=O.loop .ready none 0 z0 [62] rgA rgB;An [Sm (V.tup []),An [An [Tt,Sm [i6 ↑lim],Sm [u6 ↑(s-2^v)],(↑(0:Nat):Int)=(0:Int),Tt],An [z1=z1,TT 2],y9,An [z2=z2,TT 2],x0,An [y1=y1,HfL y1],An [Sm (entM q 0),HfE (entM q 0),Zz],An [An [Sm cards.length,y4=y4],An [Sm cs.length,z6=z6],y7,TT 2],An [Zz,Tt],An [z7=z7,HfL z7],An [z8=z8,HfL z8],An [y7,y7,Tt],An [y5=y5,Tt,Tt],An [Sm [V.bool (Qao b)],Tt,Tt],y8,An [y6=y6,Tt,Tt],An [y0=y2,LowT 16 z0],Tt],Sat Pg none 16 (at' 122 [1,0]) (mkSt g0 22 (kpaS cards cs F size lim n s B la pa v (0,q,0,b))) (Qaf g0 22 [(True,Ex.ret,SL.mk [] (ykC cards cs F size lim n (s-2^v) q1 s b1 B la pa v .ready k1) [4,5,6,8,9,12,15] clM)]),(True→An [Tt,An [z1=z1,TT 2],y9,An [z2=z2,TT 2],x0,An [z9=z9,HfL z9],An [y3=y3,HfE y3,Sm (k1+1)],An [An [Sm cards.length,y4=y4],An [Sm cs.length,z6=z6],y7,Tt,An [Zz,Sm (k1+1),Tt],Tt],An [Zz,Tt],An [z4=z4,HfL z4],An [z5=z5,HfL z5],An [y7,y7,Tt],An [y5=y5,Tt,Tt],An [Sm [V.bool (Qao b1)],Tt,Tt],y8,An [y6=y6,Tt,Tt],An [y0=y2,LowT 16 z0],An [z3=z3,HfL z3],Tt]),Tt])=_) ?_
 (repeat'(first|(with_reducible apply And.intro)|(refine fun(_:True)=>?_)))
 all_goals first|exact l|exact aq|exact hl|exact hB|exact hB1|exact hS|exact hS0|exact hE|exact hE0|exact hla|exact hpa|exact hla1|exact hpa1|rfl|skip
theorem parts_B(cards:List Int)(cs:List (List Int))(F:Nat→Nat→Nat→Int)(size lim n:Nat)(q:Nat→Nat×Nat)(s:Nat)(b:BSt)(B:Nat→Nat→Int)(la pa:Nat→Nat)(v:Nat)(k0:Nat)(hk0:k0≤10000)(h:Qdx cards cs F size lim s v B)(hG:GoodB b)(q1:Nat→Nat×Nat)(k1:Nat)(b1:BSt)(hfin:innA lim s v q (k0+1) (s+1)=(q1,k1+1))(hb1:innB lim F B s v b (s+1)=b1)(he:k1=k0):
  CallSpec Pg g0 (.fn 122 [.imp [i6 (lim:Nat)],.imp [u6 (s-2^v:Nat)]]) [.yld 16] (ofOs .e 0 (ykB cards cs F size lim n (s-2^v) q s b B la pa v .ready k0)) 17 ⟨.tup [],ofOs .e 0 (ykB cards cs F size lim n (s-2^v) q1 s b1 B la pa v .ready k1),17,[4,5,6,8,9,12,15,16]⟩:=by
 have l:Sat Pg none 17 (at' 122 [1,0]) (mkSt g0 22 (kpbS cards cs F size lim n s B la pa v (0,q,k0,b,false))) (Qaf g0 22 [(True,.ret,{sl:=[],os:=ykB cards cs F size lim n (s-2^v) q1 s b1 B la pa v .ready k1,md:=clM,lg:=[4,5,6,8,9,12,15,16]})]):=(Qgk cards cs F size lim n q s b B la pa v k0 hk0 h hG q1 k1 b1 hfin hb1).mono (fun e st hh=>by rcases hh with⟨_,h2⟩|⟨h1,_⟩|hh;exact .inl ⟨trivial,h2⟩;exact absurd he h1;exact hh.elim)
 have hl:=Qk6 size lim n (s-2^v) s v 17 (by decide)
 have hB:=Qaa (sB s b B) size
 have hB1:=Qaa (sB s b1 B) size
 have hS:=Qaa (scF F q1) (k1+1)
 have hE:=Qac q1 (k1+1)
 have hS0:=Qaa (scF F q) (k0+1)
 have hE0:=Qac q (k0+1)
 have hla:=Qah (sL s b la) size
 have hpa:=Qag (sP s b pa) size
 have hla1:=Qah (sL s b1 la) size
 have hpa1:=Qag (sP s b1 pa) size
 have hc:=Qae cards
 have hg:=Qar cs
 clear h
 refine CallSpec.caps (caps:=[.imp [i6 (lim:Nat)],.imp [u6 (s-2^v:Nat)]]) (ars:=[.yld 16]) ?_
 refine CallSpec.of_vcH (P:=Pg) (E:=vE) vE_ok mixed Qab (n:=1000) (f:=122) (os0:=ykB cards cs F size lim n (s-2^v) q s b B la pa v .ready k0) (ars:=[.yld 16,.imp [i6 (lim:Nat)],.imp [u6 (s-2^v:Nat)]]) (r:=[])
  (S := { sl := [], os := ykB cards cs F size lim n (s - 2 ^ v) q1 s b1 B la pa v .ready k1, md := clM, lg := [4, 5, 6, 8, 9, 12, 15, 16] }) (v := .tup []) (hs := [(0, .loop [] (kpbS cards cs F size lim n s B la pa v (0, q, k0, b, false)) [(True, .ret, { sl := [], os := ykB cards cs F size lim n (s - 2 ^ v) q1 s b1 B la pa v .ready k1, md := clM, lg := [4, 5, 6, 8, 9, 12, 15, 16] })])]) (gl := g0) (by simp) (fun i hi hno => by
   rcases(show i=0∨i=1∨i=2∨i=3∨i=4∨i=5∨i=6∨i=7∨i=8∨i=9∨i=10∨i=11∨i=12∨i=13∨i=14∨i=15∨i=16 by simp at hi;omega)with rfl|rfl|rfl|rfl|rfl|rfl|rfl|rfl|rfl|rfl|rfl|rfl|rfl|rfl|rfl|rfl|rfl<;>first|rfl|(simp at hno)) ?_
 refine Eq.mp (by kernel_rfl:(let y9:=An [Zz,Sm size,Sm (size-size)];let x0:=An [An [Zz,Zz,Zz,Zz,Tt],Tt];let x1:=An [Sm [V.nilp],Tt,Tt];let x2:=An [Sm [i6 0],Tt,Tt];let z0:=rgT size lim n (s-2^v) s v;let z1:=[sl cards,gC cs];let z2:=[V.nils,V.nils];let z3:=bF (scF F q1) (k1+1);let z4:=bF (scF F q) (k0+1);let z5:=nF (sL s b1 la) size;let z6:=uF (sP s b1 pa) size;let z7:=List.map sl cs;let z8:=nF (sL s b la) size;let z9:=uF (sP s b pa) size;let y0:=bF (sB s b1 B) size;let y1:=lbO size lim n (s-2^v) s v .ready;let y2:=bF (sB s b B) size;let y4:=entM q1 (k1+1);let y5:=entM q (k0+1);let y6:=ints cards;let y7:=[i6 ↑s];let y8:=[i6 ↑v];let y3:=O.loop .ready none 0 z0 [62] rgA rgB;An [Sm (V.tup []),An [An [Tt,Sm [i6 ↑lim],Sm [u6 ↑(s-2^v)],(↑(0:Nat):Int)=(0:Int),Tt],An [z1=z1,TT 2],x1,An [z2=z2,TT 2],x2,An [y2=y2,HfL y2],An [y5=y5,HfE y5,Sm (k0+1)],An [An [Sm cards.length,y6=y6],An [Sm cs.length,z7=z7],y9,Tt,An [Zz,Sm (k0+1),Tt],Tt],An [Zz,Tt],An [z8=z8,HfL z8],An [z9=z9,HfL z9],An [y9,y9,Tt],An [y7=y7,Tt,Tt],An [Sm [V.bool (Qao b)],Tt,Tt],x0,An [y8=y8,Tt,Tt],An [z4=z4,HfL z4],An [y1=y3,LowT 17 z0],Tt],Sat Pg none 17 (at' 122 [1,0]) (mkSt g0 22 (kpbS cards cs F size lim n s B la pa v (0,q,k0,b,false))) (Qaf g0 22 [(True,Ex.ret,SL.mk [] (ykB cards cs F size lim n (s-2^v) q1 s b1 B la pa v .ready k1) [4,5,6,8,9,12,15,16] clM)]),(True→An [Tt,An [z1=z1,TT 2],x1,An [z2=z2,TT 2],x2,An [y0=y0,HfL y0],An [y4=y4,HfE y4,Sm (k1+1)],An [An [Sm cards.length,y6=y6],An [Sm cs.length,z7=z7],y9,Tt,An [Zz,Sm (k1+1),Tt],Tt],An [Zz,Tt],An [z5=z5,HfL z5],An [z6=z6,HfL z6],An [y9,y9,Tt],An [y7=y7,Tt,Tt],An [Sm [V.bool (Qao b1)],Tt,Tt],x0,An [y8=y8,Tt,Tt],An [z3=z3,HfL z3],An [y1=y3,LowT 17 z0],Tt]),Tt])=_) ?_
 (repeat'(first|(with_reducible apply And.intro)|(refine fun(_:True)=>?_)))
 all_goals first|exact l|exact aq|exact hl|exact hB|exact hB1|exact hS|exact hS0|exact hE|exact hE0|exact hla|exact hpa|exact hla1|exact hpa1|rfl|skip
theorem parts_D(cards:List Int)(cs:List (List Int))(F:Nat→Nat→Nat→Int)(size lim n:Nat)(q:Nat→Nat×Nat)(s:Nat)(b:BSt)(B:Nat→Nat→Int)(la pa:Nat→Nat)(v:Nat)(k0:Nat)(hk0:k0≤10000)(h:Qdx cards cs F size lim s v B)(hG:GoodB b)(q1:Nat→Nat×Nat)(k1:Nat)(b1:BSt)(hfin:innA lim s v q (k0+1) (s+1)=(q1,k1+1))(hb1:innB lim F B s v b (s+1)=b1)(he:k1≠k0):
  CallSpec Pg g0 (.fn 122 [.imp [i6 (lim:Nat)],.imp [u6 (s-2^v:Nat)]]) [.yld 16] (ofOs .e 0 (ykB cards cs F size lim n (s-2^v) q s b B la pa v .ready k0)) 17 ⟨.tup [],ofOs .e 0 (ykD cards cs F size lim n (s-2^v) q1 s b1 B la pa v .ready k1),18,[4,5,6,8,9,12,15,16]⟩:=by
 have l:Sat Pg none 17 (at' 122 [1,0]) (mkSt g0 22 (kpbS cards cs F size lim n s B la pa v (0,q,k0,b,false))) (Qaf g0 22 [(True,.ret,{sl:=[],os:=ykD cards cs F size lim n (s-2^v) q1 s b1 B la pa v .ready k1,md:=clM,lg:=[4,5,6,8,9,12,15,16]})]):=(Qgk cards cs F size lim n q s b B la pa v k0 hk0 h hG q1 k1 b1 hfin hb1).mono (fun e st hh=>by rcases hh with⟨h1,_⟩|⟨_,h2⟩|hh;exact absurd h1 he;exact .inl ⟨trivial,h2⟩;exact hh.elim)
 have hl:=Qk6 size lim n (s-2^v) s v 17 (by decide)
 have hB:=Qaa (sB s b B) size
 have hB1:=Qaa (sB s b1 B) size
 have hS:=Qaa (scF F q1) (k1+1)
 have hE:=Qac q1 (k1+1)
 have hS0:=Qaa (scF F q) (k0+1)
 have hE0:=Qac q (k0+1)
 have hla:=Qah (sL s b la) size
 have hpa:=Qag (sP s b pa) size
 have hla1:=Qah (sL s b1 la) size
 have hpa1:=Qag (sP s b1 pa) size
 have hc:=Qae cards
 have hg:=Qar cs
 clear h
 refine CallSpec.caps (caps:=[.imp [i6 (lim:Nat)],.imp [u6 (s-2^v:Nat)]]) (ars:=[.yld 16]) ?_
 refine CallSpec.of_vcH (P:=Pg) (E:=vE) vE_ok mixed Qab (n:=1000) (f:=122) (os0:=ykB cards cs F size lim n (s-2^v) q s b B la pa v .ready k0) (ars:=[.yld 16,.imp [i6 (lim:Nat)],.imp [u6 (s-2^v:Nat)]]) (r:=[17])
  (S := { sl := [], os := ykD cards cs F size lim n (s - 2 ^ v) q1 s b1 B la pa v .ready k1, md := clM, lg := [4, 5, 6, 8, 9, 12, 15, 16] }) (v := .tup []) (hs := [(0, .loop [] (kpbS cards cs F size lim n s B la pa v (0, q, k0, b, false)) [(True, .ret, { sl := [], os := ykD cards cs F size lim n (s - 2 ^ v) q1 s b1 B la pa v .ready k1, md := clM, lg := [4, 5, 6, 8, 9, 12, 15, 16] })])]) (gl := g0) (by simp) (fun i hi hno => by
   rcases(show i=0∨i=1∨i=2∨i=3∨i=4∨i=5∨i=6∨i=7∨i=8∨i=9∨i=10∨i=11∨i=12∨i=13∨i=14∨i=15∨i=16 by simp at hi;omega)with rfl|rfl|rfl|rfl|rfl|rfl|rfl|rfl|rfl|rfl|rfl|rfl|rfl|rfl|rfl|rfl|rfl<;>first|rfl|(simp at hno)) ?_
 refine Eq.mp (by kernel_rfl:(let y9:=An [Zz,Sm size,Sm (size-size)];let x0:=An [An [Zz,Zz,Zz,Zz,Tt],Tt];let x1:=An [Sm [V.nilp],Tt,Tt];let x2:=An [Sm [i6 0],Tt,Tt];let z0:=rgT size lim n (s-2^v) s v;let z1:=[sl cards,gC cs];let z2:=[V.nils,V.nils];let z3:=bF (scF F q1) (k1+1);let z4:=bF (scF F q) (k0+1);let z5:=nF (sL s b1 la) size;let z6:=uF (sP s b1 pa) size;let z7:=List.map sl cs;let z8:=nF (sL s b la) size;let z9:=uF (sP s b pa) size;let y0:=bF (sB s b1 B) size;let y1:=lbO size lim n (s-2^v) s v .ready;let y2:=bF (sB s b B) size;let y4:=entM q1 (k1+1);let y5:=entM q (k0+1);let y6:=ints cards;let y7:=[i6 ↑s];let y8:=[i6 ↑v];let y3:=O.loop .ready none 0 z0 [62] rgA rgB;An [Sm (V.tup []),An [An [Tt,Sm [i6 ↑lim],Sm [u6 ↑(s-2^v)],(↑(0:Nat):Int)=(0:Int),Tt],An [z1=z1,TT 2],x1,An [z2=z2,TT 2],x2,An [y2=y2,HfL y2],An [y5=y5,HfE y5,Sm (k0+1)],An [An [Sm cards.length,y6=y6],An [Sm cs.length,z7=z7],y9,Tt,An [Zz,Sm (k0+1),Tt],Tt],An [Zz,Tt],An [z8=z8,HfL z8],An [z9=z9,HfL z9],An [y9,y9,Tt],An [y7=y7,Tt,Tt],An [Sm [V.bool (Qao b)],Tt,Tt],x0,An [y8=y8,Tt,Tt],An [z4=z4,HfL z4],An [y1=y3,LowT 17 z0],Tt],Sat Pg none 17 (at' 122 [1,0]) (mkSt g0 22 (kpbS cards cs F size lim n s B la pa v (0,q,k0,b,false))) (Qaf g0 22 [(True,Ex.ret,SL.mk [] (ykD cards cs F size lim n (s-2^v) q1 s b1 B la pa v .ready k1) [4,5,6,8,9,12,15,16] clM)]),(True→An [Tt,An [z1=z1,TT 2],x1,An [z2=z2,TT 2],x2,An [y0=y0,HfL y0],An [y4=y4,HfE y4,Sm (k1+1)],An [An [Sm cards.length,y6=y6],An [Sm cs.length,z7=z7],y9,Tt,An [Zz,Sm (k1+1),Tt],Tt],An [Zz,Tt],An [z5=z5,HfL z5],An [z6=z6,HfL z6],An [y9,y9,Tt],An [y7=y7,Tt,Tt],An [Sm [V.bool (Qao b1)],Tt,Tt],x0,An [y8=y8,Tt,Tt],Tt,An [y1=y3,LowT 17 z0],An [z3=z3,HfL z3],Tt]),Tt])=_) ?_
 (repeat'(first|(with_reducible apply And.intro)|(refine fun(_:True)=>?_)))
 all_goals first|exact l|exact aq|exact hl|exact hB|exact hB1|exact hS|exact hS0|exact hE|exact hE0|exact hla|exact hpa|exact hla1|exact hpa1|rfl|skip
theorem range_A(cards:List Int)(cs:List (List Int))(F:Nat→Nat→Nat→Int)(size lim n:Nat)(q:Nat→Nat×Nat)(s:Nat)(b:BSt)(B:Nat→Nat→Int)(la pa:Nat→Nat)(v:Nat)(h:Qdx cards cs F size lim s v B)(hG:GoodB b)(q1:Nat→Nat×Nat)(k1:Nat)(b1:BSt)(hfin:innA lim s v q 0 (s+1)=(q1,k1+1))(hb1:innB lim F B s v b (s+1)=b1):
  Sat Pg none 0 rgC (mkSt g0 75 (rS0 cards cs size lim n q s b B la pa v)) (Qaf g0 75 [(True,.normal,vS1 cards cs F size lim n q1 s b1 B la pa v k1)]):=by
 rw[rg_eq]
 have hB:=Qaa (sB s b B) size
 have hB1:=Qaa (sB s b1 B) size
 have hS:=Qaa (scF F q1) (k1+1)
 have hE:=Qac q1 (k1+1)
 have hS0:=Qaa (scF F q) 0
 have hE0:=Qac q 0
 have hla:=Qah (sL s b la) size
 have hpa:=Qag (sP s b pa) size
 have hla1:=Qah (sL s b1 la) size
 have hpa1:=Qag (sP s b1 pa) size
 have hc:=Qae cards
 have hg:=Qar cs
 have hcall:=parts_A cards cs F size lim n q s b B la pa v h hG q1 k1 b1 hfin hb1
 clear h
 refine Sat.rangeC (gl:=g0) (r:=[0,1,2,3,4,5,6,7,8,9,10,11,12,13,16]) (S:=rS0 cards cs size lim n q s b B la pa v) (f:=122) (caps:=[.imp [i6 (lim:Nat)],.imp [u6 (s-2^v:Nat)]]) (H1:=ofOs .e 0 (ykC cards cs F size lim n (s-2^v) q1 s b1 B la pa v .ready k1)) (nx1:=17) (v:=.tup []) rfl rfl hcall (by kernel_rfl) ?_
 refine Eq.mp (by kernel_rfl:(let z6:=An [Zz,Sm size,Sm (size-size)];let z0:=bF (scF F q1) (k1+1);let z1:=(↑size:Int);let z2:=nF (sL s b1 la) size;let z3:=uF (sP s b1 pa) size;let z4:=bF (sB s b1 B) size;let z5:=entM q1 (k1+1);An [An [Sm (↑lim:Int),Zz,Zz,Zz,Zz,z1=z1,Zz,Zz,Zz,Zz,Zz,z1=z1,Sm (↑s:Int),Sm (↑n:Int),Sm (↑v:Int),Tt],An [Sm [sl cards,gC cs],TT 2],An [Sm [V.nilp],Tt,Tt],An [Sm [V.nils,V.nils],TT 2],An [Sm [i6 0],Tt,Tt],An [z4=z4,HfL z4],An [z5=z5,HfE z5,Sm (k1+1)],An [An [Sm cards.length,Sm (ints cards)],An [Sm cs.length,Sm (List.map sl cs)],z6,Tt,An [Zz,Sm (k1+1),Tt],Tt],An [Zz,Tt],An [z2=z2,HfL z2],An [z3=z3,HfL z3],An [z6,z6,Tt],An [Sm [i6 ↑s],Tt,Tt],An [Sm [V.bool (Qao b1)],Tt,Tt],An [An [Zz,Zz,Zz,Zz,Tt],Tt],An [z0=z0,HfL z0],Tt])=_) ?_
 (repeat'(first|(with_reducible apply And.intro)|(refine fun(_:True)=>?_)))
 all_goals first|exact aq|exact hl|exact hB|exact hB1|exact hS|exact hS0|exact hE|exact hE0|exact hla|exact hpa|exact hla1|exact hpa1|rfl|skip
theorem range_B(cards:List Int)(cs:List (List Int))(F:Nat→Nat→Nat→Int)(size lim n:Nat)(q:Nat→Nat×Nat)(s:Nat)(b:BSt)(B:Nat→Nat→Int)(la pa:Nat→Nat)(v:Nat)(k0:Nat)(hk0:k0≤10000)(h:Qdx cards cs F size lim s v B)(hG:GoodB b)(q1:Nat→Nat×Nat)(k1:Nat)(b1:BSt)(hfin:innA lim s v q (k0+1) (s+1)=(q1,k1+1))(hb1:innB lim F B s v b (s+1)=b1):
  Sat Pg none 0 rgC (mkSt g0 75 (rS1 cards cs F size lim n q s b B la pa v k0)) (Qaf g0 75 [(True,.normal,vS1 cards cs F size lim n q1 s b1 B la pa v k1)]):=by
 rw[rg_eq]
 have hB:=Qaa (sB s b B) size
 have hB1:=Qaa (sB s b1 B) size
 have hS:=Qaa (scF F q1) (k1+1)
 have hE:=Qac q1 (k1+1)
 have hS0:=Qaa (scF F q) (k0+1)
 have hE0:=Qac q (k0+1)
 have hla:=Qah (sL s b la) size
 have hpa:=Qag (sP s b pa) size
 have hla1:=Qah (sL s b1 la) size
 have hpa1:=Qag (sP s b1 pa) size
 have hc:=Qae cards
 have hg:=Qar cs
 by_cases he:k1=k0
 ·skip
  have hcall:=parts_B cards cs F size lim n q s b B la pa v k0 hk0 h hG q1 k1 b1 hfin hb1 he
  clear h
  refine Sat.rangeC (gl:=g0) (r:=[0,1,2,3,4,5,6,7,8,9,10,11,12,13,15]) (S:=rS1 cards cs F size lim n q s b B la pa v k0) (f:=122) (caps:=[.imp [i6 (lim:Nat)],.imp [u6 (s-2^v:Nat)]]) (H1:=ofOs .e 0 (ykB cards cs F size lim n (s-2^v) q1 s b1 B la pa v .ready k1)) (nx1:=17) (v:=.tup []) rfl rfl hcall (by kernel_rfl) ?_
  refine Eq.mp (by kernel_rfl:(let z6:=An [Zz,Sm size,Sm (size-size)];let z0:=bF (scF F q1) (k1+1);let z1:=(↑size:Int);let z2:=nF (sL s b1 la) size;let z3:=uF (sP s b1 pa) size;let z4:=bF (sB s b1 B) size;let z5:=entM q1 (k1+1);An [An [Sm (↑lim:Int),Zz,Zz,Zz,Zz,z1=z1,Zz,Zz,Zz,Zz,Zz,z1=z1,Sm (↑s:Int),Sm (↑n:Int),Sm (↑v:Int),Tt],An [Sm [sl cards,gC cs],TT 2],An [Sm [V.nilp],Tt,Tt],An [Sm [V.nils,V.nils],TT 2],An [Sm [i6 0],Tt,Tt],An [z4=z4,HfL z4],An [z5=z5,HfE z5,Sm (k1+1)],An [An [Sm cards.length,Sm (ints cards)],An [Sm cs.length,Sm (List.map sl cs)],z6,Tt,An [Zz,Sm (k1+1),Tt],Tt],An [Zz,Tt],An [z2=z2,HfL z2],An [z3=z3,HfL z3],An [z6,z6,Tt],An [Sm [i6 ↑s],Tt,Tt],An [Sm [V.bool (Qao b1)],Tt,Tt],An [An [Zz,Zz,Zz,Zz,Tt],Tt],An [z0=z0,HfL z0],Tt])=_) ?_
  (repeat'(first|(with_reducible apply And.intro)|(refine fun(_:True)=>?_)))
  all_goals first|exact aq|exact hl|exact hB|exact hB1|exact hS|exact hS0|exact hE|exact hE0|exact hla|exact hpa|exact hla1|exact hpa1|rfl|skip
 ·skip
  have hcall:=parts_D cards cs F size lim n q s b B la pa v k0 hk0 h hG q1 k1 b1 hfin hb1 he
  clear h
  refine Sat.rangeC (gl:=g0) (r:=[0,1,2,3,4,5,6,7,8,9,10,11,12,13,17]) (S:=rS1 cards cs F size lim n q s b B la pa v k0) (f:=122) (caps:=[.imp [i6 (lim:Nat)],.imp [u6 (s-2^v:Nat)]]) (H1:=ofOs .e 0 (ykD cards cs F size lim n (s-2^v) q1 s b1 B la pa v .ready k1)) (nx1:=18) (v:=.tup []) rfl rfl hcall (by kernel_rfl) ?_
  refine Eq.mp (by kernel_rfl:(let z6:=An [Zz,Sm size,Sm (size-size)];let z0:=bF (scF F q1) (k1+1);let z1:=(↑size:Int);let z2:=nF (sL s b1 la) size;let z3:=uF (sP s b1 pa) size;let z4:=bF (sB s b1 B) size;let z5:=entM q1 (k1+1);An [An [Sm (↑lim:Int),Zz,Zz,Zz,Zz,z1=z1,Zz,Zz,Zz,Zz,Zz,z1=z1,Sm (↑s:Int),Sm (↑n:Int),Sm (↑v:Int),Tt],An [Sm [sl cards,gC cs],TT 2],An [Sm [V.nilp],Tt,Tt],An [Sm [V.nils,V.nils],TT 2],An [Sm [i6 0],Tt,Tt],An [z4=z4,HfL z4],An [z5=z5,HfE z5,Sm (k1+1)],An [An [Sm cards.length,Sm (ints cards)],An [Sm cs.length,Sm (List.map sl cs)],z6,Tt,An [Zz,Sm (k1+1),Tt],Tt],An [Zz,Tt],An [z2=z2,HfL z2],An [z3=z3,HfL z3],An [z6,z6,Tt],An [Sm [i6 ↑s],Tt,Tt],An [Sm [V.bool (Qao b1)],Tt,Tt],An [An [Zz,Zz,Zz,Zz,Tt],Tt],An [z0=z0,HfL z0],Tt])=_) ?_
  (repeat'(first|(with_reducible apply And.intro)|(refine fun(_:True)=>?_)))
  all_goals first|exact aq|exact hl|exact hB|exact hB1|exact hS|exact hS0|exact hE|exact hE0|exact hla|exact hpa|exact hla1|exact hpa1|rfl|skip
set_option maxHeartbeats 4000000
set_option maxRecDepth 100000
theorem parts_fn(w lim:Nat):FnOk Pg g0 110 [u6 (w:Nat),i6 (lim:Nat)] (.fn 122 [.imp [i6 (lim:Nat)],.imp [u6 (w:Nat)]]):=by
 refine FnOk.of_vc vE_ok mixed Qab (n:=1000) (r:=[]) (S:={sl:=[(4,.fn 122 [.imp [i6 (lim:Nat)],.imp [u6 (w:Nat)]])]}) (hs:=[]) ?_
 refine Eq.mp (by kernel_rfl:(An [Sm (V.fn 122 [V.imp [i6 ↑lim],V.imp [u6 ↑w]]),An [An [An [Sm [i6 ↑lim],Tt,Tt],An [Sm [u6 ↑w],Tt,Tt],Tt],Tt],Tt])=_) ?_
 (repeat'(first|(with_reducible apply And.intro)|(refine fun(_:True)=>?_)))
 all_goals first|exact aq|rfl|skip
theorem bit_i: ∀s:Nat,s<32→∀v:Nat,v<5→∀b:Nat,b<2→(s.testBit v=decide (b=1)→IntKind.i64.wrap ((BitVec.ofInt 64 ((s/2^v:Nat):Int)&&& BitVec.ofInt 64 1).toNat:Int)=(b:Int)):=by decide+kernel
theorem rm_i: ∀s:Nat,s<32→∀v:Nat,v<5→(s.testBit v=true→IntKind.u64.wrap ((BitVec.ofInt 64 (s:Int)&&& ~~~ BitVec.ofInt 64 ((2^v:Nat):Int)).toNat:Int)=((s-2^v:Nat):Int)):=by decide+kernel
theorem rm_j: ∀s:Nat,s<32→∀v:Nat,v<5→(s.testBit v=true→IntKind.i64.wrap ((BitVec.ofInt 64 (s:Int)&&& ~~~ BitVec.ofInt 64 ((2^v:Nat):Int)).toNat:Int)=((s-2^v:Nat):Int)):=by decide+kernel
theorem shl_all: ∀v:Nat,v<16→wr .i64 (1*((2^min ((v:Nat):Int).toNat IntKind.i64.bits:Nat):Int))=((2^v:Nat):Int):=by decide+kernel
theorem shr_i{G:Ctx}{t:Nat}{x k:Nat}(hk:k≤64):binV G .shr t (i6 (x:Int)) (i6 (k:Int))=some (i6 ((x/2^k:Nat):Int)):=by
 have h1:((k:Int)<0)=False:=by simp
 have h2:min k 64=k:=by omega
 simp only[binV,intV,h1,if_false,Int.toNat_natCast,IntKind.bits,h2]
 rw[Int.fdiv_eq_ediv_of_nonneg _ (Int.natCast_nonneg _)]
 rfl
theorem Qnp{G:Ctx}{t s v b:Nat}(hs:s<32)(hv:v<5)(hb:b<2)(h:s.testBit v=decide (b=1)):binV G .and t (i6 ((s/2^v:Nat):Int)) (i6 1)=some (i6 (b:Int)):=by
 have e:binV G .and t (i6 ((s/2^v:Nat):Int)) (i6 1)=some (.int .i64 (IntKind.i64.wrap ((BitVec.ofInt 64 ((s/2^v:Nat):Int)&&& BitVec.ofInt 64 1).toNat:Int))):=rfl
 rw[e,bit_i s hs v hv b hb h]
theorem andn_u{G:Ctx}{t s v:Nat}(hs:s<32)(hv:v<5)(h:s.testBit v=true):binV G .andNot t (u6 (s:Int)) (u6 ((2^v:Nat):Int))=some (u6 ((s-2^v:Nat):Int)):=by
 have e:binV G .andNot t (u6 (s:Int)) (u6 ((2^v:Nat):Int))=some (.int .u64 (IntKind.u64.wrap ((BitVec.ofInt 64 (s:Int)&&& ~~~ BitVec.ofInt 64 ((2^v:Nat):Int)).toNat:Int))):=rfl
 rw[e,rm_i s hs v hv h]
theorem Qq7{G:Ctx}{t s v:Nat}(hs:s<32)(hv:v<5)(h:s.testBit v=true):binV G .andNot t (i6 (s:Int)) (i6 ((2^v:Nat):Int))=some (i6 ((s-2^v:Nat):Int)):=by
 have e:binV G .andNot t (i6 (s:Int)) (i6 ((2^v:Nat):Int))=some (.int .i64 (IntKind.i64.wrap ((BitVec.ofInt 64 (s:Int)&&& ~~~ BitVec.ofInt 64 ((2^v:Nat):Int)).toNat:Int))):=rfl
 rw[e,rm_j s hs v hv h]
theorem shl_allu: ∀v:Nat,v<16→wr .u64 (1*((2^min ((v:Nat):Int).toNat IntKind.u64.bits:Nat):Int))=((2^v:Nat):Int):=by decide+kernel
theorem shl1_w{G:Ctx}{t v:Nat}(hv:v<16):binV G .shl t (u6 1) (i6 (v:Int))=some (u6 ((2^v:Nat):Int)):=by
 have e:binV G .shl t (u6 1) (i6 (v:Int))=if((v:Nat):Int)<0 then none else some (.int .u64 (wr .u64 (1*((2^min ((v:Nat):Int).toNat IntKind.u64.bits:Nat):Int)))):=rfl
 rw[e,if_neg (by omega),shl_allu v hv]
theorem Qlp{G:Ctx}{t v:Nat}(hv:v<16):binV G .shl t (i6 1) (i6 (v:Int))=some (i6 ((2^v:Nat):Int)):=by
 have e:binV G .shl t (i6 1) (i6 (v:Int))=if((v:Nat):Int)<0 then none else some (.int .i64 (wr .i64 (1*((2^min ((v:Nat):Int).toNat IntKind.i64.bits:Nat):Int)))):=rfl
 rw[e,if_neg (by omega),shl_all v hv]
section
variable (lim s:Nat) (q:Nat→Nat×Nat) (k:Nat)
def outA:Nat→(Nat→Nat×Nat)×Nat
 |0=>(q,k)
 |v+1=>if s.testBit v then innA lim s v (outA v).1 (outA v).2 (s+1)else outA v
end
theorem Qgj(lim s:Nat)(q:Nat→Nat×Nat)(k:Nat): ∀n,k≤(outA lim s q k n).2∧(outA lim s q k n).2≤k+n*(s+1)
 |0=>⟨Nat.le_refl _,by show k≤_;omega⟩
 | n + 1 => by
  have ih:=Qgj lim s q k n
  rw[outA,Nat.succ_mul]
  split
  ·have := Qds lim s n (outA lim s q k n).1 (outA lim s q k n).2 (s + 1)
   unfold innK at this
   omega
  ·omega
theorem Qdz{lim:Nat}{F:Nat→Nat→Nat→Int}{B:Nat→Nat→Int}{s v:Nat}{b:BSt}(hb: ∀p,inB (tryF F B s v p) 1000)(h:GoodB b): ∀k,GoodB (innB lim F B s v b k)
 |0=>h
 |k+1=>by
  rw[innB]
  split
  ·exact(Qdz hb h k).up (hb k)
  ·exact Qdz hb h k
theorem Qpl:GoodB none:=fun _ _ _ h=>by cases h
section
variable (cards:List Int) (cs:List (List Int)) (F:Nat→Nat→Nat→Int) (size lim n:Nat) (s:Nat) (B:Nat→Nat→Int) (la pa:Nat→Nat)
abbrev vSx(x:Nat×(Nat→Nat×Nat)×Nat×BSt):SL:={sl:=clZ size lim n s x.1,os:=match x.2.2.1 with|0=>cmO cards cs size x.2.1 s x.2.2.2 B la pa 14 0|k+1=>cmO cards cs size x.2.1 s x.2.2.2 B la pa 14 (k+1)++[scO F x.2.1 k],md:=clM}
end
theorem Ql9(cards:List Int)(cs:List (List Int))(F:Nat→Nat→Nat→Int)(size lim n:Nat)(s:Nat)(B:Nat→Nat→Int)(la pa:Nat→Nat)(hn:n≤5)(hs:s<32)(h: ∀v,v<n→s.testBit v=true→Qdx cards cs F size lim s v B)
  (q0:Nat→Nat×Nat)(k0:Nat)(hk0:k0≤5000)(q1:Nat→Nat×Nat)(k1:Nat)(b1:BSt)(hA:outA lim s q0 k0 n=(q1,k1))(hB:outB lim F B s n=b1):
  Sat Pg none 0 (at' 88 [1,1,1,1,1,0,1,0,0,1,1,0,0,1,1,1,1,0]) (mkSt g0 75 (vSx cards cs F size lim n s B la pa (0,q0,k0,none))) (Qaf g0 75 [(True,.exit 2,vSx cards cs F size lim n s B la pa (n,q1,k1,b1))]):=by
 have hc:=Qae cards
 have hg:=Qar cs
 have hla:=fun b=>Qah (sL s b la) size
 have hpa:=fun b=>Qag (sP s b pa) size
 have hBB:=fun b=>Qaa (sB s b B) size
 have hEE:=fun q k=>Qac q k
 have hSS:=fun q k=>Qaa (scF F q) k
 refine Qaz vE_ok mixed Qab (b:=at' 88 [1,1,1,1,1,0,1,0,0,1,1,0,0,1,1,1,1,0,0]) (by kernel_rfl) (fun x=>x.1≤n∧outA lim s q0 k0 x.1=(x.2.1,x.2.2.1)∧outB lim F B s x.1=x.2.2.2∧GoodB x.2.2.2) (vSx cards cs F size lim n s B la pa) (fun x=>n-x.1) (fun x hx=>?_) (0,q0,k0,none) ⟨Nat.zero_le _,rfl,rfl,Qpl⟩
 obtain⟨v,q,k,b⟩:=x
 obtain⟨hv,eA,eB,hG⟩:=hx
 dsimp only at hv eA eB hG
 have hkb:=(Qgj lim s q0 k0 v).2
 rw[eA]at hkb
 have hk:k≤10000:=by
  have:v*(s+1)≤5*32:=Nat.mul_le_mul (by omega) (by omega)
  dsimp only at hkb
  omega
 clear hkb
 by_cases hlt:v<n
 ·have hv5 : v < 5 := by omega
  have hsh:=fun G t=>@shr_i G t s v (by omega)
  cases hbit:s.testBit v with
  | false =>
   have eA2:outA lim s q0 k0 (v+1)=(q,k):=by rw[outA,if_neg (by rw[hbit];decide),eA]
   have eB2:outB lim F B s (v+1)=b:=by rw[outB,if_neg (by rw[hbit];decide),eB]
   have han:=fun G t=>@Qnp G t s v 0 hs hv5 (by decide) hbit
   clear h
   cases k with
   |zero=>
    skip
    refine .inl ⟨(v+1,q,_,b),[0,1,2,3,4,5,6,7,8,9,10,11,12,13],[yes 48,va 52 (i6 ((s/2^v:Nat):Int)),va 53 (i6 0),yes 54,nu 71 ((v+1:Nat):Int)],1000,⟨hlt,eA2,eB2,hG⟩,by dsimp only;omega,?_⟩
    refine Eq.mp (by kernel_rfl:(let z6:=An [Zz,Sm size,Sm (size-size)];let z0:=(↑size:Int);let z1:=nF (sL s b la) size;let z2:=uF (sP s b pa) size;let z3:=bF (sB s b B) size;let z4:=(↑(v+1):Int);let z5:=(↑n:Int);An [decide ((↑v:Int)<z5)=true,binV (Qad Pg) .shr 3 (i6 ↑s) (i6 ↑v)=some (i6 ↑(s/2^v)),binV (Qad Pg) .and 3 (i6 ↑(s/2^v)) (i6 1)=some (i6 0),((0:Int)==(0:Int))=true,wr .i64 ((↑v:Int)+(1:Int))=z4,An [Sm (↑lim:Int),Zz,Zz,Zz,Zz,z0=z0,Zz,Zz,Zz,Zz,Zz,z0=z0,Sm (↑s:Int),z5=z5,z4=z4,Tt],An [Sm [sl cards,gC cs],TT 2],An [Sm [V.nilp],Tt,Tt],An [Sm [V.nils,V.nils],TT 2],An [Sm [i6 0],Tt,Tt],An [z3=z3,HfL z3],An [Sm (entM q 0),HfE (entM q 0),Zz],An [An [Sm cards.length,Sm (ints cards)],An [Sm cs.length,Sm (List.map sl cs)],z6,TT 2],An [Zz,Tt],An [z1=z1,HfL z1],An [z2=z2,HfL z2],An [z6,z6,Tt],An [Sm [i6 ↑s],Tt,Tt],An [Sm [V.bool (Qao b)],Tt,Tt],An [An [Zz,Zz,Zz,Zz,Tt],Tt],Tt])=_) ?_
    (repeat'(first|(with_reducible apply And.intro)|(refine fun(_:True)=>?_)))
    all_goals first|(with_reducible exact hsh _ _)|(with_reducible exact han _ _)|exact aq|exact hla _|exact hpa _|exact hBB _|exact hEE _ _|exact hSS _ _|exact hsh _ _|exact han _ _|rfl|skip
   |succ k=>
    skip
    refine .inl ⟨(v+1,q,_,b),[0,1,2,3,4,5,6,7,8,9,10,11,12,13,14],[yes 48,va 52 (i6 ((s/2^v:Nat):Int)),va 53 (i6 0),yes 54,nu 71 ((v+1:Nat):Int)],1000,⟨hlt,eA2,eB2,hG⟩,by dsimp only;omega,?_⟩
    refine Eq.mp (by kernel_rfl:(let z8:=An [Zz,Sm size,Sm (size-size)];let z0:=(↑size:Int);let z1:=bF (scF F q) (k+1);let z2:=nF (sL s b la) size;let z3:=uF (sP s b pa) size;let z4:=bF (sB s b B) size;let z5:=(↑(v+1):Int);let z6:=entM q (k+1);let z7:=(↑n:Int);An [decide ((↑v:Int)<z7)=true,binV (Qad Pg) .shr 3 (i6 ↑s) (i6 ↑v)=some (i6 ↑(s/2^v)),binV (Qad Pg) .and 3 (i6 ↑(s/2^v)) (i6 1)=some (i6 0),((0:Int)==(0:Int))=true,wr .i64 ((↑v:Int)+(1:Int))=z5,An [Sm (↑lim:Int),Zz,Zz,Zz,Zz,z0=z0,Zz,Zz,Zz,Zz,Zz,z0=z0,Sm (↑s:Int),z7=z7,z5=z5,Tt],An [Sm [sl cards,gC cs],TT 2],An [Sm [V.nilp],Tt,Tt],An [Sm [V.nils,V.nils],TT 2],An [Sm [i6 0],Tt,Tt],An [z4=z4,HfL z4],An [z6=z6,HfE z6,Sm (k+1)],An [An [Sm cards.length,Sm (ints cards)],An [Sm cs.length,Sm (List.map sl cs)],z8,Tt,An [Zz,Sm (k+1),Tt],Tt],An [Zz,Tt],An [z2=z2,HfL z2],An [z3=z3,HfL z3],An [z8,z8,Tt],An [Sm [i6 ↑s],Tt,Tt],An [Sm [V.bool (Qao b)],Tt,Tt],An [An [Zz,Zz,Zz,Zz,Tt],Tt],An [z1=z1,HfL z1],Tt])=_) ?_
    (repeat'(first|(with_reducible apply And.intro)|(refine fun(_:True)=>?_)))
    all_goals first|(with_reducible exact hsh _ _)|(with_reducible exact han _ _)|exact aq|exact hla _|exact hpa _|exact hBB _|exact hEE _ _|exact hSS _ _|exact hsh _ _|exact han _ _|rfl|skip
  | true =>
   have hall:=h v hlt hbit
   have han:=fun G t=>@Qnp G t s v 1 hs hv5 (by decide) hbit
   have hsl:=fun G t=>@shl1_w G t v (by omega)
   have hrm:=fun G t=>@andn_u G t s v hs hv5 hbit
   have hcv:wr .u64 (s:Int)=s:=Qe3 (by simp[lo]) (by simp[hi];omega)
   have hpf:=parts_fn (s-2^v) lim
   have hle:=Qds lim s v q k (s+1)
   unfold innK at hle
   cases k with
   | zero =>
    skip
    have hpos:1≤(innA lim s v q 0 (s+1)).2:=Qiy (s+1) (by omega) (Qbw.2 ⟨Nat.zero_and _,Nat.zero_testBit _,Nat.zero_le _⟩) rfl
    generalize hfin:innA lim s v q 0 (s+1)=z at hpos hle
    obtain⟨q2,k2⟩:=z
    cases k2 with
    |zero=>exact absurd (show 1≤0 from hpos) (by decide)
    |succ k2=>
     have eA2:outA lim s q0 k0 (v+1)=(q2,k2+1):=by rw[outA,if_pos hbit,eA];exact hfin
     have eB2:outB lim F B s (v+1)=innB lim F B s v b (s+1):=by rw[outB,if_pos hbit,eB]
     have hG2:=Qdz (lim:=lim) hall.bd hG (s+1)
     have l:=range_A cards cs F size lim n q s b B la pa v hall hG q2 k2 _ hfin rfl
     generalize hb2:innB lim F B s v b (s+1)=b2 at eB2 hG2 l
     clear h hall
     refine .inl ⟨(v+1,q2,k2+1,b2),[0,1,2,3,4,5,6,7,8,9,10,11,12,13,14],[yes 48,va 52 (i6 ((s/2^v:Nat):Int)),va 53 (i6 1),no 54,nu 56 (s:Int),va 58 (u6 ((2^v:Nat):Int)),va 59 (u6 ((s-2^v:Nat):Int)),fn 61 (.fn 122 [.imp [i6 (lim:Nat)],.imp [u6 (s-2^v:Nat)]]),(0,.loop [0,1,2,3,4,5,6,7,8,9,10,11,12,13,14] (rS0 cards cs size lim n q s b B la pa v) [(True,.normal,vS1 cards cs F size lim n q2 s b2 B la pa v k2)]),nu 71 ((v+1:Nat):Int)],1000,⟨hlt,eA2,eB2,hG2⟩,by dsimp only;omega,?_⟩
     refine Eq.mp (by kernel_rfl:(let x2:=An [Zz,Sm size,Sm (size-size)];let x3:=An [An [Zz,Zz,Zz,Zz,Tt],Tt];let x4:=An [Sm [V.nilp],Tt,Tt];let x5:=An [Sm [i6 0],Tt,Tt];let z0:=(↑size:Int);let z1:=u6 ↑(s-2^v);let z2:=(↑s:Int);let z3:=[sl cards,gC cs];let z4:=[V.nils,V.nils];let z5:=bF (scF F q2) (k2+1);let z6:=(↑n:Int);let z7:=nF (sL s b2 la) size;let z8:=uF (sP s b2 pa) size;let z9:=(↑lim:Int);let y0:=List.map sl cs;let y1:=nF (sL s b la) size;let y2:=uF (sP s b pa) size;let y3:=bF (sB s b2 B) size;let y4:=bF (sB s b B) size;let y5:=(↑(v+1):Int);let y6:=(↑v:Int);let y7:=entM q2 (k2+1);let y8:=Qad Pg;let y9:=ints cards;let x0:=i6 ↑lim;let x1:=[i6 ↑s];An [decide (y6<z6)=true,binV y8 .shr 3 (i6 ↑s) (i6 ↑v)=some (i6 ↑(s/2^v)),binV y8 .and 3 (i6 ↑(s/2^v)) (i6 1)=some (i6 1),((1:Int)==(0:Int))=false,wr .u64 z2=z2,binV y8 .shl 28 (u6 1) (i6 ↑v)=some (u6 ↑(2^v)),binV y8 .andNot 28 (u6 ↑s) (u6 ↑(2^v))=some z1,TT 2,FnOk Pg g0 110 [z1,x0] (V.fn 122 [V.imp [x0],V.imp [z1]]),Tt,An [An [z9=z9,Zz,Zz,Zz,Zz,z0=z0,Zz,Zz,Zz,Zz,Zz,z0=z0,z2=z2,z6=z6,y6=y6,Zz,An [Sm [x0],Sm [z1],Tt],Tt],An [z3=z3,TT 2],x4,An [z4=z4,TT 2],x5,An [y4=y4,HfL y4],An [Sm (entM q 0),HfE (entM q 0),Zz],An [An [Sm cards.length,y9=y9],An [Sm cs.length,y0=y0],x2,TT 2],An [Zz,Tt],An [y1=y1,HfL y1],An [y2=y2,HfL y2],An [x2,x2,Tt],An [x1=x1,Tt,Tt],An [Sm [V.bool (Qao b)],Tt,Tt],x3,An [Sm [i6 ↑v],Tt,Tt],Tt],Sat Pg none 0 (at' 88 [1,1,1,1,1,0,1,0,0,1,1,0,0,1,1,1,1,0,0,1,1,0,0,1,1,1,0]) (mkSt g0 75 (rS0 cards cs size lim n q s b B la pa v)) (Qaf g0 75 [(True,Ex.normal,vS1 cards cs F size lim n q2 s b2 B la pa v k2)]),(True→An [wr .i64 (y6+(1:Int))=y5,An [z9=z9,Zz,Zz,Zz,Zz,z0=z0,Zz,Zz,Zz,Zz,Zz,z0=z0,z2=z2,z6=z6,y5=y5,Tt],An [z3=z3,TT 2],x4,An [z4=z4,TT 2],x5,An [y3=y3,HfL y3],An [y7=y7,HfE y7,Sm (k2+1)],An [An [Sm cards.length,y9=y9],An [Sm cs.length,y0=y0],x2,Tt,An [Zz,Sm (k2+1),Tt],Tt],An [Zz,Tt],An [z7=z7,HfL z7],An [z8=z8,HfL z8],An [x2,x2,Tt],An [x1=x1,Tt,Tt],An [Sm [V.bool (Qao b2)],Tt,Tt],x3,An [z5=z5,HfL z5],Tt]),Tt])=_) ?_
     (repeat'(first|(with_reducible apply And.intro)|(refine fun(_:True)=>?_)))
     all_goals first|exact l|exact hpf|(with_reducible exact hsh _ _)|(with_reducible exact han _ _)|(with_reducible exact hsl _ _)|(with_reducible exact hrm _ _)|(with_reducible exact hcv)|exact aq|exact hla _|exact hpa _|exact hBB _|exact hEE _ _|exact hSS _ _|exact hsh _ _|exact han _ _|exact hsl _ _|exact hrm _ _|rfl|skip
   | succ k =>
    skip
    have hpos:1≤(innA lim s v q (k+1) (s+1)).2:=by omega
    generalize hfin:innA lim s v q (k+1) (s+1)=z at hpos hle
    obtain⟨q2,k2⟩:=z
    cases k2 with
    |zero=>exact absurd (show 1≤0 from hpos) (by decide)
    |succ k2=>
     have eA2:outA lim s q0 k0 (v+1)=(q2,k2+1):=by rw[outA,if_pos hbit,eA];exact hfin
     have eB2:outB lim F B s (v+1)=innB lim F B s v b (s+1):=by rw[outB,if_pos hbit,eB]
     have hG2:=Qdz (lim:=lim) hall.bd hG (s+1)
     have l:=range_B cards cs F size lim n q s b B la pa v k (by omega) hall hG q2 k2 _ hfin rfl
     generalize hb2:innB lim F B s v b (s+1)=b2 at eB2 hG2 l
     clear h hall
     refine .inl ⟨(v+1,q2,k2+1,b2),[0,1,2,3,4,5,6,7,8,9,10,11,12,13,14],[yes 48,va 52 (i6 ((s/2^v:Nat):Int)),va 53 (i6 1),no 54,nu 56 (s:Int),va 58 (u6 ((2^v:Nat):Int)),va 59 (u6 ((s-2^v:Nat):Int)),fn 61 (.fn 122 [.imp [i6 (lim:Nat)],.imp [u6 (s-2^v:Nat)]]),(0,.loop [0,1,2,3,4,5,6,7,8,9,10,11,12,13,15,14] (rS1 cards cs F size lim n q s b B la pa v k) [(True,.normal,vS1 cards cs F size lim n q2 s b2 B la pa v k2)]),nu 71 ((v+1:Nat):Int)],1000,⟨hlt,eA2,eB2,hG2⟩,by dsimp only;omega,?_⟩
     refine Eq.mp (by kernel_rfl:(let x4:=An [Zz,Sm size,Sm (size-size)];let x5:=An [An [Zz,Zz,Zz,Zz,Tt],Tt];let x6:=An [Sm [V.nilp],Tt,Tt];let x7:=An [Sm [i6 0],Tt,Tt];let z0:=(↑size:Int);let z1:=u6 ↑(s-2^v);let z2:=(↑s:Int);let z3:=[sl cards,gC cs];let z4:=[V.nils,V.nils];let z5:=bF (scF F q2) (k2+1);let z6:=(↑n:Int);let z7:=bF (scF F q) (k+1);let z8:=nF (sL s b2 la) size;let z9:=uF (sP s b2 pa) size;let y0:=(↑lim:Int);let y1:=List.map sl cs;let y2:=nF (sL s b la) size;let y3:=uF (sP s b pa) size;let y4:=bF (sB s b2 B) size;let y5:=bF (sB s b B) size;let y6:=(↑(v+1):Int);let y7:=(↑v:Int);let y8:=entM q2 (k2+1);let y9:=Qad Pg;let x0:=entM q (k+1);let x1:=ints cards;let x2:=i6 ↑lim;let x3:=[i6 ↑s];An [decide (y7<z6)=true,binV y9 .shr 3 (i6 ↑s) (i6 ↑v)=some (i6 ↑(s/2^v)),binV y9 .and 3 (i6 ↑(s/2^v)) (i6 1)=some (i6 1),((1:Int)==(0:Int))=false,wr .u64 z2=z2,binV y9 .shl 28 (u6 1) (i6 ↑v)=some (u6 ↑(2^v)),binV y9 .andNot 28 (u6 ↑s) (u6 ↑(2^v))=some z1,TT 2,FnOk Pg g0 110 [z1,x2] (V.fn 122 [V.imp [x2],V.imp [z1]]),Tt,An [An [y0=y0,Zz,Zz,Zz,Zz,z0=z0,Zz,Zz,Zz,Zz,Zz,z0=z0,z2=z2,z6=z6,y7=y7,Zz,An [Sm [x2],Sm [z1],Tt],Tt],An [z3=z3,TT 2],x6,An [z4=z4,TT 2],x7,An [y5=y5,HfL y5],An [x0=x0,HfE x0,Sm (k+1)],An [An [Sm cards.length,x1=x1],An [Sm cs.length,y1=y1],x4,Tt,An [Zz,Sm (k+1),Tt],Tt],An [Zz,Tt],An [y2=y2,HfL y2],An [y3=y3,HfL y3],An [x4,x4,Tt],An [x3=x3,Tt,Tt],An [Sm [V.bool (Qao b)],Tt,Tt],x5,An [Sm [i6 ↑v],Tt,Tt],An [z7=z7,HfL z7],Tt],Sat Pg none 0 (at' 88 [1,1,1,1,1,0,1,0,0,1,1,0,0,1,1,1,1,0,0,1,1,0,0,1,1,1,0]) (mkSt g0 75 (rS1 cards cs F size lim n q s b B la pa v k)) (Qaf g0 75 [(True,Ex.normal,vS1 cards cs F size lim n q2 s b2 B la pa v k2)]),(True→An [wr .i64 (y7+(1:Int))=y6,An [y0=y0,Zz,Zz,Zz,Zz,z0=z0,Zz,Zz,Zz,Zz,Zz,z0=z0,z2=z2,z6=z6,y6=y6,Tt],An [z3=z3,TT 2],x6,An [z4=z4,TT 2],x7,An [y4=y4,HfL y4],An [y8=y8,HfE y8,Sm (k2+1)],An [An [Sm cards.length,x1=x1],An [Sm cs.length,y1=y1],x4,Tt,An [Zz,Sm (k2+1),Tt],Tt],An [Zz,Tt],An [z8=z8,HfL z8],An [z9=z9,HfL z9],An [x4,x4,Tt],An [x3=x3,Tt,Tt],An [Sm [V.bool (Qao b2)],Tt,Tt],x5,An [z5=z5,HfL z5],Tt]),Tt])=_) ?_
     (repeat'(first|(with_reducible apply And.intro)|(refine fun(_:True)=>?_)))
     all_goals first|exact l|exact hpf|(with_reducible exact hsh _ _)|(with_reducible exact han _ _)|(with_reducible exact hsl _ _)|(with_reducible exact hrm _ _)|(with_reducible exact hcv)|exact aq|exact hla _|exact hpa _|exact hBB _|exact hEE _ _|exact hSS _ _|exact hsh _ _|exact han _ _|exact hsl _ _|exact hrm _ _|rfl|skip
 ·have he : v = n := by omega
  subst he
  rw[eA]at hA
  rw[eB]at hB
  obtain⟨rfl,rfl⟩:=Prod.mk.inj hA
  subst hB
  clear h
  cases k with
  |zero=>
   skip
   refine .inr ⟨.exit 2,[0,1,2,3,4,5,6,7,8,9,10,11,12,13],_,[no 48],1000,.inl ⟨trivial,rfl,rfl⟩,?_⟩
   refine Eq.mp (by kernel_rfl:(let z5:=An [Zz,Sm size,Sm (size-size)];let z0:=(↑v:Int);let z1:=(↑size:Int);let z2:=nF (sL s b la) size;let z3:=uF (sP s b pa) size;let z4:=bF (sB s b B) size;An [decide (z0<z0)=false,An [Sm (↑lim:Int),Zz,Zz,Zz,Zz,z1=z1,Zz,Zz,Zz,Zz,Zz,z1=z1,Sm (↑s:Int),z0=z0,z0=z0,Tt],An [Sm [sl cards,gC cs],TT 2],An [Sm [V.nilp],Tt,Tt],An [Sm [V.nils,V.nils],TT 2],An [Sm [i6 0],Tt,Tt],An [z4=z4,HfL z4],An [Sm (entM q 0),HfE (entM q 0),Zz],An [An [Sm cards.length,Sm (ints cards)],An [Sm cs.length,Sm (List.map sl cs)],z5,TT 2],An [Zz,Tt],An [z2=z2,HfL z2],An [z3=z3,HfL z3],An [z5,z5,Tt],An [Sm [i6 ↑s],Tt,Tt],An [Sm [V.bool (Qao b)],Tt,Tt],An [An [Zz,Zz,Zz,Zz,Tt],Tt],Tt])=_) ?_
   (repeat'(first|(with_reducible apply And.intro)|(refine fun(_:True)=>?_)))
   all_goals first|exact aq|exact hla _|exact hpa _|exact hBB _|exact hEE _ _|exact hSS _ _|rfl|skip
  |succ k=>
   skip
   refine .inr ⟨.exit 2,[0,1,2,3,4,5,6,7,8,9,10,11,12,13,14],_,[no 48],1000,.inl ⟨trivial,rfl,rfl⟩,?_⟩
   refine Eq.mp (by kernel_rfl:(let z7:=An [Zz,Sm size,Sm (size-size)];let z0:=(↑v:Int);let z1:=(↑size:Int);let z2:=bF (scF F q) (k+1);let z3:=nF (sL s b la) size;let z4:=uF (sP s b pa) size;let z5:=bF (sB s b B) size;let z6:=entM q (k+1);An [decide (z0<z0)=false,An [Sm (↑lim:Int),Zz,Zz,Zz,Zz,z1=z1,Zz,Zz,Zz,Zz,Zz,z1=z1,Sm (↑s:Int),z0=z0,z0=z0,Tt],An [Sm [sl cards,gC cs],TT 2],An [Sm [V.nilp],Tt,Tt],An [Sm [V.nils,V.nils],TT 2],An [Sm [i6 0],Tt,Tt],An [z5=z5,HfL z5],An [z6=z6,HfE z6,Sm (k+1)],An [An [Sm cards.length,Sm (ints cards)],An [Sm cs.length,Sm (List.map sl cs)],z7,Tt,An [Zz,Sm (k+1),Tt],Tt],An [Zz,Tt],An [z3=z3,HfL z3],An [z4=z4,HfL z4],An [z7,z7,Tt],An [Sm [i6 ↑s],Tt,Tt],An [Sm [V.bool (Qao b)],Tt,Tt],An [An [Zz,Zz,Zz,Zz,Tt],Tt],An [z2=z2,HfL z2],Tt])=_) ?_
   (repeat'(first|(with_reducible apply And.intro)|(refine fun(_:True)=>?_)))
   all_goals first|exact aq|exact hla _|exact hpa _|exact hBB _|exact hEE _ _|exact hSS _ _|rfl|skip
set_option maxHeartbeats 4000000
set_option maxRecDepth 100000
theorem Qft(c:List Int)(h:c.length≤6)(h1:1≤c.length):FnOk Pg g0 87 [sl c] (sl c):=by
 rcases c with _|⟨a,_|⟨b,_|⟨d,_|⟨e,_|⟨f,_|⟨g,_|⟨x,l⟩⟩⟩⟩⟩⟩⟩
 ·exact absurd h1 (by decide)
 ·refine FnOk.of_vc vE_ok mixed Qab (n := 1000) (r := []) (S := { sl := [(2, .im 1 [i6 a])] }) (hs := []) ?_
  refine Eq.mp (by kernel_rfl:(An [V.im 1 [i6 a]=sl [a],An [An [1=Int.toNat (0:Int)+1,Sm [i6 a],Tt,Tt],Tt],Tt])=_) ?_
  exact au
 ·refine FnOk.of_vc vE_ok mixed Qab (n := 1000) (r := []) (S := { sl := [(2, .im 2 [i6 a, i6 b])] }) (hs := []) ?_
  refine Eq.mp (by kernel_rfl:(An [V.im 2 [i6 a,i6 b]=sl [a,b],An [An [2=Int.toNat (0:Int)+2,Sm [i6 a,i6 b],TT 2],Tt],Tt])=_) ?_
  exact au
 ·refine FnOk.of_vc vE_ok mixed Qab (n := 1000) (r := []) (S := { sl := [(2, .im 3 [i6 a, i6 b, i6 d])] }) (hs := []) ?_
  refine Eq.mp (by kernel_rfl:(An [V.im 3 [i6 a,i6 b,i6 d]=sl [a,b,d],An [An [3=Int.toNat (0:Int)+3,Sm [i6 a,i6 b,i6 d],TT 3],Tt],Tt])=_) ?_
  exact au
 ·refine FnOk.of_vc vE_ok mixed Qab (n := 1000) (r := []) (S := { sl := [(2, .im 4 [i6 a, i6 b, i6 d, i6 e])] }) (hs := []) ?_
  refine Eq.mp (by kernel_rfl:(let z0:=[i6 a,i6 b,i6 d,i6 e];An [V.im 4 z0=sl [a,b,d,e],An [An [4=Int.toNat (0:Int)+4,z0=z0,TT 4],Tt],Tt])=_) ?_
  exact au
 ·refine FnOk.of_vc vE_ok mixed Qab (n := 1000) (r := []) (S := { sl := [(2, .im 5 [i6 a, i6 b, i6 d, i6 e, i6 f])] }) (hs := []) ?_
  refine Eq.mp (by kernel_rfl:(let z0:=[i6 a,i6 b,i6 d,i6 e,i6 f];An [V.im 5 z0=sl [a,b,d,e,f],An [An [5=Int.toNat (0:Int)+5,z0=z0,TT 5],Tt],Tt])=_) ?_
  exact au
 ·refine FnOk.of_vc vE_ok mixed Qab (n := 1000) (r := []) (S := { sl := [(2, .im 6 [i6 a, i6 b, i6 d, i6 e, i6 f, i6 g])] }) (hs := []) ?_
  refine Eq.mp (by kernel_rfl:(let z0:=[i6 a,i6 b,i6 d,i6 e,i6 f,i6 g];An [V.im 6 z0=sl [a,b,d,e,f,g],An [An [6=Int.toNat (0:Int)+6,z0=z0,TT 6],Tt],Tt])=_) ?_
  exact au
 ·simp only[List.length_cons]at h;omega
def idL(n:Nat):List Int:=(List.range n).map Int.ofNat
theorem Qix(n:Nat):(idL n).length=n:=by unfold idL;simp
theorem idL_at{n k:Nat}(h:k<n):headF ((ints (idL n)).drop (k*1))=some (i6 (k:Int)):=by
 rw[Qc7 (by rw[Qix];exact h)]
 congr 2
 unfold idL
 simp
def idF(k:Nat):Nat→Nat:=fun i=>if i<k then i else 0
theorem idF_next(k:Nat):(fun i=>if i=k then k else idF k i)=idF (k+1):=by
 funext i
 unfold idF
 by_cases h:i=k
 ·rw[if_pos h,if_pos (by omega),h]
 ·rw [if_neg h]
  by_cases h2:i<k
  ·rw[if_pos h2,if_pos (by omega)]
  ·rw[if_neg h2,if_neg (by omega)]
theorem nF_idF(n:Nat):nF (idF n) n=ints (idL n):=by
 have: ∀m,m≤n→nF (idF n) m=ints (idL m):=fun m=>by
  induction m with
  |zero=>intro _;rfl
  |succ m ih=>
   intro hm
   show blF _ (m+1)=_
   rw[Qa9,show blF (fun i=>[i6 (idF n i:Nat)]) m=ints (idL m)from ih (by omega)]
   unfold idL ints
   rw[List.range_succ,List.map_append,List.map_append]
   congr 2
   unfold idF
   rw[if_pos (by omega)];rfl
 exact this n (Nat.le_refl _)
theorem rep_nF(n:Nat):rep n [i6 0]=nF (idF 0) n:=by
 rw[Qgr]
 refine Qbh fun i hi=>?_
 unfold idF
 rw[if_neg (by omega)];rfl
theorem known_fn(cards:List Int)(cs:List (List Int))(n:Nat):FnOk Pg g0 86 [gV cards cs,sl (idL n)] (.fn 107 [.imp [sl cards,gC cs],.imp [sl (idL n)]]):=by
 refine FnOk.of_vc vE_ok mixed Qab (n:=1000) (r:=[]) (S:={sl:=[(4,.fn 107 [.imp [sl cards,gC cs],.imp [sl (idL n)]])]}) (hs:=[]) ?_
 refine Eq.mp (by kernel_rfl:(An [Sm (V.fn 107 [V.imp [sl cards,gC cs],V.imp [sl (idL n)]]),An [An [An [Sm [sl cards,gC cs],TT 2],An [Sm [sl (idL n)],Tt,Tt],Tt],Tt],Tt])=_) ?_
 (repeat'(first|(with_reducible apply And.intro)|(refine fun(_:True)=>?_)))
 all_goals first|exact aq|rfl|skip
noncomputable abbrev rkC:Code:=at' 38 [1,1,1,1,1,0,1,0]
theorem rk_eq:rkC= .rangeFunc (.tmp 34) #[35,36] (rfAsg rkC) (Qo7 rkC):=by kernel_rfl
noncomputable def rkB:Code:=Qo7 rkC
noncomputable def rkA:Code:=rfAsg rkC
def noL:List V:=[]
section
variable (cards:List Int) (cs:List (List Int))
abbrev kZ:List (Nat×V):=[(2,.ptr 0 0),(7,.ptr 1 0),(34,.fn 107 [.imp [sl cards,gC cs],.imp [sl (idL cards.length)]])]
noncomputable def rkT:TM:=(mkSt g0 45 {sl:=kZ cards cs}).tm
noncomputable abbrev lkO(ls:LoopState):O:=.loop ls none 0 (rkT cards cs) [35,36] rkA rkB
abbrev kO(v:V):List O:=[.row 32 none [.nils,.nils],.row 32 none [sl cards,v],.row 29 none noL]
noncomputable abbrev kA(ls:LoopState):List O:=kO cards (.sl 2 0 0 (some 0))++[lkO cards cs ls]
noncomputable abbrev kA1(ls:LoopState)(c:List Int):List O:=kO cards (.sl 5 0 1 none)++[lkO cards cs ls,.row 29 none [sl c],.row 29 (some 1) [sl c]]
noncomputable abbrev kC(ls:LoopState)(k:Nat)(l:List V):List O:=kO cards (.sl 4 0 (k+1) none)++[lkO cards cs ls,.row 29 (some 1) l]
noncomputable abbrev kC1(ls:LoopState)(k:Nat)(l:List V)(c:List Int):List O:=kO cards (.sl 6 0 (k+2) none)++[lkO cards cs ls,.dead,.row 29 none [sl c],.row 29 (some 1) (l++[sl c])]
end
theorem Qs1(cards:List Int)(cs:List (List Int))(nx0:Nat)(h:3≤nx0):LowT nx0 (rkT cards cs):=by
 intro i x hx
 have hx':(putL (blank 45) (kZ cards cs)).get i=some x:=hx
 rcases putL_get _ _ _ _ hx' with hm|hm
 ·simp only [kZ, List.mem_cons, List.not_mem_nil, or_false, Prod.mk.injEq] at hm
  rcases hm with⟨_,rfl⟩|⟨_,rfl⟩|⟨_,rfl⟩<;>simp only[Sc,ScL,and_true]<;>omega
 ·rw[Qbi]at hm;cases hm
theorem rk_asg(i:Nat)(c:List Int)(hd:Nat)(H:T O)(nx:Nat):vc Pg vE sp0 (some hd) nx 1000 rkA [] (mkSo g0 45 [(7,.ptr 1 0),(35,i6 (i:Nat)),(36,sl c)] H nx []) (kAsg 45 [(7,.ptr 1 0),(9,sl c)] H nx):=by
 refine Eq.mp (by kernel_rfl:(An [An [Sm (V.ptr 1 0),Sm (sl c),Tt],H=H,nx=nx,([]:List Nat)=[]])=_) ?_
 (repeat'(first|(with_reducible apply And.intro)|(refine fun(_:True)=>?_)))<;>first|exact aq|skip
 all_goals skip
theorem yldk_A(cards:List Int)(cs:List (List Int))(i:Nat)(c:List Int)(h:c.length≤6)(h1:1≤c.length):
  CallSpec Pg g0 (.yld 3) [i6 (i:Nat),sl c] (ofOs .e 0 (kA cards cs .ready)) 4 ⟨.bool true,ofOs .e 0 (kA1 cards cs .ready c),6,[1,3]⟩:=by
 have hcl:=Qft c h h1
 refine CallSpec.yldN vE_ok mixed Qab (n:=45) (fn0:=0) (tm:=rkT cards cs) (ps:=[35,36]) (assign:=rkA) (body:=rkB) (hs0:=[]) (hs1:=[fn 40 (sl c),(42,.cp 1 [sl c])]) (m0:=1000) (m1:=1000) (sl0:=[(7,.ptr 1 0),(35,i6 (i:Nat)),(36,sl c)]) (sl1:=[(7,.ptr 1 0),(9,sl c)]) (by kernel_rfl) rfl rfl rfl ⟨rfl,rfl,rfl,trivial⟩ (rk_asg i c 3) ?_ (by decide) (Qiz (os0:=kA cards cs .ready) (os1:=kA1 cards cs .ready c) (by simp) (fun i hi hno=>?_)) (by kernel_rfl)
 ·refine Eq.mp (by kernel_rfl : (let z1 := O.loop .busy none 0 (rkT cards cs) [35, 36] rkA rkB; let z0 := pt (pt (ofOs T.e 0 (kA cards cs .ready)) 3 z1) 4 (O.row 29 none [sl c]); An [An [Tt, Tt], FnOk Pg g0 87 [V.im c.length (ints c)] (sl c), Tt, An [srcV z0 1 (V.sl 4 0 1 (some 0)) = some (1, [sl c]), srcV z0 1 (V.sl 2 0 0 (some 0)) = some (0, []), 1 ≤ 1, 1 ≤ 9223372036854775807, 1 * 24 ≤ 140737488355328], pt (pt z0 5 (O.row 29 (some 1) [sl c])) 1 (O.row 32 none [sl cards, V.sl 5 0 1 none]) = pt (ofOs T.e 0 (kA1 cards cs .ready c)) 3 z1, 6 = 6, ∀ (g : Nat), List.Mem g ([1] ++ ([] ++ ([] ++ [3]))) → List.Mem g [1, 3]]) = _) ?_
  (repeat'(first|(with_reducible apply And.intro)|(refine fun(_:True)=>?_)))
  all_goals first|exact aq|exact hcl|rfl|skip
 ·rcases(show i=0∨i=1∨i=2∨i=3 by simp at hi;omega)with rfl|rfl|rfl|rfl<;>first|rfl|(simp at hno)
theorem yldk_C(cards:List Int)(cs:List (List Int))(k:Nat)(l:List V)(hl:l.length=k+1)(hk:k≤100)(i:Nat)(c:List Int)(h:c.length≤6)(h1:1≤c.length):
  CallSpec Pg g0 (.yld 3) [i6 (i:Nat),sl c] (ofOs .e 0 (kC cards cs .ready k l)) 5 ⟨.bool true,ofOs .e 0 (kC1 cards cs .ready k l c),7,[1,4,3]⟩:=by
 have hcl:=Qft c h h1
 refine CallSpec.yldN vE_ok mixed Qab (n:=45) (fn0:=0) (tm:=rkT cards cs) (ps:=[35,36]) (assign:=rkA) (body:=rkB) (hs0:=[]) (hs1:=[fn 40 (sl c),ap 42]) (m0:=1000) (m1:=1000) (sl0:=[(7,.ptr 1 0),(35,i6 (i:Nat)),(36,sl c)]) (sl1:=[(7,.ptr 1 0),(9,sl c)]) (by kernel_rfl) rfl rfl rfl ⟨rfl,rfl,rfl,trivial⟩ (rk_asg i c 3) ?_ (by decide) (Qiz (os0:=kC cards cs .ready k l) (os1:=kC1 cards cs .ready k l c) (by simp) (fun i hi hno=>?_)) (by kernel_rfl)
 ·refine Eq.mp (by kernel_rfl : (let z0 := O.loop .busy none 0 (rkT cards cs) [35, 36] rkA rkB; An [An [Tt, Tt], FnOk Pg g0 87 [V.im c.length (ints c)] (sl c), Tt, l.length = (k + 1) * 1, k + 1 + 1 ≤ 9223372036854775807, (k + 1 + 1) * 24 ≤ 140737488355328, pt (pt (pt (pt (pt (ofOs T.e 0 (kC cards cs .ready k l)) 3 z0) 5 (O.row 29 none [sl c])) 4 O.dead) 6 (O.row 29 (some 1) (l ++ [sl c]))) 1 (O.row 32 none [sl cards, V.sl 6 0 (k + 1 + 1) none]) = pt (ofOs T.e 0 (kC1 cards cs .ready k l c)) 3 z0, 7 = 7, ∀ (g : Nat), List.Mem g ([1] ++ ([4] ++ ([] ++ [3]))) → List.Mem g [1, 4, 3]]) = _) ?_
  (repeat'(first|(with_reducible apply And.intro)|(refine fun(_:True)=>?_)))
  all_goals first|exact aq|exact hcl|rfl|skip
 ·rcases(show i=0∨i=1∨i=2∨i=3∨i=4 by simp at hi;omega)with rfl|rfl|rfl|rfl|rfl<;>first|rfl|(simp at hno)
set_option maxHeartbeats 4000000
set_option maxRecDepth 100000
section
variable (cards:List Int) (cs:List (List Int))
noncomputable abbrev kwS(a:List (List Int))(m:Nat):List O:=match m with|0=>kA cards cs .ready|k+1=>kC cards cs .ready k (a.map sl)
noncomputable abbrev knS(x:Nat×Nat×List (List Int)):SL:={sl:=[(0,.yld 3),(2,.imp [sl (idL cards.length)]),(9,gC cs),(10,i6 (cs.length:Nat)),(11,i6 (x.1:Nat))],os:=kwS cards cs x.2.2 x.2.1,md:=[0,1],lg:=[1,3]}
noncomputable abbrev knX(m:Nat)(a:List (List Int)):SL:={sl:=[],os:=kwS cards cs a m,md:=[0,1],lg:=[1,3]}
noncomputable abbrev kiS(i m:Nat)(a:List (List Int))(c:List Int)(j:Nat):SL:={sl:=[(0,.yld 3),(2,.imp [sl (idL cards.length)]),(9,gC cs),(10,i6 (cs.length:Nat)),(11,i6 (i:Nat)),(4,i6 (i:Nat)),(5,sl c),(16,sl (idL cards.length)),(17,i6 (cards.length:Nat)),(18,i6 (j:Nat))],os:=kwS cards cs a m,md:=[0,1],lg:=[1,3]}
noncomputable abbrev kiX(i m:Nat)(a:List (List Int))(c:List Int):SL:={sl:=[(0,.yld 3),(2,.imp [sl (idL cards.length)]),(9,gC cs),(10,i6 (cs.length:Nat)),(11,i6 (i:Nat)),(4,i6 (i:Nat)),(5,sl c)],os:=kwS cards cs a m,md:=[0,1],lg:=[1,3]}
noncomputable abbrev kiY(i m:Nat)(a:List (List Int)):SL:={sl:=[(0,.yld 3),(2,.imp [sl (idL cards.length)]),(9,gC cs),(10,i6 (cs.length:Nat)),(11,i6 (i:Nat))],os:=kwS cards cs a m,md:=[0,1],lg:=[1,3]}
end
theorem ki_loop(cards:List Int)(cs:List (List Int))(i m:Nat)(a:List (List Int))(c:List Int)(hc:c.length=cards.length)(h6:cards.length≤6):
  Sat Pg none 4 (at' 107 [0,1,1,0,0,1,1,0,0,1,0,1,0]) (mkSt g0 34 (kiS cards cs i m a c 0)) (Qaf g0 34 [(negB c=false,.exit 2,kiX cards cs i m a c),(negB c=true,.exit 1,kiY cards cs i m a)]):=by
 have hlr:=Qs1 cards cs 4 (by decide)
 have hla:=Qb3 sl a (fun _=>trivial)
 refine Qaz vE_ok mixed Qab (b:=at' 107 [0,1,1,0,0,1,1,0,0,1,0,1,0,0]) (by kernel_rfl) (fun k=>k≤c.length∧(c.take k).any (fun x=>decide (x<0))=false) (kiS cards cs i m a c) (fun k=>c.length-k) (fun k hk=>?_) 0 ⟨Nat.zero_le _,rfl⟩
 obtain⟨hk,hj⟩:=hk
 have hid:=@idL_at cards.length k
 by_cases hlt:k<c.length
 ·have hld := @Qau c k hlt
  have hid:=hid (by omega)
  have hck:c[k]? =some (c.getD k 0):=by rw[List.getD_eq_getElem?_getD,List.getElem?_eq_getElem hlt];rfl
  have hn:(k:Int)<(cards.length:Int):=by omega
  have hlen:=Qix cards.length
  cases m with
  | zero =>
   by_cases h1:c.getD k 0<0
   ·have hb : negB c = true := Qd1 hck (decide_eq_true h1)
    refine .inr ⟨.exit 1,[],kiY cards cs i 0 a,[yes 19,pl 20,ld 21 (i6 (k:Nat)),pl 24,ld 25 (i6 (c.getD k 0)),yes 26],1000,.inr (.inl ⟨hb,rfl,rfl⟩),?_⟩
    refine Eq.mp (by kernel_rfl:(let z0:=idL cards.length;let z1:=(↑k:Int);let z2:=(0:Int);An [decide (z1<(↑cards.length:Int))=true,An [z2≤z1,z1<(↑z0.length:Int)],headF (List.drop (k*1) (ints z0))=some (i6 ↑k),An [z2≤z1,z1<(↑c.length:Int)],headF (List.drop (k*1) (ints c))=some (i6 (List.getD c k z2)),decide (List.getD c k z2<z2)=true,An [Tt,Sm [sl z0],An [Sm cs.length,Sm (List.map sl cs)],Sm (↑cs.length:Int),Sm (↑i:Int),Tt],An [Sm [V.nils,V.nils],TT 2],An [An [Sm cards.length,Sm (ints cards)],An [Zz,Zz,Zz],Tt],An [noL=noL,Tt],An [lkO cards cs .ready=O.loop .ready none 0 (rkT cards cs) [35,36] rkA rkB,LowT 4 (rkT cards cs)],Tt])=_) ?_
    (repeat'(first|(with_reducible apply And.intro)|(refine fun(_:True)=>?_)))
    all_goals first|exact hlr|(with_reducible exact hid)|(with_reducible exact hld)|exact hla|exact aq|rfl|skip
   ·have hg := Qc3 hck hj (decide_eq_false h1)
    refine .inl ⟨k+1,[],[yes 19,pl 20,ld 21 (i6 (k:Nat)),pl 24,ld 25 (i6 (c.getD k 0)),no 26,nu 27 (k+1:Nat)],1000,⟨hlt,hg⟩,by omega,?_⟩
    refine Eq.mp (by kernel_rfl:(let z0:=idL cards.length;let z1:=(↑k:Int);let z2:=(↑cards.length:Int);let z3:=(↑(k+1):Int);let z4:=(↑i:Int);let z5:=(0:Int);let z6:=z0.length;An [decide (z1<z2)=true,An [z5≤z1,z1<(↑(z6):Int)],headF (List.drop (k*1) (ints z0))=some (i6 ↑k),An [z5≤z1,z1<(↑c.length:Int)],headF (List.drop (k*1) (ints c))=some (i6 (List.getD c k z5)),decide (List.getD c k z5<z5)=false,wr .i64 (z1+(1:Int))=z3,An [Tt,Sm [sl z0],An [Sm cs.length,Sm (List.map sl cs)],Sm (↑cs.length:Int),z4=z4,z4=z4,An [Sm c.length,Sm (ints c)],An [z6=z6,Sm (ints z0)],z2=z2,z3=z3,Tt],An [Sm [V.nils,V.nils],TT 2],An [An [Sm cards.length,Sm (ints cards)],An [Zz,Zz,Zz],Tt],An [noL=noL,Tt],An [lkO cards cs .ready=O.loop .ready none 0 (rkT cards cs) [35,36] rkA rkB,LowT 4 (rkT cards cs)],Tt])=_) ?_
    (repeat'(first|(with_reducible apply And.intro)|(refine fun(_:True)=>?_)))
    all_goals first|exact hlr|(with_reducible exact hid)|(with_reducible exact hld)|exact hla|exact aq|rfl|skip
  | succ m =>
   by_cases h1:c.getD k 0<0
   ·have hb : negB c = true := Qd1 hck (decide_eq_true h1)
    refine .inr ⟨.exit 1,[4],kiY cards cs i (m+1) a,[yes 19,pl 20,ld 21 (i6 (k:Nat)),pl 24,ld 25 (i6 (c.getD k 0)),yes 26],1000,.inr (.inl ⟨hb,rfl,rfl⟩),?_⟩
    refine Eq.mp (by kernel_rfl:(let z0:=idL cards.length;let z1:=(↑k:Int);let z2:=(0:Int);let z3:=List.map sl a;An [decide (z1<(↑cards.length:Int))=true,An [z2≤z1,z1<(↑z0.length:Int)],headF (List.drop (k*1) (ints z0))=some (i6 ↑k),An [z2≤z1,z1<(↑c.length:Int)],headF (List.drop (k*1) (ints c))=some (i6 (List.getD c k z2)),decide (List.getD c k z2<z2)=true,An [Tt,Sm [sl z0],An [Sm cs.length,Sm (List.map sl cs)],Sm (↑cs.length:Int),Sm (↑i:Int),Tt],An [Sm [V.nils,V.nils],TT 2],An [An [Sm cards.length,Sm (ints cards)],An [Zz,Sm (m+1),Tt],Tt],An [noL=noL,Tt],An [lkO cards cs .ready=O.loop .ready none 0 (rkT cards cs) [35,36] rkA rkB,LowT 4 (rkT cards cs)],An [z3=z3,HfL z3],Tt])=_) ?_
    (repeat'(first|(with_reducible apply And.intro)|(refine fun(_:True)=>?_)))
    all_goals first|exact hlr|(with_reducible exact hid)|(with_reducible exact hld)|exact hla|exact aq|rfl|skip
   ·have hg := Qc3 hck hj (decide_eq_false h1)
    refine .inl ⟨k+1,[4],[yes 19,pl 20,ld 21 (i6 (k:Nat)),pl 24,ld 25 (i6 (c.getD k 0)),no 26,nu 27 (k+1:Nat)],1000,⟨hlt,hg⟩,by omega,?_⟩
    refine Eq.mp (by kernel_rfl:(let z0:=idL cards.length;let z1:=(↑k:Int);let z2:=(↑cards.length:Int);let z3:=(↑(k+1):Int);let z4:=(↑i:Int);let z5:=(0:Int);let z7:=List.map sl a;let z6:=z0.length;An [decide (z1<z2)=true,An [z5≤z1,z1<(↑(z6):Int)],headF (List.drop (k*1) (ints z0))=some (i6 ↑k),An [z5≤z1,z1<(↑c.length:Int)],headF (List.drop (k*1) (ints c))=some (i6 (List.getD c k z5)),decide (List.getD c k z5<z5)=false,wr .i64 (z1+(1:Int))=z3,An [Tt,Sm [sl z0],An [Sm cs.length,Sm (List.map sl cs)],Sm (↑cs.length:Int),z4=z4,z4=z4,An [Sm c.length,Sm (ints c)],An [z6=z6,Sm (ints z0)],z2=z2,z3=z3,Tt],An [Sm [V.nils,V.nils],TT 2],An [An [Sm cards.length,Sm (ints cards)],An [Zz,Sm (m+1),Tt],Tt],An [noL=noL,Tt],An [lkO cards cs .ready=O.loop .ready none 0 (rkT cards cs) [35,36] rkA rkB,LowT 4 (rkT cards cs)],An [z7=z7,HfL z7],Tt])=_) ?_
    (repeat'(first|(with_reducible apply And.intro)|(refine fun(_:True)=>?_)))
    all_goals first|exact hlr|(with_reducible exact hid)|(with_reducible exact hld)|exact hla|exact aq|rfl|skip
 ·have : k = c.length := by omega
  subst this
  rw[List.take_length]at hj
  have hn: ¬((c.length:Int)<(cards.length:Int)):=by omega
  cases m with
  |zero=>
   refine .inr ⟨.exit 2,[],kiX cards cs i 0 a c,[no 19],1000,.inl ⟨hj,rfl,rfl⟩,?_⟩
   refine Eq.mp (by kernel_rfl:(An [decide ((↑c.length:Int)<(↑cards.length:Int))=false,An [Tt,Sm [sl (idL cards.length)],An [Sm cs.length,Sm (List.map sl cs)],Sm (↑cs.length:Int),Sm (↑i:Int),Sm (↑i:Int),An [Sm c.length,Sm (ints c)],Tt],An [Sm [V.nils,V.nils],TT 2],An [An [Sm cards.length,Sm (ints cards)],An [Zz,Zz,Zz],Tt],An [noL=noL,Tt],An [lkO cards cs .ready=O.loop .ready none 0 (rkT cards cs) [35,36] rkA rkB,LowT 4 (rkT cards cs)],Tt])=_) ?_
   (repeat'(first|(with_reducible apply And.intro)|(refine fun(_:True)=>?_)))
   all_goals first|exact hlr|exact hla|exact aq|rfl|skip
  |succ m=>
   refine .inr ⟨.exit 2,[4],kiX cards cs i (m+1) a c,[no 19],1000,.inl ⟨hj,rfl,rfl⟩,?_⟩
   refine Eq.mp (by kernel_rfl:(An [decide ((↑c.length:Int)<(↑cards.length:Int))=false,An [Tt,Sm [sl (idL cards.length)],An [Sm cs.length,Sm (List.map sl cs)],Sm (↑cs.length:Int),Sm (↑i:Int),Sm (↑i:Int),An [Sm c.length,Sm (ints c)],Tt],An [Sm [V.nils,V.nils],TT 2],An [An [Sm cards.length,Sm (ints cards)],An [Zz,Sm (m+1),Tt],Tt],An [noL=noL,Tt],An [lkO cards cs .ready=O.loop .ready none 0 (rkT cards cs) [35,36] rkA rkB,LowT 4 (rkT cards cs)],An [Sm (List.map sl a),HfL (List.map sl a)],Tt])=_) ?_
   (repeat'(first|(with_reducible apply And.intro)|(refine fun(_:True)=>?_)))
   all_goals first|exact hlr|exact hla|exact aq|rfl|skip
end Go.Proofs.YtglpoiaedkoecaaDoor.Am
