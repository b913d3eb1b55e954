/- Texts behind the claim, part 9: the abstract machine, and what the functions answer. No condition. -/
import Derived.Test.YtakfneapahohkaaDoorCRights8
set_option linter.unusedVariables false
set_option linter.unusedSimpArgs false
set_option linter.unusedSectionVars false
namespace Go.Proofs.YtakfneapahohkaaDoor.Am
open Go.RowKit
set_option maxHeartbeats 4000000
set_option maxRecDepth 100000
def Ck(b:BSt):Prop:=∀v p y,b=some (v,p,y)->inB y 1000
theorem Ck.up{b:BSt}{v p:Nat}{x:Nat->Int}(h:Ck b)(hx:inB x 1000):Ck (upT b v p x):=by
 intro v' p' y e
 rcases b with _|⟨v0,p0,y0⟩
 ·cases e;exact hx
 ·unfold upT at e
  dsimp only at e
  split at e
  ·cases e;exact hx
  ·cases e;exact h _ _ _ rfl
structure Qej(jj:List Int)(cs:List (List Int))(F:Nat->Nat->Nat->Int)(size lim s v:Nat)(B:Nat->Nat->Int):Prop where
 s32:s<32
 v5:v<5
 bit:s.testBit v=true
 bd: ∀p,inB (Av F B s v p) 1000
 ok: ∀p b,okT lim s v p=true->Ck b->Dk jj cs F size s b B v p (s-2^v) (2^v) (Av F B s v p)
abbrev prZ(hd lim w p:Nat):List (Nat×V):=[(0,.yld hd),(1,.imp [i6 (lim:Nat)]),(2,.imp [u6 (w:Nat)]),(4,u6 (p:Nat))]
section
variable (jj:List Int) (cs:List (List Int)) (F:Nat->Nat->Nat->Int) (size lim n:Nat) (s:Nat) (B:Nat->Nat->Int) (la pa:Nat->Nat) (v:Nat)
noncomputable abbrev kpaS(x:Nat×(Nat->Nat×Nat)×Nat×BSt):SL:={sl:=prZ 15 lim (s-2^v) x.1,os:=match x.2.2.1 with|0=>ykA jj cs size lim n (s-2^v) x.2.1 s x.2.2.2 B la pa v .ready|k+1=>ykC jj cs F size lim n (s-2^v) x.2.1 s x.2.2.2 B la pa v .ready k,md:=clM,lg:=[4,5,6,8,9,12,15]}
noncomputable abbrev kpbS(x:Nat×(Nat->Nat×Nat)×Nat×BSt×Bool):SL:={sl:=prZ 16 lim (s-2^v) x.1,os:=match x.2.2.2.2 with|false=>ykB jj cs F size lim n (s-2^v) x.2.1 s x.2.2.2.1 B la pa v .ready x.2.2.1|true=>ykD jj cs F size lim n (s-2^v) x.2.1 s x.2.2.2.1 B la pa v .ready x.2.2.1,md:=clM,lg:=[4,5,6,8,9,12,15,16]}
end
theorem Qmq(jj:List Int)(cs:List (List Int))(F:Nat->Nat->Nat->Int)(size lim n:Nat)(q:Nat->Nat×Nat)(s:Nat)(b:BSt)(B:Nat->Nat->Int)(la pa:Nat->Nat)(v:Nat)(h:Qej jj cs F size lim s v B)(hG:Ck b)(q1:Nat->Nat×Nat)(k1:Nat)(b1:BSt)(jd:Bf lim s v q 0 (s+1)=(q1,k1+1))(hb1:Bu lim F B s v b (s+1)=b1):
  Sat Pg none 16 (at' 56 [1,0]) (Ah g0 22 (kpaS jj cs F size lim n s B la pa v (0,q,0,b))) (Qaf g0 22 [(True,.ret,{sl:=[],os:=ykC jj cs F size lim n (s-2^v) q1 s b1 B la pa v .ready k1,md:=clM,lg:=[4,5,6,8,9,12,15]})]):=by
 have hs32:=h.s32
 have hv5:=h.v5
 have hvb:=h.bit
 obtain⟨hw,_⟩:=Qes s hs32 v hv5 hvb
 have hp2:0<2^v:=Nat.pow_pos d_
 have hl:=Qk7 size lim n (s-2^v) s v 16 d_
 have hc:=Qag jj
 have hg:=Qap cs
 refine Qax vE_ok Af Qaa (b:=at' 56 [1,0,0]) k_ (fun x=>x.1<32/\x.1&&& (s-2^v)=x.1/\(x.1≠0->1<=x.2.2.1)/\x.2.2.1<=10000+x.1/\Bf lim s v q 0 x.1=(x.2.1,x.2.2.1)/\Bu lim F B s v b x.1=x.2.2.2/\Ck x.2.2.2) (kpaS jj cs F size lim n s B la pa v) (fun x=>32-x.1) (fun x hx=>?_) (0,q,0,b) ⟨(by show 0<32;decide),Nat.zero_and _,fun h=>absurd rfl h,Nat.zero_le _,rfl,rfl,hG⟩
 obtain⟨p,q',k',b'⟩:=x
 obtain⟨hp,kb,jp,hk,eA,eB,hG'⟩:=hx
 dsimp only at hp kb jp hk eA eB hG'
 have hnx:=Qof (lim:=lim) (q:=q) (k:=0) (F:=F) (B:=B) (b:=b) hs32 hv5 hvb hp kb
 have hone:=Qmo p hp
 have hsu:=fun G t=>nx_sub (w:=s-2^v) (p:=p) o_ hp G t
 have han:=fun G t=>nx_and (w:=s-2^v) (p:=p) o_ hp G t
 have hple:p<=s-2^v:=by rw[<-kb];exact Nat.and_le_right
 by_cases hok:Ao p<=lim
 ·have ho : okT lim s v p = true := (Qdp hs32 hv5 hvb hp).2 ⟨kb, hok⟩
  have HT:=h.ok p b' ho hG'
  have hG2:=hG'.up (v:=v) (p:=p) (h.bd p)
  have eB2:Bu lim F B s v b (p+1)=upT b' v p (Av F B s v p):=by rw[Bu,if_pos ho,eB]
  cases k' with
  | zero =>
   have hhas:C4 q' 0 (v,p)=false:=rfl
   have hcall:=yld_A jj cs F size lim n (s-2^v) q' s b' B la pa v p (s-2^v) (2^v) (Av F B s v p) HT
   have eA2:Bf lim s v q 0 (p+1)=((upQ q' 0 (v,p)),(0+1)):=by
    rw[Bf,if_pos ho,eA]
    unfold askQ E6
    rw[show C4 q' 0 (v,p)=false from hhas]
    rfl
   have hB:=Qab (sB s b' B) size
   have hB1:=Qab (sB s (upT b' v p (Av F B s v p)) B) size
   have hS:=Qab (scF F (upQ q' 0 (v,p))) (0+1)
   have hE:=Qae (upQ q' 0 (v,p)) (0+1)
   have hS0:=Qab (scF F q') 0
   have hE0:=Qae q' 0
   have hla:=Qai (sL s b' la) size
   have hpa:=Qaj (sP s b' pa) size
   have jb:=Qai (sL s (upT b' v p (Av F B s v p)) la) size
   have jc:=Qaj (sP s (upT b' v p (Av F B s v p)) pa) size
   by_cases jm:p=s-2^v
   ·skip
    obtain⟨i1,i6_,i7⟩:=hnx.2 jm
    rw[i6_,eA2]at jd
    rw[i7,eB2]at hb1
    obtain⟨f1,f2⟩:=Prod.mk.inj jd
    have f3:=Nat.succ.inj f2
    subst hb1 f1 f3
    refine .inr ⟨.ret,[16],{sl:=[],os:=ykC jj cs F size lim n (s-2^v) (upQ q' 0 (v,p)) s (upT b' v p (Av F B s v p)) B la pa v .ready 0,md:=clM,lg:=[4,5,6,8,9,12,15]},[fn 6 (i6 (Ao p:Nat)),yes 8,(12,.call ⟨.bool true,Ae .e 0 (ykC jj cs F size lim n (s-2^v) (upQ q' 0 (v,p)) s (upT b' v p (Av F B s v p)) B la pa v .ready 0),17,[4,5,6,8,9,12,15]⟩),va 17 (u6 (nxM p (s-2^v):Nat)),va 19 (u6 (0:Nat)),yes 21],1000,by exact .inl ⟨trivial,rfl,rfl⟩,?_⟩
    rw[i1]at han
    clear hnx h HT
    exact v_ (p:=let y0:=An [Zz,Sm size,Sm (size-size)];let z0:=upT b' v p (Av F B s v p);let z1:=Ae T.e 0 (ykA jj cs size lim n (s-2^v) q' s b' B la pa v .ready);let z3:=upQ q' 0 (v,p);let z7:=u6 (↑(nxM p (s-2^v)):Int);let z8:=rgT size lim n (s-2^v) s v;let z9:=[u6 p];let z2:=CR.mk (V.bool true) (Ae T.e 0 (ykC jj cs F size lim n (s-2^v) z3 s z0 B la pa v .ready 0)) 17 [4,5,6,8,9,12,15];let z4:=nF (sL s z0 la) size;let z5:=uF (sP s z0 pa) size;let z6:=bF (sB s z0 B) size;Bn [Bn [Tt],Ac Pg g0 32 z9 (i6 ↑(Ao p)),Tt,decide ((↑(Ao p):Int)<=(lim:Int))=true,Aa Pg g0 (V.yld 15) z9 z1 16 z2,Bn [(V.fn 32 []=V.yld 15->z9=z9->z1=z1->16=16->CR.mk (i6 ↑(Ao p)) z1 16 []=z2)],Ai (Qac Pg) .sub 72 (u6 p) (u6 ↑(s-2^v))=some z7,Ai (Qac Pg) .and 72 z7 (u6 ↑(s-2^v))=some (u6 ↑(0:Nat)),(((0:Nat):Int)==0)=true,Tt,An [Sm [sl jj,gC cs],TT 2],Bn [Sm [V.nilp],Tt],An [Sm [V.nils,V.nils],TT 2],Bn [Sm [i6 0],Tt],An [z6=z6,HfL z6],An [Sm (Ak z3 1),HfE (Ak z3 1),1=1],Bn [An [Sm jj.length,Sm (Ab jj)],An [Sm cs.length,Sm (List.map sl cs)],y0,Tt,Bn [Zz,1=1]],Bn [Zz],An [z4=z4,HfL z4],An [z5=z5,HfL z5],Bn [y0,y0],Bn [Sm [i6 s],Tt],Bn [Sm [V.bool (Qaw z0)],Tt],Bn [Bn [Zz,Zz,Zz,Zz]],Bn [Sm [i6 v],Tt],An [lbO size lim n (s-2^v) s v .ready=O.loop .ready none 0 z8 [62] rgA rgB,Bs 16 z8],An [Sm (bF (scF F z3) 1),TT 18]])
   ·skip
    obtain⟨i1,i2,i3,i4,i5,i6_,i7⟩:=hnx.1 jm
    refine .inl ⟨(nxP p (s-2^v),(upQ q' 0 (v,p)),0+1,(upT b' v p (Av F B s v p))),[16],[fn 6 (i6 (Ao p:Nat)),yes 8,(12,.call ⟨.bool true,Ae .e 0 (ykC jj cs F size lim n (s-2^v) (upQ q' 0 (v,p)) s (upT b' v p (Av F B s v p)) B la pa v .ready 0),17,[4,5,6,8,9,12,15]⟩),va 17 (u6 (nxM p (s-2^v):Nat)),va 19 (u6 (nxP p (s-2^v):Nat)),no 21],1000,⟨i1,i2,fun _=>Nat.succ_le_succ (Nat.zero_le _),by dsimp only;omega,by rw[i6_];exact eA2,by rw[i7];exact eB2,hG2⟩,by dsimp only;omega,?_⟩
    clear hnx h HT
    exact v_ (p:=let y2:=An [Zz,Sm size,Sm (size-size)];let z0:=upT b' v p (Av F B s v p);let z1:=Ae T.e 0 (ykA jj cs size lim n (s-2^v) q' s b' B la pa v .ready);let z3:=(↑(nxP p (s-2^v)):Int);let z4:=upQ q' 0 (v,p);let z5:=u6 ↑(s-2^v);let z9:=u6 (↑(nxM p (s-2^v)):Int);let y0:=rgT size lim n (s-2^v) s v;let y1:=[u6 p];let z2:=CR.mk (V.bool true) (Ae T.e 0 (ykC jj cs F size lim n (s-2^v) z4 s z0 B la pa v .ready 0)) 17 [4,5,6,8,9,12,15];let z6:=nF (sL s z0 la) size;let z7:=uF (sP s z0 pa) size;let z8:=bF (sB s z0 B) size;Bn [Bn [Tt],Ac Pg g0 32 y1 (i6 ↑(Ao p)),Tt,decide ((↑(Ao p):Int)<=(lim:Int))=true,Aa Pg g0 (V.yld 15) y1 z1 16 z2,Bn [(V.fn 32 []=V.yld 15->y1=y1->z1=z1->16=16->CR.mk (i6 ↑(Ao p)) z1 16 []=z2)],Ai (Qac Pg) .sub 72 (u6 p) z5=some z9,Ai (Qac Pg) .and 72 z9 z5=some (u6 z3),(z3==0)=false,Bn [Tt,Sm [i6 lim],Sm [z5],z3=z3],An [Sm [sl jj,gC cs],TT 2],Bn [Sm [V.nilp],Tt],An [Sm [V.nils,V.nils],TT 2],Bn [Sm [i6 0],Tt],An [z8=z8,HfL z8],An [Sm (Ak z4 1),HfE (Ak z4 1),1=1],Bn [An [Sm jj.length,Sm (Ab jj)],An [Sm cs.length,Sm (List.map sl cs)],y2,Tt,Bn [Zz,1=1]],Bn [Zz],An [z6=z6,HfL z6],An [z7=z7,HfL z7],Bn [y2,y2],Bn [Sm [i6 s],Tt],Bn [Sm [V.bool (Qaw z0)],Tt],Bn [Bn [Zz,Zz,Zz,Zz]],Bn [Sm [i6 v],Tt],An [lbO size lim n (s-2^v) s v .ready=O.loop .ready none 0 y0 [62] rgA rgB,Bs 16 y0],An [Sm (bF (scF F z4) 1),TT 18]])
  | succ k =>
   rcases Dh q' v p (k+1)with⟨j,hj,hq,hf⟩|⟨hq,hf⟩
   ·have hhas : C4 q' (k + 1) (v, p) = true := Qdx.2 ⟨j, hj, hq⟩
    have hcall:=yld_Ch jj cs F size lim n (s-2^v) q' s b' B la pa v p (s-2^v) (2^v) (Av F B s v p) HT k j hj hq hf
    have eA2:Bf lim s v q 0 (p+1)=(q',(k+1)):=by
     rw[Bf,if_pos ho,eA]
     unfold askQ E6
     rw[show C4 q' (k+1) (v,p)=true from hhas]
     rfl
    have hB:=Qab (sB s b' B) size
    have hB1:=Qab (sB s (upT b' v p (Av F B s v p)) B) size
    have hS:=Qab (scF F q') (k+1)
    have hE:=Qae q' (k+1)
    have hS0:=Qab (scF F q') (k+1)
    have hE0:=Qae q' (k+1)
    have hla:=Qai (sL s b' la) size
    have hpa:=Qaj (sP s b' pa) size
    have jb:=Qai (sL s (upT b' v p (Av F B s v p)) la) size
    have jc:=Qaj (sP s (upT b' v p (Av F B s v p)) pa) size
    by_cases jm:p=s-2^v
    ·skip
     obtain⟨i1,i6_,i7⟩:=hnx.2 jm
     rw[i6_,eA2]at jd
     rw[i7,eB2]at hb1
     obtain⟨f1,f2⟩:=Prod.mk.inj jd
     have f3:=Nat.succ.inj f2
     subst hb1 f1 f3
     refine .inr ⟨.ret,[16],{sl:=[],os:=ykC jj cs F size lim n (s-2^v) q' s (upT b' v p (Av F B s v p)) B la pa v .ready k,md:=clM,lg:=[4,5,6,8,9,12,15]},[fn 6 (i6 (Ao p:Nat)),yes 8,(12,.call ⟨.bool true,Ae .e 0 (ykC jj cs F size lim n (s-2^v) q' s (upT b' v p (Av F B s v p)) B la pa v .ready k),17,[4,5,6,8,9,12,15]⟩),va 17 (u6 (nxM p (s-2^v):Nat)),va 19 (u6 (0:Nat)),yes 21],1000,by exact .inl ⟨trivial,rfl,rfl⟩,?_⟩
     rw[i1]at han
     clear hnx h HT
     exact v_ (p:=let y1:=An [Zz,Sm size,Sm (size-size)];let z0:=upT b' v p (Av F B s v p);let z1:=Ae T.e 0 (ykC jj cs F size lim n (s-2^v) q' s b' B la pa v .ready k);let z3:=bF (scF F q') (k+1);let z7:=u6 (↑(nxM p (s-2^v)):Int);let z8:=rgT size lim n (s-2^v) s v;let z9:=Ak q' (k+1);let y0:=[u6 p];let z2:=CR.mk (V.bool true) (Ae T.e 0 (ykC jj cs F size lim n (s-2^v) q' s z0 B la pa v .ready k)) 17 [4,5,6,8,9,12,15];let z4:=nF (sL s z0 la) size;let z5:=uF (sP s z0 pa) size;let z6:=bF (sB s z0 B) size;Bn [Bn [Tt],Ac Pg g0 32 y0 (i6 ↑(Ao p)),Tt,decide ((↑(Ao p):Int)<=(lim:Int))=true,Aa Pg g0 (V.yld 15) y0 z1 17 z2,Bn [(V.fn 32 []=V.yld 15->y0=y0->z1=z1->17=17->CR.mk (i6 ↑(Ao p)) z1 17 []=z2)],Ai (Qac Pg) .sub 72 (u6 p) (u6 ↑(s-2^v))=some z7,Ai (Qac Pg) .and 72 z7 (u6 ↑(s-2^v))=some (u6 ↑(0:Nat)),(((0:Nat):Int)==0)=true,Tt,An [Sm [sl jj,gC cs],TT 2],Bn [Sm [V.nilp],Tt],An [Sm [V.nils,V.nils],TT 2],Bn [Sm [i6 0],Tt],An [z6=z6,HfL z6],An [z9=z9,HfE z9,Sm (k+1)],Bn [An [Sm jj.length,Sm (Ab jj)],An [Sm cs.length,Sm (List.map sl cs)],y1,Tt,Bn [Zz,Sm (k+1)]],Bn [Zz],An [z4=z4,HfL z4],An [z5=z5,HfL z5],Bn [y1,y1],Bn [Sm [i6 s],Tt],Bn [Sm [V.bool (Qaw z0)],Tt],Bn [Bn [Zz,Zz,Zz,Zz]],Bn [Sm [i6 v],Tt],An [lbO size lim n (s-2^v) s v .ready=O.loop .ready none 0 z8 [62] rgA rgB,Bs 16 z8],An [z3=z3,HfL z3]])
    ·skip
     obtain⟨i1,i2,i3,i4,i5,i6_,i7⟩:=hnx.1 jm
     refine .inl ⟨(nxP p (s-2^v),q',k+1,(upT b' v p (Av F B s v p))),[16],[fn 6 (i6 (Ao p:Nat)),yes 8,(12,.call ⟨.bool true,Ae .e 0 (ykC jj cs F size lim n (s-2^v) q' s (upT b' v p (Av F B s v p)) B la pa v .ready k),17,[4,5,6,8,9,12,15]⟩),va 17 (u6 (nxM p (s-2^v):Nat)),va 19 (u6 (nxP p (s-2^v):Nat)),no 21],1000,⟨i1,i2,fun _=>Nat.succ_le_succ (Nat.zero_le _),by dsimp only;omega,by rw[i6_];exact eA2,by rw[i7];exact eB2,hG2⟩,by dsimp only;omega,?_⟩
     clear hnx h HT
     exact v_ (p:=let y3:=An [Zz,Sm size,Sm (size-size)];let z0:=upT b' v p (Av F B s v p);let z1:=Ae T.e 0 (ykC jj cs F size lim n (s-2^v) q' s b' B la pa v .ready k);let z3:=(↑(nxP p (s-2^v)):Int);let z4:=u6 ↑(s-2^v);let z5:=bF (scF F q') (k+1);let z9:=u6 (↑(nxM p (s-2^v)):Int);let y0:=rgT size lim n (s-2^v) s v;let y1:=Ak q' (k+1);let y2:=[u6 p];let z2:=CR.mk (V.bool true) (Ae T.e 0 (ykC jj cs F size lim n (s-2^v) q' s z0 B la pa v .ready k)) 17 [4,5,6,8,9,12,15];let z6:=nF (sL s z0 la) size;let z7:=uF (sP s z0 pa) size;let z8:=bF (sB s z0 B) size;Bn [Bn [Tt],Ac Pg g0 32 y2 (i6 ↑(Ao p)),Tt,decide ((↑(Ao p):Int)<=(lim:Int))=true,Aa Pg g0 (V.yld 15) y2 z1 17 z2,Bn [(V.fn 32 []=V.yld 15->y2=y2->z1=z1->17=17->CR.mk (i6 ↑(Ao p)) z1 17 []=z2)],Ai (Qac Pg) .sub 72 (u6 p) z4=some z9,Ai (Qac Pg) .and 72 z9 z4=some (u6 z3),(z3==0)=false,Bn [Tt,Sm [i6 lim],Sm [z4],z3=z3],An [Sm [sl jj,gC cs],TT 2],Bn [Sm [V.nilp],Tt],An [Sm [V.nils,V.nils],TT 2],Bn [Sm [i6 0],Tt],An [z8=z8,HfL z8],An [y1=y1,HfE y1,Sm (k+1)],Bn [An [Sm jj.length,Sm (Ab jj)],An [Sm cs.length,Sm (List.map sl cs)],y3,Tt,Bn [Zz,Sm (k+1)]],Bn [Zz],An [z6=z6,HfL z6],An [z7=z7,HfL z7],Bn [y3,y3],Bn [Sm [i6 s],Tt],Bn [Sm [V.bool (Qaw z0)],Tt],Bn [Bn [Zz,Zz,Zz,Zz]],Bn [Sm [i6 v],Tt],An [lbO size lim n (s-2^v) s v .ready=O.loop .ready none 0 y0 [62] rgA rgB,Bs 16 y0],An [z5=z5,HfL z5]])
   ·have hhas : C4 q' (k + 1) (v, p) = false := by
     cases hh:C4 q' (k+1) (v,p)with
     |false=>rfl
     |true=>obtain⟨j,h1,h2⟩:=Qdx.1 hh;exact absurd h2 (hq j h1)
    have hcall:=yld_Cm jj cs F size lim n (s-2^v) q' s b' B la pa v p (s-2^v) (2^v) (Av F B s v p) HT k o_ hf
    have eA2:Bf lim s v q 0 (p+1)=((upQ q' (k+1) (v,p)),(k+1+1)):=by
     rw[Bf,if_pos ho,eA]
     unfold askQ E6
     rw[show C4 q' (k+1) (v,p)=false from hhas]
     rfl
    have hB:=Qab (sB s b' B) size
    have hB1:=Qab (sB s (upT b' v p (Av F B s v p)) B) size
    have hS:=Qab (scF F (upQ q' (k+1) (v,p))) (k+1+1)
    have hE:=Qae (upQ q' (k+1) (v,p)) (k+1+1)
    have hS0:=Qab (scF F q') (k+1)
    have hE0:=Qae q' (k+1)
    have hla:=Qai (sL s b' la) size
    have hpa:=Qaj (sP s b' pa) size
    have jb:=Qai (sL s (upT b' v p (Av F B s v p)) la) size
    have jc:=Qaj (sP s (upT b' v p (Av F B s v p)) pa) size
    by_cases jm:p=s-2^v
    ·skip
     obtain⟨i1,i6_,i7⟩:=hnx.2 jm
     rw[i6_,eA2]at jd
     rw[i7,eB2]at hb1
     obtain⟨f1,f2⟩:=Prod.mk.inj jd
     have f3:=Nat.succ.inj f2
     subst hb1 f1 f3
     refine .inr ⟨.ret,[17],{sl:=[],os:=ykC jj cs F size lim n (s-2^v) (upQ q' (k+1) (v,p)) s (upT b' v p (Av F B s v p)) B la pa v .ready (k+1),md:=clM,lg:=[4,5,6,8,9,12,15]},[fn 6 (i6 (Ao p:Nat)),yes 8,(12,.call ⟨.bool true,Ae .e 0 (Fc jj cs F size lim n (s-2^v) (upQ q' (k+1) (v,p)) s (upT b' v p (Av F B s v p)) B la pa v .ready (k+1)),18,[4,5,6,8,9,12,16,15]⟩),va 17 (u6 (nxM p (s-2^v):Nat)),va 19 (u6 (0:Nat)),yes 21],1000,by exact .inl ⟨trivial,rfl,rfl⟩,?_⟩
     rw[i1]at han
     clear hnx h HT
     exact v_ (p:=let y2:=An [Zz,Sm size,Sm (size-size)];let z0:=upT b' v p (Av F B s v p);let z1:=Ae T.e 0 (ykC jj cs F size lim n (s-2^v) q' s b' B la pa v .ready k);let z3:=upQ q' (k+1) (v,p);let z9:=u6 (↑(nxM p (s-2^v)):Int);let y0:=rgT size lim n (s-2^v) s v;let y1:=[u6 p];let z2:=CR.mk (V.bool true) (Ae T.e 0 (Fc jj cs F size lim n (s-2^v) z3 s z0 B la pa v .ready (k+1))) 18 [4,5,6,8,9,12,16,15];let z4:=bF (scF F z3) (k+1+1);let z5:=nF (sL s z0 la) size;let z6:=uF (sP s z0 pa) size;let z7:=bF (sB s z0 B) size;let z8:=Ak z3 (k+1+1);Bn [Bn [Tt],Ac Pg g0 32 y1 (i6 ↑(Ao p)),Tt,decide ((↑(Ao p):Int)<=(lim:Int))=true,Aa Pg g0 (V.yld 15) y1 z1 17 z2,Bn [(V.fn 32 []=V.yld 15->y1=y1->z1=z1->17=17->CR.mk (i6 ↑(Ao p)) z1 17 []=z2)],Ai (Qac Pg) .sub 72 (u6 p) (u6 ↑(s-2^v))=some z9,Ai (Qac Pg) .and 72 z9 (u6 ↑(s-2^v))=some (u6 ↑(0:Nat)),(((0:Nat):Int)==0)=true,Tt,An [Sm [sl jj,gC cs],TT 2],Bn [Sm [V.nilp],Tt],An [Sm [V.nils,V.nils],TT 2],Bn [Sm [i6 0],Tt],An [z7=z7,HfL z7],An [z8=z8,HfE z8,Sm (k+1+1)],Bn [An [Sm jj.length,Sm (Ab jj)],An [Sm cs.length,Sm (List.map sl cs)],y2,Tt,Bn [Zz,Sm (Nat.succ k+1)]],Bn [Zz],An [z5=z5,HfL z5],An [z6=z6,HfL z6],Bn [y2,y2],Bn [Sm [i6 s],Tt],Bn [Sm [V.bool (Qaw z0)],Tt],Bn [Bn [Zz,Zz,Zz,Zz]],Bn [Sm [i6 v],Tt],An [lbO size lim n (s-2^v) s v .ready=O.loop .ready none 0 y0 [62] rgA rgB,Bs 16 y0],An [z4=z4,HfL z4]])
    ·skip
     obtain⟨i1,i2,i3,i4,i5,i6_,i7⟩:=hnx.1 jm
     refine .inl ⟨(nxP p (s-2^v),(upQ q' (k+1) (v,p)),(k+1)+1,(upT b' v p (Av F B s v p))),[17],[fn 6 (i6 (Ao p:Nat)),yes 8,(12,.call ⟨.bool true,Ae .e 0 (Fc jj cs F size lim n (s-2^v) (upQ q' (k+1) (v,p)) s (upT b' v p (Av F B s v p)) B la pa v .ready (k+1)),18,[4,5,6,8,9,12,16,15]⟩),va 17 (u6 (nxM p (s-2^v):Nat)),va 19 (u6 (nxP p (s-2^v):Nat)),no 21],1000,⟨i1,i2,fun _=>Nat.succ_le_succ (Nat.zero_le _),by dsimp only;omega,by rw[i6_];exact eA2,by rw[i7];exact eB2,hG2⟩,by dsimp only;omega,?_⟩
     clear hnx h HT
     exact v_ (p:=let y4:=An [Zz,Sm size,Sm (size-size)];let z0:=upT b' v p (Av F B s v p);let z1:=Ae T.e 0 (ykC jj cs F size lim n (s-2^v) q' s b' B la pa v .ready k);let z3:=upQ q' (k+1) (v,p);let z4:=(↑(nxP p (s-2^v)):Int);let z5:=u6 ↑(s-2^v);let z6:=Nat.succ k;let y0:=u6 (↑(nxM p (s-2^v)):Int);let y1:=rgT size lim n (s-2^v) s v;let y3:=[u6 p];let z2:=CR.mk (V.bool true) (Ae T.e 0 (Fc jj cs F size lim n (s-2^v) z3 s z0 B la pa v .ready (k+1))) 18 [4,5,6,8,9,12,16,15];let z7:=nF (sL s z0 la) size;let z8:=uF (sP s z0 pa) size;let z9:=bF (sB s z0 B) size;let y2:=bF (scF F z3) (z6+1);Bn [Bn [Tt],Ac Pg g0 32 y3 (i6 ↑(Ao p)),Tt,decide ((↑(Ao p):Int)<=(lim:Int))=true,Aa Pg g0 (V.yld 15) y3 z1 17 z2,Bn [(V.fn 32 []=V.yld 15->y3=y3->z1=z1->17=17->CR.mk (i6 ↑(Ao p)) z1 17 []=z2)],Ai (Qac Pg) .sub 72 (u6 p) z5=some y0,Ai (Qac Pg) .and 72 y0 z5=some (u6 z4),(z4==0)=false,Bn [Tt,Sm [i6 lim],Sm [z5],z4=z4],An [Sm [sl jj,gC cs],TT 2],Bn [Sm [V.nilp],Tt],An [Sm [V.nils,V.nils],TT 2],Bn [Sm [i6 0],Tt],An [z9=z9,HfL z9],An [Ak z3 (z6+1)=Ak z3 (k+1+1),HfE (Ak z3 (z6+1)),z6+1=k+1+1],Bn [An [Sm jj.length,Sm (Ab jj)],An [Sm cs.length,Sm (List.map sl cs)],y4,Tt,Bn [Zz,Sm (z6+1)]],Bn [Zz],An [z7=z7,HfL z7],An [z8=z8,HfL z8],Bn [y4,y4],Bn [Sm [i6 s],Tt],Bn [Sm [V.bool (Qaw z0)],Tt],Bn [Bn [Zz,Zz,Zz,Zz]],Bn [Sm [i6 v],Tt],An [lbO size lim n (s-2^v) s v .ready=O.loop .ready none 0 y1 [62] rgA rgB,Bs 16 y1],An [y2=bF (scF F z3) (k+1+1),HfL y2]])
 ·have ho : ¬ okT lim s v p = true := fun h' => hok ((Qdp hs32 hv5 hvb hp).1 h').2
  have HT:=trivial
  have hcall:=trivial
  have hG2:=hG'
  have eB2:Bu lim F B s v b (p+1)=b':=by rw[Bu,if_neg ho,eB]
  cases k' with
  |zero=>
   have hp0:p=0:=Nat.eq_zero_of_not_pos (fun h'=>by have:=jp o_;omega)
   subst hp0
   exact absurd (Nat.zero_le _) hok
  | succ k =>
   have eA2:Bf lim s v q 0 (p+1)=(q',k+1):=by rw[Bf,if_neg ho,eA]
   have hB:=Qab (sB s b' B) size
   have hB1:=Qab (sB s b' B) size
   have hS:=Qab (scF F q') (k+1)
   have hE:=Qae q' (k+1)
   have hS0:=Qab (scF F q') (k+1)
   have hE0:=Qae q' (k+1)
   have hla:=Qai (sL s b' la) size
   have hpa:=Qaj (sP s b' pa) size
   have jb:=Qai (sL s b' la) size
   have jc:=Qaj (sP s b' pa) size
   by_cases jm:p=s-2^v
   ·skip
    obtain⟨i1,i6_,i7⟩:=hnx.2 jm
    rw[i6_,eA2]at jd
    rw[i7,eB2]at hb1
    obtain⟨f1,f2⟩:=Prod.mk.inj jd
    have f3:=Nat.succ.inj f2
    subst hb1 f1 f3
    refine .inr ⟨.ret,[16],{sl:=[],os:=ykC jj cs F size lim n (s-2^v) q' s b' B la pa v .ready k,md:=clM,lg:=[4,5,6,8,9,12,15]},[fn 6 (i6 (Ao p:Nat)),no 8,va 17 (u6 (nxM p (s-2^v):Nat)),va 19 (u6 (0:Nat)),yes 21],1000,by exact .inl ⟨trivial,rfl,rfl⟩,?_⟩
    rw[i1]at han
    clear hnx h HT
    exact v_ (p:=let z7:=An [Zz,Sm size,Sm (size-size)];let z0:=bF (scF F q') (k+1);let z1:=nF (sL s b' la) size;let z2:=uF (sP s b' pa) size;let z3:=bF (sB s b' B) size;let z4:=u6 (↑(nxM p (s-2^v)):Int);let z5:=rgT size lim n (s-2^v) s v;let z6:=Ak q' (k+1);Bn [Bn [Tt],Ac Pg g0 32 [u6 p] (i6 ↑(Ao p)),Tt,decide ((↑(Ao p):Int)<=(lim:Int))=false,Ai (Qac Pg) .sub 72 (u6 p) (u6 ↑(s-2^v))=some z4,Ai (Qac Pg) .and 72 z4 (u6 ↑(s-2^v))=some (u6 ↑(0:Nat)),(((0:Nat):Int)==0)=true,Tt,An [Sm [sl jj,gC cs],TT 2],Bn [Sm [V.nilp],Tt],An [Sm [V.nils,V.nils],TT 2],Bn [Sm [i6 0],Tt],An [z3=z3,HfL z3],An [z6=z6,HfE z6,Sm (k+1)],Bn [An [Sm jj.length,Sm (Ab jj)],An [Sm cs.length,Sm (List.map sl cs)],z7,Tt,Bn [Zz,Sm (k+1)]],Bn [Zz],An [z1=z1,HfL z1],An [z2=z2,HfL z2],Bn [z7,z7],Bn [Sm [i6 s],Tt],Bn [Sm [V.bool (Qaw b')],Tt],Bn [Bn [Zz,Zz,Zz,Zz]],Bn [Sm [i6 v],Tt],An [lbO size lim n (s-2^v) s v .ready=O.loop .ready none 0 z5 [62] rgA rgB,Bs 16 z5],An [z0=z0,HfL z0]])
   ·skip
    obtain⟨i1,i2,i3,i4,i5,i6_,i7⟩:=hnx.1 jm
    refine .inl ⟨(nxP p (s-2^v),q',k+1,b'),[16],[fn 6 (i6 (Ao p:Nat)),no 8,va 17 (u6 (nxM p (s-2^v):Nat)),va 19 (u6 (nxP p (s-2^v):Nat)),no 21],1000,⟨i1,i2,fun _=>Nat.succ_le_succ (Nat.zero_le _),by dsimp only;omega,by rw[i6_];exact eA2,by rw[i7];exact eB2,hG2⟩,by dsimp only;omega,?_⟩
    clear hnx h HT
    exact v_ (p:=let z9:=An [Zz,Sm size,Sm (size-size)];let z0:=(↑(nxP p (s-2^v)):Int);let z1:=u6 ↑(s-2^v);let z2:=bF (scF F q') (k+1);let z3:=nF (sL s b' la) size;let z4:=uF (sP s b' pa) size;let z5:=bF (sB s b' B) size;let z6:=u6 (↑(nxM p (s-2^v)):Int);let z7:=rgT size lim n (s-2^v) s v;let z8:=Ak q' (k+1);Bn [Bn [Tt],Ac Pg g0 32 [u6 p] (i6 ↑(Ao p)),Tt,decide ((↑(Ao p):Int)<=(lim:Int))=false,Ai (Qac Pg) .sub 72 (u6 p) z1=some z6,Ai (Qac Pg) .and 72 z6 z1=some (u6 z0),(z0==0)=false,Bn [Tt,Sm [i6 lim],Sm [z1],z0=z0],An [Sm [sl jj,gC cs],TT 2],Bn [Sm [V.nilp],Tt],An [Sm [V.nils,V.nils],TT 2],Bn [Sm [i6 0],Tt],An [z5=z5,HfL z5],An [z8=z8,HfE z8,Sm (k+1)],Bn [An [Sm jj.length,Sm (Ab jj)],An [Sm cs.length,Sm (List.map sl cs)],z9,Tt,Bn [Zz,Sm (k+1)]],Bn [Zz],An [z3=z3,HfL z3],An [z4=z4,HfL z4],Bn [z9,z9],Bn [Sm [i6 s],Tt],Bn [Sm [V.bool (Qaw b')],Tt],Bn [Bn [Zz,Zz,Zz,Zz]],Bn [Sm [i6 v],Tt],An [lbO size lim n (s-2^v) s v .ready=O.loop .ready none 0 z7 [62] rgA rgB,Bs 16 z7],An [z2=z2,HfL z2]])
theorem Qg4(jj:List Int)(cs:List (List Int))(F:Nat->Nat->Nat->Int)(size lim n:Nat)(q:Nat->Nat×Nat)(s:Nat)(b:BSt)(B:Nat->Nat->Int)(la pa:Nat->Nat)(v:Nat)(k0:Nat)(hk0:k0<=10000)(h:Qej jj cs F size lim s v B)(hG:Ck b)(q1:Nat->Nat×Nat)(k1:Nat)(b1:BSt)(jd:Bf lim s v q (k0+1) (s+1)=(q1,k1+1))(hb1:Bu lim F B s v b (s+1)=b1):
  Sat Pg none 17 (at' 56 [1,0]) (Ah g0 22 (kpbS jj cs F size lim n s B la pa v (0,q,k0,b,false))) (Qaf g0 22 [(k1=k0,.ret,{sl:=[],os:=ykB jj cs F size lim n (s-2^v) q1 s b1 B la pa v .ready k1,md:=clM,lg:=[4,5,6,8,9,12,15,16]}),(k1≠k0,.ret,{sl:=[],os:=ykD jj cs F size lim n (s-2^v) q1 s b1 B la pa v .ready k1,md:=clM,lg:=[4,5,6,8,9,12,15,16]})]):=by
 have hs32:=h.s32
 have hv5:=h.v5
 have hvb:=h.bit
 obtain⟨hw,_⟩:=Qes s hs32 v hv5 hvb
 have hp2:0<2^v:=Nat.pow_pos d_
 have hl:=Qk7 size lim n (s-2^v) s v 17 d_
 have hc:=Qag jj
 have hg:=Qap cs
 refine Qax vE_ok Af Qaa (b:=at' 56 [1,0,0]) k_ (fun x=>x.1<32/\x.1&&& (s-2^v)=x.1/\x.2.2.1<=10000+x.1/\Bf lim s v q (k0+1) x.1=(x.2.1,x.2.2.1+1)/\Bu lim F B s v b x.1=x.2.2.2.1/\Ck x.2.2.2.1/\(if x.2.2.2.2 then x.2.2.1≠k0 else x.2.2.1=k0)) (kpbS jj cs F size lim n s B la pa v) (fun x=>32-x.1) (fun x hx=>?_) (0,q,k0,b,false) ⟨(by show 0<32;decide),Nat.zero_and _,by dsimp only;omega,rfl,rfl,hG,rfl⟩
 obtain⟨p,q',k,b',fl⟩:=x
 obtain⟨hp,kb,hk,eA,eB,hG',hm⟩:=hx
 dsimp only at hp kb hk eA eB hG' hm
 have hnx:=Qof (lim:=lim) (q:=q) (k:=(k0+1)) (F:=F) (B:=B) (b:=b) hs32 hv5 hvb hp kb
 have hone:=Qmo p hp
 have hsu:=fun G t=>nx_sub (w:=s-2^v) (p:=p) o_ hp G t
 have han:=fun G t=>nx_and (w:=s-2^v) (p:=p) o_ hp G t
 have hple:p<=s-2^v:=by rw[<-kb];exact Nat.and_le_right
 by_cases hok:Ao p<=lim
 ·have ho : okT lim s v p = true := (Qdp hs32 hv5 hvb hp).2 ⟨kb, hok⟩
  have HT:=h.ok p b' ho hG'
  have hG2:=hG'.up (v:=v) (p:=p) (h.bd p)
  have eB2:Bu lim F B s v b (p+1)=upT b' v p (Av F B s v p):=by rw[Bu,if_pos ho,eB]
  cases fl with
  | false =>
   rcases Dh q' v p (k+1)with⟨j,hj,hq,hf⟩|⟨hq,hf⟩
   ·have hhas : C4 q' (k + 1) (v, p) = true := Qdx.2 ⟨j, hj, hq⟩
    have hcall:=yld_Bh jj cs F size lim n (s-2^v) q' s b' B la pa v p (s-2^v) (2^v) (Av F B s v p) HT k j hj hq hf
    have eA2:Bf lim s v q (k0+1) (p+1)=(q',(k+1)):=by
     rw[Bf,if_pos ho,eA]
     unfold askQ E6
     rw[show C4 q' (k+1) (v,p)=true from hhas]
     rfl
    have hB:=Qab (sB s b' B) size
    have hB1:=Qab (sB s (upT b' v p (Av F B s v p)) B) size
    have hS:=Qab (scF F q') (k+1)
    have hE:=Qae q' (k+1)
    have hS0:=Qab (scF F q') (k+1)
    have hE0:=Qae q' (k+1)
    have hla:=Qai (sL s b' la) size
    have hpa:=Qaj (sP s b' pa) size
    have jb:=Qai (sL s (upT b' v p (Av F B s v p)) la) size
    have jc:=Qaj (sP s (upT b' v p (Av F B s v p)) pa) size
    have hfl:k=k0:=hm
    by_cases jm:p=s-2^v
    ·skip
     obtain⟨i1,i6_,i7⟩:=hnx.2 jm
     rw[i6_,eA2]at jd
     rw[i7,eB2]at hb1
     obtain⟨f1,f2⟩:=Prod.mk.inj jd
     have f3:=Nat.succ.inj f2
     subst hb1 f1 f3
     refine .inr ⟨.ret,[],{sl:=[],os:=ykB jj cs F size lim n (s-2^v) q' s (upT b' v p (Av F B s v p)) B la pa v .ready k,md:=clM,lg:=[4,5,6,8,9,12,15,16]},[fn 6 (i6 (Ao p:Nat)),yes 8,(12,.call ⟨.bool true,Ae .e 0 (ykB jj cs F size lim n (s-2^v) q' s (upT b' v p (Av F B s v p)) B la pa v .ready k),17,[4,5,6,8,9,12,16]⟩),va 17 (u6 (nxM p (s-2^v):Nat)),va 19 (u6 (0:Nat)),yes 21],1000,by exact .inl ⟨hfl,rfl,rfl⟩,?_⟩
     rw[i1]at han
     clear hnx h HT
     exact v_ (p:=let y1:=An [Zz,Sm size,Sm (size-size)];let z0:=upT b' v p (Av F B s v p);let z1:=Ae T.e 0 (ykB jj cs F size lim n (s-2^v) q' s b' B la pa v .ready k);let z3:=bF (scF F q') (k+1);let z7:=u6 (↑(nxM p (s-2^v)):Int);let z8:=rgT size lim n (s-2^v) s v;let z9:=Ak q' (k+1);let y0:=[u6 p];let z2:=CR.mk (V.bool true) (Ae T.e 0 (ykB jj cs F size lim n (s-2^v) q' s z0 B la pa v .ready k)) 17 [4,5,6,8,9,12,16];let z4:=nF (sL s z0 la) size;let z5:=uF (sP s z0 pa) size;let z6:=bF (sB s z0 B) size;Bn [Bn [Tt],Ac Pg g0 32 y0 (i6 ↑(Ao p)),Tt,decide ((↑(Ao p):Int)<=(lim:Int))=true,Aa Pg g0 (V.yld 16) y0 z1 17 z2,Bn [(V.fn 32 []=V.yld 16->y0=y0->z1=z1->17=17->CR.mk (i6 ↑(Ao p)) z1 17 []=z2)],Ai (Qac Pg) .sub 72 (u6 p) (u6 ↑(s-2^v))=some z7,Ai (Qac Pg) .and 72 z7 (u6 ↑(s-2^v))=some (u6 ↑(0:Nat)),(((0:Nat):Int)==0)=true,Tt,An [Sm [sl jj,gC cs],TT 2],Bn [Sm [V.nilp],Tt],An [Sm [V.nils,V.nils],TT 2],Bn [Sm [i6 0],Tt],An [z6=z6,HfL z6],An [z9=z9,HfE z9,Sm (k+1)],Bn [An [Sm jj.length,Sm (Ab jj)],An [Sm cs.length,Sm (List.map sl cs)],y1,Tt,Bn [Zz,Sm (k+1)]],Bn [Zz],An [z4=z4,HfL z4],An [z5=z5,HfL z5],Bn [y1,y1],Bn [Sm [i6 s],Tt],Bn [Sm [V.bool (Qaw z0)],Tt],Bn [Bn [Zz,Zz,Zz,Zz]],Bn [Sm [i6 v],Tt],An [z3=z3,HfL z3],An [lbO size lim n (s-2^v) s v .ready=O.loop .ready none 0 z8 [62] rgA rgB,Bs 17 z8]])
    ·skip
     obtain⟨i1,i2,i3,i4,i5,i6_,i7⟩:=hnx.1 jm
     refine .inl ⟨(nxP p (s-2^v),q',k,(upT b' v p (Av F B s v p)),false),[],[fn 6 (i6 (Ao p:Nat)),yes 8,(12,.call ⟨.bool true,Ae .e 0 (ykB jj cs F size lim n (s-2^v) q' s (upT b' v p (Av F B s v p)) B la pa v .ready k),17,[4,5,6,8,9,12,16]⟩),va 17 (u6 (nxM p (s-2^v):Nat)),va 19 (u6 (nxP p (s-2^v):Nat)),no 21],1000,⟨i1,i2,by dsimp only;omega,by rw[i6_];exact eA2,by rw[i7];exact eB2,hG2,hfl⟩,by dsimp only;omega,?_⟩
     clear hnx h HT
     exact v_ (p:=let y3:=An [Zz,Sm size,Sm (size-size)];let z0:=upT b' v p (Av F B s v p);let z1:=Ae T.e 0 (ykB jj cs F size lim n (s-2^v) q' s b' B la pa v .ready k);let z3:=(↑(nxP p (s-2^v)):Int);let z4:=u6 ↑(s-2^v);let z5:=bF (scF F q') (k+1);let z9:=u6 (↑(nxM p (s-2^v)):Int);let y0:=rgT size lim n (s-2^v) s v;let y1:=Ak q' (k+1);let y2:=[u6 p];let z2:=CR.mk (V.bool true) (Ae T.e 0 (ykB jj cs F size lim n (s-2^v) q' s z0 B la pa v .ready k)) 17 [4,5,6,8,9,12,16];let z6:=nF (sL s z0 la) size;let z7:=uF (sP s z0 pa) size;let z8:=bF (sB s z0 B) size;Bn [Bn [Tt],Ac Pg g0 32 y2 (i6 ↑(Ao p)),Tt,decide ((↑(Ao p):Int)<=(lim:Int))=true,Aa Pg g0 (V.yld 16) y2 z1 17 z2,Bn [(V.fn 32 []=V.yld 16->y2=y2->z1=z1->17=17->CR.mk (i6 ↑(Ao p)) z1 17 []=z2)],Ai (Qac Pg) .sub 72 (u6 p) z4=some z9,Ai (Qac Pg) .and 72 z9 z4=some (u6 z3),(z3==0)=false,Bn [Tt,Sm [i6 lim],Sm [z4],z3=z3],An [Sm [sl jj,gC cs],TT 2],Bn [Sm [V.nilp],Tt],An [Sm [V.nils,V.nils],TT 2],Bn [Sm [i6 0],Tt],An [z8=z8,HfL z8],An [y1=y1,HfE y1,Sm (k+1)],Bn [An [Sm jj.length,Sm (Ab jj)],An [Sm cs.length,Sm (List.map sl cs)],y3,Tt,Bn [Zz,Sm (k+1)]],Bn [Zz],An [z6=z6,HfL z6],An [z7=z7,HfL z7],Bn [y3,y3],Bn [Sm [i6 s],Tt],Bn [Sm [V.bool (Qaw z0)],Tt],Bn [Bn [Zz,Zz,Zz,Zz]],Bn [Sm [i6 v],Tt],An [z5=z5,HfL z5],An [lbO size lim n (s-2^v) s v .ready=O.loop .ready none 0 y0 [62] rgA rgB,Bs 17 y0]])
   ·have hhas : C4 q' (k + 1) (v, p) = false := by
     cases hh:C4 q' (k+1) (v,p)with
     |false=>rfl
     |true=>obtain⟨j,h1,h2⟩:=Qdx.1 hh;exact absurd h2 (hq j h1)
    have hcall:=yld_Bm jj cs F size lim n (s-2^v) q' s b' B la pa v p (s-2^v) (2^v) (Av F B s v p) HT k o_ hf
    have eA2:Bf lim s v q (k0+1) (p+1)=((upQ q' (k+1) (v,p)),(k+1+1)):=by
     rw[Bf,if_pos ho,eA]
     unfold askQ E6
     rw[show C4 q' (k+1) (v,p)=false from hhas]
     rfl
    have hB:=Qab (sB s b' B) size
    have hB1:=Qab (sB s (upT b' v p (Av F B s v p)) B) size
    have hS:=Qab (scF F (upQ q' (k+1) (v,p))) (k+1+1)
    have hE:=Qae (upQ q' (k+1) (v,p)) (k+1+1)
    have hS0:=Qab (scF F q') (k+1)
    have hE0:=Qae q' (k+1)
    have hla:=Qai (sL s b' la) size
    have hpa:=Qaj (sP s b' pa) size
    have jb:=Qai (sL s (upT b' v p (Av F B s v p)) la) size
    have jc:=Qaj (sP s (upT b' v p (Av F B s v p)) pa) size
    have hfl:(k+1)≠k0:=by have hm':k=k0:=hm;omega
    by_cases jm:p=s-2^v
    ·skip
     obtain⟨i1,i6_,i7⟩:=hnx.2 jm
     rw[i6_,eA2]at jd
     rw[i7,eB2]at hb1
     obtain⟨f1,f2⟩:=Prod.mk.inj jd
     have f3:=Nat.succ.inj f2
     subst hb1 f1 f3
     refine .inr ⟨.ret,[17],{sl:=[],os:=ykD jj cs F size lim n (s-2^v) (upQ q' (k+1) (v,p)) s (upT b' v p (Av F B s v p)) B la pa v .ready (k+1),md:=clM,lg:=[4,5,6,8,9,12,15,16]},[fn 6 (i6 (Ao p:Nat)),yes 8,(12,.call ⟨.bool true,Ae .e 0 (ykD jj cs F size lim n (s-2^v) (upQ q' (k+1) (v,p)) s (upT b' v p (Av F B s v p)) B la pa v .ready (k+1)),18,[4,5,6,8,9,12,15,16]⟩),va 17 (u6 (nxM p (s-2^v):Nat)),va 19 (u6 (0:Nat)),yes 21],1000,by exact .inr (.inl ⟨hfl,rfl,rfl⟩),?_⟩
     rw[i1]at han
     clear hnx h HT
     exact v_ (p:=let y2:=An [Zz,Sm size,Sm (size-size)];let z0:=upT b' v p (Av F B s v p);let z1:=Ae T.e 0 (ykB jj cs F size lim n (s-2^v) q' s b' B la pa v .ready k);let z3:=upQ q' (k+1) (v,p);let z9:=u6 (↑(nxM p (s-2^v)):Int);let y0:=rgT size lim n (s-2^v) s v;let y1:=[u6 p];let z2:=CR.mk (V.bool true) (Ae T.e 0 (ykD jj cs F size lim n (s-2^v) z3 s z0 B la pa v .ready (k+1))) 18 [4,5,6,8,9,12,15,16];let z4:=bF (scF F z3) (k+1+1);let z5:=nF (sL s z0 la) size;let z6:=uF (sP s z0 pa) size;let z7:=bF (sB s z0 B) size;let z8:=Ak z3 (k+1+1);Bn [Bn [Tt],Ac Pg g0 32 y1 (i6 ↑(Ao p)),Tt,decide ((↑(Ao p):Int)<=(lim:Int))=true,Aa Pg g0 (V.yld 16) y1 z1 17 z2,Bn [(V.fn 32 []=V.yld 16->y1=y1->z1=z1->17=17->CR.mk (i6 ↑(Ao p)) z1 17 []=z2)],Ai (Qac Pg) .sub 72 (u6 p) (u6 ↑(s-2^v))=some z9,Ai (Qac Pg) .and 72 z9 (u6 ↑(s-2^v))=some (u6 ↑(0:Nat)),(((0:Nat):Int)==0)=true,Tt,An [Sm [sl jj,gC cs],TT 2],Bn [Sm [V.nilp],Tt],An [Sm [V.nils,V.nils],TT 2],Bn [Sm [i6 0],Tt],An [z7=z7,HfL z7],An [z8=z8,HfE z8,Sm (k+1+1)],Bn [An [Sm jj.length,Sm (Ab jj)],An [Sm cs.length,Sm (List.map sl cs)],y2,Tt,Bn [Zz,Sm (Nat.succ k+1)]],Bn [Zz],An [z5=z5,HfL z5],An [z6=z6,HfL z6],Bn [y2,y2],Bn [Sm [i6 s],Tt],Bn [Sm [V.bool (Qaw z0)],Tt],Bn [Bn [Zz,Zz,Zz,Zz]],Bn [Sm [i6 v],Tt],Tt,An [lbO size lim n (s-2^v) s v .ready=O.loop .ready none 0 y0 [62] rgA rgB,Bs 17 y0],An [z4=z4,HfL z4]])
    ·skip
     obtain⟨i1,i2,i3,i4,i5,i6_,i7⟩:=hnx.1 jm
     refine .inl ⟨(nxP p (s-2^v),(upQ q' (k+1) (v,p)),(k+1),(upT b' v p (Av F B s v p)),true),[17],[fn 6 (i6 (Ao p:Nat)),yes 8,(12,.call ⟨.bool true,Ae .e 0 (ykD jj cs F size lim n (s-2^v) (upQ q' (k+1) (v,p)) s (upT b' v p (Av F B s v p)) B la pa v .ready (k+1)),18,[4,5,6,8,9,12,15,16]⟩),va 17 (u6 (nxM p (s-2^v):Nat)),va 19 (u6 (nxP p (s-2^v):Nat)),no 21],1000,⟨i1,i2,by dsimp only;omega,by rw[i6_];exact eA2,by rw[i7];exact eB2,hG2,hfl⟩,by dsimp only;omega,?_⟩
     clear hnx h HT
     exact v_ (p:=let y4:=An [Zz,Sm size,Sm (size-size)];let z0:=upT b' v p (Av F B s v p);let z1:=Ae T.e 0 (ykB jj cs F size lim n (s-2^v) q' s b' B la pa v .ready k);let z3:=upQ q' (k+1) (v,p);let z4:=(↑(nxP p (s-2^v)):Int);let z5:=u6 ↑(s-2^v);let y1:=u6 (↑(nxM p (s-2^v)):Int);let y2:=rgT size lim n (s-2^v) s v;let y3:=[u6 p];let z2:=CR.mk (V.bool true) (Ae T.e 0 (ykD jj cs F size lim n (s-2^v) z3 s z0 B la pa v .ready (k+1))) 18 [4,5,6,8,9,12,15,16];let z6:=bF (scF F z3) (k+1+1);let z7:=nF (sL s z0 la) size;let z8:=uF (sP s z0 pa) size;let z9:=bF (sB s z0 B) size;let y0:=Ak z3 (k+1+1);Bn [Bn [Tt],Ac Pg g0 32 y3 (i6 ↑(Ao p)),Tt,decide ((↑(Ao p):Int)<=(lim:Int))=true,Aa Pg g0 (V.yld 16) y3 z1 17 z2,Bn [(V.fn 32 []=V.yld 16->y3=y3->z1=z1->17=17->CR.mk (i6 ↑(Ao p)) z1 17 []=z2)],Ai (Qac Pg) .sub 72 (u6 p) z5=some y1,Ai (Qac Pg) .and 72 y1 z5=some (u6 z4),(z4==0)=false,Bn [Tt,Sm [i6 lim],Sm [z5],z4=z4],An [Sm [sl jj,gC cs],TT 2],Bn [Sm [V.nilp],Tt],An [Sm [V.nils,V.nils],TT 2],Bn [Sm [i6 0],Tt],An [z9=z9,HfL z9],An [y0=y0,HfE y0,Sm (k+1+1)],Bn [An [Sm jj.length,Sm (Ab jj)],An [Sm cs.length,Sm (List.map sl cs)],y4,Tt,Bn [Zz,Sm (Nat.succ k+1)]],Bn [Zz],An [z7=z7,HfL z7],An [z8=z8,HfL z8],Bn [y4,y4],Bn [Sm [i6 s],Tt],Bn [Sm [V.bool (Qaw z0)],Tt],Bn [Bn [Zz,Zz,Zz,Zz]],Bn [Sm [i6 v],Tt],Tt,An [lbO size lim n (s-2^v) s v .ready=O.loop .ready none 0 y2 [62] rgA rgB,Bs 17 y2],An [z6=z6,HfL z6]])
  | true =>
   rcases Dh q' v p (k+1)with⟨j,hj,hq,hf⟩|⟨hq,hf⟩
   ·have hhas : C4 q' (k + 1) (v, p) = true := Qdx.2 ⟨j, hj, hq⟩
    have hcall:=yld_Dh jj cs F size lim n (s-2^v) q' s b' B la pa v p (s-2^v) (2^v) (Av F B s v p) HT k j hj hq hf
    have eA2:Bf lim s v q (k0+1) (p+1)=(q',(k+1)):=by
     rw[Bf,if_pos ho,eA]
     unfold askQ E6
     rw[show C4 q' (k+1) (v,p)=true from hhas]
     rfl
    have hB:=Qab (sB s b' B) size
    have hB1:=Qab (sB s (upT b' v p (Av F B s v p)) B) size
    have hS:=Qab (scF F q') (k+1)
    have hE:=Qae q' (k+1)
    have hS0:=Qab (scF F q') (k+1)
    have hE0:=Qae q' (k+1)
    have hla:=Qai (sL s b' la) size
    have hpa:=Qaj (sP s b' pa) size
    have jb:=Qai (sL s (upT b' v p (Av F B s v p)) la) size
    have jc:=Qaj (sP s (upT b' v p (Av F B s v p)) pa) size
    have hfl:k≠k0:=hm
    by_cases jm:p=s-2^v
    ·skip
     obtain⟨i1,i6_,i7⟩:=hnx.2 jm
     rw[i6_,eA2]at jd
     rw[i7,eB2]at hb1
     obtain⟨f1,f2⟩:=Prod.mk.inj jd
     have f3:=Nat.succ.inj f2
     subst hb1 f1 f3
     refine .inr ⟨.ret,[17],{sl:=[],os:=ykD jj cs F size lim n (s-2^v) q' s (upT b' v p (Av F B s v p)) B la pa v .ready k,md:=clM,lg:=[4,5,6,8,9,12,15,16]},[fn 6 (i6 (Ao p:Nat)),yes 8,(12,.call ⟨.bool true,Ae .e 0 (ykD jj cs F size lim n (s-2^v) q' s (upT b' v p (Av F B s v p)) B la pa v .ready k),18,[4,5,6,8,9,12,16]⟩),va 17 (u6 (nxM p (s-2^v):Nat)),va 19 (u6 (0:Nat)),yes 21],1000,by exact .inr (.inl ⟨hfl,rfl,rfl⟩),?_⟩
     rw[i1]at han
     clear hnx h HT
     exact v_ (p:=let y1:=An [Zz,Sm size,Sm (size-size)];let z0:=upT b' v p (Av F B s v p);let z1:=Ae T.e 0 (ykD jj cs F size lim n (s-2^v) q' s b' B la pa v .ready k);let z3:=bF (scF F q') (k+1);let z7:=u6 (↑(nxM p (s-2^v)):Int);let z8:=rgT size lim n (s-2^v) s v;let z9:=Ak q' (k+1);let y0:=[u6 p];let z2:=CR.mk (V.bool true) (Ae T.e 0 (ykD jj cs F size lim n (s-2^v) q' s z0 B la pa v .ready k)) 18 [4,5,6,8,9,12,16];let z4:=nF (sL s z0 la) size;let z5:=uF (sP s z0 pa) size;let z6:=bF (sB s z0 B) size;Bn [Bn [Tt],Ac Pg g0 32 y0 (i6 ↑(Ao p)),Tt,decide ((↑(Ao p):Int)<=(lim:Int))=true,Aa Pg g0 (V.yld 16) y0 z1 18 z2,Bn [(V.fn 32 []=V.yld 16->y0=y0->z1=z1->18=18->CR.mk (i6 ↑(Ao p)) z1 18 []=z2)],Ai (Qac Pg) .sub 72 (u6 p) (u6 ↑(s-2^v))=some z7,Ai (Qac Pg) .and 72 z7 (u6 ↑(s-2^v))=some (u6 ↑(0:Nat)),(((0:Nat):Int)==0)=true,Tt,An [Sm [sl jj,gC cs],TT 2],Bn [Sm [V.nilp],Tt],An [Sm [V.nils,V.nils],TT 2],Bn [Sm [i6 0],Tt],An [z6=z6,HfL z6],An [z9=z9,HfE z9,Sm (k+1)],Bn [An [Sm jj.length,Sm (Ab jj)],An [Sm cs.length,Sm (List.map sl cs)],y1,Tt,Bn [Zz,Sm (k+1)]],Bn [Zz],An [z4=z4,HfL z4],An [z5=z5,HfL z5],Bn [y1,y1],Bn [Sm [i6 s],Tt],Bn [Sm [V.bool (Qaw z0)],Tt],Bn [Bn [Zz,Zz,Zz,Zz]],Bn [Sm [i6 v],Tt],Tt,An [lbO size lim n (s-2^v) s v .ready=O.loop .ready none 0 z8 [62] rgA rgB,Bs 17 z8],An [z3=z3,HfL z3]])
    ·skip
     obtain⟨i1,i2,i3,i4,i5,i6_,i7⟩:=hnx.1 jm
     refine .inl ⟨(nxP p (s-2^v),q',k,(upT b' v p (Av F B s v p)),true),[17],[fn 6 (i6 (Ao p:Nat)),yes 8,(12,.call ⟨.bool true,Ae .e 0 (ykD jj cs F size lim n (s-2^v) q' s (upT b' v p (Av F B s v p)) B la pa v .ready k),18,[4,5,6,8,9,12,16]⟩),va 17 (u6 (nxM p (s-2^v):Nat)),va 19 (u6 (nxP p (s-2^v):Nat)),no 21],1000,⟨i1,i2,by dsimp only;omega,by rw[i6_];exact eA2,by rw[i7];exact eB2,hG2,hfl⟩,by dsimp only;omega,?_⟩
     clear hnx h HT
     exact v_ (p:=let y3:=An [Zz,Sm size,Sm (size-size)];let z0:=upT b' v p (Av F B s v p);let z1:=Ae T.e 0 (ykD jj cs F size lim n (s-2^v) q' s b' B la pa v .ready k);let z3:=(↑(nxP p (s-2^v)):Int);let z4:=u6 ↑(s-2^v);let z5:=bF (scF F q') (k+1);let z9:=u6 (↑(nxM p (s-2^v)):Int);let y0:=rgT size lim n (s-2^v) s v;let y1:=Ak q' (k+1);let y2:=[u6 p];let z2:=CR.mk (V.bool true) (Ae T.e 0 (ykD jj cs F size lim n (s-2^v) q' s z0 B la pa v .ready k)) 18 [4,5,6,8,9,12,16];let z6:=nF (sL s z0 la) size;let z7:=uF (sP s z0 pa) size;let z8:=bF (sB s z0 B) size;Bn [Bn [Tt],Ac Pg g0 32 y2 (i6 ↑(Ao p)),Tt,decide ((↑(Ao p):Int)<=(lim:Int))=true,Aa Pg g0 (V.yld 16) y2 z1 18 z2,Bn [(V.fn 32 []=V.yld 16->y2=y2->z1=z1->18=18->CR.mk (i6 ↑(Ao p)) z1 18 []=z2)],Ai (Qac Pg) .sub 72 (u6 p) z4=some z9,Ai (Qac Pg) .and 72 z9 z4=some (u6 z3),(z3==0)=false,Bn [Tt,Sm [i6 lim],Sm [z4],z3=z3],An [Sm [sl jj,gC cs],TT 2],Bn [Sm [V.nilp],Tt],An [Sm [V.nils,V.nils],TT 2],Bn [Sm [i6 0],Tt],An [z8=z8,HfL z8],An [y1=y1,HfE y1,Sm (k+1)],Bn [An [Sm jj.length,Sm (Ab jj)],An [Sm cs.length,Sm (List.map sl cs)],y3,Tt,Bn [Zz,Sm (k+1)]],Bn [Zz],An [z6=z6,HfL z6],An [z7=z7,HfL z7],Bn [y3,y3],Bn [Sm [i6 s],Tt],Bn [Sm [V.bool (Qaw z0)],Tt],Bn [Bn [Zz,Zz,Zz,Zz]],Bn [Sm [i6 v],Tt],Tt,An [lbO size lim n (s-2^v) s v .ready=O.loop .ready none 0 y0 [62] rgA rgB,Bs 17 y0],An [z5=z5,HfL z5]])
   ·have hhas : C4 q' (k + 1) (v, p) = false := by
     cases hh:C4 q' (k+1) (v,p)with
     |false=>rfl
     |true=>obtain⟨j,h1,h2⟩:=Qdx.1 hh;exact absurd h2 (hq j h1)
    have hcall:=yld_Dm jj cs F size lim n (s-2^v) q' s b' B la pa v p (s-2^v) (2^v) (Av F B s v p) HT k o_ hf
    have eA2:Bf lim s v q (k0+1) (p+1)=((upQ q' (k+1) (v,p)),(k+1+1)):=by
     rw[Bf,if_pos ho,eA]
     unfold askQ E6
     rw[show C4 q' (k+1) (v,p)=false from hhas]
     rfl
    have hB:=Qab (sB s b' B) size
    have hB1:=Qab (sB s (upT b' v p (Av F B s v p)) B) size
    have hS:=Qab (scF F (upQ q' (k+1) (v,p))) (k+1+1)
    have hE:=Qae (upQ q' (k+1) (v,p)) (k+1+1)
    have hS0:=Qab (scF F q') (k+1)
    have hE0:=Qae q' (k+1)
    have hla:=Qai (sL s b' la) size
    have hpa:=Qaj (sP s b' pa) size
    have jb:=Qai (sL s (upT b' v p (Av F B s v p)) la) size
    have jc:=Qaj (sP s (upT b' v p (Av F B s v p)) pa) size
    have hfl:(k+1)≠k0:=by have hm':k≠k0:=hm;have:=Qee lim s v q (k0+1) p;have e2:F0 lim s v q (k0+1) p=k+1:=congrArg Prod.snd eA;omega
    by_cases jm:p=s-2^v
    ·skip
     obtain⟨i1,i6_,i7⟩:=hnx.2 jm
     rw[i6_,eA2]at jd
     rw[i7,eB2]at hb1
     obtain⟨f1,f2⟩:=Prod.mk.inj jd
     have f3:=Nat.succ.inj f2
     subst hb1 f1 f3
     refine .inr ⟨.ret,[18],{sl:=[],os:=ykD jj cs F size lim n (s-2^v) (upQ q' (k+1) (v,p)) s (upT b' v p (Av F B s v p)) B la pa v .ready (k+1),md:=clM,lg:=[4,5,6,8,9,12,15,16]},[fn 6 (i6 (Ao p:Nat)),yes 8,(12,.call ⟨.bool true,Ae .e 0 (Fb jj cs F size lim n (s-2^v) (upQ q' (k+1) (v,p)) s (upT b' v p (Av F B s v p)) B la pa v .ready (k+1)),19,[4,5,6,8,9,12,17,16]⟩),va 17 (u6 (nxM p (s-2^v):Nat)),va 19 (u6 (0:Nat)),yes 21],1000,by exact .inr (.inl ⟨hfl,rfl,rfl⟩),?_⟩
     rw[i1]at han
     clear hnx h HT
     exact v_ (p:=let y2:=An [Zz,Sm size,Sm (size-size)];let z0:=upT b' v p (Av F B s v p);let z1:=Ae T.e 0 (ykD jj cs F size lim n (s-2^v) q' s b' B la pa v .ready k);let z3:=upQ q' (k+1) (v,p);let z9:=u6 (↑(nxM p (s-2^v)):Int);let y0:=rgT size lim n (s-2^v) s v;let y1:=[u6 p];let z2:=CR.mk (V.bool true) (Ae T.e 0 (Fb jj cs F size lim n (s-2^v) z3 s z0 B la pa v .ready (k+1))) 19 [4,5,6,8,9,12,17,16];let z4:=bF (scF F z3) (k+1+1);let z5:=nF (sL s z0 la) size;let z6:=uF (sP s z0 pa) size;let z7:=bF (sB s z0 B) size;let z8:=Ak z3 (k+1+1);Bn [Bn [Tt],Ac Pg g0 32 y1 (i6 ↑(Ao p)),Tt,decide ((↑(Ao p):Int)<=(lim:Int))=true,Aa Pg g0 (V.yld 16) y1 z1 18 z2,Bn [(V.fn 32 []=V.yld 16->y1=y1->z1=z1->18=18->CR.mk (i6 ↑(Ao p)) z1 18 []=z2)],Ai (Qac Pg) .sub 72 (u6 p) (u6 ↑(s-2^v))=some z9,Ai (Qac Pg) .and 72 z9 (u6 ↑(s-2^v))=some (u6 ↑(0:Nat)),(((0:Nat):Int)==0)=true,Tt,An [Sm [sl jj,gC cs],TT 2],Bn [Sm [V.nilp],Tt],An [Sm [V.nils,V.nils],TT 2],Bn [Sm [i6 0],Tt],An [z7=z7,HfL z7],An [z8=z8,HfE z8,Sm (k+1+1)],Bn [An [Sm jj.length,Sm (Ab jj)],An [Sm cs.length,Sm (List.map sl cs)],y2,Tt,Bn [Zz,Sm (Nat.succ k+1)]],Bn [Zz],An [z5=z5,HfL z5],An [z6=z6,HfL z6],Bn [y2,y2],Bn [Sm [i6 s],Tt],Bn [Sm [V.bool (Qaw z0)],Tt],Bn [Bn [Zz,Zz,Zz,Zz]],Bn [Sm [i6 v],Tt],Tt,An [lbO size lim n (s-2^v) s v .ready=O.loop .ready none 0 y0 [62] rgA rgB,Bs 17 y0],An [z4=z4,HfL z4]])
    ·skip
     obtain⟨i1,i2,i3,i4,i5,i6_,i7⟩:=hnx.1 jm
     refine .inl ⟨(nxP p (s-2^v),(upQ q' (k+1) (v,p)),(k+1),(upT b' v p (Av F B s v p)),true),[18],[fn 6 (i6 (Ao p:Nat)),yes 8,(12,.call ⟨.bool true,Ae .e 0 (Fb jj cs F size lim n (s-2^v) (upQ q' (k+1) (v,p)) s (upT b' v p (Av F B s v p)) B la pa v .ready (k+1)),19,[4,5,6,8,9,12,17,16]⟩),va 17 (u6 (nxM p (s-2^v):Nat)),va 19 (u6 (nxP p (s-2^v):Nat)),no 21],1000,⟨i1,i2,by dsimp only;omega,by rw[i6_];exact eA2,by rw[i7];exact eB2,hG2,hfl⟩,by dsimp only;omega,?_⟩
     clear hnx h HT
     exact v_ (p:=let y4:=An [Zz,Sm size,Sm (size-size)];let z0:=upT b' v p (Av F B s v p);let z1:=Ae T.e 0 (ykD jj cs F size lim n (s-2^v) q' s b' B la pa v .ready k);let z3:=upQ q' (k+1) (v,p);let z4:=(↑(nxP p (s-2^v)):Int);let z5:=u6 ↑(s-2^v);let y1:=u6 (↑(nxM p (s-2^v)):Int);let y2:=rgT size lim n (s-2^v) s v;let y3:=[u6 p];let z2:=CR.mk (V.bool true) (Ae T.e 0 (Fb jj cs F size lim n (s-2^v) z3 s z0 B la pa v .ready (k+1))) 19 [4,5,6,8,9,12,17,16];let z6:=bF (scF F z3) (k+1+1);let z7:=nF (sL s z0 la) size;let z8:=uF (sP s z0 pa) size;let z9:=bF (sB s z0 B) size;let y0:=Ak z3 (k+1+1);Bn [Bn [Tt],Ac Pg g0 32 y3 (i6 ↑(Ao p)),Tt,decide ((↑(Ao p):Int)<=(lim:Int))=true,Aa Pg g0 (V.yld 16) y3 z1 18 z2,Bn [(V.fn 32 []=V.yld 16->y3=y3->z1=z1->18=18->CR.mk (i6 ↑(Ao p)) z1 18 []=z2)],Ai (Qac Pg) .sub 72 (u6 p) z5=some y1,Ai (Qac Pg) .and 72 y1 z5=some (u6 z4),(z4==0)=false,Bn [Tt,Sm [i6 lim],Sm [z5],z4=z4],An [Sm [sl jj,gC cs],TT 2],Bn [Sm [V.nilp],Tt],An [Sm [V.nils,V.nils],TT 2],Bn [Sm [i6 0],Tt],An [z9=z9,HfL z9],An [y0=y0,HfE y0,Sm (k+1+1)],Bn [An [Sm jj.length,Sm (Ab jj)],An [Sm cs.length,Sm (List.map sl cs)],y4,Tt,Bn [Zz,Sm (Nat.succ k+1)]],Bn [Zz],An [z7=z7,HfL z7],An [z8=z8,HfL z8],Bn [y4,y4],Bn [Sm [i6 s],Tt],Bn [Sm [V.bool (Qaw z0)],Tt],Bn [Bn [Zz,Zz,Zz,Zz]],Bn [Sm [i6 v],Tt],Tt,An [lbO size lim n (s-2^v) s v .ready=O.loop .ready none 0 y2 [62] rgA rgB,Bs 17 y2],An [z6=z6,HfL z6]])
 ·have ho : ¬ okT lim s v p = true := fun h' => hok ((Qdp hs32 hv5 hvb hp).1 h').2
  have HT:=trivial
  have hcall:=trivial
  have hG2:=hG'
  have eB2:Bu lim F B s v b (p+1)=b':=by rw[Bu,if_neg ho,eB]
  cases fl with
  | false =>
   have eA2:Bf lim s v q (k0+1) (p+1)=(q',k+1):=by rw[Bf,if_neg ho,eA]
   have hB:=Qab (sB s b' B) size
   have hB1:=Qab (sB s b' B) size
   have hS:=Qab (scF F q') (k+1)
   have hE:=Qae q' (k+1)
   have hS0:=Qab (scF F q') (k+1)
   have hE0:=Qae q' (k+1)
   have hla:=Qai (sL s b' la) size
   have hpa:=Qaj (sP s b' pa) size
   have jb:=Qai (sL s b' la) size
   have jc:=Qaj (sP s b' pa) size
   have hfl:k=k0:=hm
   by_cases jm:p=s-2^v
   ·skip
    obtain⟨i1,i6_,i7⟩:=hnx.2 jm
    rw[i6_,eA2]at jd
    rw[i7,eB2]at hb1
    obtain⟨f1,f2⟩:=Prod.mk.inj jd
    have f3:=Nat.succ.inj f2
    subst hb1 f1 f3
    refine .inr ⟨.ret,[],{sl:=[],os:=ykB jj cs F size lim n (s-2^v) q' s b' B la pa v .ready k,md:=clM,lg:=[4,5,6,8,9,12,15,16]},[fn 6 (i6 (Ao p:Nat)),no 8,va 17 (u6 (nxM p (s-2^v):Nat)),va 19 (u6 (0:Nat)),yes 21],1000,by exact .inl ⟨hfl,rfl,rfl⟩,?_⟩
    rw[i1]at han
    clear hnx h HT
    exact v_ (p:=let z7:=An [Zz,Sm size,Sm (size-size)];let z0:=bF (scF F q') (k+1);let z1:=nF (sL s b' la) size;let z2:=uF (sP s b' pa) size;let z3:=bF (sB s b' B) size;let z4:=u6 (↑(nxM p (s-2^v)):Int);let z5:=rgT size lim n (s-2^v) s v;let z6:=Ak q' (k+1);Bn [Bn [Tt],Ac Pg g0 32 [u6 p] (i6 ↑(Ao p)),Tt,decide ((↑(Ao p):Int)<=(lim:Int))=false,Ai (Qac Pg) .sub 72 (u6 p) (u6 ↑(s-2^v))=some z4,Ai (Qac Pg) .and 72 z4 (u6 ↑(s-2^v))=some (u6 ↑(0:Nat)),(((0:Nat):Int)==0)=true,Tt,An [Sm [sl jj,gC cs],TT 2],Bn [Sm [V.nilp],Tt],An [Sm [V.nils,V.nils],TT 2],Bn [Sm [i6 0],Tt],An [z3=z3,HfL z3],An [z6=z6,HfE z6,Sm (k+1)],Bn [An [Sm jj.length,Sm (Ab jj)],An [Sm cs.length,Sm (List.map sl cs)],z7,Tt,Bn [Zz,Sm (k+1)]],Bn [Zz],An [z1=z1,HfL z1],An [z2=z2,HfL z2],Bn [z7,z7],Bn [Sm [i6 s],Tt],Bn [Sm [V.bool (Qaw b')],Tt],Bn [Bn [Zz,Zz,Zz,Zz]],Bn [Sm [i6 v],Tt],An [z0=z0,HfL z0],An [lbO size lim n (s-2^v) s v .ready=O.loop .ready none 0 z5 [62] rgA rgB,Bs 17 z5]])
   ·skip
    obtain⟨i1,i2,i3,i4,i5,i6_,i7⟩:=hnx.1 jm
    refine .inl ⟨(nxP p (s-2^v),q',k,b',false),[],[fn 6 (i6 (Ao p:Nat)),no 8,va 17 (u6 (nxM p (s-2^v):Nat)),va 19 (u6 (nxP p (s-2^v):Nat)),no 21],1000,⟨i1,i2,by dsimp only;omega,by rw[i6_];exact eA2,by rw[i7];exact eB2,hG2,hfl⟩,by dsimp only;omega,?_⟩
    clear hnx h HT
    exact v_ (p:=let z9:=An [Zz,Sm size,Sm (size-size)];let z0:=(↑(nxP p (s-2^v)):Int);let z1:=u6 ↑(s-2^v);let z2:=bF (scF F q') (k+1);let z3:=nF (sL s b' la) size;let z4:=uF (sP s b' pa) size;let z5:=bF (sB s b' B) size;let z6:=u6 (↑(nxM p (s-2^v)):Int);let z7:=rgT size lim n (s-2^v) s v;let z8:=Ak q' (k+1);Bn [Bn [Tt],Ac Pg g0 32 [u6 p] (i6 ↑(Ao p)),Tt,decide ((↑(Ao p):Int)<=(lim:Int))=false,Ai (Qac Pg) .sub 72 (u6 p) z1=some z6,Ai (Qac Pg) .and 72 z6 z1=some (u6 z0),(z0==0)=false,Bn [Tt,Sm [i6 lim],Sm [z1],z0=z0],An [Sm [sl jj,gC cs],TT 2],Bn [Sm [V.nilp],Tt],An [Sm [V.nils,V.nils],TT 2],Bn [Sm [i6 0],Tt],An [z5=z5,HfL z5],An [z8=z8,HfE z8,Sm (k+1)],Bn [An [Sm jj.length,Sm (Ab jj)],An [Sm cs.length,Sm (List.map sl cs)],z9,Tt,Bn [Zz,Sm (k+1)]],Bn [Zz],An [z3=z3,HfL z3],An [z4=z4,HfL z4],Bn [z9,z9],Bn [Sm [i6 s],Tt],Bn [Sm [V.bool (Qaw b')],Tt],Bn [Bn [Zz,Zz,Zz,Zz]],Bn [Sm [i6 v],Tt],An [z2=z2,HfL z2],An [lbO size lim n (s-2^v) s v .ready=O.loop .ready none 0 z7 [62] rgA rgB,Bs 17 z7]])
  | true =>
   have eA2:Bf lim s v q (k0+1) (p+1)=(q',k+1):=by rw[Bf,if_neg ho,eA]
   have hB:=Qab (sB s b' B) size
   have hB1:=Qab (sB s b' B) size
   have hS:=Qab (scF F q') (k+1)
   have hE:=Qae q' (k+1)
   have hS0:=Qab (scF F q') (k+1)
   have hE0:=Qae q' (k+1)
   have hla:=Qai (sL s b' la) size
   have hpa:=Qaj (sP s b' pa) size
   have jb:=Qai (sL s b' la) size
   have jc:=Qaj (sP s b' pa) size
   have hfl:k≠k0:=hm
   by_cases jm:p=s-2^v
   ·skip
    obtain⟨i1,i6_,i7⟩:=hnx.2 jm
    rw[i6_,eA2]at jd
    rw[i7,eB2]at hb1
    obtain⟨f1,f2⟩:=Prod.mk.inj jd
    have f3:=Nat.succ.inj f2
    subst hb1 f1 f3
    refine .inr ⟨.ret,[17],{sl:=[],os:=ykD jj cs F size lim n (s-2^v) q' s b' B la pa v .ready k,md:=clM,lg:=[4,5,6,8,9,12,15,16]},[fn 6 (i6 (Ao p:Nat)),no 8,va 17 (u6 (nxM p (s-2^v):Nat)),va 19 (u6 (0:Nat)),yes 21],1000,by exact .inr (.inl ⟨hfl,rfl,rfl⟩),?_⟩
    rw[i1]at han
    clear hnx h HT
    exact v_ (p:=let z7:=An [Zz,Sm size,Sm (size-size)];let z0:=bF (scF F q') (k+1);let z1:=nF (sL s b' la) size;let z2:=uF (sP s b' pa) size;let z3:=bF (sB s b' B) size;let z4:=u6 (↑(nxM p (s-2^v)):Int);let z5:=rgT size lim n (s-2^v) s v;let z6:=Ak q' (k+1);Bn [Bn [Tt],Ac Pg g0 32 [u6 p] (i6 ↑(Ao p)),Tt,decide ((↑(Ao p):Int)<=(lim:Int))=false,Ai (Qac Pg) .sub 72 (u6 p) (u6 ↑(s-2^v))=some z4,Ai (Qac Pg) .and 72 z4 (u6 ↑(s-2^v))=some (u6 ↑(0:Nat)),(((0:Nat):Int)==0)=true,Tt,An [Sm [sl jj,gC cs],TT 2],Bn [Sm [V.nilp],Tt],An [Sm [V.nils,V.nils],TT 2],Bn [Sm [i6 0],Tt],An [z3=z3,HfL z3],An [z6=z6,HfE z6,Sm (k+1)],Bn [An [Sm jj.length,Sm (Ab jj)],An [Sm cs.length,Sm (List.map sl cs)],z7,Tt,Bn [Zz,Sm (k+1)]],Bn [Zz],An [z1=z1,HfL z1],An [z2=z2,HfL z2],Bn [z7,z7],Bn [Sm [i6 s],Tt],Bn [Sm [V.bool (Qaw b')],Tt],Bn [Bn [Zz,Zz,Zz,Zz]],Bn [Sm [i6 v],Tt],Tt,An [lbO size lim n (s-2^v) s v .ready=O.loop .ready none 0 z5 [62] rgA rgB,Bs 17 z5],An [z0=z0,HfL z0]])
   ·skip
    obtain⟨i1,i2,i3,i4,i5,i6_,i7⟩:=hnx.1 jm
    refine .inl ⟨(nxP p (s-2^v),q',k,b',true),[17],[fn 6 (i6 (Ao p:Nat)),no 8,va 17 (u6 (nxM p (s-2^v):Nat)),va 19 (u6 (nxP p (s-2^v):Nat)),no 21],1000,⟨i1,i2,by dsimp only;omega,by rw[i6_];exact eA2,by rw[i7];exact eB2,hG2,hfl⟩,by dsimp only;omega,?_⟩
    clear hnx h HT
    exact v_ (p:=let z9:=An [Zz,Sm size,Sm (size-size)];let z0:=(↑(nxP p (s-2^v)):Int);let z1:=u6 ↑(s-2^v);let z2:=bF (scF F q') (k+1);let z3:=nF (sL s b' la) size;let z4:=uF (sP s b' pa) size;let z5:=bF (sB s b' B) size;let z6:=u6 (↑(nxM p (s-2^v)):Int);let z7:=rgT size lim n (s-2^v) s v;let z8:=Ak q' (k+1);Bn [Bn [Tt],Ac Pg g0 32 [u6 p] (i6 ↑(Ao p)),Tt,decide ((↑(Ao p):Int)<=(lim:Int))=false,Ai (Qac Pg) .sub 72 (u6 p) z1=some z6,Ai (Qac Pg) .and 72 z6 z1=some (u6 z0),(z0==0)=false,Bn [Tt,Sm [i6 lim],Sm [z1],z0=z0],An [Sm [sl jj,gC cs],TT 2],Bn [Sm [V.nilp],Tt],An [Sm [V.nils,V.nils],TT 2],Bn [Sm [i6 0],Tt],An [z5=z5,HfL z5],An [z8=z8,HfE z8,Sm (k+1)],Bn [An [Sm jj.length,Sm (Ab jj)],An [Sm cs.length,Sm (List.map sl cs)],z9,Tt,Bn [Zz,Sm (k+1)]],Bn [Zz],An [z3=z3,HfL z3],An [z4=z4,HfL z4],Bn [z9,z9],Bn [Sm [i6 s],Tt],Bn [Sm [V.bool (Qaw b')],Tt],Bn [Bn [Zz,Zz,Zz,Zz]],Bn [Sm [i6 v],Tt],Tt,An [lbO size lim n (s-2^v) s v .ready=O.loop .ready none 0 z7 [62] rgA rgB,Bs 17 z7],An [z2=z2,HfL z2]])
set_option maxHeartbeats 4000000
set_option maxRecDepth 100000
section
variable (jj:List Int) (cs:List (List Int)) (F:Nat->Nat->Nat->Int) (size lim n:Nat) (q:Nat->Nat×Nat) (s:Nat) (b:BSt) (B:Nat->Nat->Int) (la pa:Nat->Nat) (v:Nat)
abbrev cmO(hs k:Nat):List O:=[.row 31 none [sl jj,gC cs],.row 65 none [.nilp],.row 43 none [.nils,.nils],.row 38 none [i6 0],.row 37 none (bF (sB s b B) size),.map (Ak q k) k,.row 70 none (toC jj cs size 4 5 hs k),.row 65 none [.ptr 6 0],.row 3 none (nF (sL s b la) size),.row 72 none (uF (sP s b pa) size),.row 43 none [.sl 8 0 size (some (size-size)),.sl 9 0 size (some (size-size))],.row 3 none [i6 (s:Nat)],.row 4 none [.bool (Qaw b)],.row 87 none [.fn 35 [.ptr 7 0,.ptr 11 0,.ptr 12 0,.ptr 10 0]]]
abbrev vS1(k:Nat):SL:={sl:=clZ size lim n s v,os:=cmO jj cs size q s b B la pa 14 (k+1)++[scO F q k],md:=clM}
abbrev rS0:SL:={sl:=rgZ size lim n (s-2^v) s v,os:=clO jj cs size q s b B la pa v 15 0,md:=clM}
abbrev rS1(k:Nat):SL:={sl:=rgZ size lim n (s-2^v) s v,os:=clO jj cs size q s b B la pa v 15 (k+1)++[scO F q k],md:=clM}
end
theorem parts_A(jj:List Int)(cs:List (List Int))(F:Nat->Nat->Nat->Int)(size lim n:Nat)(q:Nat->Nat×Nat)(s:Nat)(b:BSt)(B:Nat->Nat->Int)(la pa:Nat->Nat)(v:Nat)(h:Qej jj cs F size lim s v B)(hG:Ck b)(q1:Nat->Nat×Nat)(k1:Nat)(b1:BSt)(jd:Bf lim s v q 0 (s+1)=(q1,k1+1))(hb1:Bu lim F B s v b (s+1)=b1):
  Aa Pg g0 (.fn 56 [.imp [i6 (lim:Nat)],.imp [u6 (s-2^v:Nat)]]) [.yld 15] (Ae .e 0 (ykA jj cs size lim n (s-2^v) q s b B la pa v .ready)) 16 ⟨.tup [],Ae .e 0 (ykC jj cs F size lim n (s-2^v) q1 s b1 B la pa v .ready k1),17,[4,5,6,8,9,12,15]⟩:=by
 have l:Sat Pg none 16 (at' 56 [1,0]) (Ah g0 22 (kpaS jj cs F size lim n s B la pa v (0,q,0,b))) (Qaf g0 22 [(True,.ret,{sl:=[],os:=ykC jj cs F size lim n (s-2^v) q1 s b1 B la pa v .ready k1,md:=clM,lg:=[4,5,6,8,9,12,15]})]):=Qmq jj cs F size lim n q s b B la pa v h hG q1 k1 b1 jd hb1
 have hl:=Qk7 size lim n (s-2^v) s v 16 d_
 have hB:=Qab (sB s b B) size
 have hB1:=Qab (sB s b1 B) size
 have hS:=Qab (scF F q1) (k1+1)
 have hE:=Qae q1 (k1+1)
 have hS0:=Qab (scF F q) 0
 have hE0:=Qae q 0
 have hla:=Qai (sL s b la) size
 have hpa:=Qaj (sP s b pa) size
 have jb:=Qai (sL s b1 la) size
 have jc:=Qaj (sP s b1 pa) size
 have hc:=Qag jj
 have hg:=Qap cs
 clear h
 refine Aa.caps (caps:=[.imp [i6 (lim:Nat)],.imp [u6 (s-2^v:Nat)]]) (ars:=[.yld 15]) ?_
 refine Aa.of_vcH (P:=Pg) (E:=vE) vE_ok Af Qaa (n:=1000) (f:=56) (os0:=ykA jj cs size lim n (s-2^v) q s b B la pa v .ready) (ars:=[.yld 15,.imp [i6 (lim:Nat)],.imp [u6 (s-2^v:Nat)]]) (r:=[16])
  (S := { sl := [], os := ykC jj cs F size lim n (s - 2 ^ v) q1 s b1 B la pa v .ready k1, md := clM, lg := [4, 5, 6, 8, 9, 12, 15] }) (v := .tup []) (hs := [(0, .loop [] (kpaS jj cs F size lim n s B la pa v (0, q, 0, b)) [(True, .ret, { sl := [], os := ykC jj cs F size lim n (s - 2 ^ v) q1 s b1 B la pa v .ready k1, md := clM, lg := [4, 5, 6, 8, 9, 12, 15] })])]) (gl := g0) (by simp) (fun i hi hno => by
   rcases(show i=0\/i=1\/i=2\/i=3\/i=4\/i=5\/i=6\/i=7\/i=8\/i=9\/i=10\/i=11\/i=12\/i=13\/i=14\/i=15 by simp at hi;omega)with rfl|rfl|rfl|rfl|rfl|rfl|rfl|rfl|rfl|rfl|rfl|rfl|rfl|rfl|rfl|rfl<;>first|rfl|(simp at hno)) ?_
 exact v_ (p:=let y7:=An [Zz,Sm size,Sm (size-size)];let y8:=Bn [Bn [Zz,Zz,Zz,Zz]];let y9:=Bn [Sm [V.nilp],Tt];let x0:=Bn [Sm [i6 0],Tt];let z0:=rgT size lim n (s-2^v) s v;let z1:=[sl jj,gC cs];let z2:=[V.nils,V.nils];let z3:=bF (scF F q1) (k1+1);let z4:=nF (sL s b1 la) size;let z5:=uF (sP s b1 pa) size;let z6:=List.map sl cs;let z7:=nF (sL s b la) size;let z8:=uF (sP s b pa) size;let z9:=bF (sB s b1 B) size;let y0:=lbO size lim n (s-2^v) s v .ready;let y1:=bF (sB s b B) size;let y3:=Ak q1 (k1+1);let y4:=Ab jj;let y5:=[i6 s];let y6:=[i6 v];let y2:=O.loop .ready none 0 z0 [62] rgA rgB;Bn [Sm (V.tup []),Bn [Bn [Tt,Sm [i6 lim],Sm [u6 ↑(s-2^v)],((0:Nat):Int)=(0:Int)],An [z1=z1,TT 2],y9,An [z2=z2,TT 2],x0,An [y1=y1,HfL y1],An [Sm (Ak q 0),HfE (Ak q 0),Zz],An [An [Sm jj.length,y4=y4],An [Sm cs.length,z6=z6],y7,TT 2],Bn [Zz],An [z7=z7,HfL z7],An [z8=z8,HfL z8],Bn [y7,y7],Bn [y5=y5,Tt],Bn [Sm [V.bool (Qaw b)],Tt],y8,Bn [y6=y6,Tt],An [y0=y2,Bs 16 z0]],Sat Pg none 16 (at' 56 [1,0]) (Ah g0 22 (kpaS jj cs F size lim n s B la pa v (0,q,0,b))) (Qaf g0 22 [(True,Ex.ret,SL.mk [] (ykC jj cs F size lim n (s-2^v) q1 s b1 B la pa v .ready k1) [4,5,6,8,9,12,15] clM)]),(True->Bn [Tt,An [z1=z1,TT 2],y9,An [z2=z2,TT 2],x0,An [z9=z9,HfL z9],An [y3=y3,HfE y3,Sm (k1+1)],Bn [An [Sm jj.length,y4=y4],An [Sm cs.length,z6=z6],y7,Tt,Bn [Zz,Sm (k1+1)]],Bn [Zz],An [z4=z4,HfL z4],An [z5=z5,HfL z5],Bn [y7,y7],Bn [y5=y5,Tt],Bn [Sm [V.bool (Qaw b1)],Tt],y8,Bn [y6=y6,Tt],An [y0=y2,Bs 16 z0],An [z3=z3,HfL z3]])])
theorem parts_B(jj:List Int)(cs:List (List Int))(F:Nat->Nat->Nat->Int)(size lim n:Nat)(q:Nat->Nat×Nat)(s:Nat)(b:BSt)(B:Nat->Nat->Int)(la pa:Nat->Nat)(v:Nat)(k0:Nat)(hk0:k0<=10000)(h:Qej jj cs F size lim s v B)(hG:Ck b)(q1:Nat->Nat×Nat)(k1:Nat)(b1:BSt)(jd:Bf lim s v q (k0+1) (s+1)=(q1,k1+1))(hb1:Bu lim F B s v b (s+1)=b1)(he:k1=k0):
  Aa Pg g0 (.fn 56 [.imp [i6 (lim:Nat)],.imp [u6 (s-2^v:Nat)]]) [.yld 16] (Ae .e 0 (ykB jj cs F size lim n (s-2^v) q s b B la pa v .ready k0)) 17 ⟨.tup [],Ae .e 0 (ykB jj cs F size lim n (s-2^v) q1 s b1 B la pa v .ready k1),17,[4,5,6,8,9,12,15,16]⟩:=by
 have l:Sat Pg none 17 (at' 56 [1,0]) (Ah g0 22 (kpbS jj cs F size lim n s B la pa v (0,q,k0,b,false))) (Qaf g0 22 [(True,.ret,{sl:=[],os:=ykB jj cs F size lim n (s-2^v) q1 s b1 B la pa v .ready k1,md:=clM,lg:=[4,5,6,8,9,12,15,16]})]):=(Qg4 jj cs F size lim n q s b B la pa v k0 hk0 h hG q1 k1 b1 jd hb1).mono (fun e st hh=>by rcases hh with⟨_,h2⟩|⟨h1,_⟩|hh;exact .inl ⟨trivial,h2⟩;exact absurd he h1;exact hh.elim)
 have hl:=Qk7 size lim n (s-2^v) s v 17 d_
 have hB:=Qab (sB s b B) size
 have hB1:=Qab (sB s b1 B) size
 have hS:=Qab (scF F q1) (k1+1)
 have hE:=Qae q1 (k1+1)
 have hS0:=Qab (scF F q) (k0+1)
 have hE0:=Qae q (k0+1)
 have hla:=Qai (sL s b la) size
 have hpa:=Qaj (sP s b pa) size
 have jb:=Qai (sL s b1 la) size
 have jc:=Qaj (sP s b1 pa) size
 have hc:=Qag jj
 have hg:=Qap cs
 clear h
 refine Aa.caps (caps:=[.imp [i6 (lim:Nat)],.imp [u6 (s-2^v:Nat)]]) (ars:=[.yld 16]) ?_
 refine Aa.of_vcH (P:=Pg) (E:=vE) vE_ok Af Qaa (n:=1000) (f:=56) (os0:=ykB jj cs F size lim n (s-2^v) q s b B la pa v .ready k0) (ars:=[.yld 16,.imp [i6 (lim:Nat)],.imp [u6 (s-2^v:Nat)]]) (r:=[])
  (S := { sl := [], os := ykB jj cs F size lim n (s - 2 ^ v) q1 s b1 B la pa v .ready k1, md := clM, lg := [4, 5, 6, 8, 9, 12, 15, 16] }) (v := .tup []) (hs := [(0, .loop [] (kpbS jj cs F size lim n s B la pa v (0, q, k0, b, false)) [(True, .ret, { sl := [], os := ykB jj cs F size lim n (s - 2 ^ v) q1 s b1 B la pa v .ready k1, md := clM, lg := [4, 5, 6, 8, 9, 12, 15, 16] })])]) (gl := g0) (by simp) (fun i hi hno => by
   rcases(show i=0\/i=1\/i=2\/i=3\/i=4\/i=5\/i=6\/i=7\/i=8\/i=9\/i=10\/i=11\/i=12\/i=13\/i=14\/i=15\/i=16 by simp at hi;omega)with rfl|rfl|rfl|rfl|rfl|rfl|rfl|rfl|rfl|rfl|rfl|rfl|rfl|rfl|rfl|rfl|rfl<;>first|rfl|(simp at hno)) ?_
 exact v_ (p:=let y9:=An [Zz,Sm size,Sm (size-size)];let x0:=Bn [Bn [Zz,Zz,Zz,Zz]];let x1:=Bn [Sm [V.nilp],Tt];let x2:=Bn [Sm [i6 0],Tt];let z0:=rgT size lim n (s-2^v) s v;let z1:=[sl jj,gC cs];let z2:=[V.nils,V.nils];let z3:=bF (scF F q1) (k1+1);let z4:=bF (scF F q) (k0+1);let z5:=nF (sL s b1 la) size;let z6:=uF (sP s b1 pa) size;let z7:=List.map sl cs;let z8:=nF (sL s b la) size;let z9:=uF (sP s b pa) size;let y0:=bF (sB s b1 B) size;let y1:=lbO size lim n (s-2^v) s v .ready;let y2:=bF (sB s b B) size;let y4:=Ak q1 (k1+1);let y5:=Ak q (k0+1);let y6:=Ab jj;let y7:=[i6 s];let y8:=[i6 v];let y3:=O.loop .ready none 0 z0 [62] rgA rgB;Bn [Sm (V.tup []),Bn [Bn [Tt,Sm [i6 lim],Sm [u6 ↑(s-2^v)],((0:Nat):Int)=(0:Int)],An [z1=z1,TT 2],x1,An [z2=z2,TT 2],x2,An [y2=y2,HfL y2],An [y5=y5,HfE y5,Sm (k0+1)],Bn [An [Sm jj.length,y6=y6],An [Sm cs.length,z7=z7],y9,Tt,Bn [Zz,Sm (k0+1)]],Bn [Zz],An [z8=z8,HfL z8],An [z9=z9,HfL z9],Bn [y9,y9],Bn [y7=y7,Tt],Bn [Sm [V.bool (Qaw b)],Tt],x0,Bn [y8=y8,Tt],An [z4=z4,HfL z4],An [y1=y3,Bs 17 z0]],Sat Pg none 17 (at' 56 [1,0]) (Ah g0 22 (kpbS jj cs F size lim n s B la pa v (0,q,k0,b,false))) (Qaf g0 22 [(True,Ex.ret,SL.mk [] (ykB jj cs F size lim n (s-2^v) q1 s b1 B la pa v .ready k1) [4,5,6,8,9,12,15,16] clM)]),(True->Bn [Tt,An [z1=z1,TT 2],x1,An [z2=z2,TT 2],x2,An [y0=y0,HfL y0],An [y4=y4,HfE y4,Sm (k1+1)],Bn [An [Sm jj.length,y6=y6],An [Sm cs.length,z7=z7],y9,Tt,Bn [Zz,Sm (k1+1)]],Bn [Zz],An [z5=z5,HfL z5],An [z6=z6,HfL z6],Bn [y9,y9],Bn [y7=y7,Tt],Bn [Sm [V.bool (Qaw b1)],Tt],x0,Bn [y8=y8,Tt],An [z3=z3,HfL z3],An [y1=y3,Bs 17 z0]])])
theorem parts_D(jj:List Int)(cs:List (List Int))(F:Nat->Nat->Nat->Int)(size lim n:Nat)(q:Nat->Nat×Nat)(s:Nat)(b:BSt)(B:Nat->Nat->Int)(la pa:Nat->Nat)(v:Nat)(k0:Nat)(hk0:k0<=10000)(h:Qej jj cs F size lim s v B)(hG:Ck b)(q1:Nat->Nat×Nat)(k1:Nat)(b1:BSt)(jd:Bf lim s v q (k0+1) (s+1)=(q1,k1+1))(hb1:Bu lim F B s v b (s+1)=b1)(he:k1≠k0):
  Aa Pg g0 (.fn 56 [.imp [i6 (lim:Nat)],.imp [u6 (s-2^v:Nat)]]) [.yld 16] (Ae .e 0 (ykB jj cs F size lim n (s-2^v) q s b B la pa v .ready k0)) 17 ⟨.tup [],Ae .e 0 (ykD jj cs F size lim n (s-2^v) q1 s b1 B la pa v .ready k1),18,[4,5,6,8,9,12,15,16]⟩:=by
 have l:Sat Pg none 17 (at' 56 [1,0]) (Ah g0 22 (kpbS jj cs F size lim n s B la pa v (0,q,k0,b,false))) (Qaf g0 22 [(True,.ret,{sl:=[],os:=ykD jj cs F size lim n (s-2^v) q1 s b1 B la pa v .ready k1,md:=clM,lg:=[4,5,6,8,9,12,15,16]})]):=(Qg4 jj cs F size lim n q s b B la pa v k0 hk0 h hG q1 k1 b1 jd hb1).mono (fun e st hh=>by rcases hh with⟨h1,_⟩|⟨_,h2⟩|hh;exact absurd h1 he;exact .inl ⟨trivial,h2⟩;exact hh.elim)
 have hl:=Qk7 size lim n (s-2^v) s v 17 d_
 have hB:=Qab (sB s b B) size
 have hB1:=Qab (sB s b1 B) size
 have hS:=Qab (scF F q1) (k1+1)
 have hE:=Qae q1 (k1+1)
 have hS0:=Qab (scF F q) (k0+1)
 have hE0:=Qae q (k0+1)
 have hla:=Qai (sL s b la) size
 have hpa:=Qaj (sP s b pa) size
 have jb:=Qai (sL s b1 la) size
 have jc:=Qaj (sP s b1 pa) size
 have hc:=Qag jj
 have hg:=Qap cs
 clear h
 refine Aa.caps (caps:=[.imp [i6 (lim:Nat)],.imp [u6 (s-2^v:Nat)]]) (ars:=[.yld 16]) ?_
 refine Aa.of_vcH (P:=Pg) (E:=vE) vE_ok Af Qaa (n:=1000) (f:=56) (os0:=ykB jj cs F size lim n (s-2^v) q s b B la pa v .ready k0) (ars:=[.yld 16,.imp [i6 (lim:Nat)],.imp [u6 (s-2^v:Nat)]]) (r:=[17])
  (S := { sl := [], os := ykD jj cs F size lim n (s - 2 ^ v) q1 s b1 B la pa v .ready k1, md := clM, lg := [4, 5, 6, 8, 9, 12, 15, 16] }) (v := .tup []) (hs := [(0, .loop [] (kpbS jj cs F size lim n s B la pa v (0, q, k0, b, false)) [(True, .ret, { sl := [], os := ykD jj cs F size lim n (s - 2 ^ v) q1 s b1 B la pa v .ready k1, md := clM, lg := [4, 5, 6, 8, 9, 12, 15, 16] })])]) (gl := g0) (by simp) (fun i hi hno => by
   rcases(show i=0\/i=1\/i=2\/i=3\/i=4\/i=5\/i=6\/i=7\/i=8\/i=9\/i=10\/i=11\/i=12\/i=13\/i=14\/i=15\/i=16 by simp at hi;omega)with rfl|rfl|rfl|rfl|rfl|rfl|rfl|rfl|rfl|rfl|rfl|rfl|rfl|rfl|rfl|rfl|rfl<;>first|rfl|(simp at hno)) ?_
 exact v_ (p:=let y9:=An [Zz,Sm size,Sm (size-size)];let x0:=Bn [Bn [Zz,Zz,Zz,Zz]];let x1:=Bn [Sm [V.nilp],Tt];let x2:=Bn [Sm [i6 0],Tt];let z0:=rgT size lim n (s-2^v) s v;let z1:=[sl jj,gC cs];let z2:=[V.nils,V.nils];let z3:=bF (scF F q1) (k1+1);let z4:=bF (scF F q) (k0+1);let z5:=nF (sL s b1 la) size;let z6:=uF (sP s b1 pa) size;let z7:=List.map sl cs;let z8:=nF (sL s b la) size;let z9:=uF (sP s b pa) size;let y0:=bF (sB s b1 B) size;let y1:=lbO size lim n (s-2^v) s v .ready;let y2:=bF (sB s b B) size;let y4:=Ak q1 (k1+1);let y5:=Ak q (k0+1);let y6:=Ab jj;let y7:=[i6 s];let y8:=[i6 v];let y3:=O.loop .ready none 0 z0 [62] rgA rgB;Bn [Sm (V.tup []),Bn [Bn [Tt,Sm [i6 lim],Sm [u6 ↑(s-2^v)],((0:Nat):Int)=(0:Int)],An [z1=z1,TT 2],x1,An [z2=z2,TT 2],x2,An [y2=y2,HfL y2],An [y5=y5,HfE y5,Sm (k0+1)],Bn [An [Sm jj.length,y6=y6],An [Sm cs.length,z7=z7],y9,Tt,Bn [Zz,Sm (k0+1)]],Bn [Zz],An [z8=z8,HfL z8],An [z9=z9,HfL z9],Bn [y9,y9],Bn [y7=y7,Tt],Bn [Sm [V.bool (Qaw b)],Tt],x0,Bn [y8=y8,Tt],An [z4=z4,HfL z4],An [y1=y3,Bs 17 z0]],Sat Pg none 17 (at' 56 [1,0]) (Ah g0 22 (kpbS jj cs F size lim n s B la pa v (0,q,k0,b,false))) (Qaf g0 22 [(True,Ex.ret,SL.mk [] (ykD jj cs F size lim n (s-2^v) q1 s b1 B la pa v .ready k1) [4,5,6,8,9,12,15,16] clM)]),(True->Bn [Tt,An [z1=z1,TT 2],x1,An [z2=z2,TT 2],x2,An [y0=y0,HfL y0],An [y4=y4,HfE y4,Sm (k1+1)],Bn [An [Sm jj.length,y6=y6],An [Sm cs.length,z7=z7],y9,Tt,Bn [Zz,Sm (k1+1)]],Bn [Zz],An [z5=z5,HfL z5],An [z6=z6,HfL z6],Bn [y9,y9],Bn [y7=y7,Tt],Bn [Sm [V.bool (Qaw b1)],Tt],x0,Bn [y8=y8,Tt],Tt,An [y1=y3,Bs 17 z0],An [z3=z3,HfL z3]])])
theorem range_A(jj:List Int)(cs:List (List Int))(F:Nat->Nat->Nat->Int)(size lim n:Nat)(q:Nat->Nat×Nat)(s:Nat)(b:BSt)(B:Nat->Nat->Int)(la pa:Nat->Nat)(v:Nat)(h:Qej jj cs F size lim s v B)(hG:Ck b)(q1:Nat->Nat×Nat)(k1:Nat)(b1:BSt)(jd:Bf lim s v q 0 (s+1)=(q1,k1+1))(hb1:Bu lim F B s v b (s+1)=b1):
  Sat Pg none 0 rgC (Ah g0 75 (rS0 jj cs size lim n q s b B la pa v)) (Qaf g0 75 [(True,.normal,vS1 jj cs F size lim n q1 s b1 B la pa v k1)]):=by
 rw[rg_eq]
 have hB:=Qab (sB s b B) size
 have hB1:=Qab (sB s b1 B) size
 have hS:=Qab (scF F q1) (k1+1)
 have hE:=Qae q1 (k1+1)
 have hS0:=Qab (scF F q) 0
 have hE0:=Qae q 0
 have hla:=Qai (sL s b la) size
 have hpa:=Qaj (sP s b pa) size
 have jb:=Qai (sL s b1 la) size
 have jc:=Qaj (sP s b1 pa) size
 have hc:=Qag jj
 have hg:=Qap cs
 have hcall:=parts_A jj cs F size lim n q s b B la pa v h hG q1 k1 b1 jd hb1
 clear h
 refine Sat.rangeC (gl:=g0) (r:=[0,1,2,3,4,5,6,7,8,9,10,11,12,13,16]) (S:=rS0 jj cs size lim n q s b B la pa v) (f:=56) (caps:=[.imp [i6 (lim:Nat)],.imp [u6 (s-2^v:Nat)]]) (H1:=Ae .e 0 (ykC jj cs F size lim n (s-2^v) q1 s b1 B la pa v .ready k1)) (nx1:=17) (v:=.tup []) rfl rfl hcall k_ ?_
 exact v_ (p:=let z6:=An [Zz,Sm size,Sm (size-size)];let z0:=bF (scF F q1) (k1+1);let z1:=(size:Int);let z2:=nF (sL s b1 la) size;let z3:=uF (sP s b1 pa) size;let z4:=bF (sB s b1 B) size;let z5:=Ak q1 (k1+1);Bn [Bn [Sm (lim:Int),Zz,Zz,Zz,Zz,z1=z1,Zz,Zz,Zz,Zz,Zz,z1=z1,Sm (s:Int),Sm (n:Int),Sm (v:Int)],An [Sm [sl jj,gC cs],TT 2],Bn [Sm [V.nilp],Tt],An [Sm [V.nils,V.nils],TT 2],Bn [Sm [i6 0],Tt],An [z4=z4,HfL z4],An [z5=z5,HfE z5,Sm (k1+1)],Bn [An [Sm jj.length,Sm (Ab jj)],An [Sm cs.length,Sm (List.map sl cs)],z6,Tt,Bn [Zz,Sm (k1+1)]],Bn [Zz],An [z2=z2,HfL z2],An [z3=z3,HfL z3],Bn [z6,z6],Bn [Sm [i6 s],Tt],Bn [Sm [V.bool (Qaw b1)],Tt],Bn [Bn [Zz,Zz,Zz,Zz]],An [z0=z0,HfL z0]])
theorem range_B(jj:List Int)(cs:List (List Int))(F:Nat->Nat->Nat->Int)(size lim n:Nat)(q:Nat->Nat×Nat)(s:Nat)(b:BSt)(B:Nat->Nat->Int)(la pa:Nat->Nat)(v:Nat)(k0:Nat)(hk0:k0<=10000)(h:Qej jj cs F size lim s v B)(hG:Ck b)(q1:Nat->Nat×Nat)(k1:Nat)(b1:BSt)(jd:Bf lim s v q (k0+1) (s+1)=(q1,k1+1))(hb1:Bu lim F B s v b (s+1)=b1):
  Sat Pg none 0 rgC (Ah g0 75 (rS1 jj cs F size lim n q s b B la pa v k0)) (Qaf g0 75 [(True,.normal,vS1 jj cs F size lim n q1 s b1 B la pa v k1)]):=by
 rw[rg_eq]
 have hB:=Qab (sB s b B) size
 have hB1:=Qab (sB s b1 B) size
 have hS:=Qab (scF F q1) (k1+1)
 have hE:=Qae q1 (k1+1)
 have hS0:=Qab (scF F q) (k0+1)
 have hE0:=Qae q (k0+1)
 have hla:=Qai (sL s b la) size
 have hpa:=Qaj (sP s b pa) size
 have jb:=Qai (sL s b1 la) size
 have jc:=Qaj (sP s b1 pa) size
 have hc:=Qag jj
 have hg:=Qap cs
 by_cases he:k1=k0
 ·skip
  have hcall:=parts_B jj cs F size lim n q s b B la pa v k0 hk0 h hG q1 k1 b1 jd hb1 he
  clear h
  refine Sat.rangeC (gl:=g0) (r:=[0,1,2,3,4,5,6,7,8,9,10,11,12,13,15]) (S:=rS1 jj cs F size lim n q s b B la pa v k0) (f:=56) (caps:=[.imp [i6 (lim:Nat)],.imp [u6 (s-2^v:Nat)]]) (H1:=Ae .e 0 (ykB jj cs F size lim n (s-2^v) q1 s b1 B la pa v .ready k1)) (nx1:=17) (v:=.tup []) rfl rfl hcall k_ ?_
  exact v_ (p:=let z6:=An [Zz,Sm size,Sm (size-size)];let z0:=bF (scF F q1) (k1+1);let z1:=(size:Int);let z2:=nF (sL s b1 la) size;let z3:=uF (sP s b1 pa) size;let z4:=bF (sB s b1 B) size;let z5:=Ak q1 (k1+1);Bn [Bn [Sm (lim:Int),Zz,Zz,Zz,Zz,z1=z1,Zz,Zz,Zz,Zz,Zz,z1=z1,Sm (s:Int),Sm (n:Int),Sm (v:Int)],An [Sm [sl jj,gC cs],TT 2],Bn [Sm [V.nilp],Tt],An [Sm [V.nils,V.nils],TT 2],Bn [Sm [i6 0],Tt],An [z4=z4,HfL z4],An [z5=z5,HfE z5,Sm (k1+1)],Bn [An [Sm jj.length,Sm (Ab jj)],An [Sm cs.length,Sm (List.map sl cs)],z6,Tt,Bn [Zz,Sm (k1+1)]],Bn [Zz],An [z2=z2,HfL z2],An [z3=z3,HfL z3],Bn [z6,z6],Bn [Sm [i6 s],Tt],Bn [Sm [V.bool (Qaw b1)],Tt],Bn [Bn [Zz,Zz,Zz,Zz]],An [z0=z0,HfL z0]])
 ·skip
  have hcall:=parts_D jj cs F size lim n q s b B la pa v k0 hk0 h hG q1 k1 b1 jd hb1 he
  clear h
  refine Sat.rangeC (gl:=g0) (r:=[0,1,2,3,4,5,6,7,8,9,10,11,12,13,17]) (S:=rS1 jj cs F size lim n q s b B la pa v k0) (f:=56) (caps:=[.imp [i6 (lim:Nat)],.imp [u6 (s-2^v:Nat)]]) (H1:=Ae .e 0 (ykD jj cs F size lim n (s-2^v) q1 s b1 B la pa v .ready k1)) (nx1:=18) (v:=.tup []) rfl rfl hcall k_ ?_
  exact v_ (p:=let z6:=An [Zz,Sm size,Sm (size-size)];let z0:=bF (scF F q1) (k1+1);let z1:=(size:Int);let z2:=nF (sL s b1 la) size;let z3:=uF (sP s b1 pa) size;let z4:=bF (sB s b1 B) size;let z5:=Ak q1 (k1+1);Bn [Bn [Sm (lim:Int),Zz,Zz,Zz,Zz,z1=z1,Zz,Zz,Zz,Zz,Zz,z1=z1,Sm (s:Int),Sm (n:Int),Sm (v:Int)],An [Sm [sl jj,gC cs],TT 2],Bn [Sm [V.nilp],Tt],An [Sm [V.nils,V.nils],TT 2],Bn [Sm [i6 0],Tt],An [z4=z4,HfL z4],An [z5=z5,HfE z5,Sm (k1+1)],Bn [An [Sm jj.length,Sm (Ab jj)],An [Sm cs.length,Sm (List.map sl cs)],z6,Tt,Bn [Zz,Sm (k1+1)]],Bn [Zz],An [z2=z2,HfL z2],An [z3=z3,HfL z3],Bn [z6,z6],Bn [Sm [i6 s],Tt],Bn [Sm [V.bool (Qaw b1)],Tt],Bn [Bn [Zz,Zz,Zz,Zz]],An [z0=z0,HfL z0]])
set_option maxHeartbeats 4000000
set_option maxRecDepth 100000
theorem parts_fn(w lim:Nat):Ac Pg g0 37 [u6 (w:Nat),i6 (lim:Nat)] (.fn 56 [.imp [i6 (lim:Nat)],.imp [u6 (w:Nat)]]):=by
 refine Ac.of_vc vE_ok Af Qaa (n:=1000) (r:=[]) (S:={sl:=[(4,.fn 56 [.imp [i6 (lim:Nat)],.imp [u6 (w:Nat)]])]}) (hs:=[]) ?_
 exact v_ (p:=Bn [Sm (V.fn 56 [V.imp [i6 lim],V.imp [u6 w]]),Bn [Bn [Bn [Sm [i6 lim],Tt],Bn [Sm [u6 w],Tt]]]])
theorem bit_i: ∀s:Nat,s<32->∀v:Nat,v<5->∀b:Nat,b<2->(s.testBit v=decide (b=1)->IntKind.i64.wrap ((BitVec.ofInt 64 ((s/2^v:Nat):Int)&&& BitVec.ofInt 64 1).toNat:Int)=(b:Int)):=by decide+kernel
theorem rm_i: ∀s:Nat,s<32->∀v:Nat,v<5->(s.testBit v=true->IntKind.u64.wrap ((BitVec.ofInt 64 (s:Int)&&& ~~~ BitVec.ofInt 64 ((2^v:Nat):Int)).toNat:Int)=((s-2^v:Nat):Int)):=by decide+kernel
theorem rm_j: ∀s:Nat,s<32->∀v:Nat,v<5->(s.testBit v=true->IntKind.i64.wrap ((BitVec.ofInt 64 (s:Int)&&& ~~~ BitVec.ofInt 64 ((2^v:Nat):Int)).toNat:Int)=((s-2^v:Nat):Int)):=by decide+kernel
theorem shl_all: ∀v:Nat,v<16->wr .i64 (1*((2^min ((v:Nat):Int).toNat IntKind.i64.bits:Nat):Int))=((2^v:Nat):Int):=by decide+kernel
theorem shr_i{G:Ctx}{t:Nat}{x k:Nat}(hk:k<=64):Ai G .shr t (i6 (x:Int)) (i6 (k:Int))=some (i6 ((x/2^k:Nat):Int)):=by
 have h1:((k:Int)<0)=False:=by simp
 have h2:min k 64=k:=by omega
 simp only[Ai,intV,h1,if_false,Int.toNat_natCast,IntKind.bits,h2]
 rw[Int.fdiv_eq_ediv_of_nonneg _ (Int.natCast_nonneg _)]
 rfl
theorem Qnh{G:Ctx}{t s v b:Nat}(hs:s<32)(hv:v<5)(hb:b<2)(h:s.testBit v=decide (b=1)):Ai G .and t (i6 ((s/2^v:Nat):Int)) (i6 1)=some (i6 (b:Int)):=by
 have e:Ai G .and t (i6 ((s/2^v:Nat):Int)) (i6 1)=some (.int .i64 (IntKind.i64.wrap ((BitVec.ofInt 64 ((s/2^v:Nat):Int)&&& BitVec.ofInt 64 1).toNat:Int))):=rfl
 rw[e,bit_i s hs v hv b hb h]
theorem Qqo{G:Ctx}{t s v:Nat}(hs:s<32)(hv:v<5)(h:s.testBit v=true):Ai G .andNot t (u6 (s:Int)) (u6 ((2^v:Nat):Int))=some (u6 ((s-2^v:Nat):Int)):=by
 have e:Ai G .andNot t (u6 (s:Int)) (u6 ((2^v:Nat):Int))=some (.int .u64 (IntKind.u64.wrap ((BitVec.ofInt 64 (s:Int)&&& ~~~ BitVec.ofInt 64 ((2^v:Nat):Int)).toNat:Int))):=rfl
 rw[e,rm_i s hs v hv h]
theorem Qqn{G:Ctx}{t s v:Nat}(hs:s<32)(hv:v<5)(h:s.testBit v=true):Ai G .andNot t (i6 (s:Int)) (i6 ((2^v:Nat):Int))=some (i6 ((s-2^v:Nat):Int)):=by
 have e:Ai G .andNot t (i6 (s:Int)) (i6 ((2^v:Nat):Int))=some (.int .i64 (IntKind.i64.wrap ((BitVec.ofInt 64 (s:Int)&&& ~~~ BitVec.ofInt 64 ((2^v:Nat):Int)).toNat:Int))):=rfl
 rw[e,rm_j s hs v hv h]
theorem Gy: ∀v:Nat,v<16->wr .u64 (1*((2^min ((v:Nat):Int).toNat IntKind.u64.bits:Nat):Int))=((2^v:Nat):Int):=by decide+kernel
theorem Qhe{G:Ctx}{t v:Nat}(hv:v<16):Ai G .shl t (u6 1) (i6 (v:Int))=some (u6 ((2^v:Nat):Int)):=by
 have e:Ai G .shl t (u6 1) (i6 (v:Int))=if((v:Nat):Int)<0 then none else some (.int .u64 (wr .u64 (1*((2^min ((v:Nat):Int).toNat IntKind.u64.bits:Nat):Int)))):=rfl
 rw[e,if_neg o_,Gy v hv]
theorem Qlq{G:Ctx}{t v:Nat}(hv:v<16):Ai G .shl t (i6 1) (i6 (v:Int))=some (i6 ((2^v:Nat):Int)):=by
 have e:Ai G .shl t (i6 1) (i6 (v:Int))=if((v:Nat):Int)<0 then none else some (.int .i64 (wr .i64 (1*((2^min ((v:Nat):Int).toNat IntKind.i64.bits:Nat):Int)))):=rfl
 rw[e,if_neg o_,shl_all v hv]
section
variable (lim s:Nat) (q:Nat->Nat×Nat) (k:Nat)
def Cj:Nat->(Nat->Nat×Nat)×Nat
 |0=>(q,k)
 |v+1=>if s.testBit v then Bf lim s v (Cj v).1 (Cj v).2 (s+1)else Cj v
end
theorem Qg3(lim s:Nat)(q:Nat->Nat×Nat)(k:Nat): ∀n,k<=(Cj lim s q k n).2/\(Cj lim s q k n).2<=k+n*(s+1)
 |0=>⟨Nat.le_refl _,by show k<=_;omega⟩
 | n + 1 => by
  have ih:=Qg3 lim s q k n
  rw[Cj,Nat.succ_mul]
  split
  ·have := Qee lim s n (Cj lim s q k n).1 (Cj lim s q k n).2 (s + 1)
   unfold F0 at this
   omega
  ·omega
theorem Qcq{lim:Nat}{F:Nat->Nat->Nat->Int}{B:Nat->Nat->Int}{s v:Nat}{b:BSt}(hb: ∀p,inB (Av F B s v p) 1000)(h:Ck b): ∀k,Ck (Bu lim F B s v b k)
 |0=>h
 |k+1=>by
  rw[Bu]
  split
  ·exact(Qcq hb h k).up (hb k)
  ·exact Qcq hb h k
theorem Qht:Ck none:=fun _ _ _ h=>by cases h
section
variable (jj:List Int) (cs:List (List Int)) (F:Nat->Nat->Nat->Int) (size lim n:Nat) (s:Nat) (B:Nat->Nat->Int) (la pa:Nat->Nat)
abbrev vSx(x:Nat×(Nat->Nat×Nat)×Nat×BSt):SL:={sl:=clZ size lim n s x.1,os:=match x.2.2.1 with|0=>cmO jj cs size x.2.1 s x.2.2.2 B la pa 14 0|k+1=>cmO jj cs size x.2.1 s x.2.2.2 B la pa 14 (k+1)++[scO F x.2.1 k],md:=clM}
end
theorem Ql8(jj:List Int)(cs:List (List Int))(F:Nat->Nat->Nat->Int)(size lim n:Nat)(s:Nat)(B:Nat->Nat->Int)(la pa:Nat->Nat)(hn:n<=5)(hs:s<32)(h: ∀v,v<n->s.testBit v=true->Qej jj cs F size lim s v B)
  (q0:Nat->Nat×Nat)(k0:Nat)(hk0:k0<=5000)(q1:Nat->Nat×Nat)(k1:Nat)(b1:BSt)(hA:Cj lim s q0 k0 n=(q1,k1))(hB:B3 lim F B s n=b1):
  Sat Pg none 0 (at' 19 [1,1,1,1,1,0,1,0,0,1,1,0,0,1,1,1,1,0]) (Ah g0 75 (vSx jj cs F size lim n s B la pa (0,q0,k0,none))) (Qaf g0 75 [(True,.exit 2,vSx jj cs F size lim n s B la pa (n,q1,k1,b1))]):=by
 have hc:=Qag jj
 have hg:=Qap cs
 have hla:=fun b=>Qai (sL s b la) size
 have hpa:=fun b=>Qaj (sP s b pa) size
 have hBB:=fun b=>Qab (sB s b B) size
 have hEE:=fun q k=>Qae q k
 have hSS:=fun q k=>Qab (scF F q) k
 refine Qax vE_ok Af Qaa (b:=at' 19 [1,1,1,1,1,0,1,0,0,1,1,0,0,1,1,1,1,0,0]) k_ (fun x=>x.1<=n/\Cj lim s q0 k0 x.1=(x.2.1,x.2.2.1)/\B3 lim F B s x.1=x.2.2.2/\Ck x.2.2.2) (vSx jj cs F size lim n s B la pa) (fun x=>n-x.1) (fun x hx=>?_) (0,q0,k0,none) ⟨Nat.zero_le _,rfl,rfl,Qht⟩
 obtain⟨v,q,k,b⟩:=x
 obtain⟨hv,eA,eB,hG⟩:=hx
 dsimp only at hv eA eB hG
 have hkb:=(Qg3 lim s q0 k0 v).2
 rw[eA]at hkb
 have hk:k<=10000:=by
  have:v*(s+1)<=5*32:=Nat.mul_le_mul o_ o_
  dsimp only at hkb
  omega
 clear hkb
 by_cases hlt:v<n
 ·have hv5 : v < 5 := by omega
  have hsh:=fun G t=>@shr_i G t s v o_
  cases kw:s.testBit v with
  | false =>
   have eA2:Cj lim s q0 k0 (v+1)=(q,k):=by rw[Cj,if_neg (by rw[kw];decide),eA]
   have eB2:B3 lim F B s (v+1)=b:=by rw[B3,if_neg (by rw[kw];decide),eB]
   have han:=fun G t=>@Qnh G t s v 0 hs hv5 d_ kw
   clear h
   cases k with
   |zero=>
    skip
    refine .inl ⟨(v+1,q,_,b),[0,1,2,3,4,5,6,7,8,9,10,11,12,13],[yes 48,va 52 (i6 ((s/2^v:Nat):Int)),va 53 (i6 0),yes 54,nu 71 ((v+1:Nat):Int)],1000,⟨hlt,eA2,eB2,hG⟩,by dsimp only;omega,?_⟩
    exact v_ (p:=let z6:=An [Zz,Sm size,Sm (size-size)];let z0:=(size:Int);let z1:=nF (sL s b la) size;let z2:=uF (sP s b pa) size;let z3:=bF (sB s b B) size;let z4:=(↑(v+1):Int);let z5:=(n:Int);Bn [decide ((v:Int)<z5)=true,Ai (Qac Pg) .shr 3 (i6 s) (i6 v)=some (i6 ↑(s/2^v)),Ai (Qac Pg) .and 3 (i6 ↑(s/2^v)) (i6 1)=some (i6 0),((0:Int)==0)=true,wr .i64 ((v:Int)+1)=z4,Bn [Sm (lim:Int),Zz,Zz,Zz,Zz,z0=z0,Zz,Zz,Zz,Zz,Zz,z0=z0,Sm (s:Int),z5=z5,z4=z4],An [Sm [sl jj,gC cs],TT 2],Bn [Sm [V.nilp],Tt],An [Sm [V.nils,V.nils],TT 2],Bn [Sm [i6 0],Tt],An [z3=z3,HfL z3],An [Sm (Ak q 0),HfE (Ak q 0),Zz],An [An [Sm jj.length,Sm (Ab jj)],An [Sm cs.length,Sm (List.map sl cs)],z6,TT 2],Bn [Zz],An [z1=z1,HfL z1],An [z2=z2,HfL z2],Bn [z6,z6],Bn [Sm [i6 s],Tt],Bn [Sm [V.bool (Qaw b)],Tt],Bn [Bn [Zz,Zz,Zz,Zz]]])
   |succ k=>
    skip
    refine .inl ⟨(v+1,q,_,b),[0,1,2,3,4,5,6,7,8,9,10,11,12,13,14],[yes 48,va 52 (i6 ((s/2^v:Nat):Int)),va 53 (i6 0),yes 54,nu 71 ((v+1:Nat):Int)],1000,⟨hlt,eA2,eB2,hG⟩,by dsimp only;omega,?_⟩
    exact v_ (p:=let z8:=An [Zz,Sm size,Sm (size-size)];let z0:=(size:Int);let z1:=bF (scF F q) (k+1);let z2:=nF (sL s b la) size;let z3:=uF (sP s b pa) size;let z4:=bF (sB s b B) size;let z5:=(↑(v+1):Int);let z6:=Ak q (k+1);let z7:=(n:Int);Bn [decide ((v:Int)<z7)=true,Ai (Qac Pg) .shr 3 (i6 s) (i6 v)=some (i6 ↑(s/2^v)),Ai (Qac Pg) .and 3 (i6 ↑(s/2^v)) (i6 1)=some (i6 0),((0:Int)==0)=true,wr .i64 ((v:Int)+1)=z5,Bn [Sm (lim:Int),Zz,Zz,Zz,Zz,z0=z0,Zz,Zz,Zz,Zz,Zz,z0=z0,Sm (s:Int),z7=z7,z5=z5],An [Sm [sl jj,gC cs],TT 2],Bn [Sm [V.nilp],Tt],An [Sm [V.nils,V.nils],TT 2],Bn [Sm [i6 0],Tt],An [z4=z4,HfL z4],An [z6=z6,HfE z6,Sm (k+1)],Bn [An [Sm jj.length,Sm (Ab jj)],An [Sm cs.length,Sm (List.map sl cs)],z8,Tt,Bn [Zz,Sm (k+1)]],Bn [Zz],An [z2=z2,HfL z2],An [z3=z3,HfL z3],Bn [z8,z8],Bn [Sm [i6 s],Tt],Bn [Sm [V.bool (Qaw b)],Tt],Bn [Bn [Zz,Zz,Zz,Zz]],An [z1=z1,HfL z1]])
  | true =>
   have jf:=h v hlt kw
   have han:=fun G t=>@Qnh G t s v 1 hs hv5 d_ kw
   have hsl:=fun G t=>@Qhe G t v o_
   have hrm:=fun G t=>@Qqo G t s v hs hv5 kw
   have hcv:wr .u64 (s:Int)=s:=Qei (by simp[lo]) (by simp[hi];omega)
   have hpf:=parts_fn (s-2^v) lim
   have hle:=Qee lim s v q k (s+1)
   unfold F0 at hle
   cases k with
   | zero =>
    skip
    have jp:1<=(Bf lim s v q 0 (s+1)).2:=Qjc (s+1) o_ (Qb5.2 ⟨Nat.zero_and _,Nat.zero_testBit _,Nat.zero_le _⟩) rfl
    generalize jd:Bf lim s v q 0 (s+1)=z at jp hle
    obtain⟨q2,k2⟩:=z
    cases k2 with
    |zero=>exact absurd (show 1<=0 from jp) d_
    |succ k2=>
     have eA2:Cj lim s q0 k0 (v+1)=(q2,k2+1):=by rw[Cj,if_pos kw,eA];exact jd
     have eB2:B3 lim F B s (v+1)=Bu lim F B s v b (s+1):=by rw[B3,if_pos kw,eB]
     have hG2:=Qcq (lim:=lim) jf.bd hG (s+1)
     have l:=range_A jj cs F size lim n q s b B la pa v jf hG q2 k2 _ jd rfl
     generalize hb2:Bu lim F B s v b (s+1)=b2 at eB2 hG2 l
     clear h jf
     refine .inl ⟨(v+1,q2,k2+1,b2),[0,1,2,3,4,5,6,7,8,9,10,11,12,13,14],[yes 48,va 52 (i6 ((s/2^v:Nat):Int)),va 53 (i6 1),no 54,nu 56 (s:Int),va 58 (u6 ((2^v:Nat):Int)),va 59 (u6 ((s-2^v:Nat):Int)),fn 61 (.fn 56 [.imp [i6 (lim:Nat)],.imp [u6 (s-2^v:Nat)]]),(0,.loop [0,1,2,3,4,5,6,7,8,9,10,11,12,13,14] (rS0 jj cs size lim n q s b B la pa v) [(True,.normal,vS1 jj cs F size lim n q2 s b2 B la pa v k2)]),nu 71 ((v+1:Nat):Int)],1000,⟨hlt,eA2,eB2,hG2⟩,by dsimp only;omega,?_⟩
     exact v_ (p:=let x2:=An [Zz,Sm size,Sm (size-size)];let x3:=Bn [Bn [Zz,Zz,Zz,Zz]];let x4:=Bn [Sm [V.nilp],Tt];let x5:=Bn [Sm [i6 0],Tt];let z0:=(size:Int);let z1:=u6 ↑(s-2^v);let z2:=(s:Int);let z3:=[sl jj,gC cs];let z4:=[V.nils,V.nils];let z5:=bF (scF F q2) (k2+1);let z6:=(n:Int);let z7:=nF (sL s b2 la) size;let z8:=uF (sP s b2 pa) size;let z9:=(lim:Int);let y0:=List.map sl cs;let y1:=nF (sL s b la) size;let y2:=uF (sP s b pa) size;let y3:=bF (sB s b2 B) size;let y4:=bF (sB s b B) size;let y5:=(↑(v+1):Int);let y6:=(v:Int);let y7:=Ak q2 (k2+1);let y8:=Qac Pg;let y9:=Ab jj;let x0:=i6 ↑lim;let x1:=[i6 s];Bn [decide (y6<z6)=true,Ai y8 .shr 3 (i6 s) (i6 v)=some (i6 ↑(s/2^v)),Ai y8 .and 3 (i6 ↑(s/2^v)) (i6 1)=some (i6 1),((1:Int)==0)=false,wr .u64 z2=z2,Ai y8 .shl 72 (u6 1) (i6 v)=some (u6 ↑(2^v)),Ai y8 .andNot 72 (u6 s) (u6 ↑(2^v))=some z1,TT 2,Ac Pg g0 37 [z1,x0] (V.fn 56 [V.imp [x0],V.imp [z1]]),Tt,Bn [Bn [z9=z9,Zz,Zz,Zz,Zz,z0=z0,Zz,Zz,Zz,Zz,Zz,z0=z0,z2=z2,z6=z6,y6=y6,Zz,Bn [Sm [x0],Sm [z1]]],An [z3=z3,TT 2],x4,An [z4=z4,TT 2],x5,An [y4=y4,HfL y4],An [Sm (Ak q 0),HfE (Ak q 0),Zz],An [An [Sm jj.length,y9=y9],An [Sm cs.length,y0=y0],x2,TT 2],Bn [Zz],An [y1=y1,HfL y1],An [y2=y2,HfL y2],Bn [x2,x2],Bn [x1=x1,Tt],Bn [Sm [V.bool (Qaw b)],Tt],x3,Bn [Sm [i6 v],Tt]],Sat Pg none 0 (at' 19 [1,1,1,1,1,0,1,0,0,1,1,0,0,1,1,1,1,0,0,1,1,0,0,1,1,1,0]) (Ah g0 75 (rS0 jj cs size lim n q s b B la pa v)) (Qaf g0 75 [(True,Ex.normal,vS1 jj cs F size lim n q2 s b2 B la pa v k2)]),(True->Bn [wr .i64 (y6+1)=y5,Bn [z9=z9,Zz,Zz,Zz,Zz,z0=z0,Zz,Zz,Zz,Zz,Zz,z0=z0,z2=z2,z6=z6,y5=y5],An [z3=z3,TT 2],x4,An [z4=z4,TT 2],x5,An [y3=y3,HfL y3],An [y7=y7,HfE y7,Sm (k2+1)],Bn [An [Sm jj.length,y9=y9],An [Sm cs.length,y0=y0],x2,Tt,Bn [Zz,Sm (k2+1)]],Bn [Zz],An [z7=z7,HfL z7],An [z8=z8,HfL z8],Bn [x2,x2],Bn [x1=x1,Tt],Bn [Sm [V.bool (Qaw b2)],Tt],x3,An [z5=z5,HfL z5]])])
   | succ k =>
    skip
    have jp:1<=(Bf lim s v q (k+1) (s+1)).2:=by omega
    generalize jd:Bf lim s v q (k+1) (s+1)=z at jp hle
    obtain⟨q2,k2⟩:=z
    cases k2 with
    |zero=>exact absurd (show 1<=0 from jp) d_
    |succ k2=>
     have eA2:Cj lim s q0 k0 (v+1)=(q2,k2+1):=by rw[Cj,if_pos kw,eA];exact jd
     have eB2:B3 lim F B s (v+1)=Bu lim F B s v b (s+1):=by rw[B3,if_pos kw,eB]
     have hG2:=Qcq (lim:=lim) jf.bd hG (s+1)
     have l:=range_B jj cs F size lim n q s b B la pa v k o_ jf hG q2 k2 _ jd rfl
     generalize hb2:Bu lim F B s v b (s+1)=b2 at eB2 hG2 l
     clear h jf
     refine .inl ⟨(v+1,q2,k2+1,b2),[0,1,2,3,4,5,6,7,8,9,10,11,12,13,14],[yes 48,va 52 (i6 ((s/2^v:Nat):Int)),va 53 (i6 1),no 54,nu 56 (s:Int),va 58 (u6 ((2^v:Nat):Int)),va 59 (u6 ((s-2^v:Nat):Int)),fn 61 (.fn 56 [.imp [i6 (lim:Nat)],.imp [u6 (s-2^v:Nat)]]),(0,.loop [0,1,2,3,4,5,6,7,8,9,10,11,12,13,15,14] (rS1 jj cs F size lim n q s b B la pa v k) [(True,.normal,vS1 jj cs F size lim n q2 s b2 B la pa v k2)]),nu 71 ((v+1:Nat):Int)],1000,⟨hlt,eA2,eB2,hG2⟩,by dsimp only;omega,?_⟩
     exact v_ (p:=let x4:=An [Zz,Sm size,Sm (size-size)];let x5:=Bn [Bn [Zz,Zz,Zz,Zz]];let x6:=Bn [Sm [V.nilp],Tt];let x7:=Bn [Sm [i6 0],Tt];let z0:=(size:Int);let z1:=u6 ↑(s-2^v);let z2:=(s:Int);let z3:=[sl jj,gC cs];let z4:=[V.nils,V.nils];let z5:=bF (scF F q2) (k2+1);let z6:=(n:Int);let z7:=bF (scF F q) (k+1);let z8:=nF (sL s b2 la) size;let z9:=uF (sP s b2 pa) size;let y0:=(lim:Int);let y1:=List.map sl cs;let y2:=nF (sL s b la) size;let y3:=uF (sP s b pa) size;let y4:=bF (sB s b2 B) size;let y5:=bF (sB s b B) size;let y6:=(↑(v+1):Int);let y7:=(v:Int);let y8:=Ak q2 (k2+1);let y9:=Qac Pg;let x0:=Ak q (k+1);let x1:=Ab jj;let x2:=i6 ↑lim;let x3:=[i6 s];Bn [decide (y7<z6)=true,Ai y9 .shr 3 (i6 s) (i6 v)=some (i6 ↑(s/2^v)),Ai y9 .and 3 (i6 ↑(s/2^v)) (i6 1)=some (i6 1),((1:Int)==0)=false,wr .u64 z2=z2,Ai y9 .shl 72 (u6 1) (i6 v)=some (u6 ↑(2^v)),Ai y9 .andNot 72 (u6 s) (u6 ↑(2^v))=some z1,TT 2,Ac Pg g0 37 [z1,x2] (V.fn 56 [V.imp [x2],V.imp [z1]]),Tt,Bn [Bn [y0=y0,Zz,Zz,Zz,Zz,z0=z0,Zz,Zz,Zz,Zz,Zz,z0=z0,z2=z2,z6=z6,y7=y7,Zz,Bn [Sm [x2],Sm [z1]]],An [z3=z3,TT 2],x6,An [z4=z4,TT 2],x7,An [y5=y5,HfL y5],An [x0=x0,HfE x0,Sm (k+1)],Bn [An [Sm jj.length,x1=x1],An [Sm cs.length,y1=y1],x4,Tt,Bn [Zz,Sm (k+1)]],Bn [Zz],An [y2=y2,HfL y2],An [y3=y3,HfL y3],Bn [x4,x4],Bn [x3=x3,Tt],Bn [Sm [V.bool (Qaw b)],Tt],x5,Bn [Sm [i6 v],Tt],An [z7=z7,HfL z7]],Sat Pg none 0 (at' 19 [1,1,1,1,1,0,1,0,0,1,1,0,0,1,1,1,1,0,0,1,1,0,0,1,1,1,0]) (Ah g0 75 (rS1 jj cs F size lim n q s b B la pa v k)) (Qaf g0 75 [(True,Ex.normal,vS1 jj cs F size lim n q2 s b2 B la pa v k2)]),(True->Bn [wr .i64 (y7+1)=y6,Bn [y0=y0,Zz,Zz,Zz,Zz,z0=z0,Zz,Zz,Zz,Zz,Zz,z0=z0,z2=z2,z6=z6,y6=y6],An [z3=z3,TT 2],x6,An [z4=z4,TT 2],x7,An [y4=y4,HfL y4],An [y8=y8,HfE y8,Sm (k2+1)],Bn [An [Sm jj.length,x1=x1],An [Sm cs.length,y1=y1],x4,Tt,Bn [Zz,Sm (k2+1)]],Bn [Zz],An [z8=z8,HfL z8],An [z9=z9,HfL z9],Bn [x4,x4],Bn [x3=x3,Tt],Bn [Sm [V.bool (Qaw b2)],Tt],x5,An [z5=z5,HfL z5]])])
 ·have he : v = n := by omega
  subst he
  rw[eA]at hA
  rw[eB]at hB
  obtain⟨rfl,rfl⟩:=Prod.mk.inj hA
  subst hB
  clear h
  cases k with
  |zero=>
   skip
   refine .inr ⟨.exit 2,[0,1,2,3,4,5,6,7,8,9,10,11,12,13],_,[no 48],1000,.inl ⟨trivial,rfl,rfl⟩,?_⟩
   exact v_ (p:=let z5:=An [Zz,Sm size,Sm (size-size)];let z0:=(v:Int);let z1:=(size:Int);let z2:=nF (sL s b la) size;let z3:=uF (sP s b pa) size;let z4:=bF (sB s b B) size;Bn [decide (z0<z0)=false,Bn [Sm (lim:Int),Zz,Zz,Zz,Zz,z1=z1,Zz,Zz,Zz,Zz,Zz,z1=z1,Sm (s:Int),z0=z0,z0=z0],An [Sm [sl jj,gC cs],TT 2],Bn [Sm [V.nilp],Tt],An [Sm [V.nils,V.nils],TT 2],Bn [Sm [i6 0],Tt],An [z4=z4,HfL z4],An [Sm (Ak q 0),HfE (Ak q 0),Zz],An [An [Sm jj.length,Sm (Ab jj)],An [Sm cs.length,Sm (List.map sl cs)],z5,TT 2],Bn [Zz],An [z2=z2,HfL z2],An [z3=z3,HfL z3],Bn [z5,z5],Bn [Sm [i6 s],Tt],Bn [Sm [V.bool (Qaw b)],Tt],Bn [Bn [Zz,Zz,Zz,Zz]]])
  |succ k=>
   skip
   refine .inr ⟨.exit 2,[0,1,2,3,4,5,6,7,8,9,10,11,12,13,14],_,[no 48],1000,.inl ⟨trivial,rfl,rfl⟩,?_⟩
   exact v_ (p:=let z7:=An [Zz,Sm size,Sm (size-size)];let z0:=(v:Int);let z1:=(size:Int);let z2:=bF (scF F q) (k+1);let z3:=nF (sL s b la) size;let z4:=uF (sP s b pa) size;let z5:=bF (sB s b B) size;let z6:=Ak q (k+1);Bn [decide (z0<z0)=false,Bn [Sm (lim:Int),Zz,Zz,Zz,Zz,z1=z1,Zz,Zz,Zz,Zz,Zz,z1=z1,Sm (s:Int),z0=z0,z0=z0],An [Sm [sl jj,gC cs],TT 2],Bn [Sm [V.nilp],Tt],An [Sm [V.nils,V.nils],TT 2],Bn [Sm [i6 0],Tt],An [z5=z5,HfL z5],An [z6=z6,HfE z6,Sm (k+1)],Bn [An [Sm jj.length,Sm (Ab jj)],An [Sm cs.length,Sm (List.map sl cs)],z7,Tt,Bn [Zz,Sm (k+1)]],Bn [Zz],An [z3=z3,HfL z3],An [z4=z4,HfL z4],Bn [z7,z7],Bn [Sm [i6 s],Tt],Bn [Sm [V.bool (Qaw b)],Tt],Bn [Bn [Zz,Zz,Zz,Zz]],An [z2=z2,HfL z2]])
set_option maxHeartbeats 4000000
set_option maxRecDepth 100000
theorem Qgd(c:List Int)(h:c.length<=6)(h1:1<=c.length):Ac Pg g0 64 [sl c] (sl c):=by
 rcases c with _|⟨a,_|⟨b,_|⟨d,_|⟨e,_|⟨f,_|⟨g,_|⟨x,l⟩⟩⟩⟩⟩⟩⟩
 ·exact absurd h1 d_
 ·refine Ac.of_vc vE_ok Af Qaa (n := 1000) (r := []) (S := { sl := [(2, .im 1 [i6 a])] }) (hs := []) ?_
  exact u_ (p:=Bn [V.im 1 [i6 a]=sl [a],Bn [Bn [1=Int.toNat (0:Int)+1,Sm [i6 a],Tt]]])
 ·refine Ac.of_vc vE_ok Af Qaa (n := 1000) (r := []) (S := { sl := [(2, .im 2 [i6 a, i6 b])] }) (hs := []) ?_
  exact u_ (p:=Bn [V.im 2 [i6 a,i6 b]=sl [a,b],Bn [An [2=Int.toNat (0:Int)+2,Sm [i6 a,i6 b],TT 2]]])
 ·refine Ac.of_vc vE_ok Af Qaa (n := 1000) (r := []) (S := { sl := [(2, .im 3 [i6 a, i6 b, i6 d])] }) (hs := []) ?_
  exact u_ (p:=Bn [V.im 3 [i6 a,i6 b,i6 d]=sl [a,b,d],Bn [An [3=Int.toNat (0:Int)+3,Sm [i6 a,i6 b,i6 d],TT 3]]])
 ·refine Ac.of_vc vE_ok Af Qaa (n := 1000) (r := []) (S := { sl := [(2, .im 4 [i6 a, i6 b, i6 d, i6 e])] }) (hs := []) ?_
  exact u_ (p:=let z0:=[i6 a,i6 b,i6 d,i6 e];Bn [V.im 4 z0=sl [a,b,d,e],Bn [An [4=Int.toNat (0:Int)+4,z0=z0,TT 4]]])
 ·refine Ac.of_vc vE_ok Af Qaa (n := 1000) (r := []) (S := { sl := [(2, .im 5 [i6 a, i6 b, i6 d, i6 e, i6 f])] }) (hs := []) ?_
  exact u_ (p:=let z0:=[i6 a,i6 b,i6 d,i6 e,i6 f];Bn [V.im 5 z0=sl [a,b,d,e,f],Bn [An [5=Int.toNat (0:Int)+5,z0=z0,TT 5]]])
 ·refine Ac.of_vc vE_ok Af Qaa (n := 1000) (r := []) (S := { sl := [(2, .im 6 [i6 a, i6 b, i6 d, i6 e, i6 f, i6 g])] }) (hs := []) ?_
  exact u_ (p:=let z0:=[i6 a,i6 b,i6 d,i6 e,i6 f,i6 g];Bn [V.im 6 z0=sl [a,b,d,e,f,g],Bn [An [6=Int.toNat (0:Int)+6,z0=z0,TT 6]]])
 ·simp only[List.length_cons]at h;omega
def idL(n:Nat):List Int:=(List.range n).map Int.ofNat
theorem Qjb(n:Nat):(idL n).length=n:=by unfold idL;simp
theorem idL_at{n k:Nat}(h:k<n):Ad ((Ab (idL n)).drop (k*1))=some (i6 (k:Int)):=by
 rw[Qdy (by rw[Qjb];exact h)]
 congr 2
 unfold idL
 simp
def idF(k:Nat):Nat->Nat:=fun i=>if i<k then i else 0
theorem idF_next(k:Nat):(fun i=>if i=k then k else idF k i)=idF (k+1):=by
 funext i
 unfold idF
 by_cases h:i=k
 ·rw[if_pos h,if_pos o_,h]
 ·rw [if_neg h]
  by_cases h2:i<k
  ·rw[if_pos h2,if_pos o_]
  ·rw[if_neg h2,if_neg o_]
theorem nF_idF(n:Nat):nF (idF n) n=Ab (idL n):=by
 have: ∀m,m<=n->nF (idF n) m=Ab (idL m):=fun m=>by
  induction m with
  |zero=>intro _;rfl
  |succ m ih=>
   intro hm
   show blF _ (m+1)=_
   rw[Qbe,show blF (fun i=>[i6 (idF n i:Nat)]) m=Ab (idL m)from ih o_]
   unfold idL Ab
   rw[List.range_succ,List.map_append,List.map_append]
   congr 2
   unfold idF
   rw[if_pos o_];rfl
 exact this n (Nat.le_refl _)
theorem rep_nF(n:Nat):rep n [i6 0]=nF (idF 0) n:=by
 rw[Qg8]
 refine Qby fun i hi=>?_
 unfold idF
 rw[if_neg o_];rfl
theorem known_fn(jj:List Int)(cs:List (List Int))(n:Nat):Ac Pg g0 63 [gV jj cs,sl (idL n)] (.fn 72 [.imp [sl jj,gC cs],.imp [sl (idL n)]]):=by
 refine Ac.of_vc vE_ok Af Qaa (n:=1000) (r:=[]) (S:={sl:=[(4,.fn 72 [.imp [sl jj,gC cs],.imp [sl (idL n)]])]}) (hs:=[]) ?_
 exact v_ (p:=Bn [Sm (V.fn 72 [V.imp [sl jj,gC cs],V.imp [sl (idL n)]]),Bn [Bn [An [Sm [sl jj,gC cs],TT 2],Bn [Sm [sl (idL n)],Tt]]]])
noncomputable abbrev rkC:Code:=at' 51 [1,1,1,1,1,0,1,0]
theorem rk_eq:rkC= .rangeFunc (.tmp 34) #[35,36] (rfAsg rkC) (Qoq rkC):=by kernel_rfl
noncomputable def rkB:Code:=Qoq rkC
noncomputable def rkA:Code:=rfAsg rkC
def noL:List V:=[]
section
variable (jj:List Int) (cs:List (List Int))
abbrev kZ:List (Nat×V):=[(2,.ptr 0 0),(7,.ptr 1 0),(34,.fn 72 [.imp [sl jj,gC cs],.imp [sl (idL jj.length)]])]
noncomputable def rkT:TM:=(Ah g0 45 {sl:=kZ jj cs}).tm
noncomputable abbrev lkO(ls:LoopState):O:=.loop ls none 0 (rkT jj cs) [35,36] rkA rkB
abbrev kO(v:V):List O:=[.row 31 none [.nils,.nils],.row 31 none [sl jj,v],.row 28 none noL]
noncomputable abbrev kA(ls:LoopState):List O:=kO jj (.sl 2 0 0 (some 0))++[lkO jj cs ls]
noncomputable abbrev kA1(ls:LoopState)(c:List Int):List O:=kO jj (.sl 5 0 1 none)++[lkO jj cs ls,.row 28 none [sl c],.row 28 (some 1) [sl c]]
noncomputable abbrev kC(ls:LoopState)(k:Nat)(l:List V):List O:=kO jj (.sl 4 0 (k+1) none)++[lkO jj cs ls,.row 28 (some 1) l]
noncomputable abbrev kC1(ls:LoopState)(k:Nat)(l:List V)(c:List Int):List O:=kO jj (.sl 6 0 (k+2) none)++[lkO jj cs ls,.dead,.row 28 none [sl c],.row 28 (some 1) (l++[sl c])]
end
theorem Qsf(jj:List Int)(cs:List (List Int))(nx0:Nat)(h:3<=nx0):Bs nx0 (rkT jj cs):=by
 intro i x hx
 have hx':(En (Qdg 45) (kZ jj cs)).get i=some x:=hx
 rcases Cr _ _ _ _ hx' with hm|hm
 ·simp only [kZ, List.mem_cons, List.not_mem_nil, or_false, Prod.mk.injEq] at hm
  rcases hm with⟨_,rfl⟩|⟨_,rfl⟩|⟨_,rfl⟩<;>simp only[Sc,ScL,and_true]<;>omega
 ·rw[Qbz]at hm;cases hm
theorem G2(i:Nat)(c:List Int)(hd:Nat)(H:T O)(nx:Nat):vc Pg vE sp0 (some hd) nx 1000 rkA [] (A4 g0 45 [(7,.ptr 1 0),(35,i6 (i:Nat)),(36,sl c)] H nx []) (kAsg 45 [(7,.ptr 1 0),(9,sl c)] H nx):=by
 refine m_ (p:=An [Bn [Sm (V.ptr 1 0),Sm (sl c)],H=H,nx=nx,([]:List Nat)=[]]) ?_
 (repeat'(first|(with_reducible apply And.intro)|(refine fun(_:True)=>?_)))<;>first|exact aq|skip
 all_goals skip
theorem yldk_A(jj:List Int)(cs:List (List Int))(i:Nat)(c:List Int)(h:c.length<=6)(h1:1<=c.length):
  Aa Pg g0 (.yld 3) [i6 (i:Nat),sl c] (Ae .e 0 (kA jj cs .ready)) 4 ⟨.bool true,Ae .e 0 (kA1 jj cs .ready c),6,[1,3]⟩:=by
 have hcl:=Qgd c h h1
 refine Aa.yldN vE_ok Af Qaa (n:=45) (fn0:=0) (tm:=rkT jj cs) (ps:=[35,36]) (assign:=rkA) (body:=rkB) (hs0:=[]) (hs1:=[fn 40 (sl c),(42,.cp 1 [sl c])]) (m0:=1000) (m1:=1000) (sl0:=[(7,.ptr 1 0),(35,i6 (i:Nat)),(36,sl c)]) (sl1:=[(7,.ptr 1 0),(9,sl c)]) k_ rfl rfl rfl ⟨rfl,rfl,rfl,trivial⟩ (G2 i c 3) ?_ d_ (Qje (os0:=kA jj cs .ready) (os1:=kA1 jj cs .ready c) (by simp) (fun i hi hno=>?_)) k_
 ·refine Eq.mp (by kernel_rfl : (let z1 := O.loop .busy none 0 (rkT jj cs) [35, 36] rkA rkB; let z0 := pt (pt (Ae T.e 0 (kA jj cs .ready)) 3 z1) 4 (O.row 28 none [sl c]); An [An [Tt, Tt], Ac Pg g0 64 [V.im c.length (Ab c)] (sl c), Tt, An [A3 z0 1 (V.sl 4 0 1 (some 0)) = some (1, [sl c]), A3 z0 1 (V.sl 2 0 0 (some 0)) = some (0, []), 1 <= 1, 1 <= 9223372036854775807, 1 * 24 <= 140737488355328], pt (pt z0 5 (O.row 28 (some 1) [sl c])) 1 (O.row 31 none [sl jj, V.sl 5 0 1 none]) = pt (Ae T.e 0 (kA1 jj cs .ready c)) 3 z1, 6 = 6, ∀ (g : Nat), List.Mem g ([1] ++ ([] ++ ([] ++ [3]))) -> List.Mem g [1, 3]]) = _) ?_
  exact a_
 ·rcases(show i=0\/i=1\/i=2\/i=3 by simp at hi;omega)with rfl|rfl|rfl|rfl<;>first|rfl|(simp at hno)
theorem yldk_C(jj:List Int)(cs:List (List Int))(k:Nat)(l:List V)(hl:l.length=k+1)(hk:k<=100)(i:Nat)(c:List Int)(h:c.length<=6)(h1:1<=c.length):
  Aa Pg g0 (.yld 3) [i6 (i:Nat),sl c] (Ae .e 0 (kC jj cs .ready k l)) 5 ⟨.bool true,Ae .e 0 (kC1 jj cs .ready k l c),7,[1,4,3]⟩:=by
 have hcl:=Qgd c h h1
 refine Aa.yldN vE_ok Af Qaa (n:=45) (fn0:=0) (tm:=rkT jj cs) (ps:=[35,36]) (assign:=rkA) (body:=rkB) (hs0:=[]) (hs1:=[fn 40 (sl c),ap 42]) (m0:=1000) (m1:=1000) (sl0:=[(7,.ptr 1 0),(35,i6 (i:Nat)),(36,sl c)]) (sl1:=[(7,.ptr 1 0),(9,sl c)]) k_ rfl rfl rfl ⟨rfl,rfl,rfl,trivial⟩ (G2 i c 3) ?_ d_ (Qje (os0:=kC jj cs .ready k l) (os1:=kC1 jj cs .ready k l c) (by simp) (fun i hi hno=>?_)) k_
 ·refine Eq.mp (by kernel_rfl : (let z0 := O.loop .busy none 0 (rkT jj cs) [35, 36] rkA rkB; An [An [Tt, Tt], Ac Pg g0 64 [V.im c.length (Ab c)] (sl c), Tt, l.length = (k + 1) * 1, k + 1 + 1 <= 9223372036854775807, (k + 1 + 1) * 24 <= 140737488355328, pt (pt (pt (pt (pt (Ae T.e 0 (kC jj cs .ready k l)) 3 z0) 5 (O.row 28 none [sl c])) 4 O.dead) 6 (O.row 28 (some 1) (l ++ [sl c]))) 1 (O.row 31 none [sl jj, V.sl 6 0 (k + 1 + 1) none]) = pt (Ae T.e 0 (kC1 jj cs .ready k l c)) 3 z0, 7 = 7, ∀ (g : Nat), List.Mem g ([1] ++ ([4] ++ ([] ++ [3]))) -> List.Mem g [1, 4, 3]]) = _) ?_
  exact a_
 ·rcases(show i=0\/i=1\/i=2\/i=3\/i=4 by simp at hi;omega)with rfl|rfl|rfl|rfl|rfl<;>first|rfl|(simp at hno)
set_option maxHeartbeats 4000000
set_option maxRecDepth 100000
section
variable (jj:List Int) (cs:List (List Int))
noncomputable abbrev kwS(a:List (List Int))(m:Nat):List O:=match m with|0=>kA jj cs .ready|k+1=>kC jj cs .ready k (a.map sl)
noncomputable abbrev knS(x:Nat×Nat×List (List Int)):SL:={sl:=[(0,.yld 3),(2,.imp [sl (idL jj.length)]),(9,gC cs),(10,i6 (cs.length:Nat)),(11,i6 (x.1:Nat))],os:=kwS jj cs x.2.2 x.2.1,md:=[0,1],lg:=[1,3]}
noncomputable abbrev knX(m:Nat)(a:List (List Int)):SL:={sl:=[],os:=kwS jj cs a m,md:=[0,1],lg:=[1,3]}
noncomputable abbrev kiS(i m:Nat)(a:List (List Int))(c:List Int)(j:Nat):SL:={sl:=[(0,.yld 3),(2,.imp [sl (idL jj.length)]),(9,gC cs),(10,i6 (cs.length:Nat)),(11,i6 (i:Nat)),(4,i6 (i:Nat)),(5,sl c),(16,sl (idL jj.length)),(17,i6 (jj.length:Nat)),(18,i6 (j:Nat))],os:=kwS jj cs a m,md:=[0,1],lg:=[1,3]}
noncomputable abbrev kiX(i m:Nat)(a:List (List Int))(c:List Int):SL:={sl:=[(0,.yld 3),(2,.imp [sl (idL jj.length)]),(9,gC cs),(10,i6 (cs.length:Nat)),(11,i6 (i:Nat)),(4,i6 (i:Nat)),(5,sl c)],os:=kwS jj cs a m,md:=[0,1],lg:=[1,3]}
noncomputable abbrev kiY(i m:Nat)(a:List (List Int)):SL:={sl:=[(0,.yld 3),(2,.imp [sl (idL jj.length)]),(9,gC cs),(10,i6 (cs.length:Nat)),(11,i6 (i:Nat))],os:=kwS jj cs a m,md:=[0,1],lg:=[1,3]}
end
theorem ki_loop(jj:List Int)(cs:List (List Int))(i m:Nat)(a:List (List Int))(c:List Int)(hc:c.length=jj.length)(h6:jj.length<=6):
  Sat Pg none 4 (at' 72 [0,1,1,0,0,1,1,0,0,1,0,1,0]) (Ah g0 34 (kiS jj cs i m a c 0)) (Qaf g0 34 [(Cf c=false,.exit 2,kiX jj cs i m a c),(Cf c=true,.exit 1,kiY jj cs i m a)]):=by
 have hlr:=Qsf jj cs 4 d_
 have hla:=Qca sl a (fun _=>trivial)
 refine Qax vE_ok Af Qaa (b:=at' 72 [0,1,1,0,0,1,1,0,0,1,0,1,0,0]) k_ (fun k=>k<=c.length/\(c.take k).any (fun x=>decide (x<0))=false) (kiS jj cs i m a c) (fun k=>c.length-k) (fun k hk=>?_) 0 ⟨Nat.zero_le _,rfl⟩
 obtain⟨hk,hj⟩:=hk
 have hid:=@idL_at jj.length k
 by_cases hlt:k<c.length
 ·have hld := @Qal c k hlt
  have hid:=hid o_
  have hck:c[k]? =some (c.getD k 0):=by rw[List.getD_eq_getElem?_getD,List.getElem?_eq_getElem hlt];rfl
  have hn:(k:Int)<(jj.length:Int):=by omega
  have jy:=Qjb jj.length
  cases m with
  | zero =>
   by_cases h1:c.getD k 0<0
   ·have hb : Cf c = true := Qdd hck (decide_eq_true h1)
    refine .inr ⟨.exit 1,[],kiY jj cs i 0 a,[yes 19,pl 20,ld 21 (i6 (k:Nat)),pl 24,ld 25 (i6 (c.getD k 0)),yes 26],1000,.inr (.inl ⟨hb,rfl,rfl⟩),?_⟩
    exact v_ (p:=let z0:=idL jj.length;let z1:=(k:Int);let z2:=(0:Int);Bn [decide (z1<(jj.length:Int))=true,An [z2<=z1,z1<(z0.length:Int)],Ad (List.drop (k*1) (Ab z0))=some (i6 k),An [z2<=z1,z1<(c.length:Int)],Ad (List.drop (k*1) (Ab c))=some (i6 (List.getD c k z2)),decide (List.getD c k z2<z2)=true,Bn [Tt,Sm [sl z0],An [Sm cs.length,Sm (List.map sl cs)],Sm (cs.length:Int),Sm (i:Int)],An [Sm [V.nils,V.nils],TT 2],Bn [An [Sm jj.length,Sm (Ab jj)],An [Zz,Zz,Zz]],Bn [noL=noL],An [lkO jj cs .ready=O.loop .ready none 0 (rkT jj cs) [35,36] rkA rkB,Bs 4 (rkT jj cs)]])
   ·have hg := Qcr hck hj (decide_eq_false h1)
    refine .inl ⟨k+1,[],[yes 19,pl 20,ld 21 (i6 (k:Nat)),pl 24,ld 25 (i6 (c.getD k 0)),no 26,nu 27 (k+1:Nat)],1000,⟨hlt,hg⟩,by omega,?_⟩
    exact v_ (p:=let z0:=idL jj.length;let z1:=(k:Int);let z2:=(jj.length:Int);let z3:=(↑(k+1):Int);let z4:=(i:Int);let z5:=(0:Int);let z6:=z0.length;Bn [decide (z1<z2)=true,An [z5<=z1,z1<(↑(z6):Int)],Ad (List.drop (k*1) (Ab z0))=some (i6 k),An [z5<=z1,z1<(c.length:Int)],Ad (List.drop (k*1) (Ab c))=some (i6 (List.getD c k z5)),decide (List.getD c k z5<z5)=false,wr .i64 (z1+1)=z3,Bn [Tt,Sm [sl z0],An [Sm cs.length,Sm (List.map sl cs)],Sm (cs.length:Int),z4=z4,z4=z4,An [Sm c.length,Sm (Ab c)],An [z6=z6,Sm (Ab z0)],z2=z2,z3=z3],An [Sm [V.nils,V.nils],TT 2],Bn [An [Sm jj.length,Sm (Ab jj)],An [Zz,Zz,Zz]],Bn [noL=noL],An [lkO jj cs .ready=O.loop .ready none 0 (rkT jj cs) [35,36] rkA rkB,Bs 4 (rkT jj cs)]])
  | succ m =>
   by_cases h1:c.getD k 0<0
   ·have hb : Cf c = true := Qdd hck (decide_eq_true h1)
    refine .inr ⟨.exit 1,[4],kiY jj cs i (m+1) a,[yes 19,pl 20,ld 21 (i6 (k:Nat)),pl 24,ld 25 (i6 (c.getD k 0)),yes 26],1000,.inr (.inl ⟨hb,rfl,rfl⟩),?_⟩
    exact v_ (p:=let z0:=idL jj.length;let z1:=(k:Int);let z2:=(0:Int);let z3:=List.map sl a;Bn [decide (z1<(jj.length:Int))=true,An [z2<=z1,z1<(z0.length:Int)],Ad (List.drop (k*1) (Ab z0))=some (i6 k),An [z2<=z1,z1<(c.length:Int)],Ad (List.drop (k*1) (Ab c))=some (i6 (List.getD c k z2)),decide (List.getD c k z2<z2)=true,Bn [Tt,Sm [sl z0],An [Sm cs.length,Sm (List.map sl cs)],Sm (cs.length:Int),Sm (i:Int)],An [Sm [V.nils,V.nils],TT 2],Bn [An [Sm jj.length,Sm (Ab jj)],Bn [Zz,Sm (m+1)]],Bn [noL=noL],An [lkO jj cs .ready=O.loop .ready none 0 (rkT jj cs) [35,36] rkA rkB,Bs 4 (rkT jj cs)],An [z3=z3,HfL z3]])
   ·have hg := Qcr hck hj (decide_eq_false h1)
    refine .inl ⟨k+1,[4],[yes 19,pl 20,ld 21 (i6 (k:Nat)),pl 24,ld 25 (i6 (c.getD k 0)),no 26,nu 27 (k+1:Nat)],1000,⟨hlt,hg⟩,by omega,?_⟩
    exact v_ (p:=let z0:=idL jj.length;let z1:=(k:Int);let z2:=(jj.length:Int);let z3:=(↑(k+1):Int);let z4:=(i:Int);let z5:=(0:Int);let z7:=List.map sl a;let z6:=z0.length;Bn [decide (z1<z2)=true,An [z5<=z1,z1<(↑(z6):Int)],Ad (List.drop (k*1) (Ab z0))=some (i6 k),An [z5<=z1,z1<(c.length:Int)],Ad (List.drop (k*1) (Ab c))=some (i6 (List.getD c k z5)),decide (List.getD c k z5<z5)=false,wr .i64 (z1+1)=z3,Bn [Tt,Sm [sl z0],An [Sm cs.length,Sm (List.map sl cs)],Sm (cs.length:Int),z4=z4,z4=z4,An [Sm c.length,Sm (Ab c)],An [z6=z6,Sm (Ab z0)],z2=z2,z3=z3],An [Sm [V.nils,V.nils],TT 2],Bn [An [Sm jj.length,Sm (Ab jj)],Bn [Zz,Sm (m+1)]],Bn [noL=noL],An [lkO jj cs .ready=O.loop .ready none 0 (rkT jj cs) [35,36] rkA rkB,Bs 4 (rkT jj cs)],An [z7=z7,HfL z7]])
 ·have : k = c.length := by omega
  subst this
  rw[List.take_length]at hj
  have hn: ¬((c.length:Int)<(jj.length:Int)):=by omega
  cases m with
  |zero=>
   refine .inr ⟨.exit 2,[],kiX jj cs i 0 a c,[no 19],1000,.inl ⟨hj,rfl,rfl⟩,?_⟩
   exact v_ (p:=Bn [decide ((c.length:Int)<(jj.length:Int))=false,Bn [Tt,Sm [sl (idL jj.length)],An [Sm cs.length,Sm (List.map sl cs)],Sm (cs.length:Int),Sm (i:Int),Sm (i:Int),An [Sm c.length,Sm (Ab c)]],An [Sm [V.nils,V.nils],TT 2],Bn [An [Sm jj.length,Sm (Ab jj)],An [Zz,Zz,Zz]],Bn [noL=noL],An [lkO jj cs .ready=O.loop .ready none 0 (rkT jj cs) [35,36] rkA rkB,Bs 4 (rkT jj cs)]])
  |succ m=>
   refine .inr ⟨.exit 2,[4],kiX jj cs i (m+1) a c,[no 19],1000,.inl ⟨hj,rfl,rfl⟩,?_⟩
   exact v_ (p:=Bn [decide ((c.length:Int)<(jj.length:Int))=false,Bn [Tt,Sm [sl (idL jj.length)],An [Sm cs.length,Sm (List.map sl cs)],Sm (cs.length:Int),Sm (i:Int),Sm (i:Int),An [Sm c.length,Sm (Ab c)]],An [Sm [V.nils,V.nils],TT 2],Bn [An [Sm jj.length,Sm (Ab jj)],Bn [Zz,Sm (m+1)]],Bn [noL=noL],An [lkO jj cs .ready=O.loop .ready none 0 (rkT jj cs) [35,36] rkA rkB,Bs 4 (rkT jj cs)],An [Sm (List.map sl a),HfL (List.map sl a)]])
end Go.Proofs.YtakfneapahohkaaDoor.Am
