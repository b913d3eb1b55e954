/- Texts behind the claim, part 6: the abstract machine, and what the functions answer. No condition. -/
import Derived.Test.YtifdkhfldbkkpaaGreatCC5
set_option linter.unusedVariables false
set_option maxHeartbeats 4000000
set_option maxRecDepth 100000
set_option linter.unusedSimpArgs false
set_option linter.unusedSectionVars false
namespace Go.Proofs.YtifdkhfldbkkpaaGreat.Am
open Go.RowKit
variable{g:Int}{R:List (List Int)}{cs s u:List Int}{N:List Mc}{h i m n nx t x:Nat}{f:Nat->Int}{room sp:Option Nat}{H:T O}
section
variable (g:Int) (R:List (List Int)) (N:List Mc) (W:Int) (u:List Int) (hN:Fp R N) (hu:AM R u) (f:Nat->Int) (c:Int) (fr nz ou:List Int) (i:Nat)
include hN
theorem OE(hfr:Hw fr N.length)(hf5:fr.length<=5)(hf: ∀j,j<N.length->0<=f j/\f j<(N.getD j Ao).c)(w:Nat->List Int)
  (hcall: ∀k,k<fr.length->Ac Pg g0 (.fn 151 []) [i6 ((fr.getD k 0).toNat:Nat),.ptr 3 0,.ptr 0 0,.ptr 4 0,.ptr 1 0] (Ai .e 0 (H6 g R.length (Ah R) N.length (Ak N) W u (w k))) 5 ⟨i6 (f (fr.getD k 0).toNat),Ai .e 0 (H6 g R.length (Ah R) N.length (Ak N) W u (w (k+1))),5,[2]⟩):
  Au Pg none 5 (aT 151 11111010) (Al g0 83 (KE g R.length (Ah R) N.length (Ak N) W u (w 0) ⟨c,fr,nz,ou⟩ i 0 0)) (B3 g0 83 [(True,.exit 0,KE g R.length (Ah R) N.length (Ak N) W u (w fr.length) ⟨c,fr,nz,ou⟩ i fr.length (H8 N f fr fr.length))]):=by
 have hRR:=B7 R
 have hNN:=Cl N
 have h1:=Ap fr
 have h2:=Ap nz
 have h3:=Ap ou
 have huu:=Ap u
 refine C9 (aT 151 111110100) (λk=>k<=fr.length) (λk=>KE g R.length (Ah R) N.length (Ak N) W u (w k) ⟨c,fr,nz,ou⟩ i k (H8 N f fr k)) (λk=>fr.length-k) (λk hk=>?_) 0 (aG _)
 by_cases hlt:k<fr.length
 .have hld:=Dm hlt
  obtain⟨p1,p2⟩:=hfr k hlt
  have hb:=SK hN.c (f:=f) (L:=fr) (λj hj=>hf _ (by have:=hfr j hj;omega)) k hk
  have hb2:=SK hN.c (f:=f) (L:=fr) (λj hj=>hf _ (by have:=hfr j hj;omega)) (k+1) hlt
  have hpb:=LW hN.c hfr k hk
  have hpb2:=LW hN.c hfr (k+1) hlt
  have h45:(4:Int)^(k+1)<=4^5:=by
   have:=aH (show 4>0 by decide) (show k+1<=5 by omega)
   exact_mod_cast this
  have h44:(4:Int)^k<=4^5:=by
   have:=aH (show 4>0 by decide) (show k<=5 by omega)
   exact_mod_cast this
  have h46:(4:Int)^5=1024:=rfl
  have hfy:=hf (fr.getD k 0).toNat o_
  have hcy:=hN.c (fr.getD k 0).toNat o_
  have e1:H8 N f fr (k+1)=H8 N f fr k*(N.getD (fr.getD k 0).toNat Ao).c+f (fr.getD k 0).toNat:=rfl
  have hc:=FH hRR hNN (hcall k hlt) c fr nz ou
  obtain⟨y,hy⟩: ∃y:Nat,fr.getD k 0=(y:Int):=⟨(fr.getD k 0).toNat,o_⟩
  rw[hy]at hld p1 p2
  have e0:(fr.getD k 0).toNat=y:=by rw[hy];rfl
  rw[e0]at hc e1 hfy hcy
  have hl2:=ML (N:=N) (k:=y) o_
  generalize (N.getD y Ao).c=cy,he1:H8 N f fr (k+1)=b,H8 N f fr k=a,f y=v at*
  have hac:0<=a*cy:=bY hb.1 o_
  generalize Cs N fr k=pk,Cs N fr (k+1)=pk2,w k=w0,hw1:w (k+1)=w1 at*
  have hw0h:=Ap w0
  have hw1h:=Ap w1
  obtain⟨z,hz⟩: ∃z,z=a*cy:=⟨_,rfl⟩
  rw[<-hz]at hac e1
  refine .inl ⟨k+1,[5],[As 32,pl 33,ld 34 (i6 y),(46,.call ⟨i6 v,Ai .e 0 (H6 g R.length (Ah R) N.length (Ak N) W u w1++[N4 ⟨c,fr,nz,ou⟩]),6,[2]⟩),pl 40,ld 42 (i6 cy),nu 43 z,nu 47 b,nu 48 ((k+1:Nat):Int)],1000,hlt,o_,?_⟩
  clear hcall hf hfr hN
  generalize Ah R=RR,Ak N=NN at*
  exact m_ (p:=let z0:=(↑fr.length:Int);let z1:=[i6 g,V.im R.length RR,V.im N.length NN,i6 W];let z2:=(↑(k+1):Int);let z4:=[i6 c,sl fr,sl nz,sl ou];An [_,_,_,_,An [_,_],Ae (List.drop 0 (List.drop (y*4) NN))=some (i6 cy),wr .i64 (a*cy)=z,wr .i64 (z+v)=b,wr .i64 ((↑k:Int)+(1:Int))=z2,An [Sm (↑i:Int),Zz,Zz,Zz,Zz,Zz,_,An [Sm fr.length,Sm (Aa fr)],z0=z0,z2=z2,Tt],An [z1=z1,TT 4],An [Sm [sl u],Tt,Tt],An [Aa (w (k+1))=Aa w1,Ba (Aa (w (k+1)))],An [An [Zz,Sm N.length,Tt],Tt],An [An [Zz,Zz,Zz,Zz,Tt],Tt],An [z4=z4,TT 4],Tt]) ⟨Bf hlt,Ar hlt,hld,hc,⟨p1,p2⟩,aq,aq,aq,aq,⟨aq,aq,aq,aq,aq,aq,he1,a_⟩,a_⟩
 .have hk2:k=fr.length:=o_
  subst hk2
  generalize H8 N f fr fr.length=a,w fr.length=w0 at*
  have hw0h:=Ap w0
  refine .inr ⟨.exit 0,[5],KE g R.length (Ah R) N.length (Ak N) W u w0 ⟨c,fr,nz,ou⟩ i fr.length a,[no 32],1000,.inl ⟨trivial,rfl,rfl⟩,?_⟩
  clear hcall hf hfr hN
  generalize Ah R=RR,Ak N=NN at*
  exact Cj [_] (Cq hlt)
include hu
theorem OD(a:Int)(hnz:Hw nz R.length)(hn8:nz.length<=8)(p:Int)(ha:0<=a/\a<p)(hp:p<=1024)(w:List Int):
  Au Pg none 5 (aT 151 111111010) (Al g0 83 (KD g R.length (Ah R) N.length (Ak N) W u w ⟨c,fr,nz,ou⟩ i 0 a)) (B3 g0 83 [(True,.exit 2,KD g R.length (Ah R) N.length (Ak N) W u w ⟨c,fr,nz,ou⟩ i nz.length (Ja R u a nz nz.length))]):=by
 have hRR:=B7 R
 have hNN:=Cl N
 have h1:=Ap fr
 have h2:=Ap nz
 have h3:=Ap ou
 have huu:=Ap u
 have hww:=Ap w
 refine C9 (aT 151 1111110100) (λk=>k<=nz.length) (λk=>KD g R.length (Ah R) N.length (Ak N) W u w ⟨c,fr,nz,ou⟩ i k (Ja R u a nz k)) (λk=>nz.length-k) (λk hk=>?_) 0 (aG _)
 by_cases hlt:k<nz.length
 .have hld:=Dm hlt
  obtain⟨p1,p2⟩:=hnz k hlt
  have hub: ∀j,j<nz.length->0<=u.getD (nz.getD j 0).toNat 0/\u.getD (nz.getD j 0).toNat 0<((R.getD (nz.getD j 0).toNat []).length:Nat):=λj hj=>hu.2 _ (by have:=hnz j hj;omega)
  have hb:=WR ha hub k hk
  have hb2:=WR ha hub (k+1) hlt
  have hrb:=TL hN.rl hnz k hk
  have hrb2:=TL hN.rl hnz (k+1) hlt
  have h4:4^(k+1)<=4^8:=aH d_ o_
  have h44:4^k<=4^8:=aH d_ o_
  have h48:4^8=65536:=rfl
  have b1:p*(C7 R nz k:Nat)<=1024*65536:=bC hp o_ o_ o_
  have b2:p*(C7 R nz (k+1):Nat)<=1024*65536:=bC hp o_ o_ o_
  have hul:=hub k hlt
  have hrl:=hN.rl (nz.getD k 0).toNat o_
  have e1:Ja R u a nz (k+1)=Ja R u a nz k*((R.getD (nz.getD k 0).toNat []).length:Nat)+u.getD (nz.getD k 0).toNat 0:=rfl
  obtain⟨y,hy⟩: ∃y:Nat,nz.getD k 0=(y:Int):=⟨(nz.getD k 0).toNat,o_⟩
  rw[hy]at hld p1 p2
  have e0:(nz.getD k 0).toNat=y:=by rw[hy];rfl
  rw[e0]at e1 hul hrl
  have hl2:=Pk (R:=R) (k:=y) o_
  have hl3:=Dm (l:=u) (k:=y) (by have:=hu.1;omega)
  have hlu:=hu.1
  generalize R.getD y []=L at*
  have hLL:=Ap L
  generalize u.getD y 0=v,he1:Ja R u a nz (k+1)=b,Ja R u a nz k=x at*
  have hac:0<=x*(L.length:Int):=bY hb.1 o_
  obtain⟨z,hz⟩: ∃z,z=x*(L.length:Int):=⟨_,rfl⟩
  rw[<-hz]at hac e1
  refine .inl ⟨k+1,[5],[As 53,pl 54,ld 55 (i6 y),pl 61,ld 62 (sl L),nu 64 z,pl 67,ld 68 (i6 v),nu 69 b,nu 70 ((k+1:Nat):Int)],1000,hlt,o_,?_⟩
  clear hub hnz hu hN
  generalize Ah R=RR,Ak N=NN at*
  exact m_ (p:=let z0:=(↑nz.length:Int);let z1:=[i6 g,V.im R.length RR,V.im N.length NN,i6 W];let z2:=(↑(k+1):Int);let z5:=[i6 c,sl fr,sl nz,sl ou];An [_,_,_,An [_,_],_,wr .i64 (x*(↑L.length:Int))=z,An [_,(↑y:Int)<(↑u.length:Int)],_,wr .i64 (z+v)=b,wr .i64 ((↑k:Int)+(1:Int))=z2,An [Sm (↑i:Int),Zz,Zz,Zz,Zz,Zz,_,An [Sm nz.length,Sm (Aa nz)],z0=z0,z2=z2,Tt],An [z1=z1,TT 4],An [Sm [sl u],Tt,Tt],An [Sm (Aa w),_],An [An [Zz,Sm N.length,Tt],Tt],An [An [Zz,Zz,Zz,Zz,Tt],Tt],An [z5=z5,TT 4],Tt]) ⟨Bf hlt,Ar hlt,hld,⟨p1,p2⟩,hl2,aq,⟨p1,aq⟩,hl3,aq,aq,⟨aq,aq,aq,aq,aq,aq,he1,a_⟩,a_,a_,⟨aq,hww⟩,a_⟩
 .have hk2:k=nz.length:=o_
  subst hk2
  generalize Ja R u a nz nz.length=x at*
  refine .inr ⟨.exit 2,[5],KD g R.length (Ah R) N.length (Ak N) W u w ⟨c,fr,nz,ou⟩ i nz.length x,[no 53],1000,.inl ⟨trivial,rfl,rfl⟩,?_⟩
  clear hnz hu hN
  generalize Ah R=RR,Ak N=NN at*
  exact Cj [_] (Cq hlt)
end
section
variable (g:Int) (R:List (List Int)) (N:List Mc) (W:Int) (s u:List Int) (hN:Fp R N) (hu:AM R u) (hs:F3 N s)
include hN hu hs
theorem FJ(rk:Nat->Nat)(hr:Vs N rk): ∀(m i:Nat)(w:List Int),i<N.length->rk i<m->It N (Dt N R s u) s w->Ac Pg g0 (.fn 151 []) [i6 i,.ptr 3 0,.ptr 0 0,.ptr 4 0,.ptr 1 0] (Ai .e 0 (H6 g R.length (Ah R) N.length (Ak N) W u w)) 5 ⟨i6 (Dt N R s u i),Ai .e 0 (H6 g R.length (Ah R) N.length (Ak N) W u (Fs N (Dt N R s u) m i w)),5,[2]⟩:=by
 have hRR:=B7 R
 have hNN:=Cl N
 have hplace: ∀k,k<N.length->Hw (N.getD k Ao).fr N.length:=λk hk=>(hN.fr k hk).1
 intro m
 induction m with
 |zero=>intro i w _ h;omega
 | succ m ih =>
  intro i w hi hrk hw
  by_cases h0:0<=w.getD i 0
  .have e1:Fs N (Dt N R s u) (m+1) i w=w:=by unfold Fs;rw[if_pos h0]
   rw[e1]
   have e2:=hw.2 i hi (.inl h0)
   rw[<-e2]
   exact Rd g R.length (Ah R) hRR N.length (Ak N) hNN W u w hw.1 i hi _ rfl h0
  .have hs0: ¬0<=s.getD i 0:=λh=>h0 (by
    rw[hw.2 i hi (.inr h),SE hplace hr hi,if_pos h];exact h)
   have e1:Fs N (Dt N R s u) (m+1) i w=((N.getD i Ao).fr.foldl (λw j=>Fs N (Dt N R s u) m j.toNat w) w).set i (Dt N R s u i):=by
    rw[Fs,if_neg h0]
   have hsol:=SE (R:=R) (s:=s) (u:=u) hplace hr hi
   rw[if_neg hs0]at hsol
   have hbd:=IZ hN hu hs
   have hxfr:=hN.fr i hi
   have hxno:=hN.no i hi
   have hrki:=(hr i hi).2
   have hnb:=(mM hN hu (f:=Dt N R s u) hi (λj hj=>hbd _ (by have:=hxfr.1 j hj;omega))).1
   have hld:=DX hi
   have hcx:=hN.c i hi
   have hinv: ∀(l:List Int),It N (Dt N R s u) s (l.foldl (λw j=>Fs N (Dt N R s u) m j.toNat w) w):=by
    have: ∀(l:List Int)(w:List Int),It N (Dt N R s u) s w->It N (Dt N R s u) s (l.foldl (λw j=>Fs N (Dt N R s u) m j.toNat w) w):=by
     intro l
     induction l with
     |nil=>exact λw h=>h
     |cons x l ih2=>exact λw h=>ih2 _ (mW m _ _ h)
    exact λl=>this l w hw
   rw[e1,hsol]
   unfold Ko at hsol⊢
   generalize N.getD i Ao=x at*
   obtain⟨c,fr,nz,ou⟩:=x
   dsimp only at*
   have hcall: ∀k,k<fr.length->Ac Pg g0 (.fn 151 []) [i6 ((fr.getD k 0).toNat:Nat),.ptr 3 0,.ptr 0 0,.ptr 4 0,.ptr 1 0] (Ai .e 0 (H6 g R.length (Ah R) N.length (Ak N) W u ((fr.take k).foldl (λw j=>Fs N (Dt N R s u) m j.toNat w) w))) 5 ⟨i6 (Dt N R s u (fr.getD k 0).toNat),Ai .e 0 (H6 g R.length (Ah R) N.length (Ak N) W u ((fr.take (k+1)).foldl (λw j=>Fs N (Dt N R s u) m j.toNat w) w)),5,[2]⟩:=λk hk=>by
    have h1:=hxfr.1 k hk
    have h2:=hrki k hk
    have h3:=ih (fr.getD k 0).toNat _ o_ o_ (hinv (fr.take k))
    have e3:(fr.take (k+1)).foldl (λw j=>Fs N (Dt N R s u) m j.toNat w) w=Fs N (Dt N R s u) m (fr.getD k 0).toNat ((fr.take k).foldl (λw j=>Fs N (Dt N R s u) m j.toNat w) w):=by
     rw[dF,List.foldl_append,aB hk,aA,aB hk]
     rfl
    rw[e3];exact h3
   have ha:=OE g R N W u hN (Dt N R s u) c fr nz ou i hxfr.1 hxfr.2 hbd (λk=>(fr.take k).foldl (λw j=>Fs N (Dt N R s u) m j.toNat w) w) hcall
   have eb:=SK hN.c (f:=Dt N R s u) (L:=fr) (λj hj=>hbd _ (by have:=hxfr.1 j hj;omega)) fr.length (aC _)
   have hpb:=LW hN.c hxfr.1 fr.length (aC _)
   have h44:(4:Int)^fr.length<=4^5:=by
    have:=aH (show 4>0 by decide) hxfr.2
    exact_mod_cast this
   have h46:(4:Int)^5=1024:=rfl
   have hwl:=(hinv fr).1
   have hb:=λw=>OD g R N W u hN hu c fr nz ou i (H8 N (Dt N R s u) fr fr.length) hxno.1 hxno.2 (Cs N fr fr.length) eb o_ w
   rw[List.take_length]at ha
   dsimp only[List.take_zero,List.foldl_nil]at ha
   generalize fr.foldl (λw j=>Fs N (Dt N R s u) m j.toNat w) w=w1 at*
   replace hb:=hb w1
   generalize H8 N (Dt N R s u) fr fr.length=a at*
   have h1:=Ap fr
   have h2:=Ap nz
   have h3:=Ap ou
   have huu:=Ap u
   have hww:=Ap w
   have hww1:=Ap w1
   have hw0:=Px (l:=w) (k:=i) (by rw[hw.1];exact hi)
   generalize w.getD i 0=wi at*
   obtain⟨b,hbz⟩: ∃b:Nat,Ja R u a nz nz.length=(b:Int):=⟨(Ja R u a nz nz.length).toNat,o_⟩
   rw[hbz]at hb hnb
   have eto:(Ja R u a nz nz.length).toNat=b:=by rw[hbz];rfl
   rw[eto]at hsol⊢
   have hlo:=Dm (l:=ou) (k:=b) o_
   generalize ou.getD b 0=v at*
   have hlay:=Ie (l:=w1) (j:=i) (x:=v) o_
   have hw2:=Px (l:=w1.set i v) (k:=i) (by rw[bJ];omega)
   have e4:(w1.set i v).getD i 0=v:=by rw[aA,bV,if_pos rfl,if_pos o_];rfl
   rw[e4]at hw2
   have hww2:=Ap (w1.set i v)
   generalize w1.set i v=w2 at*
   have hwlen:=hw.1
   clear hcall hinv hrki hbd hs ih hw hsol eb
   refine Ac.of_vcH (P:=Pg) (E:=vE) vE_ok Bx Gy (n:=1000) (f:=151) (os0:=H6 g R.length (Ah R) N.length (Ak N) W u w) (r:=[]) (S:={sl:=[(6,i6 v)],os:=H6 g R.length (Ah R) N.length (Ak N) W u w2,lg:=[2],md:=[0,0,0,1,1]}) (hs:=[pl 15,ld 16 (i6 wi),no 17,pl 26,ld 27 (.agg (Fq ⟨c,fr,nz,ou⟩)),(0,.loop [5] (KE g R.length (Ah R) N.length (Ak N) W u w ⟨c,fr,nz,ou⟩ i 0 0) [(True,.exit 0,KE g R.length (Ah R) N.length (Ak N) W u w1 ⟨c,fr,nz,ou⟩ i fr.length a)]),(0,.loop [5] (KD g R.length (Ah R) N.length (Ak N) W u w1 ⟨c,fr,nz,ou⟩ i 0 a) [(True,.exit 2,KD g R.length (Ah R) N.length (Ak N) W u w1 ⟨c,fr,nz,ou⟩ i nz.length (b:Nat))]),pl 76,ld 77 (i6 v),pl 78,st (Aa w2),pl 81,ld 82 (i6 v)]) s_ (λj hj hno=>by
    have hj5:j<5:=hj
    have hj2:j≠2:=λe=>hno (by rw[e];exact aN.2 rfl)
    match j,hj5,hj2 with
    |0,_,_=>rfl
    |1,_,_=>rfl
    |3,_,_=>rfl
    |4,_,_=>rfl) ?_
   clear hplace hN hu hr
   generalize Ah R=RR,Ak N=NN at*
   exact m_ (p:=let z7:=An [An [Zz,Sm N.length,Tt],Tt];let z8:=An [An [Zz,Zz,Zz,Zz,Tt],Tt];let z9:=An [Sm [sl u],Tt,Tt];let z0:=[i6 g,V.im R.length RR,V.im N.length NN,i6 W];let z1:=(↑i:Int);let z2:=[i6 c,sl fr,sl nz,sl ou];let z3:=(0:Int);An [Sm (i6 v),_,_,_,_,_,An [An [z1=z1,Zz,Zz,Zz,Zz,Zz,z3=z3,An [Sm fr.length,Sm (Aa fr)],Sm (↑fr.length:Int),(↑(0:Nat):Int)=z3,Tt],An [z0=z0,TT 4],z9,An [Sm (Aa w),_],z7,z8,An [z2=z2,TT 4],Tt],_,(True->An [An [An [z1=z1,Zz,Zz,Zz,Zz,Zz,a=a,An [Sm nz.length,Sm (Aa nz)],Sm (↑nz.length:Int),(↑(0:Nat):Int)=z3,Tt],An [z0=z0,TT 4],z9,An [Sm (Aa w1),_],z7,z8,An [z2=z2,TT 4],Tt],_,(True->An [An [z3<=(↑b:Int),(↑b:Int)<(↑ou.length:Int)],_,_,_,_,_,An [v=v,Tt],An [z0=z0,TT 4],z9,An [Sm (Aa w2),_],z7,z8,Tt]),Tt]),Tt]) ⟨aq,Ar hi,hw0,Jp h0,Ar hi,hld,⟨a_,a_,aq,⟨aq,hww⟩,a_⟩,ha,(λ_=>⟨⟨a_,a_,aq,⟨aq,hww1⟩,a_⟩,hb,(λ_=>⟨a_,hlo,Ar hi,hlay,Ar hi,hw2,a_,a_,aq,⟨aq,hww2⟩,a_⟩),aq⟩),aq⟩
end
theorem cq{l:List Int}:A6 H 1 (sl l)=some (l.length,Aa l):=by
 unfold A6
 have h:Nat.ble (l.length*1) (Aa l).length=true:=aU (by rw[F5];omega)
 simp only[h,cond_true]
 rw[Nat.mul_one,bF (by rw[F5];omega)]
theorem Qt(hg:gt H h=some (.row t sp [])):A6 H 1 (.sl h 0 0 room)=some (0,[]):=by
 rw[Cm]at hg
 unfold A6
 dsimp only
 rw[hg]
 rfl
def Cg(N:List Mc)(R:List (List Int))(s u:List Int):List Int:=(List.range N.length).map (Dt N R s u)
theorem V3:(Cg N R s u).length=N.length:=by simp[Cg]
theorem TG(h:i<N.length):(Cg N R s u).getD i 0=Dt N R s u i:=by
 unfold Cg
 rw[aA,bD,eA h];rfl
def wK(N:List Mc)(f:Nat->Int)(s:List Int):Nat->List Int
 |0=>s
 |k+1=>Fs N f 26 k (wK N f s k)
theorem kT(h:It N f s s): ∀k,It N f s (wK N f s k)
 |0=>h
 |k+1=>mW 26 k _ (kT h k)
theorem P7(h:It N f s s)(hf: ∀i,i<N.length->0<=f i): ∀k,k<=N.length->∀i,i<k->0<=(wK N f s k).getD i 0
 |0,_,_,h=>o_
 | k + 1, hk, i, hi => by
  show 0<=(Fs N f 26 k (wK N f s k)).getD i 0
  have hl:=(kT h k).1
  by_cases hik:i=k
  .subst hik
   exact HC (m:=25) hf o_ hl
  .exact(wD hf 26 k _ i o_ hl (P7 h hf k o_ i o_)).1
abbrev hU(g:Int)(n:Nat)(R:List V)(q:Nat)(N:List V)(W:Int)(u w:List Int)(k:Nat):SL:={sl:=[(7,.ptr 3 0),(8,.ptr 4 0),(14,.sl 2 0 q none),(15,i6 q),(16,i6 k)],os:=H6 g n R q N W u w,md:=[0,0,0,1,1]}
section
variable (g:Int) (R:List (List Int)) (N:List Mc) (W:Int) (s u:List Int) (hN:Fp R N) (hu:AM R u) (hs:F3 N s)
include hN hu hs
theorem Rb:Au Pg none 0 (aT 121 11111010) (Al g0 24 (hU g R.length (Ah R) N.length (Ak N) W u s 0)) (B3 g0 24 [(True,.exit 0,{sl:=[(7,.ptr 1 0)],os:=[.row 3 (some 1) (Aa (Cg N R s u)),.row 47 none [.sl 0 0 N.length none]],md:=[0,1]})]):=by
 have hRR:=B7 R
 have hNN:=Cl N
 have huu:=Ap u
 obtain⟨rk,hr⟩:=hN.rk
 have hbd:=IZ hN hu hs
 have hpl: ∀k,k<N.length->Hw (N.getD k Ao).fr N.length:=λk hk=>(hN.fr k hk).1
 have hinv0:It N (Dt N R s u) s s:=⟨hs.1,λi hi h=>by
  rw[SE hpl hr hi,if_pos (h.elim id id)]⟩
 have hinv:=kT hinv0
 have hq:=hN.q
 refine C9 (aT 121 111110100) (λk=>k<=N.length) (λk=>hU g R.length (Ah R) N.length (Ak N) W u (wK N (Dt N R s u) s k) k) (λk=>N.length-k) (λk hk=>?_) 0 (aG _)
 by_cases hlt:k<N.length
 .have hc:=FJ g R N W s u hN hu hs rk hr 26 k _ hlt (by have:=(hr k hlt).1;omega) (hinv k)
  have e1:wK N (Dt N R s u) s (k+1)=Fs N (Dt N R s u) 26 k (wK N (Dt N R s u) s k):=rfl
  rw[<-e1]at hc
  clear e1
  generalize hw1:wK N (Dt N R s u) s (k+1)=w1,wK N (Dt N R s u) s k=w0,Dt N R s u k=v at*
  have hw1h:=Ap w1
  have hw0h:=Ap w0
  have hcc:Ac Pg g0 (.fn 151 VB) [i6 k] (Ai .e 0 (H6 g R.length (Ah R) N.length (Ak N) W u w0)) 5 ⟨i6 v,Ai .e 0 (H6 g R.length (Ah R) N.length (Ak N) W u w1),5,[2]⟩:=Ac.caps hc
  refine .inl ⟨k+1,[0,1,2,3,4],[As 17,(21,.call ⟨i6 v,Ai .e 0 (H6 g R.length (Ah R) N.length (Ak N) W u w1),5,[2]⟩),nu 22 ((k+1:Nat):Int)],1000,hlt,o_,?_⟩
  clear hinv hinv0 hbd hpl hr hN hu hs hc
  generalize Ah R=RR,Ak N=NN at*
  exact C8 [_,_,wr .i64 ((↑k:Int)+(1:Int))=(↑(k+1):Int)] ⟨Bf hlt,hcc,aq⟩
 .have hk2:k=N.length:=o_
  have eL:wK N (Dt N R s u) s k=Cg N R s u:=by
   have hp:=P7 hinv0 (λi hi=>(hbd i hi).1) N.length (aC _)
   have hl:=(hinv N.length).1
   rw[hk2]
   apply cD
   intro i
   by_cases hi:i<N.length
   .have a1:=(hinv N.length).2 i hi (.inl (hp i hi))
    have a2:=TG (R:=R) (s:=s) (u:=u) hi
    rw[aA,aB o_]at a1
    rw[aA,aB (by rw[V3];omega)]at a2
    simp only[dU]at a1 a2
    rw[aB o_,aB (by rw[V3];omega),a1,a2]
   .rw[aX o_,aX (by rw[V3];omega)]
  have eL2:=V3 (N:=N) (R:=R) (s:=s) (u:=u)
  rw[eL]
  generalize Cg N R s u=L at*
  have hLL:=Ap L
  subst hk2
  refine .inr ⟨.exit 0,[2,3],{sl:=[(7,.ptr 1 0)],os:=[.row 3 (some 1) (Aa L),.row 47 none [.sl 0 0 N.length none]],md:=[0,1]},[no 17],1000,.inl ⟨trivial,rfl,rfl⟩,?_⟩
  clear hinv hinv0 hbd hpl hr hN hu hs eL
  generalize Ah R=RR,Ak N=NN at*
  exact Cj [_] (Cq hlt)
theorem Xq:Ac Pg g0 (.fn 121 []) [.agg [i6 g,.im R.length (Ah R),.im N.length (Ak N),i6 W],sl u,sl s] .e 0 ⟨.sl 0 0 N.length none,Ai .e 0 [.row 3 (some 1) (Aa (Cg N R s u))],1,[]⟩:=by
 have hRR:=B7 R
 have hNN:=Cl N
 have huu:=Ap u
 have hss:=Ap s
 have hlo:=Rb g R N W s u hN hu hs
 have hq:=hN.q
 have hsl:=hs.1
 have hLl:=V3 (N:=N) (R:=R) (s:=s) (u:=u)
 generalize Cg N R s u=L at*
 have hLL:=Ap L
 refine Ac.of_vcH (P:=Pg) (E:=vE) vE_ok Bx Gy (n:=1000) (f:=121) (os0:=[]) (r:=[0]) (S:={sl:=[(6,.sl 0 0 N.length none)],os:=[.row 3 (some 1) (Aa L)]}) (hs:=[(12,.cp N.length (Aa s)),(0,.loop [0,1,3,4,5] (hU g R.length (Ah R) N.length (Ak N) W u s 0) [(True,.exit 0,{sl:=[(7,.ptr 1 0)],os:=[.row 3 (some 1) (Aa L),.row 47 none [.sl 0 0 N.length none]],md:=[0,1]})])]) s_ (λi hi=>absurd hi (aJ _)) ?_
 clear hN hu hs
 generalize Ah R=RR,Ak N=NN,N.length=q at*
 exact m_ (p:=let z0:=[i6 g,V.im R.length RR,V.im q NN,i6 W];let z1:=V.sl 0 0 q none;let z2:=O.row 47 none [sl u];An [z1=z1,An [A6 (pt (pt (pt (Ai T.e 0 []) 0 (O.row 210 none z0)) 1 z2) 2 (O.row 3 none [])) 1 (sl s)=some (q,Aa s),A6 (pt (pt (pt (Ai T.e 0 []) 0 (O.row 210 none z0)) 1 z2) 2 (O.row 3 none [])) 1 (V.sl 2 0 0 (some 0))=some (0,[]),1<=q,q<=9223372036854775807,q*8<=140737488355328],An [An [Zz,Zz,An [Zz,q=q,Tt],Sm (↑q:Int),(↑(0:Nat):Int)=(0:Int),Tt],An [z0=z0,TT 4],An [Sm [sl u],Tt,Tt],An [Sm (Aa s),_],An [An [Zz,q=q,Tt],Tt],An [An [Zz,Zz,Zz,Zz,Tt],Tt],Tt],_,(True->An [An [An [Zz,q=q,Tt],Tt],An [Sm (Aa L),_],Tt]),Tt]) ⟨aq,⟨(by(rw[<-hsl];exact cq)),Qt rfl,a_⟩,⟨a_,a_,a_,⟨aq,hss⟩,a_⟩,hlo,(λ_=>⟨a_,⟨aq,hLL⟩,aq⟩),aq⟩
end
def Hp(v p:List Int):Bool:=(List.range p.length).all λi=>decide (p.getD i 0<0)||decide (p.getD i 0=v.getD i 0)
theorem YN{v p:List Int}:Hp v p=true↔∀i,i<p.length->p.getD i 0<0\/p.getD i 0=v.getD i 0:=by
 unfold Hp
 rw[aO]
 simp only[bB,bT,decide_eq_true_eq]
def K4(R:List (List Int))(i:Nat):Nat:=(R.getD i []).length
def xq(R:List (List Int))(x:Nat):Nat->Nat
 |0=>x
 |t+1=>xq R x t/K4 R (R.length-1-t)
def Gp(R:List (List Int))(x t:Nat):Nat:=xq R x t%K4 R (R.length-1-t)
def wq(R:List (List Int))(x:Nat):Nat->Int
 |0=>1
 |t+1=>wq R x t*(R.getD (R.length-1-t) []).getD (Gp R x t) 0
def dl(R:List (List Int))(x:Nat)(l:List Int):Nat->List Int
 |0=>l
 |t+1=>(dl R x l t).set (R.length-1-t) (Gp R x t:Nat)
def B2(R:List (List Int))(x:Nat):List Int:=dl R x (List.replicate R.length 0) R.length
def Ei(R:List (List Int))(x:Nat):Int:=wq R x R.length
theorem Pt{l:List Int}: ∀t,(dl R x l t).length=l.length
 |0=>rfl
 |t+1=>by unfold dl;rw[bJ,Pt t]
theorem N7{l:List Int}(hl:l.length=R.length): ∀t,t<=R.length->∀i,R.length-t<=i->i<R.length->(dl R x l t).getD i 0=(Gp R x (R.length-1-i):Nat)
 |0,_,i,h1,h2=>o_
 | t + 1, ht, i, h1, h2 => by
  unfold dl
  rw[aA,bV]
  by_cases hi:R.length-1-t=i
  .rw[if_pos hi,if_pos (by rw[Pt,hl];omega)]
   subst hi
   rw[show R.length-1-(R.length-1-t)=t by omega];rfl
  .rw[if_neg hi,<-aA]
   exact N7 hl t o_ i o_ h2
theorem HV{l:List Int}(hl:l.length=R.length):dl R x l R.length=B2 R x:=by
 unfold B2
 apply cD
 intro i
 by_cases hi:i<R.length
 .have h1:=N7 (x:=x) hl R.length (aC _) i o_ hi
  have h2:=N7 (x:=x) (l:=List.replicate R.length 0) s_ R.length (aC _) i o_ hi
  rw[aA,aB (by rw[Pt];omega)]at h1
  rw[aA,aB (by rw[Pt];simpa using hi)]at h2
  simp only[dU]at h1 h2
  rw[aB (by rw[Pt];omega),aB (by rw[Pt];simpa using hi),h1,h2]
 .rw[aX (by rw[Pt];omega),aX (by rw[Pt];simp;omega)]
theorem Pj:(B2 R x).length=R.length:=by unfold B2;rw[Pt];simp
theorem WE(h:i<R.length):(B2 R x).getD i 0=(Gp R x (R.length-1-i):Nat):=N7 s_ R.length (aC _) i o_ h
theorem MF(hr: ∀k,k<R.length->1<=(R.getD k []).length)(x:Nat):AM R (B2 R x):=by
 refine⟨Pj,λk hk=>?_⟩
 rw[WE hk]
 have:=aY (xq R x (R.length-1-k)) (show 0<K4 R (R.length-1-(R.length-1-k))by
  rw[show R.length-1-(R.length-1-k)=k by omega];exact hr k hk)
 unfold Gp
 rw[show R.length-1-(R.length-1-k)=k by omega]at*
 unfold K4 at*
 omega
theorem RK: ∀t,xq R x t<=x
 |0=>aC _
 |t+1=>aP (eE _ _) (RK t)
def Gx(R:List (List Int)):Prop:=∀k,k<R.length->1<=(R.getD k []).length/\(R.getD k []).length<=4/\∀j,j<(R.getD k []).length->0<=(R.getD k []).getD j 0/\(R.getD k []).getD j 0<=12
theorem Nh{R:List (List Int)}(h:Gx R){x:Nat}: ∀t,t<=R.length->0<=wq R x t/\wq R x t<=((12^t:Nat):Int)
 |0,_=>by simp[wq]
 |t+1,ht=>by
  obtain⟨h1,h2⟩:=Nh h (x:=x) t o_
  obtain⟨a,b,c⟩:=h (R.length-1-t) o_
  have hd:Gp R x t<(R.getD (R.length-1-t) []).length:=aY _ (by show 0<(R.getD _ []).length;omega)
  obtain⟨h3,h4⟩:=c _ hd
  unfold wq
  refine⟨bY h1 h3,?_⟩
  rw[bK,cJ]
  exact bC h2 h4 h3 o_
abbrev Ay(l:List Int):O:=.row 3 none (Aa l)
theorem vI(x y:Nat):((x:Nat):Int).tmod ((y:Nat):Int)=((x%y:Nat):Int):=rfl
theorem vM(x y:Nat):((x:Nat):Int).tdiv ((y:Nat):Int)=((x/y:Nat):Int):=rfl
abbrev MZ(g:Int)(nR:Nat)(RR:List V)(q:Nat)(NN:List V)(W:Nat)(hd hv k:Nat):List (Nat×V):=[(0,.yld hd),(1,.imp [i6 g,.im nR RR,.im q NN,i6 W]),(3,.sl hv 0 nR (some (nR-nR))),(14,i6 W),(15,i6 k)]
abbrev US(g:Int)(nR:Nat)(RR:List V)(q:Nat)(NN:List V)(W:Nat)(hd hv k:Nat)(w:Int)(x:Nat)(j:Int):List (Nat×V):=[(0,.yld hd),(1,.imp [i6 g,.im nR RR,.im q NN,i6 W]),(3,.sl hv 0 nR (some (nR-nR))),(14,i6 W),(15,i6 k),(5,i6 w),(6,i6 x),(7,i6 j)]
abbrev MV(g:Int)(nR:Nat)(RR:List V)(q:Nat)(NN:List V)(W:Nat)(hd hv k:Nat)(w:Int):List (Nat×V):=[(0,.yld hd),(1,.imp [i6 g,.im nR RR,.im q NN,i6 W]),(3,.sl hv 0 nR (some (nR-nR))),(14,i6 W),(15,i6 k),(5,i6 w)]
abbrev ZX(H0:T O)(hv nx0:Nat)(l:List Int)(L:List Nat)(_:Nat)(H:T O)(nx:Nat)(lg:List Nat):Prop:=H=pt H0 hv (Ay l)/\nx=nx0/\D8 lg L
section
variable (g:Int) (R:List (List Int)) (q:Nat) (NN:List V) (W:Nat) (hR:Gx R) (hn:R.length<=8) (hNN:Ba NN)
include hR hn hNN
theorem jo(nx0 hd hv nx k:Nat)(hk:k<=65536)(l:List Int)(hl:l.length=R.length)(H0:T O)(L lg0:List Nat)(hL:hv∈L)(hlg:D8 lg0 L):
  Au Pg none nx0 (aT 150 11100110011010) (Be g0 67 (US g R.length (Ah R) q NN W hd hv k 1 k ((R.length:Int)-1)) (pt H0 hv (Ay l)) nx lg0) (Oj g0 67 (.exit 2) (λ_=>MV g R.length (Ah R) q NN W hd hv k (Ei R k)) (ZX H0 hv nx (B2 R k) L)):=by
 have hRR:=B7 R
 have e00:(R.length:Int)-1=(R.length:Int)-1-(0:Nat):=o_
 rw[e00]
 refine(LR (b:=aT 150 111001100110100) k_ (λ(t:Nat) M=>t<=R.length/\M.H=pt H0 hv (Ay (dl R k l t))/\M.nx=nx/\D8 M.lg L) (λt=>US g R.length (Ah R) q NN W hd hv k (wq R k t) (xq R k t) ((R.length:Int)-1-(t:Nat))) (λt=>R.length-t) (λe sl M=>e= .exit 2/\sl=MV g R.length (Ah R) q NN W hd hv k (Ei R k)/\ZX H0 hv nx (B2 R k) L 0 M.H M.nx M.lg) (λt H nx1 lg G hI hN hE hR2=>?_) 0 ⟨_,_,_⟩ ⟨aG _,rfl,rfl,hlg⟩).mono ?_
 .obtain⟨ht,rfl,rfl,hs⟩:=hI
  dsimp only at ht hs
  by_cases hlt:t<R.length
  .obtain⟨j,hj⟩: ∃j:Nat,j=R.length-1-t:=⟨_,rfl⟩
   have ej:(R.length:Int)-1-(t:Nat)=(j:Nat):=o_
   have ej2:(R.length:Int)-1-((t+1:Nat):Int)=(j:Int)-1:=o_
   obtain⟨r1,r2,r3⟩:=hR j o_
   have hrt:=Pk (R:=R) (k:=j) o_
   have hdl:=Pt (R:=R) (x:=k) (l:=l) t
   have hwb:=Nh hR (x:=k) t ht
   have hwb2:=Nh hR (x:=k) (t+1) hlt
   have h12:12^(t+1)<=12^8:=aH d_ o_
   have h12a:12^t<=12^8:=aH d_ o_
   have h128:12^8=429981696:=rfl
   have hx:=RK (R:=R) (x:=k) t
   have hdg:Gp R k t<(R.getD j []).length:=by
    have:=aY (xq R k t) (show 0<K4 R (R.length-1-t)by rw[<-hj];exact r1)
    rw[<-hj]at this
    unfold Gp;rw[<-hj];exact this
   have ed:((Gp R k t:Nat):Int)=((xq R k t:Nat):Int).tmod (((R.getD j []).length:Nat):Int):=by
    rw[vI];unfold Gp K4;rw[hj]
   have ex:((xq R k (t+1):Nat):Int)=((xq R k t:Nat):Int).tdiv (((R.getD j []).length:Nat):Int):=by
    rw[vM];show((xq R k t/K4 R (R.length-1-t):Nat):Int)=_;unfold K4;rw[hj]
   have ew:wq R k (t+1)=wq R k t*(R.getD j []).getD (Gp R k t) 0:=by rw[hj];rfl
   have edl:dl R k l (t+1)=(dl R k l t).set j (Gp R k t:Nat):=by rw[hj];rfl
   have hx2:=RK (R:=R) (x:=k) (t+1)
   have hnext:=λlg' h=>hN (t+1) (pt (pt H0 hv (Ay (dl R k l t))) hv (Ay (dl R k l (t+1)))) nx1 lg' ⟨hlt,Wn _ _ _ _,rfl,h⟩ o_
   rw[ej2]at hnext
   rw[ej]
   have hlay:=Ie (l:=dl R k l t) (j:=j) (x:=(Gp R k t:Nat)) (by rw[hdl,hl];omega)
   rw[<-edl]at hlay
   have hh2:=Px (l:=dl R k l (t+1)) (k:=j) (by rw[Pt,hl];omega)
   have e5:(dl R k l (t+1)).getD j 0=(Gp R k t:Nat):=by
    rw[edl,aA,bV,if_pos rfl,if_pos (by rw[hdl,hl];omega)];rfl
   rw[e5]at hh2
   have hrv:=Dm (l:=R.getD j []) (k:=Gp R k t) hdg
   generalize (R.getD j []).getD (Gp R k t) 0=rv at*
   generalize R.getD j []=Lj at*
   have hLj:=Ap Lj
   generalize dl R k l (t+1)=d2 at*
   generalize dl R k l t=d1 at*
   generalize Gp R k t=dg at*
   generalize xq R k (t+1)=x2 at*
   generalize xq R k t=x1 at*
   generalize wq R k (t+1)=w2 at*
   generalize wq R k t=w1 at*
   have s1:=Ox (G:=B1 Pg) (t:=3) (x:=(x1:Nat)) (y:=(Lj.length:Nat)) o_
   have s2:=Mw (G:=B1 Pg) (t:=3) (x:=(x1:Nat)) (y:=(Lj.length:Nat)) o_ o_ o_
   rw[<-ed]at s1
   rw[<-ex]at s2
   have g1:gt (pt H0 hv (Ay d1)) hv=some (Ay d1):=by rw[Ad,if_pos rfl]
   have g2:gt (pt (pt H0 hv (Ay d1)) hv (Ay d2)) hv=some (Ay d2):=by rw[Ad,if_pos rfl]
   have hfin:=hnext ([hv]++lg) (λg hg=>by
    rcases aK.1 hg with rfl|hg
    .exact hL
    .exact hs g hg)
   refine⟨[As 23,pl 33,ld 34 (sl Lj),va 36 (i6 dg),pl 37,so (Ay d1) (Aa d2),pl 43,ld 44 (sl Lj),va 46 (i6 x2),pl 52,ld 53 (sl Lj),pl 56,A5 57 (Ay d2) (i6 dg),pl 58,ld 59 (i6 rv),nu 60 w2,nu 25 ((j:Int)-1),toO (US g R.length (Ah R) q NN W hd hv k w2 x2 ((j:Int)-1))],1000,?_⟩
   clear hN hE hR2 hR hnext edl e5 ed ex r3
   generalize Ah R=RR at*
   generalize R.length=n at*
   exact m_ (p:=let z0:=(↑j:Int);let z3:=(0:Int);let z5:=V.imp [i6 g,V.im n RR,V.im q NN,i6 ↑W];let z6:=(↑n:Int);let z7:=V.sl hv 0 n (some (n-n));An [decide (z0≥z3)=true,An [z3<=z0,z0<z6],_,_,An [z3<=z0,z0<z6],An [_,_],An [z3<=z0,z0<z6],_,_,An [z3<=z0,z0<z6],_,An [z3<=z0,z0<z6],_,_,_,_,wr .i64 (w1*rv)=w2,wr .i64 (z0-(1:Int))=z0-(1:Int),_,Sm (V.yld hd),z5=z5,z7=z7,Sm (i6 ↑W),Sm (i6 ↑k),Sm (i6 w2),Sm (i6 ↑x2),Sm (i6 (z0-(1:Int))),Tt]) ⟨aq,a_,hrt,s1,a_,⟨g1,hlay⟩,a_,hrt,s2,a_,hrt,a_,g2,hh2,Ar hdg,hrv,aq,aq,hfin,a_⟩
  .have hk2:t=R.length:=o_
   have hex:=hE 2 (MV g R.length (Ah R) q NN W hd hv k (Ei R k)) (pt H0 hv (Ay (dl R k l t))) nx1 lg ⟨rfl,rfl,by rw[hk2,HV hl],rfl,hs⟩
   have ej:(R.length:Int)-1-(t:Nat)= -1:=o_
   have ew:wq R k t=Ei R k:=by rw[hk2];rfl
   rw[ej,ew]
   generalize Ei R k=w at*
   generalize xq R k t=x1 at*
   refine⟨[toO (MV g R.length (Ah R) q NN W hd hv k w)],1000,?_⟩
   clear hN hE hR2 hR
   generalize Ah R=RR at*
   generalize R.length=n at*
   exact m_ (p:=An [_,Sm (V.yld hd),Sm (V.imp [i6 g,V.im n RR,V.im q NN,i6 ↑W]),Sm (V.sl hv 0 n (some (n-n))),Sm (i6 ↑W),Sm (i6 ↑k),Sm (i6 w),Tt]) ⟨hex,a_⟩
 .rintro e st ⟨sl',M',rfl,rfl,rfl,hQ⟩
  exact⟨0,_,_,_,rfl,rfl,hQ⟩
end
section
variable (g:Int) (R:List (List Int)) (q:Nat) (NN:List V) (W:Nat) (hR:Gx R) (hn:R.length<=8) (hNN:Ba NN) (hW:W<=65536)
include hR hn hNN hW
theorem j4(nx0 hd hv:Nat)(HH:Nat->T O)(Nn:Nat->Nat)(L LY:List Nat)(hL:hv∈L)(hLY:D8 LY L)
  (hg: ∀k,k<=W->∃l:List Int,l.length=R.length/\gt (HH k) hv=some (Ay l))
  (hy: ∀k,k<W->Ac Pg g0 (.yld hd) [.sl hv 0 R.length (some (R.length-R.length)),i6 (Ei R k)] (pt (HH k) hv (Ay (B2 R k))) (Nn k) ⟨.bool true,HH (k+1),Nn (k+1),LY⟩):
  Au Pg none nx0 (aT 150 1110) (Be g0 67 (MZ g R.length (Ah R) q NN W hd hv 0) (HH 0) (Nn 0) []) (Oj g0 67 (.exit 0) (λ_=>[]) (λ_ H nx lg=>H=HH W/\nx=Nn W/\D8 lg L)):=by
 have hRR:=B7 R
 refine(LR (b:=aT 150 11100) k_ (λ(k:Nat) M=>k<=W/\M.H=HH k/\M.nx=Nn k/\D8 M.lg L) (MZ g R.length (Ah R) q NN W hd hv) (λk=>W-k) (λe sl M=>e= .exit 0/\sl=[]/\M.H=HH W/\M.nx=Nn W/\D8 M.lg L) (λk H nx1 lg G hI hN hE hR2=>?_) 0 ⟨_,_,_⟩ ⟨aG _,rfl,rfl,λg hg=>by cases hg⟩).mono ?_
 .obtain⟨hk,rfl,rfl,hs⟩:=hI
  dsimp only at hk hs
  by_cases hlt:k<W
  .have hcall:=hy k hlt
   obtain⟨l,hl,hgt⟩:=hg k hk
   have hdig:=jo g R q NN W hR hn hNN nx0 hd hv (Nn k) k o_ l hl (HH k) L lg hL hs
   rw[mH hgt]at hdig
   have hnext:=λlg' h=>hN (k+1) (HH (k+1)) (Nn (k+1)) lg' ⟨hlt,rfl,rfl,h⟩ o_
   generalize Ei R k=w,B2 R k=l1 at*
   refine⟨[As 16,nu 21 ((R.length:Int)-1),(0,.loopM (US g R.length (Ah R) q NN W hd hv k 1 k ((R.length:Int)-1)) (.exit 2) (λ_=>MV g R.length (Ah R) q NN W hd hv k w) (ZX (HH k) hv (Nn k) l1 L) (λ_ _ _ _=>[(64,.call ⟨.bool true,HH (k+1),Nn (k+1),LY⟩),nu 66 ((k+1:Nat):Int),toO (MZ g R.length (Ah R) q NN W hd hv (k+1))]))],1000,?_⟩
   clear hN hE hR2 hR hy hg
   generalize Ah R=RR,R.length=n at*
   refine m_ (p:=let z0:=V.sl hv 0 n (some (n-n));let z2:=V.yld hd;let z1:=((↑n:Int)-(1:Int));An [_,wr .i64 z1=(↑n:Int)-(1:Int),An [z2=z2,Sm (V.imp [i6 g,(V.im n RR),(V.im q NN),i6 ↑W]),z0=z0,Sm (i6 ↑W),Sm (i6 ↑k),Sm (i6 1),Sm (i6 ↑k),Sm (i6 z1),Tt],_,∀(h:Nat)(H:T O)(nx:Nat)(lg:List Nat),(H=pt (HH k) hv (Ay l1)/\nx=Nn k/\∀(g:Nat),List.Mem g lg->List.Mem g L)->An [Ac Pg g0 z2 [z0,i6 w] H nx (CR.mk (V.bool true) (HH (k+1)) (Nn (k+1)) LY),wr .i64 ((↑k:Int)+(1:Int))=(↑(k+1):Int),G Ex.normal (MZ g n RR q NN W hd hv (k+1)) (HH (k+1)) (Nn (k+1)) (LY++lg),z2=z2,Sm (V.imp [i6 g,(V.im n RR),(V.im q NN),i6 ↑W]),z0=z0,Sm (i6 ↑W),Sm (i6 ↑(k+1)),Tt]]) ⟨Bf hlt,aq,a_,hdig,?_⟩
   (repeat'(first|(with_reducible apply And.intro)|(refine λ(_:True)=>?_)))<;>first|exact aq|skip
   all_goals first|exact hdig|skip
   all_goals(rintro h H nx' lg' ⟨rfl,rfl,hs'⟩;(repeat'(first|(with_reducible apply And.intro)|(refine λ(_:True)=>?_)));all_goals first|exact aq|exact hcall|(rw[BG o_ o_];rfl)|(refine hnext _ (λg hg=>?_);rcases aL.1 hg with hg|hg;exact hLY g hg;exact hs' g hg)|skip)
  .have hk2:k=W:=o_
   have hex:=hE 0 [] (HH k) (Nn k) lg ⟨rfl,rfl,by rw[hk2],by rw[hk2],hs⟩
   refine⟨[no 16,toO []],1000,?_⟩
   clear hN hE hR2 hR hy hg
   generalize Ah R=RR,R.length=n at*
   exact m_ (p:=An [_,_,Tt]) ⟨Cq hlt,hex,aq⟩
 .rintro e st ⟨sl',M',rfl,rfl,rfl,hQ⟩
  exact⟨0,_,_,_,rfl,rfl,hQ⟩
theorem g7(hd nx0:Nat)(H0:T O)(HH:Nat->T O)(Nn:Nat->Nat)(LY:List Nat)(e0:HH 0=pt H0 nx0 (Ay (List.replicate R.length 0)))(en:Nn 0=nx0+1)
  (hg: ∀k,k<=W->∃l:List Int,l.length=R.length/\gt (HH k) nx0=some (Ay l))
  (hy: ∀k,k<W->Ac Pg g0 (.yld hd) [.sl nx0 0 R.length (some (R.length-R.length)),i6 (Ei R k)] (pt (HH k) nx0 (Ay (B2 R k))) (Nn k) ⟨.bool true,HH (k+1),Nn (k+1),LY⟩)
  (hlog:C5 H0.get nx0 (HH W).get (Nn W) (nx0::LY)):
  Ac Pg g0 (.fn 150 [.imp [i6 g,.im R.length (Ah R),.im q NN,i6 W]]) [.yld hd] H0 nx0 ⟨.tup [],HH W,Nn W,nx0::LY⟩:=by
 refine Ac.caps ?_
 have hRR:=B7 R
 have l:=j4 g R q NN W hR hn hNN hW nx0 hd nx0 HH Nn (nx0::LY) LY s_ (λg hg=>aW _ hg) hg hy
 have hz:Ay (List.replicate R.length 0)= .row 3 none (Cx R.length [i6 0]):=by rw[Lh]
 rw[e0,en,hz]at l
 refine Ac.of_vcS vE_ok Bx Gy (n:=1000) (hs:=[mk 12,(0,.loopM (MZ g R.length (Ah R) q NN W hd nx0 0) (.exit 0) (λ_=>[]) (λ_ H nx lg=>H=HH W/\nx=Nn W/\D8 lg (nx0::LY)) (λ_ _ _ _=>[]))]) hlog ?_
 clear hy hlog hg e0 en hR
 generalize Ah R=RR,R.length=n at*
 exact m_ (p:=let z0:=(↑n:Int);let z1:=V.sl nx0 0 n (some (n-n));An [An [(0:Int)<=z0,z0<=z0,(↑(8:Nat):Int)*z0<=(281474976710656:Int),z0<=(9223372036854775807:Int)],An [Sm (V.yld hd),Sm (V.imp [i6 g,V.im n RR,V.im q NN,i6 ↑W]),z1=z1,Sm (i6 ↑W),i6 0=i6 ↑(0:Nat),Tt],_,∀(h:Nat)(H:T O)(nx:Nat)(lg:List Nat),(H=HH W/\nx=Nn W/\∀(g:Nat),List.Mem g lg->List.Mem g (nx0::LY))->V.tup []=V.tup []/\H=HH W/\nx=Nn W/\∀(g:Nat),List.Mem g lg->List.Mem g (nx0::LY)]) ⟨a_,a_,l,aq⟩
end
theorem bp(g:Int)(n:Nat)(RR:List V)(hR:Ba RR)(q:Nat)(NN:List V)(hN:Ba NN)(W:Int):Ag Pg g0 120 [.agg [i6 g,.im n RR,.im q NN,i6 W]] (.fn 150 [.imp [i6 g,.im n RR,.im q NN,i6 W]]):=by
 refine Ch {sl:=[(2,.fn 150 [.imp [i6 g,.im n RR,.im q NN,i6 W]])]} [] ?_
 exact m_ (p:=let z0:=[i6 g,V.im n RR,V.im q NN,i6 W];An [Sm (V.fn 150 [V.imp z0]),An [An [An [z0=z0,TT 4],Tt],Tt],Tt]) a_
theorem FK{W:Int}(hN:Fp R N)(hu:AM R u)(hs:F3 N s){hv:Nat}(hg:gt H hv=some (.row t sp (Aa u))):
  Ac Pg g0 (.fn 121 []) [.agg [i6 g,.im R.length (Ah R),.im N.length (Ak N),i6 W],.sl hv 0 R.length room,sl s] H nx ⟨.im N.length (Aa (Cg N R s u)),H,nx,[]⟩:=by
 have hRR:=B7 R
 have hNN:=Cl N
 rw[Cm]at hg
 have e:sl u= .im R.length (Aa u):=by show V.im u.length _=_;rw[hu.1]
 have h:=Xq g R N W s u hN hu hs
 rw[e]at h
 refine LS h ⟨_,_,rfl,Bo.of_hf _ ⟨trivial,trivial,trivial,trivial,trivial⟩,_,_,rfl,.inr (.inr ⟨hv,0,room,t,sp,Aa u,rfl,trivial,hg,?_⟩),_,_,rfl,Bo.of_hf _ trivial,rfl⟩ (Ws _) (by rw[F5,V3])
 exact Bq.of_hf _ (Ap u)
theorem E8(os:List O)(i:Nat):(Ai .e 0 os).get i=os[i]? :=by
 by_cases hi:i<os.length
 .rw[TB _ _ _ _ (aG _) o_,cO]
 .rw[wW o_,aX o_]
def Dn(R:List (List Int))(f:Nat->Bool):Nat->Int
 |0=>0
 |k+1=>if f k=true then Dn R f k+Ei R k else Dn R f k
def Ez(R:List (List Int)):Nat->Int
 |0=>0
 |k+1=>Ez R k+Ei R k
theorem LI(h:Gx R)(hn:R.length<=8)(x:Nat):0<=Ei R x/\Ei R x<=429981696:=by
 have h1:=Nh h (x:=x) R.length (aC _)
 have h12:12^R.length<=12^8:=aH d_ hn
 have h128:12^8=429981696:=rfl
 unfold Ei
 omega
theorem DS(h:Gx R)(hn:R.length<=8)(f:Nat->Bool): ∀k,0<=Dn R f k/\Dn R f k<=k*429981696
 |0=>by simp[Dn]
 |k+1=>by
  have h1:=DS h hn f k
  have h2:=LI h hn k
  unfold Dn
  split<;>omega
def I3(R:List (List Int)):Nat->List Int
 |0=>List.replicate R.length 0
 |k+1=>B2 R k
theorem Tb: ∀k,(I3 R k).length=R.length
 |0=>by simp[I3]
 |k+1=>Pj
section
variable (g:Int) (R:List (List Int)) (N:List Mc) (W:Nat) (s p:List Int) (hN:Fp R N) (hs:F3 N s) (hp:p.length=N.length) (hR:Gx R) (hW:W<=1024)
include hN hs hp hR hW
end
def D3(N:List Mc)(v:List Int):Nat->Int
 |0=>0
 |k+1=>D3 N v k*(N.getD k Ao).c+v.getD k 0
theorem XN{v:List Int}(hc: ∀k,k<N.length->1<=(N.getD k Ao).c/\(N.getD k Ao).c<=4)(hv: ∀k,k<N.length->0<=v.getD k 0/\v.getD k 0<(N.getD k Ao).c): ∀k,k<=N.length->0<=D3 N v k/\D3 N v k<By N k
 |0,_=>by simp[D3,By]
 |k+1,h=>by
  obtain⟨h1,h2⟩:=XN hc hv k o_
  obtain⟨h3,h4⟩:=hv k o_
  show 0<=D3 N v k*(N.getD k Ao).c+v.getD k 0/\D3 N v k*(N.getD k Ao).c+v.getD k 0<By N k*(N.getD k Ao).c
  generalize D3 N v k=a,v.getD k 0=b,(N.getD k Ao).c=c,By N k=p at*
  have e1:(a+1)*c<=p*c:=bL o_ o_
  have e2:(a+1)*c=a*c+c:=by rw[dS,eW]
  have e3:0<=a*c:=bY h1 o_
  omega
def Bm(f:Nat->Int)(n k:Nat):List Int:=(List.range n).map λi=>if i<k then f i else 0
theorem Nc{k:Nat}:(Bm f n k).length=n:=by simp[Bm]
theorem JM:Bm f n 0=List.replicate n 0:=by
 unfold Bm
 rw[eT]
 refine⟨by simp,λb hb=>?_⟩
 obtain⟨i,_,rfl⟩:=cC.1 hb
 rfl
theorem MJ{k:Nat}:(Bm f n k).set k (f k)=Bm f n (k+1):=by
 apply cD
 intro i
 unfold Bm
 rw[bV]
 by_cases hik:k=i
 .subst hik
  rw[if_pos rfl]
  by_cases hn:k<n
  .rw[if_pos (by simpa using hn),bD,aB (by simpa using hn)]
   simp
  .rw[if_neg (by simpa using hn),aX (by simpa using hn)]
 .rw[if_neg hik]
  simp only[bD]
  cases h:(List.range n)[i]? with
  |none=>rfl
  | some x =>
   have:x=i:=by
    obtain⟨h1,h2⟩:=aM.1 h
    simpa using h2.symm
   subst this
   simp only[Option.map_some]
   congr 1
   by_cases h1:x<k
   .rw[if_pos h1,if_pos o_]
   .rw[if_neg h1,if_neg o_]
theorem TW:Bm f n n=(List.range n).map f:=by
 unfold Bm
 apply dZ
 intro i hi
 rw[if_pos (bB.1 hi)]
def Da(R:List (List Int))(f:Nat->Nat)(n k:Nat):List Int:=(List.range n).map λi=>Dn R (λx=>decide (f x=i)) k
theorem JK{f:Nat->Nat}{k:Nat}:(Da R f n k).length=n:=by simp[Da]
theorem LV{f:Nat->Nat}{k:Nat}(h:i<n):(Da R f n k).getD i 0=Dn R (λx=>decide (f x=i)) k:=by
 unfold Da
 rw[aA,bD,aB (by simpa using h)]
 simp
theorem xN{f:Nat->Nat}:Da R f n 0=List.replicate n 0:=by
 unfold Da
 rw[eT]
 refine⟨by simp,λb hb=>?_⟩
 obtain⟨i,_,rfl⟩:=cC.1 hb
 rfl
theorem vO{f:Nat->Nat}{k:Nat}(h:f k<n):(Da R f n k).set (f k) ((Da R f n k).getD (f k) 0+Ei R k)=Da R f n (k+1):=by
 rw[LV h]
 apply cD
 intro i
 rw[bV]
 by_cases hik:f k=i
 .subst hik
  rw[if_pos rfl,if_pos (by rw[JK];exact h)]
  unfold Da
  rw[bD,aB (by simpa using h)]
  simp[Dn]
 .rw[if_neg hik]
  unfold Da
  simp only[bD]
  cases h2:(List.range n)[i]? with
  |none=>rfl
  | some x =>
   have:x=i:=by
    obtain⟨h1,h3⟩:=aM.1 h2
    simpa using h3.symm
   subst this
   simp only[Option.map_some,Dn]
   rw[if_neg (by simpa using hik)]
abbrev HK(n:Nat)(z:V):O:=.row 102 none [.sl 3 0 n (some (n-n)),.sl 4 0 n (some (n-n)),z]
abbrev fY(g:Int)(n:Nat)(R:List V)(q:Nat)(N:List V)(W:Int)(s:List Int)(a b:List Int)(z:V):List O:=
 [.row 47 none [sl s],.row 102 none [.nils,.nils,.nils],jH g n R q N W,Ay a,Ay b,HK q z]
abbrev rB(g:Int)(n:Nat)(R:List V)(q:Nat)(N:List V)(W:Int)(s:List Int)(p:Int)(a b:List Int):SL:={sl:=[(3,.ptr 0 0),(4,.ptr 1 0),(6,.ptr 2 0),(8,i6 p),(9,.ptr 5 0)],os:=fY g n R q N W s a b .nils,md:=[0,0,0,0,0,1]}
abbrev fX(g:Int)(n:Nat)(R:List V)(q:Nat)(N:List V)(W:Int)(s:List Int)(x:Nat×Int×List Int×List Int):SL:={sl:=[(3,.ptr 0 0),(4,.ptr 1 0),(6,.ptr 2 0),(8,i6 x.2.1),(9,.ptr 5 0),(41,.im q N),(42,i6 q),(43,i6 x.1)],os:=fY g n R q N W s x.2.2.1 x.2.2.2 .nils,md:=[0,0,0,0,0,1]}
section
variable (g:Int) (R:List (List Int)) (N:List Mc) (W:Int) (s:List Int) (hq:N.length<=5) (hc: ∀k,k<N.length->1<=(N.getD k Ao).c/\(N.getD k Ao).c<=4)
include hq hc
theorem Xe:Au Pg none 0 (aT 80 111111010) (Al g0 100 (fX g R.length (Ah R) N.length (Ak N) W s (0,1,Bm (λi=>(i:Int)) N.length 0,Bm (λi=>(N.getD i Ao).c) N.length 0))) (B3 g0 100 [(True,.exit 0,rB g R.length (Ah R) N.length (Ak N) W s (By N N.length) (Bm (λi=>(i:Int)) N.length N.length) (Bm (λi=>(N.getD i Ao).c) N.length N.length))]):=by
 have hRR:=B7 R
 have hNN:=Cl N
 have hss:=Ap s
 refine C9 (aT 80 1111110100) (λx=>x.1<=N.length/\x.2.1=By N x.1/\x.2.2.1=Bm (λi=>(i:Int)) N.length x.1/\x.2.2.2=Bm (λi=>(N.getD i Ao).c) N.length x.1) (fX g R.length (Ah R) N.length (Ak N) W s) (λx=>N.length-x.1) (λx hx=>?_) (0,1,Bm (λi=>(i:Int)) N.length 0,Bm (λi=>(N.getD i Ao).c) N.length 0) ⟨aG _,rfl,rfl,rfl⟩
 obtain⟨k,p,a,b⟩:=x
 obtain⟨hk,h1,h2,h3⟩:=hx
 dsimp only at hk h1 h2 h3
 by_cases hlt:k<N.length
 .have hld:=DX hlt
  have hcb:=AZ hc (k+1) hlt
  have h45:(4:Int)^(k+1)<=4^5:=by
   have:=aH (show 4>0 by decide) (show k+1<=5 by omega)
   exact_mod_cast this
  have h46:(4:Int)^5=1024:=rfl
  have e1:By N (k+1)=By N k*(N.getD k Ao).c:=rfl
  have la:a.length=N.length:=by rw[h2,Nc]
  have lb:b.length=N.length:=by rw[h3,Nc]
  have ea:=MJ (f:=λi=>(i:Int)) (n:=N.length) (k:=k)
  have eb:=MJ (f:=λi=>(N.getD i Ao).c) (n:=N.length) (k:=k)
  rw[<-h2]at ea
  rw[<-h3]at eb
  try dsimp only at ea eb
  have s1:=Ie (l:=a) (j:=k) (x:=(k:Int)) o_
  have s2:=Ie (l:=b) (j:=k) (x:=(N.getD k Ao).c) o_
  rw[ea]at s1
  rw[eb]at s2
  rw[h1]
  have hnx:(k+1<=N.length/\By N (k+1)=By N (k+1)/\Bm (λi=>(i:Int)) N.length (k+1)=Bm (λi=>(i:Int)) N.length (k+1)/\Bm (λi=>(N.getD i Ao).c) N.length (k+1)=Bm (λi=>(N.getD i Ao).c) N.length (k+1)):=⟨hlt,rfl,rfl,rfl⟩
  have la2:(Bm (λi=>(i:Int)) N.length (k+1)).length=N.length:=Nc
  have lb2:(Bm (λi=>(N.getD i Ao).c) N.length (k+1)).length=N.length:=Nc
  refine .inl ⟨(k+1,By N (k+1),Bm (λi=>(i:Int)) N.length (k+1),Bm (λi=>(N.getD i Ao).c) N.length (k+1)),[0,1,2,3,4,5],[As 44,pl 46,ld 47 (.agg (Fq (N.getD k Ao))),pl 57,st (Aa (Bm (λi=>(i:Int)) N.length (k+1))),pl 58,st (Aa (Bm (λi=>(N.getD i Ao).c) N.length (k+1))),nu 62 (By N (k+1)),nu 63 ((k+1:Nat):Int)],1000,hnx,by dsimp only;omega,?_⟩
  clear hnx ea eb h2 h3
  generalize Bm (λi=>(i:Int)) N.length (k+1)=a2,Bm (λi=>(N.getD i Ao).c) N.length (k+1)=b2 at*
  have hb1:=Ap a
  have hb2:=Ap b
  have hb3:=Ap a2
  have hb4:=Ap b2
  generalize hxe:N.getD k Ao=x at*
  obtain⟨c,fr,nz,ou⟩:=x
  dsimp only at*
  have i1:=Ap fr
  have i2:=Ap nz
  have i3:=Ap ou
  have hck:=hc k hlt
  rw[hxe]at hck
  dsimp only at hck
  clear hc
  generalize By N (k+1)=p1,By N k=p0,Ak N=NN,Ah R=RR,N.length=n at*
  exact C8 [_,_,_,_,_,_,_,wr .i64 (p0*c)=p1,_] ⟨Bf hlt,Ar hlt,hld,Ar hlt,s1,Ar hlt,s2,aq,Dw k o_⟩
 .have hk2:k=N.length:=o_
  subst hk2
  subst h1 h2 h3
  refine .inr ⟨.exit 0,[0,1,2,3,4,5],_,[no 44],1000,.inl ⟨trivial,rfl,rfl⟩,?_⟩
  generalize Bm (λi=>(i:Int)) N.length N.length=a2,Bm (λi=>(N.getD i Ao).c) N.length N.length=b2 at*
  have hb3:=Ap a2
  have hb4:=Ap b2
  clear hc
  generalize By N N.length=p1,Ak N=NN,Ah R=RR,N.length=n at*
  exact Cj [_] (Cq hlt)
end
noncomputable abbrev BS:Code:=aT 80 11111111010
theorem NW:BS= .rangeFunc (.tmp 68) #[69,70] (Wm BS) (Ma BS):=k_
noncomputable def ZZ:Code:=Ma BS
noncomputable def fV:Code:=Wm BS
abbrev qZ(n z:Nat):V:=.sl 6 0 z (some (z-z))
abbrev Nk(g:Int)(n:Nat)(R:List V)(q:Nat)(N:List V)(W:Int)(s:List Int)(a b:List Int)(z:Nat)(w:List Int):List O:=fY g n R q N W s a b (qZ q z)++[Ay w]
abbrev rA(n:Nat)(w:Int):List (Nat×V):=[(3,.ptr 0 0),(4,.ptr 1 0),(6,.ptr 2 0),(9,.ptr 5 0),(69,.sl 8 0 n (some (n-n))),(70,i6 w)]
abbrev fW(n:Nat)(w:Int):List (Nat×V):=[(3,.ptr 0 0),(4,.ptr 1 0),(6,.ptr 2 0),(9,.ptr 5 0),(12,.sl 8 0 n (some (n-n))),(13,i6 w)]
theorem FD(n:Nat)(w:Int)(H:T O)(nx:Nat):vc Pg vE E0 (some 7) nx 1000 fV [] (Be g0 100 (rA n w) H nx []) (M0 100 (fW n w) H nx):=by
 exact m_ (p:=An [An [Sm (V.ptr 0 0),Sm (V.ptr 1 0),Sm (V.ptr 2 0),Sm (V.ptr 5 0),Sm (V.sl 8 0 n (some (n-n))),Sm (i6 w),Tt],H=H,nx=nx,([]:List Nat)=[]]) a_
abbrev UX(q:Nat)(L:List V)(w:Int)(k:Nat)(x:Int):List (Nat×V):=[(9,.ptr 5 0),(13,i6 w),(14,i6 x),(74,.im q L),(75,i6 q),(76,i6 k)]
theorem NV(nx0:Nat)(N:List Mc)(v b:List Int)(w:Int)(hc: ∀k,k<N.length->1<=(N.getD k Ao).c/\(N.getD k Ao).c<=4)(hq:N.length<=5)(hv: ∀k,k<N.length->0<=v.getD k 0/\v.getD k 0<(N.getD k Ao).c)(hl:v.length=N.length)(hb:b.length=N.length)(hbv: ∀k,k<N.length->b.getD k 0=(N.getD k Ao).c)(H:T O)(nx:Nat)(lg:List Nat)(z:V)(h5:gt H 5=some (HK N.length z))(h4:gt H 4=some (Ay b)):
  Au Pg (some 7) nx0 (sub [0,1,0,1,0] (Ma BS)) (Be g0 100 (UX N.length (Aa v) w 0 0) H nx lg) (DQ g0 100 H nx lg [(True,.exit 4,[(9,.ptr 5 0),(13,i6 w),(14,i6 (D3 N v N.length))])]):=by
 refine Td (b:=sub [0,1,0,1,0,0] (Ma BS)) k_ (λx=>x.1<=N.length/\x.2=D3 N v x.1) (λ(x:Nat×Int)=>UX N.length (Aa v) w x.1 x.2) (λx=>N.length-x.1) _ H nx lg (λx G hI hN hE=>?_) (0,0) ⟨aG _,rfl⟩
 obtain⟨k,x⟩:=x
 obtain⟨hk,hx0⟩:=hI
 dsimp only at hk hx0
 subst hx0
 by_cases hlt:k<N.length
 .have s1:=Dm (l:=v) (k:=k) o_
  have s2:=Px (l:=b) (k:=k) o_
  rw[hbv k hlt]at s2
  have hck:=hc k hlt
  have hvk:=hv k hlt
  have b0:=XN hc hv k hk
  have b1:=XN hc hv (k+1) hlt
  have c1:=AZ hc (k+1) hlt
  have c0:=AZ hc k hk
  have h45:(4:Int)^(k+1)<=4^5:=by
   have:=aH (show 4>0 by decide) (show k+1<=5 by omega)
   exact_mod_cast this
  have h44:(4:Int)^k<=4^5:=by
   have:=aH (show 4>0 by decide) (show k<=5 by omega)
   exact_mod_cast this
  have h46:(4:Int)^5=1024:=rfl
  have e1:D3 N v (k+1)=D3 N v k*(N.getD k Ao).c+v.getD k 0:=rfl
  have e2:By N (k+1)=By N k*(N.getD k Ao).c:=rfl
  have hnext:=hN (k+1,D3 N v (k+1)) ⟨hlt,rfl⟩ (by dsimp only;omega)
  dsimp only at hnext
  have hm0:0<=D3 N v k*(N.getD k Ao).c:=bY b0.1 o_
  refine⟨[As 77,pl 79,ld 80 (i6 (v.getD k 0)),A5 83 (HK N.length z) (.sl 4 0 N.length (some (N.length-N.length))),pl 85,A5 86 (Ay b) (i6 (N.getD k Ao).c),nu 87 (D3 N v k*(N.getD k Ao).c),nu 89 (D3 N v (k+1)),nu 90 ((k+1:Nat):Int),toO (UX N.length (Aa v) w (k+1) (D3 N v (k+1)))],1000,?_⟩
  clear hN hE hc hv hbv
  generalize D3 N v (k+1)=p1,D3 N v k=p0,(N.getD k Ao).c=c,v.getD k 0=y,N.length=n at*
  have hvv:=Ap v
  exact m_ (p:=let z1:=some (n-n);An [_,_,_,_,Ae (Af 1 [V.sl 3 0 n z1,V.sl 4 0 n z1,z])=some (V.sl 4 0 n z1),_,_,_,wr .i64 (p0*c)=p0*c,wr .i64 (p0*c+y)=p1,_,_,Sm (V.ptr 5 0),Sm (i6 w),Sm (i6 p1),Sm (V.im n (Aa v)),Sm (i6 ↑n),Sm (i6 ↑(k+1)),Tt]) ⟨Bf hlt,Ar hlt,s1,h5,(by rfl),Ar hlt,h4,s2,aq,aq,Dw k o_,hnext,a_⟩
 .have hk2:k=N.length:=o_
  subst hk2
  have hex:=hE 4 _ (.inl ⟨trivial,rfl,rfl⟩)
  refine⟨[no 77,toO [(9,.ptr 5 0),(13,i6 w),(14,i6 (D3 N v N.length))]],1000,?_⟩
  clear hN hE hc hv hbv
  generalize D3 N v N.length=p0,N.length=n at*
  have hvv:=Ap v
  exact m_ (p:=An [_,_,Sm (V.ptr 5 0),Sm (i6 w),Sm (i6 p0),Tt]) ⟨Cq hlt,hex,a_⟩
theorem FC(g:Int)(R:List (List Int))(N:List Mc)(W:Int)(s u a b:List Int)(z:Nat)(w:List Int)(hN:Fp R N)(hu:AM R u)(hs:F3 N s)(hb:b.length=N.length)(hbv: ∀k,k<N.length->b.getD k 0=(N.getD k Ao).c)(hw:w.length=z)(hz6:z<=1000000)(wt:Int)(h3: -1000000000000<=wt/\wt<=1000000000000)(p:Nat)(hpz:p<z)(hp:D3 N (Cg N R s u) N.length=(p:Int))(x:Int)(hx:w.getD p 0=x)(h4: -1000000000000<=x/\x<=1000000000000)(Lb:O):
  ∃hsb:Hs,vc Pg vE E0 (some 7) 9 1000 ZZ hsb (Be g0 100 (fW R.length wt) (Ai .e 0 (Nk g R.length (Ah R) N.length (Ak N) W s a b z w++[Lb,Ay u])) 9 [7]) (Lu (Ai .e 0 (Nk g R.length (Ah R) N.length (Ak N) W s a b z (w.set p (x+wt))++[Lb,Ay u])) 9 [6,7]):=by
 have hRR:=B7 R
 have hNN:=Cl N
 have hss:=Ap s
 have huu:=Ap u
 have hrun:=FK (g:=g) (W:=W) hN hu hs (H:=Ai .e 0 (Nk g R.length (Ah R) N.length (Ak N) W s a b z w++[Lb,Ay u])) (nx:=9) (hv:=8) (t:=3) (sp:=none) (room:=some (R.length-R.length)) rfl
 have hq:=hN.q
 have hsb:=IZ hN hu hs
 have hin:=λlg=>NV 9 N (Cg N R s u) b wt hN.c hq.2 (λk hk=>by rw[TG hk];exact hsb k hk) V3 hb hbv (Ai .e 0 (Nk g R.length (Ah R) N.length (Ak N) W s a b z w++[Lb,Ay u])) 9 lg (qZ N.length z) k_ k_
 rw[hp]at hin
 have s1:=Px (l:=w) (k:=p) o_
 rw[hx]at s1
 have s2:=Ie (l:=w) (j:=p) (x:=x+wt) o_
 refine⟨[(74,.call ⟨.im N.length (Aa (Cg N R s u)),Ai .e 0 (Nk g R.length (Ah R) N.length (Ak N) W s a b z w++[Lb,Ay u]),9,[]⟩),rJ (UX N.length (Aa (Cg N R s u)) wt 0 0) (.exit 4) [(9,.ptr 5 0),(13,i6 wt),(14,i6 p)],pl 94,ld 95 (i6 x),nu 97 (x+wt),pl 98,st (Aa (w.set p (x+wt)))],?_⟩
 have hwl:(w.set p (x+wt)).length=z:=by rw[bJ];exact hw
 clear hN hu hs hp hsb hbv
 generalize w.set p (x+wt)=w2 at*
 have hLL:=Ap (Cg N R s u)
 generalize Cg N R s u=L,Ah R=RR,Ak N=NN at*
 refine m_ (p:=let z1:=V.im N.length (Aa L);let z2:=(↑p:Int);An [_,An [Sm (V.ptr 5 0),Sm (i6 wt),Sm (i6 0),z1=z1,Sm (i6 ↑N.length),i6 0=i6 ↑(0:Nat),Tt],_,(True->((0:Int)<=z2/\z2<(↑z:Int))/\Ae (Af (0+p*1) (Aa w))=some (i6 x)/\wr .i64 (x+wt)=x+wt/\((0:Int)<=z2/\z2<(↑z:Int))/\Bg (0+p*1) (Aa w) [i6 (x+wt)]=some (Aa w2)/\pt (Ai T.e 0 (Nk g R.length RR N.length NN W s a b z w++[Lb,Ay u])) 6 (O.row 3 none (Aa w2))=Ai T.e 0 (Nk g R.length RR N.length NN W s a b z w2++[Lb,Ay u])/\9=9/\∀(g:Nat),List.Mem g ([6]++([]++[7]))->List.Mem g [6,7]),Tt]) ⟨hrun,a_,hin ([]++[7]),(λ_=>?_),aq⟩
 (repeat'(first|(with_reducible apply And.intro)|(refine λ(_:True)=>?_)))<;>first|exact aq|skip
 all_goals first|exact hrun|exact hin ([]++[7])|exact s1|exact s2|(intro g hg;change g∈[7]at hg;show g∈[6,7];simp only[aK,bE,or_false]at hg⊢;omega)|(intro g hg;change g∈[6,7]at hg;exact hg)|kernel_rfl|skip
theorem Dz.wt(h:Dz g R N):Gx R:=λk hk=>by
 have h1:=WU h.rt k hk
 have h2:=h.rt
 unfold D2 at h2
 rw[aD]at h2
 have h3:=aO.1 h2.1 (R.getD k []) (DO hk)
 unfold G4 at h3
 simp only[aD]at h3
 have h5:=J3.1 h3.1.2
 exact⟨h1.1,h1.2,λj hj=>by have:=h5 j hj;have:=h.g1;omega⟩
theorem Dz.w24(h:Dz g R N):B4 R R.length<=1024:=by
 have h2:=h.rt
 unfold D2 at h2
 rw[aD]at h2
 exact of_decide_eq_true h2.2
theorem Dz.z24(h:Dz g R N):By N N.length<=1024:=by
 have h2:=h.nd
 unfold Ek at h2
 rw[aD]at h2
 exact of_decide_eq_true h2.2
def Ct(R:List (List Int))(N:List Mc)(s:List Int)(x:Nat):Nat:=(D3 N (Cg N R s (B2 R x)) N.length).toNat
theorem mJ(hN:Fp R N)(hs:F3 N s)(x:Nat):D3 N (Cg N R s (B2 R x)) N.length=(Ct R N s x:Nat)/\Ct R N s x<(By N N.length).toNat:=by
 have hroot:=MF (λk hk=>(hN.rl k hk).1) x
 have h:=XN hN.c (v:=Cg N R s (B2 R x)) (λk hk=>by rw[TG hk];exact IZ hN hroot hs k hk) N.length (aC _)
 unfold Ct
 omega
abbrev Qp(g:Int)(n:Nat)(R:List V)(q:Nat)(N:List V)(W:Int)(s:List Int)(a b:List Int)(z:Nat)(w:List Int):SL:={sl:=[(3,.ptr 0 0),(4,.ptr 1 0),(6,.ptr 2 0),(9,.ptr 5 0),(68,.fn 150 [.imp [i6 g,.im n R,.im q N,i6 W]])],os:=Nk g n R q N W s a b z w,md:=[0,0,0,0,0,1]}
abbrev qY(a b w:List Int):SL:={sl:=[(4,.ptr 0 0),(9,.ptr 1 0)],os:=[.row 102 none [.nils,.nils,.nils],.row 102 none [sl a,sl b,sl w]],md:=[0,1]}
section
variable (g:Int) (R:List (List Int)) (N:List Mc) (W:Nat) (s a b:List Int) (hN:Fp R N) (hs:F3 N s) (hR:Gx R) (hW:W<=1024) (ha:a.length=N.length) (hb:b.length=N.length) (hbv: ∀k,k<N.length->b.getD k 0=(N.getD k Ao).c) (z:Nat) (hz:(By N N.length).toNat=z) (hz6:z<=1000000)
include hN hs hR hW ha hb hbv hz hz6
theorem Qo:Au Pg none 0 BS (Al g0 100 (Qp g R.length (Ah R) N.length (Ak N) W s a b z (Da R (Ct R N s) z 0))) (B3 g0 100 [(True,.normal,qY a b (Da R (Ct R N s) z W))]):=by
 have hRR:=B7 R
 have hNN:=Cl N
 have hss:=Ap s
 rw[NW]
 have hpl:=mJ hN hs
 rw[hz]at hpl
 obtain⟨f,hf⟩: ∃f:Nat->Nat,f=Ct R N s:=⟨_,rfl⟩
 rw[<-hf]at hpl⊢
 obtain⟨L,hL⟩: ∃L:O,L= .loop .ready none 0 (Al g0 100 (Qp g R.length (Ah R) N.length (Ak N) W s a b z (Da R f z 0))).tm [69,70] fV ZZ:=⟨_,rfl⟩
 have hcall:=g7 g R N.length (Ak N) W hR hN.n hNN o_ 7 8 (Ai .e 0 (Nk g R.length (Ah R) N.length (Ak N) W s a b z (Da R f z 0)++[L])) (λk=>Ai .e 0 (Nk g R.length (Ah R) N.length (Ak N) W s a b z (Da R f z k)++[L,Ay (I3 R k)])) (λ_=>9) [6,7] k_ rfl (λk hk=>⟨I3 R k,Tb k,by rw[Cm,E8];rfl⟩) (λk hk=>by
  have b1:=DS hR hN.n (λx=>decide (f x=f k)) k
  have b3:=LI hR hN.n k
  have hroot:=MF (λk hk=>(hR k hk).1) k
  have bdy:=λLb=>FC g R N W s (B2 R k) a b z (Da R f z k) hN hroot hs hb hbv JK hz6 (Ei R k) o_ (f k) (hpl k).2 (hpl k).1 _ rfl (by rw[LV (hpl k).2];omega) Lb
  have e3:I3 R (k+1)=B2 R k:=rfl
  rw[vO (hpl k).2,<-e3]at bdy
  rw[<-e3]
  have ept:pt (Ai .e 0 (Nk g R.length (Ah R) N.length (Ak N) W s a b z (Da R f z k)++[L,Ay (I3 R k)])) 8 (Ay (I3 R (k+1)))=Ai .e 0 (Nk g R.length (Ah R) N.length (Ak N) W s a b z (Da R f z k)++[L,Ay (I3 R (k+1))]):=k_
  rw[ept]
  refine Ac.yldC vE_ok Bx Gy (n:=100) (fn0:=0) (tm:=(Al g0 100 (Qp g R.length (Ah R) N.length (Ak N) W s a b z (Da R f z 0))).tm) (ps:=[69,70]) (assign:=fV) (body:=ZZ) (hs0:=[]) (hs1:=λLb=>(bdy Lb).choose) (m0:=1000) (m1:=1000) (sl0:=rA R.length (Ei R k)) (sl1:=fW R.length (Ei R k)) ?_ rfl rfl rfl ⟨rfl,rfl,rfl,rfl,rfl,rfl,trivial⟩ (FD R.length (Ei R k)) (λLb=>?_) d_ (λi hi=>?_) ?_
  .rw[Cm,E8,hL];rfl
  .have e4: ∀w,pt (Ai .e 0 (Nk g R.length (Ah R) N.length (Ak N) W s a b z w++[L,Ay (I3 R (k+1))])) 7 Lb=Ai .e 0 (Nk g R.length (Ah R) N.length (Ak N) W s a b z w++[Lb,Ay (I3 R (k+1))]):=λw=>k_
   rw[e4,e4]
   exact(bdy Lb).choose_spec
  .rw[E8,E8]
   simp only[aK,bE,or_false,not_or]at hi
   rcases(show i=0\/i=1\/i=2\/i=3\/i=4\/i=5\/8<=i by omega)with rfl|rfl|rfl|rfl|rfl|rfl|h7
   .rfl
   .rfl
   .rfl
   .rfl
   .rfl
   .rfl
   .obtain⟨d,rfl⟩: ∃d,i=d+8:=⟨i-8,o_⟩
    rfl
  .rw[Cm,E8,hL];rfl) ⟨by simp,λi hi hn=>by
   rw[E8,E8]
   simp only[aK,bE,or_false,not_or]at hi
   rcases(show i=0\/i=1\/i=2\/i=3\/i=4\/i=5\/9<=i by omega)with rfl|rfl|rfl|rfl|rfl|rfl|h7
   .rfl
   .rfl
   .rfl
   .rfl
   .rfl
   .rfl
   .obtain⟨d,rfl⟩: ∃d,i=d+9:=⟨i-9,o_⟩
    rfl⟩
 have hwl:(Da R f z W).length=z:=JK
 have hq:=hN.q
 generalize Da R f z W=w,Da R f z 0=w0,I3 R W=l at*
 have hll:=Ap l
 have hww:=Ap w
 have haa:=Ap a
 have hbb:=Ap b
 refine Au.rangeC (r:=[1,5]) (S:=Qp g R.length (Ah R) N.length (Ak N) W s a b z w0) (f:=150) (caps:=[.imp [i6 g,.im R.length (Ah R),.im N.length (Ak N),i6 W]]) rfl rfl (by rw[hL]at hcall;exact hcall) ?_ ?_
 .rw[Cm,E8];rfl
 .clear hcall hL hf hR hN hs hbv hpl
  generalize Ah R=RR,Ak N=NN at*
  exact m_ (p:=An [An [Zz,Zz,Tt],An [Sm [V.nils,V.nils,V.nils],TT 3],An [An [_,Sm (Aa a),_],An [_,Sm (Aa b),_],An [_,Sm (Aa w),_],Tt],Tt]) ⟨a_,a_,⟨⟨ha,aq,haa⟩,⟨hb,aq,hbb⟩,⟨hwl,aq,hww⟩,aq⟩,aq⟩
end
def Gl(n:Nat):List Int:=(List.range n).map λ(i:Nat)=>(i:Int)
def Aq(N:List Mc):List Int:=(List.range N.length).map λi=>(N.getD i Ao).c
theorem Eg:(Aq N).length=N.length:=by simp[Aq]
theorem Oi{k:Nat}(h:k<N.length):(Aq N).getD k 0=(N.getD k Ao).c:=by
 unfold Aq
 rw[aA,bD,aB (by simpa using h)]
 simp
def Bp(R:List (List Int))(N:List Mc)(s:List Int):List Int:=Da R (Ct R N s) (By N N.length).toNat (B4 R R.length)
theorem CT{f:Nat}{cs:List V}{x v:V}{H2:T O}(hf:Ag Pg g0 f [x,.im n cs] v)(hx:Hf x)(hv:Hf v)(hc:Ba cs)(ho:gt H h=some (.row t sp cs))(h2:H2=pt H h .dead):Ac Pg g0 (.fn f []) [x,.sl h 0 n room] H nx ⟨v,H2,nx,[h]⟩:=by
 subst h2
 refine lL [h] hf ⟨_,_,rfl,Bo.of_hf _ hx,_,_,rfl,.inr (.inr ⟨h,0,room,t,sp,cs,rfl,aN.2 rfl,by rw[<-Cm];exact ho,Bq.of_hf _ hc⟩),rfl⟩ hv (λg hg=>?_) (λi hi=>?_) (λi hi=>?_)
 .obtain rfl:=aN.1 hg
  exact⟨_,_,_,by rw[<-Cm];exact ho⟩
 .rw[<-Cm,<-Cm,Ad,if_neg (λe=>hi (aN.2 e))]
 .obtain rfl:=aN.1 hi
  rw[<-Cm,Ad,if_pos rfl]
theorem sH(g:Int)(R:List (List Int))(N:List Mc)(hl:B8 R N)(h:Ck g R N=true)(s:List Int)(h6:s.length<=1000000)(hS:Ey N s=true):Ag Pg g0 80 [Bd g R N,sl s] (.tup [.agg [sl (Gl N.length),sl (Aq N),sl (Bp R N s)],i6 0]):=by
 have hRR:=B7 R
 have hNN:=Cl N
 have hss:=Ap s
 have hM:=Is h
 have hread:=Qj g R N hl h [s] s_ (λL hL=>by simp at hL;subst hL;exact h6) (by simpa using hS)
 have hz:=hM.z24
 have hz1:=(AZ hM.cd N.length (aC _)).1
 have hlo:=Xe g R N (B4 R R.length:Nat) s hM.q1.2 hM.cd
 have hrg:=Qo g R N (B4 R R.length) s (Gl N.length) (Aq N) hM.nd2 (V0 hS) hM.wt hM.w24 (by simp[Gl]) Eg (λk hk=>Oi hk) _ rfl o_
 have hwf:=bp g R.length (Ah R) hRR N.length (Ak N) hNN (B4 R R.length:Nat)
 rw[xN]at hrg
 have e1:Bm (λi=>(i:Int)) N.length N.length=Gl N.length:=TW
 have e2:Bm (λi=>(N.getD i Ao).c) N.length N.length=Aq N:=TW
 rw[e1,e2,JM,JM]at hlo
 have hq:=hM.q1
 have hrl:Ah [s]=[sl s]:=rfl
 rw[hrl]at hread
 obtain⟨z,hze⟩: ∃z:Nat,By N N.length=(z:Int):=⟨(By N N.length).toNat,o_⟩
 rw[hze]at hlo hrg hz hz1
 rw[cS]at hrg
 have hT:Bp R N s=Da R (Ct R N s) z (B4 R R.length):=by unfold Bp;rw[hze,cS]
 rw[hT]
 have hT2:(Da R (Ct R N s) z (B4 R R.length)).length=z:=JK
 generalize Da R (Ct R N s) z (B4 R R.length)=w at*
 have hvl:(Gl N.length).length=N.length:=by simp[Gl]
 have hcl:=Eg (N:=N)
 generalize Gl N.length=a,Aq N=b at*
 have haa:=Ap a
 have hbb:=Ap b
 have hww:=Ap w
 clear hT hze e1 e2 hM hl h hS hrl
 unfold Bd at*
 unfold jG at hread
 generalize B4 R R.length=P at*
 refine K8 [0] {sl:=[(4,.ptr 0 0),(5,i6 0)],os:=[.row 102 none [sl a,sl b,sl w]],md:=[1]} [(21,.call ⟨.tup [.agg [i6 g,.im R.length (Ah R),.im N.length (Ak N),i6 P],i6 0],pt (Ai .e 0 [.row 34 none [i6 g,.im R.length (Ah R),.im N.length (Ak N)],.row 47 none [sl s],.row 102 none [.nils,.nils,.nils],.row 47 none [sl s]]) 3 .dead,4,[3]⟩),mk 32,mk 37,(0,.loop [1,2,4,5,6,7] (fX g R.length (Ah R) N.length (Ak N) P s (0,1,List.replicate N.length 0,List.replicate N.length 0)) [(True,.exit 0,rB g R.length (Ah R) N.length (Ak N) P s z a b)]),mk 65,fn 68 (.fn 150 [.imp [i6 g,.im R.length (Ah R),.im N.length (Ak N),i6 P]]),(0,.loop [0,1,2,3,4,5,6] (Qp g R.length (Ah R) N.length (Ak N) P s a b z (List.replicate z 0)) [(True,.normal,qY a b w)])] ?_
 generalize Ah R=RR,Ak N=NN at*
 exact m_ (p:=let y4:=An [Zz,Sm N.length,Sm (N.length-N.length)];let y5:=An [Sm [sl s],Tt,Tt];let z0:=[i6 g,V.im R.length RR,V.im N.length NN,i6 ↑P];let z1:=(↑N.length:Int);let z3:=[V.nils,V.nils,V.nils];let z4:=[i6 g,V.im R.length RR,V.im N.length NN];let z5:=(0:Int);let z6:=O.row 47 none [sl s];let z7:=(9223372036854775807:Int);let z8:=(↑z:Int);let z9:=(281474976710656:Int);let y1:=V.tup [V.agg [sl a,sl b,sl w],i6 0];let y2:=(↑(8:Nat):Int);let z2:=List.replicate N.length z5;let y0:=List.replicate z z5;An [y1=y1,Ac Tryz.prog g0 (V.fn 119 []) [V.agg z4,V.sl 3 0 1 (some 0)] (pt (pt (pt (pt T.e 0 (O.row 34 none z4)) 1 z6) 2 (O.row 102 none z3)) 3 z6) 4 (CR.mk (V.tup [V.agg z0,i6 0]) (pt (Ai T.e 0 [O.row 34 none z4,z6,O.row 102 none z3,z6]) 3 O.dead) 4 [3]),An [z5<=z1,z1<=z1,y2*z1<=z9,z1<=z7],An [z5<=z1,z1<=z1,y2*z1<=z9,z1<=z7],An [An [Zz,Zz,Zz,Sm (1:Int),Zz,An [Sm N.length,NN=NN],z1=z1,(↑(0:Nat):Int)=z5,Tt],y5,An [z3=z3,TT 3],An [z0=z0,TT 4],An [Aa z2=Cx N.length [i6 0],Ba (Aa z2)],An [Aa z2=Cx N.length [i6 0],Ba (Aa z2)],An [y4,y4,Tt,Tt],Tt],_,(True->An [An [z5<=z8,z8<=z8,y2*z8<=z9,z8<=z7],_,An [An [Zz,Zz,Zz,Zz,An [z0=z0,Tt],Tt],y5,An [z3=z3,TT 3],An [z0=z0,TT 4],An [Sm (Aa a),_],An [Sm (Aa b),_],An [y4,y4,An [Zz,z=z,Sm (z-z)],Tt],An [Aa y0=Cx z [i6 0],Ba (Aa y0)],Tt],_,(True->An [An [Zz,z5=z5,Tt],An [An [Sm a.length,Sm (Aa a)],An [Sm b.length,Sm (Aa b)],An [Sm w.length,Sm (Aa w)],Tt],Tt]),Tt]),Tt]) ⟨aq,CT hread ⟨trivial,trivial,trivial,trivial⟩ ⟨⟨trivial,trivial,trivial,trivial,trivial⟩,trivial,trivial⟩ ⟨trivial,trivial⟩ rfl k_,a_,a_,⟨a_,aq,a_,a_,⟨(Lh _ _).symm,aq⟩,⟨(Lh _ _).symm,aq⟩,a_⟩,hlo,(λ_=>⟨a_,hwf,⟨a_,aq,a_,a_,⟨aq,haa⟩,⟨aq,hbb⟩,a_,⟨(Lh _ _).symm,aq⟩,aq⟩,hrg,a_⟩),aq⟩
theorem oX{l:List Int}{k:Nat}(h:k<l.length):Aa (l.take (k+1))=Aa (l.take k)++[i6 (l.getD k 0)]:=by
 rw[dF,aB h,aA,aB h]
 unfold Aa;rw[bP];rfl
theorem qD{l:List Int}{k:Nat}(h:k<=l.length):(Aa (l.take k)).length=k:=by rw[F5,fM];omega
section
variable (g:Int) (nR:Nat) (RR:List V) (hRR:Ba RR) (nN:Nat) (NN:List V) (hNN:Ba NN)
abbrev Di(g:Int)(nR:Nat)(RR:List V)(nN:Nat)(NN:List V):O:=.row 34 none [i6 g,.im nR RR,.im nN NN]
abbrev KC(g:Int)(nR:Nat)(RR:List V)(nN:Nat)(NN:List V)(q:Nat×List V):SL:={sl:=[(1,.ptr 0 0),(3,G6 1 q.1),(4,i6 q.1)],os:=Di g nR RR nN NN::Ik 3 1 q.2 q.1}
include hRR hNN
theorem ji(A:List Int)(hA:A.length=nN)(hn:nN<=1000000)(hd: ∀k,k<nN->Ae (NN.drop (k*4))=some (i6 (A.getD k 0))):
  Au Pg none 0 (aT 12 111010) (Al g0 22 (KC g nR RR nN NN (0,[]))) (B3 g0 22 [(True,.exit 0,{sl:=[(3,.im nN (Aa A))]})]):=by
 refine C9 (aT 12 1110100) (λq=>q.1<=nN/\q.2=Aa (A.take q.1)) (KC g nR RR nN NN) (λq=>nN-q.1) (λq hq=>?_) (0,[]) ⟨aG _,rfl⟩
 obtain⟨k,a⟩:=q
 obtain⟨hk,ha⟩:=hq
 dsimp only at hk ha
 have hal:a.length=k:=by rw[ha];exact qD o_
 have haf:Ba a:=by rw[ha];exact Ap _
 by_cases hlt:k<nN
 .have hnx:=oX (l:=A) (k:=k) o_
  rw[<-ha]at hnx
  have hld:=hd k hlt
  clear ha hd
  generalize A.getD k 0=x at*
  cases k with
  |zero=>
   obtain rfl:a=[]:=aE hal
   refine .inl ⟨(1,[i6 x]),[0,2],[As 9,pl 16,ld 18 (i6 x),nu 11 (1:Nat)],1000,⟨hlt,hnx.symm⟩,by dsimp only;omega,?_⟩
   clear hnx
   exact m_ (p:=let z1:=(↑(1:Nat):Int);let z2:=[i6 g,V.im nR RR,V.im nN NN];An [_,_,Ae (List.drop 0 (List.drop (0*4) NN))=some (i6 x),wr .i64 ((↑(0:Nat):Int)+(1:Int))=z1,An [Zz,An [Zz,1=1,Tt],z1=z1,Tt],An [z2=z2,TT 3],An [Sm [i6 x],Tt,Tt],Tt]) ⟨Bf hlt,Ar hlt,a_⟩
  |succ k=>
   refine .inl ⟨(k+2,a++[i6 x]),[0,3],[As 9,pl 16,ld 18 (i6 x),ap 20,nu 11 (k+2:Nat)],1000,⟨hlt,hnx.symm⟩,by dsimp only;omega,?_⟩
   clear hnx
   exact m_ (p:=let z1:=(↑(k+2):Int);let z2:=[i6 g,V.im nR RR,V.im nN NN];An [_,_,Ae (List.drop 0 (List.drop ((k+1)*4) NN))=some (i6 x),a.length=(k+1)*1,k+1+1<=9223372036854775807,(k+1+1)*8<=140737488355328,wr .i64 ((↑(k+1):Int)+(1:Int))=z1,An [Zz,An [Zz,Nat.succ k+1=k+1+1,Tt],z1=z1,Tt],An [z2=z2,TT 3],An [Sm (a++[i6 x]),Ba (a++[i6 x])],Tt]) ⟨Bf hlt,Ar hlt,aq,aq,aq,aq,aq,a_,a_,⟨aq,Nb haf ⟨trivial,trivial⟩⟩,aq⟩
 .obtain rfl:k=nN:=o_
  have hI:Aa A=a:=by rw[ha,bF o_]
  rw[hI]
  clear ha hd hI
  cases k with
  |zero=>
   obtain rfl:a=[]:=aE hal
   refine .inr ⟨.exit 0,[],{sl:=[(3,.im 0 Eb)]},[no 9],1000,.inl ⟨trivial,rfl,rfl⟩,?_⟩
   exact m_ (p:=An [_,An [Zz,Tt],Tt]) ⟨Cq hlt,a_⟩
  |succ k=>
   refine .inr ⟨.exit 0,[],{sl:=[(3,.im (k+1) a)]},[no 9],1000,.inl ⟨trivial,rfl,rfl⟩,?_⟩
   exact m_ (p:=An [_,An [An [Sm (k+1),a=a,_],Tt],Tt]) ⟨Cq hlt,⟨⟨aq,aq,haf⟩,aq⟩,aq⟩
theorem dp(A:List Int)(hA:A.length=nN)(hn:nN<=1000000)(hd: ∀k,k<nN->Ae (NN.drop (k*4))=some (i6 (A.getD k 0))):Ag Pg g0 12 [.agg [i6 g,.im nR RR,.im nN NN]] (.im nN (Aa A)):=by
 have hlp:=ji g nR RR hRR nN NN hNN A hA hn hd
 have hAf:=Ap A
 clear hd
 generalize Aa A=L at*
 refine Ch {sl:=[(2,.im nN L)]} [(0,.loop [0] (KC g nR RR nN NN (0,[])) [(True,.exit 0,{sl:=[(3,.im nN L)]})])] ?_
 exact m_ (p:=An [Sm (V.im nN L),An [An [Zz,Tt,(↑(0:Nat):Int)=(0:Int),Tt],An [Sm [i6 g,V.im nR RR,V.im nN NN],TT 3],Tt],_,(True->An [An [An [nN=nN,L=L],Tt],Tt]),Tt]) ⟨aq,a_,hlp,a_⟩
theorem gv(A:List Int)(hA:A.length=nR)(hn:nR<=1000000)(ls:Nat->List Int)(hd: ∀k,k<nR->Ae (RR.drop (k*1))=some (sl (ls k))/\A.getD k 0=(ls k).length):
  Au Pg none 0 (aT 74 111010) (Al g0 22 (KC g nR RR nN NN (0,[]))) (B3 g0 22 [(True,.exit 0,{sl:=[(3,.im nR (Aa A))]})]):=by
 refine C9 (aT 74 1110100) (λq=>q.1<=nR/\q.2=Aa (A.take q.1)) (KC g nR RR nN NN) (λq=>nR-q.1) (λq hq=>?_) (0,[]) ⟨aG _,rfl⟩
 obtain⟨k,a⟩:=q
 obtain⟨hk,ha⟩:=hq
 dsimp only at hk ha
 have hal:a.length=k:=by rw[ha];exact qD o_
 have haf:Ba a:=by rw[ha];exact Ap _
 by_cases hlt:k<nR
 .have hnx:=oX (l:=A) (k:=k) o_
  obtain⟨hld,hx⟩:=hd k hlt
  rw[<-ha,hx]at hnx
  clear ha hd
  generalize ls k=L at*
  cases k with
  |zero=>
   obtain rfl:a=[]:=aE hal
   refine .inl ⟨(1,[i6 L.length]),[0,2],[As 9,pl 16,ld 17 (sl L),nu 11 (1:Nat)],1000,⟨hlt,hnx.symm⟩,by dsimp only;omega,?_⟩
   clear hnx
   exact m_ (p:=let z1:=(↑(1:Nat):Int);let z2:=[i6 g,V.im nR RR,V.im nN NN];An [_,_,_,wr .i64 ((↑(0:Nat):Int)+(1:Int))=z1,An [Zz,An [Zz,1=1,Tt],z1=z1,Tt],An [z2=z2,TT 3],An [Sm [i6 ↑L.length],Tt,Tt],Tt]) ⟨Bf hlt,Ar hlt,hld,a_⟩
  |succ k=>
   refine .inl ⟨(k+2,a++[i6 L.length]),[0,3],[As 9,pl 16,ld 17 (sl L),ap 20,nu 11 (k+2:Nat)],1000,⟨hlt,hnx.symm⟩,by dsimp only;omega,?_⟩
   clear hnx
   exact m_ (p:=let z1:=(↑(k+2):Int);let z2:=[i6 g,V.im nR RR,V.im nN NN];let z3:=[i6 ↑L.length];An [_,_,_,a.length=(k+1)*1,k+1+1<=9223372036854775807,(k+1+1)*8<=140737488355328,wr .i64 ((↑(k+1):Int)+(1:Int))=z1,An [Zz,An [Zz,Nat.succ k+1=k+1+1,Tt],z1=z1,Tt],An [z2=z2,TT 3],An [Sm (a++z3),Ba (a++z3)],Tt]) ⟨Bf hlt,Ar hlt,hld,aq,aq,aq,aq,a_,a_,⟨aq,Nb haf ⟨trivial,trivial⟩⟩,aq⟩
 .obtain rfl:k=nR:=o_
  have hI:Aa A=a:=by rw[ha,bF o_]
  rw[hI]
  clear ha hd hI
  cases k with
  |zero=>
   obtain rfl:a=[]:=aE hal
   refine .inr ⟨.exit 0,[],{sl:=[(3,.im 0 Eb)]},[no 9],1000,.inl ⟨trivial,rfl,rfl⟩,?_⟩
   exact m_ (p:=An [_,An [Zz,Tt],Tt]) ⟨Cq hlt,a_⟩
  |succ k=>
   refine .inr ⟨.exit 0,[],{sl:=[(3,.im (k+1) a)]},[no 9],1000,.inl ⟨trivial,rfl,rfl⟩,?_⟩
   exact m_ (p:=An [_,An [An [Sm (k+1),a=a,_],Tt],Tt]) ⟨Cq hlt,⟨⟨aq,aq,haf⟩,aq⟩,aq⟩
theorem Rp(A:List Int)(hA:A.length=nR)(hn:nR<=1000000)(ls:Nat->List Int)(hd: ∀k,k<nR->Ae (RR.drop (k*1))=some (sl (ls k))/\A.getD k 0=(ls k).length):Ag Pg g0 74 [.agg [i6 g,.im nR RR,.im nN NN]] (.im nR (Aa A)):=by
 have hlp:=gv g nR RR hRR nN NN hNN A hA hn ls hd
 have hAf:=Ap A
 clear hd
 generalize Aa A=L at*
 refine Ch {sl:=[(2,.im nR L)]} [(0,.loop [0] (KC g nR RR nN NN (0,[])) [(True,.exit 0,{sl:=[(3,.im nR L)]})])] ?_
 exact m_ (p:=An [Sm (V.im nR L),An [An [Zz,Tt,(↑(0:Nat):Int)=(0:Int),Tt],An [Sm [i6 g,V.im nR RR,V.im nN NN],TT 3],Tt],_,(True->An [An [An [nR=nR,L=L],Tt],Tt]),Tt]) ⟨aq,a_,hlp,a_⟩
end
def D4(R:List (List Int)):List Int:=R.map λL=>(L.length:Int)
theorem WM{k:Nat}(h:k<R.length):(D4 R).getD k 0=(R.getD k []).length:=by
 unfold D4
 rw[aA,bD,aB h,aA,aB h]
 rfl
theorem uQ{k:Nat}(h:k<N.length):(Aq N).getD k 0=(N.getD k Ao).c:=by
 unfold Aq
 rw[aA,bD,eA h]
 rfl
theorem V4(g:Int)(R:List (List Int))(N:List Mc)(hn:N.length<=1000000):Ag Pg g0 12 [Bd g R N] (sl (Aq N)):=by
 have h:=dp g R.length (Ah R) (B7 R) N.length (Ak N) (Cl N) (Aq N) (by simp[Aq]) hn (λk hk=>by rw[uQ hk];exact ML hk)
 rw[show sl (Aq N)= .im N.length (Aa (Aq N))by unfold sl;rw[show(Aq N).length=N.length by simp[Aq]]]
 exact h
theorem TU(g:Int)(R:List (List Int))(N:List Mc)(hn:R.length<=1000000):Ag Pg g0 74 [Bd g R N] (sl (D4 R)):=by
 have h:=Rp g R.length (Ah R) (B7 R) N.length (Ak N) (Cl N) (D4 R) (by simp[D4]) hn (λk=>R.getD k []) (λk hk=>⟨Pk hk,WM hk⟩)
 rw[show sl (D4 R)= .im R.length (Aa (D4 R))by unfold sl;rw[show(D4 R).length=R.length by simp[D4]]]
 exact h
def D0(L P:List Int):List Int:=P.map λp=>L.getD p.toNat 0
theorem F4(L P:List Int):(D0 L P).length=P.length:=by simp[D0]
theorem AU{L P:List Int}{k:Nat}(h:k<P.length):(D0 L P).getD k 0=L.getD (P.getD k 0).toNat 0:=by
 unfold D0
 rw[aA,bD,aB h,aA (l:=P),aB h]
 rfl
section
variable (L P:List Int) (hP: ∀k,k<P.length->0<=P.getD k 0/\P.getD k 0<L.length) (h6:P.length<=1000000)
abbrev Oy(L P:List Int)(q:Nat×List V):SL:={sl:=[(0,sl L),(1,sl P),(5,G6 0 q.1),(6,i6 q.1)],os:=Ik 3 1 q.2 q.1}
include hP h6
theorem uZ:Au Pg none 0 (aT 73 111010) (Al g0 24 (Oy L P (0,[]))) (B3 g0 24 [(True,.exit 0,{sl:=[(5,G6 0 P.length)],os:=Ik 3 1 (Aa (D0 L P)) P.length})]):=by
 have hLf:=Ap L
 have hPf:=Ap P
 refine C9 (aT 73 1110100) (λq=>q.1<=P.length/\q.2=Aa ((D0 L P).take q.1)) (Oy L P) (λq=>P.length-q.1) (λq hq=>?_) (0,[]) ⟨aG _,rfl⟩
 obtain⟨k,a⟩:=q
 obtain⟨hk,ha⟩:=hq
 dsimp only at hk ha
 have hrl:=F4 L P
 have hal:a.length=k:=by rw[ha];exact qD o_
 have haf:Ba a:=by rw[ha];exact Ap _
 by_cases hlt:k<P.length
 .have hnx:=oX (l:=D0 L P) (k:=k) o_
  rw[<-ha,AU hlt]at hnx
  have h1:=Dm hlt
  obtain⟨b1,b2⟩:=hP k hlt
  obtain⟨p,hp⟩: ∃p:Nat,P.getD k 0=p:=⟨(P.getD k 0).toNat,o_⟩
  have h2:=Dm (l:=L) (k:=p) o_
  rw[hp]at h1 hnx b2
  rw[show((p:Int)).toNat=p from rfl]at hnx
  clear ha hP hp
  generalize L.getD p 0=x at*
  cases k with
  |zero=>
   obtain rfl:a=[]:=aE hal
   refine .inl ⟨(1,[i6 x]),[1],[As 10,pl 17,ld 18 (i6 p),pl 19,ld 20 (i6 x),nu 12 (1:Nat)],1000,⟨hlt,hnx.symm⟩,by dsimp only;omega,?_⟩
   clear hnx
   exact C8 [_,_,_,An [(0:Int)<=(↑p:Int),_],_,wr .i64 ((↑(0:Nat):Int)+(1:Int))=(↑(1:Nat):Int)] ⟨Bf hlt,Ar hlt,h1,⟨aq,b2⟩,h2,aq⟩
  |succ k=>
   refine .inl ⟨(k+2,a++[i6 x]),[2],[As 10,pl 17,ld 18 (i6 p),pl 19,ld 20 (i6 x),ap 22,nu 12 (k+2:Nat)],1000,⟨hlt,hnx.symm⟩,by dsimp only;omega,?_⟩
   clear hnx
   exact m_ (p:=let z1:=(↑(k+2):Int);An [_,_,_,An [(0:Int)<=(↑p:Int),_],_,a.length=(k+1)*1,k+1+1<=9223372036854775807,(k+1+1)*8<=140737488355328,wr .i64 ((↑(k+1):Int)+(1:Int))=z1,An [An [Sm L.length,Sm (Aa L)],An [Sm P.length,Sm (Aa P)],An [Zz,Nat.succ k+1=k+1+1,Tt],z1=z1,Tt],An [Sm (a++[i6 x]),Ba (a++[i6 x])],Tt]) ⟨Bf hlt,Ar hlt,h1,⟨aq,b2⟩,h2,aq,aq,aq,aq,a_,⟨aq,Nb haf ⟨trivial,trivial⟩⟩,aq⟩
 .obtain rfl:k=P.length:=o_
  have hI:Aa (D0 L P)=a:=by rw[ha,bF o_]
  rw[hI]
  clear ha hI hP
  generalize hq:P.length=k at*
  cases k with
  |zero=>
   obtain rfl:a=[]:=aE hal
   refine .inr ⟨.exit 0,[],{sl:=[(5,.nils)]},[no 10],1000,.inl ⟨trivial,rfl,rfl⟩,?_⟩
   exact Cj [decide ((↑(0:Nat):Int)<(↑P.length:Int))=false] aq
  |succ k=>
   refine .inr ⟨.exit 0,[0],{sl:=[(5,.sl 0 0 (k+1) none)],os:=[.row 3 (some 1) a]},[no 10],1000,.inl ⟨trivial,rfl,rfl⟩,?_⟩
   exact Cj [decide ((↑(k+1):Int)<(↑P.length:Int))=false] aq
theorem lR(hm:P.length=m+1):Ac Pg g0 (.fn 73 []) [sl L,sl P] .e 0 ⟨.sl 0 0 (m+1) none,Ai .e 0 [.row 3 (some 1) (Aa (D0 L P))],1,[]⟩:=by
 have hlp:=uZ L P hP h6
 have hLf:=Ap L
 have hPf:=Ap P
 have hAf:=Ap (D0 L P)
 clear hP
 generalize Aa (D0 L P)=A at*
 rw[hm]at hlp
 refine Ac.of_vcH (P:=Pg) (E:=vE) vE_ok Bx Gy (n:=1000) (f:=73) (os0:=[]) (r:=[0]) (S:={sl:=[(4,.sl 0 0 (m+1) none)],os:=[.row 3 (some 1) A]}) (hs:=[(0,.loop [] (Oy L P (0,[])) [(True,.exit 0,{sl:=[(5,.sl 0 0 (m+1) none)],os:=[.row 3 (some 1) A]})])]) s_ (λi hi=>absurd hi (aJ _)) ?_
 exact m_ (p:=let z0:=V.sl 0 0 (m+1) none;An [z0=z0,An [An [An [Sm L.length,Sm (Aa L)],An [Sm P.length,Sm (Aa P)],Tt,(↑(0:Nat):Int)=(0:Int),Tt],Tt],Au Pg none 0 (aT 73 111010) (Al g0 24 (Oy L P (0,[]))) (B3 g0 24 [(True,Ex.exit 0,SL.mk [(5,z0)] [O.row 3 (some 1) A] [] [])]),(True->An [An [An [Zz,Sm (m+1),Tt],Tt],An [A=A,_],Tt]),Tt]) ⟨aq,a_,hlp,(λ_=>⟨a_,⟨aq,hAf⟩,aq⟩),aq⟩
end
theorem LN(L:List Int):Ag Pg g0 73 [sl L,sl []] .nils:=by
 have hLf:=Ap L
 have hlp:=uZ L [] (λk hk=>absurd hk (aJ _)) (aG _)
 refine Ch {sl:=[(4,.nils)]} [(0,.loop [] (Oy L [] (0,[])) [(True,.exit 0,{sl:=[(5,.nils)]})])] ?_
 exact m_ (p:=An [Sm V.nils,An [An [An [Sm L.length,Sm (Aa L)],An [Zz,Sm (Aa [])],Tt,(↑(0:Nat):Int)=(0:Int),Tt],Tt],Au Tryz.prog none 0 (aT 73 111010) (Al g0 24 (Oy L [] (0,[]))) (B3 g0 24 [(True,Ex.exit 0,SL.mk [(5,V.nils)] [] [] [])]),(True->An [An [Tt,Tt],Tt]),Tt]) ⟨aq,a_,hlp,a_⟩
theorem Vb(L P:List Int)(hP: ∀k,k<P.length->0<=P.getD k 0/\P.getD k 0<L.length)(h6:P.length<=1000000)(hm:P.length=m+1):Ac Pg g0 (.fn 73 []) [sl L,sl P] H nx ⟨.sl nx 0 (m+1) none,pt H nx (.row 3 (some 1) (Aa (D0 L P))),nx+1,[]⟩:=
 lK (lR L P hP h6 hm) (A8.of_hf _ ⟨trivial,trivial,trivial⟩) (Ws _)
def Eo(R:List (List Int))(N:List Mc)(x:Mc):List Int:=D0 (Aq N) x.fr++D0 (D4 R) x.no
structure Vq(R:List (List Int))(N:List Mc)(x:Mc):Prop where
 nl:N.length<=1000000
 rl:R.length<=1000000
 fr: ∀k,k<x.fr.length->0<=x.fr.getD k 0/\x.fr.getD k 0<N.length
 no: ∀k,k<x.no.length->0<=x.no.getD k 0/\x.no.getD k 0<R.length
 fl:x.fr.length<=1000
 ol:x.no.length<=1000
theorem zM(l:List Int):Bl (Aa l)=true:=by
 induction l with
 |nil=>rfl
 |cons x l ih=>exact ih
theorem Yv(R:List (List Int)):(D4 R).length=R.length:=by simp[D4]
theorem tC{l:List Int}(hg:gt H h=some (.row t sp (Aa l)))(hn:l.length=n):A6 H 1 (.sl h 0 n room)=some (n,Aa l):=by
 grind[Cm,A6,F5,Nat.ble_eq_true_of_le]
section
variable (g:Int) (R:List (List Int)) (N:List Mc) (x:Mc) (v:Nat) (hx:N[v]? =some x) (ok:Vq R N x)
include hx ok
theorem pC(h1:x.fr=[])(h2:x.no=[]):Ag Pg g0 36 [Bd g R N,i6 v] .nils:=by
 have hc:Ag Pg g0 12 [.agg [i6 g,.im R.length (Ah R),.im N.length (Ak N)]] (sl (Aq N)):=V4 g R N ok.nl
 have hl:Ag Pg g0 74 [.agg [i6 g,.im R.length (Ah R),.im N.length (Ak N)]] (sl (D4 R)):=TU g R N ok.rl
 have hv:=(aM.1 hx).1
 have hd:=P2 hx
 have hRR:=B7 R
 have hNN:=Cl N
 have a1:=LN (Aq N)
 have a2:=LN (D4 R)
 obtain⟨c,fr,nz,ou⟩:=x
 dsimp only at h1 h2
 subst h1 h2
 clear ok hx
 have hc1:=Ap (Aq N)
 have hl1:=Ap (D4 R)
 generalize Aq N=C,D4 R=L at*
 have hX:=Cl (N.drop (v+1))
 unfold Fq at hd
 generalize Ak (N.drop (v+1))=X at*
 show Ag Pg g0 36 [.agg [i6 g,.im R.length (Ah R),.im N.length (Ak N)],i6 v] .nils
 generalize Ah R=RR,Ak N=NN,R.length=nR,N.length=nN at*
 refine Ch {sl:=[(4,.nils)]} [fn 6 (sl C),pl 10,ld 12 (sl []),fn 13 .nils,fn 15 (sl L),pl 19,ld 21 (sl []),fn 22 .nils] ?_
 exact Hu (let z3:=List.drop (v*4) NN;let z0:=pt T.e 0 (O.row 34 none [i6 g,V.im nR RR,V.im nN NN]);[Sm V.nils,_,_,Ae (List.drop 1 z3)=some (sl []),Ag Tryz.prog g0 73 [V.im C.length (Aa C),V.im 0 (Aa [])] V.nils,_,_,Ae (List.drop 2 z3)=some (sl []),Ag Tryz.prog g0 73 [V.im L.length (Aa L),V.im 0 (Aa [])] V.nils,V.fn 73 []=V.fn 73 []->[sl C,sl []]=[sl L,sl []]->z0=z0->0+1=1->Sm (CR.mk V.nils z0 1 [])]) ⟨aq,hc,Ar hv,(by(rw[hd];rfl)),aq,hl,Ar hv,(by(rw[hd];rfl)),a_⟩
theorem pB(hm:(Eo R N x).length=m+1):Ac Pg g0 (.fn 36 []) [Bd g R N,i6 v] .e 0 ⟨.sl 0 0 (m+1) none,Ai .e 0 [.row 3 (some 1) (Aa (Eo R N x))],1,[]⟩:=by
 have hc:Ag Pg g0 12 [.agg [i6 g,.im R.length (Ah R),.im N.length (Ak N)]] (sl (Aq N)):=V4 g R N ok.nl
 have hl:Ag Pg g0 74 [.agg [i6 g,.im R.length (Ah R),.im N.length (Ak N)]] (sl (D4 R)):=TU g R N ok.rl
 have hv:=(aM.1 hx).1
 have hd:=P2 hx
 have hRR:=B7 R
 have hNN:=Cl N
 have a1:=LN (Aq N)
 have a2:=LN (D4 R)
 obtain⟨_,_,hfr,hno,h1,h2⟩:=ok
 have b1:=λ(m:Nat) hm(H:T O)(nx:Nat)=>Vb (Aq N) x.fr (by grind[Eg]) o_ (m:=m) hm (H:=H) (nx:=nx)
 have b2:=λ(m:Nat) hm(H:T O)(nx:Nat)=>Vb (D4 R) x.no (by grind[Yv]) o_ (m:=m) hm (H:=H) (nx:=nx)
 obtain⟨c,fr,nz,ou⟩:=x
 unfold Eo at hm⊢
 dsimp only at*
 have l1:=F4 (Aq N) fr
 have l2:=F4 (D4 R) nz
 rw[aR,l1,l2]at hm
 clear hx hfr hno
 have hc1:=Ap (Aq N)
 have hl1:=Ap (D4 R)
 generalize D0 (Aq N) fr=A at*
 generalize D0 (D4 R) nz=B at*
 generalize Aq N=C at*
 generalize D4 R=L at*
 have hX:=Cl (N.drop (v+1))
 unfold Fq at hd
 generalize Ak (N.drop (v+1))=X at*
 show Ac Pg g0 (.fn 36 []) [.agg [i6 g,.im R.length (Ah R),.im N.length (Ak N)],i6 v] _ _ _
 generalize Ah R=RR at*
 generalize Ak N=NN at*
 generalize R.length=nR at*
 generalize N.length=nN at*
 have hAB:=Ap (A++B)
 have hF:=Ap fr
 have hZ:=Ap nz
 have hhd1:Ae (Af 1 ([i6 c,sl fr,sl nz,sl ou]++X))=some (sl fr):=rfl
 cases fr with
 | nil =>
  obtain rfl:A=[]:=aE l1
  cases nz with
  |nil=>simp at hm
  |cons z nz=>
   obtain rfl:nz.length=m:=by simp_all
   rw[eZ]at*
   have hs:=λH h=>tC (H:=H) (h:=h) (n:=nz.length+1) (t:=3) (sp:=some 1) (room:=none) (l:=B) (hn:=by rw[l2];rfl)
   have b2:=λH nx=>b2 nz.length rfl H nx
   refine Ac.of_vcH (P:=Pg) (E:=vE) vE_ok Bx Gy (n:=1000) (f:=36) (os0:=[]) (r:=[2]) (S:={sl:=[(4,.sl 0 0 (nz.length+1) none)],os:=[.row 3 (some 1) (Aa B)]}) (hs:=[fn 6 (sl C),pl 10,ld 12 (sl []),fn 13 .nils,fn 15 (sl L),pl 19,ld 21 (sl (z::nz)),(22,.call ⟨.sl 1 0 (nz.length+1) none,pt (Ai .e 0 [Di g nR RR nN NN]) 1 (.row 3 (some 1) (Aa B)),2,[]⟩),(23,.an (nz.length+1) (Aa B))]) s_ (λi hi=>absurd hi (aJ _)) ?_
   clear hm l1 b1
   have h3:nz.length+1<=1000:=h2
   exact m_ (p:=let z1:=pt (Ai T.e 0 [Di g nR RR nN NN]) 1 (O.row 3 (some 1) (Aa B));let z2:=V.sl 1 0 (nz.length+1) none;let z5:=V.sl 0 0 (nz.length+1) none;let z6:=List.drop (v*4) NN;let z7:=sl (z::nz);let z3:=O.row 34 none [i6 g,V.im nR RR,V.im nN NN];An [z5=z5,_,_,Ae (List.drop 1 z6)=some (sl []),Ag Pg g0 73 [V.im C.length (Aa C),V.im 0 (Aa [])] V.nils,_,_,Ae (List.drop 2 z6)=some z7,Ac Pg g0 (V.fn 73 []) [sl L,z7] (pt (Ai T.e 0 []) 0 z3) 1 (CR.mk z2 z1 2 []),V.fn 73 []=V.fn 73 []->[sl C,sl []]=[sl L,z7]->pt (Ai T.e 0 []) 0 z3=pt (Ai T.e 0 []) 0 z3->0+1=1->CR.mk V.nils (pt (Ai T.e 0 []) 0 z3) 1 []=CR.mk z2 z1 2 [],An [A6 z1 1 z2=some (nz.length+1,Aa B),nz.length+1<=9223372036854775807,(nz.length+1)*8<=140737488355328],An [An [Zz,Sm (nz.length+1),Tt],Tt],An [Sm (Aa B),_],Tt]) ⟨aq,hc,Ar hv,(by(rw[hd];rfl)),aq,hl,Ar hv,(by(rw[hd];rfl)),b2 _ _,aq,⟨hs _ _ rfl,a_⟩,a_,⟨aq,hAB⟩,aq⟩
 | cons y fr =>
  have b1:=λH nx=>b1 fr.length rfl H nx
  cases nz with
  |nil=>
   obtain rfl:B=[]:=aE l2
   rw[aV]at*
   obtain rfl:fr.length=m:=by simp_all
   refine Ac.of_vcH (P:=Pg) (E:=vE) vE_ok Bx Gy (n:=1000) (f:=36) (os0:=[]) (r:=[1]) (S:={sl:=[(4,.sl 0 0 (fr.length+1) none)],os:=[.row 3 (some 1) (Aa A)]}) (hs:=[fn 6 (sl C),pl 10,ld 12 (sl (y::fr)),(13,.call ⟨.sl 1 0 (fr.length+1) none,pt (Ai .e 0 [Di g nR RR nN NN]) 1 (.row 3 (some 1) (Aa A)),2,[]⟩),fn 15 (sl L),pl 19,ld 21 (sl []),fn 22 .nils]) s_ (λi hi=>absurd hi (aJ _)) ?_
   clear hm l2 b2
   exact m_ (p:=let z0:=pt (Ai T.e 0 [Di g nR RR nN NN]) 1 (O.row 3 (some 1) (Aa A));let z1:=[i6 g,V.im nR RR,V.im nN NN];let z2:=V.sl 1 0 (fr.length+1) none;let z4:=V.sl 0 0 (fr.length+1) none;let z5:=List.drop (v*4) NN;let z6:=sl (y::fr);An [z4=z4,_,_,Ae (List.drop 1 z5)=some z6,Ac Pg g0 (V.fn 73 []) [sl C,z6] (pt (Ai T.e 0 []) 0 (O.row 34 none z1)) 1 (CR.mk z2 z0 2 []),_,_,Ae (List.drop 2 z5)=some (sl []),Ag Pg g0 73 [V.im L.length (Aa L),V.im 0 (Aa [])] V.nils,V.fn 73 []=V.fn 73 []->[sl C,z6]=[sl L,sl []]->pt (Ai T.e 0 []) 0 (O.row 34 none z1)=z0->0+1=2->CR.mk z2 z0 2 []=CR.mk V.nils z0 2 [],An [An [Zz,Sm (fr.length+1),Tt],Tt],An [Sm (Aa A),_],Tt]) ⟨aq,hc,Ar hv,(by(rw[hd];rfl)),b1 _ _,hl,Ar hv,(by(rw[hd];rfl)),aq,aq,a_,⟨aq,hAB⟩,aq⟩
  |cons z nz=>
   obtain rfl:m=fr.length+1+nz.length:=by grind
   have hs:=λH h=>tC (H:=H) (h:=h) (n:=nz.length+1) (t:=3) (sp:=some 1) (room:=none) (l:=B) (hn:=by rw[l2];rfl)
   have b2:=λH nx=>b2 nz.length rfl H nx
   have e1:Aa (A++B)=Aa A++Aa B:=by unfold Aa;rw[bP]
   have lA:(Aa A).length=fr.length+1:=by rw[F5,l1];rfl
   rw[e1]at hAB⊢
   refine Ac.of_vcH (P:=Pg) (E:=vE) vE_ok Bx Gy (n:=1000) (f:=36) (os0:=[]) (r:=[3]) (S:={sl:=[(4,.sl 0 0 (fr.length+1+(nz.length+1)) none)],os:=[.row 3 (some 1) (Aa A++Aa B)]}) (hs:=[fn 6 (sl C),pl 10,ld 12 (sl (y::fr)),(13,.call ⟨.sl 1 0 (fr.length+1) none,pt (Ai .e 0 [Di g nR RR nN NN]) 1 (.row 3 (some 1) (Aa A)),2,[]⟩),fn 15 (sl L),pl 19,ld 21 (sl (z::nz)),(22,.call ⟨.sl 2 0 (nz.length+1) none,pt (pt (Ai .e 0 [Di g nR RR nN NN]) 1 (.row 3 (some 1) (Aa A))) 2 (.row 3 (some 1) (Aa B)),3,[]⟩),(23,.aop (.row 3 (some 1) (Aa A)) (nz.length+1) (Aa B))]) s_ (λi hi=>absurd hi (aJ _)) ?_
   have atB:Bl (Aa B)=true:=zM B
   clear hm
   simp only[bZ]at h1 h2
   generalize fr.length=p1 at*
   generalize nz.length=p2 at*
   exact m_ (p:=let z2:=[i6 g,V.im nR RR,V.im nN NN];let z3:=V.sl 2 0 (p2+1) none;let z5:=O.row 3 (some 1) (Aa A);let z6:=V.sl 1 0 (p1+1) none;let z7:=List.drop (v*4) NN;let z8:=sl (y::fr);let z9:=sl (z::nz);let z0:=pt (Ai T.e 0 [Di g nR RR nN NN]) 1 z5;let z1:=pt z0 2 (O.row 3 (some 1) (Aa B));An [V.sl 0 0 (p1+1+(p2+1)) none=V.sl 0 0 (p1+1+p2+1) none,_,_,Ae (List.drop 1 z7)=some z8,Ac Pg g0 (V.fn 73 []) [sl C,z8] (pt (Ai T.e 0 []) 0 (O.row 34 none z2)) 1 (CR.mk z6 z0 2 []),_,_,Ae (List.drop 2 z7)=some z9,Ac Pg g0 (V.fn 73 []) [sl L,z9] z0 2 (CR.mk z3 z1 3 []),V.fn 73 []=V.fn 73 []->[sl C,z8]=[sl L,z9]->pt (Ai T.e 0 []) 0 (O.row 34 none z2)=z0->0+1=2->CR.mk z6 z0 2 []=CR.mk z3 z1 3 [],A6 z1 1 z3=some (p2+1,Aa B),An [gt z1 1=some z5,List.length (Aa A)=(p1+1)*1,1<=p2+1,p1+1+(p2+1)<=9223372036854775807,(p1+1+(p2+1))*8<=140737488355328,_],An [An [Zz,Sm (p1+1+(p2+1)),Tt],Tt],An [Sm (Aa A++Aa B),_],Tt]) ⟨aq,hc,Ar hv,(by(rw[hd];rfl)),b1 _ _,hl,Ar hv,(by(rw[hd];rfl)),aq,aq,hs _ _ rfl,⟨(by rfl),aq,aq,aq,aq,atB⟩,a_,⟨aq,hAB⟩,aq⟩
end
def Aw(cs:List Int):Nat->Int
 |0=>1
 |k+1=>Aw cs k*cs.getD k 0
theorem MS{l:List Int}{k:Nat}{x:Int}(h:k<l.length):(l.set k x).getD k 0=x:=by
 rw[aA,List.getElem?_set_self h];rfl
theorem EE{l:List Int}{k j:Nat}{x:Int}(h:k≠j):(l.set k x).getD j 0=l.getD j 0:=by
 rw[aA,List.getElem?_set_ne h,<-aA]
def E1(cs:List Int):List Int->Nat->List Int
 |vs,0=>vs
 |vs,k+1=>if vs.getD k 0=cs.getD k 0-1 then E1 cs (vs.set k 0) k else vs.set k (vs.getD k 0+1)
def Il(cs:List Int):List Int->Nat->Bool
 | _,0=>false
 |vs,k+1=>if vs.getD k 0=cs.getD k 0-1 then Il cs (vs.set k 0) k else true
theorem tF(cs:List Int): ∀(k:Nat)(vs:List Int),(E1 cs vs k).length=vs.length
 |0,_=>rfl
 |k+1,vs=>by
  unfold E1
  split
  .rw[tF cs k];simp
  .simp
def Co(cs vs:List Int)(k:Nat):Prop:=∀i,i<k->0<=vs.getD i 0/\vs.getD i 0<cs.getD i 0
def Bk(cs vs:List Int):Nat->Int
 |0=>0
 |k+1=>Bk cs vs k*cs.getD k 0+vs.getD k 0
theorem oL: ∀{k j:Nat}{vs:List Int}{x:Int},k<=j->Bk cs (vs.set j x) k=Bk cs vs k
 |0,_,_,_,_=>rfl
 |k+1,j,vs,x,h=>by
  unfold Bk
  rw[oL o_,EE o_]
theorem mR{cs:List Int}: ∀{k:Nat}{vs:List Int},Co cs vs k->0<=Bk cs vs k/\Bk cs vs k<Aw cs k
 |0,_,_=>⟨Int.le_refl _,by show(0:Int)<1;decide⟩
 |k+1,vs,h=>by
  have ih:=@mR cs k vs (λi hi=>h i o_)
  have hk:=h k o_
  have h1:=bY ih.1 (show 0<=cs.getD k 0 by omega)
  have h2:=bL (show Bk cs vs k+1<=Aw cs k by omega) (show 0<=cs.getD k 0 by omega)
  rw[dS]at h2
  unfold Bk Aw
  omega
theorem mL{cs:List Int}: ∀{k:Nat}{vs:List Int},Co cs vs k->k<=vs.length->(Il cs vs k=true->Co cs (E1 cs vs k) k/\Bk cs (E1 cs vs k) k=Bk cs vs k+1)/\(Il cs vs k=false->Bk cs vs k+1=Aw cs k)
 |0,vs,_,_=>⟨λh=>(by cases h),λ_=>rfl⟩
 | k + 1, vs, h, hl => by
  have hk:=h k o_
  have hr:Co cs vs k:=λi hi=>h i o_
  unfold Il E1
  by_cases he:vs.getD k 0=cs.getD k 0-1
  .rw[if_pos he,if_pos he]
   have hs:Co cs (vs.set k 0) k:=λi hi=>by rw[EE o_];exact hr i hi
   have ih:=@mL cs k (vs.set k 0) hs (by simp;omega)
   rw[oL (aC _)]at ih
   have hg: ∀(k':Nat)(w:List Int),k'<=k->(E1 cs w k').getD k 0=w.getD k 0:=by
    intro k'
    induction k' with
    |zero=>intro w _;rfl
    |succ k' ihk=>
     intro w hw
     unfold E1
     split
     .rw[ihk _ o_,EE o_]
     .rw[EE o_]
   have hz:(E1 cs (vs.set k 0) k).getD k 0=0:=by rw[hg k _ (aC _),MS o_]
   refine⟨λhb=>?_,λhb=>?_⟩
   .obtain⟨h1,h2⟩:=ih.1 hb
    refine⟨λi hi=>?_,?_⟩
    .by_cases hik:i=k
     .subst hik;rw[hz];omega
     .exact h1 i o_
    .unfold Bk
     rw[h2,hz,he,dS]
     omega
   .have h2:=ih.2 hb
    unfold Bk Aw
    rw[<-h2,he,dS]
    omega
  .rw[if_neg he,if_neg he]
   refine⟨λ_=>⟨λi hi=>?_,?_⟩,λhb=>by cases hb⟩
   .by_cases hik:i=k
    .subst hik;rw[MS o_];omega
    .rw[EE o_];exact h i hi
   .unfold Bk
    rw[oL (aC _),MS o_]
    omega
def A7(cs:List Int):Nat->List Int
 |0=>List.replicate cs.length 0
 |j+1=>E1 cs (A7 cs j) cs.length
theorem Li(cs:List Int): ∀j,(A7 cs j).length=cs.length
 |0=>by simp[A7]
 |j+1=>by rw[A7,tF,Li cs j]
theorem wF(n k:Nat):(List.replicate n (0:Int)).getD k 0=0:=by
 rw[aA,List.getElem?_replicate];split<;>rfl
theorem xX(cs:List Int): ∀k,Bk cs (List.replicate cs.length 0) k=0
 |0=>rfl
 |k+1=>by unfold Bk;rw[xX cs k,wF];simp
theorem Pv{cs:List Int}(hc: ∀i,i<cs.length->1<=cs.getD i 0): ∀{j:Nat},(j:Int)<Aw cs cs.length->Co cs (A7 cs j) cs.length/\Bk cs (A7 cs j) cs.length=j
 |0,_=>⟨λi hi=>by rw[A7,wF];have:=hc i hi;omega,by rw[A7,xX];rfl⟩
 |j+1,h=>by
  obtain⟨h1,h2⟩:=@Pv cs hc j o_
  have hs:=mL h1 (by rw[Li];exact aC _)
  cases hb:Il cs (A7 cs j) cs.length with
  |true=>obtain⟨a,b⟩:=hs.1 hb;exact⟨a,by rw[A7,b,h2];omega⟩
  |false=>have:=hs.2 hb;omega
theorem xH{cs:List Int}(hc: ∀i,i<cs.length->1<=cs.getD i 0){j:Nat}(h:(j:Int)<Aw cs cs.length):Il cs (A7 cs j) cs.length=decide ((j:Int)+1<Aw cs cs.length):=by
 obtain⟨h1,h2⟩:=Pv hc h
 have hs:=mL h1 (by rw[Li];exact aC _)
 cases hb:Il cs (A7 cs j) cs.length with
 |true=>
  obtain⟨a,b⟩:=hs.1 hb
  have:=mR a
  rw[decide_eq_true o_]
 |false=>
  have:=hs.2 hb
  rw[decide_eq_false o_]
def K6(cs:List Int):List Int->Nat->Nat
 | _,0=>0
 |vs,k+1=>if vs.getD k 0=cs.getD k 0-1 then K6 cs (vs.set k 0) k else k+1
theorem CH{cs:List Int}: ∀{k:Nat}{vs:List Int},(Il cs vs k=true->1<=K6 cs vs k)/\(Il cs vs k=false->K6 cs vs k=0)
 |0,vs=>⟨λh=>(by cases h),λ_=>rfl⟩
 | k + 1, vs => by
  unfold Il K6
  by_cases he:vs.getD k 0=cs.getD k 0-1
  .rw[if_pos he,if_pos he]
   exact @CH cs k (vs.set k 0)
  .rw[if_neg he,if_neg he]
   exact⟨λ_=>o_,λh=>by cases h⟩
def Ax(cs:List Int)(s:Nat):List Int:=(List.range cs.length).map λi=>if s.testBit i then cs.getD i 0 else 1
theorem Mb{s:Nat}:(Ax cs s).length=cs.length:=by simp[Ax]
theorem Vz{s:Nat}(h:i<cs.length):(Ax cs s).getD i 0=if s.testBit i then cs.getD i 0 else 1:=by
 unfold Ax
 rw[aA,bD,aB (by simpa using h)]
 simp
theorem lF{s:Nat}(hc: ∀i,i<cs.length->1<=cs.getD i 0/\cs.getD i 0<=4): ∀i,i<cs.length->1<=(Ax cs s).getD i 0/\(Ax cs s).getD i 0<=4:=λi hi=>by
 rw[Vz hi]
 split
 .exact hc i hi
 .omega
theorem TV(hc: ∀i,i<cs.length->1<=cs.getD i 0/\cs.getD i 0<=4): ∀k,k<=cs.length->1<=Aw cs k/\Aw cs k<=4^k
 |0,_=>by simp[Aw]
 |k+1,h=>by
  obtain⟨h1,h2⟩:=TV hc k o_
  obtain⟨h3,h4⟩:=hc k o_
  show 1<=Aw cs k*cs.getD k 0/\Aw cs k*cs.getD k 0<=4^(k+1)
  rw[cV]
  generalize Aw cs k=a,cs.getD k 0=c at*
  refine⟨?_,bC h2 h4 o_ o_⟩
  have:=bC h1 h3 o_ (show 0<=a by omega)
  simpa using this
theorem set_same{l:List Int}{k:Nat}{x:Int}(h:l.getD k 0=x):l.set k x=l:=by
 apply cD
 intro i
 rw[bV]
 by_cases hk:k=i
 .subst hk
  rw[if_pos rfl]
  by_cases hl:k<l.length
  .rw[if_pos hl,aB hl]
   rw[aA,aB hl]at h
   exact congrArg some h.symm
  .rw[if_neg hl,aX o_]
 .rw[if_neg hk]
theorem Oa(s k:Nat):(s.testBit k=true↔s/2^k%2=1)/\(s.testBit k=false↔s/2^k%2=0):=by
 rw[Nat.testBit_eq_decide_div_mod_eq]
 have:=aY (s/2^k) (show 0<2 by decide)
 constructor
 .exact⟨λh=>of_decide_eq_true h,λh=>decide_eq_true h⟩
 .exact⟨λh=>by have:=of_decide_eq_false h;omega,λh=>decide_eq_false o_⟩
theorem wC{l:List Int}{k:Nat}(h:k<l.length):Ae (Af (0+k*1) (Aa l))=some (i6 (l.getD k 0)):=by
 grind[Om,Dm]
abbrev Ye(l:List Int):List O:=[.row 3 (some 1) (Aa l)]
abbrev iK(cs:List Int)(q:Nat)(p:Nat×List Int):SL:={sl:=[(0,.im q (Aa cs)),(6,.sl 0 0 q none),(7,i6 ((p.1:Int)-1))],os:=Ye p.2}
theorem gu(cs vs:List Int)(q:Nat)(h1:cs.length=q)(h2:vs.length=q)(h12:q<=12)(hc: ∀i,i<q->1<=cs.getD i 0/\cs.getD i 0<=8)(hval:Co cs vs q):
  Au Pg none 0 (aT 72 1111010) (Al g0 40 (iK cs q (q,vs))) (B3 g0 40 [(Il cs vs q=true,.ret,{sl:=[(4,.sl 0 0 q none),(5,.bool true)],os:=Ye (E1 cs vs q)}),(Il cs vs q=false,.exit 0,{sl:=[(6,.sl 0 0 q none)],os:=Ye (E1 cs vs q)})]):=by
 refine C9 (aT 72 11110100) (λp=>p.1<=q/\p.2.length=q/\Co cs p.2 q/\E1 cs p.2 p.1=E1 cs vs q/\Il cs p.2 p.1=Il cs vs q) (iK cs q) (λp=>p.1) (λp hp=>?_) (q,vs) ⟨aC _,h2,hval,rfl,rfl⟩
 obtain⟨k,row⟩:=p
 obtain⟨hk,hl,hvr,e1,e2⟩:=hp
 dsimp only at hk hl hvr e1 e2
 have hH:=Ap (E1 cs vs q)
 cases k with
 |zero=>
  have e3:E1 cs row 0=row:=rfl
  rw[<-e1,<-e2,e3]
  have hH1:=Ap row
  refine .inr ⟨.exit 0,[0],{sl:=[(6,.sl 0 0 q none)],os:=Ye row},[],1000,.inr (.inl ⟨rfl,rfl,rfl⟩),?_⟩
  clear hvr hc e1 e2
  exact Cj [] trivial
 | succ k =>
  have hb:=hvr k o_
  have hcb:=hc k o_
  have g1:=@wC row k o_
  have g2:=@Dm cs k o_
  have g3:=@wC (row.set k (row.getD k 0+1)) k (by simp;omega)
  rw[MS o_]at g3
  have l1:=@Ie row k (row.getD k 0+1) o_
  have hz:((k+1:Nat):Int)-1=(k:Nat):=o_
  by_cases he:row.getD k 0=cs.getD k 0-1
  .have e3:E1 cs row (k+1)=E1 cs (row.set k 0) k:=by conv=>lhs;unfold E1;rw[if_pos he]
   have e4:Il cs row (k+1)=Il cs (row.set k 0) k:=by conv=>lhs;unfold Il;rw[if_pos he]
   have l2:=@Ie (row.set k (row.getD k 0+1)) k 0 (by simp;omega)
   rw[List.set_set]at l2
   have hH2:=Ap (row.set k 0)
   refine .inl ⟨(k,row.set k 0),[0],[pl 22,ld 23 (i6 (row.getD k 0)),nu 24 (row.getD k 0+1),pl 25,st (Aa (row.set k (row.getD k 0+1))),pl 28,ld 29 (i6 (row.getD k 0+1)),pl 32,ld 33 (i6 (cs.getD k 0)),no 34,pl 38,st (Aa (row.set k 0)),nu 17 ((k:Int)-1)],1000,⟨o_,by simpa using hl,λi hi=>by
    by_cases hik:k=i
    .grind
    .dsimp only;rw[EE hik];exact hvr i hi,by simp_all,by simp_all⟩,o_,?_⟩
   show vc _ _ _ _ _ _ _ _ (Al g0 40 {sl:=[(0,.im q (Aa cs)),(6,.sl 0 0 q none),(7,i6 (((k+1:Nat):Int)-1))],os:=Ye row}) _
   rw[hz]
   clear hvr hc e1 e2 e3 e4 hval
   exact C8 (let z4:=(1:Int);let z0:=List.getD row k (0:Int);[_,_,wr .i64 (z0+z4)=z0+z4,_,_,_,_,_,_,decide (z0+z4<List.getD cs k (0:Int))=false,_,_,wr .i64 ((↑k:Int)-z4)=(↑k:Int)-z4]) ⟨Ar hk,g1,aq,Ar hk,l1,Ar hk,g3,Ar hk,g2,aq,Ar hk,l2,aq⟩
  .have e3:E1 cs row (k+1)=row.set k (row.getD k 0+1):=by conv=>lhs;unfold E1;rw[if_neg he]
   have e4:Il cs row (k+1)=true:=by conv=>lhs;unfold Il;rw[if_neg he]
   rw[<-e1,<-e2,e3,e4]
   have hH2:=Ap (row.set k (row.getD k 0+1))
   refine .inr ⟨.ret,[0],{sl:=[(4,.sl 0 0 q none),(5,.bool true)],os:=Ye (row.set k (row.getD k 0+1))},[pl 22,ld 23 (i6 (row.getD k 0)),nu 24 (row.getD k 0+1),pl 25,st (Aa (row.set k (row.getD k 0+1))),pl 28,ld 29 (i6 (row.getD k 0+1)),pl 32,ld 33 (i6 (cs.getD k 0)),As 34],1000,.inl ⟨rfl,rfl,rfl⟩,?_⟩
   show vc _ _ _ _ _ _ _ _ (Al g0 40 {sl:=[(0,.im q (Aa cs)),(6,.sl 0 0 q none),(7,i6 (((k+1:Nat):Int)-1))],os:=Ye row}) _
   rw[hz]
   clear hvr hc e1 e2 e3 e4 hval
   exact Cj (let z2:=List.getD row k (0:Int);[_,_,wr .i64 (z2+(1:Int))=z2+(1:Int),_,_,_,_,_,_,decide (z2+(1:Int)<List.getD cs k (0:Int))=true]) ⟨Ar hk,g1,aq,Ar hk,l1,Ar hk,g3,Ar hk,g2,aq⟩
theorem Ro(cs vs:List Int)(q:Nat)(h1:cs.length=q)(h2:vs.length=q)(h12:q<=12)(hc: ∀i,i<q->1<=cs.getD i 0/\cs.getD i 0<=8)(hval:Co cs vs q):Ag Pg g0 72 [.im q (Aa cs),.im q (Aa vs)] (.tup [.im q (Aa (E1 cs vs q)),.bool (Il cs vs q)]):=by
 cases q with
 |zero=>
  have z1:cs=[]:=aE h1
  have z2:vs=[]:=aE h2
  subst z1 z2
  show Ag Pg g0 72 [.im 0 [],.im 0 []] (.tup [.im 0 [],.bool false])
  refine Ch {sl:=[(4,.im 0 []),(5,.bool false)]} [(0,.unroll 1)] ?_
  exact m_ (p:=An [Sm (V.tup [V.im 0 [],V.bool false]),An [Zz,Sm false,Tt],Tt]) a_
 | succ k =>
  have l:=gu cs vs (k+1) h1 h2 h12 hc hval
  have hsrc: ∀H':T O,A6 H' 1 (.im (k+1) (Aa vs))=some (k+1,Aa vs):=λH'=>by
   grind[A6,F5,Nat.ble_eq_true_of_le]
  have hH:=Ap vs
  have hH2:=Ap (E1 cs vs (k+1))
  clear hc hval
  refine Ch {sl:=[(4,.im (k+1) (Aa (E1 cs vs (k+1)))),(5,.bool (Il cs vs (k+1)))]} [(10,.an (k+1) (Aa vs)),nu 13 k,(0,.loop [0] (iK cs (k+1) (k+1,vs)) [(Il cs vs (k+1)=true,.ret,{sl:=[(4,.sl 0 0 (k+1) none),(5,.bool true)],os:=Ye (E1 cs vs (k+1))}),(Il cs vs (k+1)=false,.exit 0,{sl:=[(6,.sl 0 0 (k+1) none)],os:=Ye (E1 cs vs (k+1))})])] ?_
  generalize E1 cs vs (k+1)=V at*
  exact m_ (p:=let z3:=An [Sm (k+1),Sm (Aa V),Ba (Aa V)];let z0:=Il cs vs (k+1);let z1:=Am.V.tup [Am.V.im (k+1) (Aa V),Am.V.bool z0];An [z1=z1,An [A6 T.e 1 (Am.V.im (k+1) (Aa vs))=some (k+1,Aa vs),k+1<=9223372036854775807,(k+1)*8<=140737488355328],wr .i64 ((↑(k+1):Int)-(1:Int))=(↑k:Int),An [An [An [Sm (k+1),Sm (Aa cs)],An [Zz,Sm (k+1),Tt],(↑(k+1):Int)-(1:Int)=(↑k:Int),Tt],An [Sm (Aa vs),_],Tt],_,z0=true->An [An [z3,z0=true,Tt],Tt],z0=false->An [An [z3,z0=false,Tt],Tt],Tt]) ⟨aq,a_,aq,⟨a_,⟨aq,hH⟩,aq⟩,l,a_⟩
def E6(cs:List Int)(P:Nat):List (List Int):=(List.range P).map (A7 cs)
theorem XT(cs:List Int)(P:Nat):(E6 cs P).length=P:=by simp[E6]
theorem nI{P k:Nat}(h:k<P):(E6 cs P).getD k []=A7 cs k:=by
 grind[E6]
theorem U1(cs:List Int)(j:Nat):Ah (E6 cs (j+1))=Ah (E6 cs j)++[sl (A7 cs j)]:=by
 grind[E6,Ah,List.range_succ]
abbrev kN(cs:List Int)(q:Nat)(p:Nat×Bool):SL:={sl:=[(0,.im q (Aa cs)),(3,G6 0 p.1),(4,.im q (Aa (A7 cs p.1))),(5,.bool p.2)],os:=Ik 47 1 (Ah (E6 cs p.1)) p.1}
theorem dq(cs:List Int)(q:Nat)(hq:cs.length=q)(h12:q<=12)(hc: ∀i,i<q->1<=cs.getD i 0/\cs.getD i 0<=8)(P:Nat)(hP:(P:Int)=Aw cs q)(hP0:1<=P)(hPb:P<=4096):
  Au Pg none 0 (aT 35 1111100) (Al g0 21 (kN cs q (0,true))) (B3 g0 21 [(True,.exit 0,{sl:=[(3,.im P (Ah (E6 cs P)))]})]):=by
 refine C9 (aT 35 11111000) (λp=>p.1<=P/\p.2=decide (p.1<P)) (kN cs q) (λp=>(P-p.1)+(if p.2 then 1 else 0)) (λp hp=>?_) (0,true) ⟨aG _,by grind⟩
 obtain⟨j,b⟩:=p
 obtain⟨hj,hb⟩:=hp
 dsimp only at hj hb
 have hH:=B7 (E6 cs j)
 have hH1:=B7 (E6 cs (j+1))
 cases b with
 | true =>
  have hlt:j<P:=of_decide_eq_true hb.symm
  obtain⟨hval,_⟩:=@Pv cs (λi hi=>(hc i o_).1) j (by rw[hq];omega)
  have hmore:=@xH cs (λi hi=>(hc i o_).1) j (by rw[hq];omega)
  have hl:=Li cs j
  rw[hq]at hval hmore hl
  have hn:=Ro cs (A7 cs j) q hq hl h12 hc hval
  rw[show E1 cs (A7 cs j) q=A7 cs (j+1)by rw[A7,hq],hmore]at hn
  have hb2:decide ((j:Int)+1<Aw cs q)=decide (j+1<P):=by rw[<-hP];congr 1;exact propext ⟨λh=>o_,λh=>o_⟩
  rw[hb2]at hn
  have hs:=U1 cs j
  rw[show sl (A7 cs j)= .im q (Aa (A7 cs j))by simp_all]at hs
  have hlen:(Ah (E6 cs j)).length=j:=by unfold Ah;rw[fA,XT]
  have hm:P-(j+1)+(if decide (j+1<P)=true then 1 else 0)<P-j+(if true=true then 1 else 0):=by split<;>simp<;>omega
  cases j with
  |zero=>
   refine .inl ⟨(1,decide (0+1<P)),[1],[fn 17 (.tup [.im q (Aa (A7 cs (0+1))),.bool (decide (0+1<P))])],1000,⟨hlt,rfl⟩,hm,?_⟩
   clear hval hmore hc hb2 hm
   generalize decide (0+1<P)=b' at*
   exact m_ (p:=let z0:=Aa (A7 cs 1);An [_,An [An [q=q,Sm (Aa cs)],An [Zz,1=1,Tt],An [q=q,z0=z0],b'=b',Tt],An [Ah (E6 cs 1)=[(V.im q (Aa (A7 cs 0)))],Tt,Tt],Tt]) ⟨hn,a_⟩
  |succ j=>
   refine .inl ⟨(j+1+1,decide (j+1+1<P)),[2],[ap 13,fn 17 (.tup [.im q (Aa (A7 cs (j+1+1))),.bool (decide (j+1+1<P))])],1000,⟨hlt,rfl⟩,hm,?_⟩
   clear hval hmore hc hb2 hm
   generalize decide (j+1+1<P)=b' at*
   exact m_ (p:=let z0:=Aa (A7 cs (j+1+1));An [(Ah (E6 cs (j+1))).length=(j+1)*1,j+1+1<=9223372036854775807,(j+1+1)*24<=140737488355328,_,An [An [q=q,Sm (Aa cs)],An [Zz,Nat.succ j+1=j+1+1,Tt],An [q=q,z0=z0],b'=b',Tt],An [_,_],Tt]) ⟨aq,aq,aq,hn,a_,⟨hs,hH1⟩,aq⟩
 |false=>
  have:j=P:=by have:=of_decide_eq_false hb.symm;omega
  subst this
  obtain⟨p,rfl⟩: ∃p,j=p+1:=⟨j-1,o_⟩
  refine .inr ⟨.exit 0,[],{sl:=[(3,.im (p+1) (Ah (E6 cs (p+1))))]},[],1000,.inl ⟨trivial,rfl,rfl⟩,?_⟩
  clear hc
  exact m_ (p:=let z0:=Ah (E6 cs (p+1));An [An [An [Sm (p+1),z0=z0,_],Tt],Tt]) ⟨⟨⟨aq,aq,hH⟩,aq⟩,aq⟩
theorem nG(cs:List Int)(q:Nat)(hq:cs.length=q)(h12:q<=12)(hc: ∀i,i<q->1<=cs.getD i 0/\cs.getD i 0<=8)(P:Nat)(hP:(P:Int)=Aw cs q)(hP0:1<=P)(hPb:P<=4096):Ag Pg g0 35 [.im q (Aa cs)] (.im P (Ah (E6 cs P))):=by
 have l:=dq cs q hq h12 hc P hP hP0 hPb
 have hz:Cx q [i6 0]=Aa (A7 cs 0):=by rw[Lh,A7,hq]
 have hH:=B7 (E6 cs P)
 have hH0:=Ap (A7 cs 0)
 clear hc
 refine Ch {sl:=[(2,.im P (Ah (E6 cs P)))]} [mk 8,(0,.loop [] (kN cs q (0,true)) [(True,.exit 0,{sl:=[(3,.im P (Ah (E6 cs P)))]})])] ?_
 exact m_ (p:=let z0:=Ah (E6 cs P);let z1:=(↑q:Int);An [Sm (V.im P z0),An [(0:Int)<=z1,z1<=z1,(↑(8:Nat):Int)*z1<=(281474976710656:Int),z1<=(9223372036854775807:Int)],An [An [An [q=q,Sm (Aa cs)],Tt,An [q=q,_,Ba (Cx q [i6 0])],Sm true,Tt],Tt],_,(True->An [An [An [P=P,z0=z0],Tt],Tt]),Tt]) ⟨aq,a_,⟨⟨a_,aq,⟨aq,hz.symm,aq⟩,a_⟩,aq⟩,l,a_⟩
structure Pc where
 c:Nat
 f:Nat
 o:Nat
 u:List Nat
 z:Bool
def CC(x:Pc):V:=if x.z then .nils else bl x.u
def Oz(x:Pc):List V:=[w8 x.c,w8 x.f,w8 x.o,CC x]
def Ea:List Pc->List V
 |[]=>[]
 |x::l=>Oz x++Ea l
structure Fo(x:Pc):Prop where
 c:x.c<256
 f:x.f<256
 o:x.o<256
 u: ∀y∈x.u,y<256
 l:x.u.length<=9223372036854775807
 z:x.z=true->x.u=[]
theorem V7: ∀l,Ba (Ea l)
 |[]=>trivial
 |x::l=>⟨trivial,trivial,trivial,by unfold CC;split<;>trivial,V7 l⟩
theorem uL: ∀{N:List Pc}{k:Nat}{x:Pc},N[k]? =some x->(Ea N).drop (k*4)=Oz x++Ea (N.drop (k+1))
 |[],k,x,h=>by simp at h
 |y::l,0,x,h=>by cases h;rfl
 |y::l,k+1,x,h=>by
  show(Oz y++Ea l).drop ((k+1)*4)=_
  rw[fE,eP,fN,show(Oz y).drop (4+k*4)=[]from eQ (by show 4<=_;omega)]
  show([]:List V)++(Ea l).drop (4+k*4-4)=_
  rw[cR,eZ]
  exact uL (N:=l) (by simpa using h)
structure J5(gr:Nat)(NN:List Pc)(SS:List (Nat×Nat))(W Q:List Nat):Prop where
 g:gr<256
 n: ∀x∈NN,Fo x/\x.z=false
 s: ∀x∈SS,x.1<256/\x.2<256
 sl:SS.length<=9223372036854775807
 w: ∀x∈W,x<256
 wl:W.length<=9223372036854775807
 o: ∀x∈Q,x<256
abbrev Ia(gr:Nat)(NN:List Pc)(SS:List (Nat×Nat))(W Q:List Nat):List V:=[w8 gr,.im NN.length (Ea NN),.im SS.length (Km SS),bl W,bl Q]
abbrev Ib(gr:Nat)(NN:List Pc)(SS:List (Nat×Nat))(W Q:List Nat):O:=.row 26 none (Ia gr NN SS W Q)
abbrev Bn(g:Int)(r n:V):O:=.row 34 none [i6 g,r,n]
abbrev Az(Ab:Nat):V:=.sl 2 0 Ab (some (Ab-Ab))
abbrev Ij(Ab:Nat):V:=.sl 4 0 Ab (some (Ab-Ab))
section
variable (gr:Nat) (NN:List Pc) (SS:List (Nat×Nat)) (W Q:List Nat)
theorem jD:To 365 (aT 6 10) [(0,.agg (Ia gr NN SS W Q))] .e 0 .normal [(1,.ptr 0 0),(2,.ptr 1 0)] (Ai .e 0 [Ib gr NN SS W Q,Bn 0 .nils .nils]) 2:=by
 exact Bu [toO [(1,.ptr 0 0),(2,.ptr 1 0)]] [] trivial
theorem jC(Ab:Nat)(hc:Ab=min (max NN.length 1) 4):To 365 (aT 6 110) [(1,.ptr 0 0),(2,.ptr 1 0)] (Ai .e 0 [Ib gr NN SS W Q,Bn 0 .nils .nils]) 2 .normal [(1,.ptr 0 0),(2,.ptr 1 0),(3,i6 Ab)] (Ai .e 0 [Ib gr NN SS W Q,Bn 0 .nils .nils]) 2:=by
 obtain⟨mx,hmx⟩: ∃mx:Nat,mx=max NN.length 1:=⟨_,rfl⟩
 refine To.of_vc (n:=100) (hs:=[nu 27 mx,nu 28 Ab,toO [(1,.ptr 0 0),(2,.ptr 1 0),(3,i6 Ab)]]) λnx0 lg G hG=>?_
 exact m_ (p:=let z0:=(↑mx:Int);An [(if(1:Int)>(↑NN.length:Int)then(1:Int)else(↑NN.length:Int))=z0,(if(4:Int)<z0 then(4:Int)else z0)=(↑Ab:Int),G Ex.normal [(1,V.ptr 0 0),(2,V.ptr 1 0),(3,i6 ↑Ab)] (Ai T.e 0 [Ib gr NN SS W Q,Bn (0:Int) V.nils V.nils]) 2 lg,Sm (V.ptr 0 0),Sm (V.ptr 1 0),Sm (i6 ↑Ab),Tt]) a_
theorem jB(ok:J5 gr NN SS W Q)(Ab:Nat)(hc:1<=Ab/\Ab<=4): ∃g:Int,(2<=g/\g<=12)/\To 365 (aT 6 1110) [(1,.ptr 0 0),(2,.ptr 1 0),(3,i6 Ab)] (Ai .e 0 [Ib gr NN SS W Q,Bn 0 .nils .nils]) 2 .normal [(1,.ptr 0 0),(2,.ptr 1 0),(3,i6 Ab),(4,.ptr 3 0)] (Ai .e 0 [Ib gr NN SS W Q,Bn 0 .nils .nils,.row 86 none (Cx Ab [i6 0,.nils,.nils,.nils]),Bn g .nils (Az Ab)]) 4:=by
 have hg:=ok.g
 have hw:(gr:Int).tmod 11=(gr%11:Nat):=by
  rw[aS o_];omega
 have hb:gr%11<11:=o_
 refine⟨2+((gr%11:Nat):Int),o_,?_⟩
 generalize gr%11=g at*
 exact Bu [nu 31 (gr%11:Nat),nu 32 (gr%11:Nat),nu 33 (2+((gr%11:Nat):Int)),mk 35,toO [(1,.ptr 0 0),(2,.ptr 1 0),(3,i6 Ab),(4,.ptr 3 0)]] (let z0:=(↑g:Int);let z1:=(↑Ab:Int);[_,wr .i64 z0=z0,wr .i64 ((2:Int)+z0)=(2:Int)+z0,An [(0:Int)<=z1,z1<=z1,(↑(80:Nat):Int)*z1<=(281474976710656:Int),z1<=(9223372036854775807:Int)]]) ⟨hw,aq,aq,a_⟩
abbrev Gi(c:List V):O:=.row 86 none c
abbrev K5(P:List Pc):O:=.row 88 none (Ea P)
abbrev ax(Ab:Nat):List (Nat×V):=[(1,.ptr 0 0),(2,.ptr 1 0),(3,i6 Ab),(4,.ptr 3 0)]
abbrev Q7(Ab:Nat):List (Nat×V):=[(1,.ptr 0 0),(2,.ptr 1 0),(3,i6 Ab),(4,.ptr 3 0),(5,Ij Ab)]
theorem jA(g:Int)(Z:List V)(Ab:Nat)(hc:1<=Ab/\Ab<=4):To 365 (aT 6 11110) (ax Ab) (Ai .e 0 [Ib gr NN SS W Q,Bn 0 .nils .nils,Gi Z,Bn g .nils (Az Ab)]) 4 .normal (Q7 Ab) (Ai .e 0 [Ib gr NN SS W Q,Bn 0 .nils .nils,Gi Z,Bn g .nils (Az Ab),.row 88 none (Cx Ab [w8 0,w8 0,w8 0,.nils])]) 5:=by
 exact Bu [mk 38,toO (Q7 Ab)] (let z0:=(↑Ab:Int);[An [(0:Int)<=z0,z0<=z0,(↑(32:Nat):Int)*z0<=(281474976710656:Int),z0<=(9223372036854775807:Int)]]) a_
theorem iZ(ok:J5 gr NN SS W Q)(g:Int)(Z:List V)(Ab:Nat)(hc:Ab=min (max NN.length 1) 4): ∃P:List Pc,P.length=Ab/\(∀x∈P,Fo x)/\To 365 (aT 6 111110) (Q7 Ab) (Ai .e 0 [Ib gr NN SS W Q,Bn 0 .nils .nils,Gi Z,Bn g .nils (Az Ab),.row 88 none (Cx Ab [w8 0,w8 0,w8 0,.nils])]) 5 .normal (Q7 Ab) (Ai .e 0 [Ib gr NN SS W Q,Bn 0 .nils .nils,Gi Z,Bn g .nils (Az Ab),K5 P]) 5:=by
 have hn:=ok.n
 clear ok
 match NN,hn,hc with
 |[],_,hc=>
  obtain rfl:Ab=1:=by simpa using hc
  refine⟨[⟨0,0,0,[],true⟩],rfl,λx hx=>?_,?_⟩
  .rw[aN.1 hx];exact⟨d_,d_,d_,(λ_ h=>by cases h),d_,λ_=>rfl⟩
  exact Bu [toO (Q7 1)] [] trivial
 |[x0],hn,hc=>
  obtain rfl:Ab=1:=by simpa using hc
  obtain⟨c0,f0,o0,u0,z0⟩:=x0
  obtain⟨k0,hz⟩:=hn ⟨c0,f0,o0,u0,z0⟩ s_
  obtain rfl:z0=false:=hz
  refine⟨[⟨c0,f0,o0,u0,false⟩],rfl,λx hx=>(hn x (hx)).1,?_⟩
  clear hn
  exact Bu [toO (Q7 1)] [] trivial
 |[x0,x1],hn,hc=>
  obtain rfl:Ab=2:=by simpa using hc
  obtain⟨c0,f0,o0,u0,z0⟩:=x0
  obtain⟨k0,hz⟩:=hn ⟨c0,f0,o0,u0,z0⟩ s_
  obtain rfl:z0=false:=hz
  obtain⟨c1,f1,o1,u1,z1⟩:=x1
  obtain⟨k1,hz⟩:=hn ⟨c1,f1,o1,u1,z1⟩ s_
  obtain rfl:z1=false:=hz
  refine⟨[⟨c0,f0,o0,u0,false⟩,⟨c1,f1,o1,u1,false⟩],rfl,λx hx=>(hn x (hx)).1,?_⟩
  clear hn
  exact Bu [toO (Q7 2)] [] trivial
 |[x0,x1,x2],hn,hc=>
  obtain rfl:Ab=3:=by simpa using hc
  obtain⟨c0,f0,o0,u0,z0⟩:=x0
  obtain⟨k0,hz⟩:=hn ⟨c0,f0,o0,u0,z0⟩ s_
  obtain rfl:z0=false:=hz
  obtain⟨c1,f1,o1,u1,z1⟩:=x1
  obtain⟨k1,hz⟩:=hn ⟨c1,f1,o1,u1,z1⟩ s_
  obtain rfl:z1=false:=hz
  obtain⟨c2,f2,o2,u2,z2⟩:=x2
  obtain⟨k2,hz⟩:=hn ⟨c2,f2,o2,u2,z2⟩ s_
  obtain rfl:z2=false:=hz
  refine⟨[⟨c0,f0,o0,u0,false⟩,⟨c1,f1,o1,u1,false⟩,⟨c2,f2,o2,u2,false⟩],rfl,λx hx=>(hn x (hx)).1,?_⟩
  clear hn
  exact Bu [toO (Q7 3)] [] trivial
 |[x0,x1,x2,x3],hn,hc=>
  obtain rfl:Ab=4:=by simpa using hc
  obtain⟨c0,f0,o0,u0,z0⟩:=x0
  obtain⟨k0,hz⟩:=hn ⟨c0,f0,o0,u0,z0⟩ s_
  obtain rfl:z0=false:=hz
  obtain⟨c1,f1,o1,u1,z1⟩:=x1
  obtain⟨k1,hz⟩:=hn ⟨c1,f1,o1,u1,z1⟩ s_
  obtain rfl:z1=false:=hz
  obtain⟨c2,f2,o2,u2,z2⟩:=x2
  obtain⟨k2,hz⟩:=hn ⟨c2,f2,o2,u2,z2⟩ s_
  obtain rfl:z2=false:=hz
  obtain⟨c3,f3,o3,u3,z3⟩:=x3
  obtain⟨k3,hz⟩:=hn ⟨c3,f3,o3,u3,z3⟩ s_
  obtain rfl:z3=false:=hz
  refine⟨[⟨c0,f0,o0,u0,false⟩,⟨c1,f1,o1,u1,false⟩,⟨c2,f2,o2,u2,false⟩,⟨c3,f3,o3,u3,false⟩],rfl,λx hx=>(hn x (hx)).1,?_⟩
  clear hn
  exact Bu [toO (Q7 4)] [] trivial
 |x0::x1::x2::x3::x4::r,hn,hc=>
  obtain rfl:Ab=4:=by assumption
  obtain⟨c0,f0,o0,u0,z0⟩:=x0
  obtain⟨k0,hz⟩:=hn ⟨c0,f0,o0,u0,z0⟩ s_
  obtain rfl:z0=false:=hz
  obtain⟨c1,f1,o1,u1,z1⟩:=x1
  obtain⟨k1,hz⟩:=hn ⟨c1,f1,o1,u1,z1⟩ s_
  obtain rfl:z1=false:=hz
  obtain⟨c2,f2,o2,u2,z2⟩:=x2
  obtain⟨k2,hz⟩:=hn ⟨c2,f2,o2,u2,z2⟩ s_
  obtain rfl:z2=false:=hz
  obtain⟨c3,f3,o3,u3,z3⟩:=x3
  obtain⟨k3,hz⟩:=hn ⟨c3,f3,o3,u3,z3⟩ s_
  obtain rfl:z3=false:=hz
  refine⟨[⟨c0,f0,o0,u0,false⟩,⟨c1,f1,o1,u1,false⟩,⟨c2,f2,o2,u2,false⟩,⟨c3,f3,o3,u3,false⟩],rfl,λx hx=>(hn x (by grind)).1,?_⟩
  clear hn
  exact Bu [toO (Q7 4)] [] trivial
end
end Go.Proofs.YtifdkhfldbkkpaaGreat.Am
