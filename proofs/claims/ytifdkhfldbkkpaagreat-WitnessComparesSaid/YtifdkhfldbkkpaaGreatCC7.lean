/- Texts behind the claim, part 7: the abstract machine, and what the functions answer. No condition. -/
import Derived.Test.YtifdkhfldbkkpaaGreatCC6
set_option linter.unusedVariables false
set_option maxHeartbeats 4000000
set_option maxRecDepth 100000
set_option linter.unusedSimpArgs false
set_option linter.unusedSectionVars false
namespace Go.Proofs.YtifdkhfldbkkpaaGreat.Am
open Go.RowKit
variable{g:Int}{W:List Nat}{P:List Pc}{nx:Nat}{ls:Nat->List Int}{F:Nat->V}{H:T O}{x:V}
section
variable (gr:Nat) (NN:List Pc) (SS:List (Nat×Nat)) (W Q:List Nat) (g:Int) (P:List Pc) (Ab:Nat) (hc:1<=Ab/\Ab<=4)
abbrev rE(Ab:Nat)(q:List Nat):List (Nat×V):=[(1,.ptr 0 0),(2,.ptr 1 0),(3,i6 Ab),(4,.ptr 3 0),(5,Ij Ab),(6,.im Ab (it q))]
abbrev Np(Ab:Nat)(q:List Nat):List (Nat×V):=[(1,.ptr 0 0),(2,.ptr 1 0),(3,i6 Ab),(4,.ptr 3 0),(5,Ij Ab),(6,.im Ab (it q)),(7,.ptr 6 0)]
include hc
theorem iY(hQ: ∀x∈Q,x<256)(Z:List V):To 365 (aT 6 1111110) (Q7 Ab) (Ai .e 0 [Ib gr NN SS W Q,Bn 0 .nils .nils,Gi Z,Bn g .nils (Az Ab),K5 P]) 5 .normal (rE Ab (Gg Q Ab)) (Ai .e 0 [Ib gr NN SS W Q,Bn 0 .nils .nils,Gi Z,Bn g .nils (Az Ab),K5 P,.dead]) 6:=by
 have hp:=GF Q hQ Ab hc
 have hz:Ba (Cx Ab [w8 0]):=Wr Ab _ ⟨trivial,trivial⟩
 have hcall:Ac Pg g0 (.fn 31 []) [.agg [.sl 5 0 Ab (some (Ab-Ab)),.int .u16 0,bl Q]] (Ai .e 0 [Ib gr NN SS W Q,Bn 0 .nils .nils,Gi Z,Bn g .nils (Az Ab),K5 P,.row 5 none (Cx Ab [w8 0])]) 6 ⟨.im Ab (it (Gg Q Ab)),Ai .e 0 [Ib gr NN SS W Q,Bn 0 .nils .nils,Gi Z,Bn g .nils (Az Ab),K5 P,.dead],6,[5]⟩:=by
  have hsame:Ai .e 0 [Ib gr NN SS W Q,Bn 0 .nils .nils,Gi Z,Bn g .nils (Az Ab),K5 P,.dead]=pt (Ai .e 0 [Ib gr NN SS W Q,Bn 0 .nils .nils,Gi Z,Bn g .nils (Az Ab),K5 P,.row 5 none (Cx Ab [w8 0])]) 5 .dead:=k_
  have h5:gt (Ai .e 0 [Ib gr NN SS W Q,Bn 0 .nils .nils,Gi Z,Bn g .nils (Az Ab),K5 P,.row 5 none (Cx Ab [w8 0])]) 5=some (.row 5 none (Cx Ab [w8 0])):=k_
  refine lL [5] hp ⟨_,_,rfl,⟨_,rfl,_,_,rfl,.inr (.inr ⟨5,0,_,_,_,_,rfl,by simp,by assumption,Bq.of_hf _ hz⟩),_,_,rfl,rfl,_,_,rfl,.inl rfl,rfl⟩,rfl⟩ trivial (λg hg=>by grind[Cm]) (λi hi=>?_) (λi hi=>?_)
  .rw[hsame,<-Cm,<-Cm,Ad,if_neg (λe=>hi (by simp_all))]
  .rw[aN.1 hi,hsame,<-Cm,Ad,if_pos rfl]
 have hL:=Fm (Gg Q Ab)
 exact Bu [mk 44,(48,.call ⟨.im Ab (it (Gg Q Ab)),Ai .e 0 [Ib gr NN SS W Q,Bn 0 .nils .nils,Gi Z,Bn g .nils (Az Ab),K5 P,.dead],6,[5]⟩),toO [(1,.ptr 0 0),(2,.ptr 1 0),(3,i6 Ab),(4,.ptr 3 0),(5,Ij Ab),(6,.im Ab (it (Gg Q Ab)))]] (let z2:=(↑Ab:Int);let z3:=Bn (0:Int) V.nils V.nils;let z4:=Bn g V.nils (Az Ab);[An [(0:Int)<=z2,z2<=z2,(↑(1:Nat):Int)*z2<=(281474976710656:Int),z2<=(9223372036854775807:Int)],Ac Pg g0 (V.fn 31 []) [V.agg [V.sl 5 0 Ab (some (Ab-Ab)),NQ 0,bl Q]] (pt (Ai T.e 0 [Ib gr NN SS W Q,z3,Gi Z,z4,K5 P]) 5 (O.row 5 none (Cx Ab [w8 0]))) 6 (CR.mk (V.im Ab (it (Gg Q Ab))) (Ai T.e 0 [Ib gr NN SS W Q,z3,Gi Z,z4,K5 P,O.dead]) 6 [5])]) ⟨a_,hcall⟩
theorem iX(Z:List V)(L:List Nat):To 365 (aT 6 11111110) (rE Ab L) (Ai .e 0 [Ib gr NN SS W Q,Bn 0 .nils .nils,Gi Z,Bn g .nils (Az Ab),K5 P,.dead]) 6 .normal (Np Ab L) (Ai .e 0 [Ib gr NN SS W Q,Bn 0 .nils .nils,Gi Z,Bn g .nils (Az Ab),K5 P,.dead,J8 W 0]) 7:=by
 have hL:=Fm L
 have hcall:=@de (Ai .e 0 [Ib gr NN SS W Q,Bn 0 .nils .nils,Gi Z,Bn g .nils (Az Ab),K5 P,.dead]) 6 W
 exact Bu [(51,.call ⟨.ptr 6 0,pt (Ai .e 0 [Ib gr NN SS W Q,Bn 0 .nils .nils,Gi Z,Bn g .nils (Az Ab),K5 P,.dead]) 6 (J8 W 0),7,[]⟩),toO (Np Ab L)] [_] hcall
end
theorem Pi{n k:Nat}(h:k<n):Bg k (Aj n F) [x]=some (Aj n (Bz F k x)):=by
 rw[YP,Wu]
 have:Nat.ble (k+[x].length) n=true:=aU (by simp;omega)
 rw[this,cond_true,<-iq]
 grind[List.set_eq_take_append_cons_drop]
theorem Pl{n k:Nat}(h:k<n):Ae (Af k (Aj n F))=some (F k):=by
 rw[Om]
 have h1:=pM (F:=F) h
 obtain⟨hk,e⟩:=aM.1 h1
 rw[dA hk,e];rfl
section
variable (gr:Nat) (NN:List Pc) (SS:List (Nat×Nat)) (W Q:List Nat) (g:Int) (P:List Pc) (Ab:Nat) (hc:1<=Ab/\Ab<=4)
noncomputable def Hj(gr:Nat)(NN:List Pc)(SS:List (Nat×Nat))(W Q:List Nat)(g:Int)(P:List Pc)(Ab:Nat)(F:Nat->V):T O:=Ai .e 0 [Ib gr NN SS W Q,Bn 0 .nils .nils,Gi (Aj (4*Ab) F),Bn g .nils (Az Ab),K5 P,.dead,J8 W 0]
theorem V5(F:Nat->V)(k:Nat)(x:V):pt (Hj gr NN SS W Q g P Ab F) 2 (Gi (Aj (4*Ab) (Bz F k x)))=Hj gr NN SS W Q g P Ab (Bz F k x):=k_
theorem lY(F:Nat->V):gt (Hj gr NN SS W Q g P Ab F) 2=some (Gi (Aj (4*Ab) F))/\gt (Hj gr NN SS W Q g P Ab F) 3=some (Bn g .nils (Az Ab))/\gt (Hj gr NN SS W Q g P Ab F) 4=some (K5 P):=⟨k_,k_,k_⟩
abbrev OB(Ab:Nat)(q:List Nat)(i:Nat):List (Nat×V):=[(1,.ptr 0 0),(2,.ptr 1 0),(3,i6 Ab),(4,.ptr 3 0),(5,Ij Ab),(6,.im Ab (it q)),(7,.ptr 6 0),(8,i6 i)]
structure C0(Ab:Nat)(F:Nat->V):Prop where
 nil: ∀j,j<4*Ab->j%4≠0->F j= .nils
 num: ∀v,v<Ab->∃c:Int,F (4*v)=i6 c
theorem C0.up(h:C0 Ab F)(v:Nat)(c:Int):C0 Ab (Bz F (4*v) (i6 c)) where
 nil j h1 h2:=by rw[Cn o_];exact h.nil j h1 h2
 num w hw:=by
  by_cases hv:w=v
  .simp_all[Eh]
  .rw[Cn o_];exact h.num w hw
include hc
theorem iW(L:List Nat)(hl:L.length=Ab)(hm: ∀x∈L,x<Ab)(ha: ∀v,v<Ab->v∈L)(F:Nat->V)(hF:C0 Ab F): ∃F',C0 Ab F'/\(∀v,v<Ab->F' (4*v)=i6 2)/\To 365 (aT 6 111111110) (Np Ab L) (Hj gr NN SS W Q g P Ab F) 7 .normal (Np Ab L) (Hj gr NN SS W Q g P Ab F') 7:=by
 have hLf:=Fm L
 have key: ∃e sl H' nx',(∃F',e= .exit 0/\sl=Np Ab L/\H'=Hj gr NN SS W Q g P Ab F'/\nx'=7/\C0 Ab F'/\∀v,v<Ab->F' (4*v)=i6 2)/\To 365 (aT 6 11111111010) (OB Ab L 0) (Hj gr NN SS W Q g P Ab F) 7 e sl H' nx':=by
  refine To.loop (c:=aT 6 11111111010) (b:=aT 6 111111110100) k_ (k:=365) (λ(q:Nat×(Nat->V)) H nx=>q.1<=Ab/\H=Hj gr NN SS W Q g P Ab q.2/\nx=7/\C0 Ab q.2/\∀v,v<Ab->v∈L.take q.1->q.2 (4*v)=i6 2) (λq=>OB Ab L q.1) (λq=>Ab-q.1) (λe sl H nx=>∃F',e= .exit 0/\sl=Np Ab L/\H=Hj gr NN SS W Q g P Ab F'/\nx=7/\C0 Ab F'/\∀v,v<Ab->F' (4*v)=i6 2) (λq H nx hI=>?_) (0,F) _ _ ⟨aG _,rfl,rfl,hF,λv hv h=>by cases h⟩
  obtain⟨i,F⟩:=q
  obtain⟨hi,rfl,rfl,hF,h2⟩:=hI
  dsimp only at hi hF h2
  obtain⟨m2,m3,m4⟩:=lY gr NN SS W Q g P Ab F
  by_cases hlt:i<Ab
  .refine .inl ?_
   have hp:=hm (L.getD i 0) (by simp_all)
   have hd:=YA (l:=L) (k:=i) o_
   have htk:L.take (i+1)=L.take i++[L.getD i 0]:=by rw[dF,aB o_,aA,aB o_];rfl
   refine⟨(i+1,Bz F (4*L.getD i 0) (i6 2)),Hj gr NN SS W Q g P Ab (Bz F (4*L.getD i 0) (i6 2)),7,⟨hlt,rfl,rfl,hF.up Ab _ _,λv hv h=>?_⟩,o_,?_⟩
   .grind[Eh,Cn]
   .generalize L.getD i 0=p at*
    have hlay:=Pi (n:=4*Ab) (k:=p*4) (F:=F) (x:=i6 2) o_
    have hup:=V5 gr NN SS W Q g P Ab F (4*p) (i6 2)
    have e4:p*4=4*p:=o_
    rw[e4]at hlay
    generalize Hj gr NN SS W Q g P Ab (Bz F (4*p) (i6 2))=M2,Hj gr NN SS W Q g P Ab F=M,hC2:Aj (4*Ab) (Bz F (4*p) (i6 2))=C2,Aj (4*Ab) F=C1 at*
    clear h2 hF
    exact Bu [As 54,A5 58 (Bn g .nils (Az Ab)) (Az Ab),pl 61,ld 62 (i6 p),pl 63,so (Gi C1) C2,nu 56 (i+1:Nat),toO (OB Ab L (i+1))] [_,_,Ae (Af (0+2) [i6 g,V.nils,Az Ab])=some (Az Ab),_,_,_,An [_,Bg (0+p*4+0) C1 [i6 2]=some C2],_] ⟨Bf hlt,m3,(by rfl),Ar hlt,hd,Ar hp,⟨m2,aq⟩,Dw i o_⟩
  .obtain rfl:i=Ab:=o_
   refine .inr ⟨.exit 0,Np i L,_,_,(λh=>by cases h),⟨F,rfl,rfl,rfl,rfl,hF,λv hv=>h2 v hv (by grind)⟩,?_⟩
   generalize Hj gr NN SS W Q g P i F=M at*
   exact Bu [no 54,toO (Np i L)] [_] (Cq hlt)
 obtain⟨e,sl,H',nx',⟨F',rfl,rfl,rfl,rfl,h1,h2⟩,h3⟩:=key
 refine⟨F',h1,h2,To.seq (sl1:=OB Ab L 0) (H1:=Hj gr NN SS W Q g P Ab F) (nx1:=7) k_ (b:=aT 6 1111111101) (a:=aT 6 1111111100) ?_ (To.block k_ h3)⟩
 generalize Hj gr NN SS W Q g P Ab F=M at*
 exact Bu [toO (OB Ab L 0)] [] trivial
end
theorem LC{k:Nat}{x:Pc}(h:P[k]? =some x):Ae (Af (4*k) (Ea P))=some (w8 x.c)/\Ae (Af (4*k+1) (Ea P))=some (w8 x.f)/\Ae (Af (4*k+2) (Ea P))=some (w8 x.o)/\Ae (Af (4*k+3) (Ea P))=some (CC x):=by
 have hd:=uL h
 simp only[Om]
 have key: ∀i,(Ea P).drop (4*k+i)=(Oz x++Ea (P.drop (k+1))).drop i:=λi=>by rw[<-hd,List.drop_drop];congr 1;omega
 refine⟨?_,?_,?_,?_⟩
 .have:=key 0;rw[dE]at this;rw[this];rfl
 .rw[key 1];rfl
 .rw[key 2];rfl
 .rw[key 3];rfl
structure C1(Ab:Nat)(F:Nat->V):Prop where
 nil: ∀j,j<4*Ab->j%4≠0->F j= .nils
 num: ∀v,v<Ab->∃c:Int,(c=2\/c=3)/\F (4*v)=i6 c
section
variable (gr:Nat) (NN:List Pc) (SS:List (Nat×Nat)) (W Q:List Nat) (g:Int) (P:List Pc) (Ab:Nat) (hc:1<=Ab/\Ab<=4)
abbrev Ix(Ab:Nat)(q:List Nat):List (Nat×V):=[(1,.ptr 0 0),(2,.ptr 1 0),(3,i6 Ab),(4,.ptr 3 0),(5,Ij Ab),(6,.im Ab (it q)),(7,.ptr 6 0),(9,.sl 7 0 Ab (some (Ab-Ab)))]
noncomputable abbrev ZO(gr:Nat)(NN:List Pc)(SS:List (Nat×Nat))(W Q:List Nat)(g:Int)(P:List Pc)(Ab:Nat)(F:Nat->V):T O:=pt (Hj gr NN SS W Q g P Ab F) 7 (.row 4 none (Cx Ab [.bool false]))
include hc
theorem iV(L:List Nat)(hl:L.length=Ab)(hm: ∀x∈L,x<Ab)(hP:P.length=Ab)(hPo: ∀x∈P,Fo x)(F:Nat->V)(hF:C0 Ab F)(h2: ∀v,v<Ab->F (4*v)=i6 2): ∃F',C1 Ab F'/\To 365 (aT 6 1111111110) (Np Ab L) (Hj gr NN SS W Q g P Ab F) 7 .normal (Np Ab L) (Hj gr NN SS W Q g P Ab F') 7:=by
 have hLf:=Fm L
 obtain⟨m2,m3,m4⟩:=lY gr NN SS W Q g P Ab F
 have m4:gt (Hj gr NN SS W Q g P Ab F) 4=some (.row 88 none (Ea P)):=m4
 obtain⟨x,hx⟩: ∃x,P[0]? =some x:=⟨P[0]' o_,aB _⟩
 have hpc:=(LC hx).1
 have hxo:=hPo x (bG hx)
 have hxc:=hxo.c
 have hp:=hm (L.getD 0 0) (by rw[aA,aB o_];exact cL _)
 have hd:=YA (l:=L) (k:=0) o_
 have hw:((x.c:Int)).tmod 3=(x.c%3:Nat):=by rw[aS o_];omega
 have hpf:=V7 P
 generalize x.c=y at*
 by_cases h3:y%3=2
 .refine⟨Bz F (4*L.getD 0 0) (i6 3),⟨λj h1 h=>by rw[Cn o_];exact hF.nil j h1 h,λv hv=>?_⟩,?_⟩
  .by_cases hv2:v=L.getD 0 0
   .exact⟨3,.inr rfl,by rw[hv2,Eh]⟩
   .exact⟨2,.inl rfl,by rw[Cn o_];exact h2 v hv⟩
  .generalize L.getD 0 0=p at*
   have hlay:=Pi (n:=4*Ab) (k:=4*p) (F:=F) (x:=i6 3) o_
   have hup:=V5 gr NN SS W Q g P Ab F (4*p) (i6 3)
   generalize Hj gr NN SS W Q g P Ab (Bz F (4*p) (i6 3))=M2,Hj gr NN SS W Q g P Ab F=M,hC2:Aj (4*Ab) (Bz F (4*p) (i6 3))=C2,Aj (4*Ab) F=C1,Ea P=PL at*
   refine To.of_vc (n:=100) (hs:=[pl 66,A5 68 (.row 88 none PL) (w8 y),nu 69 (2:Nat),As 70,A5 72 (Bn g .nils (Az Ab)) (Az Ab),pl 74,ld 75 (i6 p),pl 76,so (Gi C1) C2,toO (Np Ab L)]) λnx0 lg G hG=>?_
   clear h2 hF
   rw[h3]at hw
   exact m_ (p:=let z0:=(0:Int);An [An [z0<=z0,z0<(↑Ab:Int)],_,Ae (Af (0+Int.toNat z0*4+0) PL)=some (w8 ↑y),_,((↑(2:Nat):Int)==(2:Int))=true,_,Ae (Af (0+2) [i6 g,V.nils,Az Ab])=some (Az Ab),An [z0<=z0,z0<(↑Ab:Int)],Ae (List.drop (Int.toNat z0*1) (it L))=some (i6 ↑p),_,An [_,Bg (0+p*4+0) C1 [i6 3]=some C2],G Ex.normal (Np Ab L) (pt M 2 (O.row 86 none C2)) 7 ([2]++lg),Sm (V.ptr 0 0),Sm (V.ptr 1 0),Sm (i6 ↑Ab),Sm (V.ptr 3 0),Sm (Ij Ab),Sm (V.im Ab (it L)),Sm (V.ptr 6 0),_]) ⟨a_,m4,aq,hw,aq,m3,(by rfl),a_,aq,Ar hp,⟨m2,(by(rw[show 0+p*4+0=4*p by omega];exact hlay))⟩,aq,aq,aq,aq,aq,aq,aq,aq,tq⟩
 .refine⟨F,⟨hF.nil,λv hv=>⟨2,.inl rfl,h2 v hv⟩⟩,?_⟩
  generalize Hj gr NN SS W Q g P Ab F=M,Aj (4*Ab) F=C1,Ea P=PL at*
  have hne:((y%3:Nat):Int)≠2:=o_
  clear h2 hF
  generalize y%3=z at*
  exact Bu [pl 66,A5 68 (.row 88 none PL) (w8 y),nu 69 (y%3:Nat),no 70,toO (Np Ab L)] (let z0:=(0:Int);[An [z0<=z0,z0<(↑Ab:Int)],_,Ae (Af (0+Int.toNat z0*4+0) PL)=some (w8 ↑y),_,_]) ⟨a_,m4,aq,hw,qE hne⟩
theorem iU(L:List Nat)(F:Nat->V):To 365 (aT 6 11111111110) (Np Ab L) (Hj gr NN SS W Q g P Ab F) 7 .normal (Ix Ab L) (ZO gr NN SS W Q g P Ab F) 8:=by
 exact Bu [mk 79,toO (Ix Ab L)] (let z0:=(↑Ab:Int);[An [(0:Int)<=z0,z0<=z0,(↑(1:Nat):Int)*z0<=(281474976710656:Int),z0<=(9223372036854775807:Int)]]) a_
omit hc
theorem FS(hc:1<=Ab/\Ab<=4):Cx Ab [i6 0,.nils,.nils,.nils]=Aj (4*Ab) (λj=>if j%4=0 then i6 0 else .nils):=by
 rcases(show Ab=1\/Ab=2\/Ab=3\/Ab=4 by omega)with rfl|rfl|rfl|rfl<;>rfl
theorem S5(ok:J5 gr NN SS W Q): ∃(Ab:Nat)(g:Int)(P:List Pc)(F:Nat->V),(1<=Ab/\Ab<=4)/\(2<=g/\g<=12)/\P.length=Ab/\(∀x∈P,Fo x)/\C1 Ab F/\∀e sl' H' nx',To 365 (aT 6 11111111111) (Ix Ab (Gg Q Ab)) (ZO gr NN SS W Q g P Ab F) 8 e sl' H' nx'->To 365 (Iq 6 []) [(0,.agg (Ia gr NN SS W Q))] .e 0 e sl' H' nx':=by
 obtain⟨Ab,hcnt⟩: ∃Ab,Ab=min (max NN.length 1) 4:=⟨_,rfl⟩
 have hc:1<=Ab/\Ab<=4:=o_
 obtain⟨g,hg,t2⟩:=jB gr NN SS W Q ok Ab hc
 obtain⟨P,hP,hPo,t4⟩:=iZ gr NN SS W Q ok g (Cx Ab [i6 0,.nils,.nils,.nils]) Ab hcnt
 have t3:=jA gr NN SS W Q g (Cx Ab [i6 0,.nils,.nils,.nils]) Ab hc
 have t5:=iY gr NN SS W Q g P Ab hc ok.o (Cx Ab [i6 0,.nils,.nils,.nils])
 have t6:=iX gr NN SS W Q g P Ab hc (Cx Ab [i6 0,.nils,.nils,.nils]) (Gg Q Ab)
 have e0:Ai .e 0 [Ib gr NN SS W Q,Bn 0 .nils .nils,Gi (Cx Ab [i6 0,.nils,.nils,.nils]),Bn g .nils (Az Ab),K5 P,.dead,J8 W 0]=Hj gr NN SS W Q g P Ab (λj=>if j%4=0 then i6 0 else .nils):=by unfold Hj;rw[FS Ab hc]
 rw[e0]at t6
 obtain⟨F1,hF1,h2,t7⟩:=iW gr NN SS W Q g P Ab hc (Gg Q Ab) (LX Q Ab) (TA Ab) (λv hv=>Yc hv) (λj=>if j%4=0 then i6 0 else .nils) ⟨λj _ h=>if_neg h,λv _=>⟨0,if_pos o_⟩⟩
 obtain⟨F,hF,t8⟩:=iV gr NN SS W Q g P Ab hc (Gg Q Ab) (LX Q Ab) (TA Ab) hP hPo F1 hF1 h2
 have t9:=iU gr NN SS W Q g P Ab hc (Gg Q Ab) F
 refine⟨Ab,g,P,F,hc,hg,hP,hPo,hF,λe sl' H' nx' h=>?_⟩
 exact(To.seq (b:=aT 6 11) k_ (jD gr NN SS W Q) (To.seq (b:=aT 6 111) k_ (jC gr NN SS W Q Ab hcnt) (To.seq (b:=aT 6 1111) k_ t2 (To.seq (b:=aT 6 11111) k_ t3 (To.seq (b:=aT 6 111111) k_ t4 (To.seq (b:=aT 6 1111111) k_ t5 (To.seq (b:=aT 6 11111111) k_ t6 (To.seq (b:=aT 6 111111111) k_ t7 (To.seq (b:=aT 6 1111111111) k_ t8 (To.seq (b:=aT 6 11111111111) k_ t9 h))))))))))
end
def S9(j:Nat):Bool:=decide (j%4≠0)
abbrev rI(Ab:Nat)(ow:Nat->Bool):O:=.row 4 none (Aj Ab λv=>.bool (ow v))
abbrev Rj(c:List V):O:=.row 47 (some 1) c
structure MB(dc:List V)(W:List Nat)(g:Int)(pl:List V)(Ab a:Nat)(ow:Nat->Bool)(rv:V)(H:T O):Prop where
 h0:gt H 0=some (.row 26 none dc)
 h1:gt H 1=some (Bn 0 .nils .nils)
 h3:gt H 3=some (Bn g rv (Az Ab))
 h4:gt H 4=some (.row 88 none pl)
 h6:gt H 6=some (J8 W a)
 h7:gt H 7=some (rI Ab ow)
abbrev NL(Ab:Nat)(F:Nat->V)(ls:Nat->List Int)(hd:Nat->Nat)(kd:Nat->Bool)(H:T O)(nx:Nat):Prop:=NR H 8 nx 2 86 none (4*Ab) F S9 ls hd kd
structure Kx(Ab:Nat)(ls:Nat->List Int)(hd:Nat->Nat)(rv:V)(R:List (List Int))(hr:Nat)(H:T O)(nx:Nat):Prop where
 nil:R=[]->rv= .nils
 own:R≠[]->rv= .sl hr 0 R.length none/\8<=hr/\hr<nx/\gt H hr=some (Rj (Ah R))
 sep:R≠[]->∀j,j<4*Ab->S9 j=true->ls j≠[]->hd j≠hr
abbrev KO(Ab:Nat)(ls:Nat->List Int)(kd:Nat->Bool):Prop:=∀j,j<4*Ab->ls j≠[]->kd j=false->(ls j).length=1
theorem kS(v:Nat):S9 (4*v)=false:=by simp[S9]
theorem Fl{v i:Nat}(h:1<=i/\i<=3):S9 (4*v+i)=true:=by grind[S9]
theorem G2{t:Nat}{sp room:Option Nat}(h:gt H nx=some (.row t sp [x])):A6 H 1 (.sl nx 0 1 room)=some (1,[x]):=by
 rw[Cm]at h
 unfold A6;dsimp only;rw[h];rfl
abbrev Q5(Ab:Nat)(q:List Nat)(i:Nat):List (Nat×V):=[(1,.ptr 0 0),(2,.ptr 1 0),(3,i6 Ab),(4,.ptr 3 0),(5,Ij Ab),(6,.im Ab (it q)),(7,.ptr 6 0),(9,.sl 7 0 Ab (some (Ab-Ab))),(10,i6 i)]
theorem OY{Ab v:Nat}{ow:Nat->Bool}(h:v<Ab):Bg (0+v*1+0) (Aj Ab λv=>.bool (ow v)) [.bool true]=some (Aj Ab λw=>.bool (if w=v then true else ow w)):=by
 grind[Pi,List.map_congr_left,Bz]
section
variable {dc:List V} {W:List Nat} {g:Int} {P:List Pc} {Ab a:Nat} {ow:Nat->Bool} {rv:V} {H:T O} {m:Nat} {F:Nat->V} {ls:Nat->List Int} {hd:Nat->Nat} {kd:Nat->Bool} {R:List (List Int)} {hr:Nat} (L:List Nat)
 (hc:1<=Ab/\Ab<=4) (hg:2<=g/\g<=12) (hW: ∀x∈W,x<256) (hWl:W.length<=9223372036854775807) (ha:a<=1000) (hB:MB dc W g (Ea P) Ab a ow rv H) (hN:NL Ab F ls hd kd H (m+8)) (hR:Kx Ab ls hd rv R hr H (m+8)) (hrl:R.length<=1000) (hP:P.length=Ab) (hPo: ∀x∈P,Fo x)
 (hnum: ∀v,v<Ab->∃c:Int,(c=2\/c=3)/\F (4*v)=i6 c)
include hc hg hW hWl ha hB hN hR hrl hP hPo hnum
theorem OZ(v:Nat)(hv:v<Ab)(x:Pc)(hx:P[v]? =some x)(h4:x.o%4=0):To 365 (aT 6 111111111110100) (Q5 Ab L v) H (m+8) .normal (Q5 Ab L (v+1)) H (m+8):=by
 obtain⟨h0,h1,h3,h4',h6,h7⟩:=hB
 have hpc:=(LC hx).2.2.1
 have hxo:=(hPo x (bG hx)).o
 have hLf:=Fm L
 have hw:((x.o:Int)).tmod 4=(0:Nat):=by rw[aS o_];omega
 generalize x.o=y,Ea P=PL at*
 clear hN hR hnum
 exact Bu [As 82,pl 87,A5 89 (.row 88 none PL) (w8 y),nu 90 (0:Nat),nu 84 (v+1:Nat),toO (Q5 Ab L (v+1))] [_,_,_,Ae (Af (0+v*4+2) PL)=some (w8 ↑y),_,_] ⟨Bf hv,Ar hv,h4',(by(rw[show 0+v*4+2=4*v+2 by omega];exact hpc)),hw,Dw v o_⟩
theorem GH(v:Nat)(hv:v<Ab)(x:Pc)(hx:P[v]? =some x)(h4:x.o%4≠0): ∃(l:List Int)(H':T O)(a':Nat),(l.length=2\/l.length=3)/\a'<=a+1/\
  MB dc W g (Ea P) Ab a' (λw=>if w=v then true else ow w) (.sl (m+10) 0 (R.length+1) none) H'/\NL Ab (Bz F (4*v+2) (.sl (m+8) 0 1 (some 0))) (Bz ls (4*v+2) [(R.length:Int)]) (Bz hd (4*v+2) (m+8)) (Bz kd (4*v+2) false) H' (m+11)/\Kx Ab (Bz ls (4*v+2) [(R.length:Int)]) (Bz hd (4*v+2) (m+8)) (.sl (m+10) 0 (R.length+1) none) (R++[l]) (m+10) H' (m+11)/\
  To 365 (aT 6 111111111110100) (Q5 Ab L v) H (m+8) .normal (Q5 Ab L (v+1)) H' (m+11):=by
 obtain⟨h0,h1,h3,h4',h6,h7⟩:=hB
 have h2:=hN.row
 have hpc:=(LC hx).2.2.1
 have hxo:=(hPo x (bG hx)).o
 have hLf:=Fm L
 have hw:((x.o:Int)).tmod 4=(x.o%4:Nat):=by rw[aS o_];omega
 have hne:((x.o%4:Nat):Int)≠0:=o_
 obtain⟨c,hc23,hFc⟩:=hnum v hv
 have hou:=OY (ow:=ow) hv
 have hlay:=Pi (n:=4*Ab) (k:=4*v+2) (F:=F) (x:=.sl (m+8) 0 1 (some 0)) o_
 have hcard:=Pl (n:=4*Ab) (k:=4*v) (F:=Bz F (4*v+2) (.sl (m+8) 0 1 (some 0))) o_
 rw[Cn o_,hFc]at hcard
 obtain⟨Hc,hHc⟩: ∃Hc,Hc=pt (pt (pt H 7 (.row 4 none (Aj Ab λw=>.bool (if w=v then true else ow w)))) (m+8) (.row 3 none [i6 R.length])) 2 (.row 86 none (Aj (4*Ab) (Bz F (4*v+2) (.sl (m+8) 0 1 (some 0))))):=⟨_,rfl⟩
 have gc: ∀i,i≠7->i≠m+8->i≠2->gt Hc i=gt H i:=λi a1 a2 a3=>by grind[Ad]
 obtain⟨y,H',a',hy,ha',n6,ng,hnext⟩:=tG (H:=Hc) (nx:=m+9) (h:=6) W hW hWl ha (by simp_all)
 obtain⟨l,hl,hwt⟩:=yX g c y hg hy
 have hl23:l.length=2\/l.length=3:=by rw[hl];split<;>simp
 have n2:gt H' 2=some (Gi (Aj (4*Ab) (Bz F (4*v+2) (.sl (m+8) 0 1 (some 0))))):=by rw[ng 2 o_,hHc,Ad,if_pos rfl]
 have n3:gt H' 3=some (Bn g rv (Az Ab)):=by rw[ng 3 o_,gc 3 o_ o_ o_];exact h3
 have n8:gt H' (m+8)=some (.row 3 none [i6 R.length]):=by rw[ng (m+8) o_,hHc,Ad,if_neg o_,Ad,if_pos rfl]
 have n7:gt H' 7=some (rI Ab λw=>if w=v then true else ow w):=by rw[ng 7 o_,hHc,Ad,if_neg o_,Ad,if_neg o_,Ad,if_pos rfl]
 have nn: ∀i,i≠7->i≠m+8->i≠2->i≠6->gt H' i=gt H i:=λi a1 a2 a3 a4=>by simp_all
 -- what is shown of the end, whatever the append was
 have fin: ∀Hf:T O,(∀i,i≠3->i≠m+9->i≠m+10->(R≠[]->i≠hr)->gt Hf i=gt H' i)->gt Hf 3=some (Bn g (.sl (m+10) 0 (R.length+1) none) (Az Ab))->gt Hf (m+10)=some (Rj (Ah (R++[l])))->
   MB dc W g (Ea P) Ab a' (λw=>if w=v then true else ow w) (.sl (m+10) 0 (R.length+1) none) Hf/\NL Ab (Bz F (4*v+2) (.sl (m+8) 0 1 (some 0))) (Bz ls (4*v+2) [(R.length:Int)]) (Bz hd (4*v+2) (m+8)) (Bz kd (4*v+2) false) Hf (m+11)/\Kx Ab (Bz ls (4*v+2) [(R.length:Int)]) (Bz hd (4*v+2) (m+8)) (.sl (m+10) 0 (R.length+1) none) (R++[l]) (m+10) Hf (m+11):=by
  intro Hf f1 f2 f3
  have hrb: ∀i,i<8->R≠[]->i≠hr:=λi hi hRn=>by have:=(hR.own hRn).2.1;omega
  refine⟨⟨?_,?_,f2,?_,?_,?_⟩,?_,⟨λh=>by simp at h,λ_=>⟨by simp,o_,o_,f3⟩,λ_ j hj hS hl'=>?_⟩⟩
  .simp_all
  .simp_all
  .simp_all
  .simp_all
  .simp_all
  .refine NR.new (l:=[(R.length:Int)]) (k:=false) hN (λh=>by cases h) (aC _) o_ o_ o_ ?_ ?_ (λj hj hS hl' hjv=>?_)
   .grind
   .rw[f1 (m+8) o_ o_ o_ (λhRn=>by have:=(hR.own hRn).2.2.1;omega)];exact n8
   .obtain⟨o1,o2,o3,o4,o5⟩:=hN.own j hj hS hl'
    rw[f1 (hd j) o_ o_ o_ (λhRn=>hR.sep hRn j hj hS hl'),nn (hd j) o_ o_ o_ o_]
  .by_cases hj2:j=4*v+2
   .grind[Eh]
   .rw[Cn hj2]at hl'⊢
    have:=(hN.own j hj hS hl').2.2.1
    omega
 have h7:gt H 7=some (.row 4 none (Aj Ab λw=>.bool (ow w))):=h7
 have hne2:((x.o%4:Nat):Int)≠0:=hne
 rw[hHc]at hnext
 clear hHc gc ng n7 n8
 generalize hC2:Aj (4*Ab) (Bz F (4*v+2) (.sl (m+8) 0 1 (some 0)))=C2,Aj (4*Ab) F=C1,Ea P=PL,x.o=yo,hO1:(Aj Ab λw=>V.bool (if w=v then true else ow w))=O1,hO0:(Aj Ab λw=>V.bool (ow w))=O0 at*
 by_cases hRn:R=[]
 .subst hRn
  obtain rfl:=hR.nil rfl
  have hf:=fin (pt (pt (pt H' (m+9) (.row 47 none [sl l])) (m+10) (Rj [sl l])) 3 (Bn g (.sl (m+10) 0 1 none) (Az Ab))) (λi i1 i2 i3 _=>by grind[Ad]) (by simp_all[Ad]) (by rw[Ad,if_neg o_,Ad,if_pos rfl];rfl)
  refine⟨l,_,a',hl23,ha',hf.1,hf.2.1,hf.2.2,?_⟩
  clear hf fin hN hnum hR
  refine Bu [As 82,pl 87,A5 89 (.row 88 none PL) (w8 yo),nu 90 (yo%4:Nat),As 91,pl 94,so (.row 4 none O0) O1,A5 96 (Bn g .nils (Az Ab)) (Az Ab),A5 99 (Bn g .nils (Az Ab)) .nils,pl 102,so (Gi C1) C2,(115,.call ⟨w8 y,H',m+9,[6]⟩),A5 107 (Bn g .nils (Az Ab)) (i6 g),A5 109 (Bn g .nils (Az Ab)) (Az Ab),pl 111,A5 113 (Gi C2) (i6 c),fn 116 (sl l),A5 105 (Bn g .nils (Az Ab)) .nils,(118,.an 1 [sl l]),so (Bn g .nils (Az Ab)) [i6 g,.sl (m+10) 0 1 none,Az Ab],nu 84 (v+1:Nat),toO (Q5 Ab L (v+1))] (let z0:=some (Bn g V.nils (Az Ab));let z1:=[i6 g,V.nils,Az Ab];let z2:=(↑v:Int);let z4:=pt H 7 (O.row 4 none O1);let z5:=(↑Ab:Int);let z7:=pt H' (m+9) (O.row 47 none [sl l]);let y0:=(0:Int);let z6:=pt z4 (m+8) (O.row 3 none [i6 ↑(0:Nat)]);let y1:=Ae (Af (0+2) z1);[decide (z2<z5)=true,An [y0<=z2,z2<z5],gt H 4=some (O.row 88 none PL),Ae (Af (0+v*4+2) PL)=some (w8 ↑yo),Int.tmod (↑yo:Int) (4:Int)=(↑(yo%4):Int),((↑(yo%4):Int) != y0)=true,An [y0<=z2,z2<z5],An [gt H 7=some (O.row 4 none O0),Bg (0+v*1) O0 [V.bool true]=some O1],gt z4 3=z0,y1=some (Az Ab),gt z4 3=z0,Ae (Af 1 z1)=some V.nils,An [y0<=z2,z2<z5],An [gt z6 2=some (Gi C1),Bg (0+v*4+2) C1 [V.sl (m+8) 0 1 (some 0)]=some C2],Ac Pg g0 (V.fn 34 []) [V.ptr 6 0] (pt z6 2 (O.row 86 none C2)) (m+8+1) (CR.mk (w8 ↑y) H' (m+9) [6]),gt H' 3=z0,Ae (Af (0+0) z1)=some (i6 g),gt H' 3=z0,y1=some (Az Ab),An [y0<=z2,z2<z5],gt H' 2=some (Gi C2),Ae (Af (0+v*4+0) C2)=some (i6 c),Ag Pg g0 33 [i6 g,i6 c,w8 ↑y] (sl l),gt H' 3=z0,Ae (Af 1 z1)=some V.nils,An [A6 z7 1 (V.sl (m+9) 0 1 (some 0))=some (1,[sl l]),1<=9223372036854775807,1*24<=140737488355328],An [gt (pt z7 (m+9+1) (O.row 47 (some 1) [sl l])) 3=z0,Bg 1 z1 [V.sl (m+9+1) 0 1 none]=some [i6 g,V.sl (m+10) 0 1 none,Az Ab]],wr .i64 (z2+(1:Int))=(↑(v+1):Int)]) ?_
  (repeat'(first|(with_reducible apply And.intro)|(refine λ(_:True)=>?_)))
  all_goals first|exact tq|exact hG _|(with_reducible exact hw)|(rw[show 0+v*4+2=4*v+2 by omega];first|exact hpc|exact hlay)|(rw[show 0+v*4+0=4*v by omega];exact hcard)|exact hou|exact gq|exact hnext|exact G2 (by exact gq)|exact(λhk_=>absurd (V.fn.inj hk_).1 d_)|rfl|skip
 .obtain⟨hrv,r1,r2,r3⟩:=hR.own hRn
  subst hrv
  obtain⟨k,rfl⟩: ∃k,hr=k+8:=⟨hr-8,o_⟩
  have n8:gt H' (k+8)=some (.row 47 (some 1) (Ah R)):=by rw[nn (k+8) o_ o_ o_ o_];exact r3
  have hRf:=B7 R
  have hRl:(Ah R).length=R.length:=by unfold Ah;rw[fA]
  have eR:Ah (R++[l])=Ah R++[sl l]:=by unfold Ah;rw[bP];rfl
  rw[eR]at fin
  have hf:=fin (pt (pt (pt (pt H' (m+9) (.row 47 none [sl l])) (k+8) .dead) (m+10) (Rj (Ah R++[sl l]))) 3 (Bn g (.sl (m+10) 0 (R.length+1) none) (Az Ab))) (λi i1 i2 i3 i4=>by grind[Ad]) (by grind[Ad]) (by grind[Ad])
  refine⟨l,_,a',hl23,ha',hf.1,hf.2.1,hf.2.2,?_⟩
  clear hf fin hN hnum hR nn
  generalize Ah R=RR,R.length=q at*
  refine Bu [As 82,pl 87,A5 89 (.row 88 none PL) (w8 yo),nu 90 (yo%4:Nat),As 91,pl 94,so (.row 4 none O0) O1,A5 96 (Bn g (.sl (k+8) 0 q none) (Az Ab)) (Az Ab),A5 99 (Bn g (.sl (k+8) 0 q none) (Az Ab)) (.sl (k+8) 0 q none),pl 102,so (Gi C1) C2,(115,.call ⟨w8 y,H',m+9,[6]⟩),A5 107 (Bn g (.sl (k+8) 0 q none) (Az Ab)) (i6 g),A5 109 (Bn g (.sl (k+8) 0 q none) (Az Ab)) (Az Ab),pl 111,A5 113 (Gi C2) (i6 c),fn 116 (sl l),A5 105 (Bn g (.sl (k+8) 0 q none) (Az Ab)) (.sl (k+8) 0 q none),(118,.aop (Rj RR) 1 [sl l]),so (Bn g (.sl (k+8) 0 q none) (Az Ab)) [i6 g,.sl (m+10) 0 (q+1) none,Az Ab],nu 84 (v+1:Nat),toO (Q5 Ab L (v+1))] (let z0:=V.sl (k+8) 0 q none;let z2:=pt H' (m+9) (O.row 47 none [sl l]);let z3:=(↑v:Int);let z5:=pt H 7 (O.row 4 none O1);let z7:=(↑Ab:Int);let y1:=(0:Int);let z1:=some (Bn g z0 (Az Ab));let z4:=[i6 g,z0,Az Ab];let z9:=pt z5 (m+8) (O.row 3 none [i6 ↑q]);let y2:=Ae (Af (0+2) z4);[decide (z3<z7)=true,An [y1<=z3,z3<z7],gt H 4=some (O.row 88 none PL),Ae (Af (0+v*4+2) PL)=some (w8 ↑yo),Int.tmod (↑yo:Int) (4:Int)=(↑(yo%4):Int),((↑(yo%4):Int) != y1)=true,An [y1<=z3,z3<z7],An [gt H 7=some (O.row 4 none O0),Bg (0+v*1) O0 [V.bool true]=some O1],gt z5 3=z1,y2=some (Az Ab),gt z5 3=z1,Ae (Af 1 z4)=some z0,An [y1<=z3,z3<z7],An [gt z9 2=some (Gi C1),Bg (0+v*4+2) C1 [V.sl (m+8) 0 1 (some 0)]=some C2],Ac Pg g0 (V.fn 34 []) [V.ptr 6 0] (pt z9 2 (O.row 86 none C2)) (m+8+1) (CR.mk (w8 ↑y) H' (m+9) [6]),gt H' 3=z1,Ae (Af (0+0) z4)=some (i6 g),gt H' 3=z1,y2=some (Az Ab),An [y1<=z3,z3<z7],gt H' 2=some (Gi C2),Ae (Af (0+v*4+0) C2)=some (i6 c),Ag Pg g0 33 [i6 g,i6 c,w8 ↑y] (sl l),gt H' 3=z1,Ae (Af 1 z4)=some z0,A6 z2 1 (V.sl (m+9) 0 1 (some 0))=some (1,[sl l]),An [gt z2 (k+8)=some (Rj RR),RR.length=q*1,1<=1,q+1<=9223372036854775807,(q+1)*24<=140737488355328,Bl [sl l]=true],An [gt (pt (pt z2 (k+8) O.dead) (m+9+1) (O.row 47 (some 1) (RR++[sl l]))) 3=z1,Bg 1 z4 [V.sl (m+9+1) 0 (q+1) none]=some [i6 g,V.sl (m+10) 0 (q+1) none,Az Ab]],wr .i64 (z3+(1:Int))=(↑(v+1):Int)]) ?_
  (repeat'(first|(with_reducible apply And.intro)|(refine λ(_:True)=>?_)))
  all_goals first|exact tq|exact hG _|(with_reducible exact hw)|(rw[show 0+v*4+2=4*v+2 by omega];first|exact hpc|exact hlay)|(rw[show 0+v*4+0=4*v by omega];exact hcard)|exact hou|exact gq|exact hnext|exact G2 (by exact gq)|exact(λhk_=>absurd (V.fn.inj hk_).1 d_)|rfl|skip
end
structure Q2(Ab i k:Nat)(ow:Nat->Bool)(F:Nat->V)(ls:Nat->List Int)(R:List (List Int)):Prop where
 num: ∀v,v<Ab->∃c:Int,(c=2\/c=3)/\F (4*v)=i6 c
 fr: ∀v,v<Ab->ls (4*v+1)=[]/\ls (4*v+3)=[]
 no: ∀v,v<Ab->∀z∈ls (4*v+2),0<=z/\z<R.length
 len: ∀v,v<Ab->(ls (4*v+2)).length<=k
 rn:R.length<=i
 ow: ∀v,v<Ab->ow v=true->ls (4*v+2)≠[]
 rl: ∀L∈R,L.length=2\/L.length=3
def MQ(dc:List V)(W:List Nat)(g:Int)(P:List Pc)(Ab i k:Nat)(H:T O)(nx:Nat):Prop:=
 ∃(m a:Nat)(ow:Nat->Bool)(rv:V)(F:Nat->V)(ls:Nat->List Int)(hd:Nat->Nat)(kd:Nat->Bool)(R:List (List Int))(hr:Nat),nx=m+8/\a<=i/\MB dc W g (Ea P) Ab a ow rv H/\NL Ab F ls hd kd H nx/\Kx Ab ls hd rv R hr H nx/\Q2 Ab i k ow F ls R/\KO Ab ls kd
section
variable {dc:List V} {W:List Nat} {g:Int} {P:List Pc} {Ab:Nat} (L:List Nat)
 (hc:1<=Ab/\Ab<=4) (hg:2<=g/\g<=12) (hW: ∀x∈W,x<256) (hWl:W.length<=9223372036854775807) (hP:P.length=Ab) (hPo: ∀x∈P,Fo x)
include hc hg hW hWl hP hPo
theorem Ya(H:T O)(nx:Nat)(h:MQ dc W g P Ab 0 1 H nx): ∃H' nx',MQ dc W g P Ab Ab 1 H' nx'/\To 365 (aT 6 111111111110) (Ix Ab L) H nx .normal (Ix Ab L) H' nx':=by
 have key: ∃e sl H' nx',(e= .exit 2/\sl=Ix Ab L/\MQ dc W g P Ab Ab 1 H' nx')/\To 365 (aT 6 11111111111010) (Q5 Ab L 0) H nx e sl H' nx':=by
  refine To.loop (b:=aT 6 111111111110100) k_ (λ(i:Nat) H nx=>i<=Ab/\MQ dc W g P Ab i 1 H nx) (λi=>Q5 Ab L i) (λi=>Ab-i) (λe sl H nx=>e= .exit 2/\sl=Ix Ab L/\MQ dc W g P Ab Ab 1 H nx) (λi H nx hI=>?_) 0 H nx ⟨aG _,h⟩
  obtain⟨hi,m,a,ow,rv,F,ls,hd,kd,R,hr,rfl,ha,hB,hN,hR,hQ,hK⟩:=hI
  have hrl:=hQ.rn
  by_cases hlt:i<Ab
  .left
   obtain⟨x,hx⟩: ∃x,P[i]? =some x:=⟨P[i]' o_,aB _⟩
   by_cases h4:x.o%4=0
   .exact⟨i+1,H,m+8,⟨hlt,m,a,ow,rv,F,ls,hd,kd,R,hr,rfl,o_,hB,hN,hR,⟨hQ.num,hQ.fr,hQ.no,hQ.len,o_,hQ.ow,hQ.rl⟩,hK⟩,o_,OZ L hc hg hW hWl o_ hB hN hR o_ hP hPo hQ.num i hlt x hx h4⟩
   .obtain⟨l,H',a',hl,ha',hB',hN',hR',ht⟩:=GH L hc hg hW hWl o_ hB hN hR o_ hP hPo hQ.num i hlt x hx h4
    refine⟨i+1,H',m+11,⟨hlt,m+3,a',_,_,_,_,_,_,_,_,rfl,o_,hB',hN',hR',⟨λv hv=>?_,λv hv=>?_,λv hv z hz=>?_,λv hv=>?_,?_,λv hv h=>?_,λl' hl'=>?_⟩,λj hj hl' hk=>?_⟩,o_,ht⟩
    .rw[Cn o_];exact hQ.num v hv
    .rw[Cn o_,Cn o_];exact hQ.fr v hv
    .rw[aR,bR]
     by_cases hv2:v=i
     .subst hv2
      rw[Eh,aN]at hz
      omega
     .rw[Cn o_]at hz
      have:=hQ.no v hv z hz
      omega
    .by_cases hv2:v=i
     .subst hv2;rw[Eh];exact aC _
     .rw[Cn o_];exact hQ.len v hv
    .rw[aR,bR];omega
    .by_cases hv2:v=i
     .subst hv2;rw[Eh];exact λh=>by cases h
     .rw[Cn o_];rw[if_neg hv2]at h;exact hQ.ow v hv h
    .rcases aL.1 hl' with h|h
     .exact hQ.rl l' h
     .rw[aN.1 h];exact hl
    .by_cases hj2:j=4*i+2
     .subst hj2;rw[Eh];rfl
     .rw[Cn hj2]at hl' hk⊢;exact hK j hj hl' hk
  .right
   obtain rfl:i=Ab:=o_
   refine⟨.exit 2,Ix i L,H,m+8,(λh=>by cases h),⟨rfl,rfl,m,a,ow,rv,F,ls,hd,kd,R,hr,rfl,ha,hB,hN,hR,hQ,hK⟩,?_⟩
   have hLf:=Fm L
   clear hB hN hR hQ
   exact Bu [no 82,toO (Ix i L)] [_] (Cq hlt)
 obtain⟨e,sl,H',nx',⟨rfl,rfl,h1⟩,h3⟩:=key
 refine⟨H',nx',h1,To.seq (sl1:=Q5 Ab L 0) (H1:=H) (nx1:=nx) k_ (b:=aT 6 1111111111101) (a:=aT 6 1111111111100) ?_ (To.block k_ h3)⟩
 have hLf:=Fm L
 clear h h1 h3
 exact Bu [toO (Q5 Ab L 0)] [] trivial
end
theorem FR(Ab:Nat)(hc:1<=Ab/\Ab<=4):Cx Ab [V.bool false]=Aj Ab λ_=>V.bool false:=by
 rcases(show Ab=1\/Ab=2\/Ab=3\/Ab=4 by omega)with rfl|rfl|rfl|rfl<;>rfl
theorem Sy{gr:Nat}{NN:List Pc}{SS:List (Nat×Nat)}{Q:List Nat}{Ab:Nat}(hc:1<=Ab/\Ab<=4)(hF:C1 Ab F):MQ (Ia gr NN SS W Q) W g P Ab 0 1 (ZO gr NN SS W Q g P Ab F) 8:=by
 have ge: ∀i,i≠7->gt (ZO gr NN SS W Q g P Ab F) i=gt (Hj gr NN SS W Q g P Ab F) i:=λi hi=>by rw[Ad,if_neg hi]
 obtain⟨m2,m3,m4⟩:=lY gr NN SS W Q g P Ab F
 refine⟨0,0,λ_=>false,.nils,F,λ_=>[],λ_=>0,λ_=>false,[],0,rfl,aC _,⟨?_,?_,?_,?_,?_,?_⟩,⟨?_,λj hj hS _=>hF.nil j hj (of_decide_eq_true hS),λj _ _ h=>absurd rfl h,λj _ _ _ _ _ h=>absurd rfl h⟩,⟨λ_=>rfl,λh=>absurd rfl h,λh=>absurd rfl h⟩,⟨hF.num,λv _=>⟨rfl,rfl⟩,(λv _ z hz=>by cases hz),λv _=>aG _,aC _,(λv _ h=>by cases h),(λl hl=>by cases hl)⟩,λ_ _ h=>absurd rfl h⟩
 .rw[ge 0 o_];kernel_rfl
 .rw[ge 1 o_];kernel_rfl
 .rw[ge 3 o_];exact m3
 .rw[ge 4 o_];exact m4
 .rw[ge 6 o_];kernel_rfl
 .rw[Ad,if_pos rfl,FR Ab hc]
 .rw[ge 2 o_];exact m2
section
variable {dc:List V} {W:List Nat} {g:Int} {qc:List V} {Ab a:Nat} {ow:Nat->Bool} {rv:V} {H:T O} {m:Nat} {F:Nat->V} {ls:Nat->List Int} {hd:Nat->Nat} {kd:Nat->Bool} {R:List (List Int)} {hr:Nat}
 (hB:MB dc W g qc Ab a ow rv H) (hN:NL Ab F ls hd kd H (m+8)) (hR:Kx Ab ls hd rv R hr H (m+8))
include hB hN hR
theorem YL(j:Nat)(hj:j<4*Ab)(hS:S9 j=true)(x:Int)(Hf:T O)(f1: ∀i,i≠2->i≠m+8->i≠m+9->(ls j≠[]->i≠hd j)->gt Hf i=gt H i)(f2:gt Hf 2=some (.row 86 none (Aj (4*Ab) (Bz F j (.sl (m+9) 0 ((ls j).length+1) none)))))(f3:gt Hf (m+9)=some (.row 3 (some 1) (Aa (ls j++[x])))):
  MB dc W g qc Ab a ow rv Hf/\NL Ab (Bz F j (.sl (m+9) 0 ((ls j).length+1) none)) (Bz ls j (ls j++[x])) (Bz hd j (m+9)) (Bz kd j true) Hf (m+10)/\Kx Ab (Bz ls j (ls j++[x])) (Bz hd j (m+9)) rv R hr Hf (m+10):=by
 have hlo: ∀i,i<8->ls j≠[]->i≠hd j:=λi hi hl=>by have:=(hN.own j hj hS hl).2.1;omega
 obtain⟨h0,h1,h3,h4,h6,h7⟩:=hB
 refine⟨⟨?_,?_,?_,?_,?_,?_⟩,?_,⟨hR.nil,λhn=>?_,λhn i hi hSi hl=>?_⟩⟩
 .rw[f1 0 o_ o_ o_ (hlo 0 o_)];exact h0
 .rw[f1 1 o_ o_ o_ (hlo 1 o_)];exact h1
 .rw[f1 3 o_ o_ o_ (hlo 3 o_)];exact h3
 .rw[f1 4 o_ o_ o_ (hlo 4 o_)];exact h4
 .rw[f1 6 o_ o_ o_ (hlo 6 o_)];exact h6
 .rw[f1 7 o_ o_ o_ (hlo 7 o_)];exact h7
 .have e:(ls j).length+1=(ls j++[x]).length:=by rw[aR,bR]
  rw[e]at f2⊢
  refine NR.new (k:=true) hN s_ (show m+8<=m+9 by omega) o_ o_ o_ f2 f3 (λi hi hSi hl hij=>?_)
  obtain⟨o1,o2,o3,o4,o5⟩:=hN.own i hi hSi hl
  rw[f1 (hd i) o_ o_ o_ (λhlj=>hN.ne hj hS hlj hi hSi hl hij)]
 .obtain⟨r1,r2,r3,r4⟩:=hR.own hn
  refine⟨r1,r2,o_,?_⟩
  rw[f1 hr o_ o_ o_ (λhl=>Ne.symm (hR.sep hn j hj hS hl))]
  exact r4
 .by_cases hij:i=j
  .subst hij
   rw[Eh]
   have:=(hR.own hn).2.2.1
   omega
  .rw[Cn hij]at hl⊢
   exact hR.sep hn i hi hSi hl
end
theorem uG{R:List (List Int)}{hr:Nat}(h0:R=[]->x= .nils)(h1:R≠[]->x= .sl hr 0 R.length none):(x= .nils/\R.length=0)\/x= .sl hr 0 R.length none:=by
 by_cases h:R=[]
 .exact .inl ⟨h0 h,by rw[h];rfl⟩
 .exact .inr (h1 h)
theorem KO.up{Ab:Nat}{kd:Nat->Bool}(h:KO Ab ls kd)(j:Nat)(l:List Int):KO Ab (Bz ls j l) (Bz kd j true):=λi hi hl hk=>by
 by_cases hij:i=j
 .subst hij;rw[Eh]at hk;cases hk
 .rw[Cn hij]at hl hk⊢;exact h i hi hl hk
theorem JN(a b:List Int):Aa (a++b)=Aa a++Aa b:=by unfold Aa;rw[bP]
abbrev Nm(Ab:Nat)(q:List Nat)(i:Nat):List (Nat×V):=[(1,.ptr 0 0),(2,.ptr 1 0),(3,i6 Ab),(4,.ptr 3 0),(5,Ij Ab),(6,.im Ab (it q)),(7,.ptr 6 0),(9,.sl 7 0 Ab (some (Ab-Ab))),(11,i6 i)]
abbrev Hg(Ab:Nat)(q:List Nat)(i a b:Nat):List (Nat×V):=[(1,.ptr 0 0),(2,.ptr 1 0),(3,i6 Ab),(4,.ptr 3 0),(5,Ij Ab),(6,.im Ab (it q)),(7,.ptr 6 0),(9,.sl 7 0 Ab (some (Ab-Ab))),(11,i6 i),(12,i6 a),(13,i6 b)]
section
variable {dc:List V} {W:List Nat} {g:Int} {qc:List V} {Ab a:Nat} {ow:Nat->Bool} {rv:V} {H:T O} {m:Nat} {F:Nat->V} {ls:Nat->List Int} {hd:Nat->Nat} {kd:Nat->Bool} {R:List (List Int)} {hr:Nat} (L:List Nat)
 (hc:1<=Ab/\Ab<=4) (hB:MB dc W g qc Ab a ow rv H) (hN:NL Ab F ls hd kd H (m+8)) (hR:Kx Ab ls hd rv R hr H (m+8)) (hK:KO Ab ls kd) (hrl:R.length<=1000)
include hc hB hN hR hK hrl
theorem FZ(k x y:Nat)(hx:x<Ab)(hl:(ls (4*x+2)).length<=1000)(hne:ls (4*x+2)≠[]->R≠[]): ∃H':T O,MB dc W g qc Ab a ow rv H'/\NL Ab (Bz F (4*x+2) (.sl (m+9) 0 ((ls (4*x+2)).length+1) none)) (Bz ls (4*x+2) (ls (4*x+2)++[(R.length:Int)])) (Bz hd (4*x+2) (m+9)) (Bz kd (4*x+2) true) H' (m+10)/\Kx Ab (Bz ls (4*x+2) (ls (4*x+2)++[(R.length:Int)])) (Bz hd (4*x+2) (m+9)) rv R hr H' (m+10)/\
  To 365 (aT 6 11111111111101001001100) (Hg Ab L k x y) H (m+8) .normal (Hg Ab L k x y) H' (m+10):=by
 have fin:=YL hB hN hR (4*x+2) o_ (Fl o_) (R.length:Int)
 have hlay:=Pi (n:=4*Ab) (k:=4*x+2) (F:=F) (x:=.sl (m+9) 0 ((ls (4*x+2)).length+1) none) o_
 have hcell:=Pl (n:=4*Ab) (k:=4*x+2) (F:=F) o_
 have h2:gt H 2=some (.row 86 none (Aj (4*Ab) F)):=hN.row
 obtain⟨h0,h1,h3,h4,h6,h7⟩:=hB
 have hLf:=Fm L
 have hrv:=uG hR.nil (λh=>(hR.own h).1)
 generalize hC2:Aj (4*Ab) (Bz F (4*x+2) (.sl (m+9) 0 ((ls (4*x+2)).length+1) none))=C2 at*
 by_cases hnil:ls (4*x+2)=[]
 .clear hne
  rw[hN.nil _ o_ (Fl o_) hnil]at hcell
  generalize hq:R.length=q at*
  have hf:=fin (pt (pt (pt H (m+8) (.row 3 none [i6 q])) (m+9) (.row 3 (some 1) [i6 q])) 2 (.row 86 none C2)) (λi i1 i2 i3 i4=>by rw[Ad,if_neg i1,Ad,if_neg i3,Ad,if_neg i2]) (by rw[Ad,if_pos rfl]) (by rw[Ad,if_neg o_,Ad,if_pos rfl,hnil];rfl)
  refine⟨_,hf.1,hf.2.1,hf.2.2,?_⟩
  clear hf fin hN hR hK
  rw[hnil]at hlay hC2
  generalize Aj (4*Ab) F=C1 at*
  rcases hrv with⟨rfl,rfl⟩|rfl
  .exact Bu [A5 156 (Bn g .nils (Az Ab)) (Az Ab),pl 158,A5 160 (.row 86 none C1) .nils,A5 162 (Bn g .nils (Az Ab)) .nils,(165,.an 1 [i6 (0:Nat)]),A5 153 (Bn g .nils (Az Ab)) (Az Ab),pl 166,so (.row 86 none C1) C2,toO (Hg Ab L k x y)] (let z5:=[i6 ↑(0:Nat)];let z8:=[i6 g,V.nils,Az Ab];let z2:=pt H (m+8) (O.row 3 none z5);let z3:=Ae (Af (0+2) z8);let z0:=pt z2 (m+8+1) (O.row 3 (some 1) z5);[_,z3=some (Az Ab),_,_,Ae (Af (0+x*4+2) C1)=some V.nils,_,Ae (Af 1 z8)=some V.nils,An [A6 z2 1 (V.sl (m+8) 0 1 (some 0))=some (1,z5),1<=9223372036854775807,1*8<=140737488355328],gt z0 3=(some (Bn g V.nils (Az Ab))),z3=some (Az Ab),_,An [gt z0 2=(some (O.row 86 none C1)),Bg (0+x*4+2) C1 [V.sl (m+8+1) 0 1 none]=some C2]]) ⟨h3,gq,Ar hx,h2,(by(rw[show 0+x*4+2=4*x+2 by omega];first|exact hcell|exact hlay)),h3,gq,⟨G2 (by exact gq),a_⟩,gq,gq,Ar hx,⟨gq,(by(rw[show 0+x*4+2=4*x+2 by omega];first|exact hcell|exact hlay))⟩⟩
  .exact Bu [A5 156 (Bn g (.sl hr 0 q none) (Az Ab)) (Az Ab),pl 158,A5 160 (.row 86 none C1) .nils,A5 162 (Bn g (.sl hr 0 q none) (Az Ab)) (.sl hr 0 q none),(165,.an 1 [i6 q]),A5 153 (Bn g (.sl hr 0 q none) (Az Ab)) (Az Ab),pl 166,so (.row 86 none C1) C2,toO (Hg Ab L k x y)] (let z1:=V.sl hr 0 q none;let z4:=pt H (m+8) (O.row 3 none [i6 ↑q]);let z0:=pt z4 (m+8+1) (O.row 3 (some 1) [i6 ↑q]);let z3:=Ae (Af (0+2) [i6 g,z1,Az Ab]);[_,z3=some (Az Ab),_,_,Ae (Af (0+x*4+2) C1)=some V.nils,_,Ae (Af 1 [i6 g,z1,Az Ab])=some z1,An [A6 z4 1 (V.sl (m+8) 0 1 (some 0))=some (1,[i6 ↑q]),1<=9223372036854775807,1*8<=140737488355328],gt z0 3=(some (Bn g z1 (Az Ab))),z3=some (Az Ab),_,An [gt z0 2=(some (O.row 86 none C1)),Bg (0+x*4+2) C1 [V.sl (m+8+1) 0 1 none]=some C2]]) ⟨h3,gq,Ar hx,h2,(by(rw[show 0+x*4+2=4*x+2 by omega];first|exact hcell|exact hlay)),h3,gq,⟨G2 (by exact gq),a_⟩,gq,gq,Ar hx,⟨gq,(by(rw[show 0+x*4+2=4*x+2 by omega];first|exact hcell|exact hlay))⟩⟩
 .obtain⟨o1,o2,o3,o4,o5⟩:=hN.own _ o_ (Fl o_) hnil
  have hrv:rv= .sl hr 0 R.length none:=(hR.own (hne hnil)).1
  have hko:=hK _ o_ hnil
  rw[o1]at hcell
  generalize hq:R.length=q at*
  subst hrv
  generalize hd (4*x+2)=h9 at*
  obtain⟨kk,rfl⟩: ∃kk,h9=kk+8:=⟨h9-8,o_⟩
  cases hkd:kd (4*x+2)with
  | false =>
   obtain⟨z,hz⟩: ∃z,ls (4*x+2)=[z]:=by
    match ls (4*x+2),hko hkd with
    |[z],_=>exact⟨z,rfl⟩
   rw[hkd,hz]at hcell o5
   rw[hz]at hC2 hlay fin
   have hf:=fin (pt (pt (pt H (m+8) (.row 3 none [i6 q])) (m+9) (.row 3 (some 1) [i6 z,i6 q])) 2 (.row 86 none C2)) (λi i1 i2 i3 i4=>by rw[Ad,if_neg i1,Ad,if_neg i3,Ad,if_neg i2]) (by rw[Ad,if_pos rfl]) (by rw[Ad,if_neg o_,Ad,if_pos rfl];rfl)
   rw[hz]
   refine⟨_,hf.1,hf.2.1,hf.2.2,?_⟩
   have o5:gt H (kk+8)=some (.row 3 none [i6 z]):=o5
   have hcell:Ae (Af (4*x+2) (Aj (4*Ab) F))=some (.sl (kk+8) 0 1 (some 0)):=hcell
   clear hf fin hN hR hK hne hnil o1 hko
   generalize Aj (4*Ab) F=C1 at*
   exact Bu [A5 156 (Bn g (.sl hr 0 q none) (Az Ab)) (Az Ab),pl 158,A5 160 (.row 86 none C1) (.sl (kk+8) 0 1 (some 0)),A5 162 (Bn g (.sl hr 0 q none) (Az Ab)) (.sl hr 0 q none),(165,.cp 1 [i6 z,i6 q]),A5 153 (Bn g (.sl hr 0 q none) (Az Ab)) (Az Ab),pl 166,so (.row 86 none C1) C2,toO (Hg Ab L k x y)] (let z1:=V.sl hr 0 q none;let z2:=pt H (m+8) (O.row 3 none [i6 ↑q]);let z7:=V.sl (kk+8) 0 1 (some 0);let z0:=pt z2 (m+8+1) (O.row 3 (some 1) [i6 z,i6 ↑q]);let z4:=Ae (Af (0+2) [i6 g,z1,Az Ab]);[_,z4=some (Az Ab),_,_,Ae (Af (0+x*4+2) C1)=some z7,_,Ae (Af 1 [i6 g,z1,Az Ab])=some z1,An [A6 z2 1 (V.sl (m+8) 0 1 (some 0))=some (1,[i6 ↑q]),A6 z2 1 z7=some (1,[i6 z]),1<=1,2<=9223372036854775807,2*8<=140737488355328],gt z0 3=(some (Bn g z1 (Az Ab))),z4=some (Az Ab),_,An [gt z0 2=(some (O.row 86 none C1)),Bg (0+x*4+2) C1 [V.sl (m+8+1) 0 2 none]=some C2]]) ⟨h3,gq,Ar hx,h2,(by(rw[show 0+x*4+2=4*x+2 by omega];first|exact hcell|exact hlay)),h3,gq,⟨G2 (by exact gq),G2 (by exact gq),a_⟩,gq,gq,Ar hx,⟨gq,(by(rw[show 0+x*4+2=4*x+2 by omega];first|exact hcell|exact hlay))⟩⟩
  |true=>
   rw[hkd]at hcell o5
   have o5:gt H (kk+8)=some (.row 3 (some 1) (Aa (ls (4*x+2)))):=o5
   have hcell:Ae (Af (4*x+2) (Aj (4*Ab) F))=some (.sl (kk+8) 0 (ls (4*x+2)).length none):=hcell
   have il:=F5 (ls (4*x+2))
   have hif:=Ap (ls (4*x+2))
   have ia:Aa (ls (4*x+2)++[(q:Int)])=Aa (ls (4*x+2))++[i6 q]:=JN _ _
   have hf:=fin (pt (pt (pt (pt H (m+8) (.row 3 none [i6 q])) (kk+8) .dead) (m+9) (.row 3 (some 1) (Aa (ls (4*x+2))++[i6 q]))) 2 (.row 86 none C2)) (λi i1 i2 i3 i4=>by rw[Ad,if_neg i1,Ad,if_neg i3,Ad,if_neg (i4 hnil),Ad,if_neg i2]) (by rw[Ad,if_pos rfl]) (by rw[Ad,if_neg o_,Ad,if_pos rfl,ia])
   refine⟨_,hf.1,hf.2.1,hf.2.2,?_⟩
   clear hf fin hN hR hK hne hnil o1 hko ia
   generalize Aa (ls (4*x+2))=l,(ls (4*x+2)).length=ll,Aj (4*Ab) F=C1 at*
   exact Bu [A5 156 (Bn g (.sl hr 0 q none) (Az Ab)) (Az Ab),pl 158,A5 160 (.row 86 none C1) (.sl (kk+8) 0 ll none),A5 162 (Bn g (.sl hr 0 q none) (Az Ab)) (.sl hr 0 q none),(165,.aop (.row 3 (some 1) l) 1 [i6 q]),A5 153 (Bn g (.sl hr 0 q none) (Az Ab)) (Az Ab),pl 166,so (.row 86 none C1) C2,toO (Hg Ab L k x y)] (let z1:=V.sl hr 0 q none;let z8:=[i6 ↑q];let z2:=pt H (m+8) (O.row 3 none z8);let z4:=Ae (Af (0+2) [i6 g,z1,Az Ab]);let z0:=pt (pt z2 (kk+8) O.dead) (m+8+1) (O.row 3 (some 1) (l++z8));[_,z4=some (Az Ab),_,_,Ae (Af (0+x*4+2) C1)=some (V.sl (kk+8) 0 ll none),_,Ae (Af 1 [i6 g,z1,Az Ab])=some z1,A6 z2 1 (V.sl (m+8) 0 1 (some 0))=some (1,z8),An [gt z2 (kk+8)=some (O.row 3 (some 1) l),l.length=ll*1,1<=1,ll+1<=9223372036854775807,(ll+1)*8<=140737488355328,Bl z8=true],gt z0 3=(some (Bn g z1 (Az Ab))),z4=some (Az Ab),_,An [gt z0 2=(some (O.row 86 none C1)),Bg (0+x*4+2) C1 [V.sl (m+8+1) 0 (ll+1) none]=some C2]]) ⟨h3,gq,Ar hx,h2,(by(rw[show 0+x*4+2=4*x+2 by omega];first|exact hcell|exact hlay)),h3,gq,G2 (by exact gq),⟨gq,aq,aq,aq,aq,gq⟩,gq,gq,Ar hx,⟨gq,(by(rw[show 0+x*4+2=4*x+2 by omega];first|exact hcell|exact hlay))⟩⟩
theorem FY(k x y:Nat)(hx:y<Ab)(hl:(ls (4*y+2)).length<=1000)(hne:ls (4*y+2)≠[]->R≠[]): ∃H':T O,MB dc W g qc Ab a ow rv H'/\NL Ab (Bz F (4*y+2) (.sl (m+9) 0 ((ls (4*y+2)).length+1) none)) (Bz ls (4*y+2) (ls (4*y+2)++[(R.length:Int)])) (Bz hd (4*y+2) (m+9)) (Bz kd (4*y+2) true) H' (m+10)/\Kx Ab (Bz ls (4*y+2) (ls (4*y+2)++[(R.length:Int)])) (Bz hd (4*y+2) (m+9)) rv R hr H' (m+10)/\
  To 365 (aT 6 111111111111010010011010) (Hg Ab L k x y) H (m+8) .normal (Hg Ab L k x y) H' (m+10):=by
 have fin:=YL hB hN hR (4*y+2) o_ (Fl o_) (R.length:Int)
 have hlay:=Pi (n:=4*Ab) (k:=4*y+2) (F:=F) (x:=.sl (m+9) 0 ((ls (4*y+2)).length+1) none) o_
 have hcell:=Pl (n:=4*Ab) (k:=4*y+2) (F:=F) o_
 have h2:gt H 2=some (.row 86 none (Aj (4*Ab) F)):=hN.row
 obtain⟨h0,h1,h3,h4,h6,h7⟩:=hB
 have hLf:=Fm L
 have hrv:=uG hR.nil (λh=>(hR.own h).1)
 generalize hC2:Aj (4*Ab) (Bz F (4*y+2) (.sl (m+9) 0 ((ls (4*y+2)).length+1) none))=C2 at*
 by_cases hnil:ls (4*y+2)=[]
 .clear hne
  rw[hN.nil _ o_ (Fl o_) hnil]at hcell
  generalize hq:R.length=q at*
  have hf:=fin (pt (pt (pt H (m+8) (.row 3 none [i6 q])) (m+9) (.row 3 (some 1) [i6 q])) 2 (.row 86 none C2)) (λi i1 i2 i3 i4=>by rw[Ad,if_neg i1,Ad,if_neg i3,Ad,if_neg i2]) (by rw[Ad,if_pos rfl]) (by rw[Ad,if_neg o_,Ad,if_pos rfl,hnil];rfl)
  refine⟨_,hf.1,hf.2.1,hf.2.2,?_⟩
  clear hf fin hN hR hK
  rw[hnil]at hlay hC2
  generalize Aj (4*Ab) F=C1 at*
  rcases hrv with⟨rfl,rfl⟩|rfl
  .exact Bu [A5 172 (Bn g .nils (Az Ab)) (Az Ab),pl 174,A5 176 (.row 86 none C1) .nils,A5 178 (Bn g .nils (Az Ab)) .nils,(181,.an 1 [i6 (0:Nat)]),A5 169 (Bn g .nils (Az Ab)) (Az Ab),pl 182,so (.row 86 none C1) C2,toO (Hg Ab L k x y)] (let z5:=[i6 ↑(0:Nat)];let z8:=[i6 g,V.nils,Az Ab];let z2:=pt H (m+8) (O.row 3 none z5);let z3:=Ae (Af (0+2) z8);let z0:=pt z2 (m+8+1) (O.row 3 (some 1) z5);[_,z3=some (Az Ab),_,_,Ae (Af (0+y*4+2) C1)=some V.nils,_,Ae (Af 1 z8)=some V.nils,An [A6 z2 1 (V.sl (m+8) 0 1 (some 0))=some (1,z5),1<=9223372036854775807,1*8<=140737488355328],gt z0 3=(some (Bn g V.nils (Az Ab))),z3=some (Az Ab),_,An [gt z0 2=(some (O.row 86 none C1)),Bg (0+y*4+2) C1 [V.sl (m+8+1) 0 1 none]=some C2]]) ⟨h3,gq,Ar hx,h2,(by(rw[show 0+y*4+2=4*y+2 by omega];first|exact hcell|exact hlay)),h3,gq,⟨G2 (by exact gq),a_⟩,gq,gq,Ar hx,⟨gq,(by(rw[show 0+y*4+2=4*y+2 by omega];first|exact hcell|exact hlay))⟩⟩
  .exact Bu [A5 172 (Bn g (.sl hr 0 q none) (Az Ab)) (Az Ab),pl 174,A5 176 (.row 86 none C1) .nils,A5 178 (Bn g (.sl hr 0 q none) (Az Ab)) (.sl hr 0 q none),(181,.an 1 [i6 q]),A5 169 (Bn g (.sl hr 0 q none) (Az Ab)) (Az Ab),pl 182,so (.row 86 none C1) C2,toO (Hg Ab L k x y)] (let z1:=V.sl hr 0 q none;let z4:=pt H (m+8) (O.row 3 none [i6 ↑q]);let z0:=pt z4 (m+8+1) (O.row 3 (some 1) [i6 ↑q]);let z3:=Ae (Af (0+2) [i6 g,z1,Az Ab]);[_,z3=some (Az Ab),_,_,Ae (Af (0+y*4+2) C1)=some V.nils,_,Ae (Af 1 [i6 g,z1,Az Ab])=some z1,An [A6 z4 1 (V.sl (m+8) 0 1 (some 0))=some (1,[i6 ↑q]),1<=9223372036854775807,1*8<=140737488355328],gt z0 3=(some (Bn g z1 (Az Ab))),z3=some (Az Ab),_,An [gt z0 2=(some (O.row 86 none C1)),Bg (0+y*4+2) C1 [V.sl (m+8+1) 0 1 none]=some C2]]) ⟨h3,gq,Ar hx,h2,(by(rw[show 0+y*4+2=4*y+2 by omega];first|exact hcell|exact hlay)),h3,gq,⟨G2 (by exact gq),a_⟩,gq,gq,Ar hx,⟨gq,(by(rw[show 0+y*4+2=4*y+2 by omega];first|exact hcell|exact hlay))⟩⟩
 .obtain⟨o1,o2,o3,o4,o5⟩:=hN.own _ o_ (Fl o_) hnil
  have hrv:rv= .sl hr 0 R.length none:=(hR.own (hne hnil)).1
  have hko:=hK _ o_ hnil
  rw[o1]at hcell
  generalize hq:R.length=q at*
  subst hrv
  generalize hd (4*y+2)=h9 at*
  obtain⟨kk,rfl⟩: ∃kk,h9=kk+8:=⟨h9-8,o_⟩
  cases hkd:kd (4*y+2)with
  | false =>
   obtain⟨z,hz⟩: ∃z,ls (4*y+2)=[z]:=by
    match ls (4*y+2),hko hkd with
    |[z],_=>exact⟨z,rfl⟩
   rw[hkd,hz]at hcell o5
   rw[hz]at hC2 hlay fin
   have hf:=fin (pt (pt (pt H (m+8) (.row 3 none [i6 q])) (m+9) (.row 3 (some 1) [i6 z,i6 q])) 2 (.row 86 none C2)) (λi i1 i2 i3 i4=>by rw[Ad,if_neg i1,Ad,if_neg i3,Ad,if_neg i2]) (by rw[Ad,if_pos rfl]) (by rw[Ad,if_neg o_,Ad,if_pos rfl];rfl)
   rw[hz]
   refine⟨_,hf.1,hf.2.1,hf.2.2,?_⟩
   have o5:gt H (kk+8)=some (.row 3 none [i6 z]):=o5
   have hcell:Ae (Af (4*y+2) (Aj (4*Ab) F))=some (.sl (kk+8) 0 1 (some 0)):=hcell
   clear hf fin hN hR hK hne hnil o1 hko
   generalize Aj (4*Ab) F=C1 at*
   exact Bu [A5 172 (Bn g (.sl hr 0 q none) (Az Ab)) (Az Ab),pl 174,A5 176 (.row 86 none C1) (.sl (kk+8) 0 1 (some 0)),A5 178 (Bn g (.sl hr 0 q none) (Az Ab)) (.sl hr 0 q none),(181,.cp 1 [i6 z,i6 q]),A5 169 (Bn g (.sl hr 0 q none) (Az Ab)) (Az Ab),pl 182,so (.row 86 none C1) C2,toO (Hg Ab L k x y)] (let z1:=V.sl hr 0 q none;let z2:=pt H (m+8) (O.row 3 none [i6 ↑q]);let z7:=V.sl (kk+8) 0 1 (some 0);let z0:=pt z2 (m+8+1) (O.row 3 (some 1) [i6 z,i6 ↑q]);let z4:=Ae (Af (0+2) [i6 g,z1,Az Ab]);[_,z4=some (Az Ab),_,_,Ae (Af (0+y*4+2) C1)=some z7,_,Ae (Af 1 [i6 g,z1,Az Ab])=some z1,An [A6 z2 1 (V.sl (m+8) 0 1 (some 0))=some (1,[i6 ↑q]),A6 z2 1 z7=some (1,[i6 z]),1<=1,2<=9223372036854775807,2*8<=140737488355328],gt z0 3=(some (Bn g z1 (Az Ab))),z4=some (Az Ab),_,An [gt z0 2=(some (O.row 86 none C1)),Bg (0+y*4+2) C1 [V.sl (m+8+1) 0 2 none]=some C2]]) ⟨h3,gq,Ar hx,h2,(by(rw[show 0+y*4+2=4*y+2 by omega];first|exact hcell|exact hlay)),h3,gq,⟨G2 (by exact gq),G2 (by exact gq),a_⟩,gq,gq,Ar hx,⟨gq,(by(rw[show 0+y*4+2=4*y+2 by omega];first|exact hcell|exact hlay))⟩⟩
  |true=>
   rw[hkd]at hcell o5
   have o5:gt H (kk+8)=some (.row 3 (some 1) (Aa (ls (4*y+2)))):=o5
   have hcell:Ae (Af (4*y+2) (Aj (4*Ab) F))=some (.sl (kk+8) 0 (ls (4*y+2)).length none):=hcell
   have il:=F5 (ls (4*y+2))
   have hif:=Ap (ls (4*y+2))
   have ia:Aa (ls (4*y+2)++[(q:Int)])=Aa (ls (4*y+2))++[i6 q]:=JN _ _
   have hf:=fin (pt (pt (pt (pt H (m+8) (.row 3 none [i6 q])) (kk+8) .dead) (m+9) (.row 3 (some 1) (Aa (ls (4*y+2))++[i6 q]))) 2 (.row 86 none C2)) (λi i1 i2 i3 i4=>by rw[Ad,if_neg i1,Ad,if_neg i3,Ad,if_neg (i4 hnil),Ad,if_neg i2]) (by rw[Ad,if_pos rfl]) (by rw[Ad,if_neg o_,Ad,if_pos rfl,ia])
   refine⟨_,hf.1,hf.2.1,hf.2.2,?_⟩
   clear hf fin hN hR hK hne hnil o1 hko ia
   generalize Aa (ls (4*y+2))=l,(ls (4*y+2)).length=ll,Aj (4*Ab) F=C1 at*
   exact Bu [A5 172 (Bn g (.sl hr 0 q none) (Az Ab)) (Az Ab),pl 174,A5 176 (.row 86 none C1) (.sl (kk+8) 0 ll none),A5 178 (Bn g (.sl hr 0 q none) (Az Ab)) (.sl hr 0 q none),(181,.aop (.row 3 (some 1) l) 1 [i6 q]),A5 169 (Bn g (.sl hr 0 q none) (Az Ab)) (Az Ab),pl 182,so (.row 86 none C1) C2,toO (Hg Ab L k x y)] (let z1:=V.sl hr 0 q none;let z8:=[i6 ↑q];let z2:=pt H (m+8) (O.row 3 none z8);let z4:=Ae (Af (0+2) [i6 g,z1,Az Ab]);let z0:=pt (pt z2 (kk+8) O.dead) (m+8+1) (O.row 3 (some 1) (l++z8));[_,z4=some (Az Ab),_,_,Ae (Af (0+y*4+2) C1)=some (V.sl (kk+8) 0 ll none),_,Ae (Af 1 [i6 g,z1,Az Ab])=some z1,A6 z2 1 (V.sl (m+8) 0 1 (some 0))=some (1,z8),An [gt z2 (kk+8)=some (O.row 3 (some 1) l),l.length=ll*1,1<=1,ll+1<=9223372036854775807,(ll+1)*8<=140737488355328,Bl z8=true],gt z0 3=(some (Bn g z1 (Az Ab))),z4=some (Az Ab),_,An [gt z0 2=(some (O.row 86 none C1)),Bg (0+y*4+2) C1 [V.sl (m+8+1) 0 (ll+1) none]=some C2]]) ⟨h3,gq,Ar hx,h2,(by(rw[show 0+y*4+2=4*y+2 by omega];first|exact hcell|exact hlay)),h3,gq,G2 (by exact gq),⟨gq,aq,aq,aq,aq,gq⟩,gq,gq,Ar hx,⟨gq,(by(rw[show 0+y*4+2=4*y+2 by omega];first|exact hcell|exact hlay))⟩⟩
end
theorem To.cond{k:Nat}{c x y:Code}{o:Operand}{sl sl1:List (Nat×V)}{H1:T O}{nx1:Nat}{e:Ex}(hc:c= .cond o x y)(t:Bool)(ho:ev ⟨Hl (B0 k) sl,g0,k⟩ o=some (.bool t))(h:To k (bif t then x else y) sl H nx e sl1 H1 nx1):To k c sl H nx e sl1 H1 nx1:=λnx0 lg=>by
 subst hc
 exact Au.cond (t:=t) ho (h nx0 lg)
section
variable {dc:List V} {W:List Nat} {g:Int} {qc:List V} {Ab a:Nat} {ow:Nat->Bool} {rv:V} {H:T O} {m:Nat} {F:Nat->V} {ls:Nat->List Int} {hd:Nat->Nat} {kd:Nat->Bool} {R:List (List Int)} {hr:Nat} (L:List Nat)
 (hg:2<=g/\g<=12) (hW: ∀x∈W,x<256) (hWl:W.length<=9223372036854775807) (ha:a<=1000) (hB:MB dc W g qc Ab a ow rv H) (hN:NL Ab F ls hd kd H (m+8)) (hR:Kx Ab ls hd rv R hr H (m+8)) (hrl:R.length<=1000)
include hg hW hWl ha hB hN hR hrl
theorem FV(k x y:Nat): ∃(l:List Int)(H':T O)(a':Nat),(l.length=2\/l.length=3)/\a'<=a+1/\MB dc W g qc Ab a' ow (.sl (m+9) 0 (R.length+1) none) H'/\NL Ab F ls hd kd H' (m+10)/\Kx Ab ls hd (.sl (m+9) 0 (R.length+1) none) (R++[l]) (m+9) H' (m+10)/\
  To 365 (aT 6 111111111111010010011011) (Hg Ab L k x y) H (m+8) .normal (Hg Ab L k x y) H' (m+10):=by
 obtain⟨h0,h1,h3,h4,h6,h7⟩:=hB
 have hLf:=Fm L
 obtain⟨yy,H',a',hy,ha',n6,ng,hnext⟩:=tG (H:=H) (nx:=m+8) (h:=6) W hW hWl ha h6
 obtain⟨l,hl,hwt⟩:=yX g 2 yy hg hy
 have hl23:l.length=2\/l.length=3:=by rw[hl];split<;>simp
 have n3:gt H' 3=some (Bn g rv (Az Ab)):=by rw[ng 3 o_];exact h3
 have fin: ∀Hf:T O,(∀i,i≠3->i≠m+8->i≠m+9->(R≠[]->i≠hr)->gt Hf i=gt H' i)->gt Hf 3=some (Bn g (.sl (m+9) 0 (R.length+1) none) (Az Ab))->gt Hf (m+9)=some (Rj (Ah (R++[l])))->
   MB dc W g qc Ab a' ow (.sl (m+9) 0 (R.length+1) none) Hf/\NL Ab F ls hd kd Hf (m+10)/\Kx Ab ls hd (.sl (m+9) 0 (R.length+1) none) (R++[l]) (m+9) Hf (m+10):=by
  intro Hf f1 f2 f3
  have hrb: ∀i,i<8->R≠[]->i≠hr:=λi hi hRn=>by have:=(hR.own hRn).2.1;omega
  refine⟨⟨?_,?_,f2,?_,?_,?_⟩,?_,⟨λh=>by simp at h,λ_=>⟨by rw[aR];rfl,o_,o_,f3⟩,λ_ j hj hS hl'=>?_⟩⟩
  .rw[f1 0 o_ o_ o_ (hrb 0 o_),ng 0 o_];exact h0
  .rw[f1 1 o_ o_ o_ (hrb 1 o_),ng 1 o_];exact h1
  .rw[f1 4 o_ o_ o_ (hrb 4 o_),ng 4 o_];exact h4
  .rw[f1 6 o_ o_ o_ (hrb 6 o_)];exact n6
  .rw[f1 7 o_ o_ o_ (hrb 7 o_),ng 7 o_];exact h7
  .refine hN.frame o_ ?_ (λj hj hS hl'=>?_)
   .rw[f1 2 o_ o_ o_ (hrb 2 o_),ng 2 o_]
   .obtain⟨o1,o2,o3,o4,o5⟩:=hN.own j hj hS hl'
    rw[f1 (hd j) o_ o_ o_ (λhRn=>hR.sep hRn j hj hS hl'),ng (hd j) o_]
  .have:=(hN.own j hj hS hl').2.2.1
   omega
 by_cases hRn:R=[]
 .subst hRn
  obtain rfl:=hR.nil rfl
  have hf:=fin (pt (pt (pt H' (m+8) (.row 47 none [sl l])) (m+9) (Rj [sl l])) 3 (Bn g (.sl (m+9) 0 1 none) (Az Ab))) (λi i1 i2 i3 _=>by rw[Ad,if_neg i1,Ad,if_neg i3,Ad,if_neg i2]) (by rw[Ad,if_pos rfl];rfl) (by rw[Ad,if_neg o_,Ad,if_pos rfl];rfl)
  refine⟨l,_,a',hl23,ha',hf.1,hf.2.1,hf.2.2,?_⟩
  clear hf fin hN hR
  exact Bu [(189,.call ⟨w8 yy,H',m+8,[6]⟩),A5 187 (Bn g .nils (Az Ab)) (i6 g),fn 190 (sl l),A5 185 (Bn g .nils (Az Ab)) .nils,(192,.an 1 [sl l]),so (Bn g .nils (Az Ab)) [i6 g,.sl (m+9) 0 1 none,Az Ab],toO (Hg Ab L k x y)] (let z2:=[i6 g,V.nils,Az Ab];let z3:=pt H' (m+8) (O.row 47 none [sl l]);[_,_,Ae (Af (0+0) z2)=some (i6 g),_,_,Ae (Af 1 z2)=some V.nils,An [A6 z3 1 (V.sl (m+8) 0 1 (some 0))=some (1,[sl l]),1<=9223372036854775807,1*24<=140737488355328],An [gt (pt z3 (m+8+1) (O.row 47 (some 1) [sl l])) 3=(some (Bn g V.nils (Az Ab))),Bg 1 z2 [V.sl (m+8+1) 0 1 none]=some [i6 g,V.sl (m+9) 0 1 none,Az Ab]]]) ⟨hnext,n3,gq,hwt,n3,gq,⟨G2 (by exact gq),a_⟩,⟨gq,gq⟩⟩
 .obtain⟨hrv,r1,r2,r3⟩:=hR.own hRn
  subst hrv
  obtain⟨kk,rfl⟩: ∃kk,hr=kk+8:=⟨hr-8,o_⟩
  have n8:gt H' (kk+8)=some (.row 47 (some 1) (Ah R)):=by rw[ng (kk+8) o_];exact r3
  have hRf:=B7 R
  have hRl:(Ah R).length=R.length:=by unfold Ah;rw[fA]
  have eR:Ah (R++[l])=Ah R++[sl l]:=by unfold Ah;rw[bP];rfl
  rw[eR]at fin
  have hf:=fin (pt (pt (pt (pt H' (m+8) (.row 47 none [sl l])) (kk+8) .dead) (m+9) (Rj (Ah R++[sl l]))) 3 (Bn g (.sl (m+9) 0 (R.length+1) none) (Az Ab))) (λi i1 i2 i3 i4=>by rw[Ad,if_neg i1,Ad,if_neg i3,Ad,if_neg (i4 hRn),Ad,if_neg i2]) (by rw[Ad,if_pos rfl]) (by rw[Ad,if_neg o_,Ad,if_pos rfl])
  refine⟨l,_,a',hl23,ha',hf.1,hf.2.1,hf.2.2,?_⟩
  clear hf fin hN hR
  generalize Ah R=RR,R.length=q at*
  exact Bu [(189,.call ⟨w8 yy,H',m+8,[6]⟩),A5 187 (Bn g (.sl (kk+8) 0 q none) (Az Ab)) (i6 g),fn 190 (sl l),A5 185 (Bn g (.sl (kk+8) 0 q none) (Az Ab)) (.sl (kk+8) 0 q none),(192,.aop (Rj RR) 1 [sl l]),so (Bn g (.sl (kk+8) 0 q none) (Az Ab)) [i6 g,.sl (m+9) 0 (q+1) none,Az Ab],toO (Hg Ab L k x y)] (let z0:=V.sl (kk+8) 0 q none;let z2:=pt H' (m+8) (O.row 47 none [sl l]);let z5:=[i6 g,z0,Az Ab];[_,_,Ae (Af (0+0) z5)=some (i6 g),_,_,Ae (Af 1 z5)=some z0,A6 z2 1 (V.sl (m+8) 0 1 (some 0))=some (1,[sl l]),An [gt z2 (kk+8)=some (Rj RR),RR.length=q*1,1<=1,q+1<=9223372036854775807,(q+1)*24<=140737488355328,Bl [sl l]=true],An [gt (pt (pt z2 (kk+8) O.dead) (m+8+1) (O.row 47 (some 1) (RR++[sl l]))) 3=(some (Bn g z0 (Az Ab))),Bg 1 z5 [V.sl (m+8+1) 0 (q+1) none]=some [i6 g,V.sl (m+9) 0 (q+1) none,Az Ab]]]) ⟨hnext,n3,gq,hwt,n3,gq,G2 (by exact gq),⟨gq,aq,aq,aq,aq,gq⟩,⟨gq,gq⟩⟩
end
section
variable {gr:Nat} {NN:List Pc} {SS:List (Nat×Nat)} {W Q:List Nat} {g:Int} {P:List Pc} {Ab:Nat} (L:List Nat)
 (hc:1<=Ab/\Ab<=4) (hg:2<=g/\g<=12) (ok:J5 gr NN SS W Q) (hP:P.length=Ab) (hPo: ∀x∈P,Fo x)
include hc hg ok hP hPo
theorem Xm{a:Nat}{ow:Nat->Bool}{rv:V}(hB:MB (Ia gr NN SS W Q) W g (Ea P) Ab a ow rv H)(k:Nat)(hk:k<SS.length)(hk2:k<2)(x:Nat×Nat)(hx:SS[k]? =some x):
  To 365 (aT 6 11111111111101000) (Nm Ab L k) H nx .normal (Nm Ab L k) H nx/\
  To 365 (aT 6 11111111111101001000) (Nm Ab L k) H nx .normal (Hg Ab L k (x.1%Ab) (x.2%Ab)) H nx:=by
 have h0:gt H 0=some (.row 26 none [w8 gr,.im NN.length (Ea NN),.im SS.length (Km SS),bl W,bl Q]):=hB.h0
 obtain⟨b1,b2⟩:=ok.s x (bG hx)
 obtain⟨r,hr⟩:=R4 hx
 have hLf:=Fm L
 have hpf:=nM SS
 have hsl:=ok.sl
 have m1:=Og (G:=B1 Pg) (t:=3) (a:=x.1) (b:=Ab) o_
 have m2:=Og (G:=B1 Pg) (t:=3) (a:=x.2) (b:=Ab) o_
 obtain⟨u,w⟩:=x
 dsimp only at*
 have hd1:Ae ((Km SS).drop (k*2))=some (w8 u):=by rw[hr];rfl
 have hd2:Ae (((Km SS).drop (k*2)).drop 1)=some (w8 w):=by rw[hr];rfl
 have hd3:Ae (Af 1 ((Km SS).drop (k*2)))=some (w8 w):=by rw[hr];rfl
 generalize u%Ab=p,w%Ab=q at*
 clear hr
 generalize Km SS=PP,Ea NN=NP at*
 constructor
 .exact Bu [A5 122 (.row 26 none [w8 gr,.im NN.length NP,.im SS.length PP,bl W,bl Q]) (.im SS.length PP),As 124,As 127,toO (Nm Ab L k)] [_,Ae (Af (0+2) [w8 ↑gr,V.im NN.length NP,V.im SS.length PP,bl W,bl Q])=some (V.im SS.length PP),_,decide ((↑k:Int)<(2:Int))=true] ⟨h0,(by rfl),Bf hk,aq⟩
 .exact Bu [A5 132 (.row 26 none [w8 gr,.im NN.length NP,.im SS.length PP,bl W,bl Q]) (.im SS.length PP),pl 134,ld 136 (w8 u),nu 137 u,va 139 (i6 p),A5 141 (.row 26 none [w8 gr,.im NN.length NP,.im SS.length PP,bl W,bl Q]) (.im SS.length PP),pl 143,ld 145 (w8 w),nu 146 w,va 148 (i6 q),toO (Hg Ab L k p q)] (let z1:=V.im SS.length PP;let z6:=List.drop (k*2) PP;let z5:=Ae (Af (0+2) [w8 ↑gr,V.im NN.length NP,z1,bl W,bl Q]);[_,z5=some z1,_,Ae (List.drop (Int.toNat (0:Int)*1) z6)=some (w8 ↑u),wr .i64 (↑u:Int)=(↑u:Int),_,_,z5=some z1,_,Ae (List.drop (Int.toNat (1:Int)*1) z6)=some (w8 ↑w),wr .i64 (↑w:Int)=(↑w:Int),_]) ⟨h0,(by rfl),Ar hk,aq,aq,m1,h0,(by rfl),Ar hk,aq,aq,m2⟩
omit ok in
theorem sP(k a b:Nat)(t:Bool)(ht:t=decide (a≠b)):To 365 (aT 6 111111111111010010010) (Hg Ab L k a b) H nx .normal (Hg Ab L k a b++[(151,.bool t)]) H nx/\
  (k<=1000->To 365 (aT 6 111111111111010011) (Hg Ab L k a b) H nx .normal (Nm Ab L (k+1)) H nx):=by
 have hLf:=Fm L
 constructor
 .refine To.of_vc (n:=100) (hs:=[(151,.bool t),toO (Hg Ab L k a b++[(151,.bool t)])]) λnx0 lg G hG=>?_
  have hb:(((a:Nat):Int) != ((b:Nat):Int))=t:=by
   rw[ht]
   by_cases h:a=b
   .subst h;simp
   .rw[YW o_,decide_eq_true h]
  exact m_ (p:=An [_,G Ex.normal (Hg Ab L k a b++[(151,V.bool t)]) H nx lg,Sm (V.ptr 0 0),Sm (V.ptr 1 0),Sm (i6 ↑Ab),Sm (V.ptr 3 0),Sm (Ij Ab),Sm (V.im Ab (it L)),Sm (V.ptr 6 0),Sm (V.sl 7 0 Ab (some (Ab-Ab))),Sm (i6 ↑k),Sm (i6 ↑a),Sm (i6 ↑b),Sm (V.bool t),_]) ⟨hb,aq,aq,aq,aq,aq,aq,aq,aq,aq,aq,aq,aq,aq,tq⟩
 .intro hk
  exact Bu [nu 130 (k+1:Nat),toO (Nm Ab L (k+1))] [_] (Dw k o_)
end
section
variable {gr:Nat} {NN:List Pc} {SS:List (Nat×Nat)} {W Q:List Nat} {g:Int} {P:List Pc} {Ab:Nat} (L:List Nat)
 (hc:1<=Ab/\Ab<=4) (hg:2<=g/\g<=12) (ok:J5 gr NN SS W Q) (hP:P.length=Ab) (hPo: ∀x∈P,Fo x)
include hc hg ok hP hPo
theorem Qy(k i j:Nat)(hi:i<=100)(hj:j<=100)(hk:k<SS.length)(hk2:k<2)(H:T O)(nx:Nat)(h:MQ (Ia gr NN SS W Q) W g P Ab i j H nx): ∃H' nx',MQ (Ia gr NN SS W Q) W g P Ab (i+1) (j+1) H' nx'/\To 365 (aT 6 1111111111110100) (Nm Ab L k) H nx .normal (Nm Ab L (k+1)) H' nx':=by
 obtain⟨m,a,ow,rv,F,ls,hd,kd,R,hr,rfl,ha,hB,hN,hR,hQ,hK⟩:=h
 have hrl:=hQ.rn
 obtain⟨s,hs⟩: ∃s,SS[k]? =some s:=⟨SS[k]' o_,aB _⟩
 obtain⟨t1,t2⟩:=Xm L hc hg ok hP hPo hB (nx:=m+8) k hk hk2 s hs
 have hx:s.1%Ab<Ab:=aY _ o_
 have hy:s.2%Ab<Ab:=aY _ o_
 generalize s.1%Ab=x,s.2%Ab=y at*
 -- the whole round, from what the branch does
 have whole: ∀(H':T O)(nx':Nat),To 365 (aT 6 111111111111010010011) (Hg Ab L k x y++[(151,.bool (decide (x≠y)))]) H (m+8) .normal (Hg Ab L k x y) H' nx'->To 365 (aT 6 1111111111110100) (Nm Ab L k) H (m+8) .normal (Nm Ab L (k+1)) H' nx':=λH' nx' hb=>
  To.seq (b:=aT 6 11111111111101001) k_ t1 (To.seq (b:=aT 6 111111111111010011) (a:=aT 6 111111111111010010) k_ (To.blockN (id:=5) (b:=aT 6 1111111111110100100) k_ (λh=>by cases h) (To.seq (b:=aT 6 11111111111101001001) k_ t2 (To.seq (b:=aT 6 111111111111010010011) k_ (sP L hc hg hP hPo k x y (decide (x≠y)) rfl).1 hb))) ((sP L hc hg hP hPo k x y (decide (x≠y)) rfl).2 o_))
 by_cases hxy:x=y
 .refine⟨H,m+8,⟨m,a,ow,rv,F,ls,hd,kd,R,hr,rfl,o_,hB,hN,hR,⟨hQ.num,hQ.fr,hQ.no,λv hv=>Nat.le_succ_of_le (hQ.len v hv),o_,hQ.ow,hQ.rl⟩,hK⟩,whole _ _ ?_⟩
  subst hxy
  refine To.cond (x:=aT 6 1111111111110100100110) (y:=.skip) (o:=.tmp 151) k_ false (by rw[decide_eq_false s_];rfl) ?_
  refine To.of_vc (n:=100) (hs:=[toO (Hg Ab L k x x)]) λnx0 lg G hG=>?_
  show vc Pg vE E0 none nx0 100 .skip _ _ _
  have hLf:=Fm L
  clear whole t1 t2 hB hN hR hQ hK
  exact m_ (p:=An [G Ex.normal (Hg Ab L k x x) H (m+8) lg,Sm (V.ptr 0 0),Sm (V.ptr 1 0),Sm (i6 ↑Ab),Sm (V.ptr 3 0),Sm (Ij Ab),Sm (V.im Ab (it L)),Sm (V.ptr 6 0),Sm (V.sl 7 0 Ab (some (Ab-Ab))),Sm (i6 ↑k),Sm (i6 ↑x),Sm (i6 ↑x),_]) ⟨aq,aq,aq,aq,aq,aq,aq,aq,aq,aq,aq,aq,tq⟩
 .have hRn: ∀v,v<Ab ->ls (4*v+2)≠[] ->R≠[]:=λv hv hl e=>by
   obtain⟨z,zs,hz⟩:=List.exists_cons_of_ne_nil hl
   have:=hQ.no v hv z (by rw[hz];exact aZ)
   rw[e]at this
   simp at this
   omega
  obtain⟨H1,hB1,hN1,hR1,p1⟩:=FZ L hc hB hN hR hK o_ k x y hx (by have:=hQ.len x hx;omega) (hRn x hx)
  have e1:Bz ls (4*x+2) (ls (4*x+2)++[(R.length:Int)]) (4*y+2)=ls (4*y+2):=Cn o_
  obtain⟨H2,hB2,hN2,hR2,p2⟩:=FY (m:=m+2) L hc hB1 hN1 hR1 (hK.up _ _) o_ k x y hy (by rw[e1];have:=hQ.len y hy;omega) (by rw[e1];exact hRn y hy)
  rw[e1]at hN2 hR2
  have hK2:=(hK.up (4*x+2) (ls (4*x+2)++[(R.length:Int)])).up (4*y+2) (ls (4*y+2)++[(R.length:Int)])
  obtain⟨l,H3,a',hl,ha',hB3,hN3,hR3,p3⟩:=FV (m:=m+4) L hg ok.w ok.wl o_ hB2 hN2 hR2 o_ k x y
  refine⟨H3,m+14,⟨m+6,a',ow,_,_,_,_,_,_,_,rfl,o_,hB3,hN3,hR3,⟨λv hv=>?_,λv hv=>?_,λv hv z hz=>?_,λv hv=>?_,?_,λv hv ho=>?_,λl' hl'=>?_⟩,hK2⟩,whole _ _ ?_⟩
  .rw[Cn o_,Cn o_];exact hQ.num v hv
  .rw[Cn o_,Cn o_,Cn o_,Cn o_];exact hQ.fr v hv
  .rw[aR,bR]
   have old: ∀z∈ls (4*v+2),0<=z/\z<((R.length+1:Nat):Int):=λz hz=>by have:=hQ.no v hv z hz;omega
   by_cases h1:v=y
   .subst h1
    rw[Eh]at hz
    rcases aL.1 hz with hz|hz
    .exact old z hz
    .rw[aN.1 hz];omega
   .rw[Cn o_]at hz
    by_cases h2:v=x
    .subst h2
     rw[Eh]at hz
     rcases aL.1 hz with hz|hz
     .exact old z hz
     .rw[aN.1 hz];omega
    .rw[Cn o_]at hz;exact old z hz
  .have:=hQ.len v hv
   by_cases h1:v=y
   .subst h1;rw[Eh,aR,bR];omega
   .rw[Cn o_]
    by_cases h2:v=x
    .subst h2;rw[Eh,aR,bR];omega
    .rw[Cn o_];omega
  .rw[aR,bR];omega
  .by_cases h1:v=y
   .subst h1;rw[Eh];simp
   .rw[Cn o_]
    by_cases h2:v=x
    .subst h2;rw[Eh];simp
    .rw[Cn o_];exact hQ.ow v hv ho
  .rcases aL.1 hl' with h|h
   .exact hQ.rl l' h
   .rw[aN.1 h];exact hl
  .refine To.cond (x:=aT 6 1111111111110100100110) (y:=.skip) (o:=.tmp 151) k_ true (by rw[decide_eq_true hxy];rfl) ?_
   refine To.fewer (sl1:=Hg Ab L k x y) ?_ ⟨rfl,rfl,rfl,rfl,rfl,rfl,rfl,rfl,rfl,rfl,rfl,trivial⟩
   exact To.seq (b:=aT 6 11111111111101001001101) k_ p1 (To.seq (b:=aT 6 111111111111010010011011) k_ p2 p3)
theorem Xl(H:T O)(nx:Nat)(h:MQ (Ia gr NN SS W Q) W g P Ab Ab 1 H nx): ∃H' nx',MQ (Ia gr NN SS W Q) W g P Ab (Ab+2) 3 H' nx'/\To 365 (aT 6 1111111111110) (Ix Ab L) H nx .normal (Ix Ab L) H' nx':=by
 have more: ∀i j H nx,i<=Ab+2->j<=3->MQ (Ia gr NN SS W Q) W g P Ab i j H nx->MQ (Ia gr NN SS W Q) W g P Ab (Ab+2) 3 H nx:=λi j H nx hi hj⟨m,a,ow,rv,F,ls,hd,kd,R,hr,e,ha,hB,hN,hR,hQ,hK⟩=>⟨m,a,ow,rv,F,ls,hd,kd,R,hr,e,o_,hB,hN,hR,⟨hQ.num,hQ.fr,hQ.no,λv hv=>aP (hQ.len v hv) hj,aP hQ.rn hi,hQ.ow,hQ.rl⟩,hK⟩
 have key: ∃e sl H' nx',(e= .exit 4/\sl=Ix Ab L/\MQ (Ia gr NN SS W Q) W g P Ab (Ab+2) 3 H' nx')/\To 365 (aT 6 111111111111010) (Nm Ab L 0) H nx e sl H' nx':=by
  refine To.loop (b:=aT 6 1111111111110100) k_ (λ(k:Nat) H nx=>k<=2/\k<=SS.length/\MQ (Ia gr NN SS W Q) W g P Ab (Ab+k) (1+k) H nx) (λk=>Nm Ab L k) (λk=>2-k) (λe sl H nx=>e= .exit 4/\sl=Ix Ab L/\MQ (Ia gr NN SS W Q) W g P Ab (Ab+2) 3 H nx) (λk H nx hI=>?_) 0 H nx ⟨aG _,aG _,h⟩
  obtain⟨hk2,hks,hM⟩:=hI
  by_cases hlt:k<SS.length/\k<2
  .obtain⟨H',nx',h1,h2⟩:=Qy L hc hg ok hP hPo k (Ab+k) (1+k) o_ o_ hlt.1 hlt.2 H nx hM
   exact .inl ⟨k+1,H',nx',⟨o_,o_,by rw[show 1+(k+1)=1+k+1 by omega,show Ab+(k+1)=Ab+k+1 by omega];exact h1⟩,o_,h2⟩
  .right
   refine⟨.exit 4,Ix Ab L,H,nx,(λh=>by cases h),⟨rfl,rfl,more _ _ _ _ o_ o_ hM⟩,?_⟩
   obtain⟨m,a,ow,rv,F,ls,hd,kd,R,hr,rfl,ha,hB,hN,hR,hQ,hK⟩:=hM
   have h0:gt H 0=some (.row 26 none [w8 gr,.im NN.length (Ea NN),.im SS.length (Km SS),bl W,bl Q]):=hB.h0
   have hLf:=Fm L
   have hpf:=nM SS
   clear hB hN hR hQ hK more
   generalize Km SS=PP,Ea NN=NP at*
   by_cases h1:k<SS.length
   .exact Bu [A5 122 (.row 26 none [w8 gr,.im NN.length NP,.im SS.length PP,bl W,bl Q]) (.im SS.length PP),As 124,no 127,toO (Ix Ab L)] [_,Ae (Af (0+2) [w8 ↑gr,V.im NN.length NP,V.im SS.length PP,bl W,bl Q])=some (V.im SS.length PP),_,decide ((↑k:Int)<(2:Int))=false] ⟨h0,(by rfl),Bf h1,aq⟩
   .exact Bu [A5 122 (.row 26 none [w8 gr,.im NN.length NP,.im SS.length PP,bl W,bl Q]) (.im SS.length PP),no 124,toO (Ix Ab L)] [_,Ae (Af (0+2) [w8 ↑gr,V.im NN.length NP,V.im SS.length PP,bl W,bl Q])=some (V.im SS.length PP),_] ⟨h0,(by rfl),Cq h1⟩
 obtain⟨e,sl,H',nx',⟨rfl,rfl,h1⟩,h3⟩:=key
 refine⟨H',nx',h1,To.seq (sl1:=Nm Ab L 0) (H1:=H) (nx1:=nx) k_ (b:=aT 6 11111111111101) (a:=aT 6 11111111111100) ?_ (To.block k_ h3)⟩
 have hLf:=Fm L
 clear h h1 h3 more
 exact Bu [toO (Nm Ab L 0)] [] trivial
end
abbrev Iw(Ab:Nat)(q:List Nat)(i v u k:Nat):List (Nat×V):=[(1,.ptr 0 0),(2,.ptr 1 0),(3,i6 Ab),(4,.ptr 3 0),(5,Ij Ab),(6,.im Ab (it q)),(7,.ptr 6 0),(9,.sl 7 0 Ab (some (Ab-Ab))),(14,i6 i),(15,i6 v),(16,i6 u),(17,i6 k)]
abbrev Ii(Ab:Nat)(q:List Nat)(i v n:Nat)(A:List V)(c b:Nat):List (Nat×V):=[(1,.ptr 0 0),(2,.ptr 1 0),(3,i6 Ab),(4,.ptr 3 0),(5,Ij Ab),(6,.im Ab (it q)),(7,.ptr 6 0),(9,.sl 7 0 Ab (some (Ab-Ab))),(14,i6 i),(15,i6 v),(18,.im n A),(19,i6 c),(20,i6 b)]
section
variable {dc:List V} {W:List Nat} {g:Int} {qc:List V} {Ab a:Nat} {ow:Nat->Bool} {rv:V} {H:T O} {m:Nat} {F:Nat->V} {ls:Nat->List Int} {hd:Nat->Nat} {kd:Nat->Bool} {R:List (List Int)} {hr:Nat} (L:List Nat)
 (hc:1<=Ab/\Ab<=4) (hB:MB dc W g qc Ab a ow rv H) (hN:NL Ab F ls hd kd H (m+8)) (hR:Kx Ab ls hd rv R hr H (m+8))
include hc hB hN hR
theorem FX(i v u k:Nat)(hv:v<Ab)(hl:(ls (4*v+1)).length<=100000)(hk:ls (4*v+1)≠[]->kd (4*v+1)=true): ∃H':T O,MB dc W g qc Ab a ow rv H'/\NL Ab (Bz F (4*v+1) (.sl (m+9) 0 ((ls (4*v+1)).length+1) none)) (Bz ls (4*v+1) (ls (4*v+1)++[(u:Int)])) (Bz hd (4*v+1) (m+9)) (Bz kd (4*v+1) true) H' (m+10)/\Kx Ab (Bz ls (4*v+1) (ls (4*v+1)++[(u:Int)])) (Bz hd (4*v+1) (m+9)) rv R hr H' (m+10)/\
  To 365 (aT 6 111111111111101001001010010010010010) (Iw Ab L i v u k) H (m+8) .normal (Iw Ab L i v u k) H' (m+10):=by
 have fin:=YL hB hN hR (4*v+1) o_ (Fl o_) (u:Int)
 have hlay:=Pi (n:=4*Ab) (k:=4*v+1) (F:=F) (x:=.sl (m+9) 0 ((ls (4*v+1)).length+1) none) o_
 have hcell:=Pl (n:=4*Ab) (k:=4*v+1) (F:=F) o_
 have h2:gt H 2=some (.row 86 none (Aj (4*Ab) F)):=hN.row
 obtain⟨h0,h1,h3,h4,h6,h7⟩:=hB
 have hLf:=Fm L
 generalize hC2:Aj (4*Ab) (Bz F (4*v+1) (.sl (m+9) 0 ((ls (4*v+1)).length+1) none))=C2 at*
 by_cases hnil:ls (4*v+1)=[]
 .clear hk
  rw[hN.nil _ o_ (Fl o_) hnil]at hcell
  have hf:=fin (pt (pt (pt H (m+8) (.row 3 none [i6 (u:Int)])) (m+9) (.row 3 (some 1) [i6 (u:Int)])) 2 (.row 86 none C2)) (λi i1 i2 i3 i4=>by rw[Ad,if_neg i1,Ad,if_neg i3,Ad,if_neg i2]) (by rw[Ad,if_pos rfl]) (by rw[Ad,if_neg o_,Ad,if_pos rfl,hnil];rfl)
  refine⟨_,hf.1,hf.2.1,hf.2.2,?_⟩
  clear hf fin hN hR
  rw[hnil]at hlay hC2
  generalize Aj (4*Ab) F=C1 at*
  exact Bu [A5 235 (Bn g rv (Az Ab)) (Az Ab),pl 237,A5 239 (.row 86 none C1) .nils,(242,.an 1 [i6 (u:Int)]),A5 232 (Bn g rv (Az Ab)) (Az Ab),pl 243,so (.row 86 none C1) C2,toO (Iw Ab L i v u k)] (let z1:=Ae (Af (0+2) [i6 g,rv,Az Ab]);let z2:=pt H (m+8) (O.row 3 none [i6 ↑u]);let z0:=pt z2 (m+8+1) (O.row 3 (some 1) [i6 ↑u]);[_,z1=some (Az Ab),_,_,Ae (Af (0+v*4+1) C1)=some V.nils,An [A6 z2 1 (V.sl (m+8) 0 1 (some 0))=some (1,[i6 ↑u]),1<=9223372036854775807,1*8<=140737488355328],gt z0 3=(some (Bn g rv (Az Ab))),z1=some (Az Ab),_,An [gt z0 2=(some (O.row 86 none C1)),Bg (0+v*4+1) C1 [V.sl (m+8+1) 0 1 none]=some C2]]) ⟨h3,gq,Ar hv,h2,(by(rw[show 0+v*4+1=4*v+1 by omega];first|exact hcell|exact hlay)),⟨G2 (by exact gq),a_⟩,gq,gq,Ar hv,⟨gq,(by(rw[show 0+v*4+1=4*v+1 by omega];first|exact hcell|exact hlay))⟩⟩
 .obtain⟨o1,o2,o3,o4,o5⟩:=hN.own _ o_ (Fl o_) hnil
  have hkd:=hk hnil
  rw[o1]at hcell
  generalize hd (4*v+1)=h9 at*
  obtain⟨kk,rfl⟩: ∃kk,h9=kk+8:=⟨h9-8,o_⟩
  rw[hkd]at hcell o5
  have o5:gt H (kk+8)=some (.row 3 (some 1) (Aa (ls (4*v+1)))):=o5
  have hcell:Ae (Af (4*v+1) (Aj (4*Ab) F))=some (.sl (kk+8) 0 (ls (4*v+1)).length none):=hcell
  have il:=F5 (ls (4*v+1))
  have hif:=Ap (ls (4*v+1))
  have ia:Aa (ls (4*v+1)++[(u:Int)])=Aa (ls (4*v+1))++[i6 (u:Int)]:=JN _ _
  have hf:=fin (pt (pt (pt (pt H (m+8) (.row 3 none [i6 (u:Int)])) (kk+8) .dead) (m+9) (.row 3 (some 1) (Aa (ls (4*v+1))++[i6 (u:Int)]))) 2 (.row 86 none C2)) (λi i1 i2 i3 i4=>by rw[Ad,if_neg i1,Ad,if_neg i3,Ad,if_neg (i4 hnil),Ad,if_neg i2]) (by rw[Ad,if_pos rfl]) (by rw[Ad,if_neg o_,Ad,if_pos rfl,ia])
  refine⟨_,hf.1,hf.2.1,hf.2.2,?_⟩
  clear hf fin hN hR hnil o1 hk ia
  generalize Aa (ls (4*v+1))=l,(ls (4*v+1)).length=ll,Aj (4*Ab) F=C1 at*
  exact Bu [A5 235 (Bn g rv (Az Ab)) (Az Ab),pl 237,A5 239 (.row 86 none C1) (.sl (kk+8) 0 ll none),(242,.aop (.row 3 (some 1) l) 1 [i6 (u:Int)]),A5 232 (Bn g rv (Az Ab)) (Az Ab),pl 243,so (.row 86 none C1) C2,toO (Iw Ab L i v u k)] (let z2:=Ae (Af (0+2) [i6 g,rv,Az Ab]);let z7:=[i6 ↑u];let z1:=pt H (m+8) (O.row 3 none z7);let z0:=pt (pt z1 (kk+8) O.dead) (m+8+1) (O.row 3 (some 1) (l++z7));[_,z2=some (Az Ab),_,_,Ae (Af (0+v*4+1) C1)=some (V.sl (kk+8) 0 ll none),A6 z1 1 (V.sl (m+8) 0 1 (some 0))=some (1,z7),An [gt z1 (kk+8)=some (O.row 3 (some 1) l),l.length=ll*1,1<=1,ll+1<=9223372036854775807,(ll+1)*8<=140737488355328,Bl z7=true],gt z0 3=(some (Bn g rv (Az Ab))),z2=some (Az Ab),_,An [gt z0 2=(some (O.row 86 none C1)),Bg (0+v*4+1) C1 [V.sl (m+8+1) 0 (ll+1) none]=some C2]]) ⟨h3,gq,Ar hv,h2,(by(rw[show 0+v*4+1=4*v+1 by omega];first|exact hcell|exact hlay)),G2 (by exact gq),⟨gq,aq,aq,aq,aq,gq⟩,gq,gq,Ar hv,⟨gq,(by(rw[show 0+v*4+1=4*v+1 by omega];first|exact hcell|exact hlay))⟩⟩
theorem FW(i v n:Nat)(A:List V)(hA:Ba A)(c b p z:Nat)(hv:v<Ab)(hl:(ls (4*v+3)).length<=100000)(hk:ls (4*v+3)≠[]->kd (4*v+3)=true)(hp:F (4*v)=i6 p)(hp0:p≠0)(hz:b%p=z): ∃H':T O,MB dc W g qc Ab a ow rv H'/\NL Ab (Bz F (4*v+3) (.sl (m+9) 0 ((ls (4*v+3)).length+1) none)) (Bz ls (4*v+3) (ls (4*v+3)++[(z:Int)])) (Bz hd (4*v+3) (m+9)) (Bz kd (4*v+3) true) H' (m+10)/\Kx Ab (Bz ls (4*v+3) (ls (4*v+3)++[(z:Int)])) (Bz hd (4*v+3) (m+9)) rv R hr H' (m+10)/\
  To 365 (aT 6 11111111111110100100111100100111) (Ii Ab L i v n A c b) H (m+8) .normal (Ii Ab L i v n A c b) H' (m+10):=by
 have fin:=YL hB hN hR (4*v+3) o_ (Fl o_) (z:Int)
 have hlay:=Pi (n:=4*Ab) (k:=4*v+3) (F:=F) (x:=.sl (m+9) 0 ((ls (4*v+3)).length+1) none) o_
 have hcell:=Pl (n:=4*Ab) (k:=4*v+3) (F:=F) o_
 have h2:gt H 2=some (.row 86 none (Aj (4*Ab) F)):=hN.row
 obtain⟨h0,h1,h3,h4,h6,h7⟩:=hB
 have hLf:=Fm L
 have hw:=Og (G:=B1 Pg) (t:=3) (a:=b) (b:=p) o_
 rw[hz]at hw
 have hcd:=Pl (n:=4*Ab) (k:=4*v) (F:=F) o_
 rw[hp]at hcd
 generalize hC2:Aj (4*Ab) (Bz F (4*v+3) (.sl (m+9) 0 ((ls (4*v+3)).length+1) none))=C2 at*
 by_cases hnil:ls (4*v+3)=[]
 .clear hk
  rw[hN.nil _ o_ (Fl o_) hnil]at hcell
  have hf:=fin (pt (pt (pt H (m+8) (.row 3 none [i6 (z:Int)])) (m+9) (.row 3 (some 1) [i6 (z:Int)])) 2 (.row 86 none C2)) (λi i1 i2 i3 i4=>by rw[Ad,if_neg i1,Ad,if_neg i3,Ad,if_neg i2]) (by rw[Ad,if_pos rfl]) (by rw[Ad,if_neg o_,Ad,if_pos rfl,hnil];rfl)
  refine⟨_,hf.1,hf.2.1,hf.2.2,?_⟩
  clear hf fin hN hR
  rw[hnil]at hlay hC2
  generalize Aj (4*Ab) F=C1 at*
  exact Bu [A5 347 (Bn g rv (Az Ab)) (Az Ab),pl 349,A5 351 (.row 86 none C1) .nils,A5 354 (Bn g rv (Az Ab)) (Az Ab),pl 356,A5 358 (.row 86 none C1) (i6 p),va 359 (i6 z),(361,.an 1 [i6 (z:Int)]),A5 344 (Bn g rv (Az Ab)) (Az Ab),pl 362,so (.row 86 none C1) C2,toO (Ii Ab L i v n A c b)] (let z1:=Ae (Af (0+2) [i6 g,rv,Az Ab]);let z5:=pt H (m+8) (O.row 3 none [i6 ↑z]);let z7:=some (Az Ab);let z0:=pt z5 (m+8+1) (O.row 3 (some 1) [i6 ↑z]);[_,z1=z7,_,_,Ae (Af (0+v*4+3) C1)=some V.nils,_,z1=z7,_,_,Ae (Af (0+v*4+0) C1)=some (i6 ↑p),_,An [A6 z5 1 (V.sl (m+8) 0 1 (some 0))=some (1,[i6 ↑z]),1<=9223372036854775807,1*8<=140737488355328],gt z0 3=(some (Bn g rv (Az Ab))),z1=z7,_,An [gt z0 2=(some (O.row 86 none C1)),Bg (0+v*4+3) C1 [V.sl (m+8+1) 0 1 none]=some C2]]) ⟨h3,gq,Ar hv,h2,(by(rw[show 0+v*4+3=4*v+3 by omega];first|exact hcell|exact hlay)),h3,gq,Ar hv,h2,(by(rw[show 0+v*4+0=4*v by omega];exact hcd)),hw,⟨G2 (by exact gq),a_⟩,gq,gq,Ar hv,⟨gq,(by(rw[show 0+v*4+3=4*v+3 by omega];first|exact hcell|exact hlay))⟩⟩
 .obtain⟨o1,o2,o3,o4,o5⟩:=hN.own _ o_ (Fl o_) hnil
  have hkd:=hk hnil
  rw[o1]at hcell
  generalize hd (4*v+3)=h9 at*
  obtain⟨kk,rfl⟩: ∃kk,h9=kk+8:=⟨h9-8,o_⟩
  rw[hkd]at hcell o5
  have o5:gt H (kk+8)=some (.row 3 (some 1) (Aa (ls (4*v+3)))):=o5
  have hcell:Ae (Af (4*v+3) (Aj (4*Ab) F))=some (.sl (kk+8) 0 (ls (4*v+3)).length none):=hcell
  have il:=F5 (ls (4*v+3))
  have hif:=Ap (ls (4*v+3))
  have ia:Aa (ls (4*v+3)++[(z:Int)])=Aa (ls (4*v+3))++[i6 (z:Int)]:=JN _ _
  have hf:=fin (pt (pt (pt (pt H (m+8) (.row 3 none [i6 (z:Int)])) (kk+8) .dead) (m+9) (.row 3 (some 1) (Aa (ls (4*v+3))++[i6 (z:Int)]))) 2 (.row 86 none C2)) (λi i1 i2 i3 i4=>by rw[Ad,if_neg i1,Ad,if_neg i3,Ad,if_neg (i4 hnil),Ad,if_neg i2]) (by rw[Ad,if_pos rfl]) (by rw[Ad,if_neg o_,Ad,if_pos rfl,ia])
  refine⟨_,hf.1,hf.2.1,hf.2.2,?_⟩
  clear hf fin hN hR hnil o1 hk ia
  generalize Aa (ls (4*v+3))=l,(ls (4*v+3)).length=ll,Aj (4*Ab) F=C1 at*
  exact Bu [A5 347 (Bn g rv (Az Ab)) (Az Ab),pl 349,A5 351 (.row 86 none C1) (.sl (kk+8) 0 ll none),A5 354 (Bn g rv (Az Ab)) (Az Ab),pl 356,A5 358 (.row 86 none C1) (i6 p),va 359 (i6 z),(361,.aop (.row 3 (some 1) l) 1 [i6 (z:Int)]),A5 344 (Bn g rv (Az Ab)) (Az Ab),pl 362,so (.row 86 none C1) C2,toO (Ii Ab L i v n A c b)] (let z1:=Ae (Af (0+2) [i6 g,rv,Az Ab]);let z7:=some (Az Ab);let z9:=[i6 ↑z];let z2:=pt H (m+8) (O.row 3 none z9);let z0:=pt (pt z2 (kk+8) O.dead) (m+8+1) (O.row 3 (some 1) (l++z9));[_,z1=z7,_,_,Ae (Af (0+v*4+3) C1)=some (V.sl (kk+8) 0 ll none),_,z1=z7,_,_,Ae (Af (0+v*4+0) C1)=some (i6 ↑p),_,A6 z2 1 (V.sl (m+8) 0 1 (some 0))=some (1,z9),An [gt z2 (kk+8)=some (O.row 3 (some 1) l),l.length=ll*1,1<=1,ll+1<=9223372036854775807,(ll+1)*8<=140737488355328,Bl z9=true],gt z0 3=(some (Bn g rv (Az Ab))),z1=z7,_,An [gt z0 2=(some (O.row 86 none C1)),Bg (0+v*4+3) C1 [V.sl (m+8+1) 0 (ll+1) none]=some C2]]) ⟨h3,gq,Ar hv,h2,(by(rw[show 0+v*4+3=4*v+3 by omega];first|exact hcell|exact hlay)),h3,gq,Ar hv,h2,(by(rw[show 0+v*4+0=4*v by omega];exact hcd)),hw,G2 (by exact gq),⟨gq,aq,aq,aq,aq,gq⟩,gq,gq,Ar hv,⟨gq,(by(rw[show 0+v*4+3=4*v+3 by omega];first|exact hcell|exact hlay))⟩⟩
end
theorem qT{n:Int}(h1:0<=n)(h2:n<=18446744073709551615):wr .u64 n=n:=Vu h1 h2
structure Q6(Ab:Nat)(ow:Nat->Bool)(F:Nat->V)(ls:Nat->List Int)(kd:Nat->Bool)(R:List (List Int)):Prop where
 num: ∀v,v<Ab->∃c:Int,(c=2\/c=3)/\F (4*v)=i6 c
 no: ∀v,v<Ab->∀z∈ls (4*v+2),0<=z/\z<R.length
 nl: ∀v,v<Ab->(ls (4*v+2)).length<=3
 rn:R.length<=6
 ow: ∀v,v<Ab->ow v=true->ls (4*v+2)≠[]
 rl: ∀L∈R,L.length=2\/L.length=3
 fe: ∀v,v<Ab->∀z∈ls (4*v+1),0<=z/\z<Ab
 fl: ∀v,v<Ab->(ls (4*v+1)).length<=5
 ol: ∀v,v<Ab->(ls (4*v+3)).length<=5000
 kf: ∀v,v<Ab->ls (4*v+1)≠[]->kd (4*v+1)=true
 ko: ∀v,v<Ab->ls (4*v+3)≠[]->kd (4*v+3)=true
def M6(dc:List V)(W:List Nat)(g:Int)(P:List Pc)(Ab:Nat)(Y:(Nat->List Int)->Prop)(H:T O)(nx:Nat):Prop:=
 ∃(m a:Nat)(ow:Nat->Bool)(rv:V)(F:Nat->V)(ls:Nat->List Int)(hd:Nat->Nat)(kd:Nat->Bool)(R:List (List Int))(hr:Nat),nx=m+8/\MB dc W g (Ea P) Ab a ow rv H/\NL Ab F ls hd kd H nx/\Kx Ab ls hd rv R hr H nx/\Q6 Ab ow F ls kd R/\Y ls
theorem M6.mono{dc:List V}{Ab:Nat}{Y Y':(Nat->List Int)->Prop}(h:M6 dc W g P Ab Y H nx)(hy: ∀ls,Y ls->Y' ls):M6 dc W g P Ab Y' H nx:=by
 obtain⟨m,a,ow,rv,F,ls,hd,kd,R,hr,e,hB,hN,hR,hQ,hY⟩:=h
 exact⟨m,a,ow,rv,F,ls,hd,kd,R,hr,e,hB,hN,hR,hQ,hy ls hY⟩
theorem Ta{dc:List V}{Ab:Nat}(hc:1<=Ab/\Ab<=4)(h:MQ dc W g P Ab (Ab+2) 3 H nx):M6 dc W g P Ab (λls=>∀v,v<Ab->ls (4*v+1)=[]/\ls (4*v+3)=[]) H nx:=by
 obtain⟨m,a,ow,rv,F,ls,hd,kd,R,hr,e,ha,hB,hN,hR,hQ,hK⟩:=h
 have hrn:=hQ.rn
 refine⟨m,a,ow,rv,F,ls,hd,kd,R,hr,e,hB,hN,hR,⟨hQ.num,hQ.no,hQ.len,o_,hQ.ow,hQ.rl,λv hv z hz=>?_,λv hv=>?_,λv hv=>?_,λv hv h=>absurd (hQ.fr v hv).1 h,λv hv h=>absurd (hQ.fr v hv).2 h⟩,hQ.fr⟩
 .rw[(hQ.fr v hv).1]at hz;cases hz
 .rw[(hQ.fr v hv).1];decide
 .rw[(hQ.fr v hv).2];decide
abbrev Lm(Ab:Nat)(q:List Nat)(i v u:Nat):List (Nat×V):=[(1,.ptr 0 0),(2,.ptr 1 0),(3,i6 Ab),(4,.ptr 3 0),(5,Ij Ab),(6,.im Ab (it q)),(7,.ptr 6 0),(9,.sl 7 0 Ab (some (Ab-Ab))),(14,i6 i),(15,i6 v),(16,i6 u)]
section
variable {dc:List V} {W:List Nat} {g:Int} {P:List Pc} {Ab:Nat} (L:List Nat)
 (hc:1<=Ab/\Ab<=4) (hP:P.length=Ab) (hPo: ∀x∈P,Fo x) (hl:L.length=Ab) (hm: ∀x∈L,x<Ab) (hnd:L.Nodup)
include hc hP hPo hl hm hnd
abbrev KW(Ab:Nat)(L:List Nat)(i v u k:Nat)(ls:Nat->List Int):Prop:=(∀w,w<Ab->w≠v->w∉L.take i->ls (4*w+1)=[]/\ls (4*w+3)=[])/\ls (4*v+3)=[]/\(ls (4*v+1)).length<=u+(if u∈L.take k then 1 else 0)
theorem QB(i v u k:Nat)(hi:i<Ab)(hv:v<Ab)(hu:u<Ab)(hk:k<i)(H:T O)(nx:Nat)(h:M6 dc W g P Ab (KW Ab L i v u k) H nx): ∃H' nx',M6 dc W g P Ab (KW Ab L i v u (k+1)) H' nx'/\To 365 (aT 6 1111111111111010010010100100100) (Iw Ab L i v u k) H nx .normal (Iw Ab L i v u (k+1)) H' nx':=by
 obtain⟨m,a,ow,rv,F,ls,hd,kd,R,hr,rfl,hB,hN,hR,hQ,hY⟩:=h
 have hd1:=YA (l:=L) (k:=k) o_
 have htk:L.take (k+1)=L.take k++[L.getD k 0]:=by rw[dF,aB o_,aA,aB o_];rfl
 have hLf:=Fm L
 obtain⟨x,hx⟩: ∃x,P[i]? =some x:=⟨P[i]' o_,aB _⟩
 have hpc:=(LC hx).2.1
 have hxf:=(hPo x (bG hx)).f
 have s1:=NZ (G:=B1 Pg) (t:=5) (x:=x.f) (k:=k) (K:=.u64) o_
 have s2:=IM (G:=B1 Pg) (t:=5) (x:=x.f/2^k)
 have h4:gt H 4=some (.row 88 none (Ea P)):=hB.h4
 have ynext: ∀ls:Nat->List Int,KW Ab L i v u k ls->KW Ab L i v u (k+1) ls:=λls hY=>⟨hY.1,hY.2.1,aP hY.2.2 (by
  grind)⟩
 have stay:To 365 (aT 6 1111111111111010010010100100100) (Iw Ab L i v u k) H (m+8) .normal (Iw Ab L i v u (k+1)) H (m+8)->∃H' nx',M6 dc W g P Ab (KW Ab L i v u (k+1)) H' nx'/\To 365 (aT 6 1111111111111010010010100100100) (Iw Ab L i v u k) H (m+8) .normal (Iw Ab L i v u (k+1)) H' nx':=λh=>⟨H,m+8,⟨m,a,ow,rv,F,ls,hd,kd,R,hr,rfl,hB,hN,hR,hQ,ynext ls hY⟩,h⟩
 by_cases he:L.getD k 0=u
 .rcases Nat.mod_two_eq_zero_or_one (x.f/2^k)with hb|hb
  .refine stay ?_
   rw[hb]at s2
   clear stay ynext hB hN hR hQ hY htk
   rw[he]at hd1
   generalize x.f/2^k=y1,x.f=y0,Ea P=PL at*
   exact Bu [As 210,pl 215,ld 216 (i6 u),As 218,pl 222,A5 224 (.row 88 none PL) (w8 y0),nu 226 k,va 227 (w8 y1),va 228 (w8 (0:Nat)),nu 212 (k+1:Nat),toO (Iw Ab L i v u (k+1))] (let z0:=(↑k:Int);[_,An [(0:Int)<=z0,z0<(↑Ab:Int)],_,((↑u:Int)==(↑u:Int))=true,_,_,Ae (Af (0+i*4+1) PL)=some (w8 ↑y0),wr .u64 z0=z0,_,_,_]) ⟨Bf hk,a_,hd1,aq,Ar hi,h4,(by(rw[show 0+i*4+1=4*i+1 by omega];exact hpc)),qT o_ o_,s1,s2,Dw k o_⟩
  .rw[hb]at s2
   have hu':u∉L.take k:=λh=>by
    grind[List.getElem_of_mem,List.getElem_inj]
   have hly:(ls (4*v+1)).length<=u:=by have:=hY.2.2;rw[if_neg hu']at this;exact this
   obtain⟨H',hB',hN',hR',ht⟩:=FX L hc hB hN hR i v u k hv o_ (hQ.kf v hv)
   refine⟨H',m+10,⟨m+2,a,ow,_,_,_,_,_,_,_,rfl,hB',hN',hR',⟨λw hw=>?_,λw hw z hz=>?_,λw hw=>?_,hQ.rn,λw hw ho=>?_,hQ.rl,λw hw z hz=>?_,λw hw=>?_,λw hw=>?_,λw hw hne=>?_,λw hw hne=>?_⟩,λw hw hwv hwn=>?_,?_,?_⟩,?_⟩
   .rw[Cn o_];exact hQ.num w hw
   .rw[Cn o_]at hz;exact hQ.no w hw z hz
   .rw[Cn o_];exact hQ.nl w hw
   .rw[Cn o_];exact hQ.ow w hw ho
   .by_cases hwv:w=v
    .subst hwv
     rw[Eh]at hz
     rcases aL.1 hz with hz|hz
     .exact hQ.fe w hw z hz
     grind
    .rw[Cn o_]at hz;exact hQ.fe w hw z hz
   .by_cases hwv:w=v
    .grind[Eh]
    .rw[Cn o_];exact hQ.fl w hw
   .rw[Cn o_];exact hQ.ol w hw
   .by_cases hwv:w=v
    .subst hwv;rw[Eh]
    .rw[Cn o_]at hne⊢;exact hQ.kf w hw hne
   .rw[Cn o_]at hne⊢;exact hQ.ko w hw hne
   .grind[Cn]
   .grind[Cn]
   .grind[Eh]
   .clear stay ynext hB hN hR hQ hY htk hB' hN' hR'
    rw[he]at hd1
    generalize x.f/2^k=y1,x.f=y0,Ea P=PL at*
    refine To.seq (a:=(aT 6 11111111111110100100101001001000)) (b:=(aT 6 11111111111110100100101001001001)) (sl1:=Iw Ab L i v u k) (H1:=H) (nx1:=m+8) k_ ?_ (To.seq (a:=(aT 6 111111111111101001001010010010010)) (b:=(aT 6 111111111111101001001010010010011)) (sl1:=Iw Ab L i v u k) (H1:=H') (nx1:=m+10) k_ (To.blockN (id:=11) (b:=(aT 6 1111111111111010010010100100100100)) k_ (λh=>by cases h) (To.seq (a:=(aT 6 11111111111110100100101001001001000)) (b:=(aT 6 11111111111110100100101001001001001)) (sl1:=Iw Ab L i v u k++[(230,.bool true)]) (H1:=H) (nx1:=m+8) k_ ?_ (To.cond (x:=(aT 6 111111111111101001001010010010010010)) (y:=.skip) (o:=.tmp 230) k_ true rfl (To.fewer (sl1:=Iw Ab L i v u k) ht ⟨rfl,rfl,rfl,rfl,rfl,rfl,rfl,rfl,rfl,rfl,rfl,rfl,trivial⟩)))) ?_)
    .exact Bu [As 210,toO (Iw Ab L i v u k)] [_] (Bf hk)
    .exact Bu [pl 215,ld 216 (i6 u),As 218,pl 222,A5 224 (.row 88 none PL) (w8 y0),nu 226 k,va 227 (w8 y1),va 228 (w8 (1:Nat)),toO (Iw Ab L i v u k++[(230,.bool true)])] (let z0:=(↑k:Int);[An [(0:Int)<=z0,z0<(↑Ab:Int)],_,((↑u:Int)==(↑u:Int))=true,_,_,Ae (Af (0+i*4+1) PL)=some (w8 ↑y0),wr .u64 z0=z0,_,_]) ⟨a_,hd1,aq,Ar hi,h4,(by(rw[show 0+i*4+1=4*i+1 by omega];exact hpc)),qT o_ o_,s1,s2⟩
    .exact Bu [nu 212 (k+1:Nat),toO (Iw Ab L i v u (k+1))] [_] (Dw k o_)
 .refine stay ?_
  clear stay ynext hB hN hR hQ hY htk s1 s2 hpc
  generalize L.getD k 0=p at*
  have hne:((p:Nat):Int)≠(u:Nat):=o_
  exact Bu [As 210,pl 215,ld 216 (i6 p),no 218,nu 212 (k+1:Nat),toO (Iw Ab L i v u (k+1))] [_,An [(0:Int)<=(↑k:Int),(↑k:Int)<(↑Ab:Int)],_,_,_] ⟨Bf hk,a_,hd1,qE hne,Dw k o_⟩
end
abbrev Mt(Ab:Nat)(q:List Nat)(i v:Nat):List (Nat×V):=[(1,.ptr 0 0),(2,.ptr 1 0),(3,i6 Ab),(4,.ptr 3 0),(5,Ij Ab),(6,.im Ab (it q)),(7,.ptr 6 0),(9,.sl 7 0 Ab (some (Ab-Ab))),(14,i6 i),(15,i6 v)]
section
variable {dc:List V} {W:List Nat} {g:Int} {P:List Pc} {Ab:Nat} (L:List Nat)
 (hc:1<=Ab/\Ab<=4) (hP:P.length=Ab) (hPo: ∀x∈P,Fo x) (hl:L.length=Ab) (hm: ∀x∈L,x<Ab) (hnd:L.Nodup)
include hc hP hPo hl hm hnd
abbrev Y8(Ab:Nat)(L:List Nat)(i v u:Nat)(ls:Nat->List Int):Prop:=(∀w,w<Ab->w≠v->w∉L.take i->ls (4*w+1)=[]/\ls (4*w+3)=[])/\ls (4*v+3)=[]/\(ls (4*v+1)).length<=u
theorem jL(i v u:Nat)(hi:i<Ab)(hv:v<Ab)(hu:u<Ab)(H:T O)(nx:Nat)(h:M6 dc W g P Ab (Y8 Ab L i v u) H nx): ∃H' nx',M6 dc W g P Ab (Y8 Ab L i v (u+1)) H' nx'/\To 365 (aT 6 1111111111111010010010100100) (Lm Ab L i v u) H nx .normal (Lm Ab L i v u) H' nx':=by
 have hLf:=Fm L
 have key: ∃e sl H' nx',(e= .exit 10/\sl=Lm Ab L i v u/\M6 dc W g P Ab (Y8 Ab L i v (u+1)) H' nx')/\To 365 (aT 6 111111111111101001001010010010) (Iw Ab L i v u 0) H nx e sl H' nx':=by
  refine To.loop (b:=(aT 6 1111111111111010010010100100100)) k_ (λ(k:Nat) H nx=>k<=i/\M6 dc W g P Ab (KW Ab L i v u k) H nx) (λk=>Iw Ab L i v u k) (λk=>i-k) (λe sl H nx=>e= .exit 10/\sl=Lm Ab L i v u/\M6 dc W g P Ab (Y8 Ab L i v (u+1)) H nx) (λk H nx hI=>?_) 0 H nx ⟨aG _,h.mono λls hy=>⟨hy.1,hy.2.1,by simp;exact hy.2.2⟩⟩
  obtain⟨hk,hM⟩:=hI
  by_cases hlt:k<i
  .obtain⟨H',nx',h1,h2⟩:=QB L hc hP hPo hl hm hnd i v u k hi hv hu hlt H nx hM
   exact .inl ⟨k+1,H',nx',⟨hlt,h1⟩,o_,h2⟩
  .right
   refine⟨.exit 10,Lm Ab L i v u,H,nx,(λh=>by cases h),⟨rfl,rfl,hM.mono λls hy=>⟨hy.1,hy.2.1,aP hy.2.2 (by split<;>omega)⟩⟩,?_⟩
   clear h hM
   exact Bu [no 210,toO (Lm Ab L i v u)] [_] (Cq hlt)
 obtain⟨e,sl,H',nx',⟨rfl,rfl,h1⟩,h3⟩:=key
 refine⟨H',nx',h1,To.seq (a:=(aT 6 11111111111110100100101001000)) (b:=(aT 6 11111111111110100100101001001)) (sl1:=Iw Ab L i v u 0) (H1:=H) (nx1:=nx) k_ ?_ (To.block k_ h3)⟩
 clear h h1 h3
 exact Bu [toO (Iw Ab L i v u 0)] [] trivial
theorem HI(i v:Nat)(hi:i<Ab)(hv:v<Ab)(H:T O)(nx:Nat)(h:M6 dc W g P Ab (Y8 Ab L i v 0) H nx): ∃H' nx',M6 dc W g P Ab (Y8 Ab L i v Ab) H' nx'/\To 365 (aT 6 1111111111111010010010) (Mt Ab L i v) H nx .normal (Mt Ab L i v) H' nx':=by
 have hLf:=Fm L
 have key: ∃e sl H' nx',(e= .exit 8/\sl=Mt Ab L i v/\M6 dc W g P Ab (Y8 Ab L i v Ab) H' nx')/\To 365 (aT 6 111111111111101001001010) (Lm Ab L i v 0) H nx e sl H' nx':=by
  refine To.loop (b:=(aT 6 1111111111111010010010100)) k_ (λ(u:Nat) H nx=>u<=Ab/\M6 dc W g P Ab (Y8 Ab L i v u) H nx) (λu=>Lm Ab L i v u) (λu=>Ab-u) (λe sl H nx=>e= .exit 8/\sl=Mt Ab L i v/\M6 dc W g P Ab (Y8 Ab L i v Ab) H nx) (λu H nx hI=>?_) 0 H nx ⟨aG _,h⟩
  obtain⟨hu,hM⟩:=hI
  by_cases hlt:u<Ab
  .obtain⟨H',nx',h1,h2⟩:=jL L hc hP hPo hl hm hnd i v u hi hv hlt H nx hM
   refine .inl ⟨u+1,H',nx',⟨hlt,h1⟩,o_,?_⟩
   refine To.seq (a:=(aT 6 11111111111110100100101000)) (b:=(aT 6 11111111111110100100101001)) (sl1:=Lm Ab L i v u) (H1:=H) (nx1:=nx) k_ ?_ (To.seq (a:=(aT 6 111111111111101001001010010)) (b:=(aT 6 111111111111101001001010011)) (sl1:=Lm Ab L i v u) (H1:=H') (nx1:=nx') k_ (To.blockN (id:=9) (b:=(aT 6 1111111111111010010010100100)) k_ (λh=>by cases h) h2) ?_)
   .refine To.of_vc (n:=100) (hs:=[As 205,toO (Lm Ab L i v u)]) λnx0 lg G hG=>?_
    clear h hM h1 h2
    exact m_ (p:=An [_,G Ex.normal (Lm Ab L i v u) H nx lg,Sm (V.ptr 0 0),Sm (V.ptr 1 0),Sm (i6 ↑Ab),Sm (V.ptr 3 0),Sm (Ij Ab),Sm (V.im Ab (it L)),Sm (V.ptr 6 0),Sm (V.sl 7 0 Ab (some (Ab-Ab))),Sm (i6 ↑i),Sm (i6 ↑v),Sm (i6 ↑u),_]) ⟨Bf hlt,aq,aq,aq,aq,aq,aq,aq,aq,aq,aq,aq,aq,tq⟩
   .refine To.of_vc (n:=100) (hs:=[nu 207 (u+1:Nat),toO (Lm Ab L i v (u+1))]) λnx0 lg G hG=>?_
    clear h hM h1 h2
    exact m_ (p:=An [wr .i64 ((↑u:Int)+(1:Int))=(↑(u+1):Int),G Ex.normal (Lm Ab L i v (u+1)) H' nx' lg,Sm (V.ptr 0 0),Sm (V.ptr 1 0),Sm (i6 ↑Ab),Sm (V.ptr 3 0),Sm (Ij Ab),Sm (V.im Ab (it L)),Sm (V.ptr 6 0),Sm (V.sl 7 0 Ab (some (Ab-Ab))),Sm (i6 ↑i),Sm (i6 ↑v),Sm (i6 ↑(u+1)),_]) ⟨aq,aq,aq,aq,aq,aq,aq,aq,aq,aq,aq,aq,aq,tq⟩
  .obtain rfl:u=Ab:=o_
   right
   refine⟨.exit 8,Mt u L i v,H,nx,(λh=>by cases h),⟨rfl,rfl,hM⟩,?_⟩
   refine To.of_vc (n:=100) (hs:=[no 205,toO (Mt u L i v)]) λnx0 lg G hG=>?_
   clear h hM
   exact m_ (p:=An [_,G (Ex.exit 8) (Mt u L i v) H nx lg,Sm (V.ptr 0 0),Sm (V.ptr 1 0),Sm (i6 ↑u),Sm (V.ptr 3 0),Sm (Ij u),Sm (V.im u (it L)),Sm (V.ptr 6 0),Sm (V.sl 7 0 u (some (u-u))),Sm (i6 ↑i),Sm (i6 ↑v),_]) ⟨Cq hlt,aq,aq,aq,aq,aq,aq,aq,aq,aq,aq,aq,tq⟩
 obtain⟨e,sl,H',nx',⟨rfl,rfl,h1⟩,h3⟩:=key
 refine⟨H',nx',h1,To.seq (a:=(aT 6 11111111111110100100100)) (b:=(aT 6 11111111111110100100101)) (sl1:=Lm Ab L i v 0) (H1:=H) (nx1:=nx) k_ ?_ (To.block k_ h3)⟩
 refine To.of_vc (n:=100) (hs:=[toO (Lm Ab L i v 0)]) λnx0 lg G hG=>?_
 clear h h1 h3
 exact m_ (p:=An [G Ex.normal (Lm Ab L i v 0) H nx lg,Sm (V.ptr 0 0),Sm (V.ptr 1 0),Sm (i6 ↑Ab),Sm (V.ptr 3 0),Sm (Ij Ab),Sm (V.im Ab (it L)),Sm (V.ptr 6 0),Sm (V.sl 7 0 Ab (some (Ab-Ab))),Sm (i6 ↑i),Sm (i6 ↑v),i6 0=i6 ↑(0:Nat),_]) ⟨aq,aq,aq,aq,aq,aq,aq,aq,aq,aq,aq,aq,tq⟩
end
def cN(F:Nat->V)(v:Nat):Int:=match F (4*v)with
 | .int _ n=>n
 | _=>0
def Mh(F:Nat->V)(ls:Nat->List Int)(v:Nat):Mc:=⟨cN F v,ls (4*v+1),ls (4*v+2),ls (4*v+3)⟩
def Ev(Ab:Nat)(F:Nat->V)(ls:Nat->List Int):List Mc:=(List.range Ab).map (Mh F ls)
theorem Py{Ab:Nat}:(Ev Ab F ls).length=Ab:=by simp[Ev]
theorem tI{Ab:Nat}{v:Nat}(h:v<Ab):(Ev Ab F ls)[v]? =some (Mh F ls v):=by
 grind[Ev]
theorem UC{Ab:Nat}{v:Nat}(h:v<Ab):(Ev Ab F ls).getD v Ao=Mh F ls v:=by
 grind[tI]
theorem wT{cs:List Int}(h: ∀i,i<cs.length->1<=cs.getD i 0/\cs.getD i 0<=3): ∀k,k<=cs.length->1<=Aw cs k/\Aw cs k<=3^k
 |0,_=>by simp[Aw]
 |k+1,hk=>by
  obtain⟨h1,h2⟩:=wT h k o_
  obtain⟨h3,h4⟩:=h k o_
  rw[Aw]
  have a1:=bC h2 h4 o_ o_
  have a2:=bC h1 h3 o_ o_
  omega
section
variable {dc:List V} {W:List Nat} {g:Int} {P:List Pc} {Ab a:Nat} {ow:Nat->Bool} {rv:V} {H:T O} {nx:Nat} {F:Nat->V} {ls:Nat->List Int} {hd:Nat->Nat} {kd:Nat->Bool} {R:List (List Int)} {hr:Nat}
 (hc:1<=Ab/\Ab<=4) (hB:MB dc W g (Ea P) Ab a ow rv H) (hN:NL Ab F ls hd kd H nx) (hR:Kx Ab ls hd rv R hr H nx) (hQ:Q6 Ab ow F ls kd R)
include hc hN hR hQ
theorem DB{v:Nat}(hv:v<Ab):F (4*v)=i6 (cN F v)/\(cN F v=2\/cN F v=3):=by
 obtain⟨c,h1,h2⟩:=hQ.num v hv
 grind[cN]
theorem tJ(h8:8<=nx)(Fz:Nat->Prop)(hF: ∀i,2<=i->i<nx->Fz i):A8 H.get Fz (λ_=>none) [Bd g R (Ev Ab F ls)] [.agg [i6 g,rv,Az Ab]]:=by
 refine⟨_,_,rfl,⟨_,rfl,_,_,rfl,rfl,_,_,rfl,?_,_,_,rfl,?_,rfl⟩,rfl⟩
 .by_cases h:R=[]
  .rw[hR.nil h,h];exact .inr (.inl ⟨rfl,rfl⟩)
  .obtain⟨r1,r2,r3,r4⟩:=hR.own h
   rw[r1]
   exact .inr (.inr ⟨hr,0,none,_,_,_,rfl,hF _ o_ r3,by rw[<-Cm];exact r4,Bq.of_hf _ (B7 R)⟩)
 .have h2:=hN.row
  refine .inr (.inr ⟨2,0,some (Ab-Ab),_,_,_,by rw[Py],hF 2 (aC _) o_,by rw[<-Cm];exact h2,?_⟩)
  rw[oT,Py]
  refine NR.viewP hN (λi a b=>hF i o_ b) (λi hi hS=>?_) (λi hi hS=>?_)
  .have h0:i%4=0:=by unfold S9 at hS;have:=of_decide_eq_false hS;omega
   have hv:i/4<Ab:=o_
   have e:=(DB hc hN hR hQ hv).1
   rw[show 4*(i/4)=i by omega]at e
   refine⟨?_,by rw[e];trivial⟩
   unfold Sx
   rw[UC hv,h0,e];rfl
  .have h0:i%4≠0:=of_decide_eq_true hS
   have hv:i/4<Ab:=o_
   unfold Sx
   rw[UC hv]
   have e4:i=4*(i/4)+i%4:=o_
   rcases(show i%4=1\/i%4=2\/i%4=3 by omega)with h|h|h
   .rw[h];rw[h]at e4;conv=>rhs;rw[e4]
    rfl
   .rw[h];rw[h]at e4;conv=>rhs;rw[e4]
    rfl
   .rw[h];rw[h]at e4;conv=>rhs;rw[e4]
    rfl
end
section
variable {dc:List V} {W:List Nat} {g:Int} {P:List Pc} {Ab a:Nat} {ow:Nat->Bool} {rv:V} {H:T O} {nx:Nat} {F:Nat->V} {ls:Nat->List Int} {hd:Nat->Nat} {kd:Nat->Bool} {R:List (List Int)} {hr:Nat} (L:List Nat)
 (hc:1<=Ab/\Ab<=4) (hB:MB dc W g (Ea P) Ab a ow rv H) (hN:NL Ab F ls hd kd H nx) (hR:Kx Ab ls hd rv R hr H nx) (hQ:Q6 Ab ow F ls kd R)
include hc hB hN hR hQ
theorem BT{v:Nat}(hv:v<Ab):Vq R (Ev Ab F ls) (Mh F ls v):=by
 have h1:=hQ.rn
 have h2:=hQ.fl v hv
 have h3:=hQ.nl v hv
 refine⟨by rw[Py];omega,o_,λk hk=>?_,λk hk=>?_,by show(ls (4*v+1)).length<=_;omega,by show(ls (4*v+2)).length<=_;omega⟩
 .rw[Py]
  refine hQ.fe v hv _ ?_
  rw[aA,aB hk]
  exact cL _
 .refine hQ.no v hv _ ?_
  rw[aA,aB hk]
  exact cL _
theorem Rg{v:Nat}(hv:v<Ab): ∀i,i<(Eo R (Ev Ab F ls) (Mh F ls v)).length->1<=(Eo R (Ev Ab F ls) (Mh F ls v)).getD i 0/\(Eo R (Ev Ab F ls) (Mh F ls v)).getD i 0<=3:=by
 intro i hi
 have hz:=BT hc hB hN hR hQ hv
 have key: ∀z∈Eo R (Ev Ab F ls) (Mh F ls v),1<=z/\z<=3:=by
  intro z hz'
  unfold Eo at hz'
  rcases aL.1 hz' with h|h
  .unfold D0 at h
   obtain⟨p,hp,rfl⟩:=cC.1 h
   have hb:=hQ.fe v hv p hp
   rw[uQ (by rw[Py];omega),UC o_]
   have:=(DB hc hN hR hQ (v:=p.toNat) o_).2
   show 1<=cN F p.toNat/\cN F p.toNat<=3
   omega
  .unfold D0 at h
   obtain⟨p,hp,rfl⟩:=cC.1 h
   have hb:=hQ.no v hv p hp
   rw[WM o_]
   have:=hQ.rl (R.getD p.toNat []) (by rw[aA,aB o_];exact cL _)
   omega
 refine key _ ?_
 rw[aA,aB hi]
 exact cL _
theorem sU{v:Nat}:(Eo R (Ev Ab F ls) (Mh F ls v)).length=(ls (4*v+1)).length+(ls (4*v+2)).length:=by
 unfold Eo;rw[aR,F4,F4];rfl
theorem FE(h8:8<=nx)(i v:Nat)(hv:v<Ab)(hfl:(ls (4*v+1)).length<=4)(cs:List Int)(hcs:Eo R (Ev Ab F ls) (Mh F ls v)=cs): ∃p:Nat,(p:Int)=Aw cs cs.length/\1<=p/\p<=2187/\To 365 (aT 6 11111111111110100100110) (Mt Ab L i v) H nx .normal (Mt Ab L i v++[(18,.im p (Ah (E6 cs p)))]) H nx:=by
 have hbd:=Rg hc hB hN hR hQ hv
 have hln:=sU hc hB hN hR hQ (v:=v)
 have hok:=BT hc hB hN hR hQ hv
 have hview:=tJ (g:=g) hc hN hR hQ h8 (λ_=>True) (λ_ _ _=>trivial)
 have hget:=tI (F:=F) (ls:=ls) hv
 have hnl:=hQ.nl v hv
 rw[hcs]at hbd hln
 obtain⟨b1,b2⟩:=wT hbd cs.length (aC _)
 have b3:(3:Int)^cs.length<=2187:=by
  have:(3:Nat)^cs.length<=3^7:=aH d_ o_
  have h':(3:Int)^cs.length=((3^cs.length:Nat):Int):=by simp
  omega
 obtain⟨p,hp⟩: ∃p:Nat,(p:Int)=Aw cs cs.length:=⟨(Aw cs cs.length).toNat,o_⟩
 have hall:=nG cs cs.length rfl o_ (λi hi=>⟨(hbd i hi).1,by have:=(hbd i hi).2;omega⟩) p hp o_ o_
 have hcmf:=B7 (E6 cs p)
 have hLf:=Fm L
 have h3:=hB.h3
 refine⟨p,hp,o_,o_,?_⟩
 obtain⟨y,ys,e1,e2,e3⟩:=hview
 cases e1
 have hv1:A8 H.get (λ_=>True) (λ_=>none) [Bd g R (Ev Ab F ls),i6 v] [.agg [i6 g,rv,Az Ab],i6 v]:=⟨_,_,rfl,e2,_,_,rfl,rfl,rfl⟩
 generalize Ah (E6 cs p)=CM at*
 by_cases h0:cs=[]
 .subst h0
  have hx0:(Mh F ls v).fr=[]/\(Mh F ls v).no=[]:=by
   simp at hln
   exact⟨aE (show(ls (4*v+1)).length=0 by omega),aE (show(ls (4*v+2)).length=0 by omega)⟩
  have hcall:=LU (H:=H) (nx:=nx) (pC g R _ _ v hget hok hx0.1 hx0.2) hv1 rfl
  clear hbd hln hok hget hcs e2 e3 hv1 hB hN hR hQ
  exact Bu [A5 245 (Bn g rv (Az Ab)) (.agg [i6 g,rv,Az Ab]),(247,.call ⟨.nils,H,nx,[]⟩),fn 248 (.im p CM),toO (Mt Ab L i v++[(18,.im p CM)])] (let z0:=[i6 g,rv,Az Ab];[_,Dj 3 z0=some z0,_,Ag Pg g0 35 [V.im 0 []] (V.im p CM)]) ⟨h3,(by rfl),hcall,hall⟩
 .obtain⟨mm,hmm⟩: ∃mm,cs.length=mm+1:=⟨cs.length-1,by have:=fC.2 h0;omega⟩
  have hcall:=LS (H:=H) (nx:=nx) (pB g R _ _ v hget hok (m:=mm) (by rw[hcs];exact hmm)) hv1 (Ws _) (by rw[F5,hcs];exact hmm)
  rw[hcs]at hcall
  rw[hmm]at hall
  have hcf:=Ap cs
  clear hbd hln hok hget hcs e2 e3 hv1 hB hN hR hQ hp b1 b2 b3
  generalize Aa cs=CS at*
  exact Bu [A5 245 (Bn g rv (Az Ab)) (.agg [i6 g,rv,Az Ab]),(247,.call ⟨.im (mm+1) CS,H,nx,[]⟩),fn 248 (.im p CM),toO (Mt Ab L i v++[(18,.im p CM)])] (let z0:=[i6 g,rv,Az Ab];[_,Dj 3 z0=some z0,_,_]) ⟨h3,(by rfl),hcall,hall⟩
end
end Go.Proofs.YtifdkhfldbkkpaaGreat.Am
