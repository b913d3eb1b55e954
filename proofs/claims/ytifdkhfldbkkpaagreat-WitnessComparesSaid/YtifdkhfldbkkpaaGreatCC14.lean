/- Texts behind the claim, part 14: the abstract machine, and what the functions answer. No condition. -/
import Derived.Test.YtifdkhfldbkkpaaGreatCC13
set_option linter.unusedVariables false
set_option maxHeartbeats 4000000
set_option maxRecDepth 100000
set_option linter.unusedSimpArgs false
set_option linter.unusedSectionVars false
namespace Go.Proofs.YtifdkhfldbkkpaaGreat.Am
open Go.RowKit
-- fold:V.agg [V.int IntKind.i64 A.1, V.im A.2 A.3, V.im A.4 A.5] => A.v
-- fold:V.agg [i6 A.1, V.im A.2 A.3, V.im A.4 A.5] => A.v
-- fold:V.agg [V.int IntKind.i64 B.1, V.im B.2 B.3, V.im B.4 B.5] => B.v
-- fold:V.agg [i6 B.1, V.im B.2 B.3, V.im B.4 B.5] => B.v
variable{E:B9}{n:Nat}
theorem Xk{G:Ca}{t:Nat}(q:Nat): ∃z al:Nat,B6 G .shl t (u6 1) (i6 q)=some (u6 z)/\wr .u64 ((z:Int)-1)=(al:Nat)/\al<2^64:=by
 have e:B6 G .shl t (u6 1) (i6 (q:Int))=if(q:Int)<0 then none else some (.int .u64 (wr .u64 (1*((2^min ((q:Int).toNat) 64:Nat):Int)))):=rfl
 have key: ∀x:Int,∃y:Nat,wr .u64 x=(y:Int)/\y<2^64:=λx=>by
  rw[Fh]
  have h:IntKind.u64.wrap x=x%2^64:=rfl
  rw[h]
  exact⟨(x%2^64).toNat,o_,o_⟩
 obtain⟨z,hz,_⟩:=key (1*((2^min ((q:Int).toNat) 64:Nat):Int))
 obtain⟨al,ha,hb⟩:=key ((z:Int)-1)
 grind
section
variable {C:M4} {xs ys k j:Nat} {A:M3}
abbrev Wf(C:M4)(xs ys k j:Nat)(A:M3):SL:={sl:=rN C xs ys k j,os:=[Y3 C,Di A.g A.n A.R A.q A.N]}
abbrev KI(C:M4)(xs ys k j:Nat)(A B:M3)(no:Int)(p1 p2 p3 p4:Nat):Prop:=Au Pg none 0 (aT 3 1111010011001100110011111110) (Al g0 164 (GW C xs ys k j A B no p1 p2 p3 p4 0)) (B3 g0 164 [(True,.exit 4,Wf C xs ys k j A)])
abbrev PS(C:M4)(xs ys k j:Nat)(A:M3):Prop:=Au Pg none 0 (aT 3 1111010011001100) (Al g0 164 (Wf C xs ys k j A)) (Ng 164 (Wf C xs ys k (j+1) A))
section
variable {B:M3}
theorem uH{p1 p2 p3 p4:Nat}{no:Int}(hr: ∀i,i<2->GQ C xs ys k j A B no p1 p2 p3 p4 i):KI C xs ys k j A B no p1 p2 p3 p4:=by
 refine XK (b:=aT 3 11110100110011001100111111100) k_ (λi=>i<=2) (λi=>(GW C xs ys k j A B no p1 p2 p3 p4 i)) (λi=>2-i) (λi hi=>?_) 0 o_
 by_cases hlt:i<2
 .exact .inl ⟨i+1,hlt,o_,hr i hlt⟩
 .obtain rfl:i=2:=o_
  refine .inr ((Xn (n:=1000) (r:=[0,1]) (S':=(Wf C xs ys k j A)) (e:=.exit 4) (hs:=[]) ?_).mono λe st h=>⟨h.1,.inl ⟨trivial,h.2.1,h.2.2⟩⟩)
  clear hr
  try dsimp only
  exact m_ (p:=An [An [Sm (↑xs:Int),Sm (↑ys:Int),Zz,An [Sm C.1.1,An [Sm C.1.2,Sm C.1.3],An [Sm C.1.4,Sm C.1.5],Sm C.2.1,An [Sm C.2.2,Sm C.2.3],An [Sm C.2.4,Sm C.2.5],Sm C.3.1,An [Sm C.3.2,Sm C.3.3],An [Sm C.3.4,Sm C.3.5],Sm C.4.1,An [Sm C.4.2,Sm C.4.3],An [Sm C.4.4,Sm C.4.5],Tt],Sm (↑k:Int),Zz,An [Zz,2=2,2=2],Sm (2:Int),Sm (↑j:Int),Tt],An [Sm (M4.l C),TT 12],An [Sm [i6 A.1,V.im A.2 A.3,V.im A.4 A.5],TT 3],Tt]) a_
variable (hxs:xs<2^64) (hys:ys<2^64) (hj:j<2) (ht:Dj 3 (Af (0+j*3) C.l)=some [i6 B.g,.im B.n B.R,.im B.q B.N]) {z al:Nat} (q1:B6 (B1 Pg) .shl 29 (u6 1) (i6 A.q)=some (u6 z)) (q3:wr .u64 ((z:Int)-1)=(al:Nat)) (hal:al<2^64)
include hxs hys hj ht q1 q3 hal
theorem Yy(h8:Ag Pg g0 8 [A.v] (.bool false))(ha:Ag Pg g0 9 [A.v,B.v] (.tup [.bool false,i6 330]))(hlp:KI C xs ys k j A B 330 xs ys (mi (xs&&& al) ys) (ys&&& al)):PS C xs ys k j A:=by
 have q4:=AL (G:=B1 Pg) (t:=29) hxs hal
 have q5:xs&&& al<2^64:=cG eF hxs
 have q6:=S4 (G:=B1 Pg) (t:=29) q5 hys
 have q7:=AL (G:=B1 Pg) (t:=29) hys hal
 generalize mi (xs&&& al) ys=p3,ys&&& al=p4,xs&&& al=p5 at*
 refine Fe (n:=1000) (r:=[0,1]) (hs:=[As 54,pl 55,ld 56 (B.v),fn 58 (.bool false),fn 68 (.tup [.bool false,i6 330]),va 88 (u6 z),nu 89 al,va 95 (u6 p5),va 97 (u6 p3),va 100 (u6 p4),(0,.loop [0,1,2] (GW C xs ys k j A B 330 xs ys p3 p4 0) [(True,.exit 4,(Wf C xs ys k j A))]),nu 162 ((j+1:Nat):Int)]) ?_
 exact m_ (p:=let z9:=An [Sm C.1.1,An [Sm C.1.2,Sm C.1.3],An [Sm C.1.4,Sm C.1.5],Sm C.2.1,An [Sm C.2.2,Sm C.2.3],An [Sm C.2.4,Sm C.2.5],Sm C.3.1,An [Sm C.3.2,Sm C.3.3],An [Sm C.3.4,Sm C.3.5],Sm C.4.1,An [Sm C.4.2,Sm C.4.3],An [Sm C.4.4,Sm C.4.5],Tt];let y0:=An [Sm (M4.l C),TT 12];let z0:=[i6 A.1,V.im A.2 A.3,V.im A.4 A.5];let z1:=[i6 B.1,V.im B.2 B.3,V.im B.4 B.5];let z2:=(↑xs:Int);let z3:=(↑ys:Int);let z4:=(↑j:Int);let z7:=(↑k:Int);let z8:=(2:Int);An [decide (z4<z8)=true,_,_,_,_,_,_,_,_,_,An [An [z2=z2,z3=z3,Zz,z9,z7=z7,Zz,An [Zz,2=2,2=2],z8=z8,z4=z4,Zz,Sm (330:Int),An [z2=z2,z3=z3,Sm (↑p3:Int),Sm (↑p4:Int),Tt],(↑(0:Nat):Int)=(0:Int),Tt],y0,An [z0=z0,TT 3],An [z1=z1,TT 3],Tt],_,(True->An [_,An [z2=z2,z3=z3,Zz,z9,z7=z7,Zz,An [Zz,2=2,2=2],z8=z8,(↑(j+1):Int)=(↑(j+1):Int),Tt],y0,An [z0=z0,TT 3],Tt]),Tt]) ⟨aq,Ar hj,ht,h8,ha,q1,q3,q4,q6,q7,a_,hlp,(λ_=>⟨Dw j o_,a_⟩),aq⟩
theorem Yx(h8:Ag Pg g0 8 [A.v] (.bool true))(h9:Ag Pg g0 8 [B.v] (.bool false))(hno:A.v=B.v->False)(ha:Ag Pg g0 9 [A.v,B.v] (.tup [.bool false,i6 330]))(hlp:KI C xs ys k j A B 330 xs ys (mi (xs&&& al) ys) (ys&&& al)):PS C xs ys k j A:=by
 have q4:=AL (G:=B1 Pg) (t:=29) hxs hal
 have q5:xs&&& al<2^64:=cG eF hxs
 have q6:=S4 (G:=B1 Pg) (t:=29) q5 hys
 have q7:=AL (G:=B1 Pg) (t:=29) hys hal
 generalize mi (xs&&& al) ys=p3,ys&&& al=p4,xs&&& al=p5 at*
 refine Fe (n:=1000) (r:=[0,1]) (hs:=[As 54,pl 55,ld 56 (B.v),fn 58 (.bool true),fn 62 (.bool false),fn 68 (.tup [.bool false,i6 330]),va 88 (u6 z),nu 89 al,va 95 (u6 p5),va 97 (u6 p3),va 100 (u6 p4),(0,.loop [0,1,2] (GW C xs ys k j A B 330 xs ys p3 p4 0) [(True,.exit 4,(Wf C xs ys k j A))]),nu 162 ((j+1:Nat):Int)]) ?_
 exact m_ (p:=let y1:=An [Sm C.1.1,An [Sm C.1.2,Sm C.1.3],An [Sm C.1.4,Sm C.1.5],Sm C.2.1,An [Sm C.2.2,Sm C.2.3],An [Sm C.2.4,Sm C.2.5],Sm C.3.1,An [Sm C.3.2,Sm C.3.3],An [Sm C.3.4,Sm C.3.5],Sm C.4.1,An [Sm C.4.2,Sm C.4.3],An [Sm C.4.4,Sm C.4.5],Tt];let y2:=An [Sm (M4.l C),TT 12];let z1:=[i6 B.1,V.im B.2 B.3,V.im B.4 B.5];let z2:=[i6 A.1,V.im A.2 A.3,V.im A.4 A.5];let z3:=(↑xs:Int);let z4:=(↑ys:Int);let z5:=(↑j:Int);let z8:=(↑k:Int);let z9:=(2:Int);let z0:=pt (pt (Ai T.e 0 [Y3 C,Di A.1 A.2 A.3 A.4 A.5]) 2 (O.row 34 none [i6 0,V.nils,V.nils])) 2 (O.row 34 none z1);An [decide (z5<z9)=true,_,_,_,_,V.fn 8 []=V.fn 8 []->[A.v]=[B.v]->z0=z0->2+1=3->CR.mk (V.bool true) z0 3 []=CR.mk (V.bool false) z0 3 [],_,_,_,_,_,_,An [An [z3=z3,z4=z4,Zz,y1,z8=z8,Zz,An [Zz,2=2,2=2],z9=z9,z5=z5,Zz,Sm (330:Int),An [z3=z3,z4=z4,Sm (↑p3:Int),Sm (↑p4:Int),Tt],(↑(0:Nat):Int)=(0:Int),Tt],y2,An [z2=z2,TT 3],An [z1=z1,TT 3],Tt],_,(True->An [_,An [z3=z3,z4=z4,Zz,y1,z8=z8,Zz,An [Zz,2=2,2=2],z9=z9,(↑(j+1):Int)=(↑(j+1):Int),Tt],y2,An [z2=z2,TT 3],Tt]),Tt]) ⟨aq,Ar hj,ht,h8,h9,aq,ha,q1,q3,q4,q6,q7,a_,hlp,(λ_=>⟨Dw j o_,a_⟩),aq⟩
theorem PR(h8:Ag Pg g0 8 [A.v] (.bool true))(h9:Ag Pg g0 8 [B.v] (.bool true)){b:Bool}(ha:Ag Pg g0 9 [A.v,B.v] (.tup [.bool b,i6 0]))(hr:Ag Pg g0 10 [A.v,B.v] (.bool b))(hlp:KI C xs ys k j A B 0 xs ys (mi (xs&&& al) ys) (ys&&& al)):PS C xs ys k j A:=by
 have q4:=AL (G:=B1 Pg) (t:=29) hxs hal
 have q5:xs&&& al<2^64:=cG eF hxs
 have q6:=S4 (G:=B1 Pg) (t:=29) q5 hys
 have q7:=AL (G:=B1 Pg) (t:=29) hys hal
 generalize mi (xs&&& al) ys=p3,ys&&& al=p4,xs&&& al=p5 at*
 refine Fe (n:=1000) (r:=[0,1]) (hs:=[As 54,pl 55,ld 56 (B.v),fn 58 (.bool true),fn 62 (.bool true),fn 68 (.tup [.bool b,i6 0]),fn 81 (.bool b),no 83,va 88 (u6 z),nu 89 al,va 95 (u6 p5),va 97 (u6 p3),va 100 (u6 p4),(0,.loop [0,1,2] (GW C xs ys k j A B 0 xs ys p3 p4 0) [(True,.exit 4,(Wf C xs ys k j A))]),nu 162 ((j+1:Nat):Int)]) ?_
 exact m_ (p:=let y2:=An [Sm C.1.1,An [Sm C.1.2,Sm C.1.3],An [Sm C.1.4,Sm C.1.5],Sm C.2.1,An [Sm C.2.2,Sm C.2.3],An [Sm C.2.4,Sm C.2.5],Sm C.3.1,An [Sm C.3.2,Sm C.3.3],An [Sm C.3.4,Sm C.3.5],Sm C.4.1,An [Sm C.4.2,Sm C.4.3],An [Sm C.4.4,Sm C.4.5],Tt];let y3:=An [Sm (M4.l C),TT 12];let z1:=[i6 B.1,V.im B.2 B.3,V.im B.4 B.5];let z2:=[i6 A.1,V.im A.2 A.3,V.im A.4 A.5];let z3:=(↑xs:Int);let z4:=(↑ys:Int);let z5:=(↑j:Int);let z9:=(↑k:Int);let y0:=(2:Int);let z0:=pt (pt (Ai T.e 0 [Y3 C,Di A.1 A.2 A.3 A.4 A.5]) 2 (O.row 34 none [i6 0,V.nils,V.nils])) 2 (O.row 34 none z1);An [decide (z5<y0)=true,_,_,_,_,V.fn 8 []=V.fn 8 []->[A.v]=[B.v]->z0=z0->2+1=3->Sm (CR.mk (V.bool true) z0 3 []),_,_,(!b==b)=false,_,_,_,_,_,An [An [z3=z3,z4=z4,Zz,y2,z9=z9,Zz,An [Zz,2=2,2=2],y0=y0,z5=z5,Zz,(0:Int)=(0:Int),An [z3=z3,z4=z4,Sm (↑p3:Int),Sm (↑p4:Int),Tt],(↑(0:Nat):Int)=(0:Int),Tt],y3,An [z2=z2,TT 3],An [z1=z1,TT 3],Tt],_,(True->An [_,An [z3=z3,z4=z4,Zz,y2,z9=z9,Zz,An [Zz,2=2,2=2],y0=y0,(↑(j+1):Int)=(↑(j+1):Int),Tt],y3,An [z2=z2,TT 3],Tt]),Tt]) ⟨aq,Ar hj,ht,h8,h9,aq,ha,hr,aq,q1,q3,q4,q6,q7,a_,hlp,(λ_=>⟨Dw j o_,a_⟩),aq⟩
end
end
section
variable {C:M4} {xs ys k j:Nat}
section
variable {ga:Int} {RA:List (List Int)} {NA:List Mc} {gb:Int} {RB:List (List Int)} {NB:List Mc} (hlA:B8 RA NA) (hlB:B8 RB NB)
include hlA hlB
-- fold:V.agg [V.int IntKind.i64 A.1, V.im A.2 A.3, V.im A.4 A.5] => A.v
-- fold:V.agg [i6 A.1, V.im A.2 A.3, V.im A.4 A.5] => A.v
-- fold:V.agg [V.int IntKind.i64 B.1, V.im B.2 B.3, V.im B.4 B.5] => B.v
-- fold:V.agg [i6 B.1, V.im B.2 B.3, V.im B.4 B.5] => B.v
theorem OA{p1 p2 p3 p4 i sx sy:Nat}(hA:Ck ga RA NA=true)(hB:Ck gb RB NB=true)(hi:i<2)(hsx:sx<2^64)(hsy:sy<2^64)(ht:Jw (B1 Pg) 45 (.agg [u6 p1,u6 p2,u6 p3,u6 p4]) (i:Nat)=some (.agg [u6 sx,u6 sy])):GQ C xs ys k j (Jv ga RA NA) (Jv gb RB NB) 0 p1 p2 p3 p4 i:=by
 have hMA:=Is hA
 have hMB:=Is hB
 have ca:=V4 ga RA NA (by have:=hMA.q1;omega)
 have cb:=V4 gb RB NB (by have:=hMB.q1;omega)
 have hcs:[Bd ga RA NA]=[Bd gb RB NB]->V.im (Aq NA).length (Aa (Aq NA))=V.im (Aq NB).length (Aa (Aq NB)):=λh=>by rw[(JE (cA h).1).2.2]
 have hsm:=TS (Aq NA) (Aq NB) (by rw[Eg];have:=hMA.q1;omega)
 cases hs:Dk NA NB with
 |false=>
  rw[show decide (Aq NA=Aq NB)=false from hs]at hsm
  exact Y1 hi ht ca cb hcs hsm (jq ga RA NA gb RB NB hlA hlB sx sy hA hB hs)
 | true =>
  have hss:Aq NA=Aq NB:=of_decide_eq_true hs
  rw[decide_eq_true hss]at hsm
  have hst:=Rh NA.length sx sy (by have:=hMA.q1;omega) hsx hsy
  cases hse:H5 NA.length sx sy with
  |false=>
   rw[hse]at hst
   exact Y0 hi ht ca cb hcs hsm hst (jp ga RA NA gb RB NB hlA hlB sx sy hsx hsy hA hB hs hse)
  | true =>
   rw[hse]at hst
   obtain⟨p,hp⟩: ∃p,NA.length=p+1:=⟨NA.length-1,by have:=hMA.q1;omega⟩
   have hd:=pK ga RA NA gb RB NB hlA hlB sx sy hsx hsy hA hB hs hse p hp
   have hz:=hMA.z24
   have hz1:=(AZ hMA.cd NA.length (aC _)).1
   rw[<-DY NA.length (aC _)]at hz hz1
   obtain⟨P,hP⟩: ∃P:Nat,(P:Int)=Aw (Aq NA) NA.length:=⟨(Aw (Aq NA) NA.length).toNat,o_⟩
   have hxy:sx&&& sy=0:=by
    unfold H5 at hse
    rw[aD]at hse
    exact of_decide_eq_true hse.2
   cases hdf:Kv ga RA NA gb RB NB sx sy with
   |none=>
    rw[hdf,if_pos rfl]at hd
    have hr:=ju hMA hMB hss sx sy hsx hsy P hP o_ o_ (λi hi=>fc hMA hMB hss sx sy hdf i o_)
    exact Y2 hi ht ca cb hcs hsm hst hr hd
   |some l=>
    rw[hdf,if_neg s_]at hd
    obtain⟨k0,h1,h2,h3,h4⟩:=fb hMA hMB hss sx sy hxy hdf
    have hr:=jn hMA hMB hss sx sy hsx hsy P hP o_ k0 o_ h3 h4
    rw[<-h2]at hr
    have hll:l.length=NA.length:=by rw[h2,Li,Eg]
    have hl:=TS l l (by rw[hll];have:=hMA.q1;omega)
    rw[decide_eq_true rfl]at hl
    rw[show I5 p (some l)= .im NA.length (Aa l)by rw[hp];rfl]at hd
    rw[show sl l= .im NA.length (Aa l)by rw[<-hll]]at hl
    exact Yz hi ht ca cb hcs hsm hst hl hr hd
theorem CI(hxs:xs<2^64)(hys:ys<2^64)(hj:j<2)(ht:Dj 3 (Af (0+j*3) C.l)=some [i6 gb,.im RB.length (Ah RB),.im NB.length (Ak NB)]):PS C xs ys k j (Jv ga RA NA):=by
 obtain⟨z,al,q1,q3,hal⟩:=Xk (G:=B1 Pg) (t:=29) NA.length
 have r8:=xQ ga RA NA hlA
 have r9:=xQ gb RB NB hlB
 have hx3:mi (xs&&& al) ys<2^64:=cG (aP eF eF) hxs
 have hy3:ys&&& al<2^64:=cG eF hys
 have hidx: ∀i,i<2->∃sx sy,sx<2^64/\sy<2^64/\Jw (B1 Pg) 45 (.agg [u6 (xs:Nat),u6 (ys:Nat),u6 (mi (xs&&& al) ys:Nat),u6 (ys&&& al:Nat)]) (i:Nat)=some (.agg [u6 (sx:Nat),u6 (sy:Nat)]):=λi hi=>by
  rcases(by omega:i=0\/i=1)with rfl|rfl
  .exact⟨xs,ys,hxs,hys,k_⟩
  .exact⟨_,_,hx3,hy3,k_⟩
 have bad:(∀sx sy:Nat,Ag Pg g0 15 [Bd ga RA NA,Bd gb RB NB,u6 (sx:Nat),u6 (sy:Nat)] (.tup [.nils,i6 330]))->KI C xs ys k j (Jv ga RA NA) (Jv gb RB NB) 330 xs ys (mi (xs&&& al) ys) (ys&&& al):=λhd=>uH λi hi=>by
  obtain⟨sx,sy,h1,h2,h3⟩:=hidx i hi
  exact GV hi h3 (hd sx sy)
 cases hA:Ck ga RA NA with
 |false=>
  rw[hA]at r8
  exact Yy hxs hys hj ht q1 q3 hal r8 (ij ga RA NA gb RB NB hlA hlB hA) (bad λsx sy=>jr ga RA NA gb RB NB hlA hlB sx sy hA)
 | true =>
  rw[hA]at r8
  cases hB:Ck gb RB NB with
  | false =>
   rw[hB]at r9
   exact Yx hxs hys hj ht q1 q3 hal r8 r9 (λh=>by
    obtain⟨e1,e2,e3⟩:=JE (show Bd ga RA NA=Bd gb RB NB from h)
    rw[e1,e2,e3,hB]at hA
    cases hA) (Ji ga RA NA gb RB NB hlA hlB hA hB) (bad λsx sy=>L5 ga RA NA gb RB NB hlA hlB sx sy hA hB)
  | true =>
   rw[hB]at r9
   have hlp:KI C xs ys k j (Jv ga RA NA) (Jv gb RB NB) 0 xs ys (mi (xs&&& al) ys) (ys&&& al):=uH λi hi=>by
    obtain⟨sx,sy,h1,h2,h3⟩:=hidx i hi
    exact OA hlA hlB hA hB hi h1 h2 h3
   obtain⟨b,ha,hr⟩: ∃b:Bool,Ag Pg g0 9 [Bd ga RA NA,Bd gb RB NB] (.tup [.bool b,i6 0])/\Ag Pg g0 10 [Bd ga RA NA,Bd gb RB NB] (.bool b):=by
    cases hs:Dk NA NB with
    |false=>exact⟨false,ii ga RA NA gb RB NB hlA hlB hA hB hs,dr (Is hA) (Is hB) hs⟩
    |true=>exact⟨_,wY ga RA NA gb RB NB hlA hlB hA hB hs,dt (Is hA) (Is hB) hs⟩
   exact PR hxs hys hj ht q1 q3 hal r8 r9 ha hr hlp
end
abbrev Wg(C:M4)(xs ys k:Nat):SL:={sl:=rO C xs ys k,os:=[Y3 C]}
section
abbrev rL(C:M4)(xs ys k:Nat)(A:M3):Prop:=Au Pg none 0 (aT 3 111101001100110) (Al g0 164 (Wf C xs ys k 0 A)) (B3 g0 164 [(True,.exit 2,Wg C xs ys k)])
abbrev jE(C:M4)(xs ys k:Nat):Prop:=Au Pg none 0 (aT 3 11110100) (Al g0 164 (Wg C xs ys k)) (Ng 164 (Wg C xs ys (k+1)))
variable {A:M3}
theorem Yw(hr: ∀j,j<2->PS C xs ys k j A):rL C xs ys k A:=by
 refine XK (b:=aT 3 1111010011001100) k_ (λj=>j<=2) (λj=>Wf C xs ys k j A) (λj=>2-j) (λj hj=>?_) 0 o_
 by_cases hlt:j<2
 .exact .inl ⟨j+1,hlt,o_,hr j hlt⟩
 .obtain rfl:j=2:=o_
  refine .inr ((Xn (n:=1000) (r:=[0]) (S':=Wg C xs ys k) (e:=.exit 2) (hs:=[]) ?_).mono λe st h=>⟨h.1,.inl ⟨trivial,h.2.1,h.2.2⟩⟩)
  clear hr
  try dsimp only
  exact Cj [] trivial
theorem Tf(hk:k<4)(ht:Jw (B1 Pg) 37 (.agg C.l) (k:Nat)=some (A.v))(hlp:rL C xs ys k A):jE C xs ys k:=by
 have hsl:Ce (B1 Pg) 37 (.ptr 0 0) none (some 2) none=some (.sl 0 0 2 (some 2)):=k_
 refine Fe (n:=1000) (r:=[0]) (hs:=[As 49,va 50 (A.v),va 51 (.sl 0 0 2 (some 2)),(0,.loop [0,1] (Wf C xs ys k 0 A) [(True,.exit 2,Wg C xs ys k)]),nu 163 ((k+1:Nat):Int)]) ?_
 exact m_ (p:=let z0:=An [Sm C.1.1,An [Sm C.1.2,Sm C.1.3],An [Sm C.1.4,Sm C.1.5],Sm C.2.1,An [Sm C.2.2,Sm C.2.3],An [Sm C.2.4,Sm C.2.5],Sm C.3.1,An [Sm C.3.2,Sm C.3.3],An [Sm C.3.4,Sm C.3.5],Sm C.4.1,An [Sm C.4.2,Sm C.4.3],An [Sm C.4.4,Sm C.4.5],Tt];let z2:=An [Sm (M4.l C),TT 12];An [decide ((↑k:Int)<(4:Int))=true,_,_,An [An [Sm (↑xs:Int),Sm (↑ys:Int),Zz,z0,Sm (↑k:Int),Zz,An [Zz,2=2,2=2],(2:Int)=(↑(2:Nat):Int),(↑(0:Nat):Int)=(0:Int),Tt],z2,An [Sm [i6 A.1,V.im A.2 A.3,V.im A.4 A.5],TT 3],Tt],_,(True->An [_,An [Sm (↑xs:Int),Sm (↑ys:Int),Zz,z0,Sm (↑(k+1):Int),Tt],z2,Tt]),Tt]) ⟨aq,ht,hsl,a_,hlp,(λ_=>⟨Dw k o_,a_⟩),aq⟩
end
theorem Yu(hr: ∀k,k<4->jE C xs ys k):Au Pg none 0 (aT 3 1111010) (Al g0 164 (Wg C xs ys 0)) (B3 g0 164 [(True,.exit 0,{sl:=[]})]):=by
 refine XK (b:=aT 3 11110100) k_ (λk=>k<=4) (λk=>Wg C xs ys k) (λk=>4-k) (λk hk=>?_) 0 o_
 by_cases hlt:k<4
 .exact .inl ⟨k+1,hlt,o_,hr k hlt⟩
 .obtain rfl:k=4:=o_
  refine .inr ((Xn (n:=1000) (r:=[]) (S':={sl:=[]}) (e:=.exit 0) (hs:=[]) ?_).mono λe st h=>⟨h.1,.inl ⟨trivial,h.2.1,h.2.2⟩⟩)
  clear hr
  try dsimp only
  exact Cj [] trivial
end
variable {P:Program}
inductive Ih(P:Program)(E:B9)(gl:T (List V))(res:List ResultVar)(nx:Nat)(Z:V->T O->Nat->List Nat->Prop):(St->Prop)->Code->Prop
 |more {R R':St->Prop} {c2 X:Code} (h: ∀st,R st->Au P none nx c2 st (λe st'=>(e= .normal/\st'.tm.gl=gl/\R' st')\/(e= .ret/\∃v,Db E.G st'.tm st'.H res=some v/\Z v st'.H st'.nx st'.lg))) (k:Ih P E gl res nx Z R' X):Ih P E gl res nx Z R (.seq c2 X)
 |last {R:St->Prop} {id:Nat} {ops:Array Oper} {rest:Code} (h: ∀st,R st->∃(st3:St)(g:Nat)(dcaps dars:List V)(call:Dq)(i:Nat)(o:Oper)(c:Call)(fo:Operand)(fg:FI),Na P gl call/\D1 E call ops (ops.toList.take i) st=some st3/\ops[i]? =some o/\Cc st3.tm ops o=some true/\o.op= .defer c/\c.callee= .value fo/\ev st3.tm fo=some (.fn g dcaps)/\L3 st3.tm c.args.toList=some dars/\i+1=ops.size/\o.dst=none/\E.code g=some fg/\st3.tm.gl=gl/\
Au P none st3.nx rest ⟨st3.tm,st3.H,st3.nx,[]⟩ (λe st4=>XC P E gl g dcaps dars res (λv H' nx' lg'=>Z v H' nx' (lg'++st3.lg)) e st4)):Ih P E gl res nx Z R (.seq (.region id ops false) rest)
theorem Ac.guardC(hE:E.Ok P){gl:T (List V)}{f:Nat}{caps ars:List V}{H:T O}{nx:Nat}{r:CR}{fi:FI}(hfi:E.code f=some fi)(hle:Nat.ble (ars++caps).length fi.ntmps=true)(hlog:C5 H.get nx r.H.get r.nx r.lg)
  {Z:V->T O->Nat->List Nat->Prop}
  (hZ: ∀v H' nx' lg',Z v H' nx' lg'->∀(s:Av)(w:World)(ee:Ending)(w':World),RH s w H.get->(∀i,nx<=i->¬s.dom i)->Ge s w nx ⟨v,H',nx',lg'⟩ ee w'->Ge s w nx r ee w')
  (hch:Ih P E gl fi.res nx Z (λst=>st=⟨⟨Cf (B0 fi.ntmps) 0 (ars++caps),gl,fi.ntmps⟩,H,nx,[]⟩) fi.body):Ac P gl (.fn f caps) ars H nx r:=by
 refine⟨λs w fv vals hc hargs hH hgl hn=>?_,hlog⟩
 obtain⟨vs,rfl,hcaps⟩:=hc
 have hrun: ∀x:Result Next,(callFunc f (vals++vs)).run P w=x->((do let d<-Deferred.ofValue (.func (.func f) #[] vs) vals;invoke d.target d.args):Sem Next).run P w=x:=by
  intro x hx;simp[Deferred.ofValue,invoke,hx]
 obtain⟨fn,f1,f2,f3,f4,f5⟩:=hE.code f fi hfi
 refine⟨_,hrun _ (f5 _ w),?_,λ_=>⟨_,_,rfl⟩⟩
 have A0:=yH hE hfi hle hcaps hargs hH hgl hn []
 refine callsIn_of_wp_marks (F:=Fence.wide) (n:=4) f1 f2 trivial (AW (n:=5) (l:=none) ?_)
 rw[f3]
 -- a frame that leaves with marks alone
 have leave: ∀(Ds:List Nat)(tm:TM)(H':T O)(nx':Nat)(lg':List Nat)(s':Av)(w':World)(a':Act)(v:V),a'.defers=Ds.map Mm->Ds.Nodup->(∀D∈Ds,EK w.heap.size s' w' D)->RH s' w' H'.get->RT s' w' tm a'.tmps->Br s w s' w' lg'->(∀i,s'.dom i↔s.dom i\/nx<=i/\i<nx')->nx<=nx'->
   Db E.G tm H' fi.res=some v->Z v H' nx' lg'->∀Ds':List Nat,Ds'.Nodup->(∀D∈Ds',D∈Ds)->LeavesInM Fence.wide 4 P fn a'.tmps (Ge s w nx r) (Ds'.map Mm++[]) .returning w':=by
  intro Ds tm H' nx' lg' s' w' a' v hd hnd hdk hH' hT hs hdom hnx hret hz Ds' hnd' hsub
  refine pR (F:=Fence.wide) s_ Ds' w' hnd' (λD hD=>(hdk D (hsub D hD)).2.2.1) (λw'' g1 g2 g3 g4 g5=>?_)
  have A:J6 ⟨w.heap.size,[],[]⟩ s w nx ⟨tm,H',nx',lg'⟩ s' w' {a' with defers:=Ds.map Mm}:=⟨⟨hH',hT,λi hi hdm=>by
   rcases(hdom i).1 hdm with h|h
   .exact hn i (aP hnx hi) h
   .dsimp only at hi;omega,Ds,by simp,by simpa using hnd,by simpa using hdk⟩,hs,hdom,hnx⟩
  obtain⟨k1,k2,k3⟩:=A.unmarked (Ds:=Ds') (aC _) (λD hD=>hdk D (hsub D hD)) g1 g2 g3 g4 g5 hH.old
  rw[<-f4]at hret
  obtain⟨u,v1,v2⟩:=YI (P:=P) hE.G k1 (hT.mono (Av.Le.refl s') k3) rfl hret
  exact⟨u,v2,hZ _ _ _ _ hz s w _ _ hH hn ⟨u,s',rfl,v1,k1,k2,hdom,hnx⟩⟩
 have main: ∀(R:St ->Prop)(X:Code),Ih P E gl fi.res nx Z R X -> ∀st2,R st2 ->st2.tm.gl=gl -> ∀(s2:Av)(w2:World)(a2:Act),J6 ⟨w.heap.size,[],[]⟩ s w nx st2 s2 w2 a2 ->X.wpIn (FF none) 5 P (bodyPostM Fence.wide 4 P fn (Ge s w nx r)) a2 w2:=by
  intro R X hch
  induction hch with
  | @more R R' c2 X h k ih=>
   intro st1 hr1 hg1 s1 w1 a1 A1
   refine wpIn_seq (h st1 hr1 _ s w s1 w1 a1 hn (aC _) (λh e=>by cases e) A1 _ ?_)
   rintro e st2 (⟨rfl,hg2,hr2⟩|⟨rfl,v,hret,hz⟩) s2 w2 a2 A2
   .exact ih st2 hr2 hg2 s2 w2 a2 A2
   .skip
    obtain⟨Ds,d1,d2,d3⟩:=A2.rel.df
    have d2:=(dM.1 d2).1
    have d3:=λD(hD:D∈Ds)=>d3 D (aL.2 (.inl hD))
    show LeavesInM Fence.wide 4 P fn a2.tmps (Ge s w nx r) a2.defers .returning w2
    rw[d1]
    have:=leave Ds st2.tm st2.H st2.nx st2.lg s2 w2 {a2 with defers:=Ds.map Mm} v rfl d2 d3 A2.rel.rh A2.rel.rt A2.step A2.dom A2.le hret hz Ds d2 (λD hD=>hD)
    exact this
  | @last R id ops rest h=>
   intro st2 hr2 hg2 s2 w2 a2 A2
   obtain⟨st3,g,dcaps,dars,call,i,o,c,fo,fg,q1,q2,q3,q4,q5,q6,q7,q8,q9,q10,q11,q12,q13⟩:=h st2 hr2
   refine wpIn_seq ?_
   refine wpIn_region ?_
   have hlen:(ops.toList.take i).length=i:=by rw[fM,cB];omega
   have hsp:List.range ops.size=List.range' 0 (ops.toList.take i).length++[i]:=by
    rw[hlen,dP,<-q9,List.range'_1_concat];simp
   rw[hsp]
   refine xM _ _ _ ?_
   refine SF hE.G hE.ext (gl:=gl) q1 (l:=none) (ops.toList.take i) 0 st2 st3 s2 w2 a2 (λj hj=>?_) q2 hg2 A2.rel ?_
   .rw[hlen]at hj
    rw[List.getElem?_take_of_lt hj,cZ,cM]
   .rintro a3 w3 ⟨lg3,s3,W3⟩
    have A3:=A2.went W3
    show wpOpsIn _ _ _ _ _ _ _ _
    rw[wpOpsIn_cons]
    unfold wpOpIn
    rw[q3]
    dsimp only
    rw[if_pos (EH A3.rel.rt q4)]
    refine Uw (l:=none) rfl q5 q6 A3.rel.rt q7 q8 (λdvs dvals hdc hda=>?_)
    obtain⟨Ds0,d1,d2,d3⟩:=A3.rel.df
    have d2:=(dM.1 d2).1
    have d3:=λD(hD:D∈Ds0)=>d3 D (aL.2 (.inl hD))
    rw[aV]at d1
    have hnx3:=A3.rel.nx
    -- the rest, in a frame of its own reckoning
    have A3':J6 ⟨w3.heap.size,{target:=.fn (.func g) dvs,args:=dvals}::Ds0.map Mm,[]⟩ s3 w3 st3.nx ⟨st3.tm,st3.H,st3.nx,[]⟩ s3 w3 ({a3 with defers:={target:=.fn (.func g) dvs,args:=dvals}::a3.defers}.put o.dst undef):=by
     rw[q10]
     exact⟨⟨A3.rel.rh,A3.rel.rt,hnx3,[],by show _::a3.defers=_;rw[d1];rfl,cF,λD hD=>by simp at hD⟩,Br.refl s3 w3 [],Cp s3 _,aC _⟩
    show wpOpsIn (FF none) 5 P ops _ [] _ w3
    show Code.wpIn _ _ _ _ _ _ _
    refine q13 _ s3 w3 s3 w3 _ hnx3 (aC _) (λh e=>by cases e) A3' _ ?_
    rintro e st4 ⟨pan,r4,hpan,hdef,v,hret,hz⟩ s4 w4 a4 A4
    -- the frame leaves: its own marks, the closure, the marks ahead of it
    have key: ∀(u:Value),(∀x,pan=some x -> ∀s2 w2,RV s2 w2 x u) ->LeavesInM Fence.wide 4 P fn a4.tmps (Ge s w nx r) a4.defers (Dd pan false u) w4:=by
     intro u hu
     obtain⟨Ds4,e1,e2,e3⟩:=A4.rel.df
     have e2:=(dM.1 e2).1
     have e3:=λD(hD:D∈Ds4)=>e3 D (aL.2 (.inl hD))
     rw[e1]
     refine pR (F:=Fence.wide) (zG _ _ _) Ds4 w4 e2 (λD hD=>(e3 D hD).2.2.1) (λw5 g1 g2 g3 g4 g5=>?_)
     obtain⟨k1,k2,k3⟩:=A4.unmarked (Ds:=Ds4) (aC _) e3 g1 g2 g3 g4 g5 A3.rel.rh.old
     have hgl4:GL s4 w5 gl:=by
      have:RT s4 w5 st3.tm a3.tmps:=A3.rel.rt.mono k2.le k2.k
      rw[<-q12];exact this.2.2
     obtain⟨fng,y1,y2,y3,y4,y5⟩:=hE.code g fg q11
     have hcl:=hdef s4 w5 dvs dvals u (RL.mono k2.le k2.k _ _ hdc) (RL.mono k2.le k2.k _ _ hda) k1 hgl4 A4.rel.nx hu
     refine⟨zG _ _ _,.inr ⟨λh=>(by cases h),.func g,dvs,g,dvals++dvs,rfl,by simp[invoke,y5],λ_ _=>trivial,hcl.mono ?_⟩⟩
     rintro ee u' w6 ⟨⟨uu,s6,rfl,_,z2,z3,z4,z5⟩,rfl⟩
     show LeavesInM Fence.wide 4 P fn a4.tmps (Ge s w nx r) (Ds0.map Mm) (settle (Dd pan true u)) w6
     rw[gk]
     have hs36:Br s3 w3 s6 w6 (r4.lg++st4.lg):=(k2.trans z3).more (λx hx=>by rw[aL]at hx⊢;exact hx.symm)
     have hdom6: ∀i,s6.dom i↔s.dom i\/nx<=i/\i<r4.nx:=λi=>by
      rw[z4,A4.dom,A3.dom]
      have b1:=A3.le
      have b2:=A4.le
      constructor
      .rintro((h|h)|h)
       .exact h.imp (λh=>h) (λh=>⟨h.1,o_⟩)
       .exact .inr ⟨o_,o_⟩
       .exact .inr ⟨o_,h.2⟩
      .rintro(h|h)
       .exact .inl (.inl (.inl h))
       .by_cases h3:i<st3.nx
        .exact .inl (.inl (.inr ⟨h.1,h3⟩))
        .by_cases h4:i<st4.nx
         .exact .inl (.inr ⟨o_,h4⟩)
         .exact .inr ⟨o_,h.2⟩
     have:=leave Ds0 st4.tm r4.H r4.nx (r4.lg++st4.lg++st3.lg) s6 w6 {a4 with defers:=Ds0.map Mm} v rfl d2 (λD hD=>(d3 D hD).step hs36) z2 (A4.rel.rt.mono (Av.Le.refl s4) k3 |>.mono z3.le z3.k) ((A3.step.trans hs36).more (λx hx=>by simp only[aL]at hx⊢;rcases hx with h|h|h<;>simp[h])) hdom6 (aP A3.le (aP A4.le z5)) hret hz Ds0 d2 (λD hD=>hD)
     rw[aV]at this
     exact this
    rcases hpan with⟨rfl|rfl,rfl⟩|⟨x,rfl,rfl⟩
    .exact key .nilIface (λx e=>by cases e)
    .exact key .nilIface (λx e=>by cases e)
    .exact λu hu=>key u (λx' e=>by cases e;exact hu)
 exact main _ _ hch _ rfl rfl _ _ _ A0
theorem fu{P:Program}(hE:E.Ok P)(hm:P.follows .mixedOrders=true){rd:Option Nat}{c:Code}{st st1:St}(hx:Dh E n rd c st=some [(.normal,st1)]){nx0:Nat}:Au P rd nx0 c st (λe s=>e= .normal/\s=st1):=by
 intro B s0 w0 s w a hn hB hrd A Q hQ
 have e:rd.map s0.μ=rd.map s.μ:=by
  cases rd with
  |none=>rfl
  |some h=>exact congrArg some (A.step.le.μ h (hrd h rfl)).symm
 rw[e]
 exact(pT hE hm n).one rd c st st1 .normal s w a B hx A.rel (aP hB A.step.mod.size) (λh e=>A.step.le.dom h (hrd h e)) Q (λa' w'⟨lg,s',W⟩=>hQ .normal st1 ⟨rfl,rfl⟩ s' w' a' (A.went W))
def N6:Option Rs->Option (Ex×St)
 |some [(.normal,st)]=>some (.normal,st)
 |some [(.ret,st)]=>some (.ret,st)
 | _=>none
theorem wJ(hE:E.Ok Pg){nx0:Nat}{c:Code}{st st':St}{e:Ex}(h:N6 (Dh E n none c st)=some (e,st')){R:Ex->St->Prop}(hR:R e st'):(e= .normal\/e= .ret)/\Au Pg none nx0 c st R:=by
 have key: ∀e:Ex,e= .normal\/e= .ret->Dh E n none c st=some [(e,st')]->R e st'->(e= .normal\/e= .ret)/\Au Pg none nx0 c st R:=λe he hx hR=>⟨he,λB s0 w0 s w a hn hB hrd A Q hQ=>by
  refine(pT hE Bx n).one none c st st' e s w a B hx A.rel (aP hB A.step.mod.size) (λh e=>by cases e) Q (λa' w'⟨lg,s',W⟩=>?_)
  have h1:=hQ e st' hR s' w' a' (A.went W)
  rcases he with rfl|rfl<;>exact h1⟩
 unfold N6 at h
 grind
noncomputable def XD(E:B9)(n g:Nat)(dc:List V)(x:V)(H:T O)(nx:Nat):Option St:=match E.code g with
 | some fg => match fg.body, fg.res with
  | .seq (.region _ ops false) c,[]=>match ops.toList with
   | o :: os => match o.guard, o.op with
    | none, .call k => match k.callee with
     | .builtin .recover=>bif Nat.ble dc.length fg.ntmps then(match Jd E ops H os ((⟨Cf (B0 fg.ntmps) 0 dc,g0,fg.ntmps⟩:TM).put o.dst x)with
      |some tm1=>(N6 (Dh E n none c ⟨tm1,H,nx,[]⟩)).map (·.2)
      |none=>none)else none
     | _=>none
    | _,_=>none
   |[]=>none
  | _,_=>none
 |none=>none
theorem ff(hE:E.Ok Pg){g nx:Nat}{dc:List V}{pan:Option V}{H:T O}{st:St}(h:XD E n g dc (X0 pan) H nx=some st):(∃fg,E.code g=some fg)/\He Pg g0 g dc [] H nx pan ⟨.tup [],st.H,st.nx,st.lg⟩:=by
 unfold XD at h
 split at h
 .rename_i fg h1
  split at h
  .rename_i id ops c hb hr
   split at h
   .rename_i o os ho
    split at h
    .rename_i k hg hop
     split at h
     .rename_i hk
      obtain⟨hle,h⟩:=Hi h
      split at h
      .rename_i tm1 e1
       obtain⟨⟨e,st'⟩,e2,e3⟩:=fQ.1 h
       cases e3
       obtain⟨he,hs⟩:=wJ hE (nx0:=nx) (R:=λe' s=>e'=e/\s=st') e2 ⟨rfl,rfl⟩
       refine⟨⟨fg,h1⟩,He.of hE h1 hle hb ho hg hop hk e1 (hs.mono ?_)⟩
       rintro e' s ⟨rfl,rfl⟩
       exact⟨he,by rw[hr];rfl,rfl,rfl,rfl⟩
      .cases h
     .cases h
    .cases h
   .cases h
  .cases h
 .cases h
noncomputable def Nq(E:B9)(res:List ResultVar)(v:V)(tm:TM):Option St->Bool
 |some st=>match Db E.G tm st.H res with
  |some v0=>Mq st.H v v0
  |none=>false
 |none=>false
noncomputable def T6(E:B9)(n:Nat)(res:List ResultVar)(v:V)(st:St)(ops:Array Oper)(rest:Code):Bool:=match D1 E (Wc []) ops (ops.toList.take 1) st,ops[1]? with
 | some st3, some o => match Cc st3.tm ops o, o.op, st3.tm.gl, o.dst with
  | some true, .defer c, .e, none => match c.callee, c.args.toList with
   | .value fo,[]=>match ev st3.tm fo with
    |some (.fn g dc)=>Nat.beq 2 ops.size&&(match N6 (Dh E n none rest ⟨st3.tm,st3.H,st3.nx,[]⟩)with
     |some (_,st4)=>Nq E res v st4.tm (XD E n g dc .nili st4.H st4.nx)
     |none=>false)
    | _=>false
   | _,_=>false
  | _,_,_,_=>false
 | _,_=>false
noncomputable def SJ(E:B9)(n:Nat)(res:List ResultVar)(v:V):Nat->Code->St->Bool
 |0,X,st=>match X with
  | .seq (.region _ ops false) rest=>T6 E n res v st ops rest
  | _=>false
 | k + 1, X, st => match X with
  | .seq c Y=>match Dh E n none c st with
   |some [(.normal,st')]=>match st'.tm.gl with
    | .e=>SJ E n res v k Y st'
    | _=>false
   | _=>false
  | _=>false
noncomputable def CU(E:B9)(n k f:Nat)(ars:List V)(v:V):Bool:=match E.code f with
 |some fi=>Nat.ble ars.length fi.ntmps&&SJ E n fi.res v k fi.body ⟨⟨Cf (B0 fi.ntmps) 0 ars,g0,fi.ntmps⟩,.e,0,[]⟩
 |none=>false
theorem Rr{res:List ResultVar}{v:V}{tm:TM}{x:Option St}(h:Nq E res v tm x=true): ∃st v0,x=some st/\Db E.G tm st.H res=some v0/\Mq st.H v v0=true:=by
 unfold Nq at h
 grind
theorem xZ(hE:E.Ok Pg){res:List ResultVar}{v:V}: ∀(k:Nat)(X:Code)(st:St),SJ E n res v k X st=true ->Ih Pg E g0 res 0 (λu H _ _=>Mq H v u=true) (λst'=>st'=st) X
 | 0, X, st, h => by
  unfold SJ at h
  split at h
  .rename_i id ops rest
   refine Ih.last λst' e=>?_
   subst e
   unfold T6 at h
   split at h
   .rename_i st3 o e1 e2
    split at h
    .rename_i c e3 e4 e5 e8
     split at h
     .rename_i fo e6 e7
      split at h
      .rename_i g dc e9
       rw[aD]at h
       obtain⟨b2,h⟩:=h
       have key: ∀{pan:Option V}{st4:St},Nq E res v st4.tm (XD E n g dc (X0 pan) st4.H st4.nx)=true->∃fg,E.code g=some fg/\∀e,((e= .normal\/e= .ret)/\pan=none\/∃x,e= .pan x/\pan=some x)->XC Pg E g0 g dc [] res (λu H' _ _=>Mq H' v u=true) e st4:=λ{pan st4} h=>by
        obtain⟨st5,v0,k1,k2,k3⟩:=Rr h
        obtain⟨⟨fg,k4⟩,k5⟩:=ff hE k1
        exact⟨fg,k4,λe he=>⟨pan,_,he,k5,v0,k2,k3⟩⟩
       have go: ∀{fg:FI},E.code g=some fg->Au Pg none st3.nx rest ⟨st3.tm,st3.H,st3.nx,[]⟩ (λe st4=>XC Pg E g0 g dc [] res (λu H' _ _=>Mq H' v u=true) e st4)->_:=λ{fg} hg hs=>
        (⟨st3,g,dc,[],Wc [],1,o,c,fo,fg,C6.nil.call,e1,e2,e3,e4,e6,e9,by rw[e7];rfl,aF b2,e8,hg,e5,hs⟩: ∃(st3:St)(g:Nat)(dcaps dars:List V)(call:Dq)(i:Nat)(o:Oper)(c:Call)(fo:Operand)(fg:FI),Na Pg g0 call/\D1 E call ops (ops.toList.take i) st'=some st3/\ops[i]? =some o/\Cc st3.tm ops o=some true/\o.op= .defer c/\c.callee= .value fo/\ev st3.tm fo=some (.fn g dcaps)/\L3 st3.tm c.args.toList=some dars/\i+1=ops.size/\o.dst=none/\E.code g=some fg/\st3.tm.gl=g0/\
         Au Pg none st3.nx rest ⟨st3.tm,st3.H,st3.nx,[]⟩ (λe st4=>XC Pg E g0 g dcaps dars res (λv' H' nx' lg'=>Mq H' v v'=true) e st4))
       split at h
       .rename_i e st4 e10
        obtain⟨fg,hg,hd⟩:=key (pan:=none) h
        obtain⟨he,hs⟩:=wJ hE (nx0:=st3.nx) (R:=λe' s=>e'=e/\s=st4) e10 ⟨rfl,rfl⟩
        exact go hg (hs.mono λe' s⟨q1,q2⟩=>by grind)
       .cases h
      .cases h
     .cases h
    .cases h
   .cases h
  .cases h
 | k + 1, X, st, h => by
  unfold SJ at h
  split at h
  .rename_i c Y
   split at h
   .rename_i st' e1
    split at h
    .rename_i e2
     refine Ih.more (R':=λs=>s=st') (λs e=>?_) (xZ hE k Y st' h)
     subst e
     exact(fu hE Bx e1).mono λe s⟨q1,q2⟩=>.inl (by simp_all)
    .cases h
   .cases h
  .cases h
theorem Ag.of_g0(hE:E.Ok Pg){k f:Nat}{ars:List V}{v:V}(hf:Jo v=true)(h:CU E n k f ars v=true):Ag Pg g0 f ars v:=by
 unfold CU at h
 split at h
 .rename_i fi hfi
  rw[aD]at h
  refine Ac.guardC hE hfi (by simp_all) (C5.refl _ _ _) (Z:=λu H _ _=>Mq H v u=true) ?_ (by rw[aV];exact xZ hE k _ _ h.2)
  exact λv0 H' nx' lg' hv s w ee w' hH hn hp=>pV hH hn hv (AR.1 v hf) hp
 .cases h
abbrev Wl(p j:List Nat)(x y:Nat):List V:=[ul p,ul j,u6 x,u6 y]
abbrev VN(t:V)(a b c:Nat)(e:Nat):V:=.tup [t,.agg [u6 a,u6 b,u6 c],i6 e]
abbrev rZ:V:=.agg [i6 0,u6 0,.nils]
theorem jK:Ag Pg g0 50 (Wl [0,1] [2,1] 2 1) (VN (rW (.mk 1 1 [])) 0 0 0 0):=Ag.of_g0 vE_ok (n:=100000) (k:=2) rfl k_
theorem jJ:Ag Pg g0 50 (Wl [0,1] [2,1] 1 1) (VN rZ 0 0 0 2):=Ag.of_runV vE_ok (n:=100000) rfl k_
abbrev wz(e:Nat):V:=.tup [.agg [i6 0,.nils,.nils],.agg [i6 0,.nils,.nils],i6 e]
def wdR:List (List Int):=[[2,2],[1,3]]
def wdN:List Mc:=[⟨2,[],[0],[0,1]⟩,⟨2,[0],[0,1],[0,1,1,0,1,0,0,1]⟩]
def Mf:List Mc:=[⟨2,[],[0],[0,1]⟩,⟨2,[],[1],[0,1]⟩]
theorem P5:Ag Pg g0 27 [] (.tup [Bd 4 wdR wdN,Bd 4 wdR Mf]):=Ag.of_runV vE_ok (n:=100000) k_ k_
theorem lO(R:List (List Int))(N:List Mc)(h:((R.all λL=>decide (L.length<=1000000))&&N.all λx=>decide (x.fr.length<=1000000)&&decide (x.no.length<=1000000)&&decide (x.ou.length<=1000000))=true):B8 R N:=by
 simp only[aD,aO,decide_eq_true_eq]at h
 exact⟨h.1,λx hx=>⟨(h.2 x hx).1.1,(h.2 x hx).1.2,(h.2 x hx).2⟩⟩
theorem Tg:B8 wdR wdN:=lO _ _ k_
theorem U2:Ck 4 wdR wdN=true:=k_
theorem PQ:B8 wdR Mf:=lO _ _ k_
theorem QV:Ck 4 wdR Mf=true:=k_
theorem jF:B8 [] []:=lO _ _ k_
theorem kC:Ck 2 [] []=false:=k_
theorem NI:Ag Pg g0 9 [Bd 4 wdR wdN,Bd 4 wdR Mf] (.tup [.bool true,i6 0]):=by
 have h:=wY 4 wdR wdN 4 wdR Mf Tg PQ U2 QV k_
 rw[show Fy (Bp wdR wdN (Cb wdN.length)) (Bp wdR Mf (Cb wdN.length)) (4^wdR.length) (4^wdR.length)=true by kernel_rfl]at h
 exact h
theorem NH:Ag Pg g0 9 [Bd 4 wdR wdN,Bd 2 [] []] (.tup [.bool false,i6 330]):=Ji 4 wdR wdN 2 [] [] Tg jF U2 kC
theorem NG:Ag Pg g0 15 [Bd 4 wdR wdN,Bd 4 wdR Mf,u6 (1:Nat),u6 (2:Nat)] (.tup [.im 2 (Aa [0,0]),i6 0]):=by
 have h:=pK 4 wdR wdN 4 wdR Mf Tg PQ 1 2 d_ d_ U2 QV k_ k_ 1 rfl
 rw[show Kv 4 wdR wdN 4 wdR Mf 1 2=some [0,0]by kernel_rfl]at h
 exact h
theorem NF:Ag Pg g0 15 [Bd 4 wdR wdN,Bd 4 wdR wdN,u6 (1:Nat),u6 (2:Nat)] (.tup [.nils,i6 4]):=by
 have h:=pK 4 wdR wdN 4 wdR wdN Tg Tg 1 2 d_ d_ U2 U2 k_ k_ 1 rfl
 rw[show Kv 4 wdR wdN 4 wdR wdN 1 2=none by kernel_rfl]at h
 exact h
noncomputable def rS:Et:=RQ 50 (Wl [0,1] [2,1] 2 1) (VN (rW (.mk 1 1 [])) 0 0 0 0) WK
noncomputable def rR:Et:=Vw 50 (Wl [0,1] [2,1] 1 1) (VN rZ 0 0 0 2) rS
theorem GY:Lg Pg rS:=oF oS k_ k_ jK
theorem GX:Lg Pg rR:=AX GY rfl k_ jJ
noncomputable def vJ:B9:=RW Pg rR O7
theorem BR:vJ.Ok Pg:=WS Dy GX WP
theorem iT:Ag Pg g0 28 (Wl [0,1] [2,1] 2 1) (wz 4):=Ag.of_runV BR (n:=100000) rfl k_
theorem iS:Ag Pg g0 28 (Wl [0,1] [2,1] 1 1) (wz 2):=Ag.of_runV BR (n:=100000) rfl k_
theorem iQ:Ag Pg g0 28 (Wl [0] [1] 0 1) (wz 350):=Ag.of_runV vE_ok (n:=100000) rfl k_
noncomputable def qR:Et:=RQ 27 [] (.tup [Bd 4 wdR wdN,Bd 4 wdR Mf]) WK
theorem ET:Lg Pg qR:=oF oS k_ k_ P5
noncomputable def qQ:Et:=Vw 9 [Bd 4 wdR wdN,Bd 4 wdR Mf] (.tup [.bool true,i6 0]) qR
theorem ES:Lg Pg qQ:=AX ET k_ k_ NI
noncomputable def qP:Et:=Vw 9 [Bd 4 wdR wdN,Bd 2 [] []] (.tup [.bool false,i6 330]) qQ
theorem ER:Lg Pg qP:=AX ES k_ k_ NH
noncomputable def qO:Et:=RQ 15 [Bd 4 wdR wdN,Bd 4 wdR Mf,u6 (1:Nat),u6 (2:Nat)] (.tup [.im 2 (Aa [0,0]),i6 0]) qP
theorem EQ:Lg Pg qO:=oF ER k_ k_ NG
noncomputable def ZU:Et:=Vw 15 [Bd 4 wdR wdN,Bd 4 wdR wdN,u6 (1:Nat),u6 (2:Nat)] (.tup [.nils,i6 4]) qO
theorem P4:Lg Pg ZU:=AX EQ k_ k_ NF
noncomputable def vK:B9:=RW Pg ZU O7
theorem BP:vK.Ok Pg:=WS Dy P4 WP
theorem MX:Ag Pg g0 30 [ul [0,1],ul [2,1],u6 (1:Nat),u6 (2:Nat),Bd 4 wdR wdN,Bd 4 wdR Mf] (i6 0):=Ag.of_runV BP (n:=100000) rfl k_
theorem MW:Ag Pg g0 30 [ul [0,1],ul [2,1],u6 (2:Nat),u6 (1:Nat),Bd 4 wdR wdN,Bd 4 wdR Mf] (i6 360):=Ag.of_runV BP (n:=100000) rfl k_
noncomputable def qN:Et:=Vw 30 [ul [0,1],ul [2,1],u6 (1:Nat),u6 (2:Nat),Bd 4 wdR wdN,Bd 4 wdR Mf] (i6 0) ZU
theorem EP:Lg Pg qN:=AX P4 k_ k_ MX
noncomputable def qM:Et:=Vw 30 [ul [0,1],ul [2,1],u6 (2:Nat),u6 (1:Nat),Bd 4 wdR wdN,Bd 4 wdR Mf] (i6 360) qN
theorem EO:Lg Pg qM:=AX EP k_ k_ MW
noncomputable def qL:Et:=Vw 28 (Wl [0,1] [2,1] 2 1) (wz 4) qM
theorem EN:Lg Pg qL:=AX EO k_ k_ iT
noncomputable def qK:Et:=Vw 28 (Wl [0,1] [2,1] 1 1) (wz 2) qL
theorem EM:Lg Pg qK:=AX EN k_ k_ iS
noncomputable def MU:Et:=Vw 28 (Wl [0] [1] 0 1) (wz 350) qK
theorem Wv:Lg Pg MU:=AX EM k_ k_ iQ
noncomputable def vX:B9:=RW Pg MU O7
theorem NO:vX.Ok Pg:=WS Dy Wv WP
theorem Wx:Ag Pg g0 5 [] (.bool true):=Ag.of_runV NO (n:=100000) rfl k_
theorem Sa{α β:Type}{P:α->β->Prop}(a b:α)(ha: ∃x,P a x)(hb: ∃y,P b y): ∃x y,P a x/\P b y/\(a=b->x=y):=by
 obtain⟨x,hx⟩:=ha
 obtain⟨y,hy⟩:=hb
 by_cases h:a=b
 .subst h;exact⟨x,x,hx,hx,λ_=>rfl⟩
 .exact⟨x,y,hx,hy,λe=>absurd e h⟩
section
variable {gg0 gg1 gg2 gg3:Int} {R0 R1 R2 R3:List (List Int)} {N0 N1 N2 N3:List Mc} (h0:B8 R0 N0) (h1:B8 R1 N1) (h2:B8 R2 N2) (h3:B8 R3 N3) {xs ys:Nat} (hxs:xs<2^64) (hys:ys<2^64)
include h0 h1 h2 h3 hxs hys
theorem XZ{ga:Int}{RA:List (List Int)}{NA:List Mc}(hA:B8 RA NA){k:Nat}(hk:k<4)(ht:Jw (B1 Pg) 37 (.agg (M4.l ⟨Jv gg0 R0 N0,Jv gg1 R1 N1,Jv gg2 R2 N2,Jv gg3 R3 N3⟩)) (k:Nat)=some (Bd ga RA NA)):jE ⟨Jv gg0 R0 N0,Jv gg1 R1 N1,Jv gg2 R2 N2,Jv gg3 R3 N3⟩ xs ys k:=Tf (A:=Jv ga RA NA) hk ht (Yw λj hj=>by
 rcases(by omega:j=0\/j=1)with rfl|rfl
 .exact CI hA h0 hxs hys hj rfl
 .exact CI hA h1 hxs hys hj rfl)
theorem Y4:Au Pg none 0 (aT 3 1111010) (Al g0 164 (Wg ⟨Jv gg0 R0 N0,Jv gg1 R1 N1,Jv gg2 R2 N2,Jv gg3 R3 N3⟩ xs ys 0)) (B3 g0 164 [(True,.exit 0,{sl:=[]})]):=Yu λk hk=>by
 rcases(by omega:k=0\/k=1\/k=2\/k=3)with rfl|rfl|rfl|rfl
 .exact XZ (ga:=gg0) h0 h1 h2 h3 hxs hys h0 hk k_
 .exact XZ (ga:=gg1) h0 h1 h2 h3 hxs hys h1 hk k_
 .exact XZ (ga:=gg2) h0 h1 h2 h3 hxs hys h2 hk k_
 .exact XZ (ga:=gg3) h0 h1 h2 h3 hxs hys h3 hk k_
end
abbrev Va(a b c:Nat)(n:Int):V:=.agg [w8 a,w8 b,w8 c,i6 n]
theorem jy{gr:Nat}{P0:List Pc}{SS:List (Nat×Nat)}{W Q:List Nat}(ok:J5 gr P0 SS W Q){gr':Nat}{P1:List Pc}{SS':List (Nat×Nat)}{W' Q':List Nat}(ok':J5 gr' P1 SS' W' Q'){b1 b2 b3:Nat}{bn:Int}(hb1:b1<256)(hb2:b2<256)(hb3:b3<256){c1 c2 c3:Nat}{cn:Int}(hc1:c1<256)(hc2:c2<256)(hc3:c3<256)(xs ys:Nat)(hxs:xs<2^64)(hys:ys<2^64):
  Ag Pg g0 3 [.agg (Ia gr P0 SS W Q),.agg (Ia gr' P1 SS' W' Q'),Va b1 b2 b3 bn,Va c1 c2 c3 cn,u6 xs,u6 ys] (.bool true):=by
 have hmo: ∀{gr:Nat}{P0:List Pc}{SS:List (Nat×Nat)}{W Q:List Nat},J5 gr P0 SS W Q->∃m:Int×List (List Int)×List Mc,Gz 5000 m.2.1 m.2.2/\Ag Pg g0 6 [.agg (Ia gr P0 SS W Q)] (Bd m.1 m.2.1 m.2.2):=λh=>by
  obtain⟨g,R,N,hl,_,_,hm⟩:=Sz h
  exact⟨(g,R,N),hl,hm⟩
 obtain⟨⟨gg0,R0,N0⟩,⟨gg2,R2,N2⟩,⟨l0,m0⟩,⟨l2,m2⟩,hMM⟩:=Sa (P:=λ(l:List V)(m:Int×List (List Int)×List Mc)=>Gz 5000 m.2.1 m.2.2/\Ag Pg g0 6 l (Bd m.1 m.2.1 m.2.2)) [.agg (Ia gr P0 SS W Q)] [.agg (Ia gr' P1 SS' W' Q')] (hmo ok) (hmo ok')
 obtain⟨gg1,R1,N1,l1,m1⟩:=uT (bn:=bn) hb1 hb2 hb3 gg0 R0 N0 (K:=5000) d_ l0
 obtain⟨gg3,R3,N3,l3,m3⟩:=uT (bn:=cn) hc1 hc2 hc3 gg1 R1 N1 (K:=5001) d_ l1
 have hBB:[Va b1 b2 b3 bn,Bd gg0 R0 N0]=[Va c1 c2 c3 cn,Bd gg1 R1 N1]->∃g R N,B8 R N/\(Bd gg1 R1 N1=Bd g R N)/\Ag Pg g0 7 [Va c1 c2 c3 cn,Bd gg1 R1 N1] (Bd g R N):=λh=>⟨gg1,R1,N1,Gz.ok d_ l1,rfl,by rw[<-h];exact m1⟩
 obtain⟨gg3,R3,N3,l3,m3,hBB⟩: ∃g R N,B8 R N/\Ag Pg g0 7 [Va c1 c2 c3 cn,Bd gg1 R1 N1] (Bd g R N)/\([Va b1 b2 b3 bn,Bd gg0 R0 N0]=[Va c1 c2 c3 cn,Bd gg1 R1 N1]->Bd gg1 R1 N1=Bd g R N):=by
  by_cases h:[Va b1 b2 b3 bn,Bd gg0 R0 N0]=[Va c1 c2 c3 cn,Bd gg1 R1 N1]
  .obtain⟨g,R,N,a,b,c⟩:=hBB h
   exact⟨g,R,N,a,c,λ_=>b⟩
  .exact⟨gg3,R3,N3,Gz.ok d_ l3,m3,λe=>absurd e h⟩
 have hlp:=Y4 (gg0:=gg0) (gg1:=gg1) (gg2:=gg2) (gg3:=gg3) (Gz.ok d_ l0) (Gz.ok d_ l1) (Gz.ok d_ l2) l3 hxs hys
 have hM2:[V.agg (Ia gr P0 SS W Q)]=[V.agg (Ia gr' P1 SS' W' Q')]->Bd gg0 R0 N0=Bd gg2 R2 N2:=λh=>by
  have e:=hMM h
  injection e with e1 e2
  injection e2 with e2 e3
  rw[e1,e2,e3]
 have hw:=Wx
 clear hMM hmo ok ok' l0 l1 l2 l3
 unfold Va Bd Ia Jv at*
 generalize Ah R0=c0,Ak N0=e0,Ah R1=c1',Ak N1=e1,Ah R2=c2',Ak N2=e2,Ah R3=c3',Ak N3=e3,R0.length=n0,N0.length=q0,R1.length=n1,N1.length=q1,R2.length=n2,N2.length=q2,R3.length=n3,N3.length=q3 at*
 refine Ch {sl:=[(12,.bool true)]} [fn 30 (.bool true),fn 33 (.agg [i6 gg0,.im n0 c0,.im q0 e0]),fn 36 (.agg [i6 gg0,.im n0 c0,.im q0 e0]),fn 37 (.agg [i6 gg1,.im n1 c1',.im q1 e1]),fn 39 (.agg [i6 gg2,.im n2 c2',.im q2 e2]),fn 43 (.agg [i6 gg0,.im n0 c0,.im q0 e0]),fn 44 (.agg [i6 gg1,.im n1 c1',.im q1 e1]),fn 45 (.agg [i6 gg3,.im n3 c3',.im q3 e3]),(0,.loop [4] (Wg ⟨⟨gg0,n0,c0,q0,e0⟩,⟨gg1,n1,c1',q1,e1⟩,⟨gg2,n2,c2',q2,e2⟩,⟨gg3,n3,c3',q3,e3⟩⟩ xs ys 0) [(True,.exit 0,{sl:=[]})])] ?_
 refine Eq.mp (by kernel_rfl:(let z1:=V.agg [i6 gg0,V.im n0 c0,V.im q0 e0];let z3:=V.agg [i6 gg1,V.im n1 c1',V.im q1 e1];let z7:=V.agg [i6 gg2,V.im n2 c2',V.im q2 e2];let z8:=M4.mk (M3.mk gg0 n0 c0 q0 e0) (M3.mk gg1 n1 c1' q1 e1) (M3.mk gg2 n2 c2' q2 e2) (M3.mk gg3 n3 c3' q3 e3);let z9:=[w8 ↑c1,w8 ↑c2,w8 ↑c3,i6 cn];let y0:=V.agg [i6 gg3,V.im n3 c3',V.im q3 e3];let y2:=[w8 ↑b1,w8 ↑b2,w8 ↑b3,i6 bn];let y4:=V.im SS'.length (Km SS');let y5:=V.im P1.length (Ea P1);let y6:=V.im P0.length (Ea P0);let y7:=V.im SS.length (Km SS);let y8:=V.bool true;let z2:=[w8 ↑gr,y6,y7,bl W,bl Q];let z4:=[V.agg y2,z1];let z5:=[w8 ↑gr',y5,y4,bl W',bl Q'];let z6:=[V.agg [w8 ↑gr,y6,y7,V.im W.length (bt W),V.im Q.length (bt Q)]];let y3:=[V.agg z9,z3];let z0:=pt (pt (pt (pt T.e 0 (O.row 26 none z2)) 1 (O.row 26 none z5)) 2 (O.row 28 none y2)) 3 (O.row 28 none z9);let y1:=[V.agg z2];An [y8=y8,Ag Tryz.prog g0 5 [] y8,Ag Tryz.prog g0 6 z6 z1,Ag Tryz.prog g0 6 z6 z1,(V.fn 6 []=V.fn 6 []->y1=y1->z0=z0->0+1+1+1+1=4->Sm (CR.mk z1 z0 4 [])),Ag Tryz.prog g0 7 z4 z3,Ag Tryz.prog g0 6 [V.agg [w8 ↑gr',y5,y4,V.im W'.length (bt W'),V.im Q'.length (bt Q')]] z7,(V.fn 6 []=V.fn 6 []->y1=[V.agg z5]->z0=z0->0+1+1+1+1=4->CR.mk z1 z0 4 []=CR.mk z7 z0 4 []),(V.fn 6 []=V.fn 6 []->y1=[V.agg z5]->z0=z0->0+1+1+1+1=4->CR.mk z1 z0 4 []=CR.mk z7 z0 4 []),Ag Tryz.prog g0 6 z6 z1,(V.fn 6 []=V.fn 6 []->[V.agg z5]=y1->z0=z0->0+1+1+1+1=4->CR.mk z7 z0 4 []=CR.mk z1 z0 4 []),(V.fn 6 []=V.fn 6 []->y1=y1->z0=z0->0+1+1+1+1=4->Sm (CR.mk z1 z0 4 [])),(V.fn 6 []=V.fn 6 []->y1=y1->z0=z0->0+1+1+1+1=4->Sm (CR.mk z1 z0 4 [])),Ag Tryz.prog g0 7 z4 z3,(V.fn 7 []=V.fn 7 []->z4=z4->z0=z0->0+1+1+1+1=4->Sm (CR.mk z3 z0 4 [])),Ag Tryz.prog g0 7 y3 y0,(V.fn 7 []=V.fn 7 []->z4=y3->z0=z0->0+1+1+1+1=4->CR.mk z3 z0 4 []=CR.mk y0 z0 4 []),(V.fn 7 []=V.fn 7 []->z4=y3->z0=z0->0+1+1+1+1=4->CR.mk z3 z0 4 []=CR.mk y0 z0 4 []),An [An [Sm (↑xs:Int),Sm (↑ys:Int),Zz,An [gg0=gg0,An [n0=n0,c0=c0],An [q0=q0,e0=e0],gg1=gg1,An [n1=n1,c1'=c1'],An [q1=q1,e1=e1],gg2=gg2,An [n2=n2,c2'=c2'],An [q2=q2,e2=e2],gg3=gg3,An [n3=n3,c3'=c3'],An [q3=q3,e3=e3],Tt],(↑(0:Nat):Int)=(0:Int),Tt],An [M4.l z8=[i6 gg0,V.im n0 c0,V.im q0 e0,i6 gg1,V.im n1 c1',V.im q1 e1,i6 gg2,V.im n2 c2',V.im q2 e2,i6 gg3,V.im n3 c3',V.im q3 e3],TT 12],Tt],Au Tryz.prog none 0 (aT 3 1111010) (Al g0 164 (Wg z8 xs ys 0)) (B3 g0 164 [(True,Ex.exit 0,SL.mk [] [] [] [])]),(True->An [An [Sm true,Tt],Tt]),Tt])=_) ?_
 (repeat'(first|(with_reducible apply And.intro)|(refine λ(_:True)=>?_)))<;>first|exact aq|skip
 all_goals first|with_reducible exact hw|with_reducible exact m0|with_reducible exact m1|with_reducible exact m2|with_reducible exact m3|with_reducible exact hlp|exact hlp|(intro h9;cases h9;done)|(intro _ h9 _ _;rw[hM2 h9];done)|(intro _ h9 _ _;rw[hM2 h9.symm];done)|(intro _ h9 _ _;rw[hBB h9];done)|rfl|skip
end Go.Proofs.YtifdkhfldbkkpaaGreat.Am
