/- Texts behind the claim, part 11: the abstract machine, and what the functions answer. No condition. -/
import Derived.Test.YtcmeiecgijmdjaaDoorCTop10
set_option linter.unusedVariables false
set_option maxHeartbeats 4000000
set_option maxRecDepth 100000
set_option linter.unusedSimpArgs false
set_option linter.unusedSectionVars false
namespace Go.Proofs.YtcmeiecgijmdjaaDoor.Am
open Go.RowKit
section
variable (n:Nat) (Cd A P:List V) (m:Nat) (R:List V) (T:Nat→Int) (lim:Nat) (g:Nat→Nat) (j:Nat)
abbrev tgS:SL:={sl:=[(6,.ptr 0 0),(7,.ptr 1 0),(9,.ptr 2 0),(12,i6 (n:Nat)),(13,i6 (lim:Nat)),(18,.ptr 3 0),(20,.ptr 4 0),(140,gV' n g),(141,i6 (n:Nat)),(142,i6 (j:Nat))],os:=[.row 26 none A,.row 26 none P,.row 31 none [.im n Cd,.im m R],.row 44 none (arF T),.row 44 none (arF T)],md:=[0,0,1]}
abbrev tgX:SL:={sl:=[(6,.ptr 0 0),(7,.ptr 1 0),(9,.ptr 2 0),(12,i6 (n:Nat)),(13,i6 (lim:Nat)),(18,.ptr 3 0),(20,.ptr 4 0)],os:=[.row 26 none A,.row 26 none P,.row 31 none [.im n Cd,.im m R],.row 44 none (arF T),.row 44 none (arF T)],md:=[0,0,1]}
end
theorem tg_loop(n:Nat)(Cd A P:List V)(hc:HfL Cd)(hA:HfL A)(hP:HfL P)(m:Nat)(R:List V)(hR:HfL R)(T:Nat→Int)(lim:Nat)(g:Nat→Nat)(h4:n≤4)(hg: ∀v,v<n→g v<16)(hl: ∀v,popc (g v)≤lim):
  Sat Pg none 0 (at' 3 [1,1,1,1,1,1,1,1,1,1,1,1,1,0,1,0]) (mkSt g0 191 (tgS n Cd A P m R T lim g 0)) (Qaf g0 191 [(True,.exit 2,tgX n Cd A P m R T lim)]):=by
 have hT:=HfL_ar T
 have hU:=Qag g n
 refine Qa6 vE_ok mixed Qad (b:=at' 3 [1,1,1,1,1,1,1,1,1,1,1,1,1,0,1,0,0]) (by kernel_rfl) (fun j=>j≤n) (tgS n Cd A P m R T lim g) (fun j=>n-j) (fun j hj=>?_) 0 (Nat.zero_le _)
 by_cases hlt:j<n
 ·have h1 : headF (List.drop (j * 1) (uF g n)) = some (u6 ((g j : Nat) : Int)) := by
   have e:=@Qp2 g n j hlt
   rwa [Nat.zero_add,Qam]at e
  have h2:=Qsq (g j) (hg j hlt)
  have h3:=hl j
  generalize g j=x at*
  generalize popc x=b at*
  refine .inl ⟨j+1,[0,1,2,3,4],[yes 143,pl 144,ld 145 (u6 (x:Nat)),fn 147 (i6 (b:Nat)),no 149,nu 150 ((j+1:Nat):Int)],1000,hlt,by omega,?_⟩
  exact m_ (p:=let z4:=An [Sm (arF T),TT 18];let z0:=(↑n:Int);let z1:=(↑(j+1):Int);let z2:=(↑j:Int);let z3:=(↑lim:Int);An [decide (z2<z0)=true,An [(0:Int)≤z2,z2<z0],_,An [_,_],_,_,decide ((↑b:Int)>z3)=false,wr .i64 (z2+(1:Int))=z1,An [Zz,Zz,Zz,z0=z0,z3=z3,Zz,Zz,An [n=n,Sm (uF g n)],z0=z0,z1=z1,_],An [A=A,_],An [P=P,_],An [An [n=n,Cd=Cd],An [m=m,R=R],_],z4,z4,_]) ⟨aq,a_,h1,⟨aq,aq⟩,h2,aq,aq,aq,⟨aq,aq,aq,aq,aq,aq,aq,a_,aq,aq,aq⟩,⟨aq,hA⟩,⟨aq,hP⟩,⟨a_,a_,aq⟩,aq,aq,aq⟩
 ·obtain rfl : j = n := by omega
  refine .inr ⟨.exit 2,[0,1,2,3,4],tgX j Cd A P m R T lim,[no 143],1000,.inl ⟨trivial,rfl,rfl⟩,?_⟩
  exact m_ (p:=let z1:=An [Sm (arF T),TT 18];let z0:=(↑j:Int);An [decide (z0<z0)=false,An [Zz,Zz,Zz,z0=z0,Sm (↑lim:Int),Zz,Zz,_],An [A=A,_],An [P=P,_],An [An [j=j,Cd=Cd],An [m=m,R=R],_],z1,z1,_]) ⟨aq,⟨aq,aq,aq,aq,aq,aq,aq,aq⟩,⟨aq,hA⟩,⟨aq,hP⟩,⟨a_,a_,aq⟩,aq,aq,aq⟩
theorem cmp_same{a:Nat→Int}(ha:inB a 4000):cmpF a a=0:=by
 rw[Qc2 ha ha]
 exact Qe5.2 rfl
theorem top_true(C:List Int)(ks:List (Nat→Int))(fo:Int)(M:List Int)(x:Nat)(a p:Nat→Nat)(hre:FnOk Pg g0 4 [] (.bool true))(h:DrOk C ks fo M)(hx:x<256)(ha: ∀k,a k<256)(hp: ∀k,p k<256):FnOk Pg g0 3 [dfV C ks fo M,w8 (x:Nat),.agg (t8L a),.agg (t8L p)] (.bool true):=by
 have hdr:=draft_fn C ks fo M h
 obtain⟨hok,hrow⟩:=ok_draft C ks fo M
 have hcd:=Qen C
 have hl40:=(Qln C ks fo M).2
 have h1:=hcd.pos
 have h5:=hcd.five
 obtain⟨n,hn⟩: ∃n,n=min (cardsD C).length 4:=⟨_,rfl⟩
 have hgo:=good_cut hcd hl40 hrow n (by omega) (by omega)
 have hco: ∀m,(comp (dataD C ks fo M)).length=m→_:=fun m hm=>Qjz (cardsD C) (dataD C ks fo M) (by omega) (by omega) hok _ rfl m hm
 have hdL:HfL (dfL C ks fo M):=⟨trivial,trivial,trivial,trivial,trivial⟩
 have hclr: ∀c∈comp (dataD C ks fo M),c.length=(cardsD C).length:=fun c hc=>(hrow c (List.mem_filter.1 hc).1).1
 have hlr:(comp (dataD C ks fo M)).length≤40:=Nat.le_trans (List.length_filter_le _ _) hl40
 generalize dataD C ks fo M=cs0 at*
 generalize comp cs0=cs at*
 generalize cardsD C=cards at*
 have hcdl:(cards.take n).length=n:=by rw[List.length_take];omega
 have hs1:=@sl_im cards.length n cards (by omega) (by omega)
 obtain⟨cd,hcdE⟩: ∃cd,cd=cards.take n:=⟨_,rfl⟩
 rw[←hcdE]at hgo hcdl hs1
 have hx4:x%4<4:=Nat.mod_lt _ (by decide)
 have hxm:(x:Int).tmod 4=((x%4:Nat):Int):=by rw[show(4:Int)=((4:Nat):Int)from rfl,Qqy]
 have hr4:(cs.map (·.take n)).length≤40:=by rw[List.length_map];exact hlr
 have hc4: ∀c∈cs.map (·.take n),c.length≤1000:=fun c hc=>by
  obtain⟨b,_,rfl⟩:=List.mem_map.1 hc
  rw[List.length_take];omega
 obtain⟨L,Pa,g,B⟩:=best_ok hgo (by omega) (by omega) hr4 hc4 (x%4) (by omega)
 obtain⟨b1,b2,b3,b4,⟨r,b5⟩,b6,b7,b8,_⟩:=B
 obtain⟨g2,r2,k1,k2,k3⟩:=graph_fn a p ha hp (x%4) cd.length (by omega) (by omega)
 obtain⟨S,c,s1,s2,s3,_⟩:=Qt1 hgo (by omega) (by omega) hr4 hc4 (x%4) k1 k2
 have hF:=Qrj hgo hr4
 have h32:=Qau (n:=cd.length) (by omega)
 have hT8:=Qhx (lim:=x%4) hF (show cd.length≤5 by omega) (show 2^cd.length-1<2^cd.length by have:0<2^cd.length:=Nat.pow_pos (by decide);omega)
 have hsame:=Qsw _ _ (hT8.inA (by decide)) (hT8.inA (by decide))
 rw[cmp_same (hT8.mono (by decide))]at hsame
 have hg16: ∀v,v<cd.length→g v<16:=fun v hv=>by
  have:2^cd.length≤2^4:=Nat.pow_le_pow_right (by decide) (by omega)
  have:=(b5 v hv).1
  omega
 have hgV: ∀m,m=cs.length→gV cd (cs.map (·.take n))= .agg [.im n (ints cd),.im m ((cs.map (·.take n)).map sl)]:=fun m hm=>by
  show V.agg [V.im cd.length (ints cd),V.im (cs.map (·.take n)).length _]=_
  rw[List.length_map,hcdl,hm]
 rw[hgV _ rfl]at b1 b2 b7 b8 s1
 have b9:=cut_loop x n cards.length (by omega) hn (by omega) (ints cd) (Qab cd) (t8L a) (t8L p) (Qba a) (Qba p)
 have hR:=Qbd sl (cs.map (·.take n)) (fun _=>trivial)
 have hA:=Qba a
 have hP:=Qba p
 have hcc:=Qab cd
 have hcrd:=Qab cards
 have hg0:=Qav cs0
 have tg:=fun m R hR T=>tg_loop n (ints cd) (t8L a) (t8L p) hcc hA hP m R hR T (x%4) g (by omega) (by rw[←hcdl];exact hg16) b6
 have hTT:=fun T=>HfL_ar T
 have huP:=Qcl Pa
 have hLL:=Qab L
 rw[hcdl]at b1 b3 b7 s1 s2 k3 hsame
 have hU1:=Qag g n
 have hU2:=Qag g2 n
 have hcut:=fun m hm=>Qlm (dfL C ks fo M) (t8L a) (t8L p) hdL hA hP cards (cs.map sl) (Qbd sl cs (fun _=>trivial)) m cs0 (hco m hm)
 clear hrow hgo hc4 hF hT8 hg16 hcd hgV b5 k1 k2 hok hr4 hl40 hco
 generalize topB n (x%4) (fF cd (cs.map (·.take n))) (2^n-1)=T at*
 generalize x%4=lim at*
 have close:True:=trivial
 cases hm:cs.length with
 |zero=>
  obtain rfl:cs=[]:=List.eq_nil_of_length_eq_zero hm
  have hcall:=hcut 0 rfl
  have tl:=tg 0 noL trivial T
  have hz:(([]:List (List Int)).map (fun x=>x.take n)).map sl=noL:=rfl
  rw[hz]at b1 b2 b7 b8 s1
  have hN:HfL noL:=trivial
  have l:=Qs0 x n (ints cd) hcc (t8L a) (t8L p) hA hP
  clear hcut b9 tg hR hclr
  refine FnOk.of_vc vE_ok mixed Qad (n:=1000) (r:=[]) (S:={sl:=[(8,.bool true)]}) (hs:=[fn 32 (.bool true),fn 36 (gV cards cs0),(37,.call ⟨.tup [.agg [sl cards,cwV 3 0],i6 0],ofOs .e 0 (tsO (dfL C ks fo M) (t8L a) (t8L p)++[cwO noL 0,.row 31 none [sl cards,cwV 3 0]]),5,[]⟩),nu 47 (n:Nat),va 48 (.im n (ints cd)),(0,.loop [1,2,5,3] (tcS0 x n (ints cd) (t8L a) (t8L p)) [(True,.exit 0,tcX x n (ints cd) (t8L a) (t8L p) 0 noL)]),nu 80 (lim:Nat),nu 81 (lim:Nat),fn 85 (.tup [lV L Pa,i6 0]),fn 90 (.tup [gV' n g,i6 0]),fn 96 (.tup [ar T,i6 0]),fn 102 (.tup [ar T,i6 0]),fn 109 (.tup [.bool true,i6 0]),no 138,(0,.loop [0,1,2,4,5] (tgS n (ints cd) (t8L a) (t8L p) 0 noL T lim g 0) [(True,.exit 2,tgX n (ints cd) (t8L a) (t8L p) 0 noL T lim)]),fn 157 (gV' n g2),fn 158 (.tup [ar S,i6 0]),fn 164 (.tup [i6 0,i6 0]),fn 170 (.tup [i6 c,i6 0]),yes 189]) ?_
  exact m_ (p:=let x2:=An [TT 2,Tt,Tt];let x3:=An [Sm (arF T),TT 18];let z4:=ofOs Am.T.e 0 (tsO (dfL C ks fo M) (t8L a) (t8L p)++[cwO noL 0,O.row 31 none [sl cards,cwV 3 0]]);let z5:=[w8 ↑(a 0),w8 ↑(a 1),w8 ↑(a 2),w8 ↑(a 3),w8 ↑(a 4),w8 ↑(a 5),w8 ↑(a 6),w8 ↑(a 7)];let z6:=[w8 ↑(p 0),w8 ↑(p 1),w8 ↑(p 2),w8 ↑(p 3),w8 ↑(p 4),w8 ↑(p 5),w8 ↑(p 6),w8 ↑(p 7)];let z7:=(↑n:Int);let z8:=(↑(0:Nat):Int);let y0:=(↑lim:Int);let y1:=V.tup [V.agg [sl cards,cwV 3 0],i6 0];let y2:=gV cards cs0;let y3:=V.im n (ints cd);let y4:=V.bool true;let y5:=[sl8 C,kV ks,w8 fo,sl8 M];let y7:=(↑cards.length:Int);let y8:=i6 ↑lim;let x0:=V.tup [ar T,i6 0];let x1:=V.tup [ar S,i6 0];let z0:=pt (pt (pt Am.T.e 0 (O.row 25 none y5)) 1 (O.row 26 none z5)) 2 (O.row 26 none z6);let z1:=ofOs Am.T.e 0 [O.row 26 none (t8L a),O.row 26 none (t8L p),O.row 31 none [y3,V.im 0 noL],O.row 44 none (arF T),O.row 44 none (arF T)];let z3:=V.agg [y3,V.im 0 noL];An [y4=y4,_,_,_,An [TT 4,_],_,_,CallSpec Pg g0 (V.fn 5 []) [y2] z0 3 (CR.mk y1 z4 5 []),An [V.fn 6 []=V.fn 5 []→[V.agg y5]=[y2]→z0=z0→0+1+1+1=3→CR.mk y2 z0 3 []=CR.mk y1 z4 5 [],_],(if(4:Int)<y7 then(4:Int)else y7)=z7,_,An [An [(↑x:Int)=(↑x:Int),Zz,Zz,Zz,An [Zz,Zz,Zz],z8=z8,z8=(0:Int),_],An [Sm (t8L a),TT 8],An [Sm (t8L p),TT 8],An [An [n=n,Sm (ints cd)],An [Zz,Zz,Zz],_],An [noL=noL,_],_],_,(True->An [_,wr .i64 y0=y0,x2,FnOk Pg g0 7 [z3,y8] (V.tup [lV L Pa,i6 0]),_,An [TT 2,_],_,_,x2,FnOk Pg g0 9 [z3,y8] x0,_,x2,FnOk Pg g0 10 [z3,V.im n (uF g n)] x0,_,An [TT 2,_,TT 2,_],FnOk Pg g0 11 [z3,y8,(V.agg [V.im L.length (ints L),V.im Pa.length (ut Pa)])] (V.tup [y4,i6 0]),_,(z7 != z7)=false,An [An [Zz,Zz,Zz,z7=z7,y0=y0,Zz,Zz,An [n=n,Sm (uF g n)],z7=z7,z8=(0:Int),_],An [Sm (t8L a),TT 8],An [Sm (t8L p),TT 8],An [An [n=n,Sm (ints cd)],An [Zz,noL=noL],_],x3,x3,_],_,(True->An [An [_,TT 8,TT 8,_,_],_,_,x2,FnOk Pg g0 10 [z3,V.im n (uF g2 n)] x1,An [V.fn 13 []=V.fn 10 []→[i6 ↑n,V.agg z5,V.agg z6,y8]=[z3,gV' n g2]→z1=z1→5=5→CR.mk (gV' n g2) z1 5 []=CR.mk x1 z1 5 [],_],An [TT 18,TT 18,_],_,_,An [TT 18,TT 18,_],_,_,decide (c≤(0:Int))=true,An [Sm true,_],_]),_]),_]) ⟨aq,close,hre,close,⟨aq,close⟩,hdr,close,hcall,⟨aq,close⟩,aq,hs1,⟨⟨aq,aq,aq,aq,a_,aq,aq,close⟩,a_,a_,⟨a_,a_,close⟩,⟨aq,close⟩,close⟩,l,(fun _=>⟨hxm,aq,aq,aq,close,⟨aq,close⟩,b3,close,aq,aq,close,aq,aq,close,⟨aq,close,aq,close⟩,aq,close,aq,⟨⟨aq,aq,aq,aq,aq,aq,aq,a_,aq,aq,close⟩,a_,a_,⟨a_,a_,close⟩,aq,aq,close⟩,tl,(fun _=>⟨⟨close,aq,aq,close,close⟩,k3,close,aq,aq,⟨aq,close⟩,⟨aq,aq,close⟩,hsame,close,⟨aq,aq,close⟩,s2,close,aq,⟨aq,close⟩,close⟩),close⟩),close⟩
 |succ q=>
  have hcall:=hcut (q+1) hm
  have l:=b9 q (by omega) cs hclr hm _ rfl
  rw[hm]at b1 b2 b7 b8 s1
  have hS:=Qbd sl cs (fun _=>trivial)
  generalize (cs.map (fun x=>x.take n)).map sl=R at*
  have tl:=tg (q+1) R hR T
  clear hcut b9 tg hclr
  refine FnOk.of_vc vE_ok mixed Qad (n:=1000) (r:=[]) (S:={sl:=[(8,.bool true)]}) (hs:=[fn 32 (.bool true),fn 36 (gV cards cs0),(37,.call ⟨.tup [.agg [sl cards,cwV 3 (q+1)],i6 0],ofOs .e 0 (tsO (dfL C ks fo M) (t8L a) (t8L p)++[cwO (cs.map sl) (q+1),.row 31 none [sl cards,cwV 3 (q+1)]]),5,[]⟩),nu 47 (n:Nat),va 48 (.im n (ints cd)),(0,.loop [1,2,5,3] (tcS x n (ints cd) (t8L a) (t8L p) q (0,cs)) [(True,.exit 0,tcX x n (ints cd) (t8L a) (t8L p) (q+1) R)]),nu 80 (lim:Nat),nu 81 (lim:Nat),fn 85 (.tup [lV L Pa,i6 0]),fn 90 (.tup [gV' n g,i6 0]),fn 96 (.tup [ar T,i6 0]),fn 102 (.tup [ar T,i6 0]),fn 109 (.tup [.bool true,i6 0]),no 138,(0,.loop [0,1,2,4,5] (tgS n (ints cd) (t8L a) (t8L p) (q+1) R T lim g 0) [(True,.exit 2,tgX n (ints cd) (t8L a) (t8L p) (q+1) R T lim)]),fn 157 (gV' n g2),fn 158 (.tup [ar S,i6 0]),fn 164 (.tup [i6 0,i6 0]),fn 170 (.tup [i6 c,i6 0]),yes 189]) ?_
  exact m_ (p:=let x4:=An [TT 2,Tt,Tt];let x5:=An [Zz,Sm (q+1),Tt];let x6:=An [Sm (arF T),TT 18];let z5:=[w8 ↑(a 0),w8 ↑(a 1),w8 ↑(a 2),w8 ↑(a 3),w8 ↑(a 4),w8 ↑(a 5),w8 ↑(a 6),w8 ↑(a 7)];let z6:=[w8 ↑(p 0),w8 ↑(p 1),w8 ↑(p 2),w8 ↑(p 3),w8 ↑(p 4),w8 ↑(p 5),w8 ↑(p 6),w8 ↑(p 7)];let z7:=(↑n:Int);let z8:=[sl cards,cwV 3 (q+1)];let y0:=(↑lim:Int);let y1:=gV cards cs0;let y2:=V.im n (ints cd);let y3:=List.map sl cs;let y5:=V.bool true;let y6:=[sl8 C,kV ks,w8 fo,sl8 M];let y9:=(↑cards.length:Int);let z0:=pt (pt (pt Am.T.e 0 (O.row 25 none y6)) 1 (O.row 26 none z5)) 2 (O.row 26 none z6);let z2:=ofOs Am.T.e 0 (tsO (dfL C ks fo M) (t8L a) (t8L p)++[cwO y3 (q+1),O.row 31 none z8]);let z4:=[y2,V.im (q+1) R];let y7:=V.tup [V.agg z8,i6 0];let z1:=ofOs Am.T.e 0 [O.row 26 none (t8L a),O.row 26 none (t8L p),O.row 31 none z4,O.row 44 none (arF T),O.row 44 none (arF T)];An [y5=y5,_,_,_,An [TT 4,_],_,_,CallSpec Pg g0 (V.fn 5 []) [y1] z0 3 (CR.mk y7 z2 5 []),An [V.fn 6 []=V.fn 5 []→[V.agg y6]=[y1]→z0=z0→0+1+1+1=3→CR.mk y1 z0 3 []=CR.mk y7 z2 5 [],_],(if(4:Int)<y9 then(4:Int)else y9)=z7,_,An [An [(↑x:Int)=(↑x:Int),Zz,Zz,Zz,x5,Sm (↑(q+1):Int),(↑(0:Nat):Int)=(0:Int),_],An [Sm (t8L a),TT 8],An [Sm (t8L p),TT 8],An [An [n=n,Sm (ints cd)],x5,_],An [_,ViewL (Am.T.get (pt (pt (pt z2 5 (O.row 31 none [V.nils,V.nils])) 5 (O.row 31 none z8)) 5 (O.row 31 none [y2,cwV 3 (q+1)]))) (Fr 0 [1,2,5,3] ([5]++([5]++([]++([]++([]++[])))))) (rho 0 [1,2,5,3]) y3 y3],_],_,(True->An [_,wr .i64 y0=y0,x4,_,_,An [TT 2,_],_,_,x4,_,_,x4,_,_,An [TT 2,_,TT 2,_],_,_,(z7 != z7)=false,An [An [Zz,Zz,Zz,z7=z7,y0=y0,Zz,Zz,An [n=n,Sm (uF g n)],z7=z7,(↑(0:Nat):Int)=(0:Int),_],An [Sm (t8L a),TT 8],An [Sm (t8L p),TT 8],An [An [n=n,Sm (ints cd)],An [Sm (q+1),R=R],_],x6,x6,_],_,(True->An [An [_,TT 8,TT 8,_,_],_,_,x4,_,An [V.fn 13 []=V.fn 10 []→[i6 ↑n,V.agg z5,V.agg z6,(i6 ↑lim)]=[(V.agg z4),gV' n g2]→z1=z1→5=5→CR.mk (gV' n g2) z1 5 []=CR.mk (V.tup [ar S,i6 0]) z1 5 [],_],An [TT 18,TT 18,_],_,_,An [TT 18,TT 18,_],_,_,decide (c≤(0:Int))=true,An [Sm true,_],_]),_]),_]) ⟨aq,close,hre,close,⟨aq,close⟩,hdr,close,hcall,⟨aq,close⟩,aq,hs1,⟨⟨aq,aq,aq,aq,aq,aq,aq,close⟩,a_,a_,⟨a_,aq,close⟩,⟨close,(by with_reducible(first|exact hre|exact hdr|exact hcall|exact hs1|exact hxm|exact b1|exact b2|exact b3|exact b7|exact b8|exact l|exact tl|exact k3|exact s1|exact s2|exact hsame|exact hA|exact hP|exact hcc|exact hcrd|exact hg0|exact hdL|exact hS|exact hR|exact hTT _|exact huP|exact hLL|exact hU1|exact hU2|exact ViewL.of_hf _ hS))⟩,close⟩,l,(fun _=>⟨hxm,aq,aq,b2,close,⟨aq,close⟩,b3,close,aq,b1,close,aq,b7,close,⟨aq,close,aq,close⟩,b8,close,aq,⟨⟨aq,aq,aq,aq,aq,aq,aq,a_,aq,aq,close⟩,a_,a_,⟨a_,a_,close⟩,aq,aq,close⟩,tl,(fun _=>⟨⟨close,aq,aq,close,close⟩,k3,close,aq,s1,⟨aq,close⟩,⟨aq,aq,close⟩,hsame,close,⟨aq,aq,close⟩,s2,close,aq,⟨aq,close⟩,close⟩),close⟩),close⟩
open Go.RowKit Go.ChangeShapes Go.WideShapes
section
variable {H:Type} {enc:TypeId×Value→H} {w:World}
theorem t8_of{ns:List Int}(h:ns.length=8)(hb: ∀x∈ns,0≤x∧x≤255):ns.map (V.int .u8)=t8L (fun k=>(ns.getD k 0).toNat):=by
 have e: ∀x∈ns,((x.toNat:Nat):Int)=x:=fun x hx=>Int.toNat_of_nonneg (hb x hx).1
 match ns,h with
 |[a0,a1,a2,a3,a4,a5,a6,a7],_=>
  simp only[List.mem_cons,List.not_mem_nil,or_false,forall_eq_or_imp,forall_eq]at e
  obtain⟨e0,e1,e2,e3,e4,e5,e6,e7⟩:=e
  simp[e0,e1,e2,e3,e4,e5,e6,e7]
theorem Qpf{t e:TypeId}{v:Value}{d:DataW H}{p:List MemPlace}(ht:Pg.underlying t=some (.array 8 e))(he:Pg.underlying e=some (.int .u8))(hce:Pg.cellsOf e=1)(hct:Pg.cellsOf t=8)(hv: ∃cs,v= .agg cs)(h:DataW.Trod enc Pg w 0 (fun _=>true) true t v d p):
  ∃a:Nat→Nat,RV (sg (allB w)) w (.agg (t8L a)) v∧∀i,a i<256:=by
 obtain⟨cs,rfl⟩:=hv
 obtain⟨fuel,hf⟩:=h
 obtain⟨ns,h1,h2,_,h3⟩:=Qjr ht he hce hct hf
 have h2':cs.toList=ns.map (Value.int .u8):=h2
 have hb: ∀x∈ns,0≤x∧x≤255:=fun x hx=>wf8 (h3 _ hx)
 refine⟨fun k=>(ns.getD k 0).toNat,?_,fun i=>?_⟩
 ·rw [← t8_of h1 hb]
  exact⟨cs,rfl,by rw[h2'];exact RL_map ns⟩
 ·dsimp only
  rw[List.getD_eq_getElem?_getD]
  cases hx:ns[i]? with
  |none=>simp
  |some x=>
   have:=hb x (List.mem_of_getElem? hx)
   simp only[Option.getD_some]
   omega
end
variable {P:Program}
def SatO(P:Program):Option Nat→Option Nat→Nat→Code→St→(Ex→St→Prop)→Prop
 |none,rd,nx0,c,st,R=>Sat P rd nx0 c st R
 |some f,rd,nx0,c,st,R=>SatF P f rd nx0 c st R
abbrev PX:=Option Nat→Option Nat→Code→St→Option (V×St)
def crOf:Option (V×St)→Option CR
 |some (v,st)=>some ⟨v,st.H,st.nx,st.lg⟩
 |none=>none
def panCallX (E : Env) (px : PX) (ex : Option Nat → Code → St → Option Rs) : Qsc := fun g l H nx gl => match g with
 | .fn f caps => match E.code f with
  |some fi=>bif Nat.ble (l++caps).length fi.ntmps then(match crOf (px none none fi.body ⟨⟨putAll (blank fi.ntmps) 0 (l++caps),gl,fi.ntmps⟩,H,nx,[]⟩)with
   |some r=>some r
   |none=>crOf (px (some f) none fi.body ⟨⟨putAll (blank fi.ntmps) 0 (l++caps),gl,fi.ntmps⟩,H,nx,[]⟩))else none
  |none=>none
 | .yld hd => match H.get hd with
  | some (.loop .ready _ (f0 + 1) tm ps asg body) => match E.code f0, putPs tm ps l with
   | some _, some tm1 => match ex (some hd) asg ⟨tm1, H, nx, []⟩ with
    |some [(.normal,st1)]=>match st1.H.get hd with
     |some (.loop .ready pd1 fn1 tmx ps1 as1 bd1)=>crOf (px (some f0) (some hd) body ⟨st1.tm,st1.H.put hd (.loop .busy pd1 fn1 tmx ps1 as1 bd1),st1.nx,hd::st1.lg⟩)
     | _=>none
    | _=>none
   | _,_=>none
  | _=>none
 | _=>none
def panX (E : Env) : Nat → PX
 |0,_,_,_,_=>none
 | n + 1, f, rd, c, st => match c with
  | .seq a b=>match exec E n rd a st with
   |some [(.normal,st1)]=>panX E n f rd b st1
   | _=>panX E n f rd a st
  | .cond c a b=>match ev st.tm c with
   |some (.bool t)=>panX E n f rd (bif t then a else b) st
   | _=>none
  | .block _ b=>panX E n f rd b st
  | .scope b=>panX E n f rd b st
  | .loop b=>match f with
   |none=>panL (exec E n rd b) (panX E n none rd b) n st
   |some _=>none
  | .rangeFunc g ps asg body => match f, ev st.tm g with
   |some f0,some (.fn f' caps)=>bif rdOk rd st.H then(match panCallX E (panX E n) (exec E n) (.fn f' caps) [.yld st.nx] (st.H.put st.nx (.loop .ready none (f0+1) st.tm ps.toList asg body)) (st.nx+1) st.tm.gl with
    |some r=>some (r.v,⟨st.tm,r.H,r.nx,r.lg++st.lg⟩)
    |none=>none)else none
   | _,_=>none
  | .region _ ops draw=>panR E (callW E (exec E n) st.tm.gl) (panCallX E (panX E n) (exec E n)) ops draw st
  | _=>none
theorem Qnt{x:Option (V×St)}{r:CR}(h:crOf x=some r): ∃v st,x=some (v,st)∧r=⟨v,st.H,st.nx,st.lg⟩:=by
 unfold crOf at h
 grind
def PxOk(P:Program)(px:PX):Prop:=∀f rd c st v st',px f rd c st=some (v,st')→∀nx0,SatO P f rd nx0 c st (fun e s=>e= .pan v∧s=st')
theorem Qes{E:Env}(hE:E.Ok P)(hm:P.follows .mixedOrders=true){n:Nat}{rd:Option Nat}{c:Code}{st st1:St}(hx:exec E n rd c st=some [(.normal,st1)]){nx0:Nat}:Sat P rd nx0 c st (fun e s=>e= .normal∧s=st1):=by
 intro B s0 w0 s w a hn hB hrd A Q hQ
 have e:rd.map s0.μ=rd.map s.μ:=by
  cases rd with
  |none=>rfl
  |some h=>exact congrArg some (A.step.le.μ h (hrd h rfl)).symm
 rw[e]
 exact(Qdq hE hm n).one rd c st st1 .normal s w a B hx A.rel (Nat.le_trans hB A.step.mod.size) (fun h e=>A.step.le.dom h (hrd h e)) Q (fun a' w'⟨lg,s',W⟩=>hQ .normal st1 ⟨rfl,rfl⟩ s' w' a' (A.went W))
theorem Qhd{E:Env}(hE:E.Ok P)(hm:P.follows .mixedOrders=true){n:Nat}{px:PX}(hpx:PxOk P px){g:V}{l:List V}{H:T O}{nx:Nat}{gl:T (List V)}{r:CR}(h:panCallX E px (exec E n) g l H nx gl=some r):CallPan P gl g l H nx r:=by
 unfold panCallX at h
 split at h
 ·rename_i f' caps
  split at h
  ·rename_i fi hfi
   obtain⟨hle,h⟩:=Qaj h
   split at h
   ·rename_i r' h1
    cases h
    obtain⟨v,st,e,rfl⟩:=Qnt h1
    exact CallPan.fn hE hfi hle ((hpx _ _ _ _ _ _ e nx).mono fun e s⟨h1,h2⟩=>⟨h1,by rw[h2],by rw[h2],by rw[h2]⟩)
   ·obtain ⟨v, st, e, rfl⟩ := Qnt h
    exact CallPan.fnF hE hfi hle ((show SatF P _ _ _ _ _ _ from hpx _ _ _ _ _ _ e nx).mono fun e s⟨h1,h2⟩=>⟨h1,by rw[h2],by rw[h2],by rw[h2]⟩)
  ·cases h
 ·rename_i hd
  split at h
  ·rename_i pd f0 tm ps asg body ho
   split at h
   ·rename_i fi tm1 hfi htm
    split at h
    ·rename_i st1 h1
     split at h
     ·rename_i pd1 fn1 tmx ps1 as1 bd1 ho1
      obtain⟨v,st,e,rfl⟩:=Qnt h
      obtain⟨fn,f1,_⟩:=hE.code _ _ hfi
      refine CallPan.yld f1 ho htm (SatF.of ((Qes hE hm h1).mono ?_))
      rintro e' s ⟨rfl,rfl⟩
      exact⟨rfl,_,_,_,_,_,_,ho1,(show SatF P _ _ _ _ _ _ from hpx _ _ _ _ _ _ e nx).mono fun e s⟨h1,h2⟩=>⟨h1,by rw[h2],by rw[h2],by simp_all⟩⟩
     ·cases h
    ·cases h
   ·cases h
  ·cases h
 ·cases h
theorem Quz{E:Env}(hE:E.Ok P)(hm:P.follows .mixedOrders=true): ∀n,PxOk P (panX E n)
 |0,_,_,_,_,_,_,h,_=>by cases h
 | n + 1, f, rd, c, st, v, st', h, nx0 => by
  have ih:=Quz hE hm n
  have up: ∀{c st R},Sat P rd nx0 c st R→SatO P f rd nx0 c st R:=fun k=>by cases f;exact k;exact SatF.of k
  unfold panX at h
  split at h
  ·split at h
   ·rename_i h1
    cases f
    ·exact Sat.seq (Qes hE hm h1) (fun s⟨_,e⟩=>by subst e;exact ih _ _ _ _ _ _ h nx0) (fun e s hne⟨he,_⟩=>absurd he hne)
    ·exact SatF.seq (SatF.of (Qes hE hm h1)) (fun s⟨_,e⟩=>by subst e;exact ih _ _ _ _ _ _ h nx0) (fun e s hne⟨he,_⟩=>absurd he hne)
   ·have h1 := ih _ _ _ _ _ _ h nx0
    cases f
    ·exact Sat.seq h1 (fun s⟨e,_⟩=>by cases e) (fun _ _ _ h=>h)
    ·exact SatF.seq h1 (fun s⟨e,_⟩=>by cases e) (fun _ _ _ h=>h)
  ·split at h
   ·rename_i t ht
    have h1:=ih _ _ _ _ _ _ h nx0
    cases f
    ·exact Sat.cond ht h1
    ·exact SatF.cond ht h1
   ·cases h
  ·have h1 := ih _ _ _ _ _ _ h nx0
   cases f
   ·exact Sat.block h1 (fun s⟨e,_⟩=>by cases e) (fun _ _ _ h=>h)
   ·exact SatF.block h1 (fun s⟨e,_⟩=>by cases e) (fun _ _ _ h=>h)
  ·have h1 := ih _ _ _ _ _ _ h nx0
   cases f
   ·exact Sat.scope h1
   ·exact SatF.scope h1
  ·rename_i b
   split at h
   ·have key : ∀ (k : Nat) (st : St), panL (exec E n rd b) (panX E n none rd b) k st = some (v, st') → Lp P rd nx0 b (fun e s => e = .pan v ∧ s = st') k st := by
     intro k
     induction k with
     |zero=>intro st h;cases h
     | succ k ihk =>
      intro st h
      unfold panL at h
      split at h
      ·rename_i st1 h1
       exact(Qes hE hm h1).mono fun e s⟨e1,e2⟩=>.inl ⟨e1,by rw[e2];exact ihk _ h⟩
      ·exact(show Sat P _ _ _ _ _ from ih _ _ _ _ _ _ h nx0).mono fun e s h=>.inr ⟨fun e1=>(by simp_all),h⟩
    exact(key n st h).sat
   ·cases h
  ·split at h
   ·rename_i f0 f' caps hg
    obtain⟨hb,h⟩:=Qaj h
    split at h
    ·rename_i r hr
     cases h
     exact SatF.rangePan hg hb (Qhd hE hm ih hr) ⟨rfl,rfl⟩
    ·cases h
   ·cases h
  all_goals grind[panR_ok,Qhd]
variable {P:Program}
inductive Chain(P:Program)(E:Env)(gl:T (List V))(res:List ResultVar)(nx:Nat)(Z:V→T O→Nat→List Nat→Prop):(St→Prop)→Code→Prop
 |more {R R':St→Prop} {c2 X:Code} (h: ∀st,R st→Sat P none nx c2 st (fun e st'=>(e= .normal∧st'.tm.gl=gl∧R' st')∨(e= .ret∧∃v,retV E.G st'.tm st'.H res=some v∧Z v st'.H st'.nx st'.lg))) (k:Chain P E gl res nx Z R' X):Chain P E gl res nx Z R (.seq c2 X)
 |last {R:St→Prop} {id:Nat} {ops:Array Oper} {rest:Code} (h: ∀st,R st→∃(st3:St)(g:Nat)(dcaps dars:List V)(call:Qal)(i:Nat)(o:Oper)(c:Call)(fo:Operand)(fg:FI),Qa9 P gl call∧seqR E call ops (ops.toList.take i) st=some st3∧ops[i]? =some o∧wantedV st3.tm ops o=some true∧o.op= .defer c∧c.callee= .value fo∧ev st3.tm fo=some (.fn g dcaps)∧evs st3.tm c.args.toList=some dars∧i+1=ops.size∧o.dst=none∧E.code g=some fg∧st3.tm.gl=gl∧
Sat P none st3.nx rest ⟨st3.tm,st3.H,st3.nx,[]⟩ (fun e st4=>Qo2 P E gl g dcaps dars res (fun v H' nx' lg'=>Z v H' nx' (lg'++st3.lg)) e st4)):Chain P E gl res nx Z R (.seq (.region id ops false) rest)
theorem CallSpec.guardC {E : Env} (hE : E.Ok P) {gl : T (List V)} {f : Nat} {caps ars : List V} {H : T O} {nx : Nat} {r : CR} {fi : FI} (hfi : E.code f = some fi) (hle : Nat.ble (ars ++ caps).length fi.ntmps = true) (hlog : Log H.get nx r.H.get r.nx r.lg)
  {Z:V→T O→Nat→List Nat→Prop}
  (hZ: ∀v H' nx' lg',Z v H' nx' lg'→∀(s:Sig)(w:World)(ee:Ending)(w':World),RH s w H.get→(∀i,nx≤i→¬s.dom i)→Qa8 s w nx ⟨v,H',nx',lg'⟩ ee w'→Qa8 s w nx r ee w')
  (hch:Chain P E gl fi.res nx Z (fun st=>st=⟨⟨putAll (blank fi.ntmps) 0 (ars++caps),gl,fi.ntmps⟩,H,nx,[]⟩) fi.body):CallSpec P gl (.fn f caps) ars H nx r:=by
 refine⟨fun s w fv vals hc hargs hH hgl hn=>?_,hlog⟩
 obtain⟨vs,rfl,hcaps⟩:=hc
 have hrun: ∀x:Result Next,(callFunc f (vals++vs)).run P w=x→((do let d←Deferred.ofValue (.func (.func f) #[] vs) vals;invoke d.target d.args):Sem Next).run P w=x:=by
  intro x hx;simp[Deferred.ofValue,invoke,hx]
 obtain⟨fn,f1,f2,f3,f4,f5⟩:=hE.code f fi hfi
 refine⟨_,hrun _ (f5 _ w),?_,fun _=>⟨_,_,rfl⟩⟩
 have A0:=Qer hE hfi hle hcaps hargs hH hgl hn []
 refine callsIn_of_wp_marks (F:=Fence.wide) (n:=4) f1 f2 trivial (Qbr (n:=5) (l:=none) ?_)
 rw[f3]
 -- a frame that leaves with marks alone
 have leave: ∀(Ds:List Nat)(tm:TM)(H':T O)(nx':Nat)(lg':List Nat)(s':Sig)(w':World)(a':Act)(v:V),a'.defers=Ds.map Qc8→Ds.Nodup→(∀D∈Ds,DOk w.heap.size s' w' D)→RH s' w' H'.get→RT s' w' tm a'.tmps→Step s w s' w' lg'→(∀i,s'.dom i↔s.dom i∨nx≤i∧i<nx')→nx≤nx'→
   retV E.G tm H' fi.res=some v→Z v H' nx' lg'→∀Ds':List Nat,Ds'.Nodup→(∀D∈Ds',D∈Ds)→LeavesInM Fence.wide 4 P fn a'.tmps (Qa8 s w nx r) (Ds'.map Qc8++[]) .returning w':=by
  intro Ds tm H' nx' lg' s' w' a' v hd hnd hdk hH' hT hs hdom hnx hret hz Ds' hnd' hsub
  refine Qb1 (F:=Fence.wide) (by simp) Ds' w' hnd' (fun D hD=>(hdk D (hsub D hD)).2.2.1) (fun w'' g1 g2 g3 g4 g5=>?_)
  have A:Ats ⟨w.heap.size,[],[]⟩ s w nx ⟨tm,H',nx',lg'⟩ s' w' {a' with defers:=Ds.map Qc8}:=⟨⟨hH',hT,fun i hi hdm=>by
   rcases(hdom i).1 hdm with h|h
   ·exact hn i (Nat.le_trans hnx hi) h
   ·dsimp only at hi;omega,Ds,by simp,by simpa using hnd,by simpa using hdk⟩,hs,hdom,hnx⟩
  obtain⟨k1,k2,k3⟩:=A.unmarked (Ds:=Ds') (Nat.le_refl _) (fun D hD=>hdk D (hsub D hD)) g1 g2 g3 g4 g5 hH.old
  rw[←f4]at hret
  obtain⟨u,v1,v2⟩:=Qf4 (P:=P) hE.G k1 (hT.mono (Sig.Le.refl s') k3) rfl hret
  exact⟨u,v2,hZ _ _ _ _ hz s w _ _ hH hn ⟨u,s',rfl,v1,k1,k2,hdom,hnx⟩⟩
 have main : ∀ (R : St → Prop) (X : Code), Chain P E gl fi.res nx Z R X → ∀ st2, R st2 → st2.tm.gl = gl → ∀ (s2 : Sig) (w2 : World) (a2 : Act), Ats ⟨w.heap.size, [], []⟩ s w nx st2 s2 w2 a2 → X.wpIn (FF none) 5 P (bodyPostM Fence.wide 4 P fn (Qa8 s w nx r)) a2 w2 := by
  intro R X hch
  induction hch with
  | @more R R' c2 X h k ih =>
   intro st1 hr1 hg1 s1 w1 a1 A1
   refine wpIn_seq (h st1 hr1 _ s w s1 w1 a1 hn (Nat.le_refl _) (fun h e=>by cases e) A1 _ ?_)
   rintro e st2 (⟨rfl,hg2,hr2⟩|⟨rfl,v,hret,hz⟩) s2 w2 a2 A2
   ·exact ih st2 hr2 hg2 s2 w2 a2 A2
   ·skip
    obtain⟨Ds,d1,d2,d3⟩:=A2.rel.df
    have d2:=(List.nodup_append.1 d2).1
    have d3:=fun D(hD:D∈Ds)=>d3 D (List.mem_append.2 (.inl hD))
    show LeavesInM Fence.wide 4 P fn a2.tmps (Qa8 s w nx r) a2.defers .returning w2
    rw[d1]
    have:=leave Ds st2.tm st2.H st2.nx st2.lg s2 w2 {a2 with defers:=Ds.map Qc8} v rfl d2 d3 A2.rel.rh A2.rel.rt A2.step A2.dom A2.le hret hz Ds d2 (fun D hD=>hD)
    exact this
  | @last R id ops rest h =>
   intro st2 hr2 hg2 s2 w2 a2 A2
   obtain⟨st3,g,dcaps,dars,call,i,o,c,fo,fg,q1,q2,q3,q4,q5,q6,q7,q8,q9,q10,q11,q12,q13⟩:=h st2 hr2
   refine wpIn_seq ?_
   refine wpIn_region ?_
   have hlen:(ops.toList.take i).length=i:=by rw[List.length_take,Array.length_toList];omega
   have hsp:List.range ops.size=List.range' 0 (ops.toList.take i).length++[i]:=by
    rw[hlen,List.range_eq_range',←q9,List.range'_1_concat];simp
   rw[hsp]
   refine Qh5 _ _ _ ?_
   refine Qfs hE.G hE.ext (gl:=gl) q1 (l:=none) (ops.toList.take i) 0 st2 st3 s2 w2 a2 (fun j hj=>?_) q2 hg2 A2.rel ?_
   ·rw [hlen] at hj
    rw[List.getElem?_take_of_lt hj,Array.getElem?_toList,Nat.zero_add]
   ·rintro a3 w3 ⟨lg3, s3, W3⟩
    have A3:=A2.went W3
    show wpOpsIn _ _ _ _ _ _ _ _
    rw[wpOpsIn_cons]
    unfold wpOpIn
    rw[q3]
    dsimp only
    rw[if_pos (Qa4 A3.rel.rt q4)]
    refine defer_wp (l:=none) rfl q5 q6 A3.rel.rt q7 q8 (fun dvs dvals hdc hda=>?_)
    obtain⟨Ds0,d1,d2,d3⟩:=A3.rel.df
    have d2:=(List.nodup_append.1 d2).1
    have d3:=fun D(hD:D∈Ds0)=>d3 D (List.mem_append.2 (.inl hD))
    rw[List.append_nil]at d1
    have hnx3:=A3.rel.nx
    -- the rest, in a frame of its own reckoning
    have A3':Ats ⟨w3.heap.size,{target:=.fn (.func g) dvs,args:=dvals}::Ds0.map Qc8,[]⟩ s3 w3 st3.nx ⟨st3.tm,st3.H,st3.nx,[]⟩ s3 w3 ({a3 with defers:={target:=.fn (.func g) dvs,args:=dvals}::a3.defers}.put o.dst undef):=by
     rw[q10]
     exact⟨⟨A3.rel.rh,A3.rel.rt,hnx3,[],by show _::a3.defers=_;rw[d1];rfl,List.nodup_nil,fun D hD=>by simp at hD⟩,Step.refl s3 w3 [],dom_same s3 _,Nat.le_refl _⟩
    show wpOpsIn (FF none) 5 P ops _ [] _ w3
    show Code.wpIn _ _ _ _ _ _ _
    refine q13 _ s3 w3 s3 w3 _ hnx3 (Nat.le_refl _) (fun h e=>by cases e) A3' _ ?_
    rintro e st4 ⟨pan,r4,hpan,hdef,v,hret,hz⟩ s4 w4 a4 A4
    -- the frame leaves: its own marks, the closure, the marks ahead of it
    have key : ∀ (u : Value), (∀ x, pan = some x → ∀ s2 w2, RV s2 w2 x u) → LeavesInM Fence.wide 4 P fn a4.tmps (Qa8 s w nx r) a4.defers (defMode pan false u) w4 := by
     intro u hu
     obtain⟨Ds4,e1,e2,e3⟩:=A4.rel.df
     have e2:=(List.nodup_append.1 e2).1
     have e3:=fun D(hD:D∈Ds4)=>e3 D (List.mem_append.2 (.inl hD))
     rw[e1]
     refine Qb1 (F:=Fence.wide) (Qir _ _ _) Ds4 w4 e2 (fun D hD=>(e3 D hD).2.2.1) (fun w5 g1 g2 g3 g4 g5=>?_)
     obtain⟨k1,k2,k3⟩:=A4.unmarked (Ds:=Ds4) (Nat.le_refl _) e3 g1 g2 g3 g4 g5 A3.rel.rh.old
     have hgl4:GL s4 w5 gl:=by
      have:RT s4 w5 st3.tm a3.tmps:=A3.rel.rt.mono k2.le k2.k
      rw[←q12];exact this.2.2
     obtain⟨fng,y1,y2,y3,y4,y5⟩:=hE.code g fg q11
     have hcl:=hdef s4 w5 dvs dvals u (RL.mono k2.le k2.k _ _ hdc) (RL.mono k2.le k2.k _ _ hda) k1 hgl4 A4.rel.nx hu
     refine⟨Qir _ _ _,.inr ⟨fun h=>(by cases h),.func g,dvs,g,dvals++dvs,rfl,by simp[invoke,y5],fun _ _=>trivial,hcl.mono ?_⟩⟩
     rintro ee u' w6 ⟨⟨uu,s6,rfl,_,z2,z3,z4,z5⟩,rfl⟩
     show LeavesInM Fence.wide 4 P fn a4.tmps (Qa8 s w nx r) (Ds0.map Qc8) (settle (defMode pan true u)) w6
     rw[Qr0]
     have hs36:Step s3 w3 s6 w6 (r4.lg++st4.lg):=(k2.trans z3).more (fun x hx=>by rw[List.mem_append]at hx⊢;exact hx.symm)
     have hdom6: ∀i,s6.dom i↔s.dom i∨nx≤i∧i<r4.nx:=fun i=>by
      rw[z4,A4.dom,A3.dom]
      have b1:=A3.le
      have b2:=A4.le
      constructor
      ·rintro ((h | h) | h)
       ·exact h.imp (fun h=>h) (fun h=>⟨h.1,by omega⟩)
       ·exact .inr ⟨by omega,by omega⟩
       ·exact .inr ⟨by omega,h.2⟩
      ·rintro (h | h)
       ·exact .inl (.inl (.inl h))
       ·by_cases h3 : i < st3.nx
        ·exact .inl (.inl (.inr ⟨h.1,h3⟩))
        ·by_cases h4 : i < st4.nx
         ·exact .inl (.inr ⟨by omega,h4⟩)
         ·exact .inr ⟨by omega,h.2⟩
     have:=leave Ds0 st4.tm r4.H r4.nx (r4.lg++st4.lg++st3.lg) s6 w6 {a4 with defers:=Ds0.map Qc8} v rfl d2 (fun D hD=>(d3 D hD).step hs36) z2 (A4.rel.rt.mono (Sig.Le.refl s4) k3 |>.mono z3.le z3.k) ((A3.step.trans hs36).more (fun x hx=>by simp only[List.mem_append]at hx⊢;rcases hx with h|h|h<;>simp[h])) hdom6 (Nat.le_trans A3.le (Nat.le_trans A4.le z5)) hret hz Ds0 d2 (fun D hD=>hD)
     rw[List.append_nil]at this
     exact this
    rcases hpan with⟨rfl|rfl,rfl⟩|⟨x,rfl,rfl⟩
    ·exact key .nilIface (fun x e=>by cases e)
    ·exact key .nilIface (fun x e=>by cases e)
    ·exact fun u hu=>key u (fun x' e=>by cases e;exact hu)
 exact main _ _ hch _ rfl rfl _ _ _ A0
def endS:Option Rs→Option (Ex×St)
 |some [(.normal,st)]=>some (.normal,st)
 |some [(.ret,st)]=>some (.ret,st)
 | _=>none
theorem Qs6{E:Env}(hE:E.Ok Pg){n nx0:Nat}{c:Code}{st st':St}{e:Ex}(h:endS (exec E n none c st)=some (e,st')){R:Ex→St→Prop}(hR:R e st'):(e= .normal∨e= .ret)∧Sat Pg none nx0 c st R:=by
 have key: ∀e:Ex,e= .normal∨e= .ret→exec E n none c st=some [(e,st')]→R e st'→(e= .normal∨e= .ret)∧Sat Pg none nx0 c st R:=fun e he hx hR=>⟨he,fun B s0 w0 s w a hn hB hrd A Q hQ=>by
  refine(Qdq hE mixed n).one none c st st' e s w a B hx A.rel (Nat.le_trans hB A.step.mod.size) (fun h e=>by cases e) Q (fun a' w'⟨lg,s',W⟩=>?_)
  have h1:=hQ e st' hR s' w' a' (A.went W)
  rcases he with rfl|rfl<;>exact h1⟩
 unfold endS at h
 grind
noncomputable def Qs1(E:Env)(n g:Nat)(dc:List V)(x:V)(H:T O)(nx:Nat):Option St:=match E.code g with
 | some fg => match fg.body, fg.res with
  | .seq (.region _ ops false) c, [] => match ops.toList with
   | o :: os => match o.guard, o.op with
    | none, .call k => match k.callee with
     | .builtin .recover=>bif Nat.ble dc.length fg.ntmps then(match calmsR E ops H os ((⟨putAll (blank fg.ntmps) 0 dc,(.e:T (List V)),fg.ntmps⟩:TM).put o.dst x)with
      |some tm1=>(endS (exec E n none c ⟨tm1,H,nx,[]⟩)).map (·.2)
      |none=>none)else none
     | _=>none
    | _,_=>none
   |[]=>none
  | _,_=>none
 |none=>none
theorem dRunX_ok{E:Env}(hE:E.Ok Pg){n g nx:Nat}{dc:List V}{pan:Option V}{H:T O}{st:St}(h:Qs1 E n g dc (recV pan) H nx=some st):(∃fg,E.code g=some fg)∧DefSpec Pg (.e:T (List V)) g dc [] H nx pan ⟨.tup [],st.H,st.nx,st.lg⟩:=by
 unfold Qs1 at h
 split at h
 ·rename_i fg h1
  split at h
  ·rename_i id ops c hb hr
   split at h
   ·rename_i o os ho
    split at h
    ·rename_i k hg hop
     split at h
     ·rename_i hk
      obtain⟨hle,h⟩:=Qaj h
      split at h
      ·rename_i tm1 e1
       obtain⟨⟨e,st'⟩,e2,e3⟩:=Option.map_eq_some_iff.1 h
       cases e3
       obtain⟨he,hs⟩:=Qs6 hE (nx0:=nx) (R:=fun e' s=>e'=e∧s=st') e2 ⟨rfl,rfl⟩
       refine⟨⟨fg,h1⟩,DefSpec.of hE h1 hle hb ho hg hop hk e1 (hs.mono ?_)⟩
       rintro e' s ⟨rfl,rfl⟩
       exact⟨he,by rw[hr];rfl,rfl,rfl,rfl⟩
      ·cases h
     ·cases h
    ·cases h
   ·cases h
  ·cases h
 ·cases h
noncomputable def retX(E:Env)(res:List ResultVar)(v:V)(tm:TM):Option St→Bool
 |some st=>match retV E.G tm st.H res with
  |some v0=>vxT st.H v v0
  |none=>false
 |none=>false
noncomputable def gEndX(E:Env)(n:Nat)(res:List ResultVar)(v:V)(st:St)(ops:Array Oper)(rest:Code):Bool:=match seqR E (tbl []) ops (ops.toList.take 1) st,ops[1]? with
 | some st3, some o => match wantedV st3.tm ops o, o.op, st3.tm.gl, o.dst with
  | some true, .defer c, .e, none => match c.callee, c.args.toList with
   | .value fo, [] => match ev st3.tm fo with
    | some (.fn g dc) => Nat.beq 2 ops.size && (match endS (exec E n none rest ⟨st3.tm, st3.H, st3.nx, []⟩) with
     |some (_,st4)=>retX E res v st4.tm (Qs1 E n g dc .nili st4.H st4.nx)
     |none=>match panX E n none none rest ⟨st3.tm,st3.H,st3.nx,[]⟩with
      |some (x,st4)=>retX E res v st4.tm (Qs1 E n g dc x st4.H st4.nx)
      |none=>false)
    | _=>false
   | _,_=>false
  | _,_,_,_=>false
 | _,_=>false
noncomputable def Qtx(E:Env)(n:Nat)(res:List ResultVar)(v:V):Nat→Code→St→Bool
 |0,X,st=>match X with
  | .seq (.region _ ops false) rest=>gEndX E n res v st ops rest
  | _=>false
 | k + 1, X, st => match X with
  | .seq c Y => match exec E n none c st with
   |some [(.normal,st')]=>match st'.tm.gl with
    | .e=>Qtx E n res v k Y st'
    | _=>false
   | _=>false
  | _=>false
noncomputable def gFnX(E:Env)(n k f:Nat)(ars:List V)(v:V):Bool:=match E.code f with
 |some fi=>Nat.ble ars.length fi.ntmps&&Qtx E n fi.res v k fi.body ⟨⟨putAll (blank fi.ntmps) 0 ars,(.e:T (List V)),fi.ntmps⟩,.e,0,[]⟩
 |none=>false
theorem retX_ok{E:Env}{res:List ResultVar}{v:V}{tm:TM}{x:Option St}(h:retX E res v tm x=true): ∃st v0,x=some st∧retV E.G tm st.H res=some v0∧vxT st.H v v0=true:=by
 unfold retX at h
 grind
theorem Qpz {E : Env} (hE : E.Ok Pg) {n : Nat} {res : List ResultVar} {v : V} : ∀ (k : Nat) (X : Code) (st : St), Qtx E n res v k X st = true → Chain Pg E (.e : T (List V)) res 0 (fun u H _ _ => vxT H v u = true) (fun st' => st' = st) X
 | 0, X, st, h => by
  unfold Qtx at h
  split at h
  ·rename_i id ops rest
   refine Chain.last fun st' e=>?_
   subst e
   unfold gEndX at h
   split at h
   ·rename_i st3 o e1 e2
    split at h
    ·rename_i c e3 e4 e5 e8
     split at h
     ·rename_i fo e6 e7
      split at h
      ·rename_i g dc e9
       rw[Bool.and_eq_true]at h
       obtain⟨b2,h⟩:=h
       have key: ∀{pan:Option V}{st4:St},retX E res v st4.tm (Qs1 E n g dc (recV pan) st4.H st4.nx)=true→∃fg,E.code g=some fg∧∀e,((e= .normal∨e= .ret)∧pan=none∨∃x,e= .pan x∧pan=some x)→Qo2 Pg E (.e:T (List V)) g dc [] res (fun u H' _ _=>vxT H' v u=true) e st4:=fun{pan st4} h=>by
        obtain⟨st5,v0,k1,k2,k3⟩:=retX_ok h
        obtain⟨⟨fg,k4⟩,k5⟩:=dRunX_ok hE k1
        exact⟨fg,k4,fun e he=>⟨pan,_,he,k5,v0,k2,k3⟩⟩
       have go: ∀{fg:FI},E.code g=some fg→Sat Pg none st3.nx rest ⟨st3.tm,st3.H,st3.nx,[]⟩ (fun e st4=>Qo2 Pg E (.e:T (List V)) g dc [] res (fun u H' _ _=>vxT H' v u=true) e st4)→_:=fun{fg} hg hs=>
        (⟨st3, g, dc, [], tbl [], 1, o, c, fo, fg, TblOk.nil.call, e1, e2, e3, e4, e6, e9, by rw [e7]; rfl, Nat.eq_of_beq_eq_true b2, e8, hg, e5, hs⟩ : ∃ (st3 : St) (g : Nat) (dcaps dars : List V) (call : Qal) (i : Nat) (o : Oper) (c : Call) (fo : Operand) (fg : FI), Qa9 Pg (.e : T (List V)) call ∧ seqR E call ops (ops.toList.take i) st' = some st3 ∧ ops[i]? = some o ∧ wantedV st3.tm ops o = some true ∧ o.op = .defer c ∧ c.callee = .value fo ∧ ev st3.tm fo = some (.fn g dcaps) ∧ evs st3.tm c.args.toList = some dars ∧ i + 1 = ops.size ∧ o.dst = none ∧ E.code g = some fg ∧ st3.tm.gl = (.e : T (List V)) ∧
         Sat Pg none st3.nx rest ⟨st3.tm,st3.H,st3.nx,[]⟩ (fun e st4=>Qo2 Pg E (.e:T (List V)) g dcaps dars res (fun v' H' nx' lg'=>vxT H' v v'=true) e st4))
       split at h
       ·rename_i e st4 e10
        obtain⟨fg,hg,hd⟩:=key (pan:=none) h
        obtain⟨he,hs⟩:=Qs6 hE (nx0:=st3.nx) (R:=fun e' s=>e'=e∧s=st4) e10 ⟨rfl,rfl⟩
        exact go hg (hs.mono fun e' s⟨q1,q2⟩=>by grind)
       ·split at h
        ·rename_i x st4 e10
         obtain⟨fg,hg,hd⟩:=key (pan:=some x) h
         exact go hg ((show Sat Pg none st3.nx _ _ _ from Quz hE mixed n none none _ _ _ _ e10 st3.nx).mono fun e' s⟨q1,q2⟩=>by grind)
        ·cases h
      ·cases h
     ·cases h
    ·cases h
   ·cases h
  ·cases h
 | k + 1, X, st, h => by
  unfold Qtx at h
  split at h
  ·rename_i c Y
   split at h
   ·rename_i st' e1
    split at h
    ·rename_i e2
     refine Chain.more (R':=fun s=>s=st') (fun s e=>?_) (Qpz hE k Y st' h)
     subst e
     exact(Qes hE mixed e1).mono fun e s⟨q1,q2⟩=>.inl (by simp_all)
    ·cases h
   ·cases h
  ·cases h
theorem FnOk.of_gX{E:Env}(hE:E.Ok Pg){n k f:Nat}{ars:List V}{v:V}(hf:hfB v=true)(h:gFnX E n k f ars v=true):FnOk Pg (.e:T (List V)) f ars v:=by
 unfold gFnX at h
 split at h
 ·rename_i fi hfi
  rw[Bool.and_eq_true]at h
  refine CallSpec.guardC hE hfi (by simp_all) (Log.refl _ _ _) (Z:=fun u H _ _=>vxT H v u=true) ?_ (by rw[List.append_nil];exact Qpz hE k _ _ h.2)
  exact fun v0 H' nx' lg' hv s w ee w' hH hn hp=>Qiq hH hn hv (Qmb.1 v hf) hp
 ·cases h
abbrev gdA(a b:Int):List V:=[.fn 61 [.imp [i6 a],.imp [i6 b]]]
abbrev gdV(a b:Int):V:=.tup [.agg [i6 a,i6 b],i6 0]
theorem gd_1:FnOk Pg .e 60 (gdA 4 10) (gdV 2 5):=FnOk.of_gX vE_ok (n:=100000) (k:=1) rfl (by kernel_rfl)
theorem gd_2:FnOk Pg .e 60 (gdA 6 10) (gdV 3 5):=FnOk.of_gX vE_ok (n:=100000) (k:=1) rfl (by kernel_rfl)
noncomputable def gdH:Hook:=memoF 60 (gdA 4 10) (gdV 2 5)<|memoF 60 (gdA 6 10) (gdV 3 5) Qqi
noncomputable def gdE:Env:=envOf Pg gdH extF
theorem gdE_ok:gdE.Ok Pg:=Qta plain (Qqb (Qqb Qg9 rfl (by kernel_rfl) gd_2) rfl (by kernel_rfl) gd_1) Qth
theorem Qrw:FnOk Pg g0 4 [] (.bool true):=FnOk.any (FnOk.of_runV gdE_ok (n:=100000) rfl (by kernel_rfl))
end Go.Proofs.YtcmeiecgijmdjaaDoor.Am
