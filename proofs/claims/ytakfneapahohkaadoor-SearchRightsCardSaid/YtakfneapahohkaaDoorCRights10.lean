/- Texts behind the claim, part 10: the abstract machine, and what the functions answer. No condition. -/
import Derived.Test.YtakfneapahohkaaDoorCRights9
set_option linter.unusedVariables false
set_option linter.unusedSimpArgs false
set_option linter.unusedSectionVars false
namespace Go.Proofs.YtakfneapahohkaaDoor.Am
open Go.RowKit
set_option maxHeartbeats 4000000
set_option maxRecDepth 100000
theorem kn_loop(jj:List Int)(cs:List (List Int))(h1:1<=jj.length)(h6:jj.length<=6)(h40:cs.length<=40)(hcl: ∀c∈cs,c.length=jj.length):
  Sat Pg none 4 (at' 72 [0,1,1,0]) (Ah g0 34 (knS jj cs (0,0,[]))) (Qaf g0 34 [(True,.exit 0,knX jj cs (comp cs).length (comp cs))]):=by
 have hlr:=Qsf jj cs 4 d_
 refine Qax vE_ok Af Qaa (b:=at' 72 [0,1,1,0,0]) k_ (fun q=>q.1<=cs.length/\q.2.2=comp (cs.take q.1)/\q.2.2.length=q.2.1) (knS jj cs) (fun q=>cs.length-q.1) (fun q hq=>?_) (0,0,[]) ⟨Nat.zero_le _,rfl,rfl⟩
 obtain⟨k,u,a⟩:=q
 obtain⟨hk,ha,hu⟩:=hq
 dsimp only at hk ha hu
 have hle:a.length<=k:=by
  rw[ha];unfold comp
  exact Nat.le_trans (List.length_filter_le _ _) (by rw[List.length_take];omega)
 have hla:=Qca sl a (fun _=>trivial)
 by_cases hlt:k<cs.length
 ·have hck : cs[k]? = some cs[k] := List.getElem?_eq_getElem hlt
  have hlc:=hcl _ (List.getElem_mem hlt)
  generalize cs[k]=c at*
  have hld:Ad ((cs.map sl).drop (k*1))=some (sl c):=Qbg hck
  have hnx:=Qkm hck
  have jy:((idL jj.length).length:Int)=(jj.length:Int):=by rw[Qjb]
  have hi:=ki_loop jj cs k u a c hlc h6
  rw[<-ha]at hnx
  have hla2:=Qca sl (a++[c]) (fun _=>trivial)
  cases hn:Cf c with
  | true =>
   have hi:=hi.mono (Qbk (by rw[hn];simp) hn)
   have xk:a=comp (cs.take (k+1)):=by rw[hnx,hn];simp
   cases u with
   |zero=>
    refine .inl ⟨(k+1,0,a),[],[yes 12,pl 14,ld 15 (sl c),nu 17 (jj.length:Nat),(0,.loop [] (kiS jj cs k 0 a c 0) [(True,.exit 1,kiY jj cs k 0 a)]),nu 33 (k+1:Nat)],1000,⟨hlt,xk,hu⟩,by dsimp only;omega,?_⟩
    clear ha hnx xk
    exact v_ (p:=let z0:=idL jj.length;let z1:=(cs.length:Int);let z2:=(k:Int);let z3:=List.map sl cs;let z5:=(jj.length:Int);let z6:=[V.nils,V.nils];let z7:=(↑(k+1):Int);let z9:=rkT jj cs;let y0:=Ab jj;let z4:=O.loop .ready none 0 z9 [35,36] rkA rkB;let z8:=z0.length;Bn [decide (z2<z1)=true,An [(0:Int)<=z2,z2<z1],Ad (List.drop (k*1) z3)=some (sl c),(↑(z8):Int)=z5,Bn [Bn [Tt,Sm [sl z0],An [Sm cs.length,z3=z3],z1=z1,z2=z2,z2=z2,An [Sm c.length,Sm (Ab c)],An [z8=z8,Sm (Ab z0)],z5=z5,((0:Nat):Int)=(0:Int)],An [z6=z6,TT 2],Bn [An [Sm jj.length,y0=y0],An [Zz,Zz,Zz]],Bn [noL=noL],An [lkO jj cs .ready=z4,Bs 4 z9]],Sat Pg none 4 (at' 72 [0,1,1,0,0,1,1,0,0,1,0,1,0]) (Ah g0 34 (kiS jj cs k 0 a c 0)) (Qaf g0 34 [(True,Ex.exit 1,kiY jj cs k 0 a)]),(True->Bn [wr .i64 (z2+1)=z7,Bn [Tt,Sm [sl z0],An [Sm cs.length,z3=z3],z1=z1,z7=z7],An [z6=z6,TT 2],Bn [An [Sm jj.length,y0=y0],An [Zz,Zz,Zz]],Bn [noL=noL],An [lkO jj cs .ready=z4,Bs 4 z9]])])
   |succ u=>
    refine .inl ⟨(k+1,u+1,a),[4],[yes 12,pl 14,ld 15 (sl c),nu 17 (jj.length:Nat),(0,.loop [4] (kiS jj cs k (u+1) a c 0) [(True,.exit 1,kiY jj cs k (u+1) a)]),nu 33 (k+1:Nat)],1000,⟨hlt,xk,hu⟩,by dsimp only;omega,?_⟩
    clear ha hnx xk
    exact v_ (p:=let y2:=Bn [Zz,Sm (u+1)];let z0:=idL jj.length;let z1:=(cs.length:Int);let z2:=(k:Int);let z3:=List.map sl a;let z4:=List.map sl cs;let z6:=(jj.length:Int);let z7:=[V.nils,V.nils];let z8:=(↑(k+1):Int);let y0:=rkT jj cs;let y1:=Ab jj;let z5:=O.loop .ready none 0 y0 [35,36] rkA rkB;let z9:=z0.length;Bn [decide (z2<z1)=true,An [(0:Int)<=z2,z2<z1],Ad (List.drop (k*1) z4)=some (sl c),(↑(z9):Int)=z6,Bn [Bn [Tt,Sm [sl z0],An [Sm cs.length,z4=z4],z1=z1,z2=z2,z2=z2,An [Sm c.length,Sm (Ab c)],An [z9=z9,Sm (Ab z0)],z6=z6,((0:Nat):Int)=(0:Int)],An [z7=z7,TT 2],Bn [An [Sm jj.length,y1=y1],y2],Bn [noL=noL],An [lkO jj cs .ready=z5,Bs 4 y0],An [z3=z3,HfL z3]],Sat Pg none 4 (at' 72 [0,1,1,0,0,1,1,0,0,1,0,1,0]) (Ah g0 34 (kiS jj cs k (u+1) a c 0)) (Qaf g0 34 [(True,Ex.exit 1,kiY jj cs k (u+1) a)]),(True->Bn [wr .i64 (z2+1)=z8,Bn [Tt,Sm [sl z0],An [Sm cs.length,z4=z4],z1=z1,z8=z8],An [z7=z7,TT 2],Bn [An [Sm jj.length,y1=y1],y2],Bn [noL=noL],An [lkO jj cs .ready=z5,Bs 4 y0],An [z3=z3,HfL z3]])])
  | false =>
   have hi:=hi.mono (Qbj hn (by rw[hn];simp))
   have xk:a++[c]=comp (cs.take (k+1)):=by rw[hnx,hn];simp
   cases u with
   |zero=>
    have:a=[]:=List.eq_nil_of_length_eq_zero hu
    subst this
    have hcall:=yldk_A jj cs k c o_ o_
    refine .inl ⟨(k+1,1,[c]),[5],[yes 12,pl 14,ld 15 (sl c),nu 17 (jj.length:Nat),(0,.loop [] (kiS jj cs k 0 [] c 0) [(True,.exit 2,kiX jj cs k 0 [] c)]),(31,.call ⟨.bool true,Ae .e 0 (kA1 jj cs .ready c),6,[1,3]⟩),nu 33 (k+1:Nat)],1000,⟨hlt,xk,rfl⟩,by dsimp only;omega,?_⟩
    clear ha hnx xk
    exact v_ (p:=let z0:=idL jj.length;let z1:=(cs.length:Int);let z2:=(k:Int);let z3:=List.map sl cs;let z5:=(jj.length:Int);let z6:=[V.nils,V.nils];let z7:=(↑(k+1):Int);let z9:=rkT jj cs;let y0:=Ab jj;let z4:=O.loop .ready none 0 z9 [35,36] rkA rkB;let z8:=z0.length;Bn [decide (z2<z1)=true,An [(0:Int)<=z2,z2<z1],Ad (List.drop (k*1) z3)=some (sl c),(↑(z8):Int)=z5,Bn [Bn [Tt,Sm [sl z0],An [Sm cs.length,z3=z3],z1=z1,z2=z2,z2=z2,An [Sm c.length,Sm (Ab c)],An [z8=z8,Sm (Ab z0)],z5=z5,((0:Nat):Int)=(0:Int)],An [z6=z6,TT 2],Bn [An [Sm jj.length,y0=y0],An [Zz,Zz,Zz]],Bn [noL=noL],An [lkO jj cs .ready=z4,Bs 4 z9]],Sat Pg none 4 (at' 72 [0,1,1,0,0,1,1,0,0,1,0,1,0]) (Ah g0 34 (kiS jj cs k 0 [] c 0)) (Qaf g0 34 [(True,Ex.exit 2,kiX jj cs k 0 [] c)]),(True->Bn [Aa Pg g0 (V.yld 3) [i6 k,sl c] (Ae T.e 0 (kwS jj cs [] 0)) 4 (CR.mk (V.bool true) (Ae T.e 0 (kA1 jj cs .ready c)) 6 [1,3]),Tt,wr .i64 (z2+1)=z7,Bn [Tt,Sm [sl z0],An [Sm cs.length,z3=z3],z1=z1,z7=z7],An [z6=z6,TT 2],Bn [An [Sm jj.length,y0=y0],Bn [Zz,1=1]],Bn [noL=noL],An [lkO jj cs .ready=z4,Bs 4 z9],Bn [List.map sl [c]=[sl c],Tt]])])
   |succ u=>
    have hcall:=yldk_C jj cs u (a.map sl) (by simp[hu]) o_ k c o_ o_
    refine .inl ⟨(k+1,u+1+1,a++[c]),[6],[yes 12,pl 14,ld 15 (sl c),nu 17 (jj.length:Nat),(0,.loop [4] (kiS jj cs k (u+1) a c 0) [(True,.exit 2,kiX jj cs k (u+1) a c)]),(31,.call ⟨.bool true,Ae .e 0 (kC1 jj cs .ready u (a.map sl) c),7,[1,4,3]⟩),nu 33 (k+1:Nat)],1000,⟨hlt,xk,by simp[hu]⟩,by dsimp only;omega,?_⟩
    clear ha hnx xk
    have hmap:a.map sl++[sl c]=(a++[c]).map sl:=by simp
    refine m_ (p:=let z0:=idL jj.length;let z1:=(cs.length:Int);let z2:=(k:Int);let z3:=List.map sl cs;let z5:=List.map sl a;let z6:=(jj.length:Int);let z7:=[V.nils,V.nils];let z8:=(↑(k+1):Int);let y0:=rkT jj cs;let y1:=Ab jj;let y2:=List.map sl (a++[c]);let z4:=O.loop .ready none 0 y0 [35,36] rkA rkB;let z9:=z0.length;Bn [decide (z2<z1)=true,An [(0:Int)≤z2,z2<z1],Ad (List.drop (k*1) z3)=some (sl c),(↑(z9):Int)=z6,Bn [Bn [Tt,Sm [sl z0],An [Sm cs.length,z3=z3],z1=z1,z2=z2,z2=z2,An [Sm c.length,Sm (Ab c)],An [z9=z9,Sm (Ab z0)],z6=z6,((0:Nat):Int)=(0:Int)],An [z7=z7,TT 2],Bn [An [Sm jj.length,y1=y1],Bn [Zz,Sm (u+1)]],Bn [noL=noL],An [lkO jj cs .ready=z4,Bs 4 y0],An [z5=z5,HfL z5]],Sat Pg none 4 (at' 72 [0,1,1,0,0,1,1,0,0,1,0,1,0]) (Ah g0 34 (kiS jj cs k (u+1) a c 0)) (Qaf g0 34 [(True,Ex.exit 2,kiX jj cs k (u+1) a c)]),(True→Bn [Aa Pg g0 (V.yld 3) [i6 k,sl c] (Ae T.e 0 (kwS jj cs a (u+1))) 5 (CR.mk (V.bool true) (Ae T.e 0 (kC1 jj cs .ready u z5 c)) 7 [1,4,3]),Tt,wr .i64 (z2+1)=z8,Bn [Tt,Sm [sl z0],An [Sm cs.length,z3=z3],z1=z1,z8=z8],An [z7=z7,TT 2],Bn [An [Sm jj.length,y1=y1],Bn [Zz,Nat.succ u+1=u+2]],Bn [noL=noL],An [lkO jj cs .ready=z4,Bs 4 y0],An [y2=z5++[sl c],HfL y2]])]) ?_
    (repeat'(first|(with_reducible apply And.intro)|(refine fun(_:True)=>?_)))
    all_goals first|exact hi|exact hcall|exact hlr|(with_reducible exact hld)|(with_reducible exact hmap)|(with_reducible exact hmap.symm)|exact hla|exact hla2|(with_reducible exact jy)|(with_reducible rfl)|(with_reducible exact trivial)|(with_reducible refine decide_eq_true ?_;omega)|(clear hi hcall hmap;omega)|(clear hi hcall hmap;exact Dt (by omega) (by omega) (by omega))|skip
 ·have hke : k = cs.length := by omega
  subst hke
  rw[List.take_length]at ha
  subst ha
  cases u with
  |zero=>
   rw[hu]
   refine .inr ⟨.exit 0,[],knX jj cs 0 (comp cs),[no 12],1000,.inl ⟨trivial,rfl,rfl⟩,?_⟩
   clear hla hle hu
   exact v_ (p:=Bn [decide ((cs.length:Int)<(cs.length:Int))=false,Tt,An [Sm [V.nils,V.nils],TT 2],Bn [An [Sm jj.length,Sm (Ab jj)],An [Zz,Zz,Zz]],Bn [noL=noL],An [lkO jj cs .ready=O.loop .ready none 0 (rkT jj cs) [35,36] rkA rkB,Bs 4 (rkT jj cs)]])
  |succ u=>
   rw[hu]
   refine .inr ⟨.exit 0,[4],knX jj cs (u+1) (comp cs),[no 12],1000,.inl ⟨trivial,rfl,rfl⟩,?_⟩
   clear hle hu
   generalize comp cs=a at*
   exact v_ (p:=Bn [decide ((cs.length:Int)<(cs.length:Int))=false,Tt,An [Sm [V.nils,V.nils],TT 2],Bn [An [Sm jj.length,Sm (Ab jj)],Bn [Zz,Sm (u+1)]],Bn [noL=noL],An [lkO jj cs .ready=O.loop .ready none 0 (rkT jj cs) [35,36] rkA rkB,Bs 4 (rkT jj cs)],An [Sm (List.map sl a),HfL (List.map sl a)]])
theorem Qpq(jj:List Int)(cs:List (List Int))(h1:1<=jj.length)(h6:jj.length<=6)(h40:cs.length<=40)(hcl: ∀c∈cs,c.length=jj.length)(a:List (List Int))(ha:a=comp cs)(m:Nat)(hm:a.length=m):
  Aa Pg g0 (.fn 72 [.imp [sl jj,gC cs],.imp [sl (idL jj.length)]]) [.yld 3] (Ae .e 0 (kA jj cs .ready)) 4 ⟨.tup [],Ae .e 0 (kwS jj cs a m),(kwS jj cs a m).length,[1,3]⟩:=by
 have l:=kn_loop jj cs h1 h6 h40 hcl
 rw[<-ha]at l
 rw[hm]at l
 have hlr:=Qsf jj cs 4 d_
 have hla:=Qca sl a (fun _=>trivial)
 refine Aa.caps (caps:=[.imp [sl jj,gC cs],.imp [sl (idL jj.length)]]) (ars:=[.yld 3]) ?_
 clear ha
 cases m with
 | zero =>
  refine Aa.of_vcH (P:=Pg) (E:=vE) vE_ok Af Qaa (n:=1000) (f:=72) (os0:=kA jj cs .ready) (ars:=[.yld 3,.imp [sl jj,gC cs],.imp [sl (idL jj.length)]]) (r:=[])
   (S := { sl := [], os := kwS jj cs a 0, md := [0, 1], lg := [1, 3] }) (v := .tup []) (hs := [(0, .loop [] (knS jj cs (0, 0, [])) [(True, .exit 0, knX jj cs 0 a)])]) (gl := g0) (by simp) (fun i hi hno => by
    rcases(show i=0\/i=1\/i=2\/i=3 by simp at hi;omega)with rfl|rfl|rfl|rfl<;>first|rfl|(simp at hno)) ?_
  exact v_ (p:=let z1:=[V.nils,V.nils];let z2:=rkT jj cs;let z3:=Ab jj;let z4:=[sl (idL jj.length)];let z0:=O.loop .ready none 0 z2 [35,36] rkA rkB;Bn [Sm (V.tup []),Bn [Bn [Tt,z4=z4,An [Sm cs.length,Sm (List.map sl cs)],Sm (cs.length:Int),((0:Nat):Int)=(0:Int)],An [z1=z1,TT 2],Bn [An [Sm jj.length,z3=z3],An [Zz,Zz,Zz]],Bn [noL=noL],An [lkO jj cs .ready=z0,Bs 4 z2]],Sat Pg none 4 (at' 72 [0,1,1,0]) (Ah g0 34 (knS jj cs (0,0,[]))) (Qaf g0 34 [(True,Ex.exit 0,knX jj cs 0 a)]),(True->Bn [Tt,An [z1=z1,TT 2],Bn [An [Sm jj.length,z3=z3],An [Zz,Zz,Zz]],Bn [noL=noL],An [lkO jj cs .ready=z0,Bs 4 z2]])])
 | succ k =>
  refine Aa.of_vcH (P:=Pg) (E:=vE) vE_ok Af Qaa (n:=1000) (f:=72) (os0:=kA jj cs .ready) (ars:=[.yld 3,.imp [sl jj,gC cs],.imp [sl (idL jj.length)]]) (r:=[4])
   (S := { sl := [], os := kwS jj cs a (k + 1), md := [0, 1], lg := [1, 3] }) (v := .tup []) (hs := [(0, .loop [] (knS jj cs (0, 0, [])) [(True, .exit 0, knX jj cs (k + 1) a)])]) (gl := g0) (by simp) (fun i hi hno => by
    rcases(show i=0\/i=1\/i=2\/i=3 by simp at hi;omega)with rfl|rfl|rfl|rfl<;>first|rfl|(simp at hno)) ?_
  exact v_ (p:=let z1:=[V.nils,V.nils];let z2:=rkT jj cs;let z3:=Ab jj;let z4:=List.map sl a;let z5:=[sl (idL jj.length)];let z0:=O.loop .ready none 0 z2 [35,36] rkA rkB;Bn [Sm (V.tup []),Bn [Bn [Tt,z5=z5,An [Sm cs.length,Sm (List.map sl cs)],Sm (cs.length:Int),((0:Nat):Int)=(0:Int)],An [z1=z1,TT 2],Bn [An [Sm jj.length,z3=z3],An [Zz,Zz,Zz]],Bn [noL=noL],An [lkO jj cs .ready=z0,Bs 4 z2]],Sat Pg none 4 (at' 72 [0,1,1,0]) (Ah g0 34 (knS jj cs (0,0,[]))) (Qaf g0 34 [(True,Ex.exit 0,knX jj cs (k+1) a)]),(True->Bn [Tt,An [z1=z1,TT 2],Bn [An [Sm jj.length,z3=z3],Bn [Zz,Sm (k+1)]],Bn [noL=noL],An [lkO jj cs .ready=z0,Bs 4 z2],An [z4=z4,HfL z4]])])
theorem Qph(jj:List Int)(cs:List (List Int))(h1:1<=jj.length)(h6:jj.length<=6):
  Aa Pg g0 (.fn 62 []) [gV jj cs] (Ae .e 0 [gO jj cs,.row 31 none [.nils,.nils]]) 2 ⟨.agg [sl jj,.sl 2 0 0 (some 0)],Ae .e 0 [gO jj cs,.row 31 none [.nils,.nils],.row 28 none noL,.row 31 none [sl jj,.sl 2 0 0 (some 0)]],4,[]⟩:=by
 have hcl:=Qgd jj h6 h1
 have hg:=Qap cs
 have hc:=Qag jj
 refine Aa.of_vcH (P:=Pg) (E:=vE) vE_ok Af Qaa (n:=1000) (f:=62) (os0:=[gO jj cs,.row 31 none [.nils,.nils]]) (ars:=[gV jj cs]) (r:=[4,3])
   (S := { sl := [(2, .ptr 3 0)], os := [gO jj cs, .row 31 none [.nils, .nils], .row 28 none noL, .row 31 none [sl jj, .sl 2 0 0 (some 0)]], md := [0, 0, 0, 1] }) (v := .agg [sl jj, .sl 2 0 0 (some 0)]) (hs := [fn 5 (sl jj)]) (gl := g0) (by simp) (fun i hi hno => by
    rcases(show i=0\/i=1 by simp at hi;omega)with rfl|rfl<;>first|rfl|(simp at hno)) ?_
 exact v_ (p:=Bn [Sm (V.agg [sl jj,V.sl 2 0 0 (some 0)]),Bn [Tt],Ac Pg g0 64 [V.im jj.length (Ab jj)] (sl jj),Tt,Bn [Zz],An [Sm [sl jj,gC cs],TT 2],An [Sm [V.nils,V.nils],TT 2],Bn [noL=[]],Bn [An [Sm jj.length,Sm (Ab jj)],An [Zz,Zz,Zz]]])
abbrev idxS(jj:List Int)(cs:List (List Int))(k:Nat):SL:={sl:=[(1,.ptr 0 0),(2,.ptr 1 0),(5,.sl 2 0 jj.length (some (jj.length-jj.length))),(21,i6 (jj.length:Nat)),(22,i6 (k:Nat))],os:=[gO jj cs,.row 31 none [.nils,.nils],.row 3 none (nF (idF k) jj.length)]}
abbrev idxX(jj:List Int)(cs:List (List Int)):SL:={sl:=[(1,.ptr 0 0),(2,.ptr 1 0),(5,sl (idL jj.length))],os:=[gO jj cs,.row 31 none [.nils,.nils]]}
theorem idx_loop(jj:List Int)(cs:List (List Int))(h6:jj.length<=6):
  Sat Pg none 0 (at' 51 [1,1,1,0,1,0]) (Ah g0 45 (idxS jj cs 0)) (Qaf g0 45 [(True,.exit 0,idxX jj cs)]):=by
 have hg:=Qap cs
 have hc:=Qag jj
 refine Qax vE_ok Af Qaa (b:=at' 51 [1,1,1,0,1,0,0]) k_ (fun k=>k<=jj.length) (idxS jj cs) (fun k=>jj.length-k) (fun k hk=>?_) 0 (Nat.zero_le _)
 have hF:=Qai (idF k) jj.length
 by_cases hlt:k<jj.length
 ·have y := @Qdl (idF k) jj.length k hlt k
  rw[idF_next]at y
  have hF1:=Qai (idF (k+1)) jj.length
  refine .inl ⟨k+1,[0,1,2],[yes 23,pl 28,st (nF (idF (k+1)) jj.length),nu 29 (k+1:Nat)],1000,hlt,by omega,?_⟩
  exact v_ (p:=let z0:=nF (idF (k+1)) jj.length;let z1:=(jj.length:Int);let z2:=(↑(k+1):Int);let z3:=(k:Int);Bn [decide (z3<z1)=true,An [(0:Int)<=z3,z3<z1],Ax (0+k*1) (nF (idF k) jj.length) [i6 k]=some z0,wr .i64 (z3+1)=z2,Bn [Zz,Zz,An [Zz,Sm jj.length,Sm (jj.length-jj.length)],z1=z1,z2=z2],An [Sm [sl jj,gC cs],TT 2],An [Sm [V.nils,V.nils],TT 2],An [z0=z0,HfL z0]])
 ·have he : k = jj.length := by omega
  subst he
  have e:=nF_idF jj.length
  have hl:=Qjb jj.length
  refine .inr ⟨.exit 0,[0,1],idxX jj cs,[no 23],1000,.inl ⟨trivial,rfl,rfl⟩,?_⟩
  exact v_ (p:=let z0:=nF (idF jj.length) jj.length;let z1:=(jj.length:Int);Bn [decide (z1<z1)=false,Bn [Zz,Zz,An [List.length (idL jj.length)=jj.length,Ab (idL jj.length)=z0,HfL z0]],An [Sm [sl jj,gC cs],TT 2],An [Sm [V.nils,V.nils],TT 2]])
abbrev kvV(l:List (List Int)):Nat->V
 |0=>.sl 2 0 0 (some 0)
 |k+1=>.sl 2 0 (k+1) none
abbrev kvL(l:List (List Int)):Nat->O
 |0=>.row 28 none noL
 |k+1=>.row 28 (some 1) (l.map sl)
abbrev kS0(jj:List Int)(cs:List (List Int)):SL:={sl:=kZ jj cs,os:=[.row 31 none [.nils,.nils],.row 31 none [sl jj,.sl 2 0 0 (some 0)],.row 28 none noL],md:=[0,1]}
abbrev kS1(jj:List Int)(a:List (List Int))(m:Nat):SL:={sl:=[(2,.ptr 0 0),(7,.ptr 1 0)],os:=[.row 31 none [.nils,.nils],.row 31 none [sl jj,kvV a m],kvL a m],md:=[0,1]}
theorem Qor(jj:List Int)(cs:List (List Int))(h1:1<=jj.length)(h6:jj.length<=6)(h40:cs.length<=40)(hcl: ∀c∈cs,c.length=jj.length)(a:List (List Int))(ha:a=comp cs)(m:Nat)(hm:a.length=m):
  Sat Pg none 0 rkC (Ah g0 45 (kS0 jj cs)) (Qaf g0 45 [(True,.normal,kS1 jj a m)]):=by
 rw[rk_eq]
 have hla:=Qca sl a (fun _=>trivial)
 have hcall:=Qpq jj cs h1 h6 h40 hcl a ha m hm
 clear ha
 cases m with
 |zero=>
  refine Sat.rangeC (gl:=g0) (r:=[0,1,2]) (S:=kS0 jj cs) (f:=72) (caps:=[.imp [sl jj,gC cs],.imp [sl (idL jj.length)]]) (H1:=Ae .e 0 (kwS jj cs a 0)) (nx1:=4) (v:=.tup []) rfl rfl hcall k_ ?_
  exact v_ (p:=Bn [Bn [Zz,Zz],An [Sm [V.nils,V.nils],TT 2],Bn [An [Sm jj.length,Sm (Ab jj)],An [Zz,Zz,Zz]],Bn [noL=noL]])
 |succ k=>
  refine Sat.rangeC (gl:=g0) (r:=[0,1,4]) (S:=kS0 jj cs) (f:=72) (caps:=[.imp [sl jj,gC cs],.imp [sl (idL jj.length)]]) (H1:=Ae .e 0 (kwS jj cs a (k+1))) (nx1:=5) (v:=.tup []) rfl rfl hcall k_ ?_
  exact v_ (p:=Bn [Bn [Zz,Zz],An [Sm [V.nils,V.nils],TT 2],Bn [An [Sm jj.length,Sm (Ab jj)],Bn [Zz,Sm (k+1)]],An [Sm (List.map sl a),HfL (List.map sl a)]])
def cmpE(jj:List Int)(cs:List (List Int)):V:=.tup [bif B5 jj cs then gV jj (comp cs)else .agg [.nils,.nils],i6 (C5 jj cs)]
theorem Qkn(jj:List Int)(cs:List (List Int))(hl1:jj.length<=1000)(hl2:cs.length<=1000):Ac Pg g0 51 [gV jj cs] (cmpE jj cs):=by
 have hck:=Qnq jj cs hl1 hl2
 have hg:=Qap cs
 have hc:=Qag jj
 unfold cmpE
 cases hok:B5 jj cs with
 |false=>
  have e:C5 jj cs=250:=by unfold C5;rw[hok];rfl
  rw[e]at hck⊢
  refine Ac.of_vc vE_ok Af Qaa (n:=1000) (r:=[1]) (S:={sl:=[(2,.ptr 0 0),(3,i6 250)],os:=[.row 31 none [.nils,.nils]]}) (hs:=[fn 11 (i6 250)]) ?_
  exact v_ (p:=Bn [Sm (V.tup [V.agg [V.nils,V.nils],i6 250]),Bn [TT 2],Ac Pg g0 61 [V.agg [V.im jj.length (Ab jj),V.im cs.length (List.map sl cs)]] (i6 250),Tt,Bn [Zz,Sm (250:Int)],An [Sm [V.nils,V.nils],TT 2]])
 | true =>
  have e:C5 jj cs=0:=by unfold C5;rw[hok];rfl
  rw[e]at hck⊢
  have hb:decide (1<=jj.length)=true/\decide (jj.length<=6)=true/\decide (cs.length<=40)=true/\Er jj=true/\decide (Ar jj jj.length<=1024)=true/\cs.all (Bd jj)=true:=by
   unfold B5 at hok
   simpa [Bool.and_eq_true]using hok
  have h1:=of_decide_eq_true hb.1
  have h6:=of_decide_eq_true hb.2.1
  have h40:=of_decide_eq_true hb.2.2.1
  have hcl: ∀c∈cs,c.length=jj.length:=fun c hcm=>by
   have:=List.all_eq_true.1 hb.2.2.2.2.2 c hcm
   unfold Bd at this
   rw[Bool.and_eq_true]at this
   exact of_decide_eq_true this.1
  have lx:=idx_loop jj cs h6
  have hrep:=rep_nF jj.length
  have hem:=Qph jj cs h1 h6
  have hkn:=known_fn jj cs jj.length
  have hF:=Qai (idF 0) jj.length
  generalize ha:comp cs=a
  have hla:=Qca sl a (fun _=>trivial)
  have hle:a.length<=40:=by
   rw[<-ha];unfold comp
   exact Nat.le_trans (List.length_filter_le _ _) h40
  cases hm:a.length with
  |zero=>
   have lr:=Qor jj cs h1 h6 h40 hcl a ha.symm 0 hm
   have:a=[]:=List.eq_nil_of_length_eq_zero hm
   subst this
   clear hb hok
   refine Ac.of_vc vE_ok Af Qaa (n:=1000) (r:=[0]) (S:={sl:=[(2,.ptr 0 0),(3,i6 0)],os:=[.row 31 none [sl jj,.im 0 []]],md:=[1]}) (hs:=[fn 11 (i6 0),mk 19,(0,.loop [0,1,2] (idxS jj cs 0) [(True,.exit 0,idxX jj cs)]),(31,.call ⟨.agg [sl jj,.sl 2 0 0 (some 0)],Ae .e 0 [gO jj cs,.row 31 none [.nils,.nils],.row 28 none noL,.row 31 none [sl jj,.sl 2 0 0 (some 0)]],4,[]⟩),fn 34 (.fn 72 [.imp [sl jj,gC cs],.imp [sl (idL jj.length)]]),(0,.loop [1,4,2] (kS0 jj cs) [(True,.normal,kS1 jj [] 0)])]) ?_
   exact v_ (p:=let z9:=Sm jj.length;let z0:=(jj.length:Int);let z1:=[sl jj,gC cs];let z2:=[V.nils,V.nils];let z4:=idL jj.length;let z5:=Ab jj;let z6:=[sl jj,V.sl 2 0 0 (some 0)];let z7:=nF (idF 0) jj.length;let z8:=(0:Int);let z3:=V.agg [V.im jj.length z5,V.im cs.length (List.map sl cs)];Bn [V.tup [V.agg [sl jj,V.im 0 []],i6 0]=V.tup [gV jj [],i6 0],Bn [TT 2],Ac Pg g0 61 [z3] (i6 0),Tt,An [z8<=z0,z0<=z0,((8:Nat):Int)*z0<=281474976710656,z0<=9223372036854775807],Bn [Bn [Zz,Zz,An [Zz,z9,Sm (jj.length-jj.length)],z0=z0,((0:Nat):Int)=z8],An [z1=z1,TT 2],An [z2=z2,TT 2],An [z7=rep jj.length [i6 0],HfL z7]],Sat Pg none 0 (at' 51 [1,1,1,0,1,0]) (Ah g0 45 (idxS jj cs 0)) (Qaf g0 45 [(True,Ex.exit 0,idxX jj cs)]),(True->Bn [Aa Pg g0 (V.fn 62 []) [V.agg z1] (Ae T.e 0 [gO jj cs,O.row 31 none z2]) 2 (CR.mk (V.agg z6) (Ae T.e 0 [gO jj cs,O.row 31 none z2,O.row 28 none noL,O.row 31 none z6]) 4 []),Tt,Bn [TT 2,Tt],Ac Pg g0 63 [z3,V.im z4.length (Ab z4)] (V.fn 72 [V.imp z1,V.imp [sl z4]]),Tt,Bn [Bn [Zz,Zz,Bn [z1=z1,Sm [sl z4]]],An [z2=z2,TT 2],Bn [An [z9,z5=z5],An [Zz,Zz,Zz]],Bn [noL=noL]],Sat Pg none 0 (at' 51 [1,1,1,1,1,0,1,0]) (Ah g0 45 (kS0 jj cs)) (Qaf g0 45 [(True,Ex.normal,kS1 jj [] 0)]),(True->Bn [Bn [Zz,z8=z8],Bn [An [z9,z5=z5],Bn [Zz,[]=noL]]])])])
  |succ k=>
   have lr:=Qor jj cs h1 h6 h40 hcl a ha.symm (k+1) hm
   rw[show gV jj a= .agg [sl jj,.im (k+1) (a.map sl)]by show V.agg [sl jj,.im a.length (a.map sl)]=_;rw[hm]]
   clear hb hok
   refine Ac.of_vc vE_ok Af Qaa (n:=1000) (r:=[0]) (S:={sl:=[(2,.ptr 0 0),(3,i6 0)],os:=[.row 31 none [sl jj,.im (k+1) (a.map sl)]],md:=[1]}) (hs:=[fn 11 (i6 0),mk 19,(0,.loop [0,1,2] (idxS jj cs 0) [(True,.exit 0,idxX jj cs)]),(31,.call ⟨.agg [sl jj,.sl 2 0 0 (some 0)],Ae .e 0 [gO jj cs,.row 31 none [.nils,.nils],.row 28 none noL,.row 31 none [sl jj,.sl 2 0 0 (some 0)]],4,[]⟩),fn 34 (.fn 72 [.imp [sl jj,gC cs],.imp [sl (idL jj.length)]]),(0,.loop [1,4,2] (kS0 jj cs) [(True,.normal,kS1 jj a (k+1))])]) ?_
   exact v_ (p:=let y1:=Sm jj.length;let z0:=(jj.length:Int);let z1:=[sl jj,gC cs];let z2:=[V.nils,V.nils];let z4:=idL jj.length;let z6:=List.map sl a;let z7:=Ab jj;let z8:=[sl jj,V.sl 2 0 0 (some 0)];let z9:=nF (idF 0) jj.length;let y0:=(0:Int);let z3:=V.agg [V.im jj.length z7,V.im cs.length (List.map sl cs)];let z5:=V.tup [V.agg [sl jj,V.im (k+1) z6],i6 0];Bn [z5=z5,Bn [TT 2],Ac Pg g0 61 [z3] (i6 0),Tt,An [y0<=z0,z0<=z0,((8:Nat):Int)*z0<=281474976710656,z0<=9223372036854775807],Bn [Bn [Zz,Zz,An [Zz,y1,Sm (jj.length-jj.length)],z0=z0,((0:Nat):Int)=y0],An [z1=z1,TT 2],An [z2=z2,TT 2],An [z9=rep jj.length [i6 0],HfL z9]],Sat Pg none 0 (at' 51 [1,1,1,0,1,0]) (Ah g0 45 (idxS jj cs 0)) (Qaf g0 45 [(True,Ex.exit 0,idxX jj cs)]),(True->Bn [Aa Pg g0 (V.fn 62 []) [V.agg z1] (Ae T.e 0 [gO jj cs,O.row 31 none z2]) 2 (CR.mk (V.agg z8) (Ae T.e 0 [gO jj cs,O.row 31 none z2,O.row 28 none noL,O.row 31 none z8]) 4 []),Tt,Bn [TT 2,Tt],Ac Pg g0 63 [z3,V.im z4.length (Ab z4)] (V.fn 72 [V.imp z1,V.imp [sl z4]]),Tt,Bn [Bn [Zz,Zz,Bn [z1=z1,Sm [sl z4]]],An [z2=z2,TT 2],Bn [An [y1,z7=z7],An [Zz,Zz,Zz]],Bn [noL=noL]],Sat Pg none 0 (at' 51 [1,1,1,1,1,0,1,0]) (Ah g0 45 (kS0 jj cs)) (Qaf g0 45 [(True,Ex.normal,kS1 jj a (k+1))]),(True->Bn [Bn [Zz,y0=y0],Bn [An [y1,z7=z7],An [Sm (k+1),z6=z6,HfL z6]]])])])
def B8(jj:List Int)(cs:List (List Int))(lim:Int):Int:=if Bx jj cs=0 then(if 5<jj.length\/lim<0\/4<lim then 2 else 0)else Bx jj cs
abbrev e4(e:Int):SL:={sl:=[(4,i6 e)]}
theorem Qlp(jj:List Int)(cs:List (List Int))(lim:Int)(hl1:jj.length<=1000)(hl2:cs.length<=1000):Ac Pg g0 34 [gV jj cs,i6 lim] (i6 (B8 jj cs lim)):=by
 have hd:=Qkn jj cs hl1 hl2
 have hg:=Qap cs
 have hc:=Qag jj
 unfold cmpE at hd
 unfold B8 Bx
 cases hok:B5 jj cs with
 |false=>
  have e:C5 jj cs=250:=by unfold C5;rw[hok];rfl
  rw[e,hok,cond_false]at hd
  simp only[Bool.false_eq_true,if_false,show((250:Int)=0)=False from by simp]
  refine Ac.of_vc vE_ok Af Qaa (n:=1000) (r:=[]) (S:=e4 250) (hs:=[fn 9 (.tup [.agg [.nils,.nils],i6 250]),yes 13]) ?_
  exact v_ (p:=Bn [Sm (i6 250),Bn [TT 2],Ac Pg g0 51 [V.agg [V.im jj.length (Ab jj),V.im cs.length (List.map sl cs)]] (V.tup [V.agg [V.nils,V.nils],i6 250]),Tt,((250:Int) != 0)=true,Bn [Sm (250:Int)]])
 | true =>
  have e:C5 jj cs=0:=by unfold C5;rw[hok];rfl
  rw[e,hok,cond_true]at hd
  simp only[if_true]
  have hla:=Qca sl (comp cs) (fun _=>trivial)
  have hle:(comp cs).length<=cs.length:=List.length_filter_le _ _
  cases hn:cs.any Cf with
  | true =>
   have hne:(comp cs).length≠cs.length:=fun h=>by have:=(Qi3 cs).1 h;rw[hn]at this;cases this
   simp only[if_true,show((260:Int)=0)=False from by simp,if_false]
   generalize comp cs=a at*
   have hbn:((a.length:Int)==(cs.length:Int))=false:=by
    rw[beq_eq_false_iff_ne];omega
   refine Ac.of_vc vE_ok Af Qaa (n:=1000) (r:=[]) (S:=e4 260) (hs:=[fn 9 (.tup [gV jj a,i6 0]),no 13,yes 21]) ?_
   exact v_ (p:=Bn [Sm (i6 260),Bn [TT 2],Ac Pg g0 51 [V.agg [V.im jj.length (Ab jj),V.im cs.length (List.map sl cs)]] (V.tup [gV jj a,i6 0]),Tt,((0:Int) != 0)=false,((a.length:Int) != (cs.length:Int))=true,Bn [Sm (260:Int)]])
  | false =>
   have heq:(comp cs).length=cs.length:=(Qi3 cs).2 hn
   simp only[Bool.false_eq_true,if_false,if_true]
   generalize comp cs=a at*
   have hbn:((a.length:Int)==(cs.length:Int))=true:=by
    rw[heq];exact beq_self_eq_true _
   by_cases h1:5<jj.length
   ·rw [if_pos (Or.inl h1)]
    refine Ac.of_vc vE_ok Af Qaa (n:=1000) (r:=[]) (S:=e4 2) (hs:=[fn 9 (.tup [gV jj a,i6 0]),no 13,no 21,yes 25]) ?_
    exact v_ (p:=Bn [Sm (i6 2),Bn [TT 2],Ac Pg g0 51 [V.agg [V.im jj.length (Ab jj),V.im cs.length (List.map sl cs)]] (V.tup [gV jj a,i6 0]),Tt,((0:Int) != 0)=false,((a.length:Int) != (cs.length:Int))=false,decide ((jj.length:Int)>5)=true,Bn [Sm (2:Int)]])
   ·by_cases h2 : lim < 0
    ·rw [if_pos (Or.inr (Or.inl h2))]
     refine Ac.of_vc vE_ok Af Qaa (n:=1000) (r:=[]) (S:=e4 2) (hs:=[fn 9 (.tup [gV jj a,i6 0]),no 13,no 21,no 25,yes 28]) ?_
     exact v_ (p:=Bn [Sm (i6 2),Bn [TT 2],Ac Pg g0 51 [V.agg [V.im jj.length (Ab jj),V.im cs.length (List.map sl cs)]] (V.tup [gV jj a,i6 0]),Tt,((0:Int) != 0)=false,((a.length:Int) != (cs.length:Int))=false,decide ((jj.length:Int)>5)=false,decide (lim<0)=true,Bn [Sm (2:Int)]])
    ·by_cases h3 : 4 < lim
     ·rw [if_pos (Or.inr (Or.inr h3))]
      refine Ac.of_vc vE_ok Af Qaa (n:=1000) (r:=[]) (S:=e4 2) (hs:=[fn 9 (.tup [gV jj a,i6 0]),no 13,no 21,no 25,no 28,yes 32]) ?_
      exact v_ (p:=Bn [Sm (i6 2),Bn [TT 2],Ac Pg g0 51 [V.agg [V.im jj.length (Ab jj),V.im cs.length (List.map sl cs)]] (V.tup [gV jj a,i6 0]),Tt,((0:Int) != 0)=false,((a.length:Int) != (cs.length:Int))=false,decide ((jj.length:Int)>5)=false,decide (lim<0)=false,decide (lim>4)=true,Bn [Sm (2:Int)]])
     ·rw [if_neg o_]
      refine Ac.of_vc vE_ok Af Qaa (n:=1000) (r:=[]) (S:=e4 0) (hs:=[fn 9 (.tup [gV jj a,i6 0]),no 13,no 21,no 25,no 28,no 32]) ?_
      exact v_ (p:=let z0:=(0:Int);Bn [Sm (i6 0),Bn [TT 2],Ac Pg g0 51 [V.agg [V.im jj.length (Ab jj),V.im cs.length (List.map sl cs)]] (V.tup [gV jj a,i6 0]),Tt,(z0 != z0)=false,((a.length:Int) != (cs.length:Int))=false,decide ((jj.length:Int)>5)=false,decide (lim<z0)=false,decide (lim>4)=false,Bn [z0=z0]])
set_option maxHeartbeats 1000000
set_option maxHeartbeats 4000000
def fF(jj:List Int)(cs:List (List Int))(v p:Nat):Nat->Int:=if v<jj.length then famG jj cs v p else Qah
theorem Qme{jj:List Int}{cs:List (List Int)}(h:Bx jj cs=0)(h40:cs.length<=40)(v p:Nat):inB (fF jj cs v p) 160:=by
 have hw:=Qj5 h
 unfold fF
 split
 ·intro i hi
  unfold famG
  exact fam_le hw.cok hw.rok (by rw[Qay];omega) (by rw[List.length_map];exact h40) hi
 ·exact inB_zero.mono d_
section
variable (n lim:Nat) (F:Nat->Nat->Nat->Int)
def laT:Nat->Nat->Nat
 |0=>fun _=>0
 |s+1=>sL s (stB n lim F s) (laT s)
def paT:Nat->Nat->Nat
 |0=>fun _=>0
 |s+1=>sP s (stB n lim F s) (paT s)
def Ei:Nat->(Nat->Nat×Nat)×Nat
 |0=>(fun _=>(0,0),0)
 |s+1=>Cj lim s (Ei s).1 (Ei s).2 n
end
theorem Gt(n lim:Nat)(F:Nat->Nat->Nat->Int)(s:Nat):sB s (stB n lim F s) (A8 n lim F s)=A8 n lim F (s+1):=rfl
theorem Gr(n lim:Nat)(F:Nat->Nat->Nat->Int)(s:Nat):sB s none (A8 n lim F s)=A8 n lim F s:=by
 funext i
 unfold sB
 split
 ·rename_i h
  rw[Qbp,if_neg o_];rfl
 ·rfl
theorem la_ge(n lim:Nat)(F:Nat->Nat->Nat->Int): ∀(s i:Nat),s<=i->laT n lim F s i=0
 |0,_,_=>rfl
 |s+1,i,h=>by
  unfold laT sL
  rw[if_neg o_]
  exact la_ge n lim F s i o_
theorem pa_ge(n lim:Nat)(F:Nat->Nat->Nat->Int): ∀(s i:Nat),s<=i->paT n lim F s i=0
 |0,_,_=>rfl
 |s+1,i,h=>by
  unfold paT sP
  rw[if_neg o_]
  exact pa_ge n lim F s i o_
theorem la_none(n lim:Nat)(F:Nat->Nat->Nat->Int)(s:Nat):sL s none (laT n lim F s)=laT n lim F s:=by
 funext i
 unfold sL
 split
 ·rename_i h
  rw[la_ge n lim F s i o_];rfl
 ·rfl
theorem pa_none(n lim:Nat)(F:Nat->Nat->Nat->Int)(s:Nat):sP s none (paT n lim F s)=paT n lim F s:=by
 funext i
 unfold sP
 split
 ·rename_i h
  rw[pa_ge n lim F s i o_];rfl
 ·rfl
theorem la_at(n lim:Nat)(F:Nat->Nat->Nat->Int): ∀(s i:Nat),i<s->laT n lim F s i=vO (stB n lim F i)
 |s+1,i,h=>by
  unfold laT sL
  by_cases e:i=s
  ·rw[if_pos e,e]
  ·rw[if_neg e];exact la_at n lim F s i o_
theorem pa_at(n lim:Nat)(F:Nat->Nat->Nat->Int): ∀(s i:Nat),i<s->paT n lim F s i=pO (stB n lim F i)
 |s+1,i,h=>by
  unfold paT sP
  by_cases e:i=s
  ·rw[if_pos e,e]
  ·rw[if_neg e];exact pa_at n lim F s i o_
theorem outA_pos(lim s:Nat)(q:Nat->Nat×Nat)(k:Nat)(hb:s.testBit 0=true): ∀n,1<=n->1<=(Cj lim s q k n).2
 |0,h=>absurd h d_
 | n + 1, _ => by
  have h1:1<=(Cj lim s q k 1).2:=by
   rw[Cj,if_pos hb]
   by_cases hk:k=0
   ·subst hk
    exact Qjc (s+1) o_ (Qb5.2 ⟨Nat.zero_and _,Nat.zero_testBit _,Nat.zero_le _⟩) rfl
   ·have := Qee lim s 0 q k (s + 1)
    unfold F0 at this
    show 1<=(Bf lim s 0 q k (s+1)).2
    omega
  have: ∀m,(Cj lim s q k 1).2<=(Cj lim s q k (m+1)).2:=fun m=>by
   induction m with
   |zero=>exact Nat.le_refl _
   | succ m ih =>
    refine Nat.le_trans ih ?_
    have e:Cj lim s q k (m+1+1)=if s.testBit (m+1)then Bf lim s (m+1) (Cj lim s q k (m+1)).1 (Cj lim s q k (m+1)).2 (s+1)else Cj lim s q k (m+1):=rfl
    rw[e]
    split
    ·have := Qee lim s (m + 1) (Cj lim s q k (m + 1)).1 (Cj lim s q k (m + 1)).2 (s + 1)
     unfold F0 at this
     exact this.1
    ·exact Nat.le_refl _
  exact Nat.le_trans h1 (this n)
theorem Qng(n lim:Nat)(hn:1<=n): ∀s,2<=s->1<=(Ei n lim s).2
 |0,h=>absurd h d_
 |1,h=>absurd h d_
 |2,_=>outA_pos lim 1 _ _ rfl n hn
 |s+3,_=>Nat.le_trans (Qng n lim hn (s+2) o_) (Qg3 lim (s+2) _ _ n).1
theorem Ql5(n lim:Nat)(hn:n<=5): ∀s,s<=32->(Ei n lim s).2<=s*160
 |0,_=>Nat.le_refl _
 |s+1,h=>by
  have ih:=Ql5 n lim hn s o_
  have:=(Qg3 lim s (Ei n lim s).1 (Ei n lim s).2 n).2
  have h2:n*(s+1)<=5*32:=Nat.mul_le_mul hn o_
  show(Cj lim s (Ei n lim s).1 (Ei n lim s).2 n).2<=_
  omega
theorem Qoy(a b:Nat->Int){k:Nat}(hk:k<18):El a b k=a k+1*b k:=by
 unfold El
 rw[Qbi,if_pos hk]
theorem alltry{jj:List Int}{cs:List (List Int)}(hl2:cs.length<=40)(hcl: ∀c∈cs,c.length<=1000)(h:Bx jj cs=0)(hn:jj.length<=5)(lim s v:Nat)(hs:s<2^jj.length)(hv:v<jj.length)(hb:s.testBit v=true):
  Qej jj cs (fF jj cs) (2^jj.length) lim s v (A8 jj.length lim (fF jj cs) s):=by
 have h32:=Qa1 hn
 have hF:=Qme h hl2
 have ht: ∀t,inB (A8 jj.length lim (fF jj cs) s t) 800:=fun t=>by
  rw[Qbp]
  split
  ·exact Qj1 hF hn o_
  ·exact inB_zero.mono d_
 obtain⟨r1,r2,r3⟩:=Qes s o_ v o_ hb
 have hp0:0<2^v:=Nat.pow_pos d_
 have hbd: ∀p,inB (Av (fF jj cs) (A8 jj.length lim (fF jj cs) s) s v p) 1000:=fun p=>((ht _).add (hF v p)).mono d_
 refine⟨by omega,by omega,hb,hbd,fun p b hok hG=>⟨hs,by omega,by omega,fun G T=>Qlq o_,fun G T=>Qqn o_ o_ hb,?_,fun v' p' y e=>?_,?_⟩⟩
 ·have hsum : arF (El (A8 jj.length lim (fF jj cs) s (s - 2 ^ v)) (fF jj cs v p)) = arF (Av (fF jj cs) (A8 jj.length lim (fF jj cs) s) s v p) := Qbf fun k hk => by
   show El _ _ k=A8 jj.length lim (fF jj cs) s (s-2^v) k+1*fF jj cs v p k
   exact Qoy _ _ hk
  have:=add_ok (A8 jj.length lim (fF jj cs) s (s-2^v)) (fF jj cs v p) ((ht _).inA d_) ((hF v p).inA d_) (by
   refine Qr5 fun k hk=>?_
   have h1:=ht (s-2^v) k hk
   have h2:=hF v p k hk
   have:El (A8 jj.length lim (fF jj cs) s (s-2^v)) (fF jj cs v p) k=A8 jj.length lim (fF jj cs) s (s-2^v) k+1*fF jj cs v p k:=Qoy _ _ hk
   omega)
  rw[show ar (El (A8 jj.length lim (fF jj cs) s (s-2^v)) (fF jj cs v p))=ar (Av (fF jj cs) (A8 jj.length lim (fF jj cs) s) s v p)from congrArg V.agg hsum]at this
  exact this
 ·exact cmp_ok _ _ ((hbd p).inA d_) ((hG v' p' y e).inA d_)
 ·have ho := Qb5.1 hok
  have hps:p<=s:=by rw[<-ho.1];exact Nat.and_le_right
  have hF2:fF jj cs v p=famG jj cs v p:=if_pos hv
  rw[hF2]
  refine Qti jj cs v p o_ o_ hcl h ?_
  unfold memB
  have e1:p/2^jj.length=0:=Nat.div_eq_of_lt o_
  have e2:p/2^v%2=0:=by
   have:=ho.2.1
   rw[Nat.testBit_eq_decide_div_mod_eq]at this
   have:=of_decide_eq_false this
   omega
  simp[e1,e2,hv]
section
variable (jj:List Int) (cs:List (List Int)) (F:Nat->Nat->Nat->Int) (size lim:Nat)
abbrev smZ(s:Nat):List (Nat×V):=[(1,i6 (lim:Nat)),(2,.ptr 0 0),(4,.ptr 1 0),(5,.ptr 2 0),(6,.ptr 3 0),(8,i6 (size:Nat)),(9,.ptr 7 0),(10,.ptr 10 0),(39,i6 (size:Nat)),(40,i6 (s:Nat))]
abbrev smO(q:Nat->Nat×Nat)(B:Nat->Nat->Int)(la pa:Nat->Nat)(hs k:Nat):List O:=[.row 31 none [sl jj,gC cs],.row 65 none [.nilp],.row 43 none [.nils,.nils],.row 38 none [i6 0],.row 37 none (bF B size),.map (Ak q k) k,.row 70 none (toC jj cs size 4 5 hs k),.row 65 none [.ptr 6 0],.row 3 none (nF la size),.row 72 none (uF pa size),.row 43 none [.sl 8 0 size (some (size-size)),.sl 9 0 size (some (size-size))]]
abbrev sSx(x:Nat×(Nat->Nat×Nat)×Nat×(Nat->Nat->Int)×(Nat->Nat)×(Nat->Nat)):SL:={sl:=smZ size lim x.1,os:=match x.2.2.1 with|0=>smO jj cs size x.2.1 x.2.2.2.1 x.2.2.2.2.1 x.2.2.2.2.2 11 0|k+1=>smO jj cs size x.2.1 x.2.2.2.1 x.2.2.2.2.1 x.2.2.2.2.2 11 (k+1)++[scO F x.2.1 k],md:=clM}
end
theorem Qth(jj:List Int)(cs:List (List Int))(hl2:cs.length<=40)(hcl: ∀c∈cs,c.length<=1000)(h:Bx jj cs=0)(hn1:1<=jj.length)(hn:jj.length<=5)(lim:Nat)(F:Nat->Nat->Nat->Int)(hF:F=fF jj cs)(n:Nat)(hnl:n=jj.length)(size:Nat)(hsz:size=2^n)(q1:Nat->Nat×Nat)(k1:Nat)(hA:Ei n lim size=(q1,k1))(B1:Nat->Nat->Int)(hB1:A8 n lim F size=B1)(la1:Nat->Nat)(jb:laT n lim F size=la1)(pa1:Nat->Nat)(jc:paT n lim F size=pa1):
  Sat Pg none 0 (at' 19 [1,1,1,1,1,0,1,0]) (Ah g0 75 (sSx jj cs F size lim (0,(fun _=>(0,0)),0,(fun _=>Qah),(fun _=>0),(fun _=>0)))) (Qaf g0 75 [(True,.exit 0,sSx jj cs F size lim (size,q1,k1,B1,la1,pa1))]):=by
 have hc:=Qag jj
 have hg:=Qap cs
 have hla:=fun la=>Qai la size
 have hpa:=fun pa=>Qaj pa size
 have hBB:=fun B=>Qab B size
 have hEE:=fun q k=>Qae q k
 have hSS:=fun q k=>Qab (scF F q) k
 have h32:size<=32:=by rw[hsz,hnl];exact Qa1 hn
 refine Qax vE_ok Af Qaa (b:=at' 19 [1,1,1,1,1,0,1,0,0]) k_ (fun x=>x.1<=size/\Ei n lim x.1=(x.2.1,x.2.2.1)/\A8 n lim F x.1=x.2.2.2.1/\laT n lim F x.1=x.2.2.2.2.1/\paT n lim F x.1=x.2.2.2.2.2) (sSx jj cs F size lim) (fun x=>size-x.1) (fun x hx=>?_) (0,(fun _=>(0,0)),0,(fun _=>Qah),(fun _=>0),(fun _=>0)) ⟨Nat.zero_le _,rfl,rfl,rfl,rfl⟩
 obtain⟨s,q,k,B,la,pa⟩:=x
 obtain⟨hs,eA,eB,eL,eP⟩:=hx
 dsimp only at hs eA eB eL eP
 have hkb:=Ql5 n lim o_ s o_
 rw[eA]at hkb
 dsimp only at hkb
 by_cases hlt:s<size
 ·generalize hout : Cj lim s q k n = z
  obtain⟨q2,k2⟩:=z
  generalize hb2:B3 lim F B s n=b2
  have l:=Ql8 jj cs F size lim n s B la pa o_ o_ (fun v hv hb=>by
   subst hF hnl hsz
   rw[<-eB]
   exact alltry hl2 hcl h hn lim s v hlt hv hb) q k o_ q2 k2 b2 hout hb2
  have eB0:sB s none B=B:=by rw[<-eB];exact Gr n lim F s
  have eL0:sL s none la=la:=by rw[<-eL];exact la_none n lim F s
  have eP0:sP s none pa=pa:=by rw[<-eP];exact pa_none n lim F s
  have zB:bF (sB s none B) size=bF B size:=by rw[eB0]
  have zL:nF (sL s none la) size=nF la size:=by rw[eL0]
  have zP:uF (sP s none pa) size=uF pa size:=by rw[eP0]
  have hst:stB n lim F s=b2:=by unfold stB;rw[eB];exact hb2
  have eA2:Ei n lim (s+1)=(q2,k2):=by
   show Cj lim s (Ei n lim s).1 (Ei n lim s).2 n=_
   rw[eA];exact hout
  have eB2:A8 n lim F (s+1)=sB s b2 B:=by rw[<-Gt,hst,eB]
  have eL2:laT n lim F (s+1)=sL s b2 la:=by show sL s (stB n lim F s) (laT n lim F s)=_;rw[hst,eL]
  have eP2:paT n lim F (s+1)=sP s b2 pa:=by show sP s (stB n lim F s) (paT n lim F s)=_;rw[hst,eP]
  have hmono:=(Qg3 lim s q k n).1
  rw[hout]at hmono
  dsimp only at hmono
  subst hnl
  clear h hA hB1 jb jc hst hout hb2 eA eB eL eP
  cases k with
  | zero =>
   cases k2 with
   |zero=>
    skip
    refine .inl ⟨(s+1,q2,0,sB s b2 B,sL s b2 la,sP s b2 pa),[0,1,2,3,4,5,6,7,8,9,10],[yes 41,(0,.loop [0,1,2,3,4,5,6,7,8,9,10,11,12,13] (vSx jj cs F size lim jj.length s B la pa (0,q,0,none)) [(True,.exit 2,vSx jj cs F size lim jj.length s B la pa (jj.length,q2,0,b2))]),nu 72 ((s+1:Nat):Int)],1000,⟨hlt,eA2,eB2,eL2,eP2⟩,by dsimp only;omega,?_⟩
    exact v_ (p:=let y5:=An [Zz,Sm size,Sm (size-size)];let y6:=Bn [Sm [V.nilp],Tt];let y7:=Bn [Sm [i6 0],Tt];let z0:=(size:Int);let z1:=[sl jj,gC cs];let z2:=[V.nils,V.nils];let z3:=nF (sL s b2 la) size;let z4:=uF (sP s b2 pa) size;let z5:=(lim:Int);let z6:=List.map sl cs;let z7:=bF (sB s b2 B) size;let z8:=(↑(s+1):Int);let z9:=(s:Int);let y0:=Ab jj;let y1:=nF (sL s none la) size;let y2:=uF (sP s none pa) size;let y3:=(jj.length:Int);let y4:=bF (sB s none B) size;Bn [decide (z9<z0)=true,Bn [Bn [z5=z5,Zz,Zz,Zz,Zz,z0=z0,Zz,Zz,Zz,Zz,Zz,z0=z0,z9=z9,y3=y3,((0:Nat):Int)=(0:Int)],An [z1=z1,TT 2],y6,An [z2=z2,TT 2],y7,An [y4=bF B size,HfL y4],An [Sm (Ak q 0),HfE (Ak q 0),Zz],An [An [Sm jj.length,y0=y0],An [Sm cs.length,z6=z6],y5,TT 2],Bn [Zz],An [y1=nF la size,HfL y1],An [y2=uF pa size,HfL y2],Bn [y5,y5],Bn [Sm [i6 s],Tt],Bn [[V.bool (Qaw none)]=[V.bool false],Tt],Bn [Bn [Zz,Zz,Zz,Zz]]],Sat Pg none 0 (at' 19 [1,1,1,1,1,0,1,0,0,1,1,0,0,1,1,1,1,0]) (Ah g0 75 (vSx jj cs F size lim jj.length s B la pa (0,q,0,none))) (Qaf g0 75 [(True,Ex.exit 2,vSx jj cs F size lim jj.length s B la pa (jj.length,q2,0,b2))]),(True->Bn [wr .i64 (z9+1)=z8,Bn [z5=z5,Zz,Zz,Zz,Zz,z0=z0,Zz,Zz,z0=z0,z8=z8],An [z1=z1,TT 2],y6,An [z2=z2,TT 2],y7,An [z7=z7,HfL z7],An [Sm (Ak q2 0),HfE (Ak q2 0),Zz],An [An [Sm jj.length,y0=y0],An [Sm cs.length,z6=z6],y5,TT 2],Bn [Zz],An [z3=z3,HfL z3],An [z4=z4,HfL z4],Bn [y5,y5]])])
   |succ k2=>
    skip
    refine .inl ⟨(s+1,q2,(k2+1),sB s b2 B,sL s b2 la,sP s b2 pa),[0,1,2,3,4,5,6,7,8,9,10,14],[yes 41,(0,.loop [0,1,2,3,4,5,6,7,8,9,10,11,12,13] (vSx jj cs F size lim jj.length s B la pa (0,q,0,none)) [(True,.exit 2,vSx jj cs F size lim jj.length s B la pa (jj.length,q2,(k2+1),b2))]),nu 72 ((s+1:Nat):Int)],1000,⟨hlt,eA2,eB2,eL2,eP2⟩,by dsimp only;omega,?_⟩
    exact v_ (p:=let y7:=An [Zz,Sm size,Sm (size-size)];let y8:=Bn [Sm [V.nilp],Tt];let y9:=Bn [Sm [i6 0],Tt];let z0:=(size:Int);let z1:=[sl jj,gC cs];let z2:=[V.nils,V.nils];let z3:=bF (scF F q2) (k2+1);let z4:=nF (sL s b2 la) size;let z5:=uF (sP s b2 pa) size;let z6:=(lim:Int);let z7:=List.map sl cs;let z8:=bF (sB s b2 B) size;let z9:=(↑(s+1):Int);let y0:=(s:Int);let y1:=Ak q2 (k2+1);let y2:=Ab jj;let y3:=nF (sL s none la) size;let y4:=uF (sP s none pa) size;let y5:=(jj.length:Int);let y6:=bF (sB s none B) size;Bn [decide (y0<z0)=true,Bn [Bn [z6=z6,Zz,Zz,Zz,Zz,z0=z0,Zz,Zz,Zz,Zz,Zz,z0=z0,y0=y0,y5=y5,((0:Nat):Int)=(0:Int)],An [z1=z1,TT 2],y8,An [z2=z2,TT 2],y9,An [y6=bF B size,HfL y6],An [Sm (Ak q 0),HfE (Ak q 0),Zz],An [An [Sm jj.length,y2=y2],An [Sm cs.length,z7=z7],y7,TT 2],Bn [Zz],An [y3=nF la size,HfL y3],An [y4=uF pa size,HfL y4],Bn [y7,y7],Bn [Sm [i6 s],Tt],Bn [[V.bool (Qaw none)]=[V.bool false],Tt],Bn [Bn [Zz,Zz,Zz,Zz]]],Sat Pg none 0 (at' 19 [1,1,1,1,1,0,1,0,0,1,1,0,0,1,1,1,1,0]) (Ah g0 75 (vSx jj cs F size lim jj.length s B la pa (0,q,0,none))) (Qaf g0 75 [(True,Ex.exit 2,vSx jj cs F size lim jj.length s B la pa (jj.length,q2,k2+1,b2))]),(True->Bn [wr .i64 (y0+1)=z9,Bn [z6=z6,Zz,Zz,Zz,Zz,z0=z0,Zz,Zz,z0=z0,z9=z9],An [z1=z1,TT 2],y8,An [z2=z2,TT 2],y9,An [z8=z8,HfL z8],An [y1=y1,HfE y1,Sm (k2+1)],Bn [An [Sm jj.length,y2=y2],An [Sm cs.length,z7=z7],y7,Tt,Bn [Zz,Sm (k2+1)]],Bn [Zz],An [z4=z4,HfL z4],An [z5=z5,HfL z5],Bn [y7,y7],An [z3=z3,HfL z3]])])
  | succ k =>
   cases k2 with
   |zero=>exact absurd hmono o_
   |succ k2=>
    skip
    refine .inl ⟨(s+1,q2,(k2+1),sB s b2 B,sL s b2 la,sP s b2 pa),[0,1,2,3,4,5,6,7,8,9,10,14],[yes 41,(0,.loop [0,1,2,3,4,5,6,7,8,9,10,12,13,14,11] (vSx jj cs F size lim jj.length s B la pa (0,q,(k+1),none)) [(True,.exit 2,vSx jj cs F size lim jj.length s B la pa (jj.length,q2,(k2+1),b2))]),nu 72 ((s+1:Nat):Int)],1000,⟨hlt,eA2,eB2,eL2,eP2⟩,by dsimp only;omega,?_⟩
    exact v_ (p:=let y9:=An [Zz,Sm size,Sm (size-size)];let x0:=Bn [Sm [V.nilp],Tt];let x1:=Bn [Sm [i6 0],Tt];let z0:=(size:Int);let z1:=[sl jj,gC cs];let z2:=[V.nils,V.nils];let z3:=bF (scF F q2) (k2+1);let z4:=bF (scF F q) (k+1);let z5:=nF (sL s b2 la) size;let z6:=uF (sP s b2 pa) size;let z7:=(lim:Int);let z8:=List.map sl cs;let z9:=bF (sB s b2 B) size;let y0:=(↑(s+1):Int);let y1:=(s:Int);let y2:=Ak q2 (k2+1);let y3:=Ak q (k+1);let y4:=Ab jj;let y5:=nF (sL s none la) size;let y6:=uF (sP s none pa) size;let y7:=(jj.length:Int);let y8:=bF (sB s none B) size;Bn [decide (y1<z0)=true,Bn [Bn [z7=z7,Zz,Zz,Zz,Zz,z0=z0,Zz,Zz,Zz,Zz,Zz,z0=z0,y1=y1,y7=y7,((0:Nat):Int)=(0:Int)],An [z1=z1,TT 2],x0,An [z2=z2,TT 2],x1,An [y8=bF B size,HfL y8],An [y3=y3,HfE y3,Sm (k+1)],Bn [An [Sm jj.length,y4=y4],An [Sm cs.length,z8=z8],y9,Tt,Bn [Zz,Sm (k+1)]],Bn [Zz],An [y5=nF la size,HfL y5],An [y6=uF pa size,HfL y6],Bn [y9,y9],Bn [Sm [i6 s],Tt],Bn [[V.bool (Qaw none)]=[V.bool false],Tt],Bn [Bn [Zz,Zz,Zz,Zz]],An [z4=z4,HfL z4]],Sat Pg none 0 (at' 19 [1,1,1,1,1,0,1,0,0,1,1,0,0,1,1,1,1,0]) (Ah g0 75 (vSx jj cs F size lim jj.length s B la pa (0,q,k+1,none))) (Qaf g0 75 [(True,Ex.exit 2,vSx jj cs F size lim jj.length s B la pa (jj.length,q2,k2+1,b2))]),(True->Bn [wr .i64 (y1+1)=y0,Bn [z7=z7,Zz,Zz,Zz,Zz,z0=z0,Zz,Zz,z0=z0,y0=y0],An [z1=z1,TT 2],x0,An [z2=z2,TT 2],x1,An [z9=z9,HfL z9],An [y2=y2,HfE y2,Sm (k2+1)],Bn [An [Sm jj.length,y4=y4],An [Sm cs.length,z8=z8],y9,Tt,Bn [Zz,Sm (k2+1)]],Bn [Zz],An [z5=z5,HfL z5],An [z6=z6,HfL z6],Bn [y9,y9],An [z3=z3,HfL z3]])])
 ·have he : s = size := by omega
  subst he
  rw[eA]at hA
  rw[eB]at hB1
  rw[eL]at jb
  rw[eP]at jc
  obtain⟨rfl,rfl⟩:=Prod.mk.inj hA
  subst hB1 jb jc
  clear h hA eA eB eL eP
  cases k with
  |zero=>
   skip
   refine .inr ⟨.exit 0,[0,1,2,3,4,5,6,7,8,9,10],_,[no 41],1000,.inl ⟨trivial,rfl,rfl⟩,?_⟩
   exact v_ (p:=let z0:=(s:Int);Bn [decide (z0<z0)=false,Bn [Sm (lim:Int),Zz,Zz,Zz,Zz,z0=z0,Zz,Zz,z0=z0,z0=z0],An [Sm [sl jj,gC cs],TT 2],Bn [Sm [V.nilp],Tt],An [Sm [V.nils,V.nils],TT 2],Bn [Sm [i6 0],Tt],An [Sm (bF B s),HfL (bF B s)],An [Sm (Ak q 0),HfE (Ak q 0),Zz],An [An [Sm jj.length,Sm (Ab jj)],An [Sm cs.length,Sm (List.map sl cs)],An [Zz,s=s,Sm (s-s)],TT 2],Bn [Zz],An [Sm (nF la s),HfL (nF la s)],An [Sm (uF pa s),HfL (uF pa s)],Bn [An [Zz,s=s,Sm (s-s)],An [Zz,s=s,Sm (s-s)]]])
  |succ k=>
   skip
   refine .inr ⟨.exit 0,[0,1,2,3,4,5,6,7,8,9,10,11],_,[no 41],1000,.inl ⟨trivial,rfl,rfl⟩,?_⟩
   exact v_ (p:=let z0:=(s:Int);let z1:=bF (scF F q) (k+1);let z2:=Ak q (k+1);Bn [decide (z0<z0)=false,Bn [Sm (lim:Int),Zz,Zz,Zz,Zz,z0=z0,Zz,Zz,z0=z0,z0=z0],An [Sm [sl jj,gC cs],TT 2],Bn [Sm [V.nilp],Tt],An [Sm [V.nils,V.nils],TT 2],Bn [Sm [i6 0],Tt],An [Sm (bF B s),HfL (bF B s)],An [z2=z2,HfE z2,Sm (k+1)],Bn [An [Sm jj.length,Sm (Ab jj)],An [Sm cs.length,Sm (List.map sl cs)],An [Zz,s=s,Sm (s-s)],Tt,Bn [Zz,Sm (k+1)]],Bn [Zz],An [Sm (nF la s),HfL (nF la s)],An [Sm (uF pa s),HfL (uF pa s)],Bn [An [Zz,s=s,Sm (s-s)],An [Zz,s=s,Sm (s-s)]],An [z1=z1,HfL z1]])
set_option maxHeartbeats 4000000
set_option maxRecDepth 100000
theorem Qga(jj:List Int)(cs:List (List Int))(lim:Int)(hl1:jj.length<=1000)(hl2:cs.length<=1000)(e:Int)(he:B8 jj cs lim=e)(h0:e≠0):Ac Pg g0 19 [gV jj cs,i6 lim] (.tup [.nilp,.agg [.nils,.nils],i6 e]):=by
 have hd:=Qlp jj cs lim hl1 hl2
 rw[he]at hd
 have hg:=Qap cs
 have hc:=Qag jj
 refine Ac.of_vc vE_ok Af Qaa (n:=1000) (r:=[1,2,3]) (S:={sl:=[(4,.ptr 0 0),(5,.ptr 1 0),(6,.ptr 2 0)],os:=[.row 65 none [.nilp],.row 43 none [.nils,.nils],.row 38 none [i6 e]]}) (hs:=[fn 19 (i6 e),yes 21]) ?_
 exact v_ (p:=Bn [Sm (V.tup [V.nilp,V.agg [V.nils,V.nils],i6 e]),Bn [TT 2,Tt],Ac Pg g0 34 [V.agg [V.im jj.length (Ab jj),V.im cs.length (List.map sl cs)],i6 lim] (i6 e),Tt,(e != 0)=true,Bn [Zz,Zz,Zz],Bn [Sm [V.nilp],Tt],An [Sm [V.nils,V.nils],TT 2],Bn [Sm [i6 e],Tt]])
section
variable (jj:List Int) (cs:List (List Int)) (F:Nat->Nat->Nat->Int) (size:Nat) (q:Nat->Nat×Nat) (B:Nat->Nat->Int) (la pa:Nat->Nat) (k:Nat)
abbrev cbO:List O:=[.row 37 none (bF B size),.map (Ak q (k+1)) (k+1),.row 70 none (toC jj cs size 0 1 5 (k+1)),.row 3 none (nF la size),.row 72 none (uF pa size),scO F q k]
abbrev cbL:V:=.agg [.sl 3 0 size (some (size-size)),.sl 4 0 size (some (size-size))]
abbrev cbV:V:=.tup [.ptr 2 0,cbL size,i6 0]
end
theorem cb_sc(jj:List Int)(cs:List (List Int))(F:Nat->Nat->Nat->Int)(size:Nat)(q:Nat->Nat×Nat)(B:Nat->Nat->Int)(la pa:Nat->Nat)(k:Nat): ∀o∈cbO jj cs F size q B la pa k,ScO (fun i=>i<6) o:=by
 intro o ho
 simp only[List.mem_cons,List.not_mem_nil,or_false]at ho
 rcases ho with rfl|rfl|rfl|rfl|rfl|rfl
 ·exact HfL.sc _ (Qab _ _)
 ·exact HfE.sc _ (Qae _ _)
 ·exact⟨trivial,trivial,(show 0<6 by decide),(show 1<6 by decide),(show 5<6 by decide),trivial⟩
 ·exact HfL.sc _ (Qai _ _)
 ·exact HfL.sc _ (Qaj _ _)
 ·exact HfL.sc _ (Qab _ _)
theorem pow_len{n:Nat}(h:n<=5): ∀(G:Ctx)(t:Nat),Ai G .shl t (i6 1) (i6 (n:Int))=some (i6 ((2^n:Nat):Int)):=fun G t=>Qlq o_
theorem rep_bF(n:Nat):rep n (arF Qah)=bF (fun _=>Qah) n:=Qg8 n
theorem Qs8(n:Nat):rep n [i6 0]=nF (fun _=>0) n:=Qg8 n
theorem Qs9(n:Nat):rep n [u6 0]=uF (fun _=>0) n:=Qg8 n
theorem Qb8{jj:List Int}{cs:List (List Int)}{lim:Int}(h:B8 jj cs lim=0):Bx jj cs=0/\1<=jj.length/\jj.length<=5/\0<=lim/\lim<=4/\cs.length<=40/\(∀c∈cs,c.length=jj.length):=by
 unfold B8 at h
 by_cases hg:Bx jj cs=0
 ·rw [if_pos hg] at h
  have h2: ¬(5<jj.length\/lim<0\/4<lim):=fun hh=>by rw[if_pos hh]at h;cases h
  have hok:B5 jj cs=true:=by
   unfold Bx at hg
   cases hh:B5 jj cs with
   |true=>rfl
   |false=>rw[hh]at hg;simp at hg
  have hb:decide (1<=jj.length)=true/\decide (jj.length<=6)=true/\decide (cs.length<=40)=true/\Er jj=true/\decide (Ar jj jj.length<=1024)=true/\cs.all (Bd jj)=true:=by
   unfold B5 at hok
   simpa [Bool.and_eq_true]using hok
  refine⟨hg,of_decide_eq_true hb.1,by omega,by omega,by omega,of_decide_eq_true hb.2.2.1,fun c hcm=>?_⟩
  have:=List.all_eq_true.1 hb.2.2.2.2.2 c hcm
  unfold Bd at this
  rw[Bool.and_eq_true]at this
  exact of_decide_eq_true this.1
 ·rw [if_neg hg] at h
  exact absurd h hg
theorem Qfm(jj:List Int)(cs:List (List Int))(lim:Nat)(he:B8 jj cs (lim:Int)=0):
  ∃(q:Nat->Nat×Nat)(k:Nat),k<=100000/\Aa Pg g0 (.fn 19 []) [gV jj cs,i6 (lim:Int)] (Ae .e 0 []) 0 ⟨cbV (2^jj.length),Ae .e 0 (cbO jj cs (fF jj cs) (2^jj.length) q (A8 jj.length lim (fF jj cs) (2^jj.length)) (laT jj.length lim (fF jj cs) (2^jj.length)) (paT jj.length lim (fF jj cs) (2^jj.length)) k),6,[]⟩:=by
 obtain⟨hg0,hn1,hn5,_,_,hl2,hcl⟩:=Qb8 he
 have hd:=Qlp jj cs (lim:Int) o_ o_
 rw[he]at hd
 have hg:=Qap cs
 have hc:=Qag jj
 have hp2:=pow_len hn5
 have h32:=Qa1 hn5
 have hk0:=Qng jj.length lim hn1 (2^jj.length) (Nat.le_trans d_ (Nat.pow_le_pow_right (show 0<2 by decide) hn1))
 have jp:1<=2^jj.length:=Nat.pow_pos d_
 have hkb:=Ql5 jj.length lim hn5 (2^jj.length) h32
 generalize hA:Ei jj.length lim (2^jj.length)=z at hk0 hkb
 obtain⟨q1,k1⟩:=z
 cases k1 with
 |zero=>exact absurd (show 1<=0 from hk0) d_
 | succ k =>
  have hkb':k<=100000:=by dsimp only at hkb;omega
  have l:=Qth jj cs hl2 (fun c h=>by rw[hcl c h];omega) hg0 hn1 hn5 lim (fF jj cs) rfl jj.length rfl (2^jj.length) rfl q1 (k+1) hA _ rfl _ rfl _ rfl
  generalize A8 jj.length lim (fF jj cs) (2^jj.length)=B at*
  generalize laT jj.length lim (fF jj cs) (2^jj.length)=la at*
  generalize paT jj.length lim (fF jj cs) (2^jj.length)=pa at*
  generalize fF jj cs=F at*
  generalize 2^jj.length=size at*
  refine⟨q1,k,hkb',Aa.dropL (os1:=cbO jj cs F size q1 B la pa k) [.row 65 none [.ptr 2 0],.row 43 none [.sl 3 0 size (some (size-size)),.sl 4 0 size (some (size-size))],.row 38 none [i6 0]] ?_ (Nat.zero_le _) ⟨(show 2<6 by decide),⟨(show 3<6 by decide),(show 4<6 by decide),trivial⟩,trivial,trivial⟩ (cb_sc jj cs F size q1 B la pa k) (fun i hi _=>absurd hi (Nat.not_lt_zero _))⟩
  have hB:=Qab B size
  have hla:=Qai la size
  have hpa:=Qaj pa size
  have hE:=Qae q1 (k+1)
  have hS:=Qab (scF F q1) (k+1)
  have hr1:=rep_bF size
  have hr2:=Qs8 size
  have hr3:=Qs9 size
  have hB0:=Qab (fun _=>Qah) size
  have hla0:=Qai (fun _=>0) size
  have hpa0:=Qaj (fun _=>0) size
  clear hA he
  refine Aa.of_vcH (P:=Pg) (E:=vE) vE_ok Af Qaa (n:=1000) (f:=19) (os0:=[]) (ars:=[gV jj cs,i6 (lim:Int)]) (r:=[4,5,6,8,9,11,1,2,3])
   (S:={sl:=[(4,.ptr 6 0),(5,.ptr 7 0),(6,.ptr 8 0)],os:=cbO jj cs F size q1 B la pa k++[.row 65 none [.ptr 2 0],.row 43 none [.sl 3 0 size (some (size-size)),.sl 4 0 size (some (size-size))],.row 38 none [i6 0]],md:=[0,0,1,0,0,0,1,1]}) (v:=cbV size) (hs:=[fn 19 (i6 0),no 21,va 27 (i6 (size:Nat)),mk 30,mk 35,mk 37,(0,.loop [0,1,2,3,4,5,6,7,8,9,10] (sSx jj cs F size lim (0,(fun _=>(0,0)),0,(fun _=>Qah),(fun _=>0),(fun _=>0))) [(True,.exit 0,sSx jj cs F size lim (size,q1,k+1,B,la,pa))])]) (gl:=g0) (by simp) (fun i hi hno=>absurd hi (Nat.not_lt_zero _)) ?_
  exact v_ (p:=let z9:=An [Zz,Sm size,Sm (size-size)];let y0:=Bn [Sm [i6 0],Tt];let z0:=(size:Int);let z1:=List.map sl cs;let z2:=(9223372036854775807:Int);let z3:=(281474976710656:Int);let z4:=bF (scF F q1) (k+1);let z5:=(0:Int);let z6:=Ab jj;let z7:=Ak q1 (k+1);let z8:=some (size-size);Bn [V.tup [V.ptr 2 0,V.agg [V.sl 3 0 size z8,V.sl 4 0 size z8],i6 0]=cbV size,Bn [TT 2,Tt],Ac Pg g0 34 [V.agg [V.im jj.length z6,V.im cs.length z1],i6 lim] (i6 0),Tt,(z5 != z5)=false,Ai (Qac Pg) .shl 3 (i6 1) (i6 jj.length)=some (i6 size),An [z5<=z0,z0<=z0,((144:Nat):Int)*z0<=z3,z0<=z2],An [z5<=z0,z0<=z0,((8:Nat):Int)*z0<=z3,z0<=z2],An [z5<=z0,z0<=z0,((8:Nat):Int)*z0<=z3,z0<=z2],Bn [Bn [Sm (lim:Int),Zz,Zz,Zz,Zz,z0=z0,Zz,Zz,z0=z0,((0:Nat):Int)=z5],An [Sm [sl jj,gC cs],TT 2],Bn [Sm [V.nilp],Tt],An [Sm [V.nils,V.nils],TT 2],y0,An [bF (fun x=>Qah) size=rep size [i6 0,i6 0,i6 0,i6 0,i6 0,i6 0,i6 0,i6 0,i6 0,i6 0,i6 0,i6 0,i6 0,i6 0,i6 0,i6 0,i6 0,i6 0],HfL (bF (fun x=>Qah) size)],An [Ak (fun x=>(0,0)) 0=[],HfE (Ak (fun x=>(0,0)) 0),Zz],An [An [Sm jj.length,z6=z6],An [Sm cs.length,z1=z1],z9,TT 2],Bn [Zz],An [nF (fun x=>0) size=rep size [i6 0],HfL (nF (fun x=>0) size)],An [uF (fun x=>0) size=rep size [u6 0],HfL (uF (fun x=>0) size)],Bn [z9,z9]],Sat Pg none 0 (at' 19 [1,1,1,1,1,0,1,0]) (Ah g0 75 (sSx jj cs F size lim (0,fun x=>(0,0),0,fun x=>Qah,fun x=>0,fun x=>0))) (Qaf g0 75 [(True,Ex.exit 0,sSx jj cs F size lim (size,q1,k+1,B,la,pa))]),(True->Bn [Bn [Zz,Zz,Zz],An [Sm (bF B size),HfL (bF B size)],An [z7=z7,HfE z7,Sm (k+1)],Bn [An [Sm jj.length,z6=z6],An [Sm cs.length,z1=z1],z9,Tt,Bn [Zz,Sm (k+1)]],An [Sm (nF la size),HfL (nF la size)],An [Sm (uF pa size),HfL (uF pa size)],An [z4=z4,HfL z4],Bn [Zz],Bn [z9,z9],y0])])
set_option maxHeartbeats 4000000
set_option maxRecDepth 100000
abbrev ldV(size:Nat)(la pa:Nat->Nat):V:=.agg [.im size (nF la size),.im size (uF pa size)]
section
variable (jj:List Int) (cs:List (List Int)) (F:Nat->Nat->Nat->Int) (size:Nat) (q:Nat->Nat×Nat) (B:Nat->Nat->Int) (la pa:Nat->Nat) (k:Nat)
abbrev cbD:List O:=[.row 37 none (bF B size),.map (Ak q (k+1)) (k+1),.row 70 none (toC jj cs size 2 3 7 (k+1)),.row 3 none (nF la size),.row 72 none (uF pa size),scO F q k]
abbrev cbW:V:=.tup [.ptr 4 0,.agg [.sl 5 0 size (some (size-size)),.sl 6 0 size (some (size-size))],i6 0]
end
theorem Qkk(o:O)(ho:o= .row 37 none (arF Qah)\/o= .row 43 none [.nils,.nils])(jj:List Int)(cs:List (List Int))(F:Nat->Nat->Nat->Int)(size:Nat)(q:Nat->Nat×Nat)(B:Nat->Nat->Int)(la pa:Nat->Nat)(k lim:Nat)
  (h:Aa Pg g0 (.fn 19 []) [gV jj cs,i6 (lim:Int)] (Ae .e 0 []) 0 ⟨cbV size,Ae .e 0 (cbO jj cs F size q B la pa k),6,[]⟩):
  Aa Pg g0 (.fn 19 []) [gV jj cs,i6 (lim:Int)] (Ae .e 0 [gO jj cs,o]) 2 ⟨cbW size,Ae .e 0 ([gO jj cs,o]++cbD jj cs F size q B la pa k),8,[]⟩:=by
 have hB:=Qab B size
 have hla:=Qai la size
 have hpa:=Qaj pa size
 have hE:=Qae q (k+1)
 have hS:=Qab (scF F q) (k+1)
 have hg:=Qap cs
 have hc:=Qag jj
 rcases ho with rfl|rfl
 all_goals
  refine Aa.frameL (OS:=[gO jj cs,_]) (OS':=[gO jj cs,_]++cbD jj cs F size q B la pa k) [] [(2,0),(3,1),(4,2),(5,3),(6,4),(7,5)] [] [0,0,0,0,1] h k_ ?_ ?_ ?_ ?_
 ·refine Eq.mp (by kernel_rfl : (An [An [An [Sm jj.length, Sm (Ab jj)], An [Sm cs.length, Sm (List.map sl cs)], Tt], Sm (↑lim : Int), Tt]) = _) ?_
  exact a_
 ·refine Eq.mp (by kernel_rfl : (Tt) = _) ?_
  exact a_
 ·refine Eq.mp (by kernel_rfl : (let z0 := An [Zz, Sm size, Sm (size - size)]; An [Zz, An [z0, z0, Tt], Sm (0 : Int), Tt]) = _) ?_
  exact a_
 ·refine Eq.mp (by kernel_rfl : (let z0 := O.row 37 none (arF Qah); let z1 := gO jj cs; let z2 := bF (scF F q) (k + 1); let z3 := Ak q (k + 1); An [[z1, z0][0]? = some z1, [z1, z0][0]? = some z1, [z1, z0][1]? = some z0, [z1, z0][1]? = some z0, Tt, An [Sm (bF B size), HfL (bF B size)], Tt, An [z3 = z3, HfE z3, Sm (k + 1)], Tt, An [An [Sm jj.length, Sm (Ab jj)], An [Sm cs.length, Sm (List.map sl cs)], An [Zz, Sm size, Sm (size - size)], Tt, An [Zz, Sm (k + 1), Tt], Tt], Tt, An [Sm (nF la size), HfL (nF la size)], Tt, An [Sm (uF pa size), HfL (uF pa size)], Tt, An [z2 = z2, HfL z2], Tt]) = _) ?_
  exact a_
 ·refine Eq.mp (by kernel_rfl : (An [An [An [Sm jj.length, Sm (Ab jj)], An [Sm cs.length, Sm (List.map sl cs)], Tt], Sm (↑lim : Int), Tt]) = _) ?_
  exact a_
 ·refine Eq.mp (by kernel_rfl : (Tt) = _) ?_
  exact a_
 ·refine Eq.mp (by kernel_rfl : (let z0 := An [Zz, Sm size, Sm (size - size)]; An [Zz, An [z0, z0, Tt], Sm (0 : Int), Tt]) = _) ?_
  exact a_
 ·refine Eq.mp (by kernel_rfl : (let z0 := O.row 43 none [V.nils, V.nils]; let z1 := gO jj cs; let z2 := bF (scF F q) (k + 1); let z3 := Ak q (k + 1); An [[z1, z0][0]? = some z1, [z1, z0][0]? = some z1, [z1, z0][1]? = some z0, [z1, z0][1]? = some z0, Tt, An [Sm (bF B size), HfL (bF B size)], Tt, An [z3 = z3, HfE z3, Sm (k + 1)], Tt, An [An [Sm jj.length, Sm (Ab jj)], An [Sm cs.length, Sm (List.map sl cs)], An [Zz, Sm size, Sm (size - size)], Tt, An [Zz, Sm (k + 1), Tt], Tt], Tt, An [Sm (nF la size), HfL (nF la size)], Tt, An [Sm (uF pa size), HfL (uF pa size)], Tt, An [z2 = z2, HfL z2], Tt]) = _) ?_
  exact a_
theorem top_bad(jj:List Int)(cs:List (List Int))(lim:Int)(hl1:jj.length<=1000)(hl2:cs.length<=1000)(e:Int)(he:B8 jj cs lim=e)(h0:e≠0):Ac Pg g0 8 [gV jj cs,i6 lim] (.tup [ar Qah,i6 e]):=by
 have hd:=Qga jj cs lim hl1 hl2 e he h0
 have hg:=Qap cs
 have hc:=Qag jj
 refine Ac.of_vc vE_ok Af Qaa (n:=1000) (r:=[1]) (S:={sl:=[(4,.ptr 0 0),(5,i6 e)],os:=[.row 37 none (arF Qah)]}) (hs:=[fn 12 (.tup [.nilp,.agg [.nils,.nils],i6 e]),yes 17]) ?_
 exact v_ (p:=Bn [V.tup [V.agg (arF Qah),i6 e]=V.tup [ar Qah,i6 e],Bn [TT 2,Tt],Ac Pg g0 19 [V.agg [V.im jj.length (Ab jj),V.im cs.length (List.map sl cs)],i6 lim] (V.tup [V.nilp,V.agg [V.nils,V.nils],i6 e]),Tt,(e != 0)=true,Bn [Zz,e=e],An [arF Qah=[i6 0,i6 0,i6 0,i6 0,i6 0,i6 0,i6 0,i6 0,i6 0,i6 0,i6 0,i6 0,i6 0,i6 0,i6 0,i6 0,i6 0,i6 0],TT 18]])
theorem Gl(jj:List Int)(cs:List (List Int))(lim:Nat)(he:B8 jj cs (lim:Int)=0):Ac Pg g0 8 [gV jj cs,i6 (lim:Int)] (.tup [ar (Cl jj.length lim (fF jj cs) (2^jj.length-1)),i6 0]):=by
 obtain⟨hg0,hn1,hn5,_,_,hl2,hcl⟩:=Qb8 he
 obtain⟨q,k,_,h⟩:=Qfm jj cs lim he
 have jp:1<=2^jj.length:=Nat.pow_pos d_
 have h32:=Qa1 hn5
 have e1:=Qbp (n:=jj.length) (lim:=lim) (F:=fF jj cs) (2^jj.length) (2^jj.length-1)
 rw[if_pos o_]at e1
 rw[<-e1]
 clear e1
 generalize A8 jj.length lim (fF jj cs) (2^jj.length)=B at*
 generalize laT jj.length lim (fF jj cs) (2^jj.length)=la at*
 generalize paT jj.length lim (fF jj cs) (2^jj.length)=pa at*
 generalize fF jj cs=F at*
 generalize 2^jj.length=size at*
 have hcall:=Qkk (.row 37 none (arF Qah)) (.inl rfl) jj cs F size q B la pa k lim h
 have hB:=Qab B size
 have hla:=Qai la size
 have hpa:=Qaj pa size
 have hE:=Qae q (k+1)
 have hS:=Qab (scF F q) (k+1)
 have hg:=Qap cs
 have hc:=Qag jj
 have htk:=@Qa9 B size (size-1) o_
 generalize hj:size-1=j at*
 have hjs:((size:Int)-1)=(j:Int):=by omega
 clear h he
 refine Ac.of_vc vE_ok Af Qaa (n:=1000) (r:=[1]) (S:={sl:=[(4,.ptr 0 0),(5,i6 0)],os:=[.row 37 none (arF (B j))]}) (hs:=[(12,.call ⟨cbW size,Ae .e 0 ([gO jj cs,.row 37 none (arF Qah)]++cbD jj cs F size q B la pa k),8,[]⟩),no 17,nu 29 (j:Nat),pl 30,ld 31 (ar (B j))]) ?_
 exact v_ (p:=let z0:=(0:Int);let z1:=arF (B j);let z2:=(j:Int);Bn [V.tup [V.agg z1,i6 0]=V.tup [ar (B j),i6 0],Aa Pg g0 (V.fn 19 []) [V.agg [sl jj,gC cs],i6 lim] (pt (pt T.e 0 (O.row 31 none [sl jj,gC cs])) 1 (O.row 37 none [i6 0,i6 0,i6 0,i6 0,i6 0,i6 0,i6 0,i6 0,i6 0,i6 0,i6 0,i6 0,i6 0,i6 0,i6 0,i6 0,i6 0,i6 0])) 2 (CR.mk (cbW size) (Ae T.e 0 ([gO jj cs,O.row 37 none (arF Qah)]++cbD jj cs F size q B la pa k)) 8 []),Tt,(z0 != z0)=false,wr .i64 ((size:Int)-1)=z2,An [z0<=z2,z2<(size:Int)],A6 18 (Aj (0+j*18) (bF B size))=some z1,Bn [Zz,z0=z0],An [z1=z1,TT 18]])
theorem Qtn(jj:List Int)(cs:List (List Int))(lim:Int)(hl1:jj.length<=1000)(hl2:cs.length<=1000)(e:Int)(he:B8 jj cs lim=e)(h0:e≠0):Ac Pg g0 9 [gV jj cs,i6 lim] (.tup [.agg [.nils,.nils],i6 e]):=by
 have hd:=Qga jj cs lim hl1 hl2 e he h0
 have hg:=Qap cs
 have hc:=Qag jj
 refine Ac.of_vc vE_ok Af Qaa (n:=1000) (r:=[1]) (S:={sl:=[(4,.ptr 0 0),(5,i6 e)],os:=[.row 43 none [.nils,.nils]]}) (hs:=[fn 12 (.tup [.nilp,.agg [.nils,.nils],i6 e])]) ?_
 exact v_ (p:=let z0:=[V.nils,V.nils];Bn [Sm (V.tup [V.agg z0,i6 e]),Bn [TT 2,Tt],Ac Pg g0 19 [V.agg [V.im jj.length (Ab jj),V.im cs.length (List.map sl cs)],i6 lim] (V.tup [V.nilp,V.agg z0,i6 e]),Tt,Bn [Zz,e=e],An [Sm z0,TT 2]])
theorem Gw(jj:List Int)(cs:List (List Int))(lim:Nat)(he:B8 jj cs (lim:Int)=0):Ac Pg g0 9 [gV jj cs,i6 (lim:Int)] (.tup [ldV (2^jj.length) (laT jj.length lim (fF jj cs) (2^jj.length)) (paT jj.length lim (fF jj cs) (2^jj.length)),i6 0]):=by
 obtain⟨q,k,_,h⟩:=Qfm jj cs lim he
 generalize A8 jj.length lim (fF jj cs) (2^jj.length)=B at*
 generalize laT jj.length lim (fF jj cs) (2^jj.length)=la at*
 generalize paT jj.length lim (fF jj cs) (2^jj.length)=pa at*
 generalize fF jj cs=F at*
 generalize 2^jj.length=size at*
 have hcall:=Qkk (.row 43 none [.nils,.nils]) (.inr rfl) jj cs F size q B la pa k lim h
 have hB:=Qab B size
 have hla:=Qai la size
 have hpa:=Qaj pa size
 have hE:=Qae q (k+1)
 have hS:=Qab (scF F q) (k+1)
 have hg:=Qap cs
 have hc:=Qag jj
 clear h he
 refine Ac.of_vc vE_ok Af Qaa (n:=1000) (r:=[1]) (S:={sl:=[(4,.ptr 0 0),(5,i6 0)],os:=[.row 43 none [.im size (nF la size),.im size (uF pa size)]],md:=[1]}) (hs:=[(12,.call ⟨cbW size,Ae .e 0 ([gO jj cs,.row 43 none [.nils,.nils]]++cbD jj cs F size q B la pa k),8,[]⟩)]) ?_
 exact v_ (p:=let z0:=O.row 43 none [V.nils,V.nils];let z1:=nF la size;let z2:=uF pa size;Bn [V.tup [V.agg [V.im size z1,V.im size z2],i6 0]=V.tup [ldV size la pa,i6 0],Aa Pg g0 (V.fn 19 []) [V.agg [sl jj,gC cs],i6 lim] (pt (pt T.e 0 (O.row 31 none [sl jj,gC cs])) 1 z0) 2 (CR.mk (cbW size) (Ae T.e 0 ([gO jj cs,z0]++cbD jj cs F size q B la pa k)) 8 []),Tt,Bn [Zz,Sm (0:Int)],Bn [An [Sm size,z1=z1,HfL z1],An [Sm size,z2=z2,HfL z2]]])
end Go.Proofs.YtakfneapahohkaaDoor.Am
namespace Go.Proofs.YtakfneapahohkaaDoor.Am.GG
end Go.Proofs.YtakfneapahohkaaDoor.Am.GG
namespace Go.Proofs.YtakfneapahohkaaDoor.Am
open Go.RowKit
set_option maxHeartbeats 1000000
set_option maxRecDepth 100000
theorem Qli(x:Nat):BitVec.ofInt 64 (x:Int)=BitVec.ofNat 64 x:=by
 apply BitVec.eq_of_toNat_eq
 rw[BitVec.toNat_ofInt,BitVec.toNat_ofNat];omega
theorem wrapn{z:Nat}(h:z<18446744073709551616):IntKind.u64.wrap ((z:Nat):Int)=(z:Int):=by
 rw[<-Dw];exact Qei (by simp[lo]) (by simp[hi];omega)
theorem Qiu{G:Ctx}{t:Nat}{x y:Nat}(hx:x<18446744073709551616)(hy:y<18446744073709551616): ∃z:Nat,Ai G .andNot t (u6 (x:Int)) (u6 (y:Int))=some (u6 (z:Int))/\z<18446744073709551616/\(z=0↔∀b,x.testBit b=true->y.testBit b=true):=by
 have h:(BitVec.ofInt 64 (x:Int)&&& ~~~BitVec.ofInt 64 (y:Int)).toNat=x&&& (2^64-(y+1)):=by
  rw[Qli,Qli,BitVec.toNat_and,BitVec.toNat_not,BitVec.toNat_ofNat,BitVec.toNat_ofNat,Nat.mod_eq_of_lt hx,Nat.mod_eq_of_lt hy]
  congr 1;omega
 have hz:x&&& (2^64-(y+1))<2^64:=Nat.and_lt_two_pow _ o_
 refine⟨x&&& (2^64-(y+1)),?_,hz,?_⟩
 ·have e : Ai G .andNot t (u6 (x : Int)) (u6 (y : Int)) = some (.int .u64 (IntKind.u64.wrap ((BitVec.ofInt 64 (x : Int) &&& ~~~BitVec.ofInt 64 (y : Int)).toNat : Int))) := rfl
  rw[e,h,wrapn hz]
 ·have hb : ∀ b, (x &&& (2 ^ 64 - (y + 1))).testBit b = (x.testBit b && !y.testBit b) := fun b => by
   rw[Nat.testBit_and,Nat.testBit_two_pow_sub_succ hy]
   by_cases hb:b<64
   ·simp[hb]
   ·have : x.testBit b = false := Nat.testBit_lt_two_pow (Nat.lt_of_lt_of_le (show x < 2 ^ 64 from hx) (Nat.pow_le_pow_right (show 0 < 2 by omega) (show 64 <= b by omega)))
    simp[this]
  constructor
  ·intro h0 b hxb
   have:=hb b
   rw[h0,Nat.zero_testBit,hxb]at this
   simpa using this.symm
  ·intro jf
   apply Nat.eq_of_testBit_eq
   intro b
   rw[hb,Nat.zero_testBit]
   cases hxb:x.testBit b with
   |false=>rfl
   |true=>rw[jf b hxb];rfl
theorem bit_div(x k:Nat):x.testBit k=decide (x/2^k%2=1):=Nat.testBit_eq_decide_div_mod_eq
def ut(l:List Nat):List V:=l.map fun(x:Nat)=>u6 (x:Int)
abbrev ul(l:List Nat):V:=.im l.length (ut l)
theorem Qed{l:List Nat}{k:Nat}(h:k<l.length):Ad ((ut l).drop (k*1))=some (u6 ((l.getD k 0:Nat):Int)):=by
 unfold ut
 rw[List.getD_eq_getElem?_getD,List.getElem?_eq_getElem h]
 exact Qbg (List.getElem?_eq_getElem h)
theorem Qas(l:List Nat):HfL (ut l):=Qca _ l (fun _=>trivial)
def S64(l:List Nat):Prop:=∀x∈l,x<18446744073709551616
theorem S64.get{l:List Nat}(h:S64 l)(k:Nat):l.getD k 0<18446744073709551616:=by
 rw[List.getD_eq_getElem?_getD]
 cases hx:l[k]? with
 |none=>decide
 |some x=>exact h x (List.mem_of_getElem? hx)
set_option maxHeartbeats 4000000
abbrev lV(L:List Int)(P:List Nat):V:=.agg [sl L,ul P]
abbrev lO(L:List Int)(P:List Nat):O:=.row 43 none [sl L,ul P]
def isW(L:List Int)(P:List Nat)(w:Nat):Bool:=decide (L.length=2^w)&&decide (P.length=2^w)
def wdt(L:List Int)(P:List Nat):Nat:=match[1,2,3,4,5].find? (isW L P)with
 |some w=>w
 |none=>0
theorem Qcn{L:List Int}{P:List Nat}{w:Nat}:isW L P w=true↔L.length=2^w/\P.length=2^w:=by
 unfold isW;rw[Bool.and_eq_true,decide_eq_true_eq,decide_eq_true_eq]
theorem isW_inj{L:List Int}{P:List Nat}{v w:Nat}(h:isW L P v=true)(k:isW L P w=true):v=w:=by
 have h1:=(Qcn.1 h).1
 have h2:=(Qcn.1 k).1
 rw[h1]at h2
 rcases Nat.lt_trichotomy v w with h'|h'|h'
 ·have:=Nat.pow_lt_pow_right (show 1<2 by decide) h';omega
 ·exact h'
 ·have:=Nat.pow_lt_pow_right (show 1<2 by decide) h';omega
theorem Qfs(L:List Int)(P:List Nat):wdt L P<=5/\(1<=wdt L P->isW L P (wdt L P)=true)/\(∀j,1<=j->j<=5->isW L P j=true->wdt L P=j):=by
 unfold wdt
 cases hf:[1,2,3,4,5].find? (isW L P)with
 |none=>
  have:=List.find?_eq_none.1 hf
  refine⟨Nat.zero_le _,fun h=>absurd h d_,fun j h1 h5 h=>?_⟩
  exact absurd h (this j (by simp;omega))
 |some w=>
  have h1:=List.find?_some hf
  have h2:=List.mem_of_find?_eq_some hf
  refine⟨by simp at h2;dsimp only;omega,fun _=>h1,fun j _ _ h=>isW_inj h1 h⟩
theorem Qmv(k:Nat)(hk:k<16): ∀(G:Ctx)(t:Nat),Ai G .shl t (i6 1) (i6 (k:Int))=some (i6 ((2^k:Nat):Int)):=fun G t=>Qlq hk
abbrev vbS(L:List Int)(P:List Nat)(k:Nat):SL:={sl:=[(1,.ptr 0 0),(3,i6 (k:Nat))],os:=[lO L P]}
abbrev i2(n:Int):SL:={sl:=[(2,i6 n)]}
theorem Qbh{a b:Nat}:((a:Int)==(b:Int))=decide (a=b):=by
 by_cases h:a=b
 ·subst h;simp
 ·rw[decide_eq_false h,beq_eq_false_iff_ne];omega
theorem vb_loop(L:List Int)(P:List Nat):Sat Pg none 0 (at' 31 [1,0,1,0]) (Ah g0 23 (vbS L P 1)) (Qaf g0 23 [(1<=wdt L P,.ret,i2 (wdt L P:Nat)),(wdt L P=0,.exit 0,{sl:=[]})]):=by
 have hu:=Qas P
 obtain⟨w5,w1,w0⟩:=Qfs L P
 refine Qax vE_ok Af Qaa (b:=at' 31 [1,0,1,0,0]) k_ (fun k=>1<=k/\k<=6/\(1<=wdt L P->k<=wdt L P)) (vbS L P) (fun k=>6-k) (fun k hk=>?_) 1 ⟨by decide,by decide,fun h=>h⟩
 obtain⟨h1,h6,hle⟩:=hk
 by_cases h5:k<=5
 ·have hs := Qmv k o_
  by_cases a:L.length=2^k
  ·by_cases b : P.length = 2 ^ k
   ·have e := w0 k h1 h5 (Qcn.2 ⟨a, b⟩)
    have ha:((L.length:Int)==((2^k:Nat):Int))=true:=by rw[Qbh,decide_eq_true a]
    have hb:((P.length:Int)==((2^k:Nat):Int))=true:=by rw[Qbh,decide_eq_true b]
    clear w0 w1 hle
    generalize wdt L P=w at*
    subst e
    generalize 2^w=z at*
    refine .inr ⟨.ret,[],i2 (w:Nat),[yes 5,va 12 (i6 (z:Nat)),yes 13,va 19 (i6 (z:Nat)),yes 20],1000,.inl ⟨h1,rfl,rfl⟩,?_⟩
    exact v_ (p:=let z0:=Ai (Qac Pg) .shl 3 (i6 1) (i6 w);let z1:=(w:Int);Bn [decide (z1<=5)=true,z0=some (i6 z),((L.length:Int)==(z:Int))=true,z0=some (i6 z),((P.length:Int)==(z:Int))=true,Bn [z1=z1]])
   ·have ha : ((L.length : Int) == ((2 ^ k : Nat) : Int)) = true := by rw [Qbh, decide_eq_true a]
    have hb:((P.length:Int)==((2^k:Nat):Int))=false:=by rw[Qbh,decide_eq_false b]
    have hw:wdt L P≠k:=fun e=>b (by have:=(Qcn.1 (w1 o_)).2;rw[e]at this;exact this)
    generalize 2^k=z at*
    refine .inl ⟨k+1,[0],[yes 5,va 12 (i6 (z:Nat)),yes 13,va 19 (i6 (z:Nat)),no 20,nu 7 ((k+1:Nat):Int)],1000,⟨by omega,by omega,fun h=>by have:=hle h;omega⟩,by omega,?_⟩
    clear w1 w0 hle hw
    exact v_ (p:=let z0:=Ai (Qac Pg) .shl 3 (i6 1) (i6 k);let z1:=(↑(k+1):Int);Bn [decide ((k:Int)<=5)=true,z0=some (i6 z),((L.length:Int)==(z:Int))=true,z0=some (i6 z),((P.length:Int)==(z:Int))=false,wr .i64 ((k:Int)+1)=z1,Bn [Zz,z1=z1],An [Sm [sl L,ul P],TT 2]])
  ·have ha : ((L.length : Int) == ((2 ^ k : Nat) : Int)) = false := by rw [Qbh, decide_eq_false a]
   have hw:wdt L P≠k:=fun e=>a (by have:=(Qcn.1 (w1 o_)).1;rw[e]at this;exact this)
   generalize 2^k=z at*
   refine .inl ⟨k+1,[0],[yes 5,va 12 (i6 (z:Nat)),no 13,nu 7 ((k+1:Nat):Int)],1000,⟨by omega,by omega,fun h=>by have:=hle h;omega⟩,by omega,?_⟩
   clear w1 w0 hle hw
   exact v_ (p:=Bn [decide ((k:Int)<=5)=true,Ai (Qac Pg) .shl 3 (i6 1) (i6 k)=some (i6 z),((L.length:Int)==(z:Int))=false,wr .i64 ((k:Int)+1)=(↑(k+1):Int),Bn [Zz,Sm (↑(k+1):Int)],An [Sm [sl L,ul P],TT 2]])
 ·have hz : wdt L P = 0 := by
   rcases Nat.eq_zero_or_pos (wdt L P)with h|h
   ·exact h
   ·have:=hle h;omega
  refine .inr ⟨.exit 0,[],{sl:=[]},[no 5],1000,.inr (.inl ⟨hz,rfl,rfl⟩),?_⟩
  clear w1 w0 hle hz
  exact v_ (p:=Bn [decide ((k:Int)<=5)=false,Tt])
theorem Qb2(L:List Int)(P:List Nat):Ac Pg g0 31 [lV L P] (i6 (wdt L P:Nat)):=by
 have hl:=vb_loop L P
 have hu:=Qas P
 rcases Nat.eq_zero_or_pos (wdt L P)with h|h
 ·have hl := hl.mono (Qbk o_ h)
  rw[h]
  refine Ac.of_vc vE_ok Af Qaa (n:=1000) (r:=[]) (S:=i2 0) (hs:=[(0,.loop [0] (vbS L P 1) [(True,.exit 0,{sl:=[]})])]) ?_
  exact v_ (p:=Bn [i6 0=i6 ↑(0:Nat),Bn [Bn [Zz,((1:Nat):Int)=(1:Int)],An [Sm [sl L,ul P],TT 2]],Sat Pg none 0 (at' 31 [1,0,1,0]) (Ah g0 23 (vbS L P 1)) (Qaf g0 23 [(True,Ex.exit 0,SL.mk [] [] [] [])]),(True->Bn [Bn [Sm (0:Int)]])])
 ·have hl := hl.mono (Qbj h o_)
  generalize wdt L P=w at*
  refine Ac.of_vc vE_ok Af Qaa (n:=1000) (r:=[]) (S:=i2 (w:Nat)) (hs:=[(0,.loop [0] (vbS L P 1) [(True,.ret,i2 (w:Nat))])]) ?_
  exact v_ (p:=Bn [Sm (i6 w),Bn [Bn [Zz,((1:Nat):Int)=(1:Int)],An [Sm [sl L,ul P],TT 2]],Sat Pg none 0 (at' 31 [1,0,1,0]) (Ah g0 23 (vbS L P 1)) (Qaf g0 23 [(True,Ex.ret,i2 (w:Int))]),(True->Bn [Bn [Sm (w:Int)]])])
def okS(L:List Int)(P:List Nat)(s:Nat):Bool:=decide (0<=L.getD s 0)&&(decide (L.getD s 0<5)&&(s.testBit (L.getD s 0).toNat&&decide (P.getD s 0&&& (s-2^(L.getD s 0).toNat)=P.getD s 0)))
def Ep(L:List Int)(P:List Nat):Bool:=(List.range L.length).all fun s=>decide (s=0)||okS L P s
def ok0(L:List Int)(P:List Nat):Bool:=decide (L.getD 0 0=0)&&decide (P.getD 0 0=0)
def Fl(L:List Int)(P:List Nat):Bool:=decide (1<=wdt L P)&&(ok0 L P&&Ep L P)
theorem Qmx{p w:Nat}:(∀b,p.testBit b=true->w.testBit b=true)↔p&&& w=p:=by
 constructor
 ·intro h
  apply Nat.eq_of_testBit_eq
  intro b
  rw[Nat.testBit_and]
  cases hb:p.testBit b with
  |false=>rfl
  |true=>rw[h b hb];rfl
 ·intro h b hb
  rw[<-h,Nat.testBit_and,Bool.and_eq_true]at hb
  exact hb.2
theorem wr_u{s:Nat}(h:s<32):wr .u64 (s:Int)=s:=Qei (by simp[lo]) (by simp[hi];omega)
abbrev ccS(L:List Int)(P:List Nat)(k:Nat):SL:={sl:=[(1,.ptr 0 0),(3,i6 (k:Nat))],os:=[lO L P]}
theorem cc_loop(L:List Int)(P:List Nat)(hP:S64 P)(jy:P.length=L.length)(h32:L.length<=32):
  Sat Pg none 0 (at' 30 [1,1,1,0,1,0]) (Ah g0 57 (ccS L P 1)) (Qaf g0 57 [(Ep L P=true,.exit 0,{sl:=[]}),(Ep L P=false,.ret,i2 290)]):=by
 have hu:=Qas P
 refine Qax vE_ok Af Qaa (b:=at' 30 [1,1,1,0,1,0,0]) k_ (fun k=>1<=k/\∀j,j<k->(decide (j=0)||okS L P j)=true) (ccS L P) (fun k=>L.length-k) (fun k hk=>?_) 1 ⟨Nat.le_refl _,fun j hj=>by rw[show j=0 by omega];rfl⟩
 obtain⟨hk1,hj⟩:=hk
 by_cases hlt:k<L.length
 ·have hld := @Qal L k hlt
  have hlp:=@Qed P k o_
  have jw:okS L P k=false->Ep L P=false:=fun h=>Qbb hlt (by rw[h,decide_eq_false o_];rfl)
  have jv:okS L P k=true->∀j,j<k+1->(decide (j=0)||okS L P j)=true:=fun h j hj1=>by
   rcases Nat.lt_succ_iff_lt_or_eq.1 hj1 with h2|h2
   ·exact hj j h2
   ·subst h2;rw[h,Bool.or_true]
  have hp64:=hP.get k
  unfold okS at jw jv
  generalize hp:P.getD k 0=p at*
  generalize hx:L.getD k 0=x at*
  clear hj hp hx
  by_cases h1:x<0
  ·have hb := jw (by rw [decide_eq_false o_]; rfl)
   refine .inr ⟨.ret,[],i2 290,[yes 24,pl 30,ld 31 (i6 x),yes 33],1000,.inr (.inl ⟨hb,rfl,rfl⟩),?_⟩
   exact v_ (p:=let z0:=(k:Int);Bn [decide (z0<(L.length:Int))=true,An [(0:Int)<=z0,z0<(L.length:Int)],Ad (List.drop (k*1) (Ab L))=some (i6 x),decide (x<0)=true,Bn [Sm (290:Int)]])
  ·by_cases h2 : x < 5
   ·rw [decide_eq_true (show 0 <= x by omega), decide_eq_true h2] at jw jv
    obtain⟨v,rfl⟩: ∃v:Nat,x=v:=⟨x.toNat,by omega⟩
    simp only[Int.toNat_natCast,Bool.true_and]at jw jv
    have hv:v<5:=by omega
    have s1:=fun G t=>@shr_i G t k v o_
    cases kw:k.testBit v with
    |false=>
     have hb:=jw (by rw[kw];rfl)
     have s2:=fun G t=>@Qnh G t k v 0 o_ hv d_ kw
     generalize k/2^v=z at*
     refine .inr ⟨.ret,[],i2 290,[yes 24,pl 30,ld 31 (i6 (v:Nat)),no 33,no 36,va 41 (i6 (z:Nat)),va 42 (i6 0),yes 43],1000,.inr (.inl ⟨hb,rfl,rfl⟩),?_⟩
     exact v_ (p:=let z0:=(0:Int);let z1:=(k:Int);Bn [decide (z1<(L.length:Int))=true,An [z0<=z1,z1<(L.length:Int)],Ad (List.drop (k*1) (Ab L))=some (i6 v),decide ((v:Int)<z0)=false,decide ((v:Int)>=5)=false,Ai (Qac Pg) .shr 3 (i6 k) (i6 v)=some (i6 z),Ai (Qac Pg) .and 3 (i6 z) (i6 1)=some (i6 0),(z0==z0)=true,Bn [Sm (290:Int)]])
    | true =>
     rw[kw]at jw jv
     have s2:=fun G t=>@Qnh G t k v 1 o_ hv d_ kw
     have s3:=fun G t=>@Qhe G t v o_
     have s4:=fun G t=>@Qqo G t k v o_ hv kw
     have hcv:=wr_u (show k<32 by omega)
     obtain⟨z',s5,_,hz⟩:=@Qiu (Qac Pg) 72 p (k-2^v) hp64 (by have:=Nat.sub_le k (2^v);omega)
     rw[Qmx]at hz
     by_cases h4:z'=0
     ·have hg := jv (by rw [decide_eq_true (hz.1 h4)]; rfl)
      subst h4
      clear jv jw hz
      generalize k-2^v=u at*
      generalize k/2^v=z at*
      generalize 2^v=y at*
      refine .inl ⟨k+1,[0],[yes 24,pl 30,ld 31 (i6 (v:Nat)),no 33,no 36,va 41 (i6 (z:Nat)),va 42 (i6 1),no 43,pl 48,ld 49 (u6 (p:Nat)),nu 51 (k:Int),va 53 (u6 (y:Nat)),va 54 (u6 (u:Nat)),va 55 (u6 ((0:Nat):Int)),no 56,nu 26 ((k+1:Nat):Int)],1000,⟨by omega,hg⟩,by omega,?_⟩
      clear hg
      exact v_ (p:=let z0:=(k:Int);let z1:=Qac Pg;let z2:=(↑(k+1):Int);let z3:=(0:Int);Bn [decide (z0<(L.length:Int))=true,An [z3<=z0,z0<(L.length:Int)],Ad (List.drop (k*1) (Ab L))=some (i6 v),decide ((v:Int)<z3)=false,decide ((v:Int)>=5)=false,Ai z1 .shr 3 (i6 k) (i6 v)=some (i6 z),Ai z1 .and 3 (i6 z) (i6 1)=some (i6 1),((1:Int)==z3)=false,An [z3<=z0,z0<(P.length:Int)],Ad (List.drop (k*1) (ut P))=some (u6 p),wr .u64 z0=z0,Ai z1 .shl 72 (u6 1) (i6 v)=some (u6 y),Ai z1 .andNot 72 (u6 k) (u6 y)=some (u6 u),Ai z1 .andNot 72 (u6 p) (u6 u)=some (u6 ↑(0:Nat)),(((0:Nat):Int) != z3)=false,wr .i64 (z0+1)=z2,Bn [Zz,z2=z2],An [Sm [sl L,ul P],TT 2]])
     ·have hb := jw (by rw [decide_eq_false (fun h => h4 (hz.2 h))]; rfl)
      clear jv jw hz
      generalize k-2^v=u at*
      generalize k/2^v=z at*
      generalize 2^v=y at*
      refine .inr ⟨.ret,[],i2 290,[yes 24,pl 30,ld 31 (i6 (v:Nat)),no 33,no 36,va 41 (i6 (z:Nat)),va 42 (i6 1),no 43,pl 48,ld 49 (u6 (p:Nat)),nu 51 (k:Int),va 53 (u6 (y:Nat)),va 54 (u6 (u:Nat)),va 55 (u6 (z':Nat)),yes 56],1000,.inr (.inl ⟨hb,rfl,rfl⟩),?_⟩
      exact v_ (p:=let z0:=(k:Int);let z1:=Qac Pg;let z2:=(0:Int);Bn [decide (z0<(L.length:Int))=true,An [z2<=z0,z0<(L.length:Int)],Ad (List.drop (k*1) (Ab L))=some (i6 v),decide ((v:Int)<z2)=false,decide ((v:Int)>=5)=false,Ai z1 .shr 3 (i6 k) (i6 v)=some (i6 z),Ai z1 .and 3 (i6 z) (i6 1)=some (i6 1),((1:Int)==z2)=false,An [z2<=z0,z0<(P.length:Int)],Ad (List.drop (k*1) (ut P))=some (u6 p),wr .u64 z0=z0,Ai z1 .shl 72 (u6 1) (i6 v)=some (u6 y),Ai z1 .andNot 72 (u6 k) (u6 y)=some (u6 u),Ai z1 .andNot 72 (u6 p) (u6 u)=some (u6 z'),((z':Int) != z2)=true,Bn [Sm (290:Int)]])
   ·have hb := jw (by rw [decide_eq_false h2, Bool.false_and, Bool.and_false])
    refine .inr ⟨.ret,[],i2 290,[yes 24,pl 30,ld 31 (i6 x),no 33,yes 36],1000,.inr (.inl ⟨hb,rfl,rfl⟩),?_⟩
    exact v_ (p:=let z0:=(k:Int);Bn [decide (z0<(L.length:Int))=true,An [(0:Int)<=z0,z0<(L.length:Int)],Ad (List.drop (k*1) (Ab L))=some (i6 x),decide (x<0)=false,decide (x>=5)=true,Bn [Sm (290:Int)]])
 ·have jf : Ep L P = true := Qam.2 fun j hj1 => hj j o_
  refine .inr ⟨.exit 0,[],{sl:=[]},[no 24],1000,.inl ⟨jf,rfl,rfl⟩,?_⟩
  clear hj jf
  exact v_ (p:=Bn [decide ((k:Int)<(L.length:Int))=false,Tt])
theorem Qbl(L:List Int)(P:List Nat)(hP:S64 P):Ac Pg g0 30 [lV L P] (i6 (if Fl L P then 0 else 290)):=by
 have hv:=Qb2 L P
 have hu:=Qas P
 unfold Fl
 obtain⟨w5,w1,w0⟩:=Qfs L P
 rcases Nat.eq_zero_or_pos (wdt L P)with h|h
 ·rw [h] at hv
  rw[h,decide_eq_false (show¬1<=0 by decide),Bool.false_and,if_neg d_]
  clear w1 w0 w5 h
  refine Ac.of_vc vE_ok Af Qaa (n:=1000) (r:=[]) (S:=i2 290) (hs:=[fn 6 (i6 0),yes 7]) ?_
  exact v_ (p:=Bn [Sm (i6 290),Bn [TT 2],Ac Pg g0 31 [V.agg [V.im L.length (Ab L),V.im P.length (ut P)]] (i6 0),Tt,((0:Int)==0)=true,Bn [Sm (290:Int)]])
 ·obtain ⟨e1, e2⟩ := Qcn.1 (w1 h)
  have jp:1<=2^wdt L P:=Nat.pow_pos d_
  have h32:=Qa1 w5
  rw[decide_eq_true (show 1<=wdt L P from h),Bool.true_and]
  have jy:P.length=L.length:=by omega
  have hl:=cc_loop L P hP jy o_
  have hld:=@Qal L 0 o_
  have hlp:=@Qed P 0 o_
  unfold ok0
  clear w1 w0 e2
  generalize wdt L P=w at*
  have hw0:((w:Int)==0)=false:=by rw[beq_eq_false_iff_ne];omega
  have hL0:0<L.length:=by omega
  have hP0:0<P.length:=by omega
  clear e1 jp h32
  by_cases h1:L.getD 0 0=0
  ·rw [decide_eq_true h1, Bool.true_and]
   rw[h1]at hld
   by_cases h2:P.getD 0 0=0
   ·rw [decide_eq_true h2, Bool.true_and]
    rw[h2]at hlp
    cases hok:Ep L P with
    |true=>
     have hl:=hl.mono (Qbj hok (by rw[hok];simp))
     rw[if_pos rfl]
     refine Ac.of_vc vE_ok Af Qaa (n:=1000) (r:=[]) (S:=i2 0) (hs:=[fn 6 (i6 (w:Nat)),no 7,pl 10,ld 11 (i6 0),no 12,pl 16,ld 17 (u6 ((0:Nat):Int)),no 18,(0,.loop [0] (ccS L P 1) [(True,.exit 0,{sl:=[]})])]) ?_
     exact v_ (p:=let z0:=(0:Int);Bn [Sm (i6 0),Bn [TT 2],Ac Pg g0 31 [V.agg [V.im L.length (Ab L),V.im P.length (ut P)]] (i6 w),Tt,((w:Int)==z0)=false,An [z0<=z0,z0<(L.length:Int)],Ad (List.drop (Int.toNat z0*1) (Ab L))=some (i6 0),(z0 != z0)=false,An [z0<=z0,z0<(P.length:Int)],Ad (List.drop (Int.toNat z0*1) (ut P))=some (u6 ↑(0:Nat)),(((0:Nat):Int) != z0)=false,Bn [Bn [Zz,((1:Nat):Int)=(1:Int)],An [Sm [sl L,ul P],TT 2]],Sat Pg none 0 (at' 30 [1,1,1,0,1,0]) (Ah g0 57 (ccS L P 1)) (Qaf g0 57 [(True,Ex.exit 0,SL.mk [] [] [] [])]),(True->Bn [Bn [z0=z0]])])
    |false=>
     have hl:=hl.mono (Qbk (by rw[hok];simp) hok)
     rw[if_neg d_]
     refine Ac.of_vc vE_ok Af Qaa (n:=1000) (r:=[]) (S:=i2 290) (hs:=[fn 6 (i6 (w:Nat)),no 7,pl 10,ld 11 (i6 0),no 12,pl 16,ld 17 (u6 ((0:Nat):Int)),no 18,(0,.loop [0] (ccS L P 1) [(True,.ret,i2 290)])]) ?_
     exact v_ (p:=let z0:=(0:Int);Bn [Sm (i6 290),Bn [TT 2],Ac Pg g0 31 [V.agg [V.im L.length (Ab L),V.im P.length (ut P)]] (i6 w),Tt,((w:Int)==z0)=false,An [z0<=z0,z0<(L.length:Int)],Ad (List.drop (Int.toNat z0*1) (Ab L))=some (i6 0),(z0 != z0)=false,An [z0<=z0,z0<(P.length:Int)],Ad (List.drop (Int.toNat z0*1) (ut P))=some (u6 ↑(0:Nat)),(((0:Nat):Int) != z0)=false,Bn [Bn [Zz,((1:Nat):Int)=(1:Int)],An [Sm [sl L,ul P],TT 2]],Sat Pg none 0 (at' 30 [1,1,1,0,1,0]) (Ah g0 57 (ccS L P 1)) (Qaf g0 57 [(True,Ex.ret,i2 (290:Int))]),(True->Bn [Bn [Sm (290:Int)]])])
   ·rw [decide_eq_false h2, Bool.false_and, if_neg d_]
    generalize P.getD 0 0=p at*
    refine Ac.of_vc vE_ok Af Qaa (n:=1000) (r:=[]) (S:=i2 290) (hs:=[fn 6 (i6 (w:Nat)),no 7,pl 10,ld 11 (i6 0),no 12,pl 16,ld 17 (u6 (p:Nat)),yes 18]) ?_
    exact v_ (p:=let z0:=(0:Int);Bn [Sm (i6 290),Bn [TT 2],Ac Pg g0 31 [V.agg [V.im L.length (Ab L),V.im P.length (ut P)]] (i6 w),Tt,((w:Int)==z0)=false,An [z0<=z0,z0<(L.length:Int)],Ad (List.drop (Int.toNat z0*1) (Ab L))=some (i6 0),(z0 != z0)=false,An [z0<=z0,z0<(P.length:Int)],Ad (List.drop (Int.toNat z0*1) (ut P))=some (u6 p),((p:Int) != z0)=true,Bn [Sm (290:Int)]])
  ·rw [decide_eq_false h1, Bool.false_and, Bool.false_and, if_neg d_]
   generalize L.getD 0 0=x at*
   refine Ac.of_vc vE_ok Af Qaa (n:=1000) (r:=[]) (S:=i2 290) (hs:=[fn 6 (i6 (w:Nat)),no 7,pl 10,ld 11 (i6 x),yes 12]) ?_
   exact v_ (p:=let z0:=(0:Int);Bn [Sm (i6 290),Bn [TT 2],Ac Pg g0 31 [V.agg [V.im L.length (Ab L),V.im P.length (ut P)]] (i6 w),Tt,((w:Int)==z0)=false,An [z0<=z0,z0<(L.length:Int)],Ad (List.drop (Int.toNat z0*1) (Ab L))=some (i6 x),(x != z0)=true,Bn [Sm (290:Int)]])
def laL(L:List Int):Nat->Nat:=fun s=>(L.getD s 0).toNat
def paL(P:List Nat):Nat->Nat:=fun s=>P.getD s 0
structure LdOk(L:List Int)(P:List Nat)(w:Nat):Prop where
 w1:1<=w
 w5:w<=5
 lenL:L.length=2^w
 lenP:P.length=2^w
 ok:LadOk w (laL L) (paL P)
 nn: ∀s,0<s->s<2^w->L.getD s 0=(laL L s:Int)
 l0:L.getD 0 0=0
 p0:P.getD 0 0=0
theorem Qjd{L:List Int}{P:List Nat}(h:Fl L P=true):LdOk L P (wdt L P):=by
 unfold Fl at h
 rw[Bool.and_eq_true,Bool.and_eq_true,decide_eq_true_eq]at h
 obtain⟨h1,h2,h3⟩:=h
 unfold ok0 at h2
 rw[Bool.and_eq_true,decide_eq_true_eq,decide_eq_true_eq]at h2
 obtain⟨w5,w1,w0⟩:=Qfs L P
 obtain⟨e1,e2⟩:=Qcn.1 (w1 h1)
 have key: ∀s,0<s->s<2^wdt L P->0<=L.getD s 0/\L.getD s 0<5/\s.testBit (L.getD s 0).toNat=true/\P.getD s 0&&& (s-2^(L.getD s 0).toNat)=P.getD s 0:=fun s hs hlt=>by
  have:=Qam.1 h3 s o_
  rw[decide_eq_false o_,Bool.false_or]at this
  unfold okS at this
  simpa only[Bool.and_eq_true,decide_eq_true_eq]using this
 refine⟨h1,w5,e1,e2,⟨fun s hs hlt=>?_⟩,fun s hs hlt=>?_,h2.1,h2.2⟩
 ·obtain ⟨a, b, c, d⟩ := key s hs hlt
  exact⟨Qgm _ w5 s hlt _ (by unfold laL;omega) c,c,d⟩
 ·obtain ⟨a, _⟩ := key s hs hlt
  exact(Int.toNat_of_nonneg a).symm
theorem uF_ut(f:Nat->Nat): ∀n,uF f n=ut ((List.range n).map f)
 |0=>rfl
 |n+1=>by
  show blF _ (n+1)=_
  rw[Qbe,show blF (fun i=>[u6 (f i:Nat)]) n=ut ((List.range n).map f)from uF_ut f n]
  unfold ut
  rw[List.range_succ,List.map_append,List.map_append];rfl
theorem F1(s:Nat)(v:Nat)(hv:v<64):Ac Pg g0 21 [u6 s,i6 v] (.bool (s.testBit v)):=by
 have s1:=@F6 (Qac Pg) 72 s v o_
 have s2:=@Qqk (Qac Pg) 72 (s/2^v)
 rw[bit_div]
 generalize s/2^v=b at*
 by_cases h:b%2=1
 ·rw [decide_eq_true h]
  rw[h]at s2
  refine Ac.of_vc vE_ok Af Qaa (n:=1000) (r:=[]) (S:={sl:=[(4,.bool true)]}) (hs:=[va 7 (u6 b),va 8 (u6 (1:Nat)),yes 9]) ?_
  exact u_ (p:=Bn [Sm (V.bool true),Ai (Qac Pg) .shr 72 (u6 s) (i6 v)=some (u6 b),Ai (Qac Pg) .and 72 (u6 b) (u6 1)=some (u6 ↑(1:Nat)),(((1:Nat):Int)==1)=true,Bn [Sm true]])
 ·rw [decide_eq_false h]
  have h0:b%2=0:=by omega
  rw[h0]at s2
  refine Ac.of_vc vE_ok Af Qaa (n:=1000) (r:=[]) (S:={sl:=[(4,.bool false)]}) (hs:=[va 7 (u6 b),va 8 (u6 (0:Nat)),no 9]) ?_
  exact u_ (p:=Bn [Sm (V.bool false),Ai (Qac Pg) .shr 72 (u6 s) (i6 v)=some (u6 b),Ai (Qac Pg) .and 72 (u6 b) (u6 1)=some (u6 ↑(0:Nat)),(((0:Nat):Int)==1)=false,Bn [Sm false]])
theorem okS_iff{L:List Int}{P:List Nat}{s:Nat}(hs:s<32):okS L P s=true↔0<=L.getD s 0/\L.getD s 0<5/\s.testBit (L.getD s 0).toNat=true/\P.getD s 0&&& s=P.getD s 0/\(P.getD s 0).testBit (L.getD s 0).toNat=false:=by
 unfold okS
 simp only[Bool.and_eq_true,decide_eq_true_eq]
 constructor
 ·rintro ⟨a, b, c, d⟩
  have hp:P.getD s 0<32:=by
   rw[<-d];exact Nat.lt_of_le_of_lt Nat.and_le_right (Nat.lt_of_le_of_lt (Nat.sub_le _ _) hs)
  have:=(Qtx s hs _ o_ c _ hp).1 d
  exact⟨a,b,c,this.1,this.2⟩
 ·rintro ⟨a, b, c, d, e⟩
  have hp:P.getD s 0<32:=by
   rw[<-d];exact Nat.lt_of_le_of_lt Nat.and_le_right hs
  exact⟨a,b,c,(Qtx s hs _ o_ c _ hp).2 ⟨d,e⟩⟩
abbrev b4(b:Bool):SL:={sl:=[(4,.bool b)]}
abbrev gdS(L:List Int)(P:List Nat)(n:Nat)(k:Nat):SL:={sl:=[(1,i6 (n:Nat)),(2,.ptr 0 0),(5,u6 (k:Nat))],os:=[lO L P]}
theorem gd_loop (L : List Int) (P : List Nat) (hP : S64 P) (n : Nat) (h1 : 1 <= n) (h5 : n <= 5) (eL : L.length = 2 ^ n) (eP : P.length = 2 ^ n) :
  Sat Pg none 0 (at' 12 [1,1,0,1,0]) (Ah g0 86 (gdS L P n 1)) (Qaf g0 86 [(Ep L P=true,.exit 0,{sl:=[]}),(Ep L P=false,.ret,b4 false)]):=by
 have hu:=Qas P
 have h32:=Qa1 h5
 have sn:=fun G t=>@Qhe G t n o_
 refine Qax vE_ok Af Qaa (b:=at' 12 [1,1,0,1,0,0]) k_ (fun k=>1<=k/\k<=L.length/\∀j,j<k->(decide (j=0)||okS L P j)=true) (gdS L P n) (fun k=>L.length-k) (fun k hk=>?_) 1 ⟨Nat.le_refl _,by rw[eL];exact Nat.pow_pos d_,fun j hj=>by rw[show j=0 by omega];rfl⟩
 obtain⟨hk1,hkl,hj⟩:=hk
 by_cases hlt:k<L.length
 ·have hld := @Qal L k hlt
  have hlp:=@Qed P k o_
  have jw:okS L P k=false->Ep L P=false:=fun h=>Qbb hlt (by rw[h,decide_eq_false o_];rfl)
  have jv:okS L P k=true->∀j,j<k+1->(decide (j=0)||okS L P j)=true:=fun h j hj1=>by
   rcases Nat.lt_succ_iff_lt_or_eq.1 hj1 with h2|h2
   ·exact hj j h2
   ·subst h2;rw[h,Bool.or_true]
  have hiff:=okS_iff (L:=L) (P:=P) (show k<32 by omega)
  have hp64:=hP.get k
  have hfb:=Qgm n h5 k o_
  have hkp:k<2^n:=by omega
  have hnot:okS L P k≠true->Ep L P=false:=fun h=>jw (by simpa using h)
  generalize okS L P k=ok at*
  generalize hp:P.getD k 0=p at*
  generalize hx:L.getD k 0=x at*
  generalize hz2:2^n=z2 at*
  clear hj hp hx jw hz2
  by_cases c1:x<0
  ·have hb := hnot (fun h => by have := hiff.1 h; omega)
   clear hiff jv hfb hnot
   refine .inr ⟨.ret,[],b4 false,[va 45 (u6 (z2:Nat)),yes 46,pl 52,ld 53 (i6 x),yes 55],1000,.inr (.inl ⟨hb,rfl,rfl⟩),?_⟩
   exact v_ (p:=let z0:=(k:Int);Bn [Ai (Qac Pg) .shl 72 (u6 1) (i6 n)=some (u6 z2),decide (z0<(z2:Int))=true,An [(0:Int)<=z0,z0<(L.length:Int)],Ad (List.drop (k*1) (Ab L))=some (i6 x),decide (x<0)=true,Bn [Sm false]])
  ·obtain ⟨v, rfl⟩ : ∃ v : Nat, x = v := ⟨x.toNat, by omega⟩
   simp only[Int.toNat_natCast]at hiff
   by_cases c2:v<n
   ·have hin := F1 k v o_
    cases kw:k.testBit v with
    |false=>
     have hb:=hnot (fun h=>by have:=(hiff.1 h).2.2.1;rw[kw]at this;cases this)
     rw[kw]at hin
     clear hiff jv hfb hnot
     refine .inr ⟨.ret,[],b4 false,[va 45 (u6 (z2:Nat)),yes 46,pl 52,ld 53 (i6 (v:Nat)),no 55,no 59,fn 64 (.bool false)],1000,.inr (.inl ⟨hb,rfl,rfl⟩),?_⟩
     exact v_ (p:=let z0:=(k:Int);Bn [Ai (Qac Pg) .shl 72 (u6 1) (i6 n)=some (u6 z2),decide (z0<(z2:Int))=true,An [(0:Int)<=z0,z0<(L.length:Int)],Ad (List.drop (k*1) (Ab L))=some (i6 v),decide ((v:Int)<0)=false,decide ((v:Int)>=(n:Int))=false,TT 2,Ac Pg g0 21 [u6 k,i6 v] (V.bool false),Tt,Bn [Sm false]])
    | true =>
     rw[kw]at hin
     obtain⟨z',s5,_,hz⟩:=@Qiu (Qac Pg) 72 p k hp64 o_
     rw[Qmx]at hz
     by_cases c4:z'=0
     ·have hps := hz.1 c4
      subst c4
      have hin2:=F1 p v o_
      cases hpv:p.testBit v with
      |true=>
       have hb:=hnot (fun h=>by have:=(hiff.1 h).2.2.2.2;rw[hpv]at this;cases this)
       rw[hpv]at hin2
       clear hiff jv hfb hnot hz
       refine .inr ⟨.ret,[],b4 false,[va 45 (u6 (z2:Nat)),yes 46,pl 52,ld 53 (i6 (v:Nat)),no 55,no 59,fn 64 (.bool true),pl 71,ld 72 (u6 (p:Nat)),va 74 (u6 ((0:Nat):Int)),no 75,pl 81,ld 82 (u6 (p:Nat)),fn 84 (.bool true)],1000,.inr (.inl ⟨hb,rfl,rfl⟩),?_⟩
       exact v_ (p:=let z0:=(k:Int);let z1:=Ae T.e 0 [lO L P];let z3:=V.bool true;let z4:=Ad (List.drop (k*1) (ut P));let z5:=(0:Int);Bn [Ai (Qac Pg) .shl 72 (u6 1) (i6 n)=some (u6 z2),decide (z0<(z2:Int))=true,An [z5<=z0,z0<(L.length:Int)],Ad (List.drop (k*1) (Ab L))=some (i6 v),decide ((v:Int)<z5)=false,decide ((v:Int)>=(n:Int))=false,TT 2,Ac Pg g0 21 [u6 k,i6 v] z3,Tt,An [z5<=z0,z0<(P.length:Int)],z4=some (u6 p),Ai (Qac Pg) .andNot 72 (u6 p) (u6 k)=some (u6 ↑(0:Nat)),(((0:Nat):Int) != z5)=false,An [z5<=z0,z0<(P.length:Int)],z4=some (u6 p),TT 2,Ac Pg g0 21 [u6 p,i6 v] z3,Bn [(V.fn 21 []=V.fn 21 []->[u6 k,i6 v]=[u6 p,i6 v]->z1=z1->1=1->Sm (CR.mk z3 z1 1 []))],Bn [Sm false]])
      | false =>
       have hg:=jv (hiff.2 ⟨by omega,by omega,kw,hps,hpv⟩)
       rw[hpv]at hin2
       clear hiff jv hfb hnot hz
       refine .inl ⟨k+1,[0],[va 45 (u6 (z2:Nat)),yes 46,pl 52,ld 53 (i6 (v:Nat)),no 55,no 59,fn 64 (.bool true),pl 71,ld 72 (u6 (p:Nat)),va 74 (u6 ((0:Nat):Int)),no 75,pl 81,ld 82 (u6 (p:Nat)),fn 84 (.bool false),nu 48 ((k+1:Nat):Int)],1000,⟨by omega,by omega,hg⟩,by omega,?_⟩
       clear hg
       have hwk:wr .u64 ((k:Int)+1)=((k+1:Nat):Int):=by
        rw[show((k:Int)+1)=((k+1:Nat):Int)by omega];exact Qei (by simp only[lo];omega) (by simp only[hi];omega)
       have hne:[u6 (k:Int),i6 (v:Int)]≠[u6 (p:Int),i6 (v:Int)]:=fun h=>by
        have h2:(k:Int)=p:=by simpa using h
        have h3:k=p:=by omega
        rw[h3,hpv]at kw;cases kw
       exact v_ (p:=let z0:=(k:Int);let z1:=Ae T.e 0 [lO L P];let z3:=(↑(k+1):Int);let z4:=Ad (List.drop (k*1) (ut P));let z5:=(0:Int);let z6:=(n:Int);Bn [Ai (Qac Pg) .shl 72 (u6 1) (i6 n)=some (u6 z2),decide (z0<(z2:Int))=true,An [z5<=z0,z0<(L.length:Int)],Ad (List.drop (k*1) (Ab L))=some (i6 v),decide ((v:Int)<z5)=false,decide ((v:Int)>=z6)=false,TT 2,Ac Pg g0 21 [u6 k,i6 v] (V.bool true),Tt,An [z5<=z0,z0<(P.length:Int)],z4=some (u6 p),Ai (Qac Pg) .andNot 72 (u6 p) (u6 k)=some (u6 ↑(0:Nat)),(((0:Nat):Int) != z5)=false,An [z5<=z0,z0<(P.length:Int)],z4=some (u6 p),TT 2,Ac Pg g0 21 [u6 p,i6 v] (V.bool false),Bn [(V.fn 21 []=V.fn 21 []->[u6 k,i6 v]=[u6 p,i6 v]->z1=z1->1=1->CR.mk (V.bool true) z1 1 []=CR.mk (V.bool false) z1 1 [])],wr .u64 (z0+1)=z3,Bn [z6=z6,Zz,z3=z3],An [Sm [sl L,ul P],TT 2]])
     ·have hb := hnot (fun h => c4 (hz.2 (hiff.1 h).2.2.2.1))
      clear hiff jv hfb hnot hz
      refine .inr ⟨.ret,[],b4 false,[va 45 (u6 (z2:Nat)),yes 46,pl 52,ld 53 (i6 (v:Nat)),no 55,no 59,fn 64 (.bool true),pl 71,ld 72 (u6 (p:Nat)),va 74 (u6 (z':Nat)),yes 75],1000,.inr (.inl ⟨hb,rfl,rfl⟩),?_⟩
      exact v_ (p:=let z0:=(k:Int);let z1:=(0:Int);Bn [Ai (Qac Pg) .shl 72 (u6 1) (i6 n)=some (u6 z2),decide (z0<(z2:Int))=true,An [z1<=z0,z0<(L.length:Int)],Ad (List.drop (k*1) (Ab L))=some (i6 v),decide ((v:Int)<z1)=false,decide ((v:Int)>=(n:Int))=false,TT 2,Ac Pg g0 21 [u6 k,i6 v] (V.bool true),Tt,An [z1<=z0,z0<(P.length:Int)],Ad (List.drop (k*1) (ut P))=some (u6 p),Ai (Qac Pg) .andNot 72 (u6 p) (u6 k)=some (u6 z'),((z':Int) != z1)=true,Bn [Sm false]])
   ·have hb := hnot (fun h => by
     have hh:=hiff.1 h
     have:=hfb v o_ hh.2.2.1
     omega)
    clear hiff jv hfb hnot
    refine .inr ⟨.ret,[],b4 false,[va 45 (u6 (z2:Nat)),yes 46,pl 52,ld 53 (i6 (v:Nat)),no 55,yes 59],1000,.inr (.inl ⟨hb,rfl,rfl⟩),?_⟩
    exact v_ (p:=let z0:=(k:Int);Bn [Ai (Qac Pg) .shl 72 (u6 1) (i6 n)=some (u6 z2),decide (z0<(z2:Int))=true,An [(0:Int)<=z0,z0<(L.length:Int)],Ad (List.drop (k*1) (Ab L))=some (i6 v),decide ((v:Int)<0)=false,decide ((v:Int)>=(n:Int))=true,Bn [Sm false]])
 ·have jf : Ep L P = true := Qam.2 fun j hj1 => hj j o_
  have hke:k=2^n:=by omega
  subst hke
  refine .inr ⟨.exit 0,[],{sl:=[]},[va 45 (u6 ((2^n:Nat):Int)),no 46],1000,.inl ⟨jf,rfl,rfl⟩,?_⟩
  clear hj jf
  generalize 2^n=z at*
  exact v_ (p:=Bn [Ai (Qac Pg) .shl 72 (u6 1) (i6 n)=some (u6 z),decide ((z:Int)<(z:Int))=false,Tt])
def E1(L:List Int)(P:List Nat)(n:Nat):Bool:=decide (1<=n)&&(decide (n<=5)&&(isW L P n&&(ok0 L P&&Ep L P)))
theorem Qgn(L:List Int)(P:List Nat)(n:Nat):E1 L P n=(Fl L P&&decide (wdt L P=n)):=by
 obtain⟨w5,w1,w0⟩:=Qfs L P
 apply Bool.eq_iff_iff.2
 unfold E1 Fl
 simp only[Bool.and_eq_true,decide_eq_true_eq]
 constructor
 ·rintro ⟨a, b, c, d, e⟩
  have:=w0 n a b c
  exact⟨⟨by omega,d,e⟩,this⟩
 ·rintro ⟨⟨a, d, e⟩, f⟩
  subst f
  exact⟨a,w5,w1 a,d,e⟩
theorem good29 (L : List Int) (P : List Nat) (hP : S64 P) (n : Nat) (hn : n <= 1000) : Ac Pg g0 12 [lV L P, i6 (n : Nat)] (.bool (E1 L P n)) := by
 have hu:=Qas P
 unfold E1
 by_cases h1:1<=n
 ·by_cases h5 : n <= 5
  ·rw [decide_eq_true h1, decide_eq_true h5, Bool.true_and, Bool.true_and]
   have hs:=Qmv n o_
   by_cases a:L.length=2^n
   ·by_cases b : P.length = 2 ^ n
    ·have hw : isW L P n = true := Qcn.2 ⟨a, b⟩
     rw[hw,Bool.true_and]
     have hl:=gd_loop L P hP n h1 h5 a b
     have ha:((L.length:Int)==((2^n:Nat):Int))=true:=by rw[Qbh,decide_eq_true a]
     have hb:((P.length:Int)==((2^n:Nat):Int))=true:=by rw[Qbh,decide_eq_true b]
     have jp:0<2^n:=Nat.pow_pos d_
     have hld:=@Qal L 0 o_
     have hlp:=@Qed P 0 o_
     have hL0:0<L.length:=by omega
     have hP0:0<P.length:=by omega
     unfold ok0
     clear a b hw jp
     generalize 2^n=z at*
     by_cases c:L.getD 0 0=0
     ·rw [decide_eq_true c, Bool.true_and]
      rw[c]at hld
      by_cases d:P.getD 0 0=0
      ·rw [decide_eq_true d, Bool.true_and]
       rw[d]at hlp
       cases hok:Ep L P with
       |true=>
        have hl:=hl.mono (Qbj hok (by rw[hok];simp))
        refine Ac.of_vc vE_ok Af Qaa (n:=1000) (r:=[]) (S:=b4 true) (hs:=[no 8,no 11,va 18 (i6 (z:Nat)),no 19,va 26 (i6 (z:Nat)),no 27,pl 32,ld 33 (i6 0),no 34,pl 39,ld 40 (u6 ((0:Nat):Int)),no 41,(0,.loop [0] (gdS L P n 1) [(True,.exit 0,{sl:=[]})])]) ?_
        exact v_ (p:=let z0:=(0:Int);let z1:=Ai (Qac Pg) .shl 3 (i6 1) (i6 n);let z2:=(n:Int);Bn [Sm (V.bool true),decide (z2<1)=false,decide (z2>5)=false,z1=some (i6 z),((L.length:Int) != (z:Int))=false,z1=some (i6 z),((P.length:Int) != (z:Int))=false,An [z0<=z0,z0<(L.length:Int)],Ad (List.drop (Int.toNat z0*1) (Ab L))=some (i6 0),(z0 != z0)=false,An [z0<=z0,z0<(P.length:Int)],Ad (List.drop (Int.toNat z0*1) (ut P))=some (u6 ↑(0:Nat)),(((0:Nat):Int) != z0)=false,Bn [Bn [z2=z2,Zz,((1:Nat):Int)=(1:Int)],An [Sm [sl L,ul P],TT 2]],Sat Pg none 0 (at' 12 [1,1,0,1,0]) (Ah g0 86 (gdS L P n 1)) (Qaf g0 86 [(True,Ex.exit 0,SL.mk [] [] [] [])]),(True->Bn [Bn [Sm true]])])
       |false=>
        have hl:=hl.mono (Qbk (by rw[hok];simp) hok)
        refine Ac.of_vc vE_ok Af Qaa (n:=1000) (r:=[]) (S:=b4 false) (hs:=[no 8,no 11,va 18 (i6 (z:Nat)),no 19,va 26 (i6 (z:Nat)),no 27,pl 32,ld 33 (i6 0),no 34,pl 39,ld 40 (u6 ((0:Nat):Int)),no 41,(0,.loop [0] (gdS L P n 1) [(True,.ret,b4 false)])]) ?_
        exact v_ (p:=let z0:=(0:Int);let z1:=Ai (Qac Pg) .shl 3 (i6 1) (i6 n);let z2:=(n:Int);Bn [Sm (V.bool false),decide (z2<1)=false,decide (z2>5)=false,z1=some (i6 z),((L.length:Int) != (z:Int))=false,z1=some (i6 z),((P.length:Int) != (z:Int))=false,An [z0<=z0,z0<(L.length:Int)],Ad (List.drop (Int.toNat z0*1) (Ab L))=some (i6 0),(z0 != z0)=false,An [z0<=z0,z0<(P.length:Int)],Ad (List.drop (Int.toNat z0*1) (ut P))=some (u6 ↑(0:Nat)),(((0:Nat):Int) != z0)=false,Bn [Bn [z2=z2,Zz,((1:Nat):Int)=(1:Int)],An [Sm [sl L,ul P],TT 2]],Sat Pg none 0 (at' 12 [1,1,0,1,0]) (Ah g0 86 (gdS L P n 1)) (Qaf g0 86 [(True,Ex.ret,b4 false)]),(True->Bn [Bn [Sm false]])])
      ·rw [decide_eq_false d, Bool.false_and]
       generalize P.getD 0 0=p at*
       refine Ac.of_vc vE_ok Af Qaa (n:=1000) (r:=[]) (S:=b4 false) (hs:=[no 8,no 11,va 18 (i6 (z:Nat)),no 19,va 26 (i6 (z:Nat)),no 27,pl 32,ld 33 (i6 0),no 34,pl 39,ld 40 (u6 (p:Nat)),yes 41]) ?_
       exact v_ (p:=let z0:=(0:Int);let z1:=Ai (Qac Pg) .shl 3 (i6 1) (i6 n);Bn [Sm (V.bool false),decide ((n:Int)<1)=false,decide ((n:Int)>5)=false,z1=some (i6 z),((L.length:Int) != (z:Int))=false,z1=some (i6 z),((P.length:Int) != (z:Int))=false,An [z0<=z0,z0<(L.length:Int)],Ad (List.drop (Int.toNat z0*1) (Ab L))=some (i6 0),(z0 != z0)=false,An [z0<=z0,z0<(P.length:Int)],Ad (List.drop (Int.toNat z0*1) (ut P))=some (u6 p),((p:Int) != z0)=true,Bn [Sm false]])
     ·rw [decide_eq_false c, Bool.false_and, Bool.false_and]
      generalize L.getD 0 0=x at*
      refine Ac.of_vc vE_ok Af Qaa (n:=1000) (r:=[]) (S:=b4 false) (hs:=[no 8,no 11,va 18 (i6 (z:Nat)),no 19,va 26 (i6 (z:Nat)),no 27,pl 32,ld 33 (i6 x),yes 34]) ?_
      exact v_ (p:=let z0:=Ai (Qac Pg) .shl 3 (i6 1) (i6 n);let z1:=(0:Int);Bn [Sm (V.bool false),decide ((n:Int)<1)=false,decide ((n:Int)>5)=false,z0=some (i6 z),((L.length:Int) != (z:Int))=false,z0=some (i6 z),((P.length:Int) != (z:Int))=false,An [z1<=z1,z1<(L.length:Int)],Ad (List.drop (Int.toNat z1*1) (Ab L))=some (i6 x),(x != z1)=true,Bn [Sm false]])
    ·have hw : isW L P n = false := by
      cases hh:isW L P n with
      |false=>rfl
      |true=>exact absurd (Qcn.1 hh).2 b
     rw[hw,Bool.false_and]
     have ha:((L.length:Int)==((2^n:Nat):Int))=true:=by rw[Qbh,decide_eq_true a]
     have hb:((P.length:Int)==((2^n:Nat):Int))=false:=by rw[Qbh,decide_eq_false b]
     clear a b hw
     generalize 2^n=z at*
     refine Ac.of_vc vE_ok Af Qaa (n:=1000) (r:=[]) (S:=b4 false) (hs:=[no 8,no 11,va 18 (i6 (z:Nat)),no 19,va 26 (i6 (z:Nat)),yes 27]) ?_
     exact v_ (p:=let z0:=Ai (Qac Pg) .shl 3 (i6 1) (i6 n);Bn [Sm (V.bool false),decide ((n:Int)<1)=false,decide ((n:Int)>5)=false,z0=some (i6 z),((L.length:Int) != (z:Int))=false,z0=some (i6 z),((P.length:Int) != (z:Int))=true,Bn [Sm false]])
   ·have hw : isW L P n = false := by
     cases hh:isW L P n with
     |false=>rfl
     |true=>exact absurd (Qcn.1 hh).1 a
    rw[hw,Bool.false_and]
    have ha:((L.length:Int)==((2^n:Nat):Int))=false:=by rw[Qbh,decide_eq_false a]
    clear a hw
    generalize 2^n=z at*
    refine Ac.of_vc vE_ok Af Qaa (n:=1000) (r:=[]) (S:=b4 false) (hs:=[no 8,no 11,va 18 (i6 (z:Nat)),yes 19]) ?_
    exact v_ (p:=Bn [Sm (V.bool false),decide ((n:Int)<1)=false,decide ((n:Int)>5)=false,Ai (Qac Pg) .shl 3 (i6 1) (i6 n)=some (i6 z),((L.length:Int) != (z:Int))=true,Bn [Sm false]])
  ·rw [decide_eq_false h5, Bool.false_and, Bool.and_false]
   refine Ac.of_vc vE_ok Af Qaa (n:=1000) (r:=[]) (S:=b4 false) (hs:=[no 8,yes 11]) ?_
   exact v_ (p:=Bn [Sm (V.bool false),decide ((n:Int)<1)=false,decide ((n:Int)>5)=true,Bn [Sm false]])
 ·rw [decide_eq_false h1, Bool.false_and]
  refine Ac.of_vc vE_ok Af Qaa (n:=1000) (r:=[]) (S:=b4 false) (hs:=[yes 8]) ?_
  exact v_ (p:=Bn [Sm (V.bool false),decide ((n:Int)<1)=true,Bn [Sm false]])
def Bq:List Nat->Nat
 |[]=>0
 |x::l=>x+10000*Bq l
def Dq(l:List Nat):Prop:=∀k,l.getD k 0<10000
theorem Qbv(a b:List Nat):Bq (a++b)=Bq a+10000^a.length*Bq b:=by
 induction a with
 |nil=>simp[Bq]
 |cons x a ih=>
  simp only[List.cons_append,Bq,ih,List.length_cons,Nat.pow_succ,Nat.mul_add]
  rw[Nat.mul_comm (10000^a.length) 10000,Nat.mul_assoc]
  omega
theorem Dq.tail{x:Nat}{l:List Nat}(h:Dq (x::l)):x<10000/\Dq l:=
 ⟨by simpa using h 0,fun k=>by simpa using h (k+1)⟩
theorem Dq.cons{x:Nat}{l:List Nat}(h1:x<10000)(h2:Dq l):Dq (x::l)
 |0=>by simpa using h1
 |k+1=>by simpa using h2 k
theorem Dq.take{l:List Nat}(h:Dq l)(n:Nat):Dq (l.take n):=fun k=>by
 rw[List.getD_eq_getElem?_getD,List.getElem?_take]
 split
 ·rw[<-List.getD_eq_getElem?_getD];exact h k
 ·simp
theorem Qm3: ∀{l:List Nat},Dq l->Bq l<10000^l.length
 |[],_=>by simp[Bq]
 |x::l,h=>by
  have h1:=h.tail
  have h2:=Qm3 h1.2
  simp only[Bq,List.length_cons,Nat.pow_succ]
  have h3:=h1.1
  generalize 10000^l.length=P at*
  omega
theorem Qhk{l:List Nat}{i:Nat}(h:i<l.length):Bq (l.take (i+1))=Bq (l.take i)+10000^i*l.getD i 0:=by
 rw[Qc8 h,Qbv,List.length_take,Nat.min_eq_left o_]
 simp[Bq]
def C2(w:Nat)(l:List Nat):Nat->List Nat×Nat
 |0=>(l,0)
 |i+1=>((C2 w l i).1.set i ((l.getD i 0*w+(C2 w l i).2)%10000),(l.getD i 0*w+(C2 w l i).2)/10000)
theorem Qdz(w:Nat)(l:List Nat): ∀i,(C2 w l i).1.length=l.length
 |0=>rfl
 |i+1=>by rw[C2,List.length_set,Qdz w l i]
theorem Qps{a w c:Nat}(ha:a<10000)(hw:w<10000)(hc:c<10000):a*w+c<100000000:=by
 have:a*w<=9999*9999:=Nat.mul_le_mul o_ o_
 omega
structure MdOk(w:Nat)(l:List Nat)(i:Nat)(m:List Nat)(c:Nat):Prop where
 len:m.length=l.length
 words:Dq m
 carry:c<10000
 val:Bq (m.take i)+10000^i*c=w*Bq (l.take i)
theorem Qml{w:Nat}{l:List Nat}(hl:Dq l)(hw:w<10000): ∀i,i<=l.length->MdOk w l i (C2 w l i).1 (C2 w l i).2
 |0,_=>⟨rfl,hl,by show 0< _;omega,by simp[C2,Bq]⟩
 | i + 1, h => by
  have ih:=Qml hl hw i o_
  have jy:=Qdz w l i
  have ha:=hl i
  have hcc:=ih.carry
  have hb:=Qps ha hw hcc
  refine⟨by rw[Qdz],fun k=>?_,?_,?_⟩
  ·simp only [C2]
   rw[List.getD_eq_getElem?_getD,List.getElem?_set]
   split
   ·split
    ·simp only[Option.getD_some];omega
    ·simp
   ·rw[<-List.getD_eq_getElem?_getD];exact ih.words k
  ·simp only[C2];omega
  ·have hv := ih.val
   simp only[C2]
   rw[Qjv o_,Qbv,Qhk o_,List.length_take,jy,Nat.min_eq_left o_,Nat.mul_add,<-hv]
   generalize (C2 w l i).2=c at*
   generalize (C2 w l i).1=m at*
   simp only[Bq,Nat.mul_zero,Nat.add_zero]
   have hd:=Nat.mod_add_div (l.getD i 0*w+c) 10000
   generalize (l.getD i 0*w+c)%10000=r at*
   generalize (l.getD i 0*w+c)/10000=q at*
   rw[Nat.pow_succ,Nat.mul_assoc (10000^i),Nat.add_assoc (Bq (m.take i)),<-Nat.mul_add,hd,Nat.mul_add,Nat.mul_left_comm w,Nat.mul_comm w]
   omega
structure Qfv(l:List Nat):Prop where
 ok:Dq l
 pos:1<=l.length
 top:10000^(l.length-1)<=Bq l
def D6(w:Nat)(l:List Nat):List Nat:=if(C2 w l l.length).2=0 then(C2 w l l.length).1 else(C2 w l l.length).1++[(C2 w l l.length).2]
theorem mulE_ok{w:Nat}{l:List Nat}(h:Qfv l)(hw:w<10000)(hp:1<=w):Qfv (D6 w l)/\Bq (D6 w l)=w*Bq l/\(D6 w l).length<=l.length+1:=by
 have ho:=Qml h.ok hw l.length (Nat.le_refl _)
 have hv:=ho.val
 have jy:=ho.len
 unfold D6
 generalize (C2 w l l.length).1=m at*
 generalize (C2 w l l.length).2=c at*
 rw[List.take_of_length_le o_,List.take_of_length_le o_]at hv
 have hge:Bq l<=w*Bq l:=Nat.le_mul_of_pos_left _ hp
 have htop:=h.top
 have jp:=h.pos
 by_cases hc:c=0
 ·subst hc
  rw[if_pos rfl]
  simp only[Nat.mul_zero,Nat.add_zero]at hv
  exact⟨⟨ho.words,by omega,by rw[jy];omega⟩,hv,by omega⟩
 ·rw [if_neg hc]
  have xy:Bq (m++[c])=w*Bq l:=by
   rw[Qbv,jy];simpa [Bq]using hv
  refine⟨⟨fun k=>?_,by simp,?_⟩,xy,by simp;omega⟩
  ·rw [List.getD_eq_getElem?_getD, List.getElem?_append]
   split
   ·rw[<-List.getD_eq_getElem?_getD];exact ho.words k
   ·cases hk : k - m.length with
    |zero=>simpa using ho.carry
    |succ j=>simp
  ·rw [Qbv]
   simp only[List.length_append,List.length_singleton,Nat.add_sub_cancel,Bq,Nat.mul_zero,Nat.add_zero]
   have:10000^m.length*1<=10000^m.length*c:=Nat.mul_le_mul_left _ o_
   omega
theorem Qsr:Qfv [1]:=⟨Dq.cons o_ (fun k=>by simp),by simp,by simp[Bq]⟩
theorem Qlf{a b:List Nat}(ha:Qfv a)(hb:Qfv b)(h:a.length<b.length):Bq a<Bq b:=by
 have h1:=Qm3 ha.ok
 have h2:=hb.top
 have h3:10000^a.length<=10000^(b.length-1):=Nat.pow_le_pow_right o_ o_
 omega
theorem Qq4{a b:List Nat}(ha:Dq a){i:Nat}(hl:a.length=b.length)(hi:i<a.length)(hd:a.drop (i+1)=b.drop (i+1))(h:a.getD i 0<b.getD i 0):Bq a<Bq b:=by
 have e1:Bq a=Bq (a.take (i+1))+10000^(i+1)*Bq (a.drop (i+1)):=by
  conv=>lhs;rw[<-List.take_append_drop (i+1) a]
  rw[Qbv,List.length_take,Nat.min_eq_left o_]
 have e2:Bq b=Bq (b.take (i+1))+10000^(i+1)*Bq (b.drop (i+1)):=by
  conv=>lhs;rw[<-List.take_append_drop (i+1) b]
  rw[Qbv,List.length_take,Nat.min_eq_left o_]
 rw[e1,e2,hd,Qhk hi,Qhk o_]
 have h1:=Qm3 (ha.take i)
 rw[List.length_take,Nat.min_eq_left o_]at h1
 have h2:10000^i*(a.getD i 0+1)<=10000^i*b.getD i 0:=Nat.mul_le_mul_left _ h
 rw[Nat.mul_add,Nat.mul_one]at h2
 omega
def Fi(w:Nat)(l:List Nat)(i:Nat):List Nat:=(C2 w l i).1.take i
def Fw(w:Nat)(l:List Nat)(i:Nat):Nat:=(C2 w l i).2
theorem Qsx{w:Nat}{l:List Nat}{i:Nat}(h:i<l.length):Fi w l (i+1)=Fi w l i++[(l.getD i 0*w+Fw w l i)%10000]/\Fw w l (i+1)=(l.getD i 0*w+Fw w l i)/10000:=by
 unfold Fi Fw
 rw[C2]
 exact⟨Qjv (by rw[Qdz];exact h),rfl⟩
theorem Qok{w:Nat}{l:List Nat}{i:Nat}(h:i<=l.length):(Fi w l i).length=i:=by
 unfold Fi;rw[List.length_take,Qdz,Nat.min_eq_left h]
theorem Qqw{w:Nat}{l:List Nat}(hl:Dq l)(hw:w<10000): ∀i,i<=l.length->Fw w l i<10000:=fun i hi=>(Qml hl hw i hi).carry
theorem mulE_out(w:Nat)(l:List Nat):D6 w l=if Fw w l l.length=0 then Fi w l l.length else Fi w l l.length++[Fw w l l.length]:=by
 unfold D6 Fi Fw
 rw[List.take_of_length_le (by rw[Qdz];exact Nat.le_refl _)]
def Da(p:Nat)(l:List Nat):Nat->List Nat
 |0=>l
 |k+1=>D6 p (Da p l k)
theorem Qjr{p:Nat}(h1:1<=p)(h2:p<10000){l:List Nat}(hl:Qfv l): ∀k,Qfv (Da p l k)/\Bq (Da p l k)=Bq l*p^k/\(Da p l k).length<=l.length+k
 |0=>⟨hl,by simp[Da],Nat.le_refl _⟩
 |k+1=>by
  obtain⟨a,b,c⟩:=Qjr h1 h2 hl k
  obtain⟨a',b',c'⟩:=mulE_ok a h2 h1
  refine⟨a',?_,by rw[Da];omega⟩
  rw[Da,b',b,Nat.pow_succ,Nat.mul_comm p,Nat.mul_assoc]
def dgP(e:Nat->Nat):Nat->List Nat
 |0=>[1]
 |i+1=>Da (Al i) (dgP e i) (e i)
theorem Qko(e:Nat->Nat)(B:Nat)(he: ∀i,e i<=B): ∀i,i<=18->Qfv (dgP e i)/\Bq (dgP e i)=Qa7 e i/\(dgP e i).length<=1+i*B
 |0,_=>⟨Qsr,by simp[dgP,Bq,Qa7],by simp[dgP]⟩
 |i+1,hi=>by
  obtain⟨a,b,c⟩:=Qko e B he i o_
  have hp:=Qbc i
  obtain⟨a',b',c'⟩:=Qjr (p:=Al i) o_ o_ a (e i)
  refine⟨a',by rw[dgP,b',b,Qa7],?_⟩
  have:=he i
  rw[dgP,Nat.add_mul];omega
def cntP(s:Nat):Nat->Nat
 |0=>0
 |k+1=>cntP s k+if s.testBit k then 1 else 0
theorem cntP_all: ∀s:Nat,s<32->cntP s 8=Ao s:=by decide+kernel
theorem Qqz(s:Nat): ∀k,cntP s k<=k
 |0=>Nat.le_refl _
 |k+1=>by
  have:=Qqz s k
  rw[cntP];split<;>omega
abbrev szS(s:Nat)(x:Nat×Nat):SL:={sl:=[(0,u6 (s:Nat)),(3,i6 (x.2:Nat)),(4,i6 (x.1:Nat))]}
theorem sz_loop(s n:Nat)(hn:cntP s 8=n):Sat Pg none 0 (at' 22 [1,1,0,1,0]) (Ah g0 15 (szS s (0,0))) (Qaf g0 15 [(True,.exit 0,{sl:=[(3,i6 (n:Nat))]})]):=by
 refine Qax vE_ok Af Qaa (b:=at' 22 [1,1,0,1,0,0]) k_ (fun x=>x.1<=8/\cntP s x.1=x.2) (szS s) (fun x=>8-x.1) (fun x hx=>?_) (0,0) ⟨by decide,rfl⟩
 obtain⟨k,c⟩:=x
 obtain⟨hk,hx⟩:=hx
 dsimp only at hk hx
 have hc:=Qqz s k
 rw[hx]at hc
 by_cases hlt:k<8
 ·have hin := F1 s k o_
  have hnx:cntP s (k+1)=cntP s k+if s.testBit k then 1 else 0:=rfl
  rw[hx]at hnx
  cases hb:s.testBit k with
  |true=>
   rw[hb]at hin hnx
   refine .inl ⟨(k+1,c+1),[],[yes 6,fn 11 (.bool true),nu 13 ((c+1:Nat):Int),nu 8 ((k+1:Nat):Int)],1000,⟨hlt,hnx⟩,by dsimp only;omega,?_⟩
   clear hb hnx hx hn
   exact v_ (p:=Bn [decide ((k:Int)<8)=true,TT 2,Ac Pg g0 21 [u6 s,i6 k] (V.bool true),Tt,wr .i64 ((c:Int)+1)=(↑(c+1):Int),wr .i64 ((k:Int)+1)=(↑(k+1):Int),Bn [Sm (s:Int),Sm (↑(c+1):Int),Sm (↑(k+1):Int)]])
  |false=>
   rw[hb]at hin hnx
   refine .inl ⟨(k+1,c),[],[yes 6,fn 11 (.bool false),nu 8 ((k+1:Nat):Int)],1000,⟨hlt,hnx⟩,by dsimp only;omega,?_⟩
   clear hb hnx hx hn
   exact v_ (p:=Bn [decide ((k:Int)<8)=true,TT 2,Ac Pg g0 21 [u6 s,i6 k] (V.bool false),Tt,wr .i64 ((k:Int)+1)=(↑(k+1):Int),Bn [Sm (s:Int),Sm (c:Int),Sm (↑(k+1):Int)]])
 ·have : k = 8 := by omega
  subst this
  obtain rfl:c=n:=hx.symm.trans hn
  refine .inr ⟨.exit 0,[],{sl:=[(3,i6 (c:Nat))]},[],1000,.inl ⟨trivial,rfl,rfl⟩,?_⟩
  clear hx hn
  exact v_ (p:=Bn [Bn [Sm (c:Int)]])
theorem Qtl(s:Nat)(hs:s<32):Ac Pg g0 22 [u6 (s:Nat)] (i6 (Ao s:Nat)):=by
 have l:=sz_loop s _ (cntP_all s hs)
 have e:szS s (0,0)={sl:=[(0,u6 (s:Nat)),(3,i6 0),(4,i6 0)]}:=rfl
 rw[e]at l
 generalize Ao s=c at*
 refine Ac.of_vc vE_ok Af Qaa (n:=1000) (r:=[]) (S:={sl:=[(2,i6 (c:Nat))]}) (hs:=[(0,.loop [] {sl:=[(0,u6 (s:Nat)),(3,i6 0),(4,i6 0)]} [(True,.exit 0,{sl:=[(3,i6 (c:Nat))]})])]) ?_
 exact v_ (p:=Bn [Sm (i6 c),Bn [Bn [Sm (s:Int),Sm (0:Int),Sm (0:Int)]],Sat Pg none 0 (at' 22 [1,1,0,1,0]) (Ah g0 15 (SL.mk [(0,u6 s),(3,i6 0),(4,i6 0)] [] [] [])) (Qaf g0 15 [(True,Ex.exit 0,SL.mk [(3,i6 c)] [] [] [])]),(True->Bn [Bn [Sm (c:Int)]])])
abbrev byS(l:List Nat)(w:Nat)(i:Nat)(o:List Nat)(c:Nat):SL:={sl:=[(0,nl l),(1,i6 (w:Nat)),(5,owV 0 i),(6,i6 (c:Nat)),(7,i6 (i:Nat))],os:=owL 3 (nt o) i}
theorem by_loop(l:List Nat)(w:Nat)(hl:Dq l)(hw:w<10000)(jy:l.length<=1000000)(n:Nat)(hn:l.length=n+1)(o:List Nat)(ho:Fi w l (n+1)=o)(c:Nat)(hc:Fw w l (n+1)=c):
  Sat Pg none 0 (at' 44 [1,1,1,0,1,0]) (Ah g0 37 (byS l w 0 [] 0)) (Qaf g0 37 [(True,.exit 0,{sl:=[(5,.sl 0 0 (n+1) none),(6,i6 (c:Nat))],os:=[.row 3 (some 1) (nt o)]})]):=by
 refine Qax vE_ok Af Qaa (b:=at' 44 [1,1,1,0,1,0,0]) k_ (fun x:Nat×List Nat×Nat=>x.1<=n+1/\Fi w l x.1=x.2.1/\Fw w l x.1=x.2.2) (fun x=>byS l w x.1 x.2.1 x.2.2) (fun x=>n+1-x.1) (fun x hx=>?_) (0,[],0) ⟨Nat.zero_le _,rfl,rfl⟩
 obtain⟨i,a,k⟩:=x
 obtain⟨hi,ha,hk⟩:=hx
 dsimp only at hi ha hk
 have hal:a.length=i:=by rw[<-ha];exact Qok o_
 have hnl:=Qb0 a
 have hk4:k<10000:=by rw[<-hk];exact Qqw hl hw i o_
 by_cases hlt:i<n+1
 ·obtain ⟨n1, n2⟩ := Qsx (w := w) (l := l) (i := i) o_
  have hld:=@Qa5 l i o_
  have hd:=hl i
  rw[ha,hk]at n1
  rw[hk]at n2
  generalize l.getD i 0=x at*
  have hmul:x*w<=9999*9999:=Nat.mul_le_mul o_ o_
  have hx0:(x:Int)*(w:Int)=((x*w:Nat):Int):=by simp
  have hr:Ai (Qac Pg) .rem 3 (i6 ((x*w+k:Nat):Int)) (i6 10000)=some (i6 (((x*w+k)%10000:Nat):Int)):=by
   rw[Db d_,show(10000:Int)=((10000:Nat):Int)from rfl,Qd2]
  have hq:Ai (Qac Pg) .quo 3 (i6 ((x*w+k:Nat):Int)) (i6 10000)=some (i6 (((x*w+k)/10000:Nat):Int)):=by
   have e:((x*w+k:Nat):Int).tdiv 10000=(((x*w+k)/10000:Nat):Int):=by
    rw[Int.tdiv_eq_ediv_of_nonneg o_];omega
   rw[quo6 d_ (by rw[e];omega) (by rw[e];omega),e]
  have hr':=hr
  have hq':=hq
  have hap:=Qlg a ((x*w+k)%10000)
  generalize hy:x*w=y at*
  generalize hr2:(y+k)%10000=r at*
  generalize hq2:(y+k)/10000=q at*
  have hz:((y:Int)+(k:Int))=((y+k:Nat):Int):=by omega
  have hzb:y+k<=100000000:=by omega
  generalize y+k=z at*
  have hyb:y<=100000000:=by omega
  cases i with
  |zero=>
   have:a=[]:=List.eq_nil_of_length_eq_zero hal
   subst this
   refine .inl ⟨(0+1,[r],q),[1],[yes 12,pl 17,ld 18 (i6 (x:Nat)),nu 20 (y:Nat),nu 22 (z:Nat),va 25 (i6 (r:Nat)),va 29 (i6 (q:Nat)),nu 14 ((0+1:Nat):Int)],1000,⟨hlt,n1,n2⟩,by dsimp only;omega,?_⟩
   clear n1 n2 hl ho hc ha hk hd hmul hy hap hr2 hq2
   exact v_ (p:=let z0:=((0:Nat):Int);let z1:=(↑(1):Int);let z2:=(w:Int);Bn [decide (z0<(l.length:Int))=true,An [(0:Int)<=z0,z0<(l.length:Int)],Ad (List.drop (0*1) (nt l))=some (i6 x),wr .i64 ((x:Int)*z2)=(y:Int),wr .i64 ((y:Int)+(k:Int))=(z:Int),Ai (Qac Pg) .rem 3 (i6 z) (i6 10000)=some (i6 r),Ai (Qac Pg) .quo 3 (i6 z) (i6 10000)=some (i6 q),wr .i64 (z0+1)=z1,Bn [An [Sm l.length,Sm (nt l)],z2=z2,Bn [Zz,1=1],Sm (q:Int),z1=z1],Bn [nt [r]=[i6 r],Tt]])
  |succ j=>
   refine .inl ⟨(j+1+1,a++[r],q),[2],[yes 12,pl 17,ld 18 (i6 (x:Nat)),nu 20 (y:Nat),nu 22 (z:Nat),va 25 (i6 (r:Nat)),ap 27,va 29 (i6 (q:Nat)),nu 14 ((j+1+1:Nat):Int)],1000,⟨hlt,n1,n2⟩,by dsimp only;omega,?_⟩
   clear n1 n2 hl ho hc ha hk hd hmul hy hr2 hq2
   refine m_ (p:=let z0:=(↑(j+1):Int);let z1:=(↑(j+1+1):Int);let z2:=(w:Int);Bn [decide (z0<(l.length:Int))=true,An [(0:Int)≤z0,z0<(l.length:Int)],Ad (List.drop ((j+1)*1) (nt l))=some (i6 x),wr .i64 ((x:Int)*z2)=(y:Int),wr .i64 ((y:Int)+(k:Int))=(z:Int),Ai (Qac Pg) .rem 3 (i6 z) (i6 10000)=some (i6 r),List.length (nt a)=(j+1)*1,j+1+1≤9223372036854775807,(j+1+1)*8≤140737488355328,Ai (Qac Pg) .quo 3 (i6 z) (i6 10000)=some (i6 q),wr .i64 (z0+1)=z1,Bn [An [Sm l.length,Sm (nt l)],z2=z2,Bn [Zz,Nat.succ j+1=j+1+1],Sm (q:Int),z1=z1],An [nt (a++[r])=nt a++[i6 r],HfL (nt (a++[r]))]]) ?_
   (repeat'(first|(with_reducible apply And.intro)|(refine fun(_:True)=>?_)))
   all_goals first|(with_reducible exact hld)|(with_reducible exact hr)|(with_reducible exact hq)|(rw[hx0];exact wr6 (by omega) (by omega))|(rw[hz];exact wr6 (by omega) (by omega))|exact Qaz _|exact Qck (Qaz _) ⟨trivial,trivial⟩|(rw[Qb0];omega)|exact aq|rfl|skip
 ·have : i = n + 1 := by omega
  subst this
  obtain rfl:a=o:=ha.symm.trans ho
  obtain rfl:k=c:=hk.symm.trans hc
  clear ho hc ha hk hl
  refine .inr ⟨.exit 0,[0],{sl:=[(5,.sl 0 0 (n+1) none),(6,i6 (k:Nat))],os:=[.row 3 (some 1) (nt a)]},[no 12],1000,.inl ⟨trivial,rfl,rfl⟩,?_⟩
  refine m_ (p:=Bn [decide ((↑(n+1):Int)<(l.length:Int))=false,Bn [Bn [Zz,Sm (n+1)],Sm (k:Int)],An [Sm (nt a),HfL (nt a)]]) ?_
  (repeat'(first|(with_reducible apply And.intro)|(refine fun(_:True)=>?_)))
  all_goals first|exact Qaz _|exact Qck (Qaz _) ⟨trivial,trivial⟩|exact aq|rfl|skip
theorem by_fn(l:List Nat)(w:Nat)(hl:Qfv l)(hw:w<10000)(jy:l.length<=1000000):Ac Pg g0 44 [nl l,i6 (w:Nat)] (nl (D6 w l)):=by
 have jp:=hl.pos
 obtain⟨n,hn⟩: ∃n,l.length=n+1:=⟨l.length-1,by omega⟩
 have lp:=by_loop l w hl.ok hw jy n hn _ rfl _ rfl
 have hol:=@Qok w l (n+1) o_
 have hcb:=Qqw hl.ok hw (n+1) o_
 rw[mulE_out,hn]
 generalize Fi w l (n+1)=o at*
 generalize Fw w l (n+1)=c at*
 have hnto:=Qb0 o
 have e:byS l w 0 [] 0={sl:=[(0,nl l),(1,i6 (w:Nat)),(5,.nils),(6,i6 0),(7,i6 0)]}:=rfl
 rw[e]at lp
 by_cases h0:c=0
 ·rw [if_pos h0]
  subst h0
  rw[show nl o= .im (n+1) (nt o)by show V.im o.length (nt o)=_;rw[hol]]
  refine Ac.of_vc vE_ok Af Qaa (n:=1000) (r:=[]) (S:={sl:=[(4,.im (n+1) (nt o))]}) (hs:=[(0,.loop [] {sl:=[(0,nl l),(1,i6 (w:Nat)),(5,.nils),(6,i6 0),(7,i6 0)]} [(True,.exit 0,{sl:=[(5,.sl 0 0 (n+1) none),(6,i6 ((0:Nat):Int))],os:=[.row 3 (some 1) (nt o)]})]),no 31]) ?_
  refine m_ (p:=Bn [Sm (V.im (n+1) (nt o)),Bn [Bn [An [Sm l.length,Sm (nt l)],Sm (w:Int),Tt,Sm (0:Int),Sm (0:Int)]],Sat Pg none 0 (at' 44 [1,1,1,0,1,0]) (Ah g0 37 (SL.mk [(0,nl l),(1,i6 w),(5,V.nils),(6,i6 0),(7,i6 0)] [] [] [])) (Qaf g0 37 [(True,Ex.exit 0,SL.mk [(5,V.sl 0 0 (n+1) none),(6,i6 ↑(0:Nat))] [O.row 3 (some 1) (nt o)] [] [])]),(True→Bn [decide (((0:Nat):Int)>0)=false,Bn [An [Sm (n+1),Sm (nt o),HfL (nt o)]]])]) ?_
  (repeat'(first|(with_reducible apply And.intro)|(refine fun(_:True)=>?_)))
  all_goals first|exact lp|exact Qaz _|exact Qck (Qaz _) ⟨trivial,trivial⟩|exact aq|rfl|skip
 ·rw [if_neg h0]
  have hap:=Qlg o c
  rw[show nl (o++[c])= .im (n+1+1) (nt o++[i6 (c:Nat)])by show V.im (o++[c]).length (nt (o++[c]))=_;rw[hap,List.length_append,hol];rfl]
  refine Ac.of_vc vE_ok Af Qaa (n:=1000) (r:=[]) (S:={sl:=[(4,.im (n+1+1) (nt o++[i6 (c:Nat)]))]}) (hs:=[(0,.loop [] {sl:=[(0,nl l),(1,i6 (w:Nat)),(5,.nils),(6,i6 0),(7,i6 0)]} [(True,.exit 0,{sl:=[(5,.sl 0 0 (n+1) none),(6,i6 (c:Nat))],os:=[.row 3 (some 1) (nt o)]})]),yes 31,ap 35]) ?_
  refine m_ (p:=Bn [Sm (V.im (n+1+1) (nt o++[i6 c])),Bn [Bn [An [Sm l.length,Sm (nt l)],Sm (w:Int),Tt,Sm (0:Int),Sm (0:Int)]],Sat Pg none 0 (at' 44 [1,1,1,0,1,0]) (Ah g0 37 (SL.mk [(0,nl l),(1,i6 w),(5,V.nils),(6,i6 0),(7,i6 0)] [] [] [])) (Qaf g0 37 [(True,Ex.exit 0,SL.mk [(5,V.sl 0 0 (n+1) none),(6,i6 c)] [O.row 3 (some 1) (nt o)] [] [])]),(True→Bn [decide ((c:Int)>0)=true,List.length (nt o)=(n+1)*1,n+1+1≤9223372036854775807,(n+1+1)*8≤140737488355328,Bn [An [Sm (n+1+1),Sm (nt o++[i6 c]),HfL (nt o++[i6 c])]]])]) ?_
  (repeat'(first|(with_reducible apply And.intro)|(refine fun(_:True)=>?_)))
  all_goals first|exact lp|exact Qaz _|exact Qck (Qaz _) ⟨trivial,trivial⟩|(rw[Qb0];omega)|exact aq|rfl|skip
end Go.Proofs.YtakfneapahohkaaDoor.Am
