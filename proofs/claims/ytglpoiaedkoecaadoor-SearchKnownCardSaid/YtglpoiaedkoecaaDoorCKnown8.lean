/- Texts behind the claim, part 8: the abstract machine, and what the functions answer. No condition. -/
import Derived.Test.YtglpoiaedkoecaaDoorCKnown7
set_option linter.unusedVariables false
set_option linter.unusedSimpArgs false
set_option linter.unusedSectionVars false
namespace Go.Proofs.YtglpoiaedkoecaaDoor.Am
open Go.RowKit
set_option maxHeartbeats 4000000
set_option maxRecDepth 100000
theorem kn_loop(cards:List Int)(cs:List (List Int))(h1:1≤cards.length)(h6:cards.length≤6)(h40:cs.length≤40)(hcl: ∀c∈cs,c.length=cards.length):
  Sat Pg none 4 (at' 107 [0,1,1,0]) (mkSt g0 34 (knS cards cs (0,0,[]))) (Qah g0 34 [(True,.exit 0,knX cards cs (comp cs).length (comp cs))]):=by
 have hlr:=Qpz cards cs 4 (by decide)
 refine Qbi vE_ok mixed Qac (b:=at' 107 [0,1,1,0,0]) (by kernel_rfl) (fun q=>q.1≤cs.length∧q.2.2=comp (cs.take q.1)∧q.2.2.length=q.2.1) (knS cards cs) (fun q=>cs.length-q.1) (fun q hq=>?_) (0,0,[]) ⟨Nat.zero_le _,rfl,rfl⟩
 obtain⟨k,u,a⟩:=q
 obtain⟨hk,ha,hu⟩:=hq
 dsimp only at hk ha hu
 have hle:a.length≤k:=by
  rw[ha];unfold comp
  exact Nat.le_trans (List.length_filter_le _ _) (by rw[List.length_take];omega)
 have hla:=Qbt sl a (fun _=>trivial)
 by_cases hlt:k<cs.length
 ·have hck : cs[k]? = some cs[k] := List.getElem?_eq_getElem hlt
  have hlc:=hcl _ (List.getElem_mem hlt)
  generalize cs[k]=c at*
  have hld:headF ((cs.map sl).drop (k*1))=some (sl c):=Qdp hck
  have hnx:=Qop hck
  have hlen:((idL cards.length).length:Int)=(cards.length:Int):=by rw[Qhl]
  have hi:=ki_loop cards cs k u a c hlc h6
  rw[←ha]at hnx
  have hla2:=Qbt sl (a++[c]) (fun _=>trivial)
  cases hn:negB c with
  | true =>
   have hi:=hi.mono (Qci (by rw[hn];simp) hn)
   have hnx2:a=comp (cs.take (k+1)):=by rw[hnx,hn];simp
   cases u with
   |zero=>
    refine .inl ⟨(k+1,0,a),[],[yes 12,pl 14,ld 15 (sl c),nu 17 (cards.length:Nat),(0,.loop [] (kiS cards cs k 0 a c 0) [(True,.exit 1,kiY cards cs k 0 a)]),nu 33 (k+1:Nat)],1000,⟨hlt,hnx2,hu⟩,by dsimp only;omega,?_⟩
    clear ha hnx hnx2
    refine Eq.mp (by kernel_rfl:(let z0:=idL cards.length;let z1:=(↑cs.length:Int);let z2:=(↑k:Int);let z3:=List.map sl cs;let z5:=(↑cards.length:Int);let z6:=[V.nils,V.nils];let z7:=(↑(k+1):Int);let z9:=rkT cards cs;let y0:=ints cards;let z4:=O.loop .ready none 0 z9 [35,36] rkA rkB;let z8:=z0.length;An [decide (z2<z1)=true,An [(0:Int)≤z2,z2<z1],headF (List.drop (k*1) z3)=some (sl c),(↑(z8):Int)=z5,An [An [Tt,Sm [sl z0],An [Sm cs.length,z3=z3],z1=z1,z2=z2,z2=z2,An [Sm c.length,Sm (ints c)],An [z8=z8,Sm (ints z0)],z5=z5,(↑(0:Nat):Int)=(0:Int),Tt],An [z6=z6,TT 2],An [An [Sm cards.length,y0=y0],An [Zz,Zz,Zz],Tt],An [noL=noL,Tt],An [lkO cards cs .ready=z4,LowT 4 z9],Tt],Sat Pg none 4 (at' 107 [0,1,1,0,0,1,1,0,0,1,0,1,0]) (mkSt g0 34 (kiS cards cs k 0 a c 0)) (Qah g0 34 [(True,Ex.exit 1,kiY cards cs k 0 a)]),(True→An [wr .i64 (z2+(1:Int))=z7,An [Tt,Sm [sl z0],An [Sm cs.length,z3=z3],z1=z1,z7=z7,Tt],An [z6=z6,TT 2],An [An [Sm cards.length,y0=y0],An [Zz,Zz,Zz],Tt],An [noL=noL,Tt],An [lkO cards cs .ready=z4,LowT 4 z9],Tt]),Tt])=_) ?_
    (repeat'(first|(with_reducible apply And.intro)|(refine fun(_:True)=>?_)))
    all_goals first|exact hi|exact hlr|(with_reducible exact hld)|(with_reducible exact hlen)|exact aq|rfl|skip
   |succ u=>
    refine .inl ⟨(k+1,u+1,a),[4],[yes 12,pl 14,ld 15 (sl c),nu 17 (cards.length:Nat),(0,.loop [4] (kiS cards cs k (u+1) a c 0) [(True,.exit 1,kiY cards cs k (u+1) a)]),nu 33 (k+1:Nat)],1000,⟨hlt,hnx2,hu⟩,by dsimp only;omega,?_⟩
    clear ha hnx hnx2
    refine Eq.mp (by kernel_rfl:(let y2:=An [Zz,Sm (u+1),Tt];let z0:=idL cards.length;let z1:=(↑cs.length:Int);let z2:=(↑k:Int);let z3:=List.map sl a;let z4:=List.map sl cs;let z6:=(↑cards.length:Int);let z7:=[V.nils,V.nils];let z8:=(↑(k+1):Int);let y0:=rkT cards cs;let y1:=ints cards;let z5:=O.loop .ready none 0 y0 [35,36] rkA rkB;let z9:=z0.length;An [decide (z2<z1)=true,An [(0:Int)≤z2,z2<z1],headF (List.drop (k*1) z4)=some (sl c),(↑(z9):Int)=z6,An [An [Tt,Sm [sl z0],An [Sm cs.length,z4=z4],z1=z1,z2=z2,z2=z2,An [Sm c.length,Sm (ints c)],An [z9=z9,Sm (ints z0)],z6=z6,(↑(0:Nat):Int)=(0:Int),Tt],An [z7=z7,TT 2],An [An [Sm cards.length,y1=y1],y2,Tt],An [noL=noL,Tt],An [lkO cards cs .ready=z5,LowT 4 y0],An [z3=z3,HfL z3],Tt],Sat Pg none 4 (at' 107 [0,1,1,0,0,1,1,0,0,1,0,1,0]) (mkSt g0 34 (kiS cards cs k (u+1) a c 0)) (Qah g0 34 [(True,Ex.exit 1,kiY cards cs k (u+1) a)]),(True→An [wr .i64 (z2+(1:Int))=z8,An [Tt,Sm [sl z0],An [Sm cs.length,z4=z4],z1=z1,z8=z8,Tt],An [z7=z7,TT 2],An [An [Sm cards.length,y1=y1],y2,Tt],An [noL=noL,Tt],An [lkO cards cs .ready=z5,LowT 4 y0],An [z3=z3,HfL z3],Tt]),Tt])=_) ?_
    (repeat'(first|(with_reducible apply And.intro)|(refine fun(_:True)=>?_)))
    all_goals first|exact hi|exact hlr|(with_reducible exact hld)|exact hla|(with_reducible exact hlen)|exact aq|rfl|skip
  | false =>
   have hi:=hi.mono (Qch hn (by rw[hn];simp))
   have hnx2:a++[c]=comp (cs.take (k+1)):=by rw[hnx,hn];simp
   cases u with
   |zero=>
    have:a=[]:=List.eq_nil_of_length_eq_zero hu
    subst this
    have hcall:=yldk_A cards cs k c (by omega) (by omega)
    refine .inl ⟨(k+1,1,[c]),[5],[yes 12,pl 14,ld 15 (sl c),nu 17 (cards.length:Nat),(0,.loop [] (kiS cards cs k 0 [] c 0) [(True,.exit 2,kiX cards cs k 0 [] c)]),(31,.call ⟨.bool true,ofOs .e 0 (kA1 cards cs .ready c),6,[1,3]⟩),nu 33 (k+1:Nat)],1000,⟨hlt,hnx2,rfl⟩,by dsimp only;omega,?_⟩
    clear ha hnx hnx2
    refine Eq.mp (by kernel_rfl:(let z0:=idL cards.length;let z1:=(↑cs.length:Int);let z2:=(↑k:Int);let z3:=List.map sl cs;let z5:=(↑cards.length:Int);let z6:=[V.nils,V.nils];let z7:=(↑(k+1):Int);let z9:=rkT cards cs;let y0:=ints cards;let z4:=O.loop .ready none 0 z9 [35,36] rkA rkB;let z8:=z0.length;An [decide (z2<z1)=true,An [(0:Int)≤z2,z2<z1],headF (List.drop (k*1) z3)=some (sl c),(↑(z8):Int)=z5,An [An [Tt,Sm [sl z0],An [Sm cs.length,z3=z3],z1=z1,z2=z2,z2=z2,An [Sm c.length,Sm (ints c)],An [z8=z8,Sm (ints z0)],z5=z5,(↑(0:Nat):Int)=(0:Int),Tt],An [z6=z6,TT 2],An [An [Sm cards.length,y0=y0],An [Zz,Zz,Zz],Tt],An [noL=noL,Tt],An [lkO cards cs .ready=z4,LowT 4 z9],Tt],Sat Pg none 4 (at' 107 [0,1,1,0,0,1,1,0,0,1,0,1,0]) (mkSt g0 34 (kiS cards cs k 0 [] c 0)) (Qah g0 34 [(True,Ex.exit 2,kiX cards cs k 0 [] c)]),(True→An [CallSpec Pg g0 (V.yld 3) [i6 ↑k,sl c] (ofOs T.e 0 (kwS cards cs [] 0)) 4 (CR.mk (V.bool true) (ofOs T.e 0 (kA1 cards cs .ready c)) 6 [1,3]),Tt,wr .i64 (z2+(1:Int))=z7,An [Tt,Sm [sl z0],An [Sm cs.length,z3=z3],z1=z1,z7=z7,Tt],An [z6=z6,TT 2],An [An [Sm cards.length,y0=y0],An [Zz,1=1,Tt],Tt],An [noL=noL,Tt],An [lkO cards cs .ready=z4,LowT 4 z9],An [List.map sl [c]=[sl c],Tt,Tt],Tt]),Tt])=_) ?_
    (repeat'(first|(with_reducible apply And.intro)|(refine fun(_:True)=>?_)))
    all_goals first|exact hi|exact hcall|exact hlr|(with_reducible exact hld)|(with_reducible exact hlen)|exact aq|rfl|skip
   |succ u=>
    have hcall:=yldk_C cards cs u (a.map sl) (by simp[hu]) (by omega) k c (by omega) (by omega)
    refine .inl ⟨(k+1,u+1+1,a++[c]),[6],[yes 12,pl 14,ld 15 (sl c),nu 17 (cards.length:Nat),(0,.loop [4] (kiS cards cs k (u+1) a c 0) [(True,.exit 2,kiX cards cs k (u+1) a c)]),(31,.call ⟨.bool true,ofOs .e 0 (kC1 cards cs .ready u (a.map sl) c),7,[1,4,3]⟩),nu 33 (k+1:Nat)],1000,⟨hlt,hnx2,by simp[hu]⟩,by dsimp only;omega,?_⟩
    clear ha hnx hnx2
    have hmap:a.map sl++[sl c]=(a++[c]).map sl:=by simp
    refine Eq.mp (by kernel_rfl:(let z0:=idL cards.length;let z1:=(↑cs.length:Int);let z2:=(↑k:Int);let z3:=List.map sl cs;let z5:=List.map sl a;let z6:=(↑cards.length:Int);let z7:=[V.nils,V.nils];let z8:=(↑(k+1):Int);let y0:=rkT cards cs;let y1:=ints cards;let y2:=List.map sl (a++[c]);let z4:=O.loop .ready none 0 y0 [35,36] rkA rkB;let z9:=z0.length;An [decide (z2<z1)=true,An [(0:Int)≤z2,z2<z1],headF (List.drop (k*1) z3)=some (sl c),(↑(z9):Int)=z6,An [An [Tt,Sm [sl z0],An [Sm cs.length,z3=z3],z1=z1,z2=z2,z2=z2,An [Sm c.length,Sm (ints c)],An [z9=z9,Sm (ints z0)],z6=z6,(↑(0:Nat):Int)=(0:Int),Tt],An [z7=z7,TT 2],An [An [Sm cards.length,y1=y1],An [Zz,Sm (u+1),Tt],Tt],An [noL=noL,Tt],An [lkO cards cs .ready=z4,LowT 4 y0],An [z5=z5,HfL z5],Tt],Sat Pg none 4 (at' 107 [0,1,1,0,0,1,1,0,0,1,0,1,0]) (mkSt g0 34 (kiS cards cs k (u+1) a c 0)) (Qah g0 34 [(True,Ex.exit 2,kiX cards cs k (u+1) a c)]),(True→An [CallSpec Pg g0 (V.yld 3) [i6 ↑k,sl c] (ofOs T.e 0 (kwS cards cs a (u+1))) 5 (CR.mk (V.bool true) (ofOs T.e 0 (kC1 cards cs .ready u z5 c)) 7 [1,4,3]),Tt,wr .i64 (z2+(1:Int))=z8,An [Tt,Sm [sl z0],An [Sm cs.length,z3=z3],z1=z1,z8=z8,Tt],An [z7=z7,TT 2],An [An [Sm cards.length,y1=y1],An [Zz,Nat.succ u+1=u+2,Tt],Tt],An [noL=noL,Tt],An [lkO cards cs .ready=z4,LowT 4 y0],An [y2=z5++[sl c],HfL y2],Tt]),Tt])=_) ?_
    (repeat'(first|(with_reducible apply And.intro)|(refine fun(_:True)=>?_)))
    all_goals first|exact hi|exact hcall|exact hlr|(with_reducible exact hld)|(with_reducible exact hmap)|(with_reducible exact hmap.symm)|exact hla|exact hla2|(with_reducible exact hlen)|(with_reducible rfl)|(with_reducible exact trivial)|(with_reducible refine decide_eq_true ?_;omega)|(clear hi hcall hmap;omega)|(clear hi hcall hmap;exact wr6' (by omega) (by omega) (by omega))|skip
 ·have hke : k = cs.length := by omega
  subst hke
  rw[List.take_length]at ha
  subst ha
  cases u with
  |zero=>
   rw[hu]
   refine .inr ⟨.exit 0,[],knX cards cs 0 (comp cs),[no 12],1000,.inl ⟨trivial,rfl,rfl⟩,?_⟩
   clear hla hle hu
   refine Eq.mp (by kernel_rfl:(An [decide ((↑cs.length:Int)<(↑cs.length:Int))=false,Tt,An [Sm [V.nils,V.nils],TT 2],An [An [Sm cards.length,Sm (ints cards)],An [Zz,Zz,Zz],Tt],An [noL=noL,Tt],An [lkO cards cs .ready=O.loop .ready none 0 (rkT cards cs) [35,36] rkA rkB,LowT 4 (rkT cards cs)],Tt])=_) ?_
   (repeat'(first|(with_reducible apply And.intro)|(refine fun(_:True)=>?_)))
   all_goals first|exact hlr|exact aq|rfl|skip
  |succ u=>
   rw[hu]
   refine .inr ⟨.exit 0,[4],knX cards cs (u+1) (comp cs),[no 12],1000,.inl ⟨trivial,rfl,rfl⟩,?_⟩
   clear hle hu
   generalize comp cs=a at*
   refine Eq.mp (by kernel_rfl:(An [decide ((↑cs.length:Int)<(↑cs.length:Int))=false,Tt,An [Sm [V.nils,V.nils],TT 2],An [An [Sm cards.length,Sm (ints cards)],An [Zz,Sm (u+1),Tt],Tt],An [noL=noL,Tt],An [lkO cards cs .ready=O.loop .ready none 0 (rkT cards cs) [35,36] rkA rkB,LowT 4 (rkT cards cs)],An [Sm (List.map sl a),HfL (List.map sl a)],Tt])=_) ?_
   (repeat'(first|(with_reducible apply And.intro)|(refine fun(_:True)=>?_)))
   all_goals first|exact hlr|exact hla|exact aq|rfl|skip
theorem Qno(cards:List Int)(cs:List (List Int))(h1:1≤cards.length)(h6:cards.length≤6)(h40:cs.length≤40)(hcl: ∀c∈cs,c.length=cards.length)(a:List (List Int))(ha:a=comp cs)(m:Nat)(hm:a.length=m):
  CallSpec Pg g0 (.fn 107 [.imp [sl cards,gC cs],.imp [sl (idL cards.length)]]) [.yld 3] (ofOs .e 0 (kA cards cs .ready)) 4 ⟨.tup [],ofOs .e 0 (kwS cards cs a m),(kwS cards cs a m).length,[1,3]⟩:=by
 have l:=kn_loop cards cs h1 h6 h40 hcl
 rw[←ha]at l
 rw[hm]at l
 have hlr:=Qpz cards cs 4 (by decide)
 have hla:=Qbt sl a (fun _=>trivial)
 refine CallSpec.caps (caps:=[.imp [sl cards,gC cs],.imp [sl (idL cards.length)]]) (ars:=[.yld 3]) ?_
 clear ha
 cases m with
 | zero =>
  refine CallSpec.of_vcH (P:=Pg) (E:=vE) vE_ok mixed Qac (n:=1000) (f:=107) (os0:=kA cards cs .ready) (ars:=[.yld 3,.imp [sl cards,gC cs],.imp [sl (idL cards.length)]]) (r:=[])
   (S := { sl := [], os := kwS cards cs a 0, md := [0, 1], lg := [1, 3] }) (v := .tup []) (hs := [(0, .loop [] (knS cards cs (0, 0, [])) [(True, .exit 0, knX cards cs 0 a)])]) (gl := g0) (by simp) (fun i hi hno => by
    rcases(show i=0∨i=1∨i=2∨i=3 by simp at hi;omega)with rfl|rfl|rfl|rfl<;>first|rfl|(simp at hno)) ?_
  refine Eq.mp (by kernel_rfl:(let z1:=[V.nils,V.nils];let z2:=rkT cards cs;let z3:=ints cards;let z4:=[sl (idL cards.length)];let z0:=O.loop .ready none 0 z2 [35,36] rkA rkB;An [Sm (V.tup []),An [An [Tt,z4=z4,An [Sm cs.length,Sm (List.map sl cs)],Sm (↑cs.length:Int),(↑(0:Nat):Int)=(0:Int),Tt],An [z1=z1,TT 2],An [An [Sm cards.length,z3=z3],An [Zz,Zz,Zz],Tt],An [noL=noL,Tt],An [lkO cards cs .ready=z0,LowT 4 z2],Tt],Sat Pg none 4 (at' 107 [0,1,1,0]) (mkSt g0 34 (knS cards cs (0,0,[]))) (Qah g0 34 [(True,Ex.exit 0,knX cards cs 0 a)]),(True→An [Tt,An [z1=z1,TT 2],An [An [Sm cards.length,z3=z3],An [Zz,Zz,Zz],Tt],An [noL=noL,Tt],An [lkO cards cs .ready=z0,LowT 4 z2],Tt]),Tt])=_) ?_
  (repeat'(first|(with_reducible apply And.intro)|(refine fun(_:True)=>?_)))
  all_goals first|exact l|exact hlr|exact aq|rfl|skip
 | succ k =>
  refine CallSpec.of_vcH (P:=Pg) (E:=vE) vE_ok mixed Qac (n:=1000) (f:=107) (os0:=kA cards cs .ready) (ars:=[.yld 3,.imp [sl cards,gC cs],.imp [sl (idL cards.length)]]) (r:=[4])
   (S := { sl := [], os := kwS cards cs a (k + 1), md := [0, 1], lg := [1, 3] }) (v := .tup []) (hs := [(0, .loop [] (knS cards cs (0, 0, [])) [(True, .exit 0, knX cards cs (k + 1) a)])]) (gl := g0) (by simp) (fun i hi hno => by
    rcases(show i=0∨i=1∨i=2∨i=3 by simp at hi;omega)with rfl|rfl|rfl|rfl<;>first|rfl|(simp at hno)) ?_
  refine Eq.mp (by kernel_rfl:(let z1:=[V.nils,V.nils];let z2:=rkT cards cs;let z3:=ints cards;let z4:=List.map sl a;let z5:=[sl (idL cards.length)];let z0:=O.loop .ready none 0 z2 [35,36] rkA rkB;An [Sm (V.tup []),An [An [Tt,z5=z5,An [Sm cs.length,Sm (List.map sl cs)],Sm (↑cs.length:Int),(↑(0:Nat):Int)=(0:Int),Tt],An [z1=z1,TT 2],An [An [Sm cards.length,z3=z3],An [Zz,Zz,Zz],Tt],An [noL=noL,Tt],An [lkO cards cs .ready=z0,LowT 4 z2],Tt],Sat Pg none 4 (at' 107 [0,1,1,0]) (mkSt g0 34 (knS cards cs (0,0,[]))) (Qah g0 34 [(True,Ex.exit 0,knX cards cs (k+1) a)]),(True→An [Tt,An [z1=z1,TT 2],An [An [Sm cards.length,z3=z3],An [Zz,Sm (k+1),Tt],Tt],An [noL=noL,Tt],An [lkO cards cs .ready=z0,LowT 4 z2],An [z4=z4,HfL z4],Tt]),Tt])=_) ?_
  (repeat'(first|(with_reducible apply And.intro)|(refine fun(_:True)=>?_)))
  all_goals first|exact l|exact hlr|exact hla|exact aq|rfl|skip
theorem Qng(cards:List Int)(cs:List (List Int))(h1:1≤cards.length)(h6:cards.length≤6):
  CallSpec Pg g0 (.fn 85 []) [gV cards cs] (ofOs .e 0 [gO cards cs,.row 32 none [.nils,.nils]]) 2 ⟨.agg [sl cards,.sl 2 0 0 (some 0)],ofOs .e 0 [gO cards cs,.row 32 none [.nils,.nils],.row 29 none noL,.row 32 none [sl cards,.sl 2 0 0 (some 0)]],4,[]⟩:=by
 have hcl:=Qey cards h6 h1
 have hg:=Qap cs
 have hc:=Qad cards
 refine CallSpec.of_vcH (P:=Pg) (E:=vE) vE_ok mixed Qac (n:=1000) (f:=85) (os0:=[gO cards cs,.row 32 none [.nils,.nils]]) (ars:=[gV cards cs]) (r:=[4,3])
   (S := { sl := [(2, .ptr 3 0)], os := [gO cards cs, .row 32 none [.nils, .nils], .row 29 none noL, .row 32 none [sl cards, .sl 2 0 0 (some 0)]], md := [0, 0, 0, 1] }) (v := .agg [sl cards, .sl 2 0 0 (some 0)]) (hs := [fn 5 (sl cards)]) (gl := g0) (by simp) (fun i hi hno => by
    rcases(show i=0∨i=1 by simp at hi;omega)with rfl|rfl<;>first|rfl|(simp at hno)) ?_
 refine Eq.mp (by kernel_rfl:(An [Sm (V.agg [sl cards,V.sl 2 0 0 (some 0)]),An [Tt,Tt],FnOk Pg g0 87 [V.im cards.length (ints cards)] (sl cards),Tt,An [Zz,Tt],An [Sm [sl cards,gC cs],TT 2],An [Sm [V.nils,V.nils],TT 2],An [noL=[],Tt],An [An [Sm cards.length,Sm (ints cards)],An [Zz,Zz,Zz],Tt],Tt])=_) ?_
 (repeat'(first|(with_reducible apply And.intro)|(refine fun(_:True)=>?_)))
 all_goals first|exact hcl|exact aq|rfl|skip
abbrev idxS(cards:List Int)(cs:List (List Int))(k:Nat):SL:={sl:=[(1,.ptr 0 0),(2,.ptr 1 0),(5,.sl 2 0 cards.length (some (cards.length-cards.length))),(21,i6 (cards.length:Nat)),(22,i6 (k:Nat))],os:=[gO cards cs,.row 32 none [.nils,.nils],.row 3 none (nF (idF k) cards.length)]}
abbrev idxX(cards:List Int)(cs:List (List Int)):SL:={sl:=[(1,.ptr 0 0),(2,.ptr 1 0),(5,sl (idL cards.length))],os:=[gO cards cs,.row 32 none [.nils,.nils]]}
theorem idx_loop(cards:List Int)(cs:List (List Int))(h6:cards.length≤6):
  Sat Pg none 0 (at' 38 [1,1,1,0,1,0]) (mkSt g0 45 (idxS cards cs 0)) (Qah g0 45 [(True,.exit 0,idxX cards cs)]):=by
 have hg:=Qap cs
 have hc:=Qad cards
 refine Qbi vE_ok mixed Qac (b:=at' 38 [1,1,1,0,1,0,0]) (by kernel_rfl) (fun k=>k≤cards.length) (idxS cards cs) (fun k=>cards.length-k) (fun k hk=>?_) 0 (Nat.zero_le _)
 have hF:=Qaf (idF k) cards.length
 by_cases hlt:k<cards.length
 ·have y := @Qc3 (idF k) cards.length k hlt k
  rw[idF_next]at y
  have hF1:=Qaf (idF (k+1)) cards.length
  refine .inl ⟨k+1,[0,1,2],[yes 23,pl 28,st (nF (idF (k+1)) cards.length),nu 29 (k+1:Nat)],1000,hlt,by omega,?_⟩
  refine Eq.mp (by kernel_rfl:(let z0:=nF (idF (k+1)) cards.length;let z1:=(↑cards.length:Int);let z2:=(↑(k+1):Int);let z3:=(↑k:Int);An [decide (z3<z1)=true,An [(0:Int)≤z3,z3<z1],layE (0+k*1) (nF (idF k) cards.length) [i6 ↑k]=some z0,wr .i64 (z3+(1:Int))=z2,An [Zz,Zz,An [Zz,Sm cards.length,Sm (cards.length-cards.length)],z1=z1,z2=z2,Tt],An [Sm [sl cards,gC cs],TT 2],An [Sm [V.nils,V.nils],TT 2],An [z0=z0,HfL z0],Tt])=_) ?_
  (repeat'(first|(with_reducible apply And.intro)|(refine fun(_:True)=>?_)))
  all_goals first|(with_reducible exact y)|exact hF|exact hF1|exact hg|exact hc|exact aq|rfl|skip
 ·have he : k = cards.length := by omega
  subst he
  have e:=nF_idF cards.length
  have hl:=Qhl cards.length
  refine .inr ⟨.exit 0,[0,1],idxX cards cs,[no 23],1000,.inl ⟨trivial,rfl,rfl⟩,?_⟩
  refine Eq.mp (by kernel_rfl:(let z0:=nF (idF cards.length) cards.length;let z1:=(↑cards.length:Int);An [decide (z1<z1)=false,An [Zz,Zz,An [List.length (idL cards.length)=cards.length,ints (idL cards.length)=z0,HfL z0],Tt],An [Sm [sl cards,gC cs],TT 2],An [Sm [V.nils,V.nils],TT 2],Tt])=_) ?_
  (repeat'(first|(with_reducible apply And.intro)|(refine fun(_:True)=>?_)))
  all_goals first|(with_reducible exact e)|(with_reducible exact e.symm)|(with_reducible exact hl)|(with_reducible exact hl.symm)|exact hF|exact hg|exact hc|exact aq|rfl|skip
abbrev kvV(l:List (List Int)):Nat→V
 |0=>.sl 2 0 0 (some 0)
 |k+1=>.sl 2 0 (k+1) none
abbrev kvL(l:List (List Int)):Nat→O
 |0=>.row 29 none noL
 |k+1=>.row 29 (some 1) (l.map sl)
abbrev kS0(cards:List Int)(cs:List (List Int)):SL:={sl:=kZ cards cs,os:=[.row 32 none [.nils,.nils],.row 32 none [sl cards,.sl 2 0 0 (some 0)],.row 29 none noL],md:=[0,1]}
abbrev kS1(cards:List Int)(a:List (List Int))(m:Nat):SL:={sl:=[(2,.ptr 0 0),(7,.ptr 1 0)],os:=[.row 32 none [.nils,.nils],.row 32 none [sl cards,kvV a m],kvL a m],md:=[0,1]}
theorem Qmt(cards:List Int)(cs:List (List Int))(h1:1≤cards.length)(h6:cards.length≤6)(h40:cs.length≤40)(hcl: ∀c∈cs,c.length=cards.length)(a:List (List Int))(ha:a=comp cs)(m:Nat)(hm:a.length=m):
  Sat Pg none 0 rkC (mkSt g0 45 (kS0 cards cs)) (Qah g0 45 [(True,.normal,kS1 cards a m)]):=by
 rw[rk_eq]
 have hla:=Qbt sl a (fun _=>trivial)
 have hcall:=Qno cards cs h1 h6 h40 hcl a ha m hm
 clear ha
 cases m with
 |zero=>
  refine Sat.rangeC (gl:=g0) (r:=[0,1,2]) (S:=kS0 cards cs) (f:=107) (caps:=[.imp [sl cards,gC cs],.imp [sl (idL cards.length)]]) (H1:=ofOs .e 0 (kwS cards cs a 0)) (nx1:=4) (v:=.tup []) rfl rfl hcall (by kernel_rfl) ?_
  refine Eq.mp (by kernel_rfl:(An [An [Zz,Zz,Tt],An [Sm [V.nils,V.nils],TT 2],An [An [Sm cards.length,Sm (ints cards)],An [Zz,Zz,Zz],Tt],An [noL=noL,Tt],Tt])=_) ?_
  (repeat'(first|(with_reducible apply And.intro)|(refine fun(_:True)=>?_)))
  all_goals first|exact hla|exact aq|rfl|skip
 |succ k=>
  refine Sat.rangeC (gl:=g0) (r:=[0,1,4]) (S:=kS0 cards cs) (f:=107) (caps:=[.imp [sl cards,gC cs],.imp [sl (idL cards.length)]]) (H1:=ofOs .e 0 (kwS cards cs a (k+1))) (nx1:=5) (v:=.tup []) rfl rfl hcall (by kernel_rfl) ?_
  refine Eq.mp (by kernel_rfl:(An [An [Zz,Zz,Tt],An [Sm [V.nils,V.nils],TT 2],An [An [Sm cards.length,Sm (ints cards)],An [Zz,Sm (k+1),Tt],Tt],An [Sm (List.map sl a),HfL (List.map sl a)],Tt])=_) ?_
  (repeat'(first|(with_reducible apply And.intro)|(refine fun(_:True)=>?_)))
  all_goals first|exact hla|exact aq|rfl|skip
def cmpE(cards:List Int)(cs:List (List Int)):V:=.tup [bif okAll cards cs then gV cards (comp cs)else .agg [.nils,.nils],i6 (chkE cards cs)]
theorem Qiw(cards:List Int)(cs:List (List Int))(hl1:cards.length≤1000)(hl2:cs.length≤1000):FnOk Pg g0 38 [gV cards cs] (cmpE cards cs):=by
 have hck:=Qlw cards cs hl1 hl2
 have hg:=Qap cs
 have hc:=Qad cards
 unfold cmpE
 cases hok:okAll cards cs with
 |false=>
  have e:chkE cards cs=250:=by unfold chkE;rw[hok];rfl
  rw[e]at hck⊢
  refine FnOk.of_vc vE_ok mixed Qac (n:=1000) (r:=[1]) (S:={sl:=[(2,.ptr 0 0),(3,i6 250)],os:=[.row 32 none [.nils,.nils]]}) (hs:=[fn 11 (i6 250)]) ?_
  refine Eq.mp (by kernel_rfl:(An [Sm (V.tup [V.agg [V.nils,V.nils],i6 250]),An [TT 2,Tt],FnOk Pg g0 84 [V.agg [V.im cards.length (ints cards),V.im cs.length (List.map sl cs)]] (i6 250),Tt,An [Zz,Sm (250:Int),Tt],An [Sm [V.nils,V.nils],TT 2],Tt])=_) ?_
  (repeat'(first|(with_reducible apply And.intro)|(refine fun(_:True)=>?_)))
  all_goals first|exact hck|exact hg|exact hc|exact aq|rfl|skip
 | true =>
  have e:chkE cards cs=0:=by unfold chkE;rw[hok];rfl
  rw[e]at hck⊢
  have hb:decide (1≤cards.length)=true∧decide (cards.length≤6)=true∧decide (cs.length≤40)=true∧okCs cards=true∧decide (prodT cards cards.length≤1024)=true∧cs.all (okRow cards)=true:=by
   unfold okAll at hok
   simpa [Bool.and_eq_true]using hok
  have h1:=of_decide_eq_true hb.1
  have h6:=of_decide_eq_true hb.2.1
  have h40:=of_decide_eq_true hb.2.2.1
  have hcl: ∀c∈cs,c.length=cards.length:=fun c hcm=>by
   have:=List.all_eq_true.1 hb.2.2.2.2.2 c hcm
   unfold okRow at this
   rw[Bool.and_eq_true]at this
   exact of_decide_eq_true this.1
  have lx:=idx_loop cards cs h6
  have hrep:=rep_nF cards.length
  have hem:=Qng cards cs h1 h6
  have hkn:=known_fn cards cs cards.length
  have hF:=Qaf (idF 0) cards.length
  generalize ha:comp cs=a
  have hla:=Qbt sl a (fun _=>trivial)
  have hle:a.length≤40:=by
   rw[←ha];unfold comp
   exact Nat.le_trans (List.length_filter_le _ _) h40
  cases hm:a.length with
  |zero=>
   have lr:=Qmt cards cs h1 h6 h40 hcl a ha.symm 0 hm
   have:a=[]:=List.eq_nil_of_length_eq_zero hm
   subst this
   clear hb hok
   refine FnOk.of_vc vE_ok mixed Qac (n:=1000) (r:=[0]) (S:={sl:=[(2,.ptr 0 0),(3,i6 0)],os:=[.row 32 none [sl cards,.im 0 []]],md:=[1]}) (hs:=[fn 11 (i6 0),mk 19,(0,.loop [0,1,2] (idxS cards cs 0) [(True,.exit 0,idxX cards cs)]),(31,.call ⟨.agg [sl cards,.sl 2 0 0 (some 0)],ofOs .e 0 [gO cards cs,.row 32 none [.nils,.nils],.row 29 none noL,.row 32 none [sl cards,.sl 2 0 0 (some 0)]],4,[]⟩),fn 34 (.fn 107 [.imp [sl cards,gC cs],.imp [sl (idL cards.length)]]),(0,.loop [1,4,2] (kS0 cards cs) [(True,.normal,kS1 cards [] 0)])]) ?_
   refine Eq.mp (by kernel_rfl:(let z9:=Sm cards.length;let z0:=(↑cards.length:Int);let z1:=[sl cards,gC cs];let z2:=[V.nils,V.nils];let z4:=idL cards.length;let z5:=ints cards;let z6:=[sl cards,V.sl 2 0 0 (some 0)];let z7:=nF (idF 0) cards.length;let z8:=(0:Int);let z3:=V.agg [V.im cards.length z5,V.im cs.length (List.map sl cs)];An [V.tup [V.agg [sl cards,V.im 0 []],i6 0]=V.tup [gV cards [],i6 0],An [TT 2,Tt],FnOk Pg g0 84 [z3] (i6 0),Tt,An [z8≤z0,z0≤z0,(↑(8:Nat):Int)*z0≤(281474976710656:Int),z0≤(9223372036854775807:Int)],An [An [Zz,Zz,An [Zz,z9,Sm (cards.length-cards.length)],z0=z0,(↑(0:Nat):Int)=z8,Tt],An [z1=z1,TT 2],An [z2=z2,TT 2],An [z7=rep cards.length [i6 0],HfL z7],Tt],Sat Pg none 0 (at' 38 [1,1,1,0,1,0]) (mkSt g0 45 (idxS cards cs 0)) (Qah g0 45 [(True,Ex.exit 0,idxX cards cs)]),(True→An [CallSpec Pg g0 (V.fn 85 []) [V.agg z1] (ofOs T.e 0 [gO cards cs,O.row 32 none z2]) 2 (CR.mk (V.agg z6) (ofOs T.e 0 [gO cards cs,O.row 32 none z2,O.row 29 none noL,O.row 32 none z6]) 4 []),Tt,An [TT 2,Tt,Tt],FnOk Pg g0 86 [z3,V.im z4.length (ints z4)] (V.fn 107 [V.imp z1,V.imp [sl z4]]),Tt,An [An [Zz,Zz,An [z1=z1,Sm [sl z4],Tt],Tt],An [z2=z2,TT 2],An [An [z9,z5=z5],An [Zz,Zz,Zz],Tt],An [noL=noL,Tt],Tt],Sat Pg none 0 (at' 38 [1,1,1,1,1,0,1,0]) (mkSt g0 45 (kS0 cards cs)) (Qah g0 45 [(True,Ex.normal,kS1 cards [] 0)]),(True→An [An [Zz,z8=z8,Tt],An [An [z9,z5=z5],An [Zz,[]=noL,Tt],Tt],Tt]),Tt]),Tt])=_) ?_
   (repeat'(first|(with_reducible apply And.intro)|(refine fun(_:True)=>?_)))
   all_goals first|exact hck|exact lx|exact lr|exact hem|exact hkn|(with_reducible exact hrep)|exact hg|exact hc|exact hF|exact aq|rfl|skip
  |succ k=>
   have lr:=Qmt cards cs h1 h6 h40 hcl a ha.symm (k+1) hm
   rw[show gV cards a= .agg [sl cards,.im (k+1) (a.map sl)]by show V.agg [sl cards,.im a.length (a.map sl)]=_;rw[hm]]
   clear hb hok
   refine FnOk.of_vc vE_ok mixed Qac (n:=1000) (r:=[0]) (S:={sl:=[(2,.ptr 0 0),(3,i6 0)],os:=[.row 32 none [sl cards,.im (k+1) (a.map sl)]],md:=[1]}) (hs:=[fn 11 (i6 0),mk 19,(0,.loop [0,1,2] (idxS cards cs 0) [(True,.exit 0,idxX cards cs)]),(31,.call ⟨.agg [sl cards,.sl 2 0 0 (some 0)],ofOs .e 0 [gO cards cs,.row 32 none [.nils,.nils],.row 29 none noL,.row 32 none [sl cards,.sl 2 0 0 (some 0)]],4,[]⟩),fn 34 (.fn 107 [.imp [sl cards,gC cs],.imp [sl (idL cards.length)]]),(0,.loop [1,4,2] (kS0 cards cs) [(True,.normal,kS1 cards a (k+1))])]) ?_
   refine Eq.mp (by kernel_rfl:(let y1:=Sm cards.length;let z0:=(↑cards.length:Int);let z1:=[sl cards,gC cs];let z2:=[V.nils,V.nils];let z4:=idL cards.length;let z6:=List.map sl a;let z7:=ints cards;let z8:=[sl cards,V.sl 2 0 0 (some 0)];let z9:=nF (idF 0) cards.length;let y0:=(0:Int);let z3:=V.agg [V.im cards.length z7,V.im cs.length (List.map sl cs)];let z5:=V.tup [V.agg [sl cards,V.im (k+1) z6],i6 0];An [z5=z5,An [TT 2,Tt],FnOk Pg g0 84 [z3] (i6 0),Tt,An [y0≤z0,z0≤z0,(↑(8:Nat):Int)*z0≤(281474976710656:Int),z0≤(9223372036854775807:Int)],An [An [Zz,Zz,An [Zz,y1,Sm (cards.length-cards.length)],z0=z0,(↑(0:Nat):Int)=y0,Tt],An [z1=z1,TT 2],An [z2=z2,TT 2],An [z9=rep cards.length [i6 0],HfL z9],Tt],Sat Pg none 0 (at' 38 [1,1,1,0,1,0]) (mkSt g0 45 (idxS cards cs 0)) (Qah g0 45 [(True,Ex.exit 0,idxX cards cs)]),(True→An [CallSpec Pg g0 (V.fn 85 []) [V.agg z1] (ofOs T.e 0 [gO cards cs,O.row 32 none z2]) 2 (CR.mk (V.agg z8) (ofOs T.e 0 [gO cards cs,O.row 32 none z2,O.row 29 none noL,O.row 32 none z8]) 4 []),Tt,An [TT 2,Tt,Tt],FnOk Pg g0 86 [z3,V.im z4.length (ints z4)] (V.fn 107 [V.imp z1,V.imp [sl z4]]),Tt,An [An [Zz,Zz,An [z1=z1,Sm [sl z4],Tt],Tt],An [z2=z2,TT 2],An [An [y1,z7=z7],An [Zz,Zz,Zz],Tt],An [noL=noL,Tt],Tt],Sat Pg none 0 (at' 38 [1,1,1,1,1,0,1,0]) (mkSt g0 45 (kS0 cards cs)) (Qah g0 45 [(True,Ex.normal,kS1 cards a (k+1))]),(True→An [An [Zz,y0=y0,Tt],An [An [y1,z7=z7],An [Sm (k+1),z6=z6,HfL z6],Tt],Tt]),Tt]),Tt])=_) ?_
   (repeat'(first|(with_reducible apply And.intro)|(refine fun(_:True)=>?_)))
   all_goals first|exact hck|exact lx|exact lr|exact hem|exact hkn|(with_reducible exact hrep)|exact hg|exact hc|exact hF|exact hla|exact aq|rfl|skip
def Qca(cards:List Int)(cs:List (List Int))(lim:Int):Int:=if goodE cards cs=0 then(if 5<cards.length∨lim<0∨4<lim then 2 else 0)else goodE cards cs
abbrev e4(e:Int):SL:={sl:=[(4,i6 e)]}
theorem Qjx(cards:List Int)(cs:List (List Int))(lim:Int)(hl1:cards.length≤1000)(hl2:cs.length≤1000):FnOk Pg g0 108 [gV cards cs,i6 lim] (i6 (Qca cards cs lim)):=by
 have hd:=Qiw cards cs hl1 hl2
 have hg:=Qap cs
 have hc:=Qad cards
 unfold cmpE at hd
 unfold Qca goodE
 cases hok:okAll cards cs with
 |false=>
  have e:chkE cards cs=250:=by unfold chkE;rw[hok];rfl
  rw[e,hok,cond_false]at hd
  simp only[Bool.false_eq_true,if_false,show((250:Int)=0)=False from by simp]
  refine FnOk.of_vc vE_ok mixed Qac (n:=1000) (r:=[]) (S:=e4 250) (hs:=[fn 9 (.tup [.agg [.nils,.nils],i6 250]),yes 13]) ?_
  refine Eq.mp (by kernel_rfl:(An [Sm (i6 250),An [TT 2,Tt],FnOk Pg g0 38 [V.agg [V.im cards.length (ints cards),V.im cs.length (List.map sl cs)]] (V.tup [V.agg [V.nils,V.nils],i6 250]),Tt,((250:Int) != (0:Int))=true,An [Sm (250:Int),Tt],Tt])=_) ?_
  (repeat'(first|(with_reducible apply And.intro)|(refine fun(_:True)=>?_)))
  all_goals first|exact hd|exact hg|exact hc|exact aq|rfl|skip
 | true =>
  have e:chkE cards cs=0:=by unfold chkE;rw[hok];rfl
  rw[e,hok,cond_true]at hd
  simp only[if_true]
  have hla:=Qbt sl (comp cs) (fun _=>trivial)
  have hle:(comp cs).length≤cs.length:=List.length_filter_le _ _
  cases hn:cs.any negB with
  | true =>
   have hne:(comp cs).length≠cs.length:=fun h=>by have:=(Qly cs).1 h;rw[hn]at this;cases this
   simp only[if_true,show((260:Int)=0)=False from by simp,if_false]
   generalize comp cs=a at*
   have hbn:((a.length:Int)==(cs.length:Int))=false:=by
    rw[beq_eq_false_iff_ne];omega
   refine FnOk.of_vc vE_ok mixed Qac (n:=1000) (r:=[]) (S:=e4 260) (hs:=[fn 9 (.tup [gV cards a,i6 0]),no 13,yes 21]) ?_
   refine Eq.mp (by kernel_rfl:(An [Sm (i6 260),An [TT 2,Tt],FnOk Pg g0 38 [V.agg [V.im cards.length (ints cards),V.im cs.length (List.map sl cs)]] (V.tup [gV cards a,i6 0]),Tt,((0:Int) != (0:Int))=false,((↑a.length:Int) != (↑cs.length:Int))=true,An [Sm (260:Int),Tt],Tt])=_) ?_
   (repeat'(first|(with_reducible apply And.intro)|(refine fun(_:True)=>?_)))
   all_goals first|exact hd|exact hg|exact hc|exact hla|exact hbn|exact aq|rfl|skip
  | false =>
   have heq:(comp cs).length=cs.length:=(Qly cs).2 hn
   simp only[Bool.false_eq_true,if_false,if_true]
   generalize comp cs=a at*
   have hbn:((a.length:Int)==(cs.length:Int))=true:=by
    rw[heq];exact beq_self_eq_true _
   by_cases h1:5<cards.length
   ·rw [if_pos (Or.inl h1)]
    refine FnOk.of_vc vE_ok mixed Qac (n:=1000) (r:=[]) (S:=e4 2) (hs:=[fn 9 (.tup [gV cards a,i6 0]),no 13,no 21,yes 25]) ?_
    refine Eq.mp (by kernel_rfl:(An [Sm (i6 2),An [TT 2,Tt],FnOk Pg g0 38 [V.agg [V.im cards.length (ints cards),V.im cs.length (List.map sl cs)]] (V.tup [gV cards a,i6 0]),Tt,((0:Int) != (0:Int))=false,((↑a.length:Int) != (↑cs.length:Int))=false,decide ((↑cards.length:Int)>(5:Int))=true,An [Sm (2:Int),Tt],Tt])=_) ?_
    (repeat'(first|(with_reducible apply And.intro)|(refine fun(_:True)=>?_)))
    all_goals first|exact hd|exact hg|exact hc|exact hla|exact hbn|exact aq|rfl|skip
   ·by_cases h2 : lim < 0
    ·rw [if_pos (Or.inr (Or.inl h2))]
     refine FnOk.of_vc vE_ok mixed Qac (n:=1000) (r:=[]) (S:=e4 2) (hs:=[fn 9 (.tup [gV cards a,i6 0]),no 13,no 21,no 25,yes 28]) ?_
     refine Eq.mp (by kernel_rfl:(An [Sm (i6 2),An [TT 2,Tt],FnOk Pg g0 38 [V.agg [V.im cards.length (ints cards),V.im cs.length (List.map sl cs)]] (V.tup [gV cards a,i6 0]),Tt,((0:Int) != (0:Int))=false,((↑a.length:Int) != (↑cs.length:Int))=false,decide ((↑cards.length:Int)>(5:Int))=false,decide (lim<(0:Int))=true,An [Sm (2:Int),Tt],Tt])=_) ?_
     (repeat'(first|(with_reducible apply And.intro)|(refine fun(_:True)=>?_)))
     all_goals first|exact hd|exact hg|exact hc|exact hla|exact hbn|exact aq|rfl|skip
    ·by_cases h3 : 4 < lim
     ·rw [if_pos (Or.inr (Or.inr h3))]
      refine FnOk.of_vc vE_ok mixed Qac (n:=1000) (r:=[]) (S:=e4 2) (hs:=[fn 9 (.tup [gV cards a,i6 0]),no 13,no 21,no 25,no 28,yes 32]) ?_
      refine Eq.mp (by kernel_rfl:(An [Sm (i6 2),An [TT 2,Tt],FnOk Pg g0 38 [V.agg [V.im cards.length (ints cards),V.im cs.length (List.map sl cs)]] (V.tup [gV cards a,i6 0]),Tt,((0:Int) != (0:Int))=false,((↑a.length:Int) != (↑cs.length:Int))=false,decide ((↑cards.length:Int)>(5:Int))=false,decide (lim<(0:Int))=false,decide (lim>(4:Int))=true,An [Sm (2:Int),Tt],Tt])=_) ?_
      (repeat'(first|(with_reducible apply And.intro)|(refine fun(_:True)=>?_)))
      all_goals first|exact hd|exact hg|exact hc|exact hla|exact hbn|exact aq|rfl|skip
     ·rw [if_neg (by omega)]
      refine FnOk.of_vc vE_ok mixed Qac (n:=1000) (r:=[]) (S:=e4 0) (hs:=[fn 9 (.tup [gV cards a,i6 0]),no 13,no 21,no 25,no 28,no 32]) ?_
      refine Eq.mp (by kernel_rfl:(let z0:=(0:Int);An [Sm (i6 0),An [TT 2,Tt],FnOk Pg g0 38 [V.agg [V.im cards.length (ints cards),V.im cs.length (List.map sl cs)]] (V.tup [gV cards a,i6 0]),Tt,(z0 != z0)=false,((↑a.length:Int) != (↑cs.length:Int))=false,decide ((↑cards.length:Int)>(5:Int))=false,decide (lim<z0)=false,decide (lim>(4:Int))=false,An [z0=z0,Tt],Tt])=_) ?_
      (repeat'(first|(with_reducible apply And.intro)|(refine fun(_:True)=>?_)))
      all_goals first|exact hd|exact hg|exact hc|exact hla|exact hbn|exact aq|rfl|skip
set_option maxHeartbeats 1000000
set_option maxHeartbeats 4000000
def fF(cards:List Int)(cs:List (List Int))(v p:Nat):Nat→Int:=if v<cards.length then famG cards cs v p else zeroF
theorem Qo3{cards:List Int}{cs:List (List Int)}(h:goodE cards cs=0)(h40:cs.length≤40)(v p:Nat):inB (fF cards cs v p) 160:=by
 have hw:=Qm3 h
 unfold fF
 split
 ·intro i hi
  unfold famG
  exact fam_le hw.cok hw.rok (by rw[Qaz];omega) (by rw[List.length_map];exact h40) hi
 ·exact inB_zero.mono (by decide)
section
variable (n lim:Nat) (F:Nat→Nat→Nat→Int)
def laT:Nat→Nat→Nat
 |0=>fun _=>0
 |s+1=>sL s (stB n lim F s) (laT s)
def paT:Nat→Nat→Nat
 |0=>fun _=>0
 |s+1=>sP s (stB n lim F s) (paT s)
def allA:Nat→(Nat→Nat×Nat)×Nat
 |0=>(fun _=>(0,0),0)
 |s+1=>outA lim s (allA s).1 (allA s).2 n
end
theorem tab_next(n lim:Nat)(F:Nat→Nat→Nat→Int)(s:Nat):sB s (stB n lim F s) (tabB n lim F s)=tabB n lim F (s+1):=rfl
theorem tab_none(n lim:Nat)(F:Nat→Nat→Nat→Int)(s:Nat):sB s none (tabB n lim F s)=tabB n lim F s:=by
 funext i
 unfold sB
 split
 ·rename_i h
  rw[Qcm,if_neg (by omega)];rfl
 ·rfl
theorem la_ge(n lim:Nat)(F:Nat→Nat→Nat→Int): ∀(s i:Nat),s≤i→laT n lim F s i=0
 |0,_,_=>rfl
 |s+1,i,h=>by
  unfold laT sL
  rw[if_neg (by omega)]
  exact la_ge n lim F s i (by omega)
theorem pa_ge(n lim:Nat)(F:Nat→Nat→Nat→Int): ∀(s i:Nat),s≤i→paT n lim F s i=0
 |0,_,_=>rfl
 |s+1,i,h=>by
  unfold paT sP
  rw[if_neg (by omega)]
  exact pa_ge n lim F s i (by omega)
theorem la_none(n lim:Nat)(F:Nat→Nat→Nat→Int)(s:Nat):sL s none (laT n lim F s)=laT n lim F s:=by
 funext i
 unfold sL
 split
 ·rename_i h
  rw[la_ge n lim F s i (by omega)];rfl
 ·rfl
theorem pa_none(n lim:Nat)(F:Nat→Nat→Nat→Int)(s:Nat):sP s none (paT n lim F s)=paT n lim F s:=by
 funext i
 unfold sP
 split
 ·rename_i h
  rw[pa_ge n lim F s i (by omega)];rfl
 ·rfl
theorem la_at(n lim:Nat)(F:Nat→Nat→Nat→Int): ∀(s i:Nat),i<s→laT n lim F s i=vO (stB n lim F i)
 |s+1,i,h=>by
  unfold laT sL
  by_cases e:i=s
  ·rw[if_pos e,e]
  ·rw[if_neg e];exact la_at n lim F s i (by omega)
theorem pa_at(n lim:Nat)(F:Nat→Nat→Nat→Int): ∀(s i:Nat),i<s→paT n lim F s i=pO (stB n lim F i)
 |s+1,i,h=>by
  unfold paT sP
  by_cases e:i=s
  ·rw[if_pos e,e]
  ·rw[if_neg e];exact pa_at n lim F s i (by omega)
theorem outA_pos(lim s:Nat)(q:Nat→Nat×Nat)(k:Nat)(hb:s.testBit 0=true): ∀n,1≤n→1≤(outA lim s q k n).2
 |0,h=>absurd h (by decide)
 | n + 1, _ => by
  have h1:1≤(outA lim s q k 1).2:=by
   rw[outA,if_pos hb]
   by_cases hk:k=0
   ·subst hk
    exact Qhm (s+1) (by omega) (Qcg.2 ⟨Nat.zero_and _,Nat.zero_testBit _,Nat.zero_le _⟩) rfl
   ·have := Qdb lim s 0 q k (s + 1)
    unfold innK at this
    show 1≤(innA lim s 0 q k (s+1)).2
    omega
  have: ∀m,(outA lim s q k 1).2≤(outA lim s q k (m+1)).2:=fun m=>by
   induction m with
   |zero=>exact Nat.le_refl _
   | succ m ih =>
    refine Nat.le_trans ih ?_
    have e:outA lim s q k (m+1+1)=if s.testBit (m+1)then innA lim s (m+1) (outA lim s q k (m+1)).1 (outA lim s q k (m+1)).2 (s+1)else outA lim s q k (m+1):=rfl
    rw[e]
    split
    ·have := Qdb lim s (m + 1) (outA lim s q k (m + 1)).1 (outA lim s q k (m + 1)).2 (s + 1)
     unfold innK at this
     exact this.1
    ·exact Nat.le_refl _
  exact Nat.le_trans h1 (this n)
theorem Qlm(n lim:Nat)(hn:1≤n): ∀s,2≤s→1≤(allA n lim s).2
 |0,h=>absurd h (by decide)
 |1,h=>absurd h (by decide)
 |2,_=>outA_pos lim 1 _ _ rfl n hn
 |s+3,_=>Nat.le_trans (Qlm n lim hn (s+2) (by omega)) (Qfm lim (s+2) _ _ n).1
theorem Qkb(n lim:Nat)(hn:n≤5): ∀s,s≤32→(allA n lim s).2≤s*160
 |0,_=>Nat.le_refl _
 |s+1,h=>by
  have ih:=Qkb n lim hn s (by omega)
  have:=(Qfm lim s (allA n lim s).1 (allA n lim s).2 n).2
  have h2:n*(s+1)≤5*32:=Nat.mul_le_mul hn (by omega)
  show(outA lim s (allA n lim s).1 (allA n lim s).2 n).2≤_
  omega
theorem Qmz(a b:Nat→Int){k:Nat}(hk:k<18):sumF a b k=a k+1*b k:=by
 unfold sumF
 rw[Qb7,if_pos hk]
theorem alltry{cards:List Int}{cs:List (List Int)}(hl2:cs.length≤40)(hcl: ∀c∈cs,c.length≤1000)(h:goodE cards cs=0)(hn:cards.length≤5)(lim s v:Nat)(hs:s<2^cards.length)(hv:v<cards.length)(hb:s.testBit v=true):
  Qdf cards cs (fF cards cs) (2^cards.length) lim s v (tabB cards.length lim (fF cards cs) s):=by
 have h32:=Qa0 hn
 have hF:=Qo3 h hl2
 have ht: ∀t,inB (tabB cards.length lim (fF cards cs) s t) 800:=fun t=>by
  rw[Qcm]
  split
  ·exact Qq5 hF hn (by omega)
  ·exact inB_zero.mono (by decide)
 obtain⟨r1,r2,r3⟩:=Qed s (by omega) v (by omega) hb
 have hp0:0<2^v:=Nat.pow_pos (by decide)
 have hbd: ∀p,inB (tryF (fF cards cs) (tabB cards.length lim (fF cards cs) s) s v p) 1000:=fun p=>((ht _).add (hF v p)).mono (by decide)
 refine⟨by omega,by omega,hb,hbd,fun p b hok hG=>⟨hs,by omega,by omega,fun G T=>Qjy (by omega),fun G T=>Qoi (by omega) (by omega) hb,?_,fun v' p' y e=>?_,?_⟩⟩
 ·have hsum : arF (sumF (tabB cards.length lim (fF cards cs) s (s - 2 ^ v)) (fF cards cs v p)) = arF (tryF (fF cards cs) (tabB cards.length lim (fF cards cs) s) s v p) := Qa7 fun k hk => by
   show sumF _ _ k=tabB cards.length lim (fF cards cs) s (s-2^v) k+1*fF cards cs v p k
   exact Qmz _ _ hk
  have:=add_ok (tabB cards.length lim (fF cards cs) s (s-2^v)) (fF cards cs v p) ((ht _).inA (by decide)) ((hF v p).inA (by decide)) (by
   refine Qpp fun k hk=>?_
   have h1:=ht (s-2^v) k hk
   have h2:=hF v p k hk
   have:sumF (tabB cards.length lim (fF cards cs) s (s-2^v)) (fF cards cs v p) k=tabB cards.length lim (fF cards cs) s (s-2^v) k+1*fF cards cs v p k:=Qmz _ _ hk
   omega)
  rw[show ar (sumF (tabB cards.length lim (fF cards cs) s (s-2^v)) (fF cards cs v p))=ar (tryF (fF cards cs) (tabB cards.length lim (fF cards cs) s) s v p)from congrArg V.agg hsum]at this
  exact this
 ·exact cmp_ok _ _ ((hbd p).inA (by decide)) ((hG v' p' y e).inA (by decide))
 ·have ho := Qcg.1 hok
  have hps:p≤s:=by rw[←ho.1];exact Nat.and_le_right
  have hF2:fF cards cs v p=famG cards cs v p:=if_pos hv
  rw[hF2]
  refine Qqp cards cs v p (by omega) (by omega) hcl h ?_
  unfold memB
  have e1:p/2^cards.length=0:=Nat.div_eq_of_lt (by omega)
  have e2:p/2^v%2=0:=by
   have:=ho.2.1
   rw[Nat.testBit_eq_decide_div_mod_eq]at this
   have:=of_decide_eq_false this
   omega
  simp[e1,e2,hv]
section
variable (cards:List Int) (cs:List (List Int)) (F:Nat→Nat→Nat→Int) (size lim:Nat)
abbrev smZ(s:Nat):List (Nat×V):=[(1,i6 (lim:Nat)),(2,.ptr 0 0),(4,.ptr 1 0),(5,.ptr 2 0),(6,.ptr 3 0),(8,i6 (size:Nat)),(9,.ptr 7 0),(10,.ptr 10 0),(39,i6 (size:Nat)),(40,i6 (s:Nat))]
abbrev smO(q:Nat→Nat×Nat)(B:Nat→Nat→Int)(la pa:Nat→Nat)(hs k:Nat):List O:=[.row 32 none [sl cards,gC cs],.row 153 none [.nilp],.row 77 none [.nils,.nils],.row 36 none [i6 0],.row 41 none (bF B size),.map (entM q k) k,.row 158 none (toC cards cs size 4 5 hs k),.row 153 none [.ptr 6 0],.row 3 none (nF la size),.row 28 none (uF pa size),.row 77 none [.sl 8 0 size (some (size-size)),.sl 9 0 size (some (size-size))]]
abbrev sSx(x:Nat×(Nat→Nat×Nat)×Nat×(Nat→Nat→Int)×(Nat→Nat)×(Nat→Nat)):SL:={sl:=smZ size lim x.1,os:=match x.2.2.1 with|0=>smO cards cs size x.2.1 x.2.2.2.1 x.2.2.2.2.1 x.2.2.2.2.2 11 0|k+1=>smO cards cs size x.2.1 x.2.2.2.1 x.2.2.2.2.1 x.2.2.2.2.2 11 (k+1)++[scO F x.2.1 k],md:=clM}
end
theorem Qqo(cards:List Int)(cs:List (List Int))(hl2:cs.length≤40)(hcl: ∀c∈cs,c.length≤1000)(h:goodE cards cs=0)(hn1:1≤cards.length)(hn:cards.length≤5)(lim:Nat)(F:Nat→Nat→Nat→Int)(hF:F=fF cards cs)(n:Nat)(hnl:n=cards.length)(size:Nat)(hsz:size=2^n)(q1:Nat→Nat×Nat)(k1:Nat)(hA:allA n lim size=(q1,k1))(B1:Nat→Nat→Int)(hB1:tabB n lim F size=B1)(la1:Nat→Nat)(hla1:laT n lim F size=la1)(pa1:Nat→Nat)(hpa1:paT n lim F size=pa1):
  Sat Pg none 0 (at' 88 [1,1,1,1,1,0,1,0]) (mkSt g0 75 (sSx cards cs F size lim (0,(fun _=>(0,0)),0,(fun _=>zeroF),(fun _=>0),(fun _=>0)))) (Qah g0 75 [(True,.exit 0,sSx cards cs F size lim (size,q1,k1,B1,la1,pa1))]):=by
 have hc:=Qad cards
 have hg:=Qap cs
 have hla:=fun la=>Qaf la size
 have hpa:=fun pa=>Qag pa size
 have hBB:=fun B=>Qaa B size
 have hEE:=fun q k=>Qab q k
 have hSS:=fun q k=>Qaa (scF F q) k
 have h32:size≤32:=by rw[hsz,hnl];exact Qa0 hn
 refine Qbi vE_ok mixed Qac (b:=at' 88 [1,1,1,1,1,0,1,0,0]) (by kernel_rfl) (fun x=>x.1≤size∧allA n lim x.1=(x.2.1,x.2.2.1)∧tabB n lim F x.1=x.2.2.2.1∧laT n lim F x.1=x.2.2.2.2.1∧paT n lim F x.1=x.2.2.2.2.2) (sSx cards cs F size lim) (fun x=>size-x.1) (fun x hx=>?_) (0,(fun _=>(0,0)),0,(fun _=>zeroF),(fun _=>0),(fun _=>0)) ⟨Nat.zero_le _,rfl,rfl,rfl,rfl⟩
 obtain⟨s,q,k,B,la,pa⟩:=x
 obtain⟨hs,eA,eB,eL,eP⟩:=hx
 dsimp only at hs eA eB eL eP
 have hkb:=Qkb n lim (by omega) s (by omega)
 rw[eA]at hkb
 dsimp only at hkb
 by_cases hlt:s<size
 ·generalize hout : outA lim s q k n = z
  obtain⟨q2,k2⟩:=z
  generalize hb2:outB lim F B s n=b2
  have l:=Qke cards cs F size lim n s B la pa (by omega) (by omega) (fun v hv hb=>by
   subst hF hnl hsz
   rw[←eB]
   exact alltry hl2 hcl h hn lim s v hlt hv hb) q k (by omega) q2 k2 b2 hout hb2
  have eB0:sB s none B=B:=by rw[←eB];exact tab_none n lim F s
  have eL0:sL s none la=la:=by rw[←eL];exact la_none n lim F s
  have eP0:sP s none pa=pa:=by rw[←eP];exact pa_none n lim F s
  have zB:bF (sB s none B) size=bF B size:=by rw[eB0]
  have zL:nF (sL s none la) size=nF la size:=by rw[eL0]
  have zP:uF (sP s none pa) size=uF pa size:=by rw[eP0]
  have hst:stB n lim F s=b2:=by unfold stB;rw[eB];exact hb2
  have eA2:allA n lim (s+1)=(q2,k2):=by
   show outA lim s (allA n lim s).1 (allA n lim s).2 n=_
   rw[eA];exact hout
  have eB2:tabB n lim F (s+1)=sB s b2 B:=by rw[←tab_next,hst,eB]
  have eL2:laT n lim F (s+1)=sL s b2 la:=by show sL s (stB n lim F s) (laT n lim F s)=_;rw[hst,eL]
  have eP2:paT n lim F (s+1)=sP s b2 pa:=by show sP s (stB n lim F s) (paT n lim F s)=_;rw[hst,eP]
  have hmono:=(Qfm lim s q k n).1
  rw[hout]at hmono
  dsimp only at hmono
  subst hnl
  clear h hA hB1 hla1 hpa1 hst hout hb2 eA eB eL eP
  cases k with
  | zero =>
   cases k2 with
   |zero=>
    skip
    refine .inl ⟨(s+1,q2,0,sB s b2 B,sL s b2 la,sP s b2 pa),[0,1,2,3,4,5,6,7,8,9,10],[yes 41,(0,.loop [0,1,2,3,4,5,6,7,8,9,10,11,12,13] (vSx cards cs F size lim cards.length s B la pa (0,q,0,none)) [(True,.exit 2,vSx cards cs F size lim cards.length s B la pa (cards.length,q2,0,b2))]),nu 72 ((s+1:Nat):Int)],1000,⟨hlt,eA2,eB2,eL2,eP2⟩,by dsimp only;omega,?_⟩
    refine Eq.mp (by kernel_rfl:(let y5:=An [Zz,Sm size,Sm (size-size)];let y6:=An [Sm [V.nilp],Tt,Tt];let y7:=An [Sm [i6 0],Tt,Tt];let z0:=(↑size:Int);let z1:=[sl cards,gC cs];let z2:=[V.nils,V.nils];let z3:=nF (sL s b2 la) size;let z4:=uF (sP s b2 pa) size;let z5:=(↑lim:Int);let z6:=List.map sl cs;let z7:=bF (sB s b2 B) size;let z8:=(↑(s+1):Int);let z9:=(↑s:Int);let y0:=ints cards;let y1:=nF (sL s none la) size;let y2:=uF (sP s none pa) size;let y3:=(↑cards.length:Int);let y4:=bF (sB s none B) size;An [decide (z9<z0)=true,An [An [z5=z5,Zz,Zz,Zz,Zz,z0=z0,Zz,Zz,Zz,Zz,Zz,z0=z0,z9=z9,y3=y3,(↑(0:Nat):Int)=(0:Int),Tt],An [z1=z1,TT 2],y6,An [z2=z2,TT 2],y7,An [y4=bF B size,HfL y4],An [Sm (entM q 0),HfE (entM q 0),Zz],An [An [Sm cards.length,y0=y0],An [Sm cs.length,z6=z6],y5,TT 2],An [Zz,Tt],An [y1=nF la size,HfL y1],An [y2=uF pa size,HfL y2],An [y5,y5,Tt],An [Sm [i6 ↑s],Tt,Tt],An [[V.bool (Qan none)]=[V.bool false],Tt,Tt],An [An [Zz,Zz,Zz,Zz,Tt],Tt],Tt],Sat Pg none 0 (at' 88 [1,1,1,1,1,0,1,0,0,1,1,0,0,1,1,1,1,0]) (mkSt g0 75 (vSx cards cs F size lim cards.length s B la pa (0,q,0,none))) (Qah g0 75 [(True,Ex.exit 2,vSx cards cs F size lim cards.length s B la pa (cards.length,q2,0,b2))]),(True→An [wr .i64 (z9+(1:Int))=z8,An [z5=z5,Zz,Zz,Zz,Zz,z0=z0,Zz,Zz,z0=z0,z8=z8,Tt],An [z1=z1,TT 2],y6,An [z2=z2,TT 2],y7,An [z7=z7,HfL z7],An [Sm (entM q2 0),HfE (entM q2 0),Zz],An [An [Sm cards.length,y0=y0],An [Sm cs.length,z6=z6],y5,TT 2],An [Zz,Tt],An [z3=z3,HfL z3],An [z4=z4,HfL z4],An [y5,y5,Tt],Tt]),Tt])=_) ?_
    (repeat'(first|(with_reducible apply And.intro)|(refine fun(_:True)=>?_)))
    all_goals first|exact l|(with_reducible exact zB)|(with_reducible exact zB.symm)|(with_reducible exact zL)|(with_reducible exact zL.symm)|(with_reducible exact zP)|(with_reducible exact zP.symm)|exact hc|exact hg|exact aq|exact hla _|exact hpa _|exact hBB _|exact hEE _ _|exact hSS _ _|rfl|skip
   |succ k2=>
    skip
    refine .inl ⟨(s+1,q2,(k2+1),sB s b2 B,sL s b2 la,sP s b2 pa),[0,1,2,3,4,5,6,7,8,9,10,14],[yes 41,(0,.loop [0,1,2,3,4,5,6,7,8,9,10,11,12,13] (vSx cards cs F size lim cards.length s B la pa (0,q,0,none)) [(True,.exit 2,vSx cards cs F size lim cards.length s B la pa (cards.length,q2,(k2+1),b2))]),nu 72 ((s+1:Nat):Int)],1000,⟨hlt,eA2,eB2,eL2,eP2⟩,by dsimp only;omega,?_⟩
    refine Eq.mp (by kernel_rfl:(let y7:=An [Zz,Sm size,Sm (size-size)];let y8:=An [Sm [V.nilp],Tt,Tt];let y9:=An [Sm [i6 0],Tt,Tt];let z0:=(↑size:Int);let z1:=[sl cards,gC cs];let z2:=[V.nils,V.nils];let z3:=bF (scF F q2) (k2+1);let z4:=nF (sL s b2 la) size;let z5:=uF (sP s b2 pa) size;let z6:=(↑lim:Int);let z7:=List.map sl cs;let z8:=bF (sB s b2 B) size;let z9:=(↑(s+1):Int);let y0:=(↑s:Int);let y1:=entM q2 (k2+1);let y2:=ints cards;let y3:=nF (sL s none la) size;let y4:=uF (sP s none pa) size;let y5:=(↑cards.length:Int);let y6:=bF (sB s none B) size;An [decide (y0<z0)=true,An [An [z6=z6,Zz,Zz,Zz,Zz,z0=z0,Zz,Zz,Zz,Zz,Zz,z0=z0,y0=y0,y5=y5,(↑(0:Nat):Int)=(0:Int),Tt],An [z1=z1,TT 2],y8,An [z2=z2,TT 2],y9,An [y6=bF B size,HfL y6],An [Sm (entM q 0),HfE (entM q 0),Zz],An [An [Sm cards.length,y2=y2],An [Sm cs.length,z7=z7],y7,TT 2],An [Zz,Tt],An [y3=nF la size,HfL y3],An [y4=uF pa size,HfL y4],An [y7,y7,Tt],An [Sm [i6 ↑s],Tt,Tt],An [[V.bool (Qan none)]=[V.bool false],Tt,Tt],An [An [Zz,Zz,Zz,Zz,Tt],Tt],Tt],Sat Pg none 0 (at' 88 [1,1,1,1,1,0,1,0,0,1,1,0,0,1,1,1,1,0]) (mkSt g0 75 (vSx cards cs F size lim cards.length s B la pa (0,q,0,none))) (Qah g0 75 [(True,Ex.exit 2,vSx cards cs F size lim cards.length s B la pa (cards.length,q2,k2+1,b2))]),(True→An [wr .i64 (y0+(1:Int))=z9,An [z6=z6,Zz,Zz,Zz,Zz,z0=z0,Zz,Zz,z0=z0,z9=z9,Tt],An [z1=z1,TT 2],y8,An [z2=z2,TT 2],y9,An [z8=z8,HfL z8],An [y1=y1,HfE y1,Sm (k2+1)],An [An [Sm cards.length,y2=y2],An [Sm cs.length,z7=z7],y7,Tt,An [Zz,Sm (k2+1),Tt],Tt],An [Zz,Tt],An [z4=z4,HfL z4],An [z5=z5,HfL z5],An [y7,y7,Tt],An [z3=z3,HfL z3],Tt]),Tt])=_) ?_
    (repeat'(first|(with_reducible apply And.intro)|(refine fun(_:True)=>?_)))
    all_goals first|exact l|(with_reducible exact zB)|(with_reducible exact zB.symm)|(with_reducible exact zL)|(with_reducible exact zL.symm)|(with_reducible exact zP)|(with_reducible exact zP.symm)|exact hc|exact hg|exact aq|exact hla _|exact hpa _|exact hBB _|exact hEE _ _|exact hSS _ _|rfl|skip
  | succ k =>
   cases k2 with
   |zero=>exact absurd hmono (by omega)
   |succ k2=>
    skip
    refine .inl ⟨(s+1,q2,(k2+1),sB s b2 B,sL s b2 la,sP s b2 pa),[0,1,2,3,4,5,6,7,8,9,10,14],[yes 41,(0,.loop [0,1,2,3,4,5,6,7,8,9,10,12,13,14,11] (vSx cards cs F size lim cards.length s B la pa (0,q,(k+1),none)) [(True,.exit 2,vSx cards cs F size lim cards.length s B la pa (cards.length,q2,(k2+1),b2))]),nu 72 ((s+1:Nat):Int)],1000,⟨hlt,eA2,eB2,eL2,eP2⟩,by dsimp only;omega,?_⟩
    refine Eq.mp (by kernel_rfl:(let y9:=An [Zz,Sm size,Sm (size-size)];let x0:=An [Sm [V.nilp],Tt,Tt];let x1:=An [Sm [i6 0],Tt,Tt];let z0:=(↑size:Int);let z1:=[sl cards,gC cs];let z2:=[V.nils,V.nils];let z3:=bF (scF F q2) (k2+1);let z4:=bF (scF F q) (k+1);let z5:=nF (sL s b2 la) size;let z6:=uF (sP s b2 pa) size;let z7:=(↑lim:Int);let z8:=List.map sl cs;let z9:=bF (sB s b2 B) size;let y0:=(↑(s+1):Int);let y1:=(↑s:Int);let y2:=entM q2 (k2+1);let y3:=entM q (k+1);let y4:=ints cards;let y5:=nF (sL s none la) size;let y6:=uF (sP s none pa) size;let y7:=(↑cards.length:Int);let y8:=bF (sB s none B) size;An [decide (y1<z0)=true,An [An [z7=z7,Zz,Zz,Zz,Zz,z0=z0,Zz,Zz,Zz,Zz,Zz,z0=z0,y1=y1,y7=y7,(↑(0:Nat):Int)=(0:Int),Tt],An [z1=z1,TT 2],x0,An [z2=z2,TT 2],x1,An [y8=bF B size,HfL y8],An [y3=y3,HfE y3,Sm (k+1)],An [An [Sm cards.length,y4=y4],An [Sm cs.length,z8=z8],y9,Tt,An [Zz,Sm (k+1),Tt],Tt],An [Zz,Tt],An [y5=nF la size,HfL y5],An [y6=uF pa size,HfL y6],An [y9,y9,Tt],An [Sm [i6 ↑s],Tt,Tt],An [[V.bool (Qan none)]=[V.bool false],Tt,Tt],An [An [Zz,Zz,Zz,Zz,Tt],Tt],An [z4=z4,HfL z4],Tt],Sat Pg none 0 (at' 88 [1,1,1,1,1,0,1,0,0,1,1,0,0,1,1,1,1,0]) (mkSt g0 75 (vSx cards cs F size lim cards.length s B la pa (0,q,k+1,none))) (Qah g0 75 [(True,Ex.exit 2,vSx cards cs F size lim cards.length s B la pa (cards.length,q2,k2+1,b2))]),(True→An [wr .i64 (y1+(1:Int))=y0,An [z7=z7,Zz,Zz,Zz,Zz,z0=z0,Zz,Zz,z0=z0,y0=y0,Tt],An [z1=z1,TT 2],x0,An [z2=z2,TT 2],x1,An [z9=z9,HfL z9],An [y2=y2,HfE y2,Sm (k2+1)],An [An [Sm cards.length,y4=y4],An [Sm cs.length,z8=z8],y9,Tt,An [Zz,Sm (k2+1),Tt],Tt],An [Zz,Tt],An [z5=z5,HfL z5],An [z6=z6,HfL z6],An [y9,y9,Tt],An [z3=z3,HfL z3],Tt]),Tt])=_) ?_
    (repeat'(first|(with_reducible apply And.intro)|(refine fun(_:True)=>?_)))
    all_goals first|exact l|(with_reducible exact zB)|(with_reducible exact zB.symm)|(with_reducible exact zL)|(with_reducible exact zL.symm)|(with_reducible exact zP)|(with_reducible exact zP.symm)|exact hc|exact hg|exact aq|exact hla _|exact hpa _|exact hBB _|exact hEE _ _|exact hSS _ _|rfl|skip
 ·have he : s = size := by omega
  subst he
  rw[eA]at hA
  rw[eB]at hB1
  rw[eL]at hla1
  rw[eP]at hpa1
  obtain⟨rfl,rfl⟩:=Prod.mk.inj hA
  subst hB1 hla1 hpa1
  clear h hA eA eB eL eP
  cases k with
  |zero=>
   skip
   refine .inr ⟨.exit 0,[0,1,2,3,4,5,6,7,8,9,10],_,[no 41],1000,.inl ⟨trivial,rfl,rfl⟩,?_⟩
   refine Eq.mp (by kernel_rfl:(let z0:=(↑s:Int);An [decide (z0<z0)=false,An [Sm (↑lim:Int),Zz,Zz,Zz,Zz,z0=z0,Zz,Zz,z0=z0,z0=z0,Tt],An [Sm [sl cards,gC cs],TT 2],An [Sm [V.nilp],Tt,Tt],An [Sm [V.nils,V.nils],TT 2],An [Sm [i6 0],Tt,Tt],An [Sm (bF B s),HfL (bF B s)],An [Sm (entM q 0),HfE (entM q 0),Zz],An [An [Sm cards.length,Sm (ints cards)],An [Sm cs.length,Sm (List.map sl cs)],An [Zz,s=s,Sm (s-s)],TT 2],An [Zz,Tt],An [Sm (nF la s),HfL (nF la s)],An [Sm (uF pa s),HfL (uF pa s)],An [An [Zz,s=s,Sm (s-s)],An [Zz,s=s,Sm (s-s)],Tt],Tt])=_) ?_
   (repeat'(first|(with_reducible apply And.intro)|(refine fun(_:True)=>?_)))
   all_goals first|exact hc|exact hg|exact aq|exact hla _|exact hpa _|exact hBB _|exact hEE _ _|exact hSS _ _|rfl|skip
  |succ k=>
   skip
   refine .inr ⟨.exit 0,[0,1,2,3,4,5,6,7,8,9,10,11],_,[no 41],1000,.inl ⟨trivial,rfl,rfl⟩,?_⟩
   refine Eq.mp (by kernel_rfl:(let z0:=(↑s:Int);let z1:=bF (scF F q) (k+1);let z2:=entM q (k+1);An [decide (z0<z0)=false,An [Sm (↑lim:Int),Zz,Zz,Zz,Zz,z0=z0,Zz,Zz,z0=z0,z0=z0,Tt],An [Sm [sl cards,gC cs],TT 2],An [Sm [V.nilp],Tt,Tt],An [Sm [V.nils,V.nils],TT 2],An [Sm [i6 0],Tt,Tt],An [Sm (bF B s),HfL (bF B s)],An [z2=z2,HfE z2,Sm (k+1)],An [An [Sm cards.length,Sm (ints cards)],An [Sm cs.length,Sm (List.map sl cs)],An [Zz,s=s,Sm (s-s)],Tt,An [Zz,Sm (k+1),Tt],Tt],An [Zz,Tt],An [Sm (nF la s),HfL (nF la s)],An [Sm (uF pa s),HfL (uF pa s)],An [An [Zz,s=s,Sm (s-s)],An [Zz,s=s,Sm (s-s)],Tt],An [z1=z1,HfL z1],Tt])=_) ?_
   (repeat'(first|(with_reducible apply And.intro)|(refine fun(_:True)=>?_)))
   all_goals first|exact hc|exact hg|exact aq|exact hla _|exact hpa _|exact hBB _|exact hEE _ _|exact hSS _ _|rfl|skip
set_option maxHeartbeats 4000000
set_option maxRecDepth 100000
theorem Qex(cards:List Int)(cs:List (List Int))(lim:Int)(hl1:cards.length≤1000)(hl2:cs.length≤1000)(e:Int)(he:Qca cards cs lim=e)(h0:e≠0):FnOk Pg g0 88 [gV cards cs,i6 lim] (.tup [.nilp,.agg [.nils,.nils],i6 e]):=by
 have hd:=Qjx cards cs lim hl1 hl2
 rw[he]at hd
 have hg:=Qap cs
 have hc:=Qad cards
 refine FnOk.of_vc vE_ok mixed Qac (n:=1000) (r:=[1,2,3]) (S:={sl:=[(4,.ptr 0 0),(5,.ptr 1 0),(6,.ptr 2 0)],os:=[.row 153 none [.nilp],.row 77 none [.nils,.nils],.row 36 none [i6 e]]}) (hs:=[fn 19 (i6 e),yes 21]) ?_
 refine Eq.mp (by kernel_rfl:(An [Sm (V.tup [V.nilp,V.agg [V.nils,V.nils],i6 e]),An [TT 2,Tt,Tt],FnOk Pg g0 108 [V.agg [V.im cards.length (ints cards),V.im cs.length (List.map sl cs)],i6 lim] (i6 e),Tt,(e != (0:Int))=true,An [Zz,Zz,Zz,Tt],An [Sm [V.nilp],Tt,Tt],An [Sm [V.nils,V.nils],TT 2],An [Sm [i6 e],Tt,Tt],Tt])=_) ?_
 (repeat'(first|(with_reducible apply And.intro)|(refine fun(_:True)=>?_)))
 all_goals first|exact hd|exact hg|exact hc|exact aq|rfl|skip
section
variable (cards:List Int) (cs:List (List Int)) (F:Nat→Nat→Nat→Int) (size:Nat) (q:Nat→Nat×Nat) (B:Nat→Nat→Int) (la pa:Nat→Nat) (k:Nat)
abbrev cbO:List O:=[.row 41 none (bF B size),.map (entM q (k+1)) (k+1),.row 158 none (toC cards cs size 0 1 5 (k+1)),.row 3 none (nF la size),.row 28 none (uF pa size),scO F q k]
abbrev cbL:V:=.agg [.sl 3 0 size (some (size-size)),.sl 4 0 size (some (size-size))]
abbrev cbV:V:=.tup [.ptr 2 0,cbL size,i6 0]
end
theorem cb_sc(cards:List Int)(cs:List (List Int))(F:Nat→Nat→Nat→Int)(size:Nat)(q:Nat→Nat×Nat)(B:Nat→Nat→Int)(la pa:Nat→Nat)(k:Nat): ∀o∈cbO cards cs F size q B la pa k,ScO (fun i=>i<6) o:=by
 intro o ho
 simp only[List.mem_cons,List.not_mem_nil,or_false]at ho
 rcases ho with rfl|rfl|rfl|rfl|rfl|rfl
 ·exact HfL.sc _ (Qaa _ _)
 ·exact HfE.sc _ (Qab _ _)
 ·exact⟨trivial,trivial,(show 0<6 by decide),(show 1<6 by decide),(show 5<6 by decide),trivial⟩
 ·exact HfL.sc _ (Qaf _ _)
 ·exact HfL.sc _ (Qag _ _)
 ·exact HfL.sc _ (Qaa _ _)
theorem pow_len{n:Nat}(h:n≤5): ∀(G:Ctx)(t:Nat),binV G .shl t (i6 1) (i6 (n:Int))=some (i6 ((2^n:Nat):Int)):=fun G t=>Qjy (by omega)
theorem rep_bF(n:Nat):rep n (arF zeroF)=bF (fun _=>zeroF) n:=Qfs n
theorem rep_nF0(n:Nat):rep n [i6 0]=nF (fun _=>0) n:=Qfs n
theorem Qqi(n:Nat):rep n [u6 0]=uF (fun _=>0) n:=Qfs n
theorem Qek{cards:List Int}{cs:List (List Int)}{lim:Int}(h:Qca cards cs lim=0):goodE cards cs=0∧1≤cards.length∧cards.length≤5∧0≤lim∧lim≤4∧cs.length≤40∧(∀c∈cs,c.length=cards.length):=by
 unfold Qca at h
 by_cases hg:goodE cards cs=0
 ·rw [if_pos hg] at h
  have h2: ¬(5<cards.length∨lim<0∨4<lim):=fun hh=>by rw[if_pos hh]at h;cases h
  have hok:okAll cards cs=true:=by
   unfold goodE at hg
   cases hh:okAll cards cs with
   |true=>rfl
   |false=>rw[hh]at hg;simp at hg
  have hb:decide (1≤cards.length)=true∧decide (cards.length≤6)=true∧decide (cs.length≤40)=true∧okCs cards=true∧decide (prodT cards cards.length≤1024)=true∧cs.all (okRow cards)=true:=by
   unfold okAll at hok
   simpa [Bool.and_eq_true]using hok
  refine⟨hg,of_decide_eq_true hb.1,by omega,by omega,by omega,of_decide_eq_true hb.2.2.1,fun c hcm=>?_⟩
  have:=List.all_eq_true.1 hb.2.2.2.2.2 c hcm
  unfold okRow at this
  rw[Bool.and_eq_true]at this
  exact of_decide_eq_true this.1
 ·rw [if_neg hg] at h
  exact absurd h hg
theorem Qeh(cards:List Int)(cs:List (List Int))(lim:Nat)(he:Qca cards cs (lim:Int)=0):
  ∃(q:Nat→Nat×Nat)(k:Nat),k≤100000∧CallSpec Pg g0 (.fn 88 []) [gV cards cs,i6 (lim:Int)] (ofOs .e 0 []) 0 ⟨cbV (2^cards.length),ofOs .e 0 (cbO cards cs (fF cards cs) (2^cards.length) q (tabB cards.length lim (fF cards cs) (2^cards.length)) (laT cards.length lim (fF cards cs) (2^cards.length)) (paT cards.length lim (fF cards cs) (2^cards.length)) k),6,[]⟩:=by
 obtain⟨hg0,hn1,hn5,_,_,hl2,hcl⟩:=Qek he
 have hd:=Qjx cards cs (lim:Int) (by omega) (by omega)
 rw[he]at hd
 have hg:=Qap cs
 have hc:=Qad cards
 have hp2:=pow_len hn5
 have h32:=Qa0 hn5
 have hk0:=Qlm cards.length lim hn1 (2^cards.length) (Nat.le_trans (by decide) (Nat.pow_le_pow_right (show 0<2 by decide) hn1))
 have hpos:1≤2^cards.length:=Nat.pow_pos (by decide)
 have hkb:=Qkb cards.length lim hn5 (2^cards.length) h32
 generalize hA:allA cards.length lim (2^cards.length)=z at hk0 hkb
 obtain⟨q1,k1⟩:=z
 cases k1 with
 |zero=>exact absurd (show 1≤0 from hk0) (by decide)
 | succ k =>
  have hkb':k≤100000:=by dsimp only at hkb;omega
  have l:=Qqo cards cs hl2 (fun c h=>by rw[hcl c h];omega) hg0 hn1 hn5 lim (fF cards cs) rfl cards.length rfl (2^cards.length) rfl q1 (k+1) hA _ rfl _ rfl _ rfl
  generalize tabB cards.length lim (fF cards cs) (2^cards.length)=B at*
  generalize laT cards.length lim (fF cards cs) (2^cards.length)=la at*
  generalize paT cards.length lim (fF cards cs) (2^cards.length)=pa at*
  generalize fF cards cs=F at*
  generalize 2^cards.length=size at*
  refine⟨q1,k,hkb',CallSpec.dropL (os1:=cbO cards cs F size q1 B la pa k) [.row 153 none [.ptr 2 0],.row 77 none [.sl 3 0 size (some (size-size)),.sl 4 0 size (some (size-size))],.row 36 none [i6 0]] ?_ (Nat.zero_le _) ⟨(show 2<6 by decide),⟨(show 3<6 by decide),(show 4<6 by decide),trivial⟩,trivial,trivial⟩ (cb_sc cards cs F size q1 B la pa k) (fun i hi _=>absurd hi (Nat.not_lt_zero _))⟩
  have hB:=Qaa B size
  have hla:=Qaf la size
  have hpa:=Qag pa size
  have hE:=Qab q1 (k+1)
  have hS:=Qaa (scF F q1) (k+1)
  have hr1:=rep_bF size
  have hr2:=rep_nF0 size
  have hr3:=Qqi size
  have hB0:=Qaa (fun _=>zeroF) size
  have hla0:=Qaf (fun _=>0) size
  have hpa0:=Qag (fun _=>0) size
  clear hA he
  refine CallSpec.of_vcH (P:=Pg) (E:=vE) vE_ok mixed Qac (n:=1000) (f:=88) (os0:=[]) (ars:=[gV cards cs,i6 (lim:Int)]) (r:=[4,5,6,8,9,11,1,2,3])
   (S:={sl:=[(4,.ptr 6 0),(5,.ptr 7 0),(6,.ptr 8 0)],os:=cbO cards cs F size q1 B la pa k++[.row 153 none [.ptr 2 0],.row 77 none [.sl 3 0 size (some (size-size)),.sl 4 0 size (some (size-size))],.row 36 none [i6 0]],md:=[0,0,1,0,0,0,1,1]}) (v:=cbV size) (hs:=[fn 19 (i6 0),no 21,va 27 (i6 (size:Nat)),mk 30,mk 35,mk 37,(0,.loop [0,1,2,3,4,5,6,7,8,9,10] (sSx cards cs F size lim (0,(fun _=>(0,0)),0,(fun _=>zeroF),(fun _=>0),(fun _=>0))) [(True,.exit 0,sSx cards cs F size lim (size,q1,k+1,B,la,pa))])]) (gl:=g0) (by simp) (fun i hi hno=>absurd hi (Nat.not_lt_zero _)) ?_
  refine Eq.mp (by kernel_rfl:(let z9:=An [Zz,Sm size,Sm (size-size)];let y0:=An [Sm [i6 0],Tt,Tt];let z0:=(↑size:Int);let z1:=List.map sl cs;let z2:=(9223372036854775807:Int);let z3:=(281474976710656:Int);let z4:=bF (scF F q1) (k+1);let z5:=(0:Int);let z6:=ints cards;let z7:=entM q1 (k+1);let z8:=some (size-size);An [V.tup [V.ptr 2 0,V.agg [V.sl 3 0 size z8,V.sl 4 0 size z8],i6 0]=cbV size,An [TT 2,Tt,Tt],FnOk Pg g0 108 [V.agg [V.im cards.length z6,V.im cs.length z1],i6 ↑lim] (i6 0),Tt,(z5 != z5)=false,binV (Qae Pg) .shl 3 (i6 1) (i6 ↑cards.length)=some (i6 ↑size),An [z5≤z0,z0≤z0,(↑(144:Nat):Int)*z0≤z3,z0≤z2],An [z5≤z0,z0≤z0,(↑(8:Nat):Int)*z0≤z3,z0≤z2],An [z5≤z0,z0≤z0,(↑(8:Nat):Int)*z0≤z3,z0≤z2],An [An [Sm (↑lim:Int),Zz,Zz,Zz,Zz,z0=z0,Zz,Zz,z0=z0,(↑(0:Nat):Int)=z5,Tt],An [Sm [sl cards,gC cs],TT 2],An [Sm [V.nilp],Tt,Tt],An [Sm [V.nils,V.nils],TT 2],y0,An [bF (fun x=>zeroF) size=rep size [i6 0,i6 0,i6 0,i6 0,i6 0,i6 0,i6 0,i6 0,i6 0,i6 0,i6 0,i6 0,i6 0,i6 0,i6 0,i6 0,i6 0,i6 0],HfL (bF (fun x=>zeroF) size)],An [entM (fun x=>(0,0)) 0=[],HfE (entM (fun x=>(0,0)) 0),Zz],An [An [Sm cards.length,z6=z6],An [Sm cs.length,z1=z1],z9,TT 2],An [Zz,Tt],An [nF (fun x=>0) size=rep size [i6 0],HfL (nF (fun x=>0) size)],An [uF (fun x=>0) size=rep size [u6 0],HfL (uF (fun x=>0) size)],An [z9,z9,Tt],Tt],Sat Pg none 0 (at' 88 [1,1,1,1,1,0,1,0]) (mkSt g0 75 (sSx cards cs F size lim (0,fun x=>(0,0),0,fun x=>zeroF,fun x=>0,fun x=>0))) (Qah g0 75 [(True,Ex.exit 0,sSx cards cs F size lim (size,q1,k+1,B,la,pa))]),(True→An [An [Zz,Zz,Zz,Tt],An [Sm (bF B size),HfL (bF B size)],An [z7=z7,HfE z7,Sm (k+1)],An [An [Sm cards.length,z6=z6],An [Sm cs.length,z1=z1],z9,Tt,An [Zz,Sm (k+1),Tt],Tt],An [Sm (nF la size),HfL (nF la size)],An [Sm (uF pa size),HfL (uF pa size)],An [z4=z4,HfL z4],An [Zz,Tt],An [z9,z9,Tt],y0,Tt]),Tt])=_) ?_
  (repeat'(first|(with_reducible apply And.intro)|(refine fun(_:True)=>?_)))
  all_goals first|exact l|exact hd|(with_reducible exact hp2 _ _)|(with_reducible exact hr1)|(with_reducible exact hr2)|(with_reducible exact hr3)|exact hr1.symm|exact hr2.symm|exact hr3.symm|exact Qab _ 0|exact hg|exact hc|exact hB|exact hla|exact hpa|exact hE|exact hS|exact hB0|exact hla0|exact hpa0|exact hp2 _ _|exact aq|rfl|skip
set_option maxHeartbeats 4000000
set_option maxRecDepth 100000
abbrev ldV(size:Nat)(la pa:Nat→Nat):V:=.agg [.im size (nF la size),.im size (uF pa size)]
section
variable (cards:List Int) (cs:List (List Int)) (F:Nat→Nat→Nat→Int) (size:Nat) (q:Nat→Nat×Nat) (B:Nat→Nat→Int) (la pa:Nat→Nat) (k:Nat)
abbrev cbD:List O:=[.row 41 none (bF B size),.map (entM q (k+1)) (k+1),.row 158 none (toC cards cs size 2 3 7 (k+1)),.row 3 none (nF la size),.row 28 none (uF pa size),scO F q k]
abbrev cbW:V:=.tup [.ptr 4 0,.agg [.sl 5 0 size (some (size-size)),.sl 6 0 size (some (size-size))],i6 0]
end
theorem Qit(o:O)(ho:o= .row 41 none (arF zeroF)∨o= .row 77 none [.nils,.nils])(cards:List Int)(cs:List (List Int))(F:Nat→Nat→Nat→Int)(size:Nat)(q:Nat→Nat×Nat)(B:Nat→Nat→Int)(la pa:Nat→Nat)(k lim:Nat)
  (h:CallSpec Pg g0 (.fn 88 []) [gV cards cs,i6 (lim:Int)] (ofOs .e 0 []) 0 ⟨cbV size,ofOs .e 0 (cbO cards cs F size q B la pa k),6,[]⟩):
  CallSpec Pg g0 (.fn 88 []) [gV cards cs,i6 (lim:Int)] (ofOs .e 0 [gO cards cs,o]) 2 ⟨cbW size,ofOs .e 0 ([gO cards cs,o]++cbD cards cs F size q B la pa k),8,[]⟩:=by
 have hB:=Qaa B size
 have hla:=Qaf la size
 have hpa:=Qag pa size
 have hE:=Qab q (k+1)
 have hS:=Qaa (scF F q) (k+1)
 have hg:=Qap cs
 have hc:=Qad cards
 rcases ho with rfl|rfl
 all_goals
  refine CallSpec.frameL (OS:=[gO cards cs,_]) (OS':=[gO cards cs,_]++cbD cards cs F size q B la pa k) [] [(2,0),(3,1),(4,2),(5,3),(6,4),(7,5)] [] [0,0,0,0,1] h (by kernel_rfl) ?_ ?_ ?_ ?_
 ·refine Eq.mp (by kernel_rfl : (An [An [An [Sm cards.length, Sm (ints cards)], An [Sm cs.length, Sm (List.map sl cs)], Tt], Sm (↑lim : Int), Tt]) = _) ?_
  (repeat'(first|(with_reducible apply And.intro)|(refine fun(_:True)=>?_)))
  all_goals first|exact aq|exact hB|exact hS|exact hE|exact hla|exact hpa|exact hg|exact hc|rfl|skip
 ·refine Eq.mp (by kernel_rfl : (Tt) = _) ?_
  (repeat'(first|(with_reducible apply And.intro)|(refine fun(_:True)=>?_)))
  all_goals first|exact aq|exact hB|exact hS|exact hE|exact hla|exact hpa|exact hg|exact hc|rfl|skip
 ·refine Eq.mp (by kernel_rfl : (let z0 := An [Zz, Sm size, Sm (size - size)]; An [Zz, An [z0, z0, Tt], Sm (0 : Int), Tt]) = _) ?_
  (repeat'(first|(with_reducible apply And.intro)|(refine fun(_:True)=>?_)))
  all_goals first|exact aq|exact hB|exact hS|exact hE|exact hla|exact hpa|exact hg|exact hc|rfl|skip
 ·refine Eq.mp (by kernel_rfl : (let z0 := O.row 41 none (arF zeroF); let z1 := gO cards cs; let z2 := bF (scF F q) (k + 1); let z3 := entM q (k + 1); An [[z1, z0][0]? = some z1, [z1, z0][0]? = some z1, [z1, z0][1]? = some z0, [z1, z0][1]? = some z0, Tt, An [Sm (bF B size), HfL (bF B size)], Tt, An [z3 = z3, HfE z3, Sm (k + 1)], Tt, An [An [Sm cards.length, Sm (ints cards)], An [Sm cs.length, Sm (List.map sl cs)], An [Zz, Sm size, Sm (size - size)], Tt, An [Zz, Sm (k + 1), Tt], Tt], Tt, An [Sm (nF la size), HfL (nF la size)], Tt, An [Sm (uF pa size), HfL (uF pa size)], Tt, An [z2 = z2, HfL z2], Tt]) = _) ?_
  (repeat'(first|(with_reducible apply And.intro)|(refine fun(_:True)=>?_)))
  all_goals first|exact aq|exact hB|exact hS|exact hE|exact hla|exact hpa|exact hg|exact hc|rfl|skip
 ·refine Eq.mp (by kernel_rfl : (An [An [An [Sm cards.length, Sm (ints cards)], An [Sm cs.length, Sm (List.map sl cs)], Tt], Sm (↑lim : Int), Tt]) = _) ?_
  (repeat'(first|(with_reducible apply And.intro)|(refine fun(_:True)=>?_)))
  all_goals first|exact aq|exact hB|exact hS|exact hE|exact hla|exact hpa|exact hg|exact hc|rfl|skip
 ·refine Eq.mp (by kernel_rfl : (Tt) = _) ?_
  (repeat'(first|(with_reducible apply And.intro)|(refine fun(_:True)=>?_)))
  all_goals first|exact aq|exact hB|exact hS|exact hE|exact hla|exact hpa|exact hg|exact hc|rfl|skip
 ·refine Eq.mp (by kernel_rfl : (let z0 := An [Zz, Sm size, Sm (size - size)]; An [Zz, An [z0, z0, Tt], Sm (0 : Int), Tt]) = _) ?_
  (repeat'(first|(with_reducible apply And.intro)|(refine fun(_:True)=>?_)))
  all_goals first|exact aq|exact hB|exact hS|exact hE|exact hla|exact hpa|exact hg|exact hc|rfl|skip
 ·refine Eq.mp (by kernel_rfl : (let z0 := O.row 77 none [V.nils, V.nils]; let z1 := gO cards cs; let z2 := bF (scF F q) (k + 1); let z3 := entM q (k + 1); An [[z1, z0][0]? = some z1, [z1, z0][0]? = some z1, [z1, z0][1]? = some z0, [z1, z0][1]? = some z0, Tt, An [Sm (bF B size), HfL (bF B size)], Tt, An [z3 = z3, HfE z3, Sm (k + 1)], Tt, An [An [Sm cards.length, Sm (ints cards)], An [Sm cs.length, Sm (List.map sl cs)], An [Zz, Sm size, Sm (size - size)], Tt, An [Zz, Sm (k + 1), Tt], Tt], Tt, An [Sm (nF la size), HfL (nF la size)], Tt, An [Sm (uF pa size), HfL (uF pa size)], Tt, An [z2 = z2, HfL z2], Tt]) = _) ?_
  (repeat'(first|(with_reducible apply And.intro)|(refine fun(_:True)=>?_)))
  all_goals first|exact aq|exact hB|exact hS|exact hE|exact hla|exact hpa|exact hg|exact hc|rfl|skip
theorem Qq6(cards:List Int)(cs:List (List Int))(lim:Int)(hl1:cards.length≤1000)(hl2:cs.length≤1000)(e:Int)(he:Qca cards cs lim=e)(h0:e≠0):FnOk Pg g0 41 [gV cards cs,i6 lim] (.tup [ar zeroF,i6 e]):=by
 have hd:=Qex cards cs lim hl1 hl2 e he h0
 have hg:=Qap cs
 have hc:=Qad cards
 refine FnOk.of_vc vE_ok mixed Qac (n:=1000) (r:=[1]) (S:={sl:=[(4,.ptr 0 0),(5,i6 e)],os:=[.row 41 none (arF zeroF)]}) (hs:=[fn 12 (.tup [.nilp,.agg [.nils,.nils],i6 e]),yes 17]) ?_
 refine Eq.mp (by kernel_rfl:(An [V.tup [V.agg (arF zeroF),i6 e]=V.tup [ar zeroF,i6 e],An [TT 2,Tt,Tt],FnOk Pg g0 88 [V.agg [V.im cards.length (ints cards),V.im cs.length (List.map sl cs)],i6 lim] (V.tup [V.nilp,V.agg [V.nils,V.nils],i6 e]),Tt,(e != (0:Int))=true,An [Zz,e=e,Tt],An [arF zeroF=[i6 0,i6 0,i6 0,i6 0,i6 0,i6 0,i6 0,i6 0,i6 0,i6 0,i6 0,i6 0,i6 0,i6 0,i6 0,i6 0,i6 0,i6 0],TT 18],Tt])=_) ?_
 (repeat'(first|(with_reducible apply And.intro)|(refine fun(_:True)=>?_)))
 all_goals first|exact hd|exact hg|exact hc|exact aq|rfl|skip
theorem Qj2(cards:List Int)(cs:List (List Int))(lim:Nat)(he:Qca cards cs (lim:Int)=0):FnOk Pg g0 41 [gV cards cs,i6 (lim:Int)] (.tup [ar (topB cards.length lim (fF cards cs) (2^cards.length-1)),i6 0]):=by
 obtain⟨hg0,hn1,hn5,_,_,hl2,hcl⟩:=Qek he
 obtain⟨q,k,_,h⟩:=Qeh cards cs lim he
 have hpos:1≤2^cards.length:=Nat.pow_pos (by decide)
 have h32:=Qa0 hn5
 have e1:=Qcm (n:=cards.length) (lim:=lim) (F:=fF cards cs) (2^cards.length) (2^cards.length-1)
 rw[if_pos (by omega)]at e1
 rw[←e1]
 clear e1
 generalize tabB cards.length lim (fF cards cs) (2^cards.length)=B at*
 generalize laT cards.length lim (fF cards cs) (2^cards.length)=la at*
 generalize paT cards.length lim (fF cards cs) (2^cards.length)=pa at*
 generalize fF cards cs=F at*
 generalize 2^cards.length=size at*
 have hcall:=Qit (.row 41 none (arF zeroF)) (.inl rfl) cards cs F size q B la pa k lim h
 have hB:=Qaa B size
 have hla:=Qaf la size
 have hpa:=Qag pa size
 have hE:=Qab q (k+1)
 have hS:=Qaa (scF F q) (k+1)
 have hg:=Qap cs
 have hc:=Qad cards
 have htk:=@Qa1 B size (size-1) (by omega)
 generalize hj:size-1=j at*
 have hjs:((size:Int)-1)=(j:Int):=by omega
 clear h he
 refine FnOk.of_vc vE_ok mixed Qac (n:=1000) (r:=[1]) (S:={sl:=[(4,.ptr 0 0),(5,i6 0)],os:=[.row 41 none (arF (B j))]}) (hs:=[(12,.call ⟨cbW size,ofOs .e 0 ([gO cards cs,.row 41 none (arF zeroF)]++cbD cards cs F size q B la pa k),8,[]⟩),no 17,nu 29 (j:Nat),pl 30,ld 31 (ar (B j))]) ?_
 refine Eq.mp (by kernel_rfl:(let z0:=(0:Int);let z1:=arF (B j);let z2:=(↑j:Int);An [V.tup [V.agg z1,i6 0]=V.tup [ar (B j),i6 0],CallSpec Pg g0 (V.fn 88 []) [V.agg [sl cards,gC cs],i6 ↑lim] (pt (pt T.e 0 (O.row 32 none [sl cards,gC cs])) 1 (O.row 41 none [i6 0,i6 0,i6 0,i6 0,i6 0,i6 0,i6 0,i6 0,i6 0,i6 0,i6 0,i6 0,i6 0,i6 0,i6 0,i6 0,i6 0,i6 0])) 2 (CR.mk (cbW size) (ofOs T.e 0 ([gO cards cs,O.row 41 none (arF zeroF)]++cbD cards cs F size q B la pa k)) 8 []),Tt,(z0 != z0)=false,wr .i64 ((↑size:Int)-(1:Int))=z2,An [z0≤z2,z2<(↑size:Int)],takeE 18 (dropF (0+j*18) (bF B size))=some z1,An [Zz,z0=z0,Tt],An [z1=z1,TT 18],Tt])=_) ?_
 (repeat'(first|(with_reducible apply And.intro)|(refine fun(_:True)=>?_)))
 all_goals first|exact hcall|(with_reducible exact htk)|exact hg|exact hc|exact hB|exact hla|exact hpa|exact hE|exact hS|exact aq|rfl|skip
theorem Qqv(cards:List Int)(cs:List (List Int))(lim:Int)(hl1:cards.length≤1000)(hl2:cs.length≤1000)(e:Int)(he:Qca cards cs lim=e)(h0:e≠0):FnOk Pg g0 39 [gV cards cs,i6 lim] (.tup [.agg [.nils,.nils],i6 e]):=by
 have hd:=Qex cards cs lim hl1 hl2 e he h0
 have hg:=Qap cs
 have hc:=Qad cards
 refine FnOk.of_vc vE_ok mixed Qac (n:=1000) (r:=[1]) (S:={sl:=[(4,.ptr 0 0),(5,i6 e)],os:=[.row 77 none [.nils,.nils]]}) (hs:=[fn 12 (.tup [.nilp,.agg [.nils,.nils],i6 e])]) ?_
 refine Eq.mp (by kernel_rfl:(let z0:=[V.nils,V.nils];An [Sm (V.tup [V.agg z0,i6 e]),An [TT 2,Tt,Tt],FnOk Pg g0 88 [V.agg [V.im cards.length (ints cards),V.im cs.length (List.map sl cs)],i6 lim] (V.tup [V.nilp,V.agg z0,i6 e]),Tt,An [Zz,e=e,Tt],An [Sm z0,TT 2],Tt])=_) ?_
 (repeat'(first|(with_reducible apply And.intro)|(refine fun(_:True)=>?_)))
 all_goals first|exact hd|exact hg|exact hc|exact aq|rfl|skip
theorem Qmy(cards:List Int)(cs:List (List Int))(lim:Nat)(he:Qca cards cs (lim:Int)=0):FnOk Pg g0 39 [gV cards cs,i6 (lim:Int)] (.tup [ldV (2^cards.length) (laT cards.length lim (fF cards cs) (2^cards.length)) (paT cards.length lim (fF cards cs) (2^cards.length)),i6 0]):=by
 obtain⟨q,k,_,h⟩:=Qeh cards cs lim he
 generalize tabB cards.length lim (fF cards cs) (2^cards.length)=B at*
 generalize laT cards.length lim (fF cards cs) (2^cards.length)=la at*
 generalize paT cards.length lim (fF cards cs) (2^cards.length)=pa at*
 generalize fF cards cs=F at*
 generalize 2^cards.length=size at*
 have hcall:=Qit (.row 77 none [.nils,.nils]) (.inr rfl) cards cs F size q B la pa k lim h
 have hB:=Qaa B size
 have hla:=Qaf la size
 have hpa:=Qag pa size
 have hE:=Qab q (k+1)
 have hS:=Qaa (scF F q) (k+1)
 have hg:=Qap cs
 have hc:=Qad cards
 clear h he
 refine FnOk.of_vc vE_ok mixed Qac (n:=1000) (r:=[1]) (S:={sl:=[(4,.ptr 0 0),(5,i6 0)],os:=[.row 77 none [.im size (nF la size),.im size (uF pa size)]],md:=[1]}) (hs:=[(12,.call ⟨cbW size,ofOs .e 0 ([gO cards cs,.row 77 none [.nils,.nils]]++cbD cards cs F size q B la pa k),8,[]⟩)]) ?_
 refine Eq.mp (by kernel_rfl:(let z0:=O.row 77 none [V.nils,V.nils];let z1:=nF la size;let z2:=uF pa size;An [V.tup [V.agg [V.im size z1,V.im size z2],i6 0]=V.tup [ldV size la pa,i6 0],CallSpec Pg g0 (V.fn 88 []) [V.agg [sl cards,gC cs],i6 ↑lim] (pt (pt T.e 0 (O.row 32 none [sl cards,gC cs])) 1 z0) 2 (CR.mk (cbW size) (ofOs T.e 0 ([gO cards cs,z0]++cbD cards cs F size q B la pa k)) 8 []),Tt,An [Zz,Sm (0:Int),Tt],An [An [Sm size,z1=z1,HfL z1],An [Sm size,z2=z2,HfL z2],Tt],Tt])=_) ?_
 (repeat'(first|(with_reducible apply And.intro)|(refine fun(_:True)=>?_)))
 all_goals first|exact hcall|exact hg|exact hc|exact hB|exact hla|exact hpa|exact hE|exact hS|exact aq|rfl|skip
end Go.Proofs.YtglpoiaedkoecaaDoor.Am
namespace Go.Proofs.YtglpoiaedkoecaaDoor.Am.GG
abbrev Rel:=Nat→Nat→Bool
structure Ranked(n:Nat)(g:Rel)(out:Nat→Bool)(P:Nat→Bool)(r:Nat→Nat)(m:Nat):Prop where
 lt: ∀u,P u=true→r u<m
 dn: ∀u,P u=true→out u=false∧∀p,p<n→g u p=true→P p=true∧r p<r u
end Go.Proofs.YtglpoiaedkoecaaDoor.Am.GG
namespace Go.Proofs.YtglpoiaedkoecaaDoor.Am
open Go.RowKit
set_option maxHeartbeats 1000000
set_option maxRecDepth 100000
theorem Qjq(x:Nat):BitVec.ofInt 64 (x:Int)=BitVec.ofNat 64 x:=by
 apply BitVec.eq_of_toNat_eq
 rw[BitVec.toNat_ofInt,BitVec.toNat_ofNat];omega
theorem wrapn{z:Nat}(h:z<18446744073709551616):IntKind.u64.wrap ((z:Nat):Int)=(z:Int):=by
 rw[←wr_eq];exact Qn8 (by simp[lo]) (by simp[hi];omega)
theorem andnot_u{G:Ctx}{t:Nat}{x y:Nat}(hx:x<18446744073709551616)(hy:y<18446744073709551616): ∃z:Nat,binV G .andNot t (u6 (x:Int)) (u6 (y:Int))=some (u6 (z:Int))∧z<18446744073709551616∧(z=0↔∀b,x.testBit b=true→y.testBit b=true):=by
 have h:(BitVec.ofInt 64 (x:Int)&&& ~~~BitVec.ofInt 64 (y:Int)).toNat=x&&& (2^64-(y+1)):=by
  rw[Qjq,Qjq,BitVec.toNat_and,BitVec.toNat_not,BitVec.toNat_ofNat,BitVec.toNat_ofNat,Nat.mod_eq_of_lt hx,Nat.mod_eq_of_lt hy]
  congr 1;omega
 have hz:x&&& (2^64-(y+1))<2^64:=Nat.and_lt_two_pow _ (by omega)
 refine⟨x&&& (2^64-(y+1)),?_,hz,?_⟩
 ·have e : binV G .andNot t (u6 (x : Int)) (u6 (y : Int)) = some (.int .u64 (IntKind.u64.wrap ((BitVec.ofInt 64 (x : Int) &&& ~~~BitVec.ofInt 64 (y : Int)).toNat : Int))) := rfl
  rw[e,h,wrapn hz]
 ·have hb : ∀ b, (x &&& (2 ^ 64 - (y + 1))).testBit b = (x.testBit b && !y.testBit b) := fun b => by
   rw[Nat.testBit_and,Nat.testBit_two_pow_sub_succ hy]
   by_cases hb:b<64
   ·simp[hb]
   ·have : x.testBit b = false := Nat.testBit_lt_two_pow (Nat.lt_of_lt_of_le (show x < 2 ^ 64 from hx) (Nat.pow_le_pow_right (show 0 < 2 by omega) (show 64 ≤ b by omega)))
    simp[this]
  constructor
  ·intro h0 b hxb
   have:=hb b
   rw[h0,Nat.zero_testBit,hxb]at this
   simpa using this.symm
  ·intro hall
   apply Nat.eq_of_testBit_eq
   intro b
   rw[hb,Nat.zero_testBit]
   cases hxb:x.testBit b with
   |false=>rfl
   |true=>rw[hall b hxb];rfl
def ut(l:List Nat):List V:=l.map fun(x:Nat)=>u6 (x:Int)
abbrev ul(l:List Nat):V:=.im l.length (ut l)
theorem Qe8{l:List Nat}{k:Nat}(h:k<l.length):headF ((ut l).drop (k*1))=some (u6 ((l.getD k 0:Nat):Int)):=by
 unfold ut
 rw[List.getD_eq_getElem?_getD,List.getElem?_eq_getElem h]
 exact Qdp (List.getElem?_eq_getElem h)
theorem Qa6(l:List Nat):HfL (ut l):=Qbt _ l (fun _=>trivial)
def S64(l:List Nat):Prop:=∀x∈l,x<18446744073709551616
theorem S64.get{l:List Nat}(h:S64 l)(k:Nat):l.getD k 0<18446744073709551616:=by
 rw[List.getD_eq_getElem?_getD]
 cases hx:l[k]? with
 |none=>decide
 |some x=>exact h x (List.mem_of_getElem? hx)
set_option maxHeartbeats 4000000
abbrev lV(L:List Int)(P:List Nat):V:=.agg [sl L,ul P]
abbrev lO(L:List Int)(P:List Nat):O:=.row 77 none [sl L,ul P]
def isW(L:List Int)(P:List Nat)(w:Nat):Bool:=decide (L.length=2^w)&&decide (P.length=2^w)
def wdt(L:List Int)(P:List Nat):Nat:=match[1,2,3,4,5].find? (isW L P)with
 |some w=>w
 |none=>0
theorem Qce{L:List Int}{P:List Nat}{w:Nat}:isW L P w=true↔L.length=2^w∧P.length=2^w:=by
 unfold isW;rw[Bool.and_eq_true,decide_eq_true_eq,decide_eq_true_eq]
theorem isW_inj{L:List Int}{P:List Nat}{v w:Nat}(h:isW L P v=true)(k:isW L P w=true):v=w:=by
 have h1:=(Qce.1 h).1
 have h2:=(Qce.1 k).1
 rw[h1]at h2
 rcases Nat.lt_trichotomy v w with h'|h'|h'
 ·have:=Nat.pow_lt_pow_right (show 1<2 by decide) h';omega
 ·exact h'
 ·have:=Nat.pow_lt_pow_right (show 1<2 by decide) h';omega
theorem Qdx(L:List Int)(P:List Nat):wdt L P≤5∧(1≤wdt L P→isW L P (wdt L P)=true)∧(∀j,1≤j→j≤5→isW L P j=true→wdt L P=j):=by
 unfold wdt
 cases hf:[1,2,3,4,5].find? (isW L P)with
 |none=>
  have:=List.find?_eq_none.1 hf
  refine⟨Nat.zero_le _,fun h=>absurd h (by decide),fun j h1 h5 h=>?_⟩
  exact absurd h (this j (by simp;omega))
 |some w=>
  have h1:=List.find?_some hf
  have h2:=List.mem_of_find?_eq_some hf
  refine⟨by simp at h2;dsimp only;omega,fun _=>h1,fun j _ _ h=>isW_inj h1 h⟩
theorem shl1_i'(k:Nat)(hk:k<16): ∀(G:Ctx)(t:Nat),binV G .shl t (i6 1) (i6 (k:Int))=some (i6 ((2^k:Nat):Int)):=fun G t=>Qjy hk
abbrev vbS(L:List Int)(P:List Nat)(k:Nat):SL:={sl:=[(1,.ptr 0 0),(3,i6 (k:Nat))],os:=[lO L P]}
abbrev i2(n:Int):SL:={sl:=[(2,i6 n)]}
theorem Qd0{a b:Nat}:((a:Int)==(b:Int))=decide (a=b):=by
 by_cases h:a=b
 ·subst h;simp
 ·rw[decide_eq_false h,beq_eq_false_iff_ne];omega
theorem vb_loop(L:List Int)(P:List Nat):Sat Pg none 0 (at' 89 [1,0,1,0]) (mkSt g0 23 (vbS L P 1)) (Qah g0 23 [(1≤wdt L P,.ret,i2 (wdt L P:Nat)),(wdt L P=0,.exit 0,{sl:=[]})]):=by
 have hu:=Qa6 P
 obtain⟨w5,w1,w0⟩:=Qdx L P
 refine Qbi vE_ok mixed Qac (b:=at' 89 [1,0,1,0,0]) (by kernel_rfl) (fun k=>1≤k∧k≤6∧(1≤wdt L P→k≤wdt L P)) (vbS L P) (fun k=>6-k) (fun k hk=>?_) 1 ⟨by decide,by decide,fun h=>h⟩
 obtain⟨h1,h6,hle⟩:=hk
 by_cases h5:k≤5
 ·have hs := shl1_i' k (by omega)
  by_cases a:L.length=2^k
  ·by_cases b : P.length = 2 ^ k
   ·have e := w0 k h1 h5 (Qce.2 ⟨a, b⟩)
    have ha:((L.length:Int)==((2^k:Nat):Int))=true:=by rw[Qd0,decide_eq_true a]
    have hb:((P.length:Int)==((2^k:Nat):Int))=true:=by rw[Qd0,decide_eq_true b]
    clear w0 w1 hle
    generalize wdt L P=w at*
    subst e
    generalize 2^w=z at*
    refine .inr ⟨.ret,[],i2 (w:Nat),[yes 5,va 12 (i6 (z:Nat)),yes 13,va 19 (i6 (z:Nat)),yes 20],1000,.inl ⟨h1,rfl,rfl⟩,?_⟩
    refine Eq.mp (by kernel_rfl:(let z0:=binV (Qae Pg) .shl 3 (i6 1) (i6 ↑w);let z1:=(↑w:Int);An [decide (z1≤(5:Int))=true,z0=some (i6 ↑z),((↑L.length:Int)==(↑z:Int))=true,z0=some (i6 ↑z),((↑P.length:Int)==(↑z:Int))=true,An [z1=z1,Tt],Tt])=_) ?_
    (repeat'(first|(with_reducible apply And.intro)|(refine fun(_:True)=>?_)))
    all_goals first|(with_reducible exact hs _ _)|(with_reducible exact ha)|(with_reducible exact hb)|exact aq|rfl|skip
   ·have ha : ((L.length : Int) == ((2 ^ k : Nat) : Int)) = true := by rw [Qd0, decide_eq_true a]
    have hb:((P.length:Int)==((2^k:Nat):Int))=false:=by rw[Qd0,decide_eq_false b]
    have hw:wdt L P≠k:=fun e=>b (by have:=(Qce.1 (w1 (by omega))).2;rw[e]at this;exact this)
    generalize 2^k=z at*
    refine .inl ⟨k+1,[0],[yes 5,va 12 (i6 (z:Nat)),yes 13,va 19 (i6 (z:Nat)),no 20,nu 7 ((k+1:Nat):Int)],1000,⟨by omega,by omega,fun h=>by have:=hle h;omega⟩,by omega,?_⟩
    clear w1 w0 hle hw
    refine Eq.mp (by kernel_rfl:(let z0:=binV (Qae Pg) .shl 3 (i6 1) (i6 ↑k);let z1:=(↑(k+1):Int);An [decide ((↑k:Int)≤(5:Int))=true,z0=some (i6 ↑z),((↑L.length:Int)==(↑z:Int))=true,z0=some (i6 ↑z),((↑P.length:Int)==(↑z:Int))=false,wr .i64 ((↑k:Int)+(1:Int))=z1,An [Zz,z1=z1,Tt],An [Sm [sl L,ul P],TT 2],Tt])=_) ?_
    (repeat'(first|(with_reducible apply And.intro)|(refine fun(_:True)=>?_)))
    all_goals first|(with_reducible exact hs _ _)|(with_reducible exact ha)|(with_reducible exact hb)|exact hu|exact aq|rfl|skip
  ·have ha : ((L.length : Int) == ((2 ^ k : Nat) : Int)) = false := by rw [Qd0, decide_eq_false a]
   have hw:wdt L P≠k:=fun e=>a (by have:=(Qce.1 (w1 (by omega))).1;rw[e]at this;exact this)
   generalize 2^k=z at*
   refine .inl ⟨k+1,[0],[yes 5,va 12 (i6 (z:Nat)),no 13,nu 7 ((k+1:Nat):Int)],1000,⟨by omega,by omega,fun h=>by have:=hle h;omega⟩,by omega,?_⟩
   clear w1 w0 hle hw
   refine Eq.mp (by kernel_rfl:(An [decide ((↑k:Int)≤(5:Int))=true,binV (Qae Pg) .shl 3 (i6 1) (i6 ↑k)=some (i6 ↑z),((↑L.length:Int)==(↑z:Int))=false,wr .i64 ((↑k:Int)+(1:Int))=(↑(k+1):Int),An [Zz,Sm (↑(k+1):Int),Tt],An [Sm [sl L,ul P],TT 2],Tt])=_) ?_
   (repeat'(first|(with_reducible apply And.intro)|(refine fun(_:True)=>?_)))
   all_goals first|(with_reducible exact hs _ _)|(with_reducible exact ha)|exact hu|exact aq|rfl|skip
 ·have hz : wdt L P = 0 := by
   rcases Nat.eq_zero_or_pos (wdt L P)with h|h
   ·exact h
   ·have:=hle h;omega
  refine .inr ⟨.exit 0,[],{sl:=[]},[no 5],1000,.inr (.inl ⟨hz,rfl,rfl⟩),?_⟩
  clear w1 w0 hle hz
  refine Eq.mp (by kernel_rfl:(An [decide ((↑k:Int)≤(5:Int))=false,Tt,Tt])=_) ?_
  (repeat'(first|(with_reducible apply And.intro)|(refine fun(_:True)=>?_)))
  all_goals first|exact hu|exact aq|rfl|skip
theorem Qa4(L:List Int)(P:List Nat):FnOk Pg g0 89 [lV L P] (i6 (wdt L P:Nat)):=by
 have hl:=vb_loop L P
 have hu:=Qa6 P
 rcases Nat.eq_zero_or_pos (wdt L P)with h|h
 ·have hl := hl.mono (Qci (by omega) h)
  rw[h]
  refine FnOk.of_vc vE_ok mixed Qac (n:=1000) (r:=[]) (S:=i2 0) (hs:=[(0,.loop [0] (vbS L P 1) [(True,.exit 0,{sl:=[]})])]) ?_
  refine Eq.mp (by kernel_rfl:(An [i6 0=i6 ↑(0:Nat),An [An [Zz,(↑(1:Nat):Int)=(1:Int),Tt],An [Sm [sl L,ul P],TT 2],Tt],Sat Pg none 0 (at' 89 [1,0,1,0]) (mkSt g0 23 (vbS L P 1)) (Qah g0 23 [(True,Ex.exit 0,SL.mk [] [] [] [])]),(True→An [An [Sm (0:Int),Tt],Tt]),Tt])=_) ?_
  (repeat'(first|(with_reducible apply And.intro)|(refine fun(_:True)=>?_)))
  all_goals first|exact hl|exact hu|exact aq|rfl|skip
 ·have hl := hl.mono (Qch h (by omega))
  generalize wdt L P=w at*
  refine FnOk.of_vc vE_ok mixed Qac (n:=1000) (r:=[]) (S:=i2 (w:Nat)) (hs:=[(0,.loop [0] (vbS L P 1) [(True,.ret,i2 (w:Nat))])]) ?_
  refine Eq.mp (by kernel_rfl:(An [Sm (i6 ↑w),An [An [Zz,(↑(1:Nat):Int)=(1:Int),Tt],An [Sm [sl L,ul P],TT 2],Tt],Sat Pg none 0 (at' 89 [1,0,1,0]) (mkSt g0 23 (vbS L P 1)) (Qah g0 23 [(True,Ex.ret,i2 (↑w:Int))]),(True→An [An [Sm (↑w:Int),Tt],Tt]),Tt])=_) ?_
  (repeat'(first|(with_reducible apply And.intro)|(refine fun(_:True)=>?_)))
  all_goals first|exact hl|exact hu|exact aq|rfl|skip
def okS(L:List Int)(P:List Nat)(s:Nat):Bool:=decide (0≤L.getD s 0)&&(decide (L.getD s 0<5)&&(s.testBit (L.getD s 0).toNat&&decide (P.getD s 0&&& (s-2^(L.getD s 0).toNat)=P.getD s 0)))
def okLd(L:List Int)(P:List Nat):Bool:=(List.range L.length).all fun s=>decide (s=0)||okS L P s
def ok0(L:List Int)(P:List Nat):Bool:=decide (L.getD 0 0=0)&&decide (P.getD 0 0=0)
def ladB(L:List Int)(P:List Nat):Bool:=decide (1≤wdt L P)&&(ok0 L P&&okLd L P)
theorem sub_iff{p w:Nat}:(∀b,p.testBit b=true→w.testBit b=true)↔p&&& w=p:=by
 constructor
 ·intro h
  apply Nat.eq_of_testBit_eq
  intro b
  rw[Nat.testBit_and]
  cases hb:p.testBit b with
  |false=>rfl
  |true=>rw[h b hb];rfl
 ·intro h b hb
  rw[←h,Nat.testBit_and,Bool.and_eq_true]at hb
  exact hb.2
theorem wr_u{s:Nat}(h:s<32):wr .u64 (s:Int)=s:=Qn8 (by simp[lo]) (by simp[hi];omega)
abbrev ccS(L:List Int)(P:List Nat)(k:Nat):SL:={sl:=[(1,.ptr 0 0),(3,i6 (k:Nat))],os:=[lO L P]}
theorem cc_loop(L:List Int)(P:List Nat)(hP:S64 P)(hlen:P.length=L.length)(h32:L.length≤32):
  Sat Pg none 0 (at' 56 [1,1,1,0,1,0]) (mkSt g0 57 (ccS L P 1)) (Qah g0 57 [(okLd L P=true,.exit 0,{sl:=[]}),(okLd L P=false,.ret,i2 290)]):=by
 have hu:=Qa6 P
 refine Qbi vE_ok mixed Qac (b:=at' 56 [1,1,1,0,1,0,0]) (by kernel_rfl) (fun k=>1≤k∧∀j,j<k→(decide (j=0)||okS L P j)=true) (ccS L P) (fun k=>L.length-k) (fun k hk=>?_) 1 ⟨Nat.le_refl _,fun j hj=>by rw[show j=0 by omega];rfl⟩
 obtain⟨hk1,hj⟩:=hk
 by_cases hlt:k<L.length
 ·have hld := @Qas L k hlt
  have hlp:=@Qe8 P k (by omega)
  have hbad:okS L P k=false→okLd L P=false:=fun h=>Qb3 hlt (by rw[h,decide_eq_false (by omega)];rfl)
  have hgood:okS L P k=true→∀j,j<k+1→(decide (j=0)||okS L P j)=true:=fun h j hj1=>by
   rcases Nat.lt_succ_iff_lt_or_eq.1 hj1 with h2|h2
   ·exact hj j h2
   ·subst h2;rw[h,Bool.or_true]
  have hp64:=hP.get k
  unfold okS at hbad hgood
  generalize hp:P.getD k 0=p at*
  generalize hx:L.getD k 0=x at*
  clear hj hp hx
  by_cases h1:x<0
  ·have hb := hbad (by rw [decide_eq_false (by omega)]; rfl)
   refine .inr ⟨.ret,[],i2 290,[yes 24,pl 30,ld 31 (i6 x),yes 33],1000,.inr (.inl ⟨hb,rfl,rfl⟩),?_⟩
   refine Eq.mp (by kernel_rfl:(let z0:=(↑k:Int);An [decide (z0<(↑L.length:Int))=true,An [(0:Int)≤z0,z0<(↑L.length:Int)],headF (List.drop (k*1) (ints L))=some (i6 x),decide (x<(0:Int))=true,An [Sm (290:Int),Tt],Tt])=_) ?_
   (repeat'(first|(with_reducible apply And.intro)|(refine fun(_:True)=>?_)))
   all_goals first|(with_reducible exact hld)|exact hu|exact aq|rfl|skip
  ·by_cases h2 : x < 5
   ·rw [decide_eq_true (show 0 ≤ x by omega), decide_eq_true h2] at hbad hgood
    obtain⟨v,rfl⟩: ∃v:Nat,x=v:=⟨x.toNat,by omega⟩
    simp only[Int.toNat_natCast,Bool.true_and]at hbad hgood
    have hv:v<5:=by omega
    have s1:=fun G t=>@shr_i G t k v (by omega)
    cases hbit:k.testBit v with
    |false=>
     have hb:=hbad (by rw[hbit];rfl)
     have s2:=fun G t=>@Qln G t k v 0 (by omega) hv (by decide) hbit
     generalize k/2^v=z at*
     refine .inr ⟨.ret,[],i2 290,[yes 24,pl 30,ld 31 (i6 (v:Nat)),no 33,no 36,va 41 (i6 (z:Nat)),va 42 (i6 0),yes 43],1000,.inr (.inl ⟨hb,rfl,rfl⟩),?_⟩
     refine Eq.mp (by kernel_rfl:(let z0:=(0:Int);let z1:=(↑k:Int);An [decide (z1<(↑L.length:Int))=true,An [z0≤z1,z1<(↑L.length:Int)],headF (List.drop (k*1) (ints L))=some (i6 ↑v),decide ((↑v:Int)<z0)=false,decide ((↑v:Int)≥(5:Int))=false,binV (Qae Pg) .shr 3 (i6 ↑k) (i6 ↑v)=some (i6 ↑z),binV (Qae Pg) .and 3 (i6 ↑z) (i6 1)=some (i6 0),(z0==z0)=true,An [Sm (290:Int),Tt],Tt])=_) ?_
     (repeat'(first|(with_reducible apply And.intro)|(refine fun(_:True)=>?_)))
     all_goals first|(with_reducible exact hld)|(with_reducible exact s1 _ _)|(with_reducible exact s2 _ _)|exact hu|exact aq|rfl|skip
    | true =>
     rw[hbit]at hbad hgood
     have s2:=fun G t=>@Qln G t k v 1 (by omega) hv (by decide) hbit
     have s3:=fun G t=>@shl1_w G t v (by omega)
     have s4:=fun G t=>@andn_u G t k v (by omega) hv hbit
     have hcv:=wr_u (show k<32 by omega)
     obtain⟨z',s5,_,hz⟩:=@andnot_u (Qae Pg) 28 p (k-2^v) hp64 (by have:=Nat.sub_le k (2^v);omega)
     rw[sub_iff]at hz
     by_cases h4:z'=0
     ·have hg := hgood (by rw [decide_eq_true (hz.1 h4)]; rfl)
      subst h4
      clear hgood hbad hz
      generalize k-2^v=u at*
      generalize k/2^v=z at*
      generalize 2^v=y at*
      refine .inl ⟨k+1,[0],[yes 24,pl 30,ld 31 (i6 (v:Nat)),no 33,no 36,va 41 (i6 (z:Nat)),va 42 (i6 1),no 43,pl 48,ld 49 (u6 (p:Nat)),nu 51 (k:Int),va 53 (u6 (y:Nat)),va 54 (u6 (u:Nat)),va 55 (u6 ((0:Nat):Int)),no 56,nu 26 ((k+1:Nat):Int)],1000,⟨by omega,hg⟩,by omega,?_⟩
      clear hg
      refine Eq.mp (by kernel_rfl:(let z0:=(↑k:Int);let z1:=Qae Pg;let z2:=(↑(k+1):Int);let z3:=(0:Int);An [decide (z0<(↑L.length:Int))=true,An [z3≤z0,z0<(↑L.length:Int)],headF (List.drop (k*1) (ints L))=some (i6 ↑v),decide ((↑v:Int)<z3)=false,decide ((↑v:Int)≥(5:Int))=false,binV z1 .shr 3 (i6 ↑k) (i6 ↑v)=some (i6 ↑z),binV z1 .and 3 (i6 ↑z) (i6 1)=some (i6 1),((1:Int)==z3)=false,An [z3≤z0,z0<(↑P.length:Int)],headF (List.drop (k*1) (ut P))=some (u6 ↑p),wr .u64 z0=z0,binV z1 .shl 28 (u6 1) (i6 ↑v)=some (u6 ↑y),binV z1 .andNot 28 (u6 ↑k) (u6 ↑y)=some (u6 ↑u),binV z1 .andNot 28 (u6 ↑p) (u6 ↑u)=some (u6 ↑(0:Nat)),((↑(0:Nat):Int) != z3)=false,wr .i64 (z0+(1:Int))=z2,An [Zz,z2=z2,Tt],An [Sm [sl L,ul P],TT 2],Tt])=_) ?_
      (repeat'(first|(with_reducible apply And.intro)|(refine fun(_:True)=>?_)))
      all_goals first|(with_reducible exact hld)|(with_reducible exact hlp)|(with_reducible exact s1 _ _)|(with_reducible exact s2 _ _)|(with_reducible exact s3 _ _)|(with_reducible exact s4 _ _)|(with_reducible exact s5)|(with_reducible exact hcv)|exact hu|exact aq|rfl|skip
     ·have hb := hbad (by rw [decide_eq_false (fun h => h4 (hz.2 h))]; rfl)
      clear hgood hbad hz
      generalize k-2^v=u at*
      generalize k/2^v=z at*
      generalize 2^v=y at*
      refine .inr ⟨.ret,[],i2 290,[yes 24,pl 30,ld 31 (i6 (v:Nat)),no 33,no 36,va 41 (i6 (z:Nat)),va 42 (i6 1),no 43,pl 48,ld 49 (u6 (p:Nat)),nu 51 (k:Int),va 53 (u6 (y:Nat)),va 54 (u6 (u:Nat)),va 55 (u6 (z':Nat)),yes 56],1000,.inr (.inl ⟨hb,rfl,rfl⟩),?_⟩
      refine Eq.mp (by kernel_rfl:(let z0:=(↑k:Int);let z1:=Qae Pg;let z2:=(0:Int);An [decide (z0<(↑L.length:Int))=true,An [z2≤z0,z0<(↑L.length:Int)],headF (List.drop (k*1) (ints L))=some (i6 ↑v),decide ((↑v:Int)<z2)=false,decide ((↑v:Int)≥(5:Int))=false,binV z1 .shr 3 (i6 ↑k) (i6 ↑v)=some (i6 ↑z),binV z1 .and 3 (i6 ↑z) (i6 1)=some (i6 1),((1:Int)==z2)=false,An [z2≤z0,z0<(↑P.length:Int)],headF (List.drop (k*1) (ut P))=some (u6 ↑p),wr .u64 z0=z0,binV z1 .shl 28 (u6 1) (i6 ↑v)=some (u6 ↑y),binV z1 .andNot 28 (u6 ↑k) (u6 ↑y)=some (u6 ↑u),binV z1 .andNot 28 (u6 ↑p) (u6 ↑u)=some (u6 ↑z'),((↑z':Int) != z2)=true,An [Sm (290:Int),Tt],Tt])=_) ?_
      (repeat'(first|(with_reducible apply And.intro)|(refine fun(_:True)=>?_)))
      all_goals first|(with_reducible exact hld)|(with_reducible exact hlp)|(with_reducible exact s1 _ _)|(with_reducible exact s2 _ _)|(with_reducible exact s3 _ _)|(with_reducible exact s4 _ _)|(with_reducible exact s5)|(with_reducible exact hcv)|exact hu|exact aq|rfl|skip
   ·have hb := hbad (by rw [decide_eq_false h2, Bool.false_and, Bool.and_false])
    refine .inr ⟨.ret,[],i2 290,[yes 24,pl 30,ld 31 (i6 x),no 33,yes 36],1000,.inr (.inl ⟨hb,rfl,rfl⟩),?_⟩
    refine Eq.mp (by kernel_rfl:(let z0:=(↑k:Int);An [decide (z0<(↑L.length:Int))=true,An [(0:Int)≤z0,z0<(↑L.length:Int)],headF (List.drop (k*1) (ints L))=some (i6 x),decide (x<(0:Int))=false,decide (x≥(5:Int))=true,An [Sm (290:Int),Tt],Tt])=_) ?_
    (repeat'(first|(with_reducible apply And.intro)|(refine fun(_:True)=>?_)))
    all_goals first|(with_reducible exact hld)|exact hu|exact aq|rfl|skip
 ·have hall : okLd L P = true := Qam.2 fun j hj1 => hj j (by omega)
  refine .inr ⟨.exit 0,[],{sl:=[]},[no 24],1000,.inl ⟨hall,rfl,rfl⟩,?_⟩
  clear hj hall
  refine Eq.mp (by kernel_rfl:(An [decide ((↑k:Int)<(↑L.length:Int))=false,Tt,Tt])=_) ?_
  (repeat'(first|(with_reducible apply And.intro)|(refine fun(_:True)=>?_)))
  all_goals first|exact hu|exact aq|rfl|skip
theorem Qaq(L:List Int)(P:List Nat)(hP:S64 P):FnOk Pg g0 56 [lV L P] (i6 (if ladB L P then 0 else 290)):=by
 have hv:=Qa4 L P
 have hu:=Qa6 P
 unfold ladB
 obtain⟨w5,w1,w0⟩:=Qdx L P
 rcases Nat.eq_zero_or_pos (wdt L P)with h|h
 ·rw [h] at hv
  rw[h,decide_eq_false (show¬1≤0 by decide),Bool.false_and,if_neg (by decide)]
  clear w1 w0 w5 h
  refine FnOk.of_vc vE_ok mixed Qac (n:=1000) (r:=[]) (S:=i2 290) (hs:=[fn 6 (i6 0),yes 7]) ?_
  refine Eq.mp (by kernel_rfl:(An [Sm (i6 290),An [TT 2,Tt],FnOk Pg g0 89 [V.agg [V.im L.length (ints L),V.im P.length (ut P)]] (i6 0),Tt,((0:Int)==(0:Int))=true,An [Sm (290:Int),Tt],Tt])=_) ?_
  (repeat'(first|(with_reducible apply And.intro)|(refine fun(_:True)=>?_)))
  all_goals first|exact hv|exact hu|exact aq|rfl|skip
 ·obtain ⟨e1, e2⟩ := Qce.1 (w1 h)
  have hpos:1≤2^wdt L P:=Nat.pow_pos (by decide)
  have h32:=Qa0 w5
  rw[decide_eq_true (show 1≤wdt L P from h),Bool.true_and]
  have hlen:P.length=L.length:=by omega
  have hl:=cc_loop L P hP hlen (by omega)
  have hld:=@Qas L 0 (by omega)
  have hlp:=@Qe8 P 0 (by omega)
  unfold ok0
  clear w1 w0 e2
  generalize wdt L P=w at*
  have hw0:((w:Int)==0)=false:=by rw[beq_eq_false_iff_ne];omega
  have hL0:0<L.length:=by omega
  have hP0:0<P.length:=by omega
  clear e1 hpos h32
  by_cases h1:L.getD 0 0=0
  ·rw [decide_eq_true h1, Bool.true_and]
   rw[h1]at hld
   by_cases h2:P.getD 0 0=0
   ·rw [decide_eq_true h2, Bool.true_and]
    rw[h2]at hlp
    cases hok:okLd L P with
    |true=>
     have hl:=hl.mono (Qch hok (by rw[hok];simp))
     rw[if_pos rfl]
     refine FnOk.of_vc vE_ok mixed Qac (n:=1000) (r:=[]) (S:=i2 0) (hs:=[fn 6 (i6 (w:Nat)),no 7,pl 10,ld 11 (i6 0),no 12,pl 16,ld 17 (u6 ((0:Nat):Int)),no 18,(0,.loop [0] (ccS L P 1) [(True,.exit 0,{sl:=[]})])]) ?_
     refine Eq.mp (by kernel_rfl:(let z0:=(0:Int);An [Sm (i6 0),An [TT 2,Tt],FnOk Pg g0 89 [V.agg [V.im L.length (ints L),V.im P.length (ut P)]] (i6 ↑w),Tt,((↑w:Int)==z0)=false,An [z0≤z0,z0<(↑L.length:Int)],headF (List.drop (Int.toNat z0*1) (ints L))=some (i6 0),(z0 != z0)=false,An [z0≤z0,z0<(↑P.length:Int)],headF (List.drop (Int.toNat z0*1) (ut P))=some (u6 ↑(0:Nat)),((↑(0:Nat):Int) != z0)=false,An [An [Zz,(↑(1:Nat):Int)=(1:Int),Tt],An [Sm [sl L,ul P],TT 2],Tt],Sat Pg none 0 (at' 56 [1,1,1,0,1,0]) (mkSt g0 57 (ccS L P 1)) (Qah g0 57 [(True,Ex.exit 0,SL.mk [] [] [] [])]),(True→An [An [z0=z0,Tt],Tt]),Tt])=_) ?_
     (repeat'(first|(with_reducible apply And.intro)|(refine fun(_:True)=>?_)))
     all_goals first|exact hl|exact hv|(with_reducible exact hld)|(with_reducible exact hlp)|exact hu|exact hw0|exact aq|rfl|skip
    |false=>
     have hl:=hl.mono (Qci (by rw[hok];simp) hok)
     rw[if_neg (by decide)]
     refine FnOk.of_vc vE_ok mixed Qac (n:=1000) (r:=[]) (S:=i2 290) (hs:=[fn 6 (i6 (w:Nat)),no 7,pl 10,ld 11 (i6 0),no 12,pl 16,ld 17 (u6 ((0:Nat):Int)),no 18,(0,.loop [0] (ccS L P 1) [(True,.ret,i2 290)])]) ?_
     refine Eq.mp (by kernel_rfl:(let z0:=(0:Int);An [Sm (i6 290),An [TT 2,Tt],FnOk Pg g0 89 [V.agg [V.im L.length (ints L),V.im P.length (ut P)]] (i6 ↑w),Tt,((↑w:Int)==z0)=false,An [z0≤z0,z0<(↑L.length:Int)],headF (List.drop (Int.toNat z0*1) (ints L))=some (i6 0),(z0 != z0)=false,An [z0≤z0,z0<(↑P.length:Int)],headF (List.drop (Int.toNat z0*1) (ut P))=some (u6 ↑(0:Nat)),((↑(0:Nat):Int) != z0)=false,An [An [Zz,(↑(1:Nat):Int)=(1:Int),Tt],An [Sm [sl L,ul P],TT 2],Tt],Sat Pg none 0 (at' 56 [1,1,1,0,1,0]) (mkSt g0 57 (ccS L P 1)) (Qah g0 57 [(True,Ex.ret,i2 (290:Int))]),(True→An [An [Sm (290:Int),Tt],Tt]),Tt])=_) ?_
     (repeat'(first|(with_reducible apply And.intro)|(refine fun(_:True)=>?_)))
     all_goals first|exact hl|exact hv|(with_reducible exact hld)|(with_reducible exact hlp)|exact hu|exact hw0|exact aq|rfl|skip
   ·rw [decide_eq_false h2, Bool.false_and, if_neg (by decide)]
    generalize P.getD 0 0=p at*
    refine FnOk.of_vc vE_ok mixed Qac (n:=1000) (r:=[]) (S:=i2 290) (hs:=[fn 6 (i6 (w:Nat)),no 7,pl 10,ld 11 (i6 0),no 12,pl 16,ld 17 (u6 (p:Nat)),yes 18]) ?_
    refine Eq.mp (by kernel_rfl:(let z0:=(0:Int);An [Sm (i6 290),An [TT 2,Tt],FnOk Pg g0 89 [V.agg [V.im L.length (ints L),V.im P.length (ut P)]] (i6 ↑w),Tt,((↑w:Int)==z0)=false,An [z0≤z0,z0<(↑L.length:Int)],headF (List.drop (Int.toNat z0*1) (ints L))=some (i6 0),(z0 != z0)=false,An [z0≤z0,z0<(↑P.length:Int)],headF (List.drop (Int.toNat z0*1) (ut P))=some (u6 ↑p),((↑p:Int) != z0)=true,An [Sm (290:Int),Tt],Tt])=_) ?_
    (repeat'(first|(with_reducible apply And.intro)|(refine fun(_:True)=>?_)))
    all_goals first|exact hv|(with_reducible exact hld)|(with_reducible exact hlp)|exact hu|exact hw0|exact aq|rfl|skip
  ·rw [decide_eq_false h1, Bool.false_and, Bool.false_and, if_neg (by decide)]
   generalize L.getD 0 0=x at*
   refine FnOk.of_vc vE_ok mixed Qac (n:=1000) (r:=[]) (S:=i2 290) (hs:=[fn 6 (i6 (w:Nat)),no 7,pl 10,ld 11 (i6 x),yes 12]) ?_
   refine Eq.mp (by kernel_rfl:(let z0:=(0:Int);An [Sm (i6 290),An [TT 2,Tt],FnOk Pg g0 89 [V.agg [V.im L.length (ints L),V.im P.length (ut P)]] (i6 ↑w),Tt,((↑w:Int)==z0)=false,An [z0≤z0,z0<(↑L.length:Int)],headF (List.drop (Int.toNat z0*1) (ints L))=some (i6 x),(x != z0)=true,An [Sm (290:Int),Tt],Tt])=_) ?_
   (repeat'(first|(with_reducible apply And.intro)|(refine fun(_:True)=>?_)))
   all_goals first|exact hv|(with_reducible exact hld)|exact hu|exact hw0|exact aq|rfl|skip
def laL(L:List Int):Nat→Nat:=fun s=>(L.getD s 0).toNat
def paL(P:List Nat):Nat→Nat:=fun s=>P.getD s 0
structure LdOk(L:List Int)(P:List Nat)(w:Nat):Prop where
 w1:1≤w
 w5:w≤5
 lenL:L.length=2^w
 lenP:P.length=2^w
 ok:LadOk w (laL L) (paL P)
 nn: ∀s,0<s→s<2^w→L.getD s 0=(laL L s:Int)
 l0:L.getD 0 0=0
 p0:P.getD 0 0=0
theorem Qhn{L:List Int}{P:List Nat}(h:ladB L P=true):LdOk L P (wdt L P):=by
 unfold ladB at h
 rw[Bool.and_eq_true,Bool.and_eq_true,decide_eq_true_eq]at h
 obtain⟨h1,h2,h3⟩:=h
 unfold ok0 at h2
 rw[Bool.and_eq_true,decide_eq_true_eq,decide_eq_true_eq]at h2
 obtain⟨w5,w1,w0⟩:=Qdx L P
 obtain⟨e1,e2⟩:=Qce.1 (w1 h1)
 have key: ∀s,0<s→s<2^wdt L P→0≤L.getD s 0∧L.getD s 0<5∧s.testBit (L.getD s 0).toNat=true∧P.getD s 0&&& (s-2^(L.getD s 0).toNat)=P.getD s 0:=fun s hs hlt=>by
  have:=Qam.1 h3 s (by omega)
  rw[decide_eq_false (by omega),Bool.false_or]at this
  unfold okS at this
  simpa only[Bool.and_eq_true,decide_eq_true_eq]using this
 refine⟨h1,w5,e1,e2,⟨fun s hs hlt=>?_⟩,fun s hs hlt=>?_,h2.1,h2.2⟩
 ·obtain ⟨a, b, c, d⟩ := key s hs hlt
  exact⟨Qi9 _ w5 s hlt _ (by unfold laL;omega) c,c,d⟩
 ·obtain ⟨a, _⟩ := key s hs hlt
  exact(Int.toNat_of_nonneg a).symm
def gL(L:List Int)(P:List Nat)(w:Nat):Nat→Nat:=ladG (laL L) (paL P) w (2^w-1)
theorem uF_ut(f:Nat→Nat): ∀n,uF f n=ut ((List.range n).map f)
 |0=>rfl
 |n+1=>by
  show blF _ (n+1)=_
  rw[Qa8,show blF (fun i=>[u6 (f i:Nat)]) n=ut ((List.range n).map f)from uF_ut f n]
  unfold ut
  rw[List.range_succ,List.map_append,List.map_append];rfl
abbrev gV'(w:Nat)(f:Nat→Nat):V:=.im w (uF f w)
theorem Qqd: ∀w,w≤5→popc (2^w-1)=w:=by decide+kernel
structure DownG(L:List Int)(P:List Nat)(w:Nat)(s:Nat)(g:Nat→Nat):Prop where
 lt:s<2^w
 sub: ∃f,popc s≤f∧∀v,s.testBit v=true→gL L P w v=ladG (laL L) (paL P) f s v
 at_: ∀v,v<w→g v=if s.testBit v then 0 else gL L P w v
theorem DownG.start{L:List Int}{P:List Nat}{w:Nat}(h:LdOk L P w):DownG L P w (2^w-1) (fun _=>0):=by
 have hp:0<2^w:=Nat.pow_pos (by decide)
 refine⟨by omega,⟨w,by rw[Qqd w h.w5];exact Nat.le_refl _,fun v _=>rfl⟩,fun v hv=>?_⟩
 have h5:=h.w5
 rw[full_all w h.w5 v (by omega),decide_eq_true hv,if_pos rfl]
theorem DownG.next{L:List Int}{P:List Nat}{w s:Nat}{g:Nat→Nat}(h:LdOk L P w)(d:DownG L P w s g)(hs:0<s):DownG L P w (s-2^laL L s) (fun i=>if i=laL L s then paL P s else g i):=by
 have h32:=Qa0 h.w5
 have h5:=h.w5
 have hlt:=d.lt
 obtain⟨a1,a2,a3⟩:=h.ok.at_ s hs hlt
 obtain⟨r1,r2,r3⟩:=Qed s (by omega) _ (by omega) a2
 have hp2:0<2^laL L s:=Nat.pow_pos (by decide)
 obtain⟨f,hf,hsub⟩:=d.sub
 cases f with
 |zero=>rw[r2]at hf;omega
 | succ f =>
  refine⟨by omega,⟨f,by omega,fun v hv=>?_⟩,fun v hv=>?_⟩
  ·have hv5 : v < 5 := by
    rcases Nat.lt_or_ge v 5 with h'|h'
    ·exact h'
    ·rw[Nat.testBit_lt_two_pow (Nat.lt_of_lt_of_le (show s-2^laL L s<2^5 by omega) (Nat.pow_le_pow_right (show 0<2 by decide) h'))]at hv;cases hv
   rw[r3 v hv5]at hv
   simp only[Bool.and_eq_true,Bool.not_eq_true',decide_eq_false_iff_not]at hv
   rw[hsub v hv.1,ladG,if_neg (by omega),if_neg hv.2]
  ·rw [r3 v (by omega)]
   by_cases e:v=laL L s
   ·rw [if_pos e, decide_eq_true e, Bool.not_true, Bool.and_false, if_neg (by decide)]
    subst e
    rw[hsub _ a2,ladG,if_neg (by omega),if_pos rfl]
   ·rw[if_neg e,decide_eq_false e,Bool.not_false,Bool.and_true,d.at_ v hv]
theorem DownG.fin{L:List Int}{P:List Nat}{w:Nat}{g:Nat→Nat}(d:DownG L P w 0 g):uF g w=uF (gL L P w) w:=
 Qbf fun i hi=>by
  have:=d.at_ i hi
  rw[Nat.zero_testBit,if_neg (by decide)]at this
  rw[this]
abbrev grS(L:List Int)(P:List Nat)(w:Nat)(x:Nat×(Nat→Nat)):SL:={sl:=[(1,.ptr 0 0),(5,.sl 1 0 w (some (w-w))),(6,i6 (x.1:Nat))],os:=[lO L P,.row 28 none (uF x.2 w)]}
theorem gr_loop(L:List Int)(P:List Nat)(w:Nat)(h:LdOk L P w):
  Sat Pg none 0 (at' 40 [1,1,1,0,1,0]) (mkSt g0 42 (grS L P w (2^w-1,fun _=>0))) (Qah g0 42 [(True,.exit 0,{sl:=[(5,gV' w (gL L P w))]})]):=by
 have hu:=Qa6 P
 have hU:=fun g=>Qag g w
 have hlo:=Qad L
 have h32:=Qa0 h.w5
 have h5:=h.w5
 refine Qbi vE_ok mixed Qac (b:=at' 40 [1,1,1,0,1,0,0]) (by kernel_rfl) (fun x=>DownG L P w x.1 x.2) (grS L P w) (fun x=>x.1) (fun x d=>?_) (2^w-1,fun _=>0) (DownG.start h)
 obtain⟨s,g⟩:=x
 dsimp only at d
 by_cases h0:0<s
 ·have dn := d.next h h0
  have hlt:=d.lt
  obtain⟨a1,a2,a3⟩:=h.ok.at_ s h0 hlt
  have hp2:0<2^laL L s:=Nat.pow_pos (by decide)
  have e1:=h.lenL
  have e2:=h.lenP
  have hld:=@Qas L s (by omega)
  rw[h.nn s h0 hlt]at hld
  have hlp:=@Qe8 P s (by omega)
  have y:=@Qc4 g w (laL L s) a1 (P.getD s 0)
  have s3:=fun G t=>@Qjy G t (laL L s) (by omega)
  have s4:=fun G t=>@Qoi G t s (laL L s) (by omega) (by omega) a2
  unfold paL at dn
  clear d
  generalize hv:laL L s=v at*
  generalize hpp:P.getD s 0=p at*
  refine .inl ⟨(s-2^v,fun i=>if i=v then p else g i),[0,1],[yes 20,pl 33,ld 34 (i6 (v:Nat)),pl 38,ld 39 (u6 (p:Nat)),pl 40,st (uF (fun i=>if i=v then p else g i) w),pl 25,ld 26 (i6 (v:Nat)),va 27 (i6 ((2^v:Nat):Int)),va 28 (i6 ((s-2^v:Nat):Int))],1000,dn,by dsimp only;omega,?_⟩
  clear dn hv hpp
  refine Eq.mp (by kernel_rfl:(let z0:=(↑s:Int);let z1:=headF (List.drop (s*1) (ints L));let z2:=(0:Int);let z3:=(↑(s-2^v):Int);An [decide (z0>z2)=true,An [z2≤z0,z0<(↑L.length:Int)],z1=some (i6 ↑v),An [z2≤z0,z0<(↑P.length:Int)],headF (List.drop (s*1) (ut P))=some (u6 ↑p),An [z2≤(↑v:Int),(↑v:Int)<(↑w:Int)],layE (0+v*1) (uF g w) [u6 ↑p]=some (uF (fun i=>if i=v then p else g i) w),An [z2≤z0,z0<(↑L.length:Int)],z1=some (i6 ↑v),binV (Qae Pg) .shl 3 (i6 1) (i6 ↑v)=some (i6 ↑(2^v)),binV (Qae Pg) .andNot 3 (i6 ↑s) (i6 ↑(2^v))=some (i6 ↑(s-2^v)),An [Zz,An [Zz,w=w,Sm (w-w)],z3=z3,Tt],An [Sm [sl L,ul P],TT 2],An [Sm (uF (fun i=>if i=v then p else g i) w),HfL (uF (fun i=>if i=v then p else g i) w)],Tt])=_) ?_
  (repeat'(first|(with_reducible apply And.intro)|(refine fun(_:True)=>?_)))
  all_goals first|(with_reducible exact hld)|(with_reducible exact hlp)|(with_reducible exact y)|(with_reducible exact s3 _ _)|(with_reducible exact s4 _ _)|exact hu|exact hU _|exact hlo|exact aq|rfl|skip
 ·have hs0 : s = 0 := by omega
  subst hs0
  have hf:=d.fin
  refine .inr ⟨.exit 0,[],{sl:=[(5,gV' w (gL L P w))]},[no 20],1000,.inl ⟨trivial,rfl,rfl⟩,?_⟩
  clear d
  refine Eq.mp (by kernel_rfl:(An [decide ((↑(0:Nat):Int)>(0:Int))=false,An [An [w=w,uF (gL L P w) w=uF g w,HfL (uF g w)],Tt],Tt])=_) ?_
  (repeat'(first|(with_reducible apply And.intro)|(refine fun(_:True)=>?_)))
  all_goals first|(with_reducible exact hf)|(with_reducible exact hf.symm)|exact hu|exact hU _|exact hlo|exact aq|rfl|skip
theorem graph_ok(L:List Int)(P:List Nat)(hP:S64 P)(hb:ladB L P=true):FnOk Pg g0 40 [lV L P] (.tup [gV' (wdt L P) (gL L P (wdt L P)),i6 0]):=by
 have hc:=Qaq L P hP
 rw[hb,if_pos rfl]at hc
 have hu:=Qa6 P
 have h:=Qhn hb
 have hv:=Qa4 L P
 have hl:=gr_loop L P _ h
 have e1:=h.lenL
 have h1:=h.w1
 have h5:=h.w5
 have h32:=Qa0 h.w5
 have hp:1≤2^wdt L P:=Nat.pow_pos (by decide)
 clear h hb
 generalize wdt L P=w at*
 have hr:=Qqi w
 have hU0:=Qag (fun _=>0) w
 have hU1:=Qag (gL L P w) w
 have hnum:(L.length:Int)-1=((2^w-1:Nat):Int):=by omega
 generalize gL L P w=g at*
 generalize hk:2^w-1=k at*
 have hk32:k≤32:=by omega
 clear e1 h32 hp hk
 refine FnOk.of_vc vE_ok mixed Qac (n:=1000) (r:=[]) (S:={sl:=[(2,gV' w g),(3,i6 0)]}) (hs:=[fn 8 (i6 0),no 10,fn 13 (i6 (w:Nat)),mk 14,nu 18 (k:Int),(0,.loop [0,1] (grS L P w (k,fun _=>0)) [(True,.exit 0,{sl:=[(5,gV' w g)]})])]) ?_
 refine Eq.mp (by kernel_rfl:(let z0:=[V.agg [V.im L.length (ints L),V.im P.length (ut P)]];let z1:=(↑w:Int);let z2:=(0:Int);let z3:=(↑k:Int);An [Sm (V.tup [gV' w g,i6 0]),An [TT 2,Tt],FnOk Pg g0 56 z0 (i6 0),Tt,(z2 != z2)=false,An [TT 2,Tt],FnOk Pg g0 89 z0 (i6 ↑w),Tt,An [z2≤z1,z1≤z1,(↑(8:Nat):Int)*z1≤(281474976710656:Int),z1≤(9223372036854775807:Int)],wr .i64 ((↑L.length:Int)-(1:Int))=z3,An [An [Zz,An [Zz,w=w,Sm (w-w)],z3=z3,Tt],An [Sm [sl L,ul P],TT 2],An [uF (fun x=>0) w=rep w [u6 0],HfL (uF (fun x=>0) w)],Tt],Sat Pg none 0 (at' 40 [1,1,1,0,1,0]) (mkSt g0 42 (grS L P w (k,fun x=>0))) (Qah g0 42 [(True,Ex.exit 0,SL.mk [(5,gV' w g)] [] [] [])]),(True→An [An [An [w=w,Sm (uF g w)],z2=z2,Tt],Tt]),Tt])=_) ?_
 (repeat'(first|(with_reducible apply And.intro)|(refine fun(_:True)=>?_)))
 all_goals first|exact hl|exact hc|exact hv|(with_reducible exact hr)|exact hr.symm|exact hu|exact hU0|exact hU1|exact wr6' (by omega) (by omega) (by omega)|exact aq|rfl|skip
abbrev b4(b:Bool):SL:={sl:=[(4,.bool b)]}
def goodL(L:List Int)(P:List Nat)(n:Nat):Bool:=decide (1≤n)&&(decide (n≤5)&&(isW L P n&&(ok0 L P&&okLd L P)))
theorem Qjb(L:List Int)(P:List Nat)(n:Nat):goodL L P n=(ladB L P&&decide (wdt L P=n)):=by
 obtain⟨w5,w1,w0⟩:=Qdx L P
 apply Bool.eq_iff_iff.2
 unfold goodL ladB
 simp only[Bool.and_eq_true,decide_eq_true_eq]
 constructor
 ·rintro ⟨a, b, c, d, e⟩
  have:=w0 n a b c
  exact⟨⟨by omega,d,e⟩,this⟩
 ·rintro ⟨⟨a, d, e⟩, f⟩
  subst f
  exact⟨a,w5,w1 a,d,e⟩
abbrev eqlS(a:List Nat)(k:Nat):SL:={sl:=[(0,ul a),(1,ul a),(12,i6 (a.length:Nat)),(13,i6 (k:Nat))]}
theorem eql_loop(a:List Nat)(h:a.length≤1000):Sat Pg none 0 (at' 58 [1,1,0,1,0]) (mkSt g0 26 (eqlS a 0)) (Qah g0 26 [(True,.exit 0,{sl:=[]})]):=by
 have hu:=Qa6 a
 refine Qbi vE_ok mixed Qac (b:=at' 58 [1,1,0,1,0,0]) (by kernel_rfl) (fun k=>True) (eqlS a) (fun k=>a.length-k) (fun k hk=>?_) 0 trivial
 by_cases hlt:k<a.length
 ·have hld := @Qe8 a k hlt
  generalize a.getD k 0=x at*
  refine .inl ⟨k+1,[],[yes 14,pl 18,ld 19 (u6 (x:Nat)),pl 22,ld 23 (u6 (x:Nat)),no 24,nu 25 ((k+1:Nat):Int)],1000,trivial,by omega,?_⟩
  refine Eq.mp (by kernel_rfl:(let z4:=An [Sm a.length,Sm (ut a)];let z0:=(↑a.length:Int);let z1:=(↑k:Int);let z2:=(↑(k+1):Int);let z3:=headF (List.drop (k*1) (ut a));An [decide (z1<z0)=true,An [(0:Int)≤z1,z1<z0],z3=some (u6 ↑x),An [(0:Int)≤z1,z1<z0],z3=some (u6 ↑x),((↑x:Int) != (↑x:Int))=false,wr .i64 (z1+(1:Int))=z2,An [z4,z4,z0=z0,z2=z2,Tt],Tt])=_) ?_
  (repeat'(first|(with_reducible apply And.intro)|(refine fun(_:True)=>?_)))
  all_goals first|(with_reducible exact hld)|exact hu|exact aq|rfl|skip
 ·refine .inr ⟨.exit 0, [], { sl := [] }, [no 14], 1000, .inl ⟨trivial, rfl, rfl⟩, ?_⟩
  refine Eq.mp (by kernel_rfl:(An [decide ((↑k:Int)<(↑a.length:Int))=false,Tt,Tt])=_) ?_
  (repeat'(first|(with_reducible apply And.intro)|(refine fun(_:True)=>?_)))
  all_goals first|exact hu|exact aq|rfl|skip
theorem Qgm(a:List Nat)(h:a.length≤1000):FnOk Pg g0 58 [ul a,ul a] (.bool true):=by
 have hl:=eql_loop a h
 have hu:=Qa6 a
 refine FnOk.of_vc vE_ok mixed Qac (n:=1000) (r:=[]) (S:=b4 true) (hs:=[no 10,(0,.loop [] (eqlS a 0) [(True,.exit 0,{sl:=[]})])]) ?_
 refine Eq.mp (by kernel_rfl:(let z1:=An [Sm a.length,Sm (ut a)];let z0:=(↑a.length:Int);An [Sm (V.bool true),(z0 != z0)=false,An [An [z1,z1,z0=z0,(↑(0:Nat):Int)=(0:Int),Tt],Tt],Sat Pg none 0 (at' 58 [1,1,0,1,0]) (mkSt g0 26 (eqlS a 0)) (Qah g0 26 [(True,Ex.exit 0,SL.mk [] [] [] [])]),(True→An [An [Sm true,Tt],Tt]),Tt])=_) ?_
 (repeat'(first|(with_reducible apply And.intro)|(refine fun(_:True)=>?_)))
 all_goals first|exact hl|exact hu|exact aq|rfl|skip
set_option maxHeartbeats 1000000
section
variable (N:Nat) (o:Nat→Nat) (E n:Nat)
end
set_option maxHeartbeats 1000000
set_option maxRecDepth 100000
structure GrOk(n:Nat)(G:List Nat):Prop where
 len:G.length=n
 u:S64 G
section
variable (N:Nat) (o:Nat→Nat) (E n:Nat) (L:List Nat)
end
set_option maxHeartbeats 1000000
set_option maxRecDepth 100000
theorem getD_map{f:Nat→Nat}{n k:Nat}(h:k<n):((List.range n).map f).getD k 0=f k:=by
 rw[List.getD_eq_getElem?_getD,List.getElem?_eq_getElem (by simpa using h)];simp
theorem Qpl{f:Nat→Int}{n k:Nat}(h:k<n):((List.range n).map f).getD k 0=f k:=by
 rw[List.getD_eq_getElem?_getD,List.getElem?_eq_getElem (by simpa using h)];simp
section
variable {n lim:Nat} {F:Nat→Nat→Nat→Int}
theorem sol_at(hF: ∀v p,inB (F v p) 160)(hn:n≤5){s:Nat}(h0:0<s)(hs:s<2^n):laT n lim F (2^n) s<n∧s.testBit (laT n lim F (2^n) s)=true∧okT lim s (laT n lim F (2^n) s) (paT n lim F (2^n) s)=true∧topB n lim F s=addA (topB n lim F (s-2^laT n lim F (2^n) s)) (F (laT n lim F (2^n) s) (paT n lim F (2^n) s)) 1:=by
 obtain⟨v,p,h1,h2,h3,h4,h5⟩:=top_is (lim:=lim) hF hn hs h0
 have e1:laT n lim F (2^n) s=v:=by rw[la_at _ _ _ _ _ hs,h4];rfl
 have e2:paT n lim F (2^n) s=p:=by rw[pa_at _ _ _ _ _ hs,h4];rfl
 rw[e1,e2]
 exact⟨h1,h2,h3,h5⟩
def mkL(la:Nat→Nat)(n:Nat):List Int:=(List.range (2^n)).map fun s=>((la s:Nat):Int)
def mkP(pa:Nat→Nat)(n:Nat):List Nat:=(List.range (2^n)).map pa
theorem mk_l{la:Nat→Nat}{s:Nat}(hs:s<2^n):(mkL la n).getD s 0=((la s:Nat):Int):=Qpl hs
theorem mk_p{pa:Nat→Nat}{s:Nat}(hs:s<2^n):(mkP pa n).getD s 0=pa s:=getD_map hs
theorem mk_la{la:Nat→Nat}{s:Nat}(hs:s<2^n):laL (mkL la n) s=la s:=by unfold laL;rw[mk_l hs];rfl
theorem mk_pa{pa:Nat→Nat}{s:Nat}(hs:s<2^n):paL (mkP pa n) s=pa s:=mk_p hs
theorem mk_wdt(la pa:Nat→Nat)(h1:1≤n)(hn:n≤5):wdt (mkL la n) (mkP pa n)=n:=
 (Qdx _ _).2.2 n h1 hn (Qce.2 ⟨by simp[mkL],by simp[mkP]⟩)
theorem mk_lad{la pa:Nat→Nat}(h1:1≤n)(hn:n≤5)(hl0:la 0=0)(hp0:pa 0=0)(h: ∀s,0<s→s<2^n→la s<n∧s.testBit (la s)=true∧pa s&&& (s-2^la s)=pa s):ladB (mkL la n) (mkP pa n)=true:=by
 have hp:0<2^n:=Nat.pow_pos (by decide)
 have h32:=Qa0 hn
 unfold ladB
 rw[mk_wdt la pa h1 hn,decide_eq_true h1,Bool.true_and,Bool.and_eq_true]
 constructor
 ·unfold ok0
  rw[mk_l hp,mk_p hp,hl0,hp0]
  rfl
 ·refine Qam.2 fun s hs => ?_
  have hs':s<2^n:=by simpa [mkL]using hs
  rcases Nat.eq_zero_or_pos s with h0|h0
  ·rw[decide_eq_true h0];rfl
  ·obtain ⟨a, b, c⟩ := h s h0 hs'
   rw[Bool.or_eq_true]
   right
   unfold okS
   rw[mk_l hs',mk_p hs',Int.toNat_natCast]
   rw[decide_eq_true (by omega),decide_eq_true (by omega),b,decide_eq_true c]
   rfl
theorem Qp4(f:Nat→Nat): ∀n,nF f n=ints ((List.range n).map fun s=>((f s:Nat):Int))
 |0=>rfl
 |n+1=>by
  show blF _ (n+1)=_
  rw[Qa8,show blF (fun i=>[i6 (f i:Nat)]) n=ints ((List.range n).map fun s=>((f s:Nat):Int))from Qp4 f n]
  unfold ints
  rw[List.range_succ,List.map_append,List.map_append];rfl
theorem mk_V(la pa:Nat→Nat)(n:Nat):ldV (2^n) la pa=lV (mkL la n) (mkP pa n):=by
 show V.agg [.im (2^n) (nF la (2^n)),.im (2^n) (uF pa (2^n))]=V.agg [.im (mkL la n).length (ints (mkL la n)),.im (mkP pa n).length (ut (mkP pa n))]
 rw[Qp4,uF_ut]
 unfold mkL mkP
 rw[List.length_map,List.length_map,List.length_range]
theorem mk_S64{pa:Nat→Nat}(h: ∀s,s<2^n→pa s<18446744073709551616):S64 (mkP pa n):=fun x hx=>by
 obtain⟨s,hs,rfl⟩:=List.mem_map.1 hx
 exact h s (List.mem_range.1 hs)
variable (n lim F)in
abbrev solL:List Int:=mkL (laT n lim F (2^n)) n
variable (n lim F)in
abbrev solP:List Nat:=mkP (paT n lim F (2^n)) n
theorem sol_0:laT n lim F (2^n) 0=0∧paT n lim F (2^n) 0=0:=by
 have hp:0<2^n:=Nat.pow_pos (by decide)
 rw[la_at _ _ _ _ _ hp,pa_at _ _ _ _ _ hp,st_none (fun v _=>Nat.zero_testBit v)]
 exact⟨rfl,rfl⟩
theorem Qqu(hF: ∀v p,inB (F v p) 160)(hn:n≤5): ∀s,0<s→s<2^n→laT n lim F (2^n) s<n∧s.testBit (laT n lim F (2^n) s)=true∧paT n lim F (2^n) s&&& (s-2^laT n lim F (2^n) s)=paT n lim F (2^n) s:=fun s h0 hs=>by
 have h32:=Qa0 hn
 obtain⟨a,b,c,_⟩:=sol_at (lim:=lim) hF hn h0 hs
 have hps:=(Qcg.1 c).1
 have hp32:paT n lim F (2^n) s<32:=by
  rw[←hps];exact Nat.lt_of_le_of_lt Nat.and_le_right (by omega)
 exact⟨a,b,((Qdc (by omega) (by omega) b hp32).1 c).1⟩
theorem sol_lad(hF: ∀v p,inB (F v p) 160)(h1:1≤n)(hn:n≤5):ladB (solL n lim F) (solP n lim F)=true:=mk_lad h1 hn sol_0.1 sol_0.2 (Qqu hF hn)
theorem Qqt(hF: ∀v p,inB (F v p) 160)(hn:n≤5):S64 (solP n lim F):=mk_S64 fun s hs=>by
 have h32:=Qa0 hn
 rcases Nat.eq_zero_or_pos s with h0|h0
 ·subst h0;rw[sol_0.2];decide
 ·have := (Qqu (lim := lim) hF hn s h0 hs).2.2
  rw[←this];exact Nat.lt_of_le_of_lt Nat.and_le_right (by have:=Nat.sub_le s (2^laT n lim F (2^n) s);omega)
def rgtB(n lim:Nat)(F:Nat→Nat→Nat→Int)(L:List Int)(P:List Nat):Bool:=(List.range (2^n)).all fun s=>decide (s=0)||(decide (popc (P.getD s 0)≤lim)&&eqA (addA (topB n lim F (s-2^laL L s)) (F (laL L s) (paL P s)) 1) (topB n lim F s))
end
def eqv:BSt→BSt→Prop
 |none,none=>True
 |some (v,p,x),some (v',p',y)=>v=v'∧p=p'∧∀i,i<18→x i=y i
 | _,_=>False
theorem Qne{a b c d:Nat→Int}(h: ∀i,i<18→a i=b i)(k: ∀i,i<18→c i=d i):cmpF a c=cmpF b d:=by
 have e: ∀i,i<18→mixF a c (-1) 18 i=mixF b d (-1) 18 i:=fun i hi=>by
  rw[Qb7,Qb7,if_pos hi,if_pos hi,h i hi,k i hi]
 unfold cmpF
 rw[Qbb (e:=posF (mixF a c (-1) 18) 1) (f:=posF (mixF b d (-1) 18) 1) 18 (fun j hj=>by unfold posF;rw[e j hj]),Qbb (e:=posF (mixF a c (-1) 18) (-1)) (f:=posF (mixF b d (-1) 18) (-1)) 18 (fun j hj=>by unfold posF;rw[e j hj])]
theorem upT_eqv{b c:BSt}(h:eqv b c){v p:Nat}{x y:Nat→Int}(hx: ∀i,i<18→x i=y i):eqv (upT b v p x) (upT c v p y):=by
 rcases b with _|⟨v1,p1,x1⟩<;>rcases c with _|⟨v2,p2,x2⟩
 ·exact⟨rfl,rfl,hx⟩
 ·exact h.elim
 ·exact h.elim
 ·unfold upT
  dsimp only
  rw[Qne hx h.2.2]
  split
  ·exact⟨rfl,rfl,hx⟩
  ·exact h
section
variable {n lim:Nat} {F G:Nat→Nat→Nat→Int}
theorem Qme{B C:Nat→Nat→Int}{s v:Nat}(h0:0<s)(hB: ∀t,t<s→∀i,i<18→B t i=C t i){b c:BSt}(h:eqv b c): ∀k,(∀p,p<k→∀i,i<18→F v p i=G v p i)→eqv (innB lim F B s v b k) (innB lim G C s v c k)
 |0,_=>h
 |k+1,hF=>by
  have ih:=Qme h0 hB h k fun p hp=>hF p (by omega)
  have hp:0<2^v:=Nat.pow_pos (by decide)
  unfold innB
  split
  ·exact upT_eqv ih fun i hi=>by unfold tryF;rw[Qdz,Qdz,hB _ (by omega) i hi,hF k (by omega) i hi]
  ·exact ih
theorem Qmn{B C:Nat→Nat→Int}{s:Nat}(hB: ∀t,t<s→∀i,i<18→B t i=C t i): ∀k,(∀v,v<k→∀p,p≤s→∀i,i<18→F v p i=G v p i)→eqv (outB lim F B s k) (outB lim G C s k)
 |0,_=>trivial
 | k + 1, hF => by
  have ih:=Qmn (s:=s) hB k fun v hv=>hF v (by omega)
  unfold outB
  split
  ·rename_i hb
   have h0:0<s:=by
    rcases Nat.eq_zero_or_pos s with h|h
    ·subst h;rw[Nat.zero_testBit]at hb;cases hb
    ·exact h
   exact Qme h0 hB ih _ fun p hp=>hF k (by omega) p (by omega)
  ·exact ih
theorem valO_eqv{b c:BSt}(h:eqv b c): ∀i,i<18→valO b i=valO c i:=by
 rcases b with _|⟨v1,p1,x1⟩<;>rcases c with _|⟨v2,p2,x2⟩
 ·intro i _;rfl
 ·exact h.elim
 ·exact h.elim
 ·exact h.2.2
theorem vpO_eqv{b c:BSt}(h:eqv b c):vO b=vO c∧pO b=pO c:=by
 rcases b with _|⟨v1,p1,x1⟩<;>rcases c with _|⟨v2,p2,x2⟩
 ·exact⟨rfl,rfl⟩
 ·exact h.elim
 ·exact h.elim
 ·exact⟨h.1,h.2.1⟩
theorem Qcy(T:Nat→Nat→Int)(N:Nat)(hF: ∀v,v<n→∀p,p<N→∀i,i<18→F v p i=G v p i)(h: ∀s,s<N→∀i,i<18→valO (outB lim G T s n) i=T s i): ∀s,s<N→eqv (stB n lim F s) (outB lim G T s n)∧∀i,i<18→topB n lim F s i=T s i:=by
 intro s
 induction s using Nat.strongRecOn with
 | _ s ih=>
  intro hs
  have e:eqv (stB n lim F s) (outB lim G T s n):=Qmn (fun t ht i hi=>by rw[Qcm,if_pos ht];exact(ih t ht (by omega)).2 i hi) n fun v hv p hp=>hF v hv p (by omega)
  exact⟨e,fun i hi=>(valO_eqv e i hi).trans (h s hs i hi)⟩
end
set_option maxHeartbeats 4000000
set_option maxRecDepth 100000
theorem Qis(L:List Int)(P:List Nat)(cards:List Int)(cs:List (List Int))(F:Nat→Nat→Nat→Int)(size:Nat)(q:Nat→Nat×Nat)(B:Nat→Nat→Int)(la pa:Nat→Nat)(k lim:Nat)
  (h:CallSpec Pg g0 (.fn 88 []) [gV cards cs,i6 (lim:Int)] (ofOs .e 0 []) 0 ⟨cbV size,ofOs .e 0 (cbO cards cs F size q B la pa k),6,[]⟩):
  CallSpec Pg g0 (.fn 88 []) [gV cards cs,i6 (lim:Int)] (ofOs .e 0 [gO cards cs,lO L P]) 2 ⟨cbW size,ofOs .e 0 ([gO cards cs,lO L P]++cbD cards cs F size q B la pa k),8,[]⟩:=by
 have hB:=Qaa B size
 have hla:=Qaf la size
 have hpa:=Qag pa size
 have hE:=Qab q (k+1)
 have hS:=Qaa (scF F q) (k+1)
 have hg:=Qap cs
 have hc:=Qad cards
 have hlo:=Qad L
 have hu:=Qa6 P
 refine CallSpec.frameL (OS:=[gO cards cs,_]) (OS':=[gO cards cs,_]++cbD cards cs F size q B la pa k) [] [(2,0),(3,1),(4,2),(5,3),(6,4),(7,5)] [] [0,0,0,0,1] h (by kernel_rfl) ?_ ?_ ?_ ?_
 ·refine Eq.mp (by kernel_rfl : (An [An [An [Sm cards.length, Sm (ints cards)], An [Sm cs.length, Sm (List.map sl cs)], Tt], Sm (↑lim : Int), Tt]) = _) ?_
  (repeat'(first|(with_reducible apply And.intro)|(refine fun(_:True)=>?_)))
  all_goals first|exact aq|exact hB|exact hS|exact hE|exact hla|exact hpa|exact hg|exact hc|exact hlo|exact hu|rfl|skip
 ·refine Eq.mp (by kernel_rfl : (Tt) = _) ?_
  (repeat'(first|(with_reducible apply And.intro)|(refine fun(_:True)=>?_)))
  all_goals first|exact aq|exact hB|exact hS|exact hE|exact hla|exact hpa|exact hg|exact hc|exact hlo|exact hu|rfl|skip
 ·refine Eq.mp (by kernel_rfl : (let z0 := An [Zz, Sm size, Sm (size - size)]; An [Zz, An [z0, z0, Tt], Sm (0 : Int), Tt]) = _) ?_
  (repeat'(first|(with_reducible apply And.intro)|(refine fun(_:True)=>?_)))
  all_goals first|exact aq|exact hB|exact hS|exact hE|exact hla|exact hpa|exact hg|exact hc|exact hlo|exact hu|rfl|skip
 ·refine Eq.mp (by kernel_rfl : (let z1 := bF (scF F q) (k + 1); let z2 := entM q (k + 1); let z3 := gO cards cs; let z0 := [z3, lO L P]; An [z0[0]? = some z3, z0[0]? = some z3, z0[1]? = some (lO L P), z0[1]? = some (lO L P), Tt, An [Sm (bF B size), HfL (bF B size)], Tt, An [z2 = z2, HfE z2, Sm (k + 1)], Tt, An [An [Sm cards.length, Sm (ints cards)], An [Sm cs.length, Sm (List.map sl cs)], An [Zz, Sm size, Sm (size - size)], Tt, An [Zz, Sm (k + 1), Tt], Tt], Tt, An [Sm (nF la size), HfL (nF la size)], Tt, An [Sm (uF pa size), HfL (uF pa size)], Tt, An [z1 = z1, HfL z1], Tt]) = _) ?_
  (repeat'(first|(with_reducible apply And.intro)|(refine fun(_:True)=>?_)))
  all_goals first|exact aq|exact hB|exact hS|exact hE|exact hla|exact hpa|exact hg|exact hc|exact hlo|exact hu|rfl|skip
section
variable (L:List Int) (P:List Nat) (cards:List Int) (cs:List (List Int)) (F:Nat→Nat→Nat→Int) (B:Nat→Nat→Int) (size:Nat) (q:Nat→Nat×Nat) (k:Nat)
abbrev rtO:List O:=[lO L P,.row 41 none (bF B size),.map (entM q (k+1)) (k+1),.row 158 none (toC cards cs size 1 2 4 (k+1)),.row 41 (some 18) (bF (scF F q) (k+1))]
abbrev rtO2:List O:=[lO L P,.row 41 none (bF B size),.map (entM q (k+1)) (k+1),.row 158 none (toC cards cs size 1 2 5 (k+1)),.dead,.row 41 (some 18) (bF (scF F q) (k+1))]
end
theorem rt_hit(L:List Int)(P:List Nat)(cards:List Int)(cs:List (List Int))(F:Nat→Nat→Nat→Int)(B:Nat→Nat→Int)(size:Nat)(q:Nat→Nat×Nat)(k s v p:Nat)(x:Nat→Int)
  (h:CallSpec Pg g0 (.fn 90 []) [.ptr 2 0,i6 (s:Nat),i6 (v:Nat),u6 (p:Nat)] (ofOs .e 0 (toO1 cards cs F B size q k)) 4 ⟨.tup [ar x,i6 0],ofOs .e 0 (toO1 cards cs F B size q k),4,[]⟩):
  CallSpec Pg g0 (.fn 90 []) [.ptr 3 0,i6 (s:Nat),i6 (v:Nat),u6 (p:Nat)] (ofOs .e 0 (rtO L P cards cs F B size q k)) 5 ⟨.tup [ar x,i6 0],ofOs .e 0 (rtO L P cards cs F B size q k),5,[]⟩:=by
 have hB:=Qaa B size
 have hE:=Qab q (k+1)
 have hS:=Qaa (scF F q) (k+1)
 have hg:=Qap cs
 have hc:=Qad cards
 have hlo:=Qad L
 have hu:=Qa6 P
 exact CallSpec.frameL (OS:=rtO L P cards cs F B size q k) (OS':=rtO L P cards cs F B size q k) [1,2,3,4] [(1,0),(2,1),(3,2),(4,3)] [0,0,1] [0,0,0,1] h (by kernel_rfl) (by
  refine Eq.mp (by kernel_rfl:(An [Zz,Sm (↑s:Int),Sm (↑v:Int),Sm (↑p:Int),Tt])=_) ?_
  (repeat'(first|(with_reducible apply And.intro)|(refine fun(_:True)=>?_)))<;>first|exact aq|skip) (by
  refine Eq.mp (by kernel_rfl:(let z0:=bF (scF F q) (k+1);let z1:=entM q (k+1);An [An [Sm (bF B size),HfL (bF B size)],An [z1=z1,HfE z1,Sm (k+1)],An [An [Sm cards.length,Sm (ints cards)],An [Sm cs.length,Sm (List.map sl cs)],An [Zz,Sm size,Sm (size-size)],Tt,An [Zz,Sm (k+1),Tt],Tt],An [z0=z0,HfL z0],Tt])=_) ?_
  (repeat'(first|(with_reducible apply And.intro)|(refine fun(_:True)=>?_)))
  all_goals first|exact aq|exact hB|exact hS|exact hE|exact hg|exact hc|exact hlo|exact hu|rfl|skip) (by
  refine Eq.mp (by kernel_rfl:(An [An [x 0=x 0,x 1=x 1,x 2=x 2,x 3=x 3,x 4=x 4,x 5=x 5,x 6=x 6,x 7=x 7,x 8=x 8,x 9=x 9,Sm (x 10),Sm (x 11),Sm (x 12),Sm (x 13),Sm (x 14),Sm (x 15),Sm (x 16),Sm (x 17),Tt],Sm (0:Int),Tt])=_) ?_
  (repeat'(first|(with_reducible apply And.intro)|(refine fun(_:True)=>?_)))<;>first|exact aq|skip) (by
  refine Eq.mp (by kernel_rfl:(let z0:=rtO L P cards cs F B size q k;let z1:=bF (scF F q) (k+1);let z2:=entM q (k+1);let z3:=bF B size;An [z0[0]? =some (lO L P),z0[0]? =some (lO L P),z0[1]? =some (O.row 41 none z3),An [z3=z3,HfL z3],z0[2]? =some (O.map z2 (k+1)),An [z2=z2,HfE z2,Sm (k+1)],z0[3]? =some (O.row 158 none (toC cards cs size 1 2 4 (k+1))),An [An [Sm cards.length,Sm (ints cards)],An [Sm cs.length,Sm (List.map sl cs)],An [Zz,Sm size,Sm (size-size)],Tt,An [Zz,Sm (k+1),Tt],Tt],z0[4]? =some (O.row 41 (some 18) z1),An [z1=z1,HfL z1],Tt])=_) ?_
  (repeat'(first|(with_reducible apply And.intro)|(refine fun(_:True)=>?_)))
  all_goals first|exact aq|exact hB|exact hS|exact hE|exact hg|exact hc|exact hlo|exact hu|rfl|skip)
theorem rt_miss(L:List Int)(P:List Nat)(cards:List Int)(cs:List (List Int))(F:Nat→Nat→Nat→Int)(B:Nat→Nat→Int)(size:Nat)(q q':Nat→Nat×Nat)(k s v p:Nat)(x:Nat→Int)
  (h:CallSpec Pg g0 (.fn 90 []) [.ptr 2 0,i6 (s:Nat),i6 (v:Nat),u6 (p:Nat)] (ofOs .e 0 (toO1 cards cs F B size q k)) 4 ⟨.tup [ar x,i6 0],ofOs .e 0 (toO2 cards cs F B size q' (k+1)),5,[1,2,3]⟩):
  CallSpec Pg g0 (.fn 90 []) [.ptr 3 0,i6 (s:Nat),i6 (v:Nat),u6 (p:Nat)] (ofOs .e 0 (rtO L P cards cs F B size q k)) 5 ⟨.tup [ar x,i6 0],ofOs .e 0 (rtO2 L P cards cs F B size q' (k+1)),6,[2,3,4]⟩:=by
 have hB:=Qaa B size
 have hE:=Qab q (k+1)
 have hS:=Qaa (scF F q) (k+1)
 have hE2:=Qab q' (k+1+1)
 have hS2:=Qaa (scF F q') (k+1+1)
 have hg:=Qap cs
 have hc:=Qad cards
 have hlo:=Qad L
 have hu:=Qa6 P
 exact CallSpec.frameL (OS:=rtO L P cards cs F B size q k) (OS':=rtO2 L P cards cs F B size q' (k+1)) [1,2,3,4] [(1,0),(2,1),(3,2),(4,3),(5,4)] [0,0,1] [0,0,0,1] h (by kernel_rfl) (by
  refine Eq.mp (by kernel_rfl:(An [Zz,Sm (↑s:Int),Sm (↑v:Int),Sm (↑p:Int),Tt])=_) ?_
  (repeat'(first|(with_reducible apply And.intro)|(refine fun(_:True)=>?_)))<;>first|exact aq|skip) (by
  refine Eq.mp (by kernel_rfl:(let z0:=bF (scF F q) (k+1);let z1:=entM q (k+1);An [An [Sm (bF B size),HfL (bF B size)],An [z1=z1,HfE z1,Sm (k+1)],An [An [Sm cards.length,Sm (ints cards)],An [Sm cs.length,Sm (List.map sl cs)],An [Zz,Sm size,Sm (size-size)],Tt,An [Zz,Sm (k+1),Tt],Tt],An [z0=z0,HfL z0],Tt])=_) ?_
  (repeat'(first|(with_reducible apply And.intro)|(refine fun(_:True)=>?_)))
  all_goals first|exact aq|exact hB|exact hS|exact hE|exact hS2|exact hE2|exact hg|exact hc|exact hlo|exact hu|rfl|skip) (by
  refine Eq.mp (by kernel_rfl:(An [An [x 0=x 0,x 1=x 1,x 2=x 2,x 3=x 3,x 4=x 4,x 5=x 5,x 6=x 6,x 7=x 7,x 8=x 8,x 9=x 9,Sm (x 10),Sm (x 11),Sm (x 12),Sm (x 13),Sm (x 14),Sm (x 15),Sm (x 16),Sm (x 17),Tt],Sm (0:Int),Tt])=_) ?_
  (repeat'(first|(with_reducible apply And.intro)|(refine fun(_:True)=>?_)))<;>first|exact aq|skip) (by
  refine Eq.mp (by kernel_rfl:(let z0:=rtO L P cards cs F B size q k;let z1:=bF (scF F q') (k+1+1);let z2:=entM q' (k+1+1);let z3:=bF B size;An [z0[0]? =some (lO L P),z0[0]? =some (lO L P),z0[1]? =some (O.row 41 none z3),An [z3=z3,HfL z3],Tt,An [z2=z2,HfE z2,Sm (k+1+1)],Tt,An [An [Sm cards.length,Sm (ints cards)],An [Sm cs.length,Sm (List.map sl cs)],An [Zz,Sm size,Sm (size-size)],Tt,An [Zz,Sm (Nat.succ k+1),Tt],Tt],Tt,Tt,Tt,An [z1=z1,HfL z1],Tt])=_) ?_
  (repeat'(first|(with_reducible apply And.intro)|(refine fun(_:True)=>?_)))
  all_goals first|exact aq|exact hB|exact hS|exact hE|exact hS2|exact hE2|exact hg|exact hc|exact hlo|exact hu|rfl|skip)
section
variable (L:List Int) (P:List Nat) (cards:List Int) (cs:List (List Int)) (F:Nat→Nat→Nat→Int) (B:Nat→Nat→Int) (size lim:Nat)
abbrev rrS(x:Nat×(Nat→Nat×Nat)×Nat):SL:={sl:=[(1,i6 (lim:Nat)),(5,.ptr 0 0),(8,.ptr 3 0),(37,i6 (size:Nat)),(38,i6 (x.1:Nat))],os:=rtO L P cards cs F B size x.2.1 x.2.2,md:=[0,0,0,1]}
end
abbrev rtR(b:Bool):SL:={sl:=[(6,.bool b),(7,i6 0)]}
def rgtS(lim:Nat)(F:Nat→Nat→Nat→Int)(B:Nat→Nat→Int)(L:List Int)(P:List Nat)(s:Nat):Bool:=decide (popc (P.getD s 0)≤lim)&&eqA (addA (B (s-2^laL L s)) (F (laL L s) (paL P s)) 1) (B s)
structure AskOk(cards:List Int)(cs:List (List Int))(F:Nat→Nat→Nat→Int)(B:Nat→Nat→Int)(s v p:Nat):Prop where
 add:FnOk Pg g0 34 [ar (B (s-2^v)),ar (F v p)] (.tup [ar (addA (B (s-2^v)) (F v p) 1),i6 0])
 fam:FnOk Pg g0 22 [gV cards cs,i6 (v:Nat),u6 (p:Nat)] (.tup [ar (F v p),i6 0])
theorem rt_loop(L:List Int)(P:List Nat)(hP:S64 P)(cards:List Int)(cs:List (List Int))(F:Nat→Nat→Nat→Int)(B:Nat→Nat→Int)(n size lim:Nat)(hsz:size=2^n)(h:LdOk L P n)
  (hask: ∀s,0<s→s<size→popc (paL P s)≤lim→AskOk cards cs F B s (laL L s) (paL P s))(q0:Nat→Nat×Nat)(k0:Nat)(hk0:k0≤100000)(b:Bool)(hb:b=(List.range size).all (fun s=>decide (s=0)||rgtS lim F B L P s)):
  Sat Pg none 0 (at' 42 [1,1,1,1,0,1,0]) (mkSt g0 80 (rrS L P cards cs F B size lim (0,q0,k0))) (Qah g0 80 [(b=true,.exit 0,{sl:=[]}),(b=false,.ret,rtR false)]):=by
 have hB:=Qaa B size
 have hEE:=fun q k=>Qab q k
 have hSS:=fun q k=>Qaa (scF F q) k
 have hg:=Qap cs
 have hc:=Qad cards
 have hlo:=Qad L
 have hu:=Qa6 P
 have h5:=h.w5
 have h32:size≤32:=by rw[hsz];exact Qa0 h5
 have e1:=h.lenL
 have e2:=h.lenP
 rw[←hsz]at e1 e2
 refine Qbi vE_ok mixed Qac (b:=at' 42 [1,1,1,1,0,1,0,0]) (by kernel_rfl) (fun x=>x.1≤size∧x.2.2≤100000+x.1∧∀j,j<x.1→(decide (j=0)||rgtS lim F B L P j)=true) (rrS L P cards cs F B size lim) (fun x=>size-x.1) (fun x hx=>?_) (0,q0,k0) ⟨Nat.zero_le _,by dsimp only;omega,fun j hj=>absurd hj (Nat.not_lt_zero _)⟩
 obtain⟨s,q,k⟩:=x
 obtain⟨hs,hk,hj⟩:=hx
 dsimp only at hs hk hj
 have hE:=Qab q (k+1)
 have hS:=Qaa (scF F q) (k+1)
 by_cases hlt:s<size
 ·by_cases h0 : s = 0
  ·refine .inl ⟨(s + 1, q, k), [0, 1, 2, 3, 4], [yes 39, yes 42, nu 79 ((s + 1 : Nat) : Int)], 1000, ⟨hlt, by dsimp only; omega, fun j hj2 => by rw [decide_eq_true (show j = 0 by dsimp only at hj2; omega)]; rfl⟩, by dsimp only; omega, ?_⟩
   clear hj hb hask
   have hs0:((s:Int)==0)=true:=by rw[beq_iff_eq];omega
   refine Eq.mp (by kernel_rfl:(let z0:=bF (scF F q) (k+1);let z1:=(↑(s+1):Int);let z2:=(↑size:Int);let z3:=entM q (k+1);let z4:=(↑s:Int);An [decide (z4<z2)=true,(z4==(0:Int))=true,wr .i64 (z4+(1:Int))=z1,An [Sm (↑lim:Int),Zz,Zz,z2=z2,z1=z1,Tt],An [Sm [sl L,ul P],TT 2],An [Sm (bF B size),HfL (bF B size)],An [z3=z3,HfE z3,Sm (k+1)],An [An [Sm cards.length,Sm (ints cards)],An [Sm cs.length,Sm (List.map sl cs)],An [Zz,Sm size,Sm (size-size)],Tt,An [Zz,Sm (k+1),Tt],Tt],An [z0=z0,HfL z0],Tt])=_) ?_
   (repeat'(first|(with_reducible apply And.intro)|(refine fun(_:True)=>?_)))
   all_goals first|exact hB|exact hE|exact hS|exact hg|exact hc|exact hlo|exact hu|(with_reducible exact hs0)|exact aq|rfl|skip
  ·have hs0 : ((s : Int) == 0) = false := by rw [beq_eq_false_iff_ne]; omega
   obtain⟨a1,a2,a3⟩:=h.ok.at_ s (by omega) (by omega)
   have hld:=@Qas L s (by omega)
   rw[h.nn s (by omega) (by omega)]at hld
   have hlp:=@Qe8 P s (by omega)
   have hpp:P.getD s 0<32:=by
    rw[show P.getD s 0=paL P s from rfl,←a3]
    exact Nat.lt_of_le_of_lt Nat.and_le_right (by have:=Nat.sub_le s (2^laL L s);omega)
   have hone:=Qht (P.getD s 0) hpp
   have hbad:rgtS lim F B L P s=false→b=false:=fun hh=>by
    rw[hb];exact Qb3 hlt (by rw[hh,decide_eq_false h0];rfl)
   have hgood:rgtS lim F B L P s=true→∀j,j<s+1→(decide (j=0)||rgtS lim F B L P j)=true:=fun hh j hj1=>by
    rcases Nat.lt_succ_iff_lt_or_eq.1 hj1 with h2|h2
    ·exact hj j h2
    ·subst h2;rw[hh,Bool.or_true]
   have hask:=hask s (by omega) hlt
   have hpow:2^laL L s≤s:=(Qed s (by omega) _ (by omega) a2).1
   have s3:=fun G t=>@Qjy G t (laL L s) (by omega)
   have s4:=fun G t=>@Qoi G t s (laL L s) (by omega) (by omega) a2
   have htk:=@Qa1 B size s hlt
   unfold rgtS at hbad hgood
   unfold paL at hask hbad hgood
   by_cases hpc:popc (P.getD s 0)≤lim
   ·obtain ⟨hadd, hfam⟩ := hask hpc
    rw[decide_eq_true hpc,Bool.true_and]at hbad hgood
    clear hj hb
    generalize hv:laL L s=v at*
    generalize hpd:P.getD s 0=p at*
    clear hpd hv
    generalize hx:addA (B (s-2^v)) (F v p) 1=x at*
    have ht:s-2^v<size:=Nat.lt_of_le_of_lt (Nat.sub_le _ _) hlt
    generalize s-2^v=t at*
    generalize 2^v=bt at*
    have hpc':(lim:Int)<(popc p:Nat)↔False:=⟨fun hh=>by omega,False.elim⟩
    rcases find_entM q v p (k+1)with⟨j,hj1,hj2,hf⟩|⟨_,hf⟩
    ·have hcall := rt_hit L P cards cs F B size q k s v p x (Qmq cards cs F B size q k s t v p bt j x hj1 hj2 hf ht s3 s4 hadd)
     clear hf hfam hadd
     cases hEq:eqA x (B s)with
     |true=>
      have hg2:=hgood hEq
      have hEqn:(!eqA x (B s))=false:=by rw[hEq];rfl
      unfold eqA at hEqn
      refine .inl ⟨(s+1,q,k),[0,1,2,3,4],[yes 39,no 42,pl 46,ld 47 (u6 (p:Nat)),fn 48 (i6 (popc p:Nat)),no 50,pl 57,ld 58 (i6 (v:Nat)),pl 62,ld 63 (u6 (p:Nat)),(64,.call ⟨.tup [ar x,i6 0],ofOs .e 0 (rtO L P cards cs F B size q k),5,[]⟩),pl 76,ld 77 (ar (B s)),no 78,nu 79 ((s+1:Nat):Int)],1000,⟨hlt,by dsimp only;omega,hg2⟩,by dsimp only;omega,?_⟩
      clear hgood hbad hg2 hask hx
      refine Eq.mp (by kernel_rfl:(let z0:=(↑s:Int);let z1:=ofOs T.e 0 (rtO L P cards cs F B size q k);let z2:=(↑size:Int);let z3:=bF (scF F q) (k+1);let z4:=(↑(s+1):Int);let z5:=headF (List.drop (s*1) (ut P));let z6:=(0:Int);let z7:=entM q (k+1);let z8:=bF B size;let z9:=(↑lim:Int);An [decide (z0<z2)=true,(z0==z6)=false,An [z6≤z0,z0<(↑P.length:Int)],z5=some (u6 ↑p),An [Tt,Tt],FnOk Pg g0 65 [u6 ↑p] (i6 ↑(popc p)),Tt,decide ((↑(popc p):Int)>z9)=false,An [z6≤z0,z0<(↑L.length:Int)],headF (List.drop (s*1) (ints L))=some (i6 ↑v),An [z6≤z0,z0<(↑P.length:Int)],z5=some (u6 ↑p),CallSpec Pg g0 (V.fn 90 []) [V.ptr 3 0,i6 ↑s,i6 ↑v,u6 ↑p] z1 5 (CR.mk (V.tup [ar x,i6 0]) z1 5 []),Tt,An [z6≤z0,z0<z2],takeE 18 (dropF (0+s*18) z8)=some (arF (B s)),(!(x 0==B s 0&&(x 1==B s 1&&(x 2==B s 2&&(x 3==B s 3&&(x 4==B s 4&&(x 5==B s 5&&(x 6==B s 6&&(x 7==B s 7&&(x 8==B s 8&&(x 9==B s 9&&(x 10==B s 10&&(x 11==B s 11&&(x 12==B s 12&&(x 13==B s 13&&(x 14==B s 14&&(x 15==B s 15&&(x 16==B s 16&&(x 17==B s 17&&true)))))))))))))))))))=false,wr .i64 (z0+(1:Int))=z4,An [z9=z9,Zz,Zz,z2=z2,z4=z4,Tt],An [Sm [sl L,ul P],TT 2],An [z8=z8,HfL z8],An [z7=z7,HfE z7,Sm (k+1)],An [An [Sm cards.length,Sm (ints cards)],An [Sm cs.length,Sm (List.map sl cs)],An [Zz,Sm size,Sm (size-size)],Tt,An [Zz,Sm (k+1),Tt],Tt],An [z3=z3,HfL z3],Tt])=_) ?_
      (repeat'(first|(with_reducible apply And.intro)|(refine fun(_:True)=>?_)))
      all_goals first|exact hcall|exact hone|(with_reducible exact hld)|(with_reducible exact hlp)|(with_reducible exact htk)|(rw[Nat.zero_add];with_reducible exact htk)|(with_reducible exact hEqn)|exact hB|exact hE|exact hS|exact hg|exact hc|exact hlo|exact hu|(with_reducible exact hs0)|exact aq|rfl|skip
     |false=>
      have hb2:=hbad hEq
      have hEqn:(!eqA x (B s))=true:=by rw[hEq];rfl
      unfold eqA at hEqn
      refine .inr ⟨.ret,[],rtR false,[yes 39,no 42,pl 46,ld 47 (u6 (p:Nat)),fn 48 (i6 (popc p:Nat)),no 50,pl 57,ld 58 (i6 (v:Nat)),pl 62,ld 63 (u6 (p:Nat)),(64,.call ⟨.tup [ar x,i6 0],ofOs .e 0 (rtO L P cards cs F B size q k),5,[]⟩),pl 76,ld 77 (ar (B s)),yes 78],1000,.inr (.inl ⟨hb2,rfl,rfl⟩),?_⟩
      clear hgood hbad hb2 hask hx
      refine Eq.mp (by kernel_rfl:(let z0:=(↑s:Int);let z1:=ofOs T.e 0 (rtO L P cards cs F B size q k);let z2:=(0:Int);let z3:=headF (List.drop (s*1) (ut P));An [decide (z0<(↑size:Int))=true,(z0==z2)=false,An [z2≤z0,z0<(↑P.length:Int)],z3=some (u6 ↑p),An [Tt,Tt],FnOk Pg g0 65 [u6 ↑p] (i6 ↑(popc p)),Tt,decide ((↑(popc p):Int)>(↑lim:Int))=false,An [z2≤z0,z0<(↑L.length:Int)],headF (List.drop (s*1) (ints L))=some (i6 ↑v),An [z2≤z0,z0<(↑P.length:Int)],z3=some (u6 ↑p),CallSpec Pg g0 (V.fn 90 []) [V.ptr 3 0,i6 ↑s,i6 ↑v,u6 ↑p] z1 5 (CR.mk (V.tup [ar x,i6 0]) z1 5 []),Tt,An [z2≤z0,z0<(↑size:Int)],takeE 18 (dropF (0+s*18) (bF B size))=some (arF (B s)),(!(x 0==B s 0&&(x 1==B s 1&&(x 2==B s 2&&(x 3==B s 3&&(x 4==B s 4&&(x 5==B s 5&&(x 6==B s 6&&(x 7==B s 7&&(x 8==B s 8&&(x 9==B s 9&&(x 10==B s 10&&(x 11==B s 11&&(x 12==B s 12&&(x 13==B s 13&&(x 14==B s 14&&(x 15==B s 15&&(x 16==B s 16&&(x 17==B s 17&&true)))))))))))))))))))=true,An [Sm false,z2=z2,Tt],Tt])=_) ?_
      (repeat'(first|(with_reducible apply And.intro)|(refine fun(_:True)=>?_)))
      all_goals first|exact hcall|exact hone|(with_reducible exact hld)|(with_reducible exact hlp)|(with_reducible exact htk)|(rw[Nat.zero_add];with_reducible exact htk)|(with_reducible exact hEqn)|exact hB|exact hE|exact hS|exact hg|exact hc|exact hlo|exact hu|(with_reducible exact hs0)|exact aq|rfl|skip
    ·have hcall := rt_miss L P cards cs F B size q _ k s v p x (Qgx cards cs F B size q k s t v p bt x (by omega) hf hfam ht s3 s4 hadd)
     have hE2:=Qab (upQ q (k+1) (v,p)) (k+1+1)
     have hS2:=Qaa (scF F (upQ q (k+1) (v,p))) (k+1+1)
     clear hf hfam hadd
     cases hEq:eqA x (B s)with
     |true=>
      have hg2:=hgood hEq
      have hEqn:(!eqA x (B s))=false:=by rw[hEq];rfl
      unfold eqA at hEqn
      refine .inl ⟨(s+1,upQ q (k+1) (v,p),k+1),[0,1,2,3,5],[yes 39,no 42,pl 46,ld 47 (u6 (p:Nat)),fn 48 (i6 (popc p:Nat)),no 50,pl 57,ld 58 (i6 (v:Nat)),pl 62,ld 63 (u6 (p:Nat)),(64,.call ⟨.tup [ar x,i6 0],ofOs .e 0 (rtO2 L P cards cs F B size (upQ q (k+1) (v,p)) (k+1)),6,[2,3,4]⟩),pl 76,ld 77 (ar (B s)),no 78,nu 79 ((s+1:Nat):Int)],1000,⟨hlt,by dsimp only;omega,hg2⟩,by dsimp only;omega,?_⟩
      clear hgood hbad hg2 hask hx
      generalize upQ q (k+1) (v,p)=q' at*
      refine Eq.mp (by kernel_rfl:(let z0:=(↑s:Int);let z1:=bF (scF F q') (k+1+1);let z2:=(↑size:Int);let z3:=entM q' (k+1+1);let z4:=(↑(s+1):Int);let z5:=headF (List.drop (s*1) (ut P));let z6:=(0:Int);let z7:=bF B size;let z8:=(↑lim:Int);An [decide (z0<z2)=true,(z0==z6)=false,An [z6≤z0,z0<(↑P.length:Int)],z5=some (u6 ↑p),An [Tt,Tt],FnOk Pg g0 65 [u6 ↑p] (i6 ↑(popc p)),Tt,decide ((↑(popc p):Int)>z8)=false,An [z6≤z0,z0<(↑L.length:Int)],headF (List.drop (s*1) (ints L))=some (i6 ↑v),An [z6≤z0,z0<(↑P.length:Int)],z5=some (u6 ↑p),CallSpec Pg g0 (V.fn 90 []) [V.ptr 3 0,i6 ↑s,i6 ↑v,u6 ↑p] (ofOs T.e 0 (rtO L P cards cs F B size q k)) 5 (CR.mk (V.tup [ar x,i6 0]) (ofOs T.e 0 (rtO2 L P cards cs F B size q' (k+1))) 6 [2,3,4]),Tt,An [z6≤z0,z0<z2],takeE 18 (dropF (0+s*18) z7)=some (arF (B s)),(!(x 0==B s 0&&(x 1==B s 1&&(x 2==B s 2&&(x 3==B s 3&&(x 4==B s 4&&(x 5==B s 5&&(x 6==B s 6&&(x 7==B s 7&&(x 8==B s 8&&(x 9==B s 9&&(x 10==B s 10&&(x 11==B s 11&&(x 12==B s 12&&(x 13==B s 13&&(x 14==B s 14&&(x 15==B s 15&&(x 16==B s 16&&(x 17==B s 17&&true)))))))))))))))))))=false,wr .i64 (z0+(1:Int))=z4,An [z8=z8,Zz,Zz,z2=z2,z4=z4,Tt],An [Sm [sl L,ul P],TT 2],An [z7=z7,HfL z7],An [z3=z3,HfE z3,Sm (k+1+1)],An [An [Sm cards.length,Sm (ints cards)],An [Sm cs.length,Sm (List.map sl cs)],An [Zz,Sm size,Sm (size-size)],Tt,An [Zz,Sm (Nat.succ k+1),Tt],Tt],An [z1=z1,HfL z1],Tt])=_) ?_
      (repeat'(first|(with_reducible apply And.intro)|(refine fun(_:True)=>?_)))
      all_goals first|exact hcall|exact hone|(with_reducible exact hld)|(with_reducible exact hlp)|(with_reducible exact htk)|(rw[Nat.zero_add];with_reducible exact htk)|(with_reducible exact hEqn)|exact hB|exact hE|exact hS|exact hE2|exact hS2|exact hg|exact hc|exact hlo|exact hu|(with_reducible exact hs0)|exact aq|rfl|skip
     |false=>
      have hb2:=hbad hEq
      have hEqn:(!eqA x (B s))=true:=by rw[hEq];rfl
      unfold eqA at hEqn
      refine .inr ⟨.ret,[],rtR false,[yes 39,no 42,pl 46,ld 47 (u6 (p:Nat)),fn 48 (i6 (popc p:Nat)),no 50,pl 57,ld 58 (i6 (v:Nat)),pl 62,ld 63 (u6 (p:Nat)),(64,.call ⟨.tup [ar x,i6 0],ofOs .e 0 (rtO2 L P cards cs F B size (upQ q (k+1) (v,p)) (k+1)),6,[2,3,4]⟩),pl 76,ld 77 (ar (B s)),yes 78],1000,.inr (.inl ⟨hb2,rfl,rfl⟩),?_⟩
      clear hgood hbad hb2 hask hx
      generalize upQ q (k+1) (v,p)=q' at*
      refine Eq.mp (by kernel_rfl:(let z0:=(↑s:Int);let z1:=(0:Int);let z2:=headF (List.drop (s*1) (ut P));An [decide (z0<(↑size:Int))=true,(z0==z1)=false,An [z1≤z0,z0<(↑P.length:Int)],z2=some (u6 ↑p),An [Tt,Tt],FnOk Pg g0 65 [u6 ↑p] (i6 ↑(popc p)),Tt,decide ((↑(popc p):Int)>(↑lim:Int))=false,An [z1≤z0,z0<(↑L.length:Int)],headF (List.drop (s*1) (ints L))=some (i6 ↑v),An [z1≤z0,z0<(↑P.length:Int)],z2=some (u6 ↑p),CallSpec Pg g0 (V.fn 90 []) [V.ptr 3 0,i6 ↑s,i6 ↑v,u6 ↑p] (ofOs T.e 0 (rtO L P cards cs F B size q k)) 5 (CR.mk (V.tup [ar x,i6 0]) (ofOs T.e 0 (rtO2 L P cards cs F B size q' (k+1))) 6 [2,3,4]),Tt,An [z1≤z0,z0<(↑size:Int)],takeE 18 (dropF (0+s*18) (bF B size))=some (arF (B s)),(!(x 0==B s 0&&(x 1==B s 1&&(x 2==B s 2&&(x 3==B s 3&&(x 4==B s 4&&(x 5==B s 5&&(x 6==B s 6&&(x 7==B s 7&&(x 8==B s 8&&(x 9==B s 9&&(x 10==B s 10&&(x 11==B s 11&&(x 12==B s 12&&(x 13==B s 13&&(x 14==B s 14&&(x 15==B s 15&&(x 16==B s 16&&(x 17==B s 17&&true)))))))))))))))))))=true,An [Sm false,z1=z1,Tt],Tt])=_) ?_
      (repeat'(first|(with_reducible apply And.intro)|(refine fun(_:True)=>?_)))
      all_goals first|exact hcall|exact hone|(with_reducible exact hld)|(with_reducible exact hlp)|(with_reducible exact htk)|(rw[Nat.zero_add];with_reducible exact htk)|(with_reducible exact hEqn)|exact hB|exact hE|exact hS|exact hE2|exact hS2|exact hg|exact hc|exact hlo|exact hu|(with_reducible exact hs0)|exact aq|rfl|skip
   ·rw [decide_eq_false hpc, Bool.false_and] at hbad
    have hb2:=hbad rfl
    clear hj hb hask hgood hbad
    generalize P.getD s 0=p at*
    refine .inr ⟨.ret,[],rtR false,[yes 39,no 42,pl 46,ld 47 (u6 (p:Nat)),fn 48 (i6 (popc p:Nat)),yes 50],1000,.inr (.inl ⟨hb2,rfl,rfl⟩),?_⟩
    clear hb2
    refine Eq.mp (by kernel_rfl:(let z0:=(↑s:Int);let z1:=(0:Int);An [decide (z0<(↑size:Int))=true,(z0==z1)=false,An [z1≤z0,z0<(↑P.length:Int)],headF (List.drop (s*1) (ut P))=some (u6 ↑p),An [Tt,Tt],FnOk Pg g0 65 [u6 ↑p] (i6 ↑(popc p)),Tt,decide ((↑(popc p):Int)>(↑lim:Int))=true,An [Sm false,z1=z1,Tt],Tt])=_) ?_
    (repeat'(first|(with_reducible apply And.intro)|(refine fun(_:True)=>?_)))
    all_goals first|exact hone|(with_reducible exact hlp)|exact hB|exact hE|exact hS|exact hg|exact hc|exact hlo|exact hu|(with_reducible exact hs0)|exact aq|rfl|skip
 ·have hall : b = true := by rw [hb]; exact Qam.2 fun j hj1 => hj j (by omega)
  refine .inr ⟨.exit 0,[],{sl:=[]},[no 39],1000,.inl ⟨hall,rfl,rfl⟩,?_⟩
  clear hj hall hb hask
  refine Eq.mp (by kernel_rfl:(An [decide ((↑s:Int)<(↑size:Int))=false,Tt,Tt])=_) ?_
  (repeat'(first|(with_reducible apply And.intro)|(refine fun(_:True)=>?_)))
  all_goals first|exact hB|exact hE|exact hS|exact hg|exact hc|exact hlo|exact hu|exact aq|rfl|skip
end Go.Proofs.YtglpoiaedkoecaaDoor.Am
