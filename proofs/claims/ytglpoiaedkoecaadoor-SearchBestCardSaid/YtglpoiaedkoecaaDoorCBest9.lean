/- Texts behind the claim, part 9: the abstract machine, and what the functions answer. No condition. -/
import Derived.Test.YtglpoiaedkoecaaDoorCBest8
set_option linter.unusedVariables false
set_option linter.unusedSimpArgs false
set_option linter.unusedSectionVars false
namespace Go.Proofs.YtglpoiaedkoecaaDoor.Am
open Go.RowKit
set_option maxHeartbeats 4000000
set_option maxRecDepth 100000
theorem kn_loop(cards:List Int)(cs:List (List Int))(h1:1≤cards.length)(h6:cards.length≤6)(h40:cs.length≤40)(hcl: ∀c∈cs,c.length=cards.length):
  Sat Pg none 4 (at' 107 [0,1,1,0]) (mkSt g0 34 (knS cards cs (0,0,[]))) (Qaf g0 34 [(True,.exit 0,knX cards cs (comp cs).length (comp cs))]):=by
 have hlr:=Qs1 cards cs 4 (by decide)
 refine Qaz vE_ok mixed Qab (b:=at' 107 [0,1,1,0,0]) (by kernel_rfl) (fun q=>q.1≤cs.length∧q.2.2=comp (cs.take q.1)∧q.2.2.length=q.2.1) (knS cards cs) (fun q=>cs.length-q.1) (fun q hq=>?_) (0,0,[]) ⟨Nat.zero_le _,rfl,rfl⟩
 obtain⟨k,u,a⟩:=q
 obtain⟨hk,ha,hu⟩:=hq
 dsimp only at hk ha hu
 have hle:a.length≤k:=by
  rw[ha];unfold comp
  exact Nat.le_trans (List.length_filter_le _ _) (by rw[List.length_take];omega)
 have hla:=Qb3 sl a (fun _=>trivial)
 by_cases hlt:k<cs.length
 ·have hck : cs[k]? = some cs[k] := List.getElem?_eq_getElem hlt
  have hlc:=hcl _ (List.getElem_mem hlt)
  generalize cs[k]=c at*
  have hld:headF ((cs.map sl).drop (k*1))=some (sl c):=Qc8 hck
  have hnx:=Qrk hck
  have hlen:((idL cards.length).length:Int)=(cards.length:Int):=by rw[Qix]
  have hi:=ki_loop cards cs k u a c hlc h6
  rw[←ha]at hnx
  have hla2:=Qb3 sl (a++[c]) (fun _=>trivial)
  cases hn:negB c with
  | true =>
   have hi:=hi.mono (Qb7 (by rw[hn];simp) hn)
   have hnx2:a=comp (cs.take (k+1)):=by rw[hnx,hn];simp
   cases u with
   |zero=>
    refine .inl ⟨(k+1,0,a),[],[yes 12,pl 14,ld 15 (sl c),nu 17 (cards.length:Nat),(0,.loop [] (kiS cards cs k 0 a c 0) [(True,.exit 1,kiY cards cs k 0 a)]),nu 33 (k+1:Nat)],1000,⟨hlt,hnx2,hu⟩,by dsimp only;omega,?_⟩
    clear ha hnx hnx2
    refine Eq.mp (by kernel_rfl:(let z0:=idL cards.length;let z1:=(↑cs.length:Int);let z2:=(↑k:Int);let z3:=List.map sl cs;let z5:=(↑cards.length:Int);let z6:=[V.nils,V.nils];let z7:=(↑(k+1):Int);let z9:=rkT cards cs;let y0:=ints cards;let z4:=O.loop .ready none 0 z9 [35,36] rkA rkB;let z8:=z0.length;An [decide (z2<z1)=true,An [(0:Int)≤z2,z2<z1],headF (List.drop (k*1) z3)=some (sl c),(↑(z8):Int)=z5,An [An [Tt,Sm [sl z0],An [Sm cs.length,z3=z3],z1=z1,z2=z2,z2=z2,An [Sm c.length,Sm (ints c)],An [z8=z8,Sm (ints z0)],z5=z5,(↑(0:Nat):Int)=(0:Int),Tt],An [z6=z6,TT 2],An [An [Sm cards.length,y0=y0],An [Zz,Zz,Zz],Tt],An [noL=noL,Tt],An [lkO cards cs .ready=z4,LowT 4 z9],Tt],Sat Pg none 4 (at' 107 [0,1,1,0,0,1,1,0,0,1,0,1,0]) (mkSt g0 34 (kiS cards cs k 0 a c 0)) (Qaf g0 34 [(True,Ex.exit 1,kiY cards cs k 0 a)]),(True→An [wr .i64 (z2+(1:Int))=z7,An [Tt,Sm [sl z0],An [Sm cs.length,z3=z3],z1=z1,z7=z7,Tt],An [z6=z6,TT 2],An [An [Sm cards.length,y0=y0],An [Zz,Zz,Zz],Tt],An [noL=noL,Tt],An [lkO cards cs .ready=z4,LowT 4 z9],Tt]),Tt])=_) ?_
    (repeat'(first|(with_reducible apply And.intro)|(refine fun(_:True)=>?_)))
    all_goals first|exact hi|exact hlr|(with_reducible exact hld)|(with_reducible exact hlen)|exact aq|rfl|skip
   |succ u=>
    refine .inl ⟨(k+1,u+1,a),[4],[yes 12,pl 14,ld 15 (sl c),nu 17 (cards.length:Nat),(0,.loop [4] (kiS cards cs k (u+1) a c 0) [(True,.exit 1,kiY cards cs k (u+1) a)]),nu 33 (k+1:Nat)],1000,⟨hlt,hnx2,hu⟩,by dsimp only;omega,?_⟩
    clear ha hnx hnx2
    refine Eq.mp (by kernel_rfl:(let y2:=An [Zz,Sm (u+1),Tt];let z0:=idL cards.length;let z1:=(↑cs.length:Int);let z2:=(↑k:Int);let z3:=List.map sl a;let z4:=List.map sl cs;let z6:=(↑cards.length:Int);let z7:=[V.nils,V.nils];let z8:=(↑(k+1):Int);let y0:=rkT cards cs;let y1:=ints cards;let z5:=O.loop .ready none 0 y0 [35,36] rkA rkB;let z9:=z0.length;An [decide (z2<z1)=true,An [(0:Int)≤z2,z2<z1],headF (List.drop (k*1) z4)=some (sl c),(↑(z9):Int)=z6,An [An [Tt,Sm [sl z0],An [Sm cs.length,z4=z4],z1=z1,z2=z2,z2=z2,An [Sm c.length,Sm (ints c)],An [z9=z9,Sm (ints z0)],z6=z6,(↑(0:Nat):Int)=(0:Int),Tt],An [z7=z7,TT 2],An [An [Sm cards.length,y1=y1],y2,Tt],An [noL=noL,Tt],An [lkO cards cs .ready=z5,LowT 4 y0],An [z3=z3,HfL z3],Tt],Sat Pg none 4 (at' 107 [0,1,1,0,0,1,1,0,0,1,0,1,0]) (mkSt g0 34 (kiS cards cs k (u+1) a c 0)) (Qaf g0 34 [(True,Ex.exit 1,kiY cards cs k (u+1) a)]),(True→An [wr .i64 (z2+(1:Int))=z8,An [Tt,Sm [sl z0],An [Sm cs.length,z4=z4],z1=z1,z8=z8,Tt],An [z7=z7,TT 2],An [An [Sm cards.length,y1=y1],y2,Tt],An [noL=noL,Tt],An [lkO cards cs .ready=z5,LowT 4 y0],An [z3=z3,HfL z3],Tt]),Tt])=_) ?_
    (repeat'(first|(with_reducible apply And.intro)|(refine fun(_:True)=>?_)))
    all_goals first|exact hi|exact hlr|(with_reducible exact hld)|exact hla|(with_reducible exact hlen)|exact aq|rfl|skip
  | false =>
   have hi:=hi.mono (Qb6 hn (by rw[hn];simp))
   have hnx2:a++[c]=comp (cs.take (k+1)):=by rw[hnx,hn];simp
   cases u with
   |zero=>
    have:a=[]:=List.eq_nil_of_length_eq_zero hu
    subst this
    have hcall:=yldk_A cards cs k c (by omega) (by omega)
    refine .inl ⟨(k+1,1,[c]),[5],[yes 12,pl 14,ld 15 (sl c),nu 17 (cards.length:Nat),(0,.loop [] (kiS cards cs k 0 [] c 0) [(True,.exit 2,kiX cards cs k 0 [] c)]),(31,.call ⟨.bool true,ofOs .e 0 (kA1 cards cs .ready c),6,[1,3]⟩),nu 33 (k+1:Nat)],1000,⟨hlt,hnx2,rfl⟩,by dsimp only;omega,?_⟩
    clear ha hnx hnx2
    refine Eq.mp (by kernel_rfl:(let z0:=idL cards.length;let z1:=(↑cs.length:Int);let z2:=(↑k:Int);let z3:=List.map sl cs;let z5:=(↑cards.length:Int);let z6:=[V.nils,V.nils];let z7:=(↑(k+1):Int);let z9:=rkT cards cs;let y0:=ints cards;let z4:=O.loop .ready none 0 z9 [35,36] rkA rkB;let z8:=z0.length;An [decide (z2<z1)=true,An [(0:Int)≤z2,z2<z1],headF (List.drop (k*1) z3)=some (sl c),(↑(z8):Int)=z5,An [An [Tt,Sm [sl z0],An [Sm cs.length,z3=z3],z1=z1,z2=z2,z2=z2,An [Sm c.length,Sm (ints c)],An [z8=z8,Sm (ints z0)],z5=z5,(↑(0:Nat):Int)=(0:Int),Tt],An [z6=z6,TT 2],An [An [Sm cards.length,y0=y0],An [Zz,Zz,Zz],Tt],An [noL=noL,Tt],An [lkO cards cs .ready=z4,LowT 4 z9],Tt],Sat Pg none 4 (at' 107 [0,1,1,0,0,1,1,0,0,1,0,1,0]) (mkSt g0 34 (kiS cards cs k 0 [] c 0)) (Qaf g0 34 [(True,Ex.exit 2,kiX cards cs k 0 [] c)]),(True→An [CallSpec Pg g0 (V.yld 3) [i6 ↑k,sl c] (ofOs T.e 0 (kwS cards cs [] 0)) 4 (CR.mk (V.bool true) (ofOs T.e 0 (kA1 cards cs .ready c)) 6 [1,3]),Tt,wr .i64 (z2+(1:Int))=z7,An [Tt,Sm [sl z0],An [Sm cs.length,z3=z3],z1=z1,z7=z7,Tt],An [z6=z6,TT 2],An [An [Sm cards.length,y0=y0],An [Zz,1=1,Tt],Tt],An [noL=noL,Tt],An [lkO cards cs .ready=z4,LowT 4 z9],An [List.map sl [c]=[sl c],Tt,Tt],Tt]),Tt])=_) ?_
    (repeat'(first|(with_reducible apply And.intro)|(refine fun(_:True)=>?_)))
    all_goals first|exact hi|exact hcall|exact hlr|(with_reducible exact hld)|(with_reducible exact hlen)|exact aq|rfl|skip
   |succ u=>
    have hcall:=yldk_C cards cs u (a.map sl) (by simp[hu]) (by omega) k c (by omega) (by omega)
    refine .inl ⟨(k+1,u+1+1,a++[c]),[6],[yes 12,pl 14,ld 15 (sl c),nu 17 (cards.length:Nat),(0,.loop [4] (kiS cards cs k (u+1) a c 0) [(True,.exit 2,kiX cards cs k (u+1) a c)]),(31,.call ⟨.bool true,ofOs .e 0 (kC1 cards cs .ready u (a.map sl) c),7,[1,4,3]⟩),nu 33 (k+1:Nat)],1000,⟨hlt,hnx2,by simp[hu]⟩,by dsimp only;omega,?_⟩
    clear ha hnx hnx2
    have hmap:a.map sl++[sl c]=(a++[c]).map sl:=by simp
    refine Eq.mp (by kernel_rfl:(let z0:=idL cards.length;let z1:=(↑cs.length:Int);let z2:=(↑k:Int);let z3:=List.map sl cs;let z5:=List.map sl a;let z6:=(↑cards.length:Int);let z7:=[V.nils,V.nils];let z8:=(↑(k+1):Int);let y0:=rkT cards cs;let y1:=ints cards;let y2:=List.map sl (a++[c]);let z4:=O.loop .ready none 0 y0 [35,36] rkA rkB;let z9:=z0.length;An [decide (z2<z1)=true,An [(0:Int)≤z2,z2<z1],headF (List.drop (k*1) z3)=some (sl c),(↑(z9):Int)=z6,An [An [Tt,Sm [sl z0],An [Sm cs.length,z3=z3],z1=z1,z2=z2,z2=z2,An [Sm c.length,Sm (ints c)],An [z9=z9,Sm (ints z0)],z6=z6,(↑(0:Nat):Int)=(0:Int),Tt],An [z7=z7,TT 2],An [An [Sm cards.length,y1=y1],An [Zz,Sm (u+1),Tt],Tt],An [noL=noL,Tt],An [lkO cards cs .ready=z4,LowT 4 y0],An [z5=z5,HfL z5],Tt],Sat Pg none 4 (at' 107 [0,1,1,0,0,1,1,0,0,1,0,1,0]) (mkSt g0 34 (kiS cards cs k (u+1) a c 0)) (Qaf g0 34 [(True,Ex.exit 2,kiX cards cs k (u+1) a c)]),(True→An [CallSpec Pg g0 (V.yld 3) [i6 ↑k,sl c] (ofOs T.e 0 (kwS cards cs a (u+1))) 5 (CR.mk (V.bool true) (ofOs T.e 0 (kC1 cards cs .ready u z5 c)) 7 [1,4,3]),Tt,wr .i64 (z2+(1:Int))=z8,An [Tt,Sm [sl z0],An [Sm cs.length,z3=z3],z1=z1,z8=z8,Tt],An [z7=z7,TT 2],An [An [Sm cards.length,y1=y1],An [Zz,Nat.succ u+1=u+2,Tt],Tt],An [noL=noL,Tt],An [lkO cards cs .ready=z4,LowT 4 y0],An [y2=z5++[sl c],HfL y2],Tt]),Tt])=_) ?_
    (repeat'(first|(with_reducible apply And.intro)|(refine fun(_:True)=>?_)))
    all_goals first|exact hi|exact hcall|exact hlr|(with_reducible exact hld)|(with_reducible exact hmap)|(with_reducible exact hmap.symm)|exact hla|exact hla2|(with_reducible exact hlen)|(with_reducible rfl)|(with_reducible exact trivial)|(with_reducible refine decide_eq_true ?_;omega)|(clear hi hcall hmap;omega)|(clear hi hcall hmap;exact wr6' (by omega) (by omega) (by omega))|skip
 ·have hke : k = cs.length := by omega
  subst hke
  rw[List.take_length]at ha
  subst ha
  cases u with
  |zero=>
   rw[hu]
   refine .inr ⟨.exit 0,[],knX cards cs 0 (comp cs),[no 12],1000,.inl ⟨trivial,rfl,rfl⟩,?_⟩
   clear hla hle hu
   refine Eq.mp (by kernel_rfl:(An [decide ((↑cs.length:Int)<(↑cs.length:Int))=false,Tt,An [Sm [V.nils,V.nils],TT 2],An [An [Sm cards.length,Sm (ints cards)],An [Zz,Zz,Zz],Tt],An [noL=noL,Tt],An [lkO cards cs .ready=O.loop .ready none 0 (rkT cards cs) [35,36] rkA rkB,LowT 4 (rkT cards cs)],Tt])=_) ?_
   (repeat'(first|(with_reducible apply And.intro)|(refine fun(_:True)=>?_)))
   all_goals first|exact hlr|exact aq|rfl|skip
  |succ u=>
   rw[hu]
   refine .inr ⟨.exit 0,[4],knX cards cs (u+1) (comp cs),[no 12],1000,.inl ⟨trivial,rfl,rfl⟩,?_⟩
   clear hle hu
   generalize comp cs=a at*
   refine Eq.mp (by kernel_rfl:(An [decide ((↑cs.length:Int)<(↑cs.length:Int))=false,Tt,An [Sm [V.nils,V.nils],TT 2],An [An [Sm cards.length,Sm (ints cards)],An [Zz,Sm (u+1),Tt],Tt],An [noL=noL,Tt],An [lkO cards cs .ready=O.loop .ready none 0 (rkT cards cs) [35,36] rkA rkB,LowT 4 (rkT cards cs)],An [Sm (List.map sl a),HfL (List.map sl a)],Tt])=_) ?_
   (repeat'(first|(with_reducible apply And.intro)|(refine fun(_:True)=>?_)))
   all_goals first|exact hlr|exact hla|exact aq|rfl|skip
theorem Qp8(cards:List Int)(cs:List (List Int))(h1:1≤cards.length)(h6:cards.length≤6)(h40:cs.length≤40)(hcl: ∀c∈cs,c.length=cards.length)(a:List (List Int))(ha:a=comp cs)(m:Nat)(hm:a.length=m):
  CallSpec Pg g0 (.fn 107 [.imp [sl cards,gC cs],.imp [sl (idL cards.length)]]) [.yld 3] (ofOs .e 0 (kA cards cs .ready)) 4 ⟨.tup [],ofOs .e 0 (kwS cards cs a m),(kwS cards cs a m).length,[1,3]⟩:=by
 have l:=kn_loop cards cs h1 h6 h40 hcl
 rw[←ha]at l
 rw[hm]at l
 have hlr:=Qs1 cards cs 4 (by decide)
 have hla:=Qb3 sl a (fun _=>trivial)
 refine CallSpec.caps (caps:=[.imp [sl cards,gC cs],.imp [sl (idL cards.length)]]) (ars:=[.yld 3]) ?_
 clear ha
 cases m with
 | zero =>
  refine CallSpec.of_vcH (P:=Pg) (E:=vE) vE_ok mixed Qab (n:=1000) (f:=107) (os0:=kA cards cs .ready) (ars:=[.yld 3,.imp [sl cards,gC cs],.imp [sl (idL cards.length)]]) (r:=[])
   (S := { sl := [], os := kwS cards cs a 0, md := [0, 1], lg := [1, 3] }) (v := .tup []) (hs := [(0, .loop [] (knS cards cs (0, 0, [])) [(True, .exit 0, knX cards cs 0 a)])]) (gl := g0) (by simp) (fun i hi hno => by
    rcases(show i=0∨i=1∨i=2∨i=3 by simp at hi;omega)with rfl|rfl|rfl|rfl<;>first|rfl|(simp at hno)) ?_
  refine Eq.mp (by kernel_rfl:(let z1:=[V.nils,V.nils];let z2:=rkT cards cs;let z3:=ints cards;let z4:=[sl (idL cards.length)];let z0:=O.loop .ready none 0 z2 [35,36] rkA rkB;An [Sm (V.tup []),An [An [Tt,z4=z4,An [Sm cs.length,Sm (List.map sl cs)],Sm (↑cs.length:Int),(↑(0:Nat):Int)=(0:Int),Tt],An [z1=z1,TT 2],An [An [Sm cards.length,z3=z3],An [Zz,Zz,Zz],Tt],An [noL=noL,Tt],An [lkO cards cs .ready=z0,LowT 4 z2],Tt],Sat Pg none 4 (at' 107 [0,1,1,0]) (mkSt g0 34 (knS cards cs (0,0,[]))) (Qaf g0 34 [(True,Ex.exit 0,knX cards cs 0 a)]),(True→An [Tt,An [z1=z1,TT 2],An [An [Sm cards.length,z3=z3],An [Zz,Zz,Zz],Tt],An [noL=noL,Tt],An [lkO cards cs .ready=z0,LowT 4 z2],Tt]),Tt])=_) ?_
  (repeat'(first|(with_reducible apply And.intro)|(refine fun(_:True)=>?_)))
  all_goals first|exact l|exact hlr|exact aq|rfl|skip
 | succ k =>
  refine CallSpec.of_vcH (P:=Pg) (E:=vE) vE_ok mixed Qab (n:=1000) (f:=107) (os0:=kA cards cs .ready) (ars:=[.yld 3,.imp [sl cards,gC cs],.imp [sl (idL cards.length)]]) (r:=[4])
   (S := { sl := [], os := kwS cards cs a (k + 1), md := [0, 1], lg := [1, 3] }) (v := .tup []) (hs := [(0, .loop [] (knS cards cs (0, 0, [])) [(True, .exit 0, knX cards cs (k + 1) a)])]) (gl := g0) (by simp) (fun i hi hno => by
    rcases(show i=0∨i=1∨i=2∨i=3 by simp at hi;omega)with rfl|rfl|rfl|rfl<;>first|rfl|(simp at hno)) ?_
  refine Eq.mp (by kernel_rfl:(let z1:=[V.nils,V.nils];let z2:=rkT cards cs;let z3:=ints cards;let z4:=List.map sl a;let z5:=[sl (idL cards.length)];let z0:=O.loop .ready none 0 z2 [35,36] rkA rkB;An [Sm (V.tup []),An [An [Tt,z5=z5,An [Sm cs.length,Sm (List.map sl cs)],Sm (↑cs.length:Int),(↑(0:Nat):Int)=(0:Int),Tt],An [z1=z1,TT 2],An [An [Sm cards.length,z3=z3],An [Zz,Zz,Zz],Tt],An [noL=noL,Tt],An [lkO cards cs .ready=z0,LowT 4 z2],Tt],Sat Pg none 4 (at' 107 [0,1,1,0]) (mkSt g0 34 (knS cards cs (0,0,[]))) (Qaf g0 34 [(True,Ex.exit 0,knX cards cs (k+1) a)]),(True→An [Tt,An [z1=z1,TT 2],An [An [Sm cards.length,z3=z3],An [Zz,Sm (k+1),Tt],Tt],An [noL=noL,Tt],An [lkO cards cs .ready=z0,LowT 4 z2],An [z4=z4,HfL z4],Tt]),Tt])=_) ?_
  (repeat'(first|(with_reducible apply And.intro)|(refine fun(_:True)=>?_)))
  all_goals first|exact l|exact hlr|exact hla|exact aq|rfl|skip
theorem Qpy(cards:List Int)(cs:List (List Int))(h1:1≤cards.length)(h6:cards.length≤6):
  CallSpec Pg g0 (.fn 85 []) [gV cards cs] (ofOs .e 0 [gO cards cs,.row 32 none [.nils,.nils]]) 2 ⟨.agg [sl cards,.sl 2 0 0 (some 0)],ofOs .e 0 [gO cards cs,.row 32 none [.nils,.nils],.row 29 none noL,.row 32 none [sl cards,.sl 2 0 0 (some 0)]],4,[]⟩:=by
 have hcl:=Qft cards h6 h1
 have hg:=Qar cs
 have hc:=Qae cards
 refine CallSpec.of_vcH (P:=Pg) (E:=vE) vE_ok mixed Qab (n:=1000) (f:=85) (os0:=[gO cards cs,.row 32 none [.nils,.nils]]) (ars:=[gV cards cs]) (r:=[4,3])
   (S := { sl := [(2, .ptr 3 0)], os := [gO cards cs, .row 32 none [.nils, .nils], .row 29 none noL, .row 32 none [sl cards, .sl 2 0 0 (some 0)]], md := [0, 0, 0, 1] }) (v := .agg [sl cards, .sl 2 0 0 (some 0)]) (hs := [fn 5 (sl cards)]) (gl := g0) (by simp) (fun i hi hno => by
    rcases(show i=0∨i=1 by simp at hi;omega)with rfl|rfl<;>first|rfl|(simp at hno)) ?_
 refine Eq.mp (by kernel_rfl:(An [Sm (V.agg [sl cards,V.sl 2 0 0 (some 0)]),An [Tt,Tt],FnOk Pg g0 87 [V.im cards.length (ints cards)] (sl cards),Tt,An [Zz,Tt],An [Sm [sl cards,gC cs],TT 2],An [Sm [V.nils,V.nils],TT 2],An [noL=[],Tt],An [An [Sm cards.length,Sm (ints cards)],An [Zz,Zz,Zz],Tt],Tt])=_) ?_
 (repeat'(first|(with_reducible apply And.intro)|(refine fun(_:True)=>?_)))
 all_goals first|exact hcl|exact aq|rfl|skip
abbrev idxS(cards:List Int)(cs:List (List Int))(k:Nat):SL:={sl:=[(1,.ptr 0 0),(2,.ptr 1 0),(5,.sl 2 0 cards.length (some (cards.length-cards.length))),(21,i6 (cards.length:Nat)),(22,i6 (k:Nat))],os:=[gO cards cs,.row 32 none [.nils,.nils],.row 3 none (nF (idF k) cards.length)]}
abbrev idxX(cards:List Int)(cs:List (List Int)):SL:={sl:=[(1,.ptr 0 0),(2,.ptr 1 0),(5,sl (idL cards.length))],os:=[gO cards cs,.row 32 none [.nils,.nils]]}
theorem idx_loop(cards:List Int)(cs:List (List Int))(h6:cards.length≤6):
  Sat Pg none 0 (at' 38 [1,1,1,0,1,0]) (mkSt g0 45 (idxS cards cs 0)) (Qaf g0 45 [(True,.exit 0,idxX cards cs)]):=by
 have hg:=Qar cs
 have hc:=Qae cards
 refine Qaz vE_ok mixed Qab (b:=at' 38 [1,1,1,0,1,0,0]) (by kernel_rfl) (fun k=>k≤cards.length) (idxS cards cs) (fun k=>cards.length-k) (fun k hk=>?_) 0 (Nat.zero_le _)
 have hF:=Qah (idF k) cards.length
 by_cases hlt:k<cards.length
 ·have y := @Qdj (idF k) cards.length k hlt k
  rw[idF_next]at y
  have hF1:=Qah (idF (k+1)) cards.length
  refine .inl ⟨k+1,[0,1,2],[yes 23,pl 28,st (nF (idF (k+1)) cards.length),nu 29 (k+1:Nat)],1000,hlt,by omega,?_⟩
  refine Eq.mp (by kernel_rfl:(let z0:=nF (idF (k+1)) cards.length;let z1:=(↑cards.length:Int);let z2:=(↑(k+1):Int);let z3:=(↑k:Int);An [decide (z3<z1)=true,An [(0:Int)≤z3,z3<z1],layE (0+k*1) (nF (idF k) cards.length) [i6 ↑k]=some z0,wr .i64 (z3+(1:Int))=z2,An [Zz,Zz,An [Zz,Sm cards.length,Sm (cards.length-cards.length)],z1=z1,z2=z2,Tt],An [Sm [sl cards,gC cs],TT 2],An [Sm [V.nils,V.nils],TT 2],An [z0=z0,HfL z0],Tt])=_) ?_
  (repeat'(first|(with_reducible apply And.intro)|(refine fun(_:True)=>?_)))
  all_goals first|(with_reducible exact y)|exact hF|exact hF1|exact hg|exact hc|exact aq|rfl|skip
 ·have he : k = cards.length := by omega
  subst he
  have e:=nF_idF cards.length
  have hl:=Qix cards.length
  refine .inr ⟨.exit 0,[0,1],idxX cards cs,[no 23],1000,.inl ⟨trivial,rfl,rfl⟩,?_⟩
  refine Eq.mp (by kernel_rfl:(let z0:=nF (idF cards.length) cards.length;let z1:=(↑cards.length:Int);An [decide (z1<z1)=false,An [Zz,Zz,An [List.length (idL cards.length)=cards.length,ints (idL cards.length)=z0,HfL z0],Tt],An [Sm [sl cards,gC cs],TT 2],An [Sm [V.nils,V.nils],TT 2],Tt])=_) ?_
  (repeat'(first|(with_reducible apply And.intro)|(refine fun(_:True)=>?_)))
  all_goals first|(with_reducible exact e)|(with_reducible exact e.symm)|(with_reducible exact hl)|(with_reducible exact hl.symm)|exact hF|exact hg|exact hc|exact aq|rfl|skip
abbrev kvV(l:List (List Int)):Nat→V
 |0=>.sl 2 0 0 (some 0)
 |k+1=>.sl 2 0 (k+1) none
abbrev kvL(l:List (List Int)):Nat→O
 |0=>.row 29 none noL
 |k+1=>.row 29 (some 1) (l.map sl)
abbrev kS0(cards:List Int)(cs:List (List Int)):SL:={sl:=kZ cards cs,os:=[.row 32 none [.nils,.nils],.row 32 none [sl cards,.sl 2 0 0 (some 0)],.row 29 none noL],md:=[0,1]}
abbrev kS1(cards:List Int)(a:List (List Int))(m:Nat):SL:={sl:=[(2,.ptr 0 0),(7,.ptr 1 0)],os:=[.row 32 none [.nils,.nils],.row 32 none [sl cards,kvV a m],kvL a m],md:=[0,1]}
theorem Qo8(cards:List Int)(cs:List (List Int))(h1:1≤cards.length)(h6:cards.length≤6)(h40:cs.length≤40)(hcl: ∀c∈cs,c.length=cards.length)(a:List (List Int))(ha:a=comp cs)(m:Nat)(hm:a.length=m):
  Sat Pg none 0 rkC (mkSt g0 45 (kS0 cards cs)) (Qaf g0 45 [(True,.normal,kS1 cards a m)]):=by
 rw[rk_eq]
 have hla:=Qb3 sl a (fun _=>trivial)
 have hcall:=Qp8 cards cs h1 h6 h40 hcl a ha m hm
 clear ha
 cases m with
 |zero=>
  refine Sat.rangeC (gl:=g0) (r:=[0,1,2]) (S:=kS0 cards cs) (f:=107) (caps:=[.imp [sl cards,gC cs],.imp [sl (idL cards.length)]]) (H1:=ofOs .e 0 (kwS cards cs a 0)) (nx1:=4) (v:=.tup []) rfl rfl hcall (by kernel_rfl) ?_
  refine Eq.mp (by kernel_rfl:(An [An [Zz,Zz,Tt],An [Sm [V.nils,V.nils],TT 2],An [An [Sm cards.length,Sm (ints cards)],An [Zz,Zz,Zz],Tt],An [noL=noL,Tt],Tt])=_) ?_
  (repeat'(first|(with_reducible apply And.intro)|(refine fun(_:True)=>?_)))
  all_goals first|exact hla|exact aq|rfl|skip
 |succ k=>
  refine Sat.rangeC (gl:=g0) (r:=[0,1,4]) (S:=kS0 cards cs) (f:=107) (caps:=[.imp [sl cards,gC cs],.imp [sl (idL cards.length)]]) (H1:=ofOs .e 0 (kwS cards cs a (k+1))) (nx1:=5) (v:=.tup []) rfl rfl hcall (by kernel_rfl) ?_
  refine Eq.mp (by kernel_rfl:(An [An [Zz,Zz,Tt],An [Sm [V.nils,V.nils],TT 2],An [An [Sm cards.length,Sm (ints cards)],An [Zz,Sm (k+1),Tt],Tt],An [Sm (List.map sl a),HfL (List.map sl a)],Tt])=_) ?_
  (repeat'(first|(with_reducible apply And.intro)|(refine fun(_:True)=>?_)))
  all_goals first|exact hla|exact aq|rfl|skip
def cmpE(cards:List Int)(cs:List (List Int)):V:=.tup [bif okAll cards cs then gV cards (comp cs)else .agg [.nils,.nils],i6 (chkE cards cs)]
theorem Qkg(cards:List Int)(cs:List (List Int))(hl1:cards.length≤1000)(hl2:cs.length≤1000):FnOk Pg g0 38 [gV cards cs] (cmpE cards cs):=by
 have hck:=Qn1 cards cs hl1 hl2
 have hg:=Qar cs
 have hc:=Qae cards
 unfold cmpE
 cases hok:okAll cards cs with
 |false=>
  have e:chkE cards cs=250:=by unfold chkE;rw[hok];rfl
  rw[e]at hck⊢
  refine FnOk.of_vc vE_ok mixed Qab (n:=1000) (r:=[1]) (S:={sl:=[(2,.ptr 0 0),(3,i6 250)],os:=[.row 32 none [.nils,.nils]]}) (hs:=[fn 11 (i6 250)]) ?_
  refine Eq.mp (by kernel_rfl:(An [Sm (V.tup [V.agg [V.nils,V.nils],i6 250]),An [TT 2,Tt],FnOk Pg g0 84 [V.agg [V.im cards.length (ints cards),V.im cs.length (List.map sl cs)]] (i6 250),Tt,An [Zz,Sm (250:Int),Tt],An [Sm [V.nils,V.nils],TT 2],Tt])=_) ?_
  (repeat'(first|(with_reducible apply And.intro)|(refine fun(_:True)=>?_)))
  all_goals first|exact hck|exact hg|exact hc|exact aq|rfl|skip
 | true =>
  have e:chkE cards cs=0:=by unfold chkE;rw[hok];rfl
  rw[e]at hck⊢
  have hb:decide (1≤cards.length)=true∧decide (cards.length≤6)=true∧decide (cs.length≤40)=true∧okCs cards=true∧decide (prodT cards cards.length≤1024)=true∧cs.all (okRow cards)=true:=by
   unfold okAll at hok
   simpa [Bool.and_eq_true]using hok
  have h1:=of_decide_eq_true hb.1
  have h6:=of_decide_eq_true hb.2.1
  have h40:=of_decide_eq_true hb.2.2.1
  have hcl: ∀c∈cs,c.length=cards.length:=fun c hcm=>by
   have:=List.all_eq_true.1 hb.2.2.2.2.2 c hcm
   unfold okRow at this
   rw[Bool.and_eq_true]at this
   exact of_decide_eq_true this.1
  have lx:=idx_loop cards cs h6
  have hrep:=rep_nF cards.length
  have hem:=Qpy cards cs h1 h6
  have hkn:=known_fn cards cs cards.length
  have hF:=Qah (idF 0) cards.length
  generalize ha:comp cs=a
  have hla:=Qb3 sl a (fun _=>trivial)
  have hle:a.length≤40:=by
   rw[←ha];unfold comp
   exact Nat.le_trans (List.length_filter_le _ _) h40
  cases hm:a.length with
  |zero=>
   have lr:=Qo8 cards cs h1 h6 h40 hcl a ha.symm 0 hm
   have:a=[]:=List.eq_nil_of_length_eq_zero hm
   subst this
   clear hb hok
   refine FnOk.of_vc vE_ok mixed Qab (n:=1000) (r:=[0]) (S:={sl:=[(2,.ptr 0 0),(3,i6 0)],os:=[.row 32 none [sl cards,.im 0 []]],md:=[1]}) (hs:=[fn 11 (i6 0),mk 19,(0,.loop [0,1,2] (idxS cards cs 0) [(True,.exit 0,idxX cards cs)]),(31,.call ⟨.agg [sl cards,.sl 2 0 0 (some 0)],ofOs .e 0 [gO cards cs,.row 32 none [.nils,.nils],.row 29 none noL,.row 32 none [sl cards,.sl 2 0 0 (some 0)]],4,[]⟩),fn 34 (.fn 107 [.imp [sl cards,gC cs],.imp [sl (idL cards.length)]]),(0,.loop [1,4,2] (kS0 cards cs) [(True,.normal,kS1 cards [] 0)])]) ?_
   refine Eq.mp (by kernel_rfl:(let z9:=Sm cards.length;let z0:=(↑cards.length:Int);let z1:=[sl cards,gC cs];let z2:=[V.nils,V.nils];let z4:=idL cards.length;let z5:=ints cards;let z6:=[sl cards,V.sl 2 0 0 (some 0)];let z7:=nF (idF 0) cards.length;let z8:=(0:Int);let z3:=V.agg [V.im cards.length z5,V.im cs.length (List.map sl cs)];An [V.tup [V.agg [sl cards,V.im 0 []],i6 0]=V.tup [gV cards [],i6 0],An [TT 2,Tt],FnOk Pg g0 84 [z3] (i6 0),Tt,An [z8≤z0,z0≤z0,(↑(8:Nat):Int)*z0≤(281474976710656:Int),z0≤(9223372036854775807:Int)],An [An [Zz,Zz,An [Zz,z9,Sm (cards.length-cards.length)],z0=z0,(↑(0:Nat):Int)=z8,Tt],An [z1=z1,TT 2],An [z2=z2,TT 2],An [z7=rep cards.length [i6 0],HfL z7],Tt],Sat Pg none 0 (at' 38 [1,1,1,0,1,0]) (mkSt g0 45 (idxS cards cs 0)) (Qaf g0 45 [(True,Ex.exit 0,idxX cards cs)]),(True→An [CallSpec Pg g0 (V.fn 85 []) [V.agg z1] (ofOs T.e 0 [gO cards cs,O.row 32 none z2]) 2 (CR.mk (V.agg z6) (ofOs T.e 0 [gO cards cs,O.row 32 none z2,O.row 29 none noL,O.row 32 none z6]) 4 []),Tt,An [TT 2,Tt,Tt],FnOk Pg g0 86 [z3,V.im z4.length (ints z4)] (V.fn 107 [V.imp z1,V.imp [sl z4]]),Tt,An [An [Zz,Zz,An [z1=z1,Sm [sl z4],Tt],Tt],An [z2=z2,TT 2],An [An [z9,z5=z5],An [Zz,Zz,Zz],Tt],An [noL=noL,Tt],Tt],Sat Pg none 0 (at' 38 [1,1,1,1,1,0,1,0]) (mkSt g0 45 (kS0 cards cs)) (Qaf g0 45 [(True,Ex.normal,kS1 cards [] 0)]),(True→An [An [Zz,z8=z8,Tt],An [An [z9,z5=z5],An [Zz,[]=noL,Tt],Tt],Tt]),Tt]),Tt])=_) ?_
   (repeat'(first|(with_reducible apply And.intro)|(refine fun(_:True)=>?_)))
   all_goals first|exact hck|exact lx|exact lr|exact hem|exact hkn|(with_reducible exact hrep)|exact hg|exact hc|exact hF|exact aq|rfl|skip
  |succ k=>
   have lr:=Qo8 cards cs h1 h6 h40 hcl a ha.symm (k+1) hm
   rw[show gV cards a= .agg [sl cards,.im (k+1) (a.map sl)]by show V.agg [sl cards,.im a.length (a.map sl)]=_;rw[hm]]
   clear hb hok
   refine FnOk.of_vc vE_ok mixed Qab (n:=1000) (r:=[0]) (S:={sl:=[(2,.ptr 0 0),(3,i6 0)],os:=[.row 32 none [sl cards,.im (k+1) (a.map sl)]],md:=[1]}) (hs:=[fn 11 (i6 0),mk 19,(0,.loop [0,1,2] (idxS cards cs 0) [(True,.exit 0,idxX cards cs)]),(31,.call ⟨.agg [sl cards,.sl 2 0 0 (some 0)],ofOs .e 0 [gO cards cs,.row 32 none [.nils,.nils],.row 29 none noL,.row 32 none [sl cards,.sl 2 0 0 (some 0)]],4,[]⟩),fn 34 (.fn 107 [.imp [sl cards,gC cs],.imp [sl (idL cards.length)]]),(0,.loop [1,4,2] (kS0 cards cs) [(True,.normal,kS1 cards a (k+1))])]) ?_
   refine Eq.mp (by kernel_rfl:(let y1:=Sm cards.length;let z0:=(↑cards.length:Int);let z1:=[sl cards,gC cs];let z2:=[V.nils,V.nils];let z4:=idL cards.length;let z6:=List.map sl a;let z7:=ints cards;let z8:=[sl cards,V.sl 2 0 0 (some 0)];let z9:=nF (idF 0) cards.length;let y0:=(0:Int);let z3:=V.agg [V.im cards.length z7,V.im cs.length (List.map sl cs)];let z5:=V.tup [V.agg [sl cards,V.im (k+1) z6],i6 0];An [z5=z5,An [TT 2,Tt],FnOk Pg g0 84 [z3] (i6 0),Tt,An [y0≤z0,z0≤z0,(↑(8:Nat):Int)*z0≤(281474976710656:Int),z0≤(9223372036854775807:Int)],An [An [Zz,Zz,An [Zz,y1,Sm (cards.length-cards.length)],z0=z0,(↑(0:Nat):Int)=y0,Tt],An [z1=z1,TT 2],An [z2=z2,TT 2],An [z9=rep cards.length [i6 0],HfL z9],Tt],Sat Pg none 0 (at' 38 [1,1,1,0,1,0]) (mkSt g0 45 (idxS cards cs 0)) (Qaf g0 45 [(True,Ex.exit 0,idxX cards cs)]),(True→An [CallSpec Pg g0 (V.fn 85 []) [V.agg z1] (ofOs T.e 0 [gO cards cs,O.row 32 none z2]) 2 (CR.mk (V.agg z8) (ofOs T.e 0 [gO cards cs,O.row 32 none z2,O.row 29 none noL,O.row 32 none z8]) 4 []),Tt,An [TT 2,Tt,Tt],FnOk Pg g0 86 [z3,V.im z4.length (ints z4)] (V.fn 107 [V.imp z1,V.imp [sl z4]]),Tt,An [An [Zz,Zz,An [z1=z1,Sm [sl z4],Tt],Tt],An [z2=z2,TT 2],An [An [y1,z7=z7],An [Zz,Zz,Zz],Tt],An [noL=noL,Tt],Tt],Sat Pg none 0 (at' 38 [1,1,1,1,1,0,1,0]) (mkSt g0 45 (kS0 cards cs)) (Qaf g0 45 [(True,Ex.normal,kS1 cards a (k+1))]),(True→An [An [Zz,y0=y0,Tt],An [An [y1,z7=z7],An [Sm (k+1),z6=z6,HfL z6],Tt],Tt]),Tt]),Tt])=_) ?_
   (repeat'(first|(with_reducible apply And.intro)|(refine fun(_:True)=>?_)))
   all_goals first|exact hck|exact lx|exact lr|exact hem|exact hkn|(with_reducible exact hrep)|exact hg|exact hc|exact hF|exact hla|exact aq|rfl|skip
def Qdw(cards:List Int)(cs:List (List Int))(lim:Int):Int:=if goodE cards cs=0 then(if 5<cards.length∨lim<0∨4<lim then 2 else 0)else goodE cards cs
abbrev e4(e:Int):SL:={sl:=[(4,i6 e)]}
theorem Qlo(cards:List Int)(cs:List (List Int))(lim:Int)(hl1:cards.length≤1000)(hl2:cs.length≤1000):FnOk Pg g0 108 [gV cards cs,i6 lim] (i6 (Qdw cards cs lim)):=by
 have hd:=Qkg cards cs hl1 hl2
 have hg:=Qar cs
 have hc:=Qae cards
 unfold cmpE at hd
 unfold Qdw goodE
 cases hok:okAll cards cs with
 |false=>
  have e:chkE cards cs=250:=by unfold chkE;rw[hok];rfl
  rw[e,hok,cond_false]at hd
  simp only[Bool.false_eq_true,if_false,show((250:Int)=0)=False from by simp]
  refine FnOk.of_vc vE_ok mixed Qab (n:=1000) (r:=[]) (S:=e4 250) (hs:=[fn 9 (.tup [.agg [.nils,.nils],i6 250]),yes 13]) ?_
  refine Eq.mp (by kernel_rfl:(An [Sm (i6 250),An [TT 2,Tt],FnOk Pg g0 38 [V.agg [V.im cards.length (ints cards),V.im cs.length (List.map sl cs)]] (V.tup [V.agg [V.nils,V.nils],i6 250]),Tt,((250:Int) != (0:Int))=true,An [Sm (250:Int),Tt],Tt])=_) ?_
  (repeat'(first|(with_reducible apply And.intro)|(refine fun(_:True)=>?_)))
  all_goals first|exact hd|exact hg|exact hc|exact aq|rfl|skip
 | true =>
  have e:chkE cards cs=0:=by unfold chkE;rw[hok];rfl
  rw[e,hok,cond_true]at hd
  simp only[if_true]
  have hla:=Qb3 sl (comp cs) (fun _=>trivial)
  have hle:(comp cs).length≤cs.length:=List.length_filter_le _ _
  cases hn:cs.any negB with
  | true =>
   have hne:(comp cs).length≠cs.length:=fun h=>by have:=(Qn3 cs).1 h;rw[hn]at this;cases this
   simp only[if_true,show((260:Int)=0)=False from by simp,if_false]
   generalize comp cs=a at*
   have hbn:((a.length:Int)==(cs.length:Int))=false:=by
    rw[beq_eq_false_iff_ne];omega
   refine FnOk.of_vc vE_ok mixed Qab (n:=1000) (r:=[]) (S:=e4 260) (hs:=[fn 9 (.tup [gV cards a,i6 0]),no 13,yes 21]) ?_
   refine Eq.mp (by kernel_rfl:(An [Sm (i6 260),An [TT 2,Tt],FnOk Pg g0 38 [V.agg [V.im cards.length (ints cards),V.im cs.length (List.map sl cs)]] (V.tup [gV cards a,i6 0]),Tt,((0:Int) != (0:Int))=false,((↑a.length:Int) != (↑cs.length:Int))=true,An [Sm (260:Int),Tt],Tt])=_) ?_
   (repeat'(first|(with_reducible apply And.intro)|(refine fun(_:True)=>?_)))
   all_goals first|exact hd|exact hg|exact hc|exact hla|exact hbn|exact aq|rfl|skip
  | false =>
   have heq:(comp cs).length=cs.length:=(Qn3 cs).2 hn
   simp only[Bool.false_eq_true,if_false,if_true]
   generalize comp cs=a at*
   have hbn:((a.length:Int)==(cs.length:Int))=true:=by
    rw[heq];exact beq_self_eq_true _
   by_cases h1:5<cards.length
   ·rw [if_pos (Or.inl h1)]
    refine FnOk.of_vc vE_ok mixed Qab (n:=1000) (r:=[]) (S:=e4 2) (hs:=[fn 9 (.tup [gV cards a,i6 0]),no 13,no 21,yes 25]) ?_
    refine Eq.mp (by kernel_rfl:(An [Sm (i6 2),An [TT 2,Tt],FnOk Pg g0 38 [V.agg [V.im cards.length (ints cards),V.im cs.length (List.map sl cs)]] (V.tup [gV cards a,i6 0]),Tt,((0:Int) != (0:Int))=false,((↑a.length:Int) != (↑cs.length:Int))=false,decide ((↑cards.length:Int)>(5:Int))=true,An [Sm (2:Int),Tt],Tt])=_) ?_
    (repeat'(first|(with_reducible apply And.intro)|(refine fun(_:True)=>?_)))
    all_goals first|exact hd|exact hg|exact hc|exact hla|exact hbn|exact aq|rfl|skip
   ·by_cases h2 : lim < 0
    ·rw [if_pos (Or.inr (Or.inl h2))]
     refine FnOk.of_vc vE_ok mixed Qab (n:=1000) (r:=[]) (S:=e4 2) (hs:=[fn 9 (.tup [gV cards a,i6 0]),no 13,no 21,no 25,yes 28]) ?_
     refine Eq.mp (by kernel_rfl:(An [Sm (i6 2),An [TT 2,Tt],FnOk Pg g0 38 [V.agg [V.im cards.length (ints cards),V.im cs.length (List.map sl cs)]] (V.tup [gV cards a,i6 0]),Tt,((0:Int) != (0:Int))=false,((↑a.length:Int) != (↑cs.length:Int))=false,decide ((↑cards.length:Int)>(5:Int))=false,decide (lim<(0:Int))=true,An [Sm (2:Int),Tt],Tt])=_) ?_
     (repeat'(first|(with_reducible apply And.intro)|(refine fun(_:True)=>?_)))
     all_goals first|exact hd|exact hg|exact hc|exact hla|exact hbn|exact aq|rfl|skip
    ·by_cases h3 : 4 < lim
     ·rw [if_pos (Or.inr (Or.inr h3))]
      refine FnOk.of_vc vE_ok mixed Qab (n:=1000) (r:=[]) (S:=e4 2) (hs:=[fn 9 (.tup [gV cards a,i6 0]),no 13,no 21,no 25,no 28,yes 32]) ?_
      refine Eq.mp (by kernel_rfl:(An [Sm (i6 2),An [TT 2,Tt],FnOk Pg g0 38 [V.agg [V.im cards.length (ints cards),V.im cs.length (List.map sl cs)]] (V.tup [gV cards a,i6 0]),Tt,((0:Int) != (0:Int))=false,((↑a.length:Int) != (↑cs.length:Int))=false,decide ((↑cards.length:Int)>(5:Int))=false,decide (lim<(0:Int))=false,decide (lim>(4:Int))=true,An [Sm (2:Int),Tt],Tt])=_) ?_
      (repeat'(first|(with_reducible apply And.intro)|(refine fun(_:True)=>?_)))
      all_goals first|exact hd|exact hg|exact hc|exact hla|exact hbn|exact aq|rfl|skip
     ·rw [if_neg (by omega)]
      refine FnOk.of_vc vE_ok mixed Qab (n:=1000) (r:=[]) (S:=e4 0) (hs:=[fn 9 (.tup [gV cards a,i6 0]),no 13,no 21,no 25,no 28,no 32]) ?_
      refine Eq.mp (by kernel_rfl:(let z0:=(0:Int);An [Sm (i6 0),An [TT 2,Tt],FnOk Pg g0 38 [V.agg [V.im cards.length (ints cards),V.im cs.length (List.map sl cs)]] (V.tup [gV cards a,i6 0]),Tt,(z0 != z0)=false,((↑a.length:Int) != (↑cs.length:Int))=false,decide ((↑cards.length:Int)>(5:Int))=false,decide (lim<z0)=false,decide (lim>(4:Int))=false,An [z0=z0,Tt],Tt])=_) ?_
      (repeat'(first|(with_reducible apply And.intro)|(refine fun(_:True)=>?_)))
      all_goals first|exact hd|exact hg|exact hc|exact hla|exact hbn|exact aq|rfl|skip
set_option maxHeartbeats 1000000
set_option maxHeartbeats 4000000
def fF(cards:List Int)(cs:List (List Int))(v p:Nat):Nat→Int:=if v<cards.length then famG cards cs v p else Qaj
theorem Qr0{cards:List Int}{cs:List (List Int)}(h:goodE cards cs=0)(h40:cs.length≤40)(v p:Nat):inB (fF cards cs v p) 160:=by
 have hw:=Qfd h
 unfold fF
 split
 ·intro i hi
  unfold famG
  exact fam_le hw.cok hw.rok (by rw[Qat];omega) (by rw[List.length_map];exact h40) hi
 ·exact inB_zero.mono (by decide)
section
variable (n lim:Nat) (F:Nat→Nat→Nat→Int)
def laT:Nat→Nat→Nat
 |0=>fun _=>0
 |s+1=>sL s (stB n lim F s) (laT s)
def paT:Nat→Nat→Nat
 |0=>fun _=>0
 |s+1=>sP s (stB n lim F s) (paT s)
def allA:Nat→(Nat→Nat×Nat)×Nat
 |0=>(fun _=>(0,0),0)
 |s+1=>outA lim s (allA s).1 (allA s).2 n
end
theorem tab_next(n lim:Nat)(F:Nat→Nat→Nat→Int)(s:Nat):sB s (stB n lim F s) (tabB n lim F s)=tabB n lim F (s+1):=rfl
theorem tab_none(n lim:Nat)(F:Nat→Nat→Nat→Int)(s:Nat):sB s none (tabB n lim F s)=tabB n lim F s:=by
 funext i
 unfold sB
 split
 ·rename_i h
  rw[Qcm,if_neg (by omega)];rfl
 ·rfl
theorem la_ge(n lim:Nat)(F:Nat→Nat→Nat→Int): ∀(s i:Nat),s≤i→laT n lim F s i=0
 |0,_,_=>rfl
 |s+1,i,h=>by
  unfold laT sL
  rw[if_neg (by omega)]
  exact la_ge n lim F s i (by omega)
theorem pa_ge(n lim:Nat)(F:Nat→Nat→Nat→Int): ∀(s i:Nat),s≤i→paT n lim F s i=0
 |0,_,_=>rfl
 |s+1,i,h=>by
  unfold paT sP
  rw[if_neg (by omega)]
  exact pa_ge n lim F s i (by omega)
theorem la_none(n lim:Nat)(F:Nat→Nat→Nat→Int)(s:Nat):sL s none (laT n lim F s)=laT n lim F s:=by
 funext i
 unfold sL
 split
 ·rename_i h
  rw[la_ge n lim F s i (by omega)];rfl
 ·rfl
theorem pa_none(n lim:Nat)(F:Nat→Nat→Nat→Int)(s:Nat):sP s none (paT n lim F s)=paT n lim F s:=by
 funext i
 unfold sP
 split
 ·rename_i h
  rw[pa_ge n lim F s i (by omega)];rfl
 ·rfl
theorem la_at(n lim:Nat)(F:Nat→Nat→Nat→Int): ∀(s i:Nat),i<s→laT n lim F s i=vO (stB n lim F i)
 |s+1,i,h=>by
  unfold laT sL
  by_cases e:i=s
  ·rw[if_pos e,e]
  ·rw[if_neg e];exact la_at n lim F s i (by omega)
theorem pa_at(n lim:Nat)(F:Nat→Nat→Nat→Int): ∀(s i:Nat),i<s→paT n lim F s i=pO (stB n lim F i)
 |s+1,i,h=>by
  unfold paT sP
  by_cases e:i=s
  ·rw[if_pos e,e]
  ·rw[if_neg e];exact pa_at n lim F s i (by omega)
theorem outA_pos(lim s:Nat)(q:Nat→Nat×Nat)(k:Nat)(hb:s.testBit 0=true): ∀n,1≤n→1≤(outA lim s q k n).2
 |0,h=>absurd h (by decide)
 | n + 1, _ => by
  have h1:1≤(outA lim s q k 1).2:=by
   rw[outA,if_pos hb]
   by_cases hk:k=0
   ·subst hk
    exact Qiy (s+1) (by omega) (Qbw.2 ⟨Nat.zero_and _,Nat.zero_testBit _,Nat.zero_le _⟩) rfl
   ·have := Qds lim s 0 q k (s + 1)
    unfold innK at this
    show 1≤(innA lim s 0 q k (s+1)).2
    omega
  have: ∀m,(outA lim s q k 1).2≤(outA lim s q k (m+1)).2:=fun m=>by
   induction m with
   |zero=>exact Nat.le_refl _
   | succ m ih =>
    refine Nat.le_trans ih ?_
    have e:outA lim s q k (m+1+1)=if s.testBit (m+1)then innA lim s (m+1) (outA lim s q k (m+1)).1 (outA lim s q k (m+1)).2 (s+1)else outA lim s q k (m+1):=rfl
    rw[e]
    split
    ·have := Qds lim s (m + 1) (outA lim s q k (m + 1)).1 (outA lim s q k (m + 1)).2 (s + 1)
     unfold innK at this
     exact this.1
    ·exact Nat.le_refl _
  exact Nat.le_trans h1 (this n)
theorem Qno(n lim:Nat)(hn:1≤n): ∀s,2≤s→1≤(allA n lim s).2
 |0,h=>absurd h (by decide)
 |1,h=>absurd h (by decide)
 |2,_=>outA_pos lim 1 _ _ rfl n hn
 |s+3,_=>Nat.le_trans (Qno n lim hn (s+2) (by omega)) (Qgj lim (s+2) _ _ n).1
theorem Ql4(n lim:Nat)(hn:n≤5): ∀s,s≤32→(allA n lim s).2≤s*160
 |0,_=>Nat.le_refl _
 |s+1,h=>by
  have ih:=Ql4 n lim hn s (by omega)
  have:=(Qgj lim s (allA n lim s).1 (allA n lim s).2 n).2
  have h2:n*(s+1)≤5*32:=Nat.mul_le_mul hn (by omega)
  show(outA lim s (allA n lim s).1 (allA n lim s).2 n).2≤_
  omega
theorem Qpf(a b:Nat→Int){k:Nat}(hk:k<18):sumF a b k=a k+1*b k:=by
 unfold sumF
 rw[Qbm,if_pos hk]
theorem alltry{cards:List Int}{cs:List (List Int)}(hl2:cs.length≤40)(hcl: ∀c∈cs,c.length≤1000)(h:goodE cards cs=0)(hn:cards.length≤5)(lim s v:Nat)(hs:s<2^cards.length)(hv:v<cards.length)(hb:s.testBit v=true):
  Qdx cards cs (fF cards cs) (2^cards.length) lim s v (tabB cards.length lim (fF cards cs) s):=by
 have h32:=Qas hn
 have hF:=Qr0 h hl2
 have ht: ∀t,inB (tabB cards.length lim (fF cards cs) s t) 800:=fun t=>by
  rw[Qcm]
  split
  ·exact Qjt hF hn (by omega)
  ·exact inB_zero.mono (by decide)
 obtain⟨r1,r2,r3⟩:=Qbx s (by omega) v (by omega) hb
 have hp0:0<2^v:=Nat.pow_pos (by decide)
 have hbd: ∀p,inB (tryF (fF cards cs) (tabB cards.length lim (fF cards cs) s) s v p) 1000:=fun p=>((ht _).add (hF v p)).mono (by decide)
 refine⟨by omega,by omega,hb,hbd,fun p b hok hG=>⟨hs,by omega,by omega,fun G T=>Qlp (by omega),fun G T=>Qq7 (by omega) (by omega) hb,?_,fun v' p' y e=>?_,?_⟩⟩
 ·have hsum : arF (sumF (tabB cards.length lim (fF cards cs) s (s - 2 ^ v)) (fF cards cs v p)) = arF (tryF (fF cards cs) (tabB cards.length lim (fF cards cs) s) s v p) := Qbo fun k hk => by
   show sumF _ _ k=tabB cards.length lim (fF cards cs) s (s-2^v) k+1*fF cards cs v p k
   exact Qpf _ _ hk
  have:=add_ok (tabB cards.length lim (fF cards cs) s (s-2^v)) (fF cards cs v p) ((ht _).inA (by decide)) ((hF v p).inA (by decide)) (by
   refine Qso fun k hk=>?_
   have h1:=ht (s-2^v) k hk
   have h2:=hF v p k hk
   have:sumF (tabB cards.length lim (fF cards cs) s (s-2^v)) (fF cards cs v p) k=tabB cards.length lim (fF cards cs) s (s-2^v) k+1*fF cards cs v p k:=Qpf _ _ hk
   omega)
  rw[show ar (sumF (tabB cards.length lim (fF cards cs) s (s-2^v)) (fF cards cs v p))=ar (tryF (fF cards cs) (tabB cards.length lim (fF cards cs) s) s v p)from congrArg V.agg hsum]at this
  exact this
 ·exact cmp_ok _ _ ((hbd p).inA (by decide)) ((hG v' p' y e).inA (by decide))
 ·have ho := Qbw.1 hok
  have hps:p≤s:=by rw[←ho.1];exact Nat.and_le_right
  have hF2:fF cards cs v p=famG cards cs v p:=if_pos hv
  rw[hF2]
  refine Qtu cards cs v p (by omega) (by omega) hcl h ?_
  unfold memB
  have e1:p/2^cards.length=0:=Nat.div_eq_of_lt (by omega)
  have e2:p/2^v%2=0:=by
   have:=ho.2.1
   rw[Nat.testBit_eq_decide_div_mod_eq]at this
   have:=of_decide_eq_false this
   omega
  simp[e1,e2,hv]
section
variable (cards:List Int) (cs:List (List Int)) (F:Nat→Nat→Nat→Int) (size lim:Nat)
abbrev smZ(s:Nat):List (Nat×V):=[(1,i6 (lim:Nat)),(2,.ptr 0 0),(4,.ptr 1 0),(5,.ptr 2 0),(6,.ptr 3 0),(8,i6 (size:Nat)),(9,.ptr 7 0),(10,.ptr 10 0),(39,i6 (size:Nat)),(40,i6 (s:Nat))]
abbrev smO(q:Nat→Nat×Nat)(B:Nat→Nat→Int)(la pa:Nat→Nat)(hs k:Nat):List O:=[.row 32 none [sl cards,gC cs],.row 153 none [.nilp],.row 77 none [.nils,.nils],.row 36 none [i6 0],.row 41 none (bF B size),.map (entM q k) k,.row 158 none (toC cards cs size 4 5 hs k),.row 153 none [.ptr 6 0],.row 3 none (nF la size),.row 28 none (uF pa size),.row 77 none [.sl 8 0 size (some (size-size)),.sl 9 0 size (some (size-size))]]
abbrev sSx(x:Nat×(Nat→Nat×Nat)×Nat×(Nat→Nat→Int)×(Nat→Nat)×(Nat→Nat)):SL:={sl:=smZ size lim x.1,os:=match x.2.2.1 with|0=>smO cards cs size x.2.1 x.2.2.2.1 x.2.2.2.2.1 x.2.2.2.2.2 11 0|k+1=>smO cards cs size x.2.1 x.2.2.2.1 x.2.2.2.2.1 x.2.2.2.2.2 11 (k+1)++[scO F x.2.1 k],md:=clM}
end
theorem Qtt(cards:List Int)(cs:List (List Int))(hl2:cs.length≤40)(hcl: ∀c∈cs,c.length≤1000)(h:goodE cards cs=0)(hn1:1≤cards.length)(hn:cards.length≤5)(lim:Nat)(F:Nat→Nat→Nat→Int)(hF:F=fF cards cs)(n:Nat)(hnl:n=cards.length)(size:Nat)(hsz:size=2^n)(q1:Nat→Nat×Nat)(k1:Nat)(hA:allA n lim size=(q1,k1))(B1:Nat→Nat→Int)(hB1:tabB n lim F size=B1)(la1:Nat→Nat)(hla1:laT n lim F size=la1)(pa1:Nat→Nat)(hpa1:paT n lim F size=pa1):
  Sat Pg none 0 (at' 88 [1,1,1,1,1,0,1,0]) (mkSt g0 75 (sSx cards cs F size lim (0,(fun _=>(0,0)),0,(fun _=>Qaj),(fun _=>0),(fun _=>0)))) (Qaf g0 75 [(True,.exit 0,sSx cards cs F size lim (size,q1,k1,B1,la1,pa1))]):=by
 have hc:=Qae cards
 have hg:=Qar cs
 have hla:=fun la=>Qah la size
 have hpa:=fun pa=>Qag pa size
 have hBB:=fun B=>Qaa B size
 have hEE:=fun q k=>Qac q k
 have hSS:=fun q k=>Qaa (scF F q) k
 have h32:size≤32:=by rw[hsz,hnl];exact Qas hn
 refine Qaz vE_ok mixed Qab (b:=at' 88 [1,1,1,1,1,0,1,0,0]) (by kernel_rfl) (fun x=>x.1≤size∧allA n lim x.1=(x.2.1,x.2.2.1)∧tabB n lim F x.1=x.2.2.2.1∧laT n lim F x.1=x.2.2.2.2.1∧paT n lim F x.1=x.2.2.2.2.2) (sSx cards cs F size lim) (fun x=>size-x.1) (fun x hx=>?_) (0,(fun _=>(0,0)),0,(fun _=>Qaj),(fun _=>0),(fun _=>0)) ⟨Nat.zero_le _,rfl,rfl,rfl,rfl⟩
 obtain⟨s,q,k,B,la,pa⟩:=x
 obtain⟨hs,eA,eB,eL,eP⟩:=hx
 dsimp only at hs eA eB eL eP
 have hkb:=Ql4 n lim (by omega) s (by omega)
 rw[eA]at hkb
 dsimp only at hkb
 by_cases hlt:s<size
 ·generalize hout : outA lim s q k n = z
  obtain⟨q2,k2⟩:=z
  generalize hb2:outB lim F B s n=b2
  have l:=Ql9 cards cs F size lim n s B la pa (by omega) (by omega) (fun v hv hb=>by
   subst hF hnl hsz
   rw[←eB]
   exact alltry hl2 hcl h hn lim s v hlt hv hb) q k (by omega) q2 k2 b2 hout hb2
  have eB0:sB s none B=B:=by rw[←eB];exact tab_none n lim F s
  have eL0:sL s none la=la:=by rw[←eL];exact la_none n lim F s
  have eP0:sP s none pa=pa:=by rw[←eP];exact pa_none n lim F s
  have zB:bF (sB s none B) size=bF B size:=by rw[eB0]
  have zL:nF (sL s none la) size=nF la size:=by rw[eL0]
  have zP:uF (sP s none pa) size=uF pa size:=by rw[eP0]
  have hst:stB n lim F s=b2:=by unfold stB;rw[eB];exact hb2
  have eA2:allA n lim (s+1)=(q2,k2):=by
   show outA lim s (allA n lim s).1 (allA n lim s).2 n=_
   rw[eA];exact hout
  have eB2:tabB n lim F (s+1)=sB s b2 B:=by rw[←tab_next,hst,eB]
  have eL2:laT n lim F (s+1)=sL s b2 la:=by show sL s (stB n lim F s) (laT n lim F s)=_;rw[hst,eL]
  have eP2:paT n lim F (s+1)=sP s b2 pa:=by show sP s (stB n lim F s) (paT n lim F s)=_;rw[hst,eP]
  have hmono:=(Qgj lim s q k n).1
  rw[hout]at hmono
  dsimp only at hmono
  subst hnl
  clear h hA hB1 hla1 hpa1 hst hout hb2 eA eB eL eP
  cases k with
  | zero =>
   cases k2 with
   |zero=>
    skip
    refine .inl ⟨(s+1,q2,0,sB s b2 B,sL s b2 la,sP s b2 pa),[0,1,2,3,4,5,6,7,8,9,10],[yes 41,(0,.loop [0,1,2,3,4,5,6,7,8,9,10,11,12,13] (vSx cards cs F size lim cards.length s B la pa (0,q,0,none)) [(True,.exit 2,vSx cards cs F size lim cards.length s B la pa (cards.length,q2,0,b2))]),nu 72 ((s+1:Nat):Int)],1000,⟨hlt,eA2,eB2,eL2,eP2⟩,by dsimp only;omega,?_⟩
    refine Eq.mp (by kernel_rfl:(let y5:=An [Zz,Sm size,Sm (size-size)];let y6:=An [Sm [V.nilp],Tt,Tt];let y7:=An [Sm [i6 0],Tt,Tt];let z0:=(↑size:Int);let z1:=[sl cards,gC cs];let z2:=[V.nils,V.nils];let z3:=nF (sL s b2 la) size;let z4:=uF (sP s b2 pa) size;let z5:=(↑lim:Int);let z6:=List.map sl cs;let z7:=bF (sB s b2 B) size;let z8:=(↑(s+1):Int);let z9:=(↑s:Int);let y0:=ints cards;let y1:=nF (sL s none la) size;let y2:=uF (sP s none pa) size;let y3:=(↑cards.length:Int);let y4:=bF (sB s none B) size;An [decide (z9<z0)=true,An [An [z5=z5,Zz,Zz,Zz,Zz,z0=z0,Zz,Zz,Zz,Zz,Zz,z0=z0,z9=z9,y3=y3,(↑(0:Nat):Int)=(0:Int),Tt],An [z1=z1,TT 2],y6,An [z2=z2,TT 2],y7,An [y4=bF B size,HfL y4],An [Sm (entM q 0),HfE (entM q 0),Zz],An [An [Sm cards.length,y0=y0],An [Sm cs.length,z6=z6],y5,TT 2],An [Zz,Tt],An [y1=nF la size,HfL y1],An [y2=uF pa size,HfL y2],An [y5,y5,Tt],An [Sm [i6 ↑s],Tt,Tt],An [[V.bool (Qao none)]=[V.bool false],Tt,Tt],An [An [Zz,Zz,Zz,Zz,Tt],Tt],Tt],Sat Pg none 0 (at' 88 [1,1,1,1,1,0,1,0,0,1,1,0,0,1,1,1,1,0]) (mkSt g0 75 (vSx cards cs F size lim cards.length s B la pa (0,q,0,none))) (Qaf g0 75 [(True,Ex.exit 2,vSx cards cs F size lim cards.length s B la pa (cards.length,q2,0,b2))]),(True→An [wr .i64 (z9+(1:Int))=z8,An [z5=z5,Zz,Zz,Zz,Zz,z0=z0,Zz,Zz,z0=z0,z8=z8,Tt],An [z1=z1,TT 2],y6,An [z2=z2,TT 2],y7,An [z7=z7,HfL z7],An [Sm (entM q2 0),HfE (entM q2 0),Zz],An [An [Sm cards.length,y0=y0],An [Sm cs.length,z6=z6],y5,TT 2],An [Zz,Tt],An [z3=z3,HfL z3],An [z4=z4,HfL z4],An [y5,y5,Tt],Tt]),Tt])=_) ?_
    (repeat'(first|(with_reducible apply And.intro)|(refine fun(_:True)=>?_)))
    all_goals first|exact l|(with_reducible exact zB)|(with_reducible exact zB.symm)|(with_reducible exact zL)|(with_reducible exact zL.symm)|(with_reducible exact zP)|(with_reducible exact zP.symm)|exact hc|exact hg|exact aq|exact hla _|exact hpa _|exact hBB _|exact hEE _ _|exact hSS _ _|rfl|skip
   |succ k2=>
    skip
    refine .inl ⟨(s+1,q2,(k2+1),sB s b2 B,sL s b2 la,sP s b2 pa),[0,1,2,3,4,5,6,7,8,9,10,14],[yes 41,(0,.loop [0,1,2,3,4,5,6,7,8,9,10,11,12,13] (vSx cards cs F size lim cards.length s B la pa (0,q,0,none)) [(True,.exit 2,vSx cards cs F size lim cards.length s B la pa (cards.length,q2,(k2+1),b2))]),nu 72 ((s+1:Nat):Int)],1000,⟨hlt,eA2,eB2,eL2,eP2⟩,by dsimp only;omega,?_⟩
    refine Eq.mp (by kernel_rfl:(let y7:=An [Zz,Sm size,Sm (size-size)];let y8:=An [Sm [V.nilp],Tt,Tt];let y9:=An [Sm [i6 0],Tt,Tt];let z0:=(↑size:Int);let z1:=[sl cards,gC cs];let z2:=[V.nils,V.nils];let z3:=bF (scF F q2) (k2+1);let z4:=nF (sL s b2 la) size;let z5:=uF (sP s b2 pa) size;let z6:=(↑lim:Int);let z7:=List.map sl cs;let z8:=bF (sB s b2 B) size;let z9:=(↑(s+1):Int);let y0:=(↑s:Int);let y1:=entM q2 (k2+1);let y2:=ints cards;let y3:=nF (sL s none la) size;let y4:=uF (sP s none pa) size;let y5:=(↑cards.length:Int);let y6:=bF (sB s none B) size;An [decide (y0<z0)=true,An [An [z6=z6,Zz,Zz,Zz,Zz,z0=z0,Zz,Zz,Zz,Zz,Zz,z0=z0,y0=y0,y5=y5,(↑(0:Nat):Int)=(0:Int),Tt],An [z1=z1,TT 2],y8,An [z2=z2,TT 2],y9,An [y6=bF B size,HfL y6],An [Sm (entM q 0),HfE (entM q 0),Zz],An [An [Sm cards.length,y2=y2],An [Sm cs.length,z7=z7],y7,TT 2],An [Zz,Tt],An [y3=nF la size,HfL y3],An [y4=uF pa size,HfL y4],An [y7,y7,Tt],An [Sm [i6 ↑s],Tt,Tt],An [[V.bool (Qao none)]=[V.bool false],Tt,Tt],An [An [Zz,Zz,Zz,Zz,Tt],Tt],Tt],Sat Pg none 0 (at' 88 [1,1,1,1,1,0,1,0,0,1,1,0,0,1,1,1,1,0]) (mkSt g0 75 (vSx cards cs F size lim cards.length s B la pa (0,q,0,none))) (Qaf g0 75 [(True,Ex.exit 2,vSx cards cs F size lim cards.length s B la pa (cards.length,q2,k2+1,b2))]),(True→An [wr .i64 (y0+(1:Int))=z9,An [z6=z6,Zz,Zz,Zz,Zz,z0=z0,Zz,Zz,z0=z0,z9=z9,Tt],An [z1=z1,TT 2],y8,An [z2=z2,TT 2],y9,An [z8=z8,HfL z8],An [y1=y1,HfE y1,Sm (k2+1)],An [An [Sm cards.length,y2=y2],An [Sm cs.length,z7=z7],y7,Tt,An [Zz,Sm (k2+1),Tt],Tt],An [Zz,Tt],An [z4=z4,HfL z4],An [z5=z5,HfL z5],An [y7,y7,Tt],An [z3=z3,HfL z3],Tt]),Tt])=_) ?_
    (repeat'(first|(with_reducible apply And.intro)|(refine fun(_:True)=>?_)))
    all_goals first|exact l|(with_reducible exact zB)|(with_reducible exact zB.symm)|(with_reducible exact zL)|(with_reducible exact zL.symm)|(with_reducible exact zP)|(with_reducible exact zP.symm)|exact hc|exact hg|exact aq|exact hla _|exact hpa _|exact hBB _|exact hEE _ _|exact hSS _ _|rfl|skip
  | succ k =>
   cases k2 with
   |zero=>exact absurd hmono (by omega)
   |succ k2=>
    skip
    refine .inl ⟨(s+1,q2,(k2+1),sB s b2 B,sL s b2 la,sP s b2 pa),[0,1,2,3,4,5,6,7,8,9,10,14],[yes 41,(0,.loop [0,1,2,3,4,5,6,7,8,9,10,12,13,14,11] (vSx cards cs F size lim cards.length s B la pa (0,q,(k+1),none)) [(True,.exit 2,vSx cards cs F size lim cards.length s B la pa (cards.length,q2,(k2+1),b2))]),nu 72 ((s+1:Nat):Int)],1000,⟨hlt,eA2,eB2,eL2,eP2⟩,by dsimp only;omega,?_⟩
    refine Eq.mp (by kernel_rfl:(let y9:=An [Zz,Sm size,Sm (size-size)];let x0:=An [Sm [V.nilp],Tt,Tt];let x1:=An [Sm [i6 0],Tt,Tt];let z0:=(↑size:Int);let z1:=[sl cards,gC cs];let z2:=[V.nils,V.nils];let z3:=bF (scF F q2) (k2+1);let z4:=bF (scF F q) (k+1);let z5:=nF (sL s b2 la) size;let z6:=uF (sP s b2 pa) size;let z7:=(↑lim:Int);let z8:=List.map sl cs;let z9:=bF (sB s b2 B) size;let y0:=(↑(s+1):Int);let y1:=(↑s:Int);let y2:=entM q2 (k2+1);let y3:=entM q (k+1);let y4:=ints cards;let y5:=nF (sL s none la) size;let y6:=uF (sP s none pa) size;let y7:=(↑cards.length:Int);let y8:=bF (sB s none B) size;An [decide (y1<z0)=true,An [An [z7=z7,Zz,Zz,Zz,Zz,z0=z0,Zz,Zz,Zz,Zz,Zz,z0=z0,y1=y1,y7=y7,(↑(0:Nat):Int)=(0:Int),Tt],An [z1=z1,TT 2],x0,An [z2=z2,TT 2],x1,An [y8=bF B size,HfL y8],An [y3=y3,HfE y3,Sm (k+1)],An [An [Sm cards.length,y4=y4],An [Sm cs.length,z8=z8],y9,Tt,An [Zz,Sm (k+1),Tt],Tt],An [Zz,Tt],An [y5=nF la size,HfL y5],An [y6=uF pa size,HfL y6],An [y9,y9,Tt],An [Sm [i6 ↑s],Tt,Tt],An [[V.bool (Qao none)]=[V.bool false],Tt,Tt],An [An [Zz,Zz,Zz,Zz,Tt],Tt],An [z4=z4,HfL z4],Tt],Sat Pg none 0 (at' 88 [1,1,1,1,1,0,1,0,0,1,1,0,0,1,1,1,1,0]) (mkSt g0 75 (vSx cards cs F size lim cards.length s B la pa (0,q,k+1,none))) (Qaf g0 75 [(True,Ex.exit 2,vSx cards cs F size lim cards.length s B la pa (cards.length,q2,k2+1,b2))]),(True→An [wr .i64 (y1+(1:Int))=y0,An [z7=z7,Zz,Zz,Zz,Zz,z0=z0,Zz,Zz,z0=z0,y0=y0,Tt],An [z1=z1,TT 2],x0,An [z2=z2,TT 2],x1,An [z9=z9,HfL z9],An [y2=y2,HfE y2,Sm (k2+1)],An [An [Sm cards.length,y4=y4],An [Sm cs.length,z8=z8],y9,Tt,An [Zz,Sm (k2+1),Tt],Tt],An [Zz,Tt],An [z5=z5,HfL z5],An [z6=z6,HfL z6],An [y9,y9,Tt],An [z3=z3,HfL z3],Tt]),Tt])=_) ?_
    (repeat'(first|(with_reducible apply And.intro)|(refine fun(_:True)=>?_)))
    all_goals first|exact l|(with_reducible exact zB)|(with_reducible exact zB.symm)|(with_reducible exact zL)|(with_reducible exact zL.symm)|(with_reducible exact zP)|(with_reducible exact zP.symm)|exact hc|exact hg|exact aq|exact hla _|exact hpa _|exact hBB _|exact hEE _ _|exact hSS _ _|rfl|skip
 ·have he : s = size := by omega
  subst he
  rw[eA]at hA
  rw[eB]at hB1
  rw[eL]at hla1
  rw[eP]at hpa1
  obtain⟨rfl,rfl⟩:=Prod.mk.inj hA
  subst hB1 hla1 hpa1
  clear h hA eA eB eL eP
  cases k with
  |zero=>
   skip
   refine .inr ⟨.exit 0,[0,1,2,3,4,5,6,7,8,9,10],_,[no 41],1000,.inl ⟨trivial,rfl,rfl⟩,?_⟩
   refine Eq.mp (by kernel_rfl:(let z0:=(↑s:Int);An [decide (z0<z0)=false,An [Sm (↑lim:Int),Zz,Zz,Zz,Zz,z0=z0,Zz,Zz,z0=z0,z0=z0,Tt],An [Sm [sl cards,gC cs],TT 2],An [Sm [V.nilp],Tt,Tt],An [Sm [V.nils,V.nils],TT 2],An [Sm [i6 0],Tt,Tt],An [Sm (bF B s),HfL (bF B s)],An [Sm (entM q 0),HfE (entM q 0),Zz],An [An [Sm cards.length,Sm (ints cards)],An [Sm cs.length,Sm (List.map sl cs)],An [Zz,s=s,Sm (s-s)],TT 2],An [Zz,Tt],An [Sm (nF la s),HfL (nF la s)],An [Sm (uF pa s),HfL (uF pa s)],An [An [Zz,s=s,Sm (s-s)],An [Zz,s=s,Sm (s-s)],Tt],Tt])=_) ?_
   (repeat'(first|(with_reducible apply And.intro)|(refine fun(_:True)=>?_)))
   all_goals first|exact hc|exact hg|exact aq|exact hla _|exact hpa _|exact hBB _|exact hEE _ _|exact hSS _ _|rfl|skip
  |succ k=>
   skip
   refine .inr ⟨.exit 0,[0,1,2,3,4,5,6,7,8,9,10,11],_,[no 41],1000,.inl ⟨trivial,rfl,rfl⟩,?_⟩
   refine Eq.mp (by kernel_rfl:(let z0:=(↑s:Int);let z1:=bF (scF F q) (k+1);let z2:=entM q (k+1);An [decide (z0<z0)=false,An [Sm (↑lim:Int),Zz,Zz,Zz,Zz,z0=z0,Zz,Zz,z0=z0,z0=z0,Tt],An [Sm [sl cards,gC cs],TT 2],An [Sm [V.nilp],Tt,Tt],An [Sm [V.nils,V.nils],TT 2],An [Sm [i6 0],Tt,Tt],An [Sm (bF B s),HfL (bF B s)],An [z2=z2,HfE z2,Sm (k+1)],An [An [Sm cards.length,Sm (ints cards)],An [Sm cs.length,Sm (List.map sl cs)],An [Zz,s=s,Sm (s-s)],Tt,An [Zz,Sm (k+1),Tt],Tt],An [Zz,Tt],An [Sm (nF la s),HfL (nF la s)],An [Sm (uF pa s),HfL (uF pa s)],An [An [Zz,s=s,Sm (s-s)],An [Zz,s=s,Sm (s-s)],Tt],An [z1=z1,HfL z1],Tt])=_) ?_
   (repeat'(first|(with_reducible apply And.intro)|(refine fun(_:True)=>?_)))
   all_goals first|exact hc|exact hg|exact aq|exact hla _|exact hpa _|exact hBB _|exact hEE _ _|exact hSS _ _|rfl|skip
set_option maxHeartbeats 4000000
set_option maxRecDepth 100000
theorem Qrd(cards:List Int)(cs:List (List Int))(lim:Int)(hl1:cards.length≤1000)(hl2:cs.length≤1000)(e:Int)(he:Qdw cards cs lim=e)(h0:e≠0):FnOk Pg g0 88 [gV cards cs,i6 lim] (.tup [.nilp,.agg [.nils,.nils],i6 e]):=by
 have hd:=Qlo cards cs lim hl1 hl2
 rw[he]at hd
 have hg:=Qar cs
 have hc:=Qae cards
 refine FnOk.of_vc vE_ok mixed Qab (n:=1000) (r:=[1,2,3]) (S:={sl:=[(4,.ptr 0 0),(5,.ptr 1 0),(6,.ptr 2 0)],os:=[.row 153 none [.nilp],.row 77 none [.nils,.nils],.row 36 none [i6 e]]}) (hs:=[fn 19 (i6 e),yes 21]) ?_
 refine Eq.mp (by kernel_rfl:(An [Sm (V.tup [V.nilp,V.agg [V.nils,V.nils],i6 e]),An [TT 2,Tt,Tt],FnOk Pg g0 108 [V.agg [V.im cards.length (ints cards),V.im cs.length (List.map sl cs)],i6 lim] (i6 e),Tt,(e != (0:Int))=true,An [Zz,Zz,Zz,Tt],An [Sm [V.nilp],Tt,Tt],An [Sm [V.nils,V.nils],TT 2],An [Sm [i6 e],Tt,Tt],Tt])=_) ?_
 (repeat'(first|(with_reducible apply And.intro)|(refine fun(_:True)=>?_)))
 all_goals first|exact hd|exact hg|exact hc|exact aq|rfl|skip
section
variable (cards:List Int) (cs:List (List Int)) (F:Nat→Nat→Nat→Int) (size:Nat) (q:Nat→Nat×Nat) (B:Nat→Nat→Int) (la pa:Nat→Nat) (k:Nat)
abbrev cbO:List O:=[.row 41 none (bF B size),.map (entM q (k+1)) (k+1),.row 158 none (toC cards cs size 0 1 5 (k+1)),.row 3 none (nF la size),.row 28 none (uF pa size),scO F q k]
abbrev cbL:V:=.agg [.sl 3 0 size (some (size-size)),.sl 4 0 size (some (size-size))]
abbrev cbV:V:=.tup [.ptr 2 0,cbL size,i6 0]
end
theorem cb_sc(cards:List Int)(cs:List (List Int))(F:Nat→Nat→Nat→Int)(size:Nat)(q:Nat→Nat×Nat)(B:Nat→Nat→Int)(la pa:Nat→Nat)(k:Nat): ∀o∈cbO cards cs F size q B la pa k,ScO (fun i=>i<6) o:=by
 intro o ho
 simp only[List.mem_cons,List.not_mem_nil,or_false]at ho
 rcases ho with rfl|rfl|rfl|rfl|rfl|rfl
 ·exact HfL.sc _ (Qaa _ _)
 ·exact HfE.sc _ (Qac _ _)
 ·exact⟨trivial,trivial,(show 0<6 by decide),(show 1<6 by decide),(show 5<6 by decide),trivial⟩
 ·exact HfL.sc _ (Qah _ _)
 ·exact HfL.sc _ (Qag _ _)
 ·exact HfL.sc _ (Qaa _ _)
theorem pow_len{n:Nat}(h:n≤5): ∀(G:Ctx)(t:Nat),binV G .shl t (i6 1) (i6 (n:Int))=some (i6 ((2^n:Nat):Int)):=fun G t=>Qlp (by omega)
theorem rep_bF(n:Nat):rep n (arF Qaj)=bF (fun _=>Qaj) n:=Qgr n
theorem rep_nF0(n:Nat):rep n [i6 0]=nF (fun _=>0) n:=Qgr n
theorem Qto(n:Nat):rep n [u6 0]=uF (fun _=>0) n:=Qgr n
theorem Qjk{cards:List Int}{cs:List (List Int)}{lim:Int}(h:Qdw cards cs lim=0):goodE cards cs=0∧1≤cards.length∧cards.length≤5∧0≤lim∧lim≤4∧cs.length≤40∧(∀c∈cs,c.length=cards.length):=by
 unfold Qdw at h
 by_cases hg:goodE cards cs=0
 ·rw [if_pos hg] at h
  have h2: ¬(5<cards.length∨lim<0∨4<lim):=fun hh=>by rw[if_pos hh]at h;cases h
  have hok:okAll cards cs=true:=by
   unfold goodE at hg
   cases hh:okAll cards cs with
   |true=>rfl
   |false=>rw[hh]at hg;simp at hg
  have hb:decide (1≤cards.length)=true∧decide (cards.length≤6)=true∧decide (cs.length≤40)=true∧okCs cards=true∧decide (prodT cards cards.length≤1024)=true∧cs.all (okRow cards)=true:=by
   unfold okAll at hok
   simpa [Bool.and_eq_true]using hok
  refine⟨hg,of_decide_eq_true hb.1,by omega,by omega,by omega,of_decide_eq_true hb.2.2.1,fun c hcm=>?_⟩
  have:=List.all_eq_true.1 hb.2.2.2.2.2 c hcm
  unfold okRow at this
  rw[Bool.and_eq_true]at this
  exact of_decide_eq_true this.1
 ·rw [if_neg hg] at h
  exact absurd h hg
theorem Qio(cards:List Int)(cs:List (List Int))(lim:Nat)(he:Qdw cards cs (lim:Int)=0):
  ∃(q:Nat→Nat×Nat)(k:Nat),k≤100000∧CallSpec Pg g0 (.fn 88 []) [gV cards cs,i6 (lim:Int)] (ofOs .e 0 []) 0 ⟨cbV (2^cards.length),ofOs .e 0 (cbO cards cs (fF cards cs) (2^cards.length) q (tabB cards.length lim (fF cards cs) (2^cards.length)) (laT cards.length lim (fF cards cs) (2^cards.length)) (paT cards.length lim (fF cards cs) (2^cards.length)) k),6,[]⟩:=by
 obtain⟨hg0,hn1,hn5,_,_,hl2,hcl⟩:=Qjk he
 have hd:=Qlo cards cs (lim:Int) (by omega) (by omega)
 rw[he]at hd
 have hg:=Qar cs
 have hc:=Qae cards
 have hp2:=pow_len hn5
 have h32:=Qas hn5
 have hk0:=Qno cards.length lim hn1 (2^cards.length) (Nat.le_trans (by decide) (Nat.pow_le_pow_right (show 0<2 by decide) hn1))
 have hpos:1≤2^cards.length:=Nat.pow_pos (by decide)
 have hkb:=Ql4 cards.length lim hn5 (2^cards.length) h32
 generalize hA:allA cards.length lim (2^cards.length)=z at hk0 hkb
 obtain⟨q1,k1⟩:=z
 cases k1 with
 |zero=>exact absurd (show 1≤0 from hk0) (by decide)
 | succ k =>
  have hkb':k≤100000:=by dsimp only at hkb;omega
  have l:=Qtt cards cs hl2 (fun c h=>by rw[hcl c h];omega) hg0 hn1 hn5 lim (fF cards cs) rfl cards.length rfl (2^cards.length) rfl q1 (k+1) hA _ rfl _ rfl _ rfl
  generalize tabB cards.length lim (fF cards cs) (2^cards.length)=B at*
  generalize laT cards.length lim (fF cards cs) (2^cards.length)=la at*
  generalize paT cards.length lim (fF cards cs) (2^cards.length)=pa at*
  generalize fF cards cs=F at*
  generalize 2^cards.length=size at*
  refine⟨q1,k,hkb',CallSpec.dropL (os1:=cbO cards cs F size q1 B la pa k) [.row 153 none [.ptr 2 0],.row 77 none [.sl 3 0 size (some (size-size)),.sl 4 0 size (some (size-size))],.row 36 none [i6 0]] ?_ (Nat.zero_le _) ⟨(show 2<6 by decide),⟨(show 3<6 by decide),(show 4<6 by decide),trivial⟩,trivial,trivial⟩ (cb_sc cards cs F size q1 B la pa k) (fun i hi _=>absurd hi (Nat.not_lt_zero _))⟩
  have hB:=Qaa B size
  have hla:=Qah la size
  have hpa:=Qag pa size
  have hE:=Qac q1 (k+1)
  have hS:=Qaa (scF F q1) (k+1)
  have hr1:=rep_bF size
  have hr2:=rep_nF0 size
  have hr3:=Qto size
  have hB0:=Qaa (fun _=>Qaj) size
  have hla0:=Qah (fun _=>0) size
  have hpa0:=Qag (fun _=>0) size
  clear hA he
  refine CallSpec.of_vcH (P:=Pg) (E:=vE) vE_ok mixed Qab (n:=1000) (f:=88) (os0:=[]) (ars:=[gV cards cs,i6 (lim:Int)]) (r:=[4,5,6,8,9,11,1,2,3])
   (S:={sl:=[(4,.ptr 6 0),(5,.ptr 7 0),(6,.ptr 8 0)],os:=cbO cards cs F size q1 B la pa k++[.row 153 none [.ptr 2 0],.row 77 none [.sl 3 0 size (some (size-size)),.sl 4 0 size (some (size-size))],.row 36 none [i6 0]],md:=[0,0,1,0,0,0,1,1]}) (v:=cbV size) (hs:=[fn 19 (i6 0),no 21,va 27 (i6 (size:Nat)),mk 30,mk 35,mk 37,(0,.loop [0,1,2,3,4,5,6,7,8,9,10] (sSx cards cs F size lim (0,(fun _=>(0,0)),0,(fun _=>Qaj),(fun _=>0),(fun _=>0))) [(True,.exit 0,sSx cards cs F size lim (size,q1,k+1,B,la,pa))])]) (gl:=g0) (by simp) (fun i hi hno=>absurd hi (Nat.not_lt_zero _)) ?_
  refine Eq.mp (by kernel_rfl:(let z9:=An [Zz,Sm size,Sm (size-size)];let y0:=An [Sm [i6 0],Tt,Tt];let z0:=(↑size:Int);let z1:=List.map sl cs;let z2:=(9223372036854775807:Int);let z3:=(281474976710656:Int);let z4:=bF (scF F q1) (k+1);let z5:=(0:Int);let z6:=ints cards;let z7:=entM q1 (k+1);let z8:=some (size-size);An [V.tup [V.ptr 2 0,V.agg [V.sl 3 0 size z8,V.sl 4 0 size z8],i6 0]=cbV size,An [TT 2,Tt,Tt],FnOk Pg g0 108 [V.agg [V.im cards.length z6,V.im cs.length z1],i6 ↑lim] (i6 0),Tt,(z5 != z5)=false,binV (Qad Pg) .shl 3 (i6 1) (i6 ↑cards.length)=some (i6 ↑size),An [z5≤z0,z0≤z0,(↑(144:Nat):Int)*z0≤z3,z0≤z2],An [z5≤z0,z0≤z0,(↑(8:Nat):Int)*z0≤z3,z0≤z2],An [z5≤z0,z0≤z0,(↑(8:Nat):Int)*z0≤z3,z0≤z2],An [An [Sm (↑lim:Int),Zz,Zz,Zz,Zz,z0=z0,Zz,Zz,z0=z0,(↑(0:Nat):Int)=z5,Tt],An [Sm [sl cards,gC cs],TT 2],An [Sm [V.nilp],Tt,Tt],An [Sm [V.nils,V.nils],TT 2],y0,An [bF (fun x=>Qaj) size=rep size [i6 0,i6 0,i6 0,i6 0,i6 0,i6 0,i6 0,i6 0,i6 0,i6 0,i6 0,i6 0,i6 0,i6 0,i6 0,i6 0,i6 0,i6 0],HfL (bF (fun x=>Qaj) size)],An [entM (fun x=>(0,0)) 0=[],HfE (entM (fun x=>(0,0)) 0),Zz],An [An [Sm cards.length,z6=z6],An [Sm cs.length,z1=z1],z9,TT 2],An [Zz,Tt],An [nF (fun x=>0) size=rep size [i6 0],HfL (nF (fun x=>0) size)],An [uF (fun x=>0) size=rep size [u6 0],HfL (uF (fun x=>0) size)],An [z9,z9,Tt],Tt],Sat Pg none 0 (at' 88 [1,1,1,1,1,0,1,0]) (mkSt g0 75 (sSx cards cs F size lim (0,fun x=>(0,0),0,fun x=>Qaj,fun x=>0,fun x=>0))) (Qaf g0 75 [(True,Ex.exit 0,sSx cards cs F size lim (size,q1,k+1,B,la,pa))]),(True→An [An [Zz,Zz,Zz,Tt],An [Sm (bF B size),HfL (bF B size)],An [z7=z7,HfE z7,Sm (k+1)],An [An [Sm cards.length,z6=z6],An [Sm cs.length,z1=z1],z9,Tt,An [Zz,Sm (k+1),Tt],Tt],An [Sm (nF la size),HfL (nF la size)],An [Sm (uF pa size),HfL (uF pa size)],An [z4=z4,HfL z4],An [Zz,Tt],An [z9,z9,Tt],y0,Tt]),Tt])=_) ?_
  (repeat'(first|(with_reducible apply And.intro)|(refine fun(_:True)=>?_)))
  all_goals first|exact l|exact hd|(with_reducible exact hp2 _ _)|(with_reducible exact hr1)|(with_reducible exact hr2)|(with_reducible exact hr3)|exact hr1.symm|exact hr2.symm|exact hr3.symm|exact Qac _ 0|exact hg|exact hc|exact hB|exact hla|exact hpa|exact hE|exact hS|exact hB0|exact hla0|exact hpa0|exact hp2 _ _|exact aq|rfl|skip
set_option maxHeartbeats 4000000
set_option maxRecDepth 100000
abbrev ldV(size:Nat)(la pa:Nat→Nat):V:=.agg [.im size (nF la size),.im size (uF pa size)]
section
variable (cards:List Int) (cs:List (List Int)) (F:Nat→Nat→Nat→Int) (size:Nat) (q:Nat→Nat×Nat) (B:Nat→Nat→Int) (la pa:Nat→Nat) (k:Nat)
abbrev cbD:List O:=[.row 41 none (bF B size),.map (entM q (k+1)) (k+1),.row 158 none (toC cards cs size 2 3 7 (k+1)),.row 3 none (nF la size),.row 28 none (uF pa size),scO F q k]
abbrev cbW:V:=.tup [.ptr 4 0,.agg [.sl 5 0 size (some (size-size)),.sl 6 0 size (some (size-size))],i6 0]
end
theorem Qka(o:O)(ho:o= .row 41 none (arF Qaj)∨o= .row 77 none [.nils,.nils])(cards:List Int)(cs:List (List Int))(F:Nat→Nat→Nat→Int)(size:Nat)(q:Nat→Nat×Nat)(B:Nat→Nat→Int)(la pa:Nat→Nat)(k lim:Nat)
  (h:CallSpec Pg g0 (.fn 88 []) [gV cards cs,i6 (lim:Int)] (ofOs .e 0 []) 0 ⟨cbV size,ofOs .e 0 (cbO cards cs F size q B la pa k),6,[]⟩):
  CallSpec Pg g0 (.fn 88 []) [gV cards cs,i6 (lim:Int)] (ofOs .e 0 [gO cards cs,o]) 2 ⟨cbW size,ofOs .e 0 ([gO cards cs,o]++cbD cards cs F size q B la pa k),8,[]⟩:=by
 have hB:=Qaa B size
 have hla:=Qah la size
 have hpa:=Qag pa size
 have hE:=Qac q (k+1)
 have hS:=Qaa (scF F q) (k+1)
 have hg:=Qar cs
 have hc:=Qae cards
 rcases ho with rfl|rfl
 all_goals
  refine CallSpec.frameL (OS:=[gO cards cs,_]) (OS':=[gO cards cs,_]++cbD cards cs F size q B la pa k) [] [(2,0),(3,1),(4,2),(5,3),(6,4),(7,5)] [] [0,0,0,0,1] h (by kernel_rfl) ?_ ?_ ?_ ?_
 ·refine Eq.mp (by kernel_rfl : (An [An [An [Sm cards.length, Sm (ints cards)], An [Sm cs.length, Sm (List.map sl cs)], Tt], Sm (↑lim : Int), Tt]) = _) ?_
  (repeat'(first|(with_reducible apply And.intro)|(refine fun(_:True)=>?_)))
  all_goals first|exact aq|exact hB|exact hS|exact hE|exact hla|exact hpa|exact hg|exact hc|rfl|skip
 ·refine Eq.mp (by kernel_rfl : (Tt) = _) ?_
  (repeat'(first|(with_reducible apply And.intro)|(refine fun(_:True)=>?_)))
  all_goals first|exact aq|exact hB|exact hS|exact hE|exact hla|exact hpa|exact hg|exact hc|rfl|skip
 ·refine Eq.mp (by kernel_rfl : (let z0 := An [Zz, Sm size, Sm (size - size)]; An [Zz, An [z0, z0, Tt], Sm (0 : Int), Tt]) = _) ?_
  (repeat'(first|(with_reducible apply And.intro)|(refine fun(_:True)=>?_)))
  all_goals first|exact aq|exact hB|exact hS|exact hE|exact hla|exact hpa|exact hg|exact hc|rfl|skip
 ·refine Eq.mp (by kernel_rfl : (let z0 := O.row 41 none (arF Qaj); let z1 := gO cards cs; let z2 := bF (scF F q) (k + 1); let z3 := entM q (k + 1); An [[z1, z0][0]? = some z1, [z1, z0][0]? = some z1, [z1, z0][1]? = some z0, [z1, z0][1]? = some z0, Tt, An [Sm (bF B size), HfL (bF B size)], Tt, An [z3 = z3, HfE z3, Sm (k + 1)], Tt, An [An [Sm cards.length, Sm (ints cards)], An [Sm cs.length, Sm (List.map sl cs)], An [Zz, Sm size, Sm (size - size)], Tt, An [Zz, Sm (k + 1), Tt], Tt], Tt, An [Sm (nF la size), HfL (nF la size)], Tt, An [Sm (uF pa size), HfL (uF pa size)], Tt, An [z2 = z2, HfL z2], Tt]) = _) ?_
  (repeat'(first|(with_reducible apply And.intro)|(refine fun(_:True)=>?_)))
  all_goals first|exact aq|exact hB|exact hS|exact hE|exact hla|exact hpa|exact hg|exact hc|rfl|skip
 ·refine Eq.mp (by kernel_rfl : (An [An [An [Sm cards.length, Sm (ints cards)], An [Sm cs.length, Sm (List.map sl cs)], Tt], Sm (↑lim : Int), Tt]) = _) ?_
  (repeat'(first|(with_reducible apply And.intro)|(refine fun(_:True)=>?_)))
  all_goals first|exact aq|exact hB|exact hS|exact hE|exact hla|exact hpa|exact hg|exact hc|rfl|skip
 ·refine Eq.mp (by kernel_rfl : (Tt) = _) ?_
  (repeat'(first|(with_reducible apply And.intro)|(refine fun(_:True)=>?_)))
  all_goals first|exact aq|exact hB|exact hS|exact hE|exact hla|exact hpa|exact hg|exact hc|rfl|skip
 ·refine Eq.mp (by kernel_rfl : (let z0 := An [Zz, Sm size, Sm (size - size)]; An [Zz, An [z0, z0, Tt], Sm (0 : Int), Tt]) = _) ?_
  (repeat'(first|(with_reducible apply And.intro)|(refine fun(_:True)=>?_)))
  all_goals first|exact aq|exact hB|exact hS|exact hE|exact hla|exact hpa|exact hg|exact hc|rfl|skip
 ·refine Eq.mp (by kernel_rfl : (let z0 := O.row 77 none [V.nils, V.nils]; let z1 := gO cards cs; let z2 := bF (scF F q) (k + 1); let z3 := entM q (k + 1); An [[z1, z0][0]? = some z1, [z1, z0][0]? = some z1, [z1, z0][1]? = some z0, [z1, z0][1]? = some z0, Tt, An [Sm (bF B size), HfL (bF B size)], Tt, An [z3 = z3, HfE z3, Sm (k + 1)], Tt, An [An [Sm cards.length, Sm (ints cards)], An [Sm cs.length, Sm (List.map sl cs)], An [Zz, Sm size, Sm (size - size)], Tt, An [Zz, Sm (k + 1), Tt], Tt], Tt, An [Sm (nF la size), HfL (nF la size)], Tt, An [Sm (uF pa size), HfL (uF pa size)], Tt, An [z2 = z2, HfL z2], Tt]) = _) ?_
  (repeat'(first|(with_reducible apply And.intro)|(refine fun(_:True)=>?_)))
  all_goals first|exact aq|exact hB|exact hS|exact hE|exact hla|exact hpa|exact hg|exact hc|rfl|skip
theorem top_bad(cards:List Int)(cs:List (List Int))(lim:Int)(hl1:cards.length≤1000)(hl2:cs.length≤1000)(e:Int)(he:Qdw cards cs lim=e)(h0:e≠0):FnOk Pg g0 41 [gV cards cs,i6 lim] (.tup [ar Qaj,i6 e]):=by
 have hd:=Qrd cards cs lim hl1 hl2 e he h0
 have hg:=Qar cs
 have hc:=Qae cards
 refine FnOk.of_vc vE_ok mixed Qab (n:=1000) (r:=[1]) (S:={sl:=[(4,.ptr 0 0),(5,i6 e)],os:=[.row 41 none (arF Qaj)]}) (hs:=[fn 12 (.tup [.nilp,.agg [.nils,.nils],i6 e]),yes 17]) ?_
 refine Eq.mp (by kernel_rfl:(An [V.tup [V.agg (arF Qaj),i6 e]=V.tup [ar Qaj,i6 e],An [TT 2,Tt,Tt],FnOk Pg g0 88 [V.agg [V.im cards.length (ints cards),V.im cs.length (List.map sl cs)],i6 lim] (V.tup [V.nilp,V.agg [V.nils,V.nils],i6 e]),Tt,(e != (0:Int))=true,An [Zz,e=e,Tt],An [arF Qaj=[i6 0,i6 0,i6 0,i6 0,i6 0,i6 0,i6 0,i6 0,i6 0,i6 0,i6 0,i6 0,i6 0,i6 0,i6 0,i6 0,i6 0,i6 0],TT 18],Tt])=_) ?_
 (repeat'(first|(with_reducible apply And.intro)|(refine fun(_:True)=>?_)))
 all_goals first|exact hd|exact hg|exact hc|exact aq|rfl|skip
theorem Quc(cards:List Int)(cs:List (List Int))(lim:Nat)(he:Qdw cards cs (lim:Int)=0):FnOk Pg g0 41 [gV cards cs,i6 (lim:Int)] (.tup [ar (topB cards.length lim (fF cards cs) (2^cards.length-1)),i6 0]):=by
 obtain⟨hg0,hn1,hn5,_,_,hl2,hcl⟩:=Qjk he
 obtain⟨q,k,_,h⟩:=Qio cards cs lim he
 have hpos:1≤2^cards.length:=Nat.pow_pos (by decide)
 have h32:=Qas hn5
 have e1:=Qcm (n:=cards.length) (lim:=lim) (F:=fF cards cs) (2^cards.length) (2^cards.length-1)
 rw[if_pos (by omega)]at e1
 rw[←e1]
 clear e1
 generalize tabB cards.length lim (fF cards cs) (2^cards.length)=B at*
 generalize laT cards.length lim (fF cards cs) (2^cards.length)=la at*
 generalize paT cards.length lim (fF cards cs) (2^cards.length)=pa at*
 generalize fF cards cs=F at*
 generalize 2^cards.length=size at*
 have hcall:=Qka (.row 41 none (arF Qaj)) (.inl rfl) cards cs F size q B la pa k lim h
 have hB:=Qaa B size
 have hla:=Qah la size
 have hpa:=Qag pa size
 have hE:=Qac q (k+1)
 have hS:=Qaa (scF F q) (k+1)
 have hg:=Qar cs
 have hc:=Qae cards
 have htk:=@Qa3 B size (size-1) (by omega)
 generalize hj:size-1=j at*
 have hjs:((size:Int)-1)=(j:Int):=by omega
 clear h he
 refine FnOk.of_vc vE_ok mixed Qab (n:=1000) (r:=[1]) (S:={sl:=[(4,.ptr 0 0),(5,i6 0)],os:=[.row 41 none (arF (B j))]}) (hs:=[(12,.call ⟨cbW size,ofOs .e 0 ([gO cards cs,.row 41 none (arF Qaj)]++cbD cards cs F size q B la pa k),8,[]⟩),no 17,nu 29 (j:Nat),pl 30,ld 31 (ar (B j))]) ?_
 refine Eq.mp (by kernel_rfl:(let z0:=(0:Int);let z1:=arF (B j);let z2:=(↑j:Int);An [V.tup [V.agg z1,i6 0]=V.tup [ar (B j),i6 0],CallSpec Pg g0 (V.fn 88 []) [V.agg [sl cards,gC cs],i6 ↑lim] (pt (pt T.e 0 (O.row 32 none [sl cards,gC cs])) 1 (O.row 41 none [i6 0,i6 0,i6 0,i6 0,i6 0,i6 0,i6 0,i6 0,i6 0,i6 0,i6 0,i6 0,i6 0,i6 0,i6 0,i6 0,i6 0,i6 0])) 2 (CR.mk (cbW size) (ofOs T.e 0 ([gO cards cs,O.row 41 none (arF Qaj)]++cbD cards cs F size q B la pa k)) 8 []),Tt,(z0 != z0)=false,wr .i64 ((↑size:Int)-(1:Int))=z2,An [z0≤z2,z2<(↑size:Int)],takeE 18 (dropF (0+j*18) (bF B size))=some z1,An [Zz,z0=z0,Tt],An [z1=z1,TT 18],Tt])=_) ?_
 (repeat'(first|(with_reducible apply And.intro)|(refine fun(_:True)=>?_)))
 all_goals first|exact hcall|(with_reducible exact htk)|exact hg|exact hc|exact hB|exact hla|exact hpa|exact hE|exact hS|exact aq|rfl|skip
theorem solve_ok(cards:List Int)(cs:List (List Int))(lim:Nat)(he:Qdw cards cs (lim:Int)=0):FnOk Pg g0 39 [gV cards cs,i6 (lim:Int)] (.tup [ldV (2^cards.length) (laT cards.length lim (fF cards cs) (2^cards.length)) (paT cards.length lim (fF cards cs) (2^cards.length)),i6 0]):=by
 obtain⟨q,k,_,h⟩:=Qio cards cs lim he
 generalize tabB cards.length lim (fF cards cs) (2^cards.length)=B at*
 generalize laT cards.length lim (fF cards cs) (2^cards.length)=la at*
 generalize paT cards.length lim (fF cards cs) (2^cards.length)=pa at*
 generalize fF cards cs=F at*
 generalize 2^cards.length=size at*
 have hcall:=Qka (.row 77 none [.nils,.nils]) (.inr rfl) cards cs F size q B la pa k lim h
 have hB:=Qaa B size
 have hla:=Qah la size
 have hpa:=Qag pa size
 have hE:=Qac q (k+1)
 have hS:=Qaa (scF F q) (k+1)
 have hg:=Qar cs
 have hc:=Qae cards
 clear h he
 refine FnOk.of_vc vE_ok mixed Qab (n:=1000) (r:=[1]) (S:={sl:=[(4,.ptr 0 0),(5,i6 0)],os:=[.row 77 none [.im size (nF la size),.im size (uF pa size)]],md:=[1]}) (hs:=[(12,.call ⟨cbW size,ofOs .e 0 ([gO cards cs,.row 77 none [.nils,.nils]]++cbD cards cs F size q B la pa k),8,[]⟩)]) ?_
 refine Eq.mp (by kernel_rfl:(let z0:=O.row 77 none [V.nils,V.nils];let z1:=nF la size;let z2:=uF pa size;An [V.tup [V.agg [V.im size z1,V.im size z2],i6 0]=V.tup [ldV size la pa,i6 0],CallSpec Pg g0 (V.fn 88 []) [V.agg [sl cards,gC cs],i6 ↑lim] (pt (pt T.e 0 (O.row 32 none [sl cards,gC cs])) 1 z0) 2 (CR.mk (cbW size) (ofOs T.e 0 ([gO cards cs,z0]++cbD cards cs F size q B la pa k)) 8 []),Tt,An [Zz,Sm (0:Int),Tt],An [An [Sm size,z1=z1,HfL z1],An [Sm size,z2=z2,HfL z2],Tt],Tt])=_) ?_
 (repeat'(first|(with_reducible apply And.intro)|(refine fun(_:True)=>?_)))
 all_goals first|exact hcall|exact hg|exact hc|exact hB|exact hla|exact hpa|exact hE|exact hS|exact aq|rfl|skip
set_option maxHeartbeats 4000000
set_option maxRecDepth 100000
abbrev lV(L:List Int)(P:List Nat):V:=.agg [sl L,ul P]
abbrev lO(L:List Int)(P:List Nat):O:=.row 77 none [sl L,ul P]
def isW(L:List Int)(P:List Nat)(w:Nat):Bool:=decide (L.length=2^w)&&decide (P.length=2^w)
def wdt(L:List Int)(P:List Nat):Nat:=match[1,2,3,4,5].find? (isW L P)with
 |some w=>w
 |none=>0
theorem Qcr{L:List Int}{P:List Nat}{w:Nat}:isW L P w=true↔L.length=2^w∧P.length=2^w:=by
 unfold isW;rw[Bool.and_eq_true,decide_eq_true_eq,decide_eq_true_eq]
theorem isW_inj{L:List Int}{P:List Nat}{v w:Nat}(h:isW L P v=true)(k:isW L P w=true):v=w:=by
 have h1:=(Qcr.1 h).1
 have h2:=(Qcr.1 k).1
 rw[h1]at h2
 rcases Nat.lt_trichotomy v w with h'|h'|h'
 ·have:=Nat.pow_lt_pow_right (show 1<2 by decide) h';omega
 ·exact h'
 ·have:=Nat.pow_lt_pow_right (show 1<2 by decide) h';omega
theorem Qel(L:List Int)(P:List Nat):wdt L P≤5∧(1≤wdt L P→isW L P (wdt L P)=true)∧(∀j,1≤j→j≤5→isW L P j=true→wdt L P=j):=by
 unfold wdt
 cases hf:[1,2,3,4,5].find? (isW L P)with
 |none=>
  have:=List.find?_eq_none.1 hf
  refine⟨Nat.zero_le _,fun h=>absurd h (by decide),fun j h1 h5 h=>?_⟩
  exact absurd h (this j (by simp;omega))
 |some w=>
  have h1:=List.find?_some hf
  have h2:=List.mem_of_find?_eq_some hf
  refine⟨by simp at h2;dsimp only;omega,fun _=>h1,fun j _ _ h=>isW_inj h1 h⟩
theorem shl1_i'(k:Nat)(hk:k<16): ∀(G:Ctx)(t:Nat),binV G .shl t (i6 1) (i6 (k:Int))=some (i6 ((2^k:Nat):Int)):=fun G t=>Qlp hk
abbrev vbS(L:List Int)(P:List Nat)(k:Nat):SL:={sl:=[(1,.ptr 0 0),(3,i6 (k:Nat))],os:=[lO L P]}
abbrev i2(n:Int):SL:={sl:=[(2,i6 n)]}
theorem Qfl{a b:Nat}:((a:Int)==(b:Int))=decide (a=b):=by
 by_cases h:a=b
 ·subst h;simp
 ·rw[decide_eq_false h,beq_eq_false_iff_ne];omega
theorem vb_loop(L:List Int)(P:List Nat):Sat Pg none 0 (at' 89 [1,0,1,0]) (mkSt g0 23 (vbS L P 1)) (Qaf g0 23 [(1≤wdt L P,.ret,i2 (wdt L P:Nat)),(wdt L P=0,.exit 0,{sl:=[]})]):=by
 have hu:=Qa8 P
 obtain⟨w5,w1,w0⟩:=Qel L P
 refine Qaz vE_ok mixed Qab (b:=at' 89 [1,0,1,0,0]) (by kernel_rfl) (fun k=>1≤k∧k≤6∧(1≤wdt L P→k≤wdt L P)) (vbS L P) (fun k=>6-k) (fun k hk=>?_) 1 ⟨by decide,by decide,fun h=>h⟩
 obtain⟨h1,h6,hle⟩:=hk
 by_cases h5:k≤5
 ·have hs := shl1_i' k (by omega)
  by_cases a:L.length=2^k
  ·by_cases b : P.length = 2 ^ k
   ·have e := w0 k h1 h5 (Qcr.2 ⟨a, b⟩)
    have ha:((L.length:Int)==((2^k:Nat):Int))=true:=by rw[Qfl,decide_eq_true a]
    have hb:((P.length:Int)==((2^k:Nat):Int))=true:=by rw[Qfl,decide_eq_true b]
    clear w0 w1 hle
    generalize wdt L P=w at*
    subst e
    generalize 2^w=z at*
    refine .inr ⟨.ret,[],i2 (w:Nat),[yes 5,va 12 (i6 (z:Nat)),yes 13,va 19 (i6 (z:Nat)),yes 20],1000,.inl ⟨h1,rfl,rfl⟩,?_⟩
    refine Eq.mp (by kernel_rfl:(let z0:=binV (Qad Pg) .shl 3 (i6 1) (i6 ↑w);let z1:=(↑w:Int);An [decide (z1≤(5:Int))=true,z0=some (i6 ↑z),((↑L.length:Int)==(↑z:Int))=true,z0=some (i6 ↑z),((↑P.length:Int)==(↑z:Int))=true,An [z1=z1,Tt],Tt])=_) ?_
    (repeat'(first|(with_reducible apply And.intro)|(refine fun(_:True)=>?_)))
    all_goals first|(with_reducible exact hs _ _)|(with_reducible exact ha)|(with_reducible exact hb)|exact aq|rfl|skip
   ·have ha : ((L.length : Int) == ((2 ^ k : Nat) : Int)) = true := by rw [Qfl, decide_eq_true a]
    have hb:((P.length:Int)==((2^k:Nat):Int))=false:=by rw[Qfl,decide_eq_false b]
    have hw:wdt L P≠k:=fun e=>b (by have:=(Qcr.1 (w1 (by omega))).2;rw[e]at this;exact this)
    generalize 2^k=z at*
    refine .inl ⟨k+1,[0],[yes 5,va 12 (i6 (z:Nat)),yes 13,va 19 (i6 (z:Nat)),no 20,nu 7 ((k+1:Nat):Int)],1000,⟨by omega,by omega,fun h=>by have:=hle h;omega⟩,by omega,?_⟩
    clear w1 w0 hle hw
    refine Eq.mp (by kernel_rfl:(let z0:=binV (Qad Pg) .shl 3 (i6 1) (i6 ↑k);let z1:=(↑(k+1):Int);An [decide ((↑k:Int)≤(5:Int))=true,z0=some (i6 ↑z),((↑L.length:Int)==(↑z:Int))=true,z0=some (i6 ↑z),((↑P.length:Int)==(↑z:Int))=false,wr .i64 ((↑k:Int)+(1:Int))=z1,An [Zz,z1=z1,Tt],An [Sm [sl L,ul P],TT 2],Tt])=_) ?_
    (repeat'(first|(with_reducible apply And.intro)|(refine fun(_:True)=>?_)))
    all_goals first|(with_reducible exact hs _ _)|(with_reducible exact ha)|(with_reducible exact hb)|exact hu|exact aq|rfl|skip
  ·have ha : ((L.length : Int) == ((2 ^ k : Nat) : Int)) = false := by rw [Qfl, decide_eq_false a]
   have hw:wdt L P≠k:=fun e=>a (by have:=(Qcr.1 (w1 (by omega))).1;rw[e]at this;exact this)
   generalize 2^k=z at*
   refine .inl ⟨k+1,[0],[yes 5,va 12 (i6 (z:Nat)),no 13,nu 7 ((k+1:Nat):Int)],1000,⟨by omega,by omega,fun h=>by have:=hle h;omega⟩,by omega,?_⟩
   clear w1 w0 hle hw
   refine Eq.mp (by kernel_rfl:(An [decide ((↑k:Int)≤(5:Int))=true,binV (Qad Pg) .shl 3 (i6 1) (i6 ↑k)=some (i6 ↑z),((↑L.length:Int)==(↑z:Int))=false,wr .i64 ((↑k:Int)+(1:Int))=(↑(k+1):Int),An [Zz,Sm (↑(k+1):Int),Tt],An [Sm [sl L,ul P],TT 2],Tt])=_) ?_
   (repeat'(first|(with_reducible apply And.intro)|(refine fun(_:True)=>?_)))
   all_goals first|(with_reducible exact hs _ _)|(with_reducible exact ha)|exact hu|exact aq|rfl|skip
 ·have hz : wdt L P = 0 := by
   rcases Nat.eq_zero_or_pos (wdt L P)with h|h
   ·exact h
   ·have:=hle h;omega
  refine .inr ⟨.exit 0,[],{sl:=[]},[no 5],1000,.inr (.inl ⟨hz,rfl,rfl⟩),?_⟩
  clear w1 w0 hle hz
  refine Eq.mp (by kernel_rfl:(An [decide ((↑k:Int)≤(5:Int))=false,Tt,Tt])=_) ?_
  (repeat'(first|(with_reducible apply And.intro)|(refine fun(_:True)=>?_)))
  all_goals first|exact hu|exact aq|rfl|skip
theorem Qbk(L:List Int)(P:List Nat):FnOk Pg g0 89 [lV L P] (i6 (wdt L P:Nat)):=by
 have hl:=vb_loop L P
 have hu:=Qa8 P
 rcases Nat.eq_zero_or_pos (wdt L P)with h|h
 ·have hl := hl.mono (Qb7 (by omega) h)
  rw[h]
  refine FnOk.of_vc vE_ok mixed Qab (n:=1000) (r:=[]) (S:=i2 0) (hs:=[(0,.loop [0] (vbS L P 1) [(True,.exit 0,{sl:=[]})])]) ?_
  refine Eq.mp (by kernel_rfl:(An [i6 0=i6 ↑(0:Nat),An [An [Zz,(↑(1:Nat):Int)=(1:Int),Tt],An [Sm [sl L,ul P],TT 2],Tt],Sat Pg none 0 (at' 89 [1,0,1,0]) (mkSt g0 23 (vbS L P 1)) (Qaf g0 23 [(True,Ex.exit 0,SL.mk [] [] [] [])]),(True→An [An [Sm (0:Int),Tt],Tt]),Tt])=_) ?_
  (repeat'(first|(with_reducible apply And.intro)|(refine fun(_:True)=>?_)))
  all_goals first|exact hl|exact hu|exact aq|rfl|skip
 ·have hl := hl.mono (Qb6 h (by omega))
  generalize wdt L P=w at*
  refine FnOk.of_vc vE_ok mixed Qab (n:=1000) (r:=[]) (S:=i2 (w:Nat)) (hs:=[(0,.loop [0] (vbS L P 1) [(True,.ret,i2 (w:Nat))])]) ?_
  refine Eq.mp (by kernel_rfl:(An [Sm (i6 ↑w),An [An [Zz,(↑(1:Nat):Int)=(1:Int),Tt],An [Sm [sl L,ul P],TT 2],Tt],Sat Pg none 0 (at' 89 [1,0,1,0]) (mkSt g0 23 (vbS L P 1)) (Qaf g0 23 [(True,Ex.ret,i2 (↑w:Int))]),(True→An [An [Sm (↑w:Int),Tt],Tt]),Tt])=_) ?_
  (repeat'(first|(with_reducible apply And.intro)|(refine fun(_:True)=>?_)))
  all_goals first|exact hl|exact hu|exact aq|rfl|skip
def okS(L:List Int)(P:List Nat)(s:Nat):Bool:=decide (0≤L.getD s 0)&&(decide (L.getD s 0<5)&&(s.testBit (L.getD s 0).toNat&&decide (P.getD s 0&&& (s-2^(L.getD s 0).toNat)=P.getD s 0)))
def okLd(L:List Int)(P:List Nat):Bool:=(List.range L.length).all fun s=>decide (s=0)||okS L P s
def ok0(L:List Int)(P:List Nat):Bool:=decide (L.getD 0 0=0)&&decide (P.getD 0 0=0)
def ladB(L:List Int)(P:List Nat):Bool:=decide (1≤wdt L P)&&(ok0 L P&&okLd L P)
theorem sub_iff{p w:Nat}:(∀b,p.testBit b=true→w.testBit b=true)↔p&&& w=p:=by
 constructor
 ·intro h
  apply Nat.eq_of_testBit_eq
  intro b
  rw[Nat.testBit_and]
  cases hb:p.testBit b with
  |false=>rfl
  |true=>rw[h b hb];rfl
 ·intro h b hb
  rw[←h,Nat.testBit_and,Bool.and_eq_true]at hb
  exact hb.2
theorem wr_u{s:Nat}(h:s<32):wr .u64 (s:Int)=s:=Qe3 (by simp[lo]) (by simp[hi];omega)
abbrev ccS(L:List Int)(P:List Nat)(k:Nat):SL:={sl:=[(1,.ptr 0 0),(3,i6 (k:Nat))],os:=[lO L P]}
theorem cc_loop(L:List Int)(P:List Nat)(hP:S64 P)(hlen:P.length=L.length)(h32:L.length≤32):
  Sat Pg none 0 (at' 56 [1,1,1,0,1,0]) (mkSt g0 57 (ccS L P 1)) (Qaf g0 57 [(okLd L P=true,.exit 0,{sl:=[]}),(okLd L P=false,.ret,i2 290)]):=by
 have hu:=Qa8 P
 refine Qaz vE_ok mixed Qab (b:=at' 56 [1,1,1,0,1,0,0]) (by kernel_rfl) (fun k=>1≤k∧∀j,j<k→(decide (j=0)||okS L P j)=true) (ccS L P) (fun k=>L.length-k) (fun k hk=>?_) 1 ⟨Nat.le_refl _,fun j hj=>by rw[show j=0 by omega];rfl⟩
 obtain⟨hk1,hj⟩:=hk
 by_cases hlt:k<L.length
 ·have hld := @Qau L k hlt
  have hlp:=@Qbv P k (by omega)
  have hbad:okS L P k=false→okLd L P=false:=fun h=>Qbc hlt (by rw[h,decide_eq_false (by omega)];rfl)
  have hgood:okS L P k=true→∀j,j<k+1→(decide (j=0)||okS L P j)=true:=fun h j hj1=>by
   rcases Nat.lt_succ_iff_lt_or_eq.1 hj1 with h2|h2
   ·exact hj j h2
   ·subst h2;rw[h,Bool.or_true]
  have hp64:=hP.get k
  unfold okS at hbad hgood
  generalize hp:P.getD k 0=p at*
  generalize hx:L.getD k 0=x at*
  clear hj hp hx
  by_cases h1:x<0
  ·have hb := hbad (by rw [decide_eq_false (by omega)]; rfl)
   refine .inr ⟨.ret,[],i2 290,[yes 24,pl 30,ld 31 (i6 x),yes 33],1000,.inr (.inl ⟨hb,rfl,rfl⟩),?_⟩
   refine Eq.mp (by kernel_rfl:(let z0:=(↑k:Int);An [decide (z0<(↑L.length:Int))=true,An [(0:Int)≤z0,z0<(↑L.length:Int)],headF (List.drop (k*1) (ints L))=some (i6 x),decide (x<(0:Int))=true,An [Sm (290:Int),Tt],Tt])=_) ?_
   (repeat'(first|(with_reducible apply And.intro)|(refine fun(_:True)=>?_)))
   all_goals first|(with_reducible exact hld)|exact hu|exact aq|rfl|skip
  ·by_cases h2 : x < 5
   ·rw [decide_eq_true (show 0 ≤ x by omega), decide_eq_true h2] at hbad hgood
    obtain⟨v,rfl⟩: ∃v:Nat,x=v:=⟨x.toNat,by omega⟩
    simp only[Int.toNat_natCast,Bool.true_and]at hbad hgood
    have hv:v<5:=by omega
    have s1:=fun G t=>@shr_i G t k v (by omega)
    cases hbit:k.testBit v with
    |false=>
     have hb:=hbad (by rw[hbit];rfl)
     have s2:=fun G t=>@Qnp G t k v 0 (by omega) hv (by decide) hbit
     generalize k/2^v=z at*
     refine .inr ⟨.ret,[],i2 290,[yes 24,pl 30,ld 31 (i6 (v:Nat)),no 33,no 36,va 41 (i6 (z:Nat)),va 42 (i6 0),yes 43],1000,.inr (.inl ⟨hb,rfl,rfl⟩),?_⟩
     refine Eq.mp (by kernel_rfl:(let z0:=(0:Int);let z1:=(↑k:Int);An [decide (z1<(↑L.length:Int))=true,An [z0≤z1,z1<(↑L.length:Int)],headF (List.drop (k*1) (ints L))=some (i6 ↑v),decide ((↑v:Int)<z0)=false,decide ((↑v:Int)≥(5:Int))=false,binV (Qad Pg) .shr 3 (i6 ↑k) (i6 ↑v)=some (i6 ↑z),binV (Qad Pg) .and 3 (i6 ↑z) (i6 1)=some (i6 0),(z0==z0)=true,An [Sm (290:Int),Tt],Tt])=_) ?_
     (repeat'(first|(with_reducible apply And.intro)|(refine fun(_:True)=>?_)))
     all_goals first|(with_reducible exact hld)|(with_reducible exact s1 _ _)|(with_reducible exact s2 _ _)|exact hu|exact aq|rfl|skip
    | true =>
     rw[hbit]at hbad hgood
     have s2:=fun G t=>@Qnp G t k v 1 (by omega) hv (by decide) hbit
     have s3:=fun G t=>@shl1_w G t v (by omega)
     have s4:=fun G t=>@andn_u G t k v (by omega) hv hbit
     have hcv:=wr_u (show k<32 by omega)
     obtain⟨z',s5,_,hz⟩:=@Qnr (Qad Pg) 28 p (k-2^v) hp64 (by have:=Nat.sub_le k (2^v);omega)
     rw[sub_iff]at hz
     by_cases h4:z'=0
     ·have hg := hgood (by rw [decide_eq_true (hz.1 h4)]; rfl)
      subst h4
      clear hgood hbad hz
      generalize k-2^v=u at*
      generalize k/2^v=z at*
      generalize 2^v=y at*
      refine .inl ⟨k+1,[0],[yes 24,pl 30,ld 31 (i6 (v:Nat)),no 33,no 36,va 41 (i6 (z:Nat)),va 42 (i6 1),no 43,pl 48,ld 49 (u6 (p:Nat)),nu 51 (k:Int),va 53 (u6 (y:Nat)),va 54 (u6 (u:Nat)),va 55 (u6 ((0:Nat):Int)),no 56,nu 26 ((k+1:Nat):Int)],1000,⟨by omega,hg⟩,by omega,?_⟩
      clear hg
      refine Eq.mp (by kernel_rfl:(let z0:=(↑k:Int);let z1:=Qad Pg;let z2:=(↑(k+1):Int);let z3:=(0:Int);An [decide (z0<(↑L.length:Int))=true,An [z3≤z0,z0<(↑L.length:Int)],headF (List.drop (k*1) (ints L))=some (i6 ↑v),decide ((↑v:Int)<z3)=false,decide ((↑v:Int)≥(5:Int))=false,binV z1 .shr 3 (i6 ↑k) (i6 ↑v)=some (i6 ↑z),binV z1 .and 3 (i6 ↑z) (i6 1)=some (i6 1),((1:Int)==z3)=false,An [z3≤z0,z0<(↑P.length:Int)],headF (List.drop (k*1) (ut P))=some (u6 ↑p),wr .u64 z0=z0,binV z1 .shl 28 (u6 1) (i6 ↑v)=some (u6 ↑y),binV z1 .andNot 28 (u6 ↑k) (u6 ↑y)=some (u6 ↑u),binV z1 .andNot 28 (u6 ↑p) (u6 ↑u)=some (u6 ↑(0:Nat)),((↑(0:Nat):Int) != z3)=false,wr .i64 (z0+(1:Int))=z2,An [Zz,z2=z2,Tt],An [Sm [sl L,ul P],TT 2],Tt])=_) ?_
      (repeat'(first|(with_reducible apply And.intro)|(refine fun(_:True)=>?_)))
      all_goals first|(with_reducible exact hld)|(with_reducible exact hlp)|(with_reducible exact s1 _ _)|(with_reducible exact s2 _ _)|(with_reducible exact s3 _ _)|(with_reducible exact s4 _ _)|(with_reducible exact s5)|(with_reducible exact hcv)|exact hu|exact aq|rfl|skip
     ·have hb := hbad (by rw [decide_eq_false (fun h => h4 (hz.2 h))]; rfl)
      clear hgood hbad hz
      generalize k-2^v=u at*
      generalize k/2^v=z at*
      generalize 2^v=y at*
      refine .inr ⟨.ret,[],i2 290,[yes 24,pl 30,ld 31 (i6 (v:Nat)),no 33,no 36,va 41 (i6 (z:Nat)),va 42 (i6 1),no 43,pl 48,ld 49 (u6 (p:Nat)),nu 51 (k:Int),va 53 (u6 (y:Nat)),va 54 (u6 (u:Nat)),va 55 (u6 (z':Nat)),yes 56],1000,.inr (.inl ⟨hb,rfl,rfl⟩),?_⟩
      refine Eq.mp (by kernel_rfl:(let z0:=(↑k:Int);let z1:=Qad Pg;let z2:=(0:Int);An [decide (z0<(↑L.length:Int))=true,An [z2≤z0,z0<(↑L.length:Int)],headF (List.drop (k*1) (ints L))=some (i6 ↑v),decide ((↑v:Int)<z2)=false,decide ((↑v:Int)≥(5:Int))=false,binV z1 .shr 3 (i6 ↑k) (i6 ↑v)=some (i6 ↑z),binV z1 .and 3 (i6 ↑z) (i6 1)=some (i6 1),((1:Int)==z2)=false,An [z2≤z0,z0<(↑P.length:Int)],headF (List.drop (k*1) (ut P))=some (u6 ↑p),wr .u64 z0=z0,binV z1 .shl 28 (u6 1) (i6 ↑v)=some (u6 ↑y),binV z1 .andNot 28 (u6 ↑k) (u6 ↑y)=some (u6 ↑u),binV z1 .andNot 28 (u6 ↑p) (u6 ↑u)=some (u6 ↑z'),((↑z':Int) != z2)=true,An [Sm (290:Int),Tt],Tt])=_) ?_
      (repeat'(first|(with_reducible apply And.intro)|(refine fun(_:True)=>?_)))
      all_goals first|(with_reducible exact hld)|(with_reducible exact hlp)|(with_reducible exact s1 _ _)|(with_reducible exact s2 _ _)|(with_reducible exact s3 _ _)|(with_reducible exact s4 _ _)|(with_reducible exact s5)|(with_reducible exact hcv)|exact hu|exact aq|rfl|skip
   ·have hb := hbad (by rw [decide_eq_false h2, Bool.false_and, Bool.and_false])
    refine .inr ⟨.ret,[],i2 290,[yes 24,pl 30,ld 31 (i6 x),no 33,yes 36],1000,.inr (.inl ⟨hb,rfl,rfl⟩),?_⟩
    refine Eq.mp (by kernel_rfl:(let z0:=(↑k:Int);An [decide (z0<(↑L.length:Int))=true,An [(0:Int)≤z0,z0<(↑L.length:Int)],headF (List.drop (k*1) (ints L))=some (i6 x),decide (x<(0:Int))=false,decide (x≥(5:Int))=true,An [Sm (290:Int),Tt],Tt])=_) ?_
    (repeat'(first|(with_reducible apply And.intro)|(refine fun(_:True)=>?_)))
    all_goals first|(with_reducible exact hld)|exact hu|exact aq|rfl|skip
 ·have hall : okLd L P = true := all_range.2 fun j hj1 => hj j (by omega)
  refine .inr ⟨.exit 0,[],{sl:=[]},[no 24],1000,.inl ⟨hall,rfl,rfl⟩,?_⟩
  clear hj hall
  refine Eq.mp (by kernel_rfl:(An [decide ((↑k:Int)<(↑L.length:Int))=false,Tt,Tt])=_) ?_
  (repeat'(first|(with_reducible apply And.intro)|(refine fun(_:True)=>?_)))
  all_goals first|exact hu|exact aq|rfl|skip
theorem Qa4(L:List Int)(P:List Nat)(hP:S64 P):FnOk Pg g0 56 [lV L P] (i6 (if ladB L P then 0 else 290)):=by
 have hv:=Qbk L P
 have hu:=Qa8 P
 unfold ladB
 obtain⟨w5,w1,w0⟩:=Qel L P
 rcases Nat.eq_zero_or_pos (wdt L P)with h|h
 ·rw [h] at hv
  rw[h,decide_eq_false (show¬1≤0 by decide),Bool.false_and,if_neg (by decide)]
  clear w1 w0 w5 h
  refine FnOk.of_vc vE_ok mixed Qab (n:=1000) (r:=[]) (S:=i2 290) (hs:=[fn 6 (i6 0),yes 7]) ?_
  refine Eq.mp (by kernel_rfl:(An [Sm (i6 290),An [TT 2,Tt],FnOk Pg g0 89 [V.agg [V.im L.length (ints L),V.im P.length (ut P)]] (i6 0),Tt,((0:Int)==(0:Int))=true,An [Sm (290:Int),Tt],Tt])=_) ?_
  (repeat'(first|(with_reducible apply And.intro)|(refine fun(_:True)=>?_)))
  all_goals first|exact hv|exact hu|exact aq|rfl|skip
 ·obtain ⟨e1, e2⟩ := Qcr.1 (w1 h)
  have hpos:1≤2^wdt L P:=Nat.pow_pos (by decide)
  have h32:=Qas w5
  rw[decide_eq_true (show 1≤wdt L P from h),Bool.true_and]
  have hlen:P.length=L.length:=by omega
  have hl:=cc_loop L P hP hlen (by omega)
  have hld:=@Qau L 0 (by omega)
  have hlp:=@Qbv P 0 (by omega)
  unfold ok0
  clear w1 w0 e2
  generalize wdt L P=w at*
  have hw0:((w:Int)==0)=false:=by rw[beq_eq_false_iff_ne];omega
  have hL0:0<L.length:=by omega
  have hP0:0<P.length:=by omega
  clear e1 hpos h32
  by_cases h1:L.getD 0 0=0
  ·rw [decide_eq_true h1, Bool.true_and]
   rw[h1]at hld
   by_cases h2:P.getD 0 0=0
   ·rw [decide_eq_true h2, Bool.true_and]
    rw[h2]at hlp
    cases hok:okLd L P with
    |true=>
     have hl:=hl.mono (Qb6 hok (by rw[hok];simp))
     rw[if_pos rfl]
     refine FnOk.of_vc vE_ok mixed Qab (n:=1000) (r:=[]) (S:=i2 0) (hs:=[fn 6 (i6 (w:Nat)),no 7,pl 10,ld 11 (i6 0),no 12,pl 16,ld 17 (u6 ((0:Nat):Int)),no 18,(0,.loop [0] (ccS L P 1) [(True,.exit 0,{sl:=[]})])]) ?_
     refine Eq.mp (by kernel_rfl:(let z0:=(0:Int);An [Sm (i6 0),An [TT 2,Tt],FnOk Pg g0 89 [V.agg [V.im L.length (ints L),V.im P.length (ut P)]] (i6 ↑w),Tt,((↑w:Int)==z0)=false,An [z0≤z0,z0<(↑L.length:Int)],headF (List.drop (Int.toNat z0*1) (ints L))=some (i6 0),(z0 != z0)=false,An [z0≤z0,z0<(↑P.length:Int)],headF (List.drop (Int.toNat z0*1) (ut P))=some (u6 ↑(0:Nat)),((↑(0:Nat):Int) != z0)=false,An [An [Zz,(↑(1:Nat):Int)=(1:Int),Tt],An [Sm [sl L,ul P],TT 2],Tt],Sat Pg none 0 (at' 56 [1,1,1,0,1,0]) (mkSt g0 57 (ccS L P 1)) (Qaf g0 57 [(True,Ex.exit 0,SL.mk [] [] [] [])]),(True→An [An [z0=z0,Tt],Tt]),Tt])=_) ?_
     (repeat'(first|(with_reducible apply And.intro)|(refine fun(_:True)=>?_)))
     all_goals first|exact hl|exact hv|(with_reducible exact hld)|(with_reducible exact hlp)|exact hu|exact hw0|exact aq|rfl|skip
    |false=>
     have hl:=hl.mono (Qb7 (by rw[hok];simp) hok)
     rw[if_neg (by decide)]
     refine FnOk.of_vc vE_ok mixed Qab (n:=1000) (r:=[]) (S:=i2 290) (hs:=[fn 6 (i6 (w:Nat)),no 7,pl 10,ld 11 (i6 0),no 12,pl 16,ld 17 (u6 ((0:Nat):Int)),no 18,(0,.loop [0] (ccS L P 1) [(True,.ret,i2 290)])]) ?_
     refine Eq.mp (by kernel_rfl:(let z0:=(0:Int);An [Sm (i6 290),An [TT 2,Tt],FnOk Pg g0 89 [V.agg [V.im L.length (ints L),V.im P.length (ut P)]] (i6 ↑w),Tt,((↑w:Int)==z0)=false,An [z0≤z0,z0<(↑L.length:Int)],headF (List.drop (Int.toNat z0*1) (ints L))=some (i6 0),(z0 != z0)=false,An [z0≤z0,z0<(↑P.length:Int)],headF (List.drop (Int.toNat z0*1) (ut P))=some (u6 ↑(0:Nat)),((↑(0:Nat):Int) != z0)=false,An [An [Zz,(↑(1:Nat):Int)=(1:Int),Tt],An [Sm [sl L,ul P],TT 2],Tt],Sat Pg none 0 (at' 56 [1,1,1,0,1,0]) (mkSt g0 57 (ccS L P 1)) (Qaf g0 57 [(True,Ex.ret,i2 (290:Int))]),(True→An [An [Sm (290:Int),Tt],Tt]),Tt])=_) ?_
     (repeat'(first|(with_reducible apply And.intro)|(refine fun(_:True)=>?_)))
     all_goals first|exact hl|exact hv|(with_reducible exact hld)|(with_reducible exact hlp)|exact hu|exact hw0|exact aq|rfl|skip
   ·rw [decide_eq_false h2, Bool.false_and, if_neg (by decide)]
    generalize P.getD 0 0=p at*
    refine FnOk.of_vc vE_ok mixed Qab (n:=1000) (r:=[]) (S:=i2 290) (hs:=[fn 6 (i6 (w:Nat)),no 7,pl 10,ld 11 (i6 0),no 12,pl 16,ld 17 (u6 (p:Nat)),yes 18]) ?_
    refine Eq.mp (by kernel_rfl:(let z0:=(0:Int);An [Sm (i6 290),An [TT 2,Tt],FnOk Pg g0 89 [V.agg [V.im L.length (ints L),V.im P.length (ut P)]] (i6 ↑w),Tt,((↑w:Int)==z0)=false,An [z0≤z0,z0<(↑L.length:Int)],headF (List.drop (Int.toNat z0*1) (ints L))=some (i6 0),(z0 != z0)=false,An [z0≤z0,z0<(↑P.length:Int)],headF (List.drop (Int.toNat z0*1) (ut P))=some (u6 ↑p),((↑p:Int) != z0)=true,An [Sm (290:Int),Tt],Tt])=_) ?_
    (repeat'(first|(with_reducible apply And.intro)|(refine fun(_:True)=>?_)))
    all_goals first|exact hv|(with_reducible exact hld)|(with_reducible exact hlp)|exact hu|exact hw0|exact aq|rfl|skip
  ·rw [decide_eq_false h1, Bool.false_and, Bool.false_and, if_neg (by decide)]
   generalize L.getD 0 0=x at*
   refine FnOk.of_vc vE_ok mixed Qab (n:=1000) (r:=[]) (S:=i2 290) (hs:=[fn 6 (i6 (w:Nat)),no 7,pl 10,ld 11 (i6 x),yes 12]) ?_
   refine Eq.mp (by kernel_rfl:(let z0:=(0:Int);An [Sm (i6 290),An [TT 2,Tt],FnOk Pg g0 89 [V.agg [V.im L.length (ints L),V.im P.length (ut P)]] (i6 ↑w),Tt,((↑w:Int)==z0)=false,An [z0≤z0,z0<(↑L.length:Int)],headF (List.drop (Int.toNat z0*1) (ints L))=some (i6 x),(x != z0)=true,An [Sm (290:Int),Tt],Tt])=_) ?_
   (repeat'(first|(with_reducible apply And.intro)|(refine fun(_:True)=>?_)))
   all_goals first|exact hv|(with_reducible exact hld)|exact hu|exact hw0|exact aq|rfl|skip
def laL(L:List Int):Nat→Nat:=fun s=>(L.getD s 0).toNat
def paL(P:List Nat):Nat→Nat:=fun s=>P.getD s 0
structure LdOk(L:List Int)(P:List Nat)(w:Nat):Prop where
 w1:1≤w
 w5:w≤5
 lenL:L.length=2^w
 lenP:P.length=2^w
 ok:LadOk w (laL L) (paL P)
 nn: ∀s,0<s→s<2^w→L.getD s 0=(laL L s:Int)
 l0:L.getD 0 0=0
 p0:P.getD 0 0=0
theorem Qf6{L:List Int}{P:List Nat}(h:ladB L P=true):LdOk L P (wdt L P):=by
 unfold ladB at h
 rw[Bool.and_eq_true,Bool.and_eq_true,decide_eq_true_eq]at h
 obtain⟨h1,h2,h3⟩:=h
 unfold ok0 at h2
 rw[Bool.and_eq_true,decide_eq_true_eq,decide_eq_true_eq]at h2
 obtain⟨w5,w1,w0⟩:=Qel L P
 obtain⟨e1,e2⟩:=Qcr.1 (w1 h1)
 have key: ∀s,0<s→s<2^wdt L P→0≤L.getD s 0∧L.getD s 0<5∧s.testBit (L.getD s 0).toNat=true∧P.getD s 0&&& (s-2^(L.getD s 0).toNat)=P.getD s 0:=fun s hs hlt=>by
  have:=all_range.1 h3 s (by omega)
  rw[decide_eq_false (by omega),Bool.false_or]at this
  unfold okS at this
  simpa only[Bool.and_eq_true,decide_eq_true_eq]using this
 refine⟨h1,w5,e1,e2,⟨fun s hs hlt=>?_⟩,fun s hs hlt=>?_,h2.1,h2.2⟩
 ·obtain ⟨a, b, c, d⟩ := key s hs hlt
  exact⟨Qd8 _ w5 s hlt _ (by unfold laL;omega) c,c,d⟩
 ·obtain ⟨a, _⟩ := key s hs hlt
  exact(Int.toNat_of_nonneg a).symm
def gL(L:List Int)(P:List Nat)(w:Nat):Nat→Nat:=ladG (laL L) (paL P) w (2^w-1)
theorem Quh(f:Nat→Nat): ∀n,uF f n=ut ((List.range n).map f)
 |0=>rfl
 |n+1=>by
  show blF _ (n+1)=_
  rw[Qa9,show blF (fun i=>[u6 (f i:Nat)]) n=ut ((List.range n).map f)from Quh f n]
  unfold ut
  rw[List.range_succ,List.map_append,List.map_append];rfl
abbrev gV'(w:Nat)(f:Nat→Nat):V:=.im w (uF f w)
theorem gV_ul(w:Nat)(f:Nat→Nat):gV' w f=ul ((List.range w).map f):=by
 show V.im w (uF f w)=V.im ((List.range w).map f).length _
 rw[Quh];simp
theorem Qeg: ∀w,w≤5→popc (2^w-1)=w:=by decide+kernel
structure DownG(L:List Int)(P:List Nat)(w:Nat)(s:Nat)(g:Nat→Nat):Prop where
 lt:s<2^w
 sub: ∃f,popc s≤f∧∀v,s.testBit v=true→gL L P w v=ladG (laL L) (paL P) f s v
 at_: ∀v,v<w→g v=if s.testBit v then 0 else gL L P w v
theorem DownG.start{L:List Int}{P:List Nat}{w:Nat}(h:LdOk L P w):DownG L P w (2^w-1) (fun _=>0):=by
 have hp:0<2^w:=Nat.pow_pos (by decide)
 refine⟨by omega,⟨w,by rw[Qeg w h.w5];exact Nat.le_refl _,fun v _=>rfl⟩,fun v hv=>?_⟩
 have h5:=h.w5
 rw[Qe7 w h.w5 v (by omega),decide_eq_true hv,if_pos rfl]
theorem DownG.next{L:List Int}{P:List Nat}{w s:Nat}{g:Nat→Nat}(h:LdOk L P w)(d:DownG L P w s g)(hs:0<s):DownG L P w (s-2^laL L s) (fun i=>if i=laL L s then paL P s else g i):=by
 have h32:=Qas h.w5
 have h5:=h.w5
 have hlt:=d.lt
 obtain⟨a1,a2,a3⟩:=h.ok.at_ s hs hlt
 obtain⟨r1,r2,r3⟩:=Qbx s (by omega) _ (by omega) a2
 have hp2:0<2^laL L s:=Nat.pow_pos (by decide)
 obtain⟨f,hf,hsub⟩:=d.sub
 cases f with
 |zero=>rw[r2]at hf;omega
 | succ f =>
  refine⟨by omega,⟨f,by omega,fun v hv=>?_⟩,fun v hv=>?_⟩
  ·have hv5 : v < 5 := by
    rcases Nat.lt_or_ge v 5 with h'|h'
    ·exact h'
    ·rw[Nat.testBit_lt_two_pow (Nat.lt_of_lt_of_le (show s-2^laL L s<2^5 by omega) (Nat.pow_le_pow_right (show 0<2 by decide) h'))]at hv;cases hv
   rw[r3 v hv5]at hv
   simp only[Bool.and_eq_true,Bool.not_eq_true',decide_eq_false_iff_not]at hv
   rw[hsub v hv.1,ladG,if_neg (by omega),if_neg hv.2]
  ·rw [r3 v (by omega)]
   by_cases e:v=laL L s
   ·rw [if_pos e, decide_eq_true e, Bool.not_true, Bool.and_false, if_neg (by decide)]
    subst e
    rw[hsub _ a2,ladG,if_neg (by omega),if_pos rfl]
   ·rw[if_neg e,decide_eq_false e,Bool.not_false,Bool.and_true,d.at_ v hv]
theorem DownG.fin{L:List Int}{P:List Nat}{w:Nat}{g:Nat→Nat}(d:DownG L P w 0 g):uF g w=uF (gL L P w) w:=
 Qbh fun i hi=>by
  have:=d.at_ i hi
  rw[Nat.zero_testBit,if_neg (by decide)]at this
  rw[this]
abbrev grS(L:List Int)(P:List Nat)(w:Nat)(x:Nat×(Nat→Nat)):SL:={sl:=[(1,.ptr 0 0),(5,.sl 1 0 w (some (w-w))),(6,i6 (x.1:Nat))],os:=[lO L P,.row 28 none (uF x.2 w)]}
theorem gr_loop(L:List Int)(P:List Nat)(w:Nat)(h:LdOk L P w):
  Sat Pg none 0 (at' 40 [1,1,1,0,1,0]) (mkSt g0 42 (grS L P w (2^w-1,fun _=>0))) (Qaf g0 42 [(True,.exit 0,{sl:=[(5,gV' w (gL L P w))]})]):=by
 have hu:=Qa8 P
 have hU:=fun g=>Qag g w
 have hlo:=Qae L
 have h32:=Qas h.w5
 have h5:=h.w5
 refine Qaz vE_ok mixed Qab (b:=at' 40 [1,1,1,0,1,0,0]) (by kernel_rfl) (fun x=>DownG L P w x.1 x.2) (grS L P w) (fun x=>x.1) (fun x d=>?_) (2^w-1,fun _=>0) (DownG.start h)
 obtain⟨s,g⟩:=x
 dsimp only at d
 by_cases h0:0<s
 ·have dn := d.next h h0
  have hlt:=d.lt
  obtain⟨a1,a2,a3⟩:=h.ok.at_ s h0 hlt
  have hp2:0<2^laL L s:=Nat.pow_pos (by decide)
  have e1:=h.lenL
  have e2:=h.lenP
  have hld:=@Qau L s (by omega)
  rw[h.nn s h0 hlt]at hld
  have hlp:=@Qbv P s (by omega)
  have y:=@Qcs g w (laL L s) a1 (P.getD s 0)
  have s3:=fun G t=>@Qlp G t (laL L s) (by omega)
  have s4:=fun G t=>@Qq7 G t s (laL L s) (by omega) (by omega) a2
  unfold paL at dn
  clear d
  generalize hv:laL L s=v at*
  generalize hpp:P.getD s 0=p at*
  refine .inl ⟨(s-2^v,fun i=>if i=v then p else g i),[0,1],[yes 20,pl 33,ld 34 (i6 (v:Nat)),pl 38,ld 39 (u6 (p:Nat)),pl 40,st (uF (fun i=>if i=v then p else g i) w),pl 25,ld 26 (i6 (v:Nat)),va 27 (i6 ((2^v:Nat):Int)),va 28 (i6 ((s-2^v:Nat):Int))],1000,dn,by dsimp only;omega,?_⟩
  clear dn hv hpp
  refine Eq.mp (by kernel_rfl:(let z0:=(↑s:Int);let z1:=headF (List.drop (s*1) (ints L));let z2:=(0:Int);let z3:=(↑(s-2^v):Int);An [decide (z0>z2)=true,An [z2≤z0,z0<(↑L.length:Int)],z1=some (i6 ↑v),An [z2≤z0,z0<(↑P.length:Int)],headF (List.drop (s*1) (ut P))=some (u6 ↑p),An [z2≤(↑v:Int),(↑v:Int)<(↑w:Int)],layE (0+v*1) (uF g w) [u6 ↑p]=some (uF (fun i=>if i=v then p else g i) w),An [z2≤z0,z0<(↑L.length:Int)],z1=some (i6 ↑v),binV (Qad Pg) .shl 3 (i6 1) (i6 ↑v)=some (i6 ↑(2^v)),binV (Qad Pg) .andNot 3 (i6 ↑s) (i6 ↑(2^v))=some (i6 ↑(s-2^v)),An [Zz,An [Zz,w=w,Sm (w-w)],z3=z3,Tt],An [Sm [sl L,ul P],TT 2],An [Sm (uF (fun i=>if i=v then p else g i) w),HfL (uF (fun i=>if i=v then p else g i) w)],Tt])=_) ?_
  (repeat'(first|(with_reducible apply And.intro)|(refine fun(_:True)=>?_)))
  all_goals first|(with_reducible exact hld)|(with_reducible exact hlp)|(with_reducible exact y)|(with_reducible exact s3 _ _)|(with_reducible exact s4 _ _)|exact hu|exact hU _|exact hlo|exact aq|rfl|skip
 ·have hs0 : s = 0 := by omega
  subst hs0
  have hf:=d.fin
  refine .inr ⟨.exit 0,[],{sl:=[(5,gV' w (gL L P w))]},[no 20],1000,.inl ⟨trivial,rfl,rfl⟩,?_⟩
  clear d
  refine Eq.mp (by kernel_rfl:(An [decide ((↑(0:Nat):Int)>(0:Int))=false,An [An [w=w,uF (gL L P w) w=uF g w,HfL (uF g w)],Tt],Tt])=_) ?_
  (repeat'(first|(with_reducible apply And.intro)|(refine fun(_:True)=>?_)))
  all_goals first|(with_reducible exact hf)|(with_reducible exact hf.symm)|exact hu|exact hU _|exact hlo|exact aq|rfl|skip
theorem graph_ok(L:List Int)(P:List Nat)(hP:S64 P)(hb:ladB L P=true):FnOk Pg g0 40 [lV L P] (.tup [gV' (wdt L P) (gL L P (wdt L P)),i6 0]):=by
 have hc:=Qa4 L P hP
 rw[hb,if_pos rfl]at hc
 have hu:=Qa8 P
 have h:=Qf6 hb
 have hv:=Qbk L P
 have hl:=gr_loop L P _ h
 have e1:=h.lenL
 have h1:=h.w1
 have h5:=h.w5
 have h32:=Qas h.w5
 have hp:1≤2^wdt L P:=Nat.pow_pos (by decide)
 clear h hb
 generalize wdt L P=w at*
 have hr:=Qto w
 have hU0:=Qag (fun _=>0) w
 have hU1:=Qag (gL L P w) w
 have hnum:(L.length:Int)-1=((2^w-1:Nat):Int):=by omega
 generalize gL L P w=g at*
 generalize hk:2^w-1=k at*
 have hk32:k≤32:=by omega
 clear e1 h32 hp hk
 refine FnOk.of_vc vE_ok mixed Qab (n:=1000) (r:=[]) (S:={sl:=[(2,gV' w g),(3,i6 0)]}) (hs:=[fn 8 (i6 0),no 10,fn 13 (i6 (w:Nat)),mk 14,nu 18 (k:Int),(0,.loop [0,1] (grS L P w (k,fun _=>0)) [(True,.exit 0,{sl:=[(5,gV' w g)]})])]) ?_
 refine Eq.mp (by kernel_rfl:(let z0:=[V.agg [V.im L.length (ints L),V.im P.length (ut P)]];let z1:=(↑w:Int);let z2:=(0:Int);let z3:=(↑k:Int);An [Sm (V.tup [gV' w g,i6 0]),An [TT 2,Tt],FnOk Pg g0 56 z0 (i6 0),Tt,(z2 != z2)=false,An [TT 2,Tt],FnOk Pg g0 89 z0 (i6 ↑w),Tt,An [z2≤z1,z1≤z1,(↑(8:Nat):Int)*z1≤(281474976710656:Int),z1≤(9223372036854775807:Int)],wr .i64 ((↑L.length:Int)-(1:Int))=z3,An [An [Zz,An [Zz,w=w,Sm (w-w)],z3=z3,Tt],An [Sm [sl L,ul P],TT 2],An [uF (fun x=>0) w=rep w [u6 0],HfL (uF (fun x=>0) w)],Tt],Sat Pg none 0 (at' 40 [1,1,1,0,1,0]) (mkSt g0 42 (grS L P w (k,fun x=>0))) (Qaf g0 42 [(True,Ex.exit 0,SL.mk [(5,gV' w g)] [] [] [])]),(True→An [An [An [w=w,Sm (uF g w)],z2=z2,Tt],Tt]),Tt])=_) ?_
 (repeat'(first|(with_reducible apply And.intro)|(refine fun(_:True)=>?_)))
 all_goals first|exact hl|exact hc|exact hv|(with_reducible exact hr)|exact hr.symm|exact hu|exact hU0|exact hU1|exact wr6' (by omega) (by omega) (by omega)|exact aq|rfl|skip
abbrev b4(b:Bool):SL:={sl:=[(4,.bool b)]}
def goodL(L:List Int)(P:List Nat)(n:Nat):Bool:=decide (1≤n)&&(decide (n≤5)&&(isW L P n&&(ok0 L P&&okLd L P)))
theorem Qky(L:List Int)(P:List Nat)(n:Nat):goodL L P n=(ladB L P&&decide (wdt L P=n)):=by
 obtain⟨w5,w1,w0⟩:=Qel L P
 apply Bool.eq_iff_iff.2
 unfold goodL ladB
 simp only[Bool.and_eq_true,decide_eq_true_eq]
 constructor
 ·rintro ⟨a, b, c, d, e⟩
  have:=w0 n a b c
  exact⟨⟨by omega,d,e⟩,this⟩
 ·rintro ⟨⟨a, d, e⟩, f⟩
  subst f
  exact⟨a,w5,w1 a,d,e⟩
abbrev eqlS(a:List Nat)(k:Nat):SL:={sl:=[(0,ul a),(1,ul a),(12,i6 (a.length:Nat)),(13,i6 (k:Nat))]}
theorem eql_loop(a:List Nat)(h:a.length≤1000):Sat Pg none 0 (at' 58 [1,1,0,1,0]) (mkSt g0 26 (eqlS a 0)) (Qaf g0 26 [(True,.exit 0,{sl:=[]})]):=by
 have hu:=Qa8 a
 refine Qaz vE_ok mixed Qab (b:=at' 58 [1,1,0,1,0,0]) (by kernel_rfl) (fun k=>True) (eqlS a) (fun k=>a.length-k) (fun k hk=>?_) 0 trivial
 by_cases hlt:k<a.length
 ·have hld := @Qbv a k hlt
  generalize a.getD k 0=x at*
  refine .inl ⟨k+1,[],[yes 14,pl 18,ld 19 (u6 (x:Nat)),pl 22,ld 23 (u6 (x:Nat)),no 24,nu 25 ((k+1:Nat):Int)],1000,trivial,by omega,?_⟩
  refine Eq.mp (by kernel_rfl:(let z4:=An [Sm a.length,Sm (ut a)];let z0:=(↑a.length:Int);let z1:=(↑k:Int);let z2:=(↑(k+1):Int);let z3:=headF (List.drop (k*1) (ut a));An [decide (z1<z0)=true,An [(0:Int)≤z1,z1<z0],z3=some (u6 ↑x),An [(0:Int)≤z1,z1<z0],z3=some (u6 ↑x),((↑x:Int) != (↑x:Int))=false,wr .i64 (z1+(1:Int))=z2,An [z4,z4,z0=z0,z2=z2,Tt],Tt])=_) ?_
  (repeat'(first|(with_reducible apply And.intro)|(refine fun(_:True)=>?_)))
  all_goals first|(with_reducible exact hld)|exact hu|exact aq|rfl|skip
 ·refine .inr ⟨.exit 0, [], { sl := [] }, [no 14], 1000, .inl ⟨trivial, rfl, rfl⟩, ?_⟩
  refine Eq.mp (by kernel_rfl:(An [decide ((↑k:Int)<(↑a.length:Int))=false,Tt,Tt])=_) ?_
  (repeat'(first|(with_reducible apply And.intro)|(refine fun(_:True)=>?_)))
  all_goals first|exact hu|exact aq|rfl|skip
theorem Qhq(a:List Nat)(h:a.length≤1000):FnOk Pg g0 58 [ul a,ul a] (.bool true):=by
 have hl:=eql_loop a h
 have hu:=Qa8 a
 refine FnOk.of_vc vE_ok mixed Qab (n:=1000) (r:=[]) (S:=b4 true) (hs:=[no 10,(0,.loop [] (eqlS a 0) [(True,.exit 0,{sl:=[]})])]) ?_
 refine Eq.mp (by kernel_rfl:(let z1:=An [Sm a.length,Sm (ut a)];let z0:=(↑a.length:Int);An [Sm (V.bool true),(z0 != z0)=false,An [An [z1,z1,z0=z0,(↑(0:Nat):Int)=(0:Int),Tt],Tt],Sat Pg none 0 (at' 58 [1,1,0,1,0]) (mkSt g0 26 (eqlS a 0)) (Qaf g0 26 [(True,Ex.exit 0,SL.mk [] [] [] [])]),(True→An [An [Sm true,Tt],Tt]),Tt])=_) ?_
 (repeat'(first|(with_reducible apply And.intro)|(refine fun(_:True)=>?_)))
 all_goals first|exact hl|exact hu|exact aq|rfl|skip
set_option maxHeartbeats 1000000
theorem Qd2{P P':Nat}{Q:Nat→Bool}(h:Bits P Q)(h':Bits P' Q):P=P':=Nat.eq_of_testBit_eq fun i=>(h.2 i).trans (h'.2 i).symm
theorem Qnt(Q:Nat→Bool): ∀n,∃P,P<2^n∧∀u,P.testBit u=(decide (u<n)&&Q u)
 |0=>⟨0,by decide,fun u=>by simp⟩
 | n + 1 => by
  obtain⟨P,h1,h2⟩:=Qnt Q n
  have hlt:2^n<2^(n+1):=Nat.pow_lt_pow_right (by omega) (by omega)
  cases hq:Q n with
  | true =>
   refine⟨P|||2^n,Nat.or_lt_two_pow (by omega) hlt,fun u=>?_⟩
   rw[Nat.testBit_or,h2,Nat.testBit_two_pow]
   by_cases hu:n=u
   ·subst hu;simp[hq]
   ·by_cases h3 : u < n
    ·simp[h3,hu,show u<n+1 by omega]
    ·simp[h3,hu,show¬u<n+1 by omega]
  | false =>
   refine⟨P,by omega,fun u=>?_⟩
   rw[h2]
   by_cases hu:n=u
   ·subst hu;simp[hq]
   ·by_cases h3 : u < n
    ·simp[h3,show u<n+1 by omega]
    ·simp[h3,show¬u<n+1 by omega]
theorem Qik{Q:Nat→Bool}{n:Nat}(hn:n≤64)(h: ∀u,Q u=true→u<n): ∃P,Bits P Q∧P<2^n:=by
 obtain⟨P,h1,h2⟩:=Qnt Q n
 have:2^n≤2^64:=Nat.pow_le_pow_right (by omega) hn
 refine⟨P,⟨Nat.lt_of_lt_of_le h1 this,fun u=>?_⟩,h1⟩
 rw[h2]
 cases hq:Q u with
 |false=>simp
 |true=>simp[h u hq]
theorem Qtf{n:Nat}{g:GG.Rel}{out Q:Nat→Bool}(hQ: ∀u,Q u=true→u<n): ∀v,v≤n→∀u,GG.pass n g out Q v u=true→u<n
 |0,_,u,h=>hQ u h
 |v+1,hv,u,h=>by
  unfold GG.pass GG.place1 at h
  simp only[Bool.or_eq_true,Bool.and_eq_true,decide_eq_true_eq]at h
  rcases h with h|⟨rfl,_⟩
  ·exact Qtf hQ v (by omega) u h
  ·omega
theorem Qcx{n:Nat}{g:GG.Rel}{out:Nat→Bool}: ∀t u,GG.passes n g out t u=true→u<n
 |0,u,h=>by cases h
 |t+1,u,h=>Qtf (Qcx t) n (Nat.le_refl _) u h
abbrev igZ(n P:Nat):SL:={sl:=[(1,i6 n),(5,u6 P)]}
theorem ig_out(l:List Nat)(n:Nat)(hl:l.length=n)(hn:n≤6)(h64:S64 l)(P:Nat)(hP:Bits P (GG.passes n (relL l) (outL l n) n)):
  Sat Pg none 0 (at' 78 [1,1,1,0,1,0]) (mkSt g0 37 (igX l n 0 0)) (Qaf g0 37 [(True,.exit 0,igZ n P)]):=by
 refine Qaz vE_ok mixed Qab (b:=at' 78 [1,1,1,0,1,0,0]) (by kernel_rfl) (fun q:Nat×Nat=>q.1≤n∧Bits q.2 (GG.passes n (relL l) (outL l n) q.1)) (fun q=>igX l n q.1 q.2) (fun q=>n-q.1) (fun q hq=>?_) (0,0) ⟨Nat.zero_le _,by decide,fun u=>Nat.zero_testBit u⟩
 obtain⟨t,p⟩:=q
 obtain⟨ht,hb⟩:=hq
 dsimp only at ht hb
 by_cases hlt:t<n
 ·obtain ⟨p2, hp2, _⟩ := Qik (n := n) (Q := GG.passes n (relL l) (outL l n) (t + 1)) (by omega) (Qcx (t + 1))
  have hin:Sat Pg none 0 (at' 78 [1,1,1,0,1,0,0,1,1,0,0,1,0]) (mkSt g0 37 (igS l n t 0 p)) (Qaf g0 37 [(True,.exit 2,igX l n t p2)]):=by
   refine(ig_in l n hl hn h64 t p _ hb (Qcx t)).mono ?_
   rintro e st ⟨S',rfl,rfl,P',rfl,hP'⟩
   obtain rfl:=Qd2 hP' hp2
   exact .inl ⟨trivial,rfl,rfl⟩
  refine .inl ⟨(t+1,p2),[],[yes 14,(0,.loop [] (igS l n t 0 p) [(True,.exit 2,igX l n t p2)]),nu 31 (t+1:Nat)],1000,⟨hlt,hp2⟩,by dsimp only;omega,?_⟩
  clear hp2 hb hP
  refine Eq.mp (by kernel_rfl:(let z3:=An [Sm l.length,Sm (ut l)];let z0:=(↑n:Int);let z1:=(↑(t+1):Int);let z2:=(↑t:Int);An [decide (z2<z0)=true,An [An [z3,z0=z0,Sm (↑p:Int),z0=z0,z2=z2,z3,Sm (↑l.length:Int),(↑(0:Nat):Int)=(0:Int),Tt],Tt],Sat Pg none 0 (at' 78 [1,1,1,0,1,0,0,1,1,0,0,1,0]) (mkSt g0 37 (igS l n t 0 p)) (Qaf g0 37 [(True,Ex.exit 2,igX l n t p2)]),(True→An [wr .i64 (z2+(1:Int))=z1,An [z3,z0=z0,Sm (↑p2:Int),z0=z0,z1=z1,Tt],Tt]),Tt])=_) ?_
  exact au
 ·have : t = n := by omega
  subst this
  obtain rfl:=Qd2 hb hP
  refine .inr ⟨.exit 0,[],igZ t p,[no 14],1000,.inl ⟨trivial,rfl,rfl⟩,?_⟩
  clear hb hP
  refine Eq.mp (by kernel_rfl:(let z0:=(↑t:Int);An [decide (z0<z0)=false,An [z0=z0,Sm (↑p:Int),Tt],Tt])=_) ?_
  exact au
abbrev bR4(b:Bool):SL:={sl:=[(4,.bool b)]}
theorem Qhw(l:List Nat)(n:Nat)(hn:n≤6)(h64:S64 l):FnOk Pg g0 78 [ul l,i6 n] (.bool (decide (l.length=n)&&GG.placedAll n (relL l) (outL l n))):=by
 by_cases hl:l.length=n
 ·rw [decide_eq_true hl, Bool.true_and]
  obtain⟨P,hP,hPn⟩:=Qik (n:=n) (Q:=GG.passes n (relL l) (outL l n) n) (by omega) (Qcx n)
  have lo_:=ig_out l n hl hn h64 P hP
  obtain⟨s1,s2⟩:=@Qpd (Qad Pg) 28 n (by omega)
  have hpos:=Nat.two_pow_pos n
  have hiff:P=2^n-1↔GG.placedAll n (relL l) (outL l n)=true:=by
   constructor
   ·intro h
    refine GG.all_range.2 fun u hu=>?_
    rw[←hP.2,h,Nat.testBit_two_pow_sub_one];simpa using hu
   ·intro h
    apply Nat.eq_of_testBit_eq
    intro u
    rw[hP.2,Nat.testBit_two_pow_sub_one]
    by_cases hu:u<n
    ·rw[GG.all_range.1 h u hu];simp[hu]
    ·cases hq : GG.passes n (relL l) (outL l n) n u with
     |false=>simp[hu]
     |true=>exact absurd (Qcx n u hq) hu
  cases hb:GG.placedAll n (relL l) (outL l n)with
  |true=>
   have hPe:=hiff.2 hb
   generalize 2^n=w at*
   have hP1:P=w-1:=hPe
   clear hiff hb hP hPe
   refine FnOk.of_vc vE_ok mixed Qab (n:=1000) (r:=[]) (S:=bR4 true) (hs:=[no 11,(0,.loop [] (igX l n 0 0) [(True,.exit 0,igZ n P)]),va 34 (u6 w),nu 35 (w-1:Nat),yes 36]) ?_
   refine Eq.mp (by kernel_rfl:(let z0:=(↑n:Int);An [Sm (V.bool true),((↑l.length:Int) != z0)=false,An [An [An [Sm l.length,Sm (ut l)],z0=z0,(↑(0:Nat):Int)=(0:Int),z0=z0,(↑(0:Nat):Int)=(0:Int),Tt],Tt],Sat Pg none 0 (at' 78 [1,1,1,0,1,0]) (mkSt g0 37 (igX l n 0 0)) (Qaf g0 37 [(True,Ex.exit 0,igZ n P)]),(True→An [binV (Qad Pg) .shl 28 (u6 1) (i6 ↑n)=some (u6 ↑w),wr .u64 ((↑w:Int)-(1:Int))=(↑(w-1):Int),((↑P:Int)==(↑(w-1):Int))=true,An [Sm true,Tt],Tt]),Tt])=_) ?_
   (repeat'(first|(with_reducible apply And.intro)|(refine fun(_:True)=>?_)))<;>first|exact aq|skip
   all_goals exact Qe3 (by simp[lo];omega) (by simp[hi];omega) |>.trans (by omega)
  |false=>
   have hPe:P≠2^n-1:=fun h=>by rw[hiff.1 h]at hb;cases hb
   generalize 2^n=w at*
   clear hiff hb hP
   refine FnOk.of_vc vE_ok mixed Qab (n:=1000) (r:=[]) (S:=bR4 false) (hs:=[no 11,(0,.loop [] (igX l n 0 0) [(True,.exit 0,igZ n P)]),va 34 (u6 w),nu 35 (w-1:Nat),no 36]) ?_
   refine Eq.mp (by kernel_rfl:(let z0:=(↑n:Int);An [Sm (V.bool false),((↑l.length:Int) != z0)=false,An [An [An [Sm l.length,Sm (ut l)],z0=z0,(↑(0:Nat):Int)=(0:Int),z0=z0,(↑(0:Nat):Int)=(0:Int),Tt],Tt],Sat Pg none 0 (at' 78 [1,1,1,0,1,0]) (mkSt g0 37 (igX l n 0 0)) (Qaf g0 37 [(True,Ex.exit 0,igZ n P)]),(True→An [binV (Qad Pg) .shl 28 (u6 1) (i6 ↑n)=some (u6 ↑w),wr .u64 ((↑w:Int)-(1:Int))=(↑(w-1):Int),((↑P:Int)==(↑(w-1):Int))=false,An [Sm false,Tt],Tt]),Tt])=_) ?_
   (repeat'(first|(with_reducible apply And.intro)|(refine fun(_:True)=>?_)))<;>first|exact aq|skip
   all_goals exact Qe3 (by simp[lo];omega) (by simp[hi];omega) |>.trans (by omega)
 ·rw [decide_eq_false hl, Bool.false_and]
  refine FnOk.of_vc vE_ok mixed Qab (n:=1000) (r:=[]) (S:=bR4 false) (hs:=[yes 11]) ?_
  refine Eq.mp (by kernel_rfl:(An [Sm (V.bool false),((↑l.length:Int) != (↑n:Int))=true,An [Sm false,Tt],Tt])=_) ?_
  exact au
theorem rg_first(l:List Nat)(n:Nat)(hl:l.length=n)(hn:n≤6)(h64:S64 l):
  Sat Pg none 0 (at' 67 [1,1,0,1,0]) (mkSt g0 67 {sl:=[(0,ul l),(5,i6 (0:Nat))]}) (Qaf g0 67 [((List.range n).all (fun u=> !outL l n u)=true,.exit 0,{sl:=[(0,ul l)]}),((List.range n).all (fun u=> !outL l n u)=false,.ret,bR4 false)]):=by
 refine Qaz vE_ok mixed Qab (b:=at' 67 [1,1,0,1,0,0]) (by kernel_rfl) (fun k:Nat=>k≤n∧∀j,j<k→(!outL l n j)=true) (fun k:Nat=>{sl:=[(0,ul l),(5,i6 k)]}) (fun k=>n-k) (fun k hk=>?_) 0 ⟨Nat.zero_le _,fun j h=>absurd h (Nat.not_lt_zero _)⟩
 obtain⟨hk,hj⟩:=hk
 by_cases hlt:k<n
 ·have hld := @Qbv l k (by omega)
  have s1:=@Qqo (Qad Pg) 28 (l.getD k 0) n (by omega)
  have hout:outL l n k= !decide (l.getD k 0/2^n=0):=rfl
  generalize l.getD k 0=s at*
  rw[←hl]at s1
  by_cases h0:s/2^n=0
  ·rw [decide_eq_true h0] at hout
   rw[hl,h0,←hl]at s1
   refine .inl ⟨k+1,[],[yes 22,pl 27,ld 28 (u6 s),va 31 (u6 (0:Nat)),no 32,nu 24 (k+1:Nat)],1000,⟨hlt,fun j hj1=>?_⟩,by omega,?_⟩
   ·rcases Nat.lt_succ_iff_lt_or_eq.1 hj1 with h2 | h2
    ·exact hj j h2
    ·subst h2;rw[hout];rfl
   ·refine Eq.mp (by kernel_rfl : (let z0 := (↑(k + 1) : Int); let z1 := (↑k : Int); An [decide (z1 < (↑l.length : Int)) = true, An [(0 : Int) ≤ z1, z1 < (↑l.length : Int)], headF (List.drop (k * 1) (ut l)) = some (u6 ↑s), binV (Qad Pg) .shr 28 (u6 ↑s) (i6 ↑l.length) = some (u6 ↑(0 : Nat)), ((↑(0 : Nat) : Int) != (0 : Int)) = false, wr .i64 (z1 + (1 : Int)) = z0, An [An [Sm l.length, Sm (ut l)], z0 = z0, Tt], Tt]) = _) ?_
    exact au
  ·rw [decide_eq_false h0] at hout
   have hall:=Qbc (p:=fun u=> !outL l n u) hlt (by rw[hout];rfl)
   rw[hl]at s1
   generalize s/2^n=z at*
   rw[←hl]at s1
   refine .inr ⟨.ret,[],bR4 false,[yes 22,pl 27,ld 28 (u6 s),va 31 (u6 z),yes 32],1000,.inr (.inl ⟨hall,rfl,rfl⟩),?_⟩
   refine Eq.mp (by kernel_rfl:(let z0:=(↑k:Int);An [decide (z0<(↑l.length:Int))=true,An [(0:Int)≤z0,z0<(↑l.length:Int)],headF (List.drop (k*1) (ut l))=some (u6 ↑s),binV (Qad Pg) .shr 28 (u6 ↑s) (i6 ↑l.length)=some (u6 ↑z),((↑z:Int) != (0:Int))=true,An [Sm false,Tt],Tt])=_) ?_
   exact au
 ·have : k = n := by omega
  subst this
  refine .inr ⟨.exit 0,[],{sl:=[(0,ul l)]},[no 22],1000,.inl ⟨GG.all_range.2 hj,rfl,rfl⟩,?_⟩
  refine Eq.mp (by kernel_rfl:(An [decide ((↑k:Int)<(↑l.length:Int))=false,An [An [Sm l.length,Sm (ut l)],Tt],Tt])=_) ?_
  exact au
abbrev rgJ(l:List Nat)(i k j A:Nat):SL:={sl:=[(0,ul l),(6,i6 i),(7,u6 A),(8,i6 k),(9,i6 j)]}
abbrev rgK(l:List Nat)(i k A:Nat):SL:={sl:=[(0,ul l),(6,i6 i),(7,u6 A),(8,i6 k)]}
abbrev rgI(l:List Nat)(i A:Nat):SL:={sl:=[(0,ul l),(6,i6 i),(7,u6 A)]}
theorem Qrf{n:Nat}{l:List Nat}{Q:Nat→Bool}(h: ∀u,Q u=true→u<64)(h64:S64 l): ∀j u,GG.cloR (relL l) Q j u=true→u<64
 |0,u,hu=>h u hu
 | j + 1, u, hu => by
  unfold GG.cloR GG.clo1 at hu
  simp only[Bool.or_eq_true,Bool.and_eq_true]at hu
  rcases hu with hu|⟨_,hu⟩
  ·exact Qrf (n:=n) h h64 j u hu
  ·rcases Nat.lt_or_ge u 64 with h' | h'
   ·exact h'
   ·have : (l.getD j 0).testBit u = false := Nat.testBit_lt_two_pow (Nat.lt_of_lt_of_le (show l.getD j 0 < 2 ^ 64 from h64.get j) (Nat.pow_le_pow_right (by omega) h'))
    unfold relL at hu
    rw[this]at hu;cases hu
theorem rg_j(l:List Nat)(n:Nat)(hl:l.length=n)(hn:n≤6)(h64:S64 l)(i k A:Nat)(Q:Nat→Bool)(hA:Bits A Q)(B:Nat)(hB:Bits B (GG.cloR (relL l) Q n)):
  Sat Pg none 0 (at' 67 [1,1,1,0,1,0,0,1,0,0,1,0,1,0,0,1,0,0,1,0]) (mkSt g0 67 (rgJ l i k 0 A)) (Qaf g0 67 [(True,.exit 6,rgK l i k B)]):=by
 refine Qaz vE_ok mixed Qab (b:=at' 67 [1,1,1,0,1,0,0,1,0,0,1,0,1,0,0,1,0,0,1,0,0]) (by kernel_rfl) (fun q:Nat×Nat=>q.1≤n∧Bits q.2 (GG.cloR (relL l) Q q.1)) (fun q=>rgJ l i k q.1 q.2) (fun q=>n-q.1) (fun q hq=>?_) (0,A) ⟨Nat.zero_le _,hA⟩
 obtain⟨j,p⟩:=q
 obtain⟨hj,hp,hb⟩:=hq
 dsimp only at hj hp hb
 by_cases hlt:j<n
 ·have hld := @Qbv l j (by omega)
  have hs:=h64.get j
  have hin:=in_set p j (by omega)
  have hstep: ∀u,GG.cloR (relL l) Q (j+1) u=(p.testBit u||(p.testBit j&&(l.getD j 0).testBit u)):=fun u=>by
   show(GG.cloR (relL l) Q j u||(GG.cloR (relL l) Q j j&&relL l j u))=_
   rw[←hb,←hb];rfl
  generalize l.getD j 0=s at*
  cases hc:p.testBit j with
  |true=>
   rw[hc]at hin
   obtain⟨o1,o2⟩:=@or_u (Qad Pg) 28 p s hp hs
   have hnb:Bits (p|||s) (GG.cloR (relL l) Q (j+1)):=⟨o2,fun u=>by rw[hstep,hc,Bool.true_and,Nat.testBit_or]⟩
   generalize p|||s=p2 at*
   refine .inl ⟨(j+1,p2),[],[yes 52,fn 57 (.bool true),pl 61,ld 62 (u6 s),va 63 (u6 p2),nu 54 (j+1:Nat)],1000,⟨hlt,hnb⟩,by dsimp only;omega,?_⟩
   clear hnb hstep hb hB hA hc
   refine Eq.mp (by kernel_rfl:(let z0:=(↑(j+1):Int);let z1:=(↑j:Int);An [decide (z1<(↑l.length:Int))=true,TT 2,FnOk Pg g0 77 [u6 ↑p,i6 ↑j] (V.bool true),Tt,An [(0:Int)≤z1,z1<(↑l.length:Int)],headF (List.drop (j*1) (ut l))=some (u6 ↑s),binV (Qad Pg) .or 28 (u6 ↑p) (u6 ↑s)=some (u6 ↑p2),wr .i64 (z1+(1:Int))=z0,An [An [Sm l.length,Sm (ut l)],Sm (↑i:Int),Sm (↑p2:Int),Sm (↑k:Int),z0=z0,Tt],Tt])=_) ?_
   exact au
  |false=>
   rw[hc]at hin
   have hnb:Bits p (GG.cloR (relL l) Q (j+1)):=⟨hp,fun u=>by rw[hstep,hc,Bool.false_and,Bool.or_false]⟩
   refine .inl ⟨(j+1,p),[],[yes 52,fn 57 (.bool false),nu 54 (j+1:Nat)],1000,⟨hlt,hnb⟩,by dsimp only;omega,?_⟩
   clear hnb hstep hb hB hA hc
   refine Eq.mp (by kernel_rfl:(An [decide ((↑j:Int)<(↑l.length:Int))=true,TT 2,FnOk Pg g0 77 [u6 ↑p,i6 ↑j] (V.bool false),Tt,wr .i64 ((↑j:Int)+(1:Int))=(↑(j+1):Int),An [An [Sm l.length,Sm (ut l)],Sm (↑i:Int),Sm (↑p:Int),Sm (↑k:Int),Sm (↑(j+1):Int),Tt],Tt])=_) ?_
   exact au
 ·have : j = n := by omega
  subst this
  obtain rfl:=Qd2 ⟨hp,hb⟩ hB
  refine .inr ⟨.exit 6,[],rgK l i k p,[no 52],1000,.inl ⟨trivial,rfl,rfl⟩,?_⟩
  clear hb hB hA
  refine Eq.mp (by kernel_rfl:(An [decide ((↑j:Int)<(↑l.length:Int))=false,An [An [Sm l.length,Sm (ut l)],Sm (↑i:Int),Sm (↑p:Int),Sm (↑k:Int),Tt],Tt])=_) ?_
  exact au
theorem Qrh{n:Nat}{l:List Nat}(h64:S64 l)(i:Nat): ∀k u,GG.clo n (relL l) i k u=true→u<64
 | 0, u, hu => by
  rcases Nat.lt_or_ge u 64 with h'|h'
  ·exact h'
  ·have : (l.getD i 0).testBit u = false := Nat.testBit_lt_two_pow (Nat.lt_of_lt_of_le (show l.getD i 0 < 2 ^ 64 from h64.get i) (Nat.pow_le_pow_right (by omega) h'))
   have hu':(l.getD i 0).testBit u=true:=hu
   rw[this]at hu';cases hu'
 |k+1,u,hu=>Qrf (n:=n) (Qrh h64 i k) h64 n u hu
theorem rg_k(l:List Nat)(n:Nat)(hl:l.length=n)(hn:n≤6)(h64:S64 l)(i:Nat)(A B:Nat)(hA:Bits A (GG.clo n (relL l) i 0))(hB:Bits B (GG.clo n (relL l) i n)):
  Sat Pg none 0 (at' 67 [1,1,1,0,1,0,0,1,0,0,1,0,1,0]) (mkSt g0 67 (rgK l i 0 A)) (Qaf g0 67 [(True,.exit 4,rgI l i B)]):=by
 refine Qaz vE_ok mixed Qab (b:=at' 67 [1,1,1,0,1,0,0,1,0,0,1,0,1,0,0]) (by kernel_rfl) (fun q:Nat×Nat=>q.1≤n∧Bits q.2 (GG.clo n (relL l) i q.1)) (fun q=>rgK l i q.1 q.2) (fun q=>n-q.1) (fun q hq=>?_) (0,A) ⟨Nat.zero_le _,hA⟩
 obtain⟨k,p⟩:=q
 obtain⟨hk,hb⟩:=hq
 dsimp only at hk hb
 by_cases hlt:k<n
 ·obtain ⟨p2, hp2, _⟩ := Qik (n := 64) (Q := GG.clo n (relL l) i (k + 1)) (Nat.le_refl _) (Qrh h64 i (k + 1))
  have hin:=rg_j l n hl hn h64 i k p _ hb p2 hp2
  refine .inl ⟨(k+1,p2),[],[yes 46,(0,.loop [] (rgJ l i k 0 p) [(True,.exit 6,rgK l i k p2)]),nu 48 (k+1:Nat)],1000,⟨hlt,hp2⟩,by dsimp only;omega,?_⟩
  clear hp2 hb hB hA
  refine Eq.mp (by kernel_rfl:(let z0:=An [Sm l.length,Sm (ut l)];let z1:=(↑k:Int);An [decide (z1<(↑l.length:Int))=true,An [An [z0,Sm (↑i:Int),Sm (↑p:Int),Sm z1,(↑(0:Nat):Int)=(0:Int),Tt],Tt],Sat Pg none 0 (at' 67 [1,1,1,0,1,0,0,1,0,0,1,0,1,0,0,1,0,0,1,0]) (mkSt g0 67 (rgJ l i k 0 p)) (Qaf g0 67 [(True,Ex.exit 6,rgK l i k p2)]),(True→An [wr .i64 (z1+(1:Int))=(↑(k+1):Int),An [z0,Sm (↑i:Int),Sm (↑p2:Int),Sm (↑(k+1):Int),Tt],Tt]),Tt])=_) ?_
  exact au
 ·have : k = n := by omega
  subst this
  obtain rfl:=Qd2 hb hB
  refine .inr ⟨.exit 4,[],rgI l i p,[no 46],1000,.inl ⟨trivial,rfl,rfl⟩,?_⟩
  clear hb hB hA
  refine Eq.mp (by kernel_rfl:(An [decide ((↑k:Int)<(↑l.length:Int))=false,An [An [Sm l.length,Sm (ut l)],Sm (↑i:Int),Sm (↑p:Int),Tt],Tt])=_) ?_
  exact au
theorem rg_i(l:List Nat)(n:Nat)(hl:l.length=n)(hn:n≤6)(h64:S64 l):
  Sat Pg none 0 (at' 67 [1,1,1,0,1,0]) (mkSt g0 67 {sl:=[(0,ul l),(6,i6 (0:Nat))]}) (Qaf g0 67 [(GG.acyclic n (relL l)=true,.exit 2,{sl:=[]}),(GG.acyclic n (relL l)=false,.ret,bR4 false)]):=by
 refine Qaz vE_ok mixed Qab (b:=at' 67 [1,1,1,0,1,0,0]) (by kernel_rfl) (fun k:Nat=>k≤n∧∀j,j<k→(!GG.clo n (relL l) j n j)=true) (fun k:Nat=>{sl:=[(0,ul l),(6,i6 k)]}) (fun k=>n-k) (fun k hk=>?_) 0 ⟨Nat.zero_le _,fun j h=>absurd h (Nat.not_lt_zero _)⟩
 obtain⟨hk,hj⟩:=hk
 by_cases hlt:k<n
 ·have hld := @Qbv l k (by omega)
  have hA:Bits (l.getD k 0) (GG.clo n (relL l) k 0):=⟨h64.get k,fun u=>rfl⟩
  obtain⟨B,hB,_⟩:=Qik (n:=64) (Q:=GG.clo n (relL l) k n) (Nat.le_refl _) (Qrh h64 k n)
  have hin:=rg_k l n hl hn h64 k _ B hA hB
  have hset:=in_set B k (by omega)
  rw[hB.2]at hset
  generalize l.getD k 0=s at*
  cases hc:GG.clo n (relL l) k n k with
  |true=>
   rw[hc]at hset
   have hall:GG.acyclic n (relL l)=false:=Qbc (p:=fun i=> !GG.clo n (relL l) i n i) hlt (by rw[hc];rfl)
   refine .inr ⟨.ret,[],bR4 false,[yes 36,pl 41,ld 42 (u6 s),(0,.loop [] (rgK l k 0 s) [(True,.exit 4,rgI l k B)]),fn 66 (.bool true)],1000,.inr (.inl ⟨hall,rfl,rfl⟩),?_⟩
   clear hall hA hB hj hc
   refine Eq.mp (by kernel_rfl:(let z0:=(↑k:Int);An [decide (z0<(↑l.length:Int))=true,An [(0:Int)≤z0,z0<(↑l.length:Int)],headF (List.drop (k*1) (ut l))=some (u6 ↑s),An [An [An [Sm l.length,Sm (ut l)],z0=z0,Sm (↑s:Int),(↑(0:Nat):Int)=(0:Int),Tt],Tt],Sat Pg none 0 (at' 67 [1,1,1,0,1,0,0,1,0,0,1,0,1,0]) (mkSt g0 67 (rgK l k 0 s)) (Qaf g0 67 [(True,Ex.exit 4,rgI l k B)]),(True→An [TT 2,FnOk Pg g0 77 [u6 ↑B,i6 ↑k] (V.bool true),Tt,An [Sm false,Tt],Tt]),Tt])=_) ?_
   exact au
  | false =>
   rw[hc]at hset
   refine .inl ⟨k+1,[],[yes 36,pl 41,ld 42 (u6 s),(0,.loop [] (rgK l k 0 s) [(True,.exit 4,rgI l k B)]),fn 66 (.bool false),nu 38 (k+1:Nat)],1000,⟨hlt,fun j hj1=>?_⟩,by omega,?_⟩
   ·rcases Nat.lt_succ_iff_lt_or_eq.1 hj1 with h2 | h2
    ·exact hj j h2
    ·subst h2;rw[hc];rfl
   ·clear hA hB hj hc
    refine Eq.mp (by kernel_rfl:(let z2:=An [Sm l.length,Sm (ut l)];let z0:=(↑k:Int);let z1:=(↑(k+1):Int);An [decide (z0<(↑l.length:Int))=true,An [(0:Int)≤z0,z0<(↑l.length:Int)],headF (List.drop (k*1) (ut l))=some (u6 ↑s),An [An [z2,z0=z0,Sm (↑s:Int),(↑(0:Nat):Int)=(0:Int),Tt],Tt],Sat Pg none 0 (at' 67 [1,1,1,0,1,0,0,1,0,0,1,0,1,0]) (mkSt g0 67 (rgK l k 0 s)) (Qaf g0 67 [(True,Ex.exit 4,rgI l k B)]),(True→An [TT 2,FnOk Pg g0 77 [u6 ↑B,i6 ↑k] (V.bool false),Tt,wr .i64 (z0+(1:Int))=z1,An [z2,z1=z1,Tt],Tt]),Tt])=_) ?_
    exact au
 ·have : k = n := by omega
  subst this
  have hall:GG.acyclic k (relL l)=true:=GG.all_range.2 hj
  refine .inr ⟨.exit 2,[],{sl:=[]},[no 36],1000,.inl ⟨hall,rfl,rfl⟩,?_⟩
  clear hj hall
  refine Eq.mp (by kernel_rfl:(An [decide ((↑k:Int)<(↑l.length:Int))=false,Tt,Tt])=_) ?_
  exact au
def Qkz(l:List Nat):Bool:=decide (1≤l.length)&&(decide (l.length≤6)&&((List.range l.length).all (fun u=> !outL l l.length u)&&GG.acyclic l.length (relL l)))
def Qfz(n:Nat)(l:List Nat):Bool:=decide (l.length=n)&&Qkz l
theorem Qks(n:Nat)(l:List Nat)(h1:1≤n)(h6:n≤6):(decide (l.length=n)&&GG.placedAll n (relL l) (outL l n))=Qfz n l:=by
 unfold Qfz Qkz
 by_cases hl:l.length=n
 ·rw [decide_eq_true hl, hl, decide_eq_true h1, decide_eq_true h6, Bool.true_and, Bool.true_and, Bool.true_and, Bool.true_and]
  exact GG.graph_same (fun u _ ho p hp=>out_in ho p hp)
 ·rw[decide_eq_false hl,Bool.false_and,Bool.false_and]
theorem shf_eq(a:Nat): ∀(d:Nat)(M:List Nat),a+d+1≤M.length→shf a d M=M.take (a+1)++((M.drop a).take d++M.drop (a+d+1))
 |0,M,h=>by simp[shf]
 | d + 1, M, h => by
  rw[shf,shf_eq a d _ (by simp;omega)]
  generalize hx:M.getD (a+d) 0=x
  have h1:(M.set (a+d+1) x).take (a+1)=M.take (a+1):=List.take_set_of_le (by omega)
  have h2:((M.set (a+d+1) x).drop a).take d=(M.drop a).take d:=by
   rw[List.drop_set,if_neg (by omega),List.take_set_of_le (by omega)]
  have h3:(M.set (a+d+1) x).drop (a+d+1)=x::M.drop (a+d+1+1):=by
   rw[List.drop_eq_getElem_cons (by simp;omega)]
   congr 1
   ·simp
   ·rw[List.drop_set_of_lt (by omega)]
  rw[h1,h2,h3]
  congr 1
  have h4:(M.drop a).take (d+1)=(M.drop a).take d++[x]:=by
   rw[List.take_succ_eq_append_getElem (by simp;omega)]
   congr 2
   rw[List.getElem_drop,←hx,List.getD_eq_getElem?_getD,List.getElem?_eq_getElem (by omega)];rfl
  rw[h4]
  simp[Nat.add_assoc]
theorem ordL_ins{f:Nat→Nat}(hf: ∀k,f k≤k)(i:Nat):ordL f (i+1)=(ordL f i).take (f i)++i::(ordL f i).drop (f i):=by
 have hl:=Qee f i
 have hfi:=hf i
 rw[ordL,shf_eq _ _ _ (by rw[List.length_append,hl];simp;omega)]
 generalize ordL f i=L at*
 generalize f i=a at*
 rw[show a+(i-a)+1=(L++[0]).length by rw[List.length_append,hl];simp;omega,List.drop_length,List.append_nil]
 have h1:(L++[0]).take (a+1)=L.take a++[(L++[0]).getD a 0]:=by
  rw[List.take_succ_eq_append_getElem (by simp;omega),List.take_append_of_le_length (by omega),List.getD_eq_getElem?_getD,List.getElem?_eq_getElem (by simp;omega)];rfl
 have h2:((L++[0]).drop a).take (i-a)=L.drop a:=by
  rw[List.drop_append_of_le_length (by omega),List.take_append_of_le_length (by simp;omega),List.take_of_length_le (by simp;omega)]
 rw[h1,h2]
 have h3:(L.take a).length=a:=by simp;omega
 rw[List.append_assoc,List.set_append_right _ _ (by omega),h3,Nat.sub_self]
 rfl
theorem Qh0{f:Nat→Nat}(hf: ∀k,f k≤k): ∀i,(ordL f i).Nodup∧∀x∈ordL f i,x<i
 |0=>⟨by simp[ordL],fun x hx=>by simp[ordL]at hx⟩
 | i + 1 => by
  obtain⟨h1,h2⟩:=Qh0 hf i
  rw[ordL_ins hf i]
  have hp:((ordL f i).take (f i)++i::(ordL f i).drop (f i)).Perm (i::ordL f i):=by
   have:=List.perm_middle (a:=i) (l₁:=(ordL f i).take (f i)) (l₂:=(ordL f i).drop (f i))
   rwa [List.take_append_drop]at this
  refine⟨hp.nodup_iff.2 (List.nodup_cons.2 ⟨fun hm=>by have:=h2 i hm;omega,h1⟩),fun x hx=>?_⟩
  rcases List.mem_cons.1 (hp.mem_iff.1 hx)with rfl|hm
  ·omega
  ·have:=h2 x hm;omega
def Down(L:List Nat)(a b:Nat)(G:List Nat):Prop:=∀u p,(G.getD u 0).testBit p=true→∃x y,y<x∧(x<a∨(x=a∧y<b))∧u=L.getD x 0∧p=L.getD y 0
theorem Down.mono{L G:List Nat}{a b a' b':Nat}(h:Down L a b G)(hm: ∀x y,(x<a∨(x=a∧y<b))→(x<a'∨(x=a'∧y<b'))):Down L a' b' G:=fun u p hb=>by
 obtain⟨x,y,h1,h2,h3⟩:=h u p hb
 exact⟨x,y,h1,hm x y h2,h3⟩
theorem Qrp{L G:List Nat}{E a b bit:Nat}(hb:b<a)(h:Down L a b G):Down L a (b+1) (edge L E a b bit G):=by
 have h':Down L a (b+1) G:=h.mono fun x y hh=>by omega
 unfold edge
 split
 ·intro u p hbit
  rw[Qkw]at hbit
  split at hbit
  ·rename_i hc
   rw[Nat.testBit_or,Nat.testBit_two_pow,Bool.or_eq_true]at hbit
   rcases hbit with h1|h1
   ·obtain ⟨x, y, k1, k2, k3, k4⟩ := h' _ _ h1
    exact⟨x,y,k1,k2,hc.1▸k3,k4⟩
   ·exact⟨a,b,hb,.inr ⟨rfl,Nat.lt_succ_self _⟩,hc.1.symm,(of_decide_eq_true h1).symm⟩
  ·exact h' u p hbit
 ·exact h'
theorem Qhn{L G:List Nat}{E a bit:Nat}(h:Down L a 0 G): ∀b,b≤a→Down L a b (edgeR L E a bit b G)
 |0,_=>h
 |b+1,hb=>Qrp (by omega) (Qhn h b (by omega))
theorem Qhm{L:List Nat}{E n:Nat}: ∀a,Down L a 0 (edgeA L E n a)
 |0=>fun u p h=>by
  have:(List.replicate n 0).getD u 0=0:=by rw[List.getD_eq_getElem?_getD,List.getElem?_replicate];split<;>rfl
  rw[edgeA,this,Nat.zero_testBit]at h;cases h
 |a+1=>(Qhn (Qhm a) a (Nat.le_refl _)).mono fun x y hh=>by omega
theorem idx_at{L:List Nat}(hn:L.Nodup){x:Nat}(hx:x<L.length):L.idxOf (L.getD x 0)=x:=by
 have hm:L.getD x 0∈L:=by rw[List.getD_eq_getElem?_getD,List.getElem?_eq_getElem hx];exact List.getElem_mem hx
 have hlt:=List.idxOf_lt_length_of_mem hm
 have h1:=List.getElem_idxOf hlt
 have h2:L[x]=L.getD x 0:=by rw[List.getD_eq_getElem?_getD,List.getElem?_eq_getElem hx];rfl
 have h3:L[L.idxOf (L.getD x 0)]? =L[x]? :=by
  rw[List.getElem?_eq_getElem hlt,List.getElem?_eq_getElem hx,h1,h2]
 exact(List.getElem?_inj hlt hn).1 h3
theorem Qt7{α:Type}{f:α→Int}{b:Int}: ∀l:List α,(∀x∈l,-b≤f x∧f x≤b)→ -(b*(l.length:Int))≤sumI (l.map f)∧sumI (l.map f)≤b*(l.length:Int)
 |[],_=>by simp[sumI]
 | x :: l, h => by
  have h1:=Qt7 l (fun y hy=>h y (List.mem_cons_of_mem _ hy))
  have h2:=h x List.mem_cons_self
  have e:b*(((x::l).length:Nat):Int)=b*(l.length:Int)+b:=by
   rw[List.length_cons,Int.natCast_add,Int.mul_add];simp
  rw[List.map_cons,sumI,e];omega
theorem rows_bdA{P:List (Nat×Nat)}{r:Nat}(hP: ∀p∈P,p.2<r)(h40:P.length≤40)(hr1:1≤r)(hr4:r≤4){i:Nat}(hi:i<18)(j:Nat): -250≤conF facF r (rowL P r j) i∧conF facF r (rowL P r j) i≤250:=by
 have h1:=Qde (r:=r) P j hP
 have h2:=Qck P r j
 have h3:=Qlu fac_ok hi (rowL P r j) (fun c hc=>by have:=Qdd hc;omega)
 have h5:=fac_ok.bd (r-1) i (by omega) hi
 have h6:=fac_ok.bd (sumN (rowL P r j)+(r-1)) i (by omega) hi
 unfold conF;omega
theorem fam_bd{cards:List Nat}{cs:List (List Nat)}{v ps:Nat}(hc:CardsOk cards)(hcs: ∀c∈cs,CaseOk cards c)(hv:v<cards.length)(hm:cs.length≤40){i:Nat}(hi:i<18): -10000≤famF cards cs v ps i∧famF cards cs v ps i≤10000:=by
 have hpo:=Qi8 (ps:=ps) hc hcs hv
 have hr:=hc.each v hv
 have hlt:=fun p hp=>(hpo p hp).2
 have hel:=Qdq hlt
 have hpl:(Qav cards v ps cs).length≤40:=by simpa [Qav]using hm
 have hE:=Qbs _ hlt
 unfold famF
 rw[←Qdr (Qit i hi) hpo]
 have:=Qt7 (f:=fun e=>conF facF (cards.getD v 0) e.2 i) (b:=250) (Qan (cards.getD v 0) (Qav cards v ps cs)) (fun e he=>by
  rw[hE.row e he]
  exact rows_bdA hlt hpl (by omega) hr.2 hi e.1)
 omega
def graF(cards:List Nat)(cs:List (List Nat))(l:List Nat):Nat→Nat→Int
 |0=>Qaj
 |k+1=>addA (graF cards cs l k) (famF cards cs k (l.getD k 0)) 1
theorem gra_bd{cards:List Nat}{cs:List (List Nat)}{l:List Nat}(hc:CardsOk cards)(hcs: ∀c∈cs,CaseOk cards c)(hm:cs.length≤40){i:Nat}(hi:i<18): ∀k:Nat,k≤cards.length→ -(10000*(k:Int))≤graF cards cs l k i∧graF cards cs l k i≤10000*(k:Int)
 |0,_=>by simp[graF,Qaj]
 |k+1,hk=>by
  have h1:=gra_bd (l:=l) hc hcs hm hi k (by omega)
  have h2:=fam_bd (ps:=l.getD k 0) hc hcs (show k<cards.length by omega) hm hi
  have e:graF cards cs l (k+1) i=graF cards cs l k i+1*famF cards cs k (l.getD k 0) i:=rfl
  rw[e];omega
abbrev grO(cards:List Nat)(cs:List (List Nat))(f:Nat→Int):List O:=[dO cards cs,.row 41 none (arF Qaj),.row 41 none (arF f)]
abbrev sgS(cards:List Nat)(cs:List (List Nat))(l:List Nat)(F:Nat→Nat→Int)(k:Nat):SL:={sl:=[(2,.ptr 0 0),(4,.ptr 1 0),(7,.ptr 2 0),(23,ul l),(24,i6 l.length),(25,i6 k)],os:=grO cards cs (F k)}
abbrev sgX(f:Nat→Int):SL:={sl:=[(4,.ptr 0 0),(7,.ptr 1 0)],os:=[.row 41 none (arF Qaj),.row 41 none (arF f)]}
theorem sg_loop(cards:List Nat)(cs:List (List Nat))(l:List Nat)(hc:CardsOk cards)(hcs: ∀c∈cs,CaseOk cards c)(hm:cs.length≤40)(hl:l.length=cards.length):
  Sat Pg none 0 (at' 28 [1,1,1,1,0,1,0]) (mkSt g0 38 (sgS cards cs l (graF cards cs l) 0)) (Qaf g0 38 [(True,.exit 0,sgX (graF cards cs l l.length))]):=by
 have hstep: ∀k,graF cards cs l (k+1)=addA (graF cards cs l k) (famF cards cs k (l.getD k 0)) 1:=fun _=>rfl
 have hbd:=fun i(hi:i<18) k hk=>gra_bd (l:=l) hc hcs hm hi k hk
 generalize graF cards cs l=F at*
 refine Qaz vE_ok mixed Qab (b:=at' 28 [1,1,1,1,0,1,0,0]) (by kernel_rfl) (fun k=>k≤l.length) (sgS cards cs l F) (fun k=>l.length-k) (fun k hk=>?_) 0 (Nat.zero_le _)
 by_cases hlt:k<l.length
 ·have hld := @Qbv l k hlt
  have hf:=Qkq cards cs k (l.getD k 0) hc hcs (by omega) hm
  have h6:=hc.six
  have hcm:=comb (F k) (famF cards cs k (l.getD k 0)) 1 (fun i hi=>by
   have:=hbd i hi k (by omega)
   omega) (fun i hi=>by
   have:=fam_bd (ps:=l.getD k 0) hc hcs (show k<cards.length by omega) hm hi
   omega)
  refine .inl ⟨k+1,[0,1,2],[yes 26,pl 28,ld 29 (u6 (l.getD k 0:Nat)),fn 34 (ar (famF cards cs k (l.getD k 0))),fn 35 (ar (F (k+1))),nu 36 (k+1:Nat)],1000,hlt,by omega,?_⟩
  rw[←hstep]at hcm
  clear hstep hbd
  generalize famF cards cs k (l.getD k 0)=f3 at*
  generalize l.getD k 0=s at*
  refine Eq.mp (by kernel_rfl:(let z0:=ofOs T.e 0 (grO cards cs (F k));let z1:=(↑l.length:Int);let z2:=(↑(k+1):Int);let z3:=(↑k:Int);let z4:=[nl cards,cV cs];let z5:=F (k+1);An [decide (z3<z1)=true,An [(0:Int)≤z3,z3<z1],headF (List.drop (k*1) (ut l))=some (u6 ↑s),An [TT 2,TT 2],FnOk Pg g0 73 [V.agg [V.im cards.length (nt cards),V.im cs.length (List.map nl cs)],i6 ↑k,u6 ↑s] (ar f3),Tt,An [TT 18,TT 18,Tt,Tt],FnOk Pg g0 79 [V.agg (arF (F k)),V.agg (arF f3),i6 1] (ar z5),An [(V.fn 73 []=V.fn 79 []→[V.agg z4,i6 ↑k,u6 ↑s]=[V.agg (arF (F k)),ar f3,i6 1]→z0=z0→3=3→CR.mk (ar f3) z0 3 []=CR.mk (ar z5) z0 3 []),Tt],wr .i64 (z3+(1:Int))=z2,An [Zz,Zz,Zz,An [Sm l.length,Sm (ut l)],z1=z1,z2=z2,Tt],An [z4=z4,TT 2],An [Sm (arF Qaj),TT 18],An [Sm (arF z5),TT 18],Tt])=_) ?_
  exact au
 ·have : k = l.length := by omega
  subst this
  clear hstep hbd
  refine .inr ⟨.exit 0,[1,2],sgX (F l.length),[no 26],1000,.inl ⟨trivial,rfl,rfl⟩,?_⟩
  refine Eq.mp (by kernel_rfl:(An [decide ((↑l.length:Int)<(↑l.length:Int))=false,An [Zz,Zz,Tt],An [Sm (arF Qaj),TT 18],An [Sm (arF (F l.length)),TT 18],Tt])=_) ?_
  exact au
theorem fits_out{n:Nat}{l:List Nat}(h:Qfz n l=true):l.length=n∧∀k,l.getD k 0<2^n:=by
 unfold Qfz Qkz at h
 simp only[Bool.and_eq_true,decide_eq_true_eq]at h
 obtain⟨hl,h1,h2,h3,h4⟩:=h
 refine⟨hl,fun k=>?_⟩
 by_cases hk:k<l.length
 ·have := GG.all_range.1 h3 k hk
  unfold outL at this
  rw[hl]at this
  have h0:l.getD k 0/2^n=0:=by simpa using this
  rcases Nat.lt_or_ge (l.getD k 0) (2^n)with h'|h'
  ·exact h'
  ·have:=Nat.div_pos h' (Nat.two_pow_pos _);omega
 ·rw [List.getD_eq_getElem?_getD, List.getElem?_eq_none (by omega)]
  exact Nat.two_pow_pos _
def graG(cards:List Int)(cs:List (List Int))(l:List Nat):Nat→Int:=graF (toN cards) (cs.map toN) l l.length
abbrev gpS(f:Nat→Int)(e:Int):SL:={sl:=[(4,.ptr 0 0),(5,i6 e)],os:=[.row 41 none (arF f)]}
theorem sgra_arg(cards:List Int)(cs:List (List Int))(l:List Nat)(hl1:cards.length≤6)(hl2:cs.length≤1000)(hcl: ∀c∈cs,c.length≤1000)(h64:S64 l)(h:goodE cards cs=0)(hf:Qfz cards.length l=false):FnOk Pg g0 28 [gV cards cs,ul l] (.tup [ar Qaj,i6 2]):=by
 have h1:=Qbp cards cs (by omega) hl2 hcl
 have hw:=Qfd h
 have hpos:=hw.cok.pos
 rw[Qat]at hpos
 rw[h]at h1
 have h2:=Qhw l cards.length hl1 h64
 rw[Qks _ l hpos hl1,hf]at h2
 refine FnOk.of_vc vE_ok mixed Qab (n:=1000) (r:=[1]) (S:=gpS Qaj 2) (hs:=[fn 11 (i6 0),no 13,fn 20 (.bool false)]) ?_
 refine Eq.mp (by kernel_rfl:(An [V.tup [V.agg (arF Qaj),i6 2]=V.tup [ar Qaj,i6 2],An [TT 2,Tt],FnOk Pg g0 72 [V.agg [V.im cards.length (ints cards),V.im cs.length (List.map sl cs)]] (i6 0),Tt,((0:Int) != (0:Int))=false,TT 2,FnOk Pg g0 78 [V.im l.length (ut l),i6 ↑cards.length] (V.bool false),Tt,An [Zz,Sm (2:Int),Tt],An [arF Qaj=[i6 0,i6 0,i6 0,i6 0,i6 0,i6 0,i6 0,i6 0,i6 0,i6 0,i6 0,i6 0,i6 0,i6 0,i6 0,i6 0,i6 0,i6 0],TT 18],Tt])=_) ?_
 exact au
theorem Qtw(cards:List Int)(cs:List (List Int))(l:List Nat)(hl1:cards.length≤6)(hl2:cs.length≤1000)(hcl: ∀c∈cs,c.length≤1000)(h64:S64 l)(h:goodE cards cs=0)(hf:Qfz cards.length l=true):FnOk Pg g0 28 [gV cards cs,ul l] (.tup [ar (graG cards cs l),i6 0]):=by
 have h1:=Qbp cards cs (by omega) hl2 hcl
 have hw:=Qfd h
 have hpos:=hw.cok.pos
 rw[Qat]at hpos
 rw[h]at h1
 have h2:=Qhw l cards.length hl1 h64
 rw[Qks _ l hpos hl1,hf]at h2
 have f1:=(fits_out hf).1
 have lo_:=sg_loop (toN cards) (cs.map toN) l hw.cok hw.rok (by rw[List.length_map];exact hw.len) (by rw[Qat];exact f1)
 unfold graG
 rw[hw.eq]at h1⊢
 rw[←Qat cards]at h2
 have h0:arF (graF (toN cards) (cs.map toN) l 0)=arF Qaj:=rfl
 generalize graF (toN cards) (cs.map toN) l=F at*
 clear h hf
 generalize toN cards=cards at*
 generalize cs.map toN=cs at*
 refine FnOk.of_vc vE_ok mixed Qab (n:=1000) (r:=[0]) (S:=gpS (F l.length) 0) (hs:=[fn 11 (i6 0),no 13,fn 20 (.bool true),(0,.loop [0,1,2] (sgS cards cs l F 0) [(True,.exit 0,sgX (F l.length))])]) ?_
 refine Eq.mp (by kernel_rfl:(let z0:=[i6 0,i6 0,i6 0,i6 0,i6 0,i6 0,i6 0,i6 0,i6 0,i6 0,i6 0,i6 0,i6 0,i6 0,i6 0,i6 0,i6 0,i6 0];let z1:=F l.length;let z2:=(0:Int);An [V.tup [V.agg (arF z1),i6 0]=V.tup [ar z1,i6 0],An [TT 2,Tt],FnOk Pg g0 72 [V.agg [V.im cards.length (nt cards),V.im cs.length (List.map nl cs)]] (i6 0),Tt,(z2 != z2)=false,TT 2,FnOk Pg g0 78 [V.im l.length (ut l),i6 ↑cards.length] (V.bool true),Tt,An [An [Zz,Zz,Zz,An [Sm l.length,Sm (ut l)],Sm (↑l.length:Int),(↑(0:Nat):Int)=z2,Tt],An [Sm [nl cards,cV cs],TT 2],An [arF Qaj=z0,TT 18],An [arF (F 0)=z0,TT 18],Tt],Sat Pg none 0 (at' 28 [1,1,1,1,0,1,0]) (mkSt g0 38 (sgS cards cs l F 0)) (Qaf g0 38 [(True,Ex.exit 0,sgX z1)]),(True→An [An [Zz,z2=z2,Tt],An [Sm (arF z1),TT 18],Tt]),Tt])=_) ?_
 exact au
end Go.Proofs.YtglpoiaedkoecaaDoor.Am
