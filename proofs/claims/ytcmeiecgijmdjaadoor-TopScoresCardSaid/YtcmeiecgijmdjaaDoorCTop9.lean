/- Texts behind the claim, part 9: the abstract machine, and what the functions answer. No condition. -/
import Derived.Test.YtcmeiecgijmdjaaDoorCTop8
set_option linter.unusedVariables false
set_option maxHeartbeats 4000000
set_option maxRecDepth 100000
set_option linter.unusedSimpArgs false
set_option linter.unusedSectionVars false
namespace Go.Proofs.YtcmeiecgijmdjaaDoor.Am
open Go.RowKit
theorem kn_loop(cards:List Int)(cs:List (List Int))(h1:1≤cards.length)(h6:cards.length≤6)(h40:cs.length≤40)(hcl: ∀c∈cs,c.length=cards.length):
  Sat Pg none 4 (at' 35 [0,1,1,0]) (mkSt g0 34 (knS cards cs (0,0,[]))) (Qaf g0 34 [(True,.exit 0,knX cards cs (comp cs).length (comp cs))]):=by
 have hlr:=Quj cards cs 4 (by decide)
 refine Qa6 vE_ok mixed Qad (b:=at' 35 [0,1,1,0,0]) (by kernel_rfl) (fun q=>q.1≤cs.length∧q.2.2=comp (cs.take q.1)∧q.2.2.length=q.2.1) (knS cards cs) (fun q=>cs.length-q.1) (fun q hq=>?_) (0,0,[]) ⟨Nat.zero_le _,rfl,rfl⟩
 obtain⟨k,u,a⟩:=q
 obtain⟨hk,ha,hu⟩:=hq
 dsimp only at hk ha hu
 have hle:a.length≤k:=by
  rw[ha];unfold comp
  exact Nat.le_trans (List.length_filter_le _ _) (by rw[List.length_take];omega)
 have hla:=Qbd sl a (fun _=>trivial)
 by_cases hlt:k<cs.length
 ·have hck : cs[k]? = some cs[k] := List.getElem?_eq_getElem hlt
  have hlc:=hcl _ (List.getElem_mem hlt)
  generalize cs[k]=c at*
  have hld:headF ((cs.map sl).drop (k*1))=some (sl c):=Qcu hck
  have hnx:=Qsz hck
  have hlen:((idL cards.length).length:Int)=(cards.length:Int):=by rw[Qce]
  have hi:=ki_loop cards cs k u a c hlc h6
  rw[←ha]at hnx
  have hla2:=Qbd sl (a++[c]) (fun _=>trivial)
  cases hn:negB c with
  | true =>
   have hi:=hi.mono (Qdb (by rw[hn];simp) hn)
   have hnx2:a=comp (cs.take (k+1)):=by rw[hnx,hn];simp
   cases u with
   |zero=>
    refine .inl ⟨(k+1,0,a),[],[yes 12,pl 14,ld 15 (sl c),nu 17 (cards.length:Nat),(0,.loop [] (kiS cards cs k 0 a c 0) [(True,.exit 1,kiY cards cs k 0 a)]),nu 33 (k+1:Nat)],1000,⟨hlt,hnx2,hu⟩,by dsimp only;omega,?_⟩
    clear ha hnx hnx2
    exact m_ (p:=let z0:=idL cards.length;let z1:=(↑cs.length:Int);let z2:=(↑k:Int);let z3:=List.map sl cs;let z5:=(↑cards.length:Int);let z6:=[V.nils,V.nils];let z7:=(↑(k+1):Int);let y0:=ints cards;let z4:=O.loop .ready none 0 (rkT cards cs) [35,36] rkA rkB;An [decide (z2<z1)=true,An [(0:Int)≤z2,z2<z1],_,_,An [An [_,Sm [sl z0],An [Sm cs.length,z3=z3],z1=z1,z2=z2,z2=z2,An [Sm c.length,Sm (ints c)],An [z0.length=z0.length,Sm (ints z0)],z5=z5,(↑(0:Nat):Int)=(0:Int),_],An [z6=z6,TT 2],An [An [Sm cards.length,y0=y0],An [Zz,Zz,Zz],_],An [noL=noL,_],An [lkO cards cs .ready=z4,_],_],_,(True->An [wr .i64 (z2+(1:Int))=z7,An [_,Sm [sl z0],An [Sm cs.length,z3=z3],z1=z1,z7=z7,_],An [z6=z6,TT 2],An [An [Sm cards.length,y0=y0],An [Zz,Zz,Zz],_],An [noL=noL,_],An [lkO cards cs .ready=z4,_],_]),_]) ⟨aq,a_,hld,hlen,⟨⟨aq,aq,a_,aq,aq,aq,a_,a_,aq,aq,aq⟩,a_,⟨a_,a_,aq⟩,⟨aq,aq⟩,⟨aq,hlr⟩,aq⟩,hi,(fun _=>⟨aq,⟨aq,aq,a_,aq,aq,aq⟩,a_,⟨a_,a_,aq⟩,⟨aq,aq⟩,⟨aq,hlr⟩,aq⟩),aq⟩
   |succ u=>
    refine .inl ⟨(k+1,u+1,a),[4],[yes 12,pl 14,ld 15 (sl c),nu 17 (cards.length:Nat),(0,.loop [4] (kiS cards cs k (u+1) a c 0) [(True,.exit 1,kiY cards cs k (u+1) a)]),nu 33 (k+1:Nat)],1000,⟨hlt,hnx2,hu⟩,by dsimp only;omega,?_⟩
    clear ha hnx hnx2
    exact m_ (p:=let y2:=An [Zz,Sm (u+1),Tt];let z0:=idL cards.length;let z1:=(↑cs.length:Int);let z2:=(↑k:Int);let z3:=List.map sl a;let z4:=List.map sl cs;let z6:=(↑cards.length:Int);let z7:=[V.nils,V.nils];let z8:=(↑(k+1):Int);let y1:=ints cards;let z5:=O.loop .ready none 0 (rkT cards cs) [35,36] rkA rkB;An [decide (z2<z1)=true,An [(0:Int)≤z2,z2<z1],_,_,An [An [_,Sm [sl z0],An [Sm cs.length,z4=z4],z1=z1,z2=z2,z2=z2,An [Sm c.length,Sm (ints c)],An [z0.length=z0.length,Sm (ints z0)],z6=z6,(↑(0:Nat):Int)=(0:Int),_],An [z7=z7,TT 2],An [An [Sm cards.length,y1=y1],y2,_],An [noL=noL,_],An [lkO cards cs .ready=z5,_],An [z3=z3,_],_],_,(True->An [wr .i64 (z2+(1:Int))=z8,An [_,Sm [sl z0],An [Sm cs.length,z4=z4],z1=z1,z8=z8,_],An [z7=z7,TT 2],An [An [Sm cards.length,y1=y1],y2,_],An [noL=noL,_],An [lkO cards cs .ready=z5,_],An [z3=z3,_],_]),_]) ⟨aq,a_,hld,hlen,⟨⟨aq,aq,a_,aq,aq,aq,a_,a_,aq,aq,aq⟩,a_,⟨a_,aq,aq⟩,⟨aq,aq⟩,⟨aq,hlr⟩,⟨aq,hla⟩,aq⟩,hi,(fun _=>⟨aq,⟨aq,aq,a_,aq,aq,aq⟩,a_,⟨a_,aq,aq⟩,⟨aq,aq⟩,⟨aq,hlr⟩,⟨aq,hla⟩,aq⟩),aq⟩
  | false =>
   have hi:=hi.mono (Qda hn (by rw[hn];simp))
   have hnx2:a++[c]=comp (cs.take (k+1)):=by rw[hnx,hn];simp
   cases u with
   |zero=>
    have:a=[]:=List.eq_nil_of_length_eq_zero hu
    subst this
    have hcall:=yldk_A cards cs k c (by omega) (by omega)
    refine .inl ⟨(k+1,1,[c]),[5],[yes 12,pl 14,ld 15 (sl c),nu 17 (cards.length:Nat),(0,.loop [] (kiS cards cs k 0 [] c 0) [(True,.exit 2,kiX cards cs k 0 [] c)]),(31,.call ⟨.bool true,ofOs .e 0 (kA1 cards cs .ready c),6,[1,3]⟩),nu 33 (k+1:Nat)],1000,⟨hlt,hnx2,rfl⟩,by dsimp only;omega,?_⟩
    clear ha hnx hnx2
    exact m_ (p:=let z0:=idL cards.length;let z1:=(↑cs.length:Int);let z2:=(↑k:Int);let z3:=List.map sl cs;let z5:=(↑cards.length:Int);let z6:=[V.nils,V.nils];let z7:=(↑(k+1):Int);let y0:=ints cards;let z4:=O.loop .ready none 0 (rkT cards cs) [35,36] rkA rkB;An [decide (z2<z1)=true,An [(0:Int)≤z2,z2<z1],_,_,An [An [_,Sm [sl z0],An [Sm cs.length,z3=z3],z1=z1,z2=z2,z2=z2,An [Sm c.length,Sm (ints c)],An [z0.length=z0.length,Sm (ints z0)],z5=z5,(↑(0:Nat):Int)=(0:Int),_],An [z6=z6,TT 2],An [An [Sm cards.length,y0=y0],An [Zz,Zz,Zz],_],An [noL=noL,_],An [lkO cards cs .ready=z4,_],_],_,(True->An [_,_,wr .i64 (z2+(1:Int))=z7,An [_,Sm [sl z0],An [Sm cs.length,z3=z3],z1=z1,z7=z7,_],An [z6=z6,TT 2],An [An [Sm cards.length,y0=y0],An [Zz,1=1,_],_],An [noL=noL,_],An [lkO cards cs .ready=z4,_],An [List.map sl [c]=[sl c],_,_],_]),_]) ⟨aq,a_,hld,hlen,⟨⟨aq,aq,a_,aq,aq,aq,a_,a_,aq,aq,aq⟩,a_,⟨a_,a_,aq⟩,⟨aq,aq⟩,⟨aq,hlr⟩,aq⟩,hi,(fun _=>⟨hcall,aq,aq,⟨aq,aq,a_,aq,aq,aq⟩,a_,⟨a_,⟨aq,aq,aq⟩,aq⟩,⟨aq,aq⟩,⟨aq,hlr⟩,⟨aq,aq,aq⟩,aq⟩),aq⟩
   |succ u=>
    have hcall:=yldk_C cards cs u (a.map sl) (by simp[hu]) (by omega) k c (by omega) (by omega)
    refine .inl ⟨(k+1,u+1+1,a++[c]),[6],[yes 12,pl 14,ld 15 (sl c),nu 17 (cards.length:Nat),(0,.loop [4] (kiS cards cs k (u+1) a c 0) [(True,.exit 2,kiX cards cs k (u+1) a c)]),(31,.call ⟨.bool true,ofOs .e 0 (kC1 cards cs .ready u (a.map sl) c),7,[1,4,3]⟩),nu 33 (k+1:Nat)],1000,⟨hlt,hnx2,by simp[hu]⟩,by dsimp only;omega,?_⟩
    clear ha hnx hnx2
    have hmap:a.map sl++[sl c]=(a++[c]).map sl:=by simp
    exact m_ (p:=let z0:=idL cards.length;let z1:=(↑cs.length:Int);let z2:=(↑k:Int);let z3:=List.map sl cs;let z5:=List.map sl a;let z6:=(↑cards.length:Int);let z7:=[V.nils,V.nils];let z8:=(↑(k+1):Int);let y1:=ints cards;let z4:=O.loop .ready none 0 (rkT cards cs) [35,36] rkA rkB;An [decide (z2<z1)=true,An [(0:Int)≤z2,z2<z1],_,_,An [An [_,Sm [sl z0],An [Sm cs.length,z3=z3],z1=z1,z2=z2,z2=z2,An [Sm c.length,Sm (ints c)],An [z0.length=z0.length,Sm (ints z0)],z6=z6,(↑(0:Nat):Int)=(0:Int),_],An [z7=z7,TT 2],An [An [Sm cards.length,y1=y1],An [Zz,Sm (u+1),_],_],An [noL=noL,_],An [lkO cards cs .ready=z4,_],An [z5=z5,_],_],_,(True->An [_,_,wr .i64 (z2+(1:Int))=z8,An [_,Sm [sl z0],An [Sm cs.length,z3=z3],z1=z1,z8=z8,_],An [z7=z7,TT 2],An [An [Sm cards.length,y1=y1],An [Zz,Nat.succ u+1=u+2,_],_],An [noL=noL,_],An [lkO cards cs .ready=z4,_],An [_,_],_]),_]) ⟨aq,a_,hld,hlen,⟨⟨trivial,aq,a_,aq,aq,aq,a_,a_,aq,aq,trivial⟩,a_,⟨a_,⟨aq,aq,trivial⟩,trivial⟩,⟨aq,trivial⟩,⟨aq,hlr⟩,⟨aq,hla⟩,trivial⟩,hi,(fun _=>⟨hcall,trivial,aq,⟨trivial,aq,a_,aq,aq,trivial⟩,a_,⟨a_,⟨aq,aq,trivial⟩,trivial⟩,⟨aq,trivial⟩,⟨aq,hlr⟩,⟨hmap.symm,hla2⟩,trivial⟩),trivial⟩
 ·have hke : k = cs.length := by omega
  subst hke
  rw[List.take_length]at ha
  subst ha
  cases u with
  |zero=>
   rw[hu]
   refine .inr ⟨.exit 0,[],knX cards cs 0 (comp cs),[no 12],1000,.inl ⟨trivial,rfl,rfl⟩,?_⟩
   clear hla hle hu
   exact m_ (p:=An [decide ((↑cs.length:Int)<(↑cs.length:Int))=false,_,An [Sm [V.nils,V.nils],TT 2],An [An [Sm cards.length,Sm (ints cards)],An [Zz,Zz,Zz],_],An [noL=noL,_],An [lkO cards cs .ready=O.loop .ready none 0 (rkT cards cs) [35,36] rkA rkB,_],_]) ⟨aq,aq,a_,⟨a_,a_,aq⟩,⟨aq,aq⟩,⟨aq,hlr⟩,aq⟩
  |succ u=>
   rw[hu]
   refine .inr ⟨.exit 0,[4],knX cards cs (u+1) (comp cs),[no 12],1000,.inl ⟨trivial,rfl,rfl⟩,?_⟩
   clear hle hu
   generalize comp cs=a at*
   exact m_ (p:=An [decide ((↑cs.length:Int)<(↑cs.length:Int))=false,_,An [Sm [V.nils,V.nils],TT 2],An [An [Sm cards.length,Sm (ints cards)],An [Zz,Sm (u+1),_],_],An [noL=noL,_],An [lkO cards cs .ready=O.loop .ready none 0 (rkT cards cs) [35,36] rkA rkB,_],An [Sm (List.map sl a),_],_]) ⟨aq,aq,a_,⟨a_,⟨aq,aq,aq⟩,aq⟩,⟨aq,aq⟩,⟨aq,hlr⟩,⟨aq,hla⟩,aq⟩
theorem Qro(cards:List Int)(cs:List (List Int))(h1:1≤cards.length)(h6:cards.length≤6)(h40:cs.length≤40)(hcl: ∀c∈cs,c.length=cards.length)(a:List (List Int))(ha:a=comp cs)(m:Nat)(hm:a.length=m):
  CallSpec Pg g0 (.fn 35 [.imp [sl cards,gC cs],.imp [sl (idL cards.length)]]) [.yld 3] (ofOs .e 0 (kA cards cs .ready)) 4 ⟨.tup [],ofOs .e 0 (kwS cards cs a m),(kwS cards cs a m).length,[1,3]⟩:=by
 have l:=kn_loop cards cs h1 h6 h40 hcl
 rw[←ha]at l
 rw[hm]at l
 have hlr:=Quj cards cs 4 (by decide)
 have hla:=Qbd sl a (fun _=>trivial)
 refine CallSpec.caps (caps:=[.imp [sl cards,gC cs],.imp [sl (idL cards.length)]]) (ars:=[.yld 3]) ?_
 clear ha
 cases m with
 | zero =>
  refine CallSpec.of_vcH (P:=Pg) (E:=vE) vE_ok mixed Qad (n:=1000) (f:=35) (os0:=kA cards cs .ready) (ars:=[.yld 3,.imp [sl cards,gC cs],.imp [sl (idL cards.length)]]) (r:=[])
   (S := { sl := [], os := kwS cards cs a 0, md := [0, 1], lg := [1, 3] }) (v := .tup []) (hs := [(0, .loop [] (knS cards cs (0, 0, [])) [(True, .exit 0, knX cards cs 0 a)])]) (gl := g0) (by simp) (fun i hi hno => by
    rcases(show i=0∨i=1∨i=2∨i=3 by simp at hi;omega)with rfl|rfl|rfl|rfl<;>first|rfl|(simp at hno)) ?_
  exact m_ (p:=let z1:=[V.nils,V.nils];let z3:=ints cards;let z4:=[sl (idL cards.length)];let z0:=O.loop .ready none 0 (rkT cards cs) [35,36] rkA rkB;An [Sm (V.tup []),An [An [_,z4=z4,An [Sm cs.length,Sm (List.map sl cs)],Sm (↑cs.length:Int),(↑(0:Nat):Int)=(0:Int),_],An [z1=z1,TT 2],An [An [Sm cards.length,z3=z3],An [Zz,Zz,Zz],_],An [noL=noL,_],An [lkO cards cs .ready=z0,_],_],_,(True->An [_,An [z1=z1,TT 2],An [An [Sm cards.length,z3=z3],An [Zz,Zz,Zz],_],An [noL=noL,_],An [lkO cards cs .ready=z0,_],_]),_]) ⟨aq,⟨⟨aq,aq,a_,aq,aq,aq⟩,a_,⟨a_,a_,aq⟩,⟨aq,aq⟩,⟨aq,hlr⟩,aq⟩,l,(fun _=>⟨aq,a_,⟨a_,a_,aq⟩,⟨aq,aq⟩,⟨aq,hlr⟩,aq⟩),aq⟩
 | succ k =>
  refine CallSpec.of_vcH (P:=Pg) (E:=vE) vE_ok mixed Qad (n:=1000) (f:=35) (os0:=kA cards cs .ready) (ars:=[.yld 3,.imp [sl cards,gC cs],.imp [sl (idL cards.length)]]) (r:=[4])
   (S := { sl := [], os := kwS cards cs a (k + 1), md := [0, 1], lg := [1, 3] }) (v := .tup []) (hs := [(0, .loop [] (knS cards cs (0, 0, [])) [(True, .exit 0, knX cards cs (k + 1) a)])]) (gl := g0) (by simp) (fun i hi hno => by
    rcases(show i=0∨i=1∨i=2∨i=3 by simp at hi;omega)with rfl|rfl|rfl|rfl<;>first|rfl|(simp at hno)) ?_
  exact m_ (p:=let z1:=[V.nils,V.nils];let z3:=ints cards;let z4:=List.map sl a;let z5:=[sl (idL cards.length)];let z0:=O.loop .ready none 0 (rkT cards cs) [35,36] rkA rkB;An [Sm (V.tup []),An [An [_,z5=z5,An [Sm cs.length,Sm (List.map sl cs)],Sm (↑cs.length:Int),(↑(0:Nat):Int)=(0:Int),_],An [z1=z1,TT 2],An [An [Sm cards.length,z3=z3],An [Zz,Zz,Zz],_],An [noL=noL,_],An [lkO cards cs .ready=z0,_],_],_,(True->An [_,An [z1=z1,TT 2],An [An [Sm cards.length,z3=z3],An [Zz,Sm (k+1),_],_],An [noL=noL,_],An [lkO cards cs .ready=z0,_],An [z4=z4,_],_]),_]) ⟨aq,⟨⟨aq,aq,a_,aq,aq,aq⟩,a_,⟨a_,a_,aq⟩,⟨aq,aq⟩,⟨aq,hlr⟩,aq⟩,l,(fun _=>⟨aq,a_,⟨a_,⟨aq,aq,aq⟩,aq⟩,⟨aq,aq⟩,⟨aq,hlr⟩,⟨aq,hla⟩,aq⟩),aq⟩
theorem Qis(cards:List Int)(cs:List (List Int))(h1:1≤cards.length)(h6:cards.length≤6):
  CallSpec Pg g0 (.fn 17 []) [gV cards cs] (ofOs .e 0 [gO cards cs,.row 31 none [.nils,.nils]]) 2 ⟨.agg [sl cards,.sl 2 0 0 (some 0)],ofOs .e 0 [gO cards cs,.row 31 none [.nils,.nils],.row 28 none noL,.row 31 none [sl cards,.sl 2 0 0 (some 0)]],4,[]⟩:=by
 have hcl:=Qgo cards h6 h1
 have hg:=Qav cs
 have hc:=Qab cards
 refine CallSpec.of_vcH (P:=Pg) (E:=vE) vE_ok mixed Qad (n:=1000) (f:=17) (os0:=[gO cards cs,.row 31 none [.nils,.nils]]) (ars:=[gV cards cs]) (r:=[4,3])
   (S := { sl := [(2, .ptr 3 0)], os := [gO cards cs, .row 31 none [.nils, .nils], .row 28 none noL, .row 31 none [sl cards, .sl 2 0 0 (some 0)]], md := [0, 0, 0, 1] }) (v := .agg [sl cards, .sl 2 0 0 (some 0)]) (hs := [fn 5 (sl cards)]) (gl := g0) (by simp) (fun i hi hno => by
    rcases(show i=0∨i=1 by simp at hi;omega)with rfl|rfl<;>first|rfl|(simp at hno)) ?_
 exact m_ (p:=An [Sm (V.agg [sl cards,V.sl 2 0 0 (some 0)]),An [_,_],_,_,An [Zz,_],An [Sm [sl cards,gC cs],TT 2],An [Sm [V.nils,V.nils],TT 2],An [noL=[],_],An [An [Sm cards.length,Sm (ints cards)],An [Zz,Zz,Zz],_],_]) ⟨aq,⟨aq,aq⟩,hcl,aq,⟨aq,aq⟩,a_,a_,⟨(by rfl),aq⟩,⟨a_,a_,aq⟩,aq⟩
abbrev idxS(cards:List Int)(cs:List (List Int))(k:Nat):SL:={sl:=[(1,.ptr 0 0),(2,.ptr 1 0),(5,.sl 2 0 cards.length (some (cards.length-cards.length))),(21,i6 (cards.length:Nat)),(22,i6 (k:Nat))],os:=[gO cards cs,.row 31 none [.nils,.nils],.row 3 none (nF (idF k) cards.length)]}
abbrev idxX(cards:List Int)(cs:List (List Int)):SL:={sl:=[(1,.ptr 0 0),(2,.ptr 1 0),(5,sl (idL cards.length))],os:=[gO cards cs,.row 31 none [.nils,.nils]]}
theorem Qp5(cards:List Int)(cs:List (List Int))(h6:cards.length≤6):
  Sat Pg none 0 (at' 5 [1,1,1,0,1,0]) (mkSt g0 45 (idxS cards cs 0)) (Qaf g0 45 [(True,.exit 0,idxX cards cs)]):=by
 have hg:=Qav cs
 have hc:=Qab cards
 refine Qa6 vE_ok mixed Qad (b:=at' 5 [1,1,1,0,1,0,0]) (by kernel_rfl) (fun k=>k≤cards.length) (idxS cards cs) (fun k=>cards.length-k) (fun k hk=>?_) 0 (Nat.zero_le _)
 have hF:=Qah (idF k) cards.length
 by_cases hlt:k<cards.length
 ·have y := @Qd2 (idF k) cards.length k hlt k
  rw[idF_next]at y
  have hF1:=Qah (idF (k+1)) cards.length
  refine .inl ⟨k+1,[0,1,2],[yes 23,pl 28,st (nF (idF (k+1)) cards.length),nu 29 (k+1:Nat)],1000,hlt,by omega,?_⟩
  exact m_ (p:=let z0:=nF (idF (k+1)) cards.length;let z1:=(↑cards.length:Int);let z2:=(↑(k+1):Int);let z3:=(↑k:Int);An [decide (z3<z1)=true,An [(0:Int)≤z3,z3<z1],_,wr .i64 (z3+(1:Int))=z2,An [Zz,Zz,An [Zz,Sm cards.length,Sm (cards.length-cards.length)],z1=z1,z2=z2,_],An [Sm [sl cards,gC cs],TT 2],An [Sm [V.nils,V.nils],TT 2],An [z0=z0,_],_]) ⟨aq,a_,y,aq,⟨aq,aq,a_,aq,aq,aq⟩,a_,a_,⟨aq,hF1⟩,aq⟩
 ·have he : k = cards.length := by omega
  subst he
  have e:=nF_idF cards.length
  have hl:=Qce cards.length
  refine .inr ⟨.exit 0,[0,1],idxX cards cs,[no 23],1000,.inl ⟨trivial,rfl,rfl⟩,?_⟩
  exact m_ (p:=let z1:=(↑cards.length:Int);An [decide (z1<z1)=false,An [Zz,Zz,An [_,_,_],_],An [Sm [sl cards,gC cs],TT 2],An [Sm [V.nils,V.nils],TT 2],_]) ⟨aq,⟨aq,aq,⟨hl,e.symm,hF⟩,aq⟩,a_,a_,aq⟩
abbrev kvV(l:List (List Int)):Nat→V
 |0=>.sl 2 0 0 (some 0)
 |k+1=>.sl 2 0 (k+1) none
abbrev kvL(l:List (List Int)):Nat→O
 |0=>.row 28 none noL
 |k+1=>.row 28 (some 1) (l.map sl)
abbrev kS0(cards:List Int)(cs:List (List Int)):SL:={sl:=kZ cards cs,os:=[.row 31 none [.nils,.nils],.row 31 none [sl cards,.sl 2 0 0 (some 0)],.row 28 none noL],md:=[0,1]}
abbrev kS1(cards:List Int)(a:List (List Int))(m:Nat):SL:={sl:=[(2,.ptr 0 0),(7,.ptr 1 0)],os:=[.row 31 none [.nils,.nils],.row 31 none [sl cards,kvV a m],kvL a m],md:=[0,1]}
theorem Qf5(cards:List Int)(cs:List (List Int))(h1:1≤cards.length)(h6:cards.length≤6)(h40:cs.length≤40)(hcl: ∀c∈cs,c.length=cards.length)(a:List (List Int))(ha:a=comp cs)(m:Nat)(hm:a.length=m):
  Sat Pg none 0 rkC (mkSt g0 45 (kS0 cards cs)) (Qaf g0 45 [(True,.normal,kS1 cards a m)]):=by
 rw[rk_eq]
 have hla:=Qbd sl a (fun _=>trivial)
 have hcall:=Qro cards cs h1 h6 h40 hcl a ha m hm
 clear ha
 cases m with
 |zero=>
  refine Sat.rangeC (gl:=g0) (r:=[0,1,2]) (S:=kS0 cards cs) (f:=35) (caps:=[.imp [sl cards,gC cs],.imp [sl (idL cards.length)]]) (H1:=ofOs .e 0 (kwS cards cs a 0)) (nx1:=4) (v:=.tup []) rfl rfl hcall (by kernel_rfl) ?_
  exact m_ (p:=An [An [Zz,Zz,_],An [Sm [V.nils,V.nils],TT 2],An [An [Sm cards.length,Sm (ints cards)],An [Zz,Zz,Zz],_],An [noL=noL,_],_]) ⟨⟨aq,aq,aq⟩,a_,⟨a_,a_,aq⟩,⟨aq,aq⟩,aq⟩
 |succ k=>
  refine Sat.rangeC (gl:=g0) (r:=[0,1,4]) (S:=kS0 cards cs) (f:=35) (caps:=[.imp [sl cards,gC cs],.imp [sl (idL cards.length)]]) (H1:=ofOs .e 0 (kwS cards cs a (k+1))) (nx1:=5) (v:=.tup []) rfl rfl hcall (by kernel_rfl) ?_
  exact m_ (p:=An [An [Zz,Zz,_],An [Sm [V.nils,V.nils],TT 2],An [An [Sm cards.length,Sm (ints cards)],An [Zz,Sm (k+1),_],_],An [Sm (List.map sl a),_],_]) ⟨⟨aq,aq,aq⟩,a_,⟨a_,⟨aq,aq,aq⟩,aq⟩,⟨aq,hla⟩,aq⟩
def cmpE(cards:List Int)(cs:List (List Int)):V:=.tup [bif okAll cards cs then gV cards (comp cs)else .agg [.nils,.nils],i6 (chkE cards cs)]
theorem Qlo(cards:List Int)(cs:List (List Int))(hl1:cards.length≤1000)(hl2:cs.length≤1000):FnOk Pg g0 5 [gV cards cs] (cmpE cards cs):=by
 have hck:=Qjv cards cs hl1 hl2
 have hg:=Qav cs
 have hc:=Qab cards
 unfold cmpE
 cases hok:okAll cards cs with
 |false=>
  have e:chkE cards cs=250:=by unfold chkE;rw[hok];rfl
  rw[e]at hck⊢
  refine FnOk.of_vc vE_ok mixed Qad (n:=1000) (r:=[1]) (S:={sl:=[(2,.ptr 0 0),(3,i6 250)],os:=[.row 31 none [.nils,.nils]]}) (hs:=[fn 11 (i6 250)]) ?_
  exact m_ (p:=An [Sm (V.tup [V.agg [V.nils,V.nils],i6 250]),An [TT 2,_],_,_,An [Zz,Sm (250:Int),_],An [Sm [V.nils,V.nils],TT 2],_]) ⟨aq,⟨aq,aq⟩,hck,aq,⟨aq,aq,aq⟩,a_,aq⟩
 | true =>
  have e:chkE cards cs=0:=by unfold chkE;rw[hok];rfl
  rw[e]at hck⊢
  have hb:decide (1≤cards.length)=true∧decide (cards.length≤6)=true∧decide (cs.length≤40)=true∧okCs cards=true∧decide (prodT cards cards.length≤1024)=true∧cs.all (okRow cards)=true:=by
   unfold okAll at hok
   simpa [Bool.and_eq_true]using hok
  have h1:=of_decide_eq_true hb.1
  have h6:=of_decide_eq_true hb.2.1
  have h40:=of_decide_eq_true hb.2.2.1
  have hcl: ∀c∈cs,c.length=cards.length:=fun c hcm=>by
   have:=List.all_eq_true.1 hb.2.2.2.2.2 c hcm
   unfold okRow at this
   rw[Bool.and_eq_true]at this
   exact of_decide_eq_true this.1
  have lx:=Qp5 cards cs h6
  have hrep:=rep_nF cards.length
  have hem:=Qis cards cs h1 h6
  have hkn:=Qp8 cards cs cards.length
  have hF:=Qah (idF 0) cards.length
  generalize ha:comp cs=a
  have hla:=Qbd sl a (fun _=>trivial)
  have hle:a.length≤40:=by
   rw[←ha];unfold comp
   exact Nat.le_trans (List.length_filter_le _ _) h40
  cases hm:a.length with
  |zero=>
   have lr:=Qf5 cards cs h1 h6 h40 hcl a ha.symm 0 hm
   have:a=[]:=List.eq_nil_of_length_eq_zero hm
   subst this
   clear hb hok
   refine FnOk.of_vc vE_ok mixed Qad (n:=1000) (r:=[0]) (S:={sl:=[(2,.ptr 0 0),(3,i6 0)],os:=[.row 31 none [sl cards,.im 0 []]],md:=[1]}) (hs:=[fn 11 (i6 0),mk 19,(0,.loop [0,1,2] (idxS cards cs 0) [(True,.exit 0,idxX cards cs)]),(31,.call ⟨.agg [sl cards,.sl 2 0 0 (some 0)],ofOs .e 0 [gO cards cs,.row 31 none [.nils,.nils],.row 28 none noL,.row 31 none [sl cards,.sl 2 0 0 (some 0)]],4,[]⟩),fn 34 (.fn 35 [.imp [sl cards,gC cs],.imp [sl (idL cards.length)]]),(0,.loop [1,4,2] (kS0 cards cs) [(True,.normal,kS1 cards [] 0)])]) ?_
   exact m_ (p:=let z9:=Sm cards.length;let z0:=(↑cards.length:Int);let z1:=[sl cards,gC cs];let z2:=[V.nils,V.nils];let z5:=ints cards;let z8:=(0:Int);An [V.tup [V.agg [sl cards,V.im 0 []],i6 0]=V.tup [gV cards [],i6 0],An [TT 2,_],_,_,An [z8≤z0,z0≤z0,(↑(8:Nat):Int)*z0≤(281474976710656:Int),z0≤(9223372036854775807:Int)],An [An [Zz,Zz,An [Zz,z9,Sm (cards.length-cards.length)],z0=z0,(↑(0:Nat):Int)=z8,_],An [z1=z1,TT 2],An [z2=z2,TT 2],An [(nF (idF 0) cards.length)=rep cards.length [i6 0],_],_],_,(True->An [_,_,An [TT 2,_,_],_,_,An [An [Zz,Zz,An [z1=z1,Sm [sl (idL cards.length)],_],_],An [z2=z2,TT 2],An [An [z9,z5=z5],An [Zz,Zz,Zz],_],An [noL=noL,_],_],_,(True->An [An [Zz,z8=z8,_],An [An [z9,z5=z5],An [Zz,[]=noL,_],_],_]),_]),_]) ⟨aq,⟨aq,aq⟩,hck,aq,a_,⟨⟨aq,aq,a_,aq,aq,aq⟩,a_,a_,⟨aq,hF⟩,aq⟩,lx,(fun _=>⟨hem,aq,⟨aq,aq,aq⟩,hkn,aq,⟨⟨aq,aq,⟨aq,aq,aq⟩,aq⟩,a_,⟨a_,a_,aq⟩,⟨aq,aq⟩,aq⟩,lr,(fun _=>⟨⟨aq,aq,aq⟩,⟨a_,⟨aq,(by rfl),aq⟩,aq⟩,aq⟩),aq⟩),aq⟩
  |succ k=>
   have lr:=Qf5 cards cs h1 h6 h40 hcl a ha.symm (k+1) hm
   rw[show gV cards a= .agg [sl cards,.im (k+1) (a.map sl)]by show V.agg [sl cards,.im a.length (a.map sl)]=_;rw[hm]]
   clear hb hok
   refine FnOk.of_vc vE_ok mixed Qad (n:=1000) (r:=[0]) (S:={sl:=[(2,.ptr 0 0),(3,i6 0)],os:=[.row 31 none [sl cards,.im (k+1) (a.map sl)]],md:=[1]}) (hs:=[fn 11 (i6 0),mk 19,(0,.loop [0,1,2] (idxS cards cs 0) [(True,.exit 0,idxX cards cs)]),(31,.call ⟨.agg [sl cards,.sl 2 0 0 (some 0)],ofOs .e 0 [gO cards cs,.row 31 none [.nils,.nils],.row 28 none noL,.row 31 none [sl cards,.sl 2 0 0 (some 0)]],4,[]⟩),fn 34 (.fn 35 [.imp [sl cards,gC cs],.imp [sl (idL cards.length)]]),(0,.loop [1,4,2] (kS0 cards cs) [(True,.normal,kS1 cards a (k+1))])]) ?_
   exact m_ (p:=let y1:=Sm cards.length;let z0:=(↑cards.length:Int);let z1:=[sl cards,gC cs];let z2:=[V.nils,V.nils];let z6:=List.map sl a;let z7:=ints cards;let y0:=(0:Int);let z5:=V.tup [V.agg [sl cards,V.im (k+1) z6],i6 0];An [z5=z5,An [TT 2,_],_,_,An [y0≤z0,z0≤z0,(↑(8:Nat):Int)*z0≤(281474976710656:Int),z0≤(9223372036854775807:Int)],An [An [Zz,Zz,An [Zz,y1,Sm (cards.length-cards.length)],z0=z0,(↑(0:Nat):Int)=y0,_],An [z1=z1,TT 2],An [z2=z2,TT 2],An [(nF (idF 0) cards.length)=rep cards.length [i6 0],_],_],_,(True->An [_,_,An [TT 2,_,_],_,_,An [An [Zz,Zz,An [z1=z1,Sm [sl (idL cards.length)],_],_],An [z2=z2,TT 2],An [An [y1,z7=z7],An [Zz,Zz,Zz],_],An [noL=noL,_],_],_,(True->An [An [Zz,y0=y0,_],An [An [y1,z7=z7],An [Sm (k+1),z6=z6,_],_],_]),_]),_]) ⟨aq,⟨aq,aq⟩,hck,aq,a_,⟨⟨aq,aq,a_,aq,aq,aq⟩,a_,a_,⟨aq,hF⟩,aq⟩,lx,(fun _=>⟨hem,aq,⟨aq,aq,aq⟩,hkn,aq,⟨⟨aq,aq,⟨aq,aq,aq⟩,aq⟩,a_,⟨a_,a_,aq⟩,⟨aq,aq⟩,aq⟩,lr,(fun _=>⟨⟨aq,aq,aq⟩,⟨a_,⟨aq,aq,hla⟩,aq⟩,aq⟩),aq⟩),aq⟩
def Qib(cards:List Int)(cs:List (List Int))(lim:Int):Int:=if goodE cards cs=0 then(if 5<cards.length∨lim<0∨4<lim then 2 else 0)else goodE cards cs
abbrev e4(e:Int):SL:={sl:=[(4,i6 e)]}
theorem Qu7(cards:List Int)(cs:List (List Int))(lim:Int)(hl1:cards.length≤1000)(hl2:cs.length≤1000):FnOk Pg g0 36 [gV cards cs,i6 lim] (i6 (Qib cards cs lim)):=by
 have hd:=Qlo cards cs hl1 hl2
 have hg:=Qav cs
 have hc:=Qab cards
 unfold cmpE at hd
 unfold Qib goodE
 cases hok:okAll cards cs with
 |false=>
  have e:chkE cards cs=250:=by unfold chkE;rw[hok];rfl
  rw[e,hok,cond_false]at hd
  simp only[Bool.false_eq_true,if_false,show((250:Int)=0)=False from by simp]
  refine FnOk.of_vc vE_ok mixed Qad (n:=1000) (r:=[]) (S:=e4 250) (hs:=[fn 9 (.tup [.agg [.nils,.nils],i6 250]),yes 13]) ?_
  exact m_ (p:=An [Sm (i6 250),An [TT 2,_],_,_,((250:Int) != (0:Int))=true,An [Sm (250:Int),_],_]) ⟨aq,⟨aq,aq⟩,hd,aq,aq,⟨aq,aq⟩,aq⟩
 | true =>
  have e:chkE cards cs=0:=by unfold chkE;rw[hok];rfl
  rw[e,hok,cond_true]at hd
  simp only[if_true]
  have hla:=Qbd sl (comp cs) (fun _=>trivial)
  have hle:(comp cs).length≤cs.length:=List.length_filter_le _ _
  cases hn:cs.any negB with
  | true =>
   have hne:(comp cs).length≠cs.length:=fun h=>by have:=(Qpp cs).1 h;rw[hn]at this;cases this
   simp only[if_true,show((260:Int)=0)=False from by simp,if_false]
   generalize comp cs=a at*
   have hbn:((a.length:Int)==(cs.length:Int))=false:=by
    rw[beq_eq_false_iff_ne];omega
   refine FnOk.of_vc vE_ok mixed Qad (n:=1000) (r:=[]) (S:=e4 260) (hs:=[fn 9 (.tup [gV cards a,i6 0]),no 13,yes 21]) ?_
   exact m_ (p:=An [Sm (i6 260),An [TT 2,_],_,_,((0:Int) != (0:Int))=false,((↑a.length:Int) != (↑cs.length:Int))=true,An [Sm (260:Int),_],_]) ⟨aq,⟨aq,aq⟩,hd,aq,aq,aq,⟨aq,aq⟩,aq⟩
  | false =>
   have heq:(comp cs).length=cs.length:=(Qpp cs).2 hn
   simp only[Bool.false_eq_true,if_false,if_true]
   generalize comp cs=a at*
   have hbn:((a.length:Int)==(cs.length:Int))=true:=by
    rw[heq];exact beq_self_eq_true _
   by_cases h1:5<cards.length
   ·rw [if_pos (Or.inl h1)]
    refine FnOk.of_vc vE_ok mixed Qad (n:=1000) (r:=[]) (S:=e4 2) (hs:=[fn 9 (.tup [gV cards a,i6 0]),no 13,no 21,yes 25]) ?_
    exact m_ (p:=An [Sm (i6 2),An [TT 2,_],_,_,((0:Int) != (0:Int))=false,((↑a.length:Int) != (↑cs.length:Int))=false,decide ((↑cards.length:Int)>(5:Int))=true,An [Sm (2:Int),_],_]) ⟨aq,⟨aq,aq⟩,hd,aq,aq,aq,aq,⟨aq,aq⟩,aq⟩
   ·by_cases h2 : lim < 0
    ·rw [if_pos (Or.inr (Or.inl h2))]
     refine FnOk.of_vc vE_ok mixed Qad (n:=1000) (r:=[]) (S:=e4 2) (hs:=[fn 9 (.tup [gV cards a,i6 0]),no 13,no 21,no 25,yes 28]) ?_
     exact m_ (p:=An [Sm (i6 2),An [TT 2,_],_,_,((0:Int) != (0:Int))=false,((↑a.length:Int) != (↑cs.length:Int))=false,decide ((↑cards.length:Int)>(5:Int))=false,decide (lim<(0:Int))=true,An [Sm (2:Int),_],_]) ⟨aq,⟨aq,aq⟩,hd,aq,aq,aq,aq,aq,⟨aq,aq⟩,aq⟩
    ·by_cases h3 : 4 < lim
     ·rw [if_pos (Or.inr (Or.inr h3))]
      refine FnOk.of_vc vE_ok mixed Qad (n:=1000) (r:=[]) (S:=e4 2) (hs:=[fn 9 (.tup [gV cards a,i6 0]),no 13,no 21,no 25,no 28,yes 32]) ?_
      exact m_ (p:=An [Sm (i6 2),An [TT 2,_],_,_,((0:Int) != (0:Int))=false,((↑a.length:Int) != (↑cs.length:Int))=false,decide ((↑cards.length:Int)>(5:Int))=false,decide (lim<(0:Int))=false,decide (lim>(4:Int))=true,An [Sm (2:Int),_],_]) ⟨aq,⟨aq,aq⟩,hd,aq,aq,aq,aq,aq,aq,⟨aq,aq⟩,aq⟩
     ·rw [if_neg (by omega)]
      refine FnOk.of_vc vE_ok mixed Qad (n:=1000) (r:=[]) (S:=e4 0) (hs:=[fn 9 (.tup [gV cards a,i6 0]),no 13,no 21,no 25,no 28,no 32]) ?_
      exact m_ (p:=let z0:=(0:Int);An [Sm (i6 0),An [TT 2,_],_,_,(z0 != z0)=false,((↑a.length:Int) != (↑cs.length:Int))=false,decide ((↑cards.length:Int)>(5:Int))=false,decide (lim<z0)=false,decide (lim>(4:Int))=false,An [z0=z0,_],_]) ⟨aq,⟨aq,aq⟩,hd,aq,aq,aq,aq,aq,aq,⟨aq,aq⟩,aq⟩
def fF(cards:List Int)(cs:List (List Int))(v p:Nat):Nat→Int:=if v<cards.length then famG cards cs v p else Qap
theorem Qrj{cards:List Int}{cs:List (List Int)}(h:goodE cards cs=0)(h40:cs.length≤40)(v p:Nat):inB (fF cards cs v p) 160:=by
 have hw:=Qky h
 unfold fF
 split
 ·intro i hi
  unfold famG
  exact fam_le hw.cok hw.rok (by rw[Qax];omega) (by rw[List.length_map];exact h40) hi
 ·exact inB_zero.mono (by decide)
section
variable (n lim:Nat) (F:Nat→Nat→Nat→Int)
def laT:Nat→Nat→Nat
 |0=>fun _=>0
 |s+1=>sL s (stB n lim F s) (laT s)
def paT:Nat→Nat→Nat
 |0=>fun _=>0
 |s+1=>sP s (stB n lim F s) (paT s)
def allA:Nat→(Nat→Nat×Nat)×Nat
 |0=>(fun _=>(0,0),0)
 |s+1=>outA lim s (allA s).1 (allA s).2 n
end
theorem tab_next(n lim:Nat)(F:Nat→Nat→Nat→Int)(s:Nat):sB s (stB n lim F s) (tabB n lim F s)=tabB n lim F (s+1):=rfl
theorem tab_none(n lim:Nat)(F:Nat→Nat→Nat→Int)(s:Nat):sB s none (tabB n lim F s)=tabB n lim F s:=by
 funext i
 unfold sB
 split
 ·rename_i h
  rw[Qdh,if_neg (by omega)];rfl
 ·rfl
theorem la_ge(n lim:Nat)(F:Nat→Nat→Nat→Int): ∀(s i:Nat),s≤i→laT n lim F s i=0
 |0,_,_=>rfl
 |s+1,i,h=>by
  unfold laT sL
  rw[if_neg (by omega)]
  exact la_ge n lim F s i (by omega)
theorem pa_ge(n lim:Nat)(F:Nat→Nat→Nat→Int): ∀(s i:Nat),s≤i→paT n lim F s i=0
 |0,_,_=>rfl
 |s+1,i,h=>by
  unfold paT sP
  rw[if_neg (by omega)]
  exact pa_ge n lim F s i (by omega)
theorem la_none(n lim:Nat)(F:Nat→Nat→Nat→Int)(s:Nat):sL s none (laT n lim F s)=laT n lim F s:=by
 funext i
 unfold sL
 split
 ·rename_i h
  rw[la_ge n lim F s i (by omega)];rfl
 ·rfl
theorem pa_none(n lim:Nat)(F:Nat→Nat→Nat→Int)(s:Nat):sP s none (paT n lim F s)=paT n lim F s:=by
 funext i
 unfold sP
 split
 ·rename_i h
  rw[pa_ge n lim F s i (by omega)];rfl
 ·rfl
theorem la_at(n lim:Nat)(F:Nat→Nat→Nat→Int): ∀(s i:Nat),i<s→laT n lim F s i=vO (stB n lim F i)
 |s+1,i,h=>by
  unfold laT sL
  by_cases e:i=s
  ·rw[if_pos e,e]
  ·rw[if_neg e];exact la_at n lim F s i (by omega)
theorem pa_at(n lim:Nat)(F:Nat→Nat→Nat→Int): ∀(s i:Nat),i<s→paT n lim F s i=pO (stB n lim F i)
 |s+1,i,h=>by
  unfold paT sP
  by_cases e:i=s
  ·rw[if_pos e,e]
  ·rw[if_neg e];exact pa_at n lim F s i (by omega)
theorem outA_pos(lim s:Nat)(q:Nat→Nat×Nat)(k:Nat)(hb:s.testBit 0=true): ∀n,1≤n→1≤(outA lim s q k n).2
 |0,h=>absurd h (by decide)
 | n + 1, _ => by
  have h1:1≤(outA lim s q k 1).2:=by
   rw[outA,if_pos hb]
   by_cases hk:k=0
   ·subst hk
    exact Qj8 (s+1) (by omega) (Qb4.2 ⟨Nat.zero_and _,Nat.zero_testBit _,Nat.zero_le _⟩) rfl
   ·have := Qec lim s 0 q k (s + 1)
    unfold innK at this
    show 1≤(innA lim s 0 q k (s+1)).2
    omega
  have: ∀m,(outA lim s q k 1).2≤(outA lim s q k (m+1)).2:=fun m=>by
   induction m with
   |zero=>exact Nat.le_refl _
   | succ m ih =>
    refine Nat.le_trans ih ?_
    have e:outA lim s q k (m+1+1)=if s.testBit (m+1)then innA lim s (m+1) (outA lim s q k (m+1)).1 (outA lim s q k (m+1)).2 (s+1)else outA lim s q k (m+1):=rfl
    rw[e]
    split
    ·have := Qec lim s (m + 1) (outA lim s q k (m + 1)).1 (outA lim s q k (m + 1)).2 (s + 1)
     unfold innK at this
     exact this.1
    ·exact Nat.le_refl _
  exact Nat.le_trans h1 (this n)
theorem Qpb(n lim:Nat)(hn:1≤n): ∀s,2≤s→1≤(allA n lim s).2
 |0,h=>absurd h (by decide)
 |1,h=>absurd h (by decide)
 |2,_=>outA_pos lim 1 _ _ rfl n hn
 |s+3,_=>Nat.le_trans (Qpb n lim hn (s+2) (by omega)) (Qhc lim (s+2) _ _ n).1
theorem Qnl(n lim:Nat)(hn:n≤5): ∀s,s≤32→(allA n lim s).2≤s*160
 |0,_=>Nat.le_refl _
 |s+1,h=>by
  have ih:=Qnl n lim hn s (by omega)
  have:=(Qhc lim s (allA n lim s).1 (allA n lim s).2 n).2
  have h2:n*(s+1)≤5*32:=Nat.mul_le_mul hn (by omega)
  show(outA lim s (allA n lim s).1 (allA n lim s).2 n).2≤_
  omega
theorem Qqx(a b:Nat→Int){k:Nat}(hk:k<18):sumF a b k=a k+1*b k:=by
 unfold sumF
 rw[Qcg,if_pos hk]
theorem alltry{cards:List Int}{cs:List (List Int)}(hl2:cs.length≤40)(hcl: ∀c∈cs,c.length≤1000)(h:goodE cards cs=0)(hn:cards.length≤5)(lim s v:Nat)(hs:s<2^cards.length)(hv:v<cards.length)(hb:s.testBit v=true):
  Qeg cards cs (fF cards cs) (2^cards.length) lim s v (tabB cards.length lim (fF cards cs) s):=by
 have h32:=Qau hn
 have hF:=Qrj h hl2
 have ht: ∀t,inB (tabB cards.length lim (fF cards cs) s t) 800:=fun t=>by
  rw[Qdh]
  split
  ·exact Qhx hF hn (by omega)
  ·exact inB_zero.mono (by decide)
 obtain⟨r1,r2,r3⟩:=Qb6 s (by omega) v (by omega) hb
 have hp0:0<2^v:=Nat.pow_pos (by decide)
 have hbd: ∀p,inB (tryF (fF cards cs) (tabB cards.length lim (fF cards cs) s) s v p) 1000:=fun p=>((ht _).add (hF v p)).mono (by decide)
 refine⟨by omega,by omega,hb,hbd,fun p b hok hG=>⟨hs,by omega,by omega,fun G T=>Qm4 (by omega),fun G T=>Qsk (by omega) (by omega) hb,?_,fun v' p' y e=>?_,?_⟩⟩
 ·have hsum : arF (sumF (tabB cards.length lim (fF cards cs) s (s - 2 ^ v)) (fF cards cs v p)) = arF (tryF (fF cards cs) (tabB cards.length lim (fF cards cs) s) s v p) := Qcq fun k hk => by
   show sumF _ _ k=tabB cards.length lim (fF cards cs) s (s-2^v) k+1*fF cards cs v p k
   exact Qqx _ _ hk
  have:=add_ok (tabB cards.length lim (fF cards cs) s (s-2^v)) (fF cards cs v p) ((ht _).inA (by decide)) ((hF v p).inA (by decide)) (by
   refine Qt6 fun k hk=>?_
   have h1:=ht (s-2^v) k hk
   have h2:=hF v p k hk
   have:sumF (tabB cards.length lim (fF cards cs) s (s-2^v)) (fF cards cs v p) k=tabB cards.length lim (fF cards cs) s (s-2^v) k+1*fF cards cs v p k:=Qqx _ _ hk
   omega)
  rw[show ar (sumF (tabB cards.length lim (fF cards cs) s (s-2^v)) (fF cards cs v p))=ar (tryF (fF cards cs) (tabB cards.length lim (fF cards cs) s) s v p)from congrArg V.agg hsum]at this
  exact this
 ·exact Qsw _ _ ((hbd p).inA (by decide)) ((hG v' p' y e).inA (by decide))
 ·have ho := Qb4.1 hok
  have hps:p≤s:=by rw[←ho.1];exact Nat.and_le_right
  have hF2:fF cards cs v p=famG cards cs v p:=if_pos hv
  rw[hF2]
  refine Qva cards cs v p (by omega) (by omega) hcl h ?_
  unfold memB
  have e1:p/2^cards.length=0:=Nat.div_eq_of_lt (by omega)
  have e2:p/2^v%2=0:=by
   have:=ho.2.1
   rw[Nat.testBit_eq_decide_div_mod_eq]at this
   have:=of_decide_eq_false this
   omega
  simp[e1,e2,hv]
section
variable (cards:List Int) (cs:List (List Int)) (F:Nat→Nat→Nat→Int) (size lim:Nat)
abbrev smZ(s:Nat):List (Nat×V):=[(1,i6 (lim:Nat)),(2,.ptr 0 0),(4,.ptr 1 0),(5,.ptr 2 0),(6,.ptr 3 0),(8,i6 (size:Nat)),(9,.ptr 7 0),(10,.ptr 10 0),(39,i6 (size:Nat)),(40,i6 (s:Nat))]
abbrev smO(q:Nat→Nat×Nat)(B:Nat→Nat→Int)(la pa:Nat→Nat)(hs k:Nat):List O:=[.row 31 none [sl cards,gC cs],.row 73 none [.nilp],.row 38 none [.nils,.nils],.row 32 none [i6 0],.row 44 none (bF B size),.map (entM q k) k,.row 81 none (toC cards cs size 4 5 hs k),.row 73 none [.ptr 6 0],.row 3 none (nF la size),.row 50 none (uF pa size),.row 38 none [.sl 8 0 size (some (size-size)),.sl 9 0 size (some (size-size))]]
abbrev sSx(x:Nat×(Nat→Nat×Nat)×Nat×(Nat→Nat→Int)×(Nat→Nat)×(Nat→Nat)):SL:={sl:=smZ size lim x.1,os:=match x.2.2.1 with|0=>smO cards cs size x.2.1 x.2.2.2.1 x.2.2.2.2.1 x.2.2.2.2.2 11 0|k+1=>smO cards cs size x.2.1 x.2.2.2.1 x.2.2.2.2.1 x.2.2.2.2.2 11 (k+1)++[scO F x.2.1 k],md:=clM}
end
theorem Qu9(cards:List Int)(cs:List (List Int))(hl2:cs.length≤40)(hcl: ∀c∈cs,c.length≤1000)(h:goodE cards cs=0)(hn1:1≤cards.length)(hn:cards.length≤5)(lim:Nat)(F:Nat→Nat→Nat→Int)(hF:F=fF cards cs)(n:Nat)(hnl:n=cards.length)(size:Nat)(hsz:size=2^n)(q1:Nat→Nat×Nat)(k1:Nat)(hA:allA n lim size=(q1,k1))(B1:Nat→Nat→Int)(hB1:tabB n lim F size=B1)(la1:Nat→Nat)(hla1:laT n lim F size=la1)(pa1:Nat→Nat)(hpa1:paT n lim F size=pa1):
  Sat Pg none 0 (at' 20 [1,1,1,1,1,0,1,0]) (mkSt g0 75 (sSx cards cs F size lim (0,(fun _=>(0,0)),0,(fun _=>Qap),(fun _=>0),(fun _=>0)))) (Qaf g0 75 [(True,.exit 0,sSx cards cs F size lim (size,q1,k1,B1,la1,pa1))]):=by
 have hc:=Qab cards
 have hg:=Qav cs
 have hla:=fun la=>Qah la size
 have hpa:=fun pa=>Qag pa size
 have hBB:=fun B=>Qaa B size
 have hEE:=fun q k=>Qac q k
 have hSS:=fun q k=>Qaa (scF F q) k
 have h32:size≤32:=by rw[hsz,hnl];exact Qau hn
 refine Qa6 vE_ok mixed Qad (b:=at' 20 [1,1,1,1,1,0,1,0,0]) (by kernel_rfl) (fun x=>x.1≤size∧allA n lim x.1=(x.2.1,x.2.2.1)∧tabB n lim F x.1=x.2.2.2.1∧laT n lim F x.1=x.2.2.2.2.1∧paT n lim F x.1=x.2.2.2.2.2) (sSx cards cs F size lim) (fun x=>size-x.1) (fun x hx=>?_) (0,(fun _=>(0,0)),0,(fun _=>Qap),(fun _=>0),(fun _=>0)) ⟨Nat.zero_le _,rfl,rfl,rfl,rfl⟩
 obtain⟨s,q,k,B,la,pa⟩:=x
 obtain⟨hs,eA,eB,eL,eP⟩:=hx
 dsimp only at hs eA eB eL eP
 have hkb:=Qnl n lim (by omega) s (by omega)
 rw[eA]at hkb
 dsimp only at hkb
 by_cases hlt:s<size
 ·generalize hout : outA lim s q k n = z
  obtain⟨q2,k2⟩:=z
  generalize hb2:outB lim F B s n=b2
  have l:=Qnq cards cs F size lim n s B la pa (by omega) (by omega) (fun v hv hb=>by
   subst hF hnl hsz
   rw[←eB]
   exact alltry hl2 hcl h hn lim s v hlt hv hb) q k (by omega) q2 k2 b2 hout hb2
  have eB0:sB s none B=B:=by rw[←eB];exact tab_none n lim F s
  have eL0:sL s none la=la:=by rw[←eL];exact la_none n lim F s
  have eP0:sP s none pa=pa:=by rw[←eP];exact pa_none n lim F s
  have zB:bF (sB s none B) size=bF B size:=by rw[eB0]
  have zL:nF (sL s none la) size=nF la size:=by rw[eL0]
  have zP:uF (sP s none pa) size=uF pa size:=by rw[eP0]
  have hst:stB n lim F s=b2:=by unfold stB;rw[eB];exact hb2
  have eA2:allA n lim (s+1)=(q2,k2):=by
   show outA lim s (allA n lim s).1 (allA n lim s).2 n=_
   rw[eA];exact hout
  have eB2:tabB n lim F (s+1)=sB s b2 B:=by rw[←tab_next,hst,eB]
  have eL2:laT n lim F (s+1)=sL s b2 la:=by show sL s (stB n lim F s) (laT n lim F s)=_;rw[hst,eL]
  have eP2:paT n lim F (s+1)=sP s b2 pa:=by show sP s (stB n lim F s) (paT n lim F s)=_;rw[hst,eP]
  have hmono:=(Qhc lim s q k n).1
  rw[hout]at hmono
  dsimp only at hmono
  subst hnl
  clear h hA hB1 hla1 hpa1 hst hout hb2 eA eB eL eP
  cases k with
  | zero =>
   cases k2 with
   |zero=>
    skip
    refine .inl ⟨(s+1,q2,0,sB s b2 B,sL s b2 la,sP s b2 pa),[0,1,2,3,4,5,6,7,8,9,10],[yes 41,(0,.loop [0,1,2,3,4,5,6,7,8,9,10,11,12,13] (vSx cards cs F size lim cards.length s B la pa (0,q,0,none)) [(True,.exit 2,vSx cards cs F size lim cards.length s B la pa (cards.length,q2,0,b2))]),nu 72 ((s+1:Nat):Int)],1000,⟨hlt,eA2,eB2,eL2,eP2⟩,by dsimp only;omega,?_⟩
    exact m_ (p:=let y5:=An [Zz,Sm size,Sm (size-size)];let y6:=An [Sm [V.nilp],Tt,Tt];let y7:=An [Sm [i6 0],Tt,Tt];let z0:=(↑size:Int);let z1:=[sl cards,gC cs];let z2:=[V.nils,V.nils];let z3:=nF (sL s b2 la) size;let z4:=uF (sP s b2 pa) size;let z5:=(↑lim:Int);let z6:=List.map sl cs;let z7:=bF (sB s b2 B) size;let z8:=(↑(s+1):Int);let z9:=(↑s:Int);let y0:=ints cards;let y3:=(↑cards.length:Int);An [decide (z9<z0)=true,An [An [z5=z5,Zz,Zz,Zz,Zz,z0=z0,Zz,Zz,Zz,Zz,Zz,z0=z0,z9=z9,y3=y3,(↑(0:Nat):Int)=(0:Int),_],An [z1=z1,TT 2],y6,An [z2=z2,TT 2],y7,An [_,HfL (bF (sB s none B) size)],An [Sm (entM q 0),HfE (entM q 0),Zz],An [An [Sm cards.length,y0=y0],An [Sm cs.length,z6=z6],y5,TT 2],An [Zz,_],An [_,HfL (nF (sL s none la) size)],An [_,HfL (uF (sP s none pa) size)],An [y5,y5,_],An [Sm [i6 ↑s],_,_],An [[V.bool (Qaq none)]=[V.bool false],_,_],An [An [Zz,Zz,Zz,Zz,_],_],_],_,(True->An [wr .i64 (z9+(1:Int))=z8,An [z5=z5,Zz,Zz,Zz,Zz,z0=z0,Zz,Zz,z0=z0,z8=z8,_],An [z1=z1,TT 2],y6,An [z2=z2,TT 2],y7,An [z7=z7,HfL z7],An [Sm (entM q2 0),HfE (entM q2 0),Zz],An [An [Sm cards.length,y0=y0],An [Sm cs.length,z6=z6],y5,TT 2],An [Zz,_],An [z3=z3,HfL z3],An [z4=z4,HfL z4],An [y5,y5,_],_]),_]) ⟨aq,⟨⟨aq,aq,aq,aq,aq,aq,aq,aq,aq,aq,aq,aq,aq,aq,aq,aq⟩,a_,aq,a_,aq,⟨zB,aq⟩,a_,a_,⟨aq,aq⟩,⟨zL,aq⟩,⟨zP,aq⟩,⟨aq,aq,aq⟩,⟨aq,aq,aq⟩,⟨(by rfl),aq,aq⟩,⟨⟨aq,aq,aq,aq,aq⟩,aq⟩,aq⟩,l,(fun _=>⟨aq,⟨aq,aq,aq,aq,aq,aq,aq,aq,aq,aq,aq⟩,a_,aq,a_,aq,a_,a_,a_,⟨aq,aq⟩,a_,a_,⟨aq,aq,aq⟩,aq⟩),aq⟩
   |succ k2=>
    skip
    refine .inl ⟨(s+1,q2,(k2+1),sB s b2 B,sL s b2 la,sP s b2 pa),[0,1,2,3,4,5,6,7,8,9,10,14],[yes 41,(0,.loop [0,1,2,3,4,5,6,7,8,9,10,11,12,13] (vSx cards cs F size lim cards.length s B la pa (0,q,0,none)) [(True,.exit 2,vSx cards cs F size lim cards.length s B la pa (cards.length,q2,(k2+1),b2))]),nu 72 ((s+1:Nat):Int)],1000,⟨hlt,eA2,eB2,eL2,eP2⟩,by dsimp only;omega,?_⟩
    exact m_ (p:=let y7:=An [Zz,Sm size,Sm (size-size)];let y8:=An [Sm [V.nilp],Tt,Tt];let y9:=An [Sm [i6 0],Tt,Tt];let z0:=(↑size:Int);let z1:=[sl cards,gC cs];let z2:=[V.nils,V.nils];let z3:=bF (scF F q2) (k2+1);let z4:=nF (sL s b2 la) size;let z5:=uF (sP s b2 pa) size;let z6:=(↑lim:Int);let z7:=List.map sl cs;let z8:=bF (sB s b2 B) size;let z9:=(↑(s+1):Int);let y0:=(↑s:Int);let y1:=entM q2 (k2+1);let y2:=ints cards;let y5:=(↑cards.length:Int);An [decide (y0<z0)=true,An [An [z6=z6,Zz,Zz,Zz,Zz,z0=z0,Zz,Zz,Zz,Zz,Zz,z0=z0,y0=y0,y5=y5,(↑(0:Nat):Int)=(0:Int),_],An [z1=z1,TT 2],y8,An [z2=z2,TT 2],y9,An [_,HfL (bF (sB s none B) size)],An [Sm (entM q 0),HfE (entM q 0),Zz],An [An [Sm cards.length,y2=y2],An [Sm cs.length,z7=z7],y7,TT 2],An [Zz,_],An [_,HfL (nF (sL s none la) size)],An [_,HfL (uF (sP s none pa) size)],An [y7,y7,_],An [Sm [i6 ↑s],_,_],An [[V.bool (Qaq none)]=[V.bool false],_,_],An [An [Zz,Zz,Zz,Zz,_],_],_],_,(True->An [wr .i64 (y0+(1:Int))=z9,An [z6=z6,Zz,Zz,Zz,Zz,z0=z0,Zz,Zz,z0=z0,z9=z9,_],An [z1=z1,TT 2],y8,An [z2=z2,TT 2],y9,An [z8=z8,HfL z8],An [y1=y1,HfE y1,Sm (k2+1)],An [An [Sm cards.length,y2=y2],An [Sm cs.length,z7=z7],y7,_,An [Zz,Sm (k2+1),_],_],An [Zz,_],An [z4=z4,HfL z4],An [z5=z5,HfL z5],An [y7,y7,_],An [z3=z3,HfL z3],_]),_]) ⟨aq,⟨⟨aq,aq,aq,aq,aq,aq,aq,aq,aq,aq,aq,aq,aq,aq,aq,aq⟩,a_,aq,a_,aq,⟨zB,aq⟩,a_,a_,⟨aq,aq⟩,⟨zL,aq⟩,⟨zP,aq⟩,⟨aq,aq,aq⟩,⟨aq,aq,aq⟩,⟨(by rfl),aq,aq⟩,⟨⟨aq,aq,aq,aq,aq⟩,aq⟩,aq⟩,l,(fun _=>⟨aq,⟨aq,aq,aq,aq,aq,aq,aq,aq,aq,aq,aq⟩,a_,aq,a_,aq,a_,a_,⟨a_,a_,aq,aq,⟨aq,aq,aq⟩,aq⟩,⟨aq,aq⟩,a_,a_,⟨aq,aq,aq⟩,a_,aq⟩),aq⟩
  | succ k =>
   cases k2 with
   |zero=>exact absurd hmono (by omega)
   |succ k2=>
    skip
    refine .inl ⟨(s+1,q2,(k2+1),sB s b2 B,sL s b2 la,sP s b2 pa),[0,1,2,3,4,5,6,7,8,9,10,14],[yes 41,(0,.loop [0,1,2,3,4,5,6,7,8,9,10,12,13,14,11] (vSx cards cs F size lim cards.length s B la pa (0,q,(k+1),none)) [(True,.exit 2,vSx cards cs F size lim cards.length s B la pa (cards.length,q2,(k2+1),b2))]),nu 72 ((s+1:Nat):Int)],1000,⟨hlt,eA2,eB2,eL2,eP2⟩,by dsimp only;omega,?_⟩
    exact m_ (p:=let y9:=An [Zz,Sm size,Sm (size-size)];let x0:=An [Sm [V.nilp],Tt,Tt];let x1:=An [Sm [i6 0],Tt,Tt];let z0:=(↑size:Int);let z1:=[sl cards,gC cs];let z2:=[V.nils,V.nils];let z3:=bF (scF F q2) (k2+1);let z4:=bF (scF F q) (k+1);let z5:=nF (sL s b2 la) size;let z6:=uF (sP s b2 pa) size;let z7:=(↑lim:Int);let z8:=List.map sl cs;let z9:=bF (sB s b2 B) size;let y0:=(↑(s+1):Int);let y1:=(↑s:Int);let y2:=entM q2 (k2+1);let y3:=entM q (k+1);let y4:=ints cards;let y7:=(↑cards.length:Int);An [decide (y1<z0)=true,An [An [z7=z7,Zz,Zz,Zz,Zz,z0=z0,Zz,Zz,Zz,Zz,Zz,z0=z0,y1=y1,y7=y7,(↑(0:Nat):Int)=(0:Int),_],An [z1=z1,TT 2],x0,An [z2=z2,TT 2],x1,An [_,HfL (bF (sB s none B) size)],An [y3=y3,HfE y3,Sm (k+1)],An [An [Sm cards.length,y4=y4],An [Sm cs.length,z8=z8],y9,_,An [Zz,Sm (k+1),_],_],An [Zz,_],An [_,HfL (nF (sL s none la) size)],An [_,HfL (uF (sP s none pa) size)],An [y9,y9,_],An [Sm [i6 ↑s],_,_],An [[V.bool (Qaq none)]=[V.bool false],_,_],An [An [Zz,Zz,Zz,Zz,_],_],An [z4=z4,HfL z4],_],_,(True->An [wr .i64 (y1+(1:Int))=y0,An [z7=z7,Zz,Zz,Zz,Zz,z0=z0,Zz,Zz,z0=z0,y0=y0,_],An [z1=z1,TT 2],x0,An [z2=z2,TT 2],x1,An [z9=z9,HfL z9],An [y2=y2,HfE y2,Sm (k2+1)],An [An [Sm cards.length,y4=y4],An [Sm cs.length,z8=z8],y9,_,An [Zz,Sm (k2+1),_],_],An [Zz,_],An [z5=z5,HfL z5],An [z6=z6,HfL z6],An [y9,y9,_],An [z3=z3,HfL z3],_]),_]) ⟨aq,⟨⟨aq,aq,aq,aq,aq,aq,aq,aq,aq,aq,aq,aq,aq,aq,aq,aq⟩,a_,aq,a_,aq,⟨zB,aq⟩,a_,⟨a_,a_,aq,aq,⟨aq,aq,aq⟩,aq⟩,⟨aq,aq⟩,⟨zL,aq⟩,⟨zP,aq⟩,⟨aq,aq,aq⟩,⟨aq,aq,aq⟩,⟨(by rfl),aq,aq⟩,⟨⟨aq,aq,aq,aq,aq⟩,aq⟩,a_,aq⟩,l,(fun _=>⟨aq,⟨aq,aq,aq,aq,aq,aq,aq,aq,aq,aq,aq⟩,a_,aq,a_,aq,a_,a_,⟨a_,a_,aq,aq,⟨aq,aq,aq⟩,aq⟩,⟨aq,aq⟩,a_,a_,⟨aq,aq,aq⟩,a_,aq⟩),aq⟩
 ·have he : s = size := by omega
  subst he
  rw[eA]at hA
  rw[eB]at hB1
  rw[eL]at hla1
  rw[eP]at hpa1
  obtain⟨rfl,rfl⟩:=Prod.mk.inj hA
  subst hB1 hla1 hpa1
  clear h hA eA eB eL eP
  cases k with
  |zero=>
   skip
   refine .inr ⟨.exit 0,[0,1,2,3,4,5,6,7,8,9,10],_,[no 41],1000,.inl ⟨trivial,rfl,rfl⟩,?_⟩
   exact m_ (p:=let z0:=(↑s:Int);An [decide (z0<z0)=false,An [Sm (↑lim:Int),Zz,Zz,Zz,Zz,z0=z0,Zz,Zz,z0=z0,z0=z0,_],An [Sm [sl cards,gC cs],TT 2],An [Sm [V.nilp],_,_],An [Sm [V.nils,V.nils],TT 2],An [Sm [i6 0],_,_],An [Sm (bF B s),HfL (bF B s)],An [Sm (entM q 0),HfE (entM q 0),Zz],An [An [Sm cards.length,Sm (ints cards)],An [Sm cs.length,Sm (List.map sl cs)],An [Zz,s=s,Sm (s-s)],TT 2],An [Zz,_],An [Sm (nF la s),HfL (nF la s)],An [Sm (uF pa s),HfL (uF pa s)],An [An [Zz,s=s,Sm (s-s)],An [Zz,s=s,Sm (s-s)],_],_]) ⟨aq,⟨aq,aq,aq,aq,aq,aq,aq,aq,aq,aq,aq⟩,a_,⟨aq,aq,aq⟩,a_,⟨aq,aq,aq⟩,a_,a_,a_,⟨aq,aq⟩,a_,a_,⟨a_,a_,aq⟩,aq⟩
  |succ k=>
   skip
   refine .inr ⟨.exit 0,[0,1,2,3,4,5,6,7,8,9,10,11],_,[no 41],1000,.inl ⟨trivial,rfl,rfl⟩,?_⟩
   exact m_ (p:=let z0:=(↑s:Int);let z1:=bF (scF F q) (k+1);let z2:=entM q (k+1);An [decide (z0<z0)=false,An [Sm (↑lim:Int),Zz,Zz,Zz,Zz,z0=z0,Zz,Zz,z0=z0,z0=z0,_],An [Sm [sl cards,gC cs],TT 2],An [Sm [V.nilp],_,_],An [Sm [V.nils,V.nils],TT 2],An [Sm [i6 0],_,_],An [Sm (bF B s),HfL (bF B s)],An [z2=z2,HfE z2,Sm (k+1)],An [An [Sm cards.length,Sm (ints cards)],An [Sm cs.length,Sm (List.map sl cs)],An [Zz,s=s,Sm (s-s)],_,An [Zz,Sm (k+1),_],_],An [Zz,_],An [Sm (nF la s),HfL (nF la s)],An [Sm (uF pa s),HfL (uF pa s)],An [An [Zz,s=s,Sm (s-s)],An [Zz,s=s,Sm (s-s)],_],An [z1=z1,HfL z1],_]) ⟨aq,⟨aq,aq,aq,aq,aq,aq,aq,aq,aq,aq,aq⟩,a_,⟨aq,aq,aq⟩,a_,⟨aq,aq,aq⟩,a_,a_,⟨a_,a_,a_,aq,⟨aq,aq,aq⟩,aq⟩,⟨aq,aq⟩,a_,a_,⟨a_,a_,aq⟩,a_,aq⟩
section
variable (cards:List Int) (cs:List (List Int)) (F:Nat→Nat→Nat→Int) (size:Nat) (q:Nat→Nat×Nat) (B:Nat→Nat→Int) (la pa:Nat→Nat) (k:Nat)
abbrev cbO:List O:=[.row 44 none (bF B size),.map (entM q (k+1)) (k+1),.row 81 none (toC cards cs size 0 1 5 (k+1)),.row 3 none (nF la size),.row 50 none (uF pa size),scO F q k]
abbrev cbL:V:=.agg [.sl 3 0 size (some (size-size)),.sl 4 0 size (some (size-size))]
abbrev cbV:V:=.tup [.ptr 2 0,cbL size,i6 0]
end
theorem cb_sc(cards:List Int)(cs:List (List Int))(F:Nat→Nat→Nat→Int)(size:Nat)(q:Nat→Nat×Nat)(B:Nat→Nat→Int)(la pa:Nat→Nat)(k:Nat): ∀o∈cbO cards cs F size q B la pa k,ScO (fun i=>i<6) o:=by
 intro o ho
 simp only[List.mem_cons,List.not_mem_nil,or_false]at ho
 rcases ho with rfl|rfl|rfl|rfl|rfl|rfl
 ·exact HfL.sc _ (Qaa _ _)
 ·exact HfE.sc _ (Qac _ _)
 ·exact⟨trivial,trivial,(show 0<6 by decide),(show 1<6 by decide),(show 5<6 by decide),trivial⟩
 ·exact HfL.sc _ (Qah _ _)
 ·exact HfL.sc _ (Qag _ _)
 ·exact HfL.sc _ (Qaa _ _)
theorem pow_len{n:Nat}(h:n≤5): ∀(G:Ctx)(t:Nat),binV G .shl t (i6 1) (i6 (n:Int))=some (i6 ((2^n:Nat):Int)):=fun G t=>Qm4 (by omega)
theorem rep_bF(n:Nat):rep n (arF Qap)=bF (fun _=>Qap) n:=Qhm n
theorem rep_nF0(n:Nat):rep n [i6 0]=nF (fun _=>0) n:=Qhm n
theorem Qod(n:Nat):rep n [u6 0]=uF (fun _=>0) n:=Qhm n
theorem Qkq{cards:List Int}{cs:List (List Int)}{lim:Int}(h:Qib cards cs lim=0):goodE cards cs=0∧1≤cards.length∧cards.length≤5∧0≤lim∧lim≤4∧cs.length≤40∧(∀c∈cs,c.length=cards.length):=by
 unfold Qib at h
 by_cases hg:goodE cards cs=0
 ·rw [if_pos hg] at h
  have h2: ¬(5<cards.length∨lim<0∨4<lim):=fun hh=>by rw[if_pos hh]at h;cases h
  have hok:okAll cards cs=true:=by
   unfold goodE at hg
   cases hh:okAll cards cs with
   |true=>rfl
   |false=>rw[hh]at hg;simp at hg
  have hb:decide (1≤cards.length)=true∧decide (cards.length≤6)=true∧decide (cs.length≤40)=true∧okCs cards=true∧decide (prodT cards cards.length≤1024)=true∧cs.all (okRow cards)=true:=by
   unfold okAll at hok
   simpa [Bool.and_eq_true]using hok
  refine⟨hg,of_decide_eq_true hb.1,by omega,by omega,by omega,of_decide_eq_true hb.2.2.1,fun c hcm=>?_⟩
  have:=List.all_eq_true.1 hb.2.2.2.2.2 c hcm
  unfold okRow at this
  rw[Bool.and_eq_true]at this
  exact of_decide_eq_true this.1
 ·rw [if_neg hg] at h
  exact absurd h hg
theorem Qjw(cards:List Int)(cs:List (List Int))(lim:Nat)(he:Qib cards cs (lim:Int)=0):
  ∃(q:Nat→Nat×Nat)(k:Nat),k≤100000∧CallSpec Pg g0 (.fn 20 []) [gV cards cs,i6 (lim:Int)] (ofOs .e 0 []) 0 ⟨cbV (2^cards.length),ofOs .e 0 (cbO cards cs (fF cards cs) (2^cards.length) q (tabB cards.length lim (fF cards cs) (2^cards.length)) (laT cards.length lim (fF cards cs) (2^cards.length)) (paT cards.length lim (fF cards cs) (2^cards.length)) k),6,[]⟩:=by
 obtain⟨hg0,hn1,hn5,_,_,hl2,hcl⟩:=Qkq he
 have hd:=Qu7 cards cs (lim:Int) (by omega) (by omega)
 rw[he]at hd
 have hg:=Qav cs
 have hc:=Qab cards
 have hp2:=pow_len hn5
 have h32:=Qau hn5
 have hk0:=Qpb cards.length lim hn1 (2^cards.length) (Nat.le_trans (by decide) (Nat.pow_le_pow_right (show 0<2 by decide) hn1))
 have hpos:1≤2^cards.length:=Nat.pow_pos (by decide)
 have hkb:=Qnl cards.length lim hn5 (2^cards.length) h32
 generalize hA:allA cards.length lim (2^cards.length)=z at hk0 hkb
 obtain⟨q1,k1⟩:=z
 cases k1 with
 |zero=>exact absurd (show 1≤0 from hk0) (by decide)
 | succ k =>
  have hkb':k≤100000:=by dsimp only at hkb;omega
  have l:=Qu9 cards cs hl2 (fun c h=>by rw[hcl c h];omega) hg0 hn1 hn5 lim (fF cards cs) rfl cards.length rfl (2^cards.length) rfl q1 (k+1) hA _ rfl _ rfl _ rfl
  generalize tabB cards.length lim (fF cards cs) (2^cards.length)=B at*
  generalize laT cards.length lim (fF cards cs) (2^cards.length)=la at*
  generalize paT cards.length lim (fF cards cs) (2^cards.length)=pa at*
  generalize fF cards cs=F at*
  generalize 2^cards.length=size at*
  refine⟨q1,k,hkb',CallSpec.dropL (os1:=cbO cards cs F size q1 B la pa k) [.row 73 none [.ptr 2 0],.row 38 none [.sl 3 0 size (some (size-size)),.sl 4 0 size (some (size-size))],.row 32 none [i6 0]] ?_ (Nat.zero_le _) ⟨(show 2<6 by decide),⟨(show 3<6 by decide),(show 4<6 by decide),trivial⟩,trivial,trivial⟩ (cb_sc cards cs F size q1 B la pa k) (fun i hi _=>absurd hi (Nat.not_lt_zero _))⟩
  have hB:=Qaa B size
  have hla:=Qah la size
  have hpa:=Qag pa size
  have hE:=Qac q1 (k+1)
  have hS:=Qaa (scF F q1) (k+1)
  have hr1:=rep_bF size
  have hr2:=rep_nF0 size
  have hr3:=Qod size
  have hB0:=Qaa (fun _=>Qap) size
  have hla0:=Qah (fun _=>0) size
  have hpa0:=Qag (fun _=>0) size
  clear hA he
  refine CallSpec.of_vcH (P:=Pg) (E:=vE) vE_ok mixed Qad (n:=1000) (f:=20) (os0:=[]) (ars:=[gV cards cs,i6 (lim:Int)]) (r:=[4,5,6,8,9,11,1,2,3])
   (S:={sl:=[(4,.ptr 6 0),(5,.ptr 7 0),(6,.ptr 8 0)],os:=cbO cards cs F size q1 B la pa k++[.row 73 none [.ptr 2 0],.row 38 none [.sl 3 0 size (some (size-size)),.sl 4 0 size (some (size-size))],.row 32 none [i6 0]],md:=[0,0,1,0,0,0,1,1]}) (v:=cbV size) (hs:=[fn 19 (i6 0),no 21,va 27 (i6 (size:Nat)),mk 30,mk 35,mk 37,(0,.loop [0,1,2,3,4,5,6,7,8,9,10] (sSx cards cs F size lim (0,(fun _=>(0,0)),0,(fun _=>Qap),(fun _=>0),(fun _=>0))) [(True,.exit 0,sSx cards cs F size lim (size,q1,k+1,B,la,pa))])]) (gl:=g0) (by simp) (fun i hi hno=>absurd hi (Nat.not_lt_zero _)) ?_
  exact m_ (p:=let z9:=An [Zz,Sm size,Sm (size-size)];let y0:=An [Sm [i6 0],Tt,Tt];let z0:=(↑size:Int);let z1:=List.map sl cs;let z2:=(9223372036854775807:Int);let z3:=(281474976710656:Int);let z4:=bF (scF F q1) (k+1);let z5:=(0:Int);let z6:=ints cards;let z7:=entM q1 (k+1);let z8:=some (size-size);An [V.tup [V.ptr 2 0,V.agg [V.sl 3 0 size z8,V.sl 4 0 size z8],i6 0]=cbV size,An [TT 2,_,_],_,_,(z5 != z5)=false,binV (Qae Pg) .shl 3 (i6 1) (i6 ↑cards.length)=some (i6 ↑size),An [z5≤z0,z0≤z0,(↑(144:Nat):Int)*z0≤z3,z0≤z2],An [z5≤z0,z0≤z0,(↑(8:Nat):Int)*z0≤z3,z0≤z2],An [z5≤z0,z0≤z0,(↑(8:Nat):Int)*z0≤z3,z0≤z2],An [An [Sm (↑lim:Int),Zz,Zz,Zz,Zz,z0=z0,Zz,Zz,z0=z0,(↑(0:Nat):Int)=z5,_],An [Sm [sl cards,gC cs],TT 2],An [Sm [V.nilp],_,_],An [Sm [V.nils,V.nils],TT 2],y0,An [bF (fun x=>Qap) size=rep size [i6 0,i6 0,i6 0,i6 0,i6 0,i6 0,i6 0,i6 0,i6 0,i6 0,i6 0,i6 0,i6 0,i6 0,i6 0,i6 0,i6 0,i6 0],_],An [entM (fun x=>(0,0)) 0=[],HfE (entM (fun x=>(0,0)) 0),Zz],An [An [Sm cards.length,z6=z6],An [Sm cs.length,z1=z1],z9,TT 2],An [Zz,_],An [_,_],An [_,_],An [z9,z9,_],_],_,(True->An [An [Zz,Zz,Zz,_],An [Sm (bF B size),_],An [z7=z7,_,Sm (k+1)],An [An [Sm cards.length,z6=z6],An [Sm cs.length,z1=z1],z9,_,An [Zz,Sm (k+1),_],_],An [Sm (nF la size),_],An [Sm (uF pa size),_],An [z4=z4,_],An [Zz,_],An [z9,z9,_],y0,_]),_]) ⟨aq,⟨aq,aq,aq⟩,hd,aq,aq,aq,a_,a_,a_,⟨⟨aq,aq,aq,aq,aq,aq,aq,aq,aq,aq,aq⟩,a_,⟨aq,aq,aq⟩,a_,aq,⟨hr1.symm,hB0⟩,⟨(by rfl),Qac _ 0,aq⟩,a_,⟨aq,aq⟩,⟨hr2.symm,hla0⟩,⟨hr3.symm,hpa0⟩,⟨aq,aq,aq⟩,aq⟩,l,(fun _=>⟨⟨aq,aq,aq,aq⟩,⟨aq,hB⟩,⟨aq,hE,aq⟩,⟨a_,a_,aq,aq,⟨aq,aq,aq⟩,aq⟩,⟨aq,hla⟩,⟨aq,hpa⟩,⟨aq,hS⟩,⟨aq,aq⟩,⟨aq,aq,aq⟩,aq,aq⟩),aq⟩
abbrev ldV(size:Nat)(la pa:Nat→Nat):V:=.agg [.im size (nF la size),.im size (uF pa size)]
section
variable (cards:List Int) (cs:List (List Int)) (F:Nat→Nat→Nat→Int) (size:Nat) (q:Nat→Nat×Nat) (B:Nat→Nat→Int) (la pa:Nat→Nat) (k:Nat)
abbrev cbD:List O:=[.row 44 none (bF B size),.map (entM q (k+1)) (k+1),.row 81 none (toC cards cs size 2 3 7 (k+1)),.row 3 none (nF la size),.row 50 none (uF pa size),scO F q k]
abbrev cbW:V:=.tup [.ptr 4 0,.agg [.sl 5 0 size (some (size-size)),.sl 6 0 size (some (size-size))],i6 0]
end
theorem Qlh(o:O)(ho:o= .row 44 none (arF Qap)∨o= .row 38 none [.nils,.nils])(cards:List Int)(cs:List (List Int))(F:Nat→Nat→Nat→Int)(size:Nat)(q:Nat→Nat×Nat)(B:Nat→Nat→Int)(la pa:Nat→Nat)(k lim:Nat)
  (h:CallSpec Pg g0 (.fn 20 []) [gV cards cs,i6 (lim:Int)] (ofOs .e 0 []) 0 ⟨cbV size,ofOs .e 0 (cbO cards cs F size q B la pa k),6,[]⟩):
  CallSpec Pg g0 (.fn 20 []) [gV cards cs,i6 (lim:Int)] (ofOs .e 0 [gO cards cs,o]) 2 ⟨cbW size,ofOs .e 0 ([gO cards cs,o]++cbD cards cs F size q B la pa k),8,[]⟩:=by
 have hB:=Qaa B size
 have hla:=Qah la size
 have hpa:=Qag pa size
 have hE:=Qac q (k+1)
 have hS:=Qaa (scF F q) (k+1)
 have hg:=Qav cs
 have hc:=Qab cards
 rcases ho with rfl|rfl
 all_goals
  refine CallSpec.frameL (OS:=[gO cards cs,_]) (OS':=[gO cards cs,_]++cbD cards cs F size q B la pa k) [] [(2,0),(3,1),(4,2),(5,3),(6,4),(7,5)] [] [0,0,0,0,1] h (by kernel_rfl) ?_ ?_ ?_ ?_
 ·refine Eq.mp (by kernel_rfl : (An [An [An [Sm cards.length, Sm (ints cards)], An [Sm cs.length, Sm (List.map sl cs)], Tt], Sm (↑lim : Int), Tt]) = _) ?_
  (repeat'(first|(with_reducible apply And.intro)|(refine fun(_:True)=>?_)))
  all_goals first|exact aq|exact hB|exact hS|exact hE|exact hla|exact hpa|exact hg|exact hc|rfl|skip
 ·refine Eq.mp (by kernel_rfl : (Tt) = _) ?_
  (repeat'(first|(with_reducible apply And.intro)|(refine fun(_:True)=>?_)))
  all_goals first|exact aq|exact hB|exact hS|exact hE|exact hla|exact hpa|exact hg|exact hc|rfl|skip
 ·refine Eq.mp (by kernel_rfl : (let z0 := An [Zz, Sm size, Sm (size - size)]; An [Zz, An [z0, z0, Tt], Sm (0 : Int), Tt]) = _) ?_
  (repeat'(first|(with_reducible apply And.intro)|(refine fun(_:True)=>?_)))
  all_goals first|exact aq|exact hB|exact hS|exact hE|exact hla|exact hpa|exact hg|exact hc|rfl|skip
 ·refine Eq.mp (by kernel_rfl : (let z0 := O.row 44 none (arF Qap); let z1 := gO cards cs; let z2 := bF (scF F q) (k + 1); let z3 := entM q (k + 1); An [[z1, z0][0]? = some z1, [z1, z0][0]? = some z1, [z1, z0][1]? = some z0, [z1, z0][1]? = some z0, Tt, An [Sm (bF B size), HfL (bF B size)], Tt, An [z3 = z3, HfE z3, Sm (k + 1)], Tt, An [An [Sm cards.length, Sm (ints cards)], An [Sm cs.length, Sm (List.map sl cs)], An [Zz, Sm size, Sm (size - size)], Tt, An [Zz, Sm (k + 1), Tt], Tt], Tt, An [Sm (nF la size), HfL (nF la size)], Tt, An [Sm (uF pa size), HfL (uF pa size)], Tt, An [z2 = z2, HfL z2], Tt]) = _) ?_
  (repeat'(first|(with_reducible apply And.intro)|(refine fun(_:True)=>?_)))
  all_goals first|exact aq|exact hB|exact hS|exact hE|exact hla|exact hpa|exact hg|exact hc|rfl|skip
 ·refine Eq.mp (by kernel_rfl : (An [An [An [Sm cards.length, Sm (ints cards)], An [Sm cs.length, Sm (List.map sl cs)], Tt], Sm (↑lim : Int), Tt]) = _) ?_
  (repeat'(first|(with_reducible apply And.intro)|(refine fun(_:True)=>?_)))
  all_goals first|exact aq|exact hB|exact hS|exact hE|exact hla|exact hpa|exact hg|exact hc|rfl|skip
 ·refine Eq.mp (by kernel_rfl : (Tt) = _) ?_
  (repeat'(first|(with_reducible apply And.intro)|(refine fun(_:True)=>?_)))
  all_goals first|exact aq|exact hB|exact hS|exact hE|exact hla|exact hpa|exact hg|exact hc|rfl|skip
 ·refine Eq.mp (by kernel_rfl : (let z0 := An [Zz, Sm size, Sm (size - size)]; An [Zz, An [z0, z0, Tt], Sm (0 : Int), Tt]) = _) ?_
  (repeat'(first|(with_reducible apply And.intro)|(refine fun(_:True)=>?_)))
  all_goals first|exact aq|exact hB|exact hS|exact hE|exact hla|exact hpa|exact hg|exact hc|rfl|skip
 ·refine Eq.mp (by kernel_rfl : (let z0 := O.row 38 none [V.nils, V.nils]; let z1 := gO cards cs; let z2 := bF (scF F q) (k + 1); let z3 := entM q (k + 1); An [[z1, z0][0]? = some z1, [z1, z0][0]? = some z1, [z1, z0][1]? = some z0, [z1, z0][1]? = some z0, Tt, An [Sm (bF B size), HfL (bF B size)], Tt, An [z3 = z3, HfE z3, Sm (k + 1)], Tt, An [An [Sm cards.length, Sm (ints cards)], An [Sm cs.length, Sm (List.map sl cs)], An [Zz, Sm size, Sm (size - size)], Tt, An [Zz, Sm (k + 1), Tt], Tt], Tt, An [Sm (nF la size), HfL (nF la size)], Tt, An [Sm (uF pa size), HfL (uF pa size)], Tt, An [z2 = z2, HfL z2], Tt]) = _) ?_
  (repeat'(first|(with_reducible apply And.intro)|(refine fun(_:True)=>?_)))
  all_goals first|exact aq|exact hB|exact hS|exact hE|exact hla|exact hpa|exact hg|exact hc|rfl|skip
theorem top_ok(cards:List Int)(cs:List (List Int))(lim:Nat)(he:Qib cards cs (lim:Int)=0):FnOk Pg g0 9 [gV cards cs,i6 (lim:Int)] (.tup [ar (topB cards.length lim (fF cards cs) (2^cards.length-1)),i6 0]):=by
 obtain⟨hg0,hn1,hn5,_,_,hl2,hcl⟩:=Qkq he
 obtain⟨q,k,_,h⟩:=Qjw cards cs lim he
 have hpos:1≤2^cards.length:=Nat.pow_pos (by decide)
 have h32:=Qau hn5
 have e1:=Qdh (n:=cards.length) (lim:=lim) (F:=fF cards cs) (2^cards.length) (2^cards.length-1)
 rw[if_pos (by omega)]at e1
 rw[←e1]
 clear e1
 generalize tabB cards.length lim (fF cards cs) (2^cards.length)=B at*
 generalize laT cards.length lim (fF cards cs) (2^cards.length)=la at*
 generalize paT cards.length lim (fF cards cs) (2^cards.length)=pa at*
 generalize fF cards cs=F at*
 generalize 2^cards.length=size at*
 have hcall:=Qlh (.row 44 none (arF Qap)) (.inl rfl) cards cs F size q B la pa k lim h
 have hB:=Qaa B size
 have hla:=Qah la size
 have hpa:=Qag pa size
 have hE:=Qac q (k+1)
 have hS:=Qaa (scF F q) (k+1)
 have hg:=Qav cs
 have hc:=Qab cards
 have htk:=@Qbf B size (size-1) (by omega)
 generalize hj:size-1=j at*
 have hjs:((size:Int)-1)=(j:Int):=by omega
 clear h he
 refine FnOk.of_vc vE_ok mixed Qad (n:=1000) (r:=[1]) (S:={sl:=[(4,.ptr 0 0),(5,i6 0)],os:=[.row 44 none (arF (B j))]}) (hs:=[(12,.call ⟨cbW size,ofOs .e 0 ([gO cards cs,.row 44 none (arF Qap)]++cbD cards cs F size q B la pa k),8,[]⟩),no 17,nu 29 (j:Nat),pl 30,ld 31 (ar (B j))]) ?_
 exact m_ (p:=let z0:=(0:Int);let z1:=arF (B j);let z2:=(↑j:Int);An [V.tup [V.agg z1,i6 0]=V.tup [ar (B j),i6 0],CallSpec Pg g0 (V.fn 20 []) [V.agg [sl cards,gC cs],i6 ↑lim] (pt (pt T.e 0 (O.row 31 none [sl cards,gC cs])) 1 (O.row 44 none [i6 0,i6 0,i6 0,i6 0,i6 0,i6 0,i6 0,i6 0,i6 0,i6 0,i6 0,i6 0,i6 0,i6 0,i6 0,i6 0,i6 0,i6 0])) 2 (CR.mk (cbW size) (ofOs T.e 0 ([gO cards cs,O.row 44 none (arF Qap)]++cbD cards cs F size q B la pa k)) 8 []),_,(z0 != z0)=false,wr .i64 ((↑size:Int)-(1:Int))=z2,An [z0≤z2,z2<(↑size:Int)],takeE 18 (dropF (0+j*18) (bF B size))=some z1,An [Zz,z0=z0,_],An [z1=z1,TT 18],_]) ⟨aq,hcall,aq,aq,aq,a_,aq,⟨aq,aq,aq⟩,a_,aq⟩
theorem solve_ok(cards:List Int)(cs:List (List Int))(lim:Nat)(he:Qib cards cs (lim:Int)=0):FnOk Pg g0 7 [gV cards cs,i6 (lim:Int)] (.tup [ldV (2^cards.length) (laT cards.length lim (fF cards cs) (2^cards.length)) (paT cards.length lim (fF cards cs) (2^cards.length)),i6 0]):=by
 obtain⟨q,k,_,h⟩:=Qjw cards cs lim he
 generalize tabB cards.length lim (fF cards cs) (2^cards.length)=B at*
 generalize laT cards.length lim (fF cards cs) (2^cards.length)=la at*
 generalize paT cards.length lim (fF cards cs) (2^cards.length)=pa at*
 generalize fF cards cs=F at*
 generalize 2^cards.length=size at*
 have hcall:=Qlh (.row 38 none [.nils,.nils]) (.inr rfl) cards cs F size q B la pa k lim h
 have hB:=Qaa B size
 have hla:=Qah la size
 have hpa:=Qag pa size
 have hE:=Qac q (k+1)
 have hS:=Qaa (scF F q) (k+1)
 have hg:=Qav cs
 have hc:=Qab cards
 clear h he
 refine FnOk.of_vc vE_ok mixed Qad (n:=1000) (r:=[1]) (S:={sl:=[(4,.ptr 0 0),(5,i6 0)],os:=[.row 38 none [.im size (nF la size),.im size (uF pa size)]],md:=[1]}) (hs:=[(12,.call ⟨cbW size,ofOs .e 0 ([gO cards cs,.row 38 none [.nils,.nils]]++cbD cards cs F size q B la pa k),8,[]⟩)]) ?_
 exact m_ (p:=let z0:=O.row 38 none [V.nils,V.nils];let z1:=nF la size;let z2:=uF pa size;An [V.tup [V.agg [V.im size z1,V.im size z2],i6 0]=V.tup [ldV size la pa,i6 0],CallSpec Pg g0 (V.fn 20 []) [V.agg [sl cards,gC cs],i6 ↑lim] (pt (pt T.e 0 (O.row 31 none [sl cards,gC cs])) 1 z0) 2 (CR.mk (cbW size) (ofOs T.e 0 ([gO cards cs,z0]++cbD cards cs F size q B la pa k)) 8 []),_,An [Zz,Sm (0:Int),_],An [An [Sm size,z1=z1,_],An [Sm size,z2=z2,_],_],_]) ⟨aq,hcall,aq,⟨aq,aq,aq⟩,⟨⟨aq,aq,hla⟩,⟨aq,aq,hpa⟩,aq⟩,aq⟩
abbrev lV(L:List Int)(P:List Nat):V:=.agg [sl L,ul P]
abbrev lO(L:List Int)(P:List Nat):O:=.row 38 none [sl L,ul P]
def isW(L:List Int)(P:List Nat)(w:Nat):Bool:=decide (L.length=2^w)&&decide (P.length=2^w)
def wdt(L:List Int)(P:List Nat):Nat:=match[1,2,3,4,5].find? (isW L P)with
 |some w=>w
 |none=>0
theorem Qc5{L:List Int}{P:List Nat}{w:Nat}:isW L P w=true↔L.length=2^w∧P.length=2^w:=by
 unfold isW;rw[Bool.and_eq_true,decide_eq_true_eq,decide_eq_true_eq]
theorem isW_inj{L:List Int}{P:List Nat}{v w:Nat}(h:isW L P v=true)(k:isW L P w=true):v=w:=by
 have h1:=(Qc5.1 h).1
 have h2:=(Qc5.1 k).1
 rw[h1]at h2
 rcases Nat.lt_trichotomy v w with h'|h'|h'
 ·have:=Nat.pow_lt_pow_right (show 1<2 by decide) h';omega
 ·exact h'
 ·have:=Nat.pow_lt_pow_right (show 1<2 by decide) h';omega
theorem Qe9(L:List Int)(P:List Nat):wdt L P≤5∧(1≤wdt L P→isW L P (wdt L P)=true)∧(∀j,1≤j→j≤5→isW L P j=true→wdt L P=j):=by
 unfold wdt
 cases hf:[1,2,3,4,5].find? (isW L P)with
 |none=>
  have:=List.find?_eq_none.1 hf
  refine⟨Nat.zero_le _,fun h=>absurd h (by decide),fun j h1 h5 h=>?_⟩
  exact absurd h (this j (by simp;omega))
 |some w=>
  have h1:=List.find?_some hf
  have h2:=List.mem_of_find?_eq_some hf
  refine⟨by simp at h2;dsimp only;omega,fun _=>h1,fun j _ _ h=>isW_inj h1 h⟩
theorem shl1_i'(k:Nat)(hk:k<16): ∀(G:Ctx)(t:Nat),binV G .shl t (i6 1) (i6 (k:Int))=some (i6 ((2^k:Nat):Int)):=fun G t=>Qm4 hk
abbrev vbS(L:List Int)(P:List Nat)(k:Nat):SL:={sl:=[(1,.ptr 0 0),(3,i6 (k:Nat))],os:=[lO L P]}
abbrev i2(n:Int):SL:={sl:=[(2,i6 n)]}
theorem Qgf{a b:Nat}:((a:Int)==(b:Int))=decide (a=b):=by
 by_cases h:a=b
 ·subst h;simp
 ·rw[decide_eq_false h,beq_eq_false_iff_ne];omega
theorem vb_loop(L:List Int)(P:List Nat):Sat Pg none 0 (at' 22 [1,0,1,0]) (mkSt g0 23 (vbS L P 1)) (Qaf g0 23 [(1≤wdt L P,.ret,i2 (wdt L P:Nat)),(wdt L P=0,.exit 0,{sl:=[]})]):=by
 have hu:=Qcl P
 obtain⟨w5,w1,w0⟩:=Qe9 L P
 refine Qa6 vE_ok mixed Qad (b:=at' 22 [1,0,1,0,0]) (by kernel_rfl) (fun k=>1≤k∧k≤6∧(1≤wdt L P→k≤wdt L P)) (vbS L P) (fun k=>6-k) (fun k hk=>?_) 1 ⟨by decide,by decide,fun h=>h⟩
 obtain⟨h1,h6,hle⟩:=hk
 by_cases h5:k≤5
 ·have hs := shl1_i' k (by omega)
  by_cases a:L.length=2^k
  ·by_cases b : P.length = 2 ^ k
   ·have e := w0 k h1 h5 (Qc5.2 ⟨a, b⟩)
    have ha:((L.length:Int)==((2^k:Nat):Int))=true:=by rw[Qgf,decide_eq_true a]
    have hb:((P.length:Int)==((2^k:Nat):Int))=true:=by rw[Qgf,decide_eq_true b]
    clear w0 w1 hle
    generalize wdt L P=w at*
    subst e
    generalize 2^w=z at*
    refine .inr ⟨.ret,[],i2 (w:Nat),[yes 5,va 12 (i6 (z:Nat)),yes 13,va 19 (i6 (z:Nat)),yes 20],1000,.inl ⟨h1,rfl,rfl⟩,?_⟩
    exact m_ (p:=let z0:=binV (Qae Pg) .shl 3 (i6 1) (i6 ↑w);let z1:=(↑w:Int);An [decide (z1≤(5:Int))=true,z0=some (i6 ↑z),_,z0=some (i6 ↑z),_,An [z1=z1,_],_]) ⟨aq,aq,ha,aq,hb,⟨aq,aq⟩,aq⟩
   ·have ha : ((L.length : Int) == ((2 ^ k : Nat) : Int)) = true := by rw [Qgf, decide_eq_true a]
    have hb:((P.length:Int)==((2^k:Nat):Int))=false:=by rw[Qgf,decide_eq_false b]
    have hw:wdt L P≠k:=fun e=>b (by have:=(Qc5.1 (w1 (by omega))).2;rw[e]at this;exact this)
    generalize 2^k=z at*
    refine .inl ⟨k+1,[0],[yes 5,va 12 (i6 (z:Nat)),yes 13,va 19 (i6 (z:Nat)),no 20,nu 7 ((k+1:Nat):Int)],1000,⟨by omega,by omega,fun h=>by have:=hle h;omega⟩,by omega,?_⟩
    clear w1 w0 hle hw
    exact m_ (p:=let z0:=binV (Qae Pg) .shl 3 (i6 1) (i6 ↑k);let z1:=(↑(k+1):Int);An [decide ((↑k:Int)≤(5:Int))=true,z0=some (i6 ↑z),_,z0=some (i6 ↑z),_,wr .i64 ((↑k:Int)+(1:Int))=z1,An [Zz,z1=z1,_],An [Sm [sl L,ul P],TT 2],_]) ⟨aq,aq,ha,aq,hb,aq,⟨aq,aq,aq⟩,a_,aq⟩
  ·have ha : ((L.length : Int) == ((2 ^ k : Nat) : Int)) = false := by rw [Qgf, decide_eq_false a]
   have hw:wdt L P≠k:=fun e=>a (by have:=(Qc5.1 (w1 (by omega))).1;rw[e]at this;exact this)
   generalize 2^k=z at*
   refine .inl ⟨k+1,[0],[yes 5,va 12 (i6 (z:Nat)),no 13,nu 7 ((k+1:Nat):Int)],1000,⟨by omega,by omega,fun h=>by have:=hle h;omega⟩,by omega,?_⟩
   clear w1 w0 hle hw
   exact m_ (p:=An [decide ((↑k:Int)≤(5:Int))=true,binV (Qae Pg) .shl 3 (i6 1) (i6 ↑k)=some (i6 ↑z),_,wr .i64 ((↑k:Int)+(1:Int))=(↑(k+1):Int),An [Zz,Sm (↑(k+1):Int),_],An [Sm [sl L,ul P],TT 2],_]) ⟨aq,aq,ha,aq,⟨aq,aq,aq⟩,a_,aq⟩
 ·have hz : wdt L P = 0 := by
   rcases Nat.eq_zero_or_pos (wdt L P)with h|h
   ·exact h
   ·have:=hle h;omega
  refine .inr ⟨.exit 0,[],{sl:=[]},[no 5],1000,.inr (.inl ⟨hz,rfl,rfl⟩),?_⟩
  clear w1 w0 hle hz
  exact m_ (p:=An [decide ((↑k:Int)≤(5:Int))=false,_,_]) ⟨aq,aq,aq⟩
theorem Qdi(L:List Int)(P:List Nat):FnOk Pg g0 22 [lV L P] (i6 (wdt L P:Nat)):=by
 have hl:=vb_loop L P
 have hu:=Qcl P
 rcases Nat.eq_zero_or_pos (wdt L P)with h|h
 ·have hl := hl.mono (Qdb (by omega) h)
  rw[h]
  refine FnOk.of_vc vE_ok mixed Qad (n:=1000) (r:=[]) (S:=i2 0) (hs:=[(0,.loop [0] (vbS L P 1) [(True,.exit 0,{sl:=[]})])]) ?_
  exact m_ (p:=An [i6 0=i6 ↑(0:Nat),An [An [Zz,(↑(1:Nat):Int)=(1:Int),_],An [Sm [sl L,ul P],TT 2],_],_,(True->An [An [Sm (0:Int),_],_]),_]) ⟨aq,⟨⟨aq,aq,aq⟩,a_,aq⟩,hl,(fun _=>⟨⟨aq,aq⟩,aq⟩),aq⟩
 ·have hl := hl.mono (Qda h (by omega))
  generalize wdt L P=w at*
  refine FnOk.of_vc vE_ok mixed Qad (n:=1000) (r:=[]) (S:=i2 (w:Nat)) (hs:=[(0,.loop [0] (vbS L P 1) [(True,.ret,i2 (w:Nat))])]) ?_
  exact m_ (p:=An [Sm (i6 ↑w),An [An [Zz,(↑(1:Nat):Int)=(1:Int),_],An [Sm [sl L,ul P],TT 2],_],_,(True->An [An [Sm (↑w:Int),_],_]),_]) ⟨aq,⟨⟨aq,aq,aq⟩,a_,aq⟩,hl,(fun _=>⟨⟨aq,aq⟩,aq⟩),aq⟩
def okS(L:List Int)(P:List Nat)(s:Nat):Bool:=decide (0≤L.getD s 0)&&(decide (L.getD s 0<5)&&(s.testBit (L.getD s 0).toNat&&decide (P.getD s 0&&& (s-2^(L.getD s 0).toNat)=P.getD s 0)))
def okLd(L:List Int)(P:List Nat):Bool:=(List.range L.length).all fun s=>decide (s=0)||okS L P s
def ok0(L:List Int)(P:List Nat):Bool:=decide (L.getD 0 0=0)&&decide (P.getD 0 0=0)
def ladB(L:List Int)(P:List Nat):Bool:=decide (1≤wdt L P)&&(ok0 L P&&okLd L P)
theorem sub_iff{p w:Nat}:(∀b,p.testBit b=true→w.testBit b=true)↔p&&& w=p:=by
 constructor
 ·intro h
  apply Nat.eq_of_testBit_eq
  intro b
  rw[Nat.testBit_and]
  cases hb:p.testBit b with
  |false=>rfl
  |true=>rw[h b hb];rfl
 ·intro h b hb
  rw[←h,Nat.testBit_and,Bool.and_eq_true]at hb
  exact hb.2
theorem wr_u{s:Nat}(h:s<32):wr .u64 (s:Int)=s:=Qif (by simp[lo]) (by simp[hi];omega)
abbrev ccS(L:List Int)(P:List Nat)(k:Nat):SL:={sl:=[(1,.ptr 0 0),(3,i6 (k:Nat))],os:=[lO L P]}
theorem cc_loop(L:List Int)(P:List Nat)(hP:S64 P)(hlen:P.length=L.length)(h32:L.length≤32):
  Sat Pg none 0 (at' 21 [1,1,1,0,1,0]) (mkSt g0 57 (ccS L P 1)) (Qaf g0 57 [(okLd L P=true,.exit 0,{sl:=[]}),(okLd L P=false,.ret,i2 290)]):=by
 have hu:=Qcl P
 refine Qa6 vE_ok mixed Qad (b:=at' 21 [1,1,1,0,1,0,0]) (by kernel_rfl) (fun k=>1≤k∧∀j,j<k→(decide (j=0)||okS L P j)=true) (ccS L P) (fun k=>L.length-k) (fun k hk=>?_) 1 ⟨Nat.le_refl _,fun j hj=>by rw[show j=0 by omega];rfl⟩
 obtain⟨hk1,hj⟩:=hk
 by_cases hlt:k<L.length
 ·have hld := @Qak L k hlt
  have hlp:=@Qeb P k (by omega)
  have hbad:okS L P k=false→okLd L P=false:=fun h=>Qcp hlt (by rw[h,decide_eq_false (by omega)];rfl)
  have hgood:okS L P k=true→∀j,j<k+1→(decide (j=0)||okS L P j)=true:=fun h j hj1=>by
   rcases Nat.lt_succ_iff_lt_or_eq.1 hj1 with h2|h2
   ·exact hj j h2
   ·subst h2;rw[h,Bool.or_true]
  have hp64:=hP.get k
  unfold okS at hbad hgood
  generalize hp:P.getD k 0=p at*
  generalize hx:L.getD k 0=x at*
  clear hj hp hx
  by_cases h1:x<0
  ·have hb := hbad (by rw [decide_eq_false (by omega)]; rfl)
   refine .inr ⟨.ret,[],i2 290,[yes 24,pl 30,ld 31 (i6 x),yes 33],1000,.inr (.inl ⟨hb,rfl,rfl⟩),?_⟩
   exact m_ (p:=let z0:=(↑k:Int);An [decide (z0<(↑L.length:Int))=true,An [(0:Int)≤z0,z0<(↑L.length:Int)],_,decide (x<(0:Int))=true,An [Sm (290:Int),_],_]) ⟨aq,a_,hld,aq,⟨aq,aq⟩,aq⟩
  ·by_cases h2 : x < 5
   ·rw [decide_eq_true (show 0 ≤ x by omega), decide_eq_true h2] at hbad hgood
    obtain⟨v,rfl⟩: ∃v:Nat,x=v:=⟨x.toNat,by omega⟩
    simp only[Int.toNat_natCast,Bool.true_and]at hbad hgood
    have hv:v<5:=by omega
    have s1:=fun G t=>@shr_i G t k v (by omega)
    cases hbit:k.testBit v with
    |false=>
     have hb:=hbad (by rw[hbit];rfl)
     have s2:=fun G t=>@Qpd G t k v 0 (by omega) hv (by decide) hbit
     generalize k/2^v=z at*
     refine .inr ⟨.ret,[],i2 290,[yes 24,pl 30,ld 31 (i6 (v:Nat)),no 33,no 36,va 41 (i6 (z:Nat)),va 42 (i6 0),yes 43],1000,.inr (.inl ⟨hb,rfl,rfl⟩),?_⟩
     exact m_ (p:=let z0:=(0:Int);let z1:=(↑k:Int);An [decide (z1<(↑L.length:Int))=true,An [z0≤z1,z1<(↑L.length:Int)],_,decide ((↑v:Int)<z0)=false,decide ((↑v:Int)≥(5:Int))=false,binV (Qae Pg) .shr 3 (i6 ↑k) (i6 ↑v)=some (i6 ↑z),binV (Qae Pg) .and 3 (i6 ↑z) (i6 1)=some (i6 0),(z0==z0)=true,An [Sm (290:Int),_],_]) ⟨aq,a_,hld,aq,aq,aq,aq,aq,⟨aq,aq⟩,aq⟩
    | true =>
     rw[hbit]at hbad hgood
     have s2:=fun G t=>@Qpd G t k v 1 (by omega) hv (by decide) hbit
     have s3:=fun G t=>@Qvd G t v (by omega)
     have s4:=fun G t=>@andn_u G t k v (by omega) hv hbit
     have hcv:=wr_u (show k<32 by omega)
     obtain⟨z',s5,_,hz⟩:=@Qpe (Qae Pg) 50 p (k-2^v) hp64 (by have:=Nat.sub_le k (2^v);omega)
     rw[sub_iff]at hz
     by_cases h4:z'=0
     ·have hg := hgood (by rw [decide_eq_true (hz.1 h4)]; rfl)
      subst h4
      clear hgood hbad hz
      generalize k-2^v=u at*
      generalize k/2^v=z at*
      generalize 2^v=y at*
      refine .inl ⟨k+1,[0],[yes 24,pl 30,ld 31 (i6 (v:Nat)),no 33,no 36,va 41 (i6 (z:Nat)),va 42 (i6 1),no 43,pl 48,ld 49 (u6 (p:Nat)),nu 51 (k:Int),va 53 (u6 (y:Nat)),va 54 (u6 (u:Nat)),va 55 (u6 ((0:Nat):Int)),no 56,nu 26 ((k+1:Nat):Int)],1000,⟨by omega,hg⟩,by omega,?_⟩
      clear hg
      exact m_ (p:=let z0:=(↑k:Int);let z1:=Qae Pg;let z2:=(↑(k+1):Int);let z3:=(0:Int);An [decide (z0<(↑L.length:Int))=true,An [z3≤z0,z0<(↑L.length:Int)],_,decide ((↑v:Int)<z3)=false,decide ((↑v:Int)≥(5:Int))=false,binV z1 .shr 3 (i6 ↑k) (i6 ↑v)=some (i6 ↑z),binV z1 .and 3 (i6 ↑z) (i6 1)=some (i6 1),((1:Int)==z3)=false,An [z3≤z0,z0<(↑P.length:Int)],_,_,binV z1 .shl 50 (u6 1) (i6 ↑v)=some (u6 ↑y),binV z1 .andNot 50 (u6 ↑k) (u6 ↑y)=some (u6 ↑u),_,((↑(0:Nat):Int) != z3)=false,wr .i64 (z0+(1:Int))=z2,An [Zz,z2=z2,_],An [Sm [sl L,ul P],TT 2],_]) ⟨aq,a_,hld,aq,aq,aq,aq,aq,a_,hlp,hcv,aq,aq,s5,aq,aq,⟨aq,aq,aq⟩,a_,aq⟩
     ·have hb := hbad (by rw [decide_eq_false (fun h => h4 (hz.2 h))]; rfl)
      clear hgood hbad hz
      generalize k-2^v=u at*
      generalize k/2^v=z at*
      generalize 2^v=y at*
      refine .inr ⟨.ret,[],i2 290,[yes 24,pl 30,ld 31 (i6 (v:Nat)),no 33,no 36,va 41 (i6 (z:Nat)),va 42 (i6 1),no 43,pl 48,ld 49 (u6 (p:Nat)),nu 51 (k:Int),va 53 (u6 (y:Nat)),va 54 (u6 (u:Nat)),va 55 (u6 (z':Nat)),yes 56],1000,.inr (.inl ⟨hb,rfl,rfl⟩),?_⟩
      exact m_ (p:=let z0:=(↑k:Int);let z1:=Qae Pg;let z2:=(0:Int);An [decide (z0<(↑L.length:Int))=true,An [z2≤z0,z0<(↑L.length:Int)],_,decide ((↑v:Int)<z2)=false,decide ((↑v:Int)≥(5:Int))=false,binV z1 .shr 3 (i6 ↑k) (i6 ↑v)=some (i6 ↑z),binV z1 .and 3 (i6 ↑z) (i6 1)=some (i6 1),((1:Int)==z2)=false,An [z2≤z0,z0<(↑P.length:Int)],_,_,binV z1 .shl 50 (u6 1) (i6 ↑v)=some (u6 ↑y),binV z1 .andNot 50 (u6 ↑k) (u6 ↑y)=some (u6 ↑u),_,((↑z':Int) != z2)=true,An [Sm (290:Int),_],_]) ⟨aq,a_,hld,aq,aq,aq,aq,aq,a_,hlp,hcv,aq,aq,s5,aq,⟨aq,aq⟩,aq⟩
   ·have hb := hbad (by rw [decide_eq_false h2, Bool.false_and, Bool.and_false])
    refine .inr ⟨.ret,[],i2 290,[yes 24,pl 30,ld 31 (i6 x),no 33,yes 36],1000,.inr (.inl ⟨hb,rfl,rfl⟩),?_⟩
    exact m_ (p:=let z0:=(↑k:Int);An [decide (z0<(↑L.length:Int))=true,An [(0:Int)≤z0,z0<(↑L.length:Int)],_,decide (x<(0:Int))=false,decide (x≥(5:Int))=true,An [Sm (290:Int),_],_]) ⟨aq,a_,hld,aq,aq,⟨aq,aq⟩,aq⟩
 ·have hall : okLd L P = true := all_range.2 fun j hj1 => hj j (by omega)
  refine .inr ⟨.exit 0,[],{sl:=[]},[no 24],1000,.inl ⟨hall,rfl,rfl⟩,?_⟩
  clear hj hall
  exact m_ (p:=An [decide ((↑k:Int)<(↑L.length:Int))=false,_,_]) ⟨aq,aq,aq⟩
theorem Qfo(L:List Int)(P:List Nat)(hP:S64 P):FnOk Pg g0 21 [lV L P] (i6 (if ladB L P then 0 else 290)):=by
 have hv:=Qdi L P
 have hu:=Qcl P
 unfold ladB
 obtain⟨w5,w1,w0⟩:=Qe9 L P
 rcases Nat.eq_zero_or_pos (wdt L P)with h|h
 ·rw [h] at hv
  rw[h,decide_eq_false (show¬1≤0 by decide),Bool.false_and,if_neg (by decide)]
  clear w1 w0 w5 h
  refine FnOk.of_vc vE_ok mixed Qad (n:=1000) (r:=[]) (S:=i2 290) (hs:=[fn 6 (i6 0),yes 7]) ?_
  exact m_ (p:=An [Sm (i6 290),An [TT 2,_],FnOk Pg g0 22 [V.agg [V.im L.length (ints L),V.im P.length (ut P)]] (i6 0),_,((0:Int)==(0:Int))=true,An [Sm (290:Int),_],_]) ⟨aq,⟨aq,aq⟩,aq,aq,aq,⟨aq,aq⟩,aq⟩
 ·obtain ⟨e1, e2⟩ := Qc5.1 (w1 h)
  have hpos:1≤2^wdt L P:=Nat.pow_pos (by decide)
  have h32:=Qau w5
  rw[decide_eq_true (show 1≤wdt L P from h),Bool.true_and]
  have hlen:P.length=L.length:=by omega
  have hl:=cc_loop L P hP hlen (by omega)
  have hld:=@Qak L 0 (by omega)
  have hlp:=@Qeb P 0 (by omega)
  unfold ok0
  clear w1 w0 e2
  generalize wdt L P=w at*
  have hw0:((w:Int)==0)=false:=by rw[beq_eq_false_iff_ne];omega
  have hL0:0<L.length:=by omega
  have hP0:0<P.length:=by omega
  clear e1 hpos h32
  by_cases h1:L.getD 0 0=0
  ·rw [decide_eq_true h1, Bool.true_and]
   rw[h1]at hld
   by_cases h2:P.getD 0 0=0
   ·rw [decide_eq_true h2, Bool.true_and]
    rw[h2]at hlp
    cases hok:okLd L P with
    |true=>
     have hl:=hl.mono (Qda hok (by rw[hok];simp))
     rw[if_pos rfl]
     refine FnOk.of_vc vE_ok mixed Qad (n:=1000) (r:=[]) (S:=i2 0) (hs:=[fn 6 (i6 (w:Nat)),no 7,pl 10,ld 11 (i6 0),no 12,pl 16,ld 17 (u6 ((0:Nat):Int)),no 18,(0,.loop [0] (ccS L P 1) [(True,.exit 0,{sl:=[]})])]) ?_
     exact m_ (p:=let z0:=(0:Int);An [Sm (i6 0),An [TT 2,_],_,_,_,An [z0≤z0,z0<(↑L.length:Int)],headF (List.drop (Int.toNat z0*1) (ints L))=some (i6 0),(z0 != z0)=false,An [z0≤z0,z0<(↑P.length:Int)],headF (List.drop (Int.toNat z0*1) (ut P))=some (u6 ↑(0:Nat)),((↑(0:Nat):Int) != z0)=false,An [An [Zz,(↑(1:Nat):Int)=(1:Int),_],An [Sm [sl L,ul P],TT 2],_],_,(True->An [An [z0=z0,_],_]),_]) ⟨aq,⟨aq,aq⟩,hv,aq,hw0,a_,aq,aq,a_,aq,aq,⟨⟨aq,aq,aq⟩,a_,aq⟩,hl,(fun _=>⟨⟨aq,aq⟩,aq⟩),aq⟩
    |false=>
     have hl:=hl.mono (Qdb (by rw[hok];simp) hok)
     rw[if_neg (by decide)]
     refine FnOk.of_vc vE_ok mixed Qad (n:=1000) (r:=[]) (S:=i2 290) (hs:=[fn 6 (i6 (w:Nat)),no 7,pl 10,ld 11 (i6 0),no 12,pl 16,ld 17 (u6 ((0:Nat):Int)),no 18,(0,.loop [0] (ccS L P 1) [(True,.ret,i2 290)])]) ?_
     exact m_ (p:=let z0:=(0:Int);An [Sm (i6 290),An [TT 2,_],_,_,_,An [z0≤z0,z0<(↑L.length:Int)],headF (List.drop (Int.toNat z0*1) (ints L))=some (i6 0),(z0 != z0)=false,An [z0≤z0,z0<(↑P.length:Int)],headF (List.drop (Int.toNat z0*1) (ut P))=some (u6 ↑(0:Nat)),((↑(0:Nat):Int) != z0)=false,An [An [Zz,(↑(1:Nat):Int)=(1:Int),_],An [Sm [sl L,ul P],TT 2],_],_,(True->An [An [Sm (290:Int),_],_]),_]) ⟨aq,⟨aq,aq⟩,hv,aq,hw0,a_,aq,aq,a_,aq,aq,⟨⟨aq,aq,aq⟩,a_,aq⟩,hl,(fun _=>⟨⟨aq,aq⟩,aq⟩),aq⟩
   ·rw [decide_eq_false h2, Bool.false_and, if_neg (by decide)]
    generalize P.getD 0 0=p at*
    refine FnOk.of_vc vE_ok mixed Qad (n:=1000) (r:=[]) (S:=i2 290) (hs:=[fn 6 (i6 (w:Nat)),no 7,pl 10,ld 11 (i6 0),no 12,pl 16,ld 17 (u6 (p:Nat)),yes 18]) ?_
    exact m_ (p:=let z0:=(0:Int);An [Sm (i6 290),An [TT 2,_],_,_,_,An [z0≤z0,z0<(↑L.length:Int)],headF (List.drop (Int.toNat z0*1) (ints L))=some (i6 0),(z0 != z0)=false,An [z0≤z0,z0<(↑P.length:Int)],headF (List.drop (Int.toNat z0*1) (ut P))=some (u6 ↑p),((↑p:Int) != z0)=true,An [Sm (290:Int),_],_]) ⟨aq,⟨aq,aq⟩,hv,aq,hw0,a_,aq,aq,a_,aq,aq,⟨aq,aq⟩,aq⟩
  ·rw [decide_eq_false h1, Bool.false_and, Bool.false_and, if_neg (by decide)]
   generalize L.getD 0 0=x at*
   refine FnOk.of_vc vE_ok mixed Qad (n:=1000) (r:=[]) (S:=i2 290) (hs:=[fn 6 (i6 (w:Nat)),no 7,pl 10,ld 11 (i6 x),yes 12]) ?_
   exact m_ (p:=let z0:=(0:Int);An [Sm (i6 290),An [TT 2,_],_,_,_,An [z0≤z0,z0<(↑L.length:Int)],headF (List.drop (Int.toNat z0*1) (ints L))=some (i6 x),(x != z0)=true,An [Sm (290:Int),_],_]) ⟨aq,⟨aq,aq⟩,hv,aq,hw0,a_,aq,aq,⟨aq,aq⟩,aq⟩
def laL(L:List Int):Nat→Nat:=fun s=>(L.getD s 0).toNat
def paL(P:List Nat):Nat→Nat:=fun s=>P.getD s 0
structure LdOk(L:List Int)(P:List Nat)(w:Nat):Prop where
 w1:1≤w
 w5:w≤5
 lenL:L.length=2^w
 lenP:P.length=2^w
 ok:LadOk w (laL L) (paL P)
 nn: ∀s,0<s→s<2^w→L.getD s 0=(laL L s:Int)
 l0:L.getD 0 0=0
 p0:P.getD 0 0=0
theorem Qnz{L:List Int}{P:List Nat}(h:ladB L P=true):LdOk L P (wdt L P):=by
 unfold ladB at h
 rw[Bool.and_eq_true,Bool.and_eq_true,decide_eq_true_eq]at h
 obtain⟨h1,h2,h3⟩:=h
 unfold ok0 at h2
 rw[Bool.and_eq_true,decide_eq_true_eq,decide_eq_true_eq]at h2
 obtain⟨w5,w1,w0⟩:=Qe9 L P
 obtain⟨e1,e2⟩:=Qc5.1 (w1 h1)
 have key: ∀s,0<s→s<2^wdt L P→0≤L.getD s 0∧L.getD s 0<5∧s.testBit (L.getD s 0).toNat=true∧P.getD s 0&&& (s-2^(L.getD s 0).toNat)=P.getD s 0:=fun s hs hlt=>by
  have:=all_range.1 h3 s (by omega)
  rw[decide_eq_false (by omega),Bool.false_or]at this
  unfold okS at this
  simpa only[Bool.and_eq_true,decide_eq_true_eq]using this
 refine⟨h1,w5,e1,e2,⟨fun s hs hlt=>?_⟩,fun s hs hlt=>?_,h2.1,h2.2⟩
 ·obtain ⟨a, b, c, d⟩ := key s hs hlt
  exact⟨Qeu _ w5 s hlt _ (by unfold laL;omega) c,c,d⟩
 ·obtain ⟨a, _⟩ := key s hs hlt
  exact(Int.toNat_of_nonneg a).symm
def gL(L:List Int)(P:List Nat)(w:Nat):Nat→Nat:=ladG (laL L) (paL P) w (2^w-1)
theorem uF_ut(f:Nat→Nat): ∀n,uF f n=ut ((List.range n).map f)
 |0=>rfl
 |n+1=>by
  show blF _ (n+1)=_
  rw[Qbi,show blF (fun i=>[u6 (f i:Nat)]) n=ut ((List.range n).map f)from uF_ut f n]
  unfold ut
  rw[List.range_succ,List.map_append,List.map_append];rfl
abbrev gV'(w:Nat)(f:Nat→Nat):V:=.im w (uF f w)
theorem gV_ul(w:Nat)(f:Nat→Nat):gV' w f=ul ((List.range w).map f):=by
 show V.im w (uF f w)=V.im ((List.range w).map f).length _
 rw[uF_ut];simp
theorem Qe1: ∀w,w≤5→popc (2^w-1)=w:=by decide+kernel
structure DownG(L:List Int)(P:List Nat)(w:Nat)(s:Nat)(g:Nat→Nat):Prop where
 lt:s<2^w
 sub: ∃f,popc s≤f∧∀v,s.testBit v=true→gL L P w v=ladG (laL L) (paL P) f s v
 at_: ∀v,v<w→g v=if s.testBit v then 0 else gL L P w v
theorem DownG.start{L:List Int}{P:List Nat}{w:Nat}(h:LdOk L P w):DownG L P w (2^w-1) (fun _=>0):=by
 have hp:0<2^w:=Nat.pow_pos (by decide)
 refine⟨by omega,⟨w,by rw[Qe1 w h.w5];exact Nat.le_refl _,fun v _=>rfl⟩,fun v hv=>?_⟩
 have h5:=h.w5
 rw[Qfz w h.w5 v (by omega),decide_eq_true hv,if_pos rfl]
theorem DownG.next{L:List Int}{P:List Nat}{w s:Nat}{g:Nat→Nat}(h:LdOk L P w)(d:DownG L P w s g)(hs:0<s):DownG L P w (s-2^laL L s) (fun i=>if i=laL L s then paL P s else g i):=by
 have h32:=Qau h.w5
 have h5:=h.w5
 have hlt:=d.lt
 obtain⟨a1,a2,a3⟩:=h.ok.at_ s hs hlt
 obtain⟨r1,r2,r3⟩:=Qb6 s (by omega) _ (by omega) a2
 have hp2:0<2^laL L s:=Nat.pow_pos (by decide)
 obtain⟨f,hf,hsub⟩:=d.sub
 cases f with
 |zero=>rw[r2]at hf;omega
 | succ f =>
  refine⟨by omega,⟨f,by omega,fun v hv=>?_⟩,fun v hv=>?_⟩
  ·have hv5 : v < 5 := by
    rcases Nat.lt_or_ge v 5 with h'|h'
    ·exact h'
    ·rw[Nat.testBit_lt_two_pow (Nat.lt_of_lt_of_le (show s-2^laL L s<2^5 by omega) (Nat.pow_le_pow_right (show 0<2 by decide) h'))]at hv;cases hv
   rw[r3 v hv5]at hv
   simp only[Bool.and_eq_true,Bool.not_eq_true',decide_eq_false_iff_not]at hv
   rw[hsub v hv.1,ladG,if_neg (by omega),if_neg hv.2]
  ·rw [r3 v (by omega)]
   by_cases e:v=laL L s
   ·rw [if_pos e, decide_eq_true e, Bool.not_true, Bool.and_false, if_neg (by decide)]
    subst e
    rw[hsub _ a2,ladG,if_neg (by omega),if_pos rfl]
   ·rw[if_neg e,decide_eq_false e,Bool.not_false,Bool.and_true,d.at_ v hv]
theorem DownG.fin{L:List Int}{P:List Nat}{w:Nat}{g:Nat→Nat}(d:DownG L P w 0 g):uF g w=uF (gL L P w) w:=
 Qbs fun i hi=>by
  have:=d.at_ i hi
  rw[Nat.zero_testBit,if_neg (by decide)]at this
  rw[this]
abbrev grS(L:List Int)(P:List Nat)(w:Nat)(x:Nat×(Nat→Nat)):SL:={sl:=[(1,.ptr 0 0),(5,.sl 1 0 w (some (w-w))),(6,i6 (x.1:Nat))],os:=[lO L P,.row 50 none (uF x.2 w)]}
theorem gr_loop(L:List Int)(P:List Nat)(w:Nat)(h:LdOk L P w):
  Sat Pg none 0 (at' 8 [1,1,1,0,1,0]) (mkSt g0 42 (grS L P w (2^w-1,fun _=>0))) (Qaf g0 42 [(True,.exit 0,{sl:=[(5,gV' w (gL L P w))]})]):=by
 have hu:=Qcl P
 have hU:=fun g=>Qag g w
 have hlo:=Qab L
 have h32:=Qau h.w5
 have h5:=h.w5
 refine Qa6 vE_ok mixed Qad (b:=at' 8 [1,1,1,0,1,0,0]) (by kernel_rfl) (fun x=>DownG L P w x.1 x.2) (grS L P w) (fun x=>x.1) (fun x d=>?_) (2^w-1,fun _=>0) (DownG.start h)
 obtain⟨s,g⟩:=x
 dsimp only at d
 by_cases h0:0<s
 ·have dn := d.next h h0
  have hlt:=d.lt
  obtain⟨a1,a2,a3⟩:=h.ok.at_ s h0 hlt
  have hp2:0<2^laL L s:=Nat.pow_pos (by decide)
  have e1:=h.lenL
  have e2:=h.lenP
  have hld:=@Qak L s (by omega)
  rw[h.nn s h0 hlt]at hld
  have hlp:=@Qeb P s (by omega)
  have y:=@Qc6 g w (laL L s) a1 (P.getD s 0)
  have s3:=fun G t=>@Qm4 G t (laL L s) (by omega)
  have s4:=fun G t=>@Qsk G t s (laL L s) (by omega) (by omega) a2
  unfold paL at dn
  clear d
  generalize hv:laL L s=v at*
  generalize hpp:P.getD s 0=p at*
  refine .inl ⟨(s-2^v,fun i=>if i=v then p else g i),[0,1],[yes 20,pl 33,ld 34 (i6 (v:Nat)),pl 38,ld 39 (u6 (p:Nat)),pl 40,st (uF (fun i=>if i=v then p else g i) w),pl 25,ld 26 (i6 (v:Nat)),va 27 (i6 ((2^v:Nat):Int)),va 28 (i6 ((s-2^v:Nat):Int))],1000,dn,by dsimp only;omega,?_⟩
  clear dn hv hpp
  exact m_ (p:=let z0:=(↑s:Int);let z2:=(0:Int);let z3:=(↑(s-2^v):Int);An [decide (z0>z2)=true,An [z2≤z0,z0<(↑L.length:Int)],_,An [z2≤z0,z0<(↑P.length:Int)],_,An [z2≤(↑v:Int),(↑v:Int)<(↑w:Int)],_,An [z2≤z0,z0<(↑L.length:Int)],_,binV (Qae Pg) .shl 3 (i6 1) (i6 ↑v)=some (i6 ↑(2^v)),binV (Qae Pg) .andNot 3 (i6 ↑s) (i6 ↑(2^v))=some (i6 ↑(s-2^v)),An [Zz,An [Zz,w=w,Sm (w-w)],z3=z3,_],An [Sm [sl L,ul P],TT 2],An [Sm (uF (fun i=>if i=v then p else g i) w),HfL (uF (fun i=>if i=v then p else g i) w)],_]) ⟨aq,a_,hld,a_,hlp,a_,y,a_,hld,aq,aq,⟨aq,a_,aq,aq⟩,a_,a_,aq⟩
 ·have hs0 : s = 0 := by omega
  subst hs0
  have hf:=d.fin
  refine .inr ⟨.exit 0,[],{sl:=[(5,gV' w (gL L P w))]},[no 20],1000,.inl ⟨trivial,rfl,rfl⟩,?_⟩
  clear d
  exact m_ (p:=An [decide ((↑(0:Nat):Int)>(0:Int))=false,An [An [w=w,_,HfL (uF g w)],_],_]) ⟨aq,⟨⟨aq,hf.symm,aq⟩,aq⟩,aq⟩
theorem graph_ok(L:List Int)(P:List Nat)(hP:S64 P)(hb:ladB L P=true):FnOk Pg g0 8 [lV L P] (.tup [gV' (wdt L P) (gL L P (wdt L P)),i6 0]):=by
 have hc:=Qfo L P hP
 rw[hb,if_pos rfl]at hc
 have hu:=Qcl P
 have h:=Qnz hb
 have hv:=Qdi L P
 have hl:=gr_loop L P _ h
 have e1:=h.lenL
 have h1:=h.w1
 have h5:=h.w5
 have h32:=Qau h.w5
 have hp:1≤2^wdt L P:=Nat.pow_pos (by decide)
 clear h hb
 generalize wdt L P=w at*
 have hr:=Qod w
 have hU0:=Qag (fun _=>0) w
 have hU1:=Qag (gL L P w) w
 have hnum:(L.length:Int)-1=((2^w-1:Nat):Int):=by omega
 generalize gL L P w=g at*
 generalize hk:2^w-1=k at*
 have hk32:k≤32:=by omega
 clear e1 h32 hp hk
 refine FnOk.of_vc vE_ok mixed Qad (n:=1000) (r:=[]) (S:={sl:=[(2,gV' w g),(3,i6 0)]}) (hs:=[fn 8 (i6 0),no 10,fn 13 (i6 (w:Nat)),mk 14,nu 18 (k:Int),(0,.loop [0,1] (grS L P w (k,fun _=>0)) [(True,.exit 0,{sl:=[(5,gV' w g)]})])]) ?_
 exact m_ (p:=let z1:=(↑w:Int);let z2:=(0:Int);let z3:=(↑k:Int);An [Sm (V.tup [gV' w g,i6 0]),An [TT 2,_],_,_,(z2 != z2)=false,An [TT 2,_],_,_,An [z2≤z1,z1≤z1,(↑(8:Nat):Int)*z1≤(281474976710656:Int),z1≤(9223372036854775807:Int)],wr .i64 ((↑L.length:Int)-(1:Int))=z3,An [An [Zz,An [Zz,w=w,Sm (w-w)],z3=z3,_],An [Sm [sl L,ul P],TT 2],An [_,_],_],_,(True->An [An [An [w=w,Sm (uF g w)],z2=z2,_],_]),_]) ⟨aq,⟨aq,aq⟩,hc,aq,aq,⟨aq,aq⟩,hv,aq,a_,aq,⟨⟨aq,a_,aq,aq⟩,a_,⟨hr.symm,hU0⟩,aq⟩,hl,(fun _=>⟨⟨a_,aq,aq⟩,aq⟩),aq⟩
def goodL(L:List Int)(P:List Nat)(n:Nat):Bool:=decide (1≤n)&&(decide (n≤5)&&(isW L P n&&(ok0 L P&&okLd L P)))
theorem Qma(L:List Int)(P:List Nat)(n:Nat):goodL L P n=(ladB L P&&decide (wdt L P=n)):=by
 obtain⟨w5,w1,w0⟩:=Qe9 L P
 apply Bool.eq_iff_iff.2
 unfold goodL ladB
 simp only[Bool.and_eq_true,decide_eq_true_eq]
 constructor
 ·rintro ⟨a, b, c, d, e⟩
  have:=w0 n a b c
  exact⟨⟨by omega,d,e⟩,this⟩
 ·rintro ⟨⟨a, d, e⟩, f⟩
  subst f
  exact⟨a,w5,w1 a,d,e⟩
theorem Qk8{P P':Nat}{Q:Nat→Bool}(h:Bits P Q)(h':Bits P' Q):P=P':=Nat.eq_of_testBit_eq fun i=>(h.2 i).trans (h'.2 i).symm
theorem Qph(Q:Nat→Bool): ∀n,∃P,P<2^n∧∀u,P.testBit u=(decide (u<n)&&Q u)
 |0=>⟨0,by decide,fun u=>by simp⟩
 | n + 1 => by
  obtain⟨P,h1,h2⟩:=Qph Q n
  have hlt:2^n<2^(n+1):=Nat.pow_lt_pow_right (by omega) (by omega)
  cases hq:Q n with
  | true =>
   refine⟨P|||2^n,Nat.or_lt_two_pow (by omega) hlt,fun u=>?_⟩
   rw[Nat.testBit_or,h2,Nat.testBit_two_pow]
   by_cases hu:n=u
   ·subst hu;simp[hq]
   ·by_cases h3 : u < n
    ·simp[h3,hu,show u<n+1 by omega]
    ·simp[h3,hu,show¬u<n+1 by omega]
  | false =>
   refine⟨P,by omega,fun u=>?_⟩
   rw[h2]
   by_cases hu:n=u
   ·subst hu;simp[hq]
   ·by_cases h3 : u < n
    ·simp[h3,show u<n+1 by omega]
    ·simp[h3,show¬u<n+1 by omega]
theorem Qsp{Q:Nat→Bool}{n:Nat}(hn:n≤64)(h: ∀u,Q u=true→u<n): ∃P,Bits P Q∧P<2^n:=by
 obtain⟨P,h1,h2⟩:=Qph Q n
 have:2^n≤2^64:=Nat.pow_le_pow_right (by omega) hn
 refine⟨P,⟨Nat.lt_of_lt_of_le h1 this,fun u=>?_⟩,h1⟩
 rw[h2]
 cases hq:Q u with
 |false=>simp
 |true=>simp[h u hq]
theorem Qu0{n:Nat}{g:GG.Rel}{out Q:Nat→Bool}(hQ: ∀u,Q u=true→u<n): ∀v,v≤n→∀u,GG.pass n g out Q v u=true→u<n
 |0,_,u,h=>hQ u h
 |v+1,hv,u,h=>by
  unfold GG.pass GG.place1 at h
  simp only[Bool.or_eq_true,Bool.and_eq_true,decide_eq_true_eq]at h
  rcases h with h|⟨rfl,_⟩
  ·exact Qu0 hQ v (by omega) u h
  ·omega
theorem Qdd{n:Nat}{g:GG.Rel}{out:Nat→Bool}: ∀t u,GG.passes n g out t u=true→u<n
 |0,u,h=>by cases h
 |t+1,u,h=>Qu0 (Qdd t) n (Nat.le_refl _) u h
abbrev igZ(n P:Nat):SL:={sl:=[(1,i6 n),(5,u6 P)]}
theorem ig_out(l:List Nat)(n:Nat)(hl:l.length=n)(hn:n≤6)(h64:S64 l)(P:Nat)(hP:Bits P (GG.passes n (relL l) (outL l n) n)):
  Sat Pg none 0 (at' 24 [1,1,1,0,1,0]) (mkSt g0 37 (igX l n 0 0)) (Qaf g0 37 [(True,.exit 0,igZ n P)]):=by
 refine Qa6 vE_ok mixed Qad (b:=at' 24 [1,1,1,0,1,0,0]) (by kernel_rfl) (fun q:Nat×Nat=>q.1≤n∧Bits q.2 (GG.passes n (relL l) (outL l n) q.1)) (fun q=>igX l n q.1 q.2) (fun q=>n-q.1) (fun q hq=>?_) (0,0) ⟨Nat.zero_le _,by decide,fun u=>Nat.zero_testBit u⟩
 obtain⟨t,p⟩:=q
 obtain⟨ht,hb⟩:=hq
 dsimp only at ht hb
 by_cases hlt:t<n
 ·obtain ⟨p2, hp2, _⟩ := Qsp (n := n) (Q := GG.passes n (relL l) (outL l n) (t + 1)) (by omega) (Qdd (t + 1))
  have hin:Sat Pg none 0 (at' 24 [1,1,1,0,1,0,0,1,1,0,0,1,0]) (mkSt g0 37 (igS l n t 0 p)) (Qaf g0 37 [(True,.exit 2,igX l n t p2)]):=by
   refine(ig_in l n hl hn h64 t p _ hb (Qdd t)).mono ?_
   rintro e st ⟨S',rfl,rfl,P',rfl,hP'⟩
   obtain rfl:=Qk8 hP' hp2
   exact .inl ⟨trivial,rfl,rfl⟩
  refine .inl ⟨(t+1,p2),[],[yes 14,(0,.loop [] (igS l n t 0 p) [(True,.exit 2,igX l n t p2)]),nu 31 (t+1:Nat)],1000,⟨hlt,hp2⟩,by dsimp only;omega,?_⟩
  clear hp2 hb hP
  refine Eq.mp (by kernel_rfl:(let z3:=An [Sm l.length,Sm (ut l)];let z0:=(↑n:Int);let z1:=(↑(t+1):Int);let z2:=(↑t:Int);An [decide (z2<z0)=true,An [An [z3,z0=z0,Sm (↑p:Int),z0=z0,z2=z2,z3,Sm (↑l.length:Int),(↑(0:Nat):Int)=(0:Int),Tt],Tt],Sat Pg none 0 (at' 24 [1,1,1,0,1,0,0,1,1,0,0,1,0]) (mkSt g0 37 (igS l n t 0 p)) (Qaf g0 37 [(True,Ex.exit 2,igX l n t p2)]),(True→An [wr .i64 (z2+(1:Int))=z1,An [z3,z0=z0,Sm (↑p2:Int),z0=z0,z1=z1,Tt],Tt]),Tt])=_) ?_
  exact au
 ·have : t = n := by omega
  subst this
  obtain rfl:=Qk8 hb hP
  refine .inr ⟨.exit 0,[],igZ t p,[no 14],1000,.inl ⟨trivial,rfl,rfl⟩,?_⟩
  clear hb hP
  refine Eq.mp (by kernel_rfl:(let z0:=(↑t:Int);An [decide (z0<z0)=false,An [z0=z0,Sm (↑p:Int),Tt],Tt])=_) ?_
  exact au
abbrev bR4(b:Bool):SL:={sl:=[(4,.bool b)]}
theorem Qrm(l:List Nat)(n:Nat)(hn:n≤6)(h64:S64 l):FnOk Pg g0 24 [ul l,i6 n] (.bool (decide (l.length=n)&&GG.placedAll n (relL l) (outL l n))):=by
 by_cases hl:l.length=n
 ·rw [decide_eq_true hl, Bool.true_and]
  obtain⟨P,hP,hPn⟩:=Qsp (n:=n) (Q:=GG.passes n (relL l) (outL l n) n) (by omega) (Qdd n)
  have lo_:=ig_out l n hl hn h64 P hP
  obtain⟨s1,s2⟩:=@shl1_u (Qae Pg) 50 n (by omega)
  have hpos:=Nat.two_pow_pos n
  have hiff:P=2^n-1↔GG.placedAll n (relL l) (outL l n)=true:=by
   constructor
   ·intro h
    refine GG.all_range.2 fun u hu=>?_
    rw[←hP.2,h,Nat.testBit_two_pow_sub_one];simpa using hu
   ·intro h
    apply Nat.eq_of_testBit_eq
    intro u
    rw[hP.2,Nat.testBit_two_pow_sub_one]
    by_cases hu:u<n
    ·rw[GG.all_range.1 h u hu];simp[hu]
    ·cases hq : GG.passes n (relL l) (outL l n) n u with
     |false=>simp[hu]
     |true=>exact absurd (Qdd n u hq) hu
  cases hb:GG.placedAll n (relL l) (outL l n)with
  |true=>
   have hPe:=hiff.2 hb
   generalize 2^n=w at*
   have hP1:P=w-1:=hPe
   clear hiff hb hP hPe
   refine FnOk.of_vc vE_ok mixed Qad (n:=1000) (r:=[]) (S:=bR4 true) (hs:=[no 11,(0,.loop [] (igX l n 0 0) [(True,.exit 0,igZ n P)]),va 34 (u6 w),nu 35 (w-1:Nat),yes 36]) ?_
   refine Eq.mp (by kernel_rfl:(let z0:=(↑n:Int);An [Sm (V.bool true),((↑l.length:Int) != z0)=false,An [An [An [Sm l.length,Sm (ut l)],z0=z0,(↑(0:Nat):Int)=(0:Int),z0=z0,(↑(0:Nat):Int)=(0:Int),Tt],Tt],Sat Pg none 0 (at' 24 [1,1,1,0,1,0]) (mkSt g0 37 (igX l n 0 0)) (Qaf g0 37 [(True,Ex.exit 0,igZ n P)]),(True→An [binV (Qae Pg) .shl 50 (u6 1) (i6 ↑n)=some (u6 ↑w),wr .u64 ((↑w:Int)-(1:Int))=(↑(w-1):Int),((↑P:Int)==(↑(w-1):Int))=true,An [Sm true,Tt],Tt]),Tt])=_) ?_
   (repeat'(first|(with_reducible apply And.intro)|(refine fun(_:True)=>?_)))<;>first|exact aq|skip
   all_goals exact Qif (by simp[lo];omega) (by simp[hi];omega) |>.trans (by omega)
  |false=>
   have hPe:P≠2^n-1:=fun h=>by rw[hiff.1 h]at hb;cases hb
   generalize 2^n=w at*
   clear hiff hb hP
   refine FnOk.of_vc vE_ok mixed Qad (n:=1000) (r:=[]) (S:=bR4 false) (hs:=[no 11,(0,.loop [] (igX l n 0 0) [(True,.exit 0,igZ n P)]),va 34 (u6 w),nu 35 (w-1:Nat),no 36]) ?_
   refine Eq.mp (by kernel_rfl:(let z0:=(↑n:Int);An [Sm (V.bool false),((↑l.length:Int) != z0)=false,An [An [An [Sm l.length,Sm (ut l)],z0=z0,(↑(0:Nat):Int)=(0:Int),z0=z0,(↑(0:Nat):Int)=(0:Int),Tt],Tt],Sat Pg none 0 (at' 24 [1,1,1,0,1,0]) (mkSt g0 37 (igX l n 0 0)) (Qaf g0 37 [(True,Ex.exit 0,igZ n P)]),(True→An [binV (Qae Pg) .shl 50 (u6 1) (i6 ↑n)=some (u6 ↑w),wr .u64 ((↑w:Int)-(1:Int))=(↑(w-1):Int),((↑P:Int)==(↑(w-1):Int))=false,An [Sm false,Tt],Tt]),Tt])=_) ?_
   (repeat'(first|(with_reducible apply And.intro)|(refine fun(_:True)=>?_)))<;>first|exact aq|skip
   all_goals exact Qif (by simp[lo];omega) (by simp[hi];omega) |>.trans (by omega)
 ·rw [decide_eq_false hl, Bool.false_and]
  refine FnOk.of_vc vE_ok mixed Qad (n:=1000) (r:=[]) (S:=bR4 false) (hs:=[yes 11]) ?_
  refine Eq.mp (by kernel_rfl:(An [Sm (V.bool false),((↑l.length:Int) != (↑n:Int))=true,An [Sm false,Tt],Tt])=_) ?_
  exact au
def Qp1(l:List Nat):Bool:=decide (1≤l.length)&&(decide (l.length≤6)&&((List.range l.length).all (fun u=> !outL l l.length u)&&GG.acyclic l.length (relL l)))
def Ql4(n:Nat)(l:List Nat):Bool:=decide (l.length=n)&&Qp1 l
theorem Qts(n:Nat)(l:List Nat)(h1:1≤n)(h6:n≤6):(decide (l.length=n)&&GG.placedAll n (relL l) (outL l n))=Ql4 n l:=by
 unfold Ql4 Qp1
 by_cases hl:l.length=n
 ·rw [decide_eq_true hl, hl, decide_eq_true h1, decide_eq_true h6, Bool.true_and, Bool.true_and, Bool.true_and, Bool.true_and]
  exact GG.graph_same (fun u _ ho p hp=>out_in ho p hp)
 ·rw[decide_eq_false hl,Bool.false_and,Bool.false_and]
theorem Qvq{α:Type}{f:α→Int}{b:Int}: ∀l:List α,(∀x∈l,-b≤f x∧f x≤b)→ -(b*(l.length:Int))≤sumI (l.map f)∧sumI (l.map f)≤b*(l.length:Int)
 |[],_=>by simp[sumI]
 | x :: l, h => by
  have h1:=Qvq l (fun y hy=>h y (List.mem_cons_of_mem _ hy))
  have h2:=h x List.mem_cons_self
  have e:b*(((x::l).length:Nat):Int)=b*(l.length:Int)+b:=by
   rw[List.length_cons,Int.natCast_add,Int.mul_add];simp
  rw[List.map_cons,sumI,e];omega
theorem rows_bdA{P:List (Nat×Nat)}{r:Nat}(hP: ∀p∈P,p.2<r)(h40:P.length≤40)(hr1:1≤r)(hr4:r≤4){i:Nat}(hi:i<18)(j:Nat): -250≤conF facF r (rowL P r j) i∧conF facF r (rowL P r j) i≤250:=by
 have h1:=Qdy (r:=r) P j hP
 have h2:=Qcx P r j
 have h3:=Qm9 fac_ok hi (rowL P r j) (fun c hc=>by have:=Qdx hc;omega)
 have h5:=fac_ok.bd (r-1) i (by omega) hi
 have h6:=fac_ok.bd (sumN (rowL P r j)+(r-1)) i (by omega) hi
 unfold conF;omega
theorem fam_bd{cards:List Nat}{cs:List (List Nat)}{v ps:Nat}(hc:CardsOk cards)(hcs: ∀c∈cs,CaseOk cards c)(hv:v<cards.length)(hm:cs.length≤40){i:Nat}(hi:i<18): -10000≤famF cards cs v ps i∧famF cards cs v ps i≤10000:=by
 have hpo:=Qkh (ps:=ps) hc hcs hv
 have hr:=hc.each v hv
 have hlt:=fun p hp=>(hpo p hp).2
 have hel:=Qd8 hlt
 have hpl:(Qaz cards v ps cs).length≤40:=by simpa [Qaz]using hm
 have hE:=Qbz _ hlt
 unfold famF
 rw[←Qd9 (Qj2 i hi) hpo]
 have:=Qvq (f:=fun e=>conF facF (cards.getD v 0) e.2 i) (b:=250) (Qao (cards.getD v 0) (Qaz cards v ps cs)) (fun e he=>by
  rw[hE.row e he]
  exact rows_bdA hlt hpl (by omega) hr.2 hi e.1)
 omega
def graF(cards:List Nat)(cs:List (List Nat))(l:List Nat):Nat→Nat→Int
 |0=>Qap
 |k+1=>addA (graF cards cs l k) (famF cards cs k (l.getD k 0)) 1
theorem gra_bd{cards:List Nat}{cs:List (List Nat)}{l:List Nat}(hc:CardsOk cards)(hcs: ∀c∈cs,CaseOk cards c)(hm:cs.length≤40){i:Nat}(hi:i<18): ∀k:Nat,k≤cards.length→ -(10000*(k:Int))≤graF cards cs l k i∧graF cards cs l k i≤10000*(k:Int)
 |0,_=>by simp[graF,Qap]
 |k+1,hk=>by
  have h1:=gra_bd (l:=l) hc hcs hm hi k (by omega)
  have h2:=fam_bd (ps:=l.getD k 0) hc hcs (show k<cards.length by omega) hm hi
  have e:graF cards cs l (k+1) i=graF cards cs l k i+1*famF cards cs k (l.getD k 0) i:=rfl
  rw[e];omega
abbrev grO(cards:List Nat)(cs:List (List Nat))(f:Nat→Int):List O:=[dO cards cs,.row 44 none (arF Qap),.row 44 none (arF f)]
abbrev sgS(cards:List Nat)(cs:List (List Nat))(l:List Nat)(F:Nat→Nat→Int)(k:Nat):SL:={sl:=[(2,.ptr 0 0),(4,.ptr 1 0),(7,.ptr 2 0),(23,ul l),(24,i6 l.length),(25,i6 k)],os:=grO cards cs (F k)}
abbrev sgX(f:Nat→Int):SL:={sl:=[(4,.ptr 0 0),(7,.ptr 1 0)],os:=[.row 44 none (arF Qap),.row 44 none (arF f)]}
theorem sg_loop(cards:List Nat)(cs:List (List Nat))(l:List Nat)(hc:CardsOk cards)(hcs: ∀c∈cs,CaseOk cards c)(hm:cs.length≤40)(hl:l.length=cards.length):
  Sat Pg none 0 (at' 10 [1,1,1,1,0,1,0]) (mkSt g0 38 (sgS cards cs l (graF cards cs l) 0)) (Qaf g0 38 [(True,.exit 0,sgX (graF cards cs l l.length))]):=by
 have hstep: ∀k,graF cards cs l (k+1)=addA (graF cards cs l k) (famF cards cs k (l.getD k 0)) 1:=fun _=>rfl
 have hbd:=fun i(hi:i<18) k hk=>gra_bd (l:=l) hc hcs hm hi k hk
 generalize graF cards cs l=F at*
 refine Qa6 vE_ok mixed Qad (b:=at' 10 [1,1,1,1,0,1,0,0]) (by kernel_rfl) (fun k=>k≤l.length) (sgS cards cs l F) (fun k=>l.length-k) (fun k hk=>?_) 0 (Nat.zero_le _)
 by_cases hlt:k<l.length
 ·have hld := @Qeb l k hlt
  have hf:=Ql2 cards cs k (l.getD k 0) hc hcs (by omega) hm
  have h6:=hc.six
  have hcm:=comb (F k) (famF cards cs k (l.getD k 0)) 1 (fun i hi=>by
   have:=hbd i hi k (by omega)
   omega) (fun i hi=>by
   have:=fam_bd (ps:=l.getD k 0) hc hcs (show k<cards.length by omega) hm hi
   omega)
  refine .inl ⟨k+1,[0,1,2],[yes 26,pl 28,ld 29 (u6 (l.getD k 0:Nat)),fn 34 (ar (famF cards cs k (l.getD k 0))),fn 35 (ar (F (k+1))),nu 36 (k+1:Nat)],1000,hlt,by omega,?_⟩
  rw[←hstep]at hcm
  clear hstep hbd
  generalize famF cards cs k (l.getD k 0)=f3 at*
  generalize l.getD k 0=s at*
  refine Eq.mp (by kernel_rfl:(let z0:=ofOs T.e 0 (grO cards cs (F k));let z1:=(↑l.length:Int);let z2:=(↑(k+1):Int);let z3:=(↑k:Int);let z4:=[nl cards,cV cs];let z5:=F (k+1);An [decide (z3<z1)=true,An [(0:Int)≤z3,z3<z1],headF (List.drop (k*1) (ut l))=some (u6 ↑s),An [TT 2,TT 2],FnOk Pg g0 26 [V.agg [V.im cards.length (nt cards),V.im cs.length (List.map nl cs)],i6 ↑k,u6 ↑s] (ar f3),Tt,An [TT 18,TT 18,Tt,Tt],FnOk Pg g0 25 [V.agg (arF (F k)),V.agg (arF f3),i6 1] (ar z5),An [(V.fn 26 []=V.fn 25 []→[V.agg z4,i6 ↑k,u6 ↑s]=[V.agg (arF (F k)),ar f3,i6 1]→z0=z0→3=3→CR.mk (ar f3) z0 3 []=CR.mk (ar z5) z0 3 []),Tt],wr .i64 (z3+(1:Int))=z2,An [Zz,Zz,Zz,An [Sm l.length,Sm (ut l)],z1=z1,z2=z2,Tt],An [z4=z4,TT 2],An [Sm (arF Qap),TT 18],An [Sm (arF z5),TT 18],Tt])=_) ?_
  exact au
 ·have : k = l.length := by omega
  subst this
  clear hstep hbd
  refine .inr ⟨.exit 0,[1,2],sgX (F l.length),[no 26],1000,.inl ⟨trivial,rfl,rfl⟩,?_⟩
  refine Eq.mp (by kernel_rfl:(An [decide ((↑l.length:Int)<(↑l.length:Int))=false,An [Zz,Zz,Tt],An [Sm (arF Qap),TT 18],An [Sm (arF (F l.length)),TT 18],Tt])=_) ?_
  exact au
theorem fits_out{n:Nat}{l:List Nat}(h:Ql4 n l=true):l.length=n∧∀k,l.getD k 0<2^n:=by
 unfold Ql4 Qp1 at h
 simp only[Bool.and_eq_true,decide_eq_true_eq]at h
 obtain⟨hl,h1,h2,h3,h4⟩:=h
 refine⟨hl,fun k=>?_⟩
 by_cases hk:k<l.length
 ·have := GG.all_range.1 h3 k hk
  unfold outL at this
  rw[hl]at this
  have h0:l.getD k 0/2^n=0:=by simpa using this
  rcases Nat.lt_or_ge (l.getD k 0) (2^n)with h'|h'
  ·exact h'
  ·have:=Nat.div_pos h' (Nat.two_pow_pos _);omega
 ·rw [List.getD_eq_getElem?_getD, List.getElem?_eq_none (by omega)]
  exact Nat.two_pow_pos _
def graG(cards:List Int)(cs:List (List Int))(l:List Nat):Nat→Int:=graF (toN cards) (cs.map toN) l l.length
abbrev gpS(f:Nat→Int)(e:Int):SL:={sl:=[(4,.ptr 0 0),(5,i6 e)],os:=[.row 44 none (arF f)]}
theorem Qvc(cards:List Int)(cs:List (List Int))(l:List Nat)(hl1:cards.length≤6)(hl2:cs.length≤1000)(hcl: ∀c∈cs,c.length≤1000)(h64:S64 l)(h:goodE cards cs=0)(hf:Ql4 cards.length l=true):FnOk Pg g0 10 [gV cards cs,ul l] (.tup [ar (graG cards cs l),i6 0]):=by
 have h1:=Qep cards cs (by omega) hl2 hcl
 have hw:=Qky h
 have hpos:=hw.cok.pos
 rw[Qax]at hpos
 rw[h]at h1
 have h2:=Qrm l cards.length hl1 h64
 rw[Qts _ l hpos hl1,hf]at h2
 have f1:=(fits_out hf).1
 have lo_:=sg_loop (toN cards) (cs.map toN) l hw.cok hw.rok (by rw[List.length_map];exact hw.len) (by rw[Qax];exact f1)
 unfold graG
 rw[hw.eq]at h1⊢
 rw[←Qax cards]at h2
 have h0:arF (graF (toN cards) (cs.map toN) l 0)=arF Qap:=rfl
 generalize graF (toN cards) (cs.map toN) l=F at*
 clear h hf
 generalize toN cards=cards at*
 generalize cs.map toN=cs at*
 refine FnOk.of_vc vE_ok mixed Qad (n:=1000) (r:=[0]) (S:=gpS (F l.length) 0) (hs:=[fn 11 (i6 0),no 13,fn 20 (.bool true),(0,.loop [0,1,2] (sgS cards cs l F 0) [(True,.exit 0,sgX (F l.length))])]) ?_
 refine Eq.mp (by kernel_rfl:(let z0:=[i6 0,i6 0,i6 0,i6 0,i6 0,i6 0,i6 0,i6 0,i6 0,i6 0,i6 0,i6 0,i6 0,i6 0,i6 0,i6 0,i6 0,i6 0];let z1:=F l.length;let z2:=(0:Int);An [V.tup [V.agg (arF z1),i6 0]=V.tup [ar z1,i6 0],An [TT 2,Tt],FnOk Pg g0 23 [V.agg [V.im cards.length (nt cards),V.im cs.length (List.map nl cs)]] (i6 0),Tt,(z2 != z2)=false,TT 2,FnOk Pg g0 24 [V.im l.length (ut l),i6 ↑cards.length] (V.bool true),Tt,An [An [Zz,Zz,Zz,An [Sm l.length,Sm (ut l)],Sm (↑l.length:Int),(↑(0:Nat):Int)=z2,Tt],An [Sm [nl cards,cV cs],TT 2],An [arF Qap=z0,TT 18],An [arF (F 0)=z0,TT 18],Tt],Sat Pg none 0 (at' 10 [1,1,1,1,0,1,0]) (mkSt g0 38 (sgS cards cs l F 0)) (Qaf g0 38 [(True,Ex.exit 0,sgX z1)]),(True→An [An [Zz,z2=z2,Tt],An [Sm (arF z1),TT 18],Tt]),Tt])=_) ?_
 exact au
theorem Qu4{n:Nat}{G:List Nat}(h1:1≤n)(h6:n≤6)(hG:G.length=n)(r:Nat→Nat)(hr: ∀u,u<n→∀p,relL G u p=true→p<n∧r p<r u):Ql4 n G=true:=by
 unfold Ql4 Qp1
 rw[hG]
 simp only[decide_true,Bool.true_and]
 rw[decide_eq_true h1,decide_eq_true h6,Bool.true_and,Bool.true_and,Bool.and_eq_true]
 refine⟨GG.all_range.2 fun u hu=>?_,GG.all_range.2 fun i hi=>?_⟩
 ·rw[in_out fun p hp=>(hr u hu p hp).1];rfl
 ·cases hc : GG.clo n (relL G) i n i with
  |false=>rfl
  |true=>have:=(GG.clo_below hr hi n i hc).2;omega
theorem Qf0{f:Nat→Nat}{n k:Nat}(h:k<n):((List.range n).map f).getD k 0=f k:=by
 rw[List.getD_eq_getElem?_getD,List.getElem?_eq_getElem (by simpa using h)];simp
theorem Qty{f:Nat→Int}{n k:Nat}(h:k<n):((List.range n).map f).getD k 0=f k:=by
 rw[List.getD_eq_getElem?_getD,List.getElem?_eq_getElem (by simpa using h)];simp
theorem bit_lt{s n p:Nat}(h:s<2^n)(hb:s.testBit p=true):p<n:=by
 rcases Nat.lt_or_ge p n with h'|h'
 ·exact h'
 ·rw[Nat.testBit_lt_two_pow (Nat.lt_of_lt_of_le h (Nat.pow_le_pow_right (by decide) h'))]at hb;cases hb
theorem Qi8{n:Nat}{g r:Nat→Nat}(h1:1≤n)(h6:n≤6)(hg:Qni n g r):Ql4 n ((List.range n).map g)=true:=
 Qu4 h1 h6 (by simp) r fun u hu p hp=>by
  unfold relL at hp
  rw[Qf0 hu]at hp
  have hpn:=bit_lt (hg u hu).1 hp
  exact⟨hpn,(hg u hu).2 p hpn hp⟩
theorem gra_sc{cards:List Int}{cs:List (List Int)}{l:List Nat}(hl:l.length=cards.length)(hn:cards.length≤5):graG cards cs l=scG (fF cards cs) (fun v=>l.getD v 0) (2^cards.length-1) cards.length:=by
 have key: ∀k,k≤cards.length→graF (toN cards) (cs.map toN) l k=scG (fF cards cs) (fun v=>l.getD v 0) (2^cards.length-1) k:=by
  intro k
  induction k with
  |zero=>intro _;rfl
  | succ k ih =>
   intro hk
   rw[graF,scG,Qfz _ hn k (by omega),decide_eq_true (show k<cards.length by omega),if_pos rfl,ih (by omega)]
   have:fF cards cs k (l.getD k 0)=famF (toN cards) (cs.map toN) k (l.getD k 0):=by
    unfold fF famG
    rw[if_pos (by omega)];rfl
   rw[this]
 unfold graG
 rw[hl]
 exact key _ (Nat.le_refl _)
theorem Qt0{cards:List Int}{cs:List (List Int)}{g:Nat→Nat}(hn:cards.length≤5):graG cards cs ((List.range cards.length).map g)=scG (fF cards cs) g (2^cards.length-1) cards.length:=by
 rw[gra_sc (by simp) hn]
 exact Qhr _ (fun _ _=>rfl) fun v hv _=>Qf0 hv
theorem Qvt(n lim:Nat)(F:Nat→Nat→Nat→Int):topB n lim F 0=Qap:=by
 unfold topB
 rw[Qon (fun v _=>Nat.zero_testBit v)];rfl
section
variable {n lim:Nat} {F:Nat→Nat→Nat→Int}
theorem sol_at(hF: ∀v p,inB (F v p) 160)(hn:n≤5){s:Nat}(h0:0<s)(hs:s<2^n):laT n lim F (2^n) s<n∧s.testBit (laT n lim F (2^n) s)=true∧okT lim s (laT n lim F (2^n) s) (paT n lim F (2^n) s)=true∧topB n lim F s=addA (topB n lim F (s-2^laT n lim F (2^n) s)) (F (laT n lim F (2^n) s) (paT n lim F (2^n) s)) 1:=by
 obtain⟨v,p,h1,h2,h3,h4,h5⟩:=top_is (lim:=lim) hF hn hs h0
 have e1:laT n lim F (2^n) s=v:=by rw[la_at _ _ _ _ _ hs,h4];rfl
 have e2:paT n lim F (2^n) s=p:=by rw[pa_at _ _ _ _ _ hs,h4];rfl
 rw[e1,e2]
 exact⟨h1,h2,h3,h5⟩
def mkL(la:Nat→Nat)(n:Nat):List Int:=(List.range (2^n)).map fun s=>((la s:Nat):Int)
def mkP(pa:Nat→Nat)(n:Nat):List Nat:=(List.range (2^n)).map pa
theorem mk_l{la:Nat→Nat}{s:Nat}(hs:s<2^n):(mkL la n).getD s 0=((la s:Nat):Int):=Qty hs
theorem mk_p{pa:Nat→Nat}{s:Nat}(hs:s<2^n):(mkP pa n).getD s 0=pa s:=Qf0 hs
theorem mk_la{la:Nat→Nat}{s:Nat}(hs:s<2^n):laL (mkL la n) s=la s:=by unfold laL;rw[mk_l hs];rfl
theorem mk_pa{pa:Nat→Nat}{s:Nat}(hs:s<2^n):paL (mkP pa n) s=pa s:=mk_p hs
theorem Qqd(la pa:Nat→Nat)(h1:1≤n)(hn:n≤5):wdt (mkL la n) (mkP pa n)=n:=
 (Qe9 _ _).2.2 n h1 hn (Qc5.2 ⟨by simp[mkL],by simp[mkP]⟩)
theorem mk_lad{la pa:Nat→Nat}(h1:1≤n)(hn:n≤5)(hl0:la 0=0)(hp0:pa 0=0)(h: ∀s,0<s→s<2^n→la s<n∧s.testBit (la s)=true∧pa s&&& (s-2^la s)=pa s):ladB (mkL la n) (mkP pa n)=true:=by
 have hp:0<2^n:=Nat.pow_pos (by decide)
 have h32:=Qau hn
 unfold ladB
 rw[Qqd la pa h1 hn,decide_eq_true h1,Bool.true_and,Bool.and_eq_true]
 constructor
 ·unfold ok0
  rw[mk_l hp,mk_p hp,hl0,hp0]
  rfl
 ·refine all_range.2 fun s hs => ?_
  have hs':s<2^n:=by simpa [mkL]using hs
  rcases Nat.eq_zero_or_pos s with h0|h0
  ·rw[decide_eq_true h0];rfl
  ·obtain ⟨a, b, c⟩ := h s h0 hs'
   rw[Bool.or_eq_true]
   right
   unfold okS
   rw[mk_l hs',mk_p hs',Int.toNat_natCast]
   rw[decide_eq_true (by omega),decide_eq_true (by omega),b,decide_eq_true c]
   rfl
theorem mk_ok{la pa:Nat→Nat}(h1:1≤n)(hn:n≤5)(hl0:la 0=0)(hp0:pa 0=0)(h: ∀s,0<s→s<2^n→la s<n∧s.testBit (la s)=true∧pa s&&& (s-2^la s)=pa s):LdOk (mkL la n) (mkP pa n) n:=by
 have:=Qnz (mk_lad h1 hn hl0 hp0 h)
 rwa [Qqd la pa h1 hn]at this
theorem Qun(f:Nat→Nat): ∀n,nF f n=ints ((List.range n).map fun s=>((f s:Nat):Int))
 |0=>rfl
 |n+1=>by
  show blF _ (n+1)=_
  rw[Qbi,show blF (fun i=>[i6 (f i:Nat)]) n=ints ((List.range n).map fun s=>((f s:Nat):Int))from Qun f n]
  unfold ints
  rw[List.range_succ,List.map_append,List.map_append];rfl
theorem mk_V(la pa:Nat→Nat)(n:Nat):ldV (2^n) la pa=lV (mkL la n) (mkP pa n):=by
 show V.agg [.im (2^n) (nF la (2^n)),.im (2^n) (uF pa (2^n))]=V.agg [.im (mkL la n).length (ints (mkL la n)),.im (mkP pa n).length (ut (mkP pa n))]
 rw[Qun,uF_ut]
 unfold mkL mkP
 rw[List.length_map,List.length_map,List.length_range]
theorem mk_S64{pa:Nat→Nat}(h: ∀s,s<2^n→pa s<18446744073709551616):S64 (mkP pa n):=fun x hx=>by
 obtain⟨s,hs,rfl⟩:=List.mem_map.1 hx
 exact h s (List.mem_range.1 hs)
variable (n lim F)in
abbrev solL:List Int:=mkL (laT n lim F (2^n)) n
variable (n lim F)in
abbrev solP:List Nat:=mkP (paT n lim F (2^n)) n
theorem Qvg:laT n lim F (2^n) 0=0∧paT n lim F (2^n) 0=0:=by
 have hp:0<2^n:=Nat.pow_pos (by decide)
 rw[la_at _ _ _ _ _ hp,pa_at _ _ _ _ _ hp,Qon (fun v _=>Nat.zero_testBit v)]
 exact⟨rfl,rfl⟩
theorem Qol(hF: ∀v p,inB (F v p) 160)(hn:n≤5): ∀s,0<s→s<2^n→laT n lim F (2^n) s<n∧s.testBit (laT n lim F (2^n) s)=true∧paT n lim F (2^n) s&&& (s-2^laT n lim F (2^n) s)=paT n lim F (2^n) s:=fun s h0 hs=>by
 have h32:=Qau hn
 obtain⟨a,b,c,_⟩:=sol_at (lim:=lim) hF hn h0 hs
 have hps:=(Qb4.1 c).1
 have hp32:paT n lim F (2^n) s<32:=by
  rw[←hps];exact Nat.lt_of_le_of_lt Nat.and_le_right (by omega)
 exact⟨a,b,((Qee (by omega) (by omega) b hp32).1 c).1⟩
theorem sol_lad(hF: ∀v p,inB (F v p) 160)(h1:1≤n)(hn:n≤5):ladB (solL n lim F) (solP n lim F)=true:=mk_lad h1 hn Qvg.1 Qvg.2 (Qol hF hn)
theorem sol_S64(hF: ∀v p,inB (F v p) 160)(hn:n≤5):S64 (solP n lim F):=mk_S64 fun s hs=>by
 have h32:=Qau hn
 rcases Nat.eq_zero_or_pos s with h0|h0
 ·subst h0;rw[Qvg.2];decide
 ·have := (Qol (lim := lim) hF hn s h0 hs).2.2
  rw[←this];exact Nat.lt_of_le_of_lt Nat.and_le_right (by have:=Nat.sub_le s (2^laT n lim F (2^n) s);omega)
def rgtB(n lim:Nat)(F:Nat→Nat→Nat→Int)(L:List Int)(P:List Nat):Bool:=(List.range (2^n)).all fun s=>decide (s=0)||(decide (popc (P.getD s 0)≤lim)&&eqA (addA (topB n lim F (s-2^laL L s)) (F (laL L s) (paL P s)) 1) (topB n lim F s))
theorem sol_rgt(hF: ∀v p,inB (F v p) 160)(hn:n≤5):rgtB n lim F (solL n lim F) (solP n lim F)=true:=by
 refine all_range.2 fun s hs=>?_
 rcases Nat.eq_zero_or_pos s with h0|h0
 ·rw[decide_eq_true h0];rfl
 ·obtain ⟨a, b, c, d⟩ := sol_at (lim := lim) hF hn h0 hs
  rw[Bool.or_eq_true]
  right
  rw[mk_p hs,mk_la hs,mk_pa hs,←d,eqA_self,decide_eq_true (Qb4.1 c).2.2]
  rfl
theorem ladG_in{la pa:Nat→Nat}: ∀f s v,(∀t,0<t→t≤s→t.testBit (la t)=true)→ladG la pa f s v=0∨∃t,0<t∧t≤s∧ladG la pa f s v=pa t
 |0,_,_,_=>.inl rfl
 | f + 1, s, v, h => by
  rw[ladG]
  split
  ·exact .inl rfl
  ·rename_i h0
   split
   ·exact .inr ⟨s,by omega,Nat.le_refl _,rfl⟩
   ·have hsb := Nat.sub_le s (2 ^ la s)
    rcases ladG_in f (s-2^la s) v (fun t h1 h2=>h t h1 (Nat.le_trans h2 hsb))with h1|⟨t,h1,h2,h3⟩
    ·exact .inl h1
    ·exact .inr ⟨t,h1,Nat.le_trans h2 hsb,h3⟩
theorem lad_rank{L:List Int}{P:List Nat}(h:LdOk L P n):Qni n (gL L P n) (ladR (laL L) n (2^n-1)):=fun v hv=>by
 have h5:=h.w5
 have hp:0<2^n:=Nat.pow_pos (by decide)
 refine⟨Qub h5 h.ok n _ v (by omega),fun p hp2 hb=>?_⟩
 exact(Qmf h5 h.ok n _ (by omega) (by rw[Qe1 n h5];exact Nat.le_refl _) v hv (by rw[Qfz n h5 v (by omega),decide_eq_true hv]) p hp2 hb).2
theorem Qud{L:List Int}{P:List Nat}(h:LdOk L P n)(hr:rgtB n lim F L P=true): ∀i,i<18→scG F (gL L P n) (2^n-1) n i=topB n lim F (2^n-1) i:=by
 have h5:=h.w5
 have hp:0<2^n:=Nat.pow_pos (by decide)
 refine Qiz h5 h.ok (B:=topB n lim F) (fun i _=>by rw[Qvt];rfl) (fun s h0 hs i hi=>?_) n _ (by omega) (by rw[Qe1 n h5];exact Nat.le_refl _)
 have:=all_range.1 hr s hs
 rw[decide_eq_false (by omega),Bool.false_or,Bool.and_eq_true]at this
 have:=(Qj1.1 this.2) i hi
 rw[←this,Qgb]
theorem lad_lim{L:List Int}{P:List Nat}(h:LdOk L P n)(hr:rgtB n lim F L P=true)(v:Nat):popc (gL L P n v)≤lim:=by
 have hp:0<2^n:=Nat.pow_pos (by decide)
 rcases ladG_in (la:=laL L) (pa:=paL P) n (2^n-1) v (fun t h1 h2=>(h.ok.at_ t h1 (by omega)).2.1)with e|⟨t,h1,h2,e⟩
 ·rw[show gL L P n v=0 from e];exact Nat.zero_le _
 ·rw [show gL L P n v = paL P t from e]
  have:=all_range.1 hr t (by omega)
  rw[decide_eq_false (by omega),Bool.false_or,Bool.and_eq_true]at this
  exact of_decide_eq_true this.1
theorem sc_top(hF: ∀v p,inB (F v p) 160)(h1:1≤n)(hn:n≤5){g r:Nat→Nat}(hg:Qni n g r)(hl: ∀v,v<n→popc (g v)≤lim):nvF (scG F g (2^n-1) n)≤nvF (topB n lim F (2^n-1)):=by
 have hp:0<2^n:=Nat.pow_pos (by decide)
 exact sc_le hF hn hg hl n _ (by omega) (Qe1 n hn) fun v hv hb p hp hgp=>by rw[Qfz n hn p (by omega),decide_eq_true hp]
theorem sol_ok(hF: ∀v p,inB (F v p) 160)(h1:1≤n)(hn:n≤5):LdOk (solL n lim F) (solP n lim F) n:=mk_ok h1 hn Qvg.1 Qvg.2 (Qol hF hn)
theorem sc_in(hF: ∀v p,inB (F v p) 160)(hn:n≤5)(g:Nat→Nat)(s:Nat):inB (scG F g s n) 800:=(Qqu hF g s n).mono (by omega)
theorem cmp_le{a b:Nat→Int}(ha:inB a 800)(hb:inB b 800)(h:nvF a≤nvF b):cmpF a b≤0:=by
 rw[Qc2 (ha.mono (by decide)) (hb.mono (by decide))]
 exact Qvb.2 h
theorem cmp_zero{a b:Nat→Int}(ha:inB a 800)(hb:inB b 800)(h: ∀i,i<18→a i=b i):cmpF a b=0:=by
 rw[Qc2 (ha.mono (by decide)) (hb.mono (by decide)),Qqm h]
 exact Qe5.2 rfl
end
section
variable {n lim:Nat} {F G:Nat→Nat→Nat→Int}
end
section
variable (n:Nat) (a b:Nat→Nat)
end
section
variable (N:Nat) (a b:Nat→Nat) (n size:Nat) (la pa:Nat→Nat)
end
open Go.RowKit Go.ChangeShapes Go.WideShapes
section
variable {H:Type} {enc:TypeId×Value→H} {w:World}
end
end Go.Proofs.YtcmeiecgijmdjaaDoor.Am
