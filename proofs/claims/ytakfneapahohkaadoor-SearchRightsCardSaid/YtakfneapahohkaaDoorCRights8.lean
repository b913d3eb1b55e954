/- Texts behind the claim, part 8: the abstract machine, and what the functions answer. No condition. -/
import Derived.Test.YtakfneapahohkaaDoorCRights7
set_option linter.unusedVariables false
set_option linter.unusedSimpArgs false
set_option linter.unusedSectionVars false
namespace Go.Proofs.YtakfneapahohkaaDoor.Am
open Go.RowKit
set_option maxHeartbeats 1000000
set_option maxRecDepth 100000
abbrev nF(f:Nat->Nat)(n:Nat):List V:=blF (fun i=>[i6 (f i:Nat)]) n
abbrev uF(f:Nat->Nat)(n:Nat):List V:=blF (fun i=>[u6 (f i:Nat)]) n
theorem Qai(f:Nat->Nat)(n:Nat):HfL (nF f n):=Qfu (f:=fun i=>[i6 (f i:Nat)]) (fun k=>⟨trivial,trivial⟩) n
theorem Qaj(f:Nat->Nat)(n:Nat):HfL (uF f n):=Qfu (f:=fun i=>[u6 (f i:Nat)]) (fun k=>⟨trivial,trivial⟩) n
theorem Qdl{f:Nat->Nat}{n j:Nat}(h:j<n)(x:Nat):Ax (0+j*1) (nF f n) [i6 (x:Nat)]=some (nF (fun i=>if i=j then x else f i) n):=by
 rw[Nat.zero_add,Qmj (f:=fun i=>[i6 (f i:Nat)]) (s:=1) (x:=[i6 (x:Nat)]) (fun _=>rfl) h rfl]
 congr 1
 refine Qby fun i hi=>?_
 unfold upB
 dsimp only
 split<;>rfl
theorem Qd8{f:Nat->Nat}{n j:Nat}(h:j<n)(x:Nat):Ax (0+j*1) (uF f n) [u6 (x:Nat)]=some (uF (fun i=>if i=j then x else f i) n):=by
 rw[Nat.zero_add,Qmj (f:=fun i=>[u6 (f i:Nat)]) (s:=1) (x:=[u6 (x:Nat)]) (fun _=>rfl) h rfl]
 congr 1
 refine Qby fun i hi=>?_
 unfold upB
 dsimp only
 split<;>rfl
section
variable (jj:List Int) (cs:List (List Int)) (F:Nat->Nat->Nat->Int) (size:Nat) (q:Nat->Nat×Nat) (s:Nat) (B:Nat->Nat->Int) (la pa:Nat->Nat) (fb:Bool)
abbrev tyO(hs k:Nat):List O:=[.row 37 none (bF B size),.map (Ak q k) k,.row 70 none (toC jj cs size 0 1 hs k),.row 3 none (nF la size),.row 72 none (uF pa size),.row 65 none [.ptr 2 0],.row 3 none [i6 (s:Nat)],.row 4 none [.bool fb],.row 43 none [.sl 3 0 size (some (size-size)),.sl 4 0 size (some (size-size))]]
abbrev Dn:List O:=tyO jj cs size q s B la pa fb 9 0
abbrev A9(k:Nat):List O:=tyO jj cs size q s B la pa fb 9 (k+1)++[.row 37 (some 18) (bF (scF F q) (k+1))]
abbrev Dm(k:Nat):List O:=tyO jj cs size q s B la pa fb 10 (k+1)++[.dead,.row 37 (some 18) (bF (scF F q) (k+1))]
end
abbrev caT:List V:=[.ptr 5 0,.ptr 6 0,.ptr 7 0,.ptr 8 0]
theorem Qqa(jj:List Int)(cs:List (List Int))(F:Nat->Nat->Nat->Int)(size:Nat)(q:Nat->Nat×Nat)(k s v p:Nat)(B:Nat->Nat->Int)(la pa:Nat->Nat)(x:Nat->Int)(hs:s<size)
  (hp:Aa Pg g0 (.fn 33 []) [.ptr 2 0,i6 (s:Nat),i6 (v:Nat),u6 (p:Nat)] (Ae .e 0 (Br jj cs F B size q k)) 4 ⟨.tup [ar x,i6 0],Ae .e 0 (Br jj cs F B size q k),4,[]⟩):
  Aa Pg g0 (.fn 35 []) (i6 (v:Nat)::u6 (p:Nat)::caT) (Ae .e 0 (A9 jj cs F size q s B la pa false k)) 10 ⟨i6 0,Ae .e 0 (A9 jj cs F size q s (fun i=>if i=s then x else B i) (fun i=>if i=s then v else la i) (fun i=>if i=s then p else pa i) true k),10,[0,1,2,3,4,7]⟩:=by
 have hB:=Qab B size
 have hB1:=Qab (fun i=>if i=s then x else B i) size
 have hS:=Qab (scF F q) (k+1)
 have hE:=Qae q (k+1)
 have hS0:=Qab (scF F q) (k+1)
 have hE0:=Qae q (k+1)
 have hc:=Qag jj
 have hg:=Qap cs
 have hla:=Qai la size
 have hpa:=Qaj pa size
 have jb:=Qai (fun i=>if i=s then v else la i) size
 have jc:=Qaj (fun i=>if i=s then p else pa i) size
 have htk:=@Qa9 B size s hs
 have y1:=@Qep B size s hs x
 have y2:=@Qdl la size s hs v
 have y3:=@Qd8 pa size s hs p
 have hcall:Aa Pg g0 (.fn 33 []) [.ptr 2 0,i6 (s:Nat),i6 (v:Nat),u6 (p:Nat)] (Ae .e 0 (A9 jj cs F size q s B la pa false k)) 10 ⟨.tup [ar x,i6 0],Ae .e 0 (A9 jj cs F size q s B la pa false k),10,[]⟩:=
  Aa.frameL (OS:=A9 jj cs F size q s B la pa false k) (OS':=A9 jj cs F size q s B la pa false k) [0,1,2,9] [(0,0),(1,1),(2,2),(9,3)] [0,0,1] [0,0,1] hp k_ (by
   refine m_ (p:=Bn [Zz,Sm (s:Int),Sm (v:Int),Sm (p:Int)]) ?_
   (repeat'(first|(with_reducible apply And.intro)|(refine fun(_:True)=>?_)))<;>first|exact aq|skip) (by
   refine m_ (p:=let z0:=bF (scF F q) (k+1);let z1:=Ak q (k+1);Bn [An [Sm (bF B size),HfL (bF B size)],An [z1=z1,HfE z1,Sm (k+1)],Bn [An [Sm jj.length,Sm (Ab jj)],An [Sm cs.length,Sm (List.map sl cs)],An [Zz,Sm size,Sm (size-size)],Tt,Bn [Zz,Sm (k+1)]],An [z0=z0,HfL z0]]) ?_
   (repeat'(first|(with_reducible apply And.intro)|(refine fun(_:True)=>?_)))
   all_goals first|exact aq|exact hB|exact hS|exact hS0|exact hE|exact hE0|rfl|skip) (by
   refine m_ (p:=Bn [Bn [x 0=x 0,x 1=x 1,x 2=x 2,x 3=x 3,x 4=x 4,x 5=x 5,x 6=x 6,x 7=x 7,x 8=x 8,x 9=x 9,Sm (x 10),Sm (x 11),Sm (x 12),Sm (x 13),Sm (x 14),Sm (x 15),Sm (x 16),Sm (x 17)],Sm (0:Int)]) ?_
   (repeat'(first|(with_reducible apply And.intro)|(refine fun(_:True)=>?_)))<;>first|exact aq|skip) (by
   refine m_ (p:=let z0:=A9 jj cs F size q s B la pa false k;let z2:=bF (scF F q) (k+1);let z3:=Ak q (k+1);let z4:=some (O.row 4 none [V.bool false]);let z5:=some (O.row 72 none (uF pa size));let z6:=some (O.row 3 none (nF la size));let z7:=some (O.row 65 none [V.ptr 2 0]);let z8:=some (O.row 3 none [i6 s]);let z9:=bF B size;let y0:=some (size-size);let z1:=some (O.row 43 none [V.sl 3 0 size y0,V.sl 4 0 size y0]);Bn [z0[0]? =some (O.row 37 none z9),An [z9=z9,HfL z9],z0[1]? =some (O.map z3 (k+1)),An [z3=z3,HfE z3,Sm (k+1)],z0[2]? =some (O.row 70 none (toC jj cs size 0 1 9 (k+1))),Bn [An [Sm jj.length,Sm (Ab jj)],An [Sm cs.length,Sm (List.map sl cs)],An [Zz,Sm size,Sm (size-size)],Tt,Bn [Zz,Sm (k+1)]],z0[3]? =z6,z0[3]? =z6,z0[4]? =z5,z0[4]? =z5,z0[5]? =z7,z0[5]? =z7,z0[6]? =z8,z0[6]? =z8,z0[7]? =z4,z0[7]? =z4,z0[8]? =z1,z0[8]? =z1,z0[9]? =some (O.row 37 (some 18) z2),An [z2=z2,HfL z2]]) ?_
   (repeat'(first|(with_reducible apply And.intro)|(refine fun(_:True)=>?_)))
   all_goals first|exact aq|exact hB|exact hS|exact hS0|exact hE|exact hE0|rfl|skip)
 refine Aa.of_vcH (P:=Pg) (E:=vE) vE_ok Af Qaa (n:=1000) (f:=35) (os0:=A9 jj cs F size q s B la pa false k) (ars:=i6 (v:Nat)::u6 (p:Nat)::caT) (r:=[])
  (S := { sl := [(8, i6 0)], os := A9 jj cs F size q s (fun i => if i = s then x else B i) (fun i => if i = s then v else la i) (fun i => if i = s then p else pa i) true k, md := [0, 0, 1, 0, 0, 1, 0, 0, 1], lg := [0, 1, 2, 3, 4, 7] }) (v := i6 0) (hs := [(17, .call ⟨.tup [ar x, i6 0], Ae .e 0 (A9 jj cs F size q s B la pa false k), 10, []⟩), pl 55, st (bF (fun i => if i = s then x else B i) size), pl 56, st (nF (fun i => if i = s then v else la i) size), pl 57, st (uF (fun i => if i = s then p else pa i) size)]) (gl := g0) (by simp) (fun i hi hno => by
   rcases(show i=0\/i=1\/i=2\/i=3\/i=4\/i=5\/i=6\/i=7\/i=8\/i=9 by simp at hi;omega)with rfl|rfl|rfl|rfl|rfl|rfl|rfl|rfl|rfl|rfl<;>first|rfl|(simp at hno)) ?_
 exact v_ (p:=let z6:=An [Zz,Sm size,Sm (size-size)];let z0:=Ae T.e 0 (A9 jj cs F size q s B la pa false k);let z1:=(s:Int);let z2:=bF (scF F q) (k+1);let z3:=(0:Int);let z4:=(size:Int);let z5:=Ak q (k+1);Bn [Sm (i6 0),Aa Pg g0 (V.fn 33 []) [V.ptr 2 0,i6 s,i6 v,u6 p] z0 10 (CR.mk (V.tup [ar x,i6 0]) z0 10 []),Tt,An [z3<=z1,z1<z4],Ax (0+s*18) (bF B size) (arF x)=some (bF (fun i=>if i=s then x else B i) size),An [z3<=z1,z1<z4],Ax (0+s*1) (nF la size) [i6 v]=some (nF (fun i=>if i=s then v else la i) size),An [z3<=z1,z1<z4],Ax (0+s*1) (uF pa size) [u6 p]=some (uF (fun i=>if i=s then p else pa i) size),Bn [z3=z3],An [Sm (bF (fun i=>if i=s then x else B i) size),HfL (bF (fun i=>if i=s then x else B i) size)],An [z5=z5,HfE z5,Sm (k+1)],Bn [An [Sm jj.length,Sm (Ab jj)],An [Sm cs.length,Sm (List.map sl cs)],z6,Tt,Bn [Zz,Sm (k+1)]],An [Sm (nF (fun i=>if i=s then v else la i) size),HfL (nF (fun i=>if i=s then v else la i) size)],An [Sm (uF (fun i=>if i=s then p else pa i) size),HfL (uF (fun i=>if i=s then p else pa i) size)],Bn [Zz],Bn [Sm [i6 s],Tt],Bn [Sm [V.bool true],Tt],Bn [z6,z6],An [z2=z2,HfL z2]])
theorem Qp8(jj:List Int)(cs:List (List Int))(F:Nat->Nat->Nat->Int)(size:Nat)(q:Nat->Nat×Nat)(k s v p:Nat)(B:Nat->Nat->Int)(la pa:Nat->Nat)(x:Nat->Int)(hs:s<size)(c:Int)(hc0:0<c)(hcmp:Ac Pg g0 36 [ar x,ar (B s)] (.tup [i6 c,i6 0]))
  (hp:Aa Pg g0 (.fn 33 []) [.ptr 2 0,i6 (s:Nat),i6 (v:Nat),u6 (p:Nat)] (Ae .e 0 (Br jj cs F B size q k)) 4 ⟨.tup [ar x,i6 0],Ae .e 0 (Br jj cs F B size q k),4,[]⟩):
  Aa Pg g0 (.fn 35 []) (i6 (v:Nat)::u6 (p:Nat)::caT) (Ae .e 0 (A9 jj cs F size q s B la pa true k)) 10 ⟨i6 0,Ae .e 0 (A9 jj cs F size q s (fun i=>if i=s then x else B i) (fun i=>if i=s then v else la i) (fun i=>if i=s then p else pa i) true k),10,[0,1,2,3,4,7]⟩:=by
 have hB:=Qab B size
 have hB1:=Qab (fun i=>if i=s then x else B i) size
 have hS:=Qab (scF F q) (k+1)
 have hE:=Qae q (k+1)
 have hS0:=Qab (scF F q) (k+1)
 have hE0:=Qae q (k+1)
 have hc:=Qag jj
 have hg:=Qap cs
 have hla:=Qai la size
 have hpa:=Qaj pa size
 have jb:=Qai (fun i=>if i=s then v else la i) size
 have jc:=Qaj (fun i=>if i=s then p else pa i) size
 have htk:=@Qa9 B size s hs
 have y1:=@Qep B size s hs x
 have y2:=@Qdl la size s hs v
 have y3:=@Qd8 pa size s hs p
 have hcall:Aa Pg g0 (.fn 33 []) [.ptr 2 0,i6 (s:Nat),i6 (v:Nat),u6 (p:Nat)] (Ae .e 0 (A9 jj cs F size q s B la pa true k)) 10 ⟨.tup [ar x,i6 0],Ae .e 0 (A9 jj cs F size q s B la pa true k),10,[]⟩:=
  Aa.frameL (OS:=A9 jj cs F size q s B la pa true k) (OS':=A9 jj cs F size q s B la pa true k) [0,1,2,9] [(0,0),(1,1),(2,2),(9,3)] [0,0,1] [0,0,1] hp k_ (by
   refine m_ (p:=Bn [Zz,Sm (s:Int),Sm (v:Int),Sm (p:Int)]) ?_
   (repeat'(first|(with_reducible apply And.intro)|(refine fun(_:True)=>?_)))<;>first|exact aq|skip) (by
   refine m_ (p:=let z0:=bF (scF F q) (k+1);let z1:=Ak q (k+1);Bn [An [Sm (bF B size),HfL (bF B size)],An [z1=z1,HfE z1,Sm (k+1)],Bn [An [Sm jj.length,Sm (Ab jj)],An [Sm cs.length,Sm (List.map sl cs)],An [Zz,Sm size,Sm (size-size)],Tt,Bn [Zz,Sm (k+1)]],An [z0=z0,HfL z0]]) ?_
   (repeat'(first|(with_reducible apply And.intro)|(refine fun(_:True)=>?_)))
   all_goals first|exact aq|exact hB|exact hS|exact hS0|exact hE|exact hE0|rfl|skip) (by
   refine m_ (p:=Bn [Bn [x 0=x 0,x 1=x 1,x 2=x 2,x 3=x 3,x 4=x 4,x 5=x 5,x 6=x 6,x 7=x 7,x 8=x 8,x 9=x 9,Sm (x 10),Sm (x 11),Sm (x 12),Sm (x 13),Sm (x 14),Sm (x 15),Sm (x 16),Sm (x 17)],Sm (0:Int)]) ?_
   (repeat'(first|(with_reducible apply And.intro)|(refine fun(_:True)=>?_)))<;>first|exact aq|skip) (by
   refine m_ (p:=let z0:=A9 jj cs F size q s B la pa true k;let z2:=bF (scF F q) (k+1);let z3:=Ak q (k+1);let z4:=some (O.row 72 none (uF pa size));let z5:=some (O.row 4 none [V.bool true]);let z6:=some (O.row 3 none (nF la size));let z7:=some (O.row 65 none [V.ptr 2 0]);let z8:=some (O.row 3 none [i6 s]);let z9:=bF B size;let y0:=some (size-size);let z1:=some (O.row 43 none [V.sl 3 0 size y0,V.sl 4 0 size y0]);Bn [z0[0]? =some (O.row 37 none z9),An [z9=z9,HfL z9],z0[1]? =some (O.map z3 (k+1)),An [z3=z3,HfE z3,Sm (k+1)],z0[2]? =some (O.row 70 none (toC jj cs size 0 1 9 (k+1))),Bn [An [Sm jj.length,Sm (Ab jj)],An [Sm cs.length,Sm (List.map sl cs)],An [Zz,Sm size,Sm (size-size)],Tt,Bn [Zz,Sm (k+1)]],z0[3]? =z6,z0[3]? =z6,z0[4]? =z4,z0[4]? =z4,z0[5]? =z7,z0[5]? =z7,z0[6]? =z8,z0[6]? =z8,z0[7]? =z5,z0[7]? =z5,z0[8]? =z1,z0[8]? =z1,z0[9]? =some (O.row 37 (some 18) z2),An [z2=z2,HfL z2]]) ?_
   (repeat'(first|(with_reducible apply And.intro)|(refine fun(_:True)=>?_)))
   all_goals first|exact aq|exact hB|exact hS|exact hS0|exact hE|exact hE0|rfl|skip)
 refine Aa.of_vcH (P:=Pg) (E:=vE) vE_ok Af Qaa (n:=1000) (f:=35) (os0:=A9 jj cs F size q s B la pa true k) (ars:=i6 (v:Nat)::u6 (p:Nat)::caT) (r:=[])
  (S := { sl := [(8, i6 0)], os := A9 jj cs F size q s (fun i => if i = s then x else B i) (fun i => if i = s then v else la i) (fun i => if i = s then p else pa i) true k, md := [0, 0, 1, 0, 0, 1, 0, 0, 1], lg := [0, 1, 2, 3, 4, 7] }) (v := i6 0) (hs := [(17, .call ⟨.tup [ar x, i6 0], Ae .e 0 (A9 jj cs F size q s B la pa true k), 10, []⟩), pl 31, ld 32 (ar (B s)), fn 33 (.tup [i6 c, i6 0]), yes 40, pl 55, st (bF (fun i => if i = s then x else B i) size), pl 56, st (nF (fun i => if i = s then v else la i) size), pl 57, st (uF (fun i => if i = s then p else pa i) size)]) (gl := g0) (by simp) (fun i hi hno => by
   rcases(show i=0\/i=1\/i=2\/i=3\/i=4\/i=5\/i=6\/i=7\/i=8\/i=9 by simp at hi;omega)with rfl|rfl|rfl|rfl|rfl|rfl|rfl|rfl|rfl|rfl<;>first|rfl|(simp at hno)) ?_
 exact v_ (p:=let z6:=An [Zz,Sm size,Sm (size-size)];let z0:=(s:Int);let z1:=Ae T.e 0 (A9 jj cs F size q s B la pa true k);let z2:=(0:Int);let z3:=(size:Int);let z4:=bF (scF F q) (k+1);let z5:=Ak q (k+1);Bn [Sm (i6 0),Aa Pg g0 (V.fn 33 []) [V.ptr 2 0,i6 s,i6 v,u6 p] z1 10 (CR.mk (V.tup [ar x,i6 0]) z1 10 []),Tt,An [z2<=z0,z0<z3],A6 18 (Aj (0+s*18) (bF B size))=some (arF (B s)),Bn [TT 18,TT 18],Ac Pg g0 36 [V.agg (arF x),V.agg (arF (B s))] (V.tup [i6 c,i6 0]),Tt,decide (c>z2)=true,An [z2<=z0,z0<z3],Ax (0+s*18) (bF B size) (arF x)=some (bF (fun i=>if i=s then x else B i) size),An [z2<=z0,z0<z3],Ax (0+s*1) (nF la size) [i6 v]=some (nF (fun i=>if i=s then v else la i) size),An [z2<=z0,z0<z3],Ax (0+s*1) (uF pa size) [u6 p]=some (uF (fun i=>if i=s then p else pa i) size),Bn [z2=z2],An [Sm (bF (fun i=>if i=s then x else B i) size),HfL (bF (fun i=>if i=s then x else B i) size)],An [z5=z5,HfE z5,Sm (k+1)],Bn [An [Sm jj.length,Sm (Ab jj)],An [Sm cs.length,Sm (List.map sl cs)],z6,Tt,Bn [Zz,Sm (k+1)]],An [Sm (nF (fun i=>if i=s then v else la i) size),HfL (nF (fun i=>if i=s then v else la i) size)],An [Sm (uF (fun i=>if i=s then p else pa i) size),HfL (uF (fun i=>if i=s then p else pa i) size)],Bn [Zz],Bn [Sm [i6 s],Tt],Bn [Sm [V.bool true],Tt],Bn [z6,z6],An [z4=z4,HfL z4]])
theorem Qp9(jj:List Int)(cs:List (List Int))(F:Nat->Nat->Nat->Int)(size:Nat)(q:Nat->Nat×Nat)(k s v p:Nat)(B:Nat->Nat->Int)(la pa:Nat->Nat)(x:Nat->Int)(hs:s<size)(c:Int)(hc0: ¬0<c)(hcmp:Ac Pg g0 36 [ar x,ar (B s)] (.tup [i6 c,i6 0]))
  (hp:Aa Pg g0 (.fn 33 []) [.ptr 2 0,i6 (s:Nat),i6 (v:Nat),u6 (p:Nat)] (Ae .e 0 (Br jj cs F B size q k)) 4 ⟨.tup [ar x,i6 0],Ae .e 0 (Br jj cs F B size q k),4,[]⟩):
  Aa Pg g0 (.fn 35 []) (i6 (v:Nat)::u6 (p:Nat)::caT) (Ae .e 0 (A9 jj cs F size q s B la pa true k)) 10 ⟨i6 0,Ae .e 0 (A9 jj cs F size q s B la pa true k),10,[0,1,2,3,4,7]⟩:=by
 have hB:=Qab B size
 have hB1:=Qab (fun i=>if i=s then x else B i) size
 have hS:=Qab (scF F q) (k+1)
 have hE:=Qae q (k+1)
 have hS0:=Qab (scF F q) (k+1)
 have hE0:=Qae q (k+1)
 have hc:=Qag jj
 have hg:=Qap cs
 have hla:=Qai la size
 have hpa:=Qaj pa size
 have jb:=Qai (fun i=>if i=s then v else la i) size
 have jc:=Qaj (fun i=>if i=s then p else pa i) size
 have htk:=@Qa9 B size s hs
 have y1:=@Qep B size s hs x
 have y2:=@Qdl la size s hs v
 have y3:=@Qd8 pa size s hs p
 have hcall:Aa Pg g0 (.fn 33 []) [.ptr 2 0,i6 (s:Nat),i6 (v:Nat),u6 (p:Nat)] (Ae .e 0 (A9 jj cs F size q s B la pa true k)) 10 ⟨.tup [ar x,i6 0],Ae .e 0 (A9 jj cs F size q s B la pa true k),10,[]⟩:=
  Aa.frameL (OS:=A9 jj cs F size q s B la pa true k) (OS':=A9 jj cs F size q s B la pa true k) [0,1,2,9] [(0,0),(1,1),(2,2),(9,3)] [0,0,1] [0,0,1] hp k_ (by
   refine m_ (p:=Bn [Zz,Sm (s:Int),Sm (v:Int),Sm (p:Int)]) ?_
   (repeat'(first|(with_reducible apply And.intro)|(refine fun(_:True)=>?_)))<;>first|exact aq|skip) (by
   refine m_ (p:=let z0:=bF (scF F q) (k+1);let z1:=Ak q (k+1);Bn [An [Sm (bF B size),HfL (bF B size)],An [z1=z1,HfE z1,Sm (k+1)],Bn [An [Sm jj.length,Sm (Ab jj)],An [Sm cs.length,Sm (List.map sl cs)],An [Zz,Sm size,Sm (size-size)],Tt,Bn [Zz,Sm (k+1)]],An [z0=z0,HfL z0]]) ?_
   (repeat'(first|(with_reducible apply And.intro)|(refine fun(_:True)=>?_)))
   all_goals first|exact aq|exact hB|exact hS|exact hS0|exact hE|exact hE0|rfl|skip) (by
   refine m_ (p:=Bn [Bn [x 0=x 0,x 1=x 1,x 2=x 2,x 3=x 3,x 4=x 4,x 5=x 5,x 6=x 6,x 7=x 7,x 8=x 8,x 9=x 9,Sm (x 10),Sm (x 11),Sm (x 12),Sm (x 13),Sm (x 14),Sm (x 15),Sm (x 16),Sm (x 17)],Sm (0:Int)]) ?_
   (repeat'(first|(with_reducible apply And.intro)|(refine fun(_:True)=>?_)))<;>first|exact aq|skip) (by
   refine m_ (p:=let z0:=A9 jj cs F size q s B la pa true k;let z2:=bF (scF F q) (k+1);let z3:=Ak q (k+1);let z4:=some (O.row 72 none (uF pa size));let z5:=some (O.row 4 none [V.bool true]);let z6:=some (O.row 3 none (nF la size));let z7:=some (O.row 65 none [V.ptr 2 0]);let z8:=some (O.row 3 none [i6 s]);let z9:=bF B size;let y0:=some (size-size);let z1:=some (O.row 43 none [V.sl 3 0 size y0,V.sl 4 0 size y0]);Bn [z0[0]? =some (O.row 37 none z9),An [z9=z9,HfL z9],z0[1]? =some (O.map z3 (k+1)),An [z3=z3,HfE z3,Sm (k+1)],z0[2]? =some (O.row 70 none (toC jj cs size 0 1 9 (k+1))),Bn [An [Sm jj.length,Sm (Ab jj)],An [Sm cs.length,Sm (List.map sl cs)],An [Zz,Sm size,Sm (size-size)],Tt,Bn [Zz,Sm (k+1)]],z0[3]? =z6,z0[3]? =z6,z0[4]? =z4,z0[4]? =z4,z0[5]? =z7,z0[5]? =z7,z0[6]? =z8,z0[6]? =z8,z0[7]? =z5,z0[7]? =z5,z0[8]? =z1,z0[8]? =z1,z0[9]? =some (O.row 37 (some 18) z2),An [z2=z2,HfL z2]]) ?_
   (repeat'(first|(with_reducible apply And.intro)|(refine fun(_:True)=>?_)))
   all_goals first|exact aq|exact hB|exact hS|exact hS0|exact hE|exact hE0|rfl|skip)
 refine Aa.of_vcH (P:=Pg) (E:=vE) vE_ok Af Qaa (n:=1000) (f:=35) (os0:=A9 jj cs F size q s B la pa true k) (ars:=i6 (v:Nat)::u6 (p:Nat)::caT) (r:=[])
  (S := { sl := [(8, i6 0)], os := A9 jj cs F size q s B la pa true k, md := [0, 0, 1, 0, 0, 1, 0, 0, 1], lg := [0, 1, 2, 3, 4, 7] }) (v := i6 0) (hs := [(17, .call ⟨.tup [ar x, i6 0], Ae .e 0 (A9 jj cs F size q s B la pa true k), 10, []⟩), pl 31, ld 32 (ar (B s)), fn 33 (.tup [i6 c, i6 0]), no 40]) (gl := g0) (by simp) (fun i hi hno => by
   rcases(show i=0\/i=1\/i=2\/i=3\/i=4\/i=5\/i=6\/i=7\/i=8\/i=9 by simp at hi;omega)with rfl|rfl|rfl|rfl|rfl|rfl|rfl|rfl|rfl|rfl<;>first|rfl|(simp at hno)) ?_
 exact v_ (p:=let z5:=An [Zz,Sm size,Sm (size-size)];let z0:=Ae T.e 0 (A9 jj cs F size q s B la pa true k);let z1:=bF (scF F q) (k+1);let z2:=Ak q (k+1);let z3:=bF B size;let z4:=(0:Int);Bn [Sm (i6 0),Aa Pg g0 (V.fn 33 []) [V.ptr 2 0,i6 s,i6 v,u6 p] z0 10 (CR.mk (V.tup [ar x,i6 0]) z0 10 []),Tt,An [z4<=(s:Int),(s:Int)<(size:Int)],A6 18 (Aj (0+s*18) z3)=some (arF (B s)),Bn [TT 18,TT 18],Ac Pg g0 36 [V.agg (arF x),V.agg (arF (B s))] (V.tup [i6 c,i6 0]),Tt,decide (c>z4)=false,Bn [z4=z4],An [z3=z3,HfL z3],An [z2=z2,HfE z2,Sm (k+1)],Bn [An [Sm jj.length,Sm (Ab jj)],An [Sm cs.length,Sm (List.map sl cs)],z5,Tt,Bn [Zz,Sm (k+1)]],An [Sm (nF la size),HfL (nF la size)],An [Sm (uF pa size),HfL (uF pa size)],Bn [Zz],Bn [Sm [i6 s],Tt],Bn [Sm [V.bool true],Tt],Bn [z5,z5],An [z1=z1,HfL z1]])
theorem Qly(jj:List Int)(cs:List (List Int))(F:Nat->Nat->Nat->Int)(size:Nat)(q:Nat->Nat×Nat)(s v p:Nat)(B:Nat->Nat->Int)(la pa:Nat->Nat)(x:Nat->Int)(hs:s<size)
  (hp:Aa Pg g0 (.fn 33 []) [.ptr 2 0,i6 (s:Nat),i6 (v:Nat),u6 (p:Nat)] (Ae .e 0 (E3 jj cs B size q)) 3 ⟨.tup [ar x,i6 0],Ae .e 0 (Br jj cs F B size (upQ q 0 (v,p)) 0),4,[1,2]⟩):
  Aa Pg g0 (.fn 35 []) (i6 (v:Nat)::u6 (p:Nat)::caT) (Ae .e 0 (Dn jj cs size q s B la pa false)) 9 ⟨i6 0,Ae .e 0 (A9 jj cs F size (upQ q 0 (v,p)) s (fun i=>if i=s then x else B i) (fun i=>if i=s then v else la i) (fun i=>if i=s then p else pa i) true 0),10,[0,1,2,3,4,7]⟩:=by
 have hB:=Qab B size
 have hB1:=Qab (fun i=>if i=s then x else B i) size
 have hS:=Qab (scF F (upQ q 0 (v,p))) (0+1)
 have hE:=Qae (upQ q 0 (v,p)) (0+1)
 have hS0:=Qab (scF F q) 0
 have hE0:=Qae q 0
 have hc:=Qag jj
 have hg:=Qap cs
 have hla:=Qai la size
 have hpa:=Qaj pa size
 have jb:=Qai (fun i=>if i=s then v else la i) size
 have jc:=Qaj (fun i=>if i=s then p else pa i) size
 have htk:=@Qa9 B size s hs
 have y1:=@Qep B size s hs x
 have y2:=@Qdl la size s hs v
 have y3:=@Qd8 pa size s hs p
 have hcall:Aa Pg g0 (.fn 33 []) [.ptr 2 0,i6 (s:Nat),i6 (v:Nat),u6 (p:Nat)] (Ae .e 0 (Dn jj cs size q s B la pa false)) 9 ⟨.tup [ar x,i6 0],Ae .e 0 (A9 jj cs F size (upQ q 0 (v,p)) s B la pa false 0),10,[1,2]⟩:=
  Aa.frameL (OS:=Dn jj cs size q s B la pa false) (OS':=A9 jj cs F size (upQ q 0 (v,p)) s B la pa false 0) [0,1,2] [(0,0),(1,1),(2,2),(9,3)] [0,0,1] [0,0,1] hp k_ (by
   refine m_ (p:=Bn [Zz,Sm (s:Int),Sm (v:Int),Sm (p:Int)]) ?_
   (repeat'(first|(with_reducible apply And.intro)|(refine fun(_:True)=>?_)))<;>first|exact aq|skip) (by
   refine m_ (p:=Bn [An [Sm (bF B size),HfL (bF B size)],An [Sm (Ak q 0),HfE (Ak q 0),Zz],An [An [Sm jj.length,Sm (Ab jj)],An [Sm cs.length,Sm (List.map sl cs)],An [Zz,Sm size,Sm (size-size)],TT 2]]) ?_
   (repeat'(first|(with_reducible apply And.intro)|(refine fun(_:True)=>?_)))
   all_goals first|exact aq|exact hB|exact hS|exact hS0|exact hE|exact hE0|rfl|skip) (by
   refine m_ (p:=Bn [Bn [x 0=x 0,x 1=x 1,x 2=x 2,x 3=x 3,x 4=x 4,x 5=x 5,x 6=x 6,x 7=x 7,x 8=x 8,x 9=x 9,Sm (x 10),Sm (x 11),Sm (x 12),Sm (x 13),Sm (x 14),Sm (x 15),Sm (x 16),Sm (x 17)],Sm (0:Int)]) ?_
   (repeat'(first|(with_reducible apply And.intro)|(refine fun(_:True)=>?_)))<;>first|exact aq|skip) (by
   refine m_ (p:=let z0:=Dn jj cs size q s B la pa false;let z2:=upQ q 0 (v,p);let z3:=some (O.row 4 none [V.bool false]);let z4:=some (O.row 72 none (uF pa size));let z5:=some (O.row 3 none (nF la size));let z6:=some (O.row 65 none [V.ptr 2 0]);let z7:=some (O.row 3 none [i6 s]);let z8:=bF B size;let z9:=some (size-size);let z1:=some (O.row 43 none [V.sl 3 0 size z9,V.sl 4 0 size z9]);Bn [z0[0]? =some (O.row 37 none z8),An [z8=z8,HfL z8],Tt,An [Sm (Ak z2 1),HfE (Ak z2 1),1=1],Tt,Bn [An [Sm jj.length,Sm (Ab jj)],An [Sm cs.length,Sm (List.map sl cs)],An [Zz,Sm size,Sm (size-size)],Tt,Bn [Zz,1=1]],z0[3]? =z5,z0[3]? =z5,z0[4]? =z4,z0[4]? =z4,z0[5]? =z6,z0[5]? =z6,z0[6]? =z7,z0[6]? =z7,z0[7]? =z3,z0[7]? =z3,z0[8]? =z1,z0[8]? =z1,Tt,An [Sm (bF (scF F z2) 1),TT 18]]) ?_
   (repeat'(first|(with_reducible apply And.intro)|(refine fun(_:True)=>?_)))
   all_goals first|exact aq|exact hB|exact hS|exact hS0|exact hE|exact hE0|rfl|skip)
 refine Aa.of_vcH (P:=Pg) (E:=vE) vE_ok Af Qaa (n:=1000) (f:=35) (os0:=Dn jj cs size q s B la pa false) (ars:=i6 (v:Nat)::u6 (p:Nat)::caT) (r:=[9])
  (S := { sl := [(8, i6 0)], os := A9 jj cs F size (upQ q 0 (v, p)) s (fun i => if i = s then x else B i) (fun i => if i = s then v else la i) (fun i => if i = s then p else pa i) true 0, md := [0, 0, 1, 0, 0, 1, 0, 0, 1], lg := [0, 1, 2, 3, 4, 7] }) (v := i6 0) (hs := [(17, .call ⟨.tup [ar x, i6 0], Ae .e 0 (A9 jj cs F size (upQ q 0 (v, p)) s B la pa false 0), 10, [1, 2]⟩), pl 55, st (bF (fun i => if i = s then x else B i) size), pl 56, st (nF (fun i => if i = s then v else la i) size), pl 57, st (uF (fun i => if i = s then p else pa i) size)]) (gl := g0) (by simp) (fun i hi hno => by
   rcases(show i=0\/i=1\/i=2\/i=3\/i=4\/i=5\/i=6\/i=7\/i=8 by simp at hi;omega)with rfl|rfl|rfl|rfl|rfl|rfl|rfl|rfl|rfl<;>first|rfl|(simp at hno)) ?_
 exact v_ (p:=let z4:=An [Zz,Sm size,Sm (size-size)];let z0:=upQ q 0 (v,p);let z1:=(s:Int);let z2:=(0:Int);let z3:=(size:Int);Bn [Sm (i6 0),Aa Pg g0 (V.fn 33 []) [V.ptr 2 0,i6 s,i6 v,u6 p] (Ae T.e 0 (Dn jj cs size q s B la pa false)) 9 (CR.mk (V.tup [ar x,i6 0]) (Ae T.e 0 (A9 jj cs F size z0 s B la pa false 0)) 10 [1,2]),Tt,An [z2<=z1,z1<z3],Ax (0+s*18) (bF B size) (arF x)=some (bF (fun i=>if i=s then x else B i) size),An [z2<=z1,z1<z3],Ax (0+s*1) (nF la size) [i6 v]=some (nF (fun i=>if i=s then v else la i) size),An [z2<=z1,z1<z3],Ax (0+s*1) (uF pa size) [u6 p]=some (uF (fun i=>if i=s then p else pa i) size),Bn [z2=z2],An [Sm (bF (fun i=>if i=s then x else B i) size),HfL (bF (fun i=>if i=s then x else B i) size)],An [Sm (Ak z0 1),HfE (Ak z0 1),1=1],Bn [An [Sm jj.length,Sm (Ab jj)],An [Sm cs.length,Sm (List.map sl cs)],z4,Tt,Bn [Zz,1=1]],An [Sm (nF (fun i=>if i=s then v else la i) size),HfL (nF (fun i=>if i=s then v else la i) size)],An [Sm (uF (fun i=>if i=s then p else pa i) size),HfL (uF (fun i=>if i=s then p else pa i) size)],Bn [Zz],Bn [Sm [i6 s],Tt],Bn [Sm [V.bool true],Tt],Bn [z4,z4],An [Sm (bF (scF F z0) 1),TT 18]])
theorem Qlw(jj:List Int)(cs:List (List Int))(F:Nat->Nat->Nat->Int)(size:Nat)(q:Nat->Nat×Nat)(s v p:Nat)(B:Nat->Nat->Int)(la pa:Nat->Nat)(x:Nat->Int)(hs:s<size)(c:Int)(hc0:0<c)(hcmp:Ac Pg g0 36 [ar x,ar (B s)] (.tup [i6 c,i6 0]))
  (hp:Aa Pg g0 (.fn 33 []) [.ptr 2 0,i6 (s:Nat),i6 (v:Nat),u6 (p:Nat)] (Ae .e 0 (E3 jj cs B size q)) 3 ⟨.tup [ar x,i6 0],Ae .e 0 (Br jj cs F B size (upQ q 0 (v,p)) 0),4,[1,2]⟩):
  Aa Pg g0 (.fn 35 []) (i6 (v:Nat)::u6 (p:Nat)::caT) (Ae .e 0 (Dn jj cs size q s B la pa true)) 9 ⟨i6 0,Ae .e 0 (A9 jj cs F size (upQ q 0 (v,p)) s (fun i=>if i=s then x else B i) (fun i=>if i=s then v else la i) (fun i=>if i=s then p else pa i) true 0),10,[0,1,2,3,4,7]⟩:=by
 have hB:=Qab B size
 have hB1:=Qab (fun i=>if i=s then x else B i) size
 have hS:=Qab (scF F (upQ q 0 (v,p))) (0+1)
 have hE:=Qae (upQ q 0 (v,p)) (0+1)
 have hS0:=Qab (scF F q) 0
 have hE0:=Qae q 0
 have hc:=Qag jj
 have hg:=Qap cs
 have hla:=Qai la size
 have hpa:=Qaj pa size
 have jb:=Qai (fun i=>if i=s then v else la i) size
 have jc:=Qaj (fun i=>if i=s then p else pa i) size
 have htk:=@Qa9 B size s hs
 have y1:=@Qep B size s hs x
 have y2:=@Qdl la size s hs v
 have y3:=@Qd8 pa size s hs p
 have hcall:Aa Pg g0 (.fn 33 []) [.ptr 2 0,i6 (s:Nat),i6 (v:Nat),u6 (p:Nat)] (Ae .e 0 (Dn jj cs size q s B la pa true)) 9 ⟨.tup [ar x,i6 0],Ae .e 0 (A9 jj cs F size (upQ q 0 (v,p)) s B la pa true 0),10,[1,2]⟩:=
  Aa.frameL (OS:=Dn jj cs size q s B la pa true) (OS':=A9 jj cs F size (upQ q 0 (v,p)) s B la pa true 0) [0,1,2] [(0,0),(1,1),(2,2),(9,3)] [0,0,1] [0,0,1] hp k_ (by
   refine m_ (p:=Bn [Zz,Sm (s:Int),Sm (v:Int),Sm (p:Int)]) ?_
   (repeat'(first|(with_reducible apply And.intro)|(refine fun(_:True)=>?_)))<;>first|exact aq|skip) (by
   refine m_ (p:=Bn [An [Sm (bF B size),HfL (bF B size)],An [Sm (Ak q 0),HfE (Ak q 0),Zz],An [An [Sm jj.length,Sm (Ab jj)],An [Sm cs.length,Sm (List.map sl cs)],An [Zz,Sm size,Sm (size-size)],TT 2]]) ?_
   (repeat'(first|(with_reducible apply And.intro)|(refine fun(_:True)=>?_)))
   all_goals first|exact aq|exact hB|exact hS|exact hS0|exact hE|exact hE0|rfl|skip) (by
   refine m_ (p:=Bn [Bn [x 0=x 0,x 1=x 1,x 2=x 2,x 3=x 3,x 4=x 4,x 5=x 5,x 6=x 6,x 7=x 7,x 8=x 8,x 9=x 9,Sm (x 10),Sm (x 11),Sm (x 12),Sm (x 13),Sm (x 14),Sm (x 15),Sm (x 16),Sm (x 17)],Sm (0:Int)]) ?_
   (repeat'(first|(with_reducible apply And.intro)|(refine fun(_:True)=>?_)))<;>first|exact aq|skip) (by
   refine m_ (p:=let z0:=Dn jj cs size q s B la pa true;let z2:=upQ q 0 (v,p);let z3:=some (O.row 72 none (uF pa size));let z4:=some (O.row 4 none [V.bool true]);let z5:=some (O.row 3 none (nF la size));let z6:=some (O.row 65 none [V.ptr 2 0]);let z7:=some (O.row 3 none [i6 s]);let z8:=bF B size;let z9:=some (size-size);let z1:=some (O.row 43 none [V.sl 3 0 size z9,V.sl 4 0 size z9]);Bn [z0[0]? =some (O.row 37 none z8),An [z8=z8,HfL z8],Tt,An [Sm (Ak z2 1),HfE (Ak z2 1),1=1],Tt,Bn [An [Sm jj.length,Sm (Ab jj)],An [Sm cs.length,Sm (List.map sl cs)],An [Zz,Sm size,Sm (size-size)],Tt,Bn [Zz,1=1]],z0[3]? =z5,z0[3]? =z5,z0[4]? =z3,z0[4]? =z3,z0[5]? =z6,z0[5]? =z6,z0[6]? =z7,z0[6]? =z7,z0[7]? =z4,z0[7]? =z4,z0[8]? =z1,z0[8]? =z1,Tt,An [Sm (bF (scF F z2) 1),TT 18]]) ?_
   (repeat'(first|(with_reducible apply And.intro)|(refine fun(_:True)=>?_)))
   all_goals first|exact aq|exact hB|exact hS|exact hS0|exact hE|exact hE0|rfl|skip)
 refine Aa.of_vcH (P:=Pg) (E:=vE) vE_ok Af Qaa (n:=1000) (f:=35) (os0:=Dn jj cs size q s B la pa true) (ars:=i6 (v:Nat)::u6 (p:Nat)::caT) (r:=[9])
  (S := { sl := [(8, i6 0)], os := A9 jj cs F size (upQ q 0 (v, p)) s (fun i => if i = s then x else B i) (fun i => if i = s then v else la i) (fun i => if i = s then p else pa i) true 0, md := [0, 0, 1, 0, 0, 1, 0, 0, 1], lg := [0, 1, 2, 3, 4, 7] }) (v := i6 0) (hs := [(17, .call ⟨.tup [ar x, i6 0], Ae .e 0 (A9 jj cs F size (upQ q 0 (v, p)) s B la pa true 0), 10, [1, 2]⟩), pl 31, ld 32 (ar (B s)), fn 33 (.tup [i6 c, i6 0]), yes 40, pl 55, st (bF (fun i => if i = s then x else B i) size), pl 56, st (nF (fun i => if i = s then v else la i) size), pl 57, st (uF (fun i => if i = s then p else pa i) size)]) (gl := g0) (by simp) (fun i hi hno => by
   rcases(show i=0\/i=1\/i=2\/i=3\/i=4\/i=5\/i=6\/i=7\/i=8 by simp at hi;omega)with rfl|rfl|rfl|rfl|rfl|rfl|rfl|rfl|rfl<;>first|rfl|(simp at hno)) ?_
 exact v_ (p:=let z4:=An [Zz,Sm size,Sm (size-size)];let z0:=upQ q 0 (v,p);let z1:=(s:Int);let z2:=(0:Int);let z3:=(size:Int);Bn [Sm (i6 0),Aa Pg g0 (V.fn 33 []) [V.ptr 2 0,i6 s,i6 v,u6 p] (Ae T.e 0 (Dn jj cs size q s B la pa true)) 9 (CR.mk (V.tup [ar x,i6 0]) (Ae T.e 0 (A9 jj cs F size z0 s B la pa true 0)) 10 [1,2]),Tt,An [z2<=z1,z1<z3],A6 18 (Aj (0+s*18) (bF B size))=some (arF (B s)),Bn [TT 18,TT 18],Ac Pg g0 36 [V.agg (arF x),V.agg (arF (B s))] (V.tup [i6 c,i6 0]),Tt,decide (c>z2)=true,An [z2<=z1,z1<z3],Ax (0+s*18) (bF B size) (arF x)=some (bF (fun i=>if i=s then x else B i) size),An [z2<=z1,z1<z3],Ax (0+s*1) (nF la size) [i6 v]=some (nF (fun i=>if i=s then v else la i) size),An [z2<=z1,z1<z3],Ax (0+s*1) (uF pa size) [u6 p]=some (uF (fun i=>if i=s then p else pa i) size),Bn [z2=z2],An [Sm (bF (fun i=>if i=s then x else B i) size),HfL (bF (fun i=>if i=s then x else B i) size)],An [Sm (Ak z0 1),HfE (Ak z0 1),1=1],Bn [An [Sm jj.length,Sm (Ab jj)],An [Sm cs.length,Sm (List.map sl cs)],z4,Tt,Bn [Zz,1=1]],An [Sm (nF (fun i=>if i=s then v else la i) size),HfL (nF (fun i=>if i=s then v else la i) size)],An [Sm (uF (fun i=>if i=s then p else pa i) size),HfL (uF (fun i=>if i=s then p else pa i) size)],Bn [Zz],Bn [Sm [i6 s],Tt],Bn [Sm [V.bool true],Tt],Bn [z4,z4],An [Sm (bF (scF F z0) 1),TT 18]])
theorem Qlx(jj:List Int)(cs:List (List Int))(F:Nat->Nat->Nat->Int)(size:Nat)(q:Nat->Nat×Nat)(s v p:Nat)(B:Nat->Nat->Int)(la pa:Nat->Nat)(x:Nat->Int)(hs:s<size)(c:Int)(hc0: ¬0<c)(hcmp:Ac Pg g0 36 [ar x,ar (B s)] (.tup [i6 c,i6 0]))
  (hp:Aa Pg g0 (.fn 33 []) [.ptr 2 0,i6 (s:Nat),i6 (v:Nat),u6 (p:Nat)] (Ae .e 0 (E3 jj cs B size q)) 3 ⟨.tup [ar x,i6 0],Ae .e 0 (Br jj cs F B size (upQ q 0 (v,p)) 0),4,[1,2]⟩):
  Aa Pg g0 (.fn 35 []) (i6 (v:Nat)::u6 (p:Nat)::caT) (Ae .e 0 (Dn jj cs size q s B la pa true)) 9 ⟨i6 0,Ae .e 0 (A9 jj cs F size (upQ q 0 (v,p)) s B la pa true 0),10,[0,1,2,3,4,7]⟩:=by
 have hB:=Qab B size
 have hB1:=Qab (fun i=>if i=s then x else B i) size
 have hS:=Qab (scF F (upQ q 0 (v,p))) (0+1)
 have hE:=Qae (upQ q 0 (v,p)) (0+1)
 have hS0:=Qab (scF F q) 0
 have hE0:=Qae q 0
 have hc:=Qag jj
 have hg:=Qap cs
 have hla:=Qai la size
 have hpa:=Qaj pa size
 have jb:=Qai (fun i=>if i=s then v else la i) size
 have jc:=Qaj (fun i=>if i=s then p else pa i) size
 have htk:=@Qa9 B size s hs
 have y1:=@Qep B size s hs x
 have y2:=@Qdl la size s hs v
 have y3:=@Qd8 pa size s hs p
 have hcall:Aa Pg g0 (.fn 33 []) [.ptr 2 0,i6 (s:Nat),i6 (v:Nat),u6 (p:Nat)] (Ae .e 0 (Dn jj cs size q s B la pa true)) 9 ⟨.tup [ar x,i6 0],Ae .e 0 (A9 jj cs F size (upQ q 0 (v,p)) s B la pa true 0),10,[1,2]⟩:=
  Aa.frameL (OS:=Dn jj cs size q s B la pa true) (OS':=A9 jj cs F size (upQ q 0 (v,p)) s B la pa true 0) [0,1,2] [(0,0),(1,1),(2,2),(9,3)] [0,0,1] [0,0,1] hp k_ (by
   refine m_ (p:=Bn [Zz,Sm (s:Int),Sm (v:Int),Sm (p:Int)]) ?_
   (repeat'(first|(with_reducible apply And.intro)|(refine fun(_:True)=>?_)))<;>first|exact aq|skip) (by
   refine m_ (p:=Bn [An [Sm (bF B size),HfL (bF B size)],An [Sm (Ak q 0),HfE (Ak q 0),Zz],An [An [Sm jj.length,Sm (Ab jj)],An [Sm cs.length,Sm (List.map sl cs)],An [Zz,Sm size,Sm (size-size)],TT 2]]) ?_
   (repeat'(first|(with_reducible apply And.intro)|(refine fun(_:True)=>?_)))
   all_goals first|exact aq|exact hB|exact hS|exact hS0|exact hE|exact hE0|rfl|skip) (by
   refine m_ (p:=Bn [Bn [x 0=x 0,x 1=x 1,x 2=x 2,x 3=x 3,x 4=x 4,x 5=x 5,x 6=x 6,x 7=x 7,x 8=x 8,x 9=x 9,Sm (x 10),Sm (x 11),Sm (x 12),Sm (x 13),Sm (x 14),Sm (x 15),Sm (x 16),Sm (x 17)],Sm (0:Int)]) ?_
   (repeat'(first|(with_reducible apply And.intro)|(refine fun(_:True)=>?_)))<;>first|exact aq|skip) (by
   refine m_ (p:=let z0:=Dn jj cs size q s B la pa true;let z2:=upQ q 0 (v,p);let z3:=some (O.row 72 none (uF pa size));let z4:=some (O.row 4 none [V.bool true]);let z5:=some (O.row 3 none (nF la size));let z6:=some (O.row 65 none [V.ptr 2 0]);let z7:=some (O.row 3 none [i6 s]);let z8:=bF B size;let z9:=some (size-size);let z1:=some (O.row 43 none [V.sl 3 0 size z9,V.sl 4 0 size z9]);Bn [z0[0]? =some (O.row 37 none z8),An [z8=z8,HfL z8],Tt,An [Sm (Ak z2 1),HfE (Ak z2 1),1=1],Tt,Bn [An [Sm jj.length,Sm (Ab jj)],An [Sm cs.length,Sm (List.map sl cs)],An [Zz,Sm size,Sm (size-size)],Tt,Bn [Zz,1=1]],z0[3]? =z5,z0[3]? =z5,z0[4]? =z3,z0[4]? =z3,z0[5]? =z6,z0[5]? =z6,z0[6]? =z7,z0[6]? =z7,z0[7]? =z4,z0[7]? =z4,z0[8]? =z1,z0[8]? =z1,Tt,An [Sm (bF (scF F z2) 1),TT 18]]) ?_
   (repeat'(first|(with_reducible apply And.intro)|(refine fun(_:True)=>?_)))
   all_goals first|exact aq|exact hB|exact hS|exact hS0|exact hE|exact hE0|rfl|skip)
 refine Aa.of_vcH (P:=Pg) (E:=vE) vE_ok Af Qaa (n:=1000) (f:=35) (os0:=Dn jj cs size q s B la pa true) (ars:=i6 (v:Nat)::u6 (p:Nat)::caT) (r:=[9])
  (S := { sl := [(8, i6 0)], os := A9 jj cs F size (upQ q 0 (v, p)) s B la pa true 0, md := [0, 0, 1, 0, 0, 1, 0, 0, 1], lg := [0, 1, 2, 3, 4, 7] }) (v := i6 0) (hs := [(17, .call ⟨.tup [ar x, i6 0], Ae .e 0 (A9 jj cs F size (upQ q 0 (v, p)) s B la pa true 0), 10, [1, 2]⟩), pl 31, ld 32 (ar (B s)), fn 33 (.tup [i6 c, i6 0]), no 40]) (gl := g0) (by simp) (fun i hi hno => by
   rcases(show i=0\/i=1\/i=2\/i=3\/i=4\/i=5\/i=6\/i=7\/i=8 by simp at hi;omega)with rfl|rfl|rfl|rfl|rfl|rfl|rfl|rfl|rfl<;>first|rfl|(simp at hno)) ?_
 exact v_ (p:=let z3:=An [Zz,Sm size,Sm (size-size)];let z0:=upQ q 0 (v,p);let z1:=bF B size;let z2:=(0:Int);Bn [Sm (i6 0),Aa Pg g0 (V.fn 33 []) [V.ptr 2 0,i6 s,i6 v,u6 p] (Ae T.e 0 (Dn jj cs size q s B la pa true)) 9 (CR.mk (V.tup [ar x,i6 0]) (Ae T.e 0 (A9 jj cs F size z0 s B la pa true 0)) 10 [1,2]),Tt,An [z2<=(s:Int),(s:Int)<(size:Int)],A6 18 (Aj (0+s*18) z1)=some (arF (B s)),Bn [TT 18,TT 18],Ac Pg g0 36 [V.agg (arF x),V.agg (arF (B s))] (V.tup [i6 c,i6 0]),Tt,decide (c>z2)=false,Bn [z2=z2],An [z1=z1,HfL z1],An [Sm (Ak z0 1),HfE (Ak z0 1),1=1],Bn [An [Sm jj.length,Sm (Ab jj)],An [Sm cs.length,Sm (List.map sl cs)],z3,Tt,Bn [Zz,1=1]],An [Sm (nF la size),HfL (nF la size)],An [Sm (uF pa size),HfL (uF pa size)],Bn [Zz],Bn [Sm [i6 s],Tt],Bn [Sm [V.bool true],Tt],Bn [z3,z3],An [Sm (bF (scF F z0) 1),TT 18]])
theorem Ql1(jj:List Int)(cs:List (List Int))(F:Nat->Nat->Nat->Int)(size:Nat)(q:Nat->Nat×Nat)(k s v p:Nat)(B:Nat->Nat->Int)(la pa:Nat->Nat)(x:Nat->Int)(hs:s<size)
  (hp:Aa Pg g0 (.fn 33 []) [.ptr 2 0,i6 (s:Nat),i6 (v:Nat),u6 (p:Nat)] (Ae .e 0 (Br jj cs F B size q k)) 4 ⟨.tup [ar x,i6 0],Ae .e 0 (Fe jj cs F B size (upQ q (k+1) (v,p)) (k+1)),5,[1,2,3]⟩):
  Aa Pg g0 (.fn 35 []) (i6 (v:Nat)::u6 (p:Nat)::caT) (Ae .e 0 (A9 jj cs F size q s B la pa false k)) 10 ⟨i6 0,Ae .e 0 (Dm jj cs F size (upQ q (k+1) (v,p)) s (fun i=>if i=s then x else B i) (fun i=>if i=s then v else la i) (fun i=>if i=s then p else pa i) true (k+1)),11,[0,1,2,3,4,7,9]⟩:=by
 have hB:=Qab B size
 have hB1:=Qab (fun i=>if i=s then x else B i) size
 have hS:=Qab (scF F (upQ q (k+1) (v,p))) (k+1+1)
 have hE:=Qae (upQ q (k+1) (v,p)) (k+1+1)
 have hS0:=Qab (scF F q) (k+1)
 have hE0:=Qae q (k+1)
 have hc:=Qag jj
 have hg:=Qap cs
 have hla:=Qai la size
 have hpa:=Qaj pa size
 have jb:=Qai (fun i=>if i=s then v else la i) size
 have jc:=Qaj (fun i=>if i=s then p else pa i) size
 have htk:=@Qa9 B size s hs
 have y1:=@Qep B size s hs x
 have y2:=@Qdl la size s hs v
 have y3:=@Qd8 pa size s hs p
 have hcall:Aa Pg g0 (.fn 33 []) [.ptr 2 0,i6 (s:Nat),i6 (v:Nat),u6 (p:Nat)] (Ae .e 0 (A9 jj cs F size q s B la pa false k)) 10 ⟨.tup [ar x,i6 0],Ae .e 0 (Dm jj cs F size (upQ q (k+1) (v,p)) s B la pa false (k+1)),11,[1,2,9]⟩:=
  Aa.frameL (OS:=A9 jj cs F size q s B la pa false k) (OS':=Dm jj cs F size (upQ q (k+1) (v,p)) s B la pa false (k+1)) [0,1,2,9] [(0,0),(1,1),(2,2),(9,3),(10,4)] [0,0,1] [0,0,1] hp k_ (by
   refine m_ (p:=Bn [Zz,Sm (s:Int),Sm (v:Int),Sm (p:Int)]) ?_
   (repeat'(first|(with_reducible apply And.intro)|(refine fun(_:True)=>?_)))<;>first|exact aq|skip) (by
   refine m_ (p:=let z0:=bF (scF F q) (k+1);let z1:=Ak q (k+1);Bn [An [Sm (bF B size),HfL (bF B size)],An [z1=z1,HfE z1,Sm (k+1)],Bn [An [Sm jj.length,Sm (Ab jj)],An [Sm cs.length,Sm (List.map sl cs)],An [Zz,Sm size,Sm (size-size)],Tt,Bn [Zz,Sm (k+1)]],An [z0=z0,HfL z0]]) ?_
   (repeat'(first|(with_reducible apply And.intro)|(refine fun(_:True)=>?_)))
   all_goals first|exact aq|exact hB|exact hS|exact hS0|exact hE|exact hE0|rfl|skip) (by
   refine m_ (p:=Bn [Bn [x 0=x 0,x 1=x 1,x 2=x 2,x 3=x 3,x 4=x 4,x 5=x 5,x 6=x 6,x 7=x 7,x 8=x 8,x 9=x 9,Sm (x 10),Sm (x 11),Sm (x 12),Sm (x 13),Sm (x 14),Sm (x 15),Sm (x 16),Sm (x 17)],Sm (0:Int)]) ?_
   (repeat'(first|(with_reducible apply And.intro)|(refine fun(_:True)=>?_)))<;>first|exact aq|skip) (by
   refine m_ (p:=let z0:=A9 jj cs F size q s B la pa false k;let z1:=upQ q (k+1) (v,p);let z5:=some (O.row 4 none [V.bool false]);let z6:=some (O.row 72 none (uF pa size));let z7:=some (O.row 3 none (nF la size));let z8:=some (O.row 65 none [V.ptr 2 0]);let z9:=some (O.row 3 none [i6 s]);let y0:=bF B size;let y1:=some (size-size);let z2:=some (O.row 43 none [V.sl 3 0 size y1,V.sl 4 0 size y1]);let z3:=bF (scF F z1) (k+1+1);let z4:=Ak z1 (k+1+1);Bn [z0[0]? =some (O.row 37 none y0),An [y0=y0,HfL y0],Tt,An [z4=z4,HfE z4,Sm (k+1+1)],Tt,Bn [An [Sm jj.length,Sm (Ab jj)],An [Sm cs.length,Sm (List.map sl cs)],An [Zz,Sm size,Sm (size-size)],Tt,Bn [Zz,Sm (Nat.succ k+1)]],z0[3]? =z7,z0[3]? =z7,z0[4]? =z6,z0[4]? =z6,z0[5]? =z8,z0[5]? =z8,z0[6]? =z9,z0[6]? =z9,z0[7]? =z5,z0[7]? =z5,z0[8]? =z2,z0[8]? =z2,Tt,Tt,Tt,An [z3=z3,HfL z3]]) ?_
   (repeat'(first|(with_reducible apply And.intro)|(refine fun(_:True)=>?_)))
   all_goals first|exact aq|exact hB|exact hS|exact hS0|exact hE|exact hE0|rfl|skip)
 refine Aa.of_vcH (P:=Pg) (E:=vE) vE_ok Af Qaa (n:=1000) (f:=35) (os0:=A9 jj cs F size q s B la pa false k) (ars:=i6 (v:Nat)::u6 (p:Nat)::caT) (r:=[10])
  (S := { sl := [(8, i6 0)], os := Dm jj cs F size (upQ q (k + 1) (v, p)) s (fun i => if i = s then x else B i) (fun i => if i = s then v else la i) (fun i => if i = s then p else pa i) true (k + 1), md := [0, 0, 1, 0, 0, 1, 0, 0, 1], lg := [0, 1, 2, 3, 4, 7, 9] }) (v := i6 0) (hs := [(17, .call ⟨.tup [ar x, i6 0], Ae .e 0 (Dm jj cs F size (upQ q (k + 1) (v, p)) s B la pa false (k + 1)), 11, [1, 2, 9]⟩), pl 55, st (bF (fun i => if i = s then x else B i) size), pl 56, st (nF (fun i => if i = s then v else la i) size), pl 57, st (uF (fun i => if i = s then p else pa i) size)]) (gl := g0) (by simp) (fun i hi hno => by
   rcases(show i=0\/i=1\/i=2\/i=3\/i=4\/i=5\/i=6\/i=7\/i=8\/i=9 by simp at hi;omega)with rfl|rfl|rfl|rfl|rfl|rfl|rfl|rfl|rfl|rfl<;>first|rfl|(simp at hno)) ?_
 exact v_ (p:=let z6:=An [Zz,Sm size,Sm (size-size)];let z0:=upQ q (k+1) (v,p);let z1:=(s:Int);let z4:=(0:Int);let z5:=(size:Int);let z2:=bF (scF F z0) (k+1+1);let z3:=Ak z0 (k+1+1);Bn [Sm (i6 0),Aa Pg g0 (V.fn 33 []) [V.ptr 2 0,i6 s,i6 v,u6 p] (Ae T.e 0 (A9 jj cs F size q s B la pa false k)) 10 (CR.mk (V.tup [ar x,i6 0]) (Ae T.e 0 (Dm jj cs F size z0 s B la pa false (k+1))) 11 [1,2,9]),Tt,An [z4<=z1,z1<z5],Ax (0+s*18) (bF B size) (arF x)=some (bF (fun i=>if i=s then x else B i) size),An [z4<=z1,z1<z5],Ax (0+s*1) (nF la size) [i6 v]=some (nF (fun i=>if i=s then v else la i) size),An [z4<=z1,z1<z5],Ax (0+s*1) (uF pa size) [u6 p]=some (uF (fun i=>if i=s then p else pa i) size),Bn [z4=z4],An [Sm (bF (fun i=>if i=s then x else B i) size),HfL (bF (fun i=>if i=s then x else B i) size)],An [z3=z3,HfE z3,Sm (k+1+1)],Bn [An [Sm jj.length,Sm (Ab jj)],An [Sm cs.length,Sm (List.map sl cs)],z6,Tt,Bn [Zz,Sm (Nat.succ k+1)]],An [Sm (nF (fun i=>if i=s then v else la i) size),HfL (nF (fun i=>if i=s then v else la i) size)],An [Sm (uF (fun i=>if i=s then p else pa i) size),HfL (uF (fun i=>if i=s then p else pa i) size)],Bn [Zz],Bn [Sm [i6 s],Tt],Bn [Sm [V.bool true],Tt],Bn [z6,z6],Tt,An [z2=z2,HfL z2]])
theorem Qlz(jj:List Int)(cs:List (List Int))(F:Nat->Nat->Nat->Int)(size:Nat)(q:Nat->Nat×Nat)(k s v p:Nat)(B:Nat->Nat->Int)(la pa:Nat->Nat)(x:Nat->Int)(hs:s<size)(c:Int)(hc0:0<c)(hcmp:Ac Pg g0 36 [ar x,ar (B s)] (.tup [i6 c,i6 0]))
  (hp:Aa Pg g0 (.fn 33 []) [.ptr 2 0,i6 (s:Nat),i6 (v:Nat),u6 (p:Nat)] (Ae .e 0 (Br jj cs F B size q k)) 4 ⟨.tup [ar x,i6 0],Ae .e 0 (Fe jj cs F B size (upQ q (k+1) (v,p)) (k+1)),5,[1,2,3]⟩):
  Aa Pg g0 (.fn 35 []) (i6 (v:Nat)::u6 (p:Nat)::caT) (Ae .e 0 (A9 jj cs F size q s B la pa true k)) 10 ⟨i6 0,Ae .e 0 (Dm jj cs F size (upQ q (k+1) (v,p)) s (fun i=>if i=s then x else B i) (fun i=>if i=s then v else la i) (fun i=>if i=s then p else pa i) true (k+1)),11,[0,1,2,3,4,7,9]⟩:=by
 have hB:=Qab B size
 have hB1:=Qab (fun i=>if i=s then x else B i) size
 have hS:=Qab (scF F (upQ q (k+1) (v,p))) (k+1+1)
 have hE:=Qae (upQ q (k+1) (v,p)) (k+1+1)
 have hS0:=Qab (scF F q) (k+1)
 have hE0:=Qae q (k+1)
 have hc:=Qag jj
 have hg:=Qap cs
 have hla:=Qai la size
 have hpa:=Qaj pa size
 have jb:=Qai (fun i=>if i=s then v else la i) size
 have jc:=Qaj (fun i=>if i=s then p else pa i) size
 have htk:=@Qa9 B size s hs
 have y1:=@Qep B size s hs x
 have y2:=@Qdl la size s hs v
 have y3:=@Qd8 pa size s hs p
 have hcall:Aa Pg g0 (.fn 33 []) [.ptr 2 0,i6 (s:Nat),i6 (v:Nat),u6 (p:Nat)] (Ae .e 0 (A9 jj cs F size q s B la pa true k)) 10 ⟨.tup [ar x,i6 0],Ae .e 0 (Dm jj cs F size (upQ q (k+1) (v,p)) s B la pa true (k+1)),11,[1,2,9]⟩:=
  Aa.frameL (OS:=A9 jj cs F size q s B la pa true k) (OS':=Dm jj cs F size (upQ q (k+1) (v,p)) s B la pa true (k+1)) [0,1,2,9] [(0,0),(1,1),(2,2),(9,3),(10,4)] [0,0,1] [0,0,1] hp k_ (by
   refine m_ (p:=Bn [Zz,Sm (s:Int),Sm (v:Int),Sm (p:Int)]) ?_
   (repeat'(first|(with_reducible apply And.intro)|(refine fun(_:True)=>?_)))<;>first|exact aq|skip) (by
   refine m_ (p:=let z0:=bF (scF F q) (k+1);let z1:=Ak q (k+1);Bn [An [Sm (bF B size),HfL (bF B size)],An [z1=z1,HfE z1,Sm (k+1)],Bn [An [Sm jj.length,Sm (Ab jj)],An [Sm cs.length,Sm (List.map sl cs)],An [Zz,Sm size,Sm (size-size)],Tt,Bn [Zz,Sm (k+1)]],An [z0=z0,HfL z0]]) ?_
   (repeat'(first|(with_reducible apply And.intro)|(refine fun(_:True)=>?_)))
   all_goals first|exact aq|exact hB|exact hS|exact hS0|exact hE|exact hE0|rfl|skip) (by
   refine m_ (p:=Bn [Bn [x 0=x 0,x 1=x 1,x 2=x 2,x 3=x 3,x 4=x 4,x 5=x 5,x 6=x 6,x 7=x 7,x 8=x 8,x 9=x 9,Sm (x 10),Sm (x 11),Sm (x 12),Sm (x 13),Sm (x 14),Sm (x 15),Sm (x 16),Sm (x 17)],Sm (0:Int)]) ?_
   (repeat'(first|(with_reducible apply And.intro)|(refine fun(_:True)=>?_)))<;>first|exact aq|skip) (by
   refine m_ (p:=let z0:=A9 jj cs F size q s B la pa true k;let z1:=upQ q (k+1) (v,p);let z5:=some (O.row 72 none (uF pa size));let z6:=some (O.row 4 none [V.bool true]);let z7:=some (O.row 3 none (nF la size));let z8:=some (O.row 65 none [V.ptr 2 0]);let z9:=some (O.row 3 none [i6 s]);let y0:=bF B size;let y1:=some (size-size);let z2:=some (O.row 43 none [V.sl 3 0 size y1,V.sl 4 0 size y1]);let z3:=bF (scF F z1) (k+1+1);let z4:=Ak z1 (k+1+1);Bn [z0[0]? =some (O.row 37 none y0),An [y0=y0,HfL y0],Tt,An [z4=z4,HfE z4,Sm (k+1+1)],Tt,Bn [An [Sm jj.length,Sm (Ab jj)],An [Sm cs.length,Sm (List.map sl cs)],An [Zz,Sm size,Sm (size-size)],Tt,Bn [Zz,Sm (Nat.succ k+1)]],z0[3]? =z7,z0[3]? =z7,z0[4]? =z5,z0[4]? =z5,z0[5]? =z8,z0[5]? =z8,z0[6]? =z9,z0[6]? =z9,z0[7]? =z6,z0[7]? =z6,z0[8]? =z2,z0[8]? =z2,Tt,Tt,Tt,An [z3=z3,HfL z3]]) ?_
   (repeat'(first|(with_reducible apply And.intro)|(refine fun(_:True)=>?_)))
   all_goals first|exact aq|exact hB|exact hS|exact hS0|exact hE|exact hE0|rfl|skip)
 refine Aa.of_vcH (P:=Pg) (E:=vE) vE_ok Af Qaa (n:=1000) (f:=35) (os0:=A9 jj cs F size q s B la pa true k) (ars:=i6 (v:Nat)::u6 (p:Nat)::caT) (r:=[10])
  (S := { sl := [(8, i6 0)], os := Dm jj cs F size (upQ q (k + 1) (v, p)) s (fun i => if i = s then x else B i) (fun i => if i = s then v else la i) (fun i => if i = s then p else pa i) true (k + 1), md := [0, 0, 1, 0, 0, 1, 0, 0, 1], lg := [0, 1, 2, 3, 4, 7, 9] }) (v := i6 0) (hs := [(17, .call ⟨.tup [ar x, i6 0], Ae .e 0 (Dm jj cs F size (upQ q (k + 1) (v, p)) s B la pa true (k + 1)), 11, [1, 2, 9]⟩), pl 31, ld 32 (ar (B s)), fn 33 (.tup [i6 c, i6 0]), yes 40, pl 55, st (bF (fun i => if i = s then x else B i) size), pl 56, st (nF (fun i => if i = s then v else la i) size), pl 57, st (uF (fun i => if i = s then p else pa i) size)]) (gl := g0) (by simp) (fun i hi hno => by
   rcases(show i=0\/i=1\/i=2\/i=3\/i=4\/i=5\/i=6\/i=7\/i=8\/i=9 by simp at hi;omega)with rfl|rfl|rfl|rfl|rfl|rfl|rfl|rfl|rfl|rfl<;>first|rfl|(simp at hno)) ?_
 exact v_ (p:=let z6:=An [Zz,Sm size,Sm (size-size)];let z0:=upQ q (k+1) (v,p);let z1:=(s:Int);let z3:=(0:Int);let z4:=(size:Int);let z2:=bF (scF F z0) (k+1+1);let z5:=Ak z0 (k+1+1);Bn [Sm (i6 0),Aa Pg g0 (V.fn 33 []) [V.ptr 2 0,i6 s,i6 v,u6 p] (Ae T.e 0 (A9 jj cs F size q s B la pa true k)) 10 (CR.mk (V.tup [ar x,i6 0]) (Ae T.e 0 (Dm jj cs F size z0 s B la pa true (k+1))) 11 [1,2,9]),Tt,An [z3<=z1,z1<z4],A6 18 (Aj (0+s*18) (bF B size))=some (arF (B s)),Bn [TT 18,TT 18],Ac Pg g0 36 [V.agg (arF x),V.agg (arF (B s))] (V.tup [i6 c,i6 0]),Tt,decide (c>z3)=true,An [z3<=z1,z1<z4],Ax (0+s*18) (bF B size) (arF x)=some (bF (fun i=>if i=s then x else B i) size),An [z3<=z1,z1<z4],Ax (0+s*1) (nF la size) [i6 v]=some (nF (fun i=>if i=s then v else la i) size),An [z3<=z1,z1<z4],Ax (0+s*1) (uF pa size) [u6 p]=some (uF (fun i=>if i=s then p else pa i) size),Bn [z3=z3],An [Sm (bF (fun i=>if i=s then x else B i) size),HfL (bF (fun i=>if i=s then x else B i) size)],An [z5=z5,HfE z5,Sm (k+1+1)],Bn [An [Sm jj.length,Sm (Ab jj)],An [Sm cs.length,Sm (List.map sl cs)],z6,Tt,Bn [Zz,Sm (Nat.succ k+1)]],An [Sm (nF (fun i=>if i=s then v else la i) size),HfL (nF (fun i=>if i=s then v else la i) size)],An [Sm (uF (fun i=>if i=s then p else pa i) size),HfL (uF (fun i=>if i=s then p else pa i) size)],Bn [Zz],Bn [Sm [i6 s],Tt],Bn [Sm [V.bool true],Tt],Bn [z6,z6],Tt,An [z2=z2,HfL z2]])
theorem Ql0(jj:List Int)(cs:List (List Int))(F:Nat->Nat->Nat->Int)(size:Nat)(q:Nat->Nat×Nat)(k s v p:Nat)(B:Nat->Nat->Int)(la pa:Nat->Nat)(x:Nat->Int)(hs:s<size)(c:Int)(hc0: ¬0<c)(hcmp:Ac Pg g0 36 [ar x,ar (B s)] (.tup [i6 c,i6 0]))
  (hp:Aa Pg g0 (.fn 33 []) [.ptr 2 0,i6 (s:Nat),i6 (v:Nat),u6 (p:Nat)] (Ae .e 0 (Br jj cs F B size q k)) 4 ⟨.tup [ar x,i6 0],Ae .e 0 (Fe jj cs F B size (upQ q (k+1) (v,p)) (k+1)),5,[1,2,3]⟩):
  Aa Pg g0 (.fn 35 []) (i6 (v:Nat)::u6 (p:Nat)::caT) (Ae .e 0 (A9 jj cs F size q s B la pa true k)) 10 ⟨i6 0,Ae .e 0 (Dm jj cs F size (upQ q (k+1) (v,p)) s B la pa true (k+1)),11,[0,1,2,3,4,7,9]⟩:=by
 have hB:=Qab B size
 have hB1:=Qab (fun i=>if i=s then x else B i) size
 have hS:=Qab (scF F (upQ q (k+1) (v,p))) (k+1+1)
 have hE:=Qae (upQ q (k+1) (v,p)) (k+1+1)
 have hS0:=Qab (scF F q) (k+1)
 have hE0:=Qae q (k+1)
 have hc:=Qag jj
 have hg:=Qap cs
 have hla:=Qai la size
 have hpa:=Qaj pa size
 have jb:=Qai (fun i=>if i=s then v else la i) size
 have jc:=Qaj (fun i=>if i=s then p else pa i) size
 have htk:=@Qa9 B size s hs
 have y1:=@Qep B size s hs x
 have y2:=@Qdl la size s hs v
 have y3:=@Qd8 pa size s hs p
 have hcall:Aa Pg g0 (.fn 33 []) [.ptr 2 0,i6 (s:Nat),i6 (v:Nat),u6 (p:Nat)] (Ae .e 0 (A9 jj cs F size q s B la pa true k)) 10 ⟨.tup [ar x,i6 0],Ae .e 0 (Dm jj cs F size (upQ q (k+1) (v,p)) s B la pa true (k+1)),11,[1,2,9]⟩:=
  Aa.frameL (OS:=A9 jj cs F size q s B la pa true k) (OS':=Dm jj cs F size (upQ q (k+1) (v,p)) s B la pa true (k+1)) [0,1,2,9] [(0,0),(1,1),(2,2),(9,3),(10,4)] [0,0,1] [0,0,1] hp k_ (by
   refine m_ (p:=Bn [Zz,Sm (s:Int),Sm (v:Int),Sm (p:Int)]) ?_
   (repeat'(first|(with_reducible apply And.intro)|(refine fun(_:True)=>?_)))<;>first|exact aq|skip) (by
   refine m_ (p:=let z0:=bF (scF F q) (k+1);let z1:=Ak q (k+1);Bn [An [Sm (bF B size),HfL (bF B size)],An [z1=z1,HfE z1,Sm (k+1)],Bn [An [Sm jj.length,Sm (Ab jj)],An [Sm cs.length,Sm (List.map sl cs)],An [Zz,Sm size,Sm (size-size)],Tt,Bn [Zz,Sm (k+1)]],An [z0=z0,HfL z0]]) ?_
   (repeat'(first|(with_reducible apply And.intro)|(refine fun(_:True)=>?_)))
   all_goals first|exact aq|exact hB|exact hS|exact hS0|exact hE|exact hE0|rfl|skip) (by
   refine m_ (p:=Bn [Bn [x 0=x 0,x 1=x 1,x 2=x 2,x 3=x 3,x 4=x 4,x 5=x 5,x 6=x 6,x 7=x 7,x 8=x 8,x 9=x 9,Sm (x 10),Sm (x 11),Sm (x 12),Sm (x 13),Sm (x 14),Sm (x 15),Sm (x 16),Sm (x 17)],Sm (0:Int)]) ?_
   (repeat'(first|(with_reducible apply And.intro)|(refine fun(_:True)=>?_)))<;>first|exact aq|skip) (by
   refine m_ (p:=let z0:=A9 jj cs F size q s B la pa true k;let z1:=upQ q (k+1) (v,p);let z5:=some (O.row 72 none (uF pa size));let z6:=some (O.row 4 none [V.bool true]);let z7:=some (O.row 3 none (nF la size));let z8:=some (O.row 65 none [V.ptr 2 0]);let z9:=some (O.row 3 none [i6 s]);let y0:=bF B size;let y1:=some (size-size);let z2:=some (O.row 43 none [V.sl 3 0 size y1,V.sl 4 0 size y1]);let z3:=bF (scF F z1) (k+1+1);let z4:=Ak z1 (k+1+1);Bn [z0[0]? =some (O.row 37 none y0),An [y0=y0,HfL y0],Tt,An [z4=z4,HfE z4,Sm (k+1+1)],Tt,Bn [An [Sm jj.length,Sm (Ab jj)],An [Sm cs.length,Sm (List.map sl cs)],An [Zz,Sm size,Sm (size-size)],Tt,Bn [Zz,Sm (Nat.succ k+1)]],z0[3]? =z7,z0[3]? =z7,z0[4]? =z5,z0[4]? =z5,z0[5]? =z8,z0[5]? =z8,z0[6]? =z9,z0[6]? =z9,z0[7]? =z6,z0[7]? =z6,z0[8]? =z2,z0[8]? =z2,Tt,Tt,Tt,An [z3=z3,HfL z3]]) ?_
   (repeat'(first|(with_reducible apply And.intro)|(refine fun(_:True)=>?_)))
   all_goals first|exact aq|exact hB|exact hS|exact hS0|exact hE|exact hE0|rfl|skip)
 refine Aa.of_vcH (P:=Pg) (E:=vE) vE_ok Af Qaa (n:=1000) (f:=35) (os0:=A9 jj cs F size q s B la pa true k) (ars:=i6 (v:Nat)::u6 (p:Nat)::caT) (r:=[10])
  (S := { sl := [(8, i6 0)], os := Dm jj cs F size (upQ q (k + 1) (v, p)) s B la pa true (k + 1), md := [0, 0, 1, 0, 0, 1, 0, 0, 1], lg := [0, 1, 2, 3, 4, 7, 9] }) (v := i6 0) (hs := [(17, .call ⟨.tup [ar x, i6 0], Ae .e 0 (Dm jj cs F size (upQ q (k + 1) (v, p)) s B la pa true (k + 1)), 11, [1, 2, 9]⟩), pl 31, ld 32 (ar (B s)), fn 33 (.tup [i6 c, i6 0]), no 40]) (gl := g0) (by simp) (fun i hi hno => by
   rcases(show i=0\/i=1\/i=2\/i=3\/i=4\/i=5\/i=6\/i=7\/i=8\/i=9 by simp at hi;omega)with rfl|rfl|rfl|rfl|rfl|rfl|rfl|rfl|rfl|rfl<;>first|rfl|(simp at hno)) ?_
 exact v_ (p:=let z5:=An [Zz,Sm size,Sm (size-size)];let z0:=upQ q (k+1) (v,p);let z3:=bF B size;let z4:=(0:Int);let z1:=bF (scF F z0) (k+1+1);let z2:=Ak z0 (k+1+1);Bn [Sm (i6 0),Aa Pg g0 (V.fn 33 []) [V.ptr 2 0,i6 s,i6 v,u6 p] (Ae T.e 0 (A9 jj cs F size q s B la pa true k)) 10 (CR.mk (V.tup [ar x,i6 0]) (Ae T.e 0 (Dm jj cs F size z0 s B la pa true (k+1))) 11 [1,2,9]),Tt,An [z4<=(s:Int),(s:Int)<(size:Int)],A6 18 (Aj (0+s*18) z3)=some (arF (B s)),Bn [TT 18,TT 18],Ac Pg g0 36 [V.agg (arF x),V.agg (arF (B s))] (V.tup [i6 c,i6 0]),Tt,decide (c>z4)=false,Bn [z4=z4],An [z3=z3,HfL z3],An [z2=z2,HfE z2,Sm (k+1+1)],Bn [An [Sm jj.length,Sm (Ab jj)],An [Sm cs.length,Sm (List.map sl cs)],z5,Tt,Bn [Zz,Sm (Nat.succ k+1)]],An [Sm (nF la size),HfL (nF la size)],An [Sm (uF pa size),HfL (uF pa size)],Bn [Zz],Bn [Sm [i6 s],Tt],Bn [Sm [V.bool true],Tt],Bn [z5,z5],Tt,An [z1=z1,HfL z1]])
set_option maxHeartbeats 1000000
set_option maxRecDepth 100000
theorem fac_les:((List.range 44).all fun c=>(List.range 18).all fun i=>decide (0<=Ba c i/\Ba c i<=c))=true:=by kernel_rfl
theorem Qnz{c i:Nat}(hc:c<44)(hi:i<18):0<=Ba c i/\Ba c i<=c:=of_decide_eq_true (Qam.1 (Qam.1 fac_les c hc) i hi)
theorem Qmy{α:Type}{f:α->Int}{g:α->Nat}: ∀l:List α,(∀x∈l,-(g x:Int)<=f x/\f x<=g x)-> -((As (l.map g):Nat):Int)<=Bh (l.map f)/\Bh (l.map f)<=(As (l.map g):Nat)
 |[],_=>by simp[Bh,As]
 |x::l,h=>by
  have h1:=Qmy l (fun y hy=>h y (List.mem_cons_of_mem _ hy))
  have h2:=h x List.mem_cons_self
  simp only[List.map_cons,Bh,As];omega
theorem Qty{l:List Nat}{x:Nat}(h:x∈l):x<=As l:=Qb9 h
theorem con_bd2{l:List Nat}{r i:Nat}(hi:i<18)(h1:1<=r)(h:As l+(r-1)<44): -((As l+(r-1):Nat):Int)<=Cq Ba r l i/\Cq Ba r l i<=(As l+(r-1):Nat):=by
 have h2:=Qmy (f:=fun c=>Ba c i) (g:=fun c=>c) l (fun c hc=>by
  have:=Qty hc
  have:=Qnz (c:=c) o_ hi
  omega)
 have h2':0<=Bh (l.map fun c=>Ba c i):=by
  have: ∀l:List Nat,(∀c∈l,c<44)->0<=Bh (l.map fun c=>Ba c i):=by
   intro l
   induction l with
   |nil=>intro _;simp[Bh]
   |cons x l ih=>
    intro h
    have:=ih (fun y hy=>h y (List.mem_cons_of_mem _ hy))
    have:=Qnz (h x List.mem_cons_self) hi
    simp only[List.map_cons,Bh];omega
  exact this l fun c hc=>by have:=Qty hc;omega
 have h3:=Qnz (c:=r-1) o_ hi
 have h4:=Qnz (c:=As l+(r-1)) h hi
 rw[show List.map (fun c=>c) l=l from List.map_id l]at h2
 unfold Cq
 omega
theorem Qdt: ∀(l:List Nat)(k:Nat),k<l.length->As (l.set k (l.getD k 0+1))=As l+1
 |[],_,h=>by cases h
 |x::l,0,_=>by simp[As];omega
 |x::l,k+1,h=>by
  have:=Qdt l k (by simpa using h)
  simp only[List.set_cons_succ,List.getD_cons_succ,As,this];omega
def totE(es:List (Nat×List Nat)):Nat:=As (es.map fun e=>As e.2)
theorem Qno{r q k:Nat}(hk:k<r): ∀{es:List (Nat×List Nat)},(∀e∈es,e.2.length=r)->totE (bump r q k es)=totE es+1/\∀e∈bump r q k es,e.2.length=r
 |[],_=>by
  have h:=Qdt (List.replicate r 0) k (by simpa using hk)
  rw[Qjy]at h
  have h0:(List.replicate r 0).getD k 0=0:=by rw[List.getD_eq_getElem?_getD,List.getElem?_replicate];split<;>rfl
  rw[h0]at h
  refine⟨by simp only[bump,totE,List.map_cons,List.map_nil,As];rw[h],fun e he=>?_⟩
  obtain rfl:=List.mem_singleton.1 he
  simp
 | (p, l) :: es, h => by
  have hl:l.length=r:=h (p,l) List.mem_cons_self
  unfold bump
  by_cases hp:p=q
  ·rw [if_pos hp]
   refine⟨?_,fun e he=>?_⟩
   ·simp only[totE,List.map_cons,As,Qdt l k o_];omega
   ·rcases List.mem_cons.1 he with rfl | he
    ·simpa using hl
    ·exact h e (List.mem_cons_of_mem _ he)
  ·rw [if_neg hp]
   have ih:=Qno (q:=q) hk (es:=es) (fun e he=>h e (List.mem_cons_of_mem _ he))
   refine⟨?_,fun e he=>?_⟩
   ·have := ih.1
    simp only[totE,List.map_cons,As]at this⊢
    omega
   ·rcases List.mem_cons.1 he with rfl | he
    ·exact hl
    ·exact ih.2 e he
theorem Qmc{r:Nat}(P:List (Nat×Nat))(h: ∀p∈P,p.2<r):totE (Qaq r P)=P.length:=by
 have key: ∀(P Q:List (Nat×Nat)),(∀p∈Q,p.2<r)->(totE (Qaq r P)=P.length/\∀e∈Qaq r P,e.2.length=r)->totE (Qaq r (P++Q))=(P++Q).length/\∀e∈Qaq r (P++Q),e.2.length=r:=by
  intro P Q
  induction Q generalizing P with
  |nil=>intro _ h;rw[List.append_nil];exact h
  |cons p Q ih=>
   intro hq h
   rw[show P++p::Q=(P++[p])++Q by simp]
   refine ih _ (fun x hx=>hq x (List.mem_cons_of_mem _ hx)) ?_
   rw[Qdh]
   have:=Qno (q:=p.1) (hq p List.mem_cons_self) h.2
   exact⟨by rw[this.1,h.1];simp,this.2⟩
 have:=key [] P h ⟨rfl,by simp[Qaq]⟩
 rw[List.nil_append]at this
 exact this.1
theorem Qd9{α:Type}(g:α->Nat)(c:Nat): ∀l:List α,As (l.map fun x=>g x+c)=As (l.map g)+l.length*c
 |[]=>by simp[As]
 |x::l=>by
  simp only[List.map_cons,As,Qd9 g c l,List.length_cons,Nat.add_mul];omega
theorem fam_le{jj:List Nat}{cs:List (List Nat)}{v ps:Nat}(hc:Bt jj)(hcs: ∀c∈cs,Cb jj c)(hv:v<jj.length)(hm:cs.length<=40){i:Nat}(hi:i<18): -160<=famF jj cs v ps i/\famF jj cs v ps i<=160:=by
 have hpo:=Qjm (ps:=ps) hc hcs hv
 have hr:=hc.each v hv
 have hlt:=fun p hp=>(hpo p hp).2
 have hel:=Qgg hlt
 have hpl:(Qav jj v ps cs).length=cs.length:=by simp[Qav]
 have hE:=Qct _ hlt
 have htot:=Qmc _ hlt
 unfold famF
 rw[<-Qgh (Qi8 i hi) hpo]
 have:=Qmy (f:=fun e=>Cq Ba (jj.getD v 0) e.2 i) (g:=fun e=>As e.2+(jj.getD v 0-1)) (Qaq (jj.getD v 0) (Qav jj v ps cs)) (fun e he=>by
  refine con_bd2 hi o_ ?_
  rw[hE.row e he]
  have:=Qcy (Qav jj v ps cs) e.1 hlt
  omega)
 rw[Qd9]at this
 unfold totE at htot
 rw[htot]at this
 have h3:(Qaq (jj.getD v 0) (Qav jj v ps cs)).length*(jj.getD v 0-1)<=40*3:=Nat.mul_le_mul o_ o_
 omega
def nvF(f:Nat->Int):Nat:=Qa7 (fun i=>(f i+4000).toNat) 18
def inB(f:Nat->Int)(b:Int):Prop:=∀i,i<18-> -b<=f i/\f i<=b
theorem inB.mono{f:Nat->Int}{b c:Int}(h:inB f b)(hc:b<=c):inB f c:=fun i hi=>by have:=h i hi;omega
theorem inB.inA{f:Nat->Int}{b:Int}(h:inB f b)(hb:b<=2000):inA f=true:=Qr5 fun i hi=>by have:=h i hi;omega
theorem inB_zero:inB Qah 0:=fun i _=>by show(-0:Int)<=0/\(0:Int)<=0;omega
theorem inB.add{f g:Nat->Int}{b c:Int}(h:inB f b)(k:inB g c):inB (Aq f g 1) (b+c):=fun i hi=>by
 have:=h i hi;have:=k i hi;show -(b+c)<=f i+1*g i/\f i+1*g i<=b+c;omega
theorem cmpF_nv{a b:Nat->Int}(ha:inB a 4000)(hb:inB b 4000):Di a b=sgn (nvF a) (nvF b):=
 quot_cmp rfl rfl (Bc a b (-1) 18) fun i hi=>by
  rw[Qbi,if_pos hi]
  have:=ha i hi;have:=hb i hi;omega
theorem Qtj{x y:Nat}:0<sgn x y↔y<x:=by
 unfold sgn;split
 ·constructor
  ·intro h;omega
  ·intro h;omega
 ·split
  ·constructor
   ·intro _;assumption
   ·intro _;omega
  ·constructor
   ·intro h;omega
   ·intro h;omega
def Ao(p:Nat):Nat:=p%2+p/2%2+p/4%2+p/8%2+p/16%2
theorem Qs2(p:Nat):Ao p<=5:=by unfold Ao;omega
theorem Qes: ∀s,s<32->∀v,v<5->s.testBit v=true->2^v<=s/\Ao s=Ao (s-2^v)+1/\∀u,u<5->(s-2^v).testBit u=(s.testBit u&& !decide (u=v)):=by decide+kernel
theorem set_has: ∀s,s<32->0<s->∃v,v<5/\s.testBit v=true:=by decide+kernel
theorem Qgm: ∀n,n<=5->∀s,s<2^n->∀v,v<5->s.testBit v=true->v<n:=by decide+kernel
theorem Qa1{n:Nat}(h:n<=5):2^n<=32:=Nat.le_trans (Nat.pow_le_pow_right d_ h) d_
abbrev BSt:=Option (Nat×Nat×(Nat->Int))
def upT(b:BSt)(v p:Nat)(x:Nat->Int):BSt:=match b with
 |none=>some (v,p,x)
 |some (v',p',y)=>if 0<Di x y then some (v,p,x)else some (v',p',y)
section
variable (n lim:Nat) (F:Nat->Nat->Nat->Int)
def okT(s v p:Nat):Bool:=decide (p&&& s=p)&&(!p.testBit v&&decide (Ao p<=lim))
def Av(B:Nat->Nat->Int)(s v p:Nat):Nat->Int:=Aq (B (s-2^v)) (F v p) 1
def Bu(B:Nat->Nat->Int)(s v:Nat)(b:BSt):Nat->BSt
 |0=>b
 |k+1=>if okT lim s v k then upT (Bu B s v b k) v k (Av F B s v k)else Bu B s v b k
def B3(B:Nat->Nat->Int)(s:Nat):Nat->BSt
 |0=>none
 |k+1=>if s.testBit k then Bu lim F B s k (B3 B s k) (s+1)else B3 B s k
def Cc:BSt->Nat->Int
 |none=>Qah
 |some (_,_,x)=>x
def vO:BSt->Nat
 |none=>0
 |some (v,_,_)=>v
def pO:BSt->Nat
 |none=>0
 |some (_,p,_)=>p
def A8:Nat->Nat->Nat->Int
 |0=>fun _=>Qah
 |k+1=>fun s=>if s=k then Cc (B3 lim F (A8 k) k n)else A8 k s
def stB(s:Nat):BSt:=B3 lim F (A8 n lim F s) s n
def Cl(s:Nat):Nat->Int:=Cc (stB n lim F s)
end
section
variable {n lim:Nat} {F:Nat->Nat->Nat->Int}
theorem Qbp: ∀(k s:Nat),A8 n lim F k s=if s<k then Cl n lim F s else Qah
 |0,s=>by rw[if_neg o_];rfl
 | k + 1, s => by
  unfold A8
  by_cases h:s=k
  ·rw[if_pos h,if_pos o_,h];rfl
  ·rw [if_neg h, Qbp k s]
   by_cases h2:s<k
   ·rw[if_pos h2,if_pos o_]
   ·rw[if_neg h2,if_neg o_]
structure E9(B:Nat->Nat->Int)(s:Nat)(T:Nat->Nat->Prop)(b:BSt):Prop where
 is: ∀v p x,b=some (v,p,x)->T v p/\x=Av F B s v p
 top: ∀v p,T v p->∃v' p' x,b=some (v',p',x)/\nvF (Av F B s v p)<=nvF x
theorem E9.step{B:Nat->Nat->Int}{s:Nat}{T:Nat->Nat->Prop}{b:BSt}(hb: ∀v p,T v p->inB (Av F B s v p) 4000){v p:Nat}(hx:inB (Av F B s v p) 4000)(h:E9 (F:=F) B s T b):E9 (F:=F) B s (fun v' p'=>T v' p'\/v'=v/\p'=p) (upT b v p (Av F B s v p)):=by
 rcases b with _|⟨v0,p0,y⟩
 ·refine ⟨fun v' p' x e => ?_, fun v' p' ht => ?_⟩
  ·cases e;exact⟨.inr ⟨rfl,rfl⟩,rfl⟩
  ·rcases ht with ht | ⟨rfl, rfl⟩
   ·obtain⟨_,_,_,e,_⟩:=h.top v' p' ht;cases e
   ·exact⟨_,_,_,rfl,Nat.le_refl _⟩
 ·obtain ⟨t0, e0⟩ := h.is v0 p0 y rfl
  have hy:inB y 4000:=by rw[e0];exact hb v0 p0 t0
  have hc:=cmpF_nv hx hy
  unfold upT
  dsimp only
  by_cases hgt:0<Di (Av F B s v p) y
  ·rw [if_pos hgt]
   rw[hc,Qtj]at hgt
   refine⟨fun v' p' x e=>?_,fun v' p' ht=>⟨v,p,_,rfl,?_⟩⟩
   ·cases e;exact⟨.inr ⟨rfl,rfl⟩,rfl⟩
   ·rcases ht with ht | ⟨rfl, rfl⟩
    ·obtain ⟨_, _, _, e, hle⟩ := h.top v' p' ht
     cases e;omega
    ·exact Nat.le_refl _
  ·rw [if_neg hgt]
   rw[hc,Qtj]at hgt
   refine⟨fun v' p' x e=>?_,fun v' p' ht=>⟨v0,p0,y,rfl,?_⟩⟩
   ·cases e;exact⟨.inl t0,e0⟩
   ·rcases ht with ht | ⟨rfl, rfl⟩
    ·obtain ⟨_, _, _, e, hle⟩ := h.top v' p' ht
     cases e;exact hle
    ·omega
theorem E9.inn{B:Nat->Nat->Int}{s v:Nat}{T:Nat->Nat->Prop}{b:BSt}(hb: ∀v p,inB (Av F B s v p) 4000)(h:E9 (F:=F) B s T b): ∀k,E9 (F:=F) B s (fun v' p'=>T v' p'\/v'=v/\p'<k/\okT lim s v p'=true) (Bu lim F B s v b k)
 | 0 => ⟨fun v' p' x e => ⟨.inl (h.is v' p' x e).1, (h.is v' p' x e).2⟩, fun v' p' ht => by
   rcases ht with ht|⟨_,h0,_⟩
   ·exact h.top v' p' ht
   ·exact absurd h0 (Nat.not_lt_zero _)⟩
 | k + 1 => by
  have ih:=E9.inn (v:=v) hb h k
  unfold Bu
  by_cases ho:okT lim s v k=true
  ·rw [if_pos ho]
   have:=ih.step (fun v p _=>hb v p) (hb v k)
   refine⟨fun v' p' x e=>⟨?_,(this.is v' p' x e).2⟩,fun v' p' ht=>this.top v' p' ?_⟩
   ·rcases (this.is v' p' x e).1 with (h1 | ⟨h1, h2, h3⟩) | ⟨rfl, rfl⟩
    ·exact .inl h1
    ·exact .inr ⟨h1,by omega,h3⟩
    ·exact .inr ⟨rfl,by omega,ho⟩
   ·rcases ht with ht | ⟨h1, h2, h3⟩
    ·exact .inl (.inl ht)
    ·by_cases e : p' = k
     ·exact .inr ⟨h1,e⟩
     ·exact .inl (.inr ⟨h1,by omega,h3⟩)
  ·rw [if_neg ho]
   refine⟨fun v' p' x e=>⟨?_,(ih.is v' p' x e).2⟩,fun v' p' ht=>ih.top v' p' ?_⟩
   ·rcases (ih.is v' p' x e).1 with h1 | ⟨h1, h2, h3⟩
    ·exact .inl h1
    ·exact .inr ⟨h1,by omega,h3⟩
   ·rcases ht with ht | ⟨h1, h2, h3⟩
    ·exact .inl ht
    ·refine .inr ⟨h1, ?_, h3⟩
     rcases Nat.lt_or_ge p' k with h'|h'
     ·exact h'
     ·exact absurd (show okT lim s v k=true by rw[<-(show p'=k by omega)];exact h3) ho
theorem E9.out{B:Nat->Nat->Int}{s:Nat}(hb: ∀v p,inB (Av F B s v p) 4000): ∀k,E9 (F:=F) B s (fun v p=>v<k/\s.testBit v=true/\p<s+1/\okT lim s v p=true) (B3 lim F B s k)
 |0=>⟨fun v p x e=>(by cases e),fun v p ht=>absurd ht.1 (Nat.not_lt_zero _)⟩
 | k + 1 => by
  have ih:=E9.out hb k
  unfold B3
  by_cases hs:s.testBit k=true
  ·rw [if_pos hs]
   have:=ih.inn (v:=k) (lim:=lim) hb (s+1)
   refine⟨fun v' p' x e=>⟨?_,(this.is v' p' x e).2⟩,fun v' p' ht=>this.top v' p' ?_⟩
   ·rcases (this.is v' p' x e).1 with ⟨h1, h2⟩ | ⟨rfl, h2, h3⟩
    ·exact⟨by omega,h2⟩
    ·exact⟨by omega,hs,h2,h3⟩
   ·obtain ⟨h1, h2, h3, h4⟩ := ht
    by_cases e:v'=k
    ·subst e;exact .inr ⟨rfl,h3,h4⟩
    ·exact .inl ⟨by omega,h2,h3,h4⟩
  ·rw [if_neg hs]
   refine⟨fun v' p' x e=>⟨?_,(ih.is v' p' x e).2⟩,fun v' p' ht=>ih.top v' p' ?_⟩
   ·have:=(ih.is v' p' x e).1;exact⟨by omega,this.2⟩
   ·obtain ⟨h1, h2, h3⟩ := ht
    refine⟨?_,h2,h3⟩
    rcases Nat.lt_or_ge v' k with h'|h'
    ·exact h'
    ·exact absurd (show s.testBit k=true by rw[<-(show v'=k by omega)];exact h2) hs
end
set_option maxHeartbeats 1000000
theorem Qez(f g:Nat->Int)(i:Nat):Aq f g 1 i=f i+g i:=by show f i+1*g i=_;omega
section
variable {n lim:Nat} {F:Nat->Nat->Nat->Int}
theorem Gm(hF: ∀v p,inB (F v p) 160)(hn:n<=5): ∀s,s<2^n->inB (Cl n lim F s) (160*Ao s)/\E9 (F:=F) (A8 n lim F s) s (fun v p=>v<n/\s.testBit v=true/\p<s+1/\okT lim s v p=true) (stB n lim F s):=by
 intro s
 induction s using Nat.strongRecOn with
 | _ s ih =>
  intro hs
  have h32:=Qa1 hn
  have ht: ∀t,inB (A8 n lim F s t) 800:=fun t=>by
   rw[Qbp]
   split
   ·rename_i h
    have:=(ih t h o_).1
    have h5:=Qs2 t
    exact this.mono o_
   ·exact inB_zero.mono d_
  have hb: ∀v p,inB (Av F (A8 n lim F s) s v p) 4000:=fun v p=>((ht _).add (hF v p)).mono d_
  have hbest:=E9.out (lim:=lim) hb n
  refine⟨?_,hbest⟩
  unfold Cl
  cases e:stB n lim F s with
  |none=>exact inB_zero.mono (by show(0:Int)<=160*(Ao s:Int);omega)
  |some b=>
   obtain⟨v,p,x⟩:=b
   obtain⟨⟨h1,h2,h3,h4⟩,h5⟩:=hbest.is v p x e
   obtain⟨r1,r2,_⟩:=Qes s o_ v o_ h2
   show inB x _
   have hp:0<2^v:=Nat.pow_pos d_
   rw[h5,r2]
   unfold Av
   rw[Qbp,if_pos o_]
   have:=(ih (s-2^v) o_ o_).1.add (hF v p)
   exact this.mono o_
theorem Qj1(hF: ∀v p,inB (F v p) 160)(hn:n<=5){s:Nat}(hs:s<2^n):inB (Cl n lim F s) 800:=by
 have:=(Gm (lim:=lim) hF hn s hs).1
 have h5:=Qs2 s
 exact this.mono o_
theorem Qb5{s v p:Nat}:okT lim s v p=true↔p&&& s=p/\p.testBit v=false/\Ao p<=lim:=by
 unfold okT
 simp[Bool.and_eq_true]
theorem Qtq(h0: ∀v,v<n->Nat.testBit 0 v=false):stB n lim F 0=none:=by
 have: ∀k,B3 lim F (A8 n lim F 0) 0 k=none:=by
  intro k
  induction k with
  |zero=>rfl
  |succ k ih=>rw[B3,if_neg (by simp),ih]
 exact this n
theorem top_is(hF: ∀v p,inB (F v p) 160)(hn:n<=5){s:Nat}(hs:s<2^n)(h0:0<s): ∃v p,v<n/\s.testBit v=true/\okT lim s v p=true/\stB n lim F s=some (v,p,Cl n lim F s)/\Cl n lim F s=Aq (Cl n lim F (s-2^v)) (F v p) 1:=by
 have h32:=Qa1 hn
 obtain⟨_,hb⟩:=Gm (lim:=lim) hF hn s hs
 obtain⟨u,u1,u2⟩:=set_has s o_ h0
 have un:=Qgm n hn s hs u u1 u2
 obtain⟨v,p,x,e,_⟩:=hb.top u 0 ⟨un,u2,by omega,Qb5.2 ⟨Nat.zero_and _,Nat.zero_testBit _,Nat.zero_le _⟩⟩
 obtain⟨⟨a1,a2,a3,a4⟩,a5⟩:=hb.is v p x e
 obtain⟨r1,_⟩:=Qes s o_ v o_ a2
 have hp:0<2^v:=Nat.pow_pos d_
 have ex:Cl n lim F s=x:=by unfold Cl;rw[e];rfl
 refine⟨v,p,a1,a2,a4,by rw[e,ex],?_⟩
 rw[ex,a5]
 unfold Av
 rw[Qbp,if_pos o_]
structure LadOk(n:Nat)(la pa:Nat->Nat):Prop where
 at_: ∀s,0<s->s<2^n->la s<n/\s.testBit (la s)=true/\pa s&&& (s-2^la s)=pa s
end
set_option maxHeartbeats 1000000
set_option maxRecDepth 100000
def C4(q:Nat->Nat×Nat)(k:Nat)(x:Nat×Nat):Bool:=(List.range k).any fun j=>decide (q j=x)
theorem Qdx{q:Nat->Nat×Nat}{k:Nat}{x:Nat×Nat}:C4 q k x=true↔∃j,j<k/\q j=x:=by
 unfold C4
 rw[List.any_eq_true]
 constructor
 ·rintro⟨j,hj,h⟩;exact⟨j,List.mem_range.1 hj,of_decide_eq_true h⟩
 ·rintro⟨j,hj,h⟩;exact⟨j,List.mem_range.2 hj,decide_eq_true h⟩
def askQ(q:Nat->Nat×Nat)(k:Nat)(x:Nat×Nat):Nat->Nat×Nat:=if C4 q k x then q else upQ q k x
def E6(q:Nat->Nat×Nat)(k:Nat)(x:Nat×Nat):Nat:=if C4 q k x then k else k+1
section
variable (lim s v:Nat) (q:Nat->Nat×Nat) (k:Nat)
def Bf:Nat->(Nat->Nat×Nat)×Nat
 |0=>(q,k)
 |n+1=>if okT lim s v n then(askQ (Bf n).1 (Bf n).2 (v,n),E6 (Bf n).1 (Bf n).2 (v,n))else Bf n
def F0(n:Nat):Nat:=(Bf lim s v q k n).2
end
theorem Qqq(q:Nat->Nat×Nat)(k:Nat)(x:Nat×Nat):k<=E6 q k x/\E6 q k x<=k+1:=by unfold E6;split<;>omega
theorem Qee(lim s v:Nat)(q:Nat->Nat×Nat)(k:Nat): ∀n,k<=F0 lim s v q k n/\F0 lim s v q k n<=k+n
 |0=>⟨Nat.le_refl _,Nat.le_refl _⟩
 | n + 1 => by
  have ih:=Qee lim s v q k n
  unfold F0 Bf at*
  split
  ·have := Qqq (Bf lim s v q k n).1 (Bf lim s v q k n).2 (v, n)
   dsimp only
   cases n<;>simp only[Bf]at*<;>omega
  ·cases n<;>simp only[Bf]at*<;>omega
def sB(s:Nat)(b:BSt)(B:Nat->Nat->Int):Nat->Nat->Int:=fun i=>if i=s then Cc b else B i
def sL(s:Nat)(b:BSt)(la:Nat->Nat):Nat->Nat:=fun i=>if i=s then vO b else la i
def sP(s:Nat)(b:BSt)(pa:Nat->Nat):Nat->Nat:=fun i=>if i=s then pO b else pa i
theorem Qp1(s:Nat)(b:BSt)(B:Nat->Nat->Int)(v p:Nat)(x:Nat->Int):(fun i=>if i=s then x else sB s b B i)=sB s (some (v,p,x)) B:=by
 funext i;unfold sB;split<;>rfl
theorem Qp2(s:Nat)(b:BSt)(la:Nat->Nat)(v p:Nat)(x:Nat->Int):(fun i=>if i=s then v else sL s b la i)=sL s (some (v,p,x)) la:=by
 funext i;unfold sL;split<;>rfl
theorem Qp3(s:Nat)(b:BSt)(pa:Nat->Nat)(v p:Nat)(x:Nat->Int):(fun i=>if i=s then p else sP s b pa i)=sP s (some (v,p,x)) pa:=by
 funext i;unfold sP;split<;>rfl
theorem Qju(s v p:Nat)(y:Nat->Int)(B:Nat->Nat->Int):sB s (some (v,p,y)) B s=y:=if_pos rfl
def Qaw:BSt->Bool
 |none=>false
 |some _=>true
section
variable (jj:List Int) (cs:List (List Int)) (F:Nat->Nat->Nat->Int) (size:Nat) (q:Nat->Nat×Nat) (s:Nat) (b:BSt) (B:Nat->Nat->Int) (la pa:Nat->Nat)
abbrev tzO0:List O:=Dn jj cs size q s (sB s b B) (sL s b la) (sP s b pa) (Qaw b)
abbrev tzO1(k:Nat):List O:=A9 jj cs F size q s (sB s b B) (sL s b la) (sP s b pa) (Qaw b) k
abbrev tzO2(k:Nat):List O:=Dm jj cs F size q s (sB s b B) (sL s b la) (sP s b pa) (Qaw b) k
end
structure Dk(jj:List Int)(cs:List (List Int))(F:Nat->Nat->Nat->Int)(size:Nat)(s:Nat)(b:BSt)(B:Nat->Nat->Int)(v p t bt:Nat)(x:Nat->Int):Prop where
 hs:s<size
 ht:t<size
 ne:t≠s
 h1: ∀G T,Ai G .shl T (i6 1) (i6 (v:Nat))=some (i6 (bt:Nat))
 h2: ∀G T,Ai G .andNot T (i6 (s:Nat)) (i6 (bt:Nat))=some (i6 (t:Nat))
 add:Ac Pg g0 50 [ar (B t),ar (F v p)] (.tup [ar x,i6 0])
 cmp: ∀v' p' y,b=some (v',p',y)->Ac Pg g0 36 [ar x,ar y] (.tup [i6 (Di x y),i6 0])
 fam:Ac Pg g0 60 [gV jj cs,i6 (v:Nat),u6 (p:Nat)] (.tup [ar (F v p),i6 0])
section
variable {jj:List Int} {cs:List (List Int)} {F:Nat->Nat->Nat->Int} {size:Nat} {q:Nat->Nat×Nat} {s:Nat} {b:BSt} {B:Nat->Nat->Int} {la pa:Nat->Nat} {v p t bt:Nat} {x:Nat->Int}
theorem Dk.add'(h:Dk jj cs F size s b B v p t bt x):Ac Pg g0 50 [ar (sB s b B t),ar (F v p)] (.tup [ar x,i6 0]):=by
 have e:sB s b B t=B t:=if_neg h.ne
 rw[e];exact h.add
theorem Qm1(h:Dk jj cs F size s b B v p t bt x){k j:Nat}(hj:j<k+1)(hq:q j=(v,p))(hf:Bg [true,true] [i6 (v:Nat),u6 (p:Nat)] (Ak q (k+1)) 0=some (some (j,i6 (j:Nat)))):
  Aa Pg g0 (.fn 35 []) (i6 (v:Nat)::u6 (p:Nat)::caT) (Ae .e 0 (tzO1 jj cs F size q s b B la pa k)) 10 ⟨i6 0,Ae .e 0 (tzO1 jj cs F size q s (upT b v p x) B la pa k),10,[0,1,2,3,4,7]⟩:=by
 have hp:=Qom jj cs F (sB s b B) size q k s t v p bt j x hj hq hf h.ht h.h1 h.h2 h.add'
 rcases b with _|⟨v',p',y⟩
 ·have := Qqa jj cs F size q k s v p (sB s none B) (sL s none la) (sP s none pa) x h.hs hp
  rw[Qp1 s none B v p x,Qp2 s none la v p x,Qp3 s none pa v p x]at this
  exact this
 ·have hc := h.cmp v' p' y rfl
  rw[<-Qju s v' p' y B]at hc
  by_cases hgt:0<Di x (sB s (some (v',p',y)) B s)
  ·have := Qp8 jj cs F size q k s v p (sB s (some (v', p', y)) B) (sL s (some (v', p', y)) la) (sP s (some (v', p', y)) pa) x h.hs _ hgt hc hp
   rw[Qp1 s _ B v p x,Qp2 s _ la v p x,Qp3 s _ pa v p x]at this
   rw[Qju]at hgt
   rw[show upT (some (v',p',y)) v p x=some (v,p,x)from if_pos hgt]
   exact this
  ·have := Qp9 jj cs F size q k s v p (sB s (some (v', p', y)) B) (sL s (some (v', p', y)) la) (sP s (some (v', p', y)) pa) x h.hs _ hgt hc hp
   rw[Qju]at hgt
   rw[show upT (some (v',p',y)) v p x=some (v',p',y)from if_neg hgt]
   exact this
theorem Qt4(h:Dk jj cs F size s b B v p t bt x):
  Aa Pg g0 (.fn 35 []) (i6 (v:Nat)::u6 (p:Nat)::caT) (Ae .e 0 (tzO0 jj cs size q s b B la pa)) 9 ⟨i6 0,Ae .e 0 (tzO1 jj cs F size (upQ q 0 (v,p)) s (upT b v p x) B la pa 0),10,[0,1,2,3,4,7]⟩:=by
 have hp:=Qpx jj cs F (sB s b B) size q s t v p bt x h.fam h.ht h.h1 h.h2 h.add'
 rcases b with _|⟨v',p',y⟩
 ·have := Qly jj cs F size q s v p (sB s none B) (sL s none la) (sP s none pa) x h.hs hp
  rw[Qp1 s none B v p x,Qp2 s none la v p x,Qp3 s none pa v p x]at this
  exact this
 ·have hc := h.cmp v' p' y rfl
  rw[<-Qju s v' p' y B]at hc
  by_cases hgt:0<Di x (sB s (some (v',p',y)) B s)
  ·have := Qlw jj cs F size q s v p (sB s (some (v', p', y)) B) (sL s (some (v', p', y)) la) (sP s (some (v', p', y)) pa) x h.hs _ hgt hc hp
   rw[Qp1 s _ B v p x,Qp2 s _ la v p x,Qp3 s _ pa v p x]at this
   rw[Qju]at hgt
   rw[show upT (some (v',p',y)) v p x=some (v,p,x)from if_pos hgt]
   exact this
  ·have := Qlx jj cs F size q s v p (sB s (some (v', p', y)) B) (sL s (some (v', p', y)) la) (sP s (some (v', p', y)) pa) x h.hs _ hgt hc hp
   rw[Qju]at hgt
   rw[show upT (some (v',p',y)) v p x=some (v',p',y)from if_neg hgt]
   exact this
theorem Qhi(h:Dk jj cs F size s b B v p t bt x){k:Nat}(hk:k<=1000000)(hf:Bg [true,true] [i6 (v:Nat),u6 (p:Nat)] (Ak q (k+1)) 0=some none):
  Aa Pg g0 (.fn 35 []) (i6 (v:Nat)::u6 (p:Nat)::caT) (Ae .e 0 (tzO1 jj cs F size q s b B la pa k)) 10 ⟨i6 0,Ae .e 0 (tzO2 jj cs F size (upQ q (k+1) (v,p)) s (upT b v p x) B la pa (k+1)),11,[0,1,2,3,4,7,9]⟩:=by
 have hp:=Qif jj cs F (sB s b B) size q k s t v p bt x hk hf h.fam h.ht h.h1 h.h2 h.add'
 rcases b with _|⟨v',p',y⟩
 ·have := Ql1 jj cs F size q k s v p (sB s none B) (sL s none la) (sP s none pa) x h.hs hp
  rw[Qp1 s none B v p x,Qp2 s none la v p x,Qp3 s none pa v p x]at this
  exact this
 ·have hc := h.cmp v' p' y rfl
  rw[<-Qju s v' p' y B]at hc
  by_cases hgt:0<Di x (sB s (some (v',p',y)) B s)
  ·have := Qlz jj cs F size q k s v p (sB s (some (v', p', y)) B) (sL s (some (v', p', y)) la) (sP s (some (v', p', y)) pa) x h.hs _ hgt hc hp
   rw[Qp1 s _ B v p x,Qp2 s _ la v p x,Qp3 s _ pa v p x]at this
   rw[Qju]at hgt
   rw[show upT (some (v',p',y)) v p x=some (v,p,x)from if_pos hgt]
   exact this
  ·have := Ql0 jj cs F size q k s v p (sB s (some (v', p', y)) B) (sL s (some (v', p', y)) la) (sP s (some (v', p', y)) pa) x h.hs _ hgt hc hp
   rw[Qju]at hgt
   rw[show upT (some (v',p',y)) v p x=some (v',p',y)from if_neg hgt]
   exact this
end
set_option maxHeartbeats 1000000
set_option maxRecDepth 100000
theorem T.set_set{α:Type}: ∀(f:Nat)(t:T α)(i:Nat)(x y:Option α),i<f->T.set f (T.set f t i x) i y=T.set f t i y
 |0,_,_,_,_,h=>absurd h (Nat.not_lt_zero _)
 | f + 1, t, i, x, y, h => by
  have ih:i≠0->∀t:T α,T.set f (T.set f t (i/2) x) (i/2) y=T.set f t (i/2) y:=fun _ t=>T.set_set f t (i/2) x y o_
  have ih2:i≠0->∀t:T α,T.set f (T.set f t (i/2-1) x) (i/2-1) y=T.set f t (i/2-1) y:=fun _ t=>T.set_set f t (i/2-1) x y o_
  by_cases h0:i=0
  ·subst h0;cases t<;>simp[T.set]
  ·have hb : Nat.beq i 0 = false := by
    cases hb:Nat.beq i 0 with
    |false=>rfl
    |true=>exact absurd (Nat.eq_of_beq_eq_true hb) h0
   cases h1:Nat.beq (i%2) 1<;>cases t<;>simp only[T.set,hb,h1,cond_true,cond_false,ih h0,ih2 h0]
theorem T.set_same{α:Type}: ∀(f:Nat)(t:T α)(i:Nat)(x:α),i<f->t.get i=some x->T.set f t i (some x)=t
 |0,_,_,_,h,_=>absurd h (Nat.not_lt_zero _)
 |f+1,.e,_,_,_,h=>by simp at h
 | f + 1, .n l v r, i, x, hf, h => by
  unfold T.get at h
  unfold T.set
  cases h0:Nat.beq i 0 with
  |true=>rw[h0,cond_true]at h;rw[cond_true,h]
  |false=>
   have hi:i≠0:=by rintro rfl;cases h0
   rw[h0,cond_false]at h
   rw[cond_false]
   cases h1:Nat.beq (i%2) 1 with
   |true=>rw[h1,cond_true]at h;rw[cond_true,T.set_same f l (i/2) x o_ h]
   |false=>rw[h1,cond_false]at h;rw[cond_false,T.set_same f r (i/2-1) x o_ h]
theorem pt_pt{α:Type}(t:T α)(i:Nat)(x y:α):pt (pt t i x) i y=pt t i y:=by
 rw[Bl,Bl,Bl];exact T.set_set _ _ _ _ _ (Nat.lt_succ_self _)
theorem pt_same{α:Type}{t:T α}{i:Nat}{x:α}(h:gt t i=some x):pt t i x=t:=by
 rw[Qa0]at h;rw[Bl];exact T.set_same _ _ _ _ (Nat.lt_succ_self _) h
def SubL(a b:List Nat):Prop:=∀g,g∈a->g∈b
noncomputable def Qoq:Code->Code
 | .rangeFunc _ _ _ b=>b
 |c=>c
noncomputable def rfAsg:Code->Code
 | .rangeFunc _ _ a _=>a
 |c=>c
noncomputable def kAsg(n:Nat)(sl1:List (Nat×V))(H:T O)(nx:Nat):KF:=fun e _ st=>match e with
 | .normal=>bif Nat.beq st.tm.n n then Ce st.tm sl1/\st.H=H/\st.nx=nx/\st.lg=[]else False
 | _=>False
noncomputable def kBdy(H:T O)(nx:Nat)(L:List Nat):KF:=fun e _ st=>match e with
 | .normal=>st.H=H/\st.nx=nx/\SubL st.lg L
 | _=>False
theorem Aa.yldN{P:Program}{E:Env}{sp:Qdc}(hE:E.Ok P)(hm:P.follows .mixedOrders=true){gl:T (List V)}(hsp:Qbx P gl sp){n hd:Nat}{ars:List V}{H H2:T O}{nx nx2:Nat}{tm tm1:TM}{ps:List Nat}{assign body:Code}{fn0:Nat}{sl0 sl1:List (Nat×V)}{L:List Nat}{hs0 hs1:Hs}{m0 m1:Nat}
  (ho:gt H hd=some (.loop .ready none fn0 tm ps assign body))(htm1:putPs tm ps ars=some tm1)(hn:tm1.n=n)(hg:tm1.gl=gl)(h0:Ce tm1 sl0)
  (ha: ∀(H:T O)(nx:Nat),vc P E sp (some hd) nx m0 assign hs0 (A4 gl n sl0 H nx []) (kAsg n sl1 H nx))
  (hb:vc P E sp (some hd) nx m1 body hs1 (A4 gl n sl1 (pt H hd (.loop .busy none fn0 tm ps assign body)) nx [hd]) (kBdy (pt H2 hd (.loop .busy none fn0 tm ps assign body)) nx2 L))
  (hL:hd∈L)(hlog:Log H.get nx H2.get nx2 L)(h2:gt H2 hd=some (.loop .ready none fn0 tm ps assign body)):Aa P gl (.yld hd) ars H nx ⟨.bool true,H2,nx2,L⟩:=by
 rw[Qa0]at ho h2
 refine Aa.yld ho htm1 hlog ?_
 have hst:(⟨tm1,H,nx,[]⟩:St)=⟨⟨tm1.sl,gl,n⟩,H,nx,[]⟩:=by cases tm1;subst hn hg;rfl
 rw[hst]
 refine Sat.fewer (sl:=sl0) (by obtain⟨a,b,c⟩:=tm1;cases hn;cases hg;exact h0) ?_
 refine Sat.fewer_post ?_
 refine Sat.of_vc hE hm hsp rfl (ha H nx) fun e hs' st' hgl hk=>?_
 unfold kAsg at hk
 split at hk
 ·obtain ⟨hb1, k1, k2, k3, k4⟩ := Qak hk
  have hn':=Nat.eq_of_beq_eq_true hb1
  refine⟨sl1,k1,rfl,none,fn0,tm,ps,assign,body,by show st'.H.get hd=_;rw[k2];exact ho,?_⟩
  show Sat P (some hd) nx body ⟨_,st'.H.put hd _,st'.nx,hd::st'.lg⟩ _
  rw[k2,k3,k4]
  have e0:(A4 st'.tm.gl st'.tm.n sl1 H nx []).tm=(A4 gl n sl1 H nx []).tm:=by rw[hgl,hn']
  rw[e0]
  rw[Bl]at hb
  refine Sat.of_vc hE hm hsp rfl hb fun e hs2 st2 hgl2 hk2=>?_
  unfold kBdy at hk2
  split at hk2
  ·obtain ⟨q1, q2, q3⟩ := hk2
   refine⟨.busy,none,fn0,tm,ps,assign,body,by rw[q1,Bl,T.get_put,if_pos rfl],rfl,?_,q2.symm,fun x hx=>?_⟩
   ·show H2 = _
    rw[q1]
    have: ∀x:O,(pt H2 hd x).put hd (.loop .ready none fn0 tm ps assign body)=H2:=fun x=>by
     rw[<-Bl,pt_pt,pt_same (by rw[Qa0];exact h2)]
    exact(this _).symm
   ·rcases List.mem_cons.1 hx with rfl | hx
    ·exact hL
    ·exact q3 x hx
  ·exact hk2.elim
 ·exact hk.elim
theorem Sat.rangeC{P:Program}{gl:T (List V)}{rd:Option Nat}{nx0:Nat}{g:Operand}{ps:Array Tmp}{asg body:Code}{f:Nat}{caps:List V}{n:Nat}{S S':SL}{H1:T O}{nx1:Nat}{r L:List Nat}{v:V}
  (hg:ev (Ah gl n S).tm g=some (.fn f caps))(hlb:rdOk rd (Ah gl n S).H=true)
  (hc:Aa P gl (.fn f caps) [.yld S.os.length] (pt (Ae .e 0 S.os) S.os.length (.loop .ready none 0 (Ah gl n S).tm ps.toList asg body)) (S.os.length+1) ⟨v,H1,nx1,L⟩)
  (h1:gt H1 S.os.length=some (.loop .ready none 0 (Ah gl n S).tm ps.toList asg body))
  (hr:gcP nx0 r ⟨(Ah gl n S).tm,pt H1 S.os.length .dead,nx1,L++S.lg⟩ S'):
  Sat P rd nx0 (.rangeFunc g ps asg body) (Ah gl n S) (Qaf gl n [(True,.normal,S')]):=by
 rw[Bl]at hc
 rw[Qa0]at h1
 rw[Bl]at hr
 refine Sat.gc_post (Sat.rangeFunc' hg hlb hc (.inl ⟨0,_,_,_,_,h1,r,Ah gl n S',Qd7 hr,.inl ⟨trivial,rfl,rfl⟩⟩))
theorem Qje{os0 os1:List O}{lg:List Nat}(hle:os0.length<=os1.length)(h: ∀i,i<os0.length->i∉lg->os1[i]? =os0[i]?):Log (Ae .e 0 os0).get os0.length (Ae .e 0 os1).get os1.length lg:=by
 refine⟨hle,fun i hi hn=>?_⟩
 by_cases h1:i<os0.length
 ·rw [Qci _ _ _ _ (Nat.zero_le _) o_, Qci _ _ _ _ (Nat.zero_le _) o_, Nat.sub_zero]
  exact h i h1 hi
 ·rw[Qb1 o_,Qb1 o_]
noncomputable abbrev rgC:Code:=at' 19 [1,1,1,1,1,0,1,0,0,1,1,0,0,1,1,1,1,0,0,1,1,0,0,1,1,1,0]
theorem rg_eq:rgC= .rangeFunc (.tmp 61) #[62] (rfAsg rgC) (Qoq rgC):=by kernel_rfl
noncomputable def rgB:Code:=Qoq rgC
noncomputable def rgA:Code:=rfAsg rgC
section
variable (jj:List Int) (cs:List (List Int)) (F:Nat->Nat->Nat->Int) (size lim n w:Nat) (q:Nat->Nat×Nat) (s:Nat) (b:BSt) (B:Nat->Nat->Int) (la pa:Nat->Nat) (v:Nat)
abbrev clZ:List (Nat×V):=[(1,i6 (lim:Nat)),(2,.ptr 0 0),(4,.ptr 1 0),(5,.ptr 2 0),(6,.ptr 3 0),(8,i6 (size:Nat)),(9,.ptr 7 0),(10,.ptr 10 0),(11,.ptr 11 0),(12,.ptr 12 0),(13,.ptr 13 0),(39,i6 (size:Nat)),(40,i6 (s:Nat)),(46,i6 (n:Nat)),(47,i6 (v:Nat))]
abbrev rgZ:List (Nat×V):=clZ size lim n s v++[(14,.ptr 14 0),(61,.fn 56 [.imp [i6 (lim:Nat)],.imp [u6 (w:Nat)]])]
abbrev clO(hs k:Nat):List O:=[.row 31 none [sl jj,gC cs],.row 65 none [.nilp],.row 43 none [.nils,.nils],.row 38 none [i6 0],.row 37 none (bF (sB s b B) size),.map (Ak q k) k,.row 70 none (toC jj cs size 4 5 hs k),.row 65 none [.ptr 6 0],.row 3 none (nF (sL s b la) size),.row 72 none (uF (sP s b pa) size),.row 43 none [.sl 8 0 size (some (size-size)),.sl 9 0 size (some (size-size))],.row 3 none [i6 (s:Nat)],.row 4 none [.bool (Qaw b)],.row 87 none [.fn 35 [.ptr 7 0,.ptr 11 0,.ptr 12 0,.ptr 10 0]],.row 3 none [i6 (v:Nat)]]
abbrev clM:List Nat:=[0,0,0,0,0,0,1,1,0,0,1,0,0,1,0]
abbrev scO(k:Nat):O:=.row 37 (some 18) (bF (scF F q) (k+1))
noncomputable def rgT:TM:=(Ah g0 75 {sl:=rgZ size lim n w s v}).tm
noncomputable abbrev lbO(ls:LoopState):O:=.loop ls none 0 (rgT size lim n w s v) [62] rgA rgB
noncomputable abbrev ykA(ls:LoopState):List O:=clO jj cs size q s b B la pa v 15 0++[lbO size lim n w s v ls]
noncomputable abbrev ykB(ls:LoopState)(k:Nat):List O:=clO jj cs size q s b B la pa v 15 (k+1)++[scO F q k,lbO size lim n w s v ls]
noncomputable abbrev ykC(ls:LoopState)(k:Nat):List O:=clO jj cs size q s b B la pa v 16 (k+1)++[lbO size lim n w s v ls,scO F q k]
noncomputable abbrev ykD(ls:LoopState)(k:Nat):List O:=clO jj cs size q s b B la pa v 17 (k+1)++[.dead,lbO size lim n w s v ls,scO F q k]
noncomputable abbrev Fc(ls:LoopState)(k:Nat):List O:=clO jj cs size q s b B la pa v 17 (k+1)++[lbO size lim n w s v ls,.dead,scO F q k]
noncomputable abbrev Fb(ls:LoopState)(k:Nat):List O:=clO jj cs size q s b B la pa v 18 (k+1)++[.dead,lbO size lim n w s v ls,.dead,scO F q k]
end
theorem Qk7(size lim n w s v nx0:Nat)(h:15<=nx0):Bs nx0 (rgT size lim n w s v):=by
 intro i x hx
 have hx':(En (Qdg 75) (rgZ size lim n w s v)).get i=some x:=hx
 rcases Cr _ _ _ _ hx' with hm|hm
 ·simp only [rgZ, clZ, List.cons_append, List.nil_append, List.mem_cons, List.not_mem_nil, or_false, Prod.mk.injEq] at hm
  rcases hm with⟨_,rfl⟩|⟨_,rfl⟩|⟨_,rfl⟩|⟨_,rfl⟩|⟨_,rfl⟩|⟨_,rfl⟩|⟨_,rfl⟩|⟨_,rfl⟩|⟨_,rfl⟩|⟨_,rfl⟩|⟨_,rfl⟩|⟨_,rfl⟩|⟨_,rfl⟩|⟨_,rfl⟩|⟨_,rfl⟩|⟨_,rfl⟩|⟨_,rfl⟩<;>simp only[Sc,ScL,and_true]<;>omega
 ·rw[Qbz]at hm;cases hm
theorem Qg9(p hd:Nat)(H:T O)(nx:Nat):vc Pg vE sp0 (some hd) nx 1000 rgA [] (A4 g0 75 [(13,.ptr 13 0),(14,.ptr 14 0),(62,u6 (p:Nat))] H nx []) (kAsg 75 [(13,.ptr 13 0),(14,.ptr 14 0),(15,u6 (p:Nat))] H nx):=by
 refine m_ (p:=An [Bn [Sm (V.ptr 13 0),Sm (V.ptr 14 0),Sm (u6 p)],H=H,nx=nx,([]:List Nat)=[]]) ?_
 (repeat'(first|(with_reducible apply And.intro)|(refine fun(_:True)=>?_)))<;>first|exact aq|skip
 all_goals skip
theorem yld_A(jj:List Int)(cs:List (List Int))(F:Nat->Nat->Nat->Int)(size lim n w:Nat)(q:Nat->Nat×Nat)(s:Nat)(b:BSt)(B:Nat->Nat->Int)(la pa:Nat->Nat)(v p t bt:Nat)(x:Nat->Int)(h:Dk jj cs F size s b B v p t bt x):
  Aa Pg g0 (.yld 15) [u6 (p:Nat)] (Ae .e 0 (ykA jj cs size lim n w q s b B la pa v .ready)) 16 ⟨.bool true,Ae .e 0 (ykC jj cs F size lim n w (upQ q 0 (v,p)) s (upT b v p x) B la pa v .ready 0),17,[4,5,6,8,9,12,15]⟩:=by
 have hB:=Qab (sB s b B) size
 have hB1:=Qab (sB s (upT b v p x) B) size
 have hS:=Qab (scF F (upQ q 0 (v,p))) (0+1)
 have hE:=Qae (upQ q 0 (v,p)) (0+1)
 have hS0:=Qab (scF F q) 0
 have hE0:=Qae q 0
 have hc:=Qag jj
 have hg:=Qap cs
 have hla:=Qai (sL s b la) size
 have hpa:=Qaj (sP s b pa) size
 have jb:=Qai (sL s (upT b v p x) la) size
 have jc:=Qaj (sP s (upT b v p x) pa) size
 have hcall:Aa Pg g0 (.fn 35 []) (i6 (v:Nat)::u6 (p:Nat)::[.ptr 7 0,.ptr 11 0,.ptr 12 0,.ptr 10 0]) (Ae .e 0 (ykA jj cs size lim n w q s b B la pa v .busy)) 16 ⟨i6 0,Ae .e 0 (ykC jj cs F size lim n w (upQ q 0 (v,p)) s (upT b v p x) B la pa v .busy 0),17,[4,5,6,8,9,12]⟩:=
  Aa.frameL (OS:=ykA jj cs size lim n w q s b B la pa v .busy) (OS':=ykC jj cs F size lim n w (upQ q 0 (v,p)) s (upT b v p x) B la pa v .busy 0) [4,5,6,8,9,7,11,12,10] [(4,0),(5,1),(6,2),(8,3),(9,4),(7,5),(11,6),(12,7),(10,8),(16,9)] [0,0,1,0,0,1,0,0,1] [0,0,0,0,0,0,1,1,0,0,1,0,0,1,0] (Qt4 (q:=q) (la:=la) (pa:=pa) h) k_ (by
   refine m_ (p:=Bn [Sm (v:Int),Sm (p:Int),Zz,Zz,Zz,Zz]) ?_
   (repeat'(first|(with_reducible apply And.intro)|(refine fun(_:True)=>?_)))<;>first|exact aq|skip) (by
   refine m_ (p:=let z3:=An [Zz,Sm size,Sm (size-size)];let z0:=nF (sL s b la) size;let z1:=uF (sP s b pa) size;let z2:=bF (sB s b B) size;Bn [An [z2=z2,HfL z2],An [Sm (Ak q 0),HfE (Ak q 0),Zz],An [An [Sm jj.length,Sm (Ab jj)],An [Sm cs.length,Sm (List.map sl cs)],z3,TT 2],An [z0=z0,HfL z0],An [z1=z1,HfL z1],Bn [Zz],Bn [Sm [i6 s],Tt],Bn [Sm [V.bool (Qaw b)],Tt],Bn [z3,z3]]) ?_
   (repeat'(first|(with_reducible apply And.intro)|(refine fun(_:True)=>?_)))
   all_goals first|exact aq|exact hB|exact hB1|exact hS|exact hS0|exact hE|exact hE0|exact hla|exact hpa|exact jb|exact jc|rfl|skip) (by
   refine m_ (p:=Sm (0:Int)) ?_
   (repeat'(first|(with_reducible apply And.intro)|(refine fun(_:True)=>?_)))<;>first|exact aq|skip) (by
   refine m_ (p:=let y4:=An [Zz,Sm size,Sm (size-size)];let z0:=ykA jj cs size lim n w q s b B la pa v .busy;let z1:=upT b v p x;let z2:=some (O.row 87 none [V.fn 35 [V.ptr 7 0,V.ptr 11 0,V.ptr 12 0,V.ptr 10 0]]);let z3:=upQ q 0 (v,p);let z6:=some (O.row 31 none [sl jj,gC cs]);let z8:=some (O.row 43 none [V.nils,V.nils]);let z9:=some (lbO size lim n w s v .busy);let y0:=some (O.row 65 none [V.nilp]);let y1:=some (O.row 3 none [i6 v]);let y2:=some (O.row 38 none [i6 0]);let y3:=some (size-size);let z4:=nF (sL s z1 la) size;let z5:=uF (sP s z1 pa) size;let z7:=bF (sB s z1 B) size;Bn [z0[0]? =z6,z0[0]? =z6,z0[1]? =y0,z0[1]? =y0,z0[2]? =z8,z0[2]? =z8,z0[3]? =y2,z0[3]? =y2,Tt,An [z7=z7,HfL z7],Tt,An [Sm (Ak z3 1),HfE (Ak z3 1),1=1],Tt,Bn [An [Sm jj.length,Sm (Ab jj)],An [Sm cs.length,Sm (List.map sl cs)],y4,Tt,Bn [Zz,1=1]],z0[7]? =some (O.row 65 none [V.ptr 6 0]),Bn [Zz],Tt,An [z4=z4,HfL z4],Tt,An [z5=z5,HfL z5],z0[10]? =some (O.row 43 none [V.sl 8 0 size y3,V.sl 9 0 size y3]),Bn [y4,y4],z0[11]? =some (O.row 3 none [i6 s]),Bn [Sm [i6 s],Tt],Tt,Bn [Sm [V.bool (Qaw z1)],Tt],z0[13]? =z2,z0[13]? =z2,z0[14]? =y1,z0[14]? =y1,z0[15]? =z9,z0[15]? =z9,Tt,An [Sm (bF (scF F z3) 1),TT 18]]) ?_
   (repeat'(first|(with_reducible apply And.intro)|(refine fun(_:True)=>?_)))
   all_goals first|exact aq|exact hB|exact hB1|exact hS|exact hS0|exact hE|exact hE0|exact hla|exact hpa|exact jb|exact jc|rfl|skip)
 have hcall':=Aa.caps (ars:=[i6 (v:Nat),u6 (p:Nat)]) (caps:=[.ptr 7 0,.ptr 11 0,.ptr 12 0,.ptr 10 0]) hcall
 refine Aa.yldN vE_ok Af Qaa (n:=75) (fn0:=0) (tm:=rgT size lim n w s v) (ps:=[62]) (assign:=rgA) (body:=rgB) (hs0:=[]) (hs1:=[(66,.call ⟨i6 0,Ae .e 0 (ykC jj cs F size lim n w (upQ q 0 (v,p)) s (upT b v p x) B la pa v .busy 0),17,[4,5,6,8,9,12]⟩)]) (m0:=1000) (m1:=1000) (sl0:=[(13,.ptr 13 0),(14,.ptr 14 0),(62,u6 (p:Nat))]) (sl1:=[(13,.ptr 13 0),(14,.ptr 14 0),(15,u6 (p:Nat))]) k_ rfl rfl rfl ⟨rfl,rfl,rfl,trivial⟩ (Qg9 p 15) ?_ d_ (Qje (os0:=ykA jj cs size lim n w q s b B la pa v .ready) (os1:=ykC jj cs F size lim n w (upQ q 0 (v,p)) s (upT b v p x) B la pa v .ready 0) (by simp) (fun i hi hno=>?_)) k_
 ·refine Eq.mp (by kernel_rfl : (let z0 := Ae T.e 0 (ykC jj cs F size lim n w (upQ q 0 (v, p)) s (upT b v p x) B la pa v .busy 0); let z1 := O.loop .busy none 0 (rgT size lim n w s v) [62] rgA rgB; An [Aa Pg g0 (V.fn 35 [V.ptr 7 0, V.ptr 11 0, V.ptr 12 0, V.ptr 10 0]) [i6 ↑v, u6 ↑p] (pt (Ae T.e 0 (ykA jj cs size lim n w q s b B la pa v .ready)) 15 z1) 16 (CR.mk (i6 0) z0 17 [4, 5, 6, 8, 9, 12]), Tt, z0 = pt (Ae T.e 0 (ykC jj cs F size lim n w (upQ q 0 (v, p)) s (upT b v p x) B la pa v .ready 0)) 15 z1, 17 = 17, ∀ (g : Nat), List.Mem g ([4, 5, 6, 8, 9, 12] ++ [15]) -> List.Mem g [4, 5, 6, 8, 9, 12, 15]]) = _) ?_
  exact a_
 ·rcases(show i=0\/i=1\/i=2\/i=3\/i=4\/i=5\/i=6\/i=7\/i=8\/i=9\/i=10\/i=11\/i=12\/i=13\/i=14\/i=15 by simp at hi;omega)with rfl|rfl|rfl|rfl|rfl|rfl|rfl|rfl|rfl|rfl|rfl|rfl|rfl|rfl|rfl|rfl<;>first|rfl|(simp at hno)
theorem yld_Bh(jj:List Int)(cs:List (List Int))(F:Nat->Nat->Nat->Int)(size lim n w:Nat)(q:Nat->Nat×Nat)(s:Nat)(b:BSt)(B:Nat->Nat->Int)(la pa:Nat->Nat)(v p t bt:Nat)(x:Nat->Int)(h:Dk jj cs F size s b B v p t bt x)(k j:Nat)(hj:j<k+1)(hq:q j=(v,p))(hf:Bg [true,true] [i6 (v:Nat),u6 (p:Nat)] (Ak q (k+1)) 0=some (some (j,i6 (j:Nat)))):
  Aa Pg g0 (.yld 16) [u6 (p:Nat)] (Ae .e 0 (ykB jj cs F size lim n w q s b B la pa v .ready k)) 17 ⟨.bool true,Ae .e 0 (ykB jj cs F size lim n w q s (upT b v p x) B la pa v .ready k),17,[4,5,6,8,9,12,16]⟩:=by
 have hB:=Qab (sB s b B) size
 have hB1:=Qab (sB s (upT b v p x) B) size
 have hS:=Qab (scF F q) (k+1)
 have hE:=Qae q (k+1)
 have hS0:=Qab (scF F q) (k+1)
 have hE0:=Qae q (k+1)
 have hc:=Qag jj
 have hg:=Qap cs
 have hla:=Qai (sL s b la) size
 have hpa:=Qaj (sP s b pa) size
 have jb:=Qai (sL s (upT b v p x) la) size
 have jc:=Qaj (sP s (upT b v p x) pa) size
 have hcall:Aa Pg g0 (.fn 35 []) (i6 (v:Nat)::u6 (p:Nat)::[.ptr 7 0,.ptr 11 0,.ptr 12 0,.ptr 10 0]) (Ae .e 0 (ykB jj cs F size lim n w q s b B la pa v .busy k)) 17 ⟨i6 0,Ae .e 0 (ykB jj cs F size lim n w q s (upT b v p x) B la pa v .busy k),17,[4,5,6,8,9,12]⟩:=
  Aa.frameL (OS:=ykB jj cs F size lim n w q s b B la pa v .busy k) (OS':=ykB jj cs F size lim n w q s (upT b v p x) B la pa v .busy k) [4,5,6,8,9,7,11,12,10,15] [(4,0),(5,1),(6,2),(8,3),(9,4),(7,5),(11,6),(12,7),(10,8),(15,9)] [0,0,1,0,0,1,0,0,1] [0,0,0,0,0,0,1,1,0,0,1,0,0,1,0] (Qm1 (la:=la) (pa:=pa) h hj hq hf) k_ (by
   refine m_ (p:=Bn [Sm (v:Int),Sm (p:Int),Zz,Zz,Zz,Zz]) ?_
   (repeat'(first|(with_reducible apply And.intro)|(refine fun(_:True)=>?_)))<;>first|exact aq|skip) (by
   refine m_ (p:=let z5:=An [Zz,Sm size,Sm (size-size)];let z0:=bF (scF F q) (k+1);let z1:=nF (sL s b la) size;let z2:=uF (sP s b pa) size;let z3:=bF (sB s b B) size;let z4:=Ak q (k+1);Bn [An [z3=z3,HfL z3],An [z4=z4,HfE z4,Sm (k+1)],Bn [An [Sm jj.length,Sm (Ab jj)],An [Sm cs.length,Sm (List.map sl cs)],z5,Tt,Bn [Zz,Sm (k+1)]],An [z1=z1,HfL z1],An [z2=z2,HfL z2],Bn [Zz],Bn [Sm [i6 s],Tt],Bn [Sm [V.bool (Qaw b)],Tt],Bn [z5,z5],An [z0=z0,HfL z0]]) ?_
   (repeat'(first|(with_reducible apply And.intro)|(refine fun(_:True)=>?_)))
   all_goals first|exact aq|exact hB|exact hB1|exact hS|exact hS0|exact hE|exact hE0|exact hla|exact hpa|exact jb|exact jc|rfl|skip) (by
   refine m_ (p:=Sm (0:Int)) ?_
   (repeat'(first|(with_reducible apply And.intro)|(refine fun(_:True)=>?_)))<;>first|exact aq|skip) (by
   refine m_ (p:=let y5:=An [Zz,Sm size,Sm (size-size)];let z0:=ykB jj cs F size lim n w q s b B la pa v .busy k;let z1:=upT b v p x;let z2:=some (O.row 87 none [V.fn 35 [V.ptr 7 0,V.ptr 11 0,V.ptr 12 0,V.ptr 10 0]]);let z5:=bF (scF F q) (k+1);let z6:=some (O.row 31 none [sl jj,gC cs]);let z8:=some (O.row 43 none [V.nils,V.nils]);let z9:=some (lbO size lim n w s v .busy);let y0:=some (O.row 65 none [V.nilp]);let y1:=some (O.row 3 none [i6 v]);let y2:=Ak q (k+1);let y3:=some (O.row 38 none [i6 0]);let y4:=some (size-size);let z3:=nF (sL s z1 la) size;let z4:=uF (sP s z1 pa) size;let z7:=bF (sB s z1 B) size;Bn [z0[0]? =z6,z0[0]? =z6,z0[1]? =y0,z0[1]? =y0,z0[2]? =z8,z0[2]? =z8,z0[3]? =y3,z0[3]? =y3,Tt,An [z7=z7,HfL z7],Tt,An [y2=y2,HfE y2,Sm (k+1)],Tt,Bn [An [Sm jj.length,Sm (Ab jj)],An [Sm cs.length,Sm (List.map sl cs)],y5,Tt,Bn [Zz,Sm (k+1)]],z0[7]? =some (O.row 65 none [V.ptr 6 0]),Bn [Zz],Tt,An [z3=z3,HfL z3],Tt,An [z4=z4,HfL z4],z0[10]? =some (O.row 43 none [V.sl 8 0 size y4,V.sl 9 0 size y4]),Bn [y5,y5],z0[11]? =some (O.row 3 none [i6 s]),Bn [Sm [i6 s],Tt],Tt,Bn [Sm [V.bool (Qaw z1)],Tt],z0[13]? =z2,z0[13]? =z2,z0[14]? =y1,z0[14]? =y1,z0[15]? =some (scO F q k),An [z5=z5,HfL z5],z0[16]? =z9,z0[16]? =z9]) ?_
   (repeat'(first|(with_reducible apply And.intro)|(refine fun(_:True)=>?_)))
   all_goals first|exact aq|exact hB|exact hB1|exact hS|exact hS0|exact hE|exact hE0|exact hla|exact hpa|exact jb|exact jc|rfl|skip)
 have hcall':=Aa.caps (ars:=[i6 (v:Nat),u6 (p:Nat)]) (caps:=[.ptr 7 0,.ptr 11 0,.ptr 12 0,.ptr 10 0]) hcall
 refine Aa.yldN vE_ok Af Qaa (n:=75) (fn0:=0) (tm:=rgT size lim n w s v) (ps:=[62]) (assign:=rgA) (body:=rgB) (hs0:=[]) (hs1:=[(66,.call ⟨i6 0,Ae .e 0 (ykB jj cs F size lim n w q s (upT b v p x) B la pa v .busy k),17,[4,5,6,8,9,12]⟩)]) (m0:=1000) (m1:=1000) (sl0:=[(13,.ptr 13 0),(14,.ptr 14 0),(62,u6 (p:Nat))]) (sl1:=[(13,.ptr 13 0),(14,.ptr 14 0),(15,u6 (p:Nat))]) k_ rfl rfl rfl ⟨rfl,rfl,rfl,trivial⟩ (Qg9 p 16) ?_ d_ (Qje (os0:=ykB jj cs F size lim n w q s b B la pa v .ready k) (os1:=ykB jj cs F size lim n w q s (upT b v p x) B la pa v .ready k) (by simp) (fun i hi hno=>?_)) k_
 ·refine Eq.mp (by kernel_rfl : (let z0 := Ae T.e 0 (ykB jj cs F size lim n w q s (upT b v p x) B la pa v .busy k); let z1 := O.loop .busy none 0 (rgT size lim n w s v) [62] rgA rgB; An [Aa Pg g0 (V.fn 35 [V.ptr 7 0, V.ptr 11 0, V.ptr 12 0, V.ptr 10 0]) [i6 ↑v, u6 ↑p] (pt (Ae T.e 0 (ykB jj cs F size lim n w q s b B la pa v .ready k)) 16 z1) 17 (CR.mk (i6 0) z0 17 [4, 5, 6, 8, 9, 12]), Tt, z0 = pt (Ae T.e 0 (ykB jj cs F size lim n w q s (upT b v p x) B la pa v .ready k)) 16 z1, 17 = 17, ∀ (g : Nat), List.Mem g ([4, 5, 6, 8, 9, 12] ++ [16]) -> List.Mem g [4, 5, 6, 8, 9, 12, 16]]) = _) ?_
  exact a_
 ·rcases(show i=0\/i=1\/i=2\/i=3\/i=4\/i=5\/i=6\/i=7\/i=8\/i=9\/i=10\/i=11\/i=12\/i=13\/i=14\/i=15\/i=16 by simp at hi;omega)with rfl|rfl|rfl|rfl|rfl|rfl|rfl|rfl|rfl|rfl|rfl|rfl|rfl|rfl|rfl|rfl|rfl<;>first|rfl|(simp at hno)
theorem yld_Bm(jj:List Int)(cs:List (List Int))(F:Nat->Nat->Nat->Int)(size lim n w:Nat)(q:Nat->Nat×Nat)(s:Nat)(b:BSt)(B:Nat->Nat->Int)(la pa:Nat->Nat)(v p t bt:Nat)(x:Nat->Int)(h:Dk jj cs F size s b B v p t bt x)(k:Nat)(hk:k<=1000000)(hf:Bg [true,true] [i6 (v:Nat),u6 (p:Nat)] (Ak q (k+1)) 0=some none):
  Aa Pg g0 (.yld 16) [u6 (p:Nat)] (Ae .e 0 (ykB jj cs F size lim n w q s b B la pa v .ready k)) 17 ⟨.bool true,Ae .e 0 (ykD jj cs F size lim n w (upQ q (k+1) (v,p)) s (upT b v p x) B la pa v .ready (k+1)),18,[4,5,6,8,9,12,15,16]⟩:=by
 have hB:=Qab (sB s b B) size
 have hB1:=Qab (sB s (upT b v p x) B) size
 have hS:=Qab (scF F (upQ q (k+1) (v,p))) (k+1+1)
 have hE:=Qae (upQ q (k+1) (v,p)) (k+1+1)
 have hS0:=Qab (scF F q) (k+1)
 have hE0:=Qae q (k+1)
 have hc:=Qag jj
 have hg:=Qap cs
 have hla:=Qai (sL s b la) size
 have hpa:=Qaj (sP s b pa) size
 have jb:=Qai (sL s (upT b v p x) la) size
 have jc:=Qaj (sP s (upT b v p x) pa) size
 have hcall:Aa Pg g0 (.fn 35 []) (i6 (v:Nat)::u6 (p:Nat)::[.ptr 7 0,.ptr 11 0,.ptr 12 0,.ptr 10 0]) (Ae .e 0 (ykB jj cs F size lim n w q s b B la pa v .busy k)) 17 ⟨i6 0,Ae .e 0 (ykD jj cs F size lim n w (upQ q (k+1) (v,p)) s (upT b v p x) B la pa v .busy (k+1)),18,[4,5,6,8,9,12,15]⟩:=
  Aa.frameL (OS:=ykB jj cs F size lim n w q s b B la pa v .busy k) (OS':=ykD jj cs F size lim n w (upQ q (k+1) (v,p)) s (upT b v p x) B la pa v .busy (k+1)) [4,5,6,8,9,7,11,12,10,15] [(4,0),(5,1),(6,2),(8,3),(9,4),(7,5),(11,6),(12,7),(10,8),(15,9),(17,10)] [0,0,1,0,0,1,0,0,1] [0,0,0,0,0,0,1,1,0,0,1,0,0,1,0] (Qhi (q:=q) (la:=la) (pa:=pa) h hk hf) k_ (by
   refine m_ (p:=Bn [Sm (v:Int),Sm (p:Int),Zz,Zz,Zz,Zz]) ?_
   (repeat'(first|(with_reducible apply And.intro)|(refine fun(_:True)=>?_)))<;>first|exact aq|skip) (by
   refine m_ (p:=let z5:=An [Zz,Sm size,Sm (size-size)];let z0:=bF (scF F q) (k+1);let z1:=nF (sL s b la) size;let z2:=uF (sP s b pa) size;let z3:=bF (sB s b B) size;let z4:=Ak q (k+1);Bn [An [z3=z3,HfL z3],An [z4=z4,HfE z4,Sm (k+1)],Bn [An [Sm jj.length,Sm (Ab jj)],An [Sm cs.length,Sm (List.map sl cs)],z5,Tt,Bn [Zz,Sm (k+1)]],An [z1=z1,HfL z1],An [z2=z2,HfL z2],Bn [Zz],Bn [Sm [i6 s],Tt],Bn [Sm [V.bool (Qaw b)],Tt],Bn [z5,z5],An [z0=z0,HfL z0]]) ?_
   (repeat'(first|(with_reducible apply And.intro)|(refine fun(_:True)=>?_)))
   all_goals first|exact aq|exact hB|exact hB1|exact hS|exact hS0|exact hE|exact hE0|exact hla|exact hpa|exact jb|exact jc|rfl|skip) (by
   refine m_ (p:=Sm (0:Int)) ?_
   (repeat'(first|(with_reducible apply And.intro)|(refine fun(_:True)=>?_)))<;>first|exact aq|skip) (by
   refine m_ (p:=let y6:=An [Zz,Sm size,Sm (size-size)];let z0:=ykB jj cs F size lim n w q s b B la pa v .busy k;let z1:=upT b v p x;let z2:=upQ q (k+1) (v,p);let z3:=some (O.row 87 none [V.fn 35 [V.ptr 7 0,V.ptr 11 0,V.ptr 12 0,V.ptr 10 0]]);let z7:=some (O.row 31 none [sl jj,gC cs]);let y0:=some (O.row 43 none [V.nils,V.nils]);let y1:=some (lbO size lim n w s v .busy);let y2:=some (O.row 65 none [V.nilp]);let y3:=some (O.row 3 none [i6 v]);let y4:=some (O.row 38 none [i6 0]);let y5:=some (size-size);let z4:=bF (scF F z2) (k+1+1);let z5:=nF (sL s z1 la) size;let z6:=uF (sP s z1 pa) size;let z8:=bF (sB s z1 B) size;let z9:=Ak z2 (k+1+1);Bn [z0[0]? =z7,z0[0]? =z7,z0[1]? =y2,z0[1]? =y2,z0[2]? =y0,z0[2]? =y0,z0[3]? =y4,z0[3]? =y4,Tt,An [z8=z8,HfL z8],Tt,An [z9=z9,HfE z9,Sm (k+1+1)],Tt,Bn [An [Sm jj.length,Sm (Ab jj)],An [Sm cs.length,Sm (List.map sl cs)],y6,Tt,Bn [Zz,Sm (Nat.succ k+1)]],z0[7]? =some (O.row 65 none [V.ptr 6 0]),Bn [Zz],Tt,An [z5=z5,HfL z5],Tt,An [z6=z6,HfL z6],z0[10]? =some (O.row 43 none [V.sl 8 0 size y5,V.sl 9 0 size y5]),Bn [y6,y6],z0[11]? =some (O.row 3 none [i6 s]),Bn [Sm [i6 s],Tt],Tt,Bn [Sm [V.bool (Qaw z1)],Tt],z0[13]? =z3,z0[13]? =z3,z0[14]? =y3,z0[14]? =y3,Tt,Tt,z0[16]? =y1,z0[16]? =y1,Tt,An [z4=z4,HfL z4]]) ?_
   (repeat'(first|(with_reducible apply And.intro)|(refine fun(_:True)=>?_)))
   all_goals first|exact aq|exact hB|exact hB1|exact hS|exact hS0|exact hE|exact hE0|exact hla|exact hpa|exact jb|exact jc|rfl|skip)
 have hcall':=Aa.caps (ars:=[i6 (v:Nat),u6 (p:Nat)]) (caps:=[.ptr 7 0,.ptr 11 0,.ptr 12 0,.ptr 10 0]) hcall
 refine Aa.yldN vE_ok Af Qaa (n:=75) (fn0:=0) (tm:=rgT size lim n w s v) (ps:=[62]) (assign:=rgA) (body:=rgB) (hs0:=[]) (hs1:=[(66,.call ⟨i6 0,Ae .e 0 (ykD jj cs F size lim n w (upQ q (k+1) (v,p)) s (upT b v p x) B la pa v .busy (k+1)),18,[4,5,6,8,9,12,15]⟩)]) (m0:=1000) (m1:=1000) (sl0:=[(13,.ptr 13 0),(14,.ptr 14 0),(62,u6 (p:Nat))]) (sl1:=[(13,.ptr 13 0),(14,.ptr 14 0),(15,u6 (p:Nat))]) k_ rfl rfl rfl ⟨rfl,rfl,rfl,trivial⟩ (Qg9 p 16) ?_ d_ (Qje (os0:=ykB jj cs F size lim n w q s b B la pa v .ready k) (os1:=ykD jj cs F size lim n w (upQ q (k+1) (v,p)) s (upT b v p x) B la pa v .ready (k+1)) (by simp) (fun i hi hno=>?_)) k_
 ·refine Eq.mp (by kernel_rfl : (let z1 := O.loop .busy none 0 (rgT size lim n w s v) [62] rgA rgB; let z2 := upQ q (k + 1) (v, p); let z3 := [4, 5, 6, 8, 9, 12, 15]; let z0 := Ae T.e 0 (ykD jj cs F size lim n w z2 s (upT b v p x) B la pa v .busy (k + 1)); An [Aa Pg g0 (V.fn 35 [V.ptr 7 0, V.ptr 11 0, V.ptr 12 0, V.ptr 10 0]) [i6 ↑v, u6 ↑p] (pt (Ae T.e 0 (ykB jj cs F size lim n w q s b B la pa v .ready k)) 16 z1) 17 (CR.mk (i6 0) z0 18 z3), Tt, z0 = pt (Ae T.e 0 (ykD jj cs F size lim n w z2 s (upT b v p x) B la pa v .ready (k + 1))) 16 z1, 18 = 18, ∀ (g : Nat), List.Mem g (z3 ++ [16]) -> List.Mem g [4, 5, 6, 8, 9, 12, 15, 16]]) = _) ?_
  exact a_
 ·rcases(show i=0\/i=1\/i=2\/i=3\/i=4\/i=5\/i=6\/i=7\/i=8\/i=9\/i=10\/i=11\/i=12\/i=13\/i=14\/i=15\/i=16 by simp at hi;omega)with rfl|rfl|rfl|rfl|rfl|rfl|rfl|rfl|rfl|rfl|rfl|rfl|rfl|rfl|rfl|rfl|rfl<;>first|rfl|(simp at hno)
theorem yld_Ch(jj:List Int)(cs:List (List Int))(F:Nat->Nat->Nat->Int)(size lim n w:Nat)(q:Nat->Nat×Nat)(s:Nat)(b:BSt)(B:Nat->Nat->Int)(la pa:Nat->Nat)(v p t bt:Nat)(x:Nat->Int)(h:Dk jj cs F size s b B v p t bt x)(k j:Nat)(hj:j<k+1)(hq:q j=(v,p))(hf:Bg [true,true] [i6 (v:Nat),u6 (p:Nat)] (Ak q (k+1)) 0=some (some (j,i6 (j:Nat)))):
  Aa Pg g0 (.yld 15) [u6 (p:Nat)] (Ae .e 0 (ykC jj cs F size lim n w q s b B la pa v .ready k)) 17 ⟨.bool true,Ae .e 0 (ykC jj cs F size lim n w q s (upT b v p x) B la pa v .ready k),17,[4,5,6,8,9,12,15]⟩:=by
 have hB:=Qab (sB s b B) size
 have hB1:=Qab (sB s (upT b v p x) B) size
 have hS:=Qab (scF F q) (k+1)
 have hE:=Qae q (k+1)
 have hS0:=Qab (scF F q) (k+1)
 have hE0:=Qae q (k+1)
 have hc:=Qag jj
 have hg:=Qap cs
 have hla:=Qai (sL s b la) size
 have hpa:=Qaj (sP s b pa) size
 have jb:=Qai (sL s (upT b v p x) la) size
 have jc:=Qaj (sP s (upT b v p x) pa) size
 have hcall:Aa Pg g0 (.fn 35 []) (i6 (v:Nat)::u6 (p:Nat)::[.ptr 7 0,.ptr 11 0,.ptr 12 0,.ptr 10 0]) (Ae .e 0 (ykC jj cs F size lim n w q s b B la pa v .busy k)) 17 ⟨i6 0,Ae .e 0 (ykC jj cs F size lim n w q s (upT b v p x) B la pa v .busy k),17,[4,5,6,8,9,12]⟩:=
  Aa.frameL (OS:=ykC jj cs F size lim n w q s b B la pa v .busy k) (OS':=ykC jj cs F size lim n w q s (upT b v p x) B la pa v .busy k) [4,5,6,8,9,7,11,12,10,16] [(4,0),(5,1),(6,2),(8,3),(9,4),(7,5),(11,6),(12,7),(10,8),(16,9)] [0,0,1,0,0,1,0,0,1] [0,0,0,0,0,0,1,1,0,0,1,0,0,1,0] (Qm1 (la:=la) (pa:=pa) h hj hq hf) k_ (by
   refine m_ (p:=Bn [Sm (v:Int),Sm (p:Int),Zz,Zz,Zz,Zz]) ?_
   (repeat'(first|(with_reducible apply And.intro)|(refine fun(_:True)=>?_)))<;>first|exact aq|skip) (by
   refine m_ (p:=let z5:=An [Zz,Sm size,Sm (size-size)];let z0:=bF (scF F q) (k+1);let z1:=nF (sL s b la) size;let z2:=uF (sP s b pa) size;let z3:=bF (sB s b B) size;let z4:=Ak q (k+1);Bn [An [z3=z3,HfL z3],An [z4=z4,HfE z4,Sm (k+1)],Bn [An [Sm jj.length,Sm (Ab jj)],An [Sm cs.length,Sm (List.map sl cs)],z5,Tt,Bn [Zz,Sm (k+1)]],An [z1=z1,HfL z1],An [z2=z2,HfL z2],Bn [Zz],Bn [Sm [i6 s],Tt],Bn [Sm [V.bool (Qaw b)],Tt],Bn [z5,z5],An [z0=z0,HfL z0]]) ?_
   (repeat'(first|(with_reducible apply And.intro)|(refine fun(_:True)=>?_)))
   all_goals first|exact aq|exact hB|exact hB1|exact hS|exact hS0|exact hE|exact hE0|exact hla|exact hpa|exact jb|exact jc|rfl|skip) (by
   refine m_ (p:=Sm (0:Int)) ?_
   (repeat'(first|(with_reducible apply And.intro)|(refine fun(_:True)=>?_)))<;>first|exact aq|skip) (by
   refine m_ (p:=let y5:=An [Zz,Sm size,Sm (size-size)];let z0:=ykC jj cs F size lim n w q s b B la pa v .busy k;let z1:=upT b v p x;let z2:=some (O.row 87 none [V.fn 35 [V.ptr 7 0,V.ptr 11 0,V.ptr 12 0,V.ptr 10 0]]);let z5:=bF (scF F q) (k+1);let z6:=some (O.row 31 none [sl jj,gC cs]);let z8:=some (O.row 43 none [V.nils,V.nils]);let z9:=some (lbO size lim n w s v .busy);let y0:=some (O.row 65 none [V.nilp]);let y1:=some (O.row 3 none [i6 v]);let y2:=Ak q (k+1);let y3:=some (O.row 38 none [i6 0]);let y4:=some (size-size);let z3:=nF (sL s z1 la) size;let z4:=uF (sP s z1 pa) size;let z7:=bF (sB s z1 B) size;Bn [z0[0]? =z6,z0[0]? =z6,z0[1]? =y0,z0[1]? =y0,z0[2]? =z8,z0[2]? =z8,z0[3]? =y3,z0[3]? =y3,Tt,An [z7=z7,HfL z7],Tt,An [y2=y2,HfE y2,Sm (k+1)],Tt,Bn [An [Sm jj.length,Sm (Ab jj)],An [Sm cs.length,Sm (List.map sl cs)],y5,Tt,Bn [Zz,Sm (k+1)]],z0[7]? =some (O.row 65 none [V.ptr 6 0]),Bn [Zz],Tt,An [z3=z3,HfL z3],Tt,An [z4=z4,HfL z4],z0[10]? =some (O.row 43 none [V.sl 8 0 size y4,V.sl 9 0 size y4]),Bn [y5,y5],z0[11]? =some (O.row 3 none [i6 s]),Bn [Sm [i6 s],Tt],Tt,Bn [Sm [V.bool (Qaw z1)],Tt],z0[13]? =z2,z0[13]? =z2,z0[14]? =y1,z0[14]? =y1,z0[15]? =z9,z0[15]? =z9,z0[16]? =some (scO F q k),An [z5=z5,HfL z5]]) ?_
   (repeat'(first|(with_reducible apply And.intro)|(refine fun(_:True)=>?_)))
   all_goals first|exact aq|exact hB|exact hB1|exact hS|exact hS0|exact hE|exact hE0|exact hla|exact hpa|exact jb|exact jc|rfl|skip)
 have hcall':=Aa.caps (ars:=[i6 (v:Nat),u6 (p:Nat)]) (caps:=[.ptr 7 0,.ptr 11 0,.ptr 12 0,.ptr 10 0]) hcall
 refine Aa.yldN vE_ok Af Qaa (n:=75) (fn0:=0) (tm:=rgT size lim n w s v) (ps:=[62]) (assign:=rgA) (body:=rgB) (hs0:=[]) (hs1:=[(66,.call ⟨i6 0,Ae .e 0 (ykC jj cs F size lim n w q s (upT b v p x) B la pa v .busy k),17,[4,5,6,8,9,12]⟩)]) (m0:=1000) (m1:=1000) (sl0:=[(13,.ptr 13 0),(14,.ptr 14 0),(62,u6 (p:Nat))]) (sl1:=[(13,.ptr 13 0),(14,.ptr 14 0),(15,u6 (p:Nat))]) k_ rfl rfl rfl ⟨rfl,rfl,rfl,trivial⟩ (Qg9 p 15) ?_ d_ (Qje (os0:=ykC jj cs F size lim n w q s b B la pa v .ready k) (os1:=ykC jj cs F size lim n w q s (upT b v p x) B la pa v .ready k) (by simp) (fun i hi hno=>?_)) k_
 ·refine Eq.mp (by kernel_rfl : (let z0 := Ae T.e 0 (ykC jj cs F size lim n w q s (upT b v p x) B la pa v .busy k); let z1 := O.loop .busy none 0 (rgT size lim n w s v) [62] rgA rgB; An [Aa Pg g0 (V.fn 35 [V.ptr 7 0, V.ptr 11 0, V.ptr 12 0, V.ptr 10 0]) [i6 ↑v, u6 ↑p] (pt (Ae T.e 0 (ykC jj cs F size lim n w q s b B la pa v .ready k)) 15 z1) 17 (CR.mk (i6 0) z0 17 [4, 5, 6, 8, 9, 12]), Tt, z0 = pt (Ae T.e 0 (ykC jj cs F size lim n w q s (upT b v p x) B la pa v .ready k)) 15 z1, 17 = 17, ∀ (g : Nat), List.Mem g ([4, 5, 6, 8, 9, 12] ++ [15]) -> List.Mem g [4, 5, 6, 8, 9, 12, 15]]) = _) ?_
  exact a_
 ·rcases(show i=0\/i=1\/i=2\/i=3\/i=4\/i=5\/i=6\/i=7\/i=8\/i=9\/i=10\/i=11\/i=12\/i=13\/i=14\/i=15\/i=16 by simp at hi;omega)with rfl|rfl|rfl|rfl|rfl|rfl|rfl|rfl|rfl|rfl|rfl|rfl|rfl|rfl|rfl|rfl|rfl<;>first|rfl|(simp at hno)
theorem yld_Cm(jj:List Int)(cs:List (List Int))(F:Nat->Nat->Nat->Int)(size lim n w:Nat)(q:Nat->Nat×Nat)(s:Nat)(b:BSt)(B:Nat->Nat->Int)(la pa:Nat->Nat)(v p t bt:Nat)(x:Nat->Int)(h:Dk jj cs F size s b B v p t bt x)(k:Nat)(hk:k<=1000000)(hf:Bg [true,true] [i6 (v:Nat),u6 (p:Nat)] (Ak q (k+1)) 0=some none):
  Aa Pg g0 (.yld 15) [u6 (p:Nat)] (Ae .e 0 (ykC jj cs F size lim n w q s b B la pa v .ready k)) 17 ⟨.bool true,Ae .e 0 (Fc jj cs F size lim n w (upQ q (k+1) (v,p)) s (upT b v p x) B la pa v .ready (k+1)),18,[4,5,6,8,9,12,16,15]⟩:=by
 have hB:=Qab (sB s b B) size
 have hB1:=Qab (sB s (upT b v p x) B) size
 have hS:=Qab (scF F (upQ q (k+1) (v,p))) (k+1+1)
 have hE:=Qae (upQ q (k+1) (v,p)) (k+1+1)
 have hS0:=Qab (scF F q) (k+1)
 have hE0:=Qae q (k+1)
 have hc:=Qag jj
 have hg:=Qap cs
 have hla:=Qai (sL s b la) size
 have hpa:=Qaj (sP s b pa) size
 have jb:=Qai (sL s (upT b v p x) la) size
 have jc:=Qaj (sP s (upT b v p x) pa) size
 have hcall:Aa Pg g0 (.fn 35 []) (i6 (v:Nat)::u6 (p:Nat)::[.ptr 7 0,.ptr 11 0,.ptr 12 0,.ptr 10 0]) (Ae .e 0 (ykC jj cs F size lim n w q s b B la pa v .busy k)) 17 ⟨i6 0,Ae .e 0 (Fc jj cs F size lim n w (upQ q (k+1) (v,p)) s (upT b v p x) B la pa v .busy (k+1)),18,[4,5,6,8,9,12,16]⟩:=
  Aa.frameL (OS:=ykC jj cs F size lim n w q s b B la pa v .busy k) (OS':=Fc jj cs F size lim n w (upQ q (k+1) (v,p)) s (upT b v p x) B la pa v .busy (k+1)) [4,5,6,8,9,7,11,12,10,16] [(4,0),(5,1),(6,2),(8,3),(9,4),(7,5),(11,6),(12,7),(10,8),(16,9),(17,10)] [0,0,1,0,0,1,0,0,1] [0,0,0,0,0,0,1,1,0,0,1,0,0,1,0] (Qhi (q:=q) (la:=la) (pa:=pa) h hk hf) k_ (by
   refine m_ (p:=Bn [Sm (v:Int),Sm (p:Int),Zz,Zz,Zz,Zz]) ?_
   (repeat'(first|(with_reducible apply And.intro)|(refine fun(_:True)=>?_)))<;>first|exact aq|skip) (by
   refine m_ (p:=let z5:=An [Zz,Sm size,Sm (size-size)];let z0:=bF (scF F q) (k+1);let z1:=nF (sL s b la) size;let z2:=uF (sP s b pa) size;let z3:=bF (sB s b B) size;let z4:=Ak q (k+1);Bn [An [z3=z3,HfL z3],An [z4=z4,HfE z4,Sm (k+1)],Bn [An [Sm jj.length,Sm (Ab jj)],An [Sm cs.length,Sm (List.map sl cs)],z5,Tt,Bn [Zz,Sm (k+1)]],An [z1=z1,HfL z1],An [z2=z2,HfL z2],Bn [Zz],Bn [Sm [i6 s],Tt],Bn [Sm [V.bool (Qaw b)],Tt],Bn [z5,z5],An [z0=z0,HfL z0]]) ?_
   (repeat'(first|(with_reducible apply And.intro)|(refine fun(_:True)=>?_)))
   all_goals first|exact aq|exact hB|exact hB1|exact hS|exact hS0|exact hE|exact hE0|exact hla|exact hpa|exact jb|exact jc|rfl|skip) (by
   refine m_ (p:=Sm (0:Int)) ?_
   (repeat'(first|(with_reducible apply And.intro)|(refine fun(_:True)=>?_)))<;>first|exact aq|skip) (by
   refine m_ (p:=let y6:=An [Zz,Sm size,Sm (size-size)];let z0:=ykC jj cs F size lim n w q s b B la pa v .busy k;let z1:=upT b v p x;let z2:=upQ q (k+1) (v,p);let z3:=some (O.row 87 none [V.fn 35 [V.ptr 7 0,V.ptr 11 0,V.ptr 12 0,V.ptr 10 0]]);let z7:=some (O.row 31 none [sl jj,gC cs]);let y0:=some (O.row 43 none [V.nils,V.nils]);let y1:=some (lbO size lim n w s v .busy);let y2:=some (O.row 65 none [V.nilp]);let y3:=some (O.row 3 none [i6 v]);let y4:=some (O.row 38 none [i6 0]);let y5:=some (size-size);let z4:=bF (scF F z2) (k+1+1);let z5:=nF (sL s z1 la) size;let z6:=uF (sP s z1 pa) size;let z8:=bF (sB s z1 B) size;let z9:=Ak z2 (k+1+1);Bn [z0[0]? =z7,z0[0]? =z7,z0[1]? =y2,z0[1]? =y2,z0[2]? =y0,z0[2]? =y0,z0[3]? =y4,z0[3]? =y4,Tt,An [z8=z8,HfL z8],Tt,An [z9=z9,HfE z9,Sm (k+1+1)],Tt,Bn [An [Sm jj.length,Sm (Ab jj)],An [Sm cs.length,Sm (List.map sl cs)],y6,Tt,Bn [Zz,Sm (Nat.succ k+1)]],z0[7]? =some (O.row 65 none [V.ptr 6 0]),Bn [Zz],Tt,An [z5=z5,HfL z5],Tt,An [z6=z6,HfL z6],z0[10]? =some (O.row 43 none [V.sl 8 0 size y5,V.sl 9 0 size y5]),Bn [y6,y6],z0[11]? =some (O.row 3 none [i6 s]),Bn [Sm [i6 s],Tt],Tt,Bn [Sm [V.bool (Qaw z1)],Tt],z0[13]? =z3,z0[13]? =z3,z0[14]? =y3,z0[14]? =y3,z0[15]? =y1,z0[15]? =y1,Tt,Tt,Tt,An [z4=z4,HfL z4]]) ?_
   (repeat'(first|(with_reducible apply And.intro)|(refine fun(_:True)=>?_)))
   all_goals first|exact aq|exact hB|exact hB1|exact hS|exact hS0|exact hE|exact hE0|exact hla|exact hpa|exact jb|exact jc|rfl|skip)
 have hcall':=Aa.caps (ars:=[i6 (v:Nat),u6 (p:Nat)]) (caps:=[.ptr 7 0,.ptr 11 0,.ptr 12 0,.ptr 10 0]) hcall
 refine Aa.yldN vE_ok Af Qaa (n:=75) (fn0:=0) (tm:=rgT size lim n w s v) (ps:=[62]) (assign:=rgA) (body:=rgB) (hs0:=[]) (hs1:=[(66,.call ⟨i6 0,Ae .e 0 (Fc jj cs F size lim n w (upQ q (k+1) (v,p)) s (upT b v p x) B la pa v .busy (k+1)),18,[4,5,6,8,9,12,16]⟩)]) (m0:=1000) (m1:=1000) (sl0:=[(13,.ptr 13 0),(14,.ptr 14 0),(62,u6 (p:Nat))]) (sl1:=[(13,.ptr 13 0),(14,.ptr 14 0),(15,u6 (p:Nat))]) k_ rfl rfl rfl ⟨rfl,rfl,rfl,trivial⟩ (Qg9 p 15) ?_ d_ (Qje (os0:=ykC jj cs F size lim n w q s b B la pa v .ready k) (os1:=Fc jj cs F size lim n w (upQ q (k+1) (v,p)) s (upT b v p x) B la pa v .ready (k+1)) (by simp) (fun i hi hno=>?_)) k_
 ·refine Eq.mp (by kernel_rfl : (let z1 := O.loop .busy none 0 (rgT size lim n w s v) [62] rgA rgB; let z2 := upQ q (k + 1) (v, p); let z3 := [4, 5, 6, 8, 9, 12, 16]; let z0 := Ae T.e 0 (Fc jj cs F size lim n w z2 s (upT b v p x) B la pa v .busy (k + 1)); An [Aa Pg g0 (V.fn 35 [V.ptr 7 0, V.ptr 11 0, V.ptr 12 0, V.ptr 10 0]) [i6 ↑v, u6 ↑p] (pt (Ae T.e 0 (ykC jj cs F size lim n w q s b B la pa v .ready k)) 15 z1) 17 (CR.mk (i6 0) z0 18 z3), Tt, z0 = pt (Ae T.e 0 (Fc jj cs F size lim n w z2 s (upT b v p x) B la pa v .ready (k + 1))) 15 z1, 18 = 18, ∀ (g : Nat), List.Mem g (z3 ++ [15]) -> List.Mem g [4, 5, 6, 8, 9, 12, 16, 15]]) = _) ?_
  exact a_
 ·rcases(show i=0\/i=1\/i=2\/i=3\/i=4\/i=5\/i=6\/i=7\/i=8\/i=9\/i=10\/i=11\/i=12\/i=13\/i=14\/i=15\/i=16 by simp at hi;omega)with rfl|rfl|rfl|rfl|rfl|rfl|rfl|rfl|rfl|rfl|rfl|rfl|rfl|rfl|rfl|rfl|rfl<;>first|rfl|(simp at hno)
theorem yld_Dh(jj:List Int)(cs:List (List Int))(F:Nat->Nat->Nat->Int)(size lim n w:Nat)(q:Nat->Nat×Nat)(s:Nat)(b:BSt)(B:Nat->Nat->Int)(la pa:Nat->Nat)(v p t bt:Nat)(x:Nat->Int)(h:Dk jj cs F size s b B v p t bt x)(k j:Nat)(hj:j<k+1)(hq:q j=(v,p))(hf:Bg [true,true] [i6 (v:Nat),u6 (p:Nat)] (Ak q (k+1)) 0=some (some (j,i6 (j:Nat)))):
  Aa Pg g0 (.yld 16) [u6 (p:Nat)] (Ae .e 0 (ykD jj cs F size lim n w q s b B la pa v .ready k)) 18 ⟨.bool true,Ae .e 0 (ykD jj cs F size lim n w q s (upT b v p x) B la pa v .ready k),18,[4,5,6,8,9,12,16]⟩:=by
 have hB:=Qab (sB s b B) size
 have hB1:=Qab (sB s (upT b v p x) B) size
 have hS:=Qab (scF F q) (k+1)
 have hE:=Qae q (k+1)
 have hS0:=Qab (scF F q) (k+1)
 have hE0:=Qae q (k+1)
 have hc:=Qag jj
 have hg:=Qap cs
 have hla:=Qai (sL s b la) size
 have hpa:=Qaj (sP s b pa) size
 have jb:=Qai (sL s (upT b v p x) la) size
 have jc:=Qaj (sP s (upT b v p x) pa) size
 have hcall:Aa Pg g0 (.fn 35 []) (i6 (v:Nat)::u6 (p:Nat)::[.ptr 7 0,.ptr 11 0,.ptr 12 0,.ptr 10 0]) (Ae .e 0 (ykD jj cs F size lim n w q s b B la pa v .busy k)) 18 ⟨i6 0,Ae .e 0 (ykD jj cs F size lim n w q s (upT b v p x) B la pa v .busy k),18,[4,5,6,8,9,12]⟩:=
  Aa.frameL (OS:=ykD jj cs F size lim n w q s b B la pa v .busy k) (OS':=ykD jj cs F size lim n w q s (upT b v p x) B la pa v .busy k) [4,5,6,8,9,7,11,12,10,17] [(4,0),(5,1),(6,2),(8,3),(9,4),(7,5),(11,6),(12,7),(10,8),(17,9)] [0,0,1,0,0,1,0,0,1] [0,0,0,0,0,0,1,1,0,0,1,0,0,1,0] (Qm1 (la:=la) (pa:=pa) h hj hq hf) k_ (by
   refine m_ (p:=Bn [Sm (v:Int),Sm (p:Int),Zz,Zz,Zz,Zz]) ?_
   (repeat'(first|(with_reducible apply And.intro)|(refine fun(_:True)=>?_)))<;>first|exact aq|skip) (by
   refine m_ (p:=let z5:=An [Zz,Sm size,Sm (size-size)];let z0:=bF (scF F q) (k+1);let z1:=nF (sL s b la) size;let z2:=uF (sP s b pa) size;let z3:=bF (sB s b B) size;let z4:=Ak q (k+1);Bn [An [z3=z3,HfL z3],An [z4=z4,HfE z4,Sm (k+1)],Bn [An [Sm jj.length,Sm (Ab jj)],An [Sm cs.length,Sm (List.map sl cs)],z5,Tt,Bn [Zz,Sm (k+1)]],An [z1=z1,HfL z1],An [z2=z2,HfL z2],Bn [Zz],Bn [Sm [i6 s],Tt],Bn [Sm [V.bool (Qaw b)],Tt],Bn [z5,z5],An [z0=z0,HfL z0]]) ?_
   (repeat'(first|(with_reducible apply And.intro)|(refine fun(_:True)=>?_)))
   all_goals first|exact aq|exact hB|exact hB1|exact hS|exact hS0|exact hE|exact hE0|exact hla|exact hpa|exact jb|exact jc|rfl|skip) (by
   refine m_ (p:=Sm (0:Int)) ?_
   (repeat'(first|(with_reducible apply And.intro)|(refine fun(_:True)=>?_)))<;>first|exact aq|skip) (by
   refine m_ (p:=let y5:=An [Zz,Sm size,Sm (size-size)];let z0:=ykD jj cs F size lim n w q s b B la pa v .busy k;let z1:=upT b v p x;let z2:=some (O.row 87 none [V.fn 35 [V.ptr 7 0,V.ptr 11 0,V.ptr 12 0,V.ptr 10 0]]);let z5:=bF (scF F q) (k+1);let z6:=some (O.row 31 none [sl jj,gC cs]);let z8:=some (O.row 43 none [V.nils,V.nils]);let z9:=some (lbO size lim n w s v .busy);let y0:=some (O.row 65 none [V.nilp]);let y1:=some (O.row 3 none [i6 v]);let y2:=Ak q (k+1);let y3:=some (O.row 38 none [i6 0]);let y4:=some (size-size);let z3:=nF (sL s z1 la) size;let z4:=uF (sP s z1 pa) size;let z7:=bF (sB s z1 B) size;Bn [z0[0]? =z6,z0[0]? =z6,z0[1]? =y0,z0[1]? =y0,z0[2]? =z8,z0[2]? =z8,z0[3]? =y3,z0[3]? =y3,Tt,An [z7=z7,HfL z7],Tt,An [y2=y2,HfE y2,Sm (k+1)],Tt,Bn [An [Sm jj.length,Sm (Ab jj)],An [Sm cs.length,Sm (List.map sl cs)],y5,Tt,Bn [Zz,Sm (k+1)]],z0[7]? =some (O.row 65 none [V.ptr 6 0]),Bn [Zz],Tt,An [z3=z3,HfL z3],Tt,An [z4=z4,HfL z4],z0[10]? =some (O.row 43 none [V.sl 8 0 size y4,V.sl 9 0 size y4]),Bn [y5,y5],z0[11]? =some (O.row 3 none [i6 s]),Bn [Sm [i6 s],Tt],Tt,Bn [Sm [V.bool (Qaw z1)],Tt],z0[13]? =z2,z0[13]? =z2,z0[14]? =y1,z0[14]? =y1,z0[15]? =some O.dead,Tt,z0[16]? =z9,z0[16]? =z9,z0[17]? =some (scO F q k),An [z5=z5,HfL z5]]) ?_
   (repeat'(first|(with_reducible apply And.intro)|(refine fun(_:True)=>?_)))
   all_goals first|exact aq|exact hB|exact hB1|exact hS|exact hS0|exact hE|exact hE0|exact hla|exact hpa|exact jb|exact jc|rfl|skip)
 have hcall':=Aa.caps (ars:=[i6 (v:Nat),u6 (p:Nat)]) (caps:=[.ptr 7 0,.ptr 11 0,.ptr 12 0,.ptr 10 0]) hcall
 refine Aa.yldN vE_ok Af Qaa (n:=75) (fn0:=0) (tm:=rgT size lim n w s v) (ps:=[62]) (assign:=rgA) (body:=rgB) (hs0:=[]) (hs1:=[(66,.call ⟨i6 0,Ae .e 0 (ykD jj cs F size lim n w q s (upT b v p x) B la pa v .busy k),18,[4,5,6,8,9,12]⟩)]) (m0:=1000) (m1:=1000) (sl0:=[(13,.ptr 13 0),(14,.ptr 14 0),(62,u6 (p:Nat))]) (sl1:=[(13,.ptr 13 0),(14,.ptr 14 0),(15,u6 (p:Nat))]) k_ rfl rfl rfl ⟨rfl,rfl,rfl,trivial⟩ (Qg9 p 16) ?_ d_ (Qje (os0:=ykD jj cs F size lim n w q s b B la pa v .ready k) (os1:=ykD jj cs F size lim n w q s (upT b v p x) B la pa v .ready k) (by simp) (fun i hi hno=>?_)) k_
 ·refine Eq.mp (by kernel_rfl : (let z0 := Ae T.e 0 (ykD jj cs F size lim n w q s (upT b v p x) B la pa v .busy k); let z1 := O.loop .busy none 0 (rgT size lim n w s v) [62] rgA rgB; An [Aa Pg g0 (V.fn 35 [V.ptr 7 0, V.ptr 11 0, V.ptr 12 0, V.ptr 10 0]) [i6 ↑v, u6 ↑p] (pt (Ae T.e 0 (ykD jj cs F size lim n w q s b B la pa v .ready k)) 16 z1) 18 (CR.mk (i6 0) z0 18 [4, 5, 6, 8, 9, 12]), Tt, z0 = pt (Ae T.e 0 (ykD jj cs F size lim n w q s (upT b v p x) B la pa v .ready k)) 16 z1, 18 = 18, ∀ (g : Nat), List.Mem g ([4, 5, 6, 8, 9, 12] ++ [16]) -> List.Mem g [4, 5, 6, 8, 9, 12, 16]]) = _) ?_
  exact a_
 ·rcases(show i=0\/i=1\/i=2\/i=3\/i=4\/i=5\/i=6\/i=7\/i=8\/i=9\/i=10\/i=11\/i=12\/i=13\/i=14\/i=15\/i=16\/i=17 by simp at hi;omega)with rfl|rfl|rfl|rfl|rfl|rfl|rfl|rfl|rfl|rfl|rfl|rfl|rfl|rfl|rfl|rfl|rfl|rfl<;>first|rfl|(simp at hno)
theorem yld_Dm(jj:List Int)(cs:List (List Int))(F:Nat->Nat->Nat->Int)(size lim n w:Nat)(q:Nat->Nat×Nat)(s:Nat)(b:BSt)(B:Nat->Nat->Int)(la pa:Nat->Nat)(v p t bt:Nat)(x:Nat->Int)(h:Dk jj cs F size s b B v p t bt x)(k:Nat)(hk:k<=1000000)(hf:Bg [true,true] [i6 (v:Nat),u6 (p:Nat)] (Ak q (k+1)) 0=some none):
  Aa Pg g0 (.yld 16) [u6 (p:Nat)] (Ae .e 0 (ykD jj cs F size lim n w q s b B la pa v .ready k)) 18 ⟨.bool true,Ae .e 0 (Fb jj cs F size lim n w (upQ q (k+1) (v,p)) s (upT b v p x) B la pa v .ready (k+1)),19,[4,5,6,8,9,12,17,16]⟩:=by
 have hB:=Qab (sB s b B) size
 have hB1:=Qab (sB s (upT b v p x) B) size
 have hS:=Qab (scF F (upQ q (k+1) (v,p))) (k+1+1)
 have hE:=Qae (upQ q (k+1) (v,p)) (k+1+1)
 have hS0:=Qab (scF F q) (k+1)
 have hE0:=Qae q (k+1)
 have hc:=Qag jj
 have hg:=Qap cs
 have hla:=Qai (sL s b la) size
 have hpa:=Qaj (sP s b pa) size
 have jb:=Qai (sL s (upT b v p x) la) size
 have jc:=Qaj (sP s (upT b v p x) pa) size
 have hcall:Aa Pg g0 (.fn 35 []) (i6 (v:Nat)::u6 (p:Nat)::[.ptr 7 0,.ptr 11 0,.ptr 12 0,.ptr 10 0]) (Ae .e 0 (ykD jj cs F size lim n w q s b B la pa v .busy k)) 18 ⟨i6 0,Ae .e 0 (Fb jj cs F size lim n w (upQ q (k+1) (v,p)) s (upT b v p x) B la pa v .busy (k+1)),19,[4,5,6,8,9,12,17]⟩:=
  Aa.frameL (OS:=ykD jj cs F size lim n w q s b B la pa v .busy k) (OS':=Fb jj cs F size lim n w (upQ q (k+1) (v,p)) s (upT b v p x) B la pa v .busy (k+1)) [4,5,6,8,9,7,11,12,10,17] [(4,0),(5,1),(6,2),(8,3),(9,4),(7,5),(11,6),(12,7),(10,8),(17,9),(18,10)] [0,0,1,0,0,1,0,0,1] [0,0,0,0,0,0,1,1,0,0,1,0,0,1,0] (Qhi (q:=q) (la:=la) (pa:=pa) h hk hf) k_ (by
   refine m_ (p:=Bn [Sm (v:Int),Sm (p:Int),Zz,Zz,Zz,Zz]) ?_
   (repeat'(first|(with_reducible apply And.intro)|(refine fun(_:True)=>?_)))<;>first|exact aq|skip) (by
   refine m_ (p:=let z5:=An [Zz,Sm size,Sm (size-size)];let z0:=bF (scF F q) (k+1);let z1:=nF (sL s b la) size;let z2:=uF (sP s b pa) size;let z3:=bF (sB s b B) size;let z4:=Ak q (k+1);Bn [An [z3=z3,HfL z3],An [z4=z4,HfE z4,Sm (k+1)],Bn [An [Sm jj.length,Sm (Ab jj)],An [Sm cs.length,Sm (List.map sl cs)],z5,Tt,Bn [Zz,Sm (k+1)]],An [z1=z1,HfL z1],An [z2=z2,HfL z2],Bn [Zz],Bn [Sm [i6 s],Tt],Bn [Sm [V.bool (Qaw b)],Tt],Bn [z5,z5],An [z0=z0,HfL z0]]) ?_
   (repeat'(first|(with_reducible apply And.intro)|(refine fun(_:True)=>?_)))
   all_goals first|exact aq|exact hB|exact hB1|exact hS|exact hS0|exact hE|exact hE0|exact hla|exact hpa|exact jb|exact jc|rfl|skip) (by
   refine m_ (p:=Sm (0:Int)) ?_
   (repeat'(first|(with_reducible apply And.intro)|(refine fun(_:True)=>?_)))<;>first|exact aq|skip) (by
   refine m_ (p:=let y6:=An [Zz,Sm size,Sm (size-size)];let z0:=ykD jj cs F size lim n w q s b B la pa v .busy k;let z1:=upT b v p x;let z2:=upQ q (k+1) (v,p);let z3:=some (O.row 87 none [V.fn 35 [V.ptr 7 0,V.ptr 11 0,V.ptr 12 0,V.ptr 10 0]]);let z7:=some (O.row 31 none [sl jj,gC cs]);let y0:=some (O.row 43 none [V.nils,V.nils]);let y1:=some (lbO size lim n w s v .busy);let y2:=some (O.row 65 none [V.nilp]);let y3:=some (O.row 3 none [i6 v]);let y4:=some (O.row 38 none [i6 0]);let y5:=some (size-size);let z4:=bF (scF F z2) (k+1+1);let z5:=nF (sL s z1 la) size;let z6:=uF (sP s z1 pa) size;let z8:=bF (sB s z1 B) size;let z9:=Ak z2 (k+1+1);Bn [z0[0]? =z7,z0[0]? =z7,z0[1]? =y2,z0[1]? =y2,z0[2]? =y0,z0[2]? =y0,z0[3]? =y4,z0[3]? =y4,Tt,An [z8=z8,HfL z8],Tt,An [z9=z9,HfE z9,Sm (k+1+1)],Tt,Bn [An [Sm jj.length,Sm (Ab jj)],An [Sm cs.length,Sm (List.map sl cs)],y6,Tt,Bn [Zz,Sm (Nat.succ k+1)]],z0[7]? =some (O.row 65 none [V.ptr 6 0]),Bn [Zz],Tt,An [z5=z5,HfL z5],Tt,An [z6=z6,HfL z6],z0[10]? =some (O.row 43 none [V.sl 8 0 size y5,V.sl 9 0 size y5]),Bn [y6,y6],z0[11]? =some (O.row 3 none [i6 s]),Bn [Sm [i6 s],Tt],Tt,Bn [Sm [V.bool (Qaw z1)],Tt],z0[13]? =z3,z0[13]? =z3,z0[14]? =y3,z0[14]? =y3,z0[15]? =some O.dead,Tt,z0[16]? =y1,z0[16]? =y1,Tt,Tt,Tt,An [z4=z4,HfL z4]]) ?_
   (repeat'(first|(with_reducible apply And.intro)|(refine fun(_:True)=>?_)))
   all_goals first|exact aq|exact hB|exact hB1|exact hS|exact hS0|exact hE|exact hE0|exact hla|exact hpa|exact jb|exact jc|rfl|skip)
 have hcall':=Aa.caps (ars:=[i6 (v:Nat),u6 (p:Nat)]) (caps:=[.ptr 7 0,.ptr 11 0,.ptr 12 0,.ptr 10 0]) hcall
 refine Aa.yldN vE_ok Af Qaa (n:=75) (fn0:=0) (tm:=rgT size lim n w s v) (ps:=[62]) (assign:=rgA) (body:=rgB) (hs0:=[]) (hs1:=[(66,.call ⟨i6 0,Ae .e 0 (Fb jj cs F size lim n w (upQ q (k+1) (v,p)) s (upT b v p x) B la pa v .busy (k+1)),19,[4,5,6,8,9,12,17]⟩)]) (m0:=1000) (m1:=1000) (sl0:=[(13,.ptr 13 0),(14,.ptr 14 0),(62,u6 (p:Nat))]) (sl1:=[(13,.ptr 13 0),(14,.ptr 14 0),(15,u6 (p:Nat))]) k_ rfl rfl rfl ⟨rfl,rfl,rfl,trivial⟩ (Qg9 p 16) ?_ d_ (Qje (os0:=ykD jj cs F size lim n w q s b B la pa v .ready k) (os1:=Fb jj cs F size lim n w (upQ q (k+1) (v,p)) s (upT b v p x) B la pa v .ready (k+1)) (by simp) (fun i hi hno=>?_)) k_
 ·refine Eq.mp (by kernel_rfl : (let z1 := O.loop .busy none 0 (rgT size lim n w s v) [62] rgA rgB; let z2 := upQ q (k + 1) (v, p); let z3 := [4, 5, 6, 8, 9, 12, 17]; let z0 := Ae T.e 0 (Fb jj cs F size lim n w z2 s (upT b v p x) B la pa v .busy (k + 1)); An [Aa Pg g0 (V.fn 35 [V.ptr 7 0, V.ptr 11 0, V.ptr 12 0, V.ptr 10 0]) [i6 ↑v, u6 ↑p] (pt (Ae T.e 0 (ykD jj cs F size lim n w q s b B la pa v .ready k)) 16 z1) 18 (CR.mk (i6 0) z0 19 z3), Tt, z0 = pt (Ae T.e 0 (Fb jj cs F size lim n w z2 s (upT b v p x) B la pa v .ready (k + 1))) 16 z1, 19 = 19, ∀ (g : Nat), List.Mem g (z3 ++ [16]) -> List.Mem g [4, 5, 6, 8, 9, 12, 17, 16]]) = _) ?_
  exact a_
 ·rcases(show i=0\/i=1\/i=2\/i=3\/i=4\/i=5\/i=6\/i=7\/i=8\/i=9\/i=10\/i=11\/i=12\/i=13\/i=14\/i=15\/i=16\/i=17 by simp at hi;omega)with rfl|rfl|rfl|rfl|rfl|rfl|rfl|rfl|rfl|rfl|rfl|rfl|rfl|rfl|rfl|rfl|rfl|rfl<;>first|rfl|(simp at hno)
set_option maxHeartbeats 1000000
set_option maxRecDepth 100000
def nxM(p w:Nat):Nat:=(p+18446744073709551616-w)%18446744073709551616
def nxP(p w:Nat):Nat:=nxM p w&&& w
theorem nxP_all1: ∀w:Nat,w<32->∀p:Nat,p<32->(¬p&&& w=p\/(nxP p w<32/\nxP p w&&& w=nxP p w/\(nxP p w=0->p=w)/\(p≠w->p<nxP p w))):=by decide+kernel
theorem nxP_all2: ∀w:Nat,w<32->∀p:Nat,p<32->∀r:Nat,r<32->(¬p&&& w=p\/p=w\/nxP p w<=r\/r<=p\/¬r&&& w=r):=by decide+kernel
theorem nxP_all(w:Nat)(hw:w<32)(p:Nat)(hp:p<32)(h:p&&& w=p):nxP p w<32/\nxP p w&&& w=nxP p w/\(nxP p w=0->p=w)/\(p≠w->p<nxP p w/\∀r,r<nxP p w->p<r->¬r&&& w=r):=by
 rcases nxP_all1 w hw p hp with h'|⟨a,b,c,d⟩
 ·exact absurd h h'
 ·refine ⟨a, b, c, fun hne => ⟨d hne, fun r h1 h2 => ?_⟩⟩
  rcases nxP_all2 w hw p hp r o_ with h'|h'|h'|h'|h'
  ·exact absurd h h'
  ·exact absurd h' hne
  ·omega
  ·omega
  ·exact h'
theorem sub_rm0: ∀s:Nat,s<32->∀v:Nat,v<5->∀p:Nat,p<32->(s.testBit v=false\/(p&&& (s-2^v)=p↔p&&& s=p/\p.testBit v=false)):=by decide+kernel
theorem Qtx(s:Nat)(hs:s<32)(v:Nat)(hv:v<5)(hb:s.testBit v=true)(p:Nat)(hp:p<32):p&&& (s-2^v)=p↔p&&& s=p/\p.testBit v=false:=by
 rcases sub_rm0 s hs v hv p hp with h|h
 ·rw[hb]at h;cases h
 ·exact h
theorem Qss: ∀w:Nat,w<32->∀p:Nat,p<32->IntKind.u64.wrap (((p:Nat):Int)-((w:Nat):Int))=(nxM p w:Int)/\IntKind.u64.wrap ((BitVec.ofInt 64 (nxM p w:Int)&&& BitVec.ofInt 64 (w:Int)).toNat:Int)=(nxP p w:Int):=by decide+kernel
theorem nx_sub{w p:Nat}(hw:w<32)(hp:p<32)(G:Ctx)(t:Nat):Ai G .sub t (u6 (p:Nat)) (u6 (w:Nat))=some (u6 (nxM p w:Nat)):=by
 have e:Ai G .sub t (u6 (p:Nat)) (u6 (w:Nat))=some (.int .u64 (wr .u64 ((p:Int)-(w:Int)))):=rfl
 rw[e,Dw,(Qss w hw p hp).1]
theorem nx_and{w p:Nat}(hw:w<32)(hp:p<32)(G:Ctx)(t:Nat):Ai G .and t (u6 (nxM p w:Nat)) (u6 (w:Nat))=some (u6 (nxP p w:Nat)):=by
 have e:Ai G .and t (u6 (nxM p w:Nat)) (u6 (w:Nat))=some (.int .u64 (IntKind.u64.wrap ((BitVec.ofInt 64 (nxM p w:Int)&&& BitVec.ofInt 64 (w:Int)).toNat:Int))):=rfl
 rw[e,(Qss w hw p hp).2]
section
variable {lim s v:Nat} {q:Nat->Nat×Nat} {k:Nat} {F:Nat->Nat->Nat->Int} {B:Nat->Nat->Int} {b:BSt}
theorem Qgq{n:Nat}: ∀m,(∀r,n<=r->r<n+m->okT lim s v r=false)->Bf lim s v q k (n+m)=Bf lim s v q k n
 |0,_=>rfl
 |m+1,h=>by
  rw[<-Nat.add_assoc,Bf,if_neg (by rw[h (n+m) o_ o_];decide),Qgq m (fun r h1 h2=>h r h1 o_)]
theorem Qgr{n:Nat}: ∀m,(∀r,n<=r->r<n+m->okT lim s v r=false)->Bu lim F B s v b (n+m)=Bu lim F B s v b n
 |0,_=>rfl
 |m+1,h=>by
  rw[<-Nat.add_assoc,Bu,if_neg (by rw[h (n+m) o_ o_];decide),Qgr m (fun r h1 h2=>h r h1 o_)]
theorem Qdp(hs:s<32)(hv:v<5)(hb:s.testBit v=true){p:Nat}(hp:p<32):okT lim s v p=true↔p&&& (s-2^v)=p/\Ao p<=lim:=by
 rw[Qb5,Qtx s hs v hv hb p hp]
 exact and_assoc.symm
theorem Qsv(hs:s<32)(hv:v<5)(hb:s.testBit v=true){p:Nat}(h: ¬p&&& (s-2^v)=p):okT lim s v p=false:=by
 cases ho:okT lim s v p with
 |false=>rfl
 |true=>
  have h1:=(Qb5.1 ho).1
  have:p<=s:=by rw[<-h1];exact Nat.and_le_right
  exact absurd ((Qdp hs hv hb o_).1 ho).1 h
theorem Qof(hs:s<32)(hv:v<5)(hb:s.testBit v=true){p:Nat}(hp:p<32)(kb:p&&& (s-2^v)=p):
  (p≠s-2^v->nxP p (s-2^v)<32/\nxP p (s-2^v)&&& (s-2^v)=nxP p (s-2^v)/\nxP p (s-2^v)≠0/\p<nxP p (s-2^v)/\nxP p (s-2^v)<=s-2^v/\Bf lim s v q k (nxP p (s-2^v))=Bf lim s v q k (p+1)/\Bu lim F B s v b (nxP p (s-2^v))=Bu lim F B s v b (p+1))/\
  (p=s-2^v->nxP p (s-2^v)=0/\Bf lim s v q k (s+1)=Bf lim s v q k (p+1)/\Bu lim F B s v b (s+1)=Bu lim F B s v b (p+1)):=by
 obtain⟨r1,_⟩:=Qes s hs v hv hb
 have hp0:0<2^v:=Nat.pow_pos d_
 obtain⟨a1,a2,a3,a4⟩:=nxP_all (s-2^v) o_ p hp kb
 constructor
 ·intro hne
  obtain⟨b1,b2⟩:=a4 hne
  have h0:nxP p (s-2^v)≠0:=fun e=>hne (a3 e)
  have hle:nxP p (s-2^v)<=s-2^v:=by unfold nxP;exact Nat.and_le_right
  have hskip: ∀r,p+1<=r->r<(p+1)+(nxP p (s-2^v)-(p+1))->okT lim s v r=false:=fun r h1 h2=>Qsv hs hv hb (b2 r o_ o_)
  have e:(p+1)+(nxP p (s-2^v)-(p+1))=nxP p (s-2^v):=by omega
  have e1:=Qgq (q:=q) (k:=k) _ hskip
  have e2:=Qgr (F:=F) (B:=B) (b:=b) _ hskip
  rw[e]at e1 e2
  exact⟨a1,a2,h0,b1,hle,e1,e2⟩
 ·intro he
  have hz:nxP p (s-2^v)=0:=by
   rw[<-he]
   have:nxM p p=0:=by
    unfold nxM
    rw[show p+18446744073709551616-p=18446744073709551616 by omega]
   unfold nxP;rw[this,Nat.zero_and]
  have hp0:0<2^v:=Nat.pow_pos d_
  have hskip: ∀r,p+1<=r->r<(p+1)+(s-p)->okT lim s v r=false:=fun r h1 h2=>Qsv hs hv hb (fun h=>by
   have:r&&& (s-2^v)<=s-2^v:=Nat.and_le_right
   omega)
  have e:(p+1)+(s-p)=s+1:=by omega
  have e1:=Qgq (q:=q) (k:=k) _ hskip
  have e2:=Qgr (F:=F) (B:=B) (b:=b) _ hskip
  rw[e]at e1 e2
  exact⟨hz,e1,e2⟩
theorem Qjc: ∀n,1<=n->okT lim s v 0=true->k=0->1<=F0 lim s v q k n
 |0,h,_,_=>absurd h o_
 |1,_,h,hk=>by
  subst hk
  unfold F0 Bf
  rw[if_pos h]
  dsimp only[Bf]
  unfold E6 C4
  simp
 |n+2,_,h,hk=>by
  have ih:=Qjc (n+1) o_ h hk
  have:=Qee lim s v q k (n+1)
  show 1<=(Bf lim s v q k (n+1+1)).2
  rw[Bf]
  split
  ·exact Nat.le_trans ih (Qqq _ _ _).1
  ·exact ih
end
theorem ones_c(p:Nat)(h:(i6 (Ao p:Nat)=i6 (Ao p:Nat)/\(((Ao p:Nat):Int)=((Ao p:Nat):Int)/\True)/\True)=vcFn Pg vE sp0 g0 1000 48 [u6 (p:Nat)] [] [] {sl:=[(2,i6 (Ao p:Nat))]} (i6 (Ao p:Nat))):Ac Pg g0 48 [u6 (p:Nat)] (i6 (Ao p:Nat)):=Ac.of_vc vE_ok Af Qaa (h.mp ⟨rfl,⟨rfl,trivial⟩,trivial⟩)
theorem ones64(p:Nat)(hp:p<32):Ac Pg g0 48 [u6 (p:Nat)] (i6 (Ao p:Nat)):=by
 rcases(show p=0\/p=1\/p=2\/p=3\/p=4\/p=5\/p=6\/p=7\/p=8\/p=9\/p=10\/p=11\/p=12\/p=13\/p=14\/p=15\/p=16\/p=17\/p=18\/p=19\/p=20\/p=21\/p=22\/p=23\/p=24\/p=25\/p=26\/p=27\/p=28\/p=29\/p=30\/p=31 by omega)with rfl|rfl|rfl|rfl|rfl|rfl|rfl|rfl|rfl|rfl|rfl|rfl|rfl|rfl|rfl|rfl|rfl|rfl|rfl|rfl|rfl|rfl|rfl|rfl|rfl|rfl|rfl|rfl|rfl|rfl|rfl|rfl<;>exact ones_c _ k_
theorem Qmo(p:Nat)(hp:p<32):Ac Pg g0 32 [u6 (p:Nat)] (i6 (Ao p:Nat)):=by
 have h:=ones64 p hp
 refine Ac.of_vc vE_ok Af Qaa (n:=1000) (r:=[]) (S:={sl:=[(2,i6 (Ao p:Nat))]}) (hs:=[fn 7 (i6 (Ao p:Nat))]) ?_
 refine m_ (p:=Bn [Sm (i6 ↑(Ao p)),Bn [Tt],Ac Pg g0 48 [u6 p] (i6 ↑(Ao p)),Tt,Bn [Sm (↑(Ao p):Int)]]) ?_
 (repeat'(first|(with_reducible apply And.intro)|(refine fun(_:True)=>?_)))<;>first|exact aq|skip
 all_goals exact h
end Go.Proofs.YtakfneapahohkaaDoor.Am
