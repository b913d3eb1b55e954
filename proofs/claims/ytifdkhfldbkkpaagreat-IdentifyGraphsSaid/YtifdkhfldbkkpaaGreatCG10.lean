/- Texts behind the claim, part 10: the abstract machine, and what the functions answer. No condition. -/
import Derived.Test.YtifdkhfldbkkpaaGreatCG9
set_option linter.unusedVariables false
set_option maxHeartbeats 4000000
set_option maxRecDepth 100000
set_option linter.unusedSimpArgs false
set_option linter.unusedSectionVars false
namespace Go.Proofs.YtifdkhfldbkkpaaGreat.Am
open Go.RowKit
section
variable {gr:Nat} {NN:List Pc} {SS:List (Nat×Nat)} {W Q:List Nat} {g:Int} {P:List Pc} {cnt:Nat} (L:List Nat)
 (hc:1≤cnt∧cnt≤4) (hg:2≤g∧g≤12) (ok:DrOk gr NN SS W Q) (hP:P.length=cnt) (hPo: ∀x∈P,PcOk x)
include hc hg ok hP hPo
theorem sh_round(k i j:Nat)(hi:i≤100)(hj:j≤100)(hk:k<SS.length)(hk2:k<2)(H:T O)(nx:Nat)(h:MQ (drL gr NN SS W Q) W g P cnt i j H nx): ∃H' nx',MQ (drL gr NN SS W Q) W g P cnt (i+1) (j+1) H' nx'∧To 365 (at' 6 [1,1,1,1,1,1,1,1,1,1,1,0,1,0,0]) (sH9 cnt L k) H nx .normal (sH9 cnt L (k+1)) H' nx':=by
 obtain⟨m,a,ow,rv,F,ls,hd,kd,R,hr,rfl,ha,hB,hN,hR,hQ,hK⟩:=h
 have hrl:=hQ.rn
 obtain⟨s,hs⟩: ∃s,SS[k]? =some s:=⟨SS[k]'(by omega),List.getElem?_eq_getElem _⟩
 obtain⟨t1,t2⟩:=sh_head L hc hg ok hP hPo hB (nx:=m+8) k hk hk2 s hs
 have hx:s.1%cnt<cnt:=Nat.mod_lt _ (by omega)
 have hy:s.2%cnt<cnt:=Nat.mod_lt _ (by omega)
 generalize s.1%cnt=x at*
 generalize s.2%cnt=y at*
 -- the whole round, from what the branch does
 have whole: ∀(H':T O)(nx':Nat),To 365 (at' 6 [1,1,1,1,1,1,1,1,1,1,1,0,1,0,0,1,0,0,1,1]) (sI9 cnt L k x y++[(151,.bool (decide (x≠y)))]) H (m+8) .normal (sI9 cnt L k x y) H' nx'→To 365 (at' 6 [1,1,1,1,1,1,1,1,1,1,1,0,1,0,0]) (sH9 cnt L k) H (m+8) .normal (sH9 cnt L (k+1)) H' nx':=fun H' nx' hb=>
  To.seq (b:=at' 6 [1,1,1,1,1,1,1,1,1,1,1,0,1,0,0,1]) (by kernel_rfl) t1 (To.seq (b:=at' 6 [1,1,1,1,1,1,1,1,1,1,1,0,1,0,0,1,1]) (a:=at' 6 [1,1,1,1,1,1,1,1,1,1,1,0,1,0,0,1,0]) (by kernel_rfl) (To.blockN (id:=5) (b:=at' 6 [1,1,1,1,1,1,1,1,1,1,1,0,1,0,0,1,0,0]) (by kernel_rfl) (fun h=>by cases h) (To.seq (b:=at' 6 [1,1,1,1,1,1,1,1,1,1,1,0,1,0,0,1,0,0,1]) (by kernel_rfl) t2 (To.seq (b:=at' 6 [1,1,1,1,1,1,1,1,1,1,1,0,1,0,0,1,0,0,1,1]) (by kernel_rfl) (Qr7 L hc hg hP hPo k x y (decide (x≠y)) rfl).1 hb))) ((Qr7 L hc hg hP hPo k x y (decide (x≠y)) rfl).2 (by omega)))
 by_cases hxy:x=y
 ·refine ⟨H, m + 8, ⟨m, a, ow, rv, F, ls, hd, kd, R, hr, rfl, by omega, hB, hN, hR, ⟨hQ.num, hQ.fr, hQ.no, fun v hv => Nat.le_succ_of_le (hQ.len v hv), by omega, hQ.ow, hQ.rl⟩, hK⟩, whole _ _ ?_⟩
  subst hxy
  refine To.cond (x:=at' 6 [1,1,1,1,1,1,1,1,1,1,1,0,1,0,0,1,0,0,1,1,0]) (y:=.skip) (o:=.tmp 151) (by kernel_rfl) false (by rw[decide_eq_false (by simp)];rfl) ?_
  refine To.of_vc (n:=100) (hs:=[toO (sI9 cnt L k x x)]) fun nx0 lg G hG=>?_
  show vc Pg vE sp0 none nx0 100 .skip _ _ _
  have hLf:=Qaq L
  clear whole t1 t2 hB hN hR hQ hK
  exact m_ (p:=An [G Ex.normal (sI9 cnt L k x x) H (m+8) lg,Sm (V.ptr 0 0),Sm (V.ptr 1 0),Sm (i6 ↑cnt),Sm (V.ptr 3 0),Sm (pv9 cnt),Sm (V.im cnt (it L)),Sm (V.ptr 6 0),Sm (V.sl 7 0 cnt (some (cnt-cnt))),Sm (i6 ↑k),Sm (i6 ↑x),Sm (i6 ↑x),_]) ⟨aq,aq,aq,aq,aq,aq,aq,aq,aq,aq,aq,aq,tq⟩
 ·have hRn : ∀ v, v < cnt → ls (4 * v + 2) ≠ [] → R ≠ [] := fun v hv hl e => by
   obtain⟨z,zs,hz⟩:=List.exists_cons_of_ne_nil hl
   have:=hQ.no v hv z (by rw[hz];exact List.mem_cons_self)
   rw[e]at this
   simp at this
   omega
  obtain⟨H1,hB1,hN1,hR1,p1⟩:=push_a L hc hB hN hR hK (by omega) k x y hx (by have:=hQ.len x hx;omega) (hRn x hx)
  have e1:upF ls (4*x+2) (ls (4*x+2)++[(R.length:Int)]) (4*y+2)=ls (4*y+2):=Qah (by omega)
  obtain⟨H2,hB2,hN2,hR2,p2⟩:=push_b (m:=m+2) L hc hB1 hN1 hR1 (hK.up _ _) (by omega) k x y hy (by rw[e1];have:=hQ.len y hy;omega) (by rw[e1];exact hRn y hy)
  rw[e1]at hN2 hR2
  have hK2:=(hK.up (4*x+2) (ls (4*x+2)++[(R.length:Int)])).up (4*y+2) (ls (4*y+2)++[(R.length:Int)])
  obtain⟨l,H3,a',hl,ha',hB3,hN3,hR3,p3⟩:=push_r (m:=m+4) L hg ok.w ok.wl (by omega) hB2 hN2 hR2 (by omega) k x y
  refine⟨H3,m+14,⟨m+6,a',ow,_,_,_,_,_,_,_,rfl,by omega,hB3,hN3,hR3,⟨fun v hv=>?_,fun v hv=>?_,fun v hv z hz=>?_,fun v hv=>?_,?_,fun v hv ho=>?_,fun l' hl'=>?_⟩,hK2⟩,whole _ _ ?_⟩
  ·rw[Qah (by omega),Qah (by omega)];exact hQ.num v hv
  ·rw[Qah (by omega),Qah (by omega),Qah (by omega),Qah (by omega)];exact hQ.fr v hv
  ·rw [List.length_append, List.length_singleton]
   have old: ∀z∈ls (4*v+2),0≤z∧z<((R.length+1:Nat):Int):=fun z hz=>by have:=hQ.no v hv z hz;omega
   by_cases h1:v=y
   ·subst h1
    rw[Qai]at hz
    rcases List.mem_append.1 hz with hz|hz
    ·exact old z hz
    ·rw[List.mem_singleton.1 hz];omega
   ·rw [Qah (by omega)] at hz
    by_cases h2:v=x
    ·subst h2
     rw[Qai]at hz
     rcases List.mem_append.1 hz with hz|hz
     ·exact old z hz
     ·rw[List.mem_singleton.1 hz];omega
    ·rw[Qah (by omega)]at hz;exact old z hz
  ·have := hQ.len v hv
   by_cases h1:v=y
   ·subst h1;rw[Qai,List.length_append,List.length_singleton];omega
   ·rw [Qah (by omega)]
    by_cases h2:v=x
    ·subst h2;rw[Qai,List.length_append,List.length_singleton];omega
    ·rw[Qah (by omega)];omega
  ·rw[List.length_append,List.length_singleton];omega
  ·by_cases h1 : v = y
   ·subst h1;rw[Qai];simp
   ·rw [Qah (by omega)]
    by_cases h2:v=x
    ·subst h2;rw[Qai];simp
    ·rw[Qah (by omega)];exact hQ.ow v hv ho
  ·rcases List.mem_append.1 hl' with h | h
   ·exact hQ.rl l' h
   ·rw[List.mem_singleton.1 h];exact hl
  ·refine To.cond (x := at' 6 [1, 1, 1, 1, 1, 1, 1, 1, 1, 1, 1, 0, 1, 0, 0, 1, 0, 0, 1, 1, 0]) (y := .skip) (o := .tmp 151) (by kernel_rfl) true (by rw [decide_eq_true hxy]; rfl) ?_
   refine To.fewer (sl1:=sI9 cnt L k x y) ?_ ⟨rfl,rfl,rfl,rfl,rfl,rfl,rfl,rfl,rfl,rfl,rfl,trivial⟩
   exact To.seq (b:=at' 6 [1,1,1,1,1,1,1,1,1,1,1,0,1,0,0,1,0,0,1,1,0,1]) (by kernel_rfl) p1 (To.seq (b:=at' 6 [1,1,1,1,1,1,1,1,1,1,1,0,1,0,0,1,0,0,1,1,0,1,1]) (by kernel_rfl) p2 p3)
theorem sh_loop(H:T O)(nx:Nat)(h:MQ (drL gr NN SS W Q) W g P cnt cnt 1 H nx): ∃H' nx',MQ (drL gr NN SS W Q) W g P cnt (cnt+2) 3 H' nx'∧To 365 (at' 6 [1,1,1,1,1,1,1,1,1,1,1,0]) (sF9 cnt L) H nx .normal (sF9 cnt L) H' nx':=by
 have more: ∀i j H nx,i≤cnt+2→j≤3→MQ (drL gr NN SS W Q) W g P cnt i j H nx→MQ (drL gr NN SS W Q) W g P cnt (cnt+2) 3 H nx:=fun i j H nx hi hj⟨m,a,ow,rv,F,ls,hd,kd,R,hr,e,ha,hB,hN,hR,hQ,hK⟩=>⟨m,a,ow,rv,F,ls,hd,kd,R,hr,e,by omega,hB,hN,hR,⟨hQ.num,hQ.fr,hQ.no,fun v hv=>Nat.le_trans (hQ.len v hv) hj,Nat.le_trans hQ.rn hi,hQ.ow,hQ.rl⟩,hK⟩
 have key: ∃e sl H' nx',(e= .exit 4∧sl=sF9 cnt L∧MQ (drL gr NN SS W Q) W g P cnt (cnt+2) 3 H' nx')∧To 365 (at' 6 [1,1,1,1,1,1,1,1,1,1,1,0,1,0]) (sH9 cnt L 0) H nx e sl H' nx':=by
  refine To.loop (b:=at' 6 [1,1,1,1,1,1,1,1,1,1,1,0,1,0,0]) (by kernel_rfl) (fun(k:Nat) H nx=>k≤2∧k≤SS.length∧MQ (drL gr NN SS W Q) W g P cnt (cnt+k) (1+k) H nx) (fun k=>sH9 cnt L k) (fun k=>2-k) (fun e sl H nx=>e= .exit 4∧sl=sF9 cnt L∧MQ (drL gr NN SS W Q) W g P cnt (cnt+2) 3 H nx) (fun k H nx hI=>?_) 0 H nx ⟨Nat.zero_le _,Nat.zero_le _,h⟩
  obtain⟨hk2,hks,hM⟩:=hI
  by_cases hlt:k<SS.length∧k<2
  ·obtain ⟨H', nx', h1, h2⟩ := sh_round L hc hg ok hP hPo k (cnt + k) (1 + k) (by omega) (by omega) hlt.1 hlt.2 H nx hM
   exact .inl ⟨k+1,H',nx',⟨by omega,by omega,by rw[show 1+(k+1)=1+k+1 by omega,show cnt+(k+1)=cnt+k+1 by omega];exact h1⟩,by omega,h2⟩
  ·right
   refine⟨.exit 4,sF9 cnt L,H,nx,(fun h=>by cases h),⟨rfl,rfl,more _ _ _ _ (by omega) (by omega) hM⟩,?_⟩
   obtain⟨m,a,ow,rv,F,ls,hd,kd,R,hr,rfl,ha,hB,hN,hR,hQ,hK⟩:=hM
   have h0:gt H 0=some (.row 26 none [w8 (gr:Nat),.im NN.length (pcL NN),.im SS.length (prT SS),bl W,bl Q]):=hB.h0
   have hLf:=Qaq L
   have hpf:=Qdu SS
   clear hB hN hR hQ hK more
   generalize prT SS=PP at*
   generalize pcL NN=NP at*
   by_cases h1:k<SS.length
   ·refine To.of_vc (n := 100) (hs := [lo_ 122 (.row 26 none [w8 (gr : Nat), .im NN.length NP, .im SS.length PP, bl W, bl Q]) (.im SS.length PP), yes 124, no 127, toO (sF9 cnt L)]) fun nx0 lg G hG => ?_
    exact m_ (p:=let z1:=V.sl 7 0 cnt (some (cnt-cnt));An [_,headF (dropF (0+2) [w8 ↑gr,V.im NN.length NP,V.im SS.length PP,bl W,bl Q])=some (V.im SS.length PP),decide ((↑k:Int)<(↑SS.length:Int))=true,decide ((↑k:Int)<(2:Int))=false,G (Ex.exit 4) (sF9 cnt L) H (m+8) lg,Sm (V.ptr 0 0),Sm (V.ptr 1 0),Sm (i6 ↑cnt),Sm (V.ptr 3 0),Sm (pv9 cnt),Sm (V.im cnt (it L)),Sm (V.ptr 6 0),z1=z1,_]) ⟨h0,(by rfl),aq,aq,aq,aq,aq,aq,aq,aq,aq,aq,aq,tq⟩
   ·refine To.of_vc (n := 100) (hs := [lo_ 122 (.row 26 none [w8 (gr : Nat), .im NN.length NP, .im SS.length PP, bl W, bl Q]) (.im SS.length PP), no 124, toO (sF9 cnt L)]) fun nx0 lg G hG => ?_
    exact m_ (p:=let z1:=V.sl 7 0 cnt (some (cnt-cnt));An [_,headF (dropF (0+2) [w8 ↑gr,V.im NN.length NP,V.im SS.length PP,bl W,bl Q])=some (V.im SS.length PP),decide ((↑k:Int)<(↑SS.length:Int))=false,G (Ex.exit 4) (sF9 cnt L) H (m+8) lg,Sm (V.ptr 0 0),Sm (V.ptr 1 0),Sm (i6 ↑cnt),Sm (V.ptr 3 0),Sm (pv9 cnt),Sm (V.im cnt (it L)),Sm (V.ptr 6 0),z1=z1,_]) ⟨h0,(by rfl),aq,aq,aq,aq,aq,aq,aq,aq,aq,aq,tq⟩
 obtain⟨e,sl,H',nx',⟨rfl,rfl,h1⟩,h3⟩:=key
 refine⟨H',nx',h1,To.seq (sl1:=sH9 cnt L 0) (H1:=H) (nx1:=nx) (by kernel_rfl) (b:=at' 6 [1,1,1,1,1,1,1,1,1,1,1,0,1]) (a:=at' 6 [1,1,1,1,1,1,1,1,1,1,1,0,0]) ?_ (To.block (by kernel_rfl) h3)⟩
 refine To.of_vc (n:=100) (hs:=[toO (sH9 cnt L 0)]) fun nx0 lg G hG=>?_
 have hLf:=Qaq L
 clear h h1 h3 more
 exact m_ (p:=An [G Ex.normal (sH9 cnt L 0) H nx lg,Sm (V.ptr 0 0),Sm (V.ptr 1 0),Sm (i6 ↑cnt),Sm (V.ptr 3 0),Sm (pv9 cnt),Sm (V.im cnt (it L)),Sm (V.ptr 6 0),Sm (V.sl 7 0 cnt (some (cnt-cnt))),i6 0=i6 ↑(0:Nat),_]) ⟨aq,aq,aq,aq,aq,aq,aq,aq,aq,aq,tq⟩
end
abbrev sM9(cnt:Nat)(q:List Nat)(i v u k:Nat):List (Nat×V):=[(1,.ptr 0 0),(2,.ptr 1 0),(3,i6 (cnt:Nat)),(4,.ptr 3 0),(5,pv9 cnt),(6,.im cnt (it q)),(7,.ptr 6 0),(9,.sl 7 0 cnt (some (cnt-cnt))),(14,i6 (i:Nat)),(15,i6 (v:Nat)),(16,i6 (u:Nat)),(17,i6 (k:Nat))]
abbrev sN9(cnt:Nat)(q:List Nat)(i v n:Nat)(A:List V)(c b:Nat):List (Nat×V):=[(1,.ptr 0 0),(2,.ptr 1 0),(3,i6 (cnt:Nat)),(4,.ptr 3 0),(5,pv9 cnt),(6,.im cnt (it q)),(7,.ptr 6 0),(9,.sl 7 0 cnt (some (cnt-cnt))),(14,i6 (i:Nat)),(15,i6 (v:Nat)),(18,.im n A),(19,i6 (c:Nat)),(20,i6 (b:Nat))]
section
variable {dc:List V} {W:List Nat} {g:Int} {qc:List V} {cnt a:Nat} {ow:Nat→Bool} {rv:V} {H:T O} {m:Nat} {F:Nat→V} {ls:Nat→List Int} {hd:Nat→Nat} {kd:Nat→Bool} {R:List (List Int)} {hr:Nat} (L:List Nat)
 (hc:1≤cnt∧cnt≤4) (hB:MB dc W g qc cnt a ow rv H) (hN:NL cnt F ls hd kd H (m+8)) (hR:RO9 cnt ls hd rv R hr H (m+8))
include hc hB hN hR
theorem push_f(i v u k:Nat)(hv:v<cnt)(hl:(ls (4*v+1)).length≤100000)(hk:ls (4*v+1)≠[]→kd (4*v+1)=true): ∃H':T O,MB dc W g qc cnt a ow rv H'∧NL cnt (upF F (4*v+1) (.sl (m+9) 0 ((ls (4*v+1)).length+1) none)) (upF ls (4*v+1) (ls (4*v+1)++[(u:Int)])) (upF hd (4*v+1) (m+9)) (upF kd (4*v+1) true) H' (m+10)∧RO9 cnt (upF ls (4*v+1) (ls (4*v+1)++[(u:Int)])) (upF hd (4*v+1) (m+9)) rv R hr H' (m+10)∧
  To 365 (at' 6 [1,1,1,1,1,1,1,1,1,1,1,1,0,1,0,0,1,0,0,1,0,1,0,0,1,0,0,1,0,0,1,0,0,1,0]) (sM9 cnt L i v u k) H (m+8) .normal (sM9 cnt L i v u k) H' (m+10):=by
 have fin:=Qft hB hN hR (4*v+1) (by omega) (S9_i (by omega)) (u:Int)
 have hlay:=Qcn (n:=4*cnt) (k:=4*v+1) (F:=F) (x:=.sl (m+9) 0 ((ls (4*v+1)).length+1) none) (by omega)
 have hcell:=Qbq (n:=4*cnt) (k:=4*v+1) (F:=F) (by omega)
 have h2:gt H 2=some (.row 86 none (cellsF (4*cnt) F)):=hN.row
 obtain⟨h0,h1,h3,h4,h6,h7⟩:=hB
 have hLf:=Qaq L
 generalize hC2:cellsF (4*cnt) (upF F (4*v+1) (.sl (m+9) 0 ((ls (4*v+1)).length+1) none))=C2 at*
 by_cases hnil:ls (4*v+1)=[]
 ·clear hk
  rw[hN.nil _ (by omega) (S9_i (by omega)) hnil]at hcell
  have hf:=fin (pt (pt (pt H (m+8) (.row 3 none [i6 (u:Int)])) (m+9) (.row 3 (some 1) [i6 (u:Int)])) 2 (.row 86 none C2)) (fun i i1 i2 i3 i4=>by rw[Qaa,if_neg i1,Qaa,if_neg i3,Qaa,if_neg i2]) (by rw[Qaa,if_pos rfl]) (by rw[Qaa,if_neg (by omega),Qaa,if_pos rfl,hnil];rfl)
  refine⟨_,hf.1,hf.2.1,hf.2.2,?_⟩
  clear hf fin hN hR
  rw[hnil]at hlay hC2
  generalize cellsF (4*cnt) F=C1 at*
  refine To.of_vc (n:=100) (hs:=[lo_ 235 (ca9 g rv (nv9 cnt)) (nv9 cnt),pl 237,lo_ 239 (.row 86 none C1) .nils,(242,.an 1 [i6 (u:Int)]),lo_ 232 (ca9 g rv (nv9 cnt)) (nv9 cnt),pl 243,so (.row 86 none C1) C2,toO (sM9 cnt L i v u k)]) fun nx0 lg G hG=>?_
  exact m_ (p:=let z1:=headF (dropF (0+2) [i6 g,rv,nv9 cnt]);let z2:=pt H (m+8) (O.row 3 none [i6 ↑u]);let z3:=(↑v:Int);let z4:=V.sl 7 0 cnt (some (cnt-cnt));let z0:=pt z2 (m+8+1) (O.row 3 (some 1) [i6 ↑u]);An [_,z1=some (nv9 cnt),An [(0:Int)≤z3,z3<(↑cnt:Int)],_,headF (dropF (0+v*4+1) C1)=some V.nils,An [srcV z2 1 (V.sl (m+8) 0 1 (some 0))=some (1,[i6 ↑u]),1≤9223372036854775807,1*8≤140737488355328],gt z0 3=(some (ca9 g rv (nv9 cnt))),z1=some (nv9 cnt),An [(0:Int)≤z3,z3<(↑cnt:Int)],An [gt z0 2=(some (O.row 86 none C1)),layE (0+v*4+1) C1 [V.sl (m+8+1) 0 1 none]=some C2],G Ex.normal (sM9 cnt L i v u k) (pt z0 2 (O.row 86 none C2)) (m+8+1+1) ([2]++([]++lg)),Sm (V.ptr 0 0),Sm (V.ptr 1 0),Sm (i6 ↑cnt),Sm (V.ptr 3 0),Sm (pv9 cnt),Sm (V.im cnt (it L)),Sm (V.ptr 6 0),z4=z4,Sm (i6 ↑i),Sm (i6 ↑v),Sm (i6 ↑u),Sm (i6 ↑k),_]) ⟨h3,gq,a_,h2,(by (rw[show 0+v*4+1=4*v+1 by omega];first|exact hcell|exact hlay)),⟨Qan (by exact gq),a_⟩,gq,gq,a_,⟨gq,(by (rw[show 0+v*4+1=4*v+1 by omega];first|exact hcell|exact hlay))⟩,aq,aq,aq,aq,aq,aq,aq,aq,aq,aq,aq,aq,aq,tq⟩
 ·obtain ⟨o1, o2, o3, o4, o5⟩ := hN.own _ (by omega) (S9_i (by omega)) hnil
  have hkd:=hk hnil
  rw[o1]at hcell
  generalize hd (4*v+1)=h9 at*
  obtain⟨kk,rfl⟩: ∃kk,h9=kk+8:=⟨h9-8,by omega⟩
  rw[hkd]at hcell o5
  have o5:gt H (kk+8)=some (.row 3 (some 1) (ints (ls (4*v+1)))):=o5
  have hcell:headF (dropF (4*v+1) (cellsF (4*cnt) F))=some (.sl (kk+8) 0 (ls (4*v+1)).length none):=hcell
  have il:=Qal (ls (4*v+1))
  have hif:=Qad (ls (4*v+1))
  have ia:ints (ls (4*v+1)++[(u:Int)])=ints (ls (4*v+1))++[i6 (u:Int)]:=Qcw _ _
  have hf:=fin (pt (pt (pt (pt H (m+8) (.row 3 none [i6 (u:Int)])) (kk+8) .dead) (m+9) (.row 3 (some 1) (ints (ls (4*v+1))++[i6 (u:Int)]))) 2 (.row 86 none C2)) (fun i i1 i2 i3 i4=>by rw[Qaa,if_neg i1,Qaa,if_neg i3,Qaa,if_neg (i4 hnil),Qaa,if_neg i2]) (by rw[Qaa,if_pos rfl]) (by rw[Qaa,if_neg (by omega),Qaa,if_pos rfl,ia])
  refine⟨_,hf.1,hf.2.1,hf.2.2,?_⟩
  clear hf fin hN hR hnil o1 hk ia
  generalize ints (ls (4*v+1))=l at*
  generalize (ls (4*v+1)).length=ll at*
  generalize cellsF (4*cnt) F=C1 at*
  refine To.of_vc (n:=100) (hs:=[lo_ 235 (ca9 g rv (nv9 cnt)) (nv9 cnt),pl 237,lo_ 239 (.row 86 none C1) (.sl (kk+8) 0 ll none),(242,.aop (.row 3 (some 1) l) 1 [i6 (u:Int)]),lo_ 232 (ca9 g rv (nv9 cnt)) (nv9 cnt),pl 243,so (.row 86 none C1) C2,toO (sM9 cnt L i v u k)]) fun nx0 lg G hG=>?_
  exact m_ (p:=let z2:=headF (dropF (0+2) [i6 g,rv,nv9 cnt]);let z3:=(↑v:Int);let z4:=V.sl 7 0 cnt (some (cnt-cnt));let z7:=[i6 ↑u];let z1:=pt H (m+8) (O.row 3 none z7);let z0:=pt (pt z1 (kk+8) O.dead) (m+8+1) (O.row 3 (some 1) (l++z7));An [_,z2=some (nv9 cnt),An [(0:Int)≤z3,z3<(↑cnt:Int)],_,headF (dropF (0+v*4+1) C1)=some (V.sl (kk+8) 0 ll none),srcV z1 1 (V.sl (m+8) 0 1 (some 0))=some (1,z7),An [gt z1 (kk+8)=some (O.row 3 (some 1) l),l.length=ll*1,1≤1,ll+1≤9223372036854775807,(ll+1)*8≤140737488355328,atoms z7=true],gt z0 3=(some (ca9 g rv (nv9 cnt))),z2=some (nv9 cnt),An [(0:Int)≤z3,z3<(↑cnt:Int)],An [gt z0 2=(some (O.row 86 none C1)),layE (0+v*4+1) C1 [V.sl (m+8+1) 0 (ll+1) none]=some C2],G Ex.normal (sM9 cnt L i v u k) (pt z0 2 (O.row 86 none C2)) (m+8+1+1) ([2]++([kk+8]++lg)),Sm (V.ptr 0 0),Sm (V.ptr 1 0),Sm (i6 ↑cnt),Sm (V.ptr 3 0),Sm (pv9 cnt),Sm (V.im cnt (it L)),Sm (V.ptr 6 0),z4=z4,Sm (i6 ↑i),Sm (i6 ↑v),Sm (i6 ↑u),Sm (i6 ↑k),_]) ⟨h3,gq,a_,h2,(by (rw[show 0+v*4+1=4*v+1 by omega];first|exact hcell|exact hlay)),Qan (by exact gq),⟨gq,aq,aq,aq,aq,gq⟩,gq,gq,a_,⟨gq,(by (rw[show 0+v*4+1=4*v+1 by omega];first|exact hcell|exact hlay))⟩,aq,aq,aq,aq,aq,aq,aq,aq,aq,aq,aq,aq,aq,tq⟩
theorem push_o(i v n:Nat)(A:List V)(hA:HfL A)(c b p z:Nat)(hv:v<cnt)(hl:(ls (4*v+3)).length≤100000)(hk:ls (4*v+3)≠[]→kd (4*v+3)=true)(hp:F (4*v)=i6 (p:Nat))(hp0:p≠0)(hz:b%p=z): ∃H':T O,MB dc W g qc cnt a ow rv H'∧NL cnt (upF F (4*v+3) (.sl (m+9) 0 ((ls (4*v+3)).length+1) none)) (upF ls (4*v+3) (ls (4*v+3)++[(z:Int)])) (upF hd (4*v+3) (m+9)) (upF kd (4*v+3) true) H' (m+10)∧RO9 cnt (upF ls (4*v+3) (ls (4*v+3)++[(z:Int)])) (upF hd (4*v+3) (m+9)) rv R hr H' (m+10)∧
  To 365 (at' 6 [1,1,1,1,1,1,1,1,1,1,1,1,0,1,0,0,1,0,0,1,1,1,1,0,0,1,0,0,1,1,1]) (sN9 cnt L i v n A c b) H (m+8) .normal (sN9 cnt L i v n A c b) H' (m+10):=by
 have fin:=Qft hB hN hR (4*v+3) (by omega) (S9_i (by omega)) (z:Int)
 have hlay:=Qcn (n:=4*cnt) (k:=4*v+3) (F:=F) (x:=.sl (m+9) 0 ((ls (4*v+3)).length+1) none) (by omega)
 have hcell:=Qbq (n:=4*cnt) (k:=4*v+3) (F:=F) (by omega)
 have h2:gt H 2=some (.row 86 none (cellsF (4*cnt) F)):=hN.row
 obtain⟨h0,h1,h3,h4,h6,h7⟩:=hB
 have hLf:=Qaq L
 have hw:=Qcp (G:=Qac Pg) (t:=3) (a:=b) (b:=p) (by omega)
 rw[hz]at hw
 have hcd:=Qbq (n:=4*cnt) (k:=4*v) (F:=F) (by omega)
 rw[hp]at hcd
 generalize hC2:cellsF (4*cnt) (upF F (4*v+3) (.sl (m+9) 0 ((ls (4*v+3)).length+1) none))=C2 at*
 by_cases hnil:ls (4*v+3)=[]
 ·clear hk
  rw[hN.nil _ (by omega) (S9_i (by omega)) hnil]at hcell
  have hf:=fin (pt (pt (pt H (m+8) (.row 3 none [i6 (z:Int)])) (m+9) (.row 3 (some 1) [i6 (z:Int)])) 2 (.row 86 none C2)) (fun i i1 i2 i3 i4=>by rw[Qaa,if_neg i1,Qaa,if_neg i3,Qaa,if_neg i2]) (by rw[Qaa,if_pos rfl]) (by rw[Qaa,if_neg (by omega),Qaa,if_pos rfl,hnil];rfl)
  refine⟨_,hf.1,hf.2.1,hf.2.2,?_⟩
  clear hf fin hN hR
  rw[hnil]at hlay hC2
  generalize cellsF (4*cnt) F=C1 at*
  refine To.of_vc (n:=100) (hs:=[lo_ 347 (ca9 g rv (nv9 cnt)) (nv9 cnt),pl 349,lo_ 351 (.row 86 none C1) .nils,lo_ 354 (ca9 g rv (nv9 cnt)) (nv9 cnt),pl 356,lo_ 358 (.row 86 none C1) (i6 (p:Nat)),va 359 (i6 (z:Nat)),(361,.an 1 [i6 (z:Int)]),lo_ 344 (ca9 g rv (nv9 cnt)) (nv9 cnt),pl 362,so (.row 86 none C1) C2,toO (sN9 cnt L i v n A c b)]) fun nx0 lg G hG=>?_
  exact m_ (p:=let z1:=headF (dropF (0+2) [i6 g,rv,nv9 cnt]);let z2:=(↑v:Int);let z5:=pt H (m+8) (O.row 3 none [i6 ↑z]);let z6:=V.sl 7 0 cnt (some (cnt-cnt));let z7:=some (nv9 cnt);let z8:=(↑cnt:Int);let z0:=pt z5 (m+8+1) (O.row 3 (some 1) [i6 ↑z]);An [_,z1=z7,An [(0:Int)≤z2,z2<z8],_,headF (dropF (0+v*4+3) C1)=some V.nils,_,z1=z7,An [(0:Int)≤z2,z2<z8],_,headF (dropF (0+v*4+0) C1)=some (i6 ↑p),_,An [srcV z5 1 (V.sl (m+8) 0 1 (some 0))=some (1,[i6 ↑z]),1≤9223372036854775807,1*8≤140737488355328],gt z0 3=(some (ca9 g rv (nv9 cnt))),z1=z7,An [(0:Int)≤z2,z2<z8],An [gt z0 2=(some (O.row 86 none C1)),layE (0+v*4+3) C1 [V.sl (m+8+1) 0 1 none]=some C2],G Ex.normal (sN9 cnt L i v n A c b) (pt z0 2 (O.row 86 none C2)) (m+8+1+1) ([2]++([]++lg)),Sm (V.ptr 0 0),Sm (V.ptr 1 0),Sm (i6 ↑cnt),Sm (V.ptr 3 0),Sm (pv9 cnt),Sm (V.im cnt (it L)),Sm (V.ptr 6 0),z6=z6,Sm (i6 ↑i),Sm (i6 ↑v),Sm (V.im n A),Sm (i6 ↑c),Sm (i6 ↑b),_]) ⟨h3,gq,a_,h2,(by (rw[show 0+v*4+3=4*v+3 by omega];first|exact hcell|exact hlay)),h3,gq,a_,h2,(by (rw[show 0+v*4+0=4*v by omega];exact hcd)),hw,⟨Qan (by exact gq),a_⟩,gq,gq,a_,⟨gq,(by (rw[show 0+v*4+3=4*v+3 by omega];first|exact hcell|exact hlay))⟩,aq,aq,aq,aq,aq,aq,aq,aq,aq,aq,aq,aq,aq,aq,tq⟩
 ·obtain ⟨o1, o2, o3, o4, o5⟩ := hN.own _ (by omega) (S9_i (by omega)) hnil
  have hkd:=hk hnil
  rw[o1]at hcell
  generalize hd (4*v+3)=h9 at*
  obtain⟨kk,rfl⟩: ∃kk,h9=kk+8:=⟨h9-8,by omega⟩
  rw[hkd]at hcell o5
  have o5:gt H (kk+8)=some (.row 3 (some 1) (ints (ls (4*v+3)))):=o5
  have hcell:headF (dropF (4*v+3) (cellsF (4*cnt) F))=some (.sl (kk+8) 0 (ls (4*v+3)).length none):=hcell
  have il:=Qal (ls (4*v+3))
  have hif:=Qad (ls (4*v+3))
  have ia:ints (ls (4*v+3)++[(z:Int)])=ints (ls (4*v+3))++[i6 (z:Int)]:=Qcw _ _
  have hf:=fin (pt (pt (pt (pt H (m+8) (.row 3 none [i6 (z:Int)])) (kk+8) .dead) (m+9) (.row 3 (some 1) (ints (ls (4*v+3))++[i6 (z:Int)]))) 2 (.row 86 none C2)) (fun i i1 i2 i3 i4=>by rw[Qaa,if_neg i1,Qaa,if_neg i3,Qaa,if_neg (i4 hnil),Qaa,if_neg i2]) (by rw[Qaa,if_pos rfl]) (by rw[Qaa,if_neg (by omega),Qaa,if_pos rfl,ia])
  refine⟨_,hf.1,hf.2.1,hf.2.2,?_⟩
  clear hf fin hN hR hnil o1 hk ia
  generalize ints (ls (4*v+3))=l at*
  generalize (ls (4*v+3)).length=ll at*
  generalize cellsF (4*cnt) F=C1 at*
  refine To.of_vc (n:=100) (hs:=[lo_ 347 (ca9 g rv (nv9 cnt)) (nv9 cnt),pl 349,lo_ 351 (.row 86 none C1) (.sl (kk+8) 0 ll none),lo_ 354 (ca9 g rv (nv9 cnt)) (nv9 cnt),pl 356,lo_ 358 (.row 86 none C1) (i6 (p:Nat)),va 359 (i6 (z:Nat)),(361,.aop (.row 3 (some 1) l) 1 [i6 (z:Int)]),lo_ 344 (ca9 g rv (nv9 cnt)) (nv9 cnt),pl 362,so (.row 86 none C1) C2,toO (sN9 cnt L i v n A c b)]) fun nx0 lg G hG=>?_
  exact m_ (p:=let z1:=headF (dropF (0+2) [i6 g,rv,nv9 cnt]);let z3:=(↑v:Int);let z6:=V.sl 7 0 cnt (some (cnt-cnt));let z7:=some (nv9 cnt);let z8:=(↑cnt:Int);let z9:=[i6 ↑z];let z2:=pt H (m+8) (O.row 3 none z9);let z0:=pt (pt z2 (kk+8) O.dead) (m+8+1) (O.row 3 (some 1) (l++z9));An [_,z1=z7,An [(0:Int)≤z3,z3<z8],_,headF (dropF (0+v*4+3) C1)=some (V.sl (kk+8) 0 ll none),_,z1=z7,An [(0:Int)≤z3,z3<z8],_,headF (dropF (0+v*4+0) C1)=some (i6 ↑p),_,srcV z2 1 (V.sl (m+8) 0 1 (some 0))=some (1,z9),An [gt z2 (kk+8)=some (O.row 3 (some 1) l),l.length=ll*1,1≤1,ll+1≤9223372036854775807,(ll+1)*8≤140737488355328,atoms z9=true],gt z0 3=(some (ca9 g rv (nv9 cnt))),z1=z7,An [(0:Int)≤z3,z3<z8],An [gt z0 2=(some (O.row 86 none C1)),layE (0+v*4+3) C1 [V.sl (m+8+1) 0 (ll+1) none]=some C2],G Ex.normal (sN9 cnt L i v n A c b) (pt z0 2 (O.row 86 none C2)) (m+8+1+1) ([2]++([kk+8]++lg)),Sm (V.ptr 0 0),Sm (V.ptr 1 0),Sm (i6 ↑cnt),Sm (V.ptr 3 0),Sm (pv9 cnt),Sm (V.im cnt (it L)),Sm (V.ptr 6 0),z6=z6,Sm (i6 ↑i),Sm (i6 ↑v),Sm (V.im n A),Sm (i6 ↑c),Sm (i6 ↑b),_]) ⟨h3,gq,a_,h2,(by (rw[show 0+v*4+3=4*v+3 by omega];first|exact hcell|exact hlay)),h3,gq,a_,h2,(by (rw[show 0+v*4+0=4*v by omega];exact hcd)),hw,Qan (by exact gq),⟨gq,aq,aq,aq,aq,gq⟩,gq,gq,a_,⟨gq,(by (rw[show 0+v*4+3=4*v+3 by omega];first|exact hcell|exact hlay))⟩,aq,aq,aq,aq,aq,aq,aq,aq,aq,aq,aq,aq,aq,aq,tq⟩
end
theorem wrU{n:Int}(h1:0≤n)(h2:n≤18446744073709551615):wr .u64 n=n:=Qg9 h1 h2
structure Q6(cnt:Nat)(ow:Nat→Bool)(F:Nat→V)(ls:Nat→List Int)(kd:Nat→Bool)(R:List (List Int)):Prop where
 num: ∀v,v<cnt→∃c:Int,(c=2∨c=3)∧F (4*v)=i6 c
 no: ∀v,v<cnt→∀z∈ls (4*v+2),0≤z∧z<R.length
 nl: ∀v,v<cnt→(ls (4*v+2)).length≤3
 rn:R.length≤6
 ow: ∀v,v<cnt→ow v=true→ls (4*v+2)≠[]
 rl: ∀L∈R,L.length=2∨L.length=3
 fe: ∀v,v<cnt→∀z∈ls (4*v+1),0≤z∧z<cnt
 fl: ∀v,v<cnt→(ls (4*v+1)).length≤5
 ol: ∀v,v<cnt→(ls (4*v+3)).length≤5000
 kf: ∀v,v<cnt→ls (4*v+1)≠[]→kd (4*v+1)=true
 ko: ∀v,v<cnt→ls (4*v+3)≠[]→kd (4*v+3)=true
def M6(dc:List V)(W:List Nat)(g:Int)(P:List Pc)(cnt:Nat)(Y:(Nat→List Int)→Prop)(H:T O)(nx:Nat):Prop:=
 ∃(m a:Nat)(ow:Nat→Bool)(rv:V)(F:Nat→V)(ls:Nat→List Int)(hd:Nat→Nat)(kd:Nat→Bool)(R:List (List Int))(hr:Nat),nx=m+8∧MB dc W g (pcL P) cnt a ow rv H∧NL cnt F ls hd kd H nx∧RO9 cnt ls hd rv R hr H nx∧Q6 cnt ow F ls kd R∧Y ls
theorem M6.mono{dc:List V}{W:List Nat}{g:Int}{P:List Pc}{cnt:Nat}{Y Y':(Nat→List Int)→Prop}{H:T O}{nx:Nat}(h:M6 dc W g P cnt Y H nx)(hy: ∀ls,Y ls→Y' ls):M6 dc W g P cnt Y' H nx:=by
 obtain⟨m,a,ow,rv,F,ls,hd,kd,R,hr,e,hB,hN,hR,hQ,hY⟩:=h
 exact⟨m,a,ow,rv,F,ls,hd,kd,R,hr,e,hB,hN,hR,hQ,hy ls hY⟩
theorem m6_start{dc:List V}{W:List Nat}{g:Int}{P:List Pc}{cnt:Nat}{H:T O}{nx:Nat}(hc:1≤cnt∧cnt≤4)(h:MQ dc W g P cnt (cnt+2) 3 H nx):M6 dc W g P cnt (fun ls=>∀v,v<cnt→ls (4*v+1)=[]∧ls (4*v+3)=[]) H nx:=by
 obtain⟨m,a,ow,rv,F,ls,hd,kd,R,hr,e,ha,hB,hN,hR,hQ,hK⟩:=h
 have hrn:=hQ.rn
 refine⟨m,a,ow,rv,F,ls,hd,kd,R,hr,e,hB,hN,hR,⟨hQ.num,hQ.no,hQ.len,by omega,hQ.ow,hQ.rl,fun v hv z hz=>?_,fun v hv=>?_,fun v hv=>?_,fun v hv h=>absurd (hQ.fr v hv).1 h,fun v hv h=>absurd (hQ.fr v hv).2 h⟩,hQ.fr⟩
 ·rw[(hQ.fr v hv).1]at hz;cases hz
 ·rw[(hQ.fr v hv).1];decide
 ·rw[(hQ.fr v hv).2];decide
abbrev sK9(cnt:Nat)(q:List Nat)(i v u:Nat):List (Nat×V):=[(1,.ptr 0 0),(2,.ptr 1 0),(3,i6 (cnt:Nat)),(4,.ptr 3 0),(5,pv9 cnt),(6,.im cnt (it q)),(7,.ptr 6 0),(9,.sl 7 0 cnt (some (cnt-cnt))),(14,i6 (i:Nat)),(15,i6 (v:Nat)),(16,i6 (u:Nat))]
section
variable {dc:List V} {W:List Nat} {g:Int} {P:List Pc} {cnt:Nat} (L:List Nat)
 (hc:1≤cnt∧cnt≤4) (hP:P.length=cnt) (hPo: ∀x∈P,PcOk x) (hl:L.length=cnt) (hm: ∀x∈L,x<cnt) (hnd:L.Nodup)
include hc hP hPo hl hm hnd
abbrev Y10(cnt:Nat)(L:List Nat)(i v u k:Nat)(ls:Nat→List Int):Prop:=(∀w,w<cnt→w≠v→w∉L.take i→ls (4*w+1)=[]∧ls (4*w+3)=[])∧ls (4*v+3)=[]∧(ls (4*v+1)).length≤u+(if u∈L.take k then 1 else 0)
theorem fr_in(i v u k:Nat)(hi:i<cnt)(hv:v<cnt)(hu:u<cnt)(hk:k<i)(H:T O)(nx:Nat)(h:M6 dc W g P cnt (Y10 cnt L i v u k) H nx): ∃H' nx',M6 dc W g P cnt (Y10 cnt L i v u (k+1)) H' nx'∧To 365 (at' 6 [1,1,1,1,1,1,1,1,1,1,1,1,0,1,0,0,1,0,0,1,0,1,0,0,1,0,0,1,0,0]) (sM9 cnt L i v u k) H nx .normal (sM9 cnt L i v u (k+1)) H' nx':=by
 obtain⟨m,a,ow,rv,F,ls,hd,kd,R,hr,rfl,hB,hN,hR,hQ,hY⟩:=h
 have hd1:=Qgj (l:=L) (k:=k) (by omega)
 have htk:L.take (k+1)=L.take k++[L.getD k 0]:=by rw[List.take_add_one,List.getElem?_eq_getElem (by omega),List.getD_eq_getElem?_getD,List.getElem?_eq_getElem (by omega)];rfl
 have hLf:=Qaq L
 obtain⟨x,hx⟩: ∃x,P[i]? =some x:=⟨P[i]'(by omega),List.getElem?_eq_getElem _⟩
 have hpc:=(Qn9 hx).2.1
 have hxf:=(hPo x (List.mem_of_getElem? hx)).f
 have s1:=shr_8 (G:=Qac Pg) (t:=5) (x:=x.f) (k:=k) (K:=.u64) (by omega)
 have s2:=and1_8 (G:=Qac Pg) (t:=5) (x:=x.f/2^k)
 have h4:gt H 4=some (.row 88 none (pcL P)):=hB.h4
 have ynext: ∀ls:Nat→List Int,Y10 cnt L i v u k ls→Y10 cnt L i v u (k+1) ls:=fun ls hY=>⟨hY.1,hY.2.1,Nat.le_trans hY.2.2 (by
  grind)⟩
 have stay:To 365 (at' 6 [1,1,1,1,1,1,1,1,1,1,1,1,0,1,0,0,1,0,0,1,0,1,0,0,1,0,0,1,0,0]) (sM9 cnt L i v u k) H (m+8) .normal (sM9 cnt L i v u (k+1)) H (m+8)→∃H' nx',M6 dc W g P cnt (Y10 cnt L i v u (k+1)) H' nx'∧To 365 (at' 6 [1,1,1,1,1,1,1,1,1,1,1,1,0,1,0,0,1,0,0,1,0,1,0,0,1,0,0,1,0,0]) (sM9 cnt L i v u k) H (m+8) .normal (sM9 cnt L i v u (k+1)) H' nx':=fun h=>⟨H,m+8,⟨m,a,ow,rv,F,ls,hd,kd,R,hr,rfl,hB,hN,hR,hQ,ynext ls hY⟩,h⟩
 by_cases he:L.getD k 0=u
 ·rcases Nat.mod_two_eq_zero_or_one (x.f / 2 ^ k) with hb | hb
  ·refine stay ?_
   rw[hb]at s2
   clear stay ynext hB hN hR hQ hY htk
   rw[he]at hd1
   generalize x.f/2^k=y1 at*
   generalize x.f=y0 at*
   generalize pcL P=PL at*
   refine To.of_vc (n:=100) (hs:=[yes 210,pl 215,ld 216 (i6 (u:Nat)),yes 218,pl 222,lo_ 224 (.row 88 none PL) (w8 (y0:Nat)),nu 226 (k:Nat),va 227 (w8 (y1:Nat)),va 228 (w8 (0:Nat)),nu 212 (k+1:Nat),toO (sM9 cnt L i v u (k+1))]) fun nx0 lg G hG=>?_
   exact m_ (p:=let z0:=(↑k:Int);let z1:=V.sl 7 0 cnt (some (cnt-cnt));let z2:=(↑i:Int);An [decide (z0<z2)=true,An [(0:Int)≤z0,z0<(↑cnt:Int)],_,((↑u:Int)==(↑u:Int))=true,An [(0:Int)≤z2,z2<(↑cnt:Int)],_,headF (dropF (0+i*4+1) PL)=some (w8 ↑y0),wr .u64 z0=z0,_,_,wr .i64 (z0+(1:Int))=(↑(k+1):Int),G Ex.normal (sM9 cnt L i v u (k+1)) H (m+8) lg,Sm (V.ptr 0 0),Sm (V.ptr 1 0),Sm (i6 ↑cnt),Sm (V.ptr 3 0),Sm (pv9 cnt),Sm (V.im cnt (it L)),Sm (V.ptr 6 0),z1=z1,Sm (i6 ↑i),Sm (i6 ↑v),Sm (i6 ↑u),Sm (i6 ↑(k+1)),_]) ⟨aq,a_,hd1,aq,a_,h4,(by (rw[show 0+i*4+1=4*i+1 by omega];exact hpc)),wrU (by omega) (by omega),s1,s2,aq,aq,aq,aq,aq,aq,aq,aq,aq,aq,aq,aq,aq,aq,tq⟩
  ·rw [hb] at s2
   have hu':u∉L.take k:=fun h=>by
    grind[List.getElem_of_mem,List.getElem_inj]
   have hly:(ls (4*v+1)).length≤u:=by have:=hY.2.2;rw[if_neg hu']at this;exact this
   obtain⟨H',hB',hN',hR',ht⟩:=push_f L hc hB hN hR i v u k hv (by omega) (hQ.kf v hv)
   refine⟨H',m+10,⟨m+2,a,ow,_,_,_,_,_,_,_,rfl,hB',hN',hR',⟨fun w hw=>?_,fun w hw z hz=>?_,fun w hw=>?_,hQ.rn,fun w hw ho=>?_,hQ.rl,fun w hw z hz=>?_,fun w hw=>?_,fun w hw=>?_,fun w hw hne=>?_,fun w hw hne=>?_⟩,fun w hw hwv hwn=>?_,?_,?_⟩,?_⟩
   ·rw[Qah (by omega)];exact hQ.num w hw
   ·rw[Qah (by omega)]at hz;exact hQ.no w hw z hz
   ·rw[Qah (by omega)];exact hQ.nl w hw
   ·rw[Qah (by omega)];exact hQ.ow w hw ho
   ·by_cases hwv : w = v
    ·subst hwv
     rw[Qai]at hz
     rcases List.mem_append.1 hz with hz|hz
     ·exact hQ.fe w hw z hz
     grind
    ·rw[Qah (by omega)]at hz;exact hQ.fe w hw z hz
   ·by_cases hwv : w = v
    ·grind[Qai]
    ·rw[Qah (by omega)];exact hQ.fl w hw
   ·rw[Qah (by omega)];exact hQ.ol w hw
   ·by_cases hwv : w = v
    ·subst hwv;rw[Qai]
    ·rw[Qah (by omega)]at hne⊢;exact hQ.kf w hw hne
   ·rw[Qah (by omega)]at hne⊢;exact hQ.ko w hw hne
   ·grind[Qah]
   ·grind[Qah]
   ·grind[Qai]
   ·clear stay ynext hB hN hR hQ hY htk hB' hN' hR'
    rw[he]at hd1
    generalize x.f/2^k=y1 at*
    generalize x.f=y0 at*
    generalize pcL P=PL at*
    refine To.seq (a:=(at' 6 [1,1,1,1,1,1,1,1,1,1,1,1,0,1,0,0,1,0,0,1,0,1,0,0,1,0,0,1,0,0,0])) (b:=(at' 6 [1,1,1,1,1,1,1,1,1,1,1,1,0,1,0,0,1,0,0,1,0,1,0,0,1,0,0,1,0,0,1])) (sl1:=sM9 cnt L i v u k) (H1:=H) (nx1:=m+8) (by kernel_rfl) ?_ (To.seq (a:=(at' 6 [1,1,1,1,1,1,1,1,1,1,1,1,0,1,0,0,1,0,0,1,0,1,0,0,1,0,0,1,0,0,1,0])) (b:=(at' 6 [1,1,1,1,1,1,1,1,1,1,1,1,0,1,0,0,1,0,0,1,0,1,0,0,1,0,0,1,0,0,1,1])) (sl1:=sM9 cnt L i v u k) (H1:=H') (nx1:=m+10) (by kernel_rfl) (To.blockN (id:=11) (b:=(at' 6 [1,1,1,1,1,1,1,1,1,1,1,1,0,1,0,0,1,0,0,1,0,1,0,0,1,0,0,1,0,0,1,0,0])) (by kernel_rfl) (fun h=>by cases h) (To.seq (a:=(at' 6 [1,1,1,1,1,1,1,1,1,1,1,1,0,1,0,0,1,0,0,1,0,1,0,0,1,0,0,1,0,0,1,0,0,0])) (b:=(at' 6 [1,1,1,1,1,1,1,1,1,1,1,1,0,1,0,0,1,0,0,1,0,1,0,0,1,0,0,1,0,0,1,0,0,1])) (sl1:=sM9 cnt L i v u k++[(230,.bool true)]) (H1:=H) (nx1:=m+8) (by kernel_rfl) ?_ (To.cond (x:=(at' 6 [1,1,1,1,1,1,1,1,1,1,1,1,0,1,0,0,1,0,0,1,0,1,0,0,1,0,0,1,0,0,1,0,0,1,0])) (y:=.skip) (o:=.tmp 230) (by kernel_rfl) true rfl (To.fewer (sl1:=sM9 cnt L i v u k) ht ⟨rfl,rfl,rfl,rfl,rfl,rfl,rfl,rfl,rfl,rfl,rfl,rfl,trivial⟩)))) ?_)
    ·refine To.of_vc (n := 100) (hs := [yes 210, toO (sM9 cnt L i v u k)]) fun nx0 lg G hG => ?_
     exact m_ (p:=An [decide ((↑k:Int)<(↑i:Int))=true,G Ex.normal (sM9 cnt L i v u k) H (m+8) lg,Sm (V.ptr 0 0),Sm (V.ptr 1 0),Sm (i6 ↑cnt),Sm (V.ptr 3 0),Sm (pv9 cnt),Sm (V.im cnt (it L)),Sm (V.ptr 6 0),Sm (V.sl 7 0 cnt (some (cnt-cnt))),Sm (i6 ↑i),Sm (i6 ↑v),Sm (i6 ↑u),Sm (i6 ↑k),_]) ⟨aq,aq,aq,aq,aq,aq,aq,aq,aq,aq,aq,aq,aq,aq,tq⟩
    ·refine To.of_vc (n := 100) (hs := [pl 215, ld 216 (i6 (u : Nat)), yes 218, pl 222, lo_ 224 (.row 88 none PL) (w8 (y0 : Nat)), nu 226 (k : Nat), va 227 (w8 (y1 : Nat)), va 228 (w8 (1 : Nat)), toO (sM9 cnt L i v u k ++ [(230, .bool true)])]) fun nx0 lg G hG => ?_
     exact m_ (p:=let z0:=(↑k:Int);let z1:=V.sl 7 0 cnt (some (cnt-cnt));An [An [(0:Int)≤z0,z0<(↑cnt:Int)],_,((↑u:Int)==(↑u:Int))=true,An [(0:Int)≤(↑i:Int),(↑i:Int)<(↑cnt:Int)],_,headF (dropF (0+i*4+1) PL)=some (w8 ↑y0),wr .u64 z0=z0,_,_,G Ex.normal (sM9 cnt L i v u k++[(230,V.bool true)]) H (m+8) lg,Sm (V.ptr 0 0),Sm (V.ptr 1 0),Sm (i6 ↑cnt),Sm (V.ptr 3 0),Sm (pv9 cnt),Sm (V.im cnt (it L)),Sm (V.ptr 6 0),z1=z1,Sm (i6 ↑i),Sm (i6 ↑v),Sm (i6 ↑u),Sm (i6 ↑k),V.bool ((↑(1:Nat):Int)==(1:Int))=V.bool true,_]) ⟨a_,hd1,aq,a_,h4,(by (rw[show 0+i*4+1=4*i+1 by omega];exact hpc)),wrU (by omega) (by omega),s1,s2,aq,aq,aq,aq,aq,aq,aq,aq,aq,aq,aq,aq,aq,aq,tq⟩
    ·refine To.of_vc (n := 100) (hs := [nu 212 (k + 1 : Nat), toO (sM9 cnt L i v u (k + 1))]) fun nx0 lg G hG => ?_
     exact m_ (p:=An [wr .i64 ((↑k:Int)+(1:Int))=(↑(k+1):Int),G Ex.normal (sM9 cnt L i v u (k+1)) H' (m+10) lg,Sm (V.ptr 0 0),Sm (V.ptr 1 0),Sm (i6 ↑cnt),Sm (V.ptr 3 0),Sm (pv9 cnt),Sm (V.im cnt (it L)),Sm (V.ptr 6 0),Sm (V.sl 7 0 cnt (some (cnt-cnt))),Sm (i6 ↑i),Sm (i6 ↑v),Sm (i6 ↑u),Sm (i6 ↑(k+1)),_]) ⟨aq,aq,aq,aq,aq,aq,aq,aq,aq,aq,aq,aq,aq,aq,tq⟩
 ·refine stay ?_
  clear stay ynext hB hN hR hQ hY htk s1 s2 hpc
  generalize L.getD k 0=p at*
  refine To.of_vc (n:=100) (hs:=[yes 210,pl 215,ld 216 (i6 (p:Nat)),no 218,nu 212 (k+1:Nat),toO (sM9 cnt L i v u (k+1))]) fun nx0 lg G hG=>?_
  have hne:((p:Nat):Int)≠(u:Nat):=by omega
  exact m_ (p:=let z0:=(↑k:Int);let z1:=V.sl 7 0 cnt (some (cnt-cnt));An [decide (z0<(↑i:Int))=true,An [(0:Int)≤z0,z0<(↑cnt:Int)],_,_,wr .i64 (z0+(1:Int))=(↑(k+1):Int),G Ex.normal (sM9 cnt L i v u (k+1)) H (m+8) lg,Sm (V.ptr 0 0),Sm (V.ptr 1 0),Sm (i6 ↑cnt),Sm (V.ptr 3 0),Sm (pv9 cnt),Sm (V.im cnt (it L)),Sm (V.ptr 6 0),z1=z1,Sm (i6 ↑i),Sm (i6 ↑v),Sm (i6 ↑u),Sm (i6 ↑(k+1)),_]) ⟨aq,a_,hd1,(Qdi hne),aq,aq,aq,aq,aq,aq,aq,aq,aq,aq,aq,aq,aq,aq,tq⟩
end
abbrev sJ9(cnt:Nat)(q:List Nat)(i v:Nat):List (Nat×V):=[(1,.ptr 0 0),(2,.ptr 1 0),(3,i6 (cnt:Nat)),(4,.ptr 3 0),(5,pv9 cnt),(6,.im cnt (it q)),(7,.ptr 6 0),(9,.sl 7 0 cnt (some (cnt-cnt))),(14,i6 (i:Nat)),(15,i6 (v:Nat))]
section
variable {dc:List V} {W:List Nat} {g:Int} {P:List Pc} {cnt:Nat} (L:List Nat)
 (hc:1≤cnt∧cnt≤4) (hP:P.length=cnt) (hPo: ∀x∈P,PcOk x) (hl:L.length=cnt) (hm: ∀x∈L,x<cnt) (hnd:L.Nodup)
include hc hP hPo hl hm hnd
abbrev Y8(cnt:Nat)(L:List Nat)(i v u:Nat)(ls:Nat→List Int):Prop:=(∀w,w<cnt→w≠v→w∉L.take i→ls (4*w+1)=[]∧ls (4*w+3)=[])∧ls (4*v+3)=[]∧(ls (4*v+1)).length≤u
theorem fr_k(i v u:Nat)(hi:i<cnt)(hv:v<cnt)(hu:u<cnt)(H:T O)(nx:Nat)(h:M6 dc W g P cnt (Y8 cnt L i v u) H nx): ∃H' nx',M6 dc W g P cnt (Y8 cnt L i v (u+1)) H' nx'∧To 365 (at' 6 [1,1,1,1,1,1,1,1,1,1,1,1,0,1,0,0,1,0,0,1,0,1,0,0,1,0,0]) (sK9 cnt L i v u) H nx .normal (sK9 cnt L i v u) H' nx':=by
 have hLf:=Qaq L
 have key: ∃e sl H' nx',(e= .exit 10∧sl=sK9 cnt L i v u∧M6 dc W g P cnt (Y8 cnt L i v (u+1)) H' nx')∧To 365 (at' 6 [1,1,1,1,1,1,1,1,1,1,1,1,0,1,0,0,1,0,0,1,0,1,0,0,1,0,0,1,0]) (sM9 cnt L i v u 0) H nx e sl H' nx':=by
  refine To.loop (b:=(at' 6 [1,1,1,1,1,1,1,1,1,1,1,1,0,1,0,0,1,0,0,1,0,1,0,0,1,0,0,1,0,0])) (by kernel_rfl) (fun(k:Nat) H nx=>k≤i∧M6 dc W g P cnt (Y10 cnt L i v u k) H nx) (fun k=>sM9 cnt L i v u k) (fun k=>i-k) (fun e sl H nx=>e= .exit 10∧sl=sK9 cnt L i v u∧M6 dc W g P cnt (Y8 cnt L i v (u+1)) H nx) (fun k H nx hI=>?_) 0 H nx ⟨Nat.zero_le _,h.mono fun ls hy=>⟨hy.1,hy.2.1,by simp;exact hy.2.2⟩⟩
  obtain⟨hk,hM⟩:=hI
  by_cases hlt:k<i
  ·obtain ⟨H', nx', h1, h2⟩ := fr_in L hc hP hPo hl hm hnd i v u k hi hv hu hlt H nx hM
   exact .inl ⟨k+1,H',nx',⟨hlt,h1⟩,by omega,h2⟩
  ·right
   refine⟨.exit 10,sK9 cnt L i v u,H,nx,(fun h=>by cases h),⟨rfl,rfl,hM.mono fun ls hy=>⟨hy.1,hy.2.1,Nat.le_trans hy.2.2 (by split<;>omega)⟩⟩,?_⟩
   refine To.of_vc (n:=100) (hs:=[no 210,toO (sK9 cnt L i v u)]) fun nx0 lg G hG=>?_
   clear h hM
   exact m_ (p:=An [decide ((↑k:Int)<(↑i:Int))=false,G (Ex.exit 10) (sK9 cnt L i v u) H nx lg,Sm (V.ptr 0 0),Sm (V.ptr 1 0),Sm (i6 ↑cnt),Sm (V.ptr 3 0),Sm (pv9 cnt),Sm (V.im cnt (it L)),Sm (V.ptr 6 0),Sm (V.sl 7 0 cnt (some (cnt-cnt))),Sm (i6 ↑i),Sm (i6 ↑v),Sm (i6 ↑u),_]) ⟨aq,aq,aq,aq,aq,aq,aq,aq,aq,aq,aq,aq,aq,tq⟩
 obtain⟨e,sl,H',nx',⟨rfl,rfl,h1⟩,h3⟩:=key
 refine⟨H',nx',h1,To.seq (a:=(at' 6 [1,1,1,1,1,1,1,1,1,1,1,1,0,1,0,0,1,0,0,1,0,1,0,0,1,0,0,0])) (b:=(at' 6 [1,1,1,1,1,1,1,1,1,1,1,1,0,1,0,0,1,0,0,1,0,1,0,0,1,0,0,1])) (sl1:=sM9 cnt L i v u 0) (H1:=H) (nx1:=nx) (by kernel_rfl) ?_ (To.block (by kernel_rfl) h3)⟩
 refine To.of_vc (n:=100) (hs:=[toO (sM9 cnt L i v u 0)]) fun nx0 lg G hG=>?_
 clear h h1 h3
 exact m_ (p:=An [G Ex.normal (sM9 cnt L i v u 0) H nx lg,Sm (V.ptr 0 0),Sm (V.ptr 1 0),Sm (i6 ↑cnt),Sm (V.ptr 3 0),Sm (pv9 cnt),Sm (V.im cnt (it L)),Sm (V.ptr 6 0),Sm (V.sl 7 0 cnt (some (cnt-cnt))),Sm (i6 ↑i),Sm (i6 ↑v),Sm (i6 ↑u),i6 0=i6 ↑(0:Nat),_]) ⟨aq,aq,aq,aq,aq,aq,aq,aq,aq,aq,aq,aq,aq,tq⟩
theorem fr_all(i v:Nat)(hi:i<cnt)(hv:v<cnt)(H:T O)(nx:Nat)(h:M6 dc W g P cnt (Y8 cnt L i v 0) H nx): ∃H' nx',M6 dc W g P cnt (Y8 cnt L i v cnt) H' nx'∧To 365 (at' 6 [1,1,1,1,1,1,1,1,1,1,1,1,0,1,0,0,1,0,0,1,0]) (sJ9 cnt L i v) H nx .normal (sJ9 cnt L i v) H' nx':=by
 have hLf:=Qaq L
 have key: ∃e sl H' nx',(e= .exit 8∧sl=sJ9 cnt L i v∧M6 dc W g P cnt (Y8 cnt L i v cnt) H' nx')∧To 365 (at' 6 [1,1,1,1,1,1,1,1,1,1,1,1,0,1,0,0,1,0,0,1,0,1,0]) (sK9 cnt L i v 0) H nx e sl H' nx':=by
  refine To.loop (b:=(at' 6 [1,1,1,1,1,1,1,1,1,1,1,1,0,1,0,0,1,0,0,1,0,1,0,0])) (by kernel_rfl) (fun(u:Nat) H nx=>u≤cnt∧M6 dc W g P cnt (Y8 cnt L i v u) H nx) (fun u=>sK9 cnt L i v u) (fun u=>cnt-u) (fun e sl H nx=>e= .exit 8∧sl=sJ9 cnt L i v∧M6 dc W g P cnt (Y8 cnt L i v cnt) H nx) (fun u H nx hI=>?_) 0 H nx ⟨Nat.zero_le _,h⟩
  obtain⟨hu,hM⟩:=hI
  by_cases hlt:u<cnt
  ·obtain ⟨H', nx', h1, h2⟩ := fr_k L hc hP hPo hl hm hnd i v u hi hv hlt H nx hM
   refine .inl ⟨u+1,H',nx',⟨hlt,h1⟩,by omega,?_⟩
   refine To.seq (a:=(at' 6 [1,1,1,1,1,1,1,1,1,1,1,1,0,1,0,0,1,0,0,1,0,1,0,0,0])) (b:=(at' 6 [1,1,1,1,1,1,1,1,1,1,1,1,0,1,0,0,1,0,0,1,0,1,0,0,1])) (sl1:=sK9 cnt L i v u) (H1:=H) (nx1:=nx) (by kernel_rfl) ?_ (To.seq (a:=(at' 6 [1,1,1,1,1,1,1,1,1,1,1,1,0,1,0,0,1,0,0,1,0,1,0,0,1,0])) (b:=(at' 6 [1,1,1,1,1,1,1,1,1,1,1,1,0,1,0,0,1,0,0,1,0,1,0,0,1,1])) (sl1:=sK9 cnt L i v u) (H1:=H') (nx1:=nx') (by kernel_rfl) (To.blockN (id:=9) (b:=(at' 6 [1,1,1,1,1,1,1,1,1,1,1,1,0,1,0,0,1,0,0,1,0,1,0,0,1,0,0])) (by kernel_rfl) (fun h=>by cases h) h2) ?_)
   ·refine To.of_vc (n := 100) (hs := [yes 205, toO (sK9 cnt L i v u)]) fun nx0 lg G hG => ?_
    clear h hM h1 h2
    exact m_ (p:=An [decide ((↑u:Int)<(↑cnt:Int))=true,G Ex.normal (sK9 cnt L i v u) H nx lg,Sm (V.ptr 0 0),Sm (V.ptr 1 0),Sm (i6 ↑cnt),Sm (V.ptr 3 0),Sm (pv9 cnt),Sm (V.im cnt (it L)),Sm (V.ptr 6 0),Sm (V.sl 7 0 cnt (some (cnt-cnt))),Sm (i6 ↑i),Sm (i6 ↑v),Sm (i6 ↑u),_]) ⟨aq,aq,aq,aq,aq,aq,aq,aq,aq,aq,aq,aq,aq,tq⟩
   ·refine To.of_vc (n := 100) (hs := [nu 207 (u + 1 : Nat), toO (sK9 cnt L i v (u + 1))]) fun nx0 lg G hG => ?_
    clear h hM h1 h2
    exact m_ (p:=An [wr .i64 ((↑u:Int)+(1:Int))=(↑(u+1):Int),G Ex.normal (sK9 cnt L i v (u+1)) H' nx' lg,Sm (V.ptr 0 0),Sm (V.ptr 1 0),Sm (i6 ↑cnt),Sm (V.ptr 3 0),Sm (pv9 cnt),Sm (V.im cnt (it L)),Sm (V.ptr 6 0),Sm (V.sl 7 0 cnt (some (cnt-cnt))),Sm (i6 ↑i),Sm (i6 ↑v),Sm (i6 ↑(u+1)),_]) ⟨aq,aq,aq,aq,aq,aq,aq,aq,aq,aq,aq,aq,aq,tq⟩
  ·obtain rfl : u = cnt := by omega
   right
   refine⟨.exit 8,sJ9 u L i v,H,nx,(fun h=>by cases h),⟨rfl,rfl,hM⟩,?_⟩
   refine To.of_vc (n:=100) (hs:=[no 205,toO (sJ9 u L i v)]) fun nx0 lg G hG=>?_
   clear h hM
   exact m_ (p:=An [decide ((↑u:Int)<(↑u:Int))=false,G (Ex.exit 8) (sJ9 u L i v) H nx lg,Sm (V.ptr 0 0),Sm (V.ptr 1 0),Sm (i6 ↑u),Sm (V.ptr 3 0),Sm (pv9 u),Sm (V.im u (it L)),Sm (V.ptr 6 0),Sm (V.sl 7 0 u (some (u-u))),Sm (i6 ↑i),Sm (i6 ↑v),_]) ⟨aq,aq,aq,aq,aq,aq,aq,aq,aq,aq,aq,aq,tq⟩
 obtain⟨e,sl,H',nx',⟨rfl,rfl,h1⟩,h3⟩:=key
 refine⟨H',nx',h1,To.seq (a:=(at' 6 [1,1,1,1,1,1,1,1,1,1,1,1,0,1,0,0,1,0,0,1,0,0])) (b:=(at' 6 [1,1,1,1,1,1,1,1,1,1,1,1,0,1,0,0,1,0,0,1,0,1])) (sl1:=sK9 cnt L i v 0) (H1:=H) (nx1:=nx) (by kernel_rfl) ?_ (To.block (by kernel_rfl) h3)⟩
 refine To.of_vc (n:=100) (hs:=[toO (sK9 cnt L i v 0)]) fun nx0 lg G hG=>?_
 clear h h1 h3
 exact m_ (p:=An [G Ex.normal (sK9 cnt L i v 0) H nx lg,Sm (V.ptr 0 0),Sm (V.ptr 1 0),Sm (i6 ↑cnt),Sm (V.ptr 3 0),Sm (pv9 cnt),Sm (V.im cnt (it L)),Sm (V.ptr 6 0),Sm (V.sl 7 0 cnt (some (cnt-cnt))),Sm (i6 ↑i),Sm (i6 ↑v),i6 0=i6 ↑(0:Nat),_]) ⟨aq,aq,aq,aq,aq,aq,aq,aq,aq,aq,aq,aq,tq⟩
end
def cN(F:Nat→V)(v:Nat):Int:=match F (4*v)with
 | .int _ n=>n
 | _=>0
def mcN(F:Nat→V)(ls:Nat→List Int)(v:Nat):Mc:=⟨cN F v,ls (4*v+1),ls (4*v+2),ls (4*v+3)⟩
def mlN(cnt:Nat)(F:Nat→V)(ls:Nat→List Int):List Mc:=(List.range cnt).map (mcN F ls)
theorem Qbw{cnt:Nat}{F:Nat→V}{ls:Nat→List Int}:(mlN cnt F ls).length=cnt:=by simp[mlN]
theorem Qq7{cnt:Nat}{F:Nat→V}{ls:Nat→List Int}{v:Nat}(h:v<cnt):(mlN cnt F ls)[v]? =some (mcN F ls v):=by
 grind[mlN]
theorem Qeq{cnt:Nat}{F:Nat→V}{ls:Nat→List Int}{v:Nat}(h:v<cnt):(mlN cnt F ls).getD v mc0=mcN F ls v:=by
 grind[Qq7]
theorem Qm7{cs:List Int}(h: ∀i,i<cs.length→1≤cs.getD i 0∧cs.getD i 0≤3): ∀k,k≤cs.length→1≤prodT cs k∧prodT cs k≤3^k
 |0,_=>by simp[prodT]
 |k+1,hk=>by
  obtain⟨h1,h2⟩:=Qm7 h k (by omega)
  obtain⟨h3,h4⟩:=h k (by omega)
  rw[prodT]
  have a1:=Int.mul_le_mul h2 h4 (by omega) (by omega)
  have a2:=Int.mul_le_mul h1 h3 (by omega) (by omega)
  omega
section
variable {dc:List V} {W:List Nat} {g:Int} {P:List Pc} {cnt a:Nat} {ow:Nat→Bool} {rv:V} {H:T O} {nx:Nat} {F:Nat→V} {ls:Nat→List Int} {hd:Nat→Nat} {kd:Nat→Bool} {R:List (List Int)} {hr:Nat}
 (hc:1≤cnt∧cnt≤4) (hB:MB dc W g (pcL P) cnt a ow rv H) (hN:NL cnt F ls hd kd H nx) (hR:RO9 cnt ls hd rv R hr H nx) (hQ:Q6 cnt ow F ls kd R)
include hc hN hR hQ
theorem cN_eq{v:Nat}(hv:v<cnt):F (4*v)=i6 (cN F v)∧(cN F v=2∨cN F v=3):=by
 obtain⟨c,h1,h2⟩:=hQ.num v hv
 grind[cN]
theorem Qq5(h8:8≤nx)(Fz:Nat→Prop)(hF: ∀i,2≤i→i<nx→Fz i):ViewL H.get Fz (fun _=>none) [mdV g R (mlN cnt F ls)] [.agg [i6 g,rv,nv9 cnt]]:=by
 refine⟨_,_,rfl,⟨_,rfl,_,_,rfl,rfl,_,_,rfl,?_,_,_,rfl,?_,rfl⟩,rfl⟩
 ·by_cases h : R = []
  ·rw[hR.nil h,h];exact .inr (.inl ⟨rfl,rfl⟩)
  ·obtain ⟨r1, r2, r3, r4⟩ := hR.own h
   rw[r1]
   exact .inr (.inr ⟨hr,0,none,_,_,_,rfl,hF _ (by omega) r3,by rw[←Qay];exact r4,ViewP.of_hf _ (Qar R)⟩)
 ·have h2 := hN.row
  refine .inr (.inr ⟨2,0,some (cnt-cnt),_,_,_,by rw[Qbw],hF 2 (Nat.le_refl _) (by omega),by rw[←Qay];exact h2,?_⟩)
  rw[Qgr,Qbw]
  refine NR.viewP hN (fun i a b=>hF i (by omega) b) (fun i hi hS=>?_) (fun i hi hS=>?_)
  ·have h0 : i % 4 = 0 := by unfold S9 at hS; have := of_decide_eq_false hS; omega
   have hv:i/4<cnt:=by omega
   have e:=(cN_eq hc hN hR hQ hv).1
   rw[show 4*(i/4)=i by omega]at e
   refine⟨?_,by rw[e];trivial⟩
   unfold ndG
   rw[Qeq hv,h0,e];rfl
  ·have h0 : i % 4 ≠ 0 := of_decide_eq_true hS
   have hv:i/4<cnt:=by omega
   unfold ndG
   rw[Qeq hv]
   have e4:i=4*(i/4)+i%4:=by omega
   rcases(show i%4=1∨i%4=2∨i%4=3 by omega)with h|h|h
   ·rw [h]; rw [h] at e4; conv => rhs; rw [e4]
    rfl
   ·rw [h]; rw [h] at e4; conv => rhs; rw [e4]
    rfl
   ·rw [h]; rw [h] at e4; conv => rhs; rw [e4]
    rfl
end
section
variable {dc:List V} {W:List Nat} {g:Int} {P:List Pc} {cnt a:Nat} {ow:Nat→Bool} {rv:V} {H:T O} {nx:Nat} {F:Nat→V} {ls:Nat→List Int} {hd:Nat→Nat} {kd:Nat→Bool} {R:List (List Int)} {hr:Nat} (L:List Nat)
 (hc:1≤cnt∧cnt≤4) (hB:MB dc W g (pcL P) cnt a ow rv H) (hN:NL cnt F ls hd kd H nx) (hR:RO9 cnt ls hd rv R hr H nx) (hQ:Q6 cnt ow F ls kd R)
include hc hB hN hR hQ
theorem sz_ok{v:Nat}(hv:v<cnt):SzOk R (mlN cnt F ls) (mcN F ls v):=by
 have h1:=hQ.rn
 have h2:=hQ.fl v hv
 have h3:=hQ.nl v hv
 refine⟨by rw[Qbw];omega,by omega,fun k hk=>?_,fun k hk=>?_,by show(ls (4*v+1)).length≤_;omega,by show(ls (4*v+2)).length≤_;omega⟩
 ·rw [Qbw]
  refine hQ.fe v hv _ ?_
  rw[List.getD_eq_getElem?_getD,List.getElem?_eq_getElem hk]
  exact List.getElem_mem _
 ·refine hQ.no v hv _ ?_
  rw[List.getD_eq_getElem?_getD,List.getElem?_eq_getElem hk]
  exact List.getElem_mem _
theorem rsz_bd{v:Nat}(hv:v<cnt): ∀i,i<(rSz R (mlN cnt F ls) (mcN F ls v)).length→1≤(rSz R (mlN cnt F ls) (mcN F ls v)).getD i 0∧(rSz R (mlN cnt F ls) (mcN F ls v)).getD i 0≤3:=by
 intro i hi
 have hz:=sz_ok hc hB hN hR hQ hv
 have key: ∀z∈rSz R (mlN cnt F ls) (mcN F ls v),1≤z∧z≤3:=by
  intro z hz'
  unfold rSz at hz'
  rcases List.mem_append.1 hz' with h|h
  ·unfold rAt at h
   obtain⟨p,hp,rfl⟩:=List.mem_map.1 h
   have hb:=hQ.fe v hv p hp
   rw[Qph (by rw[Qbw];omega),Qeq (by omega)]
   have:=(cN_eq hc hN hR hQ (v:=p.toNat) (by omega)).2
   show 1≤cN F p.toNat∧cN F p.toNat≤3
   omega
  ·unfold rAt at h
   obtain⟨p,hp,rfl⟩:=List.mem_map.1 h
   have hb:=hQ.no v hv p hp
   rw[lnT_at (by omega)]
   have:=hQ.rl (R.getD p.toNat []) (by rw[List.getD_eq_getElem?_getD,List.getElem?_eq_getElem (by omega)];exact List.getElem_mem _)
   omega
 refine key _ ?_
 rw[List.getD_eq_getElem?_getD,List.getElem?_eq_getElem hi]
 exact List.getElem_mem _
theorem Qr2{v:Nat}:(rSz R (mlN cnt F ls) (mcN F ls v)).length=(ls (4*v+1)).length+(ls (4*v+2)).length:=by
 unfold rSz;rw[List.length_append,Qbm,Qbm];rfl
theorem sz_all(h8:8≤nx)(i v:Nat)(hv:v<cnt)(hfl:(ls (4*v+1)).length≤4)(cs:List Int)(hcs:rSz R (mlN cnt F ls) (mcN F ls v)=cs): ∃p:Nat,(p:Int)=prodT cs cs.length∧1≤p∧p≤2187∧To 365 (at' 6 [1,1,1,1,1,1,1,1,1,1,1,1,0,1,0,0,1,0,0,1,1,0]) (sJ9 cnt L i v) H nx .normal (sJ9 cnt L i v++[(18,.im p (rtL (cmL cs p)))]) H nx:=by
 have hbd:=rsz_bd hc hB hN hR hQ hv
 have hln:=Qr2 hc hB hN hR hQ (v:=v)
 have hok:=sz_ok hc hB hN hR hQ hv
 have hview:=Qq5 (g:=g) hc hN hR hQ h8 (fun _=>True) (fun _ _ _=>trivial)
 have hget:=Qq7 (F:=F) (ls:=ls) hv
 have hnl:=hQ.nl v hv
 rw[hcs]at hbd hln
 obtain⟨b1,b2⟩:=Qm7 hbd cs.length (Nat.le_refl _)
 have b3:(3:Int)^cs.length≤2187:=by
  have:(3:Nat)^cs.length≤3^7:=Nat.pow_le_pow_right (by decide) (by omega)
  have h':(3:Int)^cs.length=((3^cs.length:Nat):Int):=by simp
  omega
 obtain⟨p,hp⟩: ∃p:Nat,(p:Int)=prodT cs cs.length:=⟨(prodT cs cs.length).toNat,by omega⟩
 have hall:=rall_fn cs cs.length rfl (by omega) (fun i hi=>⟨(hbd i hi).1,by have:=(hbd i hi).2;omega⟩) p hp (by omega) (by omega)
 have hcmf:=Qar (cmL cs p)
 have hLf:=Qaq L
 have h3:=hB.h3
 refine⟨p,hp,by omega,by omega,?_⟩
 obtain⟨y,ys,e1,e2,e3⟩:=hview
 cases e1
 have hv1:ViewL H.get (fun _=>True) (fun _=>none) [mdV g R (mlN cnt F ls),i6 (v:Nat)] [.agg [i6 g,rv,nv9 cnt],i6 (v:Nat)]:=⟨_,_,rfl,e2,_,_,rfl,rfl,rfl⟩
 generalize rtL (cmL cs p)=CM at*
 by_cases h0:cs=[]
 ·subst h0
  have hx0:(mcN F ls v).fr=[]∧(mcN F ls v).no=[]:=by
   simp at hln
   exact⟨List.eq_nil_of_length_eq_zero (show(ls (4*v+1)).length=0 by omega),List.eq_nil_of_length_eq_zero (show(ls (4*v+2)).length=0 by omega)⟩
  have hcall:=Qqg (H:=H) (nx:=nx) (Qkh g R _ _ v hget hok hx0.1 hx0.2) hv1 rfl
  clear hbd hln hok hget hcs e2 e3 hv1 hB hN hR hQ
  refine To.of_vc (n:=100) (hs:=[lo_ 245 (ca9 g rv (nv9 cnt)) (.agg [i6 g,rv,nv9 cnt]),(247,.call ⟨.nils,H,nx,[]⟩),fn 248 (.im p CM),toO (sJ9 cnt L i v++[(18,.im p CM)])]) fun nx0 lg G hG=>?_
  exact m_ (p:=let z0:=[i6 g,rv,nv9 cnt];let z1:=V.im p CM;let z2:=V.sl 7 0 cnt (some (cnt-cnt));An [_,takeE 3 z0=some z0,_,_,An [_,_],FnOk Pg g0 35 [V.im 0 []] z1,An [V.fn 36 []=V.fn 35 []→[V.agg z0,i6 ↑v]=[V.nils]→H=H→nx=nx→CR.mk V.nils H nx []=CR.mk z1 H nx [],_],G Ex.normal (sJ9 cnt L i v++[(18,z1)]) H nx ([]++([]++lg)),Sm (V.ptr 0 0),Sm (V.ptr 1 0),Sm (i6 ↑cnt),Sm (V.ptr 3 0),Sm (pv9 cnt),Sm (V.im cnt (it L)),Sm (V.ptr 6 0),z2=z2,Sm (i6 ↑i),Sm (i6 ↑v),z1=z1,_]) ⟨h3,(by rfl),hcall,tq,⟨tq,tq⟩,hall,⟨aq,tq⟩,aq,aq,aq,aq,aq,aq,aq,aq,aq,aq,aq,aq,tq⟩
 ·obtain ⟨mm, hmm⟩ : ∃ mm, cs.length = mm + 1 := ⟨cs.length - 1, by have := List.length_pos_iff.2 h0; omega⟩
  have hcall:=frameZ (H:=H) (nx:=nx) (Qki g R _ _ v hget hok (m:=mm) (by rw[hcs];exact hmm)) hv1 (Qf0 _) (by rw[Qal,hcs];exact hmm)
  rw[hcs]at hcall
  rw[hmm]at hall
  have hcf:=Qad cs
  clear hbd hln hok hget hcs e2 e3 hv1 hB hN hR hQ hp b1 b2 b3
  generalize ints cs=CS at*
  refine To.of_vc (n:=100) (hs:=[lo_ 245 (ca9 g rv (nv9 cnt)) (.agg [i6 g,rv,nv9 cnt]),(247,.call ⟨.im (mm+1) CS,H,nx,[]⟩),fn 248 (.im p CM),toO (sJ9 cnt L i v++[(18,.im p CM)])]) fun nx0 lg G hG=>?_
  exact m_ (p:=let z0:=[i6 g,rv,nv9 cnt];let z1:=V.im (mm+1) CS;let z2:=V.im p CM;let z3:=V.sl 7 0 cnt (some (cnt-cnt));An [_,takeE 3 z0=some z0,_,_,An [_,_],_,An [V.fn 36 []=V.fn 35 []→[V.agg z0,i6 ↑v]=[z1]→H=H→nx=nx→CR.mk z1 H nx []=CR.mk z2 H nx [],_],G Ex.normal (sJ9 cnt L i v++[(18,z2)]) H nx ([]++([]++lg)),Sm (V.ptr 0 0),Sm (V.ptr 1 0),Sm (i6 ↑cnt),Sm (V.ptr 3 0),Sm (pv9 cnt),Sm (V.im cnt (it L)),Sm (V.ptr 6 0),z3=z3,Sm (i6 ↑i),Sm (i6 ↑v),z2=z2,_]) ⟨h3,(by rfl),hcall,tq,⟨tq,tq⟩,hall,⟨aq,tq⟩,aq,aq,aq,aq,aq,aq,aq,aq,aq,aq,aq,aq,tq⟩
end
abbrev sO9(cnt:Nat)(q:List Nat)(i v n:Nat)(A:List V)(c b f:Nat):List (Nat×V):=sN9 cnt q i v n A c b++[(21,i6 (f:Nat))]
abbrev sP9(cnt:Nat)(q:List Nat)(i v n:Nat)(A:List V)(c b f y:Nat):List (Nat×V):=sN9 cnt q i v n A c b++[(21,i6 (f:Nat)),(22,i6 (y:Nat))]
abbrev sR9(cnt:Nat)(q:List Nat)(i v n:Nat)(A:List V)(c b f y k:Nat):List (Nat×V):=sN9 cnt q i v n A c b++[(21,i6 (f:Nat)),(22,i6 (y:Nat)),(23,i6 (k:Nat))]
theorem pcU_cases{x:Pc}(h:PcOk x):(pcU x= .nils∧x.u=[])∨pcU x=bl x.u:=by
 unfold pcU
 cases hz:x.z with
 |true=>exact .inl ⟨rfl,h.z hz⟩
 |false=>exact .inr rfl
section
variable {dc:List V} {W:List Nat} {g:Int} {P:List Pc} {cnt a:Nat} {ow:Nat→Bool} {rv:V} {H:T O} {nx:Nat} (L:List Nat)
 (hc:1≤cnt∧cnt≤4) (hB:MB dc W g (pcL P) cnt a ow rv H) (hP:P.length=cnt) (hPo: ∀x∈P,PcOk x)
 (i v n:Nat) (A:List V) (hA:HfL A) (c:Nat) (hi:i<cnt) (hv:v<cnt) (hn:n≤2187) (hcn:c<n)
include hc hB hP hPo hA hi hv hn hcn
theorem o_piece(b:Nat): ∃b',(b'=b∨b'<256)∧To 365 (at' 6 [1,1,1,1,1,1,1,1,1,1,1,1,0,1,0,0,1,0,0,1,1,1,1,0,0,1,0,0,1,0]) (sN9 cnt L i v n A c b) H nx .normal (sN9 cnt L i v n A c b') H nx:=by
 obtain⟨x,hx⟩: ∃x,P[i]? =some x:=⟨P[i]'(by omega),List.getElem?_eq_getElem _⟩
 have hpc:=(Qn9 hx).2.2.2
 have hxo:=hPo x (List.mem_of_getElem? hx)
 have h4:=hB.h4
 have hLf:=Qaq L
 by_cases hu:x.u=[]
 ·refine ⟨b, .inl rfl, ?_⟩
  clear hB
  generalize pcL P=PL at*
  rcases pcU_cases hxo with⟨e,_⟩|e
  ·rw [e] at hpc
   refine To.of_vc (n:=100) (hs:=[pl 257,lo_ 259 (.row 88 none PL) .nils,toO (sN9 cnt L i v n A c b)]) fun nx0 lg G hG=>?_
   exact m_ (p:=An [An [(0:Int)≤(↑i:Int),(↑i:Int)<(↑cnt:Int)],_,headF (dropF (0+i*4+3) PL)=some V.nils,G Ex.normal (sN9 cnt L i v n A c b) H nx lg,Sm (V.ptr 0 0),Sm (V.ptr 1 0),Sm (i6 ↑cnt),Sm (V.ptr 3 0),Sm (pv9 cnt),Sm (V.im cnt (it L)),Sm (V.ptr 6 0),Sm (V.sl 7 0 cnt (some (cnt-cnt))),Sm (i6 ↑i),Sm (i6 ↑v),Sm (V.im n A),Sm (i6 ↑c),Sm (i6 ↑b),_]) ⟨a_,h4,(by (rw[show 0+i*4+3=4*i+3 by omega];exact hpc)),aq,aq,aq,aq,aq,aq,aq,aq,aq,aq,aq,aq,aq,aq,tq⟩
  ·rw [e, hu] at hpc
   refine To.of_vc (n:=100) (hs:=[pl 257,lo_ 259 (.row 88 none PL) (.im 0 noL),toO (sN9 cnt L i v n A c b)]) fun nx0 lg G hG=>?_
   exact m_ (p:=An [An [(0:Int)≤(↑i:Int),(↑i:Int)<(↑cnt:Int)],_,headF (dropF (0+i*4+3) PL)=some (V.im 0 noL),G Ex.normal (sN9 cnt L i v n A c b) H nx lg,Sm (V.ptr 0 0),Sm (V.ptr 1 0),Sm (i6 ↑cnt),Sm (V.ptr 3 0),Sm (pv9 cnt),Sm (V.im cnt (it L)),Sm (V.ptr 6 0),Sm (V.sl 7 0 cnt (some (cnt-cnt))),Sm (i6 ↑i),Sm (i6 ↑v),Sm (V.im n A),Sm (i6 ↑c),Sm (i6 ↑b),_]) ⟨a_,h4,(by (rw[show 0+i*4+3=4*i+3 by omega];exact hpc)),aq,aq,aq,aq,aq,aq,aq,aq,aq,aq,aq,aq,aq,aq,tq⟩
 ·have e : pcU x = bl x.u := by
   rcases pcU_cases hxo with⟨_,e⟩|e
   ·trivial
   ·exact e
  rw[e]at hpc
  have hul:x.u.length≠0:=fun h=>hu (List.eq_nil_of_length_eq_zero h)
  have hm:c%x.u.length<x.u.length:=Nat.mod_lt _ (by omega)
  have h1:=Qbu hm
  have h2:=Qcp (G:=Qac Pg) (t:=3) (a:=c) (b:=x.u.length) hul
  have hy:=Qgi hxo.u (c%x.u.length)
  have hbl:=hxo.l
  have hUf:=Qau x.u
  refine⟨x.u.getD (c%x.u.length) 0,.inr hy,?_⟩
  clear hB hxo hPo
  generalize x.u.getD (c%x.u.length) 0=y at*
  generalize c%x.u.length=z at*
  generalize x.u=u at*
  generalize pcL P=PL at*
  refine To.of_vc (n:=100) (hs:=[pl 257,lo_ 259 (.row 88 none PL) (bl u),yes 261,pl 264,lo_ 266 (.row 88 none PL) (bl u),pl 270,lo_ 272 (.row 88 none PL) (bl u),va 274 (i6 (z:Nat)),pl 275,ld 276 (w8 (y:Nat)),nu 277 (y:Nat),toO (sN9 cnt L i v n A c y)]) fun nx0 lg G hG=>?_
  exact m_ (p:=let z0:=headF (dropF (0+i*4+3) PL);let z1:=(↑i:Int);let z3:=V.sl 7 0 cnt (some (cnt-cnt));let z4:=(0:Int);let z5:=(↑cnt:Int);An [An [z4≤z1,z1<z5],_,z0=some (bl u),decide ((↑u.length:Int)>z4)=true,An [z4≤z1,z1<z5],_,z0=some (bl u),An [z4≤z1,z1<z5],_,z0=some (bl u),_,An [z4≤(↑z:Int),(↑z:Int)<(↑u.length:Int)],_,wr .i64 (↑y:Int)=(↑y:Int),G Ex.normal (sN9 cnt L i v n A c y) H nx lg,Sm (V.ptr 0 0),Sm (V.ptr 1 0),Sm (i6 ↑cnt),Sm (V.ptr 3 0),Sm (pv9 cnt),Sm (V.im cnt (it L)),Sm (V.ptr 6 0),z3=z3,Sm (i6 ↑i),Sm (i6 ↑v),Sm (V.im n A),Sm (i6 ↑c),Sm (i6 ↑y),_]) ⟨a_,h4,(by (rw[show 0+i*4+3=4*i+3 by omega];exact hpc)),aq,a_,h4,(by (rw[show 0+i*4+3=4*i+3 by omega];exact hpc)),a_,h4,(by (rw[show 0+i*4+3=4*i+3 by omega];exact hpc)),h2,a_,h1,aq,aq,aq,aq,aq,aq,aq,aq,aq,aq,aq,aq,aq,aq,aq,tq⟩
theorem o_key(b f y:Nat)(hy8:y≤10000): ∃b',(b'=b∨b'<256)∧To 365 (at' 6 [1,1,1,1,1,1,1,1,1,1,1,1,0,1,0,0,1,0,0,1,1,1,1,0,0,1,0,0,1,1,0,1,0,1,1,1,0]) (sP9 cnt L i v n A c b f y) H nx .normal (sP9 cnt L i v n A c b' f y) H nx:=by
 obtain⟨x,hx⟩: ∃x,P[i]? =some x:=⟨P[i]'(by omega),List.getElem?_eq_getElem _⟩
 have hpc:=(Qn9 hx).2.2.2
 have hxo:=hPo x (List.mem_of_getElem? hx)
 have h4:=hB.h4
 have hLf:=Qaq L
 by_cases hu:x.u=[]
 ·refine ⟨b, .inl rfl, ?_⟩
  clear hB
  generalize pcL P=PL at*
  rcases pcU_cases hxo with⟨e,_⟩|e
  ·rw [e] at hpc
   refine To.of_vc (n:=100) (hs:=[pl 313,lo_ 315 (.row 88 none PL) .nils,toO (sP9 cnt L i v n A c b f y)]) fun nx0 lg G hG=>?_
   exact m_ (p:=An [An [(0:Int)≤(↑i:Int),(↑i:Int)<(↑cnt:Int)],_,headF (dropF (0+i*4+3) PL)=some V.nils,G Ex.normal (sP9 cnt L i v n A c b f y) H nx lg,Sm (V.ptr 0 0),Sm (V.ptr 1 0),Sm (i6 ↑cnt),Sm (V.ptr 3 0),Sm (pv9 cnt),Sm (V.im cnt (it L)),Sm (V.ptr 6 0),Sm (V.sl 7 0 cnt (some (cnt-cnt))),Sm (i6 ↑i),Sm (i6 ↑v),Sm (V.im n A),Sm (i6 ↑c),Sm (i6 ↑b),Sm (i6 ↑f),Sm (i6 ↑y),_]) ⟨a_,h4,(by (rw[show 0+i*4+3=4*i+3 by omega];exact hpc)),aq,aq,aq,aq,aq,aq,aq,aq,aq,aq,aq,aq,aq,aq,aq,aq,tq⟩
  ·rw [e, hu] at hpc
   refine To.of_vc (n:=100) (hs:=[pl 313,lo_ 315 (.row 88 none PL) (.im 0 noL),toO (sP9 cnt L i v n A c b f y)]) fun nx0 lg G hG=>?_
   exact m_ (p:=An [An [(0:Int)≤(↑i:Int),(↑i:Int)<(↑cnt:Int)],_,headF (dropF (0+i*4+3) PL)=some (V.im 0 noL),G Ex.normal (sP9 cnt L i v n A c b f y) H nx lg,Sm (V.ptr 0 0),Sm (V.ptr 1 0),Sm (i6 ↑cnt),Sm (V.ptr 3 0),Sm (pv9 cnt),Sm (V.im cnt (it L)),Sm (V.ptr 6 0),Sm (V.sl 7 0 cnt (some (cnt-cnt))),Sm (i6 ↑i),Sm (i6 ↑v),Sm (V.im n A),Sm (i6 ↑c),Sm (i6 ↑b),Sm (i6 ↑f),Sm (i6 ↑y),_]) ⟨a_,h4,(by (rw[show 0+i*4+3=4*i+3 by omega];exact hpc)),aq,aq,aq,aq,aq,aq,aq,aq,aq,aq,aq,aq,aq,aq,aq,aq,tq⟩
 ·have e : pcU x = bl x.u := by
   rcases pcU_cases hxo with⟨_,e⟩|e
   ·trivial
   ·exact e
  rw[e]at hpc
  have hul:x.u.length≠0:=fun h=>hu (List.eq_nil_of_length_eq_zero h)
  have hm:y%x.u.length<x.u.length:=Nat.mod_lt _ (by omega)
  have h1:=Qbu hm
  have h2:=Qcp (G:=Qac Pg) (t:=3) (a:=y) (b:=x.u.length) hul
  have hy:=Qgi hxo.u (y%x.u.length)
  have hbl:=hxo.l
  have hUf:=Qau x.u
  refine⟨x.u.getD (y%x.u.length) 0,.inr hy,?_⟩
  clear hB hxo hPo
  generalize x.u.getD (y%x.u.length) 0=w at*
  generalize y%x.u.length=z at*
  generalize x.u=u at*
  generalize pcL P=PL at*
  refine To.of_vc (n:=100) (hs:=[pl 313,lo_ 315 (.row 88 none PL) (bl u),yes 317,pl 320,lo_ 322 (.row 88 none PL) (bl u),pl 326,lo_ 328 (.row 88 none PL) (bl u),va 330 (i6 (z:Nat)),pl 331,ld 332 (w8 (w:Nat)),nu 333 (w:Nat),toO (sP9 cnt L i v n A c w f y)]) fun nx0 lg G hG=>?_
  exact m_ (p:=let z0:=headF (dropF (0+i*4+3) PL);let z1:=(↑i:Int);let z3:=V.sl 7 0 cnt (some (cnt-cnt));let z4:=(0:Int);let z5:=(↑cnt:Int);An [An [z4≤z1,z1<z5],_,z0=some (bl u),decide ((↑u.length:Int)>z4)=true,An [z4≤z1,z1<z5],_,z0=some (bl u),An [z4≤z1,z1<z5],_,z0=some (bl u),_,An [z4≤(↑z:Int),(↑z:Int)<(↑u.length:Int)],_,wr .i64 (↑w:Int)=(↑w:Int),G Ex.normal (sP9 cnt L i v n A c w f y) H nx lg,Sm (V.ptr 0 0),Sm (V.ptr 1 0),Sm (i6 ↑cnt),Sm (V.ptr 3 0),Sm (pv9 cnt),Sm (V.im cnt (it L)),Sm (V.ptr 6 0),z3=z3,Sm (i6 ↑i),Sm (i6 ↑v),Sm (V.im n A),Sm (i6 ↑c),Sm (i6 ↑w),Sm (i6 ↑f),Sm (i6 ↑y),_]) ⟨a_,h4,(by (rw[show 0+i*4+3=4*i+3 by omega];exact hpc)),aq,a_,h4,(by (rw[show 0+i*4+3=4*i+3 by omega];exact hpc)),a_,h4,(by (rw[show 0+i*4+3=4*i+3 by omega];exact hpc)),h2,a_,h1,aq,aq,aq,aq,aq,aq,aq,aq,aq,aq,aq,aq,aq,aq,aq,aq,aq,tq⟩
variable (cv:List Int) (hcv:headF (A.drop (c*1))=some (sl cv)) (hx3: ∀k,k<cv.length→0≤cv.getD k 0∧cv.getD k 0<3) (hl7:cv.length≤8)
include hcv hx3 hl7
omit hB hP hPo in
theorem o_loop(b f:Nat): ∃y,y≤10000∧To 365 (at' 6 [1,1,1,1,1,1,1,1,1,1,1,1,0,1,0,0,1,0,0,1,1,1,1,0,0,1,0,0,1,1,0,1,0,1,1,0]) (sP9 cnt L i v n A c b f 0) H nx .normal (sP9 cnt L i v n A c b f y) H nx:=by
 have hLf:=Qaq L
 have hVf:=Qad cv
 have hpow: ∀k,k≤8→3^k≤6561:=fun k hk=>Nat.pow_le_pow_right (n:=3) (by decide) hk
 have key: ∃e sl H' nx',(∃y,e= .exit 14∧sl=sP9 cnt L i v n A c b f y∧H'=H∧nx'=nx∧y≤10000)∧To 365 (at' 6 [1,1,1,1,1,1,1,1,1,1,1,1,0,1,0,0,1,0,0,1,1,1,1,0,0,1,0,0,1,1,0,1,0,1,1,0,1,0]) (sR9 cnt L i v n A c b f 0 0) H nx e sl H' nx':=by
  refine To.loop (b:=(at' 6 [1,1,1,1,1,1,1,1,1,1,1,1,0,1,0,0,1,0,0,1,1,1,1,0,0,1,0,0,1,1,0,1,0,1,1,0,1,0,0])) (by kernel_rfl) (fun(q:Nat×Nat) H' nx'=>q.1≤cv.length∧H'=H∧nx'=nx∧q.2<3^q.1) (fun q=>sR9 cnt L i v n A c b f q.2 q.1) (fun q=>cv.length-q.1) (fun e sl H' nx'=>∃y,e= .exit 14∧sl=sP9 cnt L i v n A c b f y∧H'=H∧nx'=nx∧y≤10000) (fun q H' nx' hI=>?_) (0,0) H nx ⟨Nat.zero_le _,rfl,rfl,by decide⟩
  obtain⟨k,y⟩:=q
  obtain⟨hk,rfl,rfl,hy⟩:=hI
  dsimp only at hk hy
  have hp1:=hpow k (by omega)
  by_cases hlt:k<cv.length
  ·left
   have hx:=hx3 k hlt
   have hh:=Qao hlt
   obtain⟨z,hz⟩: ∃z:Nat,cv.getD k 0=z:=⟨(cv.getD k 0).toNat,by omega⟩
   rw[hz]at hx hh
   have h3:3^(k+1)=3^k*3:=Nat.pow_succ ..
   by_cases hkf:k=f
   ·refine ⟨(k + 1, y), H', nx', ⟨hlt, rfl, rfl, by grind⟩, by omega, ?_⟩
    clear hpow hx3 h3
    subst hkf
    refine To.of_vc (n:=100) (hs:=[pl 292,ld 293 (sl cv),yes 295,no 300,nu 297 (k+1:Nat),toO (sR9 cnt L i v n A c b k y (k+1))]) fun nx0 lg G hG=>?_
    exact m_ (p:=let z0:=(↑k:Int);let z1:=V.sl 7 0 cnt (some (cnt-cnt));An [An [(0:Int)≤(↑c:Int),(↑c:Int)<(↑n:Int)],_,decide (z0<(↑cv.length:Int))=true,(z0 != z0)=false,wr .i64 (z0+(1:Int))=(↑(k+1):Int),G Ex.normal (sR9 cnt L i v n A c b k y (k+1)) H' nx' lg,Sm (V.ptr 0 0),Sm (V.ptr 1 0),Sm (i6 ↑cnt),Sm (V.ptr 3 0),Sm (pv9 cnt),Sm (V.im cnt (it L)),Sm (V.ptr 6 0),z1=z1,Sm (i6 ↑i),Sm (i6 ↑v),Sm (V.im n A),Sm (i6 ↑c),Sm (i6 ↑b),Sm (i6 ↑k),Sm (i6 ↑y),Sm (i6 ↑(k+1)),_]) ⟨a_,hcv,aq,aq,aq,aq,aq,aq,aq,aq,aq,aq,aq,aq,aq,aq,aq,aq,aq,aq,aq,aq,tq⟩
   ·refine ⟨(k + 1, 3 * y + z), H', nx', ⟨hlt, rfl, rfl, by grind⟩, by omega, ?_⟩
    clear hpow hx3 h3
    have hne:((k:Nat):Int)≠(f:Nat):=by omega
    refine To.of_vc (n:=100) (hs:=[pl 292,ld 293 (sl cv),yes 295,yes 300,nu 302 (3*y:Nat),pl 305,ld 306 (sl cv),pl 308,ld 309 (i6 (z:Nat)),nu 310 (3*y+z:Nat),nu 297 (k+1:Nat),toO (sR9 cnt L i v n A c b f (3*y+z) (k+1))]) fun nx0 lg G hG=>?_
    exact m_ (p:=let z0:=(↑k:Int);let z1:=(↑c:Int);let z2:=V.sl 7 0 cnt (some (cnt-cnt));An [An [(0:Int)≤z1,z1<(↑n:Int)],_,decide (z0<(↑cv.length:Int))=true,_,wr .i64 ((3:Int)*(↑y:Int))=(↑(3*y):Int),An [(0:Int)≤z1,z1<(↑n:Int)],_,An [(0:Int)≤z0,z0<(↑cv.length:Int)],_,wr .i64 ((↑(3*y):Int)+(↑z:Int))=(↑(3*y+z):Int),wr .i64 (z0+(1:Int))=(↑(k+1):Int),G Ex.normal (sR9 cnt L i v n A c b f (3*y+z) (k+1)) H' nx' lg,Sm (V.ptr 0 0),Sm (V.ptr 1 0),Sm (i6 ↑cnt),Sm (V.ptr 3 0),Sm (pv9 cnt),Sm (V.im cnt (it L)),Sm (V.ptr 6 0),z2=z2,Sm (i6 ↑i),Sm (i6 ↑v),Sm (V.im n A),Sm (i6 ↑c),Sm (i6 ↑b),Sm (i6 ↑f),Sm (i6 ↑(3*y+z)),Sm (i6 ↑(k+1)),_]) ⟨a_,hcv,aq,(Qfn hne),aq,a_,hcv,a_,hh,aq,aq,aq,aq,aq,aq,aq,aq,aq,aq,aq,aq,aq,aq,aq,aq,aq,aq,aq,tq⟩
  ·right
   refine⟨.exit 14,sP9 cnt L i v n A c b f y,H',nx',(fun h=>by cases h),⟨y,rfl,rfl,rfl,rfl,by omega⟩,?_⟩
   clear hpow hx3
   refine To.of_vc (n:=100) (hs:=[pl 292,ld 293 (sl cv),no 295,toO (sP9 cnt L i v n A c b f y)]) fun nx0 lg G hG=>?_
   exact m_ (p:=An [An [(0:Int)≤(↑c:Int),(↑c:Int)<(↑n:Int)],_,decide ((↑k:Int)<(↑cv.length:Int))=false,G (Ex.exit 14) (sP9 cnt L i v n A c b f y) H' nx' lg,Sm (V.ptr 0 0),Sm (V.ptr 1 0),Sm (i6 ↑cnt),Sm (V.ptr 3 0),Sm (pv9 cnt),Sm (V.im cnt (it L)),Sm (V.ptr 6 0),Sm (V.sl 7 0 cnt (some (cnt-cnt))),Sm (i6 ↑i),Sm (i6 ↑v),Sm (V.im n A),Sm (i6 ↑c),Sm (i6 ↑b),Sm (i6 ↑f),Sm (i6 ↑y),_]) ⟨a_,hcv,aq,aq,aq,aq,aq,aq,aq,aq,aq,aq,aq,aq,aq,aq,aq,aq,aq,tq⟩
 obtain⟨e,sl,H',nx',⟨y,rfl,rfl,rfl,rfl,hy⟩,h3⟩:=key
 refine⟨y,hy,To.seq (a:=(at' 6 [1,1,1,1,1,1,1,1,1,1,1,1,0,1,0,0,1,0,0,1,1,1,1,0,0,1,0,0,1,1,0,1,0,1,1,0,0])) (b:=(at' 6 [1,1,1,1,1,1,1,1,1,1,1,1,0,1,0,0,1,0,0,1,1,1,1,0,0,1,0,0,1,1,0,1,0,1,1,0,1])) (sl1:=sR9 cnt L i v n A c b f 0 0) (H1:=H') (nx1:=nx') (by kernel_rfl) ?_ (To.block (by kernel_rfl) h3)⟩
 refine To.of_vc (n:=100) (hs:=[toO (sR9 cnt L i v n A c b f 0 0)]) fun nx0 lg G hG=>?_
 clear h3 hpow hx3
 exact m_ (p:=An [G Ex.normal (sR9 cnt L i v n A c b f 0 0) H' nx' lg,Sm (V.ptr 0 0),Sm (V.ptr 1 0),Sm (i6 ↑cnt),Sm (V.ptr 3 0),Sm (pv9 cnt),Sm (V.im cnt (it L)),Sm (V.ptr 6 0),Sm (V.sl 7 0 cnt (some (cnt-cnt))),Sm (i6 ↑i),Sm (i6 ↑v),Sm (V.im n A),Sm (i6 ↑c),Sm (i6 ↑b),Sm (i6 ↑f),Sm (i6 ↑(0:Nat)),i6 0=i6 ↑(0:Nat),_]) ⟨aq,aq,aq,aq,aq,aq,aq,aq,aq,aq,aq,aq,aq,aq,aq,aq,aq,tq⟩
end
section
variable {dc:List V} {W:List Nat} {g:Int} {P:List Pc} {cnt a:Nat} {ow:Nat→Bool} {rv:V} {H:T O} {nx:Nat} {F:Nat→V} {ls:Nat→List Int} {hd:Nat→Nat} {kd:Nat→Bool} {R:List (List Int)} {hr:Nat} (L:List Nat)
 (hc:1≤cnt∧cnt≤4) (hB:MB dc W g (pcL P) cnt a ow rv H) (hP:P.length=cnt) (hPo: ∀x∈P,PcOk x) (hN:NL cnt F ls hd kd H nx)
 (i v n:Nat) (A:List V) (hA:HfL A) (c:Nat) (hi:i<cnt) (hv:v<cnt) (hn:n≤2187) (hcn:c<n)
 (cv:List Int) (hcv:headF (A.drop (c*1))=some (sl cv)) (hx3: ∀k,k<cv.length→0≤cv.getD k 0∧cv.getD k 0<3) (hl7:cv.length≤8)
include hc hB hP hPo hN hA hi hv hn hcn hcv hx3 hl7
theorem o_own(hown:ow v=true→(ls (4*v+1)).length<cv.length)(b:Nat)(hb:b≤1000): ∃b',b'≤b+300∧To 365 (at' 6 [1,1,1,1,1,1,1,1,1,1,1,1,0,1,0,0,1,0,0,1,1,1,1,0,0,1,0,0,1,1,0]) (sN9 cnt L i v n A c b) H nx .normal (sN9 cnt L i v n A c b') H nx:=by
 have h7:gt H 7=some (.row 4 none (cellsF cnt fun v=>.bool (ow v))):=hB.h7
 have h3:=hB.h3
 have h2:=hN.row
 have hLf:=Qaq L
 have hVf:=Qad cv
 have how:=Qbq (n:=cnt) (k:=v) (F:=fun v=>V.bool (ow v)) hv
 have first: ∀t,ow v=t→To 365 (at' 6 [1,1,1,1,1,1,1,1,1,1,1,1,0,1,0,0,1,0,0,1,1,1,1,0,0,1,0,0,1,1,0,0]) (sN9 cnt L i v n A c b) H nx .normal (sN9 cnt L i v n A c b++[(281,.bool t)]) H nx:=fun t ht=>by
  have how:headF (dropF v (cellsF cnt fun v=>V.bool (ow v)))=some (.bool (ow v)):=how
  rw[ht]at how
  clear hB hN hPo hx3 hown
  generalize (cellsF cnt fun v=>V.bool (ow v))=OC at*
  refine To.of_vc (n:=100) (hs:=[pl 280,lo_ 281 (.row 4 none OC) (.bool t),toO (sN9 cnt L i v n A c b++[(281,.bool t)])]) fun nx0 lg G hG=>?_
  exact m_ (p:=An [An [(0:Int)≤(↑v:Int),(↑v:Int)<(↑cnt:Int)],_,headF (dropF (0+v*1) OC)=some (V.bool t),G Ex.normal (sN9 cnt L i v n A c b++[(281,V.bool t)]) H nx lg,Sm (V.ptr 0 0),Sm (V.ptr 1 0),Sm (i6 ↑cnt),Sm (V.ptr 3 0),Sm (pv9 cnt),Sm (V.im cnt (it L)),Sm (V.ptr 6 0),Sm (V.sl 7 0 cnt (some (cnt-cnt))),Sm (i6 ↑i),Sm (i6 ↑v),Sm (V.im n A),Sm (i6 ↑c),Sm (i6 ↑b),Sm (V.bool t),_]) ⟨a_,h7,aq,aq,aq,aq,aq,aq,aq,aq,aq,aq,aq,aq,aq,aq,aq,aq,tq⟩
 cases ho:ow v with
 |false=>
  refine⟨b,by omega,To.seq (a:=(at' 6 [1,1,1,1,1,1,1,1,1,1,1,1,0,1,0,0,1,0,0,1,1,1,1,0,0,1,0,0,1,1,0,0])) (b:=(at' 6 [1,1,1,1,1,1,1,1,1,1,1,1,0,1,0,0,1,0,0,1,1,1,1,0,0,1,0,0,1,1,0,1])) (sl1:=sN9 cnt L i v n A c b++[(281,.bool false)]) (H1:=H) (nx1:=nx) (by kernel_rfl) (first false ho) (To.cond (x:=(at' 6 [1,1,1,1,1,1,1,1,1,1,1,1,0,1,0,0,1,0,0,1,1,1,1,0,0,1,0,0,1,1,0,1,0])) (y:=.skip) (o:=.tmp 281) (by kernel_rfl) false rfl ?_)⟩
  show To 365 .skip _ _ _ _ _ _ _
  clear first hB hN hPo hx3 hown
  refine To.of_vc (n:=100) (hs:=[toO (sN9 cnt L i v n A c b)]) fun nx0 lg G hG=>?_
  exact m_ (p:=An [G Ex.normal (sN9 cnt L i v n A c b) H nx lg,Sm (V.ptr 0 0),Sm (V.ptr 1 0),Sm (i6 ↑cnt),Sm (V.ptr 3 0),Sm (pv9 cnt),Sm (V.im cnt (it L)),Sm (V.ptr 6 0),Sm (V.sl 7 0 cnt (some (cnt-cnt))),Sm (i6 ↑i),Sm (i6 ↑v),Sm (V.im n A),Sm (i6 ↑c),Sm (i6 ↑b),_]) ⟨aq,aq,aq,aq,aq,aq,aq,aq,aq,aq,aq,aq,aq,aq,tq⟩
 | true =>
  have hf:=hown ho
  obtain⟨y,hy,t1⟩:=o_loop (H:=H) (nx:=nx) L hc i v n A hA c hi hv hn hcn cv hcv hx3 hl7 b (ls (4*v+1)).length
  obtain⟨b1,hb1,t2⟩:=o_key (nx:=nx) L hc hB hP hPo i v n A hA c hi hv hn hcn b (ls (4*v+1)).length y hy
  have hz3:=hx3 _ hf
  obtain⟨z,hz⟩: ∃z:Nat,cv.getD (ls (4*v+1)).length 0=z:=⟨(cv.getD (ls (4*v+1)).length 0).toNat,by omega⟩
  have hh:=Qao hf
  rw[hz]at hh hz3
  refine⟨b1+z,by omega,To.seq (a:=(at' 6 [1,1,1,1,1,1,1,1,1,1,1,1,0,1,0,0,1,0,0,1,1,1,1,0,0,1,0,0,1,1,0,0])) (b:=(at' 6 [1,1,1,1,1,1,1,1,1,1,1,1,0,1,0,0,1,0,0,1,1,1,1,0,0,1,0,0,1,1,0,1])) (sl1:=sN9 cnt L i v n A c b++[(281,.bool true)]) (H1:=H) (nx1:=nx) (by kernel_rfl) (first true ho) (To.cond (x:=(at' 6 [1,1,1,1,1,1,1,1,1,1,1,1,0,1,0,0,1,0,0,1,1,1,1,0,0,1,0,0,1,1,0,1,0])) (y:=.skip) (o:=.tmp 281) (by kernel_rfl) true rfl ?_)⟩
  refine To.fewer (sl1:=sN9 cnt L i v n A c b) ?_ ⟨rfl,rfl,rfl,rfl,rfl,rfl,rfl,rfl,rfl,rfl,rfl,rfl,rfl,trivial⟩
  refine To.seq (a:=(at' 6 [1,1,1,1,1,1,1,1,1,1,1,1,0,1,0,0,1,0,0,1,1,1,1,0,0,1,0,0,1,1,0,1,0,0])) (b:=(at' 6 [1,1,1,1,1,1,1,1,1,1,1,1,0,1,0,0,1,0,0,1,1,1,1,0,0,1,0,0,1,1,0,1,0,1])) (sl1:=sO9 cnt L i v n A c b (ls (4*v+1)).length) (H1:=H) (nx1:=nx) (by kernel_rfl) ?_ (To.seq (a:=(at' 6 [1,1,1,1,1,1,1,1,1,1,1,1,0,1,0,0,1,0,0,1,1,1,1,0,0,1,0,0,1,1,0,1,0,1,0])) (b:=(at' 6 [1,1,1,1,1,1,1,1,1,1,1,1,0,1,0,0,1,0,0,1,1,1,1,0,0,1,0,0,1,1,0,1,0,1,1])) (sl1:=sP9 cnt L i v n A c b (ls (4*v+1)).length 0) (H1:=H) (nx1:=nx) (by kernel_rfl) ?_ (To.seq (b:=(at' 6 [1,1,1,1,1,1,1,1,1,1,1,1,0,1,0,0,1,0,0,1,1,1,1,0,0,1,0,0,1,1,0,1,0,1,1,1])) (by kernel_rfl) t1 (To.seq (b:=(at' 6 [1,1,1,1,1,1,1,1,1,1,1,1,0,1,0,0,1,0,0,1,1,1,1,0,0,1,0,0,1,1,0,1,0,1,1,1,1])) (by kernel_rfl) t2 ?_)))
  ·have hcell := Qbq (n := 4 * cnt) (k := 4 * v + 1) (F := F) (by omega)
   clear first t1 t2 hPo hx3 hown hB
   by_cases hnil:ls (4*v+1)=[]
   ·rw [hN.nil _ (by omega) (S9_i (by omega)) hnil] at hcell
    rw[hnil]
    clear hN
    generalize cellsF (4*cnt) F=C1 at*
    refine To.of_vc (n:=100) (hs:=[lo_ 283 (ca9 g rv (nv9 cnt)) (nv9 cnt),pl 285,lo_ 287 (.row 86 none C1) .nils,toO (sO9 cnt L i v n A c b 0)]) fun nx0 lg G hG=>?_
    exact m_ (p:=An [_,headF (dropF (0+2) [i6 g,rv,nv9 cnt])=some (nv9 cnt),An [(0:Int)≤(↑v:Int),(↑v:Int)<(↑cnt:Int)],_,headF (dropF (0+v*4+1) C1)=some V.nils,G Ex.normal (sO9 cnt L i v n A c b 0) H nx lg,Sm (V.ptr 0 0),Sm (V.ptr 1 0),Sm (i6 ↑cnt),Sm (V.ptr 3 0),Sm (pv9 cnt),Sm (V.im cnt (it L)),Sm (V.ptr 6 0),Sm (V.sl 7 0 cnt (some (cnt-cnt))),Sm (i6 ↑i),Sm (i6 ↑v),Sm (V.im n A),Sm (i6 ↑c),Sm (i6 ↑b),Sm (i6 ↑(0:Nat)),_]) ⟨h3,(by rfl),a_,h2,(by (rw[show 0+v*4+1=4*v+1 by omega];exact hcell)),aq,aq,aq,aq,aq,aq,aq,aq,aq,aq,aq,aq,aq,aq,aq,tq⟩
   ·obtain ⟨o1, _⟩ := hN.own _ (by omega) (S9_i (by omega)) hnil
    rw[o1]at hcell
    clear hN o1
    generalize cellsF (4*cnt) F=C1 at*
    generalize (ls (4*v+1)).length=f at*
    generalize hd (4*v+1)=h9 at*
    generalize rmV (kd (4*v+1))=rm at*
    refine To.of_vc (n:=100) (hs:=[lo_ 283 (ca9 g rv (nv9 cnt)) (nv9 cnt),pl 285,lo_ 287 (.row 86 none C1) (.sl h9 0 f rm),toO (sO9 cnt L i v n A c b f)]) fun nx0 lg G hG=>?_
    exact m_ (p:=An [_,headF (dropF (0+2) [i6 g,rv,nv9 cnt])=some (nv9 cnt),An [(0:Int)≤(↑v:Int),(↑v:Int)<(↑cnt:Int)],_,headF (dropF (0+v*4+1) C1)=some (V.sl h9 0 f rm),G Ex.normal (sO9 cnt L i v n A c b f) H nx lg,Sm (V.ptr 0 0),Sm (V.ptr 1 0),Sm (i6 ↑cnt),Sm (V.ptr 3 0),Sm (pv9 cnt),Sm (V.im cnt (it L)),Sm (V.ptr 6 0),Sm (V.sl 7 0 cnt (some (cnt-cnt))),Sm (i6 ↑i),Sm (i6 ↑v),Sm (V.im n A),Sm (i6 ↑c),Sm (i6 ↑b),Sm (i6 ↑f),_]) ⟨h3,(by rfl),a_,h2,(by (rw[show 0+v*4+1=4*v+1 by omega];exact hcell)),aq,aq,aq,aq,aq,aq,aq,aq,aq,aq,aq,aq,aq,aq,aq,tq⟩
  ·clear first t1 t2 hPo hx3 hown hB hN
   generalize (ls (4*v+1)).length=f at*
   refine To.of_vc (n:=100) (hs:=[toO (sP9 cnt L i v n A c b f 0)]) fun nx0 lg G hG=>?_
   exact m_ (p:=An [G Ex.normal (sP9 cnt L i v n A c b f 0) H nx lg,Sm (V.ptr 0 0),Sm (V.ptr 1 0),Sm (i6 ↑cnt),Sm (V.ptr 3 0),Sm (pv9 cnt),Sm (V.im cnt (it L)),Sm (V.ptr 6 0),Sm (V.sl 7 0 cnt (some (cnt-cnt))),Sm (i6 ↑i),Sm (i6 ↑v),Sm (V.im n A),Sm (i6 ↑c),Sm (i6 ↑b),Sm (i6 ↑f),i6 0=i6 ↑(0:Nat),_]) ⟨aq,aq,aq,aq,aq,aq,aq,aq,aq,aq,aq,aq,aq,aq,aq,aq,tq⟩
  ·clear first t1 t2 hPo hx3 hown hB hN
   generalize (ls (4*v+1)).length=f at*
   refine To.of_vc (n:=100) (hs:=[pl 337,ld 338 (sl cv),pl 340,ld 341 (i6 (z:Nat)),nu 342 (b1+z:Nat),toO (sN9 cnt L i v n A c (b1+z))]) fun nx0 lg G hG=>?_
   exact m_ (p:=An [An [(0:Int)≤(↑c:Int),(↑c:Int)<(↑n:Int)],_,An [(0:Int)≤(↑f:Int),(↑f:Int)<(↑cv.length:Int)],_,wr .i64 ((↑b1:Int)+(↑z:Int))=(↑(b1+z):Int),G Ex.normal (sN9 cnt L i v n A c (b1+z)) H nx lg,Sm (V.ptr 0 0),Sm (V.ptr 1 0),Sm (i6 ↑cnt),Sm (V.ptr 3 0),Sm (pv9 cnt),Sm (V.im cnt (it L)),Sm (V.ptr 6 0),Sm (V.sl 7 0 cnt (some (cnt-cnt))),Sm (i6 ↑i),Sm (i6 ↑v),Sm (V.im n A),Sm (i6 ↑c),Sm (i6 ↑(b1+z)),_]) ⟨a_,hcv,a_,hh,aq,aq,aq,aq,aq,aq,aq,aq,aq,aq,aq,aq,aq,aq,aq,tq⟩
end
abbrev sQ9(cnt:Nat)(q:List Nat)(i v n:Nat)(A:List V)(c:Nat):List (Nat×V):=[(1,.ptr 0 0),(2,.ptr 1 0),(3,i6 (cnt:Nat)),(4,.ptr 3 0),(5,pv9 cnt),(6,.im cnt (it q)),(7,.ptr 6 0),(9,.sl 7 0 cnt (some (cnt-cnt))),(14,i6 (i:Nat)),(15,i6 (v:Nat)),(18,.im n A),(19,i6 (c:Nat))]
abbrev sS9(cnt:Nat)(q:List Nat)(i:Nat):List (Nat×V):=[(1,.ptr 0 0),(2,.ptr 1 0),(3,i6 (cnt:Nat)),(4,.ptr 3 0),(5,pv9 cnt),(6,.im cnt (it q)),(7,.ptr 6 0),(9,.sl 7 0 cnt (some (cnt-cnt))),(14,i6 (i:Nat))]
section
variable {dc:List V} {W:List Nat} {g:Int} {P:List Pc} {cnt:Nat} (L:List Nat)
 (hc:1≤cnt∧cnt≤4) (hP:P.length=cnt) (hPo: ∀x∈P,PcOk x) (hl:L.length=cnt) (hm: ∀x∈L,x<cnt) (hnd:L.Nodup)
include hc hP hPo hl hm hnd
abbrev Y12(cnt:Nat)(L:List Nat)(i v f0 n0 c:Nat)(ls:Nat→List Int):Prop:=(∀w,w<cnt→w≠v→w∉L.take i→ls (4*w+1)=[]∧ls (4*w+3)=[])∧(ls (4*v+1)).length=f0∧(ls (4*v+2)).length=n0∧(ls (4*v+3)).length≤c
section
variable (i v n:Nat) (A:List V) (hA:HfL A) (hi:i<cnt) (hv:v<cnt) (hn:n≤2187) (f0 n0:Nat) (hf8:f0+n0≤8) (hcvs: ∀c,c<n→∃cv:List Int,headF (A.drop (c*1))=some (sl cv)∧cv.length=f0+n0∧∀k,k<cv.length→0≤cv.getD k 0∧cv.getD k 0<3)
include hA hi hv hn hf8 hcvs
theorem Qre(c:Nat)(hcn:c<n)(H:T O)(nx:Nat)(h:M6 dc W g P cnt (Y12 cnt L i v f0 n0 c) H nx): ∃H' nx',M6 dc W g P cnt (Y12 cnt L i v f0 n0 (c+1)) H' nx'∧To 365 (at' 6 [1,1,1,1,1,1,1,1,1,1,1,1,0,1,0,0,1,0,0,1,1,1,1,0,0]) (sQ9 cnt L i v n A c) H nx .normal (sQ9 cnt L i v n A (c+1)) H' nx':=by
 obtain⟨m,a,ow,rv,F,ls,hd,kd,R,hr,rfl,hB,hN,hR,hQ,hY⟩:=h
 obtain⟨cv,hcv,hcl,hx3⟩:=hcvs c hcn
 have hLf:=Qaq L
 obtain⟨b1,hb1,t1⟩:=o_piece (nx:=m+8) L hc hB hP hPo i v n A hA c hi hv hn hcn 0
 obtain⟨b2,hb2,t2⟩:=o_own L hc hB hP hPo hN i v n A hA c hi hv hn hcn cv hcv hx3 (by omega) (fun ho=>by
  have h0:=List.length_pos_iff.2 (hQ.ow v hv ho)
  omega) b1 (by omega)
 obtain⟨pz,hpz,hFp⟩:=hQ.num v hv
 obtain⟨p,hp23,hFp⟩: ∃p:Nat,(p=2∨p=3)∧F (4*v)=i6 (p:Nat):=by
  simp_all
 obtain⟨H',hB',hN',hR',t3⟩:=push_o L hc hB hN hR i v n A hA c b2 p (b2%p) hv (by omega) (hQ.ko v hv) hFp (by omega) rfl
 have hol:=hY.2.2.2
 refine⟨H',m+10,⟨m+2,a,ow,_,_,_,_,_,_,_,rfl,hB',hN',hR',⟨fun w hw=>?_,fun w hw z hz=>?_,fun w hw=>?_,hQ.rn,fun w hw ho=>?_,hQ.rl,fun w hw z hz=>?_,fun w hw=>?_,fun w hw=>?_,fun w hw hne=>?_,fun w hw hne=>?_⟩,fun w hw hwv hwn=>?_,?_,?_,?_⟩,?_⟩
 ·rw[Qah (by omega)];exact hQ.num w hw
 ·rw[Qah (by omega)]at hz;exact hQ.no w hw z hz
 ·rw[Qah (by omega)];exact hQ.nl w hw
 ·rw[Qah (by omega)];exact hQ.ow w hw ho
 ·rw[Qah (by omega)]at hz;exact hQ.fe w hw z hz
 ·rw[Qah (by omega)];exact hQ.fl w hw
 ·by_cases hwv : w = v
  ·grind[Qai]
  ·rw[Qah (by omega)];exact hQ.ol w hw
 ·rw[Qah (by omega)]at hne⊢;exact hQ.kf w hw hne
 ·by_cases hwv : w = v
  ·grind[Qai]
  ·rw[Qah (by omega)]at hne⊢;exact hQ.ko w hw hne
 ·grind[Qah]
 ·grind[Qah]
 ·grind[Qah]
 ·grind[Qai]
 ·clear hN hR hQ hY hB hN' hR' hB' hx3 hcvs hPo
  refine To.seq (a:=(at' 6 [1,1,1,1,1,1,1,1,1,1,1,1,0,1,0,0,1,0,0,1,1,1,1,0,0,0])) (b:=(at' 6 [1,1,1,1,1,1,1,1,1,1,1,1,0,1,0,0,1,0,0,1,1,1,1,0,0,1])) (sl1:=sQ9 cnt L i v n A c) (H1:=H) (nx1:=m+8) (by kernel_rfl) ?_ (To.seq (a:=(at' 6 [1,1,1,1,1,1,1,1,1,1,1,1,0,1,0,0,1,0,0,1,1,1,1,0,0,1,0])) (b:=(at' 6 [1,1,1,1,1,1,1,1,1,1,1,1,0,1,0,0,1,0,0,1,1,1,1,0,0,1,1])) (sl1:=sN9 cnt L i v n A c b2) (H1:=H') (nx1:=m+10) (by kernel_rfl) (To.blockN (id:=13) (b:=(at' 6 [1,1,1,1,1,1,1,1,1,1,1,1,0,1,0,0,1,0,0,1,1,1,1,0,0,1,0,0])) (by kernel_rfl) (fun h=>by cases h) (To.seq (a:=(at' 6 [1,1,1,1,1,1,1,1,1,1,1,1,0,1,0,0,1,0,0,1,1,1,1,0,0,1,0,0,0])) (b:=(at' 6 [1,1,1,1,1,1,1,1,1,1,1,1,0,1,0,0,1,0,0,1,1,1,1,0,0,1,0,0,1])) (sl1:=sN9 cnt L i v n A c 0) (H1:=H) (nx1:=m+8) (by kernel_rfl) ?_ (To.seq (b:=(at' 6 [1,1,1,1,1,1,1,1,1,1,1,1,0,1,0,0,1,0,0,1,1,1,1,0,0,1,0,0,1,1])) (by kernel_rfl) t1 (To.seq (b:=(at' 6 [1,1,1,1,1,1,1,1,1,1,1,1,0,1,0,0,1,0,0,1,1,1,1,0,0,1,0,0,1,1,1])) (by kernel_rfl) t2 t3)))) ?_)
  ·refine To.of_vc (n := 100) (hs := [yes 252, toO (sQ9 cnt L i v n A c)]) fun nx0 lg G hG => ?_
   exact m_ (p:=An [decide ((↑c:Int)<(↑n:Int))=true,G Ex.normal (sQ9 cnt L i v n A c) H (m+8) lg,Sm (V.ptr 0 0),Sm (V.ptr 1 0),Sm (i6 ↑cnt),Sm (V.ptr 3 0),Sm (pv9 cnt),Sm (V.im cnt (it L)),Sm (V.ptr 6 0),Sm (V.sl 7 0 cnt (some (cnt-cnt))),Sm (i6 ↑i),Sm (i6 ↑v),Sm (V.im n A),Sm (i6 ↑c),_]) ⟨aq,aq,aq,aq,aq,aq,aq,aq,aq,aq,aq,aq,aq,aq,tq⟩
  ·refine To.of_vc (n := 100) (hs := [toO (sN9 cnt L i v n A c 0)]) fun nx0 lg G hG => ?_
   exact m_ (p:=An [G Ex.normal (sN9 cnt L i v n A c 0) H (m+8) lg,Sm (V.ptr 0 0),Sm (V.ptr 1 0),Sm (i6 ↑cnt),Sm (V.ptr 3 0),Sm (pv9 cnt),Sm (V.im cnt (it L)),Sm (V.ptr 6 0),Sm (V.sl 7 0 cnt (some (cnt-cnt))),Sm (i6 ↑i),Sm (i6 ↑v),Sm (V.im n A),Sm (i6 ↑c),i6 0=i6 ↑(0:Nat),_]) ⟨aq,aq,aq,aq,aq,aq,aq,aq,aq,aq,aq,aq,aq,aq,tq⟩
  ·refine To.of_vc (n := 100) (hs := [nu 254 (c + 1 : Nat), toO (sQ9 cnt L i v n A (c + 1))]) fun nx0 lg G hG => ?_
   exact m_ (p:=An [wr .i64 ((↑c:Int)+(1:Int))=(↑(c+1):Int),G Ex.normal (sQ9 cnt L i v n A (c+1)) H' (m+10) lg,Sm (V.ptr 0 0),Sm (V.ptr 1 0),Sm (i6 ↑cnt),Sm (V.ptr 3 0),Sm (pv9 cnt),Sm (V.im cnt (it L)),Sm (V.ptr 6 0),Sm (V.sl 7 0 cnt (some (cnt-cnt))),Sm (i6 ↑i),Sm (i6 ↑v),Sm (V.im n A),Sm (i6 ↑(c+1)),_]) ⟨aq,aq,aq,aq,aq,aq,aq,aq,aq,aq,aq,aq,aq,aq,tq⟩
theorem out_loop(H:T O)(nx:Nat)(h:M6 dc W g P cnt (Y12 cnt L i v f0 n0 0) H nx): ∃H' nx',M6 dc W g P cnt (Y12 cnt L i v f0 n0 n) H' nx'∧To 365 (at' 6 [1,1,1,1,1,1,1,1,1,1,1,1,0,1,0,0,1,0,0,1,1,1]) (sJ9 cnt L i v++[(18,.im n A)]) H nx .normal (sS9 cnt L i) H' nx':=by
 have hLf:=Qaq L
 have key: ∃e sl H' nx',(e= .exit 12∧sl=sS9 cnt L i∧M6 dc W g P cnt (Y12 cnt L i v f0 n0 n) H' nx')∧To 365 (at' 6 [1,1,1,1,1,1,1,1,1,1,1,1,0,1,0,0,1,0,0,1,1,1,1,0]) (sQ9 cnt L i v n A 0) H nx e sl H' nx':=by
  refine To.loop (b:=(at' 6 [1,1,1,1,1,1,1,1,1,1,1,1,0,1,0,0,1,0,0,1,1,1,1,0,0])) (by kernel_rfl) (fun(c:Nat) H nx=>c≤n∧M6 dc W g P cnt (Y12 cnt L i v f0 n0 c) H nx) (fun c=>sQ9 cnt L i v n A c) (fun c=>n-c) (fun e sl H nx=>e= .exit 12∧sl=sS9 cnt L i∧M6 dc W g P cnt (Y12 cnt L i v f0 n0 n) H nx) (fun c H nx hI=>?_) 0 H nx ⟨Nat.zero_le _,h⟩
  obtain⟨hcn,hM⟩:=hI
  by_cases hlt:c<n
  ·obtain ⟨H', nx', h1, h2⟩ := Qre L hc hP hPo hl hm hnd i v n A hA hi hv hn f0 n0 hf8 hcvs c hlt H nx hM
   exact .inl ⟨c+1,H',nx',⟨hlt,h1⟩,by omega,h2⟩
  ·obtain rfl : c = n := by omega
   right
   refine⟨.exit 12,sS9 cnt L i,H,nx,(fun h=>by cases h),⟨rfl,rfl,hM⟩,?_⟩
   clear h hM hcvs hPo
   refine To.of_vc (n:=100) (hs:=[no 252,toO (sS9 cnt L i)]) fun nx0 lg G hG=>?_
   exact m_ (p:=An [decide ((↑c:Int)<(↑c:Int))=false,G (Ex.exit 12) (sS9 cnt L i) H nx lg,Sm (V.ptr 0 0),Sm (V.ptr 1 0),Sm (i6 ↑cnt),Sm (V.ptr 3 0),Sm (pv9 cnt),Sm (V.im cnt (it L)),Sm (V.ptr 6 0),Sm (V.sl 7 0 cnt (some (cnt-cnt))),Sm (i6 ↑i),_]) ⟨aq,aq,aq,aq,aq,aq,aq,aq,aq,aq,aq,tq⟩
 obtain⟨e,sl,H',nx',⟨rfl,rfl,h1⟩,h3⟩:=key
 refine⟨H',nx',h1,To.seq (a:=(at' 6 [1,1,1,1,1,1,1,1,1,1,1,1,0,1,0,0,1,0,0,1,1,1,0])) (b:=(at' 6 [1,1,1,1,1,1,1,1,1,1,1,1,0,1,0,0,1,0,0,1,1,1,1])) (sl1:=sQ9 cnt L i v n A 0) (H1:=H) (nx1:=nx) (by kernel_rfl) ?_ (To.block (by kernel_rfl) h3)⟩
 clear h h1 h3 hcvs hPo
 refine To.of_vc (n:=100) (hs:=[toO (sQ9 cnt L i v n A 0)]) fun nx0 lg G hG=>?_
 exact m_ (p:=An [G Ex.normal (sQ9 cnt L i v n A 0) H nx lg,Sm (V.ptr 0 0),Sm (V.ptr 1 0),Sm (i6 ↑cnt),Sm (V.ptr 3 0),Sm (pv9 cnt),Sm (V.im cnt (it L)),Sm (V.ptr 6 0),Sm (V.sl 7 0 cnt (some (cnt-cnt))),Sm (i6 ↑i),Sm (i6 ↑v),Sm (V.im n A),i6 0=i6 ↑(0:Nat),_]) ⟨aq,aq,aq,aq,aq,aq,aq,aq,aq,aq,aq,aq,aq,tq⟩
end
abbrev Y6(cnt:Nat)(L:List Nat)(i:Nat)(ls:Nat→List Int):Prop:=∀w,w<cnt→w∉L.take i→ls (4*w+1)=[]∧ls (4*w+3)=[]
theorem Qn2(i:Nat)(hi:i<cnt)(H:T O)(nx:Nat)(h:M6 dc W g P cnt (Y6 cnt L i) H nx): ∃H' nx',M6 dc W g P cnt (Y6 cnt L (i+1)) H' nx'∧To 365 (at' 6 [1,1,1,1,1,1,1,1,1,1,1,1,0,1,0,0]) (sS9 cnt L i) H nx .normal (sS9 cnt L (i+1)) H' nx':=by
 have hLf:=Qaq L
 have hd1:=Qgj (l:=L) (k:=i) (by omega)
 have htk:L.take (i+1)=L.take i++[L.getD i 0]:=by rw[List.take_add_one,List.getElem?_eq_getElem (by omega),List.getD_eq_getElem?_getD,List.getElem?_eq_getElem (by omega)];rfl
 have hv:L.getD i 0<cnt:=hm _ (by simp_all)
 have hvn:L.getD i 0∉L.take i:=fun h=>by
  grind[List.getElem_of_mem,List.getElem_inj]
 generalize L.getD i 0=v at*
 obtain⟨H1,nx1,hM1,t1⟩:=fr_all L hc hP hPo hl hm hnd i v hi hv H nx (h.mono fun ls hy=>⟨fun w hw _ hwn=>hy w hw hwn,(hy v hv hvn).2,by simp_all⟩)
 have hM1':=hM1
 obtain⟨m,a,ow,rv,F,ls,hd,kd,R,hr,rfl,hB,hN,hR,hQ,hY⟩:=hM1
 have hfl:(ls (4*v+1)).length≤4:=by have:=hY.2.2;omega
 obtain⟨p,hp,hp1,hp2,t2⟩:=sz_all L hc hB hN hR hQ (by omega) i v hv hfl _ rfl
 have hbd:=rsz_bd hc hB hN hR hQ hv
 have hln:=Qr2 hc hB hN hR hQ (v:=v)
 have hnl:=hQ.nl v hv
 have hcvs: ∀c,c<p→∃cv:List Int,headF ((rtL (cmL (rSz R (mlN cnt F ls) (mcN F ls v)) p)).drop (c*1))=some (sl cv)∧cv.length=(ls (4*v+1)).length+(ls (4*v+2)).length∧∀k,k<cv.length→0≤cv.getD k 0∧cv.getD k 0<3:=fun c hc'=>by
  have hh:=Qe9 (R:=cmL (rSz R (mlN cnt F ls) (mcN F ls v)) p) (k:=c) (by grind[Qpr])
  rw[cmL_get hc']at hh
  have hok:=(Qmf (fun i hi=>(hbd i hi).1) (j:=c) (by omega)).1
  refine⟨_,hh,by rw[Qe5,hln],fun k hk=>?_⟩
  rw[Qe5]at hk
  have h1:=hok k hk
  grind
 obtain⟨H2,nx2,hM2,t3⟩:=out_loop L hc hP hPo hl hm hnd i v p (rtL (cmL (rSz R (mlN cnt F ls) (mcN F ls v)) p)) (Qar _) hi hv hp2 _ _ (by omega) hcvs H1 (m+8) ⟨m,a,ow,rv,F,ls,hd,kd,R,hr,rfl,hB,hN,hR,hQ,hY.1,rfl,rfl,by simp_all⟩
 refine⟨H2,nx2,hM2.mono fun ls' hy w hw hwn=>hy.1 w hw (fun e=>hwn (by simp_all)) (fun h=>hwn (by simp_all)),?_⟩
 clear hM1' hB hN hR hQ hY hM2 hcvs hbd h hPo
 refine To.seq (a:=(at' 6 [1,1,1,1,1,1,1,1,1,1,1,1,0,1,0,0,0])) (b:=(at' 6 [1,1,1,1,1,1,1,1,1,1,1,1,0,1,0,0,1])) (sl1:=sS9 cnt L i) (H1:=H) (nx1:=nx) (by kernel_rfl) ?_ (To.seq (a:=(at' 6 [1,1,1,1,1,1,1,1,1,1,1,1,0,1,0,0,1,0])) (b:=(at' 6 [1,1,1,1,1,1,1,1,1,1,1,1,0,1,0,0,1,1])) (sl1:=sS9 cnt L i) (H1:=H2) (nx1:=nx2) (by kernel_rfl) (To.blockN (id:=7) (b:=(at' 6 [1,1,1,1,1,1,1,1,1,1,1,1,0,1,0,0,1,0,0])) (by kernel_rfl) (fun h=>by cases h) (To.seq (a:=(at' 6 [1,1,1,1,1,1,1,1,1,1,1,1,0,1,0,0,1,0,0,0])) (b:=(at' 6 [1,1,1,1,1,1,1,1,1,1,1,1,0,1,0,0,1,0,0,1])) (sl1:=sJ9 cnt L i v) (H1:=H) (nx1:=nx) (by kernel_rfl) ?_ (To.seq (b:=(at' 6 [1,1,1,1,1,1,1,1,1,1,1,1,0,1,0,0,1,0,0,1,1])) (by kernel_rfl) t1 (To.seq (b:=(at' 6 [1,1,1,1,1,1,1,1,1,1,1,1,0,1,0,0,1,0,0,1,1,1])) (by kernel_rfl) t2 t3)))) ?_)
 ·refine To.of_vc (n := 100) (hs := [yes 196, toO (sS9 cnt L i)]) fun nx0 lg G hG => ?_
  clear t1 t2 t3
  exact m_ (p:=An [decide ((↑i:Int)<(↑cnt:Int))=true,G Ex.normal (sS9 cnt L i) H nx lg,Sm (V.ptr 0 0),Sm (V.ptr 1 0),Sm (i6 ↑cnt),Sm (V.ptr 3 0),Sm (pv9 cnt),Sm (V.im cnt (it L)),Sm (V.ptr 6 0),Sm (V.sl 7 0 cnt (some (cnt-cnt))),Sm (i6 ↑i),_]) ⟨aq,aq,aq,aq,aq,aq,aq,aq,aq,aq,aq,tq⟩
 ·refine To.of_vc (n := 100) (hs := [pl 201, ld 202 (i6 (v : Nat)), toO (sJ9 cnt L i v)]) fun nx0 lg G hG => ?_
  clear t1 t2 t3
  exact m_ (p:=An [An [(0:Int)≤(↑i:Int),(↑i:Int)<(↑cnt:Int)],_,G Ex.normal (sJ9 cnt L i v) H nx lg,Sm (V.ptr 0 0),Sm (V.ptr 1 0),Sm (i6 ↑cnt),Sm (V.ptr 3 0),Sm (pv9 cnt),Sm (V.im cnt (it L)),Sm (V.ptr 6 0),Sm (V.sl 7 0 cnt (some (cnt-cnt))),Sm (i6 ↑i),Sm (i6 ↑v),_]) ⟨a_,hd1,aq,aq,aq,aq,aq,aq,aq,aq,aq,aq,aq,tq⟩
 ·refine To.of_vc (n := 100) (hs := [nu 198 (i + 1 : Nat), toO (sS9 cnt L (i + 1))]) fun nx0 lg G hG => ?_
  clear t1 t2 t3
  exact m_ (p:=An [wr .i64 ((↑i:Int)+(1:Int))=(↑(i+1):Int),G Ex.normal (sS9 cnt L (i+1)) H2 nx2 lg,Sm (V.ptr 0 0),Sm (V.ptr 1 0),Sm (i6 ↑cnt),Sm (V.ptr 3 0),Sm (pv9 cnt),Sm (V.im cnt (it L)),Sm (V.ptr 6 0),Sm (V.sl 7 0 cnt (some (cnt-cnt))),Sm (i6 ↑(i+1)),_]) ⟨aq,aq,aq,aq,aq,aq,aq,aq,aq,aq,aq,tq⟩
theorem Qrc(H:T O)(nx:Nat)(h:M6 dc W g P cnt (Y6 cnt L 0) H nx): ∃H' nx',M6 dc W g P cnt (fun _=>True) H' nx'∧To 365 (at' 6 [1,1,1,1,1,1,1,1,1,1,1,1,0]) (sF9 cnt L) H nx .normal (sF9 cnt L) H' nx':=by
 have hLf:=Qaq L
 have key: ∃e sl H' nx',(e= .exit 6∧sl=sF9 cnt L∧M6 dc W g P cnt (fun _=>True) H' nx')∧To 365 (at' 6 [1,1,1,1,1,1,1,1,1,1,1,1,0,1,0]) (sS9 cnt L 0) H nx e sl H' nx':=by
  refine To.loop (b:=(at' 6 [1,1,1,1,1,1,1,1,1,1,1,1,0,1,0,0])) (by kernel_rfl) (fun(i:Nat) H nx=>i≤cnt∧M6 dc W g P cnt (Y6 cnt L i) H nx) (fun i=>sS9 cnt L i) (fun i=>cnt-i) (fun e sl H nx=>e= .exit 6∧sl=sF9 cnt L∧M6 dc W g P cnt (fun _=>True) H nx) (fun i H nx hI=>?_) 0 H nx ⟨Nat.zero_le _,h⟩
  obtain⟨hi,hM⟩:=hI
  by_cases hlt:i<cnt
  ·obtain ⟨H', nx', h1, h2⟩ := Qn2 L hc hP hPo hl hm hnd i hlt H nx hM
   exact .inl ⟨i+1,H',nx',⟨hlt,h1⟩,by omega,h2⟩
  ·obtain rfl : i = cnt := by omega
   right
   refine⟨.exit 6,sF9 i L,H,nx,(fun h=>by cases h),⟨rfl,rfl,hM.mono fun _ _=>trivial⟩,?_⟩
   clear h hM hPo
   refine To.of_vc (n:=100) (hs:=[no 196,toO (sF9 i L)]) fun nx0 lg G hG=>?_
   exact m_ (p:=An [decide ((↑i:Int)<(↑i:Int))=false,G (Ex.exit 6) (sF9 i L) H nx lg,Sm (V.ptr 0 0),Sm (V.ptr 1 0),Sm (i6 ↑i),Sm (V.ptr 3 0),Sm (pv9 i),Sm (V.im i (it L)),Sm (V.ptr 6 0),Sm (V.sl 7 0 i (some (i-i))),_]) ⟨aq,aq,aq,aq,aq,aq,aq,aq,aq,aq,tq⟩
 obtain⟨e,sl,H',nx',⟨rfl,rfl,h1⟩,h3⟩:=key
 refine⟨H',nx',h1,To.seq (a:=(at' 6 [1,1,1,1,1,1,1,1,1,1,1,1,0,0])) (b:=(at' 6 [1,1,1,1,1,1,1,1,1,1,1,1,0,1])) (sl1:=sS9 cnt L 0) (H1:=H) (nx1:=nx) (by kernel_rfl) ?_ (To.block (by kernel_rfl) h3)⟩
 clear h h1 h3 hPo
 refine To.of_vc (n:=100) (hs:=[toO (sS9 cnt L 0)]) fun nx0 lg G hG=>?_
 exact m_ (p:=An [G Ex.normal (sS9 cnt L 0) H nx lg,Sm (V.ptr 0 0),Sm (V.ptr 1 0),Sm (i6 ↑cnt),Sm (V.ptr 3 0),Sm (pv9 cnt),Sm (V.im cnt (it L)),Sm (V.ptr 6 0),Sm (V.sl 7 0 cnt (some (cnt-cnt))),i6 0=i6 ↑(0:Nat),_]) ⟨aq,aq,aq,aq,aq,aq,aq,aq,aq,aq,tq⟩
end
theorem md_end{dc:List V}{W:List Nat}{g:Int}{qc:List V}{cnt a:Nat}{ow:Nat→Bool}{rv:V}{H:T O}{nx:Nat}(L:List Nat)(hB:MB dc W g qc cnt a ow rv H)(hrv:rv= .nils∨∃h q,rv= .sl h 0 q none):To 365 (at' 6 [1,1,1,1,1,1,1,1,1,1,1,1,1]) (sF9 cnt L) H nx .ret [(2,.ptr 1 0)] (pt H 1 (ca9 g rv (nv9 cnt))) nx:=by
 have h1:=hB.h1
 have h3:=hB.h3
 clear hB
 have hLf:=Qaq L
 rcases hrv with rfl|⟨h,q,rfl⟩
 ·refine To.of_vc (n := 100) (hs := [lo_ 364 (ca9 g .nils (nv9 cnt)) (.agg [i6 g, .nils, nv9 cnt]), so (ca9 0 .nils .nils) [i6 g, .nils, nv9 cnt], toO [(2, .ptr 1 0)]]) fun nx0 lg G hG => ?_
  exact m_ (p:=let z0:=[i6 g,V.nils,nv9 cnt];An [_,takeE 3 z0=some z0,An [_,layE 0 [i6 0,V.nils,V.nils] z0=some z0],G Ex.ret [(2,V.ptr 1 0)] (pt H 1 (O.row 34 none z0)) nx ([1]++lg),Sm (V.ptr 1 0),_]) ⟨h3,(by rfl),⟨h1,(by rfl)⟩,aq,aq,tq⟩
 ·refine To.of_vc (n := 100) (hs := [lo_ 364 (ca9 g (.sl h 0 q none) (nv9 cnt)) (.agg [i6 g, .sl h 0 q none, nv9 cnt]), so (ca9 0 .nils .nils) [i6 g, .sl h 0 q none, nv9 cnt], toO [(2, .ptr 1 0)]]) fun nx0 lg G hG => ?_
  exact m_ (p:=let z0:=[i6 g,V.sl h 0 q none,nv9 cnt];An [_,takeE 3 z0=some z0,An [_,layE 0 [i6 0,V.nils,V.nils] z0=some z0],G Ex.ret [(2,V.ptr 1 0)] (pt H 1 (O.row 34 none z0)) nx ([1]++lg),Sm (V.ptr 1 0),_]) ⟨h3,(by rfl),⟨h1,(by rfl)⟩,aq,aq,tq⟩
theorem md_gc{H:T O}{nx:Nat}{lg:List Nat}{k:Nat}(hn:2≤nx){l:List V}{t:Nat}(h1:gt H 1=some (.row t none l)){l':List V}(hv:ViewL H.get (Fr 0 [1] lg) (rho 0 [1]) l' l):Gc 0 [1] (mkSo g0 k [(2,.ptr 1 0)] H nx lg) (mkSt g0 k {sl:=[(2,.ptr 0 0)],os:=[.row t none l']}):=by
 rw[Qay]at h1
 refine⟨rfl,fun g hg=>?_,by decide,rfl,rfl,fun i x hx=>?_,fun h o ho hlive=>?_,fun h _ hlt=>absurd hlt (Nat.not_lt_zero _)⟩
 ·refine ⟨Nat.zero_le _, ?_⟩
  show g<nx
  simp at hg;omega
 ·have c4 : gt (putL (blank k) [(2, V.ptr 1 0)]) 2 = some (.ptr 1 0) := by
   show gt (pt (blank k) 2 (V.ptr 1 0)) 2=_
   rw[Qay,pt_eq,T.get_put,if_pos rfl]
  rw[Qay]at c4
  rcases putL_get _ _ _ _ hx with hmem|hmem
  ·simp only [List.mem_cons, List.not_mem_nil, or_false] at hmem
   cases hmem
   exact⟨_,c4,1,rfl,rfl⟩
  ·rw[Qbl]at hmem;cases hmem
 ·rcases ofOs_get _ _ _ _ _ ho with ⟨_, hm⟩ | hm
  ·rw [Nat.sub_zero] at hm
   rcases h with _|h
   ·cases hm
    exact⟨1,_,rfl,h1,_,rfl,hv⟩
   ·simp at hm
  ·simp at hm
def LenB(K:Nat)(R:List (List Int))(N:List Mc):Prop:=R.length≤K∧N.length≤K∧(∀L∈R,L.length≤K)∧∀x∈N,x.fr.length≤K∧x.no.length≤K∧x.ou.length≤K
def PlM(R:List (List Int))(N:List Mc):Prop:=R.length≤6∧∀x∈N,(∀z∈x.fr,0≤z∧z<N.length)∧∀z∈x.no,0≤z∧z<R.length
theorem model_ex{gr:Nat}{NN:List Pc}{SS:List (Nat×Nat)}{W Q:List Nat}(ok:DrOk gr NN SS W Q): ∃(g:Int)(R:List (List Int))(N:List Mc),LenB 5000 R N∧(1≤N.length∧N.length≤4)∧PlM R N∧FnOk Pg g0 6 [.agg (drL gr NN SS W Q)] (mdV g R N):=by
 obtain⟨cnt,g,P,F0,hc,hg,hP,hPo,hF0,start⟩:=md_start gr NN SS W Q ok
 have hl:=Qcz Q cnt
 have hm:=Qc9 (Q:=Q) cnt
 have hnd:=orL_nd (Q:=Q) cnt
 generalize orL Q cnt=L at*
 obtain⟨H1,nx1,q1,t1⟩:=ow_loop L hc hg ok.w ok.wl hP hPo _ _ (mq_start hc hF0)
 obtain⟨H2,nx2,q2,t2⟩:=sh_loop L hc hg ok hP hPo H1 nx1 q1
 obtain⟨H3,nx3,q3,t3⟩:=Qrc L hc hP hPo hl hm hnd H2 nx2 ((m6_start hc q2).mono fun ls hy w hw _=>hy w hw)
 obtain⟨m,a,ow,rv,F,ls,hd,kd,R,hr,rfl,hB,hN,hR,hQ,_⟩:=q3
 have hrv:rv= .nils∨∃h q,rv= .sl h 0 q none:=by
  by_cases h:R=[]
  ·exact .inl (hR.nil h)
  ·exact .inr ⟨_,_,(hR.own h).1⟩
 have t4:=md_end (nx:=m+8) L hB hrv
 obtain⟨H4,hH4⟩: ∃H4,H4=pt H3 1 (ca9 g rv (nv9 cnt)):=⟨_,rfl⟩
 have g4: ∀i,i≠1→gt H4 i=gt H3 i:=fun i hi=>by rw[hH4,Qaa,if_neg hi]
 have hN4:NL cnt F ls hd kd H4 (m+8):=hN.frame (Nat.le_refl _) (g4 2 (by omega)) fun j hj hS hl'=>g4 _ (by have:=(hN.own j hj hS hl').2.1;omega)
 have hR4:RO9 cnt ls hd rv R hr H4 (m+8):=⟨hR.nil,fun h=>by
  obtain⟨r1,r2,r3,r4⟩:=hR.own h
  exact⟨r1,r2,r3,by rw[g4 _ (by omega)];exact r4⟩,hR.sep⟩
 refine⟨g,R,mlN cnt F ls,⟨by have:=hQ.rn;omega,by rw[Qbw];omega,fun L hL=>?_,fun x hx=>?_⟩,by rw[Qbw];exact hc,⟨hQ.rn,fun x hx=>?_⟩,?_⟩
 ·have:=hQ.rl L hL;omega
 ·obtain ⟨v, hv, rfl⟩ := List.mem_map.1 hx
  have hv:=List.mem_range.1 hv
  have h1:=hQ.fl v hv
  have h2:=hQ.nl v hv
  have h3:=hQ.ol v hv
  exact⟨by show(ls (4*v+1)).length≤_;omega,by show(ls (4*v+2)).length≤_;omega,by show(ls (4*v+3)).length≤_;omega⟩
 ·obtain ⟨v, hv, rfl⟩ := List.mem_map.1 hx
  have hv:=List.mem_range.1 hv
  rw[Qbw]
  exact⟨fun z hz=>hQ.fe v hv z hz,fun z hz=>hQ.no v hv z hz⟩
 ·rw [← hH4] at t4
  have full:=start _ _ _ _ (To.seq (b:=at' 6 [1,1,1,1,1,1,1,1,1,1,1]) (by kernel_rfl) t1 (To.seq (b:=at' 6 [1,1,1,1,1,1,1,1,1,1,1,1]) (by kernel_rfl) t2 (To.seq (b:=at' 6 [1,1,1,1,1,1,1,1,1,1,1,1,1]) (by kernel_rfl) t3 t4)))
  have hview:=fun Fz hF=>Qq5 (g:=g) hc hN4 hR4 hQ (by omega) Fz hF
  refine fn_of_to (.inr rfl) full (r:=[1]) (S:={sl:=[(2,.ptr 0 0)],os:=[.row 34 none [i6 g,.im R.length (rtL R),.im (mlN cnt F ls).length (mcL (mlN cnt F ls))]]}) rfl (fun lg=>md_gc (by omega) (by rw[hH4,Qaa,if_pos rfl]) ?_) ?_
  ·obtain ⟨y, ys, e1, e2, _⟩ := hview (Fr 0 [1] lg) (fun i h1 _ => ⟨Nat.zero_le _, by simp; omega, fun _ _ => Nat.zero_le _⟩)
   cases e1
   obtain⟨l',e3,e4⟩:=e2
   cases e3
   obtain⟨y1,z1,f1,v1,y2,z2,f2,v2,y3,z3,f3,v3,v4⟩:=e4
   exact⟨y1,z1,f1,v1,y2,z2,f2,v2,y3,z3,f3,v3,v4⟩
  ·show Qnx 365 (at' 6 []) _ (.agg [i6 g, .im R.length (rtL R), .im (mlN cnt F ls).length (mcL (mlN cnt F ls))]) _
   generalize rtL R=RR at*
   generalize mcL (mlN cnt F ls)=NC at*
   refine Eq.mp (by kernel_rfl:(365=365∧at' 6 []=at' 6 []∧true=true∧V.agg [i6 g,.im R.length RR,.im (mlN cnt F ls).length NC]= .agg [i6 g,.im R.length RR,.im (mlN cnt F ls).length NC])=_) ⟨rfl,rfl,rfl,rfl⟩
theorem NR.ext{H H':T O}{lo nx nx' hR hR' t:Nat}{sp:Option Nat}{n n':Nat}{F F':Nat→V}{S:Nat→Bool}{ls ls':Nat→List Int}{hd hd':Nat→Nat}{kd kd':Nat→Bool}
  (h:n≠0→NR H lo nx hR t sp n F S ls hd kd)(hlo:lo≤nx)(hn:nx≤nx')(row:gt H' hR'=some (.row t sp (cellsF n' F')))
  (old: ∀i,i<n→F' i=F i∧ls' i=ls i∧hd' i=hd i∧kd' i=kd i∧(S i=true→ls i≠[]→gt H' (hd i)=gt H (hd i)∧hd i≠hR'))
  (nil: ∀i,n≤i→i<n'→S i=true→ls' i=[]→F' i= .nils)
  (own: ∀i,n≤i→i<n'→S i=true→ls' i≠[]→F' i= .sl (hd' i) 0 (ls' i).length (rmV (kd' i))∧nx≤hd' i∧hd' i<nx'∧hd' i≠hR'∧gt H' (hd' i)=some (liR (kd' i) (ls' i)))
  (inj: ∀i j,n≤i→i<n'→n≤j→j<n'→S i=true→S j=true→ls' i≠[]→ls' j≠[]→hd' i=hd' j→i=j):NR H' lo nx' hR' t sp n' F' S ls' hd' kd' where
 row:=row
 nil i h1 h2 h3:=by
  by_cases hi:i<n
  ·obtain ⟨e1, e2, e3, e4, e5⟩ := old i hi
   rw[e1];rw[e2]at h3
   exact(h (by omega)).nil i hi h2 h3
  ·exact nil i (by omega) h1 h2 h3
 own i h1 h2 h3:=by
  by_cases hi:i<n
  ·obtain ⟨e1, e2, e3, e4, e5⟩ := old i hi
   rw[e2]at h3
   obtain⟨a1,a2,a3,a4,a5⟩:=(h (by omega)).own i hi h2 h3
   obtain⟨b1,b2⟩:=e5 h2 h3
   rw[e1,e2,e3,e4]
   exact⟨a1,a2,by omega,b2,b1.trans a5⟩
  ·obtain ⟨a1, a2, a3, a4, a5⟩ := own i (by omega) h1 h2 h3
   exact⟨a1,by omega,a3,a4,a5⟩
 inj i j h1 h2 h3 h4 h5 h6 e:=by
  by_cases hi:i<n<;>by_cases hj:j<n
  ·obtain ⟨_, e2, e3, _⟩ := old i hi
   obtain⟨_,f2,f3,_⟩:=old j hj
   rw[e2]at h5;rw[f2]at h6;rw[e3,f3]at e
   exact(h (by omega)).inj i j hi hj h3 h4 h5 h6 e
  ·obtain ⟨_, e2, e3, _⟩ := old i hi
   rw[e2]at h5;rw[e3]at e
   have a:=((h (by omega)).own i hi h3 h5).2.2.1
   have b:=(own j (by omega) h2 h4 h6).2.1
   omega
  ·obtain ⟨_, f2, f3, _⟩ := old j hj
   rw[f2]at h6;rw[f3]at e
   have a:=((h (by omega)).own j hj h4 h6).2.2.1
   have b:=(own i (by omega) h1 h3 h5).2.1
   omega
  ·exact inj i j (by omega) h1 (by omega) h2 h3 h4 h5 h6 e
structure LB(sz t:Nat)(H:T O)(lo nx:Nat)(v:V)(k:Nat)(F:Nat→V)(S:Nat→Bool)(ls:Nat→List Int)(hd:Nat→Nat)(kd:Nat→Bool)(hR:Nat):Prop where
 nil:k=0→v= .nils
 own:k≠0→v= .sl hR 0 k none∧lo≤hR∧hR<nx∧NR H lo nx hR t (some sz) (sz*k) F S ls hd kd
theorem LB.empty{sz t:Nat}{H:T O}{lo nx:Nat}{F:Nat→V}{S:Nat→Bool}{ls:Nat→List Int}{hd:Nat→Nat}{kd:Nat→Bool}{hR:Nat}:LB sz t H lo nx .nils 0 F S ls hd kd hR:=⟨fun _=>rfl,fun h=>absurd rfl h⟩
theorem LB.frame{sz t:Nat}{H H':T O}{lo nx nx':Nat}{v:V}{k:Nat}{F:Nat→V}{S:Nat→Bool}{ls:Nat→List Int}{hd:Nat→Nat}{kd:Nat→Bool}{hR:Nat}(h:LB sz t H lo nx v k F S ls hd kd hR)(hn:nx≤nx')(hg: ∀i,lo≤i→i<nx→gt H' i=gt H i):LB sz t H' lo nx' v k F S ls hd kd hR:=
 ⟨h.nil, fun hk => by
  obtain⟨a,b,c,d⟩:=h.own hk
  exact⟨a,b,by omega,d.frame hn (hg _ b c) fun i h1 h2 h3=>hg _ (d.own i h1 h2 h3).2.1 (d.own i h1 h2 h3).2.2.1⟩⟩
theorem LB.view{sz t:Nat}{H:T O}{lo nx:Nat}{v:V}{k:Nat}{F:Nat→V}{S:Nat→Bool}{ls:Nat→List Int}{hd:Nat→Nat}{kd:Nat→Bool}{hR:Nat}(h:LB sz t H lo nx v k F S ls hd kd hR){G:Nat→V}{Fz:Nat→Prop}{ρ:Nat→Option Nat}(hF: ∀g,lo≤g→g<nx→Fz g)(h0: ∀i,i<sz*k→S i=false→G i=F i∧Hf (F i))(h1: ∀i,i<sz*k→S i=true→G i=sl (ls i)):View H.get Fz ρ (.im k (cellsF (sz*k) G)) v:=by
 by_cases hk:k=0
 ·subst hk;rw[h.nil rfl];exact .inr (.inl ⟨rfl,rfl⟩)
 ·obtain ⟨a, b, c, d⟩ := h.own hk
  rw[a]
  exact .inr (.inr ⟨hR,0,none,_,_,_,rfl,hF _ b c,by rw[←Qay];exact d.row,NR.viewP d hF h0 h1⟩)
theorem Qfg{n:Nat}{F G:Nat→V}(h: ∀i,i<n→F i=G i):cellsF n F=cellsF n G:=List.map_congr_left fun i hi=>h i (List.mem_range.1 hi)
theorem Qb4(n:Nat)(F:Nat→V):cellsF (n+1) F=cellsF n F++[F n]:=by unfold cellsF;rw[List.range_succ,List.map_append];rfl
theorem Qge(n:Nat)(F:Nat→V)(x:V):cellsF n F++[x]=cellsF (n+1) (upF F n x):=by
 rw[Qb4,Qai]
 congr 1
 exact Qfg fun i hi=>(Qah (by omega)).symm
abbrev cx9(g:Int)(r n:V):O:=.row 34 none [i6 g,r,n]
structure BB(bc:List V)(g:Int)(r0 n0:V)(H:T O):Prop where
 h0:gt H 0=some (.row 28 none bc)
 h1:gt H 1=some (cx9 g r0 n0)
 h2:gt H 2=some (cx9 0 .nils .nils)
theorem BB.frame{bc:List V}{g:Int}{r0 n0:V}{H H':T O}(h:BB bc g r0 n0 H)(hg: ∀i,i<3→gt H' i=gt H i):BB bc g r0 n0 H':=⟨by rw[hg 0 (by omega)];exact h.h0,by rw[hg 1 (by omega)];exact h.h1,by rw[hg 2 (by omega)];exact h.h2⟩
theorem Qi0{H:T O}{l:List Int}:srcV H 1 (sl l)=some (l.length,ints l):=by
 grind[srcV,Nat.ble_eq_true_of_le,Qal]
abbrev tS9(rv:V)(r:Nat):List (Nat×V):=[(2,.ptr 0 0),(3,.ptr 1 0),(4,.ptr 2 0),(5,rv),(6,i6 (r:Nat))]
abbrev tX9(rv:V):List (Nat×V):=[(2,.ptr 0 0),(3,.ptr 1 0),(4,.ptr 2 0),(5,rv)]
abbrev RB(H:T O)(lo nx:Nat)(rv:V)(k:Nat)(F:Nat→V)(ls:Nat→List Int)(hd:Nat→Nat)(kd:Nat→Bool)(hR:Nat):Prop:=LB 1 47 H lo nx rv k F (fun _=>true) ls hd kd hR
section
variable {bc:List V} {g:Int} {R:List (List Int)} {n0:V} {H:T O} {m:Nat} {rv:V} {F:Nat→V} {ls:Nat→List Int} {hd:Nat→Nat} {hR:Nat}
 (hB:BB bc g (.im R.length (rtL R)) n0 H) (hl: ∀L∈R,L.length≤1000000) (hn:R.length≤1000000)
include hB hl hn
theorem rt_round(r:Nat)(hr:r<R.length)(hL:RB H 3 (m+3) rv r F ls hd (fun _=>true) hR)(hls: ∀i,i<r→ls i=R.getD i []): ∃(rv':V)(H':T O)(m':Nat)(F':Nat→V)(ls':Nat→List Int)(hd':Nat→Nat)(hR':Nat),BB bc g (.im R.length (rtL R)) n0 H'∧RB H' 3 (m'+3) rv' (r+1) F' ls' hd' (fun _=>true) hR'∧(∀i,i<r+1→ls' i=R.getD i [])∧
  To 237 (at' 7 [1,1,0,1,0,0]) (tS9 rv r) H (m+3) .normal (tS9 rv' (r+1)) H' (m'+3):=by
 have hmem:R.getD r []∈R:=by rw[List.getD_eq_getElem?_getD,List.getElem?_eq_getElem hr];exact List.getElem_mem _
 have hL6:=hl _ hmem
 have hh:=Qe9 hr
 have hRf:=Qar R
 have hLf:=Qad (R.getD r [])
 obtain⟨h0,h1,h2⟩:=hB
 generalize hLe:R.getD r []=L at*
 -- what the new state holds, whatever the way was
 have fin: ∀(H':T O)(m' hR' q:Nat)(x:V),m+3≤m'+3→(∀i,i<m+3→(r≠0→i≠hR)→gt H' i=gt H i)→gt H' hR'=some (.row 47 (some 1) (cellsF r F++[x]))→(L=[]→x= .nils)→(L≠[]→x= .sl q 0 L.length none∧m+3≤q∧q<m'+3∧q≠hR'∧gt H' q=some (.row 3 (some 1) (ints L)))→m+3≤hR'→hR'<m'+3→
   BB bc g (.im R.length (rtL R)) n0 H'∧RB H' 3 (m'+3) (.sl hR' 0 (r+1) none) (r+1) (upF F r x) (upF ls r L) (upF hd r q) (fun _=>true) hR'∧(∀i,i<r+1→upF ls r L i=R.getD i []):=by
  intro H' m' hR' q x f1 f2 f3 f4 f5 f6 f7
  have hRb:r≠0→3≤hR∧hR<m+3:=fun h=>⟨(hL.own h).2.1,(hL.own h).2.2.1⟩
  refine⟨⟨?_,?_,?_⟩,⟨fun h=>by omega,fun _=>⟨rfl,by omega,f7,?_⟩⟩,fun i hi=>?_⟩
  ·grind
  ·grind
  ·grind
  ·rw [show 1 * (r + 1) = r + 1 by omega]
   refine NR.ext (n:=r) (hR:=hR) (nx:=m+3) (kd:=fun _=>true) (fun h=>by have:=(hL.own h).2.2.2;rwa [show 1*r=r by omega]at this) (by omega) f1 (by rw[f3,Qge]) (fun i hi=>⟨Qah (by omega),Qah (by omega),Qah (by omega),rfl,fun hS hne=>?_⟩) (fun i h1' h2' _ h3'=>?_) (fun i h1' h2' _ h3'=>?_) (fun i j a1 a2 a3 a4 _ _ _ _ _=>by omega)
   ·have hr0 : r ≠ 0 := by omega
    have hNR:=(hL.own hr0).2.2.2
    rw[show 1*r=r by omega]at hNR
    obtain⟨o1,o2,o3,o4,o5⟩:=hNR.own i hi hS hne
    grind
   all_goals grind[Qai]
  ·grind[Qai,Qah]
 by_cases hLn:L=[]
 ·subst hLn
  by_cases hr0:r=0
  ·subst hr0
   obtain rfl:=hL.nil rfl
   have hf:=fin (pt (pt H (m+3) (.row 47 none [.nils])) (m+4) (.row 47 (some 1) [.nils])) (m+2) (m+4) (m+3) (.nils) (by omega) (fun i hi _=>by grind[Qaa]) (by grind[Qaa]) (fun _=>rfl) (fun h=>absurd rfl h) (by omega) (by omega)
   refine⟨_,_,m+2,_,_,_,_,hf.1,hf.2.1,hf.2.2,?_⟩
   clear hf fin hL hls
   generalize rtL R=RR at*
   generalize R.length=nR at*
   refine To.of_vc (n:=100) (hs:=[lo_ 15 (cx9 g (.im nR RR) n0) (.im nR RR),yes 17,lo_ 23 (cx9 g (.im nR RR) n0) (.im nR RR),pl 25,ld 26 (.im 0 noL),(29,.an 1 [.nils]),nu 19 (0+1:Nat),toO (tS9 (.sl (m+4) 0 (0+1) none) (0+1))]) fun nx0 lg G hG=>?_
   exact m_ (p:=let z0:=(↑(0:Nat):Int);let z1:=V.im nR RR;let z2:=pt H (m+3) (O.row 47 none [V.nils]);let z4:=V.sl (m+4) 0 1 none;let z3:=headF (dropF 1 [i6 g,z1,n0]);An [_,z3=some z1,decide (z0<(↑nR:Int))=true,_,z3=some z1,An [(0:Int)≤z0,z0<(↑nR:Int)],headF (List.drop (0*1) RR)=some (V.im 0 noL),An [srcV z2 1 (V.sl (m+3) 0 1 (some 0))=some (1,[V.nils]),1≤9223372036854775807,1*24≤140737488355328],wr .i64 (z0+(1:Int))=(↑(1):Int),G Ex.normal (tS9 z4 1) (pt z2 (m+3+1) (O.row 47 (some 1) [V.nils])) (m+3+1+1) ([]++([]++lg)),Sm (V.ptr 0 0),Sm (V.ptr 1 0),Sm (V.ptr 2 0),V.sl (m+3+1) 0 1 none=z4,Sm (i6 ↑(1)),_]) ⟨h1,gq,aq,h1,gq,a_,gq,⟨Qan (by exact gq),a_⟩,aq,aq,aq,aq,aq,aq,aq,tq⟩
  ·obtain ⟨e, k1, k2, k3⟩ := hL.own hr0
   subst e
   obtain⟨k,rfl⟩: ∃k,hR=k+3:=⟨hR-3,by omega⟩
   have k4:gt H (k+3)=some (.row 47 (some 1) (cellsF r F)):=by have:=k3.row;rwa [show 1*r=r by omega]at this
   clear k3
   have hf:=fin (pt (pt (pt H (m+3) (.row 47 none [.nils])) (k+3) .dead) (m+4) (.row 47 (some 1) (cellsF r F++[.nils]))) (m+2) (m+4) (m+3) (.nils) (by omega) (fun i hi hi2=>by grind[Qaa]) (by grind[Qaa]) (fun _=>rfl) (fun h=>absurd rfl h) (by omega) (by omega)
   refine⟨_,_,m+2,_,_,_,_,hf.1,hf.2.1,hf.2.2,?_⟩
   clear hf fin hL hls
   generalize rtL R=RR at*
   generalize R.length=nR at*
   have hcl:=Qa6 r F
   generalize cellsF r F=CF at*
   refine To.of_vc (n:=100) (hs:=[lo_ 15 (cx9 g (.im nR RR) n0) (.im nR RR),yes 17,lo_ 23 (cx9 g (.im nR RR) n0) (.im nR RR),pl 25,ld 26 (.im 0 noL),(29,.aop (.row 47 (some 1) CF) 1 [.nils]),nu 19 (r+1:Nat),toO (tS9 (.sl (m+4) 0 (r+1) none) (r+1))]) fun nx0 lg G hG=>?_
   exact m_ (p:=let z0:=pt H (m+3) (O.row 47 none [V.nils]);let z1:=V.im nR RR;let z2:=(↑r:Int);let z4:=V.sl (m+4) 0 (r+1) none;let z3:=headF (dropF 1 [i6 g,z1,n0]);An [_,z3=some z1,decide (z2<(↑nR:Int))=true,_,z3=some z1,An [(0:Int)≤z2,z2<(↑nR:Int)],headF (List.drop (r*1) RR)=some (V.im 0 noL),srcV z0 1 (V.sl (m+3) 0 1 (some 0))=some (1,[V.nils]),An [gt z0 (k+3)=some (O.row 47 (some 1) CF),CF.length=r*1,1≤1,r+1≤9223372036854775807,(r+1)*24≤140737488355328,atoms [V.nils]=true],wr .i64 (z2+(1:Int))=(↑(r+1):Int),G Ex.normal (tS9 z4 (r+1)) (pt (pt z0 (k+3) O.dead) (m+3+1) (O.row 47 (some 1) (CF++[V.nils]))) (m+3+1+1) ([k+3]++([]++lg)),Sm (V.ptr 0 0),Sm (V.ptr 1 0),Sm (V.ptr 2 0),V.sl (m+3+1) 0 (r+1) none=z4,Sm (i6 ↑(r+1)),_]) ⟨h1,gq,aq,h1,gq,a_,gq,Qan (by exact gq),⟨gq,aq,aq,aq,aq,gq⟩,aq,aq,aq,aq,aq,aq,aq,tq⟩
 ·obtain ⟨q, hq⟩ : ∃ q, L.length = q + 1 := ⟨L.length - 1, by grind[List.length_pos_iff]⟩
  obtain⟨X,hX⟩: ∃X,X=ints L:=⟨_,rfl⟩
  have hXl:X.length=q+1:=by rw[hX,Qal,hq]
  have hsrc: ∀H:T O,srcV H 1 (.im (q+1) X)=some (q+1,X):=fun H=>by
   grind[Qi0]
  rw[show sl L= .im (q+1) X by grind]at hh
  rw[←hX]at hLf
  by_cases hr0:r=0
  ·subst hr0
   obtain rfl:=hL.nil rfl
   have hf:=fin (pt (pt (pt H (m+3) (.row 3 (some 1) X)) (m+4) (.row 47 none [.sl (m+3) 0 (q+1) none])) (m+5) (.row 47 (some 1) [.sl (m+3) 0 (q+1) none])) (m+3) (m+5) (m+3) (.sl (m+3) 0 (q+1) none) (by omega) (fun i hi _=>by grind[Qaa]) (by grind[Qaa]) (fun h=>absurd h hLn) (fun _=>⟨by rw[hq],by omega,by omega,by omega,by grind[Qaa]⟩) (by omega) (by omega)
   refine⟨_,_,m+3,_,_,_,_,hf.1,hf.2.1,hf.2.2,?_⟩
   clear hf fin hL hls
   generalize rtL R=RR at*
   generalize R.length=nR at*
   refine To.of_vc (n:=100) (hs:=[lo_ 15 (cx9 g (.im nR RR) n0) (.im nR RR),yes 17,lo_ 23 (cx9 g (.im nR RR) n0) (.im nR RR),pl 25,ld 26 (.im (q+1) X),(27,.an (q+1) X),(29,.an 1 [.sl (m+3) 0 (q+1) none]),nu 19 (0+1:Nat),toO (tS9 (.sl (m+5) 0 (0+1) none) (0+1))]) fun nx0 lg G hG=>?_
   exact m_ (p:=let z1:=(↑(0:Nat):Int);let z2:=[V.sl (m+3) 0 (q+1) none];let z3:=V.im nR RR;let z5:=V.sl (m+5) 0 1 none;let z0:=pt (pt H (m+3) (O.row 3 (some 1) X)) (m+3+1) (O.row 47 none z2);let z4:=headF (dropF 1 [i6 g,z3,n0]);An [_,z4=some z3,decide (z1<(↑nR:Int))=true,_,z4=some z3,An [(0:Int)≤z1,z1<(↑nR:Int)],_,An [srcV H 1 (V.im (q+1) X)=some (q+1,X),q+1≤9223372036854775807,(q+1)*8≤140737488355328],An [srcV z0 1 (V.sl (m+3+1) 0 1 (some 0))=some (1,z2),1≤9223372036854775807,1*24≤140737488355328],wr .i64 (z1+(1:Int))=(↑(1):Int),G Ex.normal (tS9 z5 1) (pt z0 (m+3+1+1) (O.row 47 (some 1) z2)) (m+3+1+1+1) ([]++([]++lg)),Sm (V.ptr 0 0),Sm (V.ptr 1 0),Sm (V.ptr 2 0),V.sl (m+3+1+1) 0 1 none=z5,Sm (i6 ↑(1)),_]) ⟨h1,gq,aq,h1,gq,a_,hh,a_,⟨Qan (by exact gq),a_⟩,aq,aq,aq,aq,aq,aq,aq,tq⟩
  ·obtain ⟨e, k1, k2, k3⟩ := hL.own hr0
   subst e
   obtain⟨k,rfl⟩: ∃k,hR=k+3:=⟨hR-3,by omega⟩
   have k4:gt H (k+3)=some (.row 47 (some 1) (cellsF r F)):=by have:=k3.row;rwa [show 1*r=r by omega]at this
   clear k3
   have hf:=fin (pt (pt (pt (pt H (m+3) (.row 3 (some 1) X)) (m+4) (.row 47 none [.sl (m+3) 0 (q+1) none])) (k+3) .dead) (m+5) (.row 47 (some 1) (cellsF r F++[.sl (m+3) 0 (q+1) none]))) (m+3) (m+5) (m+3) (.sl (m+3) 0 (q+1) none) (by omega) (fun i hi hi2=>by grind[Qaa]) (by grind[Qaa]) (fun h=>absurd h hLn) (fun _=>⟨by rw[hq],by omega,by omega,by omega,by grind[Qaa]⟩) (by omega) (by omega)
   refine⟨_,_,m+3,_,_,_,_,hf.1,hf.2.1,hf.2.2,?_⟩
   clear hf fin hL hls
   generalize rtL R=RR at*
   generalize R.length=nR at*
   have hcl:=Qa6 r F
   generalize cellsF r F=CF at*
   refine To.of_vc (n:=100) (hs:=[lo_ 15 (cx9 g (.im nR RR) n0) (.im nR RR),yes 17,lo_ 23 (cx9 g (.im nR RR) n0) (.im nR RR),pl 25,ld 26 (.im (q+1) X),(27,.an (q+1) X),(29,.aop (.row 47 (some 1) CF) 1 [.sl (m+3) 0 (q+1) none]),nu 19 (r+1:Nat),toO (tS9 (.sl (m+5) 0 (r+1) none) (r+1))]) fun nx0 lg G hG=>?_
   exact m_ (p:=let z1:=[V.sl (m+3) 0 (q+1) none];let z2:=V.im nR RR;let z3:=(↑r:Int);let z5:=V.sl (m+5) 0 (r+1) none;let z0:=pt (pt H (m+3) (O.row 3 (some 1) X)) (m+3+1) (O.row 47 none z1);let z4:=headF (dropF 1 [i6 g,z2,n0]);An [_,z4=some z2,decide (z3<(↑nR:Int))=true,_,z4=some z2,An [(0:Int)≤z3,z3<(↑nR:Int)],_,An [srcV H 1 (V.im (q+1) X)=some (q+1,X),q+1≤9223372036854775807,(q+1)*8≤140737488355328],srcV z0 1 (V.sl (m+3+1) 0 1 (some 0))=some (1,z1),An [gt z0 (k+3)=some (O.row 47 (some 1) CF),CF.length=r*1,1≤1,r+1≤9223372036854775807,(r+1)*24≤140737488355328,atoms z1=true],wr .i64 (z3+(1:Int))=(↑(r+1):Int),G Ex.normal (tS9 z5 (r+1)) (pt (pt z0 (k+3) O.dead) (m+3+1+1) (O.row 47 (some 1) (CF++z1))) (m+3+1+1+1) ([k+3]++([]++lg)),Sm (V.ptr 0 0),Sm (V.ptr 1 0),Sm (V.ptr 2 0),V.sl (m+3+1+1) 0 (r+1) none=z5,Sm (i6 ↑(r+1)),_]) ⟨h1,gq,aq,h1,gq,a_,hh,a_,Qan (by exact gq),⟨gq,aq,aq,aq,aq,gq⟩,aq,aq,aq,aq,aq,aq,aq,tq⟩
end
theorem rt_loop{bc:List V}{g:Int}{R:List (List Int)}{n0:V}{H:T O}(hB:BB bc g (.im R.length (rtL R)) n0 H)(hl: ∀L∈R,L.length≤1000000)(hn:R.length≤1000000): ∃(rv:V)(H':T O)(m':Nat)(F:Nat→V)(ls:Nat→List Int)(hd:Nat→Nat)(hR:Nat),BB bc g (.im R.length (rtL R)) n0 H'∧RB H' 3 (m'+3) rv R.length F ls hd (fun _=>true) hR∧(∀i,i<R.length→ls i=R.getD i [])∧
  To 237 (at' 7 [1,1,0]) (tX9 .nils) H 3 .normal (tX9 rv) H' (m'+3):=by
 have hRf:=Qar R
 have key: ∃e sl H' nx',(∃rv m' F ls hd hR,e= .exit 0∧sl=tX9 rv∧nx'=m'+3∧BB bc g (.im R.length (rtL R)) n0 H'∧RB H' 3 (m'+3) rv R.length F ls hd (fun _=>true) hR∧(∀i,i<R.length→ls i=R.getD i []))∧To 237 (at' 7 [1,1,0,1,0]) (tS9 .nils 0) H 3 e sl H' nx':=by
  refine To.loop (b:=(at' 7 [1,1,0,1,0,0])) (by kernel_rfl) (fun(q:Nat×V) H nx=>∃m F ls hd hR,nx=m+3∧q.1≤R.length∧BB bc g (.im R.length (rtL R)) n0 H∧RB H 3 (m+3) q.2 q.1 F ls hd (fun _=>true) hR∧(∀i,i<q.1→ls i=R.getD i [])) (fun q=>tS9 q.2 q.1) (fun q=>R.length-q.1) (fun e sl H' nx'=>∃rv m' F ls hd hR,e= .exit 0∧sl=tX9 rv∧nx'=m'+3∧BB bc g (.im R.length (rtL R)) n0 H'∧RB H' 3 (m'+3) rv R.length F ls hd (fun _=>true) hR∧(∀i,i<R.length→ls i=R.getD i [])) (fun q H nx hI=>?_) (0,.nils) H 3 ⟨0,fun _=>.nils,fun _=>[],fun _=>0,0,rfl,Nat.zero_le _,hB,LB.empty,fun i h=>absurd h (Nat.not_lt_zero _)⟩
  obtain⟨r,rv⟩:=q
  obtain⟨m,F,ls,hd,hR,rfl,hr,hB,hL,hls⟩:=hI
  dsimp only at hr hL hls
  by_cases hlt:r<R.length
  ·obtain ⟨rv', H', m', F', ls', hd', hR', a1, a2, a3, a4⟩ := rt_round hB hl hn r hlt hL hls
   exact .inl ⟨(r+1,rv'),H',m'+3,⟨m',F',ls',hd',hR',rfl,hlt,a1,a2,a3⟩,by omega,a4⟩
  ·obtain rfl : r = R.length := by omega
   refine .inr ⟨.exit 0,tX9 rv,H,m+3,(fun h=>by cases h),⟨rv,m,F,ls,hd,hR,rfl,rfl,rfl,hB,hL,hls⟩,?_⟩
   have h1:=hB.h1
   clear hB hL hls
   generalize rtL R=RR at*
   generalize R.length=nR at*
   refine To.of_vc (n:=100) (hs:=[lo_ 15 (cx9 g (.im nR RR) n0) (.im nR RR),no 17,toO (tX9 rv)]) fun nx0 lg G hG=>?_
   exact m_ (p:=let z0:=V.im nR RR;An [_,headF (dropF 1 [i6 g,z0,n0])=some z0,decide ((↑nR:Int)<(↑nR:Int))=false,G (Ex.exit 0) (tX9 rv) H (m+3) lg,Sm (V.ptr 0 0),Sm (V.ptr 1 0),Sm (V.ptr 2 0),rv=rv,_]) ⟨h1,(by rfl),aq,aq,aq,aq,aq,aq,tq⟩
 obtain⟨e,sl,H',nx',⟨rv,m',F,ls,hd,hR,rfl,rfl,rfl,a1,a2,a3⟩,h3⟩:=key
 refine⟨rv,H',m',F,ls,hd,hR,a1,a2,a3,To.seq (a:=(at' 7 [1,1,0,0])) (b:=(at' 7 [1,1,0,1])) (sl1:=tS9 .nils 0) (H1:=H) (nx1:=3) (by kernel_rfl) ?_ (To.block (by kernel_rfl) h3)⟩
 clear hB a1 a2 a3 h3
 refine To.of_vc (n:=100) (hs:=[toO (tS9 .nils 0)]) fun nx0 lg G hG=>?_
 exact m_ (p:=An [G Ex.normal (tS9 V.nils 0) H 3 lg,Sm (V.ptr 0 0),Sm (V.ptr 1 0),Sm (V.ptr 2 0),Sm V.nils,i6 0=i6 ↑(0:Nat),_]) ⟨aq,aq,aq,aq,aq,aq,tq⟩
abbrev uS9(rv nv:V)(r:Nat):List (Nat×V):=[(2,.ptr 0 0),(3,.ptr 1 0),(4,.ptr 2 0),(5,rv),(8,nv),(9,i6 (r:Nat))]
abbrev uP9(rv nv:V)(r h:Nat):List (Nat×V):=[(2,.ptr 0 0),(3,.ptr 1 0),(4,.ptr 2 0),(5,rv),(8,nv),(9,i6 (r:Nat)),(10,.ptr h 0)]
abbrev uX9(rv nv:V):List (Nat×V):=[(2,.ptr 0 0),(3,.ptr 1 0),(4,.ptr 2 0),(5,rv),(8,nv)]
structure CP(L:List Int)(m m':Nat)(x:V)(H':T O):Prop where
 le:m≤m'
 nil:L=[]→x= .nils
 own:L≠[]→x= .sl (m+3) 0 L.length none∧m+3<m'+3∧gt H' (m+3)=some (.row 3 (some 1) (ints L))
theorem CP.atom{L:List Int}{m m':Nat}{x:V}{H':T O}(h:CP L m m' x H'):Qnn x=true:=by
 by_cases hL:L=[]
 ·rw[h.nil hL];rfl
 ·rw[(h.own hL).1];rfl
section
variable {bc:List V} {g:Int} {N:List Mc} {r0:V} {H:T O} {m:Nat} {rv nv:V} (r j:Nat) (hj:j<m) (x:Mc) (hx:N[r]? =some x) (hlx:x.fr.length≤1000000∧x.no.length≤1000000∧x.ou.length≤1000000)
 (h1:gt H 1=some (cx9 g r0 (.im N.length (mcL N)))) (a0 a1 a2 a3:V) (h10:gt H (j+3)=some (.row 86 none [a0,a1,a2,a3]))
include hj hx hlx h1 h10
theorem nd_1(ha:a1= .nils): ∃(y:V)(H':T O)(m':Nat),CP x.fr m m' y H'∧gt H' (j+3)=some (.row 86 none [a0,y,a2,a3])∧(∀i,i≠j+3→i<m+3→gt H' i=gt H i)∧To 237 (at' 7 [1,1,1,1,0,1,0,0,1,0,0,1,0]) (uP9 rv nv r (j+3)) H (m+3) .normal (uP9 rv nv r (j+3)) H' (m'+3):=by
 have hr:=(List.getElem?_eq_some_iff.1 hx).1
 have hd:=Qb5 hx
 have hNf:=Qav N
 obtain⟨l1,l2,l3⟩:=hlx
 have hL6:x.fr.length≤1000000:=by omega
 have hLf:=Qad x.fr
 obtain⟨c,fr,nz,ou⟩:=x
 dsimp only at*
 have hh:headF (dropF 1 ((mcL N).drop (r*4)))=some (sl fr):=by rw[hd];rfl
 have hh2:headF (((mcL N).drop (r*4)).drop 1)=some (sl fr):=by rw[hd];rfl
 subst ha
 clear hd hx
 generalize mcL N=NN at*
 generalize N.length=nN at*
 by_cases hLn:fr=[]
 ·rw [hLn] at hh hh2
  refine⟨.nils,pt H (j+3) (.row 86 none [a0,.nils,a2,a3]),m,⟨Nat.le_refl _,fun _=>rfl,fun h=>absurd hLn h⟩,by grind[Qaa],fun i h1 h2=>by grind[Qaa],?_⟩
  refine To.of_vc (n:=100) (hs:=[lo_ 45 (.row 86 none [a0,.nils,a2,a3]) .nils,lo_ 47 (cx9 g r0 (.im nN NN)) (.im nN NN),pl 49,ld 51 (.im 0 noL),so (.row 86 none [a0,.nils,a2,a3]) [a0,.nils,a2,a3],toO (uP9 rv nv r (j+3))]) fun nx0 lg G hG=>?_
  exact m_ (p:=let z0:=[a0,V.nils,a2,a3];let z2:=V.im nN NN;An [_,headF (dropF 1 z0)=some V.nils,_,headF (dropF (0+2) [i6 g,r0,z2])=some z2,An [(0:Int)≤(↑r:Int),(↑r:Int)<(↑nN:Int)],headF (List.drop 1 (List.drop (r*4) NN))=some (V.im 0 noL),An [_,layE 1 z0 [V.nils]=some z0],G Ex.normal (uP9 rv nv r (j+3)) (pt H (j+3) (O.row 86 none z0)) (m+3) ([j+3]++([]++lg)),Sm (V.ptr 0 0),Sm (V.ptr 1 0),Sm (V.ptr 2 0),rv=rv,nv=nv,Sm (i6 ↑r),Sm (V.ptr (j+3) 0),_]) ⟨h10,gq,h1,gq,a_,gq,⟨h10,gq⟩,aq,aq,aq,aq,aq,aq,aq,aq,tq⟩
 ·obtain ⟨q, hq⟩ : ∃ q, fr.length = q + 1 := ⟨fr.length - 1, by grind[List.length_pos_iff]⟩
  obtain⟨X,hX⟩: ∃X,X=ints fr:=⟨_,rfl⟩
  have hXl:X.length=q+1:=by rw[hX,Qal,hq]
  have hsrc: ∀H:T O,srcV H 1 (.im (q+1) X)=some (q+1,X):=fun H=>by
   grind[Qi0]
  rw[show sl fr= .im (q+1) X by simp_all]at hh hh2
  rw[←hX]at hLf
  refine⟨.sl (m+3) 0 (q+1) none,pt (pt H (m+3) (.row 3 (some 1) X)) (j+3) (.row 86 none [a0,.sl (m+3) 0 (q+1) none,a2,a3]),m+1,⟨by omega,fun h=>absurd h hLn,fun _=>⟨by rw[hq],by omega,by grind[Qaa]⟩⟩,by grind[Qaa],fun i h1 h2=>by grind[Qaa],?_⟩
  refine To.of_vc (n:=100) (hs:=[lo_ 45 (.row 86 none [a0,.nils,a2,a3]) .nils,lo_ 47 (cx9 g r0 (.im nN NN)) (.im nN NN),pl 49,ld 51 (.im (q+1) X),(52,.an (q+1) X),so (.row 86 none [a0,.nils,a2,a3]) [a0,.sl (m+3) 0 (q+1) none,a2,a3],toO (uP9 rv nv r (j+3))]) fun nx0 lg G hG=>?_
  clear hX
  exact m_ (p:=let z0:=[a0,V.nils,a2,a3];let z1:=V.sl (m+3) 0 (q+1) none;let z2:=pt H (m+3) (O.row 3 (some 1) X);let z4:=V.im nN NN;An [_,headF (dropF 1 z0)=some V.nils,_,headF (dropF (0+2) [i6 g,r0,z4])=some z4,An [(0:Int)≤(↑r:Int),(↑r:Int)<(↑nN:Int)],_,An [srcV H 1 (V.im (q+1) X)=some (q+1,X),q+1≤9223372036854775807,(q+1)*8≤140737488355328],An [gt z2 (j+3)=(some (O.row 86 none z0)),layE 1 z0 [z1]=some [a0,z1,a2,a3]],G Ex.normal (uP9 rv nv r (j+3)) (pt z2 (j+3) (O.row 86 none [a0,z1,a2,a3])) (m+3+1) ([j+3]++([]++lg)),Sm (V.ptr 0 0),Sm (V.ptr 1 0),Sm (V.ptr 2 0),rv=rv,nv=nv,Sm (i6 ↑r),Sm (V.ptr (j+3) 0),_]) ⟨h10,gq,h1,gq,a_,hh2,a_,⟨gq,gq⟩,aq,aq,aq,aq,aq,aq,aq,aq,tq⟩
theorem nd_2(ha:a2= .nils): ∃(y:V)(H':T O)(m':Nat),CP x.no m m' y H'∧gt H' (j+3)=some (.row 86 none [a0,a1,y,a3])∧(∀i,i≠j+3→i<m+3→gt H' i=gt H i)∧To 237 (at' 7 [1,1,1,1,0,1,0,0,1,0,0,1,1,0]) (uP9 rv nv r (j+3)) H (m+3) .normal (uP9 rv nv r (j+3)) H' (m'+3):=by
 have hr:=(List.getElem?_eq_some_iff.1 hx).1
 have hd:=Qb5 hx
 have hNf:=Qav N
 obtain⟨l1,l2,l3⟩:=hlx
 have hL6:x.no.length≤1000000:=by omega
 have hLf:=Qad x.no
 obtain⟨c,fr,nz,ou⟩:=x
 dsimp only at*
 have hh:headF (dropF 2 ((mcL N).drop (r*4)))=some (sl nz):=by rw[hd];rfl
 have hh2:headF (((mcL N).drop (r*4)).drop 2)=some (sl nz):=by rw[hd];rfl
 subst ha
 clear hd hx
 generalize mcL N=NN at*
 generalize N.length=nN at*
 by_cases hLn:nz=[]
 ·rw [hLn] at hh hh2
  refine⟨.nils,pt H (j+3) (.row 86 none [a0,a1,.nils,a3]),m,⟨Nat.le_refl _,fun _=>rfl,fun h=>absurd hLn h⟩,by grind[Qaa],fun i h1 h2=>by grind[Qaa],?_⟩
  refine To.of_vc (n:=100) (hs:=[lo_ 55 (.row 86 none [a0,a1,.nils,a3]) .nils,lo_ 57 (cx9 g r0 (.im nN NN)) (.im nN NN),pl 59,ld 61 (.im 0 noL),so (.row 86 none [a0,a1,.nils,a3]) [a0,a1,.nils,a3],toO (uP9 rv nv r (j+3))]) fun nx0 lg G hG=>?_
  exact m_ (p:=let z0:=[a0,a1,V.nils,a3];let z2:=V.im nN NN;An [_,headF (dropF (0+2) z0)=some V.nils,_,headF (dropF (0+2) [i6 g,r0,z2])=some z2,An [(0:Int)≤(↑r:Int),(↑r:Int)<(↑nN:Int)],headF (List.drop 2 (List.drop (r*4) NN))=some (V.im 0 noL),An [_,layE (0+2) z0 [V.nils]=some z0],G Ex.normal (uP9 rv nv r (j+3)) (pt H (j+3) (O.row 86 none z0)) (m+3) ([j+3]++([]++lg)),Sm (V.ptr 0 0),Sm (V.ptr 1 0),Sm (V.ptr 2 0),rv=rv,nv=nv,Sm (i6 ↑r),Sm (V.ptr (j+3) 0),_]) ⟨h10,gq,h1,gq,a_,gq,⟨h10,gq⟩,aq,aq,aq,aq,aq,aq,aq,aq,tq⟩
 ·obtain ⟨q, hq⟩ : ∃ q, nz.length = q + 1 := ⟨nz.length - 1, by grind[List.length_pos_iff]⟩
  obtain⟨X,hX⟩: ∃X,X=ints nz:=⟨_,rfl⟩
  have hXl:X.length=q+1:=by rw[hX,Qal,hq]
  have hsrc: ∀H:T O,srcV H 1 (.im (q+1) X)=some (q+1,X):=fun H=>by
   grind[Qi0]
  rw[show sl nz= .im (q+1) X by simp_all]at hh hh2
  rw[←hX]at hLf
  refine⟨.sl (m+3) 0 (q+1) none,pt (pt H (m+3) (.row 3 (some 1) X)) (j+3) (.row 86 none [a0,a1,.sl (m+3) 0 (q+1) none,a3]),m+1,⟨by omega,fun h=>absurd h hLn,fun _=>⟨by rw[hq],by omega,by grind[Qaa]⟩⟩,by grind[Qaa],fun i h1 h2=>by grind[Qaa],?_⟩
  refine To.of_vc (n:=100) (hs:=[lo_ 55 (.row 86 none [a0,a1,.nils,a3]) .nils,lo_ 57 (cx9 g r0 (.im nN NN)) (.im nN NN),pl 59,ld 61 (.im (q+1) X),(62,.an (q+1) X),so (.row 86 none [a0,a1,.nils,a3]) [a0,a1,.sl (m+3) 0 (q+1) none,a3],toO (uP9 rv nv r (j+3))]) fun nx0 lg G hG=>?_
  clear hX
  exact m_ (p:=let z0:=[a0,a1,V.nils,a3];let z1:=V.sl (m+3) 0 (q+1) none;let z2:=pt H (m+3) (O.row 3 (some 1) X);let z4:=V.im nN NN;An [_,headF (dropF (0+2) z0)=some V.nils,_,headF (dropF (0+2) [i6 g,r0,z4])=some z4,An [(0:Int)≤(↑r:Int),(↑r:Int)<(↑nN:Int)],_,An [srcV H 1 (V.im (q+1) X)=some (q+1,X),q+1≤9223372036854775807,(q+1)*8≤140737488355328],An [gt z2 (j+3)=(some (O.row 86 none z0)),layE (0+2) z0 [z1]=some [a0,a1,z1,a3]],G Ex.normal (uP9 rv nv r (j+3)) (pt z2 (j+3) (O.row 86 none [a0,a1,z1,a3])) (m+3+1) ([j+3]++([]++lg)),Sm (V.ptr 0 0),Sm (V.ptr 1 0),Sm (V.ptr 2 0),rv=rv,nv=nv,Sm (i6 ↑r),Sm (V.ptr (j+3) 0),_]) ⟨h10,gq,h1,gq,a_,hh2,a_,⟨gq,gq⟩,aq,aq,aq,aq,aq,aq,aq,aq,tq⟩
theorem nd_3(ha:a3= .nils): ∃(y:V)(H':T O)(m':Nat),CP x.ou m m' y H'∧gt H' (j+3)=some (.row 86 none [a0,a1,a2,y])∧(∀i,i≠j+3→i<m+3→gt H' i=gt H i)∧To 237 (at' 7 [1,1,1,1,0,1,0,0,1,0,0,1,1,1,0]) (uP9 rv nv r (j+3)) H (m+3) .normal (uP9 rv nv r (j+3)) H' (m'+3):=by
 have hr:=(List.getElem?_eq_some_iff.1 hx).1
 have hd:=Qb5 hx
 have hNf:=Qav N
 obtain⟨l1,l2,l3⟩:=hlx
 have hL6:x.ou.length≤1000000:=by omega
 have hLf:=Qad x.ou
 obtain⟨c,fr,nz,ou⟩:=x
 dsimp only at*
 have hh:headF (dropF 3 ((mcL N).drop (r*4)))=some (sl ou):=by rw[hd];rfl
 have hh2:headF (((mcL N).drop (r*4)).drop 3)=some (sl ou):=by rw[hd];rfl
 subst ha
 clear hd hx
 generalize mcL N=NN at*
 generalize N.length=nN at*
 by_cases hLn:ou=[]
 ·rw [hLn] at hh hh2
  refine⟨.nils,pt H (j+3) (.row 86 none [a0,a1,a2,.nils]),m,⟨Nat.le_refl _,fun _=>rfl,fun h=>absurd hLn h⟩,by grind[Qaa],fun i h1 h2=>by grind[Qaa],?_⟩
  refine To.of_vc (n:=100) (hs:=[lo_ 65 (.row 86 none [a0,a1,a2,.nils]) .nils,lo_ 67 (cx9 g r0 (.im nN NN)) (.im nN NN),pl 69,ld 71 (.im 0 noL),so (.row 86 none [a0,a1,a2,.nils]) [a0,a1,a2,.nils],toO (uP9 rv nv r (j+3))]) fun nx0 lg G hG=>?_
  exact m_ (p:=let z0:=[a0,a1,a2,V.nils];let z2:=V.im nN NN;An [_,headF (dropF (0+3) z0)=some V.nils,_,headF (dropF (0+2) [i6 g,r0,z2])=some z2,An [(0:Int)≤(↑r:Int),(↑r:Int)<(↑nN:Int)],headF (List.drop 3 (List.drop (r*4) NN))=some (V.im 0 noL),An [_,layE (0+3) z0 [V.nils]=some z0],G Ex.normal (uP9 rv nv r (j+3)) (pt H (j+3) (O.row 86 none z0)) (m+3) ([j+3]++([]++lg)),Sm (V.ptr 0 0),Sm (V.ptr 1 0),Sm (V.ptr 2 0),rv=rv,nv=nv,Sm (i6 ↑r),Sm (V.ptr (j+3) 0),_]) ⟨h10,gq,h1,gq,a_,gq,⟨h10,gq⟩,aq,aq,aq,aq,aq,aq,aq,aq,tq⟩
 ·obtain ⟨q, hq⟩ : ∃ q, ou.length = q + 1 := ⟨ou.length - 1, by grind[List.length_pos_iff]⟩
  obtain⟨X,hX⟩: ∃X,X=ints ou:=⟨_,rfl⟩
  have hXl:X.length=q+1:=by rw[hX,Qal,hq]
  have hsrc: ∀H:T O,srcV H 1 (.im (q+1) X)=some (q+1,X):=fun H=>by
   grind[Qi0]
  rw[show sl ou= .im (q+1) X by simp_all]at hh hh2
  rw[←hX]at hLf
  refine⟨.sl (m+3) 0 (q+1) none,pt (pt H (m+3) (.row 3 (some 1) X)) (j+3) (.row 86 none [a0,a1,a2,.sl (m+3) 0 (q+1) none]),m+1,⟨by omega,fun h=>absurd h hLn,fun _=>⟨by rw[hq],by omega,by grind[Qaa]⟩⟩,by grind[Qaa],fun i h1 h2=>by grind[Qaa],?_⟩
  refine To.of_vc (n:=100) (hs:=[lo_ 65 (.row 86 none [a0,a1,a2,.nils]) .nils,lo_ 67 (cx9 g r0 (.im nN NN)) (.im nN NN),pl 69,ld 71 (.im (q+1) X),(72,.an (q+1) X),so (.row 86 none [a0,a1,a2,.nils]) [a0,a1,a2,.sl (m+3) 0 (q+1) none],toO (uP9 rv nv r (j+3))]) fun nx0 lg G hG=>?_
  clear hX
  exact m_ (p:=let z0:=[a0,a1,a2,V.nils];let z1:=V.sl (m+3) 0 (q+1) none;let z2:=pt H (m+3) (O.row 3 (some 1) X);let z4:=V.im nN NN;An [_,headF (dropF (0+3) z0)=some V.nils,_,headF (dropF (0+2) [i6 g,r0,z4])=some z4,An [(0:Int)≤(↑r:Int),(↑r:Int)<(↑nN:Int)],_,An [srcV H 1 (V.im (q+1) X)=some (q+1,X),q+1≤9223372036854775807,(q+1)*8≤140737488355328],An [gt z2 (j+3)=(some (O.row 86 none z0)),layE (0+3) z0 [z1]=some [a0,a1,a2,z1]],G Ex.normal (uP9 rv nv r (j+3)) (pt z2 (j+3) (O.row 86 none [a0,a1,a2,z1])) (m+3+1) ([j+3]++([]++lg)),Sm (V.ptr 0 0),Sm (V.ptr 1 0),Sm (V.ptr 2 0),rv=rv,nv=nv,Sm (i6 ↑r),Sm (V.ptr (j+3) 0),_]) ⟨h10,gq,h1,gq,a_,hh2,a_,⟨gq,gq⟩,aq,aq,aq,aq,aq,aq,aq,aq,tq⟩
end
end Go.Proofs.YtifdkhfldbkkpaaGreat.Am
