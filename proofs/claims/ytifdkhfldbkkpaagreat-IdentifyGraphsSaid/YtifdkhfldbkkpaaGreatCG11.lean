/- Texts behind the claim, part 11: the abstract machine, and what the functions answer. No condition. -/
import Derived.Test.YtifdkhfldbkkpaaGreatCG10
set_option linter.unusedVariables false
set_option maxHeartbeats 4000000
set_option maxRecDepth 100000
set_option linter.unusedSimpArgs false
set_option linter.unusedSectionVars false
namespace Go.Proofs.YtifdkhfldbkkpaaGreat.Am
open Go.RowKit
abbrev ND(H:T O)(lo nx:Nat)(nv:V)(k:Nat)(F:Nat→V)(ls:Nat→List Int)(hd:Nat→Nat)(kd:Nat→Bool)(hR:Nat):Prop:=LB 4 86 H lo nx nv k F S9 ls hd kd hR
def NdIs(F:Nat→V)(ls:Nat→List Int)(i:Nat)(x:Mc):Prop:=F (4*i)=i6 x.c∧ls (4*i+1)=x.fr∧ls (4*i+2)=x.no∧ls (4*i+3)=x.ou
def up4{α:Type}(f:Nat→α)(n:Nat)(a b c d:α):Nat→α:=fun i=>if i<n then f i else if i=n then a else if i=n+1 then b else if i=n+2 then c else d
theorem Qce{α:Type}{f:Nat→α}{n i:Nat}{a b c d:α}(h:i<n):up4 f n a b c d i=f i:=by unfold up4;rw[if_pos h]
theorem up4_0{α:Type}{f:Nat→α}{n:Nat}{a b c d:α}:up4 f n a b c d n=a:=by unfold up4;rw[if_neg (by omega),if_pos rfl]
theorem up4_1{α:Type}{f:Nat→α}{n:Nat}{a b c d:α}:up4 f n a b c d (n+1)=b:=by unfold up4;rw[if_neg (by omega),if_neg (by omega),if_pos rfl]
theorem up4_2{α:Type}{f:Nat→α}{n:Nat}{a b c d:α}:up4 f n a b c d (n+2)=c:=by unfold up4;rw[if_neg (by omega),if_neg (by omega),if_neg (by omega),if_pos rfl]
theorem up4_3{α:Type}{f:Nat→α}{n:Nat}{a b c d:α}:up4 f n a b c d (n+3)=d:=by unfold up4;rw[if_neg (by omega),if_neg (by omega),if_neg (by omega),if_neg (by omega)]
theorem Qgd(n:Nat)(F:Nat→V)(a b c d:V):cellsF n F++[a,b,c,d]=cellsF (n+4) (up4 F n a b c d):=by
 rw[show n+4=n+1+1+1+1 by omega,Qb4,Qb4,Qb4,Qb4,up4_0,up4_1,up4_2,up4_3,Qfg (fun i hi=>Qce hi)]
 simp
section
variable {bc:List V} {g:Int} {N:List Mc} {r0:V} {H:T O} {m lo:Nat} {rv nv:V} {F:Nat→V} {ls:Nat→List Int} {hd:Nat→Nat} {hR:Nat}
 (hB:BB bc g r0 (.im N.length (mcL N)) H) (hl: ∀x∈N,x.fr.length≤1000000∧x.no.length≤1000000∧x.ou.length≤1000000) (hn:N.length≤1000000) (h3:3≤lo) (hlo:lo≤m+3)
include hB hl hn h3 hlo
theorem nd_round(r:Nat)(hr:r<N.length)(hL:ND H lo (m+3) nv r F ls hd (fun _=>true) hR)(hls: ∀i,i<r→NdIs F ls i (N.getD i mc0)): ∃(nv':V)(H':T O)(m':Nat)(F':Nat→V)(ls':Nat→List Int)(hd':Nat→Nat)(hR':Nat),BB bc g r0 (.im N.length (mcL N)) H'∧m+3≤m'+3∧(∀i,i<lo→gt H' i=gt H i)∧ND H' lo (m'+3) nv' (r+1) F' ls' hd' (fun _=>true) hR'∧(∀i,i<r+1→NdIs F' ls' i (N.getD i mc0))∧
  To 237 (at' 7 [1,1,1,1,0,1,0,0]) (uS9 rv nv r) H (m+3) .normal (uS9 rv nv' (r+1)) H' (m'+3):=by
 obtain⟨x,hx⟩: ∃x,N[r]? =some x:=⟨N[r]'(by omega),List.getElem?_eq_getElem _⟩
 have hxD:N.getD r mc0=x:=by rw[List.getD_eq_getElem?_getD,hx];rfl
 have hlx:=hl x (List.mem_of_getElem? hx)
 have hd4:=Qb5 hx
 have hNf:=Qav N
 have h1:=hB.h1
 -- the node's own row
 obtain⟨Ha,hHa⟩: ∃Ha,Ha=pt (pt H (m+3) (.row 86 none [i6 0,.nils,.nils,.nils])) (m+3) (.row 86 none [i6 x.c,.nils,.nils,.nils]):=⟨_,rfl⟩
 have ga: ∀i,i≠m+3→gt Ha i=gt H i:=fun i hi=>by rw[hHa,Qaa,if_neg hi,Qaa,if_neg hi]
 obtain⟨x1,H1,m1,c1,r1,g1,t1⟩:=nd_1 (H:=Ha) (m:=m+1) (rv:=rv) (nv:=nv) r m (by omega) x hx hlx (by rw[ga 1 (by omega)];exact h1) (i6 x.c) .nils .nils .nils (by rw[hHa,Qaa,if_pos rfl]) rfl
 have e1:=c1.le
 obtain⟨x2,H2,m2,c2,r2,g2,t2⟩:=nd_2 (H:=H1) (m:=m1) (rv:=rv) (nv:=nv) r m (by omega) x hx hlx (by rw[g1 1 (by omega) (by omega),ga 1 (by omega)];exact h1) (i6 x.c) x1 .nils .nils r1 rfl
 have e2:=c2.le
 obtain⟨x3,H3,m3,c3,r3,g3,t3⟩:=nd_3 (H:=H2) (m:=m2) (rv:=rv) (nv:=nv) r m (by omega) x hx hlx (by rw[g2 1 (by omega) (by omega),g1 1 (by omega) (by omega),ga 1 (by omega)];exact h1) (i6 x.c) x1 x2 .nils r2 rfl
 have e3:=c3.le
 have hold: ∀i,i<m+3→gt H3 i=gt H i:=fun i hi=>by rw[g3 i (by omega) (by omega),g2 i (by omega) (by omega),g1 i (by omega) (by omega),ga i (by omega)]
 have t0:To 237 (at' 7 [1,1,1,1,0,1,0,0,1,0,0,0]) (uS9 rv nv r) H (m+3) .normal (uP9 rv nv r (m+3)) Ha (m+4):=by
  have hh:headF ((mcL N).drop (r*4))=some (i6 x.c):=by rw[hd4];rfl
  rw[hHa]
  clear t1 t2 t3 g1 g2 g3 c1 c2 c3 hold hB hl hL hls hHa ga r1 r2 r3 hd4 hlx hxD hx
  generalize mcL N=NN at*
  generalize N.length=nN at*
  generalize x.c=c at*
  refine To.of_vc (n:=100) (hs:=[lo_ 38 (cx9 g r0 (.im nN NN)) (.im nN NN),pl 40,ld 42 (i6 c),so (.row 86 none [i6 0,.nils,.nils,.nils]) [i6 c,.nils,.nils,.nils],toO (uP9 rv nv r (m+3))]) fun nx0 lg G hG=>?_
  exact m_ (p:=let z1:=[i6 c,V.nils,V.nils,V.nils];let z2:=[i6 0,V.nils,V.nils,V.nils];let z3:=V.im nN NN;let z0:=O.row 86 none z2;An [_,headF (dropF (0+2) [i6 g,r0,z3])=some z3,An [(0:Int)≤(↑r:Int),(↑r:Int)<(↑nN:Int)],headF (List.drop 0 (List.drop (r*4) NN))=some (i6 c),An [gt (pt H (m+3) z0) (m+3)=some z0,layE 0 z2 z1=some z1],G Ex.normal (uP9 rv nv r (m+3)) (pt (pt H (m+3) z0) (m+3) (O.row 86 none z1)) (m+3+1) ([m+3]++lg),Sm (V.ptr 0 0),Sm (V.ptr 1 0),Sm (V.ptr 2 0),rv=rv,nv=nv,Sm (i6 ↑r),Sm (V.ptr (m+3) 0),_]) ⟨h1,gq,a_,aq,⟨gq,gq⟩,aq,aq,aq,aq,aq,aq,aq,aq,tq⟩
 have thead:To 237 (at' 7 [1,1,1,1,0,1,0,0,0]) (uS9 rv nv r) H (m+3) .normal (uS9 rv nv r) H (m+3):=by
  clear t0 t1 t2 t3 g1 g2 g3 c1 c2 c3 hold hB hl hL hls hHa ga r1 r2 r3 hd4 hlx hxD hx
  generalize mcL N=NN at*
  generalize N.length=nN at*
  refine To.of_vc (n:=100) (hs:=[lo_ 32 (cx9 g r0 (.im nN NN)) (.im nN NN),yes 34,toO (uS9 rv nv r)]) fun nx0 lg G hG=>?_
  exact m_ (p:=let z0:=V.im nN NN;An [_,headF (dropF (0+2) [i6 g,r0,z0])=some z0,decide ((↑r:Int)<(↑nN:Int))=true,G Ex.normal (uS9 rv nv r) H (m+3) lg,Sm (V.ptr 0 0),Sm (V.ptr 1 0),Sm (V.ptr 2 0),rv=rv,nv=nv,Sm (i6 ↑r),_]) ⟨h1,gq,aq,aq,aq,aq,aq,aq,aq,aq,tq⟩
 have tstep: ∀nv' H' m',To 237 (at' 7 [1,1,1,1,0,1,0,0,1,1]) (uP9 rv nv' r (m+3)) H' m' .normal (uS9 rv nv' (r+1)) H' m':=fun nv' H' m'=>by
  clear t0 t1 t2 t3 g1 g2 g3 c1 c2 c3 hold hB hl hL hls hHa ga r1 r2 r3 hd4 hlx hxD hx thead
  refine To.of_vc (n:=100) (hs:=[nu 36 (r+1:Nat),toO (uS9 rv nv' (r+1))]) fun nx0 lg G hG=>?_
  exact m_ (p:=An [wr .i64 ((↑r:Int)+(1:Int))=(↑(r+1):Int),G Ex.normal (uS9 rv nv' (r+1)) H' m' lg,Sm (V.ptr 0 0),Sm (V.ptr 1 0),Sm (V.ptr 2 0),rv=rv,nv'=nv',Sm (i6 ↑(r+1)),_]) ⟨aq,aq,aq,aq,aq,aq,aq,aq,tq⟩
 have at1:=c1.atom
 have at2:=c2.atom
 have at3:=c3.atom
 have hat:atoms [i6 x.c,x1,x2,x3]=true:=by
  show(true&&(Qnn x1&&(Qnn x2&&(Qnn x3&&true))))=true
  rw[at1,at2,at3];rfl
 -- what stands at the end
 have fin: ∀Hf:T O,(∀i,i≠m3+3→i≠m3+4→(r≠0→i≠hR)→gt Hf i=gt H3 i)→gt Hf (m3+4)=some (.row 86 (some 4) (cellsF (4*r) F++[i6 x.c,x1,x2,x3]))→
   BB bc g r0 (.im N.length (mcL N)) Hf∧(∀i,i<lo→gt Hf i=gt H i)∧ND Hf lo (m3+5) (.sl (m3+4) 0 (r+1) none) (r+1) (up4 F (4*r) (i6 x.c) x1 x2 x3) (up4 ls (4*r) [] x.fr x.no x.ou) (up4 hd (4*r) 0 (m+4) (m1+3) (m2+3)) (fun _=>true) (m3+4)∧(∀i,i<r+1→NdIs (up4 F (4*r) (i6 x.c) x1 x2 x3) (up4 ls (4*r) [] x.fr x.no x.ou) i (N.getD i mc0)):=by
  intro Hf f1 f2
  have hRb:r≠0→lo≤hR∧hR<m+3:=fun h=>⟨(hL.own h).2.1,(hL.own h).2.2.1⟩
  have hlow: ∀i,i<lo→gt Hf i=gt H i:=fun i hi=>by rw[f1 i (by omega) (by omega) (fun h=>by have:=hRb h;omega)];exact hold i (by omega)
  refine⟨hB.frame fun i hi=>hlow i (by omega),hlow,⟨fun h=>by omega,fun _=>⟨rfl,by omega,by omega,?_⟩⟩,fun i hi=>?_⟩
  ·rw [show 4 * (r + 1) = 4 * r + 4 by omega]
   refine NR.ext (n:=4*r) (hR:=hR) (nx:=m+3) (kd:=fun _=>true) (fun h=>(hL.own (by omega)).2.2.2) (by omega) (by omega) (by rw[f2,Qgd]) (fun i hi=>⟨Qce hi,Qce hi,Qce hi,rfl,fun hS hne=>?_⟩) (fun i a1 a2 hS a3=>?_) (fun i a1 a2 hS a3=>?_) (fun i j a1 a2 a3 a4 s1 s2 n1 n2 e=>?_)
   ·have hr0 : r ≠ 0 := by omega
    obtain⟨o1,o2,o3,o4,o5⟩:=(hL.own hr0).2.2.2.own i hi hS hne
    exact⟨by rw[f1 _ (by omega) (by omega) (fun _=>o4)];exact hold _ o3,by omega⟩
   ·have hi4 : i % 4 ≠ 0 := of_decide_eq_true hS
    rcases(show i=4*r+1∨i=4*r+2∨i=4*r+3 by omega)with rfl|rfl|rfl
    ·rw[up4_1]at a3⊢;exact c1.nil a3
    ·rw[up4_2]at a3⊢;exact c2.nil a3
    ·rw[up4_3]at a3⊢;exact c3.nil a3
   ·have hi4 : i % 4 ≠ 0 := of_decide_eq_true hS
    have hb: ∀i,m+3≤i→r≠0→i≠hR:=fun i hi h=>by have:=hRb h;omega
    rcases(show i=4*r+1∨i=4*r+2∨i=4*r+3 by omega)with rfl|rfl|rfl
    ·rw [up4_1] at a3
     rw[up4_1,up4_1,up4_1]
     obtain⟨q1,q2,q3⟩:=c1.own a3
     exact⟨q1,by omega,by omega,by omega,by rw[f1 _ (by omega) (by omega) (hb _ (by omega)),g3 _ (by omega) (by omega),g2 _ (by omega) (by omega)];exact q3⟩
    ·rw [up4_2] at a3
     rw[up4_2,up4_2,up4_2]
     obtain⟨q1,q2,q3⟩:=c2.own a3
     exact⟨q1,by omega,by omega,by omega,by rw[f1 _ (by omega) (by omega) (hb _ (by omega)),g3 _ (by omega) (by omega)];exact q3⟩
    ·rw [up4_3] at a3
     rw[up4_3,up4_3,up4_3]
     obtain⟨q1,q2,q3⟩:=c3.own a3
     exact⟨q1,by omega,by omega,by omega,by rw[f1 _ (by omega) (by omega) (hb _ (by omega))];exact q3⟩
   ·have hi4 : i % 4 ≠ 0 := of_decide_eq_true s1
    have hj4:j%4≠0:=of_decide_eq_true s2
    rcases(show i=4*r+1∨i=4*r+2∨i=4*r+3 by omega)with rfl|rfl|rfl<;>rcases(show j=4*r+1∨j=4*r+2∨j=4*r+3 by omega)with rfl|rfl|rfl<;>simp only[up4_1,up4_2,up4_3]at n1 n2 e
    all_goals first|rfl|skip
    ·have:=(c1.own n1).2.1;omega
    ·have:=(c1.own n1).2.1;omega
    ·have:=(c1.own n2).2.1;omega
    ·have:=(c2.own n1).2.1;omega
    ·have:=(c1.own n2).2.1;omega
    ·have:=(c2.own n2).2.1;omega
  ·by_cases hi2 : i < r
   ·obtain ⟨q1, q2, q3, q4⟩ := hls i hi2
    exact⟨by rw[Qce (by omega)];exact q1,by rw[Qce (by omega)];exact q2,by rw[Qce (by omega)];exact q3,by rw[Qce (by omega)];exact q4⟩
   ·obtain rfl : i = r := by omega
    rw[hxD]
    exact⟨up4_0,up4_1,up4_2,up4_3⟩
 have whole: ∀Hf nv',To 237 (at' 7 [1,1,1,1,0,1,0,0,1,0,0,1,1,1,1]) (uP9 rv nv r (m+3)) H3 (m3+3) .normal (uP9 rv nv' r (m+3)) Hf (m3+5)→To 237 (at' 7 [1,1,1,1,0,1,0,0]) (uS9 rv nv r) H (m+3) .normal (uS9 rv nv' (r+1)) Hf (m3+5):=fun Hf nv' h=>
  To.seq (b:=(at' 7 [1,1,1,1,0,1,0,0,1])) (by kernel_rfl) thead (To.seq (a:=(at' 7 [1,1,1,1,0,1,0,0,1,0])) (b:=(at' 7 [1,1,1,1,0,1,0,0,1,1])) (by kernel_rfl) (To.blockN (id:=3) (b:=(at' 7 [1,1,1,1,0,1,0,0,1,0,0])) (by kernel_rfl) (fun h=>by cases h) (To.seq (b:=(at' 7 [1,1,1,1,0,1,0,0,1,0,0,1])) (by kernel_rfl) t0 (To.seq (b:=(at' 7 [1,1,1,1,0,1,0,0,1,0,0,1,1])) (by kernel_rfl) t1 (To.seq (b:=(at' 7 [1,1,1,1,0,1,0,0,1,0,0,1,1,1])) (by kernel_rfl) t2 (To.seq (b:=(at' 7 [1,1,1,1,0,1,0,0,1,0,0,1,1,1,1])) (by kernel_rfl) t3 h))))) (tstep nv' Hf _))
 by_cases hr0:r=0
 ·subst hr0
  obtain rfl:=hL.nil rfl
  have hf:=fin (pt (pt H3 (m3+3) (.row 86 none [i6 x.c,x1,x2,x3])) (m3+4) (.row 86 (some 4) [i6 x.c,x1,x2,x3])) (fun i i1 i2 _=>by rw[Qaa,if_neg i2,Qaa,if_neg i1]) (by rw[Qaa,if_pos rfl];rfl)
  refine⟨_,_,m3+2,_,_,_,_,hf.1,by omega,hf.2.1,hf.2.2.1,hf.2.2.2,whole _ _ ?_⟩
  clear hf fin whole thead tstep t0 t1 t2 t3 g1 g2 g3 c1 c2 c3 hold hB hl hL hls hHa ga r1 r2 hd4 hlx hxD hx at1 at2 at3
  generalize x.c=c at*
  have hsrc:srcV (pt H3 (m3+3) (.row 86 none [i6 c,x1,x2,x3])) 4 (.sl (m3+3) 0 1 (some 0))=some (1,[i6 c,x1,x2,x3]):=by unfold srcV;dsimp only;rw[pt_eq,T.get_put,if_pos rfl];rfl
  refine To.of_vc (n:=100) (hs:=[lo_ 75 (.row 86 none [i6 c,x1,x2,x3]) (.agg [i6 c,x1,x2,x3]),(77,.an 1 [i6 c,x1,x2,x3]),toO (uP9 rv (.sl (m3+4) 0 1 none) 0 (m+3))]) fun nx0 lg G hG=>?_
  exact m_ (p:=let z0:=[i6 c,x1,x2,x3];let z2:=V.sl (m3+4) 0 1 none;An [_,takeE 4 z0=some z0,An [_,1≤9223372036854775807,1*80≤140737488355328],G Ex.normal (uP9 rv z2 0 (m+3)) (pt (pt H3 (m3+3) (O.row 86 none z0)) (m3+3+1) (O.row 86 (some 4) z0)) (m3+3+1+1) ([]++lg),Sm (V.ptr 0 0),Sm (V.ptr 1 0),Sm (V.ptr 2 0),rv=rv,V.sl (m3+3+1) 0 1 none=z2,Sm (i6 ↑(0:Nat)),Sm (V.ptr (m+3) 0),_]) ⟨r3,gq,⟨hsrc,a_⟩,aq,aq,aq,aq,aq,aq,aq,aq,tq⟩
 ·obtain ⟨e, k1, k2, k3⟩ := hL.own hr0
  subst e
  obtain⟨k,rfl⟩: ∃k,hR=k+3:=⟨hR-3,by omega⟩
  have k4:gt H3 (k+3)=some (.row 86 (some 4) (cellsF (4*r) F)):=by rw[hold _ k2];exact k3.row
  have hf:=fin (pt (pt (pt H3 (m3+3) (.row 86 none [i6 x.c,x1,x2,x3])) (k+3) .dead) (m3+4) (.row 86 (some 4) (cellsF (4*r) F++[i6 x.c,x1,x2,x3]))) (fun i i1 i2 i3=>by rw[Qaa,if_neg i2,Qaa,if_neg (i3 hr0),Qaa,if_neg i1]) (by rw[Qaa,if_pos rfl])
  refine⟨_,_,m3+2,_,_,_,_,hf.1,by omega,hf.2.1,hf.2.2.1,hf.2.2.2,whole _ _ ?_⟩
  clear hf fin whole thead tstep t0 t1 t2 t3 g1 g2 g3 c1 c2 c3 hold hB hl hL hls hHa ga r1 r2 hd4 hlx hxD hx at1 at2 at3 k3
  generalize x.c=c at*
  have hsrc:srcV (pt H3 (m3+3) (.row 86 none [i6 c,x1,x2,x3])) 4 (.sl (m3+3) 0 1 (some 0))=some (1,[i6 c,x1,x2,x3]):=by unfold srcV;dsimp only;rw[pt_eq,T.get_put,if_pos rfl];rfl
  have hcl:(cellsF (4*r) F).length=r*4:=by rw[Qa6];omega
  generalize cellsF (4*r) F=CF at*
  refine To.of_vc (n:=100) (hs:=[lo_ 75 (.row 86 none [i6 c,x1,x2,x3]) (.agg [i6 c,x1,x2,x3]),(77,.aop (.row 86 (some 4) CF) 1 [i6 c,x1,x2,x3]),toO (uP9 rv (.sl (m3+4) 0 (r+1) none) r (m+3))]) fun nx0 lg G hG=>?_
  exact m_ (p:=let z0:=[i6 c,x1,x2,x3];let z2:=V.sl (m3+4) 0 (r+1) none;let z1:=pt H3 (m3+3) (O.row 86 none z0);An [_,takeE 4 z0=some z0,_,An [gt z1 (k+3)=some (O.row 86 (some 4) CF),_,1≤1,r+1≤9223372036854775807,(r+1)*80≤140737488355328,_],G Ex.normal (uP9 rv z2 r (m+3)) (pt (pt z1 (k+3) O.dead) (m3+3+1) (O.row 86 (some 4) (CF++z0))) (m3+3+1+1) ([k+3]++lg),Sm (V.ptr 0 0),Sm (V.ptr 1 0),Sm (V.ptr 2 0),rv=rv,V.sl (m3+3+1) 0 (r+1) none=z2,Sm (i6 ↑r),Sm (V.ptr (m+3) 0),_]) ⟨r3,gq,hsrc,⟨gq,hcl,aq,aq,aq,hat⟩,aq,aq,aq,aq,aq,aq,aq,aq,tq⟩
end
theorem nd_loop{bc:List V}{g:Int}{N:List Mc}{r0:V}{H:T O}{m:Nat}{rv:V}(hB:BB bc g r0 (.im N.length (mcL N)) H)(hl: ∀x∈N,x.fr.length≤1000000∧x.no.length≤1000000∧x.ou.length≤1000000)(hn:N.length≤1000000): ∃(nv:V)(H':T O)(m':Nat)(F:Nat→V)(ls:Nat→List Int)(hd:Nat→Nat)(hR:Nat),BB bc g r0 (.im N.length (mcL N)) H'∧m≤m'∧(∀i,i<m+3→gt H' i=gt H i)∧ND H' (m+3) (m'+3) nv N.length F ls hd (fun _=>true) hR∧(∀i,i<N.length→NdIs F ls i (N.getD i mc0))∧
  To 237 (at' 7 [1,1,1,1,0]) (uX9 rv .nils) H (m+3) .normal (uX9 rv nv) H' (m'+3):=by
 have key: ∃e sl H' nx',(∃nv m' F ls hd hR,e= .exit 2∧sl=uX9 rv nv∧nx'=m'+3∧BB bc g r0 (.im N.length (mcL N)) H'∧m≤m'∧(∀i,i<m+3→gt H' i=gt H i)∧ND H' (m+3) (m'+3) nv N.length F ls hd (fun _=>true) hR∧(∀i,i<N.length→NdIs F ls i (N.getD i mc0)))∧To 237 (at' 7 [1,1,1,1,0,1,0]) (uS9 rv .nils 0) H (m+3) e sl H' nx':=by
  refine To.loop (b:=(at' 7 [1,1,1,1,0,1,0,0])) (by kernel_rfl) (fun(q:Nat×V) H1 nx=>∃m1 F ls hd hR,nx=m1+3∧q.1≤N.length∧BB bc g r0 (.im N.length (mcL N)) H1∧m≤m1∧(∀i,i<m+3→gt H1 i=gt H i)∧ND H1 (m+3) (m1+3) q.2 q.1 F ls hd (fun _=>true) hR∧(∀i,i<q.1→NdIs F ls i (N.getD i mc0))) (fun q=>uS9 rv q.2 q.1) (fun q=>N.length-q.1) (fun e sl H' nx'=>∃nv m' F ls hd hR,e= .exit 2∧sl=uX9 rv nv∧nx'=m'+3∧BB bc g r0 (.im N.length (mcL N)) H'∧m≤m'∧(∀i,i<m+3→gt H' i=gt H i)∧ND H' (m+3) (m'+3) nv N.length F ls hd (fun _=>true) hR∧(∀i,i<N.length→NdIs F ls i (N.getD i mc0))) (fun q H1 nx hI=>?_) (0,.nils) H (m+3) ⟨m,fun _=>.nils,fun _=>[],fun _=>0,0,rfl,Nat.zero_le _,hB,Nat.le_refl _,fun _ _=>rfl,LB.empty,fun i h=>absurd h (Nat.not_lt_zero _)⟩
  obtain⟨r,nv⟩:=q
  obtain⟨m1,F,ls,hd,hR,rfl,hr,hB1,hm,hold,hL,hls⟩:=hI
  dsimp only at hr hL hls
  by_cases hlt:r<N.length
  ·obtain ⟨nv', H', m', F', ls', hd', hR', a1, a2, a3, a4, a5, a6⟩ := nd_round (rv := rv) hB1 hl hn (show 3 ≤ m + 3 by omega) (by omega) r hlt hL hls
   exact .inl ⟨(r+1,nv'),H',m'+3,⟨m',F',ls',hd',hR',rfl,hlt,a1,by omega,fun i hi=>(a3 i hi).trans (hold i hi),a4,a5⟩,by dsimp only;omega,a6⟩
  ·obtain rfl : r = N.length := by omega
   refine .inr ⟨.exit 2,uX9 rv nv,H1,m1+3,(fun h=>by cases h),⟨nv,m1,F,ls,hd,hR,rfl,rfl,rfl,hB1,hm,hold,hL,hls⟩,?_⟩
   have h1:=hB1.h1
   have hNf:=Qav N
   clear hB hL hls hold hB1 hl
   generalize mcL N=NN at*
   generalize N.length=nN at*
   refine To.of_vc (n:=100) (hs:=[lo_ 32 (cx9 g r0 (.im nN NN)) (.im nN NN),no 34,toO (uX9 rv nv)]) fun nx0 lg G hG=>?_
   exact m_ (p:=let z0:=V.im nN NN;An [_,headF (dropF (0+2) [i6 g,r0,z0])=some z0,decide ((↑nN:Int)<(↑nN:Int))=false,G (Ex.exit 2) (uX9 rv nv) H1 (m1+3) lg,Sm (V.ptr 0 0),Sm (V.ptr 1 0),Sm (V.ptr 2 0),rv=rv,nv=nv,_]) ⟨h1,(by rfl),aq,aq,aq,aq,aq,aq,aq,tq⟩
 obtain⟨e,sl,H',nx',⟨nv,m',F,ls,hd,hR,rfl,rfl,rfl,a1,a2,a3,a4,a5⟩,h3⟩:=key
 refine⟨nv,H',m',F,ls,hd,hR,a1,a2,a3,a4,a5,To.seq (a:=(at' 7 [1,1,1,1,0,0])) (b:=(at' 7 [1,1,1,1,0,1])) (sl1:=uS9 rv .nils 0) (H1:=H) (nx1:=m+3) (by kernel_rfl) ?_ (To.block (by kernel_rfl) h3)⟩
 clear hB a1 a2 a3 a4 a5 h3 hl
 refine To.of_vc (n:=100) (hs:=[toO (uS9 rv .nils 0)]) fun nx0 lg G hG=>?_
 exact m_ (p:=An [G Ex.normal (uS9 rv V.nils 0) H (m+3) lg,Sm (V.ptr 0 0),Sm (V.ptr 1 0),Sm (V.ptr 2 0),rv=rv,Sm V.nils,i6 0=i6 ↑(0:Nat),_]) ⟨aq,aq,aq,aq,aq,aq,aq,tq⟩
def MdV(K:Nat)(H:T O)(nx:Nat)(rv nv:V):Prop:=∃R N,LenB K R N∧∀(Fz:Nat→Prop)(ρ:Nat→Option Nat),(∀i,3≤i→i<nx→Fz i)→View H.get Fz ρ (.im R.length (rtL R)) rv∧View H.get Fz ρ (.im N.length (mcL N)) nv
theorem ViewP.left{H:Nat→Option O}{Fz:Nat→Prop}: ∀{a b ys:List V},ViewP H Fz (a++b) ys→ViewP H Fz a ys
 |[],_,_,_=>trivial
 | _:: _,_,_,⟨y,ys',e,h1,h2⟩=>⟨y,ys',e,h1,ViewP.left h2⟩
def rtK(k:Nat)(ls:Nat→List Int):List (List Int):=(List.range k).map ls
theorem Qln{k:Nat}{ls:Nat→List Int}:(rtK k ls).length=k:=by simp[rtK]
theorem Qr3(k:Nat)(ls:Nat→List Int):rtL (rtK k ls)=cellsF k fun i=>sl (ls i):=by unfold rtL rtK cellsF;rw[List.map_map];rfl
theorem rb_view{H:T O}{lo nx:Nat}{rv:V}{k:Nat}{F:Nat→V}{ls:Nat→List Int}{hd:Nat→Nat}{kd:Nat→Bool}{hR:Nat}(h:RB H lo nx rv k F ls hd kd hR){Fz:Nat→Prop}{ρ:Nat→Option Nat}(hF: ∀g,lo≤g→g<nx→Fz g):View H.get Fz ρ (.im (rtK k ls).length (rtL (rtK k ls))) rv:=by
 rw[Qln,Qr3]
 have:=h.view (G:=fun i=>sl (ls i)) (ρ:=ρ) hF (fun i _ hS=>by cases hS) (fun i _ _=>rfl)
 rwa [show 1*k=k by omega]at this
theorem Qm0(k:Nat)(F:Nat→V)(ls:Nat→List Int):mcL (mlN k F ls)=cellsF (4*k) (ndG (mlN k F ls)):=by rw[Qgr,Qbw]
theorem Qra{k:Nat}{F:Nat→V}{ls:Nat→List Int}(hc: ∀v,v<k→∃c:Int,F (4*v)=i6 c):(∀i,i<4*k→S9 i=false→ndG (mlN k F ls) i=F i∧Hf (F i))∧(∀i,i<4*k→S9 i=true→ndG (mlN k F ls) i=sl (ls i)):=by
 constructor
 ·intro i hi hS
  have h0:i%4=0:=by unfold S9 at hS;have:=of_decide_eq_false hS;omega
  have hv:i/4<k:=by omega
  obtain⟨c,e⟩:=hc _ hv
  have e2:cN F (i/4)=c:=by unfold cN;rw[e]
  rw[show 4*(i/4)=i by omega]at e
  refine⟨?_,by rw[e];trivial⟩
  unfold ndG
  rw[Qeq hv,h0,e,←e2];rfl
 ·intro i hi hS
  have h0:i%4≠0:=of_decide_eq_true hS
  have hv:i/4<k:=by omega
  unfold ndG
  rw[Qeq hv]
  have e4:i=4*(i/4)+i%4:=by omega
  rcases(show i%4=1∨i%4=2∨i%4=3 by omega)with h|h|h
  ·rw [h]; rw [h] at e4; conv => rhs; rw [e4]
   rfl
  ·rw [h]; rw [h] at e4; conv => rhs; rw [e4]
   rfl
  ·rw [h]; rw [h] at e4; conv => rhs; rw [e4]
   rfl
theorem Qiq{H:T O}{lo nx:Nat}{nv:V}{k:Nat}{F:Nat→V}{ls:Nat→List Int}{hd:Nat→Nat}{kd:Nat→Bool}{hR:Nat}(h:ND H lo nx nv k F ls hd kd hR)(hc: ∀v,v<k→∃c:Int,F (4*v)=i6 c){Fz:Nat→Prop}{ρ:Nat→Option Nat}(hF: ∀g,lo≤g→g<nx→Fz g):View H.get Fz ρ (.im (mlN k F ls).length (mcL (mlN k F ls))) nv:=by
 rw[Qbw,Qm0]
 obtain⟨a,b⟩:=Qra (ls:=ls) hc
 exact h.view hF a b
theorem nd_less{H:T O}{lo nx hR:Nat}{k:Nat}{F:Nat→V}{ls:Nat→List Int}{hd:Nat→Nat}{kd:Nat→Bool}(b:lo≤hR)(c:hR<nx)(h:NR H lo nx hR 86 (some 4) (4*(k+1)) F S9 ls hd kd)(hc: ∀v,v<k+1→∃c:Int,F (4*v)=i6 c){Fz:Nat→Prop}{ρ:Nat→Option Nat}(hF: ∀g,lo≤g→g<nx→Fz g):View H.get Fz ρ (.im (mlN k F ls).length (mcL (mlN k F ls))) (.sl hR 0 k none):=by
 obtain⟨q1,q2⟩:=Qra (ls:=ls) hc
 have hv:=NR.viewP h hF q1 q2
 rw[←Qm0]at hv
 have e:mcL (mlN (k+1) F ls)=mcL (mlN k F ls)++mcC (mcN F ls k):=by
  have ea: ∀a b:List Mc,mcL (a++b)=mcL a++mcL b:=by
   intro a b
   induction a with
   |nil=>rfl
   |cons x a ih=>show mcC x++mcL (a++b)=mcC x++mcL a++mcL b;rw[ih,List.append_assoc]
  unfold mlN
  rw[List.range_succ,List.map_append,ea]
  show _=_
  congr 1
 rw[e]at hv
 rw[Qbw]
 exact .inr (.inr ⟨hR,0,none,_,_,_,rfl,hF _ b c,by rw[←Qay];exact h.row,ViewP.left hv⟩)
abbrev xS9(rv nv:V)(h p:Nat):List (Nat×V):=[(2,.ptr 0 0),(3,.ptr 1 0),(4,.ptr 2 0),(5,rv),(8,nv),(11,.ptr h (p*4))]
abbrev xE9:List (Nat×V):=[(2,.ptr 0 0),(3,.ptr 1 0),(4,.ptr 2 0)]
abbrev rsh(v:V):Prop:=v= .nils∨∃h q,v= .sl h 0 q none
abbrev nsh(v:V):Prop:=v= .im 0 noL∨∃h q,v= .sl h 0 q none
theorem Qgo{K k n:Nat}{lr:Nat→List Int}{F:Nat→V}{ls:Nat→List Int}(hk:k≤K)(hn:n≤K)(h1: ∀i,i<k→(lr i).length≤K)(h2: ∀i,i<n→(ls (4*i+1)).length≤K∧(ls (4*i+2)).length≤K∧(ls (4*i+3)).length≤K):LenB K (rtK k lr) (mlN n F ls):=by
 refine⟨by grind[Qln],by grind[Qbw],fun L hL=>?_,fun x hx=>?_⟩
 ·obtain ⟨i, hi, rfl⟩ := List.mem_map.1 hL
  simp_all
 ·obtain ⟨i, hi, rfl⟩ := List.mem_map.1 hx
  exact h2 i (List.mem_range.1 hi)
structure SwP(K:Nat)(bc:List V)(rv nv:V)(h p:Nat)(H:T O)(nx:Nat)(g':Int)(rv' nv':V)(H':T O)(nx':Nat):Prop where
 bb:BB bc g' rv' nv' H'
 md:MdV (K+1) H' nx' rv' nv'
 rs:rsh rv'
 ns:nsh nv'
 le:3≤nx'
 to:To 237 (at' 7 [1,1,1,1,1,1,1,1,1,0]) (xS9 rv nv h p) H nx .normal xE9 H' nx'
section
variable {bw ba bk:Nat} {bn:Int} {g:Int} {K lo m:Nat} {rv:V} {H:T O} {k:Nat} {Fr lr_:Nat→V} {lr:Nat→List Int} {hdr:Nat→Nat} {hr:Nat} {n:Nat} {F:Nat→V} {ls:Nat→List Int} {hd:Nat→Nat} {h:Nat} {p:Nat}
 (hbw:bw<256) (hba:ba<256) (hbk:bk<256)
 (hB:BB [w8 (bw:Nat),w8 (ba:Nat),w8 (bk:Nat),i6 bn] g rv (.sl (h+3) 0 n none) H) (h3:3≤lo) (hlo:lo≤m+3) (hRB:RB H 3 lo rv k Fr lr hdr (fun _=>true) hr) (hND:NR H lo (m+3) (h+3) 86 (some 4) (4*n) F S9 ls hd (fun _=>true)) (hh1:lo≤h+3) (hh2:h+3<m+3)
 (hc: ∀v,v<n→∃c:Int,F (4*v)=i6 c) (hp:p<n) (hK:K≤900000) (hkK:k≤K) (hnK:n≤K) (hlr: ∀i,i<k→(lr i).length≤K) (hls: ∀i,i<n→(ls (4*i+1)).length≤K∧(ls (4*i+2)).length≤K∧(ls (4*i+3)).length≤K)
include hbw hba hbk hB h3 hlo hRB hND hh1 hh2 hc hp hK hkK hnK hlr hls
theorem Qfe:rsh rv:=by
 by_cases hk:k=0
 ·exact .inl (hRB.nil hk)
 ·exact .inr ⟨_,_,(hRB.own hk).1⟩
theorem Qkj{H':T O}{nx':Nat}{F':Nat→V}{ls':Nat→List Int}{hd':Nat→Nat}{kd':Nat→Bool}(hle:m+3≤nx')(hold: ∀i,3≤i→i<lo→gt H' i=gt H i)(hN:NR H' lo nx' (h+3) 86 (some 4) (4*n) F' S9 ls' hd' kd')(hc': ∀v,v<n→∃c:Int,F' (4*v)=i6 c)(hls': ∀i,i<n→(ls' (4*i+1)).length≤K+1∧(ls' (4*i+2)).length≤K+1∧(ls' (4*i+3)).length≤K+1):MdV (K+1) H' nx' rv (.sl (h+3) 0 n none):=by
 refine⟨rtK k lr,mlN n F' ls',Qgo (by omega) (by omega) (fun i hi=>Nat.le_succ_of_le (hlr i hi)) hls',fun Fz ρ hF=>⟨?_,?_⟩⟩
 ·exact rb_view (hRB.frame (Nat.le_refl _) hold) fun i a b=>hF i a (by omega)
 ·refine Qiq (lo:=lo) (nx:=nx') (hd:=hd') (kd:=kd') (hR:=h+3) ⟨fun e=>by omega,fun _=>⟨rfl,hh1,by omega,hN⟩⟩ hc' fun i a b=>hF i (by omega) b
theorem Qkl{j:Nat}{l:List Int}(hl:l.length≤K+1): ∀i,i<n→(upF ls j l (4*i+1)).length≤K+1∧(upF ls j l (4*i+2)).length≤K+1∧(upF ls j l (4*i+3)).length≤K+1:=fun i hi=>by
 grind[Qai,Qah]
theorem Qi4{j:Nat}(hj:j%4≠0)(x:V): ∀v,v<n→∃c:Int,upF F j x (4*v)=i6 c:=fun v hv=>by grind[Qah]
theorem sw_0(hb:bw%11=0): ∃g' rv' nv' H' nx',SwP K [w8 (bw:Nat),w8 (ba:Nat),w8 (bk:Nat),i6 bn] rv (.sl (h+3) 0 n none) (h+3) p H (m+3) g' rv' nv' H' nx':=by
 have hw:((bw:Nat):Int).tmod 11=(0:Nat):=by rw[Int.tmod_eq_emod_of_nonneg (by omega)];omega
 have hold: ∀i,i≠1→gt (pt H 1 (cx9 bn rv (.sl (h+3) 0 n none))) i=gt H i:=fun i hi=>by grind[Qaa]
 refine⟨bn,rv,.sl (h+3) 0 n none,pt H 1 (cx9 bn rv (.sl (h+3) 0 n none)),m+3,⟨by rw[hold 0 (by omega)];exact hB.h0,by grind[Qaa],by rw[hold 2 (by omega)];exact hB.h2⟩,?_,Qfe hbw hba hbk hB h3 hlo hRB hND hh1 hh2 hc hp hK hkK hnK hlr hls,.inr ⟨_,_,rfl⟩,by omega,?_⟩
 ·exact Qkj hbw hba hbk hB h3 hlo hRB hND hh1 hh2 hc hp hK hkK hnK hlr hls (Nat.le_refl _) (fun i a b=>hold i (by omega)) (hND.frame (Nat.le_refl _) (hold _ (by omega)) fun j a b c=>hold _ (by have:=(hND.own j a b c).2.1;omega)) hc fun i hi=>by grind
 ·obtain ⟨h0, h1, h2⟩ := hB
  clear hND hRB hc hls hlr hold
  refine To.of_vc (n:=100) (hs:=[lo_ 95 (.row 28 none [w8 (bw:Nat),w8 (ba:Nat),w8 (bk:Nat),i6 bn]) (w8 (bw:Nat)),nu 96 (0:Nat),lo_ 106 (.row 28 none [w8 (bw:Nat),w8 (ba:Nat),w8 (bk:Nat),i6 bn]) (i6 bn),so (cx9 g rv (.sl (h+3) 0 n none)) [i6 bn,rv,.sl (h+3) 0 n none],toO xE9]) fun nx0 lg G hG=>?_
  exact m_ (p:=let z0:=[w8 ↑bw,w8 ↑ba,w8 ↑bk,i6 bn];let z1:=V.sl (h+3) 0 n none;An [_,headF (dropF (0+0) z0)=some (w8 ↑bw),_,_,headF (dropF (0+3) z0)=some (i6 bn),An [_,layE (0+0) [i6 g,rv,z1] [i6 bn]=some [i6 bn,rv,z1]],G Ex.normal xE9 (pt H 1 (O.row 34 none [i6 bn,rv,z1])) (m+3) ([1]++lg),Sm (V.ptr 0 0),Sm (V.ptr 1 0),Sm (V.ptr 2 0),_]) ⟨h0,gq,hw,h0,gq,⟨h1,gq⟩,aq,aq,aq,aq,tq⟩
theorem sw_3(hb:bw%11=3): ∃g' rv' nv' H' nx',SwP K [w8 (bw:Nat),w8 (ba:Nat),w8 (bk:Nat),i6 bn] rv (.sl (h+3) 0 n none) (h+3) p H (m+3) g' rv' nv' H' nx':=by
 have hw:((bw:Nat):Int).tmod 11=(3:Nat):=by rw[Int.tmod_eq_emod_of_nonneg (by omega)];omega
 have hold: ∀i,i≠h+3→gt (pt H (h+3) (.row 86 (some 4) (cellsF (4*n) (upF F (4*p) (i6 bn))))) i=gt H i:=fun i hi=>by rw[Qaa,if_neg hi]
 refine⟨g,rv,.sl (h+3) 0 n none,pt H (h+3) (.row 86 (some 4) (cellsF (4*n) (upF F (4*p) (i6 bn)))),m+3,hB.frame fun i hi=>hold i (by omega),?_,Qfe hbw hba hbk hB h3 hlo hRB hND hh1 hh2 hc hp hK hkK hnK hlr hls,.inr ⟨_,_,rfl⟩,by omega,?_⟩
 ·exact Qkj hbw hba hbk hB h3 hlo hRB hND hh1 hh2 hc hp hK hkK hnK hlr hls (Nat.le_refl _) (fun i a b=>hold i (by omega)) (hND.put (i:=4*p) (S9_0 p) (i6 bn) (by grind[Qaa]) (fun j a b c=>hold _ (by exact(hND.own j a b c).2.2.2.1)) (Nat.le_refl _)) (fun v hv=>by
   grind[Qai,Qah]) (fun i hi=>by grind)
 ·obtain ⟨h0, h1, h2⟩ := hB
  have hrow:=hND.row
  have hlay:=Qcn (n:=4*n) (k:=4*p) (F:=F) (x:=(i6 bn)) (by omega)
  have hcell:True:=trivial
  generalize cellsF (4*n) (upF F (4*p) (i6 bn))=C2 at*
  generalize cellsF (4*n) F=C1 at*
  clear hND hRB hc hls hlr hold
  refine To.of_vc (n:=100) (hs:=[lo_ 95 (.row 28 none [w8 (bw:Nat),w8 (ba:Nat),w8 (bk:Nat),i6 bn]) (w8 (bw:Nat)),nu 96 (3:Nat),lo_ 159 (.row 28 none [w8 (bw:Nat),w8 (ba:Nat),w8 (bk:Nat),i6 bn]) (i6 bn),so (.row 86 (some 4) C1) C2,toO xE9]) fun nx0 lg G hG=>?_
  exact m_ (p:=let z0:=[w8 ↑bw,w8 ↑ba,w8 ↑bk,i6 bn];An [_,headF (dropF (0+0) z0)=some (w8 ↑bw),_,_,headF (dropF (0+3) z0)=some (i6 bn),An [_,layE (p*4+0) C1 [i6 bn]=some C2],G Ex.normal xE9 (pt H (h+3) (O.row 86 (some 4) C2)) (m+3) ([h+3]++lg),Sm (V.ptr 0 0),Sm (V.ptr 1 0),Sm (V.ptr 2 0),_]) ⟨h0,gq,hw,h0,gq,⟨hrow,(by (rw[show p*4+0=4*p+0 by omega];first|exact hcell|exact hlay))⟩,aq,aq,aq,aq,hcell⟩
theorem sw_8(hb:bw%11=8): ∃g' rv' nv' H' nx',SwP K [w8 (bw:Nat),w8 (ba:Nat),w8 (bk:Nat),i6 bn] rv (.sl (h+3) 0 n none) (h+3) p H (m+3) g' rv' nv' H' nx':=by
 have hw:((bw:Nat):Int).tmod 11=(8:Nat):=by rw[Int.tmod_eq_emod_of_nonneg (by omega)];omega
 have hold: ∀i,i≠h+3→gt (pt H (h+3) (.row 86 (some 4) (cellsF (4*n) (upF F (4*p+1) .nils)))) i=gt H i:=fun i hi=>by rw[Qaa,if_neg hi]
 refine⟨g,rv,.sl (h+3) 0 n none,pt H (h+3) (.row 86 (some 4) (cellsF (4*n) (upF F (4*p+1) .nils))),m+3,hB.frame fun i hi=>hold i (by omega),?_,Qfe hbw hba hbk hB h3 hlo hRB hND hh1 hh2 hc hp hK hkK hnK hlr hls,.inr ⟨_,_,rfl⟩,by omega,?_⟩
 ·exact Qkj hbw hba hbk hB h3 hlo hRB hND hh1 hh2 hc hp hK hkK hnK hlr hls (Nat.le_refl _) (fun i a b=>hold i (by omega)) (hND.clear (i:=4*p+1) (by grind[Qaa]) (fun j a b c _=>hold _ (by exact(hND.own j a b c).2.2.2.1)) (Nat.le_refl _)) (Qi4 hbw hba hbk hB h3 hlo hRB hND hh1 hh2 hc hp hK hkK hnK hlr hls (by omega) _) (Qkl hbw hba hbk hB h3 hlo hRB hND hh1 hh2 hc hp hK hkK hnK hlr hls (by simp))
 ·obtain ⟨h0, h1, h2⟩ := hB
  have hrow:=hND.row
  have hlay:=Qcn (n:=4*n) (k:=4*p+1) (F:=F) (x:=.nils) (by omega)
  have hcell:True:=trivial
  generalize cellsF (4*n) (upF F (4*p+1) .nils)=C2 at*
  generalize cellsF (4*n) F=C1 at*
  clear hND hRB hc hls hlr hold
  refine To.of_vc (n:=100) (hs:=[lo_ 95 (.row 28 none [w8 (bw:Nat),w8 (ba:Nat),w8 (bk:Nat),i6 bn]) (w8 (bw:Nat)),nu 96 (8:Nat),so (.row 86 (some 4) C1) C2,toO xE9]) fun nx0 lg G hG=>?_
  exact m_ (p:=An [_,headF (dropF (0+0) [w8 ↑bw,w8 ↑ba,w8 ↑bk,i6 bn])=some (w8 ↑bw),_,An [_,layE (p*4+1) C1 [V.nils]=some C2],G Ex.normal xE9 (pt H (h+3) (O.row 86 (some 4) C2)) (m+3) ([h+3]++lg),Sm (V.ptr 0 0),Sm (V.ptr 1 0),Sm (V.ptr 2 0),_]) ⟨h0,gq,hw,⟨hrow,(by (rw[show p*4+1=4*p+1 by omega];first|exact hcell|exact hlay))⟩,aq,aq,aq,aq,hcell⟩
theorem sw_4(hb:bw%11=4): ∃g' rv' nv' H' nx',SwP K [w8 (bw:Nat),w8 (ba:Nat),w8 (bk:Nat),i6 bn] rv (.sl (h+3) 0 n none) (h+3) p H (m+3) g' rv' nv' H' nx':=by
 have hw:((bw:Nat):Int).tmod 11=(4:Nat):=by rw[Int.tmod_eq_emod_of_nonneg (by omega)];omega
 have hrow:=hND.row
 have hlay:=Qcn (n:=4*n) (k:=4*p+1) (F:=F) (x:=.sl (m+4) 0 ((ls (4*p+1)).length+1) none) (by omega)
 have hcell:=Qbq (n:=4*n) (k:=4*p+1) (F:=F) (by omega)
 have hS:=S9_i (v:=p) (i:=1) (by omega)
 have hl3:(ls (4*p+1)).length≤K:=by have:=hls p hp;omega
 have fin: ∀Hf:T O,(∀i,i≠h+3→i≠m+3→i≠m+4→(ls (4*p+1)≠[]→i≠hd (4*p+1))→gt Hf i=gt H i)→gt Hf (h+3)=some (.row 86 (some 4) (cellsF (4*n) (upF F (4*p+1) (.sl (m+4) 0 ((ls (4*p+1)).length+1) none))))→gt Hf (m+4)=some (.row 3 (some 1) (ints (ls (4*p+1)++[bn])))→BB [w8 (bw:Nat),w8 (ba:Nat),w8 (bk:Nat),i6 bn] g rv (.sl (h+3) 0 n none) Hf∧MdV (K+1) Hf (m+5) rv (.sl (h+3) 0 n none):=by
  intro Hf f1 f2 f3
  have hlow: ∀i,i<lo→gt Hf i=gt H i:=fun i hi=>f1 i (by omega) (by omega) (by omega) (fun hl=>by have:=(hND.own _ (by omega) hS hl).2.1;omega)
  have el:(ls (4*p+1)).length+1=(ls (4*p+1)++[bn]).length:=by rw[List.length_append,List.length_singleton]
  refine⟨hB.frame fun i hi=>hlow i (by omega),Qkj hbw hba hbk hB h3 hlo hRB hND hh1 hh2 hc hp hK hkK hnK hlr hls (by omega) (fun i a b=>hlow i b) (NR.new (k:=true) hND (i:=4*p+1) (l:=ls (4*p+1)++[bn]) (q:=m+4) (by simp) (by omega) (by omega) (by omega) (by omega) (by grind) f3 (fun i a b c d=>?_)) (Qi4 hbw hba hbk hB h3 hlo hRB hND hh1 hh2 hc hp hK hkK hnK hlr hls (by omega) _) (Qkl hbw hba hbk hB h3 hlo hRB hND hh1 hh2 hc hp hK hkK hnK hlr hls (by omega))⟩
  obtain⟨o1,o2,o3,o4,o5⟩:=hND.own i a b c
  exact f1 _ o4 (by omega) (by omega) fun hl=>hND.ne (by omega) hS hl a b c d
 generalize hC2:cellsF (4*n) (upF F (4*p+1) (.sl (m+4) 0 ((ls (4*p+1)).length+1) none))=C2 at*
 by_cases hnil:ls (4*p+1)=[]
 ·rw [hND.nil _ (by omega) hS hnil] at hcell
  have hf:=fin (pt (pt (pt H (m+3) (.row 3 none [i6 bn])) (m+4) (.row 3 (some 1) [i6 bn])) (h+3) (.row 86 (some 4) C2)) (fun i i1 i2 i3 i4=>by rw[Qaa,if_neg i1,Qaa,if_neg i3,Qaa,if_neg i2]) (by rw[Qaa,if_pos rfl]) (by rw[Qaa,if_neg (by omega),Qaa,if_pos rfl,hnil];rfl)
  refine⟨g,rv,_,_,_,hf.1,hf.2,Qfe hbw hba hbk hB h3 hlo hRB hND hh1 hh2 hc hp hK hkK hnK hlr hls,.inr ⟨_,_,rfl⟩,by omega,?_⟩
  rw[hnil]at hlay hC2
  obtain⟨h0,h1,h2⟩:=hB
  clear hf fin hND hRB hc hls hlr hS hnil hl3
  generalize cellsF (4*n) F=C1 at*
  refine To.of_vc (n:=100) (hs:=[lo_ 95 (.row 28 none [w8 (bw:Nat),w8 (ba:Nat),w8 (bk:Nat),i6 bn]) (w8 (bw:Nat)),nu 96 (4:Nat),lo_ 168 (.row 86 (some 4) C1) .nils,lo_ 170 (.row 28 none [w8 (bw:Nat),w8 (ba:Nat),w8 (bk:Nat),i6 bn]) (i6 bn),(172,.an 1 [i6 bn]),so (.row 86 (some 4) C1) C2,toO xE9]) fun nx0 lg G hG=>?_
  exact m_ (p:=let z0:=[w8 ↑bw,w8 ↑ba,w8 ↑bk,i6 bn];let z2:=pt H (m+3) (O.row 3 none [i6 bn]);let z1:=pt z2 (m+3+1) (O.row 3 (some 1) [i6 bn]);An [_,headF (dropF (0+0) z0)=some (w8 ↑bw),_,_,headF (dropF (p*4+1) C1)=some V.nils,_,headF (dropF (0+3) z0)=some (i6 bn),An [srcV z2 1 (V.sl (m+3) 0 1 (some 0))=some (1,[i6 bn]),1≤9223372036854775807,1*8≤140737488355328],An [gt z1 (h+3)=(some (O.row 86 (some 4) C1)),layE (p*4+1) C1 [V.sl (m+3+1) 0 1 none]=some C2],G Ex.normal xE9 (pt z1 (h+3) (O.row 86 (some 4) C2)) (m+3+1+1) ([h+3]++([]++lg)),Sm (V.ptr 0 0),Sm (V.ptr 1 0),Sm (V.ptr 2 0),_]) ⟨h0,gq,hw,hrow,(by (rw[show p*4+1=4*p+1 by omega];first|exact hcell|exact hlay)),h0,gq,⟨Qan (by exact gq),a_⟩,⟨gq,(by (rw[show p*4+1=4*p+1 by omega];first|exact hcell|exact hlay))⟩,aq,aq,aq,aq,tq⟩
 ·obtain ⟨o1, o2, o3, o4, o5⟩ := hND.own _ (by omega) hS hnil
  rw[o1]at hcell
  have il:=Qal (ls (4*p+1))
  have hif:=Qad (ls (4*p+1))
  have ia:ints (ls (4*p+1)++[bn])=ints (ls (4*p+1))++[i6 bn]:=Qcw _ _
  have hf:=fin (pt (pt (pt (pt H (m+3) (.row 3 none [i6 bn])) (hd (4*p+1)) .dead) (m+4) (.row 3 (some 1) (ints (ls (4*p+1))++[i6 bn]))) (h+3) (.row 86 (some 4) C2)) (fun i i1 i2 i3 i4=>by rw[Qaa,if_neg i1,Qaa,if_neg i3,Qaa,if_neg (i4 hnil),Qaa,if_neg i2]) (by rw[Qaa,if_pos rfl]) (by rw[Qaa,if_neg (by omega),Qaa,if_pos rfl,ia])
  refine⟨g,rv,_,_,_,hf.1,hf.2,Qfe hbw hba hbk hB h3 hlo hRB hND hh1 hh2 hc hp hK hkK hnK hlr hls,.inr ⟨_,_,rfl⟩,by omega,?_⟩
  have o5:gt H (hd (4*p+1))=some (.row 3 (some 1) (ints (ls (4*p+1)))):=o5
  have hcell:headF (dropF (4*p+1) (cellsF (4*n) F))=some (.sl (hd (4*p+1)) 0 (ls (4*p+1)).length none):=hcell
  obtain⟨h0,h1,h2⟩:=hB
  clear hf fin hND hRB hc hls hlr hnil o1 ia
  generalize ints (ls (4*p+1))=l at*
  generalize (ls (4*p+1)).length=ll at*
  generalize hd (4*p+1)=h9 at*
  obtain⟨kk,rfl⟩: ∃kk,h9=kk+3:=⟨h9-3,by omega⟩
  generalize cellsF (4*n) F=C1 at*
  refine To.of_vc (n:=100) (hs:=[lo_ 95 (.row 28 none [w8 (bw:Nat),w8 (ba:Nat),w8 (bk:Nat),i6 bn]) (w8 (bw:Nat)),nu 96 (4:Nat),lo_ 168 (.row 86 (some 4) C1) (.sl (kk+3) 0 ll none),lo_ 170 (.row 28 none [w8 (bw:Nat),w8 (ba:Nat),w8 (bk:Nat),i6 bn]) (i6 bn),(172,.aop (.row 3 (some 1) l) 1 [i6 bn]),so (.row 86 (some 4) C1) C2,toO xE9]) fun nx0 lg G hG=>?_
  exact m_ (p:=let z1:=[w8 ↑bw,w8 ↑ba,w8 ↑bk,i6 bn];let z2:=pt H (m+3) (O.row 3 none [i6 bn]);let z0:=pt (pt z2 (kk+3) O.dead) (m+3+1) (O.row 3 (some 1) (l++[i6 bn]));An [_,headF (dropF (0+0) z1)=some (w8 ↑bw),_,_,headF (dropF (p*4+1) C1)=some (V.sl (kk+3) 0 ll none),_,headF (dropF (0+3) z1)=some (i6 bn),srcV z2 1 (V.sl (m+3) 0 1 (some 0))=some (1,[i6 bn]),An [gt z2 (kk+3)=some (O.row 3 (some 1) l),l.length=ll*1,1≤1,ll+1≤9223372036854775807,(ll+1)*8≤140737488355328,atoms [i6 bn]=true],An [gt z0 (h+3)=(some (O.row 86 (some 4) C1)),layE (p*4+1) C1 [V.sl (m+3+1) 0 (ll+1) none]=some C2],G Ex.normal xE9 (pt z0 (h+3) (O.row 86 (some 4) C2)) (m+3+1+1) ([h+3]++([kk+3]++lg)),Sm (V.ptr 0 0),Sm (V.ptr 1 0),Sm (V.ptr 2 0),_]) ⟨h0,gq,hw,hrow,(by (rw[show p*4+1=4*p+1 by omega];first|exact hcell|exact hlay)),h0,gq,Qan (by exact gq),⟨gq,aq,aq,aq,aq,gq⟩,⟨gq,(by (rw[show p*4+1=4*p+1 by omega];first|exact hcell|exact hlay))⟩,aq,aq,aq,aq,tq⟩
theorem sw_5(hb:bw%11=5): ∃g' rv' nv' H' nx',SwP K [w8 (bw:Nat),w8 (ba:Nat),w8 (bk:Nat),i6 bn] rv (.sl (h+3) 0 n none) (h+3) p H (m+3) g' rv' nv' H' nx':=by
 have hw:((bw:Nat):Int).tmod 11=(5:Nat):=by rw[Int.tmod_eq_emod_of_nonneg (by omega)];omega
 have hrow:=hND.row
 have hlay:=Qcn (n:=4*n) (k:=4*p+2) (F:=F) (x:=.sl (m+4) 0 ((ls (4*p+2)).length+1) none) (by omega)
 have hcell:=Qbq (n:=4*n) (k:=4*p+2) (F:=F) (by omega)
 have hS:=S9_i (v:=p) (i:=2) (by omega)
 have hl3:(ls (4*p+2)).length≤K:=by have:=hls p hp;omega
 have fin: ∀Hf:T O,(∀i,i≠h+3→i≠m+3→i≠m+4→(ls (4*p+2)≠[]→i≠hd (4*p+2))→gt Hf i=gt H i)→gt Hf (h+3)=some (.row 86 (some 4) (cellsF (4*n) (upF F (4*p+2) (.sl (m+4) 0 ((ls (4*p+2)).length+1) none))))→gt Hf (m+4)=some (.row 3 (some 1) (ints (ls (4*p+2)++[bn])))→BB [w8 (bw:Nat),w8 (ba:Nat),w8 (bk:Nat),i6 bn] g rv (.sl (h+3) 0 n none) Hf∧MdV (K+1) Hf (m+5) rv (.sl (h+3) 0 n none):=by
  intro Hf f1 f2 f3
  have hlow: ∀i,i<lo→gt Hf i=gt H i:=fun i hi=>f1 i (by omega) (by omega) (by omega) (fun hl=>by have:=(hND.own _ (by omega) hS hl).2.1;omega)
  have el:(ls (4*p+2)).length+1=(ls (4*p+2)++[bn]).length:=by rw[List.length_append,List.length_singleton]
  refine⟨hB.frame fun i hi=>hlow i (by omega),Qkj hbw hba hbk hB h3 hlo hRB hND hh1 hh2 hc hp hK hkK hnK hlr hls (by omega) (fun i a b=>hlow i b) (NR.new (k:=true) hND (i:=4*p+2) (l:=ls (4*p+2)++[bn]) (q:=m+4) (by simp) (by omega) (by omega) (by omega) (by omega) (by grind) f3 (fun i a b c d=>?_)) (Qi4 hbw hba hbk hB h3 hlo hRB hND hh1 hh2 hc hp hK hkK hnK hlr hls (by omega) _) (Qkl hbw hba hbk hB h3 hlo hRB hND hh1 hh2 hc hp hK hkK hnK hlr hls (by omega))⟩
  obtain⟨o1,o2,o3,o4,o5⟩:=hND.own i a b c
  exact f1 _ o4 (by omega) (by omega) fun hl=>hND.ne (by omega) hS hl a b c d
 generalize hC2:cellsF (4*n) (upF F (4*p+2) (.sl (m+4) 0 ((ls (4*p+2)).length+1) none))=C2 at*
 by_cases hnil:ls (4*p+2)=[]
 ·rw [hND.nil _ (by omega) hS hnil] at hcell
  have hf:=fin (pt (pt (pt H (m+3) (.row 3 none [i6 bn])) (m+4) (.row 3 (some 1) [i6 bn])) (h+3) (.row 86 (some 4) C2)) (fun i i1 i2 i3 i4=>by rw[Qaa,if_neg i1,Qaa,if_neg i3,Qaa,if_neg i2]) (by rw[Qaa,if_pos rfl]) (by rw[Qaa,if_neg (by omega),Qaa,if_pos rfl,hnil];rfl)
  refine⟨g,rv,_,_,_,hf.1,hf.2,Qfe hbw hba hbk hB h3 hlo hRB hND hh1 hh2 hc hp hK hkK hnK hlr hls,.inr ⟨_,_,rfl⟩,by omega,?_⟩
  rw[hnil]at hlay hC2
  obtain⟨h0,h1,h2⟩:=hB
  clear hf fin hND hRB hc hls hlr hS hnil hl3
  generalize cellsF (4*n) F=C1 at*
  refine To.of_vc (n:=100) (hs:=[lo_ 95 (.row 28 none [w8 (bw:Nat),w8 (ba:Nat),w8 (bk:Nat),i6 bn]) (w8 (bw:Nat)),nu 96 (5:Nat),lo_ 181 (.row 86 (some 4) C1) .nils,lo_ 183 (.row 28 none [w8 (bw:Nat),w8 (ba:Nat),w8 (bk:Nat),i6 bn]) (i6 bn),(185,.an 1 [i6 bn]),so (.row 86 (some 4) C1) C2,toO xE9]) fun nx0 lg G hG=>?_
  exact m_ (p:=let z0:=[w8 ↑bw,w8 ↑ba,w8 ↑bk,i6 bn];let z2:=pt H (m+3) (O.row 3 none [i6 bn]);let z1:=pt z2 (m+3+1) (O.row 3 (some 1) [i6 bn]);An [_,headF (dropF (0+0) z0)=some (w8 ↑bw),_,_,headF (dropF (p*4+2) C1)=some V.nils,_,headF (dropF (0+3) z0)=some (i6 bn),An [srcV z2 1 (V.sl (m+3) 0 1 (some 0))=some (1,[i6 bn]),1≤9223372036854775807,1*8≤140737488355328],An [gt z1 (h+3)=(some (O.row 86 (some 4) C1)),layE (p*4+2) C1 [V.sl (m+3+1) 0 1 none]=some C2],G Ex.normal xE9 (pt z1 (h+3) (O.row 86 (some 4) C2)) (m+3+1+1) ([h+3]++([]++lg)),Sm (V.ptr 0 0),Sm (V.ptr 1 0),Sm (V.ptr 2 0),_]) ⟨h0,gq,hw,hrow,(by (rw[show p*4+2=4*p+2 by omega];first|exact hcell|exact hlay)),h0,gq,⟨Qan (by exact gq),a_⟩,⟨gq,(by (rw[show p*4+2=4*p+2 by omega];first|exact hcell|exact hlay))⟩,aq,aq,aq,aq,tq⟩
 ·obtain ⟨o1, o2, o3, o4, o5⟩ := hND.own _ (by omega) hS hnil
  rw[o1]at hcell
  have il:=Qal (ls (4*p+2))
  have hif:=Qad (ls (4*p+2))
  have ia:ints (ls (4*p+2)++[bn])=ints (ls (4*p+2))++[i6 bn]:=Qcw _ _
  have hf:=fin (pt (pt (pt (pt H (m+3) (.row 3 none [i6 bn])) (hd (4*p+2)) .dead) (m+4) (.row 3 (some 1) (ints (ls (4*p+2))++[i6 bn]))) (h+3) (.row 86 (some 4) C2)) (fun i i1 i2 i3 i4=>by rw[Qaa,if_neg i1,Qaa,if_neg i3,Qaa,if_neg (i4 hnil),Qaa,if_neg i2]) (by rw[Qaa,if_pos rfl]) (by rw[Qaa,if_neg (by omega),Qaa,if_pos rfl,ia])
  refine⟨g,rv,_,_,_,hf.1,hf.2,Qfe hbw hba hbk hB h3 hlo hRB hND hh1 hh2 hc hp hK hkK hnK hlr hls,.inr ⟨_,_,rfl⟩,by omega,?_⟩
  have o5:gt H (hd (4*p+2))=some (.row 3 (some 1) (ints (ls (4*p+2)))):=o5
  have hcell:headF (dropF (4*p+2) (cellsF (4*n) F))=some (.sl (hd (4*p+2)) 0 (ls (4*p+2)).length none):=hcell
  obtain⟨h0,h1,h2⟩:=hB
  clear hf fin hND hRB hc hls hlr hnil o1 ia
  generalize ints (ls (4*p+2))=l at*
  generalize (ls (4*p+2)).length=ll at*
  generalize hd (4*p+2)=h9 at*
  obtain⟨kk,rfl⟩: ∃kk,h9=kk+3:=⟨h9-3,by omega⟩
  generalize cellsF (4*n) F=C1 at*
  refine To.of_vc (n:=100) (hs:=[lo_ 95 (.row 28 none [w8 (bw:Nat),w8 (ba:Nat),w8 (bk:Nat),i6 bn]) (w8 (bw:Nat)),nu 96 (5:Nat),lo_ 181 (.row 86 (some 4) C1) (.sl (kk+3) 0 ll none),lo_ 183 (.row 28 none [w8 (bw:Nat),w8 (ba:Nat),w8 (bk:Nat),i6 bn]) (i6 bn),(185,.aop (.row 3 (some 1) l) 1 [i6 bn]),so (.row 86 (some 4) C1) C2,toO xE9]) fun nx0 lg G hG=>?_
  exact m_ (p:=let z1:=[w8 ↑bw,w8 ↑ba,w8 ↑bk,i6 bn];let z2:=pt H (m+3) (O.row 3 none [i6 bn]);let z0:=pt (pt z2 (kk+3) O.dead) (m+3+1) (O.row 3 (some 1) (l++[i6 bn]));An [_,headF (dropF (0+0) z1)=some (w8 ↑bw),_,_,headF (dropF (p*4+2) C1)=some (V.sl (kk+3) 0 ll none),_,headF (dropF (0+3) z1)=some (i6 bn),srcV z2 1 (V.sl (m+3) 0 1 (some 0))=some (1,[i6 bn]),An [gt z2 (kk+3)=some (O.row 3 (some 1) l),l.length=ll*1,1≤1,ll+1≤9223372036854775807,(ll+1)*8≤140737488355328,atoms [i6 bn]=true],An [gt z0 (h+3)=(some (O.row 86 (some 4) C1)),layE (p*4+2) C1 [V.sl (m+3+1) 0 (ll+1) none]=some C2],G Ex.normal xE9 (pt z0 (h+3) (O.row 86 (some 4) C2)) (m+3+1+1) ([h+3]++([kk+3]++lg)),Sm (V.ptr 0 0),Sm (V.ptr 1 0),Sm (V.ptr 2 0),_]) ⟨h0,gq,hw,hrow,(by (rw[show p*4+2=4*p+2 by omega];first|exact hcell|exact hlay)),h0,gq,Qan (by exact gq),⟨gq,aq,aq,aq,aq,gq⟩,⟨gq,(by (rw[show p*4+2=4*p+2 by omega];first|exact hcell|exact hlay))⟩,aq,aq,aq,aq,tq⟩
theorem sw_7(hb:bw%11=7): ∃g' rv' nv' H' nx',SwP K [w8 (bw:Nat),w8 (ba:Nat),w8 (bk:Nat),i6 bn] rv (.sl (h+3) 0 n none) (h+3) p H (m+3) g' rv' nv' H' nx':=by
 have hw:((bw:Nat):Int).tmod 11=(7:Nat):=by rw[Int.tmod_eq_emod_of_nonneg (by omega)];omega
 have hrow:=hND.row
 have hlay:=Qcn (n:=4*n) (k:=4*p+3) (F:=F) (x:=.sl (m+4) 0 ((ls (4*p+3)).length+1) none) (by omega)
 have hcell:=Qbq (n:=4*n) (k:=4*p+3) (F:=F) (by omega)
 have hS:=S9_i (v:=p) (i:=3) (by omega)
 have hl3:(ls (4*p+3)).length≤K:=by have:=hls p hp;omega
 have fin: ∀Hf:T O,(∀i,i≠h+3→i≠m+3→i≠m+4→(ls (4*p+3)≠[]→i≠hd (4*p+3))→gt Hf i=gt H i)→gt Hf (h+3)=some (.row 86 (some 4) (cellsF (4*n) (upF F (4*p+3) (.sl (m+4) 0 ((ls (4*p+3)).length+1) none))))→gt Hf (m+4)=some (.row 3 (some 1) (ints (ls (4*p+3)++[(0:Int)])))→BB [w8 (bw:Nat),w8 (ba:Nat),w8 (bk:Nat),i6 bn] g rv (.sl (h+3) 0 n none) Hf∧MdV (K+1) Hf (m+5) rv (.sl (h+3) 0 n none):=by
  intro Hf f1 f2 f3
  have hlow: ∀i,i<lo→gt Hf i=gt H i:=fun i hi=>f1 i (by omega) (by omega) (by omega) (fun hl=>by have:=(hND.own _ (by omega) hS hl).2.1;omega)
  have el:(ls (4*p+3)).length+1=(ls (4*p+3)++[(0:Int)]).length:=by rw[List.length_append,List.length_singleton]
  refine⟨hB.frame fun i hi=>hlow i (by omega),Qkj hbw hba hbk hB h3 hlo hRB hND hh1 hh2 hc hp hK hkK hnK hlr hls (by omega) (fun i a b=>hlow i b) (NR.new (k:=true) hND (i:=4*p+3) (l:=ls (4*p+3)++[(0:Int)]) (q:=m+4) (by simp) (by omega) (by omega) (by omega) (by omega) (by grind) f3 (fun i a b c d=>?_)) (Qi4 hbw hba hbk hB h3 hlo hRB hND hh1 hh2 hc hp hK hkK hnK hlr hls (by omega) _) (Qkl hbw hba hbk hB h3 hlo hRB hND hh1 hh2 hc hp hK hkK hnK hlr hls (by omega))⟩
  obtain⟨o1,o2,o3,o4,o5⟩:=hND.own i a b c
  exact f1 _ o4 (by omega) (by omega) fun hl=>hND.ne (by omega) hS hl a b c d
 generalize hC2:cellsF (4*n) (upF F (4*p+3) (.sl (m+4) 0 ((ls (4*p+3)).length+1) none))=C2 at*
 by_cases hnil:ls (4*p+3)=[]
 ·rw [hND.nil _ (by omega) hS hnil] at hcell
  have hf:=fin (pt (pt (pt H (m+3) (.row 3 none [i6 (0:Int)])) (m+4) (.row 3 (some 1) [i6 (0:Int)])) (h+3) (.row 86 (some 4) C2)) (fun i i1 i2 i3 i4=>by rw[Qaa,if_neg i1,Qaa,if_neg i3,Qaa,if_neg i2]) (by rw[Qaa,if_pos rfl]) (by rw[Qaa,if_neg (by omega),Qaa,if_pos rfl,hnil];rfl)
  refine⟨g,rv,_,_,_,hf.1,hf.2,Qfe hbw hba hbk hB h3 hlo hRB hND hh1 hh2 hc hp hK hkK hnK hlr hls,.inr ⟨_,_,rfl⟩,by omega,?_⟩
  rw[hnil]at hlay hC2
  obtain⟨h0,h1,h2⟩:=hB
  clear hf fin hND hRB hc hls hlr hS hnil hl3
  generalize cellsF (4*n) F=C1 at*
  refine To.of_vc (n:=100) (hs:=[lo_ 95 (.row 28 none [w8 (bw:Nat),w8 (ba:Nat),w8 (bk:Nat),i6 bn]) (w8 (bw:Nat)),nu 96 (7:Nat),lo_ 218 (.row 86 (some 4) C1) .nils,(220,.an 1 [i6 (0:Int)]),so (.row 86 (some 4) C1) C2,toO xE9]) fun nx0 lg G hG=>?_
  exact m_ (p:=let z1:=pt H (m+3) (O.row 3 none [i6 0]);let z0:=pt z1 (m+3+1) (O.row 3 (some 1) [i6 0]);An [_,headF (dropF (0+0) [w8 ↑bw,w8 ↑ba,w8 ↑bk,i6 bn])=some (w8 ↑bw),_,_,headF (dropF (p*4+3) C1)=some V.nils,An [srcV z1 1 (V.sl (m+3) 0 1 (some 0))=some (1,[i6 0]),1≤9223372036854775807,1*8≤140737488355328],An [gt z0 (h+3)=(some (O.row 86 (some 4) C1)),layE (p*4+3) C1 [V.sl (m+3+1) 0 1 none]=some C2],G Ex.normal xE9 (pt z0 (h+3) (O.row 86 (some 4) C2)) (m+3+1+1) ([h+3]++([]++lg)),Sm (V.ptr 0 0),Sm (V.ptr 1 0),Sm (V.ptr 2 0),_]) ⟨h0,gq,hw,hrow,(by (rw[show p*4+3=4*p+3 by omega];first|exact hcell|exact hlay)),⟨Qan (by exact gq),a_⟩,⟨gq,(by (rw[show p*4+3=4*p+3 by omega];first|exact hcell|exact hlay))⟩,aq,aq,aq,aq,tq⟩
 ·obtain ⟨o1, o2, o3, o4, o5⟩ := hND.own _ (by omega) hS hnil
  rw[o1]at hcell
  have il:=Qal (ls (4*p+3))
  have hif:=Qad (ls (4*p+3))
  have ia:ints (ls (4*p+3)++[(0:Int)])=ints (ls (4*p+3))++[i6 (0:Int)]:=Qcw _ _
  have hf:=fin (pt (pt (pt (pt H (m+3) (.row 3 none [i6 (0:Int)])) (hd (4*p+3)) .dead) (m+4) (.row 3 (some 1) (ints (ls (4*p+3))++[i6 (0:Int)]))) (h+3) (.row 86 (some 4) C2)) (fun i i1 i2 i3 i4=>by rw[Qaa,if_neg i1,Qaa,if_neg i3,Qaa,if_neg (i4 hnil),Qaa,if_neg i2]) (by rw[Qaa,if_pos rfl]) (by rw[Qaa,if_neg (by omega),Qaa,if_pos rfl,ia])
  refine⟨g,rv,_,_,_,hf.1,hf.2,Qfe hbw hba hbk hB h3 hlo hRB hND hh1 hh2 hc hp hK hkK hnK hlr hls,.inr ⟨_,_,rfl⟩,by omega,?_⟩
  have o5:gt H (hd (4*p+3))=some (.row 3 (some 1) (ints (ls (4*p+3)))):=o5
  have hcell:headF (dropF (4*p+3) (cellsF (4*n) F))=some (.sl (hd (4*p+3)) 0 (ls (4*p+3)).length none):=hcell
  obtain⟨h0,h1,h2⟩:=hB
  clear hf fin hND hRB hc hls hlr hnil o1 ia
  generalize ints (ls (4*p+3))=l at*
  generalize (ls (4*p+3)).length=ll at*
  generalize hd (4*p+3)=h9 at*
  obtain⟨kk,rfl⟩: ∃kk,h9=kk+3:=⟨h9-3,by omega⟩
  generalize cellsF (4*n) F=C1 at*
  refine To.of_vc (n:=100) (hs:=[lo_ 95 (.row 28 none [w8 (bw:Nat),w8 (ba:Nat),w8 (bk:Nat),i6 bn]) (w8 (bw:Nat)),nu 96 (7:Nat),lo_ 218 (.row 86 (some 4) C1) (.sl (kk+3) 0 ll none),(220,.aop (.row 3 (some 1) l) 1 [i6 (0:Int)]),so (.row 86 (some 4) C1) C2,toO xE9]) fun nx0 lg G hG=>?_
  exact m_ (p:=let z1:=pt H (m+3) (O.row 3 none [i6 0]);let z0:=pt (pt z1 (kk+3) O.dead) (m+3+1) (O.row 3 (some 1) (l++[i6 0]));An [_,headF (dropF (0+0) [w8 ↑bw,w8 ↑ba,w8 ↑bk,i6 bn])=some (w8 ↑bw),_,_,headF (dropF (p*4+3) C1)=some (V.sl (kk+3) 0 ll none),srcV z1 1 (V.sl (m+3) 0 1 (some 0))=some (1,[i6 0]),An [gt z1 (kk+3)=some (O.row 3 (some 1) l),l.length=ll*1,1≤1,ll+1≤9223372036854775807,(ll+1)*8≤140737488355328,atoms [i6 0]=true],An [gt z0 (h+3)=(some (O.row 86 (some 4) C1)),layE (p*4+3) C1 [V.sl (m+3+1) 0 (ll+1) none]=some C2],G Ex.normal xE9 (pt z0 (h+3) (O.row 86 (some 4) C2)) (m+3+1+1) ([h+3]++([kk+3]++lg)),Sm (V.ptr 0 0),Sm (V.ptr 1 0),Sm (V.ptr 2 0),_]) ⟨h0,gq,hw,hrow,(by (rw[show p*4+3=4*p+3 by omega];first|exact hcell|exact hlay)),Qan (by exact gq),⟨gq,aq,aq,aq,aq,gq⟩,⟨gq,(by (rw[show p*4+3=4*p+3 by omega];first|exact hcell|exact hlay))⟩,aq,aq,aq,aq,tq⟩
end
section
variable {bw ba bk:Nat} {bn:Int} {g:Int} {K lo m:Nat} {rv:V} {H:T O} {k:Nat} {Fr lr_:Nat→V} {lr:Nat→List Int} {hdr:Nat→Nat} {hr:Nat} {n:Nat} {F:Nat→V} {ls:Nat→List Int} {hd:Nat→Nat} {h:Nat} {p:Nat}
 (hbw:bw<256) (hba:ba<256) (hbk:bk<256)
 (hB:BB [w8 (bw:Nat),w8 (ba:Nat),w8 (bk:Nat),i6 bn] g rv (.sl (h+3) 0 n none) H) (h3:3≤lo) (hlo:lo≤m+3) (hRB:RB H 3 lo rv k Fr lr hdr (fun _=>true) hr) (hND:NR H lo (m+3) (h+3) 86 (some 4) (4*n) F S9 ls hd (fun _=>true)) (hh1:lo≤h+3) (hh2:h+3<m+3)
 (hc: ∀v,v<n→∃c:Int,F (4*v)=i6 c) (hp:p<n) (hK:K≤900000) (hkK:k≤K) (hnK:n≤K) (hlr: ∀i,i<k→(lr i).length≤K) (hls: ∀i,i<n→(ls (4*i+1)).length≤K∧(ls (4*i+2)).length≤K∧(ls (4*i+3)).length≤K)
include hbw hba hbk hB h3 hlo hRB hND hh1 hh2 hc hp hK hkK hnK hlr hls
theorem sw_1(hb:bw%11=1): ∃g' rv' nv' H' nx',SwP K [w8 (bw:Nat),w8 (ba:Nat),w8 (bk:Nat),i6 bn] rv (.sl (h+3) 0 n none) (h+3) p H (m+3) g' rv' nv' H' nx':=by
 have hw:((bw:Nat):Int).tmod 11=(1:Nat):=by rw[Int.tmod_eq_emod_of_nonneg (by omega)];omega
 have h1':=hB.h1
 have fin: ∀Hf:T O,(∀i,i≠1→i≠m+3→i≠m+4→i≠m+5→(k≠0→i≠hr)→gt Hf i=gt H i)→gt Hf 1=some (cx9 g (.sl (m+5) 0 (k+1) none) (.sl (h+3) 0 n none))→gt Hf (m+3)=some (.row 3 none [i6 g])→gt Hf (m+5)=some (.row 47 (some 1) (cellsF k Fr++[.sl (m+3) 0 1 (some 0)]))→BB [w8 (bw:Nat),w8 (ba:Nat),w8 (bk:Nat),i6 bn] g (.sl (m+5) 0 (k+1) none) (.sl (h+3) 0 n none) Hf∧MdV (K+1) Hf (m+6) (.sl (m+5) 0 (k+1) none) (.sl (h+3) 0 n none):=by
  intro Hf f1 f2 f3 f4
  have hrb:k≠0→3≤hr∧hr<lo:=fun hk=>⟨(hRB.own hk).2.1,(hRB.own hk).2.2.1⟩
  refine⟨⟨by rw[f1 0 (by omega) (by omega) (by omega) (by omega) (fun hk=>by omega)];exact hB.h0,f2,by rw[f1 2 (by omega) (by omega) (by omega) (by omega) (fun hk=>by omega)];exact hB.h2⟩,rtK (k+1) (upF lr k [g]),mlN n F ls,Qgo (by omega) (by omega) (fun i hi=>?_) (fun i hi=>by grind),fun Fz ρ hF=>⟨?_,?_⟩⟩
  ·grind[Qai,Qah]
  ·refine rb_view (lo := 3) (nx := m + 6) (F := upF Fr k (.sl (m + 3) 0 1 (some 0))) (hd := upF hdr k (m + 3)) (kd := upF (fun _ => true) k false) (hR := m + 5) ⟨fun e => by omega, fun _ => ⟨rfl, by omega, by omega, ?_⟩⟩ fun i a b => hF i a b
   rw[show 1*(k+1)=k+1 by omega]
   refine NR.ext (n:=k) (hR:=hr) (nx:=lo) (kd:=fun _=>true) (fun hk=>by have:=(hRB.own hk).2.2.2;rwa [show 1*k=k by omega]at this) (by omega) (by omega) (by rw[f4,Qge]) (fun i hi=>⟨Qah (by omega),Qah (by omega),Qah (by omega),Qah (by omega),fun hS hne=>?_⟩) (fun i a b _ e=>?_) (fun i a b _ e=>?_) (fun i j a1 a2 a3 a4 _ _ _ _ _=>by omega)
   ·have hNR := (hRB.own (by omega)).2.2.2
    rw[show 1*k=k by omega]at hNR
    obtain⟨o1,o2,o3,o4,o5⟩:=hNR.own i hi hS hne
    grind
   ·grind[Qai]
   ·obtain rfl : i = k := by omega
    rw[Qai,Qai,Qai,Qai]
    exact⟨rfl,by omega,by omega,by omega,f3⟩
  ·refine Qiq (lo := lo) (nx := m + 3) (hd := hd) (kd := fun _ => true) (hR := h + 3) ⟨fun e => by omega, fun _ => ⟨rfl, hh1, hh2, hND.frame (Nat.le_refl _) (f1 _ (by omega) (by omega) (by omega) (by omega) (fun hk => by omega)) fun i a b c => ?_⟩⟩ hc fun i a b => hF i (by omega) (by omega)
   obtain⟨o1,o2,o3,o4,o5⟩:=hND.own i a b c
   grind
 by_cases hk:k=0
 ·subst hk
  obtain rfl:=hRB.nil rfl
  have hf:=fin (pt (pt (pt (pt H (m+3) (.row 3 none [i6 g])) (m+4) (.row 47 none [.sl (m+3) 0 1 (some 0)])) (m+5) (.row 47 (some 1) [.sl (m+3) 0 1 (some 0)])) 1 (cx9 g (.sl (m+5) 0 1 none) (.sl (h+3) 0 n none))) (fun i i1 i2 i3 i4 _=>by rw[Qaa,if_neg i1,Qaa,if_neg i4,Qaa,if_neg i3,Qaa,if_neg i2]) (by rw[Qaa,if_pos rfl]<;>rfl) (by rw[Qaa,if_neg (by omega),Qaa,if_neg (by omega),Qaa,if_neg (by omega),Qaa,if_pos rfl]) (by rw[Qaa,if_neg (by omega),Qaa,if_pos rfl]<;>rfl)
  refine⟨g,_,_,_,_,hf.1,hf.2,.inr ⟨_,_,rfl⟩,.inr ⟨_,_,rfl⟩,by omega,?_⟩
  obtain⟨h0,h1,h2⟩:=hB
  have hcell:True:=trivial
  have hlay:True:=trivial
  clear hf fin hND hRB hc hls hlr
  refine To.of_vc (n:=100) (hs:=[lo_ 95 (.row 28 none [w8 (bw:Nat),w8 (ba:Nat),w8 (bk:Nat),i6 bn]) (w8 (bw:Nat)),nu 96 (1:Nat),lo_ 111 (cx9 g .nils (.sl (h+3) 0 n none)) .nils,lo_ 113 (cx9 g .nils (.sl (h+3) 0 n none)) (i6 g),(116,.an 1 [.sl (m+3) 0 1 (some 0)]),so (cx9 g .nils (.sl (h+3) 0 n none)) [i6 g,.sl (m+5) 0 1 none,.sl (h+3) 0 n none],toO xE9]) fun nx0 lg G hG=>?_
  exact m_ (p:=let z1:=V.sl (h+3) 0 n none;let z2:=[V.sl (m+3) 0 1 (some 0)];let z0:=pt (pt H (m+3) (O.row 3 none [i6 g])) (m+3+1) (O.row 47 none z2);let z6:=[i6 g,V.nils,z1];let z7:=[i6 g,V.sl (m+5) 0 1 none,z1];let z3:=pt z0 (m+3+1+1) (O.row 47 (some 1) z2);An [_,headF (dropF (0+0) [w8 ↑bw,w8 ↑ba,w8 ↑bk,i6 bn])=some (w8 ↑bw),_,_,headF (dropF 1 z6)=some V.nils,_,headF (dropF (0+0) z6)=some (i6 g),An [srcV z0 1 (V.sl (m+3+1) 0 1 (some 0))=some (1,z2),1≤9223372036854775807,1*24≤140737488355328],An [gt z3 1=(some (cx9 g V.nils z1)),layE 1 z6 [V.sl (m+3+1+1) 0 1 none]=some z7],G Ex.normal xE9 (pt z3 1 (O.row 34 none z7)) (m+3+1+1+1) ([1]++([]++lg)),Sm (V.ptr 0 0),Sm (V.ptr 1 0),Sm (V.ptr 2 0),_]) ⟨h0,gq,hw,h1,gq,h1,gq,⟨Qan (by exact gq),a_⟩,⟨gq,gq⟩,aq,aq,aq,aq,hlay⟩
 ·obtain ⟨e, k1, k2, k3⟩ := hRB.own hk
  subst e
  have k4:gt H hr=some (.row 47 (some 1) (cellsF k Fr)):=by have:=k3.row;rwa [show 1*k=k by omega]at this
  have hf:=fin (pt (pt (pt (pt (pt H (m+3) (.row 3 none [i6 g])) (m+4) (.row 47 none [.sl (m+3) 0 1 (some 0)])) hr .dead) (m+5) (.row 47 (some 1) (cellsF k Fr++[.sl (m+3) 0 1 (some 0)]))) 1 (cx9 g (.sl (m+5) 0 (k+1) none) (.sl (h+3) 0 n none))) (fun i i1 i2 i3 i4 i5=>by rw[Qaa,if_neg i1,Qaa,if_neg i4,Qaa,if_neg (i5 hk),Qaa,if_neg i3,Qaa,if_neg i2]) (by rw[Qaa,if_pos rfl]) (by rw[Qaa,if_neg (by omega),Qaa,if_neg (by omega),Qaa,if_neg (by omega),Qaa,if_neg (by omega),Qaa,if_pos rfl]) (by rw[Qaa,if_neg (by omega),Qaa,if_pos rfl])
  refine⟨g,_,_,_,_,hf.1,hf.2,.inr ⟨_,_,rfl⟩,.inr ⟨_,_,rfl⟩,by omega,?_⟩
  obtain⟨h0,h1,h2⟩:=hB
  have hcell:True:=trivial
  have hlay:True:=trivial
  clear hf fin hND hRB hc hls hlr k3
  obtain⟨kk,rfl⟩: ∃kk,hr=kk+3:=⟨hr-3,by omega⟩
  have hcl:=Qa6 k Fr
  generalize cellsF k Fr=CF at*
  refine To.of_vc (n:=100) (hs:=[lo_ 95 (.row 28 none [w8 (bw:Nat),w8 (ba:Nat),w8 (bk:Nat),i6 bn]) (w8 (bw:Nat)),nu 96 (1:Nat),lo_ 111 (cx9 g (.sl (kk+3) 0 k none) (.sl (h+3) 0 n none)) (.sl (kk+3) 0 k none),lo_ 113 (cx9 g (.sl (kk+3) 0 k none) (.sl (h+3) 0 n none)) (i6 g),(116,.aop (.row 47 (some 1) CF) 1 [.sl (m+3) 0 1 (some 0)]),so (cx9 g (.sl (kk+3) 0 k none) (.sl (h+3) 0 n none)) [i6 g,.sl (m+5) 0 (k+1) none,.sl (h+3) 0 n none],toO xE9]) fun nx0 lg G hG=>?_
  exact m_ (p:=let z1:=V.sl (h+3) 0 n none;let z2:=V.sl (kk+3) 0 k none;let z3:=[V.sl (m+3) 0 1 (some 0)];let z0:=pt (pt H (m+3) (O.row 3 none [i6 g])) (m+3+1) (O.row 47 none z3);let z5:=[i6 g,V.sl (m+5) 0 (k+1) none,z1];let z8:=[i6 g,z2,z1];let z4:=pt (pt z0 (kk+3) O.dead) (m+3+1+1) (O.row 47 (some 1) (CF++z3));An [_,headF (dropF (0+0) [w8 ↑bw,w8 ↑ba,w8 ↑bk,i6 bn])=some (w8 ↑bw),_,_,headF (dropF 1 z8)=some z2,_,headF (dropF (0+0) z8)=some (i6 g),srcV z0 1 (V.sl (m+3+1) 0 1 (some 0))=some (1,z3),An [gt z0 (kk+3)=some (O.row 47 (some 1) CF),CF.length=k*1,1≤1,k+1≤9223372036854775807,(k+1)*24≤140737488355328,atoms z3=true],An [gt z4 1=(some (cx9 g z2 z1)),layE 1 z8 [V.sl (m+3+1+1) 0 (k+1) none]=some z5],G Ex.normal xE9 (pt z4 1 (O.row 34 none z5)) (m+3+1+1+1) ([1]++([kk+3]++lg)),Sm (V.ptr 0 0),Sm (V.ptr 1 0),Sm (V.ptr 2 0),_]) ⟨h0,gq,hw,h1,gq,h1,gq,Qan (by exact gq),⟨gq,aq,aq,aq,aq,gq⟩,⟨gq,gq⟩,aq,aq,aq,aq,hlay⟩
theorem sw_id:MdV (K+1) H (m+3) rv (.sl (h+3) 0 n none):=Qkj hbw hba hbk hB h3 hlo hRB hND hh1 hh2 hc hp hK hkK hnK hlr hls (Nat.le_refl _) (fun _ _ _=>rfl) hND hc fun i hi=>by grind
theorem sw_2(hb:bw%11=2): ∃g' rv' nv' H' nx',SwP K [w8 (bw:Nat),w8 (ba:Nat),w8 (bk:Nat),i6 bn] rv (.sl (h+3) 0 n none) (h+3) p H (m+3) g' rv' nv' H' nx':=by
 have hw:((bw:Nat):Int).tmod 11=(2:Nat):=by rw[Int.tmod_eq_emod_of_nonneg (by omega)];omega
 have hid:=sw_id hbw hba hbk hB h3 hlo hRB hND hh1 hh2 hc hp hK hkK hnK hlr hls
 have hcell:True:=trivial
 have hlay:True:=trivial
 by_cases hk:k=0
 ·subst hk
  obtain rfl:=hRB.nil rfl
  refine⟨g,_,_,H,m+3,hB,hid,.inl rfl,.inr ⟨_,_,rfl⟩,by omega,?_⟩
  obtain⟨h0,h1,h2⟩:=hB
  clear hid hND hRB hc hls hlr
  refine To.of_vc (n:=100) (hs:=[lo_ 95 (.row 28 none [w8 (bw:Nat),w8 (ba:Nat),w8 (bk:Nat),i6 bn]) (w8 (bw:Nat)),nu 96 (2:Nat),toO xE9]) fun nx0 lg G hG=>?_
  exact m_ (p:=An [_,headF (dropF (0+0) [w8 ↑bw,w8 ↑ba,w8 ↑bk,i6 bn])=some (w8 ↑bw),_,G Ex.normal xE9 H (m+3) lg,Sm (V.ptr 0 0),Sm (V.ptr 1 0),Sm (V.ptr 2 0),_]) ⟨h0,gq,hw,aq,aq,aq,aq,hlay⟩
 ·obtain ⟨e, k1, k2, k3⟩ := hRB.own hk
  rw[show 1*k=k by omega]at k3
  subst e
  have hq:ba%k<k:=Nat.mod_lt _ (by omega)
  have m1:=Qcp (G:=Qac Pg) (t:=3) (a:=ba) (b:=k) hk
  have k4:=k3.row
  have hcl:=Qbq (F:=Fr) hq
  generalize ba%k=q at*
  by_cases hnil:lr q=[]
  ·rw [k3.nil q hq rfl hnil] at hcl
   refine⟨g,_,_,H,m+3,hB,hid,.inr ⟨_,_,rfl⟩,.inr ⟨_,_,rfl⟩,by omega,?_⟩
   obtain⟨h0,h1,h2⟩:=hB
   clear hid hND hRB hc hls hlr k3
   generalize cellsF k Fr=CF at*
   refine To.of_vc (n:=100) (hs:=[lo_ 95 (.row 28 none [w8 (bw:Nat),w8 (ba:Nat),w8 (bk:Nat),i6 bn]) (w8 (bw:Nat)),nu 96 (2:Nat),yes 122,lo_ 126 (.row 28 none [w8 (bw:Nat),w8 (ba:Nat),w8 (bk:Nat),i6 bn]) (w8 (ba:Nat)),nu 127 (ba:Nat),va 130 (i6 (q:Nat)),pl 131,lo_ 132 (.row 47 (some 1) CF) .nils,toO xE9]) fun nx0 lg G hG=>?_
   exact m_ (p:=let z0:=[w8 ↑bw,w8 ↑ba,w8 ↑bk,i6 bn];An [_,headF (dropF (0+0) z0)=some (w8 ↑bw),_,decide ((↑k:Int)>(0:Int))=true,_,headF (dropF 1 z0)=some (w8 ↑ba),wr .i64 (↑ba:Int)=(↑ba:Int),_,An [(0:Int)≤(↑q:Int),(↑q:Int)<(↑k:Int)],_,headF (dropF (0+q*1) CF)=some V.nils,G Ex.normal xE9 H (m+3) lg,Sm (V.ptr 0 0),Sm (V.ptr 1 0),Sm (V.ptr 2 0),_]) ⟨h0,gq,hw,aq,h0,gq,aq,m1,a_,k4,aq,aq,aq,aq,aq,hlay⟩
  ·obtain ⟨o1, o2, o3, o4, o5⟩ := k3.own q hq rfl hnil
   rw[o1]at hcl
   have hcl:headF (dropF q (cellsF k Fr))=some (.sl (hdr q) 0 (lr q).length none):=hcl
   have o5:gt H (hdr q)=some (.row 3 (some 1) (ints (lr q))):=o5
   have hl0:=List.length_pos_iff.2 hnil
   have hz:bk%(lr q).length<(lr q).length:=Nat.mod_lt _ (by omega)
   have m2:=Qcp (G:=Qac Pg) (t:=3) (a:=bk) (b:=(lr q).length) (by omega)
   have hly:=@Qfp (lr q) (bk%(lr q).length) bn hz
   have hlK:=hlr q hq
   have hold: ∀i,i≠hdr q→gt (pt H (hdr q) (.row 3 (some 1) (ints ((lr q).set (bk%(lr q).length) bn)))) i=gt H i:=fun i hi=>by rw[Qaa,if_neg hi]
   have hset:=NR.set (H':=pt H (hdr q) (.row 3 (some 1) (ints ((lr q).set (bk%(lr q).length) bn)))) (l:=(lr q).set (bk%(lr q).length) bn) k3 hq rfl hnil (by simp) (by rw[Qaa,if_pos rfl]<;>rfl) (hold _ (by omega)) (fun j a b c d=>hold _ (k3.ne hq rfl hnil a b c d))
   refine⟨g,_,_,pt H (hdr q) (.row 3 (some 1) (ints ((lr q).set (bk%(lr q).length) bn))),m+3,hB.frame fun i hi=>hold i (by omega),⟨rtK k (upF lr q ((lr q).set (bk%(lr q).length) bn)),mlN n F ls,Qgo (by omega) (by omega) (fun i hi=>?_) (fun i hi=>by have:=hls i hi;omega),fun Fz ρ hF=>⟨?_,?_⟩⟩,.inr ⟨_,_,rfl⟩,.inr ⟨_,_,rfl⟩,by omega,?_⟩
   ·grind[Qai,Qah]
   ·exact rb_view (lo:=3) (nx:=lo) (F:=Fr) (hd:=hdr) (kd:=fun _=>true) (hR:=hr) ⟨fun e=>absurd e hk,fun _=>⟨rfl,k1,k2,by simp_all⟩⟩ fun i a b=>hF i a (by omega)
   ·refine Qiq (lo := lo) (nx := m + 3) (hd := hd) (kd := fun _ => true) (hR := h + 3) ⟨fun e => by omega, fun _ => ⟨rfl, hh1, hh2, hND.frame (Nat.le_refl _) (hold _ (by omega)) fun i a b c => ?_⟩⟩ hc fun i a b => hF i (by omega) b
    have:=(hND.own i a b c).2.1
    grind
   ·obtain ⟨h0, h1, h2⟩ := hB
    clear hid hND hRB hc hls hlr k3 hset hold o1
    generalize bk%(lr q).length=z at*
    generalize hl2:ints ((lr q).set z bn)=l2 at*
    have hil:=Qal (lr q)
    have hif:=Qad (lr q)
    generalize ints (lr q)=l1 at*
    generalize (lr q).length=ll at*
    generalize hdr q=h9 at*
    generalize cellsF k Fr=CF at*
    refine To.of_vc (n:=100) (hs:=[lo_ 95 (.row 28 none [w8 (bw:Nat),w8 (ba:Nat),w8 (bk:Nat),i6 bn]) (w8 (bw:Nat)),nu 96 (2:Nat),yes 122,lo_ 126 (.row 28 none [w8 (bw:Nat),w8 (ba:Nat),w8 (bk:Nat),i6 bn]) (w8 (ba:Nat)),nu 127 (ba:Nat),va 130 (i6 (q:Nat)),pl 131,lo_ 132 (.row 47 (some 1) CF) (.sl h9 0 ll none),yes 134,lo_ 138 (.row 28 none [w8 (bw:Nat),w8 (ba:Nat),w8 (bk:Nat),i6 bn]) (w8 (ba:Nat)),nu 139 (ba:Nat),va 142 (i6 (q:Nat)),pl 143,lo_ 144 (.row 47 (some 1) CF) (.sl h9 0 ll none),lo_ 147 (.row 28 none [w8 (bw:Nat),w8 (ba:Nat),w8 (bk:Nat),i6 bn]) (w8 (bk:Nat)),nu 148 (bk:Nat),va 151 (i6 (z:Nat)),lo_ 153 (.row 28 none [w8 (bw:Nat),w8 (ba:Nat),w8 (bk:Nat),i6 bn]) (i6 bn),pl 154,so (.row 3 (some 1) l1) l2,toO xE9]) fun nx0 lg G hG=>?_
    exact m_ (p:=let z0:=[w8 ↑bw,w8 ↑ba,w8 ↑bk,i6 bn];let z3:=(↑ba:Int);let z4:=(↑q:Int);let z5:=(0:Int);let z6:=headF (dropF (0+q*1) CF);let z8:=some (V.sl h9 0 ll none);let z9:=(↑k:Int);An [_,headF (dropF (0+0) z0)=some (w8 ↑bw),_,decide (z9>z5)=true,_,headF (dropF 1 z0)=some (w8 ↑ba),wr .i64 z3=z3,_,An [z5≤z4,z4<z9],_,z6=z8,decide ((↑ll:Int)>z5)=true,_,headF (dropF 1 z0)=some (w8 ↑ba),wr .i64 z3=z3,_,An [z5≤z4,z4<z9],_,z6=z8,_,headF (dropF (0+2) z0)=some (w8 ↑bk),wr .i64 (↑bk:Int)=(↑bk:Int),_,_,headF (dropF (0+3) z0)=some (i6 bn),An [z5≤(↑z:Int),(↑z:Int)<(↑ll:Int)],An [_,_],G Ex.normal xE9 (pt H h9 (O.row 3 (some 1) l2)) (m+3) ([h9]++lg),Sm (V.ptr 0 0),Sm (V.ptr 1 0),Sm (V.ptr 2 0),_]) ⟨h0,gq,hw,aq,h0,gq,aq,m1,a_,k4,aq,aq,h0,gq,aq,m1,a_,k4,aq,h0,gq,aq,m2,h0,gq,a_,⟨o5,hly⟩,aq,aq,aq,aq,hlay⟩
theorem sw_6(hb:bw%11=6): ∃g' rv' nv' H' nx',SwP K [w8 (bw:Nat),w8 (ba:Nat),w8 (bk:Nat),i6 bn] rv (.sl (h+3) 0 n none) (h+3) p H (m+3) g' rv' nv' H' nx':=by
 have hw:((bw:Nat):Int).tmod 11=(6:Nat):=by rw[Int.tmod_eq_emod_of_nonneg (by omega)];omega
 have hid:=sw_id hbw hba hbk hB h3 hlo hRB hND hh1 hh2 hc hp hK hkK hnK hlr hls
 have hrow:=hND.row
 have hcell:=Qbq (n:=4*n) (k:=4*p+3) (F:=F) (by omega)
 have hlay:True:=trivial
 have hS:=S9_i (v:=p) (i:=3) (by omega)
 by_cases hnil:ls (4*p+3)=[]
 ·rw [hND.nil _ (by omega) hS hnil] at hcell
  refine⟨g,_,_,H,m+3,hB,hid,Qfe hbw hba hbk hB h3 hlo hRB hND hh1 hh2 hc hp hK hkK hnK hlr hls,.inr ⟨_,_,rfl⟩,by omega,?_⟩
  obtain⟨h0,h1,h2⟩:=hB
  clear hid hND hRB hc hls hlr hS hnil
  generalize cellsF (4*n) F=C1 at*
  refine To.of_vc (n:=100) (hs:=[lo_ 95 (.row 28 none [w8 (bw:Nat),w8 (ba:Nat),w8 (bk:Nat),i6 bn]) (w8 (bw:Nat)),nu 96 (6:Nat),lo_ 193 (.row 86 (some 4) C1) .nils,toO xE9]) fun nx0 lg G hG=>?_
  exact m_ (p:=An [_,headF (dropF (0+0) [w8 ↑bw,w8 ↑ba,w8 ↑bk,i6 bn])=some (w8 ↑bw),_,_,headF (dropF (p*4+3) C1)=some V.nils,G Ex.normal xE9 H (m+3) lg,Sm (V.ptr 0 0),Sm (V.ptr 1 0),Sm (V.ptr 2 0),_]) ⟨h0,gq,hw,hrow,(by (rw[show p*4+3=4*p+3 by omega];first|exact hcell|exact hlay)),aq,aq,aq,aq,hlay⟩
 ·obtain ⟨o1, o2, o3, o4, o5⟩ := hND.own _ (by omega) hS hnil
  rw[o1]at hcell
  have hcell:headF (dropF (4*p+3) (cellsF (4*n) F))=some (.sl (hd (4*p+3)) 0 (ls (4*p+3)).length none):=hcell
  have o5:gt H (hd (4*p+3))=some (.row 3 (some 1) (ints (ls (4*p+3)))):=o5
  have hl0:=List.length_pos_iff.2 hnil
  have hz:bk%(ls (4*p+3)).length<(ls (4*p+3)).length:=Nat.mod_lt _ (by omega)
  have m2:=Qcp (G:=Qac Pg) (t:=3) (a:=bk) (b:=(ls (4*p+3)).length) (by omega)
  have hly:=@Qfp (ls (4*p+3)) (bk%(ls (4*p+3)).length) bn hz
  have hlK:(ls (4*p+3)).length≤K:=(hls p hp).2.2
  have hold: ∀i,i≠hd (4*p+3)→gt (pt H (hd (4*p+3)) (.row 3 (some 1) (ints ((ls (4*p+3)).set (bk%(ls (4*p+3)).length) bn)))) i=gt H i:=fun i hi=>by rw[Qaa,if_neg hi]
  have hset:=NR.set (H':=pt H (hd (4*p+3)) (.row 3 (some 1) (ints ((ls (4*p+3)).set (bk%(ls (4*p+3)).length) bn)))) (l:=(ls (4*p+3)).set (bk%(ls (4*p+3)).length) bn) hND (by omega) hS hnil (by simp) (by rw[Qaa,if_pos rfl]<;>rfl) (hold _ (Ne.symm o4)) (fun j a b c d=>hold _ (hND.ne (by omega) hS hnil a b c d))
  refine⟨g,_,_,pt H (hd (4*p+3)) (.row 3 (some 1) (ints ((ls (4*p+3)).set (bk%(ls (4*p+3)).length) bn))),m+3,hB.frame fun i hi=>hold i (by omega),Qkj hbw hba hbk hB h3 hlo hRB hND hh1 hh2 hc hp hK hkK hnK hlr hls (Nat.le_refl _) (fun i a b=>hold i (by omega)) hset hc (Qkl hbw hba hbk hB h3 hlo hRB hND hh1 hh2 hc hp hK hkK hnK hlr hls (by simp;omega)),Qfe hbw hba hbk hB h3 hlo hRB hND hh1 hh2 hc hp hK hkK hnK hlr hls,.inr ⟨_,_,rfl⟩,by omega,?_⟩
  obtain⟨h0,h1,h2⟩:=hB
  clear hid hND hRB hc hls hlr hset hold o1 hS hnil
  generalize bk%(ls (4*p+3)).length=z at*
  generalize hl2:ints ((ls (4*p+3)).set z bn)=l2 at*
  have hil:=Qal (ls (4*p+3))
  have hif:=Qad (ls (4*p+3))
  generalize ints (ls (4*p+3))=l1 at*
  generalize (ls (4*p+3)).length=ll at*
  generalize hd (4*p+3)=h9 at*
  generalize cellsF (4*n) F=C1 at*
  refine To.of_vc (n:=100) (hs:=[lo_ 95 (.row 28 none [w8 (bw:Nat),w8 (ba:Nat),w8 (bk:Nat),i6 bn]) (w8 (bw:Nat)),nu 96 (6:Nat),lo_ 193 (.row 86 (some 4) C1) (.sl h9 0 ll none),yes 195,lo_ 199 (.row 86 (some 4) C1) (.sl h9 0 ll none),lo_ 201 (.row 28 none [w8 (bw:Nat),w8 (ba:Nat),w8 (bk:Nat),i6 bn]) (w8 (bk:Nat)),nu 202 (bk:Nat),lo_ 206 (.row 86 (some 4) C1) (.sl h9 0 ll none),va 208 (i6 (z:Nat)),lo_ 210 (.row 28 none [w8 (bw:Nat),w8 (ba:Nat),w8 (bk:Nat),i6 bn]) (i6 bn),pl 211,so (.row 3 (some 1) l1) l2,toO xE9]) fun nx0 lg G hG=>?_
  exact m_ (p:=let z0:=[w8 ↑bw,w8 ↑ba,w8 ↑bk,i6 bn];let z1:=headF (dropF (p*4+3) C1);let z3:=some (V.sl h9 0 ll none);An [_,headF (dropF (0+0) z0)=some (w8 ↑bw),_,_,z1=z3,decide ((↑ll:Int)>(0:Int))=true,_,z1=z3,_,headF (dropF (0+2) z0)=some (w8 ↑bk),wr .i64 (↑bk:Int)=(↑bk:Int),_,z1=z3,_,_,headF (dropF (0+3) z0)=some (i6 bn),An [(0:Int)≤(↑z:Int),(↑z:Int)<(↑ll:Int)],An [_,_],G Ex.normal xE9 (pt H h9 (O.row 3 (some 1) l2)) (m+3) ([h9]++lg),Sm (V.ptr 0 0),Sm (V.ptr 1 0),Sm (V.ptr 2 0),_]) ⟨h0,gq,hw,hrow,(by (rw[show p*4+3=4*p+3 by omega];first|exact hcell|exact hlay)),aq,hrow,(by (rw[show p*4+3=4*p+3 by omega];first|exact hcell|exact hlay)),h0,gq,aq,hrow,(by (rw[show p*4+3=4*p+3 by omega];first|exact hcell|exact hlay)),m2,h0,gq,a_,⟨o5,hly⟩,aq,aq,aq,aq,hlay⟩
theorem sw_9(hb:bw%11=9): ∃g' rv' nv' H' nx',SwP K [w8 (bw:Nat),w8 (ba:Nat),w8 (bk:Nat),i6 bn] rv (.sl (h+3) 0 n none) (h+3) p H (m+3) g' rv' nv' H' nx':=by
 have hw:((bw:Nat):Int).tmod 11=(9:Nat):=by rw[Int.tmod_eq_emod_of_nonneg (by omega)];omega
 have hrow:=hND.row
 have hcell:True:=trivial
 have hlay:True:=trivial
 have hlow: ∀i,i≠1→i<lo→gt (pt (pt (pt (pt (pt H (m+3) (.row 3 none [i6 0])) (m+4) (.row 86 none [i6 1,.nils,.nils,.sl (m+3) 0 1 (some 0)])) (h+3) .dead) (m+5) (.row 86 (some 4) (cellsF (4*n) F++[i6 1,.nils,.nils,.sl (m+3) 0 1 (some 0)]))) 1 (cx9 g rv (.sl (m+5) 0 (n+1) none))) i=gt H i:=fun i i1 i2=>by rw[Qaa,if_neg i1,Qaa,if_neg (by omega),Qaa,if_neg (by omega),Qaa,if_neg (by omega),Qaa,if_neg (by omega)]
 have h9:=hND
 refine⟨g,rv,.sl (m+5) 0 (n+1) none,pt (pt (pt (pt (pt H (m+3) (.row 3 none [i6 0])) (m+4) (.row 86 none [i6 1,.nils,.nils,.sl (m+3) 0 1 (some 0)])) (h+3) .dead) (m+5) (.row 86 (some 4) (cellsF (4*n) F++[i6 1,.nils,.nils,.sl (m+3) 0 1 (some 0)]))) 1 (cx9 g rv (.sl (m+5) 0 (n+1) none)),m+6,⟨by rw[hlow 0 (by omega) (by omega)];exact hB.h0,by rw[Qaa,if_pos rfl],by rw[hlow 2 (by omega) (by omega)];exact hB.h2⟩,⟨rtK k lr,mlN (n+1) (up4 F (4*n) (i6 1) .nils .nils (.sl (m+3) 0 1 (some 0))) (up4 ls (4*n) [] [] [] [0]),Qgo (by omega) (by omega) (fun i hi=>by have:=hlr i hi;omega) (fun i hi=>?_),fun Fz ρ hF=>⟨?_,?_⟩⟩,Qfe hbw hba hbk hB h3 hlo hRB hND hh1 hh2 hc hp hK hkK hnK hlr hls,.inr ⟨_,_,rfl⟩,by omega,?_⟩
 ·grind[up4_1,up4_2,up4_3,Qce]
 ·exact rb_view (hRB.frame (Nat.le_refl _) fun i a b=>hlow i (by omega) b) fun i a b=>hF i a (by omega)
 ·refine Qiq (lo := lo) (nx := m + 6) (hd := up4 hd (4 * n) 0 0 0 (m + 3)) (kd := up4 (fun _ => true) (4 * n) true true true false) (hR := m + 5) ⟨fun e => by omega, fun _ => ⟨rfl, by omega, by omega, ?_⟩⟩ (fun v hv => ?_) fun i a b => hF i (by omega) b
  ·rw [show 4 * (n + 1) = 4 * n + 4 by omega]
   refine NR.ext (n:=4*n) (hR:=h+3) (nx:=m+3) (kd:=fun _=>true) (fun _=>h9) (by omega) (by omega) (by grind[Qaa,Qgd]) (fun i hi=>⟨Qce hi,Qce hi,Qce hi,Qce hi,fun hS hne=>?_⟩) (fun i a b hS e=>?_) (fun i a b hS e=>?_) (fun i j a1 a2 a3 a4 s1 s2 n1 n2 e=>?_)
   ·obtain ⟨o1, o2, o3, o4, o5⟩ := h9.own i hi hS hne
    grind[Qaa]
   ·have hi4 : i % 4 ≠ 0 := of_decide_eq_true hS
    rcases(show i=4*n+1∨i=4*n+2∨i=4*n+3 by omega)with rfl|rfl|rfl
    all_goals grind[up4_1,up4_2,up4_3]
   ·have hi4 : i % 4 ≠ 0 := of_decide_eq_true hS
    rcases(show i=4*n+1∨i=4*n+2∨i=4*n+3 by omega)with rfl|rfl|rfl
    ·grind[up4_1]
    ·grind[up4_2]
    ·rw [up4_3, up4_3, up4_3, up4_3]
     exact⟨rfl,by omega,by omega,by omega,by rw[Qaa,if_neg (by omega),Qaa,if_neg (by omega),Qaa,if_neg (by omega),Qaa,if_neg (by omega),Qaa,if_pos rfl];rfl⟩
   grind[up4]
  ·by_cases hvn : v = n
   ·grind[up4_0]
   ·rw[Qce (by omega)];exact hc v (by omega)
 ·obtain ⟨h0, h1, h2⟩ := hB
  clear hND hRB hc hls hlr hlow h9
  have hcl:(cellsF (4*n) F).length=n*4:=by rw[Qa6];omega
  have hsrc:srcV (pt (pt H (m+3) (.row 3 none [i6 0])) (m+4) (.row 86 none [i6 1,.nils,.nils,.sl (m+3) 0 1 (some 0)])) 4 (.sl (m+4) 0 1 (some 0))=some (1,[i6 1,.nils,.nils,.sl (m+3) 0 1 (some 0)]):=by unfold srcV;dsimp only;rw[pt_eq,T.get_put,if_pos rfl];rfl
  generalize cellsF (4*n) F=C1 at*
  refine To.of_vc (n:=100) (hs:=[lo_ 95 (.row 28 none [w8 (bw:Nat),w8 (ba:Nat),w8 (bk:Nat),i6 bn]) (w8 (bw:Nat)),nu 96 (9:Nat),(234,.aop (.row 86 (some 4) C1) 1 [i6 1,.nils,.nils,.sl (m+3) 0 1 (some 0)]),so (cx9 g rv (.sl (h+3) 0 n none)) [i6 g,rv,.sl (m+5) 0 (n+1) none],toO xE9]) fun nx0 lg G hG=>?_
  exact m_ (p:=let z1:=[i6 1,V.nils,V.nils,V.sl (m+3) 0 1 (some 0)];let z3:=[i6 g,rv,V.sl (m+5) 0 (n+1) none];let z5:=V.sl (h+3) 0 n none;let z0:=pt (pt H (m+3) (O.row 3 none [i6 0])) (m+3+1) (O.row 86 none z1);let z2:=pt (pt z0 (h+3) O.dead) (m+3+1+1) (O.row 86 (some 4) (C1++z1));An [_,headF (dropF (0+0) [w8 ↑bw,w8 ↑ba,w8 ↑bk,i6 bn])=some (w8 ↑bw),_,_,An [gt z0 (h+3)=some (O.row 86 (some 4) C1),_,1≤1,n+1≤9223372036854775807,(n+1)*80≤140737488355328,atoms z1=true],An [gt z2 1=some (cx9 g rv z5),layE (0+2) [i6 g,rv,z5] [V.sl (m+3+1+1) 0 (n+1) none]=some z3],G Ex.normal xE9 (pt z2 1 (O.row 34 none z3)) (m+3+1+1+1) ([1]++([h+3]++lg)),Sm (V.ptr 0 0),Sm (V.ptr 1 0),Sm (V.ptr 2 0),_]) ⟨h0,gq,hw,hsrc,⟨gq,hcl,aq,aq,aq,gq⟩,⟨gq,gq⟩,aq,aq,aq,aq,hlay⟩
theorem sw_10(hb:bw%11=10): ∃g' rv' nv' H' nx',SwP K [w8 (bw:Nat),w8 (ba:Nat),w8 (bk:Nat),i6 bn] rv (.sl (h+3) 0 n none) (h+3) p H (m+3) g' rv' nv' H' nx':=by
 have hw:((bw:Nat):Int).tmod 11=(10:Nat):=by rw[Int.tmod_eq_emod_of_nonneg (by omega)];omega
 obtain⟨q,rfl⟩: ∃q,n=q+1:=⟨n-1,by omega⟩
 have hcell:True:=trivial
 have hlay:True:=trivial
 have key: ∀nv',nsh nv'→(∀(Fz:Nat→Prop)(ρ:Nat→Option Nat)(H':T O),(∀i,i≠1→gt H' i=gt H i)→(∀i,3≤i→i<m+3→Fz i)→View H'.get Fz ρ (.im (mlN q F ls).length (mcL (mlN q F ls))) nv')→sliceV (Qac Pg) 32 (.sl (h+3) 0 (q+1) none) none (some (q:Nat)) none=some nv'→∃g' rv' nv' H' nx',SwP K [w8 (bw:Nat),w8 (ba:Nat),w8 (bk:Nat),i6 bn] rv (.sl (h+3) 0 (q+1) none) (h+3) p H (m+3) g' rv' nv' H' nx':=by
  intro nv' hsh hv hsl
  have hold: ∀i,i≠1→gt (pt H 1 (cx9 g rv nv')) i=gt H i:=fun i hi=>by grind[Qaa]
  refine⟨g,rv,nv',pt H 1 (cx9 g rv nv'),m+3,⟨by rw[hold 0 (by omega)];exact hB.h0,by grind[Qaa],by rw[hold 2 (by omega)];exact hB.h2⟩,⟨rtK k lr,mlN q F ls,Qgo (by omega) (by omega) (fun i hi=>by grind) (fun i hi=>by grind),fun Fz ρ hF=>⟨rb_view (hRB.frame (Nat.le_refl _) fun i a b=>hold i (by omega)) fun i a b=>hF i a (by omega),hv Fz ρ _ hold hF⟩⟩,Qfe hbw hba hbk hB h3 hlo hRB hND hh1 hh2 hc hp hK hkK hnK hlr hls,hsh,by omega,?_⟩
  obtain⟨h0,h1,h2⟩:=hB
  clear hND hRB hc hls hlr hold hv
  rcases hsh with rfl|⟨h9,q9,rfl⟩
  ·refine To.of_vc (n := 100) (hs := [lo_ 95 (.row 28 none [w8 (bw : Nat), w8 (ba : Nat), w8 (bk : Nat), i6 bn]) (w8 (bw : Nat)), nu 96 (10 : Nat), nu 100 (q : Nat), va 101 (.im 0 noL), so (cx9 g rv (.sl (h + 3) 0 (q + 1) none)) [i6 g, rv, .im 0 noL], toO xE9]) fun nx0 lg G hG => ?_
   exact m_ (p:=let z2:=V.im 0 noL;An [_,headF (dropF (0+0) [w8 ↑bw,w8 ↑ba,w8 ↑bk,i6 bn])=some (w8 ↑bw),_,wr .i64 ((↑(q+1):Int)-(1:Int))=(↑q:Int),_,An [_,layE (0+2) [i6 g,rv,(V.sl (h+3) 0 (q+1) none)] [z2]=some [i6 g,rv,z2]],G Ex.normal xE9 (pt H 1 (O.row 34 none [i6 g,rv,z2])) (m+3) ([1]++lg),Sm (V.ptr 0 0),Sm (V.ptr 1 0),Sm (V.ptr 2 0),_]) ⟨h0,gq,hw,aq,hsl,⟨h1,gq⟩,aq,aq,aq,aq,hlay⟩
  ·refine To.of_vc (n := 100) (hs := [lo_ 95 (.row 28 none [w8 (bw : Nat), w8 (ba : Nat), w8 (bk : Nat), i6 bn]) (w8 (bw : Nat)), nu 96 (10 : Nat), nu 100 (q : Nat), va 101 (.sl h9 0 q9 none), so (cx9 g rv (.sl (h + 3) 0 (q + 1) none)) [i6 g, rv, .sl h9 0 q9 none], toO xE9]) fun nx0 lg G hG => ?_
   exact m_ (p:=let z1:=V.sl h9 0 q9 none;An [_,headF (dropF (0+0) [w8 ↑bw,w8 ↑ba,w8 ↑bk,i6 bn])=some (w8 ↑bw),_,wr .i64 ((↑(q+1):Int)-(1:Int))=(↑q:Int),_,An [_,layE (0+2) [i6 g,rv,(V.sl (h+3) 0 (q+1) none)] [z1]=some [i6 g,rv,z1]],G Ex.normal xE9 (pt H 1 (O.row 34 none [i6 g,rv,z1])) (m+3) ([1]++lg),Sm (V.ptr 0 0),Sm (V.ptr 1 0),Sm (V.ptr 2 0),_]) ⟨h0,gq,hw,aq,hsl,⟨h1,gq⟩,aq,aq,aq,aq,hlay⟩
 cases q with
 |zero=>exact key (.im 0 noL) (.inl rfl) (fun Fz ρ H' _ _=>.inl rfl) (by kernel_rfl)
 | succ q =>
  refine key (.sl (h+3) 0 (q+1) none) (.inr ⟨_,_,rfl⟩) (fun Fz ρ H' ho hF=>?_) ?_
  ·exact nd_less (nx:=m+3) hh1 hh2 (hND.frame (Nat.le_refl _) (ho _ (by omega)) fun i a b c=>ho _ (by have:=(hND.own i a b c).2.1;omega)) hc fun i a b=>hF i (by omega) b
  ·have e : sliceV (Qac Pg) 32 (.sl (h + 3) 0 (q + 1 + 1) none) none (some ((q + 1 : Nat) : Int)) none = (if 0 ≤ (0 : Int) ∧ 0 ≤ ((q + 1 : Nat) : Int) ∧ ((q + 1 : Nat) : Int) ≤ ((q + 1 + 1 : Nat) : Int) + ((0 : Nat) : Int) ∧ ((q + 1 + 1 : Nat) : Int) + ((0 : Nat) : Int) ≤ ((q + 1 + 1 : Nat) : Int) + ((0 : Nat) : Int) ∧ (false = true → true = true) then (if (0 : Int) = ((q + 1 : Nat) : Int) then some (.im 0 []) else if (0 : Int) = 0 ∨ 4 ≠ 0 then some (.sl (h + 3) (0 + (0 : Int).toNat * 4) (((q + 1 : Nat) : Int).toNat - (0 : Int).toNat) none) else none) else none) := by kernel_rfl
   grind
end
mutual
theorem View.mono{H H':Nat→Option O}{F F':Nat→Prop}(hF: ∀g,F g→F' g∧H' g=H g): ∀{ρ:Nat→Option Nat}(x y:V),View H F ρ x y→View H' F' ρ x y
 | _,.bool _,_,h| _,.int _ _,_,h| _,.str _,_,h| _,.nilp,_,h| _,.nilf,_,h| _,.nili,_,h| _,.nils,_,h| _,.nilm,_,h=>h
 | _,.ptr _ _,_,h| _,.sl _ _ _ _,_,h| _,.mp _,_,h| _,.yld _,_,h=>h
 | _,.im n l,y,h=>by
  rcases h with h|h|⟨g,off,room,t,sp,c,e,h1,h2,h3⟩
  ·exact .inl h
  ·exact .inr (.inl h)
  ·exact .inr (.inr ⟨g,off,room,t,sp,c,e,(hF g h1).1,by simp_all,ViewP.mono hF l _ h3⟩)
 | _,.imp l,y,h=>by
  rcases h with h|⟨g,off,t,sp,c,e,h1,h2,h3⟩
  ·exact .inl h
  ·exact .inr ⟨g,off,t,sp,c,e,(hF g h1).1,by simp_all,ViewP.mono hF l _ h3⟩
 | _,.fn f l,_,⟨l',e,h⟩=>⟨l',e,ViewL.mono hF l l' h⟩
 | _,.mfn f l,_,⟨l',e,h⟩=>⟨l',e,ViewL.mono hF l l' h⟩
 | _,.agg l,_,⟨l',e,h⟩=>⟨l',e,ViewL.mono hF l l' h⟩
 | _,.tup l,_,⟨l',e,h⟩=>⟨l',e,ViewL.mono hF l l' h⟩
 | _,.ifc t x,_,⟨x',e,h⟩=>⟨x',e,View.mono hF x x' h⟩
theorem ViewL.mono{H H':Nat→Option O}{F F':Nat→Prop}(hF: ∀g,F g→F' g∧H' g=H g): ∀{ρ:Nat→Option Nat}(l m:List V),ViewL H F ρ l m→ViewL H' F' ρ l m
 | _,[],_,h=>h
 | _,x::xs,_,⟨y,ys,e,h1,h2⟩=>⟨y,ys,e,View.mono hF x y h1,ViewL.mono hF xs ys h2⟩
theorem ViewP.mono{H H':Nat→Option O}{F F':Nat→Prop}(hF: ∀g,F g→F' g∧H' g=H g): ∀(l m:List V),ViewP H F l m→ViewP H' F' l m
 |[],_,_=>trivial
 |x::xs,_,⟨y,ys,e,h1,h2⟩=>⟨y,ys,e,View.mono hF x y h1,ViewP.mono hF xs ys h2⟩
end
theorem gc_row9{H:T O}{nx:Nat}{lg:List Nat}{k s hq:Nat}(hs:s<300∧s≠0)(hn:hq<nx){l:List V}{t:Nat}(h1:gt H hq=some (.row t none l)){l':List V}(hv:ViewL H.get (Fr 0 [hq] lg) (rho 0 [hq]) l' l):Gc 0 [hq] (mkSo g0 k [(s,.ptr hq 0)] H nx lg) (mkSt g0 k {sl:=[(s,.ptr 0 0)],os:=[.row t none l']}):=by
 rw[Qay]at h1
 refine⟨rfl,fun g hg=>?_,by simp,rfl,rfl,fun i x hx=>?_,fun h o ho hlive=>?_,fun h _ hlt=>absurd hlt (Nat.not_lt_zero _)⟩
 ·refine ⟨Nat.zero_le _, ?_⟩
  show g<nx
  simp_all
 ·have c4 : gt (putL (blank k) [(s, V.ptr hq 0)]) s = some (.ptr hq 0) := by
   show gt (pt (blank k) s (V.ptr hq 0)) s=_
   rw[Qay,pt_eq,T.get_put,if_pos rfl]
  rw[Qay]at c4
  rcases putL_get _ _ _ _ hx with hmem|hmem
  ·simp only [List.mem_cons, List.not_mem_nil, or_false] at hmem
   cases hmem
   exact⟨_,c4,hq,rfl,rfl⟩
  grind[Qbl]
 ·rcases ofOs_get _ _ _ _ _ ho with ⟨_, hm⟩ | hm
  ·rw [Nat.sub_zero] at hm
   rcases h with _|h
   ·cases hm
    exact⟨hq,_,rfl,h1,_,rfl,hv⟩
   ·simp at hm
  ·simp at hm
theorem Qqe{f:Nat}{x y v:V}{k:Nat}{c:Code}{e:Ex}{sl:List (Nat×V)}{H:T O}{nx:Nat}(he:e= .normal∨e= .ret)(h:To k c [(0,x),(1,y)] .e 0 e sl H nx){r:List Nat}{S:SL}(hk:Nat.ble 2 k=true)(hv:hfB v=true)(hg: ∀lg,Gc 0 r (mkSo g0 k sl H nx lg) (mkSt g0 k S))(hr:Qnx k c S v (vE.code f)):FnOk Pg g0 f [x,y] v:=by
 unfold Qnx at hr
 split at hr
 ·rename_i fi hfi
  obtain⟨h1,h2,h3,h4⟩:=hr
  subst h1 h2
  have hret:retV vE.G (mkSt g0 fi.ntmps S).tm (mkSt g0 fi.ntmps S).H fi.res=some v:=by
   unfold retP at h4
   split at h4
   ·simp_all
   ·exact h4.elim
  refine FnOk.of_sat hfi hk hv (Sat.gc_post ?_)
  have h0:=h 0 []
  have e0:putAll (blank fi.ntmps) 0 [x,y]=putL (blank fi.ntmps) [(0,x),(1,y)]:=by rw[←Qbh];rfl
  rw[e0]
  refine Sat.mono h0 ?_
  grind
 ·exact hr.elim
section
variable {bc:List V} {g:Int} {r0 n0:V} {H:T O} {nx:Nat}
theorem bd_0{bw ba bk:Nat}{bn:Int}{nR:Nat}{RR:List V}{nN:Nat}{NN:List V}(hR:HfL RR)(hN:HfL NN):To 237 (at' 7 [0]) [(0,.agg [w8 (bw:Nat),w8 (ba:Nat),w8 (bk:Nat),i6 bn]),(1,.agg [i6 g,.im nR RR,.im nN NN])] .e 0 .normal [(2,.ptr 0 0),(3,.ptr 1 0),(4,.ptr 2 0)] (ofOs .e 0 [.row 28 none [w8 (bw:Nat),w8 (ba:Nat),w8 (bk:Nat),i6 bn],cx9 g (.im nR RR) (.im nN NN),cx9 0 .nils .nils]) 3:=by
 refine To.of_vc (n:=100) (hs:=[toO [(2,.ptr 0 0),(3,.ptr 1 0),(4,.ptr 2 0)]]) fun nx0 lg G hG=>?_
 exact m_ (p:=An [G Ex.normal [(2,V.ptr 0 0),(3,V.ptr 1 0),(4,V.ptr 2 0)] (pt (pt (pt T.e 0 (O.row 28 none [w8 ↑bw,w8 ↑ba,w8 ↑bk,i6 bn])) 1 (O.row 34 none [i6 g,V.im nR RR,V.im nN NN])) 2 (O.row 34 none [i6 0,V.nils,V.nils])) 3 lg,Sm (V.ptr 0 0),Sm (V.ptr 1 0),Sm (V.ptr 2 0),_]) ⟨hG _,aq,aq,aq,tq⟩
theorem bd_1:To 237 (at' 7 [1,0]) [(2,.ptr 0 0),(3,.ptr 1 0),(4,.ptr 2 0)] H nx .normal (tX9 .nils) H nx:=by
 refine To.of_vc (n:=100) (hs:=[toO (tX9 .nils)]) fun nx0 lg G hG=>?_
 exact m_ (p:=An [G Ex.normal (tX9 V.nils) H nx lg,Sm (V.ptr 0 0),Sm (V.ptr 1 0),Sm (V.ptr 2 0),Sm V.nils,_]) ⟨aq,aq,aq,aq,aq,tq⟩
theorem bd_3{rv:V}:To 237 (at' 7 [1,1,1,0]) (tX9 rv) H nx .normal (uX9 rv .nils) H nx:=by
 refine To.of_vc (n:=100) (hs:=[toO (uX9 rv .nils)]) fun nx0 lg G hG=>?_
 exact m_ (p:=An [G Ex.normal (uX9 rv V.nils) H nx lg,Sm (V.ptr 0 0),Sm (V.ptr 1 0),Sm (V.ptr 2 0),rv=rv,Sm V.nils,_]) ⟨aq,aq,aq,aq,aq,aq,tq⟩
theorem bd_5{rv nv:V}(h1:gt H 1=some (cx9 g r0 n0))(hrv:rsh rv):To 237 (at' 7 [1,1,1,1,1,0]) (uX9 rv nv) H nx .normal (uX9 rv nv) (pt H 1 (cx9 g rv n0)) nx:=by
 rcases hrv with rfl|⟨h,q,rfl⟩
 ·refine To.of_vc (n := 100) (hs := [so (cx9 g r0 n0) [i6 g, .nils, n0], toO (uX9 .nils nv)]) fun nx0 lg G hG => ?_
  exact m_ (p:=An [An [_,layE 1 [i6 g,r0,n0] [V.nils]=some [i6 g,V.nils,n0]],G Ex.normal (uX9 V.nils nv) (pt H 1 (O.row 34 none [i6 g,V.nils,n0])) nx ([1]++lg),Sm (V.ptr 0 0),Sm (V.ptr 1 0),Sm (V.ptr 2 0),Sm V.nils,nv=nv,_]) ⟨⟨h1,gq⟩,aq,aq,aq,aq,aq,aq,tq⟩
 ·refine To.of_vc (n := 100) (hs := [so (cx9 g r0 n0) [i6 g, .sl h 0 q none, n0], toO (uX9 (.sl h 0 q none) nv)]) fun nx0 lg G hG => ?_
  exact m_ (p:=let z0:=V.sl h 0 q none;An [An [_,layE 1 [i6 g,r0,n0] [z0]=some [i6 g,z0,n0]],G Ex.normal (uX9 z0 nv) (pt H 1 (O.row 34 none [i6 g,z0,n0])) nx ([1]++lg),Sm (V.ptr 0 0),Sm (V.ptr 1 0),Sm (V.ptr 2 0),z0=z0,nv=nv,_]) ⟨⟨h1,gq⟩,aq,aq,aq,aq,aq,aq,tq⟩
theorem bd_6{rv nv:V}(h1:gt H 1=some (cx9 g r0 n0))(hnv:rsh nv):To 237 (at' 7 [1,1,1,1,1,1,0]) (uX9 rv nv) H nx .normal (uX9 rv nv) (pt H 1 (cx9 g r0 nv)) nx:=by
 rcases hnv with rfl|⟨h,q,rfl⟩
 ·refine To.of_vc (n := 100) (hs := [so (cx9 g r0 n0) [i6 g, r0, .nils], toO (uX9 rv .nils)]) fun nx0 lg G hG => ?_
  exact m_ (p:=An [An [_,layE (0+2) [i6 g,r0,n0] [V.nils]=some [i6 g,r0,V.nils]],G Ex.normal (uX9 rv V.nils) (pt H 1 (O.row 34 none [i6 g,r0,V.nils])) nx ([1]++lg),Sm (V.ptr 0 0),Sm (V.ptr 1 0),Sm (V.ptr 2 0),rv=rv,Sm V.nils,_]) ⟨⟨h1,gq⟩,aq,aq,aq,aq,aq,aq,tq⟩
 ·refine To.of_vc (n := 100) (hs := [so (cx9 g r0 n0) [i6 g, r0, .sl h 0 q none], toO (uX9 rv (.sl h 0 q none))]) fun nx0 lg G hG => ?_
  exact m_ (p:=let z0:=V.sl h 0 q none;An [An [_,layE (0+2) [i6 g,r0,n0] [z0]=some [i6 g,r0,z0]],G Ex.normal (uX9 rv z0) (pt H 1 (O.row 34 none [i6 g,r0,z0])) nx ([1]++lg),Sm (V.ptr 0 0),Sm (V.ptr 1 0),Sm (V.ptr 2 0),rv=rv,z0=z0,_]) ⟨⟨h1,gq⟩,aq,aq,aq,aq,aq,aq,tq⟩
theorem bd_7{rv:V}(h1:gt H 1=some (cx9 g rv .nils))(h2:gt H 2=some (cx9 0 .nils .nils))(hrv:rsh rv):To 237 (at' 7 [1,1,1,1,1,1,1,0]) (uX9 rv .nils) H nx .ret [(4,.ptr 2 0)] (pt H 2 (cx9 g rv .nils)) nx:=by
 rcases hrv with rfl|⟨h,q,rfl⟩
 ·refine To.of_vc (n := 100) (hs := [lo_ 85 (cx9 g .nils .nils) (.agg [i6 g, .nils, .nils]), so (cx9 0 .nils .nils) [i6 g, .nils, .nils], toO [(4, .ptr 2 0)]]) fun nx0 lg G hG => ?_
  exact m_ (p:=let z0:=[i6 g,V.nils,V.nils];An [_,takeE 3 z0=some z0,An [_,layE 0 [i6 0,V.nils,V.nils] z0=some z0],G Ex.ret [(4,V.ptr 2 0)] (pt H 2 (O.row 34 none z0)) nx ([2]++lg),Sm (V.ptr 2 0),_]) ⟨h1,gq,⟨h2,gq⟩,aq,aq,tq⟩
 ·refine To.of_vc (n := 100) (hs := [lo_ 85 (cx9 g (.sl h 0 q none) .nils) (.agg [i6 g, .sl h 0 q none, .nils]), so (cx9 0 .nils .nils) [i6 g, .sl h 0 q none, .nils], toO [(4, .ptr 2 0)]]) fun nx0 lg G hG => ?_
  exact m_ (p:=let z0:=[i6 g,V.sl h 0 q none,V.nils];An [_,takeE 3 z0=some z0,An [_,layE 0 [i6 0,V.nils,V.nils] z0=some z0],G Ex.ret [(4,V.ptr 2 0)] (pt H 2 (O.row 34 none z0)) nx ([2]++lg),Sm (V.ptr 2 0),_]) ⟨h1,gq,⟨h2,gq⟩,aq,aq,tq⟩
theorem bd_7s{rv:V}{h q:Nat}(hq:q≠0):To 237 (at' 7 [1,1,1,1,1,1,1,0]) (uX9 rv (.sl h 0 q none)) H nx .normal (uX9 rv (.sl h 0 q none)) H nx:=by
 refine To.of_vc (n:=100) (hs:=[no 84,toO (uX9 rv (.sl h 0 q none))]) fun nx0 lg G hG=>?_
 exact m_ (p:=let z0:=V.sl h 0 q none;An [((↑q:Int)==(0:Int))=false,G Ex.normal (uX9 rv z0) H nx lg,Sm (V.ptr 0 0),Sm (V.ptr 1 0),Sm (V.ptr 2 0),rv=rv,z0=z0,_]) ⟨aq,aq,aq,aq,aq,aq,aq,tq⟩
theorem bd_8{rv:V}{h q bw ba bk:Nat}{bn:Int}(hba:ba<256)(hq:q≠0)(hq6:q≤1000000)(h0:gt H 0=some (.row 28 none [w8 (bw:Nat),w8 (ba:Nat),w8 (bk:Nat),i6 bn])):To 237 (at' 7 [1,1,1,1,1,1,1,1,0]) (uX9 rv (.sl h 0 q none)) H nx .normal (xS9 rv (.sl h 0 q none) h (ba%q)) H nx:=by
 have m1:=Qcp (G:=Qac Pg) (t:=3) (a:=ba) (b:=q) hq
 have hlt:ba%q<q:=Nat.mod_lt _ (by omega)
 generalize ba%q=p at*
 refine To.of_vc (n:=100) (hs:=[lo_ 88 (.row 28 none [w8 (bw:Nat),w8 (ba:Nat),w8 (bk:Nat),i6 bn]) (w8 (ba:Nat)),nu 89 (ba:Nat),va 92 (i6 (p:Nat)),pl 93,toO (xS9 rv (.sl h 0 q none) h p)]) fun nx0 lg G hG=>?_
 exact m_ (p:=let z1:=V.sl h 0 q none;An [_,headF (dropF 1 [w8 ↑bw,w8 ↑ba,w8 ↑bk,i6 bn])=some (w8 ↑ba),wr .i64 (↑ba:Int)=(↑ba:Int),_,An [(0:Int)≤(↑p:Int),(↑p:Int)<(↑q:Int)],G Ex.normal (xS9 rv z1 h p) H nx lg,Sm (V.ptr 0 0),Sm (V.ptr 1 0),Sm (V.ptr 2 0),rv=rv,z1=z1,V.ptr h (0+p*4)=V.ptr h (p*4),_]) ⟨h0,gq,aq,m1,a_,aq,aq,aq,aq,aq,aq,aq,tq⟩
theorem bd_9{rv nv:V}(h1:gt H 1=some (cx9 g rv nv))(h2:gt H 2=some (cx9 0 .nils .nils))(hrv:rsh rv)(hnv:nsh nv):To 237 (at' 7 [1,1,1,1,1,1,1,1,1,1]) xE9 H nx .ret [(4,.ptr 2 0)] (pt H 2 (cx9 g rv nv)) nx:=by
 rcases hrv with rfl|⟨h,q,rfl⟩<;>rcases hnv with rfl|⟨h',q',rfl⟩
 ·refine To.of_vc (n := 100) (hs := [lo_ 236 (cx9 g .nils (.im 0 noL)) (.agg [i6 g, .nils, .im 0 noL]), so (cx9 0 .nils .nils) [i6 g, .nils, .im 0 noL], toO [(4, .ptr 2 0)]]) fun nx0 lg G hG => ?_
  exact m_ (p:=let z0:=[i6 g,V.nils,V.im 0 noL];An [_,takeE 3 z0=some z0,An [_,layE 0 [i6 0,V.nils,V.nils] z0=some z0],G Ex.ret [(4,V.ptr 2 0)] (pt H 2 (O.row 34 none z0)) nx ([2]++lg),Sm (V.ptr 2 0),_]) ⟨h1,gq,⟨h2,gq⟩,aq,aq,tq⟩
 ·refine To.of_vc (n := 100) (hs := [lo_ 236 (cx9 g .nils (.sl h' 0 q' none)) (.agg [i6 g, .nils, .sl h' 0 q' none]), so (cx9 0 .nils .nils) [i6 g, .nils, .sl h' 0 q' none], toO [(4, .ptr 2 0)]]) fun nx0 lg G hG => ?_
  exact m_ (p:=let z0:=[i6 g,V.nils,V.sl h' 0 q' none];An [_,takeE 3 z0=some z0,An [_,layE 0 [i6 0,V.nils,V.nils] z0=some z0],G Ex.ret [(4,V.ptr 2 0)] (pt H 2 (O.row 34 none z0)) nx ([2]++lg),Sm (V.ptr 2 0),_]) ⟨h1,gq,⟨h2,gq⟩,aq,aq,tq⟩
 ·refine To.of_vc (n := 100) (hs := [lo_ 236 (cx9 g (.sl h 0 q none) (.im 0 noL)) (.agg [i6 g, .sl h 0 q none, .im 0 noL]), so (cx9 0 .nils .nils) [i6 g, .sl h 0 q none, .im 0 noL], toO [(4, .ptr 2 0)]]) fun nx0 lg G hG => ?_
  exact m_ (p:=let z0:=[i6 g,V.sl h 0 q none,V.im 0 noL];An [_,takeE 3 z0=some z0,An [_,layE 0 [i6 0,V.nils,V.nils] z0=some z0],G Ex.ret [(4,V.ptr 2 0)] (pt H 2 (O.row 34 none z0)) nx ([2]++lg),Sm (V.ptr 2 0),_]) ⟨h1,gq,⟨h2,gq⟩,aq,aq,tq⟩
 ·refine To.of_vc (n := 100) (hs := [lo_ 236 (cx9 g (.sl h 0 q none) (.sl h' 0 q' none)) (.agg [i6 g, .sl h 0 q none, .sl h' 0 q' none]), so (cx9 0 .nils .nils) [i6 g, .sl h 0 q none, .sl h' 0 q' none], toO [(4, .ptr 2 0)]]) fun nx0 lg G hG => ?_
  exact m_ (p:=let z0:=[i6 g,V.sl h 0 q none,V.sl h' 0 q' none];An [_,takeE 3 z0=some z0,An [_,layE 0 [i6 0,V.nils,V.nils] z0=some z0],G Ex.ret [(4,V.ptr 2 0)] (pt H 2 (O.row 34 none z0)) nx ([2]++lg),Sm (V.ptr 2 0),_]) ⟨h1,gq,⟨h2,gq⟩,aq,aq,tq⟩
end
theorem LenB.ok{K:Nat}(h:K≤1000000){R:List (List Int)}{N:List Mc}(hl:LenB K R N):Qbo R N:=⟨fun L hL=>Nat.le_trans (hl.2.2.1 L hL) h,fun x hx=>by have:=hl.2.2.2 x hx;omega⟩
theorem bd_fin{bw ba bk:Nat}{bn g g':Int}{R:List (List Int)}{N:List Mc}{K:Nat}{H:T O}{nx:Nat}{rv nv:V}(hn:3≤nx)(hM:MdV K H nx rv nv)(h:To 237 (at' 7 []) [(0,.agg [w8 (bw:Nat),w8 (ba:Nat),w8 (bk:Nat),i6 bn]),(1,mdV g R N)] .e 0 .ret [(4,.ptr 2 0)] (pt H 2 (cx9 g' rv nv)) nx): ∃R' N',LenB K R' N'∧FnOk Pg g0 7 [.agg [w8 (bw:Nat),w8 (ba:Nat),w8 (bk:Nat),i6 bn],mdV g R N] (mdV g' R' N'):=by
 obtain⟨R',N',hl,hv⟩:=hM
 refine⟨R',N',hl,?_⟩
 refine Qqe (.inr rfl) h (r:=[2]) (S:={sl:=[(4,.ptr 0 0)],os:=[.row 34 none [i6 g',.im R'.length (rtL R'),.im N'.length (mcL N')]]}) (by decide) rfl (fun lg=>gc_row9 (by decide) (by omega) (by rw[Qaa,if_pos rfl]) ?_) ?_
 ·obtain ⟨v1, v2⟩ := hv (fun i => 3 ≤ i ∧ i < nx) (rho 0 [2]) fun i a b => ⟨a, b⟩
  have hF: ∀i,(3≤i∧i<nx)→Fr 0 [2] lg i∧(pt H 2 (cx9 g' rv nv)).get i=H.get i:=fun i hi=>⟨⟨Nat.zero_le _,by simp;omega,fun _ _=>Nat.zero_le _⟩,by rw[←Qay,←Qay,Qaa,if_neg (by omega)]⟩
  exact⟨_,_,rfl,rfl,_,_,rfl,View.mono hF _ _ v1,_,_,rfl,View.mono hF _ _ v2,rfl⟩
 ·show Qnx 237 (at' 7 []) _ (.agg [i6 g', .im R'.length (rtL R'), .im N'.length (mcL N')]) _
  generalize rtL R'=RR at*
  generalize mcL N'=NC at*
  refine Eq.mp (by kernel_rfl:(237=237∧(at' 7 [])=(at' 7 [])∧true=true∧V.agg [i6 g',.im R'.length RR,.im N'.length NC]= .agg [i6 g',.im R'.length RR,.im N'.length NC])=_) ⟨rfl,rfl,rfl,rfl⟩
theorem bend_ex{bw ba bk:Nat}{bn:Int}(hbw:bw<256)(hba:ba<256)(hbk:bk<256)(g:Int)(R:List (List Int))(N:List Mc){K:Nat}(hK:K≤900000)(hl:LenB K R N): ∃g' R' N',LenB (K+1) R' N'∧FnOk Pg g0 7 [.agg [w8 (bw:Nat),w8 (ba:Nat),w8 (bk:Nat),i6 bn],mdV g R N] (mdV g' R' N'):=by
 obtain⟨l1,l2,l3,l4⟩:=hl
 have t0:=bd_0 (bw:=bw) (ba:=ba) (bk:=bk) (bn:=bn) (g:=g) (nR:=R.length) (nN:=N.length) (Qar R) (Qav N)
 have t1:=bd_1 (H:=ofOs .e 0 [.row 28 none [w8 (bw:Nat),w8 (ba:Nat),w8 (bk:Nat),i6 bn],cx9 g (.im R.length (rtL R)) (.im N.length (mcL N)),cx9 0 .nils .nils]) (nx:=3)
 obtain⟨rv,H1,m1,Fr_,lr,hdr,hr,hB1,hRB,hlr,t2⟩:=rt_loop (bc:=[w8 (bw:Nat),w8 (ba:Nat),w8 (bk:Nat),i6 bn]) (g:=g) (R:=R) (n0:=.im N.length (mcL N)) (H:=ofOs .e 0 [.row 28 none [w8 (bw:Nat),w8 (ba:Nat),w8 (bk:Nat),i6 bn],cx9 g (.im R.length (rtL R)) (.im N.length (mcL N)),cx9 0 .nils .nils]) ⟨by kernel_rfl,by kernel_rfl,by kernel_rfl⟩ (fun L hL=>by have:=l3 L hL;omega) (by omega)
 have t3:=bd_3 (H:=H1) (nx:=m1+3) (rv:=rv)
 obtain⟨nv,H2,m2,F,ls,hd,hN,hB2,hm,hold,hND,hls,t4⟩:=nd_loop (rv:=rv) hB1 (fun x hx=>by grind) (by omega)
 have hRB2:RB H2 3 (m1+3) rv R.length Fr_ lr hdr (fun _=>true) hr:=hRB.frame (Nat.le_refl _) fun i a b=>hold i b
 have hrs:rsh rv:=by
  by_cases hk:R.length=0
  ·exact .inl (hRB.nil hk)
  ·exact .inr ⟨_,_,(hRB.own hk).1⟩
 have hns:rsh nv:=by
  by_cases hk:N.length=0
  ·exact .inl (hND.nil hk)
  ·exact .inr ⟨_,_,(hND.own hk).1⟩
 have t5:=bd_5 (nx:=m2+3) (nv:=nv) hB2.h1 hrs
 have t6:=bd_6 (H:=pt H2 1 (cx9 g rv (.im N.length (mcL N)))) (nx:=m2+3) (rv:=rv) (nv:=nv) (by rw[Qaa,if_pos rfl]) hns
 rw[pt_pt]at t6
 have pre: ∀e sl H' nx',To 237 (at' 7 [1,1,1,1,1,1,1]) (uX9 rv nv) (pt H2 1 (cx9 g rv nv)) (m2+3) e sl H' nx'→To 237 (at' 7 []) [(0,.agg [w8 (bw:Nat),w8 (ba:Nat),w8 (bk:Nat),i6 bn]),(1,mdV g R N)] .e 0 e sl H' nx':=fun e sl H' nx' h=>
  To.seq (b:=(at' 7 [1])) (by kernel_rfl) t0 (To.seq (b:=(at' 7 [1,1])) (by kernel_rfl) t1 (To.seq (b:=(at' 7 [1,1,1])) (by kernel_rfl) t2 (To.seq (b:=(at' 7 [1,1,1,1])) (by kernel_rfl) t3 (To.seq (b:=(at' 7 [1,1,1,1,1])) (by kernel_rfl) t4 (To.seq (b:=(at' 7 [1,1,1,1,1,1])) (by kernel_rfl) t5 (To.seq (b:=(at' 7 [1,1,1,1,1,1,1])) (by kernel_rfl) t6 h))))))
 have h3o: ∀i,i≠1→gt (pt H2 1 (cx9 g rv nv)) i=gt H2 i:=fun i hi=>by grind[Qaa]
 have hB3:BB [w8 (bw:Nat),w8 (ba:Nat),w8 (bk:Nat),i6 bn] g rv nv (pt H2 1 (cx9 g rv nv)):=⟨by rw[h3o 0 (by omega)];exact hB2.h0,by grind[Qaa],by rw[h3o 2 (by omega)];exact hB2.h2⟩
 have hRB3:RB (pt H2 1 (cx9 g rv nv)) 3 (m1+3) rv R.length Fr_ lr hdr (fun _=>true) hr:=hRB2.frame (Nat.le_refl _) fun i a b=>h3o i (by omega)
 have hND3:ND (pt H2 1 (cx9 g rv nv)) (m1+3) (m2+3) nv N.length F ls hd (fun _=>true) hN:=hND.frame (Nat.le_refl _) fun i a b=>h3o i (by omega)
 have hlr2: ∀i,i<R.length→(lr i).length≤K:=fun i hi=>by
  simp_all
 have hmem: ∀i,i<N.length→N.getD i mc0∈N:=fun i hi=>by simp_all
 have hls2: ∀i,i<N.length→(ls (4*i+1)).length≤K∧(ls (4*i+2)).length≤K∧(ls (4*i+3)).length≤K:=fun i hi=>by
  obtain⟨_,a,b,c⟩:=hls i hi
  simp_all
 have hc: ∀v,v<N.length→∃c:Int,F (4*v)=i6 c:=fun v hv=>⟨_,(hls v hv).1⟩
 clear t0 t1 t2 t3 t4 t5 t6
 by_cases h0:N.length=0
 ·have e := hND3.nil h0
  subst e
  have hMd:MdV (K+1) (pt H2 1 (cx9 g rv .nils)) (m2+3) rv .nils:=⟨rtK R.length lr,[],⟨by rw[Qln];omega,Nat.zero_le _,fun L hL=>by
   obtain⟨i,hi,rfl⟩:=List.mem_map.1 hL
   grind,fun x hx=>by cases hx⟩,fun Fz ρ hF=>⟨rb_view hRB3 fun i a b=>hF i a (by omega),.inr (.inl ⟨rfl,rfl⟩)⟩⟩
  obtain⟨R',N',q1,q2⟩:=bd_fin (by omega) hMd (pre _ _ _ _ (To.seqX (a:=(at' 7 [1,1,1,1,1,1,1,0])) (b:=(at' 7 [1,1,1,1,1,1,1,1])) (by kernel_rfl) (fun h=>by cases h) (bd_7 hB3.h1 hB3.h2 hrs)))
  grind
 ·obtain ⟨e, k1, k2, k3⟩ := hND3.own h0
  subst e
  obtain⟨h,rfl⟩: ∃h,hN=h+3:=⟨hN-3,by omega⟩
  have hp:ba%N.length<N.length:=Nat.mod_lt _ (by omega)
  have sw: ∃g' rv' nv' H' nx',SwP K [w8 (bw:Nat),w8 (ba:Nat),w8 (bk:Nat),i6 bn] rv (.sl (h+3) 0 N.length none) (h+3) (ba%N.length) (pt H2 1 (cx9 g rv (.sl (h+3) 0 N.length none))) (m2+3) g' rv' nv' H' nx':=by
   have a1:3≤m1+3:=by omega
   have a2:m1+3≤m2+3:=by omega
   rcases(show bw%11=0∨bw%11=1∨bw%11=2∨bw%11=3∨bw%11=4∨bw%11=5∨bw%11=6∨bw%11=7∨bw%11=8∨bw%11=9∨bw%11=10 by omega)with b|b|b|b|b|b|b|b|b|b|b
   ·exact sw_0 hbw hba hbk hB3 a1 a2 hRB3 k3 k1 k2 hc hp hK l1 l2 hlr2 hls2 b
   ·exact sw_1 hbw hba hbk hB3 a1 a2 hRB3 k3 k1 k2 hc hp hK l1 l2 hlr2 hls2 b
   ·exact sw_2 hbw hba hbk hB3 a1 a2 hRB3 k3 k1 k2 hc hp hK l1 l2 hlr2 hls2 b
   ·exact sw_3 hbw hba hbk hB3 a1 a2 hRB3 k3 k1 k2 hc hp hK l1 l2 hlr2 hls2 b
   ·exact sw_4 hbw hba hbk hB3 a1 a2 hRB3 k3 k1 k2 hc hp hK l1 l2 hlr2 hls2 b
   ·exact sw_5 hbw hba hbk hB3 a1 a2 hRB3 k3 k1 k2 hc hp hK l1 l2 hlr2 hls2 b
   ·exact sw_6 hbw hba hbk hB3 a1 a2 hRB3 k3 k1 k2 hc hp hK l1 l2 hlr2 hls2 b
   ·exact sw_7 hbw hba hbk hB3 a1 a2 hRB3 k3 k1 k2 hc hp hK l1 l2 hlr2 hls2 b
   ·exact sw_8 hbw hba hbk hB3 a1 a2 hRB3 k3 k1 k2 hc hp hK l1 l2 hlr2 hls2 b
   ·exact sw_9 hbw hba hbk hB3 a1 a2 hRB3 k3 k1 k2 hc hp hK l1 l2 hlr2 hls2 b
   ·exact sw_10 hbw hba hbk hB3 a1 a2 hRB3 k3 k1 k2 hc hp hK l1 l2 hlr2 hls2 b
  obtain⟨g',rv',nv',H',nx',s⟩:=sw
  obtain⟨R',N',q1,q2⟩:=bd_fin s.le s.md (pre _ _ _ _ (To.seq (a:=(at' 7 [1,1,1,1,1,1,1,0])) (b:=(at' 7 [1,1,1,1,1,1,1,1])) (by kernel_rfl) (bd_7s h0) (To.seq (a:=(at' 7 [1,1,1,1,1,1,1,1,0])) (b:=(at' 7 [1,1,1,1,1,1,1,1,1])) (by kernel_rfl) (bd_8 hba h0 (by omega) hB3.h0) (To.seq (b:=(at' 7 [1,1,1,1,1,1,1,1,1,1])) (by kernel_rfl) s.to (bd_9 s.bb.h1 s.bb.h2 s.rs s.ns)))))
  grind
theorem PlM.sm{R:List (List Int)}{N:List Mc}(h:PlM R N)(hq:N.length≤60)(hl:Qbo R N):SmN N:=by
 refine⟨hq,fun k hk=>?_,fun k hk i hi=>?_,fun k hk i hi=>?_⟩
 ·have:=hl.2 _ (Qdz (d:=mc0) hk);exact⟨this.1,this.2.1⟩
 ·have:=(h.2 _ (Qdz (d:=mc0) hk)).1 _ (Qdz (d:=0) hi);omega
 ·have:=(h.2 _ (Qdz (d:=mc0) hk)).2 _ (Qdz (d:=0) hi);have:=h.1;omega
theorem Qr0{bw ba bk:Nat}{bn g:Int}{R:List (List Int)}{N:List Mc}(hl:Qbo R N){s:Nat}(hs:s<18446744073709551616){C:List V}(hC:HfL C){k:Nat}(hk:k<3){p j:List Nat}(hp6:p.length≤60)(hp64:S64 p)(hj64:S64 j)(ht:takeE 2 (dropF (0+k*2) C)=some [ul p,ul j]){g2:Int}{R2:List (List Int)}{N2:List Mc}(hl2:Qbo R2 N2)(hbd:FnOk Pg g0 7 [.agg [w8 (bw:Nat),w8 (ba:Nat),w8 (bk:Nat),i6 bn],mdV g R N] (mdV g2 R2 N2)):
  ∃hs n,vc Pg vE sp0 none 0 n (at' 4 [1,1,1,1,1,0,1,0,0]) hs (mkSt g0 172 (lwS bw ba bk bn g R.length (rtL R) N.length (mcL N) s C k)) (Qci 0 172 [0,1,2] (lwS bw ba bk bn g R.length (rtL R) N.length (mcL N) s C (k+1))):=by
 have f1:=Qar R
 have f2:=Qav N
 have f3:=Qar R2
 have f4:=Qav N2
 cases hr:rightB p j with
 |false=>exact rd_bad bw ba bk bn g R.length (rtL R) f1 N.length (mcL N) f2 s hs C hC k hk p j hp6 ht g2 R2.length (rtL R2) f3 N2.length (mcL N2) f4 hbd hp64 hj64 hr (on_bad p j hp64 hj64 hr g R N) (on_bad p j hp64 hj64 hr g2 R2 N2)
 |true=>
  have hg:=(right_ok hp64 hj64).1 hr
  have r1:=Qhy p j hp64 hj64
  rw[hr]at r1
  have r2:=Qeb p j hg
  have o1:=on_fn hg g R N hl
  have o2:=on_fn hg g2 R2 N2 hl2
  have q1:=ron_fn hg g R N hl
  have q2:=ron_fn hg g2 R2 N2 hl2
  have h2p:=Nat.two_pow_pos p.length
  have ht2:s&&& alN p.length<2^p.length:=Nat.and_lt_two_pow _ (by unfold alN;omega)
  have ht64:s&&& alN p.length<18446744073709551616:=Nat.lt_of_le_of_lt Nat.and_le_left hs
  have hz:(s&&& alN p.length)/2^p.length=0:=(Nat.div_eq_zero_iff_lt h2p).2 ht2
  rcases ds_cases hg ht64 with⟨n2,_⟩|⟨n2,w2,A2,a2,e2,d2,u2⟩
  ·exact absurd hz n2
  rcases ds_cases hg hs with⟨n1,e1⟩|⟨n1,w1,A1,a1,e1,d1,u1⟩
  ·exact Qob bw ba bk bn g R.length (rtL R) f1 N.length (mcL N) f2 s hs C hC k hk p j hp6 ht g2 R2.length (rtL R2) f3 N2.length (mcL N2) f4 hbd _ _ r1 r2 o1 o2 q1 q2 e1 n1 w2 A2 a2 e2 n2 d2 u2
  ·exact Qoc bw ba bk bn g R.length (rtL R) f1 N.length (mcL N) f2 s hs C hC k hk p j hp6 ht g2 R2.length (rtL R2) f3 N2.length (mcL N2) f4 hbd _ _ r1 r2 o1 o2 q1 q2 w1 A1 a1 e1 n1 d1 u1 w2 A2 a2 e2 n2 d2 u2
abbrev gC3(p0 j0 p1 j1 p2 j2:List Nat):List V:=[ul p0,ul j0,ul p1,ul j1,ul p2,ul j2]
theorem law_loop{bw ba bk:Nat}{bn g:Int}{R:List (List Int)}{N:List Mc}(hl:Qbo R N){s:Nat}(hs:s<18446744073709551616){p0 j0 p1 j1 p2 j2:List Nat}(a0:p0.length≤60∧S64 p0∧S64 j0)(a1:p1.length≤60∧S64 p1∧S64 j1)(a2:p2.length≤60∧S64 p2∧S64 j2){g2:Int}{R2:List (List Int)}{N2:List Mc}(hl2:Qbo R2 N2)(hbd:FnOk Pg g0 7 [.agg [w8 (bw:Nat),w8 (ba:Nat),w8 (bk:Nat),i6 bn],mdV g R N] (mdV g2 R2 N2)):
  Sat Pg none 0 (at' 4 [1,1,1,1,1,0,1,0]) (mkSt g0 172 (lwS bw ba bk bn g R.length (rtL R) N.length (mcL N) s (gC3 p0 j0 p1 j1 p2 j2) 0)) (Qae g0 172 [(True,.exit 0,{sl:=[]})]):=by
 have b0:=Qag p0
 have b1:=Qag j0
 have b2:=Qag p1
 have b3:=Qag j1
 have b4:=Qag p2
 have b5:=Qag j2
 have hC:HfL (gC3 p0 j0 p1 j1 p2 j2):=⟨trivial,trivial,trivial,trivial,trivial,trivial,trivial⟩
 refine Qaw vE_ok Qaf Qab (b:=at' 4 [1,1,1,1,1,0,1,0,0]) (by kernel_rfl) (fun k=>k≤3) (lwS bw ba bk bn g R.length (rtL R) N.length (mcL N) s (gC3 p0 j0 p1 j1 p2 j2)) (fun k=>3-k) (fun k hk=>?_) 0 (Nat.zero_le _)
 by_cases hlt:k<3
 ·refine .inl ?_
  have: ∃p j,(p.length≤60∧S64 p∧S64 j)∧takeE 2 (dropF (0+k*2) (gC3 p0 j0 p1 j1 p2 j2))=some [ul p,ul j]:=by
   rcases(by omega:k=0∨k=1∨k=2)with rfl|rfl|rfl
   ·exact⟨p0,j0,a0,rfl⟩
   ·exact⟨p1,j1,a1,rfl⟩
   ·exact⟨p2,j2,a2,rfl⟩
  obtain⟨p,j,⟨c1,c2,c3⟩,c4⟩:=this
  obtain⟨hs',n,h⟩:=Qr0 hl hs hC hlt c1 c2 c3 c4 hl2 hbd
  exact⟨k+1,[0,1,2],hs',n,by omega,by omega,h⟩
 ·obtain rfl : k = 3 := by omega
  refine .inr ⟨.exit 0,[],{sl:=[]},[no 44],1000,.inl ⟨trivial,rfl,rfl⟩,?_⟩
  have f1:=Qar R
  have f2:=Qav N
  generalize gC3 p0 j0 p1 j1 p2 j2=C at*
  generalize rtL R=RR at*
  generalize mcL N=NN at*
  generalize R.length=nR at*
  generalize N.length=n at*
  refine Eq.mp (by kernel_rfl:(An [decide ((↑(3:Nat):Int)<(3:Int))=false,Tt,Tt])=_) ?_
  (repeat'(first|(with_reducible apply And.intro)|(refine fun(_:True)=>?_)))<;>first|exact aq|skip
  all_goals skip
theorem Qky(A B P Q:List Nat)(pr:List (Nat×Nat))(hA:S64 A)(hB:S64 B)(hP: ∀x∈P,x<256)(hQ: ∀x∈Q,x<256)(h256: ∀x∈pr,x.1<256∧x.2<256){gr:Nat}{NN0:List Pc}{SS:List (Nat×Nat)}{W O0:List Nat}(ok:DrOk gr NN0 SS W O0){bw ba bk:Nat}{bn:Int}(hbw:bw<256)(hba:ba<256)(hbk:bk<256)(s:Nat)(hs:s<18446744073709551616):
  FnOk Pg g0 4 [.agg [ul A,ul B],.agg [bl P,bl Q,.im pr.length (prT pr)],.agg (drL gr NN0 SS W O0),.agg [w8 (bw:Nat),w8 (ba:Nat),w8 (bk:Nat),i6 bn],u6 (s:Nat)] (.bool true):=by
 obtain⟨g,R,N,hlb,hq,hpm,hm⟩:=model_ex ok
 obtain⟨g2,R2,N2,hlb2,hbd⟩:=bend_ex (bn:=bn) hbw hba hbk g R N (K:=5000) (by decide) hlb
 have hl:Qbo R N:=LenB.ok (by decide) hlb
 have hl2:Qbo R2 N2:=LenB.ok (by decide) hlb2
 have hS:=hpm.sm (by omega) hl
 have hpar:=Qiw g R N hS
 have hjnd:=Qhz g R N hS hq.1
 rw[pL_ut]at hpar
 rw[jL_ut]at hjnd
 have hgr:=Qqj A B P Q pr hP hQ h256
 have hgo:=mg_ok P Q pr
 have hmg:=hgo
 have hw:=works_fn
 have a0:(A.take 6).length≤60∧S64 (A.take 6)∧S64 (B.take 6):=⟨by rw[List.length_take];omega,fun x hx=>hA x (List.mem_of_mem_take hx),fun x hx=>hB x (List.mem_of_mem_take hx)⟩
 have a1:(mgP P Q).length≤60∧S64 (mgP P Q)∧S64 (mgJ P pr):=⟨by have:=hgo.l5;omega,hgo.p64,hgo.j64⟩
 have a2:(pL N).length≤60∧S64 (pL N)∧S64 (jL N):=⟨by rw[Qet];omega,pL_64 hS,jL_64 hS⟩
 have hlp:=law_loop (s:=s) hl hs a0 a1 a2 hl2 hbd
 have e1:ul (pL N)= .im N.length (ut (pL N)):=by unfold ul;rw[Qet]
 have e2:ul (jL N)= .im N.length (ut (jL N)):=by unfold ul;rw[jL_len]
 unfold lwS gC3 at hlp
 rw[e1,e2]at hlp
 have f1:=Qar R
 have f2:=Qav N
 have f3:=Qag A
 have f4:=Qag B
 have f5:=Qau P
 have f6:=Qau Q
 have f7:=Qdu pr
 have f8:=Qag (A.take 6)
 have f9:=Qag (B.take 6)
 have f10:=Qag (mgP P Q)
 have f11:=Qag (mgJ P pr)
 have f12:=Qag (pL N)
 have f13:=Qag (jL N)
 have f14:HfL (drL gr NN0 SS W O0):=⟨trivial,trivial,trivial,trivial,trivial,trivial⟩
 clear hmg hgo a0 a1 a2 e1 e2 hS hpm hl hl2 hlb hlb2 hbd ok
 unfold mdV drL at*
 generalize ut (pL N)=X3 at*
 generalize ut (jL N)=Y3 at*
 generalize mgP P Q=X2 at*
 generalize mgJ P pr=Y2 at*
 generalize A.take 6=X1 at*
 generalize B.take 6=Y1 at*
 generalize rtL R=RR at*
 generalize mcL N=NN at*
 generalize R.length=nR at*
 generalize N.length=n at*
 refine FnOk.of_vc vE_ok Qaf Qab (n:=1000) (r:=[]) (S:={sl:=[(10,.bool true)]}) (hs:=[fn 26 (.bool true),fn 29 (.agg [i6 g,.im nR RR,.im n NN]),fn 31 (.im n X3),fn 33 (.im n Y3),fn 37 (.agg [ul X1,ul Y1,ul X2,ul Y2]),va 38 (.sl 6 0 2 (some 0)),(41,.cp 1 [ul X1,ul Y1,ul X2,ul Y2,.im n X3,.im n Y3]),(0,.loop [3,4,8] {sl:=[(4,u6 (s:Nat)),(8,.ptr 0 0),(11,.ptr 1 0),(41,.sl 2 0 3 none),(42,i6 3),(43,i6 (0:Nat))],os:=[bdO bw ba bk bn,cuO g nR RR n NN,.row 56 (some 2) [ul X1,ul Y1,ul X2,ul Y2,.im n X3,.im n Y3]]} [(True,.exit 0,{sl:=[]})])]) ?_
 exact m_ (p:=let z2:=[i6 g,V.im nR RR,V.im n NN];let z4:=[w8 ↑bw,w8 ↑ba,w8 ↑bk,i6 bn];let z5:=[ul X1,ul Y1,ul X2,ul Y2];let z8:=V.im n X3;let z9:=V.im n Y3;let y3:=V.sl 6 0 2 (some 0);let y4:=V.bool true;let z0:=pt (pt (pt (pt (pt (pt T.e 0 (O.row 56 none [ul A,ul B])) 1 (O.row 60 none [bl P,bl Q,(V.im pr.length (prT pr))])) 2 (O.row 26 none [w8 ↑gr,(V.im NN0.length (pcL NN0)),(V.im SS.length (prT SS)),bl W,bl O0])) 3 (O.row 28 none z4)) 4 (O.row 34 none [i6 0,V.nils,V.nils])) 4 (O.row 34 none z2);let z3:=[ul X1,ul Y1,ul X2,ul Y2,z8,z9];let z1:=pt (pt (pt (pt (pt z0 5 (O.row 56 none [V.nils,V.nils])) 5 (O.row 56 none [z8,z9])) 6 (O.row 62 none [V.nils,V.nils,V.nils,V.nils])) 6 (O.row 62 none z5)) 7 (O.row 56 none [z8,z9]);An [y4=y4,Tt,_,Tt,An [TT 5,Tt],_,Tt,An [TT 3,Tt],_,Tt,An [TT 3,Tt],_,An [V.fn 17 []=V.fn 18 []→[(V.agg z2)]=[(V.agg z2)]→z0=z0→0+1+1+1+1+1=5→CR.mk z8 z0 5 []=CR.mk z9 z0 5 [],Tt],An [TT 2,TT 3,Tt],_,Tt,sliceV (Qac Tryz.prog) 62 (V.ptr 6 0) none none none=some y3,An [srcV z1 2 (V.sl 7 0 1 (some 0))=some (1,[z8,z9]),srcV z1 2 y3=some (2,z5),1≤1,3≤9223372036854775807,3*48≤140737488355328],An [An [Sm (↑s:Int),Zz,Zz,An [Zz,3=3,Tt],(3:Int)=(↑(3):Int),(↑(0:Nat):Int)=(0:Int),Tt],An [z4=z4,TT 4],An [z2=z2,TT 3],An [z3=z3,TT 6],Tt],_,(True->An [An [Sm true,Tt],Tt]),Tt]) ⟨aq,aq,hw,aq,a_,hm,aq,a_,hpar,aq,a_,hjnd,a_,a_,hgr,aq,(by rfl),⟨(by rfl),(by rfl),a_⟩,a_,hlp,a_⟩
open Go.RowKit Go.ChangeShapes Go.WideShapes
section
variable {H:Type} {enc:TypeId×Value→H} {w:World}
theorem Qn6{P:Program}{r:Reach}{base:Nat}{t:TypeId}{v:Value}{n:Nat}{e:TypeId}(ht:P.underlying t=some (.array n e))(h:Value.okWide P w r base t v): ∃cs,v= .agg cs:=by
 simp only[Value.okWide,ht]at h
 obtain⟨cs,h1,_⟩:=h
 exact⟨cs,h1⟩
theorem Qsm{fuel:Nat}{cs:List Value}{x:DataW H×List MemPlace}(h:DataW.trod enc Pg w 0 (fun _=>true) true fuel 55 cs=some x): ∃(v:Value)(L:List Nat),cs=[v]∧RV (sg (allB w)) w (ul L) v∧S64 L:=by
 obtain⟨v,L,e1,r1,w1,l1⟩:=Qsl Tryz.underlying55 Tryz.underlying29 (by kernel_rfl) h
 have hz: ∀z∈L,0≤z∧z.toNat<18446744073709551616:=fun z hz=>by
  obtain⟨k,rfl,hk⟩:=wfu (w1 z hz)
  exact⟨by omega,by simpa using hk⟩
 have eL:L.map (V.int .u64)=ut (L.map Int.toNat):=by
  unfold ut
  rw[List.map_map]
  refine List.map_congr_left fun z hz'=>?_
  show V.int .u64 z=V.int .u64 ((z.toNat:Nat):Int)
  rw[Int.toNat_of_nonneg (hz z hz').1]
 refine⟨v,L.map Int.toNat,e1,?_,fun x hx=>?_⟩
 ·show RV _ _ (.im (L.map Int.toNat).length (ut _)) _
  rw[←eL,List.length_map]
  exact r1
 ·obtain ⟨z, hz', rfl⟩ := List.mem_map.1 hx
  exact(hz z hz').2
theorem arg_raw2{v:Value}{d:DataW H}{p:List MemPlace}(hv: ∃cs,v= .agg cs)(h:DataW.Trod enc Pg w 0 (fun _=>true) true 56 v d p):
  ∃A B:List Nat,RV (sg (allB w)) w (.agg [ul A,ul B]) v∧S64 A∧S64 B:=by
 obtain⟨arr,rfl⟩:=hv
 obtain⟨fuel,hf⟩:=h
 obtain⟨xs,n,_,_,hl,hlen,hfd⟩:=DataW.trod_array Tryz.underlying56 hf
 have hc:Pg.cellsOf 56=2:=by kernel_rfl
 have h5:Pg.cellsOf 55=1:=by kernel_rfl
 rw[hc]at hl
 have hcells:(Value.agg arr).cells.toList=arr.toList:=rfl
 rw[hcells]at hl hfd
 obtain⟨c0,c1,harr⟩: ∃c0 c1,arr.toList=[c0,c1]:=by
  match arr.toList,hl with
  |[c0,c1],_=>exact⟨c0,c1,rfl⟩
 obtain⟨y0,y1,rfl⟩: ∃y0 y1,xs=[y0,y1]:=by
  match xs,hlen with
  |[y0,y1],_=>exact⟨y0,y1,rfl⟩
 have f0:=hfd 0 (by omega)
 have f1:=hfd 1 (by omega)
 rw[h5,harr]at f0 f1
 obtain⟨v0,A,e0,r0,w0⟩:=Qsm (x:=y0) f0
 obtain⟨v1,B,e1,r1,w1⟩:=Qsm (x:=y1) f1
 simp at e0 e1
 subst e0 e1
 refine⟨A,B,⟨arr,rfl,?_⟩,w0,w1⟩
 rw[harr]
 exact⟨_,_,rfl,r0,_,_,rfl,r1,rfl⟩
theorem Qrm: ∀a b:List Pc,pcL (a++b)=pcL a++pcL b
 |[],b=>rfl
 |x::a,b=>by show pcC x++pcL (a++b)=(pcC x++pcL a)++pcL b;rw[Qrm a b,List.append_assoc]
theorem pcL_bl: ∀(g:Nat→Pc)(n:Nat),blF (fun i=>pcC (g i)) n=pcL ((List.range n).map g)
 |g,0=>rfl
 |g,n+1=>by
  rw[Qcr,pcL_bl g n,List.range_succ,List.map_append,Qrm]
  show _=_++(pcC (g n)++[])
  rw[List.append_nil]
theorem trod_pc{fuel:Nat}{cs:List Value}{x:DataW H×List MemPlace}(h:DataW.trod enc Pg w 0 (fun _=>true) true fuel 88 cs=some x): ∃q:Pc,RL (sg (allB w)) w (pcC q) cs∧PcOk q∧q.z=false:=by
 obtain⟨xs,n,_,_,hl,hlen,hfd⟩:=DataW.trod_struct Tryz.underlying88 h
 have hc:Pg.cellsOf 88=4:=by kernel_rfl
 rw[hc]at hl
 obtain⟨c0,c1,c2,c3,rfl⟩: ∃c0 c1 c2 c3,cs=[c0,c1,c2,c3]:=by
  match cs,hl with
  |[c0,c1,c2,c3],_=>exact⟨c0,c1,c2,c3,rfl⟩
 have hlen':xs.length=4:=hlen
 obtain⟨y0,y1,y2,y3,rfl⟩: ∃y0 y1 y2 y3,xs=[y0,y1,y2,y3]:=by
  match xs,hlen' with
  |[y0,y1,y2,y3],_=>exact⟨y0,y1,y2,y3,rfl⟩
 have h1:Pg.cellsOf 24=1:=by kernel_rfl
 have h2:Pg.cellsOf 5=1:=by kernel_rfl
 have f0:DataW.trod enc Pg w 0 (fun _=>true) true n 5 (List.take (Pg.cellsOf 5) (List.drop 0 [c0,c1,c2,c3]))=some y0:=hfd 0 _ rfl
 have f1:DataW.trod enc Pg w 0 (fun _=>true) true n 5 (List.take (Pg.cellsOf 5) (List.drop 1 [c0,c1,c2,c3]))=some y1:=hfd 1 _ rfl
 have f2:DataW.trod enc Pg w 0 (fun _=>true) true n 5 (List.take (Pg.cellsOf 5) (List.drop 2 [c0,c1,c2,c3]))=some y2:=hfd 2 _ rfl
 have f3:DataW.trod enc Pg w 0 (fun _=>true) true n 24 (List.take (Pg.cellsOf 24) (List.drop 3 [c0,c1,c2,c3]))=some y3:=hfd 3 _ rfl
 rw[h2]at f0 f1 f2
 rw[h1]at f3
 obtain⟨k0,e0,w0⟩:=Qdd Tryz.underlying5 (x:=y0) f0
 obtain⟨k1,e1,w1⟩:=Qdd Tryz.underlying5 (x:=y1) f1
 obtain⟨k2,e2,w2⟩:=Qdd Tryz.underlying5 (x:=y2) f2
 obtain⟨v3,L,e3,r3,w3,l3⟩:=Qg4 f3
 simp at e0 e1 e2 e3
 obtain⟨a,rfl,ha⟩:=wf8n w0
 obtain⟨b,rfl,hb⟩:=wf8n w1
 obtain⟨c,rfl,hcc⟩:=wf8n w2
 subst e0 e1 e2 e3
 exact⟨⟨a,b,c,L,false⟩,⟨_,_,rfl,rfl,_,_,rfl,rfl,_,_,rfl,rfl,_,_,rfl,r3,rfl⟩,⟨ha,hb,hcc,w3,l3,fun h=>(by cases h)⟩,rfl⟩
theorem trod_pcs{fuel:Nat}{cs:List Value}{x:DataW H×List MemPlace}(h:DataW.trod enc Pg w 0 (fun _=>true) true fuel 22 cs=some x): ∃(v:Value)(P:List Pc),cs=[v]∧RV (sg (allB w)) w (.im P.length (pcL P)) v∧∀x∈P,PcOk x∧x.z=false:=by
 obtain⟨v,f,n,rfl,h1,h2,h3⟩:=Qd3 (s:=4) (by omega) Tryz.underlying22 (by kernel_rfl) (fun l=>∃q:Pc,l=pcC q∧PcOk q∧q.z=false) (fun fuel cs x hx=>by
  obtain⟨q,r,h⟩:=trod_pc hx
  exact⟨pcC q,rfl,r,q,rfl,h⟩) h
 have: ∀i:Nat,∃q:Pc,i<n→f i=pcC q∧PcOk q∧q.z=false:=fun i=>by
  by_cases hi:i<n
  ·obtain ⟨q, hq⟩ := (h2 i hi).2
   exact⟨q,fun _=>hq⟩
  ·exact⟨⟨0,0,0,[],false⟩,fun h=>absurd h hi⟩
 obtain⟨g,hg⟩:=Classical.axiomOfChoice this
 refine⟨v,(List.range n).map g,rfl,?_,fun x hx=>?_⟩
 ·rw [← pcL_bl, ← Qf3 (f := f) (fun i hi => (hg i hi).1)]
  simpa using h1
 ·obtain ⟨i, hi, rfl⟩ := List.mem_map.1 hx
  exact(hg i (List.mem_range.1 hi)).2
theorem arg_dr33{v:Value}{d:DataW H}{p:List MemPlace}(hv: ∃cs,v= .agg cs∧cs.size=Pg.cellsOf 26)(h:DataW.Trod enc Pg w 0 (fun _=>true) true 26 v d p):
  ∃(gr:Nat)(NN:List Pc)(SS:List (Nat×Nat))(W Q:List Nat),RV (sg (allB w)) w (.agg (drL gr NN SS W Q)) v∧DrOk gr NN SS W Q:=by
 obtain⟨arr,rfl,hsz⟩:=hv
 obtain⟨fuel,hf⟩:=h
 obtain⟨xs,n,_,_,hl,hlen,hfd⟩:=DataW.trod_struct Tryz.underlying26 hf
 have hc:Pg.cellsOf 26=5:=by kernel_rfl
 rw[hc]at hl
 have hcells:(Value.agg arr).cells.toList=arr.toList:=rfl
 rw[hcells]at hl hfd
 obtain⟨c0,c1,c2,c3,c4,harr⟩: ∃c0 c1 c2 c3 c4,arr.toList=[c0,c1,c2,c3,c4]:=by
  match arr.toList,hl with
  |[c0,c1,c2,c3,c4],_=>exact⟨c0,c1,c2,c3,c4,rfl⟩
 have hlen':xs.length=5:=hlen
 obtain⟨y0,y1,y2,y3,y4,rfl⟩: ∃y0 y1 y2 y3 y4,xs=[y0,y1,y2,y3,y4]:=by
  match xs,hlen' with
  |[y0,y1,y2,y3,y4],_=>exact⟨y0,y1,y2,y3,y4,rfl⟩
 have h1:Pg.cellsOf 24=1:=by kernel_rfl
 have h2:Pg.cellsOf 5=1:=by kernel_rfl
 have h3:Pg.cellsOf 23=1:=by kernel_rfl
 have h4:Pg.cellsOf 22=1:=by kernel_rfl
 have f0:DataW.trod enc Pg w 0 (fun _=>true) true n 5 (List.take (Pg.cellsOf 5) (List.drop 0 arr.toList))=some y0:=hfd 0 _ rfl
 have f1:DataW.trod enc Pg w 0 (fun _=>true) true n 22 (List.take (Pg.cellsOf 22) (List.drop 1 arr.toList))=some y1:=hfd 1 _ rfl
 have f2:DataW.trod enc Pg w 0 (fun _=>true) true n 23 (List.take (Pg.cellsOf 23) (List.drop 2 arr.toList))=some y2:=hfd 2 _ rfl
 have f3:DataW.trod enc Pg w 0 (fun _=>true) true n 24 (List.take (Pg.cellsOf 24) (List.drop 3 arr.toList))=some y3:=hfd 3 _ rfl
 have f4:DataW.trod enc Pg w 0 (fun _=>true) true n 24 (List.take (Pg.cellsOf 24) (List.drop 4 arr.toList))=some y4:=hfd 4 _ rfl
 rw[harr]at f0 f1 f2 f3 f4
 rw[h2]at f0
 rw[h4]at f1
 rw[h3]at f2
 rw[h1]at f3 f4
 obtain⟨k0,e0,w0⟩:=Qdd Tryz.underlying5 (x:=y0) f0
 obtain⟨v1,P,e1,r1,w1⟩:=trod_pcs (x:=y1) f1
 obtain⟨v2,S,e2,r2,w2,l2⟩:=Qng (x:=y2) f2
 obtain⟨v3,W,e3,r3,w3,l3⟩:=Qg4 (x:=y3) f3
 obtain⟨v4,Q,e4,r4,w4,l4⟩:=Qg4 (x:=y4) f4
 simp at e0 e1 e2 e3 e4
 obtain⟨a,rfl,ha⟩:=wf8n w0
 subst e0 e1 e2 e3 e4
 refine⟨a,P,S,W,Q,⟨arr,rfl,?_⟩,⟨ha,w1,w2,l2,w3,l3,w4⟩⟩
 rw[harr]
 exact⟨_,_,rfl,rfl,_,_,rfl,r1,_,_,rfl,r2,_,_,rfl,r3,_,_,rfl,r4,rfl⟩
theorem arg_bd33{v:Value}{d:DataW H}{p:List MemPlace}(hv: ∃cs,v= .agg cs∧cs.size=Pg.cellsOf 28)(h:DataW.Trod enc Pg w 0 (fun _=>true) true 28 v d p):
  ∃(a b c:Nat)(n:Int),RV (sg (allB w)) w (.agg [w8 (a:Nat),w8 (b:Nat),w8 (c:Nat),i6 n]) v∧a<256∧b<256∧c<256:=by
 obtain⟨arr,rfl,hsz⟩:=hv
 obtain⟨fuel,hf⟩:=h
 obtain⟨xs,n,_,_,hl,hlen,hfd⟩:=DataW.trod_struct Tryz.underlying28 hf
 have hc:Pg.cellsOf 28=4:=by kernel_rfl
 rw[hc]at hl
 have hcells:(Value.agg arr).cells.toList=arr.toList:=rfl
 rw[hcells]at hl hfd
 obtain⟨c0,c1,c2,c3,harr⟩: ∃c0 c1 c2 c3,arr.toList=[c0,c1,c2,c3]:=by
  match arr.toList,hl with
  |[c0,c1,c2,c3],_=>exact⟨c0,c1,c2,c3,rfl⟩
 have hlen':xs.length=4:=hlen
 obtain⟨y0,y1,y2,y3,rfl⟩: ∃y0 y1 y2 y3,xs=[y0,y1,y2,y3]:=by
  match xs,hlen' with
  |[y0,y1,y2,y3],_=>exact⟨y0,y1,y2,y3,rfl⟩
 have h2:Pg.cellsOf 5=1:=by kernel_rfl
 have h3:Pg.cellsOf 3=1:=by kernel_rfl
 have f0:DataW.trod enc Pg w 0 (fun _=>true) true n 5 (List.take (Pg.cellsOf 5) (List.drop 0 arr.toList))=some y0:=hfd 0 _ rfl
 have f1:DataW.trod enc Pg w 0 (fun _=>true) true n 5 (List.take (Pg.cellsOf 5) (List.drop 1 arr.toList))=some y1:=hfd 1 _ rfl
 have f2:DataW.trod enc Pg w 0 (fun _=>true) true n 5 (List.take (Pg.cellsOf 5) (List.drop 2 arr.toList))=some y2:=hfd 2 _ rfl
 have f3:DataW.trod enc Pg w 0 (fun _=>true) true n 3 (List.take (Pg.cellsOf 3) (List.drop 3 arr.toList))=some y3:=hfd 3 _ rfl
 rw[harr]at f0 f1 f2 f3
 rw[h2]at f0 f1 f2
 rw[h3]at f3
 obtain⟨k0,e0,w0⟩:=Qdd Tryz.underlying5 (x:=y0) f0
 obtain⟨k1,e1,w1⟩:=Qdd Tryz.underlying5 (x:=y1) f1
 obtain⟨k2,e2,w2⟩:=Qdd Tryz.underlying5 (x:=y2) f2
 obtain⟨k3,e3,w3⟩:=Qdd Tryz.underlying3 (x:=y3) f3
 simp at e0 e1 e2 e3
 obtain⟨a,rfl,ha⟩:=wf8n w0
 obtain⟨b,rfl,hb⟩:=wf8n w1
 obtain⟨c,rfl,hcc⟩:=wf8n w2
 subst e0 e1 e2 e3
 refine⟨a,b,c,k3,⟨arr,rfl,?_⟩,ha,hb,hcc⟩
 rw[harr]
 exact⟨_,_,rfl,rfl,_,_,rfl,rfl,_,_,rfl,rfl,_,_,rfl,rfl,rfl⟩
end
end Go.Proofs.YtifdkhfldbkkpaaGreat.Am
