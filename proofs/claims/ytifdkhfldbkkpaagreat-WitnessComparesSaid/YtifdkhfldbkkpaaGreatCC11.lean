/- Texts behind the claim, part 11: the abstract machine, and what the functions answer. No condition. -/
import Derived.Test.YtifdkhfldbkkpaaGreatCC10
set_option linter.unusedVariables false
set_option maxHeartbeats 4000000
set_option maxRecDepth 100000
set_option linter.unusedSimpArgs false
set_option linter.unusedSectionVars false
namespace Go.Proofs.YtifdkhfldbkkpaaGreat.Am
open Go.RowKit
variable{wA wB:Int}{R:List (List Int)}{X Y:List Int}{P a b n s:Nat}{q:Nat->Nat}
noncomputable abbrev Wh:Code:=aT 48 1111111111010
theorem Ug:Wh= .rangeFunc (.tmp 77) #[78] (Wm Wh) (Ma Wh):=k_
noncomputable def Uh:Code:=Ma Wh
noncomputable def Wi:Code:=Wm Wh
abbrev VQ(v:V):List (Nat×V):=[(8,.ptr 2 0),(9,.ptr 3 0),(11,.ptr 4 0),(12,.ptr 5 0),(13,.ptr 6 0),(16,.ptr 7 0),(18,.ptr 8 0),(19,.ptr 9 0),(20,.ptr 10 0),(21,.ptr 11 0),(78,v)]
abbrev KL(v:V):List (Nat×V):=[(8,.ptr 2 0),(9,.ptr 3 0),(11,.ptr 4 0),(12,.ptr 5 0),(13,.ptr 6 0),(16,.ptr 7 0),(18,.ptr 8 0),(19,.ptr 9 0),(20,.ptr 10 0),(21,.ptr 11 0),(22,v)]
theorem lU(v:V)(H:T O)(nx:Nat):vc Pg vE E0 (some 12) nx 1000 Wi [] (Be g0 123 (VQ v) H nx []) (M0 123 (KL v) H nx):=by
 exact m_ (p:=An [An [Sm (V.ptr 2 0),Sm (V.ptr 3 0),Sm (V.ptr 4 0),Sm (V.ptr 5 0),Sm (V.ptr 6 0),Sm (V.ptr 7 0),Sm (V.ptr 8 0),Sm (V.ptr 9 0),Sm (V.ptr 10 0),Sm (V.ptr 11 0),v=v,Tt],H=H,nx=nx,([]:List Nat)=[]]) a_
theorem WO(hXb: ∀i,i<P->0<=X.getD i 0/\X.getD i 0<=429981696)(hYb: ∀i,i<P->0<=Y.getD i 0/\Y.getD i 0<=429981696)(hwA:1<=wA/\wA<=429981696)(hwB:1<=wB/\wB<=429981696)(k:Nat)(hk:k<P):0<=X.getD k 0*wB/\X.getD k 0*wB<=184884258895036416/\0<=Y.getD k 0*wA/\Y.getD k 0*wA<=184884258895036416:=by
 have h1:=hXb k hk
 have h2:=hYb k hk
 have a:=bY h1.1 (show 0<=wB by omega)
 have b:=bY h2.1 (show 0<=wA by omega)
 have c:=bC h1.2 hwB.2 o_ d_
 have d:=bC h2.2 hwA.2 o_ d_
 exact⟨a,o_,b,o_⟩
section
variable (ga:Int) (na:Nat) (RA:List V) (gb:Int) (nb:Nat) (RB:List V) (q:Nat) (NA NB:List V) (cs:List Int) (xs:Nat) (vals:List Int) (X Y:List Int) (P:Nat) (wA wB:Int)
abbrev Ed(r:V)(k:Int):List O:=[K7 ga na RA q NA,K7 gb nb RB q NB,Cw (.im q (Aa cs)),H9 xs,Cw (.im q (Aa vals)),Cw r,D6 0,Cw (.im P (Aa X)),Cw (.im P (Aa Y)),Mj wA,Mj wB,Mj k]
variable (hRA:Ba RA) (hRB:Ba RB) (hNA:Ba NA) (hNB:Ba NB) (h5:q<=5) (hcl:cs.length=q) (hvl:vals.length=q) (hX:X.length=P) (hY:Y.length=P) (hP:P<=1024)
 (hXb: ∀i,i<P->0<=X.getD i 0/\X.getD i 0<=429981696) (hYb: ∀i,i<P->0<=Y.getD i 0/\Y.getD i 0<=429981696) (hwA:1<=wA/\wA<=429981696) (hwB:1<=wB/\wB<=429981696)
include hRA hRB hNA hNB h5 hcl hvl hX hY hP hXb hYb hwA hwB
theorem Zk(k:Nat)(hk:k<P)(he:X.getD k 0*wB=Y.getD k 0*wA)(v:V)(u:List Int)(hu:u.length=q)(Lb:O):
  vc Pg vE E0 (some 12) 14 1000 Uh [pl 81,ld 82 (i6 (X.getD k 0)),nu 84 (X.getD k 0*wB),pl 87,ld 88 (i6 (Y.getD k 0)),nu 90 (Y.getD k 0*wA),no 91,nu 122 ((k+1:Nat):Int)] (Be g0 123 (KL v) (Ai .e 0 (Ed ga na RA gb nb RB q NA NB cs xs vals X Y P wA wB .nils k++[Lb,Ay u])) 14 [12]) (Lu (Ai .e 0 (Ed ga na RA gb nb RB q NA NB cs xs vals X Y P wA wB .nils ((k+1:Nat):Int)++[Lb,Ay u])) 14 [11,12]):=by
 have s1:=Dm (l:=X) (k:=k) o_
 have s2:=Dm (l:=Y) (k:=k) o_
 have b:=WO hXb hYb hwA hwB k hk
 have hcc:=Ap cs
 have hvv:=Ap vals
 have hxx:=Ap X
 have hyy:=Ap Y
 clear hXb hYb
 generalize hp:X.getD k 0*wB=p at*
 generalize hp2:Y.getD k 0*wA=p2 at*
 generalize X.getD k 0=x at*
 generalize Y.getD k 0=y at*
 exact m_ (p:=An [_,_,wr .i64 (x*wB)=p,_,_,wr .i64 (y*wA)=p2,(p != p2)=false,_,pt (Ai T.e 0 (Ed ga na RA gb nb RB q NA NB cs xs vals X Y P wA wB V.nils (↑k:Int)++[Lb,Ay u])) 11 (O.row 3 none [i6 ↑(k+1)])=Ai T.e 0 (Ed ga na RA gb nb RB q NA NB cs xs vals X Y P wA wB V.nils (↑(k+1):Int)++[Lb,Ay u]),14=14,∀(g:Nat),List.Mem g ([11]++[12])->List.Mem g [11,12]]) ⟨Ar hk,s1,aq,Ar hk,s2,aq,aq,Dw k o_,k_,a_⟩
abbrev QE(q:Nat)(v:V)(k:Nat):List (Nat×V):=[(9,.ptr 3 0),(11,.ptr 4 0),(12,.ptr 5 0),(13,.ptr 6 0),(22,v),(23,.sl 14 0 q (some (q-q))),(96,i6 q),(97,i6 k)]
abbrev QD(q:Nat):List (Nat×V):=[(12,.ptr 5 0),(13,.ptr 6 0),(23,.sl 14 0 q (some (q-q)))]
end
section
variable (q xs:Nat) (vals:List Int) (h5:q<=5) (hvl:vals.length=q)
include h5 hvl
theorem QC(u:List Int)(hu:u.length=q)(nx0 nx:Nat)(H0:T O)(L lg0:List Nat)(hL:14∈L)(hlg:D8 lg0 L)(h3:gt H0 3=some (H9 xs))(h4:gt H0 4=some (Cw (.im q (Aa vals))))(h13:gt H0 13=some (Ay u)):
  Au Pg (some 12) nx0 (sub [0,0,1,0,1,0,1,0] (Ma Wh)) (Be g0 123 (QE q (.sl 13 0 q (some (q-q))) 0) (pt H0 14 (Ay (Bm (Ci xs vals λi=>u.getD i 0) q 0))) nx lg0) (Oj g0 123 (.exit 4) (λ_=>QD q) (λ_ H n lg=>H=pt H0 14 (Ay (Cz q xs vals λi=>u.getD i 0))/\n=nx/\D8 lg L)):=by
 have hvv:=Ap vals
 refine(LR (b:=sub [0,0,1,0,1,0,1,0,0] (Ma Wh)) k_ (λ(k:Nat) M=>k<=q/\M.H=pt H0 14 (Ay (Bm (Ci xs vals λi=>u.getD i 0) q k))/\M.nx=nx/\D8 M.lg L) (λk=>QE q (.sl 13 0 q (some (q-q))) k) (λk=>q-k) (λe sl M=>e= .exit 4/\sl=QD q/\M.H=pt H0 14 (Ay (Cz q xs vals λi=>u.getD i 0))/\M.nx=nx/\D8 M.lg L) (λk H nx1 lg G hI hN hE hR=>?_) 0 ⟨_,_,_⟩ ⟨aG _,rfl,rfl,hlg⟩).mono ?_
 .obtain⟨hk,rfl,rfl,hs⟩:=hI
  dsimp only at hk hs
  by_cases hlt:k<q
  .have w1:=LA (G:=B1 Pg) (t:=29) (x:=xs) (k:=k) o_
   have w2:=SU (G:=B1 Pg) (t:=29) (x:=xs/2^k)
   have b01:=Oa xs k
   have la:=Nc (f:=Ci xs vals λi=>u.getD i 0) (n:=q) (k:=k)
   have e:=MJ (f:=Ci xs vals λi=>u.getD i 0) (n:=q) (k:=k)
   have l2:=Nc (f:=Ci xs vals λi=>u.getD i 0) (n:=q) (k:=k+1)
   have s0:=Px (l:=u) (k:=k) o_
   have hnext:=λH lg' eH h=>hN (k+1) H nx1 lg' ⟨hlt,eH,rfl,h⟩ o_
   generalize Bm (Ci xs vals λi=>u.getD i 0) q (k+1)=a2 at*
   generalize Bm (Ci xs vals λi=>u.getD i 0) q k=a at*
   have s1:=Ie (l:=a) (j:=k) (x:=u.getD k 0) o_
   have g1:gt (pt H0 14 (Ay a)) 14=some (Ay a):=by rw[Ad,if_pos rfl]
   have g2:gt (pt H0 14 (Ay a)) 13=some (Ay u):=by rw[Ad,if_neg d_];exact h13
   cases hbit:xs.testBit k with
   | false =>
    have hx2:=b01.2.1 hbit
    have em:Ci xs vals (λi=>u.getD i 0) k=u.getD k 0:=by unfold Ci;rw[if_neg (by rw[hbit];simp)]
    rw[em]at e
    rw[e]at s1
    have g3:gt (pt (pt H0 14 (Ay a)) 14 (Ay a2)) 3=some (H9 xs):=by rw[Ad,if_neg d_,Ad,if_neg d_];exact h3
    have hn2:=hnext (pt (pt H0 14 (Ay a)) 14 (Ay a2)) ([14]++lg) (by rw[Wn]) (λg hg=>by
     rcases aK.1 hg with rfl|hg
     .exact hL
     .exact hs g hg)
    refine⟨[As 98,pl 104,A5 105 (Ay u) (i6 (u.getD k 0)),pl 106,so (Ay a) (Aa a2),A5 107 (H9 xs) (u6 xs),va 109 (u6 (xs/2^k:Nat)),va 110 (u6 (xs/2^k%2:Nat)),no 111,nu 119 ((k+1:Nat):Int),toO (QE q (.sl 13 0 q (some (q-q))) (k+1))],1000,?_⟩
    clear hN hE hR e em b01 hnext
    generalize u.getD k 0=z at*
    generalize xs/2^k=t at*
    exact m_ (p:=let z2:=some (q-q);let z4:=V.sl 13 0 q z2;An [_,_,_,_,_,An [_,_],_,Ae [u6 ↑xs]=some (u6 ↑xs),_,_,((↑(t%2):Int)==(1:Int))=false,wr .i64 ((↑k:Int)+(1:Int))=(↑(k+1):Int),_,Sm (V.ptr 3 0),Sm (V.ptr 4 0),Sm (V.ptr 5 0),Sm (V.ptr 6 0),z4=z4,Sm (V.sl 14 0 q z2),Sm (i6 ↑q),Sm (i6 ↑(k+1)),Tt]) ⟨Bf hlt,Ar hlt,g2,s0,Ar hlt,⟨g1,s1⟩,g3,(by rfl),w1,w2,aq,aq,hn2,a_⟩
   | true =>
    have hx2:=b01.1.1 hbit
    have em:Ci xs vals (λi=>u.getD i 0) k=vals.getD k 0:=by unfold Ci;rw[if_pos hbit]
    rw[em]at e
    have s3:=Dm (l:=vals) (k:=k) o_
    have l1:(a.set k (u.getD k 0)).length=q:=by rw[bJ];exact la
    have s2:=Ie (l:=a.set k (u.getD k 0)) (j:=k) (x:=vals.getD k 0) o_
    rw[List.set_set,e]at s2
    generalize a.set k (u.getD k 0)=a1 at*
    have g3:gt (pt (pt H0 14 (Ay a)) 14 (Ay a1)) 3=some (H9 xs):=by rw[Ad,if_neg d_,Ad,if_neg d_];exact h3
    have g4:gt (pt (pt H0 14 (Ay a)) 14 (Ay a1)) 4=some (Cw (.im q (Aa vals))):=by rw[Ad,if_neg d_,Ad,if_neg d_];exact h4
    have g5:gt (pt (pt H0 14 (Ay a)) 14 (Ay a1)) 14=some (Ay a1):=by rw[Ad,if_pos rfl]
    have hn2:=hnext (pt (pt (pt H0 14 (Ay a)) 14 (Ay a1)) 14 (Ay a2)) ([14]++([14]++lg)) (by rw[Wn,Wn]) (λg hg=>by
     rcases aK.1 hg with rfl|hg
     .exact hL
     .rcases aK.1 hg with rfl|hg
      .exact hL
      .exact hs g hg)
    refine⟨[As 98,pl 104,A5 105 (Ay u) (i6 (u.getD k 0)),pl 106,so (Ay a) (Aa a1),A5 107 (H9 xs) (u6 xs),va 109 (u6 (xs/2^k:Nat)),va 110 (u6 (xs/2^k%2:Nat)),As 111,A5 114 (Cw (.im q (Aa vals))) (.im q (Aa vals)),pl 116,ld 117 (i6 (vals.getD k 0)),pl 118,so (Ay a1) (Aa a2),nu 119 ((k+1:Nat):Int),toO (QE q (.sl 13 0 q (some (q-q))) (k+1))],1000,?_⟩
    clear hN hE hR e em b01 hnext
    generalize u.getD k 0=z at*
    generalize vals.getD k 0=z2 at*
    generalize xs/2^k=t at*
    exact m_ (p:=let z3:=some (q-q);let z5:=V.im q (Aa vals);let z7:=V.sl 13 0 q z3;An [_,_,_,_,_,An [_,_],_,Ae [u6 ↑xs]=some (u6 ↑xs),_,_,((↑(t%2):Int)==(1:Int))=true,_,Ae [z5]=some z5,_,_,_,An [_,_],wr .i64 ((↑k:Int)+(1:Int))=(↑(k+1):Int),_,Sm (V.ptr 3 0),Sm (V.ptr 4 0),Sm (V.ptr 5 0),Sm (V.ptr 6 0),z7=z7,Sm (V.sl 14 0 q z3),Sm (i6 ↑q),Sm (i6 ↑(k+1)),Tt]) ⟨Bf hlt,Ar hlt,g2,s0,Ar hlt,⟨g1,s1⟩,g3,(by rfl),w1,w2,aq,g4,(by rfl),Ar hlt,s3,Ar hlt,⟨g5,s2⟩,aq,hn2,a_⟩
  .have hk2:k=q:=o_
   subst hk2
   have hex:=hE 4 (QD k) (pt H0 14 (Ay (Bm (Ci xs vals λi=>u.getD i 0) k k))) nx1 lg ⟨rfl,rfl,by dsimp only;rw[preL_mix],rfl,hs⟩
   refine⟨[no 98,toO (QD k)],1000,?_⟩
   clear hN hE hR
   generalize Bm (Ci xs vals λi=>u.getD i 0) k k=a at*
   exact m_ (p:=An [_,_,Sm (V.ptr 5 0),Sm (V.ptr 6 0),Sm (V.sl 14 0 k (some (k-k))),Tt]) ⟨Cq hlt,hex,a_⟩
 .rintro e st ⟨sl',M',rfl,rfl,rfl,hQ⟩
  exact⟨0,_,_,_,rfl,rfl,hQ⟩
end
section
variable (ga:Int) (na:Nat) (RA:List V) (gb:Int) (nb:Nat) (RB:List V) (q:Nat) (NA NB:List V) (cs:List Int) (xs:Nat) (vals:List Int) (X Y:List Int) (P:Nat) (wA wB:Int)
variable (hRA:Ba RA) (hRB:Ba RB) (hNA:Ba NA) (hNB:Ba NB) (h5:q<=5) (hcl:cs.length=q) (hvl:vals.length=q) (hX:X.length=P) (hY:Y.length=P) (hP:P<=1024)
 (hXb: ∀i,i<P->0<=X.getD i 0/\X.getD i 0<=429981696) (hYb: ∀i,i<P->0<=Y.getD i 0/\Y.getD i 0<=429981696) (hwA:1<=wA/\wA<=429981696) (hwB:1<=wB/\wB<=429981696)
include hRA hRB hNA hNB h5 hcl hvl hX hY hP hXb hYb hwA hwB
theorem uU(k:Nat)(hk:k<P)(he:X.getD k 0*wB≠Y.getD k 0*wA)(u:List Int)(hu:u.length=q)(Lb:O):
  ∃hsb:Hs,vc Pg vE E0 (some 12) 14 1000 Uh hsb (Be g0 123 (KL (.sl 13 0 q (some (q-q)))) (Ai .e 0 (Ed ga na RA gb nb RB q NA NB cs xs vals X Y P wA wB .nils k++[Lb,Ay u])) 14 [12]) (Tn (Ai .e 0 (Ed ga na RA gb nb RB q NA NB cs xs vals X Y P wA wB (.sl 14 0 q (some (q-q))) k++[Lb,Ay u,Ay (Cz q xs vals λi=>u.getD i 0)])) 15 [5,6,11,12,14]):=by
 have s1:=Dm (l:=X) (k:=k) o_
 have s2:=Dm (l:=Y) (k:=k) o_
 have b:=WO hXb hYb hwA hwB k hk
 have hcc:=Ap cs
 have hvv:=Ap vals
 have hxx:=Ap X
 have hyy:=Ap Y
 have hin:=QC q xs vals h5 hvl u hu 14 15 (Ai .e 0 (Ed ga na RA gb nb RB q NA NB cs xs vals X Y P wA wB .nils k++[Lb,Ay u])) [5,6,11,12,14] [12] s_ (λg hg=>by simp at hg;subst hg;simp) rfl rfl rfl
 have hz:Ay (List.replicate q 0)= .row 3 none (Cx q [i6 0]):=by rw[Lh]
 rw[JM,hz]at hin
 have hml:(Cz q xs vals λi=>u.getD i 0).length=q:=Gf
 generalize (Cz q xs vals λi=>u.getD i 0)=mx at*
 refine⟨[pl 81,ld 82 (i6 (X.getD k 0)),nu 84 (X.getD k 0*wB),pl 87,ld 88 (i6 (Y.getD k 0)),nu 90 (Y.getD k 0*wA),As 91,mk 94,(0,.loopM (QE q (.sl 13 0 q (some (q-q))) 0) (.exit 4) (λ_=>QD q) (λ_ H n lg=>H=pt (Ai .e 0 (Ed ga na RA gb nb RB q NA NB cs xs vals X Y P wA wB .nils k++[Lb,Ay u])) 14 (Ay mx)/\n=15/\D8 lg [5,6,11,12,14]) (λ_ _ _ _=>[so (Cw .nils) [.sl 14 0 q (some (q-q))],so (D6 0) [i6 0]]))],?_⟩
 clear hXb hYb hz
 generalize hp:X.getD k 0*wB=p at*
 generalize hp2:Y.getD k 0*wA=p2 at*
 generalize X.getD k 0=x at*
 generalize Y.getD k 0=y at*
 refine m_ (p:=let z1:=V.sl 14 0 q (some (q-q));let z3:=V.sl 13 0 q (some (q-q));let z4:=(↑q:Int);let z5:=[5,6,11,12,14];let z7:=O.row 47 none [z1];An [_,_,wr .i64 (x*wB)=p,_,_,wr .i64 (y*wA)=p2,(p != p2)=true,An [(0:Int)<=z4,z4<=z4,(↑(8:Nat):Int)*z4<=(281474976710656:Int),z4<=(9223372036854775807:Int)],An [Sm (V.ptr 3 0),Sm (V.ptr 4 0),Sm (V.ptr 5 0),Sm (V.ptr 6 0),z3=z3,z1=z1,Sm (i6 ↑q),i6 0=i6 ↑(0:Nat),Tt],_,∀(h:Nat)(H:T O)(nx:Nat)(lg:List Nat),(H=pt (Ai T.e 0 (Ed ga na RA gb nb RB q NA NB cs xs vals X Y P wA wB V.nils (↑k:Int)++[Lb,Ay u])) 14 (Ay mx)/\nx=15/\∀(g:Nat),List.Mem g lg->List.Mem g z5)->(gt H 5=some (Cw V.nils)/\Bg 0 [V.nils] [z1]=some [z1])/\(gt (pt H 5 z7) 6=some (D6 (0:Int))/\Bg 0 [i6 0] [i6 0]=some [i6 0])/\pt (pt H 5 z7) 6 (O.row 39 none [i6 0])=Ai T.e 0 (Ed ga na RA gb nb RB q NA NB cs xs vals X Y P wA wB z1 (↑k:Int)++[Lb,Ay u,Ay mx])/\nx=15/\∀(g:Nat),List.Mem g ([6]++([5]++lg))->List.Mem g z5]) ⟨Ar hk,s1,aq,Ar hk,s2,aq,aq,a_,a_,hin,?_⟩
 (repeat'(first|(with_reducible apply And.intro)|(refine λ(_:True)=>?_)))<;>first|exact aq|skip
 all_goals first|exact s1|exact s2|exact hin|(rw[hp,BG o_ o_];done)|(rw[hp2,BG o_ o_];done)|kernel_rfl|skip
 all_goals(rintro h H nx' lg' ⟨rfl,rfl,hs'⟩;(repeat'(first|(with_reducible apply And.intro)|(refine λ(_:True)=>?_)));all_goals first|exact aq|rfl|kernel_rfl|(intro g hg;change g∈6::5::lg' at hg;change g∈[5,6,11,12,14];rcases aK.1 hg with rfl|hg;simp;rcases aK.1 hg with rfl|hg;simp;exact hs' g hg)|skip)
end
section
variable (ga:Int) (na:Nat) (RA:List V) (gb:Int) (nb:Nat) (RB:List V) (q:Nat) (NA NB:List V) (cs:List Int) (xs ys:Nat) (vals:List Int) (X Y:List Int) (P:Nat) (wA wB:Int)
abbrev G9:SL:={sl:=[(8,.ptr 2 0),(9,.ptr 3 0),(11,.ptr 4 0),(12,.ptr 5 0),(13,.ptr 6 0),(16,.ptr 7 0),(18,.ptr 8 0),(19,.ptr 9 0),(20,.ptr 10 0),(21,.ptr 11 0),(77,.fn 87 [.imp [.im q (Aa cs)],.imp [u6 ys]])],os:=Ed ga na RA gb nb RB q NA NB cs xs vals X Y P wA wB .nils 0}
abbrev rV(mx:List Int):SL:={sl:=[(12,.ptr 0 0),(13,.ptr 1 0)],os:=[Cw (.sl 2 0 q (some (q-q))),D6 0,Ay mx],md:=[1,0,0]}
abbrev VP(v:V):SL:={sl:=[(12,.ptr 0 0),(13,.ptr 1 0)],os:=[Cw v,D6 0],md:=[1,0]}
variable (hRA:Ba RA) (hRB:Ba RB) (hNA:Ba NA) (hNB:Ba NB) (h5:q<=5) (hcl:cs.length=q) (hvl:vals.length=q) (hX:X.length=P) (hY:Y.length=P) (hP:P<=1024)
 (hXb: ∀i,i<P->0<=X.getD i 0/\X.getD i 0<=429981696) (hYb: ∀i,i<P->0<=Y.getD i 0/\Y.getD i 0<=429981696) (hwA:1<=wA/\wA<=429981696) (hwB:1<=wB/\wB<=429981696)
 (hys:ys<2^64) (hc: ∀i,i<q->1<=cs.getD i 0/\cs.getD i 0<=4) (hPe:(P:Int)=Aw (Ax cs ys) q) (hP1:1<=P)
include hRA hRB hNA hNB h5 hcl hvl hX hY hP hXb hYb hwA hwB hys hc hPe hP1
theorem lT(L:O)(hL:L= .loop .ready none 0 (Al g0 123 (G9 ga na RA gb nb RB q NA NB cs xs ys vals X Y P wA wB)).tm [78] Wi Uh)(k:Nat)(hk:k<P)(he:X.getD k 0*wB=Y.getD k 0*wA)(u:List Int)(hu:u.length=q):
  Ac Pg g0 (.yld 12) [.sl 13 0 q (some (q-q))] (Ai .e 0 (Ed ga na RA gb nb RB q NA NB cs xs vals X Y P wA wB .nils k++[L,Ay u])) 14 ⟨.bool true,Ai .e 0 (Ed ga na RA gb nb RB q NA NB cs xs vals X Y P wA wB .nils ((k+1:Nat):Int)++[L,Ay u]),14,[11,12]⟩:=by
 have hb:=λLb=>Zk ga na RA gb nb RB q NA NB cs xs vals X Y P wA wB hRA hRB hNA hNB h5 hcl hvl hX hY hP hXb hYb hwA hwB k hk he (.sl 13 0 q (some (q-q))) u hu Lb
 refine Ac.yldC vE_ok Bx Gy (n:=123) (fn0:=0) (tm:=(Al g0 123 (G9 ga na RA gb nb RB q NA NB cs xs ys vals X Y P wA wB)).tm) (ps:=[78]) (assign:=Wi) (body:=Uh) (hs0:=[]) (hs1:=λ_=>[pl 81,ld 82 (i6 (X.getD k 0)),nu 84 (X.getD k 0*wB),pl 87,ld 88 (i6 (Y.getD k 0)),nu 90 (Y.getD k 0*wA),no 91,nu 122 ((k+1:Nat):Int)]) (m0:=1000) (m1:=1000) (sl0:=VQ (.sl 13 0 q (some (q-q)))) (sl1:=KL (.sl 13 0 q (some (q-q)))) ?_ rfl rfl rfl ⟨rfl,rfl,rfl,rfl,rfl,rfl,rfl,rfl,rfl,rfl,rfl,trivial⟩ (lU _) (λLb=>?_) s_ (λi hi=>?_) ?_
 .rw[Cm,E8,hL];rfl
 .have e4: ∀k,pt (Ai .e 0 (Ed ga na RA gb nb RB q NA NB cs xs vals X Y P wA wB .nils k++[L,Ay u])) 12 Lb=Ai .e 0 (Ed ga na RA gb nb RB q NA NB cs xs vals X Y P wA wB .nils k++[Lb,Ay u]):=λk=>k_
  rw[e4,e4]
  exact hb Lb
 .rw[E8,E8]
  simp only[aK,bE,or_false,not_or]at hi
  rcases(show i<11\/13<=i by omega)with h7|h7
  .rcases(show i=0\/i=1\/i=2\/i=3\/i=4\/i=5\/i=6\/i=7\/i=8\/i=9\/i=10 by omega)with rfl|rfl|rfl|rfl|rfl|rfl|rfl|rfl|rfl|rfl|rfl<;>rfl
  .obtain⟨d,rfl⟩: ∃d,i=d+13:=⟨i-13,o_⟩
   rfl
 .rw[Cm,E8,hL];rfl
theorem PY(L:O)(j:Nat):V8 (Ai .e 0 (Ed ga na RA gb nb RB q NA NB cs xs vals X Y P wA wB .nils 0++[L])) (λj=>Ai .e 0 (Ed ga na RA gb nb RB q NA NB cs xs vals X Y P wA wB .nils ((j+1:Nat):Int)++[L,Ay (A7 (Ax cs ys) j)])) 13 (Ax cs ys) j=Ai .e 0 (Ed ga na RA gb nb RB q NA NB cs xs vals X Y P wA wB .nils j++[L,Ay (A7 (Ax cs ys) j)]):=by
 cases j with
 |zero=>kernel_rfl
 |succ j=>kernel_rfl
theorem Zl(heq: ∀k,k<P->X.getD k 0*wB=Y.getD k 0*wA):Au Pg none 0 Wh (Al g0 123 (G9 ga na RA gb nb RB q NA NB cs xs ys vals X Y P wA wB)) (B3 g0 123 [(True,.normal,VP .nils)]):=by
 rw[Ug]
 obtain⟨L,hL⟩: ∃L:O,L= .loop .ready none 0 (Al g0 123 (G9 ga na RA gb nb RB q NA NB cs xs ys vals X Y P wA wB)).tm [78] Wi Uh:=⟨_,rfl⟩
 have hcall:=UA cs ys q hcl hys o_ hc P hPe P hP1 (aC _) (λ_=>true) (λ_ _=>rfl) (λ_=>rfl) 12 13 (Ai .e 0 (Ed ga na RA gb nb RB q NA NB cs xs vals X Y P wA wB .nils 0++[L])) (λj=>Ai .e 0 (Ed ga na RA gb nb RB q NA NB cs xs vals X Y P wA wB .nils ((j+1:Nat):Int)++[L,Ay (A7 (Ax cs ys) j)])) (λ_=>14) [11,12] rfl (λj hj=>by rw[Cm,E8];rfl) (λj hj=>by
  rw[PY ga na RA gb nb RB q NA NB cs xs ys vals X Y P wA wB hRA hRB hNA hNB h5 hcl hvl hX hY hP hXb hYb hwA hwB hys hc hPe hP1]
  exact lT ga na RA gb nb RB q NA NB cs xs ys vals X Y P wA wB hRA hRB hNA hNB h5 hcl hvl hX hY hP hXb hYb hwA hwB hys hc hPe hP1 L hL j hj (heq j hj) _ (by rw[Li,Mb,hcl])) (by
  obtain⟨m,rfl⟩: ∃m,P=m+1:=⟨P-1,o_⟩
  have e:Mk (λj=>Ai .e 0 (Ed ga na RA gb nb RB q NA NB cs xs vals X Y (m+1) wA wB .nils ((j+1:Nat):Int)++[L,Ay (A7 (Ax cs ys) j)])) 13 (Ax cs ys) (m+1) true=Ai .e 0 (Ed ga na RA gb nb RB q NA NB cs xs vals X Y (m+1) wA wB .nils ((m+1:Nat):Int)++[L,Ay (A7 (Ax cs ys) (m+1))]):=k_
  rw[e]
  refine⟨by simp,λi hi hn=>?_⟩
  rw[E8,E8]
  simp only[aK,bE,or_false,not_or]at hi
  rcases(show i=0\/i=1\/i=2\/i=3\/i=4\/i=5\/i=6\/i=7\/i=8\/i=9\/i=10\/14<=i by omega)with rfl|rfl|rfl|rfl|rfl|rfl|rfl|rfl|rfl|rfl|rfl|h7
  all_goals first|rfl|(obtain⟨d,rfl⟩: ∃d,i=d+14:=⟨i-14,o_⟩;rfl))
 obtain⟨m,rfl⟩: ∃m,P=m+1:=⟨P-1,o_⟩
 have e:Mk (λj=>Ai .e 0 (Ed ga na RA gb nb RB q NA NB cs xs vals X Y (m+1) wA wB .nils ((j+1:Nat):Int)++[L,Ay (A7 (Ax cs ys) j)])) 13 (Ax cs ys) (m+1) true=Ai .e 0 (Ed ga na RA gb nb RB q NA NB cs xs vals X Y (m+1) wA wB .nils ((m+1:Nat):Int)++[L,Ay (A7 (Ax cs ys) (m+1))]):=k_
 rw[e]at hcall
 generalize A7 (Ax cs ys) (m+1)=u at*
 refine Au.rangeC (r:=[5,6]) (S:=G9 ga na RA gb nb RB q NA NB cs xs ys vals X Y (m+1) wA wB) (f:=87) (caps:=[.imp [.im q (Aa cs)],.imp [u6 ys]]) rfl rfl (by rw[hL]at hcall;exact hcall) ?_ ?_
 .rw[Cm,E8];rfl
 .clear hcall hL hXb hYb heq hc hPe e
  exact m_ (p:=An [An [Zz,Zz,Tt],An [Tt,Tt],An [Sm [i6 0],Tt,Tt],Tt]) a_
theorem Zj(i:Nat)(hi:i<P)(heq: ∀k,k<i->X.getD k 0*wB=Y.getD k 0*wA)(hne:X.getD i 0*wB≠Y.getD i 0*wA):Au Pg none 0 Wh (Al g0 123 (G9 ga na RA gb nb RB q NA NB cs xs ys vals X Y P wA wB)) (B3 g0 123 [(True,.ret,VP (.im q (Aa (Cz q xs vals λv=>(A7 (Ax cs ys) i).getD v 0))))]):=by
 rw[Ug]
 obtain⟨T0,hT0⟩: ∃T0:TM,T0=(Al g0 123 (G9 ga na RA gb nb RB q NA NB cs xs ys vals X Y P wA wB)).tm:=⟨_,rfl⟩
 obtain⟨L,hL⟩: ∃L:O,L= .loop .ready none 0 T0 [78] Wi Uh:=⟨_,rfl⟩
 obtain⟨D,hD⟩: ∃D:O,D= .loop .done (some .ret) 0 T0 [78] Wi Uh:=⟨_,rfl⟩
 obtain⟨KK,hKK⟩: ∃KK:Nat->T O,KK=λj=>if j<i then Ai .e 0 (Ed ga na RA gb nb RB q NA NB cs xs vals X Y P wA wB .nils ((j+1:Nat):Int)++[L,Ay (A7 (Ax cs ys) j)])else Ai .e 0 (Ed ga na RA gb nb RB q NA NB cs xs vals X Y P wA wB (.sl 14 0 q (some (q-q))) i++[D,Ay (A7 (Ax cs ys) i),Ay (Cz q xs vals λv=>(A7 (Ax cs ys) i).getD v 0)]):=⟨_,rfl⟩
 have kk1: ∀j,j<i->KK j=Ai .e 0 (Ed ga na RA gb nb RB q NA NB cs xs vals X Y P wA wB .nils ((j+1:Nat):Int)++[L,Ay (A7 (Ax cs ys) j)]):=λj hj=>by rw[hKK];exact if_pos hj
 have kk2:KK i=Ai .e 0 (Ed ga na RA gb nb RB q NA NB cs xs vals X Y P wA wB (.sl 14 0 q (some (q-q))) i++[D,Ay (A7 (Ax cs ys) i),Ay (Cz q xs vals λv=>(A7 (Ax cs ys) i).getD v 0)]):=by rw[hKK];exact if_neg o_
 have hh: ∀j,j<=i->V8 (Ai .e 0 (Ed ga na RA gb nb RB q NA NB cs xs vals X Y P wA wB .nils 0++[L])) KK 13 (Ax cs ys) j=Ai .e 0 (Ed ga na RA gb nb RB q NA NB cs xs vals X Y P wA wB .nils j++[L,Ay (A7 (Ax cs ys) j)]):=λj hj=>by
  cases j with
  |zero=>kernel_rfl
  |succ j=>
   show pt (KK j) 13 (Ay (A7 (Ax cs ys) (j+1)))=_
   rw[kk1 j o_]
   kernel_rfl
 have hul: ∀j,(A7 (Ax cs ys) j).length=q:=λj=>by rw[Li,Mb,hcl]
 have hcall:=UA cs ys q hcl hys o_ hc P hPe (i+1) o_ o_ (λj=>decide (j≠i)) (λj hj=>decide_eq_true o_) (λh=>by simp at h) 12 13 (Ai .e 0 (Ed ga na RA gb nb RB q NA NB cs xs vals X Y P wA wB .nils 0++[L])) KK (λj=>if j<=i then 14 else 15) [5,6,11,12,14] rfl (λj hj=>by
  by_cases hji:j<i
  .rw[kk1 j hji,Cm,E8];rfl
  .have:j=i:=o_
   subst this
   rw[kk2,Cm,E8];rfl) (λj hj=>by
  rw[hh j o_]
  by_cases hji:j<i
  .rw[decide_eq_true (show j≠i by omega),kk1 j hji,if_pos o_,if_pos o_]
   exact Ac.moreL (r:=⟨_,_,_,[11,12]⟩) (lT ga na RA gb nb RB q NA NB cs xs ys vals X Y P wA wB hRA hRB hNA hNB h5 hcl hvl hX hY hP hXb hYb hwA hwB hys hc hPe hP1 L (by rw[hL,hT0]) j o_ (heq j hji) _ (hul j)) (λx hx=>by simp only[aK,bE,or_false]at hx⊢;omega)
  .have:j=i:=o_
   subst this
   rw[decide_eq_false s_,kk2,if_pos o_,if_neg o_]
   have hb:=λLb=>uU ga na RA gb nb RB q NA NB cs xs vals X Y P wA wB hRA hRB hNA hNB h5 hcl hvl hX hY hP hXb hYb hwA hwB j hi hne (A7 (Ax cs ys) j) (hul j) Lb
   generalize A7 (Ax cs ys) j=u at*
   generalize (Cz q xs vals λv=>u.getD v 0)=mx at*
   have e5: ∀Lb,pt (Ai .e 0 (Ed ga na RA gb nb RB q NA NB cs xs vals X Y P wA wB (.sl 14 0 q (some (q-q))) j++[.dead,Ay u,Ay mx])) 12 Lb=Ai .e 0 (Ed ga na RA gb nb RB q NA NB cs xs vals X Y P wA wB (.sl 14 0 q (some (q-q))) j++[Lb,Ay u,Ay mx]):=λLb=>k_
   have:=Ac.yldR vE_ok Bx Gy (hd:=12) (H:=Ai .e 0 (Ed ga na RA gb nb RB q NA NB cs xs vals X Y P wA wB .nils j++[L,Ay u])) (H2:=Ai .e 0 (Ed ga na RA gb nb RB q NA NB cs xs vals X Y P wA wB (.sl 14 0 q (some (q-q))) j++[.dead,Ay u,Ay mx])) (nx:=14) (nx2:=15) (ars:=[.sl 13 0 q (some (q-q))]) (n:=123) (fn0:=0) (tm:=T0) (ps:=[78]) (assign:=Wi) (body:=Uh) (L:=[5,6,11,12,14]) (hs0:=[]) (hs1:=λLb=>(hb Lb).choose) (m0:=1000) (m1:=1000) (sl0:=VQ (.sl 13 0 q (some (q-q)))) (sl1:=KL (.sl 13 0 q (some (q-q)))) (by rw[Cm,E8,hL];rfl) rfl (by rw[hT0];rfl) (by rw[hT0];rfl) (by rw[hT0];exact⟨rfl,rfl,rfl,rfl,rfl,rfl,rfl,rfl,rfl,rfl,rfl,trivial⟩) (lU _) (λLb=>by
     have e4:pt (Ai .e 0 (Ed ga na RA gb nb RB q NA NB cs xs vals X Y P wA wB .nils j++[L,Ay u])) 12 Lb=Ai .e 0 (Ed ga na RA gb nb RB q NA NB cs xs vals X Y P wA wB .nils j++[Lb,Ay u]):=k_
     rw[e4,e5]
     have h1:=(hb Lb).choose_spec
     exact h1) s_ ?_
   .rw[e5]at this
    rw[hD]
    exact this
   .rw[e5]
    refine⟨o_,λi2 hi2 hn=>?_⟩
    rw[E8,E8]
    simp only[aK,bE,or_false,not_or]at hi2
    rcases(show i2=0\/i2=1\/i2=2\/i2=3\/i2=4\/i2=7\/i2=8\/i2=9\/i2=10\/i2=13\/15<=i2 by omega)with rfl|rfl|rfl|rfl|rfl|rfl|rfl|rfl|rfl|rfl|h7
    all_goals first|rfl|(obtain⟨d,rfl⟩: ∃d,i2=d+15:=⟨i2-15,o_⟩;rfl)) (by
  have e:Mk KK 13 (Ax cs ys) (i+1) (decide (i+1-1≠i))=KK i:=by rw[decide_eq_false s_];rfl
  rw[e,kk2,if_neg o_]
  refine⟨o_,λi2 hi2 hn=>?_⟩
  rw[E8,E8]
  simp only[aK,bE,or_false,not_or]at hi2
  rcases(show i2=0\/i2=1\/i2=2\/i2=3\/i2=4\/i2=7\/i2=8\/i2=9\/i2=10\/15<=i2 by omega)with rfl|rfl|rfl|rfl|rfl|rfl|rfl|rfl|rfl|h7
  all_goals first|rfl|(obtain⟨d,rfl⟩: ∃d,i2=d+15:=⟨i2-15,o_⟩;rfl))
 have e:Mk KK 13 (Ax cs ys) (i+1) (decide (i+1-1≠i))=KK i:=by rw[decide_eq_false s_];rfl
 rw[e,kk2,if_neg o_]at hcall
 have hu:=hul i
 have hml:(Cz q xs vals λv=>(A7 (Ax cs ys) i).getD v 0).length=q:=Gf
 generalize (Cz q xs vals λv=>(A7 (Ax cs ys) i).getD v 0)=mx at*
 generalize A7 (Ax cs ys) i=u at*
 have hmm:=Ap mx
 refine Au.rangeR (r:=[5,6]) (S:=G9 ga na RA gb nb RB q NA NB cs xs ys vals X Y P wA wB) (f:=87) (caps:=[.imp [.im q (Aa cs)],.imp [u6 ys]]) rfl rfl (by rw[hL,hT0]at hcall;exact hcall) ?_ ?_
 .rw[Cm,E8,hD,hT0];rfl
 .clear hcall hL hXb hYb heq hc hPe e kk1 kk2 hh hKK hne hD hul
  subst hT0
  exact m_ (p:=An [An [Zz,Zz,Tt],An [An [q=q,Sm (Aa mx),_],Tt],An [Sm [i6 0],Tt,Tt],Tt]) ⟨a_,⟨⟨aq,aq,hmm⟩,aq⟩,a_⟩
theorem Uf(i:Nat)(hi:i<P)(heq: ∀k,k<i->X.getD k 0*wB=Y.getD k 0*wA)(hne:X.getD i 0*wB≠Y.getD i 0*wA):Au Pg none 0 Wh (Al g0 123 (G9 ga na RA gb nb RB q NA NB cs xs ys vals X Y P wA wB)) (B3 g0 123 [(True,.ret,rV q (Cz q xs vals λv=>(A7 (Ax cs ys) i).getD v 0))]):=by
 rw[Ug]
 obtain⟨T0,hT0⟩: ∃T0:TM,T0=(Al g0 123 (G9 ga na RA gb nb RB q NA NB cs xs ys vals X Y P wA wB)).tm:=⟨_,rfl⟩
 obtain⟨L,hL⟩: ∃L:O,L= .loop .ready none 0 T0 [78] Wi Uh:=⟨_,rfl⟩
 obtain⟨D,hD⟩: ∃D:O,D= .loop .done (some .ret) 0 T0 [78] Wi Uh:=⟨_,rfl⟩
 obtain⟨KK,hKK⟩: ∃KK:Nat->T O,KK=λj=>if j<i then Ai .e 0 (Ed ga na RA gb nb RB q NA NB cs xs vals X Y P wA wB .nils ((j+1:Nat):Int)++[L,Ay (A7 (Ax cs ys) j)])else Ai .e 0 (Ed ga na RA gb nb RB q NA NB cs xs vals X Y P wA wB (.sl 14 0 q (some (q-q))) i++[D,Ay (A7 (Ax cs ys) i),Ay (Cz q xs vals λv=>(A7 (Ax cs ys) i).getD v 0)]):=⟨_,rfl⟩
 have kk1: ∀j,j<i->KK j=Ai .e 0 (Ed ga na RA gb nb RB q NA NB cs xs vals X Y P wA wB .nils ((j+1:Nat):Int)++[L,Ay (A7 (Ax cs ys) j)]):=λj hj=>by rw[hKK];exact if_pos hj
 have kk2:KK i=Ai .e 0 (Ed ga na RA gb nb RB q NA NB cs xs vals X Y P wA wB (.sl 14 0 q (some (q-q))) i++[D,Ay (A7 (Ax cs ys) i),Ay (Cz q xs vals λv=>(A7 (Ax cs ys) i).getD v 0)]):=by rw[hKK];exact if_neg o_
 have hh: ∀j,j<=i->V8 (Ai .e 0 (Ed ga na RA gb nb RB q NA NB cs xs vals X Y P wA wB .nils 0++[L])) KK 13 (Ax cs ys) j=Ai .e 0 (Ed ga na RA gb nb RB q NA NB cs xs vals X Y P wA wB .nils j++[L,Ay (A7 (Ax cs ys) j)]):=λj hj=>by
  cases j with
  |zero=>kernel_rfl
  |succ j=>
   show pt (KK j) 13 (Ay (A7 (Ax cs ys) (j+1)))=_
   rw[kk1 j o_]
   kernel_rfl
 have hul: ∀j,(A7 (Ax cs ys) j).length=q:=λj=>by rw[Li,Mb,hcl]
 have hcall:=UA cs ys q hcl hys o_ hc P hPe (i+1) o_ o_ (λj=>decide (j≠i)) (λj hj=>decide_eq_true o_) (λh=>by simp at h) 12 13 (Ai .e 0 (Ed ga na RA gb nb RB q NA NB cs xs vals X Y P wA wB .nils 0++[L])) KK (λj=>if j<=i then 14 else 15) [5,6,11,12,14] rfl (λj hj=>by
  by_cases hji:j<i
  .rw[kk1 j hji,Cm,E8];rfl
  .have:j=i:=o_
   subst this
   rw[kk2,Cm,E8];rfl) (λj hj=>by
  rw[hh j o_]
  by_cases hji:j<i
  .rw[decide_eq_true (show j≠i by omega),kk1 j hji,if_pos o_,if_pos o_]
   exact Ac.moreL (r:=⟨_,_,_,[11,12]⟩) (lT ga na RA gb nb RB q NA NB cs xs ys vals X Y P wA wB hRA hRB hNA hNB h5 hcl hvl hX hY hP hXb hYb hwA hwB hys hc hPe hP1 L (by rw[hL,hT0]) j o_ (heq j hji) _ (hul j)) (λx hx=>by simp only[aK,bE,or_false]at hx⊢;omega)
  .have:j=i:=o_
   subst this
   rw[decide_eq_false s_,kk2,if_pos o_,if_neg o_]
   have hb:=λLb=>uU ga na RA gb nb RB q NA NB cs xs vals X Y P wA wB hRA hRB hNA hNB h5 hcl hvl hX hY hP hXb hYb hwA hwB j hi hne (A7 (Ax cs ys) j) (hul j) Lb
   generalize A7 (Ax cs ys) j=u at*
   generalize (Cz q xs vals λv=>u.getD v 0)=mx at*
   have e5: ∀Lb,pt (Ai .e 0 (Ed ga na RA gb nb RB q NA NB cs xs vals X Y P wA wB (.sl 14 0 q (some (q-q))) j++[.dead,Ay u,Ay mx])) 12 Lb=Ai .e 0 (Ed ga na RA gb nb RB q NA NB cs xs vals X Y P wA wB (.sl 14 0 q (some (q-q))) j++[Lb,Ay u,Ay mx]):=λLb=>k_
   have:=Ac.yldR vE_ok Bx Gy (hd:=12) (H:=Ai .e 0 (Ed ga na RA gb nb RB q NA NB cs xs vals X Y P wA wB .nils j++[L,Ay u])) (H2:=Ai .e 0 (Ed ga na RA gb nb RB q NA NB cs xs vals X Y P wA wB (.sl 14 0 q (some (q-q))) j++[.dead,Ay u,Ay mx])) (nx:=14) (nx2:=15) (ars:=[.sl 13 0 q (some (q-q))]) (n:=123) (fn0:=0) (tm:=T0) (ps:=[78]) (assign:=Wi) (body:=Uh) (L:=[5,6,11,12,14]) (hs0:=[]) (hs1:=λLb=>(hb Lb).choose) (m0:=1000) (m1:=1000) (sl0:=VQ (.sl 13 0 q (some (q-q)))) (sl1:=KL (.sl 13 0 q (some (q-q)))) (by rw[Cm,E8,hL];rfl) rfl (by rw[hT0];rfl) (by rw[hT0];rfl) (by rw[hT0];exact⟨rfl,rfl,rfl,rfl,rfl,rfl,rfl,rfl,rfl,rfl,rfl,trivial⟩) (lU _) (λLb=>by
     have e4:pt (Ai .e 0 (Ed ga na RA gb nb RB q NA NB cs xs vals X Y P wA wB .nils j++[L,Ay u])) 12 Lb=Ai .e 0 (Ed ga na RA gb nb RB q NA NB cs xs vals X Y P wA wB .nils j++[Lb,Ay u]):=k_
     rw[e4,e5]
     have h1:=(hb Lb).choose_spec
     exact h1) s_ ?_
   .rw[e5]at this
    rw[hD]
    exact this
   .rw[e5]
    refine⟨o_,λi2 hi2 hn=>?_⟩
    rw[E8,E8]
    simp only[aK,bE,or_false,not_or]at hi2
    rcases(show i2=0\/i2=1\/i2=2\/i2=3\/i2=4\/i2=7\/i2=8\/i2=9\/i2=10\/i2=13\/15<=i2 by omega)with rfl|rfl|rfl|rfl|rfl|rfl|rfl|rfl|rfl|rfl|h7
    all_goals first|rfl|(obtain⟨d,rfl⟩: ∃d,i2=d+15:=⟨i2-15,o_⟩;rfl)) (by
  have e:Mk KK 13 (Ax cs ys) (i+1) (decide (i+1-1≠i))=KK i:=by rw[decide_eq_false s_];rfl
  rw[e,kk2,if_neg o_]
  refine⟨o_,λi2 hi2 hn=>?_⟩
  rw[E8,E8]
  simp only[aK,bE,or_false,not_or]at hi2
  rcases(show i2=0\/i2=1\/i2=2\/i2=3\/i2=4\/i2=7\/i2=8\/i2=9\/i2=10\/15<=i2 by omega)with rfl|rfl|rfl|rfl|rfl|rfl|rfl|rfl|rfl|h7
  all_goals first|rfl|(obtain⟨d,rfl⟩: ∃d,i2=d+15:=⟨i2-15,o_⟩;rfl))
 have e:Mk KK 13 (Ax cs ys) (i+1) (decide (i+1-1≠i))=KK i:=by rw[decide_eq_false s_];rfl
 rw[e,kk2,if_neg o_]at hcall
 have hu:=hul i
 have hml:(Cz q xs vals λv=>(A7 (Ax cs ys) i).getD v 0).length=q:=Gf
 generalize (Cz q xs vals λv=>(A7 (Ax cs ys) i).getD v 0)=mx at*
 generalize A7 (Ax cs ys) i=u at*
 have hmm:=Ap mx
 refine Au.rangeR (r:=[5,6,14]) (S:=G9 ga na RA gb nb RB q NA NB cs xs ys vals X Y P wA wB) (f:=87) (caps:=[.imp [.im q (Aa cs)],.imp [u6 ys]]) rfl rfl (by rw[hL,hT0]at hcall;exact hcall) ?_ ?_
 .rw[Cm,E8,hD,hT0];rfl
 .clear hcall hL hXb hYb heq hc hPe e kk1 kk2 hh hKK hne hD hul
  subst hT0
  exact m_ (p:=An [An [Zz,Zz,Tt],An [An [Zz,q=q,Sm (q-q)],Tt],An [Sm [i6 0],Tt,Tt],An [Sm (Aa mx),_],Tt]) ⟨a_,a_,a_,⟨aq,hmm⟩,aq⟩
end
def Lz(X Y:List Int)(wA wB:Int)(P:Nat):Option Nat:=(List.range P).find? λi=>decide (X.getD i 0*wB≠Y.getD i 0*wA)
theorem yE(h:Lz X Y wA wB P=none): ∀k,k<P->X.getD k 0*wB=Y.getD k 0*wA:=λk hk=>by
 have:=List.find?_eq_none.1 h k (bB.2 hk)
 simpa using this
theorem oY{i:Nat}(h:Lz X Y wA wB P=some i):i<P/\X.getD i 0*wB≠Y.getD i 0*wA/\∀k,k<i->X.getD k 0*wB=Y.getD k 0*wA:=by
 unfold Lz at h
 have h1:=bB.1 (List.mem_of_find?_eq_some h)
 have h2:=List.find?_some h
 refine⟨h1,by simpa using h2,λk hk=>?_⟩
 obtain⟨_,pa,pb,hab,hno⟩:=List.find?_eq_some_iff_append.1 h
 have hl:pa.length=i:=by
  have h3:(List.range P)[pa.length]? =some i:=by rw[hab];simp
  obtain⟨h4,h5⟩:=aM.1 h3
  simpa using h5
 have hk2:k∈pa:=by
  have h3:(List.range P)[k]? =some k:=by rw[eA o_]
  rw[hab,bN o_]at h3
  exact bG h3
 have:=hno k hk2
 simpa using this
def jO(q xs:Nat)(vals cs:List Int)(ys:Nat):Option Nat->V
 |none=>.nils
 |some i=>.im q (Aa (Cz q xs vals λv=>(A7 (Ax cs ys) i).getD v 0))
section
variable {ga gb:Int} {RA RB:List (List Int)} {NA NB:List Mc} (hlA:B8 RA NA) (hlB:B8 RB NB) (hA:Ck ga RA NA=true) (hB:Ck gb RB NB=true) (hs:Aq NA=Aq NB) {xs ys:Nat} (hxs:xs<2^64) (hys:ys<2^64) {vals:List Int} (hvl:vals.length=NA.length) (hval:Co (Aq NA) vals NA.length)
include hlA hlB hA hB hs hxs hys hvl hval
theorem Ub:Ag Pg g0 48 [Bd ga RA NA,Bd gb RB NB,sl (Aq NA),u6 xs,u6 ys,sl vals] (.tup [jO NA.length xs vals (Aq NA) ys (Lz (Df RA NA (Bc NA.length xs vals) ys) (Df RB NB (Bc NA.length xs vals) ys) (ga^RA.length) (gb^RB.length) (Df RA NA (Bc NA.length xs vals) ys).length),i6 0]):=by
 have hMA:=Is hA
 have hMB:=Is hB
 have hq:=hMA.q1
 have hcl:=Eg (N:=NA)
 have hcb:=SP hMA.cd
 have hql:NA.length=NB.length:=by rw[<-hcl,hs,Eg]
 have hSA:=JI (xs:=xs) hMA.cd hval
 have hSB:Ey NB (Bc NA.length xs vals)=true:=by
  rw[hql]
  exact JI hMB.cd (by rw[<-hs,<-hql];exact hval)
 have heA:=ZK ga RA NA hlA hA (Bc NA.length xs vals) (by rw[Gf];omega) hSA ys hys
 have heB:=ZK gb RB NB hlB hB (Bc NA.length xs vals) (by rw[Gf];omega) hSB ys hys
 rw[<-hs]at heB
 have hXb:=YD (s:=ys) hMA (V0 hSA)
 have hYb:=YD (s:=ys) hMB (V0 hSB)
 have hXl:=EA (R:=RA) (N:=NA) (act:=Bc NA.length xs vals) (s:=ys)
 have hYl:=EA (R:=RB) (N:=NB) (act:=Bc NA.length xs vals) (s:=ys)
 rw[<-hs,<-hXl]at hYl
 rw[hYl]at hYb
 have hP4:=IU (s:=ys) hcb o_ (Aq NA).length (aC _)
 have hPe:((Df RA NA (Bc NA.length xs vals) ys).length:Int)=Aw (Ax (Aq NA) ys) NA.length:=by rw[hXl,hcl];rw[hcl]at hP4;omega
 have hwA:=MG ga RA NA hMA.g1 hMA.n1
 have hwB:=MG gb RB NB hMB.g1 hMB.n1
 have bwA:=L9 hMA.g1 hMA.n1
 have bwB:=L9 hMB.g1 hMB.n1
 have hcf:=TZ (Aq NA) ys
 have hRA:=B7 RA
 have hNA:=Cl NA
 have hRB:=B7 RB
 have hNB:=Cl NB
 have hl1:=uV ga RA.length (Ah RA) gb RB.length (Ah RB) NA.length (Ak NA) (Ak NB) (Aq NA) xs ys vals hRA hRB hNA hNB hq.2 hcl hvl
 have hact:(Bc NA.length xs vals).length=NA.length:=Gf
 rw[JM]at hl1
 generalize Df RA NA (Bc NA.length xs vals) ys=X at*
 generalize Df RB NB (Bc NA.length xs vals) ys=Y at*
 have hP1:1<=X.length:=by rw[<-hcl]at hPe;omega
 have hP2:X.length<=1024:=by rw[<-hcl]at hPe;omega
 have hfn:=Zl ga RA.length (Ah RA) gb RB.length (Ah RB) NA.length (Ak NA) (Ak NB) (Aq NA) xs ys vals X Y X.length (ga^RA.length) (gb^RB.length) hRA hRB hNA hNB hq.2 hcl hvl rfl hYl hP2 hXb hYb bwA bwB hys (by rw[<-hcl];exact hcb) hPe hP1
 have hfs:=Zj ga RA.length (Ah RA) gb RB.length (Ah RB) NA.length (Ak NA) (Ak NB) (Aq NA) xs ys vals X Y X.length (ga^RA.length) (gb^RB.length) hRA hRB hNA hNB hq.2 hcl hvl rfl hYl hP2 hXb hYb bwA bwB hys (by rw[<-hcl];exact hcb) hPe hP1
 generalize Bc NA.length xs vals=act at*
 have hacc:=Ap act
 have hxx:=Ap X
 have hyy:=Ap Y
 have hvv:=Ap vals
 have e1:sl (Aq NA)= .im NA.length (Aa (Aq NA)):=by show V.im (Aq NA).length _=_;rw[hcl]
 have e2:sl act= .im NA.length (Aa act):=by show V.im act.length _=_;rw[hact]
 have e3:sl vals= .im NA.length (Aa vals):=by show V.im vals.length _=_;rw[hvl]
 have e4:sl Y= .im X.length (Aa Y):=by show V.im Y.length _=_;rw[hYl]
 rw[e1,e2]at heA heB
 rw[e4]at heB
 rw[e1]at hcf
 rw[e1,e3]
 unfold Bd at*
 rw[<-hql]at heB hwB⊢
 clear hMA hMB hXb hYb hcb hval hSA hSB hA hB hlA hlB hs hPe hP4 e1 e2 e3 e4 hXl
 have hcc:=Ap (Aq NA)
 have hwAB:ga=gb->RA.length=RB.length->ga^RA.length=gb^RB.length:=λa b=>by rw[a,b]
 generalize ga^RA.length=wA at*
 generalize gb^RB.length=wB at*
 cases hf:Lz X Y wA wB X.length with
 |none=>
  have hrg:=hfn (yE hf)
  clear hfn hfs hf
  show Ag Pg g0 _ _ (.tup [.nils,i6 0])
  refine K8 [0,1] {sl:=[(12,.ptr 0 0),(13,.ptr 1 0)],os:=[Cw .nils,D6 0]} [mk 27,(0,.loop [0,1,2,3,4,5,6,7] (QF ga RA.length (Ah RA) gb RB.length (Ah RB) NA.length (Ak NA) (Ak NB) (Aq NA) xs ys vals (0,List.replicate NA.length 0)) [(True,.exit 0,VR ga RA.length (Ah RA) gb RB.length (Ah RB) NA.length (Ak NA) (Ak NB) (Aq NA) xs ys vals act)]),fn 54 (.tup [sl X,i6 0]),fn 65 (.tup [.im X.length (Aa Y),i6 0]),fn 72 (i6 wA),fn 74 (i6 wB),fn 77 (.fn 87 [.imp [.im NA.length (Aa (Aq NA))],.imp [u6 ys]]),(0,.loop [0,1,2,3,4,5,6,7,8,9,10,11] (G9 ga RA.length (Ah RA) gb RB.length (Ah RB) NA.length (Ak NA) (Ak NB) (Aq NA) xs ys vals X Y X.length wA wB) [(True,.normal,VP .nils)])] ?_
  generalize Aq NA=cs at*
  generalize Ah RA=RRA at*
  generalize Ak NA=NNA at*
  generalize Ah RB=RRB at*
  generalize Ak NB=NNB at*
  exact m_ (p:=let y3:=An [Sm [i6 0],Tt,Tt];let z1:=[i6 ga,V.im RA.length RRA,V.im NA.length NNA];let z2:=[i6 gb,V.im RB.length RRB,V.im NA.length NNB];let z3:=V.im NA.length (Aa cs);let z4:=(↑NA.length:Int);let z5:=V.im NA.length (Aa vals);let z7:=V.im X.length (Aa Y);let z8:=[V.nils];let y0:=[u6 ↑xs];let y2:=(0:Int);let z0:=pt (pt (pt (pt (Ai T.e 0 [K7 ga RA.length RRA NA.length NNA,K7 gb RB.length RRB NA.length NNB,Cw z3,H9 xs,Cw z5,Cw V.nils,D6 y2]) 7 (O.row 47 none z8)) 7 (O.row 47 none [sl X])) 8 (O.row 47 none z8)) 8 (O.row 47 none [z7]);let z6:=List.replicate NA.length y2;An [Sm (V.tup [V.nils,i6 0]),An [y2<=z4,z4<=z4,(↑(8:Nat):Int)*z4<=(281474976710656:Int),z4<=(9223372036854775807:Int)],An [An [Sm (↑ys:Int),Zz,Zz,Zz,Zz,Zz,Zz,Zz,An [Zz,Sm NA.length,Sm (NA.length-NA.length)],z4=z4,(↑(0:Nat):Int)=y2,Tt],An [z1=z1,TT 3],An [z2=z2,TT 3],An [Sm [z3],Tt,Tt],An [y0=y0,Tt,Tt],An [Sm [z5],Tt,Tt],An [z8=z8,Tt,Tt],y3,An [Aa z6=Cx NA.length [i6 0],Ba (Aa z6)],Tt],_,(True->An [_,_,_,_,V.fn 42 []=V.fn 42 []->[V.agg z1]=[V.agg z2]->z0=z0->7+1+1=9->CR.mk (i6 wA) z0 9 []=CR.mk (i6 wB) z0 9 [],_,An [An [Zz,Zz,Zz,Zz,Zz,Zz,Zz,Zz,Zz,Zz,An [Sm [z3],Sm [(u6 ↑ys)],Tt],Tt],An [z1=z1,TT 3],An [z2=z2,TT 3],An [Sm [z3],Tt,Tt],An [y0=y0,Tt,Tt],An [Sm [z5],Tt,Tt],An [z8=z8,Tt,Tt],y3,An [[V.im X.length (Aa X)]=[sl X],Tt,Tt],An [Sm [z7],Tt,Tt],An [Sm [i6 wA],Tt,Tt],An [Sm [i6 wB],Tt,Tt],y3,Tt],_,(True->An [An [Zz,Zz,Tt],An [z8=z8,Tt,Tt],y3,Tt]),Tt]),Tt]) ⟨aq,a_,⟨a_,a_,a_,a_,a_,a_,a_,aq,⟨(Lh _ _).symm,aq⟩,aq⟩,hl1,(λ_=>⟨heA,heB,hwA,hwB,aq,hcf,a_,hrg,a_⟩),aq⟩
 |some i=>
  obtain⟨h1,h2,h3⟩:=oY hf
  have hrg:=hfs i h1 h3 h2
  clear hfn hfs hf h1 h2 h3
  show Ag Pg g0 _ _ (.tup [.im NA.length (Aa (Cz NA.length xs vals λv=>(A7 (Ax (Aq NA) ys) i).getD v 0)),i6 0])
  have hml:(Cz NA.length xs vals λv=>(A7 (Ax (Aq NA) ys) i).getD v 0).length=NA.length:=Gf
  generalize (Cz NA.length xs vals λv=>(A7 (Ax (Aq NA) ys) i).getD v 0)=mx at*
  have hmm:=Ap mx
  refine K8 [0,1] {sl:=[(12,.ptr 0 0),(13,.ptr 1 0)],os:=[Cw (.im NA.length (Aa mx)),D6 0],md:=[1,0]} [mk 27,(0,.loop [0,1,2,3,4,5,6,7] (QF ga RA.length (Ah RA) gb RB.length (Ah RB) NA.length (Ak NA) (Ak NB) (Aq NA) xs ys vals (0,List.replicate NA.length 0)) [(True,.exit 0,VR ga RA.length (Ah RA) gb RB.length (Ah RB) NA.length (Ak NA) (Ak NB) (Aq NA) xs ys vals act)]),fn 54 (.tup [sl X,i6 0]),fn 65 (.tup [.im X.length (Aa Y),i6 0]),fn 72 (i6 wA),fn 74 (i6 wB),fn 77 (.fn 87 [.imp [.im NA.length (Aa (Aq NA))],.imp [u6 ys]]),(0,.loop [0,1,2,3,4,5,6,7,8,9,10,11] (G9 ga RA.length (Ah RA) gb RB.length (Ah RB) NA.length (Ak NA) (Ak NB) (Aq NA) xs ys vals X Y X.length wA wB) [(True,.ret,VP (.im NA.length (Aa mx)))])] ?_
  generalize Aq NA=cs at*
  generalize Ah RA=RRA at*
  generalize Ak NA=NNA at*
  generalize Ah RB=RRB at*
  generalize Ak NB=NNB at*
  exact m_ (p:=let y4:=An [Sm [i6 0],Tt,Tt];let z1:=[i6 ga,V.im RA.length RRA,V.im NA.length NNA];let z2:=[i6 gb,V.im RB.length RRB,V.im NA.length NNB];let z3:=V.im NA.length (Aa cs);let z4:=(↑NA.length:Int);let z5:=V.im NA.length (Aa vals);let z7:=V.im X.length (Aa Y);let z9:=[V.nils];let y1:=[u6 ↑xs];let y3:=(0:Int);let z0:=pt (pt (pt (pt (Ai T.e 0 [K7 ga RA.length RRA NA.length NNA,K7 gb RB.length RRB NA.length NNB,Cw z3,H9 xs,Cw z5,Cw V.nils,D6 y3]) 7 (O.row 47 none z9)) 7 (O.row 47 none [sl X])) 8 (O.row 47 none z9)) 8 (O.row 47 none [z7]);let z6:=List.replicate NA.length y3;An [Sm (V.tup [(V.im NA.length (Aa mx)),i6 0]),An [y3<=z4,z4<=z4,(↑(8:Nat):Int)*z4<=(281474976710656:Int),z4<=(9223372036854775807:Int)],An [An [Sm (↑ys:Int),Zz,Zz,Zz,Zz,Zz,Zz,Zz,An [Zz,Sm NA.length,Sm (NA.length-NA.length)],z4=z4,(↑(0:Nat):Int)=y3,Tt],An [z1=z1,TT 3],An [z2=z2,TT 3],An [Sm [z3],Tt,Tt],An [y1=y1,Tt,Tt],An [Sm [z5],Tt,Tt],An [z9=z9,Tt,Tt],y4,An [Aa z6=Cx NA.length [i6 0],Ba (Aa z6)],Tt],_,(True->An [_,_,_,_,V.fn 42 []=V.fn 42 []->[V.agg z1]=[V.agg z2]->z0=z0->7+1+1=9->CR.mk (i6 wA) z0 9 []=CR.mk (i6 wB) z0 9 [],_,An [An [Zz,Zz,Zz,Zz,Zz,Zz,Zz,Zz,Zz,Zz,An [Sm [z3],Sm [(u6 ↑ys)],Tt],Tt],An [z1=z1,TT 3],An [z2=z2,TT 3],An [Sm [z3],Tt,Tt],An [y1=y1,Tt,Tt],An [Sm [z5],Tt,Tt],An [z9=z9,Tt,Tt],y4,An [[V.im X.length (Aa X)]=[sl X],Tt,Tt],An [Sm [z7],Tt,Tt],An [Sm [i6 wA],Tt,Tt],An [Sm [i6 wB],Tt,Tt],y4,Tt],_,(True->An [An [Zz,Zz,Tt],An [An [Sm NA.length,Sm (Aa mx)],Tt],y4,Tt]),Tt]),Tt]) ⟨aq,a_,⟨a_,a_,a_,a_,a_,a_,a_,aq,⟨(Lh _ _).symm,aq⟩,aq⟩,hl1,(λ_=>⟨heA,heB,hwA,hwB,aq,hcf,a_,hrg,a_⟩),aq⟩
end
theorem Zf{P:Program}{gl:T (List V)}{f:Nat}{ars ars':List V}{t:Nat}{sp room:Option Nat}{c:List V}{k:IntKind}{m:Int}{H:T O}{nx nx1:Nat}{rest:List O}(h:Ac P gl (.fn f []) ars .e 0 ⟨.tup [.sl 0 0 n room,.int k m],Ai .e 0 (.row t sp c::rest),nx1,[]⟩)(hv:A8 H.get (λ_=>True) (λ_=>none) ars ars')(hci:L7 c)(hn:c.length=n):Ac P gl (.fn f []) ars' H nx ⟨.tup [.im n c,.int k m],H,nx,[]⟩:=by
 refine⟨λs w fv vals hc hargs hH hgl hnn=>?_,C5.refl _ _ _⟩
 obtain⟨F,hFd⟩: ∃F:Nat->Prop,F=λb=>s.fz b\/∃g t sp c,H.get g=some (.row t sp c)/\b=s.μ g:=⟨_,rfl⟩
 have hF1: ∀b,s.fz b->F b:=λb hb=>by rw[hFd];exact .inl hb
 have hF2: ∀b,F b->b<w.heap.size:=λb hb=>by
  rw[hFd]at hb
  rcases hb with hb|⟨g,t,sp,c,hg,rfl⟩
  .exact hH.old b (.inl hb)
  .exact(hH.obj _ _ hg rfl).2.1
 have hF3:RL (sg F) w ars vals.toList:=A8.rl hH (s':=sg F) ⟨λ_ _ e=>(by cases e),λg t sp c _ hg=>by rw[hFd];exact .inr ⟨g,t,sp,c,hg,rfl⟩,hF1⟩ _ _ _ hv hargs
 obtain⟨next,e1,e2,e3⟩:=h.1 (sg F) w fv vals (Hf.rv (s':=sg F) hF1 _ _ trivial hc) hF3 (DP (λb hb=>hb.elim (hF2 b) False.elim)) (λg l hg=>RC.mono' (s':=sg F) hF1 (λ_ _=>rfl) l g 0 (hgl g l hg)) (λ_ _ h=>h)
 refine⟨next,e1,?_,e3⟩
 obtain⟨f',ars2,rfl⟩:=e3 ⟨f,[],rfl⟩
 refine CallsIn.mono e2 ?_
 rintro e w' ⟨u,s',rfl,⟨vs,rfl,u1,vs1,ev1,g1,u2,vs2,ev2,gu2,ev3⟩,g2,g3,g4,g5⟩
 have hone:(Ai .e 0 (.row t sp c::rest)).get 0=some (.row t sp c):=by
  rw[TB _ _ _ _ (aC _) s_];rfl
 obtain⟨o1,o2,o3,o4⟩:=g2.obj 0 _ hone rfl
 have hnew:w.heap.size<=s'.μ 0:=by
  rcases g3.new 0 o1 (λh=>h)with h|⟨k',hk,_⟩
  .exact h
  .cases hk
 obtain⟨r1,_⟩:=hH.below (w':=w') ⟨g3.mod.os,g3.mod.tape,g3.mod.output,g3.mod.size,λk hk=>g3.mod.block k hk (λ⟨_,hm,_⟩=>by cases hm)⟩
 have hsz:=g3.mod.size
 have hview:Bo (Ai .e 0 (.row t sp c::rest)).get (λg=>g=0) (λ_=>none) (.im n c) (.sl 0 0 n room):=.inr (.inr ⟨0,0,room,t,sp,c,rfl,rfl,hone,by
  have: ∀l:List V,L7 l->Bq (Ai .e 0 (.row t sp c::rest)).get (λg=>g=0) l l:=by
   intro l
   induction l with
   |nil=>exact λ_=>trivial
   |cons x l ih=>
    intro h
    obtain⟨k',m',rfl⟩:=h x aZ
    exact⟨_,_,rfl,rfl,ih λy hy=>h y (aW _ hy)⟩
  exact this c hci⟩)
 have hrv:RV {s' with fz:=λb=>s'.fz b\/b=s'.μ 0} w' (.im n c) u1:=Bo.rv (s':={s' with fz:=λb=>s'.fz b\/b=s'.μ 0}) g2 ⟨λ_ _ e=>(by cases e),λg t2 sp2 c2 h0 hg=>by
  subst h0;exact .inr rfl,λb hb=>.inl hb⟩ _ _ _ hview g1
 refine⟨.tuple vs,{s with fz:=λb=>s.fz b\/b=s'.μ 0},rfl,?_,⟨λi o ho hl=>?_,r1.inj,λb hb=>?_⟩,⟨⟨⟨λ_ _=>rfl,λ_ _=>rfl,λ_ h=>h,λb hb=>.inl hb⟩,λ_ h=>h⟩,λb hb=>hb.elim .inl (λe=>.inr (.inl (by rw[e];exact hnew))),λb hb=>?_,⟨g3.mod.os,g3.mod.tape,g3.mod.output,hsz,λk hk _=>g3.mod.block k hk (λ⟨_,hm,_⟩=>by cases hm)⟩,λi hi hno=>absurd hi hno⟩,λi=>⟨.inl,λh=>h.elim id (λ⟨a,b⟩=>absurd b (by dsimp only;omega))⟩,aC _⟩
 .obtain⟨a,cap,hu,hle,hrc⟩:=hrv
  refine⟨vs,rfl,u1,vs1,ev1,⟨a,cap,hu,hle,λhn0=>?_⟩,u2,vs2,ev2,gu2,ev3⟩
  obtain⟨b,off,ha,hr⟩:=hrc hn0
  have hb:b=s'.μ 0:=by
   obtain⟨_,cap2,hu2,_⟩:=g1
   rw[hu2]at hu
   injection hu with h1
   rw[ha]at h1
   injection h1 with h2
   injection h2 with h3
   exact h3.symm
  exact⟨b,off,ha,nF (s':={s with fz:=λb=>s.fz b\/b=s'.μ 0}) (Or.inr hb) _ _ hci hr⟩
 .obtain⟨a1,a2,a3,a4⟩:=r1.obj i o ho hl
  have a2':=(hH.obj i o ho hl).2.1
  refine⟨a1,a2,?_,RO.mono' (s:=s) (s':={s with fz:=λb=>s.fz b\/b=s'.μ 0}) ⟨λ_ _=>rfl,λ_ _=>rfl,λ_ h=>h,λb hb=>.inl hb⟩ (λ_ _=>rfl) a1 a4 (λ_=>rfl)⟩
  rintro((hf|hf)|hm)
  .exact a3 (.inl hf)
  .dsimp only at hf;omega
  .exact a3 (.inr hm)
 .rcases hb with(hb|hb)|hb
  .exact r1.old b (.inl hb)
  .rw[hb];exact o2
  .exact r1.old b (.inr hb)
 .exact g3.mod.block b (hH.old b hb) (λ⟨_,hm,_⟩=>by cases hm)
section
variable {ga gb:Int} {RA RB:List (List Int)} {NA NB:List Mc} (hlA:B8 RA NA) (hlB:B8 RB NB) (hA:Ck ga RA NA=true) (hB:Ck gb RB NB=true) (hs:Aq NA=Aq NB) {xs ys:Nat} (hxs:xs<2^64) (hys:ys<2^64) {vals:List Int} (hvl:vals.length=NA.length) (hval:Co (Aq NA) vals NA.length)
include hlA hlB hA hB hs hxs hys hvl hval
theorem eh(i:Nat)(hf:Lz (Df RA NA (Bc NA.length xs vals) ys) (Df RB NB (Bc NA.length xs vals) ys) (ga^RA.length) (gb^RB.length) (Df RA NA (Bc NA.length xs vals) ys).length=some i):Ac Pg g0 (.fn 48 []) [Bd ga RA NA,Bd gb RB NB,sl (Aq NA),u6 xs,u6 ys,sl vals] .e 0 ⟨.tup [.sl 0 0 NA.length (some (NA.length-NA.length)),i6 0],Ai .e 0 [Ay (Cz NA.length xs vals λv=>(A7 (Ax (Aq NA) ys) i).getD v 0),Cw (.sl 0 0 NA.length (some (NA.length-NA.length))),D6 0],3,[]⟩:=by
 have hMA:=Is hA
 have hMB:=Is hB
 have hq:=hMA.q1
 have hcl:=Eg (N:=NA)
 have hcb:=SP hMA.cd
 have hql:NA.length=NB.length:=by rw[<-hcl,hs,Eg]
 have hSA:=JI (xs:=xs) hMA.cd hval
 have hSB:Ey NB (Bc NA.length xs vals)=true:=by
  rw[hql]
  exact JI hMB.cd (by rw[<-hs,<-hql];exact hval)
 have heA:=ZK ga RA NA hlA hA (Bc NA.length xs vals) (by rw[Gf];omega) hSA ys hys
 have heB:=ZK gb RB NB hlB hB (Bc NA.length xs vals) (by rw[Gf];omega) hSB ys hys
 rw[<-hs]at heB
 have hXb:=YD (s:=ys) hMA (V0 hSA)
 have hYb:=YD (s:=ys) hMB (V0 hSB)
 have hXl:=EA (R:=RA) (N:=NA) (act:=Bc NA.length xs vals) (s:=ys)
 have hYl:=EA (R:=RB) (N:=NB) (act:=Bc NA.length xs vals) (s:=ys)
 rw[<-hs,<-hXl]at hYl
 rw[hYl]at hYb
 have hP4:=IU (s:=ys) hcb o_ (Aq NA).length (aC _)
 have hPe:((Df RA NA (Bc NA.length xs vals) ys).length:Int)=Aw (Ax (Aq NA) ys) NA.length:=by rw[hXl,hcl];rw[hcl]at hP4;omega
 have hwA:=MG ga RA NA hMA.g1 hMA.n1
 have hwB:=MG gb RB NB hMB.g1 hMB.n1
 have bwA:=L9 hMA.g1 hMA.n1
 have bwB:=L9 hMB.g1 hMB.n1
 have hcf:=TZ (Aq NA) ys
 have hRA:=B7 RA
 have hNA:=Cl NA
 have hRB:=B7 RB
 have hNB:=Cl NB
 have hl1:=uV ga RA.length (Ah RA) gb RB.length (Ah RB) NA.length (Ak NA) (Ak NB) (Aq NA) xs ys vals hRA hRB hNA hNB hq.2 hcl hvl
 have hact:(Bc NA.length xs vals).length=NA.length:=Gf
 rw[JM]at hl1
 generalize Df RA NA (Bc NA.length xs vals) ys=X at*
 generalize Df RB NB (Bc NA.length xs vals) ys=Y at*
 have hP1:1<=X.length:=by rw[<-hcl]at hPe;omega
 have hP2:X.length<=1024:=by rw[<-hcl]at hPe;omega
 have hfs:=Uf ga RA.length (Ah RA) gb RB.length (Ah RB) NA.length (Ak NA) (Ak NB) (Aq NA) xs ys vals X Y X.length (ga^RA.length) (gb^RB.length) hRA hRB hNA hNB hq.2 hcl hvl rfl hYl hP2 hXb hYb bwA bwB hys (by rw[<-hcl];exact hcb) hPe hP1
 generalize Bc NA.length xs vals=act at*
 have hacc:=Ap act
 have hxx:=Ap X
 have hyy:=Ap Y
 have hvv:=Ap vals
 have e1:sl (Aq NA)= .im NA.length (Aa (Aq NA)):=by show V.im (Aq NA).length _=_;rw[hcl]
 have e2:sl act= .im NA.length (Aa act):=by show V.im act.length _=_;rw[hact]
 have e3:sl vals= .im NA.length (Aa vals):=by show V.im vals.length _=_;rw[hvl]
 have e4:sl Y= .im X.length (Aa Y):=by show V.im Y.length _=_;rw[hYl]
 rw[e1,e2]at heA heB
 rw[e4]at heB
 rw[e1]at hcf
 rw[e1,e3]
 unfold Bd at*
 rw[<-hql]at heB hwB⊢
 clear hMA hMB hXb hYb hcb hval hSA hSB hA hB hlA hlB hs hPe hP4 e1 e2 e3 e4 hXl
 have hcc:=Ap (Aq NA)
 have hwAB:ga=gb->RA.length=RB.length->ga^RA.length=gb^RB.length:=λa b=>by rw[a,b]
 generalize ga^RA.length=wA at*
 generalize gb^RB.length=wB at*
 obtain⟨h1,h2,h3⟩:=oY hf
 have hrg:=hfs i h1 h3 h2
 clear hfs hf h1 h2 h3
 have hml:(Cz NA.length xs vals λv=>(A7 (Ax (Aq NA) ys) i).getD v 0).length=NA.length:=Gf
 generalize (Cz NA.length xs vals λv=>(A7 (Ax (Aq NA) ys) i).getD v 0)=mx at*
 have hmm:=Ap mx
 refine Ac.of_vcH (P:=Pg) (E:=vE) vE_ok Bx Gy (n:=1000) (f:=48) (os0:=[]) (r:=[2,0,1]) (S:={sl:=[(12,.ptr 1 0),(13,.ptr 2 0)],os:=[Ay mx,Cw (.sl 0 0 NA.length (some (NA.length-NA.length))),D6 0],md:=[0,1,0]}) (hs:=[mk 27,(0,.loop [0,1,2,3,4,5,6,7] (QF ga RA.length (Ah RA) gb RB.length (Ah RB) NA.length (Ak NA) (Ak NB) (Aq NA) xs ys vals (0,List.replicate NA.length 0)) [(True,.exit 0,VR ga RA.length (Ah RA) gb RB.length (Ah RB) NA.length (Ak NA) (Ak NB) (Aq NA) xs ys vals act)]),fn 54 (.tup [sl X,i6 0]),fn 65 (.tup [.im X.length (Aa Y),i6 0]),fn 72 (i6 wA),fn 74 (i6 wB),fn 77 (.fn 87 [.imp [.im NA.length (Aa (Aq NA))],.imp [u6 ys]]),(0,.loop [0,1,2,3,4,5,6,7,8,9,10,11] (G9 ga RA.length (Ah RA) gb RB.length (Ah RB) NA.length (Ak NA) (Ak NB) (Aq NA) xs ys vals X Y X.length wA wB) [(True,.ret,rV NA.length mx)])]) s_ (λi hi=>absurd hi (aJ _)) ?_
 generalize Aq NA=cs at*
 generalize Ah RA=RRA at*
 generalize Ak NA=NNA at*
 generalize Ah RB=RRB at*
 generalize Ak NB=NNB at*
 exact m_ (p:=let y4:=An [Sm [i6 0],Tt,Tt];let y5:=An [Zz,Sm NA.length,Sm (NA.length-NA.length)];let z1:=[i6 ga,V.im RA.length RRA,V.im NA.length NNA];let z2:=[i6 gb,V.im RB.length RRB,V.im NA.length NNB];let z3:=V.im NA.length (Aa cs);let z4:=(↑NA.length:Int);let z5:=V.im NA.length (Aa vals);let z7:=V.tup [V.sl 0 0 NA.length (some (NA.length-NA.length)),i6 0];let z8:=V.im X.length (Aa Y);let z9:=[V.nils];let y1:=[u6 ↑xs];let y3:=(0:Int);let z0:=pt (pt (pt (pt (Ai T.e 0 [K7 ga RA.length RRA NA.length NNA,K7 gb RB.length RRB NA.length NNB,Cw z3,H9 xs,Cw z5,Cw V.nils,D6 y3]) 7 (O.row 47 none z9)) 7 (O.row 47 none [sl X])) 8 (O.row 47 none z9)) 8 (O.row 47 none [z8]);let z6:=List.replicate NA.length y3;An [z7=z7,An [y3<=z4,z4<=z4,(↑(8:Nat):Int)*z4<=(281474976710656:Int),z4<=(9223372036854775807:Int)],An [An [Sm (↑ys:Int),Zz,Zz,Zz,Zz,Zz,Zz,Zz,y5,z4=z4,(↑(0:Nat):Int)=y3,Tt],An [z1=z1,TT 3],An [z2=z2,TT 3],An [Sm [z3],Tt,Tt],An [y1=y1,Tt,Tt],An [Sm [z5],Tt,Tt],An [z9=z9,Tt,Tt],y4,An [Aa z6=Cx NA.length [i6 0],Ba (Aa z6)],Tt],_,(True->An [_,_,_,_,V.fn 42 []=V.fn 42 []->[V.agg z1]=[V.agg z2]->z0=z0->7+1+1=9->CR.mk (i6 wA) z0 9 []=CR.mk (i6 wB) z0 9 [],_,An [An [Zz,Zz,Zz,Zz,Zz,Zz,Zz,Zz,Zz,Zz,An [Sm [z3],Sm [(u6 ↑ys)],Tt],Tt],An [z1=z1,TT 3],An [z2=z2,TT 3],An [Sm [z3],Tt,Tt],An [y1=y1,Tt,Tt],An [Sm [z5],Tt,Tt],An [z9=z9,Tt,Tt],y4,An [[V.im X.length (Aa X)]=[sl X],Tt,Tt],An [Sm [z8],Tt,Tt],An [Sm [i6 wA],Tt,Tt],An [Sm [i6 wB],Tt,Tt],y4,Tt],_,(True->An [An [Zz,Zz,Tt],An [Sm (Aa mx),_],An [y5,Tt],y4,Tt]),Tt]),Tt]) ⟨aq,a_,⟨a_,a_,a_,a_,a_,a_,a_,aq,⟨(Lh _ _).symm,aq⟩,aq⟩,hl1,(λ_=>⟨heA,heB,hwA,hwB,aq,hcf,a_,hrg,(λ_=>⟨a_,⟨aq,hmm⟩,a_⟩),aq⟩),aq⟩
end
def I5(p:Nat):Option (List Int)->V
 |none=>.nils
 |some l=>.im (p+1) (Aa l)
def Vv(lo f:Option (List Int)):Option (List Int):=match f with
 |none=>lo
 |some l=>match lo with
  |none=>some l
  |some m=>if Dx l m=true then some l else some m
def Jc(F:Nat->Option (List Int)):Nat->Option (List Int)
 |0=>none
 |k+1=>Vv (Jc F k) (F k)
theorem XS{F:Nat->Option (List Int)}{q:Nat}(h: ∀k l,F k=some l->l.length=q): ∀k l,Jc F k=some l->l.length=q
 |0,l,e=>by cases e
 | k + 1, l, e => by
  have ih:=XS h k
  unfold Jc Vv at e
  cases hf:F k with
  |none=>rw[hf]at e;exact ih l e
  | some a =>
   rw[hf]at e
   dsimp only at e
   cases hd:Jc F k with
   |none=>rw[hd]at e;injection e with e;rw[<-e];exact h k a hf
   |some m=>
    rw[hd]at e
    dsimp only at e
    split at e
    .injection e with e;rw[<-e];exact h k a hf
    .injection e with e;rw[<-e];exact ih m hd
theorem oG{F:Nat->Option (List Int)}: ∀k,Jc F k=none↔∀i,i<k->F i=none
 |0=>⟨λ_ i hi=>absurd hi (aJ _),λ_=>rfl⟩
 | k + 1 => by
  have ih:=oG (F:=F) k
  unfold Jc Vv
  constructor
  .intro h i hi
   cases hf:F k with
   |none=>
    rw[hf]at h
    by_cases hik:i=k
    .subst hik;exact hf
    .exact ih.1 h i o_
   |some a=>
    rw[hf]at h
    dsimp only at h
    cases hd:Jc F k with
    |none=>rw[hd]at h;cases h
    |some m=>rw[hd]at h;dsimp only at h;split at h<;>cases h
  .intro h
   rw[h k o_]
   exact ih.2 λi hi=>h i o_
section
variable (ga:Int) (na:Nat) (RA:List V) (gb:Int) (nb:Nat) (RB:List V) (q:Nat) (NB:List V) (xs ys:Nat)
abbrev VX(NA:List V)(x:Nat×List Int):SL:={sl:=[(4,.ptr 0 0),(5,.ptr 1 0),(6,.ptr 2 0),(7,.ptr 3 0),(8,.ptr 4 0),(9,.ptr 5 0),(10,.ptr 7 0),(50,.im q NA),(51,i6 q),(52,i6 x.1)],os:=[K7 ga na RA q NA,K7 gb nb RB q NB,H9 xs,H9 ys,Cw .nils,D6 0,Ay x.2,Cw (.sl 6 0 q (some (q-q)))],md:=[0,0,0,0,0,0,0,1]}
abbrev jV(NA:List V)(l:List Int):SL:={sl:=[(4,.ptr 0 0),(5,.ptr 1 0),(6,.ptr 2 0),(7,.ptr 3 0),(8,.ptr 4 0),(9,.ptr 5 0),(10,.ptr 6 0)],os:=[K7 ga na RA q NA,K7 gb nb RB q NB,H9 xs,H9 ys,Cw .nils,D6 0,Cw (.im q (Aa l))],md:=[0,0,0,0,0,0,1]}
end
section
variable (ga:Int) (na:Nat) (RA:List V) (gb:Int) (nb:Nat) (RB:List V) (N:List Mc) (NB:List V) (xs ys:Nat) (hq:N.length<=5) (hc: ∀k,k<N.length->1<=(N.getD k Ao).c/\(N.getD k Ao).c<=4) (hRA:Ba RA) (hRB:Ba RB) (hNB:Ba NB)
include hq hc hRA hRB hNB
theorem Zu:Au Pg none 0 (aT 15 11111010) (Al g0 95 (VX ga na RA gb nb RB N.length NB xs ys (Ak N) (0,Bm (λi=>(N.getD i Ao).c) N.length 0))) (B3 g0 95 [(True,.exit 0,jV ga na RA gb nb RB N.length NB xs ys (Ak N) (Aq N))]):=by
 have hNN:=Cl N
 have e2:Bm (λi=>(N.getD i Ao).c) N.length N.length=Aq N:=TW
 rw[<-e2]
 refine C9 (aT 15 111110100) (λx=>x.1<=N.length/\x.2=Bm (λi=>(N.getD i Ao).c) N.length x.1) (VX ga na RA gb nb RB N.length NB xs ys (Ak N)) (λx=>N.length-x.1) (λx hx=>?_) (0,Bm (λi=>(N.getD i Ao).c) N.length 0) ⟨aG _,rfl⟩
 obtain⟨k,b⟩:=x
 obtain⟨hk,h3⟩:=hx
 dsimp only at hk h3
 by_cases hlt:k<N.length
 .have hld:=DX hlt
  have lb:b.length=N.length:=by rw[h3,Nc]
  have eb:=MJ (f:=λi=>(N.getD i Ao).c) (n:=N.length) (k:=k)
  rw[<-h3]at eb
  have s2:=Ie (l:=b) (j:=k) (x:=(N.getD k Ao).c) o_
  rw[eb]at s2
  have lb2:(Bm (λi=>(N.getD i Ao).c) N.length (k+1)).length=N.length:=Nc
  refine .inl ⟨(k+1,Bm (λi=>(N.getD i Ao).c) N.length (k+1)),[0,1,2,3,4,5,6,7],[As 53,pl 55,ld 56 (.agg (Fq (N.getD k Ao))),pl 61,st (Aa (Bm (λi=>(N.getD i Ao).c) N.length (k+1))),nu 62 ((k+1:Nat):Int)],1000,⟨hlt,rfl⟩,by dsimp only;omega,?_⟩
  clear eb h3
  generalize Bm (λi=>(N.getD i Ao).c) N.length (k+1)=b2 at*
  have hb2:=Ap b
  have hb4:=Ap b2
  generalize hxe:N.getD k Ao=x at*
  obtain⟨c,fr,nz,ou⟩:=x
  dsimp only at*
  have i1:=Ap fr
  have i2:=Ap nz
  have i3:=Ap ou
  clear hc
  generalize Ak N=NN at*
  generalize N.length=n at*
  exact C8 [_,_,_,_,_,_] ⟨Bf hlt,Ar hlt,hld,Ar hlt,s2,Dw k o_⟩
 .have hk2:k=N.length:=o_
  subst hk2
  subst h3
  have lb2:(Bm (λi=>(N.getD i Ao).c) N.length N.length).length=N.length:=Nc
  refine .inr ⟨.exit 0,[0,1,2,3,4,5,7],_,[no 53],1000,.inl ⟨trivial,rfl,rfl⟩,?_⟩
  generalize Bm (λi=>(N.getD i Ao).c) N.length N.length=b2 at*
  have hb4:=Ap b2
  clear hc
  generalize Ak N=NN at*
  generalize N.length=n at*
  exact m_ (p:=An [_,An [Zz,Zz,Zz,Zz,Zz,Zz,Zz,Tt],An [Sm [i6 ga,V.im na RA,V.im n NN],TT 3],An [Sm [i6 gb,V.im nb RB,V.im n NB],TT 3],An [Sm [u6 ↑xs],Tt,Tt],An [Sm [u6 ↑ys],Tt,Tt],An [Sm [V.nils],Tt,Tt],An [Sm [i6 0],Tt,Tt],An [An [n=n,Sm (Aa b2),_],Tt],Tt]) ⟨Cq hlt,a_,a_,a_,a_,a_,a_,a_,⟨⟨aq,aq,hb4⟩,aq⟩,aq⟩
end
noncomputable abbrev KS:Code:=aT 15 1111111010
theorem HZ:KS= .rangeFunc (.tmp 65) #[66] (Wm KS) (Ma KS):=k_
noncomputable def jY:Code:=Ma KS
noncomputable def jZ:Code:=Wm KS
abbrev sB(v:V):List (Nat×V):=[(4,.ptr 0 0),(5,.ptr 1 0),(6,.ptr 2 0),(7,.ptr 3 0),(8,.ptr 4 0),(9,.ptr 5 0),(10,.ptr 6 0),(13,.ptr 7 0),(66,v)]
abbrev kA(v:V):List (Nat×V):=[(4,.ptr 0 0),(5,.ptr 1 0),(6,.ptr 2 0),(7,.ptr 3 0),(8,.ptr 4 0),(9,.ptr 5 0),(10,.ptr 6 0),(13,.ptr 7 0),(14,v)]
theorem HX(v:V)(H:T O)(nx:Nat):vc Pg vE E0 (some 8) nx 1000 jZ [] (Be g0 95 (sB v) H nx []) (M0 95 (kA v) H nx):=by
 exact m_ (p:=An [An [Sm (V.ptr 0 0),Sm (V.ptr 1 0),Sm (V.ptr 2 0),Sm (V.ptr 3 0),Sm (V.ptr 4 0),Sm (V.ptr 5 0),Sm (V.ptr 6 0),Sm (V.ptr 7 0),v=v,Tt],H=H,nx=nx,([]:List Nat)=[]]) a_
section
variable (ga:Int) (na:Nat) (RA:List V) (gb:Int) (nb:Nat) (RB:List V) (p:Nat) (NA NB:List V) (cs:List Int) (xs ys:Nat)
abbrev Gj(lv:V):List O:=[K7 ga na RA (p+1) NA,K7 gb nb RB (p+1) NB,H9 xs,H9 ys,Cw .nils,D6 0,Cw (.im (p+1) (Aa cs)),Cw lv]
variable (hRA:Ba RA) (hRB:Ba RB) (hNA:Ba NA) (hNB:Ba NB) (h5:p+1<=5) (hcl:cs.length=p+1)
include hRA hRB hNA hNB h5 hcl
theorem HW(lo f:Option (List Int))(hlo: ∀l,lo=some l->l.length=p+1)(hf: ∀l,f=some l->l.length=p+1)(u:List Int)(hcall: ∀(H:T O)(nx:Nat),gt H 9=some (Ay u)->Ac Pg g0 (.fn 48 []) [.agg [i6 ga,.im na RA,.im (p+1) NA],.agg [i6 gb,.im nb RB,.im (p+1) NB],.im (p+1) (Aa cs),u6 xs,u6 ys,.sl 9 0 (p+1) (some (p+1-(p+1)))] H nx ⟨.tup [I5 p f,i6 0],H,nx,[]⟩)(Lb:O):
  ∃hsb:Hs,vc Pg vE E0 (some 8) 10 1000 jY hsb (Be g0 95 (kA (.sl 9 0 (p+1) (some (p+1-(p+1))))) (Ai .e 0 (Gj ga na RA gb nb RB p NA NB cs xs ys (I5 p lo)++[Lb,Ay u])) 10 [8]) (Lu (Ai .e 0 (Gj ga na RA gb nb RB p NA NB cs xs ys (I5 p (Vv lo f))++[Lb,Ay u])) 10 [7,8]):=by
 have hcc:=Ap cs
 have hc1:=hcall (Ai .e 0 (Gj ga na RA gb nb RB p NA NB cs xs ys (I5 p lo)++[Lb,Ay u])) 10 rfl
 clear hcall
 cases f with
 |none=>
  refine⟨[(74,.call ⟨.tup [.nils,i6 0],Ai .e 0 (Gj ga na RA gb nb RB p NA NB cs xs ys (I5 p lo)++[Lb,Ay u]),10,[]⟩)],?_⟩
  have e:Vv lo none=lo:=rfl
  rw[e]
  have hc2:Ac Pg g0 _ _ _ _ ⟨.tup [.nils,i6 0],_,_,_⟩:=hc1
  clear hc1
  have hlv:Hf (I5 p lo):=by cases lo<;>trivial
  generalize I5 p lo=lv at*
  exact m_ (p:=let z0:=Ai T.e 0 (Gj ga na RA gb nb RB p NA NB cs xs ys lv++[Lb,Ay u]);An [_,z0=z0,10=10,∀(g:Nat),List.Mem g ([]++[8])->List.Mem g [7,8]]) ⟨hc2,aq,aq,(by(intro g hg;change g∈[8]at hg;show g∈[7,8];simp only[aK,bE,or_false]at hg⊢;omega))⟩
 | some l =>
  have hll:=hf l rfl
  have hl1:=Ap l
  cases lo with
  |none=>
   refine⟨[(74,.call ⟨.tup [.im (p+1) (Aa l),i6 0],Ai .e 0 (Gj ga na RA gb nb RB p NA NB cs xs ys .nils++[Lb,Ay u]),10,[]⟩)],?_⟩
   have hc2:Ac Pg g0 _ _ (Ai .e 0 (Gj ga na RA gb nb RB p NA NB cs xs ys .nils++[Lb,Ay u])) _ ⟨.tup [.im (p+1) (Aa l),i6 0],Ai .e 0 (Gj ga na RA gb nb RB p NA NB cs xs ys .nils++[Lb,Ay u]),_,_⟩:=hc1
   clear hc1
   show vc _ _ _ _ _ _ _ _ (Be _ _ _ (Ai .e 0 (Gj ga na RA gb nb RB p NA NB cs xs ys .nils++[Lb,Ay u])) _ _) (Lu (Ai .e 0 (Gj ga na RA gb nb RB p NA NB cs xs ys (.im (p+1) (Aa l))++[Lb,Ay u])) _ _)
   exact m_ (p:=let z1:=V.im (p+1) (Aa l);An [_,pt (Ai T.e 0 (Gj ga na RA gb nb RB p NA NB cs xs ys V.nils++[Lb,Ay u])) 7 (O.row 47 none [z1])=Ai T.e 0 (Gj ga na RA gb nb RB p NA NB cs xs ys z1++[Lb,Ay u]),10=10,∀(g:Nat),List.Mem g ([7]++([]++[8]))->List.Mem g [7,8]]) ⟨hc2,k_,a_⟩
  | some m =>
   have hml:=hlo m rfl
   have hm1:=Ap m
   have hbf:=fq l m o_ o_
   have e1:sl l= .im (p+1) (Aa l):=by show V.im l.length _=_;rw[hll]
   have e2:sl m= .im (p+1) (Aa m):=by show V.im m.length _=_;rw[hml]
   rw[e1,e2]at hbf
   have hc2:Ac Pg g0 _ _ (Ai .e 0 (Gj ga na RA gb nb RB p NA NB cs xs ys (.im (p+1) (Aa m))++[Lb,Ay u])) _ ⟨.tup [.im (p+1) (Aa l),i6 0],Ai .e 0 (Gj ga na RA gb nb RB p NA NB cs xs ys (.im (p+1) (Aa m))++[Lb,Ay u]),_,_⟩:=hc1
   clear hc1 e1 e2
   cases hb:Dx l m with
   |true=>
    rw[hb]at hbf
    refine⟨[(74,.call ⟨.tup [.im (p+1) (Aa l),i6 0],Ai .e 0 (Gj ga na RA gb nb RB p NA NB cs xs ys (.im (p+1) (Aa m))++[Lb,Ay u]),10,[]⟩),fn 88 (.bool true)],?_⟩
    have es:I5 p (Vv (some m) (some l))= .im (p+1) (Aa l):=by unfold Vv;dsimp only;rw[if_pos hb];rfl
    rw[es]
    show vc _ _ _ _ _ _ _ _ (Be _ _ _ (Ai .e 0 (Gj ga na RA gb nb RB p NA NB cs xs ys (.im (p+1) (Aa m))++[Lb,Ay u])) _ _) (Lu (Ai .e 0 (Gj ga na RA gb nb RB p NA NB cs xs ys (.im (p+1) (Aa l))++[Lb,Ay u])) _ _)
    clear es hb
    exact m_ (p:=let z1:=V.im (p+1) (Aa l);An [_,_,pt (Ai T.e 0 (Gj ga na RA gb nb RB p NA NB cs xs ys (V.im (p+1) (Aa m))++[Lb,Ay u])) 7 (O.row 47 none [z1])=Ai T.e 0 (Gj ga na RA gb nb RB p NA NB cs xs ys z1++[Lb,Ay u]),10=10,∀(g:Nat),List.Mem g ([7]++([]++([]++[8])))->List.Mem g [7,8]]) ⟨hc2,hbf,k_,a_⟩
   |false=>
    rw[hb]at hbf
    refine⟨[(74,.call ⟨.tup [.im (p+1) (Aa l),i6 0],Ai .e 0 (Gj ga na RA gb nb RB p NA NB cs xs ys (.im (p+1) (Aa m))++[Lb,Ay u]),10,[]⟩),fn 88 (.bool false)],?_⟩
    have es:I5 p (Vv (some m) (some l))= .im (p+1) (Aa m):=by unfold Vv;dsimp only;rw[if_neg (by rw[hb];simp)];rfl
    rw[es]
    show vc _ _ _ _ _ _ _ _ (Be _ _ _ (Ai .e 0 (Gj ga na RA gb nb RB p NA NB cs xs ys (.im (p+1) (Aa m))++[Lb,Ay u])) _ _) (Lu (Ai .e 0 (Gj ga na RA gb nb RB p NA NB cs xs ys (.im (p+1) (Aa m))++[Lb,Ay u])) _ _)
    clear es hb
    exact m_ (p:=let z0:=Ai T.e 0 (Gj ga na RA gb nb RB p NA NB cs xs ys (V.im (p+1) (Aa m))++[Lb,Ay u]);An [_,_,z0=z0,10=10,∀(g:Nat),List.Mem g ([]++([]++[8]))->List.Mem g [7,8]]) ⟨hc2,hbf,aq,aq,(by(intro g hg;change g∈[8]at hg;show g∈[7,8];simp only[aK,bE,or_false]at hg⊢;omega))⟩
end
def Hr(ga:Int)(RA:List (List Int))(NA:List Mc)(gb:Int)(RB:List (List Int))(NB:List Mc)(xs ys k:Nat):Option (List Int):=
 (Lz (Df RA NA (Bc NA.length xs (A7 (Ax (Aq NA) xs) k)) ys) (Df RB NB (Bc NA.length xs (A7 (Ax (Aq NA) xs) k)) ys) (ga^RA.length) (gb^RB.length) (Df RA NA (Bc NA.length xs (A7 (Ax (Aq NA) xs) k)) ys).length).map λi=>Cz NA.length xs (A7 (Ax (Aq NA) xs) k) λv=>(A7 (Ax (Aq NA) ys) i).getD v 0
theorem wH{ga:Int}{RA:List (List Int)}{NA:List Mc}{gb:Int}{RB:List (List Int)}{NB:List Mc}{xs ys:Nat}: ∀k l,Hr ga RA NA gb RB NB xs ys k=some l->l.length=NA.length:=λk l h=>by
 unfold Hr at h
 obtain⟨i,_,rfl⟩:=fQ.1 h
 exact Gf
theorem Yl{cs:List Int}{u:List Int}(hc: ∀i,i<cs.length->1<=cs.getD i 0/\cs.getD i 0<=4)(h:Co (Ax cs s) u cs.length):Co cs u cs.length:=λi hi=>by
 have h1:=h i hi
 rw[Vz hi]at h1
 have h2:=hc i hi
 split at h1<;>omega
section
variable {ga gb:Int} {RA RB:List (List Int)} {NA NB:List Mc} (hlA:B8 RA NA) (hlB:B8 RB NB) (hA:Ck ga RA NA=true) (hB:Ck gb RB NB=true) (hs:Aq NA=Aq NB) {xs ys:Nat} (hxs:xs<2^64) (hys:ys<2^64)
include hlA hlB hA hB hs hxs hys
theorem Uc(k p:Nat)(hp:NA.length=p+1)(hk:(k:Int)<Aw (Ax (Aq NA) xs) NA.length)(H:T O)(nx:Nat)(h9:gt H 9=some (Ay (A7 (Ax (Aq NA) xs) k))):Ac Pg g0 (.fn 48 []) [.agg [i6 ga,.im RA.length (Ah RA),.im (p+1) (Ak NA)],.agg [i6 gb,.im RB.length (Ah RB),.im (p+1) (Ak NB)],.im (p+1) (Aa (Aq NA)),u6 xs,u6 ys,.sl 9 0 (p+1) (some (p+1-(p+1)))] H nx ⟨.tup [I5 p (Hr ga RA NA gb RB NB xs ys k),i6 0],H,nx,[]⟩:=by
 have hMA:=Is hA
 have hcl:=Eg (N:=NA)
 have hcb:=SP hMA.cd
 have hql:NA.length=NB.length:=by rw[<-hcl,hs,Eg]
 have hRA:=B7 RA
 have hNA:=Cl NA
 have hRB:=B7 RB
 have hNB:=Cl NB
 have hcc:=Ap (Aq NA)
 obtain⟨hv1,_⟩:=Pv (cs:=Ax (Aq NA) xs) (λi hi=>(lF hcb i (by rw[Mb]at hi;exact hi)).1) (j:=k) (by rw[Mb,hcl];exact hk)
 rw[Mb]at hv1
 have hv2:=Yl hcb hv1
 have hul:(A7 (Ax (Aq NA) xs) k).length=NA.length:=by rw[Li,Mb,hcl]
 rw[hcl]at hv2
 have hfn:=Ub hlA hlB hA hB hs hxs hys hul hv2
 have hfo:=eh hlA hlB hA hB hs hxs hys hul hv2
 rw[Cm]at h9
 have e1:Bd ga RA NA= .agg [i6 ga,.im RA.length (Ah RA),.im (p+1) (Ak NA)]:=by rw[<-hp]
 have e2:Bd gb RB NB= .agg [i6 gb,.im RB.length (Ah RB),.im (p+1) (Ak NB)]:=by rw[<-hp,hql]
 have e3:sl (Aq NA)= .im (p+1) (Aa (Aq NA)):=by show V.im (Aq NA).length _=_;rw[hcl,hp]
 have e4:sl (A7 (Ax (Aq NA) xs) k)= .im (p+1) (Aa (A7 (Ax (Aq NA) xs) k)):=by show V.im (A7 (Ax (Aq NA) xs) k).length _=_;rw[hul,hp]
 rw[e1,e2,e3,e4]at hfn hfo
 unfold Hr
 have hview: ∀u:List Int,H.get 9=some (Ay u)->A8 H.get (λ_=>True) (λ_=>none) [.agg [i6 ga,.im RA.length (Ah RA),.im (p+1) (Ak NA)],.agg [i6 gb,.im RB.length (Ah RB),.im (p+1) (Ak NB)],.im (p+1) (Aa (Aq NA)),u6 xs,u6 ys,.im (p+1) (Aa u)] [.agg [i6 ga,.im RA.length (Ah RA),.im (p+1) (Ak NA)],.agg [i6 gb,.im RB.length (Ah RB),.im (p+1) (Ak NB)],.im (p+1) (Aa (Aq NA)),u6 xs,u6 ys,.sl 9 0 (p+1) (some (p+1-(p+1)))]:=λu hu=>by
  refine⟨_,_,rfl,Bo.of_hf _ ⟨trivial,trivial,trivial,trivial⟩,_,_,rfl,Bo.of_hf _ ⟨trivial,trivial,trivial,trivial⟩,_,_,rfl,Bo.of_hf _ trivial,_,_,rfl,Bo.of_hf _ trivial,_,_,rfl,Bo.of_hf _ trivial,_,_,rfl,.inr (.inr ⟨9,0,_,_,_,_,rfl,trivial,hu,Bq.of_hf _ (Ap u)⟩),rfl⟩
 have hvw:=hview _ h9
 cases hf:Lz (Df RA NA (Bc NA.length xs (A7 (Ax (Aq NA) xs) k)) ys) (Df RB NB (Bc NA.length xs (A7 (Ax (Aq NA) xs) k)) ys) (ga^RA.length) (gb^RB.length) (Df RA NA (Bc NA.length xs (A7 (Ax (Aq NA) xs) k)) ys).length with
 |none=>
  rw[hf]at hfn
  exact LU hfn hvw rfl
 |some i=>
  have h1:=hfo i hf
  have hml:(Cz NA.length xs (A7 (Ax (Aq NA) xs) k) λv=>(A7 (Ax (Aq NA) ys) i).getD v 0).length=NA.length:=Gf
  show Ac Pg g0 _ _ H nx ⟨.tup [.im (p+1) (Aa (Cz NA.length xs (A7 (Ax (Aq NA) xs) k) λv=>(A7 (Ax (Aq NA) ys) i).getD v 0)),i6 0],H,nx,[]⟩
  rw[hp]at h1 hml⊢
  exact Zf h1 hvw (Ws _) (by rw[F5];exact hml)
end
section
variable (ga:Int) (na:Nat) (RA:List V) (gb:Int) (nb:Nat) (RB:List V) (p:Nat) (NA NB:List V) (cs:List Int) (xs ys:Nat)
abbrev HY:SL:={sl:=[(4,.ptr 0 0),(5,.ptr 1 0),(6,.ptr 2 0),(7,.ptr 3 0),(8,.ptr 4 0),(9,.ptr 5 0),(10,.ptr 6 0),(13,.ptr 7 0),(65,.fn 87 [.imp [.im (p+1) (Aa cs)],.imp [u6 xs]])],os:=Gj ga na RA gb nb RB p NA NB cs xs ys .nils,md:=[0,0,0,0,0,0,1,1]}
abbrev jW(v:V):SL:={sl:=[(8,.ptr 0 0),(9,.ptr 1 0),(13,.ptr 2 0)],os:=[Cw .nils,D6 0,Cw v],md:=[0,0,1]}
variable (hRA:Ba RA) (hRB:Ba RB) (hNA:Ba NA) (hNB:Ba NB) (h5:p+1<=5) (hcl:cs.length=p+1) (hxs:xs<2^64) (hc: ∀i,i<p+1->1<=cs.getD i 0/\cs.getD i 0<=4) (P:Nat) (hPe:(P:Int)=Aw (Ax cs xs) (p+1)) (hP1:1<=P) (F:Nat->Option (List Int)) (hF: ∀k l,F k=some l->l.length=p+1)
 (hcall: ∀k,k<P->∀(H:T O)(nx:Nat),gt H 9=some (Ay (A7 (Ax cs xs) k))->Ac Pg g0 (.fn 48 []) [.agg [i6 ga,.im na RA,.im (p+1) NA],.agg [i6 gb,.im nb RB,.im (p+1) NB],.im (p+1) (Aa cs),u6 xs,u6 ys,.sl 9 0 (p+1) (some (p+1-(p+1)))] H nx ⟨.tup [I5 p (F k),i6 0],H,nx,[]⟩)
include hRA hRB hNA hNB h5 hcl hxs hc hPe hP1 hF hcall
theorem Uu:Au Pg none 0 KS (Al g0 95 (HY ga na RA gb nb RB p NA NB cs xs ys)) (B3 g0 95 [(True,.normal,jW (I5 p (Jc F P)))]):=by
 rw[HZ]
 obtain⟨L,hL⟩: ∃L:O,L= .loop .ready none 0 (Al g0 95 (HY ga na RA gb nb RB p NA NB cs xs ys)).tm [66] jZ jY:=⟨_,rfl⟩
 have hh: ∀j,V8 (Ai .e 0 (Gj ga na RA gb nb RB p NA NB cs xs ys .nils++[L])) (λj=>Ai .e 0 (Gj ga na RA gb nb RB p NA NB cs xs ys (I5 p (Jc F (j+1)))++[L,Ay (A7 (Ax cs xs) j)])) 9 (Ax cs xs) j=Ai .e 0 (Gj ga na RA gb nb RB p NA NB cs xs ys (I5 p (Jc F j))++[L,Ay (A7 (Ax cs xs) j)]):=λj=>by
  cases j with
  |zero=>kernel_rfl
  |succ j=>kernel_rfl
 have hfin: ∀m,Mk (λj=>Ai .e 0 (Gj ga na RA gb nb RB p NA NB cs xs ys (I5 p (Jc F (j+1)))++[L,Ay (A7 (Ax cs xs) j)])) 9 (Ax cs xs) (m+1) true=Ai .e 0 (Gj ga na RA gb nb RB p NA NB cs xs ys (I5 p (Jc F (m+1)))++[L,Ay (A7 (Ax cs xs) (m+1))]):=λm=>k_
 obtain⟨m,rfl⟩: ∃m,P=m+1:=⟨P-1,o_⟩
 have hrng:=UA cs xs (p+1) hcl hxs o_ hc (m+1) hPe (m+1) hP1 (aC _) (λ_=>true) (λ_ _=>rfl) (λ_=>rfl) 8 9 (Ai .e 0 (Gj ga na RA gb nb RB p NA NB cs xs ys .nils++[L])) (λj=>Ai .e 0 (Gj ga na RA gb nb RB p NA NB cs xs ys (I5 p (Jc F (j+1)))++[L,Ay (A7 (Ax cs xs) j)])) (λ_=>10) [7,8] rfl (λj hj=>by rw[Cm,E8];rfl) (λj hj=>by
  rw[hh j]
  have hb:=λLb=>HW ga na RA gb nb RB p NA NB cs xs ys hRA hRB hNA hNB h5 hcl (Jc F j) (F j) (XS hF j) (hF j) (A7 (Ax cs xs) j) (hcall j hj) Lb
  have es:Vv (Jc F j) (F j)=Jc F (j+1):=rfl
  rw[es]at hb
  generalize A7 (Ax cs xs) j=u at*
  refine Ac.yldC vE_ok Bx Gy (n:=95) (fn0:=0) (tm:=(Al g0 95 (HY ga na RA gb nb RB p NA NB cs xs ys)).tm) (ps:=[66]) (assign:=jZ) (body:=jY) (hs0:=[]) (hs1:=λLb=>(hb Lb).choose) (m0:=1000) (m1:=1000) (sl0:=sB (.sl 9 0 (p+1) (some (p+1-(p+1))))) (sl1:=kA (.sl 9 0 (p+1) (some (p+1-(p+1))))) ?_ rfl rfl rfl ⟨rfl,rfl,rfl,rfl,rfl,rfl,rfl,rfl,rfl,trivial⟩ (HX _) (λLb=>?_) s_ (λi hi=>?_) ?_
  .rw[Cm,E8,hL];rfl
  .have e4: ∀v,pt (Ai .e 0 (Gj ga na RA gb nb RB p NA NB cs xs ys v++[L,Ay u])) 8 Lb=Ai .e 0 (Gj ga na RA gb nb RB p NA NB cs xs ys v++[Lb,Ay u]):=λv=>k_
   rw[e4,e4]
   exact(hb Lb).choose_spec
  .rw[E8,E8]
   simp only[aK,bE,or_false,not_or]at hi
   rcases(show i=0\/i=1\/i=2\/i=3\/i=4\/i=5\/i=6\/9<=i by omega)with rfl|rfl|rfl|rfl|rfl|rfl|rfl|h7
   all_goals first|rfl|(obtain⟨d,rfl⟩: ∃d,i=d+9:=⟨i-9,o_⟩;rfl)
  .rw[Cm,E8,hL];rfl) (by
  rw[hfin]
  refine⟨by simp,λi hi hn=>?_⟩
  rw[E8,E8]
  simp only[aK,bE,or_false,not_or]at hi
  rcases(show i=0\/i=1\/i=2\/i=3\/i=4\/i=5\/i=6\/10<=i by omega)with rfl|rfl|rfl|rfl|rfl|rfl|rfl|h7
  all_goals first|rfl|(obtain⟨d,rfl⟩: ∃d,i=d+10:=⟨i-10,o_⟩;rfl))
 rw[hfin]at hrng
 generalize A7 (Ax cs xs) (m+1)=u at*
 generalize Jc F (m+1)=lo at*
 cases lo with
 | none =>
  rw[show I5 p none= .nils from rfl]at hrng⊢
  refine Au.rangeC (r:=[4,5,7]) (S:=HY ga na RA gb nb RB p NA NB cs xs ys) (f:=87) (caps:=[.imp [.im (p+1) (Aa cs)],.imp [u6 xs]]) rfl rfl (by rw[hL]at hrng;exact hrng) ?_ ?_
  .rw[Cm,E8];rfl
  .clear hrng hL hc hPe hcall hF hh hfin
   exact m_ (p:=An [An [Zz,Zz,Zz,Tt],An [Sm [V.nils],Tt,Tt],An [Sm [i6 0],Tt,Tt],An [Tt,Tt],Tt]) a_
 | some l =>
  have hll:=Ap l
  rw[show I5 p (some l)= .im (p+1) (Aa l)from rfl]at hrng⊢
  refine Au.rangeC (r:=[4,5,7]) (S:=HY ga na RA gb nb RB p NA NB cs xs ys) (f:=87) (caps:=[.imp [.im (p+1) (Aa cs)],.imp [u6 xs]]) rfl rfl (by rw[hL]at hrng;exact hrng) ?_ ?_
  .rw[Cm,E8];rfl
  .clear hrng hL hc hPe hcall hF hh hfin
   exact m_ (p:=An [An [Zz,Zz,Zz,Tt],An [Sm [V.nils],Tt,Tt],An [Sm [i6 0],Tt,Tt],An [An [Sm (p+1),Sm (Aa l)],Tt],Tt]) a_
end
theorem I7: ∀{a b:List Int},Aa a=Aa b->a=b
 |[],[],_=>rfl
 |[],_:: _,h=>by cases h
 | _:: _,[],h=>by cases h
 |x::a,y::b,h=>by
  have h1:=cA (show i6 x::Aa a=i6 y::Aa b from h)
  rw[(V.int.inj h1.1).2,I7 h1.2]
theorem XJ{a b:List Int}(h:sl a=sl b):a=b:=I7 (V.im.inj h).2
theorem sT: ∀{A B:List (List Int)},Ah A=Ah B->A=B
 |[],[],_=>rfl
 |[],_:: _,h=>by cases h
 | _:: _,[],h=>by cases h
 |x::a,y::b,h=>by
  have h1:=cA (show sl x::Ah a=sl y::Ah b from h)
  rw[XJ h1.1,sT h1.2]
theorem tK: ∀{A B:List Mc},Ak A=Ak B->A=B
 |[],[],_=>rfl
 |[],_:: _,h=>by cases h
 | _:: _,[],h=>by cases h
 |⟨c,fr,nz,ou⟩::a,⟨c',fr',nz',ou'⟩::b,h=>by
  have h1:=cA (show i6 c::sl fr::sl nz::sl ou::Ak a=i6 c'::sl fr'::sl nz'::sl ou'::Ak b from h)
  have h2:=cA h1.2
  have h3:=cA h2.2
  have h4:=cA h3.2
  rw[(V.int.inj h1.1).2,XJ h2.1,XJ h3.1,XJ h4.1,tK h4.2]
theorem JE{ga gb:Int}{RA RB:List (List Int)}{NA NB:List Mc}(h:V.agg [i6 ga,.im RA.length (Ah RA),.im NA.length (Ak NA)]=V.agg [i6 gb,.im RB.length (Ah RB),.im NB.length (Ak NB)]):ga=gb/\RA=RB/\NA=NB:=by
 have h1:=cA (V.agg.inj h)
 have h2:=cA h1.2
 have h3:=cA h2.2
 exact⟨(V.int.inj h1.1).2,sT (V.im.inj h2.1).2,tK (V.im.inj h3.1).2⟩
def Kv(ga:Int)(RA:List (List Int))(NA:List Mc)(gb:Int)(RB:List (List Int))(NB:List Mc)(xs ys:Nat):Option (List Int):=Jc (Hr ga RA NA gb RB NB xs ys) (Aw (Ax (Aq NA) xs) NA.length).toNat
def H5(n xs ys:Nat):Bool:=decide ((xs|||ys)/2^n=0)&&decide (xs&&& ys=0)
section
variable (ga:Int) (RA:List (List Int)) (NA:List Mc) (gb:Int) (RB:List (List Int)) (NB:List Mc) (hlA:B8 RA NA) (hlB:B8 RB NB) (xs ys:Nat)
include hlA hlB
theorem jr(hA:Ck ga RA NA=false):Ag Pg g0 15 [Bd ga RA NA,Bd gb RB NB,u6 xs,u6 ys] (.tup [.nils,i6 330]):=by
 have c1:=Md ga RA NA hlA
 rw[hA,if_neg s_]at c1
 have hRA:=B7 RA
 have hNA:=Cl NA
 have hRB:=B7 RB
 have hNB:=Cl NB
 unfold Bd at*
 refine K8 [4,5] {sl:=[(8,.ptr 0 0),(9,.ptr 1 0)],os:=[Cw .nils,D6 330]} [fn 18 (i6 330)] ?_
 clear hA hlA hlB
 generalize Ah RA=RRA at*
 generalize Ak NA=NNA at*
 generalize Ah RB=RRB at*
 generalize Ak NB=NNB at*
 exact Hu [Sm (V.tup [V.nils,i6 330]),_] ⟨aq,c1⟩
theorem L5(hA:Ck ga RA NA=true)(hB:Ck gb RB NB=false):Ag Pg g0 15 [Bd ga RA NA,Bd gb RB NB,u6 xs,u6 ys] (.tup [.nils,i6 330]):=by
 have c1:=Md ga RA NA hlA
 rw[hA,if_pos rfl]at c1
 have c2:=Md gb RB NB hlB
 rw[hB,if_neg s_]at c2
 have hno:[V.agg [i6 ga,.im RA.length (Ah RA),.im NA.length (Ak NA)]]=[V.agg [i6 gb,.im RB.length (Ah RB),.im NB.length (Ak NB)]]->False:=λh=>by
  obtain⟨e1,e2,e3⟩:=JE (cA h).1
  rw[e1,e2,e3,hB]at hA
  cases hA
 have hRA:=B7 RA
 have hNA:=Cl NA
 have hRB:=B7 RB
 have hNB:=Cl NB
 unfold Bd at*
 refine K8 [4,5] {sl:=[(8,.ptr 0 0),(9,.ptr 1 0)],os:=[Cw .nils,D6 330]} [fn 18 (i6 0),fn 22 (i6 330)] ?_
 clear hA hlA hlB
 generalize Ah RA=RRA at*
 generalize Ak NA=NNA at*
 generalize Ah RB=RRB at*
 generalize Ak NB=NNB at*
 exact m_ (p:=let z1:=[i6 ga,V.im RA.length RRA,V.im NA.length NNA];let z2:=[i6 gb,V.im RB.length RRB,V.im NB.length NNB];let z3:=V.tup [V.nils,i6 330];let z0:=pt (pt (pt (pt (pt (pt T.e 0 (O.row 34 none z1)) 1 (O.row 34 none z2)) 2 (O.row 29 none [u6 ↑xs])) 3 (O.row 29 none [u6 ↑ys])) 4 (O.row 47 none [V.nils])) 5 (O.row 39 none [i6 0]);An [z3=z3,_,_,V.fn 39 []=V.fn 39 []->[V.agg z1]=[V.agg z2]->z0=z0->0+1+1+1+1+1+1=6->CR.mk (i6 0) z0 6 []=CR.mk (i6 330) z0 6 [],An [Zz,Zz,Tt],An [Sm [V.nils],Tt,Tt],An [Sm [i6 330],Tt,Tt],Tt]) ⟨aq,c1,c2,a_⟩
theorem jq(hA:Ck ga RA NA=true)(hB:Ck gb RB NB=true)(hs:Dk NA NB=false):Ag Pg g0 15 [Bd ga RA NA,Bd gb RB NB,u6 xs,u6 ys] (.tup [.nils,i6 2]):=by
 have c1:=Md ga RA NA hlA
 rw[hA,if_pos rfl]at c1
 have c2:=Md gb RB NB hlB
 rw[hB,if_pos rfl]at c2
 have hMA:=Is hA
 have hMB:=Is hB
 have c3:=TH ga gb RA RB NA NB (by have:=hMA.q1;omega) (by have:=hMB.q1;omega)
 rw[hs]at c3
 have hRA:=B7 RA
 have hNA:=Cl NA
 have hRB:=B7 RB
 have hNB:=Cl NB
 unfold Bd at*
 refine K8 [4,5] {sl:=[(8,.ptr 0 0),(9,.ptr 1 0)],os:=[Cw .nils,D6 2]} [fn 18 (i6 0),fn 22 (i6 0),fn 27 (.bool false)] ?_
 clear hA hlA hlB hMA hMB hs hB
 generalize Ah RA=RRA at*
 generalize Ak NA=NNA at*
 generalize Ah RB=RRB at*
 generalize Ak NB=NNB at*
 exact Hu (let z1:=[i6 ga,V.im RA.length RRA,V.im NA.length NNA];let z2:=[i6 gb,V.im RB.length RRB,V.im NB.length NNB];let z0:=pt (pt (pt (pt (pt (pt T.e 0 (O.row 34 none z1)) 1 (O.row 34 none z2)) 2 (O.row 29 none [u6 ↑xs])) 3 (O.row 29 none [u6 ↑ys])) 4 (O.row 47 none [V.nils])) 5 (O.row 39 none [i6 0]);[Sm (V.tup [V.nils,i6 2]),_,_,V.fn 39 []=V.fn 39 []->[V.agg z1]=[V.agg z2]->z0=z0->0+1+1+1+1+1+1=6->Sm (CR.mk (i6 0) z0 6 []),_]) ⟨aq,c1,c2,aq,c3⟩
theorem jp(hxs:xs<2^64)(hys:ys<2^64)(hA:Ck ga RA NA=true)(hB:Ck gb RB NB=true)(hs:Dk NA NB=true)(hst:H5 NA.length xs ys=false):Ag Pg g0 15 [Bd ga RA NA,Bd gb RB NB,u6 xs,u6 ys] (.tup [.nils,i6 2]):=by
 have c1:=Md ga RA NA hlA
 rw[hA,if_pos rfl]at c1
 have c2:=Md gb RB NB hlB
 rw[hB,if_pos rfl]at c2
 have hMA:=Is hA
 have hMB:=Is hB
 have hqa:=hMA.q1
 have c3:=TH ga gb RA RB NA NB (by have:=hMA.q1;omega) (by have:=hMB.q1;omega)
 rw[hs]at c3
 have hRA:=B7 RA
 have hNA:=Cl NA
 have hRB:=B7 RB
 have hNB:=Cl NB
 have o1:=(Kn (G:=B1 Pg) (t:=29) hxs hys).1
 have o2:=LA (G:=B1 Pg) (t:=29) (x:=xs|||ys) (k:=NA.length) o_
 have o3:=AL (G:=B1 Pg) (t:=29) hxs hys
 unfold H5 at hst
 unfold Bd at*
 by_cases h1:(xs|||ys)/2^NA.length=0
 .have h2:xs&&& ys≠0:=λe=>by rw[h1,e]at hst;simp at hst
  refine K8 [4,5] {sl:=[(8,.ptr 0 0),(9,.ptr 1 0)],os:=[Cw .nils,D6 2]} [fn 18 (i6 0),fn 22 (i6 0),fn 27 (.bool true),va 32 (u6 (xs|||ys:Nat)),va 36 (u6 ((xs|||ys)/2^NA.length:Nat)),no 37,va 42 (u6 (xs&&& ys:Nat)),As 43] ?_
  clear hA hlA hlB hMA hMB hs hB hst
  generalize (xs|||ys)/2^NA.length=z1 at*
  generalize xs|||ys=z0 at*
  generalize xs&&& ys=z2 at*
  generalize Ah RA=RRA at*
  generalize Ak NA=NNA at*
  generalize Ah RB=RRB at*
  generalize Ak NB=NNB at*
  exact Hu (let z4:=[i6 ga,V.im RA.length RRA,V.im NA.length NNA];let z5:=[i6 gb,V.im RB.length RRB,V.im NB.length NNB];let z3:=pt (pt (pt (pt (pt (pt T.e 0 (O.row 34 none z4)) 1 (O.row 34 none z5)) 2 (O.row 29 none [u6 ↑xs])) 3 (O.row 29 none [u6 ↑ys])) 4 (O.row 47 none [V.nils])) 5 (O.row 39 none [i6 0]);[Sm (V.tup [V.nils,i6 2]),_,_,V.fn 39 []=V.fn 39 []->[V.agg z4]=[V.agg z5]->z3=z3->0+1+1+1+1+1+1=6->Sm (CR.mk (i6 0) z3 6 []),_,_,_,((↑z1:Int) != (0:Int))=false,_,((↑z2:Int) != (0:Int))=true]) ⟨aq,c1,c2,aq,c3,o1,o2,aq,o3,a_⟩
 .refine K8 [4,5] {sl:=[(8,.ptr 0 0),(9,.ptr 1 0)],os:=[Cw .nils,D6 2]} [fn 18 (i6 0),fn 22 (i6 0),fn 27 (.bool true),va 32 (u6 (xs|||ys:Nat)),va 36 (u6 ((xs|||ys)/2^NA.length:Nat)),As 37] ?_
  clear hA hlA hlB hMA hMB hs hB hst
  generalize (xs|||ys)/2^NA.length=z1 at*
  generalize xs|||ys=z0 at*
  generalize xs&&& ys=z2 at*
  generalize Ah RA=RRA at*
  generalize Ak NA=NNA at*
  generalize Ah RB=RRB at*
  generalize Ak NB=NNB at*
  exact Hu (let z3:=[i6 ga,V.im RA.length RRA,V.im NA.length NNA];let z4:=[i6 gb,V.im RB.length RRB,V.im NB.length NNB];let z2:=pt (pt (pt (pt (pt (pt T.e 0 (O.row 34 none z3)) 1 (O.row 34 none z4)) 2 (O.row 29 none [u6 ↑xs])) 3 (O.row 29 none [u6 ↑ys])) 4 (O.row 47 none [V.nils])) 5 (O.row 39 none [i6 0]);[Sm (V.tup [V.nils,i6 2]),_,_,V.fn 39 []=V.fn 39 []->[V.agg z3]=[V.agg z4]->z2=z2->0+1+1+1+1+1+1=6->Sm (CR.mk (i6 0) z2 6 []),_,_,_,((↑z1:Int) != (0:Int))=true]) ⟨aq,c1,c2,aq,c3,o1,o2,a_⟩
end
section
variable (ga:Int) (RA:List (List Int)) (NA:List Mc) (gb:Int) (RB:List (List Int)) (NB:List Mc) (hlA:B8 RA NA) (hlB:B8 RB NB) (xs ys:Nat) (hxs:xs<2^64) (hys:ys<2^64) (hA:Ck ga RA NA=true) (hB:Ck gb RB NB=true) (hs:Dk NA NB=true) (hst:H5 NA.length xs ys=true)
include hlA hlB hxs hys hA hB hs hst
theorem pK(p:Nat)(hp:NA.length=p+1):Ag Pg g0 15 [Bd ga RA NA,Bd gb RB NB,u6 xs,u6 ys] (.tup [I5 p (Kv ga RA NA gb RB NB xs ys),i6 (if Kv ga RA NA gb RB NB xs ys=none then 4 else 0)]):=by
 have c1:=Md ga RA NA hlA
 rw[hA,if_pos rfl]at c1
 have c2:=Md gb RB NB hlB
 rw[hB,if_pos rfl]at c2
 have hMA:=Is hA
 have hMB:=Is hB
 have hqa:=hMA.q1
 have c3:=TH ga gb RA RB NA NB (by have:=hMA.q1;omega) (by have:=hMB.q1;omega)
 rw[hs]at c3
 have hss:Aq NA=Aq NB:=of_decide_eq_true hs
 have hcl:=Eg (N:=NA)
 have hcb:=SP hMA.cd
 have hql:NA.length=NB.length:=by rw[<-hcl,hss,Eg]
 have hRA:=B7 RA
 have hNA:=Cl NA
 have hRB:=B7 RB
 have hNB:=Cl NB
 have o1:=(Kn (G:=B1 Pg) (t:=29) hxs hys).1
 have o2:=LA (G:=B1 Pg) (t:=29) (x:=xs|||ys) (k:=NA.length) o_
 have o3:=AL (G:=B1 Pg) (t:=29) hxs hys
 unfold H5 at hst
 rw[aD,decide_eq_true_eq,decide_eq_true_eq]at hst
 obtain⟨h1,h2⟩:=hst
 rw[h1]at o2
 rw[h2]at o3
 have hP4:=IU (s:=xs) hcb o_ (Aq NA).length (aC _)
 rw[hcl]at hP4
 have hdk:=Zu ga RA.length (Ah RA) gb RB.length (Ah RB) NA (Ak NB) xs ys hqa.2 hMA.cd hRA hRB hNB
 rw[JM]at hdk
 have hcf:=TZ (Aq NA) xs
 obtain⟨P,hPe⟩: ∃P:Nat,(P:Int)=Aw (Ax (Aq NA) xs) NA.length:=⟨(Aw (Ax (Aq NA) xs) NA.length).toNat,o_⟩
 have hfa:=λ(k:Nat)(hk:k<P)=>Uc hlA hlB hA hB hss hxs hys k p hp o_
 have hdif:Kv ga RA NA gb RB NB xs ys=Jc (Hr ga RA NA gb RB NB xs ys) P:=by unfold Kv;rw[<-hPe,cS]
 rw[hdif]
 have hFl:=wH (ga:=ga) (RA:=RA) (NA:=NA) (gb:=gb) (RB:=RB) (NB:=NB) (xs:=xs) (ys:=ys)
 have hcc:=Ap (Aq NA)
 have e3:sl (Aq NA)= .im NA.length (Aa (Aq NA)):=by show V.im (Aq NA).length _=_;rw[hcl]
 rw[e3]at hcf
 have hqa5:p+1<=5:=o_
 have hcl2:(Aq NA).length=p+1:=o_
 rw[hp]at hPe hFl
 rw[hp]at hP4
 have hrg:=Uu ga RA.length (Ah RA) gb RB.length (Ah RB) p (Ak NA) (Ak NB) (Aq NA) xs ys hRA hRB hNA hNB hqa5 hcl2 hxs (λi hi=>hcb i o_) P hPe o_ (Hr ga RA NA gb RB NB xs ys) hFl hfa
 have hrl:=XS hFl P
 unfold Bd at*
 rw[<-hql]at c2 c3⊢
 clear hfa hFl hdif hA hB hs hss hMA hMB hcb hPe hP4 hlA hlB e3
 generalize Jc (Hr ga RA NA gb RB NB xs ys) P=lo at*
 generalize xs|||ys=z0 at*
 generalize Aq NA=cs at*
 generalize Ah RA=RRA at*
 generalize Ak NA=NNA at*
 generalize Ah RB=RRB at*
 generalize Ak NB=NNB at*
 clear h1 h2 hql
 generalize NA.length=q at*
 cases lo with
 |none=>
  rw[if_pos rfl]
  rw[show I5 p none= .nils from rfl]at hrg⊢
  refine K8 [0,1] {sl:=[(8,.ptr 0 0),(9,.ptr 1 0)],os:=[Cw .nils,D6 4]} [fn 18 (i6 0),fn 22 (i6 0),fn 27 (.bool true),va 32 (u6 z0),va 36 (u6 (0:Nat)),va 42 (u6 (0:Nat)),mk 48,(0,.loop [0,1,2,3,4,5,6,7] (VX ga RA.length RRA gb RB.length RRB q NNB xs ys NNA (0,List.replicate q 0)) [(True,.exit 0,jV ga RA.length RRA gb RB.length RRB q NNB xs ys NNA cs)]),fn 65 (.fn 87 [.imp [.im q (Aa cs)],.imp [u6 xs]]),(0,.loop [0,1,2,3,4,5,6,7] (HY ga RA.length RRA gb RB.length RRB p NNA NNB cs xs ys) [(True,.normal,jW .nils)])] ?_
  exact m_ (p:=let y2:=An [Sm [i6 0],Tt,Tt];let z2:=[i6 ga,V.im RA.length RRA,V.im q NNA];let z3:=[i6 gb,V.im RB.length RRB,V.im q NNB];let z4:=u6 ↑xs;let z5:=(↑q:Int);let z6:=List.replicate q (0:Int);let z7:=u6 ↑ys;let z8:=[V.nils];let z1:=pt (pt (pt (pt (pt (pt T.e 0 (O.row 34 none z2)) 1 (O.row 34 none z3)) 2 (O.row 29 none [z4])) 3 (O.row 29 none [z7])) 4 (O.row 47 none z8)) 5 (O.row 39 none [i6 0]);An [Sm (V.tup [V.nils,i6 4]),_,_,V.fn 39 []=V.fn 39 []->[V.agg z2]=[V.agg z3]->z1=z1->0+1+1+1+1+1+1=6->Sm (CR.mk (i6 0) z1 6 []),_,_,_,_,An [(0:Int)<=z5,z5<=z5,(↑(8:Nat):Int)*z5<=(281474976710656:Int),z5<=(9223372036854775807:Int)],An [An [Zz,Zz,Zz,Zz,Zz,Zz,Zz,An [q=q,NNA=NNA],z5=z5,(↑(0:Nat):Int)=(0:Int),Tt],An [z2=z2,TT 3],An [z3=z3,TT 3],An [Sm [z4],Tt,Tt],An [Sm [z7],Tt,Tt],An [z8=z8,Tt,Tt],y2,An [Aa z6=Cx q [i6 0],Ba (Aa z6)],An [An [Zz,q=q,Sm (q-q)],Tt],Tt],_,(True->An [_,An [An [Zz,Zz,Zz,Zz,Zz,Zz,Zz,Zz,An [[V.im (p+1) (Aa cs)]=[(V.im q (Aa cs))],Sm [z4],Tt],Tt],An [[i6 ga,V.im RA.length RRA,V.im (p+1) NNA]=z2,TT 3],An [[i6 gb,V.im RB.length RRB,V.im (p+1) NNB]=z3,TT 3],An [Sm [z4],Tt,Tt],An [Sm [z7],Tt,Tt],An [z8=z8,Tt,Tt],y2,An [An [p+1=q,Sm (Aa cs)],Tt],An [Tt,Tt],Tt],_,(True->An [An [Zz,Zz,Tt],An [z8=z8,Tt,Tt],An [Sm [i6 4],Tt,Tt],Tt]),Tt]),Tt]) ⟨aq,c1,c2,aq,c3,o1,o2,o3,a_,⟨a_,a_,a_,a_,a_,a_,aq,⟨(Lh _ _).symm,aq⟩,a_⟩,hdk,(λ_=>⟨hcf,a_,hrg,a_⟩),aq⟩
 |some l=>
  rw[if_neg s_]
  have hll:=hrl l rfl
  have hl1:=Ap l
  rw[show I5 p (some l)= .im (p+1) (Aa l)from rfl]at hrg⊢
  refine K8 [0,1] {sl:=[(8,.ptr 0 0),(9,.ptr 1 0)],os:=[Cw (.im (p+1) (Aa l)),D6 0],md:=[1,0]} [fn 18 (i6 0),fn 22 (i6 0),fn 27 (.bool true),va 32 (u6 z0),va 36 (u6 (0:Nat)),va 42 (u6 (0:Nat)),mk 48,(0,.loop [0,1,2,3,4,5,6,7] (VX ga RA.length RRA gb RB.length RRB q NNB xs ys NNA (0,List.replicate q 0)) [(True,.exit 0,jV ga RA.length RRA gb RB.length RRB q NNB xs ys NNA cs)]),fn 65 (.fn 87 [.imp [.im q (Aa cs)],.imp [u6 xs]]),(0,.loop [0,1,2,3,4,5,6,7] (HY ga RA.length RRA gb RB.length RRB p NNA NNB cs xs ys) [(True,.normal,jW (.im (p+1) (Aa l)))])] ?_
  exact m_ (p:=let y3:=An [Sm [i6 0],Tt,Tt];let z2:=[i6 ga,V.im RA.length RRA,V.im q NNA];let z3:=[i6 gb,V.im RB.length RRB,V.im q NNB];let z4:=u6 ↑xs;let z5:=(↑q:Int);let z6:=List.replicate q (0:Int);let z8:=u6 ↑ys;let y1:=[V.nils];let z1:=pt (pt (pt (pt (pt (pt T.e 0 (O.row 34 none z2)) 1 (O.row 34 none z3)) 2 (O.row 29 none [z4])) 3 (O.row 29 none [z8])) 4 (O.row 47 none y1)) 5 (O.row 39 none [i6 0]);An [Sm (V.tup [(V.im (p+1) (Aa l)),i6 0]),_,_,V.fn 39 []=V.fn 39 []->[V.agg z2]=[V.agg z3]->z1=z1->0+1+1+1+1+1+1=6->Sm (CR.mk (i6 0) z1 6 []),_,_,_,_,An [(0:Int)<=z5,z5<=z5,(↑(8:Nat):Int)*z5<=(281474976710656:Int),z5<=(9223372036854775807:Int)],An [An [Zz,Zz,Zz,Zz,Zz,Zz,Zz,An [q=q,NNA=NNA],z5=z5,(↑(0:Nat):Int)=(0:Int),Tt],An [z2=z2,TT 3],An [z3=z3,TT 3],An [Sm [z4],Tt,Tt],An [Sm [z8],Tt,Tt],An [y1=y1,Tt,Tt],y3,An [Aa z6=Cx q [i6 0],Ba (Aa z6)],An [An [Zz,q=q,Sm (q-q)],Tt],Tt],_,(True->An [_,An [An [Zz,Zz,Zz,Zz,Zz,Zz,Zz,Zz,An [[V.im (p+1) (Aa cs)]=[(V.im q (Aa cs))],Sm [z4],Tt],Tt],An [[i6 ga,V.im RA.length RRA,V.im (p+1) NNA]=z2,TT 3],An [[i6 gb,V.im RB.length RRB,V.im (p+1) NNB]=z3,TT 3],An [Sm [z4],Tt,Tt],An [Sm [z8],Tt,Tt],An [y1=y1,Tt,Tt],y3,An [An [p+1=q,Sm (Aa cs)],Tt],An [Tt,Tt],Tt],_,(True->An [An [Zz,Zz,Tt],An [An [Sm (p+1),Sm (Aa l)],Tt],y3,Tt]),Tt]),Tt]) ⟨aq,c1,c2,aq,c3,o1,o2,o3,a_,⟨a_,a_,a_,a_,a_,a_,aq,⟨(Lh _ _).symm,aq⟩,a_⟩,hdk,(λ_=>⟨hcf,a_,hrg,a_⟩),aq⟩
end
def Fy(X Y:List Int)(wA wB:Int):Bool:=(List.range X.length).all λi=>decide (X.getD i 0*wB=Y.getD i 0*wA)
theorem YX:Fy X Y wA wB=true↔∀i,i<X.length->X.getD i 0*wB=Y.getD i 0*wA:=by
 unfold Fy
 rw[aO]
 simp only[bB,decide_eq_true_eq]
section
variable (X Y:List Int) (z:Nat) (wA wB:Int) (hX:X.length=z) (hY:Y.length=z) (hz:z<=1000000) (hXb: ∀i,i<z->0<=X.getD i 0/\X.getD i 0<=429981696) (hYb: ∀i,i<z->0<=Y.getD i 0/\Y.getD i 0<=429981696) (hwA:1<=wA/\wA<=429981696) (hwB:1<=wB/\wB<=429981696)
abbrev kP(k:Nat):SL:={sl:=[(6,.im z (Aa X)),(8,.im z (Aa Y)),(9,.bool true),(10,i6 wA),(11,i6 wB),(45,.im z (Aa X)),(46,i6 z),(47,i6 k)]}
include hX hY hz hXb hYb hwA hwB
theorem Vg:Au Pg none 0 (aT 9 110111111111010) (Al g0 66 (kP X Y z wA wB 0)) (B3 g0 66 [(Fy X Y wA wB=true,.exit 0,{sl:=[(9,.bool true)]}),(Fy X Y wA wB=false,.exit 0,{sl:=[(9,.bool false)]})]):=by
 have hxx:=Ap X
 have hyy:=Ap Y
 refine C9 (aT 9 1101111111110100) (λk=>k<=z/\∀i,i<k->X.getD i 0*wB=Y.getD i 0*wA) (kP X Y z wA wB) (λk=>z-k) (λk hk=>?_) 0 ⟨aG _,λi h=>absurd h (aJ _)⟩
 obtain⟨hk,hin⟩:=hk
 by_cases hlt:k<z
 .have s1:=Dm (l:=X) (k:=k) o_
  have s2:=Dm (l:=Y) (k:=k) o_
  have b:=WO hXb hYb hwA hwB k hlt
  by_cases he:X.getD k 0*wB=Y.getD k 0*wA
  .have hg: ∀i,i<k+1 ->X.getD i 0*wB=Y.getD i 0*wA:=λi hi=>by
    by_cases hik:i=k
    .subst hik;exact he
    .exact hin i o_
   refine .inl ⟨k+1,[],[As 48,pl 53,ld 54 (i6 (X.getD k 0)),nu 56 (X.getD k 0*wB),pl 59,ld 60 (i6 (Y.getD k 0)),nu 62 (Y.getD k 0*wA),no 63,nu 64 ((k+1:Nat):Int)],1000,⟨hlt,hg⟩,o_,?_⟩
   clear hin hg hXb hYb
   generalize hp:X.getD k 0*wB=p at*
   generalize hp2:Y.getD k 0*wA=p2 at*
   generalize X.getD k 0=x at*
   generalize Y.getD k 0=y at*
   exact C8 [_,_,_,wr .i64 (x*wB)=p,_,_,wr .i64 (y*wA)=p2,(p != p2)=false,wr .i64 ((↑k:Int)+(1:Int))=(↑(k+1):Int)] ⟨Bf hlt,Ar hlt,s1,aq,Ar hlt,s2,a_⟩
  .have hf:Fy X Y wA wB=false:=by
    cases hb:Fy X Y wA wB with
    |false=>rfl
    |true=>exact absurd (YX.1 hb k o_) he
   refine .inr ⟨.exit 0,[],{sl:=[(9,.bool false)]},[As 48,pl 53,ld 54 (i6 (X.getD k 0)),nu 56 (X.getD k 0*wB),pl 59,ld 60 (i6 (Y.getD k 0)),nu 62 (Y.getD k 0*wA),As 63],1000,.inr (.inl ⟨hf,rfl,rfl⟩),?_⟩
   clear hin hf hXb hYb
   generalize hp:X.getD k 0*wB=p at*
   generalize hp2:Y.getD k 0*wA=p2 at*
   generalize X.getD k 0=x at*
   generalize Y.getD k 0=y at*
   exact Cj [_,_,_,wr .i64 (x*wB)=p,_,_,wr .i64 (y*wA)=p2,(p != p2)=true] ⟨Bf hlt,Ar hlt,s1,aq,Ar hlt,s2,a_⟩
 .have hk2:k=z:=o_
  have hf:Fy X Y wA wB=true:=YX.2 λi hi=>hin i o_
  refine .inr ⟨.exit 0,[],{sl:=[(9,.bool true)]},[no 48],1000,.inl ⟨hf,rfl,rfl⟩,?_⟩
  clear hin hf hXb hYb
  exact Cj [_] (Cq hlt)
end
section
variable (ga:Int) (RA:List (List Int)) (NA:List Mc) (gb:Int) (RB:List (List Int)) (NB:List Mc) (hlA:B8 RA NA) (hlB:B8 RB NB)
include hlA hlB
theorem ij(hA:Ck ga RA NA=false):Ag Pg g0 9 [Bd ga RA NA,Bd gb RB NB] (.tup [.bool false,i6 330]):=by
 have c1:=Md ga RA NA hlA
 rw[hA,if_neg s_]at c1
 have hRA:=B7 RA
 have hNA:=Cl NA
 have hRB:=B7 RB
 have hNB:=Cl NB
 unfold Bd at*
 refine Ch {sl:=[(4,.bool false),(5,i6 330)]} [fn 14 (i6 330)] ?_
 clear hA hlA hlB
 generalize Ah RA=RRA at*
 generalize Ak NA=NNA at*
 generalize Ah RB=RRB at*
 generalize Ak NB=NNB at*
 exact Hu [Sm (V.tup [V.bool false,i6 330]),_] ⟨aq,c1⟩
theorem Ji(hA:Ck ga RA NA=true)(hB:Ck gb RB NB=false):Ag Pg g0 9 [Bd ga RA NA,Bd gb RB NB] (.tup [.bool false,i6 330]):=by
 have c1:=Md ga RA NA hlA
 rw[hA,if_pos rfl]at c1
 have c2:=Md gb RB NB hlB
 rw[hB,if_neg s_]at c2
 have hno:[V.agg [i6 ga,.im RA.length (Ah RA),.im NA.length (Ak NA)]]=[V.agg [i6 gb,.im RB.length (Ah RB),.im NB.length (Ak NB)]]->False:=λh=>by
  obtain⟨e1,e2,e3⟩:=JE (cA h).1
  rw[e1,e2,e3,hB]at hA
  cases hA
 have hRA:=B7 RA
 have hNA:=Cl NA
 have hRB:=B7 RB
 have hNB:=Cl NB
 unfold Bd at*
 refine Ch {sl:=[(4,.bool false),(5,i6 330)]} [fn 14 (i6 0),fn 18 (i6 330)] ?_
 clear hA hlA hlB
 generalize Ah RA=RRA at*
 generalize Ak NA=NNA at*
 generalize Ah RB=RRB at*
 generalize Ak NB=NNB at*
 exact m_ (p:=let z1:=[i6 ga,V.im RA.length RRA,V.im NA.length NNA];let z2:=[i6 gb,V.im RB.length RRB,V.im NB.length NNB];let z3:=V.tup [V.bool false,i6 330];let z0:=pt (pt T.e 0 (O.row 34 none z1)) 1 (O.row 34 none z2);An [z3=z3,_,_,V.fn 39 []=V.fn 39 []->[V.agg z1]=[V.agg z2]->z0=z0->0+1+1=2->CR.mk (i6 0) z0 2 []=CR.mk (i6 330) z0 2 [],An [Sm false,Sm (330:Int),Tt],Tt]) ⟨aq,c1,c2,a_⟩
theorem ii(hA:Ck ga RA NA=true)(hB:Ck gb RB NB=true)(hs:Dk NA NB=false):Ag Pg g0 9 [Bd ga RA NA,Bd gb RB NB] (.tup [.bool false,i6 0]):=by
 have c1:=Md ga RA NA hlA
 rw[hA,if_pos rfl]at c1
 have c2:=Md gb RB NB hlB
 rw[hB,if_pos rfl]at c2
 have hMA:=Is hA
 have hMB:=Is hB
 have c3:=TH ga gb RA RB NA NB (by have:=hMA.q1;omega) (by have:=hMB.q1;omega)
 rw[hs]at c3
 have hRA:=B7 RA
 have hNA:=Cl NA
 have hRB:=B7 RB
 have hNB:=Cl NB
 unfold Bd at*
 refine Ch {sl:=[(4,.bool false),(5,i6 0)]} [fn 14 (i6 0),fn 18 (i6 0),fn 23 (.bool false)] ?_
 clear hA hlA hlB hMA hMB hs hB
 generalize Ah RA=RRA at*
 generalize Ak NA=NNA at*
 generalize Ah RB=RRB at*
 generalize Ak NB=NNB at*
 exact Hu (let z1:=[i6 ga,V.im RA.length RRA,V.im NA.length NNA];let z2:=[i6 gb,V.im RB.length RRB,V.im NB.length NNB];let z3:=V.tup [V.bool false,i6 0];let z0:=pt (pt T.e 0 (O.row 34 none z1)) 1 (O.row 34 none z2);[z3=z3,_,_,V.fn 39 []=V.fn 39 []->[V.agg z1]=[V.agg z2]->z0=z0->0+1+1=2->Sm (CR.mk (i6 0) z0 2 []),_]) ⟨aq,c1,c2,aq,c3⟩
theorem wY(hA:Ck ga RA NA=true)(hB:Ck gb RB NB=true)(hs:Dk NA NB=true):Ag Pg g0 9 [Bd ga RA NA,Bd gb RB NB] (.tup [.bool (Fy (Bp RA NA (Cb NA.length)) (Bp RB NB (Cb NA.length)) (ga^RA.length) (gb^RB.length)),i6 0]):=by
 have c1:=Md ga RA NA hlA
 rw[hA,if_pos rfl]at c1
 have c2:=Md gb RB NB hlB
 rw[hB,if_pos rfl]at c2
 have hMA:=Is hA
 have hMB:=Is hB
 have c3:=TH ga gb RA RB NA NB (by have:=hMA.q1;omega) (by have:=hMB.q1;omega)
 rw[hs]at c3
 have hss:Aq NA=Aq NB:=of_decide_eq_true hs
 have hql:NA.length=NB.length:=by rw[<-Eg (N:=NA),hss,Eg]
 have c4:=sQ ga RA NA hlA hA
 have c5:=sQ gb RB NB hlB hB
 rw[<-hql]at c5
 have hXl:(Bp RA NA (Cb NA.length)).length=(Bp RA NA (Cb NA.length)).length:=rfl
 have hYl:(Bp RB NB (Cb NA.length)).length=(Bp RA NA (Cb NA.length)).length:=by
  rw[Pw,Pw,<-DY _ (aC _),<-DY _ (aC _),<-hss,hql]
 have hXb:=YF (act:=Cb NA.length) hMA
 have hYb:=YF (act:=Cb NA.length) hMB
 rw[hYl]at hYb
 have hz:(Bp RA NA (Cb NA.length)).length<=1024:=by rw[Pw];have:=hMA.z24;omega
 have wA:=MG ga RA NA hMA.g1 hMA.n1
 have wB:=MG gb RB NB hMB.g1 hMB.n1
 have bwA:=L9 hMA.g1 hMA.n1
 have bwB:=L9 hMB.g1 hMB.n1
 have hRA:=B7 RA
 have hNA:=Cl NA
 have hRB:=B7 RB
 have hNB:=Cl NB
 have hwAB:ga=gb->RA.length=RB.length->ga^RA.length=gb^RB.length:=λa b=>by rw[a,b]
 have hlo:=Vg _ _ _ (ga^RA.length) (gb^RB.length) hXl hYl o_ hXb hYb bwA bwB
 have e5:sl (Bp RB NB (Cb NA.length))= .im (Bp RA NA (Cb NA.length)).length (Aa (Bp RB NB (Cb NA.length))):=by show V.im (Bp RB NB (Cb NA.length)).length _=_;rw[hYl]
 rw[e5]at c5
 clear hXb hYb hA hB hs hss hMA hMB hlA hlB e5
 generalize Bp RB NB (Cb NA.length)=Y at*
 generalize Bp RA NA (Cb NA.length)=X at*
 have hxx:=Ap X
 have hyy:=Ap Y
 unfold Bd at*
 generalize ga^RA.length=wa at*
 generalize gb^RB.length=wb at*
 generalize Fy X Y wa wb=b at*
 refine Ch {sl:=[(4,.bool b),(5,i6 0)]} [fn 14 (i6 0),fn 18 (i6 0),fn 23 (.bool true),fn 27 (.tup [sl X,i6 0]),fn 35 (.tup [.im X.length (Aa Y),i6 0]),fn 42 (i6 wa),fn 44 (i6 wb),(0,.loop [] (kP X Y X.length wa wb 0) [(b=true,.exit 0,{sl:=[(9,.bool true)]}),(b=false,.exit 0,{sl:=[(9,.bool false)]})])] ?_
 generalize Ah RA=RRA at*
 generalize Ak NA=NNA at*
 generalize Ah RB=RRB at*
 generalize Ak NB=NNB at*
 exact m_ (p:=let z7:=An [Sm X.length,Sm (Aa X)];let z1:=[i6 ga,V.im RA.length RRA,V.im NA.length NNA];let z2:=[i6 gb,V.im RB.length RRB,V.im NB.length NNB];let z5:=(0:Int);let z6:=V.tup [V.bool b,i6 0];let z0:=pt (pt T.e 0 (O.row 34 none z1)) 1 (O.row 34 none z2);An [z6=z6,_,_,V.fn 39 []=V.fn 39 []->[V.agg z1]=[V.agg z2]->z0=z0->0+1+1=2->Sm (CR.mk (i6 0) z0 2 []),_,_,_,_,_,V.fn 42 []=V.fn 42 []->[V.agg z1]=[V.agg z2]->z0=z0->0+1+1=2->CR.mk (i6 wa) z0 2 []=CR.mk (i6 wb) z0 2 [],An [An [z7,An [_,Sm (Aa Y)],Sm true,wa=wa,wb=wb,z7,Sm (↑X.length:Int),(↑(0:Nat):Int)=z5,Tt],Tt],_,b=true->An [An [b=true,z5=z5,Tt],Tt],b=false->An [An [b=false,z5=z5,Tt],Tt],Tt]) ⟨aq,c1,c2,aq,c3,c4,c5,wA,wB,aq,⟨⟨aq,⟨hXl,aq⟩,a_⟩,aq⟩,hlo,a_⟩
end
theorem LK(k:Nat):Dr k=(k:Int)-1:=by cases k with|zero=>rfl|succ k=>grind[Dr]
theorem UE(R:List (List Int)):(D4 R).length=R.length:=by simp[D4]
section
variable (R:List (List Int)) (x0:Nat)
abbrev VA(n:Nat)(C:List V)(q:Nat×Nat×List Int):SL:={sl:=[(0,.im n C),(1,i6 q.2.1),(5,.sl 0 0 n (some (n-n))),(6,i6 (Dr q.1))],os:=[Ay q.2.2]}
theorem gm(hR:Gx R)(hn:R.length<=8)(hx0:x0<=1000000):
  Au Pg none 0 (aT 122 111010) (Al g0 33 (VA R.length (Aa (D4 R)) (R.length,x0,List.replicate R.length 0))) (B3 g0 33 [(True,.exit 0,{sl:=[(5,.im R.length (Aa (B2 R x0)))]})]):=by
 have hCf:=Ap (D4 R)
 refine C9 (aT 122 1110100) (λq=>q.1<=R.length/\q.2.1=xq R x0 (R.length-q.1)/\q.2.2=dl R x0 (List.replicate R.length 0) (R.length-q.1)) (VA R.length (Aa (D4 R))) (λq=>q.1) (λq hq=>?_) (R.length,x0,List.replicate R.length 0) ⟨aC _,by simp only[dJ];rfl,by simp only[dJ];rfl⟩
 obtain⟨k,x1,d1⟩:=q
 obtain⟨hk,hx,hd⟩:=hq
 dsimp only at hk hx hd
 have hdl:d1.length=R.length:=by rw[hd,Pt];simp
 cases k with
 |zero=>
  have he:d1=B2 R x0:=by rw[hd,cO];rfl
  rw[<-he]
  clear he hd hx
  generalize D4 R=C at*
  generalize R.length=n at*
  have hdf:=Ap d1
  refine .inr ⟨.exit 0,[],{sl:=[(5,.im n (Aa d1))]},[],1000,.inl ⟨trivial,rfl,rfl⟩,?_⟩
  exact m_ (p:=An [An [An [n=n,Sm (Aa d1),_],Tt],Tt]) ⟨⟨⟨aq,aq,hdf⟩,aq⟩,aq⟩
 | succ k =>
  obtain⟨t,ht⟩: ∃t:Nat,t=R.length-(k+1):=⟨_,rfl⟩
  have hj:k=R.length-1-t:=o_
  have hkn:k<R.length:=hk
  rw[<-ht]at hx hd
  have ht2:R.length-k=t+1:=o_
  obtain⟨r1,r2,r3⟩:=hR k hkn
  have ed:((Gp R x0 t:Nat):Int)=((x1:Nat):Int).tmod (((R.getD k []).length:Nat):Int):=by
   rw[vI,hx];unfold Gp K4;rw[hj]
  have ex:((xq R x0 (t+1):Nat):Int)=((x1:Nat):Int).tdiv (((R.getD k []).length:Nat):Int):=by
   rw[vM,hx];show((xq R x0 t/K4 R (R.length-1-t):Nat):Int)=_;unfold K4;rw[hj]
  have edl:dl R x0 (List.replicate R.length 0) (t+1)=d1.set k (Gp R x0 t:Nat):=by rw[hd,hj];rfl
  have hlay:=Ie (l:=d1) (j:=k) (x:=(Gp R x0 t:Nat)) (by rw[hdl];omega)
  have hx1:x1<=x0:=by rw[hx];exact RK t
  have hx2:=RK (R:=R) (x:=x0) (t+1)
  have h1:=Dm (l:=D4 R) (k:=k) (by grind[UE])
  rw[WM hkn]at h1
  have s1:=Ox (G:=B1 Pg) (t:=3) (x:=(x1:Nat)) (y:=((R.getD k []).length:Nat)) o_
  have s2:=Mw (G:=B1 Pg) (t:=3) (x:=(x1:Nat)) (y:=((R.getD k []).length:Nat)) o_ (by rw[<-ex];omega) (by rw[<-ex];omega)
  rw[<-ed]at s1
  rw[<-ex]at s2
  have hdn:Dr k=(k:Int)-1:=LK k
  rw[<-edl]at hlay
  refine .inl ⟨(k,xq R x0 (t+1),dl R x0 (List.replicate R.length 0) (t+1)),[0],[As 14,pl 22,ld 23 (i6 ((R.getD k []).length:Nat)),va 24 (i6 (Gp R x0 t:Nat)),pl 25,st (Aa (dl R x0 (List.replicate R.length 0) (t+1))),pl 29,ld 30 (i6 ((R.getD k []).length:Nat)),va 31 (i6 (xq R x0 (t+1):Nat)),nu 16 (Dr k)],1000,⟨o_,by grind,by grind⟩,o_,?_⟩
  unfold VA
  simp only[show Dr (k+1)=(k:Int)from rfl]
  clear ed ex edl hx hd hj ht2 r3 hR
  generalize dl R x0 (List.replicate R.length 0) (t+1)=d2 at*
  generalize xq R x0 (t+1)=x2 at*
  generalize Gp R x0 t=dg at*
  generalize (R.getD k []).length=c at*
  generalize D4 R=C at*
  generalize Dr k=dk at*
  clear ht
  generalize R.length=n at*
  have hdf:=Ap d1
  have hdf2:=Ap d2
  exact C8 [decide ((↑k:Int)≥(0:Int))=true,_,_,_,_,_,_,_,_,wr .i64 ((↑k:Int)-(1:Int))=dk] ⟨aq,Ar hkn,h1,s1,Ar hkn,hlay,Ar hkn,h1,s2,aq⟩
theorem wN(hR:Gx R)(hn:R.length<=8)(hx0:x0<=1000000):Ag Pg g0 122 [sl (D4 R),i6 x0] (.im R.length (Aa (B2 R x0))):=by
 have hlp:=gm R x0 hR hn hx0
 have hCf:=Ap (D4 R)
 have hWf:=Ap (B2 R x0)
 show Ag Pg g0 _ [.im (D4 R).length (Aa (D4 R)),_] _
 rw[UE]
 unfold VA at hlp
 have hd:=LK R.length
 dsimp only at hlp
 generalize Dr R.length=dk at*
 generalize B2 R x0=w at*
 generalize D4 R=C at*
 clear hR
 have hrr: ∀n,Cx n [i6 0]=Aa (List.replicate n 0):=λn=>Lh n 0
 generalize R.length=n at*
 refine Ch {sl:=[(4,.im n (Aa w))]} [mk 9,nu 12 dk,(0,.loop [0] {sl:=[(0,.im n (Aa C)),(1,i6 x0),(5,.sl 0 0 n (some (n-n))),(6,i6 dk)],os:=[Ay (List.replicate n 0)]} [(True,.exit 0,{sl:=[(5,.im n (Aa w))]})])] ?_
 exact m_ (p:=let z0:=List.replicate n (0:Int);let z1:=(↑n:Int);let z2:=V.im n (Aa w);An [z2=z2,An [(0:Int)<=z1,z1<=z1,(↑(8:Nat):Int)*z1<=(281474976710656:Int),z1<=(9223372036854775807:Int)],wr .i64 (z1-(1:Int))=dk,An [An [An [n=n,Sm (Aa C)],Sm (↑x0:Int),An [Zz,n=n,Sm (n-n)],dk=dk,Tt],An [Aa z0=Cx n [i6 0],Ba (Aa z0)],Tt],_,(True->An [An [An [n=n,Sm (Aa w)],Tt],Tt]),Tt]) ⟨aq,a_,aq,a_,hlp,a_⟩
end
abbrev gD(n:Nat)(C:List V)(p:Int)(k:Nat):SL:={sl:=[(0,.im n C),(3,i6 p),(4,i6 k)]}
theorem wO(cs:List Int)(hl6:cs.length<=1000000)(hb: ∀k,k<=cs.length->0<=Aw cs k/\Aw cs k<=1000000):Ag Pg g0 81 [sl cs] (i6 (Aw cs cs.length)):=by
 have hcf:=Ap cs
 have hlp:Au Pg none 0 (aT 81 111010) (Al g0 18 (gD cs.length (Aa cs) 1 0)) (B3 g0 18 [(True,.exit 0,{sl:=[(3,i6 (Aw cs cs.length))]})]):=by
  refine C9 (aT 81 1110100) (λk=>k<=cs.length) (λk=>gD cs.length (Aa cs) (Aw cs k) k) (λk=>cs.length-k) (λk hk=>?_) 0 (aG _)
  by_cases hlt:k<cs.length
  .have h1:=Dm hlt
   have h2:=hb (k+1) hlt
   have h3:Aw cs (k+1)=Aw cs k*cs.getD k 0:=rfl
   refine .inl ⟨k+1,[],[As 8,pl 14,ld 15 (i6 (cs.getD k 0)),nu 16 (Aw cs (k+1)),nu 10 ((k+1:Nat):Int)],1000,hlt,o_,?_⟩
   try dsimp only
   clear hb
   generalize Aw cs (k+1)=p2 at*
   generalize Aw cs k=p1 at*
   generalize cs.getD k 0=c at*
   exact C8 [_,_,_,wr .i64 (p1*c)=p2,wr .i64 ((↑k:Int)+(1:Int))=(↑(k+1):Int)] ⟨Bf hlt,Ar hlt,h1,a_⟩
  .obtain rfl:k=cs.length:=o_
   refine .inr ⟨.exit 0,[],{sl:=[(3,i6 (Aw cs cs.length))]},[no 8],1000,.inl ⟨trivial,rfl,rfl⟩,?_⟩
   try dsimp only
   generalize Aw cs cs.length=p at*
   exact Cj [_] (Cq hlt)
 generalize Aw cs cs.length=p at*
 refine Ch {sl:=[(2,i6 p)]} [(0,.loop [] (gD cs.length (Aa cs) 1 0) [(True,.exit 0,{sl:=[(3,i6 p)]})])] ?_
 exact m_ (p:=An [Sm (i6 p),An [An [An [Sm cs.length,Sm (Aa cs)],Sm (1:Int),(↑(0:Nat):Int)=(0:Int),Tt],Tt],_,(True->An [An [p=p,Tt],Tt]),Tt]) ⟨aq,a_,hlp,a_⟩
theorem oA: ∀k,k<=R.length->Aw (D4 R) k=(B4 R k:Nat)
 |0,_=>rfl
 |k+1,h=>by
  show Aw (D4 R) k*(D4 R).getD k 0=((B4 R k*(R.getD k []).length:Nat):Int)
  rw[oA k o_,WM o_,cJ]
theorem R5(hR:Gx R): ∀k,k<=R.length->B4 R k<=4^k
 |0,_=>aC _
 |k+1,h=>by
  have h1:=R5 hR k o_
  obtain⟨_,h2,_⟩:=hR k o_
  exact cX h1 h2
theorem X4(hR:Gx R)(hn:R.length<=8){k:Nat}(h:k<=R.length):B4 R k<=65536:=
 aP (R5 hR k h) (aP (aH d_ (show k<=8 by omega)) d_)
section
variable (g:Int) (R:List (List Int)) (N:List Mc) (hR:Gx R) (hn:R.length<=8)
include hR hn
theorem sX:Ag Pg g0 82 [Bd g R N] (i6 (B4 R R.length:Nat)):=by
 have h1:=TU g R N o_
 have h2:=wO (D4 R) (by grind[UE]) (λk hk=>by
  grind[UE,oA,X4])
 rw[UE,oA _ (aC _)]at h2
 have hRR:=B7 R
 have hNN:=Cl N
 have hCf:=Ap (D4 R)
 unfold Bd at*
 generalize D4 R=C at*
 generalize B4 R R.length=p at*
 generalize Ah R=RR at*
 generalize Ak N=NN at*
 clear hR
 generalize R.length=nR at*
 generalize N.length=nN at*
 refine Ch {sl:=[(2,i6 p)]} [fn 4 (sl C),fn 5 (i6 p)] ?_
 exact Hu [Sm (i6 ↑p),_,_] ⟨aq,h1,h2⟩
end
def Ns(R:List (List Int))(u:List Int):Nat->Int
 |0=>1
 |k+1=>Ns R u k*(R.getD k []).getD (u.getD k 0).toNat 0
theorem OQ{x:Nat}: ∀t,t<=R.length->Ns R (B2 R x) (R.length-t)*wq R x t=Ns R (B2 R x) R.length
 |0,_=>by rw[cO];exact Int.mul_one _
 |t+1,h=>by
  rw[<-OQ t o_,show R.length-t=(R.length-(t+1))+1 by omega]
  show _*(wq R x t*(R.getD (R.length-1-t) []).getD (Gp R x t) 0)=(_* _)* _
  rw[WE o_,show R.length-1-(R.length-(t+1))=t by omega,show R.length-(t+1)=R.length-1-t by omega,cS,eU,Int.mul_comm (wq R x t)]
theorem FU{x:Nat}:Ns R (B2 R x) R.length=Ei R x:=by
 rw[<-OQ R.length (aC _),dJ]
 exact eW _
theorem CA(hR:Gx R){u:List Int}(hu:AM R u): ∀k,k<=R.length->0<=Ns R u k/\Ns R u k<=((12^k:Nat):Int)
 |0,_=>by simp[Ns]
 |k+1,h=>by
  obtain⟨h1,h2⟩:=CA hR hu k o_
  obtain⟨_,_,c⟩:=hR k o_
  obtain⟨u1,u2⟩:=hu.2 k o_
  obtain⟨h3,h4⟩:=c (u.getD k 0).toNat o_
  unfold Ns
  refine⟨bY h1 h3,?_⟩
  rw[bK,cJ]
  exact bC h2 h4 h3 o_
section
variable (g:Int) (R:List (List Int)) (N:List Mc) (hR:Gx R) (hn:R.length<=8) (x:Nat) (hx:x<=1000000)
include hR hn hx
abbrev gX(g:Int)(nR:Nat)(RR:List V)(nN:Nat)(NN:List V)(U:List V)(w:Int)(k:Nat):SL:={sl:=[(2,.ptr 0 0),(5,.im nR U),(6,i6 w),(7,i6 k)],os:=[Di g nR RR nN NN]}
theorem sR:Ag Pg g0 85 [Bd g R N,i6 x] (i6 (Ei R x)):=by
 have hRR:=B7 R
 have hNN:=Cl N
 have hroot:=MF (λk hk=>(hR k hk).1) x
 have hUf:=Ap (B2 R x)
 have hlp:Au Pg none 0 (aT 85 1111010) (Al g0 32 (gX g R.length (Ah R) N.length (Ak N) (Aa (B2 R x)) 1 0)) (B3 g0 32 [(True,.exit 0,{sl:=[(6,i6 (Ei R x))]})]):=by
  refine C9 (aT 85 11110100) (λk=>k<=R.length) (λk=>gX g R.length (Ah R) N.length (Ak N) (Aa (B2 R x)) (Ns R (B2 R x) k) k) (λk=>R.length-k) (λk hk=>?_) 0 (aG _)
  by_cases hlt:k<R.length
  .have h1:=Pk hlt
   have h2:=Dm (l:=B2 R x) (k:=k) (by grind[Pj])
   obtain⟨u1,u2⟩:=hroot.2 k hlt
   obtain⟨d,hd⟩: ∃d:Nat,(B2 R x).getD k 0=d:=⟨((B2 R x).getD k 0).toNat,o_⟩
   have h4:=CA hR hroot (k+1) hlt
   have h12:12^(k+1)<=12^8:=aH d_ o_
   have h128:12^8=429981696:=rfl
   have e3:Ns R (B2 R x) (k+1)=Ns R (B2 R x) k*(R.getD k []).getD d 0:=by show _* _=_;rw[hd];rfl
   rw[hd]at h2 u2
   have h3:=Dm (l:=R.getD k []) (k:=d) o_
   refine .inl ⟨k+1,[0],[As 15,pl 22,ld 23 (sl (R.getD k [])),pl 26,ld 27 (i6 d),pl 28,ld 29 (i6 ((R.getD k []).getD d 0)),nu 30 (Ns R (B2 R x) (k+1)),nu 17 ((k+1:Nat):Int)],1000,hlt,o_,?_⟩
   try dsimp only
   clear hd u1 hroot
   generalize (R.getD k []).getD d 0=y at*
   generalize R.getD k []=L at*
   generalize Ns R (B2 R x) (k+1)=p2 at*
   generalize Ns R (B2 R x) k=p1 at*
   generalize B2 R x=U at*
   generalize Ah R=RR at*
   generalize Ak N=NN at*
   clear hR
   generalize R.length=nR at*
   generalize N.length=nN at*
   exact C8 [_,_,_,_,_,An [(0:Int)<=(↑d:Int),_],_,wr .i64 (p1*y)=p2,wr .i64 ((↑k:Int)+(1:Int))=(↑(k+1):Int)] ⟨Bf hlt,Ar hlt,h1,Ar hlt,h2,⟨aq,u2⟩,h3,a_⟩
  .obtain rfl:k=R.length:=o_
   refine .inr ⟨.exit 0,[],{sl:=[(6,i6 (Ei R x))]},[no 15],1000,.inl ⟨trivial,rfl,rfl⟩,?_⟩
   try dsimp only
   rw[FU]
   generalize Ei R x=p at*
   generalize B2 R x=U at*
   generalize Ah R=RR at*
   generalize Ak N=NN at*
   clear hR hroot
   generalize R.length=nR at*
   generalize N.length=nN at*
   exact Cj [_] (Cq hlt)
 have h1:=TU g R N o_
 have h2:=wN R x hR hn hx
 have hCf:=Ap (D4 R)
 unfold Bd at*
 generalize D4 R=C at*
 generalize Ei R x=p at*
 generalize B2 R x=U at*
 generalize Ah R=RR at*
 generalize Ak N=NN at*
 clear hR hroot
 generalize R.length=nR at*
 generalize N.length=nN at*
 refine Ch {sl:=[(4,i6 p)]} [fn 9 (sl C),fn 11 (.im nR (Aa U)),(0,.loop [0] (gX g nR RR nN NN (Aa U) 1 0) [(True,.exit 0,{sl:=[(6,i6 p)]})])] ?_
 exact m_ (p:=let z0:=[i6 g,V.im nR RR,V.im nN NN];An [Sm (i6 p),_,_,An [An [Zz,An [nR=nR,Sm (Aa U)],Sm (1:Int),(↑(0:Nat):Int)=(0:Int),Tt],An [z0=z0,TT 3],Tt],_,(True->An [An [p=p,Tt],Tt]),Tt]) ⟨aq,h1,h2,a_,hlp,a_⟩
end
def Fb(q:Nat->Nat)(s:Nat):Nat->Nat
 |0=>s
 |k+1=>if(Fb q s k).testBit k=true then Fb q s k|||q k else Fb q s k
def Ec(q:Nat->Nat)(n s:Nat):Nat->Nat
 |0=>s
 |m+1=>Fb q (Ec q n s m) n
theorem Sub.refl(a:Nat):Sub a a:=λ_ h=>h
theorem Sub.trans{c:Nat}(h:Sub a b)(k:Sub b c):Sub a c:=λi hi=>k i (h i hi)
theorem Sub.orl:Sub a (a|||b):=λi hi=>by rw[cP,hi];rfl
theorem SZ: ∀k,Sub s (Fb q s k)
 |0=>.refl s
 |k+1=>by
  unfold Fb
  split
  .exact(SZ k).trans .orl
  .exact SZ k
theorem vP{k:Nat}: ∀m,Sub (Fb q s k) (Fb q s (k+m))
 |0=>.refl _
 |m+1=>by
  refine(vP m).trans ?_
  show Sub _ (Fb q s (k+m+1))
  rw[Fb]
  split
  .exact .orl
  .exact .refl _
theorem uI: ∀m,Sub s (Ec q n s m)
 |0=>.refl s
 |m+1=>(uI m).trans (SZ n)
theorem WG(hs:s<2^n)(hq: ∀k,k<n->q k<2^n): ∀k,k<=n->Fb q s k<2^n
 |0,_=>hs
 |k+1,hk=>by
  unfold Fb
  split
  .exact dL (WG hs hq k o_) (hq k o_)
  .exact WG hs hq k o_
theorem lJ(hs:s<2^n)(hq: ∀k,k<n->q k<2^n): ∀m,Ec q n s m<2^n
 |0=>hs
 |m+1=>WG (lJ hs hq m) hq n (aC _)
def ZR(q:Nat->Nat)(n s:Nat):Prop:=∀v,v<n->s.testBit v=true->Sub (q v) s
theorem Qs(h:ZR q n s): ∀k,k<=n->Fb q s k=s
 |0,_=>rfl
 | k + 1, hk => by
  unfold Fb
  rw[Qs h k o_]
  split
  .rename_i hb
   refine Sub.eq (λi hi=>?_) .orl
   rw[cP]at hi
   cases hs:s.testBit i with
   |true=>rfl
   |false=>
    rw[hs,Bool.false_or]at hi
    have:=h k o_ hb i hi
    rw[hs]at this;exact this
  .rfl
theorem IF(h:Fb q s n=s):ZR q n s:=by
 intro v hv hb
 have h1:Sub (Fb q s (v+1)) s:=by
  have:=vP (q:=q) (s:=s) (k:=v+1) (n-(v+1))
  rw[show v+1+(n-(v+1))=n by omega,h]at this
  exact this
 have h2:=SZ (q:=q) (s:=s) v v hb
 rw[Fb,if_pos h2]at h1
 exact λi hi=>h1 i (by rw[cP,hi,Bool.or_true])
def Ux(n s:Nat):Nat:=(List.range n).countP λi=>s.testBit i
theorem ID(n s:Nat):Ux n s<=n:=by
 unfold Ux
 have:=List.countP_le_length (p:=λi=>s.testBit i) (l:=List.range n)
 rwa [fJ]at this
theorem XE(h:Sub a b){i:Nat}(hi:i<n)(ha:a.testBit i=false)(hb:b.testBit i=true):Ux n a<Ux n b:=by
 unfold Ux
 induction n with
 |zero=>omega
 | succ n ih =>
  rw[eG,List.countP_append,List.countP_append,List.countP_singleton,List.countP_singleton]
  by_cases hin:i=n
  .subst hin
   rw[ha,hb]
   have hle:(List.range i).countP (λi=>a.testBit i)<=(List.range i).countP (λi=>b.testBit i):=List.countP_mono_left λx _ hx=>h x hx
   simp;omega
  .have:=ih o_
   have hc:(if a.testBit n=true then 1 else 0)<=(if b.testBit n=true then 1 else 0):=by
    split
    .rename_i hx;rw[if_pos (h n hx)];exact aC _
    .omega
   omega
theorem xF(h:n<=Ux n s): ∀i,i<n->s.testBit i=true:=by
 intro i hi
 cases hb:s.testBit i with
 |true=>rfl
 |false=>
  have h1:=XE (n:=n) (a:=s) (b:=s|||2^i) .orl hi hb (by rw[cP,Nat.testBit_two_pow_self,Bool.or_true])
  have h2:=ID n (s|||2^i)
  omega
theorem GZ(hs:s<2^n)(hq: ∀k,k<n->q k<2^n):ZR q n (Ec q n s n):=by
 have key: ∀m,ZR q n (Ec q n s m)\/m<=Ux n (Ec q n s m):=by
  intro m
  induction m with
  |zero=>exact .inr (aG _)
  | succ m ih =>
   rcases ih with ih|ih
   .left
    rw[Ec,Qs ih n (aC _)];exact ih
   .by_cases he:Fb q (Ec q n s m) n=Ec q n s m
    .left;rw[Ec,he];exact IF he
    .right
     have hsub:=SZ (q:=q) (s:=Ec q n s m) n
     obtain⟨i,h1,h2⟩: ∃i,(Ec q n s m).testBit i=false/\(Fb q (Ec q n s m) n).testBit i=true:=by
      by_cases hx: ∃i,(Ec q n s m).testBit i=false/\(Fb q (Ec q n s m) n).testBit i=true
      .exact hx
      .refine absurd (Sub.eq (λi hi=>?_) hsub) he
       cases hb:(Ec q n s m).testBit i with
       |true=>rfl
       |false=>exact absurd ⟨i,hb,hi⟩ hx
     have hin:i<n:=by
      have hlt:=WG (lJ hs hq m) hq n (aC _)
      rcases cU i n with h|h
      .exact h
      .rw[cI (aQ hlt (aH d_ h))]at h2;cases h2
     have:=XE hsub hin h1 h2
     rw[Ec];omega
 rcases key n with h|h
 .exact h
 .intro v hv _ i hi
  have hin:i<n:=by
   rcases cU i n with h'|h'
   .exact h'
   .rw[cI (aQ (hq v hv) (aH d_ h'))]at hi;cases hi
  exact xF h i hin
section
variable {l:List Nat} {w n s:Nat} {q:Nat->Nat} (hq: ∀k,k<n->q k=l.getD k 0&&& w)
include hq
theorem XH: ∀k,k<=n->∀b,(Fb q s k).testBit b=true->∃a,s.testBit a=true/\Pe l w a b
 |0,_,b,h=>⟨b,h,.refl b⟩
 | k + 1, hk, b, h => by
  unfold Fb at h
  split at h
  .rename_i hb
   rw[cP,bT]at h
   rcases h with h|h
   .exact XH k o_ b h
   .obtain⟨a,h1,h2⟩:=XH k o_ k hb
    rw[hq k o_,fS,aD]at h
    exact⟨a,h1,h2.step h.1 h.2⟩
  .exact XH k o_ b h
theorem tR: ∀m b,(Ec q n s m).testBit b=true->∃a,s.testBit a=true/\Pe l w a b
 |0,b,h=>⟨b,h,.refl b⟩
 |m+1,b,h=>by
  obtain⟨a,h1,h2⟩:=XH hq n (aC _) b h
  obtain⟨c,h3,h4⟩:=tR m a h1
  exact⟨c,h3,h4.trans h2⟩
theorem Y7(hs:s<2^n)(hw: ∀k,k<n->q k<2^n)(b:Nat):(Ec q n s n).testBit b=true↔∃a,s.testBit a=true/\Pe l w a b:=by
 constructor
 .exact tR hq n b
 .rintro⟨a,h1,h2⟩
  have hcl:=GZ hs hw
  have hlt:=lJ hs hw n
  induction h2 with
  |refl=>exact uI n _ h1
  | step _ h3 h4 ih =>
   rename_i b c _
   have hbn:b<n:=by
    rcases cU b n with h|h
    .exact h
    .rw[cI (aQ hlt (aH d_ h))]at ih;cases ih
   refine hcl b hbn ih c ?_
   rw[hq b hbn,fS,h3,h4];rfl
end
def Ml(p:List Nat):Bool:=(List.range p.length).all λv=> !(Ec (λk=>p.getD k 0) p.length (p.getD v 0) p.length).testBit v
section
variable {p:List Nat} (hp: ∀k,k<p.length->p.getD k 0<2^p.length)
include hp
theorem WF{v:Nat}(hv:v<p.length)(b:Nat):(Ec (λk=>p.getD k 0) p.length (p.getD v 0) p.length).testBit b=true↔∃a,(p.getD v 0).testBit a=true/\Pe p (Jj p.length) a b:=by
 refine Y7 (λk hk=>?_) (hp v hv) hp b
 refine dO λi=>?_
 rw[fS,vB]
 cases hb:(p.getD k 0).testBit i with
 |false=>rfl
 | true =>
  have:i<p.length:=by
   rcases cU i p.length with h|h
   .exact h
   .rw[cI (aQ (hp k hk) (aH d_ h))]at hb;cases hb
  rw[decide_eq_true this];rfl
theorem DE{v:Nat}(hv:v<p.length)(h:(p.getD v 0).testBit a=true):a<p.length:=by
 rcases cU a p.length with h'|h'
 .exact h'
 .rw[cI (aQ (hp v hv) (aH d_ h'))]at h;cases h
theorem vC:Ml p=true↔JQ p:=by
 unfold Ml
 rw[aO]
 constructor
 .intro h
  refine⟨λv=>Ux p.length (Ec (λk=>p.getD k 0) p.length (p.getD v 0) p.length),λu hu v hv=>?_⟩
  have hvn:=DE hp hu hv
  refine⟨hvn,XE (λi hi=>?_) hvn ?_ ?_⟩
  .obtain⟨a,h1,h2⟩:=(WF hp hvn i).1 hi
   exact(WF hp hu i).2 ⟨v,hv,(Pe.step (.refl v) h1 (by rw[vB];exact decide_eq_true (DE hp hvn h1))).trans h2⟩
  .have:=h v (bB.2 hvn)
   simpa using this
  .exact(WF hp hu v).2 ⟨v,hv,.refl v⟩
 .rintro⟨rk,hr⟩ v hv
  have hv:=bB.1 hv
  cases hb:(Ec (λk=>p.getD k 0) p.length (p.getD v 0) p.length).testBit v with
  |false=>rfl
  | true =>
   obtain⟨a,h1,h2⟩:=(WF hp hv v).1 hb
   have key: ∀a b,Pe p (Jj p.length) a b->a<p.length->b<p.length/\rk b<=rk a:=by
    intro a b h ha
    induction h with
    |refl=>exact⟨ha,aC _⟩
    |step _ h3 h4 ih=>
     obtain⟨i1,i2⟩:=ih
     obtain⟨j1,j2⟩:=hr _ i1 _ h3
     exact⟨j1,o_⟩
   obtain⟨k1,k2⟩:=hr v hv a h1
   have:=(key a v h2 k1).2
   omega
end
end Go.Proofs.YtifdkhfldbkkpaaGreat.Am
