/- Texts behind the claim, part 13: the abstract machine, and what the functions answer. No condition. -/
import Derived.Test.YtifdkhfldbkkpaaGreatCC12
set_option linter.unusedVariables false
set_option maxHeartbeats 4000000
set_option maxRecDepth 100000
set_option linter.unusedSimpArgs false
set_option linter.unusedSectionVars false
namespace Go.Proofs.YtifdkhfldbkkpaaGreat.Am
open Go.RowKit
variable{c:Code}{a b cs u:List Int}{N:List Mc}{L p:List Nat}{A1 A2:List V}{i j n nx q s z1 z2:Nat}{f:Nat->Int}{H:T O}
abbrev Ng(k:Nat)(S:SL):Ex->St->Prop:=λe st=>e= .normal/\st=Al g0 k S
theorem Fe{k:Nat}{hs:Hs}{S S':SL}{r:List Nat}(h:vc Pg vE E0 none 0 n c hs (Al g0 k S) (L8 0 k r S')):Au Pg none 0 c (Al g0 k S) (Ng k S'):=by
 refine Au.gc_post (Au.of_vc vE_ok Bx Gy rfl h λe hs' st' hg hk=>?_)
 unfold L8 at hk
 split at hk
 .obtain⟨hb,hk⟩:=Fc hk
  have:=aF hb
  exact⟨r,_,Wo hk,rfl,by rw[hg,this];rfl⟩
 .exact hk.elim
theorem Xn{k:Nat}{hs:Hs}{S S':SL}{e:Ex}{r:List Nat}(h:vc Pg vE E0 none 0 n c hs (Al g0 k S) (Kr 0 k e r S')):Au Pg none 0 c (Al g0 k S) (λe1 st=>e1≠ .normal/\e1=e/\st=Al g0 k S'):=by
 refine Au.gc_post (Au.of_vc vE_ok Bx Gy rfl h λe1 hs' st' hg hk=>?_)
 obtain⟨rfl,hne,this,hk⟩:=xV hk
 exact⟨r,_,Wo hk,hne,rfl,by rw[hg,this];rfl⟩
theorem SG{a b:Code}(hc:c= .seq a b){k:Nat}{S1:SL}{st:St}{R:Ex->St->Prop}(h1:Au Pg none 0 a st (Ng k S1))(h2:Au Pg none 0 b (Al g0 k S1) R):Au Pg none 0 c st R:=by
 subst hc
 exact Au.seq h1 (λst' h=>h.2▸h2) (λe st' hne h=>absurd h.1 hne)
theorem FG{b:Code}{id k:Nat}(hc:c= .block id b){S1:SL}{st:St}(h:Au Pg none 0 b st (Ng k S1)):Au Pg none 0 c st (Ng k S1):=by
 subst hc
 exact Au.block h (λst' h=>(by cases h.1)) (λe st' _ h=>h)
theorem XK{b:Code}(hc:c= .loop b){k:Nat}{α:Type}(I:α->Prop)(S:α->SL)(m:α->Nat){R:Ex->St->Prop}(h: ∀x,I x->(∃y,I y/\m y<m x/\Au Pg none 0 b (Al g0 k (S x)) (Ng k (S y)))\/Au Pg none 0 b (Al g0 k (S x)) (λe st=>e≠ .normal/\R e st))(x:α)(hx:I x):Au Pg none 0 c (Al g0 k (S x)) R:=by
 subst hc
 refine Au.loop (α:={x//I x}) (λx=>Al g0 k (S x.1)) (λx=>m x.1) (λ⟨x,hx⟩=>?_) ⟨x,hx⟩
 rcases h x hx with⟨y,hy,hlt,hv⟩|hv
 .exact hv.mono λe st h=>.inl ⟨h.1,⟨y,hy⟩,hlt,h.2⟩
 .exact hv.mono λe st h=>.inr h
theorem ci(g:Int)(R:List (List Int))(N:List Mc)(x:Mc)(v:Nat)(hx:N[v]? =some x)(ok:Vq R N x):Ag Pg g0 36 [Bd g R N,i6 v] (sl (Eo R N x)):=by
 rcases hm:(Eo R N x).length with _|m
 .have e:Eo R N x=[]:=aE hm
  unfold Eo at hm
  rw[aR,F4,F4]at hm
  rw[e]
  exact(pC g R N x v hx ok (aE o_) (aE o_)).view rfl rfl
 .have h:=LS (H:=.e) (nx:=0) (pB g R N x v hx ok (m:=m) hm) (A8.of_hf _ ⟨⟨trivial,trivial,trivial,trivial⟩,trivial,trivial⟩) (Ws _) (by rw[F5,hm])
  rw[<-hm]at h
  exact h
theorem kO(L P:List Int)(hP: ∀k,k<P.length->0<=P.getD k 0/\P.getD k 0<L.length)(h6:P.length<=1000000){m:Nat}(hm:P.length=m+1):Ac Pg g0 (.fn 73 []) [sl L,sl P] H nx ⟨.im (m+1) (Aa (D0 L P)),H,nx,[]⟩:=
 LS (lR L P hP h6 hm) (A8.of_hf _ ⟨trivial,trivial,trivial⟩) (Ws _) (by rw[F5,F4,hm])
theorem IK{h t:Nat}{sp room:Option Nat}(L P:List Int)(hg:gt H h=some (.row t sp (Aa L)))(hq:L.length=q)(hP: ∀k,k<P.length->0<=P.getD k 0/\P.getD k 0<L.length)(h6:P.length<=1000000){m:Nat}(hm:P.length=m+1):Ac Pg g0 (.fn 73 []) [.sl h 0 q room,sl P] H nx ⟨.sl nx 0 (m+1) none,pt H nx (.row 3 (some 1) (Aa (D0 L P))),nx+1,[]⟩:=by
 rw[Cm]at hg
 subst hq
 exact lK (lR L P hP h6 hm) ⟨_,_,rfl,.inr (.inr ⟨h,0,room,t,sp,Aa L,rfl,trivial,hg,Bq.of_hf _ (Ap L)⟩),_,_,rfl,Bo.of_hf _ trivial,rfl⟩ (Ws _)
theorem Z7{h t:Nat}{sp room:Option Nat}(L:List Int)(hg:gt H h=some (.row t sp (Aa L)))(hq:L.length=q):Ac Pg g0 (.fn 73 []) [.sl h 0 q room,sl []] H nx ⟨.nils,H,nx,[]⟩:=by
 rw[Cm]at hg
 subst hq
 exact LU (LN L) ⟨_,_,rfl,.inr (.inr ⟨h,0,room,t,sp,Aa L,rfl,trivial,hg,Bq.of_hf _ (Ap L)⟩),_,_,rfl,Bo.of_hf _ trivial,rfl⟩ rfl
theorem oR: ∀(n:Nat)(l:List Nat),l.Nodup->(∀x∈l,x<n)->l.length<=n
 |0,l,_,h=>by
  cases l with
  |nil=>trivial
  |cons x l=>grind[List.mem_cons_self]
 | n + 1, l, hn, h => by
  by_cases hm:n∈l
  .have h1:=oR n (l.erase n) (hn.erase n) λx hx=>by
    grind
   simp_all
  .have h1:=oR n l hn λx hx=>by
    grind
   omega
theorem F7.all(h:F7 p L n)(hn:p.length=n){v:Nat}(hv:v<n): ∃i,i<n/\L.getD i 0=v:=by
 have hlen:=h.len
 have hml: ∀x∈L,x<n:=λx hx=>by
  obtain⟨i,hi,e⟩:=fD hx
  have:=h.lt i o_
  grind
 by_cases hm:v∈L
 .obtain⟨i,hi,e⟩:=fD hm
  exact⟨i,o_,by grind⟩
 .have:=oR n (v::L) (dC.2 ⟨hm,h.nd⟩) λx hx=>by
   grind
  grind
def wR(q:Nat)(L:List Nat)(f:Nat->Int):Nat->List Int
 |0=>List.replicate q 0
 |k+1=>(wR q L f k).set (L.getD k 0) (f (L.getD k 0))
theorem SB: ∀k,(wR q L f k).length=q
 |0=>by simp[wR]
 |k+1=>by rw[wR,bJ,SB k]
theorem P6(h:F7 p L n)(hp:p.length=q): ∀k,k<=n->∀i,i<k->(wR q L f k).getD (L.getD i 0) 0=f (L.getD i 0)
 |0,_,i,hi=>absurd hi (aJ _)
 | k + 1, hk, i, hi => by
  have h1:=h.lt k o_
  rw[wR]
  by_cases hik:i=k
  .grind[SB]
  .rw[aA,bV,if_neg (λe=>h.inj (show i<k by omega) o_ e.symm),<-aA]
   exact P6 h hp k o_ i o_
theorem EV(h:F7 p L n)(hp:p.length=n):wR n L f n=(List.range n).map f:=by
 apply cD
 intro i
 by_cases hi:i<n
 .obtain⟨j,hj,e⟩:=h.all hp hi
  have h1:=P6 (f:=f) h hp n (aC _) j hj
  grind[SB]
 grind[SB]
theorem xY{A B C D:List Int}(hl:C.length=A.length): ∀k,k<=A.length->Bk (A++B) (C++D) k=Bk A C k
 |0,_=>rfl
 |k+1,h=>by
  unfold Bk
  rw[xY hl k o_,aA,aA,bN o_,bN o_,<-aA,<-aA]
theorem Tu{w F:List Int}(hw: ∀k,k<F.length->w.getD (F.getD k 0).toNat 0=f (F.getD k 0).toNat): ∀k,k<=F.length->Bk (D0 (Aq N) F) (D0 w F) k=H8 N f F k
 |0,_=>rfl
 |k+1,h=>by
  unfold Bk H8
  rw[Tu hw k o_,AU o_,AU o_,hw k o_,TQ]
theorem tV{R:List (List Int)}{w F Z:List Int}(hw: ∀k,k<F.length->w.getD (F.getD k 0).toNat 0=f (F.getD k 0).toNat): ∀k,k<=Z.length->Bk (D0 (Aq N) F++D0 (D4 R) Z) (D0 w F++D0 u Z) (F.length+k)=Ja R u (H8 N f F F.length) Z k
 |0,_=>by
  rw[dE,xY (by grind[F4]) _ (by grind[F4]),Tu hw _ (aC _)];rfl
 |k+1,h=>by
  show Bk _ _ (F.length+k)*(D0 (Aq N) F++D0 (D4 R) Z).getD (F.length+k) 0+(D0 w F++D0 u Z).getD (F.length+k) 0=Ja R u _ Z k*((R.getD (Z.getD k 0).toNat []).length:Nat)+u.getD (Z.getD k 0).toNat 0
  rw[tV hw k o_,aA,aA,bU (by grind[F4]),bU (by grind[F4]),F4,F4,cR,<-aA,<-aA,AU o_,AU o_,XR]
theorem tD{l:List Int}(h:l.length=n):A6 H 1 (.im n (Aa l))=some (n,Aa l):=by
 grind[A6,F5,Nat.ble_eq_true_of_le]
section
variable (g:Int) (nR:Nat) (RR:List V) (q:Nat) (NN A Od:List V)
abbrev Ln(g:Int)(nR:Nat)(RR:List V)(q:Nat)(NN:List V)(w:List Int):List O:=[Di g nR RR q NN,Ay w]
abbrev OM(q nR:Nat)(A U Od:List V)(k:Nat):List (Nat×V):=[(2,.im q A),(3,.ptr 0 0),(7,.im nR U),(8,.sl 1 0 q (some (q-q))),(9,.im q Od),(10,i6 k)]
abbrev VD(g:Int)(nR:Nat)(RR:List V)(q:Nat)(NN A Od U:List V)(w:List Int)(k v:Nat):SL:={sl:=OM q nR A U Od k++[(11,i6 v)],os:=Ln g nR RR q NN w}
abbrev VC(g:Int)(nR:Nat)(RR:List V)(q:Nat)(NN A Od U:List V)(w:List Int)(k v m:Nat)(C:List V):SL:={sl:=OM q nR A U Od k++[(11,i6 v),(12,.im m C)],os:=Ln g nR RR q NN w}
variable (hRR:Ba RR) (hNN:Ba NN) (hA:Ba A) (hOd:Ba Od) (u w fr nz:List Int) (k v:Nat) (hu:u.length=nR) (hw:w.length=q) (hv:v<q) (hq:q<=1000) (hfr: ∀i,i<fr.length->0<=fr.getD i 0/\fr.getD i 0<q) (hnz: ∀i,i<nz.length->0<=nz.getD i 0/\nz.getD i 0<nR) (hf8:fr.length<=8) (hn8:nz.length<=8) (h1:Ae (List.drop 1 (NN.drop (v*4)))=some (sl fr)) (h2:Ae (List.drop 2 (NN.drop (v*4)))=some (sl nz))
include hRR hNN hA hOd hu hw hv hq hfr hnz hf8 hn8 h1 h2
theorem Ra:Au Pg none 0 (aT 84 111110100100110) (Al g0 104 (VD g nR RR q NN A Od (Aa u) w k v)) (Ng 104 (VC g nR RR q NN A Od (Aa u) w k v (fr.length+nz.length) (Aa (D0 w fr++D0 u nz)))):=by
 have hUf:=Ap u
 have hWf:=Ap w
 have hF1:=Ap fr
 have hF2:=Ap nz
 have hBf:=Ap (D0 u nz)
 have hAf:=Ap (D0 w fr)
 have hABf:=Nb hAf hBf
 have l1:=F4 w fr
 have l2:=F4 u nz
 have e1:Aa (D0 w fr++D0 u nz)=Aa (D0 w fr)++Aa (D0 u nz):=by unfold Aa;rw[bP]
 have lA:(Aa (D0 w fr)).length=fr.length:=by rw[F5,l1]
 have atB:Bl (Aa (D0 u nz))=true:=zM _
 have z1:=LN u
 have hsu:sl u= .im nR (Aa u):=by rw[<-hu]
 rw[hsu]at z1
 have z2:=λm hm(H:T O) nx=>kO u nz (by rw[hu];exact hnz) o_ (m:=m) hm (H:=H) (nx:=nx)
 rw[hsu]at z2
 have z3:=Z7 (H:=Ai .e 0 (Ln g nR RR q NN w)) (h:=1) (nx:=2) (t:=3) (sp:=none) (q:=q) (room:=some (q-q)) w rfl hw
 have z4:=λm hm=>IK (H:=Ai .e 0 (Ln g nR RR q NN w)) (h:=1) (nx:=2) (t:=3) (sp:=none) (q:=q) (room:=some (q-q)) w fr rfl hw (by rw[hw];exact hfr) o_ (m:=m) hm
 rw[e1]
 generalize D0 w fr=AA,D0 u nz=BB at*
 clear e1 hfr hnz hsu
 cases fr with
 | nil =>
  obtain rfl:AA=[]:=aE l1
  cases nz with
  |nil=>
   obtain rfl:BB=[]:=aE l2
   refine Fe (n:=1000) (r:=[0,1]) (hs:=[pl 54,ld 56 (sl []),(57,.call ⟨.nils,Ai .e 0 (Ln g nR RR q NN w),2,[]⟩),pl 62,ld 64 (sl []),fn 65 .nils]) ?_
   clear z2 z4
   exact m_ (p:=let z0:=Ai T.e 0 (Ln g nR RR q NN w);let z2:=[i6 g,V.im nR RR,V.im q NN];An [_,_,_,_,_,Ag Pg g0 73 [V.im nR (Aa u),V.im 0 (Aa [])] V.nils,V.fn 73 []=V.fn 73 []->[(V.sl 1 0 q (some (q-q))),sl []]=[V.im nR (Aa u),sl []]->z0=z0->2=2->Sm (CR.mk V.nils z0 2 []),An [An [q=q,A=A],Zz,An [nR=nR,Sm (Aa u)],An [Zz,q=q,Sm (q-q)],An [q=q,Od=Od],Sm (↑k:Int),(↑v:Int)=(↑v:Int),0+0=0,Tt],An [z2=z2,TT 3],An [Sm (Aa w),_],Tt]) ⟨Ar hv,h1,z3,Ar hv,h2,aq,aq,a_,a_,⟨aq,hWf⟩,aq⟩
  |cons z nz=>
   have z2:=z2 nz.length rfl
   have hs:=λH=>tD (H:=H) (l:=BB) (n:=nz.length+1) l2
   rw[show Aa []++Aa BB=Aa BB from rfl]at*
   refine Fe (n:=1000) (r:=[0,1]) (hs:=[pl 54,ld 56 (sl []),(57,.call ⟨.nils,Ai .e 0 (Ln g nR RR q NN w),2,[]⟩),pl 62,ld 64 (sl (z::nz)),(65,.call ⟨.im (nz.length+1) (Aa BB),Ai .e 0 (Ln g nR RR q NN w),2,[]⟩),(66,.an (nz.length+1) (Aa BB))]) ?_
   clear z1 z4
   have hn8':nz.length+1<=8:=hn8
   exact m_ (p:=let z0:=Ai T.e 0 (Ln g nR RR q NN w);let z1:=V.im (nz.length+1) (Aa BB);let z3:=[V.im nR (Aa u),sl (z::nz)];let z4:=[i6 g,V.im nR RR,V.im q NN];An [_,_,_,_,_,Ac Pg g0 (V.fn 73 []) z3 z0 2 (CR.mk z1 z0 2 []),V.fn 73 []=V.fn 73 []->[(V.sl 1 0 q (some (q-q))),sl []]=z3->z0=z0->2=2->CR.mk V.nils z0 2 []=CR.mk z1 z0 2 [],An [A6 z0 1 z1=some (nz.length+1,Aa BB),nz.length+1<=9223372036854775807,(nz.length+1)*8<=140737488355328],An [An [q=q,A=A],Zz,An [nR=nR,Sm (Aa u)],An [Zz,q=q,Sm (q-q)],An [q=q,Od=Od],Sm (↑k:Int),(↑v:Int)=(↑v:Int),An [0+List.length (z::nz)=nz.length+1,Sm (Aa BB),_],Tt],An [z4=z4,TT 3],An [Sm (Aa w),_],Tt]) ⟨Ar hv,h1,z3,Ar hv,h2,aq,aq,a_,⟨a_,aq,a_,a_,a_,aq,aq,⟨aq,aq,hABf⟩,aq⟩,a_,⟨aq,hWf⟩,aq⟩
 | cons y fr =>
  have z4:=z4 fr.length rfl
  cases nz with
  |nil=>
   obtain rfl:BB=[]:=aE l2
   rw[show Aa AA++Aa []=Aa AA from aV _]at*
   refine Fe (n:=1000) (r:=[0,1]) (hs:=[pl 54,ld 56 (sl (y::fr)),(57,.call ⟨.sl 2 0 (fr.length+1) none,pt (Ai .e 0 (Ln g nR RR q NN w)) 2 (.row 3 (some 1) (Aa AA)),3,[]⟩),pl 62,ld 64 (sl []),fn 65 .nils]) ?_
   clear z2 z3
   exact m_ (p:=let z1:=Ai T.e 0 (Ln g nR RR q NN w);let z5:=[i6 g,V.im nR RR,V.im q NN];let z0:=pt z1 2 (O.row 3 (some 1) (Aa AA));An [_,_,_,_,_,Ag Pg g0 73 [V.im nR (Aa u),V.im 0 (Aa [])] V.nils,V.fn 73 []=V.fn 73 []->[V.sl 1 0 q (some (q-q)),sl (y::fr)]=[V.im nR (Aa u),sl []]->z1=z0->2=3->CR.mk (V.sl 2 0 (fr.length+1) none) z0 3 []=CR.mk V.nils z0 3 [],An [An [q=q,A=A],Zz,An [nR=nR,Sm (Aa u)],An [Zz,q=q,Sm (q-q)],An [q=q,Od=Od],Sm (↑k:Int),(↑v:Int)=(↑v:Int),An [List.length (y::fr)+0=fr.length+1,Sm (Aa AA),_],Tt],An [z5=z5,TT 3],An [Sm (Aa w),_],Tt]) ⟨Ar hv,h1,z4,Ar hv,h2,aq,aq,⟨a_,aq,a_,a_,a_,aq,aq,⟨aq,aq,hABf⟩,aq⟩,a_,⟨aq,hWf⟩,aq⟩
  |cons z nz=>
   have z2:=z2 nz.length rfl
   have hs:=λH=>tD (H:=H) (l:=BB) (n:=nz.length+1) l2
   refine Fe (n:=1000) (r:=[0,1]) (hs:=[pl 54,ld 56 (sl (y::fr)),(57,.call ⟨.sl 2 0 (fr.length+1) none,pt (Ai .e 0 (Ln g nR RR q NN w)) 2 (.row 3 (some 1) (Aa AA)),3,[]⟩),pl 62,ld 64 (sl (z::nz)),(65,.call ⟨.im (nz.length+1) (Aa BB),pt (Ai .e 0 (Ln g nR RR q NN w)) 2 (.row 3 (some 1) (Aa AA)),3,[]⟩),(66,.aop (.row 3 (some 1) (Aa AA)) (nz.length+1) (Aa BB))]) ?_
   clear z1 z3
   have hn8':nz.length+1<=8:=hn8
   have hf8':fr.length+1<=8:=hf8
   have lA':(Aa AA).length=fr.length+1:=lA
   exact m_ (p:=let z1:=Ai T.e 0 (Ln g nR RR q NN w);let z2:=V.im (nz.length+1) (Aa BB);let z6:=[V.im nR (Aa u),sl (z::nz)];let z7:=O.row 3 (some 1) (Aa AA);let z8:=[i6 g,V.im nR RR,V.im q NN];let z0:=pt z1 2 z7;An [_,_,_,_,_,Ac Pg g0 (V.fn 73 []) z6 z0 3 (CR.mk z2 z0 3 []),V.fn 73 []=V.fn 73 []->[V.sl 1 0 q (some (q-q)),sl (y::fr)]=z6->z1=z0->2=3->CR.mk (V.sl 2 0 (fr.length+1) none) z0 3 []=CR.mk z2 z0 3 [],A6 z0 1 z2=some (nz.length+1,Aa BB),An [gt z0 2=some z7,List.length (Aa AA)=(fr.length+1)*1,1<=nz.length+1,fr.length+1+(nz.length+1)<=9223372036854775807,(fr.length+1+(nz.length+1))*8<=140737488355328,_],An [An [q=q,A=A],Zz,An [nR=nR,Sm (Aa u)],An [Zz,q=q,Sm (q-q)],An [q=q,Od=Od],Sm (↑k:Int),(↑v:Int)=(↑v:Int),An [List.length (y::fr)+List.length (z::nz)=fr.length+1+(nz.length+1),Sm (Aa AA++Aa BB),_],Tt],An [z8=z8,TT 3],An [Sm (Aa w),_],Tt]) ⟨Ar hv,h1,z4,Ar hv,h2,aq,aq,aq,⟨(by rfl),aq,aq,aq,aq,atB⟩,⟨a_,aq,a_,a_,a_,aq,aq,⟨aq,aq,hABf⟩,aq⟩,a_,⟨aq,hWf⟩,aq⟩
end
section
variable (g:Int) (nR:Nat) (RR:List V) (q:Nat) (NN A Od:List V)
abbrev gZ(g:Int)(nR:Nat)(RR:List V)(q:Nat)(NN A Od U:List V)(w:List Int)(k v m:Nat)(C D:List V)(i un j:Int):SL:={sl:=OM q nR A U Od k++[(11,i6 v),(12,.im m C),(13,i6 i),(14,i6 un),(15,.im m D),(16,i6 j)],os:=Ln g nR RR q NN w}
abbrev gY(g:Int)(nR:Nat)(RR:List V)(q:Nat)(NN A Od U:List V)(w:List Int)(k v:Nat)(i:Int):SL:={sl:=OM q nR A U Od k++[(11,i6 v),(13,i6 i)],os:=Ln g nR RR q NN w}
abbrev Po(g:Int)(nR:Nat)(RR:List V)(q:Nat)(NN A Od U:List V)(w:List Int)(k:Nat):SL:={sl:=OM q nR A U Od k,os:=Ln g nR RR q NN w}
variable (hRR:Ba RR) (hNN:Ba NN) (hA:Ba A) (hOd:Ba Od) (u w cs vs:List Int) (k v m:Nat) (hw:w.length=q)
section
variable (hn:cs.length=m) (hm:vs.length=m) (h13:m<=13) (hc: ∀i,i<m->1<=cs.getD i 0/\cs.getD i 0<=4) (hval:Co cs vs m)
include hRR hNN hA hOd hw hn hm h13 hc hval
theorem Xr:Au Pg none 0 (aT 84 11111010010011111010) (Al g0 104 (gZ g nR RR q NN A Od (Aa u) w k v m (Aa vs) (Aa cs) 0 1 (Dr m))) (B3 g0 104 [(True,.exit 2,gY g nR RR q NN A Od (Aa u) w k v (Bk cs vs m))]):=by
 have hcf:=Ap cs
 have hvf:=Ap vs
 have huf:=Ap u
 have hwf:=Ap w
 refine C9 (aT 84 111110100100111110100) (λp=>p.1<=m/\p.2.1=iR cs vs m (m-p.1)/\p.2.2=uR cs m (m-p.1)) (λ(p:Nat×Int×Int)=>gZ g nR RR q NN A Od (Aa u) w k v m (Aa vs) (Aa cs) p.2.1 p.2.2 (Dr p.1)) (λp=>p.1) (λp hp=>?_) (m,0,1) ⟨aC _,by simp only[dJ];rfl,by simp only[dJ];rfl⟩
 obtain⟨j,i,un⟩:=p
 obtain⟨hj,hi,hu⟩:=hp
 dsimp only at hj hi hu
 cases j with
 |zero=>
  have he:=Tw (cs:=cs) (vs:=vs) m (aC _)
  rw[dJ,show Bk cs vs 0=0 from rfl,Int.zero_mul,Int.zero_add]at he
  rw[cO,he]at hi
  rw[<-hi]
  refine .inr ⟨.exit 2,[0,1],gY g nR RR q NN A Od (Aa u) w k v i,[],1000,.inl ⟨trivial,rfl,rfl⟩,?_⟩
  clear hi he hu hc hval
  try dsimp only
  generalize Aa cs=C at*
  generalize Aa vs=D at*
  generalize Aa u=U at*
  exact Cj [] trivial
 |succ j=>
  obtain⟨t,ht⟩: ∃t:Nat,t=m-(j+1):=⟨_,rfl⟩
  have hst:=tW (cs:=cs) (vs:=vs) (n:=m) (t:=t) (k:=j) o_ h13 hc hval
  rw[<-ht]at hi hu
  rw[<-hi,<-hu]at hst
  obtain⟨w1,w2,w3⟩:=hst
  have h1:=Dm (l:=vs) (k:=j) o_
  have h2:=Dm (l:=cs) (k:=j) o_
  have hd:=LK j
  refine .inl ⟨(j,iR cs vs m (t+1),uR cs m (t+1)),[0,1],[As 74,pl 80,ld 81 (i6 (vs.getD j 0)),nu 83 (vs.getD j 0*un),nu 84 (iR cs vs m (t+1)),pl 88,ld 89 (i6 (cs.getD j 0)),nu 90 (uR cs m (t+1)),nu 76 (Dr j)],1000,⟨o_,by grind,by grind⟩,o_,?_⟩
  try dsimp only
  simp only[show Dr (j+1)=(j:Int)from rfl]
  clear hi hu hc hval ht
  generalize iR cs vs m (t+1)=i2 at*
  generalize uR cs m (t+1)=u2 at*
  generalize hxx:vs.getD j 0*un=xx at*
  generalize vs.getD j 0=x at*
  generalize cs.getD j 0=y at*
  generalize Dr j=dk at*
  generalize Aa cs=C at*
  generalize Aa vs=D at*
  generalize Aa u=U at*
  exact C8 [decide ((↑j:Int)≥(0:Int))=true,_,_,wr .i64 (x*un)=xx,_,_,_,_,wr .i64 ((↑j:Int)-(1:Int))=dk] ⟨aq,Ar hj,h1,aq,w2,Ar hj,h2,w3,aq⟩
variable (ou:List Int) (y:Int) (d:Nat) (hv:v<q) (hq:q<=1000) (hid:Bk cs vs m=(d:Nat)) (hd:d<ou.length) (hy:ou.getD d 0=y) (hz:Ag Pg g0 36 [.agg [i6 g,.im nR RR,.im q NN],i6 v] (.im m (Aa cs))) (h3:Ae (List.drop 3 (NN.drop (v*4)))=some (sl ou))
include hv hq hid hd hy hz h3
theorem Xp:Au Pg none 0 (aT 84 111110100100111) (Al g0 104 (VC g nR RR q NN A Od (Aa u) w k v m (Aa vs))) (Ng 104 (Po g nR RR q NN A Od (Aa u) (w.set v y) k)):=by
 have hlp:=Xr g nR RR q NN A Od hRR hNN hA hOd u w cs vs k v m hw hn hm h13 hc hval
 have hcf:=Ap cs
 have hvf:=Ap vs
 have huf:=Ap u
 have hof:=Ap ou
 have h4:=Dm hd
 rw[hy]at h4
 have hlay:=Ie (l:=w) (j:=v) (x:=y) o_
 have hw2:(w.set v y).length=q:=by rw[bJ];exact hw
 have hdm:=LK m
 rw[hid]at hlp
 clear hc hval hid hy
 generalize w.set v y=w2 at*
 have hwf:=Ap w
 have hw2f:=Ap w2
 generalize Dr m=dk,Aa cs=C,Aa vs=D,Aa u=U at*
 refine Fe (n:=1000) (r:=[0,1]) (hs:=[fn 69 (.im m C),nu 72 dk,(0,.loop [0,1] (gZ g nR RR q NN A Od U w k v m D C 0 1 dk) [(True,.exit 2,gY g nR RR q NN A Od U w k v (d:Nat))]),pl 96,ld 98 (sl ou),pl 100,ld 101 (i6 y),pl 102,st (Aa w2)]) ?_
 exact m_ (p:=let z0:=[i6 g,V.im nR RR,V.im q NN];let z3:=(↑k:Int);An [_,wr .i64 ((↑m:Int)-(1:Int))=dk,An [An [An [q=q,A=A],Zz,An [nR=nR,U=U],An [Zz,q=q,Sm (q-q)],An [q=q,Od=Od],z3=z3,(↑v:Int)=(↑v:Int),An [m=m,D=D],(0:Int)=(0:Int),(1:Int)=(1:Int),An [m=m,C=C],dk=dk,Tt],An [z0=z0,TT 3],An [Sm (Aa w),_],Tt],_,(True->An [_,_,_,_,_,_,An [An [q=q,A=A],Zz,An [nR=nR,U=U],An [Zz,q=q,Sm (q-q)],An [q=q,Od=Od],z3=z3,Tt],An [z0=z0,TT 3],An [Sm (Aa w2),_],Tt]),Tt]) ⟨hz,aq,⟨a_,a_,⟨aq,hwf⟩,aq⟩,hlp,(λ_=>⟨Ar hv,h3,Ar hd,h4,Ar hv,hlay,a_,a_,⟨aq,hw2f⟩,aq⟩),aq⟩
end
end
section
variable {p j:List Nat} (hg:K1 p j) {R:List (List Int)} {N:List Mc} (hN:Fp R N) (hl:N.length=p.length)
include hg hN hl
end
theorem Fp.sm{R:List (List Int)}(hN:Fp R N):WC N:=by
 have hq:=hN.q
 have hn:=hN.n
 exact⟨o_,λk hk=>⟨by have:=(hN.fr k hk).2;omega,by have:=(hN.no k hk).2;omega⟩,λk hk i hi=>by have:=(hN.fr k hk).1 i hi;omega,λk hk i hi=>by have:=(hN.no k hk).1 i hi;omega⟩
section
variable {p j:List Nat} (hg:K1 p j) {R:List (List Int)} {N:List Mc} (hN:Fp R N) (hl:N.length=p.length)
include hg hN hl
end
theorem Zb{k:Nat}(h:k<L.length):Ae ((dI L).drop (k*1))=some (i6 (L.getD k 0:Nat)):=by
 have h1:=Dm (l:=L.map λd:Nat=>(d:Int)) (k:=k) (by simpa using h)
 rw[h1,aA,aA,bD,aB h];rfl
theorem HD{k:Nat}(h:k<N.length):N[k]? =some (N.getD k Ao):=by rw[aA,aB h];rfl
section
variable (g:Int) (nR:Nat) (RR:List V) (q:Nat) (NN A Od:List V) (hRR:Ba RR) (hNN:Ba NN) (hA:Ba A) (hOd:Ba Od) (u w:List Int) (k v:Nat) (y:Int) (hu:u.length=nR) (hw:w.length=q) (hk:k<q) (hv:v<q) (hq:q<=1000) (ho:Ae (Od.drop (k*1))=some (i6 v))
include hRR hNN hA hOd hu hw hk hv hq ho
theorem Xs(hy:0<=y)(ha:Ae (A.drop (v*1))=some (i6 y)):Au Pg none 0 (aT 84 111110100) (Al g0 104 (Po g nR RR q NN A Od (Aa u) w k)) (Ng 104 (Po g nR RR q NN A Od (Aa u) (w.set v y) (k+1))):=by
 have huf:=Ap u
 have hlay:=Ie (l:=w) (j:=v) (x:=y) o_
 have hw2:(w.set v y).length=q:=by rw[bJ];exact hw
 generalize w.set v y=w2 at*
 have hwf:=Ap w
 have hw2f:=Ap w2
 generalize Aa u=U at*
 refine Fe (n:=1000) (r:=[0,1]) (hs:=[As 31,pl 36,ld 37 (i6 v),pl 40,ld 41 (i6 y),As 42,pl 47,ld 48 (i6 y),pl 49,st (Aa w2),nu 33 ((k+1:Nat):Int)]) ?_
 exact C8 [_,_,_,_,_,_,_,_,_,_,_] ⟨Bf hk,Ar hk,ho,Ar hv,ha,Pp hy,Ar hv,ha,Ar hv,hlay,Dw k o_⟩
theorem Rc(a:Int)(hy:a<0)(ha:Ae (A.drop (v*1))=some (i6 a))(cs vs:List Int)(m:Nat)(hx:Au Pg none 0 (aT 84 111110100100110) (Al g0 104 (VD g nR RR q NN A Od (Aa u) w k v)) (Ng 104 (VC g nR RR q NN A Od (Aa u) w k v m (Aa vs))))(hz:Au Pg none 0 (aT 84 111110100100111) (Al g0 104 (VC g nR RR q NN A Od (Aa u) w k v m (Aa vs))) (Ng 104 (Po g nR RR q NN A Od (Aa u) (w.set v y) k))):Au Pg none 0 (aT 84 111110100) (Al g0 104 (Po g nR RR q NN A Od (Aa u) w k)) (Ng 104 (Po g nR RR q NN A Od (Aa u) (w.set v y) (k+1))):=by
 have huf:=Ap u
 have hw2:(w.set v y).length=q:=by rw[bJ];exact hw
 generalize w.set v y=w2 at*
 have hwf:=Ap w
 have hw2f:=Ap w2
 generalize Aa u=U at*
 refine SG (k:=104) (a:=aT 84 1111101000) (b:=aT 84 1111101001) k_ (S1:=Po g nR RR q NN A Od U w k) ?_ (SG (k:=104) (a:=aT 84 11111010010) (b:=aT 84 11111010011) k_ (S1:=Po g nR RR q NN A Od U w2 k) (FG (b:=aT 84 111110100100) (id:=1) k_ (SG (k:=104) (a:=aT 84 1111101001000) (b:=aT 84 1111101001001) k_ (S1:=VD g nR RR q NN A Od U w k v) ?_ (SG (k:=104) (a:=aT 84 11111010010010) (b:=aT 84 11111010010011) k_ (S1:=VD g nR RR q NN A Od U w k v) ?_ (SG (b:=aT 84 111110100100111) k_ hx hz)))) ?_)
 all_goals clear hx hz
 .refine Fe (n:=1000) (r:=[0,1]) (hs:=[As 31]) ?_
  exact C8 [_] (Bf hk)
 .refine Fe (n:=1000) (r:=[0,1]) (hs:=[pl 36,ld 37 (i6 v)]) ?_
  exact C8 [_,_] ⟨Ar hk,ho⟩
 .refine Fe (n:=1000) (r:=[0,1]) (hs:=[pl 40,ld 41 (i6 a),no 42]) ?_
  exact C8 [_,_,decide (a≥(0:Int))=false] ⟨Ar hv,ha,aq⟩
 .refine Fe (n:=1000) (r:=[0,1]) (hs:=[nu 33 ((k+1:Nat):Int)]) ?_
  exact C8 [_] (Dw k o_)
end
section
variable {g:Int} {R:List (List Int)} {N:List Mc} (hM:Dz g R N) (s:List Int) (hs:F3 N s) (x:Nat) (hx:x<=1000000)
include hM hs hx
theorem nD:Ag Pg g0 84 [Bd g R N,i6 x,.im N.length (Aa s)] (.im N.length (Aa (Cg N R s (B2 R x)))):=by
 have hN:=hM.nd2
 have hR:=hM.wt
 have hq:=hN.q
 have hroot:=MF (λk hk=>(hR k hk).1) x
 have hsol:=IZ hN hroot hs
 have hsm:=hN.sm
 have hp64:=CE hsm
 have hpl:=DR N
 have hfrq: ∀k,k<N.length->Hw (N.getD k Ao).fr N.length/\(N.getD k Ao).fr.length<=5:=hN.fr
 obtain⟨L,hL⟩:=Sk (nK hq hfrq hM.ac) o_ hp64 (pL N).length (aC _)
 rw[hpl]at hL
 have hord:=Sj (pL N) L N.length hpl o_ hp64 hL
 have hall:=EV (f:=Dt N R s (B2 R x)) hL hpl
 have hLl:=hL.len
 have hRR:=B7 R
 have hNN:=Cl N
 have hAf:=Ap s
 have hOf:=Ap (L.map λd:Nat=>(d:Int))
 have hlp:Au Pg none 0 (aT 84 11111010) (Al g0 104 (Po g R.length (Ah R) N.length (Ak N) (Aa s) (dI L) (Aa (B2 R x)) (wR N.length L (Dt N R s (B2 R x)) 0) 0)) (B3 g0 104 [(True,.exit 0,{sl:=[(8,.im N.length (Aa (Cg N R s (B2 R x))))]})]):=by
  refine XK (b:=aT 84 111110100) k_ (λk=>k<=N.length) (λk=>Po g R.length (Ah R) N.length (Ak N) (Aa s) (dI L) (Aa (B2 R x)) (wR N.length L (Dt N R s (B2 R x)) k) k) (λk=>N.length-k) (λk hk=>?_) 0 (aG _)
  have hwl:=SB (q:=N.length) (L:=L) (f:=Dt N R s (B2 R x)) k
  by_cases hlt:k<N.length
  .refine .inl ⟨k+1,hlt,o_,?_⟩
   have hvb:=hL.lt k hlt
   rw[hpl]at hvb
   have ho:=Zb (L:=L) (k:=k) o_
   have ha:=Dm (l:=s) (k:=L.getD k 0) (by rw[hs.1];exact hvb)
   obtain⟨rk,hr⟩:=hN.rk
   have hse:=SE (R:=R) (s:=s) (u:=B2 R x) (λk hk=>(hN.fr k hk).1) hr hvb
   have hf:=hN.fr _ hvb
   have hno:=hN.no _ hvb
   show Au _ _ _ _ _ (Ng 104 (Po g R.length (Ah R) N.length (Ak N) (Aa s) (dI L) (Aa (B2 R x)) ((wR N.length L (Dt N R s (B2 R x)) k).set (L.getD k 0) (Dt N R s (B2 R x) (L.getD k 0))) (k+1)))
   by_cases hact:0<=s.getD (L.getD k 0) 0
   .rw[if_pos hact]at hse
    rw[hse]
    exact Xs g R.length (Ah R) N.length (Ak N) (Aa s) (dI L) hRR hNN hAf hOf (B2 R x) _ k _ _ Pj hwl hlt hvb o_ ho hact ha
   .rw[if_neg hact]at hse
    have hw: ∀i,i<(N.getD (L.getD k 0) Ao).fr.length->(wR N.length L (Dt N R s (B2 R x)) k).getD ((N.getD (L.getD k 0) Ao).fr.getD i 0).toNat 0=Dt N R s (B2 R x) ((N.getD (L.getD k 0) Ao).fr.getD i 0).toNat:=λi hi=>by
     have hok:=(hL.ok k hlt).2
     have hb:((pL N).getD (L.getD k 0) 0).testBit ((N.getD (L.getD k 0) Ao).fr.getD i 0).toNat=true:=by
      rw[SR hvb];exact(YB hq hfrq).2 ⟨i,hi,rfl⟩
     obtain⟨j,hj,e⟩:=(WJ k).1 ((mN (hp64.get _) (Nl hL o_ k o_)).1 hok _ hb)
     rw[<-e]
     exact P6 hL hpl k o_ j hj
    have hget:N[L.getD k 0]? =some (N.getD (L.getD k 0) Ao):=HD hvb
    have hnv:=mM hN hroot (f:=Dt N R s (B2 R x)) hvb (λj hj=>hsol _ (by have:=hf.1 j hj;omega))
    have hidx:=tV (N:=N) (R:=R) (u:=B2 R x) (Z:=(N.getD (L.getD k 0) Ao).no) hw _ (aC _)
    have hfr3:=S6 hvb
    have hno3:=GP hvb
    have hou3:Ae (List.drop 3 ((Ak N).drop (L.getD k 0*4)))=some (sl (N.getD (L.getD k 0) Ao).ou):=by rw[P2 hget];rfl
    have hsz:=ci g R N _ _ hget ⟨o_,by have:=hN.n;omega,hf.1,hno.1,o_,o_⟩
    have hcl:(Eo R N (N.getD (L.getD k 0) Ao)).length=(N.getD (L.getD k 0) Ao).fr.length+(N.getD (L.getD k 0) Ao).no.length:=by unfold Eo;rw[aR,F4,F4]
    have hfb: ∀i,i<(N.getD (L.getD k 0) Ao).fr.length->0<=(wR N.length L (Dt N R s (B2 R x)) k).getD ((N.getD (L.getD k 0) Ao).fr.getD i 0).toNat 0/\(wR N.length L (Dt N R s (B2 R x)) k).getD ((N.getD (L.getD k 0) Ao).fr.getD i 0).toNat 0<(N.getD ((N.getD (L.getD k 0) Ao).fr.getD i 0).toNat Ao).c:=λi hi=>by
     rw[hw i hi];exact hsol _ (by have:=hf.1 i hi;omega)
    rw[hse]
    unfold Ko at hnv⊢
    generalize wR N.length L (Dt N R s (B2 R x)) k=w at*
    generalize Dt N R s (B2 R x)=f at*
    clear hw hse hsol
    have hvx:=Ra g R.length (Ah R) N.length (Ak N) (Aa s) (dI L) hRR hNN hAf hOf (B2 R x) w _ _ k _ Pj hwl hvb o_ hf.1 hno.1 o_ hno.2 hfr3 hno3
    obtain⟨⟨e1,e2⟩,_⟩:=hnv
    have hlen:(D0 w (N.getD (L.getD k 0) Ao).fr++D0 (B2 R x) (N.getD (L.getD k 0) Ao).no).length=(N.getD (L.getD k 0) Ao).fr.length+(N.getD (L.getD k 0) Ao).no.length:=by rw[aR,F4,F4]
    have hsz':Ag Pg g0 36 [.agg [i6 g,.im R.length (Ah R),.im N.length (Ak N)],i6 (L.getD k 0:Nat)] (.im ((N.getD (L.getD k 0) Ao).fr.length+(N.getD (L.getD k 0) Ao).no.length) (Aa (Eo R N (N.getD (L.getD k 0) Ao)))):=by rw[<-hcl];exact hsz
    have hgetC: ∀i,i<(N.getD (L.getD k 0) Ao).fr.length+(N.getD (L.getD k 0) Ao).no.length->(i<(N.getD (L.getD k 0) Ao).fr.length/\(Eo R N (N.getD (L.getD k 0) Ao)).getD i 0=(N.getD ((N.getD (L.getD k 0) Ao).fr.getD i 0).toNat Ao).c/\(D0 w (N.getD (L.getD k 0) Ao).fr++D0 (B2 R x) (N.getD (L.getD k 0) Ao).no).getD i 0=w.getD ((N.getD (L.getD k 0) Ao).fr.getD i 0).toNat 0)\/(∃j,j<(N.getD (L.getD k 0) Ao).no.length/\(Eo R N (N.getD (L.getD k 0) Ao)).getD i 0=((R.getD ((N.getD (L.getD k 0) Ao).no.getD j 0).toNat []).length:Int)/\(D0 w (N.getD (L.getD k 0) Ao).fr++D0 (B2 R x) (N.getD (L.getD k 0) Ao).no).getD i 0=(B2 R x).getD ((N.getD (L.getD k 0) Ao).no.getD j 0).toNat 0):=λi hi=>by
     unfold Eo
     by_cases hif:i<(N.getD (L.getD k 0) Ao).fr.length
     .refine .inl ⟨hif,?_,?_⟩
      .rw[aA,bN (by rw[F4];exact hif),<-aA,AU hif,TQ]
      .rw[aA,bN (by rw[F4];exact hif),<-aA,AU hif]
     .obtain⟨j,hj⟩: ∃j,i=(N.getD (L.getD k 0) Ao).fr.length+j:=⟨i-(N.getD (L.getD k 0) Ao).fr.length,o_⟩
      subst hj
      refine .inr ⟨j,o_,?_,?_⟩
      .rw[aA,bU (by rw[F4];omega),F4,cR,<-aA,AU o_,XR]
      .rw[aA,bU (by rw[F4];omega),F4,cR,<-aA,AU o_]
    have hst:=Xp g R.length (Ah R) N.length (Ak N) (Aa s) (dI L) hRR hNN hAf hOf (B2 R x) w (Eo R N (N.getD (L.getD k 0) Ao)) _ k (L.getD k 0) _ hwl hcl hlen (by have:=hno.2;omega) (λi hi=>by
     rcases hgetC i hi with⟨h1,h2,_⟩|⟨j,h1,h2,_⟩
     .rw[h2];exact hN.c _ (by have:=hf.1 i h1;omega)
     .rw[h2];have:=hN.rl ((N.getD (L.getD k 0) Ao).no.getD j 0).toNat (by have:=hno.1 j h1;omega);omega) (λi hi=>by
     rcases hgetC i hi with⟨h1,h2,h3⟩|⟨j,h1,h2,h3⟩
     .rw[h2,h3];exact hfb i h1
     .rw[h2,h3];exact hroot.2 _ (by have:=hno.1 j h1;omega)) (N.getD (L.getD k 0) Ao).ou _ (Ja R (B2 R x) (H8 N f (N.getD (L.getD k 0) Ao).fr (N.getD (L.getD k 0) Ao).fr.length) (N.getD (L.getD k 0) Ao).no (N.getD (L.getD k 0) Ao).no.length).toNat hvb o_ (by
     unfold Eo;rw[hidx];omega) o_ rfl hsz' hou3
    exact Rc g R.length (Ah R) N.length (Ak N) (Aa s) (dI L) hRR hNN hAf hOf (B2 R x) w k _ _ Pj hwl hlt hvb o_ ho _ o_ ha (Eo R N (N.getD (L.getD k 0) Ao)) _ _ hvx hst
  .obtain rfl:k=N.length:=o_
   refine .inr ?_
   rw[show Cg N R s (B2 R x)=wR N.length L (Dt N R s (B2 R x)) N.length from hall.symm]
   generalize wR N.length L (Dt N R s (B2 R x)) N.length=w at*
   have hwf:=Ap w
   generalize B2 R x=u at*
   have huf:=Ap u
   generalize Aa u=U at*
   clear hsol hord hL hall hN hR hM hsm hp64 hroot hfrq hs
   generalize Ah R=RR at*
   generalize Ak N=NN at*
   refine(Xn (n:=1000) (r:=[]) (S':={sl:=[(8,.im N.length (Aa w))]}) (e:=.exit 0) (hs:=[no 31]) ?_).mono λe st h=>⟨h.1,.inl ⟨trivial,h.2.1,h.2.2⟩⟩
   generalize N.length=n at*
   generalize R.length=nR at*
   unfold dI at*
   generalize Aa (L.map λd:Nat=>(d:Int))=Od at*
   exact m_ (p:=An [_,An [An [n=n,Sm (Aa w),_],Tt],Tt]) ⟨Cq hlt,⟨⟨aq,aq,hwf⟩,aq⟩,aq⟩
 have c1:=TU g R N (by have:=hN.n;omega)
 have c2:=wN R x hR hN.n hx
 have c3:=wP g R N hsm
 rw[CD]at c3
 have c4:Ag Pg g0 123 [.im N.length (ut (pL N))] (.im N.length (dI L)):=by rw[<-hpl];rw[hpl];exact(by have h:=hord;unfold ul at h;rw[hpl]at h;exact h)
 have hCf:=Ap (D4 R)
 have hPf:=AQ (pL N)
 have huf:=Ap (B2 R x)
 have hrr: ∀n,Cx n [i6 0]=Aa (List.replicate n 0):=λn=>Lh n 0
 have hzf:=Ap (Cg N R s (B2 R x))
 rw[show wR N.length L (Dt N R s (B2 R x)) 0=List.replicate N.length 0 from rfl]at hlp
 clear hsol hord hL hall hN hR hM hsm hp64 hroot hfrq hs
 unfold Bd dI at*
 generalize Cg N R s (B2 R x)=z at*
 generalize Aa (L.map λd:Nat=>(d:Int))=Od at*
 generalize Aa (B2 R x)=U at*
 generalize D4 R=C at*
 generalize ut (pL N)=Pq at*
 generalize Aa s=A at*
 generalize Ah R=RR at*
 generalize Ak N=NN at*
 generalize R.length=nR at*
 clear hpl hLl
 generalize N.length=n at*
 refine Ch {sl:=[(6,.im n (Aa z))]} [fn 18 (sl C),fn 20 (.im nR U),mk 24,fn 26 (.im n Pq),fn 27 (.im n Od),(0,.loop [0,1] (Po g nR RR n NN A Od U (List.replicate n 0) 0) [(True,.exit 0,{sl:=[(8,.im n (Aa z))]})])] ?_
 exact m_ (p:=let z0:=[i6 g,V.im nR RR,V.im n NN];let z1:=List.replicate n (0:Int);let z2:=(↑n:Int);let z3:=V.im n (Aa z);An [z3=z3,_,_,An [(0:Int)<=z2,z2<=z2,(↑(8:Nat):Int)*z2<=(281474976710656:Int),z2<=(9223372036854775807:Int)],_,_,An [An [An [n=n,A=A],Zz,An [nR=nR,U=U],An [Zz,n=n,Sm (n-n)],An [n=n,Od=Od],(↑(0:Nat):Int)=(0:Int),Tt],An [z0=z0,TT 3],An [Aa z1=Cx n [i6 0],Ba (Aa z1)],Tt],_,(True->An [An [An [n=n,Sm (Aa z)],Tt],Tt]),Tt]) ⟨aq,c1,c2,a_,c3,c4,a_,hlp,a_⟩
end
theorem mQ{v:List Int}: ∀k,k<=N.length->Bk (Aq N) v k=D3 N v k
 |0,_=>rfl
 |k+1,h=>by
  unfold Bk D3
  rw[mQ k o_,TQ]
theorem P9(k:Nat):Aa (Gl (k+1))=Aa (Gl k)++[i6 k]:=by
 grind[Gl,Aa,List.range_succ]
section
variable (g:Int) (nR:Nat) (RR:List V) (q:Nat) (NN A C:List V)
abbrev tO(g:Int)(nR:Nat)(RR:List V)(q:Nat)(NN:List V):List O:=[Di g nR RR q NN,.row 102 none [.nils,.nils,.nils]]
abbrev gC(g:Int)(nR:Nat)(RR:List V)(q:Nat)(NN A C:List V)(x:Nat×List V):SL:={sl:=[(1,.im q A),(2,.ptr 0 0),(4,.ptr 1 0),(5,.ptr 2 0),(6,i6 x.1)],os:=tO g nR RR q NN++ .row 102 none [G6 3 x.1,.im q C,.nils]::Ik 3 1 x.2 x.1,md:=[0,0,1]}
abbrev gB(g:Int)(nR:Nat)(RR:List V)(q:Nat)(NN A C:List V)(B:List V):SL:={sl:=[(1,.im q A),(2,.ptr 0 0),(4,.ptr 1 0),(5,.ptr 2 0)],os:=tO g nR RR q NN++[.row 102 none [.im q B,.im q C,.nils]],md:=[0,0,1]}
variable (hRR:Ba RR) (hNN:Ba NN) (hA:Ba A) (hC:Ba C) (hq:q<=1000)
include hRR hNN hA hC hq
theorem Qq:Au Pg none 0 (aT 43 111010) (Al g0 57 (gC g nR RR q NN A C (0,[]))) (B3 g0 57 [(True,.exit 0,gB g nR RR q NN A C (Aa (Gl q)))]):=by
 refine C9 (aT 43 1110100) (λx=>x.1<=q/\x.2=Aa (Gl x.1)) (gC g nR RR q NN A C) (λx=>q-x.1) (λx hx=>?_) (0,[]) ⟨aG _,rfl⟩
 obtain⟨k,B⟩:=x
 obtain⟨hk,hB⟩:=hx
 dsimp only at hk hB
 have hBl:B.length=k:=by rw[hB,F5];simp[Gl]
 have hBf:Ba B:=by rw[hB];exact Ap _
 by_cases hlt:k<q
 .have hs:=P9 k
  rw[<-hB]at hs
  clear hB
  cases k with
  |zero=>
   obtain rfl:B=[]:=aE hBl
   refine .inl ⟨(1,[i6 (0:Nat)]),[0,1,2,4],[As 16,nu 18 (1:Nat)],1000,⟨hlt,hs.symm⟩,o_,?_⟩
   clear hs
   exact m_ (p:=An [_,wr .i64 ((↑(0:Nat):Int)+(1:Int))=(↑(1:Nat):Int),An [An [q=q,A=A],Zz,Zz,Zz,Sm (↑(1:Nat):Int),Tt],An [Sm [i6 g,V.im nR RR,V.im q NN],TT 3],An [Sm [V.nils,V.nils,V.nils],TT 3],An [An [Zz,1=1,Tt],An [q=q,C=C],Tt,Tt],An [Sm [i6 ↑(0:Nat)],Tt,Tt],Tt]) ⟨Bf hlt,a_⟩
  |succ k=>
   refine .inl ⟨(k+2,B++[i6 (k+1:Nat)]),[0,1,2,5],[As 16,ap 23,nu 18 (k+2:Nat)],1000,⟨hlt,hs.symm⟩,o_,?_⟩
   clear hs
   have hf2:=Nb hBf (b:=[i6 (k+1:Nat)]) ⟨trivial,trivial⟩
   exact m_ (p:=An [_,B.length=(k+1)*1,k+1+1<=9223372036854775807,(k+1+1)*8<=140737488355328,wr .i64 ((↑(k+1):Int)+(1:Int))=(↑(k+2):Int),An [An [q=q,A=A],Zz,Zz,Zz,Sm (↑(k+2):Int),Tt],An [Sm [i6 g,V.im nR RR,V.im q NN],TT 3],An [Sm [V.nils,V.nils,V.nils],TT 3],An [An [Zz,Nat.succ k+1=k+1+1,Tt],An [q=q,C=C],Tt,Tt],An [Sm (B++[i6 ↑(k+1)]),_],Tt]) ⟨Bf hlt,aq,aq,aq,aq,a_,a_,a_,a_,⟨aq,hf2⟩,aq⟩
 .obtain rfl:k=q:=o_
  rw[<-hB]
  clear hB
  cases k with
  |zero=>
   obtain rfl:B=[]:=aE hBl
   refine .inr ⟨.exit 0,[0,1,2],{sl:=[(1,.im 0 A),(2,.ptr 0 0),(4,.ptr 1 0),(5,.ptr 2 0)],os:=tO g nR RR 0 NN++[.row 102 none [.im 0 Eb,.im 0 C,.nils]],md:=[0,0,1]},[no 16],1000,.inl ⟨trivial,rfl,rfl⟩,?_⟩
   exact m_ (p:=An [_,An [An [Zz,A=A],Zz,Zz,Zz,Tt],An [Sm [i6 g,V.im nR RR,V.im 0 NN],TT 3],An [Sm [V.nils,V.nils,V.nils],TT 3],An [Zz,An [Zz,C=C],Tt,Tt],Tt]) ⟨Cq hlt,a_⟩
  |succ k=>
   refine .inr ⟨.exit 0,[0,1,2],gB g nR RR (k+1) NN A C B,[no 16],1000,.inl ⟨trivial,rfl,rfl⟩,?_⟩
   exact m_ (p:=An [_,An [An [Sm (k+1),A=A],Zz,Zz,Zz,Tt],An [Sm [i6 g,V.im nR RR,V.im (k+1) NN],TT 3],An [Sm [V.nils,V.nils,V.nils],TT 3],An [An [Sm (k+1),B=B,_],An [Sm (k+1),C=C],Tt,Tt],Tt]) ⟨Cq hlt,a_,a_,a_,⟨⟨aq,aq,hBf⟩,a_⟩,aq⟩
end
section
abbrev gA(g:Int)(nR:Nat)(RR:List V)(q:Nat)(NN A B C:List V)(P:Nat)(x:Nat×List Int):SL:={sl:=[(1,.im q A),(2,.ptr 0 0),(4,.ptr 1 0),(5,.ptr 2 0),(7,i6 x.1)],os:=tO g nR RR q NN++[.row 102 none [.im q B,.im q C,.sl 3 0 P (some (P-P))],Ay x.2],md:=[0,0,1,0]}
abbrev fZ(q:Nat)(B C:List V)(P:Nat)(w:List V):SL:={sl:=[(4,.ptr 0 0),(5,.ptr 1 0)],os:=[.row 102 none [.nils,.nils,.nils],.row 102 none [.im q B,.im q C,.im P w]],md:=[0,1]}
variable {g:Int} {R:List (List Int)} {N:List Mc} (hM:Dz g R N) (s:List Int) (hs:F3 N s)
include hM hs
theorem Qr(P:Nat)(hP:(By N N.length).toNat=P)(B:List V)(hB:Ba B):Au Pg none 0 (aT 43 11111010) (Al g0 57 (gA g R.length (Ah R) N.length (Ak N) (Aa s) B (Aa (Aq N)) P (0,List.replicate P 0))) (B3 g0 57 [(True,.exit 2,fZ N.length B (Aa (Aq N)) P (Aa (Bp R N s)))]):=by
 have hN:=hM.nd2
 have hR:=hM.wt
 have hRR:=B7 R
 have hNN:=Cl N
 have hAf:=Ap s
 have hcf:=Ap (Aq N)
 have hW:=hM.w24
 have hP4:=hM.z24
 have htl:Bp R N s=Da R (Ct R N s) P (B4 R R.length):=by unfold Bp;rw[hP]
 rw[<-xN (R:=R) (f:=Ct R N s) (n:=P)]
 refine C9 (aT 43 111110100) (λx=>x.1<=B4 R R.length/\x.2=Da R (Ct R N s) P x.1) (gA g R.length (Ah R) N.length (Ak N) (Aa s) B (Aa (Aq N)) P) (λx=>B4 R R.length-x.1) (λx hx=>?_) (0,Da R (Ct R N s) P 0) ⟨aG _,rfl⟩
 obtain⟨h,w⟩:=x
 obtain⟨hh,hw⟩:=hx
 dsimp only at hh hw
 have hwl:w.length=P:=by rw[hw,JK]
 have c1:=sX g R N hR hN.n
 by_cases hlt:h<B4 R R.length
 .have c2:=nD hM s hs h o_
  have c4:=sR g R N hR hN.n h o_
  obtain⟨p1,p2⟩:=mJ hN hs h
  have hroot:=MF (λk hk=>(hR k hk).1) h
  have c3:=Tq (Aq N) (Cg N R s (B2 R h)) N.length Eg V3 (by have:=hN.q;omega) (λi hi=>by rw[Oi hi];exact hN.c i hi) (λi hi=>by rw[Oi hi,TG hi];exact IZ hN hroot hs i hi)
  rw[mQ _ (aC _),p1]at c3
  rw[hP]at p2
  have hset:=vO (R:=R) (f:=Ct R N s) (n:=P) (k:=h) p2
  rw[<-hw]at hset
  have hb1:=DS hR hN.n (λx=>decide (Ct R N s x=Ct R N s h)) h
  have hb2:=LI hR hN.n h
  have hwp:w.getD (Ct R N s h) 0=Dn R (λx=>decide (Ct R N s x=Ct R N s h)) h:=by rw[hw,LV p2]
  rw[<-hwp]at hb1
  have l1:=Px (l:=w) (k:=Ct R N s h) o_
  have hlay:=Ie (l:=w) (j:=Ct R N s h) (x:=w.getD (Ct R N s h) 0+Ei R h) o_
  rw[hset]at hlay
  have hsf:=Ap (Cg N R s (B2 R h))
  have hwf:=Ap w
  have hw2l:(Da R (Ct R N s) P (h+1)).length=P:=JK
  refine .inl ⟨(h+1,Da R (Ct R N s) P (h+1)),[0,1,2,3],[fn 32 (i6 (B4 R R.length:Nat)),As 33,fn 41 (.im N.length (Aa (Cg N R s (B2 R h)))),fn 42 (i6 (Ct R N s h:Nat)),fn 53 (i6 (Ei R h)),pl 49,ld 50 (i6 (w.getD (Ct R N s h) 0)),nu 54 (w.getD (Ct R N s h) 0+Ei R h),pl 55,st (Aa (Da R (Ct R N s) P (h+1))),nu 35 ((h+1:Nat):Int)],1000,⟨hlt,rfl⟩,o_,?_⟩
  clear hset hwp hw hroot hM hs hN hR p1 htl
  have hw2f:=Ap (Da R (Ct R N s) P (h+1))
  unfold Bd at*
  generalize Da R (Ct R N s) P (h+1)=w2 at*
  generalize Cg N R s (B2 R h)=z at*
  generalize Ct R N s h=p at*
  generalize w.getD p 0=y at*
  generalize Ei R h=t at*
  generalize Aq N=cs at*
  generalize Aa cs=C at*
  generalize Aa s=A at*
  generalize B4 R R.length=W at*
  generalize Ah R=RR at*
  generalize Ak N=NN at*
  generalize R.length=nR at*
  clear hP4 hP
  generalize N.length=n at*
  exact C8 [_,_,_,_,_,_,_,wr .i64 (y+t)=y+t,_,_,_] ⟨c1,Bf hlt,c2,c3,c4,Ar p2,l1,aq,Ar p2,hlay,Dw h o_⟩
 .obtain rfl:h=B4 R R.length:=o_
  rw[htl,<-hw]
  refine .inr ⟨.exit 2,[1,2],fZ N.length B (Aa (Aq N)) P (Aa w),[fn 32 (i6 (B4 R R.length:Nat)),no 33],1000,.inl ⟨trivial,rfl,rfl⟩,?_⟩
  have hwf:=Ap w
  clear hw htl hM hs hN hR
  unfold Bd at*
  generalize Aq N=cs at*
  generalize Aa cs=C at*
  generalize Aa s=A at*
  generalize B4 R R.length=W at*
  generalize Ah R=RR at*
  generalize Ak N=NN at*
  generalize R.length=nR at*
  clear hP4 hP
  generalize N.length=n at*
  exact m_ (p:=An [_,_,An [Zz,Zz,Tt],An [Sm [V.nils,V.nils,V.nils],TT 3],An [An [n=n,B=B],An [n=n,C=C],An [P=P,Sm (Aa w),_],Tt],Tt]) ⟨c1,Cq hlt,a_,a_,⟨a_,a_,⟨aq,aq,hwf⟩,aq⟩,aq⟩
theorem sS:Ag Pg g0 43 [Bd g R N,.im N.length (Aa s)] (.agg [sl (Gl N.length),sl (Aq N),sl (Bp R N s)]):=by
 have hN:=hM.nd2
 have hq:=hN.q
 have hRR:=B7 R
 have hNN:=Cl N
 have hAf:=Ap s
 have hcf:=Ap (Aq N)
 have hvf:=Ap (Gl N.length)
 have hcb:=TV (cs:=Aq N) (λi hi=>by rw[Eg]at hi;rw[Oi hi];exact hN.c i hi)
 have hpc:=DY (N:=N) N.length (aC _)
 have c1:=V4 g R N o_
 have c2:=wO (Aq N) (by grind[Eg]) (λk hk=>by
  have h1:=hcb k hk
  rw[Eg]at hk
  have h2:=uC (t:=k) o_
  have h3:(4:Int)^k<=1024:=by
   rcases(by omega:k=0\/k=1\/k=2\/k=3\/k=4\/k=5)with rfl|rfl|rfl|rfl|rfl|rfl<;>decide
  omega)
 rw[Eg,hpc]at c2
 have hz1:=(AZ hM.cd N.length (aC _)).1
 have hz4:=hM.z24
 obtain⟨P,hP⟩: ∃P:Nat,By N N.length=(P:Int):=⟨(By N N.length).toNat,o_⟩
 have hfl:=Qr hM s hs P (by rw[hP];rfl) (Aa (Gl N.length)) hvf
 have hvr:=Qq g R.length (Ah R) N.length (Ak N) (Aa s) (Aa (Aq N)) hRR hNN hAf hcf o_
 have hrr: ∀n,Cx n [i6 0]=Aa (List.replicate n 0):=λn=>Lh n 0
 have hTl:(Bp R N s).length=P:=by rw[Pw,hP];rfl
 have e1:sl (Gl N.length)= .im N.length (Aa (Gl N.length)):=by show V.im (Gl N.length).length _=_;rw[show(Gl N.length).length=N.length by simp[Gl]]
 have e2:sl (Aq N)= .im N.length (Aa (Aq N)):=by show V.im (Aq N).length _=_;rw[Eg]
 have e3:sl (Bp R N s)= .im P (Aa (Bp R N s)):=by show V.im (Bp R N s).length _=_;rw[hTl]
 rw[hP]at c2 hz4
 rw[e1,e3]
 rw[e2]at c1 c2⊢
 have hTf:=Ap (Bp R N s)
 clear hP hz1 hcb hpc e1 e2 e3 hTl hM hs hN
 unfold Bd at*
 generalize Aa (Bp R N s)=T,Aa (Gl N.length)=B,Aa (Aq N)=C,Aa s=A,Ah R=RR,Ak N=NN,R.length=nR,N.length=n at*
 refine K8 [0] {sl:=[(4,.ptr 0 0)],os:=[.row 102 none [.im n B,.im n C,.im P T]]} [fn 10 (.im n C),(0,.loop [0,1,2] (gC g nR RR n NN A C (0,[])) [(True,.exit 0,gB g nR RR n NN A C B)]),fn 27 (i6 P),mk 28,(0,.loop [0,1,2,3] (gA g nR RR n NN A B C P (0,List.replicate P 0)) [(True,.exit 2,fZ n B C P T)])] ?_
 exact m_ (p:=let z0:=[i6 g,V.im nR RR,V.im n NN];let z1:=[V.im n B,V.im n C,V.im P T];let z2:=[V.nils,V.nils,V.nils];let z4:=(↑P:Int);let z5:=(0:Int);let z3:=List.replicate P z5;An [Sm (V.agg z1),_,An [An [An [n=n,A=A],Zz,Zz,Zz,(↑(0:Nat):Int)=z5,Tt],An [z0=z0,TT 3],An [z2=z2,TT 3],An [Tt,An [n=n,C=C],Tt,Tt],Tt],_,(True->An [_,An [z5<=z4,z4<=z4,(↑(8:Nat):Int)*z4<=(281474976710656:Int),z4<=(9223372036854775807:Int)],An [An [An [n=n,A=A],Zz,Zz,Zz,(↑(0:Nat):Int)=z5,Tt],An [z0=z0,TT 3],An [z2=z2,TT 3],An [An [n=n,B=B],An [n=n,C=C],An [Zz,P=P,Sm (P-P)],Tt],An [Aa z3=Cx P [i6 0],Ba (Aa z3)],Tt],_,(True->An [An [Zz,Tt],An [z1=z1,TT 3],Tt]),Tt]),Tt]) ⟨aq,c1,a_,hvr,(λ_=>⟨c2,a_,a_,hfl,a_⟩),aq⟩
end
theorem S7{v:List Int}:Hp v (Cb n)=true:=YN.2 λi hi=>by
 grind[Cb]
section
variable {g:Int} {R:List (List Int)} {N:List Mc} (hM:Dz g R N) (s qv:List Int) (hs:F3 N s) (hqv:qv.length=N.length)
abbrev J0(R:List (List Int))(N:List Mc)(s qv:List Int)(k:Nat):Bool:=Hp (Cg N R s (B2 R k)) qv
abbrev kB(g:Int)(nR:Nat)(RR:List V)(n:Nat)(NN Z A Q:List V)(all sum:Int)(k:Nat):SL:={sl:=[(1,.im n Z),(2,.im n A),(3,.im n Q),(4,.ptr 0 0),(10,i6 all),(11,i6 sum),(12,i6 k)],os:=[Di g nR RR n NN]}
include hM hs hqv
theorem dh:Ag Pg g0 124 [Bd g R N,.im N.length (Aa (Cb N.length)),.im N.length (Aa s),.im N.length (Aa qv)] (.tup [i6 (Ez R (B4 R R.length)),i6 (Dn R (J0 R N s qv) (B4 R R.length))]):=by
 have hN:=hM.nd2
 have hR:=hM.wt
 have hRR:=B7 R
 have hNN:=Cl N
 have hZf:=Ap (Cb N.length)
 have hAf:=Ap s
 have hQf:=Ap qv
 have hW:=hM.w24
 have hn0:=V0 (YM (N:=N) hN.c)
 have hd: ∀k,0<=Ez R k/\Ez R k<=k*429981696:=λk=>by
  induction k with
  |zero=>simp[Ez]
  |succ k ih=>
   have h2:=LI hR hN.n k
   grind[Ez]
 have hlp:Au Pg none 0 (aT 124 111010) (Al g0 44 (kB g R.length (Ah R) N.length (Ak N) (Aa (Cb N.length)) (Aa s) (Aa qv) 0 0 0)) (B3 g0 44 [(True,.exit 0,{sl:=[(10,i6 (Ez R (B4 R R.length))),(11,i6 (Dn R (J0 R N s qv) (B4 R R.length)))]})]):=by
  refine C9 (aT 124 1110100) (λk=>k<=B4 R R.length) (λk=>kB g R.length (Ah R) N.length (Ak N) (Aa (Cb N.length)) (Aa s) (Aa qv) (Ez R k) (Dn R (J0 R N s qv) k) k) (λk=>B4 R R.length-k) (λk hk=>?_) 0 (aG _)
  have c1:=sX g R N hR hN.n
  by_cases hlt:k<B4 R R.length
  .have c2:=ZJ g R.length (Ah R) hRR N.length (Ak N) hNN (by have:=hN.q;omega) hN.q.1
   have c3:=nD hM (Cb N.length) hn0 k o_
   have c4:=sV (Cg N R (Cb N.length) (B2 R k)) (Cb N.length) N.length V3 (by simp[Cb]) (by have:=hN.q;omega)
   rw[S7]at c4
   have c5:=sR g R N hR hN.n k o_
   have c6:=nD hM s hs k o_
   have c7:=sV (Cg N R s (B2 R k)) qv N.length V3 hqv (by have:=hN.q;omega)
   have hb0:=hd k
   have hb1:=DS hR hN.n (J0 R N s qv) k
   have hb2:=LI hR hN.n k
   have e1:Ez R (k+1)=Ez R k+Ei R k:=rfl
   have e2:Dn R (J0 R N s qv) (k+1)=if J0 R N s qv k=true then Dn R (J0 R N s qv) k+Ei R k else Dn R (J0 R N s qv) k:=rfl
   have hz1:=Ap (Cg N R (Cb N.length) (B2 R k))
   have hz2:=Ap (Cg N R s (B2 R k))
   have hsame:(Aa (Cb N.length)=Aa s)->Aa (Cg N R (Cb N.length) (B2 R k))=Aa (Cg N R s (B2 R k)):=λh=>by
    have e:=kZ (show sl (Cb N.length)=sl s by unfold sl;rw[h,show(Cb N.length).length=s.length by rw[hs.1];simp[Cb]])
    rw[e]
   unfold Bd at*
   cases hb:J0 R N s qv k with
   |true=>
    rw[hb,if_pos rfl]at e2
    rw[show Hp (Cg N R s (B2 R k)) qv=true from hb]at c7
    refine .inl ⟨k+1,[0],[fn 15 (i6 (B4 R R.length:Nat)),As 16,fn 22 (.im N.length (Aa (Cb N.length))),fn 23 (.im N.length (Aa (Cg N R (Cb N.length) (B2 R k)))),fn 25 (.bool true),fn 29 (i6 (Ei R k)),nu 30 (Ez R (k+1)),fn 34 (.im N.length (Aa (Cg N R s (B2 R k)))),fn 36 (.bool true),fn 40 (i6 (Ei R k)),nu 41 (Dn R (J0 R N s qv) (k+1)),nu 18 ((k+1:Nat):Int)],1000,hlt,o_,?_⟩
    try dsimp only
    rw[e1,e2]
    clear hM hs hN hR hd hb e1 e2 hn0 hqv
    generalize Aa (Cg N R (Cb N.length) (B2 R k))=Z1,Aa (Cg N R s (B2 R k))=Z2,Dn R (J0 R N s qv) k=ws,Ez R k=ds,Ei R k=t,Aa (Cb N.length)=Z,Aa s=A,Aa qv=Q,B4 R R.length=W,Ah R=RR,Ak N=NN,R.length=nR,N.length=n at*
    exact C8 [_,_,_,_,_,_,wr .i64 (ds+t)=ds+t,_,_,_,wr .i64 (ws+t)=ws+t,_] ⟨c1,Bf hlt,c2,c3,c4,c5,aq,c6,c7,c5,aq,Dw k o_⟩
   |false=>
    rw[hb,if_neg s_]at e2
    rw[show Hp (Cg N R s (B2 R k)) qv=false from hb]at c7
    refine .inl ⟨k+1,[0],[fn 15 (i6 (B4 R R.length:Nat)),As 16,fn 22 (.im N.length (Aa (Cb N.length))),fn 23 (.im N.length (Aa (Cg N R (Cb N.length) (B2 R k)))),fn 25 (.bool true),fn 29 (i6 (Ei R k)),nu 30 (Ez R (k+1)),fn 34 (.im N.length (Aa (Cg N R s (B2 R k)))),fn 36 (.bool false),nu 18 ((k+1:Nat):Int)],1000,hlt,o_,?_⟩
    try dsimp only
    rw[e1,e2]
    clear hM hs hN hR hd hb e1 e2 hn0 hqv
    generalize Aa (Cg N R (Cb N.length) (B2 R k))=Z1,Aa (Cg N R s (B2 R k))=Z2,Dn R (J0 R N s qv) k=ws,Ez R k=ds,Ei R k=t,Aa (Cb N.length)=Z,Aa s=A,Aa qv=Q,B4 R R.length=W,Ah R=RR,Ak N=NN,R.length=nR,N.length=n at*
    exact C8 [_,_,_,_,_,_,wr .i64 (ds+t)=ds+t,_,_,_] ⟨c1,Bf hlt,c2,c3,c4,c5,aq,c6,c7,Dw k o_⟩
  .obtain rfl:k=B4 R R.length:=o_
   refine .inr ⟨.exit 0,[],{sl:=[(10,i6 (Ez R (B4 R R.length))),(11,i6 (Dn R (J0 R N s qv) (B4 R R.length)))]},[fn 15 (i6 (B4 R R.length:Nat)),no 16],1000,.inl ⟨trivial,rfl,rfl⟩,?_⟩
   try dsimp only
   unfold Bd at*
   clear hM hs hN hR hd hn0 hqv
   generalize Dn R (J0 R N s qv) (B4 R R.length)=ws,Ez R (B4 R R.length)=ds,B4 R R.length=W,Ah R=RR,Ak N=NN at*
   exact Cj [_,_] ⟨c1,Cq hlt⟩
 clear hM hs hN hR hd hn0 hqv
 unfold Bd at*
 generalize Dn R (J0 R N s qv) (B4 R R.length)=ws,Ez R (B4 R R.length)=ds,Aa (Cb N.length)=Z,Aa s=A,Aa qv=Q,Ah R=RR,Ak N=NN,R.length=nR,N.length=n at*
 refine Ch {sl:=[(8,i6 ds),(9,i6 ws)]} [(0,.loop [0] (kB g nR RR n NN Z A Q 0 0 0) [(True,.exit 0,{sl:=[(10,i6 ds),(11,i6 ws)]})])] ?_
 exact m_ (p:=An [Sm (V.tup [i6 ds,i6 ws]),An [An [An [n=n,Z=Z],An [n=n,A=A],An [n=n,Q=Q],Zz,Sm (0:Int),Sm (0:Int),(↑(0:Nat):Int)=(0:Int),Tt],An [Sm [i6 g,V.im nR RR,V.im n NN],TT 3],Tt],_,(True->An [An [ds=ds,ws=ws,Tt],Tt]),Tt]) ⟨aq,a_,hlp,a_⟩
abbrev Mi(g:Int)(R:List (List Int))(N:List Mc)(s qv:List Int):Nat:=(Dn R (J0 R N s qv) (B4 R R.length)).toNat
abbrev L4(g:Int)(R:List (List Int)):Nat:=(g^R.length).toNat
abbrev Zo(g:Int)(R:List (List Int))(N:List Mc)(s qv:List Int):V:=.agg [i6 ((Mi g R N s qv/Nat.gcd (Mi g R N s qv) (L4 g R):Nat):Int),i6 ((L4 g R/Nat.gcd (Mi g R N s qv) (L4 g R):Nat):Int)]
theorem Xz:Ag Pg g0 86 [Bd g R N,.im N.length (Aa s),.im N.length (Aa qv)] (Zo g R N s qv):=by
 have hN:=hM.nd2
 have hRR:=B7 R
 have hNN:=Cl N
 have hZf:=Ap (Cb N.length)
 have hAf:=Ap s
 have hQf:=Ap qv
 have c1:=ZJ g R.length (Ah R) hRR N.length (Ak N) hNN (by have:=hN.q;omega) hN.q.1
 have c2:=dh hM s qv hs hqv
 have hb:=DS hM.wt hM.n1 (J0 R N s qv) (B4 R R.length)
 have hW:=hM.w24
 have hgp:=L9 hM.g1 hM.n1
 rw[oM g R.length R rfl hM.sums]at c2
 have ew:Dn R (J0 R N s qv) (B4 R R.length)=(Mi g R N s qv:Nat):=by unfold Mi;omega
 have eg:g^R.length=(L4 g R:Nat):=by unfold L4;omega
 have c3:=GJ (Mi g R N s qv) (L4 g R) o_ o_ o_
 rw[ew,eg]at c2
 unfold Zo
 unfold Bd at*
 clear hM hs hN hqv ew eg hb hgp
 generalize Mi g R N s qv=w at*
 generalize L4 g R=d at*
 generalize w/Nat.gcd w d=x at*
 generalize d/Nat.gcd w d=y at*
 generalize Aa (Cb N.length)=Z at*
 generalize Aa s=A at*
 generalize Aa qv=Q at*
 generalize Ah R=RR at*
 generalize Ak N=NN at*
 generalize R.length=nR at*
 generalize N.length=n at*
 refine K8 [1] {sl:=[(6,.ptr 0 0)],os:=[.row 105 none [i6 x,i6 y]]} [fn 12 (.im n Z),fn 15 (.tup [i6 d,i6 w]),fn 20 (.agg [i6 x,i6 y])] ?_
 exact Hu [Sm (V.agg [i6 ↑x,i6 ↑y]),_,_,_] ⟨aq,c1,c2,c3⟩
end
section
variable {n s:Nat} {vals:List Int}
theorem AS(ha:a.length=n)(hb:b.length=n)(h: ∀i,i<n->a.getD i 0=b.getD i 0):a=b:=by
 apply cD
 grind
theorem em_0:Bc n (s%2^0) vals=Cb n:=AS Gf (by simp[Cb]) λi hi=>by
 grind[Mo,Ci,Cb]
theorem jQ:Bc n (s%2^n) vals=Bc n s vals:=AS Gf Gf λi hi=>by
 grind[Mo,Ci]
theorem QI{k:Nat}(hk:k<n):Bc n (s%2^(k+1)) vals=if s.testBit k=true then(Bc n (s%2^k) vals).set k (vals.getD k 0)else Bc n (s%2^k) vals:=by
 refine AS Gf (by grind[Cz]) λi hi=>?_
 grind[Mo,Ci,EE]
end
section
variable {g:Int} {R:List (List Int)} {N:List Mc} (hM:Dz g R N) (xs ys:Nat) (vals:List Int) (hvl:vals.length=N.length) (hval:Co (Aq N) vals N.length)
abbrev jS(g:Int)(nR:Nat)(RR:List V)(n:Nat)(NN:List V)(xs ys:Nat)(Vl:List V)(x:Nat×List Int×List Int):SL:={sl:=[(1,u6 xs),(2,u6 ys),(3,.im n Vl),(4,.ptr 0 0),(8,.ptr 1 0),(9,.sl 2 0 n none),(10,.sl 3 0 n none),(11,i6 x.1)],os:=[Di g nR RR n NN,.row 105 none [i6 0,i6 0],.row 3 (some 1) (Aa x.2.1),.row 3 (some 1) (Aa x.2.2)]}
abbrev jR(g:Int)(nR:Nat)(RR:List V)(n:Nat)(NN:List V)(a b:List Int):SL:={sl:=[(4,.ptr 0 0),(8,.ptr 1 0),(9,.sl 2 0 n none),(10,.sl 3 0 n none)],os:=[Di g nR RR n NN,.row 105 none [i6 0,i6 0],.row 3 (some 1) (Aa a),.row 3 (some 1) (Aa b)]}
include hM hvl hval
theorem ez:Au Pg none 0 (aT 46 111010) (Al g0 46 (jS g R.length (Ah R) N.length (Ak N) xs ys (Aa vals) (0,Cb N.length,Cb N.length))) (B3 g0 46 [(True,.exit 0,jR g R.length (Ah R) N.length (Ak N) (Bc N.length xs vals) (Bc N.length ys vals))]):=by
 have hRR:=B7 R
 have hNN:=Cl N
 have hVf:=Ap vals
 have hq:=hM.q1
 refine C9 (aT 46 1110100) (λx=>x.1<=N.length/\x.2.1=Bc N.length (xs%2^x.1) vals/\x.2.2=Bc N.length (ys%2^x.1) vals) (jS g R.length (Ah R) N.length (Ak N) xs ys (Aa vals)) (λx=>N.length-x.1) (λx hx=>?_) (0,Cb N.length,Cb N.length) ⟨aG _,em_0.symm,em_0.symm⟩
 obtain⟨k,a,b⟩:=x
 obtain⟨hk,ha,hb⟩:=hx
 dsimp only at hk ha hb
 have hal:a.length=N.length:=by rw[ha];exact Gf
 have hbl:b.length=N.length:=by rw[hb];exact Gf
 by_cases hlt:k<N.length
 .have h1:=Dm (l:=vals) (k:=k) o_
  have f1:=TE xs k o_
  have f2:=TE ys k o_
  have e1:=QI (n:=N.length) (s:=xs) (vals:=vals) hlt
  have e2:=QI (n:=N.length) (s:=ys) (vals:=vals) hlt
  rw[<-ha]at e1
  rw[<-hb]at e2
  have l1:=Ie (l:=a) (j:=k) (x:=vals.getD k 0) o_
  have l2:=Ie (l:=b) (j:=k) (x:=vals.getD k 0) o_
  have m1:(a.set k (vals.getD k 0)).length=N.length:=by rw[bJ];exact hal
  have m2:(b.set k (vals.getD k 0)).length=N.length:=by rw[bJ];exact hbl
  have haf:=Ap a
  have hbf:=Ap b
  have ha2:=Ap (a.set k (vals.getD k 0))
  have hb2:=Ap (b.set k (vals.getD k 0))
  have hne:xs=ys->xs.testBit k=ys.testBit k:=λh=>by rw[h]
  cases hbx:xs.testBit k with
  | true =>
   rw[hbx,if_pos rfl]at e1
   rw[hbx]at f1
   cases hby:ys.testBit k with
   |true=>
    rw[hby,if_pos rfl]at e2
    rw[hby]at f2
    refine .inl ⟨(k+1,a.set k (vals.getD k 0),b.set k (vals.getD k 0)),[0,1,2,3],[As 19,fn 24 (.bool true),pl 29,ld 30 (i6 (vals.getD k 0)),pl 31,st (Aa (a.set k (vals.getD k 0))),fn 34 (.bool true),pl 39,ld 40 (i6 (vals.getD k 0)),pl 41,st (Aa (b.set k (vals.getD k 0))),nu 21 ((k+1:Nat):Int)],1000,⟨hlt,e1.symm,e2.symm⟩,o_,?_⟩
    clear e1 e2 ha hb hM hval
    generalize a.set k (vals.getD k 0)=a2,b.set k (vals.getD k 0)=b2,vals.getD k 0=y,Aa vals=Vl,Ah R=RR,Ak N=NN,R.length=nR,N.length=n at*
    exact C8 [_,_,_,_,_,_,_,_,_,_,_,_] ⟨Bf hlt,f1,Ar hlt,h1,Ar hlt,l1,f2,Ar hlt,h1,Ar hlt,l2,Dw k o_⟩
   |false=>
    rw[hby,if_neg s_]at e2
    rw[hby]at f2
    rw[hbx,hby]at hne
    refine .inl ⟨(k+1,a.set k (vals.getD k 0),b),[0,1,2,3],[As 19,fn 24 (.bool true),pl 29,ld 30 (i6 (vals.getD k 0)),pl 31,st (Aa (a.set k (vals.getD k 0))),fn 34 (.bool false),nu 21 ((k+1:Nat):Int)],1000,⟨hlt,e1.symm,e2.symm⟩,o_,?_⟩
    clear e1 e2 ha hb hM hval
    generalize a.set k (vals.getD k 0)=a2,vals.getD k 0=y,Aa vals=Vl,Ah R=RR,Ak N=NN,R.length=nR,N.length=n at*
    exact C8 [_,_,_,_,_,_,_,_] ⟨Bf hlt,f1,Ar hlt,h1,Ar hlt,l1,f2,Dw k o_⟩
  | false =>
   rw[hbx,if_neg s_]at e1
   rw[hbx]at f1
   cases hby:ys.testBit k with
   |true=>
    rw[hby,if_pos rfl]at e2
    rw[hby]at f2
    rw[hbx,hby]at hne
    refine .inl ⟨(k+1,a,b.set k (vals.getD k 0)),[0,1,2,3],[As 19,fn 24 (.bool false),fn 34 (.bool true),pl 39,ld 40 (i6 (vals.getD k 0)),pl 41,st (Aa (b.set k (vals.getD k 0))),nu 21 ((k+1:Nat):Int)],1000,⟨hlt,e1.symm,e2.symm⟩,o_,?_⟩
    clear e1 e2 ha hb hM hval
    generalize b.set k (vals.getD k 0)=b2,vals.getD k 0=y,Aa vals=Vl,Ah R=RR,Ak N=NN,R.length=nR,N.length=n at*
    exact C8 [_,_,_,_,_,_,_,_] ⟨Bf hlt,f1,f2,Ar hlt,h1,Ar hlt,l2,Dw k o_⟩
   |false=>
    rw[hby,if_neg s_]at e2
    rw[hby]at f2
    refine .inl ⟨(k+1,a,b),[0,1,2,3],[As 19,fn 24 (.bool false),fn 34 (.bool false),nu 21 ((k+1:Nat):Int)],1000,⟨hlt,e1.symm,e2.symm⟩,o_,?_⟩
    clear e1 e2 ha hb hM hval
    generalize Aa vals=Vl,Ah R=RR,Ak N=NN,R.length=nR,N.length=n at*
    exact C8 [_,_,_,_] ⟨Bf hlt,f1,f2,Dw k o_⟩
 .obtain rfl:k=N.length:=o_
  rw[jQ]at ha hb
  rw[<-ha,<-hb]
  have haf:=Ap a
  have hbf:=Ap b
  refine .inr ⟨.exit 0,[0,1,2,3],jR g R.length (Ah R) N.length (Ak N) a b,[no 19],1000,.inl ⟨trivial,rfl,rfl⟩,?_⟩
  clear ha hb hM hval
  generalize Aa vals=Vl,Ah R=RR,Ak N=NN,R.length=nR,N.length=n at*
  exact Cj [_] (Cq hlt)
theorem wS:Ag Pg g0 46 [Bd g R N,u6 xs,u6 ys,.im N.length (Aa vals)] (Zo g R N (Bc N.length xs vals) (Bc N.length ys vals)):=by
 have hlp:=ez hM xs ys vals hvl hval
 have hRR:=B7 R
 have hNN:=Cl N
 have hVf:=Ap vals
 have hq:=hM.q1
 have c1:=λ(H:T O) nx=>jb g R.length (Ah R) hRR N.length (Ak N) hNN o_ hq.1 (H:=H) (nx:=nx)
 have hset:=V0 (JI (xs:=xs) hM.cd hval)
 have c2:=Xz hM (Bc N.length xs vals) (Bc N.length ys vals) hset Gf
 have hal:(Bc N.length xs vals).length=N.length:=Gf
 have hbl:(Bc N.length ys vals).length=N.length:=Gf
 unfold Zo at*
 unfold Bd at*
 clear hM hval hset
 generalize (Mi g R N (Bc N.length xs vals) (Bc N.length ys vals)/Nat.gcd (Mi g R N (Bc N.length xs vals) (Bc N.length ys vals)) (L4 g R):Nat)=x,(L4 g R/Nat.gcd (Mi g R N (Bc N.length xs vals) (Bc N.length ys vals)) (L4 g R):Nat)=y,Bc N.length xs vals=a,Bc N.length ys vals=b,Cb N.length=z at*
 have haf:=Ap a
 have hbf:=Ap b
 have hzf:=Ap z
 have hz:(Aa z).length=z.length:=F5 z
 have c3:=LU (H:=Ai .e 0 [Di g R.length (Ah R) N.length (Ak N),.row 105 none [i6 0,i6 0],.row 3 (some 1) (Aa a),.row 3 (some 1) (Aa b)]) (nx:=4) c2 ⟨_,_,rfl,Bo.of_hf _ ⟨trivial,trivial,trivial,trivial⟩,_,_,rfl,.inr (.inr ⟨2,0,none,_,_,_,rfl,(by trivial),rfl,Bq.of_hf _ haf⟩),_,_,rfl,.inr (.inr ⟨3,0,none,_,_,_,rfl,(by trivial),rfl,Bq.of_hf _ hbf⟩),rfl⟩ rfl
 clear c2
 generalize Aa vals=Vl,Ah R=RR,Ak N=NN,R.length=nR,N.length=n at*
 refine K8 [1] {sl:=[(8,.ptr 0 0)],os:=[.row 105 none [i6 x,i6 y]]} [(13,.call ⟨.sl 2 0 n none,pt (Ai .e 0 [Di g nR RR n NN,.row 105 none [i6 0,i6 0]]) 2 (.row 3 (some 1) (Aa z)),3,[]⟩),(15,.call ⟨.sl 3 0 n none,pt (pt (Ai .e 0 [Di g nR RR n NN,.row 105 none [i6 0,i6 0]]) 2 (.row 3 (some 1) (Aa z))) 3 (.row 3 (some 1) (Aa z)),4,[]⟩),(0,.loop [0,1,2,3] (jS g nR RR n NN xs ys Vl (0,z,z)) [(True,.exit 0,jR g nR RR n NN a b)]),(45,.call ⟨.agg [i6 x,i6 y],Ai .e 0 [Di g nR RR n NN,.row 105 none [i6 0,i6 0],.row 3 (some 1) (Aa a),.row 3 (some 1) (Aa b)],4,[]⟩)] ?_
 exact m_ (p:=let y1:=An [Sm (Aa z),Ba (Aa z)];let z1:=[i6 g,V.im nR RR,V.im n NN];let z4:=[i6 ↑x,i6 ↑y];let z5:=O.row 3 (some 1) (Aa z);let z7:=V.sl 2 0 n none;let z8:=V.sl 3 0 n none;let y0:=[i6 0,i6 0];let z3:=O.row 105 none y0;let z9:=V.agg z1;let z0:=pt (Ai T.e 0 [Di g nR RR n NN,z3]) 2 z5;let z6:=pt (pt T.e 0 (O.row 34 none z1)) 1 z3;An [Sm (V.agg z4),Ac Tryz.prog g0 (V.fn 44 []) [z9] z6 2 (CR.mk z7 z0 3 []),Ac Tryz.prog g0 (V.fn 44 []) [z9] z0 3 (CR.mk z8 (pt z0 3 z5) 4 []),V.fn 44 []=V.fn 44 []->[z9]=[z9]->z6=z0->0+1+1=3->CR.mk z7 z0 3 []=CR.mk z8 (pt z0 3 z5) 4 [],An [An [Sm (↑xs:Int),Sm (↑ys:Int),An [n=n,Vl=Vl],Zz,Zz,An [Zz,n=n,Tt],An [Zz,n=n,Tt],(↑(0:Nat):Int)=(0:Int),Tt],An [z1=z1,TT 3],An [y0=y0,TT 2],y1,y1,Tt],_,(True->An [_,An [Zz,Tt],An [z4=z4,TT 2],Tt]),Tt]) ⟨aq,c1 _ _,aq,aq,a_,hlp,(λ_=>⟨c3,a_⟩),aq⟩
end
theorem Rh(n xs ys:Nat)(hn:n<64)(hx:xs<2^64)(hy:ys<2^64):Ag Pg g0 13 [i6 n,u6 xs,u6 ys] (.bool (H5 n xs ys)):=by
 obtain⟨o1,o2⟩:=Kn (G:=B1 Pg) (t:=29) hx hy
 have s1:=Qx (G:=B1 Pg) (t:=29) (x:=xs|||ys) (k:=n) o_
 have w1:=UR hn
 have a1:=(AL (G:=B1 Pg) (t:=29) hx hy)
 unfold H5
 generalize xs&&& ys=z,(xs|||ys)/2^n=y at*
 generalize xs|||ys=o at*
 by_cases hy0:y=0
 .by_cases hz0:z=0
  .rw[decide_eq_true hy0,decide_eq_true hz0]
   refine Ch {sl:=[(6,.bool true)]} [va 9 (u6 o),nu 11 n,va 12 (u6 y),As 13,va 17 (u6 z),As 18] ?_
   exact Hu [V.bool true=V.bool (true&&true),_,_,_,((↑y:Int)==(0:Int))=true,_,((↑z:Int)==(0:Int))=true] ⟨aq,o1,w1,s1,aq,a1,a_⟩
  .rw[decide_eq_true hy0,decide_eq_false hz0]
   refine Ch {sl:=[(6,.bool false)]} [va 9 (u6 o),nu 11 n,va 12 (u6 y),As 13,va 17 (u6 z),no 18] ?_
   exact Hu [V.bool false=V.bool (true&&false),_,_,_,((↑y:Int)==(0:Int))=true,_,((↑z:Int)==(0:Int))=false] ⟨aq,o1,w1,s1,aq,a1,a_⟩
 .rw[decide_eq_false hy0]
  refine Ch {sl:=[(6,.bool false)]} [va 9 (u6 o),nu 11 n,va 12 (u6 y),no 13] ?_
  exact Hu [V.bool false=V.bool (false&&decide (z=0)),_,_,_,((↑y:Int)==(0:Int))=false] ⟨aq,o1,w1,s1,a_⟩
abbrev Ri(a b:List Int)(k:Nat):SL:={sl:=[(0,sl a),(1,sl b),(5,i6 k)]}
theorem TS(a b:List Int)(h6:a.length<=1000000):Ag Pg g0 11 [sl a,sl b] (.bool (decide (a=b))):=by
 have haf:=Ap a
 have hbf:=Ap b
 by_cases hl:a.length=b.length
 .have hlp:Au Pg none 0 (aT 11 111010) (Al g0 26 (Ri a b 0)) (B3 g0 26 [(a=b,.exit 0,{sl:=[]}),(a≠b,.ret,{sl:=[(4,.bool false)]})]):=by
   refine C9 (aT 11 1110100) (λk=>k<=a.length/\∀i,i<k->a.getD i 0=b.getD i 0) (Ri a b) (λk=>a.length-k) (λk hk=>?_) 0 ⟨aG _,λi h=>absurd h (aJ _)⟩
   obtain⟨hk,hin⟩:=hk
   by_cases hlt:k<a.length
   .have h1:=Dm hlt
    have h2:=Dm (l:=b) (k:=k) o_
    by_cases he:a.getD k 0=b.getD k 0
    .have hg: ∀i,i<k+1 ->a.getD i 0=b.getD i 0:=λi hi=>by
      grind
     refine .inl ⟨k+1,[],[As 14,pl 19,ld 20 (i6 (a.getD k 0)),pl 23,ld 24 (i6 (b.getD k 0)),no 25,nu 16 ((k+1:Nat):Int)],1000,⟨hlt,hg⟩,o_,?_⟩
     clear hin hg
     generalize a.getD k 0=x,b.getD k 0=y at*
     exact C8 (let z0:=(↑k:Int);[_,_,_,An [(0:Int)<=z0,z0<(↑b.length:Int)],_,(x != y)=false,wr .i64 (z0+(1:Int))=(↑(k+1):Int)]) ⟨Bf hlt,Ar hlt,h1,a_,h2,a_⟩
    .have hf:a≠b:=λe=>he (by rw[e])
     refine .inr ⟨.ret,[],{sl:=[(4,.bool false)]},[As 14,pl 19,ld 20 (i6 (a.getD k 0)),pl 23,ld 24 (i6 (b.getD k 0)),As 25],1000,.inr (.inl ⟨hf,rfl,rfl⟩),?_⟩
     clear hin hf
     generalize a.getD k 0=x,b.getD k 0=y at*
     exact Cj [_,_,_,An [(0:Int)<=(↑k:Int),(↑k:Int)<(↑b.length:Int)],_,(x != y)=true] ⟨Bf hlt,Ar hlt,h1,a_,h2,a_⟩
   .obtain rfl:k=a.length:=o_
    have hf:a=b:=AS rfl hl.symm hin
    refine .inr ⟨.exit 0,[],{sl:=[]},[no 14],1000,.inl ⟨hf,rfl,rfl⟩,?_⟩
    clear hin hf
    exact Cj [_] (Cq hlt)
  generalize hd:decide (a=b)=d
  have hd1:a=b->d=true:=λh=>by simp_all
  have hd2:a≠b->d=false:=λh=>by simp_all
  refine Ch {sl:=[(4,.bool d)]} [no 10,(0,.loop [] (Ri a b 0) [(a=b,.exit 0,{sl:=[]}),(a≠b,.ret,{sl:=[(4,.bool false)]})])] ?_
  clear hd
  exact m_ (p:=An [Sm (V.bool d),((↑a.length:Int) != (↑b.length:Int))=false,An [An [An [Sm a.length,Sm (Aa a)],An [Sm b.length,Sm (Aa b)],(↑(0:Nat):Int)=(0:Int),Tt],Tt],_,a=b->An [An [d=true,Tt],Tt],a≠b->An [An [d=false,Tt],Tt],Tt]) ⟨aq,aq,a_,hlp,a_⟩
 .rw[decide_eq_false (λe=>hl (by rw[e]))]
  refine Ch {sl:=[(4,.bool false)]} [As 10] ?_
  exact Hu [Sm (V.bool false),((↑a.length:Int) != (↑b.length:Int))=true] a_
section
variable {ga gb:Int} {RA RB:List (List Int)} {NA NB:List Mc} (hA:Dz ga RA NA) (hB:Dz gb RB NB)
include hA hB
theorem dr(hs:Dk NA NB=false):Ag Pg g0 10 [Bd ga RA NA,Bd gb RB NB] (.bool false):=by
 have c1:=V4 ga RA NA (by have:=hA.q1;omega)
 have c2:=V4 gb RB NB (by have:=hB.q1;omega)
 have c3:=TS (Aq NA) (Aq NB) (by rw[Eg];have:=hA.q1;omega)
 rw[show decide (Aq NA=Aq NB)=false from hs]at c3
 have hRA:=B7 RA
 have hNA:=Cl NA
 have hRB:=B7 RB
 have hNB:=Cl NB
 have hsm:[V.agg [i6 ga,.im RA.length (Ah RA),.im NA.length (Ak NA)]]=[V.agg [i6 gb,.im RB.length (Ah RB),.im NB.length (Ak NB)]]->Aq NA=Aq NB:=λh=>by grind[JE]
 have h1:=Ap (Aq NA)
 have h2:=Ap (Aq NB)
 clear hA hB hs
 unfold Bd at*
 generalize Aq NA=C,Aq NB=D,Ah RA=RRA,Ak NA=NNA,Ah RB=RRB,Ak NB=NNB at*
 refine Ch {sl:=[(4,.bool false)]} [fn 9 (sl C),fn 11 (sl D),fn 12 (.bool false)] ?_
 exact Hu (let z1:=[i6 ga,V.im RA.length RRA,V.im NA.length NNA];let z2:=[i6 gb,V.im RB.length RRB,V.im NB.length NNB];let z3:=V.bool false;let z0:=pt (pt T.e 0 (O.row 34 none z1)) 1 (O.row 34 none z2);[z3=z3,_,_,V.fn 12 []=V.fn 12 []->[V.agg z1]=[V.agg z2]->z0=z0->0+1+1=2->CR.mk (sl C) z0 2 []=CR.mk (sl D) z0 2 [],_]) ⟨aq,c1,c2,aq,c3⟩
abbrev Rx(ga:Int)(nA:Nat)(RA:List V)(gb:Int)(nB:Nat)(RB:List V)(q:Nat)(NA NB C D:List V)(z:Nat)(B X Y:List V)(k:Nat):SL:={sl:=[(2,.ptr 0 0),(3,.ptr 1 0),(5,.ptr 2 0),(6,.ptr 3 0),(7,i6 k)],os:=[Di ga nA RA q NA,Di gb nB RB q NB,.row 102 none [.im q B,.im q C,.im z X],.row 102 none [.im q B,.im q D,.im z Y]],md:=[0,0,1,1]}
theorem j9(B C D:List V)(hBf:Ba B)(hCf:Ba C)(hDf:Ba D)(X Y:List Int)(z:Nat)(hX:X.length=z)(hY:Y.length=z)(hz:z<=1000000)(hXb: ∀i,i<z->0<=X.getD i 0/\X.getD i 0<=429981696)(hYb: ∀i,i<z->0<=Y.getD i 0/\Y.getD i 0<=429981696)(hql:NA.length=NB.length):Au Pg none 0 (aT 10 1111010) (Al g0 46 (Rx ga RA.length (Ah RA) gb RB.length (Ah RB) NA.length (Ak NA) (Ak NB) C D z B (Aa X) (Aa Y) 0)) (B3 g0 46 [(Fy X Y (ga^RA.length) (gb^RB.length)=true,.exit 0,{sl:=[]}),(Fy X Y (ga^RA.length) (gb^RB.length)=false,.ret,{sl:=[(4,.bool false)]})]):=by
 have hRA:=B7 RA
 have hNA:=Cl NA
 have hRB:=B7 RB
 have hNB:=Cl NB
 have hXf:=Ap X
 have hYf:=Ap Y
 have c1:=xO ga RA NA hA.g1 hA.n1
 have c2:=xO gb RB NB hB.g1 hB.n1
 have g1:=L9 hA.g1 hA.n1
 have g2:=L9 hB.g1 hB.n1
 have hsm:[V.agg [i6 ga,.im RA.length (Ah RA),.im NA.length (Ak NA)]]=[V.agg [i6 gb,.im RB.length (Ah RB),.im NB.length (Ak NB)]]->ga^RA.length=gb^RB.length:=λh=>by
  simp_all
 unfold Bd at*
 rw[<-hql]at c2 hsm
 generalize hwA:ga^RA.length=wA at*
 generalize hwB:gb^RB.length=wB at*
 clear hwA hwB hA hB hql
 generalize Ah RA=RRA at*
 generalize Ak NA=NNA at*
 generalize Ah RB=RRB at*
 generalize Ak NB=NNB at*
 generalize RA.length=nA at*
 generalize RB.length=nB at*
 generalize NA.length=q at*
 refine C9 (aT 10 11110100) (λk=>k<=z/\∀i,i<k->X.getD i 0*wB=Y.getD i 0*wA) (Rx ga nA RRA gb nB RRB q NNA NNB C D z B (Aa X) (Aa Y)) (λk=>z-k) (λk hk=>?_) 0 ⟨aG _,λi h=>absurd h (aJ _)⟩
 obtain⟨hk,hin⟩:=hk
 by_cases hlt:k<z
 .have s1:=Dm (l:=X) (k:=k) o_
  have s2:=Dm (l:=Y) (k:=k) o_
  have b:=WO hXb hYb g1 g2 k hlt
  by_cases he:X.getD k 0*wB=Y.getD k 0*wA
  .have hg: ∀i,i<k+1 ->X.getD i 0*wB=Y.getD i 0*wA:=λi hi=>by
    grind
   refine .inl ⟨k+1,[0,1,2,3],[As 26,fn 35 (i6 wB),fn 43 (i6 wA),pl 32,ld 33 (i6 (X.getD k 0)),nu 36 (X.getD k 0*wB),pl 40,ld 41 (i6 (Y.getD k 0)),nu 44 (Y.getD k 0*wA),no 45,nu 28 ((k+1:Nat):Int)],1000,⟨hlt,hg⟩,o_,?_⟩
   clear hin hg hXb hYb
   generalize hp:X.getD k 0*wB=p at*
   generalize hp2:Y.getD k 0*wA=p2 at*
   generalize X.getD k 0=x at*
   generalize Y.getD k 0=y at*
   exact C8 (let z0:=Ai T.e 0 [Di ga nA RRA q NNA,Di gb nB RRB q NNB,O.row 102 none [V.im q B,V.im q C,V.im z (Aa X)],O.row 102 none [V.im q B,V.im q D,V.im z (Aa Y)]];[_,_,_,V.fn 45 []=V.fn 45 []->[V.agg [i6 gb,V.im nB RRB,V.im q NNB]]=[V.agg [i6 ga,V.im nA RRA,V.im q NNA]]->z0=z0->4=4->CR.mk (i6 wB) z0 4 []=CR.mk (i6 wA) z0 4 [],_,_,wr .i64 (x*wB)=p,_,_,wr .i64 (y*wA)=p2,(p != p2)=false,wr .i64 ((↑k:Int)+(1:Int))=(↑(k+1):Int)]) ⟨Bf hlt,c2,c1,aq,Ar hlt,s1,aq,Ar hlt,s2,a_⟩
  .have hf:Fy X Y wA wB=false:=by
    cases hb:Fy X Y wA wB with
    |false=>rfl
    |true=>grind[YX]
   refine .inr ⟨.ret,[],{sl:=[(4,.bool false)]},[As 26,fn 35 (i6 wB),fn 43 (i6 wA),pl 32,ld 33 (i6 (X.getD k 0)),nu 36 (X.getD k 0*wB),pl 40,ld 41 (i6 (Y.getD k 0)),nu 44 (Y.getD k 0*wA),As 45],1000,.inr (.inl ⟨hf,rfl,rfl⟩),?_⟩
   clear hin hf hXb hYb
   generalize hp:X.getD k 0*wB=p at*
   generalize hp2:Y.getD k 0*wA=p2 at*
   generalize X.getD k 0=x at*
   generalize Y.getD k 0=y at*
   exact Cj (let z0:=Ai T.e 0 [Di ga nA RRA q NNA,Di gb nB RRB q NNB,O.row 102 none [V.im q B,V.im q C,V.im z (Aa X)],O.row 102 none [V.im q B,V.im q D,V.im z (Aa Y)]];[_,_,_,V.fn 45 []=V.fn 45 []->[V.agg [i6 gb,V.im nB RRB,V.im q NNB]]=[V.agg [i6 ga,V.im nA RRA,V.im q NNA]]->z0=z0->4=4->CR.mk (i6 wB) z0 4 []=CR.mk (i6 wA) z0 4 [],_,_,wr .i64 (x*wB)=p,_,_,wr .i64 (y*wA)=p2,(p != p2)=true]) ⟨Bf hlt,c2,c1,aq,Ar hlt,s1,aq,Ar hlt,s2,a_⟩
 .obtain rfl:k=z:=o_
  have hf:Fy X Y wA wB=true:=YX.2 λi hi=>hin i o_
  refine .inr ⟨.exit 0,[],{sl:=[]},[no 26],1000,.inl ⟨hf,rfl,rfl⟩,?_⟩
  clear hin hf hXb hYb
  exact Cj [_] (Cq hlt)
theorem dt(hs:Dk NA NB=true):Ag Pg g0 10 [Bd ga RA NA,Bd gb RB NB] (.bool (Fy (Bp RA NA (Cb NA.length)) (Bp RB NB (Cb NA.length)) (ga^RA.length) (gb^RB.length))):=by
 have hss:Aq NA=Aq NB:=of_decide_eq_true hs
 have hql:NA.length=NB.length:=by rw[<-Eg (N:=NA),hss,Eg]
 have c1:=V4 ga RA NA (by have:=hA.q1;omega)
 have c2:=V4 gb RB NB (by have:=hB.q1;omega)
 have c3:=TS (Aq NA) (Aq NB) (by rw[Eg];have:=hA.q1;omega)
 rw[decide_eq_true hss]at c3
 have hRA:=B7 RA
 have hNA:=Cl NA
 have hRB:=B7 RB
 have hNB:=Cl NB
 have c4:=ZJ ga RA.length (Ah RA) hRA NA.length (Ak NA) hNA (by have:=hA.q1;omega) hA.q1.1
 have c5:=ZJ gb RB.length (Ah RB) hRB NB.length (Ak NB) hNB (by have:=hB.q1;omega) hB.q1.1
 have c6:=sS hA (Cb NA.length) (V0 (YM hA.cd))
 have c7:=sS hB (Cb NB.length) (V0 (YM hB.cd))
 have hXl:(Bp RA NA (Cb NA.length)).length=(Bp RA NA (Cb NA.length)).length:=rfl
 have hYl:(Bp RB NB (Cb NA.length)).length=(Bp RA NA (Cb NA.length)).length:=by
  rw[Pw,Pw,<-DY _ (aC _),<-DY _ (aC _),<-hss,hql]
 have hXb:=YF (act:=Cb NA.length) hA
 have hYb:=YF (act:=Cb NA.length) hB
 rw[hYl]at hYb
 have hz:(Bp RA NA (Cb NA.length)).length<=1024:=by rw[Pw];have:=hA.z24;omega
 have hvf:=Ap (Gl NA.length)
 have hcf:=Ap (Aq NA)
 have hdf:=Ap (Aq NB)
 have hlp:=j9 hA hB (Aa (Gl NA.length)) (Aa (Aq NA)) (Aa (Aq NB)) hvf hcf hdf _ _ _ hXl hYl o_ hXb hYb hql
 rw[<-hql]at c5 c7
 have hsm:V.agg [i6 ga,.im RA.length (Ah RA),.im NA.length (Ak NA)]=V.agg [i6 gb,.im RB.length (Ah RB),.im NA.length (Ak NB)]->Bp RA NA (Cb NA.length)=Bp RB NB (Cb NA.length):=λh=>by
  grind[JE]
 have e1:sl (Gl NA.length)= .im NA.length (Aa (Gl NA.length)):=by show V.im (Gl NA.length).length _=_;rw[show(Gl NA.length).length=NA.length by simp[Gl]]
 have e2:sl (Aq NA)= .im NA.length (Aa (Aq NA)):=by show V.im (Aq NA).length _=_;rw[Eg]
 have e3:sl (Aq NB)= .im NA.length (Aa (Aq NB)):=by show V.im (Aq NB).length _=_;rw[Eg,hql]
 have e5:sl (Bp RB NB (Cb NA.length))= .im (Bp RA NA (Cb NA.length)).length (Aa (Bp RB NB (Cb NA.length))):=by show V.im (Bp RB NB _).length _=_;rw[hYl]
 rw[e1,e2]at c6
 rw[e1,e3,e5]at c7
 rw[e2]at c1
 rw[e3]at c2
 rw[e2,e3]at c3
 rw[<-hss]at*
 clear hA hB hs hXb hYb e1 e2 e3 e5 hss
 unfold Bd at*
 rw[<-hql]at*
 clear hql
 generalize Fy (Bp RA NA (Cb NA.length)) (Bp RB NB (Cb NA.length)) (ga^RA.length) (gb^RB.length)=b,Bp RA NA (Cb NA.length)=X,Bp RB NB (Cb NA.length)=Y at*
 have hXf:=Ap X
 have hYf:=Ap Y
 have hzf:=Ap (Cb NA.length)
 generalize Aa (Cb NA.length)=Z,Aa (Gl NA.length)=B,Aa (Aq NA)=C,Ah RA=RRA,Ak NA=NNA,Ah RB=RRB,Ak NB=NNB,RA.length=nA,RB.length=nB,NA.length=q at*
 refine Ch {sl:=[(4,.bool b)]} [fn 9 (.im q C),fn 11 (.im q C),fn 12 (.bool true),fn 16 (.im q Z),fn 17 (.agg [.im q B,.im q C,sl X]),fn 20 (.im q Z),fn 21 (.agg [.im q B,.im q C,.im X.length (Aa Y)]),(0,.loop [0,1,2,3] (Rx ga nA RRA gb nB RRB q NNA NNB C C X.length B (Aa X) (Aa Y) 0) [(b=true,.exit 0,{sl:=[]}),(b=false,.ret,{sl:=[(4,.bool false)]})])] ?_
 exact m_ (p:=let z1:=[i6 ga,V.im nA RRA,V.im q NNA];let z2:=[i6 gb,V.im nB RRB,V.im q NNB];let z3:=V.im q C;let z4:=V.im q Z;let z0:=pt (pt T.e 0 (O.row 34 none z1)) 1 (O.row 34 none z2);let z6:=V.agg z1;let z7:=V.agg z2;An [Sm (V.bool b),_,_,V.fn 12 []=V.fn 12 []->[z6]=[z7]->z0=z0->0+1+1=2->Sm (CR.mk z3 z0 2 []),_,_,_,_,V.fn 44 []=V.fn 44 []->[z6]=[z7]->z0=z0->0+1+1=2->Sm (CR.mk z4 z0 2 []),_,V.fn 43 []=V.fn 43 []->[z6,z4]=[z7,z4]->z0=z0->0+1+1=2->CR.mk (V.agg [V.im q B,z3,sl X]) z0 2 []=CR.mk (V.agg [V.im q B,z3,V.im X.length (Aa Y)]) z0 2 [],An [An [Zz,Zz,Zz,Zz,(↑(0:Nat):Int)=(0:Int),Tt],An [z1=z1,TT 3],An [z2=z2,TT 3],An [An [q=q,B=B],An [q=q,C=C],An [_,Sm (Aa X)],Tt],An [An [q=q,B=B],An [q=q,C=C],An [_,Sm (Aa Y)],Tt],Tt],_,b=true->An [An [b=true,Tt],Tt],b=false->An [An [b=false,Tt],Tt],Tt]) ⟨aq,c1,c2,aq,c3,c4,c6,c5,aq,c7,aq,⟨a_,a_,a_,⟨a_,a_,⟨hXl,aq⟩,aq⟩,⟨a_,a_,⟨hXl,aq⟩,aq⟩,aq⟩,hlp,a_⟩
end
theorem iD{a b c d:Nat}(h: ¬(a=c/\b=d)):(!((a:Int)==(c:Int)&&((b:Int)==(d:Int)&&true)))=true:=by
 simp only[Bool.and_true,bI,Bool.and_eq_false_iff,beq_eq_false_iff_ne,ne_eq]
 omega
section
variable {ga gb:Int} {RA RB:List (List Int)} {NA NB:List Mc} (hA:Dz ga RA NA) (hB:Dz gb RB NB) (hss:Aq NA=Aq NB) (xs ys:Nat)
abbrev LH(ga:Int)(nA:Nat)(RA:List V)(gb:Int)(nB:Nat)(RB:List V)(q:Nat)(NA NB:List V)(xs ys P:Nat)(L:List V)(k:Nat):SL:={sl:=[(2,u6 xs),(3,u6 ys),(4,.ptr 0 0),(5,.ptr 1 0),(10,.im P L),(11,i6 k)],os:=[Di ga nA RA q NA,Di gb nB RB q NB]}
abbrev Pr(ga:Int)(RA:List (List Int))(NA:List Mc)(gb:Int)(RB:List (List Int))(NB:List Mc)(xs ys:Nat)(v:List Int):Prop:=Mi ga RA NA (Bc NA.length xs v) (Bc NA.length ys v)*L4 gb RB≠Mi gb RB NB (Bc NA.length xs v) (Bc NA.length ys v)*L4 ga RA
include hA hB hss
theorem ai(P:Nat)(hP:(P:Int)=Aw (Aq NA) NA.length)(hP6:P<=4096)(k:Nat)(hk:k<P): ∃xA yA xB yB:Nat,(Pr ga RA NA gb RB NB xs ys (A7 (Aq NA) k)↔¬(xA=xB/\yA=yB))/\Ag Pg g0 46 [Bd ga RA NA,u6 xs,u6 ys,.im NA.length (Aa (A7 (Aq NA) k))] (.agg [i6 xA,i6 yA])/\Ag Pg g0 46 [Bd gb RB NB,u6 xs,u6 ys,.im NA.length (Aa (A7 (Aq NA) k))] (.agg [i6 xB,i6 yB]):=by
 have hql:NA.length=NB.length:=by rw[<-Eg (N:=NA),hss,Eg]
 have hcl:=Eg (N:=NA)
 obtain⟨hv,_⟩:=Pv (cs:=Aq NA) (λi hi=>by rw[hcl]at hi;rw[Oi hi];exact(hA.cd i hi).1) (j:=k) (by rw[hcl];omega)
 rw[hcl]at hv
 have hvl:(A7 (Aq NA) k).length=NA.length:=by rw[Li,hcl]
 have a1:=wS hA xs ys _ hvl hv
 have a2:=wS hB xs ys (A7 (Aq NA) k) (by rw[<-hql];exact hvl) (by rw[<-hss,<-hql];exact hv)
 rw[<-hql]at a2
 refine⟨_,_,_,_,?_,a1,a2⟩
 have g1:=L9 hA.g1 hA.n1
 have g2:=L9 hB.g1 hB.n1
 unfold Pr
 exact not_congr (Ys (by unfold L4;omega) (by unfold L4;omega)).symm
theorem jn(hx:xs<2^64)(hy:ys<2^64)(P:Nat)(hP:(P:Int)=Aw (Aq NA) NA.length)(hP6:P<=4096)(k0:Nat)(hk0:k0<P)(hd:Pr ga RA NA gb RB NB xs ys (A7 (Aq NA) k0))(hmin: ∀i,i<k0->¬Pr ga RA NA gb RB NB xs ys (A7 (Aq NA) i)):Ag Pg g0 14 [Bd ga RA NA,Bd gb RB NB,u6 xs,u6 ys] (.tup [.im NA.length (Aa (A7 (Aq NA) k0)),.bool true]):=by
 have hql:NA.length=NB.length:=by rw[<-Eg (N:=NA),hss,Eg]
 have hcl:=Eg (N:=NA)
 have hq:=hA.q1
 have hRA:=B7 RA
 have hNA:=Cl NA
 have hRB:=B7 RB
 have hNB:=Cl NB
 have hCL:=B7 (E6 (Aq NA) P)
 have c1:=V4 ga RA NA o_
 have hc8: ∀i,i<NA.length->1<=(Aq NA).getD i 0/\(Aq NA).getD i 0<=8:=λi hi=>by rw[Oi hi];have:=hA.cd i hi;omega
 have c2:=nG (Aq NA) NA.length hcl o_ hc8 P hP o_ hP6
 have hcf:=Ap (Aq NA)
 have e2:sl (Aq NA)= .im NA.length (Aa (Aq NA)):=by show V.im (Aq NA).length _=_;rw[hcl]
 rw[e2]at c1
 have hlp:Au Pg none 0 (aT 14 111010) (Al g0 42 (LH ga RA.length (Ah RA) gb RB.length (Ah RB) NA.length (Ak NA) (Ak NB) xs ys P (Ah (E6 (Aq NA) P)) 0)) (B3 g0 42 [(True,.ret,{sl:=[(8,.im NA.length (Aa (A7 (Aq NA) k0))),(9,.bool true)]})]):=by
  refine C9 (aT 14 1110100) (λk=>k<=k0) (LH ga RA.length (Ah RA) gb RB.length (Ah RB) NA.length (Ak NA) (Ak NB) xs ys P (Ah (E6 (Aq NA) P))) (λk=>k0-k) (λk hk=>?_) 0 (aG _)
  obtain⟨xA,yA,xB,yB,hiff,a1,a2⟩:=ai hA hB hss xs ys P hP hP6 k o_
  have hvl:(A7 (Aq NA) k).length=NA.length:=by rw[Li,hcl]
  have h1:=Pk (R:=E6 (Aq NA) P) (k:=k) (by rw[XT];omega)
  rw[nI o_]at h1
  have e3:sl (A7 (Aq NA) k)= .im NA.length (Aa (A7 (Aq NA) k)):=by show V.im (A7 _ k).length _=_;rw[hvl]
  rw[e3]at h1
  have hvf:=Ap (A7 (Aq NA) k)
  unfold Bd at*
  rw[<-hql]at a2
  have hsm:V.agg [i6 ga,.im RA.length (Ah RA),.im NA.length (Ak NA)]=V.agg [i6 gb,.im RB.length (Ah RB),.im NA.length (Ak NB)]->(xA=xB/\yA=yB):=λh=>by
   have h':V.agg [i6 ga,.im RA.length (Ah RA),.im NA.length (Ak NA)]=V.agg [i6 gb,.im RB.length (Ah RB),.im NB.length (Ak NB)]:=by rw[<-hql];exact h
   obtain⟨z1,z2,z3⟩:=JE h'
   refine bS λhn=>?_
   have hne:=hiff.2 hn
   unfold Pr Mi L4 at hne
   subst z1 z2 z3
   exact hne rfl
  by_cases hkk:k=k0
  .subst hkk
   have hne:=hiff.1 hd
   clear hiff hd hmin hA hB hss c1 c2 hc8 hP
   generalize Aa (A7 (Aq NA) k)=Cv,Ah (E6 (Aq NA) P)=CL,Ah RA=RRA,Ak NA=NNA,Ah RB=RRB,Ak NB=NNB at*
   refine .inr ⟨.ret,[],{sl:=[(8,.im NA.length Cv),(9,.bool true)]},[As 18,pl 26,ld 27 (.im NA.length Cv),fn 28 (.agg [i6 xA,i6 yA]),pl 34,ld 35 (.im NA.length Cv),fn 36 (.agg [i6 xB,i6 yB]),As 37,pl 40,ld 41 (.im NA.length Cv)],1000,.inl ⟨trivial,rfl,rfl⟩,?_⟩
   generalize RA.length=nA,RB.length=nB at*
   clear hql hcl e2 e3 hvl
   generalize NA.length=q at*
   exact Cj (let z0:=Ai T.e 0 [Di ga nA RRA q NNA,Di gb nB RRB q NNB];[_,_,_,_,_,_,_,V.fn 46 []=V.fn 46 []->[V.agg [i6 ga,V.im nA RRA,V.im q NNA],u6 ↑xs,u6 ↑ys,(V.im q Cv)]=[V.agg [i6 gb,V.im nB RRB,V.im q NNB],u6 ↑xs,u6 ↑ys,(V.im q Cv)]->z0=z0->2=2->CR.mk (V.agg [i6 ↑xA,i6 ↑yA]) z0 2 []=CR.mk (V.agg [i6 ↑xB,i6 ↑yB]) z0 2 [],_,_,_]) ⟨Bf hk0,Ar hk0,h1,a1,Ar hk0,h1,a2,aq,iD hne,Ar hk0,h1⟩
  .have hno:xA=xB/\yA=yB:=bS λhn=>hmin k o_ (hiff.2 hn)
   obtain⟨rfl,rfl⟩:=hno
   clear hiff hd hmin hA hB hss hsm c1 c2 hc8 hP
   generalize Aa (A7 (Aq NA) k)=Cv,Aa (A7 (Aq NA) k0)=Cv0,Ah (E6 (Aq NA) P)=CL,Ah RA=RRA,Ak NA=NNA,Ah RB=RRB,Ak NB=NNB at*
   refine .inl ⟨k+1,[0,1],[As 18,pl 26,ld 27 (.im NA.length Cv),fn 28 (.agg [i6 xA,i6 yA]),pl 34,ld 35 (.im NA.length Cv),fn 36 (.agg [i6 xA,i6 yA]),no 37,nu 20 ((k+1:Nat):Int)],1000,o_,o_,?_⟩
   generalize RA.length=nA,RB.length=nB at*
   clear hql hcl e2 e3 hvl
   generalize NA.length=q at*
   exact C8 (let z0:=Ai T.e 0 [Di ga nA RRA q NNA,Di gb nB RRB q NNB];let z4:=(↑k:Int);let y0:=(↑P:Int);[decide (z4<y0)=true,An [(0:Int)<=z4,z4<y0],_,_,An [(0:Int)<=z4,z4<y0],_,_,V.fn 46 []=V.fn 46 []->[V.agg [i6 ga,V.im nA RRA,V.im q NNA],u6 ↑xs,u6 ↑ys,(V.im q Cv)]=[V.agg [i6 gb,V.im nB RRB,V.im q NNB],u6 ↑xs,u6 ↑ys,(V.im q Cv)]->z0=z0->2=2->Sm (CR.mk (V.agg [i6 ↑xA,i6 ↑yA]) z0 2 []),(!((↑xA:Int)==(↑xA:Int)&&((↑yA:Int)==(↑yA:Int)&&true)))=false,_]) ⟨aq,a_,h1,a1,a_,h1,a2,aq,aq,Dw k o_⟩
 have hvf:=Ap (A7 (Aq NA) k0)
 clear hd hmin hA hB hss hc8 hP
 unfold Bd at*
 rw[<-hql]
 generalize Aa (A7 (Aq NA) k0)=Cv,Ah (E6 (Aq NA) P)=CL,Aa (Aq NA)=C,Ah RA=RRA,Ak NA=NNA,Ah RB=RRB,Ak NB=NNB,RA.length=nA,RB.length=nB at*
 clear hql hcl e2
 generalize NA.length=q at*
 refine Ch {sl:=[(8,.im q Cv),(9,.bool true)]} [fn 13 (.im q C),fn 14 (.im P CL),(0,.loop [0,1] (LH ga nA RRA gb nB RRB q NNA NNB xs ys P CL 0) [(True,.ret,{sl:=[(8,.im q Cv),(9,.bool true)]})])] ?_
 exact m_ (p:=An [Sm (V.tup [V.im q Cv,V.bool true]),_,_,An [An [Sm (↑xs:Int),Sm (↑ys:Int),Zz,Zz,An [P=P,CL=CL],(↑(0:Nat):Int)=(0:Int),Tt],An [Sm [i6 ga,V.im nA RRA,V.im q NNA],TT 3],An [Sm [i6 gb,V.im nB RRB,V.im q NNB],TT 3],Tt],_,(True->An [An [An [q=q,Cv=Cv],Sm true,Tt],Tt]),Tt]) ⟨aq,c1,c2,a_,hlp,a_⟩
theorem ju(hx:xs<2^64)(hy:ys<2^64)(P:Nat)(hP:(P:Int)=Aw (Aq NA) NA.length)(hP1:1<=P)(hP6:P<=4096)(hmin: ∀i,i<P->¬Pr ga RA NA gb RB NB xs ys (A7 (Aq NA) i)):Ag Pg g0 14 [Bd ga RA NA,Bd gb RB NB,u6 xs,u6 ys] (.tup [.nils,.bool false]):=by
 have hql:NA.length=NB.length:=by rw[<-Eg (N:=NA),hss,Eg]
 have hcl:=Eg (N:=NA)
 have hq:=hA.q1
 have hRA:=B7 RA
 have hNA:=Cl NA
 have hRB:=B7 RB
 have hNB:=Cl NB
 have hCL:=B7 (E6 (Aq NA) P)
 have c1:=V4 ga RA NA o_
 have hc8: ∀i,i<NA.length->1<=(Aq NA).getD i 0/\(Aq NA).getD i 0<=8:=λi hi=>by rw[Oi hi];have:=hA.cd i hi;omega
 have c2:=nG (Aq NA) NA.length hcl o_ hc8 P hP o_ hP6
 have hcf:=Ap (Aq NA)
 have e2:sl (Aq NA)= .im NA.length (Aa (Aq NA)):=by show V.im (Aq NA).length _=_;rw[hcl]
 rw[e2]at c1
 have hlp:Au Pg none 0 (aT 14 111010) (Al g0 42 (LH ga RA.length (Ah RA) gb RB.length (Ah RB) NA.length (Ak NA) (Ak NB) xs ys P (Ah (E6 (Aq NA) P)) 0)) (B3 g0 42 [(True,.exit 0,{sl:=[]})]):=by
  refine C9 (aT 14 1110100) (λk=>k<=P) (LH ga RA.length (Ah RA) gb RB.length (Ah RB) NA.length (Ak NA) (Ak NB) xs ys P (Ah (E6 (Aq NA) P))) (λk=>P-k) (λk hk=>?_) 0 (aG _)
  by_cases hlt:k<P
  .obtain⟨xA,yA,xB,yB,hiff,a1,a2⟩:=ai hA hB hss xs ys P hP hP6 k hlt
   have hvl:(A7 (Aq NA) k).length=NA.length:=by rw[Li,hcl]
   have h1:=Pk (R:=E6 (Aq NA) P) (k:=k) (by rw[XT];omega)
   rw[nI o_]at h1
   have e3:sl (A7 (Aq NA) k)= .im NA.length (Aa (A7 (Aq NA) k)):=by show V.im (A7 _ k).length _=_;rw[hvl]
   rw[e3]at h1
   have hvf:=Ap (A7 (Aq NA) k)
   unfold Bd at*
   rw[<-hql]at a2
   have hno:xA=xB/\yA=yB:=bS λhn=>hmin k o_ (hiff.2 hn)
   obtain⟨rfl,rfl⟩:=hno
   clear hiff hmin hA hB hss c1 c2 hc8 hP
   generalize Aa (A7 (Aq NA) k)=Cv,Ah (E6 (Aq NA) P)=CL,Ah RA=RRA,Ak NA=NNA,Ah RB=RRB,Ak NB=NNB at*
   refine .inl ⟨k+1,[0,1],[As 18,pl 26,ld 27 (.im NA.length Cv),fn 28 (.agg [i6 xA,i6 yA]),pl 34,ld 35 (.im NA.length Cv),fn 36 (.agg [i6 xA,i6 yA]),no 37,nu 20 ((k+1:Nat):Int)],1000,o_,o_,?_⟩
   generalize RA.length=nA,RB.length=nB at*
   clear hql hcl e2 e3 hvl
   generalize NA.length=q at*
   exact C8 (let z0:=Ai T.e 0 [Di ga nA RRA q NNA,Di gb nB RRB q NNB];[_,_,_,_,_,_,_,V.fn 46 []=V.fn 46 []->[V.agg [i6 ga,V.im nA RRA,V.im q NNA],u6 ↑xs,u6 ↑ys,(V.im q Cv)]=[V.agg [i6 gb,V.im nB RRB,V.im q NNB],u6 ↑xs,u6 ↑ys,(V.im q Cv)]->z0=z0->2=2->Sm (CR.mk (V.agg [i6 ↑xA,i6 ↑yA]) z0 2 []),(!((↑xA:Int)==(↑xA:Int)&&((↑yA:Int)==(↑yA:Int)&&true)))=false,_]) ⟨Bf hlt,Ar hlt,h1,a1,Ar hlt,h1,a2,aq,aq,Dw k o_⟩
  .obtain rfl:k=P:=o_
   clear hmin hA hB hss c1 c2 hc8 hP
   unfold Bd at*
   refine .inr ⟨.exit 0,[],{sl:=[]},[no 18],1000,.inl ⟨trivial,rfl,rfl⟩,?_⟩
   generalize Ah (E6 (Aq NA) k)=CL,Ah RA=RRA,Ak NA=NNA,Ah RB=RRB,Ak NB=NNB at*
   exact Cj [_] (Cq hlt)
 clear hmin hA hB hss hc8 hP
 unfold Bd at*
 rw[<-hql]
 generalize Ah (E6 (Aq NA) P)=CL,Aa (Aq NA)=C,Ah RA=RRA,Ak NA=NNA,Ah RB=RRB,Ak NB=NNB,RA.length=nA,RB.length=nB at*
 clear hql hcl e2
 generalize NA.length=q at*
 refine Ch {sl:=[(8,.nils),(9,.bool false)]} [fn 13 (.im q C),fn 14 (.im P CL),(0,.loop [0,1] (LH ga nA RRA gb nB RRB q NNA NNB xs ys P CL 0) [(True,.exit 0,{sl:=[]})])] ?_
 exact m_ (p:=An [Sm (V.tup [V.nils,V.bool false]),_,_,An [An [Sm (↑xs:Int),Sm (↑ys:Int),Zz,Zz,An [P=P,CL=CL],(↑(0:Nat):Int)=(0:Int),Tt],An [Sm [i6 ga,V.im nA RRA,V.im q NNA],TT 3],An [Sm [i6 gb,V.im nB RRB,V.im q NNB],TT 3],Tt],_,(True->An [An [Tt,Sm false,Tt],Tt]),Tt]) ⟨aq,c1,c2,a_,hlp,a_⟩
end
theorem TF{c A B x y:Int}(hx:0<=x/\x<c)(hy:0<=y/\y<c):(A*c+x=B*c+y->A=B/\x=y)/\(A<B->A*c+x<B*c+y):=by
 have key: ∀{A B x y:Int},0<=x->x<c->0<=y->A<B->A*c+x<B*c+y:=λ{A B x y} h1 h2 h3 h=>by
  have:=bL (show A+1<=B by omega) (show 0<=c by omega)
  grind
 refine⟨λh=>?_,key hx.1 hx.2 hy.1⟩
 rcases Int.lt_trichotomy A B with hl|hl|hl
 .grind
 .simp_all
 .have:=key hy.1 hy.2 hx.1 hl;omega
theorem vZ: ∀{k:Nat},Co cs a k->Co cs b k->Bk cs a k=Bk cs b k->∀i,i<k->a.getD i 0=b.getD i 0
 |0,_,_,_,i,hi=>absurd hi (aJ _)
 |k+1,ha,hb,h,i,hi=>by
  unfold Bk at h
  obtain⟨h1,h2⟩:=(TF (ha k o_) (hb k o_)).1 h
  by_cases hik:i=k
  .simp_all
  .exact vZ (λi hi=>ha i o_) (λi hi=>hb i o_) h1 i o_
theorem nH{v:List Int}(hc: ∀i,i<cs.length->1<=cs.getD i 0)(hl:v.length=cs.length)(hv:Co cs v cs.length): ∃j:Nat,(j:Int)<Aw cs cs.length/\Bk cs v cs.length=j/\A7 cs j=v:=by
 have hb:=mR hv
 obtain⟨j,hj⟩: ∃j:Nat,Bk cs v cs.length=j:=⟨(Bk cs v cs.length).toNat,o_⟩
 obtain⟨h1,h2⟩:=Pv hc (j:=j) o_
 exact⟨j,o_,hj,AS (Li cs j) hl (vZ h1 hv o_)⟩
abbrev G8(n s:Nat)(v:List Int):List Int:=Cz n s v (λ_=>0)
section
variable {cs:List Int} {n:Nat} (hn:cs.length=n) (hc: ∀i,i<n->1<=cs.getD i 0/\cs.getD i 0<=4)
include hn hc
theorem wU{v:List Int}: ∀k,k<=n->Du cs s v k=Bk (Ax cs s) (G8 n s v) k
 |0,_=>rfl
 |k+1,h=>by
  unfold Du Bk
  rw[wU k o_,Vz o_,Mo o_]
  grind[Ci]
theorem Yj{v:List Int}(hv:Co cs v n):Co (Ax cs s) (G8 n s v) n:=λi hi=>by
 rw[Vz o_,Mo hi]
 unfold Ci
 try dsimp only
 have:=hv i hi
 split<;>omega
theorem S0(hu:Co (Ax cs s) u n)(hi:i<n)(hb: ¬s.testBit i=true):u.getD i 0=0:=by
 have:=hu i hi
 grind[Vz]
theorem RN(hu:Co (Ax cs s) u n)(hi:i<n):0<=u.getD i 0/\u.getD i 0<cs.getD i 0:=by
 have h1:=hu i hi
 grind[Vz]
theorem Ym: ∀i,i<(Ax cs s).length->1<=(Ax cs s).getD i 0:=λi hi=>by
 grind[Mb,Vz]
theorem SO(hj:(j:Int)<Aw (Ax cs s) n):Co (Ax cs s) (A7 (Ax cs s) j) n/\(A7 (Ax cs s) j).length=n/\Bk (Ax cs s) (A7 (Ax cs s) j) n=j:=by
 grind[Ax,Pv,Li]
theorem lE{v:List Int}(hv:Co cs v n): ∃j:Nat,(j:Int)<Aw (Ax cs s) n/\Bk (Ax cs s) (G8 n s v) n=j/\A7 (Ax cs s) j=G8 n s v:=by
 have hl:(Ax cs s).length=n:=by rw[Mb,hn]
 obtain⟨j,h1,h2,h3⟩:=nH (Ym hn hc) (v:=G8 n s v) (by rw[hl];exact Gf) (by grind[Yj])
 grind
theorem Yp{v:List Int}(hu:Co (Ax cs s) u n)(hul:u.length=n):Hp v (Bc n s u)=true↔G8 n s v=u:=by
 rw[YN]
 constructor
 .intro h
  refine AS Gf hul λi hi=>?_
  have h1:=h i (by grind[Gf])
  rw[Mo hi]at h1⊢
  unfold Ci at h1⊢
  try dsimp only at h1⊢
  have h2:=RN hn hc hu hi
  grind[S0]
 grind[Gf,Mo,Ci]
theorem tU{m v:List Int}(ha:Co (Ax cs s) a n)(hm:Co cs m n)(hv:Co cs v n)(h: ∀i,i<n->(s.testBit i=true->m.getD i 0=a.getD i 0)/\(¬s.testBit i=true->m.getD i 0<=v.getD i 0)): ∀k,k<=n->(Bk (Ax cs s) a k<=Bk (Ax cs s) (G8 n s v) k->Bk cs m k<=Bk cs v k)/\(Bk (Ax cs s) a k<Bk (Ax cs s) (G8 n s v) k->Bk cs m k<Bk cs v k)
 |0,_=>⟨λ_=>Int.le_refl _,λh=>absurd h (Int.lt_irrefl _)⟩
 | k + 1, hk => by
  obtain⟨i1,i2⟩:=tU ha hm hv h k o_
  have hmk:=hm k o_
  have hvk:=hv k o_
  have hak:=RN hn hc ha (i:=k) o_
  have hle: ∀{A B x y c:Int},A<=B->x<=y->0<=c->A*c+x<=B*c+y:=λh1 h2 h3=>by
   have:=bL h1 h3
   omega
  unfold Bk
  rw[Vz o_,Mo o_]
  unfold Ci
  try dsimp only
  by_cases hb:s.testBit k=true
  .rw[if_pos hb,if_pos hb]
   have hma:=(h k o_).1 hb
   rw[hma]
   generalize Bk (Ax cs s) a k=A,Bk (Ax cs s) (G8 n s v) k=B,Bk cs m k=M,Bk cs v k=W at*
   rcases Int.lt_trichotomy A B with hl|hl|hl
   .grind[TF]
   .have h3:=i1 (Int.le_of_eq hl)
    subst hl
    refine⟨λh4=>hle h3 o_ o_,λh4=>?_⟩
    have h5:=hle (x:=a.getD k 0) (y:=v.getD k 0-1) (c:=cs.getD k 0) h3 o_ o_
    omega
   .have h3:=(TF (A:=B) (B:=A) hvk hak).2 hl
    omega
  .rw[if_neg hb,if_neg hb,S0 hn hc ha o_ hb]
   have hma:=(h k o_).2 hb
   generalize Bk (Ax cs s) a k=A,Bk (Ax cs s) (G8 n s v) k=B,Bk cs m k=M,Bk cs v k=W at*
   exact⟨λh4=>hle (i1 o_) hma o_,λh4=>(TF (A:=M) (B:=W) hmk hvk).2 (i2 o_)⟩
end
theorem Ke: ∀{a b:List Int},a.length=b.length->a=b\/∃j,j<a.length/\(∀i,i<j->a.getD i 0=b.getD i 0)/\a.getD j 0≠b.getD j 0/\Dx a b=decide (a.getD j 0<b.getD j 0)
 |[],[],_=>.inl rfl
 | x :: a, y :: b, h => by
  by_cases hxy:x=y
  .subst hxy
   rcases Ke (a:=a) (b:=b) (by simpa using h)with rfl|⟨j,h1,h2,h3,h4⟩
   .exact .inl rfl
   .refine .inr ⟨j+1,by simpa using h1,λi hi=>?_,h3,?_⟩
    .cases i with
     |zero=>rfl
     |succ i=>simp_all
    grind[Dx]
  .exact .inr ⟨0,by simp,λi hi=>absurd hi (aJ _),hxy,by grind[Dx]⟩
 |[],_:: _,h=>by cases h
 | _:: _,[],h=>by cases h
theorem tT(h: ∀i,i<j->a.getD i 0=b.getD i 0): ∀k,k<=j->Bk cs a k=Bk cs b k
 |0,_=>rfl
 |k+1,hk=>by
  unfold Bk
  rw[tT h k o_,h k o_]
theorem Ts(ha:Co cs a n)(hb:Co cs b n)(hj:j<n)(h: ∀i,i<j->a.getD i 0=b.getD i 0)(hlt:a.getD j 0<b.getD j 0): ∀k,j<k->k<=n->Bk cs a k<Bk cs b k
 |0,h1,_=>absurd h1 (aJ _)
 | k + 1, h1, h2 => by
  by_cases hjk:j=k
  .grind[Bk,tT]
  .have ih:=Ts ha hb hj h hlt k o_ o_
   unfold Bk
   exact(TF (ha k o_) (hb k o_)).2 ih
theorem Z6(ha:Co cs a n)(hb:Co cs b n)(hal:a.length=n)(hbl:b.length=n)(h:Bk cs a n<Bk cs b n):Dx a b=true:=by
 rcases Ke (a:=a) (b:=b) o_ with rfl|⟨j,h1,h2,h3,h4⟩
 .omega
 .rw[h4]
  refine decide_eq_true (bS λhn=>?_)
  have:=Ts hb ha o_ (λi hi=>(h2 i hi).symm) (show b.getD j 0<a.getD j 0 by omega) n o_ (aC _)
  omega
theorem nJ: ∀l:List Int,Dx l l=false
 |[]=>rfl
 |x::l=>by unfold Dx;rw[if_pos rfl];exact nJ l
theorem U8: ∀{a b c:List Int},a.length=b.length->b.length=c.length->Dx a b=true->Dx b c=true->Dx a c=true
 |[],_,_,_,_,h,_=>by cases h
 |x::a,[],_,h,_,_,_=>by cases h
 |x::a,y::b,[],_,h,_,_=>by cases h
 | x :: a, y :: b, z :: c, h1, h2, h3, h4 => by
  unfold Dx at h3 h4⊢
  split at h3
  .split at h4
   .rw[if_pos o_];exact U8 (by simpa using h1) (by simpa using h2) h3 h4
   simp_all
  grind
theorem oN{F:Nat->Option (List Int)}(hF: ∀k l,F k=some l->l.length=q): ∀K l,Jc F K=some l->(∃k,k<K/\F k=some l)/\∀k,k<K->∀m,F k=some m->Dx m l=false
 |0,l,h=>by cases h
 | K + 1, l, h => by
  have ihl:=XS hF K
  unfold Jc Vv at h
  cases hf:F K with
  |none=>
   rw[hf]at h
   obtain⟨⟨k,h1,h2⟩,h3⟩:=oN hF K l h
   grind
  | some a =>
   rw[hf]at h
   dsimp only at h
   have hal:=hF K a hf
   cases hd:Jc F K with
   |none=>
    grind[nJ,oG]
   |some b=>
    rw[hd]at h
    dsimp only at h
    obtain⟨⟨k1,g1,g2⟩,g3⟩:=oN hF K b hd
    grind[nJ,U8]
section
variable {ga:Int} {RA:List (List Int)} {NA:List Mc} (hA:Dz ga RA NA)
include hA
theorem Lc: ∀i,i<NA.length->1<=(Aq NA).getD i 0/\(Aq NA).getD i 0<=4:=λi hi=>by rw[Oi hi];exact hA.cd i hi
theorem Xg{act:List Int}(hs:F3 NA act)(x:Nat):Co (Aq NA) (Cg NA RA act (B2 RA x)) NA.length:=λi hi=>by
 rw[Oi hi,TG hi]
 exact IZ hA.nd2 (MF (λk hk=>(hA.wt k hk).1) x) hs i hi
theorem wL{act:List Int}(hs:F3 NA act)(h:(i:Int)<Aw (Ax (Aq NA) s) NA.length):(Df RA NA act s).getD i 0=(Mi ga RA NA act (Bc NA.length s (A7 (Ax (Aq NA) s) i)):Nat):=by
 have hcl:=Eg (N:=NA)
 have hil:i<(Df RA NA act s).length:=by rw[EA,hcl];omega
 rw[uK hA.nd2 hs hil]
 have hb:=(DS hA.wt hA.n1 (J0 RA NA act (Bc NA.length s (A7 (Ax (Aq NA) s) i))) (B4 RA RA.length)).1
 have e:(λx=>decide (Hn (Aq NA) s (Ct RA NA act x)=i))=J0 RA NA act (Bc NA.length s (A7 (Ax (Aq NA) s) i)):=by
  funext x
  have hv:=Xg hA hs x
  obtain⟨c1,c2,c3⟩:=SO hcl (Lc hA) h
  obtain⟨j,j1,j2,j3⟩:=lE hcl (Lc hA) (s:=s) hv
  obtain⟨p,p1,p2,p3⟩:=nH (cs:=Aq NA) (v:=Cg NA RA act (B2 RA x)) (λi hi=>by rw[hcl]at hi;exact(Lc hA i hi).1) (by rw[V3,hcl]) (by simp_all)
  have hpl:Ct RA NA act x=p:=by
   unfold Ct
   rw[<-mQ _ (aC _),<-hcl,p2];rfl
  have hpf:Hn (Aq NA) s (Ct RA NA act x)=j:=by
   unfold Hn
   rw[hpl,p3,hcl,wU hcl (Lc hA) _ (aC _),j2];rfl
  rw[hpf]
  unfold J0
  have hm:=Yp hcl (Lc hA) (s:=s) (v:=Cg NA RA act (B2 RA x)) c1 c2
  rw[<-j3]at hm
  by_cases hji:j=i
  .simp_all
  .grind
 grind
theorem AE{v:List Int}(h:u=G8 NA.length s v):Bc NA.length s u=Bc NA.length s v:=by
 subst h
 refine AS Gf Gf λi hi=>?_
 grind[Mo,Ci]
end
section
variable {ga gb:Int} {RA RB:List (List Int)} {NA NB:List Mc} (hA:Dz ga RA NA) (hB:Dz gb RB NB) (hss:Aq NA=Aq NB) (xs ys:Nat)
abbrev VY(ga:Int)(RA:List (List Int))(NA:List Mc)(gb:Int)(RB:List (List Int))(NB:List Mc)(act q:List Int):Prop:=Mi ga RA NA act q*L4 gb RB≠Mi gb RB NB act q*L4 ga RA
include hA hB hss
theorem mY(hu:Co (Aq NA) u NA.length)(h:(i:Int)<Aw (Ax (Aq NA) ys) NA.length):((Df RA NA (Bc NA.length xs u) ys).getD i 0*gb^RB.length≠(Df RB NB (Bc NA.length xs u) ys).getD i 0*ga^RA.length)↔VY ga RA NA gb RB NB (Bc NA.length xs u) (Bc NA.length ys (A7 (Ax (Aq NA) ys) i)):=by
 have hcl:=Eg (N:=NA)
 have hql:NA.length=NB.length:=by rw[<-hcl,hss,Eg]
 have s1:=V0 (JI (xs:=xs) hA.cd hu)
 have s2:F3 NB (Bc NA.length xs u):=by
  rw[hql];exact V0 (JI (xs:=xs) hB.cd (by simp_all))
 have e1:=wL hA s1 h
 have e2:=wL hB (s:=ys) s2 (i:=i) (by simp_all)
 rw[<-hss,<-hql]at e2
 have g1:=L9 hA.g1 hA.n1
 have g2:=L9 hB.g1 hB.n1
 grind
theorem Uv{v:List Int}(hv:Co (Aq NA) v NA.length): ∃k i:Nat,(k:Int)<Aw (Ax (Aq NA) xs) NA.length/\(i:Int)<Aw (Ax (Aq NA) ys) NA.length/\A7 (Ax (Aq NA) xs) k=G8 NA.length xs v/\A7 (Ax (Aq NA) ys) i=G8 NA.length ys v/\Bk (Ax (Aq NA) ys) (G8 NA.length ys v) NA.length=i/\(Pr ga RA NA gb RB NB xs ys v↔VY ga RA NA gb RB NB (Bc NA.length xs (A7 (Ax (Aq NA) xs) k)) (Bc NA.length ys (A7 (Ax (Aq NA) ys) i))):=by
 obtain⟨k,k1,k2,k3⟩:=lE Eg (Lc hA) (s:=xs) hv
 obtain⟨i,i1,i2,i3⟩:=lE Eg (Lc hA) (s:=ys) hv
 exact⟨k,i,k1,i1,k3,i3,i2,by grind[AE]⟩
theorem yG{k:Nat}(hk:(k:Int)<Aw (Ax (Aq NA) xs) NA.length)(h:Hr ga RA NA gb RB NB xs ys k=none)(hi:(i:Int)<Aw (Ax (Aq NA) ys) NA.length): ¬VY ga RA NA gb RB NB (Bc NA.length xs (A7 (Ax (Aq NA) xs) k)) (Bc NA.length ys (A7 (Ax (Aq NA) ys) i)):=by
 have hcl:=Eg (N:=NA)
 obtain⟨c1,c2,c3⟩:=SO hcl (Lc hA) hk
 have hu:Co (Aq NA) (A7 (Ax (Aq NA) xs) k) NA.length:=λi hi=>RN hcl (Lc hA) c1 hi
 unfold Hr at h
 rw[Option.map_eq_none_iff]at h
 have h1:=yE h i (by grind[EA])
 grind[mY]
theorem yF{k:Nat}{l:List Int}(hxy:xs&&& ys=0)(hk:(k:Int)<Aw (Ax (Aq NA) xs) NA.length)(h:Hr ga RA NA gb RB NB xs ys k=some l): ∃i:Nat,(i:Int)<Aw (Ax (Aq NA) ys) NA.length/\l.length=NA.length/\Co (Aq NA) l NA.length/\Bc NA.length xs l=Bc NA.length xs (A7 (Ax (Aq NA) xs) k)/\Pr ga RA NA gb RB NB xs ys l/\(∀j,j<NA.length->(ys.testBit j=true->l.getD j 0=(A7 (Ax (Aq NA) ys) i).getD j 0)/\(xs.testBit j=true->l.getD j 0=(A7 (Ax (Aq NA) xs) k).getD j 0)/\(¬xs.testBit j=true->¬ys.testBit j=true->l.getD j 0=0))/\∀i',i'<i->¬VY ga RA NA gb RB NB (Bc NA.length xs (A7 (Ax (Aq NA) xs) k)) (Bc NA.length ys (A7 (Ax (Aq NA) ys) i')):=by
 have hcl:=Eg (N:=NA)
 obtain⟨c1,c2,c3⟩:=SO hcl (Lc hA) hk
 have hu:Co (Aq NA) (A7 (Ax (Aq NA) xs) k) NA.length:=λi hi=>RN hcl (Lc hA) c1 hi
 unfold Hr at h
 obtain⟨i,h1,rfl⟩:=fQ.1 h
 obtain⟨f1,f2,f3⟩:=oY h1
 rw[EA,hcl]at f1
 have hi:(i:Int)<Aw (Ax (Aq NA) ys) NA.length:=o_
 obtain⟨a1,a2,a3⟩:=SO hcl (Lc hA) hi
 have hbit: ∀j,xs.testBit j=true->ys.testBit j=true->False:=λj h1 h2=>by
  have:=congrArg (λz=>z.testBit j) hxy
  grind
 have hat: ∀j,j<NA.length->(Cz NA.length xs (A7 (Ax (Aq NA) xs) k) λv=>(A7 (Ax (Aq NA) ys) i).getD v 0).getD j 0=if xs.testBit j=true then(A7 (Ax (Aq NA) xs) k).getD j 0 else(A7 (Ax (Aq NA) ys) i).getD j 0:=λj hj=>by
  rw[Mo hj];rfl
 have hx:Bc NA.length xs (Cz NA.length xs (A7 (Ax (Aq NA) xs) k) λv=>(A7 (Ax (Aq NA) ys) i).getD v 0)=Bc NA.length xs (A7 (Ax (Aq NA) xs) k):=by
  refine AS Gf Gf λj hj=>?_
  rw[Mo hj,Mo hj]
  unfold Ci
  split
  .simp_all
  .rfl
 have hy:Bc NA.length ys (Cz NA.length xs (A7 (Ax (Aq NA) xs) k) λv=>(A7 (Ax (Aq NA) ys) i).getD v 0)=Bc NA.length ys (A7 (Ax (Aq NA) ys) i):=by
  refine AS Gf Gf λj hj=>?_
  rw[Mo hj,Mo hj]
  unfold Ci
  split
  .grind
  .rfl
 refine⟨i,hi,Gf,λj hj=>?_,hx,?_,λj hj=>⟨λhb=>?_,λhb=>?_,λhb hb2=>?_⟩,λi' hi'=>?_⟩
 .rw[hat j hj]
  split
  .exact hu j hj
  .exact RN hcl (Lc hA) a1 hj
 .unfold Pr
  rw[hx,hy]
  grind[mY]
 .grind
 .simp_all
 .rw[hat j hj,if_neg hb,S0 hcl (Lc hA) a1 hj hb2]
 grind[mY]
theorem fc(h:Kv ga RA NA gb RB NB xs ys=none)(i:Nat)(hi:(i:Int)<Aw (Aq NA) NA.length): ¬Pr ga RA NA gb RB NB xs ys (A7 (Aq NA) i):=by
 have hcl:=Eg (N:=NA)
 obtain⟨hv,_⟩:=Pv (cs:=Aq NA) (λj hj=>by rw[hcl]at hj;exact(Lc hA j hj).1) (j:=i) (by simp_all)
 rw[hcl]at hv
 obtain⟨k,j,k1,j1,_,_,_,e⟩:=Uv hA hB hss xs ys hv
 rw[e]
 exact yG hA hB hss xs ys k1 ((oG _).1 h k o_) j1
theorem fb(hxy:xs&&& ys=0){l:List Int}(h:Kv ga RA NA gb RB NB xs ys=some l): ∃k0:Nat,(k0:Int)<Aw (Aq NA) NA.length/\l=A7 (Aq NA) k0/\Pr ga RA NA gb RB NB xs ys (A7 (Aq NA) k0)/\∀i,i<k0->¬Pr ga RA NA gb RB NB xs ys (A7 (Aq NA) i):=by
 have hcl:=Eg (N:=NA)
 have hc1: ∀j,j<(Aq NA).length->1<=(Aq NA).getD j 0:=λj hj=>by rw[hcl]at hj;exact(Lc hA j hj).1
 obtain⟨⟨k,hk,hf⟩,hmin⟩:=oN (q:=NA.length) wH _ _ h
 obtain⟨i,i1,hll,hlv,hlx,hld,_,_⟩:=yF hA hB hss xs ys hxy (k:=k) o_ hf
 obtain⟨k0,p1,p2,p3⟩:=nH hc1 (v:=l) o_ (by simp_all)
 rw[hcl]at p1 p2
 refine⟨k0,p1,p3.symm,by simp_all,λj hj hd=>?_⟩
 obtain⟨hv,hvi⟩:=Pv hc1 (j:=j) (by rw[hcl];omega)
 rw[hcl]at hv hvi
 generalize A7 (Aq NA) j=v at*
 obtain⟨kv,iv,q1,q2,q3,q4,q5,q6⟩:=Uv hA hB hss xs ys hv
 have hdq:=q6.1 hd
 cases hfk:Hr ga RA NA gb RB NB xs ys kv with
 |none=>grind[yG]
 | some m =>
  obtain⟨im,m1,hml,hmv,_,_,hmb,hmm⟩:=yF hA hB hss xs ys hxy q1 hfk
  have hle:im<=iv:=Nat.le_of_not_lt λhlt=>hmm iv hlt hdq
  obtain⟨a1,a2,a3⟩:=SO hcl (Lc hA) m1
  have hlow:=(tU hcl (Lc hA) (s:=ys) (a:=A7 (Ax (Aq NA) ys) im) (m:=m) (v:=v) a1 hmv hv (λt ht=>⟨(hmb t ht).1,λhb=>by
   by_cases hx:xs.testBit t=true
   .grind[Mo,Ci]
   .rw[(hmb t ht).2.2 hx hb];exact(hv t ht).1⟩) NA.length (aC _)).1 o_
  grind[Z6]
end
-- fold:V.agg [V.int IntKind.i64 A.1, V.im A.2 A.3, V.im A.4 A.5] => A.v
-- fold:V.agg [i6 A.1, V.im A.2 A.3, V.im A.4 A.5] => A.v
-- fold:V.agg [V.int IntKind.i64 B.1, V.im B.2 B.3, V.im B.4 B.5] => B.v
-- fold:V.agg [i6 B.1, V.im B.2 B.3, V.im B.4 B.5] => B.v
theorem UI:Ag Pg g0 11 [.im 0 [],.im 0 []] (.bool true):=TS [] [] d_
structure M3 where
 g:Int
 n:Nat
 R:List V
 q:Nat
 N:List V
structure M4 where
 a:M3
 b:M3
 c:M3
 d:M3
abbrev M3.v(m:M3):V:=.agg [i6 m.g,.im m.n m.R,.im m.q m.N]
abbrev M4.l(C:M4):List V:=[i6 C.a.g,.im C.a.n C.a.R,.im C.a.q C.a.N,i6 C.b.g,.im C.b.n C.b.R,.im C.b.q C.b.N,i6 C.c.g,.im C.c.n C.c.R,.im C.c.q C.c.N,i6 C.d.g,.im C.d.n C.d.R,.im C.d.q C.d.N]
abbrev Jv(g:Int)(R:List (List Int))(N:List Mc):M3:=⟨g,R.length,Ah R,N.length,Ak N⟩
section
variable {C:M4} {xs ys k j:Nat} {A B:M3} {p1 p2 p3 p4 i sx sy:Nat}
abbrev Y3(C:M4):O:=.row 37 none C.l
abbrev rO(C:M4)(xs ys k:Nat):List (Nat×V):=[(4,u6 xs),(5,u6 ys),(13,.ptr 0 0),(47,.agg C.l),(48,i6 k)]
abbrev rN(C:M4)(xs ys k j:Nat):List (Nat×V):=rO C xs ys k++[(15,.ptr 1 0),(51,.sl 0 0 2 (some 2)),(52,i6 2),(53,i6 j)]
abbrev GW(C:M4)(xs ys k j:Nat)(A B:M3)(no:Int)(p1 p2 p3 p4:Nat)(i:Nat):SL:={sl:=rN C xs ys k j++[(17,.ptr 2 0),(18,i6 no),(102,.agg [u6 p1,u6 p2,u6 p3,u6 p4]),(103,i6 i)],os:=[Y3 C,Di A.g A.n A.R A.q A.N,Di B.g B.n B.R B.q B.N]}
abbrev GQ(C:M4)(xs ys k j:Nat)(A B:M3)(no:Int)(p1 p2 p3 p4 i:Nat):Prop:=Au Pg none 0 (aT 3 11110100110011001100111111100) (Al g0 164 (GW C xs ys k j A B no p1 p2 p3 p4 i)) (Ng 164 (GW C xs ys k j A B no p1 p2 p3 p4 (i+1)))
variable (hi:i<2) (ht:Jw (B1 Pg) 45 (.agg [u6 p1,u6 p2,u6 p3,u6 p4]) (i:Nat)=some (.agg [u6 sx,u6 sy]))
include hi ht
theorem GV(hd:Ag Pg g0 15 [A.v,B.v,u6 sx,u6 sy] (.tup [.nils,i6 330])):GQ C xs ys k j A B 330 p1 p2 p3 p4 i:=by
 have hs:=UI
 refine Fe (n:=1000) (r:=[0,1,2]) (hs:=[As 104,va 105 (.agg [u6 sx,u6 sy]),fn 149 (.tup [.nils,i6 330]),fn 158 (.bool true),nu 161 ((i+1:Nat):Int)]) ?_
 exact C8 [decide ((↑i:Int)<(2:Int))=true,_,_,_,_] ⟨aq,ht,hd,hs,Dw i o_⟩
theorem Y1(ca:Ag Pg g0 12 [A.v] (.im z1 A1))(cb:Ag Pg g0 12 [B.v] (.im z2 A2))(hcs:[A.v]=[B.v]->V.im z1 A1=V.im z2 A2)(hsm:Ag Pg g0 11 [.im z1 A1,.im z2 A2] (.bool false))(hd:Ag Pg g0 15 [A.v,B.v,u6 sx,u6 sy] (.tup [.nils,i6 2])):GQ C xs ys k j A B 0 p1 p2 p3 p4 i:=by
 have hs:=UI
 refine Fe (n:=1000) (r:=[0,1,2]) (hs:=[As 104,va 105 (.agg [u6 sx,u6 sy]),fn 111 (.im z1 A1),fn 113 (.im z2 A2),fn 114 (.bool false),fn 149 (.tup [.nils,i6 2]),fn 158 (.bool true),nu 161 ((i+1:Nat):Int)]) ?_
 exact C8 (let z0:=pt (pt (Ai T.e 0 [Y3 C,Di A.1 A.2 A.3 A.4 A.5,Di B.1 B.2 B.3 B.4 B.5]) 3 (O.row 44 none [u6 0,u6 0])) 3 (O.row 44 none [u6 ↑sx,u6 ↑sy]);[decide ((↑i:Int)<(2:Int))=true,_,_,_,V.fn 12 []=V.fn 12 []->[A.v]=[B.v]->z0=z0->3+1=4->CR.mk (V.im z1 A1) z0 4 []=CR.mk (V.im z2 A2) z0 4 [],_,_,_,_]) ⟨aq,ht,ca,cb,aq,hsm,hd,hs,Dw i o_⟩
theorem Y0(ca:Ag Pg g0 12 [A.v] (.im z1 A1))(cb:Ag Pg g0 12 [B.v] (.im z2 A2))(hcs:[A.v]=[B.v]->V.im z1 A1=V.im z2 A2)(hsm:Ag Pg g0 11 [.im z1 A1,.im z2 A2] (.bool true))(hst:Ag Pg g0 13 [i6 A.q,u6 sx,u6 sy] (.bool false))(hd:Ag Pg g0 15 [A.v,B.v,u6 sx,u6 sy] (.tup [.nils,i6 2])):GQ C xs ys k j A B 0 p1 p2 p3 p4 i:=by
 have hs:=UI
 refine Fe (n:=1000) (r:=[0,1,2]) (hs:=[As 104,va 105 (.agg [u6 sx,u6 sy]),fn 111 (.im z1 A1),fn 113 (.im z2 A2),fn 114 (.bool true),fn 124 (.bool false),fn 149 (.tup [.nils,i6 2]),fn 158 (.bool true),nu 161 ((i+1:Nat):Int)]) ?_
 exact C8 (let z0:=pt (pt (Ai T.e 0 [Y3 C,Di A.1 A.2 A.3 A.4 A.5,Di B.1 B.2 B.3 B.4 B.5]) 3 (O.row 44 none [u6 0,u6 0])) 3 (O.row 44 none [u6 ↑sx,u6 ↑sy]);[decide ((↑i:Int)<(2:Int))=true,_,_,_,V.fn 12 []=V.fn 12 []->[A.v]=[B.v]->z0=z0->3+1=4->CR.mk (V.im z1 A1) z0 4 []=CR.mk (V.im z2 A2) z0 4 [],_,_,_,_,_]) ⟨aq,ht,ca,cb,aq,hsm,hst,hd,hs,Dw i o_⟩
theorem Y2(ca:Ag Pg g0 12 [A.v] (.im z1 A1))(cb:Ag Pg g0 12 [B.v] (.im z2 A2))(hcs:[A.v]=[B.v]->V.im z1 A1=V.im z2 A2)(hsm:Ag Pg g0 11 [.im z1 A1,.im z2 A2] (.bool true))(hst:Ag Pg g0 13 [i6 A.q,u6 sx,u6 sy] (.bool true))(hr:Ag Pg g0 14 [A.v,B.v,u6 sx,u6 sy] (.tup [.nils,.bool false]))(hd:Ag Pg g0 15 [A.v,B.v,u6 sx,u6 sy] (.tup [.nils,i6 4])):GQ C xs ys k j A B 0 p1 p2 p3 p4 i:=by
 have hs:=UI
 refine Fe (n:=1000) (r:=[0,1,2]) (hs:=[As 104,va 105 (.agg [u6 sx,u6 sy]),fn 111 (.im z1 A1),fn 113 (.im z2 A2),fn 114 (.bool true),fn 124 (.bool true),fn 137 (.tup [.nils,.bool false]),fn 149 (.tup [.nils,i6 4]),fn 158 (.bool true),nu 161 ((i+1:Nat):Int)]) ?_
 exact C8 (let z0:=pt (pt (Ai T.e 0 [Y3 C,Di A.1 A.2 A.3 A.4 A.5,Di B.1 B.2 B.3 B.4 B.5]) 3 (O.row 44 none [u6 0,u6 0])) 3 (O.row 44 none [u6 ↑sx,u6 ↑sy]);[decide ((↑i:Int)<(2:Int))=true,_,_,_,V.fn 12 []=V.fn 12 []->[A.v]=[B.v]->z0=z0->3+1=4->CR.mk (V.im z1 A1) z0 4 []=CR.mk (V.im z2 A2) z0 4 [],_,_,_,_,_,_]) ⟨aq,ht,ca,cb,aq,hsm,hst,hr,hd,hs,Dw i o_⟩
theorem Yz(ca:Ag Pg g0 12 [A.v] (.im z1 A1))(cb:Ag Pg g0 12 [B.v] (.im z2 A2))(hcs:[A.v]=[B.v]->V.im z1 A1=V.im z2 A2)(hsm:Ag Pg g0 11 [.im z1 A1,.im z2 A2] (.bool true))(hst:Ag Pg g0 13 [i6 A.q,u6 sx,u6 sy] (.bool true)){z3:Nat}{A3:List V}(hl:Ag Pg g0 11 [.im z3 A3,.im z3 A3] (.bool true))(hr:Ag Pg g0 14 [A.v,B.v,u6 sx,u6 sy] (.tup [.im z3 A3,.bool true]))(hd:Ag Pg g0 15 [A.v,B.v,u6 sx,u6 sy] (.tup [.im z3 A3,i6 0])):GQ C xs ys k j A B 0 p1 p2 p3 p4 i:=by
 have hs:=UI
 refine Fe (n:=1000) (r:=[0,1,2]) (hs:=[As 104,va 105 (.agg [u6 sx,u6 sy]),fn 111 (.im z1 A1),fn 113 (.im z2 A2),fn 114 (.bool true),fn 124 (.bool true),fn 137 (.tup [.im z3 A3,.bool true]),fn 149 (.tup [.im z3 A3,i6 0]),fn 158 (.bool true),nu 161 ((i+1:Nat):Int)]) ?_
 exact C8 (let z0:=pt (pt (Ai T.e 0 [Y3 C,Di A.1 A.2 A.3 A.4 A.5,Di B.1 B.2 B.3 B.4 B.5]) 3 (O.row 44 none [u6 0,u6 0])) 3 (O.row 44 none [u6 ↑sx,u6 ↑sy]);[decide ((↑i:Int)<(2:Int))=true,_,_,_,V.fn 12 []=V.fn 12 []->[A.v]=[B.v]->z0=z0->3+1=4->CR.mk (V.im z1 A1) z0 4 []=CR.mk (V.im z2 A2) z0 4 [],_,_,_,_,_,_]) ⟨aq,ht,ca,cb,aq,hsm,hst,hr,hd,hl,Dw i o_⟩
end
end Go.Proofs.YtifdkhfldbkkpaaGreat.Am
