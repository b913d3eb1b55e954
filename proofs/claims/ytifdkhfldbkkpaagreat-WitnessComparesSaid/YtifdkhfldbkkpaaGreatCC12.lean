/- Texts behind the claim, part 12: the abstract machine, and what the functions answer. No condition. -/
import Derived.Test.YtifdkhfldbkkpaaGreatCC11
set_option linter.unusedVariables false
set_option maxHeartbeats 4000000
set_option maxRecDepth 100000
set_option linter.unusedSimpArgs false
set_option linter.unusedSectionVars false
namespace Go.Proofs.YtifdkhfldbkkpaaGreat.Am
open Go.RowKit
variable{g:Int}{R:List (List Int)}{cs vs:List Int}{N:List Mc}{L p:List Nat}{d m n t x:Nat}
theorem Qx{G:Ca}{k:Nat}(hk:k<=64):B6 G .shr t (u6 (x:Int)) (u6 (k:Int))=some (u6 ((x/2^k:Nat):Int)):=by
 grind[B6,Lx,IntKind.bits]
theorem UR{k:Nat}(h:k<64):wr .u64 (k:Int)=(k:Int):=by grind[Fh,KY]
theorem TE(s v:Nat)(hv:v<64):Ag Pg g0 63 [u6 s,i6 v] (.bool (s.testBit v)):=by
 have w1:=UR hv
 have s1:=Qx (G:=B1 Pg) (t:=29) (x:=s) (k:=v) o_
 have s2:=SU (G:=B1 Pg) (t:=29) (x:=s/2^v)
 cases hb:s.testBit v with
 |true=>
  have hbe:s/2^v%2=1:=by rw[U5,hb];rfl
  rw[hbe]at s2
  generalize s/2^v=x1 at*
  refine Ch {sl:=[(4,.bool true)]} [nu 7 v,va 8 (u6 x1),va 9 (u6 (1:Nat)),As 10] ?_
  clear hb hbe
  exact Hu [Sm (V.bool true),_,_,_,((↑(1:Nat):Int)==(1:Int))=true] ⟨aq,w1,s1,s2,a_⟩
 |false=>
  have hbe:s/2^v%2=0:=by rw[U5,hb];rfl
  rw[hbe]at s2
  generalize s/2^v=x1 at*
  refine Ch {sl:=[(4,.bool false)]} [nu 7 v,va 8 (u6 x1),va 9 (u6 (0:Nat)),no 10] ?_
  clear hb hbe
  exact Hu [Sm (V.bool false),_,_,_,((↑(0:Nat):Int)==(1:Int))=false] ⟨aq,w1,s1,s2,a_⟩
section
variable (p:List Nat) (hl:p.length<=64) (h64:Gk p)
include hl h64
theorem WH{s:Nat}(hs:s<2^64): ∀k,Fb (λk=>p.getD k 0) s k<2^64
 |0=>hs
 |k+1=>by
  unfold Fb
  split
  .exact dL (n:=64) (WH hs k) (h64.get k)
  .exact WH hs k
theorem Tp{s:Nat}(hs:s<2^64): ∀m,Ec (λk=>p.getD k 0) n s m<2^64
 |0=>hs
 |m+1=>WH p hl h64 (Tp hs m) n
abbrev EZ(p:List Nat)(n s m k:Nat):SL:={sl:=[(0,.im n (ut p)),(1,u6 (Fb (λk=>p.getD k 0) s k:Nat)),(5,i6 m),(6,i6 k)]}
theorem NS(n s m:Nat)(hn:p.length=n)(hs:s<2^64):
  Au Pg none 0 (aT 75 11010010010) (Al g0 29 (EZ p n s m 0)) (B3 g0 29 [(True,.exit 2,{sl:=[(0,.im n (ut p)),(1,u6 (Fb (λk=>p.getD k 0) s n:Nat)),(5,i6 m)]})]):=by
 have hp:=AQ p
 refine C9 (aT 75 110100100100) (λk=>k<=n) (EZ p n s m) (λk=>n-k) (λk hk=>?_) 0 (aG _)
 by_cases hlt:k<n
 .have s0:=mT (l:=p) (k:=k) o_
  have h1:=TE (Fb (λk=>p.getD k 0) s k) k o_
  have h2:=WH p hl h64 hs k
  have h3:=(Kn (G:=B1 Pg) (t:=29) h2 (h64.get k)).1
  have e:Fb (λk=>p.getD k 0) s (k+1)=if(Fb (λk=>p.getD k 0) s k).testBit k=true then Fb (λk=>p.getD k 0) s k|||p.getD k 0 else Fb (λk=>p.getD k 0) s k:=rfl
  cases hb:(Fb (λk=>p.getD k 0) s k).testBit k with
  |true=>
   rw[hb,if_pos rfl]at e
   rw[hb]at h1
   rw[<-e]at h3
   clear e hb h2
   refine .inl ⟨k+1,[],[As 16,fn 21 (.bool true),pl 25,ld 26 (u6 (p.getD k 0:Nat)),va 27 (u6 (Fb (λk=>p.getD k 0) s (k+1):Nat)),nu 18 ((k+1:Nat):Int)],1000,o_,o_,?_⟩
   unfold EZ
   generalize Fb (λk=>p.getD k 0) s (k+1)=y2,Fb (λk=>p.getD k 0) s k=y1,p.getD k 0=y at*
   exact C8 [_,_,_,_,_,wr .i64 ((↑k:Int)+(1:Int))=(↑(k+1):Int)] ⟨Bf hlt,h1,Ar hlt,s0,h3,aq⟩
  |false=>
   rw[hb,if_neg s_]at e
   rw[hb]at h1
   refine .inl ⟨k+1,[],[As 16,fn 21 (.bool false),nu 18 ((k+1:Nat):Int)],1000,o_,o_,?_⟩
   unfold EZ
   rw[e]
   clear e hb h2 h3
   generalize Fb (λk=>p.getD k 0) s k=y1 at*
   exact C8 [_,_,wr .i64 ((↑k:Int)+(1:Int))=(↑(k+1):Int)] ⟨Bf hlt,h1,aq⟩
 .obtain rfl:k=n:=o_
  refine .inr ⟨.exit 2,[],{sl:=[(0,.im k (ut p)),(1,u6 (Fb (λk=>p.getD k 0) s k:Nat)),(5,i6 m)]},[no 16],1000,.inl ⟨trivial,rfl,rfl⟩,?_⟩
  unfold EZ
  generalize Fb (λk=>p.getD k 0) s k=y1 at*
  exact Cj [_] (Cq hlt)
abbrev UU(p:List Nat)(n s m:Nat):SL:={sl:=[(0,.im n (ut p)),(1,u6 (Ec (λk=>p.getD k 0) n s m:Nat)),(5,i6 m)]}
theorem EY(n s:Nat)(hn:p.length=n)(hs:s<2^64):
  Au Pg none 0 (aT 75 11010) (Al g0 29 (UU p n s 0)) (B3 g0 29 [(True,.exit 0,{sl:=[(1,u6 (Ec (λk=>p.getD k 0) n s n:Nat))]})]):=by
 have hp:=AQ p
 refine C9 (aT 75 110100) (λk=>k<=n) (UU p n s) (λk=>n-k) (λm hm=>?_) 0 (aG _)
 by_cases hlt:m<n
 .have h2:=Tp p hl h64 (n:=n) hs m
  have hin:=NS p hl h64 n (Ec (λk=>p.getD k 0) n s m) m hn h2
  refine .inl ⟨m+1,[],[As 10,(0,.loop [] (EZ p n (Ec (λk=>p.getD k 0) n s m) m 0) [(True,.exit 2,{sl:=[(0,.im n (ut p)),(1,u6 (Ec (λk=>p.getD k 0) n s (m+1):Nat)),(5,i6 m)]})]),nu 12 ((m+1:Nat):Int)],1000,o_,o_,?_⟩
  have e:Ec (λk=>p.getD k 0) n s (m+1)=Fb (λk=>p.getD k 0) (Ec (λk=>p.getD k 0) n s m) n:=rfl
  rw[<-e]at hin
  unfold UU EZ at*
  rw[show Fb (λk=>p.getD k 0) (Ec (λk=>p.getD k 0) n s m) 0=Ec (λk=>p.getD k 0) n s m from rfl]at*
  clear e h2
  generalize Ec (λk=>p.getD k 0) n s (m+1)=y2,Ec (λk=>p.getD k 0) n s m=y1 at*
  exact m_ (p:=An [_,An [An [An [n=n,Sm (ut p)],Sm (↑y1:Int),(↑m:Int)=(↑m:Int),(↑(0:Nat):Int)=(0:Int),Tt],Tt],_,(True->An [_,An [An [n=n,Sm (ut p)],Sm (↑y2:Int),(↑(m+1):Int)=(↑(m+1):Int),Tt],Tt]),Tt]) ⟨Bf hlt,a_,hin,(λ_=>⟨Dw m o_,a_⟩),aq⟩
 .obtain rfl:m=n:=o_
  refine .inr ⟨.exit 0,[],{sl:=[(1,u6 (Ec (λk=>p.getD k 0) m s m:Nat))]},[no 10],1000,.inl ⟨trivial,rfl,rfl⟩,?_⟩
  unfold UU
  generalize Ec (λk=>p.getD k 0) m s m=y1 at*
  exact Cj [_] (Cq hlt)
theorem W5(s:Nat)(hs:s<2^64):Ag Pg g0 75 [ul p,u6 s] (u6 (Ec (λk=>p.getD k 0) p.length s p.length:Nat)):=by
 have hp:=AQ p
 have h:=EY p hl h64 p.length s rfl hs
 generalize hn:p.length=n at*
 refine Ch {sl:=[(4,u6 (Ec (λk=>p.getD k 0) n s n:Nat))]} [(0,.loop [] {sl:=[(0,.im n (ut p)),(1,u6 s),(5,i6 (0:Nat))]} [(True,.exit 0,{sl:=[(1,u6 (Ec (λk=>p.getD k 0) n s n:Nat))]})])] ?_
 have h':Au Pg none 0 (aT 75 11010) (Al g0 29 {sl:=[(0,.im n (ut p)),(1,u6 s),(5,i6 (0:Nat))]}) (B3 g0 29 [(True,.exit 0,{sl:=[(1,u6 (Ec (λk=>p.getD k 0) n s n:Nat))]})]):=h
 clear h
 generalize Ec (λk=>p.getD k 0) n s n=y1 at*
 exact m_ (p:=An [Sm (u6 ↑y1),An [An [An [_,Sm (ut p)],Sm (↑s:Int),(↑(0:Nat):Int)=(0:Int),Tt],Tt],_,(True->An [An [Sm (↑y1:Int),Tt],Tt]),Tt]) ⟨aq,⟨⟨⟨hn.symm,aq⟩,a_⟩,aq⟩,h',a_⟩
abbrev IN(p:List Nat)(n v:Nat):SL:={sl:=[(0,.im n (ut p)),(3,i6 v)]}
theorem i9(n:Nat)(hn:p.length=n):
  Au Pg none 0 (aT 38 11010) (Al g0 18 (IN p n 0)) (B3 g0 18 [(Ml p=true,.exit 0,{sl:=[]}),(Ml p=false,.ret,{sl:=[(2,.bool false)]})]):=by
 have hp:=AQ p
 have hn64:n<=64:=o_
 refine C9 (aT 38 110100) (λk=>k<=n/\∀i,i<k->(Ec (λk=>p.getD k 0) p.length (p.getD i 0) p.length).testBit i=false) (IN p n) (λk=>n-k) (λv hv=>?_) 0 ⟨aG _,λi h=>absurd h (aJ _)⟩
 obtain⟨hv,hin⟩:=hv
 by_cases hlt:v<n
 .have s0:=mT (l:=p) (k:=v) o_
  have h1:=W5 p hl h64 (p.getD v 0) (h64.get v)
  have h2:=TE (Ec (λk=>p.getD k 0) p.length (p.getD v 0) p.length) v o_
  cases hb:(Ec (λk=>p.getD k 0) p.length (p.getD v 0) p.length).testBit v with
  | true =>
   have hf:Ml p=false:=by
    cases ha:Ml p with
    |false=>rfl
    |true=>
     have:=aO.1 ha v (bB.2 o_)
     simp_all
   rw[hb]at h2
   refine .inr ⟨.ret,[],{sl:=[(2,.bool false)]},[As 7,pl 13,ld 14 (u6 (p.getD v 0:Nat)),fn 15 (u6 (Ec (λk=>p.getD k 0) p.length (p.getD v 0) p.length:Nat)),fn 17 (.bool true)],1000,.inr (.inl ⟨hf,rfl,rfl⟩),?_⟩
   clear hf hin hb
   generalize Ec (λk=>p.getD k 0) p.length (p.getD v 0) p.length=y1,p.getD v 0=y at*
   unfold ul at*
   rw[hn]at*
   exact Cj [_,_,_,_,_] ⟨Bf hlt,Ar hlt,s0,h1,h2⟩
  | false =>
   have hnx: ∀i,i<v+1->(Ec (λk=>p.getD k 0) p.length (p.getD i 0) p.length).testBit i=false:=λi hi=>by
    grind
   rw[hb]at h2
   refine .inl ⟨v+1,[],[As 7,pl 13,ld 14 (u6 (p.getD v 0:Nat)),fn 15 (u6 (Ec (λk=>p.getD k 0) p.length (p.getD v 0) p.length:Nat)),fn 17 (.bool false),nu 9 ((v+1:Nat):Int)],1000,⟨hlt,hnx⟩,o_,?_⟩
   clear hin hb hnx
   generalize Ec (λk=>p.getD k 0) p.length (p.getD v 0) p.length=y1,p.getD v 0=y at*
   unfold ul at*
   rw[hn]at*
   exact m_ (p:=An [_,_,_,_,_,_,An [An [_,Sm (ut p)],(↑(v+1):Int)=(↑(v+1):Int),Tt],Tt]) ⟨Bf hlt,Ar hlt,s0,h1,h2,Dw v o_,⟨⟨hn,aq⟩,a_⟩,aq⟩
 .obtain rfl:v=n:=o_
  have hf:Ml p=true:=by
   unfold Ml
   rw[aO]
   intro i hi
   have:=bB.1 hi
   rw[hin i o_];rfl
  refine .inr ⟨.exit 0,[],{sl:=[]},[no 7],1000,.inl ⟨hf,rfl,rfl⟩,?_⟩
  clear hf hin
  exact Cj [_] (Cq hlt)
theorem AB:Ag Pg g0 38 [ul p] (.bool (Ml p)):=by
 have hp:=AQ p
 have h:=i9 p hl h64 p.length rfl
 generalize hn:p.length=n,Ml p=b at*
 refine Ch {sl:=[(2,.bool b)]} [(0,.loop [] (IN p n 0) [(b=true,.exit 0,{sl:=[]}),(b=false,.ret,{sl:=[(2,.bool false)]})])] ?_
 exact m_ (p:=An [Sm (V.bool b),An [An [An [_,Sm (ut p)],(↑(0:Nat):Int)=(0:Int),Tt],Tt],_,b=true->An [An [b=true,Tt],Tt],b=false->An [An [b=false,Tt],Tt],Tt]) ⟨aq,⟨⟨⟨hn.symm,aq⟩,a_⟩,aq⟩,h,a_⟩
end
def sO:List Nat->Nat->Nat
 | _,0=>0
 |l,k+1=>sO l k|||2^l.getD k 0
theorem Q4{l:List Nat}: ∀k,k<=l.length->sO (l++[x]) k=sO l k
 |0,_=>rfl
 |k+1,h=>by
  unfold sO
  rw[Q4 k o_,aA,bN o_,<-aA]
theorem WJ{l:List Nat}{b:Nat}: ∀k,(sO l k).testBit b=true↔∃i,i<k/\l.getD i 0=b
 |0=>by simp[sO]
 |k+1=>by
  unfold sO
  rw[cP,bT,WJ k,fB,decide_eq_true_eq]
  grind
structure F7(p L:List Nat)(m:Nat):Prop where
 len:L.length=m
 lt: ∀k,k<m->L.getD k 0<p.length
 ok: ∀k,k<m->KG p (sO L k) (L.getD k 0)
 min: ∀k,k<m->∀i,i<L.getD k 0->¬KG p (sO L k) i
theorem Nl(h:F7 p L m)(hl:p.length<=64): ∀k,k<=m->sO L k<2^64
 |0,_=>by show 0<2^64;omega
 |k+1,hk=>by
  have h1:=Nl h hl k o_
  have h2:=h.lt k o_
  exact(Kn (G:=B1 Pg) (t:=29) h1 (R9 o_)).2
theorem F7.inj(h:F7 p L m){i k:Nat}(hi:i<k)(hk:k<m):L.getD i 0≠L.getD k 0:=λe=>by
 have:=(h.ok k hk).1
 grind[WJ]
theorem F7.nd(h:F7 p L m):L.Nodup:=by
 rw[List.nodup_iff_pairwise_ne,List.pairwise_iff_getElem]
 intro i j hi hj hij e
 refine h.inj hij (by rw[<-h.len];exact hj) ?_
 simp_all
theorem Sk(hac:JQ p)(hl:p.length<=64)(h64:Gk p): ∀m,m<=p.length->∃L,F7 p L m
 |0,_=>⟨[],rfl,λk h=>absurd h (aJ _),λk h=>absurd h (aJ _),λk h=>absurd h (aJ _)⟩
 | m + 1, hm => by
  obtain⟨L,h⟩:=Sk hac hl h64 m o_
  have hlen:=h.len
  obtain⟨v,hv,hvl⟩:=Yo (n:=p.length) h.nd o_ (λx hx=>by
   obtain⟨i,hi,e⟩:=fD hx
   have:=h.lt i o_
   grind)
  obtain⟨u,hu,hok,hmin⟩:=wZ hac h64 (Nl h hl m (aC _)) ⟨v,hv,by
   grind[WJ]⟩
  have hg: ∀k,k<m->(L++[u]).getD k 0=L.getD k 0:=λk hk=>by
   grind
  have hgm:(L++[u]).getD m 0=u:=by
   rw[aA,bU o_,show m-L.length=0 by omega];rfl
  have key: ∀k,k<m+1->(L++[u]).getD k 0<p.length/\KG p (sO (L++[u]) k) ((L++[u]).getD k 0)/\∀i,i<(L++[u]).getD k 0->¬KG p (sO (L++[u]) k) i:=λk hk=>by
   rw[Q4 k o_]
   by_cases hkm:k=m
   .simp_all
   .rw[hg k o_]
    exact⟨h.lt k o_,h.ok k o_,h.min k o_⟩
  exact⟨L++[u],by simp;omega,λk hk=>(key k hk).1,λk hk=>(key k hk).2.1,λk hk=>(key k hk).2.2⟩
section
variable (p L:List Nat) (n:Nat) (hn:p.length=n) (hl:n<=64) (h64:Gk p) (hL:F7 p L n)
abbrev VI(P:List V)(n k s:Nat)(A:List V)(v:Nat):SL:={sl:=[(0,.im n P),(3,G6 0 k),(4,u6 s),(5,i6 v)],os:=Ik 3 1 A k}
abbrev PC(P:List V)(n k s:Nat)(A:List V):SL:={sl:=[(0,.im n P),(3,G6 0 k),(4,u6 s)],os:=Ik 3 1 A k}
include hn hl h64 hL
theorem PB(k:Nat)(hk:k<n)(A:List V)(hA:A.length=k)(hAf:Ba A):
  Au Pg none 0 (aT 123 11110001010) (Al g0 40 (VI (ut p) n k (sO L k) A 0)) (B3 g0 40 [(True,.exit 2,PC (ut p) n (k+1) (sO L (k+1)) (A++[i6 (L.getD k 0:Nat)]))]):=by
 have hp:=AQ p
 have hs:=Nl hL o_ k o_
 have hu:=hL.lt k hk
 have hok:=hL.ok k hk
 have hmin:=hL.min k hk
 have hse:sO L (k+1)=sO L k|||2^L.getD k 0:=rfl
 rw[hse]
 generalize sO L k=s at*
 generalize L.getD k 0=u at*
 refine C9 (aT 123 111100010100) (λv=>v<=u) (VI (ut p) n k s A) (λv=>u-v) (λv hv=>?_) 0 (aG _)
 have hlt:v<n:=o_
 have s0:=mT (l:=p) (k:=v) o_
 have s3:=S4 (G:=B1 Pg) (t:=29) (h64.get v) hs
 obtain⟨s4,s5⟩:=sN (G:=B1 Pg) (t:=29) (k:=v) o_
 have s6:=(Kn (G:=B1 Pg) (t:=29) hs s5).1
 have w1:=UR (k:=v) o_
 have f1:=TE s v o_
 by_cases hvu:v=u
 .subst hvu
  obtain⟨hb,hm⟩:=hok
  rw[hm]at s3
  rw[hb]at f1
  clear hmin hL
  generalize 2^v=z at*
  generalize s|||z=s' at*
  generalize p.getD v 0=x at*
  generalize ut p=P at*
  cases k with
  |zero=>
   obtain rfl:A=[]:=aE hA
   refine .inr ⟨.exit 2,[1],{sl:=[(0,.im n P),(3,G6 0 1),(4,u6 s')],os:=Ik 3 1 [i6 v] 1},[As 14,fn 19 (.bool false),pl 24,ld 25 (u6 x),va 27 (u6 (0:Nat)),As 28,nu 36 v,va 37 (u6 z),va 38 (u6 s')],1000,.inl ⟨trivial,rfl,rfl⟩,?_⟩
   exact Cj [_,_,_,_,_,((↑(0:Nat):Int)==(0:Int))=true,_,_,_] ⟨Bf hlt,f1,Ar hlt,s0,s3,aq,w1,s4,s6⟩
  |succ k=>
   refine .inr ⟨.exit 2,[2],{sl:=[(0,.im n P),(3,G6 0 (k+2)),(4,u6 s')],os:=Ik 3 1 (A++[i6 v]) (k+2)},[As 14,fn 19 (.bool false),pl 24,ld 25 (u6 x),va 27 (u6 (0:Nat)),As 28,ap 33,nu 36 v,va 37 (u6 z),va 38 (u6 s')],1000,.inl ⟨trivial,rfl,rfl⟩,?_⟩
   exact m_ (p:=An [_,_,_,_,_,((↑(0:Nat):Int)==(0:Int))=true,A.length=(k+1)*1,k+1+1<=9223372036854775807,(k+1+1)*8<=140737488355328,_,_,_,An [An [n=n,P=P],An [Zz,Nat.succ k+1=k+1+1,Tt],Sm (↑s':Int),Tt],An [Sm (A++[i6 ↑v]),Ba (A++[i6 ↑v])],Tt]) ⟨Bf hlt,f1,Ar hlt,s0,s3,aq,aq,aq,aq,w1,s4,s6,a_,⟨aq,Nb hAf ⟨trivial,trivial⟩⟩,aq⟩
 .have hno:=hmin v o_
  clear hmin hL hok
  cases hb:s.testBit v with
  | true =>
   rw[hb]at f1
   generalize ut p=P at*
   cases k with
   |zero=>
    refine .inl ⟨v+1,[],[As 14,fn 19 (.bool true),nu 16 ((v+1:Nat):Int)],1000,o_,o_,?_⟩
    exact C8 [_,_,wr .i64 ((↑v:Int)+(1:Int))=(↑(v+1):Int)] ⟨Bf hlt,f1,aq⟩
   |succ k=>
    refine .inl ⟨v+1,[0],[As 14,fn 19 (.bool true),nu 16 ((v+1:Nat):Int)],1000,o_,o_,?_⟩
    exact C8 [_,_,wr .i64 ((↑v:Int)+(1:Int))=(↑(v+1):Int)] ⟨Bf hlt,f1,aq⟩
  | false =>
   rw[hb]at f1
   have hm:mi (p.getD v 0) s≠0:=λh=>hno ⟨hb,h⟩
   clear hno
   generalize mi (p.getD v 0) s=y at*
   generalize p.getD v 0=x at*
   generalize ut p=P at*
   cases k with
   |zero=>
    refine .inl ⟨v+1,[],[As 14,fn 19 (.bool false),pl 24,ld 25 (u6 x),va 27 (u6 y),no 28,nu 16 ((v+1:Nat):Int)],1000,o_,o_,?_⟩
    exact C8 [_,_,_,_,_,((↑y:Int)==(0:Int))=false,wr .i64 ((↑v:Int)+(1:Int))=(↑(v+1):Int)] ⟨Bf hlt,f1,Ar hlt,s0,s3,a_⟩
   |succ k=>
    refine .inl ⟨v+1,[0],[As 14,fn 19 (.bool false),pl 24,ld 25 (u6 x),va 27 (u6 y),no 28,nu 16 ((v+1:Nat):Int)],1000,o_,o_,?_⟩
    exact C8 [_,_,_,_,_,((↑y:Int)==(0:Int))=false,wr .i64 ((↑v:Int)+(1:Int))=(↑(v+1):Int)] ⟨Bf hlt,f1,Ar hlt,s0,s3,aq,aq⟩
theorem Zv{k:Nat}(hk:k<n):dI (L.take (k+1))=dI (L.take k)++[i6 (L.getD k 0:Nat)]:=by
 have hlen:=hL.len
 grind[List.take_add_one,Aa]
theorem Sj:Ag Pg g0 123 [ul p] (.im n (dI L)):=by
 have hp:=AQ p
 have hlen:=hL.len
 have hlp:Au Pg none 0 (aT 123 111100) (Al g0 40 (PC (ut p) n 0 0 [])) (B3 g0 40 [(True,.exit 0,{sl:=[(3,.im n (dI L))]})]):=by
  refine C9 (aT 123 1111000) (λq=>q.1<=n/\q.2=dI (L.take q.1)) (λq=>PC (ut p) n q.1 (sO L q.1) q.2) (λq=>n-q.1) (λq hq=>?_) (0,[]) ⟨aG _,rfl⟩
  obtain⟨k,A⟩:=q
  obtain⟨hk,hA⟩:=hq
  dsimp only at hk hA
  have hAl:A.length=k:=by rw[hA,Pu,fM];omega
  have hAf:Ba A:=by rw[hA];exact Ap _
  by_cases hlt:k<n
  .have hin:=PB p L n hn hl h64 hL k hlt A hAl hAf
   have hnx:=Zv p L n hn hl h64 hL hlt
   rw[<-hA]at hnx
   have hBf:=Nb hAf (b:=[i6 (L.getD k 0:Nat)]) ⟨trivial,trivial⟩
   clear hA
   have hs0:sO L 0=0:=rfl
   cases k with
   |zero=>
    obtain rfl:A=[]:=aE hAl
    refine .inl ⟨(1,[]++[i6 (L.getD 0 0:Nat)]),[0],[As 10,(0,.loop [] (VI (ut p) n 0 (sO L 0) [] 0) [(True,.exit 2,PC (ut p) n 1 (sO L 1) ([]++[i6 (L.getD 0 0:Nat)]))])],1000,⟨hlt,hnx.symm⟩,o_,?_⟩
    try dsimp only
    clear hnx
    generalize sO L (0+1)=s',sO L 0=s,L.getD 0 0=u,ut p=P at*
    exact m_ (p:=An [_,An [An [An [n=n,P=P],Tt,Sm (↑s:Int),(↑(0:Nat):Int)=(0:Int),Tt],Tt],_,(True->An [An [An [n=n,P=P],An [Zz,1=1,Tt],Sm (↑s':Int),Tt],An [Sm ([]++[i6 ↑u]),Tt,Tt],Tt]),Tt]) ⟨Bf hlt,a_,hin,a_⟩
   |succ k=>
    refine .inl ⟨(k+2,A++[i6 (L.getD (k+1) 0:Nat)]),[0],[As 10,(0,.loop [0] (VI (ut p) n (k+1) (sO L (k+1)) A 0) [(True,.exit 2,PC (ut p) n (k+2) (sO L (k+2)) (A++[i6 (L.getD (k+1) 0:Nat)]))])],1000,⟨hlt,hnx.symm⟩,o_,?_⟩
    try dsimp only
    clear hnx
    generalize sO L (k+1+1)=s',sO L (k+1)=s,L.getD (k+1) 0=u,ut p=P at*
    exact m_ (p:=An [_,An [An [An [n=n,P=P],An [Zz,Sm (k+1),Tt],Sm (↑s:Int),(↑(0:Nat):Int)=(0:Int),Tt],An [A=A,_],Tt],_,(True->An [An [An [n=n,P=P],An [Zz,Sm (Nat.succ k+1),Tt],Sm (↑s':Int),Tt],An [Sm (A++[i6 ↑u]),_],Tt]),Tt]) ⟨Bf hlt,⟨a_,⟨aq,hAf⟩,aq⟩,hin,(λ_=>⟨a_,⟨aq,hBf⟩,aq⟩),aq⟩
  .obtain rfl:k=n:=o_
   have hI:dI L=A:=by rw[hA,bF o_]
   rw[hI]
   clear hA hI
   try dsimp only
   generalize sO L k=s at*
   clear hL
   generalize ut p=P at*
   cases k with
   |zero=>
    obtain rfl:A=[]:=aE hAl
    refine .inr ⟨.exit 0,[],{sl:=[(3,.im 0 Eb)]},[],1000,.inl ⟨trivial,rfl,rfl⟩,?_⟩
    exact m_ (p:=An [An [Zz,Tt],Tt]) a_
   |succ k=>
    refine .inr ⟨.exit 0,[],{sl:=[(3,.im (k+1) A)]},[no 10],1000,.inl ⟨trivial,rfl,rfl⟩,?_⟩
    exact m_ (p:=An [_,An [An [Sm (k+1),A=A,_],Tt],Tt]) ⟨Cq hlt,⟨⟨aq,aq,hAf⟩,aq⟩,aq⟩
 have hLf:=Ap (L.map λd:Nat=>(d:Int))
 clear hL
 show Ag Pg g0 _ [.im p.length (ut p)] _
 rw[hn]
 unfold dI at*
 generalize Aa (L.map λd:Nat=>(d:Int))=A,ut p=P at*
 refine Ch {sl:=[(2,.im n A)]} [(0,.loop [] {sl:=[(0,.im n P),(3,.nils),(4,u6 (0:Nat))]} [(True,.exit 0,{sl:=[(3,.im n A)]})])] ?_
 exact m_ (p:=An [Sm (V.im n A),An [An [An [n=n,P=P],Tt,(↑(0:Nat):Int)=(0:Int),Tt],Tt],Au Tryz.prog none 0 (aT 123 111100) (Al g0 40 (SL.mk [(0,V.im n P),(3,V.nils),(4,u6 ↑(0:Nat))] [] [] [])) (B3 g0 40 [(True,Ex.exit 0,SL.mk [(3,V.im n A)] [] [] [])]),(True->An [An [An [n=n,A=A],Tt],Tt]),Tt]) ⟨aq,a_,hlp,a_⟩
end
abbrev hO(n:Nat)(A B:List V)(k:Nat):SL:={sl:=[(0,.im n A),(1,.im n B),(5,i6 k)]}
theorem sV(v p:List Int)(n:Nat)(hv:v.length=n)(hp:p.length=n)(h6:n<=1000000):Ag Pg g0 152 [.im n (Aa v),.im n (Aa p)] (.bool (Hp v p)):=by
 have hvf:=Ap v
 have hpf:=Ap p
 have hlp:Au Pg none 0 (aT 152 11010) (Al g0 28 (hO n (Aa v) (Aa p) 0)) (B3 g0 28 [(Hp v p=true,.exit 0,{sl:=[]}),(Hp v p=false,.ret,{sl:=[(4,.bool false)]})]):=by
  refine C9 (aT 152 110100) (λk=>k<=n/\∀i,i<k->p.getD i 0<0\/p.getD i 0=v.getD i 0) (hO n (Aa v) (Aa p)) (λk=>n-k) (λk hk=>?_) 0 ⟨aG _,λi h=>absurd h (aJ _)⟩
  obtain⟨hk,hin⟩:=hk
  by_cases hlt:k<n
  .have h1:=Dm (l:=p) (k:=k) o_
   have h2:=Dm (l:=v) (k:=k) o_
   have good:(p.getD k 0<0\/p.getD k 0=v.getD k 0)->∀i,i<k+1->p.getD i 0<0\/p.getD i 0=v.getD i 0:=λh i hi=>by
    grind
   have bad: ¬(p.getD k 0<0\/p.getD k 0=v.getD k 0)->Hp v p=false:=λh=>by
    grind[YN]
   by_cases hx:0<=p.getD k 0
   .by_cases hxy:p.getD k 0=v.getD k 0
    .have hg:=good (.inr hxy)
     refine .inl ⟨k+1,[],[As 9,pl 14,ld 15 (i6 (p.getD k 0)),As 16,pl 20,ld 21 (i6 (p.getD k 0)),pl 24,ld 25 (i6 (v.getD k 0)),no 26,nu 11 ((k+1:Nat):Int)],1000,⟨hlt,hg⟩,o_,?_⟩
     clear hin hg good bad
     generalize p.getD k 0=x,v.getD k 0=y,Aa p=P,Aa v=Q at*
     exact C8 [_,_,_,_,_,_,_,_,(x != y)=false,wr .i64 ((↑k:Int)+(1:Int))=(↑(k+1):Int)] ⟨Bf hlt,Ar hlt,h1,Pp hx,Ar hlt,h1,Ar hlt,h2,a_⟩
    .have hf:=bad o_
     refine .inr ⟨.ret,[],{sl:=[(4,.bool false)]},[As 9,pl 14,ld 15 (i6 (p.getD k 0)),As 16,pl 20,ld 21 (i6 (p.getD k 0)),pl 24,ld 25 (i6 (v.getD k 0)),As 26],1000,.inr (.inl ⟨hf,rfl,rfl⟩),?_⟩
     clear hin hf good bad
     generalize p.getD k 0=x,v.getD k 0=y,Aa p=P,Aa v=Q at*
     exact Cj [_,_,_,_,_,_,_,_,(x != y)=true] ⟨Bf hlt,Ar hlt,h1,Pp hx,Ar hlt,h1,Ar hlt,h2,a_⟩
   .have hg:=good (.inl o_)
    refine .inl ⟨k+1,[],[As 9,pl 14,ld 15 (i6 (p.getD k 0)),no 16,nu 11 ((k+1:Nat):Int)],1000,⟨hlt,hg⟩,o_,?_⟩
    clear hin hg good bad
    generalize p.getD k 0=x,Aa p=P,Aa v=Q at*
    exact C8 [_,_,_,_,wr .i64 ((↑k:Int)+(1:Int))=(↑(k+1):Int)] ⟨Bf hlt,Ar hlt,h1,Jp hx,aq⟩
  .obtain rfl:k=n:=o_
   have hall:Hp v p=true:=YN.2 λi hi=>hin i o_
   refine .inr ⟨.exit 0,[],{sl:=[]},[no 9],1000,.inl ⟨hall,rfl,rfl⟩,?_⟩
   clear hin hall
   generalize Aa p=P,Aa v=Q at*
   exact Cj [_] (Cq hlt)
 generalize Hp v p=b,Aa p=P,Aa v=Q at*
 refine Ch {sl:=[(4,.bool b)]} [(0,.loop [] (hO n Q P 0) [(b=true,.exit 0,{sl:=[]}),(b=false,.ret,{sl:=[(4,.bool false)]})])] ?_
 exact m_ (p:=An [Sm (V.bool b),An [An [An [n=n,Q=Q],An [n=n,P=P],(↑(0:Nat):Int)=(0:Int),Tt],Tt],_,b=true->An [An [b=true,Tt],Tt],b=false->An [An [b=false,Tt],Tt],Tt]) ⟨aq,a_,hlp,a_⟩
def uR(cs:List Int)(n:Nat):Nat->Int
 |0=>1
 |t+1=>uR cs n t*cs.getD (n-1-t) 0
def iR(cs vs:List Int)(n:Nat):Nat->Int
 |0=>0
 |t+1=>iR cs vs n t+vs.getD (n-1-t) 0*uR cs n t
theorem Tw{cs vs:List Int}{n:Nat}: ∀t,t<=n->Bk cs vs (n-t)*uR cs n t+iR cs vs n t=Bk cs vs n
 |0,_=>by show Bk cs vs n*1+0=_;omega
 |t+1,h=>by
  have ih:=Tw (cs:=cs) (vs:=vs) (n:=n) t o_
  obtain⟨m,hm⟩: ∃m,m=n-(t+1):=⟨_,rfl⟩
  rw[show n-t=m+1 by omega]at ih
  grind[Bk,uR,iR]
theorem Nj(hc: ∀i,i<n->1<=cs.getD i 0/\cs.getD i 0<=4): ∀t,t<=n->1<=uR cs n t/\uR cs n t<=4^t
 |0,_=>by simp[uR]
 |t+1,h=>by
  obtain⟨h1,h2⟩:=Nj hc t o_
  obtain⟨h3,h4⟩:=hc (n-1-t) o_
  have e:(4:Int)^(t+1)=4^t*4:=cV ..
  have a1:1*1<=uR cs n t*cs.getD (n-1-t) 0:=bC h1 h3 d_ o_
  rw[e]
  exact⟨a1,bC h2 h4 o_ o_⟩
theorem Tx(hc: ∀i,i<n->1<=cs.getD i 0/\cs.getD i 0<=4)(hv:Co cs vs n): ∀t,t<=n->0<=iR cs vs n t/\iR cs vs n t<uR cs n t
 |0,_=>by simp[uR,iR]
 |t+1,h=>by
  obtain⟨h1,h2⟩:=Tx hc hv t o_
  obtain⟨h3,h4⟩:=hv (n-1-t) o_
  obtain⟨h5,_⟩:=Nj hc t o_
  unfold uR iR
  generalize vs.getD (n-1-t) 0=v,cs.getD (n-1-t) 0=c,uR cs n t=u at*
  have e1:0<=v*u:=bY h3 o_
  have e2:(v+1)*u<=c*u:=bL o_ o_
  grind
theorem uC(h:t<=13):(4:Int)^t<=67108864:=by
 have h1:(4:Nat)^t<=4^13:=aH d_ h
 grind
theorem tW{k:Nat}(hk:k+1+t=n)(h13:n<=13)(hc: ∀i,i<n->1<=cs.getD i 0/\cs.getD i 0<=4)(hv:Co cs vs n):
  wr .i64 (vs.getD k 0*uR cs n t)=vs.getD k 0*uR cs n t/\wr .i64 (iR cs vs n t+vs.getD k 0*uR cs n t)=iR cs vs n (t+1)/\wr .i64 (uR cs n t*cs.getD k 0)=uR cs n (t+1):=by
 have h1:=Tx hc hv (t+1) o_
 have h2:=Nj hc (t+1) o_
 have h0:=Tx hc hv t o_
 have h4:=uC (t:=t+1) o_
 have hu:=Nj hc t o_
 grind[iR,uR,BG]
section
variable (cs vs:List Int) (n:Nat) (hn:cs.length=n) (hm:vs.length=n) (h13:n<=13) (hc: ∀i,i<n->1<=cs.getD i 0/\cs.getD i 0<=4) (hv:Co cs vs n)
abbrev VE(n:Nat)(A B:List V)(i u:Int)(k:Nat):SL:={sl:=[(0,.im n A),(1,.im n B),(5,i6 i),(6,i6 u),(7,i6 (Dr k))]}
include hn hm h13 hc hv
theorem Tq:Ag Pg g0 83 [.im n (Aa cs),.im n (Aa vs)] (i6 (Bk cs vs n)):=by
 have hcf:=Ap cs
 have hvf:=Ap vs
 have hlp:Au Pg none 0 (aT 83 111010) (Al g0 30 (VE n (Aa cs) (Aa vs) 0 1 n)) (B3 g0 30 [(True,.exit 0,{sl:=[(5,i6 (Bk cs vs n))]})]):=by
  refine C9 (aT 83 1110100) (λq=>q.1<=n/\q.2.1=iR cs vs n (n-q.1)/\q.2.2=uR cs n (n-q.1)) (λ(q:Nat×Int×Int)=>VE n (Aa cs) (Aa vs) q.2.1 q.2.2 q.1) (λq=>q.1) (λq hq=>?_) (n,0,1) ⟨aC _,by simp only[dJ];rfl,by simp only[dJ];rfl⟩
  obtain⟨k,i,u⟩:=q
  obtain⟨hk,hi,hu⟩:=hq
  dsimp only at hk hi hu
  cases k with
  |zero=>
   have he:=Tw (cs:=cs) (vs:=vs) n (aC _)
   rw[dJ,show Bk cs vs 0=0 from rfl,Int.zero_mul,Int.zero_add]at he
   rw[cO,he]at hi
   rw[<-hi]
   refine .inr ⟨.exit 0,[],{sl:=[(5,i6 i)]},[],1000,.inl ⟨trivial,rfl,rfl⟩,?_⟩
   clear hi he hu hc hv
   try dsimp only
   generalize Aa cs=P at*
   generalize Aa vs=Q at*
   exact Cj [] trivial
  |succ k=>
   obtain⟨t,ht⟩: ∃t:Nat,t=n-(k+1):=⟨_,rfl⟩
   have hst:=tW (cs:=cs) (vs:=vs) (n:=n) (t:=t) (k:=k) o_ h13 hc hv
   rw[<-ht]at hi hu
   rw[<-hi,<-hu]at hst
   obtain⟨w1,w2,w3⟩:=hst
   have h1:=Dm (l:=vs) (k:=k) o_
   have h2:=Dm (l:=cs) (k:=k) o_
   have hd:=LK k
   refine .inl ⟨(k,iR cs vs n (t+1),uR cs n (t+1)),[],[As 12,pl 18,ld 19 (i6 (vs.getD k 0)),nu 21 (vs.getD k 0*u),nu 22 (iR cs vs n (t+1)),pl 26,ld 27 (i6 (cs.getD k 0)),nu 28 (uR cs n (t+1)),nu 14 (Dr k)],1000,⟨o_,by grind,by grind⟩,o_,?_⟩
   try dsimp only
   unfold VE
   simp only[show Dr (k+1)=(k:Int)from rfl]
   clear hi hu hc hv ht
   generalize iR cs vs n (t+1)=i2 at*
   generalize uR cs n (t+1)=u2 at*
   generalize hxx:vs.getD k 0*u=xx at*
   generalize vs.getD k 0=x at*
   generalize cs.getD k 0=y at*
   generalize Dr k=dk at*
   generalize Aa cs=P at*
   generalize Aa vs=Q at*
   exact C8 [decide ((↑k:Int)≥(0:Int))=true,_,_,wr .i64 (x*u)=xx,_,_,_,_,wr .i64 ((↑k:Int)-(1:Int))=dk] ⟨aq,Ar hk,h1,aq,w2,Ar hk,h2,w3,aq⟩
 have hd:=LK n
 unfold VE at hlp
 clear hc hv
 generalize Bk cs vs n=z at*
 generalize Dr n=dk at*
 generalize Aa cs=P at*
 generalize Aa vs=Q at*
 refine Ch {sl:=[(4,i6 z)]} [nu 10 dk,(0,.loop [] {sl:=[(0,.im n P),(1,.im n Q),(5,i6 0),(6,i6 1),(7,i6 dk)]} [(True,.exit 0,{sl:=[(5,i6 z)]})])] ?_
 exact m_ (p:=An [Sm (i6 z),wr .i64 ((↑n:Int)-(1:Int))=dk,An [An [An [n=n,P=P],An [n=n,Q=Q],Sm (0:Int),Sm (1:Int),dk=dk,Tt],Tt],_,(True->An [An [z=z,Tt],Tt]),Tt]) ⟨aq,aq,a_,hlp,a_⟩
end
theorem cx(k:Nat):Aa (Cb (k+1))=Aa (Cb k)++[i6 (-1)]:=by
 grind[Cb,Aa,List.replicate_succ']
section
variable (g:Int) (nR:Nat) (RR:List V) (hRR:Ba RR) (nN:Nat) (NN:List V) (hNN:Ba NN) (h6:nN<=1000000)
abbrev KH(g:Int)(nR:Nat)(RR:List V)(nN:Nat)(NN:List V)(k:Nat):SL:={sl:=[(1,.ptr 0 0),(3,G6 1 k),(4,i6 k)],os:=Di g nR RR nN NN::Ik 3 1 (Aa (Cb k)) k}
include hRR hNN h6
theorem jv:Au Pg none 0 (aT 44 111010) (Al g0 16 (KH g nR RR nN NN 0)) (B3 g0 16 [(True,.exit 0,{sl:=[(3,G6 0 nN)],os:=Ik 3 1 (Aa (Cb nN)) nN})]):=by
 refine C9 (aT 44 1110100) (λk=>k<=nN) (KH g nR RR nN NN) (λk=>nN-k) (λk hk=>?_) 0 (aG _)
 have hkl:(Aa (Cb k)).length=k:=by rw[F5];simp[Cb]
 have hkf:=Ap (Cb k)
 by_cases hlt:k<nN
 .have hs:=cx k
  cases k with
  |zero=>
   refine .inl ⟨1,[0,2],[As 9,nu 11 (1:Nat)],1000,hlt,o_,?_⟩
   exact C8 [_,wr .i64 ((↑(0:Nat):Int)+(1:Int))=(↑(1:Nat):Int)] ⟨Bf hlt,aq⟩
  |succ k=>
   refine .inl ⟨k+2,[0,3],[As 9,ap 14,nu 11 (k+2:Nat)],1000,hlt,o_,?_⟩
   unfold KH
   rw[hs]
   have hf2:=Nb hkf (b:=[i6 (-1)]) ⟨trivial,trivial⟩
   clear hs
   generalize Aa (Cb (k+1))=A at*
   exact C8 [_,A.length=(k+1)*1,k+1+1<=9223372036854775807,(k+1+1)*8<=140737488355328,wr .i64 ((↑(k+1):Int)+(1:Int))=(↑(k+2):Int)] ⟨Bf hlt,aq,aq,aq,aq⟩
 .obtain rfl:k=nN:=o_
  unfold KH
  generalize Aa (Cb k)=A at*
  cases k with
  |zero=>
   obtain rfl:A=[]:=aE hkl
   refine .inr ⟨.exit 0,[],{sl:=[(3,.nils)]},[no 9],1000,.inl ⟨trivial,rfl,rfl⟩,?_⟩
   exact Cj [_] (Cq hlt)
  |succ k=>
   refine .inr ⟨.exit 0,[1],{sl:=[(3,.sl 0 0 (k+1) none)],os:=[.row 3 (some 1) A]},[no 9],1000,.inl ⟨trivial,rfl,rfl⟩,?_⟩
   exact Cj [_] (Cq hlt)
theorem zW(h1:1<=nN):Ac Pg g0 (.fn 44 []) [.agg [i6 g,.im nR RR,.im nN NN]] .e 0 ⟨.sl 0 0 nN none,Ai .e 0 [.row 3 (some 1) (Aa (Cb nN))],1,[]⟩:=by
 have hlp:=jv g nR RR hRR nN NN hNN h6
 have hf:=Ap (Cb nN)
 generalize Aa (Cb nN)=A at*
 cases nN with
 |zero=>omega
 |succ m=>
  refine Ac.of_vcH (P:=Pg) (E:=vE) vE_ok Bx Gy (n:=1000) (f:=44) (os0:=[]) (r:=[0]) (S:={sl:=[(2,.sl 0 0 (m+1) none)],os:=[.row 3 (some 1) A]}) (hs:=[(0,.loop [0] (KH g nR RR (m+1) NN 0) [(True,.exit 0,{sl:=[(3,.sl 0 0 (m+1) none)],os:=[.row 3 (some 1) A]})])]) s_ (λi hi=>absurd hi (aJ _)) ?_
  exact m_ (p:=let z0:=V.sl 0 0 (m+1) none;An [Sm z0,An [An [Zz,Tt,(↑(0:Nat):Int)=(0:Int),Tt],An [Sm [i6 g,V.im nR RR,V.im (m+1) NN],TT 3],Tt],Au Pg none 0 (aT 44 111010) (Al g0 16 (KH g nR RR (m+1) NN 0)) (B3 g0 16 [(True,Ex.exit 0,SL.mk [(3,z0)] [O.row 3 (some 1) A] [] [])]),(True->An [An [An [Zz,Sm (m+1),Tt],Tt],An [A=A,_],Tt]),Tt]) ⟨aq,a_,hlp,(λ_=>⟨a_,⟨aq,hf⟩,aq⟩),aq⟩
theorem jb(h1:1<=nN){H:T O}{nx:Nat}:Ac Pg g0 (.fn 44 []) [.agg [i6 g,.im nR RR,.im nN NN]] H nx ⟨.sl nx 0 nN none,pt H nx (.row 3 (some 1) (Aa (Cb nN))),nx+1,[]⟩:=
 lK (zW g nR RR hRR nN NN hNN h6 h1) (A8.of_hf _ ⟨⟨trivial,trivial,trivial,trivial⟩,trivial⟩) (Ws _)
theorem ZJ(h1:1<=nN):Ag Pg g0 44 [.agg [i6 g,.im nR RR,.im nN NN]] (.im nN (Aa (Cb nN))):=
 LS (zW g nR RR hRR nN NN hNN h6 h1) (A8.of_hf _ ⟨⟨trivial,trivial,trivial,trivial⟩,trivial⟩) (Ws _) (by grind[F5,Cb])
end
section
variable (g:Int) (R:List (List Int)) (N:List Mc) (hg:1<=g/\g<=12) (hn:R.length<=8)
abbrev iA(g:Int)(nR:Nat)(RR:List V)(nN:Nat)(NN:List V)(w:Int)(k:Nat):SL:={sl:=[(1,.ptr 0 0),(3,i6 w),(4,i6 k)],os:=[Di g nR RR nN NN]}
include hg hn
theorem xO:Ag Pg g0 45 [Bd g R N] (i6 (g^R.length)):=by
 have hRR:=B7 R
 have hNN:=Cl N
 have hb: ∀k,k<=8->1<=g^k/\g^k<=429981696:=λk hk=>L9 hg hk
 have e0:(g:Int)^0=1:=by simp
 have hlp:Au Pg none 0 (aT 45 111010) (Al g0 17 (iA g R.length (Ah R) N.length (Ak N) (g^0) 0)) (B3 g0 17 [(True,.exit 0,{sl:=[(3,i6 (g^R.length))]})]):=by
  refine C9 (aT 45 1110100) (λk=>k<=R.length) (λk=>iA g R.length (Ah R) N.length (Ak N) (g^k) k) (λk=>R.length-k) (λk hk=>?_) 0 (aG _)
  generalize Ah R=RR,Ak N=NN,N.length=nN,R.length=nR at*
  by_cases hlt:k<nR
  .have h2:=hb (k+1) o_
   have e:g^(k+1)=g^k*g:=cV ..
   refine .inl ⟨k+1,[0],[As 9,nu 15 (g^(k+1)),nu 11 ((k+1:Nat):Int)],1000,hlt,o_,?_⟩
   try dsimp only
   clear hb
   generalize g^(k+1)=p2,g^k=p1 at*
   exact C8 [_,wr .i64 (p1*g)=p2,wr .i64 ((↑k:Int)+(1:Int))=(↑(k+1):Int)] ⟨Bf hlt,a_⟩
  .obtain rfl:k=nR:=o_
   refine .inr ⟨.exit 0,[],{sl:=[(3,i6 (g^k))]},[no 9],1000,.inl ⟨trivial,rfl,rfl⟩,?_⟩
   try dsimp only
   clear hb
   generalize g^k=p at*
   exact Cj [_] (Cq hlt)
 rw[e0]at hlp
 clear hb e0
 generalize g^R.length=p at*
 unfold Bd
 generalize Ah R=RR,Ak N=NN at*
 refine Ch {sl:=[(2,i6 p)]} [(0,.loop [0] (iA g R.length RR N.length NN 1 0) [(True,.exit 0,{sl:=[(3,i6 p)]})])] ?_
 exact m_ (p:=An [Sm (i6 p),An [An [Zz,Sm (1:Int),(↑(0:Nat):Int)=(0:Int),Tt],An [Sm [i6 g,V.im R.length RR,V.im N.length NN],TT 3],Tt],_,(True->An [An [p=p,Tt],Tt]),Tt]) ⟨aq,a_,hlp,a_⟩
end
section
variable {p j:List Nat} (g:K1 p j) {xs ys:Nat} (hq:Wa p.length xs ys) {y:Nat×List Nat} (hy:gO p 5 (0,[])=some y)
include g hq hy
end
def Zc(N:List Mc)(i:Nat):Nat:=Cr (N.getD i Ao).fr (N.getD i Ao).fr.length
theorem Z4{b:Nat}(h: ∀k,x.testBit k=true->k<b):x<2^b:=by
 apply Nat.lt_pow_two_of_testBit
 intro i hi
 cases hx:x.testBit i with
 |false=>rfl
 |true=>have:=h i hx;omega
section
variable (g:Int) (R:List (List Int)) (N:List Mc) (hN:Fp R N)
include hN
end
def Vr(L:List Int):Prop:=∀k,k<L.length->0<=L.getD k 0/\L.getD k 0<64
theorem c8{L:List Int}{k:Nat}(h:L.getD k 0=(x:Int)):Cr L (k+1)=Cr L k|||2^x:=by
 show Cr L k|||2^(L.getD k 0).toNat=_
 rw[h];rfl
section
variable (g:Int) (nR:Nat) (RR:List V) (hRR:Ba RR) (nN:Nat) (NN:List V) (hNN:Ba NN)
include hRR hNN
abbrev iJ(g:Int)(nR:Nat)(RR:List V)(nN:Nat)(NN:List V)(k:Nat)(A:List V):SL:={sl:=[(1,.ptr 0 0),(3,G6 1 k),(4,i6 k)],os:=Di g nR RR nN NN::Ik 29 1 A k}
abbrev VH(g:Int)(nR:Nat)(RR:List V)(nN:Nat)(NN:List V)(k:Nat)(A:List V)(s m:Nat):SL:={sl:=[(1,.ptr 0 0),(3,G6 1 k),(4,i6 k),(5,u6 s),(6,i6 m)],os:=Di g nR RR nN NN::Ik 29 1 A k}
abbrev OX(g:Int)(nR:Nat)(RR:List V)(nN:Nat)(NN:List V)(k:Nat)(A:List V)(s:Nat):SL:={sl:=[(1,.ptr 0 0),(3,G6 1 k),(4,i6 k),(5,u6 s)],os:=Di g nR RR nN NN::Ik 29 1 A k}
theorem X8(k:Nat)(A:List V)(hA:Ba A)(hAl:A.length=k)(L:List Int)(hv:k<nN)(hL:L.length<=1000000)(h64:Vr L)(hd:Ae (List.drop 1 (NN.drop (k*4)))=some (sl L)):
  Au Pg none 0 (aT 17 11101001001010) (Al g0 43 (VH g nR RR nN NN k A 0 0)) (B3 g0 43 [(True,.exit 2,OX g nR RR nN NN k A (Cr L L.length))]):=by
 have hLf:=Ap L
 refine C9 (aT 17 111010010010100) (λq=>q.1<=L.length/\q.2=Cr L q.1) (λq=>VH g nR RR nN NN k A q.2 q.1) (λq=>L.length-q.1) (λq hq=>?_) (0,0) ⟨aG _,rfl⟩
 obtain⟨m,s⟩:=q
 obtain⟨hm,hs⟩:=hq
 dsimp only at hm hs
 by_cases hlt:m<L.length
 .have hld:=Dm (l:=L) hlt
  have hx0:=h64 m hlt
  have hs64:=JD h64 m o_
  obtain⟨x,hx⟩: ∃x:Nat,L.getD m 0=(x:Int):=⟨(L.getD m 0).toNat,o_⟩
  have e:=c8 hx
  rw[hx]at hld hx0
  rw[<-hs]at hs64 e
  have w1:=UR (k:=x) o_
  obtain⟨s1,s2⟩:=sN (G:=B1 Pg) (t:=29) (k:=x) o_
  have s3:=(Kn (G:=B1 Pg) (t:=29) hs64 s2).1
  rw[<-e]at s3
  have hm':L.length-(m+1)<L.length-m:=o_
  cases k with
  |zero=>
   refine .inl ⟨(m+1,Cr L (m+1)),[0],[pl 18,ld 20 (sl L),As 22,pl 29,ld 31 (sl L),pl 33,ld 34 (i6 x),nu 35 x,va 36 (u6 (2^x:Nat)),va 37 (u6 (Cr L (m+1):Nat)),nu 24 ((m+1:Nat):Int)],1000,⟨hlt,rfl⟩,hm',?_⟩
   dsimp only
   clear hs hs64 e hx
   generalize Cr L (m+1)=s',2^x=z at*
   exact C8 [_,_,_,_,_,_,_,_,_,_,_] ⟨Ar hv,hd,Bf hlt,Ar hv,hd,Ar hlt,hld,w1,s1,s3,Dw m o_⟩
  |succ k=>
   refine .inl ⟨(m+1,Cr L (m+1)),[0,1],[pl 18,ld 20 (sl L),As 22,pl 29,ld 31 (sl L),pl 33,ld 34 (i6 x),nu 35 x,va 36 (u6 (2^x:Nat)),va 37 (u6 (Cr L (m+1):Nat)),nu 24 ((m+1:Nat):Int)],1000,⟨hlt,rfl⟩,hm',?_⟩
   dsimp only
   clear hs hs64 e hx
   generalize Cr L (m+1)=s',2^x=z at*
   exact C8 [_,_,_,_,_,_,_,_,_,_,_] ⟨Ar hv,hd,Bf hlt,Ar hv,hd,Ar hlt,hld,w1,s1,s3,Dw m o_⟩
 .obtain rfl:m=L.length:=o_
  rw[<-hs]
  cases k with
  |zero=>
   refine .inr ⟨.exit 2,[0],OX g nR RR nN NN 0 A s,[pl 18,ld 20 (sl L),no 22],1000,.inl ⟨trivial,rfl,rfl⟩,?_⟩
   dsimp only
   clear hs
   exact Cj [_,_,_] ⟨Ar hv,hd,Cq hlt⟩
  |succ k=>
   refine .inr ⟨.exit 2,[0,1],OX g nR RR nN NN (k+1) A s,[pl 18,ld 20 (sl L),no 22],1000,.inl ⟨trivial,rfl,rfl⟩,?_⟩
   dsimp only
   clear hs
   exact Cj [_,_,_] ⟨Ar hv,hd,Cq hlt⟩
omit hRR hNN in
theorem W6(f:Nat->Nat)(k:Nat):uF f (k+1)=uF f k++[u6 (f k:Nat)]:=by
 unfold uF;rw[eG,bP];rfl
theorem cu(fr:Nat->List Int)(hn:nN<=1000000)(hL: ∀k,k<nN->(fr k).length<=1000000/\Vr (fr k)/\Ae (List.drop 1 (NN.drop (k*4)))=some (sl (fr k))):
  Au Pg none 0 (aT 17 111010) (Al g0 43 (iJ g nR RR nN NN 0 [])) (B3 g0 43 [(True,.exit 0,{sl:=[(3,.im nN (uF (λk=>Cr (fr k) (fr k).length) nN))]})]):=by
 refine C9 (aT 17 1110100) (λq=>q.1<=nN/\q.2=uF (λk=>Cr (fr k) (fr k).length) q.1) (λq=>iJ g nR RR nN NN q.1 q.2) (λq=>nN-q.1) (λq hq=>?_) (0,[]) ⟨aG _,rfl⟩
 obtain⟨k,A⟩:=q
 obtain⟨hk,hA⟩:=hq
 dsimp only at hk hA
 have hAl:A.length=k:=by rw[hA];exact FB _ _
 have hAf:Ba A:=by rw[hA];exact V6 _ _
 by_cases hlt:k<nN
 .obtain⟨h1,h2,h3⟩:=hL k hlt
  have hin:=X8 g nR RR hRR nN NN hNN k A hAf hAl (fr k) hlt h1 h2 h3
  have e:=W6 (λk=>Cr (fr k) (fr k).length) k
  rw[<-hA]at e
  have hm':nN-(k+1)<nN-k:=o_
  generalize Cr (fr k) (fr k).length=s at*
  clear hL hA
  generalize hB:uF (λk=>Cr (fr k) (fr k).length) (k+1)=B at*
  subst e
  cases k with
  |zero=>
   obtain rfl:A=[]:=aE hAl
   refine .inl ⟨(1,[u6 s]),[0,2],[As 11,(0,.loop [0] (VH g nR RR nN NN 0 [] 0 0) [(True,.exit 2,OX g nR RR nN NN 0 [] s)]),nu 13 (1:Nat)],1000,⟨hlt,hB.symm⟩,hm',?_⟩
   clear hB
   dsimp only
   exact m_ (p:=let z0:=(↑(0:Nat):Int);let z1:=[i6 g,V.im nR RR,V.im nN NN];let z2:=(↑(1:Nat):Int);An [_,An [An [Zz,Tt,z0=z0,z0=(0:Int),z0=(0:Int),Tt],An [z1=z1,TT 3],Tt],_,(True->An [wr .i64 (z0+(1:Int))=z2,An [Zz,An [Zz,1=1,Tt],z2=z2,Tt],An [z1=z1,TT 3],An [Sm [u6 ↑s],Tt,Tt],Tt]),Tt]) ⟨Bf hlt,a_,hin,a_⟩
  |succ k=>
   refine .inl ⟨(k+2,A++[u6 s]),[0,3],[As 11,(0,.loop [0,1] (VH g nR RR nN NN (k+1) A 0 0) [(True,.exit 2,OX g nR RR nN NN (k+1) A s)]),ap 41,nu 13 (k+2:Nat)],1000,⟨hlt,hB.symm⟩,hm',?_⟩
   clear hB
   dsimp only
   exact m_ (p:=let z0:=[i6 g,V.im nR RR,V.im nN NN];let z1:=(↑(k+1):Int);let z2:=(↑(k+2):Int);An [_,An [An [Zz,An [Zz,Sm (k+1),Tt],z1=z1,(↑(0:Nat):Int)=(0:Int),(↑(0:Nat):Int)=(0:Int),Tt],An [z0=z0,TT 3],An [A=A,_],Tt],_,(True->An [A.length=(k+1)*1,k+1+1<=9223372036854775807,(k+1+1)*8<=140737488355328,wr .i64 (z1+(1:Int))=z2,An [Zz,An [Zz,Nat.succ k+1=k+1+1,Tt],z2=z2,Tt],An [z0=z0,TT 3],An [Sm (A++[u6 ↑s]),Ba (A++[u6 ↑s])],Tt]),Tt]) ⟨Bf hlt,⟨a_,a_,⟨aq,hAf⟩,aq⟩,hin,(λ_=>⟨aq,aq,aq,aq,a_,a_,⟨aq,Nb hAf ⟨trivial,trivial⟩⟩,aq⟩),aq⟩
 .obtain rfl:k=nN:=o_
  clear hL
  rw[<-hA]
  clear hA
  cases k with
  |zero=>
   obtain rfl:A=[]:=aE hAl
   refine .inr ⟨.exit 0,[],{sl:=[(3,.im 0 Eb)]},[no 11],1000,.inl ⟨trivial,rfl,rfl⟩,?_⟩
   dsimp only
   exact m_ (p:=An [_,An [Zz,Tt],Tt]) ⟨Cq hlt,a_⟩
  |succ k=>
   refine .inr ⟨.exit 0,[],{sl:=[(3,.im (k+1) A)]},[no 11],1000,.inl ⟨trivial,rfl,rfl⟩,?_⟩
   dsimp only
   exact m_ (p:=An [_,An [An [Sm (k+1),A=A,_],Tt],Tt]) ⟨Cq hlt,⟨⟨aq,aq,hAf⟩,aq⟩,aq⟩
theorem X9(fr:Nat->List Int)(hn:nN<=1000000)(hL: ∀k,k<nN->(fr k).length<=1000000/\Vr (fr k)/\Ae (List.drop 1 (NN.drop (k*4)))=some (sl (fr k))):Ag Pg g0 17 [.agg [i6 g,.im nR RR,.im nN NN]] (.im nN (uF (λk=>Cr (fr k) (fr k).length) nN)):=by
 have h:=cu g nR RR hRR nN NN hNN fr hn hL
 have hAf:=V6 (λk=>Cr (fr k) (fr k).length) nN
 clear hL
 generalize uF (λk=>Cr (fr k) (fr k).length) nN=A at*
 refine Ch {sl:=[(2,.im nN A)]} [(0,.loop [0] (iJ g nR RR nN NN 0 []) [(True,.exit 0,{sl:=[(3,.im nN A)]})])] ?_
 exact m_ (p:=An [Sm (V.im nN A),An [An [Zz,Tt,(↑(0:Nat):Int)=(0:Int),Tt],An [Sm [i6 g,V.im nR RR,V.im nN NN],TT 3],Tt],_,(True->An [An [An [nN=nN,A=A],Tt],Tt]),Tt]) ⟨aq,a_,h,a_⟩
end
section
variable (q:Nat) (A Z:List V)
end
section
variable {R:List (List Int)} {N:List Mc} (hN:Fp R N) (A:List V) (hA:Ba A) (hAl:A.length=N.length)
include hN hA hAl
end
structure WC(N:List Mc):Prop where
 q:N.length<=60
 fl: ∀k,k<N.length->(N.getD k Ao).fr.length<=1000000/\(N.getD k Ao).no.length<=1000000
 fr: ∀k,k<N.length->Vr (N.getD k Ao).fr
 no: ∀k,k<N.length->Vr (N.getD k Ao).no
theorem S6{k:Nat}(h:k<N.length):Ae (List.drop 1 ((Ak N).drop (k*4)))=some (sl (N.getD k Ao).fr):=by
 have hx:N[k]? =some (N.getD k Ao):=by rw[aA,aB h];rfl
 rw[P2 hx];rfl
theorem GP{k:Nat}(h:k<N.length):Ae (List.drop 2 ((Ak N).drop (k*4)))=some (sl (N.getD k Ao).no):=by
 have hx:N[k]? =some (N.getD k Ao):=by rw[aA,aB h];rfl
 rw[P2 hx];rfl
section
variable (g:Int) (R:List (List Int)) (N:List Mc) (hN:WC N)
include hN
theorem wP:Ag Pg g0 17 [Bd g R N] (.im N.length (uF (Zc N) N.length)):=
 X9 g R.length (Ah R) (B7 R) N.length (Ak N) (Cl N) (λk=>(N.getD k Ao).fr) (by have:=hN.q;omega) (λk hk=>⟨(hN.fl k hk).1,hN.fr k hk,S6 hk⟩)
theorem HB{k:Nat}(hk:k<N.length):Zc N k<2^64:=JD (hN.fr k hk) _ (aC _)
end
section
variable (p:List Nat) (h64:Gk p)
include h64
end
theorem lZ{f:Nat->Bool}{k:Nat}(hk:k<n)(h:f k=false):(List.range n).all f=false:=by
 grind
theorem XX{f:Nat->Bool}(h: ∀i,i<n->f i=true):(List.range n).all f=true:=by
 simp_all
section
variable (j:List Nat) (h64:Gk j)
include h64
end
section
variable (p:List Nat) (hl:p.length<=64) (h64:Gk p) (n:Nat) (hn:p.length=n)
include hl h64 hn
omit hl h64 hn in
end
section
variable (j:List Nat) (h64:Gk j) (n:Nat) (hn:j.length=n) (h5:n<=8)
include h64 hn h5
end
def pL(N:List Mc):List Nat:=(List.range N.length).map (Zc N)
theorem DR(N:List Mc):(pL N).length=N.length:=by simp[pL]
theorem CD(N:List Mc):uF (Zc N) N.length=ut (pL N):=by unfold uF ut pL;rw[List.map_map];rfl
theorem SR{k:Nat}(h:k<N.length):(pL N).getD k 0=Zc N k:=by
 unfold pL
 rw[aA,bD,eA h];rfl
theorem CE(h:WC N):Gk (pL N):=λx hx=>by
 obtain⟨k,hk,rfl⟩:=cC.1 hx
 exact HB N h (bB.1 hk)
section
variable {N:List Mc} (hq:1<=N.length/\N.length<=5) (hf: ∀k,k<N.length->Hw (N.getD k Ao).fr N.length/\(N.getD k Ao).fr.length<=5)
include hq hf
theorem YB{u v:Nat}:(Zc N u).testBit v=true↔∃i,i<(N.getD u Ao).fr.length/\((N.getD u Ao).fr.getD i 0).toNat=v:=nV _ (aC _)
theorem CQ{u v:Nat}(hu:u<N.length)(h:(Zc N u).testBit v=true):v<N.length:=by
 obtain⟨i,h1,h2⟩:=(YB hq hf).1 h
 have:=(hf u hu).1 i h1
 omega
theorem nK(h:Jk N=true):JQ (pL N):=by
 obtain⟨rk,hr⟩:=BZ hq hf h
 refine⟨rk,λu hu v hv=>?_⟩
 rw[DR]at hu⊢
 rw[SR hu]at hv
 refine⟨CQ hq hf hu hv,?_⟩
 obtain⟨i,h1,h2⟩:=(YB hq hf).1 hv
 have:=(hr u hu).2 i h1
 rwa [h2]at this
theorem AC(h:JQ (pL N)){k:Nat}(hk:k<N.length):Tr k (N.getD k Ao).fr=false:=by
 obtain⟨rk,hr⟩:=h
 rw[mP]
 intro i hi e
 have hb:(Zc N k).testBit k=true:=(YB hq hf).2 ⟨i,hi,by rw[e];rfl⟩
 have:=(hr k (by rw[DR];exact hk) k (by rw[SR hk];exact hb)).2
 omega
theorem T3{k:Nat}(hk:k<N.length):Zc N k<2^64:=JD (λi hi=>by have:=(hf k hk).1 i hi;omega) _ (aC _)
theorem nL: ∀k,Sub d (Ic N d k)
 |0=>.refl d
 |k+1=>by
  refine(nL k).trans ?_
  show Sub _ (La N (Ic N d k) k)
  unfold La
  split
  .exact .orl
  .exact .refl _
theorem xC{k:Nat}: ∀m,Sub (Ic N d k) (Ic N d (k+m))
 |0=>.refl _
 |m+1=>by
  refine(xC m).trans ?_
  show Sub _ (La N (Ic N d (k+m)) (k+m))
  unfold La
  split
  .exact .orl
  .exact .refl _
theorem Vm(hd:d<2^N.length): ∀k,k<=N.length->Ic N d k<2^N.length
 |0,_=>hd
 |k+1,hk=>by
  show La N (Ic N d k) k< _
  unfold La
  split
  .exact dL (Vm hd k o_) (dD o_ o_)
  .exact Vm hd k o_
theorem DH: ∀r,Gq N r<2^N.length
 |0=>Nat.two_pow_pos _
 |r+1=>Vm hq hf (DH r) _ (aC _)
theorem AD(h:JQ (pL N)):Jk N=true:=by
 have h64:Gk (pL N):=λx hx=>by
  obtain⟨k,hk,rfl⟩:=cC.1 hx
  exact T3 hq hf (bB.1 hk)
 have hpw: ∀r,Gq N r<2^64:=WW hq.2
 have key: ∀r,r<=N.length ->r<=Ux N.length (Gq N r):=by
  intro r
  induction r with
  |zero=>intro _;exact aG _
  | succ r ih =>
   intro hr
   have ih:=ih o_
   have hsub:Sub (Gq N r) (Gq N (r+1)):=nL hq hf N.length
   by_cases hall: ∀i,i<N.length->(Gq N r).testBit i=true
   .have:N.length<=Ux N.length (Gq N (r+1)):=by
     unfold Ux
     have:(List.range N.length).countP (λi=>(Gq N (r+1)).testBit i)=(List.range N.length).length:=List.countP_eq_length.2 λi hi=>hsub i (hall i (bB.1 hi))
     rw[fJ]at this
     omega
    omega
   .obtain⟨v,hv,hvb⟩: ∃v,v<(pL N).length/\(Gq N r).testBit v=false:=by
     by_cases hx: ∃v,v<(pL N).length/\(Gq N r).testBit v=false
     .exact hx
     .refine absurd (λi hi=>?_) hall
      cases hb:(Gq N r).testBit i with
      |true=>rfl
      |false=>exact absurd ⟨i,by rw[DR];exact hi,hb⟩ hx
    obtain⟨u,hu,hok,_⟩:=wZ h h64 (hpw r) ⟨v,hv,hvb⟩
    rw[DR]at hu
    obtain⟨ho1,ho2⟩:=hok
    rw[SR hu]at ho2
    have hu2:(Gq N (r+1)).testBit u=true:=by
     have h1:(Ic N (Gq N r) (u+1)).testBit u=true:=by
      show(La N (Ic N (Gq N r) u) u).testBit u=true
      have hm:mi (Cr (N.getD u Ao).fr (N.getD u Ao).fr.length) (Ic N (Gq N r) u)=0:=by
       have a1:=T3 hq hf hu
       have a2:=SV (N:=N) (hpw r) u o_
       exact(mN a1 a2).2 (((mN a1 (hpw r)).1 ho2).trans (nL hq hf u))
      unfold La
      rw[if_pos hm,cP,Nat.testBit_two_pow_self,Bool.or_true]
     have h2:=xC hq hf (d:=Gq N r) (k:=u+1) (N.length-(u+1)) u h1
     rw[show u+1+(N.length-(u+1))=N.length by omega]at h2
     exact h2
    have:=XE hsub hu ho1 hu2
    omega
 have hfull:=xF (key N.length (aC _))
 unfold Jk
 rw[decide_eq_true_eq]
 refine dO λi=>?_
 rw[dK]
 by_cases hi:i<N.length
 .rw[hfull i hi,decide_eq_true hi]
 .rw[decide_eq_false hi,cI (aQ (DH hq hf N.length) (aH d_ o_))]
theorem AF:Ml (pL N)=Jk N:=by
 have hp: ∀k,k<(pL N).length->(pL N).getD k 0<2^(pL N).length:=λk hk=>by
  rw[DR]at hk⊢
  rw[SR hk]
  exact Z4 λb hb=>CQ hq hf hk hb
 cases h:Jk N with
 |true=>exact(vC hp).2 (nK hq hf h)
 |false=>
  cases h2:Ml (pL N)with
  |false=>rfl
  |true=>rw[AD hq hf ((vC hp).1 h2)]at h;cases h
end
abbrev iE(L:List Int)(n:Int)(k:Nat):SL:={sl:=[(0,sl L),(1,i6 n),(5,i6 k)]}
theorem ja(L:List Int)(n:Int)(hl:L.length<=1000000):
  Au Pg none 0 (aT 37 11010) (Al g0 41 (iE L n 0)) (B3 g0 41 [(De n L=true,.exit 0,{sl:=[]}),(De n L=false,.ret,{sl:=[(4,.bool false)]})]):=by
 have hL:=Ap L
 refine C9 (aT 37 110100) (λk=>k<=L.length/\∀i,i<k->0<=L.getD i 0/\L.getD i 0<n/\(i=0\/L.getD (i-1) 0<L.getD i 0)) (iE L n) (λk=>L.length-k) (λk hk=>?_) 0 ⟨aG _,λi h=>absurd h (aJ _)⟩
 obtain⟨hk,hin⟩:=hk
 by_cases hlt:k<L.length
 .have hld:=Dm hlt
  have bad:(¬(0<=L.getD k 0/\L.getD k 0<n/\(k=0\/L.getD (k-1) 0<L.getD k 0)))->De n L=false:=λhno=>by
   cases hb:De n L with
   |false=>rfl
   |true=>exact absurd (JO.1 hb k hlt) hno
  have good:(0<=L.getD k 0/\L.getD k 0<n/\(k=0\/L.getD (k-1) 0<L.getD k 0))->∀i,i<k+1->0<=L.getD i 0/\L.getD i 0<n/\(i=0\/L.getD (i-1) 0<L.getD i 0):=λh i hi=>by
   by_cases hik:i=k
   .subst hik;exact h
   .exact hin i o_
  by_cases h1:0<=L.getD k 0
  .by_cases h2:L.getD k 0<n
   .by_cases h0:k=0
    .subst h0
     have hg:=good ⟨h1,h2,.inl rfl⟩
     refine .inl ⟨1,[],[As 9,pl 14,ld 15 (i6 (L.getD 0 0)),no 16,pl 20,ld 21 (i6 (L.getD 0 0)),no 23,no 27,nu 11 ((1:Nat):Int)],1000,⟨hlt,hg⟩,o_,?_⟩
     clear hin bad good hg
     generalize L.getD 0 0=x at*
     exact C8 (let z0:=(↑(0:Nat):Int);[_,_,_,decide (x<(0:Int))=false,_,_,decide (x≥n)=false,decide (z0>(0:Int))=false,wr .i64 (z0+(1:Int))=(↑(1:Nat):Int)]) ⟨Bf hlt,Ar hlt,hld,aq,Ar hlt,hld,a_⟩
    .have hld2:=Dm (l:=L) (k:=k-1) o_
     obtain⟨q,hq⟩: ∃q,q=k-1:=⟨_,rfl⟩
     have ek:k=q+1:=o_
     by_cases h3:L.getD (k-1) 0<L.getD k 0
     .have hg:=good ⟨h1,h2,.inr h3⟩
      refine .inl ⟨k+1,[],[As 9,pl 14,ld 15 (i6 (L.getD k 0)),no 16,pl 20,ld 21 (i6 (L.getD k 0)),no 23,As 27,pl 31,ld 32 (i6 (L.getD k 0)),nu 35 q,pl 36,ld 37 (i6 (L.getD (k-1) 0)),no 38,nu 11 ((k+1:Nat):Int)],1000,⟨hlt,hg⟩,o_,?_⟩
      clear hin bad good hg
      rw[<-hq]at hld2 h3⊢
      generalize L.getD k 0=x,L.getD q 0=y at*
      exact C8 (let z0:=(↑k:Int);let z5:=(↑q:Int);[_,_,_,decide (x<(0:Int))=false,_,_,decide (x≥n)=false,decide (z0>(0:Int))=true,_,_,wr .i64 (z0-(1:Int))=z5,An [(0:Int)<=z5,z5<(↑L.length:Int)],_,decide (x<=y)=false,wr .i64 (z0+(1:Int))=(↑(k+1):Int)]) ⟨Bf hlt,Ar hlt,hld,aq,Ar hlt,hld,aq,aq,Ar hlt,hld,aq,a_,hld2,a_⟩
     .have hf:=bad (λ⟨_,_,h⟩=>h.elim h0 h3)
      refine .inr ⟨.ret,[],{sl:=[(4,.bool false)]},[As 9,pl 14,ld 15 (i6 (L.getD k 0)),no 16,pl 20,ld 21 (i6 (L.getD k 0)),no 23,As 27,pl 31,ld 32 (i6 (L.getD k 0)),nu 35 q,pl 36,ld 37 (i6 (L.getD (k-1) 0)),As 38],1000,.inr (.inl ⟨hf,rfl,rfl⟩),?_⟩
      clear hin bad good
      rw[<-hq]at hld2 h3⊢
      generalize L.getD k 0=x,L.getD q 0=y at*
      exact Cj (let z4:=(↑q:Int);[_,_,_,decide (x<(0:Int))=false,_,_,decide (x≥n)=false,decide ((↑k:Int)>(0:Int))=true,_,_,wr .i64 ((↑k:Int)-(1:Int))=z4,An [(0:Int)<=z4,z4<(↑L.length:Int)],_,decide (x<=y)=true]) ⟨Bf hlt,Ar hlt,hld,aq,Ar hlt,hld,aq,aq,Ar hlt,hld,aq,a_,hld2,aq⟩
   .have hf:=bad (λ⟨_,h,_⟩=>h2 h)
    refine .inr ⟨.ret,[],{sl:=[(4,.bool false)]},[As 9,pl 14,ld 15 (i6 (L.getD k 0)),no 16,pl 20,ld 21 (i6 (L.getD k 0)),As 23],1000,.inr (.inl ⟨hf,rfl,rfl⟩),?_⟩
    clear hin bad good
    generalize L.getD k 0=x at*
    exact Cj [_,_,_,decide (x<(0:Int))=false,_,_,decide (x≥n)=true] ⟨Bf hlt,Ar hlt,hld,aq,Ar hlt,hld,aq⟩
  .have hf:=bad (λ⟨h,_⟩=>h1 h)
   refine .inr ⟨.ret,[],{sl:=[(4,.bool false)]},[As 9,pl 14,ld 15 (i6 (L.getD k 0)),As 16],1000,.inr (.inl ⟨hf,rfl,rfl⟩),?_⟩
   clear hin bad good
   generalize L.getD k 0=x at*
   exact Cj [_,_,_,decide (x<(0:Int))=true] ⟨Bf hlt,Ar hlt,hld,aq⟩
 .have hk2:k=L.length:=o_
  subst hk2
  refine .inr ⟨.exit 0,[],{sl:=[]},[no 9],1000,.inl ⟨JO.2 hin,rfl,rfl⟩,?_⟩
  clear hin
  exact Cj [_] (Cq hlt)
theorem yM(L:List Int)(n:Int)(hl:L.length<=1000000):Ag Pg g0 37 [sl L,i6 n] (.bool (De n L)):=by
 have hL:=Ap L
 have h:=ja L n hl
 generalize De n L=b at*
 refine Ch {sl:=[(4,.bool b)]} [(0,.loop [] (iE L n 0) [(b=true,.exit 0,{sl:=[]}),(b=false,.ret,{sl:=[(4,.bool false)]})])] ?_
 exact m_ (p:=An [Sm (V.bool b),An [An [An [Sm L.length,Sm (Aa L)],n=n,(↑(0:Nat):Int)=(0:Int),Tt],Tt],_,b=true->An [An [b=true,Tt],Tt],b=false->An [An [b=false,Tt],Tt],Tt]) ⟨aq,a_,h,a_⟩
def Ot(g:Int)(L:List Int)(k:Nat):Bool:=decide (0<=L.getD k 0)&&decide (L.getD k 0<=g-Cd (L.take k))
theorem FM{L:List Int}:G4 g L=(decide (1<=L.length)&&decide (L.length<=4)&&(List.range L.length).all (Ot g L)&&decide (g-Cd L=0)):=by
 have e: ∀a b:Bool,(a=true↔b=true)->a=b:=λa b h=>by simp_all
 refine e _ _ ?_
 unfold G4
 simp only[aD,decide_eq_true_eq]
 constructor
 .rintro⟨⟨h1,h2⟩,h3⟩
  have h2:=J3.1 h2
  refine⟨⟨h1,XX λk hk=>?_⟩,o_⟩
  unfold Ot
  have hs:Cd (L.take (k+1))<=Cd L:=by
   have e1:L=L.take (k+1)++L.drop (k+1):=(fU _ _).symm
   have e2:Cd L=Cd (L.take (k+1))+Cd (L.drop (k+1)):=by conv=>lhs;rw[e1,YG]
   have:=(mE (G:=g) (L:=L.drop (k+1)) λx hx=>by
    obtain⟨i,hi,rfl⟩:=Nz (d:=0) (List.mem_of_mem_drop hx)
    exact h2 i hi).1
   omega
  grind[UG]
 .rintro⟨⟨h1,h2⟩,h3⟩
  have hk: ∀k,k<L.length->0<=L.getD k 0/\L.getD k 0<=g-Cd (L.take k):=λk hk=>by
   simp_all[Ot]
  have h0: ∀k,k<=L.length->0<=Cd (L.take k):=by
   intro k
   induction k with
   |zero=>intro _;rw[List.take_zero];trivial
   |succ k ih=>
    grind[UG]
  grind[J3]
section
variable (g:Int) (hg:1<=g/\g<=12) (nR:Nat) (RR:List V) (hRR:Ba RR) (nN:Nat) (NN:List V) (hNN:Ba NN)
include hg hRR hNN
abbrev OJ(g:Int)(nR:Nat)(RR:List V)(nN:Nat)(NN:List V)(p r k:Nat)(lf:Int):SL:={sl:=[(1,.ptr 0 0),(3,i6 p),(4,i6 1),(5,i6 r),(6,i6 lf),(7,i6 k)],os:=[Di g nR RR nN NN]}
abbrev Xw(g:Int)(nR:Nat)(RR:List V)(nN:Nat)(NN:List V)(p r:Nat)(lf:Int):SL:={sl:=[(1,.ptr 0 0),(3,i6 p),(4,i6 1),(5,i6 r),(6,i6 lf)],os:=[Di g nR RR nN NN]}
abbrev Fj:SL:={sl:=[(2,.bool false)]}
theorem OG(L:List Int)(h4:L.length<=4)(p r:Nat)(hr:r<nR)(hd:Ae (RR.drop (r*1))=some (sl L)):
  Au Pg none 0 (aT 8 1111010010011010) (Al g0 227 (OJ g nR RR nN NN p r 0 g)) (B3 g0 227 [((List.range L.length).all (Ot g L)=true,.exit 2,Xw g nR RR nN NN p r (g-Cd L)),((List.range L.length).all (Ot g L)=false,.ret,Fj)]):=by
 have hLf:=Ap L
 refine C9 (aT 8 11110100100110100) (λq=>q.1<=L.length/\q.2=g-Cd (L.take q.1)/\(0<=q.2/\q.2<=12)/\∀i,i<q.1->Ot g L i=true) (λq=>OJ g nR RR nN NN p r q.1 q.2) (λq=>L.length-q.1) (λq hq=>?_) (0,g) ⟨aG _,by rw[List.take_zero];show g=g-0;omega,o_,λi h=>absurd h (aJ _)⟩
 obtain⟨k,lf⟩:=q
 obtain⟨hk,he,hb,hin⟩:=hq
 dsimp only at hk he hb hin
 by_cases hlt:k<L.length
 .have hld:=Dm (l:=L) hlt
  have hs:=UG hlt
  have hno:Ot g L k=false->(List.range L.length).all (Ot g L)=false:=λhx=>lZ hlt hx
  have hw:Ot g L k=(decide (0<=L.getD k 0)&&decide (L.getD k 0<=lf)):=by rw[he];rfl
  have hnx:Ot g L k=true->∀i,i<k+1->Ot g L i=true:=λhx i hi=>by
   grind
  by_cases h1:0<=L.getD k 0
  .by_cases h2:L.getD k 0<=lf
   .have hnx:=hnx (by simp_all)
    generalize L.getD k 0=x at*
    refine .inl ⟨(k+1,lf-x),[0],[pl 71,ld 72 (sl L),As 74,pl 80,ld 81 (sl L),pl 83,ld 84 (i6 x),no 85,pl 90,ld 91 (sl L),pl 93,ld 94 (i6 x),no 96,pl 102,ld 103 (sl L),pl 105,ld 106 (i6 x),nu 107 (lf-x),nu 76 ((k+1:Nat):Int)],1000,⟨hlt,by grind,o_,hnx⟩,o_,?_⟩
    dsimp only
    clear hnx hno hin hw he hs
    exact C8 [_,_,_,_,_,_,_,decide (x<(0:Int))=false,_,_,_,_,decide (x>lf)=false,_,_,_,_,wr .i64 (lf-x)=lf-x,_] ⟨Ar hr,hd,Bf hlt,Ar hr,hd,Ar hlt,hld,aq,Ar hr,hd,Ar hlt,hld,aq,Ar hr,hd,Ar hlt,hld,aq,Dw k o_⟩
   .have hf:=hno (by simp_all)
    generalize L.getD k 0=x at*
    refine .inr ⟨.ret,[],Fj,[pl 71,ld 72 (sl L),As 74,pl 80,ld 81 (sl L),pl 83,ld 84 (i6 x),no 85,pl 90,ld 91 (sl L),pl 93,ld 94 (i6 x),As 96],1000,.inr (.inl ⟨hf,rfl,rfl⟩),?_⟩
    dsimp only
    clear hnx hno hin hw he hs hf
    exact Cj [_,_,_,_,_,_,_,decide (x<(0:Int))=false,_,_,_,_,decide (x>lf)=true] ⟨Ar hr,hd,Bf hlt,Ar hr,hd,Ar hlt,hld,aq,Ar hr,hd,Ar hlt,hld,aq⟩
  .have hf:=hno (by grind)
   generalize L.getD k 0=x at*
   refine .inr ⟨.ret,[],Fj,[pl 71,ld 72 (sl L),As 74,pl 80,ld 81 (sl L),pl 83,ld 84 (i6 x),As 85],1000,.inr (.inl ⟨hf,rfl,rfl⟩),?_⟩
   dsimp only
   clear hnx hno hin hw he hs hf
   exact Cj [_,_,_,_,_,_,_,decide (x<(0:Int))=true] ⟨Ar hr,hd,Bf hlt,Ar hr,hd,Ar hlt,hld,aq⟩
 .have hkl:k=L.length:=o_
  have hf:(List.range L.length).all (Ot g L)=true:=XX λi hi=>hin i o_
  rw[bF o_]at he
  refine .inr ⟨.exit 2,[0],Xw g nR RR nN NN p r (g-Cd L),[pl 71,ld 72 (sl L),no 74],1000,.inl ⟨hf,rfl,rfl⟩,?_⟩
  rw[<-he]
  dsimp only
  clear hf hin he
  exact Cj [_,_,_] ⟨Ar hr,hd,Cq hlt⟩
abbrev BY(g:Int)(nR:Nat)(RR:List V)(nN:Nat)(NN:List V)(r p:Nat):SL:={sl:=[(1,.ptr 0 0),(3,i6 p),(4,i6 1),(5,i6 r)],os:=[Di g nR RR nN NN]}
abbrev Mu(g:Int)(nR:Nat)(RR:List V)(nN:Nat)(NN:List V)(p:Nat):SL:={sl:=[(1,.ptr 0 0),(3,i6 p),(4,i6 1)],os:=[Di g nR RR nN NN]}
end
theorem GB{k:Nat}(h: ∀i,i<k->G4 g (R.getD i [])=true):B4 R k<=4^k:=by
 induction k with
 |zero=>exact aC _
 |succ k ih=>
  have h1:=ih (λi hi=>h i o_)
  have h2:=XL (h k o_)
  simp_all[B4,bK,cX]
theorem FN(g:Int)(hg:1<=g/\g<=12)(R:List (List Int))(h8:R.length<=8)(nN:Nat)(NN:List V)(hNN:Ba NN):
  Au Pg none 0 (aT 8 1111010) (Al g0 227 (BY g R.length (Ah R) nN NN 0 1)) (B3 g0 227 [(R.all (G4 g)=true,.exit 0,Mu g R.length (Ah R) nN NN (B4 R R.length)),(R.all (G4 g)=false,.ret,Fj)]):=by
 have hRR:=B7 R
 refine C9 (aT 8 11110100) (λq=>q.1<=R.length/\q.2=B4 R q.1/\∀i,i<q.1->G4 g (R.getD i [])=true) (λq=>BY g R.length (Ah R) nN NN q.1 q.2) (λq=>R.length-q.1) (λq hq=>?_) (0,1) ⟨aG _,rfl,λi h=>absurd h (aJ _)⟩
 obtain⟨r,p⟩:=q
 obtain⟨hr,hp,hin⟩:=hq
 dsimp only at hr hp hin
 by_cases hlt:r<R.length
 .have hd:=Pk hlt
  have hno:G4 g (R.getD r [])=false->R.all (G4 g)=false:=λh=>by
   grind
  have hnx:G4 g (R.getD r [])=true->∀i,i<r+1->G4 g (R.getD i [])=true:=λhx i hi=>by
   grind
  have hpb:=GB hin
  rw[<-hp]at hpb
  have h48:4^r<=65536:=aH (n:=4) d_ (show r<=8 by omega)
  have hp2:B4 R (r+1)=p*(R.getD r []).length:=by rw[hp];rfl
  rw[FM]at hno hnx
  generalize R.getD r []=L at*
  have hLf:=Ap L
  by_cases h1:1<=L.length
  .by_cases h4:L.length<=4
   .have hl:=OG g hg R.length (Ah R) hRR nN NN hNN L h4 p r hlt hd
    rw[decide_eq_true h1,decide_eq_true h4]at hno hnx
    have hmul:p*L.length<=65536*4:=cX o_ h4
    cases hc:(List.range L.length).all (Ot g L)with
    |false=>
     have hf:=hno (by rw[hc];rfl)
     rw[hc]at hl
     have hl':=hl.snd (λh=>by cases h)
     clear hl hno hnx hc hin
     refine .inr ⟨.ret,[],Fj,[As 46,pl 52,ld 53 (sl L),no 55,pl 60,ld 61 (sl L),no 63,(0,.loop [0] (OJ g R.length (Ah R) nN NN p r 0 g) [(True,.ret,Fj)])],1000,.inr (.inl ⟨hf,rfl,rfl⟩),?_⟩
     dsimp only
     generalize Ah R=RR,R.length=nR at*
     exact m_ (p:=let z1:=[i6 g,V.im nR RR,V.im nN NN];An [_,_,_,decide ((↑L.length:Int)<(1:Int))=false,_,_,decide ((↑L.length:Int)>(4:Int))=false,An [An [Zz,Sm (↑p:Int),Sm (1:Int),(↑r:Int)=(↑r:Int),g=g,(↑(0:Nat):Int)=(0:Int),Tt],An [z1=z1,TT 3],Tt],_,(True->An [An [Sm false,Tt],Tt]),Tt]) ⟨Bf hlt,Ar hlt,hd,aq,Ar hlt,hd,aq,a_,hl',a_⟩
    | true =>
     rw[hc]at hl hno hnx
     have hl':=hl.fst (λh=>by cases h)
     clear hl hc hin
     generalize hlf:g-Cd L=lf at*
     by_cases h0:lf=0
     .have hnx:=hnx (by simp_all)
      refine .inl ⟨(r+1,B4 R (r+1)),[0],[As 46,pl 52,ld 53 (sl L),no 55,pl 60,ld 61 (sl L),no 63,(0,.loop [0] (OJ g R.length (Ah R) nN NN p r 0 g) [(True,.exit 2,Xw g R.length (Ah R) nN NN p r lf)]),no 109,pl 114,ld 115 (sl L),nu 117 (B4 R (r+1):Nat),nu 48 ((r+1:Nat):Int)],1000,⟨hlt,rfl,hnx⟩,o_,?_⟩
      dsimp only
      rw[hp2]
      have hwm:wr .i64 ((p:Int)*(L.length:Int))=((p*L.length:Nat):Int):=by
       rw[<-cJ]
       exact Vu (by grind[lo]) (by grind[hi])
      generalize p*L.length=p' at*
      clear hno hnx hp2 hp hlf
      generalize Ah R=RR,R.length=nR at*
      exact m_ (p:=let z1:=[i6 g,V.im nR RR,V.im nN NN];let z3:=(1:Int);let z4:=(↑L.length:Int);An [_,_,_,decide (z4<z3)=false,_,_,decide (z4>(4:Int))=false,An [An [Zz,(↑p:Int)=(↑p:Int),z3=z3,(↑r:Int)=(↑r:Int),g=g,(↑(0:Nat):Int)=(0:Int),Tt],An [z1=z1,TT 3],Tt],_,(True->An [(lf != (0:Int))=false,_,_,_,_,An [Zz,(↑p':Int)=(↑p':Int),z3=z3,(↑(r+1):Int)=(↑(r+1):Int),Tt],An [z1=z1,TT 3],Tt]),Tt]) ⟨Bf hlt,Ar hlt,hd,aq,Ar hlt,hd,aq,a_,hl',(λ_=>⟨aq,Ar hlt,hd,hwm,Dw r o_,a_⟩),aq⟩
     .have hf:=hno (by simp_all)
      refine .inr ⟨.ret,[],Fj,[As 46,pl 52,ld 53 (sl L),no 55,pl 60,ld 61 (sl L),no 63,(0,.loop [0] (OJ g R.length (Ah R) nN NN p r 0 g) [(True,.exit 2,Xw g R.length (Ah R) nN NN p r lf)]),As 109],1000,.inr (.inl ⟨hf,rfl,rfl⟩),?_⟩
      dsimp only
      clear hno hnx hp2 hp hlf hf
      generalize Ah R=RR,R.length=nR at*
      exact m_ (p:=let z1:=[i6 g,V.im nR RR,V.im nN NN];An [_,_,_,decide ((↑L.length:Int)<(1:Int))=false,_,_,decide ((↑L.length:Int)>(4:Int))=false,An [An [Zz,Sm (↑p:Int),Sm (1:Int),(↑r:Int)=(↑r:Int),g=g,(↑(0:Nat):Int)=(0:Int),Tt],An [z1=z1,TT 3],Tt],_,(True->An [(lf != (0:Int))=true,An [Sm false,Tt],Tt]),Tt]) ⟨Bf hlt,Ar hlt,hd,aq,Ar hlt,hd,aq,a_,hl',a_⟩
   .have hf:=hno (by grind)
    clear hno hnx hin hp2 hp
    refine .inr ⟨.ret,[],Fj,[As 46,pl 52,ld 53 (sl L),no 55,pl 60,ld 61 (sl L),As 63],1000,.inr (.inl ⟨hf,rfl,rfl⟩),?_⟩
    dsimp only
    generalize Ah R=RR,R.length=nR at*
    exact Cj [_,_,_,decide ((↑L.length:Int)<(1:Int))=false,_,_,decide ((↑L.length:Int)>(4:Int))=true] ⟨Bf hlt,Ar hlt,hd,aq,Ar hlt,hd,aq⟩
  .have hf:=hno (by simp_all)
   clear hno hnx hin hp2 hp
   refine .inr ⟨.ret,[],Fj,[As 46,pl 52,ld 53 (sl L),As 55],1000,.inr (.inl ⟨hf,rfl,rfl⟩),?_⟩
   dsimp only
   generalize Ah R=RR,R.length=nR at*
   exact Cj [_,_,_,decide ((↑L.length:Int)<(1:Int))=true] ⟨Bf hlt,Ar hlt,hd,aq⟩
 .have hk2:r=R.length:=o_
  subst hk2
  have hall:R.all (G4 g)=true:=aO.2 λL hL=>by
   obtain⟨i,hi,rfl⟩:=Nz (d:=[]) hL
   exact hin i hi
  refine .inr ⟨.exit 0,[0],Mu g R.length (Ah R) nN NN (B4 R R.length),[no 46],1000,.inl ⟨hall,rfl,rfl⟩,?_⟩
  rw[<-hp]
  dsimp only
  clear hin hall hp
  generalize Ah R=RR,R.length=nR at*
  exact Cj [_] (Cq hlt)
def GD(R:List (List Int))(N:List Mc)(k:Nat):Bool:=decide (1<=(N.getD k Ao).c)&&decide ((N.getD k Ao).c<=4)&&De N.length (N.getD k Ao).fr&&De R.length (N.getD k Ao).no
def CB(R:List (List Int))(N:List Mc):Bool:=(List.range N.length).all (GD R N)
abbrev FP(g:Int)(nR:Nat)(RR:List V)(nN:Nat)(NN:List V)(hd:Nat)(k:Nat)(p:Int):SL:={sl:=[(1,.ptr 0 0),(3,i6 hd),(4,i6 p),(8,i6 k)],os:=[Di g nR RR nN NN]}
abbrev Ov(g:Int)(nR:Nat)(RR:List V)(nN:Nat)(NN:List V)(hd:Nat)(p:Int):SL:={sl:=[(1,.ptr 0 0),(3,i6 hd),(4,i6 p)],os:=[Di g nR RR nN NN]}
theorem Xx(g:Int)(R:List (List Int))(N:List Mc)(hq:N.length<=5)(hl:B8 R N)(hd:Nat):
  Au Pg none 0 (aT 8 11111010) (Al g0 227 (FP g R.length (Ah R) N.length (Ak N) hd 0 1)) (B3 g0 227 [(CB R N=true,.exit 4,Ov g R.length (Ah R) N.length (Ak N) hd (By N N.length)),(CB R N=false,.ret,Fj)]):=by
 have hRR:=B7 R
 have hNN:=Cl N
 refine C9 (aT 8 111110100) (λq=>q.1<=N.length/\q.2=By N q.1/\(1<=q.2/\q.2<=4^q.1)/\∀i,i<q.1->GD R N i=true) (λq=>FP g R.length (Ah R) N.length (Ak N) hd q.1 q.2) (λq=>N.length-q.1) (λq hq=>?_) (0,1) ⟨aG _,rfl,d_,λi h=>absurd h (aJ _)⟩
 obtain⟨k,p⟩:=q
 obtain⟨hk,hp,hpb,hin⟩:=hq
 dsimp only at hk hp hpb hin
 by_cases hlt:k<N.length
 .have hld:=DX hlt
  have hx:=hl.2 _ (DO (d:=Ao) hlt)
  have hno:GD R N k=false->CB R N=false:=λh=>lZ hlt h
  have hnx:GD R N k=true->∀i,i<k+1->GD R N i=true:=λhx i hi=>by
   by_cases hiv:i=k
   .subst hiv;exact hx
   .exact hin i o_
  have hp2:By N (k+1)=p*(N.getD k Ao).c:=by rw[hp];rfl
  have he:GD R N k=(decide (1<=(N.getD k Ao).c)&&decide ((N.getD k Ao).c<=4)&&De N.length (N.getD k Ao).fr&&De R.length (N.getD k Ao).no):=rfl
  rw[he]at hno hnx
  have h44:(4:Int)^k<=256:=by
   rcases(by omega:k=0\/k=1\/k=2\/k=3\/k=4)with rfl|rfl|rfl|rfl|rfl<;>decide
  have e44:(4:Int)^(k+1)=4^k*4:=cV ..
  clear he hin
  generalize N.getD k Ao=x at*
  obtain⟨c,fr,nz,ou⟩:=x
  dsimp only at*
  have f1:=Ap fr
  have f2:=Ap nz
  have f3:=Ap ou
  have p1:=yM fr N.length hx.1
  have p2:=yM nz R.length hx.2.1
  by_cases h1:1<=c
  .by_cases h4:c<=4
   .rw[decide_eq_true h1,decide_eq_true h4]at hno hnx
    cases b1:De N.length fr with
    |false=>
     rw[b1]at p1
     have hf:=hno (by rw[b1];rfl)
     clear hno hnx p2 b1 hl hp2 hp
     refine .inr ⟨.ret,[],Fj,[As 122,pl 128,ld 129 (.agg (Fq ⟨c,fr,nz,ou⟩)),no 132,no 136,fn 144 (.bool false)],1000,.inr (.inl ⟨hf,rfl,rfl⟩),?_⟩
     try dsimp only
     generalize Ah R=RR,Ak N=NN,R.length=nR,N.length=n at*
     exact Cj [_,_,_,decide (c<(1:Int))=false,decide (c>(4:Int))=false,_] ⟨Bf hlt,Ar hlt,hld,aq,aq,p1⟩
    | true =>
     rw[b1]at p1
     cases b2:De R.length nz with
     |false=>
      rw[b2]at p2
      have hf:=hno (by rw[b1,b2];rfl)
      clear hno hnx hl hp2 hp
      refine .inr ⟨.ret,[],Fj,[As 122,pl 128,ld 129 (.agg (Fq ⟨c,fr,nz,ou⟩)),no 132,no 136,fn 144 (.bool true),fn 153 (.bool false)],1000,.inr (.inl ⟨hf,rfl,rfl⟩),?_⟩
      try dsimp only
      generalize Ah R=RR,Ak N=NN,R.length=nR,N.length=n at*
      exact Cj (let z0:=pt (pt (Ai T.e 0 [Di g nR RR n NN]) 1 (O.row 86 none [i6 0,V.nils,V.nils,V.nils])) 1 (O.row 86 none [i6 c,sl fr,sl nz,sl ou]);[_,_,_,decide (c<(1:Int))=false,decide (c>(4:Int))=false,_,_,V.fn 37 []=V.fn 37 []->[sl fr,i6 ↑n]=[sl nz,i6 ↑nR]->z0=z0->1+1=2->CR.mk (V.bool true) z0 2 []=CR.mk (V.bool false) z0 2 []]) ⟨Bf hlt,Ar hlt,hld,aq,aq,p1,p2,(by(intro _ h9;simp only[cT,V.int.injEq,and_true,true_and]at h9;obtain⟨e1,e2⟩:=h9;have e3:=kZ e1;subst e3;rw[e2]at b1;rw[b1]at b2;cases b2))⟩
     |true=>
      rw[b2]at p2
      have hnx:=hnx (by rw[b1,b2];rfl)
      have hm1:1*1<=p*c:=bC hpb.1 h1 d_ o_
      have hm2:p*c<=4^k*4:=bC hpb.2 h4 o_ o_
      have hwm:wr .i64 (p*c)=p*c:=Vu (by simp[lo];omega) (by simp[hi];omega)
      rw[<-hp2]at hwm hm1 hm2
      refine .inl ⟨(k+1,By N (k+1)),[0],[As 122,pl 128,ld 129 (.agg (Fq ⟨c,fr,nz,ou⟩)),no 132,no 136,fn 144 (.bool true),fn 153 (.bool true),nu 159 (By N (k+1)),nu 124 ((k+1:Nat):Int)],1000,⟨hlt,rfl,⟨by dsimp only;omega,by dsimp only;omega⟩,hnx⟩,by dsimp only;omega,?_⟩
      try dsimp only
      clear hno hnx b1 b2 hl hp hm1 hm2 hpb e44 h44
      rw[hp2]at hwm⊢
      clear hp2
      generalize hp':p*c=p',Ah R=RR,Ak N=NN,R.length=nR,N.length=n at*
      exact C8 (let z0:=pt (pt (Ai T.e 0 [Di g nR RR n NN]) 1 (O.row 86 none [i6 0,V.nils,V.nils,V.nils])) 1 (O.row 86 none [i6 c,sl fr,sl nz,sl ou]);[_,_,_,decide (c<(1:Int))=false,decide (c>(4:Int))=false,_,_,V.fn 37 []=V.fn 37 []->[sl fr,i6 ↑n]=[sl nz,i6 ↑nR]->z0=z0->1+1=2->Sm (CR.mk (V.bool true) z0 2 []),wr .i64 (p*c)=p',_]) ⟨Bf hlt,Ar hlt,hld,aq,aq,p1,p2,aq,aq,Dw k o_⟩
   .have hf:=hno (by rw[decide_eq_false h4,Bool.and_false];rfl)
    clear hno hnx p1 p2 hl hp2 hp
    refine .inr ⟨.ret,[],Fj,[As 122,pl 128,ld 129 (.agg (Fq ⟨c,fr,nz,ou⟩)),no 132,As 136],1000,.inr (.inl ⟨hf,rfl,rfl⟩),?_⟩
    try dsimp only
    generalize Ah R=RR,Ak N=NN,R.length=nR,N.length=n at*
    exact Cj [_,_,_,decide (c<(1:Int))=false,decide (c>(4:Int))=true] ⟨Bf hlt,Ar hlt,hld,a_⟩
  .have hf:=hno (by rw[decide_eq_false h1];rfl)
   clear hno hnx p1 p2 hl hp2 hp
   refine .inr ⟨.ret,[],Fj,[As 122,pl 128,ld 129 (.agg (Fq ⟨c,fr,nz,ou⟩)),As 132],1000,.inr (.inl ⟨hf,rfl,rfl⟩),?_⟩
   try dsimp only
   generalize Ah R=RR,Ak N=NN,R.length=nR,N.length=n at*
   exact Cj [_,_,_,decide (c<(1:Int))=true] ⟨Bf hlt,Ar hlt,hld,aq⟩
 .have hk2:k=N.length:=o_
  subst hk2
  have hall:CB R N=true:=XX hin
  refine .inr ⟨.exit 4,[0],Ov g R.length (Ah R) N.length (Ak N) hd (By N N.length),[no 122],1000,.inl ⟨hall,rfl,rfl⟩,?_⟩
  rw[<-hp]
  try dsimp only
  clear hin hall hp hl
  generalize Ah R=RR,Ak N=NN,R.length=nR,N.length=n at*
  exact Cj [_] (Cq hlt)
def Gm(cs:List Int):Nat->Int
 |0=>1
 |k+1=>Gm cs k*cs.getD k 0
theorem tP{a b:List Int}: ∀k,Gm (a++b) (a.length+k)=Gm a a.length*Gm b k
 | 0 => by
  have key: ∀k,k<=a.length->Gm (a++b) k=Gm a k:=by
   intro k
   induction k with
   |zero=>intro _;rfl
   |succ k ih=>
    intro hk
    show Gm (a++b) k* _=Gm a k* _
    rw[ih o_,aA,bN o_,<-aA]
  rw[dE,key _ (aC _)]
  show _=_*1
  omega
 |k+1=>by
  show Gm (a++b) (a.length+k)*(a++b).getD (a.length+k) 0=Gm a a.length*(Gm b k*b.getD k 0)
  rw[tP k,aA,bU o_,cR,<-aA,eU]
theorem R8(h: ∀k,k<cs.length->1<=cs.getD k 0/\cs.getD k 0<=4): ∀k,k<=cs.length->1<=Gm cs k/\Gm cs k<=4^k
 |0,_=>by show 1<=(1:Int)/\(1:Int)<=4^0;decide
 |k+1,hk=>by
  obtain⟨h1,h2⟩:=R8 h k o_
  obtain⟨h3,h4⟩:=h k o_
  show 1<=Gm cs k* _/\Gm cs k* _<=_
  have e:(4:Int)^(k+1)=4^k*4:=cV ..
  have a1:1*1<=Gm cs k*cs.getD k 0:=bC h1 h3 d_ o_
  rw[e]
  exact⟨o_,bC h2 h4 o_ o_⟩
section
variable (g:Int) (nR:Nat) (RR:List V) (hRR:Ba RR) (nN:Nat) (NN:List V) (hNN:Ba NN) (c:Int) (fr nz ou:List Int)
include hRR hNN
abbrev OH(g:Int)(nR:Nat)(RR:List V)(nN:Nat)(NN:List V)(x:Mc)(cs:List Int)(n k i:Nat)(p:Int):SL:={sl:=[(1,.ptr 0 0),(10,i6 k),(11,.ptr 1 0),(12,i6 p),(13,.im n (Aa cs)),(14,i6 i)],os:=[Di g nR RR nN NN,N4 x]}
abbrev Rk(g:Int)(nR:Nat)(RR:List V)(nN:Nat)(NN:List V)(x:Mc)(k:Nat)(p:Int):SL:={sl:=[(1,.ptr 0 0),(10,i6 k),(11,.ptr 1 0),(12,i6 p)],os:=[Di g nR RR nN NN,N4 x]}
theorem Xt(cs:List Int)(n k:Nat)(hn:cs.length=n)(h13:n<=13)(h4: ∀i,i<cs.length->1<=cs.getD i 0/\cs.getD i 0<=4):
  Au Pg none 0 (aT 8 11111110100100111010) (Al g0 227 (OH g nR RR nN NN ⟨c,fr,nz,ou⟩ cs n k 0 1)) (B3 g0 227 [(True,.exit 8,Rk g nR RR nN NN ⟨c,fr,nz,ou⟩ k (Gm cs n))]):=by
 have hCf:=Ap cs
 have f1:=Ap fr
 have f2:=Ap nz
 have f3:=Ap ou
 refine C9 (aT 8 111111101001001110100) (λq=>q.1<=n/\q.2=Gm cs q.1) (λq=>OH g nR RR nN NN ⟨c,fr,nz,ou⟩ cs n k q.1 q.2) (λq=>n-q.1) (λq hq=>?_) (0,1) ⟨aG _,rfl⟩
 obtain⟨i,p⟩:=q
 obtain⟨hii,hp⟩:=hq
 dsimp only at hii hp
 by_cases hlt:i<n
 .have hld:=Dm (l:=cs) (k:=i) o_
  have hb:=R8 h4 (i+1) o_
  have h44:(4:Int)^(i+1)<=4^13:=by
   have:=aH (n:=4) d_ (show i+1<=13 by omega)
   have e1:((4^(i+1):Nat):Int)=(4:Int)^(i+1):=by simp
   have e2:((4^13:Nat):Int)=(4:Int)^13:=by simp
   omega
  have e:Gm cs (i+1)=p*cs.getD i 0:=by rw[hp];rfl
  have hwm:wr .i64 (p*cs.getD i 0)=Gm cs (i+1):=by
   rw[<-e]
   have e3:(4:Int)^13=67108864:=d_
   exact Vu (by grind[lo]) (by grind[hi])
  generalize cs.getD i 0=y at*
  refine .inl ⟨(i+1,Gm cs (i+1)),[0,1],[As 190,pl 196,ld 197 (i6 y),nu 198 (Gm cs (i+1)),nu 192 ((i+1:Nat):Int)],1000,⟨hlt,rfl⟩,o_,?_⟩
  try dsimp only
  clear hb h44 e hp h4
  generalize Gm cs (i+1)=p' at*
  exact C8 [_,_,_,_,_] ⟨Bf hlt,Ar hlt,hld,hwm,Dw i o_⟩
 .have hin:i=n:=o_
  subst hin
  rw[<-hp]
  refine .inr ⟨.exit 8,[0,1],Rk g nR RR nN NN ⟨c,fr,nz,ou⟩ k p,[no 190],1000,.inl ⟨trivial,rfl,rfl⟩,?_⟩
  try dsimp only
  clear hp h4
  exact Cj [_] (Cq hlt)
abbrev Ow(g:Int)(nR:Nat)(RR:List V)(nN:Nat)(NN:List V)(x:Mc)(k i:Nat):SL:={sl:=[(1,.ptr 0 0),(10,i6 k),(11,.ptr 1 0),(15,i6 i)],os:=[Di g nR RR nN NN,N4 x]}
abbrev FO(g:Int)(nR:Nat)(RR:List V)(nN:Nat)(NN:List V)(k:Nat):SL:={sl:=[(1,.ptr 0 0),(10,i6 k)],os:=[Di g nR RR nN NN]}
theorem FL(k:Nat)(hl:ou.length<=1000000):
  Au Pg none 0 (aT 8 111111101001001111110) (Al g0 227 (Ow g nR RR nN NN ⟨c,fr,nz,ou⟩ k 0)) (B3 g0 227 [(D5 0 (c-1) ou=true,.exit 10,FO g nR RR nN NN k),(D5 0 (c-1) ou=false,.ret,Fj)]):=by
 have f1:=Ap fr
 have f2:=Ap nz
 have f3:=Ap ou
 refine C9 (aT 8 1111111010010011111100) (λi=>i<=ou.length/\∀m,m<i->0<=ou.getD m 0/\ou.getD m 0<=c-1) (Ow g nR RR nN NN ⟨c,fr,nz,ou⟩ k) (λi=>ou.length-i) (λi hi=>?_) 0 ⟨aG _,λi h=>absurd h (aJ _)⟩
 obtain⟨hi,hin⟩:=hi
 by_cases hlt:i<ou.length
 .have hld:=Dm (l:=ou) hlt
  have bad:(¬(0<=ou.getD i 0/\ou.getD i 0<=c-1))->D5 0 (c-1) ou=false:=λhno=>by
   grind[J3]
  have good:(0<=ou.getD i 0/\ou.getD i 0<=c-1)->∀m,m<i+1->0<=ou.getD m 0/\ou.getD m 0<=c-1:=λh m hm=>by
   grind
  generalize ou.getD i 0=y at*
  by_cases h1:0<=y
  .by_cases h2:y<=c-1
   .have good:=good ⟨h1,h2⟩
    refine .inl ⟨i+1,[0,1],[As 208,pl 214,ld 215 (i6 y),no 216,pl 221,ld 222 (i6 y),no 225,nu 210 ((i+1:Nat):Int)],1000,⟨hlt,good⟩,o_,?_⟩
    clear good bad hin
    exact C8 [_,_,_,decide (y<(0:Int))=false,_,_,decide (y≥c)=false,wr .i64 ((↑i:Int)+(1:Int))=(↑(i+1):Int)] ⟨Bf hlt,Ar hlt,hld,aq,Ar hlt,hld,a_⟩
   .have hf:=bad (λh=>h2 h.2)
    refine .inr ⟨.ret,[],Fj,[As 208,pl 214,ld 215 (i6 y),no 216,pl 221,ld 222 (i6 y),As 225],1000,.inr (.inl ⟨hf,rfl,rfl⟩),?_⟩
    clear good bad hin hf
    exact Cj [_,_,_,decide (y<(0:Int))=false,_,_,decide (y≥c)=true] ⟨Bf hlt,Ar hlt,hld,aq,Ar hlt,hld,aq⟩
  .have hf:=bad (λh=>h1 h.1)
   refine .inr ⟨.ret,[],Fj,[As 208,pl 214,ld 215 (i6 y),As 216],1000,.inr (.inl ⟨hf,rfl,rfl⟩),?_⟩
   clear good bad hin hf
   exact Cj [_,_,_,decide (y<(0:Int))=true] ⟨Bf hlt,Ar hlt,hld,aq⟩
 .have hkl:i=ou.length:=o_
  subst hkl
  have hf:D5 0 (c-1) ou=true:=J3.2 hin
  refine .inr ⟨.exit 10,[0],FO g nR RR nN NN k,[no 208],1000,.inl ⟨hf,rfl,rfl⟩,?_⟩
  clear hf hin
  exact Cj [_] (Cq hlt)
end
def Mr(R:List (List Int))(N:List Mc)(k:Nat):Bool:=decide (((N.getD k Ao).ou.length:Int)=Gm (Eo R N (N.getD k Ao)) (Eo R N (N.getD k Ao)).length)&&D5 0 ((N.getD k Ao).c-1) (N.getD k Ao).ou
def Ki(R:List (List Int))(N:List Mc):Bool:=(List.range N.length).all (Mr R N)
theorem Rf(g:Int)(R:List (List Int))(N:List Mc)(hq5:N.length<=5)(hl:B8 R N)(hz: ∀k,k<N.length->Vq R N (N.getD k Ao))(h13: ∀k,k<N.length->(Eo R N (N.getD k Ao)).length<=13/\∀i,i<(Eo R N (N.getD k Ao)).length->1<=(Eo R N (N.getD k Ao)).getD i 0/\(Eo R N (N.getD k Ao)).getD i 0<=4):
  Au Pg none 0 (aT 8 1111111010) (Al g0 227 (FO g R.length (Ah R) N.length (Ak N) 0)) (B3 g0 227 [(Ki R N=true,.exit 6,{sl:=[]}),(Ki R N=false,.ret,Fj)]):=by
 have hRR:=B7 R
 have hNN:=Cl N
 refine C9 (aT 8 11111110100) (λk=>k<=N.length/\∀i,i<k->Mr R N i=true) (FO g R.length (Ah R) N.length (Ak N)) (λk=>N.length-k) (λk hk=>?_) 0 ⟨aG _,λi h=>absurd h (aJ _)⟩
 obtain⟨hk,hin⟩:=hk
 by_cases hlt:k<N.length
 .have hld:=DX hlt
  have hx:=(hl.2 _ (DO (d:=Ao) hlt)).2.2
  have hget:N[k]? =some (N.getD k Ao):=by rw[aA,aB hlt];rfl
  have hno:Mr R N k=false->Ki R N=false:=λh=>lZ hlt h
  have hnx:Mr R N k=true->∀i,i<k+1->Mr R N i=true:=λhx i hi=>by
   grind
  have he:Mr R N k=(decide (((N.getD k Ao).ou.length:Int)=Gm (Eo R N (N.getD k Ao)) (Eo R N (N.getD k Ao)).length)&&D5 0 ((N.getD k Ao).c-1) (N.getD k Ao).ou):=rfl
  rw[he]at hno hnx
  have hzk:=hz k hlt
  obtain⟨h1,h2⟩:=h13 k hlt
  clear he hin hz h13 hl
  generalize hxe:N.getD k Ao=x at*
  have hsn:=λe1 e2=>pC g R N x k hget hzk e1 e2
  have hsw:=λm hm=>pB g R N x k hget hzk (m:=m) hm
  have e0:x.fr=[]/\x.no=[]↔(Eo R N x).length=0:=by
   unfold Eo
   rw[aR,F4,F4]
   constructor
   .simp
   .simp
  obtain⟨c,fr,nz,ou⟩:=x
  dsimp only at*
  clear hzk hxe hget
  generalize Eo R N ⟨c,fr,nz,ou⟩=cs at*
  have f1:=Ap fr
  have f2:=Ap nz
  have f3:=Ap ou
  have f4:=Ap cs
  have hou:=FL g R.length (Ah R) hRR N.length (Ak N) hNN c fr nz ou k hx
  unfold Bd at hsn hsw
  rcases hm:cs.length with _|m
  .obtain⟨a1,a2⟩:=e0.2 hm
   have hs:=hsn a1 a2
   have hp1:Gm cs cs.length=1:=by rw[hm];rfl
   rw[hp1]at hno hnx
   clear hsn hsw e0 h1 h2 hp1
   generalize Ah R=RR,hNNe:Ak N=NN at*
   by_cases he:(ou.length:Int)=1
   .have he':ou.length=1:=o_
    rw[decide_eq_true he,eD]at hno hnx
    generalize D5 0 (c-1) ou=b at*
    cases b with
    |true=>
     have hnx:=hnx rfl
     have hou':=hou.fst (λh=>by cases h)
     clear hou hno
     refine .inl ⟨k+1,[0],[As 176,pl 182,ld 183 (.agg (Fq ⟨c,fr,nz,ou⟩)),fn 186 .nils,(0,.unroll 1),no 203,(0,.loop [0,1] (Ow g R.length RR N.length NN ⟨c,fr,nz,ou⟩ k 0) [(True,.exit 10,FO g R.length RR N.length NN k)]),nu 178 ((k+1:Nat):Int)],1000,⟨hlt,hnx⟩,o_,?_⟩
     clear hnx
     generalize R.length=nR,N.length=n at*
     exact m_ (p:=let z0:=[i6 g,V.im nR RR,V.im n NN];let z1:=(↑k:Int);let z2:=(↑(k+1):Int);let z3:=[i6 c,sl fr,sl nz,sl ou];An [_,_,_,_,((↑ou.length:Int) != (1:Int))=false,An [An [Zz,z1=z1,Zz,(↑(0:Nat):Int)=(0:Int),Tt],An [z0=z0,TT 3],An [z3=z3,TT 4],Tt],_,(True->An [wr .i64 (z1+(1:Int))=z2,An [Zz,z2=z2,Tt],An [z0=z0,TT 3],Tt]),Tt]) ⟨Bf hlt,Ar hlt,hld,hs,aq,a_,hou',a_⟩
    |false=>
     have hf:=hno rfl
     have hou':=hou.snd (λh=>by cases h)
     clear hou hno hnx
     refine .inr ⟨.ret,[],Fj,[As 176,pl 182,ld 183 (.agg (Fq ⟨c,fr,nz,ou⟩)),fn 186 .nils,(0,.unroll 1),no 203,(0,.loop [0,1] (Ow g R.length RR N.length NN ⟨c,fr,nz,ou⟩ k 0) [(True,.ret,Fj)])],1000,.inr (.inl ⟨hf,rfl,rfl⟩),?_⟩
     clear hf
     generalize R.length=nR,N.length=n at*
     exact m_ (p:=let z0:=[i6 g,V.im nR RR,V.im n NN];let z2:=[i6 c,sl fr,sl nz,sl ou];An [_,_,_,_,((↑ou.length:Int) != (1:Int))=false,An [An [Zz,(↑k:Int)=(↑k:Int),Zz,(↑(0:Nat):Int)=(0:Int),Tt],An [z0=z0,TT 3],An [z2=z2,TT 4],Tt],_,(True->An [An [Sm false,Tt],Tt]),Tt]) ⟨Bf hlt,Ar hlt,hld,hs,aq,a_,hou',a_⟩
   .have hf:=hno (by simp_all)
    clear hou hno hnx
    refine .inr ⟨.ret,[],Fj,[As 176,pl 182,ld 183 (.agg (Fq ⟨c,fr,nz,ou⟩)),fn 186 .nils,(0,.unroll 1),As 203],1000,.inr (.inl ⟨hf,rfl,rfl⟩),?_⟩
    clear hf
    generalize R.length=nR,N.length=n at*
    exact Cj [_,_,_,_,((↑ou.length:Int) != (1:Int))=true] ⟨Bf hlt,Ar hlt,hld,hs,a_⟩
  .have hpr:=Xt g R.length (Ah R) hRR N.length (Ak N) hNN c fr nz ou cs (m+1) k hm o_ h2
   have hs0:=hsw m hm
   have hml:(Aa cs).length=m+1:=by rw[F5,hm]
   have hs:Ag Pg g0 36 [.agg [i6 g,.im R.length (Ah R),.im N.length (Ak N)],i6 k] (.im (m+1) (Aa cs)):=LS hs0 (A8.of_hf _ ⟨⟨trivial,trivial,trivial,trivial⟩,trivial,trivial⟩) (Ws _) hml
   rw[hm]at hno hnx
   clear hsn hsw e0 h1 h2 hs0
   generalize Ah R=RR,hNNe:Ak N=NN,Gm cs (m+1)=pr at*
   by_cases he:(ou.length:Int)=pr
   .rw[decide_eq_true he,eD]at hno hnx
    generalize D5 0 (c-1) ou=b at*
    cases b with
    |true=>
     have hnx:=hnx rfl
     have hou':=hou.fst (λh=>by cases h)
     clear hou hno
     refine .inl ⟨k+1,[0],[As 176,pl 182,ld 183 (.agg (Fq ⟨c,fr,nz,ou⟩)),fn 186 (.im (m+1) (Aa cs)),(0,.loop [0,1] (OH g R.length RR N.length NN ⟨c,fr,nz,ou⟩ cs (m+1) k 0 1) [(True,.exit 8,Rk g R.length RR N.length NN ⟨c,fr,nz,ou⟩ k pr)]),no 203,(0,.loop [0,1] (Ow g R.length RR N.length NN ⟨c,fr,nz,ou⟩ k 0) [(True,.exit 10,FO g R.length RR N.length NN k)]),nu 178 ((k+1:Nat):Int)],1000,⟨hlt,hnx⟩,o_,?_⟩
     clear hnx
     generalize R.length=nR,N.length=n at*
     exact m_ (p:=let z0:=[i6 g,V.im nR RR,V.im n NN];let z1:=[i6 c,sl fr,sl nz,sl ou];let z2:=(↑k:Int);let z4:=(↑(k+1):Int);An [_,_,_,_,An [An [Zz,z2=z2,Zz,(1:Int)=(1:Int),An [Sm (m+1),Sm (Aa cs)],(↑(0:Nat):Int)=(0:Int),Tt],An [z0=z0,TT 3],An [z1=z1,TT 4],Tt],_,(True->An [((↑ou.length:Int) != pr)=false,An [An [Zz,z2=z2,Zz,(↑(0:Nat):Int)=(0:Int),Tt],An [z0=z0,TT 3],An [z1=z1,TT 4],Tt],_,(True->An [wr .i64 (z2+(1:Int))=z4,An [Zz,z4=z4,Tt],An [z0=z0,TT 3],Tt]),Tt]),Tt]) ⟨Bf hlt,Ar hlt,hld,hs,a_,hpr,(λ_=>⟨aq,a_,hou',a_⟩),aq⟩
    |false=>
     have hf:=hno rfl
     have hou':=hou.snd (λh=>by cases h)
     clear hou hno hnx
     refine .inr ⟨.ret,[],Fj,[As 176,pl 182,ld 183 (.agg (Fq ⟨c,fr,nz,ou⟩)),fn 186 (.im (m+1) (Aa cs)),(0,.loop [0,1] (OH g R.length RR N.length NN ⟨c,fr,nz,ou⟩ cs (m+1) k 0 1) [(True,.exit 8,Rk g R.length RR N.length NN ⟨c,fr,nz,ou⟩ k pr)]),no 203,(0,.loop [0,1] (Ow g R.length RR N.length NN ⟨c,fr,nz,ou⟩ k 0) [(True,.ret,Fj)])],1000,.inr (.inl ⟨hf,rfl,rfl⟩),?_⟩
     clear hf
     generalize R.length=nR,N.length=n at*
     exact m_ (p:=let z0:=[i6 g,V.im nR RR,V.im n NN];let z1:=[i6 c,sl fr,sl nz,sl ou];let z2:=(↑k:Int);An [_,_,_,_,An [An [Zz,z2=z2,Zz,Sm (1:Int),An [Sm (m+1),Sm (Aa cs)],(↑(0:Nat):Int)=(0:Int),Tt],An [z0=z0,TT 3],An [z1=z1,TT 4],Tt],_,(True->An [((↑ou.length:Int) != pr)=false,An [An [Zz,z2=z2,Zz,(↑(0:Nat):Int)=(0:Int),Tt],An [z0=z0,TT 3],An [z1=z1,TT 4],Tt],_,(True->An [An [Sm false,Tt],Tt]),Tt]),Tt]) ⟨Bf hlt,Ar hlt,hld,hs,a_,hpr,(λ_=>⟨aq,a_,hou',a_⟩),aq⟩
   .have hf:=hno (by simp_all)
    clear hou hno hnx
    refine .inr ⟨.ret,[],Fj,[As 176,pl 182,ld 183 (.agg (Fq ⟨c,fr,nz,ou⟩)),fn 186 (.im (m+1) (Aa cs)),(0,.loop [0,1] (OH g R.length RR N.length NN ⟨c,fr,nz,ou⟩ cs (m+1) k 0 1) [(True,.exit 8,Rk g R.length RR N.length NN ⟨c,fr,nz,ou⟩ k pr)]),As 203],1000,.inr (.inl ⟨hf,rfl,rfl⟩),?_⟩
    clear hf
    generalize R.length=nR,N.length=n at*
    exact m_ (p:=let z0:=[i6 g,V.im nR RR,V.im n NN];let z3:=[i6 c,sl fr,sl nz,sl ou];An [_,_,_,_,An [An [Zz,(↑k:Int)=(↑k:Int),Zz,Sm (1:Int),An [Sm (m+1),Sm (Aa cs)],(↑(0:Nat):Int)=(0:Int),Tt],An [z0=z0,TT 3],An [z3=z3,TT 4],Tt],_,(True->An [((↑ou.length:Int) != pr)=true,An [Sm false,Tt],Tt]),Tt]) ⟨Bf hlt,Ar hlt,hld,hs,a_,hpr,a_⟩
 .have hk2:k=N.length:=o_
  subst hk2
  have hall:Ki R N=true:=XX hin
  refine .inr ⟨.exit 6,[],{sl:=[]},[no 176],1000,.inl ⟨hall,rfl,rfl⟩,?_⟩
  clear hin hall hl hz h13
  generalize Ah R=RR,Ak N=NN,R.length=nR,N.length=n at*
  exact Cj [_] (Cq hlt)
theorem XM{L P:List Int}{k:Nat}(h:k<P.length):(D0 L P).getD k 0=L.getD (P.getD k 0).toNat 0:=by
 grind[D0]
theorem TQ(N:List Mc)(i:Nat):(Aq N).getD i 0=(N.getD i Ao).c:=by
 grind[Aq]
theorem XR(R:List (List Int))(i:Nat):(D4 R).getD i 0=((R.getD i []).length:Int):=by
 grind[D4]
theorem R7(N:List Mc)(P:List Int): ∀k,k<=P.length->Gm (D0 (Aq N) P) k=Cs N P k
 |0,_=>rfl
 |k+1,h=>by
  show Gm _ k* _=Cs N P k* _
  rw[R7 N P k o_,XM o_,TQ]
theorem R6(R:List (List Int))(P:List Int): ∀k,k<=P.length->Gm (D0 (D4 R) P) k=(C7 R P k:Nat)
 |0,_=>rfl
 |k+1,h=>by
  show Gm _ k* _=((C7 R P k* _:Nat):Int)
  rw[R6 R P k o_,XM o_,XR,cJ]
theorem GC(R:List (List Int))(N:List Mc)(x:Mc):Gm (Eo R N x) (Eo R N x).length=Cs N x.fr x.fr.length*(C7 R x.no x.no.length:Nat):=by
 unfold Eo
 rw[aR,tP,F4,F4,R7 N x.fr _ (aC _),R6 R x.no _ (aC _)]
theorem tQ:CB R N=true↔∀k,k<N.length->(1<=(N.getD k Ao).c/\(N.getD k Ao).c<=4)/\De N.length (N.getD k Ao).fr=true/\De R.length (N.getD k Ao).no=true:=by
 simp_all[CB,GD,and_assoc]
theorem W7:Ki R N=true↔∀k,k<N.length->((N.getD k Ao).ou.length:Int)=Cs N (N.getD k Ao).fr (N.getD k Ao).fr.length*(C7 R (N.getD k Ao).no (N.getD k Ao).no.length:Nat)/\D5 0 ((N.getD k Ao).c-1) (N.getD k Ao).ou=true:=by
 simp_all[Ki,Mr,GC]
theorem gy:Ek R N=true↔(∀k,k<N.length->Gh R N k (N.getD k Ao)=true)/\By N N.length<=1024:=by
 grind[Ek]
theorem fm:N.all Mn=true↔∀k,k<N.length->1<=(N.getD k Ao).c/\(N.getD k Ao).c<=4:=by
 rw[aO]
 constructor
 .simp_all[pN]
 .intro h x hx
  obtain⟨k,hk,rfl⟩:=Nz (d:=Ao) hx
  refine J3.2 λi hi=>?_
  simp_all
theorem be{lo hi x:Int}:D5 lo hi [x]=true↔lo<=x/\x<=hi:=by simp[D5]
theorem EB:Ck g R N=true↔(1<=g/\g<=12)/\R.length<=8/\(1<=N.length/\N.length<=5)/\R.all (G4 g)=true/\CB R N=true/\B4 R R.length<=1024/\By N N.length<=1024/\Ml (pL N)=true/\Ki R N=true:=by
 unfold Ck
 simp only[aD,be]
 rw[fm,gy,tQ,W7]
 unfold D2
 simp only[aD,decide_eq_true_eq,MC]
 have hpf:(∀k,k<N.length->De N.length (N.getD k Ao).fr=true)->N.length<=5->∀k,k<N.length->Hw (N.getD k Ao).fr N.length/\(N.getD k Ao).fr.length<=5:=λh h5 k hk=>⟨ED (h k hk),aP (DZ (h k hk)) h5⟩
 grind[AF,AC,nK]
theorem IW{a:Bool}(h: ¬a=true):a=false:=by simp_all
theorem QZ{a b:Bool}(h:a=true↔b=true):a=b:=by simp_all
theorem xQ(g:Int)(R:List (List Int))(N:List Mc)(hl:B8 R N):Ag Pg g0 8 [Bd g R N] (.bool (Ck g R N)):=by
 have hRR:=B7 R
 have hNN:=Cl N
 show Ag Pg g0 8 [.agg [i6 g,.im R.length (Ah R),.im N.length (Ak N)]] _
 by_cases c1:g<1
 .rw[IW (a:=Ck g R N) (λh=>by grind[EB])]
  generalize Ah R=RR at*
  generalize Ak N=NN at*
  refine Ch Fj [As 18] ?_
  clear hl
  generalize R.length=nR at*
  generalize N.length=n at*
  exact Hu [Sm (V.bool false),_] ⟨aq,Pp c1⟩
 by_cases c2:12<g
 .rw[IW (a:=Ck g R N) (λh=>by grind[EB])]
  generalize Ah R=RR at*
  generalize Ak N=NN at*
  refine Ch Fj [no 18,As 22] ?_
  clear hl
  generalize R.length=nR at*
  generalize N.length=n at*
  exact Hu [Sm (V.bool false),_,_] ⟨aq,Jp c1,Pp c2⟩
 by_cases c3:8<R.length
 .rw[IW (a:=Ck g R N) (λh=>by grind[EB])]
  generalize Ah R=RR at*
  generalize Ak N=NN at*
  refine Ch Fj [no 18,no 22,As 28] ?_
  clear hl
  generalize R.length=nR at*
  generalize N.length=n at*
  exact Hu [Sm (V.bool false),_,_,decide ((↑nR:Int)>(8:Int))=true] ⟨aq,Jp c1,Jp c2,aq⟩
 by_cases c4:N.length<1
 .rw[IW (a:=Ck g R N) (λh=>by grind[EB])]
  generalize Ah R=RR at*
  generalize Ak N=NN at*
  refine Ch Fj [no 18,no 22,no 28,As 34] ?_
  clear hl
  generalize R.length=nR at*
  generalize N.length=n at*
  exact Hu [Sm (V.bool false),_,_,decide ((↑nR:Int)>(8:Int))=false,decide ((↑n:Int)<(1:Int))=true] ⟨aq,Jp c1,Jp c2,a_⟩
 by_cases c5:5<N.length
 .rw[IW (a:=Ck g R N) (λh=>by grind[EB])]
  generalize Ah R=RR at*
  generalize Ak N=NN at*
  refine Ch Fj [no 18,no 22,no 28,no 34,As 40] ?_
  clear hl
  generalize R.length=nR at*
  generalize N.length=n at*
  exact Hu [Sm (V.bool false),_,_,decide ((↑nR:Int)>(8:Int))=false,decide ((↑n:Int)<(1:Int))=false,decide ((↑n:Int)>(5:Int))=true] ⟨aq,Jp c1,Jp c2,a_⟩
 have hl1:=FN g o_ R o_ N.length (Ak N) hNN
 cases hr:R.all (G4 g)with
 |false=>
  rw[IW (a:=Ck g R N) (λh=>by grind[EB])]
  rw[hr]at hl1
  have hl1':=hl1.snd (λh=>by cases h)
  clear hl1 hl hr
  generalize Ah R=RR at*
  generalize Ak N=NN at*
  generalize R.length=nR at*
  generalize N.length=n at*
  refine Ch Fj [no 18,no 22,no 28,no 34,no 40,(0,.loop [0] (BY g nR RR n NN 0 1) [(True,.ret,Fj)])] ?_
  exact m_ (p:=An [Sm (V.bool false),_,_,decide ((↑nR:Int)>(8:Int))=false,decide ((↑n:Int)<(1:Int))=false,decide ((↑n:Int)>(5:Int))=false,An [An [Zz,(↑(1:Nat):Int)=(1:Int),Sm (1:Int),(↑(0:Nat):Int)=(0:Int),Tt],An [Sm [i6 g,V.im nR RR,V.im n NN],TT 3],Tt],_,(True->An [An [Sm false,Tt],Tt]),Tt]) ⟨aq,Jp c1,Jp c2,aq,aq,aq,a_,hl1',a_⟩
 | true =>
  rw[hr]at hl1
  have hl1':=hl1.fst (λh=>by cases h)
  have hl2:=Xx g R N o_ hl (B4 R R.length)
  cases hp:CB R N with
  |false=>
   rw[IW (a:=Ck g R N) (λh=>by grind[EB])]
   rw[hp]at hl2
   have hl2':=hl2.snd (λh=>by cases h)
   clear hl1 hl2 hl hr hp
   generalize B4 R R.length=hd at*
   generalize Ah R=RR at*
   generalize Ak N=NN at*
   generalize R.length=nR at*
   generalize N.length=n at*
   refine Ch Fj [no 18,no 22,no 28,no 34,no 40,(0,.loop [0] (BY g nR RR n NN 0 1) [(True,.exit 0,Mu g nR RR n NN hd)]),(0,.loop [0] (FP g nR RR n NN hd 0 1) [(True,.ret,Fj)])] ?_
   exact m_ (p:=let z0:=[i6 g,V.im nR RR,V.im n NN];let z1:=(1:Int);An [Sm (V.bool false),_,_,decide ((↑nR:Int)>(8:Int))=false,decide ((↑n:Int)<z1)=false,decide ((↑n:Int)>(5:Int))=false,An [An [Zz,(↑(1:Nat):Int)=z1,z1=z1,(↑(0:Nat):Int)=(0:Int),Tt],An [z0=z0,TT 3],Tt],_,(True->An [An [An [Zz,Sm (↑hd:Int),z1=z1,(↑(0:Nat):Int)=(0:Int),Tt],An [z0=z0,TT 3],Tt],_,(True->An [An [Sm false,Tt],Tt]),Tt]),Tt]) ⟨aq,Jp c1,Jp c2,aq,aq,aq,a_,hl1',(λ_=>⟨a_,hl2',a_⟩),aq⟩
  | true =>
   rw[hp]at hl2
   have hl2':=hl2.fst (λh=>by cases h)
   have hpl:=tQ.1 hp
   have hq:1<=N.length/\N.length<=5:=o_
   have hpf: ∀k,k<N.length->Hw (N.getD k Ao).fr N.length/\(N.getD k Ao).fr.length<=5:=λk hk=>⟨ED (hpl k hk).2.1,aP (DZ (hpl k hk).2.1) hq.2⟩
   have hpn: ∀k,k<N.length->Hw (N.getD k Ao).no R.length/\(N.getD k Ao).no.length<=8:=λk hk=>⟨ED (hpl k hk).2.2,aP (DZ (hpl k hk).2.2) o_⟩
   have hrt: ∀k,k<R.length->1<=(R.getD k []).length/\(R.getD k []).length<=4:=λk hk=>XL (aO.1 hr _ (DO hk))
   have hSm:WC N:=⟨o_,λk hk=>⟨by grind,by grind⟩,λk hk i hi=>by have:=(hpf k hk).1 i hi;omega,λk hk i hi=>by have:=(hpn k hk).1 i hi;omega⟩
   have hSz: ∀k,k<N.length->Vq R N (N.getD k Ao):=λk hk=>⟨o_,o_,(hpf k hk).1,(hpn k hk).1,by grind,by grind⟩
   have h13: ∀k,k<N.length->(Eo R N (N.getD k Ao)).length<=13/\∀i,i<(Eo R N (N.getD k Ao)).length->1<=(Eo R N (N.getD k Ao)).getD i 0/\(Eo R N (N.getD k Ao)).getD i 0<=4:=λk hk=>by
    have f1:=(hpf k hk).2
    have f2:=(hpn k hk).2
    unfold Eo
    rw[aR,F4,F4]
    refine⟨o_,λi hi=>?_⟩
    by_cases hlt:i<(N.getD k Ao).fr.length
    .rw[aA,bN (by grind[F4]),<-aA,XM hlt,TQ]
     have:=(hpf k hk).1 i hlt
     simp_all
    .rw[aA,bU (by rw[F4];omega),<-aA,F4,XM o_,XR]
     have:=(hpn k hk).1 (i-(N.getD k Ao).fr.length) o_
     grind
   have hl3:=Rf g R N o_ hl hSz h13
   have hpar:=wP g R N hSm
   rw[CD]at hpar
   have hac:=AB (pL N) (by rw[DR];omega) (CE hSm)
   have e:Ck g R N=(decide (B4 R R.length<=1024)&&decide (By N N.length<=1024)&&Ml (pL N)&&Ki R N):=by
    refine QZ ?_
    rw[EB]
    simp only[aD,decide_eq_true_eq]
    exact⟨λh=>⟨⟨⟨h.2.2.2.2.2.1,h.2.2.2.2.2.2.1⟩,h.2.2.2.2.2.2.2.1⟩,h.2.2.2.2.2.2.2.2⟩,λh=>⟨o_,o_,hq,hr,hp,h.1.1.1,h.1.1.2,h.1.2,h.2⟩⟩
   rw[e]
   clear e hl1 hl2 hl hr hp hpl hpf hpn hrt hSm hSz h13
   have hpf:=AQ (pL N)
   have hac':Ag Pg g0 38 [.im N.length (ut (pL N))] (.bool (Ml (pL N))):=by rw[<-DR N];exact hac
   have hpar':Ag Pg g0 17 [.agg [i6 g,.im R.length (Ah R),.im N.length (Ak N)]] (.im N.length (ut (pL N))):=hpar
   clear hac hpar
   generalize Ml (pL N)=ba at*
   generalize Ki R N=bt at*
   generalize B4 R R.length=hd at*
   generalize By N N.length=sn at*
   generalize ut (pL N)=PP at*
   generalize Ah R=RR at*
   generalize Ak N=NN at*
   generalize R.length=nR at*
   generalize N.length=n at*
   by_cases d1:hd<=1024
   .by_cases d2:sn<=1024
    .rw[decide_eq_true d1,decide_eq_true d2]
     cases ba with
     |false=>
      refine Ch Fj [no 18,no 22,no 28,no 34,no 40,(0,.loop [0] (BY g nR RR n NN 0 1) [(True,.exit 0,Mu g nR RR n NN hd)]),(0,.loop [0] (FP g nR RR n NN hd 0 1) [(True,.exit 4,Ov g nR RR n NN hd sn)]),no 161,no 164,fn 168 (.im n PP),fn 169 (.bool false)] ?_
      clear hl3
      exact m_ (p:=let z0:=[i6 g,V.im nR RR,V.im n NN];let z1:=(1:Int);let z2:=(↑hd:Int);An [V.bool false=V.bool (true&&true&&false&&bt),_,_,decide ((↑nR:Int)>(8:Int))=false,decide ((↑n:Int)<z1)=false,decide ((↑n:Int)>(5:Int))=false,An [An [Zz,(↑(1:Nat):Int)=z1,z1=z1,(↑(0:Nat):Int)=(0:Int),Tt],An [z0=z0,TT 3],Tt],_,(True->An [An [An [Zz,z2=z2,z1=z1,(↑(0:Nat):Int)=(0:Int),Tt],An [z0=z0,TT 3],Tt],_,(True->An [decide (z2>(1024:Int))=false,decide (sn>(1024:Int))=false,_,_,An [Sm false,Tt],Tt]),Tt]),Tt]) ⟨aq,Jp c1,Jp c2,aq,aq,aq,a_,hl1',(λ_=>⟨a_,hl2',(λ_=>⟨aq,aq,hpar',hac',a_⟩),aq⟩),aq⟩
     |true=>
      rw[eD,eD,eD]
      refine Ch {sl:=[(2,.bool bt)]} [no 18,no 22,no 28,no 34,no 40,(0,.loop [0] (BY g nR RR n NN 0 1) [(True,.exit 0,Mu g nR RR n NN hd)]),(0,.loop [0] (FP g nR RR n NN hd 0 1) [(True,.exit 4,Ov g nR RR n NN hd sn)]),no 161,no 164,fn 168 (.im n PP),fn 169 (.bool true),(0,.loop [0] (FO g nR RR n NN 0) [(bt=true,.exit 6,{sl:=[]}),(bt=false,.ret,Fj)])] ?_
      exact m_ (p:=let z0:=[i6 g,V.im nR RR,V.im n NN];let z1:=(1:Int);let z2:=(↑(0:Nat):Int);let z3:=(↑hd:Int);An [Sm (V.bool bt),_,_,decide ((↑nR:Int)>(8:Int))=false,decide ((↑n:Int)<z1)=false,decide ((↑n:Int)>(5:Int))=false,An [An [Zz,(↑(1:Nat):Int)=z1,z1=z1,z2=(0:Int),Tt],An [z0=z0,TT 3],Tt],_,(True->An [An [An [Zz,z3=z3,z1=z1,z2=(0:Int),Tt],An [z0=z0,TT 3],Tt],_,(True->An [decide (z3>(1024:Int))=false,decide (sn>(1024:Int))=false,_,_,An [An [Zz,z2=(0:Int),Tt],An [z0=z0,TT 3],Tt],_,bt=true->An [An [bt=true,Tt],Tt],bt=false->An [An [bt=false,Tt],Tt],Tt]),Tt]),Tt]) ⟨aq,Jp c1,Jp c2,aq,aq,aq,a_,hl1',(λ_=>⟨a_,hl2',(λ_=>⟨aq,aq,hpar',hac',a_,hl3,a_⟩),aq⟩),aq⟩
    .rw[decide_eq_false d2,Bool.and_false,fH,fH]
     refine Ch Fj [no 18,no 22,no 28,no 34,no 40,(0,.loop [0] (BY g nR RR n NN 0 1) [(True,.exit 0,Mu g nR RR n NN hd)]),(0,.loop [0] (FP g nR RR n NN hd 0 1) [(True,.exit 4,Ov g nR RR n NN hd sn)]),no 161,As 164] ?_
     clear hl3 hac' hpar'
     exact m_ (p:=let z0:=[i6 g,V.im nR RR,V.im n NN];let z1:=(1:Int);let z2:=(↑hd:Int);An [Sm (V.bool false),_,_,decide ((↑nR:Int)>(8:Int))=false,decide ((↑n:Int)<z1)=false,decide ((↑n:Int)>(5:Int))=false,An [An [Zz,(↑(1:Nat):Int)=z1,z1=z1,(↑(0:Nat):Int)=(0:Int),Tt],An [z0=z0,TT 3],Tt],_,(True->An [An [An [Zz,z2=z2,z1=z1,(↑(0:Nat):Int)=(0:Int),Tt],An [z0=z0,TT 3],Tt],_,(True->An [decide (z2>(1024:Int))=false,decide (sn>(1024:Int))=true,An [Sm false,Tt],Tt]),Tt]),Tt]) ⟨aq,Jp c1,Jp c2,aq,aq,aq,a_,hl1',(λ_=>⟨a_,hl2',a_⟩),aq⟩
   .rw[decide_eq_false d1,fH,fH,fH]
    refine Ch Fj [no 18,no 22,no 28,no 34,no 40,(0,.loop [0] (BY g nR RR n NN 0 1) [(True,.exit 0,Mu g nR RR n NN hd)]),(0,.loop [0] (FP g nR RR n NN hd 0 1) [(True,.exit 4,Ov g nR RR n NN hd sn)]),As 161] ?_
    clear hl3 hac' hpar'
    exact m_ (p:=let z0:=[i6 g,V.im nR RR,V.im n NN];let z1:=(1:Int);let z2:=(↑hd:Int);An [Sm (V.bool false),_,_,decide ((↑nR:Int)>(8:Int))=false,decide ((↑n:Int)<z1)=false,decide ((↑n:Int)>(5:Int))=false,An [An [Zz,(↑(1:Nat):Int)=z1,z1=z1,(↑(0:Nat):Int)=(0:Int),Tt],An [z0=z0,TT 3],Tt],_,(True->An [An [An [Zz,z2=z2,z1=z1,(↑(0:Nat):Int)=(0:Int),Tt],An [z0=z0,TT 3],Tt],_,(True->An [decide (z2>(1024:Int))=true,An [Sm false,Tt],Tt]),Tt]),Tt]) ⟨aq,Jp c1,Jp c2,aq,aq,aq,a_,hl1',(λ_=>⟨a_,hl2',a_⟩),aq⟩
end Go.Proofs.YtifdkhfldbkkpaaGreat.Am
