/- Texts behind the claim, part 8: the abstract machine, and what the functions answer. No condition. -/
import Derived.Test.YtifdkhfldbkkpaaGreatCC7
set_option linter.unusedVariables false
set_option maxHeartbeats 4000000
set_option maxRecDepth 100000
set_option linter.unusedSimpArgs false
set_option linter.unusedSectionVars false
namespace Go.Proofs.YtifdkhfldbkkpaaGreat.Am
open Go.RowKit
variable{g:Int}{bc:List V}{hR n nx nx' t:Nat}{S:Nat->Bool}{ls:Nat->List Int}{hd:Nat->Nat}{ρ:Nat->Option Nat}{Fz:Nat->Prop}{F:Nat->V}{H H':T O}{α:Type}
abbrev gS(Ab:Nat)(q:List Nat)(i v n:Nat)(A:List V)(c b f:Nat):List (Nat×V):=Ii Ab q i v n A c b++[(21,i6 f)]
abbrev Oq(Ab:Nat)(q:List Nat)(i v n:Nat)(A:List V)(c b f y:Nat):List (Nat×V):=Ii Ab q i v n A c b++[(21,i6 f),(22,i6 y)]
abbrev JX(Ab:Nat)(q:List Nat)(i v n:Nat)(A:List V)(c b f y k:Nat):List (Nat×V):=Ii Ab q i v n A c b++[(21,i6 f),(22,i6 y),(23,i6 k)]
theorem F9{x:Pc}(h:Fo x):(CC x= .nils/\x.u=[])\/CC x=bl x.u:=by
 unfold CC
 cases hz:x.z with
 |true=>exact .inl ⟨rfl,h.z hz⟩
 |false=>exact .inr rfl
section
variable {dc:List V} {W:List Nat} {g:Int} {P:List Pc} {Ab a:Nat} {ow:Nat->Bool} {rv:V} {H:T O} {nx:Nat} (L:List Nat)
 (hc:1<=Ab/\Ab<=4) (hB:MB dc W g (Ea P) Ab a ow rv H) (hP:P.length=Ab) (hPo: ∀x∈P,Fo x)
 (i v n:Nat) (A:List V) (hA:Ba A) (c:Nat) (hi:i<Ab) (hv:v<Ab) (hn:n<=2187) (hcn:c<n)
include hc hB hP hPo hA hi hv hn hcn
theorem Yd(b:Nat): ∃b',(b'=b\/b'<256)/\To 365 (aT 6 1111111111111010010011110010010) (Ii Ab L i v n A c b) H nx .normal (Ii Ab L i v n A c b') H nx:=by
 obtain⟨x,hx⟩: ∃x,P[i]? =some x:=⟨P[i]' o_,aB _⟩
 have hpc:=(LC hx).2.2.2
 have hxo:=hPo x (bG hx)
 have h4:=hB.h4
 have hLf:=Fm L
 by_cases hu:x.u=[]
 .refine⟨b,.inl rfl,?_⟩
  clear hB
  generalize Ea P=PL at*
  rcases F9 hxo with⟨e,_⟩|e
  .rw[e]at hpc
   exact Bu [pl 257,A5 259 (.row 88 none PL) .nils,toO (Ii Ab L i v n A c b)] [_,_,Ae (Af (0+i*4+3) PL)=some V.nils] ⟨Ar hi,h4,(by(rw[show 0+i*4+3=4*i+3 by omega];exact hpc))⟩
  .rw[e,hu]at hpc
   exact Bu [pl 257,A5 259 (.row 88 none PL) (.im 0 Eb),toO (Ii Ab L i v n A c b)] [_,_,Ae (Af (0+i*4+3) PL)=some (V.im 0 Eb)] ⟨Ar hi,h4,(by(rw[show 0+i*4+3=4*i+3 by omega];exact hpc))⟩
 .have e:CC x=bl x.u:=by
   rcases F9 hxo with⟨_,e⟩|e
   .trivial
   .exact e
  rw[e]at hpc
  have hul:x.u.length≠0:=λh=>hu (aE h)
  have hm:c%x.u.length<x.u.length:=aY _ o_
  have h1:=JF hm
  have h2:=Og (G:=B1 Pg) (t:=3) (a:=c) (b:=x.u.length) hul
  have hy:=YC hxo.u (c%x.u.length)
  have hbl:=hxo.l
  have hUf:=Ph x.u
  refine⟨x.u.getD (c%x.u.length) 0,.inr hy,?_⟩
  clear hB hxo hPo
  generalize x.u.getD (c%x.u.length) 0=y at*
  generalize c%x.u.length=z at*
  generalize x.u=u at*
  generalize Ea P=PL at*
  exact Bu [pl 257,A5 259 (.row 88 none PL) (bl u),As 261,pl 264,A5 266 (.row 88 none PL) (bl u),pl 270,A5 272 (.row 88 none PL) (bl u),va 274 (i6 z),pl 275,ld 276 (w8 y),nu 277 y,toO (Ii Ab L i v n A c y)] (let z0:=Ae (Af (0+i*4+3) PL);[_,_,z0=some (bl u),decide ((↑u.length:Int)>(0:Int))=true,_,_,z0=some (bl u),_,_,z0=some (bl u),_,_,_,wr .i64 (↑y:Int)=(↑y:Int)]) ⟨Ar hi,h4,(by(rw[show 0+i*4+3=4*i+3 by omega];exact hpc)),aq,Ar hi,h4,(by(rw[show 0+i*4+3=4*i+3 by omega];exact hpc)),Ar hi,h4,(by(rw[show 0+i*4+3=4*i+3 by omega];exact hpc)),h2,Ar hm,h1,aq⟩
theorem PE(b f y:Nat)(hy8:y<=10000): ∃b',(b'=b\/b'<256)/\To 365 (aT 6 11111111111110100100111100100110101110) (Oq Ab L i v n A c b f y) H nx .normal (Oq Ab L i v n A c b' f y) H nx:=by
 obtain⟨x,hx⟩: ∃x,P[i]? =some x:=⟨P[i]' o_,aB _⟩
 have hpc:=(LC hx).2.2.2
 have hxo:=hPo x (bG hx)
 have h4:=hB.h4
 have hLf:=Fm L
 by_cases hu:x.u=[]
 .refine⟨b,.inl rfl,?_⟩
  clear hB
  generalize Ea P=PL at*
  rcases F9 hxo with⟨e,_⟩|e
  .rw[e]at hpc
   exact Bu [pl 313,A5 315 (.row 88 none PL) .nils,toO (Oq Ab L i v n A c b f y)] [_,_,Ae (Af (0+i*4+3) PL)=some V.nils] ⟨Ar hi,h4,(by(rw[show 0+i*4+3=4*i+3 by omega];exact hpc))⟩
  .rw[e,hu]at hpc
   exact Bu [pl 313,A5 315 (.row 88 none PL) (.im 0 Eb),toO (Oq Ab L i v n A c b f y)] [_,_,Ae (Af (0+i*4+3) PL)=some (V.im 0 Eb)] ⟨Ar hi,h4,(by(rw[show 0+i*4+3=4*i+3 by omega];exact hpc))⟩
 .have e:CC x=bl x.u:=by
   rcases F9 hxo with⟨_,e⟩|e
   .trivial
   .exact e
  rw[e]at hpc
  have hul:x.u.length≠0:=λh=>hu (aE h)
  have hm:y%x.u.length<x.u.length:=aY _ o_
  have h1:=JF hm
  have h2:=Og (G:=B1 Pg) (t:=3) (a:=y) (b:=x.u.length) hul
  have hy:=YC hxo.u (y%x.u.length)
  have hbl:=hxo.l
  have hUf:=Ph x.u
  refine⟨x.u.getD (y%x.u.length) 0,.inr hy,?_⟩
  clear hB hxo hPo
  generalize x.u.getD (y%x.u.length) 0=w at*
  generalize y%x.u.length=z at*
  generalize x.u=u at*
  generalize Ea P=PL at*
  exact Bu [pl 313,A5 315 (.row 88 none PL) (bl u),As 317,pl 320,A5 322 (.row 88 none PL) (bl u),pl 326,A5 328 (.row 88 none PL) (bl u),va 330 (i6 z),pl 331,ld 332 (w8 w),nu 333 w,toO (Oq Ab L i v n A c w f y)] (let z0:=Ae (Af (0+i*4+3) PL);[_,_,z0=some (bl u),decide ((↑u.length:Int)>(0:Int))=true,_,_,z0=some (bl u),_,_,z0=some (bl u),_,_,_,wr .i64 (↑w:Int)=(↑w:Int)]) ⟨Ar hi,h4,(by(rw[show 0+i*4+3=4*i+3 by omega];exact hpc)),aq,Ar hi,h4,(by(rw[show 0+i*4+3=4*i+3 by omega];exact hpc)),Ar hi,h4,(by(rw[show 0+i*4+3=4*i+3 by omega];exact hpc)),h2,Ar hm,h1,aq⟩
variable (cv:List Int) (hcv:Ae (A.drop (c*1))=some (sl cv)) (hx3: ∀k,k<cv.length->0<=cv.getD k 0/\cv.getD k 0<3) (hl7:cv.length<=8)
include hcv hx3 hl7
omit hB hP hPo in
theorem GK(b f:Nat): ∃y,y<=10000/\To 365 (aT 6 1111111111111010010011110010011010110) (Oq Ab L i v n A c b f 0) H nx .normal (Oq Ab L i v n A c b f y) H nx:=by
 have hLf:=Fm L
 have hVf:=Ap cv
 have hpow: ∀k,k<=8->3^k<=6561:=λk hk=>aH (n:=3) d_ hk
 have key: ∃e sl H' nx',(∃y,e= .exit 14/\sl=Oq Ab L i v n A c b f y/\H'=H/\nx'=nx/\y<=10000)/\To 365 (aT 6 111111111111101001001111001001101011010) (JX Ab L i v n A c b f 0 0) H nx e sl H' nx':=by
  refine To.loop (b:=(aT 6 1111111111111010010011110010011010110100)) k_ (λ(q:Nat×Nat) H' nx'=>q.1<=cv.length/\H'=H/\nx'=nx/\q.2<3^q.1) (λq=>JX Ab L i v n A c b f q.2 q.1) (λq=>cv.length-q.1) (λe sl H' nx'=>∃y,e= .exit 14/\sl=Oq Ab L i v n A c b f y/\H'=H/\nx'=nx/\y<=10000) (λq H' nx' hI=>?_) (0,0) H nx ⟨aG _,rfl,rfl,d_⟩
  obtain⟨k,y⟩:=q
  obtain⟨hk,rfl,rfl,hy⟩:=hI
  dsimp only at hk hy
  have hp1:=hpow k o_
  by_cases hlt:k<cv.length
  .left
   have hx:=hx3 k hlt
   have hh:=Dm hlt
   obtain⟨z,hz⟩: ∃z:Nat,cv.getD k 0=z:=⟨(cv.getD k 0).toNat,o_⟩
   rw[hz]at hx hh
   have h3:3^(k+1)=3^k*3:=bK ..
   by_cases hkf:k=f
   .refine⟨(k+1,y),H',nx',⟨hlt,rfl,rfl,by grind⟩,o_,?_⟩
    clear hpow hx3 h3
    subst hkf
    exact Bu [pl 292,ld 293 (sl cv),As 295,no 300,nu 297 (k+1:Nat),toO (JX Ab L i v n A c b k y (k+1))] [_,_,_,((↑k:Int) != (↑k:Int))=false,_] ⟨Ar hcn,hcv,Bf hlt,aq,Dw k o_⟩
   .refine⟨(k+1,3*y+z),H',nx',⟨hlt,rfl,rfl,by grind⟩,o_,?_⟩
    clear hpow hx3 h3
    have hne:((k:Nat):Int)≠(f:Nat):=o_
    exact Bu [pl 292,ld 293 (sl cv),As 295,As 300,nu 302 (3*y:Nat),pl 305,ld 306 (sl cv),pl 308,ld 309 (i6 z),nu 310 (3*y+z:Nat),nu 297 (k+1:Nat),toO (JX Ab L i v n A c b f (3*y+z) (k+1))] [_,_,_,_,wr .i64 ((3:Int)*(↑y:Int))=(↑(3*y):Int),_,_,_,_,wr .i64 ((↑(3*y):Int)+(↑z:Int))=(↑(3*y+z):Int),_] ⟨Ar hcn,hcv,Bf hlt,YW hne,aq,Ar hcn,hcv,Ar hlt,hh,aq,Dw k o_⟩
  .right
   refine⟨.exit 14,Oq Ab L i v n A c b f y,H',nx',(λh=>by cases h),⟨y,rfl,rfl,rfl,rfl,o_⟩,?_⟩
   clear hpow hx3
   exact Bu [pl 292,ld 293 (sl cv),no 295,toO (Oq Ab L i v n A c b f y)] [_,_,_] ⟨Ar hcn,hcv,Cq hlt⟩
 obtain⟨e,sl,H',nx',⟨y,rfl,rfl,rfl,rfl,hy⟩,h3⟩:=key
 refine⟨y,hy,To.seq (a:=(aT 6 11111111111110100100111100100110101100)) (b:=(aT 6 11111111111110100100111100100110101101)) (sl1:=JX Ab L i v n A c b f 0 0) (H1:=H') (nx1:=nx') k_ ?_ (To.block k_ h3)⟩
 clear h3 hpow hx3
 exact Bu [toO (JX Ab L i v n A c b f 0 0)] [] trivial
end
section
variable {dc:List V} {W:List Nat} {g:Int} {P:List Pc} {Ab a:Nat} {ow:Nat->Bool} {rv:V} {H:T O} {nx:Nat} {F:Nat->V} {ls:Nat->List Int} {hd:Nat->Nat} {kd:Nat->Bool} {R:List (List Int)} {hr:Nat} (L:List Nat)
 (hc:1<=Ab/\Ab<=4) (hB:MB dc W g (Ea P) Ab a ow rv H) (hP:P.length=Ab) (hPo: ∀x∈P,Fo x) (hN:NL Ab F ls hd kd H nx)
 (i v n:Nat) (A:List V) (hA:Ba A) (c:Nat) (hi:i<Ab) (hv:v<Ab) (hn:n<=2187) (hcn:c<n)
 (cv:List Int) (hcv:Ae (A.drop (c*1))=some (sl cv)) (hx3: ∀k,k<cv.length->0<=cv.getD k 0/\cv.getD k 0<3) (hl7:cv.length<=8)
include hc hB hP hPo hN hA hi hv hn hcn hcv hx3 hl7
theorem PD(hown:ow v=true->(ls (4*v+1)).length<cv.length)(b:Nat)(hb:b<=1000): ∃b',b'<=b+300/\To 365 (aT 6 11111111111110100100111100100110) (Ii Ab L i v n A c b) H nx .normal (Ii Ab L i v n A c b') H nx:=by
 have h7:gt H 7=some (.row 4 none (Aj Ab λv=>.bool (ow v))):=hB.h7
 have h3:=hB.h3
 have h2:=hN.row
 have hLf:=Fm L
 have hVf:=Ap cv
 have how:=Pl (n:=Ab) (k:=v) (F:=λv=>V.bool (ow v)) hv
 have first: ∀t,ow v=t->To 365 (aT 6 111111111111101001001111001001100) (Ii Ab L i v n A c b) H nx .normal (Ii Ab L i v n A c b++[(281,.bool t)]) H nx:=λt ht=>by
  have how:Ae (Af v (Aj Ab λv=>V.bool (ow v)))=some (.bool (ow v)):=how
  rw[ht]at how
  clear hB hN hPo hx3 hown
  generalize (Aj Ab λv=>V.bool (ow v))=OC at*
  exact Bu [pl 280,A5 281 (.row 4 none OC) (.bool t),toO (Ii Ab L i v n A c b++[(281,.bool t)])] [_,_,Ae (Af (0+v*1) OC)=some (V.bool t)] ⟨Ar hv,h7,aq⟩
 cases ho:ow v with
 |false=>
  refine⟨b,o_,To.seq (a:=(aT 6 111111111111101001001111001001100)) (b:=(aT 6 111111111111101001001111001001101)) (sl1:=Ii Ab L i v n A c b++[(281,.bool false)]) (H1:=H) (nx1:=nx) k_ (first false ho) (To.cond (x:=(aT 6 1111111111111010010011110010011010)) (y:=.skip) (o:=.tmp 281) k_ false rfl ?_)⟩
  show To 365 .skip _ _ _ _ _ _ _
  clear first hB hN hPo hx3 hown
  exact Bu [toO (Ii Ab L i v n A c b)] [] trivial
 | true =>
  have hf:=hown ho
  obtain⟨y,hy,t1⟩:=GK (H:=H) (nx:=nx) L hc i v n A hA c hi hv hn hcn cv hcv hx3 hl7 b (ls (4*v+1)).length
  obtain⟨b1,hb1,t2⟩:=PE (nx:=nx) L hc hB hP hPo i v n A hA c hi hv hn hcn b (ls (4*v+1)).length y hy
  have hz3:=hx3 _ hf
  obtain⟨z,hz⟩: ∃z:Nat,cv.getD (ls (4*v+1)).length 0=z:=⟨(cv.getD (ls (4*v+1)).length 0).toNat,o_⟩
  have hh:=Dm hf
  rw[hz]at hh hz3
  refine⟨b1+z,o_,To.seq (a:=(aT 6 111111111111101001001111001001100)) (b:=(aT 6 111111111111101001001111001001101)) (sl1:=Ii Ab L i v n A c b++[(281,.bool true)]) (H1:=H) (nx1:=nx) k_ (first true ho) (To.cond (x:=(aT 6 1111111111111010010011110010011010)) (y:=.skip) (o:=.tmp 281) k_ true rfl ?_)⟩
  refine To.fewer (sl1:=Ii Ab L i v n A c b) ?_ ⟨rfl,rfl,rfl,rfl,rfl,rfl,rfl,rfl,rfl,rfl,rfl,rfl,rfl,trivial⟩
  refine To.seq (a:=(aT 6 11111111111110100100111100100110100)) (b:=(aT 6 11111111111110100100111100100110101)) (sl1:=gS Ab L i v n A c b (ls (4*v+1)).length) (H1:=H) (nx1:=nx) k_ ?_ (To.seq (a:=(aT 6 111111111111101001001111001001101010)) (b:=(aT 6 111111111111101001001111001001101011)) (sl1:=Oq Ab L i v n A c b (ls (4*v+1)).length 0) (H1:=H) (nx1:=nx) k_ ?_ (To.seq (b:=(aT 6 1111111111111010010011110010011010111)) k_ t1 (To.seq (b:=(aT 6 11111111111110100100111100100110101111)) k_ t2 ?_)))
  .have hcell:=Pl (n:=4*Ab) (k:=4*v+1) (F:=F) o_
   clear first t1 t2 hPo hx3 hown hB
   by_cases hnil:ls (4*v+1)=[]
   .rw[hN.nil _ o_ (Fl o_) hnil]at hcell
    rw[hnil]
    clear hN
    generalize Aj (4*Ab) F=C1 at*
    exact Bu [A5 283 (Bn g rv (Az Ab)) (Az Ab),pl 285,A5 287 (.row 86 none C1) .nils,toO (gS Ab L i v n A c b 0)] [_,Ae (Af (0+2) [i6 g,rv,Az Ab])=some (Az Ab),_,_,Ae (Af (0+v*4+1) C1)=some V.nils] ⟨h3,(by rfl),Ar hv,h2,(by(rw[show 0+v*4+1=4*v+1 by omega];exact hcell))⟩
   .obtain⟨o1,_⟩:=hN.own _ o_ (Fl o_) hnil
    rw[o1]at hcell
    clear hN o1
    generalize Aj (4*Ab) F=C1,(ls (4*v+1)).length=f,hd (4*v+1)=h9,JY (kd (4*v+1))=rm at*
    exact Bu [A5 283 (Bn g rv (Az Ab)) (Az Ab),pl 285,A5 287 (.row 86 none C1) (.sl h9 0 f rm),toO (gS Ab L i v n A c b f)] [_,Ae (Af (0+2) [i6 g,rv,Az Ab])=some (Az Ab),_,_,Ae (Af (0+v*4+1) C1)=some (V.sl h9 0 f rm)] ⟨h3,(by rfl),Ar hv,h2,(by(rw[show 0+v*4+1=4*v+1 by omega];exact hcell))⟩
  .clear first t1 t2 hPo hx3 hown hB hN
   generalize (ls (4*v+1)).length=f at*
   exact Bu [toO (Oq Ab L i v n A c b f 0)] [] trivial
  .clear first t1 t2 hPo hx3 hown hB hN
   generalize (ls (4*v+1)).length=f at*
   exact Bu [pl 337,ld 338 (sl cv),pl 340,ld 341 (i6 z),nu 342 (b1+z:Nat),toO (Ii Ab L i v n A c (b1+z))] [_,_,_,_,wr .i64 ((↑b1:Int)+(↑z:Int))=(↑(b1+z):Int)] ⟨Ar hcn,hcv,Ar hf,hh,aq⟩
end
abbrev Xo(Ab:Nat)(q:List Nat)(i v n:Nat)(A:List V)(c:Nat):List (Nat×V):=[(1,.ptr 0 0),(2,.ptr 1 0),(3,i6 Ab),(4,.ptr 3 0),(5,Ij Ab),(6,.im Ab (it q)),(7,.ptr 6 0),(9,.sl 7 0 Ab (some (Ab-Ab))),(14,i6 i),(15,i6 v),(18,.im n A),(19,i6 c)]
abbrev Ll(Ab:Nat)(q:List Nat)(i:Nat):List (Nat×V):=[(1,.ptr 0 0),(2,.ptr 1 0),(3,i6 Ab),(4,.ptr 3 0),(5,Ij Ab),(6,.im Ab (it q)),(7,.ptr 6 0),(9,.sl 7 0 Ab (some (Ab-Ab))),(14,i6 i)]
section
variable {dc:List V} {W:List Nat} {g:Int} {P:List Pc} {Ab:Nat} (L:List Nat)
 (hc:1<=Ab/\Ab<=4) (hP:P.length=Ab) (hPo: ∀x∈P,Fo x) (hl:L.length=Ab) (hm: ∀x∈L,x<Ab) (hnd:L.Nodup)
include hc hP hPo hl hm hnd
abbrev IR(Ab:Nat)(L:List Nat)(i v f0 n0 c:Nat)(ls:Nat->List Int):Prop:=(∀w,w<Ab->w≠v->w∉L.take i->ls (4*w+1)=[]/\ls (4*w+3)=[])/\(ls (4*v+1)).length=f0/\(ls (4*v+2)).length=n0/\(ls (4*v+3)).length<=c
section
variable (i v n:Nat) (A:List V) (hA:Ba A) (hi:i<Ab) (hv:v<Ab) (hn:n<=2187) (f0 n0:Nat) (hf8:f0+n0<=8) (hcvs: ∀c,c<n->∃cv:List Int,Ae (A.drop (c*1))=some (sl cv)/\cv.length=f0+n0/\∀k,k<cv.length->0<=cv.getD k 0/\cv.getD k 0<3)
include hA hi hv hn hf8 hcvs
theorem cw(c:Nat)(hcn:c<n)(H:T O)(nx:Nat)(h:M6 dc W g P Ab (IR Ab L i v f0 n0 c) H nx): ∃H' nx',M6 dc W g P Ab (IR Ab L i v f0 n0 (c+1)) H' nx'/\To 365 (aT 6 11111111111110100100111100) (Xo Ab L i v n A c) H nx .normal (Xo Ab L i v n A (c+1)) H' nx':=by
 obtain⟨m,a,ow,rv,F,ls,hd,kd,R,hr,rfl,hB,hN,hR,hQ,hY⟩:=h
 obtain⟨cv,hcv,hcl,hx3⟩:=hcvs c hcn
 have hLf:=Fm L
 obtain⟨b1,hb1,t1⟩:=Yd (nx:=m+8) L hc hB hP hPo i v n A hA c hi hv hn hcn 0
 obtain⟨b2,hb2,t2⟩:=PD L hc hB hP hPo hN i v n A hA c hi hv hn hcn cv hcv hx3 o_ (λho=>by
  have h0:=fC.2 (hQ.ow v hv ho)
  omega) b1 o_
 obtain⟨pz,hpz,hFp⟩:=hQ.num v hv
 obtain⟨p,hp23,hFp⟩: ∃p:Nat,(p=2\/p=3)/\F (4*v)=i6 p:=by
  simp_all
 obtain⟨H',hB',hN',hR',t3⟩:=FW L hc hB hN hR i v n A hA c b2 p (b2%p) hv o_ (hQ.ko v hv) hFp o_ rfl
 have hol:=hY.2.2.2
 refine⟨H',m+10,⟨m+2,a,ow,_,_,_,_,_,_,_,rfl,hB',hN',hR',⟨λw hw=>?_,λw hw z hz=>?_,λw hw=>?_,hQ.rn,λw hw ho=>?_,hQ.rl,λw hw z hz=>?_,λw hw=>?_,λw hw=>?_,λw hw hne=>?_,λw hw hne=>?_⟩,λw hw hwv hwn=>?_,?_,?_,?_⟩,?_⟩
 .rw[Cn o_];exact hQ.num w hw
 .rw[Cn o_]at hz;exact hQ.no w hw z hz
 .rw[Cn o_];exact hQ.nl w hw
 .rw[Cn o_];exact hQ.ow w hw ho
 .rw[Cn o_]at hz;exact hQ.fe w hw z hz
 .rw[Cn o_];exact hQ.fl w hw
 .by_cases hwv:w=v
  .grind[Eh]
  .rw[Cn o_];exact hQ.ol w hw
 .rw[Cn o_]at hne⊢;exact hQ.kf w hw hne
 .by_cases hwv:w=v
  .grind[Eh]
  .rw[Cn o_]at hne⊢;exact hQ.ko w hw hne
 .grind[Cn]
 .grind[Cn]
 .grind[Cn]
 .grind[Eh]
 .clear hN hR hQ hY hB hN' hR' hB' hx3 hcvs hPo
  refine To.seq (a:=(aT 6 111111111111101001001111000)) (b:=(aT 6 111111111111101001001111001)) (sl1:=Xo Ab L i v n A c) (H1:=H) (nx1:=m+8) k_ ?_ (To.seq (a:=(aT 6 1111111111111010010011110010)) (b:=(aT 6 1111111111111010010011110011)) (sl1:=Ii Ab L i v n A c b2) (H1:=H') (nx1:=m+10) k_ (To.blockN (id:=13) (b:=(aT 6 11111111111110100100111100100)) k_ (λh=>by cases h) (To.seq (a:=(aT 6 111111111111101001001111001000)) (b:=(aT 6 111111111111101001001111001001)) (sl1:=Ii Ab L i v n A c 0) (H1:=H) (nx1:=m+8) k_ ?_ (To.seq (b:=(aT 6 1111111111111010010011110010011)) k_ t1 (To.seq (b:=(aT 6 11111111111110100100111100100111)) k_ t2 t3)))) ?_)
  .exact Bu [As 252,toO (Xo Ab L i v n A c)] [_] (Bf hcn)
  .exact Bu [toO (Ii Ab L i v n A c 0)] [] trivial
  .exact Bu [nu 254 (c+1:Nat),toO (Xo Ab L i v n A (c+1))] [_] (Dw c o_)
theorem Sh(H:T O)(nx:Nat)(h:M6 dc W g P Ab (IR Ab L i v f0 n0 0) H nx): ∃H' nx',M6 dc W g P Ab (IR Ab L i v f0 n0 n) H' nx'/\To 365 (aT 6 11111111111110100100111) (Mt Ab L i v++[(18,.im n A)]) H nx .normal (Ll Ab L i) H' nx':=by
 have hLf:=Fm L
 have key: ∃e sl H' nx',(e= .exit 12/\sl=Ll Ab L i/\M6 dc W g P Ab (IR Ab L i v f0 n0 n) H' nx')/\To 365 (aT 6 1111111111111010010011110) (Xo Ab L i v n A 0) H nx e sl H' nx':=by
  refine To.loop (b:=(aT 6 11111111111110100100111100)) k_ (λ(c:Nat) H nx=>c<=n/\M6 dc W g P Ab (IR Ab L i v f0 n0 c) H nx) (λc=>Xo Ab L i v n A c) (λc=>n-c) (λe sl H nx=>e= .exit 12/\sl=Ll Ab L i/\M6 dc W g P Ab (IR Ab L i v f0 n0 n) H nx) (λc H nx hI=>?_) 0 H nx ⟨aG _,h⟩
  obtain⟨hcn,hM⟩:=hI
  by_cases hlt:c<n
  .obtain⟨H',nx',h1,h2⟩:=cw L hc hP hPo hl hm hnd i v n A hA hi hv hn f0 n0 hf8 hcvs c hlt H nx hM
   exact .inl ⟨c+1,H',nx',⟨hlt,h1⟩,o_,h2⟩
  .obtain rfl:c=n:=o_
   right
   refine⟨.exit 12,Ll Ab L i,H,nx,(λh=>by cases h),⟨rfl,rfl,hM⟩,?_⟩
   clear h hM hcvs hPo
   exact Bu [no 252,toO (Ll Ab L i)] [_] (Cq hlt)
 obtain⟨e,sl,H',nx',⟨rfl,rfl,h1⟩,h3⟩:=key
 refine⟨H',nx',h1,To.seq (a:=(aT 6 111111111111101001001110)) (b:=(aT 6 111111111111101001001111)) (sl1:=Xo Ab L i v n A 0) (H1:=H) (nx1:=nx) k_ ?_ (To.block k_ h3)⟩
 clear h h1 h3 hcvs hPo
 exact Bu [toO (Xo Ab L i v n A 0)] [] trivial
end
abbrev Y6(Ab:Nat)(L:List Nat)(i:Nat)(ls:Nat->List Int):Prop:=∀w,w<Ab->w∉L.take i->ls (4*w+1)=[]/\ls (4*w+3)=[]
theorem gz(i:Nat)(hi:i<Ab)(H:T O)(nx:Nat)(h:M6 dc W g P Ab (Y6 Ab L i) H nx): ∃H' nx',M6 dc W g P Ab (Y6 Ab L (i+1)) H' nx'/\To 365 (aT 6 11111111111110100) (Ll Ab L i) H nx .normal (Ll Ab L (i+1)) H' nx':=by
 have hLf:=Fm L
 have hd1:=YA (l:=L) (k:=i) o_
 have htk:L.take (i+1)=L.take i++[L.getD i 0]:=by rw[dF,aB o_,aA,aB o_];rfl
 have hv:L.getD i 0<Ab:=hm _ (by simp_all)
 have hvn:L.getD i 0∉L.take i:=λh=>by
  grind[List.getElem_of_mem,List.getElem_inj]
 generalize L.getD i 0=v at*
 obtain⟨H1,nx1,hM1,t1⟩:=HI L hc hP hPo hl hm hnd i v hi hv H nx (h.mono λls hy=>⟨λw hw _ hwn=>hy w hw hwn,(hy v hv hvn).2,by simp_all⟩)
 have hM1':=hM1
 obtain⟨m,a,ow,rv,F,ls,hd,kd,R,hr,rfl,hB,hN,hR,hQ,hY⟩:=hM1
 have hfl:(ls (4*v+1)).length<=4:=by have:=hY.2.2;omega
 obtain⟨p,hp,hp1,hp2,t2⟩:=FE L hc hB hN hR hQ o_ i v hv hfl _ rfl
 have hbd:=Rg hc hB hN hR hQ hv
 have hln:=sU hc hB hN hR hQ (v:=v)
 have hnl:=hQ.nl v hv
 have hcvs: ∀c,c<p->∃cv:List Int,Ae ((Ah (E6 (Eo R (Ev Ab F ls) (Mh F ls v)) p)).drop (c*1))=some (sl cv)/\cv.length=(ls (4*v+1)).length+(ls (4*v+2)).length/\∀k,k<cv.length->0<=cv.getD k 0/\cv.getD k 0<3:=λc hc'=>by
  have hh:=Pk (R:=E6 (Eo R (Ev Ab F ls) (Mh F ls v)) p) (k:=c) (by grind[XT])
  rw[nI hc']at hh
  have hok:=(Pv (λi hi=>(hbd i hi).1) (j:=c) o_).1
  refine⟨_,hh,by rw[Li,hln],λk hk=>?_⟩
  rw[Li]at hk
  have h1:=hok k hk
  grind
 obtain⟨H2,nx2,hM2,t3⟩:=Sh L hc hP hPo hl hm hnd i v p (Ah (E6 (Eo R (Ev Ab F ls) (Mh F ls v)) p)) (B7 _) hi hv hp2 _ _ o_ hcvs H1 (m+8) ⟨m,a,ow,rv,F,ls,hd,kd,R,hr,rfl,hB,hN,hR,hQ,hY.1,rfl,rfl,by simp_all⟩
 refine⟨H2,nx2,hM2.mono λls' hy w hw hwn=>hy.1 w hw (λe=>hwn (by simp_all)) (λh=>hwn (by simp_all)),?_⟩
 clear hM1' hB hN hR hQ hY hM2 hcvs hbd h hPo
 refine To.seq (a:=(aT 6 111111111111101000)) (b:=(aT 6 111111111111101001)) (sl1:=Ll Ab L i) (H1:=H) (nx1:=nx) k_ ?_ (To.seq (a:=(aT 6 1111111111111010010)) (b:=(aT 6 1111111111111010011)) (sl1:=Ll Ab L i) (H1:=H2) (nx1:=nx2) k_ (To.blockN (id:=7) (b:=(aT 6 11111111111110100100)) k_ (λh=>by cases h) (To.seq (a:=(aT 6 111111111111101001000)) (b:=(aT 6 111111111111101001001)) (sl1:=Mt Ab L i v) (H1:=H) (nx1:=nx) k_ ?_ (To.seq (b:=(aT 6 1111111111111010010011)) k_ t1 (To.seq (b:=(aT 6 11111111111110100100111)) k_ t2 t3)))) ?_)
 .refine To.of_vc (n:=100) (hs:=[As 196,toO (Ll Ab L i)]) λnx0 lg G hG=>?_
  clear t1 t2 t3
  exact m_ (p:=An [_,G Ex.normal (Ll Ab L i) H nx lg,Sm (V.ptr 0 0),Sm (V.ptr 1 0),Sm (i6 ↑Ab),Sm (V.ptr 3 0),Sm (Ij Ab),Sm (V.im Ab (it L)),Sm (V.ptr 6 0),Sm (V.sl 7 0 Ab (some (Ab-Ab))),Sm (i6 ↑i),_]) ⟨Bf hi,aq,aq,aq,aq,aq,aq,aq,aq,aq,aq,tq⟩
 .refine To.of_vc (n:=100) (hs:=[pl 201,ld 202 (i6 v),toO (Mt Ab L i v)]) λnx0 lg G hG=>?_
  clear t1 t2 t3
  exact m_ (p:=An [_,_,G Ex.normal (Mt Ab L i v) H nx lg,Sm (V.ptr 0 0),Sm (V.ptr 1 0),Sm (i6 ↑Ab),Sm (V.ptr 3 0),Sm (Ij Ab),Sm (V.im Ab (it L)),Sm (V.ptr 6 0),Sm (V.sl 7 0 Ab (some (Ab-Ab))),Sm (i6 ↑i),Sm (i6 ↑v),_]) ⟨Ar hi,hd1,aq,aq,aq,aq,aq,aq,aq,aq,aq,aq,aq,tq⟩
 .refine To.of_vc (n:=100) (hs:=[nu 198 (i+1:Nat),toO (Ll Ab L (i+1))]) λnx0 lg G hG=>?_
  clear t1 t2 t3
  exact m_ (p:=An [_,G Ex.normal (Ll Ab L (i+1)) H2 nx2 lg,Sm (V.ptr 0 0),Sm (V.ptr 1 0),Sm (i6 ↑Ab),Sm (V.ptr 3 0),Sm (Ij Ab),Sm (V.im Ab (it L)),Sm (V.ptr 6 0),Sm (V.sl 7 0 Ab (some (Ab-Ab))),Sm (i6 ↑(i+1)),_]) ⟨Dw i o_,aq,aq,aq,aq,aq,aq,aq,aq,aq,aq,tq⟩
theorem cz(H:T O)(nx:Nat)(h:M6 dc W g P Ab (Y6 Ab L 0) H nx): ∃H' nx',M6 dc W g P Ab (λ_=>True) H' nx'/\To 365 (aT 6 11111111111110) (Ix Ab L) H nx .normal (Ix Ab L) H' nx':=by
 have hLf:=Fm L
 have key: ∃e sl H' nx',(e= .exit 6/\sl=Ix Ab L/\M6 dc W g P Ab (λ_=>True) H' nx')/\To 365 (aT 6 1111111111111010) (Ll Ab L 0) H nx e sl H' nx':=by
  refine To.loop (b:=(aT 6 11111111111110100)) k_ (λ(i:Nat) H nx=>i<=Ab/\M6 dc W g P Ab (Y6 Ab L i) H nx) (λi=>Ll Ab L i) (λi=>Ab-i) (λe sl H nx=>e= .exit 6/\sl=Ix Ab L/\M6 dc W g P Ab (λ_=>True) H nx) (λi H nx hI=>?_) 0 H nx ⟨aG _,h⟩
  obtain⟨hi,hM⟩:=hI
  by_cases hlt:i<Ab
  .obtain⟨H',nx',h1,h2⟩:=gz L hc hP hPo hl hm hnd i hlt H nx hM
   exact .inl ⟨i+1,H',nx',⟨hlt,h1⟩,o_,h2⟩
  .obtain rfl:i=Ab:=o_
   right
   refine⟨.exit 6,Ix i L,H,nx,(λh=>by cases h),⟨rfl,rfl,hM.mono λ_ _=>trivial⟩,?_⟩
   clear h hM hPo
   exact Bu [no 196,toO (Ix i L)] [_] (Cq hlt)
 obtain⟨e,sl,H',nx',⟨rfl,rfl,h1⟩,h3⟩:=key
 refine⟨H',nx',h1,To.seq (a:=(aT 6 111111111111100)) (b:=(aT 6 111111111111101)) (sl1:=Ll Ab L 0) (H1:=H) (nx1:=nx) k_ ?_ (To.block k_ h3)⟩
 clear h h1 h3 hPo
 exact Bu [toO (Ll Ab L 0)] [] trivial
end
theorem GO{dc:List V}{W:List Nat}{qc:List V}{Ab a:Nat}{ow:Nat->Bool}{rv:V}(L:List Nat)(hB:MB dc W g qc Ab a ow rv H)(hrv:rv= .nils\/∃h q,rv= .sl h 0 q none):To 365 (aT 6 11111111111111) (Ix Ab L) H nx .ret [(2,.ptr 1 0)] (pt H 1 (Bn g rv (Az Ab))) nx:=by
 have h1:=hB.h1
 have h3:=hB.h3
 clear hB
 have hLf:=Fm L
 rcases hrv with rfl|⟨h,q,rfl⟩
 .exact Bu [A5 364 (Bn g .nils (Az Ab)) (.agg [i6 g,.nils,Az Ab]),so (Bn 0 .nils .nils) [i6 g,.nils,Az Ab],toO [(2,.ptr 1 0)]] (let z0:=[i6 g,V.nils,Az Ab];[_,Dj 3 z0=some z0,An [_,Bg 0 [i6 0,V.nils,V.nils] z0=some z0]]) ⟨h3,(by rfl),⟨h1,(by rfl)⟩⟩
 .exact Bu [A5 364 (Bn g (.sl h 0 q none) (Az Ab)) (.agg [i6 g,.sl h 0 q none,Az Ab]),so (Bn 0 .nils .nils) [i6 g,.sl h 0 q none,Az Ab],toO [(2,.ptr 1 0)]] (let z0:=[i6 g,V.sl h 0 q none,Az Ab];[_,Dj 3 z0=some z0,An [_,Bg 0 [i6 0,V.nils,V.nils] z0=some z0]]) ⟨h3,(by rfl),⟨h1,(by rfl)⟩⟩
theorem PK{lg:List Nat}{k:Nat}(hn:2<=nx){l:List V}(h1:gt H 1=some (.row t none l)){l':List V}(hv:A8 H.get (Fr 0 [1] lg) (G5 0 [1]) l' l):Gc 0 [1] (Be g0 k [(2,.ptr 1 0)] H nx lg) (Al g0 k {sl:=[(2,.ptr 0 0)],os:=[.row t none l']}):=by
 rw[Cm]at h1
 refine⟨rfl,λg hg=>?_,d_,rfl,rfl,λi x hx=>?_,λh o ho hlive=>?_,λh _ hlt=>absurd hlt (aJ _)⟩
 .refine⟨aG _,?_⟩
  show g<nx
  simp at hg;omega
 .have c4:gt (Hl (B0 k) [(2,V.ptr 1 0)]) 2=some (.ptr 1 0):=by
   show gt (pt (B0 k) 2 (V.ptr 1 0)) 2=_
   rw[Cm,Bh,T.get_put,if_pos rfl]
  rw[Cm]at c4
  rcases E2 _ _ _ _ hx with hmem|hmem
  .simp only[aK,bE,or_false]at hmem
   cases hmem
   exact⟨_,c4,1,rfl,rfl⟩
  .rw[EJ]at hmem;cases hmem
 .rcases Ej _ _ _ _ _ ho with⟨_,hm⟩|hm
  .rw[cO]at hm
   rcases h with _|h
   .cases hm
    exact⟨1,_,rfl,h1,_,rfl,hv⟩
   .simp at hm
  .simp at hm
def Gz(K:Nat)(R:List (List Int))(N:List Mc):Prop:=R.length<=K/\N.length<=K/\(∀L∈R,L.length<=K)/\∀x∈N,x.fr.length<=K/\x.no.length<=K/\x.ou.length<=K
def ka(R:List (List Int))(N:List Mc):Prop:=R.length<=6/\∀x∈N,(∀z∈x.fr,0<=z/\z<N.length)/\∀z∈x.no,0<=z/\z<R.length
theorem Sz{gr:Nat}{NN:List Pc}{SS:List (Nat×Nat)}{W Q:List Nat}(ok:J5 gr NN SS W Q): ∃(g:Int)(R:List (List Int))(N:List Mc),Gz 5000 R N/\(1<=N.length/\N.length<=4)/\ka R N/\Ag Pg g0 6 [.agg (Ia gr NN SS W Q)] (Bd g R N):=by
 obtain⟨Ab,g,P,F0,hc,hg,hP,hPo,hF0,start⟩:=S5 gr NN SS W Q ok
 have hl:=LX Q Ab
 have hm:=TA (Q:=Q) Ab
 have hnd:=Sl (Q:=Q) Ab
 generalize Gg Q Ab=L at*
 obtain⟨H1,nx1,q1,t1⟩:=Ya L hc hg ok.w ok.wl hP hPo _ _ (Sy hc hF0)
 obtain⟨H2,nx2,q2,t2⟩:=Xl L hc hg ok hP hPo H1 nx1 q1
 obtain⟨H3,nx3,q3,t3⟩:=cz L hc hP hPo hl hm hnd H2 nx2 ((Ta hc q2).mono λls hy w hw _=>hy w hw)
 obtain⟨m,a,ow,rv,F,ls,hd,kd,R,hr,rfl,hB,hN,hR,hQ,_⟩:=q3
 have hrv:rv= .nils\/∃h q,rv= .sl h 0 q none:=by
  by_cases h:R=[]
  .exact .inl (hR.nil h)
  .exact .inr ⟨_,_,(hR.own h).1⟩
 have t4:=GO (nx:=m+8) L hB hrv
 obtain⟨H4,hH4⟩: ∃H4,H4=pt H3 1 (Bn g rv (Az Ab)):=⟨_,rfl⟩
 have g4: ∀i,i≠1->gt H4 i=gt H3 i:=λi hi=>by rw[hH4,Ad,if_neg hi]
 have hN4:NL Ab F ls hd kd H4 (m+8):=hN.frame (aC _) (g4 2 o_) λj hj hS hl'=>g4 _ (by have:=(hN.own j hj hS hl').2.1;omega)
 have hR4:Kx Ab ls hd rv R hr H4 (m+8):=⟨hR.nil,λh=>by
  obtain⟨r1,r2,r3,r4⟩:=hR.own h
  exact⟨r1,r2,r3,by rw[g4 _ o_];exact r4⟩,hR.sep⟩
 refine⟨g,R,Ev Ab F ls,⟨by have:=hQ.rn;omega,by rw[Py];omega,λL hL=>?_,λx hx=>?_⟩,by rw[Py];exact hc,⟨hQ.rn,λx hx=>?_⟩,?_⟩
 .have:=hQ.rl L hL;omega
 .obtain⟨v,hv,rfl⟩:=cC.1 hx
  have hv:=bB.1 hv
  have h1:=hQ.fl v hv
  have h2:=hQ.nl v hv
  have h3:=hQ.ol v hv
  exact⟨by show(ls (4*v+1)).length<=_;omega,by show(ls (4*v+2)).length<=_;omega,by show(ls (4*v+3)).length<=_;omega⟩
 .obtain⟨v,hv,rfl⟩:=cC.1 hx
  have hv:=bB.1 hv
  rw[Py]
  exact⟨λz hz=>hQ.fe v hv z hz,λz hz=>hQ.no v hv z hz⟩
 .rw[<-hH4]at t4
  have full:=start _ _ _ _ (To.seq (b:=aT 6 111111111111) k_ t1 (To.seq (b:=aT 6 1111111111111) k_ t2 (To.seq (b:=aT 6 11111111111111) k_ t3 t4)))
  have hview:=λFz hF=>tJ (g:=g) hc hN4 hR4 hQ o_ Fz hF
  refine T8 (.inr rfl) full (r:=[1]) (S:={sl:=[(2,.ptr 0 0)],os:=[.row 34 none [i6 g,.im R.length (Ah R),.im (Ev Ab F ls).length (Ak (Ev Ab F ls))]]}) rfl (λlg=>PK o_ (by rw[hH4,Ad,if_pos rfl]) ?_) ?_
  .obtain⟨y,ys,e1,e2,_⟩:=hview (Fr 0 [1] lg) (λi h1 _=>⟨aG _,by simp;omega,λ_ _=>aG _⟩)
   cases e1
   obtain⟨l',e3,e4⟩:=e2
   cases e3
   obtain⟨y1,z1,f1,v1,y2,z2,f2,v2,y3,z3,f3,v3,v4⟩:=e4
   exact⟨y1,z1,f1,v1,y2,z2,f2,v2,y3,z3,f3,v3,v4⟩
  .show LF 365 (Iq 6 []) _ (.agg [i6 g,.im R.length (Ah R),.im (Ev Ab F ls).length (Ak (Ev Ab F ls))]) _
   generalize Ah R=RR,Ak (Ev Ab F ls)=NC at*
   refine Eq.mp (by kernel_rfl:(365=365/\Iq 6 []=Iq 6 []/\true=true/\V.agg [i6 g,.im R.length RR,.im (Ev Ab F ls).length NC]= .agg [i6 g,.im R.length RR,.im (Ev Ab F ls).length NC])=_) ⟨rfl,rfl,rfl,rfl⟩
theorem NR.ext{lo hR':Nat}{sp:Option Nat}{n':Nat}{F':Nat->V}{ls':Nat->List Int}{hd':Nat->Nat}{kd kd':Nat->Bool}
  (h:n≠0->NR H lo nx hR t sp n F S ls hd kd)(hlo:lo<=nx)(hn:nx<=nx')(row:gt H' hR'=some (.row t sp (Aj n' F')))
  (old: ∀i,i<n->F' i=F i/\ls' i=ls i/\hd' i=hd i/\kd' i=kd i/\(S i=true->ls i≠[]->gt H' (hd i)=gt H (hd i)/\hd i≠hR'))
  (nil: ∀i,n<=i->i<n'->S i=true->ls' i=[]->F' i= .nils)
  (own: ∀i,n<=i->i<n'->S i=true->ls' i≠[]->F' i= .sl (hd' i) 0 (ls' i).length (JY (kd' i))/\nx<=hd' i/\hd' i<nx'/\hd' i≠hR'/\gt H' (hd' i)=some (VL (kd' i) (ls' i)))
  (inj: ∀i j,n<=i->i<n'->n<=j->j<n'->S i=true->S j=true->ls' i≠[]->ls' j≠[]->hd' i=hd' j->i=j):NR H' lo nx' hR' t sp n' F' S ls' hd' kd' where
 row:=row
 nil i h1 h2 h3:=by
  by_cases hi:i<n
  .obtain⟨e1,e2,e3,e4,e5⟩:=old i hi
   rw[e1];rw[e2]at h3
   exact(h o_).nil i hi h2 h3
  .exact nil i o_ h1 h2 h3
 own i h1 h2 h3:=by
  by_cases hi:i<n
  .obtain⟨e1,e2,e3,e4,e5⟩:=old i hi
   rw[e2]at h3
   obtain⟨a1,a2,a3,a4,a5⟩:=(h o_).own i hi h2 h3
   obtain⟨b1,b2⟩:=e5 h2 h3
   rw[e1,e2,e3,e4]
   exact⟨a1,a2,o_,b2,b1.trans a5⟩
  .obtain⟨a1,a2,a3,a4,a5⟩:=own i o_ h1 h2 h3
   exact⟨a1,o_,a3,a4,a5⟩
 inj i j h1 h2 h3 h4 h5 h6 e:=by
  by_cases hi:i<n<;>by_cases hj:j<n
  .obtain⟨_,e2,e3,_⟩:=old i hi
   obtain⟨_,f2,f3,_⟩:=old j hj
   rw[e2]at h5;rw[f2]at h6;rw[e3,f3]at e
   exact(h o_).inj i j hi hj h3 h4 h5 h6 e
  .obtain⟨_,e2,e3,_⟩:=old i hi
   rw[e2]at h5;rw[e3]at e
   have a:=((h o_).own i hi h3 h5).2.2.1
   have b:=(own j o_ h2 h4 h6).2.1
   omega
  .obtain⟨_,f2,f3,_⟩:=old j hj
   rw[f2]at h6;rw[f3]at e
   have a:=((h o_).own j hj h4 h6).2.2.1
   have b:=(own i o_ h1 h3 h5).2.1
   omega
  .exact inj i j o_ h1 o_ h2 h3 h4 h5 h6 e
structure LB(sz t:Nat)(H:T O)(lo nx:Nat)(v:V)(k:Nat)(F:Nat->V)(S:Nat->Bool)(ls:Nat->List Int)(hd:Nat->Nat)(kd:Nat->Bool)(hR:Nat):Prop where
 nil:k=0->v= .nils
 own:k≠0->v= .sl hR 0 k none/\lo<=hR/\hR<nx/\NR H lo nx hR t (some sz) (sz*k) F S ls hd kd
theorem LB.empty{sz:Nat}{lo:Nat}{kd:Nat->Bool}:LB sz t H lo nx .nils 0 F S ls hd kd hR:=⟨λ_=>rfl,λh=>absurd rfl h⟩
theorem LB.frame{sz:Nat}{lo:Nat}{v:V}{k:Nat}{kd:Nat->Bool}(h:LB sz t H lo nx v k F S ls hd kd hR)(hn:nx<=nx')(hg: ∀i,lo<=i->i<nx->gt H' i=gt H i):LB sz t H' lo nx' v k F S ls hd kd hR:=
 ⟨h.nil,λhk=>by
  obtain⟨a,b,c,d⟩:=h.own hk
  exact⟨a,b,o_,d.frame hn (hg _ b c) λi h1 h2 h3=>hg _ (d.own i h1 h2 h3).2.1 (d.own i h1 h2 h3).2.2.1⟩⟩
theorem LB.view{sz:Nat}{lo:Nat}{v:V}{k:Nat}{kd:Nat->Bool}(h:LB sz t H lo nx v k F S ls hd kd hR){G:Nat->V}(hF: ∀g,lo<=g->g<nx->Fz g)(h0: ∀i,i<sz*k->S i=false->G i=F i/\Hf (F i))(h1: ∀i,i<sz*k->S i=true->G i=sl (ls i)):Bo H.get Fz ρ (.im k (Aj (sz*k) G)) v:=by
 by_cases hk:k=0
 .subst hk;rw[h.nil rfl];exact .inr (.inl ⟨rfl,rfl⟩)
 .obtain⟨a,b,c,d⟩:=h.own hk
  rw[a]
  exact .inr (.inr ⟨hR,0,none,_,_,_,rfl,hF _ b c,by rw[<-Cm];exact d.row,NR.viewP d hF h0 h1⟩)
theorem ak{G:Nat->V}(h: ∀i,i<n->F i=G i):Aj n F=Aj n G:=dZ λi hi=>h i (bB.1 hi)
theorem UL(n:Nat)(F:Nat->V):Aj (n+1) F=Aj n F++[F n]:=by unfold Aj;rw[eG,bP];rfl
theorem ag(n:Nat)(F:Nat->V)(x:V):Aj n F++[x]=Aj (n+1) (Bz F n x):=by
 rw[UL,Eh]
 congr 1
 exact ak λi hi=>(Cn o_).symm
abbrev Cu(g:Int)(r n:V):O:=.row 34 none [i6 g,r,n]
structure BB(bc:List V)(g:Int)(r0 n0:V)(H:T O):Prop where
 h0:gt H 0=some (.row 28 none bc)
 h1:gt H 1=some (Cu g r0 n0)
 h2:gt H 2=some (Cu 0 .nils .nils)
theorem BB.frame{r0 n0:V}(h:BB bc g r0 n0 H)(hg: ∀i,i<3->gt H' i=gt H i):BB bc g r0 n0 H':=⟨by rw[hg 0 o_];exact h.h0,by rw[hg 1 o_];exact h.h1,by rw[hg 2 o_];exact h.h2⟩
theorem XI{l:List Int}:A6 H 1 (sl l)=some (l.length,Aa l):=by
 grind[A6,Nat.ble_eq_true_of_le,F5]
abbrev Wd(rv:V)(r:Nat):List (Nat×V):=[(2,.ptr 0 0),(3,.ptr 1 0),(4,.ptr 2 0),(5,rv),(6,i6 r)]
abbrev Xf(rv:V):List (Nat×V):=[(2,.ptr 0 0),(3,.ptr 1 0),(4,.ptr 2 0),(5,rv)]
abbrev RB(H:T O)(lo nx:Nat)(rv:V)(k:Nat)(F:Nat->V)(ls:Nat->List Int)(hd:Nat->Nat)(kd:Nat->Bool)(hR:Nat):Prop:=LB 1 47 H lo nx rv k F (λ_=>true) ls hd kd hR
section
variable {bc:List V} {g:Int} {R:List (List Int)} {n0:V} {H:T O} {m:Nat} {rv:V} {F:Nat->V} {ls:Nat->List Int} {hd:Nat->Nat} {hR:Nat}
 (hB:BB bc g (.im R.length (Ah R)) n0 H) (hl: ∀L∈R,L.length<=1000000) (hn:R.length<=1000000)
include hB hl hn
theorem Re(r:Nat)(hr:r<R.length)(hL:RB H 3 (m+3) rv r F ls hd (λ_=>true) hR)(hls: ∀i,i<r->ls i=R.getD i []): ∃(rv':V)(H':T O)(m':Nat)(F':Nat->V)(ls':Nat->List Int)(hd':Nat->Nat)(hR':Nat),BB bc g (.im R.length (Ah R)) n0 H'/\RB H' 3 (m'+3) rv' (r+1) F' ls' hd' (λ_=>true) hR'/\(∀i,i<r+1->ls' i=R.getD i [])/\
  To 237 (aT 7 1110100) (Wd rv r) H (m+3) .normal (Wd rv' (r+1)) H' (m'+3):=by
 have hmem:R.getD r []∈R:=by rw[aA,aB hr];exact cL _
 have hL6:=hl _ hmem
 have hh:=Pk hr
 have hRf:=B7 R
 have hLf:=Ap (R.getD r [])
 obtain⟨h0,h1,h2⟩:=hB
 generalize hLe:R.getD r []=L at*
 -- what the new state holds, whatever the way was
 have fin: ∀(H':T O)(m' hR' q:Nat)(x:V),m+3<=m'+3->(∀i,i<m+3->(r≠0->i≠hR)->gt H' i=gt H i)->gt H' hR'=some (.row 47 (some 1) (Aj r F++[x]))->(L=[]->x= .nils)->(L≠[]->x= .sl q 0 L.length none/\m+3<=q/\q<m'+3/\q≠hR'/\gt H' q=some (.row 3 (some 1) (Aa L)))->m+3<=hR'->hR'<m'+3->
   BB bc g (.im R.length (Ah R)) n0 H'/\RB H' 3 (m'+3) (.sl hR' 0 (r+1) none) (r+1) (Bz F r x) (Bz ls r L) (Bz hd r q) (λ_=>true) hR'/\(∀i,i<r+1->Bz ls r L i=R.getD i []):=by
  intro H' m' hR' q x f1 f2 f3 f4 f5 f6 f7
  have hRb:r≠0->3<=hR/\hR<m+3:=λh=>⟨(hL.own h).2.1,(hL.own h).2.2.1⟩
  refine⟨⟨?_,?_,?_⟩,⟨λh=>o_,λ_=>⟨rfl,o_,f7,?_⟩⟩,λi hi=>?_⟩
  .grind
  .grind
  .grind
  .rw[show 1*(r+1)=r+1 by omega]
   refine NR.ext (n:=r) (hR:=hR) (nx:=m+3) (kd:=λ_=>true) (λh=>by have:=(hL.own h).2.2.2;rwa [show 1*r=r by omega]at this) o_ f1 (by rw[f3,ag]) (λi hi=>⟨Cn o_,Cn o_,Cn o_,rfl,λhS hne=>?_⟩) (λi h1' h2' _ h3'=>?_) (λi h1' h2' _ h3'=>?_) (λi j a1 a2 a3 a4 _ _ _ _ _=>o_)
   .have hr0:r≠0:=o_
    have hNR:=(hL.own hr0).2.2.2
    rw[show 1*r=r by omega]at hNR
    obtain⟨o1,o2,o3,o4,o5⟩:=hNR.own i hi hS hne
    grind
   all_goals grind[Eh]
  .grind[Eh,Cn]
 by_cases hLn:L=[]
 .subst hLn
  by_cases hr0:r=0
  .subst hr0
   obtain rfl:=hL.nil rfl
   have hf:=fin (pt (pt H (m+3) (.row 47 none [.nils])) (m+4) (.row 47 (some 1) [.nils])) (m+2) (m+4) (m+3) (.nils) o_ (λi hi _=>by grind[Ad]) (by grind[Ad]) (λ_=>rfl) (λh=>absurd rfl h) o_ o_
   refine⟨_,_,m+2,_,_,_,_,hf.1,hf.2.1,hf.2.2,?_⟩
   clear hf fin hL hls
   generalize Ah R=RR,R.length=nR at*
   exact Bu [A5 15 (Cu g (.im nR RR) n0) (.im nR RR),As 17,A5 23 (Cu g (.im nR RR) n0) (.im nR RR),pl 25,ld 26 (.im 0 Eb),(29,.an 1 [.nils]),nu 19 (0+1:Nat),toO (Wd (.sl (m+4) 0 (0+1) none) (0+1))] (let z1:=V.im nR RR;let z3:=Ae (Af 1 [i6 g,z1,n0]);[_,z3=some z1,_,_,z3=some z1,_,Ae (List.drop (0*1) RR)=some (V.im 0 Eb),An [A6 (pt H (m+3) (O.row 47 none [V.nils])) 1 (V.sl (m+3) 0 1 (some 0))=some (1,[V.nils]),1<=9223372036854775807,1*24<=140737488355328],wr .i64 ((↑(0:Nat):Int)+(1:Int))=(↑(1):Int)]) ⟨h1,gq,Bf hr,h1,gq,Ar hr,gq,⟨G2 (by exact gq),a_⟩,aq⟩
  .obtain⟨e,k1,k2,k3⟩:=hL.own hr0
   subst e
   obtain⟨k,rfl⟩: ∃k,hR=k+3:=⟨hR-3,o_⟩
   have k4:gt H (k+3)=some (.row 47 (some 1) (Aj r F)):=by have:=k3.row;rwa [show 1*r=r by omega]at this
   clear k3
   have hf:=fin (pt (pt (pt H (m+3) (.row 47 none [.nils])) (k+3) .dead) (m+4) (.row 47 (some 1) (Aj r F++[.nils]))) (m+2) (m+4) (m+3) (.nils) o_ (λi hi hi2=>by grind[Ad]) (by grind[Ad]) (λ_=>rfl) (λh=>absurd rfl h) o_ o_
   refine⟨_,_,m+2,_,_,_,_,hf.1,hf.2.1,hf.2.2,?_⟩
   clear hf fin hL hls
   generalize Ah R=RR,R.length=nR at*
   have hcl:=Wu r F
   generalize Aj r F=CF at*
   exact Bu [A5 15 (Cu g (.im nR RR) n0) (.im nR RR),As 17,A5 23 (Cu g (.im nR RR) n0) (.im nR RR),pl 25,ld 26 (.im 0 Eb),(29,.aop (.row 47 (some 1) CF) 1 [.nils]),nu 19 (r+1:Nat),toO (Wd (.sl (m+4) 0 (r+1) none) (r+1))] (let z0:=pt H (m+3) (O.row 47 none [V.nils]);let z1:=V.im nR RR;let z3:=Ae (Af 1 [i6 g,z1,n0]);[_,z3=some z1,_,_,z3=some z1,_,Ae (List.drop (r*1) RR)=some (V.im 0 Eb),A6 z0 1 (V.sl (m+3) 0 1 (some 0))=some (1,[V.nils]),An [gt z0 (k+3)=some (O.row 47 (some 1) CF),CF.length=r*1,1<=1,r+1<=9223372036854775807,(r+1)*24<=140737488355328,Bl [V.nils]=true],_]) ⟨h1,gq,Bf hr,h1,gq,Ar hr,gq,G2 (by exact gq),⟨gq,aq,aq,aq,aq,gq⟩,Dw r o_⟩
 .obtain⟨q,hq⟩: ∃q,L.length=q+1:=⟨L.length-1,by grind[List.length_pos_iff]⟩
  obtain⟨X,hX⟩: ∃X,X=Aa L:=⟨_,rfl⟩
  have hXl:X.length=q+1:=by rw[hX,F5,hq]
  have hsrc: ∀H:T O,A6 H 1 (.im (q+1) X)=some (q+1,X):=λH=>by
   grind[XI]
  rw[show sl L= .im (q+1) X by grind]at hh
  rw[<-hX]at hLf
  by_cases hr0:r=0
  .subst hr0
   obtain rfl:=hL.nil rfl
   have hf:=fin (pt (pt (pt H (m+3) (.row 3 (some 1) X)) (m+4) (.row 47 none [.sl (m+3) 0 (q+1) none])) (m+5) (.row 47 (some 1) [.sl (m+3) 0 (q+1) none])) (m+3) (m+5) (m+3) (.sl (m+3) 0 (q+1) none) o_ (λi hi _=>by grind[Ad]) (by grind[Ad]) (λh=>absurd h hLn) (λ_=>⟨by rw[hq],o_,o_,o_,by grind[Ad]⟩) o_ o_
   refine⟨_,_,m+3,_,_,_,_,hf.1,hf.2.1,hf.2.2,?_⟩
   clear hf fin hL hls
   generalize Ah R=RR,R.length=nR at*
   exact Bu [A5 15 (Cu g (.im nR RR) n0) (.im nR RR),As 17,A5 23 (Cu g (.im nR RR) n0) (.im nR RR),pl 25,ld 26 (.im (q+1) X),(27,.an (q+1) X),(29,.an 1 [.sl (m+3) 0 (q+1) none]),nu 19 (0+1:Nat),toO (Wd (.sl (m+5) 0 (0+1) none) (0+1))] (let z2:=[V.sl (m+3) 0 (q+1) none];let z3:=V.im nR RR;let z4:=Ae (Af 1 [i6 g,z3,n0]);[_,z4=some z3,_,_,z4=some z3,_,_,An [A6 H 1 (V.im (q+1) X)=some (q+1,X),q+1<=9223372036854775807,(q+1)*8<=140737488355328],An [A6 (pt (pt H (m+3) (O.row 3 (some 1) X)) (m+3+1) (O.row 47 none z2)) 1 (V.sl (m+3+1) 0 1 (some 0))=some (1,z2),1<=9223372036854775807,1*24<=140737488355328],wr .i64 ((↑(0:Nat):Int)+(1:Int))=(↑(1):Int)]) ⟨h1,gq,Bf hr,h1,gq,Ar hr,hh,a_,⟨G2 (by exact gq),a_⟩,aq⟩
  .obtain⟨e,k1,k2,k3⟩:=hL.own hr0
   subst e
   obtain⟨k,rfl⟩: ∃k,hR=k+3:=⟨hR-3,o_⟩
   have k4:gt H (k+3)=some (.row 47 (some 1) (Aj r F)):=by have:=k3.row;rwa [show 1*r=r by omega]at this
   clear k3
   have hf:=fin (pt (pt (pt (pt H (m+3) (.row 3 (some 1) X)) (m+4) (.row 47 none [.sl (m+3) 0 (q+1) none])) (k+3) .dead) (m+5) (.row 47 (some 1) (Aj r F++[.sl (m+3) 0 (q+1) none]))) (m+3) (m+5) (m+3) (.sl (m+3) 0 (q+1) none) o_ (λi hi hi2=>by grind[Ad]) (by grind[Ad]) (λh=>absurd h hLn) (λ_=>⟨by rw[hq],o_,o_,o_,by grind[Ad]⟩) o_ o_
   refine⟨_,_,m+3,_,_,_,_,hf.1,hf.2.1,hf.2.2,?_⟩
   clear hf fin hL hls
   generalize Ah R=RR,R.length=nR at*
   have hcl:=Wu r F
   generalize Aj r F=CF at*
   exact Bu [A5 15 (Cu g (.im nR RR) n0) (.im nR RR),As 17,A5 23 (Cu g (.im nR RR) n0) (.im nR RR),pl 25,ld 26 (.im (q+1) X),(27,.an (q+1) X),(29,.aop (.row 47 (some 1) CF) 1 [.sl (m+3) 0 (q+1) none]),nu 19 (r+1:Nat),toO (Wd (.sl (m+5) 0 (r+1) none) (r+1))] (let z1:=[V.sl (m+3) 0 (q+1) none];let z2:=V.im nR RR;let z0:=pt (pt H (m+3) (O.row 3 (some 1) X)) (m+3+1) (O.row 47 none z1);let z4:=Ae (Af 1 [i6 g,z2,n0]);[_,z4=some z2,_,_,z4=some z2,_,_,An [A6 H 1 (V.im (q+1) X)=some (q+1,X),q+1<=9223372036854775807,(q+1)*8<=140737488355328],A6 z0 1 (V.sl (m+3+1) 0 1 (some 0))=some (1,z1),An [gt z0 (k+3)=some (O.row 47 (some 1) CF),CF.length=r*1,1<=1,r+1<=9223372036854775807,(r+1)*24<=140737488355328,Bl z1=true],_]) ⟨h1,gq,Bf hr,h1,gq,Ar hr,hh,a_,G2 (by exact gq),⟨gq,aq,aq,aq,aq,gq⟩,Dw r o_⟩
end
theorem Xu{R:List (List Int)}{n0:V}(hB:BB bc g (.im R.length (Ah R)) n0 H)(hl: ∀L∈R,L.length<=1000000)(hn:R.length<=1000000): ∃(rv:V)(H':T O)(m':Nat)(F:Nat->V)(ls:Nat->List Int)(hd:Nat->Nat)(hR:Nat),BB bc g (.im R.length (Ah R)) n0 H'/\RB H' 3 (m'+3) rv R.length F ls hd (λ_=>true) hR/\(∀i,i<R.length->ls i=R.getD i [])/\
  To 237 (aT 7 1110) (Xf .nils) H 3 .normal (Xf rv) H' (m'+3):=by
 have hRf:=B7 R
 have key: ∃e sl H' nx',(∃rv m' F ls hd hR,e= .exit 0/\sl=Xf rv/\nx'=m'+3/\BB bc g (.im R.length (Ah R)) n0 H'/\RB H' 3 (m'+3) rv R.length F ls hd (λ_=>true) hR/\(∀i,i<R.length->ls i=R.getD i []))/\To 237 (aT 7 111010) (Wd .nils 0) H 3 e sl H' nx':=by
  refine To.loop (b:=(aT 7 1110100)) k_ (λ(q:Nat×V) H nx=>∃m F ls hd hR,nx=m+3/\q.1<=R.length/\BB bc g (.im R.length (Ah R)) n0 H/\RB H 3 (m+3) q.2 q.1 F ls hd (λ_=>true) hR/\(∀i,i<q.1->ls i=R.getD i [])) (λq=>Wd q.2 q.1) (λq=>R.length-q.1) (λe sl H' nx'=>∃rv m' F ls hd hR,e= .exit 0/\sl=Xf rv/\nx'=m'+3/\BB bc g (.im R.length (Ah R)) n0 H'/\RB H' 3 (m'+3) rv R.length F ls hd (λ_=>true) hR/\(∀i,i<R.length->ls i=R.getD i [])) (λq H nx hI=>?_) (0,.nils) H 3 ⟨0,λ_=>.nils,λ_=>[],λ_=>0,0,rfl,aG _,hB,LB.empty,λi h=>absurd h (aJ _)⟩
  obtain⟨r,rv⟩:=q
  obtain⟨m,F,ls,hd,hR,rfl,hr,hB,hL,hls⟩:=hI
  dsimp only at hr hL hls
  by_cases hlt:r<R.length
  .obtain⟨rv',H',m',F',ls',hd',hR',a1,a2,a3,a4⟩:=Re hB hl hn r hlt hL hls
   exact .inl ⟨(r+1,rv'),H',m'+3,⟨m',F',ls',hd',hR',rfl,hlt,a1,a2,a3⟩,o_,a4⟩
  .obtain rfl:r=R.length:=o_
   refine .inr ⟨.exit 0,Xf rv,H,m+3,(λh=>by cases h),⟨rv,m,F,ls,hd,hR,rfl,rfl,rfl,hB,hL,hls⟩,?_⟩
   have h1:=hB.h1
   clear hB hL hls
   generalize Ah R=RR,R.length=nR at*
   exact Bu [A5 15 (Cu g (.im nR RR) n0) (.im nR RR),no 17,toO (Xf rv)] (let z0:=V.im nR RR;[_,Ae (Af 1 [i6 g,z0,n0])=some z0,_]) ⟨h1,(by rfl),Cq hlt⟩
 obtain⟨e,sl,H',nx',⟨rv,m',F,ls,hd,hR,rfl,rfl,rfl,a1,a2,a3⟩,h3⟩:=key
 refine⟨rv,H',m',F,ls,hd,hR,a1,a2,a3,To.seq (a:=(aT 7 11100)) (b:=(aT 7 11101)) (sl1:=Wd .nils 0) (H1:=H) (nx1:=3) k_ ?_ (To.block k_ h3)⟩
 clear hB a1 a2 a3 h3
 exact Bu [toO (Wd .nils 0)] [] trivial
abbrev Ni(rv nv:V)(r:Nat):List (Nat×V):=[(2,.ptr 0 0),(3,.ptr 1 0),(4,.ptr 2 0),(5,rv),(8,nv),(9,i6 r)]
abbrev Kh(rv nv:V)(r h:Nat):List (Nat×V):=[(2,.ptr 0 0),(3,.ptr 1 0),(4,.ptr 2 0),(5,rv),(8,nv),(9,i6 r),(10,.ptr h 0)]
abbrev Jn(rv nv:V):List (Nat×V):=[(2,.ptr 0 0),(3,.ptr 1 0),(4,.ptr 2 0),(5,rv),(8,nv)]
structure CP(L:List Int)(m m':Nat)(x:V)(H':T O):Prop where
 le:m<=m'
 nil:L=[]->x= .nils
 own:L≠[]->x= .sl (m+3) 0 L.length none/\m+3<m'+3/\gt H' (m+3)=some (.row 3 (some 1) (Aa L))
theorem CP.atom{L:List Int}{m m':Nat}{x:V}(h:CP L m m' x H'):LD x=true:=by
 by_cases hL:L=[]
 .rw[h.nil hL];rfl
 .rw[(h.own hL).1];rfl
section
variable {bc:List V} {g:Int} {N:List Mc} {r0:V} {H:T O} {m:Nat} {rv nv:V} (r j:Nat) (hj:j<m) (x:Mc) (hx:N[r]? =some x) (hlx:x.fr.length<=1000000/\x.no.length<=1000000/\x.ou.length<=1000000)
 (h1:gt H 1=some (Cu g r0 (.im N.length (Ak N)))) (a0 a1 a2 a3:V) (h10:gt H (j+3)=some (.row 86 none [a0,a1,a2,a3]))
include hj hx hlx h1 h10
theorem iP(ha:a1= .nils): ∃(y:V)(H':T O)(m':Nat),CP x.fr m m' y H'/\gt H' (j+3)=some (.row 86 none [a0,y,a2,a3])/\(∀i,i≠j+3->i<m+3->gt H' i=gt H i)/\To 237 (aT 7 11111010010010) (Kh rv nv r (j+3)) H (m+3) .normal (Kh rv nv r (j+3)) H' (m'+3):=by
 have hr:=(aM.1 hx).1
 have hd:=P2 hx
 have hNf:=Cl N
 obtain⟨l1,l2,l3⟩:=hlx
 have hL6:x.fr.length<=1000000:=o_
 have hLf:=Ap x.fr
 obtain⟨c,fr,nz,ou⟩:=x
 dsimp only at*
 have hh:Ae (Af 1 ((Ak N).drop (r*4)))=some (sl fr):=by rw[hd];rfl
 have hh2:Ae (((Ak N).drop (r*4)).drop 1)=some (sl fr):=by rw[hd];rfl
 subst ha
 clear hd hx
 generalize Ak N=NN,N.length=nN at*
 by_cases hLn:fr=[]
 .rw[hLn]at hh hh2
  refine⟨.nils,pt H (j+3) (.row 86 none [a0,.nils,a2,a3]),m,⟨aC _,λ_=>rfl,λh=>absurd hLn h⟩,by grind[Ad],λi h1 h2=>by grind[Ad],?_⟩
  exact Bu [A5 45 (.row 86 none [a0,.nils,a2,a3]) .nils,A5 47 (Cu g r0 (.im nN NN)) (.im nN NN),pl 49,ld 51 (.im 0 Eb),so (.row 86 none [a0,.nils,a2,a3]) [a0,.nils,a2,a3],toO (Kh rv nv r (j+3))] (let z0:=[a0,V.nils,a2,a3];let z2:=V.im nN NN;[_,Ae (Af 1 z0)=some V.nils,_,Ae (Af (0+2) [i6 g,r0,z2])=some z2,_,Ae (List.drop 1 (List.drop (r*4) NN))=some (V.im 0 Eb),An [_,Bg 1 z0 [V.nils]=some z0]]) ⟨h10,gq,h1,gq,Ar hr,gq,⟨h10,gq⟩⟩
 .obtain⟨q,hq⟩: ∃q,fr.length=q+1:=⟨fr.length-1,by grind[List.length_pos_iff]⟩
  obtain⟨X,hX⟩: ∃X,X=Aa fr:=⟨_,rfl⟩
  have hXl:X.length=q+1:=by rw[hX,F5,hq]
  have hsrc: ∀H:T O,A6 H 1 (.im (q+1) X)=some (q+1,X):=λH=>by
   grind[XI]
  rw[show sl fr= .im (q+1) X by simp_all]at hh hh2
  rw[<-hX]at hLf
  refine⟨.sl (m+3) 0 (q+1) none,pt (pt H (m+3) (.row 3 (some 1) X)) (j+3) (.row 86 none [a0,.sl (m+3) 0 (q+1) none,a2,a3]),m+1,⟨o_,λh=>absurd h hLn,λ_=>⟨by rw[hq],o_,by grind[Ad]⟩⟩,by grind[Ad],λi h1 h2=>by grind[Ad],?_⟩
  clear hX
  exact Bu [A5 45 (.row 86 none [a0,.nils,a2,a3]) .nils,A5 47 (Cu g r0 (.im nN NN)) (.im nN NN),pl 49,ld 51 (.im (q+1) X),(52,.an (q+1) X),so (.row 86 none [a0,.nils,a2,a3]) [a0,.sl (m+3) 0 (q+1) none,a2,a3],toO (Kh rv nv r (j+3))] (let z0:=[a0,V.nils,a2,a3];let z1:=V.sl (m+3) 0 (q+1) none;let z4:=V.im nN NN;[_,Ae (Af 1 z0)=some V.nils,_,Ae (Af (0+2) [i6 g,r0,z4])=some z4,_,_,An [A6 H 1 (V.im (q+1) X)=some (q+1,X),q+1<=9223372036854775807,(q+1)*8<=140737488355328],An [gt (pt H (m+3) (O.row 3 (some 1) X)) (j+3)=(some (O.row 86 none z0)),Bg 1 z0 [z1]=some [a0,z1,a2,a3]]]) ⟨h10,gq,h1,gq,Ar hr,hh2,a_,⟨gq,gq⟩⟩
theorem iO(ha:a2= .nils): ∃(y:V)(H':T O)(m':Nat),CP x.no m m' y H'/\gt H' (j+3)=some (.row 86 none [a0,a1,y,a3])/\(∀i,i≠j+3->i<m+3->gt H' i=gt H i)/\To 237 (aT 7 111110100100110) (Kh rv nv r (j+3)) H (m+3) .normal (Kh rv nv r (j+3)) H' (m'+3):=by
 have hr:=(aM.1 hx).1
 have hd:=P2 hx
 have hNf:=Cl N
 obtain⟨l1,l2,l3⟩:=hlx
 have hL6:x.no.length<=1000000:=o_
 have hLf:=Ap x.no
 obtain⟨c,fr,nz,ou⟩:=x
 dsimp only at*
 have hh:Ae (Af 2 ((Ak N).drop (r*4)))=some (sl nz):=by rw[hd];rfl
 have hh2:Ae (((Ak N).drop (r*4)).drop 2)=some (sl nz):=by rw[hd];rfl
 subst ha
 clear hd hx
 generalize Ak N=NN,N.length=nN at*
 by_cases hLn:nz=[]
 .rw[hLn]at hh hh2
  refine⟨.nils,pt H (j+3) (.row 86 none [a0,a1,.nils,a3]),m,⟨aC _,λ_=>rfl,λh=>absurd hLn h⟩,by grind[Ad],λi h1 h2=>by grind[Ad],?_⟩
  exact Bu [A5 55 (.row 86 none [a0,a1,.nils,a3]) .nils,A5 57 (Cu g r0 (.im nN NN)) (.im nN NN),pl 59,ld 61 (.im 0 Eb),so (.row 86 none [a0,a1,.nils,a3]) [a0,a1,.nils,a3],toO (Kh rv nv r (j+3))] (let z0:=[a0,a1,V.nils,a3];let z2:=V.im nN NN;[_,Ae (Af (0+2) z0)=some V.nils,_,Ae (Af (0+2) [i6 g,r0,z2])=some z2,_,Ae (List.drop 2 (List.drop (r*4) NN))=some (V.im 0 Eb),An [_,Bg (0+2) z0 [V.nils]=some z0]]) ⟨h10,gq,h1,gq,Ar hr,gq,⟨h10,gq⟩⟩
 .obtain⟨q,hq⟩: ∃q,nz.length=q+1:=⟨nz.length-1,by grind[List.length_pos_iff]⟩
  obtain⟨X,hX⟩: ∃X,X=Aa nz:=⟨_,rfl⟩
  have hXl:X.length=q+1:=by rw[hX,F5,hq]
  have hsrc: ∀H:T O,A6 H 1 (.im (q+1) X)=some (q+1,X):=λH=>by
   grind[XI]
  rw[show sl nz= .im (q+1) X by simp_all]at hh hh2
  rw[<-hX]at hLf
  refine⟨.sl (m+3) 0 (q+1) none,pt (pt H (m+3) (.row 3 (some 1) X)) (j+3) (.row 86 none [a0,a1,.sl (m+3) 0 (q+1) none,a3]),m+1,⟨o_,λh=>absurd h hLn,λ_=>⟨by rw[hq],o_,by grind[Ad]⟩⟩,by grind[Ad],λi h1 h2=>by grind[Ad],?_⟩
  clear hX
  exact Bu [A5 55 (.row 86 none [a0,a1,.nils,a3]) .nils,A5 57 (Cu g r0 (.im nN NN)) (.im nN NN),pl 59,ld 61 (.im (q+1) X),(62,.an (q+1) X),so (.row 86 none [a0,a1,.nils,a3]) [a0,a1,.sl (m+3) 0 (q+1) none,a3],toO (Kh rv nv r (j+3))] (let z0:=[a0,a1,V.nils,a3];let z1:=V.sl (m+3) 0 (q+1) none;let z4:=V.im nN NN;[_,Ae (Af (0+2) z0)=some V.nils,_,Ae (Af (0+2) [i6 g,r0,z4])=some z4,_,_,An [A6 H 1 (V.im (q+1) X)=some (q+1,X),q+1<=9223372036854775807,(q+1)*8<=140737488355328],An [gt (pt H (m+3) (O.row 3 (some 1) X)) (j+3)=(some (O.row 86 none z0)),Bg (0+2) z0 [z1]=some [a0,a1,z1,a3]]]) ⟨h10,gq,h1,gq,Ar hr,hh2,a_,⟨gq,gq⟩⟩
theorem iN(ha:a3= .nils): ∃(y:V)(H':T O)(m':Nat),CP x.ou m m' y H'/\gt H' (j+3)=some (.row 86 none [a0,a1,a2,y])/\(∀i,i≠j+3->i<m+3->gt H' i=gt H i)/\To 237 (aT 7 1111101001001110) (Kh rv nv r (j+3)) H (m+3) .normal (Kh rv nv r (j+3)) H' (m'+3):=by
 have hr:=(aM.1 hx).1
 have hd:=P2 hx
 have hNf:=Cl N
 obtain⟨l1,l2,l3⟩:=hlx
 have hL6:x.ou.length<=1000000:=o_
 have hLf:=Ap x.ou
 obtain⟨c,fr,nz,ou⟩:=x
 dsimp only at*
 have hh:Ae (Af 3 ((Ak N).drop (r*4)))=some (sl ou):=by rw[hd];rfl
 have hh2:Ae (((Ak N).drop (r*4)).drop 3)=some (sl ou):=by rw[hd];rfl
 subst ha
 clear hd hx
 generalize Ak N=NN,N.length=nN at*
 by_cases hLn:ou=[]
 .rw[hLn]at hh hh2
  refine⟨.nils,pt H (j+3) (.row 86 none [a0,a1,a2,.nils]),m,⟨aC _,λ_=>rfl,λh=>absurd hLn h⟩,by grind[Ad],λi h1 h2=>by grind[Ad],?_⟩
  exact Bu [A5 65 (.row 86 none [a0,a1,a2,.nils]) .nils,A5 67 (Cu g r0 (.im nN NN)) (.im nN NN),pl 69,ld 71 (.im 0 Eb),so (.row 86 none [a0,a1,a2,.nils]) [a0,a1,a2,.nils],toO (Kh rv nv r (j+3))] (let z0:=[a0,a1,a2,V.nils];let z2:=V.im nN NN;[_,Ae (Af (0+3) z0)=some V.nils,_,Ae (Af (0+2) [i6 g,r0,z2])=some z2,_,Ae (List.drop 3 (List.drop (r*4) NN))=some (V.im 0 Eb),An [_,Bg (0+3) z0 [V.nils]=some z0]]) ⟨h10,gq,h1,gq,Ar hr,gq,⟨h10,gq⟩⟩
 .obtain⟨q,hq⟩: ∃q,ou.length=q+1:=⟨ou.length-1,by grind[List.length_pos_iff]⟩
  obtain⟨X,hX⟩: ∃X,X=Aa ou:=⟨_,rfl⟩
  have hXl:X.length=q+1:=by rw[hX,F5,hq]
  have hsrc: ∀H:T O,A6 H 1 (.im (q+1) X)=some (q+1,X):=λH=>by
   grind[XI]
  rw[show sl ou= .im (q+1) X by simp_all]at hh hh2
  rw[<-hX]at hLf
  refine⟨.sl (m+3) 0 (q+1) none,pt (pt H (m+3) (.row 3 (some 1) X)) (j+3) (.row 86 none [a0,a1,a2,.sl (m+3) 0 (q+1) none]),m+1,⟨o_,λh=>absurd h hLn,λ_=>⟨by rw[hq],o_,by grind[Ad]⟩⟩,by grind[Ad],λi h1 h2=>by grind[Ad],?_⟩
  clear hX
  exact Bu [A5 65 (.row 86 none [a0,a1,a2,.nils]) .nils,A5 67 (Cu g r0 (.im nN NN)) (.im nN NN),pl 69,ld 71 (.im (q+1) X),(72,.an (q+1) X),so (.row 86 none [a0,a1,a2,.nils]) [a0,a1,a2,.sl (m+3) 0 (q+1) none],toO (Kh rv nv r (j+3))] (let z0:=[a0,a1,a2,V.nils];let z1:=V.sl (m+3) 0 (q+1) none;let z4:=V.im nN NN;[_,Ae (Af (0+3) z0)=some V.nils,_,Ae (Af (0+2) [i6 g,r0,z4])=some z4,_,_,An [A6 H 1 (V.im (q+1) X)=some (q+1,X),q+1<=9223372036854775807,(q+1)*8<=140737488355328],An [gt (pt H (m+3) (O.row 3 (some 1) X)) (j+3)=(some (O.row 86 none z0)),Bg (0+3) z0 [z1]=some [a0,a1,a2,z1]]]) ⟨h10,gq,h1,gq,Ar hr,hh2,a_,⟨gq,gq⟩⟩
end
abbrev ND(H:T O)(lo nx:Nat)(nv:V)(k:Nat)(F:Nat->V)(ls:Nat->List Int)(hd:Nat->Nat)(kd:Nat->Bool)(hR:Nat):Prop:=LB 4 86 H lo nx nv k F S9 ls hd kd hR
def Nf(F:Nat->V)(ls:Nat->List Int)(i:Nat)(x:Mc):Prop:=F (4*i)=i6 x.c/\ls (4*i+1)=x.fr/\ls (4*i+2)=x.no/\ls (4*i+3)=x.ou
def Jt(f:Nat->α)(n:Nat)(a b c d:α):Nat->α:=λi=>if i<n then f i else if i=n then a else if i=n+1 then b else if i=n+2 then c else d
theorem Oh{f:Nat->α}{i:Nat}{a b c d:α}(h:i<n):Jt f n a b c d i=f i:=by unfold Jt;rw[if_pos h]
theorem Qf{f:Nat->α}{a b c d:α}:Jt f n a b c d n=a:=by unfold Jt;rw[if_neg o_,if_pos rfl]
theorem Fu{f:Nat->α}{a b c d:α}:Jt f n a b c d (n+1)=b:=by unfold Jt;rw[if_neg o_,if_neg o_,if_pos rfl]
theorem Ft{f:Nat->α}{a b c d:α}:Jt f n a b c d (n+2)=c:=by unfold Jt;rw[if_neg o_,if_neg o_,if_neg o_,if_pos rfl]
theorem Eu{f:Nat->α}{a b c d:α}:Jt f n a b c d (n+3)=d:=by unfold Jt;rw[if_neg o_,if_neg o_,if_neg o_,if_neg o_]
theorem ah(n:Nat)(F:Nat->V)(a b c d:V):Aj n F++[a,b,c,d]=Aj (n+4) (Jt F n a b c d):=by
 rw[show n+4=n+1+1+1+1 by omega,UL,UL,UL,UL,Qf,Fu,Ft,Eu,ak (λi hi=>Oh hi)]
 simp
section
variable {bc:List V} {g:Int} {N:List Mc} {r0:V} {H:T O} {m lo:Nat} {rv nv:V} {F:Nat->V} {ls:Nat->List Int} {hd:Nat->Nat} {hR:Nat}
 (hB:BB bc g r0 (.im N.length (Ak N)) H) (hl: ∀x∈N,x.fr.length<=1000000/\x.no.length<=1000000/\x.ou.length<=1000000) (hn:N.length<=1000000) (h3:3<=lo) (hlo:lo<=m+3)
include hB hl hn h3 hlo
theorem Sw(r:Nat)(hr:r<N.length)(hL:ND H lo (m+3) nv r F ls hd (λ_=>true) hR)(hls: ∀i,i<r->Nf F ls i (N.getD i Ao)): ∃(nv':V)(H':T O)(m':Nat)(F':Nat->V)(ls':Nat->List Int)(hd':Nat->Nat)(hR':Nat),BB bc g r0 (.im N.length (Ak N)) H'/\m+3<=m'+3/\(∀i,i<lo->gt H' i=gt H i)/\ND H' lo (m'+3) nv' (r+1) F' ls' hd' (λ_=>true) hR'/\(∀i,i<r+1->Nf F' ls' i (N.getD i Ao))/\
  To 237 (aT 7 111110100) (Ni rv nv r) H (m+3) .normal (Ni rv nv' (r+1)) H' (m'+3):=by
 obtain⟨x,hx⟩: ∃x,N[r]? =some x:=⟨N[r]' o_,aB _⟩
 have hxD:N.getD r Ao=x:=by rw[aA,hx];rfl
 have hlx:=hl x (bG hx)
 have hd4:=P2 hx
 have hNf:=Cl N
 have h1:=hB.h1
 -- the node's own row
 obtain⟨Ha,hHa⟩: ∃Ha,Ha=pt (pt H (m+3) (.row 86 none [i6 0,.nils,.nils,.nils])) (m+3) (.row 86 none [i6 x.c,.nils,.nils,.nils]):=⟨_,rfl⟩
 have ga: ∀i,i≠m+3->gt Ha i=gt H i:=λi hi=>by rw[hHa,Ad,if_neg hi,Ad,if_neg hi]
 obtain⟨x1,H1,m1,c1,r1,g1,t1⟩:=iP (H:=Ha) (m:=m+1) (rv:=rv) (nv:=nv) r m o_ x hx hlx (by rw[ga 1 o_];exact h1) (i6 x.c) .nils .nils .nils (by rw[hHa,Ad,if_pos rfl]) rfl
 have e1:=c1.le
 obtain⟨x2,H2,m2,c2,r2,g2,t2⟩:=iO (H:=H1) (m:=m1) (rv:=rv) (nv:=nv) r m o_ x hx hlx (by rw[g1 1 o_ o_,ga 1 o_];exact h1) (i6 x.c) x1 .nils .nils r1 rfl
 have e2:=c2.le
 obtain⟨x3,H3,m3,c3,r3,g3,t3⟩:=iN (H:=H2) (m:=m2) (rv:=rv) (nv:=nv) r m o_ x hx hlx (by rw[g2 1 o_ o_,g1 1 o_ o_,ga 1 o_];exact h1) (i6 x.c) x1 x2 .nils r2 rfl
 have e3:=c3.le
 have hold: ∀i,i<m+3->gt H3 i=gt H i:=λi hi=>by rw[g3 i o_ o_,g2 i o_ o_,g1 i o_ o_,ga i o_]
 have t0:To 237 (aT 7 1111101001000) (Ni rv nv r) H (m+3) .normal (Kh rv nv r (m+3)) Ha (m+4):=by
  have hh:Ae ((Ak N).drop (r*4))=some (i6 x.c):=by rw[hd4];rfl
  rw[hHa]
  clear t1 t2 t3 g1 g2 g3 c1 c2 c3 hold hB hl hL hls hHa ga r1 r2 r3 hd4 hlx hxD hx
  generalize Ak N=NN,N.length=nN,x.c=c at*
  exact Bu [A5 38 (Cu g r0 (.im nN NN)) (.im nN NN),pl 40,ld 42 (i6 c),so (.row 86 none [i6 0,.nils,.nils,.nils]) [i6 c,.nils,.nils,.nils],toO (Kh rv nv r (m+3))] (let z1:=[i6 c,V.nils,V.nils,V.nils];let z2:=[i6 0,V.nils,V.nils,V.nils];let z3:=V.im nN NN;let z0:=O.row 86 none z2;[_,Ae (Af (0+2) [i6 g,r0,z3])=some z3,_,Ae (List.drop 0 (List.drop (r*4) NN))=some (i6 c),An [gt (pt H (m+3) z0) (m+3)=some z0,Bg 0 z2 z1=some z1]]) ⟨h1,gq,Ar hr,aq,⟨gq,gq⟩⟩
 have thead:To 237 (aT 7 1111101000) (Ni rv nv r) H (m+3) .normal (Ni rv nv r) H (m+3):=by
  clear t0 t1 t2 t3 g1 g2 g3 c1 c2 c3 hold hB hl hL hls hHa ga r1 r2 r3 hd4 hlx hxD hx
  generalize Ak N=NN,N.length=nN at*
  exact Bu [A5 32 (Cu g r0 (.im nN NN)) (.im nN NN),As 34,toO (Ni rv nv r)] (let z0:=V.im nN NN;[_,Ae (Af (0+2) [i6 g,r0,z0])=some z0,_]) ⟨h1,gq,Bf hr⟩
 have tstep: ∀nv' H' m',To 237 (aT 7 11111010011) (Kh rv nv' r (m+3)) H' m' .normal (Ni rv nv' (r+1)) H' m':=λnv' H' m'=>by
  clear t0 t1 t2 t3 g1 g2 g3 c1 c2 c3 hold hB hl hL hls hHa ga r1 r2 r3 hd4 hlx hxD hx thead
  exact Bu [nu 36 (r+1:Nat),toO (Ni rv nv' (r+1))] [_] (Dw r o_)
 have at1:=c1.atom
 have at2:=c2.atom
 have at3:=c3.atom
 have hat:Bl [i6 x.c,x1,x2,x3]=true:=by
  show(true&&(LD x1&&(LD x2&&(LD x3&&true))))=true
  rw[at1,at2,at3];rfl
 -- what stands at the end
 have fin: ∀Hf:T O,(∀i,i≠m3+3->i≠m3+4->(r≠0->i≠hR)->gt Hf i=gt H3 i)->gt Hf (m3+4)=some (.row 86 (some 4) (Aj (4*r) F++[i6 x.c,x1,x2,x3]))->
   BB bc g r0 (.im N.length (Ak N)) Hf/\(∀i,i<lo->gt Hf i=gt H i)/\ND Hf lo (m3+5) (.sl (m3+4) 0 (r+1) none) (r+1) (Jt F (4*r) (i6 x.c) x1 x2 x3) (Jt ls (4*r) [] x.fr x.no x.ou) (Jt hd (4*r) 0 (m+4) (m1+3) (m2+3)) (λ_=>true) (m3+4)/\(∀i,i<r+1->Nf (Jt F (4*r) (i6 x.c) x1 x2 x3) (Jt ls (4*r) [] x.fr x.no x.ou) i (N.getD i Ao)):=by
  intro Hf f1 f2
  have hRb:r≠0->lo<=hR/\hR<m+3:=λh=>⟨(hL.own h).2.1,(hL.own h).2.2.1⟩
  have hlow: ∀i,i<lo->gt Hf i=gt H i:=λi hi=>by rw[f1 i o_ o_ (λh=>by have:=hRb h;omega)];exact hold i o_
  refine⟨hB.frame λi hi=>hlow i o_,hlow,⟨λh=>o_,λ_=>⟨rfl,o_,o_,?_⟩⟩,λi hi=>?_⟩
  .rw[show 4*(r+1)=4*r+4 by omega]
   refine NR.ext (n:=4*r) (hR:=hR) (nx:=m+3) (kd:=λ_=>true) (λh=>(hL.own o_).2.2.2) o_ o_ (by rw[f2,ah]) (λi hi=>⟨Oh hi,Oh hi,Oh hi,rfl,λhS hne=>?_⟩) (λi a1 a2 hS a3=>?_) (λi a1 a2 hS a3=>?_) (λi j a1 a2 a3 a4 s1 s2 n1 n2 e=>?_)
   .have hr0:r≠0:=o_
    obtain⟨o1,o2,o3,o4,o5⟩:=(hL.own hr0).2.2.2.own i hi hS hne
    exact⟨by rw[f1 _ o_ o_ (λ_=>o4)];exact hold _ o3,o_⟩
   .have hi4:i%4≠0:=of_decide_eq_true hS
    rcases(show i=4*r+1\/i=4*r+2\/i=4*r+3 by omega)with rfl|rfl|rfl
    .rw[Fu]at a3⊢;exact c1.nil a3
    .rw[Ft]at a3⊢;exact c2.nil a3
    .rw[Eu]at a3⊢;exact c3.nil a3
   .have hi4:i%4≠0:=of_decide_eq_true hS
    have hb: ∀i,m+3<=i->r≠0->i≠hR:=λi hi h=>by have:=hRb h;omega
    rcases(show i=4*r+1\/i=4*r+2\/i=4*r+3 by omega)with rfl|rfl|rfl
    .rw[Fu]at a3
     rw[Fu,Fu,Fu]
     obtain⟨q1,q2,q3⟩:=c1.own a3
     exact⟨q1,o_,o_,o_,by rw[f1 _ o_ o_ (hb _ o_),g3 _ o_ o_,g2 _ o_ o_];exact q3⟩
    .rw[Ft]at a3
     rw[Ft,Ft,Ft]
     obtain⟨q1,q2,q3⟩:=c2.own a3
     exact⟨q1,o_,o_,o_,by rw[f1 _ o_ o_ (hb _ o_),g3 _ o_ o_];exact q3⟩
    .rw[Eu]at a3
     rw[Eu,Eu,Eu]
     obtain⟨q1,q2,q3⟩:=c3.own a3
     exact⟨q1,o_,o_,o_,by rw[f1 _ o_ o_ (hb _ o_)];exact q3⟩
   .have hi4:i%4≠0:=of_decide_eq_true s1
    have hj4:j%4≠0:=of_decide_eq_true s2
    rcases(show i=4*r+1\/i=4*r+2\/i=4*r+3 by omega)with rfl|rfl|rfl<;>rcases(show j=4*r+1\/j=4*r+2\/j=4*r+3 by omega)with rfl|rfl|rfl<;>simp only[Fu,Ft,Eu]at n1 n2 e
    all_goals first|rfl|skip
    .have:=(c1.own n1).2.1;omega
    .have:=(c1.own n1).2.1;omega
    .have:=(c1.own n2).2.1;omega
    .have:=(c2.own n1).2.1;omega
    .have:=(c1.own n2).2.1;omega
    .have:=(c2.own n2).2.1;omega
  .by_cases hi2:i<r
   .obtain⟨q1,q2,q3,q4⟩:=hls i hi2
    exact⟨by rw[Oh o_];exact q1,by rw[Oh o_];exact q2,by rw[Oh o_];exact q3,by rw[Oh o_];exact q4⟩
   .obtain rfl:i=r:=o_
    rw[hxD]
    exact⟨Qf,Fu,Ft,Eu⟩
 have whole: ∀Hf nv',To 237 (aT 7 1111101001001111) (Kh rv nv r (m+3)) H3 (m3+3) .normal (Kh rv nv' r (m+3)) Hf (m3+5)->To 237 (aT 7 111110100) (Ni rv nv r) H (m+3) .normal (Ni rv nv' (r+1)) Hf (m3+5):=λHf nv' h=>
  To.seq (b:=(aT 7 1111101001)) k_ thead (To.seq (a:=(aT 7 11111010010)) (b:=(aT 7 11111010011)) k_ (To.blockN (id:=3) (b:=(aT 7 111110100100)) k_ (λh=>by cases h) (To.seq (b:=(aT 7 1111101001001)) k_ t0 (To.seq (b:=(aT 7 11111010010011)) k_ t1 (To.seq (b:=(aT 7 111110100100111)) k_ t2 (To.seq (b:=(aT 7 1111101001001111)) k_ t3 h))))) (tstep nv' Hf _))
 by_cases hr0:r=0
 .subst hr0
  obtain rfl:=hL.nil rfl
  have hf:=fin (pt (pt H3 (m3+3) (.row 86 none [i6 x.c,x1,x2,x3])) (m3+4) (.row 86 (some 4) [i6 x.c,x1,x2,x3])) (λi i1 i2 _=>by rw[Ad,if_neg i2,Ad,if_neg i1]) (by rw[Ad,if_pos rfl];rfl)
  refine⟨_,_,m3+2,_,_,_,_,hf.1,o_,hf.2.1,hf.2.2.1,hf.2.2.2,whole _ _ ?_⟩
  clear hf fin whole thead tstep t0 t1 t2 t3 g1 g2 g3 c1 c2 c3 hold hB hl hL hls hHa ga r1 r2 hd4 hlx hxD hx at1 at2 at3
  generalize x.c=c at*
  have hsrc:A6 (pt H3 (m3+3) (.row 86 none [i6 c,x1,x2,x3])) 4 (.sl (m3+3) 0 1 (some 0))=some (1,[i6 c,x1,x2,x3]):=by unfold A6;dsimp only;rw[Bh,T.get_put,if_pos rfl];rfl
  exact Bu [A5 75 (.row 86 none [i6 c,x1,x2,x3]) (.agg [i6 c,x1,x2,x3]),(77,.an 1 [i6 c,x1,x2,x3]),toO (Kh rv (.sl (m3+4) 0 1 none) 0 (m+3))] (let z0:=[i6 c,x1,x2,x3];[_,Dj 4 z0=some z0,An [_,1<=9223372036854775807,1*80<=140737488355328]]) ⟨r3,gq,⟨hsrc,a_⟩⟩
 .obtain⟨e,k1,k2,k3⟩:=hL.own hr0
  subst e
  obtain⟨k,rfl⟩: ∃k,hR=k+3:=⟨hR-3,o_⟩
  have k4:gt H3 (k+3)=some (.row 86 (some 4) (Aj (4*r) F)):=by rw[hold _ k2];exact k3.row
  have hf:=fin (pt (pt (pt H3 (m3+3) (.row 86 none [i6 x.c,x1,x2,x3])) (k+3) .dead) (m3+4) (.row 86 (some 4) (Aj (4*r) F++[i6 x.c,x1,x2,x3]))) (λi i1 i2 i3=>by rw[Ad,if_neg i2,Ad,if_neg (i3 hr0),Ad,if_neg i1]) (by rw[Ad,if_pos rfl])
  refine⟨_,_,m3+2,_,_,_,_,hf.1,o_,hf.2.1,hf.2.2.1,hf.2.2.2,whole _ _ ?_⟩
  clear hf fin whole thead tstep t0 t1 t2 t3 g1 g2 g3 c1 c2 c3 hold hB hl hL hls hHa ga r1 r2 hd4 hlx hxD hx at1 at2 at3 k3
  generalize x.c=c at*
  have hsrc:A6 (pt H3 (m3+3) (.row 86 none [i6 c,x1,x2,x3])) 4 (.sl (m3+3) 0 1 (some 0))=some (1,[i6 c,x1,x2,x3]):=by unfold A6;dsimp only;rw[Bh,T.get_put,if_pos rfl];rfl
  have hcl:(Aj (4*r) F).length=r*4:=by rw[Wu];omega
  generalize Aj (4*r) F=CF at*
  exact Bu [A5 75 (.row 86 none [i6 c,x1,x2,x3]) (.agg [i6 c,x1,x2,x3]),(77,.aop (.row 86 (some 4) CF) 1 [i6 c,x1,x2,x3]),toO (Kh rv (.sl (m3+4) 0 (r+1) none) r (m+3))] (let z0:=[i6 c,x1,x2,x3];[_,Dj 4 z0=some z0,_,An [gt (pt H3 (m3+3) (O.row 86 none z0)) (k+3)=some (O.row 86 (some 4) CF),_,1<=1,r+1<=9223372036854775807,(r+1)*80<=140737488355328,_]]) ⟨r3,gq,hsrc,⟨gq,hcl,aq,aq,aq,hat⟩⟩
end
theorem Yh{N:List Mc}{r0:V}{m:Nat}{rv:V}(hB:BB bc g r0 (.im N.length (Ak N)) H)(hl: ∀x∈N,x.fr.length<=1000000/\x.no.length<=1000000/\x.ou.length<=1000000)(hn:N.length<=1000000): ∃(nv:V)(H':T O)(m':Nat)(F:Nat->V)(ls:Nat->List Int)(hd:Nat->Nat)(hR:Nat),BB bc g r0 (.im N.length (Ak N)) H'/\m<=m'/\(∀i,i<m+3->gt H' i=gt H i)/\ND H' (m+3) (m'+3) nv N.length F ls hd (λ_=>true) hR/\(∀i,i<N.length->Nf F ls i (N.getD i Ao))/\
  To 237 (aT 7 111110) (Jn rv .nils) H (m+3) .normal (Jn rv nv) H' (m'+3):=by
 have key: ∃e sl H' nx',(∃nv m' F ls hd hR,e= .exit 2/\sl=Jn rv nv/\nx'=m'+3/\BB bc g r0 (.im N.length (Ak N)) H'/\m<=m'/\(∀i,i<m+3->gt H' i=gt H i)/\ND H' (m+3) (m'+3) nv N.length F ls hd (λ_=>true) hR/\(∀i,i<N.length->Nf F ls i (N.getD i Ao)))/\To 237 (aT 7 11111010) (Ni rv .nils 0) H (m+3) e sl H' nx':=by
  refine To.loop (b:=(aT 7 111110100)) k_ (λ(q:Nat×V) H1 nx=>∃m1 F ls hd hR,nx=m1+3/\q.1<=N.length/\BB bc g r0 (.im N.length (Ak N)) H1/\m<=m1/\(∀i,i<m+3->gt H1 i=gt H i)/\ND H1 (m+3) (m1+3) q.2 q.1 F ls hd (λ_=>true) hR/\(∀i,i<q.1->Nf F ls i (N.getD i Ao))) (λq=>Ni rv q.2 q.1) (λq=>N.length-q.1) (λe sl H' nx'=>∃nv m' F ls hd hR,e= .exit 2/\sl=Jn rv nv/\nx'=m'+3/\BB bc g r0 (.im N.length (Ak N)) H'/\m<=m'/\(∀i,i<m+3->gt H' i=gt H i)/\ND H' (m+3) (m'+3) nv N.length F ls hd (λ_=>true) hR/\(∀i,i<N.length->Nf F ls i (N.getD i Ao))) (λq H1 nx hI=>?_) (0,.nils) H (m+3) ⟨m,λ_=>.nils,λ_=>[],λ_=>0,0,rfl,aG _,hB,aC _,λ_ _=>rfl,LB.empty,λi h=>absurd h (aJ _)⟩
  obtain⟨r,nv⟩:=q
  obtain⟨m1,F,ls,hd,hR,rfl,hr,hB1,hm,hold,hL,hls⟩:=hI
  dsimp only at hr hL hls
  by_cases hlt:r<N.length
  .obtain⟨nv',H',m',F',ls',hd',hR',a1,a2,a3,a4,a5,a6⟩:=Sw (rv:=rv) hB1 hl hn (show 3<=m+3 by omega) o_ r hlt hL hls
   exact .inl ⟨(r+1,nv'),H',m'+3,⟨m',F',ls',hd',hR',rfl,hlt,a1,o_,λi hi=>(a3 i hi).trans (hold i hi),a4,a5⟩,by dsimp only;omega,a6⟩
  .obtain rfl:r=N.length:=o_
   refine .inr ⟨.exit 2,Jn rv nv,H1,m1+3,(λh=>by cases h),⟨nv,m1,F,ls,hd,hR,rfl,rfl,rfl,hB1,hm,hold,hL,hls⟩,?_⟩
   have h1:=hB1.h1
   have hNf:=Cl N
   clear hB hL hls hold hB1 hl
   generalize Ak N=NN,N.length=nN at*
   exact Bu [A5 32 (Cu g r0 (.im nN NN)) (.im nN NN),no 34,toO (Jn rv nv)] (let z0:=V.im nN NN;[_,Ae (Af (0+2) [i6 g,r0,z0])=some z0,_]) ⟨h1,(by rfl),Cq hlt⟩
 obtain⟨e,sl,H',nx',⟨nv,m',F,ls,hd,hR,rfl,rfl,rfl,a1,a2,a3,a4,a5⟩,h3⟩:=key
 refine⟨nv,H',m',F,ls,hd,hR,a1,a2,a3,a4,a5,To.seq (a:=(aT 7 1111100)) (b:=(aT 7 1111101)) (sl1:=Ni rv .nils 0) (H1:=H) (nx1:=m+3) k_ ?_ (To.block k_ h3)⟩
 clear hB a1 a2 a3 a4 a5 h3 hl
 exact Bu [toO (Ni rv .nils 0)] [] trivial
def BC(K:Nat)(H:T O)(nx:Nat)(rv nv:V):Prop:=∃R N,Gz K R N/\∀(Fz:Nat->Prop)(ρ:Nat->Option Nat),(∀i,3<=i->i<nx->Fz i)->Bo H.get Fz ρ (.im R.length (Ah R)) rv/\Bo H.get Fz ρ (.im N.length (Ak N)) nv
theorem Bq.left{H:Nat->Option O}: ∀{a b ys:List V},Bq H Fz (a++b) ys->Bq H Fz a ys
 |[],_,_,_=>trivial
 | _:: _,_,_,⟨y,ys',e,h1,h2⟩=>⟨y,ys',e,h1,Bq.left h2⟩
def Ou(k:Nat)(ls:Nat->List Int):List (List Int):=(List.range k).map ls
theorem nC{k:Nat}:(Ou k ls).length=k:=by simp[Ou]
theorem cg(k:Nat)(ls:Nat->List Int):Ah (Ou k ls)=Aj k λi=>sl (ls i):=by unfold Ah Ou Aj;rw[List.map_map];rfl
theorem F8{lo:Nat}{rv:V}{k:Nat}{kd:Nat->Bool}(h:RB H lo nx rv k F ls hd kd hR)(hF: ∀g,lo<=g->g<nx->Fz g):Bo H.get Fz ρ (.im (Ou k ls).length (Ah (Ou k ls))) rv:=by
 rw[nC,cg]
 have:=h.view (G:=λi=>sl (ls i)) (ρ:=ρ) hF (λi _ hS=>by cases hS) (λi _ _=>rfl)
 rwa [show 1*k=k by omega]at this
theorem vV(k:Nat)(F:Nat->V)(ls:Nat->List Int):Ak (Ev k F ls)=Aj (4*k) (Sx (Ev k F ls)):=by rw[oT,Py]
theorem tH{k:Nat}(hc: ∀v,v<k->∃c:Int,F (4*v)=i6 c):(∀i,i<4*k->S9 i=false->Sx (Ev k F ls) i=F i/\Hf (F i))/\(∀i,i<4*k->S9 i=true->Sx (Ev k F ls) i=sl (ls i)):=by
 constructor
 .intro i hi hS
  have h0:i%4=0:=by unfold S9 at hS;have:=of_decide_eq_false hS;omega
  have hv:i/4<k:=o_
  obtain⟨c,e⟩:=hc _ hv
  have e2:cN F (i/4)=c:=by unfold cN;rw[e]
  rw[show 4*(i/4)=i by omega]at e
  refine⟨?_,by rw[e];trivial⟩
  unfold Sx
  rw[UC hv,h0,e,<-e2];rfl
 .intro i hi hS
  have h0:i%4≠0:=of_decide_eq_true hS
  have hv:i/4<k:=o_
  unfold Sx
  rw[UC hv]
  have e4:i=4*(i/4)+i%4:=o_
  rcases(show i%4=1\/i%4=2\/i%4=3 by omega)with h|h|h
  .rw[h];rw[h]at e4;conv=>rhs;rw[e4]
   rfl
  .rw[h];rw[h]at e4;conv=>rhs;rw[e4]
   rfl
  .rw[h];rw[h]at e4;conv=>rhs;rw[e4]
   rfl
theorem XQ{lo:Nat}{nv:V}{k:Nat}{kd:Nat->Bool}(h:ND H lo nx nv k F ls hd kd hR)(hc: ∀v,v<k->∃c:Int,F (4*v)=i6 c)(hF: ∀g,lo<=g->g<nx->Fz g):Bo H.get Fz ρ (.im (Ev k F ls).length (Ak (Ev k F ls))) nv:=by
 rw[Py,vV]
 obtain⟨a,b⟩:=tH (ls:=ls) hc
 exact h.view hF a b
theorem Yi{lo:Nat}{k:Nat}{kd:Nat->Bool}(b:lo<=hR)(c:hR<nx)(h:NR H lo nx hR 86 (some 4) (4*(k+1)) F S9 ls hd kd)(hc: ∀v,v<k+1->∃c:Int,F (4*v)=i6 c)(hF: ∀g,lo<=g->g<nx->Fz g):Bo H.get Fz ρ (.im (Ev k F ls).length (Ak (Ev k F ls))) (.sl hR 0 k none):=by
 obtain⟨q1,q2⟩:=tH (ls:=ls) hc
 have hv:=NR.viewP h hF q1 q2
 rw[<-vV]at hv
 have e:Ak (Ev (k+1) F ls)=Ak (Ev k F ls)++Fq (Mh F ls k):=by
  have ea: ∀a b:List Mc,Ak (a++b)=Ak a++Ak b:=by
   intro a b
   induction a with
   |nil=>rfl
   |cons x a ih=>show Fq x++Ak (a++b)=Fq x++Ak a++Ak b;rw[ih,cE]
  unfold Ev
  rw[eG,bP,ea]
  show _=_
  congr 1
 rw[e]at hv
 rw[Py]
 exact .inr (.inr ⟨hR,0,none,_,_,_,rfl,hF _ b c,by rw[<-Cm];exact h.row,Bq.left hv⟩)
abbrev UQ(rv nv:V)(h p:Nat):List (Nat×V):=[(2,.ptr 0 0),(3,.ptr 1 0),(4,.ptr 2 0),(5,rv),(8,nv),(11,.ptr h (p*4))]
abbrev Js:List (Nat×V):=[(2,.ptr 0 0),(3,.ptr 1 0),(4,.ptr 2 0)]
abbrev BX(v:V):Prop:=v= .nils\/∃h q,v= .sl h 0 q none
abbrev iL(v:V):Prop:=v= .im 0 Eb\/∃h q,v= .sl h 0 q none
theorem TD{K k:Nat}{lr:Nat->List Int}(hk:k<=K)(hn:n<=K)(h1: ∀i,i<k->(lr i).length<=K)(h2: ∀i,i<n->(ls (4*i+1)).length<=K/\(ls (4*i+2)).length<=K/\(ls (4*i+3)).length<=K):Gz K (Ou k lr) (Ev n F ls):=by
 refine⟨by grind[nC],by grind[Py],λL hL=>?_,λx hx=>?_⟩
 .obtain⟨i,hi,rfl⟩:=cC.1 hL
  simp_all
 .obtain⟨i,hi,rfl⟩:=cC.1 hx
  exact h2 i (bB.1 hi)
structure bm(K:Nat)(bc:List V)(rv nv:V)(h p:Nat)(H:T O)(nx:Nat)(g':Int)(rv' nv':V)(H':T O)(nx':Nat):Prop where
 bb:BB bc g' rv' nv' H'
 md:BC (K+1) H' nx' rv' nv'
 rs:BX rv'
 ns:iL nv'
 le:3<=nx'
 to:To 237 (aT 7 11111111110) (UQ rv nv h p) H nx .normal Js H' nx'
abbrev b9(bw ba bk:Nat)(bn:Int):List V:=[w8 bw,w8 ba,w8 bk,i6 bn]
abbrev Pd(bw ba bk:Nat)(bn:Int)(K:Nat)(rv:V)(n h p:Nat)(H:T O)(m:Nat):Prop:=∃g' rv' nv' H' nx',bm K (b9 bw ba bk bn) rv (.sl (h+3) 0 n none) (h+3) p H (m+3) g' rv' nv' H' nx'
structure kQ(bw ba bk:Nat)(bn:Int)(g:Int)(K lo m:Nat)(rv:V)(H:T O)(k:Nat)(Fr:Nat->V)(lr:Nat->List Int)(hdr:Nat->Nat)(hr:Nat)(n:Nat)(F:Nat->V)(ls:Nat->List Int)(hd:Nat->Nat)(h:Nat)(p:Nat):Prop where
 hbw:bw<256
 hba:ba<256
 hbk:bk<256
 hB:BB (b9 bw ba bk bn) g rv (.sl (h+3) 0 n none) H
 h3:3<=lo
 hlo:lo<=m+3
 hRB:RB H 3 lo rv k Fr lr hdr (λ_=>true) hr
 hND:NR H lo (m+3) (h+3) 86 (some 4) (4*n) F S9 ls hd (λ_=>true)
 hh1:lo<=h+3
 hh2:h+3<m+3
 hc: ∀v,v<n->∃c:Int,F (4*v)=i6 c
 hp:p<n
 hK:K<=900000
 hkK:k<=K
 hnK:n<=K
 hlr: ∀i,i<k->(lr i).length<=K
 hls: ∀i,i<n->(ls (4*i+1)).length<=K/\(ls (4*i+2)).length<=K/\(ls (4*i+3)).length<=K
section
variable {bw ba bk:Nat} {bn:Int} {g:Int} {K lo m:Nat} {rv:V} {H:T O} {k:Nat} {Fr:Nat->V} {lr:Nat->List Int} {hdr:Nat->Nat} {hr:Nat} {n:Nat} {F:Nat->V} {ls:Nat->List Int} {hd:Nat->Nat} {h:Nat} {p:Nat}
 (W:kQ bw ba bk bn g K lo m rv H k Fr lr hdr hr n F ls hd h p)
include W
theorem Pf:BX rv:=by
 obtain⟨hbw,hba,hbk,hB,h3,hlo,hRB,hND,hh1,hh2,hc,hp,hK,hkK,hnK,hlr,hls⟩:=id W
 by_cases hk:k=0
 .exact .inl (hRB.nil hk)
 .exact .inr ⟨_,_,(hRB.own hk).1⟩
theorem DM{F':Nat->V}{ls':Nat->List Int}{hd':Nat->Nat}{kd':Nat->Bool}(hle:m+3<=nx')(hold: ∀i,3<=i->i<lo->gt H' i=gt H i)(hN:NR H' lo nx' (h+3) 86 (some 4) (4*n) F' S9 ls' hd' kd')(hc': ∀v,v<n->∃c:Int,F' (4*v)=i6 c)(hls': ∀i,i<n->(ls' (4*i+1)).length<=K+1/\(ls' (4*i+2)).length<=K+1/\(ls' (4*i+3)).length<=K+1):BC (K+1) H' nx' rv (.sl (h+3) 0 n none):=by
 obtain⟨hbw,hba,hbk,hB,h3,hlo,hRB,hND,hh1,hh2,hc,hp,hK,hkK,hnK,hlr,hls⟩:=id W
 refine⟨Ou k lr,Ev n F' ls',TD o_ o_ (λi hi=>Nat.le_succ_of_le (hlr i hi)) hls',λFz ρ hF=>⟨?_,?_⟩⟩
 .exact F8 (hRB.frame (aC _) hold) λi a b=>hF i a o_
 .refine XQ (lo:=lo) (nx:=nx') (hd:=hd') (kd:=kd') (hR:=h+3) ⟨λe=>o_,λ_=>⟨rfl,hh1,o_,hN⟩⟩ hc' λi a b=>hF i o_ b
theorem SC{j:Nat}{l:List Int}(hl:l.length<=K+1): ∀i,i<n->(Bz ls j l (4*i+1)).length<=K+1/\(Bz ls j l (4*i+2)).length<=K+1/\(Bz ls j l (4*i+3)).length<=K+1:=λi hi=>by
 obtain⟨hbw,hba,hbk,hB,h3,hlo,hRB,hND,hh1,hh2,hc,hp,hK,hkK,hnK,hlr,hls⟩:=id W
 grind[Eh,Cn]
theorem XG{j:Nat}(hj:j%4≠0)(x:V): ∀v,v<n->∃c:Int,Bz F j x (4*v)=i6 c:=λv hv=>by have hc:=W.hc;grind[Cn]
theorem gN(hb:bw%11=0):Pd bw ba bk bn K rv n h p H m:=by
 obtain⟨hbw,hba,hbk,hB,h3,hlo,hRB,hND,hh1,hh2,hc,hp,hK,hkK,hnK,hlr,hls⟩:=id W
 have hw:((bw:Nat):Int).tmod 11=(0:Nat):=by rw[aS o_];omega
 have hold: ∀i,i≠1->gt (pt H 1 (Cu bn rv (.sl (h+3) 0 n none))) i=gt H i:=λi hi=>by grind[Ad]
 refine⟨bn,rv,.sl (h+3) 0 n none,pt H 1 (Cu bn rv (.sl (h+3) 0 n none)),m+3,⟨by rw[hold 0 o_];exact hB.h0,by grind[Ad],by rw[hold 2 o_];exact hB.h2⟩,?_,Pf W,.inr ⟨_,_,rfl⟩,o_,?_⟩
 .exact DM W (aC _) (λi a b=>hold i o_) (hND.frame (aC _) (hold _ o_) λj a b c=>hold _ (by have:=(hND.own j a b c).2.1;omega)) hc λi hi=>by grind
 .obtain⟨h0,h1,h2⟩:=hB
  clear hND hRB hc hls hlr hold
  exact Bu [A5 95 (.row 28 none (b9 bw ba bk bn)) (w8 bw),nu 96 (0:Nat),A5 106 (.row 28 none (b9 bw ba bk bn)) (i6 bn),so (Cu g rv (.sl (h+3) 0 n none)) [i6 bn,rv,.sl (h+3) 0 n none],toO Js] (let z0:=V.sl (h+3) 0 n none;let z1:=b9 bw ba bk bn;[_,Ae (Af (0+0) z1)=some (w8 ↑bw),_,_,Ae (Af (0+3) z1)=some (i6 bn),An [_,Bg (0+0) [i6 g,rv,z0] [i6 bn]=some [i6 bn,rv,z0]]]) ⟨h0,gq,hw,h0,gq,⟨h1,gq⟩⟩
theorem gK(hb:bw%11=3):Pd bw ba bk bn K rv n h p H m:=by
 obtain⟨hbw,hba,hbk,hB,h3,hlo,hRB,hND,hh1,hh2,hc,hp,hK,hkK,hnK,hlr,hls⟩:=id W
 have hw:((bw:Nat):Int).tmod 11=(3:Nat):=by rw[aS o_];omega
 have hold: ∀i,i≠h+3->gt (pt H (h+3) (.row 86 (some 4) (Aj (4*n) (Bz F (4*p) (i6 bn))))) i=gt H i:=λi hi=>by rw[Ad,if_neg hi]
 refine⟨g,rv,.sl (h+3) 0 n none,pt H (h+3) (.row 86 (some 4) (Aj (4*n) (Bz F (4*p) (i6 bn)))),m+3,hB.frame λi hi=>hold i o_,?_,Pf W,.inr ⟨_,_,rfl⟩,o_,?_⟩
 .exact DM W (aC _) (λi a b=>hold i o_) (hND.put (i:=4*p) (kS p) (i6 bn) (by grind[Ad]) (λj a b c=>hold _ (by exact(hND.own j a b c).2.2.2.1)) (aC _)) (λv hv=>by
   grind[Eh,Cn]) (λi hi=>by grind)
 .obtain⟨h0,h1,h2⟩:=hB
  have hrow:=hND.row
  have hlay:=Pi (n:=4*n) (k:=4*p) (F:=F) (x:=(i6 bn)) o_
  have hcell:True:=trivial
  generalize Aj (4*n) (Bz F (4*p) (i6 bn))=C2,Aj (4*n) F=C1 at*
  clear hND hRB hc hls hlr hold
  exact Bu [A5 95 (.row 28 none (b9 bw ba bk bn)) (w8 bw),nu 96 (3:Nat),A5 159 (.row 28 none (b9 bw ba bk bn)) (i6 bn),so (.row 86 (some 4) C1) C2,toO Js] (let z0:=b9 bw ba bk bn;[_,Ae (Af (0+0) z0)=some (w8 ↑bw),_,_,Ae (Af (0+3) z0)=some (i6 bn),An [_,Bg (p*4+0) C1 [i6 bn]=some C2]]) ⟨h0,gq,hw,h0,gq,⟨hrow,(by(rw[show p*4+0=4*p+0 by omega];first|exact hcell|exact hlay))⟩⟩
theorem gF(hb:bw%11=8):Pd bw ba bk bn K rv n h p H m:=by
 obtain⟨hbw,hba,hbk,hB,h3,hlo,hRB,hND,hh1,hh2,hc,hp,hK,hkK,hnK,hlr,hls⟩:=id W
 have hw:((bw:Nat):Int).tmod 11=(8:Nat):=by rw[aS o_];omega
 have hold: ∀i,i≠h+3->gt (pt H (h+3) (.row 86 (some 4) (Aj (4*n) (Bz F (4*p+1) .nils)))) i=gt H i:=λi hi=>by rw[Ad,if_neg hi]
 refine⟨g,rv,.sl (h+3) 0 n none,pt H (h+3) (.row 86 (some 4) (Aj (4*n) (Bz F (4*p+1) .nils))),m+3,hB.frame λi hi=>hold i o_,?_,Pf W,.inr ⟨_,_,rfl⟩,o_,?_⟩
 .exact DM W (aC _) (λi a b=>hold i o_) (hND.clear (i:=4*p+1) (by grind[Ad]) (λj a b c _=>hold _ (by exact(hND.own j a b c).2.2.2.1)) (aC _)) (XG W o_ _) (SC W s_)
 .obtain⟨h0,h1,h2⟩:=hB
  have hrow:=hND.row
  have hlay:=Pi (n:=4*n) (k:=4*p+1) (F:=F) (x:=.nils) o_
  have hcell:True:=trivial
  generalize Aj (4*n) (Bz F (4*p+1) .nils)=C2,Aj (4*n) F=C1 at*
  clear hND hRB hc hls hlr hold
  exact Bu [A5 95 (.row 28 none (b9 bw ba bk bn)) (w8 bw),nu 96 (8:Nat),so (.row 86 (some 4) C1) C2,toO Js] [_,Ae (Af (0+0) (b9 bw ba bk bn))=some (w8 ↑bw),_,An [_,Bg (p*4+1) C1 [V.nils]=some C2]] ⟨h0,gq,hw,⟨hrow,(by(rw[show p*4+1=4*p+1 by omega];first|exact hcell|exact hlay))⟩⟩
theorem gJ(hb:bw%11=4):Pd bw ba bk bn K rv n h p H m:=by
 obtain⟨hbw,hba,hbk,hB,h3,hlo,hRB,hND,hh1,hh2,hc,hp,hK,hkK,hnK,hlr,hls⟩:=id W
 have hw:((bw:Nat):Int).tmod 11=(4:Nat):=by rw[aS o_];omega
 have hrow:=hND.row
 have hlay:=Pi (n:=4*n) (k:=4*p+1) (F:=F) (x:=.sl (m+4) 0 ((ls (4*p+1)).length+1) none) o_
 have hcell:=Pl (n:=4*n) (k:=4*p+1) (F:=F) o_
 have hS:=Fl (v:=p) (i:=1) o_
 have hl3:(ls (4*p+1)).length<=K:=by have:=hls p hp;omega
 have fin: ∀Hf:T O,(∀i,i≠h+3->i≠m+3->i≠m+4->(ls (4*p+1)≠[]->i≠hd (4*p+1))->gt Hf i=gt H i)->gt Hf (h+3)=some (.row 86 (some 4) (Aj (4*n) (Bz F (4*p+1) (.sl (m+4) 0 ((ls (4*p+1)).length+1) none))))->gt Hf (m+4)=some (.row 3 (some 1) (Aa (ls (4*p+1)++[bn])))->BB (b9 bw ba bk bn) g rv (.sl (h+3) 0 n none) Hf/\BC (K+1) Hf (m+5) rv (.sl (h+3) 0 n none):=by
  intro Hf f1 f2 f3
  have hlow: ∀i,i<lo->gt Hf i=gt H i:=λi hi=>f1 i o_ o_ o_ (λhl=>by have:=(hND.own _ o_ hS hl).2.1;omega)
  have el:(ls (4*p+1)).length+1=(ls (4*p+1)++[bn]).length:=by rw[aR,bR]
  refine⟨hB.frame λi hi=>hlow i o_,DM W o_ (λi a b=>hlow i b) (NR.new (k:=true) hND (i:=4*p+1) (l:=ls (4*p+1)++[bn]) (q:=m+4) s_ o_ o_ o_ o_ (by grind) f3 (λi a b c d=>?_)) (XG W o_ _) (SC W o_)⟩
  obtain⟨o1,o2,o3,o4,o5⟩:=hND.own i a b c
  exact f1 _ o4 o_ o_ λhl=>hND.ne o_ hS hl a b c d
 generalize hC2:Aj (4*n) (Bz F (4*p+1) (.sl (m+4) 0 ((ls (4*p+1)).length+1) none))=C2 at*
 by_cases hnil:ls (4*p+1)=[]
 .rw[hND.nil _ o_ hS hnil]at hcell
  have hf:=fin (pt (pt (pt H (m+3) (.row 3 none [i6 bn])) (m+4) (.row 3 (some 1) [i6 bn])) (h+3) (.row 86 (some 4) C2)) (λi i1 i2 i3 i4=>by rw[Ad,if_neg i1,Ad,if_neg i3,Ad,if_neg i2]) (by rw[Ad,if_pos rfl]) (by rw[Ad,if_neg o_,Ad,if_pos rfl,hnil];rfl)
  refine⟨g,rv,_,_,_,hf.1,hf.2,Pf W,.inr ⟨_,_,rfl⟩,o_,?_⟩
  rw[hnil]at hlay hC2
  obtain⟨h0,h1,h2⟩:=hB
  clear hf fin hND hRB hc hls hlr hS hnil hl3
  generalize Aj (4*n) F=C1 at*
  exact Bu [A5 95 (.row 28 none (b9 bw ba bk bn)) (w8 bw),nu 96 (4:Nat),A5 168 (.row 86 (some 4) C1) .nils,A5 170 (.row 28 none (b9 bw ba bk bn)) (i6 bn),(172,.an 1 [i6 bn]),so (.row 86 (some 4) C1) C2,toO Js] (let z1:=b9 bw ba bk bn;let z2:=pt H (m+3) (O.row 3 none [i6 bn]);[_,Ae (Af (0+0) z1)=some (w8 ↑bw),_,_,Ae (Af (p*4+1) C1)=some V.nils,_,Ae (Af (0+3) z1)=some (i6 bn),An [A6 z2 1 (V.sl (m+3) 0 1 (some 0))=some (1,[i6 bn]),1<=9223372036854775807,1*8<=140737488355328],An [gt (pt z2 (m+3+1) (O.row 3 (some 1) [i6 bn])) (h+3)=(some (O.row 86 (some 4) C1)),Bg (p*4+1) C1 [V.sl (m+3+1) 0 1 none]=some C2]]) ⟨h0,gq,hw,hrow,(by(rw[show p*4+1=4*p+1 by omega];first|exact hcell|exact hlay)),h0,gq,⟨G2 (by exact gq),a_⟩,⟨gq,(by(rw[show p*4+1=4*p+1 by omega];first|exact hcell|exact hlay))⟩⟩
 .obtain⟨o1,o2,o3,o4,o5⟩:=hND.own _ o_ hS hnil
  rw[o1]at hcell
  have il:=F5 (ls (4*p+1))
  have hif:=Ap (ls (4*p+1))
  have ia:Aa (ls (4*p+1)++[bn])=Aa (ls (4*p+1))++[i6 bn]:=JN _ _
  have hf:=fin (pt (pt (pt (pt H (m+3) (.row 3 none [i6 bn])) (hd (4*p+1)) .dead) (m+4) (.row 3 (some 1) (Aa (ls (4*p+1))++[i6 bn]))) (h+3) (.row 86 (some 4) C2)) (λi i1 i2 i3 i4=>by rw[Ad,if_neg i1,Ad,if_neg i3,Ad,if_neg (i4 hnil),Ad,if_neg i2]) (by rw[Ad,if_pos rfl]) (by rw[Ad,if_neg o_,Ad,if_pos rfl,ia])
  refine⟨g,rv,_,_,_,hf.1,hf.2,Pf W,.inr ⟨_,_,rfl⟩,o_,?_⟩
  have o5:gt H (hd (4*p+1))=some (.row 3 (some 1) (Aa (ls (4*p+1)))):=o5
  have hcell:Ae (Af (4*p+1) (Aj (4*n) F))=some (.sl (hd (4*p+1)) 0 (ls (4*p+1)).length none):=hcell
  obtain⟨h0,h1,h2⟩:=hB
  clear hf fin hND hRB hc hls hlr hnil o1 ia
  generalize Aa (ls (4*p+1))=l,(ls (4*p+1)).length=ll,hd (4*p+1)=h9 at*
  obtain⟨kk,rfl⟩: ∃kk,h9=kk+3:=⟨h9-3,o_⟩
  generalize Aj (4*n) F=C1 at*
  exact Bu [A5 95 (.row 28 none (b9 bw ba bk bn)) (w8 bw),nu 96 (4:Nat),A5 168 (.row 86 (some 4) C1) (.sl (kk+3) 0 ll none),A5 170 (.row 28 none (b9 bw ba bk bn)) (i6 bn),(172,.aop (.row 3 (some 1) l) 1 [i6 bn]),so (.row 86 (some 4) C1) C2,toO Js] (let z1:=pt H (m+3) (O.row 3 none [i6 bn]);let z2:=b9 bw ba bk bn;[_,Ae (Af (0+0) z2)=some (w8 ↑bw),_,_,Ae (Af (p*4+1) C1)=some (V.sl (kk+3) 0 ll none),_,Ae (Af (0+3) z2)=some (i6 bn),A6 z1 1 (V.sl (m+3) 0 1 (some 0))=some (1,[i6 bn]),An [gt z1 (kk+3)=some (O.row 3 (some 1) l),l.length=ll*1,1<=1,ll+1<=9223372036854775807,(ll+1)*8<=140737488355328,Bl [i6 bn]=true],An [gt (pt (pt z1 (kk+3) O.dead) (m+3+1) (O.row 3 (some 1) (l++[i6 bn]))) (h+3)=(some (O.row 86 (some 4) C1)),Bg (p*4+1) C1 [V.sl (m+3+1) 0 (ll+1) none]=some C2]]) ⟨h0,gq,hw,hrow,(by(rw[show p*4+1=4*p+1 by omega];first|exact hcell|exact hlay)),h0,gq,G2 (by exact gq),⟨gq,aq,aq,aq,aq,gq⟩,⟨gq,(by(rw[show p*4+1=4*p+1 by omega];first|exact hcell|exact hlay))⟩⟩
theorem gI(hb:bw%11=5):Pd bw ba bk bn K rv n h p H m:=by
 obtain⟨hbw,hba,hbk,hB,h3,hlo,hRB,hND,hh1,hh2,hc,hp,hK,hkK,hnK,hlr,hls⟩:=id W
 have hw:((bw:Nat):Int).tmod 11=(5:Nat):=by rw[aS o_];omega
 have hrow:=hND.row
 have hlay:=Pi (n:=4*n) (k:=4*p+2) (F:=F) (x:=.sl (m+4) 0 ((ls (4*p+2)).length+1) none) o_
 have hcell:=Pl (n:=4*n) (k:=4*p+2) (F:=F) o_
 have hS:=Fl (v:=p) (i:=2) o_
 have hl3:(ls (4*p+2)).length<=K:=by have:=hls p hp;omega
 have fin: ∀Hf:T O,(∀i,i≠h+3->i≠m+3->i≠m+4->(ls (4*p+2)≠[]->i≠hd (4*p+2))->gt Hf i=gt H i)->gt Hf (h+3)=some (.row 86 (some 4) (Aj (4*n) (Bz F (4*p+2) (.sl (m+4) 0 ((ls (4*p+2)).length+1) none))))->gt Hf (m+4)=some (.row 3 (some 1) (Aa (ls (4*p+2)++[bn])))->BB (b9 bw ba bk bn) g rv (.sl (h+3) 0 n none) Hf/\BC (K+1) Hf (m+5) rv (.sl (h+3) 0 n none):=by
  intro Hf f1 f2 f3
  have hlow: ∀i,i<lo->gt Hf i=gt H i:=λi hi=>f1 i o_ o_ o_ (λhl=>by have:=(hND.own _ o_ hS hl).2.1;omega)
  have el:(ls (4*p+2)).length+1=(ls (4*p+2)++[bn]).length:=by rw[aR,bR]
  refine⟨hB.frame λi hi=>hlow i o_,DM W o_ (λi a b=>hlow i b) (NR.new (k:=true) hND (i:=4*p+2) (l:=ls (4*p+2)++[bn]) (q:=m+4) s_ o_ o_ o_ o_ (by grind) f3 (λi a b c d=>?_)) (XG W o_ _) (SC W o_)⟩
  obtain⟨o1,o2,o3,o4,o5⟩:=hND.own i a b c
  exact f1 _ o4 o_ o_ λhl=>hND.ne o_ hS hl a b c d
 generalize hC2:Aj (4*n) (Bz F (4*p+2) (.sl (m+4) 0 ((ls (4*p+2)).length+1) none))=C2 at*
 by_cases hnil:ls (4*p+2)=[]
 .rw[hND.nil _ o_ hS hnil]at hcell
  have hf:=fin (pt (pt (pt H (m+3) (.row 3 none [i6 bn])) (m+4) (.row 3 (some 1) [i6 bn])) (h+3) (.row 86 (some 4) C2)) (λi i1 i2 i3 i4=>by rw[Ad,if_neg i1,Ad,if_neg i3,Ad,if_neg i2]) (by rw[Ad,if_pos rfl]) (by rw[Ad,if_neg o_,Ad,if_pos rfl,hnil];rfl)
  refine⟨g,rv,_,_,_,hf.1,hf.2,Pf W,.inr ⟨_,_,rfl⟩,o_,?_⟩
  rw[hnil]at hlay hC2
  obtain⟨h0,h1,h2⟩:=hB
  clear hf fin hND hRB hc hls hlr hS hnil hl3
  generalize Aj (4*n) F=C1 at*
  exact Bu [A5 95 (.row 28 none (b9 bw ba bk bn)) (w8 bw),nu 96 (5:Nat),A5 181 (.row 86 (some 4) C1) .nils,A5 183 (.row 28 none (b9 bw ba bk bn)) (i6 bn),(185,.an 1 [i6 bn]),so (.row 86 (some 4) C1) C2,toO Js] (let z1:=b9 bw ba bk bn;let z2:=pt H (m+3) (O.row 3 none [i6 bn]);[_,Ae (Af (0+0) z1)=some (w8 ↑bw),_,_,Ae (Af (p*4+2) C1)=some V.nils,_,Ae (Af (0+3) z1)=some (i6 bn),An [A6 z2 1 (V.sl (m+3) 0 1 (some 0))=some (1,[i6 bn]),1<=9223372036854775807,1*8<=140737488355328],An [gt (pt z2 (m+3+1) (O.row 3 (some 1) [i6 bn])) (h+3)=(some (O.row 86 (some 4) C1)),Bg (p*4+2) C1 [V.sl (m+3+1) 0 1 none]=some C2]]) ⟨h0,gq,hw,hrow,(by(rw[show p*4+2=4*p+2 by omega];first|exact hcell|exact hlay)),h0,gq,⟨G2 (by exact gq),a_⟩,⟨gq,(by(rw[show p*4+2=4*p+2 by omega];first|exact hcell|exact hlay))⟩⟩
 .obtain⟨o1,o2,o3,o4,o5⟩:=hND.own _ o_ hS hnil
  rw[o1]at hcell
  have il:=F5 (ls (4*p+2))
  have hif:=Ap (ls (4*p+2))
  have ia:Aa (ls (4*p+2)++[bn])=Aa (ls (4*p+2))++[i6 bn]:=JN _ _
  have hf:=fin (pt (pt (pt (pt H (m+3) (.row 3 none [i6 bn])) (hd (4*p+2)) .dead) (m+4) (.row 3 (some 1) (Aa (ls (4*p+2))++[i6 bn]))) (h+3) (.row 86 (some 4) C2)) (λi i1 i2 i3 i4=>by rw[Ad,if_neg i1,Ad,if_neg i3,Ad,if_neg (i4 hnil),Ad,if_neg i2]) (by rw[Ad,if_pos rfl]) (by rw[Ad,if_neg o_,Ad,if_pos rfl,ia])
  refine⟨g,rv,_,_,_,hf.1,hf.2,Pf W,.inr ⟨_,_,rfl⟩,o_,?_⟩
  have o5:gt H (hd (4*p+2))=some (.row 3 (some 1) (Aa (ls (4*p+2)))):=o5
  have hcell:Ae (Af (4*p+2) (Aj (4*n) F))=some (.sl (hd (4*p+2)) 0 (ls (4*p+2)).length none):=hcell
  obtain⟨h0,h1,h2⟩:=hB
  clear hf fin hND hRB hc hls hlr hnil o1 ia
  generalize Aa (ls (4*p+2))=l,(ls (4*p+2)).length=ll,hd (4*p+2)=h9 at*
  obtain⟨kk,rfl⟩: ∃kk,h9=kk+3:=⟨h9-3,o_⟩
  generalize Aj (4*n) F=C1 at*
  exact Bu [A5 95 (.row 28 none (b9 bw ba bk bn)) (w8 bw),nu 96 (5:Nat),A5 181 (.row 86 (some 4) C1) (.sl (kk+3) 0 ll none),A5 183 (.row 28 none (b9 bw ba bk bn)) (i6 bn),(185,.aop (.row 3 (some 1) l) 1 [i6 bn]),so (.row 86 (some 4) C1) C2,toO Js] (let z1:=pt H (m+3) (O.row 3 none [i6 bn]);let z2:=b9 bw ba bk bn;[_,Ae (Af (0+0) z2)=some (w8 ↑bw),_,_,Ae (Af (p*4+2) C1)=some (V.sl (kk+3) 0 ll none),_,Ae (Af (0+3) z2)=some (i6 bn),A6 z1 1 (V.sl (m+3) 0 1 (some 0))=some (1,[i6 bn]),An [gt z1 (kk+3)=some (O.row 3 (some 1) l),l.length=ll*1,1<=1,ll+1<=9223372036854775807,(ll+1)*8<=140737488355328,Bl [i6 bn]=true],An [gt (pt (pt z1 (kk+3) O.dead) (m+3+1) (O.row 3 (some 1) (l++[i6 bn]))) (h+3)=(some (O.row 86 (some 4) C1)),Bg (p*4+2) C1 [V.sl (m+3+1) 0 (ll+1) none]=some C2]]) ⟨h0,gq,hw,hrow,(by(rw[show p*4+2=4*p+2 by omega];first|exact hcell|exact hlay)),h0,gq,G2 (by exact gq),⟨gq,aq,aq,aq,aq,gq⟩,⟨gq,(by(rw[show p*4+2=4*p+2 by omega];first|exact hcell|exact hlay))⟩⟩
theorem gG(hb:bw%11=7):Pd bw ba bk bn K rv n h p H m:=by
 obtain⟨hbw,hba,hbk,hB,h3,hlo,hRB,hND,hh1,hh2,hc,hp,hK,hkK,hnK,hlr,hls⟩:=id W
 have hw:((bw:Nat):Int).tmod 11=(7:Nat):=by rw[aS o_];omega
 have hrow:=hND.row
 have hlay:=Pi (n:=4*n) (k:=4*p+3) (F:=F) (x:=.sl (m+4) 0 ((ls (4*p+3)).length+1) none) o_
 have hcell:=Pl (n:=4*n) (k:=4*p+3) (F:=F) o_
 have hS:=Fl (v:=p) (i:=3) o_
 have hl3:(ls (4*p+3)).length<=K:=by have:=hls p hp;omega
 have fin: ∀Hf:T O,(∀i,i≠h+3->i≠m+3->i≠m+4->(ls (4*p+3)≠[]->i≠hd (4*p+3))->gt Hf i=gt H i)->gt Hf (h+3)=some (.row 86 (some 4) (Aj (4*n) (Bz F (4*p+3) (.sl (m+4) 0 ((ls (4*p+3)).length+1) none))))->gt Hf (m+4)=some (.row 3 (some 1) (Aa (ls (4*p+3)++[(0:Int)])))->BB (b9 bw ba bk bn) g rv (.sl (h+3) 0 n none) Hf/\BC (K+1) Hf (m+5) rv (.sl (h+3) 0 n none):=by
  intro Hf f1 f2 f3
  have hlow: ∀i,i<lo->gt Hf i=gt H i:=λi hi=>f1 i o_ o_ o_ (λhl=>by have:=(hND.own _ o_ hS hl).2.1;omega)
  have el:(ls (4*p+3)).length+1=(ls (4*p+3)++[(0:Int)]).length:=by rw[aR,bR]
  refine⟨hB.frame λi hi=>hlow i o_,DM W o_ (λi a b=>hlow i b) (NR.new (k:=true) hND (i:=4*p+3) (l:=ls (4*p+3)++[(0:Int)]) (q:=m+4) s_ o_ o_ o_ o_ (by grind) f3 (λi a b c d=>?_)) (XG W o_ _) (SC W o_)⟩
  obtain⟨o1,o2,o3,o4,o5⟩:=hND.own i a b c
  exact f1 _ o4 o_ o_ λhl=>hND.ne o_ hS hl a b c d
 generalize hC2:Aj (4*n) (Bz F (4*p+3) (.sl (m+4) 0 ((ls (4*p+3)).length+1) none))=C2 at*
 by_cases hnil:ls (4*p+3)=[]
 .rw[hND.nil _ o_ hS hnil]at hcell
  have hf:=fin (pt (pt (pt H (m+3) (.row 3 none [i6 (0:Int)])) (m+4) (.row 3 (some 1) [i6 (0:Int)])) (h+3) (.row 86 (some 4) C2)) (λi i1 i2 i3 i4=>by rw[Ad,if_neg i1,Ad,if_neg i3,Ad,if_neg i2]) (by rw[Ad,if_pos rfl]) (by rw[Ad,if_neg o_,Ad,if_pos rfl,hnil];rfl)
  refine⟨g,rv,_,_,_,hf.1,hf.2,Pf W,.inr ⟨_,_,rfl⟩,o_,?_⟩
  rw[hnil]at hlay hC2
  obtain⟨h0,h1,h2⟩:=hB
  clear hf fin hND hRB hc hls hlr hS hnil hl3
  generalize Aj (4*n) F=C1 at*
  exact Bu [A5 95 (.row 28 none (b9 bw ba bk bn)) (w8 bw),nu 96 (7:Nat),A5 218 (.row 86 (some 4) C1) .nils,(220,.an 1 [i6 (0:Int)]),so (.row 86 (some 4) C1) C2,toO Js] (let z1:=pt H (m+3) (O.row 3 none [i6 0]);[_,Ae (Af (0+0) (b9 bw ba bk bn))=some (w8 ↑bw),_,_,Ae (Af (p*4+3) C1)=some V.nils,An [A6 z1 1 (V.sl (m+3) 0 1 (some 0))=some (1,[i6 0]),1<=9223372036854775807,1*8<=140737488355328],An [gt (pt z1 (m+3+1) (O.row 3 (some 1) [i6 0])) (h+3)=(some (O.row 86 (some 4) C1)),Bg (p*4+3) C1 [V.sl (m+3+1) 0 1 none]=some C2]]) ⟨h0,gq,hw,hrow,(by(rw[show p*4+3=4*p+3 by omega];first|exact hcell|exact hlay)),⟨G2 (by exact gq),a_⟩,⟨gq,(by(rw[show p*4+3=4*p+3 by omega];first|exact hcell|exact hlay))⟩⟩
 .obtain⟨o1,o2,o3,o4,o5⟩:=hND.own _ o_ hS hnil
  rw[o1]at hcell
  have il:=F5 (ls (4*p+3))
  have hif:=Ap (ls (4*p+3))
  have ia:Aa (ls (4*p+3)++[(0:Int)])=Aa (ls (4*p+3))++[i6 (0:Int)]:=JN _ _
  have hf:=fin (pt (pt (pt (pt H (m+3) (.row 3 none [i6 (0:Int)])) (hd (4*p+3)) .dead) (m+4) (.row 3 (some 1) (Aa (ls (4*p+3))++[i6 (0:Int)]))) (h+3) (.row 86 (some 4) C2)) (λi i1 i2 i3 i4=>by rw[Ad,if_neg i1,Ad,if_neg i3,Ad,if_neg (i4 hnil),Ad,if_neg i2]) (by rw[Ad,if_pos rfl]) (by rw[Ad,if_neg o_,Ad,if_pos rfl,ia])
  refine⟨g,rv,_,_,_,hf.1,hf.2,Pf W,.inr ⟨_,_,rfl⟩,o_,?_⟩
  have o5:gt H (hd (4*p+3))=some (.row 3 (some 1) (Aa (ls (4*p+3)))):=o5
  have hcell:Ae (Af (4*p+3) (Aj (4*n) F))=some (.sl (hd (4*p+3)) 0 (ls (4*p+3)).length none):=hcell
  obtain⟨h0,h1,h2⟩:=hB
  clear hf fin hND hRB hc hls hlr hnil o1 ia
  generalize Aa (ls (4*p+3))=l,(ls (4*p+3)).length=ll,hd (4*p+3)=h9 at*
  obtain⟨kk,rfl⟩: ∃kk,h9=kk+3:=⟨h9-3,o_⟩
  generalize Aj (4*n) F=C1 at*
  exact Bu [A5 95 (.row 28 none (b9 bw ba bk bn)) (w8 bw),nu 96 (7:Nat),A5 218 (.row 86 (some 4) C1) (.sl (kk+3) 0 ll none),(220,.aop (.row 3 (some 1) l) 1 [i6 (0:Int)]),so (.row 86 (some 4) C1) C2,toO Js] (let z1:=pt H (m+3) (O.row 3 none [i6 0]);[_,Ae (Af (0+0) (b9 bw ba bk bn))=some (w8 ↑bw),_,_,Ae (Af (p*4+3) C1)=some (V.sl (kk+3) 0 ll none),A6 z1 1 (V.sl (m+3) 0 1 (some 0))=some (1,[i6 0]),An [gt z1 (kk+3)=some (O.row 3 (some 1) l),l.length=ll*1,1<=1,ll+1<=9223372036854775807,(ll+1)*8<=140737488355328,Bl [i6 0]=true],An [gt (pt (pt z1 (kk+3) O.dead) (m+3+1) (O.row 3 (some 1) (l++[i6 0]))) (h+3)=(some (O.row 86 (some 4) C1)),Bg (p*4+3) C1 [V.sl (m+3+1) 0 (ll+1) none]=some C2]]) ⟨h0,gq,hw,hrow,(by(rw[show p*4+3=4*p+3 by omega];first|exact hcell|exact hlay)),G2 (by exact gq),⟨gq,aq,aq,aq,aq,gq⟩,⟨gq,(by(rw[show p*4+3=4*p+3 by omega];first|exact hcell|exact hlay))⟩⟩
end
end Go.Proofs.YtifdkhfldbkkpaaGreat.Am
