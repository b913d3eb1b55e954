/- Texts behind the claim, part 9: the abstract machine, and what the functions answer. No condition. -/
import Derived.Test.YtifdkhfldbkkpaaGreatCC8
set_option linter.unusedVariables false
set_option maxHeartbeats 4000000
set_option maxRecDepth 100000
set_option linter.unusedSimpArgs false
set_option linter.unusedSectionVars false
namespace Go.Proofs.YtifdkhfldbkkpaaGreat.Am
open Go.RowKit
variable{bn:Int}{K N R a b ba bk bw c d e h i j m n nx q t x:Nat}{H':Nat->Option O}{F F':Nat->Prop}{H:T O}{nv:V}
section
variable {bw ba bk:Nat} {bn:Int} {g:Int} {K lo m:Nat} {rv:V} {H:T O} {k:Nat} {Fr:Nat->V} {lr:Nat->List Int} {hdr:Nat->Nat} {hr:Nat} {n:Nat} {F:Nat->V} {ls:Nat->List Int} {hd:Nat->Nat} {h:Nat} {p:Nat}
 (W:kQ bw ba bk bn g K lo m rv H k Fr lr hdr hr n F ls hd h p)
include W
theorem gM(hb:bw%11=1):Pd bw ba bk bn K rv n h p H m:=by
 obtain⟨hbw,hba,hbk,hB,h3,hlo,hRB,hND,hh1,hh2,hc,hp,hK,hkK,hnK,hlr,hls⟩:=id W
 have hw:((bw:Nat):Int).tmod 11=(1:Nat):=by rw[aS o_];omega
 have h1':=hB.h1
 have fin: ∀Hf:T O,(∀i,i≠1->i≠m+3->i≠m+4->i≠m+5->(k≠0->i≠hr)->gt Hf i=gt H i)->gt Hf 1=some (Cu g (.sl (m+5) 0 (k+1) none) (.sl (h+3) 0 n none))->gt Hf (m+3)=some (.row 3 none [i6 g])->gt Hf (m+5)=some (.row 47 (some 1) (Aj k Fr++[.sl (m+3) 0 1 (some 0)]))->BB (b9 bw ba bk bn) g (.sl (m+5) 0 (k+1) none) (.sl (h+3) 0 n none) Hf/\BC (K+1) Hf (m+6) (.sl (m+5) 0 (k+1) none) (.sl (h+3) 0 n none):=by
  intro Hf f1 f2 f3 f4
  have hrb:k≠0->3<=hr/\hr<lo:=λhk=>⟨(hRB.own hk).2.1,(hRB.own hk).2.2.1⟩
  refine⟨⟨by rw[f1 0 o_ o_ o_ o_ (λhk=>o_)];exact hB.h0,f2,by rw[f1 2 o_ o_ o_ o_ (λhk=>o_)];exact hB.h2⟩,Ou (k+1) (Bz lr k [g]),Ev n F ls,TD o_ o_ (λi hi=>?_) (λi hi=>by grind),λFz ρ hF=>⟨?_,?_⟩⟩
  .grind[Eh,Cn]
  .refine F8 (lo:=3) (nx:=m+6) (F:=Bz Fr k (.sl (m+3) 0 1 (some 0))) (hd:=Bz hdr k (m+3)) (kd:=Bz (λ_=>true) k false) (hR:=m+5) ⟨λe=>o_,λ_=>⟨rfl,o_,o_,?_⟩⟩ λi a b=>hF i a b
   rw[show 1*(k+1)=k+1 by omega]
   refine NR.ext (n:=k) (hR:=hr) (nx:=lo) (kd:=λ_=>true) (λhk=>by have:=(hRB.own hk).2.2.2;rwa [show 1*k=k by omega]at this) o_ o_ (by rw[f4,ag]) (λi hi=>⟨Cn o_,Cn o_,Cn o_,Cn o_,λhS hne=>?_⟩) (λi a b _ e=>?_) (λi a b _ e=>?_) (λi j a1 a2 a3 a4 _ _ _ _ _=>o_)
   .have hNR:=(hRB.own o_).2.2.2
    rw[show 1*k=k by omega]at hNR
    obtain⟨o1,o2,o3,o4,o5⟩:=hNR.own i hi hS hne
    grind
   .grind[Eh]
   .obtain rfl:i=k:=o_
    rw[Eh,Eh,Eh,Eh]
    exact⟨rfl,o_,o_,o_,f3⟩
  .refine XQ (lo:=lo) (nx:=m+3) (hd:=hd) (kd:=λ_=>true) (hR:=h+3) ⟨λe=>o_,λ_=>⟨rfl,hh1,hh2,hND.frame (aC _) (f1 _ o_ o_ o_ o_ (λhk=>o_)) λi a b c=>?_⟩⟩ hc λi a b=>hF i o_ o_
   obtain⟨o1,o2,o3,o4,o5⟩:=hND.own i a b c
   grind
 by_cases hk:k=0
 .subst hk
  obtain rfl:=hRB.nil rfl
  have hf:=fin (pt (pt (pt (pt H (m+3) (.row 3 none [i6 g])) (m+4) (.row 47 none [.sl (m+3) 0 1 (some 0)])) (m+5) (.row 47 (some 1) [.sl (m+3) 0 1 (some 0)])) 1 (Cu g (.sl (m+5) 0 1 none) (.sl (h+3) 0 n none))) (λi i1 i2 i3 i4 _=>by rw[Ad,if_neg i1,Ad,if_neg i4,Ad,if_neg i3,Ad,if_neg i2]) (by rw[Ad,if_pos rfl]<;>rfl) (by rw[Ad,if_neg o_,Ad,if_neg o_,Ad,if_neg o_,Ad,if_pos rfl]) (by rw[Ad,if_neg o_,Ad,if_pos rfl]<;>rfl)
  refine⟨g,_,_,_,_,hf.1,hf.2,.inr ⟨_,_,rfl⟩,.inr ⟨_,_,rfl⟩,o_,?_⟩
  obtain⟨h0,h1,h2⟩:=hB
  have hcell:True:=trivial
  have hlay:True:=trivial
  clear hf fin hND hRB hc hls hlr
  exact Bu [A5 95 (.row 28 none (b9 bw ba bk bn)) (w8 bw),nu 96 (1:Nat),A5 111 (Cu g .nils (.sl (h+3) 0 n none)) .nils,A5 113 (Cu g .nils (.sl (h+3) 0 n none)) (i6 g),(116,.an 1 [.sl (m+3) 0 1 (some 0)]),so (Cu g .nils (.sl (h+3) 0 n none)) [i6 g,.sl (m+5) 0 1 none,.sl (h+3) 0 n none],toO Js] (let z1:=V.sl (h+3) 0 n none;let z2:=[V.sl (m+3) 0 1 (some 0)];let z0:=pt (pt H (m+3) (O.row 3 none [i6 g])) (m+3+1) (O.row 47 none z2);let z5:=[i6 g,V.nils,z1];[_,Ae (Af (0+0) (b9 bw ba bk bn))=some (w8 ↑bw),_,_,Ae (Af 1 z5)=some V.nils,_,Ae (Af (0+0) z5)=some (i6 g),An [A6 z0 1 (V.sl (m+3+1) 0 1 (some 0))=some (1,z2),1<=9223372036854775807,1*24<=140737488355328],An [gt (pt z0 (m+3+1+1) (O.row 47 (some 1) z2)) 1=(some (Cu g V.nils z1)),Bg 1 z5 [V.sl (m+3+1+1) 0 1 none]=some [i6 g,V.sl (m+5) 0 1 none,z1]]]) ⟨h0,gq,hw,h1,gq,h1,gq,⟨G2 (by exact gq),a_⟩,⟨gq,gq⟩⟩
 .obtain⟨e,k1,k2,k3⟩:=hRB.own hk
  subst e
  have k4:gt H hr=some (.row 47 (some 1) (Aj k Fr)):=by have:=k3.row;rwa [show 1*k=k by omega]at this
  have hf:=fin (pt (pt (pt (pt (pt H (m+3) (.row 3 none [i6 g])) (m+4) (.row 47 none [.sl (m+3) 0 1 (some 0)])) hr .dead) (m+5) (.row 47 (some 1) (Aj k Fr++[.sl (m+3) 0 1 (some 0)]))) 1 (Cu g (.sl (m+5) 0 (k+1) none) (.sl (h+3) 0 n none))) (λi i1 i2 i3 i4 i5=>by rw[Ad,if_neg i1,Ad,if_neg i4,Ad,if_neg (i5 hk),Ad,if_neg i3,Ad,if_neg i2]) (by rw[Ad,if_pos rfl]) (by rw[Ad,if_neg o_,Ad,if_neg o_,Ad,if_neg o_,Ad,if_neg o_,Ad,if_pos rfl]) (by rw[Ad,if_neg o_,Ad,if_pos rfl])
  refine⟨g,_,_,_,_,hf.1,hf.2,.inr ⟨_,_,rfl⟩,.inr ⟨_,_,rfl⟩,o_,?_⟩
  obtain⟨h0,h1,h2⟩:=hB
  have hcell:True:=trivial
  have hlay:True:=trivial
  clear hf fin hND hRB hc hls hlr k3
  obtain⟨kk,rfl⟩: ∃kk,hr=kk+3:=⟨hr-3,o_⟩
  have hcl:=Wu k Fr
  generalize Aj k Fr=CF at*
  exact Bu [A5 95 (.row 28 none (b9 bw ba bk bn)) (w8 bw),nu 96 (1:Nat),A5 111 (Cu g (.sl (kk+3) 0 k none) (.sl (h+3) 0 n none)) (.sl (kk+3) 0 k none),A5 113 (Cu g (.sl (kk+3) 0 k none) (.sl (h+3) 0 n none)) (i6 g),(116,.aop (.row 47 (some 1) CF) 1 [.sl (m+3) 0 1 (some 0)]),so (Cu g (.sl (kk+3) 0 k none) (.sl (h+3) 0 n none)) [i6 g,.sl (m+5) 0 (k+1) none,.sl (h+3) 0 n none],toO Js] (let z1:=V.sl (h+3) 0 n none;let z2:=V.sl (kk+3) 0 k none;let z3:=[V.sl (m+3) 0 1 (some 0)];let z0:=pt (pt H (m+3) (O.row 3 none [i6 g])) (m+3+1) (O.row 47 none z3);let z7:=[i6 g,z2,z1];[_,Ae (Af (0+0) (b9 bw ba bk bn))=some (w8 ↑bw),_,_,Ae (Af 1 z7)=some z2,_,Ae (Af (0+0) z7)=some (i6 g),A6 z0 1 (V.sl (m+3+1) 0 1 (some 0))=some (1,z3),An [gt z0 (kk+3)=some (O.row 47 (some 1) CF),CF.length=k*1,1<=1,k+1<=9223372036854775807,(k+1)*24<=140737488355328,Bl z3=true],An [gt (pt (pt z0 (kk+3) O.dead) (m+3+1+1) (O.row 47 (some 1) (CF++z3))) 1=(some (Cu g z2 z1)),Bg 1 z7 [V.sl (m+3+1+1) 0 (k+1) none]=some [i6 g,V.sl (m+5) 0 (k+1) none,z1]]]) ⟨h0,gq,hw,h1,gq,h1,gq,G2 (by exact gq),⟨gq,aq,aq,aq,aq,gq⟩,⟨gq,gq⟩⟩
theorem BU:BC (K+1) H (m+3) rv (.sl (h+3) 0 n none):=DM W (aC _) (λ_ _ _=>rfl) W.hND W.hc λi hi=>by have:=W.hls i hi;grind
theorem gL(hb:bw%11=2):Pd bw ba bk bn K rv n h p H m:=by
 obtain⟨hbw,hba,hbk,hB,h3,hlo,hRB,hND,hh1,hh2,hc,hp,hK,hkK,hnK,hlr,hls⟩:=id W
 have hw:((bw:Nat):Int).tmod 11=(2:Nat):=by rw[aS o_];omega
 have hid:=BU W
 have hcell:True:=trivial
 have hlay:True:=trivial
 by_cases hk:k=0
 .subst hk
  obtain rfl:=hRB.nil rfl
  refine⟨g,_,_,H,m+3,hB,hid,.inl rfl,.inr ⟨_,_,rfl⟩,o_,?_⟩
  obtain⟨h0,h1,h2⟩:=hB
  clear hid hND hRB hc hls hlr
  exact Bu [A5 95 (.row 28 none (b9 bw ba bk bn)) (w8 bw),nu 96 (2:Nat),toO Js] [_,Ae (Af (0+0) (b9 bw ba bk bn))=some (w8 ↑bw),_] ⟨h0,gq,hw⟩
 .obtain⟨e,k1,k2,k3⟩:=hRB.own hk
  rw[show 1*k=k by omega]at k3
  subst e
  have hq:ba%k<k:=aY _ o_
  have m1:=Og (G:=B1 Pg) (t:=3) (a:=ba) (b:=k) hk
  have k4:=k3.row
  have hcl:=Pl (F:=Fr) hq
  generalize ba%k=q at*
  by_cases hnil:lr q=[]
  .rw[k3.nil q hq rfl hnil]at hcl
   refine⟨g,_,_,H,m+3,hB,hid,.inr ⟨_,_,rfl⟩,.inr ⟨_,_,rfl⟩,o_,?_⟩
   obtain⟨h0,h1,h2⟩:=hB
   clear hid hND hRB hc hls hlr k3
   generalize Aj k Fr=CF at*
   exact Bu [A5 95 (.row 28 none (b9 bw ba bk bn)) (w8 bw),nu 96 (2:Nat),As 122,A5 126 (.row 28 none (b9 bw ba bk bn)) (w8 ba),nu 127 ba,va 130 (i6 q),pl 131,A5 132 (.row 47 (some 1) CF) .nils,toO Js] (let z0:=b9 bw ba bk bn;[_,Ae (Af (0+0) z0)=some (w8 ↑bw),_,decide ((↑k:Int)>(0:Int))=true,_,Ae (Af 1 z0)=some (w8 ↑ba),wr .i64 (↑ba:Int)=(↑ba:Int),_,_,_,Ae (Af (0+q*1) CF)=some V.nils]) ⟨h0,gq,hw,aq,h0,gq,aq,m1,Ar hq,k4,aq⟩
  .obtain⟨o1,o2,o3,o4,o5⟩:=k3.own q hq rfl hnil
   rw[o1]at hcl
   have hcl:Ae (Af q (Aj k Fr))=some (.sl (hdr q) 0 (lr q).length none):=hcl
   have o5:gt H (hdr q)=some (.row 3 (some 1) (Aa (lr q))):=o5
   have hl0:=fC.2 hnil
   have hz:bk%(lr q).length<(lr q).length:=aY _ o_
   have m2:=Og (G:=B1 Pg) (t:=3) (a:=bk) (b:=(lr q).length) o_
   have hly:=@Ie (lr q) (bk%(lr q).length) bn hz
   have hlK:=hlr q hq
   have hold: ∀i,i≠hdr q->gt (pt H (hdr q) (.row 3 (some 1) (Aa ((lr q).set (bk%(lr q).length) bn)))) i=gt H i:=λi hi=>by rw[Ad,if_neg hi]
   have hset:=NR.set (H':=pt H (hdr q) (.row 3 (some 1) (Aa ((lr q).set (bk%(lr q).length) bn)))) (l:=(lr q).set (bk%(lr q).length) bn) k3 hq rfl hnil s_ (by rw[Ad,if_pos rfl]<;>rfl) (hold _ o_) (λj a b c d=>hold _ (k3.ne hq rfl hnil a b c d))
   refine⟨g,_,_,pt H (hdr q) (.row 3 (some 1) (Aa ((lr q).set (bk%(lr q).length) bn))),m+3,hB.frame λi hi=>hold i o_,⟨Ou k (Bz lr q ((lr q).set (bk%(lr q).length) bn)),Ev n F ls,TD o_ o_ (λi hi=>?_) (λi hi=>by have:=hls i hi;omega),λFz ρ hF=>⟨?_,?_⟩⟩,.inr ⟨_,_,rfl⟩,.inr ⟨_,_,rfl⟩,o_,?_⟩
   .grind[Eh,Cn]
   .exact F8 (lo:=3) (nx:=lo) (F:=Fr) (hd:=hdr) (kd:=λ_=>true) (hR:=hr) ⟨λe=>absurd e hk,λ_=>⟨rfl,k1,k2,by simp_all⟩⟩ λi a b=>hF i a o_
   .refine XQ (lo:=lo) (nx:=m+3) (hd:=hd) (kd:=λ_=>true) (hR:=h+3) ⟨λe=>o_,λ_=>⟨rfl,hh1,hh2,hND.frame (aC _) (hold _ o_) λi a b c=>?_⟩⟩ hc λi a b=>hF i o_ b
    have:=(hND.own i a b c).2.1
    grind
   .obtain⟨h0,h1,h2⟩:=hB
    clear hid hND hRB hc hls hlr k3 hset hold o1
    generalize bk%(lr q).length=z at*
    generalize hl2:Aa ((lr q).set z bn)=l2 at*
    have hil:=F5 (lr q)
    have hif:=Ap (lr q)
    generalize Aa (lr q)=l1 at*
    generalize (lr q).length=ll at*
    generalize hdr q=h9 at*
    generalize Aj k Fr=CF at*
    exact Bu [A5 95 (.row 28 none (b9 bw ba bk bn)) (w8 bw),nu 96 (2:Nat),As 122,A5 126 (.row 28 none (b9 bw ba bk bn)) (w8 ba),nu 127 ba,va 130 (i6 q),pl 131,A5 132 (.row 47 (some 1) CF) (.sl h9 0 ll none),As 134,A5 138 (.row 28 none (b9 bw ba bk bn)) (w8 ba),nu 139 ba,va 142 (i6 q),pl 143,A5 144 (.row 47 (some 1) CF) (.sl h9 0 ll none),A5 147 (.row 28 none (b9 bw ba bk bn)) (w8 bk),nu 148 bk,va 151 (i6 z),A5 153 (.row 28 none (b9 bw ba bk bn)) (i6 bn),pl 154,so (.row 3 (some 1) l1) l2,toO Js] (let z1:=b9 bw ba bk bn;let z3:=(↑ba:Int);let z6:=Ae (Af (0+q*1) CF);let z8:=some (V.sl h9 0 ll none);[_,Ae (Af (0+0) z1)=some (w8 ↑bw),_,decide ((↑k:Int)>(0:Int))=true,_,Ae (Af 1 z1)=some (w8 ↑ba),wr .i64 z3=z3,_,_,_,z6=z8,decide ((↑ll:Int)>(0:Int))=true,_,Ae (Af 1 z1)=some (w8 ↑ba),wr .i64 z3=z3,_,_,_,z6=z8,_,Ae (Af (0+2) z1)=some (w8 ↑bk),wr .i64 (↑bk:Int)=(↑bk:Int),_,_,Ae (Af (0+3) z1)=some (i6 bn),_,An [_,_]]) ⟨h0,gq,hw,aq,h0,gq,aq,m1,Ar hq,k4,aq,aq,h0,gq,aq,m1,Ar hq,k4,aq,h0,gq,aq,m2,h0,gq,Ar hz,⟨o5,hly⟩⟩
theorem gH(hb:bw%11=6):Pd bw ba bk bn K rv n h p H m:=by
 obtain⟨hbw,hba,hbk,hB,h3,hlo,hRB,hND,hh1,hh2,hc,hp,hK,hkK,hnK,hlr,hls⟩:=id W
 have hw:((bw:Nat):Int).tmod 11=(6:Nat):=by rw[aS o_];omega
 have hid:=BU W
 have hrow:=hND.row
 have hcell:=Pl (n:=4*n) (k:=4*p+3) (F:=F) o_
 have hlay:True:=trivial
 have hS:=Fl (v:=p) (i:=3) o_
 by_cases hnil:ls (4*p+3)=[]
 .rw[hND.nil _ o_ hS hnil]at hcell
  refine⟨g,_,_,H,m+3,hB,hid,Pf W,.inr ⟨_,_,rfl⟩,o_,?_⟩
  obtain⟨h0,h1,h2⟩:=hB
  clear hid hND hRB hc hls hlr hS hnil
  generalize Aj (4*n) F=C1 at*
  exact Bu [A5 95 (.row 28 none (b9 bw ba bk bn)) (w8 bw),nu 96 (6:Nat),A5 193 (.row 86 (some 4) C1) .nils,toO Js] [_,Ae (Af (0+0) (b9 bw ba bk bn))=some (w8 ↑bw),_,_,Ae (Af (p*4+3) C1)=some V.nils] ⟨h0,gq,hw,hrow,(by(rw[show p*4+3=4*p+3 by omega];first|exact hcell|exact hlay))⟩
 .obtain⟨o1,o2,o3,o4,o5⟩:=hND.own _ o_ hS hnil
  rw[o1]at hcell
  have hcell:Ae (Af (4*p+3) (Aj (4*n) F))=some (.sl (hd (4*p+3)) 0 (ls (4*p+3)).length none):=hcell
  have o5:gt H (hd (4*p+3))=some (.row 3 (some 1) (Aa (ls (4*p+3)))):=o5
  have hl0:=fC.2 hnil
  have hz:bk%(ls (4*p+3)).length<(ls (4*p+3)).length:=aY _ o_
  have m2:=Og (G:=B1 Pg) (t:=3) (a:=bk) (b:=(ls (4*p+3)).length) o_
  have hly:=@Ie (ls (4*p+3)) (bk%(ls (4*p+3)).length) bn hz
  have hlK:(ls (4*p+3)).length<=K:=(hls p hp).2.2
  have hold: ∀i,i≠hd (4*p+3)->gt (pt H (hd (4*p+3)) (.row 3 (some 1) (Aa ((ls (4*p+3)).set (bk%(ls (4*p+3)).length) bn)))) i=gt H i:=λi hi=>by rw[Ad,if_neg hi]
  have hset:=NR.set (H':=pt H (hd (4*p+3)) (.row 3 (some 1) (Aa ((ls (4*p+3)).set (bk%(ls (4*p+3)).length) bn)))) (l:=(ls (4*p+3)).set (bk%(ls (4*p+3)).length) bn) hND o_ hS hnil s_ (by rw[Ad,if_pos rfl]<;>rfl) (hold _ (Ne.symm o4)) (λj a b c d=>hold _ (hND.ne o_ hS hnil a b c d))
  refine⟨g,_,_,pt H (hd (4*p+3)) (.row 3 (some 1) (Aa ((ls (4*p+3)).set (bk%(ls (4*p+3)).length) bn))),m+3,hB.frame λi hi=>hold i o_,DM W (aC _) (λi a b=>hold i o_) hset hc (SC W (by simp;omega)),Pf W,.inr ⟨_,_,rfl⟩,o_,?_⟩
  obtain⟨h0,h1,h2⟩:=hB
  clear hid hND hRB hc hls hlr hset hold o1 hS hnil
  generalize bk%(ls (4*p+3)).length=z at*
  generalize hl2:Aa ((ls (4*p+3)).set z bn)=l2 at*
  have hil:=F5 (ls (4*p+3))
  have hif:=Ap (ls (4*p+3))
  generalize Aa (ls (4*p+3))=l1 at*
  generalize (ls (4*p+3)).length=ll at*
  generalize hd (4*p+3)=h9 at*
  generalize Aj (4*n) F=C1 at*
  exact Bu [A5 95 (.row 28 none (b9 bw ba bk bn)) (w8 bw),nu 96 (6:Nat),A5 193 (.row 86 (some 4) C1) (.sl h9 0 ll none),As 195,A5 199 (.row 86 (some 4) C1) (.sl h9 0 ll none),A5 201 (.row 28 none (b9 bw ba bk bn)) (w8 bk),nu 202 bk,A5 206 (.row 86 (some 4) C1) (.sl h9 0 ll none),va 208 (i6 z),A5 210 (.row 28 none (b9 bw ba bk bn)) (i6 bn),pl 211,so (.row 3 (some 1) l1) l2,toO Js] (let z0:=b9 bw ba bk bn;let z1:=Ae (Af (p*4+3) C1);let z3:=some (V.sl h9 0 ll none);[_,Ae (Af (0+0) z0)=some (w8 ↑bw),_,_,z1=z3,decide ((↑ll:Int)>(0:Int))=true,_,z1=z3,_,Ae (Af (0+2) z0)=some (w8 ↑bk),wr .i64 (↑bk:Int)=(↑bk:Int),_,z1=z3,_,_,Ae (Af (0+3) z0)=some (i6 bn),_,An [_,_]]) ⟨h0,gq,hw,hrow,(by(rw[show p*4+3=4*p+3 by omega];first|exact hcell|exact hlay)),aq,hrow,(by(rw[show p*4+3=4*p+3 by omega];first|exact hcell|exact hlay)),h0,gq,aq,hrow,(by(rw[show p*4+3=4*p+3 by omega];first|exact hcell|exact hlay)),m2,h0,gq,Ar hz,⟨o5,hly⟩⟩
theorem gE(hb:bw%11=9):Pd bw ba bk bn K rv n h p H m:=by
 obtain⟨hbw,hba,hbk,hB,h3,hlo,hRB,hND,hh1,hh2,hc,hp,hK,hkK,hnK,hlr,hls⟩:=id W
 have hw:((bw:Nat):Int).tmod 11=(9:Nat):=by rw[aS o_];omega
 have hrow:=hND.row
 have hcell:True:=trivial
 have hlay:True:=trivial
 have hlow: ∀i,i≠1->i<lo->gt (pt (pt (pt (pt (pt H (m+3) (.row 3 none [i6 0])) (m+4) (.row 86 none [i6 1,.nils,.nils,.sl (m+3) 0 1 (some 0)])) (h+3) .dead) (m+5) (.row 86 (some 4) (Aj (4*n) F++[i6 1,.nils,.nils,.sl (m+3) 0 1 (some 0)]))) 1 (Cu g rv (.sl (m+5) 0 (n+1) none))) i=gt H i:=λi i1 i2=>by rw[Ad,if_neg i1,Ad,if_neg o_,Ad,if_neg o_,Ad,if_neg o_,Ad,if_neg o_]
 have h9:=hND
 refine⟨g,rv,.sl (m+5) 0 (n+1) none,pt (pt (pt (pt (pt H (m+3) (.row 3 none [i6 0])) (m+4) (.row 86 none [i6 1,.nils,.nils,.sl (m+3) 0 1 (some 0)])) (h+3) .dead) (m+5) (.row 86 (some 4) (Aj (4*n) F++[i6 1,.nils,.nils,.sl (m+3) 0 1 (some 0)]))) 1 (Cu g rv (.sl (m+5) 0 (n+1) none)),m+6,⟨by rw[hlow 0 o_ o_];exact hB.h0,by rw[Ad,if_pos rfl],by rw[hlow 2 o_ o_];exact hB.h2⟩,⟨Ou k lr,Ev (n+1) (Jt F (4*n) (i6 1) .nils .nils (.sl (m+3) 0 1 (some 0))) (Jt ls (4*n) [] [] [] [0]),TD o_ o_ (λi hi=>by have:=hlr i hi;omega) (λi hi=>?_),λFz ρ hF=>⟨?_,?_⟩⟩,Pf W,.inr ⟨_,_,rfl⟩,o_,?_⟩
 .grind[Fu,Ft,Eu,Oh]
 .exact F8 (hRB.frame (aC _) λi a b=>hlow i o_ b) λi a b=>hF i a o_
 .refine XQ (lo:=lo) (nx:=m+6) (hd:=Jt hd (4*n) 0 0 0 (m+3)) (kd:=Jt (λ_=>true) (4*n) true true true false) (hR:=m+5) ⟨λe=>o_,λ_=>⟨rfl,o_,o_,?_⟩⟩ (λv hv=>?_) λi a b=>hF i o_ b
  .rw[show 4*(n+1)=4*n+4 by omega]
   refine NR.ext (n:=4*n) (hR:=h+3) (nx:=m+3) (kd:=λ_=>true) (λ_=>h9) o_ o_ (by grind[Ad,ah]) (λi hi=>⟨Oh hi,Oh hi,Oh hi,Oh hi,λhS hne=>?_⟩) (λi a b hS e=>?_) (λi a b hS e=>?_) (λi j a1 a2 a3 a4 s1 s2 n1 n2 e=>?_)
   .obtain⟨o1,o2,o3,o4,o5⟩:=h9.own i hi hS hne
    grind[Ad]
   .have hi4:i%4≠0:=of_decide_eq_true hS
    rcases(show i=4*n+1\/i=4*n+2\/i=4*n+3 by omega)with rfl|rfl|rfl
    all_goals grind[Fu,Ft,Eu]
   .have hi4:i%4≠0:=of_decide_eq_true hS
    rcases(show i=4*n+1\/i=4*n+2\/i=4*n+3 by omega)with rfl|rfl|rfl
    .grind[Fu]
    .grind[Ft]
    .rw[Eu,Eu,Eu,Eu]
     exact⟨rfl,o_,o_,o_,by rw[Ad,if_neg o_,Ad,if_neg o_,Ad,if_neg o_,Ad,if_neg o_,Ad,if_pos rfl];rfl⟩
   grind[Jt]
  .by_cases hvn:v=n
   .grind[Qf]
   .rw[Oh o_];exact hc v o_
 .obtain⟨h0,h1,h2⟩:=hB
  clear hND hRB hc hls hlr hlow h9
  have hcl:(Aj (4*n) F).length=n*4:=by rw[Wu];omega
  have hsrc:A6 (pt (pt H (m+3) (.row 3 none [i6 0])) (m+4) (.row 86 none [i6 1,.nils,.nils,.sl (m+3) 0 1 (some 0)])) 4 (.sl (m+4) 0 1 (some 0))=some (1,[i6 1,.nils,.nils,.sl (m+3) 0 1 (some 0)]):=by unfold A6;dsimp only;rw[Bh,T.get_put,if_pos rfl];rfl
  generalize Aj (4*n) F=C1 at*
  exact Bu [A5 95 (.row 28 none (b9 bw ba bk bn)) (w8 bw),nu 96 (9:Nat),(234,.aop (.row 86 (some 4) C1) 1 [i6 1,.nils,.nils,.sl (m+3) 0 1 (some 0)]),so (Cu g rv (.sl (h+3) 0 n none)) [i6 g,rv,.sl (m+5) 0 (n+1) none],toO Js] (let z1:=[i6 1,V.nils,V.nils,V.sl (m+3) 0 1 (some 0)];let z4:=V.sl (h+3) 0 n none;let z0:=pt (pt H (m+3) (O.row 3 none [i6 0])) (m+3+1) (O.row 86 none z1);[_,Ae (Af (0+0) (b9 bw ba bk bn))=some (w8 ↑bw),_,_,An [gt z0 (h+3)=some (O.row 86 (some 4) C1),_,1<=1,n+1<=9223372036854775807,(n+1)*80<=140737488355328,Bl z1=true],An [gt (pt (pt z0 (h+3) O.dead) (m+3+1+1) (O.row 86 (some 4) (C1++z1))) 1=some (Cu g rv z4),Bg (0+2) [i6 g,rv,z4] [V.sl (m+3+1+1) 0 (n+1) none]=some [i6 g,rv,V.sl (m+5) 0 (n+1) none]]]) ⟨h0,gq,hw,hsrc,⟨gq,hcl,aq,aq,aq,gq⟩,⟨gq,gq⟩⟩
theorem NX(hb:bw%11=10):Pd bw ba bk bn K rv n h p H m:=by
 obtain⟨hbw,hba,hbk,hB,h3,hlo,hRB,hND,hh1,hh2,hc,hp,hK,hkK,hnK,hlr,hls⟩:=id W
 have hw:((bw:Nat):Int).tmod 11=(10:Nat):=by rw[aS o_];omega
 obtain⟨q,rfl⟩: ∃q,n=q+1:=⟨n-1,o_⟩
 have hcell:True:=trivial
 have hlay:True:=trivial
 have key: ∀nv',iL nv'->(∀(Fz:Nat->Prop)(ρ:Nat->Option Nat)(H':T O),(∀i,i≠1->gt H' i=gt H i)->(∀i,3<=i->i<m+3->Fz i)->Bo H'.get Fz ρ (.im (Ev q F ls).length (Ak (Ev q F ls))) nv')->Ce (B1 Pg) 32 (.sl (h+3) 0 (q+1) none) none (some (q:Nat)) none=some nv'->Pd bw ba bk bn K rv (q+1) h p H m:=by
  intro nv' hsh hv hsl
  have hold: ∀i,i≠1->gt (pt H 1 (Cu g rv nv')) i=gt H i:=λi hi=>by grind[Ad]
  refine⟨g,rv,nv',pt H 1 (Cu g rv nv'),m+3,⟨by rw[hold 0 o_];exact hB.h0,by grind[Ad],by rw[hold 2 o_];exact hB.h2⟩,⟨Ou k lr,Ev q F ls,TD o_ o_ (λi hi=>by grind) (λi hi=>by grind),λFz ρ hF=>⟨F8 (hRB.frame (aC _) λi a b=>hold i o_) λi a b=>hF i a o_,hv Fz ρ _ hold hF⟩⟩,Pf W,hsh,o_,?_⟩
  obtain⟨h0,h1,h2⟩:=hB
  clear hND hRB hc hls hlr hold hv
  rcases hsh with rfl|⟨h9,q9,rfl⟩
  .exact Bu [A5 95 (.row 28 none (b9 bw ba bk bn)) (w8 bw),nu 96 (10:Nat),nu 100 q,va 101 (.im 0 Eb),so (Cu g rv (.sl (h+3) 0 (q+1) none)) [i6 g,rv,.im 0 Eb],toO Js] (let z1:=V.im 0 Eb;[_,Ae (Af (0+0) (b9 bw ba bk bn))=some (w8 ↑bw),_,wr .i64 ((↑(q+1):Int)-(1:Int))=(↑q:Int),_,An [_,Bg (0+2) [i6 g,rv,(V.sl (h+3) 0 (q+1) none)] [z1]=some [i6 g,rv,z1]]]) ⟨h0,gq,hw,aq,hsl,⟨h1,gq⟩⟩
  .exact Bu [A5 95 (.row 28 none (b9 bw ba bk bn)) (w8 bw),nu 96 (10:Nat),nu 100 q,va 101 (.sl h9 0 q9 none),so (Cu g rv (.sl (h+3) 0 (q+1) none)) [i6 g,rv,.sl h9 0 q9 none],toO Js] (let z1:=V.sl h9 0 q9 none;[_,Ae (Af (0+0) (b9 bw ba bk bn))=some (w8 ↑bw),_,wr .i64 ((↑(q+1):Int)-(1:Int))=(↑q:Int),_,An [_,Bg (0+2) [i6 g,rv,(V.sl (h+3) 0 (q+1) none)] [z1]=some [i6 g,rv,z1]]]) ⟨h0,gq,hw,aq,hsl,⟨h1,gq⟩⟩
 cases q with
 |zero=>exact key (.im 0 Eb) (.inl rfl) (λFz ρ H' _ _=>.inl rfl) k_
 | succ q =>
  refine key (.sl (h+3) 0 (q+1) none) (.inr ⟨_,_,rfl⟩) (λFz ρ H' ho hF=>?_) ?_
  .exact Yi (nx:=m+3) hh1 hh2 (hND.frame (aC _) (ho _ o_) λi a b c=>ho _ (by have:=(hND.own i a b c).2.1;omega)) hc λi a b=>hF i o_ b
  .have e:Ce (B1 Pg) 32 (.sl (h+3) 0 (q+1+1) none) none (some ((q+1:Nat):Int)) none=(if 0<=(0:Int)/\0<=((q+1:Nat):Int)/\((q+1:Nat):Int)<=((q+1+1:Nat):Int)+((0:Nat):Int)/\((q+1+1:Nat):Int)+((0:Nat):Int)<=((q+1+1:Nat):Int)+((0:Nat):Int)/\(false=true ->true=true)then(if(0:Int)=((q+1:Nat):Int)then some (.im 0 [])else if(0:Int)=0\/4≠0 then some (.sl (h+3) (0+(0:Int).toNat*4) (((q+1:Nat):Int).toNat-(0:Int).toNat) none)else none)else none):=k_
   grind
end
mutual
theorem Bo.mono{H:Nat->Option O}(hF: ∀g,F g->F' g/\H' g=H g): ∀{ρ:Nat->Option Nat}(x y:V),Bo H F ρ x y->Bo H' F' ρ x y
 | _,.bool _,_,h| _,.int _ _,_,h| _,.str _,_,h| _,.nilp,_,h| _,.nilf,_,h| _,.nili,_,h| _,.nils,_,h| _,.nilm,_,h=>h
 | _,.ptr _ _,_,h| _,.sl _ _ _ _,_,h| _,.mp _,_,h| _,.yld _,_,h=>h
 | _,.im n l,y,h=>by
  rcases h with h|h|⟨g,off,room,t,sp,c,e,h1,h2,h3⟩
  .exact .inl h
  .exact .inr (.inl h)
  .exact .inr (.inr ⟨g,off,room,t,sp,c,e,(hF g h1).1,by simp_all,Bq.mono hF l _ h3⟩)
 | _,.imp l,y,h=>by
  rcases h with h|⟨g,off,t,sp,c,e,h1,h2,h3⟩
  .exact .inl h
  .exact .inr ⟨g,off,t,sp,c,e,(hF g h1).1,by simp_all,Bq.mono hF l _ h3⟩
 | _,.fn f l,_,⟨l',e,h⟩=>⟨l',e,A8.mono hF l l' h⟩
 | _,.mfn f l,_,⟨l',e,h⟩=>⟨l',e,A8.mono hF l l' h⟩
 | _,.agg l,_,⟨l',e,h⟩=>⟨l',e,A8.mono hF l l' h⟩
 | _,.tup l,_,⟨l',e,h⟩=>⟨l',e,A8.mono hF l l' h⟩
 | _,.ifc t x,_,⟨x',e,h⟩=>⟨x',e,Bo.mono hF x x' h⟩
theorem A8.mono{H:Nat->Option O}(hF: ∀g,F g->F' g/\H' g=H g): ∀{ρ:Nat->Option Nat}(l m:List V),A8 H F ρ l m->A8 H' F' ρ l m
 | _,[],_,h=>h
 | _,x::xs,_,⟨y,ys,e,h1,h2⟩=>⟨y,ys,e,Bo.mono hF x y h1,A8.mono hF xs ys h2⟩
theorem Bq.mono{H:Nat->Option O}(hF: ∀g,F g->F' g/\H' g=H g): ∀(l m:List V),Bq H F l m->Bq H' F' l m
 |[],_,_=>trivial
 |x::xs,_,⟨y,ys,e,h1,h2⟩=>⟨y,ys,e,Bo.mono hF x y h1,Bq.mono hF xs ys h2⟩
end
theorem Zd{lg:List Nat}{k s hq:Nat}(hs:s<300/\s≠0)(hn:hq<nx){l:List V}(h1:gt H hq=some (.row t none l)){l':List V}(hv:A8 H.get (Fr 0 [hq] lg) (G5 0 [hq]) l' l):Gc 0 [hq] (Be g0 k [(s,.ptr hq 0)] H nx lg) (Al g0 k {sl:=[(s,.ptr 0 0)],os:=[.row t none l']}):=by
 rw[Cm]at h1
 refine⟨rfl,λg hg=>?_,by simp,rfl,rfl,λi x hx=>?_,λh o ho hlive=>?_,λh _ hlt=>absurd hlt (aJ _)⟩
 .refine⟨aG _,?_⟩
  show g<nx
  simp_all
 .have c4:gt (Hl (B0 k) [(s,V.ptr hq 0)]) s=some (.ptr hq 0):=by
   show gt (pt (B0 k) s (V.ptr hq 0)) s=_
   rw[Cm,Bh,T.get_put,if_pos rfl]
  rw[Cm]at c4
  rcases E2 _ _ _ _ hx with hmem|hmem
  .simp only[aK,bE,or_false]at hmem
   cases hmem
   exact⟨_,c4,hq,rfl,rfl⟩
  grind[EJ]
 .rcases Ej _ _ _ _ _ ho with⟨_,hm⟩|hm
  .rw[cO]at hm
   rcases h with _|h
   .cases hm
    exact⟨hq,_,rfl,h1,_,rfl,hv⟩
   .simp at hm
  .simp at hm
theorem dz{f:Nat}{x y v:V}{k:Nat}{c:Code}{e:Ex}{sl:List (Nat×V)}(he:e= .normal\/e= .ret)(h:To k c [(0,x),(1,y)] .e 0 e sl H nx){r:List Nat}{S:SL}(hk:Nat.ble 2 k=true)(hv:Jo v=true)(hg: ∀lg,Gc 0 r (Be g0 k sl H nx lg) (Al g0 k S))(hr:LF k c S v (vE.code f)):Ag Pg g0 f [x,y] v:=by
 unfold LF at hr
 split at hr
 .rename_i fi hfi
  obtain⟨h1,h2,h3,h4⟩:=hr
  subst h1 h2
  have hret:Db vE.G (Al g0 fi.ntmps S).tm (Al g0 fi.ntmps S).H fi.res=some v:=by
   unfold Gr at h4
   split at h4
   .simp_all
   .exact h4.elim
  refine Ag.of_sat hfi hk hv (Au.gc_post ?_)
  have h0:=h 0 []
  have e0:Cf (B0 fi.ntmps) 0 [x,y]=Hl (B0 fi.ntmps) [(0,x),(1,y)]:=by rw[<-EC];rfl
  rw[e0]
  refine Au.mono h0 ?_
  grind
 .exact hr.elim
section
variable {bc:List V} {g:Int} {r0 n0:V} {H:T O} {nx:Nat}
theorem kM{nR:Nat}{RR:List V}{nN:Nat}{NN:List V}(hR:Ba RR)(hN:Ba NN):To 237 (aT 7 10) [(0,.agg (b9 bw ba bk bn)),(1,.agg [i6 g,.im nR RR,.im nN NN])] .e 0 .normal [(2,.ptr 0 0),(3,.ptr 1 0),(4,.ptr 2 0)] (Ai .e 0 [.row 28 none (b9 bw ba bk bn),Cu g (.im nR RR) (.im nN NN),Cu 0 .nils .nils]) 3:=by
 exact Bu [toO [(2,.ptr 0 0),(3,.ptr 1 0),(4,.ptr 2 0)]] [] trivial
theorem kL:To 237 (aT 7 110) [(2,.ptr 0 0),(3,.ptr 1 0),(4,.ptr 2 0)] H nx .normal (Xf .nils) H nx:=by
 exact Bu [toO (Xf .nils)] [] trivial
theorem kK{rv:V}:To 237 (aT 7 11110) (Xf rv) H nx .normal (Jn rv .nils) H nx:=by
 exact Bu [toO (Jn rv .nils)] [] trivial
theorem kJ{rv:V}(h1:gt H 1=some (Cu g r0 n0))(hrv:BX rv):To 237 (aT 7 1111110) (Jn rv nv) H nx .normal (Jn rv nv) (pt H 1 (Cu g rv n0)) nx:=by
 rcases hrv with rfl|⟨h,q,rfl⟩
 .exact Bu [so (Cu g r0 n0) [i6 g,.nils,n0],toO (Jn .nils nv)] [An [_,Bg 1 [i6 g,r0,n0] [V.nils]=some [i6 g,V.nils,n0]]] ⟨h1,gq⟩
 .exact Bu [so (Cu g r0 n0) [i6 g,.sl h 0 q none,n0],toO (Jn (.sl h 0 q none) nv)] (let z0:=V.sl h 0 q none;[An [_,Bg 1 [i6 g,r0,n0] [z0]=some [i6 g,z0,n0]]]) ⟨h1,gq⟩
theorem kI{rv:V}(h1:gt H 1=some (Cu g r0 n0))(hnv:BX nv):To 237 (aT 7 11111110) (Jn rv nv) H nx .normal (Jn rv nv) (pt H 1 (Cu g r0 nv)) nx:=by
 rcases hnv with rfl|⟨h,q,rfl⟩
 .exact Bu [so (Cu g r0 n0) [i6 g,r0,.nils],toO (Jn rv .nils)] [An [_,Bg (0+2) [i6 g,r0,n0] [V.nils]=some [i6 g,r0,V.nils]]] ⟨h1,gq⟩
 .exact Bu [so (Cu g r0 n0) [i6 g,r0,.sl h 0 q none],toO (Jn rv (.sl h 0 q none))] (let z0:=V.sl h 0 q none;[An [_,Bg (0+2) [i6 g,r0,n0] [z0]=some [i6 g,r0,z0]]]) ⟨h1,gq⟩
theorem kH{rv:V}(h1:gt H 1=some (Cu g rv .nils))(h2:gt H 2=some (Cu 0 .nils .nils))(hrv:BX rv):To 237 (aT 7 111111110) (Jn rv .nils) H nx .ret [(4,.ptr 2 0)] (pt H 2 (Cu g rv .nils)) nx:=by
 rcases hrv with rfl|⟨h,q,rfl⟩
 .exact Bu [A5 85 (Cu g .nils .nils) (.agg [i6 g,.nils,.nils]),so (Cu 0 .nils .nils) [i6 g,.nils,.nils],toO [(4,.ptr 2 0)]] (let z0:=[i6 g,V.nils,V.nils];[_,Dj 3 z0=some z0,An [_,Bg 0 [i6 0,V.nils,V.nils] z0=some z0]]) ⟨h1,gq,⟨h2,gq⟩⟩
 .exact Bu [A5 85 (Cu g (.sl h 0 q none) .nils) (.agg [i6 g,.sl h 0 q none,.nils]),so (Cu 0 .nils .nils) [i6 g,.sl h 0 q none,.nils],toO [(4,.ptr 2 0)]] (let z0:=[i6 g,V.sl h 0 q none,V.nils];[_,Dj 3 z0=some z0,An [_,Bg 0 [i6 0,V.nils,V.nils] z0=some z0]]) ⟨h1,gq,⟨h2,gq⟩⟩
theorem RD{rv:V}(hq:q≠0):To 237 (aT 7 111111110) (Jn rv (.sl h 0 q none)) H nx .normal (Jn rv (.sl h 0 q none)) H nx:=by
 exact Bu [no 84,toO (Jn rv (.sl h 0 q none))] [((↑q:Int)==(0:Int))=false] aq
theorem kG{rv:V}(hba:ba<256)(hq:q≠0)(hq6:q<=1000000)(h0:gt H 0=some (.row 28 none (b9 bw ba bk bn))):To 237 (aT 7 1111111110) (Jn rv (.sl h 0 q none)) H nx .normal (UQ rv (.sl h 0 q none) h (ba%q)) H nx:=by
 have m1:=Og (G:=B1 Pg) (t:=3) (a:=ba) (b:=q) hq
 have hlt:ba%q<q:=aY _ o_
 generalize ba%q=p at*
 refine To.of_vc (n:=100) (hs:=[A5 88 (.row 28 none (b9 bw ba bk bn)) (w8 ba),nu 89 ba,va 92 (i6 p),pl 93,toO (UQ rv (.sl h 0 q none) h p)]) λnx0 lg G hG=>?_
 exact m_ (p:=let z0:=V.sl h 0 q none;An [_,Ae (Af 1 (b9 bw ba bk bn))=some (w8 ↑ba),wr .i64 (↑ba:Int)=(↑ba:Int),_,_,G Ex.normal (UQ rv z0 h p) H nx lg,Sm (V.ptr 0 0),Sm (V.ptr 1 0),Sm (V.ptr 2 0),rv=rv,z0=z0,V.ptr h (0+p*4)=V.ptr h (p*4),_]) ⟨h0,gq,aq,m1,Ar hlt,aq,aq,aq,aq,aq,aq,aq,tq⟩
theorem kF{rv:V}(h1:gt H 1=some (Cu g rv nv))(h2:gt H 2=some (Cu 0 .nils .nils))(hrv:BX rv)(hnv:iL nv):To 237 (aT 7 11111111111) Js H nx .ret [(4,.ptr 2 0)] (pt H 2 (Cu g rv nv)) nx:=by
 rcases hrv with rfl|⟨h,q,rfl⟩<;>rcases hnv with rfl|⟨h',q',rfl⟩
 .exact Bu [A5 236 (Cu g .nils (.im 0 Eb)) (.agg [i6 g,.nils,.im 0 Eb]),so (Cu 0 .nils .nils) [i6 g,.nils,.im 0 Eb],toO [(4,.ptr 2 0)]] (let z0:=[i6 g,V.nils,V.im 0 Eb];[_,Dj 3 z0=some z0,An [_,Bg 0 [i6 0,V.nils,V.nils] z0=some z0]]) ⟨h1,gq,⟨h2,gq⟩⟩
 .exact Bu [A5 236 (Cu g .nils (.sl h' 0 q' none)) (.agg [i6 g,.nils,.sl h' 0 q' none]),so (Cu 0 .nils .nils) [i6 g,.nils,.sl h' 0 q' none],toO [(4,.ptr 2 0)]] (let z0:=[i6 g,V.nils,V.sl h' 0 q' none];[_,Dj 3 z0=some z0,An [_,Bg 0 [i6 0,V.nils,V.nils] z0=some z0]]) ⟨h1,gq,⟨h2,gq⟩⟩
 .exact Bu [A5 236 (Cu g (.sl h 0 q none) (.im 0 Eb)) (.agg [i6 g,.sl h 0 q none,.im 0 Eb]),so (Cu 0 .nils .nils) [i6 g,.sl h 0 q none,.im 0 Eb],toO [(4,.ptr 2 0)]] (let z0:=[i6 g,V.sl h 0 q none,V.im 0 Eb];[_,Dj 3 z0=some z0,An [_,Bg 0 [i6 0,V.nils,V.nils] z0=some z0]]) ⟨h1,gq,⟨h2,gq⟩⟩
 .exact Bu [A5 236 (Cu g (.sl h 0 q none) (.sl h' 0 q' none)) (.agg [i6 g,.sl h 0 q none,.sl h' 0 q' none]),so (Cu 0 .nils .nils) [i6 g,.sl h 0 q none,.sl h' 0 q' none],toO [(4,.ptr 2 0)]] (let z0:=[i6 g,V.sl h 0 q none,V.sl h' 0 q' none];[_,Dj 3 z0=some z0,An [_,Bg 0 [i6 0,V.nils,V.nils] z0=some z0]]) ⟨h1,gq,⟨h2,gq⟩⟩
end
theorem Gz.ok(h:K<=1000000){R:List (List Int)}{N:List Mc}(hl:Gz K R N):B8 R N:=⟨λL hL=>aP (hl.2.2.1 L hL) h,λx hx=>by have:=hl.2.2.2 x hx;omega⟩
theorem U9{g g':Int}{R:List (List Int)}{N:List Mc}{rv:V}(hn:3<=nx)(hM:BC K H nx rv nv)(h:To 237 (Iq 7 []) [(0,.agg (b9 bw ba bk bn)),(1,Bd g R N)] .e 0 .ret [(4,.ptr 2 0)] (pt H 2 (Cu g' rv nv)) nx): ∃R' N',Gz K R' N'/\Ag Pg g0 7 [.agg (b9 bw ba bk bn),Bd g R N] (Bd g' R' N'):=by
 obtain⟨R',N',hl,hv⟩:=hM
 refine⟨R',N',hl,?_⟩
 refine dz (.inr rfl) h (r:=[2]) (S:={sl:=[(4,.ptr 0 0)],os:=[.row 34 none [i6 g',.im R'.length (Ah R'),.im N'.length (Ak N')]]}) d_ rfl (λlg=>Zd d_ o_ (by rw[Ad,if_pos rfl]) ?_) ?_
 .obtain⟨v1,v2⟩:=hv (λi=>3<=i/\i<nx) (G5 0 [2]) λi a b=>⟨a,b⟩
  have hF: ∀i,(3<=i/\i<nx)->Fr 0 [2] lg i/\(pt H 2 (Cu g' rv nv)).get i=H.get i:=λi hi=>⟨⟨aG _,by simp;omega,λ_ _=>aG _⟩,by rw[<-Cm,<-Cm,Ad,if_neg o_]⟩
  exact⟨_,_,rfl,rfl,_,_,rfl,Bo.mono hF _ _ v1,_,_,rfl,Bo.mono hF _ _ v2,rfl⟩
 .show LF 237 (Iq 7 []) _ (.agg [i6 g',.im R'.length (Ah R'),.im N'.length (Ak N')]) _
  generalize Ah R'=RR,Ak N'=NC at*
  refine Eq.mp (by kernel_rfl:(237=237/\(Iq 7 [])=(Iq 7 [])/\true=true/\V.agg [i6 g',.im R'.length RR,.im N'.length NC]= .agg [i6 g',.im R'.length RR,.im N'.length NC])=_) ⟨rfl,rfl,rfl,rfl⟩
theorem uT(hbw:bw<256)(hba:ba<256)(hbk:bk<256)(g:Int)(R:List (List Int))(N:List Mc)(hK:K<=900000)(hl:Gz K R N): ∃g' R' N',Gz (K+1) R' N'/\Ag Pg g0 7 [.agg (b9 bw ba bk bn),Bd g R N] (Bd g' R' N'):=by
 obtain⟨l1,l2,l3,l4⟩:=hl
 have t0:=kM (bw:=bw) (ba:=ba) (bk:=bk) (bn:=bn) (g:=g) (nR:=R.length) (nN:=N.length) (B7 R) (Cl N)
 have t1:=kL (H:=Ai .e 0 [.row 28 none (b9 bw ba bk bn),Cu g (.im R.length (Ah R)) (.im N.length (Ak N)),Cu 0 .nils .nils]) (nx:=3)
 obtain⟨rv,H1,m1,Fr_,lr,hdr,hr,hB1,hRB,hlr,t2⟩:=Xu (bc:=b9 bw ba bk bn) (g:=g) (R:=R) (n0:=.im N.length (Ak N)) (H:=Ai .e 0 [.row 28 none (b9 bw ba bk bn),Cu g (.im R.length (Ah R)) (.im N.length (Ak N)),Cu 0 .nils .nils]) ⟨k_,k_,k_⟩ (λL hL=>by have:=l3 L hL;omega) o_
 have t3:=kK (H:=H1) (nx:=m1+3) (rv:=rv)
 obtain⟨nv,H2,m2,F,ls,hd,hN,hB2,hm,hold,hND,hls,t4⟩:=Yh (rv:=rv) hB1 (λx hx=>by grind) o_
 have hRB2:RB H2 3 (m1+3) rv R.length Fr_ lr hdr (λ_=>true) hr:=hRB.frame (aC _) λi a b=>hold i b
 have hrs:BX rv:=by
  by_cases hk:R.length=0
  .exact .inl (hRB.nil hk)
  .exact .inr ⟨_,_,(hRB.own hk).1⟩
 have hns:BX nv:=by
  by_cases hk:N.length=0
  .exact .inl (hND.nil hk)
  .exact .inr ⟨_,_,(hND.own hk).1⟩
 have t5:=kJ (nx:=m2+3) (nv:=nv) hB2.h1 hrs
 have t6:=kI (H:=pt H2 1 (Cu g rv (.im N.length (Ak N)))) (nx:=m2+3) (rv:=rv) (nv:=nv) (by rw[Ad,if_pos rfl]) hns
 rw[Wn]at t6
 have pre: ∀e sl H' nx',To 237 (aT 7 11111111) (Jn rv nv) (pt H2 1 (Cu g rv nv)) (m2+3) e sl H' nx'->To 237 (Iq 7 []) [(0,.agg (b9 bw ba bk bn)),(1,Bd g R N)] .e 0 e sl H' nx':=λe sl H' nx' h=>
  To.seq (b:=(aT 7 11)) k_ t0 (To.seq (b:=(aT 7 111)) k_ t1 (To.seq (b:=(aT 7 1111)) k_ t2 (To.seq (b:=(aT 7 11111)) k_ t3 (To.seq (b:=(aT 7 111111)) k_ t4 (To.seq (b:=(aT 7 1111111)) k_ t5 (To.seq (b:=(aT 7 11111111)) k_ t6 h))))))
 have h3o: ∀i,i≠1->gt (pt H2 1 (Cu g rv nv)) i=gt H2 i:=λi hi=>by grind[Ad]
 have hB3:BB (b9 bw ba bk bn) g rv nv (pt H2 1 (Cu g rv nv)):=⟨by rw[h3o 0 o_];exact hB2.h0,by grind[Ad],by rw[h3o 2 o_];exact hB2.h2⟩
 have hRB3:RB (pt H2 1 (Cu g rv nv)) 3 (m1+3) rv R.length Fr_ lr hdr (λ_=>true) hr:=hRB2.frame (aC _) λi a b=>h3o i o_
 have hND3:ND (pt H2 1 (Cu g rv nv)) (m1+3) (m2+3) nv N.length F ls hd (λ_=>true) hN:=hND.frame (aC _) λi a b=>h3o i o_
 have hlr2: ∀i,i<R.length->(lr i).length<=K:=λi hi=>by
  simp_all
 have hmem: ∀i,i<N.length->N.getD i Ao∈N:=λi hi=>by simp_all
 have hls2: ∀i,i<N.length->(ls (4*i+1)).length<=K/\(ls (4*i+2)).length<=K/\(ls (4*i+3)).length<=K:=λi hi=>by
  obtain⟨_,a,b,c⟩:=hls i hi
  simp_all
 have hc: ∀v,v<N.length->∃c:Int,F (4*v)=i6 c:=λv hv=>⟨_,(hls v hv).1⟩
 clear t0 t1 t2 t3 t4 t5 t6
 by_cases h0:N.length=0
 .have e:=hND3.nil h0
  subst e
  have hMd:BC (K+1) (pt H2 1 (Cu g rv .nils)) (m2+3) rv .nils:=⟨Ou R.length lr,[],⟨by rw[nC];omega,aG _,λL hL=>by
   obtain⟨i,hi,rfl⟩:=cC.1 hL
   grind,λx hx=>by cases hx⟩,λFz ρ hF=>⟨F8 hRB3 λi a b=>hF i a o_,.inr (.inl ⟨rfl,rfl⟩)⟩⟩
  obtain⟨R',N',q1,q2⟩:=U9 o_ hMd (pre _ _ _ _ (To.seqX (a:=(aT 7 111111110)) (b:=(aT 7 111111111)) k_ (λh=>by cases h) (kH hB3.h1 hB3.h2 hrs)))
  grind
 .obtain⟨e,k1,k2,k3⟩:=hND3.own h0
  subst e
  obtain⟨h,rfl⟩: ∃h,hN=h+3:=⟨hN-3,o_⟩
  have hp:ba%N.length<N.length:=aY _ o_
  have sw:Pd bw ba bk bn K rv N.length h (ba%N.length) (pt H2 1 (Cu g rv (.sl (h+3) 0 N.length none))) m2:=by
   have W:=kQ.mk hbw hba hbk hB3 o_ o_ hRB3 k3 k1 k2 hc hp hK l1 l2 hlr2 hls2
   have:bw%11<11:=aY _ d_
   rcases hb:bw%11 with _| _| _| _| _| _| _| _| _| _| _| _
   .exact gN W hb
   .exact gM W hb
   .exact gL W hb
   .exact gK W hb
   .exact gJ W hb
   .exact gI W hb
   .exact gH W hb
   .exact gG W hb
   .exact gF W hb
   .exact gE W hb
   .exact NX W hb
   .omega
  obtain⟨g',rv',nv',H',nx',s⟩:=sw
  obtain⟨R',N',q1,q2⟩:=U9 s.le s.md (pre _ _ _ _ (To.seq (a:=(aT 7 111111110)) (b:=(aT 7 111111111)) k_ (RD h0) (To.seq (a:=(aT 7 1111111110)) (b:=(aT 7 1111111111)) k_ (kG hba h0 o_ hB3.h0) (To.seq (b:=(aT 7 11111111111)) k_ s.to (kF s.bb.h1 s.bb.h2 s.rs s.ns)))))
  grind
open Go.RowKit Go.ChangeShapes Go.WideShapes
section
variable {H:Type} {enc:TypeId×Value->H} {w:World}
theorem tE: ∀a b:List Pc,Ea (a++b)=Ea a++Ea b
 |[],b=>rfl
 |x::a,b=>by show Oz x++Ea (a++b)=(Oz x++Ea a)++Ea b;rw[tE a b,cE]
theorem Se: ∀(g:Nat->Pc)(n:Nat),Pb (λi=>Oz (g i)) n=Ea ((List.range n).map g)
 |g,0=>rfl
 |g,n+1=>by
  rw[JP,Se g n,eG,bP,tE]
  show _=_++(Oz (g n)++[])
  rw[aV]
theorem W9{fuel:Nat}{cs:List Value}{x:DataW H×List MemPlace}(h:DataW.trod enc Pg w 0 (λ_=>true) true fuel 88 cs=some x): ∃q:Pc,RL (sg (Gw w)) w (Oz q) cs/\Fo q/\q.z=false:=by
 obtain⟨xs,n,_,_,hl,hlen,hfd⟩:=DataW.trod_struct Tryz.underlying88 h
 have hc:Pg.cellsOf 88=4:=k_
 rw[hc]at hl
 obtain⟨c0,c1,c2,c3,rfl⟩: ∃c0 c1 c2 c3,cs=[c0,c1,c2,c3]:=by
  match cs,hl with
  |[c0,c1,c2,c3],_=>exact⟨c0,c1,c2,c3,rfl⟩
 have hlen':xs.length=4:=hlen
 obtain⟨y0,y1,y2,y3,rfl⟩: ∃y0 y1 y2 y3,xs=[y0,y1,y2,y3]:=by
  match xs,hlen' with
  |[y0,y1,y2,y3],_=>exact⟨y0,y1,y2,y3,rfl⟩
 have h1:Pg.cellsOf 24=1:=k_
 have h2:Pg.cellsOf 5=1:=k_
 have f0:DataW.trod enc Pg w 0 (λ_=>true) true n 5 (List.take (Pg.cellsOf 5) (List.drop 0 [c0,c1,c2,c3]))=some y0:=hfd 0 _ rfl
 have f1:DataW.trod enc Pg w 0 (λ_=>true) true n 5 (List.take (Pg.cellsOf 5) (List.drop 1 [c0,c1,c2,c3]))=some y1:=hfd 1 _ rfl
 have f2:DataW.trod enc Pg w 0 (λ_=>true) true n 5 (List.take (Pg.cellsOf 5) (List.drop 2 [c0,c1,c2,c3]))=some y2:=hfd 2 _ rfl
 have f3:DataW.trod enc Pg w 0 (λ_=>true) true n 24 (List.take (Pg.cellsOf 24) (List.drop 3 [c0,c1,c2,c3]))=some y3:=hfd 3 _ rfl
 rw[h2]at f0 f1 f2
 rw[h1]at f3
 obtain⟨k0,e0,w0⟩:=Vy Tryz.underlying5 (x:=y0) f0
 obtain⟨k1,e1,w1⟩:=Vy Tryz.underlying5 (x:=y1) f1
 obtain⟨k2,e2,w2⟩:=Vy Tryz.underlying5 (x:=y2) f2
 obtain⟨v3,L,e3,r3,w3,l3⟩:=mC f3
 simp at e0 e1 e2 e3
 obtain⟨a,rfl,ha⟩:=Kg w0
 obtain⟨b,rfl,hb⟩:=Kg w1
 obtain⟨c,rfl,hcc⟩:=Kg w2
 subst e0 e1 e2 e3
 exact⟨⟨a,b,c,L,false⟩,⟨_,_,rfl,rfl,_,_,rfl,rfl,_,_,rfl,rfl,_,_,rfl,r3,rfl⟩,⟨ha,hb,hcc,w3,l3,λh=>(by cases h)⟩,rfl⟩
theorem Qi{fuel:Nat}{cs:List Value}{x:DataW H×List MemPlace}(h:DataW.trod enc Pg w 0 (λ_=>true) true fuel 22 cs=some x): ∃(v:Value)(P:List Pc),cs=[v]/\RV (sg (Gw w)) w (.im P.length (Ea P)) v/\∀x∈P,Fo x/\x.z=false:=by
 obtain⟨v,f,n,rfl,h1,h2,h3⟩:=pY (s:=4) o_ Tryz.underlying22 k_ (λl=>∃q:Pc,l=Oz q/\Fo q/\q.z=false) (λfuel cs x hx=>by
  obtain⟨q,r,h⟩:=W9 hx
  exact⟨Oz q,rfl,r,q,rfl,h⟩) h
 have: ∀i:Nat,∃q:Pc,i<n->f i=Oz q/\Fo q/\q.z=false:=λi=>by
  by_cases hi:i<n
  .obtain⟨q,hq⟩:=(h2 i hi).2
   exact⟨q,λ_=>hq⟩
  .exact⟨⟨0,0,0,[],false⟩,λh=>absurd h hi⟩
 obtain⟨g,hg⟩:=eM this
 refine⟨v,(List.range n).map g,rfl,?_,λx hx=>?_⟩
 .rw[<-Se,<-pH (f:=f) (λi hi=>(hg i hi).1)]
  simpa using h1
 .obtain⟨i,hi,rfl⟩:=cC.1 hx
  exact(hg i (bB.1 hi)).2
theorem xL{v:Value}{d:DataW H}{p:List MemPlace}(hv: ∃cs,v= .agg cs/\cs.size=Pg.cellsOf 26)(h:DataW.Trod enc Pg w 0 (λ_=>true) true 26 v d p):
  ∃(gr:Nat)(NN:List Pc)(SS:List (Nat×Nat))(W Q:List Nat),RV (sg (Gw w)) w (.agg (Ia gr NN SS W Q)) v/\J5 gr NN SS W Q:=by
 obtain⟨arr,rfl,hsz⟩:=hv
 obtain⟨fuel,hf⟩:=h
 obtain⟨xs,n,_,_,hl,hlen,hfd⟩:=DataW.trod_struct Tryz.underlying26 hf
 have hc:Pg.cellsOf 26=5:=k_
 rw[hc]at hl
 have hcells:(Value.agg arr).cells.toList=arr.toList:=rfl
 rw[hcells]at hl hfd
 obtain⟨c0,c1,c2,c3,c4,harr⟩: ∃c0 c1 c2 c3 c4,arr.toList=[c0,c1,c2,c3,c4]:=by
  match arr.toList,hl with
  |[c0,c1,c2,c3,c4],_=>exact⟨c0,c1,c2,c3,c4,rfl⟩
 have hlen':xs.length=5:=hlen
 obtain⟨y0,y1,y2,y3,y4,rfl⟩: ∃y0 y1 y2 y3 y4,xs=[y0,y1,y2,y3,y4]:=by
  match xs,hlen' with
  |[y0,y1,y2,y3,y4],_=>exact⟨y0,y1,y2,y3,y4,rfl⟩
 have h1:Pg.cellsOf 24=1:=k_
 have h2:Pg.cellsOf 5=1:=k_
 have h3:Pg.cellsOf 23=1:=k_
 have h4:Pg.cellsOf 22=1:=k_
 have f0:DataW.trod enc Pg w 0 (λ_=>true) true n 5 (List.take (Pg.cellsOf 5) (List.drop 0 arr.toList))=some y0:=hfd 0 _ rfl
 have f1:DataW.trod enc Pg w 0 (λ_=>true) true n 22 (List.take (Pg.cellsOf 22) (List.drop 1 arr.toList))=some y1:=hfd 1 _ rfl
 have f2:DataW.trod enc Pg w 0 (λ_=>true) true n 23 (List.take (Pg.cellsOf 23) (List.drop 2 arr.toList))=some y2:=hfd 2 _ rfl
 have f3:DataW.trod enc Pg w 0 (λ_=>true) true n 24 (List.take (Pg.cellsOf 24) (List.drop 3 arr.toList))=some y3:=hfd 3 _ rfl
 have f4:DataW.trod enc Pg w 0 (λ_=>true) true n 24 (List.take (Pg.cellsOf 24) (List.drop 4 arr.toList))=some y4:=hfd 4 _ rfl
 rw[harr]at f0 f1 f2 f3 f4
 rw[h2]at f0
 rw[h4]at f1
 rw[h3]at f2
 rw[h1]at f3 f4
 obtain⟨k0,e0,w0⟩:=Vy Tryz.underlying5 (x:=y0) f0
 obtain⟨v1,P,e1,r1,w1⟩:=Qi (x:=y1) f1
 obtain⟨v2,S,e2,r2,w2,l2⟩:=Qh (x:=y2) f2
 obtain⟨v3,W,e3,r3,w3,l3⟩:=mC (x:=y3) f3
 obtain⟨v4,Q,e4,r4,w4,l4⟩:=mC (x:=y4) f4
 simp at e0 e1 e2 e3 e4
 obtain⟨a,rfl,ha⟩:=Kg w0
 subst e0 e1 e2 e3 e4
 refine⟨a,P,S,W,Q,⟨arr,rfl,?_⟩,⟨ha,w1,w2,l2,w3,l3,w4⟩⟩
 rw[harr]
 exact⟨_,_,rfl,rfl,_,_,rfl,r1,_,_,rfl,r2,_,_,rfl,r3,_,_,rfl,r4,rfl⟩
theorem wX{v:Value}{d:DataW H}{p:List MemPlace}(hv: ∃cs,v= .agg cs/\cs.size=Pg.cellsOf 28)(h:DataW.Trod enc Pg w 0 (λ_=>true) true 28 v d p):
  ∃(a b c:Nat)(n:Int),RV (sg (Gw w)) w (.agg [w8 a,w8 b,w8 c,i6 n]) v/\a<256/\b<256/\c<256:=by
 obtain⟨arr,rfl,hsz⟩:=hv
 obtain⟨fuel,hf⟩:=h
 obtain⟨xs,n,_,_,hl,hlen,hfd⟩:=DataW.trod_struct Tryz.underlying28 hf
 have hc:Pg.cellsOf 28=4:=k_
 rw[hc]at hl
 have hcells:(Value.agg arr).cells.toList=arr.toList:=rfl
 rw[hcells]at hl hfd
 obtain⟨c0,c1,c2,c3,harr⟩: ∃c0 c1 c2 c3,arr.toList=[c0,c1,c2,c3]:=by
  match arr.toList,hl with
  |[c0,c1,c2,c3],_=>exact⟨c0,c1,c2,c3,rfl⟩
 have hlen':xs.length=4:=hlen
 obtain⟨y0,y1,y2,y3,rfl⟩: ∃y0 y1 y2 y3,xs=[y0,y1,y2,y3]:=by
  match xs,hlen' with
  |[y0,y1,y2,y3],_=>exact⟨y0,y1,y2,y3,rfl⟩
 have h2:Pg.cellsOf 5=1:=k_
 have h3:Pg.cellsOf 3=1:=k_
 have f0:DataW.trod enc Pg w 0 (λ_=>true) true n 5 (List.take (Pg.cellsOf 5) (List.drop 0 arr.toList))=some y0:=hfd 0 _ rfl
 have f1:DataW.trod enc Pg w 0 (λ_=>true) true n 5 (List.take (Pg.cellsOf 5) (List.drop 1 arr.toList))=some y1:=hfd 1 _ rfl
 have f2:DataW.trod enc Pg w 0 (λ_=>true) true n 5 (List.take (Pg.cellsOf 5) (List.drop 2 arr.toList))=some y2:=hfd 2 _ rfl
 have f3:DataW.trod enc Pg w 0 (λ_=>true) true n 3 (List.take (Pg.cellsOf 3) (List.drop 3 arr.toList))=some y3:=hfd 3 _ rfl
 rw[harr]at f0 f1 f2 f3
 rw[h2]at f0 f1 f2
 rw[h3]at f3
 obtain⟨k0,e0,w0⟩:=Vy Tryz.underlying5 (x:=y0) f0
 obtain⟨k1,e1,w1⟩:=Vy Tryz.underlying5 (x:=y1) f1
 obtain⟨k2,e2,w2⟩:=Vy Tryz.underlying5 (x:=y2) f2
 obtain⟨k3,e3,w3⟩:=Vy Tryz.underlying3 (x:=y3) f3
 simp at e0 e1 e2 e3
 obtain⟨a,rfl,ha⟩:=Kg w0
 obtain⟨b,rfl,hb⟩:=Kg w1
 obtain⟨c,rfl,hcc⟩:=Kg w2
 subst e0 e1 e2 e3
 refine⟨a,b,c,k3,⟨arr,rfl,?_⟩,ha,hb,hcc⟩
 rw[harr]
 exact⟨_,_,rfl,rfl,_,_,rfl,rfl,_,_,rfl,rfl,_,_,rfl,rfl,rfl⟩
end
theorem Jr(k:Nat):0<10000^k:=Nat.pow_pos o_
def pd:Nat->Nat->List Nat
 |0,_=>[]
 |k+1,x=>x%10000::pd k (x/10000)
theorem Mp: ∀k x,(pd k x).length=k
 |0,_=>rfl
 |k+1,x=>by rw[pd,bZ,Mp]
theorem SN(x j:Nat):x/10000/10000^j=x/10000^(j+1):=by grind[Nat.div_div_eq_div_mul]
theorem lB: ∀{k x j:Nat},j<k->(pd k x).getD j 0=x/10000^j%10000
 |k+1,x,0,_=>by simp[pd]
 |k+1,x,j+1,h=>by
  rw[pd,List.getD_cons_succ,lB o_,SN]
theorem XP: ∀(k x:Nat),pd (k+1) x=pd k x++[x/10000^k%10000]
 |0,x=>by simp[pd]
 |k+1,x=>by
  rw[pd,XP k,SN]
  rfl
theorem X6(k x:Nat):(pd (k+1) x).take k=pd k x:=by
 grind[XP,Mp]
theorem Sd: ∀(k x:Nat),pd k (x%10000^k)=pd k x
 |0,_=>rfl
 | k + 1, x => by
  have h1:x%10000^(k+1)%10000=x%10000:=Nat.mod_mod_of_dvd _ ⟨10000^k,o_⟩
  have h2:x%10000^(k+1)/10000=x/10000%10000^k:=by
   rw[bK,bQ,Nat.mod_mul_right_div_self]
  rw[pd,pd,h1,h2,Sd k]
theorem lI: ∀{k x j d:Nat},j<k->d<10000->(pd k x).set j d=pd k (x-x/10000^j%10000*10000^j+d*10000^j)
 |k+1,x,0,d,_,hd=>by
  grind[pd]
 | k + 1, x, j + 1, d, h, hd => by
  rw[pd,List.set_cons_succ,lI o_ hd,pd]
  have hp:=Jr j
  have e:x/10000^(j+1)%10000*10000^(j+1)=10000*(x/10000/10000^j%10000*10000^j):=by
   rw[SN,bK];simp only[bQ,Nat.mul_assoc,fI]
  have e2:d*10000^(j+1)=10000*(d*10000^j):=by
   rw[bK];simp only[bQ,Nat.mul_assoc,fI]
  have hle:x/10000/10000^j%10000*10000^j<=x/10000:=
   aP (bW _ (Nat.mod_le _ _)) (Nat.div_mul_le_self _ _)
  grind
def dg(n:Nat):List Nat:=if h:n=0 then[]else n%10000::dg (n/10000)
termination_by n
decreasing_by omega
theorem DW:dg 0=[]:=by rw[dg];simp
theorem WT(h:n≠0):dg n=n%10000::dg (n/10000):=by grind[dg]
theorem N8: ∀{k x:Nat},x<10000^k->(k=0\/x/10000^(k-1)%10000≠0)->pd k x=dg x
 |0,x,h,_=>by
  have:x=0:=by simpa using h
  rw[this,DW]
  rfl
 | k + 1, x, h, hz => by
  have hx:x/10000<10000^k:=by
   rw[bH o_]
   rw[bK]at h;exact h
  have hz:x/10000^k%10000≠0:=by rcases hz with hz|hz;omega;simpa using hz
  have hne:x≠0:=λh0=>by simp_all
  rw[pd,WT hne,N8 hx]
  grind[SN]
theorem Me(x:Nat):x<10000^(dg x).length:=by
 induction x using Nat.strongRecOn with
 | _ x ih=>
  grind[dg]
theorem UJ(h:x≠0):10000^((dg x).length-1)<=x:=by
 induction x using Nat.strongRecOn with
 | _ x ih=>
  grind[Nat.pow_succ,dg]
theorem pU(h:x≠0):0<(dg x).length:=by grind[WT]
theorem xE(x:Nat):dg x=pd (dg x).length x:=by
 refine(N8 (Me x) ?_).symm
 by_cases h:x=0
 .grind[DW]
 .right
  have h1:=UJ h
  have h2:=Me x
  have h3:=pU h
  obtain⟨k,hk⟩: ∃k,(dg x).length=k+1:=⟨(dg x).length-1,o_⟩
  rw[hk]at h1 h2⊢
  simp only[eI]at h1⊢
  have hq:x/10000^k<10000:=by rw[bH (Jr k),bQ,<-bK];exact h2
  have hq1:1<=x/10000^k:=by rw[fT (Jr k)];omega
  omega
theorem SM:(dg x).getD j 0=x/10000^j%10000:=by
 by_cases h:j<(dg x).length
 .rw[xE x,lB h]
 .rw[aA,aX o_]
  have h1:=Me x
  have h2:10000^(dg x).length<=10000^j:=aH o_ o_
  rw[cW o_]
  rfl
theorem EF{k:Nat}(h:x<10000^k):(dg x).length<=k:=by
 by_cases h0:x=0
 .grind[DW]
 .have h1:=UJ h0
  exact bS λhc=>by
   have:10000^k<=10000^((dg x).length-1):=aH o_ o_
   omega
theorem YZ(h:(dg a).length<(dg b).length):a<b:=by
 have hb:b≠0:=λh0=>by grind[DW]
 have h1:=Me a
 have h2:=UJ hb
 have h3:10000^(dg a).length<=10000^((dg b).length-1):=aH o_ o_
 omega
theorem PX{k:Nat}(h:a/10000^(k+1)=b/10000^(k+1))(hd:a/10000^k%10000=b/10000^k%10000):a/10000^k=b/10000^k:=by
 rw[bK,<-bX,<-bX]at h
 omega
theorem CO{k:Nat}(h:a/10000^(k+1)=b/10000^(k+1))(hd:a/10000^k%10000<b/10000^k%10000):a<b:=by
 rw[bK,<-bX,<-bX]at h
 exact bS λhc=>by
  have:=Nat.div_le_div_right (c:=10000^k) (Nat.le_of_not_lt hc)
  omega
theorem bi(ht:0<b/10000^e):R/10000^e/(b/10000^e+1)<=R/b/\R/b<=R/10000^e/(b/10000^e):=by
 have hp:=Jr e
 have hb:0<b:=Nat.pos_of_ne_zero λh=>by simp_all
 have h1:b<(b/10000^e+1)*10000^e:=by
  have:=Nat.lt_mul_div_succ b hp
  rwa [bQ]at this
 constructor
 .rw[bX]
  refine Nat.div_le_div_left ?_ hb
  grind
 .rw[bX]
  refine Nat.div_le_div_left ?_ (Nat.mul_pos hp ht)
  rw[bQ]
  exact Nat.div_mul_le_self _ _
theorem HM(hR:R<b*10000)(ht:10000<=b/10000^e\/e=0)(hb:0<b):R/10000^e/(b/10000^e)<=10000:=by
 have hp:=Jr e
 rcases ht with ht|ht
 .have h1:b<(b/10000^e+1)*10000^e:=by
   have:=Nat.lt_mul_div_succ b hp
   rwa [bQ]at this
  generalize b/10000^e=t at*
  have h2:R/10000^e<(t+1)*10000:=by
   rw[bH hp]
   refine aQ hR ?_
   rw[Nat.mul_right_comm]
   exact bW _ o_
  have h3:R/10000^e/t<10001:=by
   rw[bH o_]
   omega
  omega
 .subst ht
  simp only[Nat.pow_zero,Nat.div_one]
  have:R/b<10000:=by rw[bH hb,bQ];exact hR
  omega
theorem GG{X:Nat}(h:X<10000^i)(hd:d<10000):pd (i+1) (X+d*10000^i)=pd i X++[d]:=by
 grind[XP,Nat.add_mul_div_right,Nat.div_eq_of_lt,Nat.add_mul_mod_self_right,Nat.mod_eq_of_lt,Sd]
theorem MK(a i:Nat):a%10000^(i+1)=a%10000^i+a/10000^i%10000*10000^i:=by
 rw[bK,Nat.mod_mul,bQ (10000^i)]
def Im(a b i:Nat):Nat:=if a%10000^i<b%10000^i then 1 else 0
def Ny(a b i:Nat):Nat:=a%10000^i+Im a b i*10000^i-b%10000^i
theorem GN(a b i:Nat):Ny a b i<10000^i:=by
 have hp:=Jr i
 have h1:=aY a hp
 grind[Ny,Im]
theorem Yk(a b i:Nat):pd (i+1) (Ny a b (i+1))=pd i (Ny a b i)++[a/10000^i%10000+10000*Im a b (i+1)-Im a b i-b/10000^i%10000]
/\(Im a b (i+1)=if a/10000^i%10000<Im a b i+b/10000^i%10000 then 1 else 0):=by
 have hp:=Jr i
 have h1:=aY a hp
 have h2:=aY b hp
 have ha:a/10000^i%10000<10000:=aY _ o_
 have hb:b/10000^i%10000<10000:=aY _ o_
 have hx:=GN a b i
 have hw:Im a b i<=1:=by unfold Im;split<;>omega
 have e2:Im a b (i+1)=if a/10000^i%10000<Im a b i+b/10000^i%10000 then 1 else 0:=by
  unfold Im
  rw[MK a,MK b]
  generalize a%10000^i=A at*
  generalize b%10000^i=B at*
  generalize a/10000^i%10000=x at*
  generalize b/10000^i%10000=y at*
  generalize 10000^i=P at*
  have e:(A+x*P<B+y*P)↔(x<(if A<B then 1 else 0)+y):=by
   constructor
   .intro h
    apply bS
    intro hc
    split at hc
    .have:(1+y)*P<=x*P:=bW _ o_
     grind
    .have:y*P<=x*P:=bW _ o_
     omega
   .intro h
    split at h
    .have:x*P<=y*P:=bW _ o_
     omega
    .have:(x+1)*P<=y*P:=bW _ o_
     grind
  by_cases hh:A+x*P<B+y*P
  .simp_all
  .grind
 refine⟨?_,e2⟩
 have hd:a/10000^i%10000+10000*Im a b (i+1)-Im a b i-b/10000^i%10000<10000:=by
  rw[e2];split<;>omega
 rw[<-GG hx hd]
 congr 1
 have e3:Ny a b (i+1)+b%10000^(i+1)=a%10000^(i+1)+Im a b (i+1)*10000^(i+1):=by
  have h3:=aY a (Jr (i+1))
  have h4:=aY b (Jr (i+1))
  unfold Ny Im
  split<;>omega
 have e4:Ny a b i+b%10000^i=a%10000^i+Im a b i*10000^i:=by
  unfold Ny Im
  split<;>omega
 rw[MK a,MK b]at e3
 generalize Ny a b (i+1)=X' at*
 generalize Ny a b i=X at*
 generalize hw':Im a b (i+1)=w' at*
 generalize Im a b i=w at*
 generalize a/10000^i%10000=x at*
 generalize b/10000^i%10000=y at*
 have e5:w'*10000^(i+1)=(10000*w')*10000^i:=by rw[bK,bQ (10000^i),<-Nat.mul_assoc,bQ w' 10000]
 rw[e5]at e3
 have hge:w+y<=x+10000*w':=by rw[e2];split<;>omega
 have e6:(x+10000*w'-w-y)*10000^i+(w*10000^i+y*10000^i)=x*10000^i+10000*w'*10000^i:=by
  rw[<-eK,<-eK,<-eK]
  congr 1
  omega
 omega
theorem GM{k:Nat}(hk:a<10000^k)(h:b<=a):Ny a b k=a-b:=by
 unfold Ny Im
 rw[bO hk,bO o_]
 split<;>omega
theorem Xa{y D P:Nat}(hx: ∀t,t=c+x/P%10000+D->y=x-x/P%10000*P+t%10000*P):y+(c+x/P%10000+D)/10000*(P*10000)=x+c*P+D*P:=by
 rw[hx _ rfl]
 generalize hz:x/P%10000=z
 have hle:z*P<=x:=by
  rw[<-hz]
  exact aP (bW _ (Nat.mod_le _ _)) (Nat.div_mul_le_self _ _)
 have e:(c+z+D)%10000*P+(c+z+D)/10000*(P*10000)=(c+z+D)*P:=by
  have:(c+z+D)/10000*(P*10000)=(c+z+D)/10000*10000*P:=by simp only[bQ,fI]
  rw[this,<-eK]
  congr 1
  omega
 grind
theorem MI(a i:Nat):10000*(a/10000^(i+1))+a/10000^i%10000=a/10000^i:=by
 rw[bK,<-bX]
 omega
theorem Zs(a b i:Nat)(hb:0<b):(a/10000^(i+1)%b*10000+a/10000^i%10000)/b=a/10000^i/b-10000*(a/10000^(i+1)/b)/\(a/10000^(i+1)%b*10000+a/10000^i%10000)%b=a/10000^i%b:=by
 have h:=MI a i
 have hd:=Nat.div_add_mod (a/10000^(i+1)) b
 generalize a/10000^(i+1)=u,a/10000^i%10000=v at*
 have e:a/10000^i=u%b*10000+v+b*(10000*(u/b)):=by
  rw[<-h]
  have:b*(10000*(u/b))=10000*(b*(u/b)):=by simp only[fI]
  rw[this]
  omega
 grind[Nat.add_mul_mod_self_left,Nat.add_mul_div_left]
theorem QS(a b i:Nat)(hb:0<b):a/10000^(i+1)%b*10000+a/10000^i%10000<b*10000:=by
 have h1:=aY (a/10000^(i+1)) hb
 omega
theorem IH{lo hi:Nat}(h1:lo<=R/b)(h2:R/b<=hi)(h: ¬lo<hi):lo=R/b:=o_
theorem QX(hb:0<b)(h:b*m<=R):m<=R/b:=by simp_all[fT,bQ]
theorem QY(hb:0<b)(h: ¬b*m<=R):R/b<=m-1:=by
 have:R/b<m:=by rw[bH hb,bQ];omega
 omega
theorem Ys(hd:0<d)(he:0<e):(n/Nat.gcd n d=m/Nat.gcd m e/\d/Nat.gcd n d=e/Nat.gcd m e)↔n*e=m*d:=by
 have g1:=fL n hd
 have g2:=fL m he
 have a1:=fG (Nat.gcd_dvd_left n d)
 have a2:=fG (Nat.gcd_dvd_right n d)
 have a3:=fG (Nat.gcd_dvd_left m e)
 have a4:=fG (Nat.gcd_dvd_right m e)
 have c1:Nat.Coprime (n/Nat.gcd n d) (d/Nat.gcd n d):=Nat.coprime_div_gcd_div_gcd g1
 have c2:Nat.Coprime (m/Nat.gcd m e) (e/Nat.gcd m e):=Nat.coprime_div_gcd_div_gcd g2
 generalize Nat.gcd n d=g at*
 generalize Nat.gcd m e=k at*
 generalize n/g=p at*
 generalize d/g=q at*
 generalize m/k=r at*
 generalize e/k=s at*
 subst a1 a2 a3 a4
 constructor
 .grind
 .intro h
  have h':p*s=r*q:=by
   rw[Nat.mul_mul_mul_comm p,Nat.mul_mul_mul_comm r,bQ k g]at h
   exact Nat.eq_of_mul_eq_mul_right (Nat.mul_pos g1 g2) h
  have hs:0<s:=Nat.pos_of_mul_pos_right he
  have hq:0<q:=Nat.pos_of_mul_pos_right hd
  have d1:s∣q:=by
   have:s∣r*q:=⟨p,by grind⟩
   exact(Nat.Coprime.dvd_of_dvd_mul_left c2.symm this)
  have d2:q∣s:=by
   have:q∣p*s:=⟨r,by grind⟩
   exact(Nat.Coprime.dvd_of_dvd_mul_left c1.symm this)
  grind[Nat.dvd_antisymm,Nat.eq_of_mul_eq_mul_right]
abbrev dI(l:List Nat):List V:=Aa (l.map λd:Nat=>(d:Int))
theorem Pu(l:List Nat):(dI l).length=l.length:=by rw[F5,fA]
abbrev dV(n:Nat):V:=.im (dg n).length (dI (dg n))
abbrev jX(q:Nat×Nat×List V):SL:={sl:=[(0,i6 q.2.1),(3,G6 0 q.1)],os:=Ik 3 1 q.2.2 q.1}
theorem cj(n:Nat)(hn:n<9223372036854775808):
  Au Pg none 0 (aT 166 11100) (Al g0 19 (jX (0,n,[]))) (B3 g0 19 [(True,.exit 0,{sl:=[(3,dV n)]})]):=by
 refine C9 (aT 166 111000) (λq=>q.2.1=n/10000^q.1/\q.2.2=dI (pd q.1 n)/\(q.1=0\/n/10000^(q.1-1)≠0)) jX (λq=>q.2.1) (λq hq=>?_) (0,n,[]) ⟨by simp,rfl,.inl rfl⟩
 obtain⟨k,x,a⟩:=q
 obtain⟨hx,ha,hk⟩:=hq
 dsimp only at hx ha hk
 have hal:a.length=k:=by rw[ha,Pu,Mp]
 have haf:Ba a:=by rw[ha];exact Ap _
 have hkb:k<=5:=by
  rcases hk with hk|hk
  .omega
  .refine bS λhc=>hk (cW (aQ (fR hn ?_) (aH (n:=10000) (i:=5) o_ o_)))
   decide
 have hxb:x<9223372036854775808:=by rw[hx];exact cG (eE _ _) hn
 by_cases h0:x=0
 .have hd:dg n=pd k n:=by
   refine(N8 ?_ ?_).symm
   .have:=Nat.lt_of_div_eq_zero (Jr k) (hx.symm.trans h0)
    exact this
   .rcases hk with hk|hk
    .exact .inl hk
    .right
     cases k with
     |zero=>simp at hx hk;omega
     |succ k=>
      rw[hx,bK,<-bX]at h0
      simp only[eI]at hk⊢
      omega
  have hv:dV n= .im k a:=by rw[dV,hd,Mp,ha]
  rw[hv]
  clear ha hx hk hd hv
  subst h0
  cases k with
  |zero=>
   obtain rfl:a=[]:=aE hal
   refine .inr ⟨.exit 0,[],{sl:=[(3,.im 0 Eb)]},[no 6],1000,.inl ⟨trivial,rfl,rfl⟩,?_⟩
   exact m_ (p:=An [((↑(0:Nat):Int) != (0:Int))=false,An [Zz,Tt],Tt]) a_
  |succ k=>
   refine .inr ⟨.exit 0,[],{sl:=[(3,.im (k+1) a)]},[no 6],1000,.inl ⟨trivial,rfl,rfl⟩,?_⟩
   exact m_ (p:=An [((↑(0:Nat):Int) != (0:Int))=false,An [An [Sm (k+1),a=a,_],Tt],Tt]) ⟨aq,⟨⟨aq,aq,haf⟩,aq⟩,aq⟩
 .have hx2:x/10000=n/10000^(k+1):=by rw[hx,bX,<-bK]
  have hnx:dI (pd (k+1) n)=a++[i6 ((x%10000:Nat):Int)]:=by
   rw[ha,XP,<-hx]
   unfold dI Aa
   simp only[bP]
   rfl
  have hk2:k+1=0\/n/10000^(k+1-1)≠0:=.inr (by rw[eI,<-hx];exact h0)
  have hmx:[i6 ((x%10000:Nat):Int)]=[V.int .i64 (if -((x%10000:Nat):Int)>((x%10000:Nat):Int)then -((x%10000:Nat):Int)else((x%10000:Nat):Int))]:=by rw[if_neg o_]
  have hq:B6 (B1 Pg) .quo 3 (i6 x) (i6 10000)=some (i6 ((x/10000:Nat):Int)):=by
   have e:((x:Nat):Int).tdiv 10000=((x/10000:Nat):Int):=(Int.ofNat_tdiv x 10000).symm
   have h:=Mw (G:=B1 Pg) (t:=3) (x:=(x:Int)) (y:=10000) o_ (by rw[e];omega) (by rw[e];omega)
   rwa [e]at h
  clear ha hx hk
  cases k with
  |zero=>
   obtain rfl:a=[]:=aE hal
   refine .inl ⟨(1,x/10000,[i6 ((x%10000:Nat):Int)]),[1],[As 6,va 8 (i6 ((x%10000:Nat):Int)),nu 12 (-((x%10000:Nat):Int)),va 17 (i6 ((x/10000:Nat):Int))],1000,⟨hx2,hnx.symm,hk2⟩,by dsimp only;omega,?_⟩
   clear hnx hk2 hx2
   exact m_ (p:=let z0:=(↑(x%10000):Int);let z1:=(↑(x/10000):Int);An [((↑x:Int) != (0:Int))=true,B6 (B1 Tryz.prog) BinOp.rem 3 (i6 ↑x) (i6 10000)=some (i6 ↑(x%10000)),wr .i64 ((0:Int)-z0)= -z0,_,An [z1=z1,An [Zz,1=1,Tt],Tt],An [_,Tt,Tt],Tt]) ⟨aq,(by rfl),aq,hq,a_,⟨hmx,a_⟩,aq⟩
  |succ k=>
   refine .inl ⟨(k+2,x/10000,a++[i6 ((x%10000:Nat):Int)]),[2],[As 6,va 8 (i6 ((x%10000:Nat):Int)),nu 12 (-((x%10000:Nat):Int)),ap 15,va 17 (i6 ((x/10000:Nat):Int))],1000,⟨hx2,hnx.symm,hk2⟩,by dsimp only;omega,?_⟩
   clear hnx hk2 hx2
   exact m_ (p:=let z0:=(↑(x%10000):Int);let z1:=i6 ↑(x%10000);let z2:=(↑(x/10000):Int);An [((↑x:Int) != (0:Int))=true,B6 (B1 Tryz.prog) BinOp.rem 3 (i6 ↑x) (i6 10000)=some z1,wr .i64 ((0:Int)-z0)= -z0,a.length=(k+1)*1,k+1+1<=9223372036854775807,(k+1+1)*8<=140737488355328,_,An [z2=z2,An [Zz,Nat.succ k+1=k+1+1,Tt],Tt],An [a++[z1]=a++[i6 (if -z0>z0 then -z0 else z0)],Ba (a++[z1])],Tt]) ⟨aq,(by rfl),aq,aq,aq,aq,hq,a_,⟨congrArg _ hmx,Nb haf ⟨trivial,trivial⟩⟩,aq⟩
theorem nE(n:Nat)(hn:n<9223372036854775808):Ag Pg g0 166 [i6 n] (dV n):=by
 have hlp:=cj n hn
 have hf:=Ap ((dg n).map λd:Nat=>(d:Int))
 unfold dV dI at hlp⊢
 generalize (dg n).length=k,Aa ((dg n).map λd:Nat=>(d:Int))=L at*
 refine Ch {sl:=[(2,.im k L)]} [(0,.loop [] (jX (0,n,[])) [(True,.exit 0,{sl:=[(3,.im k L)]})])] ?_
 exact m_ (p:=An [Sm (V.im k L),An [An [Sm (↑n:Int),Tt,Tt],Tt],_,(True->An [An [An [k=k,L=L],Tt],Tt]),Tt]) ⟨aq,a_,hlp,a_⟩
theorem qX:(B1 Pg).ty 47=some {desc:=.slice 3,size:=1,bytes:=24,agg:=false,zero:=some [.nils]}:=k_
theorem qW:(B1 Pg).ty 3=some {desc:=.int .i64,size:=1,bytes:=8,agg:=false,zero:=some [i6 0]}:=k_
theorem IA(k x:Nat):Ce (B1 Pg) 47 (.im (k+1) (dI (pd (k+1) x))) none (some (k:Nat)) none=some (.im k (dI (pd k x))):=by
 unfold Ce
 simp only[qX,qW,dG,dU,Option.isNone_none,and_true]
 rw[if_pos o_]
 cases k with
 |zero=>rfl
 |succ k=>
  grind[X6,Aa,List.map_take]
theorem mU{k:Nat}(h:j<k):Ae ((dI (pd k x)).drop (j*1))=some (i6 ((x/10000^j%10000:Nat):Int)):=by
 have h1:=Dm (l:=(pd k x).map λd:Nat=>(d:Int)) (k:=j) (by grind[Mp])
 rw[h1,aA,bD,<-lB h,aA,aB (by grind[Mp])]
 rfl
abbrev O9(x k:Nat):SL:={sl:=[(0,.im k (dI (pd k x)))]}
theorem fh(x k0:Nat)(hx:x<10000^k0)(hk0:k0<=1000000):
  Au Pg none 0 (aT 186 1100) (Al g0 21 (O9 x k0)) (B3 g0 21 [(True,.exit 0,{sl:=[(0,dV x)]})]):=by
 refine C9 (aT 186 11000) (λk=>x<10000^k/\k<=1000000) (O9 x) (λk=>k) (λk hk=>?_) k0 ⟨hx,hk0⟩
 obtain⟨hx,hk⟩:=hk
 have hv:(k=0\/x/10000^(k-1)%10000≠0)->dV x= .im k (dI (pd k x)):=λh=>by grind[N8,Mp]
 have hf:=Ap ((pd k x).map λd:Nat=>(d:Int))
 cases k with
 |zero=>
  rw[hv (.inl rfl)]
  refine .inr ⟨.exit 0,[],{sl:=[(0,.im 0 Eb)]},[],1000,.inl ⟨trivial,rfl,rfl⟩,?_⟩
  clear hv
  exact m_ (p:=An [An [An [Zz,Eb=dI (pd 0 x)],Tt],Tt]) ⟨⟨⟨aq,(by rfl)⟩,aq⟩,aq⟩
 | succ k =>
  have hh:=mU (x:=x) (show k<k+1 by omega)
  have hc:=IA k x
  by_cases h0:x/10000^k%10000=0
  .rw[h0]at hh
   have hlt:x<10000^k:=by
    have h1:x/10000^k<10000:=by rw[bH (Jr k),bQ,<-bK];exact hx
    exact Nat.lt_of_div_eq_zero (Jr k) (by grind)
   refine .inl ⟨k,[],[As 5,nu 10 k,pl 11,ld 12 (i6 0),As 13,nu 18 k,va 19 (.im k (dI (pd k x)))],1000,⟨hlt,o_⟩,o_,?_⟩
   clear hv hlt
   have hf':=Ap ((pd k x).map λd:Nat=>(d:Int))
   unfold O9 dI at*
   generalize Aa ((pd (k+1) x).map λd:Nat=>(d:Int))=L,Aa ((pd k x).map λd:Nat=>(d:Int))=M at*
   exact C8 (let z0:=(↑(k+1):Int);let z1:=(↑k:Int);let z3:=(0:Int);let z2:=wr .i64 (z0-(1:Int));[decide (z0>z3)=true,z2=z1,An [z3<=z1,z1<z0],Ae (List.drop (k*1) L)=some (i6 0),(z3==z3)=true,z2=z1,_]) ⟨aq,aq,a_,aq,aq,aq,hc⟩
  .rw[hv (.inr h0)]
   refine .inr ⟨.exit 0,[],O9 x (k+1),[As 5,nu 10 k,pl 11,ld 12 (i6 ((x/10000^k%10000:Nat):Int)),no 13],1000,.inl ⟨trivial,rfl,rfl⟩,?_⟩
   clear hv hc
   unfold O9 dI at*
   generalize Aa ((pd (k+1) x).map λd:Nat=>(d:Int))=L,x/10000^k%10000=d at*
   exact Cj (let z0:=(↑(k+1):Int);let z1:=(↑k:Int);[decide (z0>(0:Int))=true,wr .i64 (z0-(1:Int))=z1,An [(0:Int)<=z1,z1<z0],_,((↑d:Int)==(0:Int))=false]) ⟨aq,aq,a_,hh,a_⟩
theorem TY(x k:Nat)(hx:x<10000^k)(hk:k<=1000000):Ag Pg g0 186 [.im k (dI (pd k x))] (dV x):=by
 have hlp:=fh x k hx hk
 have hf:=Ap ((dg x).map λd:Nat=>(d:Int))
 have hf':=Ap ((pd k x).map λd:Nat=>(d:Int))
 unfold O9 dV dI at*
 generalize Aa ((pd k x).map λd:Nat=>(d:Int))=M,(dg x).length=m,Aa ((dg x).map λd:Nat=>(d:Int))=L at*
 refine Ch {sl:=[(2,.im m L)]} [(0,.loop [] {sl:=[(0,.im k M)]} [(True,.exit 0,{sl:=[(0,.im m L)]})])] ?_
 exact m_ (p:=An [Sm (V.im m L),An [An [An [k=k,M=M],Tt],Tt],_,(True->An [An [An [m=m,L=L],Tt],Tt]),Tt]) ⟨aq,a_,hlp,a_⟩
theorem AY(h:j<(dg x).length):Ae ((dI (dg x)).drop (j*1))=some (i6 ((x/10000^j%10000:Nat):Int)):=by
 have h1:=Dm (l:=(dg x).map λd:Nat=>(d:Int)) (k:=j) (by simp_all)
 rw[h1,aA,bD,<-SM,aA,aB h]
 rfl
def Dr:Nat->Int
 |0=> -1
 |j+1=>j
def Gu(a b:Nat):Int:=if a<b then -1 else if b<a then 1 else 0
theorem nT(h:a<b):Gu a b= -1:=if_pos h
theorem nU(h:b<a):Gu a b=1:=by grind[Gu]
theorem uP(h:a=b):Gu a b=0:=by grind[Gu]
abbrev KT(a b j:Nat):SL:={sl:=[(0,dV a),(1,dV b),(5,i6 (Dr j))]}
theorem fk(a b:Nat)(z:Int)(hz:Gu a b=z)(hl:(dg a).length=(dg b).length)(hlb:(dg a).length<=1000000):
  Au Pg none 0 (aT 187 111010) (Al g0 41 (KT a b (dg a).length)) (B3 g0 41 [(z=0,.exit 0,{sl:=[]}),(z≠0,.ret,{sl:=[(4,i6 z)]})]):=by
 refine C9 (aT 187 1110100) (λj=>j<=(dg a).length/\a/10000^j=b/10000^j) (KT a b) (λj=>j) (λj hj=>?_) (dg a).length ⟨aC _,by grind[Nat.div_eq_of_lt,Me]⟩
 obtain⟨hj,he⟩:=hj
 have hfa:=Ap ((dg a).map λd:Nat=>(d:Int))
 have hfb:=Ap ((dg b).map λd:Nat=>(d:Int))
 cases j with
 |zero=>
  have hz0:z=0:=by rw[<-hz];exact uP (by simpa using he)
  refine .inr ⟨.exit 0,[],{sl:=[]},[],1000,.inl ⟨hz0,rfl,rfl⟩,?_⟩
  exact Cj [] trivial
 | succ j =>
  have ha:=AY (x:=a) (show j<(dg a).length by omega)
  have hb:=AY (x:=b) (show j<(dg b).length by omega)
  have e1:(∃P:Nat,(a/10000^j%10000=b/10000^j%10000->a/10000^j=b/10000^j)/\(a/10000^j%10000<b/10000^j%10000->z= -1)/\(b/10000^j%10000<a/10000^j%10000->z=1)):=⟨0,PX he,λh=>by grind[nT,CO],λh=>by grind[nU,CO]⟩
  obtain⟨_,e1,e2,e3⟩:=e1
  have hla:(dg a).length=(dg a).length:=rfl
  clear he hz
  change _\/_
  by_cases h0:a/10000^j%10000=b/10000^j%10000
  .have e1:=e1 h0
   rw[<-h0]at hb
   refine .inl ⟨j,[],[As 20,pl 25,ld 26 (i6 ((a/10000^j%10000:Nat):Int)),pl 29,ld 30 (i6 ((a/10000^j%10000:Nat):Int)),no 31,nu 22 (Dr j)],1000,⟨o_,e1⟩,o_,?_⟩
   have hd:Dr j=(j:Int)-1:=by cases j with|zero=>rfl|succ j=>grind[Dr]
   clear e1 e2 e3 h0
   unfold KT dV dI at*
   simp only[show Dr (j+1)=(j:Int)from rfl]
   generalize Aa ((dg a).map λd:Nat=>(d:Int))=L,Aa ((dg b).map λd:Nat=>(d:Int))=M,a/10000^j%10000=d,Dr j=q at*
   rw[<-hl]
   generalize (dg a).length=n at*
   exact m_ (p:=An [decide ((↑j:Int)≥(0:Int))=true,_,_,_,_,((↑d:Int) != (↑d:Int))=false,wr .i64 ((↑j:Int)-(1:Int))=q,An [An [_,L=L],An [_,M=M],q=q,Tt],Tt]) ⟨aq,Ar hj,ha,Ar hj,hb,aq,aq,⟨⟨hla,aq⟩,⟨hla,aq⟩,a_⟩,aq⟩
  .by_cases h1:a/10000^j%10000<b/10000^j%10000
   .obtain rfl:=e2 h1
    refine .inr ⟨.ret,[],{sl:=[(4,i6 (-1))]},[As 20,pl 25,ld 26 (i6 ((a/10000^j%10000:Nat):Int)),pl 29,ld 30 (i6 ((b/10000^j%10000:Nat):Int)),As 31,pl 34,ld 35 (i6 ((a/10000^j%10000:Nat):Int)),pl 38,ld 39 (i6 ((b/10000^j%10000:Nat):Int)),As 40],1000,.inr (.inl ⟨o_,rfl,rfl⟩),?_⟩
    clear e1 e2 e3
    unfold KT dV dI at*
    simp only[show Dr (j+1)=(j:Int)from rfl]
    generalize Aa ((dg a).map λd:Nat=>(d:Int))=L,Aa ((dg b).map λd:Nat=>(d:Int))=M,a/10000^j%10000=d,b/10000^j%10000=e at*
    rw[<-hl]
    generalize (dg a).length=n at*
    exact Cj [decide ((↑j:Int)≥(0:Int))=true,_,_,_,_,((↑d:Int) != (↑e:Int))=true,_,_,_,_,_] ⟨aq,Ar hj,ha,Ar hj,hb,aq,Ar hj,ha,Ar hj,hb,Bf h1⟩
   .obtain rfl:=e3 o_
    refine .inr ⟨.ret,[],{sl:=[(4,i6 1)]},[As 20,pl 25,ld 26 (i6 ((a/10000^j%10000:Nat):Int)),pl 29,ld 30 (i6 ((b/10000^j%10000:Nat):Int)),As 31,pl 34,ld 35 (i6 ((a/10000^j%10000:Nat):Int)),pl 38,ld 39 (i6 ((b/10000^j%10000:Nat):Int)),no 40],1000,.inr (.inl ⟨o_,rfl,rfl⟩),?_⟩
    clear e1 e2 e3
    unfold KT dV dI at*
    simp only[show Dr (j+1)=(j:Int)from rfl]
    generalize Aa ((dg a).map λd:Nat=>(d:Int))=L,Aa ((dg b).map λd:Nat=>(d:Int))=M,a/10000^j%10000=d,b/10000^j%10000=e at*
    rw[<-hl]
    generalize (dg a).length=n at*
    exact Cj [decide ((↑j:Int)≥(0:Int))=true,_,_,_,_,((↑d:Int) != (↑e:Int))=true,_,_,_,_,_] ⟨aq,Ar hj,ha,Ar hj,hb,aq,Ar hj,ha,Ar hj,hb,Cq h1⟩
theorem tM(a b:Nat)(ha:(dg a).length<=1000000)(hb:(dg b).length<=1000000):Ag Pg g0 187 [dV a,dV b] (i6 (Gu a b)):=by
 have hfa:=Ap ((dg a).map λd:Nat=>(d:Int))
 have hfb:=Ap ((dg b).map λd:Nat=>(d:Int))
 by_cases hl:(dg a).length=(dg b).length
 .have hlp:=fk a b _ rfl hl ha
  have hd:Dr (dg a).length=((dg a).length:Int)-1:=by cases(dg a).length with|zero=>rfl|succ j=>grind[Dr]
  generalize Gu a b=z at*
  unfold KT dV dI at*
  generalize Aa ((dg a).map λd:Nat=>(d:Int))=L,Aa ((dg b).map λd:Nat=>(d:Int))=M,Dr (dg a).length=q at*
  rw[<-hl]at hlp⊢
  generalize (dg a).length=n at*
  refine Ch {sl:=[(4,i6 z)]} [no 10,nu 18 q,(0,.loop [] {sl:=[(0,.im n L),(1,.im n M),(5,i6 q)]} [(z=0,.exit 0,{sl:=[]}),(z≠0,.ret,{sl:=[(4,i6 z)]})])] ?_
  exact m_ (p:=let z1:=(↑n:Int);An [Sm (i6 z),(z1 != z1)=false,wr .i64 (z1-(1:Int))=q,An [An [An [n=n,L=L],An [n=n,M=M],q=q,Tt],Tt],_,z=(0:Int)->An [An [z=(0:Int),Tt],Tt],z≠(0:Int)->An [An [z=z,Tt],Tt],Tt]) ⟨aq,aq,aq,a_,hlp,a_⟩
 .have hz:Gu a b=if(dg a).length<(dg b).length then -1 else 1:=by
   by_cases h:(dg a).length<(dg b).length
   .grind[nT,YZ]
   .grind[nU,YZ]
  rw[hz]
  unfold dV dI at*
  generalize Aa ((dg a).map λd:Nat=>(d:Int))=L,Aa ((dg b).map λd:Nat=>(d:Int))=M,(dg a).length=n,(dg b).length=m at*
  by_cases h:n<m
  .rw[if_pos h]
   refine Ch {sl:=[(4,i6 (-1))]} [As 10,As 15] ?_
   exact Hu [Sm (i6 (-1)),((↑n:Int) != (↑m:Int))=true,_] ⟨aq,aq,Bf h⟩
  .rw[if_neg h]
   refine Ch {sl:=[(4,i6 1)]} [As 10,no 15] ?_
   exact Hu [Sm (i6 1),((↑n:Int) != (↑m:Int))=true,_] ⟨aq,aq,Cq h⟩
abbrev VK(n:Nat)(A:List V)(m:Nat)(B:List V)(q:Nat×Nat×List V):SL:={sl:=[(0,.im n A),(1,.im m B),(5,G6 0 q.1),(6,i6 q.2.1),(7,i6 q.1)],os:=Ik 3 1 q.2.2 q.1}
theorem jc(a b:Nat)(hab:b<=a)(hla:(dg a).length<=1000000):
  Au Pg none 0 (aT 189 1111010) (Al g0 41 (VK (dg a).length (dI (dg a)) (dg b).length (dI (dg b)) (0,0,[]))) (B3 g0 41 [(True,.exit 0,{sl:=[(5,.im (dg a).length (dI (pd (dg a).length (a-b))))]})]):=by
 refine C9 (aT 189 11110100) (λq=>q.1<=(dg a).length/\q.2.1=Im a b q.1/\q.2.2=dI (pd q.1 (Ny a b q.1))) (VK (dg a).length (dI (dg a)) (dg b).length (dI (dg b))) (λq=>(dg a).length-q.1) (λq hq=>?_) (0,0,[]) ⟨aG _,by grind[Im],rfl⟩
 obtain⟨i,w,X⟩:=q
 obtain⟨hi,hw,hX⟩:=hq
 dsimp only at hi hw hX
 have hlb:(dg b).length<=(dg a).length:=bS λhc=>by
  have:=YZ (a:=a) (b:=b) o_
  omega
 have hal:X.length=i:=by rw[hX,Pu,Mp]
 have haf:Ba X:=by rw[hX];exact Ap _
 have hfa:=Ap ((dg a).map λd:Nat=>(d:Int))
 have hfb:=Ap ((dg b).map λd:Nat=>(d:Int))
 by_cases hlt:i<(dg a).length
 .have ha:=AY (x:=a) hlt
  have hb:=λh=>AY (x:=b) (j:=i) h
  have hbz: ¬i<(dg b).length->b/10000^i%10000=0:=λh=>by rw[<-SM,aA,aX o_];rfl
  obtain⟨st,hw'⟩:=Yk a b i
  have hw1:w<=1:=by rw[hw];unfold Im;split<;>omega
  rw[<-hw]at st hw'
  have hnx:dI (pd (i+1) (Ny a b (i+1)))=X++[i6 ((a/10000^i%10000+10000*Im a b (i+1)-w-b/10000^i%10000:Nat):Int)]:=by
   rw[hX,st]
   unfold dI Aa
   simp only[bP]
   rfl
  have hx:a/10000^i%10000<10000:=aY _ o_
  have hy:b/10000^i%10000<10000:=aY _ o_
  clear hw hX st hab
  obtain⟨w',hW⟩: ∃w',w'=Im a b (i+1):=⟨_,rfl⟩
  rw[<-hW]at hw' hnx
  generalize a/10000^i%10000=x,b/10000^i%10000=y at*
  unfold dI at*
  generalize Aa ((dg a).map λd:Nat=>(d:Int))=L,Aa ((dg b).map λd:Nat=>(d:Int))=M,(dg a).length=n,(dg b).length=m at*
  by_cases hm:i<m
  .have hb:=hb hm
   by_cases hn:x<w+y
   .rw[if_pos o_]at hw'
    subst hw'
    obtain⟨z,hz⟩: ∃z,z=x+10000*1-w-y:=⟨_,rfl⟩
    rw[<-hz]at hnx
    cases i with
    |zero=>
     obtain rfl:X=[]:=aE hal
     refine .inl ⟨(1,1,[i6 z]),[1],[As 12,pl 17,ld 18 (i6 x),nu 20 ((x:Int)-(w:Int)),As 24,pl 28,ld 29 (i6 y),nu 30 ((x:Int)-(w:Int)-(y:Int)),As 32,nu 34 z,nu 14 (1:Nat)],1000,⟨hlt,hW,hnx.symm⟩,o_,?_⟩
     clear hnx hbz hW
     exact m_ (p:=let z1:=(↑(1:Nat):Int);let z2:=(↑x:Int);let z3:=(↑w:Int);let z4:=(↑y:Int);An [_,_,_,wr .i64 (z2-z3)=z2-z3,_,_,_,wr .i64 (z2-z3-z4)=z2-z3-z4,decide (z2-z3-z4<(0:Int))=true,wr .i64 (z2-z3-z4+(10000:Int))=(↑z:Int),wr .i64 ((↑(0:Nat):Int)+(1:Int))=z1,An [An [n=n,L=L],An [m=m,M=M],An [Zz,1=1,Tt],z1=(1:Int),z1=z1,Tt],An [Sm [i6 ↑z],Tt,Tt],Tt]) ⟨Bf hlt,Ar hlt,ha,aq,Bf hm,Ar hm,hb,a_⟩
    |succ i=>
     refine .inl ⟨(i+2,1,X++[i6 z]),[2],[As 12,pl 17,ld 18 (i6 x),nu 20 ((x:Int)-(w:Int)),As 24,pl 28,ld 29 (i6 y),nu 30 ((x:Int)-(w:Int)-(y:Int)),As 32,nu 34 z,ap 38,nu 14 (i+2:Nat)],1000,⟨hlt,hW,hnx.symm⟩,o_,?_⟩
     clear hnx hbz hW
     exact m_ (p:=let z1:=(↑x:Int);let z2:=(↑w:Int);let z3:=(↑(i+2):Int);let z4:=(↑y:Int);An [_,_,_,wr .i64 (z1-z2)=z1-z2,_,_,_,wr .i64 (z1-z2-z4)=z1-z2-z4,decide (z1-z2-z4<(0:Int))=true,wr .i64 (z1-z2-z4+(10000:Int))=(↑z:Int),X.length=(i+1)*1,i+1+1<=9223372036854775807,(i+1+1)*8<=140737488355328,wr .i64 ((↑(i+1):Int)+(1:Int))=z3,An [An [n=n,L=L],An [m=m,M=M],An [Zz,Nat.succ i+1=i+1+1,Tt],(↑(1:Nat):Int)=(1:Int),z3=z3,Tt],An [Sm (X++[i6 ↑z]),Ba (X++[i6 ↑z])],Tt]) ⟨Bf hlt,Ar hlt,ha,aq,Bf hm,Ar hm,hb,aq,aq,aq,aq,aq,aq,aq,a_,⟨aq,Nb haf ⟨trivial,trivial⟩⟩,aq⟩
   .rw[if_neg o_]at hw'
    subst hw'
    obtain⟨z,hz⟩: ∃z,z=x+10000*0-w-y:=⟨_,rfl⟩
    rw[<-hz]at hnx
    cases i with
    |zero=>
     obtain rfl:X=[]:=aE hal
     refine .inl ⟨(1,0,[i6 z]),[1],[As 12,pl 17,ld 18 (i6 x),nu 20 ((x:Int)-(w:Int)),As 24,pl 28,ld 29 (i6 y),nu 30 ((x:Int)-(w:Int)-(y:Int)),no 32,nu 14 (1:Nat)],1000,⟨hlt,hW,hnx.symm⟩,o_,?_⟩
     clear hnx hbz hW
     refine m_ (p:=let z0:=(↑(0:Nat):Int);let z1:=(↑x:Int);let z2:=(↑w:Int);let z3:=(↑(1:Nat):Int);let z4:=(↑y:Int);An [_,_,_,wr .i64 (z1-z2)=z1-z2,_,_,_,wr .i64 (z1-z2-z4)=z1-z2-z4,decide (z1-z2-z4<(0:Int))=false,wr .i64 (z0+(1:Int))=z3,An [An [n=n,L=L],An [m=m,M=M],An [Zz,1=1,Tt],z0=(0:Int),z3=z3,Tt],An [[i6 ↑z]=[i6 (z1-z2-z4)],Tt,Tt],Tt]) ⟨Bf hlt,Ar hlt,ha,aq,Bf hm,Ar hm,hb,aq,aq,aq,a_,⟨?_,a_⟩,aq⟩
     (repeat'(first|(with_reducible apply And.intro)|(refine λ(_:True)=>?_)))<;>first|exact aq|skip
     grind
    |succ i=>
     refine .inl ⟨(i+2,0,X++[i6 z]),[2],[As 12,pl 17,ld 18 (i6 x),nu 20 ((x:Int)-(w:Int)),As 24,pl 28,ld 29 (i6 y),nu 30 ((x:Int)-(w:Int)-(y:Int)),no 32,ap 38,nu 14 (i+2:Nat)],1000,⟨hlt,hW,hnx.symm⟩,o_,?_⟩
     clear hnx hbz hW
     refine Eq.mp (by kernel_rfl:(let z0:=(↑(i+1):Int);let z1:=(↑x:Int);let z2:=(↑w:Int);let z3:=(↑(i+2):Int);let z4:=(↑y:Int);let z5:=(0:Int);An [decide (z0<(↑n:Int))=true,An [z5<=z0,z0<(↑n:Int)],Ae (List.drop ((i+1)*1) L)=some (i6 ↑x),wr .i64 (z1-z2)=z1-z2,decide (z0<(↑m:Int))=true,An [z5<=z0,z0<(↑m:Int)],Ae (List.drop ((i+1)*1) M)=some (i6 ↑y),wr .i64 (z1-z2-z4)=z1-z2-z4,decide (z1-z2-z4<z5)=false,X.length=(i+1)*1,i+1+1<=9223372036854775807,(i+1+1)*8<=140737488355328,wr .i64 (z0+(1:Int))=z3,An [An [n=n,L=L],An [m=m,M=M],An [Zz,Nat.succ i+1=i+1+1,Tt],(↑(0:Nat):Int)=z5,z3=z3,Tt],An [X++[i6 ↑z]=X++[i6 (z1-z2-z4)],Ba (X++[i6 ↑z])],Tt])=_) ?_
     (repeat'(first|(with_reducible apply And.intro)|(refine λ(_:True)=>?_)))<;>first|exact aq|skip
     all_goals first|exact ha|exact hb|exact Nb haf ⟨trivial,trivial⟩|omega|(rw[hz];refine congrArg (λx:Int=>[V.int .i64 x]) ?_;omega)|(rw[hz];refine congrArg (λx:Int=>X++[V.int .i64 x]) ?_;omega)|rfl|skip
  .have hy0:=hbz hm
   clear hb
   subst hy0
   by_cases hn:x<w+0
   .rw[if_pos o_]at hw'
    subst hw'
    obtain⟨z,hz⟩: ∃z,z=x+10000*1-w-0:=⟨_,rfl⟩
    rw[<-hz]at hnx
    cases i with
    |zero=>
     obtain rfl:X=[]:=aE hal
     refine .inl ⟨(1,1,[i6 z]),[1],[As 12,pl 17,ld 18 (i6 x),nu 20 ((x:Int)-(w:Int)),no 24,As 32,nu 34 z,nu 14 (1:Nat)],1000,⟨hlt,hW,hnx.symm⟩,o_,?_⟩
     clear hnx hbz hW
     exact m_ (p:=let z1:=(↑(1:Nat):Int);let z2:=(↑x:Int);let z3:=(↑w:Int);An [_,_,_,wr .i64 (z2-z3)=z2-z3,_,decide (z2-z3<(0:Int))=true,wr .i64 (z2-z3+(10000:Int))=(↑z:Int),wr .i64 ((↑(0:Nat):Int)+(1:Int))=z1,An [An [n=n,L=L],An [m=m,M=M],An [Zz,1=1,Tt],z1=(1:Int),z1=z1,Tt],An [Sm [i6 ↑z],Tt,Tt],Tt]) ⟨Bf hlt,Ar hlt,ha,aq,Cq hm,a_⟩
    |succ i=>
     refine .inl ⟨(i+2,1,X++[i6 z]),[2],[As 12,pl 17,ld 18 (i6 x),nu 20 ((x:Int)-(w:Int)),no 24,As 32,nu 34 z,ap 38,nu 14 (i+2:Nat)],1000,⟨hlt,hW,hnx.symm⟩,o_,?_⟩
     clear hnx hbz hW
     exact m_ (p:=let z1:=(↑(i+2):Int);let z2:=(↑x:Int);let z3:=(↑w:Int);An [_,_,_,wr .i64 (z2-z3)=z2-z3,_,decide (z2-z3<(0:Int))=true,wr .i64 (z2-z3+(10000:Int))=(↑z:Int),X.length=(i+1)*1,i+1+1<=9223372036854775807,(i+1+1)*8<=140737488355328,wr .i64 ((↑(i+1):Int)+(1:Int))=z1,An [An [n=n,L=L],An [m=m,M=M],An [Zz,Nat.succ i+1=i+1+1,Tt],(↑(1:Nat):Int)=(1:Int),z1=z1,Tt],An [Sm (X++[i6 ↑z]),Ba (X++[i6 ↑z])],Tt]) ⟨Bf hlt,Ar hlt,ha,aq,Cq hm,aq,aq,aq,aq,aq,aq,a_,⟨aq,Nb haf ⟨trivial,trivial⟩⟩,aq⟩
   .rw[if_neg o_]at hw'
    subst hw'
    obtain⟨z,hz⟩: ∃z,z=x+10000*0-w-0:=⟨_,rfl⟩
    rw[<-hz]at hnx
    cases i with
    |zero=>
     obtain rfl:X=[]:=aE hal
     refine .inl ⟨(1,0,[i6 z]),[1],[As 12,pl 17,ld 18 (i6 x),nu 20 ((x:Int)-(w:Int)),no 24,no 32,nu 14 (1:Nat)],1000,⟨hlt,hW,hnx.symm⟩,o_,?_⟩
     clear hnx hbz hW
     refine m_ (p:=let z0:=(↑(0:Nat):Int);let z1:=(↑(1:Nat):Int);let z2:=(↑x:Int);let z3:=(↑w:Int);An [_,_,_,wr .i64 (z2-z3)=z2-z3,_,decide (z2-z3<(0:Int))=false,wr .i64 (z0+(1:Int))=z1,An [An [n=n,L=L],An [m=m,M=M],An [Zz,1=1,Tt],z0=(0:Int),z1=z1,Tt],An [[i6 ↑z]=[i6 (z2-z3)],Tt,Tt],Tt]) ⟨Bf hlt,Ar hlt,ha,aq,Cq hm,aq,aq,a_,⟨?_,a_⟩,aq⟩
     (repeat'(first|(with_reducible apply And.intro)|(refine λ(_:True)=>?_)))<;>first|exact aq|skip
     grind
    |succ i=>
     refine .inl ⟨(i+2,0,X++[i6 z]),[2],[As 12,pl 17,ld 18 (i6 x),nu 20 ((x:Int)-(w:Int)),no 24,no 32,ap 38,nu 14 (i+2:Nat)],1000,⟨hlt,hW,hnx.symm⟩,o_,?_⟩
     clear hnx hbz hW
     refine Eq.mp (by kernel_rfl:(let z0:=(↑(i+1):Int);let z1:=(↑(i+2):Int);let z2:=(↑x:Int);let z3:=(↑w:Int);An [decide (z0<(↑n:Int))=true,An [(0:Int)<=z0,z0<(↑n:Int)],Ae (List.drop ((i+1)*1) L)=some (i6 ↑x),wr .i64 (z2-z3)=z2-z3,decide (z0<(↑m:Int))=false,decide (z2-z3<(0:Int))=false,X.length=(i+1)*1,i+1+1<=9223372036854775807,(i+1+1)*8<=140737488355328,wr .i64 (z0+(1:Int))=z1,An [An [n=n,L=L],An [m=m,M=M],An [Zz,Nat.succ i+1=i+1+1,Tt],(↑(0:Nat):Int)=(0:Int),z1=z1,Tt],An [X++[i6 ↑z]=X++[i6 (z2-z3)],Ba (X++[i6 ↑z])],Tt])=_) ?_
     (repeat'(first|(with_reducible apply And.intro)|(refine λ(_:True)=>?_)))<;>first|exact aq|skip
     all_goals first|exact ha|exact hb|exact Nb haf ⟨trivial,trivial⟩|omega|(rw[hz];refine congrArg (λx:Int=>[V.int .i64 x]) ?_;omega)|(rw[hz];refine congrArg (λx:Int=>X++[V.int .i64 x]) ?_;omega)|rfl|skip
 .obtain rfl:i=(dg a).length:=o_
  rw[GM (Me a) hab]at hX
  rw[<-hX]
  clear hX hw
  unfold dI at*
  generalize Aa ((dg a).map λd:Nat=>(d:Int))=L,Aa ((dg b).map λd:Nat=>(d:Int))=M,(dg a).length=n,(dg b).length=m at*
  cases n with
  |zero=>
   obtain rfl:X=[]:=aE hal
   refine .inr ⟨.exit 0,[],{sl:=[(5,.im 0 Eb)]},[no 12],1000,.inl ⟨trivial,rfl,rfl⟩,?_⟩
   exact m_ (p:=An [_,An [Zz,Tt],Tt]) ⟨Cq hlt,a_⟩
  |succ n=>
   refine .inr ⟨.exit 0,[],{sl:=[(5,.im (n+1) X)]},[no 12],1000,.inl ⟨trivial,rfl,rfl⟩,?_⟩
   exact m_ (p:=An [_,An [An [Sm (n+1),X=X,_],Tt],Tt]) ⟨Cq hlt,⟨⟨aq,aq,haf⟩,aq⟩,aq⟩
theorem S3(a b:Nat)(hab:b<=a)(hla:(dg a).length<=1000000):Ag Pg g0 189 [dV a,dV b] (dV (a-b)):=by
 have hlp:=jc a b hab hla
 have hc:=TY (a-b) (dg a).length (cG (Nat.sub_le _ _) (Me a)) hla
 have hfa:=Ap ((dg a).map λd:Nat=>(d:Int))
 have hfb:=Ap ((dg b).map λd:Nat=>(d:Int))
 have hfc:=Ap ((dg (a-b)).map λd:Nat=>(d:Int))
 have hfd:=Ap ((pd (dg a).length (a-b)).map λd:Nat=>(d:Int))
 unfold VK dV dI at*
 generalize Aa ((pd (dg a).length (a-b)).map λd:Nat=>(d:Int))=D,Aa ((dg (a-b)).map λd:Nat=>(d:Int))=C,Aa ((dg a).map λd:Nat=>(d:Int))=L,Aa ((dg b).map λd:Nat=>(d:Int))=M,(dg (a-b)).length=c,(dg a).length=n,(dg b).length=m at*
 refine Ch {sl:=[(4,.im c C)]} [(0,.loop [] (VK n L m M (0,0,[])) [(True,.exit 0,{sl:=[(5,.im n D)]})]),fn 40 (.im c C)] ?_
 exact m_ (p:=An [Sm (V.im c C),An [An [An [n=n,L=L],An [m=m,M=M],Tt,(↑(0:Nat):Int)=(0:Int),(↑(0:Nat):Int)=(0:Int),Tt],Tt],_,(True->An [_,An [An [c=c,C=C],Tt],Tt]),Tt]) ⟨aq,a_,hlp,(λ_=>⟨hc,a_⟩),aq⟩
def Fa:List Nat->Nat
 |[]=>0
 |d::l=>d+10000*Fa l
theorem Qe(n:Nat):Fa (dg n)=n:=by
 induction n using Nat.strongRecOn with
 | _ n ih=>
  grind[DW,WT,Fa]
theorem vG: ∀(l:List Nat)(k:Nat),k<l.length->Fa (l.take (k+1))=Fa (l.take k)+l.getD k 0*10000^k
 |[],_,h=>by simp at h
 |d::l,0,_=>by simp[Fa]
 |d::l,k+1,h=>by
  have:=vG l k (by simpa using h)
  grind[Fa]
structure Pm(l:List Nat):Prop where
 dig: ∀k,l.getD k 0<=10000
 val:Fa l<=10000^l.length
 len:l.length<=100000
theorem PT(h:(dg n).length<=100000):Pm (dg n):=⟨λk=>by grind[SM],by grind[Qe,Me],h⟩
theorem GR(h:m<=10000):Pm [m]:=⟨λk=>by grind,by assumption,by simp⟩
theorem Ti{y:Nat}(h:j<N)(hd:d<10000)(hy:y=x-x/10000^j%10000*10000^j+d*10000^j):Bg (0+j*1) (dI (pd N x)) [i6 d]=some (dI (pd N y)):=by
 rw[hy,<-lI h hd]
 grind[Ie,Mp,List.map_set]
theorem Za{l:List Nat}(h:j<l.length):Ae ((dI l).drop (j*1))=some (i6 ((l.getD j 0:Nat):Int)):=by
 grind[Dm]
abbrev UW(n:Nat)(A:List V)(m:Nat)(M:List V)(i:Nat)(q:Nat×Nat×List V):SL:={sl:=[(0,.im n A),(1,.im m M),(5,.sl 0 0 (n+m) (some (n+m-(n+m)))),(6,i6 i),(7,i6 q.2.1),(8,i6 q.1)],os:=[.row 3 none q.2.2]}
abbrev Xb(n:Nat)(A:List V)(m:Nat)(M:List V)(q:Nat×List V):SL:={sl:=[(0,.im n A),(1,.im m M),(5,.sl 0 0 (n+m) (some (n+m-(n+m)))),(6,i6 q.1)],os:=[.row 3 none q.2]}
theorem Qk(h:t<9223372036854775808):B6 (B1 Pg) .rem 3 (i6 t) (i6 10000)=some (i6 ((t%10000:Nat):Int)):=by
 trivial
theorem Ql(h:t<9223372036854775808):B6 (B1 Pg) .quo 3 (i6 t) (i6 10000)=some (i6 ((t/10000:Nat):Int)):=by
 grind[Mw]
def AI(a:Nat)(l:List Nat)(i k c x:Nat):Prop:=x+c*10000^(i+k)=a%10000^i*Fa l+a/10000^i%10000*Fa (l.take k)*10000^i
theorem vL{l:List Nat}{k:Nat}(h:AI a l i k c x)(D:Nat)(hD:D*10000^k+Fa (l.take k)*(a/10000^i%10000)=a/10000^i%10000*Fa (l.take (k+1))):AI a l i (k+1) ((c+x/10000^(i+k)%10000+D)/10000) (x-x/10000^(i+k)%10000*10000^(i+k)+(c+x/10000^(i+k)%10000+D)%10000*10000^(i+k)):=by
 unfold AI at h⊢
 have:=Xa (x:=x) (c:=c) (D:=D) (P:=10000^(i+k)) (y:=x-x/10000^(i+k)%10000*10000^(i+k)+(c+x/10000^(i+k)%10000+D)%10000*10000^(i+k)) (λt ht=>by rw[ht])
 grind
theorem Xc{l:List Nat}{k:Nat}(hk:l.length<=k)(h:AI a l i k 0 x):x=a%10000^(i+1)*Fa l:=by
 grind[AI,List.take_of_length_le,MK]
theorem Qm{l:List Nat}(hl:Pm l)(h:AI a l i (l.length+1) c x):c=0:=by
 unfold AI at h
 rw[bF o_]at h
 have e:a%10000^i*Fa l+a/10000^i%10000*Fa l*10000^i=a%10000^(i+1)*Fa l:=by rw[MK,eK,Nat.mul_right_comm]
 rw[e]at h
 refine bS λhc=>?_
 have h1:a%10000^(i+1)*Fa l<10000^(i+1)*10000^l.length:=
  cG (Nat.mul_le_mul_left _ hl.val) (Nat.mul_lt_mul_of_pos_right (aY _ (Jr _)) (Jr _))
 rw[<-dN]at h1
 have h2:1*10000^(i+(l.length+1))<=c*10000^(i+(l.length+1)):=bW _ o_
 grind
theorem Qn(a:Nat)(l:List Nat)(hl:Pm l)(hla:(dg a).length<=100000)(i:Nat)(hi:i<(dg a).length):
  Au Pg none 0 (aT 188 1110100100110) (Al g0 65 (UW (dg a).length (dI (dg a)) l.length (dI l) i (0,0,dI (pd ((dg a).length+l.length) (a%10000^i*Fa l))))) (B3 g0 65 [(True,.exit 2,Xb (dg a).length (dI (dg a)) l.length (dI l) (i,dI (pd ((dg a).length+l.length) (a%10000^(i+1)*Fa l))))]):=by
 refine C9 (aT 188 11101001001100) (λq=>q.1<=l.length+1/\q.2.1<=10000/\∃x,q.2.2=dI (pd ((dg a).length+l.length) x)/\AI a l i q.1 q.2.1 x) (UW (dg a).length (dI (dg a)) l.length (dI l) i) (λq=>l.length+1-q.1) (λq hq=>?_) (0,0,_) ⟨aG _,aG _,_,rfl,by simp[AI,Fa]⟩
 obtain⟨k,c,X⟩:=q
 obtain⟨hk,hc,x,hX,ht⟩:=hq
 dsimp only at hk hc hX ht
 have hf:Ba X:=by rw[hX];exact Ap _
 have hfl:=Ap (l.map λd:Nat=>(d:Int))
 have hfa:=Ap ((dg a).map λd:Nat=>(d:Int))
 have hll:=hl.len
 have hXl:X.length=(dg a).length+l.length:=by rw[hX,Pu,Mp]
 by_cases hlt:k<l.length
 .have ha:=AY (x:=a) hi
  have hb:=Za (l:=l) hlt
  have hh:=mU (k:=(dg a).length+l.length) (x:=x) (j:=i+k) o_
  have hz:x/10000^(i+k)%10000<10000:=aY _ o_
  have hx:a/10000^i%10000<10000:=aY _ o_
  have hy:=hl.dig k
  have hmul:a/10000^i%10000*l.getD k 0<=9999*10000:=cX o_ hy
  have hst:=vL ht (a/10000^i%10000*l.getD k 0) (by grind[vG])
  have hly:=Ti (N:=(dg a).length+l.length) (x:=x) (j:=i+k) (d:=(c+x/10000^(i+k)%10000+a/10000^i%10000*l.getD k 0)%10000) o_ (aY _ o_) rfl
  rw[<-hX]at hh hly
  obtain⟨x',hx'⟩: ∃x',x'=x-x/10000^(i+k)%10000*10000^(i+k)+(c+x/10000^(i+k)%10000+a/10000^i%10000*l.getD k 0)%10000*10000^(i+k):=⟨_,rfl⟩
  rw[<-hx']at hst hly
  have hf':=Ap ((pd ((dg a).length+l.length) x').map λd:Nat=>(d:Int))
  clear hx' ht hX
  have hcc:(c+x/10000^(i+k)%10000+a/10000^i%10000*l.getD k 0)/10000<=10000:=o_
  obtain⟨t,ht⟩: ∃t,t=c+x/10000^(i+k)%10000+a/10000^i%10000*l.getD k 0:=⟨_,rfl⟩
  have htb:t<9223372036854775808:=o_
  have q1:=Qk htb
  have q2:=Ql htb
  rw[<-ht]at hst hly hcc
  refine .inl ⟨(k+1,t/10000,dI (pd ((dg a).length+l.length) x')),[0],[As 24,nu 35 (i+k:Nat),pl 36,ld 37 (i6 ((x/10000^(i+k)%10000:Nat):Int)),nu 38 ((c+x/10000^(i+k)%10000:Nat):Int),As 42,pl 46,ld 47 (i6 ((a/10000^i%10000:Nat):Int)),pl 50,ld 51 (i6 ((l.getD k 0:Nat):Int)),nu 52 ((a/10000^i%10000*l.getD k 0:Nat):Int),nu 53 t,nu 57 (i+k:Nat),va 59 (i6 ((t%10000:Nat):Int)),pl 60,st (dI (pd ((dg a).length+l.length) x')),va 62 (i6 ((t/10000:Nat):Int)),nu 30 (k+1:Nat)],1000,⟨o_,hcc,x',rfl,hst⟩,o_,?_⟩
  clear hst
  unfold dI at*
  generalize Aa ((pd ((dg a).length+l.length) x').map λd:Nat=>(d:Int))=Y at*
  generalize Aa ((dg a).map λd:Nat=>(d:Int))=L at*
  generalize Aa (l.map λd:Nat=>(d:Int))=M at*
  generalize x/10000^(i+k)%10000=z at*
  generalize a/10000^i%10000=y at*
  generalize l.getD k 0=u at*
  generalize (dg a).length=n at*
  generalize l.length=m at*
  have hyu:((y*u:Nat):Int)=(y:Int)*(u:Int):=cJ _ _
  refine C8 (let z0:=(↑(i+k):Int);[_,wr .i64 ((↑i:Int)+(↑k:Int))=z0,An [(0:Int)<=z0,z0<(↑(n+m):Int)],Ae (Af (0+(i+k)*1) X)=some (i6 ↑z),wr .i64 ((↑c:Int)+(↑z:Int))=(↑(c+z):Int),_,_,_,_,_,wr .i64 ((↑y:Int)*(↑u:Int))=(↑(y*u):Int),wr .i64 ((↑(c+z):Int)+(↑(y*u):Int))=(↑t:Int),wr .i64 ((↑i:Int)+(↑k:Int))=z0,_,An [(0:Int)<=z0,z0<(↑(n+m):Int)],_,_,_]) ⟨Bf hlt,aq,a_,?_,aq,Bf hlt,Ar hi,ha,Ar hlt,hb,aq,aq,aq,q1,a_,hly,q2,Dw k o_⟩
  (repeat'(first|(with_reducible apply And.intro)|(refine λ(_:True)=>?_)))<;>first|exact aq|skip
  grind[Om]
 .by_cases hc0:c=0
  .subst hc0
   have he:=Xc o_ ht
   rw[he]at hX
   refine .inr ⟨.exit 2,[0],Xb (dg a).length (dI (dg a)) l.length (dI l) (i,X),[no 24,no 27],1000,.inl ⟨trivial,rfl,by rw[hX]⟩,?_⟩
   clear hX he ht
   unfold dI at*
   generalize Aa ((dg a).map λd:Nat=>(d:Int))=L at*
   generalize Aa (l.map λd:Nat=>(d:Int))=M at*
   generalize (dg a).length=n at*
   generalize l.length=m at*
   exact Cj [_,decide ((↑(0:Nat):Int)>(0:Int))=false] ⟨Cq hlt,aq⟩
  .have hke:k=l.length:=by
    refine bS λhne=>hc0 ?_
    have:k=l.length+1:=o_
    subst this
    exact Qm hl ht
   subst hke
   have hh:=mU (k:=(dg a).length+l.length) (x:=x) (j:=i+l.length) o_
   have hz:x/10000^(i+l.length)%10000<10000:=aY _ o_
   have hst:=vL ht 0 (by grind)
   have hly:=Ti (N:=(dg a).length+l.length) (x:=x) (j:=i+l.length) (d:=(c+x/10000^(i+l.length)%10000+0)%10000) o_ (aY _ o_) rfl
   rw[<-hX]at hh hly
   obtain⟨x',hx'⟩: ∃x',x'=x-x/10000^(i+l.length)%10000*10000^(i+l.length)+(c+x/10000^(i+l.length)%10000+0)%10000*10000^(i+l.length):=⟨_,rfl⟩
   rw[<-hx']at hst hly
   have hf':=Ap ((pd ((dg a).length+l.length) x').map λd:Nat=>(d:Int))
   clear hx' ht hX
   have hcc:(c+x/10000^(i+l.length)%10000+0)/10000<=10000:=o_
   obtain⟨t,ht⟩: ∃t,t=c+x/10000^(i+l.length)%10000+0:=⟨_,rfl⟩
   have htb:t<9223372036854775808:=o_
   have q1:=Qk htb
   have q2:=Ql htb
   rw[<-ht]at hst hly hcc
   refine .inl ⟨(l.length+1,t/10000,dI (pd ((dg a).length+l.length) x')),[0],[no 24,As 27,nu 35 (i+l.length:Nat),pl 36,ld 37 (i6 ((x/10000^(i+l.length)%10000:Nat):Int)),nu 38 t,no 42,nu 57 (i+l.length:Nat),va 59 (i6 ((t%10000:Nat):Int)),pl 60,st (dI (pd ((dg a).length+l.length) x')),va 62 (i6 ((t/10000:Nat):Int)),nu 30 (l.length+1:Nat)],1000,⟨o_,hcc,x',rfl,hst⟩,o_,?_⟩
   clear hst
   unfold dI at*
   generalize Aa ((pd ((dg a).length+l.length) x').map λd:Nat=>(d:Int))=Y at*
   generalize Aa ((dg a).map λd:Nat=>(d:Int))=L at*
   generalize Aa (l.map λd:Nat=>(d:Int))=M at*
   generalize x/10000^(i+l.length)%10000=z at*
   generalize (dg a).length=n at*
   generalize l.length=m at*
   refine C8 (let z0:=(↑(i+m):Int);[_,decide ((↑c:Int)>(0:Int))=true,wr .i64 ((↑i:Int)+(↑m:Int))=z0,An [(0:Int)<=z0,z0<(↑(n+m):Int)],Ae (Af (0+(i+m)*1) X)=some (i6 ↑z),wr .i64 ((↑c:Int)+(↑z:Int))=(↑t:Int),_,wr .i64 ((↑i:Int)+(↑m:Int))=z0,_,An [(0:Int)<=z0,z0<(↑(n+m):Int)],_,_,_]) ⟨Cq hlt,aq,aq,a_,?_,aq,Cq hlt,aq,q1,a_,hly,q2,Dw m o_⟩
   (repeat'(first|(with_reducible apply And.intro)|(refine λ(_:True)=>?_)))<;>first|exact aq|skip
   grind[Om]
theorem cm(a:Nat)(l:List Nat)(hl:Pm l)(hla:(dg a).length<=100000):
  Au Pg none 0 (aT 188 111010) (Al g0 65 (Xb (dg a).length (dI (dg a)) l.length (dI l) (0,dI (pd ((dg a).length+l.length) 0)))) (B3 g0 65 [(True,.exit 0,{sl:=[(5,.im ((dg a).length+l.length) (dI (pd ((dg a).length+l.length) (a*Fa l))))]})]):=by
 refine C9 (aT 188 1110100) (λq=>q.1<=(dg a).length/\q.2=dI (pd ((dg a).length+l.length) (a%10000^q.1*Fa l))) (Xb (dg a).length (dI (dg a)) l.length (dI l)) (λq=>(dg a).length-q.1) (λq hq=>?_) (0,_) ⟨aG _,by grind⟩
 obtain⟨i,X⟩:=q
 obtain⟨hi,hX⟩:=hq
 dsimp only at hi hX
 subst hX
 have hll:=hl.len
 have hfl:=Ap (l.map λd:Nat=>(d:Int))
 have hfa:=Ap ((dg a).map λd:Nat=>(d:Int))
 have hfx:=Ap ((pd ((dg a).length+l.length) (a%10000^i*Fa l)).map λd:Nat=>(d:Int))
 have hxl:(dI (pd ((dg a).length+l.length) (a%10000^i*Fa l))).length=(dg a).length+l.length:=by rw[Pu,Mp]
 by_cases hlt:i<(dg a).length
 .have hin:=Qn a l hl hla i hlt
  have hfy:=Ap ((pd ((dg a).length+l.length) (a%10000^(i+1)*Fa l)).map λd:Nat=>(d:Int))
  have hyl:(dI (pd ((dg a).length+l.length) (a%10000^(i+1)*Fa l))).length=(dg a).length+l.length:=by rw[Pu,Mp]
  refine .inl ⟨(i+1,dI (pd ((dg a).length+l.length) (a%10000^(i+1)*Fa l))),[0],[As 18,(0,.loop [0] (UW (dg a).length (dI (dg a)) l.length (dI l) i (0,0,dI (pd ((dg a).length+l.length) (a%10000^i*Fa l)))) [(True,.exit 2,Xb (dg a).length (dI (dg a)) l.length (dI l) (i,dI (pd ((dg a).length+l.length) (a%10000^(i+1)*Fa l))))]),nu 20 (i+1:Nat)],1000,⟨hlt,rfl⟩,o_,?_⟩
  unfold dI UW Xb at*
  generalize Aa ((pd ((dg a).length+l.length) (a%10000^i*Fa l)).map λd:Nat=>(d:Int))=X,Aa ((pd ((dg a).length+l.length) (a%10000^(i+1)*Fa l)).map λd:Nat=>(d:Int))=Y,Aa ((dg a).map λd:Nat=>(d:Int))=L,Aa (l.map λd:Nat=>(d:Int))=M,(dg a).length=n,l.length=m at*
  exact m_ (p:=let z4:=An [Zz,Sm (n+m),Sm (n+m-(n+m))];An [_,An [An [An [n=n,L=L],An [m=m,M=M],z4,(↑i:Int)=(↑i:Int),(↑(0:Nat):Int)=(0:Int),(↑(0:Nat):Int)=(0:Int),Tt],An [X=X,_],Tt],_,(True->An [_,An [An [n=n,L=L],An [m=m,M=M],z4,(↑(i+1):Int)=(↑(i+1):Int),Tt],An [Y=Y,_],Tt]),Tt]) ⟨Bf hlt,⟨a_,⟨aq,hfx⟩,aq⟩,hin,(λ_=>⟨Dw i o_,a_,⟨aq,hfy⟩,aq⟩),aq⟩
 .have hi2:i=(dg a).length:=o_
  have hm:a%10000^i=a:=by rw[hi2];exact bO (Me a)
  rw[hm]at hfx hxl⊢
  clear hm
  subst hi2
  refine .inr ⟨.exit 0,[],{sl:=[(5,.im ((dg a).length+l.length) (dI (pd ((dg a).length+l.length) (a*Fa l))))]},[no 18],1000,.inl ⟨trivial,rfl,rfl⟩,?_⟩
  unfold dI Xb at*
  generalize Aa ((pd ((dg a).length+l.length) (a*Fa l)).map λd:Nat=>(d:Int))=X,Aa ((dg a).map λd:Nat=>(d:Int))=L,Aa (l.map λd:Nat=>(d:Int))=M,(dg a).length=n,l.length=m at*
  exact m_ (p:=An [_,An [An [Sm (n+m),X=X,_],Tt],Tt]) ⟨Cq hlt,⟨⟨aq,aq,hfx⟩,aq⟩,aq⟩
theorem zQ(a:Nat)(l:List Nat)(hl:Pm l)(hla:(dg a).length<=100000):Ag Pg g0 188 [dV a,.im l.length (dI l)] (dV (a*Fa l)):=by
 have hlp:=cm a l hl hla
 have hll:=hl.len
 have hc:=TY (a*Fa l) ((dg a).length+l.length) (by
  rw[dN]
  exact cG (Nat.mul_le_mul_left _ hl.val) (Nat.mul_lt_mul_of_pos_right (Me a) (Jr _))) o_
 have hz:Cx ((dg a).length+l.length) [i6 0]=dI (pd ((dg a).length+l.length) 0):=by
  rw[Lh]
  have: ∀k,pd k 0=List.replicate k 0:=λk=>by
   induction k with
   |zero=>rfl
   |succ k ih=>grind[pd]
  rw[this]
  unfold dI
  rw[List.map_replicate]
  rfl
 have hfl:=Ap (l.map λd:Nat=>(d:Int))
 have hfa:=Ap ((dg a).map λd:Nat=>(d:Int))
 have hfx:=Ap ((pd ((dg a).length+l.length) (a*Fa l)).map λd:Nat=>(d:Int))
 have hf0:=Ap ((pd ((dg a).length+l.length) 0).map λd:Nat=>(d:Int))
 have hfc:=Ap ((dg (a*Fa l)).map λd:Nat=>(d:Int))
 unfold dV dI Xb at*
 generalize Aa ((pd ((dg a).length+l.length) (a*Fa l)).map λd:Nat=>(d:Int))=X at*
 generalize Aa ((pd ((dg a).length+l.length) 0).map λd:Nat=>(d:Int))=Z at*
 generalize Aa ((dg (a*Fa l)).map λd:Nat=>(d:Int))=C at*
 generalize Aa ((dg a).map λd:Nat=>(d:Int))=L at*
 generalize Aa (l.map λd:Nat=>(d:Int))=M at*
 generalize (dg (a*Fa l)).length=c at*
 generalize (dg a).length=n at*
 generalize l.length=m at*
 refine Ch {sl:=[(4,.im c C)]} [nu 13 (n+m:Nat),mk 14,(0,.loop [0] (Xb n L m M (0,Z)) [(True,.exit 0,{sl:=[(5,.im (n+m) X)]})]),fn 64 (.im c C)] ?_
 exact m_ (p:=let z0:=(↑(n+m):Int);An [Sm (V.im c C),wr .i64 ((↑n:Int)+(↑m:Int))=z0,An [(0:Int)<=z0,z0<=z0,(↑(8:Nat):Int)*z0<=(281474976710656:Int),z0<=(9223372036854775807:Int)],An [An [An [n=n,L=L],An [m=m,M=M],An [Zz,Sm (n+m),Sm (n+m-(n+m))],(↑(0:Nat):Int)=(0:Int),Tt],An [Z=Cx (n+m) [i6 0],_],Tt],_,(True->An [_,An [An [c=c,C=C],Tt],Tt]),Tt]) ⟨aq,aq,a_,⟨a_,⟨aq,hf0⟩,aq⟩,hlp,(λ_=>⟨hc,a_⟩),aq⟩
theorem da(a b:Nat)(hla:(dg a).length<=100000)(hlb:(dg b).length<=100000):Ag Pg g0 188 [dV a,dV b] (dV (a*b)):=by
 have:=zQ a (dg b) (PT hlb) hla
 grind[Qe]
theorem i7(a m:Nat)(hla:(dg a).length<=100000)(hm:m<=10000):Ag Pg g0 188 [dV a,.im 1 [i6 m]] (dV (a*m)):=by
 have:=zQ a [m] (GR hm) hla
 assumption
abbrev Qa(n:Nat)(L:List V)(a:Nat)(j:Nat):SL:={sl:=[(0,.im n L),(4,i6 ((a/10000^j:Nat):Int)),(5,i6 (Dr j))]}
theorem g9(a:Nat)(ha:a<=4611686018427387903)(hla:(dg a).length<=100000):
  Au Pg none 0 (aT 176 1111010) (Al g0 25 (Qa (dg a).length (dI (dg a)) a (dg a).length)) (B3 g0 25 [(True,.exit 0,{sl:=[(4,i6 a)]})]):=by
 refine C9 (aT 176 11110100) (λj=>j<=(dg a).length) (Qa (dg a).length (dI (dg a)) a) (λj=>j) (λj hj=>?_) (dg a).length (aC _)
 have hfa:=Ap ((dg a).map λd:Nat=>(d:Int))
 cases j with
 |zero=>
  refine .inr ⟨.exit 0,[],{sl:=[(4,i6 a)]},[],1000,.inl ⟨trivial,rfl,rfl⟩,?_⟩
  unfold Qa dI at*
  simp only[Nat.pow_zero,Nat.div_one]
  exact Cj [] trivial
 |succ j=>
  have hd:=AY (x:=a) (show j<(dg a).length by omega)
  have hv:=MI a j
  have h1:=eE a (10000^j)
  have hq:Dr j=(j:Int)-1:=by cases j with|zero=>rfl|succ j=>grind[Dr]
  refine .inl ⟨j,[],[As 14,nu 18 ((10000*(a/10000^(j+1)):Nat):Int),pl 21,ld 22 (i6 ((a/10000^j%10000:Nat):Int)),nu 23 ((a/10000^j:Nat):Int),nu 16 (Dr j)],1000,o_,o_,?_⟩
  unfold Qa dI at*
  simp only[show Dr (j+1)=(j:Int)from rfl]
  generalize Aa ((dg a).map λd:Nat=>(d:Int))=L at*
  generalize a/10000^j%10000=d at*
  generalize a/10000^j=u at*
  generalize a/10000^(j+1)=w at*
  generalize Dr j=q at*
  generalize (dg a).length=n at*
  exact C8 (let z1:=(↑(10000*w):Int);[decide ((↑j:Int)≥(0:Int))=true,wr .i64 ((10000:Int)*(↑w:Int))=z1,_,_,wr .i64 (z1+(↑d:Int))=(↑u:Int),wr .i64 ((↑j:Int)-(1:Int))=q]) ⟨aq,aq,Ar hj,hd,a_⟩
theorem xP(a:Nat)(ha:a<=4611686018427387903)(hla:(dg a).length<=100000):Ag Pg g0 176 [dV a] (.tup [i6 a,.bool true]):=by
 have hlp:=g9 a ha hla
 have hdg:=nE 4611686018427387903 d_
 have hml:(dg 4611686018427387903).length<=1000000:=aP (EF (k:=5) d_) d_
 have hcp:=tM a 4611686018427387903 o_ hml
 have hz:Gu a 4611686018427387903<=0:=by
  unfold Gu
  split
  .omega
  .split<;>omega
 have hd:Dr (dg a).length=((dg a).length:Int)-1:=by cases(dg a).length with|zero=>rfl|succ j=>grind[Dr]
 have hfa:=Ap ((dg a).map λd:Nat=>(d:Int))
 have hfm:=Ap ((dg 4611686018427387903).map λd:Nat=>(d:Int))
 have h0:a/10000^(dg a).length=0:=cW (Me a)
 unfold Qa at hlp
 rw[h0]at hlp
 unfold dV dI at*
 generalize Gu a 4611686018427387903=z at*
 generalize Aa ((dg 4611686018427387903).map λd:Nat=>(d:Int))=M at*
 generalize (dg 4611686018427387903).length=m at*
 generalize Aa ((dg a).map λd:Nat=>(d:Int))=L at*
 generalize Dr (dg a).length=q at*
 generalize (dg a).length=n at*
 refine Ch {sl:=[(2,i6 a),(3,.bool true)]} [fn 7 (.im m M),fn 8 (i6 z),no 9,nu 12 q,(0,.loop [] {sl:=[(0,.im n L),(4,i6 ((0:Nat):Int)),(5,i6 q)]} [(True,.exit 0,{sl:=[(4,i6 a)]})])] ?_
 exact m_ (p:=An [Sm (V.tup [i6 ↑a,V.bool true]),Ag Tryz.prog g0 166 [i6 4611686018427387903] (V.im m M),_,decide (z>(0:Int))=false,wr .i64 ((↑n:Int)-(1:Int))=q,An [An [An [n=n,L=L],(↑(0:Nat):Int)=(0:Int),q=q,Tt],Tt],_,(True->An [An [Sm (↑a:Int),Sm true,Tt],Tt]),Tt]) ⟨aq,aq,hcp,aq,aq,a_,hlp,a_⟩
abbrev Jb(a b n N:Nat)(Q:List V)(x:Nat)(i:Int)(l:List (Nat×V)):SL:={sl:=(0,dV a)::(1,dV b)::(6,i6 n)::(7,.sl 0 0 N (some (N-N)))::(8,dV x)::(9,i6 i)::l,os:=[.row 3 none Q]}
theorem je(a b n N:Nat)(Q:List V)(hQ:Ba Q)(x:Nat)(i:Int)(hn:(dg b).length=n+1)(hx:x<10000^(n+2))(hnb:n<=100000)(hNb:N<=100000):
  Au Pg none 0 (aT 175 111111010010011010) (Al g0 124 (Jb a b n N Q x i [(10,i6 0),(11,i6 0),(12,i6 ((n+1:Nat):Int))])) (B3 g0 124 [(True,.exit 2,Jb a b n N Q x i [(10,i6 ((b/10000^(n-1):Nat):Int)),(11,i6 ((x/10000^(n-1):Nat):Int))])]):=by
 have hb:b<10000^(n+1):=hn▸Me b
 have hb2:b<10000^(n+2):=aQ hb (aH o_ o_)
 have hm:(dg x).length<=n+2:=EF hx
 have s0:Jb a b n N Q x i [(10,i6 0),(11,i6 0),(12,i6 ((n+1:Nat):Int))]=Jb a b n N Q x i [(10,i6 ((b/10000^(n+2):Nat):Int)),(11,i6 ((x/10000^(n+2):Nat):Int)),(12,i6 (Dr (n+2)))]:=by
  rw[cW hb2,cW hx]
  rfl
 rw[s0]
 refine C9 (aT 175 1111110100100110100) (λj=>n-1<=j/\j<=n+2) (λj=>Jb a b n N Q x i [(10,i6 ((b/10000^j:Nat):Int)),(11,i6 ((x/10000^j:Nat):Int)),(12,i6 (Dr j))]) (λj=>j) (λj hj=>?_) (n+2) ⟨o_,aC _⟩
 obtain⟨hj1,hj2⟩:=hj
 have hfa:=Ap ((dg a).map λd:Nat=>(d:Int))
 have hfb:=Ap ((dg b).map λd:Nat=>(d:Int))
 have hfx:=Ap ((dg x).map λd:Nat=>(d:Int))
 by_cases hje:j=n-1
 .have hq:Dr j<(if(n:Int)-1>0 then(n:Int)-1 else 0):=by
   subst hje
   cases hc:n-1 with
   |zero=>grind[Dr]
   |succ k=>grind[Dr]
  rw[<-hje]
  refine .inr ⟨.exit 2,[0],Jb a b n N Q x i [(10,i6 ((b/10000^j:Nat):Int)),(11,i6 ((x/10000^j:Nat):Int))],[nu 58 ((n:Int)-1),no 60],1000,.inl ⟨trivial,rfl,rfl⟩,?_⟩
  unfold Jb dV dI at*
  generalize Aa ((dg a).map λd:Nat=>(d:Int))=A at*
  generalize Aa ((dg b).map λd:Nat=>(d:Int))=B at*
  generalize Aa ((dg x).map λd:Nat=>(d:Int))=X at*
  generalize Dr j=q at*
  exact Cj (let z0:=(↑n:Int);let z1:=(1:Int);[wr .i64 (z0-z1)=z0-z1,decide (q≥if z0-z1>(0:Int)then z0-z1 else(0:Int))=false]) ⟨aq,aq⟩
 .cases j with
  |zero=>omega
  | succ j =>
   have hq:Dr j=(j:Int)-1:=by cases j with|zero=>rfl|succ j=>grind[Dr]
   have hge:(if(n:Int)-1>0 then(n:Int)-1 else 0)<=(j:Int):=by split<;>omega
   have vx:=MI x j
   have vb:=MI b j
   have bx:x/10000^j<1000000000000:=by
    rw[bH (Jr j)]
    refine aQ hx ?_
    rw[show(1000000000000:Nat)=10000^3 by decide,<-dN]
    exact aH o_ o_
   have bb:b/10000^j<1000000000000:=by
    rw[bH (Jr j)]
    refine aQ hb2 ?_
    rw[show(1000000000000:Nat)=10000^3 by decide,<-dN]
    exact aH o_ o_
   have dx:=λh=>AY (x:=x) (j:=j) h
   have db:=λh=>AY (x:=b) (j:=j) h
   have zx: ¬j<(dg x).length->x/10000^j%10000=0:=λh=>by rw[<-SM,aA,aX o_];rfl
   have zb: ¬j<(dg b).length->b/10000^j%10000=0:=λh=>by rw[<-SM,aA,aX o_];rfl
   have zb2: ¬j<=n->b/10000^j=0:=λh=>cW (aQ hb (aH o_ o_))
   have key: ∃hs,vc Pg vE E0 none 0 1000 (aT 175 1111110100100110100) hs (Al g0 124 (Jb a b n N Q x i [(10,i6 ((b/10000^(j+1):Nat):Int)),(11,i6 ((x/10000^(j+1):Nat):Int)),(12,i6 (Dr (j+1)))])) (L8 0 124 [0] (Jb a b n N Q x i [(10,i6 ((b/10000^j:Nat):Int)),(11,i6 ((x/10000^j:Nat):Int)),(12,i6 (Dr j))])):=by
    clear hx hb hb2 s0
    unfold Jb dV dI at*
    simp only[show Dr (j+1)=(j:Int)from rfl]
    generalize Aa ((dg a).map λd:Nat=>(d:Int))=A at*
    generalize Aa ((dg b).map λd:Nat=>(d:Int))=B at*
    generalize Aa ((dg x).map λd:Nat=>(d:Int))=X at*
    generalize x/10000^j%10000=d at*
    generalize b/10000^j%10000=e at*
    generalize x/10000^(j+1)=x1 at*
    generalize x/10000^j=x0 at*
    generalize b/10000^(j+1)=b1 at*
    generalize b/10000^j=b0 at*
    generalize Dr j=q at*
    generalize (dg x).length=m at*
    generalize (dg a).length=la at*
    rw[hn]at*
    by_cases h1:j<m
    .have dx:=dx h1
     by_cases h2:j<=n
     .have db:=db o_
      refine⟨[nu 58 ((n:Int)-1),As 60,nu 64 ((10000*x1:Nat):Int),As 68,pl 72,ld 73 (i6 d),nu 74 x0,As 77,nu 79 ((10000*b1:Nat):Int),pl 82,ld 83 (i6 e),nu 84 b0,nu 62 q],?_⟩
      exact m_ (p:=let z0:=(↑j:Int);let z1:=(↑n:Int);let z3:=(↑x0:Int);let z4:=(↑b0:Int);let z6:=(↑(10000*x1):Int);let z7:=(↑(10000*b1):Int);An [wr .i64 (z1-(1:Int))=z1-(1:Int),_,wr .i64 ((↑x1:Int)*(10000:Int))=z6,_,_,_,wr .i64 (z6+(↑d:Int))=z3,decide (z0<=z1)=true,wr .i64 ((↑b1:Int)*(10000:Int))=z7,An [(0:Int)<=z0,z0<(↑(n+1):Int)],_,wr .i64 (z7+(↑e:Int))=z4,wr .i64 (z0-(1:Int))=q,An [An [la=la,A=A],An [_,B=B],z1=z1,An [Zz,N=N,Sm (N-N)],An [m=m,X=X],i=i,z4=z4,z3=z3,q=q,Tt],An [Q=Q,_],Tt]) ⟨aq,Pp hge,aq,Bf h1,Ar h1,dx,aq,aq,aq,a_,db,aq,aq,⟨a_,⟨hn,aq⟩,a_⟩,⟨aq,hQ⟩,aq⟩
     .have zb:=zb2 o_
      obtain rfl:b0=b1:=o_
      refine⟨[nu 58 ((n:Int)-1),As 60,nu 64 ((10000*x1:Nat):Int),As 68,pl 72,ld 73 (i6 d),nu 74 x0,no 77,nu 62 q],?_⟩
      exact m_ (p:=let z0:=(↑n:Int);let z3:=(↑x0:Int);let z4:=(↑(10000*x1):Int);An [wr .i64 (z0-(1:Int))=z0-(1:Int),_,wr .i64 ((↑x1:Int)*(10000:Int))=z4,_,_,_,wr .i64 (z4+(↑d:Int))=z3,decide ((↑j:Int)<=z0)=false,wr .i64 ((↑j:Int)-(1:Int))=q,An [An [la=la,A=A],An [_,B=B],z0=z0,An [Zz,N=N,Sm (N-N)],An [m=m,X=X],i=i,Sm (↑b0:Int),z3=z3,q=q,Tt],An [Q=Q,_],Tt]) ⟨aq,Pp hge,aq,Bf h1,Ar h1,dx,aq,aq,aq,⟨a_,⟨hn,aq⟩,a_⟩,⟨aq,hQ⟩,aq⟩
    .have zx:=zx h1
     obtain rfl:x0=10000*x1:=o_
     by_cases h2:j<=n
     .have db:=db o_
      refine⟨[nu 58 ((n:Int)-1),As 60,nu 64 ((10000*x1:Nat):Int),no 68,As 77,nu 79 ((10000*b1:Nat):Int),pl 82,ld 83 (i6 e),nu 84 b0,nu 62 q],?_⟩
      exact m_ (p:=let z0:=(↑n:Int);let z1:=(↑j:Int);let z2:=(↑(10000*x1):Int);let z4:=(↑b0:Int);let z5:=(↑(10000*b1):Int);An [wr .i64 (z0-(1:Int))=z0-(1:Int),_,wr .i64 ((↑x1:Int)*(10000:Int))=z2,_,decide (z1<=z0)=true,wr .i64 ((↑b1:Int)*(10000:Int))=z5,An [(0:Int)<=z1,z1<(↑(n+1):Int)],_,wr .i64 (z5+(↑e:Int))=z4,wr .i64 (z1-(1:Int))=q,An [An [la=la,A=A],An [_,B=B],z0=z0,An [Zz,N=N,Sm (N-N)],An [m=m,X=X],i=i,z4=z4,z2=z2,q=q,Tt],An [Q=Q,_],Tt]) ⟨aq,Pp hge,aq,Cq h1,aq,aq,a_,db,aq,aq,⟨a_,⟨hn,aq⟩,a_⟩,⟨aq,hQ⟩,aq⟩
     .have zb:=zb2 o_
      obtain rfl:b0=b1:=o_
      refine⟨[nu 58 ((n:Int)-1),As 60,nu 64 ((10000*x1:Nat):Int),no 68,no 77,nu 62 q],?_⟩
      exact m_ (p:=let z0:=(↑n:Int);let z1:=(↑(10000*x1):Int);An [wr .i64 (z0-(1:Int))=z0-(1:Int),_,wr .i64 ((↑x1:Int)*(10000:Int))=z1,_,decide ((↑j:Int)<=z0)=false,wr .i64 ((↑j:Int)-(1:Int))=q,An [An [la=la,A=A],An [_,B=B],z0=z0,An [Zz,N=N,Sm (N-N)],An [m=m,X=X],i=i,Sm (↑b0:Int),z1=z1,q=q,Tt],An [Q=Q,_],Tt]) ⟨aq,Pp hge,aq,Cq h1,aq,aq,⟨a_,⟨hn,aq⟩,a_⟩,⟨aq,hQ⟩,aq⟩
   grind
theorem X1(h:t<9223372036854775808):B6 (B1 Pg) .quo 3 (i6 t) (i6 2)=some (i6 ((t/2:Nat):Int)):=by
 grind[Mw]
theorem Zx:(a<=b/\Gu a b<=0)\/(b<a/\0<Gu a b):=by
 grind[nT,uP,nU]
theorem jf(a b n N:Nat)(Q:List V)(hQ:Ba Q)(x:Nat)(i:Int)(hb0:0<b)(hlb:(dg b).length<=100000)(hlx:(dg x).length<=100000)(lo0 hi0:Nat)(h1:lo0<=x/b)(h2:x/b<=hi0)(h3:hi0<=10000):
  Au Pg none 0 (aT 175 1111110100100111100) (Al g0 124 (Jb a b n N Q x i [(13,i6 lo0),(14,i6 hi0)])) (B3 g0 124 [(True,.exit 4,Jb a b n N Q x i [(13,i6 ((x/b:Nat):Int))])]):=by
 refine C9 (aT 175 11111101001001111000) (λq=>q.1<=x/b/\x/b<=q.2/\q.2<=10000) (λq=>Jb a b n N Q x i [(13,i6 q.1),(14,i6 q.2)]) (λq=>q.2-q.1) (λq hq=>?_) (lo0,hi0) ⟨h1,h2,h3⟩
 obtain⟨lo,hi⟩:=q
 obtain⟨h1,h2,h3⟩:=hq
 dsimp only at h1 h2 h3
 have hfa:=Ap ((dg a).map λd:Nat=>(d:Int))
 have hfb:=Ap ((dg b).map λd:Nat=>(d:Int))
 have hfx:=Ap ((dg x).map λd:Nat=>(d:Int))
 by_cases hlt:lo<hi
 .obtain⟨m,hm⟩: ∃m,m=(lo+hi+1)/2:=⟨_,rfl⟩
  have hm1:lo<m/\m<=hi:=o_
  have hq2:=X1 (t:=lo+hi+1) o_
  rw[<-hm]at hq2
  have htm:=i7 b m hlb o_
  have hbl:(dg (b*m)).length<=1000000:=by
   refine aP (EF (k:=(dg b).length+2) ?_) o_
   rw[dN]
   exact Nat.mul_lt_mul_of_lt_of_le (Me b) o_ d_
  have hcm:=tM (b*m) x hbl o_
  have hup:=λh=>QX (R:=x) (m:=m) hb0 h
  have hdn:=λh=>QY (R:=x) (m:=m) hb0 h
  have hz:=Zx (a:=b*m) (b:=x)
  have hfm:=Ap ((dg (b*m)).map λd:Nat=>(d:Int))
  unfold Jb dV dI at*
  generalize Gu (b*m) x=z,x/b=w,Aa ((dg a).map λd:Nat=>(d:Int))=A,Aa ((dg b).map λd:Nat=>(d:Int))=B,Aa ((dg x).map λd:Nat=>(d:Int))=X,Aa ((dg (b*m)).map λd:Nat=>(d:Int))=M,(dg (b*m)).length=k,(dg a).length=la,(dg b).length=lb,(dg x).length=lx at*
  have hcall:Ac Pg g0 (.fn 188 []) [.im lb B,.sl 1 0 1 (some 0)] (pt (Ai .e 0 [.row 3 none Q]) 1 (.row 3 none [i6 m])) (1+1) ⟨.im k M,Ai .e 0 [.row 3 none Q,.dead],2,[1]⟩:=
   CT (t:=3) (sp:=none) htm trivial trivial ⟨trivial,trivial⟩ k_ k_
  rcases hz with⟨hle,hz⟩|⟨hgt,hz⟩
  .have hup:=hup hle
   refine .inl ⟨(m,hi),[0],[As 94,nu 97 (lo+hi:Nat),nu 98 (lo+hi+1:Nat),va 99 (i6 m),(103,.call ⟨.im k M,Ai .e 0 [.row 3 none Q,.dead],2,[1]⟩),fn 105 (i6 z),As 106],1000,⟨hup,h2,h3⟩,o_,?_⟩
   exact C8 [_,wr .i64 ((↑lo:Int)+(↑hi:Int))=(↑(lo+hi):Int),wr .i64 ((↑(lo+hi):Int)+(1:Int))=(↑(lo+hi+1):Int),_,_,_,_] ⟨Bf hlt,aq,aq,hq2,hcall,hcm,Pp hz⟩
  .have hdn:=hdn o_
   refine .inl ⟨(lo,m-1),[0],[As 94,nu 97 (lo+hi:Nat),nu 98 (lo+hi+1:Nat),va 99 (i6 m),(103,.call ⟨.im k M,Ai .e 0 [.row 3 none Q,.dead],2,[1]⟩),fn 105 (i6 z),no 106,nu 109 ((m-1:Nat):Int)],1000,⟨h1,hdn,by dsimp only;omega⟩,by dsimp only;omega,?_⟩
   exact C8 [_,wr .i64 ((↑lo:Int)+(↑hi:Int))=(↑(lo+hi):Int),wr .i64 ((↑(lo+hi):Int)+(1:Int))=(↑(lo+hi+1):Int),_,_,_,decide (z<=(0:Int))=false,wr .i64 ((↑m:Int)-(1:Int))=(↑(m-1):Int)] ⟨Bf hlt,aq,aq,hq2,hcall,hcm,aq,aq⟩
 .have he:=IH h1 h2 hlt
  rw[<-he]
  refine .inr ⟨.exit 4,[0],Jb a b n N Q x i [(13,i6 lo)],[no 94],1000,.inl ⟨trivial,rfl,rfl⟩,?_⟩
  unfold Jb dV dI at*
  generalize Aa ((dg a).map λd:Nat=>(d:Int))=A,Aa ((dg b).map λd:Nat=>(d:Int))=B,Aa ((dg x).map λd:Nat=>(d:Int))=X at*
  exact Cj [_] (Cq hlt)
theorem WN{f:Nat}{room:Option Nat}{cs:List V}{sp:Option Nat}{v:V}{H2:T O}(hf:Ag Pg g0 f [.im n cs] v)(hv:Hf v)(hc:Ba cs)(ho:gt H h=some (.row t sp cs))(h2:H2=pt H h .dead):Ac Pg g0 (.fn f []) [.sl h 0 n room] H nx ⟨v,H2,nx,[h]⟩:=by
 subst h2
 refine lL [h] hf ⟨_,_,rfl,.inr (.inr ⟨h,0,room,t,sp,cs,rfl,aN.2 rfl,by grind[Cm],Bq.of_hf _ hc⟩),rfl⟩ hv (λg hg=>?_) (λi hi=>?_) (λi hi=>?_)
 .grind[Cm]
 .rw[<-Cm,<-Cm,Ad,if_neg (λe=>hi (aN.2 e))]
 .obtain rfl:=aN.1 hi
  rw[<-Cm,Ad,if_pos rfl]
theorem tN{s:Nat}(ht:0<t)(h:s<9223372036854775808):B6 (B1 Pg) .quo 3 (i6 s) (i6 t)=some (i6 ((s/t:Nat):Int)):=by
 have e:((s:Nat):Int).tdiv (t:Int)=((s/t:Nat):Int):=(Int.ofNat_tdiv s t).symm
 have hle:=eE s t
 grind[Mw]
theorem X7{k:Nat}(hd:d<10000):pd (k+1) (x*10000+d)=d::pd k x:=by
 grind[pd]
def J7(q j:Nat):Nat:=q/10000^j*10000^j
theorem X2(hj:j<N):(pd N (J7 q (j+1))).set j (q/10000^j%10000)=pd N (J7 q j):=by
 rw[lI hj (aY _ o_)]
 grind[J7,MI,Nat.mul_div_cancel,Nat.add_mul]
theorem X3(hj:j<N):Bg (0+j*1) (dI (pd N (J7 q (j+1)))) [i6 ((q/10000^j%10000:Nat):Int)]=some (dI (pd N (J7 q j))):=by
 grind[X2,Ie,Mp,List.map_set]
theorem OP(a b j:Nat):a/10000^j/b-10000*(a/10000^(j+1)/b)=a/b/10000^j%10000:=by
 have h:=MI (a/b) j
 grind[Nat.div_div_eq_div_mul,Nat.mul_comm]
end Go.Proofs.YtifdkhfldbkkpaaGreat.Am
