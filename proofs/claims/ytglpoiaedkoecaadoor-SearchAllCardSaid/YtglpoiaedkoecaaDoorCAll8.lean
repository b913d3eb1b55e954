/- Texts behind the claim, part 8: the abstract machine, and what the functions answer. No condition. -/
import Derived.Test.YtglpoiaedkoecaaDoorCAll7
set_option linter.unusedVariables false
set_option linter.unusedSimpArgs false
set_option linter.unusedSectionVars false
namespace Go.Proofs.YtglpoiaedkoecaaDoor.Am
open Go.RowKit
set_option maxHeartbeats 4000000
set_option maxRecDepth 100000
theorem parts_fn(w lim:Nat):FnOk Pg g0 110 [u6 (w:Nat),i6 (lim:Nat)] (.fn 122 [.imp [i6 (lim:Nat)],.imp [u6 (w:Nat)]]):=by
 refine FnOk.of_vc vE_ok mixed Qab (n:=1000) (r:=[]) (S:={sl:=[(4,.fn 122 [.imp [i6 (lim:Nat)],.imp [u6 (w:Nat)]])]}) (hs:=[]) ?_
 refine Eq.mp (by kernel_rfl:(An [Sm (V.fn 122 [V.imp [i6 ↑lim],V.imp [u6 ↑w]]),An [An [An [Sm [i6 ↑lim],Tt,Tt],An [Sm [u6 ↑w],Tt,Tt],Tt],Tt],Tt])=_) ?_
 (repeat'(first|(with_reducible apply And.intro)|(refine fun(_:True)=>?_)))
 all_goals first|exact aq|rfl|skip
theorem bit_i: ∀s:Nat,s<32→∀v:Nat,v<5→∀b:Nat,b<2→(s.testBit v=decide (b=1)→IntKind.i64.wrap ((BitVec.ofInt 64 ((s/2^v:Nat):Int)&&& BitVec.ofInt 64 1).toNat:Int)=(b:Int)):=by decide+kernel
theorem rm_i: ∀s:Nat,s<32→∀v:Nat,v<5→(s.testBit v=true→IntKind.u64.wrap ((BitVec.ofInt 64 (s:Int)&&& ~~~ BitVec.ofInt 64 ((2^v:Nat):Int)).toNat:Int)=((s-2^v:Nat):Int)):=by decide+kernel
theorem rm_j: ∀s:Nat,s<32→∀v:Nat,v<5→(s.testBit v=true→IntKind.i64.wrap ((BitVec.ofInt 64 (s:Int)&&& ~~~ BitVec.ofInt 64 ((2^v:Nat):Int)).toNat:Int)=((s-2^v:Nat):Int)):=by decide+kernel
theorem shl_all: ∀v:Nat,v<16→wr .i64 (1*((2^min ((v:Nat):Int).toNat IntKind.i64.bits:Nat):Int))=((2^v:Nat):Int):=by decide+kernel
theorem shr_i{G:Ctx}{t:Nat}{x k:Nat}(hk:k≤64):binV G .shr t (i6 (x:Int)) (i6 (k:Int))=some (i6 ((x/2^k:Nat):Int)):=by
 have h1:((k:Int)<0)=False:=by simp
 have h2:min k 64=k:=by omega
 simp only[binV,intV,h1,if_false,Int.toNat_natCast,IntKind.bits,h2]
 rw[Int.fdiv_eq_ediv_of_nonneg _ (Int.natCast_nonneg _)]
 rfl
theorem Qng{G:Ctx}{t s v b:Nat}(hs:s<32)(hv:v<5)(hb:b<2)(h:s.testBit v=decide (b=1)):binV G .and t (i6 ((s/2^v:Nat):Int)) (i6 1)=some (i6 (b:Int)):=by
 have e:binV G .and t (i6 ((s/2^v:Nat):Int)) (i6 1)=some (.int .i64 (IntKind.i64.wrap ((BitVec.ofInt 64 ((s/2^v:Nat):Int)&&& BitVec.ofInt 64 1).toNat:Int))):=rfl
 rw[e,bit_i s hs v hv b hb h]
theorem andn_u{G:Ctx}{t s v:Nat}(hs:s<32)(hv:v<5)(h:s.testBit v=true):binV G .andNot t (u6 (s:Int)) (u6 ((2^v:Nat):Int))=some (u6 ((s-2^v:Nat):Int)):=by
 have e:binV G .andNot t (u6 (s:Int)) (u6 ((2^v:Nat):Int))=some (.int .u64 (IntKind.u64.wrap ((BitVec.ofInt 64 (s:Int)&&& ~~~ BitVec.ofInt 64 ((2^v:Nat):Int)).toNat:Int))):=rfl
 rw[e,rm_i s hs v hv h]
theorem Qqu{G:Ctx}{t s v:Nat}(hs:s<32)(hv:v<5)(h:s.testBit v=true):binV G .andNot t (i6 (s:Int)) (i6 ((2^v:Nat):Int))=some (i6 ((s-2^v:Nat):Int)):=by
 have e:binV G .andNot t (i6 (s:Int)) (i6 ((2^v:Nat):Int))=some (.int .i64 (IntKind.i64.wrap ((BitVec.ofInt 64 (s:Int)&&& ~~~ BitVec.ofInt 64 ((2^v:Nat):Int)).toNat:Int))):=rfl
 rw[e,rm_j s hs v hv h]
theorem shl_allu: ∀v:Nat,v<16→wr .u64 (1*((2^min ((v:Nat):Int).toNat IntKind.u64.bits:Nat):Int))=((2^v:Nat):Int):=by decide+kernel
theorem Qo1{G:Ctx}{t v:Nat}(hv:v<16):binV G .shl t (u6 1) (i6 (v:Int))=some (u6 ((2^v:Nat):Int)):=by
 have e:binV G .shl t (u6 1) (i6 (v:Int))=if((v:Nat):Int)<0 then none else some (.int .u64 (wr .u64 (1*((2^min ((v:Nat):Int).toNat IntKind.u64.bits:Nat):Int)))):=rfl
 rw[e,if_neg (by omega),shl_allu v hv]
theorem Qlh{G:Ctx}{t v:Nat}(hv:v<16):binV G .shl t (i6 1) (i6 (v:Int))=some (i6 ((2^v:Nat):Int)):=by
 have e:binV G .shl t (i6 1) (i6 (v:Int))=if((v:Nat):Int)<0 then none else some (.int .i64 (wr .i64 (1*((2^min ((v:Nat):Int).toNat IntKind.i64.bits:Nat):Int)))):=rfl
 rw[e,if_neg (by omega),shl_all v hv]
section
variable (lim s:Nat) (q:Nat→Nat×Nat) (k:Nat)
def outA:Nat→(Nat→Nat×Nat)×Nat
 |0=>(q,k)
 |v+1=>if s.testBit v then innA lim s v (outA v).1 (outA v).2 (s+1)else outA v
end
theorem Qgi(lim s:Nat)(q:Nat→Nat×Nat)(k:Nat): ∀n,k≤(outA lim s q k n).2∧(outA lim s q k n).2≤k+n*(s+1)
 |0=>⟨Nat.le_refl _,by show k≤_;omega⟩
 | n + 1 => by
  have ih:=Qgi lim s q k n
  rw[outA,Nat.succ_mul]
  split
  ·have := Qds lim s n (outA lim s q k n).1 (outA lim s q k n).2 (s + 1)
   unfold innK at this
   omega
  ·omega
theorem Qdy{lim:Nat}{F:Nat→Nat→Nat→Int}{B:Nat→Nat→Int}{s v:Nat}{b:BSt}(hb: ∀p,inB (tryF F B s v p) 1000)(h:GoodB b): ∀k,GoodB (innB lim F B s v b k)
 |0=>h
 |k+1=>by
  rw[innB]
  split
  ·exact(Qdy hb h k).up (hb k)
  ·exact Qdy hb h k
theorem Qo9:GoodB none:=fun _ _ _ h=>by cases h
section
variable (cards:List Int) (cs:List (List Int)) (F:Nat→Nat→Nat→Int) (size lim n:Nat) (s:Nat) (B:Nat→Nat→Int) (la pa:Nat→Nat)
abbrev vSx(x:Nat×(Nat→Nat×Nat)×Nat×BSt):SL:={sl:=clZ size lim n s x.1,os:=match x.2.2.1 with|0=>cmO cards cs size x.2.1 s x.2.2.2 B la pa 14 0|k+1=>cmO cards cs size x.2.1 s x.2.2.2 B la pa 14 (k+1)++[scO F x.2.1 k],md:=clM}
end
theorem Ql2(cards:List Int)(cs:List (List Int))(F:Nat→Nat→Nat→Int)(size lim n:Nat)(s:Nat)(B:Nat→Nat→Int)(la pa:Nat→Nat)(hn:n≤5)(hs:s<32)(h: ∀v,v<n→s.testBit v=true→Qdw cards cs F size lim s v B)
  (q0:Nat→Nat×Nat)(k0:Nat)(hk0:k0≤5000)(q1:Nat→Nat×Nat)(k1:Nat)(b1:BSt)(hA:outA lim s q0 k0 n=(q1,k1))(hB:outB lim F B s n=b1):
  Sat Pg none 0 (at' 88 [1,1,1,1,1,0,1,0,0,1,1,0,0,1,1,1,1,0]) (mkSt g0 75 (vSx cards cs F size lim n s B la pa (0,q0,k0,none))) (Qaf g0 75 [(True,.exit 2,vSx cards cs F size lim n s B la pa (n,q1,k1,b1))]):=by
 have hc:=Qae cards
 have hg:=Qas cs
 have hla:=fun b=>Qah (sL s b la) size
 have hpa:=fun b=>Qag (sP s b pa) size
 have hBB:=fun b=>Qaa (sB s b B) size
 have hEE:=fun q k=>Qac q k
 have hSS:=fun q k=>Qaa (scF F q) k
 refine Qa2 vE_ok mixed Qab (b:=at' 88 [1,1,1,1,1,0,1,0,0,1,1,0,0,1,1,1,1,0,0]) (by kernel_rfl) (fun x=>x.1≤n∧outA lim s q0 k0 x.1=(x.2.1,x.2.2.1)∧outB lim F B s x.1=x.2.2.2∧GoodB x.2.2.2) (vSx cards cs F size lim n s B la pa) (fun x=>n-x.1) (fun x hx=>?_) (0,q0,k0,none) ⟨Nat.zero_le _,rfl,rfl,Qo9⟩
 obtain⟨v,q,k,b⟩:=x
 obtain⟨hv,eA,eB,hG⟩:=hx
 dsimp only at hv eA eB hG
 have hkb:=(Qgi lim s q0 k0 v).2
 rw[eA]at hkb
 have hk:k≤10000:=by
  have:v*(s+1)≤5*32:=Nat.mul_le_mul (by omega) (by omega)
  dsimp only at hkb
  omega
 clear hkb
 by_cases hlt:v<n
 ·have hv5 : v < 5 := by omega
  have hsh:=fun G t=>@shr_i G t s v (by omega)
  cases hbit:s.testBit v with
  | false =>
   have eA2:outA lim s q0 k0 (v+1)=(q,k):=by rw[outA,if_neg (by rw[hbit];decide),eA]
   have eB2:outB lim F B s (v+1)=b:=by rw[outB,if_neg (by rw[hbit];decide),eB]
   have han:=fun G t=>@Qng G t s v 0 hs hv5 (by decide) hbit
   clear h
   cases k with
   |zero=>
    skip
    refine .inl ⟨(v+1,q,_,b),[0,1,2,3,4,5,6,7,8,9,10,11,12,13],[yes 48,va 52 (i6 ((s/2^v:Nat):Int)),va 53 (i6 0),yes 54,nu 71 ((v+1:Nat):Int)],1000,⟨hlt,eA2,eB2,hG⟩,by dsimp only;omega,?_⟩
    refine Eq.mp (by kernel_rfl:(let z6:=An [Zz,Sm size,Sm (size-size)];let z0:=(↑size:Int);let z1:=nF (sL s b la) size;let z2:=uF (sP s b pa) size;let z3:=bF (sB s b B) size;let z4:=(↑(v+1):Int);let z5:=(↑n:Int);An [decide ((↑v:Int)<z5)=true,binV (Qad Pg) .shr 3 (i6 ↑s) (i6 ↑v)=some (i6 ↑(s/2^v)),binV (Qad Pg) .and 3 (i6 ↑(s/2^v)) (i6 1)=some (i6 0),((0:Int)==(0:Int))=true,wr .i64 ((↑v:Int)+(1:Int))=z4,An [Sm (↑lim:Int),Zz,Zz,Zz,Zz,z0=z0,Zz,Zz,Zz,Zz,Zz,z0=z0,Sm (↑s:Int),z5=z5,z4=z4,Tt],An [Sm [sl cards,gC cs],TT 2],An [Sm [V.nilp],Tt,Tt],An [Sm [V.nils,V.nils],TT 2],An [Sm [i6 0],Tt,Tt],An [z3=z3,HfL z3],An [Sm (entM q 0),HfE (entM q 0),Zz],An [An [Sm cards.length,Sm (ints cards)],An [Sm cs.length,Sm (List.map sl cs)],z6,TT 2],An [Zz,Tt],An [z1=z1,HfL z1],An [z2=z2,HfL z2],An [z6,z6,Tt],An [Sm [i6 ↑s],Tt,Tt],An [Sm [V.bool (Qao b)],Tt,Tt],An [An [Zz,Zz,Zz,Zz,Tt],Tt],Tt])=_) ?_
    (repeat'(first|(with_reducible apply And.intro)|(refine fun(_:True)=>?_)))
    all_goals first|(with_reducible exact hsh _ _)|(with_reducible exact han _ _)|exact aq|exact hla _|exact hpa _|exact hBB _|exact hEE _ _|exact hSS _ _|exact hsh _ _|exact han _ _|rfl|skip
   |succ k=>
    skip
    refine .inl ⟨(v+1,q,_,b),[0,1,2,3,4,5,6,7,8,9,10,11,12,13,14],[yes 48,va 52 (i6 ((s/2^v:Nat):Int)),va 53 (i6 0),yes 54,nu 71 ((v+1:Nat):Int)],1000,⟨hlt,eA2,eB2,hG⟩,by dsimp only;omega,?_⟩
    refine Eq.mp (by kernel_rfl:(let z8:=An [Zz,Sm size,Sm (size-size)];let z0:=(↑size:Int);let z1:=bF (scF F q) (k+1);let z2:=nF (sL s b la) size;let z3:=uF (sP s b pa) size;let z4:=bF (sB s b B) size;let z5:=(↑(v+1):Int);let z6:=entM q (k+1);let z7:=(↑n:Int);An [decide ((↑v:Int)<z7)=true,binV (Qad Pg) .shr 3 (i6 ↑s) (i6 ↑v)=some (i6 ↑(s/2^v)),binV (Qad Pg) .and 3 (i6 ↑(s/2^v)) (i6 1)=some (i6 0),((0:Int)==(0:Int))=true,wr .i64 ((↑v:Int)+(1:Int))=z5,An [Sm (↑lim:Int),Zz,Zz,Zz,Zz,z0=z0,Zz,Zz,Zz,Zz,Zz,z0=z0,Sm (↑s:Int),z7=z7,z5=z5,Tt],An [Sm [sl cards,gC cs],TT 2],An [Sm [V.nilp],Tt,Tt],An [Sm [V.nils,V.nils],TT 2],An [Sm [i6 0],Tt,Tt],An [z4=z4,HfL z4],An [z6=z6,HfE z6,Sm (k+1)],An [An [Sm cards.length,Sm (ints cards)],An [Sm cs.length,Sm (List.map sl cs)],z8,Tt,An [Zz,Sm (k+1),Tt],Tt],An [Zz,Tt],An [z2=z2,HfL z2],An [z3=z3,HfL z3],An [z8,z8,Tt],An [Sm [i6 ↑s],Tt,Tt],An [Sm [V.bool (Qao b)],Tt,Tt],An [An [Zz,Zz,Zz,Zz,Tt],Tt],An [z1=z1,HfL z1],Tt])=_) ?_
    (repeat'(first|(with_reducible apply And.intro)|(refine fun(_:True)=>?_)))
    all_goals first|(with_reducible exact hsh _ _)|(with_reducible exact han _ _)|exact aq|exact hla _|exact hpa _|exact hBB _|exact hEE _ _|exact hSS _ _|exact hsh _ _|exact han _ _|rfl|skip
  | true =>
   have hall:=h v hlt hbit
   have han:=fun G t=>@Qng G t s v 1 hs hv5 (by decide) hbit
   have hsl:=fun G t=>@Qo1 G t v (by omega)
   have hrm:=fun G t=>@andn_u G t s v hs hv5 hbit
   have hcv:wr .u64 (s:Int)=s:=Qe2 (by simp[lo]) (by simp[hi];omega)
   have hpf:=parts_fn (s-2^v) lim
   have hle:=Qds lim s v q k (s+1)
   unfold innK at hle
   cases k with
   | zero =>
    skip
    have hpos:1≤(innA lim s v q 0 (s+1)).2:=Qio (s+1) (by omega) (Qbw.2 ⟨Nat.zero_and _,Nat.zero_testBit _,Nat.zero_le _⟩) rfl
    generalize hfin:innA lim s v q 0 (s+1)=z at hpos hle
    obtain⟨q2,k2⟩:=z
    cases k2 with
    |zero=>exact absurd (show 1≤0 from hpos) (by decide)
    |succ k2=>
     have eA2:outA lim s q0 k0 (v+1)=(q2,k2+1):=by rw[outA,if_pos hbit,eA];exact hfin
     have eB2:outB lim F B s (v+1)=innB lim F B s v b (s+1):=by rw[outB,if_pos hbit,eB]
     have hG2:=Qdy (lim:=lim) hall.bd hG (s+1)
     have l:=range_A cards cs F size lim n q s b B la pa v hall hG q2 k2 _ hfin rfl
     generalize hb2:innB lim F B s v b (s+1)=b2 at eB2 hG2 l
     clear h hall
     refine .inl ⟨(v+1,q2,k2+1,b2),[0,1,2,3,4,5,6,7,8,9,10,11,12,13,14],[yes 48,va 52 (i6 ((s/2^v:Nat):Int)),va 53 (i6 1),no 54,nu 56 (s:Int),va 58 (u6 ((2^v:Nat):Int)),va 59 (u6 ((s-2^v:Nat):Int)),fn 61 (.fn 122 [.imp [i6 (lim:Nat)],.imp [u6 (s-2^v:Nat)]]),(0,.loop [0,1,2,3,4,5,6,7,8,9,10,11,12,13,14] (rS0 cards cs size lim n q s b B la pa v) [(True,.normal,vS1 cards cs F size lim n q2 s b2 B la pa v k2)]),nu 71 ((v+1:Nat):Int)],1000,⟨hlt,eA2,eB2,hG2⟩,by dsimp only;omega,?_⟩
     refine Eq.mp (by kernel_rfl:(let x2:=An [Zz,Sm size,Sm (size-size)];let x3:=An [An [Zz,Zz,Zz,Zz,Tt],Tt];let x4:=An [Sm [V.nilp],Tt,Tt];let x5:=An [Sm [i6 0],Tt,Tt];let z0:=(↑size:Int);let z1:=u6 ↑(s-2^v);let z2:=(↑s:Int);let z3:=[sl cards,gC cs];let z4:=[V.nils,V.nils];let z5:=bF (scF F q2) (k2+1);let z6:=(↑n:Int);let z7:=nF (sL s b2 la) size;let z8:=uF (sP s b2 pa) size;let z9:=(↑lim:Int);let y0:=List.map sl cs;let y1:=nF (sL s b la) size;let y2:=uF (sP s b pa) size;let y3:=bF (sB s b2 B) size;let y4:=bF (sB s b B) size;let y5:=(↑(v+1):Int);let y6:=(↑v:Int);let y7:=entM q2 (k2+1);let y8:=Qad Pg;let y9:=ints cards;let x0:=i6 ↑lim;let x1:=[i6 ↑s];An [decide (y6<z6)=true,binV y8 .shr 3 (i6 ↑s) (i6 ↑v)=some (i6 ↑(s/2^v)),binV y8 .and 3 (i6 ↑(s/2^v)) (i6 1)=some (i6 1),((1:Int)==(0:Int))=false,wr .u64 z2=z2,binV y8 .shl 28 (u6 1) (i6 ↑v)=some (u6 ↑(2^v)),binV y8 .andNot 28 (u6 ↑s) (u6 ↑(2^v))=some z1,TT 2,FnOk Pg g0 110 [z1,x0] (V.fn 122 [V.imp [x0],V.imp [z1]]),Tt,An [An [z9=z9,Zz,Zz,Zz,Zz,z0=z0,Zz,Zz,Zz,Zz,Zz,z0=z0,z2=z2,z6=z6,y6=y6,Zz,An [Sm [x0],Sm [z1],Tt],Tt],An [z3=z3,TT 2],x4,An [z4=z4,TT 2],x5,An [y4=y4,HfL y4],An [Sm (entM q 0),HfE (entM q 0),Zz],An [An [Sm cards.length,y9=y9],An [Sm cs.length,y0=y0],x2,TT 2],An [Zz,Tt],An [y1=y1,HfL y1],An [y2=y2,HfL y2],An [x2,x2,Tt],An [x1=x1,Tt,Tt],An [Sm [V.bool (Qao b)],Tt,Tt],x3,An [Sm [i6 ↑v],Tt,Tt],Tt],Sat Pg none 0 (at' 88 [1,1,1,1,1,0,1,0,0,1,1,0,0,1,1,1,1,0,0,1,1,0,0,1,1,1,0]) (mkSt g0 75 (rS0 cards cs size lim n q s b B la pa v)) (Qaf g0 75 [(True,Ex.normal,vS1 cards cs F size lim n q2 s b2 B la pa v k2)]),(True→An [wr .i64 (y6+(1:Int))=y5,An [z9=z9,Zz,Zz,Zz,Zz,z0=z0,Zz,Zz,Zz,Zz,Zz,z0=z0,z2=z2,z6=z6,y5=y5,Tt],An [z3=z3,TT 2],x4,An [z4=z4,TT 2],x5,An [y3=y3,HfL y3],An [y7=y7,HfE y7,Sm (k2+1)],An [An [Sm cards.length,y9=y9],An [Sm cs.length,y0=y0],x2,Tt,An [Zz,Sm (k2+1),Tt],Tt],An [Zz,Tt],An [z7=z7,HfL z7],An [z8=z8,HfL z8],An [x2,x2,Tt],An [x1=x1,Tt,Tt],An [Sm [V.bool (Qao b2)],Tt,Tt],x3,An [z5=z5,HfL z5],Tt]),Tt])=_) ?_
     (repeat'(first|(with_reducible apply And.intro)|(refine fun(_:True)=>?_)))
     all_goals first|exact l|exact hpf|(with_reducible exact hsh _ _)|(with_reducible exact han _ _)|(with_reducible exact hsl _ _)|(with_reducible exact hrm _ _)|(with_reducible exact hcv)|exact aq|exact hla _|exact hpa _|exact hBB _|exact hEE _ _|exact hSS _ _|exact hsh _ _|exact han _ _|exact hsl _ _|exact hrm _ _|rfl|skip
   | succ k =>
    skip
    have hpos:1≤(innA lim s v q (k+1) (s+1)).2:=by omega
    generalize hfin:innA lim s v q (k+1) (s+1)=z at hpos hle
    obtain⟨q2,k2⟩:=z
    cases k2 with
    |zero=>exact absurd (show 1≤0 from hpos) (by decide)
    |succ k2=>
     have eA2:outA lim s q0 k0 (v+1)=(q2,k2+1):=by rw[outA,if_pos hbit,eA];exact hfin
     have eB2:outB lim F B s (v+1)=innB lim F B s v b (s+1):=by rw[outB,if_pos hbit,eB]
     have hG2:=Qdy (lim:=lim) hall.bd hG (s+1)
     have l:=range_B cards cs F size lim n q s b B la pa v k (by omega) hall hG q2 k2 _ hfin rfl
     generalize hb2:innB lim F B s v b (s+1)=b2 at eB2 hG2 l
     clear h hall
     refine .inl ⟨(v+1,q2,k2+1,b2),[0,1,2,3,4,5,6,7,8,9,10,11,12,13,14],[yes 48,va 52 (i6 ((s/2^v:Nat):Int)),va 53 (i6 1),no 54,nu 56 (s:Int),va 58 (u6 ((2^v:Nat):Int)),va 59 (u6 ((s-2^v:Nat):Int)),fn 61 (.fn 122 [.imp [i6 (lim:Nat)],.imp [u6 (s-2^v:Nat)]]),(0,.loop [0,1,2,3,4,5,6,7,8,9,10,11,12,13,15,14] (rS1 cards cs F size lim n q s b B la pa v k) [(True,.normal,vS1 cards cs F size lim n q2 s b2 B la pa v k2)]),nu 71 ((v+1:Nat):Int)],1000,⟨hlt,eA2,eB2,hG2⟩,by dsimp only;omega,?_⟩
     refine Eq.mp (by kernel_rfl:(let x4:=An [Zz,Sm size,Sm (size-size)];let x5:=An [An [Zz,Zz,Zz,Zz,Tt],Tt];let x6:=An [Sm [V.nilp],Tt,Tt];let x7:=An [Sm [i6 0],Tt,Tt];let z0:=(↑size:Int);let z1:=u6 ↑(s-2^v);let z2:=(↑s:Int);let z3:=[sl cards,gC cs];let z4:=[V.nils,V.nils];let z5:=bF (scF F q2) (k2+1);let z6:=(↑n:Int);let z7:=bF (scF F q) (k+1);let z8:=nF (sL s b2 la) size;let z9:=uF (sP s b2 pa) size;let y0:=(↑lim:Int);let y1:=List.map sl cs;let y2:=nF (sL s b la) size;let y3:=uF (sP s b pa) size;let y4:=bF (sB s b2 B) size;let y5:=bF (sB s b B) size;let y6:=(↑(v+1):Int);let y7:=(↑v:Int);let y8:=entM q2 (k2+1);let y9:=Qad Pg;let x0:=entM q (k+1);let x1:=ints cards;let x2:=i6 ↑lim;let x3:=[i6 ↑s];An [decide (y7<z6)=true,binV y9 .shr 3 (i6 ↑s) (i6 ↑v)=some (i6 ↑(s/2^v)),binV y9 .and 3 (i6 ↑(s/2^v)) (i6 1)=some (i6 1),((1:Int)==(0:Int))=false,wr .u64 z2=z2,binV y9 .shl 28 (u6 1) (i6 ↑v)=some (u6 ↑(2^v)),binV y9 .andNot 28 (u6 ↑s) (u6 ↑(2^v))=some z1,TT 2,FnOk Pg g0 110 [z1,x2] (V.fn 122 [V.imp [x2],V.imp [z1]]),Tt,An [An [y0=y0,Zz,Zz,Zz,Zz,z0=z0,Zz,Zz,Zz,Zz,Zz,z0=z0,z2=z2,z6=z6,y7=y7,Zz,An [Sm [x2],Sm [z1],Tt],Tt],An [z3=z3,TT 2],x6,An [z4=z4,TT 2],x7,An [y5=y5,HfL y5],An [x0=x0,HfE x0,Sm (k+1)],An [An [Sm cards.length,x1=x1],An [Sm cs.length,y1=y1],x4,Tt,An [Zz,Sm (k+1),Tt],Tt],An [Zz,Tt],An [y2=y2,HfL y2],An [y3=y3,HfL y3],An [x4,x4,Tt],An [x3=x3,Tt,Tt],An [Sm [V.bool (Qao b)],Tt,Tt],x5,An [Sm [i6 ↑v],Tt,Tt],An [z7=z7,HfL z7],Tt],Sat Pg none 0 (at' 88 [1,1,1,1,1,0,1,0,0,1,1,0,0,1,1,1,1,0,0,1,1,0,0,1,1,1,0]) (mkSt g0 75 (rS1 cards cs F size lim n q s b B la pa v k)) (Qaf g0 75 [(True,Ex.normal,vS1 cards cs F size lim n q2 s b2 B la pa v k2)]),(True→An [wr .i64 (y7+(1:Int))=y6,An [y0=y0,Zz,Zz,Zz,Zz,z0=z0,Zz,Zz,Zz,Zz,Zz,z0=z0,z2=z2,z6=z6,y6=y6,Tt],An [z3=z3,TT 2],x6,An [z4=z4,TT 2],x7,An [y4=y4,HfL y4],An [y8=y8,HfE y8,Sm (k2+1)],An [An [Sm cards.length,x1=x1],An [Sm cs.length,y1=y1],x4,Tt,An [Zz,Sm (k2+1),Tt],Tt],An [Zz,Tt],An [z8=z8,HfL z8],An [z9=z9,HfL z9],An [x4,x4,Tt],An [x3=x3,Tt,Tt],An [Sm [V.bool (Qao b2)],Tt,Tt],x5,An [z5=z5,HfL z5],Tt]),Tt])=_) ?_
     (repeat'(first|(with_reducible apply And.intro)|(refine fun(_:True)=>?_)))
     all_goals first|exact l|exact hpf|(with_reducible exact hsh _ _)|(with_reducible exact han _ _)|(with_reducible exact hsl _ _)|(with_reducible exact hrm _ _)|(with_reducible exact hcv)|exact aq|exact hla _|exact hpa _|exact hBB _|exact hEE _ _|exact hSS _ _|exact hsh _ _|exact han _ _|exact hsl _ _|exact hrm _ _|rfl|skip
 ·have he : v = n := by omega
  subst he
  rw[eA]at hA
  rw[eB]at hB
  obtain⟨rfl,rfl⟩:=Prod.mk.inj hA
  subst hB
  clear h
  cases k with
  |zero=>
   skip
   refine .inr ⟨.exit 2,[0,1,2,3,4,5,6,7,8,9,10,11,12,13],_,[no 48],1000,.inl ⟨trivial,rfl,rfl⟩,?_⟩
   refine Eq.mp (by kernel_rfl:(let z5:=An [Zz,Sm size,Sm (size-size)];let z0:=(↑v:Int);let z1:=(↑size:Int);let z2:=nF (sL s b la) size;let z3:=uF (sP s b pa) size;let z4:=bF (sB s b B) size;An [decide (z0<z0)=false,An [Sm (↑lim:Int),Zz,Zz,Zz,Zz,z1=z1,Zz,Zz,Zz,Zz,Zz,z1=z1,Sm (↑s:Int),z0=z0,z0=z0,Tt],An [Sm [sl cards,gC cs],TT 2],An [Sm [V.nilp],Tt,Tt],An [Sm [V.nils,V.nils],TT 2],An [Sm [i6 0],Tt,Tt],An [z4=z4,HfL z4],An [Sm (entM q 0),HfE (entM q 0),Zz],An [An [Sm cards.length,Sm (ints cards)],An [Sm cs.length,Sm (List.map sl cs)],z5,TT 2],An [Zz,Tt],An [z2=z2,HfL z2],An [z3=z3,HfL z3],An [z5,z5,Tt],An [Sm [i6 ↑s],Tt,Tt],An [Sm [V.bool (Qao b)],Tt,Tt],An [An [Zz,Zz,Zz,Zz,Tt],Tt],Tt])=_) ?_
   (repeat'(first|(with_reducible apply And.intro)|(refine fun(_:True)=>?_)))
   all_goals first|exact aq|exact hla _|exact hpa _|exact hBB _|exact hEE _ _|exact hSS _ _|rfl|skip
  |succ k=>
   skip
   refine .inr ⟨.exit 2,[0,1,2,3,4,5,6,7,8,9,10,11,12,13,14],_,[no 48],1000,.inl ⟨trivial,rfl,rfl⟩,?_⟩
   refine Eq.mp (by kernel_rfl:(let z7:=An [Zz,Sm size,Sm (size-size)];let z0:=(↑v:Int);let z1:=(↑size:Int);let z2:=bF (scF F q) (k+1);let z3:=nF (sL s b la) size;let z4:=uF (sP s b pa) size;let z5:=bF (sB s b B) size;let z6:=entM q (k+1);An [decide (z0<z0)=false,An [Sm (↑lim:Int),Zz,Zz,Zz,Zz,z1=z1,Zz,Zz,Zz,Zz,Zz,z1=z1,Sm (↑s:Int),z0=z0,z0=z0,Tt],An [Sm [sl cards,gC cs],TT 2],An [Sm [V.nilp],Tt,Tt],An [Sm [V.nils,V.nils],TT 2],An [Sm [i6 0],Tt,Tt],An [z5=z5,HfL z5],An [z6=z6,HfE z6,Sm (k+1)],An [An [Sm cards.length,Sm (ints cards)],An [Sm cs.length,Sm (List.map sl cs)],z7,Tt,An [Zz,Sm (k+1),Tt],Tt],An [Zz,Tt],An [z3=z3,HfL z3],An [z4=z4,HfL z4],An [z7,z7,Tt],An [Sm [i6 ↑s],Tt,Tt],An [Sm [V.bool (Qao b)],Tt,Tt],An [An [Zz,Zz,Zz,Zz,Tt],Tt],An [z2=z2,HfL z2],Tt])=_) ?_
   (repeat'(first|(with_reducible apply And.intro)|(refine fun(_:True)=>?_)))
   all_goals first|exact aq|exact hla _|exact hpa _|exact hBB _|exact hEE _ _|exact hSS _ _|rfl|skip
set_option maxHeartbeats 4000000
set_option maxRecDepth 100000
theorem Qfu(c:List Int)(h:c.length≤6)(h1:1≤c.length):FnOk Pg g0 87 [sl c] (sl c):=by
 rcases c with _|⟨a,_|⟨b,_|⟨d,_|⟨e,_|⟨f,_|⟨g,_|⟨x,l⟩⟩⟩⟩⟩⟩⟩
 ·exact absurd h1 (by decide)
 ·refine FnOk.of_vc vE_ok mixed Qab (n := 1000) (r := []) (S := { sl := [(2, .im 1 [i6 a])] }) (hs := []) ?_
  refine Eq.mp (by kernel_rfl:(An [V.im 1 [i6 a]=sl [a],An [An [1=Int.toNat (0:Int)+1,Sm [i6 a],Tt,Tt],Tt],Tt])=_) ?_
  exact au
 ·refine FnOk.of_vc vE_ok mixed Qab (n := 1000) (r := []) (S := { sl := [(2, .im 2 [i6 a, i6 b])] }) (hs := []) ?_
  refine Eq.mp (by kernel_rfl:(An [V.im 2 [i6 a,i6 b]=sl [a,b],An [An [2=Int.toNat (0:Int)+2,Sm [i6 a,i6 b],TT 2],Tt],Tt])=_) ?_
  exact au
 ·refine FnOk.of_vc vE_ok mixed Qab (n := 1000) (r := []) (S := { sl := [(2, .im 3 [i6 a, i6 b, i6 d])] }) (hs := []) ?_
  refine Eq.mp (by kernel_rfl:(An [V.im 3 [i6 a,i6 b,i6 d]=sl [a,b,d],An [An [3=Int.toNat (0:Int)+3,Sm [i6 a,i6 b,i6 d],TT 3],Tt],Tt])=_) ?_
  exact au
 ·refine FnOk.of_vc vE_ok mixed Qab (n := 1000) (r := []) (S := { sl := [(2, .im 4 [i6 a, i6 b, i6 d, i6 e])] }) (hs := []) ?_
  refine Eq.mp (by kernel_rfl:(let z0:=[i6 a,i6 b,i6 d,i6 e];An [V.im 4 z0=sl [a,b,d,e],An [An [4=Int.toNat (0:Int)+4,z0=z0,TT 4],Tt],Tt])=_) ?_
  exact au
 ·refine FnOk.of_vc vE_ok mixed Qab (n := 1000) (r := []) (S := { sl := [(2, .im 5 [i6 a, i6 b, i6 d, i6 e, i6 f])] }) (hs := []) ?_
  refine Eq.mp (by kernel_rfl:(let z0:=[i6 a,i6 b,i6 d,i6 e,i6 f];An [V.im 5 z0=sl [a,b,d,e,f],An [An [5=Int.toNat (0:Int)+5,z0=z0,TT 5],Tt],Tt])=_) ?_
  exact au
 ·refine FnOk.of_vc vE_ok mixed Qab (n := 1000) (r := []) (S := { sl := [(2, .im 6 [i6 a, i6 b, i6 d, i6 e, i6 f, i6 g])] }) (hs := []) ?_
  refine Eq.mp (by kernel_rfl:(let z0:=[i6 a,i6 b,i6 d,i6 e,i6 f,i6 g];An [V.im 6 z0=sl [a,b,d,e,f,g],An [An [6=Int.toNat (0:Int)+6,z0=z0,TT 6],Tt],Tt])=_) ?_
  exact au
 ·simp only[List.length_cons]at h;omega
def idL(n:Nat):List Int:=(List.range n).map Int.ofNat
theorem Qin(n:Nat):(idL n).length=n:=by unfold idL;simp
theorem idL_at{n k:Nat}(h:k<n):headF ((ints (idL n)).drop (k*1))=some (i6 (k:Int)):=by
 rw[Qc8 (by rw[Qin];exact h)]
 congr 2
 unfold idL
 simp
def idF(k:Nat):Nat→Nat:=fun i=>if i<k then i else 0
theorem idF_next(k:Nat):(fun i=>if i=k then k else idF k i)=idF (k+1):=by
 funext i
 unfold idF
 by_cases h:i=k
 ·rw[if_pos h,if_pos (by omega),h]
 ·rw [if_neg h]
  by_cases h2:i<k
  ·rw[if_pos h2,if_pos (by omega)]
  ·rw[if_neg h2,if_neg (by omega)]
theorem nF_idF(n:Nat):nF (idF n) n=ints (idL n):=by
 have: ∀m,m≤n→nF (idF n) m=ints (idL m):=fun m=>by
  induction m with
  |zero=>intro _;rfl
  |succ m ih=>
   intro hm
   show blF _ (m+1)=_
   rw[Qa9,show blF (fun i=>[i6 (idF n i:Nat)]) m=ints (idL m)from ih (by omega)]
   unfold idL ints
   rw[List.range_succ,List.map_append,List.map_append]
   congr 2
   unfold idF
   rw[if_pos (by omega)];rfl
 exact this n (Nat.le_refl _)
theorem rep_nF(n:Nat):rep n [i6 0]=nF (idF 0) n:=by
 rw[Qgp]
 refine Qbh fun i hi=>?_
 unfold idF
 rw[if_neg (by omega)];rfl
theorem known_fn(cards:List Int)(cs:List (List Int))(n:Nat):FnOk Pg g0 86 [gV cards cs,sl (idL n)] (.fn 107 [.imp [sl cards,gC cs],.imp [sl (idL n)]]):=by
 refine FnOk.of_vc vE_ok mixed Qab (n:=1000) (r:=[]) (S:={sl:=[(4,.fn 107 [.imp [sl cards,gC cs],.imp [sl (idL n)]])]}) (hs:=[]) ?_
 refine Eq.mp (by kernel_rfl:(An [Sm (V.fn 107 [V.imp [sl cards,gC cs],V.imp [sl (idL n)]]),An [An [An [Sm [sl cards,gC cs],TT 2],An [Sm [sl (idL n)],Tt,Tt],Tt],Tt],Tt])=_) ?_
 (repeat'(first|(with_reducible apply And.intro)|(refine fun(_:True)=>?_)))
 all_goals first|exact aq|rfl|skip
noncomputable abbrev rkC:Code:=at' 38 [1,1,1,1,1,0,1,0]
theorem rk_eq:rkC= .rangeFunc (.tmp 34) #[35,36] (rfAsg rkC) (Qou rkC):=by kernel_rfl
noncomputable def rkB:Code:=Qou rkC
noncomputable def rkA:Code:=rfAsg rkC
def noL:List V:=[]
section
variable (cards:List Int) (cs:List (List Int))
abbrev kZ:List (Nat×V):=[(2,.ptr 0 0),(7,.ptr 1 0),(34,.fn 107 [.imp [sl cards,gC cs],.imp [sl (idL cards.length)]])]
noncomputable def rkT:TM:=(mkSt g0 45 {sl:=kZ cards cs}).tm
noncomputable abbrev lkO(ls:LoopState):O:=.loop ls none 0 (rkT cards cs) [35,36] rkA rkB
abbrev kO(v:V):List O:=[.row 32 none [.nils,.nils],.row 32 none [sl cards,v],.row 29 none noL]
noncomputable abbrev kA(ls:LoopState):List O:=kO cards (.sl 2 0 0 (some 0))++[lkO cards cs ls]
noncomputable abbrev kA1(ls:LoopState)(c:List Int):List O:=kO cards (.sl 5 0 1 none)++[lkO cards cs ls,.row 29 none [sl c],.row 29 (some 1) [sl c]]
noncomputable abbrev kC(ls:LoopState)(k:Nat)(l:List V):List O:=kO cards (.sl 4 0 (k+1) none)++[lkO cards cs ls,.row 29 (some 1) l]
noncomputable abbrev kC1(ls:LoopState)(k:Nat)(l:List V)(c:List Int):List O:=kO cards (.sl 6 0 (k+2) none)++[lkO cards cs ls,.dead,.row 29 none [sl c],.row 29 (some 1) (l++[sl c])]
end
theorem Qss(cards:List Int)(cs:List (List Int))(nx0:Nat)(h:3≤nx0):LowT nx0 (rkT cards cs):=by
 intro i x hx
 have hx':(putL (blank 45) (kZ cards cs)).get i=some x:=hx
 rcases putL_get _ _ _ _ hx' with hm|hm
 ·simp only [kZ, List.mem_cons, List.not_mem_nil, or_false, Prod.mk.injEq] at hm
  rcases hm with⟨_,rfl⟩|⟨_,rfl⟩|⟨_,rfl⟩<;>simp only[Sc,ScL,and_true]<;>omega
 ·rw[Qbi]at hm;cases hm
theorem rk_asg(i:Nat)(c:List Int)(hd:Nat)(H:T O)(nx:Nat):vc Pg vE sp0 (some hd) nx 1000 rkA [] (mkSo g0 45 [(7,.ptr 1 0),(35,i6 (i:Nat)),(36,sl c)] H nx []) (kAsg 45 [(7,.ptr 1 0),(9,sl c)] H nx):=by
 refine Eq.mp (by kernel_rfl:(An [An [Sm (V.ptr 1 0),Sm (sl c),Tt],H=H,nx=nx,([]:List Nat)=[]])=_) ?_
 (repeat'(first|(with_reducible apply And.intro)|(refine fun(_:True)=>?_)))<;>first|exact aq|skip
 all_goals skip
theorem yldk_A(cards:List Int)(cs:List (List Int))(i:Nat)(c:List Int)(h:c.length≤6)(h1:1≤c.length):
  CallSpec Pg g0 (.yld 3) [i6 (i:Nat),sl c] (ofOs .e 0 (kA cards cs .ready)) 4 ⟨.bool true,ofOs .e 0 (kA1 cards cs .ready c),6,[1,3]⟩:=by
 have hcl:=Qfu c h h1
 refine CallSpec.yldN vE_ok mixed Qab (n:=45) (fn0:=0) (tm:=rkT cards cs) (ps:=[35,36]) (assign:=rkA) (body:=rkB) (hs0:=[]) (hs1:=[fn 40 (sl c),(42,.cp 1 [sl c])]) (m0:=1000) (m1:=1000) (sl0:=[(7,.ptr 1 0),(35,i6 (i:Nat)),(36,sl c)]) (sl1:=[(7,.ptr 1 0),(9,sl c)]) (by kernel_rfl) rfl rfl rfl ⟨rfl,rfl,rfl,trivial⟩ (rk_asg i c 3) ?_ (by decide) (Qip (os0:=kA cards cs .ready) (os1:=kA1 cards cs .ready c) (by simp) (fun i hi hno=>?_)) (by kernel_rfl)
 ·refine Eq.mp (by kernel_rfl : (let z1 := O.loop .busy none 0 (rkT cards cs) [35, 36] rkA rkB; let z0 := pt (pt (ofOs T.e 0 (kA cards cs .ready)) 3 z1) 4 (O.row 29 none [sl c]); An [An [Tt, Tt], FnOk Pg g0 87 [V.im c.length (ints c)] (sl c), Tt, An [srcV z0 1 (V.sl 4 0 1 (some 0)) = some (1, [sl c]), srcV z0 1 (V.sl 2 0 0 (some 0)) = some (0, []), 1 ≤ 1, 1 ≤ 9223372036854775807, 1 * 24 ≤ 140737488355328], pt (pt z0 5 (O.row 29 (some 1) [sl c])) 1 (O.row 32 none [sl cards, V.sl 5 0 1 none]) = pt (ofOs T.e 0 (kA1 cards cs .ready c)) 3 z1, 6 = 6, ∀ (g : Nat), List.Mem g ([1] ++ ([] ++ ([] ++ [3]))) → List.Mem g [1, 3]]) = _) ?_
  (repeat'(first|(with_reducible apply And.intro)|(refine fun(_:True)=>?_)))
  all_goals first|exact aq|exact hcl|rfl|skip
 ·rcases(show i=0∨i=1∨i=2∨i=3 by simp at hi;omega)with rfl|rfl|rfl|rfl<;>first|rfl|(simp at hno)
theorem yldk_C(cards:List Int)(cs:List (List Int))(k:Nat)(l:List V)(hl:l.length=k+1)(hk:k≤100)(i:Nat)(c:List Int)(h:c.length≤6)(h1:1≤c.length):
  CallSpec Pg g0 (.yld 3) [i6 (i:Nat),sl c] (ofOs .e 0 (kC cards cs .ready k l)) 5 ⟨.bool true,ofOs .e 0 (kC1 cards cs .ready k l c),7,[1,4,3]⟩:=by
 have hcl:=Qfu c h h1
 refine CallSpec.yldN vE_ok mixed Qab (n:=45) (fn0:=0) (tm:=rkT cards cs) (ps:=[35,36]) (assign:=rkA) (body:=rkB) (hs0:=[]) (hs1:=[fn 40 (sl c),ap 42]) (m0:=1000) (m1:=1000) (sl0:=[(7,.ptr 1 0),(35,i6 (i:Nat)),(36,sl c)]) (sl1:=[(7,.ptr 1 0),(9,sl c)]) (by kernel_rfl) rfl rfl rfl ⟨rfl,rfl,rfl,trivial⟩ (rk_asg i c 3) ?_ (by decide) (Qip (os0:=kC cards cs .ready k l) (os1:=kC1 cards cs .ready k l c) (by simp) (fun i hi hno=>?_)) (by kernel_rfl)
 ·refine Eq.mp (by kernel_rfl : (let z0 := O.loop .busy none 0 (rkT cards cs) [35, 36] rkA rkB; An [An [Tt, Tt], FnOk Pg g0 87 [V.im c.length (ints c)] (sl c), Tt, l.length = (k + 1) * 1, k + 1 + 1 ≤ 9223372036854775807, (k + 1 + 1) * 24 ≤ 140737488355328, pt (pt (pt (pt (pt (ofOs T.e 0 (kC cards cs .ready k l)) 3 z0) 5 (O.row 29 none [sl c])) 4 O.dead) 6 (O.row 29 (some 1) (l ++ [sl c]))) 1 (O.row 32 none [sl cards, V.sl 6 0 (k + 1 + 1) none]) = pt (ofOs T.e 0 (kC1 cards cs .ready k l c)) 3 z0, 7 = 7, ∀ (g : Nat), List.Mem g ([1] ++ ([4] ++ ([] ++ [3]))) → List.Mem g [1, 4, 3]]) = _) ?_
  (repeat'(first|(with_reducible apply And.intro)|(refine fun(_:True)=>?_)))
  all_goals first|exact aq|exact hcl|rfl|skip
 ·rcases(show i=0∨i=1∨i=2∨i=3∨i=4 by simp at hi;omega)with rfl|rfl|rfl|rfl|rfl<;>first|rfl|(simp at hno)
set_option maxHeartbeats 4000000
set_option maxRecDepth 100000
section
variable (cards:List Int) (cs:List (List Int))
noncomputable abbrev kwS(a:List (List Int))(m:Nat):List O:=match m with|0=>kA cards cs .ready|k+1=>kC cards cs .ready k (a.map sl)
noncomputable abbrev knS(x:Nat×Nat×List (List Int)):SL:={sl:=[(0,.yld 3),(2,.imp [sl (idL cards.length)]),(9,gC cs),(10,i6 (cs.length:Nat)),(11,i6 (x.1:Nat))],os:=kwS cards cs x.2.2 x.2.1,md:=[0,1],lg:=[1,3]}
noncomputable abbrev knX(m:Nat)(a:List (List Int)):SL:={sl:=[],os:=kwS cards cs a m,md:=[0,1],lg:=[1,3]}
noncomputable abbrev kiS(i m:Nat)(a:List (List Int))(c:List Int)(j:Nat):SL:={sl:=[(0,.yld 3),(2,.imp [sl (idL cards.length)]),(9,gC cs),(10,i6 (cs.length:Nat)),(11,i6 (i:Nat)),(4,i6 (i:Nat)),(5,sl c),(16,sl (idL cards.length)),(17,i6 (cards.length:Nat)),(18,i6 (j:Nat))],os:=kwS cards cs a m,md:=[0,1],lg:=[1,3]}
noncomputable abbrev kiX(i m:Nat)(a:List (List Int))(c:List Int):SL:={sl:=[(0,.yld 3),(2,.imp [sl (idL cards.length)]),(9,gC cs),(10,i6 (cs.length:Nat)),(11,i6 (i:Nat)),(4,i6 (i:Nat)),(5,sl c)],os:=kwS cards cs a m,md:=[0,1],lg:=[1,3]}
noncomputable abbrev kiY(i m:Nat)(a:List (List Int)):SL:={sl:=[(0,.yld 3),(2,.imp [sl (idL cards.length)]),(9,gC cs),(10,i6 (cs.length:Nat)),(11,i6 (i:Nat))],os:=kwS cards cs a m,md:=[0,1],lg:=[1,3]}
end
theorem ki_loop(cards:List Int)(cs:List (List Int))(i m:Nat)(a:List (List Int))(c:List Int)(hc:c.length=cards.length)(h6:cards.length≤6):
  Sat Pg none 4 (at' 107 [0,1,1,0,0,1,1,0,0,1,0,1,0]) (mkSt g0 34 (kiS cards cs i m a c 0)) (Qaf g0 34 [(negB c=false,.exit 2,kiX cards cs i m a c),(negB c=true,.exit 1,kiY cards cs i m a)]):=by
 have hlr:=Qss cards cs 4 (by decide)
 have hla:=Qb3 sl a (fun _=>trivial)
 refine Qa2 vE_ok mixed Qab (b:=at' 107 [0,1,1,0,0,1,1,0,0,1,0,1,0,0]) (by kernel_rfl) (fun k=>k≤c.length∧(c.take k).any (fun x=>decide (x<0))=false) (kiS cards cs i m a c) (fun k=>c.length-k) (fun k hk=>?_) 0 ⟨Nat.zero_le _,rfl⟩
 obtain⟨hk,hj⟩:=hk
 have hid:=@idL_at cards.length k
 by_cases hlt:k<c.length
 ·have hld := @Qau c k hlt
  have hid:=hid (by omega)
  have hck:c[k]? =some (c.getD k 0):=by rw[List.getD_eq_getElem?_getD,List.getElem?_eq_getElem hlt];rfl
  have hn:(k:Int)<(cards.length:Int):=by omega
  have hlen:=Qin cards.length
  cases m with
  | zero =>
   by_cases h1:c.getD k 0<0
   ·have hb : negB c = true := Qd0 hck (decide_eq_true h1)
    refine .inr ⟨.exit 1,[],kiY cards cs i 0 a,[yes 19,pl 20,ld 21 (i6 (k:Nat)),pl 24,ld 25 (i6 (c.getD k 0)),yes 26],1000,.inr (.inl ⟨hb,rfl,rfl⟩),?_⟩
    refine Eq.mp (by kernel_rfl:(let z0:=idL cards.length;let z1:=(↑k:Int);let z2:=(0:Int);An [decide (z1<(↑cards.length:Int))=true,An [z2≤z1,z1<(↑z0.length:Int)],headF (List.drop (k*1) (ints z0))=some (i6 ↑k),An [z2≤z1,z1<(↑c.length:Int)],headF (List.drop (k*1) (ints c))=some (i6 (List.getD c k z2)),decide (List.getD c k z2<z2)=true,An [Tt,Sm [sl z0],An [Sm cs.length,Sm (List.map sl cs)],Sm (↑cs.length:Int),Sm (↑i:Int),Tt],An [Sm [V.nils,V.nils],TT 2],An [An [Sm cards.length,Sm (ints cards)],An [Zz,Zz,Zz],Tt],An [noL=noL,Tt],An [lkO cards cs .ready=O.loop .ready none 0 (rkT cards cs) [35,36] rkA rkB,LowT 4 (rkT cards cs)],Tt])=_) ?_
    (repeat'(first|(with_reducible apply And.intro)|(refine fun(_:True)=>?_)))
    all_goals first|exact hlr|(with_reducible exact hid)|(with_reducible exact hld)|exact hla|exact aq|rfl|skip
   ·have hg := Qc4 hck hj (decide_eq_false h1)
    refine .inl ⟨k+1,[],[yes 19,pl 20,ld 21 (i6 (k:Nat)),pl 24,ld 25 (i6 (c.getD k 0)),no 26,nu 27 (k+1:Nat)],1000,⟨hlt,hg⟩,by omega,?_⟩
    refine Eq.mp (by kernel_rfl:(let z0:=idL cards.length;let z1:=(↑k:Int);let z2:=(↑cards.length:Int);let z3:=(↑(k+1):Int);let z4:=(↑i:Int);let z5:=(0:Int);let z6:=z0.length;An [decide (z1<z2)=true,An [z5≤z1,z1<(↑(z6):Int)],headF (List.drop (k*1) (ints z0))=some (i6 ↑k),An [z5≤z1,z1<(↑c.length:Int)],headF (List.drop (k*1) (ints c))=some (i6 (List.getD c k z5)),decide (List.getD c k z5<z5)=false,wr .i64 (z1+(1:Int))=z3,An [Tt,Sm [sl z0],An [Sm cs.length,Sm (List.map sl cs)],Sm (↑cs.length:Int),z4=z4,z4=z4,An [Sm c.length,Sm (ints c)],An [z6=z6,Sm (ints z0)],z2=z2,z3=z3,Tt],An [Sm [V.nils,V.nils],TT 2],An [An [Sm cards.length,Sm (ints cards)],An [Zz,Zz,Zz],Tt],An [noL=noL,Tt],An [lkO cards cs .ready=O.loop .ready none 0 (rkT cards cs) [35,36] rkA rkB,LowT 4 (rkT cards cs)],Tt])=_) ?_
    (repeat'(first|(with_reducible apply And.intro)|(refine fun(_:True)=>?_)))
    all_goals first|exact hlr|(with_reducible exact hid)|(with_reducible exact hld)|exact hla|exact aq|rfl|skip
  | succ m =>
   by_cases h1:c.getD k 0<0
   ·have hb : negB c = true := Qd0 hck (decide_eq_true h1)
    refine .inr ⟨.exit 1,[4],kiY cards cs i (m+1) a,[yes 19,pl 20,ld 21 (i6 (k:Nat)),pl 24,ld 25 (i6 (c.getD k 0)),yes 26],1000,.inr (.inl ⟨hb,rfl,rfl⟩),?_⟩
    refine Eq.mp (by kernel_rfl:(let z0:=idL cards.length;let z1:=(↑k:Int);let z2:=(0:Int);let z3:=List.map sl a;An [decide (z1<(↑cards.length:Int))=true,An [z2≤z1,z1<(↑z0.length:Int)],headF (List.drop (k*1) (ints z0))=some (i6 ↑k),An [z2≤z1,z1<(↑c.length:Int)],headF (List.drop (k*1) (ints c))=some (i6 (List.getD c k z2)),decide (List.getD c k z2<z2)=true,An [Tt,Sm [sl z0],An [Sm cs.length,Sm (List.map sl cs)],Sm (↑cs.length:Int),Sm (↑i:Int),Tt],An [Sm [V.nils,V.nils],TT 2],An [An [Sm cards.length,Sm (ints cards)],An [Zz,Sm (m+1),Tt],Tt],An [noL=noL,Tt],An [lkO cards cs .ready=O.loop .ready none 0 (rkT cards cs) [35,36] rkA rkB,LowT 4 (rkT cards cs)],An [z3=z3,HfL z3],Tt])=_) ?_
    (repeat'(first|(with_reducible apply And.intro)|(refine fun(_:True)=>?_)))
    all_goals first|exact hlr|(with_reducible exact hid)|(with_reducible exact hld)|exact hla|exact aq|rfl|skip
   ·have hg := Qc4 hck hj (decide_eq_false h1)
    refine .inl ⟨k+1,[4],[yes 19,pl 20,ld 21 (i6 (k:Nat)),pl 24,ld 25 (i6 (c.getD k 0)),no 26,nu 27 (k+1:Nat)],1000,⟨hlt,hg⟩,by omega,?_⟩
    refine Eq.mp (by kernel_rfl:(let z0:=idL cards.length;let z1:=(↑k:Int);let z2:=(↑cards.length:Int);let z3:=(↑(k+1):Int);let z4:=(↑i:Int);let z5:=(0:Int);let z7:=List.map sl a;let z6:=z0.length;An [decide (z1<z2)=true,An [z5≤z1,z1<(↑(z6):Int)],headF (List.drop (k*1) (ints z0))=some (i6 ↑k),An [z5≤z1,z1<(↑c.length:Int)],headF (List.drop (k*1) (ints c))=some (i6 (List.getD c k z5)),decide (List.getD c k z5<z5)=false,wr .i64 (z1+(1:Int))=z3,An [Tt,Sm [sl z0],An [Sm cs.length,Sm (List.map sl cs)],Sm (↑cs.length:Int),z4=z4,z4=z4,An [Sm c.length,Sm (ints c)],An [z6=z6,Sm (ints z0)],z2=z2,z3=z3,Tt],An [Sm [V.nils,V.nils],TT 2],An [An [Sm cards.length,Sm (ints cards)],An [Zz,Sm (m+1),Tt],Tt],An [noL=noL,Tt],An [lkO cards cs .ready=O.loop .ready none 0 (rkT cards cs) [35,36] rkA rkB,LowT 4 (rkT cards cs)],An [z7=z7,HfL z7],Tt])=_) ?_
    (repeat'(first|(with_reducible apply And.intro)|(refine fun(_:True)=>?_)))
    all_goals first|exact hlr|(with_reducible exact hid)|(with_reducible exact hld)|exact hla|exact aq|rfl|skip
 ·have : k = c.length := by omega
  subst this
  rw[List.take_length]at hj
  have hn: ¬((c.length:Int)<(cards.length:Int)):=by omega
  cases m with
  |zero=>
   refine .inr ⟨.exit 2,[],kiX cards cs i 0 a c,[no 19],1000,.inl ⟨hj,rfl,rfl⟩,?_⟩
   refine Eq.mp (by kernel_rfl:(An [decide ((↑c.length:Int)<(↑cards.length:Int))=false,An [Tt,Sm [sl (idL cards.length)],An [Sm cs.length,Sm (List.map sl cs)],Sm (↑cs.length:Int),Sm (↑i:Int),Sm (↑i:Int),An [Sm c.length,Sm (ints c)],Tt],An [Sm [V.nils,V.nils],TT 2],An [An [Sm cards.length,Sm (ints cards)],An [Zz,Zz,Zz],Tt],An [noL=noL,Tt],An [lkO cards cs .ready=O.loop .ready none 0 (rkT cards cs) [35,36] rkA rkB,LowT 4 (rkT cards cs)],Tt])=_) ?_
   (repeat'(first|(with_reducible apply And.intro)|(refine fun(_:True)=>?_)))
   all_goals first|exact hlr|exact hla|exact aq|rfl|skip
  |succ m=>
   refine .inr ⟨.exit 2,[4],kiX cards cs i (m+1) a c,[no 19],1000,.inl ⟨hj,rfl,rfl⟩,?_⟩
   refine Eq.mp (by kernel_rfl:(An [decide ((↑c.length:Int)<(↑cards.length:Int))=false,An [Tt,Sm [sl (idL cards.length)],An [Sm cs.length,Sm (List.map sl cs)],Sm (↑cs.length:Int),Sm (↑i:Int),Sm (↑i:Int),An [Sm c.length,Sm (ints c)],Tt],An [Sm [V.nils,V.nils],TT 2],An [An [Sm cards.length,Sm (ints cards)],An [Zz,Sm (m+1),Tt],Tt],An [noL=noL,Tt],An [lkO cards cs .ready=O.loop .ready none 0 (rkT cards cs) [35,36] rkA rkB,LowT 4 (rkT cards cs)],An [Sm (List.map sl a),HfL (List.map sl a)],Tt])=_) ?_
   (repeat'(first|(with_reducible apply And.intro)|(refine fun(_:True)=>?_)))
   all_goals first|exact hlr|exact hla|exact aq|rfl|skip
set_option maxHeartbeats 4000000
set_option maxRecDepth 100000
theorem kn_loop(cards:List Int)(cs:List (List Int))(h1:1≤cards.length)(h6:cards.length≤6)(h40:cs.length≤40)(hcl: ∀c∈cs,c.length=cards.length):
  Sat Pg none 4 (at' 107 [0,1,1,0]) (mkSt g0 34 (knS cards cs (0,0,[]))) (Qaf g0 34 [(True,.exit 0,knX cards cs (comp cs).length (comp cs))]):=by
 have hlr:=Qss cards cs 4 (by decide)
 refine Qa2 vE_ok mixed Qab (b:=at' 107 [0,1,1,0,0]) (by kernel_rfl) (fun q=>q.1≤cs.length∧q.2.2=comp (cs.take q.1)∧q.2.2.length=q.2.1) (knS cards cs) (fun q=>cs.length-q.1) (fun q hq=>?_) (0,0,[]) ⟨Nat.zero_le _,rfl,rfl⟩
 obtain⟨k,u,a⟩:=q
 obtain⟨hk,ha,hu⟩:=hq
 dsimp only at hk ha hu
 have hle:a.length≤k:=by
  rw[ha];unfold comp
  exact Nat.le_trans (List.length_filter_le _ _) (by rw[List.length_take];omega)
 have hla:=Qb3 sl a (fun _=>trivial)
 by_cases hlt:k<cs.length
 ·have hck : cs[k]? = some cs[k] := List.getElem?_eq_getElem hlt
  have hlc:=hcl _ (List.getElem_mem hlt)
  generalize cs[k]=c at*
  have hld:headF ((cs.map sl).drop (k*1))=some (sl c):=Qc9 hck
  have hnx:=Qq9 hck
  have hlen:((idL cards.length).length:Int)=(cards.length:Int):=by rw[Qin]
  have hi:=ki_loop cards cs k u a c hlc h6
  rw[←ha]at hnx
  have hla2:=Qb3 sl (a++[c]) (fun _=>trivial)
  cases hn:negB c with
  | true =>
   have hi:=hi.mono (Qb7 (by rw[hn];simp) hn)
   have hnx2:a=comp (cs.take (k+1)):=by rw[hnx,hn];simp
   cases u with
   |zero=>
    refine .inl ⟨(k+1,0,a),[],[yes 12,pl 14,ld 15 (sl c),nu 17 (cards.length:Nat),(0,.loop [] (kiS cards cs k 0 a c 0) [(True,.exit 1,kiY cards cs k 0 a)]),nu 33 (k+1:Nat)],1000,⟨hlt,hnx2,hu⟩,by dsimp only;omega,?_⟩
    clear ha hnx hnx2
    refine Eq.mp (by kernel_rfl:(let z0:=idL cards.length;let z1:=(↑cs.length:Int);let z2:=(↑k:Int);let z3:=List.map sl cs;let z5:=(↑cards.length:Int);let z6:=[V.nils,V.nils];let z7:=(↑(k+1):Int);let z9:=rkT cards cs;let y0:=ints cards;let z4:=O.loop .ready none 0 z9 [35,36] rkA rkB;let z8:=z0.length;An [decide (z2<z1)=true,An [(0:Int)≤z2,z2<z1],headF (List.drop (k*1) z3)=some (sl c),(↑(z8):Int)=z5,An [An [Tt,Sm [sl z0],An [Sm cs.length,z3=z3],z1=z1,z2=z2,z2=z2,An [Sm c.length,Sm (ints c)],An [z8=z8,Sm (ints z0)],z5=z5,(↑(0:Nat):Int)=(0:Int),Tt],An [z6=z6,TT 2],An [An [Sm cards.length,y0=y0],An [Zz,Zz,Zz],Tt],An [noL=noL,Tt],An [lkO cards cs .ready=z4,LowT 4 z9],Tt],Sat Pg none 4 (at' 107 [0,1,1,0,0,1,1,0,0,1,0,1,0]) (mkSt g0 34 (kiS cards cs k 0 a c 0)) (Qaf g0 34 [(True,Ex.exit 1,kiY cards cs k 0 a)]),(True→An [wr .i64 (z2+(1:Int))=z7,An [Tt,Sm [sl z0],An [Sm cs.length,z3=z3],z1=z1,z7=z7,Tt],An [z6=z6,TT 2],An [An [Sm cards.length,y0=y0],An [Zz,Zz,Zz],Tt],An [noL=noL,Tt],An [lkO cards cs .ready=z4,LowT 4 z9],Tt]),Tt])=_) ?_
    (repeat'(first|(with_reducible apply And.intro)|(refine fun(_:True)=>?_)))
    all_goals first|exact hi|exact hlr|(with_reducible exact hld)|(with_reducible exact hlen)|exact aq|rfl|skip
   |succ u=>
    refine .inl ⟨(k+1,u+1,a),[4],[yes 12,pl 14,ld 15 (sl c),nu 17 (cards.length:Nat),(0,.loop [4] (kiS cards cs k (u+1) a c 0) [(True,.exit 1,kiY cards cs k (u+1) a)]),nu 33 (k+1:Nat)],1000,⟨hlt,hnx2,hu⟩,by dsimp only;omega,?_⟩
    clear ha hnx hnx2
    refine Eq.mp (by kernel_rfl:(let y2:=An [Zz,Sm (u+1),Tt];let z0:=idL cards.length;let z1:=(↑cs.length:Int);let z2:=(↑k:Int);let z3:=List.map sl a;let z4:=List.map sl cs;let z6:=(↑cards.length:Int);let z7:=[V.nils,V.nils];let z8:=(↑(k+1):Int);let y0:=rkT cards cs;let y1:=ints cards;let z5:=O.loop .ready none 0 y0 [35,36] rkA rkB;let z9:=z0.length;An [decide (z2<z1)=true,An [(0:Int)≤z2,z2<z1],headF (List.drop (k*1) z4)=some (sl c),(↑(z9):Int)=z6,An [An [Tt,Sm [sl z0],An [Sm cs.length,z4=z4],z1=z1,z2=z2,z2=z2,An [Sm c.length,Sm (ints c)],An [z9=z9,Sm (ints z0)],z6=z6,(↑(0:Nat):Int)=(0:Int),Tt],An [z7=z7,TT 2],An [An [Sm cards.length,y1=y1],y2,Tt],An [noL=noL,Tt],An [lkO cards cs .ready=z5,LowT 4 y0],An [z3=z3,HfL z3],Tt],Sat Pg none 4 (at' 107 [0,1,1,0,0,1,1,0,0,1,0,1,0]) (mkSt g0 34 (kiS cards cs k (u+1) a c 0)) (Qaf g0 34 [(True,Ex.exit 1,kiY cards cs k (u+1) a)]),(True→An [wr .i64 (z2+(1:Int))=z8,An [Tt,Sm [sl z0],An [Sm cs.length,z4=z4],z1=z1,z8=z8,Tt],An [z7=z7,TT 2],An [An [Sm cards.length,y1=y1],y2,Tt],An [noL=noL,Tt],An [lkO cards cs .ready=z5,LowT 4 y0],An [z3=z3,HfL z3],Tt]),Tt])=_) ?_
    (repeat'(first|(with_reducible apply And.intro)|(refine fun(_:True)=>?_)))
    all_goals first|exact hi|exact hlr|(with_reducible exact hld)|exact hla|(with_reducible exact hlen)|exact aq|rfl|skip
  | false =>
   have hi:=hi.mono (Qb6 hn (by rw[hn];simp))
   have hnx2:a++[c]=comp (cs.take (k+1)):=by rw[hnx,hn];simp
   cases u with
   |zero=>
    have:a=[]:=List.eq_nil_of_length_eq_zero hu
    subst this
    have hcall:=yldk_A cards cs k c (by omega) (by omega)
    refine .inl ⟨(k+1,1,[c]),[5],[yes 12,pl 14,ld 15 (sl c),nu 17 (cards.length:Nat),(0,.loop [] (kiS cards cs k 0 [] c 0) [(True,.exit 2,kiX cards cs k 0 [] c)]),(31,.call ⟨.bool true,ofOs .e 0 (kA1 cards cs .ready c),6,[1,3]⟩),nu 33 (k+1:Nat)],1000,⟨hlt,hnx2,rfl⟩,by dsimp only;omega,?_⟩
    clear ha hnx hnx2
    refine Eq.mp (by kernel_rfl:(let z0:=idL cards.length;let z1:=(↑cs.length:Int);let z2:=(↑k:Int);let z3:=List.map sl cs;let z5:=(↑cards.length:Int);let z6:=[V.nils,V.nils];let z7:=(↑(k+1):Int);let z9:=rkT cards cs;let y0:=ints cards;let z4:=O.loop .ready none 0 z9 [35,36] rkA rkB;let z8:=z0.length;An [decide (z2<z1)=true,An [(0:Int)≤z2,z2<z1],headF (List.drop (k*1) z3)=some (sl c),(↑(z8):Int)=z5,An [An [Tt,Sm [sl z0],An [Sm cs.length,z3=z3],z1=z1,z2=z2,z2=z2,An [Sm c.length,Sm (ints c)],An [z8=z8,Sm (ints z0)],z5=z5,(↑(0:Nat):Int)=(0:Int),Tt],An [z6=z6,TT 2],An [An [Sm cards.length,y0=y0],An [Zz,Zz,Zz],Tt],An [noL=noL,Tt],An [lkO cards cs .ready=z4,LowT 4 z9],Tt],Sat Pg none 4 (at' 107 [0,1,1,0,0,1,1,0,0,1,0,1,0]) (mkSt g0 34 (kiS cards cs k 0 [] c 0)) (Qaf g0 34 [(True,Ex.exit 2,kiX cards cs k 0 [] c)]),(True→An [CallSpec Pg g0 (V.yld 3) [i6 ↑k,sl c] (ofOs T.e 0 (kwS cards cs [] 0)) 4 (CR.mk (V.bool true) (ofOs T.e 0 (kA1 cards cs .ready c)) 6 [1,3]),Tt,wr .i64 (z2+(1:Int))=z7,An [Tt,Sm [sl z0],An [Sm cs.length,z3=z3],z1=z1,z7=z7,Tt],An [z6=z6,TT 2],An [An [Sm cards.length,y0=y0],An [Zz,1=1,Tt],Tt],An [noL=noL,Tt],An [lkO cards cs .ready=z4,LowT 4 z9],An [List.map sl [c]=[sl c],Tt,Tt],Tt]),Tt])=_) ?_
    (repeat'(first|(with_reducible apply And.intro)|(refine fun(_:True)=>?_)))
    all_goals first|exact hi|exact hcall|exact hlr|(with_reducible exact hld)|(with_reducible exact hlen)|exact aq|rfl|skip
   |succ u=>
    have hcall:=yldk_C cards cs u (a.map sl) (by simp[hu]) (by omega) k c (by omega) (by omega)
    refine .inl ⟨(k+1,u+1+1,a++[c]),[6],[yes 12,pl 14,ld 15 (sl c),nu 17 (cards.length:Nat),(0,.loop [4] (kiS cards cs k (u+1) a c 0) [(True,.exit 2,kiX cards cs k (u+1) a c)]),(31,.call ⟨.bool true,ofOs .e 0 (kC1 cards cs .ready u (a.map sl) c),7,[1,4,3]⟩),nu 33 (k+1:Nat)],1000,⟨hlt,hnx2,by simp[hu]⟩,by dsimp only;omega,?_⟩
    clear ha hnx hnx2
    have hmap:a.map sl++[sl c]=(a++[c]).map sl:=by simp
    refine Eq.mp (by kernel_rfl:(let z0:=idL cards.length;let z1:=(↑cs.length:Int);let z2:=(↑k:Int);let z3:=List.map sl cs;let z5:=List.map sl a;let z6:=(↑cards.length:Int);let z7:=[V.nils,V.nils];let z8:=(↑(k+1):Int);let y0:=rkT cards cs;let y1:=ints cards;let y2:=List.map sl (a++[c]);let z4:=O.loop .ready none 0 y0 [35,36] rkA rkB;let z9:=z0.length;An [decide (z2<z1)=true,An [(0:Int)≤z2,z2<z1],headF (List.drop (k*1) z3)=some (sl c),(↑(z9):Int)=z6,An [An [Tt,Sm [sl z0],An [Sm cs.length,z3=z3],z1=z1,z2=z2,z2=z2,An [Sm c.length,Sm (ints c)],An [z9=z9,Sm (ints z0)],z6=z6,(↑(0:Nat):Int)=(0:Int),Tt],An [z7=z7,TT 2],An [An [Sm cards.length,y1=y1],An [Zz,Sm (u+1),Tt],Tt],An [noL=noL,Tt],An [lkO cards cs .ready=z4,LowT 4 y0],An [z5=z5,HfL z5],Tt],Sat Pg none 4 (at' 107 [0,1,1,0,0,1,1,0,0,1,0,1,0]) (mkSt g0 34 (kiS cards cs k (u+1) a c 0)) (Qaf g0 34 [(True,Ex.exit 2,kiX cards cs k (u+1) a c)]),(True→An [CallSpec Pg g0 (V.yld 3) [i6 ↑k,sl c] (ofOs T.e 0 (kwS cards cs a (u+1))) 5 (CR.mk (V.bool true) (ofOs T.e 0 (kC1 cards cs .ready u z5 c)) 7 [1,4,3]),Tt,wr .i64 (z2+(1:Int))=z8,An [Tt,Sm [sl z0],An [Sm cs.length,z3=z3],z1=z1,z8=z8,Tt],An [z7=z7,TT 2],An [An [Sm cards.length,y1=y1],An [Zz,Nat.succ u+1=u+2,Tt],Tt],An [noL=noL,Tt],An [lkO cards cs .ready=z4,LowT 4 y0],An [y2=z5++[sl c],HfL y2],Tt]),Tt])=_) ?_
    (repeat'(first|(with_reducible apply And.intro)|(refine fun(_:True)=>?_)))
    all_goals first|exact hi|exact hcall|exact hlr|(with_reducible exact hld)|(with_reducible exact hmap)|(with_reducible exact hmap.symm)|exact hla|exact hla2|(with_reducible exact hlen)|(with_reducible rfl)|(with_reducible exact trivial)|(with_reducible refine decide_eq_true ?_;omega)|(clear hi hcall hmap;omega)|(clear hi hcall hmap;exact wr6' (by omega) (by omega) (by omega))|skip
 ·have hke : k = cs.length := by omega
  subst hke
  rw[List.take_length]at ha
  subst ha
  cases u with
  |zero=>
   rw[hu]
   refine .inr ⟨.exit 0,[],knX cards cs 0 (comp cs),[no 12],1000,.inl ⟨trivial,rfl,rfl⟩,?_⟩
   clear hla hle hu
   refine Eq.mp (by kernel_rfl:(An [decide ((↑cs.length:Int)<(↑cs.length:Int))=false,Tt,An [Sm [V.nils,V.nils],TT 2],An [An [Sm cards.length,Sm (ints cards)],An [Zz,Zz,Zz],Tt],An [noL=noL,Tt],An [lkO cards cs .ready=O.loop .ready none 0 (rkT cards cs) [35,36] rkA rkB,LowT 4 (rkT cards cs)],Tt])=_) ?_
   (repeat'(first|(with_reducible apply And.intro)|(refine fun(_:True)=>?_)))
   all_goals first|exact hlr|exact aq|rfl|skip
  |succ u=>
   rw[hu]
   refine .inr ⟨.exit 0,[4],knX cards cs (u+1) (comp cs),[no 12],1000,.inl ⟨trivial,rfl,rfl⟩,?_⟩
   clear hle hu
   generalize comp cs=a at*
   refine Eq.mp (by kernel_rfl:(An [decide ((↑cs.length:Int)<(↑cs.length:Int))=false,Tt,An [Sm [V.nils,V.nils],TT 2],An [An [Sm cards.length,Sm (ints cards)],An [Zz,Sm (u+1),Tt],Tt],An [noL=noL,Tt],An [lkO cards cs .ready=O.loop .ready none 0 (rkT cards cs) [35,36] rkA rkB,LowT 4 (rkT cards cs)],An [Sm (List.map sl a),HfL (List.map sl a)],Tt])=_) ?_
   (repeat'(first|(with_reducible apply And.intro)|(refine fun(_:True)=>?_)))
   all_goals first|exact hlr|exact hla|exact aq|rfl|skip
theorem Qpz(cards:List Int)(cs:List (List Int))(h1:1≤cards.length)(h6:cards.length≤6)(h40:cs.length≤40)(hcl: ∀c∈cs,c.length=cards.length)(a:List (List Int))(ha:a=comp cs)(m:Nat)(hm:a.length=m):
  CallSpec Pg g0 (.fn 107 [.imp [sl cards,gC cs],.imp [sl (idL cards.length)]]) [.yld 3] (ofOs .e 0 (kA cards cs .ready)) 4 ⟨.tup [],ofOs .e 0 (kwS cards cs a m),(kwS cards cs a m).length,[1,3]⟩:=by
 have l:=kn_loop cards cs h1 h6 h40 hcl
 rw[←ha]at l
 rw[hm]at l
 have hlr:=Qss cards cs 4 (by decide)
 have hla:=Qb3 sl a (fun _=>trivial)
 refine CallSpec.caps (caps:=[.imp [sl cards,gC cs],.imp [sl (idL cards.length)]]) (ars:=[.yld 3]) ?_
 clear ha
 cases m with
 | zero =>
  refine CallSpec.of_vcH (P:=Pg) (E:=vE) vE_ok mixed Qab (n:=1000) (f:=107) (os0:=kA cards cs .ready) (ars:=[.yld 3,.imp [sl cards,gC cs],.imp [sl (idL cards.length)]]) (r:=[])
   (S := { sl := [], os := kwS cards cs a 0, md := [0, 1], lg := [1, 3] }) (v := .tup []) (hs := [(0, .loop [] (knS cards cs (0, 0, [])) [(True, .exit 0, knX cards cs 0 a)])]) (gl := g0) (by simp) (fun i hi hno => by
    rcases(show i=0∨i=1∨i=2∨i=3 by simp at hi;omega)with rfl|rfl|rfl|rfl<;>first|rfl|(simp at hno)) ?_
  refine Eq.mp (by kernel_rfl:(let z1:=[V.nils,V.nils];let z2:=rkT cards cs;let z3:=ints cards;let z4:=[sl (idL cards.length)];let z0:=O.loop .ready none 0 z2 [35,36] rkA rkB;An [Sm (V.tup []),An [An [Tt,z4=z4,An [Sm cs.length,Sm (List.map sl cs)],Sm (↑cs.length:Int),(↑(0:Nat):Int)=(0:Int),Tt],An [z1=z1,TT 2],An [An [Sm cards.length,z3=z3],An [Zz,Zz,Zz],Tt],An [noL=noL,Tt],An [lkO cards cs .ready=z0,LowT 4 z2],Tt],Sat Pg none 4 (at' 107 [0,1,1,0]) (mkSt g0 34 (knS cards cs (0,0,[]))) (Qaf g0 34 [(True,Ex.exit 0,knX cards cs 0 a)]),(True→An [Tt,An [z1=z1,TT 2],An [An [Sm cards.length,z3=z3],An [Zz,Zz,Zz],Tt],An [noL=noL,Tt],An [lkO cards cs .ready=z0,LowT 4 z2],Tt]),Tt])=_) ?_
  (repeat'(first|(with_reducible apply And.intro)|(refine fun(_:True)=>?_)))
  all_goals first|exact l|exact hlr|exact aq|rfl|skip
 | succ k =>
  refine CallSpec.of_vcH (P:=Pg) (E:=vE) vE_ok mixed Qab (n:=1000) (f:=107) (os0:=kA cards cs .ready) (ars:=[.yld 3,.imp [sl cards,gC cs],.imp [sl (idL cards.length)]]) (r:=[4])
   (S := { sl := [], os := kwS cards cs a (k + 1), md := [0, 1], lg := [1, 3] }) (v := .tup []) (hs := [(0, .loop [] (knS cards cs (0, 0, [])) [(True, .exit 0, knX cards cs (k + 1) a)])]) (gl := g0) (by simp) (fun i hi hno => by
    rcases(show i=0∨i=1∨i=2∨i=3 by simp at hi;omega)with rfl|rfl|rfl|rfl<;>first|rfl|(simp at hno)) ?_
  refine Eq.mp (by kernel_rfl:(let z1:=[V.nils,V.nils];let z2:=rkT cards cs;let z3:=ints cards;let z4:=List.map sl a;let z5:=[sl (idL cards.length)];let z0:=O.loop .ready none 0 z2 [35,36] rkA rkB;An [Sm (V.tup []),An [An [Tt,z5=z5,An [Sm cs.length,Sm (List.map sl cs)],Sm (↑cs.length:Int),(↑(0:Nat):Int)=(0:Int),Tt],An [z1=z1,TT 2],An [An [Sm cards.length,z3=z3],An [Zz,Zz,Zz],Tt],An [noL=noL,Tt],An [lkO cards cs .ready=z0,LowT 4 z2],Tt],Sat Pg none 4 (at' 107 [0,1,1,0]) (mkSt g0 34 (knS cards cs (0,0,[]))) (Qaf g0 34 [(True,Ex.exit 0,knX cards cs (k+1) a)]),(True→An [Tt,An [z1=z1,TT 2],An [An [Sm cards.length,z3=z3],An [Zz,Sm (k+1),Tt],Tt],An [noL=noL,Tt],An [lkO cards cs .ready=z0,LowT 4 z2],An [z4=z4,HfL z4],Tt]),Tt])=_) ?_
  (repeat'(first|(with_reducible apply And.intro)|(refine fun(_:True)=>?_)))
  all_goals first|exact l|exact hlr|exact hla|exact aq|rfl|skip
theorem Qpm(cards:List Int)(cs:List (List Int))(h1:1≤cards.length)(h6:cards.length≤6):
  CallSpec Pg g0 (.fn 85 []) [gV cards cs] (ofOs .e 0 [gO cards cs,.row 32 none [.nils,.nils]]) 2 ⟨.agg [sl cards,.sl 2 0 0 (some 0)],ofOs .e 0 [gO cards cs,.row 32 none [.nils,.nils],.row 29 none noL,.row 32 none [sl cards,.sl 2 0 0 (some 0)]],4,[]⟩:=by
 have hcl:=Qfu cards h6 h1
 have hg:=Qas cs
 have hc:=Qae cards
 refine CallSpec.of_vcH (P:=Pg) (E:=vE) vE_ok mixed Qab (n:=1000) (f:=85) (os0:=[gO cards cs,.row 32 none [.nils,.nils]]) (ars:=[gV cards cs]) (r:=[4,3])
   (S := { sl := [(2, .ptr 3 0)], os := [gO cards cs, .row 32 none [.nils, .nils], .row 29 none noL, .row 32 none [sl cards, .sl 2 0 0 (some 0)]], md := [0, 0, 0, 1] }) (v := .agg [sl cards, .sl 2 0 0 (some 0)]) (hs := [fn 5 (sl cards)]) (gl := g0) (by simp) (fun i hi hno => by
    rcases(show i=0∨i=1 by simp at hi;omega)with rfl|rfl<;>first|rfl|(simp at hno)) ?_
 refine Eq.mp (by kernel_rfl:(An [Sm (V.agg [sl cards,V.sl 2 0 0 (some 0)]),An [Tt,Tt],FnOk Pg g0 87 [V.im cards.length (ints cards)] (sl cards),Tt,An [Zz,Tt],An [Sm [sl cards,gC cs],TT 2],An [Sm [V.nils,V.nils],TT 2],An [noL=[],Tt],An [An [Sm cards.length,Sm (ints cards)],An [Zz,Zz,Zz],Tt],Tt])=_) ?_
 (repeat'(first|(with_reducible apply And.intro)|(refine fun(_:True)=>?_)))
 all_goals first|exact hcl|exact aq|rfl|skip
abbrev idxS(cards:List Int)(cs:List (List Int))(k:Nat):SL:={sl:=[(1,.ptr 0 0),(2,.ptr 1 0),(5,.sl 2 0 cards.length (some (cards.length-cards.length))),(21,i6 (cards.length:Nat)),(22,i6 (k:Nat))],os:=[gO cards cs,.row 32 none [.nils,.nils],.row 3 none (nF (idF k) cards.length)]}
abbrev idxX(cards:List Int)(cs:List (List Int)):SL:={sl:=[(1,.ptr 0 0),(2,.ptr 1 0),(5,sl (idL cards.length))],os:=[gO cards cs,.row 32 none [.nils,.nils]]}
theorem idx_loop(cards:List Int)(cs:List (List Int))(h6:cards.length≤6):
  Sat Pg none 0 (at' 38 [1,1,1,0,1,0]) (mkSt g0 45 (idxS cards cs 0)) (Qaf g0 45 [(True,.exit 0,idxX cards cs)]):=by
 have hg:=Qas cs
 have hc:=Qae cards
 refine Qa2 vE_ok mixed Qab (b:=at' 38 [1,1,1,0,1,0,0]) (by kernel_rfl) (fun k=>k≤cards.length) (idxS cards cs) (fun k=>cards.length-k) (fun k hk=>?_) 0 (Nat.zero_le _)
 have hF:=Qah (idF k) cards.length
 by_cases hlt:k<cards.length
 ·have y := @Qcs (idF k) cards.length k hlt k
  rw[idF_next]at y
  have hF1:=Qah (idF (k+1)) cards.length
  refine .inl ⟨k+1,[0,1,2],[yes 23,pl 28,st (nF (idF (k+1)) cards.length),nu 29 (k+1:Nat)],1000,hlt,by omega,?_⟩
  refine Eq.mp (by kernel_rfl:(let z0:=nF (idF (k+1)) cards.length;let z1:=(↑cards.length:Int);let z2:=(↑(k+1):Int);let z3:=(↑k:Int);An [decide (z3<z1)=true,An [(0:Int)≤z3,z3<z1],layE (0+k*1) (nF (idF k) cards.length) [i6 ↑k]=some z0,wr .i64 (z3+(1:Int))=z2,An [Zz,Zz,An [Zz,Sm cards.length,Sm (cards.length-cards.length)],z1=z1,z2=z2,Tt],An [Sm [sl cards,gC cs],TT 2],An [Sm [V.nils,V.nils],TT 2],An [z0=z0,HfL z0],Tt])=_) ?_
  (repeat'(first|(with_reducible apply And.intro)|(refine fun(_:True)=>?_)))
  all_goals first|(with_reducible exact y)|exact hF|exact hF1|exact hg|exact hc|exact aq|rfl|skip
 ·have he : k = cards.length := by omega
  subst he
  have e:=nF_idF cards.length
  have hl:=Qin cards.length
  refine .inr ⟨.exit 0,[0,1],idxX cards cs,[no 23],1000,.inl ⟨trivial,rfl,rfl⟩,?_⟩
  refine Eq.mp (by kernel_rfl:(let z0:=nF (idF cards.length) cards.length;let z1:=(↑cards.length:Int);An [decide (z1<z1)=false,An [Zz,Zz,An [List.length (idL cards.length)=cards.length,ints (idL cards.length)=z0,HfL z0],Tt],An [Sm [sl cards,gC cs],TT 2],An [Sm [V.nils,V.nils],TT 2],Tt])=_) ?_
  (repeat'(first|(with_reducible apply And.intro)|(refine fun(_:True)=>?_)))
  all_goals first|(with_reducible exact e)|(with_reducible exact e.symm)|(with_reducible exact hl)|(with_reducible exact hl.symm)|exact hF|exact hg|exact hc|exact aq|rfl|skip
abbrev kvV(l:List (List Int)):Nat→V
 |0=>.sl 2 0 0 (some 0)
 |k+1=>.sl 2 0 (k+1) none
abbrev kvL(l:List (List Int)):Nat→O
 |0=>.row 29 none noL
 |k+1=>.row 29 (some 1) (l.map sl)
abbrev kS0(cards:List Int)(cs:List (List Int)):SL:={sl:=kZ cards cs,os:=[.row 32 none [.nils,.nils],.row 32 none [sl cards,.sl 2 0 0 (some 0)],.row 29 none noL],md:=[0,1]}
abbrev kS1(cards:List Int)(a:List (List Int))(m:Nat):SL:={sl:=[(2,.ptr 0 0),(7,.ptr 1 0)],os:=[.row 32 none [.nils,.nils],.row 32 none [sl cards,kvV a m],kvL a m],md:=[0,1]}
theorem Qow(cards:List Int)(cs:List (List Int))(h1:1≤cards.length)(h6:cards.length≤6)(h40:cs.length≤40)(hcl: ∀c∈cs,c.length=cards.length)(a:List (List Int))(ha:a=comp cs)(m:Nat)(hm:a.length=m):
  Sat Pg none 0 rkC (mkSt g0 45 (kS0 cards cs)) (Qaf g0 45 [(True,.normal,kS1 cards a m)]):=by
 rw[rk_eq]
 have hla:=Qb3 sl a (fun _=>trivial)
 have hcall:=Qpz cards cs h1 h6 h40 hcl a ha m hm
 clear ha
 cases m with
 |zero=>
  refine Sat.rangeC (gl:=g0) (r:=[0,1,2]) (S:=kS0 cards cs) (f:=107) (caps:=[.imp [sl cards,gC cs],.imp [sl (idL cards.length)]]) (H1:=ofOs .e 0 (kwS cards cs a 0)) (nx1:=4) (v:=.tup []) rfl rfl hcall (by kernel_rfl) ?_
  refine Eq.mp (by kernel_rfl:(An [An [Zz,Zz,Tt],An [Sm [V.nils,V.nils],TT 2],An [An [Sm cards.length,Sm (ints cards)],An [Zz,Zz,Zz],Tt],An [noL=noL,Tt],Tt])=_) ?_
  (repeat'(first|(with_reducible apply And.intro)|(refine fun(_:True)=>?_)))
  all_goals first|exact hla|exact aq|rfl|skip
 |succ k=>
  refine Sat.rangeC (gl:=g0) (r:=[0,1,4]) (S:=kS0 cards cs) (f:=107) (caps:=[.imp [sl cards,gC cs],.imp [sl (idL cards.length)]]) (H1:=ofOs .e 0 (kwS cards cs a (k+1))) (nx1:=5) (v:=.tup []) rfl rfl hcall (by kernel_rfl) ?_
  refine Eq.mp (by kernel_rfl:(An [An [Zz,Zz,Tt],An [Sm [V.nils,V.nils],TT 2],An [An [Sm cards.length,Sm (ints cards)],An [Zz,Sm (k+1),Tt],Tt],An [Sm (List.map sl a),HfL (List.map sl a)],Tt])=_) ?_
  (repeat'(first|(with_reducible apply And.intro)|(refine fun(_:True)=>?_)))
  all_goals first|exact hla|exact aq|rfl|skip
def cmpE(cards:List Int)(cs:List (List Int)):V:=.tup [bif okAll cards cs then gV cards (comp cs)else .agg [.nils,.nils],i6 (chkE cards cs)]
theorem Qj8(cards:List Int)(cs:List (List Int))(hl1:cards.length≤1000)(hl2:cs.length≤1000):FnOk Pg g0 38 [gV cards cs] (cmpE cards cs):=by
 have hck:=Qnr cards cs hl1 hl2
 have hg:=Qas cs
 have hc:=Qae cards
 unfold cmpE
 cases hok:okAll cards cs with
 |false=>
  have e:chkE cards cs=250:=by unfold chkE;rw[hok];rfl
  rw[e]at hck⊢
  refine FnOk.of_vc vE_ok mixed Qab (n:=1000) (r:=[1]) (S:={sl:=[(2,.ptr 0 0),(3,i6 250)],os:=[.row 32 none [.nils,.nils]]}) (hs:=[fn 11 (i6 250)]) ?_
  refine Eq.mp (by kernel_rfl:(An [Sm (V.tup [V.agg [V.nils,V.nils],i6 250]),An [TT 2,Tt],FnOk Pg g0 84 [V.agg [V.im cards.length (ints cards),V.im cs.length (List.map sl cs)]] (i6 250),Tt,An [Zz,Sm (250:Int),Tt],An [Sm [V.nils,V.nils],TT 2],Tt])=_) ?_
  (repeat'(first|(with_reducible apply And.intro)|(refine fun(_:True)=>?_)))
  all_goals first|exact hck|exact hg|exact hc|exact aq|rfl|skip
 | true =>
  have e:chkE cards cs=0:=by unfold chkE;rw[hok];rfl
  rw[e]at hck⊢
  have hb:decide (1≤cards.length)=true∧decide (cards.length≤6)=true∧decide (cs.length≤40)=true∧okCs cards=true∧decide (prodT cards cards.length≤1024)=true∧cs.all (okRow cards)=true:=by
   unfold okAll at hok
   simpa [Bool.and_eq_true]using hok
  have h1:=of_decide_eq_true hb.1
  have h6:=of_decide_eq_true hb.2.1
  have h40:=of_decide_eq_true hb.2.2.1
  have hcl: ∀c∈cs,c.length=cards.length:=fun c hcm=>by
   have:=List.all_eq_true.1 hb.2.2.2.2.2 c hcm
   unfold okRow at this
   rw[Bool.and_eq_true]at this
   exact of_decide_eq_true this.1
  have lx:=idx_loop cards cs h6
  have hrep:=rep_nF cards.length
  have hem:=Qpm cards cs h1 h6
  have hkn:=known_fn cards cs cards.length
  have hF:=Qah (idF 0) cards.length
  generalize ha:comp cs=a
  have hla:=Qb3 sl a (fun _=>trivial)
  have hle:a.length≤40:=by
   rw[←ha];unfold comp
   exact Nat.le_trans (List.length_filter_le _ _) h40
  cases hm:a.length with
  |zero=>
   have lr:=Qow cards cs h1 h6 h40 hcl a ha.symm 0 hm
   have:a=[]:=List.eq_nil_of_length_eq_zero hm
   subst this
   clear hb hok
   refine FnOk.of_vc vE_ok mixed Qab (n:=1000) (r:=[0]) (S:={sl:=[(2,.ptr 0 0),(3,i6 0)],os:=[.row 32 none [sl cards,.im 0 []]],md:=[1]}) (hs:=[fn 11 (i6 0),mk 19,(0,.loop [0,1,2] (idxS cards cs 0) [(True,.exit 0,idxX cards cs)]),(31,.call ⟨.agg [sl cards,.sl 2 0 0 (some 0)],ofOs .e 0 [gO cards cs,.row 32 none [.nils,.nils],.row 29 none noL,.row 32 none [sl cards,.sl 2 0 0 (some 0)]],4,[]⟩),fn 34 (.fn 107 [.imp [sl cards,gC cs],.imp [sl (idL cards.length)]]),(0,.loop [1,4,2] (kS0 cards cs) [(True,.normal,kS1 cards [] 0)])]) ?_
   refine Eq.mp (by kernel_rfl:(let z9:=Sm cards.length;let z0:=(↑cards.length:Int);let z1:=[sl cards,gC cs];let z2:=[V.nils,V.nils];let z4:=idL cards.length;let z5:=ints cards;let z6:=[sl cards,V.sl 2 0 0 (some 0)];let z7:=nF (idF 0) cards.length;let z8:=(0:Int);let z3:=V.agg [V.im cards.length z5,V.im cs.length (List.map sl cs)];An [V.tup [V.agg [sl cards,V.im 0 []],i6 0]=V.tup [gV cards [],i6 0],An [TT 2,Tt],FnOk Pg g0 84 [z3] (i6 0),Tt,An [z8≤z0,z0≤z0,(↑(8:Nat):Int)*z0≤(281474976710656:Int),z0≤(9223372036854775807:Int)],An [An [Zz,Zz,An [Zz,z9,Sm (cards.length-cards.length)],z0=z0,(↑(0:Nat):Int)=z8,Tt],An [z1=z1,TT 2],An [z2=z2,TT 2],An [z7=rep cards.length [i6 0],HfL z7],Tt],Sat Pg none 0 (at' 38 [1,1,1,0,1,0]) (mkSt g0 45 (idxS cards cs 0)) (Qaf g0 45 [(True,Ex.exit 0,idxX cards cs)]),(True→An [CallSpec Pg g0 (V.fn 85 []) [V.agg z1] (ofOs T.e 0 [gO cards cs,O.row 32 none z2]) 2 (CR.mk (V.agg z6) (ofOs T.e 0 [gO cards cs,O.row 32 none z2,O.row 29 none noL,O.row 32 none z6]) 4 []),Tt,An [TT 2,Tt,Tt],FnOk Pg g0 86 [z3,V.im z4.length (ints z4)] (V.fn 107 [V.imp z1,V.imp [sl z4]]),Tt,An [An [Zz,Zz,An [z1=z1,Sm [sl z4],Tt],Tt],An [z2=z2,TT 2],An [An [z9,z5=z5],An [Zz,Zz,Zz],Tt],An [noL=noL,Tt],Tt],Sat Pg none 0 (at' 38 [1,1,1,1,1,0,1,0]) (mkSt g0 45 (kS0 cards cs)) (Qaf g0 45 [(True,Ex.normal,kS1 cards [] 0)]),(True→An [An [Zz,z8=z8,Tt],An [An [z9,z5=z5],An [Zz,[]=noL,Tt],Tt],Tt]),Tt]),Tt])=_) ?_
   (repeat'(first|(with_reducible apply And.intro)|(refine fun(_:True)=>?_)))
   all_goals first|exact hck|exact lx|exact lr|exact hem|exact hkn|(with_reducible exact hrep)|exact hg|exact hc|exact hF|exact aq|rfl|skip
  |succ k=>
   have lr:=Qow cards cs h1 h6 h40 hcl a ha.symm (k+1) hm
   rw[show gV cards a= .agg [sl cards,.im (k+1) (a.map sl)]by show V.agg [sl cards,.im a.length (a.map sl)]=_;rw[hm]]
   clear hb hok
   refine FnOk.of_vc vE_ok mixed Qab (n:=1000) (r:=[0]) (S:={sl:=[(2,.ptr 0 0),(3,i6 0)],os:=[.row 32 none [sl cards,.im (k+1) (a.map sl)]],md:=[1]}) (hs:=[fn 11 (i6 0),mk 19,(0,.loop [0,1,2] (idxS cards cs 0) [(True,.exit 0,idxX cards cs)]),(31,.call ⟨.agg [sl cards,.sl 2 0 0 (some 0)],ofOs .e 0 [gO cards cs,.row 32 none [.nils,.nils],.row 29 none noL,.row 32 none [sl cards,.sl 2 0 0 (some 0)]],4,[]⟩),fn 34 (.fn 107 [.imp [sl cards,gC cs],.imp [sl (idL cards.length)]]),(0,.loop [1,4,2] (kS0 cards cs) [(True,.normal,kS1 cards a (k+1))])]) ?_
   refine Eq.mp (by kernel_rfl:(let y1:=Sm cards.length;let z0:=(↑cards.length:Int);let z1:=[sl cards,gC cs];let z2:=[V.nils,V.nils];let z4:=idL cards.length;let z6:=List.map sl a;let z7:=ints cards;let z8:=[sl cards,V.sl 2 0 0 (some 0)];let z9:=nF (idF 0) cards.length;let y0:=(0:Int);let z3:=V.agg [V.im cards.length z7,V.im cs.length (List.map sl cs)];let z5:=V.tup [V.agg [sl cards,V.im (k+1) z6],i6 0];An [z5=z5,An [TT 2,Tt],FnOk Pg g0 84 [z3] (i6 0),Tt,An [y0≤z0,z0≤z0,(↑(8:Nat):Int)*z0≤(281474976710656:Int),z0≤(9223372036854775807:Int)],An [An [Zz,Zz,An [Zz,y1,Sm (cards.length-cards.length)],z0=z0,(↑(0:Nat):Int)=y0,Tt],An [z1=z1,TT 2],An [z2=z2,TT 2],An [z9=rep cards.length [i6 0],HfL z9],Tt],Sat Pg none 0 (at' 38 [1,1,1,0,1,0]) (mkSt g0 45 (idxS cards cs 0)) (Qaf g0 45 [(True,Ex.exit 0,idxX cards cs)]),(True→An [CallSpec Pg g0 (V.fn 85 []) [V.agg z1] (ofOs T.e 0 [gO cards cs,O.row 32 none z2]) 2 (CR.mk (V.agg z8) (ofOs T.e 0 [gO cards cs,O.row 32 none z2,O.row 29 none noL,O.row 32 none z8]) 4 []),Tt,An [TT 2,Tt,Tt],FnOk Pg g0 86 [z3,V.im z4.length (ints z4)] (V.fn 107 [V.imp z1,V.imp [sl z4]]),Tt,An [An [Zz,Zz,An [z1=z1,Sm [sl z4],Tt],Tt],An [z2=z2,TT 2],An [An [y1,z7=z7],An [Zz,Zz,Zz],Tt],An [noL=noL,Tt],Tt],Sat Pg none 0 (at' 38 [1,1,1,1,1,0,1,0]) (mkSt g0 45 (kS0 cards cs)) (Qaf g0 45 [(True,Ex.normal,kS1 cards a (k+1))]),(True→An [An [Zz,y0=y0,Tt],An [An [y1,z7=z7],An [Sm (k+1),z6=z6,HfL z6],Tt],Tt]),Tt]),Tt])=_) ?_
   (repeat'(first|(with_reducible apply And.intro)|(refine fun(_:True)=>?_)))
   all_goals first|exact hck|exact lx|exact lr|exact hem|exact hkn|(with_reducible exact hrep)|exact hg|exact hc|exact hF|exact hla|exact aq|rfl|skip
def Qei(cards:List Int)(cs:List (List Int))(lim:Int):Int:=if goodE cards cs=0 then(if 5<cards.length∨lim<0∨4<lim then 2 else 0)else goodE cards cs
abbrev e4(e:Int):SL:={sl:=[(4,i6 e)]}
theorem Qlg(cards:List Int)(cs:List (List Int))(lim:Int)(hl1:cards.length≤1000)(hl2:cs.length≤1000):FnOk Pg g0 108 [gV cards cs,i6 lim] (i6 (Qei cards cs lim)):=by
 have hd:=Qj8 cards cs hl1 hl2
 have hg:=Qas cs
 have hc:=Qae cards
 unfold cmpE at hd
 unfold Qei goodE
 cases hok:okAll cards cs with
 |false=>
  have e:chkE cards cs=250:=by unfold chkE;rw[hok];rfl
  rw[e,hok,cond_false]at hd
  simp only[Bool.false_eq_true,if_false,show((250:Int)=0)=False from by simp]
  refine FnOk.of_vc vE_ok mixed Qab (n:=1000) (r:=[]) (S:=e4 250) (hs:=[fn 9 (.tup [.agg [.nils,.nils],i6 250]),yes 13]) ?_
  refine Eq.mp (by kernel_rfl:(An [Sm (i6 250),An [TT 2,Tt],FnOk Pg g0 38 [V.agg [V.im cards.length (ints cards),V.im cs.length (List.map sl cs)]] (V.tup [V.agg [V.nils,V.nils],i6 250]),Tt,((250:Int) != (0:Int))=true,An [Sm (250:Int),Tt],Tt])=_) ?_
  (repeat'(first|(with_reducible apply And.intro)|(refine fun(_:True)=>?_)))
  all_goals first|exact hd|exact hg|exact hc|exact aq|rfl|skip
 | true =>
  have e:chkE cards cs=0:=by unfold chkE;rw[hok];rfl
  rw[e,hok,cond_true]at hd
  simp only[if_true]
  have hla:=Qb3 sl (comp cs) (fun _=>trivial)
  have hle:(comp cs).length≤cs.length:=List.length_filter_le _ _
  cases hn:cs.any negB with
  | true =>
   have hne:(comp cs).length≠cs.length:=fun h=>by have:=(Qnu cs).1 h;rw[hn]at this;cases this
   simp only[if_true,show((260:Int)=0)=False from by simp,if_false]
   generalize comp cs=a at*
   have hbn:((a.length:Int)==(cs.length:Int))=false:=by
    rw[beq_eq_false_iff_ne];omega
   refine FnOk.of_vc vE_ok mixed Qab (n:=1000) (r:=[]) (S:=e4 260) (hs:=[fn 9 (.tup [gV cards a,i6 0]),no 13,yes 21]) ?_
   refine Eq.mp (by kernel_rfl:(An [Sm (i6 260),An [TT 2,Tt],FnOk Pg g0 38 [V.agg [V.im cards.length (ints cards),V.im cs.length (List.map sl cs)]] (V.tup [gV cards a,i6 0]),Tt,((0:Int) != (0:Int))=false,((↑a.length:Int) != (↑cs.length:Int))=true,An [Sm (260:Int),Tt],Tt])=_) ?_
   (repeat'(first|(with_reducible apply And.intro)|(refine fun(_:True)=>?_)))
   all_goals first|exact hd|exact hg|exact hc|exact hla|exact hbn|exact aq|rfl|skip
  | false =>
   have heq:(comp cs).length=cs.length:=(Qnu cs).2 hn
   simp only[Bool.false_eq_true,if_false,if_true]
   generalize comp cs=a at*
   have hbn:((a.length:Int)==(cs.length:Int))=true:=by
    rw[heq];exact beq_self_eq_true _
   by_cases h1:5<cards.length
   ·rw [if_pos (Or.inl h1)]
    refine FnOk.of_vc vE_ok mixed Qab (n:=1000) (r:=[]) (S:=e4 2) (hs:=[fn 9 (.tup [gV cards a,i6 0]),no 13,no 21,yes 25]) ?_
    refine Eq.mp (by kernel_rfl:(An [Sm (i6 2),An [TT 2,Tt],FnOk Pg g0 38 [V.agg [V.im cards.length (ints cards),V.im cs.length (List.map sl cs)]] (V.tup [gV cards a,i6 0]),Tt,((0:Int) != (0:Int))=false,((↑a.length:Int) != (↑cs.length:Int))=false,decide ((↑cards.length:Int)>(5:Int))=true,An [Sm (2:Int),Tt],Tt])=_) ?_
    (repeat'(first|(with_reducible apply And.intro)|(refine fun(_:True)=>?_)))
    all_goals first|exact hd|exact hg|exact hc|exact hla|exact hbn|exact aq|rfl|skip
   ·by_cases h2 : lim < 0
    ·rw [if_pos (Or.inr (Or.inl h2))]
     refine FnOk.of_vc vE_ok mixed Qab (n:=1000) (r:=[]) (S:=e4 2) (hs:=[fn 9 (.tup [gV cards a,i6 0]),no 13,no 21,no 25,yes 28]) ?_
     refine Eq.mp (by kernel_rfl:(An [Sm (i6 2),An [TT 2,Tt],FnOk Pg g0 38 [V.agg [V.im cards.length (ints cards),V.im cs.length (List.map sl cs)]] (V.tup [gV cards a,i6 0]),Tt,((0:Int) != (0:Int))=false,((↑a.length:Int) != (↑cs.length:Int))=false,decide ((↑cards.length:Int)>(5:Int))=false,decide (lim<(0:Int))=true,An [Sm (2:Int),Tt],Tt])=_) ?_
     (repeat'(first|(with_reducible apply And.intro)|(refine fun(_:True)=>?_)))
     all_goals first|exact hd|exact hg|exact hc|exact hla|exact hbn|exact aq|rfl|skip
    ·by_cases h3 : 4 < lim
     ·rw [if_pos (Or.inr (Or.inr h3))]
      refine FnOk.of_vc vE_ok mixed Qab (n:=1000) (r:=[]) (S:=e4 2) (hs:=[fn 9 (.tup [gV cards a,i6 0]),no 13,no 21,no 25,no 28,yes 32]) ?_
      refine Eq.mp (by kernel_rfl:(An [Sm (i6 2),An [TT 2,Tt],FnOk Pg g0 38 [V.agg [V.im cards.length (ints cards),V.im cs.length (List.map sl cs)]] (V.tup [gV cards a,i6 0]),Tt,((0:Int) != (0:Int))=false,((↑a.length:Int) != (↑cs.length:Int))=false,decide ((↑cards.length:Int)>(5:Int))=false,decide (lim<(0:Int))=false,decide (lim>(4:Int))=true,An [Sm (2:Int),Tt],Tt])=_) ?_
      (repeat'(first|(with_reducible apply And.intro)|(refine fun(_:True)=>?_)))
      all_goals first|exact hd|exact hg|exact hc|exact hla|exact hbn|exact aq|rfl|skip
     ·rw [if_neg (by omega)]
      refine FnOk.of_vc vE_ok mixed Qab (n:=1000) (r:=[]) (S:=e4 0) (hs:=[fn 9 (.tup [gV cards a,i6 0]),no 13,no 21,no 25,no 28,no 32]) ?_
      refine Eq.mp (by kernel_rfl:(let z0:=(0:Int);An [Sm (i6 0),An [TT 2,Tt],FnOk Pg g0 38 [V.agg [V.im cards.length (ints cards),V.im cs.length (List.map sl cs)]] (V.tup [gV cards a,i6 0]),Tt,(z0 != z0)=false,((↑a.length:Int) != (↑cs.length:Int))=false,decide ((↑cards.length:Int)>(5:Int))=false,decide (lim<z0)=false,decide (lim>(4:Int))=false,An [z0=z0,Tt],Tt])=_) ?_
      (repeat'(first|(with_reducible apply And.intro)|(refine fun(_:True)=>?_)))
      all_goals first|exact hd|exact hg|exact hc|exact hla|exact hbn|exact aq|rfl|skip
set_option maxHeartbeats 1000000
set_option maxHeartbeats 4000000
def fF(cards:List Int)(cs:List (List Int))(v p:Nat):Nat→Int:=if v<cards.length then famG cards cs v p else Qaj
theorem Qrp{cards:List Int}{cs:List (List Int)}(h:goodE cards cs=0)(h40:cs.length≤40)(v p:Nat):inB (fF cards cs v p) 160:=by
 have hw:=Qfc h
 unfold fF
 split
 ·intro i hi
  unfold famG
  exact fam_le hw.cok hw.rok (by rw[Qar];omega) (by rw[List.length_map];exact h40) hi
 ·exact inB_zero.mono (by decide)
section
variable (n lim:Nat) (F:Nat→Nat→Nat→Int)
def laT:Nat→Nat→Nat
 |0=>fun _=>0
 |s+1=>sL s (stB n lim F s) (laT s)
def paT:Nat→Nat→Nat
 |0=>fun _=>0
 |s+1=>sP s (stB n lim F s) (paT s)
def allA:Nat→(Nat→Nat×Nat)×Nat
 |0=>(fun _=>(0,0),0)
 |s+1=>outA lim s (allA s).1 (allA s).2 n
end
theorem tab_next(n lim:Nat)(F:Nat→Nat→Nat→Int)(s:Nat):sB s (stB n lim F s) (tabB n lim F s)=tabB n lim F (s+1):=rfl
theorem tab_none(n lim:Nat)(F:Nat→Nat→Nat→Int)(s:Nat):sB s none (tabB n lim F s)=tabB n lim F s:=by
 funext i
 unfold sB
 split
 ·rename_i h
  rw[Qcl,if_neg (by omega)];rfl
 ·rfl
theorem la_ge(n lim:Nat)(F:Nat→Nat→Nat→Int): ∀(s i:Nat),s≤i→laT n lim F s i=0
 |0,_,_=>rfl
 |s+1,i,h=>by
  unfold laT sL
  rw[if_neg (by omega)]
  exact la_ge n lim F s i (by omega)
theorem pa_ge(n lim:Nat)(F:Nat→Nat→Nat→Int): ∀(s i:Nat),s≤i→paT n lim F s i=0
 |0,_,_=>rfl
 |s+1,i,h=>by
  unfold paT sP
  rw[if_neg (by omega)]
  exact pa_ge n lim F s i (by omega)
theorem la_none(n lim:Nat)(F:Nat→Nat→Nat→Int)(s:Nat):sL s none (laT n lim F s)=laT n lim F s:=by
 funext i
 unfold sL
 split
 ·rename_i h
  rw[la_ge n lim F s i (by omega)];rfl
 ·rfl
theorem pa_none(n lim:Nat)(F:Nat→Nat→Nat→Int)(s:Nat):sP s none (paT n lim F s)=paT n lim F s:=by
 funext i
 unfold sP
 split
 ·rename_i h
  rw[pa_ge n lim F s i (by omega)];rfl
 ·rfl
theorem la_at(n lim:Nat)(F:Nat→Nat→Nat→Int): ∀(s i:Nat),i<s→laT n lim F s i=vO (stB n lim F i)
 |s+1,i,h=>by
  unfold laT sL
  by_cases e:i=s
  ·rw[if_pos e,e]
  ·rw[if_neg e];exact la_at n lim F s i (by omega)
theorem pa_at(n lim:Nat)(F:Nat→Nat→Nat→Int): ∀(s i:Nat),i<s→paT n lim F s i=pO (stB n lim F i)
 |s+1,i,h=>by
  unfold paT sP
  by_cases e:i=s
  ·rw[if_pos e,e]
  ·rw[if_neg e];exact pa_at n lim F s i (by omega)
theorem outA_pos(lim s:Nat)(q:Nat→Nat×Nat)(k:Nat)(hb:s.testBit 0=true): ∀n,1≤n→1≤(outA lim s q k n).2
 |0,h=>absurd h (by decide)
 | n + 1, _ => by
  have h1:1≤(outA lim s q k 1).2:=by
   rw[outA,if_pos hb]
   by_cases hk:k=0
   ·subst hk
    exact Qio (s+1) (by omega) (Qbw.2 ⟨Nat.zero_and _,Nat.zero_testBit _,Nat.zero_le _⟩) rfl
   ·have := Qds lim s 0 q k (s + 1)
    unfold innK at this
    show 1≤(innA lim s 0 q k (s+1)).2
    omega
  have: ∀m,(outA lim s q k 1).2≤(outA lim s q k (m+1)).2:=fun m=>by
   induction m with
   |zero=>exact Nat.le_refl _
   | succ m ih =>
    refine Nat.le_trans ih ?_
    have e:outA lim s q k (m+1+1)=if s.testBit (m+1)then innA lim s (m+1) (outA lim s q k (m+1)).1 (outA lim s q k (m+1)).2 (s+1)else outA lim s q k (m+1):=rfl
    rw[e]
    split
    ·have := Qds lim s (m + 1) (outA lim s q k (m + 1)).1 (outA lim s q k (m + 1)).2 (s + 1)
     unfold innK at this
     exact this.1
    ·exact Nat.le_refl _
  exact Nat.le_trans h1 (this n)
theorem Qnf(n lim:Nat)(hn:1≤n): ∀s,2≤s→1≤(allA n lim s).2
 |0,h=>absurd h (by decide)
 |1,h=>absurd h (by decide)
 |2,_=>outA_pos lim 1 _ _ rfl n hn
 |s+3,_=>Nat.le_trans (Qnf n lim hn (s+2) (by omega)) (Qgi lim (s+2) _ _ n).1
theorem Qlx(n lim:Nat)(hn:n≤5): ∀s,s≤32→(allA n lim s).2≤s*160
 |0,_=>Nat.le_refl _
 |s+1,h=>by
  have ih:=Qlx n lim hn s (by omega)
  have:=(Qgi lim s (allA n lim s).1 (allA n lim s).2 n).2
  have h2:n*(s+1)≤5*32:=Nat.mul_le_mul hn (by omega)
  show(outA lim s (allA n lim s).1 (allA n lim s).2 n).2≤_
  omega
theorem Qo3(a b:Nat→Int){k:Nat}(hk:k<18):sumF a b k=a k+1*b k:=by
 unfold sumF
 rw[Qbn,if_pos hk]
theorem alltry{cards:List Int}{cs:List (List Int)}(hl2:cs.length≤40)(hcl: ∀c∈cs,c.length≤1000)(h:goodE cards cs=0)(hn:cards.length≤5)(lim s v:Nat)(hs:s<2^cards.length)(hv:v<cards.length)(hb:s.testBit v=true):
  Qdw cards cs (fF cards cs) (2^cards.length) lim s v (tabB cards.length lim (fF cards cs) s):=by
 have h32:=Qaq hn
 have hF:=Qrp h hl2
 have ht: ∀t,inB (tabB cards.length lim (fF cards cs) s t) 800:=fun t=>by
  rw[Qcl]
  split
  ·exact Qjk hF hn (by omega)
  ·exact inB_zero.mono (by decide)
 obtain⟨r1,r2,r3⟩:=Qbx s (by omega) v (by omega) hb
 have hp0:0<2^v:=Nat.pow_pos (by decide)
 have hbd: ∀p,inB (tryF (fF cards cs) (tabB cards.length lim (fF cards cs) s) s v p) 1000:=fun p=>((ht _).add (hF v p)).mono (by decide)
 refine⟨by omega,by omega,hb,hbd,fun p b hok hG=>⟨hs,by omega,by omega,fun G T=>Qlh (by omega),fun G T=>Qqu (by omega) (by omega) hb,?_,fun v' p' y e=>?_,?_⟩⟩
 ·have hsum : arF (sumF (tabB cards.length lim (fF cards cs) s (s - 2 ^ v)) (fF cards cs v p)) = arF (tryF (fF cards cs) (tabB cards.length lim (fF cards cs) s) s v p) := Qbp fun k hk => by
   show sumF _ _ k=tabB cards.length lim (fF cards cs) s (s-2^v) k+1*fF cards cs v p k
   exact Qo3 _ _ hk
  have:=add_ok (tabB cards.length lim (fF cards cs) s (s-2^v)) (fF cards cs v p) ((ht _).inA (by decide)) ((hF v p).inA (by decide)) (by
   refine Qsf fun k hk=>?_
   have h1:=ht (s-2^v) k hk
   have h2:=hF v p k hk
   have:sumF (tabB cards.length lim (fF cards cs) s (s-2^v)) (fF cards cs v p) k=tabB cards.length lim (fF cards cs) s (s-2^v) k+1*fF cards cs v p k:=Qo3 _ _ hk
   omega)
  rw[show ar (sumF (tabB cards.length lim (fF cards cs) s (s-2^v)) (fF cards cs v p))=ar (tryF (fF cards cs) (tabB cards.length lim (fF cards cs) s) s v p)from congrArg V.agg hsum]at this
  exact this
 ·exact cmp_ok _ _ ((hbd p).inA (by decide)) ((hG v' p' y e).inA (by decide))
 ·have ho := Qbw.1 hok
  have hps:p≤s:=by rw[←ho.1];exact Nat.and_le_right
  have hF2:fF cards cs v p=famG cards cs v p:=if_pos hv
  rw[hF2]
  refine Qto cards cs v p (by omega) (by omega) hcl h ?_
  unfold memB
  have e1:p/2^cards.length=0:=Nat.div_eq_of_lt (by omega)
  have e2:p/2^v%2=0:=by
   have:=ho.2.1
   rw[Nat.testBit_eq_decide_div_mod_eq]at this
   have:=of_decide_eq_false this
   omega
  simp[e1,e2,hv]
section
variable (cards:List Int) (cs:List (List Int)) (F:Nat→Nat→Nat→Int) (size lim:Nat)
abbrev smZ(s:Nat):List (Nat×V):=[(1,i6 (lim:Nat)),(2,.ptr 0 0),(4,.ptr 1 0),(5,.ptr 2 0),(6,.ptr 3 0),(8,i6 (size:Nat)),(9,.ptr 7 0),(10,.ptr 10 0),(39,i6 (size:Nat)),(40,i6 (s:Nat))]
abbrev smO(q:Nat→Nat×Nat)(B:Nat→Nat→Int)(la pa:Nat→Nat)(hs k:Nat):List O:=[.row 32 none [sl cards,gC cs],.row 153 none [.nilp],.row 77 none [.nils,.nils],.row 36 none [i6 0],.row 41 none (bF B size),.map (entM q k) k,.row 158 none (toC cards cs size 4 5 hs k),.row 153 none [.ptr 6 0],.row 3 none (nF la size),.row 28 none (uF pa size),.row 77 none [.sl 8 0 size (some (size-size)),.sl 9 0 size (some (size-size))]]
abbrev sSx(x:Nat×(Nat→Nat×Nat)×Nat×(Nat→Nat→Int)×(Nat→Nat)×(Nat→Nat)):SL:={sl:=smZ size lim x.1,os:=match x.2.2.1 with|0=>smO cards cs size x.2.1 x.2.2.2.1 x.2.2.2.2.1 x.2.2.2.2.2 11 0|k+1=>smO cards cs size x.2.1 x.2.2.2.1 x.2.2.2.2.1 x.2.2.2.2.2 11 (k+1)++[scO F x.2.1 k],md:=clM}
end
theorem Qtn(cards:List Int)(cs:List (List Int))(hl2:cs.length≤40)(hcl: ∀c∈cs,c.length≤1000)(h:goodE cards cs=0)(hn1:1≤cards.length)(hn:cards.length≤5)(lim:Nat)(F:Nat→Nat→Nat→Int)(hF:F=fF cards cs)(n:Nat)(hnl:n=cards.length)(size:Nat)(hsz:size=2^n)(q1:Nat→Nat×Nat)(k1:Nat)(hA:allA n lim size=(q1,k1))(B1:Nat→Nat→Int)(hB1:tabB n lim F size=B1)(la1:Nat→Nat)(hla1:laT n lim F size=la1)(pa1:Nat→Nat)(hpa1:paT n lim F size=pa1):
  Sat Pg none 0 (at' 88 [1,1,1,1,1,0,1,0]) (mkSt g0 75 (sSx cards cs F size lim (0,(fun _=>(0,0)),0,(fun _=>Qaj),(fun _=>0),(fun _=>0)))) (Qaf g0 75 [(True,.exit 0,sSx cards cs F size lim (size,q1,k1,B1,la1,pa1))]):=by
 have hc:=Qae cards
 have hg:=Qas cs
 have hla:=fun la=>Qah la size
 have hpa:=fun pa=>Qag pa size
 have hBB:=fun B=>Qaa B size
 have hEE:=fun q k=>Qac q k
 have hSS:=fun q k=>Qaa (scF F q) k
 have h32:size≤32:=by rw[hsz,hnl];exact Qaq hn
 refine Qa2 vE_ok mixed Qab (b:=at' 88 [1,1,1,1,1,0,1,0,0]) (by kernel_rfl) (fun x=>x.1≤size∧allA n lim x.1=(x.2.1,x.2.2.1)∧tabB n lim F x.1=x.2.2.2.1∧laT n lim F x.1=x.2.2.2.2.1∧paT n lim F x.1=x.2.2.2.2.2) (sSx cards cs F size lim) (fun x=>size-x.1) (fun x hx=>?_) (0,(fun _=>(0,0)),0,(fun _=>Qaj),(fun _=>0),(fun _=>0)) ⟨Nat.zero_le _,rfl,rfl,rfl,rfl⟩
 obtain⟨s,q,k,B,la,pa⟩:=x
 obtain⟨hs,eA,eB,eL,eP⟩:=hx
 dsimp only at hs eA eB eL eP
 have hkb:=Qlx n lim (by omega) s (by omega)
 rw[eA]at hkb
 dsimp only at hkb
 by_cases hlt:s<size
 ·generalize hout : outA lim s q k n = z
  obtain⟨q2,k2⟩:=z
  generalize hb2:outB lim F B s n=b2
  have l:=Ql2 cards cs F size lim n s B la pa (by omega) (by omega) (fun v hv hb=>by
   subst hF hnl hsz
   rw[←eB]
   exact alltry hl2 hcl h hn lim s v hlt hv hb) q k (by omega) q2 k2 b2 hout hb2
  have eB0:sB s none B=B:=by rw[←eB];exact tab_none n lim F s
  have eL0:sL s none la=la:=by rw[←eL];exact la_none n lim F s
  have eP0:sP s none pa=pa:=by rw[←eP];exact pa_none n lim F s
  have zB:bF (sB s none B) size=bF B size:=by rw[eB0]
  have zL:nF (sL s none la) size=nF la size:=by rw[eL0]
  have zP:uF (sP s none pa) size=uF pa size:=by rw[eP0]
  have hst:stB n lim F s=b2:=by unfold stB;rw[eB];exact hb2
  have eA2:allA n lim (s+1)=(q2,k2):=by
   show outA lim s (allA n lim s).1 (allA n lim s).2 n=_
   rw[eA];exact hout
  have eB2:tabB n lim F (s+1)=sB s b2 B:=by rw[←tab_next,hst,eB]
  have eL2:laT n lim F (s+1)=sL s b2 la:=by show sL s (stB n lim F s) (laT n lim F s)=_;rw[hst,eL]
  have eP2:paT n lim F (s+1)=sP s b2 pa:=by show sP s (stB n lim F s) (paT n lim F s)=_;rw[hst,eP]
  have hmono:=(Qgi lim s q k n).1
  rw[hout]at hmono
  dsimp only at hmono
  subst hnl
  clear h hA hB1 hla1 hpa1 hst hout hb2 eA eB eL eP
  cases k with
  | zero =>
   cases k2 with
   |zero=>
    skip
    refine .inl ⟨(s+1,q2,0,sB s b2 B,sL s b2 la,sP s b2 pa),[0,1,2,3,4,5,6,7,8,9,10],[yes 41,(0,.loop [0,1,2,3,4,5,6,7,8,9,10,11,12,13] (vSx cards cs F size lim cards.length s B la pa (0,q,0,none)) [(True,.exit 2,vSx cards cs F size lim cards.length s B la pa (cards.length,q2,0,b2))]),nu 72 ((s+1:Nat):Int)],1000,⟨hlt,eA2,eB2,eL2,eP2⟩,by dsimp only;omega,?_⟩
    refine Eq.mp (by kernel_rfl:(let y5:=An [Zz,Sm size,Sm (size-size)];let y6:=An [Sm [V.nilp],Tt,Tt];let y7:=An [Sm [i6 0],Tt,Tt];let z0:=(↑size:Int);let z1:=[sl cards,gC cs];let z2:=[V.nils,V.nils];let z3:=nF (sL s b2 la) size;let z4:=uF (sP s b2 pa) size;let z5:=(↑lim:Int);let z6:=List.map sl cs;let z7:=bF (sB s b2 B) size;let z8:=(↑(s+1):Int);let z9:=(↑s:Int);let y0:=ints cards;let y1:=nF (sL s none la) size;let y2:=uF (sP s none pa) size;let y3:=(↑cards.length:Int);let y4:=bF (sB s none B) size;An [decide (z9<z0)=true,An [An [z5=z5,Zz,Zz,Zz,Zz,z0=z0,Zz,Zz,Zz,Zz,Zz,z0=z0,z9=z9,y3=y3,(↑(0:Nat):Int)=(0:Int),Tt],An [z1=z1,TT 2],y6,An [z2=z2,TT 2],y7,An [y4=bF B size,HfL y4],An [Sm (entM q 0),HfE (entM q 0),Zz],An [An [Sm cards.length,y0=y0],An [Sm cs.length,z6=z6],y5,TT 2],An [Zz,Tt],An [y1=nF la size,HfL y1],An [y2=uF pa size,HfL y2],An [y5,y5,Tt],An [Sm [i6 ↑s],Tt,Tt],An [[V.bool (Qao none)]=[V.bool false],Tt,Tt],An [An [Zz,Zz,Zz,Zz,Tt],Tt],Tt],Sat Pg none 0 (at' 88 [1,1,1,1,1,0,1,0,0,1,1,0,0,1,1,1,1,0]) (mkSt g0 75 (vSx cards cs F size lim cards.length s B la pa (0,q,0,none))) (Qaf g0 75 [(True,Ex.exit 2,vSx cards cs F size lim cards.length s B la pa (cards.length,q2,0,b2))]),(True→An [wr .i64 (z9+(1:Int))=z8,An [z5=z5,Zz,Zz,Zz,Zz,z0=z0,Zz,Zz,z0=z0,z8=z8,Tt],An [z1=z1,TT 2],y6,An [z2=z2,TT 2],y7,An [z7=z7,HfL z7],An [Sm (entM q2 0),HfE (entM q2 0),Zz],An [An [Sm cards.length,y0=y0],An [Sm cs.length,z6=z6],y5,TT 2],An [Zz,Tt],An [z3=z3,HfL z3],An [z4=z4,HfL z4],An [y5,y5,Tt],Tt]),Tt])=_) ?_
    (repeat'(first|(with_reducible apply And.intro)|(refine fun(_:True)=>?_)))
    all_goals first|exact l|(with_reducible exact zB)|(with_reducible exact zB.symm)|(with_reducible exact zL)|(with_reducible exact zL.symm)|(with_reducible exact zP)|(with_reducible exact zP.symm)|exact hc|exact hg|exact aq|exact hla _|exact hpa _|exact hBB _|exact hEE _ _|exact hSS _ _|rfl|skip
   |succ k2=>
    skip
    refine .inl ⟨(s+1,q2,(k2+1),sB s b2 B,sL s b2 la,sP s b2 pa),[0,1,2,3,4,5,6,7,8,9,10,14],[yes 41,(0,.loop [0,1,2,3,4,5,6,7,8,9,10,11,12,13] (vSx cards cs F size lim cards.length s B la pa (0,q,0,none)) [(True,.exit 2,vSx cards cs F size lim cards.length s B la pa (cards.length,q2,(k2+1),b2))]),nu 72 ((s+1:Nat):Int)],1000,⟨hlt,eA2,eB2,eL2,eP2⟩,by dsimp only;omega,?_⟩
    refine Eq.mp (by kernel_rfl:(let y7:=An [Zz,Sm size,Sm (size-size)];let y8:=An [Sm [V.nilp],Tt,Tt];let y9:=An [Sm [i6 0],Tt,Tt];let z0:=(↑size:Int);let z1:=[sl cards,gC cs];let z2:=[V.nils,V.nils];let z3:=bF (scF F q2) (k2+1);let z4:=nF (sL s b2 la) size;let z5:=uF (sP s b2 pa) size;let z6:=(↑lim:Int);let z7:=List.map sl cs;let z8:=bF (sB s b2 B) size;let z9:=(↑(s+1):Int);let y0:=(↑s:Int);let y1:=entM q2 (k2+1);let y2:=ints cards;let y3:=nF (sL s none la) size;let y4:=uF (sP s none pa) size;let y5:=(↑cards.length:Int);let y6:=bF (sB s none B) size;An [decide (y0<z0)=true,An [An [z6=z6,Zz,Zz,Zz,Zz,z0=z0,Zz,Zz,Zz,Zz,Zz,z0=z0,y0=y0,y5=y5,(↑(0:Nat):Int)=(0:Int),Tt],An [z1=z1,TT 2],y8,An [z2=z2,TT 2],y9,An [y6=bF B size,HfL y6],An [Sm (entM q 0),HfE (entM q 0),Zz],An [An [Sm cards.length,y2=y2],An [Sm cs.length,z7=z7],y7,TT 2],An [Zz,Tt],An [y3=nF la size,HfL y3],An [y4=uF pa size,HfL y4],An [y7,y7,Tt],An [Sm [i6 ↑s],Tt,Tt],An [[V.bool (Qao none)]=[V.bool false],Tt,Tt],An [An [Zz,Zz,Zz,Zz,Tt],Tt],Tt],Sat Pg none 0 (at' 88 [1,1,1,1,1,0,1,0,0,1,1,0,0,1,1,1,1,0]) (mkSt g0 75 (vSx cards cs F size lim cards.length s B la pa (0,q,0,none))) (Qaf g0 75 [(True,Ex.exit 2,vSx cards cs F size lim cards.length s B la pa (cards.length,q2,k2+1,b2))]),(True→An [wr .i64 (y0+(1:Int))=z9,An [z6=z6,Zz,Zz,Zz,Zz,z0=z0,Zz,Zz,z0=z0,z9=z9,Tt],An [z1=z1,TT 2],y8,An [z2=z2,TT 2],y9,An [z8=z8,HfL z8],An [y1=y1,HfE y1,Sm (k2+1)],An [An [Sm cards.length,y2=y2],An [Sm cs.length,z7=z7],y7,Tt,An [Zz,Sm (k2+1),Tt],Tt],An [Zz,Tt],An [z4=z4,HfL z4],An [z5=z5,HfL z5],An [y7,y7,Tt],An [z3=z3,HfL z3],Tt]),Tt])=_) ?_
    (repeat'(first|(with_reducible apply And.intro)|(refine fun(_:True)=>?_)))
    all_goals first|exact l|(with_reducible exact zB)|(with_reducible exact zB.symm)|(with_reducible exact zL)|(with_reducible exact zL.symm)|(with_reducible exact zP)|(with_reducible exact zP.symm)|exact hc|exact hg|exact aq|exact hla _|exact hpa _|exact hBB _|exact hEE _ _|exact hSS _ _|rfl|skip
  | succ k =>
   cases k2 with
   |zero=>exact absurd hmono (by omega)
   |succ k2=>
    skip
    refine .inl ⟨(s+1,q2,(k2+1),sB s b2 B,sL s b2 la,sP s b2 pa),[0,1,2,3,4,5,6,7,8,9,10,14],[yes 41,(0,.loop [0,1,2,3,4,5,6,7,8,9,10,12,13,14,11] (vSx cards cs F size lim cards.length s B la pa (0,q,(k+1),none)) [(True,.exit 2,vSx cards cs F size lim cards.length s B la pa (cards.length,q2,(k2+1),b2))]),nu 72 ((s+1:Nat):Int)],1000,⟨hlt,eA2,eB2,eL2,eP2⟩,by dsimp only;omega,?_⟩
    refine Eq.mp (by kernel_rfl:(let y9:=An [Zz,Sm size,Sm (size-size)];let x0:=An [Sm [V.nilp],Tt,Tt];let x1:=An [Sm [i6 0],Tt,Tt];let z0:=(↑size:Int);let z1:=[sl cards,gC cs];let z2:=[V.nils,V.nils];let z3:=bF (scF F q2) (k2+1);let z4:=bF (scF F q) (k+1);let z5:=nF (sL s b2 la) size;let z6:=uF (sP s b2 pa) size;let z7:=(↑lim:Int);let z8:=List.map sl cs;let z9:=bF (sB s b2 B) size;let y0:=(↑(s+1):Int);let y1:=(↑s:Int);let y2:=entM q2 (k2+1);let y3:=entM q (k+1);let y4:=ints cards;let y5:=nF (sL s none la) size;let y6:=uF (sP s none pa) size;let y7:=(↑cards.length:Int);let y8:=bF (sB s none B) size;An [decide (y1<z0)=true,An [An [z7=z7,Zz,Zz,Zz,Zz,z0=z0,Zz,Zz,Zz,Zz,Zz,z0=z0,y1=y1,y7=y7,(↑(0:Nat):Int)=(0:Int),Tt],An [z1=z1,TT 2],x0,An [z2=z2,TT 2],x1,An [y8=bF B size,HfL y8],An [y3=y3,HfE y3,Sm (k+1)],An [An [Sm cards.length,y4=y4],An [Sm cs.length,z8=z8],y9,Tt,An [Zz,Sm (k+1),Tt],Tt],An [Zz,Tt],An [y5=nF la size,HfL y5],An [y6=uF pa size,HfL y6],An [y9,y9,Tt],An [Sm [i6 ↑s],Tt,Tt],An [[V.bool (Qao none)]=[V.bool false],Tt,Tt],An [An [Zz,Zz,Zz,Zz,Tt],Tt],An [z4=z4,HfL z4],Tt],Sat Pg none 0 (at' 88 [1,1,1,1,1,0,1,0,0,1,1,0,0,1,1,1,1,0]) (mkSt g0 75 (vSx cards cs F size lim cards.length s B la pa (0,q,k+1,none))) (Qaf g0 75 [(True,Ex.exit 2,vSx cards cs F size lim cards.length s B la pa (cards.length,q2,k2+1,b2))]),(True→An [wr .i64 (y1+(1:Int))=y0,An [z7=z7,Zz,Zz,Zz,Zz,z0=z0,Zz,Zz,z0=z0,y0=y0,Tt],An [z1=z1,TT 2],x0,An [z2=z2,TT 2],x1,An [z9=z9,HfL z9],An [y2=y2,HfE y2,Sm (k2+1)],An [An [Sm cards.length,y4=y4],An [Sm cs.length,z8=z8],y9,Tt,An [Zz,Sm (k2+1),Tt],Tt],An [Zz,Tt],An [z5=z5,HfL z5],An [z6=z6,HfL z6],An [y9,y9,Tt],An [z3=z3,HfL z3],Tt]),Tt])=_) ?_
    (repeat'(first|(with_reducible apply And.intro)|(refine fun(_:True)=>?_)))
    all_goals first|exact l|(with_reducible exact zB)|(with_reducible exact zB.symm)|(with_reducible exact zL)|(with_reducible exact zL.symm)|(with_reducible exact zP)|(with_reducible exact zP.symm)|exact hc|exact hg|exact aq|exact hla _|exact hpa _|exact hBB _|exact hEE _ _|exact hSS _ _|rfl|skip
 ·have he : s = size := by omega
  subst he
  rw[eA]at hA
  rw[eB]at hB1
  rw[eL]at hla1
  rw[eP]at hpa1
  obtain⟨rfl,rfl⟩:=Prod.mk.inj hA
  subst hB1 hla1 hpa1
  clear h hA eA eB eL eP
  cases k with
  |zero=>
   skip
   refine .inr ⟨.exit 0,[0,1,2,3,4,5,6,7,8,9,10],_,[no 41],1000,.inl ⟨trivial,rfl,rfl⟩,?_⟩
   refine Eq.mp (by kernel_rfl:(let z0:=(↑s:Int);An [decide (z0<z0)=false,An [Sm (↑lim:Int),Zz,Zz,Zz,Zz,z0=z0,Zz,Zz,z0=z0,z0=z0,Tt],An [Sm [sl cards,gC cs],TT 2],An [Sm [V.nilp],Tt,Tt],An [Sm [V.nils,V.nils],TT 2],An [Sm [i6 0],Tt,Tt],An [Sm (bF B s),HfL (bF B s)],An [Sm (entM q 0),HfE (entM q 0),Zz],An [An [Sm cards.length,Sm (ints cards)],An [Sm cs.length,Sm (List.map sl cs)],An [Zz,s=s,Sm (s-s)],TT 2],An [Zz,Tt],An [Sm (nF la s),HfL (nF la s)],An [Sm (uF pa s),HfL (uF pa s)],An [An [Zz,s=s,Sm (s-s)],An [Zz,s=s,Sm (s-s)],Tt],Tt])=_) ?_
   (repeat'(first|(with_reducible apply And.intro)|(refine fun(_:True)=>?_)))
   all_goals first|exact hc|exact hg|exact aq|exact hla _|exact hpa _|exact hBB _|exact hEE _ _|exact hSS _ _|rfl|skip
  |succ k=>
   skip
   refine .inr ⟨.exit 0,[0,1,2,3,4,5,6,7,8,9,10,11],_,[no 41],1000,.inl ⟨trivial,rfl,rfl⟩,?_⟩
   refine Eq.mp (by kernel_rfl:(let z0:=(↑s:Int);let z1:=bF (scF F q) (k+1);let z2:=entM q (k+1);An [decide (z0<z0)=false,An [Sm (↑lim:Int),Zz,Zz,Zz,Zz,z0=z0,Zz,Zz,z0=z0,z0=z0,Tt],An [Sm [sl cards,gC cs],TT 2],An [Sm [V.nilp],Tt,Tt],An [Sm [V.nils,V.nils],TT 2],An [Sm [i6 0],Tt,Tt],An [Sm (bF B s),HfL (bF B s)],An [z2=z2,HfE z2,Sm (k+1)],An [An [Sm cards.length,Sm (ints cards)],An [Sm cs.length,Sm (List.map sl cs)],An [Zz,s=s,Sm (s-s)],Tt,An [Zz,Sm (k+1),Tt],Tt],An [Zz,Tt],An [Sm (nF la s),HfL (nF la s)],An [Sm (uF pa s),HfL (uF pa s)],An [An [Zz,s=s,Sm (s-s)],An [Zz,s=s,Sm (s-s)],Tt],An [z1=z1,HfL z1],Tt])=_) ?_
   (repeat'(first|(with_reducible apply And.intro)|(refine fun(_:True)=>?_)))
   all_goals first|exact hc|exact hg|exact aq|exact hla _|exact hpa _|exact hBB _|exact hEE _ _|exact hSS _ _|rfl|skip
set_option maxHeartbeats 4000000
set_option maxRecDepth 100000
theorem Qq1(cards:List Int)(cs:List (List Int))(lim:Int)(hl1:cards.length≤1000)(hl2:cs.length≤1000)(e:Int)(he:Qei cards cs lim=e)(h0:e≠0):FnOk Pg g0 88 [gV cards cs,i6 lim] (.tup [.nilp,.agg [.nils,.nils],i6 e]):=by
 have hd:=Qlg cards cs lim hl1 hl2
 rw[he]at hd
 have hg:=Qas cs
 have hc:=Qae cards
 refine FnOk.of_vc vE_ok mixed Qab (n:=1000) (r:=[1,2,3]) (S:={sl:=[(4,.ptr 0 0),(5,.ptr 1 0),(6,.ptr 2 0)],os:=[.row 153 none [.nilp],.row 77 none [.nils,.nils],.row 36 none [i6 e]]}) (hs:=[fn 19 (i6 e),yes 21]) ?_
 refine Eq.mp (by kernel_rfl:(An [Sm (V.tup [V.nilp,V.agg [V.nils,V.nils],i6 e]),An [TT 2,Tt,Tt],FnOk Pg g0 108 [V.agg [V.im cards.length (ints cards),V.im cs.length (List.map sl cs)],i6 lim] (i6 e),Tt,(e != (0:Int))=true,An [Zz,Zz,Zz,Tt],An [Sm [V.nilp],Tt,Tt],An [Sm [V.nils,V.nils],TT 2],An [Sm [i6 e],Tt,Tt],Tt])=_) ?_
 (repeat'(first|(with_reducible apply And.intro)|(refine fun(_:True)=>?_)))
 all_goals first|exact hd|exact hg|exact hc|exact aq|rfl|skip
section
variable (cards:List Int) (cs:List (List Int)) (F:Nat→Nat→Nat→Int) (size:Nat) (q:Nat→Nat×Nat) (B:Nat→Nat→Int) (la pa:Nat→Nat) (k:Nat)
abbrev cbO:List O:=[.row 41 none (bF B size),.map (entM q (k+1)) (k+1),.row 158 none (toC cards cs size 0 1 5 (k+1)),.row 3 none (nF la size),.row 28 none (uF pa size),scO F q k]
abbrev cbL:V:=.agg [.sl 3 0 size (some (size-size)),.sl 4 0 size (some (size-size))]
abbrev cbV:V:=.tup [.ptr 2 0,cbL size,i6 0]
end
theorem cb_sc(cards:List Int)(cs:List (List Int))(F:Nat→Nat→Nat→Int)(size:Nat)(q:Nat→Nat×Nat)(B:Nat→Nat→Int)(la pa:Nat→Nat)(k:Nat): ∀o∈cbO cards cs F size q B la pa k,ScO (fun i=>i<6) o:=by
 intro o ho
 simp only[List.mem_cons,List.not_mem_nil,or_false]at ho
 rcases ho with rfl|rfl|rfl|rfl|rfl|rfl
 ·exact HfL.sc _ (Qaa _ _)
 ·exact HfE.sc _ (Qac _ _)
 ·exact⟨trivial,trivial,(show 0<6 by decide),(show 1<6 by decide),(show 5<6 by decide),trivial⟩
 ·exact HfL.sc _ (Qah _ _)
 ·exact HfL.sc _ (Qag _ _)
 ·exact HfL.sc _ (Qaa _ _)
theorem pow_len{n:Nat}(h:n≤5): ∀(G:Ctx)(t:Nat),binV G .shl t (i6 1) (i6 (n:Int))=some (i6 ((2^n:Nat):Int)):=fun G t=>Qlh (by omega)
theorem rep_bF(n:Nat):rep n (arF Qaj)=bF (fun _=>Qaj) n:=Qgp n
theorem Qth(n:Nat):rep n [i6 0]=nF (fun _=>0) n:=Qgp n
theorem Qmr(n:Nat):rep n [u6 0]=uF (fun _=>0) n:=Qgp n
theorem Qjb{cards:List Int}{cs:List (List Int)}{lim:Int}(h:Qei cards cs lim=0):goodE cards cs=0∧1≤cards.length∧cards.length≤5∧0≤lim∧lim≤4∧cs.length≤40∧(∀c∈cs,c.length=cards.length):=by
 unfold Qei at h
 by_cases hg:goodE cards cs=0
 ·rw [if_pos hg] at h
  have h2: ¬(5<cards.length∨lim<0∨4<lim):=fun hh=>by rw[if_pos hh]at h;cases h
  have hok:okAll cards cs=true:=by
   unfold goodE at hg
   cases hh:okAll cards cs with
   |true=>rfl
   |false=>rw[hh]at hg;simp at hg
  have hb:decide (1≤cards.length)=true∧decide (cards.length≤6)=true∧decide (cs.length≤40)=true∧okCs cards=true∧decide (prodT cards cards.length≤1024)=true∧cs.all (okRow cards)=true:=by
   unfold okAll at hok
   simpa [Bool.and_eq_true]using hok
  refine⟨hg,of_decide_eq_true hb.1,by omega,by omega,by omega,of_decide_eq_true hb.2.2.1,fun c hcm=>?_⟩
  have:=List.all_eq_true.1 hb.2.2.2.2.2 c hcm
  unfold okRow at this
  rw[Bool.and_eq_true]at this
  exact of_decide_eq_true this.1
 ·rw [if_neg hg] at h
  exact absurd h hg
theorem Qns(cards:List Int)(cs:List (List Int))(lim:Nat)(he:Qei cards cs (lim:Int)=0):
  ∃(q:Nat→Nat×Nat)(k:Nat),k≤100000∧CallSpec Pg g0 (.fn 88 []) [gV cards cs,i6 (lim:Int)] (ofOs .e 0 []) 0 ⟨cbV (2^cards.length),ofOs .e 0 (cbO cards cs (fF cards cs) (2^cards.length) q (tabB cards.length lim (fF cards cs) (2^cards.length)) (laT cards.length lim (fF cards cs) (2^cards.length)) (paT cards.length lim (fF cards cs) (2^cards.length)) k),6,[]⟩:=by
 obtain⟨hg0,hn1,hn5,_,_,hl2,hcl⟩:=Qjb he
 have hd:=Qlg cards cs (lim:Int) (by omega) (by omega)
 rw[he]at hd
 have hg:=Qas cs
 have hc:=Qae cards
 have hp2:=pow_len hn5
 have h32:=Qaq hn5
 have hk0:=Qnf cards.length lim hn1 (2^cards.length) (Nat.le_trans (by decide) (Nat.pow_le_pow_right (show 0<2 by decide) hn1))
 have hpos:1≤2^cards.length:=Nat.pow_pos (by decide)
 have hkb:=Qlx cards.length lim hn5 (2^cards.length) h32
 generalize hA:allA cards.length lim (2^cards.length)=z at hk0 hkb
 obtain⟨q1,k1⟩:=z
 cases k1 with
 |zero=>exact absurd (show 1≤0 from hk0) (by decide)
 | succ k =>
  have hkb':k≤100000:=by dsimp only at hkb;omega
  have l:=Qtn cards cs hl2 (fun c h=>by rw[hcl c h];omega) hg0 hn1 hn5 lim (fF cards cs) rfl cards.length rfl (2^cards.length) rfl q1 (k+1) hA _ rfl _ rfl _ rfl
  generalize tabB cards.length lim (fF cards cs) (2^cards.length)=B at*
  generalize laT cards.length lim (fF cards cs) (2^cards.length)=la at*
  generalize paT cards.length lim (fF cards cs) (2^cards.length)=pa at*
  generalize fF cards cs=F at*
  generalize 2^cards.length=size at*
  refine⟨q1,k,hkb',CallSpec.dropL (os1:=cbO cards cs F size q1 B la pa k) [.row 153 none [.ptr 2 0],.row 77 none [.sl 3 0 size (some (size-size)),.sl 4 0 size (some (size-size))],.row 36 none [i6 0]] ?_ (Nat.zero_le _) ⟨(show 2<6 by decide),⟨(show 3<6 by decide),(show 4<6 by decide),trivial⟩,trivial,trivial⟩ (cb_sc cards cs F size q1 B la pa k) (fun i hi _=>absurd hi (Nat.not_lt_zero _))⟩
  have hB:=Qaa B size
  have hla:=Qah la size
  have hpa:=Qag pa size
  have hE:=Qac q1 (k+1)
  have hS:=Qaa (scF F q1) (k+1)
  have hr1:=rep_bF size
  have hr2:=Qth size
  have hr3:=Qmr size
  have hB0:=Qaa (fun _=>Qaj) size
  have hla0:=Qah (fun _=>0) size
  have hpa0:=Qag (fun _=>0) size
  clear hA he
  refine CallSpec.of_vcH (P:=Pg) (E:=vE) vE_ok mixed Qab (n:=1000) (f:=88) (os0:=[]) (ars:=[gV cards cs,i6 (lim:Int)]) (r:=[4,5,6,8,9,11,1,2,3])
   (S:={sl:=[(4,.ptr 6 0),(5,.ptr 7 0),(6,.ptr 8 0)],os:=cbO cards cs F size q1 B la pa k++[.row 153 none [.ptr 2 0],.row 77 none [.sl 3 0 size (some (size-size)),.sl 4 0 size (some (size-size))],.row 36 none [i6 0]],md:=[0,0,1,0,0,0,1,1]}) (v:=cbV size) (hs:=[fn 19 (i6 0),no 21,va 27 (i6 (size:Nat)),mk 30,mk 35,mk 37,(0,.loop [0,1,2,3,4,5,6,7,8,9,10] (sSx cards cs F size lim (0,(fun _=>(0,0)),0,(fun _=>Qaj),(fun _=>0),(fun _=>0))) [(True,.exit 0,sSx cards cs F size lim (size,q1,k+1,B,la,pa))])]) (gl:=g0) (by simp) (fun i hi hno=>absurd hi (Nat.not_lt_zero _)) ?_
  refine Eq.mp (by kernel_rfl:(let z9:=An [Zz,Sm size,Sm (size-size)];let y0:=An [Sm [i6 0],Tt,Tt];let z0:=(↑size:Int);let z1:=List.map sl cs;let z2:=(9223372036854775807:Int);let z3:=(281474976710656:Int);let z4:=bF (scF F q1) (k+1);let z5:=(0:Int);let z6:=ints cards;let z7:=entM q1 (k+1);let z8:=some (size-size);An [V.tup [V.ptr 2 0,V.agg [V.sl 3 0 size z8,V.sl 4 0 size z8],i6 0]=cbV size,An [TT 2,Tt,Tt],FnOk Pg g0 108 [V.agg [V.im cards.length z6,V.im cs.length z1],i6 ↑lim] (i6 0),Tt,(z5 != z5)=false,binV (Qad Pg) .shl 3 (i6 1) (i6 ↑cards.length)=some (i6 ↑size),An [z5≤z0,z0≤z0,(↑(144:Nat):Int)*z0≤z3,z0≤z2],An [z5≤z0,z0≤z0,(↑(8:Nat):Int)*z0≤z3,z0≤z2],An [z5≤z0,z0≤z0,(↑(8:Nat):Int)*z0≤z3,z0≤z2],An [An [Sm (↑lim:Int),Zz,Zz,Zz,Zz,z0=z0,Zz,Zz,z0=z0,(↑(0:Nat):Int)=z5,Tt],An [Sm [sl cards,gC cs],TT 2],An [Sm [V.nilp],Tt,Tt],An [Sm [V.nils,V.nils],TT 2],y0,An [bF (fun x=>Qaj) size=rep size [i6 0,i6 0,i6 0,i6 0,i6 0,i6 0,i6 0,i6 0,i6 0,i6 0,i6 0,i6 0,i6 0,i6 0,i6 0,i6 0,i6 0,i6 0],HfL (bF (fun x=>Qaj) size)],An [entM (fun x=>(0,0)) 0=[],HfE (entM (fun x=>(0,0)) 0),Zz],An [An [Sm cards.length,z6=z6],An [Sm cs.length,z1=z1],z9,TT 2],An [Zz,Tt],An [nF (fun x=>0) size=rep size [i6 0],HfL (nF (fun x=>0) size)],An [uF (fun x=>0) size=rep size [u6 0],HfL (uF (fun x=>0) size)],An [z9,z9,Tt],Tt],Sat Pg none 0 (at' 88 [1,1,1,1,1,0,1,0]) (mkSt g0 75 (sSx cards cs F size lim (0,fun x=>(0,0),0,fun x=>Qaj,fun x=>0,fun x=>0))) (Qaf g0 75 [(True,Ex.exit 0,sSx cards cs F size lim (size,q1,k+1,B,la,pa))]),(True→An [An [Zz,Zz,Zz,Tt],An [Sm (bF B size),HfL (bF B size)],An [z7=z7,HfE z7,Sm (k+1)],An [An [Sm cards.length,z6=z6],An [Sm cs.length,z1=z1],z9,Tt,An [Zz,Sm (k+1),Tt],Tt],An [Sm (nF la size),HfL (nF la size)],An [Sm (uF pa size),HfL (uF pa size)],An [z4=z4,HfL z4],An [Zz,Tt],An [z9,z9,Tt],y0,Tt]),Tt])=_) ?_
  (repeat'(first|(with_reducible apply And.intro)|(refine fun(_:True)=>?_)))
  all_goals first|exact l|exact hd|(with_reducible exact hp2 _ _)|(with_reducible exact hr1)|(with_reducible exact hr2)|(with_reducible exact hr3)|exact hr1.symm|exact hr2.symm|exact hr3.symm|exact Qac _ 0|exact hg|exact hc|exact hB|exact hla|exact hpa|exact hE|exact hS|exact hB0|exact hla0|exact hpa0|exact hp2 _ _|exact aq|rfl|skip
set_option maxHeartbeats 4000000
set_option maxRecDepth 100000
abbrev ldV(size:Nat)(la pa:Nat→Nat):V:=.agg [.im size (nF la size),.im size (uF pa size)]
section
variable (cards:List Int) (cs:List (List Int)) (F:Nat→Nat→Nat→Int) (size:Nat) (q:Nat→Nat×Nat) (B:Nat→Nat→Int) (la pa:Nat→Nat) (k:Nat)
abbrev cbD:List O:=[.row 41 none (bF B size),.map (entM q (k+1)) (k+1),.row 158 none (toC cards cs size 2 3 7 (k+1)),.row 3 none (nF la size),.row 28 none (uF pa size),scO F q k]
abbrev cbW:V:=.tup [.ptr 4 0,.agg [.sl 5 0 size (some (size-size)),.sl 6 0 size (some (size-size))],i6 0]
end
theorem Qq3(o:O)(ho:o= .row 41 none (arF Qaj)∨o= .row 77 none [.nils,.nils])(cards:List Int)(cs:List (List Int))(F:Nat→Nat→Nat→Int)(size:Nat)(q:Nat→Nat×Nat)(B:Nat→Nat→Int)(la pa:Nat→Nat)(k lim:Nat)
  (h:CallSpec Pg g0 (.fn 88 []) [gV cards cs,i6 (lim:Int)] (ofOs .e 0 []) 0 ⟨cbV size,ofOs .e 0 (cbO cards cs F size q B la pa k),6,[]⟩):
  CallSpec Pg g0 (.fn 88 []) [gV cards cs,i6 (lim:Int)] (ofOs .e 0 [gO cards cs,o]) 2 ⟨cbW size,ofOs .e 0 ([gO cards cs,o]++cbD cards cs F size q B la pa k),8,[]⟩:=by
 have hB:=Qaa B size
 have hla:=Qah la size
 have hpa:=Qag pa size
 have hE:=Qac q (k+1)
 have hS:=Qaa (scF F q) (k+1)
 have hg:=Qas cs
 have hc:=Qae cards
 rcases ho with rfl|rfl
 all_goals
  refine CallSpec.frameL (OS:=[gO cards cs,_]) (OS':=[gO cards cs,_]++cbD cards cs F size q B la pa k) [] [(2,0),(3,1),(4,2),(5,3),(6,4),(7,5)] [] [0,0,0,0,1] h (by kernel_rfl) ?_ ?_ ?_ ?_
 ·refine Eq.mp (by kernel_rfl : (An [An [An [Sm cards.length, Sm (ints cards)], An [Sm cs.length, Sm (List.map sl cs)], Tt], Sm (↑lim : Int), Tt]) = _) ?_
  (repeat'(first|(with_reducible apply And.intro)|(refine fun(_:True)=>?_)))
  all_goals first|exact aq|exact hB|exact hS|exact hE|exact hla|exact hpa|exact hg|exact hc|rfl|skip
 ·refine Eq.mp (by kernel_rfl : (Tt) = _) ?_
  (repeat'(first|(with_reducible apply And.intro)|(refine fun(_:True)=>?_)))
  all_goals first|exact aq|exact hB|exact hS|exact hE|exact hla|exact hpa|exact hg|exact hc|rfl|skip
 ·refine Eq.mp (by kernel_rfl : (let z0 := An [Zz, Sm size, Sm (size - size)]; An [Zz, An [z0, z0, Tt], Sm (0 : Int), Tt]) = _) ?_
  (repeat'(first|(with_reducible apply And.intro)|(refine fun(_:True)=>?_)))
  all_goals first|exact aq|exact hB|exact hS|exact hE|exact hla|exact hpa|exact hg|exact hc|rfl|skip
 ·refine Eq.mp (by kernel_rfl : (let z0 := O.row 41 none (arF Qaj); let z1 := gO cards cs; let z2 := bF (scF F q) (k + 1); let z3 := entM q (k + 1); An [[z1, z0][0]? = some z1, [z1, z0][0]? = some z1, [z1, z0][1]? = some z0, [z1, z0][1]? = some z0, Tt, An [Sm (bF B size), HfL (bF B size)], Tt, An [z3 = z3, HfE z3, Sm (k + 1)], Tt, An [An [Sm cards.length, Sm (ints cards)], An [Sm cs.length, Sm (List.map sl cs)], An [Zz, Sm size, Sm (size - size)], Tt, An [Zz, Sm (k + 1), Tt], Tt], Tt, An [Sm (nF la size), HfL (nF la size)], Tt, An [Sm (uF pa size), HfL (uF pa size)], Tt, An [z2 = z2, HfL z2], Tt]) = _) ?_
  (repeat'(first|(with_reducible apply And.intro)|(refine fun(_:True)=>?_)))
  all_goals first|exact aq|exact hB|exact hS|exact hE|exact hla|exact hpa|exact hg|exact hc|rfl|skip
 ·refine Eq.mp (by kernel_rfl : (An [An [An [Sm cards.length, Sm (ints cards)], An [Sm cs.length, Sm (List.map sl cs)], Tt], Sm (↑lim : Int), Tt]) = _) ?_
  (repeat'(first|(with_reducible apply And.intro)|(refine fun(_:True)=>?_)))
  all_goals first|exact aq|exact hB|exact hS|exact hE|exact hla|exact hpa|exact hg|exact hc|rfl|skip
 ·refine Eq.mp (by kernel_rfl : (Tt) = _) ?_
  (repeat'(first|(with_reducible apply And.intro)|(refine fun(_:True)=>?_)))
  all_goals first|exact aq|exact hB|exact hS|exact hE|exact hla|exact hpa|exact hg|exact hc|rfl|skip
 ·refine Eq.mp (by kernel_rfl : (let z0 := An [Zz, Sm size, Sm (size - size)]; An [Zz, An [z0, z0, Tt], Sm (0 : Int), Tt]) = _) ?_
  (repeat'(first|(with_reducible apply And.intro)|(refine fun(_:True)=>?_)))
  all_goals first|exact aq|exact hB|exact hS|exact hE|exact hla|exact hpa|exact hg|exact hc|rfl|skip
 ·refine Eq.mp (by kernel_rfl : (let z0 := O.row 77 none [V.nils, V.nils]; let z1 := gO cards cs; let z2 := bF (scF F q) (k + 1); let z3 := entM q (k + 1); An [[z1, z0][0]? = some z1, [z1, z0][0]? = some z1, [z1, z0][1]? = some z0, [z1, z0][1]? = some z0, Tt, An [Sm (bF B size), HfL (bF B size)], Tt, An [z3 = z3, HfE z3, Sm (k + 1)], Tt, An [An [Sm cards.length, Sm (ints cards)], An [Sm cs.length, Sm (List.map sl cs)], An [Zz, Sm size, Sm (size - size)], Tt, An [Zz, Sm (k + 1), Tt], Tt], Tt, An [Sm (nF la size), HfL (nF la size)], Tt, An [Sm (uF pa size), HfL (uF pa size)], Tt, An [z2 = z2, HfL z2], Tt]) = _) ?_
  (repeat'(first|(with_reducible apply And.intro)|(refine fun(_:True)=>?_)))
  all_goals first|exact aq|exact hB|exact hS|exact hE|exact hla|exact hpa|exact hg|exact hc|rfl|skip
theorem top_bad(cards:List Int)(cs:List (List Int))(lim:Int)(hl1:cards.length≤1000)(hl2:cs.length≤1000)(e:Int)(he:Qei cards cs lim=e)(h0:e≠0):FnOk Pg g0 41 [gV cards cs,i6 lim] (.tup [ar Qaj,i6 e]):=by
 have hd:=Qq1 cards cs lim hl1 hl2 e he h0
 have hg:=Qas cs
 have hc:=Qae cards
 refine FnOk.of_vc vE_ok mixed Qab (n:=1000) (r:=[1]) (S:={sl:=[(4,.ptr 0 0),(5,i6 e)],os:=[.row 41 none (arF Qaj)]}) (hs:=[fn 12 (.tup [.nilp,.agg [.nils,.nils],i6 e]),yes 17]) ?_
 refine Eq.mp (by kernel_rfl:(An [V.tup [V.agg (arF Qaj),i6 e]=V.tup [ar Qaj,i6 e],An [TT 2,Tt,Tt],FnOk Pg g0 88 [V.agg [V.im cards.length (ints cards),V.im cs.length (List.map sl cs)],i6 lim] (V.tup [V.nilp,V.agg [V.nils,V.nils],i6 e]),Tt,(e != (0:Int))=true,An [Zz,e=e,Tt],An [arF Qaj=[i6 0,i6 0,i6 0,i6 0,i6 0,i6 0,i6 0,i6 0,i6 0,i6 0,i6 0,i6 0,i6 0,i6 0,i6 0,i6 0,i6 0,i6 0],TT 18],Tt])=_) ?_
 (repeat'(first|(with_reducible apply And.intro)|(refine fun(_:True)=>?_)))
 all_goals first|exact hd|exact hg|exact hc|exact aq|rfl|skip
theorem Qt6(cards:List Int)(cs:List (List Int))(lim:Nat)(he:Qei cards cs (lim:Int)=0):FnOk Pg g0 41 [gV cards cs,i6 (lim:Int)] (.tup [ar (topB cards.length lim (fF cards cs) (2^cards.length-1)),i6 0]):=by
 obtain⟨hg0,hn1,hn5,_,_,hl2,hcl⟩:=Qjb he
 obtain⟨q,k,_,h⟩:=Qns cards cs lim he
 have hpos:1≤2^cards.length:=Nat.pow_pos (by decide)
 have h32:=Qaq hn5
 have e1:=Qcl (n:=cards.length) (lim:=lim) (F:=fF cards cs) (2^cards.length) (2^cards.length-1)
 rw[if_pos (by omega)]at e1
 rw[←e1]
 clear e1
 generalize tabB cards.length lim (fF cards cs) (2^cards.length)=B at*
 generalize laT cards.length lim (fF cards cs) (2^cards.length)=la at*
 generalize paT cards.length lim (fF cards cs) (2^cards.length)=pa at*
 generalize fF cards cs=F at*
 generalize 2^cards.length=size at*
 have hcall:=Qq3 (.row 41 none (arF Qaj)) (.inl rfl) cards cs F size q B la pa k lim h
 have hB:=Qaa B size
 have hla:=Qah la size
 have hpa:=Qag pa size
 have hE:=Qac q (k+1)
 have hS:=Qaa (scF F q) (k+1)
 have hg:=Qas cs
 have hc:=Qae cards
 have htk:=@Qa3 B size (size-1) (by omega)
 generalize hj:size-1=j at*
 have hjs:((size:Int)-1)=(j:Int):=by omega
 clear h he
 refine FnOk.of_vc vE_ok mixed Qab (n:=1000) (r:=[1]) (S:={sl:=[(4,.ptr 0 0),(5,i6 0)],os:=[.row 41 none (arF (B j))]}) (hs:=[(12,.call ⟨cbW size,ofOs .e 0 ([gO cards cs,.row 41 none (arF Qaj)]++cbD cards cs F size q B la pa k),8,[]⟩),no 17,nu 29 (j:Nat),pl 30,ld 31 (ar (B j))]) ?_
 refine Eq.mp (by kernel_rfl:(let z0:=(0:Int);let z1:=arF (B j);let z2:=(↑j:Int);An [V.tup [V.agg z1,i6 0]=V.tup [ar (B j),i6 0],CallSpec Pg g0 (V.fn 88 []) [V.agg [sl cards,gC cs],i6 ↑lim] (pt (pt T.e 0 (O.row 32 none [sl cards,gC cs])) 1 (O.row 41 none [i6 0,i6 0,i6 0,i6 0,i6 0,i6 0,i6 0,i6 0,i6 0,i6 0,i6 0,i6 0,i6 0,i6 0,i6 0,i6 0,i6 0,i6 0])) 2 (CR.mk (cbW size) (ofOs T.e 0 ([gO cards cs,O.row 41 none (arF Qaj)]++cbD cards cs F size q B la pa k)) 8 []),Tt,(z0 != z0)=false,wr .i64 ((↑size:Int)-(1:Int))=z2,An [z0≤z2,z2<(↑size:Int)],takeE 18 (dropF (0+j*18) (bF B size))=some z1,An [Zz,z0=z0,Tt],An [z1=z1,TT 18],Tt])=_) ?_
 (repeat'(first|(with_reducible apply And.intro)|(refine fun(_:True)=>?_)))
 all_goals first|exact hcall|(with_reducible exact htk)|exact hg|exact hc|exact hB|exact hla|exact hpa|exact hE|exact hS|exact aq|rfl|skip
end Go.Proofs.YtglpoiaedkoecaaDoor.Am
namespace Go.Proofs.YtglpoiaedkoecaaDoor.Am.GG
abbrev Rel:=Nat→Nat→Bool
def place1(n:Nat)(g:Rel)(out:Nat→Bool)(P:Nat→Bool)(v:Nat):Nat→Bool:=fun u=>P u||(decide (u=v)&&(!out v&&(List.range n).all fun p=> !g v p||P p))
def pass(n:Nat)(g:Rel)(out:Nat→Bool)(P:Nat→Bool):Nat→(Nat→Bool)
 |0=>P
 |v+1=>place1 n g out (pass n g out P v) v
def passes(n:Nat)(g:Rel)(out:Nat→Bool):Nat→(Nat→Bool)
 |0=>fun _=>false
 |t+1=>pass n g out (passes n g out t) n
def placedAll(n:Nat)(g:Rel)(out:Nat→Bool):Bool:=(List.range n).all (passes n g out n)
def clo1(g:Rel)(A:Nat→Bool)(j:Nat):Nat→Bool:=fun u=>A u||(A j&&g j u)
def cloR(g:Rel)(A:Nat→Bool):Nat→(Nat→Bool)
 |0=>A
 |j+1=>clo1 g (cloR g A j) j
def clo(n:Nat)(g:Rel)(i:Nat):Nat→(Nat→Bool)
 |0=>g i
 |k+1=>cloR g (clo n g i k) n
def acyclic(n:Nat)(g:Rel):Bool:=(List.range n).all fun i=> !clo n g i n i
theorem all_range{n:Nat}{p:Nat→Bool}:(List.range n).all p=true↔∀j,j<n→p j=true:=by
 rw[List.all_eq_true]
 exact⟨fun h j hj=>h j (List.mem_range.2 hj),fun h j hj=>h j (List.mem_range.1 hj)⟩
structure Qjo(n:Nat)(g:Rel)(out:Nat→Bool)(P:Nat→Bool)(r:Nat→Nat)(m:Nat):Prop where
 lt: ∀u,P u=true→r u<m
 dn: ∀u,P u=true→out u=false∧∀p,p<n→g u p=true→P p=true∧r p<r u
theorem Qi0{n:Nat}{g:Rel}{out:Nat→Bool}{P:Nat→Bool}{r:Nat→Nat}{m v:Nat}(h:Qjo n g out P r m): ∃r',Qjo n g out (place1 n g out P v) r' (m+1):=by
 by_cases hv:P v=true
 ·refine ⟨r, fun u hu => ?_, fun u hu => ?_⟩
  ·have : P u = true := by
    unfold place1 at hu
    simp only[Bool.or_eq_true,Bool.and_eq_true,decide_eq_true_eq]at hu
    rcases hu with hu|⟨rfl,_⟩
    ·exact hu
    ·exact hv
   have:=h.lt u this;omega
  ·have hPu : P u = true := by
    unfold place1 at hu
    simp only[Bool.or_eq_true,Bool.and_eq_true,decide_eq_true_eq]at hu
    rcases hu with hu|⟨rfl,_⟩
    ·exact hu
    ·exact hv
   obtain⟨a,b⟩:=h.dn u hPu
   refine⟨a,fun p hp hg=>?_⟩
   obtain⟨c,d⟩:=b p hp hg
   exact⟨by unfold place1;rw[c];rfl,d⟩
 ·refine ⟨fun u => if u = v then m else r u, fun u hu => ?_, fun u hu => ?_⟩
  ·split
   ·omega
   ·rename_i hne
    unfold place1 at hu
    simp only[Bool.or_eq_true,Bool.and_eq_true,decide_eq_true_eq]at hu
    have:=h.lt u (hu.resolve_right (fun h'=>hne h'.1));omega
  ·unfold place1 at hu
   simp only[Bool.or_eq_true,Bool.and_eq_true,decide_eq_true_eq]at hu
   by_cases hne:u=v
   ·subst hne
    rcases hu with hu|⟨_,ho,ha⟩
    ·exact absurd hu hv
    ·refine ⟨by simpa using ho, fun p hp hg => ?_⟩
     have:=all_range.1 ha p hp
     rw[hg]at this
     have hpp:P p=true:=by simpa using this
     refine⟨by unfold place1;rw[hpp];rfl,?_⟩
     rw[if_neg (fun e=>hv (by rw[←e];exact hpp)),if_pos rfl]
     exact h.lt p hpp
   ·have hPu := hu.resolve_right (fun h' => hne h'.1)
    obtain⟨a,b⟩:=h.dn u hPu
    refine⟨a,fun p hp hg=>?_⟩
    obtain⟨c,d⟩:=b p hp hg
    refine⟨by unfold place1;rw[c];rfl,?_⟩
    rw[if_neg (fun e=>hv (by rw[←e];exact c)),if_neg hne];exact d
theorem Qgl{n:Nat}{g:Rel}{out:Nat→Bool}{P:Nat→Bool}: ∀(v:Nat),(∃r m,Qjo n g out P r m)→∃r m,Qjo n g out (pass n g out P v) r m
 |0,h=>h
 |v+1,h=>by
  obtain⟨r,m,h1⟩:=Qgl v h
  obtain⟨r',h2⟩:=Qi0 (v:=v) h1
  exact⟨r',m+1,h2⟩
theorem Qed{n:Nat}{g:Rel}{out:Nat→Bool}: ∀t,∃r m,Qjo n g out (passes n g out t) r m
 |0=>⟨fun _=>0,0,⟨fun _ h=>(by cases h),fun _ h=>(by cases h)⟩⟩
 |t+1=>Qgl n (Qed t)
theorem Qeq{n:Nat}{g:Rel}{r:Nat→Nat}(hr: ∀u,u<n→∀p,g u p=true→p<n∧r p<r u){A:Nat→Bool}{b:Nat}(hA: ∀u,A u=true→u<n∧r u<b): ∀j,j≤n→∀u,cloR g A j u=true→u<n∧r u<b
 |0,_,u,h=>hA u h
 | j + 1, hj, u, h => by
  unfold cloR clo1 at h
  simp only[Bool.or_eq_true,Bool.and_eq_true]at h
  rcases h with h|⟨h1,h2⟩
  ·exact Qeq hr hA j (by omega) u h
  ·have h3 := Qeq hr hA j (by omega) j h1
   have h4:=hr j h3.1 u h2
   exact⟨h4.1,by omega⟩
theorem clo_below{n:Nat}{g:Rel}{r:Nat→Nat}(hr: ∀u,u<n→∀p,g u p=true→p<n∧r p<r u){i:Nat}(hi:i<n): ∀k u,clo n g i k u=true→u<n∧r u<r i
 |0,u,h=>hr i hi u h
 |k+1,u,h=>Qeq hr (clo_below hr hi k) n (Nat.le_refl _) u h
theorem Qg6{n:Nat}{g:Rel}{out:Nat→Bool}(hin: ∀u,u<n→out u=false→∀p,g u p=true→p<n)(h:placedAll n g out=true):acyclic n g=true∧∀u,u<n→out u=false:=by
 obtain⟨r,m,hR⟩:=Qed (n:=n) (g:=g) (out:=out) n
 have hall:=all_range.1 h
 have ho: ∀u,u<n→out u=false:=fun u hu=>(hR.dn u (hall u hu)).1
 refine⟨all_range.2 fun i hi=>?_,ho⟩
 have hr: ∀u,u<n→∀p,g u p=true→p<n∧r p<r u:=fun u hu p hp=>by
  have hpn:=hin u hu (ho u hu) p hp
  exact⟨hpn,((hR.dn u (hall u hu)).2 p hpn hp).2⟩
 cases hc:clo n g i n i with
 |false=>rfl
 |true=>have:=(clo_below hr hi n i hc).2;omega
theorem Qgk{n:Nat}{g:Rel}{out:Nat→Bool}{P:Nat→Bool}{u:Nat}(h:P u=true): ∀v,pass n g out P v u=true
 |0=>h
 |v+1=>by
  unfold pass place1
  rw[Qgk h v];rfl
theorem pass_fix{n:Nat}{g:Rel}{out:Nat→Bool}{P:Nat→Bool}(h: ∀u,u<n→pass n g out P n u=true→P u=true)(ho: ∀u,u<n→out u=false): ∀u,u<n→P u=false→∃p,p<n∧g u p=true∧P p=false:=by
 have hsame: ∀v,v≤n→∀u,pass n g out P v u=true→P u=true:=by
  intro v hv u hu
  have hn: ∀k,pass n g out P (v+k) u=true:=by
   intro k
   induction k with
   |zero=>exact hu
   |succ k ih=>rw[←Nat.add_assoc];unfold pass place1;rw[ih];rfl
  by_cases hun:u<n
  ·have := hn (n - v)
   rw[show v+(n-v)=n by omega]at this
   exact h u hun this
  ·have key : ∀ k, k ≤ n → pass n g out P k u = true → P u = true := by
    intro k
    induction k with
    |zero=>intro _ h;exact h
    |succ k ih=>
     intro hk h'
     unfold pass place1 at h'
     simp only[Bool.or_eq_true,Bool.and_eq_true,decide_eq_true_eq]at h'
     rcases h' with h'|⟨h1,_⟩
     ·exact ih (by omega) h'
     ·omega
   exact key v hv hu
 intro u hu hP
 have h1:pass n g out P (u+1) u=false:=by
  cases hc:pass n g out P (u+1) u with
  |false=>rfl
  |true=>rw[hsame (u+1) (by omega) u hc]at hP;cases hP
 unfold pass place1 at h1
 simp only[Bool.or_eq_false_iff,decide_true,Bool.true_and]at h1
 have h2:=h1.2
 rw[ho u hu]at h2
 simp only[Bool.not_false,Bool.true_and]at h2
 have h3: ∃p,p<n∧(!g u p||pass n g out P u p)=false:=by
  apply Classical.byContradiction
  intro hne
  have:(List.range n).all (fun p=> !g u p||pass n g out P u p)=true:=all_range.2 fun p hp=>by
   cases hc:(!g u p||pass n g out P u p)with
   |true=>rfl
   |false=>exact absurd ⟨p,hp,hc⟩ hne
  rw[this]at h2;cases h2
 obtain⟨p,hp,h4⟩:=h3
 simp only[Bool.or_eq_false_iff,Bool.not_eq_false']at h4
 refine⟨p,hp,h4.1,?_⟩
 cases hc:P p with
 |false=>rfl
 |true=>rw[Qgk hc u]at h4;cases h4.2
def cntB(P:Nat→Bool):Nat→Nat
 |0=>0
 |n+1=>cntB P n+if P n then 1 else 0
theorem Qig(P:Nat→Bool): ∀n,cntB P n≤n
 |0=>Nat.le_refl _
 |n+1=>by have:=Qig P n;unfold cntB;split<;>omega
theorem Qj3{P Q:Nat→Bool}(h: ∀u,P u=true→Q u=true): ∀n,cntB P n≤cntB Q n
 |0=>Nat.le_refl _
 |n+1=>by
  have h1:=Qj3 h n
  unfold cntB
  by_cases hp:P n=true
  ·rw[if_pos hp,if_pos (h n hp)];omega
  ·rw[if_neg hp];omega
theorem Qq7{P Q:Nat→Bool}(h: ∀u,P u=true→Q u=true): ∀n u,u<n→P u=false→Q u=true→cntB P n<cntB Q n
 | n + 1, u, hu, h1, h2 => by
  have hm:=Qj3 h n
  unfold cntB
  by_cases he:u=n
  ·subst he
   rw[if_pos h2,h1,if_neg (by simp)];omega
  ·have := Qq7 h n u (by omega) h1 h2
   by_cases hp:P n=true
   ·rw[if_pos hp,if_pos (h n hp)];omega
   ·rw[if_neg hp];omega
theorem Qj2{P:Nat→Bool}: ∀n,cntB P n=n→∀u,u<n→P u=true
 | n + 1, h, u, hu => by
  have h1:=Qig P n
  unfold cntB at h
  by_cases hp:P n=true
  ·rw [if_pos hp] at h
   by_cases he:u=n
   ·subst he;exact hp
   ·exact Qj2 n (by omega) u (by omega)
  ·rw[if_neg hp]at h;omega
theorem some_fix{n:Nat}{g:Rel}{out:Nat→Bool}(h: ¬ ∀u,u<n→passes n g out n u=true): ∃t,(∀u,u<n→pass n g out (passes n g out t) n u=true→passes n g out t u=true)∧∃u,u<n∧passes n g out t u=false:=by
 apply Classical.byContradiction
 intro hne
 have hstep : ∀ t, t ≤ n → t ≤ cntB (passes n g out t) n ∨ ∀ u, u < n → passes n g out t u = true := by
  intro t
  induction t with
  |zero=>intro _;exact .inl (Nat.zero_le _)
  | succ t ih =>
   intro ht
   have hm: ∀u,passes n g out t u=true→passes n g out (t+1) u=true:=fun u hu=>Qgk hu n
   rcases ih (by omega)with h1|h1
   ·by_cases hall : ∀ u, u < n → passes n g out t u = true
    ·exact .inr fun u hu=>hm u (hall u hu)
    ·refine .inl ?_
     have h2: ∃u,u<n∧passes n g out t u=false:=by
      apply Classical.byContradiction
      intro h3
      exact hall fun u hu=>by
       cases hc:passes n g out t u with
       |true=>rfl
       |false=>exact absurd ⟨u,hu,hc⟩ h3
     have h4: ∃u,u<n∧pass n g out (passes n g out t) n u=true∧passes n g out t u=false:=by
      apply Classical.byContradiction
      intro h5
      refine hne ⟨t,fun u hu hp=>?_,h2⟩
      cases hc:passes n g out t u with
      |true=>rfl
      |false=>exact absurd ⟨u,hu,hp,hc⟩ h5
     obtain⟨u,hu,h6,h7⟩:=h4
     have:=Qq7 hm n u hu h7 h6
     omega
   ·exact .inr fun u hu=>hm u (h1 u hu)
 rcases hstep n (Nat.le_refl _)with h1|h1
 ·exact h (Qj2 n (by have:=Qig (passes n g out n) n;omega))
 ·exact h h1
theorem Qft{g:Rel}{A:Nat→Bool}{u:Nat}(h:A u=true): ∀j,cloR g A j u=true
 |0=>h
 |j+1=>by unfold cloR clo1;rw[Qft h j];rfl
theorem Qq5{n:Nat}{g:Rel}{A:Nat→Bool}{j u:Nat}(hj:j<n)(h:A j=true)(hg:g j u=true):cloR g A n u=true:=by
 have: ∀k,j<k→cloR g A k u=true:=by
  intro k
  induction k with
  |zero=>intro h;omega
  | succ k ih =>
   intro hk
   unfold cloR clo1
   by_cases he:j=k
   ·subst he
    rw[Qft h j,hg];simp
   ·rw[ih (by omega)];rfl
 exact this n hj
theorem clo_mono{n:Nat}{g:Rel}{i k u:Nat}(h:clo n g i k u=true):clo n g i (k+1) u=true:=Qft h n
theorem clo_le{n:Nat}{g:Rel}{i u:Nat}: ∀k m,k≤m→clo n g i k u=true→clo n g i m u=true:=by
 intro k m h hc
 induction m with
 |zero=>rw[show k=0 by omega]at hc;exact hc
 |succ m ih=>
  by_cases he:k=m+1
  ·rw[←he];exact hc
  ·exact clo_mono (ih (by omega))
def walk(f:Nat→Nat)(u:Nat):Nat→Nat
 |0=>u
 |k+1=>f (walk f u k)
theorem Qo7{n:Nat}{g:Rel}{f:Nat→Nat}{u:Nat}(hw: ∀k,walk f u k<n)(hg: ∀k,g (walk f u k) (walk f u (k+1))=true)(a:Nat): ∀d,clo n g (walk f u a) d (walk f u (a+d+1))=true
 |0=>hg a
 |d+1=>by
  have h1:=Qo7 hw hg a d
  have h2:=hg (a+d+1)
  exact Qq5 (hw _) h1 h2
theorem pigeon{n:Nat}(f:Nat→Nat)(h: ∀k,f k<n): ∃a d,f a=f (a+d+1)∧a+d+1≤n:=by
 apply Classical.byContradiction
 intro hne
 have hinj: ∀i j,i<j→j≤n→f i≠f j:=fun i j hij hj e=>hne ⟨i,j-i-1,by rw[show i+(j-i-1)+1=j by omega];exact e,by omega⟩
 have key : ∀ m, m ≤ n + 1 → cntB (fun x => (List.range m).any fun k => f k == x) n = m := by
  intro m
  induction m with
  | zero =>
   intro _
   have: ∀n,cntB (fun x=>(List.range 0).any fun k=>f k==x) n=0:=by
    intro n
    induction n with
    |zero=>rfl
    |succ n ih=>unfold cntB;rw[ih];rfl
   exact this n
  | succ m ih =>
   intro hm
   have h1:=ih (by omega)
   have hadd: ∀(P:Nat→Bool)(y:Nat),P y=false→∀n,cntB (fun x=>P x||y==x) n=cntB P n+if y<n then 1 else 0:=by
    intro P y hy n
    induction n with
    |zero=>simp[cntB]
    | succ n ih =>
     unfold cntB
     rw[ih]
     by_cases hyn:y=n
     ·subst hyn
      simp[hy]
     ·have : (y == n) = false := by simpa using hyn
      rw[this,Bool.or_false]
      by_cases hlt:y<n
      ·rw[if_pos hlt,if_pos (show y<n+1 by omega)];omega
      ·rw[if_neg hlt,if_neg (show¬y<n+1 by omega)];omega
   have e:(fun x=>(List.range (m+1)).any fun k=>f k==x)=fun x=>((List.range m).any fun k=>f k==x)||f m==x:=by
    funext x
    rw[List.range_succ,List.any_append];simp
   rw[e,hadd _ (f m) ?_ n,h1,if_pos (h m)]
   rw[List.any_eq_false]
   intro k hk
   have:=hinj k m (List.mem_range.1 hk) (by omega)
   simpa using this
 have h1:=key (n+1) (Nat.le_refl _)
 have h2:=Qig (fun x=>(List.range (n+1)).any fun k=>f k==x) n
 omega
theorem Qg9{n:Nat}{g:Rel}{out:Nat→Bool}(ho: ∀u,u<n→out u=false)(h:placedAll n g out=false):acyclic n g=false:=by
 have h1: ¬ ∀u,u<n→passes n g out n u=true:=fun h'=>by rw[show placedAll n g out=true from all_range.2 h']at h;cases h
 obtain⟨t,hfix,u0,hu0,hP0⟩:=some_fix h1
 have hp:=pass_fix hfix ho
 generalize passes n g out t=P at*
 have: ∀u,∃p,u<n→P u=false→p<n∧g u p=true∧P p=false:=fun u=>by
  by_cases hu:u<n∧P u=false
  ·obtain ⟨p, hp⟩ := hp u hu.1 hu.2
   exact⟨p,fun _ _=>hp⟩
  ·exact⟨0,fun a b=>absurd ⟨a,b⟩ hu⟩
 obtain⟨f,hf⟩:=Classical.axiomOfChoice this
 have hw: ∀k,walk f u0 k<n∧P (walk f u0 k)=false:=by
  intro k
  induction k with
  |zero=>exact⟨hu0,hP0⟩
  |succ k ih=>have:=hf _ ih.1 ih.2;exact⟨this.1,this.2.2⟩
 have hg: ∀k,g (walk f u0 k) (walk f u0 (k+1))=true:=fun k=>(hf _ (hw k).1 (hw k).2).2.1
 obtain⟨a,d,e,hd⟩:=pigeon (walk f u0) (fun k=>(hw k).1)
 have hc:=Qo7 (fun k=>(hw k).1) hg a d
 rw[←e]at hc
 have hc2:=clo_le d n (by omega) hc
 cases hac:acyclic n g with
 |false=>rfl
 |true=>
  have:=all_range.1 hac _ (hw a).1
  rw[hc2]at this;cases this
theorem graph_same{n:Nat}{g:Rel}{out:Nat→Bool}(hin: ∀u,u<n→out u=false→∀p,g u p=true→p<n):placedAll n g out=((List.range n).all (fun u=> !out u)&&acyclic n g):=by
 cases h:placedAll n g out with
 |true=>
  obtain⟨h1,h2⟩:=Qg6 hin h
  rw[h1,show(List.range n).all (fun u=> !out u)=true from all_range.2 fun u hu=>by rw[h2 u hu];rfl];rfl
 | false =>
  cases ho:(List.range n).all (fun u=> !out u)with
  |false=>rfl
  |true=>
   have:=all_range.1 ho
   rw[Qg9 (fun u hu=>by have:=this u hu;simpa using this) h];rfl
end Go.Proofs.YtglpoiaedkoecaaDoor.Am.GG
namespace Go.Proofs.YtglpoiaedkoecaaDoor.Am
open Go.RowKit
set_option maxHeartbeats 1000000
set_option maxRecDepth 100000
theorem Qec(x:Nat):BitVec.ofInt 64 (x:Int)=BitVec.ofNat 64 x:=by
 apply BitVec.eq_of_toNat_eq
 rw[BitVec.toNat_ofInt,BitVec.toNat_ofNat];omega
theorem wrapn{z:Nat}(h:z<18446744073709551616):IntKind.u64.wrap ((z:Nat):Int)=(z:Int):=by
 rw[←wr_eq];exact Qe2 (by simp[lo]) (by simp[hi];omega)
theorem or_u{G:Ctx}{t:Nat}{x y:Nat}(hx:x<18446744073709551616)(hy:y<18446744073709551616):binV G .or t (u6 (x:Int)) (u6 (y:Int))=some (u6 ((x|||y:Nat):Int))∧x|||y<18446744073709551616:=by
 have hz:x|||y<2^64:=Nat.or_lt_two_pow hx hy
 refine⟨?_,hz⟩
 have e:binV G .or t (u6 (x:Int)) (u6 (y:Int))=some (.int .u64 (IntKind.u64.wrap ((BitVec.ofInt 64 (x:Int)|||BitVec.ofInt 64 (y:Int)).toNat:Int))):=rfl
 have h:(BitVec.ofInt 64 (x:Int)|||BitVec.ofInt 64 (y:Int)).toNat=x|||y:=by
  rw[Qec,Qec,BitVec.toNat_or,BitVec.toNat_ofNat,BitVec.toNat_ofNat,Nat.mod_eq_of_lt hx,Nat.mod_eq_of_lt hy]
 rw[e,h,wrapn hz]
theorem Qnh{G:Ctx}{t:Nat}{x y:Nat}(hx:x<18446744073709551616)(hy:y<18446744073709551616): ∃z:Nat,binV G .andNot t (u6 (x:Int)) (u6 (y:Int))=some (u6 (z:Int))∧z<18446744073709551616∧(z=0↔∀b,x.testBit b=true→y.testBit b=true):=by
 have h:(BitVec.ofInt 64 (x:Int)&&& ~~~BitVec.ofInt 64 (y:Int)).toNat=x&&& (2^64-(y+1)):=by
  rw[Qec,Qec,BitVec.toNat_and,BitVec.toNat_not,BitVec.toNat_ofNat,BitVec.toNat_ofNat,Nat.mod_eq_of_lt hx,Nat.mod_eq_of_lt hy]
  congr 1;omega
 have hz:x&&& (2^64-(y+1))<2^64:=Nat.and_lt_two_pow _ (by omega)
 refine⟨x&&& (2^64-(y+1)),?_,hz,?_⟩
 ·have e : binV G .andNot t (u6 (x : Int)) (u6 (y : Int)) = some (.int .u64 (IntKind.u64.wrap ((BitVec.ofInt 64 (x : Int) &&& ~~~BitVec.ofInt 64 (y : Int)).toNat : Int))) := rfl
  rw[e,h,wrapn hz]
 ·have hb : ∀ b, (x &&& (2 ^ 64 - (y + 1))).testBit b = (x.testBit b && !y.testBit b) := fun b => by
   rw[Nat.testBit_and,Nat.testBit_two_pow_sub_succ hy]
   by_cases hb:b<64
   ·simp[hb]
   ·have : x.testBit b = false := Nat.testBit_lt_two_pow (Nat.lt_of_lt_of_le (show x < 2 ^ 64 from hx) (Nat.pow_le_pow_right (show 0 < 2 by omega) (show 64 ≤ b by omega)))
    simp[this]
  constructor
  ·intro h0 b hxb
   have:=hb b
   rw[h0,Nat.zero_testBit,hxb]at this
   simpa using this.symm
  ·intro hall
   apply Nat.eq_of_testBit_eq
   intro b
   rw[hb,Nat.zero_testBit]
   cases hxb:x.testBit b with
   |false=>rfl
   |true=>rw[hall b hxb];rfl
theorem shl1_u{G:Ctx}{t:Nat}{k:Nat}(hk:k<64):binV G .shl t (u6 1) (i6 (k:Int))=some (u6 ((2^k:Nat):Int))∧2^k<18446744073709551616:=by
 have hp:2^k<2^64:=Nat.pow_lt_pow_right (by omega) hk
 refine⟨?_,hp⟩
 have e:binV G .shl t (u6 1) (i6 (k:Int))=if(k:Int)<0 then none else some (.int .u64 (wr .u64 (1*((2^min ((k:Int).toNat) 64:Nat):Int)))):=rfl
 rw[e,if_neg (by omega),Int.toNat_natCast,show min k 64=k by omega,Int.one_mul,wr_eq,wrapn hp]
theorem Qqy(x k:Nat):x.testBit k=decide (x/2^k%2=1):=Nat.testBit_eq_decide_div_mod_eq
def ut(l:List Nat):List V:=l.map fun(x:Nat)=>u6 (x:Int)
abbrev ul(l:List Nat):V:=.im l.length (ut l)
theorem Qbm{l:List Nat}{k:Nat}(h:k<l.length):headF ((ut l).drop (k*1))=some (u6 ((l.getD k 0:Nat):Int)):=by
 unfold ut
 rw[List.getD_eq_getElem?_getD,List.getElem?_eq_getElem h]
 exact Qc9 (List.getElem?_eq_getElem h)
theorem Qa8(l:List Nat):HfL (ut l):=Qb3 _ l (fun _=>trivial)
def S64(l:List Nat):Prop:=∀x∈l,x<18446744073709551616
theorem S64.get{l:List Nat}(h:S64 l)(k:Nat):l.getD k 0<18446744073709551616:=by
 rw[List.getD_eq_getElem?_getD]
 cases hx:l[k]? with
 |none=>decide
 |some x=>exact h x (List.mem_of_getElem? hx)
def relL(l:List Nat):GG.Rel:=fun v p=>(l.getD v 0).testBit p
def outL(l:List Nat)(n:Nat):Nat→Bool:=fun v=> !decide (l.getD v 0/2^n=0)
theorem out_in{l:List Nat}{n v:Nat}(h:outL l n v=false): ∀p,relL l v p=true→p<n:=by
 intro p hp
 unfold outL at h
 have h0:l.getD v 0/2^n=0:=by simpa using h
 have hlt:l.getD v 0<2^n:=by
  rcases Nat.lt_or_ge (l.getD v 0) (2^n)with h'|h'
  ·exact h'
  ·have:=Nat.div_pos h' (Nat.two_pow_pos _);omega
 rcases Nat.lt_or_ge p n with h'|h'
 ·exact h'
 ·have : (l.getD v 0).testBit p = false := Nat.testBit_lt_two_pow (Nat.lt_of_lt_of_le hlt (Nat.pow_le_pow_right (by omega) h'))
  unfold relL at hp
  rw[this]at hp;cases hp
theorem in_out{l:List Nat}{n v:Nat}(h: ∀p,relL l v p=true→p<n):outL l n v=false:=by
 unfold outL
 have hlt:l.getD v 0<2^n:=by
  refine Nat.lt_pow_two_of_testBit _ fun i hi=>?_
  cases hb:(l.getD v 0).testBit i with
  |false=>rfl
  |true=>have:=h i hb;omega
 rw[Nat.div_eq_of_lt hlt];rfl
theorem in_set(s:Nat)(v:Nat)(hv:v<64):FnOk Pg g0 77 [u6 s,i6 v] (.bool (s.testBit v)):=by
 have s1:=@Qli (Qad Pg) 28 s v (by omega)
 have s2:=@Qjv (Qad Pg) 28 (s/2^v)
 rw[Qqy]
 generalize s/2^v=b at*
 by_cases h:b%2=1
 ·rw [decide_eq_true h]
  rw[h]at s2
  refine FnOk.of_vc vE_ok mixed Qab (n:=1000) (r:=[]) (S:={sl:=[(4,.bool true)]}) (hs:=[va 7 (u6 b),va 8 (u6 (1:Nat)),yes 9]) ?_
  refine Eq.mp (by kernel_rfl:(An [Sm (V.bool true),binV (Qad Pg) .shr 28 (u6 ↑s) (i6 ↑v)=some (u6 ↑b),binV (Qad Pg) .and 28 (u6 ↑b) (u6 1)=some (u6 ↑(1:Nat)),((↑(1:Nat):Int)==(1:Int))=true,An [Sm true,Tt],Tt])=_) ?_
  exact au
 ·rw [decide_eq_false h]
  have h0:b%2=0:=by omega
  rw[h0]at s2
  refine FnOk.of_vc vE_ok mixed Qab (n:=1000) (r:=[]) (S:={sl:=[(4,.bool false)]}) (hs:=[va 7 (u6 b),va 8 (u6 (0:Nat)),no 9]) ?_
  refine Eq.mp (by kernel_rfl:(An [Sm (V.bool false),binV (Qad Pg) .shr 28 (u6 ↑s) (i6 ↑v)=some (u6 ↑b),binV (Qad Pg) .and 28 (u6 ↑b) (u6 1)=some (u6 ↑(0:Nat)),((↑(0:Nat):Int)==(1:Int))=false,An [Sm false,Tt],Tt])=_) ?_
  exact au
abbrev igS(l:List Nat)(n:Nat)(t v P:Nat):SL:={sl:=[(0,ul l),(1,i6 n),(5,u6 P),(12,i6 n),(13,i6 t),(15,ul l),(16,i6 l.length),(17,i6 v)]}
abbrev igX(l:List Nat)(n:Nat)(t P:Nat):SL:={sl:=[(0,ul l),(1,i6 n),(5,u6 P),(12,i6 n),(13,i6 t)]}
def Bits(P:Nat)(Q:Nat→Bool):Prop:=P<18446744073709551616∧∀u,P.testBit u=Q u
theorem ig_in(l:List Nat)(n:Nat)(hl:l.length=n)(hn:n≤6)(h64:S64 l)(t P:Nat)(Q:Nat→Bool)(hP:Bits P Q)(hQ: ∀u,Q u=true→u<n):
  Sat Pg none 0 (at' 78 [1,1,1,0,1,0,0,1,1,0,0,1,0]) (mkSt g0 37 (igS l n t 0 P)) (fun e st=>∃S',st=mkSt g0 37 S'∧e= .exit 2∧∃P',S'=igX l n t P'∧Bits P' (GG.pass n (relL l) (outL l n) Q n)):=by
 refine loopHG (b:=at' 78 [1,1,1,0,1,0,0,1,1,0,0,1,0,0]) (by kernel_rfl) (fun q:Nat×Nat=>q.1≤n∧Bits q.2 (GG.pass n (relL l) (outL l n) Q q.1)∧∀u,GG.pass n (relL l) (outL l n) Q q.1 u=true→u<n) (fun q=>igS l n t q.1 q.2) (fun q=>n-q.1) (fun e S'=>e= .exit 2∧∃P',S'=igX l n t P'∧Bits P' (GG.pass n (relL l) (outL l n) Q n)) (fun q G hq hN hX _=>?_) (0,P) ⟨Nat.zero_le _,hP,hQ⟩
 obtain⟨v,p⟩:=q
 obtain⟨hv,⟨hp,hb⟩,hlt⟩:=hq
 dsimp only at hv hp hb hlt hN
 by_cases hvn:v<n
 ·have hld := @Qbm l v (by omega)
  have hs:=h64.get v
  obtain⟨z,hz1,hz2,hz3⟩:=@Qnh (Qad Pg) 28 (l.getD v 0) p hs hp
  have hpass: ∀u,GG.pass n (relL l) (outL l n) Q (v+1) u=(p.testBit u||(decide (u=v)&&(!outL l n v&&(List.range n).all fun k=> !relL l v k||p.testBit k))):=fun u=>by
   show GG.place1 n (relL l) (outL l n) (GG.pass n (relL l) (outL l n) Q v) v u=_
   unfold GG.place1
   simp only[hb]
  have hcond:(∀b,(l.getD v 0).testBit b=true→p.testBit b=true)↔(!outL l n v&&(List.range n).all fun k=> !relL l v k||p.testBit k)=true:=by
   constructor
   ·intro h
    have ho:outL l n v=false:=in_out fun k hk=>hlt k (by rw[←hb];exact h k hk)
    rw[ho,Bool.not_false,Bool.true_and]
    refine GG.all_range.2 fun k _=>?_
    cases hk:relL l v k with
    |false=>rfl
    |true=>rw[h k hk];rfl
   ·intro h b hbit
    rw[Bool.and_eq_true]at h
    have ho:outL l n v=false:=by simpa using h.1
    have hbn:=out_in ho b hbit
    have:=GG.all_range.1 h.2 b hbn
    rw[show relL l v b=true from hbit]at this
    simpa using this
  generalize l.getD v 0=s at*
  by_cases hz:z=0
  ·have hc := hcond.1 (hz3.1 hz)
   obtain⟨s1,s2⟩:=@shl1_u (Qad Pg) 28 v (by omega)
   obtain⟨o1,o2⟩:=@or_u (Qad Pg) 28 p (2^v) hp s2
   have hnx:=hN (v+1,p|||2^v) ⟨hvn,⟨o2,fun u=>by
    dsimp only
    rw[hpass,hc,Bool.and_true,Nat.testBit_or,Nat.testBit_two_pow]
    congr 1
    exact decide_eq_decide.2 eq_comm⟩,fun u hu=>by
    dsimp only at hu
    rw[hpass]at hu
    simp only[Bool.or_eq_true,Bool.and_eq_true,decide_eq_true_eq]at hu
    rcases hu with hu|⟨rfl,_⟩
    ·exact hlt u (by rw[←hb];exact hu)
    ·exact hvn⟩ (by dsimp only;omega)
   rw[hz]at hz1
   generalize p|||2^v=p2 at*
   generalize 2^v=w at*
   refine⟨[yes 18,pl 20,ld 21 (u6 s),va 24 (u6 (0:Nat)),yes 25,va 28 (u6 w),va 29 (u6 p2),nu 30 (v+1:Nat),(0,.to [] (igS l n t (v+1) p2))],1000,?_⟩
   clear hN hX hpass hcond hz3 hb hlt
   refine Eq.mp (by kernel_rfl:(let z4:=An [Sm l.length,Sm (ut l)];let z0:=(↑l.length:Int);let z1:=(↑(v+1):Int);let z2:=(↑v:Int);let z3:=(↑n:Int);An [decide (z2<z0)=true,An [(0:Int)≤z2,z2<z0],headF (List.drop (v*1) (ut l))=some (u6 ↑s),binV (Qad Pg) .andNot 28 (u6 ↑s) (u6 ↑p)=some (u6 ↑(0:Nat)),((↑(0:Nat):Int)==(0:Int))=true,binV (Qad Pg) .shl 28 (u6 1) (i6 ↑v)=some (u6 ↑w),binV (Qad Pg) .or 28 (u6 ↑p) (u6 ↑w)=some (u6 ↑p2),wr .i64 (z2+(1:Int))=z1,G Ex.normal (igS l n t (v+1) p2),An [z4,z3=z3,Sm (↑p2:Int),z3=z3,Sm (↑t:Int),z4,z0=z0,z1=z1,Tt],Tt])=_) ?_
   exact au
  ·have hc : (!outL l n v && (List.range n).all fun k => !relL l v k || p.testBit k) = false := by
    cases hcc:(!outL l n v&&(List.range n).all fun k=> !relL l v k||p.testBit k)with
    |false=>rfl
    |true=>exact absurd (hz3.2 (hcond.2 hcc)) hz
   have hnx:=hN (v+1,p) ⟨hvn,⟨hp,fun u=>by dsimp only;rw[hpass,hc,Bool.and_false,Bool.or_false]⟩,fun u hu=>by
    dsimp only at hu
    rw[hpass,hc,Bool.and_false,Bool.or_false]at hu
    exact hlt u (by rw[←hb];exact hu)⟩ (by dsimp only;omega)
   refine⟨[yes 18,pl 20,ld 21 (u6 s),va 24 (u6 z),no 25,nu 30 (v+1:Nat),(0,.to [] (igS l n t (v+1) p))],1000,?_⟩
   clear hN hX hpass hcond hz3 hb hlt hc
   refine Eq.mp (by kernel_rfl:(let z4:=An [Sm l.length,Sm (ut l)];let z0:=(↑l.length:Int);let z1:=(↑(v+1):Int);let z2:=(↑v:Int);let z3:=(↑n:Int);An [decide (z2<z0)=true,An [(0:Int)≤z2,z2<z0],headF (List.drop (v*1) (ut l))=some (u6 ↑s),binV (Qad Pg) .andNot 28 (u6 ↑s) (u6 ↑p)=some (u6 ↑z),((↑z:Int)==(0:Int))=false,wr .i64 (z2+(1:Int))=z1,G Ex.normal (igS l n t (v+1) p),An [z4,z3=z3,Sm (↑p:Int),z3=z3,Sm (↑t:Int),z4,z0=z0,z1=z1,Tt],Tt])=_) ?_
   exact au
 ·have : v = n := by omega
  subst this
  have hx:=hX 2 _ ⟨rfl,p,rfl,hp,hb⟩
  refine⟨[no 18,(0,.to [] (igX l v t p))],1000,?_⟩
  clear hN hX hb hlt
  refine Eq.mp (by kernel_rfl:(let z0:=(↑v:Int);An [decide (z0<(↑l.length:Int))=false,G (Ex.exit 2) (igX l v t p),An [An [Sm l.length,Sm (ut l)],z0=z0,Sm (↑p:Int),z0=z0,Sm (↑t:Int),Tt],Tt])=_) ?_
  exact au
end Go.Proofs.YtglpoiaedkoecaaDoor.Am
