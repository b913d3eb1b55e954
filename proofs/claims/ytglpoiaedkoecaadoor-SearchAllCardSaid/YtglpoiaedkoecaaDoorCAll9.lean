/- Texts behind the claim, part 9: the abstract machine, and what the functions answer. No condition. -/
import Derived.Test.YtglpoiaedkoecaaDoorCAll8
set_option linter.unusedVariables false
set_option linter.unusedSimpArgs false
set_option linter.unusedSectionVars false
namespace Go.Proofs.YtglpoiaedkoecaaDoor.Am
open Go.RowKit
set_option maxHeartbeats 4000000
set_option maxRecDepth 100000
abbrev lV(L:List Int)(P:List Nat):V:=.agg [sl L,ul P]
abbrev lO(L:List Int)(P:List Nat):O:=.row 77 none [sl L,ul P]
def isW(L:List Int)(P:List Nat)(w:Nat):Bool:=decide (L.length=2^w)&&decide (P.length=2^w)
def wdt(L:List Int)(P:List Nat):Nat:=match[1,2,3,4,5].find? (isW L P)with
 |some w=>w
 |none=>0
theorem Qcr{L:List Int}{P:List Nat}{w:Nat}:isW L P w=true↔L.length=2^w∧P.length=2^w:=by
 unfold isW;rw[Bool.and_eq_true,decide_eq_true_eq,decide_eq_true_eq]
theorem isW_inj{L:List Int}{P:List Nat}{v w:Nat}(h:isW L P v=true)(k:isW L P w=true):v=w:=by
 have h1:=(Qcr.1 h).1
 have h2:=(Qcr.1 k).1
 rw[h1]at h2
 rcases Nat.lt_trichotomy v w with h'|h'|h'
 ·have:=Nat.pow_lt_pow_right (show 1<2 by decide) h';omega
 ·exact h'
 ·have:=Nat.pow_lt_pow_right (show 1<2 by decide) h';omega
theorem Qel(L:List Int)(P:List Nat):wdt L P≤5∧(1≤wdt L P→isW L P (wdt L P)=true)∧(∀j,1≤j→j≤5→isW L P j=true→wdt L P=j):=by
 unfold wdt
 cases hf:[1,2,3,4,5].find? (isW L P)with
 |none=>
  have:=List.find?_eq_none.1 hf
  refine⟨Nat.zero_le _,fun h=>absurd h (by decide),fun j h1 h5 h=>?_⟩
  exact absurd h (this j (by simp;omega))
 |some w=>
  have h1:=List.find?_some hf
  have h2:=List.mem_of_find?_eq_some hf
  refine⟨by simp at h2;dsimp only;omega,fun _=>h1,fun j _ _ h=>isW_inj h1 h⟩
theorem Qtr(k:Nat)(hk:k<16): ∀(G:Ctx)(t:Nat),binV G .shl t (i6 1) (i6 (k:Int))=some (i6 ((2^k:Nat):Int)):=fun G t=>Qlh hk
abbrev vbS(L:List Int)(P:List Nat)(k:Nat):SL:={sl:=[(1,.ptr 0 0),(3,i6 (k:Nat))],os:=[lO L P]}
abbrev i2(n:Int):SL:={sl:=[(2,i6 n)]}
theorem Qfm{a b:Nat}:((a:Int)==(b:Int))=decide (a=b):=by
 by_cases h:a=b
 ·subst h;simp
 ·rw[decide_eq_false h,beq_eq_false_iff_ne];omega
theorem vb_loop(L:List Int)(P:List Nat):Sat Pg none 0 (at' 89 [1,0,1,0]) (mkSt g0 23 (vbS L P 1)) (Qaf g0 23 [(1≤wdt L P,.ret,i2 (wdt L P:Nat)),(wdt L P=0,.exit 0,{sl:=[]})]):=by
 have hu:=Qa8 P
 obtain⟨w5,w1,w0⟩:=Qel L P
 refine Qa2 vE_ok mixed Qab (b:=at' 89 [1,0,1,0,0]) (by kernel_rfl) (fun k=>1≤k∧k≤6∧(1≤wdt L P→k≤wdt L P)) (vbS L P) (fun k=>6-k) (fun k hk=>?_) 1 ⟨by decide,by decide,fun h=>h⟩
 obtain⟨h1,h6,hle⟩:=hk
 by_cases h5:k≤5
 ·have hs := Qtr k (by omega)
  by_cases a:L.length=2^k
  ·by_cases b : P.length = 2 ^ k
   ·have e := w0 k h1 h5 (Qcr.2 ⟨a, b⟩)
    have ha:((L.length:Int)==((2^k:Nat):Int))=true:=by rw[Qfm,decide_eq_true a]
    have hb:((P.length:Int)==((2^k:Nat):Int))=true:=by rw[Qfm,decide_eq_true b]
    clear w0 w1 hle
    generalize wdt L P=w at*
    subst e
    generalize 2^w=z at*
    refine .inr ⟨.ret,[],i2 (w:Nat),[yes 5,va 12 (i6 (z:Nat)),yes 13,va 19 (i6 (z:Nat)),yes 20],1000,.inl ⟨h1,rfl,rfl⟩,?_⟩
    refine Eq.mp (by kernel_rfl:(let z0:=binV (Qad Pg) .shl 3 (i6 1) (i6 ↑w);let z1:=(↑w:Int);An [decide (z1≤(5:Int))=true,z0=some (i6 ↑z),((↑L.length:Int)==(↑z:Int))=true,z0=some (i6 ↑z),((↑P.length:Int)==(↑z:Int))=true,An [z1=z1,Tt],Tt])=_) ?_
    (repeat'(first|(with_reducible apply And.intro)|(refine fun(_:True)=>?_)))
    all_goals first|(with_reducible exact hs _ _)|(with_reducible exact ha)|(with_reducible exact hb)|exact aq|rfl|skip
   ·have ha : ((L.length : Int) == ((2 ^ k : Nat) : Int)) = true := by rw [Qfm, decide_eq_true a]
    have hb:((P.length:Int)==((2^k:Nat):Int))=false:=by rw[Qfm,decide_eq_false b]
    have hw:wdt L P≠k:=fun e=>b (by have:=(Qcr.1 (w1 (by omega))).2;rw[e]at this;exact this)
    generalize 2^k=z at*
    refine .inl ⟨k+1,[0],[yes 5,va 12 (i6 (z:Nat)),yes 13,va 19 (i6 (z:Nat)),no 20,nu 7 ((k+1:Nat):Int)],1000,⟨by omega,by omega,fun h=>by have:=hle h;omega⟩,by omega,?_⟩
    clear w1 w0 hle hw
    refine Eq.mp (by kernel_rfl:(let z0:=binV (Qad Pg) .shl 3 (i6 1) (i6 ↑k);let z1:=(↑(k+1):Int);An [decide ((↑k:Int)≤(5:Int))=true,z0=some (i6 ↑z),((↑L.length:Int)==(↑z:Int))=true,z0=some (i6 ↑z),((↑P.length:Int)==(↑z:Int))=false,wr .i64 ((↑k:Int)+(1:Int))=z1,An [Zz,z1=z1,Tt],An [Sm [sl L,ul P],TT 2],Tt])=_) ?_
    (repeat'(first|(with_reducible apply And.intro)|(refine fun(_:True)=>?_)))
    all_goals first|(with_reducible exact hs _ _)|(with_reducible exact ha)|(with_reducible exact hb)|exact hu|exact aq|rfl|skip
  ·have ha : ((L.length : Int) == ((2 ^ k : Nat) : Int)) = false := by rw [Qfm, decide_eq_false a]
   have hw:wdt L P≠k:=fun e=>a (by have:=(Qcr.1 (w1 (by omega))).1;rw[e]at this;exact this)
   generalize 2^k=z at*
   refine .inl ⟨k+1,[0],[yes 5,va 12 (i6 (z:Nat)),no 13,nu 7 ((k+1:Nat):Int)],1000,⟨by omega,by omega,fun h=>by have:=hle h;omega⟩,by omega,?_⟩
   clear w1 w0 hle hw
   refine Eq.mp (by kernel_rfl:(An [decide ((↑k:Int)≤(5:Int))=true,binV (Qad Pg) .shl 3 (i6 1) (i6 ↑k)=some (i6 ↑z),((↑L.length:Int)==(↑z:Int))=false,wr .i64 ((↑k:Int)+(1:Int))=(↑(k+1):Int),An [Zz,Sm (↑(k+1):Int),Tt],An [Sm [sl L,ul P],TT 2],Tt])=_) ?_
   (repeat'(first|(with_reducible apply And.intro)|(refine fun(_:True)=>?_)))
   all_goals first|(with_reducible exact hs _ _)|(with_reducible exact ha)|exact hu|exact aq|rfl|skip
 ·have hz : wdt L P = 0 := by
   rcases Nat.eq_zero_or_pos (wdt L P)with h|h
   ·exact h
   ·have:=hle h;omega
  refine .inr ⟨.exit 0,[],{sl:=[]},[no 5],1000,.inr (.inl ⟨hz,rfl,rfl⟩),?_⟩
  clear w1 w0 hle hz
  refine Eq.mp (by kernel_rfl:(An [decide ((↑k:Int)≤(5:Int))=false,Tt,Tt])=_) ?_
  (repeat'(first|(with_reducible apply And.intro)|(refine fun(_:True)=>?_)))
  all_goals first|exact hu|exact aq|rfl|skip
theorem Qbk(L:List Int)(P:List Nat):FnOk Pg g0 89 [lV L P] (i6 (wdt L P:Nat)):=by
 have hl:=vb_loop L P
 have hu:=Qa8 P
 rcases Nat.eq_zero_or_pos (wdt L P)with h|h
 ·have hl := hl.mono (Qb7 (by omega) h)
  rw[h]
  refine FnOk.of_vc vE_ok mixed Qab (n:=1000) (r:=[]) (S:=i2 0) (hs:=[(0,.loop [0] (vbS L P 1) [(True,.exit 0,{sl:=[]})])]) ?_
  refine Eq.mp (by kernel_rfl:(An [i6 0=i6 ↑(0:Nat),An [An [Zz,(↑(1:Nat):Int)=(1:Int),Tt],An [Sm [sl L,ul P],TT 2],Tt],Sat Pg none 0 (at' 89 [1,0,1,0]) (mkSt g0 23 (vbS L P 1)) (Qaf g0 23 [(True,Ex.exit 0,SL.mk [] [] [] [])]),(True→An [An [Sm (0:Int),Tt],Tt]),Tt])=_) ?_
  (repeat'(first|(with_reducible apply And.intro)|(refine fun(_:True)=>?_)))
  all_goals first|exact hl|exact hu|exact aq|rfl|skip
 ·have hl := hl.mono (Qb6 h (by omega))
  generalize wdt L P=w at*
  refine FnOk.of_vc vE_ok mixed Qab (n:=1000) (r:=[]) (S:=i2 (w:Nat)) (hs:=[(0,.loop [0] (vbS L P 1) [(True,.ret,i2 (w:Nat))])]) ?_
  refine Eq.mp (by kernel_rfl:(An [Sm (i6 ↑w),An [An [Zz,(↑(1:Nat):Int)=(1:Int),Tt],An [Sm [sl L,ul P],TT 2],Tt],Sat Pg none 0 (at' 89 [1,0,1,0]) (mkSt g0 23 (vbS L P 1)) (Qaf g0 23 [(True,Ex.ret,i2 (↑w:Int))]),(True→An [An [Sm (↑w:Int),Tt],Tt]),Tt])=_) ?_
  (repeat'(first|(with_reducible apply And.intro)|(refine fun(_:True)=>?_)))
  all_goals first|exact hl|exact hu|exact aq|rfl|skip
def okS(L:List Int)(P:List Nat)(s:Nat):Bool:=decide (0≤L.getD s 0)&&(decide (L.getD s 0<5)&&(s.testBit (L.getD s 0).toNat&&decide (P.getD s 0&&& (s-2^(L.getD s 0).toNat)=P.getD s 0)))
def okLd(L:List Int)(P:List Nat):Bool:=(List.range L.length).all fun s=>decide (s=0)||okS L P s
def ok0(L:List Int)(P:List Nat):Bool:=decide (L.getD 0 0=0)&&decide (P.getD 0 0=0)
def ladB(L:List Int)(P:List Nat):Bool:=decide (1≤wdt L P)&&(ok0 L P&&okLd L P)
theorem sub_iff{p w:Nat}:(∀b,p.testBit b=true→w.testBit b=true)↔p&&& w=p:=by
 constructor
 ·intro h
  apply Nat.eq_of_testBit_eq
  intro b
  rw[Nat.testBit_and]
  cases hb:p.testBit b with
  |false=>rfl
  |true=>rw[h b hb];rfl
 ·intro h b hb
  rw[←h,Nat.testBit_and,Bool.and_eq_true]at hb
  exact hb.2
theorem wr_u{s:Nat}(h:s<32):wr .u64 (s:Int)=s:=Qe2 (by simp[lo]) (by simp[hi];omega)
abbrev ccS(L:List Int)(P:List Nat)(k:Nat):SL:={sl:=[(1,.ptr 0 0),(3,i6 (k:Nat))],os:=[lO L P]}
theorem cc_loop(L:List Int)(P:List Nat)(hP:S64 P)(hlen:P.length=L.length)(h32:L.length≤32):
  Sat Pg none 0 (at' 56 [1,1,1,0,1,0]) (mkSt g0 57 (ccS L P 1)) (Qaf g0 57 [(okLd L P=true,.exit 0,{sl:=[]}),(okLd L P=false,.ret,i2 290)]):=by
 have hu:=Qa8 P
 refine Qa2 vE_ok mixed Qab (b:=at' 56 [1,1,1,0,1,0,0]) (by kernel_rfl) (fun k=>1≤k∧∀j,j<k→(decide (j=0)||okS L P j)=true) (ccS L P) (fun k=>L.length-k) (fun k hk=>?_) 1 ⟨Nat.le_refl _,fun j hj=>by rw[show j=0 by omega];rfl⟩
 obtain⟨hk1,hj⟩:=hk
 by_cases hlt:k<L.length
 ·have hld := @Qau L k hlt
  have hlp:=@Qbm P k (by omega)
  have hbad:okS L P k=false→okLd L P=false:=fun h=>Qbc hlt (by rw[h,decide_eq_false (by omega)];rfl)
  have hgood:okS L P k=true→∀j,j<k+1→(decide (j=0)||okS L P j)=true:=fun h j hj1=>by
   rcases Nat.lt_succ_iff_lt_or_eq.1 hj1 with h2|h2
   ·exact hj j h2
   ·subst h2;rw[h,Bool.or_true]
  have hp64:=hP.get k
  unfold okS at hbad hgood
  generalize hp:P.getD k 0=p at*
  generalize hx:L.getD k 0=x at*
  clear hj hp hx
  by_cases h1:x<0
  ·have hb := hbad (by rw [decide_eq_false (by omega)]; rfl)
   refine .inr ⟨.ret,[],i2 290,[yes 24,pl 30,ld 31 (i6 x),yes 33],1000,.inr (.inl ⟨hb,rfl,rfl⟩),?_⟩
   refine Eq.mp (by kernel_rfl:(let z0:=(↑k:Int);An [decide (z0<(↑L.length:Int))=true,An [(0:Int)≤z0,z0<(↑L.length:Int)],headF (List.drop (k*1) (ints L))=some (i6 x),decide (x<(0:Int))=true,An [Sm (290:Int),Tt],Tt])=_) ?_
   (repeat'(first|(with_reducible apply And.intro)|(refine fun(_:True)=>?_)))
   all_goals first|(with_reducible exact hld)|exact hu|exact aq|rfl|skip
  ·by_cases h2 : x < 5
   ·rw [decide_eq_true (show 0 ≤ x by omega), decide_eq_true h2] at hbad hgood
    obtain⟨v,rfl⟩: ∃v:Nat,x=v:=⟨x.toNat,by omega⟩
    simp only[Int.toNat_natCast,Bool.true_and]at hbad hgood
    have hv:v<5:=by omega
    have s1:=fun G t=>@shr_i G t k v (by omega)
    cases hbit:k.testBit v with
    |false=>
     have hb:=hbad (by rw[hbit];rfl)
     have s2:=fun G t=>@Qng G t k v 0 (by omega) hv (by decide) hbit
     generalize k/2^v=z at*
     refine .inr ⟨.ret,[],i2 290,[yes 24,pl 30,ld 31 (i6 (v:Nat)),no 33,no 36,va 41 (i6 (z:Nat)),va 42 (i6 0),yes 43],1000,.inr (.inl ⟨hb,rfl,rfl⟩),?_⟩
     refine Eq.mp (by kernel_rfl:(let z0:=(0:Int);let z1:=(↑k:Int);An [decide (z1<(↑L.length:Int))=true,An [z0≤z1,z1<(↑L.length:Int)],headF (List.drop (k*1) (ints L))=some (i6 ↑v),decide ((↑v:Int)<z0)=false,decide ((↑v:Int)≥(5:Int))=false,binV (Qad Pg) .shr 3 (i6 ↑k) (i6 ↑v)=some (i6 ↑z),binV (Qad Pg) .and 3 (i6 ↑z) (i6 1)=some (i6 0),(z0==z0)=true,An [Sm (290:Int),Tt],Tt])=_) ?_
     (repeat'(first|(with_reducible apply And.intro)|(refine fun(_:True)=>?_)))
     all_goals first|(with_reducible exact hld)|(with_reducible exact s1 _ _)|(with_reducible exact s2 _ _)|exact hu|exact aq|rfl|skip
    | true =>
     rw[hbit]at hbad hgood
     have s2:=fun G t=>@Qng G t k v 1 (by omega) hv (by decide) hbit
     have s3:=fun G t=>@Qo1 G t v (by omega)
     have s4:=fun G t=>@andn_u G t k v (by omega) hv hbit
     have hcv:=wr_u (show k<32 by omega)
     obtain⟨z',s5,_,hz⟩:=@Qnh (Qad Pg) 28 p (k-2^v) hp64 (by have:=Nat.sub_le k (2^v);omega)
     rw[sub_iff]at hz
     by_cases h4:z'=0
     ·have hg := hgood (by rw [decide_eq_true (hz.1 h4)]; rfl)
      subst h4
      clear hgood hbad hz
      generalize k-2^v=u at*
      generalize k/2^v=z at*
      generalize 2^v=y at*
      refine .inl ⟨k+1,[0],[yes 24,pl 30,ld 31 (i6 (v:Nat)),no 33,no 36,va 41 (i6 (z:Nat)),va 42 (i6 1),no 43,pl 48,ld 49 (u6 (p:Nat)),nu 51 (k:Int),va 53 (u6 (y:Nat)),va 54 (u6 (u:Nat)),va 55 (u6 ((0:Nat):Int)),no 56,nu 26 ((k+1:Nat):Int)],1000,⟨by omega,hg⟩,by omega,?_⟩
      clear hg
      refine Eq.mp (by kernel_rfl:(let z0:=(↑k:Int);let z1:=Qad Pg;let z2:=(↑(k+1):Int);let z3:=(0:Int);An [decide (z0<(↑L.length:Int))=true,An [z3≤z0,z0<(↑L.length:Int)],headF (List.drop (k*1) (ints L))=some (i6 ↑v),decide ((↑v:Int)<z3)=false,decide ((↑v:Int)≥(5:Int))=false,binV z1 .shr 3 (i6 ↑k) (i6 ↑v)=some (i6 ↑z),binV z1 .and 3 (i6 ↑z) (i6 1)=some (i6 1),((1:Int)==z3)=false,An [z3≤z0,z0<(↑P.length:Int)],headF (List.drop (k*1) (ut P))=some (u6 ↑p),wr .u64 z0=z0,binV z1 .shl 28 (u6 1) (i6 ↑v)=some (u6 ↑y),binV z1 .andNot 28 (u6 ↑k) (u6 ↑y)=some (u6 ↑u),binV z1 .andNot 28 (u6 ↑p) (u6 ↑u)=some (u6 ↑(0:Nat)),((↑(0:Nat):Int) != z3)=false,wr .i64 (z0+(1:Int))=z2,An [Zz,z2=z2,Tt],An [Sm [sl L,ul P],TT 2],Tt])=_) ?_
      (repeat'(first|(with_reducible apply And.intro)|(refine fun(_:True)=>?_)))
      all_goals first|(with_reducible exact hld)|(with_reducible exact hlp)|(with_reducible exact s1 _ _)|(with_reducible exact s2 _ _)|(with_reducible exact s3 _ _)|(with_reducible exact s4 _ _)|(with_reducible exact s5)|(with_reducible exact hcv)|exact hu|exact aq|rfl|skip
     ·have hb := hbad (by rw [decide_eq_false (fun h => h4 (hz.2 h))]; rfl)
      clear hgood hbad hz
      generalize k-2^v=u at*
      generalize k/2^v=z at*
      generalize 2^v=y at*
      refine .inr ⟨.ret,[],i2 290,[yes 24,pl 30,ld 31 (i6 (v:Nat)),no 33,no 36,va 41 (i6 (z:Nat)),va 42 (i6 1),no 43,pl 48,ld 49 (u6 (p:Nat)),nu 51 (k:Int),va 53 (u6 (y:Nat)),va 54 (u6 (u:Nat)),va 55 (u6 (z':Nat)),yes 56],1000,.inr (.inl ⟨hb,rfl,rfl⟩),?_⟩
      refine Eq.mp (by kernel_rfl:(let z0:=(↑k:Int);let z1:=Qad Pg;let z2:=(0:Int);An [decide (z0<(↑L.length:Int))=true,An [z2≤z0,z0<(↑L.length:Int)],headF (List.drop (k*1) (ints L))=some (i6 ↑v),decide ((↑v:Int)<z2)=false,decide ((↑v:Int)≥(5:Int))=false,binV z1 .shr 3 (i6 ↑k) (i6 ↑v)=some (i6 ↑z),binV z1 .and 3 (i6 ↑z) (i6 1)=some (i6 1),((1:Int)==z2)=false,An [z2≤z0,z0<(↑P.length:Int)],headF (List.drop (k*1) (ut P))=some (u6 ↑p),wr .u64 z0=z0,binV z1 .shl 28 (u6 1) (i6 ↑v)=some (u6 ↑y),binV z1 .andNot 28 (u6 ↑k) (u6 ↑y)=some (u6 ↑u),binV z1 .andNot 28 (u6 ↑p) (u6 ↑u)=some (u6 ↑z'),((↑z':Int) != z2)=true,An [Sm (290:Int),Tt],Tt])=_) ?_
      (repeat'(first|(with_reducible apply And.intro)|(refine fun(_:True)=>?_)))
      all_goals first|(with_reducible exact hld)|(with_reducible exact hlp)|(with_reducible exact s1 _ _)|(with_reducible exact s2 _ _)|(with_reducible exact s3 _ _)|(with_reducible exact s4 _ _)|(with_reducible exact s5)|(with_reducible exact hcv)|exact hu|exact aq|rfl|skip
   ·have hb := hbad (by rw [decide_eq_false h2, Bool.false_and, Bool.and_false])
    refine .inr ⟨.ret,[],i2 290,[yes 24,pl 30,ld 31 (i6 x),no 33,yes 36],1000,.inr (.inl ⟨hb,rfl,rfl⟩),?_⟩
    refine Eq.mp (by kernel_rfl:(let z0:=(↑k:Int);An [decide (z0<(↑L.length:Int))=true,An [(0:Int)≤z0,z0<(↑L.length:Int)],headF (List.drop (k*1) (ints L))=some (i6 x),decide (x<(0:Int))=false,decide (x≥(5:Int))=true,An [Sm (290:Int),Tt],Tt])=_) ?_
    (repeat'(first|(with_reducible apply And.intro)|(refine fun(_:True)=>?_)))
    all_goals first|(with_reducible exact hld)|exact hu|exact aq|rfl|skip
 ·have hall : okLd L P = true := all_range.2 fun j hj1 => hj j (by omega)
  refine .inr ⟨.exit 0,[],{sl:=[]},[no 24],1000,.inl ⟨hall,rfl,rfl⟩,?_⟩
  clear hj hall
  refine Eq.mp (by kernel_rfl:(An [decide ((↑k:Int)<(↑L.length:Int))=false,Tt,Tt])=_) ?_
  (repeat'(first|(with_reducible apply And.intro)|(refine fun(_:True)=>?_)))
  all_goals first|exact hu|exact aq|rfl|skip
theorem Qa4(L:List Int)(P:List Nat)(hP:S64 P):FnOk Pg g0 56 [lV L P] (i6 (if ladB L P then 0 else 290)):=by
 have hv:=Qbk L P
 have hu:=Qa8 P
 unfold ladB
 obtain⟨w5,w1,w0⟩:=Qel L P
 rcases Nat.eq_zero_or_pos (wdt L P)with h|h
 ·rw [h] at hv
  rw[h,decide_eq_false (show¬1≤0 by decide),Bool.false_and,if_neg (by decide)]
  clear w1 w0 w5 h
  refine FnOk.of_vc vE_ok mixed Qab (n:=1000) (r:=[]) (S:=i2 290) (hs:=[fn 6 (i6 0),yes 7]) ?_
  refine Eq.mp (by kernel_rfl:(An [Sm (i6 290),An [TT 2,Tt],FnOk Pg g0 89 [V.agg [V.im L.length (ints L),V.im P.length (ut P)]] (i6 0),Tt,((0:Int)==(0:Int))=true,An [Sm (290:Int),Tt],Tt])=_) ?_
  (repeat'(first|(with_reducible apply And.intro)|(refine fun(_:True)=>?_)))
  all_goals first|exact hv|exact hu|exact aq|rfl|skip
 ·obtain ⟨e1, e2⟩ := Qcr.1 (w1 h)
  have hpos:1≤2^wdt L P:=Nat.pow_pos (by decide)
  have h32:=Qaq w5
  rw[decide_eq_true (show 1≤wdt L P from h),Bool.true_and]
  have hlen:P.length=L.length:=by omega
  have hl:=cc_loop L P hP hlen (by omega)
  have hld:=@Qau L 0 (by omega)
  have hlp:=@Qbm P 0 (by omega)
  unfold ok0
  clear w1 w0 e2
  generalize wdt L P=w at*
  have hw0:((w:Int)==0)=false:=by rw[beq_eq_false_iff_ne];omega
  have hL0:0<L.length:=by omega
  have hP0:0<P.length:=by omega
  clear e1 hpos h32
  by_cases h1:L.getD 0 0=0
  ·rw [decide_eq_true h1, Bool.true_and]
   rw[h1]at hld
   by_cases h2:P.getD 0 0=0
   ·rw [decide_eq_true h2, Bool.true_and]
    rw[h2]at hlp
    cases hok:okLd L P with
    |true=>
     have hl:=hl.mono (Qb6 hok (by rw[hok];simp))
     rw[if_pos rfl]
     refine FnOk.of_vc vE_ok mixed Qab (n:=1000) (r:=[]) (S:=i2 0) (hs:=[fn 6 (i6 (w:Nat)),no 7,pl 10,ld 11 (i6 0),no 12,pl 16,ld 17 (u6 ((0:Nat):Int)),no 18,(0,.loop [0] (ccS L P 1) [(True,.exit 0,{sl:=[]})])]) ?_
     refine Eq.mp (by kernel_rfl:(let z0:=(0:Int);An [Sm (i6 0),An [TT 2,Tt],FnOk Pg g0 89 [V.agg [V.im L.length (ints L),V.im P.length (ut P)]] (i6 ↑w),Tt,((↑w:Int)==z0)=false,An [z0≤z0,z0<(↑L.length:Int)],headF (List.drop (Int.toNat z0*1) (ints L))=some (i6 0),(z0 != z0)=false,An [z0≤z0,z0<(↑P.length:Int)],headF (List.drop (Int.toNat z0*1) (ut P))=some (u6 ↑(0:Nat)),((↑(0:Nat):Int) != z0)=false,An [An [Zz,(↑(1:Nat):Int)=(1:Int),Tt],An [Sm [sl L,ul P],TT 2],Tt],Sat Pg none 0 (at' 56 [1,1,1,0,1,0]) (mkSt g0 57 (ccS L P 1)) (Qaf g0 57 [(True,Ex.exit 0,SL.mk [] [] [] [])]),(True→An [An [z0=z0,Tt],Tt]),Tt])=_) ?_
     (repeat'(first|(with_reducible apply And.intro)|(refine fun(_:True)=>?_)))
     all_goals first|exact hl|exact hv|(with_reducible exact hld)|(with_reducible exact hlp)|exact hu|exact hw0|exact aq|rfl|skip
    |false=>
     have hl:=hl.mono (Qb7 (by rw[hok];simp) hok)
     rw[if_neg (by decide)]
     refine FnOk.of_vc vE_ok mixed Qab (n:=1000) (r:=[]) (S:=i2 290) (hs:=[fn 6 (i6 (w:Nat)),no 7,pl 10,ld 11 (i6 0),no 12,pl 16,ld 17 (u6 ((0:Nat):Int)),no 18,(0,.loop [0] (ccS L P 1) [(True,.ret,i2 290)])]) ?_
     refine Eq.mp (by kernel_rfl:(let z0:=(0:Int);An [Sm (i6 290),An [TT 2,Tt],FnOk Pg g0 89 [V.agg [V.im L.length (ints L),V.im P.length (ut P)]] (i6 ↑w),Tt,((↑w:Int)==z0)=false,An [z0≤z0,z0<(↑L.length:Int)],headF (List.drop (Int.toNat z0*1) (ints L))=some (i6 0),(z0 != z0)=false,An [z0≤z0,z0<(↑P.length:Int)],headF (List.drop (Int.toNat z0*1) (ut P))=some (u6 ↑(0:Nat)),((↑(0:Nat):Int) != z0)=false,An [An [Zz,(↑(1:Nat):Int)=(1:Int),Tt],An [Sm [sl L,ul P],TT 2],Tt],Sat Pg none 0 (at' 56 [1,1,1,0,1,0]) (mkSt g0 57 (ccS L P 1)) (Qaf g0 57 [(True,Ex.ret,i2 (290:Int))]),(True→An [An [Sm (290:Int),Tt],Tt]),Tt])=_) ?_
     (repeat'(first|(with_reducible apply And.intro)|(refine fun(_:True)=>?_)))
     all_goals first|exact hl|exact hv|(with_reducible exact hld)|(with_reducible exact hlp)|exact hu|exact hw0|exact aq|rfl|skip
   ·rw [decide_eq_false h2, Bool.false_and, if_neg (by decide)]
    generalize P.getD 0 0=p at*
    refine FnOk.of_vc vE_ok mixed Qab (n:=1000) (r:=[]) (S:=i2 290) (hs:=[fn 6 (i6 (w:Nat)),no 7,pl 10,ld 11 (i6 0),no 12,pl 16,ld 17 (u6 (p:Nat)),yes 18]) ?_
    refine Eq.mp (by kernel_rfl:(let z0:=(0:Int);An [Sm (i6 290),An [TT 2,Tt],FnOk Pg g0 89 [V.agg [V.im L.length (ints L),V.im P.length (ut P)]] (i6 ↑w),Tt,((↑w:Int)==z0)=false,An [z0≤z0,z0<(↑L.length:Int)],headF (List.drop (Int.toNat z0*1) (ints L))=some (i6 0),(z0 != z0)=false,An [z0≤z0,z0<(↑P.length:Int)],headF (List.drop (Int.toNat z0*1) (ut P))=some (u6 ↑p),((↑p:Int) != z0)=true,An [Sm (290:Int),Tt],Tt])=_) ?_
    (repeat'(first|(with_reducible apply And.intro)|(refine fun(_:True)=>?_)))
    all_goals first|exact hv|(with_reducible exact hld)|(with_reducible exact hlp)|exact hu|exact hw0|exact aq|rfl|skip
  ·rw [decide_eq_false h1, Bool.false_and, Bool.false_and, if_neg (by decide)]
   generalize L.getD 0 0=x at*
   refine FnOk.of_vc vE_ok mixed Qab (n:=1000) (r:=[]) (S:=i2 290) (hs:=[fn 6 (i6 (w:Nat)),no 7,pl 10,ld 11 (i6 x),yes 12]) ?_
   refine Eq.mp (by kernel_rfl:(let z0:=(0:Int);An [Sm (i6 290),An [TT 2,Tt],FnOk Pg g0 89 [V.agg [V.im L.length (ints L),V.im P.length (ut P)]] (i6 ↑w),Tt,((↑w:Int)==z0)=false,An [z0≤z0,z0<(↑L.length:Int)],headF (List.drop (Int.toNat z0*1) (ints L))=some (i6 x),(x != z0)=true,An [Sm (290:Int),Tt],Tt])=_) ?_
   (repeat'(first|(with_reducible apply And.intro)|(refine fun(_:True)=>?_)))
   all_goals first|exact hv|(with_reducible exact hld)|exact hu|exact hw0|exact aq|rfl|skip
def laL(L:List Int):Nat→Nat:=fun s=>(L.getD s 0).toNat
def paL(P:List Nat):Nat→Nat:=fun s=>P.getD s 0
structure LdOk(L:List Int)(P:List Nat)(w:Nat):Prop where
 w1:1≤w
 w5:w≤5
 lenL:L.length=2^w
 lenP:P.length=2^w
 ok:LadOk w (laL L) (paL P)
 nn: ∀s,0<s→s<2^w→L.getD s 0=(laL L s:Int)
 l0:L.getD 0 0=0
 p0:P.getD 0 0=0
theorem Qf6{L:List Int}{P:List Nat}(h:ladB L P=true):LdOk L P (wdt L P):=by
 unfold ladB at h
 rw[Bool.and_eq_true,Bool.and_eq_true,decide_eq_true_eq]at h
 obtain⟨h1,h2,h3⟩:=h
 unfold ok0 at h2
 rw[Bool.and_eq_true,decide_eq_true_eq,decide_eq_true_eq]at h2
 obtain⟨w5,w1,w0⟩:=Qel L P
 obtain⟨e1,e2⟩:=Qcr.1 (w1 h1)
 have key: ∀s,0<s→s<2^wdt L P→0≤L.getD s 0∧L.getD s 0<5∧s.testBit (L.getD s 0).toNat=true∧P.getD s 0&&& (s-2^(L.getD s 0).toNat)=P.getD s 0:=fun s hs hlt=>by
  have:=all_range.1 h3 s (by omega)
  rw[decide_eq_false (by omega),Bool.false_or]at this
  unfold okS at this
  simpa only[Bool.and_eq_true,decide_eq_true_eq]using this
 refine⟨h1,w5,e1,e2,⟨fun s hs hlt=>?_⟩,fun s hs hlt=>?_,h2.1,h2.2⟩
 ·obtain ⟨a, b, c, d⟩ := key s hs hlt
  exact⟨Qd7 _ w5 s hlt _ (by unfold laL;omega) c,c,d⟩
 ·obtain ⟨a, _⟩ := key s hs hlt
  exact(Int.toNat_of_nonneg a).symm
def gL(L:List Int)(P:List Nat)(w:Nat):Nat→Nat:=ladG (laL L) (paL P) w (2^w-1)
theorem uF_ut(f:Nat→Nat): ∀n,uF f n=ut ((List.range n).map f)
 |0=>rfl
 |n+1=>by
  show blF _ (n+1)=_
  rw[Qa9,show blF (fun i=>[u6 (f i:Nat)]) n=ut ((List.range n).map f)from uF_ut f n]
  unfold ut
  rw[List.range_succ,List.map_append,List.map_append];rfl
abbrev gV'(w:Nat)(f:Nat→Nat):V:=.im w (uF f w)
theorem gV_ul(w:Nat)(f:Nat→Nat):gV' w f=ul ((List.range w).map f):=by
 show V.im w (uF f w)=V.im ((List.range w).map f).length _
 rw[uF_ut];simp
theorem Qee: ∀w,w≤5→popc (2^w-1)=w:=by decide+kernel
structure DownG(L:List Int)(P:List Nat)(w:Nat)(s:Nat)(g:Nat→Nat):Prop where
 lt:s<2^w
 sub: ∃f,popc s≤f∧∀v,s.testBit v=true→gL L P w v=ladG (laL L) (paL P) f s v
 at_: ∀v,v<w→g v=if s.testBit v then 0 else gL L P w v
theorem DownG.start{L:List Int}{P:List Nat}{w:Nat}(h:LdOk L P w):DownG L P w (2^w-1) (fun _=>0):=by
 have hp:0<2^w:=Nat.pow_pos (by decide)
 refine⟨by omega,⟨w,by rw[Qee w h.w5];exact Nat.le_refl _,fun v _=>rfl⟩,fun v hv=>?_⟩
 have h5:=h.w5
 rw[Qe6 w h.w5 v (by omega),decide_eq_true hv,if_pos rfl]
theorem DownG.next{L:List Int}{P:List Nat}{w s:Nat}{g:Nat→Nat}(h:LdOk L P w)(d:DownG L P w s g)(hs:0<s):DownG L P w (s-2^laL L s) (fun i=>if i=laL L s then paL P s else g i):=by
 have h32:=Qaq h.w5
 have h5:=h.w5
 have hlt:=d.lt
 obtain⟨a1,a2,a3⟩:=h.ok.at_ s hs hlt
 obtain⟨r1,r2,r3⟩:=Qbx s (by omega) _ (by omega) a2
 have hp2:0<2^laL L s:=Nat.pow_pos (by decide)
 obtain⟨f,hf,hsub⟩:=d.sub
 cases f with
 |zero=>rw[r2]at hf;omega
 | succ f =>
  refine⟨by omega,⟨f,by omega,fun v hv=>?_⟩,fun v hv=>?_⟩
  ·have hv5 : v < 5 := by
    rcases Nat.lt_or_ge v 5 with h'|h'
    ·exact h'
    ·rw[Nat.testBit_lt_two_pow (Nat.lt_of_lt_of_le (show s-2^laL L s<2^5 by omega) (Nat.pow_le_pow_right (show 0<2 by decide) h'))]at hv;cases hv
   rw[r3 v hv5]at hv
   simp only[Bool.and_eq_true,Bool.not_eq_true',decide_eq_false_iff_not]at hv
   rw[hsub v hv.1,ladG,if_neg (by omega),if_neg hv.2]
  ·rw [r3 v (by omega)]
   by_cases e:v=laL L s
   ·rw [if_pos e, decide_eq_true e, Bool.not_true, Bool.and_false, if_neg (by decide)]
    subst e
    rw[hsub _ a2,ladG,if_neg (by omega),if_pos rfl]
   ·rw[if_neg e,decide_eq_false e,Bool.not_false,Bool.and_true,d.at_ v hv]
theorem DownG.fin{L:List Int}{P:List Nat}{w:Nat}{g:Nat→Nat}(d:DownG L P w 0 g):uF g w=uF (gL L P w) w:=
 Qbh fun i hi=>by
  have:=d.at_ i hi
  rw[Nat.zero_testBit,if_neg (by decide)]at this
  rw[this]
abbrev grS(L:List Int)(P:List Nat)(w:Nat)(x:Nat×(Nat→Nat)):SL:={sl:=[(1,.ptr 0 0),(5,.sl 1 0 w (some (w-w))),(6,i6 (x.1:Nat))],os:=[lO L P,.row 28 none (uF x.2 w)]}
theorem gr_loop(L:List Int)(P:List Nat)(w:Nat)(h:LdOk L P w):
  Sat Pg none 0 (at' 40 [1,1,1,0,1,0]) (mkSt g0 42 (grS L P w (2^w-1,fun _=>0))) (Qaf g0 42 [(True,.exit 0,{sl:=[(5,gV' w (gL L P w))]})]):=by
 have hu:=Qa8 P
 have hU:=fun g=>Qag g w
 have hlo:=Qae L
 have h32:=Qaq h.w5
 have h5:=h.w5
 refine Qa2 vE_ok mixed Qab (b:=at' 40 [1,1,1,0,1,0,0]) (by kernel_rfl) (fun x=>DownG L P w x.1 x.2) (grS L P w) (fun x=>x.1) (fun x d=>?_) (2^w-1,fun _=>0) (DownG.start h)
 obtain⟨s,g⟩:=x
 dsimp only at d
 by_cases h0:0<s
 ·have dn := d.next h h0
  have hlt:=d.lt
  obtain⟨a1,a2,a3⟩:=h.ok.at_ s h0 hlt
  have hp2:0<2^laL L s:=Nat.pow_pos (by decide)
  have e1:=h.lenL
  have e2:=h.lenP
  have hld:=@Qau L s (by omega)
  rw[h.nn s h0 hlt]at hld
  have hlp:=@Qbm P s (by omega)
  have y:=@Qct g w (laL L s) a1 (P.getD s 0)
  have s3:=fun G t=>@Qlh G t (laL L s) (by omega)
  have s4:=fun G t=>@Qqu G t s (laL L s) (by omega) (by omega) a2
  unfold paL at dn
  clear d
  generalize hv:laL L s=v at*
  generalize hpp:P.getD s 0=p at*
  refine .inl ⟨(s-2^v,fun i=>if i=v then p else g i),[0,1],[yes 20,pl 33,ld 34 (i6 (v:Nat)),pl 38,ld 39 (u6 (p:Nat)),pl 40,st (uF (fun i=>if i=v then p else g i) w),pl 25,ld 26 (i6 (v:Nat)),va 27 (i6 ((2^v:Nat):Int)),va 28 (i6 ((s-2^v:Nat):Int))],1000,dn,by dsimp only;omega,?_⟩
  clear dn hv hpp
  refine Eq.mp (by kernel_rfl:(let z0:=(↑s:Int);let z1:=headF (List.drop (s*1) (ints L));let z2:=(0:Int);let z3:=(↑(s-2^v):Int);An [decide (z0>z2)=true,An [z2≤z0,z0<(↑L.length:Int)],z1=some (i6 ↑v),An [z2≤z0,z0<(↑P.length:Int)],headF (List.drop (s*1) (ut P))=some (u6 ↑p),An [z2≤(↑v:Int),(↑v:Int)<(↑w:Int)],layE (0+v*1) (uF g w) [u6 ↑p]=some (uF (fun i=>if i=v then p else g i) w),An [z2≤z0,z0<(↑L.length:Int)],z1=some (i6 ↑v),binV (Qad Pg) .shl 3 (i6 1) (i6 ↑v)=some (i6 ↑(2^v)),binV (Qad Pg) .andNot 3 (i6 ↑s) (i6 ↑(2^v))=some (i6 ↑(s-2^v)),An [Zz,An [Zz,w=w,Sm (w-w)],z3=z3,Tt],An [Sm [sl L,ul P],TT 2],An [Sm (uF (fun i=>if i=v then p else g i) w),HfL (uF (fun i=>if i=v then p else g i) w)],Tt])=_) ?_
  (repeat'(first|(with_reducible apply And.intro)|(refine fun(_:True)=>?_)))
  all_goals first|(with_reducible exact hld)|(with_reducible exact hlp)|(with_reducible exact y)|(with_reducible exact s3 _ _)|(with_reducible exact s4 _ _)|exact hu|exact hU _|exact hlo|exact aq|rfl|skip
 ·have hs0 : s = 0 := by omega
  subst hs0
  have hf:=d.fin
  refine .inr ⟨.exit 0,[],{sl:=[(5,gV' w (gL L P w))]},[no 20],1000,.inl ⟨trivial,rfl,rfl⟩,?_⟩
  clear d
  refine Eq.mp (by kernel_rfl:(An [decide ((↑(0:Nat):Int)>(0:Int))=false,An [An [w=w,uF (gL L P w) w=uF g w,HfL (uF g w)],Tt],Tt])=_) ?_
  (repeat'(first|(with_reducible apply And.intro)|(refine fun(_:True)=>?_)))
  all_goals first|(with_reducible exact hf)|(with_reducible exact hf.symm)|exact hu|exact hU _|exact hlo|exact aq|rfl|skip
theorem graph_ok(L:List Int)(P:List Nat)(hP:S64 P)(hb:ladB L P=true):FnOk Pg g0 40 [lV L P] (.tup [gV' (wdt L P) (gL L P (wdt L P)),i6 0]):=by
 have hc:=Qa4 L P hP
 rw[hb,if_pos rfl]at hc
 have hu:=Qa8 P
 have h:=Qf6 hb
 have hv:=Qbk L P
 have hl:=gr_loop L P _ h
 have e1:=h.lenL
 have h1:=h.w1
 have h5:=h.w5
 have h32:=Qaq h.w5
 have hp:1≤2^wdt L P:=Nat.pow_pos (by decide)
 clear h hb
 generalize wdt L P=w at*
 have hr:=Qmr w
 have hU0:=Qag (fun _=>0) w
 have hU1:=Qag (gL L P w) w
 have hnum:(L.length:Int)-1=((2^w-1:Nat):Int):=by omega
 generalize gL L P w=g at*
 generalize hk:2^w-1=k at*
 have hk32:k≤32:=by omega
 clear e1 h32 hp hk
 refine FnOk.of_vc vE_ok mixed Qab (n:=1000) (r:=[]) (S:={sl:=[(2,gV' w g),(3,i6 0)]}) (hs:=[fn 8 (i6 0),no 10,fn 13 (i6 (w:Nat)),mk 14,nu 18 (k:Int),(0,.loop [0,1] (grS L P w (k,fun _=>0)) [(True,.exit 0,{sl:=[(5,gV' w g)]})])]) ?_
 refine Eq.mp (by kernel_rfl:(let z0:=[V.agg [V.im L.length (ints L),V.im P.length (ut P)]];let z1:=(↑w:Int);let z2:=(0:Int);let z3:=(↑k:Int);An [Sm (V.tup [gV' w g,i6 0]),An [TT 2,Tt],FnOk Pg g0 56 z0 (i6 0),Tt,(z2 != z2)=false,An [TT 2,Tt],FnOk Pg g0 89 z0 (i6 ↑w),Tt,An [z2≤z1,z1≤z1,(↑(8:Nat):Int)*z1≤(281474976710656:Int),z1≤(9223372036854775807:Int)],wr .i64 ((↑L.length:Int)-(1:Int))=z3,An [An [Zz,An [Zz,w=w,Sm (w-w)],z3=z3,Tt],An [Sm [sl L,ul P],TT 2],An [uF (fun x=>0) w=rep w [u6 0],HfL (uF (fun x=>0) w)],Tt],Sat Pg none 0 (at' 40 [1,1,1,0,1,0]) (mkSt g0 42 (grS L P w (k,fun x=>0))) (Qaf g0 42 [(True,Ex.exit 0,SL.mk [(5,gV' w g)] [] [] [])]),(True→An [An [An [w=w,Sm (uF g w)],z2=z2,Tt],Tt]),Tt])=_) ?_
 (repeat'(first|(with_reducible apply And.intro)|(refine fun(_:True)=>?_)))
 all_goals first|exact hl|exact hc|exact hv|(with_reducible exact hr)|exact hr.symm|exact hu|exact hU0|exact hU1|exact wr6' (by omega) (by omega) (by omega)|exact aq|rfl|skip
theorem in29(s:Nat)(v:Nat)(hv:v<64):FnOk Pg g0 95 [u6 s,i6 v] (.bool (s.testBit v)):=by
 have s1:=@Qli (Qad Pg) 28 s v (by omega)
 have s2:=@Qjv (Qad Pg) 28 (s/2^v)
 rw[Qqy]
 generalize s/2^v=b at*
 by_cases h:b%2=1
 ·rw [decide_eq_true h]
  rw[h]at s2
  refine FnOk.of_vc vE_ok mixed Qab (n:=1000) (r:=[]) (S:={sl:=[(4,.bool true)]}) (hs:=[va 7 (u6 b),va 8 (u6 (1:Nat)),yes 9]) ?_
  refine Eq.mp (by kernel_rfl:(An [Sm (V.bool true),binV (Qad Pg) .shr 28 (u6 ↑s) (i6 ↑v)=some (u6 ↑b),binV (Qad Pg) .and 28 (u6 ↑b) (u6 1)=some (u6 ↑(1:Nat)),((↑(1:Nat):Int)==(1:Int))=true,An [Sm true,Tt],Tt])=_) ?_
  exact au
 ·rw [decide_eq_false h]
  have h0:b%2=0:=by omega
  rw[h0]at s2
  refine FnOk.of_vc vE_ok mixed Qab (n:=1000) (r:=[]) (S:={sl:=[(4,.bool false)]}) (hs:=[va 7 (u6 b),va 8 (u6 (0:Nat)),no 9]) ?_
  refine Eq.mp (by kernel_rfl:(An [Sm (V.bool false),binV (Qad Pg) .shr 28 (u6 ↑s) (i6 ↑v)=some (u6 ↑b),binV (Qad Pg) .and 28 (u6 ↑b) (u6 1)=some (u6 ↑(0:Nat)),((↑(0:Nat):Int)==(1:Int))=false,An [Sm false,Tt],Tt])=_) ?_
  exact au
abbrev b4(b:Bool):SL:={sl:=[(4,.bool b)]}
def goodL(L:List Int)(P:List Nat)(n:Nat):Bool:=decide (1≤n)&&(decide (n≤5)&&(isW L P n&&(ok0 L P&&okLd L P)))
theorem Qkp(L:List Int)(P:List Nat)(n:Nat):goodL L P n=(ladB L P&&decide (wdt L P=n)):=by
 obtain⟨w5,w1,w0⟩:=Qel L P
 apply Bool.eq_iff_iff.2
 unfold goodL ladB
 simp only[Bool.and_eq_true,decide_eq_true_eq]
 constructor
 ·rintro ⟨a, b, c, d, e⟩
  have:=w0 n a b c
  exact⟨⟨by omega,d,e⟩,this⟩
 ·rintro ⟨⟨a, d, e⟩, f⟩
  subst f
  exact⟨a,w5,w1 a,d,e⟩
abbrev eqlS(a:List Nat)(k:Nat):SL:={sl:=[(0,ul a),(1,ul a),(12,i6 (a.length:Nat)),(13,i6 (k:Nat))]}
theorem eql_loop(a:List Nat)(h:a.length≤1000):Sat Pg none 0 (at' 58 [1,1,0,1,0]) (mkSt g0 26 (eqlS a 0)) (Qaf g0 26 [(True,.exit 0,{sl:=[]})]):=by
 have hu:=Qa8 a
 refine Qa2 vE_ok mixed Qab (b:=at' 58 [1,1,0,1,0,0]) (by kernel_rfl) (fun k=>True) (eqlS a) (fun k=>a.length-k) (fun k hk=>?_) 0 trivial
 by_cases hlt:k<a.length
 ·have hld := @Qbm a k hlt
  generalize a.getD k 0=x at*
  refine .inl ⟨k+1,[],[yes 14,pl 18,ld 19 (u6 (x:Nat)),pl 22,ld 23 (u6 (x:Nat)),no 24,nu 25 ((k+1:Nat):Int)],1000,trivial,by omega,?_⟩
  refine Eq.mp (by kernel_rfl:(let z4:=An [Sm a.length,Sm (ut a)];let z0:=(↑a.length:Int);let z1:=(↑k:Int);let z2:=(↑(k+1):Int);let z3:=headF (List.drop (k*1) (ut a));An [decide (z1<z0)=true,An [(0:Int)≤z1,z1<z0],z3=some (u6 ↑x),An [(0:Int)≤z1,z1<z0],z3=some (u6 ↑x),((↑x:Int) != (↑x:Int))=false,wr .i64 (z1+(1:Int))=z2,An [z4,z4,z0=z0,z2=z2,Tt],Tt])=_) ?_
  (repeat'(first|(with_reducible apply And.intro)|(refine fun(_:True)=>?_)))
  all_goals first|(with_reducible exact hld)|exact hu|exact aq|rfl|skip
 ·refine .inr ⟨.exit 0, [], { sl := [] }, [no 14], 1000, .inl ⟨trivial, rfl, rfl⟩, ?_⟩
  refine Eq.mp (by kernel_rfl:(An [decide ((↑k:Int)<(↑a.length:Int))=false,Tt,Tt])=_) ?_
  (repeat'(first|(with_reducible apply And.intro)|(refine fun(_:True)=>?_)))
  all_goals first|exact hu|exact aq|rfl|skip
theorem Qhl(a:List Nat)(h:a.length≤1000):FnOk Pg g0 58 [ul a,ul a] (.bool true):=by
 have hl:=eql_loop a h
 have hu:=Qa8 a
 refine FnOk.of_vc vE_ok mixed Qab (n:=1000) (r:=[]) (S:=b4 true) (hs:=[no 10,(0,.loop [] (eqlS a 0) [(True,.exit 0,{sl:=[]})])]) ?_
 refine Eq.mp (by kernel_rfl:(let z1:=An [Sm a.length,Sm (ut a)];let z0:=(↑a.length:Int);An [Sm (V.bool true),(z0 != z0)=false,An [An [z1,z1,z0=z0,(↑(0:Nat):Int)=(0:Int),Tt],Tt],Sat Pg none 0 (at' 58 [1,1,0,1,0]) (mkSt g0 26 (eqlS a 0)) (Qaf g0 26 [(True,Ex.exit 0,SL.mk [] [] [] [])]),(True→An [An [Sm true,Tt],Tt]),Tt])=_) ?_
 (repeat'(first|(with_reducible apply And.intro)|(refine fun(_:True)=>?_)))
 all_goals first|exact hl|exact hu|exact aq|rfl|skip
set_option maxHeartbeats 1000000
section
variable (N:Nat) (o:Nat→Nat) (E n:Nat)
end
set_option maxHeartbeats 1000000
set_option maxRecDepth 100000
structure GrOk(n:Nat)(G:List Nat):Prop where
 len:G.length=n
 u:S64 G
section
variable (N:Nat) (o:Nat→Nat) (E n:Nat) (L:List Nat)
end
set_option maxHeartbeats 1000000
set_option maxRecDepth 100000
theorem Qd1{P P':Nat}{Q:Nat→Bool}(h:Bits P Q)(h':Bits P' Q):P=P':=Nat.eq_of_testBit_eq fun i=>(h.2 i).trans (h'.2 i).symm
theorem Qnj(Q:Nat→Bool): ∀n,∃P,P<2^n∧∀u,P.testBit u=(decide (u<n)&&Q u)
 |0=>⟨0,by decide,fun u=>by simp⟩
 | n + 1 => by
  obtain⟨P,h1,h2⟩:=Qnj Q n
  have hlt:2^n<2^(n+1):=Nat.pow_lt_pow_right (by omega) (by omega)
  cases hq:Q n with
  | true =>
   refine⟨P|||2^n,Nat.or_lt_two_pow (by omega) hlt,fun u=>?_⟩
   rw[Nat.testBit_or,h2,Nat.testBit_two_pow]
   by_cases hu:n=u
   ·subst hu;simp[hq]
   ·by_cases h3 : u < n
    ·simp[h3,hu,show u<n+1 by omega]
    ·simp[h3,hu,show¬u<n+1 by omega]
  | false =>
   refine⟨P,by omega,fun u=>?_⟩
   rw[h2]
   by_cases hu:n=u
   ·subst hu;simp[hq]
   ·by_cases h3 : u < n
    ·simp[h3,show u<n+1 by omega]
    ·simp[h3,show¬u<n+1 by omega]
theorem Qic{Q:Nat→Bool}{n:Nat}(hn:n≤64)(h: ∀u,Q u=true→u<n): ∃P,Bits P Q∧P<2^n:=by
 obtain⟨P,h1,h2⟩:=Qnj Q n
 have:2^n≤2^64:=Nat.pow_le_pow_right (by omega) hn
 refine⟨P,⟨Nat.lt_of_lt_of_le h1 this,fun u=>?_⟩,h1⟩
 rw[h2]
 cases hq:Q u with
 |false=>simp
 |true=>simp[h u hq]
theorem Qs7{n:Nat}{g:GG.Rel}{out Q:Nat→Bool}(hQ: ∀u,Q u=true→u<n): ∀v,v≤n→∀u,GG.pass n g out Q v u=true→u<n
 |0,_,u,h=>hQ u h
 |v+1,hv,u,h=>by
  unfold GG.pass GG.place1 at h
  simp only[Bool.or_eq_true,Bool.and_eq_true,decide_eq_true_eq]at h
  rcases h with h|⟨rfl,_⟩
  ·exact Qs7 hQ v (by omega) u h
  ·omega
theorem Qcy{n:Nat}{g:GG.Rel}{out:Nat→Bool}: ∀t u,GG.passes n g out t u=true→u<n
 |0,u,h=>by cases h
 |t+1,u,h=>Qs7 (Qcy t) n (Nat.le_refl _) u h
abbrev igZ(n P:Nat):SL:={sl:=[(1,i6 n),(5,u6 P)]}
theorem ig_out(l:List Nat)(n:Nat)(hl:l.length=n)(hn:n≤6)(h64:S64 l)(P:Nat)(hP:Bits P (GG.passes n (relL l) (outL l n) n)):
  Sat Pg none 0 (at' 78 [1,1,1,0,1,0]) (mkSt g0 37 (igX l n 0 0)) (Qaf g0 37 [(True,.exit 0,igZ n P)]):=by
 refine Qa2 vE_ok mixed Qab (b:=at' 78 [1,1,1,0,1,0,0]) (by kernel_rfl) (fun q:Nat×Nat=>q.1≤n∧Bits q.2 (GG.passes n (relL l) (outL l n) q.1)) (fun q=>igX l n q.1 q.2) (fun q=>n-q.1) (fun q hq=>?_) (0,0) ⟨Nat.zero_le _,by decide,fun u=>Nat.zero_testBit u⟩
 obtain⟨t,p⟩:=q
 obtain⟨ht,hb⟩:=hq
 dsimp only at ht hb
 by_cases hlt:t<n
 ·obtain ⟨p2, hp2, _⟩ := Qic (n := n) (Q := GG.passes n (relL l) (outL l n) (t + 1)) (by omega) (Qcy (t + 1))
  have hin:Sat Pg none 0 (at' 78 [1,1,1,0,1,0,0,1,1,0,0,1,0]) (mkSt g0 37 (igS l n t 0 p)) (Qaf g0 37 [(True,.exit 2,igX l n t p2)]):=by
   refine(ig_in l n hl hn h64 t p _ hb (Qcy t)).mono ?_
   rintro e st ⟨S',rfl,rfl,P',rfl,hP'⟩
   obtain rfl:=Qd1 hP' hp2
   exact .inl ⟨trivial,rfl,rfl⟩
  refine .inl ⟨(t+1,p2),[],[yes 14,(0,.loop [] (igS l n t 0 p) [(True,.exit 2,igX l n t p2)]),nu 31 (t+1:Nat)],1000,⟨hlt,hp2⟩,by dsimp only;omega,?_⟩
  clear hp2 hb hP
  refine Eq.mp (by kernel_rfl:(let z3:=An [Sm l.length,Sm (ut l)];let z0:=(↑n:Int);let z1:=(↑(t+1):Int);let z2:=(↑t:Int);An [decide (z2<z0)=true,An [An [z3,z0=z0,Sm (↑p:Int),z0=z0,z2=z2,z3,Sm (↑l.length:Int),(↑(0:Nat):Int)=(0:Int),Tt],Tt],Sat Pg none 0 (at' 78 [1,1,1,0,1,0,0,1,1,0,0,1,0]) (mkSt g0 37 (igS l n t 0 p)) (Qaf g0 37 [(True,Ex.exit 2,igX l n t p2)]),(True→An [wr .i64 (z2+(1:Int))=z1,An [z3,z0=z0,Sm (↑p2:Int),z0=z0,z1=z1,Tt],Tt]),Tt])=_) ?_
  exact au
 ·have : t = n := by omega
  subst this
  obtain rfl:=Qd1 hb hP
  refine .inr ⟨.exit 0,[],igZ t p,[no 14],1000,.inl ⟨trivial,rfl,rfl⟩,?_⟩
  clear hb hP
  refine Eq.mp (by kernel_rfl:(let z0:=(↑t:Int);An [decide (z0<z0)=false,An [z0=z0,Sm (↑p:Int),Tt],Tt])=_) ?_
  exact au
abbrev bR4(b:Bool):SL:={sl:=[(4,.bool b)]}
theorem Qhr(l:List Nat)(n:Nat)(hn:n≤6)(h64:S64 l):FnOk Pg g0 78 [ul l,i6 n] (.bool (decide (l.length=n)&&GG.placedAll n (relL l) (outL l n))):=by
 by_cases hl:l.length=n
 ·rw [decide_eq_true hl, Bool.true_and]
  obtain⟨P,hP,hPn⟩:=Qic (n:=n) (Q:=GG.passes n (relL l) (outL l n) n) (by omega) (Qcy n)
  have lo_:=ig_out l n hl hn h64 P hP
  obtain⟨s1,s2⟩:=@shl1_u (Qad Pg) 28 n (by omega)
  have hpos:=Nat.two_pow_pos n
  have hiff:P=2^n-1↔GG.placedAll n (relL l) (outL l n)=true:=by
   constructor
   ·intro h
    refine GG.all_range.2 fun u hu=>?_
    rw[←hP.2,h,Nat.testBit_two_pow_sub_one];simpa using hu
   ·intro h
    apply Nat.eq_of_testBit_eq
    intro u
    rw[hP.2,Nat.testBit_two_pow_sub_one]
    by_cases hu:u<n
    ·rw[GG.all_range.1 h u hu];simp[hu]
    ·cases hq : GG.passes n (relL l) (outL l n) n u with
     |false=>simp[hu]
     |true=>exact absurd (Qcy n u hq) hu
  cases hb:GG.placedAll n (relL l) (outL l n)with
  |true=>
   have hPe:=hiff.2 hb
   generalize 2^n=w at*
   have hP1:P=w-1:=hPe
   clear hiff hb hP hPe
   refine FnOk.of_vc vE_ok mixed Qab (n:=1000) (r:=[]) (S:=bR4 true) (hs:=[no 11,(0,.loop [] (igX l n 0 0) [(True,.exit 0,igZ n P)]),va 34 (u6 w),nu 35 (w-1:Nat),yes 36]) ?_
   refine Eq.mp (by kernel_rfl:(let z0:=(↑n:Int);An [Sm (V.bool true),((↑l.length:Int) != z0)=false,An [An [An [Sm l.length,Sm (ut l)],z0=z0,(↑(0:Nat):Int)=(0:Int),z0=z0,(↑(0:Nat):Int)=(0:Int),Tt],Tt],Sat Pg none 0 (at' 78 [1,1,1,0,1,0]) (mkSt g0 37 (igX l n 0 0)) (Qaf g0 37 [(True,Ex.exit 0,igZ n P)]),(True→An [binV (Qad Pg) .shl 28 (u6 1) (i6 ↑n)=some (u6 ↑w),wr .u64 ((↑w:Int)-(1:Int))=(↑(w-1):Int),((↑P:Int)==(↑(w-1):Int))=true,An [Sm true,Tt],Tt]),Tt])=_) ?_
   (repeat'(first|(with_reducible apply And.intro)|(refine fun(_:True)=>?_)))<;>first|exact aq|skip
   all_goals exact Qe2 (by simp[lo];omega) (by simp[hi];omega) |>.trans (by omega)
  |false=>
   have hPe:P≠2^n-1:=fun h=>by rw[hiff.1 h]at hb;cases hb
   generalize 2^n=w at*
   clear hiff hb hP
   refine FnOk.of_vc vE_ok mixed Qab (n:=1000) (r:=[]) (S:=bR4 false) (hs:=[no 11,(0,.loop [] (igX l n 0 0) [(True,.exit 0,igZ n P)]),va 34 (u6 w),nu 35 (w-1:Nat),no 36]) ?_
   refine Eq.mp (by kernel_rfl:(let z0:=(↑n:Int);An [Sm (V.bool false),((↑l.length:Int) != z0)=false,An [An [An [Sm l.length,Sm (ut l)],z0=z0,(↑(0:Nat):Int)=(0:Int),z0=z0,(↑(0:Nat):Int)=(0:Int),Tt],Tt],Sat Pg none 0 (at' 78 [1,1,1,0,1,0]) (mkSt g0 37 (igX l n 0 0)) (Qaf g0 37 [(True,Ex.exit 0,igZ n P)]),(True→An [binV (Qad Pg) .shl 28 (u6 1) (i6 ↑n)=some (u6 ↑w),wr .u64 ((↑w:Int)-(1:Int))=(↑(w-1):Int),((↑P:Int)==(↑(w-1):Int))=false,An [Sm false,Tt],Tt]),Tt])=_) ?_
   (repeat'(first|(with_reducible apply And.intro)|(refine fun(_:True)=>?_)))<;>first|exact aq|skip
   all_goals exact Qe2 (by simp[lo];omega) (by simp[hi];omega) |>.trans (by omega)
 ·rw [decide_eq_false hl, Bool.false_and]
  refine FnOk.of_vc vE_ok mixed Qab (n:=1000) (r:=[]) (S:=bR4 false) (hs:=[yes 11]) ?_
  refine Eq.mp (by kernel_rfl:(An [Sm (V.bool false),((↑l.length:Int) != (↑n:Int))=true,An [Sm false,Tt],Tt])=_) ?_
  exact au
theorem rg_first(l:List Nat)(n:Nat)(hl:l.length=n)(hn:n≤6)(h64:S64 l):
  Sat Pg none 0 (at' 67 [1,1,0,1,0]) (mkSt g0 67 {sl:=[(0,ul l),(5,i6 (0:Nat))]}) (Qaf g0 67 [((List.range n).all (fun u=> !outL l n u)=true,.exit 0,{sl:=[(0,ul l)]}),((List.range n).all (fun u=> !outL l n u)=false,.ret,bR4 false)]):=by
 refine Qa2 vE_ok mixed Qab (b:=at' 67 [1,1,0,1,0,0]) (by kernel_rfl) (fun k:Nat=>k≤n∧∀j,j<k→(!outL l n j)=true) (fun k:Nat=>{sl:=[(0,ul l),(5,i6 k)]}) (fun k=>n-k) (fun k hk=>?_) 0 ⟨Nat.zero_le _,fun j h=>absurd h (Nat.not_lt_zero _)⟩
 obtain⟨hk,hj⟩:=hk
 by_cases hlt:k<n
 ·have hld := @Qbm l k (by omega)
  have s1:=@Qli (Qad Pg) 28 (l.getD k 0) n (by omega)
  have hout:outL l n k= !decide (l.getD k 0/2^n=0):=rfl
  generalize l.getD k 0=s at*
  rw[←hl]at s1
  by_cases h0:s/2^n=0
  ·rw [decide_eq_true h0] at hout
   rw[hl,h0,←hl]at s1
   refine .inl ⟨k+1,[],[yes 22,pl 27,ld 28 (u6 s),va 31 (u6 (0:Nat)),no 32,nu 24 (k+1:Nat)],1000,⟨hlt,fun j hj1=>?_⟩,by omega,?_⟩
   ·rcases Nat.lt_succ_iff_lt_or_eq.1 hj1 with h2 | h2
    ·exact hj j h2
    ·subst h2;rw[hout];rfl
   ·refine Eq.mp (by kernel_rfl : (let z0 := (↑(k + 1) : Int); let z1 := (↑k : Int); An [decide (z1 < (↑l.length : Int)) = true, An [(0 : Int) ≤ z1, z1 < (↑l.length : Int)], headF (List.drop (k * 1) (ut l)) = some (u6 ↑s), binV (Qad Pg) .shr 28 (u6 ↑s) (i6 ↑l.length) = some (u6 ↑(0 : Nat)), ((↑(0 : Nat) : Int) != (0 : Int)) = false, wr .i64 (z1 + (1 : Int)) = z0, An [An [Sm l.length, Sm (ut l)], z0 = z0, Tt], Tt]) = _) ?_
    exact au
  ·rw [decide_eq_false h0] at hout
   have hall:=Qbc (p:=fun u=> !outL l n u) hlt (by rw[hout];rfl)
   rw[hl]at s1
   generalize s/2^n=z at*
   rw[←hl]at s1
   refine .inr ⟨.ret,[],bR4 false,[yes 22,pl 27,ld 28 (u6 s),va 31 (u6 z),yes 32],1000,.inr (.inl ⟨hall,rfl,rfl⟩),?_⟩
   refine Eq.mp (by kernel_rfl:(let z0:=(↑k:Int);An [decide (z0<(↑l.length:Int))=true,An [(0:Int)≤z0,z0<(↑l.length:Int)],headF (List.drop (k*1) (ut l))=some (u6 ↑s),binV (Qad Pg) .shr 28 (u6 ↑s) (i6 ↑l.length)=some (u6 ↑z),((↑z:Int) != (0:Int))=true,An [Sm false,Tt],Tt])=_) ?_
   exact au
 ·have : k = n := by omega
  subst this
  refine .inr ⟨.exit 0,[],{sl:=[(0,ul l)]},[no 22],1000,.inl ⟨GG.all_range.2 hj,rfl,rfl⟩,?_⟩
  refine Eq.mp (by kernel_rfl:(An [decide ((↑k:Int)<(↑l.length:Int))=false,An [An [Sm l.length,Sm (ut l)],Tt],Tt])=_) ?_
  exact au
abbrev rgJ(l:List Nat)(i k j A:Nat):SL:={sl:=[(0,ul l),(6,i6 i),(7,u6 A),(8,i6 k),(9,i6 j)]}
abbrev rgK(l:List Nat)(i k A:Nat):SL:={sl:=[(0,ul l),(6,i6 i),(7,u6 A),(8,i6 k)]}
abbrev rgI(l:List Nat)(i A:Nat):SL:={sl:=[(0,ul l),(6,i6 i),(7,u6 A)]}
theorem Qq4{n:Nat}{l:List Nat}{Q:Nat→Bool}(h: ∀u,Q u=true→u<64)(h64:S64 l): ∀j u,GG.cloR (relL l) Q j u=true→u<64
 |0,u,hu=>h u hu
 | j + 1, u, hu => by
  unfold GG.cloR GG.clo1 at hu
  simp only[Bool.or_eq_true,Bool.and_eq_true]at hu
  rcases hu with hu|⟨_,hu⟩
  ·exact Qq4 (n:=n) h h64 j u hu
  ·rcases Nat.lt_or_ge u 64 with h' | h'
   ·exact h'
   ·have : (l.getD j 0).testBit u = false := Nat.testBit_lt_two_pow (Nat.lt_of_lt_of_le (show l.getD j 0 < 2 ^ 64 from h64.get j) (Nat.pow_le_pow_right (by omega) h'))
    unfold relL at hu
    rw[this]at hu;cases hu
theorem rg_j(l:List Nat)(n:Nat)(hl:l.length=n)(hn:n≤6)(h64:S64 l)(i k A:Nat)(Q:Nat→Bool)(hA:Bits A Q)(B:Nat)(hB:Bits B (GG.cloR (relL l) Q n)):
  Sat Pg none 0 (at' 67 [1,1,1,0,1,0,0,1,0,0,1,0,1,0,0,1,0,0,1,0]) (mkSt g0 67 (rgJ l i k 0 A)) (Qaf g0 67 [(True,.exit 6,rgK l i k B)]):=by
 refine Qa2 vE_ok mixed Qab (b:=at' 67 [1,1,1,0,1,0,0,1,0,0,1,0,1,0,0,1,0,0,1,0,0]) (by kernel_rfl) (fun q:Nat×Nat=>q.1≤n∧Bits q.2 (GG.cloR (relL l) Q q.1)) (fun q=>rgJ l i k q.1 q.2) (fun q=>n-q.1) (fun q hq=>?_) (0,A) ⟨Nat.zero_le _,hA⟩
 obtain⟨j,p⟩:=q
 obtain⟨hj,hp,hb⟩:=hq
 dsimp only at hj hp hb
 by_cases hlt:j<n
 ·have hld := @Qbm l j (by omega)
  have hs:=h64.get j
  have hin:=in_set p j (by omega)
  have hstep: ∀u,GG.cloR (relL l) Q (j+1) u=(p.testBit u||(p.testBit j&&(l.getD j 0).testBit u)):=fun u=>by
   show(GG.cloR (relL l) Q j u||(GG.cloR (relL l) Q j j&&relL l j u))=_
   rw[←hb,←hb];rfl
  generalize l.getD j 0=s at*
  cases hc:p.testBit j with
  |true=>
   rw[hc]at hin
   obtain⟨o1,o2⟩:=@or_u (Qad Pg) 28 p s hp hs
   have hnb:Bits (p|||s) (GG.cloR (relL l) Q (j+1)):=⟨o2,fun u=>by rw[hstep,hc,Bool.true_and,Nat.testBit_or]⟩
   generalize p|||s=p2 at*
   refine .inl ⟨(j+1,p2),[],[yes 52,fn 57 (.bool true),pl 61,ld 62 (u6 s),va 63 (u6 p2),nu 54 (j+1:Nat)],1000,⟨hlt,hnb⟩,by dsimp only;omega,?_⟩
   clear hnb hstep hb hB hA hc
   refine Eq.mp (by kernel_rfl:(let z0:=(↑(j+1):Int);let z1:=(↑j:Int);An [decide (z1<(↑l.length:Int))=true,TT 2,FnOk Pg g0 77 [u6 ↑p,i6 ↑j] (V.bool true),Tt,An [(0:Int)≤z1,z1<(↑l.length:Int)],headF (List.drop (j*1) (ut l))=some (u6 ↑s),binV (Qad Pg) .or 28 (u6 ↑p) (u6 ↑s)=some (u6 ↑p2),wr .i64 (z1+(1:Int))=z0,An [An [Sm l.length,Sm (ut l)],Sm (↑i:Int),Sm (↑p2:Int),Sm (↑k:Int),z0=z0,Tt],Tt])=_) ?_
   exact au
  |false=>
   rw[hc]at hin
   have hnb:Bits p (GG.cloR (relL l) Q (j+1)):=⟨hp,fun u=>by rw[hstep,hc,Bool.false_and,Bool.or_false]⟩
   refine .inl ⟨(j+1,p),[],[yes 52,fn 57 (.bool false),nu 54 (j+1:Nat)],1000,⟨hlt,hnb⟩,by dsimp only;omega,?_⟩
   clear hnb hstep hb hB hA hc
   refine Eq.mp (by kernel_rfl:(An [decide ((↑j:Int)<(↑l.length:Int))=true,TT 2,FnOk Pg g0 77 [u6 ↑p,i6 ↑j] (V.bool false),Tt,wr .i64 ((↑j:Int)+(1:Int))=(↑(j+1):Int),An [An [Sm l.length,Sm (ut l)],Sm (↑i:Int),Sm (↑p:Int),Sm (↑k:Int),Sm (↑(j+1):Int),Tt],Tt])=_) ?_
   exact au
 ·have : j = n := by omega
  subst this
  obtain rfl:=Qd1 ⟨hp,hb⟩ hB
  refine .inr ⟨.exit 6,[],rgK l i k p,[no 52],1000,.inl ⟨trivial,rfl,rfl⟩,?_⟩
  clear hb hB hA
  refine Eq.mp (by kernel_rfl:(An [decide ((↑j:Int)<(↑l.length:Int))=false,An [An [Sm l.length,Sm (ut l)],Sm (↑i:Int),Sm (↑p:Int),Sm (↑k:Int),Tt],Tt])=_) ?_
  exact au
theorem Qq6{n:Nat}{l:List Nat}(h64:S64 l)(i:Nat): ∀k u,GG.clo n (relL l) i k u=true→u<64
 | 0, u, hu => by
  rcases Nat.lt_or_ge u 64 with h'|h'
  ·exact h'
  ·have : (l.getD i 0).testBit u = false := Nat.testBit_lt_two_pow (Nat.lt_of_lt_of_le (show l.getD i 0 < 2 ^ 64 from h64.get i) (Nat.pow_le_pow_right (by omega) h'))
   have hu':(l.getD i 0).testBit u=true:=hu
   rw[this]at hu';cases hu'
 |k+1,u,hu=>Qq4 (n:=n) (Qq6 h64 i k) h64 n u hu
theorem rg_k(l:List Nat)(n:Nat)(hl:l.length=n)(hn:n≤6)(h64:S64 l)(i:Nat)(A B:Nat)(hA:Bits A (GG.clo n (relL l) i 0))(hB:Bits B (GG.clo n (relL l) i n)):
  Sat Pg none 0 (at' 67 [1,1,1,0,1,0,0,1,0,0,1,0,1,0]) (mkSt g0 67 (rgK l i 0 A)) (Qaf g0 67 [(True,.exit 4,rgI l i B)]):=by
 refine Qa2 vE_ok mixed Qab (b:=at' 67 [1,1,1,0,1,0,0,1,0,0,1,0,1,0,0]) (by kernel_rfl) (fun q:Nat×Nat=>q.1≤n∧Bits q.2 (GG.clo n (relL l) i q.1)) (fun q=>rgK l i q.1 q.2) (fun q=>n-q.1) (fun q hq=>?_) (0,A) ⟨Nat.zero_le _,hA⟩
 obtain⟨k,p⟩:=q
 obtain⟨hk,hb⟩:=hq
 dsimp only at hk hb
 by_cases hlt:k<n
 ·obtain ⟨p2, hp2, _⟩ := Qic (n := 64) (Q := GG.clo n (relL l) i (k + 1)) (Nat.le_refl _) (Qq6 h64 i (k + 1))
  have hin:=rg_j l n hl hn h64 i k p _ hb p2 hp2
  refine .inl ⟨(k+1,p2),[],[yes 46,(0,.loop [] (rgJ l i k 0 p) [(True,.exit 6,rgK l i k p2)]),nu 48 (k+1:Nat)],1000,⟨hlt,hp2⟩,by dsimp only;omega,?_⟩
  clear hp2 hb hB hA
  refine Eq.mp (by kernel_rfl:(let z0:=An [Sm l.length,Sm (ut l)];let z1:=(↑k:Int);An [decide (z1<(↑l.length:Int))=true,An [An [z0,Sm (↑i:Int),Sm (↑p:Int),Sm z1,(↑(0:Nat):Int)=(0:Int),Tt],Tt],Sat Pg none 0 (at' 67 [1,1,1,0,1,0,0,1,0,0,1,0,1,0,0,1,0,0,1,0]) (mkSt g0 67 (rgJ l i k 0 p)) (Qaf g0 67 [(True,Ex.exit 6,rgK l i k p2)]),(True→An [wr .i64 (z1+(1:Int))=(↑(k+1):Int),An [z0,Sm (↑i:Int),Sm (↑p2:Int),Sm (↑(k+1):Int),Tt],Tt]),Tt])=_) ?_
  exact au
 ·have : k = n := by omega
  subst this
  obtain rfl:=Qd1 hb hB
  refine .inr ⟨.exit 4,[],rgI l i p,[no 46],1000,.inl ⟨trivial,rfl,rfl⟩,?_⟩
  clear hb hB hA
  refine Eq.mp (by kernel_rfl:(An [decide ((↑k:Int)<(↑l.length:Int))=false,An [An [Sm l.length,Sm (ut l)],Sm (↑i:Int),Sm (↑p:Int),Tt],Tt])=_) ?_
  exact au
theorem rg_i(l:List Nat)(n:Nat)(hl:l.length=n)(hn:n≤6)(h64:S64 l):
  Sat Pg none 0 (at' 67 [1,1,1,0,1,0]) (mkSt g0 67 {sl:=[(0,ul l),(6,i6 (0:Nat))]}) (Qaf g0 67 [(GG.acyclic n (relL l)=true,.exit 2,{sl:=[]}),(GG.acyclic n (relL l)=false,.ret,bR4 false)]):=by
 refine Qa2 vE_ok mixed Qab (b:=at' 67 [1,1,1,0,1,0,0]) (by kernel_rfl) (fun k:Nat=>k≤n∧∀j,j<k→(!GG.clo n (relL l) j n j)=true) (fun k:Nat=>{sl:=[(0,ul l),(6,i6 k)]}) (fun k=>n-k) (fun k hk=>?_) 0 ⟨Nat.zero_le _,fun j h=>absurd h (Nat.not_lt_zero _)⟩
 obtain⟨hk,hj⟩:=hk
 by_cases hlt:k<n
 ·have hld := @Qbm l k (by omega)
  have hA:Bits (l.getD k 0) (GG.clo n (relL l) k 0):=⟨h64.get k,fun u=>rfl⟩
  obtain⟨B,hB,_⟩:=Qic (n:=64) (Q:=GG.clo n (relL l) k n) (Nat.le_refl _) (Qq6 h64 k n)
  have hin:=rg_k l n hl hn h64 k _ B hA hB
  have hset:=in_set B k (by omega)
  rw[hB.2]at hset
  generalize l.getD k 0=s at*
  cases hc:GG.clo n (relL l) k n k with
  |true=>
   rw[hc]at hset
   have hall:GG.acyclic n (relL l)=false:=Qbc (p:=fun i=> !GG.clo n (relL l) i n i) hlt (by rw[hc];rfl)
   refine .inr ⟨.ret,[],bR4 false,[yes 36,pl 41,ld 42 (u6 s),(0,.loop [] (rgK l k 0 s) [(True,.exit 4,rgI l k B)]),fn 66 (.bool true)],1000,.inr (.inl ⟨hall,rfl,rfl⟩),?_⟩
   clear hall hA hB hj hc
   refine Eq.mp (by kernel_rfl:(let z0:=(↑k:Int);An [decide (z0<(↑l.length:Int))=true,An [(0:Int)≤z0,z0<(↑l.length:Int)],headF (List.drop (k*1) (ut l))=some (u6 ↑s),An [An [An [Sm l.length,Sm (ut l)],z0=z0,Sm (↑s:Int),(↑(0:Nat):Int)=(0:Int),Tt],Tt],Sat Pg none 0 (at' 67 [1,1,1,0,1,0,0,1,0,0,1,0,1,0]) (mkSt g0 67 (rgK l k 0 s)) (Qaf g0 67 [(True,Ex.exit 4,rgI l k B)]),(True→An [TT 2,FnOk Pg g0 77 [u6 ↑B,i6 ↑k] (V.bool true),Tt,An [Sm false,Tt],Tt]),Tt])=_) ?_
   exact au
  | false =>
   rw[hc]at hset
   refine .inl ⟨k+1,[],[yes 36,pl 41,ld 42 (u6 s),(0,.loop [] (rgK l k 0 s) [(True,.exit 4,rgI l k B)]),fn 66 (.bool false),nu 38 (k+1:Nat)],1000,⟨hlt,fun j hj1=>?_⟩,by omega,?_⟩
   ·rcases Nat.lt_succ_iff_lt_or_eq.1 hj1 with h2 | h2
    ·exact hj j h2
    ·subst h2;rw[hc];rfl
   ·clear hA hB hj hc
    refine Eq.mp (by kernel_rfl:(let z2:=An [Sm l.length,Sm (ut l)];let z0:=(↑k:Int);let z1:=(↑(k+1):Int);An [decide (z0<(↑l.length:Int))=true,An [(0:Int)≤z0,z0<(↑l.length:Int)],headF (List.drop (k*1) (ut l))=some (u6 ↑s),An [An [z2,z0=z0,Sm (↑s:Int),(↑(0:Nat):Int)=(0:Int),Tt],Tt],Sat Pg none 0 (at' 67 [1,1,1,0,1,0,0,1,0,0,1,0,1,0]) (mkSt g0 67 (rgK l k 0 s)) (Qaf g0 67 [(True,Ex.exit 4,rgI l k B)]),(True→An [TT 2,FnOk Pg g0 77 [u6 ↑B,i6 ↑k] (V.bool false),Tt,wr .i64 (z0+(1:Int))=z1,An [z2,z1=z1,Tt],Tt]),Tt])=_) ?_
    exact au
 ·have : k = n := by omega
  subst this
  have hall:GG.acyclic k (relL l)=true:=GG.all_range.2 hj
  refine .inr ⟨.exit 2,[],{sl:=[]},[no 36],1000,.inl ⟨hall,rfl,rfl⟩,?_⟩
  clear hj hall
  refine Eq.mp (by kernel_rfl:(An [decide ((↑k:Int)<(↑l.length:Int))=false,Tt,Tt])=_) ?_
  exact au
def Qkq(l:List Nat):Bool:=decide (1≤l.length)&&(decide (l.length≤6)&&((List.range l.length).all (fun u=> !outL l l.length u)&&GG.acyclic l.length (relL l)))
def fitsB(n:Nat)(l:List Nat):Bool:=decide (l.length=n)&&Qkq l
theorem Qkk(n:Nat)(l:List Nat)(h1:1≤n)(h6:n≤6):(decide (l.length=n)&&GG.placedAll n (relL l) (outL l n))=fitsB n l:=by
 unfold fitsB Qkq
 by_cases hl:l.length=n
 ·rw [decide_eq_true hl, hl, decide_eq_true h1, decide_eq_true h6, Bool.true_and, Bool.true_and, Bool.true_and, Bool.true_and]
  exact GG.graph_same (fun u _ ho p hp=>out_in ho p hp)
 ·rw[decide_eq_false hl,Bool.false_and,Bool.false_and]
theorem Qt1{α:Type}{f:α→Int}{b:Int}: ∀l:List α,(∀x∈l,-b≤f x∧f x≤b)→ -(b*(l.length:Int))≤sumI (l.map f)∧sumI (l.map f)≤b*(l.length:Int)
 |[],_=>by simp[sumI]
 | x :: l, h => by
  have h1:=Qt1 l (fun y hy=>h y (List.mem_cons_of_mem _ hy))
  have h2:=h x List.mem_cons_self
  have e:b*(((x::l).length:Nat):Int)=b*(l.length:Int)+b:=by
   rw[List.length_cons,Int.natCast_add,Int.mul_add];simp
  rw[List.map_cons,sumI,e];omega
theorem rows_bdA{P:List (Nat×Nat)}{r:Nat}(hP: ∀p∈P,p.2<r)(h40:P.length≤40)(hr1:1≤r)(hr4:r≤4){i:Nat}(hi:i<18)(j:Nat): -250≤conF facF r (rowL P r j) i∧conF facF r (rowL P r j) i≤250:=by
 have h1:=Qdf (r:=r) P j hP
 have h2:=Qcj P r j
 have h3:=Qln fac_ok hi (rowL P r j) (fun c hc=>by have:=Qde hc;omega)
 have h5:=fac_ok.bd (r-1) i (by omega) hi
 have h6:=fac_ok.bd (sumN (rowL P r j)+(r-1)) i (by omega) hi
 unfold conF;omega
theorem fam_bd{cards:List Nat}{cs:List (List Nat)}{v ps:Nat}(hc:CardsOk cards)(hcs: ∀c∈cs,CaseOk cards c)(hv:v<cards.length)(hm:cs.length≤40){i:Nat}(hi:i<18): -10000≤famF cards cs v ps i∧famF cards cs v ps i≤10000:=by
 have hpo:=Qiy (ps:=ps) hc hcs hv
 have hr:=hc.each v hv
 have hlt:=fun p hp=>(hpo p hp).2
 have hel:=Qdp hlt
 have hpl:(Qav cards v ps cs).length≤40:=by simpa [Qav]using hm
 have hE:=Qbt _ hlt
 unfold famF
 rw[←Qdq (Qik i hi) hpo]
 have:=Qt1 (f:=fun e=>conF facF (cards.getD v 0) e.2 i) (b:=250) (Qan (cards.getD v 0) (Qav cards v ps cs)) (fun e he=>by
  rw[hE.row e he]
  exact rows_bdA hlt hpl (by omega) hr.2 hi e.1)
 omega
def graF(cards:List Nat)(cs:List (List Nat))(l:List Nat):Nat→Nat→Int
 |0=>Qaj
 |k+1=>addA (graF cards cs l k) (famF cards cs k (l.getD k 0)) 1
theorem gra_bd{cards:List Nat}{cs:List (List Nat)}{l:List Nat}(hc:CardsOk cards)(hcs: ∀c∈cs,CaseOk cards c)(hm:cs.length≤40){i:Nat}(hi:i<18): ∀k:Nat,k≤cards.length→ -(10000*(k:Int))≤graF cards cs l k i∧graF cards cs l k i≤10000*(k:Int)
 |0,_=>by simp[graF,Qaj]
 |k+1,hk=>by
  have h1:=gra_bd (l:=l) hc hcs hm hi k (by omega)
  have h2:=fam_bd (ps:=l.getD k 0) hc hcs (show k<cards.length by omega) hm hi
  have e:graF cards cs l (k+1) i=graF cards cs l k i+1*famF cards cs k (l.getD k 0) i:=rfl
  rw[e];omega
abbrev grO(cards:List Nat)(cs:List (List Nat))(f:Nat→Int):List O:=[dO cards cs,.row 41 none (arF Qaj),.row 41 none (arF f)]
abbrev sgS(cards:List Nat)(cs:List (List Nat))(l:List Nat)(F:Nat→Nat→Int)(k:Nat):SL:={sl:=[(2,.ptr 0 0),(4,.ptr 1 0),(7,.ptr 2 0),(23,ul l),(24,i6 l.length),(25,i6 k)],os:=grO cards cs (F k)}
abbrev sgX(f:Nat→Int):SL:={sl:=[(4,.ptr 0 0),(7,.ptr 1 0)],os:=[.row 41 none (arF Qaj),.row 41 none (arF f)]}
theorem sg_loop(cards:List Nat)(cs:List (List Nat))(l:List Nat)(hc:CardsOk cards)(hcs: ∀c∈cs,CaseOk cards c)(hm:cs.length≤40)(hl:l.length=cards.length):
  Sat Pg none 0 (at' 28 [1,1,1,1,0,1,0]) (mkSt g0 38 (sgS cards cs l (graF cards cs l) 0)) (Qaf g0 38 [(True,.exit 0,sgX (graF cards cs l l.length))]):=by
 have hstep: ∀k,graF cards cs l (k+1)=addA (graF cards cs l k) (famF cards cs k (l.getD k 0)) 1:=fun _=>rfl
 have hbd:=fun i(hi:i<18) k hk=>gra_bd (l:=l) hc hcs hm hi k hk
 generalize graF cards cs l=F at*
 refine Qa2 vE_ok mixed Qab (b:=at' 28 [1,1,1,1,0,1,0,0]) (by kernel_rfl) (fun k=>k≤l.length) (sgS cards cs l F) (fun k=>l.length-k) (fun k hk=>?_) 0 (Nat.zero_le _)
 by_cases hlt:k<l.length
 ·have hld := @Qbm l k hlt
  have hf:=Qki cards cs k (l.getD k 0) hc hcs (by omega) hm
  have h6:=hc.six
  have hcm:=comb (F k) (famF cards cs k (l.getD k 0)) 1 (fun i hi=>by
   have:=hbd i hi k (by omega)
   omega) (fun i hi=>by
   have:=fam_bd (ps:=l.getD k 0) hc hcs (show k<cards.length by omega) hm hi
   omega)
  refine .inl ⟨k+1,[0,1,2],[yes 26,pl 28,ld 29 (u6 (l.getD k 0:Nat)),fn 34 (ar (famF cards cs k (l.getD k 0))),fn 35 (ar (F (k+1))),nu 36 (k+1:Nat)],1000,hlt,by omega,?_⟩
  rw[←hstep]at hcm
  clear hstep hbd
  generalize famF cards cs k (l.getD k 0)=f3 at*
  generalize l.getD k 0=s at*
  refine Eq.mp (by kernel_rfl:(let z0:=ofOs T.e 0 (grO cards cs (F k));let z1:=(↑l.length:Int);let z2:=(↑(k+1):Int);let z3:=(↑k:Int);let z4:=[nl cards,cV cs];let z5:=F (k+1);An [decide (z3<z1)=true,An [(0:Int)≤z3,z3<z1],headF (List.drop (k*1) (ut l))=some (u6 ↑s),An [TT 2,TT 2],FnOk Pg g0 73 [V.agg [V.im cards.length (nt cards),V.im cs.length (List.map nl cs)],i6 ↑k,u6 ↑s] (ar f3),Tt,An [TT 18,TT 18,Tt,Tt],FnOk Pg g0 79 [V.agg (arF (F k)),V.agg (arF f3),i6 1] (ar z5),An [(V.fn 73 []=V.fn 79 []→[V.agg z4,i6 ↑k,u6 ↑s]=[V.agg (arF (F k)),ar f3,i6 1]→z0=z0→3=3→CR.mk (ar f3) z0 3 []=CR.mk (ar z5) z0 3 []),Tt],wr .i64 (z3+(1:Int))=z2,An [Zz,Zz,Zz,An [Sm l.length,Sm (ut l)],z1=z1,z2=z2,Tt],An [z4=z4,TT 2],An [Sm (arF Qaj),TT 18],An [Sm (arF z5),TT 18],Tt])=_) ?_
  exact au
 ·have : k = l.length := by omega
  subst this
  clear hstep hbd
  refine .inr ⟨.exit 0,[1,2],sgX (F l.length),[no 26],1000,.inl ⟨trivial,rfl,rfl⟩,?_⟩
  refine Eq.mp (by kernel_rfl:(An [decide ((↑l.length:Int)<(↑l.length:Int))=false,An [Zz,Zz,Tt],An [Sm (arF Qaj),TT 18],An [Sm (arF (F l.length)),TT 18],Tt])=_) ?_
  exact au
theorem fits_out{n:Nat}{l:List Nat}(h:fitsB n l=true):l.length=n∧∀k,l.getD k 0<2^n:=by
 unfold fitsB Qkq at h
 simp only[Bool.and_eq_true,decide_eq_true_eq]at h
 obtain⟨hl,h1,h2,h3,h4⟩:=h
 refine⟨hl,fun k=>?_⟩
 by_cases hk:k<l.length
 ·have := GG.all_range.1 h3 k hk
  unfold outL at this
  rw[hl]at this
  have h0:l.getD k 0/2^n=0:=by simpa using this
  rcases Nat.lt_or_ge (l.getD k 0) (2^n)with h'|h'
  ·exact h'
  ·have:=Nat.div_pos h' (Nat.two_pow_pos _);omega
 ·rw [List.getD_eq_getElem?_getD, List.getElem?_eq_none (by omega)]
  exact Nat.two_pow_pos _
def graG(cards:List Int)(cs:List (List Int))(l:List Nat):Nat→Int:=graF (toN cards) (cs.map toN) l l.length
abbrev gpS(f:Nat→Int)(e:Int):SL:={sl:=[(4,.ptr 0 0),(5,i6 e)],os:=[.row 41 none (arF f)]}
theorem sgra_arg(cards:List Int)(cs:List (List Int))(l:List Nat)(hl1:cards.length≤6)(hl2:cs.length≤1000)(hcl: ∀c∈cs,c.length≤1000)(h64:S64 l)(h:goodE cards cs=0)(hf:fitsB cards.length l=false):FnOk Pg g0 28 [gV cards cs,ul l] (.tup [ar Qaj,i6 2]):=by
 have h1:=Qbq cards cs (by omega) hl2 hcl
 have hw:=Qfc h
 have hpos:=hw.cok.pos
 rw[Qar]at hpos
 rw[h]at h1
 have h2:=Qhr l cards.length hl1 h64
 rw[Qkk _ l hpos hl1,hf]at h2
 refine FnOk.of_vc vE_ok mixed Qab (n:=1000) (r:=[1]) (S:=gpS Qaj 2) (hs:=[fn 11 (i6 0),no 13,fn 20 (.bool false)]) ?_
 refine Eq.mp (by kernel_rfl:(An [V.tup [V.agg (arF Qaj),i6 2]=V.tup [ar Qaj,i6 2],An [TT 2,Tt],FnOk Pg g0 72 [V.agg [V.im cards.length (ints cards),V.im cs.length (List.map sl cs)]] (i6 0),Tt,((0:Int) != (0:Int))=false,TT 2,FnOk Pg g0 78 [V.im l.length (ut l),i6 ↑cards.length] (V.bool false),Tt,An [Zz,Sm (2:Int),Tt],An [arF Qaj=[i6 0,i6 0,i6 0,i6 0,i6 0,i6 0,i6 0,i6 0,i6 0,i6 0,i6 0,i6 0,i6 0,i6 0,i6 0,i6 0,i6 0,i6 0],TT 18],Tt])=_) ?_
 exact au
theorem Qtq(cards:List Int)(cs:List (List Int))(l:List Nat)(hl1:cards.length≤6)(hl2:cs.length≤1000)(hcl: ∀c∈cs,c.length≤1000)(h64:S64 l)(h:goodE cards cs=0)(hf:fitsB cards.length l=true):FnOk Pg g0 28 [gV cards cs,ul l] (.tup [ar (graG cards cs l),i6 0]):=by
 have h1:=Qbq cards cs (by omega) hl2 hcl
 have hw:=Qfc h
 have hpos:=hw.cok.pos
 rw[Qar]at hpos
 rw[h]at h1
 have h2:=Qhr l cards.length hl1 h64
 rw[Qkk _ l hpos hl1,hf]at h2
 have f1:=(fits_out hf).1
 have lo_:=sg_loop (toN cards) (cs.map toN) l hw.cok hw.rok (by rw[List.length_map];exact hw.len) (by rw[Qar];exact f1)
 unfold graG
 rw[hw.eq]at h1⊢
 rw[←Qar cards]at h2
 have h0:arF (graF (toN cards) (cs.map toN) l 0)=arF Qaj:=rfl
 generalize graF (toN cards) (cs.map toN) l=F at*
 clear h hf
 generalize toN cards=cards at*
 generalize cs.map toN=cs at*
 refine FnOk.of_vc vE_ok mixed Qab (n:=1000) (r:=[0]) (S:=gpS (F l.length) 0) (hs:=[fn 11 (i6 0),no 13,fn 20 (.bool true),(0,.loop [0,1,2] (sgS cards cs l F 0) [(True,.exit 0,sgX (F l.length))])]) ?_
 refine Eq.mp (by kernel_rfl:(let z0:=[i6 0,i6 0,i6 0,i6 0,i6 0,i6 0,i6 0,i6 0,i6 0,i6 0,i6 0,i6 0,i6 0,i6 0,i6 0,i6 0,i6 0,i6 0];let z1:=F l.length;let z2:=(0:Int);An [V.tup [V.agg (arF z1),i6 0]=V.tup [ar z1,i6 0],An [TT 2,Tt],FnOk Pg g0 72 [V.agg [V.im cards.length (nt cards),V.im cs.length (List.map nl cs)]] (i6 0),Tt,(z2 != z2)=false,TT 2,FnOk Pg g0 78 [V.im l.length (ut l),i6 ↑cards.length] (V.bool true),Tt,An [An [Zz,Zz,Zz,An [Sm l.length,Sm (ut l)],Sm (↑l.length:Int),(↑(0:Nat):Int)=z2,Tt],An [Sm [nl cards,cV cs],TT 2],An [arF Qaj=z0,TT 18],An [arF (F 0)=z0,TT 18],Tt],Sat Pg none 0 (at' 28 [1,1,1,1,0,1,0]) (mkSt g0 38 (sgS cards cs l F 0)) (Qaf g0 38 [(True,Ex.exit 0,sgX z1)]),(True→An [An [Zz,z2=z2,Tt],An [Sm (arF z1),TT 18],Tt]),Tt])=_) ?_
 exact au
theorem Qte{n:Nat}{G:List Nat}(h1:1≤n)(h6:n≤6)(hG:G.length=n)(r:Nat→Nat)(hr: ∀u,u<n→∀p,relL G u p=true→p<n∧r p<r u):fitsB n G=true:=by
 unfold fitsB Qkq
 rw[hG]
 simp only[decide_true,Bool.true_and]
 rw[decide_eq_true h1,decide_eq_true h6,Bool.true_and,Bool.true_and,Bool.and_eq_true]
 refine⟨GG.all_range.2 fun u hu=>?_,GG.all_range.2 fun i hi=>?_⟩
 ·rw[in_out fun p hp=>(hr u hu p hp).1];rfl
 ·cases hc : GG.clo n (relL G) i n i with
  |false=>rfl
  |true=>have:=(GG.clo_below hr hi n i hc).2;omega
theorem Qe7{f:Nat→Nat}{n k:Nat}(h:k<n):((List.range n).map f).getD k 0=f k:=by
 rw[List.getD_eq_getElem?_getD,List.getElem?_eq_getElem (by simpa using h)];simp
theorem Qr6{f:Nat→Int}{n k:Nat}(h:k<n):((List.range n).map f).getD k 0=f k:=by
 rw[List.getD_eq_getElem?_getD,List.getElem?_eq_getElem (by simpa using h)];simp
theorem bit_lt{s n p:Nat}(h:s<2^n)(hb:s.testBit p=true):p<n:=by
 rcases Nat.lt_or_ge p n with h'|h'
 ·exact h'
 ·rw[Nat.testBit_lt_two_pow (Nat.lt_of_lt_of_le h (Nat.pow_le_pow_right (by decide) h'))]at hb;cases hb
theorem Qdc{n:Nat}{g r:Nat→Nat}(h1:1≤n)(h6:n≤6)(hg:Qjn n g r):fitsB n ((List.range n).map g)=true:=
 Qte h1 h6 (by simp) r fun u hu p hp=>by
  unfold relL at hp
  rw[Qe7 hu]at hp
  have hpn:=bit_lt (hg u hu).1 hp
  exact⟨hpn,(hg u hu).2 p hpn hp⟩
theorem gra_sc{cards:List Int}{cs:List (List Int)}{l:List Nat}(hl:l.length=cards.length)(hn:cards.length≤5):graG cards cs l=scG (fF cards cs) (fun v=>l.getD v 0) (2^cards.length-1) cards.length:=by
 have key: ∀k,k≤cards.length→graF (toN cards) (cs.map toN) l k=scG (fF cards cs) (fun v=>l.getD v 0) (2^cards.length-1) k:=by
  intro k
  induction k with
  |zero=>intro _;rfl
  | succ k ih =>
   intro hk
   rw[graF,scG,Qe6 _ hn k (by omega),decide_eq_true (show k<cards.length by omega),if_pos rfl,ih (by omega)]
   have:fF cards cs k (l.getD k 0)=famF (toN cards) (cs.map toN) k (l.getD k 0):=by
    unfold fF famG
    rw[if_pos (by omega)];rfl
   rw[this]
 unfold graG
 rw[hl]
 exact key _ (Nat.le_refl _)
theorem Qr8{cards:List Int}{cs:List (List Int)}{g:Nat→Nat}(hn:cards.length≤5):graG cards cs ((List.range cards.length).map g)=scG (fF cards cs) g (2^cards.length-1) cards.length:=by
 rw[gra_sc (by simp) hn]
 exact Qeh _ (fun _ _=>rfl) fun v hv _=>Qe7 hv
theorem Qt4(n lim:Nat)(F:Nat→Nat→Nat→Int):topB n lim F 0=Qaj:=by
 unfold topB
 rw[Qmw (fun v _=>Nat.zero_testBit v)];rfl
section
variable {n lim:Nat} {F:Nat→Nat→Nat→Int}
theorem sol_at(hF: ∀v p,inB (F v p) 160)(hn:n≤5){s:Nat}(h0:0<s)(hs:s<2^n):laT n lim F (2^n) s<n∧s.testBit (laT n lim F (2^n) s)=true∧okT lim s (laT n lim F (2^n) s) (paT n lim F (2^n) s)=true∧topB n lim F s=addA (topB n lim F (s-2^laT n lim F (2^n) s)) (F (laT n lim F (2^n) s) (paT n lim F (2^n) s)) 1:=by
 obtain⟨v,p,h1,h2,h3,h4,h5⟩:=top_is (lim:=lim) hF hn hs h0
 have e1:laT n lim F (2^n) s=v:=by rw[la_at _ _ _ _ _ hs,h4];rfl
 have e2:paT n lim F (2^n) s=p:=by rw[pa_at _ _ _ _ _ hs,h4];rfl
 rw[e1,e2]
 exact⟨h1,h2,h3,h5⟩
def mkL(la:Nat→Nat)(n:Nat):List Int:=(List.range (2^n)).map fun s=>((la s:Nat):Int)
def mkP(pa:Nat→Nat)(n:Nat):List Nat:=(List.range (2^n)).map pa
theorem mk_l{la:Nat→Nat}{s:Nat}(hs:s<2^n):(mkL la n).getD s 0=((la s:Nat):Int):=Qr6 hs
theorem mk_p{pa:Nat→Nat}{s:Nat}(hs:s<2^n):(mkP pa n).getD s 0=pa s:=Qe7 hs
theorem mk_la{la:Nat→Nat}{s:Nat}(hs:s<2^n):laL (mkL la n) s=la s:=by unfold laL;rw[mk_l hs];rfl
theorem mk_pa{pa:Nat→Nat}{s:Nat}(hs:s<2^n):paL (mkP pa n) s=pa s:=mk_p hs
theorem Qsv(la pa:Nat→Nat)(h1:1≤n)(hn:n≤5):wdt (mkL la n) (mkP pa n)=n:=
 (Qel _ _).2.2 n h1 hn (Qcr.2 ⟨by simp[mkL],by simp[mkP]⟩)
theorem mk_lad{la pa:Nat→Nat}(h1:1≤n)(hn:n≤5)(hl0:la 0=0)(hp0:pa 0=0)(h: ∀s,0<s→s<2^n→la s<n∧s.testBit (la s)=true∧pa s&&& (s-2^la s)=pa s):ladB (mkL la n) (mkP pa n)=true:=by
 have hp:0<2^n:=Nat.pow_pos (by decide)
 have h32:=Qaq hn
 unfold ladB
 rw[Qsv la pa h1 hn,decide_eq_true h1,Bool.true_and,Bool.and_eq_true]
 constructor
 ·unfold ok0
  rw[mk_l hp,mk_p hp,hl0,hp0]
  rfl
 ·refine all_range.2 fun s hs => ?_
  have hs':s<2^n:=by simpa [mkL]using hs
  rcases Nat.eq_zero_or_pos s with h0|h0
  ·rw[decide_eq_true h0];rfl
  ·obtain ⟨a, b, c⟩ := h s h0 hs'
   rw[Bool.or_eq_true]
   right
   unfold okS
   rw[mk_l hs',mk_p hs',Int.toNat_natCast]
   rw[decide_eq_true (by omega),decide_eq_true (by omega),b,decide_eq_true c]
   rfl
theorem mk_ok{la pa:Nat→Nat}(h1:1≤n)(hn:n≤5)(hl0:la 0=0)(hp0:pa 0=0)(h: ∀s,0<s→s<2^n→la s<n∧s.testBit (la s)=true∧pa s&&& (s-2^la s)=pa s):LdOk (mkL la n) (mkP pa n) n:=by
 have:=Qf6 (mk_lad h1 hn hl0 hp0 h)
 rwa [Qsv la pa h1 hn]at this
theorem Qsy(f:Nat→Nat): ∀n,nF f n=ints ((List.range n).map fun s=>((f s:Nat):Int))
 |0=>rfl
 |n+1=>by
  show blF _ (n+1)=_
  rw[Qa9,show blF (fun i=>[i6 (f i:Nat)]) n=ints ((List.range n).map fun s=>((f s:Nat):Int))from Qsy f n]
  unfold ints
  rw[List.range_succ,List.map_append,List.map_append];rfl
theorem mk_V(la pa:Nat→Nat)(n:Nat):ldV (2^n) la pa=lV (mkL la n) (mkP pa n):=by
 show V.agg [.im (2^n) (nF la (2^n)),.im (2^n) (uF pa (2^n))]=V.agg [.im (mkL la n).length (ints (mkL la n)),.im (mkP pa n).length (ut (mkP pa n))]
 rw[Qsy,uF_ut]
 unfold mkL mkP
 rw[List.length_map,List.length_map,List.length_range]
theorem mk_S64{pa:Nat→Nat}(h: ∀s,s<2^n→pa s<18446744073709551616):S64 (mkP pa n):=fun x hx=>by
 obtain⟨s,hs,rfl⟩:=List.mem_map.1 hx
 exact h s (List.mem_range.1 hs)
variable (n lim F)in
abbrev solL:List Int:=mkL (laT n lim F (2^n)) n
variable (n lim F)in
abbrev solP:List Nat:=mkP (paT n lim F (2^n)) n
theorem sol_0:laT n lim F (2^n) 0=0∧paT n lim F (2^n) 0=0:=by
 have hp:0<2^n:=Nat.pow_pos (by decide)
 rw[la_at _ _ _ _ _ hp,pa_at _ _ _ _ _ hp,Qmw (fun v _=>Nat.zero_testBit v)]
 exact⟨rfl,rfl⟩
theorem sol_pos(hF: ∀v p,inB (F v p) 160)(hn:n≤5): ∀s,0<s→s<2^n→laT n lim F (2^n) s<n∧s.testBit (laT n lim F (2^n) s)=true∧paT n lim F (2^n) s&&& (s-2^laT n lim F (2^n) s)=paT n lim F (2^n) s:=fun s h0 hs=>by
 have h32:=Qaq hn
 obtain⟨a,b,c,_⟩:=sol_at (lim:=lim) hF hn h0 hs
 have hps:=(Qbw.1 c).1
 have hp32:paT n lim F (2^n) s<32:=by
  rw[←hps];exact Nat.lt_of_le_of_lt Nat.and_le_right (by omega)
 exact⟨a,b,((Qdu (by omega) (by omega) b hp32).1 c).1⟩
def rgtB(n lim:Nat)(F:Nat→Nat→Nat→Int)(L:List Int)(P:List Nat):Bool:=(List.range (2^n)).all fun s=>decide (s=0)||(decide (popc (P.getD s 0)≤lim)&&eqA (addA (topB n lim F (s-2^laL L s)) (F (laL L s) (paL P s)) 1) (topB n lim F s))
theorem sol_rgt(hF: ∀v p,inB (F v p) 160)(hn:n≤5):rgtB n lim F (solL n lim F) (solP n lim F)=true:=by
 refine all_range.2 fun s hs=>?_
 rcases Nat.eq_zero_or_pos s with h0|h0
 ·rw[decide_eq_true h0];rfl
 ·obtain ⟨a, b, c, d⟩ := sol_at (lim := lim) hF hn h0 hs
  rw[Bool.or_eq_true]
  right
  rw[mk_p hs,mk_la hs,mk_pa hs,←d,Qn0,decide_eq_true (Qbw.1 c).2.2]
  rfl
theorem ladG_in{la pa:Nat→Nat}: ∀f s v,(∀t,0<t→t≤s→t.testBit (la t)=true)→ladG la pa f s v=0∨∃t,0<t∧t≤s∧ladG la pa f s v=pa t
 |0,_,_,_=>.inl rfl
 | f + 1, s, v, h => by
  rw[ladG]
  split
  ·exact .inl rfl
  ·rename_i h0
   split
   ·exact .inr ⟨s,by omega,Nat.le_refl _,rfl⟩
   ·have hsb := Nat.sub_le s (2 ^ la s)
    rcases ladG_in f (s-2^la s) v (fun t h1 h2=>h t h1 (Nat.le_trans h2 hsb))with h1|⟨t,h1,h2,h3⟩
    ·exact .inl h1
    ·exact .inr ⟨t,h1,Nat.le_trans h2 hsb,h3⟩
theorem Qoe{L:List Int}{P:List Nat}(h:LdOk L P n):Qjn n (gL L P n) (ladR (laL L) n (2^n-1)):=fun v hv=>by
 have h5:=h.w5
 have hp:0<2^n:=Nat.pow_pos (by decide)
 refine⟨Qsk h5 h.ok n _ v (by omega),fun p hp2 hb=>?_⟩
 exact(Qku h5 h.ok n _ (by omega) (by rw[Qee n h5];exact Nat.le_refl _) v hv (by rw[Qe6 n h5 v (by omega),decide_eq_true hv]) p hp2 hb).2
theorem Qkv{L:List Int}{P:List Nat}(h:LdOk L P n)(hr:rgtB n lim F L P=true): ∀i,i<18→scG F (gL L P n) (2^n-1) n i=topB n lim F (2^n-1) i:=by
 have h5:=h.w5
 have hp:0<2^n:=Nat.pow_pos (by decide)
 refine Qhs h5 h.ok (B:=topB n lim F) (fun i _=>by rw[Qt4];rfl) (fun s h0 hs i hi=>?_) n _ (by omega) (by rw[Qee n h5];exact Nat.le_refl _)
 have:=all_range.1 hr s hs
 rw[decide_eq_false (by omega),Bool.false_or,Bool.and_eq_true]at this
 have:=(Qer.1 this.2) i hi
 rw[←this,Qbu]
theorem lad_lim{L:List Int}{P:List Nat}(h:LdOk L P n)(hr:rgtB n lim F L P=true)(v:Nat):popc (gL L P n v)≤lim:=by
 have hp:0<2^n:=Nat.pow_pos (by decide)
 rcases ladG_in (la:=laL L) (pa:=paL P) n (2^n-1) v (fun t h1 h2=>(h.ok.at_ t h1 (by omega)).2.1)with e|⟨t,h1,h2,e⟩
 ·rw[show gL L P n v=0 from e];exact Nat.zero_le _
 ·rw [show gL L P n v = paL P t from e]
  have:=all_range.1 hr t (by omega)
  rw[decide_eq_false (by omega),Bool.false_or,Bool.and_eq_true]at this
  exact of_decide_eq_true this.1
theorem sc_top(hF: ∀v p,inB (F v p) 160)(h1:1≤n)(hn:n≤5){g r:Nat→Nat}(hg:Qjn n g r)(hl: ∀v,v<n→popc (g v)≤lim):nvF (scG F g (2^n-1) n)≤nvF (topB n lim F (2^n-1)):=by
 have hp:0<2^n:=Nat.pow_pos (by decide)
 exact sc_le hF hn hg hl n _ (by omega) (Qee n hn) fun v hv hb p hp hgp=>by rw[Qe6 n hn p (by omega),decide_eq_true hp]
theorem sol_ok(hF: ∀v p,inB (F v p) 160)(h1:1≤n)(hn:n≤5):LdOk (solL n lim F) (solP n lim F) n:=mk_ok h1 hn sol_0.1 sol_0.2 (sol_pos hF hn)
theorem sc_in(hF: ∀v p,inB (F v p) 160)(hn:n≤5)(g:Nat→Nat)(s:Nat):inB (scG F g s n) 800:=(Qoz hF g s n).mono (by omega)
theorem cmp_le{a b:Nat→Int}(ha:inB a 800)(hb:inB b 800)(h:nvF a≤nvF b):cmpF a b≤0:=by
 rw[Qdo (ha.mono (by decide)) (hb.mono (by decide))]
 exact Qtp.2 h
theorem cmp_zero{a b:Nat→Int}(ha:inB a 800)(hb:inB b 800)(h: ∀i,i<18→a i=b i):cmpF a b=0:=by
 rw[Qdo (ha.mono (by decide)) (hb.mono (by decide)),Qoo h]
 exact Qfb.2 rfl
end
def eqv:BSt→BSt→Prop
 |none,none=>True
 |some (v,p,x),some (v',p',y)=>v=v'∧p=p'∧∀i,i<18→x i=y i
 | _,_=>False
theorem Qpi{a b c d:Nat→Int}(h: ∀i,i<18→a i=b i)(k: ∀i,i<18→c i=d i):cmpF a c=cmpF b d:=by
 have e: ∀i,i<18→mixF a c (-1) 18 i=mixF b d (-1) 18 i:=fun i hi=>by
  rw[Qbn,Qbn,if_pos hi,if_pos hi,h i hi,k i hi]
 unfold cmpF
 rw[Qaz (e:=posF (mixF a c (-1) 18) 1) (f:=posF (mixF b d (-1) 18) 1) 18 (fun j hj=>by unfold posF;rw[e j hj]),Qaz (e:=posF (mixF a c (-1) 18) (-1)) (f:=posF (mixF b d (-1) 18) (-1)) 18 (fun j hj=>by unfold posF;rw[e j hj])]
theorem upT_eqv{b c:BSt}(h:eqv b c){v p:Nat}{x y:Nat→Int}(hx: ∀i,i<18→x i=y i):eqv (upT b v p x) (upT c v p y):=by
 rcases b with _|⟨v1,p1,x1⟩<;>rcases c with _|⟨v2,p2,x2⟩
 ·exact⟨rfl,rfl,hx⟩
 ·exact h.elim
 ·exact h.elim
 ·unfold upT
  dsimp only
  rw[Qpi hx h.2.2]
  split
  ·exact⟨rfl,rfl,hx⟩
  ·exact h
section
variable {n lim:Nat} {F G:Nat→Nat→Nat→Int}
theorem Qob{B C:Nat→Nat→Int}{s v:Nat}(h0:0<s)(hB: ∀t,t<s→∀i,i<18→B t i=C t i){b c:BSt}(h:eqv b c): ∀k,(∀p,p<k→∀i,i<18→F v p i=G v p i)→eqv (innB lim F B s v b k) (innB lim G C s v c k)
 |0,_=>h
 |k+1,hF=>by
  have ih:=Qob h0 hB h k fun p hp=>hF p (by omega)
  have hp:0<2^v:=Nat.pow_pos (by decide)
  unfold innB
  split
  ·exact upT_eqv ih fun i hi=>by unfold tryF;rw[Qbu,Qbu,hB _ (by omega) i hi,hF k (by omega) i hi]
  ·exact ih
theorem Qoq{B C:Nat→Nat→Int}{s:Nat}(hB: ∀t,t<s→∀i,i<18→B t i=C t i): ∀k,(∀v,v<k→∀p,p≤s→∀i,i<18→F v p i=G v p i)→eqv (outB lim F B s k) (outB lim G C s k)
 |0,_=>trivial
 | k + 1, hF => by
  have ih:=Qoq (s:=s) hB k fun v hv=>hF v (by omega)
  unfold outB
  split
  ·rename_i hb
   have h0:0<s:=by
    rcases Nat.eq_zero_or_pos s with h|h
    ·subst h;rw[Nat.zero_testBit]at hb;cases hb
    ·exact h
   exact Qob h0 hB ih _ fun p hp=>hF k (by omega) p (by omega)
  ·exact ih
theorem valO_eqv{b c:BSt}(h:eqv b c): ∀i,i<18→valO b i=valO c i:=by
 rcases b with _|⟨v1,p1,x1⟩<;>rcases c with _|⟨v2,p2,x2⟩
 ·intro i _;rfl
 ·exact h.elim
 ·exact h.elim
 ·exact h.2.2
theorem Qo4(T:Nat→Nat→Int)(N:Nat)(hF: ∀v,v<n→∀p,p<N→∀i,i<18→F v p i=G v p i)(h: ∀s,s<N→∀i,i<18→valO (outB lim G T s n) i=T s i): ∀s,s<N→eqv (stB n lim F s) (outB lim G T s n)∧∀i,i<18→topB n lim F s i=T s i:=by
 intro s
 induction s using Nat.strongRecOn with
 | _ s ih=>
  intro hs
  have e:eqv (stB n lim F s) (outB lim G T s n):=Qoq (fun t ht i hi=>by rw[Qcl,if_pos ht];exact(ih t ht (by omega)).2 i hi) n fun v hv p hp=>hF v hv p (by omega)
  exact⟨e,fun i hi=>(valO_eqv e i hi).trans (h s hs i hi)⟩
end
set_option maxHeartbeats 4000000
set_option maxRecDepth 100000
theorem Qq2(L:List Int)(P:List Nat)(cards:List Int)(cs:List (List Int))(F:Nat→Nat→Nat→Int)(size:Nat)(q:Nat→Nat×Nat)(B:Nat→Nat→Int)(la pa:Nat→Nat)(k lim:Nat)
  (h:CallSpec Pg g0 (.fn 88 []) [gV cards cs,i6 (lim:Int)] (ofOs .e 0 []) 0 ⟨cbV size,ofOs .e 0 (cbO cards cs F size q B la pa k),6,[]⟩):
  CallSpec Pg g0 (.fn 88 []) [gV cards cs,i6 (lim:Int)] (ofOs .e 0 [gO cards cs,lO L P]) 2 ⟨cbW size,ofOs .e 0 ([gO cards cs,lO L P]++cbD cards cs F size q B la pa k),8,[]⟩:=by
 have hB:=Qaa B size
 have hla:=Qah la size
 have hpa:=Qag pa size
 have hE:=Qac q (k+1)
 have hS:=Qaa (scF F q) (k+1)
 have hg:=Qas cs
 have hc:=Qae cards
 have hlo:=Qae L
 have hu:=Qa8 P
 refine CallSpec.frameL (OS:=[gO cards cs,_]) (OS':=[gO cards cs,_]++cbD cards cs F size q B la pa k) [] [(2,0),(3,1),(4,2),(5,3),(6,4),(7,5)] [] [0,0,0,0,1] h (by kernel_rfl) ?_ ?_ ?_ ?_
 ·refine Eq.mp (by kernel_rfl : (An [An [An [Sm cards.length, Sm (ints cards)], An [Sm cs.length, Sm (List.map sl cs)], Tt], Sm (↑lim : Int), Tt]) = _) ?_
  (repeat'(first|(with_reducible apply And.intro)|(refine fun(_:True)=>?_)))
  all_goals first|exact aq|exact hB|exact hS|exact hE|exact hla|exact hpa|exact hg|exact hc|exact hlo|exact hu|rfl|skip
 ·refine Eq.mp (by kernel_rfl : (Tt) = _) ?_
  (repeat'(first|(with_reducible apply And.intro)|(refine fun(_:True)=>?_)))
  all_goals first|exact aq|exact hB|exact hS|exact hE|exact hla|exact hpa|exact hg|exact hc|exact hlo|exact hu|rfl|skip
 ·refine Eq.mp (by kernel_rfl : (let z0 := An [Zz, Sm size, Sm (size - size)]; An [Zz, An [z0, z0, Tt], Sm (0 : Int), Tt]) = _) ?_
  (repeat'(first|(with_reducible apply And.intro)|(refine fun(_:True)=>?_)))
  all_goals first|exact aq|exact hB|exact hS|exact hE|exact hla|exact hpa|exact hg|exact hc|exact hlo|exact hu|rfl|skip
 ·refine Eq.mp (by kernel_rfl : (let z1 := bF (scF F q) (k + 1); let z2 := entM q (k + 1); let z3 := gO cards cs; let z0 := [z3, lO L P]; An [z0[0]? = some z3, z0[0]? = some z3, z0[1]? = some (lO L P), z0[1]? = some (lO L P), Tt, An [Sm (bF B size), HfL (bF B size)], Tt, An [z2 = z2, HfE z2, Sm (k + 1)], Tt, An [An [Sm cards.length, Sm (ints cards)], An [Sm cs.length, Sm (List.map sl cs)], An [Zz, Sm size, Sm (size - size)], Tt, An [Zz, Sm (k + 1), Tt], Tt], Tt, An [Sm (nF la size), HfL (nF la size)], Tt, An [Sm (uF pa size), HfL (uF pa size)], Tt, An [z1 = z1, HfL z1], Tt]) = _) ?_
  (repeat'(first|(with_reducible apply And.intro)|(refine fun(_:True)=>?_)))
  all_goals first|exact aq|exact hB|exact hS|exact hE|exact hla|exact hpa|exact hg|exact hc|exact hlo|exact hu|rfl|skip
section
variable (L:List Int) (P:List Nat) (cards:List Int) (cs:List (List Int)) (F:Nat→Nat→Nat→Int) (B:Nat→Nat→Int) (size:Nat) (q:Nat→Nat×Nat) (k:Nat)
abbrev rtO:List O:=[lO L P,.row 41 none (bF B size),.map (entM q (k+1)) (k+1),.row 158 none (toC cards cs size 1 2 4 (k+1)),.row 41 (some 18) (bF (scF F q) (k+1))]
abbrev rtO2:List O:=[lO L P,.row 41 none (bF B size),.map (entM q (k+1)) (k+1),.row 158 none (toC cards cs size 1 2 5 (k+1)),.dead,.row 41 (some 18) (bF (scF F q) (k+1))]
end
theorem rt_hit(L:List Int)(P:List Nat)(cards:List Int)(cs:List (List Int))(F:Nat→Nat→Nat→Int)(B:Nat→Nat→Int)(size:Nat)(q:Nat→Nat×Nat)(k s v p:Nat)(x:Nat→Int)
  (h:CallSpec Pg g0 (.fn 90 []) [.ptr 2 0,i6 (s:Nat),i6 (v:Nat),u6 (p:Nat)] (ofOs .e 0 (toO1 cards cs F B size q k)) 4 ⟨.tup [ar x,i6 0],ofOs .e 0 (toO1 cards cs F B size q k),4,[]⟩):
  CallSpec Pg g0 (.fn 90 []) [.ptr 3 0,i6 (s:Nat),i6 (v:Nat),u6 (p:Nat)] (ofOs .e 0 (rtO L P cards cs F B size q k)) 5 ⟨.tup [ar x,i6 0],ofOs .e 0 (rtO L P cards cs F B size q k),5,[]⟩:=by
 have hB:=Qaa B size
 have hE:=Qac q (k+1)
 have hS:=Qaa (scF F q) (k+1)
 have hg:=Qas cs
 have hc:=Qae cards
 have hlo:=Qae L
 have hu:=Qa8 P
 exact CallSpec.frameL (OS:=rtO L P cards cs F B size q k) (OS':=rtO L P cards cs F B size q k) [1,2,3,4] [(1,0),(2,1),(3,2),(4,3)] [0,0,1] [0,0,0,1] h (by kernel_rfl) (by
  refine Eq.mp (by kernel_rfl:(An [Zz,Sm (↑s:Int),Sm (↑v:Int),Sm (↑p:Int),Tt])=_) ?_
  (repeat'(first|(with_reducible apply And.intro)|(refine fun(_:True)=>?_)))<;>first|exact aq|skip) (by
  refine Eq.mp (by kernel_rfl:(let z0:=bF (scF F q) (k+1);let z1:=entM q (k+1);An [An [Sm (bF B size),HfL (bF B size)],An [z1=z1,HfE z1,Sm (k+1)],An [An [Sm cards.length,Sm (ints cards)],An [Sm cs.length,Sm (List.map sl cs)],An [Zz,Sm size,Sm (size-size)],Tt,An [Zz,Sm (k+1),Tt],Tt],An [z0=z0,HfL z0],Tt])=_) ?_
  (repeat'(first|(with_reducible apply And.intro)|(refine fun(_:True)=>?_)))
  all_goals first|exact aq|exact hB|exact hS|exact hE|exact hg|exact hc|exact hlo|exact hu|rfl|skip) (by
  refine Eq.mp (by kernel_rfl:(An [An [x 0=x 0,x 1=x 1,x 2=x 2,x 3=x 3,x 4=x 4,x 5=x 5,x 6=x 6,x 7=x 7,x 8=x 8,x 9=x 9,Sm (x 10),Sm (x 11),Sm (x 12),Sm (x 13),Sm (x 14),Sm (x 15),Sm (x 16),Sm (x 17),Tt],Sm (0:Int),Tt])=_) ?_
  (repeat'(first|(with_reducible apply And.intro)|(refine fun(_:True)=>?_)))<;>first|exact aq|skip) (by
  refine Eq.mp (by kernel_rfl:(let z0:=rtO L P cards cs F B size q k;let z1:=bF (scF F q) (k+1);let z2:=entM q (k+1);let z3:=bF B size;An [z0[0]? =some (lO L P),z0[0]? =some (lO L P),z0[1]? =some (O.row 41 none z3),An [z3=z3,HfL z3],z0[2]? =some (O.map z2 (k+1)),An [z2=z2,HfE z2,Sm (k+1)],z0[3]? =some (O.row 158 none (toC cards cs size 1 2 4 (k+1))),An [An [Sm cards.length,Sm (ints cards)],An [Sm cs.length,Sm (List.map sl cs)],An [Zz,Sm size,Sm (size-size)],Tt,An [Zz,Sm (k+1),Tt],Tt],z0[4]? =some (O.row 41 (some 18) z1),An [z1=z1,HfL z1],Tt])=_) ?_
  (repeat'(first|(with_reducible apply And.intro)|(refine fun(_:True)=>?_)))
  all_goals first|exact aq|exact hB|exact hS|exact hE|exact hg|exact hc|exact hlo|exact hu|rfl|skip)
theorem rt_miss(L:List Int)(P:List Nat)(cards:List Int)(cs:List (List Int))(F:Nat→Nat→Nat→Int)(B:Nat→Nat→Int)(size:Nat)(q q':Nat→Nat×Nat)(k s v p:Nat)(x:Nat→Int)
  (h:CallSpec Pg g0 (.fn 90 []) [.ptr 2 0,i6 (s:Nat),i6 (v:Nat),u6 (p:Nat)] (ofOs .e 0 (toO1 cards cs F B size q k)) 4 ⟨.tup [ar x,i6 0],ofOs .e 0 (toO2 cards cs F B size q' (k+1)),5,[1,2,3]⟩):
  CallSpec Pg g0 (.fn 90 []) [.ptr 3 0,i6 (s:Nat),i6 (v:Nat),u6 (p:Nat)] (ofOs .e 0 (rtO L P cards cs F B size q k)) 5 ⟨.tup [ar x,i6 0],ofOs .e 0 (rtO2 L P cards cs F B size q' (k+1)),6,[2,3,4]⟩:=by
 have hB:=Qaa B size
 have hE:=Qac q (k+1)
 have hS:=Qaa (scF F q) (k+1)
 have hE2:=Qac q' (k+1+1)
 have hS2:=Qaa (scF F q') (k+1+1)
 have hg:=Qas cs
 have hc:=Qae cards
 have hlo:=Qae L
 have hu:=Qa8 P
 exact CallSpec.frameL (OS:=rtO L P cards cs F B size q k) (OS':=rtO2 L P cards cs F B size q' (k+1)) [1,2,3,4] [(1,0),(2,1),(3,2),(4,3),(5,4)] [0,0,1] [0,0,0,1] h (by kernel_rfl) (by
  refine Eq.mp (by kernel_rfl:(An [Zz,Sm (↑s:Int),Sm (↑v:Int),Sm (↑p:Int),Tt])=_) ?_
  (repeat'(first|(with_reducible apply And.intro)|(refine fun(_:True)=>?_)))<;>first|exact aq|skip) (by
  refine Eq.mp (by kernel_rfl:(let z0:=bF (scF F q) (k+1);let z1:=entM q (k+1);An [An [Sm (bF B size),HfL (bF B size)],An [z1=z1,HfE z1,Sm (k+1)],An [An [Sm cards.length,Sm (ints cards)],An [Sm cs.length,Sm (List.map sl cs)],An [Zz,Sm size,Sm (size-size)],Tt,An [Zz,Sm (k+1),Tt],Tt],An [z0=z0,HfL z0],Tt])=_) ?_
  (repeat'(first|(with_reducible apply And.intro)|(refine fun(_:True)=>?_)))
  all_goals first|exact aq|exact hB|exact hS|exact hE|exact hS2|exact hE2|exact hg|exact hc|exact hlo|exact hu|rfl|skip) (by
  refine Eq.mp (by kernel_rfl:(An [An [x 0=x 0,x 1=x 1,x 2=x 2,x 3=x 3,x 4=x 4,x 5=x 5,x 6=x 6,x 7=x 7,x 8=x 8,x 9=x 9,Sm (x 10),Sm (x 11),Sm (x 12),Sm (x 13),Sm (x 14),Sm (x 15),Sm (x 16),Sm (x 17),Tt],Sm (0:Int),Tt])=_) ?_
  (repeat'(first|(with_reducible apply And.intro)|(refine fun(_:True)=>?_)))<;>first|exact aq|skip) (by
  refine Eq.mp (by kernel_rfl:(let z0:=rtO L P cards cs F B size q k;let z1:=bF (scF F q') (k+1+1);let z2:=entM q' (k+1+1);let z3:=bF B size;An [z0[0]? =some (lO L P),z0[0]? =some (lO L P),z0[1]? =some (O.row 41 none z3),An [z3=z3,HfL z3],Tt,An [z2=z2,HfE z2,Sm (k+1+1)],Tt,An [An [Sm cards.length,Sm (ints cards)],An [Sm cs.length,Sm (List.map sl cs)],An [Zz,Sm size,Sm (size-size)],Tt,An [Zz,Sm (Nat.succ k+1),Tt],Tt],Tt,Tt,Tt,An [z1=z1,HfL z1],Tt])=_) ?_
  (repeat'(first|(with_reducible apply And.intro)|(refine fun(_:True)=>?_)))
  all_goals first|exact aq|exact hB|exact hS|exact hE|exact hS2|exact hE2|exact hg|exact hc|exact hlo|exact hu|rfl|skip)
section
variable (L:List Int) (P:List Nat) (cards:List Int) (cs:List (List Int)) (F:Nat→Nat→Nat→Int) (B:Nat→Nat→Int) (size lim:Nat)
abbrev rrS(x:Nat×(Nat→Nat×Nat)×Nat):SL:={sl:=[(1,i6 (lim:Nat)),(5,.ptr 0 0),(8,.ptr 3 0),(37,i6 (size:Nat)),(38,i6 (x.1:Nat))],os:=rtO L P cards cs F B size x.2.1 x.2.2,md:=[0,0,0,1]}
end
abbrev rtR(b:Bool):SL:={sl:=[(6,.bool b),(7,i6 0)]}
def rgtS(lim:Nat)(F:Nat→Nat→Nat→Int)(B:Nat→Nat→Int)(L:List Int)(P:List Nat)(s:Nat):Bool:=decide (popc (P.getD s 0)≤lim)&&eqA (addA (B (s-2^laL L s)) (F (laL L s) (paL P s)) 1) (B s)
structure AskOk(cards:List Int)(cs:List (List Int))(F:Nat→Nat→Nat→Int)(B:Nat→Nat→Int)(s v p:Nat):Prop where
 add:FnOk Pg g0 34 [ar (B (s-2^v)),ar (F v p)] (.tup [ar (addA (B (s-2^v)) (F v p) 1),i6 0])
 fam:FnOk Pg g0 22 [gV cards cs,i6 (v:Nat),u6 (p:Nat)] (.tup [ar (F v p),i6 0])
theorem rt_loop(L:List Int)(P:List Nat)(hP:S64 P)(cards:List Int)(cs:List (List Int))(F:Nat→Nat→Nat→Int)(B:Nat→Nat→Int)(n size lim:Nat)(hsz:size=2^n)(h:LdOk L P n)
  (hask: ∀s,0<s→s<size→popc (paL P s)≤lim→AskOk cards cs F B s (laL L s) (paL P s))(q0:Nat→Nat×Nat)(k0:Nat)(hk0:k0≤100000)(b:Bool)(hb:b=(List.range size).all (fun s=>decide (s=0)||rgtS lim F B L P s)):
  Sat Pg none 0 (at' 42 [1,1,1,1,0,1,0]) (mkSt g0 80 (rrS L P cards cs F B size lim (0,q0,k0))) (Qaf g0 80 [(b=true,.exit 0,{sl:=[]}),(b=false,.ret,rtR false)]):=by
 have hB:=Qaa B size
 have hEE:=fun q k=>Qac q k
 have hSS:=fun q k=>Qaa (scF F q) k
 have hg:=Qas cs
 have hc:=Qae cards
 have hlo:=Qae L
 have hu:=Qa8 P
 have h5:=h.w5
 have h32:size≤32:=by rw[hsz];exact Qaq h5
 have e1:=h.lenL
 have e2:=h.lenP
 rw[←hsz]at e1 e2
 refine Qa2 vE_ok mixed Qab (b:=at' 42 [1,1,1,1,0,1,0,0]) (by kernel_rfl) (fun x=>x.1≤size∧x.2.2≤100000+x.1∧∀j,j<x.1→(decide (j=0)||rgtS lim F B L P j)=true) (rrS L P cards cs F B size lim) (fun x=>size-x.1) (fun x hx=>?_) (0,q0,k0) ⟨Nat.zero_le _,by dsimp only;omega,fun j hj=>absurd hj (Nat.not_lt_zero _)⟩
 obtain⟨s,q,k⟩:=x
 obtain⟨hs,hk,hj⟩:=hx
 dsimp only at hs hk hj
 have hE:=Qac q (k+1)
 have hS:=Qaa (scF F q) (k+1)
 by_cases hlt:s<size
 ·by_cases h0 : s = 0
  ·refine .inl ⟨(s + 1, q, k), [0, 1, 2, 3, 4], [yes 39, yes 42, nu 79 ((s + 1 : Nat) : Int)], 1000, ⟨hlt, by dsimp only; omega, fun j hj2 => by rw [decide_eq_true (show j = 0 by dsimp only at hj2; omega)]; rfl⟩, by dsimp only; omega, ?_⟩
   clear hj hb hask
   have hs0:((s:Int)==0)=true:=by rw[beq_iff_eq];omega
   refine Eq.mp (by kernel_rfl:(let z0:=bF (scF F q) (k+1);let z1:=(↑(s+1):Int);let z2:=(↑size:Int);let z3:=entM q (k+1);let z4:=(↑s:Int);An [decide (z4<z2)=true,(z4==(0:Int))=true,wr .i64 (z4+(1:Int))=z1,An [Sm (↑lim:Int),Zz,Zz,z2=z2,z1=z1,Tt],An [Sm [sl L,ul P],TT 2],An [Sm (bF B size),HfL (bF B size)],An [z3=z3,HfE z3,Sm (k+1)],An [An [Sm cards.length,Sm (ints cards)],An [Sm cs.length,Sm (List.map sl cs)],An [Zz,Sm size,Sm (size-size)],Tt,An [Zz,Sm (k+1),Tt],Tt],An [z0=z0,HfL z0],Tt])=_) ?_
   (repeat'(first|(with_reducible apply And.intro)|(refine fun(_:True)=>?_)))
   all_goals first|exact hB|exact hE|exact hS|exact hg|exact hc|exact hlo|exact hu|(with_reducible exact hs0)|exact aq|rfl|skip
  ·have hs0 : ((s : Int) == 0) = false := by rw [beq_eq_false_iff_ne]; omega
   obtain⟨a1,a2,a3⟩:=h.ok.at_ s (by omega) (by omega)
   have hld:=@Qau L s (by omega)
   rw[h.nn s (by omega) (by omega)]at hld
   have hlp:=@Qbm P s (by omega)
   have hpp:P.getD s 0<32:=by
    rw[show P.getD s 0=paL P s from rfl,←a3]
    exact Nat.lt_of_le_of_lt Nat.and_le_right (by have:=Nat.sub_le s (2^laL L s);omega)
   have hone:=Qiu (P.getD s 0) hpp
   have hbad:rgtS lim F B L P s=false→b=false:=fun hh=>by
    rw[hb];exact Qbc hlt (by rw[hh,decide_eq_false h0];rfl)
   have hgood:rgtS lim F B L P s=true→∀j,j<s+1→(decide (j=0)||rgtS lim F B L P j)=true:=fun hh j hj1=>by
    rcases Nat.lt_succ_iff_lt_or_eq.1 hj1 with h2|h2
    ·exact hj j h2
    ·subst h2;rw[hh,Bool.or_true]
   have hask:=hask s (by omega) hlt
   have hpow:2^laL L s≤s:=(Qbx s (by omega) _ (by omega) a2).1
   have s3:=fun G t=>@Qlh G t (laL L s) (by omega)
   have s4:=fun G t=>@Qqu G t s (laL L s) (by omega) (by omega) a2
   have htk:=@Qa3 B size s hlt
   unfold rgtS at hbad hgood
   unfold paL at hask hbad hgood
   by_cases hpc:popc (P.getD s 0)≤lim
   ·obtain ⟨hadd, hfam⟩ := hask hpc
    rw[decide_eq_true hpc,Bool.true_and]at hbad hgood
    clear hj hb
    generalize hv:laL L s=v at*
    generalize hpd:P.getD s 0=p at*
    clear hpd hv
    generalize hx:addA (B (s-2^v)) (F v p) 1=x at*
    have ht:s-2^v<size:=Nat.lt_of_le_of_lt (Nat.sub_le _ _) hlt
    generalize s-2^v=t at*
    generalize 2^v=bt at*
    have hpc':(lim:Int)<(popc p:Nat)↔False:=⟨fun hh=>by omega,False.elim⟩
    rcases find_entM q v p (k+1)with⟨j,hj1,hj2,hf⟩|⟨_,hf⟩
    ·have hcall := rt_hit L P cards cs F B size q k s v p x (Qos cards cs F B size q k s t v p bt j x hj1 hj2 hf ht s3 s4 hadd)
     clear hf hfam hadd
     cases hEq:eqA x (B s)with
     |true=>
      have hg2:=hgood hEq
      have hEqn:(!eqA x (B s))=false:=by rw[hEq];rfl
      unfold eqA at hEqn
      refine .inl ⟨(s+1,q,k),[0,1,2,3,4],[yes 39,no 42,pl 46,ld 47 (u6 (p:Nat)),fn 48 (i6 (popc p:Nat)),no 50,pl 57,ld 58 (i6 (v:Nat)),pl 62,ld 63 (u6 (p:Nat)),(64,.call ⟨.tup [ar x,i6 0],ofOs .e 0 (rtO L P cards cs F B size q k),5,[]⟩),pl 76,ld 77 (ar (B s)),no 78,nu 79 ((s+1:Nat):Int)],1000,⟨hlt,by dsimp only;omega,hg2⟩,by dsimp only;omega,?_⟩
      clear hgood hbad hg2 hask hx
      refine Eq.mp (by kernel_rfl:(let z0:=(↑s:Int);let z1:=ofOs T.e 0 (rtO L P cards cs F B size q k);let z2:=(↑size:Int);let z3:=bF (scF F q) (k+1);let z4:=(↑(s+1):Int);let z5:=headF (List.drop (s*1) (ut P));let z6:=(0:Int);let z7:=entM q (k+1);let z8:=bF B size;let z9:=(↑lim:Int);An [decide (z0<z2)=true,(z0==z6)=false,An [z6≤z0,z0<(↑P.length:Int)],z5=some (u6 ↑p),An [Tt,Tt],FnOk Pg g0 65 [u6 ↑p] (i6 ↑(popc p)),Tt,decide ((↑(popc p):Int)>z9)=false,An [z6≤z0,z0<(↑L.length:Int)],headF (List.drop (s*1) (ints L))=some (i6 ↑v),An [z6≤z0,z0<(↑P.length:Int)],z5=some (u6 ↑p),CallSpec Pg g0 (V.fn 90 []) [V.ptr 3 0,i6 ↑s,i6 ↑v,u6 ↑p] z1 5 (CR.mk (V.tup [ar x,i6 0]) z1 5 []),Tt,An [z6≤z0,z0<z2],takeE 18 (dropF (0+s*18) z8)=some (arF (B s)),(!(x 0==B s 0&&(x 1==B s 1&&(x 2==B s 2&&(x 3==B s 3&&(x 4==B s 4&&(x 5==B s 5&&(x 6==B s 6&&(x 7==B s 7&&(x 8==B s 8&&(x 9==B s 9&&(x 10==B s 10&&(x 11==B s 11&&(x 12==B s 12&&(x 13==B s 13&&(x 14==B s 14&&(x 15==B s 15&&(x 16==B s 16&&(x 17==B s 17&&true)))))))))))))))))))=false,wr .i64 (z0+(1:Int))=z4,An [z9=z9,Zz,Zz,z2=z2,z4=z4,Tt],An [Sm [sl L,ul P],TT 2],An [z8=z8,HfL z8],An [z7=z7,HfE z7,Sm (k+1)],An [An [Sm cards.length,Sm (ints cards)],An [Sm cs.length,Sm (List.map sl cs)],An [Zz,Sm size,Sm (size-size)],Tt,An [Zz,Sm (k+1),Tt],Tt],An [z3=z3,HfL z3],Tt])=_) ?_
      (repeat'(first|(with_reducible apply And.intro)|(refine fun(_:True)=>?_)))
      all_goals first|exact hcall|exact hone|(with_reducible exact hld)|(with_reducible exact hlp)|(with_reducible exact htk)|(rw[Nat.zero_add];with_reducible exact htk)|(with_reducible exact hEqn)|exact hB|exact hE|exact hS|exact hg|exact hc|exact hlo|exact hu|(with_reducible exact hs0)|exact aq|rfl|skip
     |false=>
      have hb2:=hbad hEq
      have hEqn:(!eqA x (B s))=true:=by rw[hEq];rfl
      unfold eqA at hEqn
      refine .inr ⟨.ret,[],rtR false,[yes 39,no 42,pl 46,ld 47 (u6 (p:Nat)),fn 48 (i6 (popc p:Nat)),no 50,pl 57,ld 58 (i6 (v:Nat)),pl 62,ld 63 (u6 (p:Nat)),(64,.call ⟨.tup [ar x,i6 0],ofOs .e 0 (rtO L P cards cs F B size q k),5,[]⟩),pl 76,ld 77 (ar (B s)),yes 78],1000,.inr (.inl ⟨hb2,rfl,rfl⟩),?_⟩
      clear hgood hbad hb2 hask hx
      refine Eq.mp (by kernel_rfl:(let z0:=(↑s:Int);let z1:=ofOs T.e 0 (rtO L P cards cs F B size q k);let z2:=(0:Int);let z3:=headF (List.drop (s*1) (ut P));An [decide (z0<(↑size:Int))=true,(z0==z2)=false,An [z2≤z0,z0<(↑P.length:Int)],z3=some (u6 ↑p),An [Tt,Tt],FnOk Pg g0 65 [u6 ↑p] (i6 ↑(popc p)),Tt,decide ((↑(popc p):Int)>(↑lim:Int))=false,An [z2≤z0,z0<(↑L.length:Int)],headF (List.drop (s*1) (ints L))=some (i6 ↑v),An [z2≤z0,z0<(↑P.length:Int)],z3=some (u6 ↑p),CallSpec Pg g0 (V.fn 90 []) [V.ptr 3 0,i6 ↑s,i6 ↑v,u6 ↑p] z1 5 (CR.mk (V.tup [ar x,i6 0]) z1 5 []),Tt,An [z2≤z0,z0<(↑size:Int)],takeE 18 (dropF (0+s*18) (bF B size))=some (arF (B s)),(!(x 0==B s 0&&(x 1==B s 1&&(x 2==B s 2&&(x 3==B s 3&&(x 4==B s 4&&(x 5==B s 5&&(x 6==B s 6&&(x 7==B s 7&&(x 8==B s 8&&(x 9==B s 9&&(x 10==B s 10&&(x 11==B s 11&&(x 12==B s 12&&(x 13==B s 13&&(x 14==B s 14&&(x 15==B s 15&&(x 16==B s 16&&(x 17==B s 17&&true)))))))))))))))))))=true,An [Sm false,z2=z2,Tt],Tt])=_) ?_
      (repeat'(first|(with_reducible apply And.intro)|(refine fun(_:True)=>?_)))
      all_goals first|exact hcall|exact hone|(with_reducible exact hld)|(with_reducible exact hlp)|(with_reducible exact htk)|(rw[Nat.zero_add];with_reducible exact htk)|(with_reducible exact hEqn)|exact hB|exact hE|exact hS|exact hg|exact hc|exact hlo|exact hu|(with_reducible exact hs0)|exact aq|rfl|skip
    ·have hcall := rt_miss L P cards cs F B size q _ k s v p x (Qhx cards cs F B size q k s t v p bt x (by omega) hf hfam ht s3 s4 hadd)
     have hE2:=Qac (upQ q (k+1) (v,p)) (k+1+1)
     have hS2:=Qaa (scF F (upQ q (k+1) (v,p))) (k+1+1)
     clear hf hfam hadd
     cases hEq:eqA x (B s)with
     |true=>
      have hg2:=hgood hEq
      have hEqn:(!eqA x (B s))=false:=by rw[hEq];rfl
      unfold eqA at hEqn
      refine .inl ⟨(s+1,upQ q (k+1) (v,p),k+1),[0,1,2,3,5],[yes 39,no 42,pl 46,ld 47 (u6 (p:Nat)),fn 48 (i6 (popc p:Nat)),no 50,pl 57,ld 58 (i6 (v:Nat)),pl 62,ld 63 (u6 (p:Nat)),(64,.call ⟨.tup [ar x,i6 0],ofOs .e 0 (rtO2 L P cards cs F B size (upQ q (k+1) (v,p)) (k+1)),6,[2,3,4]⟩),pl 76,ld 77 (ar (B s)),no 78,nu 79 ((s+1:Nat):Int)],1000,⟨hlt,by dsimp only;omega,hg2⟩,by dsimp only;omega,?_⟩
      clear hgood hbad hg2 hask hx
      generalize upQ q (k+1) (v,p)=q' at*
      refine Eq.mp (by kernel_rfl:(let z0:=(↑s:Int);let z1:=bF (scF F q') (k+1+1);let z2:=(↑size:Int);let z3:=entM q' (k+1+1);let z4:=(↑(s+1):Int);let z5:=headF (List.drop (s*1) (ut P));let z6:=(0:Int);let z7:=bF B size;let z8:=(↑lim:Int);An [decide (z0<z2)=true,(z0==z6)=false,An [z6≤z0,z0<(↑P.length:Int)],z5=some (u6 ↑p),An [Tt,Tt],FnOk Pg g0 65 [u6 ↑p] (i6 ↑(popc p)),Tt,decide ((↑(popc p):Int)>z8)=false,An [z6≤z0,z0<(↑L.length:Int)],headF (List.drop (s*1) (ints L))=some (i6 ↑v),An [z6≤z0,z0<(↑P.length:Int)],z5=some (u6 ↑p),CallSpec Pg g0 (V.fn 90 []) [V.ptr 3 0,i6 ↑s,i6 ↑v,u6 ↑p] (ofOs T.e 0 (rtO L P cards cs F B size q k)) 5 (CR.mk (V.tup [ar x,i6 0]) (ofOs T.e 0 (rtO2 L P cards cs F B size q' (k+1))) 6 [2,3,4]),Tt,An [z6≤z0,z0<z2],takeE 18 (dropF (0+s*18) z7)=some (arF (B s)),(!(x 0==B s 0&&(x 1==B s 1&&(x 2==B s 2&&(x 3==B s 3&&(x 4==B s 4&&(x 5==B s 5&&(x 6==B s 6&&(x 7==B s 7&&(x 8==B s 8&&(x 9==B s 9&&(x 10==B s 10&&(x 11==B s 11&&(x 12==B s 12&&(x 13==B s 13&&(x 14==B s 14&&(x 15==B s 15&&(x 16==B s 16&&(x 17==B s 17&&true)))))))))))))))))))=false,wr .i64 (z0+(1:Int))=z4,An [z8=z8,Zz,Zz,z2=z2,z4=z4,Tt],An [Sm [sl L,ul P],TT 2],An [z7=z7,HfL z7],An [z3=z3,HfE z3,Sm (k+1+1)],An [An [Sm cards.length,Sm (ints cards)],An [Sm cs.length,Sm (List.map sl cs)],An [Zz,Sm size,Sm (size-size)],Tt,An [Zz,Sm (Nat.succ k+1),Tt],Tt],An [z1=z1,HfL z1],Tt])=_) ?_
      (repeat'(first|(with_reducible apply And.intro)|(refine fun(_:True)=>?_)))
      all_goals first|exact hcall|exact hone|(with_reducible exact hld)|(with_reducible exact hlp)|(with_reducible exact htk)|(rw[Nat.zero_add];with_reducible exact htk)|(with_reducible exact hEqn)|exact hB|exact hE|exact hS|exact hE2|exact hS2|exact hg|exact hc|exact hlo|exact hu|(with_reducible exact hs0)|exact aq|rfl|skip
     |false=>
      have hb2:=hbad hEq
      have hEqn:(!eqA x (B s))=true:=by rw[hEq];rfl
      unfold eqA at hEqn
      refine .inr ⟨.ret,[],rtR false,[yes 39,no 42,pl 46,ld 47 (u6 (p:Nat)),fn 48 (i6 (popc p:Nat)),no 50,pl 57,ld 58 (i6 (v:Nat)),pl 62,ld 63 (u6 (p:Nat)),(64,.call ⟨.tup [ar x,i6 0],ofOs .e 0 (rtO2 L P cards cs F B size (upQ q (k+1) (v,p)) (k+1)),6,[2,3,4]⟩),pl 76,ld 77 (ar (B s)),yes 78],1000,.inr (.inl ⟨hb2,rfl,rfl⟩),?_⟩
      clear hgood hbad hb2 hask hx
      generalize upQ q (k+1) (v,p)=q' at*
      refine Eq.mp (by kernel_rfl:(let z0:=(↑s:Int);let z1:=(0:Int);let z2:=headF (List.drop (s*1) (ut P));An [decide (z0<(↑size:Int))=true,(z0==z1)=false,An [z1≤z0,z0<(↑P.length:Int)],z2=some (u6 ↑p),An [Tt,Tt],FnOk Pg g0 65 [u6 ↑p] (i6 ↑(popc p)),Tt,decide ((↑(popc p):Int)>(↑lim:Int))=false,An [z1≤z0,z0<(↑L.length:Int)],headF (List.drop (s*1) (ints L))=some (i6 ↑v),An [z1≤z0,z0<(↑P.length:Int)],z2=some (u6 ↑p),CallSpec Pg g0 (V.fn 90 []) [V.ptr 3 0,i6 ↑s,i6 ↑v,u6 ↑p] (ofOs T.e 0 (rtO L P cards cs F B size q k)) 5 (CR.mk (V.tup [ar x,i6 0]) (ofOs T.e 0 (rtO2 L P cards cs F B size q' (k+1))) 6 [2,3,4]),Tt,An [z1≤z0,z0<(↑size:Int)],takeE 18 (dropF (0+s*18) (bF B size))=some (arF (B s)),(!(x 0==B s 0&&(x 1==B s 1&&(x 2==B s 2&&(x 3==B s 3&&(x 4==B s 4&&(x 5==B s 5&&(x 6==B s 6&&(x 7==B s 7&&(x 8==B s 8&&(x 9==B s 9&&(x 10==B s 10&&(x 11==B s 11&&(x 12==B s 12&&(x 13==B s 13&&(x 14==B s 14&&(x 15==B s 15&&(x 16==B s 16&&(x 17==B s 17&&true)))))))))))))))))))=true,An [Sm false,z1=z1,Tt],Tt])=_) ?_
      (repeat'(first|(with_reducible apply And.intro)|(refine fun(_:True)=>?_)))
      all_goals first|exact hcall|exact hone|(with_reducible exact hld)|(with_reducible exact hlp)|(with_reducible exact htk)|(rw[Nat.zero_add];with_reducible exact htk)|(with_reducible exact hEqn)|exact hB|exact hE|exact hS|exact hE2|exact hS2|exact hg|exact hc|exact hlo|exact hu|(with_reducible exact hs0)|exact aq|rfl|skip
   ·rw [decide_eq_false hpc, Bool.false_and] at hbad
    have hb2:=hbad rfl
    clear hj hb hask hgood hbad
    generalize P.getD s 0=p at*
    refine .inr ⟨.ret,[],rtR false,[yes 39,no 42,pl 46,ld 47 (u6 (p:Nat)),fn 48 (i6 (popc p:Nat)),yes 50],1000,.inr (.inl ⟨hb2,rfl,rfl⟩),?_⟩
    clear hb2
    refine Eq.mp (by kernel_rfl:(let z0:=(↑s:Int);let z1:=(0:Int);An [decide (z0<(↑size:Int))=true,(z0==z1)=false,An [z1≤z0,z0<(↑P.length:Int)],headF (List.drop (s*1) (ut P))=some (u6 ↑p),An [Tt,Tt],FnOk Pg g0 65 [u6 ↑p] (i6 ↑(popc p)),Tt,decide ((↑(popc p):Int)>(↑lim:Int))=true,An [Sm false,z1=z1,Tt],Tt])=_) ?_
    (repeat'(first|(with_reducible apply And.intro)|(refine fun(_:True)=>?_)))
    all_goals first|exact hone|(with_reducible exact hlp)|exact hB|exact hE|exact hS|exact hg|exact hc|exact hlo|exact hu|(with_reducible exact hs0)|exact aq|rfl|skip
 ·have hall : b = true := by rw [hb]; exact all_range.2 fun j hj1 => hj j (by omega)
  refine .inr ⟨.exit 0,[],{sl:=[]},[no 39],1000,.inl ⟨hall,rfl,rfl⟩,?_⟩
  clear hj hall hb hask
  refine Eq.mp (by kernel_rfl:(An [decide ((↑s:Int)<(↑size:Int))=false,Tt,Tt])=_) ?_
  (repeat'(first|(with_reducible apply And.intro)|(refine fun(_:True)=>?_)))
  all_goals first|exact hB|exact hE|exact hS|exact hg|exact hc|exact hlo|exact hu|exact aq|rfl|skip
set_option maxHeartbeats 4000000
set_option maxRecDepth 100000
abbrev rtE(b:Bool)(e:Int):SL:={sl:=[(6,.bool b),(7,i6 e)]}
theorem sum_add1(f g:Nat→Int):ar (sumF f g)=ar (addA f g 1):=congrArg V.agg (Qbp fun k hk=>Qo3 f g hk)
theorem ask_ok{cards:List Int}{cs:List (List Int)}(hl2:cs.length≤40)(hcl: ∀c∈cs,c.length≤1000)(h:goodE cards cs=0)(hn:cards.length≤5){lim s v p:Nat}(hs:s<2^cards.length)(hv:v<cards.length)(hok:okT lim s v p=true)(B:Nat→Nat→Int)(hB:inB (B (s-2^v)) 800):AskOk cards cs (fF cards cs) B s v p:=by
 have hF:=Qrp h hl2
 refine⟨?_,?_⟩
 ·have := add_ok (B (s - 2 ^ v)) (fF cards cs v p) (hB.inA (by decide)) ((hF v p).inA (by decide)) (by
   refine Qsf fun k hk=>?_
   have h1:=hB k hk
   have h2:=hF v p k hk
   have:sumF (B (s-2^v)) (fF cards cs v p) k=B (s-2^v) k+1*fF cards cs v p k:=Qo3 _ _ hk
   omega)
  rwa [sum_add1]at this
 ·have ho := Qbw.1 hok
  have hps:p≤s:=by rw[←ho.1];exact Nat.and_le_right
  have hF2:fF cards cs v p=famG cards cs v p:=if_pos hv
  rw[hF2]
  refine Qto cards cs v p (by omega) (by omega) hcl h ?_
  unfold memB
  have e1:p/2^cards.length=0:=Nat.div_eq_of_lt (by omega)
  have e2:p/2^v%2=0:=by
   have:=ho.2.1
   rw[Nat.testBit_eq_decide_div_mod_eq]at this
   have:=of_decide_eq_false this
   omega
  simp[e1,e2,hv]
theorem rgt_all(n lim:Nat)(F:Nat→Nat→Nat→Int)(L:List Int)(P:List Nat)(h:LdOk L P n):(List.range (2^n)).all (fun s=>decide (s=0)||rgtS lim F (tabB n lim F (2^n)) L P s)=rgtB n lim F L P:=by
 have key: ∀s,s<2^n→(decide (s=0)||rgtS lim F (tabB n lim F (2^n)) L P s)=(decide (s=0)||(decide (popc (P.getD s 0)≤lim)&&eqA (addA (topB n lim F (s-2^laL L s)) (F (laL L s) (paL P s)) 1) (topB n lim F s))):=fun s hs=>by
  unfold rgtS
  rw[Qcl,Qcl,if_pos hs,if_pos (Nat.lt_of_le_of_lt (Nat.sub_le _ _) hs)]
 unfold rgtB
 apply Bool.eq_iff_iff.2
 constructor
 ·intro h;exact all_range.2 fun s hs=>by rw[←key s hs];exact all_range.1 h s hs
 ·intro h;exact all_range.2 fun s hs=>by rw[key s hs];exact all_range.1 h s hs
theorem Qfa(cards:List Int)(cs:List (List Int))(lim:Nat)(L:List Int)(P:List Nat)(hP:S64 P)(he:Qei cards cs (lim:Int)=0)(hgood:goodL L P cards.length=true):FnOk Pg g0 42 [gV cards cs,i6 (lim:Int),lV L P] (.tup [.bool (rgtB cards.length lim (fF cards cs) L P),i6 0]):=by
 obtain⟨hg0,hn1,hn5,_,_,hl2,hcl⟩:=Qjb he
 obtain⟨q,k,hk,h⟩:=Qns cards cs lim he
 have hck:=Qa4 L P hP
 have hvr:=Qbk L P
 rw[Qkp,Bool.and_eq_true]at hgood
 obtain⟨hb,hw⟩:=hgood
 have hw:=of_decide_eq_true hw
 have hlad:=Qf6 hb
 rw[hb,if_pos rfl]at hck
 rw[hw]at hvr hlad
 have hF:=Qrp hg0 hl2
 have hpos:1≤2^cards.length:=Nat.pow_pos (by decide)
 have h32:=Qaq hn5
 have l:=rt_loop L P hP cards cs (fF cards cs) (tabB cards.length lim (fF cards cs) (2^cards.length)) cards.length (2^cards.length) lim rfl hlad (fun s h0 hs hpc=>by
  obtain⟨a1,a2,a3⟩:=hlad.ok.at_ s h0 hs
  have hp32:paL P s<32:=by
   rw[←a3];exact Nat.lt_of_le_of_lt Nat.and_le_right (by have:=Nat.sub_le s (2^laL L s);omega)
  refine ask_ok hl2 (fun c hc=>by rw[hcl c hc];omega) hg0 hn5 hs a1 ((Qdu (by omega) (by omega) a2 hp32).2 ⟨a3,hpc⟩) _ ?_
  rw[Qcl,if_pos (Nat.lt_of_le_of_lt (Nat.sub_le _ _) hs)]
  exact Qjk hF hn5 (Nat.lt_of_le_of_lt (Nat.sub_le _ _) hs)) q k hk _ rfl
 rw[rgt_all _ _ _ _ _ hlad]at l
 have e1:=hlad.lenL
 have e2:=hlad.lenP
 generalize rgtB cards.length lim (fF cards cs) L P=b at*
 generalize tabB cards.length lim (fF cards cs) (2^cards.length)=B at*
 generalize laT cards.length lim (fF cards cs) (2^cards.length)=la at*
 generalize paT cards.length lim (fF cards cs) (2^cards.length)=pa at*
 generalize fF cards cs=F at*
 generalize 2^cards.length=size at*
 have hcall:=Qq2 L P cards cs F size q B la pa k lim h
 have hB:=Qaa B size
 have hla:=Qah la size
 have hpa:=Qag pa size
 have hE:=Qac q (k+1)
 have hS:=Qaa (scF F q) (k+1)
 have hg:=Qas cs
 have hc:=Qae cards
 have hlo:=Qae L
 have hu:=Qa8 P
 have hrt:rrS L P cards cs F B size lim (0,q,k)={sl:=[(1,i6 (lim:Nat)),(5,.ptr 0 0),(8,.ptr 3 0),(37,i6 (L.length:Nat)),(38,i6 0)],os:=rtO L P cards cs F B size q k,md:=[0,0,0,1]}:=by rw[e1];rfl
 rw[hrt]at l
 clear h he hw hb hrt hF
 cases b with
 |true=>
  have l:=l.mono (Qb6 rfl (by simp))
  refine FnOk.of_vc vE_ok mixed Qab (n:=1000) (r:=[]) (S:=rtE true 0) (hs:=[(17,.call ⟨cbW size,ofOs .e 0 ([gO cards cs,lO L P]++cbD cards cs F size q B la pa k),8,[]⟩),fn 25 (i6 0),fn 29 (i6 (cards.length:Nat)),no 33,(0,.loop [1,2,3,4,7] {sl:=[(1,i6 (lim:Nat)),(5,.ptr 0 0),(8,.ptr 3 0),(37,i6 (L.length:Nat)),(38,i6 0)],os:=rtO L P cards cs F B size q k,md:=[0,0,0,1]} [(True,.exit 0,{sl:=[]})])]) ?_
  refine Eq.mp (by kernel_rfl:(let z1:=ofOs T.e 0 ([gO cards cs,lO L P]++cbD cards cs F size q B la pa k);let z2:=[V.agg [V.im L.length (ints L),V.im P.length (ut P)]];let z3:=[sl L,ul P];let z4:=bF (scF F q) (k+1);let z5:=entM q (k+1);let z6:=V.tup [V.bool true,i6 0];let z7:=(↑cards.length:Int);let z8:=(0:Int);let z9:=i6 ↑cards.length;let y0:=some (size-size);let z0:=pt (pt z1 8 (O.row 77 none [V.nils,V.nils])) 8 (O.row 77 none [V.sl 5 0 size y0,V.sl 6 0 size y0]);An [z6=z6,CallSpec Pg g0 (V.fn 88 []) [V.agg [sl cards,gC cs],i6 ↑lim] (pt (pt T.e 0 (O.row 32 none [sl cards,gC cs])) 1 (O.row 77 none z3)) 2 (CR.mk (cbW size) z1 8 []),Tt,An [TT 2,Tt],FnOk Pg g0 56 z2 (i6 0),Tt,An [TT 2,Tt],FnOk Pg g0 89 z2 z9,An [(V.fn 56 []=V.fn 89 []→[V.agg z3]=[V.agg z3]→z0=z0→8+1=9→CR.mk (i6 0) z0 9 []=CR.mk z9 z0 9 []),Tt],(z7 != z7)=false,An [An [Sm (↑lim:Int),Zz,Zz,Sm (↑L.length:Int),z8=z8,Tt],An [z3=z3,TT 2],An [Sm (bF B size),HfL (bF B size)],An [z5=z5,HfE z5,Sm (k+1)],An [An [Sm cards.length,Sm (ints cards)],An [Sm cs.length,Sm (List.map sl cs)],An [Zz,Sm size,Sm (size-size)],Tt,An [Zz,Sm (k+1),Tt],Tt],An [z4=z4,HfL z4],Tt],Sat Pg none 0 (at' 42 [1,1,1,1,0,1,0]) (mkSt g0 80 (SL.mk [(1,i6 ↑lim),(5,V.ptr 0 0),(8,V.ptr 3 0),(37,i6 ↑L.length),(38,i6 0)] (rtO L P cards cs F B size q k) [] [0,0,0,1])) (Qaf g0 80 [(True,Ex.exit 0,SL.mk [] [] [] [])]),(True→An [An [Sm true,z8=z8,Tt],Tt]),Tt])=_) ?_
  (repeat'(first|(with_reducible apply And.intro)|(refine fun(_:True)=>?_)))
  all_goals first|exact l|exact hcall|exact hck|exact hvr|exact hg|exact hc|exact hB|exact hla|exact hpa|exact hE|exact hS|exact hlo|exact hu|exact aq|rfl|skip
 |false=>
  have l:=l.mono (Qb7 (by simp) rfl)
  refine FnOk.of_vc vE_ok mixed Qab (n:=1000) (r:=[]) (S:=rtE false 0) (hs:=[(17,.call ⟨cbW size,ofOs .e 0 ([gO cards cs,lO L P]++cbD cards cs F size q B la pa k),8,[]⟩),fn 25 (i6 0),fn 29 (i6 (cards.length:Nat)),no 33,(0,.loop [1,2,3,4,7] {sl:=[(1,i6 (lim:Nat)),(5,.ptr 0 0),(8,.ptr 3 0),(37,i6 (L.length:Nat)),(38,i6 0)],os:=rtO L P cards cs F B size q k,md:=[0,0,0,1]} [(True,.ret,rtR false)])]) ?_
  refine Eq.mp (by kernel_rfl:(let z1:=ofOs T.e 0 ([gO cards cs,lO L P]++cbD cards cs F size q B la pa k);let z2:=[V.agg [V.im L.length (ints L),V.im P.length (ut P)]];let z3:=[sl L,ul P];let z4:=bF (scF F q) (k+1);let z5:=entM q (k+1);let z6:=V.tup [V.bool false,i6 0];let z7:=(↑cards.length:Int);let z8:=(0:Int);let z9:=i6 ↑cards.length;let y0:=some (size-size);let z0:=pt (pt z1 8 (O.row 77 none [V.nils,V.nils])) 8 (O.row 77 none [V.sl 5 0 size y0,V.sl 6 0 size y0]);An [z6=z6,CallSpec Pg g0 (V.fn 88 []) [V.agg [sl cards,gC cs],i6 ↑lim] (pt (pt T.e 0 (O.row 32 none [sl cards,gC cs])) 1 (O.row 77 none z3)) 2 (CR.mk (cbW size) z1 8 []),Tt,An [TT 2,Tt],FnOk Pg g0 56 z2 (i6 0),Tt,An [TT 2,Tt],FnOk Pg g0 89 z2 z9,An [(V.fn 56 []=V.fn 89 []→[V.agg z3]=[V.agg z3]→z0=z0→8+1=9→CR.mk (i6 0) z0 9 []=CR.mk z9 z0 9 []),Tt],(z7 != z7)=false,An [An [Sm (↑lim:Int),Zz,Zz,Sm (↑L.length:Int),z8=z8,Tt],An [z3=z3,TT 2],An [Sm (bF B size),HfL (bF B size)],An [z5=z5,HfE z5,Sm (k+1)],An [An [Sm cards.length,Sm (ints cards)],An [Sm cs.length,Sm (List.map sl cs)],An [Zz,Sm size,Sm (size-size)],Tt,An [Zz,Sm (k+1),Tt],Tt],An [z4=z4,HfL z4],Tt],Sat Pg none 0 (at' 42 [1,1,1,1,0,1,0]) (mkSt g0 80 (SL.mk [(1,i6 ↑lim),(5,V.ptr 0 0),(8,V.ptr 3 0),(37,i6 ↑L.length),(38,i6 0)] (rtO L P cards cs F B size q k) [] [0,0,0,1])) (Qaf g0 80 [(True,Ex.ret,rtR false)]),(True→An [An [Sm false,z8=z8,Tt],Tt]),Tt])=_) ?_
  (repeat'(first|(with_reducible apply And.intro)|(refine fun(_:True)=>?_)))
  all_goals first|exact l|exact hcall|exact hck|exact hvr|exact hg|exact hc|exact hB|exact hla|exact hpa|exact hE|exact hS|exact hlo|exact hu|exact aq|rfl|skip
set_option maxHeartbeats 1000000
def Qn9(m:Nat)(l:List Nat):Bool:=decide (1≤l.length)&&(decide (l.length≤m)&&((List.range l.length).all (fun u=> !outL l l.length u)&&GG.acyclic l.length (relL l)))
theorem Qf2{m n:Nat}{l:List Nat}(hm:m≤6)(hl:l.length=n)(hn:n≤m):Qn9 m l=fitsB n l:=by
 unfold Qn9 fitsB Qkq
 rw[decide_eq_true hl,Bool.true_and,decide_eq_true (show l.length≤m by omega),decide_eq_true (show l.length≤6 by omega)]
theorem Qov(m:Nat)(hm:m≤6)(l:List Nat)(h64:S64 l):FnOk Pg g0 67 [ul l,i6 (m:Nat)] (.bool (Qn9 m l)):=by
 unfold Qn9
 by_cases h1:1≤l.length
 ·rw [decide_eq_true h1]
  by_cases h2:l.length≤m
  ·rw [decide_eq_true h2]
   have a1:=rg_first l _ rfl (Nat.le_trans h2 hm) h64
   have a2:=rg_i l _ rfl (Nat.le_trans h2 hm) h64
   cases hc1:(List.range l.length).all (fun u=> !outL l l.length u)with
   |false=>
    have a1':=a1.mono (Qb7 (by rw[hc1];simp) hc1)
    refine FnOk.of_vc vE_ok mixed Qab (n:=1000) (r:=[]) (S:=bR4 false) (hs:=[no 12,no 17,(0,.loop [] {sl:=[(0,ul l),(5,i6 (0:Nat))]} [(True,.ret,bR4 false)])]) ?_
    clear a1 a2 hc1
    refine Eq.mp (by kernel_rfl:(An [V.bool false=V.bool (true&&(true&&(false&&GG.acyclic l.length (relL l)))),decide ((↑l.length:Int)<(1:Int))=false,decide ((↑l.length:Int)>(↑m:Int))=false,An [An [An [Sm l.length,Sm (ut l)],(↑(0:Nat):Int)=(0:Int),Tt],Tt],Sat Pg none 0 (at' 67 [1,1,0,1,0]) (mkSt g0 67 (SL.mk [(0,ul l),(5,i6 ↑(0:Nat))] [] [] [])) (Qaf g0 67 [(True,Ex.ret,bR4 false)]),(True→An [An [Sm false,Tt],Tt]),Tt])=_) ?_
    exact au
   | true =>
    have a1':=a1.mono (Qb6 hc1 (by rw[hc1];simp))
    cases hc2:GG.acyclic l.length (relL l)with
    |false=>
     have a2':=a2.mono (Qb7 (by rw[hc2];simp) hc2)
     refine FnOk.of_vc vE_ok mixed Qab (n:=1000) (r:=[]) (S:=bR4 false) (hs:=[no 12,no 17,(0,.loop [] {sl:=[(0,ul l),(5,i6 (0:Nat))]} [(True,.exit 0,{sl:=[(0,ul l)]})]),(0,.loop [] {sl:=[(0,ul l),(6,i6 (0:Nat))]} [(True,.ret,bR4 false)])]) ?_
     clear a1 a2 hc1 hc2
     refine Eq.mp (by kernel_rfl:(let z1:=An [Sm l.length,Sm (ut l)];let z0:=(0:Nat);An [V.bool false=V.bool (true&&(true&&(true&&false))),decide ((↑l.length:Int)<(1:Int))=false,decide ((↑l.length:Int)>(↑m:Int))=false,An [An [z1,(↑z0:Int)=(0:Int),Tt],Tt],Sat Pg none 0 (at' 67 [1,1,0,1,0]) (mkSt g0 67 (SL.mk [(0,ul l),(5,i6 ↑z0)] [] [] [])) (Qaf g0 67 [(True,Ex.exit 0,SL.mk [(0,ul l)] [] [] [])]),(True→An [An [An [z1,(↑z0:Int)=(0:Int),Tt],Tt],Sat Pg none 0 (at' 67 [1,1,1,0,1,0]) (mkSt g0 67 (SL.mk [(0,ul l),(6,i6 ↑z0)] [] [] [])) (Qaf g0 67 [(True,Ex.ret,bR4 false)]),(True→An [An [Sm false,Tt],Tt]),Tt]),Tt])=_) ?_
     exact au
    |true=>
     have a2':=a2.mono (Qb6 hc2 (by rw[hc2];simp))
     refine FnOk.of_vc vE_ok mixed Qab (n:=1000) (r:=[]) (S:=bR4 true) (hs:=[no 12,no 17,(0,.loop [] {sl:=[(0,ul l),(5,i6 (0:Nat))]} [(True,.exit 0,{sl:=[(0,ul l)]})]),(0,.loop [] {sl:=[(0,ul l),(6,i6 (0:Nat))]} [(True,.exit 2,{sl:=[]})])]) ?_
     clear a1 a2 hc1 hc2
     refine Eq.mp (by kernel_rfl:(let z1:=An [Sm l.length,Sm (ut l)];let z0:=(0:Nat);An [V.bool true=V.bool (true&&(true&&(true&&true))),decide ((↑l.length:Int)<(1:Int))=false,decide ((↑l.length:Int)>(↑m:Int))=false,An [An [z1,(↑z0:Int)=(0:Int),Tt],Tt],Sat Pg none 0 (at' 67 [1,1,0,1,0]) (mkSt g0 67 (SL.mk [(0,ul l),(5,i6 ↑z0)] [] [] [])) (Qaf g0 67 [(True,Ex.exit 0,SL.mk [(0,ul l)] [] [] [])]),(True→An [An [An [z1,(↑z0:Int)=(0:Int),Tt],Tt],Sat Pg none 0 (at' 67 [1,1,1,0,1,0]) (mkSt g0 67 (SL.mk [(0,ul l),(6,i6 ↑z0)] [] [] [])) (Qaf g0 67 [(True,Ex.exit 2,SL.mk [] [] [] [])]),(True→An [An [Sm true,Tt],Tt]),Tt]),Tt])=_) ?_
     exact au
  ·rw [decide_eq_false h2]
   refine FnOk.of_vc vE_ok mixed Qab (n:=1000) (r:=[]) (S:=bR4 false) (hs:=[no 12,yes 17]) ?_
   refine Eq.mp (by kernel_rfl:(An [V.bool false=V.bool (true&&(false&&((List.all (List.range l.length) fun u=> !outL l l.length u)&&GG.acyclic l.length (relL l)))),decide ((↑l.length:Int)<(1:Int))=false,decide ((↑l.length:Int)>(↑m:Int))=true,An [Sm false,Tt],Tt])=_) ?_
   exact au
 ·rw [decide_eq_false h1]
  refine FnOk.of_vc vE_ok mixed Qab (n:=1000) (r:=[]) (S:=bR4 false) (hs:=[yes 12]) ?_
  refine Eq.mp (by kernel_rfl:(An [V.bool false=V.bool (false&&(decide (l.length≤m)&&((List.all (List.range l.length) fun u=> !outL l l.length u)&&GG.acyclic l.length (relL l)))),decide ((↑l.length:Int)<(1:Int))=true,An [Sm false,Tt],Tt])=_) ?_
  exact au
def redP(lim:Nat):Nat→Nat→Nat
 |0,p=>p
 |f+1,p=>if lim<popc p then redP lim f (p&&& (p-1))else p
def drV(n s:Nat):Nat→Nat→Nat
 |0,v=>v
 |f+1,v=>if s.testBit v then v else drV n s f ((v+1)%n)
theorem drV_all: ∀n:Nat,n<6→∀s:Nat,s<32→∀v:Nat,v<5→(n=0∨2^n≤s∨s=0∨n≤v∨(s.testBit (drV n s 5 v)=true∧drV n s 5 v<n)):=by decide+kernel
theorem Qrb{n s v:Nat}(h1:1≤n)(h5:n≤5)(h0:0<s)(hs:s<2^n)(hv:v<n):s.testBit (drV n s 5 v)=true∧drV n s 5 v<n:=by
 have h32:=Qaq h5
 rcases drV_all n (by omega) s (by omega) v (by omega)with h|h|h|h|h
 ·omega
 ·omega
 ·omega
 ·omega
 ·exact h
section
variable (n:Nat) (a b:Nat→Nat)
def dlV(s:Nat):Nat:=drV n s 5 (a s%n)
def dlA(k s:Nat):Nat:=if 0<s∧s<k then dlV n a s else 0
def dlB(k s:Nat):Nat:=if 0<s∧s<k then b s&&& (s-2^dlV n a s)else 0
end
theorem dlA_next(n:Nat)(a:Nat→Nat){k:Nat}(hk:0<k):(fun i=>if i=k then dlV n a k else dlA n a k i)=dlA n a (k+1):=by
 funext i
 unfold dlA
 by_cases h:i=k
 ·subst h;rw[if_pos rfl,if_pos ⟨hk,by omega⟩]
 ·rw [if_neg h]
  by_cases h2:0<i∧i<k
  ·rw[if_pos h2,if_pos (by omega)]
  ·rw[if_neg h2,if_neg (by omega)]
theorem dlB_next(n:Nat)(a b:Nat→Nat){k:Nat}(hk:0<k):(fun i=>if i=k then b k&&& (k-2^dlV n a k)else dlB n a b k i)=dlB n a b (k+1):=by
 funext i
 unfold dlB
 by_cases h:i=k
 ·subst h;rw[if_pos rfl,if_pos ⟨hk,by omega⟩]
 ·rw [if_neg h]
  by_cases h2:0<i∧i<k
  ·rw[if_pos h2,if_pos (by omega)]
  ·rw[if_neg h2,if_neg (by omega)]
theorem dl_ok{n:Nat}(a b:Nat→Nat)(h1:1≤n)(h5:n≤5):LdOk (mkL (dlA n a (2^n)) n) (mkP (dlB n a b (2^n)) n) n∧ladB (mkL (dlA n a (2^n)) n) (mkP (dlB n a b (2^n)) n)=true:=by
 have key: ∀s,0<s→s<2^n→dlA n a (2^n) s<n∧s.testBit (dlA n a (2^n) s)=true∧dlB n a b (2^n) s&&& (s-2^dlA n a (2^n) s)=dlB n a b (2^n) s:=fun s h0 hs=>by
  obtain⟨x,y⟩:=Qrb h1 h5 h0 hs (v:=a s%n) (Nat.mod_lt _ (by omega))
  have e:dlA n a (2^n) s=dlV n a s:=if_pos ⟨h0,hs⟩
  have e2:dlB n a b (2^n) s=b s&&& (s-2^dlV n a s):=if_pos ⟨h0,hs⟩
  rw[e,e2]
  refine⟨y,x,?_⟩
  rw[Nat.and_assoc,Nat.and_self]
 exact⟨mk_ok h1 h5 rfl rfl key,mk_lad h1 h5 rfl rfl key⟩
theorem dl_S64{n:Nat}(a b:Nat→Nat)(h5:n≤5):S64 (mkP (dlB n a b (2^n)) n):=mk_S64 fun s hs=>by
 have h32:=Qaq h5
 unfold dlB
 split
 ·exact Nat.lt_of_le_of_lt Nat.and_le_right (by have:=Nat.sub_le s (2^dlV n a s);omega)
 ·decide
theorem Qqs: ∀b:Nat,b<256→∀s:Nat,s<32→IntKind.u64.wrap ((BitVec.ofInt 64 (b:Int)&&& BitVec.ofInt 64 (s:Int)).toNat:Int)=((b&&& s:Nat):Int):=by decide+kernel
theorem and_u8{G:Ctx}{t b s:Nat}(hb:b<256)(hs:s<32):binV G .and t (u6 (b:Int)) (u6 (s:Int))=some (u6 ((b&&& s:Nat):Int)):=by
 have e:binV G .and t (u6 (b:Int)) (u6 (s:Int))=some (.int .u64 (IntKind.u64.wrap ((BitVec.ofInt 64 (b:Int)&&& BitVec.ofInt 64 (s:Int)).toNat:Int))):=rfl
 rw[e,Qqs b hb s hs]
theorem Qqt: ∀x:Nat,x<32→∀v:Nat,v<5→IntKind.u64.wrap ((BitVec.ofInt 64 (x:Int)&&& ~~~ BitVec.ofInt 64 ((2^v:Nat):Int)).toNat:Int)=((x&&& (31-2^v):Nat):Int):=by decide+kernel
theorem andn_all2: ∀s:Nat,s<32→∀v:Nat,v<5→(s.testBit v=false∨s&&& (31-2^v)=s-2^v):=by decide+kernel
theorem andn_u8{G:Ctx}{t b s v:Nat}(hs:s<32)(hv:v<5)(h:s.testBit v=true):binV G .andNot t (u6 ((b&&& s:Nat):Int)) (u6 ((2^v:Nat):Int))=some (u6 ((b&&& (s-2^v):Nat):Int)):=by
 have hx:b&&& s<32:=Nat.lt_of_le_of_lt Nat.and_le_right hs
 have e:binV G .andNot t (u6 ((b&&& s:Nat):Int)) (u6 ((2^v:Nat):Int))=some (.int .u64 (IntKind.u64.wrap ((BitVec.ofInt 64 ((b&&& s:Nat):Int)&&& ~~~ BitVec.ofInt 64 ((2^v:Nat):Int)).toNat:Int))):=rfl
 rw[e,Qqt _ hx v hv]
 rcases andn_all2 s hs v hv with e|e
 ·rw[h]at e;cases e
 ·rw[Nat.and_assoc,e]
set_option maxHeartbeats 4000000
set_option maxRecDepth 100000
def litF(l:List Int):Nat→Int:=fun i=>l.getD i 0
abbrev exC:List Int:=[2,2]
abbrev exD:List (List Int):=[[0,0],[0,0],[1,1],[0,1]]
def exG(v p:Nat):Nat→Int:=match v,p with
 |0,0=>litF [-2,0,-1]
 |0,2=>litF [-1,-2]
 |1,0=>litF [-1,-1,-1]
 |1,1=>litF [-3,-1]
 | _,_=>fF exC exD v p
theorem Qkh: ∀v,v<2→∀p,p<4→∀i,i<18→fF exC exD v p i=exG v p i:=by decide+kernel
def exT(lim:Nat)(s:Nat):Nat→Int:=match s with
 |1=>litF [-2,0,-1]
 |2=>litF [-1,-1,-1]
 |3=>if lim=0 then litF [-3,-1,-2]else litF [-5,-1,-1]
 | _=>Qaj
theorem exT0: ∀s,s<4→∀i,i<18→valO (outB 0 exG (exT 0) s 2) i=exT 0 s i:=by decide+kernel
theorem exT1: ∀s,s<4→∀i,i<18→valO (outB 1 exG (exT 1) s 2) i=exT 1 s i:=by decide+kernel
theorem Qro: ∀s,s<4→∀i,i<18→topB 2 0 (fF exC exD) s i=exT 0 s i:=fun s hs=>(Qo4 (lim:=0) (exT 0) 4 Qkh exT0 s hs).2
theorem Ql6: ∀s,s<4→∀i,i<18→topB 2 1 (fF exC exD) s i=exT 1 s i:=fun s hs=>(Qo4 (lim:=1) (exT 1) 4 Qkh exT1 s hs).2
noncomputable def vcFi2(P:Program)(E:Env)(sp:Qdl)(gl:T (List V))(n:Nat)(ars:List V)(hs:Hs)(r1:List Nat)(S1:SL)(r:List Nat)(S:SL)(v:V):Option FI→Prop
 |some fi=>bif Nat.ble ars.length fi.ntmps&&hfB v then retP v (retV E.G (mkSt gl fi.ntmps S).tm (mkSt gl fi.ntmps S).H fi.res)∧gcP 0 r (mkSt gl fi.ntmps S1) S∧vc P E sp none 0 n fi.body hs ⟨⟨Qdv (blank fi.ntmps) 0 ars,gl,fi.ntmps⟩,.e,0,[]⟩ (kFin fi.ntmps r1 S1)else False
 |none=>False
theorem FnOk.of_vc2{P:Program}{E:Env}{sp:Qdl}(hE:E.Ok P)(hm:P.follows .mixedOrders=true){gl:T (List V)}(hsp:Qbg P gl sp){n f:Nat}{ars:List V}{hs:Hs}{r1:List Nat}{S1:SL}{r:List Nat}{S:SL}{v:V}(h:vcFi2 P E sp gl n ars hs r1 S1 r S v (E.code f)):FnOk P gl f ars v:=by
 unfold vcFi2 at h
 split at h
 ·rename_i fi hfi
  obtain⟨hb,hret,hgc,hv⟩:=Qai h
  rw[Bool.and_eq_true]at hb
  have hret':retV E.G (mkSt gl fi.ntmps S).tm (mkSt gl fi.ntmps S).H fi.res=some v:=by
   unfold retP at hret
   split at hret
   ·rename_i u e;rw[e,hret]
   ·exact hret.elim
  rw[Qca]at hv
  refine CallSpec.fnC hE hfi (by rw[List.append_nil];exact hb.1) (Log.refl _ _ _) (R:=fun e st=>(e= .normal∨e= .ret)∧st=mkSt gl fi.ntmps S) ?_ ?_
  ·rw [List.append_nil]
   refine Sat.gc_post (Sat.gc_post (Sat.of_vc hE hm hsp rfl hv fun e hs' st' hg hk=>?_))
   unfold kFin at hk
   have fin:(bif Nat.beq st'.tm.n fi.ntmps then gcP 0 r1 st' S1 else False)→∃r0 st2,Gc 0 r0 st' st2∧∃r1' st3,Gc 0 r1' st2 st3∧st3=mkSt gl fi.ntmps S:=by
    intro hk
    obtain⟨hb,hk⟩:=Qai hk
    have hn:=Nat.eq_of_beq_eq_true hb
    have g1:=Qdj hk
    rw[hg,hn]at g1
    exact⟨r1,_,g1,r,_,Qdj hgc,rfl⟩
   cases e with
   |exit=>exact hk.elim
   |normal=>obtain⟨r0,st2,h1,r2,st3,h2,h3⟩:=fin hk;exact⟨r0,st2,h1,r2,st3,h2,.inl rfl,h3⟩
   |ret=>obtain⟨r0,st2,h1,r2,st3,h2,h3⟩:=fin hk;exact⟨r0,st2,h1,r2,st3,h2,.inr rfl,h3⟩
  ·rintro e st ⟨he, rfl⟩
   refine⟨he,v,hret',fun s w ee w' hH hn⟨u,s',h1,g1,g2,g3,_,_⟩=>?_⟩
   subst h1
   obtain⟨s'',q1,q2,q3,q4⟩:=Qfv hH g1 (Qkr.1 v hb.2) g3 (fun h _=>hn h (Nat.zero_le _)) (fun b hb=>g2.old b (.inl hb))
   exact⟨u,s'',rfl,q1,q2,q3,fun i=>by rw[q4];exact dom_same s _ i,Nat.le_refl _⟩
 ·exact h.elim
theorem Qi7{n lim:Nat}{F G:Nat→Nat→Nat→Int}{T:Nat→Nat→Int}{L:List Int}{P:List Nat}(h:LdOk L P n)(hT: ∀s,s<2^n→∀i,i<18→topB n lim F s i=T s i)(hG: ∀v,v<n→∀p,p<2^n→∀i,i<18→F v p i=G v p i):rgtB n lim F L P=(List.range (2^n)).all fun s=>decide (s=0)||(decide (popc (P.getD s 0)≤lim)&&eqA (addA (T (s-2^laL L s)) (G (laL L s) (paL P s)) 1) (T s)):=by
 have key: ∀s,s<2^n→(decide (s=0)||(decide (popc (P.getD s 0)≤lim)&&eqA (addA (topB n lim F (s-2^laL L s)) (F (laL L s) (paL P s)) 1) (topB n lim F s)))=(decide (s=0)||(decide (popc (P.getD s 0)≤lim)&&eqA (addA (T (s-2^laL L s)) (G (laL L s) (paL P s)) 1) (T s))):=fun s hs=>by
  by_cases h0:s=0
  ·rw[decide_eq_true h0];rfl
  ·obtain ⟨a1, a2, a3⟩ := h.ok.at_ s (by omega) hs
   have hp:paL P s<2^n:=by
    rw[←a3];exact Nat.lt_of_le_of_lt Nat.and_le_right (by have:=Nat.sub_le s (2^laL L s);omega)
   congr 2
   apply Bool.eq_iff_iff.2
   rw[Qer,Qer]
   have ht:=Nat.sub_le s (2^laL L s)
   constructor
   ·intro hh i hi
    rw[Qbu,←hT _ (by omega) i hi,←hG _ a1 _ hp i hi,←hT _ hs i hi,←hh i hi,Qbu]
   ·intro hh i hi
    rw[Qbu,hT _ (by omega) i hi,hG _ a1 _ hp i hi,hT _ hs i hi,←hh i hi,Qbu]
 unfold rgtB
 apply Bool.eq_iff_iff.2
 constructor
 ·intro h;exact all_range.2 fun s hs=>by rw[←key s hs];exact all_range.1 h s hs
 ·intro h;exact all_range.2 fun s hs=>by rw[key s hs];exact all_range.1 h s hs
abbrev l1L:List Int:=[0,0,1,1]
abbrev l1P:List Nat:=[0,0,0,1]
abbrev l2L:List Int:=[0,0,1,0]
abbrev l2P:List Nat:=[0,0,0,2]
theorem Qp8{a b c d:Nat}(ha:a<100)(hb:b<100)(hc:c<100)(hd:d<100):S64 [a,b,c,d]:=fun x hx=>by
 simp at hx
 omega
theorem Qes:Qei exC exD 0=0∧Qei exC exD 1=0∧Qei exC exD 5=2:=by decide+kernel
theorem l1_ok:LdOk l1L l1P 2:=Qf6 (L:=l1L) (P:=l1P) (by decide+kernel)
theorem l2_ok:LdOk l2L l2P 2:=Qf6 (L:=l2L) (P:=l2P) (by decide+kernel)
theorem r11:rgtB 2 1 (fF exC exD) l1L l1P=true:=by rw[Qi7 l1_ok Ql6 Qkh];decide+kernel
theorem r12:rgtB 2 1 (fF exC exD) l2L l2P=false:=by rw[Qi7 l2_ok Ql6 Qkh];decide+kernel
theorem r01:rgtB 2 0 (fF exC exD) l1L l1P=false:=by rw[Qi7 l1_ok Qro Qkh];decide+kernel
theorem over_600:FnOk Pg g0 96 [i6 600] (ar (litF [-3,-1,-2])):=FnOk.of_run vE_ok mixed (n:=100000) rfl (by kernel_rfl)
theorem over_480:FnOk Pg g0 96 [i6 480] (ar (litF [-5,-1,-1])):=FnOk.of_run vE_ok mixed (n:=100000) rfl (by kernel_rfl)
theorem Qpp:FnOk Pg g0 66 [] (gV exC exD):=by
 refine FnOk.of_vc2 vE_ok mixed Qab (n:=1000) (r1:=[0,6]) (S1:={sl:=[(0,.ptr 0 0)],os:=[.row 32 none [sl exC,.sl 1 0 4 (some 0)],.row 29 none [sl [0,0],sl [0,0],sl [1,1],sl [0,1]]],md:=[1,1]}) (r:=[0]) (S:={sl:=[(0,.ptr 0 0)],os:=[.row 32 none [sl exC,gC exD]],md:=[1]}) (hs:=[]) ?_
 refine Eq.mp (by kernel_rfl:(let z0:=(0:Int);let z1:=(1:Int);An [V.agg [sl exC,gC exD]=gV exC exD,An [An [Zz,Tt],An [An [2=2,Sm (ints exC)],An [4=4,List.map sl exD=[sl [z0,z0],sl [z0,z0],sl [z1,z1],sl [z0,z1]],TT 4],Tt],Tt],An [Zz,Tt],An [An [2=2,ints exC=[i6 2,i6 2],TT 2],An [Zz,4=4,Zz],Tt],An [An [2=2,ints [z0,z0]=[i6 0,i6 0],TT 2],An [2=2,ints [z0,z0]=[i6 0,i6 0],TT 2],An [2=2,ints [z1,z1]=[i6 1,i6 1],TT 2],An [2=2,ints [z0,z1]=[i6 0,i6 1],TT 2],Tt],Tt])=_) ?_
 (repeat'(first|(with_reducible apply And.intro)|(refine fun(_:True)=>?_)))
 all_goals first|exact aq|rfl|skip
theorem top_0:FnOk Pg g0 41 [gV exC exD,i6 0] (.tup [ar (litF [-3,-1,-2]),i6 0]):=by
 have h:=Qt6 exC exD 0 Qes.1
 rw[show ar (topB exC.length 0 (fF exC exD) (2^exC.length-1))=ar (litF [-3,-1,-2])from congrArg V.agg (Qbp (Qro 3 (by decide)))]at h
 exact h
theorem top_1:FnOk Pg g0 41 [gV exC exD,i6 1] (.tup [ar (litF [-5,-1,-1]),i6 0]):=by
 have h:=Qt6 exC exD 1 Qes.2.1
 rw[show ar (topB exC.length 1 (fF exC exD) (2^exC.length-1))=ar (litF [-5,-1,-1])from congrArg V.agg (Qbp (Ql6 3 (by decide)))]at h
 exact h
theorem top_5:FnOk Pg g0 41 [gV exC exD,i6 5] (.tup [ar Qaj,i6 2]):=top_bad exC exD 5 (by decide) (by decide) 2 Qes.2.2 (by decide)
abbrev wkO:List O:=[.row 32 none [sl exC,gC exD],.row 41 none (arF (litF [-3,-1,-2])),.row 41 none (arF (litF [-5,-1,-1])),.row 3 none [i6 0,i6 0,i6 1,i6 1],.row 28 none [u6 0,u6 0,u6 0,u6 1],.row 77 none [.sl 3 0 4 (some 0),.sl 4 0 4 (some 0)],.row 3 none [i6 0,i6 0,i6 1,i6 0],.row 28 none [u6 0,u6 0,u6 0,u6 2],.row 77 none [.sl 6 0 4 (some 0),.sl 7 0 4 (some 0)]]
abbrev wkO1:List O:=wkO++[.row 28 none [u6 0,u6 1]]
theorem wk_small(n:Nat)(h:n<9):n=0∨n=1∨n=2∨n=3∨n=4∨n=5∨n=6∨n=7∨n=8:=by omega
theorem wk_small1(n:Nat)(h:n<10):n=0∨n=1∨n=2∨n=3∨n=4∨n=5∨n=6∨n=7∨n=8∨n=9:=by omega
theorem chk_l1:FnOk Pg g0 56 [lV l1L l1P] (i6 0):=by
 have h:=Qa4 l1L l1P (Qp8 (by decide) (by decide) (by decide) (by decide))
 rw[show(if ladB l1L l1P then(0:Int)else 290)=0 by decide+kernel]at h
 exact h
theorem chk_l2:FnOk Pg g0 56 [lV l2L l2P] (i6 0):=by
 have h:=Qa4 l2L l2P (Qp8 (by decide) (by decide) (by decide) (by decide))
 rw[show(if ladB l2L l2P then(0:Int)else 290)=0 by decide+kernel]at h
 exact h
theorem var_l1:FnOk Pg g0 89 [lV l1L l1P] (i6 2):=by
 have h:=Qbk l1L l1P
 rw[show wdt l1L l1P=2 by decide+kernel]at h
 exact h
theorem var_l2:FnOk Pg g0 89 [lV l2L l2P] (i6 2):=by
 have h:=Qbk l2L l2P
 rw[show wdt l2L l2P=2 by decide+kernel]at h
 exact h
theorem gra_l1:CallSpec Pg g0 (.fn 40 []) [.agg [.sl 3 0 4 (some 0),.sl 4 0 4 (some 0)]] (ofOs .e 0 wkO) 9 ⟨.tup [.sl 9 0 2 (some 0),i6 0],ofOs .e 0 wkO1,10,[]⟩:=by
 have h1:=chk_l1
 have h2:=var_l1
 refine CallSpec.of_vcH (P:=Pg) (E:=vE) vE_ok mixed Qab (n:=1000) (f:=40) (os0:=wkO) (ars:=[.agg [.sl 3 0 4 (some 0),.sl 4 0 4 (some 0)]]) (r:=[10]) (S:={sl:=[(2,.sl 9 0 2 (some 0)),(3,i6 0)],os:=wkO1,md:=[0,0,0,0,0,1,0,0,1]}) (v:=.tup [.sl 9 0 2 (some 0),i6 0]) (hs:=[fn 8 (i6 0),fn 13 (i6 2),(0,.unroll 5)]) (gl:=g0) (by simp) (fun i hi _=>by
   rcases wk_small i (by simpa using hi)with rfl|rfl|rfl|rfl|rfl|rfl|rfl|rfl|rfl<;>rfl) (by
  refine Eq.mp (by kernel_rfl:(let z9:=An [An [TT 4,TT 4,Tt],Tt];let z1:=arF (litF [(-3:Int),(-1:Int),(-2:Int)]);let z2:=arF (litF [(-5:Int),(-1:Int),(-1:Int)]);let z3:=[i6 0,i6 0,i6 1,i6 1];let z4:=[u6 0,u6 0,u6 0,u6 1];let z5:=Int.toNat (2:Int);let z6:=V.tup [V.sl 9 0 2 (some 0),i6 0];let z7:=[i6 0,i6 0,i6 1,i6 0];let z8:=[u6 0,u6 0,u6 0,u6 2];let z0:=[V.agg [V.im 4 z3,V.im 4 z4]];An [z6=z6,z9,FnOk Pg g0 56 z0 (i6 0),Tt,z9,FnOk Pg g0 89 z0 (i6 2),Tt,An [An [Zz,2=z5,0=z5-z5],Sm (0:Int),Tt],An [Sm [sl exC,gC exD],TT 2],An [z1=z1,TT 18],An [z2=z2,TT 18],An [z3=z3,TT 4],An [z4=z4,TT 4],An [An [Zz,4=4,Zz],An [Zz,4=4,Zz],Tt],An [z7=z7,TT 4],An [z8=z8,TT 4],An [An [Zz,4=4,Zz],An [Zz,4=4,Zz],Tt],An [Sm [u6 0,u6 1],TT 2],Tt])=_) ?_
  (repeat'(first|(with_reducible apply And.intro)|(refine fun(_:True)=>?_)))
  all_goals first|exact h1|exact h2|exact aq|rfl|skip)
theorem gra_l2:CallSpec Pg g0 (.fn 40 []) [.agg [.sl 6 0 4 (some 0),.sl 7 0 4 (some 0)]] (ofOs .e 0 wkO1) 10 ⟨.tup [.sl 10 0 2 (some 0),i6 0],ofOs .e 0 (wkO1++[.row 28 none [u6 2,u6 0]]),11,[]⟩:=by
 have h1:=chk_l2
 have h2:=var_l2
 refine CallSpec.of_vcH (P:=Pg) (E:=vE) vE_ok mixed Qab (n:=1000) (f:=40) (os0:=wkO1) (ars:=[.agg [.sl 6 0 4 (some 0),.sl 7 0 4 (some 0)]]) (r:=[11]) (S:={sl:=[(2,.sl 10 0 2 (some 0)),(3,i6 0)],os:=wkO1++[.row 28 none [u6 2,u6 0]],md:=[0,0,0,0,0,1,0,0,1]}) (v:=.tup [.sl 10 0 2 (some 0),i6 0]) (hs:=[fn 8 (i6 0),fn 13 (i6 2),(0,.unroll 5)]) (gl:=g0) (by simp) (fun i hi _=>by
   rcases wk_small1 i (by simpa using hi)with rfl|rfl|rfl|rfl|rfl|rfl|rfl|rfl|rfl|rfl<;>rfl) (by
  refine Eq.mp (by kernel_rfl:(let z9:=An [An [TT 4,TT 4,Tt],Tt];let z1:=arF (litF [(-3:Int),(-1:Int),(-2:Int)]);let z2:=arF (litF [(-5:Int),(-1:Int),(-1:Int)]);let z3:=[i6 0,i6 0,i6 1,i6 0];let z4:=[u6 0,u6 0,u6 0,u6 2];let z5:=Int.toNat (2:Int);let z6:=V.tup [V.sl 10 0 2 (some 0),i6 0];let z7:=[i6 0,i6 0,i6 1,i6 1];let z8:=[u6 0,u6 0,u6 0,u6 1];let z0:=[V.agg [V.im 4 z3,V.im 4 z4]];An [z6=z6,z9,FnOk Pg g0 56 z0 (i6 0),Tt,z9,FnOk Pg g0 89 z0 (i6 2),Tt,An [An [Zz,2=z5,0=z5-z5],Sm (0:Int),Tt],An [Sm [sl exC,gC exD],TT 2],An [z1=z1,TT 18],An [z2=z2,TT 18],An [z7=z7,TT 4],An [z8=z8,TT 4],An [An [Zz,4=4,Zz],An [Zz,4=4,Zz],Tt],An [z3=z3,TT 4],An [z4=z4,TT 4],An [An [Zz,4=4,Zz],An [Zz,4=4,Zz],Tt],An [Sm [u6 0,u6 1],TT 2],An [Sm [u6 2,u6 0],TT 2],Tt])=_) ?_
  (repeat'(first|(with_reducible apply And.intro)|(refine fun(_:True)=>?_)))
  all_goals first|exact h1|exact h2|exact aq|rfl|skip)
theorem rgt_11:FnOk Pg g0 42 [gV exC exD,i6 1,lV l1L l1P] (.tup [.bool true,i6 0]):=by
 have h:=Qfa exC exD 1 l1L l1P (Qp8 (by decide) (by decide) (by decide) (by decide)) Qes.2.1 (by decide+kernel)
 rw[show rgtB exC.length 1 (fF exC exD) l1L l1P=true from r11]at h
 exact h
theorem rgt_12:FnOk Pg g0 42 [gV exC exD,i6 1,lV l2L l2P] (.tup [.bool false,i6 0]):=by
 have h:=Qfa exC exD 1 l2L l2P (Qp8 (by decide) (by decide) (by decide) (by decide)) Qes.2.1 (by decide+kernel)
 rw[show rgtB exC.length 1 (fF exC exD) l2L l2P=false from r12]at h
 exact h
theorem rgt_01:FnOk Pg g0 42 [gV exC exD,i6 0,lV l1L l1P] (.tup [.bool false,i6 0]):=by
 have h:=Qfa exC exD 0 l1L l1P (Qp8 (by decide) (by decide) (by decide) (by decide)) Qes.1 (by decide+kernel)
 rw[show rgtB exC.length 0 (fF exC exD) l1L l1P=false from r01]at h
 exact h
theorem chk_a:FnOk Pg g0 56 [lV [0,1,1,1] [0,0,0,0]] (i6 290):=by
 have h:=Qa4 [0,1,1,1] [0,0,0,0] (Qp8 (by decide) (by decide) (by decide) (by decide))
 rw[show(if ladB [0,1,1,1] [0,0,0,0]then(0:Int)else 290)=290 by decide+kernel]at h
 exact h
theorem chk_b:FnOk Pg g0 56 [lV [0,0,1] [0,0,0]] (i6 290):=by
 have h:=Qa4 [0,0,1] [0,0,0] (fun x hx=>by simp at hx;omega)
 rw[show(if ladB [0,0,1] [0,0,0]then(0:Int)else 290)=290 by decide+kernel]at h
 exact h
theorem works29:FnOk Pg g0 60 [] (.bool true):=by
 have h1:=Qpp
 have h2:=top_0
 have h3:=top_1
 have h4:=gra_l1
 have h5:=gra_l2
 have h6:=rgt_11
 have h7:=rgt_12
 have h8:=rgt_01
 have h9:=top_5
 have ha:=over_600
 have hb:=over_480
 have hc:=Qhl [0,1] (by decide)
 have hd:=Qhl [2,0] (by decide)
 have he:=chk_a
 have hf:=chk_b
 refine FnOk.of_vc vE_ok mixed Qab (n:=1000) (r:=[]) (S:={sl:=[(0,.bool true)]}) (hs:=[fn 21 (gV exC exD),fn 24 (.tup [ar (litF [-3,-1,-2]),i6 0]),fn 29 (.tup [ar (litF [-5,-1,-1]),i6 0]),(40,.call ⟨.tup [.sl 9 0 2 (some 0),i6 0],ofOs .e 0 wkO1,10,[]⟩),(45,.call ⟨.tup [.sl 10 0 2 (some 0),i6 0],ofOs .e 0 (wkO1++[.row 28 none [u6 2,u6 0]]),11,[]⟩),fn 51 (.tup [.bool true,i6 0]),fn 57 (.tup [.bool false,i6 0]),fn 63 (.tup [.bool false,i6 0]),fn 68 (.tup [ar Qaj,i6 2]),fn 79 (ar (litF [-3,-1,-2])),fn 84 (ar (litF [-5,-1,-1])),fn 94 (.bool true),fn 103 (.bool true),fn 137 (i6 290),fn 144 (i6 290)]) ?_
 refine Eq.mp (by kernel_rfl:(let w0:=An [TT 2,Tt,An [TT 4,TT 4,Tt],Tt];let w1:=An [TT 2,Tt,Tt];let z1:=[(-3:Int),(-1:Int),(-2:Int)];let z2:=[(-5:Int),(-1:Int),(-1:Int)];let z5:=O.row 41 none [i6 0,i6 0,i6 0,i6 0,i6 0,i6 0,i6 0,i6 0,i6 0,i6 0,i6 0,i6 0,i6 0,i6 0,i6 0,i6 0,i6 0,i6 0];let z6:=V.agg [V.im 2 (ints exC),V.im 4 (List.map sl exD)];let z8:=V.bool true;let y0:=[V.sl 10 0 2 (some 0),V.sl 13 0 2 (some 0)];let y1:=[V.sl 9 0 2 (some 0),V.sl 12 0 2 (some 0)];let y3:=Int.toNat (4:Int);let y4:=Int.toNat (3:Int);let y8:=[V.sl 3 0 4 (some 0),V.sl 4 0 4 (some 0)];let y9:=[V.sl 6 0 4 (some 0),V.sl 7 0 4 (some 0)];let x0:=O.row 77 none [V.nils,V.nils];let x1:=[u6 2,u6 0];let x2:=V.tup [V.bool false,i6 0];let x3:=[i6 0,i6 0,i6 1,i6 1];let x4:=[u6 0,u6 0,u6 0,u6 1];let x5:=[i6 0,i6 0,i6 1,i6 0];let x6:=[u6 0,u6 0,u6 0,u6 2];let x7:=[i6 0,i6 1,i6 1,i6 1];let x8:=[u6 0,u6 0,u6 0,u6 0];let x9:=[u6 0,u6 1];let y2:=V.agg [V.im 4 x3,V.im 4 x4];let y5:=ofOs T.e 0 (wkO1++[O.row 28 none x1]);let y6:=ar (litF z1);let y7:=ar (litF z2);let z0:=pt (pt y5 11 z5) 11 (O.row 41 none (arF Qaj));let z7:=pt z0 12 (O.row 28 none x9);let z3:=pt z7 13 (O.row 28 none x1);let z4:=pt (pt z3 14 (O.row 3 none x7)) 15 (O.row 28 none x8);let z9:=pt (pt z4 16 (O.row 3 none [i6 0,i6 0,i6 1])) 17 (O.row 28 none [u6 0,u6 0,u6 0]);An [z8=z8,Tt,FnOk Pg g0 66 [] (gV exC exD),Tt,w1,FnOk Pg g0 41 [z6,i6 0] (V.tup [y6,i6 0]),Tt,w1,FnOk Pg g0 41 [z6,i6 1] (V.tup [y7,i6 0]),Tt,CallSpec Pg g0 (V.fn 40 []) [V.agg y8] (pt (pt (pt (pt (pt (pt (pt (pt (pt (pt (pt (pt (pt (pt T.e 0 (O.row 32 none [V.nils,V.nils])) 0 (O.row 32 none [sl exC,gC exD])) 1 z5) 1 (O.row 41 none (arF (litF z1)))) 2 z5) 2 (O.row 41 none (arF (litF z2)))) 3 (O.row 3 none x3)) 4 (O.row 28 none x4)) 5 x0) 5 (O.row 77 none y8)) 6 (O.row 3 none x5)) 7 (O.row 28 none x6)) 8 x0) 8 (O.row 77 none y9)) 9 (CR.mk (V.tup [V.sl 9 0 2 (some 0),i6 0]) (ofOs T.e 0 wkO1) 10 []),Tt,CallSpec Pg g0 (V.fn 40 []) [V.agg y9] (ofOs T.e 0 wkO1) 10 (CR.mk (V.tup [V.sl 10 0 2 (some 0),i6 0]) y5 11 []),Tt,w0,FnOk Pg g0 42 [z6,i6 1,y2] (V.tup [z8,i6 0]),Tt,w0,FnOk Pg g0 42 [z6,i6 1,V.agg [V.im 4 x5,V.im 4 x6]] x2,Tt,w0,FnOk Pg g0 42 [z6,i6 0,y2] x2,Tt,w1,FnOk Pg g0 41 [z6,i6 5] (V.tup [ar Qaj,i6 2]),Tt,An [Tt,Tt],FnOk Pg g0 96 [i6 600] y6,Tt,An [Tt,Tt],FnOk Pg g0 96 [i6 480] y7,An [(V.fn 96 []=V.fn 96 []→[i6 600]=[i6 480]→z0=z0→11+1=12→CR.mk y6 z0 12 []=CR.mk y7 z0 12 []),Tt],An [TT 2,TT 2,Tt],FnOk Pg g0 58 [V.im 2 x9,V.im 2 x9] z8,An [(V.fn 96 []=V.fn 58 []→[i6 480]=y1→z0=z7→11+1=13→CR.mk y7 z0 12 []=CR.mk z8 z7 13 []),(V.fn 96 []=V.fn 58 []→[i6 600]=y1→z0=z7→11+1=13→CR.mk y6 z0 12 []=CR.mk z8 z7 13 []),Tt],An [TT 2,TT 2,Tt],FnOk Pg g0 58 [V.im 2 x1,V.im 2 x1] z8,An [(V.fn 58 []=V.fn 58 []→y1=y0→z7=z3→11+1+1=14→CR.mk z8 z7 13 []=CR.mk z8 z3 14 []),(V.fn 96 []=V.fn 58 []→[i6 480]=y0→z0=z3→11+1=14→CR.mk y7 z0 12 []=CR.mk z8 z3 14 []),(V.fn 96 []=V.fn 58 []→[i6 600]=y0→z0=z3→11+1=14→CR.mk y6 z0 12 []=CR.mk z8 z3 14 []),Tt],An [An [TT 4,TT 4,Tt],Tt],FnOk Pg g0 56 [V.agg [V.im 4 x7,V.im y3 x8]] (i6 290),Tt,An [An [TT 3,TT 3,Tt],Tt],FnOk Pg g0 56 [V.agg [V.im 3 [i6 0,i6 0,i6 1],V.im y4 [u6 0,u6 0,u6 0]]] (i6 290),An [(V.fn 56 []=V.fn 56 []→[V.agg [V.sl 14 0 4 (some 0),V.sl 15 0 y3 (some (y3-y3))]]=[V.agg [V.sl 16 0 3 (some 0),V.sl 17 0 y4 (some (y4-y4))]]→z4=z9→11+1+1+1+1+1=18→CR.mk (i6 290) z4 16 []=CR.mk (i6 290) z9 18 []),Tt],An [true=((290:Int)==(290:Int)),Tt],Tt])=_) ?_
 (repeat'(first|(with_reducible apply And.intro)|(refine fun(_:True)=>?_)))
 all_goals first|exact h1|exact h2|exact h3|exact h4|exact h5|exact h6|exact h7|exact h8|exact h9|exact ha|exact hb|exact hc|exact hd|exact he|exact hf|exact aq|rfl|skip
set_option maxHeartbeats 1000000
theorem Qta{cards:List Int}(h:CdOk cards): ∀k:Nat,k≤cards.length→1≤prodT cards k∧prodT cards k≤3^k
 |0,_=>by simp[prodT]
 |k+1,hk=>by
  have h1:=Qta h k (by omega)
  have h2:=h.each k (by omega)
  unfold prodT
  rw[Int.pow_succ]
  generalize (3:Int)^k=P at*
  generalize prodT cards k=a at*
  generalize cards.getD k 0=c at*
  constructor
  ·exact Int.mul_le_mul h1.1 (by omega:(1:Int)≤c) (by omega) (by omega) |> fun h=>by simpa using h
  ·exact Int.mul_le_mul h1.2 h2.2 (by omega) (by omega)
theorem Qr7{l:List Int}{x:Int}(h:x∈l): ∃k,k<l.length∧x=l.getD k 0:=by
 obtain⟨k,hk,rfl⟩:=List.getElem_of_mem h
 exact⟨k,hk,by rw[List.getD_eq_getElem?_getD,List.getElem?_eq_getElem hk];rfl⟩
theorem good_of{cards:List Int}{cs:List (List Int)}(hc:CdOk cards)(hl:cs.length≤40)(hrow: ∀r∈cs,r.length=cards.length∧∀k,k<cards.length→0≤r.getD k 0∧r.getD k 0<cards.getD k 0):goodE cards cs=0:=by
 have h1:okAll cards cs=true:=by
  unfold okAll
  have hp:=hc.pos
  have h5:=hc.five
  have hpr:prodT cards cards.length≤1024:=by
   have h3:=(Qta hc cards.length (Nat.le_refl _)).2
   have h4:(3:Int)^cards.length≤243:=by
    rcases(show cards.length=1∨cards.length=2∨cards.length=3∨cards.length=4∨cards.length=5 by omega)with e|e|e|e|e<;>rw[e]<;>decide
   omega
  simp only[Bool.and_eq_true,decide_eq_true_eq]
  refine⟨hp,by omega,hl,?_,hpr,?_⟩
  ·unfold okCs
   exact all_range.2 fun j hj=>by
    have:=hc.each j hj
    exact decide_eq_true (by omega)
  ·rw [List.all_eq_true]
   intro r hr
   obtain⟨r1,r2⟩:=hrow r hr
   unfold okRow
   rw[Bool.and_eq_true]
   exact⟨decide_eq_true r1,all_range.2 fun j hj=>by
    have:=r2 j hj
    exact decide_eq_true (by omega)⟩
 have h2:cs.any negB=false:=by
  rw[List.any_eq_false]
  intro r hr
  obtain⟨r1,r2⟩:=hrow r hr
  unfold negB
  rw[Bool.not_eq_true,List.any_eq_false]
  intro x hx
  obtain⟨k,hk,rfl⟩:=Qr7 hx
  have:=r2 k (by omega)
  simpa using this.1
 unfold goodE
 rw[h1,h2];rfl
theorem Qpk(C:List Int)(ks:List (Nat→Int))(fo:Int): ∀r∈dataD C ks fo [],r.length=(cardsD C).length∧∀k,k<(cardsD C).length→0≤r.getD k 0∧r.getD k 0<(cardsD C).getD k 0:=by
 have hc:=Qd3 C
 rw[show dataD C ks fo []=drows ks fo (cardsD C) (min ks.length 40)from rfl]
 intro r hr
 obtain⟨f,_,rfl⟩:=List.mem_map.1 hr
 exact⟨Qbd _ _ _ _,fun k hk=>Qmt hc _ (Nat.le_refl _) k hk⟩
theorem Qpt(C:List Int)(ks:List (Nat→Int))(fo:Int):goodE (cardsD C) (dataD C ks fo [])=0:=good_of (Qd3 C) (Qj7 C ks fo []).2 (Qpk C ks fo)
set_option maxHeartbeats 4000000
structure BestOk(cards:List Int)(rows:List (List Int))(lim:Nat)(L:List Int)(P:List Nat)(g:Nat→Nat):Prop where
 top:FnOk Pg g0 41 [gV cards rows,i6 (lim:Int)] (.tup [ar (topB cards.length lim (fF cards rows) (2^cards.length-1)),i6 0])
 sol:FnOk Pg g0 39 [gV cards rows,i6 (lim:Int)] (.tup [lV L P,i6 0])
 gra:FnOk Pg g0 40 [lV L P] (.tup [gV' cards.length g,i6 0])
 s64:S64 P
 rank: ∃r,Qjn cards.length g r
 few: ∀v,popc (g v)≤lim
 sc:FnOk Pg g0 28 [gV cards rows,gV' cards.length g] (.tup [ar (topB cards.length lim (fF cards rows) (2^cards.length-1)),i6 0])
 rgt:FnOk Pg g0 42 [gV cards rows,i6 (lim:Int),lV L P] (.tup [.bool true,i6 0])
 lenL:L.length=2^cards.length
end Go.Proofs.YtglpoiaedkoecaaDoor.Am
