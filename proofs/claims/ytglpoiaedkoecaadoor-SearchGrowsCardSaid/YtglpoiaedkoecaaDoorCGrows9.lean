/- Texts behind the claim, part 9: the abstract machine, and what the functions answer. No condition. -/
import Derived.Test.YtglpoiaedkoecaaDoorCGrows8
set_option linter.unusedVariables false
set_option linter.unusedSimpArgs false
set_option linter.unusedSectionVars false
namespace Go.Proofs.YtglpoiaedkoecaaDoor.Am
open Go.RowKit
set_option maxHeartbeats 1000000
set_option maxRecDepth 100000
theorem Qea(x:Nat):BitVec.ofInt 64 (x:Int)=BitVec.ofNat 64 x:=by
 apply BitVec.eq_of_toNat_eq
 rw[BitVec.toNat_ofInt,BitVec.toNat_ofNat];omega
theorem wrapn{z:Nat}(h:z<18446744073709551616):IntKind.u64.wrap ((z:Nat):Int)=(z:Int):=by
 rw[←wr_eq];exact Qjf (by simp[lo]) (by simp[hi];omega)
theorem or_u{G:Ctx}{t:Nat}{x y:Nat}(hx:x<18446744073709551616)(hy:y<18446744073709551616):binV G .or t (u6 (x:Int)) (u6 (y:Int))=some (u6 ((x|||y:Nat):Int))∧x|||y<18446744073709551616:=by
 have hz:x|||y<2^64:=Nat.or_lt_two_pow hx hy
 refine⟨?_,hz⟩
 have e:binV G .or t (u6 (x:Int)) (u6 (y:Int))=some (.int .u64 (IntKind.u64.wrap ((BitVec.ofInt 64 (x:Int)|||BitVec.ofInt 64 (y:Int)).toNat:Int))):=rfl
 have h:(BitVec.ofInt 64 (x:Int)|||BitVec.ofInt 64 (y:Int)).toNat=x|||y:=by
  rw[Qea,Qea,BitVec.toNat_or,BitVec.toNat_ofNat,BitVec.toNat_ofNat,Nat.mod_eq_of_lt hx,Nat.mod_eq_of_lt hy]
 rw[e,h,wrapn hz]
theorem Qm7{G:Ctx}{t:Nat}{x y:Nat}(hx:x<18446744073709551616)(hy:y<18446744073709551616): ∃z:Nat,binV G .andNot t (u6 (x:Int)) (u6 (y:Int))=some (u6 (z:Int))∧z<18446744073709551616∧(z=0↔∀b,x.testBit b=true→y.testBit b=true):=by
 have h:(BitVec.ofInt 64 (x:Int)&&& ~~~BitVec.ofInt 64 (y:Int)).toNat=x&&& (2^64-(y+1)):=by
  rw[Qea,Qea,BitVec.toNat_and,BitVec.toNat_not,BitVec.toNat_ofNat,BitVec.toNat_ofNat,Nat.mod_eq_of_lt hx,Nat.mod_eq_of_lt hy]
  congr 1;omega
 have hz:x&&& (2^64-(y+1))<2^64:=Nat.and_lt_two_pow _ (by omega)
 refine⟨x&&& (2^64-(y+1)),?_,hz,?_⟩
 ·have e : binV G .andNot t (u6 (x : Int)) (u6 (y : Int)) = some (.int .u64 (IntKind.u64.wrap ((BitVec.ofInt 64 (x : Int) &&& ~~~BitVec.ofInt 64 (y : Int)).toNat : Int))) := rfl
  rw[e,h,wrapn hz]
 ·have hb : ∀ b, (x &&& (2 ^ 64 - (y + 1))).testBit b = (x.testBit b && !y.testBit b) := fun b => by
   rw[Nat.testBit_and,Nat.testBit_two_pow_sub_succ hy]
   by_cases hb:b<64
   ·simp[hb]
   ·have : x.testBit b = false := Nat.testBit_lt_two_pow (Nat.lt_of_lt_of_le (show x < 2 ^ 64 from hx) (Nat.pow_le_pow_right (show 0 < 2 by omega) (show 64 ≤ b by omega)))
    simp[this]
  constructor
  ·intro h0 b hxb
   have:=hb b
   rw[h0,Nat.zero_testBit,hxb]at this
   simpa using this.symm
  ·intro hall
   apply Nat.eq_of_testBit_eq
   intro b
   rw[hb,Nat.zero_testBit]
   cases hxb:x.testBit b with
   |false=>rfl
   |true=>rw[hall b hxb];rfl
theorem shl1_u{G:Ctx}{t:Nat}{k:Nat}(hk:k<64):binV G .shl t (u6 1) (i6 (k:Int))=some (u6 ((2^k:Nat):Int))∧2^k<18446744073709551616:=by
 have hp:2^k<2^64:=Nat.pow_lt_pow_right (by omega) hk
 refine⟨?_,hp⟩
 have e:binV G .shl t (u6 1) (i6 (k:Int))=if(k:Int)<0 then none else some (.int .u64 (wr .u64 (1*((2^min ((k:Int).toNat) 64:Nat):Int)))):=rfl
 rw[e,if_neg (by omega),Int.toNat_natCast,show min k 64=k by omega,Int.one_mul,wr_eq,wrapn hp]
def ut(l:List Nat):List V:=l.map fun(x:Nat)=>u6 (x:Int)
abbrev ul(l:List Nat):V:=.im l.length (ut l)
theorem Qep{l:List Nat}{k:Nat}(h:k<l.length):headF ((ut l).drop (k*1))=some (u6 ((l.getD k 0:Nat):Int)):=by
 unfold ut
 rw[List.getD_eq_getElem?_getD,List.getElem?_eq_getElem h]
 exact Qc8 (List.getElem?_eq_getElem h)
theorem Qcl(l:List Nat):HfL (ut l):=Qbp _ l (fun _=>trivial)
def S64(l:List Nat):Prop:=∀x∈l,x<18446744073709551616
theorem S64.get{l:List Nat}(h:S64 l)(k:Nat):l.getD k 0<18446744073709551616:=by
 rw[List.getD_eq_getElem?_getD]
 cases hx:l[k]? with
 |none=>decide
 |some x=>exact h x (List.mem_of_getElem? hx)
def relL(l:List Nat):GG.Rel:=fun v p=>(l.getD v 0).testBit p
def outL(l:List Nat)(n:Nat):Nat→Bool:=fun v=> !decide (l.getD v 0/2^n=0)
theorem out_in{l:List Nat}{n v:Nat}(h:outL l n v=false): ∀p,relL l v p=true→p<n:=by
 intro p hp
 unfold outL at h
 have h0:l.getD v 0/2^n=0:=by simpa using h
 have hlt:l.getD v 0<2^n:=by
  rcases Nat.lt_or_ge (l.getD v 0) (2^n)with h'|h'
  ·exact h'
  ·have:=Nat.div_pos h' (Nat.two_pow_pos _);omega
 rcases Nat.lt_or_ge p n with h'|h'
 ·exact h'
 ·have : (l.getD v 0).testBit p = false := Nat.testBit_lt_two_pow (Nat.lt_of_lt_of_le hlt (Nat.pow_le_pow_right (by omega) h'))
  unfold relL at hp
  rw[this]at hp;cases hp
theorem in_out{l:List Nat}{n v:Nat}(h: ∀p,relL l v p=true→p<n):outL l n v=false:=by
 unfold outL
 have hlt:l.getD v 0<2^n:=by
  refine Nat.lt_pow_two_of_testBit _ fun i hi=>?_
  cases hb:(l.getD v 0).testBit i with
  |false=>rfl
  |true=>have:=h i hb;omega
 rw[Nat.div_eq_of_lt hlt];rfl
abbrev igS(l:List Nat)(n:Nat)(t v P:Nat):SL:={sl:=[(0,ul l),(1,i6 n),(5,u6 P),(12,i6 n),(13,i6 t),(15,ul l),(16,i6 l.length),(17,i6 v)]}
abbrev igX(l:List Nat)(n:Nat)(t P:Nat):SL:={sl:=[(0,ul l),(1,i6 n),(5,u6 P),(12,i6 n),(13,i6 t)]}
def Bits(P:Nat)(Q:Nat→Bool):Prop:=P<18446744073709551616∧∀u,P.testBit u=Q u
theorem ig_in(l:List Nat)(n:Nat)(hl:l.length=n)(hn:n≤6)(h64:S64 l)(t P:Nat)(Q:Nat→Bool)(hP:Bits P Q)(hQ: ∀u,Q u=true→u<n):
  Sat Pg none 0 (at' 78 [1,1,1,0,1,0,0,1,1,0,0,1,0]) (mkSt g0 37 (igS l n t 0 P)) (fun e st=>∃S',st=mkSt g0 37 S'∧e= .exit 2∧∃P',S'=igX l n t P'∧Bits P' (GG.pass n (relL l) (outL l n) Q n)):=by
 refine loopHG (b:=at' 78 [1,1,1,0,1,0,0,1,1,0,0,1,0,0]) (by kernel_rfl) (fun q:Nat×Nat=>q.1≤n∧Bits q.2 (GG.pass n (relL l) (outL l n) Q q.1)∧∀u,GG.pass n (relL l) (outL l n) Q q.1 u=true→u<n) (fun q=>igS l n t q.1 q.2) (fun q=>n-q.1) (fun e S'=>e= .exit 2∧∃P',S'=igX l n t P'∧Bits P' (GG.pass n (relL l) (outL l n) Q n)) (fun q G hq hN hX _=>?_) (0,P) ⟨Nat.zero_le _,hP,hQ⟩
 obtain⟨v,p⟩:=q
 obtain⟨hv,⟨hp,hb⟩,hlt⟩:=hq
 dsimp only at hv hp hb hlt hN
 by_cases hvn:v<n
 ·have hld := @Qep l v (by omega)
  have hs:=h64.get v
  obtain⟨z,hz1,hz2,hz3⟩:=@Qm7 (Qae Pg) 28 (l.getD v 0) p hs hp
  have hpass: ∀u,GG.pass n (relL l) (outL l n) Q (v+1) u=(p.testBit u||(decide (u=v)&&(!outL l n v&&(List.range n).all fun k=> !relL l v k||p.testBit k))):=fun u=>by
   show GG.place1 n (relL l) (outL l n) (GG.pass n (relL l) (outL l n) Q v) v u=_
   unfold GG.place1
   simp only[hb]
  have hcond:(∀b,(l.getD v 0).testBit b=true→p.testBit b=true)↔(!outL l n v&&(List.range n).all fun k=> !relL l v k||p.testBit k)=true:=by
   constructor
   ·intro h
    have ho:outL l n v=false:=in_out fun k hk=>hlt k (by rw[←hb];exact h k hk)
    rw[ho,Bool.not_false,Bool.true_and]
    refine GG.all_range.2 fun k _=>?_
    cases hk:relL l v k with
    |false=>rfl
    |true=>rw[h k hk];rfl
   ·intro h b hbit
    rw[Bool.and_eq_true]at h
    have ho:outL l n v=false:=by simpa using h.1
    have hbn:=out_in ho b hbit
    have:=GG.all_range.1 h.2 b hbn
    rw[show relL l v b=true from hbit]at this
    simpa using this
  generalize l.getD v 0=s at*
  by_cases hz:z=0
  ·have hc := hcond.1 (hz3.1 hz)
   obtain⟨s1,s2⟩:=@shl1_u (Qae Pg) 28 v (by omega)
   obtain⟨o1,o2⟩:=@or_u (Qae Pg) 28 p (2^v) hp s2
   have hnx:=hN (v+1,p|||2^v) ⟨hvn,⟨o2,fun u=>by
    dsimp only
    rw[hpass,hc,Bool.and_true,Nat.testBit_or,Nat.testBit_two_pow]
    congr 1
    exact decide_eq_decide.2 eq_comm⟩,fun u hu=>by
    dsimp only at hu
    rw[hpass]at hu
    simp only[Bool.or_eq_true,Bool.and_eq_true,decide_eq_true_eq]at hu
    rcases hu with hu|⟨rfl,_⟩
    ·exact hlt u (by rw[←hb];exact hu)
    ·exact hvn⟩ (by dsimp only;omega)
   rw[hz]at hz1
   generalize p|||2^v=p2 at*
   generalize 2^v=w at*
   refine⟨[yes 18,pl 20,ld 21 (u6 s),va 24 (u6 (0:Nat)),yes 25,va 28 (u6 w),va 29 (u6 p2),nu 30 (v+1:Nat),(0,.to [] (igS l n t (v+1) p2))],1000,?_⟩
   clear hN hX hpass hcond hz3 hb hlt
   refine Eq.mp (by kernel_rfl:(let z4:=An [Sm l.length,Sm (ut l)];let z0:=(↑l.length:Int);let z1:=(↑(v+1):Int);let z2:=(↑v:Int);let z3:=(↑n:Int);An [decide (z2<z0)=true,An [(0:Int)≤z2,z2<z0],headF (List.drop (v*1) (ut l))=some (u6 ↑s),binV (Qae Pg) .andNot 28 (u6 ↑s) (u6 ↑p)=some (u6 ↑(0:Nat)),((↑(0:Nat):Int)==(0:Int))=true,binV (Qae Pg) .shl 28 (u6 1) (i6 ↑v)=some (u6 ↑w),binV (Qae Pg) .or 28 (u6 ↑p) (u6 ↑w)=some (u6 ↑p2),wr .i64 (z2+(1:Int))=z1,G Ex.normal (igS l n t (v+1) p2),An [z4,z3=z3,Sm (↑p2:Int),z3=z3,Sm (↑t:Int),z4,z0=z0,z1=z1,Tt],Tt])=_) ?_
   exact au
  ·have hc : (!outL l n v && (List.range n).all fun k => !relL l v k || p.testBit k) = false := by
    cases hcc:(!outL l n v&&(List.range n).all fun k=> !relL l v k||p.testBit k)with
    |false=>rfl
    |true=>exact absurd (hz3.2 (hcond.2 hcc)) hz
   have hnx:=hN (v+1,p) ⟨hvn,⟨hp,fun u=>by dsimp only;rw[hpass,hc,Bool.and_false,Bool.or_false]⟩,fun u hu=>by
    dsimp only at hu
    rw[hpass,hc,Bool.and_false,Bool.or_false]at hu
    exact hlt u (by rw[←hb];exact hu)⟩ (by dsimp only;omega)
   refine⟨[yes 18,pl 20,ld 21 (u6 s),va 24 (u6 z),no 25,nu 30 (v+1:Nat),(0,.to [] (igS l n t (v+1) p))],1000,?_⟩
   clear hN hX hpass hcond hz3 hb hlt hc
   refine Eq.mp (by kernel_rfl:(let z4:=An [Sm l.length,Sm (ut l)];let z0:=(↑l.length:Int);let z1:=(↑(v+1):Int);let z2:=(↑v:Int);let z3:=(↑n:Int);An [decide (z2<z0)=true,An [(0:Int)≤z2,z2<z0],headF (List.drop (v*1) (ut l))=some (u6 ↑s),binV (Qae Pg) .andNot 28 (u6 ↑s) (u6 ↑p)=some (u6 ↑z),((↑z:Int)==(0:Int))=false,wr .i64 (z2+(1:Int))=z1,G Ex.normal (igS l n t (v+1) p),An [z4,z3=z3,Sm (↑p:Int),z3=z3,Sm (↑t:Int),z4,z0=z0,z1=z1,Tt],Tt])=_) ?_
   exact au
 ·have : v = n := by omega
  subst this
  have hx:=hX 2 _ ⟨rfl,p,rfl,hp,hb⟩
  refine⟨[no 18,(0,.to [] (igX l v t p))],1000,?_⟩
  clear hN hX hb hlt
  refine Eq.mp (by kernel_rfl:(let z0:=(↑v:Int);An [decide (z0<(↑l.length:Int))=false,G (Ex.exit 2) (igX l v t p),An [An [Sm l.length,Sm (ut l)],z0=z0,Sm (↑p:Int),z0=z0,Sm (↑t:Int),Tt],Tt])=_) ?_
  exact au
set_option maxHeartbeats 4000000
abbrev lV(L:List Int)(P:List Nat):V:=.agg [sl L,ul P]
abbrev lO(L:List Int)(P:List Nat):O:=.row 77 none [sl L,ul P]
def isW(L:List Int)(P:List Nat)(w:Nat):Bool:=decide (L.length=2^w)&&decide (P.length=2^w)
def wdt(L:List Int)(P:List Nat):Nat:=match[1,2,3,4,5].find? (isW L P)with
 |some w=>w
 |none=>0
theorem Qcp{L:List Int}{P:List Nat}{w:Nat}:isW L P w=true↔L.length=2^w∧P.length=2^w:=by
 unfold isW;rw[Bool.and_eq_true,decide_eq_true_eq,decide_eq_true_eq]
theorem isW_inj{L:List Int}{P:List Nat}{v w:Nat}(h:isW L P v=true)(k:isW L P w=true):v=w:=by
 have h1:=(Qcp.1 h).1
 have h2:=(Qcp.1 k).1
 rw[h1]at h2
 rcases Nat.lt_trichotomy v w with h'|h'|h'
 ·have:=Nat.pow_lt_pow_right (show 1<2 by decide) h';omega
 ·exact h'
 ·have:=Nat.pow_lt_pow_right (show 1<2 by decide) h';omega
theorem Qeh(L:List Int)(P:List Nat):wdt L P≤5∧(1≤wdt L P→isW L P (wdt L P)=true)∧(∀j,1≤j→j≤5→isW L P j=true→wdt L P=j):=by
 unfold wdt
 cases hf:[1,2,3,4,5].find? (isW L P)with
 |none=>
  have:=List.find?_eq_none.1 hf
  refine⟨Nat.zero_le _,fun h=>absurd h (by decide),fun j h1 h5 h=>?_⟩
  exact absurd h (this j (by simp;omega))
 |some w=>
  have h1:=List.find?_some hf
  have h2:=List.mem_of_find?_eq_some hf
  refine⟨by simp at h2;dsimp only;omega,fun _=>h1,fun j _ _ h=>isW_inj h1 h⟩
theorem shl1_i'(k:Nat)(hk:k<16): ∀(G:Ctx)(t:Nat),binV G .shl t (i6 1) (i6 (k:Int))=some (i6 ((2^k:Nat):Int)):=fun G t=>Qor hk
abbrev vbS(L:List Int)(P:List Nat)(k:Nat):SL:={sl:=[(1,.ptr 0 0),(3,i6 (k:Nat))],os:=[lO L P]}
abbrev i2(n:Int):SL:={sl:=[(2,i6 n)]}
theorem Qfb{a b:Nat}:((a:Int)==(b:Int))=decide (a=b):=by
 by_cases h:a=b
 ·subst h;simp
 ·rw[decide_eq_false h,beq_eq_false_iff_ne];omega
theorem vb_loop(L:List Int)(P:List Nat):Sat Pg none 0 (at' 89 [1,0,1,0]) (mkSt g0 23 (vbS L P 1)) (Qaf g0 23 [(1≤wdt L P,.ret,i2 (wdt L P:Nat)),(wdt L P=0,.exit 0,{sl:=[]})]):=by
 have hu:=Qcl P
 obtain⟨w5,w1,w0⟩:=Qeh L P
 refine Qbh vE_ok mixed Qac (b:=at' 89 [1,0,1,0,0]) (by kernel_rfl) (fun k=>1≤k∧k≤6∧(1≤wdt L P→k≤wdt L P)) (vbS L P) (fun k=>6-k) (fun k hk=>?_) 1 ⟨by decide,by decide,fun h=>h⟩
 obtain⟨h1,h6,hle⟩:=hk
 by_cases h5:k≤5
 ·have hs := shl1_i' k (by omega)
  by_cases a:L.length=2^k
  ·by_cases b : P.length = 2 ^ k
   ·have e := w0 k h1 h5 (Qcp.2 ⟨a, b⟩)
    have ha:((L.length:Int)==((2^k:Nat):Int))=true:=by rw[Qfb,decide_eq_true a]
    have hb:((P.length:Int)==((2^k:Nat):Int))=true:=by rw[Qfb,decide_eq_true b]
    clear w0 w1 hle
    generalize wdt L P=w at*
    subst e
    generalize 2^w=z at*
    refine .inr ⟨.ret,[],i2 (w:Nat),[yes 5,va 12 (i6 (z:Nat)),yes 13,va 19 (i6 (z:Nat)),yes 20],1000,.inl ⟨h1,rfl,rfl⟩,?_⟩
    refine Eq.mp (by kernel_rfl:(let z0:=binV (Qae Pg) .shl 3 (i6 1) (i6 ↑w);let z1:=(↑w:Int);An [decide (z1≤(5:Int))=true,z0=some (i6 ↑z),((↑L.length:Int)==(↑z:Int))=true,z0=some (i6 ↑z),((↑P.length:Int)==(↑z:Int))=true,An [z1=z1,Tt],Tt])=_) ?_
    (repeat'(first|(with_reducible apply And.intro)|(refine fun(_:True)=>?_)))
    all_goals first|(with_reducible exact hs _ _)|(with_reducible exact ha)|(with_reducible exact hb)|exact aq|rfl|skip
   ·have ha : ((L.length : Int) == ((2 ^ k : Nat) : Int)) = true := by rw [Qfb, decide_eq_true a]
    have hb:((P.length:Int)==((2^k:Nat):Int))=false:=by rw[Qfb,decide_eq_false b]
    have hw:wdt L P≠k:=fun e=>b (by have:=(Qcp.1 (w1 (by omega))).2;rw[e]at this;exact this)
    generalize 2^k=z at*
    refine .inl ⟨k+1,[0],[yes 5,va 12 (i6 (z:Nat)),yes 13,va 19 (i6 (z:Nat)),no 20,nu 7 ((k+1:Nat):Int)],1000,⟨by omega,by omega,fun h=>by have:=hle h;omega⟩,by omega,?_⟩
    clear w1 w0 hle hw
    refine Eq.mp (by kernel_rfl:(let z0:=binV (Qae Pg) .shl 3 (i6 1) (i6 ↑k);let z1:=(↑(k+1):Int);An [decide ((↑k:Int)≤(5:Int))=true,z0=some (i6 ↑z),((↑L.length:Int)==(↑z:Int))=true,z0=some (i6 ↑z),((↑P.length:Int)==(↑z:Int))=false,wr .i64 ((↑k:Int)+(1:Int))=z1,An [Zz,z1=z1,Tt],An [Sm [sl L,ul P],TT 2],Tt])=_) ?_
    (repeat'(first|(with_reducible apply And.intro)|(refine fun(_:True)=>?_)))
    all_goals first|(with_reducible exact hs _ _)|(with_reducible exact ha)|(with_reducible exact hb)|exact hu|exact aq|rfl|skip
  ·have ha : ((L.length : Int) == ((2 ^ k : Nat) : Int)) = false := by rw [Qfb, decide_eq_false a]
   have hw:wdt L P≠k:=fun e=>a (by have:=(Qcp.1 (w1 (by omega))).1;rw[e]at this;exact this)
   generalize 2^k=z at*
   refine .inl ⟨k+1,[0],[yes 5,va 12 (i6 (z:Nat)),no 13,nu 7 ((k+1:Nat):Int)],1000,⟨by omega,by omega,fun h=>by have:=hle h;omega⟩,by omega,?_⟩
   clear w1 w0 hle hw
   refine Eq.mp (by kernel_rfl:(An [decide ((↑k:Int)≤(5:Int))=true,binV (Qae Pg) .shl 3 (i6 1) (i6 ↑k)=some (i6 ↑z),((↑L.length:Int)==(↑z:Int))=false,wr .i64 ((↑k:Int)+(1:Int))=(↑(k+1):Int),An [Zz,Sm (↑(k+1):Int),Tt],An [Sm [sl L,ul P],TT 2],Tt])=_) ?_
   (repeat'(first|(with_reducible apply And.intro)|(refine fun(_:True)=>?_)))
   all_goals first|(with_reducible exact hs _ _)|(with_reducible exact ha)|exact hu|exact aq|rfl|skip
 ·have hz : wdt L P = 0 := by
   rcases Nat.eq_zero_or_pos (wdt L P)with h|h
   ·exact h
   ·have:=hle h;omega
  refine .inr ⟨.exit 0,[],{sl:=[]},[no 5],1000,.inr (.inl ⟨hz,rfl,rfl⟩),?_⟩
  clear w1 w0 hle hz
  refine Eq.mp (by kernel_rfl:(An [decide ((↑k:Int)≤(5:Int))=false,Tt,Tt])=_) ?_
  (repeat'(first|(with_reducible apply And.intro)|(refine fun(_:True)=>?_)))
  all_goals first|exact hu|exact aq|rfl|skip
theorem Qb2(L:List Int)(P:List Nat):FnOk Pg g0 89 [lV L P] (i6 (wdt L P:Nat)):=by
 have hl:=vb_loop L P
 have hu:=Qcl P
 rcases Nat.eq_zero_or_pos (wdt L P)with h|h
 ·have hl := hl.mono (Qcu (by omega) h)
  rw[h]
  refine FnOk.of_vc vE_ok mixed Qac (n:=1000) (r:=[]) (S:=i2 0) (hs:=[(0,.loop [0] (vbS L P 1) [(True,.exit 0,{sl:=[]})])]) ?_
  refine Eq.mp (by kernel_rfl:(An [i6 0=i6 ↑(0:Nat),An [An [Zz,(↑(1:Nat):Int)=(1:Int),Tt],An [Sm [sl L,ul P],TT 2],Tt],Sat Pg none 0 (at' 89 [1,0,1,0]) (mkSt g0 23 (vbS L P 1)) (Qaf g0 23 [(True,Ex.exit 0,SL.mk [] [] [] [])]),(True→An [An [Sm (0:Int),Tt],Tt]),Tt])=_) ?_
  (repeat'(first|(with_reducible apply And.intro)|(refine fun(_:True)=>?_)))
  all_goals first|exact hl|exact hu|exact aq|rfl|skip
 ·have hl := hl.mono (Qct h (by omega))
  generalize wdt L P=w at*
  refine FnOk.of_vc vE_ok mixed Qac (n:=1000) (r:=[]) (S:=i2 (w:Nat)) (hs:=[(0,.loop [0] (vbS L P 1) [(True,.ret,i2 (w:Nat))])]) ?_
  refine Eq.mp (by kernel_rfl:(An [Sm (i6 ↑w),An [An [Zz,(↑(1:Nat):Int)=(1:Int),Tt],An [Sm [sl L,ul P],TT 2],Tt],Sat Pg none 0 (at' 89 [1,0,1,0]) (mkSt g0 23 (vbS L P 1)) (Qaf g0 23 [(True,Ex.ret,i2 (↑w:Int))]),(True→An [An [Sm (↑w:Int),Tt],Tt]),Tt])=_) ?_
  (repeat'(first|(with_reducible apply And.intro)|(refine fun(_:True)=>?_)))
  all_goals first|exact hl|exact hu|exact aq|rfl|skip
def okS(L:List Int)(P:List Nat)(s:Nat):Bool:=decide (0≤L.getD s 0)&&(decide (L.getD s 0<5)&&(s.testBit (L.getD s 0).toNat&&decide (P.getD s 0&&& (s-2^(L.getD s 0).toNat)=P.getD s 0)))
def okLd(L:List Int)(P:List Nat):Bool:=(List.range L.length).all fun s=>decide (s=0)||okS L P s
def ok0(L:List Int)(P:List Nat):Bool:=decide (L.getD 0 0=0)&&decide (P.getD 0 0=0)
def ladB(L:List Int)(P:List Nat):Bool:=decide (1≤wdt L P)&&(ok0 L P&&okLd L P)
theorem sub_iff{p w:Nat}:(∀b,p.testBit b=true→w.testBit b=true)↔p&&& w=p:=by
 constructor
 ·intro h
  apply Nat.eq_of_testBit_eq
  intro b
  rw[Nat.testBit_and]
  cases hb:p.testBit b with
  |false=>rfl
  |true=>rw[h b hb];rfl
 ·intro h b hb
  rw[←h,Nat.testBit_and,Bool.and_eq_true]at hb
  exact hb.2
theorem wr_u{s:Nat}(h:s<32):wr .u64 (s:Int)=s:=Qjf (by simp[lo]) (by simp[hi];omega)
abbrev ccS(L:List Int)(P:List Nat)(k:Nat):SL:={sl:=[(1,.ptr 0 0),(3,i6 (k:Nat))],os:=[lO L P]}
theorem cc_loop(L:List Int)(P:List Nat)(hP:S64 P)(hlen:P.length=L.length)(h32:L.length≤32):
  Sat Pg none 0 (at' 56 [1,1,1,0,1,0]) (mkSt g0 57 (ccS L P 1)) (Qaf g0 57 [(okLd L P=true,.exit 0,{sl:=[]}),(okLd L P=false,.ret,i2 290)]):=by
 have hu:=Qcl P
 refine Qbh vE_ok mixed Qac (b:=at' 56 [1,1,1,0,1,0,0]) (by kernel_rfl) (fun k=>1≤k∧∀j,j<k→(decide (j=0)||okS L P j)=true) (ccS L P) (fun k=>L.length-k) (fun k hk=>?_) 1 ⟨Nat.le_refl _,fun j hj=>by rw[show j=0 by omega];rfl⟩
 obtain⟨hk1,hj⟩:=hk
 by_cases hlt:k<L.length
 ·have hld := @Qaw L k hlt
  have hlp:=@Qep P k (by omega)
  have hbad:okS L P k=false→okLd L P=false:=fun h=>Qcc hlt (by rw[h,decide_eq_false (by omega)];rfl)
  have hgood:okS L P k=true→∀j,j<k+1→(decide (j=0)||okS L P j)=true:=fun h j hj1=>by
   rcases Nat.lt_succ_iff_lt_or_eq.1 hj1 with h2|h2
   ·exact hj j h2
   ·subst h2;rw[h,Bool.or_true]
  have hp64:=hP.get k
  unfold okS at hbad hgood
  generalize hp:P.getD k 0=p at*
  generalize hx:L.getD k 0=x at*
  clear hj hp hx
  by_cases h1:x<0
  ·have hb := hbad (by rw [decide_eq_false (by omega)]; rfl)
   refine .inr ⟨.ret,[],i2 290,[yes 24,pl 30,ld 31 (i6 x),yes 33],1000,.inr (.inl ⟨hb,rfl,rfl⟩),?_⟩
   refine Eq.mp (by kernel_rfl:(let z0:=(↑k:Int);An [decide (z0<(↑L.length:Int))=true,An [(0:Int)≤z0,z0<(↑L.length:Int)],headF (List.drop (k*1) (ints L))=some (i6 x),decide (x<(0:Int))=true,An [Sm (290:Int),Tt],Tt])=_) ?_
   (repeat'(first|(with_reducible apply And.intro)|(refine fun(_:True)=>?_)))
   all_goals first|(with_reducible exact hld)|exact hu|exact aq|rfl|skip
  ·by_cases h2 : x < 5
   ·rw [decide_eq_true (show 0 ≤ x by omega), decide_eq_true h2] at hbad hgood
    obtain⟨v,rfl⟩: ∃v:Nat,x=v:=⟨x.toNat,by omega⟩
    simp only[Int.toNat_natCast,Bool.true_and]at hbad hgood
    have hv:v<5:=by omega
    have s1:=fun G t=>@shr_i G t k v (by omega)
    cases hbit:k.testBit v with
    |false=>
     have hb:=hbad (by rw[hbit];rfl)
     have s2:=fun G t=>@Qm6 G t k v 0 (by omega) hv (by decide) hbit
     generalize k/2^v=z at*
     refine .inr ⟨.ret,[],i2 290,[yes 24,pl 30,ld 31 (i6 (v:Nat)),no 33,no 36,va 41 (i6 (z:Nat)),va 42 (i6 0),yes 43],1000,.inr (.inl ⟨hb,rfl,rfl⟩),?_⟩
     refine Eq.mp (by kernel_rfl:(let z0:=(0:Int);let z1:=(↑k:Int);An [decide (z1<(↑L.length:Int))=true,An [z0≤z1,z1<(↑L.length:Int)],headF (List.drop (k*1) (ints L))=some (i6 ↑v),decide ((↑v:Int)<z0)=false,decide ((↑v:Int)≥(5:Int))=false,binV (Qae Pg) .shr 3 (i6 ↑k) (i6 ↑v)=some (i6 ↑z),binV (Qae Pg) .and 3 (i6 ↑z) (i6 1)=some (i6 0),(z0==z0)=true,An [Sm (290:Int),Tt],Tt])=_) ?_
     (repeat'(first|(with_reducible apply And.intro)|(refine fun(_:True)=>?_)))
     all_goals first|(with_reducible exact hld)|(with_reducible exact s1 _ _)|(with_reducible exact s2 _ _)|exact hu|exact aq|rfl|skip
    | true =>
     rw[hbit]at hbad hgood
     have s2:=fun G t=>@Qm6 G t k v 1 (by omega) hv (by decide) hbit
     have s3:=fun G t=>@shl1_w G t v (by omega)
     have s4:=fun G t=>@andn_u G t k v (by omega) hv hbit
     have hcv:=wr_u (show k<32 by omega)
     obtain⟨z',s5,_,hz⟩:=@Qm7 (Qae Pg) 28 p (k-2^v) hp64 (by have:=Nat.sub_le k (2^v);omega)
     rw[sub_iff]at hz
     by_cases h4:z'=0
     ·have hg := hgood (by rw [decide_eq_true (hz.1 h4)]; rfl)
      subst h4
      clear hgood hbad hz
      generalize k-2^v=u at*
      generalize k/2^v=z at*
      generalize 2^v=y at*
      refine .inl ⟨k+1,[0],[yes 24,pl 30,ld 31 (i6 (v:Nat)),no 33,no 36,va 41 (i6 (z:Nat)),va 42 (i6 1),no 43,pl 48,ld 49 (u6 (p:Nat)),nu 51 (k:Int),va 53 (u6 (y:Nat)),va 54 (u6 (u:Nat)),va 55 (u6 ((0:Nat):Int)),no 56,nu 26 ((k+1:Nat):Int)],1000,⟨by omega,hg⟩,by omega,?_⟩
      clear hg
      refine Eq.mp (by kernel_rfl:(let z0:=(↑k:Int);let z1:=Qae Pg;let z2:=(↑(k+1):Int);let z3:=(0:Int);An [decide (z0<(↑L.length:Int))=true,An [z3≤z0,z0<(↑L.length:Int)],headF (List.drop (k*1) (ints L))=some (i6 ↑v),decide ((↑v:Int)<z3)=false,decide ((↑v:Int)≥(5:Int))=false,binV z1 .shr 3 (i6 ↑k) (i6 ↑v)=some (i6 ↑z),binV z1 .and 3 (i6 ↑z) (i6 1)=some (i6 1),((1:Int)==z3)=false,An [z3≤z0,z0<(↑P.length:Int)],headF (List.drop (k*1) (ut P))=some (u6 ↑p),wr .u64 z0=z0,binV z1 .shl 28 (u6 1) (i6 ↑v)=some (u6 ↑y),binV z1 .andNot 28 (u6 ↑k) (u6 ↑y)=some (u6 ↑u),binV z1 .andNot 28 (u6 ↑p) (u6 ↑u)=some (u6 ↑(0:Nat)),((↑(0:Nat):Int) != z3)=false,wr .i64 (z0+(1:Int))=z2,An [Zz,z2=z2,Tt],An [Sm [sl L,ul P],TT 2],Tt])=_) ?_
      (repeat'(first|(with_reducible apply And.intro)|(refine fun(_:True)=>?_)))
      all_goals first|(with_reducible exact hld)|(with_reducible exact hlp)|(with_reducible exact s1 _ _)|(with_reducible exact s2 _ _)|(with_reducible exact s3 _ _)|(with_reducible exact s4 _ _)|(with_reducible exact s5)|(with_reducible exact hcv)|exact hu|exact aq|rfl|skip
     ·have hb := hbad (by rw [decide_eq_false (fun h => h4 (hz.2 h))]; rfl)
      clear hgood hbad hz
      generalize k-2^v=u at*
      generalize k/2^v=z at*
      generalize 2^v=y at*
      refine .inr ⟨.ret,[],i2 290,[yes 24,pl 30,ld 31 (i6 (v:Nat)),no 33,no 36,va 41 (i6 (z:Nat)),va 42 (i6 1),no 43,pl 48,ld 49 (u6 (p:Nat)),nu 51 (k:Int),va 53 (u6 (y:Nat)),va 54 (u6 (u:Nat)),va 55 (u6 (z':Nat)),yes 56],1000,.inr (.inl ⟨hb,rfl,rfl⟩),?_⟩
      refine Eq.mp (by kernel_rfl:(let z0:=(↑k:Int);let z1:=Qae Pg;let z2:=(0:Int);An [decide (z0<(↑L.length:Int))=true,An [z2≤z0,z0<(↑L.length:Int)],headF (List.drop (k*1) (ints L))=some (i6 ↑v),decide ((↑v:Int)<z2)=false,decide ((↑v:Int)≥(5:Int))=false,binV z1 .shr 3 (i6 ↑k) (i6 ↑v)=some (i6 ↑z),binV z1 .and 3 (i6 ↑z) (i6 1)=some (i6 1),((1:Int)==z2)=false,An [z2≤z0,z0<(↑P.length:Int)],headF (List.drop (k*1) (ut P))=some (u6 ↑p),wr .u64 z0=z0,binV z1 .shl 28 (u6 1) (i6 ↑v)=some (u6 ↑y),binV z1 .andNot 28 (u6 ↑k) (u6 ↑y)=some (u6 ↑u),binV z1 .andNot 28 (u6 ↑p) (u6 ↑u)=some (u6 ↑z'),((↑z':Int) != z2)=true,An [Sm (290:Int),Tt],Tt])=_) ?_
      (repeat'(first|(with_reducible apply And.intro)|(refine fun(_:True)=>?_)))
      all_goals first|(with_reducible exact hld)|(with_reducible exact hlp)|(with_reducible exact s1 _ _)|(with_reducible exact s2 _ _)|(with_reducible exact s3 _ _)|(with_reducible exact s4 _ _)|(with_reducible exact s5)|(with_reducible exact hcv)|exact hu|exact aq|rfl|skip
   ·have hb := hbad (by rw [decide_eq_false h2, Bool.false_and, Bool.and_false])
    refine .inr ⟨.ret,[],i2 290,[yes 24,pl 30,ld 31 (i6 x),no 33,yes 36],1000,.inr (.inl ⟨hb,rfl,rfl⟩),?_⟩
    refine Eq.mp (by kernel_rfl:(let z0:=(↑k:Int);An [decide (z0<(↑L.length:Int))=true,An [(0:Int)≤z0,z0<(↑L.length:Int)],headF (List.drop (k*1) (ints L))=some (i6 x),decide (x<(0:Int))=false,decide (x≥(5:Int))=true,An [Sm (290:Int),Tt],Tt])=_) ?_
    (repeat'(first|(with_reducible apply And.intro)|(refine fun(_:True)=>?_)))
    all_goals first|(with_reducible exact hld)|exact hu|exact aq|rfl|skip
 ·have hall : okLd L P = true := all_range.2 fun j hj1 => hj j (by omega)
  refine .inr ⟨.exit 0,[],{sl:=[]},[no 24],1000,.inl ⟨hall,rfl,rfl⟩,?_⟩
  clear hj hall
  refine Eq.mp (by kernel_rfl:(An [decide ((↑k:Int)<(↑L.length:Int))=false,Tt,Tt])=_) ?_
  (repeat'(first|(with_reducible apply And.intro)|(refine fun(_:True)=>?_)))
  all_goals first|exact hu|exact aq|rfl|skip
theorem Qbg(L:List Int)(P:List Nat)(hP:S64 P):FnOk Pg g0 56 [lV L P] (i6 (if ladB L P then 0 else 290)):=by
 have hv:=Qb2 L P
 have hu:=Qcl P
 unfold ladB
 obtain⟨w5,w1,w0⟩:=Qeh L P
 rcases Nat.eq_zero_or_pos (wdt L P)with h|h
 ·rw [h] at hv
  rw[h,decide_eq_false (show¬1≤0 by decide),Bool.false_and,if_neg (by decide)]
  clear w1 w0 w5 h
  refine FnOk.of_vc vE_ok mixed Qac (n:=1000) (r:=[]) (S:=i2 290) (hs:=[fn 6 (i6 0),yes 7]) ?_
  refine Eq.mp (by kernel_rfl:(An [Sm (i6 290),An [TT 2,Tt],FnOk Pg g0 89 [V.agg [V.im L.length (ints L),V.im P.length (ut P)]] (i6 0),Tt,((0:Int)==(0:Int))=true,An [Sm (290:Int),Tt],Tt])=_) ?_
  (repeat'(first|(with_reducible apply And.intro)|(refine fun(_:True)=>?_)))
  all_goals first|exact hv|exact hu|exact aq|rfl|skip
 ·obtain ⟨e1, e2⟩ := Qcp.1 (w1 h)
  have hpos:1≤2^wdt L P:=Nat.pow_pos (by decide)
  have h32:=Qaz w5
  rw[decide_eq_true (show 1≤wdt L P from h),Bool.true_and]
  have hlen:P.length=L.length:=by omega
  have hl:=cc_loop L P hP hlen (by omega)
  have hld:=@Qaw L 0 (by omega)
  have hlp:=@Qep P 0 (by omega)
  unfold ok0
  clear w1 w0 e2
  generalize wdt L P=w at*
  have hw0:((w:Int)==0)=false:=by rw[beq_eq_false_iff_ne];omega
  have hL0:0<L.length:=by omega
  have hP0:0<P.length:=by omega
  clear e1 hpos h32
  by_cases h1:L.getD 0 0=0
  ·rw [decide_eq_true h1, Bool.true_and]
   rw[h1]at hld
   by_cases h2:P.getD 0 0=0
   ·rw [decide_eq_true h2, Bool.true_and]
    rw[h2]at hlp
    cases hok:okLd L P with
    |true=>
     have hl:=hl.mono (Qct hok (by rw[hok];simp))
     rw[if_pos rfl]
     refine FnOk.of_vc vE_ok mixed Qac (n:=1000) (r:=[]) (S:=i2 0) (hs:=[fn 6 (i6 (w:Nat)),no 7,pl 10,ld 11 (i6 0),no 12,pl 16,ld 17 (u6 ((0:Nat):Int)),no 18,(0,.loop [0] (ccS L P 1) [(True,.exit 0,{sl:=[]})])]) ?_
     refine Eq.mp (by kernel_rfl:(let z0:=(0:Int);An [Sm (i6 0),An [TT 2,Tt],FnOk Pg g0 89 [V.agg [V.im L.length (ints L),V.im P.length (ut P)]] (i6 ↑w),Tt,((↑w:Int)==z0)=false,An [z0≤z0,z0<(↑L.length:Int)],headF (List.drop (Int.toNat z0*1) (ints L))=some (i6 0),(z0 != z0)=false,An [z0≤z0,z0<(↑P.length:Int)],headF (List.drop (Int.toNat z0*1) (ut P))=some (u6 ↑(0:Nat)),((↑(0:Nat):Int) != z0)=false,An [An [Zz,(↑(1:Nat):Int)=(1:Int),Tt],An [Sm [sl L,ul P],TT 2],Tt],Sat Pg none 0 (at' 56 [1,1,1,0,1,0]) (mkSt g0 57 (ccS L P 1)) (Qaf g0 57 [(True,Ex.exit 0,SL.mk [] [] [] [])]),(True→An [An [z0=z0,Tt],Tt]),Tt])=_) ?_
     (repeat'(first|(with_reducible apply And.intro)|(refine fun(_:True)=>?_)))
     all_goals first|exact hl|exact hv|(with_reducible exact hld)|(with_reducible exact hlp)|exact hu|exact hw0|exact aq|rfl|skip
    |false=>
     have hl:=hl.mono (Qcu (by rw[hok];simp) hok)
     rw[if_neg (by decide)]
     refine FnOk.of_vc vE_ok mixed Qac (n:=1000) (r:=[]) (S:=i2 290) (hs:=[fn 6 (i6 (w:Nat)),no 7,pl 10,ld 11 (i6 0),no 12,pl 16,ld 17 (u6 ((0:Nat):Int)),no 18,(0,.loop [0] (ccS L P 1) [(True,.ret,i2 290)])]) ?_
     refine Eq.mp (by kernel_rfl:(let z0:=(0:Int);An [Sm (i6 290),An [TT 2,Tt],FnOk Pg g0 89 [V.agg [V.im L.length (ints L),V.im P.length (ut P)]] (i6 ↑w),Tt,((↑w:Int)==z0)=false,An [z0≤z0,z0<(↑L.length:Int)],headF (List.drop (Int.toNat z0*1) (ints L))=some (i6 0),(z0 != z0)=false,An [z0≤z0,z0<(↑P.length:Int)],headF (List.drop (Int.toNat z0*1) (ut P))=some (u6 ↑(0:Nat)),((↑(0:Nat):Int) != z0)=false,An [An [Zz,(↑(1:Nat):Int)=(1:Int),Tt],An [Sm [sl L,ul P],TT 2],Tt],Sat Pg none 0 (at' 56 [1,1,1,0,1,0]) (mkSt g0 57 (ccS L P 1)) (Qaf g0 57 [(True,Ex.ret,i2 (290:Int))]),(True→An [An [Sm (290:Int),Tt],Tt]),Tt])=_) ?_
     (repeat'(first|(with_reducible apply And.intro)|(refine fun(_:True)=>?_)))
     all_goals first|exact hl|exact hv|(with_reducible exact hld)|(with_reducible exact hlp)|exact hu|exact hw0|exact aq|rfl|skip
   ·rw [decide_eq_false h2, Bool.false_and, if_neg (by decide)]
    generalize P.getD 0 0=p at*
    refine FnOk.of_vc vE_ok mixed Qac (n:=1000) (r:=[]) (S:=i2 290) (hs:=[fn 6 (i6 (w:Nat)),no 7,pl 10,ld 11 (i6 0),no 12,pl 16,ld 17 (u6 (p:Nat)),yes 18]) ?_
    refine Eq.mp (by kernel_rfl:(let z0:=(0:Int);An [Sm (i6 290),An [TT 2,Tt],FnOk Pg g0 89 [V.agg [V.im L.length (ints L),V.im P.length (ut P)]] (i6 ↑w),Tt,((↑w:Int)==z0)=false,An [z0≤z0,z0<(↑L.length:Int)],headF (List.drop (Int.toNat z0*1) (ints L))=some (i6 0),(z0 != z0)=false,An [z0≤z0,z0<(↑P.length:Int)],headF (List.drop (Int.toNat z0*1) (ut P))=some (u6 ↑p),((↑p:Int) != z0)=true,An [Sm (290:Int),Tt],Tt])=_) ?_
    (repeat'(first|(with_reducible apply And.intro)|(refine fun(_:True)=>?_)))
    all_goals first|exact hv|(with_reducible exact hld)|(with_reducible exact hlp)|exact hu|exact hw0|exact aq|rfl|skip
  ·rw [decide_eq_false h1, Bool.false_and, Bool.false_and, if_neg (by decide)]
   generalize L.getD 0 0=x at*
   refine FnOk.of_vc vE_ok mixed Qac (n:=1000) (r:=[]) (S:=i2 290) (hs:=[fn 6 (i6 (w:Nat)),no 7,pl 10,ld 11 (i6 x),yes 12]) ?_
   refine Eq.mp (by kernel_rfl:(let z0:=(0:Int);An [Sm (i6 290),An [TT 2,Tt],FnOk Pg g0 89 [V.agg [V.im L.length (ints L),V.im P.length (ut P)]] (i6 ↑w),Tt,((↑w:Int)==z0)=false,An [z0≤z0,z0<(↑L.length:Int)],headF (List.drop (Int.toNat z0*1) (ints L))=some (i6 x),(x != z0)=true,An [Sm (290:Int),Tt],Tt])=_) ?_
   (repeat'(first|(with_reducible apply And.intro)|(refine fun(_:True)=>?_)))
   all_goals first|exact hv|(with_reducible exact hld)|exact hu|exact hw0|exact aq|rfl|skip
def laL(L:List Int):Nat→Nat:=fun s=>(L.getD s 0).toNat
def paL(P:List Nat):Nat→Nat:=fun s=>P.getD s 0
structure LdOk(L:List Int)(P:List Nat)(w:Nat):Prop where
 w1:1≤w
 w5:w≤5
 lenL:L.length=2^w
 lenP:P.length=2^w
 ok:LadOk w (laL L) (paL P)
 nn: ∀s,0<s→s<2^w→L.getD s 0=(laL L s:Int)
 l0:L.getD 0 0=0
 p0:P.getD 0 0=0
theorem Qig{L:List Int}{P:List Nat}(h:ladB L P=true):LdOk L P (wdt L P):=by
 unfold ladB at h
 rw[Bool.and_eq_true,Bool.and_eq_true,decide_eq_true_eq]at h
 obtain⟨h1,h2,h3⟩:=h
 unfold ok0 at h2
 rw[Bool.and_eq_true,decide_eq_true_eq,decide_eq_true_eq]at h2
 obtain⟨w5,w1,w0⟩:=Qeh L P
 obtain⟨e1,e2⟩:=Qcp.1 (w1 h1)
 have key: ∀s,0<s→s<2^wdt L P→0≤L.getD s 0∧L.getD s 0<5∧s.testBit (L.getD s 0).toNat=true∧P.getD s 0&&& (s-2^(L.getD s 0).toNat)=P.getD s 0:=fun s hs hlt=>by
  have:=all_range.1 h3 s (by omega)
  rw[decide_eq_false (by omega),Bool.false_or]at this
  unfold okS at this
  simpa only[Bool.and_eq_true,decide_eq_true_eq]using this
 refine⟨h1,w5,e1,e2,⟨fun s hs hlt=>?_⟩,fun s hs hlt=>?_,h2.1,h2.2⟩
 ·obtain ⟨a, b, c, d⟩ := key s hs hlt
  exact⟨Qd5 _ w5 s hlt _ (by unfold laL;omega) c,c,d⟩
 ·obtain ⟨a, _⟩ := key s hs hlt
  exact(Int.toNat_of_nonneg a).symm
def gL(L:List Int)(P:List Nat)(w:Nat):Nat→Nat:=ladG (laL L) (paL P) w (2^w-1)
theorem uF_ut(f:Nat→Nat): ∀n,uF f n=ut ((List.range n).map f)
 |0=>rfl
 |n+1=>by
  show blF _ (n+1)=_
  rw[Qbe,show blF (fun i=>[u6 (f i:Nat)]) n=ut ((List.range n).map f)from uF_ut f n]
  unfold ut
  rw[List.range_succ,List.map_append,List.map_append];rfl
abbrev gV'(w:Nat)(f:Nat→Nat):V:=.im w (uF f w)
theorem gV_ul(w:Nat)(f:Nat→Nat):gV' w f=ul ((List.range w).map f):=by
 show V.im w (uF f w)=V.im ((List.range w).map f).length _
 rw[uF_ut];simp
theorem Qf9: ∀w,w≤5→popc (2^w-1)=w:=by decide+kernel
structure DownG(L:List Int)(P:List Nat)(w:Nat)(s:Nat)(g:Nat→Nat):Prop where
 lt:s<2^w
 sub: ∃f,popc s≤f∧∀v,s.testBit v=true→gL L P w v=ladG (laL L) (paL P) f s v
 at_: ∀v,v<w→g v=if s.testBit v then 0 else gL L P w v
abbrev b4(b:Bool):SL:={sl:=[(4,.bool b)]}
def goodL(L:List Int)(P:List Nat)(n:Nat):Bool:=decide (1≤n)&&(decide (n≤5)&&(isW L P n&&(ok0 L P&&okLd L P)))
theorem Qrw(L:List Int)(P:List Nat)(n:Nat):goodL L P n=(ladB L P&&decide (wdt L P=n)):=by
 obtain⟨w5,w1,w0⟩:=Qeh L P
 apply Bool.eq_iff_iff.2
 unfold goodL ladB
 simp only[Bool.and_eq_true,decide_eq_true_eq]
 constructor
 ·rintro ⟨a, b, c, d, e⟩
  have:=w0 n a b c
  exact⟨⟨by omega,d,e⟩,this⟩
 ·rintro ⟨⟨a, d, e⟩, f⟩
  subst f
  exact⟨a,w5,w1 a,d,e⟩
abbrev eqlS(a:List Nat)(k:Nat):SL:={sl:=[(0,ul a),(1,ul a),(12,i6 (a.length:Nat)),(13,i6 (k:Nat))]}
theorem eql_loop(a:List Nat)(h:a.length≤1000):Sat Pg none 0 (at' 58 [1,1,0,1,0]) (mkSt g0 26 (eqlS a 0)) (Qaf g0 26 [(True,.exit 0,{sl:=[]})]):=by
 have hu:=Qcl a
 refine Qbh vE_ok mixed Qac (b:=at' 58 [1,1,0,1,0,0]) (by kernel_rfl) (fun k=>True) (eqlS a) (fun k=>a.length-k) (fun k hk=>?_) 0 trivial
 by_cases hlt:k<a.length
 ·have hld := @Qep a k hlt
  generalize a.getD k 0=x at*
  refine .inl ⟨k+1,[],[yes 14,pl 18,ld 19 (u6 (x:Nat)),pl 22,ld 23 (u6 (x:Nat)),no 24,nu 25 ((k+1:Nat):Int)],1000,trivial,by omega,?_⟩
  refine Eq.mp (by kernel_rfl:(let z4:=An [Sm a.length,Sm (ut a)];let z0:=(↑a.length:Int);let z1:=(↑k:Int);let z2:=(↑(k+1):Int);let z3:=headF (List.drop (k*1) (ut a));An [decide (z1<z0)=true,An [(0:Int)≤z1,z1<z0],z3=some (u6 ↑x),An [(0:Int)≤z1,z1<z0],z3=some (u6 ↑x),((↑x:Int) != (↑x:Int))=false,wr .i64 (z1+(1:Int))=z2,An [z4,z4,z0=z0,z2=z2,Tt],Tt])=_) ?_
  (repeat'(first|(with_reducible apply And.intro)|(refine fun(_:True)=>?_)))
  all_goals first|(with_reducible exact hld)|exact hu|exact aq|rfl|skip
 ·refine .inr ⟨.exit 0, [], { sl := [] }, [no 14], 1000, .inl ⟨trivial, rfl, rfl⟩, ?_⟩
  refine Eq.mp (by kernel_rfl:(An [decide ((↑k:Int)<(↑a.length:Int))=false,Tt,Tt])=_) ?_
  (repeat'(first|(with_reducible apply And.intro)|(refine fun(_:True)=>?_)))
  all_goals first|exact hu|exact aq|rfl|skip
theorem Qha(a:List Nat)(h:a.length≤1000):FnOk Pg g0 58 [ul a,ul a] (.bool true):=by
 have hl:=eql_loop a h
 have hu:=Qcl a
 refine FnOk.of_vc vE_ok mixed Qac (n:=1000) (r:=[]) (S:=b4 true) (hs:=[no 10,(0,.loop [] (eqlS a 0) [(True,.exit 0,{sl:=[]})])]) ?_
 refine Eq.mp (by kernel_rfl:(let z1:=An [Sm a.length,Sm (ut a)];let z0:=(↑a.length:Int);An [Sm (V.bool true),(z0 != z0)=false,An [An [z1,z1,z0=z0,(↑(0:Nat):Int)=(0:Int),Tt],Tt],Sat Pg none 0 (at' 58 [1,1,0,1,0]) (mkSt g0 26 (eqlS a 0)) (Qaf g0 26 [(True,Ex.exit 0,SL.mk [] [] [] [])]),(True→An [An [Sm true,Tt],Tt]),Tt])=_) ?_
 (repeat'(first|(with_reducible apply And.intro)|(refine fun(_:True)=>?_)))
 all_goals first|exact hl|exact hu|exact aq|rfl|skip
set_option maxHeartbeats 1000000
section
variable (N:Nat) (o:Nat→Nat) (E n:Nat)
end
set_option maxHeartbeats 1000000
set_option maxRecDepth 100000
structure GrOk(n:Nat)(G:List Nat):Prop where
 len:G.length=n
 u:S64 G
section
variable (N:Nat) (o:Nat→Nat) (E n:Nat) (L:List Nat)
end
set_option maxHeartbeats 1000000
set_option maxRecDepth 100000
theorem Qjq{P P':Nat}{Q:Nat→Bool}(h:Bits P Q)(h':Bits P' Q):P=P':=Nat.eq_of_testBit_eq fun i=>(h.2 i).trans (h'.2 i).symm
theorem Qna(Q:Nat→Bool): ∀n,∃P,P<2^n∧∀u,P.testBit u=(decide (u<n)&&Q u)
 |0=>⟨0,by decide,fun u=>by simp⟩
 | n + 1 => by
  obtain⟨P,h1,h2⟩:=Qna Q n
  have hlt:2^n<2^(n+1):=Nat.pow_lt_pow_right (by omega) (by omega)
  cases hq:Q n with
  | true =>
   refine⟨P|||2^n,Nat.or_lt_two_pow (by omega) hlt,fun u=>?_⟩
   rw[Nat.testBit_or,h2,Nat.testBit_two_pow]
   by_cases hu:n=u
   ·subst hu;simp[hq]
   ·by_cases h3 : u < n
    ·simp[h3,hu,show u<n+1 by omega]
    ·simp[h3,hu,show¬u<n+1 by omega]
  | false =>
   refine⟨P,by omega,fun u=>?_⟩
   rw[h2]
   by_cases hu:n=u
   ·subst hu;simp[hq]
   ·by_cases h3 : u < n
    ·simp[h3,show u<n+1 by omega]
    ·simp[h3,show¬u<n+1 by omega]
theorem Qqm{Q:Nat→Bool}{n:Nat}(hn:n≤64)(h: ∀u,Q u=true→u<n): ∃P,Bits P Q∧P<2^n:=by
 obtain⟨P,h1,h2⟩:=Qna Q n
 have:2^n≤2^64:=Nat.pow_le_pow_right (by omega) hn
 refine⟨P,⟨Nat.lt_of_lt_of_le h1 this,fun u=>?_⟩,h1⟩
 rw[h2]
 cases hq:Q u with
 |false=>simp
 |true=>simp[h u hq]
theorem Qsu{n:Nat}{g:GG.Rel}{out Q:Nat→Bool}(hQ: ∀u,Q u=true→u<n): ∀v,v≤n→∀u,GG.pass n g out Q v u=true→u<n
 |0,_,u,h=>hQ u h
 |v+1,hv,u,h=>by
  unfold GG.pass GG.place1 at h
  simp only[Bool.or_eq_true,Bool.and_eq_true,decide_eq_true_eq]at h
  rcases h with h|⟨rfl,_⟩
  ·exact Qsu hQ v (by omega) u h
  ·omega
theorem Qcw{n:Nat}{g:GG.Rel}{out:Nat→Bool}: ∀t u,GG.passes n g out t u=true→u<n
 |0,u,h=>by cases h
 |t+1,u,h=>Qsu (Qcw t) n (Nat.le_refl _) u h
abbrev igZ(n P:Nat):SL:={sl:=[(1,i6 n),(5,u6 P)]}
theorem ig_out(l:List Nat)(n:Nat)(hl:l.length=n)(hn:n≤6)(h64:S64 l)(P:Nat)(hP:Bits P (GG.passes n (relL l) (outL l n) n)):
  Sat Pg none 0 (at' 78 [1,1,1,0,1,0]) (mkSt g0 37 (igX l n 0 0)) (Qaf g0 37 [(True,.exit 0,igZ n P)]):=by
 refine Qbh vE_ok mixed Qac (b:=at' 78 [1,1,1,0,1,0,0]) (by kernel_rfl) (fun q:Nat×Nat=>q.1≤n∧Bits q.2 (GG.passes n (relL l) (outL l n) q.1)) (fun q=>igX l n q.1 q.2) (fun q=>n-q.1) (fun q hq=>?_) (0,0) ⟨Nat.zero_le _,by decide,fun u=>Nat.zero_testBit u⟩
 obtain⟨t,p⟩:=q
 obtain⟨ht,hb⟩:=hq
 dsimp only at ht hb
 by_cases hlt:t<n
 ·obtain ⟨p2, hp2, _⟩ := Qqm (n := n) (Q := GG.passes n (relL l) (outL l n) (t + 1)) (by omega) (Qcw (t + 1))
  have hin:Sat Pg none 0 (at' 78 [1,1,1,0,1,0,0,1,1,0,0,1,0]) (mkSt g0 37 (igS l n t 0 p)) (Qaf g0 37 [(True,.exit 2,igX l n t p2)]):=by
   refine(ig_in l n hl hn h64 t p _ hb (Qcw t)).mono ?_
   rintro e st ⟨S',rfl,rfl,P',rfl,hP'⟩
   obtain rfl:=Qjq hP' hp2
   exact .inl ⟨trivial,rfl,rfl⟩
  refine .inl ⟨(t+1,p2),[],[yes 14,(0,.loop [] (igS l n t 0 p) [(True,.exit 2,igX l n t p2)]),nu 31 (t+1:Nat)],1000,⟨hlt,hp2⟩,by dsimp only;omega,?_⟩
  clear hp2 hb hP
  refine Eq.mp (by kernel_rfl:(let z3:=An [Sm l.length,Sm (ut l)];let z0:=(↑n:Int);let z1:=(↑(t+1):Int);let z2:=(↑t:Int);An [decide (z2<z0)=true,An [An [z3,z0=z0,Sm (↑p:Int),z0=z0,z2=z2,z3,Sm (↑l.length:Int),(↑(0:Nat):Int)=(0:Int),Tt],Tt],Sat Pg none 0 (at' 78 [1,1,1,0,1,0,0,1,1,0,0,1,0]) (mkSt g0 37 (igS l n t 0 p)) (Qaf g0 37 [(True,Ex.exit 2,igX l n t p2)]),(True→An [wr .i64 (z2+(1:Int))=z1,An [z3,z0=z0,Sm (↑p2:Int),z0=z0,z1=z1,Tt],Tt]),Tt])=_) ?_
  exact au
 ·have : t = n := by omega
  subst this
  obtain rfl:=Qjq hb hP
  refine .inr ⟨.exit 0,[],igZ t p,[no 14],1000,.inl ⟨trivial,rfl,rfl⟩,?_⟩
  clear hb hP
  refine Eq.mp (by kernel_rfl:(let z0:=(↑t:Int);An [decide (z0<z0)=false,An [z0=z0,Sm (↑p:Int),Tt],Tt])=_) ?_
  exact au
abbrev bR4(b:Bool):SL:={sl:=[(4,.bool b)]}
theorem Qhg(l:List Nat)(n:Nat)(hn:n≤6)(h64:S64 l):FnOk Pg g0 78 [ul l,i6 n] (.bool (decide (l.length=n)&&GG.placedAll n (relL l) (outL l n))):=by
 by_cases hl:l.length=n
 ·rw [decide_eq_true hl, Bool.true_and]
  obtain⟨P,hP,hPn⟩:=Qqm (n:=n) (Q:=GG.passes n (relL l) (outL l n) n) (by omega) (Qcw n)
  have lo_:=ig_out l n hl hn h64 P hP
  obtain⟨s1,s2⟩:=@shl1_u (Qae Pg) 28 n (by omega)
  have hpos:=Nat.two_pow_pos n
  have hiff:P=2^n-1↔GG.placedAll n (relL l) (outL l n)=true:=by
   constructor
   ·intro h
    refine GG.all_range.2 fun u hu=>?_
    rw[←hP.2,h,Nat.testBit_two_pow_sub_one];simpa using hu
   ·intro h
    apply Nat.eq_of_testBit_eq
    intro u
    rw[hP.2,Nat.testBit_two_pow_sub_one]
    by_cases hu:u<n
    ·rw[GG.all_range.1 h u hu];simp[hu]
    ·cases hq : GG.passes n (relL l) (outL l n) n u with
     |false=>simp[hu]
     |true=>exact absurd (Qcw n u hq) hu
  cases hb:GG.placedAll n (relL l) (outL l n)with
  |true=>
   have hPe:=hiff.2 hb
   generalize 2^n=w at*
   have hP1:P=w-1:=hPe
   clear hiff hb hP hPe
   refine FnOk.of_vc vE_ok mixed Qac (n:=1000) (r:=[]) (S:=bR4 true) (hs:=[no 11,(0,.loop [] (igX l n 0 0) [(True,.exit 0,igZ n P)]),va 34 (u6 w),nu 35 (w-1:Nat),yes 36]) ?_
   refine Eq.mp (by kernel_rfl:(let z0:=(↑n:Int);An [Sm (V.bool true),((↑l.length:Int) != z0)=false,An [An [An [Sm l.length,Sm (ut l)],z0=z0,(↑(0:Nat):Int)=(0:Int),z0=z0,(↑(0:Nat):Int)=(0:Int),Tt],Tt],Sat Pg none 0 (at' 78 [1,1,1,0,1,0]) (mkSt g0 37 (igX l n 0 0)) (Qaf g0 37 [(True,Ex.exit 0,igZ n P)]),(True→An [binV (Qae Pg) .shl 28 (u6 1) (i6 ↑n)=some (u6 ↑w),wr .u64 ((↑w:Int)-(1:Int))=(↑(w-1):Int),((↑P:Int)==(↑(w-1):Int))=true,An [Sm true,Tt],Tt]),Tt])=_) ?_
   (repeat'(first|(with_reducible apply And.intro)|(refine fun(_:True)=>?_)))<;>first|exact aq|skip
   all_goals exact Qjf (by simp[lo];omega) (by simp[hi];omega) |>.trans (by omega)
  |false=>
   have hPe:P≠2^n-1:=fun h=>by rw[hiff.1 h]at hb;cases hb
   generalize 2^n=w at*
   clear hiff hb hP
   refine FnOk.of_vc vE_ok mixed Qac (n:=1000) (r:=[]) (S:=bR4 false) (hs:=[no 11,(0,.loop [] (igX l n 0 0) [(True,.exit 0,igZ n P)]),va 34 (u6 w),nu 35 (w-1:Nat),no 36]) ?_
   refine Eq.mp (by kernel_rfl:(let z0:=(↑n:Int);An [Sm (V.bool false),((↑l.length:Int) != z0)=false,An [An [An [Sm l.length,Sm (ut l)],z0=z0,(↑(0:Nat):Int)=(0:Int),z0=z0,(↑(0:Nat):Int)=(0:Int),Tt],Tt],Sat Pg none 0 (at' 78 [1,1,1,0,1,0]) (mkSt g0 37 (igX l n 0 0)) (Qaf g0 37 [(True,Ex.exit 0,igZ n P)]),(True→An [binV (Qae Pg) .shl 28 (u6 1) (i6 ↑n)=some (u6 ↑w),wr .u64 ((↑w:Int)-(1:Int))=(↑(w-1):Int),((↑P:Int)==(↑(w-1):Int))=false,An [Sm false,Tt],Tt]),Tt])=_) ?_
   (repeat'(first|(with_reducible apply And.intro)|(refine fun(_:True)=>?_)))<;>first|exact aq|skip
   all_goals exact Qjf (by simp[lo];omega) (by simp[hi];omega) |>.trans (by omega)
 ·rw [decide_eq_false hl, Bool.false_and]
  refine FnOk.of_vc vE_ok mixed Qac (n:=1000) (r:=[]) (S:=bR4 false) (hs:=[yes 11]) ?_
  refine Eq.mp (by kernel_rfl:(An [Sm (V.bool false),((↑l.length:Int) != (↑n:Int))=true,An [Sm false,Tt],Tt])=_) ?_
  exact au
def Qn2(l:List Nat):Bool:=decide (1≤l.length)&&(decide (l.length≤6)&&((List.range l.length).all (fun u=> !outL l l.length u)&&GG.acyclic l.length (relL l)))
def Qib(n:Nat)(l:List Nat):Bool:=decide (l.length=n)&&Qn2 l
theorem Qkc(n:Nat)(l:List Nat)(h1:1≤n)(h6:n≤6):(decide (l.length=n)&&GG.placedAll n (relL l) (outL l n))=Qib n l:=by
 unfold Qib Qn2
 by_cases hl:l.length=n
 ·rw [decide_eq_true hl, hl, decide_eq_true h1, decide_eq_true h6, Bool.true_and, Bool.true_and, Bool.true_and, Bool.true_and]
  exact GG.graph_same (fun u _ ho p hp=>out_in ho p hp)
 ·rw[decide_eq_false hl,Bool.false_and,Bool.false_and]
theorem Qtn{α:Type}{f:α→Int}{b:Int}: ∀l:List α,(∀x∈l,-b≤f x∧f x≤b)→ -(b*(l.length:Int))≤sumI (l.map f)∧sumI (l.map f)≤b*(l.length:Int)
 |[],_=>by simp[sumI]
 | x :: l, h => by
  have h1:=Qtn l (fun y hy=>h y (List.mem_cons_of_mem _ hy))
  have h2:=h x List.mem_cons_self
  have e:b*(((x::l).length:Nat):Int)=b*(l.length:Int)+b:=by
   rw[List.length_cons,Int.natCast_add,Int.mul_add];simp
  rw[List.map_cons,sumI,e];omega
theorem rows_bdA{P:List (Nat×Nat)}{r:Nat}(hP: ∀p∈P,p.2<r)(h40:P.length≤40)(hr1:1≤r)(hr4:r≤4){i:Nat}(hi:i<18)(j:Nat): -250≤conF facF r (rowL P r j) i∧conF facF r (rowL P r j) i≤250:=by
 have h1:=Qde (r:=r) P j hP
 have h2:=Qcj P r j
 have h3:=Qlc fac_ok hi (rowL P r j) (fun c hc=>by have:=Qdd hc;omega)
 have h5:=fac_ok.bd (r-1) i (by omega) hi
 have h6:=fac_ok.bd (sumN (rowL P r j)+(r-1)) i (by omega) hi
 unfold conF;omega
theorem fam_bd{cards:List Nat}{cs:List (List Nat)}{v ps:Nat}(hc:CardsOk cards)(hcs: ∀c∈cs,CaseOk cards c)(hv:v<cards.length)(hm:cs.length≤40){i:Nat}(hi:i<18): -10000≤famF cards cs v ps i∧famF cards cs v ps i≤10000:=by
 have hpo:=Qiq (ps:=ps) hc hcs hv
 have hr:=hc.each v hv
 have hlt:=fun p hp=>(hpo p hp).2
 have hel:=Qdo hlt
 have hpl:(Qar cards v ps cs).length≤40:=by simpa [Qar]using hm
 have hE:=Qbo _ hlt
 unfold famF
 rw[←Qdp (Qh8 i hi) hpo]
 have:=Qtn (f:=fun e=>conF facF (cards.getD v 0) e.2 i) (b:=250) (Qan (cards.getD v 0) (Qar cards v ps cs)) (fun e he=>by
  rw[hE.row e he]
  exact rows_bdA hlt hpl (by omega) hr.2 hi e.1)
 omega
def graF(cards:List Nat)(cs:List (List Nat))(l:List Nat):Nat→Nat→Int
 |0=>Qaj
 |k+1=>addA (graF cards cs l k) (famF cards cs k (l.getD k 0)) 1
theorem gra_bd{cards:List Nat}{cs:List (List Nat)}{l:List Nat}(hc:CardsOk cards)(hcs: ∀c∈cs,CaseOk cards c)(hm:cs.length≤40){i:Nat}(hi:i<18): ∀k:Nat,k≤cards.length→ -(10000*(k:Int))≤graF cards cs l k i∧graF cards cs l k i≤10000*(k:Int)
 |0,_=>by simp[graF,Qaj]
 |k+1,hk=>by
  have h1:=gra_bd (l:=l) hc hcs hm hi k (by omega)
  have h2:=fam_bd (ps:=l.getD k 0) hc hcs (show k<cards.length by omega) hm hi
  have e:graF cards cs l (k+1) i=graF cards cs l k i+1*famF cards cs k (l.getD k 0) i:=rfl
  rw[e];omega
abbrev grO(cards:List Nat)(cs:List (List Nat))(f:Nat→Int):List O:=[dO cards cs,.row 41 none (arF Qaj),.row 41 none (arF f)]
abbrev sgS(cards:List Nat)(cs:List (List Nat))(l:List Nat)(F:Nat→Nat→Int)(k:Nat):SL:={sl:=[(2,.ptr 0 0),(4,.ptr 1 0),(7,.ptr 2 0),(23,ul l),(24,i6 l.length),(25,i6 k)],os:=grO cards cs (F k)}
abbrev sgX(f:Nat→Int):SL:={sl:=[(4,.ptr 0 0),(7,.ptr 1 0)],os:=[.row 41 none (arF Qaj),.row 41 none (arF f)]}
theorem sg_loop(cards:List Nat)(cs:List (List Nat))(l:List Nat)(hc:CardsOk cards)(hcs: ∀c∈cs,CaseOk cards c)(hm:cs.length≤40)(hl:l.length=cards.length):
  Sat Pg none 0 (at' 28 [1,1,1,1,0,1,0]) (mkSt g0 38 (sgS cards cs l (graF cards cs l) 0)) (Qaf g0 38 [(True,.exit 0,sgX (graF cards cs l l.length))]):=by
 have hstep: ∀k,graF cards cs l (k+1)=addA (graF cards cs l k) (famF cards cs k (l.getD k 0)) 1:=fun _=>rfl
 have hbd:=fun i(hi:i<18) k hk=>gra_bd (l:=l) hc hcs hm hi k hk
 generalize graF cards cs l=F at*
 refine Qbh vE_ok mixed Qac (b:=at' 28 [1,1,1,1,0,1,0,0]) (by kernel_rfl) (fun k=>k≤l.length) (sgS cards cs l F) (fun k=>l.length-k) (fun k hk=>?_) 0 (Nat.zero_le _)
 by_cases hlt:k<l.length
 ·have hld := @Qep l k hlt
  have hf:=Qka cards cs k (l.getD k 0) hc hcs (by omega) hm
  have h6:=hc.six
  have hcm:=comb (F k) (famF cards cs k (l.getD k 0)) 1 (fun i hi=>by
   have:=hbd i hi k (by omega)
   omega) (fun i hi=>by
   have:=fam_bd (ps:=l.getD k 0) hc hcs (show k<cards.length by omega) hm hi
   omega)
  refine .inl ⟨k+1,[0,1,2],[yes 26,pl 28,ld 29 (u6 (l.getD k 0:Nat)),fn 34 (ar (famF cards cs k (l.getD k 0))),fn 35 (ar (F (k+1))),nu 36 (k+1:Nat)],1000,hlt,by omega,?_⟩
  rw[←hstep]at hcm
  clear hstep hbd
  generalize famF cards cs k (l.getD k 0)=f3 at*
  generalize l.getD k 0=s at*
  refine Eq.mp (by kernel_rfl:(let z0:=ofOs T.e 0 (grO cards cs (F k));let z1:=(↑l.length:Int);let z2:=(↑(k+1):Int);let z3:=(↑k:Int);let z4:=[nl cards,cV cs];let z5:=F (k+1);An [decide (z3<z1)=true,An [(0:Int)≤z3,z3<z1],headF (List.drop (k*1) (ut l))=some (u6 ↑s),An [TT 2,TT 2],FnOk Pg g0 73 [V.agg [V.im cards.length (nt cards),V.im cs.length (List.map nl cs)],i6 ↑k,u6 ↑s] (ar f3),Tt,An [TT 18,TT 18,Tt,Tt],FnOk Pg g0 79 [V.agg (arF (F k)),V.agg (arF f3),i6 1] (ar z5),An [(V.fn 73 []=V.fn 79 []→[V.agg z4,i6 ↑k,u6 ↑s]=[V.agg (arF (F k)),ar f3,i6 1]→z0=z0→3=3→CR.mk (ar f3) z0 3 []=CR.mk (ar z5) z0 3 []),Tt],wr .i64 (z3+(1:Int))=z2,An [Zz,Zz,Zz,An [Sm l.length,Sm (ut l)],z1=z1,z2=z2,Tt],An [z4=z4,TT 2],An [Sm (arF Qaj),TT 18],An [Sm (arF z5),TT 18],Tt])=_) ?_
  exact au
 ·have : k = l.length := by omega
  subst this
  clear hstep hbd
  refine .inr ⟨.exit 0,[1,2],sgX (F l.length),[no 26],1000,.inl ⟨trivial,rfl,rfl⟩,?_⟩
  refine Eq.mp (by kernel_rfl:(An [decide ((↑l.length:Int)<(↑l.length:Int))=false,An [Zz,Zz,Tt],An [Sm (arF Qaj),TT 18],An [Sm (arF (F l.length)),TT 18],Tt])=_) ?_
  exact au
theorem fits_out{n:Nat}{l:List Nat}(h:Qib n l=true):l.length=n∧∀k,l.getD k 0<2^n:=by
 unfold Qib Qn2 at h
 simp only[Bool.and_eq_true,decide_eq_true_eq]at h
 obtain⟨hl,h1,h2,h3,h4⟩:=h
 refine⟨hl,fun k=>?_⟩
 by_cases hk:k<l.length
 ·have := GG.all_range.1 h3 k hk
  unfold outL at this
  rw[hl]at this
  have h0:l.getD k 0/2^n=0:=by simpa using this
  rcases Nat.lt_or_ge (l.getD k 0) (2^n)with h'|h'
  ·exact h'
  ·have:=Nat.div_pos h' (Nat.two_pow_pos _);omega
 ·rw [List.getD_eq_getElem?_getD, List.getElem?_eq_none (by omega)]
  exact Nat.two_pow_pos _
def graG(cards:List Int)(cs:List (List Int))(l:List Nat):Nat→Int:=graF (toN cards) (cs.map toN) l l.length
abbrev gpS(f:Nat→Int)(e:Int):SL:={sl:=[(4,.ptr 0 0),(5,i6 e)],os:=[.row 41 none (arF f)]}
theorem sgra_arg(cards:List Int)(cs:List (List Int))(l:List Nat)(hl1:cards.length≤6)(hl2:cs.length≤1000)(hcl: ∀c∈cs,c.length≤1000)(h64:S64 l)(h:goodE cards cs=0)(hf:Qib cards.length l=false):FnOk Pg g0 28 [gV cards cs,ul l] (.tup [ar Qaj,i6 2]):=by
 have h1:=Qbl cards cs (by omega) hl2 hcl
 have hw:=Qe3 h
 have hpos:=hw.cok.pos
 rw[Qaq]at hpos
 rw[h]at h1
 have h2:=Qhg l cards.length hl1 h64
 rw[Qkc _ l hpos hl1,hf]at h2
 refine FnOk.of_vc vE_ok mixed Qac (n:=1000) (r:=[1]) (S:=gpS Qaj 2) (hs:=[fn 11 (i6 0),no 13,fn 20 (.bool false)]) ?_
 refine Eq.mp (by kernel_rfl:(An [V.tup [V.agg (arF Qaj),i6 2]=V.tup [ar Qaj,i6 2],An [TT 2,Tt],FnOk Pg g0 72 [V.agg [V.im cards.length (ints cards),V.im cs.length (List.map sl cs)]] (i6 0),Tt,((0:Int) != (0:Int))=false,TT 2,FnOk Pg g0 78 [V.im l.length (ut l),i6 ↑cards.length] (V.bool false),Tt,An [Zz,Sm (2:Int),Tt],An [arF Qaj=[i6 0,i6 0,i6 0,i6 0,i6 0,i6 0,i6 0,i6 0,i6 0,i6 0,i6 0,i6 0,i6 0,i6 0,i6 0,i6 0,i6 0,i6 0],TT 18],Tt])=_) ?_
 exact au
theorem sgra_ok(cards:List Int)(cs:List (List Int))(l:List Nat)(hl1:cards.length≤6)(hl2:cs.length≤1000)(hcl: ∀c∈cs,c.length≤1000)(h64:S64 l)(h:goodE cards cs=0)(hf:Qib cards.length l=true):FnOk Pg g0 28 [gV cards cs,ul l] (.tup [ar (graG cards cs l),i6 0]):=by
 have h1:=Qbl cards cs (by omega) hl2 hcl
 have hw:=Qe3 h
 have hpos:=hw.cok.pos
 rw[Qaq]at hpos
 rw[h]at h1
 have h2:=Qhg l cards.length hl1 h64
 rw[Qkc _ l hpos hl1,hf]at h2
 have f1:=(fits_out hf).1
 have lo_:=sg_loop (toN cards) (cs.map toN) l hw.cok hw.rok (by rw[List.length_map];exact hw.len) (by rw[Qaq];exact f1)
 unfold graG
 rw[hw.eq]at h1⊢
 rw[←Qaq cards]at h2
 have h0:arF (graF (toN cards) (cs.map toN) l 0)=arF Qaj:=rfl
 generalize graF (toN cards) (cs.map toN) l=F at*
 clear h hf
 generalize toN cards=cards at*
 generalize cs.map toN=cs at*
 refine FnOk.of_vc vE_ok mixed Qac (n:=1000) (r:=[0]) (S:=gpS (F l.length) 0) (hs:=[fn 11 (i6 0),no 13,fn 20 (.bool true),(0,.loop [0,1,2] (sgS cards cs l F 0) [(True,.exit 0,sgX (F l.length))])]) ?_
 refine Eq.mp (by kernel_rfl:(let z0:=[i6 0,i6 0,i6 0,i6 0,i6 0,i6 0,i6 0,i6 0,i6 0,i6 0,i6 0,i6 0,i6 0,i6 0,i6 0,i6 0,i6 0,i6 0];let z1:=F l.length;let z2:=(0:Int);An [V.tup [V.agg (arF z1),i6 0]=V.tup [ar z1,i6 0],An [TT 2,Tt],FnOk Pg g0 72 [V.agg [V.im cards.length (nt cards),V.im cs.length (List.map nl cs)]] (i6 0),Tt,(z2 != z2)=false,TT 2,FnOk Pg g0 78 [V.im l.length (ut l),i6 ↑cards.length] (V.bool true),Tt,An [An [Zz,Zz,Zz,An [Sm l.length,Sm (ut l)],Sm (↑l.length:Int),(↑(0:Nat):Int)=z2,Tt],An [Sm [nl cards,cV cs],TT 2],An [arF Qaj=z0,TT 18],An [arF (F 0)=z0,TT 18],Tt],Sat Pg none 0 (at' 28 [1,1,1,1,0,1,0]) (mkSt g0 38 (sgS cards cs l F 0)) (Qaf g0 38 [(True,Ex.exit 0,sgX z1)]),(True→An [An [Zz,z2=z2,Tt],An [Sm (arF z1),TT 18],Tt]),Tt])=_) ?_
 exact au
theorem Qsz{n:Nat}{G:List Nat}(h1:1≤n)(h6:n≤6)(hG:G.length=n)(r:Nat→Nat)(hr: ∀u,u<n→∀p,relL G u p=true→p<n∧r p<r u):Qib n G=true:=by
 unfold Qib Qn2
 rw[hG]
 simp only[decide_true,Bool.true_and]
 rw[decide_eq_true h1,decide_eq_true h6,Bool.true_and,Bool.true_and,Bool.and_eq_true]
 refine⟨GG.all_range.2 fun u hu=>?_,GG.all_range.2 fun i hi=>?_⟩
 ·rw[in_out fun p hp=>(hr u hu p hp).1];rfl
 ·cases hc : GG.clo n (relL G) i n i with
  |false=>rfl
  |true=>have:=(GG.clo_below hr hi n i hc).2;omega
theorem Qid{f:Nat→Nat}{n k:Nat}(h:k<n):((List.range n).map f).getD k 0=f k:=by
 rw[List.getD_eq_getElem?_getD,List.getElem?_eq_getElem (by simpa using h)];simp
theorem Qru{f:Nat→Int}{n k:Nat}(h:k<n):((List.range n).map f).getD k 0=f k:=by
 rw[List.getD_eq_getElem?_getD,List.getElem?_eq_getElem (by simpa using h)];simp
theorem bit_lt{s n p:Nat}(h:s<2^n)(hb:s.testBit p=true):p<n:=by
 rcases Nat.lt_or_ge p n with h'|h'
 ·exact h'
 ·rw[Nat.testBit_lt_two_pow (Nat.lt_of_lt_of_le h (Nat.pow_le_pow_right (by decide) h'))]at hb;cases hb
theorem Qpv{n:Nat}{g r:Nat→Nat}(h1:1≤n)(h6:n≤6)(hg:Qqd n g r):Qib n ((List.range n).map g)=true:=
 Qsz h1 h6 (by simp) r fun u hu p hp=>by
  unfold relL at hp
  rw[Qid hu]at hp
  have hpn:=bit_lt (hg u hu).1 hp
  exact⟨hpn,(hg u hu).2 p hpn hp⟩
theorem gra_sc{cards:List Int}{cs:List (List Int)}{l:List Nat}(hl:l.length=cards.length)(hn:cards.length≤5):graG cards cs l=scG (fF cards cs) (fun v=>l.getD v 0) (2^cards.length-1) cards.length:=by
 have key: ∀k,k≤cards.length→graF (toN cards) (cs.map toN) l k=scG (fF cards cs) (fun v=>l.getD v 0) (2^cards.length-1) k:=by
  intro k
  induction k with
  |zero=>intro _;rfl
  | succ k ih =>
   intro hk
   rw[graF,scG,Qic _ hn k (by omega),decide_eq_true (show k<cards.length by omega),if_pos rfl,ih (by omega)]
   have:fF cards cs k (l.getD k 0)=famF (toN cards) (cs.map toN) k (l.getD k 0):=by
    unfold fF famG
    rw[if_pos (by omega)];rfl
   rw[this]
 unfold graG
 rw[hl]
 exact key _ (Nat.le_refl _)
theorem gra_map{cards:List Int}{cs:List (List Int)}{g:Nat→Nat}(hn:cards.length≤5):graG cards cs ((List.range cards.length).map g)=scG (fF cards cs) g (2^cards.length-1) cards.length:=by
 rw[gra_sc (by simp) hn]
 exact Qed _ (fun _ _=>rfl) fun v hv _=>Qid hv
theorem Qtq(n lim:Nat)(F:Nat→Nat→Nat→Int):topB n lim F 0=Qaj:=by
 unfold topB
 rw[Qmm (fun v _=>Nat.zero_testBit v)];rfl
section
variable {n lim:Nat} {F:Nat→Nat→Nat→Int}
theorem sol_at(hF: ∀v p,inB (F v p) 160)(hn:n≤5){s:Nat}(h0:0<s)(hs:s<2^n):laT n lim F (2^n) s<n∧s.testBit (laT n lim F (2^n) s)=true∧okT lim s (laT n lim F (2^n) s) (paT n lim F (2^n) s)=true∧topB n lim F s=addA (topB n lim F (s-2^laT n lim F (2^n) s)) (F (laT n lim F (2^n) s) (paT n lim F (2^n) s)) 1:=by
 obtain⟨v,p,h1,h2,h3,h4,h5⟩:=top_is (lim:=lim) hF hn hs h0
 have e1:laT n lim F (2^n) s=v:=by rw[la_at _ _ _ _ _ hs,h4];rfl
 have e2:paT n lim F (2^n) s=p:=by rw[pa_at _ _ _ _ _ hs,h4];rfl
 rw[e1,e2]
 exact⟨h1,h2,h3,h5⟩
def mkL(la:Nat→Nat)(n:Nat):List Int:=(List.range (2^n)).map fun s=>((la s:Nat):Int)
def mkP(pa:Nat→Nat)(n:Nat):List Nat:=(List.range (2^n)).map pa
theorem mk_l{la:Nat→Nat}{s:Nat}(hs:s<2^n):(mkL la n).getD s 0=((la s:Nat):Int):=Qru hs
theorem mk_p{pa:Nat→Nat}{s:Nat}(hs:s<2^n):(mkP pa n).getD s 0=pa s:=Qid hs
theorem mk_la{la:Nat→Nat}{s:Nat}(hs:s<2^n):laL (mkL la n) s=la s:=by unfold laL;rw[mk_l hs];rfl
theorem mk_pa{pa:Nat→Nat}{s:Nat}(hs:s<2^n):paL (mkP pa n) s=pa s:=mk_p hs
theorem mk_wdt(la pa:Nat→Nat)(h1:1≤n)(hn:n≤5):wdt (mkL la n) (mkP pa n)=n:=
 (Qeh _ _).2.2 n h1 hn (Qcp.2 ⟨by simp[mkL],by simp[mkP]⟩)
theorem mk_lad{la pa:Nat→Nat}(h1:1≤n)(hn:n≤5)(hl0:la 0=0)(hp0:pa 0=0)(h: ∀s,0<s→s<2^n→la s<n∧s.testBit (la s)=true∧pa s&&& (s-2^la s)=pa s):ladB (mkL la n) (mkP pa n)=true:=by
 have hp:0<2^n:=Nat.pow_pos (by decide)
 have h32:=Qaz hn
 unfold ladB
 rw[mk_wdt la pa h1 hn,decide_eq_true h1,Bool.true_and,Bool.and_eq_true]
 constructor
 ·unfold ok0
  rw[mk_l hp,mk_p hp,hl0,hp0]
  rfl
 ·refine all_range.2 fun s hs => ?_
  have hs':s<2^n:=by simpa [mkL]using hs
  rcases Nat.eq_zero_or_pos s with h0|h0
  ·rw[decide_eq_true h0];rfl
  ·obtain ⟨a, b, c⟩ := h s h0 hs'
   rw[Bool.or_eq_true]
   right
   unfold okS
   rw[mk_l hs',mk_p hs',Int.toNat_natCast]
   rw[decide_eq_true (by omega),decide_eq_true (by omega),b,decide_eq_true c]
   rfl
theorem mk_ok{la pa:Nat→Nat}(h1:1≤n)(hn:n≤5)(hl0:la 0=0)(hp0:pa 0=0)(h: ∀s,0<s→s<2^n→la s<n∧s.testBit (la s)=true∧pa s&&& (s-2^la s)=pa s):LdOk (mkL la n) (mkP pa n) n:=by
 have:=Qig (mk_lad h1 hn hl0 hp0 h)
 rwa [mk_wdt la pa h1 hn]at this
variable (n lim F)in
abbrev solL:List Int:=mkL (laT n lim F (2^n)) n
variable (n lim F)in
abbrev solP:List Nat:=mkP (paT n lim F (2^n)) n
theorem sol_0:laT n lim F (2^n) 0=0∧paT n lim F (2^n) 0=0:=by
 have hp:0<2^n:=Nat.pow_pos (by decide)
 rw[la_at _ _ _ _ _ hp,pa_at _ _ _ _ _ hp,Qmm (fun v _=>Nat.zero_testBit v)]
 exact⟨rfl,rfl⟩
theorem sol_pos(hF: ∀v p,inB (F v p) 160)(hn:n≤5): ∀s,0<s→s<2^n→laT n lim F (2^n) s<n∧s.testBit (laT n lim F (2^n) s)=true∧paT n lim F (2^n) s&&& (s-2^laT n lim F (2^n) s)=paT n lim F (2^n) s:=fun s h0 hs=>by
 have h32:=Qaz hn
 obtain⟨a,b,c,_⟩:=sol_at (lim:=lim) hF hn h0 hs
 have hps:=(Qbv.1 c).1
 have hp32:paT n lim F (2^n) s<32:=by
  rw[←hps];exact Nat.lt_of_le_of_lt Nat.and_le_right (by omega)
 exact⟨a,b,((Qdt (by omega) (by omega) b hp32).1 c).1⟩
def rgtB(n lim:Nat)(F:Nat→Nat→Nat→Int)(L:List Int)(P:List Nat):Bool:=(List.range (2^n)).all fun s=>decide (s=0)||(decide (popc (P.getD s 0)≤lim)&&eqA (addA (topB n lim F (s-2^laL L s)) (F (laL L s) (paL P s)) 1) (topB n lim F s))
theorem Qtf(hF: ∀v p,inB (F v p) 160)(hn:n≤5):rgtB n lim F (solL n lim F) (solP n lim F)=true:=by
 refine all_range.2 fun s hs=>?_
 rcases Nat.eq_zero_or_pos s with h0|h0
 ·rw[decide_eq_true h0];rfl
 ·obtain ⟨a, b, c, d⟩ := sol_at (lim := lim) hF hn h0 hs
  rw[Bool.or_eq_true]
  right
  rw[mk_p hs,mk_la hs,mk_pa hs,←d,Qd2,decide_eq_true (Qbv.1 c).2.2]
  rfl
theorem ladG_in{la pa:Nat→Nat}: ∀f s v,(∀t,0<t→t≤s→t.testBit (la t)=true)→ladG la pa f s v=0∨∃t,0<t∧t≤s∧ladG la pa f s v=pa t
 |0,_,_,_=>.inl rfl
 | f + 1, s, v, h => by
  rw[ladG]
  split
  ·exact .inl rfl
  ·rename_i h0
   split
   ·exact .inr ⟨s,by omega,Nat.le_refl _,rfl⟩
   ·have hsb := Nat.sub_le s (2 ^ la s)
    rcases ladG_in f (s-2^la s) v (fun t h1 h2=>h t h1 (Nat.le_trans h2 hsb))with h1|⟨t,h1,h2,h3⟩
    ·exact .inl h1
    ·exact .inr ⟨t,h1,Nat.le_trans h2 hsb,h3⟩
theorem Qn7{L:List Int}{P:List Nat}(h:LdOk L P n):Qqd n (gL L P n) (ladR (laL L) n (2^n-1)):=fun v hv=>by
 have h5:=h.w5
 have hp:0<2^n:=Nat.pow_pos (by decide)
 refine⟨Qr7 h5 h.ok n _ v (by omega),fun p hp2 hb=>?_⟩
 exact(Qkm h5 h.ok n _ (by omega) (by rw[Qf9 n h5];exact Nat.le_refl _) v hv (by rw[Qic n h5 v (by omega),decide_eq_true hv]) p hp2 hb).2
theorem Qkn{L:List Int}{P:List Nat}(h:LdOk L P n)(hr:rgtB n lim F L P=true): ∀i,i<18→scG F (gL L P n) (2^n-1) n i=topB n lim F (2^n-1) i:=by
 have h5:=h.w5
 have hp:0<2^n:=Nat.pow_pos (by decide)
 refine Qhh h5 h.ok (B:=topB n lim F) (fun i _=>by rw[Qtq];rfl) (fun s h0 hs i hi=>?_) n _ (by omega) (by rw[Qf9 n h5];exact Nat.le_refl _)
 have:=all_range.1 hr s hs
 rw[decide_eq_false (by omega),Bool.false_or,Bool.and_eq_true]at this
 have:=(Qem.1 this.2) i hi
 rw[←this,Qbq]
theorem Qr9{L:List Int}{P:List Nat}(h:LdOk L P n)(hr:rgtB n lim F L P=true)(v:Nat):popc (gL L P n v)≤lim:=by
 have hp:0<2^n:=Nat.pow_pos (by decide)
 rcases ladG_in (la:=laL L) (pa:=paL P) n (2^n-1) v (fun t h1 h2=>(h.ok.at_ t h1 (by omega)).2.1)with e|⟨t,h1,h2,e⟩
 ·rw[show gL L P n v=0 from e];exact Nat.zero_le _
 ·rw [show gL L P n v = paL P t from e]
  have:=all_range.1 hr t (by omega)
  rw[decide_eq_false (by omega),Bool.false_or,Bool.and_eq_true]at this
  exact of_decide_eq_true this.1
theorem sc_top(hF: ∀v p,inB (F v p) 160)(h1:1≤n)(hn:n≤5){g r:Nat→Nat}(hg:Qqd n g r)(hl: ∀v,v<n→popc (g v)≤lim):nvF (scG F g (2^n-1) n)≤nvF (topB n lim F (2^n-1)):=by
 have hp:0<2^n:=Nat.pow_pos (by decide)
 exact sc_le hF hn hg hl n _ (by omega) (Qf9 n hn) fun v hv hb p hp hgp=>by rw[Qic n hn p (by omega),decide_eq_true hp]
theorem sol_ok(hF: ∀v p,inB (F v p) 160)(h1:1≤n)(hn:n≤5):LdOk (solL n lim F) (solP n lim F) n:=mk_ok h1 hn sol_0.1 sol_0.2 (sol_pos hF hn)
theorem Qts(hF: ∀v p,inB (F v p) 160)(h1:1≤n)(hn:n≤5){lim':Nat}(hl:lim≤lim'):nvF (topB n lim F (2^n-1))≤nvF (topB n lim' F (2^n-1)):=by
 have ho:=sol_ok (lim:=lim) hF h1 hn
 have hr:=Qtf (lim:=lim) hF hn
 rw[←Qoh (Qkn ho hr)]
 exact sc_top hF h1 hn (Qn7 ho) fun v _=>Nat.le_trans (Qr9 ho hr v) hl
theorem popc0: ∀p,p<32→popc p≤0→p=0:=by decide+kernel
theorem top_none(hF: ∀v p,inB (F v p) 160)(h1:1≤n)(hn:n≤5): ∀i,i<18→topB n 0 F (2^n-1) i=scG F (fun _=>0) (2^n-1) n i:=by
 intro i hi
 have ho:=sol_ok (lim:=0) hF h1 hn
 have hr:=Qtf (lim:=0) hF hn
 have h32:=Qaz hn
 rw[←Qkn ho hr i hi]
 refine congrFun (Qed n (fun _ _=>rfl) fun v hv _=>?_) i
 exact popc0 _ (by have:=(Qn7 ho v hv).1;omega) (Qr9 ho hr v)
theorem cmp_le{a b:Nat→Int}(ha:inB a 800)(hb:inB b 800)(h:nvF a≤nvF b):cmpF a b≤0:=by
 rw[Qh4 (ha.mono (by decide)) (hb.mono (by decide))]
 exact Qtc.2 h
end
def eqv:BSt→BSt→Prop
 |none,none=>True
 |some (v,p,x),some (v',p',y)=>v=v'∧p=p'∧∀i,i<18→x i=y i
 | _,_=>False
theorem Qpa{a b c d:Nat→Int}(h: ∀i,i<18→a i=b i)(k: ∀i,i<18→c i=d i):cmpF a c=cmpF b d:=by
 have e: ∀i,i<18→mixF a c (-1) 18 i=mixF b d (-1) 18 i:=fun i hi=>by
  rw[Qbu,Qbu,if_pos hi,if_pos hi,h i hi,k i hi]
 unfold cmpF
 rw[Qax (e:=posF (mixF a c (-1) 18) 1) (f:=posF (mixF b d (-1) 18) 1) 18 (fun j hj=>by unfold posF;rw[e j hj]),Qax (e:=posF (mixF a c (-1) 18) (-1)) (f:=posF (mixF b d (-1) 18) (-1)) 18 (fun j hj=>by unfold posF;rw[e j hj])]
theorem upT_eqv{b c:BSt}(h:eqv b c){v p:Nat}{x y:Nat→Int}(hx: ∀i,i<18→x i=y i):eqv (upT b v p x) (upT c v p y):=by
 rcases b with _|⟨v1,p1,x1⟩<;>rcases c with _|⟨v2,p2,x2⟩
 ·exact⟨rfl,rfl,hx⟩
 ·exact h.elim
 ·exact h.elim
 ·unfold upT
  dsimp only
  rw[Qpa hx h.2.2]
  split
  ·exact⟨rfl,rfl,hx⟩
  ·exact h
section
variable {n lim:Nat} {F G:Nat→Nat→Nat→Int}
theorem Qn4{B C:Nat→Nat→Int}{s v:Nat}(h0:0<s)(hB: ∀t,t<s→∀i,i<18→B t i=C t i){b c:BSt}(h:eqv b c): ∀k,(∀p,p<k→∀i,i<18→F v p i=G v p i)→eqv (innB lim F B s v b k) (innB lim G C s v c k)
 |0,_=>h
 |k+1,hF=>by
  have ih:=Qn4 h0 hB h k fun p hp=>hF p (by omega)
  have hp:0<2^v:=Nat.pow_pos (by decide)
  unfold innB
  split
  ·exact upT_eqv ih fun i hi=>by unfold tryF;rw[Qbq,Qbq,hB _ (by omega) i hi,hF k (by omega) i hi]
  ·exact ih
theorem Qio{B C:Nat→Nat→Int}{s:Nat}(hB: ∀t,t<s→∀i,i<18→B t i=C t i): ∀k,(∀v,v<k→∀p,p≤s→∀i,i<18→F v p i=G v p i)→eqv (outB lim F B s k) (outB lim G C s k)
 |0,_=>trivial
 | k + 1, hF => by
  have ih:=Qio (s:=s) hB k fun v hv=>hF v (by omega)
  unfold outB
  split
  ·rename_i hb
   have h0:0<s:=by
    rcases Nat.eq_zero_or_pos s with h|h
    ·subst h;rw[Nat.zero_testBit]at hb;cases hb
    ·exact h
   exact Qn4 h0 hB ih _ fun p hp=>hF k (by omega) p (by omega)
  ·exact ih
theorem Qow{b c:BSt}(h:eqv b c): ∀i,i<18→valO b i=valO c i:=by
 rcases b with _|⟨v1,p1,x1⟩<;>rcases c with _|⟨v2,p2,x2⟩
 ·intro i _;rfl
 ·exact h.elim
 ·exact h.elim
 ·exact h.2.2
theorem Qjd(T:Nat→Nat→Int)(N:Nat)(hF: ∀v,v<n→∀p,p<N→∀i,i<18→F v p i=G v p i)(h: ∀s,s<N→∀i,i<18→valO (outB lim G T s n) i=T s i): ∀s,s<N→eqv (stB n lim F s) (outB lim G T s n)∧∀i,i<18→topB n lim F s i=T s i:=by
 intro s
 induction s using Nat.strongRecOn with
 | _ s ih=>
  intro hs
  have e:eqv (stB n lim F s) (outB lim G T s n):=Qio (fun t ht i hi=>by rw[Qb9,if_pos ht];exact(ih t ht (by omega)).2 i hi) n fun v hv p hp=>hF v hv p (by omega)
  exact⟨e,fun i hi=>(Qow e i hi).trans (h s hs i hi)⟩
theorem topB_eqv(s:Nat)(hF: ∀v,v<n→∀p,p≤s→∀i,i<18→F v p i=G v p i): ∀i,i<18→topB n lim F s i=topB n lim G s i:=by
 refine(Qjd (lim:=lim) (topB n lim G) (s+1) (fun v hv p hp=>hF v hv p (by omega)) (fun t ht i hi=>?_) s (by omega)).2
 have e:eqv (stB n lim G t) (outB lim G (topB n lim G) t n):=Qio (fun u hu i hi=>by rw[Qb9,if_pos hu]) n fun _ _ _ _ _ _=>rfl
 exact(Qow e i hi).symm
end
set_option maxHeartbeats 4000000
set_option maxRecDepth 100000
theorem Qqq(L:List Int)(P:List Nat)(cards:List Int)(cs:List (List Int))(F:Nat→Nat→Nat→Int)(size:Nat)(q:Nat→Nat×Nat)(B:Nat→Nat→Int)(la pa:Nat→Nat)(k lim:Nat)
  (h:CallSpec Pg g0 (.fn 88 []) [gV cards cs,i6 (lim:Int)] (ofOs .e 0 []) 0 ⟨cbV size,ofOs .e 0 (cbO cards cs F size q B la pa k),6,[]⟩):
  CallSpec Pg g0 (.fn 88 []) [gV cards cs,i6 (lim:Int)] (ofOs .e 0 [gO cards cs,lO L P]) 2 ⟨cbW size,ofOs .e 0 ([gO cards cs,lO L P]++cbD cards cs F size q B la pa k),8,[]⟩:=by
 have hB:=Qaa B size
 have hla:=Qag la size
 have hpa:=Qah pa size
 have hE:=Qab q (k+1)
 have hS:=Qaa (scF F q) (k+1)
 have hg:=Qat cs
 have hc:=Qad cards
 have hlo:=Qad L
 have hu:=Qcl P
 refine CallSpec.frameL (OS:=[gO cards cs,_]) (OS':=[gO cards cs,_]++cbD cards cs F size q B la pa k) [] [(2,0),(3,1),(4,2),(5,3),(6,4),(7,5)] [] [0,0,0,0,1] h (by kernel_rfl) ?_ ?_ ?_ ?_
 ·refine Eq.mp (by kernel_rfl : (An [An [An [Sm cards.length, Sm (ints cards)], An [Sm cs.length, Sm (List.map sl cs)], Tt], Sm (↑lim : Int), Tt]) = _) ?_
  (repeat'(first|(with_reducible apply And.intro)|(refine fun(_:True)=>?_)))
  all_goals first|exact aq|exact hB|exact hS|exact hE|exact hla|exact hpa|exact hg|exact hc|exact hlo|exact hu|rfl|skip
 ·refine Eq.mp (by kernel_rfl : (Tt) = _) ?_
  (repeat'(first|(with_reducible apply And.intro)|(refine fun(_:True)=>?_)))
  all_goals first|exact aq|exact hB|exact hS|exact hE|exact hla|exact hpa|exact hg|exact hc|exact hlo|exact hu|rfl|skip
 ·refine Eq.mp (by kernel_rfl : (let z0 := An [Zz, Sm size, Sm (size - size)]; An [Zz, An [z0, z0, Tt], Sm (0 : Int), Tt]) = _) ?_
  (repeat'(first|(with_reducible apply And.intro)|(refine fun(_:True)=>?_)))
  all_goals first|exact aq|exact hB|exact hS|exact hE|exact hla|exact hpa|exact hg|exact hc|exact hlo|exact hu|rfl|skip
 ·refine Eq.mp (by kernel_rfl : (let z1 := bF (scF F q) (k + 1); let z2 := entM q (k + 1); let z3 := gO cards cs; let z0 := [z3, lO L P]; An [z0[0]? = some z3, z0[0]? = some z3, z0[1]? = some (lO L P), z0[1]? = some (lO L P), Tt, An [Sm (bF B size), HfL (bF B size)], Tt, An [z2 = z2, HfE z2, Sm (k + 1)], Tt, An [An [Sm cards.length, Sm (ints cards)], An [Sm cs.length, Sm (List.map sl cs)], An [Zz, Sm size, Sm (size - size)], Tt, An [Zz, Sm (k + 1), Tt], Tt], Tt, An [Sm (nF la size), HfL (nF la size)], Tt, An [Sm (uF pa size), HfL (uF pa size)], Tt, An [z1 = z1, HfL z1], Tt]) = _) ?_
  (repeat'(first|(with_reducible apply And.intro)|(refine fun(_:True)=>?_)))
  all_goals first|exact aq|exact hB|exact hS|exact hE|exact hla|exact hpa|exact hg|exact hc|exact hlo|exact hu|rfl|skip
section
variable (L:List Int) (P:List Nat) (cards:List Int) (cs:List (List Int)) (F:Nat→Nat→Nat→Int) (B:Nat→Nat→Int) (size:Nat) (q:Nat→Nat×Nat) (k:Nat)
abbrev rtO:List O:=[lO L P,.row 41 none (bF B size),.map (entM q (k+1)) (k+1),.row 158 none (toC cards cs size 1 2 4 (k+1)),.row 41 (some 18) (bF (scF F q) (k+1))]
abbrev rtO2:List O:=[lO L P,.row 41 none (bF B size),.map (entM q (k+1)) (k+1),.row 158 none (toC cards cs size 1 2 5 (k+1)),.dead,.row 41 (some 18) (bF (scF F q) (k+1))]
end
theorem rt_hit(L:List Int)(P:List Nat)(cards:List Int)(cs:List (List Int))(F:Nat→Nat→Nat→Int)(B:Nat→Nat→Int)(size:Nat)(q:Nat→Nat×Nat)(k s v p:Nat)(x:Nat→Int)
  (h:CallSpec Pg g0 (.fn 90 []) [.ptr 2 0,i6 (s:Nat),i6 (v:Nat),u6 (p:Nat)] (ofOs .e 0 (toO1 cards cs F B size q k)) 4 ⟨.tup [ar x,i6 0],ofOs .e 0 (toO1 cards cs F B size q k),4,[]⟩):
  CallSpec Pg g0 (.fn 90 []) [.ptr 3 0,i6 (s:Nat),i6 (v:Nat),u6 (p:Nat)] (ofOs .e 0 (rtO L P cards cs F B size q k)) 5 ⟨.tup [ar x,i6 0],ofOs .e 0 (rtO L P cards cs F B size q k),5,[]⟩:=by
 have hB:=Qaa B size
 have hE:=Qab q (k+1)
 have hS:=Qaa (scF F q) (k+1)
 have hg:=Qat cs
 have hc:=Qad cards
 have hlo:=Qad L
 have hu:=Qcl P
 exact CallSpec.frameL (OS:=rtO L P cards cs F B size q k) (OS':=rtO L P cards cs F B size q k) [1,2,3,4] [(1,0),(2,1),(3,2),(4,3)] [0,0,1] [0,0,0,1] h (by kernel_rfl) (by
  refine Eq.mp (by kernel_rfl:(An [Zz,Sm (↑s:Int),Sm (↑v:Int),Sm (↑p:Int),Tt])=_) ?_
  (repeat'(first|(with_reducible apply And.intro)|(refine fun(_:True)=>?_)))<;>first|exact aq|skip) (by
  refine Eq.mp (by kernel_rfl:(let z0:=bF (scF F q) (k+1);let z1:=entM q (k+1);An [An [Sm (bF B size),HfL (bF B size)],An [z1=z1,HfE z1,Sm (k+1)],An [An [Sm cards.length,Sm (ints cards)],An [Sm cs.length,Sm (List.map sl cs)],An [Zz,Sm size,Sm (size-size)],Tt,An [Zz,Sm (k+1),Tt],Tt],An [z0=z0,HfL z0],Tt])=_) ?_
  (repeat'(first|(with_reducible apply And.intro)|(refine fun(_:True)=>?_)))
  all_goals first|exact aq|exact hB|exact hS|exact hE|exact hg|exact hc|exact hlo|exact hu|rfl|skip) (by
  refine Eq.mp (by kernel_rfl:(An [An [x 0=x 0,x 1=x 1,x 2=x 2,x 3=x 3,x 4=x 4,x 5=x 5,x 6=x 6,x 7=x 7,x 8=x 8,x 9=x 9,Sm (x 10),Sm (x 11),Sm (x 12),Sm (x 13),Sm (x 14),Sm (x 15),Sm (x 16),Sm (x 17),Tt],Sm (0:Int),Tt])=_) ?_
  (repeat'(first|(with_reducible apply And.intro)|(refine fun(_:True)=>?_)))<;>first|exact aq|skip) (by
  refine Eq.mp (by kernel_rfl:(let z0:=rtO L P cards cs F B size q k;let z1:=bF (scF F q) (k+1);let z2:=entM q (k+1);let z3:=bF B size;An [z0[0]? =some (lO L P),z0[0]? =some (lO L P),z0[1]? =some (O.row 41 none z3),An [z3=z3,HfL z3],z0[2]? =some (O.map z2 (k+1)),An [z2=z2,HfE z2,Sm (k+1)],z0[3]? =some (O.row 158 none (toC cards cs size 1 2 4 (k+1))),An [An [Sm cards.length,Sm (ints cards)],An [Sm cs.length,Sm (List.map sl cs)],An [Zz,Sm size,Sm (size-size)],Tt,An [Zz,Sm (k+1),Tt],Tt],z0[4]? =some (O.row 41 (some 18) z1),An [z1=z1,HfL z1],Tt])=_) ?_
  (repeat'(first|(with_reducible apply And.intro)|(refine fun(_:True)=>?_)))
  all_goals first|exact aq|exact hB|exact hS|exact hE|exact hg|exact hc|exact hlo|exact hu|rfl|skip)
theorem rt_miss(L:List Int)(P:List Nat)(cards:List Int)(cs:List (List Int))(F:Nat→Nat→Nat→Int)(B:Nat→Nat→Int)(size:Nat)(q q':Nat→Nat×Nat)(k s v p:Nat)(x:Nat→Int)
  (h:CallSpec Pg g0 (.fn 90 []) [.ptr 2 0,i6 (s:Nat),i6 (v:Nat),u6 (p:Nat)] (ofOs .e 0 (toO1 cards cs F B size q k)) 4 ⟨.tup [ar x,i6 0],ofOs .e 0 (toO2 cards cs F B size q' (k+1)),5,[1,2,3]⟩):
  CallSpec Pg g0 (.fn 90 []) [.ptr 3 0,i6 (s:Nat),i6 (v:Nat),u6 (p:Nat)] (ofOs .e 0 (rtO L P cards cs F B size q k)) 5 ⟨.tup [ar x,i6 0],ofOs .e 0 (rtO2 L P cards cs F B size q' (k+1)),6,[2,3,4]⟩:=by
 have hB:=Qaa B size
 have hE:=Qab q (k+1)
 have hS:=Qaa (scF F q) (k+1)
 have hE2:=Qab q' (k+1+1)
 have hS2:=Qaa (scF F q') (k+1+1)
 have hg:=Qat cs
 have hc:=Qad cards
 have hlo:=Qad L
 have hu:=Qcl P
 exact CallSpec.frameL (OS:=rtO L P cards cs F B size q k) (OS':=rtO2 L P cards cs F B size q' (k+1)) [1,2,3,4] [(1,0),(2,1),(3,2),(4,3),(5,4)] [0,0,1] [0,0,0,1] h (by kernel_rfl) (by
  refine Eq.mp (by kernel_rfl:(An [Zz,Sm (↑s:Int),Sm (↑v:Int),Sm (↑p:Int),Tt])=_) ?_
  (repeat'(first|(with_reducible apply And.intro)|(refine fun(_:True)=>?_)))<;>first|exact aq|skip) (by
  refine Eq.mp (by kernel_rfl:(let z0:=bF (scF F q) (k+1);let z1:=entM q (k+1);An [An [Sm (bF B size),HfL (bF B size)],An [z1=z1,HfE z1,Sm (k+1)],An [An [Sm cards.length,Sm (ints cards)],An [Sm cs.length,Sm (List.map sl cs)],An [Zz,Sm size,Sm (size-size)],Tt,An [Zz,Sm (k+1),Tt],Tt],An [z0=z0,HfL z0],Tt])=_) ?_
  (repeat'(first|(with_reducible apply And.intro)|(refine fun(_:True)=>?_)))
  all_goals first|exact aq|exact hB|exact hS|exact hE|exact hS2|exact hE2|exact hg|exact hc|exact hlo|exact hu|rfl|skip) (by
  refine Eq.mp (by kernel_rfl:(An [An [x 0=x 0,x 1=x 1,x 2=x 2,x 3=x 3,x 4=x 4,x 5=x 5,x 6=x 6,x 7=x 7,x 8=x 8,x 9=x 9,Sm (x 10),Sm (x 11),Sm (x 12),Sm (x 13),Sm (x 14),Sm (x 15),Sm (x 16),Sm (x 17),Tt],Sm (0:Int),Tt])=_) ?_
  (repeat'(first|(with_reducible apply And.intro)|(refine fun(_:True)=>?_)))<;>first|exact aq|skip) (by
  refine Eq.mp (by kernel_rfl:(let z0:=rtO L P cards cs F B size q k;let z1:=bF (scF F q') (k+1+1);let z2:=entM q' (k+1+1);let z3:=bF B size;An [z0[0]? =some (lO L P),z0[0]? =some (lO L P),z0[1]? =some (O.row 41 none z3),An [z3=z3,HfL z3],Tt,An [z2=z2,HfE z2,Sm (k+1+1)],Tt,An [An [Sm cards.length,Sm (ints cards)],An [Sm cs.length,Sm (List.map sl cs)],An [Zz,Sm size,Sm (size-size)],Tt,An [Zz,Sm (Nat.succ k+1),Tt],Tt],Tt,Tt,Tt,An [z1=z1,HfL z1],Tt])=_) ?_
  (repeat'(first|(with_reducible apply And.intro)|(refine fun(_:True)=>?_)))
  all_goals first|exact aq|exact hB|exact hS|exact hE|exact hS2|exact hE2|exact hg|exact hc|exact hlo|exact hu|rfl|skip)
section
variable (L:List Int) (P:List Nat) (cards:List Int) (cs:List (List Int)) (F:Nat→Nat→Nat→Int) (B:Nat→Nat→Int) (size lim:Nat)
abbrev rrS(x:Nat×(Nat→Nat×Nat)×Nat):SL:={sl:=[(1,i6 (lim:Nat)),(5,.ptr 0 0),(8,.ptr 3 0),(37,i6 (size:Nat)),(38,i6 (x.1:Nat))],os:=rtO L P cards cs F B size x.2.1 x.2.2,md:=[0,0,0,1]}
end
abbrev rtR(b:Bool):SL:={sl:=[(6,.bool b),(7,i6 0)]}
def rgtS(lim:Nat)(F:Nat→Nat→Nat→Int)(B:Nat→Nat→Int)(L:List Int)(P:List Nat)(s:Nat):Bool:=decide (popc (P.getD s 0)≤lim)&&eqA (addA (B (s-2^laL L s)) (F (laL L s) (paL P s)) 1) (B s)
structure AskOk(cards:List Int)(cs:List (List Int))(F:Nat→Nat→Nat→Int)(B:Nat→Nat→Int)(s v p:Nat):Prop where
 add:FnOk Pg g0 34 [ar (B (s-2^v)),ar (F v p)] (.tup [ar (addA (B (s-2^v)) (F v p) 1),i6 0])
 fam:FnOk Pg g0 22 [gV cards cs,i6 (v:Nat),u6 (p:Nat)] (.tup [ar (F v p),i6 0])
theorem rt_loop(L:List Int)(P:List Nat)(hP:S64 P)(cards:List Int)(cs:List (List Int))(F:Nat→Nat→Nat→Int)(B:Nat→Nat→Int)(n size lim:Nat)(hsz:size=2^n)(h:LdOk L P n)
  (hask: ∀s,0<s→s<size→popc (paL P s)≤lim→AskOk cards cs F B s (laL L s) (paL P s))(q0:Nat→Nat×Nat)(k0:Nat)(hk0:k0≤100000)(b:Bool)(hb:b=(List.range size).all (fun s=>decide (s=0)||rgtS lim F B L P s)):
  Sat Pg none 0 (at' 42 [1,1,1,1,0,1,0]) (mkSt g0 80 (rrS L P cards cs F B size lim (0,q0,k0))) (Qaf g0 80 [(b=true,.exit 0,{sl:=[]}),(b=false,.ret,rtR false)]):=by
 have hB:=Qaa B size
 have hEE:=fun q k=>Qab q k
 have hSS:=fun q k=>Qaa (scF F q) k
 have hg:=Qat cs
 have hc:=Qad cards
 have hlo:=Qad L
 have hu:=Qcl P
 have h5:=h.w5
 have h32:size≤32:=by rw[hsz];exact Qaz h5
 have e1:=h.lenL
 have e2:=h.lenP
 rw[←hsz]at e1 e2
 refine Qbh vE_ok mixed Qac (b:=at' 42 [1,1,1,1,0,1,0,0]) (by kernel_rfl) (fun x=>x.1≤size∧x.2.2≤100000+x.1∧∀j,j<x.1→(decide (j=0)||rgtS lim F B L P j)=true) (rrS L P cards cs F B size lim) (fun x=>size-x.1) (fun x hx=>?_) (0,q0,k0) ⟨Nat.zero_le _,by dsimp only;omega,fun j hj=>absurd hj (Nat.not_lt_zero _)⟩
 obtain⟨s,q,k⟩:=x
 obtain⟨hs,hk,hj⟩:=hx
 dsimp only at hs hk hj
 have hE:=Qab q (k+1)
 have hS:=Qaa (scF F q) (k+1)
 by_cases hlt:s<size
 ·by_cases h0 : s = 0
  ·refine .inl ⟨(s + 1, q, k), [0, 1, 2, 3, 4], [yes 39, yes 42, nu 79 ((s + 1 : Nat) : Int)], 1000, ⟨hlt, by dsimp only; omega, fun j hj2 => by rw [decide_eq_true (show j = 0 by dsimp only at hj2; omega)]; rfl⟩, by dsimp only; omega, ?_⟩
   clear hj hb hask
   have hs0:((s:Int)==0)=true:=by rw[beq_iff_eq];omega
   refine Eq.mp (by kernel_rfl:(let z0:=bF (scF F q) (k+1);let z1:=(↑(s+1):Int);let z2:=(↑size:Int);let z3:=entM q (k+1);let z4:=(↑s:Int);An [decide (z4<z2)=true,(z4==(0:Int))=true,wr .i64 (z4+(1:Int))=z1,An [Sm (↑lim:Int),Zz,Zz,z2=z2,z1=z1,Tt],An [Sm [sl L,ul P],TT 2],An [Sm (bF B size),HfL (bF B size)],An [z3=z3,HfE z3,Sm (k+1)],An [An [Sm cards.length,Sm (ints cards)],An [Sm cs.length,Sm (List.map sl cs)],An [Zz,Sm size,Sm (size-size)],Tt,An [Zz,Sm (k+1),Tt],Tt],An [z0=z0,HfL z0],Tt])=_) ?_
   (repeat'(first|(with_reducible apply And.intro)|(refine fun(_:True)=>?_)))
   all_goals first|exact hB|exact hE|exact hS|exact hg|exact hc|exact hlo|exact hu|(with_reducible exact hs0)|exact aq|rfl|skip
  ·have hs0 : ((s : Int) == 0) = false := by rw [beq_eq_false_iff_ne]; omega
   obtain⟨a1,a2,a3⟩:=h.ok.at_ s (by omega) (by omega)
   have hld:=@Qaw L s (by omega)
   rw[h.nn s (by omega) (by omega)]at hld
   have hlp:=@Qep P s (by omega)
   have hpp:P.getD s 0<32:=by
    rw[show P.getD s 0=paL P s from rfl,←a3]
    exact Nat.lt_of_le_of_lt Nat.and_le_right (by have:=Nat.sub_le s (2^laL L s);omega)
   have hone:=Qma (P.getD s 0) hpp
   have hbad:rgtS lim F B L P s=false→b=false:=fun hh=>by
    rw[hb];exact Qcc hlt (by rw[hh,decide_eq_false h0];rfl)
   have hgood:rgtS lim F B L P s=true→∀j,j<s+1→(decide (j=0)||rgtS lim F B L P j)=true:=fun hh j hj1=>by
    rcases Nat.lt_succ_iff_lt_or_eq.1 hj1 with h2|h2
    ·exact hj j h2
    ·subst h2;rw[hh,Bool.or_true]
   have hask:=hask s (by omega) hlt
   have hpow:2^laL L s≤s:=(Qb1 s (by omega) _ (by omega) a2).1
   have s3:=fun G t=>@Qor G t (laL L s) (by omega)
   have s4:=fun G t=>@andn_i G t s (laL L s) (by omega) (by omega) a2
   have htk:=@Qa2 B size s hlt
   unfold rgtS at hbad hgood
   unfold paL at hask hbad hgood
   by_cases hpc:popc (P.getD s 0)≤lim
   ·obtain ⟨hadd, hfam⟩ := hask hpc
    rw[decide_eq_true hpc,Bool.true_and]at hbad hgood
    clear hj hb
    generalize hv:laL L s=v at*
    generalize hpd:P.getD s 0=p at*
    clear hpd hv
    generalize hx:addA (B (s-2^v)) (F v p) 1=x at*
    have ht:s-2^v<size:=Nat.lt_of_le_of_lt (Nat.sub_le _ _) hlt
    generalize s-2^v=t at*
    generalize 2^v=bt at*
    have hpc':(lim:Int)<(popc p:Nat)↔False:=⟨fun hh=>by omega,False.elim⟩
    rcases find_entM q v p (k+1)with⟨j,hj1,hj2,hf⟩|⟨_,hf⟩
    ·have hcall := rt_hit L P cards cs F B size q k s v p x (Qok cards cs F B size q k s t v p bt j x hj1 hj2 hf ht s3 s4 hadd)
     clear hf hfam hadd
     cases hEq:eqA x (B s)with
     |true=>
      have hg2:=hgood hEq
      have hEqn:(!eqA x (B s))=false:=by rw[hEq];rfl
      unfold eqA at hEqn
      refine .inl ⟨(s+1,q,k),[0,1,2,3,4],[yes 39,no 42,pl 46,ld 47 (u6 (p:Nat)),fn 48 (i6 (popc p:Nat)),no 50,pl 57,ld 58 (i6 (v:Nat)),pl 62,ld 63 (u6 (p:Nat)),(64,.call ⟨.tup [ar x,i6 0],ofOs .e 0 (rtO L P cards cs F B size q k),5,[]⟩),pl 76,ld 77 (ar (B s)),no 78,nu 79 ((s+1:Nat):Int)],1000,⟨hlt,by dsimp only;omega,hg2⟩,by dsimp only;omega,?_⟩
      clear hgood hbad hg2 hask hx
      refine Eq.mp (by kernel_rfl:(let z0:=(↑s:Int);let z1:=ofOs T.e 0 (rtO L P cards cs F B size q k);let z2:=(↑size:Int);let z3:=bF (scF F q) (k+1);let z4:=(↑(s+1):Int);let z5:=headF (List.drop (s*1) (ut P));let z6:=(0:Int);let z7:=entM q (k+1);let z8:=bF B size;let z9:=(↑lim:Int);An [decide (z0<z2)=true,(z0==z6)=false,An [z6≤z0,z0<(↑P.length:Int)],z5=some (u6 ↑p),An [Tt,Tt],FnOk Pg g0 65 [u6 ↑p] (i6 ↑(popc p)),Tt,decide ((↑(popc p):Int)>z9)=false,An [z6≤z0,z0<(↑L.length:Int)],headF (List.drop (s*1) (ints L))=some (i6 ↑v),An [z6≤z0,z0<(↑P.length:Int)],z5=some (u6 ↑p),CallSpec Pg g0 (V.fn 90 []) [V.ptr 3 0,i6 ↑s,i6 ↑v,u6 ↑p] z1 5 (CR.mk (V.tup [ar x,i6 0]) z1 5 []),Tt,An [z6≤z0,z0<z2],takeE 18 (dropF (0+s*18) z8)=some (arF (B s)),(!(x 0==B s 0&&(x 1==B s 1&&(x 2==B s 2&&(x 3==B s 3&&(x 4==B s 4&&(x 5==B s 5&&(x 6==B s 6&&(x 7==B s 7&&(x 8==B s 8&&(x 9==B s 9&&(x 10==B s 10&&(x 11==B s 11&&(x 12==B s 12&&(x 13==B s 13&&(x 14==B s 14&&(x 15==B s 15&&(x 16==B s 16&&(x 17==B s 17&&true)))))))))))))))))))=false,wr .i64 (z0+(1:Int))=z4,An [z9=z9,Zz,Zz,z2=z2,z4=z4,Tt],An [Sm [sl L,ul P],TT 2],An [z8=z8,HfL z8],An [z7=z7,HfE z7,Sm (k+1)],An [An [Sm cards.length,Sm (ints cards)],An [Sm cs.length,Sm (List.map sl cs)],An [Zz,Sm size,Sm (size-size)],Tt,An [Zz,Sm (k+1),Tt],Tt],An [z3=z3,HfL z3],Tt])=_) ?_
      (repeat'(first|(with_reducible apply And.intro)|(refine fun(_:True)=>?_)))
      all_goals first|exact hcall|exact hone|(with_reducible exact hld)|(with_reducible exact hlp)|(with_reducible exact htk)|(rw[Nat.zero_add];with_reducible exact htk)|(with_reducible exact hEqn)|exact hB|exact hE|exact hS|exact hg|exact hc|exact hlo|exact hu|(with_reducible exact hs0)|exact aq|rfl|skip
     |false=>
      have hb2:=hbad hEq
      have hEqn:(!eqA x (B s))=true:=by rw[hEq];rfl
      unfold eqA at hEqn
      refine .inr ⟨.ret,[],rtR false,[yes 39,no 42,pl 46,ld 47 (u6 (p:Nat)),fn 48 (i6 (popc p:Nat)),no 50,pl 57,ld 58 (i6 (v:Nat)),pl 62,ld 63 (u6 (p:Nat)),(64,.call ⟨.tup [ar x,i6 0],ofOs .e 0 (rtO L P cards cs F B size q k),5,[]⟩),pl 76,ld 77 (ar (B s)),yes 78],1000,.inr (.inl ⟨hb2,rfl,rfl⟩),?_⟩
      clear hgood hbad hb2 hask hx
      refine Eq.mp (by kernel_rfl:(let z0:=(↑s:Int);let z1:=ofOs T.e 0 (rtO L P cards cs F B size q k);let z2:=(0:Int);let z3:=headF (List.drop (s*1) (ut P));An [decide (z0<(↑size:Int))=true,(z0==z2)=false,An [z2≤z0,z0<(↑P.length:Int)],z3=some (u6 ↑p),An [Tt,Tt],FnOk Pg g0 65 [u6 ↑p] (i6 ↑(popc p)),Tt,decide ((↑(popc p):Int)>(↑lim:Int))=false,An [z2≤z0,z0<(↑L.length:Int)],headF (List.drop (s*1) (ints L))=some (i6 ↑v),An [z2≤z0,z0<(↑P.length:Int)],z3=some (u6 ↑p),CallSpec Pg g0 (V.fn 90 []) [V.ptr 3 0,i6 ↑s,i6 ↑v,u6 ↑p] z1 5 (CR.mk (V.tup [ar x,i6 0]) z1 5 []),Tt,An [z2≤z0,z0<(↑size:Int)],takeE 18 (dropF (0+s*18) (bF B size))=some (arF (B s)),(!(x 0==B s 0&&(x 1==B s 1&&(x 2==B s 2&&(x 3==B s 3&&(x 4==B s 4&&(x 5==B s 5&&(x 6==B s 6&&(x 7==B s 7&&(x 8==B s 8&&(x 9==B s 9&&(x 10==B s 10&&(x 11==B s 11&&(x 12==B s 12&&(x 13==B s 13&&(x 14==B s 14&&(x 15==B s 15&&(x 16==B s 16&&(x 17==B s 17&&true)))))))))))))))))))=true,An [Sm false,z2=z2,Tt],Tt])=_) ?_
      (repeat'(first|(with_reducible apply And.intro)|(refine fun(_:True)=>?_)))
      all_goals first|exact hcall|exact hone|(with_reducible exact hld)|(with_reducible exact hlp)|(with_reducible exact htk)|(rw[Nat.zero_add];with_reducible exact htk)|(with_reducible exact hEqn)|exact hB|exact hE|exact hS|exact hg|exact hc|exact hlo|exact hu|(with_reducible exact hs0)|exact aq|rfl|skip
    ·have hcall := rt_miss L P cards cs F B size q _ k s v p x (Qhm cards cs F B size q k s t v p bt x (by omega) hf hfam ht s3 s4 hadd)
     have hE2:=Qab (upQ q (k+1) (v,p)) (k+1+1)
     have hS2:=Qaa (scF F (upQ q (k+1) (v,p))) (k+1+1)
     clear hf hfam hadd
     cases hEq:eqA x (B s)with
     |true=>
      have hg2:=hgood hEq
      have hEqn:(!eqA x (B s))=false:=by rw[hEq];rfl
      unfold eqA at hEqn
      refine .inl ⟨(s+1,upQ q (k+1) (v,p),k+1),[0,1,2,3,5],[yes 39,no 42,pl 46,ld 47 (u6 (p:Nat)),fn 48 (i6 (popc p:Nat)),no 50,pl 57,ld 58 (i6 (v:Nat)),pl 62,ld 63 (u6 (p:Nat)),(64,.call ⟨.tup [ar x,i6 0],ofOs .e 0 (rtO2 L P cards cs F B size (upQ q (k+1) (v,p)) (k+1)),6,[2,3,4]⟩),pl 76,ld 77 (ar (B s)),no 78,nu 79 ((s+1:Nat):Int)],1000,⟨hlt,by dsimp only;omega,hg2⟩,by dsimp only;omega,?_⟩
      clear hgood hbad hg2 hask hx
      generalize upQ q (k+1) (v,p)=q' at*
      refine Eq.mp (by kernel_rfl:(let z0:=(↑s:Int);let z1:=bF (scF F q') (k+1+1);let z2:=(↑size:Int);let z3:=entM q' (k+1+1);let z4:=(↑(s+1):Int);let z5:=headF (List.drop (s*1) (ut P));let z6:=(0:Int);let z7:=bF B size;let z8:=(↑lim:Int);An [decide (z0<z2)=true,(z0==z6)=false,An [z6≤z0,z0<(↑P.length:Int)],z5=some (u6 ↑p),An [Tt,Tt],FnOk Pg g0 65 [u6 ↑p] (i6 ↑(popc p)),Tt,decide ((↑(popc p):Int)>z8)=false,An [z6≤z0,z0<(↑L.length:Int)],headF (List.drop (s*1) (ints L))=some (i6 ↑v),An [z6≤z0,z0<(↑P.length:Int)],z5=some (u6 ↑p),CallSpec Pg g0 (V.fn 90 []) [V.ptr 3 0,i6 ↑s,i6 ↑v,u6 ↑p] (ofOs T.e 0 (rtO L P cards cs F B size q k)) 5 (CR.mk (V.tup [ar x,i6 0]) (ofOs T.e 0 (rtO2 L P cards cs F B size q' (k+1))) 6 [2,3,4]),Tt,An [z6≤z0,z0<z2],takeE 18 (dropF (0+s*18) z7)=some (arF (B s)),(!(x 0==B s 0&&(x 1==B s 1&&(x 2==B s 2&&(x 3==B s 3&&(x 4==B s 4&&(x 5==B s 5&&(x 6==B s 6&&(x 7==B s 7&&(x 8==B s 8&&(x 9==B s 9&&(x 10==B s 10&&(x 11==B s 11&&(x 12==B s 12&&(x 13==B s 13&&(x 14==B s 14&&(x 15==B s 15&&(x 16==B s 16&&(x 17==B s 17&&true)))))))))))))))))))=false,wr .i64 (z0+(1:Int))=z4,An [z8=z8,Zz,Zz,z2=z2,z4=z4,Tt],An [Sm [sl L,ul P],TT 2],An [z7=z7,HfL z7],An [z3=z3,HfE z3,Sm (k+1+1)],An [An [Sm cards.length,Sm (ints cards)],An [Sm cs.length,Sm (List.map sl cs)],An [Zz,Sm size,Sm (size-size)],Tt,An [Zz,Sm (Nat.succ k+1),Tt],Tt],An [z1=z1,HfL z1],Tt])=_) ?_
      (repeat'(first|(with_reducible apply And.intro)|(refine fun(_:True)=>?_)))
      all_goals first|exact hcall|exact hone|(with_reducible exact hld)|(with_reducible exact hlp)|(with_reducible exact htk)|(rw[Nat.zero_add];with_reducible exact htk)|(with_reducible exact hEqn)|exact hB|exact hE|exact hS|exact hE2|exact hS2|exact hg|exact hc|exact hlo|exact hu|(with_reducible exact hs0)|exact aq|rfl|skip
     |false=>
      have hb2:=hbad hEq
      have hEqn:(!eqA x (B s))=true:=by rw[hEq];rfl
      unfold eqA at hEqn
      refine .inr ⟨.ret,[],rtR false,[yes 39,no 42,pl 46,ld 47 (u6 (p:Nat)),fn 48 (i6 (popc p:Nat)),no 50,pl 57,ld 58 (i6 (v:Nat)),pl 62,ld 63 (u6 (p:Nat)),(64,.call ⟨.tup [ar x,i6 0],ofOs .e 0 (rtO2 L P cards cs F B size (upQ q (k+1) (v,p)) (k+1)),6,[2,3,4]⟩),pl 76,ld 77 (ar (B s)),yes 78],1000,.inr (.inl ⟨hb2,rfl,rfl⟩),?_⟩
      clear hgood hbad hb2 hask hx
      generalize upQ q (k+1) (v,p)=q' at*
      refine Eq.mp (by kernel_rfl:(let z0:=(↑s:Int);let z1:=(0:Int);let z2:=headF (List.drop (s*1) (ut P));An [decide (z0<(↑size:Int))=true,(z0==z1)=false,An [z1≤z0,z0<(↑P.length:Int)],z2=some (u6 ↑p),An [Tt,Tt],FnOk Pg g0 65 [u6 ↑p] (i6 ↑(popc p)),Tt,decide ((↑(popc p):Int)>(↑lim:Int))=false,An [z1≤z0,z0<(↑L.length:Int)],headF (List.drop (s*1) (ints L))=some (i6 ↑v),An [z1≤z0,z0<(↑P.length:Int)],z2=some (u6 ↑p),CallSpec Pg g0 (V.fn 90 []) [V.ptr 3 0,i6 ↑s,i6 ↑v,u6 ↑p] (ofOs T.e 0 (rtO L P cards cs F B size q k)) 5 (CR.mk (V.tup [ar x,i6 0]) (ofOs T.e 0 (rtO2 L P cards cs F B size q' (k+1))) 6 [2,3,4]),Tt,An [z1≤z0,z0<(↑size:Int)],takeE 18 (dropF (0+s*18) (bF B size))=some (arF (B s)),(!(x 0==B s 0&&(x 1==B s 1&&(x 2==B s 2&&(x 3==B s 3&&(x 4==B s 4&&(x 5==B s 5&&(x 6==B s 6&&(x 7==B s 7&&(x 8==B s 8&&(x 9==B s 9&&(x 10==B s 10&&(x 11==B s 11&&(x 12==B s 12&&(x 13==B s 13&&(x 14==B s 14&&(x 15==B s 15&&(x 16==B s 16&&(x 17==B s 17&&true)))))))))))))))))))=true,An [Sm false,z1=z1,Tt],Tt])=_) ?_
      (repeat'(first|(with_reducible apply And.intro)|(refine fun(_:True)=>?_)))
      all_goals first|exact hcall|exact hone|(with_reducible exact hld)|(with_reducible exact hlp)|(with_reducible exact htk)|(rw[Nat.zero_add];with_reducible exact htk)|(with_reducible exact hEqn)|exact hB|exact hE|exact hS|exact hE2|exact hS2|exact hg|exact hc|exact hlo|exact hu|(with_reducible exact hs0)|exact aq|rfl|skip
   ·rw [decide_eq_false hpc, Bool.false_and] at hbad
    have hb2:=hbad rfl
    clear hj hb hask hgood hbad
    generalize P.getD s 0=p at*
    refine .inr ⟨.ret,[],rtR false,[yes 39,no 42,pl 46,ld 47 (u6 (p:Nat)),fn 48 (i6 (popc p:Nat)),yes 50],1000,.inr (.inl ⟨hb2,rfl,rfl⟩),?_⟩
    clear hb2
    refine Eq.mp (by kernel_rfl:(let z0:=(↑s:Int);let z1:=(0:Int);An [decide (z0<(↑size:Int))=true,(z0==z1)=false,An [z1≤z0,z0<(↑P.length:Int)],headF (List.drop (s*1) (ut P))=some (u6 ↑p),An [Tt,Tt],FnOk Pg g0 65 [u6 ↑p] (i6 ↑(popc p)),Tt,decide ((↑(popc p):Int)>(↑lim:Int))=true,An [Sm false,z1=z1,Tt],Tt])=_) ?_
    (repeat'(first|(with_reducible apply And.intro)|(refine fun(_:True)=>?_)))
    all_goals first|exact hone|(with_reducible exact hlp)|exact hB|exact hE|exact hS|exact hg|exact hc|exact hlo|exact hu|(with_reducible exact hs0)|exact aq|rfl|skip
 ·have hall : b = true := by rw [hb]; exact all_range.2 fun j hj1 => hj j (by omega)
  refine .inr ⟨.exit 0,[],{sl:=[]},[no 39],1000,.inl ⟨hall,rfl,rfl⟩,?_⟩
  clear hj hall hb hask
  refine Eq.mp (by kernel_rfl:(An [decide ((↑s:Int)<(↑size:Int))=false,Tt,Tt])=_) ?_
  (repeat'(first|(with_reducible apply And.intro)|(refine fun(_:True)=>?_)))
  all_goals first|exact hB|exact hE|exact hS|exact hg|exact hc|exact hlo|exact hu|exact aq|rfl|skip
set_option maxHeartbeats 4000000
set_option maxRecDepth 100000
abbrev rtE(b:Bool)(e:Int):SL:={sl:=[(6,.bool b),(7,i6 e)]}
theorem sum_add1(f g:Nat→Int):ar (sumF f g)=ar (addA f g 1):=congrArg V.agg (Qbd fun k hk=>Qot f g hk)
theorem ask_ok{cards:List Int}{cs:List (List Int)}(hl2:cs.length≤40)(hcl: ∀c∈cs,c.length≤1000)(h:goodE cards cs=0)(hn:cards.length≤5){lim s v p:Nat}(hs:s<2^cards.length)(hv:v<cards.length)(hok:okT lim s v p=true)(B:Nat→Nat→Int)(hB:inB (B (s-2^v)) 800):AskOk cards cs (fF cards cs) B s v p:=by
 have hF:=fF_bd h hl2
 refine⟨?_,?_⟩
 ·have := add_ok (B (s - 2 ^ v)) (fF cards cs v p) (hB.inA (by decide)) ((hF v p).inA (by decide)) (by
   refine Qr2 fun k hk=>?_
   have h1:=hB k hk
   have h2:=hF v p k hk
   have:sumF (B (s-2^v)) (fF cards cs v p) k=B (s-2^v) k+1*fF cards cs v p k:=Qot _ _ hk
   omega)
  rwa [sum_add1]at this
 ·have ho := Qbv.1 hok
  have hps:p≤s:=by rw[←ho.1];exact Nat.and_le_right
  have hF2:fF cards cs v p=famG cards cs v p:=if_pos hv
  rw[hF2]
  refine Qtb cards cs v p (by omega) (by omega) hcl h ?_
  unfold memB
  have e1:p/2^cards.length=0:=Nat.div_eq_of_lt (by omega)
  have e2:p/2^v%2=0:=by
   have:=ho.2.1
   rw[Nat.testBit_eq_decide_div_mod_eq]at this
   have:=of_decide_eq_false this
   omega
  simp[e1,e2,hv]
theorem rgt_all(n lim:Nat)(F:Nat→Nat→Nat→Int)(L:List Int)(P:List Nat)(h:LdOk L P n):(List.range (2^n)).all (fun s=>decide (s=0)||rgtS lim F (tabB n lim F (2^n)) L P s)=rgtB n lim F L P:=by
 have key: ∀s,s<2^n→(decide (s=0)||rgtS lim F (tabB n lim F (2^n)) L P s)=(decide (s=0)||(decide (popc (P.getD s 0)≤lim)&&eqA (addA (topB n lim F (s-2^laL L s)) (F (laL L s) (paL P s)) 1) (topB n lim F s))):=fun s hs=>by
  unfold rgtS
  rw[Qb9,Qb9,if_pos hs,if_pos (Nat.lt_of_le_of_lt (Nat.sub_le _ _) hs)]
 unfold rgtB
 apply Bool.eq_iff_iff.2
 constructor
 ·intro h;exact all_range.2 fun s hs=>by rw[←key s hs];exact all_range.1 h s hs
 ·intro h;exact all_range.2 fun s hs=>by rw[key s hs];exact all_range.1 h s hs
theorem Qiz(cards:List Int)(cs:List (List Int))(lim:Nat)(L:List Int)(P:List Nat)(hP:S64 P)(he:Qee cards cs (lim:Int)=0)(hgood:goodL L P cards.length=true):FnOk Pg g0 42 [gV cards cs,i6 (lim:Int),lV L P] (.tup [.bool (rgtB cards.length lim (fF cards cs) L P),i6 0]):=by
 obtain⟨hg0,hn1,hn5,_,_,hl2,hcl⟩:=Qi3 he
 obtain⟨q,k,hk,h⟩:=Qnj cards cs lim he
 have hck:=Qbg L P hP
 have hvr:=Qb2 L P
 rw[Qrw,Bool.and_eq_true]at hgood
 obtain⟨hb,hw⟩:=hgood
 have hw:=of_decide_eq_true hw
 have hlad:=Qig hb
 rw[hb,if_pos rfl]at hck
 rw[hw]at hvr hlad
 have hF:=fF_bd hg0 hl2
 have hpos:1≤2^cards.length:=Nat.pow_pos (by decide)
 have h32:=Qaz hn5
 have l:=rt_loop L P hP cards cs (fF cards cs) (tabB cards.length lim (fF cards cs) (2^cards.length)) cards.length (2^cards.length) lim rfl hlad (fun s h0 hs hpc=>by
  obtain⟨a1,a2,a3⟩:=hlad.ok.at_ s h0 hs
  have hp32:paL P s<32:=by
   rw[←a3];exact Nat.lt_of_le_of_lt Nat.and_le_right (by have:=Nat.sub_le s (2^laL L s);omega)
  refine ask_ok hl2 (fun c hc=>by rw[hcl c hc];omega) hg0 hn5 hs a1 ((Qdt (by omega) (by omega) a2 hp32).2 ⟨a3,hpc⟩) _ ?_
  rw[Qb9,if_pos (Nat.lt_of_le_of_lt (Nat.sub_le _ _) hs)]
  exact Qjc hF hn5 (Nat.lt_of_le_of_lt (Nat.sub_le _ _) hs)) q k hk _ rfl
 rw[rgt_all _ _ _ _ _ hlad]at l
 have e1:=hlad.lenL
 have e2:=hlad.lenP
 generalize rgtB cards.length lim (fF cards cs) L P=b at*
 generalize tabB cards.length lim (fF cards cs) (2^cards.length)=B at*
 generalize laT cards.length lim (fF cards cs) (2^cards.length)=la at*
 generalize paT cards.length lim (fF cards cs) (2^cards.length)=pa at*
 generalize fF cards cs=F at*
 generalize 2^cards.length=size at*
 have hcall:=Qqq L P cards cs F size q B la pa k lim h
 have hB:=Qaa B size
 have hla:=Qag la size
 have hpa:=Qah pa size
 have hE:=Qab q (k+1)
 have hS:=Qaa (scF F q) (k+1)
 have hg:=Qat cs
 have hc:=Qad cards
 have hlo:=Qad L
 have hu:=Qcl P
 have hrt:rrS L P cards cs F B size lim (0,q,k)={sl:=[(1,i6 (lim:Nat)),(5,.ptr 0 0),(8,.ptr 3 0),(37,i6 (L.length:Nat)),(38,i6 0)],os:=rtO L P cards cs F B size q k,md:=[0,0,0,1]}:=by rw[e1];rfl
 rw[hrt]at l
 clear h he hw hb hrt hF
 cases b with
 |true=>
  have l:=l.mono (Qct rfl (by simp))
  refine FnOk.of_vc vE_ok mixed Qac (n:=1000) (r:=[]) (S:=rtE true 0) (hs:=[(17,.call ⟨cbW size,ofOs .e 0 ([gO cards cs,lO L P]++cbD cards cs F size q B la pa k),8,[]⟩),fn 25 (i6 0),fn 29 (i6 (cards.length:Nat)),no 33,(0,.loop [1,2,3,4,7] {sl:=[(1,i6 (lim:Nat)),(5,.ptr 0 0),(8,.ptr 3 0),(37,i6 (L.length:Nat)),(38,i6 0)],os:=rtO L P cards cs F B size q k,md:=[0,0,0,1]} [(True,.exit 0,{sl:=[]})])]) ?_
  refine Eq.mp (by kernel_rfl:(let z1:=ofOs T.e 0 ([gO cards cs,lO L P]++cbD cards cs F size q B la pa k);let z2:=[V.agg [V.im L.length (ints L),V.im P.length (ut P)]];let z3:=[sl L,ul P];let z4:=bF (scF F q) (k+1);let z5:=entM q (k+1);let z6:=V.tup [V.bool true,i6 0];let z7:=(↑cards.length:Int);let z8:=(0:Int);let z9:=i6 ↑cards.length;let y0:=some (size-size);let z0:=pt (pt z1 8 (O.row 77 none [V.nils,V.nils])) 8 (O.row 77 none [V.sl 5 0 size y0,V.sl 6 0 size y0]);An [z6=z6,CallSpec Pg g0 (V.fn 88 []) [V.agg [sl cards,gC cs],i6 ↑lim] (pt (pt T.e 0 (O.row 32 none [sl cards,gC cs])) 1 (O.row 77 none z3)) 2 (CR.mk (cbW size) z1 8 []),Tt,An [TT 2,Tt],FnOk Pg g0 56 z2 (i6 0),Tt,An [TT 2,Tt],FnOk Pg g0 89 z2 z9,An [(V.fn 56 []=V.fn 89 []→[V.agg z3]=[V.agg z3]→z0=z0→8+1=9→CR.mk (i6 0) z0 9 []=CR.mk z9 z0 9 []),Tt],(z7 != z7)=false,An [An [Sm (↑lim:Int),Zz,Zz,Sm (↑L.length:Int),z8=z8,Tt],An [z3=z3,TT 2],An [Sm (bF B size),HfL (bF B size)],An [z5=z5,HfE z5,Sm (k+1)],An [An [Sm cards.length,Sm (ints cards)],An [Sm cs.length,Sm (List.map sl cs)],An [Zz,Sm size,Sm (size-size)],Tt,An [Zz,Sm (k+1),Tt],Tt],An [z4=z4,HfL z4],Tt],Sat Pg none 0 (at' 42 [1,1,1,1,0,1,0]) (mkSt g0 80 (SL.mk [(1,i6 ↑lim),(5,V.ptr 0 0),(8,V.ptr 3 0),(37,i6 ↑L.length),(38,i6 0)] (rtO L P cards cs F B size q k) [] [0,0,0,1])) (Qaf g0 80 [(True,Ex.exit 0,SL.mk [] [] [] [])]),(True→An [An [Sm true,z8=z8,Tt],Tt]),Tt])=_) ?_
  (repeat'(first|(with_reducible apply And.intro)|(refine fun(_:True)=>?_)))
  all_goals first|exact l|exact hcall|exact hck|exact hvr|exact hg|exact hc|exact hB|exact hla|exact hpa|exact hE|exact hS|exact hlo|exact hu|exact aq|rfl|skip
 |false=>
  have l:=l.mono (Qcu (by simp) rfl)
  refine FnOk.of_vc vE_ok mixed Qac (n:=1000) (r:=[]) (S:=rtE false 0) (hs:=[(17,.call ⟨cbW size,ofOs .e 0 ([gO cards cs,lO L P]++cbD cards cs F size q B la pa k),8,[]⟩),fn 25 (i6 0),fn 29 (i6 (cards.length:Nat)),no 33,(0,.loop [1,2,3,4,7] {sl:=[(1,i6 (lim:Nat)),(5,.ptr 0 0),(8,.ptr 3 0),(37,i6 (L.length:Nat)),(38,i6 0)],os:=rtO L P cards cs F B size q k,md:=[0,0,0,1]} [(True,.ret,rtR false)])]) ?_
  refine Eq.mp (by kernel_rfl:(let z1:=ofOs T.e 0 ([gO cards cs,lO L P]++cbD cards cs F size q B la pa k);let z2:=[V.agg [V.im L.length (ints L),V.im P.length (ut P)]];let z3:=[sl L,ul P];let z4:=bF (scF F q) (k+1);let z5:=entM q (k+1);let z6:=V.tup [V.bool false,i6 0];let z7:=(↑cards.length:Int);let z8:=(0:Int);let z9:=i6 ↑cards.length;let y0:=some (size-size);let z0:=pt (pt z1 8 (O.row 77 none [V.nils,V.nils])) 8 (O.row 77 none [V.sl 5 0 size y0,V.sl 6 0 size y0]);An [z6=z6,CallSpec Pg g0 (V.fn 88 []) [V.agg [sl cards,gC cs],i6 ↑lim] (pt (pt T.e 0 (O.row 32 none [sl cards,gC cs])) 1 (O.row 77 none z3)) 2 (CR.mk (cbW size) z1 8 []),Tt,An [TT 2,Tt],FnOk Pg g0 56 z2 (i6 0),Tt,An [TT 2,Tt],FnOk Pg g0 89 z2 z9,An [(V.fn 56 []=V.fn 89 []→[V.agg z3]=[V.agg z3]→z0=z0→8+1=9→CR.mk (i6 0) z0 9 []=CR.mk z9 z0 9 []),Tt],(z7 != z7)=false,An [An [Sm (↑lim:Int),Zz,Zz,Sm (↑L.length:Int),z8=z8,Tt],An [z3=z3,TT 2],An [Sm (bF B size),HfL (bF B size)],An [z5=z5,HfE z5,Sm (k+1)],An [An [Sm cards.length,Sm (ints cards)],An [Sm cs.length,Sm (List.map sl cs)],An [Zz,Sm size,Sm (size-size)],Tt,An [Zz,Sm (k+1),Tt],Tt],An [z4=z4,HfL z4],Tt],Sat Pg none 0 (at' 42 [1,1,1,1,0,1,0]) (mkSt g0 80 (SL.mk [(1,i6 ↑lim),(5,V.ptr 0 0),(8,V.ptr 3 0),(37,i6 ↑L.length),(38,i6 0)] (rtO L P cards cs F B size q k) [] [0,0,0,1])) (Qaf g0 80 [(True,Ex.ret,rtR false)]),(True→An [An [Sm false,z8=z8,Tt],Tt]),Tt])=_) ?_
  (repeat'(first|(with_reducible apply And.intro)|(refine fun(_:True)=>?_)))
  all_goals first|exact l|exact hcall|exact hck|exact hvr|exact hg|exact hc|exact hB|exact hla|exact hpa|exact hE|exact hS|exact hlo|exact hu|exact aq|rfl|skip
set_option maxHeartbeats 1000000
section
variable (n:Nat) (a b:Nat→Nat)
end
set_option maxHeartbeats 4000000
set_option maxRecDepth 100000
def litF(l:List Int):Nat→Int:=fun i=>l.getD i 0
abbrev exC:List Int:=[2,2]
abbrev exD:List (List Int):=[[0,0],[0,0],[1,1],[0,1]]
def exG(v p:Nat):Nat→Int:=match v,p with
 |0,0=>litF [-2,0,-1]
 |0,2=>litF [-1,-2]
 |1,0=>litF [-1,-1,-1]
 |1,1=>litF [-3,-1]
 | _,_=>fF exC exD v p
theorem Qj9: ∀v,v<2→∀p,p<4→∀i,i<18→fF exC exD v p i=exG v p i:=by decide+kernel
def exT(lim:Nat)(s:Nat):Nat→Int:=match s with
 |1=>litF [-2,0,-1]
 |2=>litF [-1,-1,-1]
 |3=>if lim=0 then litF [-3,-1,-2]else litF [-5,-1,-1]
 | _=>Qaj
theorem exT0: ∀s,s<4→∀i,i<18→valO (outB 0 exG (exT 0) s 2) i=exT 0 s i:=by decide+kernel
theorem exT1: ∀s,s<4→∀i,i<18→valO (outB 1 exG (exT 1) s 2) i=exT 1 s i:=by decide+kernel
theorem Qrd: ∀s,s<4→∀i,i<18→topB 2 0 (fF exC exD) s i=exT 0 s i:=fun s hs=>(Qjd (lim:=0) (exT 0) 4 Qj9 exT0 s hs).2
theorem Qlu: ∀s,s<4→∀i,i<18→topB 2 1 (fF exC exD) s i=exT 1 s i:=fun s hs=>(Qjd (lim:=1) (exT 1) 4 Qj9 exT1 s hs).2
noncomputable def vcFi2(P:Program)(E:Env)(sp:Qcb)(gl:T (List V))(n:Nat)(ars:List V)(hs:Hs)(r1:List Nat)(S1:SL)(r:List Nat)(S:SL)(v:V):Option FI→Prop
 |some fi=>bif Nat.ble ars.length fi.ntmps&&hfB v then retP v (retV E.G (mkSt gl fi.ntmps S).tm (mkSt gl fi.ntmps S).H fi.res)∧gcP 0 r (mkSt gl fi.ntmps S1) S∧vc P E sp none 0 n fi.body hs ⟨⟨Qci (blank fi.ntmps) 0 ars,gl,fi.ntmps⟩,.e,0,[]⟩ (kFin fi.ntmps r1 S1)else False
 |none=>False
theorem FnOk.of_vc2{P:Program}{E:Env}{sp:Qcb}(hE:E.Ok P)(hm:P.follows .mixedOrders=true){gl:T (List V)}(hsp:Qa6 P gl sp){n f:Nat}{ars:List V}{hs:Hs}{r1:List Nat}{S1:SL}{r:List Nat}{S:SL}{v:V}(h:vcFi2 P E sp gl n ars hs r1 S1 r S v (E.code f)):FnOk P gl f ars v:=by
 unfold vcFi2 at h
 split at h
 ·rename_i fi hfi
  obtain⟨hb,hret,hgc,hv⟩:=Qai h
  rw[Bool.and_eq_true]at hb
  have hret':retV E.G (mkSt gl fi.ntmps S).tm (mkSt gl fi.ntmps S).H fi.res=some v:=by
   unfold retP at hret
   split at hret
   ·rename_i u e;rw[e,hret]
   ·exact hret.elim
  rw[Qa9]at hv
  refine CallSpec.fnC hE hfi (by rw[List.append_nil];exact hb.1) (Log.refl _ _ _) (R:=fun e st=>(e= .normal∨e= .ret)∧st=mkSt gl fi.ntmps S) ?_ ?_
  ·rw [List.append_nil]
   refine Sat.gc_post (Sat.gc_post (Sat.of_vc hE hm hsp rfl hv fun e hs' st' hg hk=>?_))
   unfold kFin at hk
   have fin:(bif Nat.beq st'.tm.n fi.ntmps then gcP 0 r1 st' S1 else False)→∃r0 st2,Gc 0 r0 st' st2∧∃r1' st3,Gc 0 r1' st2 st3∧st3=mkSt gl fi.ntmps S:=by
    intro hk
    obtain⟨hb,hk⟩:=Qai hk
    have hn:=Nat.eq_of_beq_eq_true hb
    have g1:=Qdi hk
    rw[hg,hn]at g1
    exact⟨r1,_,g1,r,_,Qdi hgc,rfl⟩
   cases e with
   |exit=>exact hk.elim
   |normal=>obtain⟨r0,st2,h1,r2,st3,h2,h3⟩:=fin hk;exact⟨r0,st2,h1,r2,st3,h2,.inl rfl,h3⟩
   |ret=>obtain⟨r0,st2,h1,r2,st3,h2,h3⟩:=fin hk;exact⟨r0,st2,h1,r2,st3,h2,.inr rfl,h3⟩
  ·rintro e st ⟨he, rfl⟩
   refine⟨he,v,hret',fun s w ee w' hH hn⟨u,s',h1,g1,g2,g3,_,_⟩=>?_⟩
   subst h1
   obtain⟨s'',q1,q2,q3,q4⟩:=Qfk hH g1 (Qkj.1 v hb.2) g3 (fun h _=>hn h (Nat.zero_le _)) (fun b hb=>g2.old b (.inl hb))
   exact⟨u,s'',rfl,q1,q2,q3,fun i=>by rw[q4];exact dom_same s _ i,Nat.le_refl _⟩
 ·exact h.elim
theorem Qiy{n lim:Nat}{F G:Nat→Nat→Nat→Int}{T:Nat→Nat→Int}{L:List Int}{P:List Nat}(h:LdOk L P n)(hT: ∀s,s<2^n→∀i,i<18→topB n lim F s i=T s i)(hG: ∀v,v<n→∀p,p<2^n→∀i,i<18→F v p i=G v p i):rgtB n lim F L P=(List.range (2^n)).all fun s=>decide (s=0)||(decide (popc (P.getD s 0)≤lim)&&eqA (addA (T (s-2^laL L s)) (G (laL L s) (paL P s)) 1) (T s)):=by
 have key: ∀s,s<2^n→(decide (s=0)||(decide (popc (P.getD s 0)≤lim)&&eqA (addA (topB n lim F (s-2^laL L s)) (F (laL L s) (paL P s)) 1) (topB n lim F s)))=(decide (s=0)||(decide (popc (P.getD s 0)≤lim)&&eqA (addA (T (s-2^laL L s)) (G (laL L s) (paL P s)) 1) (T s))):=fun s hs=>by
  by_cases h0:s=0
  ·rw[decide_eq_true h0];rfl
  ·obtain ⟨a1, a2, a3⟩ := h.ok.at_ s (by omega) hs
   have hp:paL P s<2^n:=by
    rw[←a3];exact Nat.lt_of_le_of_lt Nat.and_le_right (by have:=Nat.sub_le s (2^laL L s);omega)
   congr 2
   apply Bool.eq_iff_iff.2
   rw[Qem,Qem]
   have ht:=Nat.sub_le s (2^laL L s)
   constructor
   ·intro hh i hi
    rw[Qbq,←hT _ (by omega) i hi,←hG _ a1 _ hp i hi,←hT _ hs i hi,←hh i hi,Qbq]
   ·intro hh i hi
    rw[Qbq,hT _ (by omega) i hi,hG _ a1 _ hp i hi,hT _ hs i hi,←hh i hi,Qbq]
 unfold rgtB
 apply Bool.eq_iff_iff.2
 constructor
 ·intro h;exact all_range.2 fun s hs=>by rw[←key s hs];exact all_range.1 h s hs
 ·intro h;exact all_range.2 fun s hs=>by rw[key s hs];exact all_range.1 h s hs
abbrev l1L:List Int:=[0,0,1,1]
abbrev l1P:List Nat:=[0,0,0,1]
abbrev l2L:List Int:=[0,0,1,0]
abbrev l2P:List Nat:=[0,0,0,2]
theorem Qpy{a b c d:Nat}(ha:a<100)(hb:b<100)(hc:c<100)(hd:d<100):S64 [a,b,c,d]:=fun x hx=>by
 simp at hx
 omega
theorem Qen:Qee exC exD 0=0∧Qee exC exD 1=0∧Qee exC exD 5=2:=by decide+kernel
theorem l1_ok:LdOk l1L l1P 2:=Qig (L:=l1L) (P:=l1P) (by decide+kernel)
theorem l2_ok:LdOk l2L l2P 2:=Qig (L:=l2L) (P:=l2P) (by decide+kernel)
theorem r11:rgtB 2 1 (fF exC exD) l1L l1P=true:=by rw[Qiy l1_ok Qlu Qj9];decide+kernel
theorem r12:rgtB 2 1 (fF exC exD) l2L l2P=false:=by rw[Qiy l2_ok Qlu Qj9];decide+kernel
theorem r01:rgtB 2 0 (fF exC exD) l1L l1P=false:=by rw[Qiy l1_ok Qrd Qj9];decide+kernel
theorem over_600:FnOk Pg g0 96 [i6 600] (ar (litF [-3,-1,-2])):=FnOk.of_run vE_ok mixed (n:=100000) rfl (by kernel_rfl)
theorem over_480:FnOk Pg g0 96 [i6 480] (ar (litF [-5,-1,-1])):=FnOk.of_run vE_ok mixed (n:=100000) rfl (by kernel_rfl)
theorem Qph:FnOk Pg g0 66 [] (gV exC exD):=by
 refine FnOk.of_vc2 vE_ok mixed Qac (n:=1000) (r1:=[0,6]) (S1:={sl:=[(0,.ptr 0 0)],os:=[.row 32 none [sl exC,.sl 1 0 4 (some 0)],.row 29 none [sl [0,0],sl [0,0],sl [1,1],sl [0,1]]],md:=[1,1]}) (r:=[0]) (S:={sl:=[(0,.ptr 0 0)],os:=[.row 32 none [sl exC,gC exD]],md:=[1]}) (hs:=[]) ?_
 refine Eq.mp (by kernel_rfl:(let z0:=(0:Int);let z1:=(1:Int);An [V.agg [sl exC,gC exD]=gV exC exD,An [An [Zz,Tt],An [An [2=2,Sm (ints exC)],An [4=4,List.map sl exD=[sl [z0,z0],sl [z0,z0],sl [z1,z1],sl [z0,z1]],TT 4],Tt],Tt],An [Zz,Tt],An [An [2=2,ints exC=[i6 2,i6 2],TT 2],An [Zz,4=4,Zz],Tt],An [An [2=2,ints [z0,z0]=[i6 0,i6 0],TT 2],An [2=2,ints [z0,z0]=[i6 0,i6 0],TT 2],An [2=2,ints [z1,z1]=[i6 1,i6 1],TT 2],An [2=2,ints [z0,z1]=[i6 0,i6 1],TT 2],Tt],Tt])=_) ?_
 (repeat'(first|(with_reducible apply And.intro)|(refine fun(_:True)=>?_)))
 all_goals first|exact aq|rfl|skip
theorem top_0:FnOk Pg g0 41 [gV exC exD,i6 0] (.tup [ar (litF [-3,-1,-2]),i6 0]):=by
 have h:=Qht exC exD 0 Qen.1
 rw[show ar (topB exC.length 0 (fF exC exD) (2^exC.length-1))=ar (litF [-3,-1,-2])from congrArg V.agg (Qbd (Qrd 3 (by decide)))]at h
 exact h
theorem top_1:FnOk Pg g0 41 [gV exC exD,i6 1] (.tup [ar (litF [-5,-1,-1]),i6 0]):=by
 have h:=Qht exC exD 1 Qen.2.1
 rw[show ar (topB exC.length 1 (fF exC exD) (2^exC.length-1))=ar (litF [-5,-1,-1])from congrArg V.agg (Qbd (Qlu 3 (by decide)))]at h
 exact h
theorem top_5:FnOk Pg g0 41 [gV exC exD,i6 5] (.tup [ar Qaj,i6 2]):=top_bad exC exD 5 (by decide) (by decide) 2 Qen.2.2 (by decide)
abbrev wkO:List O:=[.row 32 none [sl exC,gC exD],.row 41 none (arF (litF [-3,-1,-2])),.row 41 none (arF (litF [-5,-1,-1])),.row 3 none [i6 0,i6 0,i6 1,i6 1],.row 28 none [u6 0,u6 0,u6 0,u6 1],.row 77 none [.sl 3 0 4 (some 0),.sl 4 0 4 (some 0)],.row 3 none [i6 0,i6 0,i6 1,i6 0],.row 28 none [u6 0,u6 0,u6 0,u6 2],.row 77 none [.sl 6 0 4 (some 0),.sl 7 0 4 (some 0)]]
abbrev wkO1:List O:=wkO++[.row 28 none [u6 0,u6 1]]
theorem wk_small(n:Nat)(h:n<9):n=0∨n=1∨n=2∨n=3∨n=4∨n=5∨n=6∨n=7∨n=8:=by omega
theorem wk_small1(n:Nat)(h:n<10):n=0∨n=1∨n=2∨n=3∨n=4∨n=5∨n=6∨n=7∨n=8∨n=9:=by omega
theorem chk_l1:FnOk Pg g0 56 [lV l1L l1P] (i6 0):=by
 have h:=Qbg l1L l1P (Qpy (by decide) (by decide) (by decide) (by decide))
 rw[show(if ladB l1L l1P then(0:Int)else 290)=0 by decide+kernel]at h
 exact h
theorem chk_l2:FnOk Pg g0 56 [lV l2L l2P] (i6 0):=by
 have h:=Qbg l2L l2P (Qpy (by decide) (by decide) (by decide) (by decide))
 rw[show(if ladB l2L l2P then(0:Int)else 290)=0 by decide+kernel]at h
 exact h
theorem var_l1:FnOk Pg g0 89 [lV l1L l1P] (i6 2):=by
 have h:=Qb2 l1L l1P
 rw[show wdt l1L l1P=2 by decide+kernel]at h
 exact h
theorem var_l2:FnOk Pg g0 89 [lV l2L l2P] (i6 2):=by
 have h:=Qb2 l2L l2P
 rw[show wdt l2L l2P=2 by decide+kernel]at h
 exact h
theorem gra_l1:CallSpec Pg g0 (.fn 40 []) [.agg [.sl 3 0 4 (some 0),.sl 4 0 4 (some 0)]] (ofOs .e 0 wkO) 9 ⟨.tup [.sl 9 0 2 (some 0),i6 0],ofOs .e 0 wkO1,10,[]⟩:=by
 have h1:=chk_l1
 have h2:=var_l1
 refine CallSpec.of_vcH (P:=Pg) (E:=vE) vE_ok mixed Qac (n:=1000) (f:=40) (os0:=wkO) (ars:=[.agg [.sl 3 0 4 (some 0),.sl 4 0 4 (some 0)]]) (r:=[10]) (S:={sl:=[(2,.sl 9 0 2 (some 0)),(3,i6 0)],os:=wkO1,md:=[0,0,0,0,0,1,0,0,1]}) (v:=.tup [.sl 9 0 2 (some 0),i6 0]) (hs:=[fn 8 (i6 0),fn 13 (i6 2),(0,.unroll 5)]) (gl:=g0) (by simp) (fun i hi _=>by
   rcases wk_small i (by simpa using hi)with rfl|rfl|rfl|rfl|rfl|rfl|rfl|rfl|rfl<;>rfl) (by
  refine Eq.mp (by kernel_rfl:(let z9:=An [An [TT 4,TT 4,Tt],Tt];let z1:=arF (litF [(-3:Int),(-1:Int),(-2:Int)]);let z2:=arF (litF [(-5:Int),(-1:Int),(-1:Int)]);let z3:=[i6 0,i6 0,i6 1,i6 1];let z4:=[u6 0,u6 0,u6 0,u6 1];let z5:=Int.toNat (2:Int);let z6:=V.tup [V.sl 9 0 2 (some 0),i6 0];let z7:=[i6 0,i6 0,i6 1,i6 0];let z8:=[u6 0,u6 0,u6 0,u6 2];let z0:=[V.agg [V.im 4 z3,V.im 4 z4]];An [z6=z6,z9,FnOk Pg g0 56 z0 (i6 0),Tt,z9,FnOk Pg g0 89 z0 (i6 2),Tt,An [An [Zz,2=z5,0=z5-z5],Sm (0:Int),Tt],An [Sm [sl exC,gC exD],TT 2],An [z1=z1,TT 18],An [z2=z2,TT 18],An [z3=z3,TT 4],An [z4=z4,TT 4],An [An [Zz,4=4,Zz],An [Zz,4=4,Zz],Tt],An [z7=z7,TT 4],An [z8=z8,TT 4],An [An [Zz,4=4,Zz],An [Zz,4=4,Zz],Tt],An [Sm [u6 0,u6 1],TT 2],Tt])=_) ?_
  (repeat'(first|(with_reducible apply And.intro)|(refine fun(_:True)=>?_)))
  all_goals first|exact h1|exact h2|exact aq|rfl|skip)
theorem gra_l2:CallSpec Pg g0 (.fn 40 []) [.agg [.sl 6 0 4 (some 0),.sl 7 0 4 (some 0)]] (ofOs .e 0 wkO1) 10 ⟨.tup [.sl 10 0 2 (some 0),i6 0],ofOs .e 0 (wkO1++[.row 28 none [u6 2,u6 0]]),11,[]⟩:=by
 have h1:=chk_l2
 have h2:=var_l2
 refine CallSpec.of_vcH (P:=Pg) (E:=vE) vE_ok mixed Qac (n:=1000) (f:=40) (os0:=wkO1) (ars:=[.agg [.sl 6 0 4 (some 0),.sl 7 0 4 (some 0)]]) (r:=[11]) (S:={sl:=[(2,.sl 10 0 2 (some 0)),(3,i6 0)],os:=wkO1++[.row 28 none [u6 2,u6 0]],md:=[0,0,0,0,0,1,0,0,1]}) (v:=.tup [.sl 10 0 2 (some 0),i6 0]) (hs:=[fn 8 (i6 0),fn 13 (i6 2),(0,.unroll 5)]) (gl:=g0) (by simp) (fun i hi _=>by
   rcases wk_small1 i (by simpa using hi)with rfl|rfl|rfl|rfl|rfl|rfl|rfl|rfl|rfl|rfl<;>rfl) (by
  refine Eq.mp (by kernel_rfl:(let z9:=An [An [TT 4,TT 4,Tt],Tt];let z1:=arF (litF [(-3:Int),(-1:Int),(-2:Int)]);let z2:=arF (litF [(-5:Int),(-1:Int),(-1:Int)]);let z3:=[i6 0,i6 0,i6 1,i6 0];let z4:=[u6 0,u6 0,u6 0,u6 2];let z5:=Int.toNat (2:Int);let z6:=V.tup [V.sl 10 0 2 (some 0),i6 0];let z7:=[i6 0,i6 0,i6 1,i6 1];let z8:=[u6 0,u6 0,u6 0,u6 1];let z0:=[V.agg [V.im 4 z3,V.im 4 z4]];An [z6=z6,z9,FnOk Pg g0 56 z0 (i6 0),Tt,z9,FnOk Pg g0 89 z0 (i6 2),Tt,An [An [Zz,2=z5,0=z5-z5],Sm (0:Int),Tt],An [Sm [sl exC,gC exD],TT 2],An [z1=z1,TT 18],An [z2=z2,TT 18],An [z7=z7,TT 4],An [z8=z8,TT 4],An [An [Zz,4=4,Zz],An [Zz,4=4,Zz],Tt],An [z3=z3,TT 4],An [z4=z4,TT 4],An [An [Zz,4=4,Zz],An [Zz,4=4,Zz],Tt],An [Sm [u6 0,u6 1],TT 2],An [Sm [u6 2,u6 0],TT 2],Tt])=_) ?_
  (repeat'(first|(with_reducible apply And.intro)|(refine fun(_:True)=>?_)))
  all_goals first|exact h1|exact h2|exact aq|rfl|skip)
theorem rgt_11:FnOk Pg g0 42 [gV exC exD,i6 1,lV l1L l1P] (.tup [.bool true,i6 0]):=by
 have h:=Qiz exC exD 1 l1L l1P (Qpy (by decide) (by decide) (by decide) (by decide)) Qen.2.1 (by decide+kernel)
 rw[show rgtB exC.length 1 (fF exC exD) l1L l1P=true from r11]at h
 exact h
theorem rgt_12:FnOk Pg g0 42 [gV exC exD,i6 1,lV l2L l2P] (.tup [.bool false,i6 0]):=by
 have h:=Qiz exC exD 1 l2L l2P (Qpy (by decide) (by decide) (by decide) (by decide)) Qen.2.1 (by decide+kernel)
 rw[show rgtB exC.length 1 (fF exC exD) l2L l2P=false from r12]at h
 exact h
theorem rgt_01:FnOk Pg g0 42 [gV exC exD,i6 0,lV l1L l1P] (.tup [.bool false,i6 0]):=by
 have h:=Qiz exC exD 0 l1L l1P (Qpy (by decide) (by decide) (by decide) (by decide)) Qen.1 (by decide+kernel)
 rw[show rgtB exC.length 0 (fF exC exD) l1L l1P=false from r01]at h
 exact h
theorem chk_a:FnOk Pg g0 56 [lV [0,1,1,1] [0,0,0,0]] (i6 290):=by
 have h:=Qbg [0,1,1,1] [0,0,0,0] (Qpy (by decide) (by decide) (by decide) (by decide))
 rw[show(if ladB [0,1,1,1] [0,0,0,0]then(0:Int)else 290)=290 by decide+kernel]at h
 exact h
theorem chk_b:FnOk Pg g0 56 [lV [0,0,1] [0,0,0]] (i6 290):=by
 have h:=Qbg [0,0,1] [0,0,0] (fun x hx=>by simp at hx;omega)
 rw[show(if ladB [0,0,1] [0,0,0]then(0:Int)else 290)=290 by decide+kernel]at h
 exact h
theorem Qt4:FnOk Pg g0 60 [] (.bool true):=by
 have h1:=Qph
 have h2:=top_0
 have h3:=top_1
 have h4:=gra_l1
 have h5:=gra_l2
 have h6:=rgt_11
 have h7:=rgt_12
 have h8:=rgt_01
 have h9:=top_5
 have ha:=over_600
 have hb:=over_480
 have hc:=Qha [0,1] (by decide)
 have hd:=Qha [2,0] (by decide)
 have he:=chk_a
 have hf:=chk_b
 refine FnOk.of_vc vE_ok mixed Qac (n:=1000) (r:=[]) (S:={sl:=[(0,.bool true)]}) (hs:=[fn 21 (gV exC exD),fn 24 (.tup [ar (litF [-3,-1,-2]),i6 0]),fn 29 (.tup [ar (litF [-5,-1,-1]),i6 0]),(40,.call ⟨.tup [.sl 9 0 2 (some 0),i6 0],ofOs .e 0 wkO1,10,[]⟩),(45,.call ⟨.tup [.sl 10 0 2 (some 0),i6 0],ofOs .e 0 (wkO1++[.row 28 none [u6 2,u6 0]]),11,[]⟩),fn 51 (.tup [.bool true,i6 0]),fn 57 (.tup [.bool false,i6 0]),fn 63 (.tup [.bool false,i6 0]),fn 68 (.tup [ar Qaj,i6 2]),fn 79 (ar (litF [-3,-1,-2])),fn 84 (ar (litF [-5,-1,-1])),fn 94 (.bool true),fn 103 (.bool true),fn 137 (i6 290),fn 144 (i6 290)]) ?_
 refine Eq.mp (by kernel_rfl:(let w0:=An [TT 2,Tt,An [TT 4,TT 4,Tt],Tt];let w1:=An [TT 2,Tt,Tt];let z1:=[(-3:Int),(-1:Int),(-2:Int)];let z2:=[(-5:Int),(-1:Int),(-1:Int)];let z5:=O.row 41 none [i6 0,i6 0,i6 0,i6 0,i6 0,i6 0,i6 0,i6 0,i6 0,i6 0,i6 0,i6 0,i6 0,i6 0,i6 0,i6 0,i6 0,i6 0];let z6:=V.agg [V.im 2 (ints exC),V.im 4 (List.map sl exD)];let z8:=V.bool true;let y0:=[V.sl 10 0 2 (some 0),V.sl 13 0 2 (some 0)];let y1:=[V.sl 9 0 2 (some 0),V.sl 12 0 2 (some 0)];let y3:=Int.toNat (4:Int);let y4:=Int.toNat (3:Int);let y8:=[V.sl 3 0 4 (some 0),V.sl 4 0 4 (some 0)];let y9:=[V.sl 6 0 4 (some 0),V.sl 7 0 4 (some 0)];let x0:=O.row 77 none [V.nils,V.nils];let x1:=[u6 2,u6 0];let x2:=V.tup [V.bool false,i6 0];let x3:=[i6 0,i6 0,i6 1,i6 1];let x4:=[u6 0,u6 0,u6 0,u6 1];let x5:=[i6 0,i6 0,i6 1,i6 0];let x6:=[u6 0,u6 0,u6 0,u6 2];let x7:=[i6 0,i6 1,i6 1,i6 1];let x8:=[u6 0,u6 0,u6 0,u6 0];let x9:=[u6 0,u6 1];let y2:=V.agg [V.im 4 x3,V.im 4 x4];let y5:=ofOs T.e 0 (wkO1++[O.row 28 none x1]);let y6:=ar (litF z1);let y7:=ar (litF z2);let z0:=pt (pt y5 11 z5) 11 (O.row 41 none (arF Qaj));let z7:=pt z0 12 (O.row 28 none x9);let z3:=pt z7 13 (O.row 28 none x1);let z4:=pt (pt z3 14 (O.row 3 none x7)) 15 (O.row 28 none x8);let z9:=pt (pt z4 16 (O.row 3 none [i6 0,i6 0,i6 1])) 17 (O.row 28 none [u6 0,u6 0,u6 0]);An [z8=z8,Tt,FnOk Pg g0 66 [] (gV exC exD),Tt,w1,FnOk Pg g0 41 [z6,i6 0] (V.tup [y6,i6 0]),Tt,w1,FnOk Pg g0 41 [z6,i6 1] (V.tup [y7,i6 0]),Tt,CallSpec Pg g0 (V.fn 40 []) [V.agg y8] (pt (pt (pt (pt (pt (pt (pt (pt (pt (pt (pt (pt (pt (pt T.e 0 (O.row 32 none [V.nils,V.nils])) 0 (O.row 32 none [sl exC,gC exD])) 1 z5) 1 (O.row 41 none (arF (litF z1)))) 2 z5) 2 (O.row 41 none (arF (litF z2)))) 3 (O.row 3 none x3)) 4 (O.row 28 none x4)) 5 x0) 5 (O.row 77 none y8)) 6 (O.row 3 none x5)) 7 (O.row 28 none x6)) 8 x0) 8 (O.row 77 none y9)) 9 (CR.mk (V.tup [V.sl 9 0 2 (some 0),i6 0]) (ofOs T.e 0 wkO1) 10 []),Tt,CallSpec Pg g0 (V.fn 40 []) [V.agg y9] (ofOs T.e 0 wkO1) 10 (CR.mk (V.tup [V.sl 10 0 2 (some 0),i6 0]) y5 11 []),Tt,w0,FnOk Pg g0 42 [z6,i6 1,y2] (V.tup [z8,i6 0]),Tt,w0,FnOk Pg g0 42 [z6,i6 1,V.agg [V.im 4 x5,V.im 4 x6]] x2,Tt,w0,FnOk Pg g0 42 [z6,i6 0,y2] x2,Tt,w1,FnOk Pg g0 41 [z6,i6 5] (V.tup [ar Qaj,i6 2]),Tt,An [Tt,Tt],FnOk Pg g0 96 [i6 600] y6,Tt,An [Tt,Tt],FnOk Pg g0 96 [i6 480] y7,An [(V.fn 96 []=V.fn 96 []→[i6 600]=[i6 480]→z0=z0→11+1=12→CR.mk y6 z0 12 []=CR.mk y7 z0 12 []),Tt],An [TT 2,TT 2,Tt],FnOk Pg g0 58 [V.im 2 x9,V.im 2 x9] z8,An [(V.fn 96 []=V.fn 58 []→[i6 480]=y1→z0=z7→11+1=13→CR.mk y7 z0 12 []=CR.mk z8 z7 13 []),(V.fn 96 []=V.fn 58 []→[i6 600]=y1→z0=z7→11+1=13→CR.mk y6 z0 12 []=CR.mk z8 z7 13 []),Tt],An [TT 2,TT 2,Tt],FnOk Pg g0 58 [V.im 2 x1,V.im 2 x1] z8,An [(V.fn 58 []=V.fn 58 []→y1=y0→z7=z3→11+1+1=14→CR.mk z8 z7 13 []=CR.mk z8 z3 14 []),(V.fn 96 []=V.fn 58 []→[i6 480]=y0→z0=z3→11+1=14→CR.mk y7 z0 12 []=CR.mk z8 z3 14 []),(V.fn 96 []=V.fn 58 []→[i6 600]=y0→z0=z3→11+1=14→CR.mk y6 z0 12 []=CR.mk z8 z3 14 []),Tt],An [An [TT 4,TT 4,Tt],Tt],FnOk Pg g0 56 [V.agg [V.im 4 x7,V.im y3 x8]] (i6 290),Tt,An [An [TT 3,TT 3,Tt],Tt],FnOk Pg g0 56 [V.agg [V.im 3 [i6 0,i6 0,i6 1],V.im y4 [u6 0,u6 0,u6 0]]] (i6 290),An [(V.fn 56 []=V.fn 56 []→[V.agg [V.sl 14 0 4 (some 0),V.sl 15 0 y3 (some (y3-y3))]]=[V.agg [V.sl 16 0 3 (some 0),V.sl 17 0 y4 (some (y4-y4))]]→z4=z9→11+1+1+1+1+1=18→CR.mk (i6 290) z4 16 []=CR.mk (i6 290) z9 18 []),Tt],An [true=((290:Int)==(290:Int)),Tt],Tt])=_) ?_
 (repeat'(first|(with_reducible apply And.intro)|(refine fun(_:True)=>?_)))
 all_goals first|exact h1|exact h2|exact h3|exact h4|exact h5|exact h6|exact h7|exact h8|exact h9|exact ha|exact hb|exact hc|exact hd|exact he|exact hf|exact aq|rfl|skip
set_option maxHeartbeats 1000000
theorem Qsw{cards:List Int}(h:CdOk cards): ∀k:Nat,k≤cards.length→1≤prodT cards k∧prodT cards k≤3^k
 |0,_=>by simp[prodT]
 |k+1,hk=>by
  have h1:=Qsw h k (by omega)
  have h2:=h.each k (by omega)
  unfold prodT
  rw[Int.pow_succ]
  generalize (3:Int)^k=P at*
  generalize prodT cards k=a at*
  generalize cards.getD k 0=c at*
  constructor
  ·exact Int.mul_le_mul h1.1 (by omega:(1:Int)≤c) (by omega) (by omega) |> fun h=>by simpa using h
  ·exact Int.mul_le_mul h1.2 h2.2 (by omega) (by omega)
theorem Qrv{l:List Int}{x:Int}(h:x∈l): ∃k,k<l.length∧x=l.getD k 0:=by
 obtain⟨k,hk,rfl⟩:=List.getElem_of_mem h
 exact⟨k,hk,by rw[List.getD_eq_getElem?_getD,List.getElem?_eq_getElem hk];rfl⟩
theorem Qrx{cards:List Int}{cs:List (List Int)}(hc:CdOk cards)(hl:cs.length≤40)(hrow: ∀r∈cs,r.length=cards.length∧∀k,k<cards.length→0≤r.getD k 0∧r.getD k 0<cards.getD k 0):goodE cards cs=0:=by
 have h1:okAll cards cs=true:=by
  unfold okAll
  have hp:=hc.pos
  have h5:=hc.five
  have hpr:prodT cards cards.length≤1024:=by
   have h3:=(Qsw hc cards.length (Nat.le_refl _)).2
   have h4:(3:Int)^cards.length≤243:=by
    rcases(show cards.length=1∨cards.length=2∨cards.length=3∨cards.length=4∨cards.length=5 by omega)with e|e|e|e|e<;>rw[e]<;>decide
   omega
  simp only[Bool.and_eq_true,decide_eq_true_eq]
  refine⟨hp,by omega,hl,?_,hpr,?_⟩
  ·unfold okCs
   exact all_range.2 fun j hj=>by
    have:=hc.each j hj
    exact decide_eq_true (by omega)
  ·rw [List.all_eq_true]
   intro r hr
   obtain⟨r1,r2⟩:=hrow r hr
   unfold okRow
   rw[Bool.and_eq_true]
   exact⟨decide_eq_true r1,all_range.2 fun j hj=>by
    have:=r2 j hj
    exact decide_eq_true (by omega)⟩
 have h2:cs.any negB=false:=by
  rw[List.any_eq_false]
  intro r hr
  obtain⟨r1,r2⟩:=hrow r hr
  unfold negB
  rw[Bool.not_eq_true,List.any_eq_false]
  intro x hx
  obtain⟨k,hk,rfl⟩:=Qrv hx
  have:=r2 k (by omega)
  simpa using this.1
 unfold goodE
 rw[h1,h2];rfl
theorem Qpc(C:List Int)(ks:List (Nat→Int))(fo:Int): ∀r∈dataD C ks fo [],r.length=(cardsD C).length∧∀k,k<(cardsD C).length→0≤r.getD k 0∧r.getD k 0<(cardsD C).getD k 0:=by
 have hc:=Qd0 C
 rw[show dataD C ks fo []=drows ks fo (cardsD C) (min ks.length 40)from rfl]
 intro r hr
 obtain⟨f,_,rfl⟩:=List.mem_map.1 hr
 exact⟨Qba _ _ _ _,fun k hk=>Qmj hc _ (Nat.le_refl _) k hk⟩
abbrev nilC(cards:List Int):V:=.agg [sl cards,.nils]
theorem draft0(C:List Int)(fo:Int)(hC:u8s C):FnOk Pg g0 19 [dfV C [] fo []] (nilC (cardsD C)):=by
 obtain⟨n,hn⟩: ∃n,n=min C.length 5:=⟨_,rfl⟩
 have hl:=Qq0 C [] fo [] hC n hn
 cases n with
 |zero=>
  have hC:C=[]:=List.eq_nil_of_length_eq_zero (by omega)
  have hcs:cardsD C=[2]:=by unfold cardsD;rw[if_pos hC]
  rw[hcs]
  refine FnOk.of_vc vE_ok mixed Qac (n:=1000) (r:=[1]) (S:={sl:=[(2,.ptr 0 0)],os:=[.row 32 none [sl [2],.nils]],md:=[1]}) (hs:=[(0,.loop [0,1,2] (dcS C [] fo [] 0) [(True,.exit 0,dcX C [] fo [] 0)]),yes 38,(0,.unroll 1),(0,.unroll 1)]) ?_
  refine Eq.mp (by kernel_rfl:(An [V.agg [sl [(2:Int)],V.nils]=nilC [(2:Int)],An [An [Zz,Zz,Zz,(↑(0:Nat):Int)=(0:Int),Tt],An [dfL C [] fo []=[sl8 C,kV [],w8 fo,sl8 []],TT 4],An [Sm [V.nils,V.nils],TT 2],TT 2,Tt],Sat Pg none 0 (at' 19 [1,1,0,1,0]) (mkSt g0 139 (dcS C [] fo [] 0)) (Qaf g0 139 [(True,Ex.exit 0,dcX C [] fo [] 0)]),(True→An [((↑(0:Nat):Int)==(0:Int))=true,An [Zz,Tt],An [An [1=1,ints [(2:Int)]=[i6 2],Tt,Tt],Tt,Tt],Tt]),Tt])=_) ?_
  (repeat'(first|(with_reducible apply And.intro)|(refine fun(_:True)=>?_)))<;>first|exact aq|skip
  all_goals rfl
 | succ n =>
  have hcs:cardsD C=(C.take (n+1)).map Qbs:=by
   unfold cardsD
   rw[if_neg (by rintro rfl;simp at hn)]
   congr 1
   by_cases h5:C.length≤5
   ·rw[List.take_of_length_le h5,List.take_of_length_le (by omega)]
   ·rw[show n+1=5 by omega]
  have hLl:((C.take (n+1)).map Qbs).length=n+1:=by rw[List.length_map,List.length_take];omega
  rw[hcs]
  have hl2:Sat Pg none 0 (at' 19 [1,1,0,1,0]) (mkSt g0 139 (dcS C [] fo [] 0)) (Qaf g0 139 [(True,.exit 0,{sl:=[(1,.ptr 0 0),(2,.ptr 1 0),(3,.ptr 2 0)],os:=dfO C [] fo []::n2:: .row 32 none [owV 3 (n+1),.nils]::owL 3 (ints ((C.take (n+1)).map Qbs)) (n+1),md:=[0,0,1]})]):=hl
  clear hcs hn hl
  generalize (C.take (n+1)).map Qbs=L at*
  refine FnOk.of_vc vE_ok mixed Qac (n:=1000) (r:=[1]) (S:={sl:=[(2,.ptr 0 0)],os:=[.row 32 none [sl L,.nils]],md:=[1]}) (hs:=[(0,.loop [0,1,2] (dcS C [] fo [] 0) [(True,.exit 0,{sl:=[(1,.ptr 0 0),(2,.ptr 1 0),(3,.ptr 2 0)],os:=dfO C [] fo []::n2:: .row 32 none [owV 3 (n+1),.nils]::owL 3 (ints L) (n+1),md:=[0,0,1]})]),no 38,(0,.unroll 1),(0,.unroll 1)]) ?_
  refine Eq.mp (by kernel_rfl:(An [V.agg [sl L,V.nils]=nilC L,An [An [Zz,Zz,Zz,(↑(0:Nat):Int)=(0:Int),Tt],An [dfL C [] fo []=[sl8 C,kV [],w8 fo,sl8 []],TT 4],An [Sm [V.nils,V.nils],TT 2],TT 2,Tt],Sat Pg none 0 (at' 19 [1,1,0,1,0]) (mkSt g0 139 (dcS C [] fo [] 0)) (Qaf g0 139 [(True,Ex.exit 0,SL.mk [(1,V.ptr 0 0),(2,V.ptr 1 0),(3,V.ptr 2 0)] (dfO C [] fo []::n2::O.row 32 none [owV 3 (n+1),V.nils]::owL 3 (ints L) (n+1)) [] [0,0,1])]),(True→An [((↑(n+1):Int)==(0:Int))=false,An [Zz,Tt],An [An [L.length=n+1,Sm (ints L),HfL (ints L)],Tt,Tt],Tt]),Tt])=_) ?_
  (repeat'(first|(with_reducible apply And.intro)|(refine fun(_:True)=>?_)))<;>first|exact aq|skip
  all_goals first|(refine Qc3 ?_;omega)|rfl|skip
theorem whole0(C:List Int)(fo:Int)(M:List Int)(hC:u8s C):FnOk Pg g0 18 [dfV C [] fo M] (nilC (cardsD C)):=by
 have hd:=draft0 C fo hC
 generalize cardsD C=cards at*
 refine FnOk.of_vc vE_ok mixed Qac (n:=1000) (r:=[1]) (S:={sl:=[(2,.ptr 0 0)],os:=[.row 32 none [sl cards,.nils]]}) (hs:=[fn 5 (nilC cards)]) ?_
 refine Eq.mp (by kernel_rfl:(An [V.agg [sl cards,V.nils]=nilC cards,An [TT 4,Tt],FnOk Pg g0 19 [V.agg [V.im C.length (List.map w8 C),V.im 0 (Qcf []),w8 fo,V.im 0 []]] (nilC cards),Tt,An [Zz,Tt],An [Sm [sl cards,V.nils],TT 2],Tt])=_) ?_
 (repeat'(first|(with_reducible apply And.intro)|(refine fun(_:True)=>?_)))
 all_goals first|with_reducible rfl|exact trivial|assumption|rfl|exact hd
set_option maxHeartbeats 4000000
structure GrFacts(cards:List Int)(rows turned:List (List Int))(m:Nat)(T0 T1 T2:Nat→Int):Prop where
 t0:FnOk Pg g0 41 [gV cards rows,i6 0] (.tup [ar T0,i6 0])
 t1:FnOk Pg g0 41 [gV cards rows,i6 (m:Nat)] (.tup [ar T1,i6 0])
 t2:FnOk Pg g0 41 [gV cards rows,i6 ((m+1:Nat):Int)] (.tup [ar T2,i6 0])
 t3:FnOk Pg g0 41 [gV cards turned,i6 (m:Nat)] (.tup [ar T1,i6 0])
 bare:FnOk Pg g0 28 [gV cards rows,.im cards.length (rep cards.length [u6 0])] (.tup [ar T0,i6 0])
 c1:FnOk Pg g0 45 [ar T1,ar T2] (.tup [i6 (cmpF T1 T2),i6 0])
 c2:FnOk Pg g0 45 [ar T0,ar T1] (.tup [i6 (cmpF T0 T1),i6 0])
 le1:cmpF T1 T2≤0
 le2:cmpF T0 T1≤0
theorem Qi4{cards:List Int}{rows:List (List Int)}(h:goodE cards rows=0)(hn:cards.length≤5){m:Nat}(hm:m≤4):Qee cards rows (m:Int)=0:=by
 unfold Qee
 rw[if_pos h,if_neg (by omega)]
theorem fF_perm{cards:List Int}{rows turned:List (List Int)}(hp:turned.Perm rows)(v p:Nat):fF cards turned v p=fF cards rows v p:=by
 unfold fF famG
 rw[fam_perm (hp.map toN)]
theorem Qn1{cards:List Int}{rows:List (List Int)}(hc:CdOk cards)(hr:rows.length≤40)(hrow: ∀r∈rows,r.length=cards.length∧∀k,k<cards.length→0≤r.getD k 0∧r.getD k 0<cards.getD k 0)(m:Nat)(hm:m<4): ∃T0 T1 T2,GrFacts cards rows rows.reverse m T0 T1 T2:=by
 have hg:goodE cards rows=0:=Qrx hc hr hrow
 have hp:=rows.reverse_perm
 have hg2:goodE cards rows.reverse=0:=Qrx hc (by rw[List.length_reverse];exact hr) (fun r h=>hrow r (List.mem_reverse.1 h))
 have h1:=hc.pos
 have h5:=hc.five
 have hF:=fF_bd hg hr
 have hfull:2^cards.length-1<2^cards.length:=by
  have:0<2^cards.length:=Nat.pow_pos (by decide)
  omega
 have hb: ∀l,inB (topB cards.length l (fF cards rows) (2^cards.length-1)) 800:=fun l=>Qjc hF h5 hfull
 have hcl: ∀c∈rows,c.length≤1000:=fun c h=>by rw[(hrow c h).1];omega
 have t3:=Qht cards rows.reverse m (Qi4 hg2 h5 (by omega))
 rw[show ar (topB cards.length m (fF cards rows.reverse) (2^cards.length-1))=ar (topB cards.length m (fF cards rows) (2^cards.length-1))from congrArg V.agg (Qbd (topB_eqv _ fun v hv p _ i _=>congrFun (fF_perm hp v p) i))]at t3
 have hrank:Qqd cards.length (fun _=>0) (fun _=>0):=fun v hv=>⟨Nat.pow_pos (by decide),fun p hp hb=>by rw[Nat.zero_testBit]at hb;cases hb⟩
 have bare:=sgra_ok cards rows ((List.range cards.length).map fun _=>0) (by omega) (by omega) hcl (fun x hx=>by
  obtain⟨_,_,rfl⟩:=List.mem_map.1 hx;decide) hg (Qpv h1 (by omega) hrank)
 rw[gra_map h5,←gV_ul]at bare
 rw[show gV' cards.length (fun _=>0)=V.im cards.length (rep cards.length [u6 0])by rw[Qix]]at bare
 rw[show ar (scG (fF cards rows) (fun _=>0) (2^cards.length-1) cards.length)=ar (topB cards.length 0 (fF cards rows) (2^cards.length-1))from congrArg V.agg (Qbd fun i hi=>(top_none hF h1 h5 i hi).symm)]at bare
 exact⟨_,_,_,Qht cards rows 0 (Qi4 hg h5 (by omega)),Qht cards rows m (Qi4 hg h5 (by omega)),Qht cards rows (m+1) (Qi4 hg h5 (by omega)),t3,bare,
  Qqu _ _ ((hb m).inA (by decide)) ((hb (m+1)).inA (by decide)),Qqu _ _ ((hb 0).inA (by decide)) ((hb m).inA (by decide)),
  cmp_le (hb m) (hb (m+1)) (Qts hF h1 h5 (by omega)),cmp_le (hb 0) (hb m) (Qts hF h1 h5 (by omega))⟩
noncomputable abbrev ogH(C:List Int)(ks:List (Nat→Int))(fo:Int)(M:List Int)(cards:List Int)(csV:V)(T0 T1 T2:Nat→Int):T O:=ofOs .e 0 [dfO C ks fo M,.row 32 none [sl cards,csV],.row 41 none (arF T0),.row 41 none (arF T1),.row 41 none (arF T2),.row 28 none (rep cards.length [u6 0]),.row 41 none (arF T0)]
abbrev og4:SL:={sl:=[(4,.bool true)]}
theorem Qkh(C:List Int)(ks:List (Nat→Int))(fo:Int)(M:List Int)(x:Nat)(h:DrOk C ks fo M)(hx:x<256)(hks:dataD C ks fo []≠[]):FnOk Pg g0 17 [dfV C ks fo M,w8 (x:Nat)] (.bool true):=by
 have hw:=Qt4
 have hwd:=Qmx C ks fo M h
 have hcd:=Qd0 C
 have hrow:=Qpc C ks fo
 have hrl:=(Qqz C ks fo []).2
 generalize dataD C ks fo []=rows at*
 have h5:=hcd.five
 have h1:=hcd.pos
 have hm4:x%4<4:=Nat.mod_lt _ (by decide)
 have hm:(x:Int).tmod 4=((x%4:Nat):Int):=by rw[show(4:Int)=((4:Nat):Int)from rfl,Qou]
 generalize hcards:cardsD C=cards at*
 obtain⟨k,hk⟩: ∃k,rows.length=k+1:=⟨rows.length-1,by
  rcases Nat.eq_zero_or_pos rows.length with h0|h0
  ·exact absurd (List.eq_nil_of_length_eq_zero h0) hks
  ·omega⟩
 obtain⟨T0,T1,T2,G⟩:=Qn1 hcd hrl hrow (x%4) hm4
 obtain⟨a1,a2,a3,a4,a5,a6,a7,a8,a9⟩:=G
 generalize x%4=m at*
 generalize cmpF T1 T2=z1 at*
 generalize cmpF T0 T1=z2 at*
 have hcl:=Qqt (rows.map sl) k (by simpa using hk) (by omega) (ogH C ks fo M cards (gC rows) T0 T1 T2) 7
 rw[show V.im (k+1) (rows.map sl)=gC rows by unfold gC;rw[hk]]at hcl
 obtain⟨H1,hH1⟩: ∃H1,H1=pt (pt (pt (ogH C ks fo M cards (gC rows) T0 T1 T2) 7 (.row 29 none [])) 8 (rO (some 1) rows)) 9 (.row 32 none [sl cards,.sl 8 0 (k+1) none]):=⟨_,rfl⟩
 have hrv:=Qmi rows k hk (by omega) 8 none (some 1) H1 10 (by rw[hH1];rfl)
 have a4':FnOk Pg g0 41 [.agg [sl cards,.im (k+1) (rows.reverse.map sl)],i6 (m:Nat)] (.tup [ar T1,i6 0]):=by
  rw[show V.im (k+1) (rows.reverse.map sl)=gC rows.reverse by unfold gC;rw[List.length_reverse,hk]]
  exact a4
 have e1:=Qd2 T0
 have e2:=Qd2 T1
 unfold eqA at e1 e2
 have hmf:=Qlj rows.reverse
 have hu0:HfL (rep cards.length [u6 0]):=by rw[Qix];exact Qah _ _
 have hg:=Qat rows
 have hc:=Qad cards
 subst hH1
 clear hks hrow hcards a4
 refine FnOk.of_vc vE_ok mixed Qac (n:=1000) (r:=[]) (S:=og4) (hs:=[fn 22 (.bool true),fn 25 (gV cards rows),nu 27 (m:Nat),nu 28 (m:Nat),fn 31 (.tup [ar T0,i6 0]),fn 37 (.tup [ar T1,i6 0]),nu 43 ((m+1:Nat):Int),fn 44 (.tup [ar T2,i6 0]),mk 52,fn 53 (.tup [ar T0,i6 0]),fn 59 (.tup [i6 z1,i6 0]),fn 65 (.tup [i6 z2,i6 0]),(72,.call ⟨.sl (7+1) 0 (k+1) none,pt (pt (ogH C ks fo M cards (gC rows) T0 T1 T2) 7 (.row 29 none [])) (7+1) (.row 29 (some 1) (rows.map sl)),7+1+1,[]⟩),(76,.call ⟨.tup [],pt (pt (pt (pt (ogH C ks fo M cards (gC rows) T0 T1 T2) 7 (.row 29 none [])) 8 (rO (some 1) rows)) 9 (.row 32 none [sl cards,.sl 8 0 (k+1) none])) 8 (rO (some 1) rows.reverse),10,[8]⟩),fn 80 (.tup [ar T1,i6 0]),yes 111,yes 115,yes 120,yes 125]) ?_
 refine Eq.mp (by kernel_rfl:(let y8:=An [TT 2,Tt,Tt];let z0:=O.row 41 none [i6 0,i6 0,i6 0,i6 0,i6 0,i6 0,i6 0,i6 0,i6 0,i6 0,i6 0,i6 0,i6 0,i6 0,i6 0,i6 0,i6 0,i6 0];let z4:=(↑cards.length:Int);let z5:=ogH C ks fo M cards (gC rows) T0 T1 T2;let z6:=V.sl 8 0 (k+1) none;let z7:=rep cards.length [u6 0];let z8:=O.row 29 (some 1) (List.map sl rows);let z9:=List.reverse rows;let y0:=O.row 32 none [V.nils,V.nils];let y1:=(↑m:Int);let y3:=V.im cards.length (ints cards);let y4:=O.row 41 none (arF T0);let y5:=V.tup [ar T0,i6 0];let y6:=V.tup [ar T1,i6 0];let y7:=V.bool true;let z3:=V.agg [y3,V.im rows.length (List.map sl rows)];let y2:=O.row 32 none [sl cards,z6];An [y7=y7,Tt,FnOk Pg g0 60 [] y7,Tt,An [TT 4,Tt],FnOk Pg g0 18 [V.agg [V.im C.length (List.map w8 C),V.im ks.length (Qcf ks),w8 fo,V.im M.length (List.map w8 M)]] (gV cards rows),Tt,Int.tmod (↑x:Int) (4:Int)=y1,wr .i64 y1=y1,y8,FnOk Pg g0 41 [z3,i6 0] y5,Tt,y8,FnOk Pg g0 41 [z3,i6 ↑m] y6,Tt,wr .i64 (y1+(1:Int))=(↑(m+1):Int),y8,FnOk Pg g0 41 [z3,i6 ↑(m+1)] (V.tup [ar T2,i6 0]),Tt,An [(0:Int)≤z4,z4≤z4,(↑(8:Nat):Int)*z4≤(281474976710656:Int),z4≤(9223372036854775807:Int)],An [TT 2,HfL z7,Tt],FnOk Pg g0 28 [z3,V.im cards.length z7] y5,Tt,An [TT 18,TT 18,Tt],FnOk Pg g0 45 [V.agg (arF T1),V.agg (arF T2)] (V.tup [i6 z1,i6 0]),Tt,An [TT 18,TT 18,Tt],FnOk Pg g0 45 [V.agg (arF T0),V.agg (arF T1)] (V.tup [i6 z2,i6 0]),Tt,CallSpec Pg g0 (V.fn 49 []) [gC rows] (pt (pt (pt (pt (pt (pt (pt (pt (pt (pt (pt (pt T.e 0 (O.row 25 none [sl8 C,kV ks,w8 fo,sl8 M])) 1 y0) 1 (O.row 32 none [sl cards,gC rows])) 2 z0) 2 y4) 3 z0) 3 (O.row 41 none (arF T1))) 4 z0) 4 (O.row 41 none (arF T2))) 5 (O.row 28 none z7)) 6 z0) 6 y4) 7 (CR.mk z6 (pt (pt z5 7 (O.row 29 none [])) 8 z8) 9 []),Tt,CallSpec Pg g0 (V.fn 51 []) [z6] (pt (pt (pt (pt z5 7 (O.row 29 none [])) 8 z8) 9 y0) 9 y2) 10 (CR.mk (V.tup []) (pt (pt (pt (pt z5 7 (O.row 29 none [])) 8 (rO (some 1) rows)) 9 y2) 8 (rO (some 1) z9)) 10 [8]),Tt,An [An [Tt,HfL (List.map sl z9),Tt],Tt,Tt],FnOk Pg g0 41 [V.agg [y3,V.im (k+1) (List.map sl z9)],i6 ↑m] y6,Tt,decide (z1≤(0:Int))=true,decide (z2≤(0:Int))=true,(T0 0==T0 0&&(T0 1==T0 1&&(T0 2==T0 2&&(T0 3==T0 3&&(T0 4==T0 4&&(T0 5==T0 5&&(T0 6==T0 6&&(T0 7==T0 7&&(T0 8==T0 8&&(T0 9==T0 9&&(T0 10==T0 10&&(T0 11==T0 11&&(T0 12==T0 12&&(T0 13==T0 13&&(T0 14==T0 14&&(T0 15==T0 15&&(T0 16==T0 16&&(T0 17==T0 17&&true))))))))))))))))))=true,(T1 0==T1 0&&(T1 1==T1 1&&(T1 2==T1 2&&(T1 3==T1 3&&(T1 4==T1 4&&(T1 5==T1 5&&(T1 6==T1 6&&(T1 7==T1 7&&(T1 8==T1 8&&(T1 9==T1 9&&(T1 10==T1 10&&(T1 11==T1 11&&(T1 12==T1 12&&(T1 13==T1 13&&(T1 14==T1 14&&(T1 15==T1 15&&(T1 16==T1 16&&(T1 17==T1 17&&true))))))))))))))))))=true,An [Sm true,Tt],Tt])=_) ?_
 (repeat'(first|(with_reducible apply And.intro)|(refine fun(_:True)=>?_)))
 all_goals first|exact hw|exact hwd|exact a1|exact a2|exact a3|exact a4'|exact a5|exact a6|exact a7|exact hcl|exact hrv|(with_reducible exact e1)|(with_reducible exact e2)|(with_reducible exact hm)|exact hmf|exact hu0|exact hg|exact hc|exact aq|rfl|skip
theorem Qo9(H:T O)(nx:Nat):CallSpec Pg g0 (.fn 49 []) [.nils] H nx ⟨.nils,H,nx,[]⟩:=by
 refine CallSpec.of_vcA vE_ok mixed Qac (n:=1000) (hs:=[]) (Log.refl _ _ _) ?_
 refine Eq.mp (by kernel_rfl:(An [Sm V.nils,H=H,nx=nx,([]:List Nat)=[]])=_) ?_
 (repeat'(first|(with_reducible apply And.intro)|(refine fun(_:True)=>?_)))<;>first|exact aq|skip
theorem Qk6(H:T O)(nx:Nat):CallSpec Pg g0 (.fn 51 []) [.nils] H nx ⟨.tup [],H,nx,[]⟩:=by
 refine CallSpec.of_vcA vE_ok mixed Qac (n:=1000) (hs:=[(0,.unroll 1)]) (Log.refl _ _ _) ?_
 refine Eq.mp (by kernel_rfl:(An [Sm (V.tup []),H=H,nx=nx,([]:List Nat)=[]])=_) ?_
 (repeat'(first|(with_reducible apply And.intro)|(refine fun(_:True)=>?_)))<;>first|exact aq|skip
theorem Qlz(C:List Int)(fo:Int)(M:List Int)(x:Nat)(hC:u8s C)(hx:x<256):FnOk Pg g0 17 [dfV C [] fo M,w8 (x:Nat)] (.bool true):=by
 have hw:=Qt4
 have hwd:=whole0 C fo M hC
 have hcd:=Qd0 C
 have h5:=hcd.five
 have h1:=hcd.pos
 have hm4:x%4<4:=Nat.mod_lt _ (by decide)
 have hm:(x:Int).tmod 4=((x%4:Nat):Int):=by rw[show(4:Int)=((4:Nat):Int)from rfl,Qou]
 generalize hcards:cardsD C=cards at*
 obtain⟨T0,T1,T2,G⟩:=Qn1 hcd (rows:=[]) (by simp) (fun r hr=>by cases hr) (x%4) hm4
 obtain⟨a1,a2,a3,a4,a5,a6,a7,a8,a9⟩:=G
 generalize x%4=m at*
 generalize cmpF T1 T2=z1 at*
 generalize cmpF T0 T1=z2 at*
 have hcl:=Qo9 (ogH C [] fo M cards .nils T0 T1 T2) 7
 have hrv:=Qk6 (pt (ogH C [] fo M cards .nils T0 T1 T2) 7 (.row 32 none [sl cards,.nils])) 8
 have a1':FnOk Pg g0 41 [.agg [sl cards,.im 0 []],i6 0] (.tup [ar T0,i6 0]):=a1
 have a2':FnOk Pg g0 41 [.agg [sl cards,.im 0 []],i6 (m:Nat)] (.tup [ar T1,i6 0]):=a2
 have a3':FnOk Pg g0 41 [.agg [sl cards,.im 0 []],i6 ((m+1:Nat):Int)] (.tup [ar T2,i6 0]):=a3
 have a5':FnOk Pg g0 28 [.agg [sl cards,.im 0 []],.im cards.length (rep cards.length [u6 0])] (.tup [ar T0,i6 0]):=a5
 have e1:=Qd2 T0
 have e2:=Qd2 T1
 unfold eqA at e1 e2
 have hu0:HfL (rep cards.length [u6 0]):=by rw[Qix];exact Qah _ _
 have hc:=Qad cards
 clear hcards a1 a2 a3 a4 a5
 refine FnOk.of_vc vE_ok mixed Qac (n:=1000) (r:=[]) (S:=og4) (hs:=[fn 22 (.bool true),fn 25 (nilC cards),nu 27 (m:Nat),nu 28 (m:Nat),fn 31 (.tup [ar T0,i6 0]),fn 37 (.tup [ar T1,i6 0]),nu 43 ((m+1:Nat):Int),fn 44 (.tup [ar T2,i6 0]),mk 52,fn 53 (.tup [ar T0,i6 0]),fn 59 (.tup [i6 z1,i6 0]),fn 65 (.tup [i6 z2,i6 0]),(72,.call ⟨.nils,ogH C [] fo M cards .nils T0 T1 T2,7,[]⟩),(76,.call ⟨.tup [],pt (ogH C [] fo M cards .nils T0 T1 T2) 7 (.row 32 none [sl cards,.nils]),8,[]⟩),fn 80 (.tup [ar T1,i6 0]),yes 111,yes 115,yes 120,yes 125]) ?_
 refine Eq.mp (by kernel_rfl:(let y3:=An [TT 2,Tt,Tt];let z0:=O.row 41 none [i6 0,i6 0,i6 0,i6 0,i6 0,i6 0,i6 0,i6 0,i6 0,i6 0,i6 0,i6 0,i6 0,i6 0,i6 0,i6 0,i6 0,i6 0];let z3:=V.im cards.length (ints cards);let z4:=(↑cards.length:Int);let z5:=O.row 32 none [sl cards,V.nils];let z6:=rep cards.length [u6 0];let z7:=O.row 32 none [V.nils,V.nils];let z8:=(↑m:Int);let z9:=O.row 41 none (arF T0);let y0:=V.tup [ar T0,i6 0];let y1:=V.tup [ar T1,i6 0];let y2:=V.bool true;An [y2=y2,Tt,FnOk Pg g0 60 [] y2,Tt,An [TT 4,Tt],FnOk Pg g0 18 [V.agg [V.im C.length (List.map w8 C),V.im 0 (Qcf []),w8 fo,V.im M.length (List.map w8 M)]] (nilC cards),Tt,Int.tmod (↑x:Int) (4:Int)=z8,wr .i64 z8=z8,y3,FnOk Pg g0 41 [V.agg [z3,V.im 0 []],i6 0] y0,Tt,y3,FnOk Pg g0 41 [V.agg [z3,V.im 0 []],i6 ↑m] y1,Tt,wr .i64 (z8+(1:Int))=(↑(m+1):Int),y3,FnOk Pg g0 41 [V.agg [z3,V.im 0 []],i6 ↑(m+1)] (V.tup [ar T2,i6 0]),Tt,An [(0:Int)≤z4,z4≤z4,(↑(8:Nat):Int)*z4≤(281474976710656:Int),z4≤(9223372036854775807:Int)],An [TT 2,HfL z6,Tt],FnOk Pg g0 28 [V.agg [z3,V.im 0 []],V.im cards.length z6] y0,Tt,An [TT 18,TT 18,Tt],FnOk Pg g0 45 [V.agg (arF T1),V.agg (arF T2)] (V.tup [i6 z1,i6 0]),Tt,An [TT 18,TT 18,Tt],FnOk Pg g0 45 [V.agg (arF T0),V.agg (arF T1)] (V.tup [i6 z2,i6 0]),Tt,CallSpec Pg g0 (V.fn 49 []) [V.nils] (pt (pt (pt (pt (pt (pt (pt (pt (pt (pt (pt (pt T.e 0 (O.row 25 none [sl8 C,kV [],w8 fo,sl8 M])) 1 z7) 1 z5) 2 z0) 2 z9) 3 z0) 3 (O.row 41 none (arF T1))) 4 z0) 4 (O.row 41 none (arF T2))) 5 (O.row 28 none z6)) 6 z0) 6 z9) 7 (CR.mk V.nils (ogH C [] fo M cards V.nils T0 T1 T2) 7 []),Tt,CallSpec Pg g0 (V.fn 51 []) [V.nils] (pt (pt (ogH C [] fo M cards V.nils T0 T1 T2) 7 z7) 7 z5) 8 (CR.mk (V.tup []) (pt (ogH C [] fo M cards V.nils T0 T1 T2) 7 z5) 8 []),Tt,y3,FnOk Pg g0 41 [V.agg [z3,V.im 0 []],i6 ↑m] y1,Tt,decide (z1≤(0:Int))=true,decide (z2≤(0:Int))=true,(T0 0==T0 0&&(T0 1==T0 1&&(T0 2==T0 2&&(T0 3==T0 3&&(T0 4==T0 4&&(T0 5==T0 5&&(T0 6==T0 6&&(T0 7==T0 7&&(T0 8==T0 8&&(T0 9==T0 9&&(T0 10==T0 10&&(T0 11==T0 11&&(T0 12==T0 12&&(T0 13==T0 13&&(T0 14==T0 14&&(T0 15==T0 15&&(T0 16==T0 16&&(T0 17==T0 17&&true))))))))))))))))))=true,(T1 0==T1 0&&(T1 1==T1 1&&(T1 2==T1 2&&(T1 3==T1 3&&(T1 4==T1 4&&(T1 5==T1 5&&(T1 6==T1 6&&(T1 7==T1 7&&(T1 8==T1 8&&(T1 9==T1 9&&(T1 10==T1 10&&(T1 11==T1 11&&(T1 12==T1 12&&(T1 13==T1 13&&(T1 14==T1 14&&(T1 15==T1 15&&(T1 16==T1 16&&(T1 17==T1 17&&true))))))))))))))))))=true,An [Sm true,Tt],Tt])=_) ?_
 (repeat'(first|(with_reducible apply And.intro)|(refine fun(_:True)=>?_)))
 all_goals first|exact hw|exact hwd|exact a1'|exact a2'|exact a3'|exact a5'|exact a6|exact a7|exact hcl|exact hrv|(with_reducible exact e1)|(with_reducible exact e2)|(with_reducible exact hm)|exact hu0|exact hc|exact aq|rfl|skip
theorem Qki(C:List Int)(ks:List (Nat→Int))(fo:Int)(M:List Int)(x:Nat)(h:DrOk C ks fo M)(hx:x<256):FnOk Pg g0 17 [dfV C ks fo M,w8 (x:Nat)] (.bool true):=by
 by_cases hks:dataD C ks fo []=[]
 ·have : ks = [] := by
   have hl:(drows ks fo (cardsD C) (min ks.length 40)).length=0:=by
    rw[show drows ks fo (cardsD C) (min ks.length 40)=dataD C ks fo []from rfl,hks];rfl
   simp only[drows,List.length_map,List.length_take]at hl
   exact List.eq_nil_of_length_eq_zero (by omega)
  subst this
  exact Qlz C fo M x h.c8 hx
 ·exact Qkh C ks fo M x h hx hks
open Go.RowKit Go.ChangeShapes Go.WideShapes
theorem wf8n{n:Int}(h:(Lit.int .u8 n).wf=true): ∃m:Nat,n=m∧m<256:=by
 have:=wf8 h
 exact⟨n.toNat,by omega,by omega⟩
section
variable {H:Type} {enc:TypeId×Value→H} {w:World}
end
set_option maxHeartbeats 4000000
set_option maxRecDepth 100000
section
variable (N:Nat) (a b:Nat→Nat) (n size:Nat) (la pa:Nat→Nat)
end
open Go.RowKit Go.ChangeShapes Go.WideShapes
set_option maxRecDepth 100000
section
variable {H:Type} {enc:TypeId×Value→H} {w:World}
end
end Go.Proofs.YtglpoiaedkoecaaDoor.Am
