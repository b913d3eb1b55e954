/- Texts behind the claim, part 4: the abstract machine, and what the functions answer. No condition. -/
import Derived.Test.YtifdkhfldbkkpaaGreatCC3
set_option linter.unusedVariables false
set_option maxHeartbeats 4000000
set_option maxRecDepth 100000
set_option linter.unusedSimpArgs false
set_option linter.unusedSectionVars false
namespace Go.Proofs.YtifdkhfldbkkpaaGreat.Am
open Go.RowKit
variable{body c:Code}{G:Ca}{E:B9}{e:Ex}{hs:Hs}{y:Int}{sl':List (Nat×V)}{L r:List Nat}{ars:List V}{cs:List Value}{a b f fuel i n nx nx' s t x:Nat}{rd:Option Nat}{P:Program}{p q:Prop}{sp:Ld}{S:SL}{gl:T (List V)}{H H':T O}{α:Type}
theorem Dy:pQ Tryz.prog=true:=k_
theorem Bx:Tryz.prog.follows .mixedOrders=true:=k_
def Vi:List V->Option V
 |[.int .u64 x,.int .u64 y,.int .u64 c]=>if 0<=x/\0<=y/\0<=c/\c<=1 then some (.tup [.int .u64 ((x+y+c)%2^64),.int .u64 ((x+y+c)/2^64)])else none
 | _=>none
def O7(f:Nat)(l:List V):Option V:=bif Nat.beq f 133 then Vi l else none
theorem WP:uY Tryz.prog O7:=by
 intro f l v h s w vals hl
 unfold O7 at h
 obtain⟨hf,k⟩:=Hi h
 clear h
 have:=aF hf
 subst this
 unfold Vi at k
 split at k
 .rename_i x y c
  split at k
  .rename_i hc
   cases k
   obtain⟨v1,r1,e1,h1,v2,r2,rfl,h2,v3,r3,rfl,h3,h4⟩:=hl
   cases h1;cases h2;cases h3;cases h4
   have hv:vals= #[.int .u64 x,.int .u64 y,.int .u64 c]:=by rw[<-cQ (xs:=vals),e1]
   subst hv
   refine⟨.tuple #[.int .u64 ((x+y+c)%2^64),.int .u64 ((x+y+c)/2^64)],?_,⟨_,rfl,_,_,rfl,rfl,_,_,rfl,rfl,rfl⟩⟩
   rw[run_callFunc_extern (e:=add64Entry) Tryz.func133 k_ k_ k_ k_,run_add64 x y c hc.1 hc.2.1 hc.2.2.1 hc.2.2.2]
   rfl
  .cases k
 .cases k
noncomputable def vE:B9:=RW Tryz.prog WK O7
theorem vE_ok:vE.Ok Tryz.prog:=WS Dy oS WP
noncomputable abbrev Pg:Program:=Tryz.prog
abbrev g0:T (List V):=.e
def sub:List Nat->Code->Code
 |[],c=>c
 |0::p,.seq a _=>sub p a
 | _::p,.seq _ b=>sub p b
 |0::p,.cond _ a _=>sub p a
 | _::p,.cond _ _ b=>sub p b
 | _::p,.block _ b=>sub p b
 | _::p,.loop b=>sub p b
 | _::p,.scope b=>sub p b
 | _:: _,c=>c
noncomputable def II(f:Nat):Code:=match Gt Tryz.prog f with|some fi=>fi.body|none=>.skip
noncomputable def Iq(f:Nat)(p:List Nat):Code:=sub p (II f)
def rH:Nat->Nat->List Nat->List Nat
 |0,_,a=>a
 |k+1,n,a=>bif Nat.blt n 10 then a else rH k (n/10) (n%10::a)
noncomputable abbrev aT(f p:Nat):Code:=Iq f (rH 60 p [])
abbrev i6(n:Int):V:=.int .i64 n
def Aa(l:List Int):List V:=l.map (V.int .i64)
abbrev sl(l:List Int):V:=.im l.length (Aa l)
theorem F5(l:List Int):(Aa l).length=l.length:=by simp[Aa]
theorem dv(l:List Int)(k:Nat):(Aa l).drop k=Aa (l.drop k):=by simp[Aa]
theorem dw{l:List Int}{k:Nat}(h:k<l.length):Ae ((Aa l).drop k)=some (i6 l[k]):=by
 rw[dv,dA h];rfl
theorem Ap(l:List Int):Ba (Aa l):=by
 induction l with
 |nil=>trivial
 |cons x l ih=>exact⟨trivial,ih⟩
abbrev As(d:Nat):Nat×E9:=(d,.bool true)
abbrev no(d:Nat):Nat×E9:=(d,.bool false)
abbrev pl(d:Nat):Nat×E9:=(d,.at_)
abbrev ld(d:Nat)(v:V):Nat×E9:=(d,.ld v)
abbrev nu(d:Nat)(n:Int):Nat×E9:=(d,.num n)
abbrev va(d:Nat)(v:V):Nat×E9:=(d,.val v)
abbrev ap(d:Nat):Nat×E9:=(d,.app)
abbrev mk(d:Nat):Nat×E9:=(d,.mk)
abbrev st(c:List V):Nat×E9:=(999999,.st c)
abbrev fn(d:Nat)(v:V):Nat×E9:=(d,.fn v)
noncomputable def E0:Ld:=λ_ _=>none
theorem Gy:Lf Tryz.prog gl E0:=λ_ _ _ _ h=>by cases h
theorem K8(r:List Nat)(S:SL)(hs:Hs){v:V}(h:Oo Pg vE E0 g0 1000 f ars hs r S v):Ag Pg g0 f ars v:=Ag.of_vc vE_ok Bx Gy h
theorem Ch(S:SL)(hs:Hs){v:V}(h:Oo Pg vE E0 g0 1000 f ars hs [] S v):Ag Pg g0 f ars v:=K8 [] S hs h
theorem C9(b:Code){k:Nat}(I:α→Prop)(S:α→SL)(m:α→Nat){R:Ex→St→Prop}(h:∀x,I x→(∃y r hs n,I y∧m y<m x∧vc Pg vE E0 rd nx n b hs (Al gl k (S x)) (L8 nx k r (S y)))∨(∃e r So hs n,R e (Al gl k So)∧vc Pg vE E0 rd nx n b hs (Al gl k (S x)) (Kr nx k e r So)))(x:α)(hx:I x)(hc:c=.loop b:=by kernel_rfl):Au Pg rd nx c (Al gl k (S x)) R:=au vE_ok Bx Gy hc I S m h x hx
theorem BG{n:Int}(h1: -9223372036854775808<=n)(h2:n<=9223372036854775807):wr .i64 n=n:=Vu h1 h2
theorem MY{n m:Int}(h1: -9223372036854775808<=n)(h2:n<=9223372036854775807)(h:n=m):wr .i64 n=m:=by rw[BG h1 h2,h]
theorem zS{l:List Int}{k:Nat}(h:k<l.length):Ae ((Aa l).drop (k*1))=some (i6 l[k]):=by rw[Nat.mul_one];exact dw h
theorem Dm{l:List Int}{k:Nat}(h:k<l.length):Ae ((Aa l).drop (k*1))=some (i6 (l.getD k 0)):=by
 rw[zS h,aA,aB h];rfl
theorem Ox{x:Int}(h:y≠0):B6 G .rem t (i6 x) (i6 y)=some (i6 (x.tmod y)):=by simp[B6,Lx,h]
theorem Mw{x:Int}(h:y≠0)(h1: -9223372036854775808<=x.tdiv y)(h2:x.tdiv y<=9223372036854775807):B6 G .quo t (i6 x) (i6 y)=some (i6 (x.tdiv y)):=by simp[B6,Lx,h,BG h1 h2]
theorem Lh(n:Nat)(x:Int):Cx n [i6 x]=Aa (List.replicate n x):=by
 induction n with
 |zero=>rfl
 |succ n ih=>rw[Cx,ih,List.replicate_succ];rfl
theorem Ie{l:List Int}{j:Nat}{x:Int}(h:j<l.length):Bg (0+j*1) (Aa l) [i6 x]=some (Aa (l.set j x)):=by
 rw[cM,Nat.mul_one,YP,F5]
 have:Nat.ble (j+[i6 x].length) l.length=true:=aU (by simp;omega)
 rw[this,cond_true]
 congr 1
 rw[List.set_eq_take_append_cons_drop,if_pos h]
 simp[Aa,List.map_take,List.map_drop]
theorem aa{x:Int}(h:x=y):(x != y)=false:=by simp[h]
theorem YW{x:Int}(h:x≠y):(x != y)=true:=by simp[h]
theorem qE{x:Int}(h:x≠y):(x==y)=false:=by simp[h]
theorem k9{x:Int}(h:x=y):(x==y)=true:=by simp[h]
theorem aq{P:Prop}(h:P:=by
 first|exact DJ _|exact EQn_ok _ _ _|with_reducible(first|rfl|exact trivial|assumption|(refine decide_eq_true ?_<;>omega)|(refine decide_eq_false ?_<;>omega)|(refine zS ?_<;>omega)|(refine aa ?_<;>omega)|(refine YW ?_<;>omega)|(refine qE ?_<;>omega)|(refine k9 ?_<;>omega)|(refine MY ?_ ?_ ?_<;>omega)|(refine Ox ?_<;>omega)|(refine Mw ?_ ?_ ?_<;>omega)|exact Ap _|omega)|((with_reducible show(_:V)=_);rfl)|(intro hk_;exfalso;revert hk_;simp;done)|(intros;simp_all;done)|(split<;>omega)|((with_reducible show decide _=true);exact decide_eq_true o_)|((with_reducible show decide _=false);exact decide_eq_false o_)):P:=h
theorem a_{P:Prop}(h:P:=by
 (repeat'(first|(with_reducible apply And.intro)|(refine λ(_:True)=>?_)))
 all_goals first|with_reducible rfl|with_reducible assumption|exact aq|solve_by_elim|rfl):P:=h
theorem m_  (h:p) (e:p=q:=by kernel_rfl):q:=e.mp h
abbrev UO:List Prop->Prop->Prop
 |[],q=>q
 |x::l,q=>x/\UO l q
abbrev UP:List Prop->Prop
 |[]=>True
 |[x]=>x
 |x::l=>x/\UP l
theorem K2(hq:q):∀{p:List Prop},UP p->UO p q
 |[],_=>hq
 |[_],h=>⟨h,hq⟩
 |_::_::_,h=>⟨h.1,K2 hq h.2⟩
def ay:Option Nat->Prop
 |none=>True
 |some a=>a=a
mutual
def UZ:V->Prop
 |.bool a=>a=a
 |.int _ a=>a=a
 |.str a=>a=a
 |.ptr _ a=>a=a
 |.sl _ a b c=>a=a/\b=b/\ay c
 |.fn _ l=>BW l
 |.mfn _ l=>BW l
 |.agg l=>BW l
 |.tup l=>BW l
 |.ifc _ x=>UZ x
 |.im n l=>n=n/\l=l
 |.imp l=>l=l
 |_=>True
def BW:List V->Prop
 |[]=>True
 |x::l=>UZ x/\BW l
end
theorem Q8:∀x,UZ x:=by
 intro x
 induction x using V.rec (motive_2:=λl=>BW l)with
 |cons x l a b=>exact⟨a,b⟩
 |nil=>trivial
 |sl _ a b c=>exact⟨rfl,rfl,by cases c<;>first|trivial|rfl⟩
 |im=>exact⟨rfl,rfl⟩
 |_=>first|trivial|assumption|rfl
theorem Q9:∀l,BW l
 |[]=>trivial
 |x::l=>⟨Q8 x,Q9 l⟩
def gU:List (Nat×V)->Prop
 |[]=>True
 |(_,x)::l=>UZ x/\gU l
theorem Kk:∀l,gU l
 |[]=>trivial
 |(_,x)::l=>⟨Q8 x,Kk l⟩
def gV:Nat->O->Prop
 |_,.dead=>True
 |0,.row _ _ c=>c=c/\Ba c
 |1,.row _ _ c=>BW c
 |_,_=>False
def gT:List O->List Nat->Prop
 |[],_=>True
 |o::l,m=>gV (m.headD 0) o/\gT l m.tail
abbrev We:List O->List Nat->Prop
 |[],_=>True
 |.dead::l,m=>We l m.tail
 |.row _ _ c::l,m=>match m.headD 0 with
  |0=>Ba c/\We l m.tail
  |1=>We l m.tail
  |_=>False
 |_::_,_=>False
theorem Hk:∀{l m},We l m->gT l m
 |[],_,_=>trivial
 |o::l,m,h=>by
  cases o with
  |dead=>exact⟨by show gV _ _;unfold gV;trivial,Hk h⟩
  |row t sp c=>
   rcases hm:m.headD 0 with _|_|k
   . simp only[We,hm]at h
     exact⟨by rw[hm];exact⟨rfl,h.1⟩,Hk h.2⟩
   . simp only[We,hm]at h
     exact⟨by rw[hm];exact Q9 c,Hk h⟩
   . simp only[We,hm]at h
  |_=>exact h.elim
abbrev gW(S:SL):Prop:=gU S.sl/\gT S.os S.md
theorem C8(p:List Prop){k:Nat}{st:St}(h:UP p)(hh:We S.os S.md:=by repeat'(first|with_reducible assumption|exact trivial|apply And.intro|exact aq))(d:UO p (gW S)=vc Pg vE E0 none nx n c hs st (L8 nx k r S):=by kernel_rfl):vc Pg vE E0 none nx n c hs st (L8 nx k r S):=d.mp (K2 ⟨Kk _,Hk hh⟩ h)
theorem Cj(p:List Prop){k:Nat}{st:St}(h:UP p)(hh:We S.os S.md:=by repeat'(first|with_reducible assumption|exact trivial|apply And.intro|exact aq))(d:UO p (gW S)=vc Pg vE E0 none nx n c hs st (Kr nx k e r S):=by kernel_rfl):vc Pg vE E0 none nx n c hs st (Kr nx k e r S):=d.mp (K2 ⟨Kk _,Hk hh⟩ h)
theorem Hu(p:List Prop){v:V}(h:UP p)(hh:We S.os S.md:=by repeat'(first|with_reducible assumption|exact trivial|apply And.intro|exact aq))(d:UO p (gW S)=Oo Pg vE E0 g0 n f ars hs r S v:=by kernel_rfl):Oo Pg vE E0 g0 n f ars hs r S v:=d.mp (K2 ⟨Kk _,Hk hh⟩ h)
theorem Bf(h:a<b):decide ((a:Int)<(b:Int))=true:=decide_eq_true o_
theorem Cq(h:¬a<b):decide ((a:Int)<(b:Int))=false:=decide_eq_false o_
theorem Pp[Decidable p](h:p):decide p=true:=decide_eq_true h
theorem Jp[Decidable p](h:¬p):decide p=false:=decide_eq_false h
theorem Ar(h:a<b):An [(0:Int)<=(a:Int),(a:Int)<(b:Int)]:=⟨o_,o_⟩
theorem Dw(k:Nat)(h:k<4611686018427387904):wr .i64 ((k:Int)+(1:Int))=((k+1:Nat):Int):=(if_pos ⟨by show(-9223372036854775808:Int)<=_;omega,by show _<=(9223372036854775807:Int);omega⟩).trans o_
theorem YQ{f:α->V}: ∀{l:List α}{k:Nat}{x:α},l[k]? =some x->Ae ((l.map f).drop (k*1))=some (f x):=by
 intro l k x h
 obtain⟨hlt,rfl⟩:=aM.1 h
 rw[Nat.mul_one,<-List.map_drop,dA hlt];rfl
theorem ME(f:α->V): ∀(l:List α),(∀x,Hf (f x))->Ba (l.map f)
 |[],_=>trivial
 |x::l,h=>⟨h x,ME f l h⟩
abbrev u6(n:Int):V:=.int .u64 n
theorem LA{k:Nat}(hk:k<=64):B6 G .shr t (u6 (x:Int)) (i6 (k:Int))=some (u6 ((x/2^k:Nat):Int)):=by
 have h1:((k:Int)<0)=False:=by simp
 have h2:min k 64=k:=o_
 simp only[B6,Lx,h1,if_false,cS,IntKind.bits,h2]
 rw[Int.fdiv_eq_ediv_of_nonneg _ (Int.natCast_nonneg _)]
 rfl
theorem SU:B6 G .and t (u6 (x:Int)) (u6 1)=some (u6 ((x%2:Nat):Int)):=by
 have h:(BitVec.ofInt 64 (x:Int)&&& BitVec.ofInt 64 1).toNat=x%2:=by
  rw[fO]
  have h1:(BitVec.ofInt 64 1).toNat=1:=d_
  rw[h1,Nat.and_one_is_mod]
  have h2:(BitVec.ofInt 64 (x:Int)).toNat=x%2^64:=by
   rw[BitVec.toNat_ofInt];omega
  rw[h2];omega
 have hw:IntKind.u64.wrap ((x%2:Nat):Int)=((x%2:Nat):Int):=by
  rw[<-Fh];exact Vu (by simp[lo];omega) (by simp[hi];omega)
 have e:B6 G .and t (u6 (x:Int)) (u6 1)=some (.int .u64 (IntKind.u64.wrap ((BitVec.ofInt 64 (x:Int)&&& BitVec.ofInt 64 1).toNat:Int))):=rfl
 rw[e,h,hw]
theorem MP(x:Nat):BitVec.ofInt 64 (x:Int)=BitVec.ofNat 64 x:=by
 apply BitVec.eq_of_toNat_eq
 rw[BitVec.toNat_ofInt,cY];omega
theorem KY{z:Nat}(h:z<2^64):IntKind.u64.wrap ((z:Nat):Int)=(z:Int):=by
 rw[<-Fh];exact Vu (by simp[lo]) (by simp[hi];omega)
theorem Kn{y:Nat}(hx:x<2^64)(hy:y<2^64):B6 G .or t (u6 (x:Int)) (u6 (y:Int))=some (u6 ((x|||y:Nat):Int))/\x|||y<2^64:=by
 have hz:x|||y<2^64:=dL hx hy
 refine⟨?_,hz⟩
 have e:B6 G .or t (u6 (x:Int)) (u6 (y:Int))=some (.int .u64 (IntKind.u64.wrap ((BitVec.ofInt 64 (x:Int)|||BitVec.ofInt 64 (y:Int)).toNat:Int))):=rfl
 have h:(BitVec.ofInt 64 (x:Int)|||BitVec.ofInt 64 (y:Int)).toNat=x|||y:=by
  rw[MP,MP,BitVec.toNat_or,cY,cY,bO hx,bO hy]
 rw[e,h,KY hz]
def mi(x y:Nat):Nat:=x&&& (2^64-(y+1))
theorem WL{y:Nat}(hx:x<2^64)(hy:y<2^64)(b:Nat):(mi x y).testBit b=(x.testBit b&& !y.testBit b):=by
 unfold mi
 rw[fS,Nat.testBit_two_pow_sub_succ hy]
 by_cases hb:b<64
 .simp[hb]
 .have:x.testBit b=false:=cI (aQ (show x<2^64 from hx) (aH (show 0<2 by omega) (show 64<=b by omega)))
  simp[this]
theorem PJ{y:Nat}:mi x y<2^64:=Nat.and_lt_two_pow (n:=64) _ o_
theorem S4{y:Nat}(hx:x<2^64)(hy:y<2^64):B6 G .andNot t (u6 (x:Int)) (u6 (y:Int))=some (u6 ((mi x y:Nat):Int)):=by
 have h:(BitVec.ofInt 64 (x:Int)&&& ~~~BitVec.ofInt 64 (y:Int)).toNat=mi x y:=by
  rw[MP,MP,fO,BitVec.toNat_not,cY,cY,bO hx,bO hy]
  unfold mi
  congr 1;omega
 have e:B6 G .andNot t (u6 (x:Int)) (u6 (y:Int))=some (.int .u64 (IntKind.u64.wrap ((BitVec.ofInt 64 (x:Int)&&& ~~~BitVec.ofInt 64 (y:Int)).toNat:Int))):=rfl
 rw[e,h,KY PJ]
theorem AL{y:Nat}(hx:x<2^64)(hy:y<2^64):B6 G .and t (u6 (x:Int)) (u6 (y:Int))=some (u6 ((x&&& y:Nat):Int)):=by
 have hz:x&&& y<2^64:=Nat.and_lt_two_pow _ hy
 have e:B6 G .and t (u6 (x:Int)) (u6 (y:Int))=some (.int .u64 (IntKind.u64.wrap ((BitVec.ofInt 64 (x:Int)&&& BitVec.ofInt 64 (y:Int)).toNat:Int))):=rfl
 have h:(BitVec.ofInt 64 (x:Int)&&& BitVec.ofInt 64 (y:Int)).toNat=x&&& y:=by
  rw[MP,MP,fO,cY,cY,bO hx,bO hy]
 rw[e,h,KY hz]
theorem WI{k:Nat}(hk:k<64):B6 G .shl t (u6 1) (i6 (k:Int))=some (u6 ((2^k:Nat):Int))/\2^k<2^64:=by
 have hp:2^k<2^64:=dD o_ hk
 refine⟨?_,hp⟩
 have e:B6 G .shl t (u6 1) (i6 (k:Int))=if(k:Int)<0 then none else some (.int .u64 (wr .u64 (1*((2^min ((k:Int).toNat) 64:Nat):Int)))):=rfl
 rw[e,if_neg o_,cS,show min k 64=k by omega,eW,Fh,KY hp]
theorem Z5(x k:Nat):x.testBit k=decide (x/2^k%2=1):=Nat.testBit_eq_decide_div_mod_eq
def ut(l:List Nat):List V:=l.map λ(x:Nat)=>u6 (x:Int)
abbrev ul(l:List Nat):V:=.im l.length (ut l)
theorem mT{l:List Nat}{k:Nat}(h:k<l.length):Ae ((ut l).drop (k*1))=some (u6 ((l.getD k 0:Nat):Int)):=by
 unfold ut
 rw[aA,aB h]
 exact YQ (aB h)
theorem AQ(l:List Nat):Ba (ut l):=ME _ l (λ_=>trivial)
def Gk(l:List Nat):Prop:=∀x∈l,x<2^64
theorem Gk.get{l:List Nat}(h:Gk l)(k:Nat):l.getD k 0<2^64:=by
 rw[aA]
 cases hx:l[k]? with
 |none=>decide
 |some x=>exact h x (bG hx)
def VJ(s w:Nat)(l:List Nat):Nat->Nat
 |0=>s
 |k+1=>if s.testBit k then VJ s w l k|||(l.getD k 0&&& w)else VJ s w l k
theorem U5(s k:Nat):s/2^k%2=if s.testBit k then 1 else 0:=by
 rw[Z5]
 by_cases h:s/2^k%2=1
 .simp[h]
 .simp[h];omega
def sC(w:Nat)(l:List Nat):Nat->Nat->Nat
 |0,s=>s
 |f+1,s=>if VJ s w l l.length=s then s else sC w l f (VJ s w l l.length)
def WA(s w:Nat)(l:List Nat):Nat:=sC w l (2^64-s) s
def Jj(n:Nat):Nat:=2^n-1
inductive Es where
 |mk(k v:Nat)(l:List Es)
mutual
def VS:Es->List V
 | .mk k v l=>[i6 k,u6 v,.im l.length (rX l)]
def rX:List Es->List V
 |[]=>[]
 |x::l=>VS x++rX l
end
abbrev rW(t:Es):V:=.agg (VS t)
mutual
theorem qI: ∀t,Ba (VS t)
 | .mk k v l=>by unfold VS;exact⟨trivial,trivial,trivial,trivial⟩
end
theorem Nb{a b:List V}(ha:Ba a)(hb:Ba b):Ba (a++b):=by
 induction a with
 |nil=>exact hb
 |cons x a ih=>exact⟨ha.1,ih ha.2⟩
def Eb:List V:=[]
def G6(h:Nat):Nat->V
 |0=>.nils
 |n+1=>.sl h 0 (n+1) none
def Ik(t z:Nat)(l:List V):Nat->List O
 |0=>[]
 | _+1=>[.row t (some z) l]
def it(l:List Nat):List V:=l.map λ(x:Nat)=>i6 (x:Int)
theorem Fm(l:List Nat):Ba (it l):=ME _ l (λ_=>trivial)
def JU(p:List Nat):Nat->Nat×List Nat->Nat×List Nat
 |0,x=>x
 |k+1,x=>if¬(JU p k x).1.testBit k/\mi (p.getD k 0) (JU p k x).1=0 then((JU p k x).1|||2^k,(JU p k x).2++[k])else JU p k x
def gO(p:List Nat):Nat->Nat×List Nat->Option (Nat×List Nat)
 |0,x=>if x.1=Jj p.length then some x else none
 |f+1,x=>if x.1=Jj p.length then some x else gO p f (JU p p.length x)
theorem YA{l:List Nat}{k:Nat}(h:k<l.length):Ae ((it l).drop (k*1))=some (i6 ((l.getD k 0:Nat):Int)):=by
 unfold it
 rw[aA,aB h]
 exact YQ (aB h)
abbrev A5(d:Nat)(o:O)(v:V):Nat×E9:=(d,.lo o v)
abbrev so(o:O)(c:List V):Nat×E9:=(999999,.so o c)
abbrev toO(sl:List (Nat×V)):Nat×E9:=(0,.toO sl)
abbrev rJ(sl:List (Nat×V))(e:Ex)(sl':List (Nat×V)):Nat×E9:=(0,.loopF sl [(True,e,sl')])
def Yb:List (Prop×Ex×List (Nat×V))->Ex->List (Nat×V)->Prop
 |[],_,_=>False
 |(p,e',sl')::l,e,sl=>(p/\e=e'/\sl=sl')\/Yb l e sl
theorem Si{M:Mem}: ∀{l:List (Prop×Ex×List (Nat×V))}{e:Ex}{sl:List (Nat×V)},Yb l e sl->DQ gl n M.H M.nx M.lg l e (Be gl n sl M.H M.nx M.lg)
 |(p,e',sl')::l,e,sl,h=>by
  rcases h with⟨h1,h2,rfl⟩|h
  .exact .inl ⟨h1,h2,rfl⟩
  .exact .inr (Si h)
theorem LR{b:Code}(hc:c= .loop b){k nx0:Nat}(I:α->Mem->Prop)(S:α->List (Nat×V))(m:α->Nat)(out:Ex->List (Nat×V)->Mem->Prop)
  (h: ∀x(H:T O)(nx:Nat)(lg:List Nat)(G:Ex->List (Nat×V)->T O->Nat->List Nat->Prop),I x ⟨H,nx,lg⟩->(∀y H nx lg,I y ⟨H,nx,lg⟩->m y<m x->G .normal (S y) H nx lg)->(∀i sl H nx lg,out (.exit i) sl ⟨H,nx,lg⟩->G (.exit i) sl H nx lg)->(∀sl H nx lg,out .ret sl ⟨H,nx,lg⟩->G .ret sl H nx lg)->∃hs n,vc Pg vE E0 rd nx0 n b hs (Be gl k (S x) H nx lg) (AK k G))
  (x:α)(M:Mem)(hx:I x M):Au Pg rd nx0 c (Be gl k (S x) M.H M.nx M.lg) (λe st=>∃sl M',st=Be gl k sl M'.H M'.nx M'.lg/\out e sl M'):=
 PN vE_ok Bx Gy hc I S m out (λx H nx lg hI=>h x H nx lg _ hI (λy H nx lg h1 h2=>⟨y,h1,h2,rfl⟩) (λi sl H nx lg h=>h) (λsl H nx lg h=>h)) x M hx
theorem Td{b:Code}(hc:c= .loop b){k nx0:Nat}(I:α->Prop)(S:α->List (Nat×V))(m:α->Nat)(outs:List (Prop×Ex×List (Nat×V)))(H:T O)(nx:Nat)(lg:List Nat)
  (h: ∀x(G:Ex->List (Nat×V)->T O->Nat->List Nat->Prop),I x->(∀y,I y->m y<m x->G .normal (S y) H nx lg)->(∀i sl,Yb outs (.exit i) sl->G (.exit i) sl H nx lg)->∃hs n,vc Pg vE E0 rd nx0 n b hs (Be gl k (S x) H nx lg) (AK k G))(x:α)(hx:I x):Au Pg rd nx0 c (Be gl k (S x) H nx lg) (DQ gl k H nx lg outs):=by
 refine(LR hc (λy M'=>I y/\M'=⟨H,nx,lg⟩) S m (λe sl M'=>M'=⟨H,nx,lg⟩/\Yb outs e sl) (λx H' nx' lg' G hI hN hE _=>?_) x ⟨H,nx,lg⟩ ⟨hx,rfl⟩).mono ?_
 .obtain⟨hI,e⟩:=hI
  cases e
  exact h x G hI (λy h1 h2=>hN y _ _ _ ⟨h1,rfl⟩ h2) (λi sl h=>hE i sl _ _ _ ⟨rfl,h⟩)
 .rintro e st ⟨sl,M',rfl,rfl,ho⟩
  exact Si (M:=⟨H,nx,lg⟩) ho
theorem Ad(t:T α)(i j:Nat)(x:α):gt (pt t i x) j=if j=i then some x else gt t j:=by rw[Cm,Bh,T.get_put,Cm]
theorem gq{P:Prop}(h:P:=by
 ((repeat(first|(rw[Ad,if_pos (by first|rfl|omega)])|(rw[Ad,if_neg o_])))<;>first|assumption|rfl)):P:=h
theorem T.set_set: ∀(f:Nat)(t:T α)(i:Nat)(x y:Option α),i<f->T.set f (T.set f t i x) i y=T.set f t i y
 |0,_,_,_,_,h=>absurd h (aJ _)
 | f + 1, t, i, x, y, h => by
  have ih:i≠0->∀t:T α,T.set f (T.set f t (i/2) x) (i/2) y=T.set f t (i/2) y:=λ_ t=>T.set_set f t (i/2) x y o_
  have ih2:i≠0->∀t:T α,T.set f (T.set f t (i/2-1) x) (i/2-1) y=T.set f t (i/2-1) y:=λ_ t=>T.set_set f t (i/2-1) x y o_
  by_cases h0:i=0
  .subst h0;cases t<;>simp[T.set]
  .have hb:Nat.beq i 0=false:=by
    cases hb:Nat.beq i 0 with
    |false=>rfl
    |true=>exact absurd (aF hb) h0
   cases h1:Nat.beq (i%2) 1<;>cases t<;>simp only[T.set,hb,h1,cond_true,cond_false,ih h0,ih2 h0]
theorem T.set_same: ∀(f:Nat)(t:T α)(i:Nat)(x:α),i<f->t.get i=some x->T.set f t i (some x)=t
 |0,_,_,_,h,_=>absurd h (aJ _)
 |f+1,.e,_,_,_,h=>by simp at h
 | f + 1, .n l v r, i, x, hf, h => by
  unfold T.get at h
  unfold T.set
  cases h0:Nat.beq i 0 with
  |true=>rw[h0,cond_true]at h;rw[cond_true,h]
  |false=>
   have hi:i≠0:=by rintro rfl;cases h0
   rw[h0,cond_false]at h
   rw[cond_false]
   cases h1:Nat.beq (i%2) 1 with
   |true=>rw[h1,cond_true]at h;rw[cond_true,T.set_same f l (i/2) x o_ h]
   |false=>rw[h1,cond_false]at h;rw[cond_false,T.set_same f r (i/2-1) x o_ h]
theorem Wn(t:T α)(i:Nat)(x y:α):pt (pt t i x) i y=pt t i y:=by
 rw[Bh,Bh,Bh];exact T.set_set _ _ _ _ _ (dH _)
theorem mH{t:T α}{x:α}(h:gt t i=some x):pt t i x=t:=by
 rw[Cm]at h;rw[Bh];exact T.set_same _ _ _ _ (dH _) h
noncomputable def rQ(E:B9)(res:List ResultVar)(r:CR):KF:=λe _ st=>match e with
 | .exit _=>False
 | .pan _=>False
 | _=>Gr r.v (Db E.G st.tm st.H res)/\st.H=r.H/\st.nx=r.nx/\st.lg=r.lg
noncomputable def BO(P:Program)(E:B9)(sp:Ld)(gl:T (List V))(n:Nat)(ars:List V)(H:T O)(nx:Nat)(hs:Hs)(r:CR):Option FI->Prop
 |some fi=>bif Nat.ble ars.length fi.ntmps then vc P E sp none nx n fi.body hs ⟨⟨DU (B0 fi.ntmps) 0 ars,gl,fi.ntmps⟩,H,nx,[]⟩ (rQ E fi.res r)else False
 |none=>False
theorem Ac.of_vcA(hE:E.Ok P)(hm:P.follows .mixedOrders=true)(hsp:Lf P gl sp){r:CR}(hlog:C5 H.get nx r.H.get r.nx r.lg)(h:BO P E sp gl n ars H nx hs r (E.code f)):Ac P gl (.fn f []) ars H nx r:=by
 unfold BO at h
 split at h
 .rename_i fi hfi
  obtain⟨hb,hv⟩:=Fc h
  rw[EC]at hv
  refine Ac.fn hE hfi (by rw[aV];exact hb) hlog ?_
  rw[aV]
  refine Au.of_vc hE hm hsp rfl hv λe hs' st' hg hk=>?_
  have fin:(Gr r.v (Db E.G st'.tm st'.H fi.res)/\st'.H=r.H/\st'.nx=r.nx/\st'.lg=r.lg)->Db E.G st'.tm st'.H fi.res=some r.v/\st'.H=r.H/\st'.nx=r.nx/\st'.lg=r.lg:=by
   rintro⟨hret,k⟩
   refine⟨?_,k⟩
   unfold Gr at hret
   split at hret
   .rename_i u e;rw[e,hret]
   .exact hret.elim
  unfold rQ at hk
  cases e with
  |exit=>exact hk.elim
  |pan=>exact hk.elim
  |normal=>exact⟨.inl rfl,fin hk⟩
  |ret=>exact⟨.inr rfl,fin hk⟩
 .exact h.elim
def D8(a b:List Nat):Prop:=∀g,g∈a->g∈b
noncomputable def PV(E:B9)(res:List ResultVar)(r:CR):KF:=λe _ st=>match e with
 | .exit _=>False
 | .pan _=>False
 | _=>Gr r.v (Db E.G st.tm st.H res)/\st.H=r.H/\st.nx=r.nx/\D8 st.lg r.lg
noncomputable def BL(P:Program)(E:B9)(sp:Ld)(gl:T (List V))(n:Nat)(ars:List V)(H:T O)(nx:Nat)(hs:Hs)(r:CR):Option FI->Prop
 |some fi=>bif Nat.ble ars.length fi.ntmps then vc P E sp none nx n fi.body hs ⟨⟨DU (B0 fi.ntmps) 0 ars,gl,fi.ntmps⟩,H,nx,[]⟩ (PV E fi.res r)else False
 |none=>False
theorem Ac.of_vcS(hE:E.Ok P)(hm:P.follows .mixedOrders=true)(hsp:Lf P gl sp){r:CR}(hlog:C5 H.get nx r.H.get r.nx r.lg)(h:BL P E sp gl n ars H nx hs r (E.code f)):Ac P gl (.fn f []) ars H nx r:=by
 unfold BL at h
 split at h
 .rename_i fi hfi
  obtain⟨hb,hv⟩:=Fc h
  rw[EC]at hv
  refine Ac.fnC hE hfi (by rw[aV];exact hb) hlog (R:=λe st=>(e= .normal\/e= .ret)/\Db E.G st.tm st.H fi.res=some r.v/\st.H=r.H/\st.nx=r.nx/\D8 st.lg r.lg) ?_ ?_
  .rw[aV]
   refine Au.of_vc hE hm hsp rfl hv λe hs' st' hg hk=>?_
   have fin:(Gr r.v (Db E.G st'.tm st'.H fi.res)/\st'.H=r.H/\st'.nx=r.nx/\D8 st'.lg r.lg)->Db E.G st'.tm st'.H fi.res=some r.v/\st'.H=r.H/\st'.nx=r.nx/\D8 st'.lg r.lg:=by
    rintro⟨hret,k⟩
    refine⟨?_,k⟩
    unfold Gr at hret
    split at hret
    .rename_i u e;rw[e,hret]
    .exact hret.elim
   unfold PV at hk
   cases e with
   |exit=>exact hk.elim
   |pan=>exact hk.elim
   |normal=>exact⟨.inl rfl,fin hk⟩
   |ret=>exact⟨.inr rfl,fin hk⟩
  .rintro e st ⟨he,hret,h1,h2,h3⟩
   refine⟨he,r.v,hret,λs w ee w' _ _⟨u,s',k1,g1,g2,g3,g4,g5⟩=>?_⟩
   dsimp only at g1 g2 g3 g4 g5
   rw[h1]at g2
   rw[h2]at g4 g5
   exact⟨u,s',k1,g1,g2,g3.more h3,g4,g5⟩
 .exact h.elim
def PM(x:Nat):Nat:=x&&& (2^64-x)
def VF(j:List Nat)(s:Nat):Nat->Nat
 |0=>s
 |k+1=>mi (VF j s k) (WA (PM (VF j s k)) s j)
def QT(j:List Nat)(s k:Nat):Nat:=WA (PM (VF j s k)) s j
theorem DD(h: ∀i,x.testBit i=false):x=0:=dO λi=>by rw[h i,Nat.zero_testBit]
def rF(j:List Nat)(s:Nat):Nat->Nat->Nat
 |0,k=>k
 |f+1,k=>if VF j s k=0 then k else rF j s f (k+1)
def rn(j:List Nat)(s:Nat):Nat:=rF j s s 0
def bj(p:List Nat)(c t:Nat):Nat:=WA (c&&& t) t p
noncomputable def Ma:Code->Code
 | .rangeFunc _ _ _ b=>b
 |c=>c
noncomputable def Wm:Code->Code
 | .rangeFunc _ _ a _=>a
 |c=>c
noncomputable def M0(n:Nat)(sl1:List (Nat×V))(H:T O)(nx:Nat):KF:=λe _ st=>match e with
 | .normal=>bif Nat.beq st.tm.n n then C4 st.tm sl1/\st.H=H/\st.nx=nx/\st.lg=[]else False
 | _=>False
noncomputable def Lu(H:T O)(nx:Nat)(L:List Nat):KF:=λe _ st=>match e with
 | .normal=>st.H=H/\st.nx=nx/\D8 st.lg L
 | _=>False
theorem Ac.yldC(hE:E.Ok P)(hm:P.follows .mixedOrders=true)(hsp:Lf P gl sp){hd:Nat}{H2:T O}{tm tm1:TM}{ps:List Nat}{assign:Code}{fn0:Nat}{sl0 sl1:List (Nat×V)}{hs0:Hs}{hs1:O->Hs}{m0 m1:Nat}
  (ho:gt H hd=some (.loop .ready none fn0 tm ps assign body))(htm1:Iy tm ps ars=some tm1)(hn:tm1.n=n)(hg:tm1.gl=gl)(h0:C4 tm1 sl0)
  (ha: ∀(H:T O)(nx:Nat),vc P E sp (some hd) nx m0 assign hs0 (Be gl n sl0 H nx []) (M0 n sl1 H nx))
  (hb: ∀Lb:O,vc P E sp (some hd) nx m1 body (hs1 Lb) (Be gl n sl1 (pt H hd Lb) nx [hd]) (Lu (pt H2 hd Lb) nx L))
  (hL:hd∈L)(hlog: ∀i,i∉L->H2.get i=H.get i)(h2:gt H2 hd=some (.loop .ready none fn0 tm ps assign body)):Ac P gl (.yld hd) ars H nx ⟨.bool true,H2,nx,L⟩:=by
 rw[Cm]at ho h2
 refine Ac.yld ho htm1 ⟨aC _,λi hi _=>hlog i hi⟩ ?_
 have hst:(⟨tm1,H,nx,[]⟩:St)=⟨⟨tm1.sl,gl,n⟩,H,nx,[]⟩:=by cases tm1;subst hn hg;rfl
 rw[hst]
 refine Au.fewer (sl:=sl0) (by obtain⟨a,b,c⟩:=tm1;cases hn;cases hg;exact h0) ?_
 refine Au.fewer_post ?_
 refine Au.of_vc hE hm hsp rfl (ha H nx) λe hs' st' hgl hk=>?_
 unfold M0 at hk
 split at hk
 .obtain⟨hb1,k1,k2,k3,k4⟩:=Fc hk
  have hn':=aF hb1
  refine⟨sl1,k1,rfl,none,fn0,tm,ps,assign,body,by show st'.H.get hd=_;rw[k2];exact ho,?_⟩
  show Au P (some hd) nx body ⟨_,st'.H.put hd _,st'.nx,hd::st'.lg⟩ _
  rw[k2,k3,k4]
  have e0:(Be st'.tm.gl st'.tm.n sl1 H nx []).tm=(Be gl n sl1 H nx []).tm:=by rw[hgl,hn']
  rw[e0]
  have hb':=hb (.loop .busy none fn0 tm ps assign body)
  rw[Bh]at hb'
  refine Au.of_vc hE hm hsp rfl hb' λe hs2 st2 hgl2 hk2=>?_
  unfold Lu at hk2
  split at hk2
  .obtain⟨q1,q2,q3⟩:=hk2
   refine⟨rfl,.busy,none,fn0,tm,ps,assign,body,by rw[q1,Bh,T.get_put,if_pos rfl],rfl,?_,q2.symm,λx hx=>?_⟩
   .show H2=_
    rw[q1]
    have: ∀x:O,(pt H2 hd x).put hd (.loop .ready none fn0 tm ps assign body)=H2:=λx=>by
     rw[<-Bh,Wn,mH (by rw[Cm];exact h2)]
    exact(this _).symm
   .rcases aK.1 hx with rfl|hx
    .exact hL
    .exact q3 x hx
  .exact hk2.elim
 .exact hk.elim
theorem Au.rangeC{nx0:Nat}{g:Operand}{ps:Array Tmp}{asg:Code}{caps:List V}{S':SL}{H1:T O}{nx1:Nat}{v:V}
  (hg:ev (Al gl n S).tm g=some (.fn f caps))(hlb:Kl rd (Al gl n S).H=true)
  (hc:Ac P gl (.fn f caps) [.yld S.os.length] (pt (Ai .e 0 S.os) S.os.length (.loop .ready none 0 (Al gl n S).tm ps.toList asg body)) (S.os.length+1) ⟨v,H1,nx1,L⟩)
  (h1:gt H1 S.os.length=some (.loop .ready none 0 (Al gl n S).tm ps.toList asg body))
  (hr:O5 nx0 r ⟨(Al gl n S).tm,pt H1 S.os.length .dead,nx1,L++S.lg⟩ S'):
  Au P rd nx0 (.rangeFunc g ps asg body) (Al gl n S) (B3 gl n [(True,.normal,S')]):=by
 rw[Bh]at hc
 rw[Cm]at h1
 rw[Bh]at hr
 refine Au.gc_post (Au.rangeFunc' hg hlb hc (.inl ⟨0,_,_,_,_,h1,r,Al gl n S',Wo hr,.inl ⟨trivial,rfl,rfl⟩⟩))
section
variable (p j:List Nat) (xs ys:Nat) (od:List Nat) (c:Nat) (hc:c<2^64) (ho: ∀x∈od,x<64) (hol:od.length<=64) (hlp:p.length<=64) (h64p:Gk p) (hl:j.length<=64) (h64:Gk j)
include hc ho hol hlp h64p hl h64
end
section
variable (p j:List Nat) (xs ys:Nat) (od:List Nat) (c:Nat) (hc:c<2^64) (ho: ∀x∈od,x<64) (hol:od.length<=64) (hlp:p.length<=64) (h64p:Gk p) (hl:j.length<=64) (h64:Gk j)
include hc ho hol hlp h64p hl h64
end
section
variable (p j:List Nat) (xs ys:Nat) (od:List Nat) (c:Nat) (hc:c<2^64) (ho: ∀x∈od,x<64) (hol:od.length<=64) (hlp:p.length<=64) (h64p:Gk p) (hl:j.length<=64) (h64:Gk j)
include hc ho hol hlp h64p hl h64
end
theorem Ac.moreL{c:V}{r:CR}(h:Ac P gl c ars H nx r)(hl: ∀x∈r.lg,x∈L):Ac P gl c ars H nx ⟨r.v,r.H,r.nx,L⟩:=by
 refine⟨λs w fv vals a1 a2 a3 a4 a5=>?_,h.2.more hl⟩
 obtain⟨next,e1,e2,e3⟩:=h.1 s w fv vals a1 a2 a3 a4 a5
 have key: ∀e w',Ge s w nx r e w'->Ge s w nx ⟨r.v,r.H,r.nx,L⟩ e w':=by
  rintro e w' ⟨u,s',k1,g1,g2,g3,g4,g5⟩
  exact⟨u,s',k1,g1,g2,g3.more hl,g4,g5⟩
 refine⟨next,e1,?_,e3⟩
 cases next with
 |enter f ars=>exact CallsIn.mono e2 key
 |round l f tm a b=>exact RoundIn.mono e2 key
 | _=>exact e2.elim
theorem xR{I:Nat->T O->Nat->Prop}{C:Nat->T O->Nat->T O->Nat->List Nat->Prop}(H0:T O)(n0:Nat)(h0:I 0 H0 n0): ∀(m:Nat),(∀k,k<m->∀H n,I k H n->∃H' n' L,I (k+1) H' n'/\C k H n H' n' L)->
  ∃(HH:Nat->T O)(N:Nat->Nat)(LL:Nat->List Nat),HH 0=H0/\N 0=n0/\(∀k,k<=m->I k (HH k) (N k))/\∀k,k<m->C k (HH k) (N k) (HH (k+1)) (N (k+1)) (LL k)
 |0,_=>⟨λ_=>H0,λ_=>n0,λ_=>[],rfl,rfl,λk hk=>by rw[Nat.le_zero.1 hk];exact h0,λk hk=>absurd hk (aJ _)⟩
 | m + 1, h => by
  obtain⟨HH,N,LL,e1,e2,hi,hc⟩:=xR H0 n0 h0 m (λk hk=>h k o_)
  obtain⟨H',n',L,hI,hC⟩:=h m o_ _ _ (hi m (aC _))
  refine⟨λk=>if k=m+1 then H' else HH k,λk=>if k=m+1 then n' else N k,λk=>if k=m then L else LL k,(if_neg o_).trans e1,(if_neg o_).trans e2,λk hk=>?_,λk hk=>?_⟩
  .dsimp only
   by_cases hkm:k=m+1
   .subst hkm;rw[if_pos rfl,if_pos rfl];exact hI
   .rw[if_neg hkm,if_neg hkm];exact hi k o_
  .dsimp only
   by_cases hkm:k=m
   .subst hkm;rw[if_neg o_,if_neg o_,if_pos rfl,if_pos rfl,if_pos rfl];exact hC
   .rw[if_neg o_,if_neg o_,if_neg o_,if_neg o_,if_neg hkm];exact hc k o_
theorem zB{HH:Nat->T O}{N:Nat->Nat}{LL:Nat->List Nat}: ∀m,(∀k,k<m->C5 (HH k).get (N k) (HH (k+1)).get (N (k+1)) (LL k))->(∀k,k<m->∀x∈LL k,x∈L)->C5 (HH 0).get (N 0) (HH m).get (N m) L
 |0,_,_=>C5.refl _ _ _
 |m+1,h,hl=>((zB m (λk hk=>h k o_) (λk hk=>hl k o_)).trans (h m o_)).more (λx hx=>(aL.1 hx).elim (hl m o_ x) id)
noncomputable def N5(n:Nat)(sl1:List (Nat×V))(H:T O)(nx:Nat)(lg:List Nat):KF:=λe _ st=>match e with
 | .normal=>bif Nat.beq st.tm.n n then C4 st.tm sl1/\st.H=H/\st.nx=nx/\st.lg=lg else False
 | _=>False
noncomputable def RU(H:T O)(nx:Nat)(L:List Nat):KF:=λe _ st=>match e with
 | .normal=>st.H=H/\st.nx=nx/\st.lg=L
 | _=>False
theorem Ac.yldO(hE:E.Ok P)(hm:P.follows .mixedOrders=true)(hsp:Lf P gl sp){hd:Nat}{H1 H2:T O}{nx1 nx2:Nat}{tm tm1:TM}{ps:List Nat}{assign:Code}{fn0:Nat}{sl0 sl1:List (Nat×V)}{lg1:List Nat}{hs0 hs1:Hs}{m0 m1:Nat}
  (ho:gt H hd=some (.loop .ready none fn0 tm ps assign body))(htm1:Iy tm ps ars=some tm1)(hn:tm1.n=n)(hg:tm1.gl=gl)(h0:C4 tm1 sl0)
  (ha:vc P E sp (some hd) nx m0 assign hs0 (Be gl n sl0 H nx []) (N5 n sl1 H1 nx1 lg1))(h1:gt H1 hd=some (.loop .ready none fn0 tm ps assign body))
  (hb:vc P E sp (some hd) nx m1 body hs1 (Be gl n sl1 (pt H1 hd (.loop .busy none fn0 tm ps assign body)) nx1 (hd::lg1)) (RU H2 nx2 L))
  (h2:gt H2 hd=some (.loop .busy none fn0 tm ps assign body))(hlog:C5 H.get nx (pt H2 hd (.loop .ready none fn0 tm ps assign body)).get nx2 (hd::L)):
  Ac P gl (.yld hd) ars H nx ⟨.bool true,pt H2 hd (.loop .ready none fn0 tm ps assign body),nx2,hd::L⟩:=by
 rw[Cm]at ho h1 h2
 refine Ac.yld ho htm1 hlog ?_
 have hst:(⟨tm1,H,nx,[]⟩:St)=⟨⟨tm1.sl,gl,n⟩,H,nx,[]⟩:=by cases tm1;subst hn hg;rfl
 rw[hst]
 refine Au.fewer (sl:=sl0) (by obtain⟨a,b,c⟩:=tm1;cases hn;cases hg;exact h0) ?_
 refine Au.fewer_post ?_
 refine Au.of_vc hE hm hsp rfl ha λe hs' st' hgl hk=>?_
 unfold N5 at hk
 split at hk
 .obtain⟨hb1,k1,k2,k3,k4⟩:=Fc hk
  have hn':=aF hb1
  refine⟨sl1,k1,rfl,none,fn0,tm,ps,assign,body,by show st'.H.get hd=_;rw[k2];exact h1,?_⟩
  show Au P (some hd) nx body ⟨_,st'.H.put hd _,st'.nx,hd::st'.lg⟩ _
  rw[k2,k3,k4]
  have e0:(Be st'.tm.gl st'.tm.n sl1 H1 nx1 lg1).tm=(Be gl n sl1 H1 nx1 lg1).tm:=by rw[hgl,hn']
  rw[e0]
  rw[Bh]at hb
  refine Au.of_vc hE hm hsp rfl hb λe hs2 st2 hgl2 hk2=>?_
  unfold RU at hk2
  split at hk2
  .obtain⟨q1,q2,q3⟩:=hk2
   refine⟨rfl,.busy,none,fn0,tm,ps,assign,body,by rw[q1];exact h2,rfl,?_,q2.symm,λx hx=>?_⟩
   .show pt H2 hd _=_
    rw[q1,Bh];rfl
   .rw[q3]at hx;exact hx
  .exact hk2.elim
 .exact hk.elim
theorem lH(hle:nx<=nx')(h: ∀i,i∉L->¬(nx<=i/\i<nx')->gt H' i=gt H i):C5 H.get nx H'.get nx' L:=
 ⟨hle,λi h1 h2=>by rw[<-Cm,<-Cm];exact h i h1 h2⟩
section
variable (p j:List Nat) (xs ys:Nat) (od:List Nat) (all c hb hl fn0:Nat) (Lo:O)
end
section
variable (p j:List Nat) (xs ys:Nat) (od:List Nat) (all c hb hl fn0:Nat) (Lo:O)
end
section
variable (p j:List Nat) (xs ys:Nat) (od:List Nat) (asked all c fn0:Nat) (hc:c<2^64) (hall:all<2^64) (ho: ∀x∈od,x<64) (hol:od.length<=64) (hlp:p.length<=64) (h64p:Gk p) (hl:j.length<=64) (h64:Gk j)
include hc hall ho hol hlp h64p hl h64
end
noncomputable def CK(gl:T (List V))(n:Nat)(r:List Nat)(sl:List (Nat×V))(S:SL):KF:=λe _ st=>match e with
 | .exit _=>False
 | .pan _=>False
 | _=>bif Nat.beq st.tm.n n then C4 st.tm sl/\Gc 0 r (Be gl n sl st.H st.nx st.lg) (Al gl n S)else False
noncomputable def BM(P:Program)(E:B9)(sp:Ld)(gl:T (List V))(n:Nat)(ars:List V)(hs:Hs)(r:List Nat)(sl:List (Nat×V))(S:SL)(v:V):Option FI->Prop
 |some fi=>bif Nat.ble ars.length fi.ntmps&&Jo v then Gr v (Db E.G (Al gl fi.ntmps S).tm (Al gl fi.ntmps S).H fi.res)/\vc P E sp none 0 n fi.body hs ⟨⟨DU (B0 fi.ntmps) 0 ars,gl,fi.ntmps⟩,.e,0,[]⟩ (CK gl fi.ntmps r sl S)else False
 |none=>False
noncomputable def BJ(P:Program)(E:B9)(sp:Ld)(gl:T (List V))(n f:Nat)(ars:List V)(hs:Hs)(r:List Nat)(sl:List (Nat×V))(S:SL)(v:V):Prop:=BM P E sp gl n ars hs r sl S v (E.code f)
theorem Ag.of_vcX{sl:List (Nat×V)}{v:V}(h:BJ Pg vE E0 gl n f ars hs r sl S v):Ag Pg gl f ars v:=by
 unfold BJ BM at h
 split at h
 .rename_i fi hfi
  obtain⟨hb,hret,hv⟩:=Fc h
  rw[aD]at hb
  have hret':Db vE.G (Al gl fi.ntmps S).tm (Al gl fi.ntmps S).H fi.res=some v:=by
   unfold Gr at hret
   split at hret
   .rename_i u e;rw[e,hret]
   .exact hret.elim
  rw[EC]at hv
  refine Ac.fnC vE_ok hfi (by rw[aV];exact hb.1) (C5.refl _ _ _) (R:=λe st=>(e= .normal\/e= .ret)/\st=Al gl fi.ntmps S) ?_ ?_
  .rw[aV]
   refine Au.gc_post (Au.fewer_post (Au.of_vc vE_ok Bx Gy rfl hv λe hs' st' hg hk=>?_))
   unfold CK at hk
   have fin:(bif Nat.beq st'.tm.n fi.ntmps then C4 st'.tm sl/\Gc 0 r (Be gl fi.ntmps sl st'.H st'.nx st'.lg) (Al gl fi.ntmps S)else False)->C4 st'.tm sl/\Gc 0 r (Be st'.tm.gl st'.tm.n sl st'.H st'.nx st'.lg) (Al gl fi.ntmps S):=by
    intro hk
    obtain⟨hb,hk1,hk2⟩:=Fc hk
    exact⟨hk1,by rw[hg,aF hb];exact hk2⟩
   cases e with
   |exit=>exact hk.elim
   |pan=>exact hk.elim
   |normal=>obtain⟨h1,h2⟩:=fin hk;exact⟨sl,h1,r,_,h2,.inl rfl,rfl⟩
   |ret=>obtain⟨h1,h2⟩:=fin hk;exact⟨sl,h1,r,_,h2,.inr rfl,rfl⟩
  .rintro e st ⟨he,rfl⟩
   refine⟨he,v,hret',λs w ee w' hH hn⟨u,s',h1,g1,g2,g3,_,_⟩=>?_⟩
   subst h1
   obtain⟨s'',q1,q2,q3,q4⟩:=ZE hH g1 (AR.1 v hb.2) g3 (λh _=>hn h (aG _)) (λb hb=>g2.old b (.inl hb))
   exact⟨u,s'',rfl,q1,q2,q3,λi=>by rw[q4];exact Cp s _ i,aC _⟩
 .exact h.elim
section
variable (p j:List Nat) (xs ys:Nat) (od:List Nat) (asked all:Nat) (hasked:asked<2^64) (hall:all<2^64) (ho: ∀x∈od,x<64) (hol:od.length<=64) (hlp:p.length<=64) (h64p:Gk p) (hl:j.length<=64) (h64:Gk j)
include hasked hall ho hol hlp h64p hl h64
end
section
variable (p j:List Nat) (xs ys:Nat) (od:List Nat) (hxs:xs<2^64) (hys:ys<2^64) (ho: ∀x∈od,x<64) (hol:od.length<=64) (hlp:p.length<64) (h64p:Gk p) (hl:j.length<=64) (h64:Gk j)
include hxs hys ho hol hlp h64p hl h64
end
section
variable (p j:List Nat) (xs ys:Nat) (od:List Nat) (all c hb hl:Nat) (Lo:O)
end
section
variable (p j:List Nat) (xs ys:Nat) (od:List Nat) (asked all c:Nat) (hc:c<2^64) (hall:all<2^64) (ho: ∀x∈od,x<64) (hol:od.length<=64) (hlp:p.length<=64) (h64p:Gk p) (hl:j.length<=64) (h64:Gk j)
include hc hall ho hol hlp h64p hl h64
end
section
variable (p j:List Nat) (xs ys:Nat) (od:List Nat) (hxs:xs<2^64) (hys:ys<2^64) (ho: ∀x∈od,x<64) (hol:od.length<=64) (hlp:p.length<64) (h64p:Gk p) (hl:j.length<=64) (h64:Gk j)
include hxs hys ho hol hlp h64p hl h64
end
section
variable (p j:List Nat) (xs ys:Nat) (od:List Nat) (hxs:xs<2^64) (hys:ys<2^64) (ho: ∀x∈od,x<64) (hol:od.length<=64) (hlp:p.length<64) (h64p:Gk p) (hl:j.length<=64) (h64:Gk j)
include hxs hys ho hol hlp h64p hl h64
end
end Go.Proofs.YtifdkhfldbkkpaaGreat.Am
namespace Go.Proofs.YtifdkhfldbkkpaaGreat.Am
open Go.RowKit
section
variable (p j:List Nat) (xs ys:Nat)
end
section
variable (p j:List Nat) (xs ys:Nat)
variable (hl:p.length<64) (h64:Gk p) (F:Nat) (hF:F<=10) (y:Nat×List Nat) (hy:gO p F (0,[])=some y) (ha:Ag Pg g0 89 [ul p,ul j,u6 xs,u6 ys] (i6 (0:Nat)))
include hl h64 hF hy ha
end
def uF(f:Nat->Nat)(n:Nat):List V:=(List.range n).map λi=>u6 (f i:Nat)
theorem V6(f:Nat->Nat)(n:Nat):Ba (uF f n):=ME _ _ (λ_=>trivial)
theorem FB(f:Nat->Nat)(n:Nat):(uF f n).length=n:=by unfold uF;rw[fA,fJ]
def KG(p:List Nat)(s k:Nat):Prop:=s.testBit k=false/\mi (p.getD k 0) s=0
def JQ(p:List Nat):Prop:=∃rk:Nat->Nat,∀u,u<p.length->∀v,(p.getD u 0).testBit v=true->v<p.length/\rk v<rk u
theorem Ua{P:Nat->Prop}{n:Nat}(h: ∃k,k<n/\P k): ∃k,k<n/\P k/\∀i,i<k->¬P i:=by
 obtain⟨k,hk,hp⟩:=h
 induction k using Nat.strongRecOn with
 | ind k ih =>
  by_cases hb: ∃b,b<k/\P b
  .obtain⟨b,h1,h2⟩:=hb
   exact ih b h1 o_ h2
  .exact⟨k,hk,hp,λi hi hpi=>hb ⟨i,hi,hpi⟩⟩
theorem wZ{p:List Nat}(h:JQ p)(h64:Gk p){s:Nat}(hs:s<2^64)(hv: ∃v,v<p.length/\s.testBit v=false): ∃u,u<p.length/\KG p s u/\∀i,i<u->¬KG p s i:=by
 obtain⟨rk,hr⟩:=h
 refine Ua ?_
 obtain⟨v,hv,hb⟩:=hv
 generalize hm:rk v=m
 induction m using Nat.strongRecOn generalizing v with
 | ind m ih =>
  by_cases hok:mi (p.getD v 0) s=0
  .exact⟨v,hv,hb,hok⟩
  .obtain⟨b,hbb⟩: ∃b,(mi (p.getD v 0) s).testBit b=true:=by
    by_cases hx: ∃b,(mi (p.getD v 0) s).testBit b=true
    .exact hx
    .exact absurd (DD λi=>by
      cases hi:(mi (p.getD v 0) s).testBit i with
      |false=>rfl
      |true=>exact absurd ⟨i,hi⟩ hx) hok
   rw[WL (h64.get v) hs]at hbb
   simp only[aD,bI]at hbb
   obtain⟨h1,h2⟩:=hr v hv b hbb.1
   exact ih (rk b) o_ b h1 hbb.2 rfl
theorem Yo{l:List Nat}{n:Nat}(hn:l.Nodup)(hl:l.length<n)(hlt: ∀x∈l,x<n): ∃v,v<n/\v∉l:=by
 by_cases h: ∃v,v<n/\v∉l
 .exact h
 .have hp:(List.range n).Perm l:=(List.perm_ext_iff_of_nodup List.nodup_range hn).2 λa=>⟨λha=>by
   by_cases hb:a∈l
   .exact hb
   .exact absurd ⟨a,bB.1 ha,hb⟩ h,λha=>bB.2 (hlt a ha)⟩
  have:=hp.length_eq
  rw[fJ]at this
  omega
structure K1(p j:List Nat):Prop where
 l1:1<=p.length
 l5:p.length<=5
 p64:Gk p
 acy:JQ p
 pw: ∀k,k<p.length->p.getD k 0/2^p.length=0
 jl:j.length=p.length
 j64:Gk j
 jw: ∀k,k<p.length->j.getD k 0/2^p.length=0
 jk: ∀k,k<p.length->(j.getD k 0).testBit k=false
 js: ∀k m,k<p.length->m<p.length->(j.getD k 0).testBit m=(j.getD m 0).testBit k
structure Wa(n xs ys:Nat):Prop where
 x:mi xs (Jj n)=0
 y:mi ys (Jj n)=0
 d:xs&&& ys=0
 n0:ys≠0
 x64:xs<2^64
 y64:ys<2^64
abbrev w8(n:Int):V:=.int .u8 n
def bt(l:List Nat):List V:=l.map λ(x:Nat)=>w8 (x:Int)
abbrev bl(l:List Nat):V:=.im l.length (bt l)
theorem Ph(l:List Nat):Ba (bt l):=ME _ l (λ_=>trivial)
theorem JF{l:List Nat}{k:Nat}(h:k<l.length):Ae ((bt l).drop (k*1))=some (w8 ((l.getD k 0:Nat):Int)):=by
 grind[bt,YQ]
theorem Og{G:Ca}{t:Nat}{a b:Nat}(h:b≠0):B6 G .rem t (i6 a) (i6 b)=some (i6 ((a%b:Nat):Int)):=by
 grind[Ox]
def Vc(Q:List Nat)(i:Nat):Nat:=if i<Q.length then Q.getD i 0%(i+1)else 0
theorem IL(Q:List Nat)(i:Nat):Vc Q i<i+1:=by
 unfold Vc
 split
 all_goals simp_all[aY]
def Gg(Q:List Nat):Nat->List Nat
 |0=>[]
 |i+1=>(Gg Q i).take (Vc Q i)++[i]++(Gg Q i).drop (Vc Q i)
theorem LX(Q:List Nat): ∀i,(Gg Q i).length=i
 |0=>rfl
 |i+1=>by
  have h:=LX Q i
  grind[Gg]
theorem ZC: ∀l:List Nat,Bl (it l)=true
 |[]=>rfl
 |x::l=>ZC l
theorem UH{h k:Nat}{lo hi:Option Int}{a b:Nat}(e1:lo.getD 0=a)(e2:hi.getD k=b)(h1:a<b)(h2:b<=k):Ce (B1 Pg) 47 (.sl h 0 k none) lo hi none=some (.sl h a (b-a) none):=by
 have e:Ce (B1 Pg) 47 (.sl h 0 k none) lo hi none=(if 0<=lo.getD 0/\lo.getD 0<=hi.getD k/\hi.getD k<=((k:Int)+((0:Nat):Int))/\((k:Int)+((0:Nat):Int))<=(k:Int)+((0:Nat):Int)/\(false=true->hi.isSome=true)then(if lo.getD 0=hi.getD k then some (.im 0 [])else if lo.getD 0=0\/1≠0 then some (.sl h (0+(lo.getD 0).toNat*1) ((hi.getD k).toNat-(lo.getD 0).toNat) none)else none)else none):=k_
 grind
theorem pA{h k:Nat}{lo hi:Option Int}{a:Nat}(e1:lo.getD 0=a)(e2:hi.getD k=a)(h2:a<=k):Ce (B1 Pg) 47 (.sl h 0 k none) lo hi none=some (.im 0 []):=by
 have e:Ce (B1 Pg) 47 (.sl h 0 k none) lo hi none=(if 0<=lo.getD 0/\lo.getD 0<=hi.getD k/\hi.getD k<=((k:Int)+((0:Nat):Int))/\((k:Int)+((0:Nat):Int))<=(k:Int)+((0:Nat):Int)/\(false=true->hi.isSome=true)then(if lo.getD 0=hi.getD k then some (.im 0 [])else if lo.getD 0=0\/1≠0 then some (.sl h (0+(lo.getD 0).toNat*1) ((hi.getD k).toNat-(lo.getD 0).toNat) none)else none)else none):=k_
 simp_all
theorem SD{H:T O}{g t:Nat}{sp:Option Nat}{L M:List Nat}{off n:Nat}(hg:gt H g=some (.row t sp (it L)))(h:off+n<=L.length)(e:(L.drop off).take n=M):A6 H 1 (.sl g off n none)=some (n,it M):=by
 grind[Cm,A6,it,Nat.ble_eq_true_of_le,List.map_drop,List.map_take]
abbrev kb(P Q:List Nat):O:=.row 58 none [bl P,bl Q]
theorem YC{Q:List Nat}(h: ∀x∈Q,x<256)(i:Nat):Q.getD i 0<256:=by
 rw[aA]
 cases hx:Q[i]? with
 |none=>decide
 |some x=>exact h x (bG hx)
theorem NZ{G:Ca}{t:Nat}{x k:Nat}{K:IntKind}(hk:k<=8):B6 G .shr t (w8 (x:Int)) (.int K (k:Int))=some (w8 ((x/2^k:Nat):Int)):=by
 grind[B6,Lx,IntKind.bits]
theorem IM{G:Ca}{t:Nat}{x:Nat}:B6 G .and t (w8 (x:Int)) (w8 1)=some (w8 ((x%2:Nat):Int)):=by
 have h:(BitVec.ofInt 8 (x:Int)&&& BitVec.ofInt 8 1).toNat=x%2:=by
  rw[fO]
  have h1:(BitVec.ofInt 8 1).toNat=1:=d_
  rw[h1,Nat.and_one_is_mod]
  have h2:(BitVec.ofInt 8 (x:Int)).toNat=x%2^8:=by
   rw[BitVec.toNat_ofInt];omega
  rw[h2];omega
 have hw:IntKind.u8.wrap ((x%2:Nat):Int)=((x%2:Nat):Int):=by
  rw[<-Fh];exact Vu (by grind[lo]) (by grind[hi])
 have e:B6 G .and t (w8 (x:Int)) (w8 1)=some (.int .u8 (IntKind.u8.wrap ((BitVec.ofInt 8 (x:Int)&&& BitVec.ofInt 8 1).toNat:Int))):=rfl
 rw[e,h,hw]
theorem sN{G:Ca}{t:Nat}{k:Nat}(hk:k<64):B6 G .shl t (u6 1) (u6 (k:Int))=some (u6 ((2^k:Nat):Int))/\2^k<2^64:=by
 have hp:2^k<2^64:=dD o_ hk
 refine⟨?_,hp⟩
 have e:B6 G .shl t (u6 1) (u6 (k:Int))=if(k:Int)<0 then none else some (.int .u64 (wr .u64 (1*((2^min ((k:Int).toNat) 64:Nat):Int)))):=rfl
 grind[Fh,KY]
theorem TA{Q:List Nat}: ∀i,∀x∈Gg Q i,x<i
 |0,x,h=>by cases h
 | i + 1, x, h => by
  rw[Gg]at h
  have ih:=TA (Q:=Q) i
  rcases aL.1 h with h|h
  .rcases aL.1 h with h|h
   .have:=ih x (List.mem_of_mem_take h);omega
   .obtain rfl:=aN.1 h;omega
  .have:=ih x (List.mem_of_mem_drop h);omega
def Km:List (Nat×Nat)->List V
 |[]=>[]
 |x::l=>[w8 x.1,w8 x.2]++Km l
theorem nM: ∀l,Ba (Km l)
 |[]=>trivial
 |x::l=>⟨trivial,trivial,nM l⟩
theorem R4: ∀{l:List (Nat×Nat)}{k:Nat}{x:Nat×Nat},l[k]? =some x->∃r,(Km l).drop (k*2)=w8 x.1::w8 x.2::r
 |[],k,x,h=>by simp at h
 |y::l,0,x,h=>by cases h;exact⟨_,rfl⟩
 |y::l,k+1,x,h=>by
  obtain⟨r,hr⟩:=R4 (l:=l) (k:=k) h
  refine⟨r,?_⟩
  rw[fE]
  exact hr
end Go.Proofs.YtifdkhfldbkkpaaGreat.Am
namespace Go.Proofs.YtifdkhfldbkkpaaGreat.Am
open Go.RowKit
inductive Pe(l:List Nat)(w:Nat):Nat->Nat->Prop
 |refl (a:Nat):Pe l w a a
 |step {a b c:Nat}:Pe l w a b->(l.getD b 0).testBit c=true->w.testBit c=true->Pe l w a c
theorem Pe.trans{l:List Nat}{w a b c:Nat}(h1:Pe l w a b)(h2:Pe l w b c):Pe l w a c:=by
 induction h2 with
 |refl=>exact h1
 |step _ h3 h4 ih=>exact ih.step h3 h4
def Sub(a b:Nat):Prop:=∀i,a.testBit i=true->b.testBit i=true
theorem Sub.eq{a b:Nat}(h1:Sub a b)(h2:Sub b a):a=b:=dO λi=>by
 rw[Bool.eq_iff_iff];exact⟨h1 i,h2 i⟩
theorem mN{x y:Nat}(hx:x<2^64)(hy:y<2^64):mi x y=0↔Sub x y:=by
 constructor
 .intro h i hi
  have:=WL hx hy i
  simp_all
 .intro h
  refine DD λi=>?_
  rw[WL hx hy i]
  cases hi:x.testBit i with
  |false=>rfl
  |true=>rw[h i hi];rfl
theorem vB(n i:Nat):(Jj n).testBit i=decide (i<n):=dK n i
theorem R9{v:Nat}(h:v<64):2^v<2^64:=dD (n:=64) d_ h
section
variable {p j:List Nat} (g:K1 p j)
include g
variable {B c k0:Nat} (hB:Sub B (Jj p.length)) (hk0:k0<rn j B) (hc:c=QT j B k0)
include hB hk0 hc
end
section
variable {p j:List Nat} (g:K1 p j)
include g
end
def Z8(p:List Nat)(xs ys:Nat):Nat:=WA (ys&&& mi (Jj p.length) xs) (mi (Jj p.length) xs) p
section
variable {p j:List Nat} (g:K1 p j) {xs ys:Nat} (hq:Wa p.length xs ys)
include g hq
def qJ(p j:List Nat)(xs ys:Nat):Prop:=∀k0 k1,k0<rn j (Z8 p xs ys)->k1<rn j (Jj p.length)->Sub (QT j (Z8 p xs ys) k0) (QT j (Jj p.length) k1)->Sub (bj p (QT j (Z8 p xs ys) k0) (QT j (Jj p.length) k1)) (Z8 p xs ys)
variable (hab:qJ p j xs ys)
include hab
end
section
variable {p j:List Nat} (g:K1 p j) {xs ys:Nat} (hq:Wa p.length xs ys)
include g
include hq
end
section
variable {p j:List Nat} (g:K1 p j)
include g
end
section
variable {p j:List Nat} (g:K1 p j) (x y:Nat) (hx:x<2^64) (hy:y<2^64)
include g hx hy
end
open Go.RowKit Go.ChangeShapes Go.WideShapes
def Gw(w:World)(b:Nat):Prop:=b<w.heap.size
def Pb(f:Nat->List V)(n:Nat):List V:=(List.range n).flatMap f
theorem U4(f:Nat->List V):Pb f 0=[]:=rfl
theorem JP(f:Nat->List V)(n:Nat):Pb f (n+1)=Pb f n++f n:=by
 grind[Pb,List.range_succ]
theorem pH{f g:Nat->List V}: ∀{n:Nat},(∀i,i<n->f i=g i)->Pb f n=Pb g n
 |0,_=>rfl
 |n+1,h=>by rw[JP,JP,pH (λi hi=>h i o_),h n o_]
theorem Yg{w:World}{a:Addr}{v:Value}(h:w.cell? a=some v):a=⟨a.block,a.off,none⟩/\a.block<w.heap.size:=by
 unfold World.cell? at h
 split at h
 .rename_i c e f hb
  refine⟨?_,(bM.1 hb).1⟩
  cases a with
  |mk b o s=>
   simp_all
 .cases h
theorem ZW{n:Int}(h:(Lit.int .u8 n).wf=true):0<=n/\n<=255:=by
 simp only[Lit.wf,aD,decide_eq_true_eq]at h
 exact h
section
variable {H:Type} {enc:TypeId×Value->H} {w:World}
theorem Vy{t:TypeId}{k:IntKind}{fuel:Nat}{cs:List Value}{x:DataW H×List MemPlace}(ht:Pg.underlying t=some (.int k))(h:DataW.trod enc Pg w 0 (λ_=>true) true fuel t cs=some x): ∃n,cs=[.int k n]/\(Lit.int k n).wf=true:=by
 grind[DataW.trod_int]
theorem Vt: ∀{l:List V}{cs:List Value}{s:Av},RL s w l cs->l.length=cs.length/\∀(j:Nat)(v:Value),cs[j]? =some v->∃x:V,l[j]? =some x/\RV s w x v
 |[],_,_,h=>by subst h;simp
 |x::l,_,s,⟨v,vs,rfl,h1,h2⟩=>by
  obtain⟨e,k⟩:=Vt h2
  grind
theorem DL{b:Nat}(hb:b<w.heap.size): ∀{l:List V}{off:Nat},(∀j x,l[j]? =some x->∃v,w.cell? ⟨b,off+j,none⟩=some v/\RV (sg (Gw w)) w x v)->RC (sg (Gw w)) w l b off
 |[],_,_=>trivial
 | x :: l, off, h => by
  obtain⟨v,h1,h2⟩:=h 0 x rfl
  exact⟨⟨hb,v,h1,h2⟩,DL hb λj y hy=>by
   obtain⟨u,k1,k2⟩:=h (j+1) y (by simpa using hy)
   grind⟩
theorem uS{f:Nat->List V}{s:Nat}(hs:0<s): ∀{n j:Nat}{x:V},(∀i,i<n->(f i).length=s)->(Pb f n)[j]? =some x->j/s<n/\(f (j/s))[j%s]? =some x
 |0,j,x,_,h=>by trivial
 | n + 1, j, x, hl, h => by
  have hlen: ∀m,m<=n->(Pb f m).length=m*s:=by
   intro m
   induction m with
   |zero=>grind[U4]
   |succ m ih=>grind[JP]
  rw[JP]at h
  by_cases hj:j<n*s
  .rw[bN (by simp_all)]at h
   obtain⟨a,b⟩:=uS hs (λi hi=>hl i o_) h
   grind
  grind[Nat.div_eq_iff,Nat.mod_eq_sub_div_mul]
theorem pY{t e:TypeId}{s:Nat}(hs:0<s)(ht:Pg.underlying t=some (.slice e))(hce:Pg.cellsOf e=s)(Q:List V->Prop)(hQ: ∀(fuel:Nat)(cs:List Value)(x:DataW H×List MemPlace),DataW.trod enc Pg w 0 (λ_=>true) true fuel e cs=some x->∃l:List V,l.length=s/\RL (sg (Gw w)) w l cs/\Q l)
  {fuel:Nat}{cs:List Value}{x:DataW H×List MemPlace}(h:DataW.trod enc Pg w 0 (λ_=>true) true fuel t cs=some x):
  ∃(v:Value)(f:Nat->List V)(n:Nat),cs=[v]/\RV (sg (Gw w)) w (.im n (Pb f n)) v/\(∀i,i<n->(f i).length=s/\Q (f i))/\n<=9223372036854775807:=by
 rcases DataW.trod_slice ht h with⟨rfl,_⟩|⟨a,len,cap,elems,rest,m,_,rfl,_,_,hl,hmx,hlen,hel,_,_⟩
 .exact⟨_,λ_=>[],0,rfl,⟨none,0,rfl,aC _,λh=>absurd rfl h⟩,λi hi=>absurd hi (aJ _),aG _⟩
 .rw[hce]at hel
  have each: ∀i:Nat,∃l:List V,i<len->(l.length=s/\Q l/\∀j x,l[j]? =some x->∃v,w.cell? ((a.add (i*s)).add j)=some v/\RV (sg (Gw w)) w x v):=by
   intro i
   by_cases hi:i<len
   .have h1:=hel i hi
    rw[aB o_]at h1
    obtain⟨cs',hcs,hy⟩:=cH.1 h1
    obtain⟨l,k1,k2,k3⟩:=hQ _ _ _ hy
    obtain⟨e1,e2⟩:=Vt k2
    refine⟨l,λ_=>⟨k1,k3,λj x hx=>?_⟩⟩
    have hj:j<s:=by rw[<-k1];exact(aM.1 hx).1
    have hc:=(World.cells?_some hcs).2.2 j hj
    have hjl:j<cs'.length:=o_
    rw[aB hjl]at hc
    obtain⟨y,y1,y2⟩:=e2 j _ (aB hjl)
    rw[hx]at y1
    cases y1
    exact⟨_,hc,y2⟩
   .exact⟨[],λh=>absurd h hi⟩
  obtain⟨f,hf⟩:=eM each
  have hmx':cap<=9223372036854775807:=hmx
  refine⟨_,f,len,rfl,?_,λi hi=>⟨(hf i hi).1,(hf i hi).2.1⟩,o_⟩
  refine⟨some a,cap,by simp,hl,λhn=>?_⟩
  have h0:0<len:=o_
  obtain⟨k1,_,k3⟩:=hf 0 h0
  obtain⟨x0,hx0⟩: ∃x0,(f 0)[0]? =some x0:=⟨_,aB o_⟩
  obtain⟨v0,c0,_⟩:=k3 0 x0 hx0
  obtain⟨h1,h2⟩:=Yg (by simpa [Addr.add]using c0)
  refine⟨a.block,a.off,by rw[<-h1],DL h2 λj x hx=>?_⟩
  obtain⟨q1,q2⟩:=uS hs (λi hi=>(hf i hi).1) hx
  obtain⟨v,c1,c2⟩:=(hf _ q1).2.2 _ _ q2
  refine⟨v,?_,c2⟩
  rw[h1,Nd,Nd,Nat.add_assoc]at c1
  have e:j/s*s+j%s=j:=by rw[bQ];exact Nat.div_add_mod j s
  rw[e]at c1
  exact c1
theorem W8{t e:TypeId}{k:IntKind}{fuel:Nat}{cs:List Value}{x:DataW H×List MemPlace}(ht:Pg.underlying t=some (.slice e))(he:Pg.underlying e=some (.int k))(hc:Pg.cellsOf e=1)
  (h:DataW.trod enc Pg w 0 (λ_=>true) true fuel t cs=some x): ∃(v:Value)(L:List Int),cs=[v]/\RV (sg (Gw w)) w (.im L.length (L.map (V.int k))) v/\(∀n∈L,(Lit.int k n).wf=true)/\L.length<=9223372036854775807:=by
 obtain⟨v,f,n,rfl,h1,h2,h3⟩:=pY (s:=1) o_ ht hc (λl=>∃m,l=[.int k m]/\(Lit.int k m).wf=true) (λfuel cs x hx=>by
  obtain⟨m,rfl,hw⟩:=Vy he hx
  exact⟨[.int k m],rfl,⟨_,_,rfl,rfl,rfl⟩,m,rfl,hw⟩) h
 have: ∀i:Nat,∃m:Int,i<n->f i=[.int k m]/\(Lit.int k m).wf=true:=λi=>by
  by_cases hi:i<n
  .simp_all
  .exact⟨0,λh=>absurd h hi⟩
 obtain⟨g,hg⟩:=eM this
 have e:Pb f n=((List.range n).map g).map (V.int k):=by
  have: ∀m,m<=n->Pb f m=((List.range m).map g).map (V.int k):=by
   intro m
   induction m with
   |zero=>intro _;rfl
   |succ m ih=>grind[JP,List.range_succ]
  exact this n (aC _)
 grind
theorem qU{n:Int}(h:(Lit.int .u64 n).wf=true): ∃k:Nat,n=(k:Int)/\k<2^64:=by
 simp only[Lit.wf,aD,decide_eq_true_eq]at h
 have h2:n<=18446744073709551615:=h.2
 exact⟨n.toNat,(Int.toNat_of_nonneg h.1).symm,o_⟩
theorem Kg{n:Int}(h:(Lit.int .u8 n).wf=true): ∃k:Nat,n=(k:Int)/\k<256:=by
 have h:=ZW h
 exact⟨n.toNat,(Int.toNat_of_nonneg h.1).symm,o_⟩
theorem Rz: ∀(g:Nat->Nat×Nat)(n:Nat),Pb (λi=>[w8 ((g i).1:Nat),w8 ((g i).2:Nat)]) n=Km ((List.range n).map g)
 |g,0=>rfl
 | g, n + 1 => by
  have e: ∀l m:List (Nat×Nat),Km (l++m)=Km l++Km m:=by
   intro l m
   induction l with
   |nil=>rfl
   |cons x l ih=>grind[Km]
  rw[JP,Rz g n,eG,bP,e];rfl
theorem mC{fuel:Nat}{cs:List Value}{x:DataW H×List MemPlace}(h:DataW.trod enc Pg w 0 (λ_=>true) true fuel 24 cs=some x): ∃(v:Value)(L:List Nat),cs=[v]/\RV (sg (Gw w)) w (bl L) v/\(∀x∈L,x<256)/\L.length<=9223372036854775807:=by
 obtain⟨v,L,e1,r1,w1,l1⟩:=W8 Tryz.underlying24 Tryz.underlying5 k_ h
 have eL:L.map (V.int .u8)=bt (L.map Int.toNat):=by
  unfold bt
  rw[List.map_map]
  refine dZ λz hz=>?_
  have:=ZW (w1 z hz)
  show V.int .u8 z=V.int .u8 ((z.toNat:Nat):Int)
  rw[Int.toNat_of_nonneg this.1]
 refine⟨v,L.map Int.toNat,e1,?_,λx hx=>?_,by simpa using l1⟩
 .grind
 .obtain⟨z,hz,rfl⟩:=cC.1 hx
  have:=ZW (w1 z hz)
  omega
theorem Qg{fuel:Nat}{cs:List Value}{x:DataW H×List MemPlace}(h:DataW.trod enc Pg w 0 (λ_=>true) true fuel 92 cs=some x): ∃a b:Nat,cs=[.int .u8 (a:Nat),.int .u8 (b:Nat)]/\a<256/\b<256:=by
 obtain⟨xs,n,_,_,hl,hlen,hfd⟩:=DataW.trod_array Tryz.underlying92 h
 have hc:Pg.cellsOf 92=2:=k_
 have h5:Pg.cellsOf 5=1:=k_
 rw[hc]at hl
 obtain⟨c0,c1,rfl⟩: ∃c0 c1,cs=[c0,c1]:=by
  match cs,hl with
  |[c0,c1],_=>simp
 obtain⟨y0,y1,rfl⟩: ∃y0 y1,xs=[y0,y1]:=by
  match xs,hlen with
  |[y0,y1],_=>simp
 have f0:=hfd 0 o_
 have f1:=hfd 1 o_
 rw[h5]at f0 f1
 obtain⟨k0,e0,w0⟩:=Vy Tryz.underlying5 (x:=y0) f0
 obtain⟨k1,e1,w1⟩:=Vy Tryz.underlying5 (x:=y1) f1
 simp at e0 e1
 obtain⟨a,rfl,ha⟩:=Kg w0
 obtain⟨b,rfl,hb⟩:=Kg w1
 subst e0 e1
 exact⟨a,b,rfl,ha,hb⟩
theorem Qh{fuel:Nat}{cs:List Value}{x:DataW H×List MemPlace}(h:DataW.trod enc Pg w 0 (λ_=>true) true fuel 23 cs=some x): ∃(v:Value)(pr:List (Nat×Nat)),cs=[v]/\RV (sg (Gw w)) w (.im pr.length (Km pr)) v/\(∀x∈pr,x.1<256/\x.2<256)/\pr.length<=9223372036854775807:=by
 obtain⟨v,f,n,rfl,h1,h2,h3⟩:=pY (s:=2) o_ Tryz.underlying23 k_ (λl=>∃q:Nat×Nat,l=[w8 q.1,w8 q.2]/\q.1<256/\q.2<256) (λfuel cs x hx=>by
  obtain⟨a,b,rfl,ha,hb⟩:=Qg hx
  exact⟨[w8 a,w8 b],rfl,⟨_,_,rfl,rfl,_,_,rfl,rfl,rfl⟩,(a,b),rfl,ha,hb⟩) h
 have: ∀i:Nat,∃q:Nat×Nat,i<n->f i=[w8 q.1,w8 q.2]/\q.1<256/\q.2<256:=λi=>by
  by_cases hi:i<n
  .simp_all
  .exact⟨(0,0),λh=>absurd h hi⟩
 obtain⟨g,hg⟩:=eM this
 refine⟨v,(List.range n).map g,rfl,?_,λx hx=>?_,by simpa using h3⟩
 all_goals grind[Rz,pH]
end
theorem eo{f:Nat}{ars:List V}{b:Bool}(h:Ag Pg g0 f ars (.bool b))(hf:(Gt Pg f).isSome=true){w:World}{vals:Array Value}(ha:RL (sg (Gw w)) w ars vals.toList):Calls Pg f vals w λe w'=>e= .returned (.bool b)/\Below w.heap.size w w':=by
 obtain⟨fi,hfi⟩:=eC.1 hf
 obtain⟨next,e1,e2,e3⟩:=h.1 (sg (Gw w)) w (.func (.func f) #[] #[]) vals ⟨#[],rfl,rfl⟩ ha (DP (λb hb=>hb.elim id False.elim)) PG (λ_ _ h=>h)
 have hn:next= .enter f vals:=by
  have:=(vE_ok.code f fi hfi)
  obtain⟨fn,f1,f2,f3,f4,f5⟩:=this
  have:=f5 vals w
  simp[Deferred.ofValue,invoke,this]at e1
  exact e1.symm
 subst hn
 refine(callsIn_wide.1 e2).mono ?_
 rintro e w' ⟨u,s',rfl,g1,g2,g3,_⟩
 obtain rfl:u= .bool b:=g1
 exact⟨rfl,g3.mod.os,g3.mod.tape,g3.mod.output,g3.mod.size,λk hk=>g3.mod.block k hk (λ⟨_,hm,_⟩=>by cases hm)⟩
def To(k:Nat)(c:Code)(sl:List (Nat×V))(H:T O)(nx:Nat)(e:Ex)(sl':List (Nat×V))(H':T O)(nx':Nat):Prop:=∀nx0 lg,Au Pg none nx0 c (Be g0 k sl H nx lg) (λe' st=>e'=e/\∃lg',st=Be g0 k sl' H' nx' lg')
theorem To.of_vc{k n:Nat}{c:Code}{hs:Hs}{sl sl':List (Nat×V)}{H H':T O}{nx nx':Nat}{e:Ex}(h: ∀nx0 lg(G:Ex->List (Nat×V)->T O->Nat->List Nat->Prop),(∀lg',G e sl' H' nx' lg')->vc Pg vE E0 none nx0 n c hs (Be g0 k sl H nx lg) (AK k G)):To k c sl H nx e sl' H' nx':=λnx0 lg=>by
 refine Au.fewer_post ?_
 refine Au.of_vc vE_ok Bx Gy rfl (h nx0 lg (λe1 sl1 H1 nx1 lg1=>e1=e/\sl1=sl'/\H1=H'/\nx1=nx') (λ_=>⟨rfl,rfl,rfl,rfl⟩)) λe1 hs' st' hg hk=>?_
 unfold AK at hk
 split at hk
 .rename_i sl1 _
  obtain⟨hb,⟨h1,h2,k1,k2⟩,hq⟩:=Fc hk
  subst h1 h2
  have hn:=aF hb
  refine⟨_,hq,rfl,st'.lg,?_⟩
  rw[hg,hn,k1,k2]
  rfl
 .exact hk.elim
theorem To.loop{c b:Code}(hc:c= .loop b){k:Nat}{α:Type}(I:α->T O->Nat->Prop)(S:α->List (Nat×V))(m:α->Nat)(J:Ex->List (Nat×V)->T O->Nat->Prop)
  (h: ∀x H nx,I x H nx->(∃y H' nx',I y H' nx'/\m y<m x/\To k b (S x) H nx .normal (S y) H' nx')\/(∃e sl H' nx',e≠ .normal/\J e sl H' nx'/\To k b (S x) H nx e sl H' nx'))
  (x:α)(H:T O)(nx:Nat)(hx:I x H nx): ∃e sl H' nx',J e sl H' nx'/\To k c (S x) H nx e sl H' nx':=by
 subst hc
 have chain: ∀(n:Nat)(x:α)(H:T O)(nx:Nat),m x=n->I x H nx->∃(len:Nat)(s:Nat->α×T O×Nat)(e:Ex)(sl:List (Nat×V))(H':T O)(nx':Nat),s 0=(x,H,nx)/\(∀i,i<len->To k b (S (s i).1) (s i).2.1 (s i).2.2 .normal (S (s (i+1)).1) (s (i+1)).2.1 (s (i+1)).2.2)/\e≠ .normal/\J e sl H' nx'/\To k b (S (s len).1) (s len).2.1 (s len).2.2 e sl H' nx':=by
  intro n
  induction n using Nat.strongRecOn with
  | ind n ih =>
   intro x H nx hn hI
   rcases h x H nx hI with⟨y,H1,nx1,h1,h2,h3⟩|⟨e,sl,H1,nx1,h1,h2,h3⟩
   .obtain⟨len,s,e,sl,H2,nx2,k0,k1,k2,k3,k4⟩:=ih (m y) o_ y H1 nx1 rfl h1
    refine⟨len+1,λi=>match i with|0=>(x,H,nx)|i+1=>s i,e,sl,H2,nx2,rfl,λi hi=>?_,k2,k3,k4⟩
    cases i with
    |zero=>dsimp only;rw[k0];exact h3
    |succ i=>exact k1 i o_
   .exact⟨0,λ_=>(x,H,nx),e,sl,H1,nx1,rfl,λi hi=>absurd hi (aJ _),h1,h2,h3⟩
 obtain⟨len,s,e,sl,H',nx',k0,k1,k2,k3,k4⟩:=chain _ x H nx rfl hx
 refine⟨e,sl,H',nx',k3,λnx0 lg=>?_⟩
 have hl:=Au.loop (P:=Pg) (rd:=none) (nx0:=nx0) (b:=b) (α:={i:Nat//i<=len}×List Nat) (R:=λe' st=>e'=e/\∃lg',st=Be g0 k sl H' nx' lg') (λi=>Be g0 k (S (s i.1.1).1) (s i.1.1).2.1 (s i.1.1).2.2 i.2) (λi=>len-i.1.1) (λ⟨⟨i,hi⟩,lg⟩=>by
  by_cases hlt:i<len
  .refine(k1 i hlt nx0 lg).mono λe1 st⟨h1,lg',h2⟩=>.inl ⟨h1,(⟨i+1,hlt⟩,lg'),by dsimp only;omega,h2⟩
  .obtain rfl:i=len:=o_
   exact(k4 nx0 lg).mono λe1 st h1=>.inr ⟨by rw[h1.1];exact k2,h1⟩) (⟨0,aG _⟩,lg)
 dsimp only at hl
 rw[k0]at hl
 exact hl
section
variable {k:Nat} {a b c:Code} {sl sl1 sl2:List (Nat×V)} {H H1 H2:T O} {nx nx1 nx2:Nat} {e:Ex}
theorem To.seq(hc:c= .seq a b)(h1:To k a sl H nx .normal sl1 H1 nx1)(h2:To k b sl1 H1 nx1 e sl2 H2 nx2):To k c sl H nx e sl2 H2 nx2:=λnx0 lg=>by
 subst hc
 refine Au.seq (h1 nx0 lg) (λst hst=>?_) (λe1 st hne hst=>absurd hst.1 hne)
 obtain⟨_,lg',h⟩:=hst
 rw[h];exact h2 nx0 lg'
theorem To.seqX(hc:c= .seq a b)(hne:e≠ .normal)(h1:To k a sl H nx e sl1 H1 nx1):To k c sl H nx e sl1 H1 nx1:=λnx0 lg=>by
 subst hc
 exact Au.seq (h1 nx0 lg) (λst hst=>absurd hst.1.symm hne) (λe1 st _ hst=>hst)
theorem To.block{id:Nat}(hc:c= .block id b)(h:To k b sl H nx (.exit id) sl1 H1 nx1):To k c sl H nx .normal sl1 H1 nx1:=λnx0 lg=>by
 subst hc
 exact Au.block (h nx0 lg) (λst hst=>⟨rfl,hst.2⟩) (λe1 st hne hst=>absurd hst.1 hne)
theorem To.blockN{id:Nat}(hc:c= .block id b)(hne:e≠ .exit id)(h:To k b sl H nx e sl1 H1 nx1):To k c sl H nx e sl1 H1 nx1:=λnx0 lg=>by
 subst hc
 exact Au.block (h nx0 lg) (λst hst=>absurd hst.1.symm hne) (λe1 st _ hst=>hst)
theorem To.fewer(h:To k c sl1 H nx e sl2 H2 nx2)(hs:C4 ⟨Hl (B0 k) sl,g0,k⟩ sl1):To k c sl H nx e sl2 H2 nx2:=λnx0 lg=>by
 refine Au.fewer (sl:=sl1) ?_ (h nx0 lg)
 exact hs
end
abbrev ZS:List Prop->Prop->Prop
 |[],q=>q
 |x::l,q=>x/\ZS l q
abbrev ZT:List Prop->Prop
 |[]=>True
 |[x]=>x
 |x::l=>x/\ZT l
def UY:List (Nat×V)->Prop
 |[]=>True
 |(_,x)::l=>x=x/\UY l
theorem Qz: ∀l,UY l
 |[]=>trivial
 |(_,_)::l=>⟨rfl,Qz l⟩
theorem Wb{q:Prop}(hq:q): ∀{p:List Prop},ZT p->ZS p q
 |[],_=>hq
 |[_],h=>⟨h,hq⟩
 | _:: _:: _,h=>⟨h.1,Wb hq h.2⟩
theorem To.vx{k n:Nat}{c:Code}{hs:Hs}{sl sl':List (Nat×V)}{H H':T O}{nx nx':Nat}{e:Ex}{p:List Prop}(h:ZT p)(d: ∀nx0 lg(G:Ex->List (Nat×V)->T O->Nat->Prop),ZS p (G e sl' H' nx'/\UY sl')=vc Pg vE E0 none nx0 n c hs (Be g0 k sl H nx lg) (AK k λe s H nx _=>G e s H nx):=by intros;kernel_rfl):To k c sl H nx e sl' H' nx':=by
 intro nx0 lg
 refine Au.fewer_post ?_
 refine Au.of_vc vE_ok Bx Gy rfl (Eq.mp (d nx0 lg λe1 sl1 H1 nx1=>e1=e/\sl1=sl'/\H1=H'/\nx1=nx') (Wb ⟨⟨rfl,rfl,rfl,rfl⟩,Qz _⟩ h)) λe1 hs' st' hg hk=>?_
 unfold AK at hk
 split at hk
 .rename_i sl1 _
  obtain⟨hb,⟨h1,h2,k1,k2⟩,hq⟩:=Fc hk
  subst h1 h2
  have hn:=aF hb
  refine⟨_,hq,rfl,st'.lg,?_⟩
  rw[hg,hn,k1,k2]
  rfl
 .exact hk.elim
theorem Bu(hs:Hs)(p:List Prop){k:Nat}{c:Code}{sl sl':List (Nat×V)}{H H':T O}{nx nx':Nat}{e:Ex}(h:ZT p)(d:∀nx0 lg(G:Ex->List (Nat×V)->T O->Nat->Prop),ZS p (G e sl' H' nx'/\UY sl')=vc Pg vE E0 none nx0 100 c hs (Be g0 k sl H nx lg) (AK k λe s H nx _=>G e s H nx):=by intros;kernel_rfl):To k c sl H nx e sl' H' nx':=To.vx h d
theorem tq{P:Prop}(h:P:=by
 first|exact trivial|with_reducible rfl|with_reducible assumption|omega|(with_reducible refine decide_eq_true ?_<;>omega)|(with_reducible refine decide_eq_false ?_<;>omega)|(with_reducible refine MY ?_ ?_ ?_<;>omega)|(with_reducible refine YW ?_<;>omega)|(with_reducible refine aa ?_<;>omega)):P:=h
mutual
noncomputable def K3(H:T O):V->V->Bool
 | .int k n,y=>match y with
  | .int k' n'=>decide (k=k')&&decide (n=n')
  | _=>false
 | .bool a,y=>match y with
  | .bool b=>a==b
  | _=>false
 | .nils,y=>match y with
  | .nils=>true
  | _=>false
 | .agg l,y=>match y with
  | .agg l'=>Pn H l l'
  | _=>false
 | .fn f l,y=>match y with
  | .fn f' l'=>Nat.beq f f'&&Pn H l l'
  | _=>false
 | .im n l,y=>match y with
  | .nils=>Nat.beq n 0
  | .im k m=>Nat.beq n k&&Ip l m
  | .sl h off m _=>Nat.beq n m&&(match gt H h with
   |some (.row _ _ c)=>JR H l (c.drop off)
   | _=>false)
  | _=>false
 | .imp l,y=>match y with
  | .ptr h off=>(match gt H h with
   |some (.row _ _ c)=>JR H l (c.drop off)
   | _=>false)
  | _=>false
 | _,_=>false
noncomputable def Pn(H:T O):List V->List V->Bool
 |[],ys=>match ys with
  |[]=>true
  | _=>false
 |x::xs,ys=>match ys with
  |y::ys'=>K3 H x y&&Pn H xs ys'
  |[]=>false
noncomputable def JR(H:T O):List V->List V->Bool
 |[],_=>true
 |x::xs,ys=>match ys with
  |y::ys'=>K3 H x y&&JR H xs ys'
  |[]=>false
end
mutual
theorem kV{H:T O}{ρ:Nat->Option Nat}: ∀(x y:V),K3 H x y=true->Bo H.get (λ_=>True) ρ x y
 | .int k n,y,h=>by
  cases y<;>simp[K3]at h
  obtain⟨rfl,rfl⟩:=h
  rfl
 | .bool a,y,h=>by
  cases y<;>simp[K3]at h
  subst h;rfl
 | .nils,y,h=>by
  cases y<;>first|rfl|simp[K3]at h
 | .agg l,y,h=>by
  cases y with
  |agg l'=>exact⟨l',rfl,LJ l l' (by simpa [K3]using h)⟩
  | _=>simp[K3]at h
 | .fn f l,y,h=>by
  cases y with
  |fn f' l'=>
   unfold K3 at h
   rw[aD]at h
   rw[aF h.1]
   exact⟨l',rfl,LJ l l' h.2⟩
  | _=>simp[K3]at h
 | .im n l,y,h=>by
  cases y with
  |nils=>exact .inr (.inl ⟨rfl,aF (by simpa [K3]using h)⟩)
  |im k m=>
   unfold K3 at h
   simp only[aD]at h
   have h1:=aF h.1
   subst h1
   exact .inl (by rw[Ef _ _ h.2])
  | sl g off m room =>
   unfold K3 at h
   simp only[aD]at h
   obtain⟨h1,h2⟩:=h
   have h1:=aF h1
   subst h1
   split at h2
   .rename_i t sp c hg
    rw[Cm]at hg
    exact .inr (.inr ⟨g,off,room,t,sp,c,rfl,trivial,hg,kU l _ h2⟩)
   .cases h2
  | _=>simp[K3]at h
 | .imp l,y,h=>by
  cases y with
  | ptr g off =>
   unfold K3 at h
   dsimp only at h
   split at h
   .rename_i t sp c hg
    rw[Cm]at hg
    exact .inr ⟨g,off,t,sp,c,rfl,trivial,hg,kU l _ h⟩
   .cases h
  | _=>simp[K3]at h
 | .str _,_,h| .nilp,_,h| .nilf,_,h| .nili,_,h| .nilm,_,h| .tup _,_,h| .mfn _ _,_,h| .ifc _ _,_,h| .ptr _ _,_,h| .sl _ _ _ _,_,h| .mp _,_,h| .yld _,_,h=>by simp[K3]at h
theorem LJ{H:T O}{ρ:Nat->Option Nat}: ∀(xs ys:List V),Pn H xs ys=true->A8 H.get (λ_=>True) ρ xs ys
 |[],ys,h=>by
  cases ys with
  |nil=>rfl
  |cons=>simp[Pn]at h
 | x :: xs, ys, h => by
  cases ys with
  |nil=>simp[Pn]at h
  |cons y ys=>
   unfold Pn at h
   simp only[aD]at h
   exact⟨y,ys,rfl,kV x y h.1,LJ xs ys h.2⟩
theorem kU{H:T O}: ∀(xs ys:List V),JR H xs ys=true->Bq H.get (λ_=>True) xs ys
 |[],ys,h=>trivial
 | x :: xs, ys, h => by
  cases ys with
  |nil=>simp[JR]at h
  |cons y ys=>
   unfold JR at h
   simp only[aD]at h
   exact⟨y,ys,rfl,kV x y h.1,kU xs ys h.2⟩
end
noncomputable def Vw(f:Nat)(l:List V)(v:V)(h:Et):Et:=λf' ars H gl=>match gl with
 | .e=>bif Nat.beq f' f&&Pn H l ars then some v else h f' ars H gl
 | _=>h f' ars H gl
theorem AX{f:Nat}{l:List V}{v:V}{h:Et}(hh:Lg Pg h)(hv:T4 v=true)(hc:(Gt Pg f).isSome=true)(hok:Ag Pg .e f l v):Lg Pg (Vw f l v h):=by
 intro f' ars H gl u hu s w vals ha hH hgl nx hnx
 unfold Vw at hu
 split at hu
 .cases hb:(Nat.beq f' f&&Pn H l ars)with
  |false=>rw[hb]at hu;exact hh f' ars H _ u hu s w vals ha hH hgl nx hnx
  | true =>
   rw[hb,cond_true]at hu
   cases hu
   simp only[aD]at hb
   have e1:=aF hb.1
   subst e1
   have hview:=LJ (ρ:=λ_=>none) _ _ hb.2
   obtain⟨fi,hfi⟩:=eC.1 hc
   obtain⟨fn,f1,f2,f3,f4,f5⟩:=nS Dy hfi
   have hF: ∀b,(s.fz b\/∃g t sp c,H.get g=some (.row t sp c)/\b=s.μ g)->b<w.heap.size:=by
    rintro b (hb|⟨g,t,sp,c,hg,rfl⟩)
    .exact hH.old b (.inl hb)
    .exact(hH.obj _ _ hg rfl).2.1
   have hrl:=A8.rl hH (s':=sg (λb=>s.fz b\/∃g t sp c,H.get g=some (.row t sp c)/\b=s.μ g)) ⟨λ_ _ e=>(by cases e),λg t sp c _ hg=>.inr ⟨g,t,sp,c,hg,rfl⟩,λb hb=>.inl hb⟩ _ _ _ hview ha
   obtain⟨next,q1,q2,q3⟩:=hok.1 (sg _) w (.func (.func f') #[] #[]) vals ⟨#[],rfl,rfl⟩ hrl (DP (λb hb=>hb.elim (hF b) (λhb=>hb.elim))) (λg l hg=>by simp at hg) (λ_ _ h=>h)
   have hn:next= .enter f' vals:=by
    have h5:=f5 vals w
    simp[Deferred.ofValue,invoke,h5]at q1
    exact q1.symm
   subst hn
   refine⟨f5 vals w,(callsIn_wide.1 q2).mono ?_⟩
   rintro e w' ⟨x,s',rfl,g1,g2,g3,g4,g5⟩
   exact Ty hH ⟨x,rfl,⟨g3.mod.os,g3.mod.tape,g3.mod.output,g3.mod.size,λk hk=>g3.mod.block k hk (by rintro⟨h,hm,_⟩;cases hm)⟩,λs'' w''=>I9 _ _ hv g1⟩
 .exact hh f' ars H gl u hu s w vals ha hH hgl nx hnx
noncomputable def RQ(f:Nat)(l:List V)(v:V)(h:Et):Et:=λf' ars H gl=>match gl with
 | .e=>bif Nat.beq f' f&&Pn .e l ars then some v else h f' ars H gl
 | _=>h f' ars H gl
theorem oF{f:Nat}{l:List V}{v:V}{h:Et}(hh:Lg Pg h)(hv:Jo v=true)(hc:(Gt Pg f).isSome=true)(hok:Ag Pg .e f l v):Lg Pg (RQ f l v h):=by
 intro f' ars H gl u hu s w vals ha hH hgl nx hnx
 unfold RQ at hu
 split at hu
 .cases hb:(Nat.beq f' f&&Pn .e l ars)with
  |false=>rw[hb]at hu;exact hh f' ars H _ u hu s w vals ha hH hgl nx hnx
  | true =>
   rw[hb,cond_true]at hu
   cases hu
   simp only[aD]at hb
   have e1:=aF hb.1
   subst e1
   have hcall:=lM (H:=H) (nx:=nx) hok (LJ (H:=.e) (ρ:=λ_=>none) _ _ hb.2) (AR.1 _ hv)
   obtain⟨fi,hfi⟩:=eC.1 hc
   obtain⟨fn,f1,f2,f3,f4,f5⟩:=nS Dy hfi
   obtain⟨next,q1,q2,q3⟩:=hcall.1 s w (.func (.func f') #[] #[]) vals ⟨#[],rfl,rfl⟩ ha hH (λg l hg=>by simp at hg) hnx
   have hn:next= .enter f' vals:=by
    have h5:=f5 vals w
    simp[Deferred.ofValue,invoke,h5]at q1
    exact q1.symm
   subst hn
   exact⟨f5 vals w,callsIn_wide.1 q2⟩
 .exact hh f' ars H gl u hu s w vals ha hH hgl nx hnx
def D5(lo hi:Int)(L:List Int):Bool:=L.all λx=>decide (lo<=x)&&decide (x<=hi)
theorem J3{lo hi:Int}{L:List Int}:D5 lo hi L=true↔∀k,k<L.length->lo<=L.getD k 0/\L.getD k 0<=hi:=by
 grind[D5,List.getElem_of_mem]
abbrev UT(lo hi:Int)(L:List Int)(k:Nat):SL:={sl:=[(0,i6 lo),(1,i6 hi),(9,sl L),(10,i6 L.length),(11,i6 k)]}
theorem j5(lo hi:Int)(L:List Int)(hl:L.length≤1000000):
  Au Pg none 0 (Iq 76 [1,0,1,0]) (Al g0 24 (UT lo hi L 0)) (B3 g0 24 [(D5 lo hi L=true,.exit 0,{sl:=[]}),(D5 lo hi L=false,.ret,{sl:=[(6,.bool false)]})]):=by
 have hL:=Ap L
 refine C9 (Iq 76 [1,0,1,0,0]) (fun k=>k≤L.length∧∀i,i<k→lo≤L.getD i 0∧L.getD i 0≤hi) (UT lo hi L) (fun k=>L.length-k) (fun k hk=>?_) 0 ⟨aG _,fun i h=>absurd h (aJ _)⟩
 obtain⟨hk,hin⟩:=hk
 by_cases hlt:k<L.length
 ·have hld := Dm hlt
  by_cases h1:lo≤L.getD k 0
  ·by_cases h2 : L.getD k 0 ≤ hi
   ·refine .inl ⟨k + 1, [], [As 12, pl 13, ld 14 (i6 (L.getD k 0)), no 17, no 21, nu 23 ((k + 1 : Nat) : Int)], 1000, ⟨hlt, fun i hi => ?_⟩, by omega, ?_⟩
    ·grind
    generalize L.getD k 0=x at*
    clear hin
    exact C8 [_,_,_,decide (x<lo)=false,decide (x>hi)=false,wr .i64 ((↑k:Int)+(1:Int))=(↑(k+1):Int)] ⟨Bf hlt,Ar hlt,hld,a_⟩
   ·have hf : D5 lo hi L = false := by
     cases hb:D5 lo hi L with
     |false=>rfl
     |true=>grind[J3]
    refine .inr ⟨.ret,[],{sl:=[(6,.bool false)]},[As 12,pl 13,ld 14 (i6 (L.getD k 0)),no 17,As 21],1000,.inr (.inl ⟨hf,rfl,rfl⟩),?_⟩
    generalize L.getD k 0=x at*
    clear hin
    exact Cj [_,_,_,decide (x<lo)=false,decide (x>hi)=true] ⟨Bf hlt,Ar hlt,hld,a_⟩
  ·have hf : D5 lo hi L = false := by
    cases hb:D5 lo hi L with
    |false=>rfl
    |true=>grind[J3]
   refine .inr ⟨.ret,[],{sl:=[(6,.bool false)]},[As 12,pl 13,ld 14 (i6 (L.getD k 0)),As 17],1000,.inr (.inl ⟨hf,rfl,rfl⟩),?_⟩
   generalize L.getD k 0=x at*
   clear hin
   exact Cj [_,_,_,decide (x<lo)=true] ⟨Bf hlt,Ar hlt,hld,aq⟩
 ·have hk2 : k = L.length := by omega
  subst hk2
  refine .inr ⟨.exit 0,[],{sl:=[]},[no 12],1000,.inl ⟨J3.2 hin,rfl,rfl⟩,?_⟩
  clear hin
  exact Cj [_] (Cq hlt)
theorem EG(lo hi:Int)(L:List Int)(hl:L.length≤1000000):Ag Pg g0 76 [i6 lo,i6 hi,sl L] (.bool (D5 lo hi L)):=by
 have hL:=Ap L
 have h:=j5 lo hi L hl
 generalize hb:D5 lo hi L=b at*
 cases b with
 |true=>
  refine Ch {sl:=[(6,.bool true)]} [(0,.loop [] (UT lo hi L 0) [(true=true,.exit 0,{sl:=[]}),(true=false,.ret,{sl:=[(6,.bool false)]})])] ?_
  exact m_ (p:=An [Sm (V.bool true),An [An [lo=lo,hi=hi,An [Sm L.length,Sm (Aa L)],Sm (↑L.length:Int),(↑(0:Nat):Int)=(0:Int),Tt],Tt],_,true=true→An [An [Sm true,Tt],Tt],true=false→An [An [true=false,Tt],Tt],Tt]) ⟨aq,a_,h,a_⟩
 |false=>
  refine Ch {sl:=[(6,.bool false)]} [(0,.loop [] (UT lo hi L 0) [(false=true,.exit 0,{sl:=[]}),(false=false,.ret,{sl:=[(6,.bool false)]})])] ?_
  exact m_ (p:=An [Sm (V.bool false),An [An [lo=lo,hi=hi,An [Sm L.length,Sm (Aa L)],Sm (↑L.length:Int),(↑(0:Nat):Int)=(0:Int),Tt],Tt],_,false=true→An [An [false=true,Tt],Tt],false=false→An [An [Sm false,Tt],Tt],Tt]) ⟨aq,a_,h,a_⟩
def De(n:Int)(L:List Int):Bool:=(List.range L.length).all λk=>decide (0<=L.getD k 0)&&decide (L.getD k 0<n)&&(decide (k=0)||decide (L.getD (k-1) 0<L.getD k 0))
theorem JO{n:Int}{L:List Int}:De n L=true↔∀k,k<L.length->0<=L.getD k 0/\L.getD k 0<n/\(k=0\/L.getD (k-1) 0<L.getD k 0):=by
 grind[De]
abbrev VM(L:List Int)(n:Int)(k:Nat):SL:={sl:=[(0,sl L),(1,i6 n),(7,sl L),(8,i6 L.length),(9,i6 k)]}
theorem k8(L:List Int)(n:Int)(hl:L.length≤1000000):
  Au Pg none 0 (Iq 117 [1,0,1,0]) (Al g0 35 (VM L n 0)) (B3 g0 35 [(De n L=true,.exit 0,{sl:=[]}),(De n L=false,.ret,{sl:=[(4,.bool false)]})]):=by
 have hL:=Ap L
 refine C9 (Iq 117 [1,0,1,0,0]) (fun k=>k≤L.length∧∀i,i<k→0≤L.getD i 0∧L.getD i 0<n∧(i=0∨L.getD (i-1) 0<L.getD i 0)) (VM L n) (fun k=>L.length-k) (fun k hk=>?_) 0 ⟨aG _,fun i h=>absurd h (aJ _)⟩
 obtain⟨hk,hin⟩:=hk
 by_cases hlt:k<L.length
 ·have hld := Dm hlt
  have bad:(¬(0≤L.getD k 0∧L.getD k 0<n∧(k=0∨L.getD (k-1) 0<L.getD k 0)))→De n L=false:=fun hno=>by
   grind[JO]
  have good:(0≤L.getD k 0∧L.getD k 0<n∧(k=0∨L.getD (k-1) 0<L.getD k 0))→∀i,i<k+1→0≤L.getD i 0∧L.getD i 0<n∧(i=0∨L.getD (i-1) 0<L.getD i 0):=fun h i hi=>by
   grind
  by_cases h1:0≤L.getD k 0
  ·by_cases h2 : L.getD k 0 < n
   ·by_cases h0 : k = 0
    ·subst h0
     have hg:=good ⟨h1,h2,.inl rfl⟩
     refine .inl ⟨1,[],[As 10,pl 12,ld 13 (i6 (L.getD 0 0)),no 15,no 19,no 23,nu 34 ((1:Nat):Int)],1000,⟨hlt,hg⟩,by omega,?_⟩
     clear hin bad good hg
     generalize L.getD 0 0=x at*
     refine Eq.mp (by kernel_rfl:(let z3:=An [Sm L.length,Sm (Aa L)];let z0:=(↑(0:Nat):Int);let z1:=(↑L.length:Int);let z2:=(↑(1:Nat):Int);An [decide (z0<z1)=true,An [(0:Int)≤z0,z0<z1],Ae (List.drop (0*1) (Aa L))=some (i6 x),decide (x<(0:Int))=false,decide (x≥n)=false,decide (z0>(0:Int))=false,wr .i64 (z0+(1:Int))=z2,An [z3,n=n,z3,z1=z1,z2=z2,Tt],Tt])=_) ?_
     (repeat'(first|(with_reducible apply And.intro)|(refine fun(_:True)=>?_)))<;>first|exact aq|skip
     all_goals skip
    ·have hld2 := Dm (l := L) (k := k - 1) (by omega)
     obtain⟨q,hq⟩: ∃q,q=k-1:=⟨_,rfl⟩
     have ek:k=q+1:=by omega
     by_cases h3:L.getD (k-1) 0<L.getD k 0
     ·have hg := good ⟨h1, h2, .inr h3⟩
      refine .inl ⟨k+1,[],[As 10,pl 12,ld 13 (i6 (L.getD k 0)),no 15,no 19,As 23,nu 28 q,pl 29,ld 30 (i6 (L.getD (k-1) 0)),no 31,nu 34 ((k+1:Nat):Int)],1000,⟨hlt,hg⟩,by omega,?_⟩
      clear hin bad good hg
      rw[←hq]at hld2 h3⊢
      generalize L.getD k 0=x,L.getD q 0=y at*
      refine Eq.mp (by kernel_rfl:(let z5:=An [Sm L.length,Sm (Aa L)];let z0:=(↑L.length:Int);let z1:=(↑k:Int);let z2:=(↑(k+1):Int);let z3:=(0:Int);let z4:=(↑q:Int);An [decide (z1<z0)=true,An [z3≤z1,z1<z0],Ae (List.drop (k*1) (Aa L))=some (i6 x),decide (x<z3)=false,decide (x≥n)=false,decide (z1>z3)=true,wr .i64 (z1-(1:Int))=z4,An [z3≤z4,z4<z0],Ae (List.drop (q*1) (Aa L))=some (i6 y),decide (x≤y)=false,wr .i64 (z1+(1:Int))=z2,An [z5,n=n,z5,z0=z0,z2=z2,Tt],Tt])=_) ?_
      (repeat'(first|(with_reducible apply And.intro)|(refine fun(_:True)=>?_)))<;>first|exact aq|skip
      all_goals skip
     ·have hf := bad (fun ⟨_, _, h⟩ => h.elim h0 h3)
      refine .inr ⟨.ret,[],{sl:=[(4,.bool false)]},[As 10,pl 12,ld 13 (i6 (L.getD k 0)),no 15,no 19,As 23,nu 28 q,pl 29,ld 30 (i6 (L.getD (k-1) 0)),As 31],1000,.inr (.inl ⟨hf,rfl,rfl⟩),?_⟩
      clear hin bad good
      rw[←hq]at hld2 h3⊢
      generalize L.getD k 0=x,L.getD q 0=y at*
      refine Eq.mp (by kernel_rfl:(let z0:=(↑k:Int);let z1:=(↑L.length:Int);let z2:=(0:Int);let z3:=(↑q:Int);An [decide (z0<z1)=true,An [z2≤z0,z0<z1],Ae (List.drop (k*1) (Aa L))=some (i6 x),decide (x<z2)=false,decide (x≥n)=false,decide (z0>z2)=true,wr .i64 (z0-(1:Int))=z3,An [z2≤z3,z3<z1],Ae (List.drop (q*1) (Aa L))=some (i6 y),decide (x≤y)=true,An [Sm false,Tt],Tt])=_) ?_
      (repeat'(first|(with_reducible apply And.intro)|(refine fun(_:True)=>?_)))<;>first|exact aq|skip
      all_goals skip
   ·have hf := bad (fun ⟨_, h, _⟩ => h2 h)
    refine .inr ⟨.ret,[],{sl:=[(4,.bool false)]},[As 10,pl 12,ld 13 (i6 (L.getD k 0)),no 15,As 19],1000,.inr (.inl ⟨hf,rfl,rfl⟩),?_⟩
    clear hin bad good
    generalize L.getD k 0=x at*
    refine Eq.mp (by kernel_rfl:(let z0:=(↑k:Int);An [decide (z0<(↑L.length:Int))=true,An [(0:Int)≤z0,z0<(↑L.length:Int)],Ae (List.drop (k*1) (Aa L))=some (i6 x),decide (x<(0:Int))=false,decide (x≥n)=true,An [Sm false,Tt],Tt])=_) ?_
    (repeat'(first|(with_reducible apply And.intro)|(refine fun(_:True)=>?_)))<;>first|exact aq|skip
    all_goals skip
  ·have hf := bad (fun ⟨h, _⟩ => h1 h)
   refine .inr ⟨.ret,[],{sl:=[(4,.bool false)]},[As 10,pl 12,ld 13 (i6 (L.getD k 0)),As 15],1000,.inr (.inl ⟨hf,rfl,rfl⟩),?_⟩
   clear hin bad good
   generalize L.getD k 0=x at*
   refine Eq.mp (by kernel_rfl:(let z0:=(↑k:Int);An [decide (z0<(↑L.length:Int))=true,An [(0:Int)≤z0,z0<(↑L.length:Int)],Ae (List.drop (k*1) (Aa L))=some (i6 x),decide (x<(0:Int))=true,An [Sm false,Tt],Tt])=_) ?_
   (repeat'(first|(with_reducible apply And.intro)|(refine fun(_:True)=>?_)))<;>first|exact aq|skip
   all_goals skip
 ·have hk2 : k = L.length := by omega
  subst hk2
  refine .inr ⟨.exit 0,[],{sl:=[]},[no 10],1000,.inl ⟨JO.2 hin,rfl,rfl⟩,?_⟩
  clear hin
  refine Eq.mp (by kernel_rfl:(An [decide ((↑L.length:Int)<(↑L.length:Int))=false,Tt,Tt])=_) ?_
  (repeat'(first|(with_reducible apply And.intro)|(refine fun(_:True)=>?_)))<;>first|exact aq|skip
  all_goals skip
theorem am(L:List Int)(n:Int)(hl:L.length≤1000000):Ag Pg g0 117 [sl L,i6 n] (.bool (De n L)):=by
 have hL:=Ap L
 have h:=k8 L n hl
 generalize hb:De n L=b at*
 cases b with
 |true=>
  refine Ch {sl:=[(4,.bool true)]} [(0,.loop [] (VM L n 0) [(true=true,.exit 0,{sl:=[]}),(true=false,.ret,{sl:=[(4,.bool false)]})])] ?_
  exact m_ (p:=let z0:=An [Sm L.length,Sm (Aa L)];An [Sm (V.bool true),An [An [z0,n=n,z0,Sm (↑L.length:Int),(↑(0:Nat):Int)=(0:Int),Tt],Tt],_,true=true→An [An [Sm true,Tt],Tt],true=false→An [An [true=false,Tt],Tt],Tt]) ⟨aq,a_,h,a_⟩
 |false=>
  refine Ch {sl:=[(4,.bool false)]} [(0,.loop [] (VM L n 0) [(false=true,.exit 0,{sl:=[]}),(false=false,.ret,{sl:=[(4,.bool false)]})])] ?_
  exact m_ (p:=let z0:=An [Sm L.length,Sm (Aa L)];An [Sm (V.bool false),An [An [z0,n=n,z0,Sm (↑L.length:Int),(↑(0:Nat):Int)=(0:Int),Tt],Tt],_,false=true→An [An [false=true,Tt],Tt],false=false→An [An [Sm false,Tt],Tt],Tt]) ⟨aq,a_,h,a_⟩
structure Mc where
 c:Int
 fr:List Int
 no:List Int
 ou:List Int
def Fq(x:Mc):List V:=[i6 x.c,sl x.fr,sl x.no,sl x.ou]
def Ak:List Mc->List V
 |[]=>[]
 |x::l=>Fq x++Ak l
def Ah(R:List (List Int)):List V:=R.map sl
abbrev Bd(g:Int)(R:List (List Int))(N:List Mc):V:=.agg [i6 g,.im R.length (Ah R),.im N.length (Ak N)]
theorem B7(R:List (List Int)):Ba (Ah R):=ME _ R (λ_=>trivial)
theorem Cl: ∀N,Ba (Ak N)
 |[]=>trivial
 |x::l=>⟨trivial,trivial,trivial,trivial,Cl l⟩
theorem Pk{R:List (List Int)}{k:Nat}(h:k<R.length):Ae ((Ah R).drop (k*1))=some (sl (R.getD k [])):=by
 grind[Ah,YQ]
theorem P2: ∀{N:List Mc}{k:Nat}{x:Mc},N[k]? =some x->(Ak N).drop (k*4)=Fq x++Ak (N.drop (k+1))
 |[],k,x,h=>by simp at h
 |y::l,0,x,h=>by cases h;rfl
 |y::l,k+1,x,h=>by
  show(Fq y++Ak l).drop ((k+1)*4)=_
  rw[fE,eP,fN,show(Fq y).drop (4+k*4)=[]from eQ (by show 4<=_;omega)]
  show([]:List V)++(Ak l).drop (4+k*4-4)=_
  rw[cR,eZ]
  exact P2 (N:=l) (by simpa using h)
def Cd:List Int->Int
 |[]=>0
 |x::l=>x+Cd l
theorem YG: ∀(a b:List Int),Cd (a++b)=Cd a+Cd b
 |[],b=>by grind[Cd]
 |x::a,b=>by show x+Cd (a++b)=x+Cd a+Cd b;rw[YG a b];omega
theorem UG{L:List Int}{k:Nat}(h:k<L.length):Cd (L.take (k+1))=Cd (L.take k)+L.getD k 0:=by
 rw[dF,YG,aB h,aA,aB h]
 show _+(L[k]+0)=_+L[k]
 omega
theorem mE{G:Int}: ∀{L:List Int},(∀x∈L,0<=x/\x<=G)->0<=Cd L/\Cd L<=L.length*G
 |[],_=>by simp[Cd]
 | x :: l, h => by
  have h1:=h x (aZ)
  have h2:=mE (L:=l) λy hy=>h y (aW _ hy)
  have e:((x::l).length:Int)*G=G+l.length*G:=by
   rw[bZ,Int.natCast_add,dS];omega
  grind[Cd]
def G4(g:Int)(L:List Int):Bool:=(decide (1<=L.length)&&decide (L.length<=4))&&D5 0 g L&&decide (Cd L=g)
def B4(R:List (List Int)):Nat->Nat
 |0=>1
 |k+1=>B4 R k*(R.getD k []).length
def D2(g:Int)(R:List (List Int)):Bool:=R.all (G4 g)&&decide (B4 R R.length<=1024)
abbrev Xv(L:List Int)(g:Int)(R:List V)(n:Nat)(N:List V)(k:Nat)(p:Int)(q:Nat)(sm:Int)(i:Nat):SL:={sl:=[(1,.ptr 0 0),(3,i6 p),(4,.bool true),(6,sl L),(7,i6 sm),(11,.im n R),(12,i6 n),(13,i6 k),(33,sl L),(34,i6 L.length),(35,i6 i)],os:=[.row 34 none [i6 g,.im n R,.im q N]]}
theorem Rl(L:List Int)(g:Int)(R:List V)(hR:Ba R)(n:Nat)(N:List V)(hN:Ba N)(k:Nat)(p:Int)(q:Nat)(h4:L.length≤4)(hg:1≤g∧g≤12)(hin: ∀i,i<L.length→0≤L.getD i 0∧L.getD i 0≤g):
  Au Pg none 0 (Iq 77 [1,0,1,1,0,1,0,0,1,1,0,0,1,1,1,1,0,1,0]) (Al g0 53 (Xv L g R n N k p q 0 0)) (B3 g0 53 [(True,.exit 2,Xv L g R n N k p q (Cd L) L.length)]):=by
 have hL:=Ap L
 have hall: ∀i,i≤L.length→0≤Cd (L.take i)∧Cd (L.take i)≤12*i:=by
  intro i
  induction i with
  |zero=>grind[Cd]
  |succ i ih=>
   grind[UG]
 have e0:Cd (L.take 0)=0:=rfl
 have key:=au vE_ok Bx Gy (c:=Iq 77 [1,0,1,1,0,1,0,0,1,1,0,0,1,1,1,1,0,1,0]) (b:=Iq 77 [1,0,1,1,0,1,0,0,1,1,0,0,1,1,1,1,0,1,0,0]) (by kernel_rfl) (gl:=g0) (rd:=none) (nx0:=0) (k:=53) (fun i=>i≤L.length) (fun i=>Xv L g R n N k p q (Cd (L.take i)) i) (fun i=>L.length-i) (R:=B3 g0 53 [(True,.exit 2,Xv L g R n N k p q (Cd L) L.length)]) (fun i hi=>?_) 0 (aG _)
 ·assumption
 ·by_cases hlt : i < L.length
  ·have hld := Dm hlt
   have h1:=hall i hi
   have h2:=hin i hlt
   have e:=UG hlt
   refine .inl ⟨i+1,[0],[As 36,pl 37,ld 38 (i6 (L.getD i 0)),nu 41 (Cd (L.take (i+1))),nu 42 ((i+1:Nat):Int)],1000,hlt,by omega,?_⟩
   generalize L.getD i 0=x,Cd (L.take (i+1))=s1,Cd (L.take i)=s0 at*
   clear hall hin
   exact C8 [_,_,_,wr .i64 (s0+x)=s1,wr .i64 ((↑i:Int)+(1:Int))=(↑(i+1):Int)] ⟨Bf hlt,Ar hlt,hld,a_⟩
  ·have hi2 : i = L.length := by omega
   subst hi2
   rw[List.take_length]
   refine .inr ⟨.exit 2,[0],Xv L g R n N k p q (Cd L) L.length,[no 36],1000,.inl ⟨trivial,rfl,rfl⟩,?_⟩
   generalize Cd L=s0 at*
   clear hall hin
   exact Cj [_] (Cq hlt)
abbrev OL(g:Int)(R:List V)(n:Nat)(q:Nat)(N:List V)(k:Nat)(p:Int):SL:={sl:=[(1,.ptr 0 0),(3,i6 p),(4,.bool true),(11,.im n R),(12,i6 n),(13,i6 k)],os:=[.row 34 none [i6 g,.im n R,.im q N]]}
theorem mI(R:List (List Int))(h: ∀k,k<R.length->1<=(R.getD k []).length/\(R.getD k []).length<=4): ∀k,k<=R.length->1<=B4 R k/\B4 R k<=4^k
 |0,_=>by simp[B4]
 |k+1,hk=>by
  obtain⟨h1,h2⟩:=mI R h k o_
  obtain⟨h3,h4⟩:=h k o_
  unfold B4
  refine⟨Nat.mul_pos h1 h3,?_⟩
  simp_all[bK,cX]
theorem XL{g:Int}{L:List Int}(h:G4 g L=true):1<=L.length/\L.length<=4:=by
 grind[G4]
theorem gp(g:Int)(hg:1≤g∧g≤12)(R:List (List Int))(hl:R.length≤8)(h6: ∀L∈R,L.length≤1000000)(q:Nat)(N:List V)(hN:Ba N):
  Au Pg none 0 (Iq 77 [1,0,1,1,0,1,0]) (Al g0 53 (OL g (Ah R) R.length q N 0 1)) (B3 g0 53 [(R.all (G4 g)=true,.exit 0,{sl:=[(3,i6 (B4 R R.length:Nat)),(4,.bool true)]}),(R.all (G4 g)=false,.exit 0,{sl:=[(4,.bool false)]})]):=by
 have hR:=B7 R
 refine C9 (Iq 77 [1,0,1,1,0,1,0,0]) (fun k=>k≤R.length∧∀i,i<k→G4 g (R.getD i [])=true) (fun k=>OL g (Ah R) R.length q N k (B4 R k:Nat)) (fun k=>R.length-k) (fun k hk=>?_) 0 ⟨aG _,fun i h=>absurd h (aJ _)⟩
 obtain⟨hk,hin⟩:=hk
 have hpk:B4 R k≤65536:=by
  have: ∀k',k'≤k→B4 R k'≤4^k':=by
   intro k'
   induction k' with
   |zero=>grind[B4]
   |succ k' ih=>
    intro hk'
    unfold B4
    rw[bK]
    exact cX (ih (by omega)) (XL (hin k' (by omega))).2
  have h1:=this k (aC _)
  have h2:4^k≤4^8:=aH (by decide) (by omega)
  omega
 by_cases hlt:k<R.length
 ·have hld := Pk hlt
  have hmem:R.getD k []∈R:=by rw[aA,aB hlt];exact cL hlt
  have h6k:=h6 _ hmem
  have bad:G4 g (R.getD k [])=false→R.all (G4 g)=false:=fun h=>by
   grind
  have e1:B4 R (k+1)=B4 R k*(R.getD k []).length:=rfl
  have hgood:G4 g (R.getD k [])=true→∀i,i<k+1→G4 g (R.getD i [])=true:=fun h i hi=>by
   grind
  generalize R.getD k []=L at*
  have hL:=Ap L
  have w1:=EG 1 4 [(L.length:Int)] (by simp)
  have w2:=EG 0 g L h6k
  have e2:D5 1 4 [(L.length:Int)]=(decide (1≤L.length)&&decide (L.length≤4)):=by
   show(decide ((1:Int)≤L.length)&&decide ((L.length:Int)≤4)&&true)=_
   rw[Bool.and_true]
   congr 1<;>exact decide_eq_decide.2 (by omega)
  rw[e2]at w1
  have eR:G4 g L=((decide (1≤L.length)&&decide (L.length≤4))&&D5 0 g L&&decide (Cd L=g)):=rfl
  generalize hp1e:B4 R (k+1)=p1,B4 R k=p0,Ah R=RR,R.length=n at*
  cases hc1:(decide (1≤L.length)&&decide (L.length≤4))with
  |false=>
   rw[hc1]at w1 eR
   have hf:=bad (by rw[eR];rfl)
   refine .inr ⟨.exit 0,[],{sl:=[(4,.bool false)]},[As 14,pl 15,ld 16 (sl L),fn 20 (.bool false)],1000,.inr (.inl ⟨hf,rfl,rfl⟩),?_⟩
   clear hin bad hgood hf
   exact Cj [_,_,_,An [Tt,Tt,An [Tt,Tt],Tt],Ag Tryz.prog g0 76 [i6 1,i6 4,V.im 1 [i6 ↑L.length]] (V.bool false)] ⟨Bf hlt,Ar hlt,hld,a_,w1⟩
  | true =>
   rw[hc1]at w1 eR
   simp only[aD,decide_eq_true_eq]at hc1
   cases hc2:D5 0 g L with
   |false=>
    rw[hc2]at w2 eR
    have hf:=bad (by rw[eR];rfl)
    refine .inr ⟨.exit 0,[],{sl:=[(4,.bool false)]},[As 14,pl 15,ld 16 (sl L),fn 20 (.bool true),fn 26 (.bool false)],1000,.inr (.inl ⟨hf,rfl,rfl⟩),?_⟩
    clear hin bad hgood hf
    exact Cj (let z0:=pt (Ai T.e 0 [O.row 34 none [i6 g,V.im n RR,V.im q N]]) 1 (O.row 3 none [i6 ↑L.length]);[_,_,_,An [Tt,Tt,An [Tt,Tt],Tt],Ag Tryz.prog g0 76 [i6 1,i6 4,V.im 1 [i6 ↑L.length]] (V.bool true),_,V.fn 76 []=V.fn 76 []→[i6 1,i6 4,V.sl 1 0 1 (some 0)]=[i6 0,i6 g,sl L]→z0=z0→1+1=2→CR.mk (V.bool true) z0 2 []=CR.mk (V.bool false) z0 2 []]) ⟨Bf hlt,Ar hlt,hld,a_,w1,w2,aq⟩
   | true =>
    rw[hc2]at w2 eR
    have hloop:=Rl L g RR hR n N hN k (p1:Nat) q hc1.2 hg (J3.1 hc2)
    have hp1:(p0:Int)*L.length=p1:=by rw[e1];exact(cJ _ _).symm
    have hp2:(p1:Int)≤9223372036854775807:=by
     have:p1≤65536*4:=by rw[e1];exact cX hpk hc1.2
     omega
    have hs:0≤Cd L∧Cd L≤48:=by
     have h1:=mE (G:=g) (L:=L) fun x hx=>by
      grind[List.getElem_of_mem,J3]
     have h2:(L.length:Int)*g≤4*12:=bC (by omega) hg.2 (by omega) (by decide)
     omega
    generalize hsm:Cd L=sm at*
    by_cases h5:sm=g
    ·have hg2 := hgood (by simp_all)
     refine .inl ⟨k+1,[0],[As 14,pl 15,ld 16 (sl L),fn 20 (.bool true),fn 26 (.bool true),nu 32 p1,(0,.loop [0] (Xv L g RR n N k (p1:Nat) q 0 0) [(True,.exit 2,Xv L g RR n N k (p1:Nat) q sm L.length)]),no 46,nu 47 ((k+1:Nat):Int)],1000,⟨hlt,hg2⟩,by omega,?_⟩
     clear hin bad hgood hg2 eR e1
     exact m_ (p:=let z9:=An [Sm L.length,Sm (Aa L)];let z1:=[i6 g,V.im n RR,V.im q N];let z2:=(↑p1:Int);let z3:=(↑k:Int);let z4:=(↑n:Int);let z5:=V.bool true;let z6:=(↑L.length:Int);let z7:=(↑(k+1):Int);let z0:=pt (Ai T.e 0 [O.row 34 none z1]) 1 (O.row 3 none [i6 ↑L.length]);An [_,_,_,An [Tt,Tt,An [Tt,Tt],Tt],Ag Tryz.prog g0 76 [i6 1,i6 4,V.im 1 [i6 ↑L.length]] z5,_,V.fn 76 []=V.fn 76 []→[i6 1,i6 4,V.sl 1 0 1 (some 0)]=[i6 0,i6 g,sl L]→z0=z0→1+1=2→Sm (CR.mk z5 z0 2 []),wr .i64 ((↑p0:Int)*z6)=z2,An [An [Zz,z2=z2,Sm true,z9,(0:Int)=(0:Int),An [n=n,RR=RR],z4=z4,z3=z3,z9,z6=z6,(↑(0:Nat):Int)=(0:Int),Tt],An [z1=z1,TT 3],Tt],_,(True->An [(sm != g)=false,wr .i64 (z3+(1:Int))=z7,An [Zz,(↑(B4 R (k+1)):Int)=z2,Sm true,An [n=n,RR=RR],z4=z4,z7=z7,Tt],An [z1=z1,TT 3],Tt]),Tt]) ⟨Bf hlt,Ar hlt,hld,a_,w1,w2,aq,aq,a_,hloop,a_⟩
    ·have hf := bad (by simp_all)
     refine .inr ⟨.exit 0,[],{sl:=[(4,.bool false)]},[As 14,pl 15,ld 16 (sl L),fn 20 (.bool true),fn 26 (.bool true),nu 32 p1,(0,.loop [0] (Xv L g RR n N k (p1:Nat) q 0 0) [(True,.exit 2,Xv L g RR n N k (p1:Nat) q sm L.length)]),As 46],1000,.inr (.inl ⟨hf,rfl,rfl⟩),?_⟩
     clear hin bad hgood hf eR e1
     exact m_ (p:=let z8:=An [Sm L.length,Sm (Aa L)];let z1:=[i6 g,V.im n RR,V.im q N];let z2:=(↑p1:Int);let z4:=V.bool true;let z5:=(↑L.length:Int);let z0:=pt (Ai T.e 0 [O.row 34 none z1]) 1 (O.row 3 none [i6 ↑L.length]);An [_,_,_,An [Tt,Tt,An [Tt,Tt],Tt],Ag Tryz.prog g0 76 [i6 1,i6 4,V.im 1 [i6 ↑L.length]] z4,_,V.fn 76 []=V.fn 76 []→[i6 1,i6 4,V.sl 1 0 1 (some 0)]=[i6 0,i6 g,sl L]→z0=z0→1+1=2→Sm (CR.mk z4 z0 2 []),wr .i64 ((↑p0:Int)*z5)=z2,An [An [Zz,z2=z2,Sm true,z8,(0:Int)=(0:Int),An [n=n,RR=RR],(↑n:Int)=(↑n:Int),(↑k:Int)=(↑k:Int),z8,z5=z5,(↑(0:Nat):Int)=(0:Int),Tt],An [z1=z1,TT 3],Tt],_,(True->An [(sm != g)=true,An [Sm false,Tt],Tt]),Tt]) ⟨Bf hlt,Ar hlt,hld,a_,w1,w2,aq,aq,a_,hloop,a_⟩
 ·have hk2 : k = R.length := by omega
  have hall:R.all (G4 g)=true:=aO.2 fun L hL=>by
   grind[List.getElem_of_mem]
  subst hk2
  generalize hp0:B4 R R.length=p0 at*
  refine .inr ⟨.exit 0,[],{sl:=[(3,i6 p0),(4,.bool true)]},[no 14],1000,.inl ⟨hall,rfl,rfl⟩,?_⟩
  generalize Ah R=RR,R.length=n at*
  clear hin hall hp0
  exact Cj [_] (Cq hlt)
theorem Rm(g:Int)(hg:1≤g∧g≤12)(R:List (List Int))(hl:R.length≤8)(h6: ∀L∈R,L.length≤1000000)(N:List Mc):Ag Pg g0 77 [Bd g R N] (.bool (D2 g R)):=by
 have hR:=B7 R
 have hN:=Cl N
 have h:=gp g hg R hl h6 N.length (Ak N) hN
 show Ag Pg g0 77 [.agg [i6 g,.im R.length (Ah R),.im N.length (Ak N)]] (.bool (R.all (G4 g)&&decide (B4 R R.length≤1024)))
 generalize hp:B4 R R.length=p at*
 generalize Ah R=RR at*
 generalize Ak N=NN at*
 generalize hb:R.all (G4 g)=b at*
 generalize R.length=n at*
 cases b with
 |false=>
  refine Ch {sl:=[(2,.bool false)]} [(0,.loop [0] (OL g RR n N.length NN 0 1) [(false=true,.exit 0,{sl:=[(3,i6 p),(4,.bool true)]}),(false=false,.exit 0,{sl:=[(4,.bool false)]})])] ?_
  exact m_ (p:=An [V.bool false=V.bool (false&&decide (p≤1024)),An [An [Zz,Sm (1:Int),Sm true,An [n=n,RR=RR],Sm (↑n:Int),(↑(0:Nat):Int)=(0:Int),Tt],An [Sm [i6 g,V.im n RR,V.im N.length NN],TT 3],Tt],_,false=true→An [An [false=decide ((↑p:Int)≤(1024:Int)),Tt],Tt],false=false→An [An [Sm false,Tt],Tt],Tt]) ⟨aq,a_,h,a_⟩
 | true =>
  by_cases hp2:p≤1024
  ·rw [decide_eq_true hp2]
   refine Ch {sl:=[(2,.bool true)]} [(0,.loop [0] (OL g RR n N.length NN 0 1) [(true=true,.exit 0,{sl:=[(3,i6 p),(4,.bool true)]}),(true=false,.exit 0,{sl:=[(4,.bool false)]})]),As 51] ?_
   exact m_ (p:=An [V.bool true=V.bool (true&&true),An [An [Zz,Sm (1:Int),Sm true,An [n=n,RR=RR],Sm (↑n:Int),(↑(0:Nat):Int)=(0:Int),Tt],An [Sm [i6 g,V.im n RR,V.im N.length NN],TT 3],Tt],_,true=true→An [decide ((↑p:Int)≤(1024:Int))=true,An [Sm true,Tt],Tt],true=false→An [An [true=false,Tt],Tt],Tt]) ⟨aq,a_,h,(by (intro h;first|(cases h;done)|exact⟨decide_eq_true (by omega),⟨rfl,trivial⟩,trivial⟩|exact⟨decide_eq_false (by omega),⟨rfl,trivial⟩,trivial⟩)),a_⟩
  ·rw [decide_eq_false hp2]
   refine Ch {sl:=[(2,.bool false)]} [(0,.loop [0] (OL g RR n N.length NN 0 1) [(true=true,.exit 0,{sl:=[(3,i6 p),(4,.bool true)]}),(true=false,.exit 0,{sl:=[(4,.bool false)]})]),no 51] ?_
   exact m_ (p:=An [V.bool false=V.bool (true&&false),An [An [Zz,Sm (1:Int),Sm true,An [n=n,RR=RR],Sm (↑n:Int),(↑(0:Nat):Int)=(0:Int),Tt],An [Sm [i6 g,V.im n RR,V.im N.length NN],TT 3],Tt],_,true=true→An [decide ((↑p:Int)≤(1024:Int))=false,An [Sm false,Tt],Tt],true=false→An [An [Sm false,Tt],Tt],Tt]) ⟨aq,a_,h,(by (intro h;first|(cases h;done)|exact⟨decide_eq_true (by omega),⟨rfl,trivial⟩,trivial⟩|exact⟨decide_eq_false (by omega),⟨rfl,trivial⟩,trivial⟩)),a_⟩
def Cr(L:List Int):Nat->Nat
 |0=>0
 |k+1=>Cr L k|||2^(L.getD k 0).toNat
theorem JD{L:List Int}(h: ∀k,k<L.length->0<=L.getD k 0/\L.getD k 0<64): ∀k,k<=L.length->Cr L k<2^64
 |0,_=>by unfold Cr;decide
 |k+1,hk=>by
  have:=h k o_
  exact dL (n:=64) (JD h k o_) (dD o_ o_)
abbrev JT(L:List Int)(k:Nat):SL:={sl:=[(2,u6 (0:Nat)),(3,u6 (Cr L k:Nat)),(6,sl L),(7,i6 L.length),(8,i6 k)]}
theorem Q0(L:List Int)(hl:L.length≤1000000)(hL: ∀k,k<L.length→0≤L.getD k 0∧L.getD k 0<64):Ag Pg g0 107 [sl L] (u6 (Cr L L.length:Nat)):=by
 have hf:=Ap L
 have hloop:Au Pg none 0 (Iq 107 [1,1,0,1,0]) (Al g0 18 (JT L 0)) (B3 g0 18 [(True,.exit 0,JT L L.length)]):=by
  refine C9 (Iq 107 [1,1,0,1,0,0]) (fun k=>k≤L.length) (JT L) (fun k=>L.length-k) (fun k hk=>?_) 0 (aG _)
  by_cases hlt:k<L.length
  ·have hld := Dm hlt
   have h1:=hL k hlt
   obtain⟨x,hx⟩: ∃x:Nat,L.getD k 0=(x:Int):=⟨(L.getD k 0).toNat,by omega⟩
   rw[hx]at hld h1
   have e1:Cr L (k+1)=Cr L k|||2^x:=by
    show Cr L k|||2^(L.getD k 0).toNat=_
    rw[hx];rfl
   obtain⟨s1,s1b⟩:=WI (G:=B1 Pg) (t:=29) (k:=x) (by omega)
   have s2:=Kn (G:=B1 Pg) (t:=29) (JD hL k hk) s1b
   refine .inl ⟨k+1,[],[As 9,pl 10,ld 11 (i6 x),va 14 (u6 (2^x:Nat)),va 15 (u6 (Cr L (k+1):Nat)),nu 16 ((k+1:Nat):Int)],1000,hlt,by omega,?_⟩
   clear hL
   exact C8 [_,_,_,B6 (B1 Tryz.prog) BinOp.shl 29 (u6 1) (i6 ↑x)=some (u6 ↑(2^x)),B6 (B1 Tryz.prog) BinOp.or 29 (u6 ↑(Cr L k)) (u6 ↑(2^x))=some (u6 (↑(Cr L (k+1)):Int)),wr .i64 ((↑k:Int)+(1:Int))=(↑(k+1):Int)] ⟨Bf hlt,Ar hlt,hld,a_⟩
  ·have hk2 : k = L.length := by omega
   subst hk2
   refine .inr ⟨.exit 0,[],JT L L.length,[no 9],1000,.inl ⟨trivial,rfl,rfl⟩,?_⟩
   clear hL
   exact Cj [_] (Cq hlt)
 refine Ch {sl:=[(2,u6 (Cr L L.length:Nat))]} [(0,.loop [] (JT L 0) [(True,.exit 0,JT L L.length)])] ?_
 clear hL
 exact m_ (p:=let z0:=(↑(Cr L L.length):Int);An [Sm (u6 z0),An [An [(↑(0:Nat):Int)=(0:Int),(↑(Cr L 0):Int)=(0:Int),An [Sm L.length,Sm (Aa L)],Sm (↑L.length:Int),(↑(0:Nat):Int)=(0:Int),Tt],Tt],_,(True->An [An [z0=z0,Tt],Tt]),Tt]) ⟨aq,⟨⟨aq,(by rfl),a_⟩,aq⟩,hloop,a_⟩
def Cs(N:List Mc)(L:List Int):Nat->Int
 |0=>1
 |k+1=>Cs N L k*(N.getD (L.getD k 0).toNat ⟨0,[],[],[]⟩).c
def C7(R:List (List Int))(L:List Int):Nat->Nat
 |0=>1
 |k+1=>C7 R L k*(R.getD (L.getD k 0).toNat []).length
abbrev Ao:Mc:=⟨0,[],[],[]⟩
abbrev Mg(g:Int)(n:Nat)(R:List V)(q:Nat)(N:List V):O:=.row 34 none [i6 g,.im n R,.im q N]
abbrev N4(x:Mc):O:=.row 86 none [i6 x.c,sl x.fr,sl x.no,sl x.ou]
theorem ML{N:List Mc}{k:Nat}(h:k<N.length):Ae ((Ak N).drop (k*4))=some (i6 (N.getD k Ao).c):=by
 rw[P2 (aB h),aA,aB h];rfl
theorem DX{N:List Mc}{k:Nat}(h:k<N.length):Dj 4 ((Ak N).drop (k*4))=some (Fq (N.getD k Ao)):=by
 rw[P2 (aB h),aA,aB h];rfl
def Hw(L:List Int)(n:Nat):Prop:=∀k,k<L.length->0<=L.getD k 0/\L.getD k 0<n
theorem LW{N:List Mc}{L:List Int}(hc: ∀k,k<N.length->1<=(N.getD k Ao).c/\(N.getD k Ao).c<=4)(hL:Hw L N.length): ∀k,k<=L.length->1<=Cs N L k/\Cs N L k<=4^k
 |0,_=>by simp[Cs]
 |k+1,hk=>by
  obtain⟨h1,h2⟩:=LW hc hL k o_
  obtain⟨h3,h4⟩:=hL k o_
  obtain⟨h5,h6⟩:=hc (L.getD k 0).toNat o_
  show 1<=Cs N L k*(N.getD (L.getD k 0).toNat Ao).c/\Cs N L k*(N.getD (L.getD k 0).toNat Ao).c<=4^(k+1)
  generalize (N.getD (L.getD k 0).toNat Ao).c=c,Cs N L k=a at*
  have e:(4:Int)^(k+1)=4^k*4:=cV ..
  rw[e]
  refine⟨?_,bC h2 h6 o_ o_⟩
  have:1*1<=a*c:=bC h1 h5 d_ o_
  omega
theorem TL{R:List (List Int)}{L:List Int}(hc: ∀k,k<R.length->1<=(R.getD k []).length/\(R.getD k []).length<=4)(hL:Hw L R.length): ∀k,k<=L.length->1<=C7 R L k/\C7 R L k<=4^k
 |0,_=>by simp[C7]
 |k+1,hk=>by
  obtain⟨h1,h2⟩:=TL hc hL k o_
  obtain⟨h3,h4⟩:=hL k o_
  obtain⟨h5,h6⟩:=hc (L.getD k 0).toNat o_
  show 1<=C7 R L k*(R.getD (L.getD k 0).toNat []).length/\C7 R L k*(R.getD (L.getD k 0).toNat []).length<=4^(k+1)
  rw[bK]
  exact⟨Nat.mul_pos h1 h5,cX h2 h6⟩
abbrev JW(g:Int)(n:Nat)(R:List V)(q:Nat)(N:List V)(x:Mc)(k:Nat)(a:Int):SL:={sl:=[(2,.ptr 0 0),(3,.ptr 1 0),(4,i6 a),(5,i6 1),(11,sl x.fr),(12,i6 x.fr.length),(13,i6 k)],os:=[Mg g n R q N,N4 x]}
abbrev JV(g:Int)(n:Nat)(R:List V)(q:Nat)(N:List V)(x:Mc)(a:Int)(k:Nat)(b:Int):SL:={sl:=[(2,.ptr 0 0),(3,.ptr 1 0),(4,i6 a),(5,i6 b),(27,sl x.no),(28,i6 x.no.length),(29,i6 k)],os:=[Mg g n R q N,N4 x]}
section
variable (g:Int) (R:List (List Int)) (N:List Mc) (x:Mc) (hc: ∀k,k<N.length->1<=(N.getD k Ao).c/\(N.getD k Ao).c<=4) (hR: ∀k,k<R.length->1<=(R.getD k []).length/\(R.getD k []).length<=4) (hf:Hw x.fr N.length) (hn:Hw x.no R.length) (hf5:x.fr.length<=5) (hn8:x.no.length<=8)
include hc hR hf hn hf5 hn8
theorem Xj:Au Pg none 0 (Iq 118 [1,1,0,1,0]) (Al g0 44 (JW g R.length (Ah R) N.length (Ak N) x 0 1)) (B3 g0 44 [(True,.exit 0,JW g R.length (Ah R) N.length (Ak N) x x.fr.length (Cs N x.fr x.fr.length))]):=by
 have hRR:=B7 R
 have hNN:=Cl N
 have h1:=Ap x.fr
 have h2:=Ap x.no
 have h3:=Ap x.ou
 refine C9 (Iq 118 [1,1,0,1,0,0]) (fun k=>k≤x.fr.length) (fun k=>JW g R.length (Ah R) N.length (Ak N) x k (Cs N x.fr k)) (fun k=>x.fr.length-k) (fun k hk=>?_) 0 (aG _)
 by_cases hlt:k<x.fr.length
 ·have hld := Dm hlt
  obtain⟨g1,g2⟩:=hf k hlt
  obtain⟨y,hy⟩: ∃y:Nat,x.fr.getD k 0=(y:Int):=⟨(x.fr.getD k 0).toNat,by omega⟩
  have hb:=LW hc hf (k+1) hlt
  have h45:(4:Int)^(k+1)≤4^5:=by
   have:=aH (show 4>0 by decide) (show k+1≤5 by omega)
   exact_mod_cast this
  have e1:Cs N x.fr (k+1)=Cs N x.fr k*(N.getD y Ao).c:=by
   show Cs N x.fr k*(N.getD (x.fr.getD k 0).toNat Ao).c=_
   rw[hy];rfl
  rw[hy]at hld g1 g2
  have hl2:=ML (N:=N) (k:=y) (by omega)
  have h46:(4:Int)^5=1024:=rfl
  refine .inl ⟨k+1,[0,1],[As 14,pl 15,ld 16 (i6 y),pl 21,ld 23 (i6 (N.getD y Ao).c),nu 24 (Cs N x.fr (k+1)),nu 25 ((k+1:Nat):Int)],1000,hlt,by omega,?_⟩
  clear hf hn hc hR
  exact C8 [_,_,_,An [_,_],Ae (List.drop 0 (List.drop (y*4) (Ak N)))=some (i6 ((fun self=>self.1) (List.getD N y Ao))),wr .i64 (Cs N ((fun self=>self.2) x) k*(fun self=>self.1) (List.getD N y Ao))=Cs N ((fun self=>self.2) x) (k+1),wr .i64 ((↑k:Int)+(1:Int))=(↑(k+1):Int)] ⟨Bf hlt,Ar hlt,hld,⟨g1,g2⟩,aq,(by (rw[←e1,BG (by omega) (by omega)];done)),aq⟩
 ·have hk2 : k = x.fr.length := by omega
  subst hk2
  refine .inr ⟨.exit 0,[0,1],JW g R.length (Ah R) N.length (Ak N) x x.fr.length (Cs N x.fr x.fr.length),[no 14],1000,.inl ⟨trivial,rfl,rfl⟩,?_⟩
  clear hf hn hc hR
  exact Cj [_] (Cq hlt)
theorem Xi(a:Int):Au Pg none 0 (Iq 118 [1,1,1,0,1,0]) (Al g0 44 (JV g R.length (Ah R) N.length (Ak N) x a 0 1)) (B3 g0 44 [(True,.exit 2,JV g R.length (Ah R) N.length (Ak N) x a x.no.length (C7 R x.no x.no.length:Nat))]):=by
 have hRR:=B7 R
 have hNN:=Cl N
 have h1:=Ap x.fr
 have h2:=Ap x.no
 have h3:=Ap x.ou
 refine C9 (Iq 118 [1,1,1,0,1,0,0]) (fun k=>k≤x.no.length) (fun k=>JV g R.length (Ah R) N.length (Ak N) x a k (C7 R x.no k:Nat)) (fun k=>x.no.length-k) (fun k hk=>?_) 0 (aG _)
 by_cases hlt:k<x.no.length
 ·have hld := Dm hlt
  obtain⟨g1,g2⟩:=hn k hlt
  obtain⟨y,hy⟩: ∃y:Nat,x.no.getD k 0=(y:Int):=⟨(x.no.getD k 0).toNat,by omega⟩
  have hb:=TL hR hn (k+1) hlt
  have h45:4^(k+1)≤4^8:=aH (by decide) (by omega)
  have e1:((C7 R x.no (k+1):Nat):Int)=(C7 R x.no k:Nat)*((R.getD y []).length:Nat):=by
   show((C7 R x.no k*(R.getD (x.no.getD k 0).toNat []).length:Nat):Int)=_
   rw[hy];exact cJ _ _
  rw[hy]at hld g1 g2
  have hl2:=Pk (R:=R) (k:=y) (by omega)
  have h46:4^8=65536:=rfl
  refine .inl ⟨k+1,[0,1],[As 30,pl 31,ld 32 (i6 y),pl 37,ld 38 (sl (R.getD y [])),nu 40 (C7 R x.no (k+1):Nat),nu 41 ((k+1:Nat):Int)],1000,hlt,by omega,?_⟩
  clear hf hn hc hR
  exact C8 [_,_,_,An [_,_],_,wr .i64 ((↑(C7 R ((fun self=>self.3) x) k):Int)*(↑(List.length (List.getD R y [])):Int))=(↑(C7 R ((fun self=>self.3) x) (k+1)):Int),wr .i64 ((↑k:Int)+(1:Int))=(↑(k+1):Int)] ⟨Bf hlt,Ar hlt,hld,⟨g1,g2⟩,hl2,(by (rw[←e1,BG (by omega) (by omega)];done)),aq⟩
 ·have hk2 : k = x.no.length := by omega
  subst hk2
  refine .inr ⟨.exit 2,[0,1],JV g R.length (Ah R) N.length (Ak N) x a x.no.length (C7 R x.no x.no.length:Nat),[no 30],1000,.inl ⟨trivial,rfl,rfl⟩,?_⟩
  clear hf hn hc hR
  exact Cj [_] (Cq hlt)
theorem Qw:Ag Pg g0 118 [Bd g R N,.agg [i6 x.c,sl x.fr,sl x.no,sl x.ou]] (.tup [i6 (Cs N x.fr x.fr.length),i6 (C7 R x.no x.no.length:Nat)]):=by
 have hRR:=B7 R
 have hNN:=Cl N
 have h1:=Ap x.fr
 have h2:=Ap x.no
 have h3:=Ap x.ou
 have ha:=Xj g R N x hc hR hf hn hf5 hn8
 have hb:=Xi g R N x hc hR hf hn hf5 hn8 (Cs N x.fr x.fr.length)
 refine Ch {sl:=[(4,i6 (Cs N x.fr x.fr.length)),(5,i6 (C7 R x.no x.no.length:Nat))]} [(0,.loop [0,1] (JW g R.length (Ah R) N.length (Ak N) x 0 1) [(True,.exit 0,JW g R.length (Ah R) N.length (Ak N) x x.fr.length (Cs N x.fr x.fr.length))]),(0,.loop [0,1] (JV g R.length (Ah R) N.length (Ak N) x (Cs N x.fr x.fr.length) 0 1) [(True,.exit 2,JV g R.length (Ah R) N.length (Ak N) x (Cs N x.fr x.fr.length) x.no.length (C7 R x.no x.no.length:Nat))])] ?_
 clear hf hn hc hR
 exact m_ (p:=let z0:=[i6 g,V.im R.length (Ah R),V.im N.length (Ak N)];let z1:=(1:Int);An [Sm (V.tup [i6 (Cs N ((fun self=>self.2) x) (List.length ((fun self=>self.2) x))),i6 (↑(C7 R ((fun self=>self.3) x) (List.length ((fun self=>self.3) x))):Int)]),An [An [Zz,Zz,z1=z1,z1=z1,An [Sm (List.length ((fun self=>self.2) x)),Sm (Aa ((fun self=>self.2) x))],Sm (↑(List.length ((fun self=>self.2) x)):Int),(↑(0:Nat):Int)=(0:Int),Tt],An [z0=z0,TT 3],An [Sm [i6 ((fun self=>self.1) x),sl ((fun self=>self.2) x),sl ((fun self=>self.3) x),sl ((fun self=>self.4) x)],TT 4],Tt],_,(True->An [An [An [Zz,Zz,Sm (Cs N ((fun self=>self.2) x) (List.length ((fun self=>self.2) x))),z1=z1,An [Sm (List.length ((fun self=>self.3) x)),Sm (Aa ((fun self=>self.3) x))],Sm (↑(List.length ((fun self=>self.3) x)):Int),(↑(0:Nat):Int)=(0:Int),Tt],An [z0=z0,TT 3],An [Sm [i6 ((fun self=>self.1) x),sl ((fun self=>self.2) x),sl ((fun self=>self.3) x),sl ((fun self=>self.4) x)],TT 4],Tt],_,(True->An [An [Sm (Cs N ((fun self=>self.2) x) (List.length ((fun self=>self.2) x))),Sm (↑(C7 R ((fun self=>self.3) x) (List.length ((fun self=>self.3) x))):Int),Tt],Tt]),Tt]),Tt]) ⟨aq,a_,ha,(fun _=>⟨a_,hb,a_⟩),aq⟩
end
def Bz{α:Type}(f:Nat->α)(i:Nat)(x:α):Nat->α:=λj=>if j=i then x else f j
theorem Eh{α:Type}(f:Nat->α)(i:Nat)(x:α):Bz f i x i=x:=by unfold Bz;rw[if_pos rfl]
theorem Cn{α:Type}{f:Nat->α}{i j:Nat}{x:α}(h:j≠i):Bz f i x j=f j:=by unfold Bz;rw[if_neg h]
abbrev JY(k:Bool):Option Nat:=if k=true then none else some 0
abbrev aw(k:Bool):Option Nat:=if k=true then some 1 else none
abbrev VL(k:Bool)(l:List Int):O:=.row 3 (aw k) (Aa l)
abbrev Aj(n:Nat)(F:Nat->V):List V:=(List.range n).map F
theorem Wu(n:Nat)(F:Nat->V):(Aj n F).length=n:=by simp
theorem pM{n i:Nat}{F:Nat->V}(h:i<n):(Aj n F)[i]? =some (F i):=by
 rw[bD,eA h];rfl
theorem iq{n i:Nat}{F:Nat->V}{x:V}:(Aj n F).set i x=Aj n (Bz F i x):=by
 apply cD
 intro j
 rw[bV]
 by_cases hj:j<n
 .rw[pM (F:=F) hj,pM (F:=Bz F i x) hj]
  by_cases hij:i=j
  .subst hij;rw[if_pos rfl,if_pos (by rw[Wu];exact hj),Eh]
  .rw[if_neg hij,Cn (Ne.symm hij)]
 .rw[aX (by rw[Wu];omega),aX (by rw[Wu];omega)]
  split
  .split
   .rename_i h;rw[Wu]at h;omega
   .rfl
  .rfl
structure NR(H:T O)(lo nx hR t:Nat)(sp:Option Nat)(n:Nat)(F:Nat->V)(S:Nat->Bool)(ls:Nat->List Int)(hd:Nat->Nat)(kd:Nat->Bool):Prop where
 row:gt H hR=some (.row t sp (Aj n F))
 nil: ∀i,i<n->S i=true->ls i=[]->F i= .nils
 own: ∀i,i<n->S i=true->ls i≠[]->F i= .sl (hd i) 0 (ls i).length (JY (kd i))/\lo<=hd i/\hd i<nx/\hd i≠hR/\gt H (hd i)=some (VL (kd i) (ls i))
 inj: ∀i j,i<n->j<n->S i=true->S j=true->ls i≠[]->ls j≠[]->hd i=hd j->i=j
section
variable {H H':T O} {lo nx nx' hR t:Nat} {sp:Option Nat} {n:Nat} {F:Nat->V} {S:Nat->Bool} {ls:Nat->List Int} {hd:Nat->Nat} {kd:Nat->Bool}
theorem NR.ne(h:NR H lo nx hR t sp n F S ls hd kd){i j:Nat}(hi:i<n)(hS:S i=true)(hl:ls i≠[])(hj:j<n)(hS':S j=true)(hl':ls j≠[])(hne:j≠i):hd j≠hd i:=λe=>hne (h.inj j i hj hi hS' hS hl' hl e)
theorem NR.frame(h:NR H lo nx hR t sp n F S ls hd kd)(hn:nx<=nx')(h1:gt H' hR=gt H hR)(hg: ∀i,i<n->S i=true->ls i≠[]->gt H' (hd i)=gt H (hd i)):NR H' lo nx' hR t sp n F S ls hd kd where
 row:=h1.trans h.row
 nil:=h.nil
 own i q1 q2 q3:=by
  obtain⟨a1,a2,a3,a4,a5⟩:=h.own i q1 q2 q3
  exact⟨a1,a2,o_,a4,(hg i q1 q2 q3).trans a5⟩
 inj:=h.inj
theorem NR.put(h:NR H lo nx hR t sp n F S ls hd kd){i:Nat}(hS:S i=false)(x:V)(h1:gt H' hR=some (.row t sp (Aj n (Bz F i x))))(hg: ∀i,i<n->S i=true->ls i≠[]->gt H' (hd i)=gt H (hd i))(hn:nx<=nx'):NR H' lo nx' hR t sp n (Bz F i x) S ls hd kd where
 row:=h1
 nil j h1 h2 h3:=by rw[Cn (by rintro rfl;rw[hS]at h2;cases h2)];exact h.nil j h1 h2 h3
 own j h1 h2 h3:=by
  obtain⟨a1,a2,a3,a4,a5⟩:=h.own j h1 h2 h3
  exact⟨by rw[Cn (by rintro rfl;rw[hS]at h2;cases h2)];exact a1,a2,o_,a4,(hg j h1 h2 h3).trans a5⟩
 inj:=h.inj
theorem NR.new(h:NR H lo nx hR t sp n F S ls hd kd){i q:Nat}{l:List Int}{k:Bool}(hl:l≠[])(hq:nx<=q)(hq2:q<nx')(hlo:lo<=q)(hqR:q≠hR)
  (h1:gt H' hR=some (.row t sp (Aj n (Bz F i (.sl q 0 l.length (JY k))))))(h2:gt H' q=some (VL k l))(hg: ∀j,j<n->S j=true->ls j≠[]->j≠i->gt H' (hd j)=gt H (hd j)):NR H' lo nx' hR t sp n (Bz F i (.sl q 0 l.length (JY k))) S (Bz ls i l) (Bz hd i q) (Bz kd i k) where
 row:=h1
 nil j g1 g2 g3:=by
  by_cases hj:j=i
  .subst hj;rw[Eh]at g3;exact absurd g3 hl
  .rw[Cn hj]at g3⊢;exact h.nil j g1 g2 g3
 own j g1 g2 g3:=by
  by_cases hj:j=i
  .subst hj
   rw[Eh,Eh,Eh,Eh]
   exact⟨rfl,hlo,hq2,hqR,h2⟩
  .rw[Cn hj]at g3
   obtain⟨a1,a2,a3,a4,a5⟩:=h.own j g1 g2 g3
   rw[Cn hj,Cn hj,Cn hj,Cn hj]
   exact⟨a1,a2,o_,a4,(hg j g1 g2 g3 hj).trans a5⟩
 inj j m g1 g2 g3 g4 g5 g6 e:=by
  by_cases hj:j=i<;>by_cases hm:m=i
  .rw[hj,hm]
  .subst hj
   rw[Eh,Cn hm]at e
   rw[Cn hm]at g6
   have:=(h.own m g2 g4 g6).2.2.1
   omega
  .subst hm
   rw[Eh,Cn hj]at e
   rw[Cn hj]at g5
   have:=(h.own j g1 g3 g5).2.2.1
   omega
  .rw[Cn hj]at g5 e
   rw[Cn hm]at g6 e
   exact h.inj j m g1 g2 g3 g4 g5 g6 e
theorem NR.set(h:NR H lo nx hR t sp n F S ls hd kd){i:Nat}{l:List Int}(hi:i<n)(hS:S i=true)(hne:ls i≠[])(hl:l.length=(ls i).length)(h1:gt H' (hd i)=some (VL (kd i) l))(h2:gt H' hR=gt H hR)(hg: ∀j,j<n->S j=true->ls j≠[]->j≠i->gt H' (hd j)=gt H (hd j)):NR H' lo nx hR t sp n F S (Bz ls i l) hd kd where
 row:=h2.trans h.row
 nil j g1 g2 g3:=by
  by_cases hj:j=i
  .subst hj
   rw[Eh]at g3
   rw[g3]at hl
   exact absurd (aE hl.symm) hne
  .rw[Cn hj]at g3;exact h.nil j g1 g2 g3
 own j g1 g2 g3:=by
  by_cases hj:j=i
  .subst hj
   obtain⟨a1,a2,a3,a4,a5⟩:=h.own j g1 g2 hne
   rw[Eh,hl]
   exact⟨a1,a2,a3,a4,h1⟩
  .rw[Cn hj]at g3⊢
   obtain⟨a1,a2,a3,a4,a5⟩:=h.own j g1 g2 g3
   exact⟨a1,a2,a3,a4,(hg j g1 g2 g3 hj).trans a5⟩
 inj j m g1 g2 g3 g4 g5 g6 e:=by
  have key: ∀j,j<n->S j=true->Bz ls i l j≠[]->ls j≠[]:=λj g1 g3 g5=>by
   by_cases hj:j=i
   .subst hj;exact hne
   .rw[Cn hj]at g5;exact g5
  exact h.inj j m g1 g2 g3 g4 (key j g1 g3 g5) (key m g2 g4 g6) e
theorem NR.clear(h:NR H lo nx hR t sp n F S ls hd kd){i:Nat}(h1:gt H' hR=some (.row t sp (Aj n (Bz F i .nils))))(hg: ∀j,j<n->S j=true->ls j≠[]->j≠i->gt H' (hd j)=gt H (hd j))(hn:nx<=nx'):NR H' lo nx' hR t sp n (Bz F i .nils) S (Bz ls i []) hd kd where
 row:=h1
 nil j g1 g2 g3:=by
  by_cases hj:j=i
  .subst hj;rw[Eh]
  .rw[Cn hj]at g3⊢;exact h.nil j g1 g2 g3
 own j g1 g2 g3:=by
  by_cases hj:j=i
  .subst hj;rw[Eh]at g3;exact absurd rfl g3
  .rw[Cn hj]at g3
   obtain⟨a1,a2,a3,a4,a5⟩:=h.own j g1 g2 g3
   rw[Cn hj,Cn hj]
   exact⟨a1,a2,o_,a4,(hg j g1 g2 g3 hj).trans a5⟩
 inj j m g1 g2 g3 g4 g5 g6 e:=by
  by_cases hj:j=i
  .subst hj;rw[Eh]at g5;exact absurd rfl g5
  .by_cases hm:m=i
   .subst hm;rw[Eh]at g6;exact absurd rfl g6
   .rw[Cn hj]at g5
    rw[Cn hm]at g6
    exact h.inj j m g1 g2 g3 g4 g5 g6 e
theorem NR.viewP{G:Nat->V}(h:NR H lo nx hR t sp n F S ls hd kd){Fz:Nat->Prop}(hF: ∀g,lo<=g->g<nx->Fz g)(h0: ∀i,i<n->S i=false->G i=F i/\Hf (F i))(h1: ∀i,i<n->S i=true->G i=sl (ls i)):Bq H.get Fz (Aj n G) (Aj n F):=by
 have key: ∀l:List Nat,(∀i∈l,i<n)->Bq H.get Fz (l.map G) (l.map F):=by
  intro l
  induction l with
  |nil=>intro _;exact trivial
  | cons i l ih =>
   intro hl
   have hi:=hl i aZ
   refine⟨_,_,rfl,?_,ih λj hj=>hl j (aW _ hj)⟩
   cases hS:S i with
   |false=>
    obtain⟨e,hf⟩:=h0 i hi hS
    rw[e];exact Bo.of_hf _ hf
   | true =>
    rw[h1 i hi hS]
    by_cases hne:ls i=[]
    .rw[h.nil i hi hS hne,hne];exact .inr (.inl ⟨rfl,rfl⟩)
    .obtain⟨a1,a2,a3,a4,a5⟩:=h.own i hi hS hne
     rw[a1]
     exact .inr (.inr ⟨hd i,0,JY (kd i),_,_,_,rfl,hF _ a2 a3,by rw[<-Cm];exact a5,Bq.of_hf _ (Ap _)⟩)
 exact key (List.range n) λi hi=>bB.1 hi
end
def Sx(N:List Mc)(i:Nat):V:=(Fq (N.getD (i/4) Ao)).getD (i%4) .nils
theorem oT: ∀N:List Mc,Ak N=Aj (4*N.length) (Sx N)
 |[]=>rfl
 |x::N=>by
  have ih:=oT N
  show Fq x++Ak N=_
  rw[ih,bZ,show 4*(N.length+1)=4+4*N.length by omega]
  unfold Aj
  rw[List.range_add,bP,List.map_map]
  congr 1
  apply dZ
  intro i _
  show Sx N i=Sx (x::N) (4+i)
  unfold Sx
  rw[show(4+i)/4=i/4+1 by omega,show(4+i)%4=i%4 by omega]
  rfl
end Go.Proofs.YtifdkhfldbkkpaaGreat.Am
