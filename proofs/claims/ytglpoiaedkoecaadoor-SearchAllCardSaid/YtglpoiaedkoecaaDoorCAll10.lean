/- Texts behind the claim, part 10: the abstract machine, and what the functions answer. No condition. -/
import Derived.Test.YtglpoiaedkoecaaDoorCAll9
set_option linter.unusedVariables false
set_option linter.unusedSimpArgs false
set_option linter.unusedSectionVars false
namespace Go.Proofs.YtglpoiaedkoecaaDoor.Am
open Go.RowKit
set_option maxHeartbeats 4000000
set_option maxRecDepth 100000
theorem big_fn(lim p:Nat)(hp:p<32):FnOk Pg g0 69 [u6 (p:Nat),.imp [i6 (lim:Nat)]] (.bool (decide (lim<popc p))):=by
 have ho:=Qiu p hp
 generalize popc p=q at*
 by_cases h:lim<q
 ·rw [decide_eq_true h]
  refine FnOk.of_vc vE_ok mixed Qab (n:=1000) (r:=[]) (S:={sl:=[(3,.bool true)]}) (hs:=[fn 5 (i6 (q:Nat)),yes 7]) ?_
  refine Eq.mp (by kernel_rfl:(An [Sm (V.bool true),An [Tt,Tt],FnOk Pg g0 65 [u6 ↑p] (i6 ↑q),Tt,decide ((↑q:Int)>(↑lim:Int))=true,An [Sm true,Tt],Tt])=_) ?_
  (repeat'(first|(with_reducible apply And.intro)|(refine fun(_:True)=>?_)))
  all_goals first|exact ho|exact aq|rfl|skip
 ·rw [decide_eq_false h]
  refine FnOk.of_vc vE_ok mixed Qab (n:=1000) (r:=[]) (S:={sl:=[(3,.bool false)]}) (hs:=[fn 5 (i6 (q:Nat)),no 7]) ?_
  refine Eq.mp (by kernel_rfl:(An [Sm (V.bool false),An [Tt,Tt],FnOk Pg g0 65 [u6 ↑p] (i6 ↑q),Tt,decide ((↑q:Int)>(↑lim:Int))=false,An [Sm false,Tt],Tt])=_) ?_
  (repeat'(first|(with_reducible apply And.intro)|(refine fun(_:True)=>?_)))
  all_goals first|exact ho|exact aq|rfl|skip
abbrev bigV(lim:Nat):V:=.fn 69 [.imp [i6 (lim:Nat)]]
abbrev cfS(l:List Nat)(lim k:Nat):SL:={sl:=[(0,ul l),(1,bigV lim),(6,ul l),(7,i6 (l.length:Nat)),(8,i6 (k:Nat))]}
theorem Qpw(l:List Nat)(lim:Nat)(hl:l.length≤1000)(h32: ∀k,k<l.length→l.getD k 0<32)(h: ∀k,k<l.length→popc (l.getD k 0)≤lim):FnOk Pg g0 101 [ul l,bigV lim] (i6 (-1)):=by
 have hu:=Qa8 l
 have hloop:Sat Pg none 0 (at' 101 [1,0,1,0]) (mkSt g0 19 (cfS l lim 0)) (Qaf g0 19 [(True,.exit 0,{sl:=[]})]):=by
  refine Qa2 vE_ok mixed Qab (b:=at' 101 [1,0,1,0,0]) (by kernel_rfl) (fun k=>True) (cfS l lim) (fun k=>l.length-k) (fun k _=>?_) 0 trivial
  by_cases hlt:k<l.length
  ·have hld := @Qbm l k hlt
   have hb:=big_fn lim (l.getD k 0) (h32 k hlt)
   rw[decide_eq_false (by have:=h k hlt;omega)]at hb
   generalize l.getD k 0=x at*
   refine .inl ⟨k+1,[],[yes 9,pl 14,ld 15 (u6 (x:Nat)),fn 16 (.bool false),nu 18 ((k+1:Nat):Int)],1000,trivial,by omega,?_⟩
   clear h h32
   refine Eq.mp (by kernel_rfl:(let z3:=An [Sm l.length,Sm (ut l)];let z0:=(↑l.length:Int);let z1:=(↑(k+1):Int);let z2:=(↑k:Int);An [decide (z2<z0)=true,An [(0:Int)≤z2,z2<z0],headF (List.drop (k*1) (ut l))=some (u6 ↑x),TT 2,FnOk Pg g0 69 [u6 ↑x,V.imp [i6 ↑lim]] (V.bool false),Tt,wr .i64 (z2+(1:Int))=z1,An [z3,An [Sm [i6 ↑lim],Tt],z3,z0=z0,z1=z1,Tt],Tt])=_) ?_
   (repeat'(first|(with_reducible apply And.intro)|(refine fun(_:True)=>?_)))
   all_goals first|exact hb|(with_reducible exact hld)|exact hu|exact aq|rfl|skip
  ·refine .inr ⟨.exit 0, [], { sl := [] }, [no 9], 1000, .inl ⟨trivial, rfl, rfl⟩, ?_⟩
   clear h h32
   refine Eq.mp (by kernel_rfl:(An [decide ((↑k:Int)<(↑l.length:Int))=false,Tt,Tt])=_) ?_
   (repeat'(first|(with_reducible apply And.intro)|(refine fun(_:True)=>?_)))
   all_goals first|exact hu|exact aq|rfl|skip
 refine FnOk.of_vc vE_ok mixed Qab (n:=1000) (r:=[]) (S:={sl:=[(4,i6 (-1))]}) (hs:=[(0,.loop [] (cfS l lim 0) [(True,.exit 0,{sl:=[]})])]) ?_
 clear h h32
 refine Eq.mp (by kernel_rfl:(let z0:=An [Sm l.length,Sm (ut l)];An [Sm (i6 (-1)),An [An [z0,An [Sm [i6 ↑lim],Tt],z0,Sm (↑l.length:Int),(↑(0:Nat):Int)=(0:Int),Tt],Tt],Sat Pg none 0 (at' 101 [1,0,1,0]) (mkSt g0 19 (cfS l lim 0)) (Qaf g0 19 [(True,Ex.exit 0,SL.mk [] [] [] [])]),(True→An [An [Sm (-1:Int),Tt],Tt]),Tt])=_) ?_
 (repeat'(first|(with_reducible apply And.intro)|(refine fun(_:True)=>?_)))
 all_goals first|exact hloop|exact hu|exact aq|rfl|skip
theorem Qpx(l:List Nat)(lim j:Nat)(hl:l.length≤1000)(h32: ∀k,k<l.length→l.getD k 0<32)(hj:j<l.length)(h: ∀k,k<j→popc (l.getD k 0)≤lim)(hb:lim<popc (l.getD j 0)):FnOk Pg g0 101 [ul l,bigV lim] (i6 (j:Nat)):=by
 have hu:=Qa8 l
 have hloop:Sat Pg none 0 (at' 101 [1,0,1,0]) (mkSt g0 19 (cfS l lim 0)) (Qaf g0 19 [(True,.ret,{sl:=[(4,i6 (j:Nat))]})]):=by
  refine Qa2 vE_ok mixed Qab (b:=at' 101 [1,0,1,0,0]) (by kernel_rfl) (fun k=>k≤j) (cfS l lim) (fun k=>l.length-k) (fun k hk=>?_) 0 (Nat.zero_le _)
  have hlt:k<l.length:=by omega
  have hld:=@Qbm l k hlt
  have hbf:=big_fn lim (l.getD k 0) (h32 k hlt)
  by_cases hkj:k=j
  ·subst hkj
   rw[decide_eq_true hb]at hbf
   generalize l.getD k 0=x at*
   refine .inr ⟨.ret,[],{sl:=[(4,i6 (k:Nat))]},[yes 9,pl 14,ld 15 (u6 (x:Nat)),fn 16 (.bool true)],1000,.inl ⟨trivial,rfl,rfl⟩,?_⟩
   clear h h32 hb
   refine Eq.mp (by kernel_rfl:(let z0:=(↑k:Int);An [decide (z0<(↑l.length:Int))=true,An [(0:Int)≤z0,z0<(↑l.length:Int)],headF (List.drop (k*1) (ut l))=some (u6 ↑x),TT 2,FnOk Pg g0 69 [u6 ↑x,V.imp [i6 ↑lim]] (V.bool true),Tt,An [z0=z0,Tt],Tt])=_) ?_
   (repeat'(first|(with_reducible apply And.intro)|(refine fun(_:True)=>?_)))
   all_goals first|exact hbf|(with_reducible exact hld)|exact hu|exact aq|rfl|skip
  ·rw [decide_eq_false (by have := h k (by omega); omega)] at hbf
   generalize l.getD k 0=x at*
   refine .inl ⟨k+1,[],[yes 9,pl 14,ld 15 (u6 (x:Nat)),fn 16 (.bool false),nu 18 ((k+1:Nat):Int)],1000,by omega,by omega,?_⟩
   clear h h32 hb
   refine Eq.mp (by kernel_rfl:(let z3:=An [Sm l.length,Sm (ut l)];let z0:=(↑l.length:Int);let z1:=(↑(k+1):Int);let z2:=(↑k:Int);An [decide (z2<z0)=true,An [(0:Int)≤z2,z2<z0],headF (List.drop (k*1) (ut l))=some (u6 ↑x),TT 2,FnOk Pg g0 69 [u6 ↑x,V.imp [i6 ↑lim]] (V.bool false),Tt,wr .i64 (z2+(1:Int))=z1,An [z3,An [Sm [i6 ↑lim],Tt],z3,z0=z0,z1=z1,Tt],Tt])=_) ?_
   (repeat'(first|(with_reducible apply And.intro)|(refine fun(_:True)=>?_)))
   all_goals first|exact hbf|(with_reducible exact hld)|exact hu|exact aq|rfl|skip
 refine FnOk.of_vc vE_ok mixed Qab (n:=1000) (r:=[]) (S:={sl:=[(4,i6 (j:Nat))]}) (hs:=[(0,.loop [] (cfS l lim 0) [(True,.ret,{sl:=[(4,i6 (j:Nat))]})])]) ?_
 clear h h32 hb
 refine Eq.mp (by kernel_rfl:(let z0:=An [Sm l.length,Sm (ut l)];An [Sm (i6 ↑j),An [An [z0,An [Sm [i6 ↑lim],Tt],z0,Sm (↑l.length:Int),(↑(0:Nat):Int)=(0:Int),Tt],Tt],Sat Pg none 0 (at' 101 [1,0,1,0]) (mkSt g0 19 (cfS l lim 0)) (Qaf g0 19 [(True,Ex.ret,SL.mk [(4,i6 ↑j)] [] [] [])]),(True→An [An [Sm (↑j:Int),Tt],Tt]),Tt])=_) ?_
 (repeat'(first|(with_reducible apply And.intro)|(refine fun(_:True)=>?_)))
 all_goals first|exact hloop|exact hu|exact aq|rfl|skip
theorem first_big(l:List Nat)(lim:Nat):(∀k,k<l.length→popc (l.getD k 0)≤lim)∨∃j,j<l.length∧(∀k,k<j→popc (l.getD k 0)≤lim)∧lim<popc (l.getD j 0):=by
 have key: ∀n,n≤l.length→(∀k,k<n→popc (l.getD k 0)≤lim)∨∃j,j<l.length∧(∀k,k<j→popc (l.getD k 0)≤lim)∧lim<popc (l.getD j 0):=by
  intro n
  induction n with
  |zero=>intro _;exact .inl fun k hk=>absurd hk (Nat.not_lt_zero _)
  | succ n ih =>
   intro hn
   rcases ih (by omega)with h|h
   ·by_cases hb : lim < popc (l.getD n 0)
    ·exact .inr ⟨n,by omega,h,hb⟩
    ·refine .inl fun k hk => ?_
     by_cases hkn:k=n
     ·subst hkn;omega
     ·exact h k (by omega)
   ·exact .inr h
 exact key _ (Nat.le_refl _)
theorem Ql3(l:List Nat)(lim:Nat)(hl:l.length≤1000)(h32: ∀k,k<l.length→l.getD k 0<32)(h: ∀k,k<l.length→popc (l.getD k 0)≤lim):FnOk Pg g0 68 [ul l,bigV lim] (.bool false):=by
 have hu:=Qa8 l
 have hi:=Qpw l lim hl h32 h
 refine FnOk.of_vc vE_ok mixed Qab (n:=1000) (r:=[]) (S:={sl:=[(4,.bool false)]}) (hs:=[fn 7 (i6 (-1))]) ?_
 clear h h32
 refine Eq.mp (by kernel_rfl:(An [Sm (V.bool false),An [Tt,An [Tt,Tt],Tt],FnOk Pg g0 101 [V.im l.length (ut l),V.fn 69 [V.imp [i6 ↑lim]]] (i6 (-1)),Tt,An [false=decide ((-1:Int)≥(0:Int)),Tt],Tt])=_) ?_
 (repeat'(first|(with_reducible apply And.intro)|(refine fun(_:True)=>?_)))
 all_goals first|exact hi|exact hu|exact aq|rfl|skip
theorem Qj6(l:List Nat)(lim j:Nat)(hl:l.length≤1000)(h32: ∀k,k<l.length→l.getD k 0<32)(hj:j<l.length)(h: ∀k,k<j→popc (l.getD k 0)≤lim)(hb:lim<popc (l.getD j 0)):FnOk Pg g0 68 [ul l,bigV lim] (.bool true):=by
 have hu:=Qa8 l
 have hi:=Qpx l lim j hl h32 hj h hb
 refine FnOk.of_vc vE_ok mixed Qab (n:=1000) (r:=[]) (S:={sl:=[(4,.bool true)]}) (hs:=[fn 7 (i6 (j:Nat)),yes 8]) ?_
 clear h h32 hb
 refine Eq.mp (by kernel_rfl:(An [Sm (V.bool true),An [Tt,An [Tt,Tt],Tt],FnOk Pg g0 101 [V.im l.length (ut l),V.fn 69 [V.imp [i6 ↑lim]]] (i6 ↑j),Tt,decide ((↑j:Int)≥(0:Int))=true,An [Sm true,Tt],Tt])=_) ?_
 (repeat'(first|(with_reducible apply And.intro)|(refine fun(_:True)=>?_)))
 all_goals first|exact hi|exact hu|exact aq|rfl|skip
theorem CallSpec.args{gl:T (List V)}{c:V}{ars ars':List V}{H:T O}{nx:Nat}{r:CR}(h:CallSpec Pg gl c ars H nx r)(hv: ∀(s:Sig)(w:World)(vs:List Value),RL s w ars' vs→RL s w ars vs):CallSpec Pg gl c ars' H nx r:=
 ⟨fun s w fv vals hc hargs hH hgl hn=>h.1 s w fv vals hc (hv s w _ hargs) hH hgl hn,h.2⟩
theorem Qse{s:Sig}{w:World}{n m:Nat}{l:List V}{v:Value}(h:RV s w (.im n l) v):RV s w (.im n (l.take m)) v:=by
 obtain⟨a,cap,e,hc,hl⟩:=h
 exact⟨a,cap,e,hc,fun hn=>let ⟨b,off,ha,hr⟩:=hl hn;⟨b,off,ha,hr.take m⟩⟩
theorem FnOk.short1{f n:Nat}{l:List V}{zs:List V}{v:V}(m:Nat)(h:FnOk Pg g0 f (.im n (l.take m)::zs) v):FnOk Pg g0 f (.im n l::zs) v:=
 CallSpec.args h fun s w vs⟨u,us,e,h1,h2⟩=>⟨u,us,e,Qse h1,h2⟩
theorem FnOk.short2{f n:Nat}{x:V}{l:List V}{zs:List V}{v:V}(m:Nat)(h:FnOk Pg g0 f (x:: .im n (l.take m)::zs) v):FnOk Pg g0 f (x:: .im n l::zs) v:=
 CallSpec.args h fun s w vs⟨u,us,e,h1,a,bs,e2,h2,h3⟩=>⟨u,us,e,h1,a,bs,e2,Qse h2,h3⟩
abbrev pk3(k:Nat):List Nat:=[k%8,k/8%8,k/64%8]
def pkL(n k:Nat):List Nat:=(pk3 k).take n
def ups(l:List Nat)(s:Nat):Nat:=s|||(bif s.testBit 0 then l.getD 0 0 else 0)|||(bif s.testBit 1 then l.getD 1 0 else 0)|||(bif s.testBit 2 then l.getD 2 0 else 0)
def rkL(l:List Nat)(v:Nat):Nat:=popc (ups l (ups l (ups l (l.getD v 0))))
def rankB(n:Nat)(l:List Nat):Bool:= !fitsB n l||(List.range n).all fun v=>decide (l.getD v 0<2^n)&&(List.range n).all fun p=> !(l.getD v 0).testBit p||decide (rkL l p<rkL l v)
theorem rank_all:((List.range 4).all fun n=>(List.range 512).all fun k=>rankB n (pkL n k))=true:=by kernel_rfl
theorem rank_of{n k:Nat}(hn:n≤3)(hk:k<512)(h:fitsB n (pkL n k)=true):Qjn n (fun v=>(pkL n k).getD v 0) (rkL (pkL n k)):=by
 have:=List.all_eq_true.1 (List.all_eq_true.1 rank_all n (List.mem_range.2 (by omega))) k (List.mem_range.2 hk)
 unfold rankB at this
 rw[h,Bool.not_true,Bool.false_or]at this
 intro v hv
 have h1:=List.all_eq_true.1 this v (List.mem_range.2 hv)
 rw[Bool.and_eq_true]at h1
 refine⟨of_decide_eq_true h1.1,fun p hp hb=>?_⟩
 have h2:=List.all_eq_true.1 h1.2 p (List.mem_range.2 hp)
 dsimp only at hb
 rw[hb,Bool.not_true,Bool.false_or]at h2
 exact of_decide_eq_true h2
theorem pk_len{n k:Nat}(hn:n≤3):(pkL n k).length=n:=by unfold pkL;simp;omega
theorem pk_lt{n k v:Nat}:(pkL n k).getD v 0<8:=by
 unfold pkL
 rw[List.getD_eq_getElem?_getD]
 cases h:((pk3 k).take n)[v]? with
 |none=>decide
 |some x=>
  have:=List.mem_of_mem_take (List.mem_of_getElem? h)
  simp only[pk3,List.mem_cons,List.not_mem_nil,or_false]at this
  simp only[Option.getD_some]
  omega
def cod9(n:Nat)(g:Nat→Nat):Nat:=(if 0<n then g 0 else 0)+8*((if 1<n then g 1 else 0)+8*(if 2<n then g 2 else 0))
theorem cod9_ok{n:Nat}{g:Nat→Nat}(h1:1≤n)(hn:n≤3)(hg: ∀v,v<n→g v<8):cod9 n g<512∧cod9 n g/2^(3*n)=0∧pkL n (cod9 n g)=(List.range n).map g:=by
 unfold cod9 pkL pk3
 rcases(show n=1∨n=2∨n=3 by omega)with rfl|rfl|rfl
 ·have := hg 0 (by decide)
  refine⟨by simp;omega,by simp;omega,?_⟩
  simp[List.range_succ];omega
 ·have := hg 0 (by decide); have := hg 1 (by decide)
  refine⟨by simp;omega,by simp;omega,?_⟩
  simp[List.range_succ];omega
 ·have := hg 0 (by decide); have := hg 1 (by decide); have := hg 2 (by decide)
  refine⟨by simp;omega,by simp;omega,?_⟩
  simp[List.range_succ];omega
theorem and7_all: ∀s:Nat,s<512→IntKind.u64.wrap ((BitVec.ofInt 64 (s:Int)&&& BitVec.ofInt 64 7).toNat:Int)=((s%8:Nat):Int):=by decide+kernel
theorem Qqr{G:Ctx}{t s:Nat}(hs:s<512):binV G .and t (u6 (s:Int)) (u6 7)=some (u6 ((s%8:Nat):Int)):=by
 have e:binV G .and t (u6 (s:Int)) (u6 7)=some (.int .u64 (IntKind.u64.wrap ((BitVec.ofInt 64 (s:Int)&&& BitVec.ofInt 64 7).toNat:Int))):=rfl
 rw[e,and7_all s hs]
theorem shr3_u{G:Ctx}{t:Nat}{x:Nat}:binV G .shr t (u6 (x:Int)) (u6 3)=some (u6 ((x/8:Nat):Int)):=by
 have h1:((3:Int)<0)=False:=by simp
 have h2:min (3:Int).toNat 64=3:=by decide
 simp only[binV,intV,h1,if_false,IntKind.bits,h2]
 rw[Int.fdiv_eq_ediv_of_nonneg _ (by decide)]
 rfl
theorem shr6_u{G:Ctx}{t:Nat}{x:Nat}:binV G .shr t (u6 (x:Int)) (u6 6)=some (u6 ((x/64:Nat):Int)):=by
 have h1:((6:Int)<0)=False:=by simp
 have h2:min (6:Int).toNat 64=6:=by decide
 simp only[binV,intV,h1,if_false,IntKind.bits,h2]
 rw[Int.fdiv_eq_ediv_of_nonneg _ (by decide)]
 rfl
theorem Qpv{cards:List Int}{rows:List (List Int)}(hg:goodE cards rows=0)(h1:1≤cards.length)(h5:cards.length≤5)(hr:rows.length≤40)(hcl: ∀c∈rows,c.length≤1000)(lim:Nat){g r:Nat→Nat}(hrk:Qjn cards.length g r)(hl: ∀v,v<cards.length→popc (g v)≤lim): ∃c,FnOk Pg g0 28 [gV cards rows,gV' cards.length g] (.tup [ar (scG (fF cards rows) g (2^cards.length-1) cards.length),i6 0])∧FnOk Pg g0 45 [ar (scG (fF cards rows) g (2^cards.length-1) cards.length),ar (topB cards.length lim (fF cards rows) (2^cards.length-1))] (.tup [i6 c,i6 0])∧c≤0∧(c=0↔∀i,i<18→scG (fF cards rows) g (2^cards.length-1) cards.length i=topB cards.length lim (fF cards rows) (2^cards.length-1) i):=by
 have hF:=Qrp hg hr
 have hfull:2^cards.length-1<2^cards.length:=by
  have:0<2^cards.length:=Nat.pow_pos (by decide)
  omega
 have h32:=Qaq h5
 have hT:inB (topB cards.length lim (fF cards rows) (2^cards.length-1)) 800:=Qjk hF h5 hfull
 have hS:=sc_in hF h5 g (2^cards.length-1)
 have e:=Qtq cards rows ((List.range cards.length).map g) (by omega) (by omega) hcl (fun x hx=>by
  obtain⟨v,hv,rfl⟩:=List.mem_map.1 hx
  have:=(hrk v (List.mem_range.1 hv)).1
  omega) hg (Qdc h1 (by omega) hrk)
 rw[Qr8 h5,←gV_ul]at e
 have hc:=Qdo (hS.mono (show(800:Int)≤4000 by decide)) (hT.mono (show(800:Int)≤4000 by decide))
 refine⟨_,e,cmp_ok _ _ (hS.inA (by decide)) (hT.inA (by decide)),cmp_le hS hT (sc_top hF h1 h5 hrk hl),?_,fun hi=>cmp_zero hS hT hi⟩
 intro h0
 rw[hc]at h0
 exact nv_inj (hS.mono (by decide)) (hT.mono (by decide)) (Qfb.1 h0)
section
variable (cards:List Int) (rows:List (List Int)) (T:Nat→Int) (lim n k:Nat) (fd:Bool)
abbrev saS:SL:={sl:=[(7,.ptr 0 0),(8,i6 (n:Nat)),(9,.ptr 1 0),(10,.ptr 2 0),(19,.bool fd),(20,u6 (k:Nat))],os:=[gO cards rows,.row 3 none [i6 (lim:Nat)],.row 41 none (arF T)]}
def hitB(F:Nat→Nat→Nat→Int):Bool:=decide (k/2^(3*n)=0)&&(fitsB n (pkL n k)&&((List.range n).all (fun v=>decide (popc ((pkL n k).getD v 0)≤lim))&&(List.range 18).all fun i=>decide (scG F (fun v=>(pkL n k).getD v 0) (2^n-1) n i=T i)))
end
def fndB(T:Nat→Int)(lim n:Nat)(F:Nat→Nat→Nat→Int)(k:Nat):Bool:=(List.range k).any fun j=>hitB T lim n j F
theorem fnd_next(T:Nat→Int)(lim n:Nat)(F:Nat→Nat→Nat→Int)(k:Nat):fndB T lim n F (k+1)=(fndB T lim n F k||hitB T lim n k F):=by
 unfold fndB
 rw[List.range_succ,List.any_append]
 simp
theorem hit_no1{T:Nat→Int}{lim n k:Nat}{F:Nat→Nat→Nat→Int}(h:k/2^(3*n)≠0):hitB T lim n k F=false:=by
 unfold hitB;rw[decide_eq_false h];rfl
theorem hit_no2{T:Nat→Int}{lim n k:Nat}{F:Nat→Nat→Nat→Int}(h:fitsB n (pkL n k)=false):hitB T lim n k F=false:=by
 unfold hitB;rw[h];simp
theorem hit_no3{T:Nat→Int}{lim n k:Nat}{F:Nat→Nat→Nat→Int}{v:Nat}(hv:v<n)(h:lim<popc ((pkL n k).getD v 0)):hitB T lim n k F=false:=by
 unfold hitB
 have:(List.range n).all (fun v=>decide (popc ((pkL n k).getD v 0)≤lim))=false:=by
  rw[List.all_eq_false]
  exact⟨v,List.mem_range.2 hv,fun hd=>absurd (of_decide_eq_true hd) (by omega)⟩
 rw[this];simp
theorem Qsd{T:Nat→Int}{lim n k:Nat}{F:Nat→Nat→Nat→Int}(h1:k/2^(3*n)=0)(h2:fitsB n (pkL n k)=true)(h3: ∀v,v<n→popc ((pkL n k).getD v 0)≤lim):hitB T lim n k F=true↔∀i,i<18→scG F (fun v=>(pkL n k).getD v 0) (2^n-1) n i=T i:=by
 unfold hitB
 have:(List.range n).all (fun v=>decide (popc ((pkL n k).getD v 0)≤lim))=true:=List.all_eq_true.2 fun v hv=>decide_eq_true (h3 v (List.mem_range.1 hv))
 rw[decide_eq_true h1,h2,this]
 simp
theorem sa_loop(cards:List Int)(rows:List (List Int))(hgo:goodE cards rows=0)(h1:1≤cards.length)(h3:cards.length≤3)(hr:rows.length≤40)(hcl: ∀c∈rows,c.length≤1000)(lim:Nat)(T:Nat→Int)(n:Nat)(hn:n=cards.length)(hTe:T=topB n lim (fF cards rows) (2^n-1)):
  Sat Pg none 0 (at' 16 [1,1,1,1,1,1,1,1,1,1,1,1,1,0,1,0]) (mkSt g0 160 (saS cards rows T lim n 0 (fndB T lim n (fF cards rows) 0))) (Qaf g0 160 [(True,.exit 0,{sl:=[(19,.bool (fndB T lim n (fF cards rows) 512))]})]):=by
 have hg:=Qas rows
 have hc:=Qae cards
 have hT:=HfL_ar T
 refine Qa2 vE_ok mixed Qab (b:=at' 16 [1,1,1,1,1,1,1,1,1,1,1,1,1,0,1,0,0]) (by kernel_rfl) (fun k=>k≤512) (fun k=>saS cards rows T lim n k (fndB T lim n (fF cards rows) k)) (fun k=>512-k) (fun k hk=>?_) 0 (by decide)
 by_cases hlt:k<512
 ·have x1 := fun G t => @Qqr G t k hlt
  have x2:=fun G t=>@shr3_u G t k
  have x3:=fun G t=>@shr6_u G t k
  have x4:=fun G t=>@Qqr G t (k/8) (by omega)
  have x5:=fun G t=>@Qqr G t (k/64) (by omega)
  have x6:=fun G t=>@Qli G t k (3*n) (by omega)
  have hnm:wr .i64 (3*(n:Int))=((3*n:Nat):Int):=by rw[show(3:Int)*(n:Int)=((3*n:Nat):Int)by omega];exact wr6 (by omega) (by omega)
  have hsl:sliceV (Qad Pg) 52 (.sl 3 0 3 (some 0)) none (some ((n:Nat):Int)) none=some (.sl 3 0 n (some (3-n))):=by
   rcases(show n=1∨n=2∨n=3 by omega)with h|h|h<;>rw[h]<;>kernel_rfl
  have hpl:ut (pkL n k)=[u6 ((k%8:Nat):Int),u6 ((k/8%8:Nat):Int),u6 ((k/64%8:Nat):Int)].take n:=by
   unfold pkL ut;rw[List.map_take];rfl
  have hlen:=@pk_len n k (by omega)
  have hgr:=Qov 3 (by decide) (pkL n k) (fun x hx=>by
   obtain⟨i,hi,rfl⟩:=List.mem_iff_getElem.1 hx
   have:=@pk_lt n k i
   rw[List.getD_eq_getElem?_getD,List.getElem?_eq_getElem hi]at this
   simp only[Option.getD_some]at this;omega)
  rw[Qf2 (n:=n) (by decide) hlen (by omega)]at hgr
  have hul:ul (pkL n k)= .im n ([u6 ((k%8:Nat):Int),u6 ((k/8%8:Nat):Int),u6 ((k/64%8:Nat):Int)].take n):=by
   show V.im _ _=_;rw[hlen,hpl]
  rw[hul]at hgr
  have hgr:=FnOk.short1 n hgr
  have h32: ∀j,j<(pkL n k).length→(pkL n k).getD j 0<32:=fun j _=>Nat.lt_of_lt_of_le pk_lt (by decide)
  have e:=fnd_next T lim n (fF cards rows) k
  have hk1:k+1≤512:=hlt
  have hw64:wr .u64 ((k:Int)+1)=((k+1:Nat):Int):=Qe2 (by simp only[lo];omega) (by simp only[hi];omega)
  have hk2:512-(k+1)<512-k:=Nat.sub_lt_sub_left hlt (Nat.lt_succ_self k)
  by_cases c1:k/2^(3*n)=0
  ·rw [c1] at x6
   cases c2:fitsB n (pkL n k)with
   | true =>
    rw[c2]at hgr
    rcases first_big (pkL n k) lim with c3|⟨j,c3,c4,c5⟩
    ·have hcn := Ql3 (pkL n k) lim (by omega) h32 c3
     rw[hul]at hcn
     have hcn:=FnOk.short1 n hcn
     have hrk:=rank_of (by omega) hlt c2
     have hhit:=Qsd (T:=T) (F:=fF cards rows) c1 c2 (fun v hv=>c3 v (by omega))
     have hgl:gV' n (fun v=>(pkL n k).getD v 0)=ul (pkL n k):=by
      rw[gV_ul]
      refine congrArg ul (List.ext_getElem (by simp[hlen]) fun i h1 h2=>?_)
      rw[List.getElem_map,List.getElem_range,List.getD_eq_getElem?_getD,List.getElem?_eq_getElem h2];rfl
     obtain⟨c,s1,s2,s3,s4⟩:=Qpv (g:=fun v=>(pkL n k).getD v 0) (r:=rkL (pkL n k)) hgo h1 (by omega) hr hcl lim (by rw[←hn];exact hrk) (by rw[←hn];exact fun v hv=>c3 v (by omega))
     rw[←hn,hgl,hul]at s1
     simp only[←hn]at s2 s4
     rw[←hTe]at s2 s4
     have s1:=FnOk.short2 n s1
     have hh:hitB T lim n k (fF cards rows)=decide (c=0):=by
      apply Bool.eq_iff_iff.2
      rw[hhit,←s4,decide_eq_true_iff]
     rw[hh]at e
     generalize scG (fF cards rows) (fun v=>(pkL n k).getD v 0) (2^n-1) n=S at*
     clear s4 hh hhit hgl hrk hul hpl h32 c2 c3
     cases hfd:fndB T lim n (fF cards rows) k with
     |true=>
      rw[hfd,Bool.true_or]at e
      clear hfd
      generalize k%8=ka at*
      generalize k/8%8=kb at*
      generalize k/64%8=kc at*
      generalize k/8=k8 at*
      generalize k/64=k64 at*
      refine .inl ⟨k+1,[0,1,2],[yes 103,va 107 (u6 (ka:Nat)),va 109 (u6 (k8:Nat)),va 110 (u6 (kb:Nat)),va 112 (u6 (k64:Nat)),va 113 (u6 (kc:Nat)),va 116 (.sl 3 0 n (some (3-n))),nu 119 ((3*n:Nat):Int),va 120 (u6 ((0:Nat):Int)),fn 124 (.bool true),fn 130 (.bool false),fn 135 (.tup [ar S,i6 0]),fn 141 (.tup [i6 c,i6 0]),no 152,nu 105 ((k+1:Nat):Int)],1000,?_,?_,?_⟩
      ·exact hk1
      ·exact hk2
      rw[e]
      clear e
      refine Eq.mp (by kernel_rfl:(let z1:=[u6 ↑ka,u6 ↑kb,u6 ↑kc];let z2:=Qad Pg;let z3:=V.sl 3 0 n (some (3-n));let z4:=(↑(k+1):Int);let z5:=(↑n:Int);let z6:=[i6 ↑lim];let z0:=pt (ofOs Am.T.e 0 [gO cards rows,O.row 3 none z6,O.row 41 none (arF T)]) 3 (O.row 28 none z1);An [decide ((↑k:Int)<(512:Int))=true,binV z2 .and 28 (u6 ↑k) (u6 7)=some (u6 ↑ka),binV z2 .shr 28 (u6 ↑k) (u6 3)=some (u6 ↑k8),binV z2 .and 28 (u6 ↑k8) (u6 7)=some (u6 ↑kb),binV z2 .shr 28 (u6 ↑k) (u6 6)=some (u6 ↑k64),binV z2 .and 28 (u6 ↑k64) (u6 7)=some (u6 ↑kc),sliceV z2 52 (V.sl 3 0 3 (some 0)) none (some z5) none=some z3,wr .i64 ((3:Int)*z5)=(↑(3*n):Int),binV z2 .shr 28 (u6 ↑k) (i6 ↑(3*n))=some (u6 ↑(0:Nat)),An [TT 3,Tt,Tt],FnOk Pg g0 67 [V.im n z1,i6 3] (V.bool true),Tt,An [TT 3,An [An [Tt,Tt],Tt],Tt],FnOk Pg g0 68 [V.im n z1,V.fn 69 [V.imp z6]] (V.bool false),An [(V.fn 67 []=V.fn 68 []→[z3,i6 3]=[z3,V.fn 69 [V.ptr 1 0]]→z0=z0→3+1=4→CR.mk (V.bool true) z0 4 []=CR.mk (V.bool false) z0 4 []),Tt],An [TT 2,TT 3,Tt],FnOk Pg g0 28 [V.agg [V.im cards.length (ints cards),V.im rows.length (List.map sl rows)],V.im n z1] (V.tup [ar S,i6 0]),Tt,An [TT 18,TT 18,Tt],FnOk Pg g0 45 [V.agg (arF S),V.agg (arF T)] (V.tup [i6 c,i6 0]),Tt,decide (c>(0:Int))=false,wr .u64 ((↑k:Int)+(1:Int))=z4,An [Zz,z5=z5,Zz,Zz,Sm true,z4=z4,Tt],An [Sm [sl cards,gC rows],TT 2],An [z6=z6,Tt,Tt],An [Sm (arF T),TT 18],Tt])=_) ?_
      (repeat'(first|(with_reducible apply And.intro)|(refine fun(_:True)=>?_)))
      all_goals first|exact hgr|exact hcn|exact s1|exact s2|(with_reducible exact x1 _ _)|(with_reducible exact x2 _ _)|(with_reducible exact x3 _ _)|(with_reducible exact x4 _ _)|(with_reducible exact x5 _ _)|(with_reducible exact x6 _ _)|(with_reducible exact hnm)|(with_reducible exact hw64)|(with_reducible exact hsl)|exact hg|exact hc|exact hT|exact aq|(with_reducible rfl)|skip
     | false =>
      rw[hfd,Bool.false_or]at e
      clear hfd
      by_cases c0:c=0
      ·subst c0
       rw[show decide ((0:Int)=0)=true from rfl]at e
       generalize k%8=ka at*
       generalize k/8%8=kb at*
       generalize k/64%8=kc at*
       generalize k/8=k8 at*
       generalize k/64=k64 at*
       refine .inl ⟨k+1,[0,1,2],[yes 103,va 107 (u6 (ka:Nat)),va 109 (u6 (k8:Nat)),va 110 (u6 (kb:Nat)),va 112 (u6 (k64:Nat)),va 113 (u6 (kc:Nat)),va 116 (.sl 3 0 n (some (3-n))),nu 119 ((3*n:Nat):Int),va 120 (u6 ((0:Nat):Int)),fn 124 (.bool true),fn 130 (.bool false),fn 135 (.tup [ar S,i6 0]),fn 141 (.tup [i6 0,i6 0]),nu 105 ((k+1:Nat):Int)],1000,?_,?_,?_⟩
       ·exact hk1
       ·exact hk2
       rw[e]
       clear e
       refine Eq.mp (by kernel_rfl:(let z1:=[u6 ↑ka,u6 ↑kb,u6 ↑kc];let z2:=Qad Pg;let z3:=V.sl 3 0 n (some (3-n));let z4:=(↑(k+1):Int);let z5:=(↑n:Int);let z6:=[i6 ↑lim];let z0:=pt (ofOs Am.T.e 0 [gO cards rows,O.row 3 none z6,O.row 41 none (arF T)]) 3 (O.row 28 none z1);An [decide ((↑k:Int)<(512:Int))=true,binV z2 .and 28 (u6 ↑k) (u6 7)=some (u6 ↑ka),binV z2 .shr 28 (u6 ↑k) (u6 3)=some (u6 ↑k8),binV z2 .and 28 (u6 ↑k8) (u6 7)=some (u6 ↑kb),binV z2 .shr 28 (u6 ↑k) (u6 6)=some (u6 ↑k64),binV z2 .and 28 (u6 ↑k64) (u6 7)=some (u6 ↑kc),sliceV z2 52 (V.sl 3 0 3 (some 0)) none (some z5) none=some z3,wr .i64 ((3:Int)*z5)=(↑(3*n):Int),binV z2 .shr 28 (u6 ↑k) (i6 ↑(3*n))=some (u6 ↑(0:Nat)),An [TT 3,Tt,Tt],FnOk Pg g0 67 [V.im n z1,i6 3] (V.bool true),Tt,An [TT 3,An [An [Tt,Tt],Tt],Tt],FnOk Pg g0 68 [V.im n z1,V.fn 69 [V.imp z6]] (V.bool false),An [(V.fn 67 []=V.fn 68 []→[z3,i6 3]=[z3,V.fn 69 [V.ptr 1 0]]→z0=z0→3+1=4→CR.mk (V.bool true) z0 4 []=CR.mk (V.bool false) z0 4 []),Tt],An [TT 2,TT 3,Tt],FnOk Pg g0 28 [V.agg [V.im cards.length (ints cards),V.im rows.length (List.map sl rows)],V.im n z1] (V.tup [ar S,i6 0]),Tt,An [TT 18,TT 18,Tt],FnOk Pg g0 45 [V.agg (arF S),V.agg (arF T)] (V.tup [i6 0,i6 0]),Tt,wr .u64 ((↑k:Int)+(1:Int))=z4,An [Zz,z5=z5,Zz,Zz,true=((0:Int)==(0:Int)),z4=z4,Tt],An [Sm [sl cards,gC rows],TT 2],An [z6=z6,Tt,Tt],An [Sm (arF T),TT 18],Tt])=_) ?_
       (repeat'(first|(with_reducible apply And.intro)|(refine fun(_:True)=>?_)))
       all_goals first|exact hgr|exact hcn|exact s1|exact s2|(with_reducible exact x1 _ _)|(with_reducible exact x2 _ _)|(with_reducible exact x3 _ _)|(with_reducible exact x4 _ _)|(with_reducible exact x5 _ _)|(with_reducible exact x6 _ _)|(with_reducible exact hnm)|(with_reducible exact hw64)|(with_reducible exact hsl)|exact hg|exact hc|exact hT|exact aq|(with_reducible rfl)|skip
      ·rw [decide_eq_false c0] at e
       generalize k%8=ka at*
       generalize k/8%8=kb at*
       generalize k/64%8=kc at*
       generalize k/8=k8 at*
       generalize k/64=k64 at*
       refine .inl ⟨k+1,[0,1,2],[yes 103,va 107 (u6 (ka:Nat)),va 109 (u6 (k8:Nat)),va 110 (u6 (kb:Nat)),va 112 (u6 (k64:Nat)),va 113 (u6 (kc:Nat)),va 116 (.sl 3 0 n (some (3-n))),nu 119 ((3*n:Nat):Int),va 120 (u6 ((0:Nat):Int)),fn 124 (.bool true),fn 130 (.bool false),fn 135 (.tup [ar S,i6 0]),fn 141 (.tup [i6 c,i6 0]),no 152,no 157,nu 105 ((k+1:Nat):Int)],1000,?_,?_,?_⟩
       ·exact hk1
       ·exact hk2
       rw[e]
       clear e
       refine Eq.mp (by kernel_rfl:(let z1:=[u6 ↑ka,u6 ↑kb,u6 ↑kc];let z2:=Qad Pg;let z3:=V.sl 3 0 n (some (3-n));let z4:=(↑(k+1):Int);let z5:=(↑n:Int);let z6:=[i6 ↑lim];let z0:=pt (ofOs Am.T.e 0 [gO cards rows,O.row 3 none z6,O.row 41 none (arF T)]) 3 (O.row 28 none z1);An [decide ((↑k:Int)<(512:Int))=true,binV z2 .and 28 (u6 ↑k) (u6 7)=some (u6 ↑ka),binV z2 .shr 28 (u6 ↑k) (u6 3)=some (u6 ↑k8),binV z2 .and 28 (u6 ↑k8) (u6 7)=some (u6 ↑kb),binV z2 .shr 28 (u6 ↑k) (u6 6)=some (u6 ↑k64),binV z2 .and 28 (u6 ↑k64) (u6 7)=some (u6 ↑kc),sliceV z2 52 (V.sl 3 0 3 (some 0)) none (some z5) none=some z3,wr .i64 ((3:Int)*z5)=(↑(3*n):Int),binV z2 .shr 28 (u6 ↑k) (i6 ↑(3*n))=some (u6 ↑(0:Nat)),An [TT 3,Tt,Tt],FnOk Pg g0 67 [V.im n z1,i6 3] (V.bool true),Tt,An [TT 3,An [An [Tt,Tt],Tt],Tt],FnOk Pg g0 68 [V.im n z1,V.fn 69 [V.imp z6]] (V.bool false),An [(V.fn 67 []=V.fn 68 []→[z3,i6 3]=[z3,V.fn 69 [V.ptr 1 0]]→z0=z0→3+1=4→CR.mk (V.bool true) z0 4 []=CR.mk (V.bool false) z0 4 []),Tt],An [TT 2,TT 3,Tt],FnOk Pg g0 28 [V.agg [V.im cards.length (ints cards),V.im rows.length (List.map sl rows)],V.im n z1] (V.tup [ar S,i6 0]),Tt,An [TT 18,TT 18,Tt],FnOk Pg g0 45 [V.agg (arF S),V.agg (arF T)] (V.tup [i6 c,i6 0]),Tt,decide (c>(0:Int))=false,(c==(0:Int))=false,wr .u64 ((↑k:Int)+(1:Int))=z4,An [Zz,z5=z5,Zz,Zz,Sm false,z4=z4,Tt],An [Sm [sl cards,gC rows],TT 2],An [z6=z6,Tt,Tt],An [Sm (arF T),TT 18],Tt])=_) ?_
       (repeat'(first|(with_reducible apply And.intro)|(refine fun(_:True)=>?_)))
       all_goals first|exact hgr|exact hcn|exact s1|exact s2|(with_reducible exact x1 _ _)|(with_reducible exact x2 _ _)|(with_reducible exact x3 _ _)|(with_reducible exact x4 _ _)|(with_reducible exact x5 _ _)|(with_reducible exact x6 _ _)|(with_reducible exact hnm)|(with_reducible exact hw64)|(with_reducible exact hsl)|exact hg|exact hc|exact hT|exact aq|(with_reducible rfl)|skip
    ·have hcy := Qj6 (pkL n k) lim j (by omega) h32 c3 c4 c5
     rw[hul]at hcy
     have hcy:=FnOk.short1 n hcy
     rw[hit_no3 (by omega) c5,Bool.or_false]at e
     clear c4 c5 h32 hul hpl c2 c3
     generalize k%8=ka at*
     generalize k/8%8=kb at*
     generalize k/64%8=kc at*
     generalize k/8=k8 at*
     generalize k/64=k64 at*
     refine .inl ⟨k+1,[0,1,2],[yes 103,va 107 (u6 (ka:Nat)),va 109 (u6 (k8:Nat)),va 110 (u6 (kb:Nat)),va 112 (u6 (k64:Nat)),va 113 (u6 (kc:Nat)),va 116 (.sl 3 0 n (some (3-n))),nu 119 ((3*n:Nat):Int),va 120 (u6 ((0:Nat):Int)),fn 124 (.bool true),fn 130 (.bool true),nu 105 ((k+1:Nat):Int)],1000,?_,?_,?_⟩
     ·exact hk1
     ·exact hk2
     rw[e]
     generalize fndB T lim n (fF cards rows) k=fd at*
     clear e
     refine Eq.mp (by kernel_rfl:(let z1:=[u6 ↑ka,u6 ↑kb,u6 ↑kc];let z2:=Qad Pg;let z3:=V.sl 3 0 n (some (3-n));let z4:=V.bool true;let z5:=(↑(k+1):Int);let z6:=(↑n:Int);let z7:=[i6 ↑lim];let z0:=pt (ofOs Am.T.e 0 [gO cards rows,O.row 3 none z7,O.row 41 none (arF T)]) 3 (O.row 28 none z1);An [decide ((↑k:Int)<(512:Int))=true,binV z2 .and 28 (u6 ↑k) (u6 7)=some (u6 ↑ka),binV z2 .shr 28 (u6 ↑k) (u6 3)=some (u6 ↑k8),binV z2 .and 28 (u6 ↑k8) (u6 7)=some (u6 ↑kb),binV z2 .shr 28 (u6 ↑k) (u6 6)=some (u6 ↑k64),binV z2 .and 28 (u6 ↑k64) (u6 7)=some (u6 ↑kc),sliceV z2 52 (V.sl 3 0 3 (some 0)) none (some z6) none=some z3,wr .i64 ((3:Int)*z6)=(↑(3*n):Int),binV z2 .shr 28 (u6 ↑k) (i6 ↑(3*n))=some (u6 ↑(0:Nat)),An [TT 3,Tt,Tt],FnOk Pg g0 67 [V.im n z1,i6 3] z4,Tt,An [TT 3,An [An [Tt,Tt],Tt],Tt],FnOk Pg g0 68 [V.im n z1,V.fn 69 [V.imp z7]] z4,An [(V.fn 67 []=V.fn 68 []→[z3,i6 3]=[z3,V.fn 69 [V.ptr 1 0]]→z0=z0→3+1=4→Sm (CR.mk z4 z0 4 [])),Tt],wr .u64 ((↑k:Int)+(1:Int))=z5,An [Zz,z6=z6,Zz,Zz,fd=fd,z5=z5,Tt],An [Sm [sl cards,gC rows],TT 2],An [z7=z7,Tt,Tt],An [Sm (arF T),TT 18],Tt])=_) ?_
     (repeat'(first|(with_reducible apply And.intro)|(refine fun(_:True)=>?_)))
     all_goals first|exact hgr|exact hcy|(with_reducible exact x1 _ _)|(with_reducible exact x2 _ _)|(with_reducible exact x3 _ _)|(with_reducible exact x4 _ _)|(with_reducible exact x5 _ _)|(with_reducible exact x6 _ _)|(with_reducible exact hnm)|(with_reducible exact hw64)|(with_reducible exact hsl)|exact hg|exact hc|exact hT|exact aq|(with_reducible rfl)|skip
   |false=>
    rw[c2]at hgr
    rw[hit_no2 c2,Bool.or_false]at e
    clear hul hpl h32 c2
    generalize k%8=ka at*
    generalize k/8%8=kb at*
    generalize k/64%8=kc at*
    generalize k/8=k8 at*
    generalize k/64=k64 at*
    refine .inl ⟨k+1,[0,1,2],[yes 103,va 107 (u6 (ka:Nat)),va 109 (u6 (k8:Nat)),va 110 (u6 (kb:Nat)),va 112 (u6 (k64:Nat)),va 113 (u6 (kc:Nat)),va 116 (.sl 3 0 n (some (3-n))),nu 119 ((3*n:Nat):Int),va 120 (u6 ((0:Nat):Int)),fn 124 (.bool false),nu 105 ((k+1:Nat):Int)],1000,?_,?_,?_⟩
    ·exact hk1
    ·exact hk2
    rw[e]
    generalize fndB T lim n (fF cards rows) k=fd at*
    clear e
    refine Eq.mp (by kernel_rfl:(let z0:=Qad Pg;let z1:=(↑(k+1):Int);let z2:=(↑n:Int);An [decide ((↑k:Int)<(512:Int))=true,binV z0 .and 28 (u6 ↑k) (u6 7)=some (u6 ↑ka),binV z0 .shr 28 (u6 ↑k) (u6 3)=some (u6 ↑k8),binV z0 .and 28 (u6 ↑k8) (u6 7)=some (u6 ↑kb),binV z0 .shr 28 (u6 ↑k) (u6 6)=some (u6 ↑k64),binV z0 .and 28 (u6 ↑k64) (u6 7)=some (u6 ↑kc),sliceV z0 52 (V.sl 3 0 3 (some 0)) none (some z2) none=some (V.sl 3 0 n (some (3-n))),wr .i64 ((3:Int)*z2)=(↑(3*n):Int),binV z0 .shr 28 (u6 ↑k) (i6 ↑(3*n))=some (u6 ↑(0:Nat)),An [TT 3,Tt,Tt],FnOk Pg g0 67 [V.im n [u6 ↑ka,u6 ↑kb,u6 ↑kc],i6 3] (V.bool false),Tt,wr .u64 ((↑k:Int)+(1:Int))=z1,An [Zz,z2=z2,Zz,Zz,fd=fd,z1=z1,Tt],An [Sm [sl cards,gC rows],TT 2],An [Sm [i6 ↑lim],Tt,Tt],An [Sm (arF T),TT 18],Tt])=_) ?_
    (repeat'(first|(with_reducible apply And.intro)|(refine fun(_:True)=>?_)))
    all_goals first|exact hgr|(with_reducible exact x1 _ _)|(with_reducible exact x2 _ _)|(with_reducible exact x3 _ _)|(with_reducible exact x4 _ _)|(with_reducible exact x5 _ _)|(with_reducible exact x6 _ _)|(with_reducible exact hnm)|(with_reducible exact hw64)|(with_reducible exact hsl)|exact hg|exact hc|exact hT|exact aq|(with_reducible rfl)|skip
  ·rw [hit_no1 c1, Bool.or_false] at e
   clear hul hpl h32 hgr
   generalize k/2^(3*n)=kn at*
   generalize k%8=ka at*
   generalize k/8%8=kb at*
   generalize k/64%8=kc at*
   generalize k/8=k8 at*
   generalize k/64=k64 at*
   refine .inl ⟨k+1,[0,1,2],[yes 103,va 107 (u6 (ka:Nat)),va 109 (u6 (k8:Nat)),va 110 (u6 (kb:Nat)),va 112 (u6 (k64:Nat)),va 113 (u6 (kc:Nat)),va 116 (.sl 3 0 n (some (3-n))),nu 119 ((3*n:Nat):Int),va 120 (u6 (kn:Nat)),yes 121,nu 105 ((k+1:Nat):Int)],1000,?_,?_,?_⟩
   ·exact hk1
   ·exact hk2
   rw[e]
   generalize fndB T lim n (fF cards rows) k=fd at*
   clear e
   refine Eq.mp (by kernel_rfl:(let z0:=Qad Pg;let z1:=(↑(k+1):Int);let z2:=(↑n:Int);An [decide ((↑k:Int)<(512:Int))=true,binV z0 .and 28 (u6 ↑k) (u6 7)=some (u6 ↑ka),binV z0 .shr 28 (u6 ↑k) (u6 3)=some (u6 ↑k8),binV z0 .and 28 (u6 ↑k8) (u6 7)=some (u6 ↑kb),binV z0 .shr 28 (u6 ↑k) (u6 6)=some (u6 ↑k64),binV z0 .and 28 (u6 ↑k64) (u6 7)=some (u6 ↑kc),sliceV z0 52 (V.sl 3 0 3 (some 0)) none (some z2) none=some (V.sl 3 0 n (some (3-n))),wr .i64 ((3:Int)*z2)=(↑(3*n):Int),binV z0 .shr 28 (u6 ↑k) (i6 ↑(3*n))=some (u6 ↑kn),((↑kn:Int) != (0:Int))=true,wr .u64 ((↑k:Int)+(1:Int))=z1,An [Zz,z2=z2,Zz,Zz,fd=fd,z1=z1,Tt],An [Sm [sl cards,gC rows],TT 2],An [Sm [i6 ↑lim],Tt,Tt],An [Sm (arF T),TT 18],Tt])=_) ?_
   (repeat'(first|(with_reducible apply And.intro)|(refine fun(_:True)=>?_)))
   all_goals first|(with_reducible exact x1 _ _)|(with_reducible exact x2 _ _)|(with_reducible exact x3 _ _)|(with_reducible exact x4 _ _)|(with_reducible exact x5 _ _)|(with_reducible exact x6 _ _)|(with_reducible exact hnm)|(with_reducible exact hw64)|(with_reducible exact hsl)|exact hg|exact hc|exact hT|exact aq|(with_reducible rfl)|skip
 ·have : k = 512 := by omega
  subst this
  refine .inr ⟨.exit 0,[],{sl:=[(19,.bool (fndB T lim n (fF cards rows) 512))]},[no 103],1000,.inl ⟨trivial,rfl,rfl⟩,?_⟩
  generalize fndB T lim n (fF cards rows) 512=fd at*
  refine Eq.mp (by kernel_rfl:(An [decide ((↑(512:Nat):Int)<(512:Int))=false,An [fd=fd,Tt],Tt])=_) ?_
  (repeat'(first|(with_reducible apply And.intro)|(refine fun(_:True)=>?_)))
  all_goals first|exact hg|exact hc|exact hT|exact aq|(with_reducible rfl)|skip
open Go.RowKit Go.ChangeShapes Go.WideShapes
set_option maxRecDepth 100000
theorem wf8n{n:Int}(h:(Lit.int .u8 n).wf=true): ∃m:Nat,n=m∧m<256:=by
 have:=wf8 h
 exact⟨n.toNat,by omega,by omega⟩
section
variable {H:Type} {enc:TypeId×Value→H} {w:World}
end
set_option maxHeartbeats 4000000
set_option maxRecDepth 100000
abbrev r8F(f:Nat→Nat)(n:Nat):List V:=blF (fun i=>[w8 (f i:Nat)]) n
theorem Qqm(f:Nat→Nat)(n:Nat):HfL (r8F f n):=Qfd (f:=fun i=>[w8 (f i:Nat)]) (fun k=>⟨trivial,trivial⟩) n
def drL(N:Nat)(a b:Nat→Nat):List V:=w8 (N:Nat)::(r8F a 32++r8F b 32)
abbrev drW(N:Nat)(a b:Nat→Nat):V:=.agg (drL N a b)
theorem Qh6(N:Nat)(a b:Nat→Nat):HfL (drL N a b):=⟨trivial,Qlu (Qqm a 32) (Qqm b 32)⟩
theorem Qtc(f:Nat→Nat){n k:Nat}(h:k<n):(r8F f n)[k]? =some (w8 (f k:Nat)):=by
 have:=Qih (f:=fun i=>[w8 (f i:Nat)]) (s:=1) (fun _=>rfl) h
 rw[Nat.mul_one]at this
 have h2:(r8F f n)[k]? =((r8F f n).drop k)[0]? :=by rw[List.getElem?_drop];rfl
 rw[h2,this];rfl
theorem Qi6(f:Nat→Nat)(n:Nat):(r8F f n).length=n:=by
 have:=Qco (f:=fun i=>[w8 (f i:Nat)]) (s:=1) (fun _=>rfl) n
 rwa [Nat.mul_one]at this
theorem Qsb{l:List V}{k:Nat}{v:V}(h:l[k]? =some v):headF (dropF k l)=some v:=by
 rw[Qat]
 obtain⟨hk,e⟩:=List.getElem?_eq_some_iff.1 h
 rw[List.drop_eq_getElem_cons hk,e];rfl
theorem head_drA{N:Nat}{a b:Nat→Nat}{k:Nat}(h:k<32):headF (dropF (1+k) (drL N a b))=some (w8 (a k:Nat)):=by
 refine Qsb ?_
 unfold drL
 rw[Nat.add_comm 1 k,List.getElem?_cons_succ,List.getElem?_append_left (by rw[Qi6];exact h)]
 exact Qtc a h
theorem head_drB{N:Nat}{a b:Nat→Nat}{k:Nat}(h:k<32):headF (dropF (33+k) (drL N a b))=some (w8 (b k:Nat)):=by
 refine Qsb ?_
 unfold drL
 rw[show 33+k=(32+k)+1 by omega,List.getElem?_cons_succ,List.getElem?_append_right (by rw[Qi6];omega),Qi6,show 32+k-32=k by omega]
 exact Qtc b h
theorem Qs8{g o k:Nat}(h:k<32):placeV (Qad Pg) 99 (.ptr g o) (k:Int)=some (.ptr g (o+k)):=by
 have e:placeV (Qad Pg) 99 (.ptr g o) (k:Int)=(if 0≤(k:Int)∧(k:Int)<((32:Nat):Int)then Qfh (.ptr g o) ((k:Int).toNat*1)else none):=by kernel_rfl
 rw[e,if_pos (by omega)]
 simp[Qfh]
section
variable (N:Nat) (a b:Nat→Nat) (n size:Nat) (la pa:Nat→Nat)
abbrev dlO:List O:=[.row 101 none (drL N a b),.row 77 none [.nils,.nils],.row 77 none [.sl 3 0 size (some (size-size)),.sl 4 0 size (some (size-size))],.row 3 none (nF la size),.row 28 none (uF pa size)]
abbrev dlS(s:Nat):SL:={sl:=[(1,i6 (n:Nat)),(2,.ptr 0 0),(4,.ptr 1 0),(5,.ptr 2 0),(6,u6 (s:Nat))],os:=dlO N a b size la pa,md:=[0,0,1]}
abbrev dlI(s v:Nat):SL:={sl:=[(1,i6 (n:Nat)),(2,.ptr 0 0),(4,.ptr 1 0),(5,.ptr 2 0),(6,u6 (s:Nat)),(7,i6 (v:Nat))],os:=dlO N a b size la pa,md:=[0,0,1]}
abbrev dlX:SL:={sl:=[(4,.ptr 0 0),(5,.ptr 1 0)],os:=[.row 77 none [.nils,.nils],.row 77 none [.im size (nF la size),.im size (uF pa size)]],md:=[0,1]}
end
theorem dl_in(N:Nat)(a b:Nat→Nat)(n size:Nat)(la pa:Nat→Nat)(h1:1≤n)(h5:n≤5)(s v0:Nat)(h0:0<s)(hs:s<2^n)(hv0:v0<n):
  Sat Pg none 0 (at' 53 [1,1,0,1,0,0,1,0,0,1,0,0]) (mkSt g0 56 (dlI N a b n size la pa s v0)) (Qaf g0 56 [(True,.exit 2,dlI N a b n size la pa s (drV n s 5 v0))]):=by
 have hd:=Qh6 N a b
 have hla:=Qah la size
 have hpa:=Qag pa size
 have h32:=Qaq h5
 obtain⟨t1,t2⟩:=Qrb h1 h5 h0 hs hv0
 generalize hT:drV n s 5 v0=T at*
 refine Qa2 vE_ok mixed Qab (b:=at' 53 [1,1,0,1,0,0,1,0,0,1,0,0,0]) (by kernel_rfl) (fun x:Nat×Nat=>x.1<n∧drV n s x.2 x.1=T) (fun x=>dlI N a b n size la pa s x.1) (fun x=>x.2) (fun x hx=>?_) (v0,5) ⟨hv0,hT⟩
 obtain⟨v,f⟩:=x
 obtain⟨hv,hx⟩:=hx
 dsimp only at hv hx
 have hin:=in29 s v (by omega)
 cases hb:s.testBit v with
 | true =>
  have e:v=T:=by
   rw[←hx]
   cases f with
   |zero=>rfl
   |succ f=>unfold drV;rw[if_pos hb]
  subst e
  rw[hb]at hin
  refine .inr ⟨.exit 2,[0,1,2,3,4],dlI N a b n size la pa s v,[fn 30 (.bool true)],1000,.inl ⟨trivial,rfl,rfl⟩,?_⟩
  clear hT t1 t2 hx hb
  refine Eq.mp (by kernel_rfl:(let z0:=An [Zz,Sm size,Sm (size-size)];An [TT 2,FnOk Pg g0 95 [u6 ↑s,i6 ↑v] (V.bool true),Tt,An [Sm (↑n:Int),Zz,Zz,Zz,Sm (↑s:Int),Sm (↑v:Int),Tt],An [Sm (drL N a b),TT 65],An [Sm [V.nils,V.nils],TT 2],An [z0,z0,Tt],An [Sm (nF la size),HfL (nF la size)],An [Sm (uF pa size),HfL (uF pa size)],Tt])=_) ?_
  (repeat'(first|(with_reducible apply And.intro)|(refine fun(_:True)=>?_)))
  all_goals first|exact hin|exact hd|exact hla|exact hpa|exact aq|rfl|skip
 | false =>
  rw[hb]at hin
  cases f with
  |zero=>
   have:v=T:=hx
   rw[this,t1]at hb;cases hb
  | succ f =>
   have hx2:drV n s f ((v+1)%n)=T:=by
    rw[←hx,drV,hb];rfl
   have hlt:(v+1)%n<n:=Nat.mod_lt _ (by omega)
   have hrem:binV (Qad Pg) .rem 3 (i6 ((v+1:Nat):Int)) (i6 (n:Nat))=some (i6 (((v+1)%n:Nat):Int)):=by rw[rem6 (by omega),Qjj]
   generalize (v+1)%n=w at*
   refine .inl ⟨(w,f),[0,1,2,3,4],[fn 30 (.bool false),nu 33 ((v+1:Nat):Int),va 35 (i6 (w:Nat))],1000,⟨hlt,hx2⟩,by dsimp only;omega,?_⟩
   clear hT t1 t2 hx hx2 hb
   refine Eq.mp (by kernel_rfl:(let z0:=An [Zz,Sm size,Sm (size-size)];An [TT 2,FnOk Pg g0 95 [u6 ↑s,i6 ↑v] (V.bool false),Tt,wr .i64 ((↑v:Int)+(1:Int))=(↑(v+1):Int),binV (Qad Pg) .rem 3 (i6 ↑(v+1)) (i6 ↑n)=some (i6 ↑w),An [Sm (↑n:Int),Zz,Zz,Zz,Sm (↑s:Int),Sm (↑w:Int),Tt],An [Sm (drL N a b),TT 65],An [Sm [V.nils,V.nils],TT 2],An [z0,z0,Tt],An [Sm (nF la size),HfL (nF la size)],An [Sm (uF pa size),HfL (uF pa size)],Tt])=_) ?_
   (repeat'(first|(with_reducible apply And.intro)|(refine fun(_:True)=>?_)))
   all_goals first|exact hin|(with_reducible exact hrem)|exact hd|exact hla|exact hpa|exact aq|rfl|skip
theorem dl_out(N:Nat)(a b:Nat→Nat)(n:Nat)(h1:1≤n)(h5:n≤5)(ha: ∀k,a k<256)(hb: ∀k,b k<256):
  Sat Pg none 0 (at' 53 [1,1,0,1,0]) (mkSt g0 56 (dlS N a b n (2^n) (dlA n a 1) (dlB n a b 1) 1)) (Qaf g0 56 [(True,.exit 0,dlX (2^n) (dlA n a (2^n)) (dlB n a b (2^n)))]):=by
 have hd:=Qh6 N a b
 have hla:=fun la=>Qah la (2^n)
 have hpa:=fun pa=>Qag pa (2^n)
 have h32:=Qaq h5
 have hp:1≤2^n:=Nat.pow_pos (by decide)
 have sn:=fun G t=>@Qo1 G t n (by omega)
 refine Qa2 vE_ok mixed Qab (b:=at' 53 [1,1,0,1,0,0]) (by kernel_rfl) (fun s=>1≤s∧s≤2^n) (fun s=>dlS N a b n (2^n) (dlA n a s) (dlB n a b s) s) (fun s=>2^n-s) (fun s hs=>?_) 1 ⟨Nat.le_refl _,hp⟩
 obtain⟨hs1,hs2⟩:=hs
 by_cases hlt:s<2^n
 ·have hmod : a s % n < n := Nat.mod_lt _ (by omega)
  obtain⟨t1,t2⟩:=Qrb h1 h5 hs1 hlt hmod
  have hin:=dl_in N a b n (2^n) (dlA n a s) (dlB n a b s) h1 h5 s (a s%n) hs1 hlt hmod
  have hrem:binV (Qad Pg) .rem 3 (i6 (a s:Nat)) (i6 (n:Nat))=some (i6 ((a s%n:Nat):Int)):=by rw[rem6 (by omega),Qjj]
  have hpl:=@Qs8 0 1 s (by omega)
  have hpl2:=@Qs8 0 33 s (by omega)
  have hh1:=@head_drA N a b s (by omega)
  have hh2:=@head_drB N a b s (by omega)
  have y1:=@Qcs (dlA n a s) (2^n) s hlt (dlV n a s)
  rw[dlA_next n a hs1]at y1
  have y2:=@Qct (dlB n a b s) (2^n) s hlt (b s&&& (s-2^dlV n a s))
  rw[dlB_next n a b hs1]at y2
  have s1:=fun G t=>@and_u8 G t (b s) s (hb s) (by omega)
  have s2:=fun G t=>@Qo1 G t (dlV n a s) (by unfold dlV;omega)
  have s3:=fun G t=>@andn_u8 G t (b s) s (dlV n a s) (by omega) (by unfold dlV;omega) t1
  have hw1:=ha s
  have hw2:=hb s
  have hu1:wr .u64 ((b s:Nat):Int)=((b s:Nat):Int):=Qe2 (by simp only[lo];omega) (by simp only[hi];omega)
  have hu2:wr .u64 ((s:Int)+1)=((s+1:Nat):Int):=by rw[show(s:Int)+1=((s+1:Nat):Int)by omega];exact Qe2 (by simp only[lo];omega) (by simp only[hi];omega)
  rw[show drV n s 5 (a s%n)=dlV n a s from rfl]at hin t1 t2
  generalize dlV n a s=v at*
  generalize a s%n=v0 at*
  generalize hA:dlA n a s=A at*
  generalize hB:dlB n a b s=B at*
  generalize hA2:dlA n a (s+1)=A2 at*
  generalize hB2:dlB n a b (s+1)=B2 at*
  generalize hx1:a s=x1 at*
  generalize hx2:b s=x2 at*
  generalize hz1:x2&&& (s-2^v)=z1 at*
  generalize hz2:x2&&& s=z2 at*
  refine .inl ⟨s+1,[0,1,2,3,4],[va 17 (u6 ((2^n:Nat):Int)),yes 18,va 23 (.ptr 0 (1+s)),ld 24 (w8 (x1:Nat)),nu 25 (x1:Nat),va 27 (i6 (v0:Nat)),(0,.loop [0,1,2,3,4] (dlI N a b n (2^n) A B s v0) [(True,.exit 2,dlI N a b n (2^n) A B s v)]),pl 40,st (nF A2 (2^n)),va 46 (.ptr 0 (33+s)),ld 47 (w8 (x2:Nat)),nu 48 (x2:Nat),va 50 (u6 (z2:Nat)),va 52 (u6 ((2^v:Nat):Int)),va 53 (u6 (z1:Nat)),pl 54,st (uF B2 (2^n)),nu 20 ((s+1:Nat):Int)],1000,⟨by omega,by omega⟩,by omega,?_⟩
  ·rw [hA2, hB2]
   clear hA hB hA2 hB2 hx1 hx2 hz1 hz2 ha hb
   generalize hz:2^n=z at*
   generalize 2^v=pv at*
   clear hz
   refine Eq.mp (by kernel_rfl:(let z9:=Sm (z-z);let z0:=(↑s:Int);let z3:=Qad Pg;let z4:=[V.nils,V.nils];let z5:=drL N a b;let z6:=(↑(s+1):Int);let z7:=(↑n:Int);let z8:=(↑z:Int);An [binV z3 .shl 28 (u6 1) (i6 ↑n)=some (u6 ↑z),decide (z0<z8)=true,placeV z3 99 (V.ptr 0 1) z0=some (V.ptr 0 (1+s)),headF (dropF (1+s) z5)=some (w8 ↑x1),wr .i64 (↑x1:Int)=(↑x1:Int),binV z3 .rem 3 (i6 ↑x1) (i6 ↑n)=some (i6 ↑v0),An [An [z7=z7,Zz,Zz,Zz,z0=z0,Sm (↑v0:Int),Tt],An [z5=z5,TT 65],An [z4=z4,TT 2],An [An [Zz,z=z,z9],An [Zz,z=z,z9],Tt],An [Sm (nF A z),HfL (nF A z)],An [Sm (uF B z),HfL (uF B z)],Tt],Sat Pg none 0 (at' 53 [1,1,0,1,0,0,1,0,0,1,0,0]) (mkSt g0 56 (dlI N a b n z A B s v0)) (Qaf g0 56 [(True,Ex.exit 2,dlI N a b n z A B s v)]),(True→An [An [(0:Int)≤z0,z0<z8],layE (0+s*1) (nF A z) [i6 ↑v]=some (nF A2 z),placeV z3 99 (V.ptr 0 (0+33)) z0=some (V.ptr 0 (33+s)),headF (dropF (33+s) z5)=some (w8 ↑x2),wr .u64 (↑x2:Int)=(↑x2:Int),binV z3 .and 28 (u6 ↑x2) (u6 ↑s)=some (u6 ↑z2),binV z3 .shl 28 (u6 1) (i6 ↑v)=some (u6 ↑pv),binV z3 .andNot 28 (u6 ↑z2) (u6 ↑pv)=some (u6 ↑z1),An [(0:Int)≤z0,z0<z8],layE (0+s*1) (uF B z) [u6 ↑z1]=some (uF B2 z),wr .u64 (z0+(1:Int))=z6,An [z7=z7,Zz,Zz,Zz,z6=z6,Tt],An [z5=z5,TT 65],An [z4=z4,TT 2],An [An [Zz,z=z,z9],An [Zz,z=z,z9],Tt],An [Sm (nF A2 z),HfL (nF A2 z)],An [Sm (uF B2 z),HfL (uF B2 z)],Tt]),Tt])=_) ?_
   (repeat'(first|(with_reducible apply And.intro)|(refine fun(_:True)=>?_)))
   all_goals first|exact hin|(with_reducible exact hrem)|(with_reducible exact hpl)|(with_reducible exact hpl2)|(with_reducible exact hh1)|(with_reducible exact hh2)|(with_reducible exact y1)|(with_reducible exact y2)|(with_reducible exact s1 _ _)|(with_reducible exact s2 _ _)|(with_reducible exact s3 _ _)|(with_reducible exact sn _ _)|(with_reducible exact hu1)|(with_reducible exact hu2)|exact hd|(with_reducible exact hla _)|(with_reducible exact hpa _)|exact aq|rfl|skip
 ·have : s = 2 ^ n := by omega
  subst this
  generalize dlA n a (2^n)=A at*
  generalize dlB n a b (2^n)=B at*
  generalize 2^n=z at*
  refine .inr ⟨.exit 0,[1,2],dlX z A B,[va 17 (u6 (z:Nat)),no 18],1000,.inl ⟨trivial,rfl,rfl⟩,?_⟩
  refine Eq.mp (by kernel_rfl:(An [binV (Qad Pg) .shl 28 (u6 1) (i6 ↑n)=some (u6 ↑z),decide ((↑z:Int)<(↑z:Int))=false,An [Zz,Zz,Tt],An [Sm [V.nils,V.nils],TT 2],An [An [z=z,Sm (nF A z),HfL (nF A z)],An [z=z,Sm (uF B z),HfL (uF B z)],Tt],Tt])=_) ?_
  (repeat'(first|(with_reducible apply And.intro)|(refine fun(_:True)=>?_)))
  all_goals first|(with_reducible exact sn _ _)|(with_reducible exact hu1)|(with_reducible exact hu2)|exact hd|(with_reducible exact hla _)|(with_reducible exact hpa _)|exact aq|rfl|skip
theorem Qsm(N:Nat)(a b:Nat→Nat)(n:Nat)(h1:1≤n)(h5:n≤5)(ha: ∀k,a k<256)(hb: ∀k,b k<256):FnOk Pg g0 53 [drW N a b,i6 (n:Nat)] (lV (mkL (dlA n a (2^n)) n) (mkP (dlB n a b (2^n)) n)):=by
 have hl:=dl_out N a b n h1 h5 ha hb
 have e0:dlA n a 1=fun _=>0:=by funext i;unfold dlA;rw[if_neg (by omega)]
 have e1:dlB n a b 1=fun _=>0:=by funext i;unfold dlB;rw[if_neg (by omega)]
 rw[e0,e1]at hl
 clear e0 e1
 rw[←mk_V]
 have hd:=Qh6 N a b
 have h32:=Qaq h5
 have hp:1≤2^n:=Nat.pow_pos (by decide)
 have hs:=Qtr n (by omega)
 have hr1:=Qth (2^n)
 have hr2:=Qmr (2^n)
 have hn0:=Qah (fun _=>0) (2^n)
 have hu0:=Qag (fun _=>0) (2^n)
 generalize dlA n a (2^n)=A at*
 generalize dlB n a b (2^n)=B at*
 have hn1:=Qah A (2^n)
 have hu1:=Qag B (2^n)
 generalize 2^n=z at*
 refine FnOk.of_vc vE_ok mixed Qab (n:=1000) (r:=[0]) (S:={sl:=[(4,.ptr 0 0)],os:=[.row 77 none [.im z (nF A z),.im z (uF B z)]],md:=[1]}) (hs:=[va 9 (i6 (z:Nat)),mk 10,va 12 (i6 (z:Nat)),mk 13,(0,.loop [0,1,4,2,3] (dlS N a b n z (fun _=>0) (fun _=>0) 1) [(True,.exit 0,dlX z A B)])]) ?_
 refine Eq.mp (by kernel_rfl:(let z0:=(↑z:Int);let z1:=binV (Qad Pg) .shl 3 (i6 1) (i6 ↑n);let z2:=(9223372036854775807:Int);let z3:=(281474976710656:Int);An [V.agg [V.im z (nF A z),V.im z (uF B z)]=ldV z A B,z1=some (i6 ↑z),An [(0:Int)≤z0,z0≤z0,(↑(8:Nat):Int)*z0≤z3,z0≤z2],z1=some (i6 ↑z),An [(0:Int)≤z0,z0≤z0,(↑(8:Nat):Int)*z0≤z3,z0≤z2],An [An [Sm (↑n:Int),Zz,Zz,Zz,(↑(1:Nat):Int)=(1:Int),Tt],An [drL N a b=w8 ↑N::(r8F a 32++r8F b 32),TT 65],An [Sm [V.nils,V.nils],TT 2],An [An [Zz,z=z,Sm (z-z)],An [Zz,z=z,Sm (z-z)],Tt],An [nF (fun x=>0) z=rep z [i6 0],HfL (nF (fun x=>0) z)],An [uF (fun x=>0) z=rep z [u6 0],HfL (uF (fun x=>0) z)],Tt],Sat Pg none 0 (at' 53 [1,1,0,1,0]) (mkSt g0 56 (dlS N a b n z (fun x=>0) (fun x=>0) 1)) (Qaf g0 56 [(True,Ex.exit 0,dlX z A B)]),(True→An [An [Zz,Tt],An [An [z=z,Sm (nF A z)],An [z=z,Sm (uF B z)],Tt],Tt]),Tt])=_) ?_
 (repeat'(first|(with_reducible apply And.intro)|(refine fun(_:True)=>?_)))
 all_goals first|exact hl|(with_reducible exact hs _ _)|(with_reducible exact hr1)|(with_reducible exact hr2)|exact hd|exact hn0|exact hu0|exact hn1|exact hu1|exact aq|rfl|skip
open Go.RowKit Go.ChangeShapes Go.WideShapes
set_option maxRecDepth 100000
section
variable {H:Type} {enc:TypeId×Value→H} {w:World}
theorem r8F_of{ns:List Int}{n:Nat}(hl:ns.length=n)(h: ∀x∈ns,0≤x):r8F (fun k=>(ns.getD k 0).toNat) n=ns.map (V.int .u8):=by
 refine List.ext_getElem? fun i=>?_
 by_cases hi:i<n
 ·rw [Qtc _ hi, List.getElem?_map, List.getElem?_eq_getElem (by omega)]
  have hx:=h (ns[i]'(by omega)) (List.getElem_mem _)
  simp only[Option.map_some]
  rw[List.getD_eq_getElem?_getD,List.getElem?_eq_getElem (by omega)]
  simp only[Option.getD_some]
  rw[Int.toNat_of_nonneg hx]
 ·rw[List.getElem?_eq_none (by rw[Qi6];omega),List.getElem?_eq_none (by simp;omega)]
theorem arg_dr29{v:Value}{d:DataW H}{p:List MemPlace}(hv: ∃cs,v= .agg cs∧cs.size=Pg.cellsOf 101)(h:DataW.Trod enc Pg w 0 (fun _=>true) true 101 v d p):
  ∃(N:Nat)(a b:Nat→Nat),RV (sg (allB w)) w (drW N a b) v∧N<256∧(∀k,a k<256)∧(∀k,b k<256):=by
 obtain⟨arr,rfl,hsz⟩:=hv
 obtain⟨fuel,hf⟩:=h
 obtain⟨xs,n,_,_,hl,hlen,hfd⟩:=DataW.trod_struct Tryd.underlying101 hf
 have hc:Pg.cellsOf 101=65:=by kernel_rfl
 rw[hc]at hl
 have hcells:(Value.agg arr).cells.toList=arr.toList:=rfl
 rw[hcells]at hl hfd
 have hlen':xs.length=3:=hlen
 obtain⟨y0,y1,y2,rfl⟩: ∃y0 y1 y2,xs=[y0,y1,y2]:=by
  match xs,hlen' with
  |[y0,y1,y2],_=>exact⟨y0,y1,y2,rfl⟩
 have h5:Pg.cellsOf 5=1:=by kernel_rfl
 have h99:Pg.cellsOf 99=32:=by kernel_rfl
 have f0:DataW.trod enc Pg w 0 (fun _=>true) true n 5 (List.take (Pg.cellsOf 5) (List.drop 0 arr.toList))=some y0:=hfd 0 _ rfl
 have f1:DataW.trod enc Pg w 0 (fun _=>true) true n 99 (List.take (Pg.cellsOf 99) (List.drop 1 arr.toList))=some y1:=hfd 1 _ rfl
 have f2:DataW.trod enc Pg w 0 (fun _=>true) true n 99 (List.take (Pg.cellsOf 99) (List.drop 33 arr.toList))=some y2:=hfd 2 _ rfl
 rw[h5]at f0
 rw[h99]at f1 f2
 obtain⟨k0,e0,w0⟩:=trod_i Tryd.underlying5 (x:=y0) f0
 obtain⟨na,a1,a2,_,a4⟩:=Qe5 Tryd.underlying99 Tryd.underlying5 h5 h99 (x:=y1) f1
 obtain⟨nb,b1,b2,_,b4⟩:=Qe5 Tryd.underlying99 Tryd.underlying5 h5 h99 (x:=y2) f2
 have hk:=wf8 w0
 have hall:arr.toList=(k0::(na++nb)).map (Value.int .u8):=by
  generalize arr.toList=l at*
  have g0:l=List.take 1 l++(List.take 32 (List.drop 1 l)++List.take 32 (List.drop 33 l)):=by
   have e1:List.drop 33 l=List.drop 32 (List.drop 1 l):=by rw[List.drop_drop]
   have e2:List.take 32 (List.drop 33 l)=List.drop 33 l:=List.take_of_length_le (by rw[List.length_drop];omega)
   rw[e2,e1,List.take_append_drop,List.take_append_drop]
  rw[List.drop_zero]at e0
  rw[g0,e0,a2,b2]
  simp
 have hna: ∀x∈na,0≤x∧x≤255:=fun x hx=>wf8 (a4 x hx)
 have hnb: ∀x∈nb,0≤x∧x≤255:=fun x hx=>wf8 (b4 x hx)
 have bd: ∀(l:List Int),(∀x∈l,0≤x∧x≤255)→∀k,(l.getD k 0).toNat<256:=fun l hl k=>by
  by_cases hk:k<l.length
  ·rw [List.getD_eq_getElem?_getD, List.getElem?_eq_getElem hk]
   have:=hl _ (List.getElem_mem hk)
   simp only[Option.getD_some];omega
  ·rw[List.getD_eq_getElem?_getD,List.getElem?_eq_none (by omega)];decide
 refine⟨k0.toNat,fun k=>(na.getD k 0).toNat,fun k=>(nb.getD k 0).toNat,⟨arr,rfl,?_⟩,by omega,bd na hna,bd nb hnb⟩
 rw[hall]
 have e:drL k0.toNat (fun k=>(na.getD k 0).toNat) (fun k=>(nb.getD k 0).toNat)=(k0::(na++nb)).map (V.int .u8):=by
  unfold drL
  rw[r8F_of a1 fun x hx=>(hna x hx).1,r8F_of b1 fun x hx=>(hnb x hx).1,Int.toNat_of_nonneg hk.1]
  simp
 rw[e]
 exact RL_map _
end
set_option maxHeartbeats 4000000
set_option maxRecDepth 100000
theorem fnd_true{cards:List Int}{rows:List (List Int)}{lim n:Nat}{T:Nat→Int}(hn:n=cards.length)(h1:1≤n)(h3:n≤3){g r:Nat→Nat}(hrk:Qjn n g r)(hl: ∀v,popc (g v)≤lim)(hs: ∀i,i<18→scG (fF cards rows) g (2^n-1) n i=T i):fndB T lim n (fF cards rows) 512=true:=by
 have hg8: ∀v,v<n→g v<8:=fun v hv=>by
  have:=(hrk v hv).1
  have:2^n≤2^3:=Nat.pow_le_pow_right (by decide) h3
  omega
 obtain⟨k1,k2,k3⟩:=cod9_ok h1 h3 hg8
 unfold fndB
 rw[List.any_eq_true]
 refine⟨cod9 n g,List.mem_range.2 k1,?_⟩
 have hat: ∀v,v<n→(pkL n (cod9 n g)).getD v 0=g v:=fun v hv=>by rw[k3];exact Qe7 hv
 refine(Qsd k2 (by rw[k3];exact Qdc h1 (by omega) hrk) (fun v hv=>by rw[hat v hv];exact hl v)).2 fun i hi=>?_
 rw[←hs i hi]
 exact congrFun (Qeh n (fun v _=>rfl) (fun v hv _=>hat v hv)) i
theorem cut8(C:List Int):sliceV (Qad Pg) 22 (sl8 C) none (some ((min C.length 3:Nat):Int)) none=some (sl8 (C.take 3)):=by
 have ht:(Qad Pg).ty 22=some {desc:=.slice 5,size:=1,bytes:=24,agg:=false,zero:=some [.nils]}:=by kernel_rfl
 have ht5:(Qad Pg).ty 5=some {desc:=.int .u8,size:=1,bytes:=1,agg:=false,zero:=some [.int .u8 0]}:=by kernel_rfl
 unfold sliceV
 rw[ht]
 dsimp only
 rw[ht5]
 dsimp only[Option.getD_none,Option.getD_some,Option.isNone_none]
 rw[if_pos ⟨Int.le_refl 0,by omega,by omega,rfl⟩]
 by_cases h:C=[]
 ·subst h;rfl
 ·have hl : 1 ≤ C.length := Nat.pos_of_ne_zero (fun h0 => h (List.eq_nil_of_length_eq_zero h0))
  rw[if_neg (by omega)]
  show some (V.im _ _)=some (V.im _ _)
  rw[List.length_take]
  simp only[Int.toNat_natCast,Int.toNat_zero,Nat.sub_zero,List.drop_zero,Nat.mul_one,List.map_take]
  have e2:List.take (min 3 C.length) (C.map w8)=List.take 3 (C.map w8):=by
   rw[←List.take_take,List.take_of_length_le (l:=C.map w8) (by simp)]
  rw[Nat.min_comm C.length 3,e2]
theorem Qtj(C:List Int)(ks:List (Nat→Int))(fo:Int)(M:List Int)(N:Nat)(la pa:Nat→Nat)(x:Nat)(h:DrOk C ks fo M)(hla: ∀k,la k<256)(hpa: ∀k,pa k<256)(hx:x<256):FnOk Pg g0 16 [dfV C ks fo M,drW N la pa,w8 (x:Nat)] (.bool true):=by
 have hw:=works29
 have hC3:u8s (C.take 3):=fun c hc=>h.c8 c (List.mem_of_mem_take hc)
 have hwd:=Qm7 (C.take 3) ks fo M ⟨hC3,h.k8,h.f8,h.m8,h.mlen⟩
 have hcut:=cut8 C
 have hcd:=Qd3 (C.take 3)
 have hgo:=Qpt (C.take 3) ks fo
 obtain⟨x1,x2⟩:=Qj7 (C.take 3) ks fo []
 have h1:=hcd.pos
 have h5:=hcd.five
 have h3:(cardsD (C.take 3)).length≤3:=by
  unfold cardsD
  split
  ·simp
  ·simp;omega
 have hcl: ∀c∈dataD (C.take 3) ks fo [],c.length≤1000:=fun c hc=>by rw[x1 c hc];omega
 generalize dataD (C.take 3) ks fo []=rows at*
 generalize cardsD (C.take 3)=cards at*
 obtain⟨m3,hm3⟩: ∃m3,m3=min C.length 3:=⟨_,rfl⟩
 rw[←hm3]at hcut
 have hm5:x%3<3:=Nat.mod_lt _ (by decide)
 have hm:(x:Int).tmod 3=((x%3:Nat):Int):=by rw[show(3:Int)=((3:Nat):Int)from rfl,Qjj]
 have hF:=Qrp hgo x2
 have h32:=Qaq h5
 have he:Qei cards rows ((x%3:Nat):Int)=0:=by
  unfold Qei
  rw[if_pos hgo,if_neg (by omega)]
 have b1:=Qt6 cards rows (x%3) he
 have o1:=sol_ok (lim:=x%3) hF h1 h5
 have o2:=sol_rgt (lim:=x%3) hF h5
 have hfnd:=fnd_true (T:=topB cards.length (x%3) (fF cards rows) (2^cards.length-1)) (rows:=rows) rfl h1 h3 (Qoe o1) (lad_lim o1 o2) (Qkv o1 o2)
 -- the drafted ladder
 have l0:=Qsm N la pa cards.length h1 h5 hla hpa
 obtain⟨hlo,hlb⟩:=dl_ok la pa h1 h5
 have hS:=dl_S64 la pa h5
 have hwdt:=Qsv (dlA cards.length la (2^cards.length)) (dlB cards.length la pa (2^cards.length)) h1 h5
 generalize mkL (dlA cards.length la (2^cards.length)) cards.length=L at*
 generalize mkP (dlB cards.length la pa (2^cards.length)) cards.length=P at*
 have hgood:goodL L P cards.length=true:=by
  rw[Qkp,hlb,hwdt,decide_eq_true rfl];rfl
 have hri:=Qfa cards rows (x%3) _ _ hS he hgood
 have hgr:=graph_ok _ _ hS hlb
 rw[hwdt]at hgr
 have hrank:=Qoe hlo
 have hsco:=fun hr=>@Qkv _ (x%3) (fF cards rows) _ _ hlo hr
 generalize gL L P cards.length=g at*
 have hsc:=Qtq cards rows ((List.range cards.length).map g) (by omega) (by omega) hcl (fun y hy=>by
  obtain⟨v,hv,rfl⟩:=List.mem_map.1 hy
  have:=(hrank v (List.mem_range.1 hv)).1
  omega) hgo (Qdc h1 (by omega) hrank)
 rw[Qr8 h5,←gV_ul]at hsc
 have hrg:=Qov 3 (by decide) ((List.range cards.length).map g) (fun y hy=>by
  obtain⟨v,hv,rfl⟩:=List.mem_map.1 hy
  have:=(hrank v (List.mem_range.1 hv)).1
  omega)
 rw[Qf2 (n:=cards.length) (by decide) (by simp) h3,Qdc h1 (by omega) hrank,←gV_ul]at hrg
 obtain⟨n,hn⟩: ∃n,n=cards.length:=⟨_,rfl⟩
 have lA:=sa_loop cards rows hgo h1 h3 x2 hcl (x%3) _ n hn rfl
 simp only[←hn]at hfnd b1 hri hgr hsco hsc hrg
 rw[hfnd]at lA
 replace lA:Sat Pg none 0 (at' 16 [1,1,1,1,1,1,1,1,1,1,1,1,1,0,1,0]) (mkSt g0 160 (saS cards rows (topB n (x%3) (fF cards rows) (2^n-1)) (x%3) n 0 false)) (Qaf g0 160 [(True,.exit 0,{sl:=[(19,.bool true)]})]):=lA
 have hne:(n:Int)=(cards.length:Int):=by omega
 have hu:=Qa8 P
 have hlL:=Qae L
 have hU:=Qag g n
 have hg:=Qas rows
 have hc:=Qae cards
 have hd:=Qh6 N la pa
 have q1:=hC3
 clear hrank hfnd hgood hwdt hlo hlb hS hcl hgo hF o1 o2 he
 cases hb:rgtB n (x%3) (fF cards rows) L P with
 |true=>
  have hsco:=hsco hb
  rw[show ar (scG (fF cards rows) g (2^n-1) n)=ar (topB n (x%3) (fF cards rows) (2^n-1))from congrArg V.agg (Qbp hsco)]at hsc
  rw[hb]at hri
  have hTT:=Qn0 (topB n (x%3) (fF cards rows) (2^n-1))
  have hTn:(!eqA (topB n (x%3) (fF cards rows) (2^n-1)) (topB n (x%3) (fF cards rows) (2^n-1)))=false:=by rw[hTT];rfl
  unfold eqA at hTn
  clear hTT hsco hb
  have hT:=HfL_ar (topB n (x%3) (fF cards rows) (2^n-1))
  generalize topB n (x%3) (fF cards rows) (2^n-1)=T at*
  generalize x%3=lim at*
  refine FnOk.of_vc vE_ok mixed Qab (n:=1000) (r:=[]) (S:={sl:=[(6,.bool true)]}) (hs:=[fn 26 (.bool true),nu 33 (m3:Nat),va 34 (sl8 (C.take 3)),fn 37 (gV cards rows),nu 42 (lim:Nat),nu 43 (lim:Nat),fn 47 (.tup [ar T,i6 0]),fn 52 (lV L P),fn 57 (.tup [.bool true,i6 0]),fn 62 (.tup [gV' n g,i6 0]),fn 77 (.bool true),no 84,fn 89 (.tup [ar T,i6 0]),no 99,(0,.loop [2,3,4] (saS cards rows T lim n 0 false) [(True,.exit 0,{sl:=[(19,.bool true)]})])]) ?_
  refine Eq.mp (by kernel_rfl:(let z0:=V.agg [V.im cards.length (ints cards),V.im rows.length (List.map sl rows)];let z1:=V.agg [V.im L.length (ints L),V.im P.length (ut P)];let z2:=V.bool true;let z3:=List.take 3 C;let z4:=(↑lim:Int);let z5:=i6 ↑lim;let z6:=(↑cards.length:Int);let z7:=V.tup [ar T,i6 0];An [z2=z2,Tt,FnOk Pg g0 60 [] z2,Tt,(if(3:Int)<(↑C.length:Int)then(3:Int)else(↑C.length:Int))=(↑m3:Int),sliceV (Qad Pg) 22 (sl8 C) none (some (↑m3:Int)) none=some (sl8 z3),An [TT 4,Tt],FnOk Pg g0 18 [V.agg [V.im z3.length (List.map w8 z3),V.im ks.length (Qcm ks),w8 fo,V.im M.length (List.map w8 M)]] (gV cards rows),Tt,Int.tmod (↑x:Int) (3:Int)=z4,wr .i64 z4=z4,An [TT 2,Tt,Tt],FnOk Pg g0 41 [z0,z5] z7,Tt,An [TT 65,Tt,Tt],FnOk Pg g0 53 [V.agg (drL N la pa),i6 ↑cards.length] (lV L P),Tt,An [TT 2,Tt,TT 2,Tt],FnOk Pg g0 42 [z0,z5,z1] (V.tup [z2,i6 0]),Tt,An [TT 2,Tt],FnOk Pg g0 40 [z1] (V.tup [gV' n g,i6 0]),Tt,TT 2,FnOk Pg g0 67 [V.im n (uF g n),i6 3] z2,Tt,((↑n:Int) != z6)=false,An [TT 2,Tt,Tt],FnOk Pg g0 28 [z0,V.im n (uF g n)] z7,Tt,(!(T 0==T 0&&(T 1==T 1&&(T 2==T 2&&(T 3==T 3&&(T 4==T 4&&(T 5==T 5&&(T 6==T 6&&(T 7==T 7&&(T 8==T 8&&(T 9==T 9&&(T 10==T 10&&(T 11==T 11&&(T 12==T 12&&(T 13==T 13&&(T 14==T 14&&(T 15==T 15&&(T 16==T 16&&(T 17==T 17&&true)))))))))))))))))))=false,An [An [Zz,(↑n:Int)=z6,Zz,Zz,Sm false,(↑(0:Nat):Int)=(0:Int),Tt],An [Sm [sl cards,gC rows],TT 2],An [Sm [z5],Tt,Tt],An [Sm (arF T),TT 18],Tt],Sat Pg none 0 (at' 16 [1,1,1,1,1,1,1,1,1,1,1,1,1,0,1,0]) (mkSt g0 160 (saS cards rows T lim n 0 false)) (Qaf g0 160 [(True,Ex.exit 0,SL.mk [(19,z2)] [] [] [])]),(True→An [An [Sm true,Tt],Tt]),Tt])=_) ?_
  (repeat'(first|(with_reducible apply And.intro)|(refine fun(_:True)=>?_)))
  all_goals first|exact hw|exact hwd|exact b1|exact l0|exact hri|exact hgr|exact hsc|exact hrg|exact lA|(with_reducible exact hcut)|(with_reducible exact hm)|(with_reducible exact hTn)|exact hg|exact hc|exact hT|exact hu|exact hlL|exact hU|exact hd|exact aq|(with_reducible rfl)|skip
 |false=>
  rw[hb]at hri
  clear hsco hb
  have hT:=HfL_ar (topB n (x%3) (fF cards rows) (2^n-1))
  generalize topB n (x%3) (fF cards rows) (2^n-1)=T at*
  generalize scG (fF cards rows) g (2^n-1) n=S at*
  have hS:=HfL_ar S
  generalize x%3=lim at*
  refine FnOk.of_vc vE_ok mixed Qab (n:=1000) (r:=[]) (S:={sl:=[(6,.bool true)]}) (hs:=[fn 26 (.bool true),nu 33 (m3:Nat),va 34 (sl8 (C.take 3)),fn 37 (gV cards rows),nu 42 (lim:Nat),nu 43 (lim:Nat),fn 47 (.tup [ar T,i6 0]),fn 52 (lV L P),fn 57 (.tup [.bool false,i6 0]),fn 62 (.tup [gV' n g,i6 0]),fn 77 (.bool true),no 84,fn 89 (.tup [ar S,i6 0]),(0,.loop [2,3,4] (saS cards rows T lim n 0 false) [(True,.exit 0,{sl:=[(19,.bool true)]})])]) ?_
  refine Eq.mp (by kernel_rfl:(let z0:=V.agg [V.im cards.length (ints cards),V.im rows.length (List.map sl rows)];let z1:=V.agg [V.im L.length (ints L),V.im P.length (ut P)];let z2:=V.bool true;let z3:=List.take 3 C;let z4:=(↑lim:Int);let z5:=i6 ↑lim;let z6:=(↑cards.length:Int);An [z2=z2,Tt,FnOk Pg g0 60 [] z2,Tt,(if(3:Int)<(↑C.length:Int)then(3:Int)else(↑C.length:Int))=(↑m3:Int),sliceV (Qad Pg) 22 (sl8 C) none (some (↑m3:Int)) none=some (sl8 z3),An [TT 4,Tt],FnOk Pg g0 18 [V.agg [V.im z3.length (List.map w8 z3),V.im ks.length (Qcm ks),w8 fo,V.im M.length (List.map w8 M)]] (gV cards rows),Tt,Int.tmod (↑x:Int) (3:Int)=z4,wr .i64 z4=z4,An [TT 2,Tt,Tt],FnOk Pg g0 41 [z0,z5] (V.tup [ar T,i6 0]),Tt,An [TT 65,Tt,Tt],FnOk Pg g0 53 [V.agg (drL N la pa),i6 ↑cards.length] (lV L P),Tt,An [TT 2,Tt,TT 2,Tt],FnOk Pg g0 42 [z0,z5,z1] (V.tup [V.bool false,i6 0]),Tt,An [TT 2,Tt],FnOk Pg g0 40 [z1] (V.tup [gV' n g,i6 0]),Tt,TT 2,FnOk Pg g0 67 [V.im n (uF g n),i6 3] z2,Tt,((↑n:Int) != z6)=false,An [TT 2,Tt,Tt],FnOk Pg g0 28 [z0,V.im n (uF g n)] (V.tup [ar S,i6 0]),Tt,An [An [Zz,(↑n:Int)=z6,Zz,Zz,Sm false,(↑(0:Nat):Int)=(0:Int),Tt],An [Sm [sl cards,gC rows],TT 2],An [Sm [z5],Tt,Tt],An [Sm (arF T),TT 18],Tt],Sat Pg none 0 (at' 16 [1,1,1,1,1,1,1,1,1,1,1,1,1,0,1,0]) (mkSt g0 160 (saS cards rows T lim n 0 false)) (Qaf g0 160 [(True,Ex.exit 0,SL.mk [(19,z2)] [] [] [])]),(True→An [An [Sm true,Tt],Tt]),Tt])=_) ?_
  (repeat'(first|(with_reducible apply And.intro)|(refine fun(_:True)=>?_)))
  all_goals first|exact hw|exact hwd|exact b1|exact l0|exact hri|exact hgr|exact hsc|exact hrg|exact lA|(with_reducible exact hcut)|(with_reducible exact hm)|exact hg|exact hc|exact hT|exact hS|exact hu|exact hlL|exact hU|exact hd|exact aq|(with_reducible rfl)|skip
end Go.Proofs.YtglpoiaedkoecaaDoor.Am
