/- Texts behind the claim, part 5: the abstract machine, and what the functions answer. No condition. -/
import Derived.Test.YthjjgipcoeiapaaCWKnown4
set_option linter.unusedVariables false
set_option linter.unusedSimpArgs false
set_option linter.unusedSectionVars false
namespace Go.Proofs.Ythjjgipcoeiapaa.Am
open Go.RowKit
set_option maxHeartbeats 1000000
set_option maxRecDepth 100000
theorem CallSpec.moreL{P:Program}{gl:T (List V)}{c:V}{ars:List V}{H:T O}{nx:Nat}{r:CR}{L:List Nat}(h:CallSpec P gl c ars H nx r)(hl: ∀x∈r.lg,x∈L):CallSpec P gl c ars H nx ⟨r.v,r.H,r.nx,L⟩:=by
 refine⟨fun s w fv jj a1 a2 a3 a4 a5=>?_,h.2.more hl⟩
 obtain⟨next,e1,e2,e3⟩:=h.1 s w fv jj a1 a2 a3 a4 a5
 have key: ∀e w',CPost s w nx r e w'->CPost s w nx ⟨r.v,r.H,r.nx,L⟩ e w':=by
  rintro e w' ⟨u,s',k1,g1,g2,g3,g4,g5⟩
  exact⟨u,s',k1,g1,g2,g3.more hl,g4,g5⟩
 refine⟨next,e1,?_,e3⟩
 cases next with
 |enter f ars=>exact CallsIn.mono e2 key
 |round l f tm a b=>exact RoundIn.mono e2 key
 | _=>exact e2.elim
theorem Qe4{I:Nat->T O->Nat->Prop}{C:Nat->T O->Nat->T O->Nat->List Nat->Prop}(H0:T O)(n0:Nat)(h0:I 0 H0 n0): ∀(m:Nat),(∀k,k<m->∀H n,I k H n->∃H' n' L,I (k+1) H' n'/\C k H n H' n' L)->
  ∃(HH:Nat->T O)(N:Nat->Nat)(LL:Nat->List Nat),HH 0=H0/\N 0=n0/\(∀k,k<=m->I k (HH k) (N k))/\∀k,k<m->C k (HH k) (N k) (HH (k+1)) (N (k+1)) (LL k)
 |0,_=>⟨fun _=>H0,fun _=>n0,fun _=>[],rfl,rfl,fun k hk=>by rw[Nat.le_zero.1 hk];exact h0,fun k hk=>absurd hk (Nat.not_lt_zero _)⟩
 | m + 1, h => by
  obtain⟨HH,N,LL,e1,e2,hi,hc⟩:=Qe4 H0 n0 h0 m (fun k hk=>h k o_)
  obtain⟨H',n',L,hI,hC⟩:=h m o_ _ _ (hi m (Nat.le_refl _))
  refine⟨fun k=>if k=m+1 then H' else HH k,fun k=>if k=m+1 then n' else N k,fun k=>if k=m then L else LL k,(if_neg o_).trans e1,(if_neg o_).trans e2,fun k hk=>?_,fun k hk=>?_⟩
  ·dsimp only
   by_cases hkm:k=m+1
   ·subst hkm;rw[if_pos rfl,if_pos rfl];exact hI
   ·rw[if_neg hkm,if_neg hkm];exact hi k o_
  ·dsimp only
   by_cases hkm:k=m
   ·subst hkm;rw[if_neg o_,if_neg o_,if_pos rfl,if_pos rfl,if_pos rfl];exact hC
   ·rw[if_neg o_,if_neg o_,if_neg o_,if_neg o_,if_neg hkm];exact hc k o_
theorem Qfo{HH:Nat->T O}{N:Nat->Nat}{LL:Nat->List Nat}{L:List Nat}: ∀m,(∀k,k<m->Log (HH k).get (N k) (HH (k+1)).get (N (k+1)) (LL k))->(∀k,k<m->∀x∈LL k,x∈L)->Log (HH 0).get (N 0) (HH m).get (N m) L
 |0,_,_=>Log.refl _ _ _
 |m+1,h,hl=>((Qfo m (fun k hk=>h k o_) (fun k hk=>hl k o_)).trans (h m o_)).more (fun x hx=>(List.mem_append.1 hx).elim (hl m o_ x) id)
theorem Qth(p j:List Nat)(s:Nat)(hs:s<18446744073709551616)(hl:j.length<=64)(h64:S64 j)(hd m:Nat)(hm:reF j s m=0)(hne: ∀k,k<m->reF j s k≠0)(I:Nat->T O->Nat->Prop)(H0:T O)(n0:Nat)(h0:I 0 H0 n0)
  (step: ∀k,k<m->∀H n,I k H n->∃H' n' L,I (k+1) H' n'/\CallSpec Pg g0 (.yld hd) [u6 (dkF j s k:Nat)] H n ⟨.bool true,H',n',L⟩):
  ∃H' n' L,I m H' n'/\CallSpec Pg g0 (ptC p j s) [.yld hd] H0 n0 ⟨.tup [],H',n',L⟩:=by
 obtain⟨HH,N,LL,e1,e2,hi,hc⟩:=Qe4 (C:=fun k H n H' n' L=>CallSpec Pg g0 (.yld hd) [u6 (dkF j s k:Nat)] H n ⟨.bool true,H',n',L⟩) H0 n0 h0 m step
 have hL: ∀k,k<m->∀x∈LL k,x∈(List.range m).flatMap LL:=fun k hk x hx=>List.mem_flatMap.2 ⟨k,List.mem_range.2 hk,hx⟩
 refine⟨HH m,N m,(List.range m).flatMap LL,hi m (Nat.le_refl _),?_⟩
 have:=Qli p j s hs hl h64 hd m hm hne HH N ((List.range m).flatMap LL) (fun k hk=>CallSpec.moreL (r:=⟨_,_,_,LL k⟩) (hc k hk) (hL k hk)) (Qfo m (fun k hk=>(hc k hk).2) hL)
 rw[e1,e2]at this
 exact this
theorem Qlk{rd:Option Nat}{nx0 n nx s m:Nat}{sl:List (Nat×V)}{H:T O}{lg:List Nat}{g:Operand}{ps:Array Tmp}{asg body:Code}(p j:List Nat)(hs:s<18446744073709551616)(hl:j.length<=64)(h64:S64 j)(hm:reF j s m=0)(hne: ∀k,k<m->reF j s k≠0)
  (hg:ev (mkSo g0 n sl H nx lg).tm g=some (ptC p j s))(hlb:rdOk rd H=true)(L0:O)(hL0:L0= .loop .ready none 0 (mkSo g0 n sl H nx lg).tm ps.toList asg body)
  (I:Nat->T O->Nat->Prop)(h0:I 0 (pt H nx L0) (nx+1))(step: ∀k,k<m->∀H n,I k H n->∃H' n' L,I (k+1) H' n'/\CallSpec Pg g0 (.yld nx) [u6 (dkF j s k:Nat)] H n ⟨.bool true,H',n',L⟩)
  (hI: ∀H' n',I m H' n'->gt H' nx=some L0):
  ∃H1 n1 L,I m H1 n1/\Log (pt H nx L0).get (nx+1) H1.get n1 L/\Sat Pg rd nx0 (.rangeFunc g ps asg body) (mkSo g0 n sl H nx lg) (Qbq g0 n .normal (fun _=>sl) (fun _ H' nx' lg'=>H'=pt H1 nx .dead/\nx'=n1/\lg'=L++lg)):=by
 obtain⟨H1,n1,L,hi,hc⟩:=Qth p j s hs hl h64 nx m hm hne I _ _ h0 step
 refine⟨H1,n1,L,hi,hc.2,?_⟩
 have hgt:=hI _ _ hi
 rw[Qak]at hgt
 rw[pt_eq]at hc
 subst hL0
 refine Sat.rangeFunc' hg hlb hc (.inl ⟨0,_,_,_,_,hgt,0,_,_,_,rfl,?_,rfl,rfl,rfl⟩)
 rw[pt_eq];rfl
noncomputable def Qce(n:Nat)(sl1:List (Nat×V))(H:T O)(nx:Nat)(lg:List Nat):KF:=fun e _ st=>match e with
 | .normal=>bif Nat.beq st.tm.n n then slotsQ st.tm sl1/\st.H=H/\st.nx=nx/\st.lg=lg else False
 | _=>False
noncomputable def Qg5(H:T O)(nx:Nat)(L:List Nat):KF:=fun e _ st=>match e with
 | .normal=>st.H=H/\st.nx=nx/\st.lg=L
 | _=>False
theorem CallSpec.yldO{P:Program}{E:Env}{sp:Qa7}(hE:E.Ok P)(hm:P.follows .mixedOrders=true){gl:T (List V)}(hsp:Qau P gl sp){n hd:Nat}{ars:List V}{H H1 H2:T O}{nx nx1 nx2:Nat}{tm tm1:TM}{ps:List Nat}{assign body:Code}{fn0:Nat}{sl0 sl1:List (Nat×V)}{lg1 L:List Nat}{hs0 hs1:Hs}{m0 m1:Nat}
  (ho:gt H hd=some (.loop .ready none fn0 tm ps assign body))(xg:putPs tm ps ars=some tm1)(hn:tm1.n=n)(hg:tm1.gl=gl)(h0:slotsQ tm1 sl0)
  (ha:vc P E sp (some hd) nx m0 assign hs0 (mkSo gl n sl0 H nx []) (Qce n sl1 H1 nx1 lg1))(h1:gt H1 hd=some (.loop .ready none fn0 tm ps assign body))
  (hb:vc P E sp (some hd) nx m1 body hs1 (mkSo gl n sl1 (pt H1 hd (.loop .busy none fn0 tm ps assign body)) nx1 (hd::lg1)) (Qg5 H2 nx2 L))
  (h2:gt H2 hd=some (.loop .busy none fn0 tm ps assign body))(hlog:Log H.get nx (pt H2 hd (.loop .ready none fn0 tm ps assign body)).get nx2 (hd::L)):
  CallSpec P gl (.yld hd) ars H nx ⟨.bool true,pt H2 hd (.loop .ready none fn0 tm ps assign body),nx2,hd::L⟩:=by
 rw[Qak]at ho h1 h2
 refine CallSpec.yld ho xg hlog ?_
 have hst:(⟨tm1,H,nx,[]⟩:St)=⟨⟨tm1.sl,gl,n⟩,H,nx,[]⟩:=by cases tm1;subst hn hg;rfl
 rw[hst]
 refine Sat.fewer (sl:=sl0) (by obtain⟨a,b,c⟩:=tm1;cases hn;cases hg;exact h0) ?_
 refine Sat.fewer_post ?_
 refine Sat.of_vc hE hm hsp rfl ha fun e hs' st' hgl hk=>?_
 unfold Qce at hk
 split at hk
 ·obtain ⟨hb1, k1, k2, k3, k4⟩ := Qae hk
  have hn':=Nat.eq_of_beq_eq_true hb1
  refine⟨sl1,k1,rfl,none,fn0,tm,ps,assign,body,by show st'.H.get hd=_;rw[k2];exact h1,?_⟩
  show Sat P (some hd) nx body ⟨_,st'.H.put hd _,st'.nx,hd::st'.lg⟩ _
  rw[k2,k3,k4]
  have e0:(mkSo st'.tm.gl st'.tm.n sl1 H1 nx1 lg1).tm=(mkSo gl n sl1 H1 nx1 lg1).tm:=by rw[hgl,hn']
  rw[e0]
  rw[pt_eq]at hb
  refine Sat.of_vc hE hm hsp rfl hb fun e hs2 st2 hgl2 hk2=>?_
  unfold Qg5 at hk2
  split at hk2
  ·obtain ⟨q1, q2, q3⟩ := hk2
   refine⟨rfl,.busy,none,fn0,tm,ps,assign,body,by rw[q1];exact h2,rfl,?_,q2.symm,fun x hx=>?_⟩
   ·show pt H2 hd _ = _
    rw[q1,pt_eq];rfl
   ·rw[q3]at hx;exact hx
  ·exact hk2.elim
 ·exact hk.elim
theorem draw_any{P:Program}{E:Env}(hE:E.Ok P){gl:T (List V)}{call:Qap}(hcall:Qbj P gl call)(hlog:Qbc call){ops:Array Oper}{l:Option Nat}{B:Bs}{Q:Exit->Act->World->Prop}{st st':St}{s:Sig}{w:World}{a:Act}(h:Qfx E call ops st=some st')(hgl:st.tm.gl=gl)(kj:Rel B s w st a)(hQ: ∀a' w',Goes B s w st st' a a' w'->Q .normal a' w'):
  wpAnyIn (FF l) 5 P .any ops Q ops.size (Array.replicate ops.size false) a {w with drawn:=w.drawn+1}:=by
 unfold Qfx at h
 obtain⟨hreg,h⟩:=Qam h
 split at h
 ·rename_i p hp
  cases h
  unfold regOk at hreg
  simp only[Bool.and_eq_true]at hreg
  obtain⟨⟨⟨⟨r1,r2⟩,r3⟩,r4⟩,r5⟩:=hreg
  subst hgl
  let g:Reg P:={E,call,ops,bf:=Region.before ops,ord:=cOrder (Region.before ops) ops.size ops.toList 0 0,st0:=st,fin:=p,s0:=s,w0:=w,a0:=a,B,l,hG:=hE.G,hX:=hE.ext,hcall,hlog,edges:=r1,masks:=r2,pairs:=r3,uniq:=r4,cok:=r5,run:=hp,rel:=kj}
  have hL:Lst (Array.replicate ops.size false)=fun _=>False:=funext fun i=>propext ⟨fun h=>by
   unfold Lst at h
   rw[Array.getD_eq_getD_getElem?,Array.getElem?_replicate]at h
   split at h<;>simp at h,False.elim⟩
  have kd:Kept s w w.drew:=fun _ _=>rfl
  refine Qqn g hQ ops.size _ [] g.ord (st,[]) s w.drew a st.H.get ?_ ?_ (by simp[g]) ?_
  ·rw [hL]
   refine⟨rfl,rfl,fun _ h=>by simp at h,fun _ _ _ _ h=>h.elim,kj.rt.1,fun gi l hl=>RC.mono (Sig.Le.refl s) kd _ _ _ (kj.rt.2.2 gi l hl),fun t _ x hx=>?_,fun _ _ _ _ h=>h.elim,kj.rh.drew,fun _ _=>rfl,fun _ _ _ _ h=>h.elim,fun i=>⟨fun h=>.inl (.inl h),?_⟩,⟨[],rfl,(Step.refl s w []).drew⟩,?_⟩
   ·obtain ⟨v, hv, hr⟩ := kj.rt.2.1 t x hx
    exact⟨v,hv,RV.mono (Sig.Le.refl s) kd _ _ hr⟩
   ·rintro ((h | h) | ⟨_, _, _, _, _, _, _, h, _⟩)
    ·exact h
    ·have h1 := h.1
     have h2:=h.2
     dsimp only[g]at h1 h2
     omega
    ·exact h.elim
   ·obtain ⟨Ds, h1, h2, h3⟩ := kj.df
    exact⟨Ds,h1,h2,h3⟩
  ·rw[hL];exact fun _ _ h=>h.elim
  ·have : ∀ n, cnt (Array.replicate ops.size false) n <= n := by
    intro n
    induction n with
    |zero=>simp[cnt]
    |succ n ih=>unfold cnt;cases(Array.replicate ops.size false).getD n false<;>simp<;>omega
   exact this ops.size
 ·cases h
theorem Qi2{F:Fence}{n:Nat}{P:Program}{ops:Array Oper}{Q:Exit->Act->World->Prop}: ∀(f:Nat)(b:Array Bool)(a:Act)(w:World),wpAnyIn F n P .any ops Q f b a w->wpAnyIn F n P .any ops Q (f+1) b a w
 |0,b,a,w,h=>⟨fun _=>h.2,fun i hi=>by rw[h.1]at hi;cases hi⟩
 |f+1,b,a,w,h=>⟨h.1,fun i hi=>wpOpIn_mono (fun a w=>Qi2 f _ a w) (h.2 i hi)⟩
theorem Qh2{F:Fence}{n:Nat}{P:Program}{ops:Array Oper}{Q:Exit->Act->World->Prop}{f:Nat}{b:Array Bool}{a:Act}{w:World}(h:wpAnyIn F n P .any ops Q f b a w): ∀k,wpAnyIn F n P .any ops Q (k+f) b a w
 |0=>by rw[Nat.zero_add];exact h
 |k+1=>by rw[Nat.add_right_comm];exact Qi2 _ _ _ _ (Qh2 h k)
def qA(F:Fence)(n:Nat)(P:Program)(ops:Array Oper)(Q:Exit->Act->World->Prop)(na nb:Nat):Exit->Act->World->Prop
 | .normal=>wpAnyIn F n P .any ops Q nb (Array.replicate na true++Array.replicate nb false)
 |e=>Q e
theorem Qez{bA:Array Bool}{nb i:Nat}{d:Bool}(h:i<bA.size):(bA++Array.replicate nb false).getD i d=bA.getD i d:=by
 simp[Array.getD_eq_getD_getElem?,Array.getElem?_append,h]
structure Split(A ops:Array Oper)(na nb:Nat):Prop where
 sA:A.size=na
 s:ops.size=na+nb
 eq: ∀i,i<na->A[i]? =ops[i]?
 gd: ∀i o,i<na->ops[i]? =some o->o.guard=none
 ed:Qdh A=true
 aft: ∀i o,na<=i->ops[i]? =some o->∀k,k<na->∃e∈o.after,Region.binds .any e=true/\e.on=k
theorem Qt5{F:Fence}{n:Nat}{P:Program}{A ops:Array Oper}{Q:Exit->Act->World->Prop}{na nb:Nat}(S:Split A ops na nb): ∀(f:Nat)(bA:Array Bool)(a:Act)(w:World),bA.size=na->wpAnyIn F n P .any A (qA F n P ops Q na nb) f bA a w->wpAnyIn F n P .any ops Q (f+nb) (bA++Array.replicate nb false) a w:=by
 have fin: ∀(f:Nat)(bA:Array Bool)(a:Act)(w:World),bA.size=na->Region.ready .any A bA=[]->qA F n P ops Q na nb .normal a w->wpAnyIn F n P .any ops Q (f+nb) (bA++Array.replicate nb false) a w:=by
  intro f bA a w hb hr hq
  have jx:=Qe3 (hb.trans S.sA.symm) S.ed hr
  have e:bA=Array.replicate na true:=by
   apply Array.ext
   ·rw[Array.size_replicate,hb]
   ·intro i h1 h2
    have:=jx i (by rw[S.sA];omega)
    unfold Lst at this
    rw[Array.getElem_replicate]
    simpa [h1]using this
  subst e
  exact Qh2 hq f
 intro f
 induction f with
 |zero=>intro bA a w hb h;exact fin 0 bA a w hb h.1 h.2
 | succ f ih =>
  intro bA a w hb h
  by_cases hr:Region.ready .any A bA=[]
  ·exact fin (f+1) bA a w hb hr (h.1 hr)
  ·have sub : ∀ i, i ∈ Region.ready .any A bA -> i < na /\ i ∈ Region.ready .any ops (bA ++ Array.replicate nb false) := by
    intro i hi
    obtain⟨h1,o,h2,h3⟩:=mem_ready.1 hi
    have hlt:i<na:=by rw[<-S.sA];exact(Array.getElem?_eq_some_iff.1 h2).1
    refine⟨hlt,mem_ready.2 ⟨by rw[Qez o_];exact h1,o,by rw[<-S.eq i hlt];exact h2,fun e he hbn=>?_⟩⟩
    have hl:=h3 e he hbn
    have:e.on<na:=Nat.lt_trans (Qf2 S.ed h2 he hbn) hlt
    rw[Qez o_];exact hl
   have back: ∀i,i∈Region.ready .any ops (bA++Array.replicate nb false)->i∈Region.ready .any A bA:=by
    intro i hi
    obtain⟨h1,o,h2,h3⟩:=mem_ready.1 hi
    by_cases hlt:i<na
    ·refine mem_ready.2 ⟨by rw [Qez o_] at h1; exact h1, o, by rw [S.eq i hlt]; exact h2, fun e he hbn => ?_⟩
     have hl:=h3 e he hbn
     have:e.on<na:=by
      refine Nat.lt_trans (Qf2 S.ed (by rw[S.eq i hlt];exact h2) he hbn) hlt
     rw[Qez o_]at hl;exact hl
    ·exfalso
     have hlist: ∀k,k<na->bA.getD k false=true:=by
      intro k hk
      obtain⟨e,he,hbn,rfl⟩:=S.aft i o o_ h2 k hk
      have:=h3 e he hbn
      rw[Qez o_]at this;exact this
     apply hr
     apply List.eq_nil_iff_forall_not_mem.2
     intro j hj
     obtain⟨j1,o',j2,_⟩:=mem_ready.1 hj
     have hjl:j<na:=by rw[<-S.sA];exact(Array.getElem?_eq_some_iff.1 j2).1
     have:=hlist j hjl
     have hjb:j<bA.size:=by omega
     simp[hjb]at j1 this
     rw[j1]at this;cases this
   rw[Nat.add_right_comm]
   refine⟨fun h0=>absurd (List.eq_nil_iff_forall_not_mem.2 fun i hi=>by have:=(sub i hi).2;rw[h0]at this;cases this) hr,fun i hi=>?_⟩
   have hiA:=back i hi
   obtain⟨hlt,_⟩:=sub i hiA
   have hop:=h.2 i hiA
   have hset:(bA++Array.replicate nb false).setIfInBounds i true=bA.setIfInBounds i true++Array.replicate nb false:=by
    apply Array.ext_getElem?
    intro k
    simp only[Array.getElem?_setIfInBounds,Array.getElem?_append,Array.size_setIfInBounds,Array.size_append,Array.size_replicate]
    by_cases hk:i=k
    ·subst hk
     rw[if_pos rfl,if_pos o_,if_pos o_,if_pos rfl,if_pos o_]
    ·rw[if_neg hk,if_neg hk]
   rw[hset]
   have h1:=wpOpIn_mono (fun a w=>ih (bA.setIfInBounds i true) a w (by simpa using hb)) hop
   have h2:wpOpIn F n P A Q i (wpAnyIn F n P .any ops Q (f+nb) (bA.setIfInBounds i true++Array.replicate nb false)) a w:=Qei (fun ch a w hq=>hq) (fun⟨a,w,hq⟩=>⟨a,w,hq⟩) h1
   unfold wpOpIn at h2⊢
   rw[S.eq i hlt]at h2
   cases ho:ops[i]? with
   |none=>rw[ho]at h2;exact h2
   |some o=>
    rw[ho]at h2
    have hg:=S.gd i o hlt ho
    have hw: ∀ys,Region.wanted o ys=true:=fun ys=>by unfold Region.wanted;rw[hg]
    simp only[hw,if_true]at h2⊢
    exact h2
def AnyT(P:Program)(E:Env)(ops:Array Oper)(R:Ex->St->Prop):Nat->Array Bool->St->Prop
 |0,b,st=>Region.ready .any ops b=[]/\R .normal st
 |f+1,b,st=>(Region.ready .any ops b=[]->R .normal st)/\∀i∈Region.ready .any ops b,∃o st1 call,ops[i]? =some o/\Qbj P st.tm.gl call/\seqR E call ops [o] st=some st1/\st1.tm.gl=st.tm.gl/\AnyT P E ops R f (b.setIfInBounds i true) st1
theorem Qnh{P:Program}{E:Env}(hE:E.Ok P){ops:Array Oper}{R:Ex->St->Prop}{B:Bs}{s0:Sig}{w0:World}{nx0:Nat}{l:Option Nat}{Q:Exit->Act->World->Prop}(hQ: ∀e st',R e st'->∀s' w' a',Ats B s0 w0 nx0 st' s' w' a'->exQ Q w' a' e):
  ∀(f:Nat)(b:Array Bool)(st:St)(s:Sig)(w:World)(a:Act),AnyT P E ops R f b st->Ats B s0 w0 nx0 st s w a->wpAnyIn (FF l) 5 P .any ops Q f b a w
 |0,b,st,s,w,a,h,A=>⟨h.1,hQ _ _ h.2 s w a A⟩
 | f + 1, b, st, s, w, a, h, A => by
  refine⟨fun h0=>hQ _ _ (h.1 h0) s w a A,fun i hi=>?_⟩
  obtain⟨o,st1,call,ho,hc,hs,hgl,ht⟩:=h.2 i hi
  have key:=Qht hE.G hE.ext hc (ops:=ops) (l:=l) (B:=B) (Q:=fun e=>match e with| .normal=>wpAnyIn (FF l) 5 P .any ops Q f (b.setIfInBounds i true)|e=>Q e) [o] i st st1 s w a (fun j hj=>by
   have:j=0:=by simpa using hj
   subst this
   rw[Nat.add_zero,ho];rfl) hs rfl A.rel (fun a' w'⟨lg,s',W⟩=>Qnh hE hQ f _ st1 s' w' a' ht (A.went W))
  have e:List.range' i [o].length=[i]:=rfl
  rw[e,wpOpsIn_cons]at key
  have k2:=wpOpIn_mono (fun a w h=>by simpa [wpOpsIn]using h) key
  exact Qei (fun ch a w hq=>hq) (fun⟨a,w,hq⟩=>⟨a,w,hq⟩) k2
theorem op_step{P:Program}{E:Env}{sp:Qa7}{ops:Array Oper}{st:St}(hsp:Qau P st.tm.gl sp){K:Hs->List Qaw->St->Prop}{o:Oper}{hs:Hs}(h:Qe8 P E sp ops K [o] hs [] st): ∃st1 call hs' qs,Qbj P st.tm.gl call/\seqR E call ops [o] st=some st1/\st1.tm.gl=st.tm.gl/\K hs' qs st1:=by
 obtain⟨hs',qs,st',k1,k2,_,k4⟩:=Qb6 hsp [o] hs [] st rfl TblOk.nil h
 exact⟨st',tbl qs,hs',qs,k2.call,k4 _ k2.meets,k1.2,k1.1⟩
theorem Sat.regionSplit{P:Program}{E:Env}{sp:Qa7}(hE:E.Ok P)(hm:P.follows .mixedOrders=true){rd:Option Nat}{nx0 id:Nat}{st:St}{ops A:Array Oper}{na nb:Nat}{R:Ex->St->Prop}(hsp:Qau P st.tm.gl sp)(S:Split A ops na nb){K:Hs->St->Prop}{hs:Hs}(hA:Qbp P E sp A true hs st K)
  (hB: ∀hs' st',st'.tm.gl=st.tm.gl->K hs' st'->∃sl,slotsQ st'.tm sl/\AnyT P E ops R nb (Array.replicate na true++Array.replicate nb false) (mkSo st'.tm.gl st'.tm.n sl st'.H st'.nx st'.lg)):Sat P rd nx0 (.region id ops true) st R:=by
 intro B s0 w0 s w a hn hBn hrd At Q hQ
 refine wpIn_region_any hm ?_
 unfold Qbp at hA
 rw[cond_true]at hA
 cases hb:regOk A with
 |false=>rw[hb]at hA;exact hA.elim
 | true =>
  rw[hb,cond_true]at hA
  obtain⟨hs',qs,p,k1,k2,_,k4⟩:=Qcx hsp _ hs [] st [] rfl TblOk.nil hA
  have hdr:Qfx E (tbl qs) A st=some p.1:=by unfold Qfx;rw[hb,cond_true,k4 _ k2.meets]
  have h1:=draw_any hE k2.call k2.log hdr rfl At.rel (l:=rd.map s0.μ) (Q:=qA (FF (rd.map s0.μ)) 5 P ops Q na nb) (fun a' w'⟨lg,s',W⟩=>by
   obtain⟨sl,q1,q2⟩:=hB hs' p.1 k1.2 k1.1
   exact Qnh hE hQ nb _ _ s' w' a' q2 ((At.went W).fewer q1))
  have h2:=Qt5 S A.size (Array.replicate A.size false) a _ (by rw[Array.size_replicate,S.sA]) h1
  have e:Array.replicate A.size false++Array.replicate nb false=Array.replicate ops.size false:=by rw[S.s,S.sA,Array.replicate_append_replicate]
  rw[e,S.sA,<-S.s]at h2
  exact h2
theorem T.set_comm{α:Type}: ∀(f g:Nat)(t:T α)(i j:Nat)(x y:Option α),i<f->j<g->i≠j->T.set g (T.set f t i x) j y=T.set f (T.set g t j y) i x
 |0,_,_,_,_,_,_,h,_,_=>absurd h (Nat.not_lt_zero _)
 | _,0,_,_,_,_,_,_,h,_=>absurd h (Nat.not_lt_zero _)
 | f + 1, g + 1, t, i, j, x, y, hi, hj, hne => by
  have ih:i≠0->j≠0->i/2≠j/2->∀t:T α,T.set g (T.set f t (i/2) x) (j/2) y=T.set f (T.set g t (j/2) y) (i/2) x:=fun _ _ h t=>T.set_comm f g t (i/2) (j/2) x y o_ o_ h
  have ih2:i≠0->j≠0->i/2-1≠j/2-1->∀t:T α,T.set g (T.set f t (i/2-1) x) (j/2-1) y=T.set f (T.set g t (j/2-1) y) (i/2-1) x:=fun _ _ h t=>T.set_comm f g t (i/2-1) (j/2-1) x y o_ o_ h
  by_cases hi0:i=0
  ·subst hi0
   have hb:Nat.beq j 0=false:=by
    cases hb:Nat.beq j 0 with
    |false=>rfl
    |true=>exact absurd (Nat.eq_of_beq_eq_true hb).symm hne
   cases h1:Nat.beq (j%2) 1<;>cases t<;>simp[T.set,hb,h1]
  ·by_cases hj0 : j = 0
   ·subst hj0
    have hb:Nat.beq i 0=false:=by
     cases hb:Nat.beq i 0 with
     |false=>rfl
     |true=>exact absurd (Nat.eq_of_beq_eq_true hb) hne
    cases h1:Nat.beq (i%2) 1<;>cases t<;>simp[T.set,hb,h1]
   ·have hb : Nat.beq i 0 = false := by
     cases hb:Nat.beq i 0 with
     |false=>rfl
     |true=>exact absurd (Nat.eq_of_beq_eq_true hb) hi0
    have hc:Nat.beq j 0=false:=by
     cases hb:Nat.beq j 0 with
     |false=>rfl
     |true=>exact absurd (Nat.eq_of_beq_eq_true hb) hj0
    cases h1:Nat.beq (i%2) 1<;>cases h2:Nat.beq (j%2) 1
    ·have e1 : i % 2 ≠ 1 := fun e => by rw [e] at h1; cases h1
     have e2:j%2≠1:=fun e=>by rw[e]at h2;cases h2
     cases t<;>simp only[T.set,hb,hc,h1,h2,cond_true,cond_false,ih2 hi0 hj0 o_]
    ·cases t<;>simp only[T.set,hb,hc,h1,h2,cond_true,cond_false]
    ·cases t<;>simp only[T.set,hb,hc,h1,h2,cond_true,cond_false]
    ·have e1 := Nat.eq_of_beq_eq_true h1
     have e2:=Nat.eq_of_beq_eq_true h2
     cases t<;>simp only[T.set,hb,hc,h1,h2,cond_true,cond_false,ih hi0 hj0 o_]
theorem pt_comm{α:Type}(t:T α){i j:Nat}(x y:α)(h:i≠j):pt (pt t i x) j y=pt (pt t j y) i x:=by
 rw[pt_eq,pt_eq,pt_eq,pt_eq];exact T.set_comm _ _ _ _ _ _ _ (Nat.lt_succ_self _) (Nat.lt_succ_self _) h
def Qoy(ops:Array Oper)(na:Nat):Bool:=
 Nat.ble na ops.size&&(ops.toList.all fun o=>o.guard.isNone)&&Qdh (ops.extract 0 na)&&ops.toList.zipIdx.all fun p=>Nat.blt p.2 na||(List.range na).all fun k=>p.1.after.toList.any fun e=>Region.binds .any e&&Nat.beq e.on k
theorem Qt4{ops:Array Oper}{na:Nat}(h:Qoy ops na=true):Split (ops.extract 0 na) ops na (ops.size-na):=by
 unfold Qoy at h
 simp only[Bool.and_eq_true]at h
 obtain⟨⟨⟨h1,h2⟩,h3⟩,h4⟩:=h
 have h1:=Nat.le_of_ble_eq_true h1
 refine⟨by simp;omega,by omega,fun i hi=>?_,fun i o hi ho=>?_,h3,fun i o hi ho k hk=>?_⟩
 ·rw[Array.getElem?_extract,if_pos o_,Nat.zero_add]
 ·have := List.all_eq_true.1 h2 o (by rw [<- Array.getElem?_toList] at ho; exact List.mem_of_getElem? ho)
  simpa using this
 ·have := Qdo h4 ho
  rw[Bool.or_eq_true]at this
  rcases this with hc|hc
  ·exact absurd (Nat.le_of_ble_eq_true hc) o_
  ·have := List.all_eq_true.1 hc k (List.mem_range.2 hk)
   obtain⟨e,he,hb⟩:=List.any_eq_true.1 this
   rw[Bool.and_eq_true]at hb
   exact⟨e,by simpa using he,hb.1,Nat.eq_of_beq_eq_true hb.2⟩
noncomputable def kA(n:Nat)(sl:List (Nat×V))(H:T O)(nx:Nat)(lg:List Nat):Hs->St->Prop:=fun _ st=>bif Nat.beq st.tm.n n then slotsQ st.tm sl/\st.H=H/\st.nx=nx/\st.lg=lg else False
theorem Sat.regionTwo{P:Program}{E:Env}{sp:Qa7}(hE:E.Ok P)(hm:P.follows .mixedOrders=true){rd:Option Nat}{nx0 id n na:Nat}{gl:T (List V)}{sl slA:List (Nat×V)}{H HA:T O}{nx nA:Nat}{lg LA:List Nat}{ops:Array Oper}{R:Ex->St->Prop}(hsp:Qau P gl sp)(S:Qoy ops na=true){hs:Hs}
  (hA:Qbp P E sp (ops.extract 0 na) true hs (mkSo gl n sl H nx lg) (kA n slA HA nA LA))
  (hB:AnyT P E ops R (ops.size-na) (Array.replicate na true++Array.replicate (ops.size-na) false) (mkSo gl n slA HA nA LA)):Sat P rd nx0 (.region id ops true) (mkSo gl n sl H nx lg) R:=by
 refine Sat.regionSplit hE hm hsp (Qt4 S) hA fun hs' st' hgl hk=>?_
 unfold kA at hk
 obtain⟨hb1,k1,k2,k3,k4⟩:=Qae hk
 have hn':=Nat.eq_of_beq_eq_true hb1
 refine⟨slA,k1,?_⟩
 rw[k2,k3,k4,hn',hgl]
 exact hB
theorem CallSpec.yldS{P:Program}{E:Env}{sp:Qa7}(hE:E.Ok P)(hm:P.follows .mixedOrders=true){gl:T (List V)}(hsp:Qau P gl sp){n hd:Nat}{ars:List V}{H H1 H2:T O}{nx nx1 nx2:Nat}{tm tm1:TM}{ps:List Nat}{assign body:Code}{fn0:Nat}{sl0 sl1:List (Nat×V)}{lg1 L:List Nat}{hs0:Hs}{m0:Nat}
  (ho:gt H hd=some (.loop .ready none fn0 tm ps assign body))(xg:putPs tm ps ars=some tm1)(hn:tm1.n=n)(hg:tm1.gl=gl)(h0:slotsQ tm1 sl0)
  (ha:vc P E sp (some hd) nx m0 assign hs0 (mkSo gl n sl0 H nx []) (Qce n sl1 H1 nx1 lg1))(h1:gt H1 hd=some (.loop .ready none fn0 tm ps assign body))
  (hb:Sat P (some hd) nx body (mkSo gl n sl1 (pt H1 hd (.loop .busy none fn0 tm ps assign body)) nx1 (hd::lg1)) (fun e st=>e= .normal/\st.H=H2/\st.nx=nx2/\∀x,x∈st.lg->x∈L))
  (h2:gt H2 hd=some (.loop .busy none fn0 tm ps assign body))(hlog:Log H.get nx (pt H2 hd (.loop .ready none fn0 tm ps assign body)).get nx2 (hd::L)):
  CallSpec P gl (.yld hd) ars H nx ⟨.bool true,pt H2 hd (.loop .ready none fn0 tm ps assign body),nx2,hd::L⟩:=by
 rw[Qak]at ho h1 h2
 refine CallSpec.yld ho xg hlog ?_
 have hst:(⟨tm1,H,nx,[]⟩:St)=⟨⟨tm1.sl,gl,n⟩,H,nx,[]⟩:=by cases tm1;subst hn hg;rfl
 rw[hst]
 refine Sat.fewer (sl:=sl0) (by obtain⟨a,b,c⟩:=tm1;cases hn;cases hg;exact h0) ?_
 refine Sat.fewer_post ?_
 refine Sat.of_vc hE hm hsp rfl ha fun e hs' st' hgl hk=>?_
 unfold Qce at hk
 split at hk
 ·obtain ⟨hb1, k1, k2, k3, k4⟩ := Qae hk
  have hn':=Nat.eq_of_beq_eq_true hb1
  refine⟨sl1,k1,rfl,none,fn0,tm,ps,assign,body,by show st'.H.get hd=_;rw[k2];exact h1,?_⟩
  show Sat P (some hd) nx body ⟨_,st'.H.put hd _,st'.nx,hd::st'.lg⟩ _
  rw[k2,k3,k4]
  have e0:(mkSo st'.tm.gl st'.tm.n sl1 H1 nx1 lg1).tm=(mkSo gl n sl1 H1 nx1 lg1).tm:=by rw[hgl,hn']
  rw[e0]
  rw[pt_eq]at hb
  refine hb.mono fun e st2⟨he,q1,q2,q3⟩=>?_
  subst he
  refine⟨rfl,.busy,none,fn0,tm,ps,assign,body,by rw[q1];exact h2,rfl,?_,q2.symm,fun x hx=>?_⟩
  ·show pt H2 hd _ = _
   rw[q1,pt_eq];rfl
  ·rcases List.mem_cons.1 hx with hx | hx
   ·exact List.mem_cons.2 (.inl hx)
   ·exact List.mem_cons_of_mem _ (q3 x hx)
 ·exact hk.elim
noncomputable abbrev o1C:Code:=at' 39 [1,1,1,1,0,1,0]
noncomputable def o1B:Code:=Qbb o1C
noncomputable def o1A:Code:=Qeh o1C
noncomputable abbrev o2C:Code:=sub [0,1,0] (Qbb o1C)
theorem o2_eq:o2C= .rangeFunc (.tmp 43) #[44] (Qeh o2C) (Qbb o2C):=by kernel_rfl
noncomputable def o2B:Code:=Qbb o2C
noncomputable def o2A:Code:=Qeh o2C
abbrev fcO(v:V):O:=.row 55 none [v]
abbrev fcL(A:List V):O:=.row 57 (some 3) A
abbrev s20(hb t:Nat):List (Nat×V):=[(1,.ptr 0 0),(3,.ptr 2 0),(5,.ptr 3 0),(6,.ptr hb 0),(44,u6 (t:Nat))]
abbrev s21(hb t:Nat):List (Nat×V):=[(1,.ptr 0 0),(3,.ptr 2 0),(5,.ptr 3 0),(6,.ptr hb 0),(7,u6 (t:Nat))]
theorem Qoc(rd hb t:Nat)(H:T O)(nx:Nat):vc Pg vE sp0 (some rd) nx 1000 o2A [] (mkSo g0 73 (s20 hb t) H nx []) (Qce 73 (s21 hb t) H nx []):=by
 refine m_ (p:=An [Bn [Sm (V.ptr 0 0),Sm (V.ptr 2 0),Sm (V.ptr 3 0),Sm (V.ptr hb 0),Sm (u6 t)],H=H,nx=nx,([]:List Nat)=[]]) ?_
 (repeat'(first|(with_reducible apply And.intro)|(refine fun(_:True)=>?_)))<;>first|exact aq|skip
 all_goals skip
theorem o2_miss(rd hb c t nx0 nx:Nat)(H:T O)(lg:List Nat)(hc:c<18446744073709551616)(ht:t<18446744073709551616)(hm:mi c t≠0)(hB:gt H hb=some (uO c)):
  vc Pg vE sp0 (some rd) nx0 1000 o2B [lo_ 45 (uO c) (u6 (c:Nat)),va 47 (u6 (mi c t:Nat)),no 48] (mkSo g0 73 (s21 hb t) H nx lg) (Qg5 H nx lg):=by
 have s1:=mi_u (G:=Qac Pg) (t:=29) hc ht
 obtain⟨z,hz⟩: ∃z,z=mi c t:=⟨_,rfl⟩
 rw[<-hz]at s1 hm⊢
 refine m_ (p:=An [gt H hb=some (uO c),headF [u6 c]=some (u6 c),binV (Qac Try.prog) BinOp.andNot 29 (u6 c) (u6 t)=some (u6 z),((z:Int)==0)=false,H=H,nx=nx,lg=lg]) ?_
 (repeat'(first|(with_reducible apply And.intro)|(refine fun(_:True)=>?_)))<;>first|exact aq|skip
 all_goals first|rfl|exact s1|exact hB|skip
noncomputable def rgOps:Code->Array Oper
 | .region _ ops _=>ops
 | _=> #[]
noncomputable def rgId:Code->Nat
 | .region i _ _=>i
 | _=>0
noncomputable def o2R:Code:=sub [0,1,0] o2B
noncomputable def o2P:Array Oper:=rgOps o2R
theorem Qoe:Qoy o2P 14=true:=by kernel_rfl
theorem Qs3:o2P.size=17:=by kernel_rfl
theorem Qs0:o2R= .region (rgId o2R) o2P true:=by kernel_rfl
theorem o2B_eq:o2B= .block 3 (.seq (sub [0,0] o2B) (.cond (.tmp 48) o2R .skip)):=by kernel_rfl
abbrev s2A(u:Int)(v:V)(X1:List V):List (Nat×V):=[(5,.ptr 3 0),(59,.agg X1),(60,i6 u),(62,v)]
abbrev zO:O:=.row 57 none [i6 0,u6 0,.nils]
theorem src_z{H:T O}{nx:Nat}:srcV (pt H nx zO) 3 (.sl nx 0 1 (some 0))=some (1,[i6 0,u6 0,.nils]):=by
 unfold srcV;dsimp only;rw[pt_eq,T.get_put,if_pos rfl];rfl
theorem o2_hitA0(p j:List Nat)(xs ys:Nat)(od:List Nat)(hb c t all nx:Nat)(H:T O)(lg:List Nat)(hB:gt H hb=some (uO c))(h0:gt H 0=some (pO p j xs ys od))(h2:gt H 2=some (uO all))(h3:gt H 3=some (fcO .nils))
  (kq vq nq:Nat)(X:List V)(k1 v1 n1:Nat)(X1:List V)(hX:HfL X)(hX1:HfL X1)
  (htab:FnOk Pg g0 67 [u6 all] (.agg [i6 (1:Nat),u6 (all:Nat),.im 0 noL]))
  (xy:FnOk Pg g0 66 [.imp (prC p j xs ys od),u6 t,u6 all,.agg [i6 (1:Nat),u6 (all:Nat),.im 0 noL]] (.agg [i6 (kq:Nat),u6 (vq:Nat),.im nq X]))
  (xk:FnOk Pg g0 65 [.imp (prC p j xs ys od),u6 c,u6 t,.agg [i6 (kq:Nat),u6 (vq:Nat),.im nq X]] (.agg [i6 (k1:Nat),u6 (v1:Nat),.im n1 X1])):
  Qbp Pg vE sp0 (o2P.extract 0 14) true [lo_ 56 (uO all) (u6 (all:Nat)),fn 57 (.agg [i6 (1:Nat),u6 (all:Nat),.im 0 noL]),lo_ 53 (pO p j xs ys od) (.imp (prC p j xs ys od)),lo_ 55 (uO all) (u6 (all:Nat)),fn 58 (.agg [i6 (kq:Nat),u6 (vq:Nat),.im nq X]),lo_ 50 (pO p j xs ys od) (.imp (prC p j xs ys od)),lo_ 51 (uO c) (u6 (c:Nat)),fn 59 (.agg [i6 (k1:Nat),u6 (v1:Nat),.im n1 X1]),lo_ 49 (fcO .nils) .nils,(62,.an 1 [i6 0,u6 0,.nils])]
   (mkSo g0 73 (s21 hb t) H nx lg) (kA 73 (s2A 0 (.sl (nx+1) 0 1 none) [i6 (k1:Nat),u6 (v1:Nat),.im n1 X1]) (pt (pt H nx zO) (nx+1) (fcL [i6 0,u6 0,.nils])) (nx+1+1) lg):=by
 have hp:=Qaf p
 have hj:=Qaf j
 have ho:=Qbk od
 refine m_ (p:=let y1:=Bn [Tt,Tt,Tt,TT 3];let z1:=V.imp (prC p j xs ys od);let z2:=V.agg [i6 kq,u6 vq,V.im nq X];let z3:=V.agg [i6 k1,u6 v1,V.im n1 X1];let z4:=u6 ↑all;let z5:=[i6 0,u6 0,V.nils];let z9:=some (pO p j xs ys od);let y0:=V.sl (nx+1) 0 1 none;let z0:=V.agg [i6 ↑(1:Nat),z4,V.im 0 noL];let z6:=[z1,u6 c,u6 t,z2];let z8:=pt H nx (O.row 57 none z5);let z7:=[z1,u6 t,z4,z0];An [gt H 2=some (uO all),headF [z4]=some z4,Bn [Tt],FnOk Pg g0 67 [z4] z0,Tt,gt H 0=z9,headF [z1]=some z1,gt H 2=some (uO all),headF [z4]=some z4,y1,FnOk Pg g0 66 z7 z2,Bn [(V.fn 67 []=V.fn 66 []->[z4]=z7->H=H->nx=nx->CR.mk z0 H nx []=CR.mk z2 H nx [])],gt H 0=z9,headF [z1]=some z1,gt H hb=some (uO c),headF [u6 c]=some (u6 c),y1,FnOk Pg g0 65 z6 z3,Bn [(V.fn 66 []=V.fn 65 []->z7=z6->H=H->nx=nx->CR.mk z2 H nx []=CR.mk z3 H nx []),(V.fn 67 []=V.fn 65 []->[z4]=z6->H=H->nx=nx->CR.mk z0 H nx []=CR.mk z3 H nx [])],gt H 3=some (fcO V.nils),headF [V.nils]=some V.nils,An [srcV z8 3 (V.sl nx 0 1 (some 0))=some (1,z5),1<=9223372036854775807,1*40<=140737488355328],Bn [Sm (V.ptr 3 0),z3=z3,i6 ↑(0:Nat)=i6 0,y0=y0],pt z8 (nx+1) (O.row 57 (some 3) z5)=pt (pt H nx zO) (nx+1) (fcL z5),Sm (nx+1+1),[]++([]++([]++([]++lg)))=lg]) ?_
 (repeat'(first|(with_reducible apply And.intro)|(refine fun(_:True)=>?_)))<;>first|exact aq|skip
 all_goals first|rfl|exact src_z|exact hB|exact h0|exact h2|exact h3|skip
theorem o2_hitA1(p j:List Nat)(xs ys:Nat)(od:List Nat)(hb c t all nx:Nat)(H:T O)(lg:List Nat)(hB:gt H hb=some (uO c))(h0:gt H 0=some (pO p j xs ys od))(h2:gt H 2=some (uO all))(h w:Nat)(A:List V)(hA:A.length=(w+1)*3)(hw:w<=100000)(hh:h<nx)(h3:gt H 3=some (fcO (.sl h 0 (w+1) none)))(h4:gt H h=some (fcL A))
  (kq vq nq:Nat)(X:List V)(k1 v1 n1:Nat)(X1:List V)(hX:HfL X)(hX1:HfL X1)
  (htab:FnOk Pg g0 67 [u6 all] (.agg [i6 (1:Nat),u6 (all:Nat),.im 0 noL]))
  (xy:FnOk Pg g0 66 [.imp (prC p j xs ys od),u6 t,u6 all,.agg [i6 (1:Nat),u6 (all:Nat),.im 0 noL]] (.agg [i6 (kq:Nat),u6 (vq:Nat),.im nq X]))
  (xk:FnOk Pg g0 65 [.imp (prC p j xs ys od),u6 c,u6 t,.agg [i6 (kq:Nat),u6 (vq:Nat),.im nq X]] (.agg [i6 (k1:Nat),u6 (v1:Nat),.im n1 X1])):
  Qbp Pg vE sp0 (o2P.extract 0 14) true [lo_ 56 (uO all) (u6 (all:Nat)),fn 57 (.agg [i6 (1:Nat),u6 (all:Nat),.im 0 noL]),lo_ 53 (pO p j xs ys od) (.imp (prC p j xs ys od)),lo_ 55 (uO all) (u6 (all:Nat)),fn 58 (.agg [i6 (kq:Nat),u6 (vq:Nat),.im nq X]),lo_ 50 (pO p j xs ys od) (.imp (prC p j xs ys od)),lo_ 51 (uO c) (u6 (c:Nat)),fn 59 (.agg [i6 (k1:Nat),u6 (v1:Nat),.im n1 X1]),lo_ 49 (fcO (.sl h 0 (w+1) none)) (.sl h 0 (w+1) none),(62,.ao (fcL A) 1 [i6 0,u6 0,.nils])]
   (mkSo g0 73 (s21 hb t) H nx lg) (kA 73 (s2A ((w+1:Nat):Int) (.sl (nx+1) 0 (w+1+1) none) [i6 (k1:Nat),u6 (v1:Nat),.im n1 X1]) (pt (pt (pt H nx zO) h .dead) (nx+1) (fcL (A++[i6 0,u6 0,.nils]))) (nx+1+1) (h::lg)):=by
 have hp:=Qaf p
 have hj:=Qaf j
 have ho:=Qbk od
 refine m_ (p:=let y2:=Bn [Tt,Tt,Tt,TT 3];let z1:=V.imp (prC p j xs ys od);let z2:=V.agg [i6 kq,u6 vq,V.im nq X];let z3:=V.agg [i6 k1,u6 v1,V.im n1 X1];let z4:=[i6 0,u6 0,V.nils];let z5:=u6 ↑all;let z8:=V.sl h 0 (w+1) none;let y0:=V.sl (nx+1) 0 (w+1+1) none;let y1:=some (pO p j xs ys od);let z0:=V.agg [i6 ↑(1:Nat),z5,V.im 0 noL];let z6:=pt H nx (O.row 57 none z4);let z7:=[z1,u6 c,u6 t,z2];let z9:=[z1,u6 t,z5,z0];An [gt H 2=some (uO all),headF [z5]=some z5,Bn [Tt],FnOk Pg g0 67 [z5] z0,Tt,gt H 0=y1,headF [z1]=some z1,gt H 2=some (uO all),headF [z5]=some z5,y2,FnOk Pg g0 66 z9 z2,Bn [(V.fn 67 []=V.fn 66 []->[z5]=z9->H=H->nx=nx->CR.mk z0 H nx []=CR.mk z2 H nx [])],gt H 0=y1,headF [z1]=some z1,gt H hb=some (uO c),headF [u6 c]=some (u6 c),y2,FnOk Pg g0 65 z7 z3,Bn [(V.fn 66 []=V.fn 65 []->z9=z7->H=H->nx=nx->CR.mk z2 H nx []=CR.mk z3 H nx []),(V.fn 67 []=V.fn 65 []->[z5]=z7->H=H->nx=nx->CR.mk z0 H nx []=CR.mk z3 H nx [])],gt H 3=some (fcO z8),headF [z8]=some z8,srcV z6 3 (V.sl nx 0 1 (some 0))=some (1,z4),gt z6 h=some (fcL A),A.length=(w+1)*3,w+1+1<=9223372036854775807,(w+1+1)*40<=140737488355328,Bn [Sm (V.ptr 3 0),z3=z3,Sm (i6 ↑(w+1)),y0=y0],pt (pt z6 h O.dead) (nx+1) (O.row 57 (some 3) (A++z4))=pt (pt (pt H nx zO) h O.dead) (nx+1) (fcL (A++z4)),Sm (nx+1+1),[h]++([]++([]++([]++lg)))=h::lg]) ?_
 (repeat'(first|(with_reducible apply And.intro)|(refine fun(_:True)=>?_)))<;>first|exact aq|skip
 all_goals first|rfl|exact src_z|exact hB|exact h0|exact h2|exact h3|(rw[gt_pt,if_neg o_];exact h4)|skip
theorem Qbx{P:Program}{E:Env}{sp:Qa7}{ops:Array Oper}{R:Ex->St->Prop}{f i:Nat}{b:Array Bool}{st:St}{o:Oper}{hs:Hs}(hsp:Qau P st.tm.gl sp)(ho:ops[i]? =some o)(h: ∀G:St->Prop,(∀st1,AnyT P E ops R f (b.setIfInBounds i true) st1->G st1)->Qe8 P E sp ops (fun _ _ st1=>G st1) [o] hs [] st):
  ∃o st1 call,ops[i]? =some o/\Qbj P st.tm.gl call/\seqR E call ops [o] st=some st1/\st1.tm.gl=st.tm.gl/\AnyT P E ops R f (b.setIfInBounds i true) st1:=by
 obtain⟨st1,call,hs',qs,h1,h2,h3,h4⟩:=op_step hsp (h _ fun _ h=>h)
 exact⟨o,st1,call,ho,h1,h2,h3,h4⟩
abbrev b0:Array Bool:=Array.replicate 14 true++Array.replicate 3 false
noncomputable abbrev opK(i:Nat):Oper:=o2P.getD i default
theorem lay_end{A:List V}{n:Nat}{a b c x y z:V}(h:A.length=n):layE (0+n) (A++[a,b,c]) [x,y,z]=some (A++[x,y,z]):=by
 subst h
 rw[Nat.zero_add]
 induction A with
 |nil=>rfl
 |cons v A ih=>
  show(match layE A.length (A++[a,b,c]) [x,y,z]with|some l=>some (v::l)|none=>none)=_
  rw[ih];rfl
theorem Qs4(u hn nA:Nat)(HA:T O)(LA:List Nat)(A:List V)(hAl:A.length=u*3)(v0:V)(k1 v1 n1:Nat)(X1:List V)(hX:HfL X1)(hu:u<=100000)(hn3:hn≠3)(h1:gt HA hn=some (fcL (A++[i6 0,u6 0,.nils])))(h3:gt HA 3=some (fcO v0)):
  AnyT Pg vE o2P (fun e st=>e= .normal/\st.H=pt (pt HA hn (fcL (A++[i6 (k1:Nat),u6 (v1:Nat),.im n1 X1]))) 3 (fcO (.sl hn 0 (u+1) none))/\st.nx=nA/\∀g,g∈st.lg->g∈hn::3::LA) 3 b0 (mkSo g0 73 (s2A (u:Int) (.sl hn 0 (u+1) none) [i6 (k1:Nat),u6 (v1:Nat),.im n1 X1]) HA nA LA):=by
 have hl:=@lay_end A (u*3) (i6 0) (u6 0) .nils (i6 (k1:Nat)) (u6 (v1:Nat)) (.im n1 X1) hAl
 have h3':gt (pt HA hn (fcL (A++[i6 (k1:Nat),u6 (v1:Nat),.im n1 X1]))) 3=some (fcO v0):=by rw[gt_pt,if_neg (fun e=>hn3 e.symm)];exact h3
 have h1':gt (pt HA 3 (fcO (.sl hn 0 (u+1) none))) hn=some (fcL (A++[i6 0,u6 0,.nils])):=by rw[gt_pt,if_neg hn3];exact h1
 have hcm:=pt_comm HA (fcO (.sl hn 0 (u+1) none)) (fcL (A++[i6 (k1:Nat),u6 (v1:Nat),.im n1 X1])) (fun e=>hn3 e.symm)
 have hlg: ∀g:Nat,g∈(3::hn::LA)->g∈hn::3::LA:=fun g hg=>by
  rcases List.mem_cons.1 hg with h|hg
  ·exact List.mem_cons_of_mem _ (List.mem_cons.2 (.inl h))
  ·rcases List.mem_cons.1 hg with h | hg
   ·exact List.mem_cons.2 (.inl h)
   ·exact List.mem_cons_of_mem _ (List.mem_cons_of_mem _ hg)
 have hlg2: ∀g:Nat,g∈(hn::3::LA)->g∈hn::3::LA:=fun g hg=>hg
 refine⟨fun h0=>absurd h0 (by rw[show Region.ready .any o2P _=[14,16]by kernel_rfl];exact fun h=>by cases h),fun i hi=>?_⟩
 rw[show Region.ready .any o2P _=[14,16]by kernel_rfl]at hi
 simp only[List.mem_cons,List.not_mem_nil,or_false]at hi
 rcases hi with rfl|rfl
 ·refine Qbx (sp := sp0) (hs := [pl 63]) (by exact Qab) (show o2P[14]? = some (opK 14) by kernel_rfl) (fun G hG => ?_)
  refine Eq.mp (by kernel_rfl:(let z0:=(↑u:Int);((0:Int)≤z0∧z0<(↑(u+1):Int))∧G (St.mk (fput (TM.mk (putL (blank 73) (s2A z0 (V.sl hn 0 (u+1) none) [i6 ↑k1,u6 ↑v1,V.im n1 X1])) g0 73) (some 63) (V.ptr hn (0+u*3))) HA nA LA))=_) ?_
  (repeat'(first|(with_reducible apply And.intro)|(refine fun(_:True)=>?_)))
  all_goals first|exact hn3|exact hl|exact h1|exact h3|exact h1'|exact h3'|exact hX|exact hu|with_reducible rfl|omega|(with_reducible refine hG _ ?_)|rfl
  refine⟨fun h0=>absurd h0 (by rw[show Region.ready .any o2P _=[15,16]by kernel_rfl];exact fun h=>by cases h),fun i hi=>?_⟩
  rw[show Region.ready .any o2P _=[15,16]by kernel_rfl]at hi
  simp only[List.mem_cons,List.not_mem_nil,or_false]at hi
  rcases hi with rfl|rfl
  ·refine Qbx (sp := sp0) (hs := [so (fcL (A ++ [i6 0, u6 0, .nils])) (A ++ [i6 (k1 : Nat), u6 (v1 : Nat), .im n1 X1])]) (by exact Qab) (show o2P[15]? = some (opK 15) by kernel_rfl) (fun G hG => ?_)
   refine Eq.mp (by kernel_rfl:(let z0:=[i6 ↑k1,u6 ↑v1,V.im n1 X1];(gt HA hn=some (fcL (A++[i6 0,u6 0,V.nils]))∧layE (0+u*3) (A++[i6 0,u6 0,V.nils]) z0=some (A++z0))∧G (St.mk (fput (fput (TM.mk (putL (blank 73) (s2A (↑u:Int) (V.sl hn 0 (u+1) none) z0)) g0 73) (some 63) (V.ptr hn (0+u*3))) none (V.tup [])) (pt HA hn (O.row 57 (some 3) (A++z0))) nA ([hn]++LA)))=_) ?_
   (repeat'(first|(with_reducible apply And.intro)|(refine fun(_:True)=>?_)))
   all_goals first|exact hn3|exact hl|exact h1|exact h3|exact h1'|exact h3'|exact hX|exact hu|with_reducible rfl|omega|(with_reducible refine hG _ ?_)|rfl
   refine⟨fun h0=>absurd h0 (by rw[show Region.ready .any o2P _=[16]by kernel_rfl];exact fun h=>by cases h),fun i hi=>?_⟩
   rw[show Region.ready .any o2P _=[16]by kernel_rfl]at hi
   obtain rfl:=List.mem_singleton.1 hi
   refine Qbx (sp:=sp0) (hs:=[so (fcO v0) [.sl hn 0 (u+1) none]]) (by exact Qab) (show o2P[16]? =some (opK 16)by kernel_rfl) (fun G hG=>?_)
   refine Eq.mp (by kernel_rfl:(let z1:=V.sl hn 0 (u+1) none;let z2:=[i6 ↑k1,u6 ↑v1,V.im n1 X1];let z0:=pt HA hn (O.row 57 (some 3) (A++z2));(gt z0 3=some (fcO v0)∧layE 0 [v0] [z1]=some [z1])∧G (St.mk (fput (fput (fput (TM.mk (putL (blank 73) (s2A (↑u:Int) z1 z2)) g0 73) (some 63) (V.ptr hn (0+u*3))) none (V.tup [])) none (V.tup [])) (pt z0 3 (O.row 55 none [z1])) nA ([3]++([hn]++LA))))=_) ?_
   (repeat'(first|(with_reducible apply And.intro)|(refine fun(_:True)=>?_)))
   all_goals first|exact hn3|exact hl|exact h1|exact h3|exact h1'|exact h3'|exact hX|exact hu|with_reducible rfl|omega|(with_reducible refine hG _ ?_)|rfl
   refine⟨by kernel_rfl,rfl,?_,rfl,?_⟩
   ·first|rfl|exact hcm|exact hcm.symm
   ·first|exact hlg|exact hlg2
  ·refine Qbx (sp := sp0) (hs := [so (fcO v0) [.sl hn 0 (u + 1) none]]) (by exact Qab) (show o2P[16]? = some (opK 16) by kernel_rfl) (fun G hG => ?_)
   refine Eq.mp (by kernel_rfl:(let z0:=V.sl hn 0 (u+1) none;(gt HA 3=some (fcO v0)∧layE 0 [v0] [z0]=some [z0])∧G (St.mk (fput (fput (TM.mk (putL (blank 73) (s2A (↑u:Int) z0 [i6 ↑k1,u6 ↑v1,V.im n1 X1])) g0 73) (some 63) (V.ptr hn (0+u*3))) none (V.tup [])) (pt HA 3 (O.row 55 none [z0])) nA ([3]++LA)))=_) ?_
   (repeat'(first|(with_reducible apply And.intro)|(refine fun(_:True)=>?_)))
   all_goals first|exact hn3|exact hl|exact h1|exact h3|exact h1'|exact h3'|exact hX|exact hu|with_reducible rfl|omega|(with_reducible refine hG _ ?_)|rfl
   refine⟨fun h0=>absurd h0 (by rw[show Region.ready .any o2P _=[15]by kernel_rfl];exact fun h=>by cases h),fun i hi=>?_⟩
   rw[show Region.ready .any o2P _=[15]by kernel_rfl]at hi
   obtain rfl:=List.mem_singleton.1 hi
   refine Qbx (sp:=sp0) (hs:=[so (fcL (A++[i6 0,u6 0,.nils])) (A++[i6 (k1:Nat),u6 (v1:Nat),.im n1 X1])]) (by exact Qab) (show o2P[15]? =some (opK 15)by kernel_rfl) (fun G hG=>?_)
   refine Eq.mp (by kernel_rfl:(let z0:=[i6 ↑k1,u6 ↑v1,V.im n1 X1];let z2:=V.sl hn 0 (u+1) none;let z1:=pt HA 3 (O.row 55 none [z2]);(gt z1 hn=some (fcL (A++[i6 0,u6 0,V.nils]))∧layE (0+u*3) (A++[i6 0,u6 0,V.nils]) z0=some (A++z0))∧G (St.mk (fput (fput (fput (TM.mk (putL (blank 73) (s2A (↑u:Int) z2 z0)) g0 73) (some 63) (V.ptr hn (0+u*3))) none (V.tup [])) none (V.tup [])) (pt z1 hn (O.row 57 (some 3) (A++z0))) nA ([hn]++([3]++LA))))=_) ?_
   (repeat'(first|(with_reducible apply And.intro)|(refine fun(_:True)=>?_)))
   all_goals first|exact hn3|exact hl|exact h1|exact h3|exact h1'|exact h3'|exact hX|exact hu|with_reducible rfl|omega|(with_reducible refine hG _ ?_)|rfl
   refine⟨by kernel_rfl,rfl,?_,rfl,?_⟩
   ·first|rfl|exact hcm|exact hcm.symm
   ·first|exact hlg|exact hlg2
 ·refine Qbx (sp := sp0) (hs := [so (fcO v0) [.sl hn 0 (u + 1) none]]) (by exact Qab) (show o2P[16]? = some (opK 16) by kernel_rfl) (fun G hG => ?_)
  refine Eq.mp (by kernel_rfl:(let z0:=V.sl hn 0 (u+1) none;(gt HA 3=some (fcO v0)∧layE 0 [v0] [z0]=some [z0])∧G (St.mk (fput (TM.mk (putL (blank 73) (s2A (↑u:Int) z0 [i6 ↑k1,u6 ↑v1,V.im n1 X1])) g0 73) none (V.tup [])) (pt HA 3 (O.row 55 none [z0])) nA ([3]++LA)))=_) ?_
  (repeat'(first|(with_reducible apply And.intro)|(refine fun(_:True)=>?_)))
  all_goals first|exact hn3|exact hl|exact h1|exact h3|exact h1'|exact h3'|exact hX|exact hu|with_reducible rfl|omega|(with_reducible refine hG _ ?_)|rfl
  refine⟨fun h0=>absurd h0 (by rw[show Region.ready .any o2P _=[14]by kernel_rfl];exact fun h=>by cases h),fun i hi=>?_⟩
  rw[show Region.ready .any o2P _=[14]by kernel_rfl]at hi
  obtain rfl:=List.mem_singleton.1 hi
  refine Qbx (sp:=sp0) (hs:=[pl 63]) (by exact Qab) (show o2P[14]? =some (opK 14)by kernel_rfl) (fun G hG=>?_)
  refine Eq.mp (by kernel_rfl:(let z0:=V.sl hn 0 (u+1) none;let z1:=(↑u:Int);((0:Int)≤z1∧z1<(↑(u+1):Int))∧G (St.mk (fput (fput (TM.mk (putL (blank 73) (s2A z1 z0 [i6 ↑k1,u6 ↑v1,V.im n1 X1])) g0 73) none (V.tup [])) (some 63) (V.ptr hn (0+u*3))) (pt HA 3 (O.row 55 none [z0])) nA ([3]++LA)))=_) ?_
  (repeat'(first|(with_reducible apply And.intro)|(refine fun(_:True)=>?_)))
  all_goals first|exact hn3|exact hl|exact h1|exact h3|exact h1'|exact h3'|exact hX|exact hu|with_reducible rfl|omega|(with_reducible refine hG _ ?_)|rfl
  refine⟨fun h0=>absurd h0 (by rw[show Region.ready .any o2P _=[15]by kernel_rfl];exact fun h=>by cases h),fun i hi=>?_⟩
  rw[show Region.ready .any o2P _=[15]by kernel_rfl]at hi
  obtain rfl:=List.mem_singleton.1 hi
  refine Qbx (sp:=sp0) (hs:=[so (fcL (A++[i6 0,u6 0,.nils])) (A++[i6 (k1:Nat),u6 (v1:Nat),.im n1 X1])]) (by exact Qab) (show o2P[15]? =some (opK 15)by kernel_rfl) (fun G hG=>?_)
  refine Eq.mp (by kernel_rfl:(let z0:=[i6 ↑k1,u6 ↑v1,V.im n1 X1];let z2:=V.sl hn 0 (u+1) none;let z1:=pt HA 3 (O.row 55 none [z2]);(gt z1 hn=some (fcL (A++[i6 0,u6 0,V.nils]))∧layE (0+u*3) (A++[i6 0,u6 0,V.nils]) z0=some (A++z0))∧G (St.mk (fput (fput (fput (TM.mk (putL (blank 73) (s2A (↑u:Int) z2 z0)) g0 73) none (V.tup [])) (some 63) (V.ptr hn (0+u*3))) none (V.tup [])) (pt z1 hn (O.row 57 (some 3) (A++z0))) nA ([hn]++([3]++LA))))=_) ?_
  (repeat'(first|(with_reducible apply And.intro)|(refine fun(_:True)=>?_)))
  all_goals first|exact hn3|exact hl|exact h1|exact h3|exact h1'|exact h3'|exact hX|exact hu|with_reducible rfl|omega|(with_reducible refine hG _ ?_)|rfl
  refine⟨by kernel_rfl,rfl,?_,rfl,?_⟩
  ·first|rfl|exact hcm|exact hcm.symm
  ·first|exact hlg|exact hlg2
theorem Qg8{H H':T O}{nx nx':Nat}{L:List Nat}(hle:nx<=nx')(h: ∀i,i∉L->¬(nx<=i/\i<nx')->gt H' i=gt H i):Log H.get nx H'.get nx' L:=
 ⟨hle,fun i h1 h2=>by rw[<-Qak,<-Qak];exact h i h1 h2⟩
def fcM(av:List Nat)(fs:List Es)(H:T O)(nx:Nat):Prop:=
 (fs=[]/\gt H 3=some (fcO .nils))\/∃h w,4<h/\h<nx/\h∉av/\fs.length=w+1/\gt H 3=some (fcO (.sl h 0 (w+1) none))/\gt H h=some (fcL (esL fs))
structure InM(p j:List Nat)(xs ys:Nat)(od:List Nat)(all c hb hl:Nat)(L2 Lo:O)(fs:List Es)(H:T O)(nx:Nat):Prop where
 m0:gt H 0=some (pO p j xs ys od)
 m1:gt H 1=some esZ
 m2:gt H 2=some (uO all)
 m4:gt H 4=some Lo
 mb:gt H hb=some (uO c)
 ml:gt H hl=some L2
 mf:fcM [hb,hl] fs H nx
 b1:4<hb
 b2:hb<hl
 b3:hl<nx
abbrev sl2(p j:List Nat)(hb all:Nat):List (Nat×V):=[(1,.ptr 0 0),(3,.ptr 2 0),(5,.ptr 3 0),(6,.ptr hb 0),(43,ptC p j all)]
noncomputable abbrev tm2(p j:List Nat)(hb all:Nat):TM:=(mkSo g0 73 (sl2 p j hb all) .e 0 []).tm
noncomputable abbrev lp2(fn0:Nat)(p j:List Nat)(hb all:Nat)(ls:LoopState):O:=.loop ls none fn0 (tm2 p j hb all) [44] o2A o2B
section
variable (p j:List Nat) (xs ys:Nat) (od:List Nat) (all c hb hl fn0:Nat) (Lo:O)
theorem in_miss(fs:List Es)(H:T O)(nx t:Nat)(M:InM p j xs ys od all c hb hl (lp2 fn0 p j hb all .ready) Lo fs H nx)(hc:c<18446744073709551616)(ht:t<18446744073709551616)(hm:mi c t≠0):
  ∃L,CallSpec Pg g0 (.yld hl) [u6 (t:Nat)] H nx ⟨.bool true,H,nx,L⟩:=by
 have hne:hb≠hl:=Nat.ne_of_lt M.b2
 have hbB:gt (pt H hl (lp2 fn0 p j hb all .busy)) hb=some (uO c):=by rw[gt_pt,if_neg hne];exact M.mb
 have hv:=o2_miss hl hb c t nx nx (pt H hl (lp2 fn0 p j hb all .busy)) [hl] hc ht hm hbB
 have xw:Sat Pg (some hl) nx o2B (mkSo g0 73 (s21 hb t) (pt H hl (lp2 fn0 p j hb all .busy)) nx [hl]) (fun e st=>e= .normal/\st.H=pt H hl (lp2 fn0 p j hb all .busy)/\st.nx=nx/\∀x,x∈st.lg->x∈[hl]):=by
  refine(Sat.of_vc vE_ok mixed Qab rfl hv fun e hs' st' hgl hk=>?_)
  unfold Qg5 at hk
  split at hk
  ·exact⟨rfl,hk.1,hk.2.1,fun x hx=>by rw[hk.2.2]at hx;exact hx⟩
  ·exact hk.elim
 have key:=CallSpec.yldS vE_ok mixed Qab (n:=73) (hd:=hl) (ars:=[u6 (t:Nat)]) (H:=H) (H1:=H) (fn0:=fn0) (tm:=tm2 p j hb all) (ps:=[44]) (assign:=o2A) (body:=o2B) (sl0:=s20 hb t) (sl1:=s21 hb t) (lg1:=[]) (m0:=1000) M.ml rfl rfl rfl ⟨rfl,rfl,rfl,rfl,rfl,trivial⟩ (Qoc hl hb t H nx) M.ml xw (by rw[gt_pt,if_pos rfl]) (Qg8 (Nat.le_refl _) (fun i hi _=>by rw[Qhm,Qhn M.ml]))
 rw[Qhm,Qhn M.ml]at key
 exact⟨_,key⟩
end
set_option maxHeartbeats 1000000
set_option maxRecDepth 100000
abbrev s22(hb t:Nat):List (Nat×V):=[(1,.ptr 0 0),(3,.ptr 2 0),(5,.ptr 3 0),(6,.ptr hb 0),(7,u6 (t:Nat)),(48,.bool true)]
theorem Qod(rd hb c t nx0 nx:Nat)(H:T O)(lg:List Nat)(hc:c<18446744073709551616)(ht:t<18446744073709551616)(hm:mi c t=0)(hB:gt H hb=some (uO c)):
  vc Pg vE sp0 (some rd) nx0 1000 (sub [0,0] o2B) [lo_ 45 (uO c) (u6 (c:Nat)),va 47 (u6 (0:Nat)),yes 48] (mkSo g0 73 (s21 hb t) H nx lg) (Qce 73 (s22 hb t) H nx lg):=by
 have s1:=mi_u (G:=Qac Pg) (t:=29) hc ht
 rw[hm]at s1
 refine m_ (p:=An [gt H hb=some (uO c),headF [u6 c]=some (u6 c),binV (Qac Try.prog) BinOp.andNot 29 (u6 c) (u6 t)=some (u6 ↑(0:Nat)),(((0:Nat):Int)==0)=true,Bn [Sm (V.ptr 0 0),Sm (V.ptr 2 0),Sm (V.ptr 3 0),Sm (V.ptr hb 0),Sm (u6 t),Sm (V.bool true)],H=H,nx=nx,lg=lg]) ?_
 (repeat'(first|(with_reducible apply And.intro)|(refine fun(_:True)=>?_)))<;>first|exact aq|skip
 all_goals first|rfl|exact s1|exact hB|skip
theorem Qs1(rd hb c t nx0 nx:Nat)(H:T O)(lg:List Nat)(hc:c<18446744073709551616)(ht:t<18446744073709551616)(hm:mi c t=0)(hB:gt H hb=some (uO c)){R:St->Prop}
  (h:Sat Pg (some rd) nx0 o2R (mkSo g0 73 (s21 hb t) H nx lg) (fun e st=>e= .normal/\R st)):Sat Pg (some rd) nx0 o2B (mkSo g0 73 (s21 hb t) H nx lg) (fun e st=>e= .normal/\R st):=by
 rw[o2B_eq]
 refine Sat.block (R':=fun e st=>e= .normal/\R st) ?_ (fun st1⟨he,_⟩=>by cases he) (fun e st1 _ h=>h)
 refine Sat.seq (R':=fun e st=>e= .normal/\st=mkSo g0 73 (s22 hb t) H nx lg) ?_ (fun st1⟨_,e⟩=>?_) (fun e st1 hne⟨he,_⟩=>absurd he hne)
 ·refine Sat.fewer_post (Sat.of_vc vE_ok mixed Qab rfl (Qod rd hb c t nx0 nx H lg hc ht hm hB) fun e hs' st' hgl hk => ?_)
  unfold Qce at hk
  split at hk
  ·obtain ⟨hb1, k1, k2, k3, k4⟩ := Qae hk
   have hn':=Nat.eq_of_beq_eq_true hb1
   exact⟨s22 hb t,k1,rfl,by rw[k2,k3,k4,hn',hgl];rfl⟩
  ·exact hk.elim
 ·subst e
  refine Sat.cond (t:=true) rfl ?_
  show Sat Pg (some rd) nx0 o2R _ _
  exact Sat.fewer (sl:=s21 hb t) ⟨rfl,rfl,rfl,rfl,rfl,trivial⟩ h
section
variable (p j:List Nat) (xs ys:Nat) (od:List Nat) (all c hb hl fn0:Nat) (Lo:O)
theorem in_hit(fs:List Es)(H:T O)(nx t:Nat)(M:InM p j xs ys od all c hb hl (lp2 fn0 p j hb all .ready) Lo fs H nx)(hc:c<18446744073709551616)(ht:t<18446744073709551616)(hm:mi c t=0)(hfl:fs.length<=10000)(q x:Es)
  (xy:FnOk Pg g0 66 [.imp (prC p j xs ys od),u6 t,u6 all,esV (.mk 1 all [])] (esV q))
  (xk:FnOk Pg g0 65 [.imp (prC p j xs ys od),u6 c,u6 t,esV q] (esV x)):
  ∃H' n' L,InM p j xs ys od all c hb hl (lp2 fn0 p j hb all .ready) Lo (fs++[x]) H' n'/\CallSpec Pg g0 (.yld hl) [u6 (t:Nat)] H nx ⟨.bool true,H',n',L⟩:=by
 have htab:=Qkb all
 obtain⟨kq,vq,nq,X,eq,hX⟩:=Qfs q
 obtain⟨k1,v1,n1,X1,e1,hX1⟩:=Qfs x
 change FnOk Pg g0 67 [u6 all] (.agg [i6 (1:Nat),u6 (all:Nat),.im 0 noL])at htab
 change FnOk Pg g0 66 [.imp (prC p j xs ys od),u6 t,u6 all,.agg [i6 (1:Nat),u6 (all:Nat),.im 0 noL]] (.agg (esC q))at xy
 change FnOk Pg g0 65 [.imp (prC p j xs ys od),u6 c,u6 t,.agg (esC q)] (.agg (esC x))at xk
 rw[eq]at xy xk
 rw[e1]at xk
 obtain⟨m0,m1,m2,m4,mb,ml,mf,b1,b2,b3⟩:=M
 obtain⟨Bz,hBz⟩: ∃B,B=lp2 fn0 p j hb all .busy:=⟨_,rfl⟩
 have hne:hb≠hl:=Nat.ne_of_lt b2
 have w0:gt (pt H hl Bz) 0=some (pO p j xs ys od):=by rw[gt_pt,if_neg o_];exact m0
 have w2:gt (pt H hl Bz) 2=some (uO all):=by rw[gt_pt,if_neg o_];exact m2
 have wb:gt (pt H hl Bz) hb=some (uO c):=by rw[gt_pt,if_neg hne];exact mb
 rcases mf with⟨hf0,m3⟩|⟨h,w,g1,g2,g3,g4,m3,g5⟩
 ·subst hf0
  have w3:gt (pt H hl Bz) 3=some (fcO .nils):=by rw[gt_pt,if_neg o_];exact m3
  have hA:=o2_hitA0 p j xs ys od hb c t all nx (pt H hl Bz) [hl] wb w0 w2 w3 kq vq nq X k1 v1 n1 X1 hX hX1 htab xy xk
  have hT:=Qs4 0 (nx+1) (nx+1+1) (pt (pt (pt H hl Bz) nx zO) (nx+1) (fcL [i6 0,u6 0,.nils])) [hl] [] rfl .nils k1 v1 n1 X1 hX1 d_ o_ (by rw[gt_pt,if_pos rfl];rfl) (by rw[gt_pt,if_neg o_,gt_pt,if_neg o_];exact w3)
  have hR:=Sat.regionTwo vE_ok mixed (rd:=some hl) (nx0:=nx) (id:=rgId o2R) Qab Qoe hA (by rw[Qs3];exact hT)
  rw[<-Qs0]at hR
  have hS:=Qs1 hl hb c t nx nx (pt H hl Bz) [hl] hc ht hm wb (R:=fun st=>st.H=_/\st.nx=_/\∀g,g∈st.lg->g∈ _) hR
  have key:=CallSpec.yldS vE_ok mixed Qab (n:=73) (hd:=hl) (ars:=[u6 (t:Nat)]) (H:=H) (H1:=H) (fn0:=fn0) (tm:=tm2 p j hb all) (ps:=[44]) (assign:=o2A) (body:=o2B) (sl0:=s20 hb t) (sl1:=s21 hb t) (lg1:=[]) (m0:=1000) ml rfl rfl rfl ⟨rfl,rfl,rfl,rfl,rfl,trivial⟩ (Qoc hl hb t H nx) ml (by rw[hBz]at hS;exact hS)
   (by rw[gt_pt,if_neg o_,gt_pt,if_neg o_,gt_pt,if_neg o_,gt_pt,if_neg o_,gt_pt,if_pos rfl])
   (Qg8 o_ (fun i hi hn => by
    simp only[List.mem_cons,List.not_mem_nil,or_false,not_or]at hi
    rw[gt_pt,if_neg hi.1,gt_pt,if_neg hi.2.2.1,gt_pt,if_neg hi.2.1,gt_pt,if_neg hi.2.1,gt_pt,if_neg o_,gt_pt,if_neg hi.1]))
  refine⟨_,_,_,?_,key⟩
  have keep: ∀i,i≠3->i≠hl->i<nx->∀o:O,gt (pt (pt (pt (pt (pt (pt H hl (lp2 fn0 p j hb all .busy)) nx zO) (nx+1) (fcL [i6 0,u6 0,.nils])) (nx+1) (fcL ([]++[i6 (k1:Nat),u6 (v1:Nat),.im n1 X1]))) 3 (fcO (.sl (nx+1) 0 (0+1) none))) hl o) i=gt H i:=fun i h3 hhl hlt o=>by
   rw[gt_pt,if_neg hhl,gt_pt,if_neg h3,gt_pt,if_neg o_,gt_pt,if_neg o_,gt_pt,if_neg o_,gt_pt,if_neg hhl]
  refine⟨by rw[keep 0 d_ o_ o_];exact m0,by rw[keep 1 d_ o_ o_];exact m1,by rw[keep 2 d_ o_ o_];exact m2,by rw[keep 4 d_ o_ o_];exact m4,by rw[keep hb o_ hne o_];exact mb,by rw[gt_pt,if_pos rfl],.inr ⟨nx+1,0,by omega,by omega,by simp only[List.mem_cons,List.not_mem_nil,or_false,not_or];omega,rfl,by rw[gt_pt,if_neg o_,gt_pt,if_pos rfl],?_⟩,b1,b2,by omega⟩
  rw[gt_pt,if_neg o_,gt_pt,if_neg o_,gt_pt,if_pos rfl,List.nil_append,List.nil_append,Qgu,e1]
 ·simp only [List.mem_cons, List.not_mem_nil, or_false, not_or] at g3
  have w3:gt (pt H hl Bz) 3=some (fcO (.sl h 0 (w+1) none)):=by rw[gt_pt,if_neg o_];exact m3
  have w4:gt (pt H hl Bz) h=some (fcL (esL fs)):=by rw[gt_pt,if_neg g3.2];exact g5
  have hAl:(esL fs).length=(w+1)*3:=by rw[Qgt,g4,Nat.mul_comm]
  have hA:=o2_hitA1 p j xs ys od hb c t all nx (pt H hl Bz) [hl] wb w0 w2 h w (esL fs) hAl o_ g2 w3 w4 kq vq nq X k1 v1 n1 X1 hX hX1 htab xy xk
  have hT:=Qs4 (w+1) (nx+1) (nx+1+1) (pt (pt (pt (pt H hl Bz) nx zO) h .dead) (nx+1) (fcL (esL fs++[i6 0,u6 0,.nils]))) [h,hl] (esL fs) hAl (.sl h 0 (w+1) none) k1 v1 n1 X1 hX1 o_ o_ (by rw[gt_pt,if_pos rfl]) (by rw[gt_pt,if_neg o_,gt_pt,if_neg o_,gt_pt,if_neg o_];exact w3)
  have hR:=Sat.regionTwo vE_ok mixed (rd:=some hl) (nx0:=nx) (id:=rgId o2R) Qab Qoe hA (by rw[Qs3];exact hT)
  rw[<-Qs0]at hR
  have hS:=Qs1 hl hb c t nx nx (pt H hl Bz) [hl] hc ht hm wb (R:=fun st=>st.H=_/\st.nx=_/\∀g,g∈st.lg->g∈ _) hR
  have key:=CallSpec.yldS vE_ok mixed Qab (n:=73) (hd:=hl) (ars:=[u6 (t:Nat)]) (H:=H) (H1:=H) (fn0:=fn0) (tm:=tm2 p j hb all) (ps:=[44]) (assign:=o2A) (body:=o2B) (sl0:=s20 hb t) (sl1:=s21 hb t) (lg1:=[]) (m0:=1000) ml rfl rfl rfl ⟨rfl,rfl,rfl,rfl,rfl,trivial⟩ (Qoc hl hb t H nx) ml (by rw[hBz]at hS;exact hS)
   (by rw[gt_pt,if_neg o_,gt_pt,if_neg o_,gt_pt,if_neg o_,gt_pt,if_neg o_,gt_pt,if_neg o_,gt_pt,if_pos rfl])
   (Qg8 o_ (fun i hi hn => by
    simp only[List.mem_cons,List.not_mem_nil,or_false,not_or]at hi
    rw[gt_pt,if_neg hi.1,gt_pt,if_neg hi.2.2.1,gt_pt,if_neg hi.2.1,gt_pt,if_neg hi.2.1,gt_pt,if_neg hi.2.2.2.1,gt_pt,if_neg o_,gt_pt,if_neg hi.1]))
  refine⟨_,_,_,?_,key⟩
  have keep: ∀i,i≠3->i≠hl->i≠h->i<nx->∀o:O,gt (pt (pt (pt (pt (pt (pt (pt H hl (lp2 fn0 p j hb all .busy)) nx zO) h .dead) (nx+1) (fcL (esL fs++[i6 0,u6 0,.nils]))) (nx+1) (fcL (esL fs++[i6 (k1:Nat),u6 (v1:Nat),.im n1 X1]))) 3 (fcO (.sl (nx+1) 0 (w+1+1) none))) hl o) i=gt H i:=fun i h3 hhl hh hlt o=>by
   rw[gt_pt,if_neg hhl,gt_pt,if_neg h3,gt_pt,if_neg o_,gt_pt,if_neg o_,gt_pt,if_neg hh,gt_pt,if_neg o_,gt_pt,if_neg hhl]
  refine⟨by rw[keep 0 d_ o_ o_ o_];exact m0,by rw[keep 1 d_ o_ o_ o_];exact m1,by rw[keep 2 d_ o_ o_ o_];exact m2,by rw[keep 4 d_ o_ o_ o_];exact m4,by rw[keep hb o_ hne (fun e=>g3.1 e.symm) o_];exact mb,by rw[gt_pt,if_pos rfl],.inr ⟨nx+1,w+1,by omega,by omega,by simp only[List.mem_cons,List.not_mem_nil,or_false,not_or];omega,by simp[g4],by rw[gt_pt,if_neg o_,gt_pt,if_pos rfl],?_⟩,b1,b2,by omega⟩
  rw[gt_pt,if_neg o_,gt_pt,if_neg o_,gt_pt,if_pos rfl,Qfd,Qgu,e1]
end
set_option maxHeartbeats 1000000
set_option maxRecDepth 100000
def inW(p j od:List Nat)(all F c:Nat)(fs:List Es):Nat->Option (List Es ⊕ Nat×Nat×Nat)
 |0=>some (.inl fs)
 | k + 1 => match inW p j od all F c fs k with
  |some (.inl gs)=>if mi c (dkF j all k)=0 then(match fiW p j od c F (dkF j all k,partE (dkF j all k) all (.mk 1 all []) od)with
   |some (.inl x)=>some (.inl (gs++[x]))
   |some (.inr h)=>some (.inr h)
   |none=>none)else some (.inl gs)
  |r=>r
theorem Qjk{p j od:List Nat}{all F c:Nat}{fs gs:List Es}: ∀{k:Nat},inW p j od all F c fs k=some (.inl gs)->gs.length<=fs.length+k
 |0,h=>by unfold inW at h;cases h;exact Nat.le_refl _
 | k + 1, h => by
  unfold inW at h
  split at h
  ·rename_i g hg
   have:=Qjk hg
   split at h
   ·split at h
    ·cases h;simp;omega
    ·cases h
    ·cases h
   ·cases h;omega
  ·rename_i r hr
   exact absurd h (hr gs)
theorem Qsb{p j od:List Nat}{all F c:Nat}{fs gs:List Es}{m:Nat}(h:inW p j od all F c fs m=some (.inl gs)): ∀k,k<=m->∃g,inW p j od all F c fs k=some (.inl g):=by
 intro k hk
 induction m generalizing gs with
 |zero=>
  have:k=0:=by omega
  subst this;exact⟨_,h⟩
 | succ m ih =>
  by_cases hkm:k=m+1
  ·subst hkm;exact⟨_,h⟩
  ·unfold inW at h
   split at h
   ·rename_i g hg
    exact ih hg o_
   ·rename_i r hr
    exact absurd h (hr gs)
structure OuM(p j:List Nat)(xs ys:Nat)(od:List Nat)(all:Nat)(L1:O)(fs:List Es)(H:T O)(nx:Nat):Prop where
 m0:gt H 0=some (pO p j xs ys od)
 m1:gt H 1=some esZ
 m2:gt H 2=some (uO all)
 m4:gt H 4=some L1
 mf:fcM [] fs H nx
 b:4<nx
abbrev sl1(p j:List Nat)(asked:Nat):List (Nat×V):=[(1,.ptr 0 0),(2,.ptr 1 0),(3,.ptr 2 0),(4,u6 (asked:Nat)),(5,.ptr 3 0),(36,ptC p j asked)]
noncomputable abbrev tm1(p j:List Nat)(asked:Nat):TM:=(mkSo g0 73 (sl1 p j asked) .e 0 []).tm
noncomputable abbrev lp1(fn0:Nat)(p j:List Nat)(asked:Nat)(ls:LoopState):O:=.loop ls none fn0 (tm1 p j asked) [37] o1A o1B
abbrev s10(d:Nat):List (Nat×V):=[(1,.ptr 0 0),(3,.ptr 2 0),(5,.ptr 3 0),(37,u6 (d:Nat))]
abbrev s11(nx:Nat):List (Nat×V):=[(1,.ptr 0 0),(3,.ptr 2 0),(5,.ptr 3 0),(6,.ptr nx 0)]
theorem o1_asg(d:Nat)(H:T O)(nx:Nat):vc Pg vE sp0 (some 4) nx 1000 o1A [so (uO 0) [u6 (d:Nat)]] (mkSo g0 73 (s10 d) H nx []) (Qce 73 (s11 nx) (pt (pt H nx (uO 0)) nx (uO d)) (nx+1) [nx]):=by
 refine m_ (p:=let z0:=pt H nx (O.row 29 none [u6 0]);An [An [gt z0 nx=some (uO 0),layE 0 [u6 ↑(0:Nat)] [u6 d]=some [u6 d]],Bn [Sm (V.ptr 0 0),Sm (V.ptr 2 0),Sm (V.ptr 3 0),Sm (V.ptr nx 0)],pt z0 nx (O.row 29 none [u6 d])=pt (pt H nx (uO 0)) nx (uO d),Sm (nx+1),[nx]++[]=[nx]]) ?_
 (repeat'(first|(with_reducible apply And.intro)|(refine fun(_:True)=>?_)))<;>first|exact aq|skip
 all_goals first|rfl|(rw[gt_pt,if_pos rfl];rfl)|skip
theorem Qob(p j:List Nat)(xs ys:Nat)(od:List Nat)(all hb nx0 nx:Nat)(H:T O)(lg:List Nat)(h0:gt H 0=some (pO p j xs ys od))(h2:gt H 2=some (uO all)):
  vc Pg vE sp0 (some 4) nx0 1000 (sub [0,0] o1B) [lo_ 38 (pO p j xs ys od) (.imp (prC p j xs ys od)),lo_ 42 (uO all) (u6 (all:Nat)),fn 43 (ptC p j all)] (mkSo g0 73 (s11 hb) H nx lg) (Qce 73 (sl2 p j hb all) H nx lg):=by
 have hf:=Qe1 p j all
 have hp:=Qaf p
 have hj:=Qaf j
 refine m_ (p:=let z0:=V.imp (prC p j xs ys od);let z1:=ptC p j all;An [gt H 0=some (pO p j xs ys od),headF [z0]=some z0,gt H 2=some (uO all),headF [u6 all]=some (u6 all),Bn [TT 2,Tt],FnOk Pg g0 64 [V.agg [V.im p.length (ut p),V.im j.length (ut j)],u6 all] z1,Tt,Bn [Sm (V.ptr 0 0),Sm (V.ptr 2 0),Sm (V.ptr 3 0),Sm (V.ptr hb 0),z1=z1],H=H,nx=nx,[]++lg=lg]) ?_
 (repeat'(first|(with_reducible apply And.intro)|(refine fun(_:True)=>?_)))<;>first|exact aq|skip
 all_goals first|rfl|exact h0|exact h2|exact hf|skip
theorem o1B_eq:o1B= .block 1 (.seq (sub [0,0] o1B) (.block 2 o2C)):=by kernel_rfl
theorem InM.dead{p j:List Nat}{xs ys:Nat}{od:List Nat}{all c hb hl:Nat}{L2 Lo L1:O}{fs:List Es}{H:T O}{nx:Nat}(M:InM p j xs ys od all c hb hl L2 Lo fs H nx):OuM p j xs ys od all L1 fs (pt (pt H hl .dead) 4 L1) nx:=by
 obtain⟨m0,m1,m2,m4,mb,ml,mf,b1,b2,b3⟩:=M
 refine⟨by rw[gt_pt,if_neg d_,gt_pt,if_neg o_];exact m0,by rw[gt_pt,if_neg d_,gt_pt,if_neg o_];exact m1,by rw[gt_pt,if_neg d_,gt_pt,if_neg o_];exact m2,by rw[gt_pt,if_pos rfl],?_,by omega⟩
 rcases mf with⟨e,m3⟩|⟨h,w,g1,g2,g3,g4,m3,g5⟩
 ·exact .inl ⟨e,by rw[gt_pt,if_neg d_,gt_pt,if_neg o_];exact m3⟩
 ·simp only [List.mem_cons, List.not_mem_nil, or_false, not_or] at g3
  exact .inr ⟨h,w,g1,g2,by simp,g4,by rw[gt_pt,if_neg d_,gt_pt,if_neg o_];exact m3,by rw[gt_pt,if_neg o_,gt_pt,if_neg g3.2];exact g5⟩
section
variable (p j:List Nat) (xs ys:Nat) (od:List Nat) (asked all c fn0:Nat) (hc:c<18446744073709551616) (jx:all<18446744073709551616) (ho: ∀x∈od,x<64) (hol:od.length<=64) (hlp:p.length<=64) (jt:S64 p) (hl:j.length<=64) (h64:S64 j)
include hc jx ho hol hlp jt hl h64
theorem Qsc(F hb hl':Nat)(Lo:O)(fs0 fs gs:List Es)(k:Nat)(hfl:fs.length<=10000)(h1:inW p j od all F c fs0 k=some (.inl fs))(h2:inW p j od all F c fs0 (k+1)=some (.inl gs))(fn1:Nat)(H:T O)(nx:Nat)(M:InM p j xs ys od all c hb hl' (lp2 fn1 p j hb all .ready) Lo fs H nx):
  ∃H' n' L,InM p j xs ys od all c hb hl' (lp2 fn1 p j hb all .ready) Lo gs H' n'/\CallSpec Pg g0 (.yld hl') [u6 (dkF j all k:Nat)] H nx ⟨.bool true,H',n',L⟩:=by
 have hd:=Qep (j:=j) jx k
 unfold inW at h2
 rw[h1]at h2
 dsimp only at h2
 by_cases hm:mi c (dkF j all k)=0
 ·rw [if_pos hm] at h2
  have hpt:=Qmj p j xs ys (dkF j all k) all od (.mk 1 all []) jx hd jx ho hol
  have hpv:=Qdy (d:=dkF j all k) (s:=all) (q:=.mk 1 all []) (od:=od) jx
  generalize hq:partE (dkF j all k) all (.mk 1 all []) od=q at*
  cases hf:fiW p j od c F (dkF j all k,q)with
  |none=>rw[hf]at h2;cases h2
  | some r =>
   rw[hf]at h2
   cases r with
   |inr h=>cases h2
   |inl x=>
    cases h2
    have hfd:=find_fn p j xs ys od c hc ho hol hlp jt hl h64 F (dkF j all k) q hpv hd x hf
    exact in_hit p j xs ys od all c hb hl' fn1 Lo fs H nx _ M hc hd hm hfl q x hpt hfd
 ·rw [if_neg hm] at h2
  cases h2
  obtain⟨L,hL⟩:=in_miss p j xs ys od all c hb hl' fn1 Lo fs H nx _ M hc hd hm
  exact⟨H,nx,L,M,hL⟩
theorem Qoj(F:Nat)(fs gs:List Es)(hfl:fs.length+rn j all<=10000)(hw:inW p j od all F c fs (rn j all)=some (.inl gs))(H:T O)(nx:Nat)(M:OuM p j xs ys od all (lp1 fn0 p j asked .ready) fs H nx):
  ∃H' n' L,OuM p j xs ys od all (lp1 fn0 p j asked .ready) gs H' n'/\CallSpec Pg g0 (.yld 4) [u6 (c:Nat)] H nx ⟨.bool true,H',n',L⟩:=by
 obtain⟨m0,m1,m2,m4,mf,b⟩:=M
 obtain⟨Bz,hBz⟩: ∃B,B=lp1 fn0 p j asked .busy:=⟨_,rfl⟩
 obtain⟨H1,hH1⟩: ∃H1,H1=pt (pt H nx (uO 0)) nx (uO c):=⟨_,rfl⟩
 have k1: ∀i,i≠nx->gt H1 i=gt H i:=fun i hi=>by rw[hH1,gt_pt,if_neg hi,gt_pt,if_neg hi]
 have k1n:gt H1 nx=some (uO c):=by rw[hH1,gt_pt,if_pos rfl]
 have k2: ∀i,i≠4->gt (pt H1 4 Bz) i=gt H1 i:=fun i hi=>by rw[gt_pt,if_neg hi]
 -- the loop over the districts of all nodes
 obtain⟨hrm,hrne⟩:=Qpw (j:=j) jx
 have hI0:InM p j xs ys od all c nx (nx+1) (lp2 0 p j nx all .ready) Bz fs (pt (pt H1 4 Bz) (nx+1) (lp2 0 p j nx all .ready)) (nx+1+1):=by
  refine⟨by rw[gt_pt,if_neg o_,k2 0 d_,k1 0 o_];exact m0,by rw[gt_pt,if_neg o_,k2 1 d_,k1 1 o_];exact m1,by rw[gt_pt,if_neg o_,k2 2 d_,k1 2 o_];exact m2,by rw[gt_pt,if_neg o_,gt_pt,if_pos rfl],by rw[gt_pt,if_neg o_,k2 nx o_];exact k1n,by rw[gt_pt,if_pos rfl],?_,b,by omega,by omega⟩
  rcases mf with⟨e,m3⟩|⟨h,w,g1,g2,g3,g4,m3,g5⟩
  ·exact .inl ⟨e,by rw[gt_pt,if_neg o_,k2 3 d_,k1 3 o_];exact m3⟩
  ·exact .inr ⟨h,w,g1,by omega,by simp only[List.mem_cons,List.not_mem_nil,or_false,not_or];omega,g4,by rw[gt_pt,if_neg o_,k2 3 d_,k1 3 o_];exact m3,by rw[gt_pt,if_neg o_,k2 h o_,k1 h o_];exact g5⟩
 have xb:=Qlk (rd:=some 4) (nx0:=nx) (n:=73) (nx:=nx+1) (s:=all) (m:=rn j all) (sl:=sl2 p j nx all) (H:=pt H1 4 Bz) (lg:=4::[nx]) (g:=.tmp 43) (ps:= #[44]) (asg:=o2A) (body:=o2B) p j jx hl h64 hrm hrne rfl (by show isLoop ((pt H1 4 Bz).get 4)=true;rw[<-Qak,gt_pt,if_pos rfl,hBz];rfl) (lp2 0 p j nx all .ready) rfl
  (fun k H' n'=>∃g,inW p j od all F c fs k=some (.inl g)/\InM p j xs ys od all c nx (nx+1) (lp2 0 p j nx all .ready) Bz g H' n') ⟨fs,rfl,hI0⟩
  (fun k hk H' n' ⟨g, hg, hM⟩ => by
   obtain⟨g',hg'⟩:=Qsb hw (k+1) hk
   have jr:=Qjk hg
   obtain⟨H2,n2,L,i1,i2⟩:=Qsc p j xs ys od all c hc jx ho hol hlp jt hl h64 F nx (nx+1) Bz fs g g' k o_ hg hg' 0 H' n' hM
   exact⟨H2,n2,L,⟨g',hg',i1⟩,i2⟩)
  (fun H' n'⟨g,_,hM⟩=>hM.ml)
 obtain⟨H2,n2,L,⟨g,hg,hM⟩,hlog,xw⟩:=xb
 rw[hw]at hg
 cases hg
 rw[show Code.rangeFunc (.tmp 43) #[44] o2A o2B=o2C from o2_eq.symm]at xw
 have hS:Sat Pg (some 4) nx o1B (mkSo g0 73 (s11 nx) (pt H1 4 Bz) (nx+1) (4::[nx])) (fun e st=>e= .normal/\st.H=pt H2 (nx+1) .dead/\st.nx=n2/\∀x,x∈st.lg->x∈L++(4::[nx])):=by
  rw[o1B_eq]
  refine Sat.block (R':=fun e st=>e= .normal/\st.H=pt H2 (nx+1) .dead/\st.nx=n2/\∀x,x∈st.lg->x∈L++(4::[nx])) ?_ (fun st1⟨he,_⟩=>by cases he) (fun e st1 _ h=>h)
  refine Sat.seq (R':=fun e st=>e= .normal/\st=mkSo g0 73 (sl2 p j nx all) (pt H1 4 Bz) (nx+1) (4::[nx])) ?_ (fun st1⟨_,e⟩=>?_) (fun e st1 hne⟨he,_⟩=>absurd he hne)
  ·refine Sat.fewer_post (Sat.of_vc vE_ok mixed Qab rfl (Qob p j xs ys od all nx nx (nx + 1) (pt H1 4 Bz) (4 :: [nx]) (by rw [k2 0 d_, k1 0 o_]; exact m0) (by rw [k2 2 d_, k1 2 o_]; exact m2)) fun e hs' st' hgl hk => ?_)
   unfold Qce at hk
   split at hk
   ·obtain ⟨hb1, q1, q2, q3, q4⟩ := Qae hk
    have hn':=Nat.eq_of_beq_eq_true hb1
    exact⟨sl2 p j nx all,q1,rfl,by rw[q2,q3,q4,hn',hgl];rfl⟩
   ·exact hk.elim
  ·subst e
   refine Sat.block (R':=fun e st=>e= .normal/\st.H=pt H2 (nx+1) .dead/\st.nx=n2/\∀x,x∈st.lg->x∈L++(4::[nx])) ?_ (fun st1⟨he,_⟩=>by cases he) (fun e st1 _ h=>h)
   refine xw.mono fun e st⟨_,H',n',lg',he,hst,h1,h2,h3⟩=>?_
   subst he hst h1 h2 h3
   exact⟨rfl,rfl,rfl,fun x hx=>hx⟩
 have key:=CallSpec.yldS vE_ok mixed Qab (n:=73) (hd:=4) (ars:=[u6 (c:Nat)]) (H:=H) (H1:=H1) (fn0:=fn0) (tm:=tm1 p j asked) (ps:=[37]) (assign:=o1A) (body:=o1B) (sl0:=s10 c) (sl1:=s11 nx) (lg1:=[nx]) (m0:=1000) m4 rfl rfl rfl ⟨rfl,rfl,rfl,rfl,trivial⟩ (by rw[hH1];exact o1_asg c H nx) (by rw[k1 4 o_];exact m4) (by rw[hBz]at hS;exact hS) (by rw[gt_pt,if_neg o_];have h4:=hM.m4;rw[hBz]at h4;exact h4)
  (Qg8 (by have := hlog.1; omega) (fun i hi hn => by
   simp only[List.mem_cons,List.mem_append,List.not_mem_nil,or_false,not_or]at hi
   have h1:=hlog.1
   rw[gt_pt,if_neg hi.1,gt_pt,if_neg o_,Qak,hlog.2 i hi.2.1 o_,<-Qak,gt_pt,if_neg o_,k2 i hi.1,k1 i hi.2.2.2]))
 exact⟨_,_,_,hM.dead,key⟩
end
set_option maxHeartbeats 1000000
set_option maxRecDepth 100000
noncomputable def kFinO(gl:T (List V))(n:Nat)(r:List Nat)(sl:List (Nat×V))(S:SL):KF:=fun e _ st=>match e with
 | .exit _=>False
 | .pan _=>False
 | _=>bif Nat.beq st.tm.n n then slotsQ st.tm sl/\Gc 0 r (mkSo gl n sl st.H st.nx st.lg) (mkSt gl n S)else False
noncomputable def vcFiO(P:Program)(E:Env)(sp:Qa7)(gl:T (List V))(n:Nat)(ars:List V)(hs:Hs)(r:List Nat)(sl:List (Nat×V))(S:SL)(v:V):Option FI->Prop
 |some fi=>bif Nat.ble ars.length fi.ntmps&&hfB v then retP v (retV E.G (mkSt gl fi.ntmps S).tm (mkSt gl fi.ntmps S).H fi.res)/\vc P E sp none 0 n fi.body hs ⟨⟨Qco (blank fi.ntmps) 0 ars,gl,fi.ntmps⟩,.e,0,[]⟩ (kFinO gl fi.ntmps r sl S)else False
 |none=>False
noncomputable def vcFnX(P:Program)(E:Env)(sp:Qa7)(gl:T (List V))(n f:Nat)(ars:List V)(hs:Hs)(r:List Nat)(sl:List (Nat×V))(S:SL)(v:V):Prop:=vcFiO P E sp gl n ars hs r sl S v (E.code f)
theorem FnOk.of_vcX{gl:T (List V)}{n f:Nat}{ars:List V}{hs:Hs}{r:List Nat}{sl:List (Nat×V)}{S:SL}{v:V}(h:vcFnX Pg vE sp0 gl n f ars hs r sl S v):FnOk Pg gl f ars v:=by
 unfold vcFnX vcFiO at h
 split at h
 ·rename_i fi hfi
  obtain⟨hb,jd,hv⟩:=Qae h
  rw[Bool.and_eq_true]at hb
  have hret':retV vE.G (mkSt gl fi.ntmps S).tm (mkSt gl fi.ntmps S).H fi.res=some v:=by
   unfold retP at jd
   split at jd
   ·rename_i u e;rw[e,jd]
   ·exact jd.elim
  rw[Qbl]at hv
  refine CallSpec.fnC vE_ok hfi (by rw[List.append_nil];exact hb.1) (Log.refl _ _ _) (R:=fun e st=>(e= .normal\/e= .ret)/\st=mkSt gl fi.ntmps S) ?_ ?_
  ·rw [List.append_nil]
   refine Sat.gc_post (Sat.fewer_post (Sat.of_vc vE_ok mixed Qab rfl hv fun e hs' st' hg hk=>?_))
   unfold kFinO at hk
   have fin:(bif Nat.beq st'.tm.n fi.ntmps then slotsQ st'.tm sl/\Gc 0 r (mkSo gl fi.ntmps sl st'.H st'.nx st'.lg) (mkSt gl fi.ntmps S)else False)->slotsQ st'.tm sl/\Gc 0 r (mkSo st'.tm.gl st'.tm.n sl st'.H st'.nx st'.lg) (mkSt gl fi.ntmps S):=by
    intro hk
    obtain⟨hb,hk1,hk2⟩:=Qae hk
    exact⟨hk1,by rw[hg,Nat.eq_of_beq_eq_true hb];exact hk2⟩
   cases e with
   |exit=>exact hk.elim
   |pan=>exact hk.elim
   |normal=>obtain⟨h1,h2⟩:=fin hk;exact⟨sl,h1,r,_,h2,.inl rfl,rfl⟩
   |ret=>obtain⟨h1,h2⟩:=fin hk;exact⟨sl,h1,r,_,h2,.inr rfl,rfl⟩
  ·rintro e st ⟨he, rfl⟩
   refine⟨he,v,hret',fun s w ee w' hH hn⟨u,s',h1,g1,g2,g3,_,_⟩=>?_⟩
   subst h1
   obtain⟨s'',q1,q2,q3,q4⟩:=Qbm hH g1 (Qft.1 v hb.2) g3 (fun h _=>hn h (Nat.zero_le _)) (fun b hb=>g2.old b (.inl hb))
   exact⟨u,s'',rfl,q1,q2,q3,fun i=>by rw[q4];exact dom_same s _ i,Nat.le_refl _⟩
 ·exact h.elim
def ouW(p j od:List Nat)(all F asked:Nat):Nat->Option (List Es ⊕ Nat×Nat×Nat)
 |0=>some (.inl [])
 |k+1=>match ouW p j od all F asked k with
  |some (.inl fs)=>inW p j od all F (dkF j asked k) fs (rn j all)
  |r=>r
theorem Qfl{p j od:List Nat}{all F asked:Nat}{gs:List Es}: ∀{k:Nat},ouW p j od all F asked k=some (.inl gs)->gs.length<=k*rn j all
 |0,h=>by unfold ouW at h;cases h;exact Nat.zero_le _
 | k + 1, h => by
  unfold ouW at h
  split at h
  ·rename_i g hg
   have h1:=Qfl hg
   have h2:=Qjk h
   rw[Nat.succ_mul];omega
  ·rename_i r hr
   exact absurd h (hr gs)
theorem Qs6{p j od:List Nat}{all F asked:Nat}{gs:List Es}{m:Nat}(h:ouW p j od all F asked m=some (.inl gs)): ∀k,k<=m->∃g,ouW p j od all F asked k=some (.inl g):=by
 intro k hk
 induction m generalizing gs with
 |zero=>
  have:k=0:=by omega
  subst this;exact⟨_,h⟩
 | succ m ih =>
  by_cases hkm:k=m+1
  ·subst hkm;exact⟨_,h⟩
  ·unfold ouW at h
   split at h
   ·rename_i g hg
    exact ih hg o_
   ·rename_i r hr
    exact absurd h (hr gs)
def soE(p j:List Nat)(xs ys:Nat)(od:List Nat)(F:Nat):Option (Es ⊕ Nat×Nat×Nat):=
 match ouW p j od (alN p.length) F (clo (ys&&& mi (alN p.length) xs) (mi (alN p.length) xs) p) (rn j (clo (ys&&& mi (alN p.length) xs) (mi (alN p.length) xs) p))with
 |some (.inl fs)=>some (.inl (sumE (mi (clo (ys&&& mi (alN p.length) xs) (mi (alN p.length) xs) p) ys) (Qdb fs)))
 |some (.inr h)=>some (.inr h)
 |none=>none
section
variable (p j:List Nat) (xs ys:Nat) (od:List Nat) (asked all:Nat) (xv:asked<18446744073709551616) (jx:all<18446744073709551616) (ho: ∀x∈od,x<64) (hol:od.length<=64) (hlp:p.length<=64) (jt:S64 p) (hl:j.length<=64) (h64:S64 j)
include xv jx ho hol hlp jt hl h64
theorem ou_range(F:Nat)(gs:List Es)(hfl:(rn j asked+1)*rn j all<=10000)(hw:ouW p j od all F asked (rn j asked)=some (.inl gs))(H:T O)(lg:List Nat)(m0:gt H 0=some (pO p j xs ys od))(m1:gt H 1=some esZ)(m2:gt H 2=some (uO all))(m3:gt H 3=some (fcO .nils)):
  ∃H1 n1 L,OuM p j xs ys od all (lp1 0 p j asked .ready) gs H1 n1/\Sat Pg none 0 o1C (mkSo g0 73 (sl1 p j asked) H 4 lg) (Qbq g0 73 .normal (fun _=>sl1 p j asked) (fun _ H' nx' lg'=>H'=pt H1 4 .dead/\nx'=n1/\lg'=L++lg)):=by
 obtain⟨hrm,hrne⟩:=Qpw (j:=j) xv
 have xb:=Qlk (rd:=none) (nx0:=0) (n:=73) (nx:=4) (s:=asked) (m:=rn j asked) (sl:=sl1 p j asked) (H:=H) (lg:=lg) (g:=.tmp 36) (ps:= #[37]) (asg:=o1A) (body:=o1B) p j xv hl h64 hrm hrne rfl rfl (lp1 0 p j asked .ready) rfl
  (fun k H' n'=>∃g,ouW p j od all F asked k=some (.inl g)/\OuM p j xs ys od all (lp1 0 p j asked .ready) g H' n')
  ⟨[],rfl,by rw[gt_pt,if_neg d_];exact m0,by rw[gt_pt,if_neg d_];exact m1,by rw[gt_pt,if_neg d_];exact m2,by rw[gt_pt,if_pos rfl],.inl ⟨rfl,by rw[gt_pt,if_neg d_];exact m3⟩,by decide⟩
  (fun k hk H' n' ⟨g, hg, hM⟩ => by
   obtain⟨g',hg'⟩:=Qs6 hw (k+1) hk
   have jr:=Qfl hg
   have h1:k*rn j all<=rn j asked*rn j all:=Nat.mul_le_mul_right _ o_
   rw[Nat.succ_mul]at hfl
   have hin:inW p j od all F (dkF j asked k) g (rn j all)=some (.inl g'):=by
    have e:ouW p j od all F asked (k+1)=(match ouW p j od all F asked k with
     |some (.inl fs)=>inW p j od all F (dkF j asked k) fs (rn j all)
     |r=>r):=rfl
    rw[hg]at e
    rw[hg']at e
    exact e.symm
   obtain⟨H2,n2,L,i1,i2⟩:=Qoj p j xs ys od asked all (dkF j asked k) 0 (Qep xv k) jx ho hol hlp jt hl h64 F g g' o_ hin H' n' hM
   exact⟨H2,n2,L,⟨g',hg',i1⟩,i2⟩)
  (fun H' n'⟨g,_,hM⟩=>hM.m4)
 obtain⟨H1,n1,L,⟨g,hg,hM⟩,hlog,xw⟩:=xb
 rw[hw]at hg
 cases hg
 exact⟨H1,n1,L,hM,xw⟩
end
set_option maxHeartbeats 1000000
set_option maxRecDepth 100000
theorem Qnu{p j od:List Nat}{c:Nat}: ∀(f:Nat){x:Nat×Es}{y:Es},x.2.vars<18446744073709551616->fiW p j od c f x=some (.inl y)->y.vars<18446744073709551616
 |0,x,y,hx,h=>by
  unfold fiW at h
  split at h
  ·cases h;exact hx
  ·cases h
 | f + 1, x, y, hx, h => by
  unfold fiW at h
  split at h
  ·cases h;exact hx
  ·split at h
   ·cases h
   ·exact Qnu f (Qd6 (Qe5 Qc4 hx) _) h
theorem Qn4{p j od:List Nat}{all F c:Nat}(jx:all<18446744073709551616){fs:List Es}(h0: ∀x∈fs,x.vars<18446744073709551616): ∀(k:Nat){gs:List Es},inW p j od all F c fs k=some (.inl gs)->∀x∈gs,x.vars<18446744073709551616
 |0,gs,h=>by unfold inW at h;cases h;exact h0
 | k + 1, gs, h => by
  unfold inW at h
  split at h
  ·rename_i g hg
   have ih:=Qn4 jx h0 k hg
   split at h
   ·split at h
    ·rename_i x hx
     cases h
     intro y hy
     rcases List.mem_append.1 hy with hy|hy
     ·exact ih y hy
     ·obtain rfl := List.mem_singleton.1 hy
      exact Qnu F (Qdy (q:=.mk 1 all []) jx) hx
    ·cases h
    ·cases h
   ·cases h;exact ih
  ·rename_i r hr
   exact absurd h (hr gs)
theorem Qoi{p j od:List Nat}{all F asked:Nat}(jx:all<18446744073709551616): ∀(k:Nat){gs:List Es},ouW p j od all F asked k=some (.inl gs)->∀x∈gs,x.vars<18446744073709551616
 |0,gs,h=>by unfold ouW at h;cases h;intro x hx;cases hx
 | k + 1, gs, h => by
  unfold ouW at h
  split at h
  ·rename_i g hg
   exact Qn4 jx (Qoi jx k hg) _ h
  ·rename_i r hr
   exact absurd h (hr gs)
theorem gc_one{H:T O}{nx:Nat}{lg:List Nat}{k v n:Nat}{X:List V}(hX:HfL X)(hn:1<nx)(h1:gt H 1=some (esO k v n X)):
  Gc 0 [1] (mkSo g0 73 [(2,.ptr 1 0)] H nx lg) (mkSt g0 73 {sl:=[(2,.ptr 0 0)],os:=[esO k v n X],md:=[1]}):=by
 rw[Qak]at h1
 refine⟨rfl,fun g hg=>?_,by decide,rfl,rfl,fun i x hx=>?_,fun h o ho hlive=>?_,fun h _ hlt=>absurd hlt (Nat.not_lt_zero _)⟩
 ·refine ⟨Nat.zero_le _, ?_⟩
  show g<nx
  simp at hg;omega
 ·have c4 : gt (putL (blank 73) [(2, V.ptr 1 0)]) 2 = some (.ptr 1 0) := by kernel_rfl
  rw[Qak]at c4
  rcases putL_get _ _ _ _ hx with jb|jb
  ·simp only [List.mem_cons, List.not_mem_nil, or_false] at jb
   cases jb
   exact⟨_,c4,1,rfl,rfl⟩
  ·rw[Qca]at jb;cases jb
 ·rcases ofOs_get _ _ _ _ _ ho with ⟨_, hm⟩ | hm
  ·have h0 : h = 0 := by
    have:=(List.getElem?_eq_some_iff.1 hm).1
    simp at this;omega
   subst h0
   cases hm
   exact⟨1,_,rfl,h1,_,rfl,ViewL.of_hf _ ⟨trivial,trivial,trivial,trivial⟩⟩
  ·simp at hm
section
variable (p j:List Nat) (xs ys:Nat) (od:List Nat) (hxs:xs<18446744073709551616) (hys:ys<18446744073709551616) (ho: ∀x∈od,x<64) (hol:od.length<=64) (hlp:p.length<64) (jt:S64 p) (hl:j.length<=64) (h64:S64 j)
include hxs hys ho hol hlp jt hl h64
theorem solve_vc(F:Nat)(asked all nq:Nat)(jx:alN p.length=all)(hask:clo (ys&&& mi all xs) (mi all xs) p=asked)(hnq:mi all xs=nq)(gs:List Es)(hw:ouW p j od all F asked (rn j asked)=some (.inl gs))(hfl:(rn j asked+1)*rn j all<=10000)(k1 v1 n1:Nat)(X1:List V)(hX:HfL X1)(kr vr nr:Nat)(Xr:List V)(hXr:HfL Xr)(ma:Nat)(hma:mi asked ys=ma)
  (htm:FnOk Pg g0 69 [.im gs.length (esL gs)] (.agg [i6 (kr:Nat),u6 (vr:Nat),.im nr Xr]))(hsm:FnOk Pg g0 68 [u6 (ma:Nat),.agg [i6 (kr:Nat),u6 (vr:Nat),.im nr Xr]] (.agg [i6 (k1:Nat),u6 (v1:Nat),.im n1 X1])):
  FnOk Pg g0 39 [.imp (prC p j xs ys od)] (.agg [i6 (k1:Nat),u6 (v1:Nat),.im n1 X1]):=by
 have hp:=Qaf p
 have hj:=Qaf j
 have hod:=Qbk od
 obtain⟨z,hz⟩: ∃z,z=2^p.length:=⟨_,rfl⟩
 obtain⟨h1,h2⟩:=Qdm (G:=Qac Pg) (t:=29) hlp
 have h3:1<=2^p.length:=Nat.one_le_two_pow
 have h4:(all:Int)=(z:Int)-1:=by rw[<-jx];unfold alN;omega
 rw[<-hz]at h1 h2 h3
 have h5:wr .u64 ((z:Int)-1)=(all:Int):=by rw[h4];exact Qlp (by simp[lo];omega) (by simp[hi];omega)
 have hall64:all<18446744073709551616:=by omega
 have hnq64:nq<18446744073709551616:=by rw[<-hnq];exact Qc4
 have ha64:asked<18446744073709551616:=by rw[<-hask];exact Qea (Nat.and_lt_two_pow (n:=64) _ Qc4) Qc4
 have s1:=mi_u (G:=Qac Pg) (t:=29) hall64 hxs
 rw[hnq]at s1
 have hab:=Qfz p j ys nq hys hnq64 o_ jt
 rw[<-hnq,hask,hnq]at hab
 have hpt:=Qe1 p j asked
 have s2:=mi_u (G:=Qac Pg) (t:=29) ha64 hys
 rw[hma]at s2
 obtain⟨H1,m1,L,hM,xw⟩:=ou_range p j xs ys od asked all ha64 hall64 ho hol o_ jt hl h64 F gs hfl hw (pt (pt (pt (pt (pt .e 0 (pO p j xs ys od)) 1 esZ) 2 (uO 0)) 2 (uO all)) 3 (fcO .nils)) [2] rfl rfl rfl rfl
 have q0:gt (pt H1 4 .dead) 0=some (pO p j xs ys od):=by rw[gt_pt,if_neg d_];exact hM.m0
 have q1:gt (pt H1 4 .dead) 1=some esZ:=by rw[gt_pt,if_neg d_];exact hM.m1
 have hA:=Qan gs
 rcases hM.mf with⟨e,m3⟩|⟨hq,w,g1,g2,_,g4,m3,g5⟩
 ·have q3 : gt (pt H1 4 .dead) 3 = some (fcO .nils) := by rw [gt_pt, if_neg d_]; exact m3
  have hc:CallSpec Pg g0 (.fn 69 []) [.nils] (pt H1 4 .dead) m1 ⟨.agg [i6 (kr:Nat),u6 (vr:Nat),.im nr Xr],pt H1 4 .dead,m1,[]⟩:=by
   subst e
   refine Qnz [] htm ⟨_,_,rfl,.inr (.inl ⟨rfl,rfl⟩),rfl⟩ ?_ (fun g hg=>by cases hg) (fun _ _=>rfl) (fun _ hg=>by cases hg)
   exact⟨trivial,trivial,trivial,trivial⟩
  refine FnOk.of_vcX (n:=1000) (r:=[1]) (sl:=[(2,.ptr 1 0)]) (S:={sl:=[(2,.ptr 0 0)],os:=[esO k1 v1 n1 X1],md:=[1]}) (hs:=[va 14 (u6 (z:Nat)),nu 15 (all:Nat),va 29 (u6 (nq:Nat)),fn 30 (u6 (asked:Nat)),fn 36 (ptC p j asked),(0,.loopM (sl1 p j asked) .normal (fun _=>sl1 p j asked) (fun _ H' nx' lg'=>H'=pt H1 4 .dead/\nx'=m1/\lg'=L++[2]) (fun _ _ _ _=>[lo_ 70 (fcO .nils) .nils,(71,.call ⟨.agg [i6 (kr:Nat),u6 (vr:Nat),.im nr Xr],pt H1 4 .dead,m1,[]⟩),lo_ 65 (pO p j xs ys od) (.imp (prC p j xs ys od)),va 69 (u6 (ma:Nat)),fn 72 (.agg [i6 (k1:Nat),u6 (v1:Nat),.im n1 X1]),so esZ [i6 (k1:Nat),u6 (v1:Nat),.im n1 X1]]))]) ?_
  clear hask hnq hma jx hw hfl htm
  refine m_ (p:=let z0:=[i6 k1,u6 v1,V.im n1 X1];let z1:=V.agg [i6 kr,u6 vr,V.im nr Xr];let z2:=pt H1 4 O.dead;let z3:=V.agg [V.im p.length (ut p),V.im j.length (ut j)];let z4:=V.imp (prC p j xs ys od);let z5:=u6 ↑asked;let z6:=Qac Try.prog;let z7:=V.ptr 1 0;let z8:=ptC p j asked;let z9:=V.agg z0;An [z9=z9,binV z6 BinOp.shl 29 (u6 1) (i6 p.length)=some (u6 z),wr .u64 ((z:Int)-1)=(all:Int),binV z6 BinOp.andNot 29 (u6 all) (u6 xs)=some (u6 nq),An [TT 2,TT 2],FnOk Pg g0 63 [z3,u6 ys,u6 nq] z5,Tt,Bn [TT 2,Tt],FnOk Pg g0 64 [z3,z5] z8,Tt,Bn [Sm (V.ptr 0 0),z7=z7,Sm (V.ptr 2 0),z5=z5,Sm (V.ptr 3 0),z8=z8],Sat Pg none 0 (at' 39 [1,1,1,1,0,1,0]) (mkSo g0 73 (sl1 p j asked) (pt (pt (pt (pt (pt T.e 0 (O.row 95 none [z4])) 1 (O.row 57 none [i6 0,u6 0,V.nils])) 2 (O.row 29 none [u6 0])) 2 (O.row 29 none [u6 all])) 3 (O.row 55 none [V.nils])) 4 ([]++([]++([2]++[])))) (Qbq g0 73 Ex.normal (fun x=>sl1 p j asked) fun x H' nx' lg'=>H'=z2/\nx'=m1/\lg'=L++[2]),∀(h:Nat)(H:T O)(nx:Nat)(lg:List Nat),H=z2/\nx=m1/\lg=L++[2]->An [gt H 3=some (fcO V.nils),headF [V.nils]=some V.nils,CallSpec Pg g0 (V.fn 69 []) [V.nils] H nx (CR.mk z1 z2 m1 []),Tt,gt z2 0=some (pO p j xs ys od),headF [z4]=some z4,binV z6 BinOp.andNot 29 z5 (u6 ys)=some (u6 ma),Bn [Tt,TT 3],FnOk Pg g0 68 [u6 ma,z1] z9,Bn [(V.fn 69 []=V.fn 68 []->[V.nils]=[u6 ma,z1]->H=z2->nx=m1->CR.mk z1 z2 m1 []=CR.mk z9 z2 m1 [])],An [gt z2 1=some esZ,layE 0 [i6 0,u6 0,V.nils] z0=some z0],Bn [z7=z7],Gc 0 [1] (mkSo g0 73 [(2,z7)] (pt z2 1 (O.row 57 none z0)) m1 ([1]++([]++([]++lg)))) (mkSt g0 73 (SL.mk [(2,V.ptr 0 0)] [esO k1 v1 n1 X1] [] [1]))]]) ?_
  (repeat'(first|(with_reducible apply And.intro)|(refine fun(_:True)=>?_)))<;>first|exact aq|skip
  all_goals first|exact h1|exact h5|exact s1|exact hab|exact hpt|exact xw|(rintro h H nx lg ⟨rfl,rfl,rfl⟩;(repeat'(first|(with_reducible apply And.intro)|(refine fun(_:True)=>?_)));all_goals first|rfl|exact aq|exact q3|exact hc|exact q0|exact r0|exact s2|exact hsm|exact q1|exact r1|(refine gc_one hX (Nat.lt_trans d_ hM.b) ?_;rw[gt_pt,if_pos rfl])|skip)|skip
 ·obtain ⟨gq, rfl⟩ : ∃ g, hq = g + 5 := ⟨hq - 5, by omega⟩
  have q3:gt (pt H1 4 .dead) 3=some (fcO (.sl (gq+5) 0 (w+1) none)):=by rw[gt_pt,if_neg d_];exact m3
  have hgh:gt (pt H1 4 .dead) (gq+5)=some (fcL (esL gs)):=by rw[gt_pt,if_neg o_];exact g5
  have r0:gt (pt (pt H1 4 .dead) (gq+5) .dead) 0=some (pO p j xs ys od):=by rw[gt_pt,if_neg o_];exact q0
  have r1:gt (pt (pt H1 4 .dead) (gq+5) .dead) 1=some esZ:=by rw[gt_pt,if_neg o_];exact q1
  have hc:CallSpec Pg g0 (.fn 69 []) [.sl (gq+5) 0 (w+1) none] (pt H1 4 .dead) m1 ⟨.agg [i6 (kr:Nat),u6 (vr:Nat),.im nr Xr],pt (pt H1 4 .dead) (gq+5) .dead,m1,[(gq+5)]⟩:=by
   rw[g4]at htm
   refine Qnz [(gq+5)] htm ⟨_,_,rfl,.inr (.inr ⟨(gq+5),0,none,57,some 3,esL gs,rfl,List.mem_singleton.2 rfl,by rw[<-Qak];exact hgh,ViewP.of_hf _ hA⟩),rfl⟩ ?_ (fun g hg=>?_) (fun i hi=>?_) (fun i hi=>?_)
   ·exact⟨trivial,trivial,trivial,trivial⟩
   ·obtain rfl := List.mem_singleton.1 hg
    exact⟨_,_,_,by rw[<-Qak];exact hgh⟩
   ·rw[<-Qak,<-Qak,gt_pt,if_neg (fun e=>hi (List.mem_singleton.2 e))]
   ·obtain rfl := List.mem_singleton.1 hi
    rw[<-Qak,gt_pt,if_pos rfl]
  refine FnOk.of_vcX (n:=1000) (r:=[1]) (sl:=[(2,.ptr 1 0)]) (S:={sl:=[(2,.ptr 0 0)],os:=[esO k1 v1 n1 X1],md:=[1]}) (hs:=[va 14 (u6 (z:Nat)),nu 15 (all:Nat),va 29 (u6 (nq:Nat)),fn 30 (u6 (asked:Nat)),fn 36 (ptC p j asked),(0,.loopM (sl1 p j asked) .normal (fun _=>sl1 p j asked) (fun _ H' nx' lg'=>H'=pt H1 4 .dead/\nx'=m1/\lg'=L++[2]) (fun _ _ _ _=>[lo_ 70 (fcO (.sl (gq+5) 0 (w+1) none)) (.sl (gq+5) 0 (w+1) none),(71,.call ⟨.agg [i6 (kr:Nat),u6 (vr:Nat),.im nr Xr],pt (pt H1 4 .dead) (gq+5) .dead,m1,[(gq+5)]⟩),lo_ 65 (pO p j xs ys od) (.imp (prC p j xs ys od)),va 69 (u6 (ma:Nat)),fn 72 (.agg [i6 (k1:Nat),u6 (v1:Nat),.im n1 X1]),so esZ [i6 (k1:Nat),u6 (v1:Nat),.im n1 X1]]))]) ?_
  clear hask hnq hma jx hw hfl htm
  refine m_ (p:=let z1:=[i6 k1,u6 v1,V.im n1 X1];let z2:=V.agg [i6 kr,u6 vr,V.im nr Xr];let z3:=V.sl (gq+5) 0 (w+1) none;let z4:=V.agg [V.im p.length (ut p),V.im j.length (ut j)];let z5:=V.imp (prC p j xs ys od);let z6:=u6 ↑asked;let z7:=Qac Try.prog;let z8:=V.ptr 1 0;let z9:=pt H1 4 O.dead;let y0:=ptC p j asked;let z0:=pt z9 (gq+5) O.dead;let y2:=V.agg z1;let y1:=CR.mk z2 z0 m1 [gq+5];An [y2=y2,binV z7 BinOp.shl 29 (u6 1) (i6 p.length)=some (u6 z),wr .u64 ((z:Int)-1)=(all:Int),binV z7 BinOp.andNot 29 (u6 all) (u6 xs)=some (u6 nq),An [TT 2,TT 2],FnOk Pg g0 63 [z4,u6 ys,u6 nq] z6,Tt,Bn [TT 2,Tt],FnOk Pg g0 64 [z4,z6] y0,Tt,Bn [Sm (V.ptr 0 0),z8=z8,Sm (V.ptr 2 0),z6=z6,Sm (V.ptr 3 0),y0=y0],Sat Pg none 0 (at' 39 [1,1,1,1,0,1,0]) (mkSo g0 73 (sl1 p j asked) (pt (pt (pt (pt (pt T.e 0 (O.row 95 none [z5])) 1 (O.row 57 none [i6 0,u6 0,V.nils])) 2 (O.row 29 none [u6 0])) 2 (O.row 29 none [u6 all])) 3 (O.row 55 none [V.nils])) 4 ([]++([]++([2]++[])))) (Qbq g0 73 Ex.normal (fun x=>sl1 p j asked) fun x H' nx' lg'=>H'=z9∧nx'=m1∧lg'=L++[2]),∀(h:Nat)(H:T O)(nx:Nat)(lg:List Nat),H=z9∧nx=m1∧lg=L++[2]→An [gt H 3=some (fcO z3),headF [z3]=some z3,CallSpec Pg g0 (V.fn 69 []) [z3] H nx y1,Tt,gt z0 0=some (pO p j xs ys od),headF [z5]=some z5,binV z7 BinOp.andNot 29 z6 (u6 ys)=some (u6 ma),Bn [Tt,TT 3],FnOk Pg g0 68 [u6 ma,z2] y2,Bn [(V.fn 69 []=V.fn 68 []→[z3]=[u6 ma,z2]→H=z0→nx=m1→y1=CR.mk y2 z0 m1 [])],An [gt z0 1=some esZ,layE 0 [i6 0,u6 0,V.nils] z1=some z1],Bn [z8=z8],Gc 0 [1] (mkSo g0 73 [(2,z8)] (pt z0 1 (O.row 57 none z1)) m1 ([1]++([]++([gq+5]++lg)))) (mkSt g0 73 (SL.mk [(2,V.ptr 0 0)] [esO k1 v1 n1 X1] [] [1]))]]) ?_
  (repeat'(first|(with_reducible apply And.intro)|(refine fun(_:True)=>?_)))
  all_goals first|(with_reducible exact h1)|exact h5|exact s1|exact hab|exact hpt|exact xw|(rintro h H nx lg ⟨rfl,rfl,rfl⟩;(repeat'(first|(with_reducible apply And.intro)|(refine fun(_:True)=>?_)));all_goals first|rfl|exact aq|exact q3|exact hc|exact q0|exact r0|exact s2|exact hsm|exact q1|exact r1|(refine gc_one hX (Nat.lt_trans (by decide) hM.b) ?_;rw[gt_pt,if_pos rfl])|skip)|exact aq|skip
theorem solve_fn(F:Nat)(x:Es)(hx:soE p j xs ys od F=some (.inl x))(hfl: ∀s,s<18446744073709551616->(rn j s+1)*rn j (alN p.length)<=1000):
  FnOk Pg g0 39 [.imp (prC p j xs ys od)] (esV x):=by
 unfold soE at hx
 generalize jx:alN p.length=all at*
 generalize hnq:mi all xs=nq at*
 have hnq64:nq<18446744073709551616:=by rw[<-hnq];exact Qc4
 generalize hask:clo (ys&&& nq) nq p=asked at*
 have ha64:asked<18446744073709551616:=by rw[<-hask];exact Qea (Nat.and_lt_two_pow (n:=64) _ hnq64) hnq64
 have hfl1:=hfl asked ha64
 cases hw:ouW p j od all F asked (rn j asked)with
 |none=>rw[hw]at hx;cases hx
 | some r =>
  rw[hw]at hx
  cases r with
  |inr h=>cases hx
  |inl gs=>
   cases hx
   have jr:=Qfl hw
   rw[Nat.succ_mul]at hfl1
   have htm:=Qo2 gs o_
   have htv:(Qdb gs).vars<18446744073709551616:=Qhy (Qoi (by rw[<-jx];unfold alN;have:=Nat.pow_lt_pow_right (show 1<2 by decide) hlp;omega) _ hw)
   have hsm:=Qoz (mi asked ys) (Qdb gs) Qc4 htv
   obtain⟨kr,vr,nr,Xr,er,hXr⟩:=Qfs (Qdb gs)
   obtain⟨k1,v1,n1,X1,e1,hX1⟩:=Qfs (sumE (mi asked ys) (Qdb gs))
   have key:=solve_vc p j xs ys od hxs hys ho hol hlp jt hl h64 F asked all nq jx (by rw[hnq];exact hask) hnq gs hw (by rw[Nat.succ_mul];omega) k1 v1 n1 X1 hX1 kr vr nr Xr hXr _ rfl (by rw[<-er];exact htm) (by rw[<-er,<-e1];exact hsm)
   rw[<-e1]at key
   exact key
end
set_option maxHeartbeats 1000000
set_option maxRecDepth 100000
theorem loopOP{gl:T (List V)}{c b:Code}(hc:c= .loop b){rd:Option Nat}{k nx0:Nat}{α:Type}(I:α->Mem->Prop)(S:α->List (Nat×V))(m:α->Nat)(out:Ex->List (Nat×V)->Mem->Prop)
  (h: ∀x(H:T O)(nx:Nat)(lg:List Nat)(G:Ex->List (Nat×V)->T O->Nat->List Nat->Prop),I x ⟨H,nx,lg⟩->(∀y H nx lg,I y ⟨H,nx,lg⟩->m y<m x->G .normal (S y) H nx lg)->(∀v sl H nx lg,out (.pan v) sl ⟨H,nx,lg⟩->G (.pan v) sl H nx lg)->∃hs n,vc Pg vE sp0 rd nx0 n b hs (mkSo gl k (S x) H nx lg) (Qsj k G))
  (x:α)(M:Mem)(hx:I x M):Sat Pg rd nx0 c (mkSo gl k (S x) M.H M.nx M.lg) (fun e st=>∃sl M',st=mkSo gl k sl M'.H M'.nx M'.lg/\out e sl M'):=
 loopO vE_ok mixed Qab hc I S m out (fun x H nx lg hI=>h x H nx lg _ hI (fun y H nx lg h1 h2=>⟨y,h1,h2,rfl⟩) (fun v sl H nx lg h=>h)) x M hx
theorem Qmk(p j:List Nat)(s:Nat)(hs:s<18446744073709551616)(hl:j.length<=64)(h64:S64 j)(nx0 hd m:Nat)(hne: ∀k,k<=m->reF j s k≠0)(HH:Nat->T O)(N:Nat->Nat)(LL:Nat->List Nat)(v:V)(HP:T O)(nP:Nat)(LP LY:List Nat)(hLL: ∀k,k<m->SubL (LL k) LY)(hLP:SubL LP LY)
  (hy: ∀k,k<m->CallSpec Pg g0 (.yld hd) [u6 (dkF j s k:Nat)] (HH k) (N k) ⟨.bool true,HH (k+1),N (k+1),LL k⟩)(hpn:CallPan Pg g0 (.yld hd) [u6 (dkF j s m:Nat)] (HH m) (N m) ⟨v,HP,nP,LP⟩):
  Sat Pg none nx0 (at' 89 [1,0]) (mkSo g0 24 (piS p j hd s 0) (HH 0) (N 0) []) (Qbq g0 24 (.pan v) (fun _=>[]) (piQ HP nP LY)):=by
 have hp:=Qaf p
 have hj:=Qaf j
 refine(loopOP (b:=at' 89 [1,0,0]) k_ (fun(k:Nat) M=>k<=m/\M.H=HH k/\M.nx=N k/\SubL M.lg LY) (piS p j hd s) (fun k=>m-k) (fun e sl M=>e= .pan v/\sl=[]/\piQ HP nP LY 0 M.H M.nx M.lg) (fun k H nx1 lg G hI hN hP=>?_) 0 ⟨_,_,_⟩ ⟨Nat.zero_le _,rfl,rfl,fun g hg=>by cases hg⟩).mono ?_
 ·obtain ⟨hk, rfl, rfl, kw⟩ := hI
  dsimp only at hk kw
  have hr:=Qiu (j:=j) hs k
  have h0:=hne k hk
  have e1:reF j s (k+1)=mi (reF j s k) (dkF j s k):=rfl
  have hdk:dkF j s k=clo (lowB (reF j s k)) s j:=rfl
  have hl0:=Qjm hr
  have hc:=Qgq (lowB (reF j s k)) s j hl0 hs hl h64
  rw[<-hdk]at hc
  have hdl:dkF j s k<18446744073709551616:=by rw[hdk];exact Qea hl0 hs
  by_cases hlt:k<m
  ·have hcall := hy k hlt
   have hLk:=hLL k hlt
   have jg:=fun lg' h=>hN (k+1) (HH (k+1)) (N (k+1)) lg' ⟨hlt,rfl,rfl,h⟩ o_
   simp only[piS]at jg
   rw[e1]at jg
   simp only[piS]
   generalize reF j s k=r at*
   generalize dkF j s k=d at*
   have s1:=low_u (G:=Qac Pg) (t:=29) hr h0
   have s2:=mi_u (G:=Qac Pg) (t:=29) hr hdl
   obtain⟨ng,hng⟩: ∃ng,ng=18446744073709551616-r:=⟨_,rfl⟩
   rw[<-hng]at s1
   have hneg:wr .u64 (-(r:Int))=(ng:Int):=by
    rw[wr_eq,Qke]
    simp only[lo,wid]
    omega
   generalize lowB r=lo_ at*
   refine⟨[yes 8,nu 11 (ng:Nat),va 12 (u6 (lo_:Nat)),fn 16 (u6 (d:Nat)),(19,.call ⟨.bool true,HH (k+1),N (k+1),LL k⟩),va 23 (u6 (mi r d:Nat)),toO [(0,.yld hd),(1,.imp [u6 (s:Nat)]),(2,.imp [ul p,ul j]),(4,u6 (mi r d:Nat))]],1000,?_⟩
   generalize LL k=Lk at*
   clear hN hP e1 hy hdk hng hne hpn
   refine m_ (p:=let z0:=u6 ↑(mi r d);let z1:=V.imp [ul p,ul j];let z2:=V.imp [u6 s];let z3:=V.yld hd;Bn [((r:Int) != 0)=true,wr .u64 ((0:Int)-(r:Int))=(ng:Int),binV (Qac Try.prog) BinOp.and 29 (u6 r) (u6 ng)=some (u6 lo_),TT 3,FnOk Pg g0 87 [u6 lo_,u6 s,V.im j.length (ut j)] (u6 d),Tt,CallSpec Pg g0 z3 [u6 d] (HH k) (N k) (CR.mk (V.bool true) (HH (k+1)) (N (k+1)) Lk),Tt,binV (Qac Try.prog) BinOp.andNot 29 (u6 r) (u6 d)=some z0,G Ex.normal [(0,z3),(1,z2),(2,z1),(4,z0)] (HH (k+1)) (N (k+1)) (Lk++([]++lg)),z3=z3,z2=z2,z1=z1,z0=z0]) ?_
   (repeat'(first|(with_reducible apply And.intro)|(refine fun(_:True)=>?_)))<;>first|exact aq|skip
   all_goals first|exact s1|exact s2|exact hc|exact hneg|exact hcall|(refine jg _ (fun g hg=>?_);rcases List.mem_append.1 hg with hg|hg;exact hLk g hg;exact kw g hg)|skip
  ·have : k = m := by omega
   subst this
   have hout:=fun lg' h=>hP v [] HP nP lg' ⟨rfl,rfl,rfl,rfl,h⟩
   simp only[piS]
   generalize reF j s k=r at*
   generalize dkF j s k=d at*
   have s1:=low_u (G:=Qac Pg) (t:=29) hr h0
   obtain⟨ng,hng⟩: ∃ng,ng=18446744073709551616-r:=⟨_,rfl⟩
   rw[<-hng]at s1
   have hneg:wr .u64 (-(r:Int))=(ng:Int):=by
    rw[wr_eq,Qke]
    simp only[lo,wid]
    omega
   generalize lowB r=lo_ at*
   refine⟨[yes 8,nu 11 (ng:Nat),va 12 (u6 (lo_:Nat)),fn 16 (u6 (d:Nat)),(3,.pc 2 ⟨v,HP,nP,LP⟩),toO []],1000,?_⟩
   clear hN hP e1 hy hdk hng hne
   refine m_ (p:=Bn [((r:Int) != 0)=true,wr .u64 ((0:Int)-(r:Int))=(ng:Int),binV (Qac Try.prog) BinOp.and 29 (u6 r) (u6 ng)=some (u6 lo_),TT 3,FnOk Pg g0 87 [u6 lo_,u6 s,V.im j.length (ut j)] (u6 d),Tt,CallPan Pg g0 (V.yld hd) [u6 d] (HH k) (N k) (CR.mk v HP nP LP),G (Ex.pan v) [] HP nP (LP++([]++lg))]) ?_
   (repeat'(first|(with_reducible apply And.intro)|(refine fun(_:True)=>?_)))<;>first|exact aq|skip
   all_goals first|exact s1|exact hc|exact hneg|exact hpn|(refine hout _ (fun g hg=>?_);rcases List.mem_append.1 hg with hg|hg;exact hLP g hg;exact kw g hg)|skip
 ·rintro e st ⟨sl', M', rfl, rfl, rfl, hQ⟩
  exact⟨0,_,_,_,rfl,rfl,hQ⟩
theorem CallPan.fnS{P:Program}{E:Env}(hE:E.Ok P){gl:T (List V)}{f:Nat}{caps ars:List V}{H:T O}{nx:Nat}{r:CR}{fi:FI}(hfi:E.code f=some fi)(hle:Nat.ble (ars++caps).length fi.ntmps=true)
  (h:SatF P f none nx fi.body ⟨⟨putAll (blank fi.ntmps) 0 (ars++caps),gl,fi.ntmps⟩,H,nx,[]⟩ (fun e st=>e= .pan r.v/\st.H=r.H/\st.nx=r.nx/\SubL st.lg r.lg)):CallPan P gl (.fn f caps) ars H nx r:=by
 intro s w fv jj hc jy hH hgl hn
 obtain⟨vs,rfl,jp⟩:=hc
 have jm: ∀x:Result Next,(callFunc f (jj++vs)).run P w=x->((do let d<-Deferred.ofValue (.func (.func f) #[] vs) jj;invoke d.target d.args):Sem Next).run P w=x:=by
  intro x hx;simp[Deferred.ofValue,invoke,hx]
 obtain⟨fn,f1,f2,f3,f4,f5⟩:=hE.code f fi hfi
 refine⟨_,jm _ (f5 _ w),?_,fun _=>⟨_,_,rfl⟩⟩
 have A0:=Qer hE hfi hle jp jy hH hgl hn []
 refine Qh4 (F:=Fence.wide) (n:=4) f1 f2 trivial (Qm7 (n:=5) (l:=none) ?_)
 rw[f3]
 refine h _ s w s w _ hn (Nat.le_refl _) (fun h e=>by cases e) A0 _ ?_
 rintro e st ⟨rfl,h1,h2,h3⟩ s' w' a' A u hu
 obtain⟨Ds,d1,d2,d3⟩:=A.rel.df
 have d2:=(List.nodup_append.1 d2).1
 have d3:=fun D(hD:D∈Ds)=>d3 D (List.mem_append.2 (.inl hD))
 show LeavesInM Fence.wide 4 P fn a'.tmps (Qh8 s w nx r) a'.defers (.panicking [{v:=u,recovered:=false}]) w'
 rw[d1]
 refine Qb8 (F:=Fence.wide) (by simp) Ds w' d2 (fun D hD=>(d3 D hD).2.2.1) (fun w'' g1 g2 g3 g4 g5=>?_)
 obtain⟨k1,k2,_⟩:=A.unmarked (Nat.le_refl _) d3 g1 g2 g3 g4 g5 hH.old
 rw[h1]at k1
 exact⟨u,s',rfl,hu,k1,k2.more h3,fun i=>by rw[A.dom,h2],by rw[<-h2];exact A.le⟩
noncomputable def kPanS(r:CR):KF:=fun e _ st=>match e with
 | .pan v=>v=r.v/\st.H=r.H/\st.nx=r.nx/\SubL st.lg r.lg
 | _=>False
noncomputable def vcFiP(P:Program)(E:Env)(sp:Qa7)(gl:T (List V))(n:Nat)(ars:List V)(H:T O)(nx:Nat)(hs:Hs)(r:CR):Option FI->Prop
 |some fi=>bif Nat.ble ars.length fi.ntmps then vc P E sp none nx n fi.body hs ⟨⟨Qco (blank fi.ntmps) 0 ars,gl,fi.ntmps⟩,H,nx,[]⟩ (kPanS r)else False
 |none=>False
theorem CallPan.of_vcP{P:Program}{E:Env}{sp:Qa7}(hE:E.Ok P)(hm:P.follows .mixedOrders=true){gl:T (List V)}(hsp:Qau P gl sp){n f:Nat}{ars:List V}{H:T O}{nx:Nat}{hs:Hs}{r:CR}(h:vcFiP P E sp gl n ars H nx hs r (E.code f)):CallPan P gl (.fn f []) ars H nx r:=by
 unfold vcFiP at h
 split at h
 ·rename_i fi hfi
  obtain⟨hb,hv⟩:=Qae h
  rw[Qbl]at hv
  refine CallPan.fnS hE hfi (by rw[List.append_nil];exact hb) (SatF.of ?_)
  rw[List.append_nil]
  refine Sat.of_vc hE hm hsp rfl hv fun e hs' st' hg hk=>?_
  unfold kPanS at hk
  split at hk
  ·exact⟨by rw[hk.1],hk.2.1,hk.2.2.1,hk.2.2.2⟩
  ·exact hk.elim
 ·exact h.elim
theorem Qpr(p j:List Nat)(s:Nat)(hs:s<18446744073709551616)(hl:j.length<=64)(h64:S64 j)(hd m:Nat)(hne: ∀k,k<=m->reF j s k≠0)(HH:Nat->T O)(N:Nat->Nat)(LL:Nat->List Nat)(v:V)(HP:T O)(nP:Nat)(LP LY:List Nat)(hLL: ∀k,k<m->SubL (LL k) LY)(hLP:SubL LP LY)
  (hy: ∀k,k<m->CallSpec Pg g0 (.yld hd) [u6 (dkF j s k:Nat)] (HH k) (N k) ⟨.bool true,HH (k+1),N (k+1),LL k⟩)(hpn:CallPan Pg g0 (.yld hd) [u6 (dkF j s m:Nat)] (HH m) (N m) ⟨v,HP,nP,LP⟩):
  CallPan Pg g0 (ptC p j s) [.yld hd] (HH 0) (N 0) ⟨v,HP,nP,LY⟩:=by
 refine CallPan.caps ?_
 have l:=Qmk p j s hs hl h64 (N 0) hd m hne HH N LL v HP nP LP LY hLL hLP hy hpn
 have hp:=Qaf p
 have hj:=Qaf j
 refine CallPan.of_vcP vE_ok mixed Qab (n:=1000) (hs:=[(0,.loopM (piS p j hd s 0) (.pan v) (fun _=>[]) (piQ HP nP LY) (fun _ _ _ _=>[]))]) ?_
 clear hy hne hpn hLL hLP
 refine m_ (p:=An [Bn [Sm (V.yld hd),Sm (V.imp [u6 s]),Sm (V.imp [ul p,ul j]),u6 s=u6 ↑(reF j s 0)],Sat Try.prog none (N 0) (at' 89 [1,0]) (mkSo g0 24 (piS p j hd s 0) (HH 0) (N 0) []) (Qbq g0 24 (Ex.pan v) (fun x=>[]) (piQ HP nP LY)),∀(h:Nat)(H:T O)(nx:Nat)(lg:List Nat),(H=HP/\nx=nP/\∀(g:Nat),List.Mem g lg->List.Mem g LY)->v=v/\H=HP/\nx=nP/\∀(g:Nat),List.Mem g lg->List.Mem g LY]) ?_
 (repeat'(first|(with_reducible apply And.intro)|(refine fun(_:True)=>?_)))<;>first|exact aq|skip
 all_goals first|exact l|(rintro h H nx lg ⟨rfl,rfl,hs'⟩;(repeat'(first|(with_reducible apply And.intro)|(refine fun(_:True)=>?_)));all_goals first|rfl|exact trivial|exact hs'|skip)|skip
theorem Qpt(p j:List Nat)(s:Nat)(hs:s<18446744073709551616)(hl:j.length<=64)(h64:S64 j)(hd m:Nat)(hne: ∀k,k<=m->reF j s k≠0)(I:Nat->T O->Nat->Prop)(H0:T O)(n0:Nat)(h0:I 0 H0 n0)(v:V)
  (step: ∀k,k<m->∀H n,I k H n->∃H' n' L,I (k+1) H' n'/\CallSpec Pg g0 (.yld hd) [u6 (dkF j s k:Nat)] H n ⟨.bool true,H',n',L⟩)
  (pan: ∀H n,I m H n->∃H' n' L,CallPan Pg g0 (.yld hd) [u6 (dkF j s m:Nat)] H n ⟨v,H',n',L⟩):
  ∃H' n' L,CallPan Pg g0 (ptC p j s) [.yld hd] H0 n0 ⟨v,H',n',L⟩:=by
 obtain⟨HH,N,LL,e1,e2,hi,hc⟩:=Qe4 (C:=fun k H n H' n' L=>CallSpec Pg g0 (.yld hd) [u6 (dkF j s k:Nat)] H n ⟨.bool true,H',n',L⟩) H0 n0 h0 m step
 obtain⟨H',n',L,hp⟩:=pan _ _ (hi m (Nat.le_refl _))
 have:=Qpr p j s hs hl h64 hd m hne HH N LL v H' n' L ((List.range m).flatMap LL++L) (fun k hk x hx=>List.mem_append.2 (.inl (List.mem_flatMap.2 ⟨k,List.mem_range.2 hk,hx⟩))) (fun x hx=>List.mem_append.2 (.inr hx)) hc hp
 rw[e1,e2]at this
 exact⟨_,_,_,this⟩
theorem Qit{f0:Nat}{rd:Option Nat}{nx0 n nx s m:Nat}{sl:List (Nat×V)}{H:T O}{lg:List Nat}{g:Operand}{ps:Array Tmp}{asg body:Code}(p j:List Nat)(hs:s<18446744073709551616)(hl:j.length<=64)(h64:S64 j)(hne: ∀k,k<=m->reF j s k≠0)
  (hg:ev (mkSo g0 n sl H nx lg).tm g=some (ptC p j s))(hlb:rdOk rd H=true)(L0:O)(hL0:L0= .loop .ready none (f0+1) (mkSo g0 n sl H nx lg).tm ps.toList asg body)
  (I:Nat->T O->Nat->Prop)(h0:I 0 (pt H nx L0) (nx+1))(v:V)(step: ∀k,k<m->∀H n,I k H n->∃H' n' L,I (k+1) H' n'/\CallSpec Pg g0 (.yld nx) [u6 (dkF j s k:Nat)] H n ⟨.bool true,H',n',L⟩)
  (pan: ∀H n,I m H n->∃H' n' L,CallPan Pg g0 (.yld nx) [u6 (dkF j s m:Nat)] H n ⟨v,H',n',L⟩):
  ∃H1 n1 L1,SatF Pg f0 rd nx0 (.rangeFunc g ps asg body) (mkSo g0 n sl H nx lg) (fun e st=>e= .pan v/\st.H=H1/\st.nx=n1/\SubL st.lg L1):=by
 obtain⟨H1,n1,L,hc⟩:=Qpt p j s hs hl h64 nx m hne I _ _ h0 v step pan
 rw[pt_eq]at hc
 subst hL0
 exact⟨H1,n1,L++lg,SatF.rangePan hg hlb hc ⟨rfl,rfl,rfl,fun x hx=>hx⟩⟩
section
variable {P:Program} {E:Env} {call:Qap} {ops:Array Oper} {H:T O} {nx:Nat}
structure QInvG(B:Bs)(ops:Array Oper)(s0:Sig)(w0:World)(nx0:Nat)(H:T O)(nx:Nat)(lg:List Nat)(tm0:TM)(val:Nat->V)(Gb:List Nat)(X:Nat->Prop)(s:Sig)(w:World)(a:Act):Prop where
 at_:Ats B s0 w0 nx0 ⟨⟨.e,tm0.gl,tm0.n⟩,H,nx,lg⟩ s w a
 old: ∀t x,tm0.sl.get t=some x->(∀i,X i->(ops[i]?).bind (·.dst)=some t->False)\/tm0.n<=t->∃u,a.tmps[t]? =some u/\RV s w x u
 new: ∀i t,X i->i∉Gb->(ops[i]?).bind (·.dst)=some t->t<tm0.n->∃u,a.tmps[t]? =some u/\RV s w (val i) u
theorem QInvG.rt{B:Bs}{s0:Sig}{w0:World}{nx0:Nat}{lg:List Nat}{tm0:TM}{val:Nat->V}{Gb:List Nat}{X:Nat->Prop}{s:Sig}{w:World}{a:Act}(I:QInvG B ops s0 w0 nx0 H nx lg tm0 val Gb X s w a){k:Nat}{o:Oper}{l:List Nat}(hl:Qo6 ops (Region.before ops) k o l)(hg: ∀i∈l,i∉Gb)(hm: ∀i,((Region.before ops).getD k 0).testBit i=true->X i):RT s w (rTM ops o (puts ops val l tm0)) a.tmps:=by
 obtain⟨hgl,hn⟩:=Qhp (ops:=ops) val l tm0
 refine⟨by show _=(puts ops val l tm0).n;rw[hn];exact I.at_.rel.rt.1,fun t x hx=>?_,by show∀g l',(puts ops val l tm0).gl.get g=some l'->_;rw[hgl];exact I.at_.rel.rt.2.2⟩
 have hx':(restr (o.looksAt ops) (puts ops val l tm0).sl).get t=some x:=hx
 rw[Qby]at hx'
 split at hx'
 ·rename_i ht
  rcases puts_get val l tm0 t x hx' with⟨i,hi,h1,rfl,hlt⟩|⟨h1,h2⟩|⟨h1,h2⟩
  ·exact I.new i t (hm i (hl i t h1 ht).1) (hg i hi) h1 hlt
  ·exact I.old t x h2 (.inl fun i hX hd=>h1 i (hl i t hd ht).2 hd)
  ·exact I.old t x h1 (.inr h2)
 ·cases hx'
theorem QInvG.put{B:Bs}{s0:Sig}{w0:World}{nx0:Nat}{lg:List Nat}{tm0:TM}{val:Nat->V}{Gb:List Nat}{X:Nat->Prop}{s s':Sig}{w w':World}{a:Act}(I:QInvG B ops s0 w0 nx0 H nx lg tm0 val Gb X s w a)(hU:Qcf (ops.toList.filterMap (·.dst))=true){k:Nat}{o:Oper}(ho:ops[k]? =some o){u:Value}(hu:k∉Gb->RV s' w' (val k) u)(hH:RH s' w' H.get)(hs:Step s w s' w' [])(hd: ∀i,s'.dom i↔s.dom i\/nx<=i/\i<nx):QInvG B ops s0 w0 nx0 H nx lg tm0 val Gb (Qe9 X k) s' w' (a.put o.dst u):=by
 have hk:(ops[k]?).bind (·.dst)=o.dst:=by rw[ho];rfl
 have hsz:a.tmps.size=tm0.n:=I.at_.rel.rt.1
 refine⟨?_,fun t x hx hne=>?_,fun i t hX hng hdi hlt=>?_⟩
 ·refine Ats.went I.at_ (lg := []) ⟨⟨hH, ⟨by rw [Qd3]; exact I.at_.rel.rt.1, fun i x hx => by simp at hx, (I.at_.rel.rt.mono hs.le hs.k).2.2⟩, Qct I.at_.rel.nx hd (Nat.le_refl _), ?_⟩, hs, hd, Nat.le_refl _, rfl⟩
  obtain⟨Ds,d1,d2,d3⟩:=I.at_.rel.df
  refine⟨Ds,?_,d2,fun D hD=>(d3 D hD).step hs⟩
  rw[<-d1]
  cases o.dst<;>rfl
 ·have hne' : o.dst ≠ some t \/ tm0.n <= t := by
   rcases hne with hne|hge
   ·exact .inl fun e=>hne k (.inr rfl) (hk.trans e)
   ·exact .inr hge
  obtain⟨v,hv,hr⟩:=I.old t x hx (hne.imp (fun h i hX=>h i (.inl hX)) id)
  rcases hne' with hne'|hge
  ·exact⟨v,by rw[Qa1 hne'];exact hv,RV.mono hs.le hs.k _ _ hr⟩
  ·have := (Array.getElem?_eq_some_iff.1 hv).1
   omega
 ·by_cases hkt : o.dst = some t
  ·have hik : i = k := by
    cases hoi:ops[i]? with
    |none=>rw[hoi]at hdi;cases hdi
    |some oi=>rw[hoi]at hdi;exact Qgf hU hoi ho hdi hkt
   subst hik
   exact⟨u,by rw[hkt];exact Qd2 (by rw[hsz];exact hlt),hu hng⟩
  ·rcases hX with hX | rfl
   ·obtain ⟨v, hv, hr⟩ := I.new i t hX hng hdi hlt
    exact⟨v,by rw[Qa1 hkt];exact hv,RV.mono hs.le hs.k _ _ hr⟩
   ·exact absurd (hk.symm.trans hdi) hkt
theorem any_panG(hG:E.G.Ok P)(hX:Qlq E P){l:Option Nat}{Q:Exit->Act->World->Prop}{B:Bs}{s0:Sig}{w0:World}{nx0:Nat}{lg:List Nat}{tm0:TM}{val:Nat->V}{A Gb:List Nat}{j0:Nat}{oj:Oper}{v:V}(hcall:Qbj P tm0.gl call)
  (hE:Qdh ops=true)(hM:Qhc ops (Region.before ops)=true)(hU:Qcf (ops.toList.filterMap (·.dst))=true)
  (hA: ∀k∈A,∃l1 o,ops[k]? =some o/\QOp E call ops H nx (puts ops val l1 tm0) o (val k)/\Qo6 ops (Region.before ops) k o l1/\∀i∈l1,i∉Gb)
  (hj:ops[j0]? =some oj)(hjw:wantedV (puts ops val A tm0) ops oj=some true)(hjp:PanOp P ⟨puts ops val A tm0,H,nx,lg⟩ oj v ⟨puts ops val A tm0,H,nx,lg⟩)(hjl:Qo6 ops (Region.before ops) j0 oj A)(hjA: ¬(j0∈A\/j0∈Gb))(hAG: ∀i∈A,i∉Gb)(hGb: ∀k∈Gb,∃o x ob,ops[k]? =some o/\o.guard=none/\∀tm,allocO E.G tm nx o=some (x,ob))
  (hO: ∀k o,ops[k]? =some o->k∉A->k∉Gb->k≠j0->∃e∈o.after,Region.binds .any e=true/\¬(e.on∈A\/e.on∈Gb))
  (hQ: ∀s' w' a',Ats B s0 w0 nx0 ⟨⟨.e,tm0.gl,tm0.n⟩,H,nx,lg⟩ s' w' a'->exQ Q w' a' (.pan v)): ∀(fuel:Nat)(b:Array Bool)(s:Sig)(w:World)(a:Act),QInvG B ops s0 w0 nx0 H nx lg tm0 val Gb (Lst b) s w a->(∀k o,Lst b k->ops[k]? =some o->∀e∈o.after,Region.binds .any e=true->Lst b e.on)->b.size=ops.size->(∀i,Lst b i->i∈A\/i∈Gb)->cnt b ops.size<=fuel->
  wpAnyIn (FF l) 5 P .any ops Q fuel b a w:=by
 have hj0:j0<ops.size:=(Array.getElem?_eq_some_iff.1 hj).1
 intro fuel
 induction fuel with
 |zero=>
  intro b s w a I cl hs hin hc
  exact absurd (hin j0 (Qf1 (b:=b) (n:=ops.size) o_ j0 hj0)) hjA
 | succ fuel ih =>
  intro b s w a I cl hs hin hc
  refine⟨fun h=>absurd (hin j0 (Qe3 hs hE h j0 hj0)) hjA,fun j hjr=>?_⟩
  obtain⟨h1,o,ho,jx⟩:=mem_ready.1 hjr
  have hjs:j<b.size:=by rw[hs];exact(Array.getElem?_eq_some_iff.1 ho).1
  have hb:b.getD j false=false:=by
   cases hb:b.getD j false with
   |false=>rfl
   |true=>exact(Qe0 h1 hb).elim
  have hmask:=Qc3 hM hE (X:=Lst b) cl j o ho jx
  unfold wpOpIn
  rw[ho]
  dsimp only
  by_cases hjj:j=j0
  ·subst hjj
   rw[hj]at ho;cases ho
   have hRT:=I.rt hjl hAG hmask
   rw[Qax]at hjw
   rw[if_pos (Qar hRT hjw)]
   have hp:=PanOp.tm (Qdl (ops:=ops)) rfl hjp
   have kj:Rel B s w ⟨rTM ops oj (puts ops val A tm0),H,nx,lg⟩ a:=⟨I.at_.rel.rh,hRT,I.at_.rel.nx,I.at_.rel.df⟩
   refine Qjx hp kj (fun lg2 s2 w2 W u hu=>hQ s2 w2 a (Ats.went I.at_ (lg:=lg2) ⟨⟨W.rel.rh,⟨I.at_.rel.rt.1,fun i x hx=>by simp at hx,(I.at_.rel.rt.mono W.step.le W.step.k).2.2⟩,W.rel.nx,W.rel.df⟩,W.step,W.dom,W.le,W.log⟩) u hu)
  ·have hjA' : j ∈ A \/ j ∈ Gb := by
    refine Classical.byContradiction fun hn=>?_
    obtain⟨e,he,hbd,hno⟩:=hO j o ho (fun h=>hn (.inl h)) (fun h=>hn (.inr h)) hjj
    exact hno (hin _ (jx e he hbd))
   have hX':Lst (b.setIfInBounds j true)=Qe9 (Lst b) j:=funext fun i=>propext (by
    unfold Lst Qe9
    rw[Qf3 hjs]
    by_cases h:i=j
    ·simp[h]
    ·simp[h])
   have cl': ∀k ok,Lst (b.setIfInBounds j true) k->ops[k]? =some ok->∀e∈ok.after,Region.binds .any e=true->Lst (b.setIfInBounds j true) e.on:=by
    rw[hX']
    rintro k ok (hk|rfl) hok e he hbn
    ·exact .inl (cl k ok hk hok e he hbn)
    ·rw [ho] at hok; cases hok
     exact .inl (jx e he hbn)
   have hin': ∀i,Lst (b.setIfInBounds j true) i->i∈A\/i∈Gb:=by
    rw[hX']
    rintro i (hi|rfl)
    ·exact hin i hi
    ·exact hjA'
   have hcn:=Qja hjs hb ops.size
   rw[if_pos o_]at hcn
   have next: ∀{s':Sig}{w':World}{a':Act},QInvG B ops s0 w0 nx0 H nx lg tm0 val Gb (Qe9 (Lst b) j) s' w' a'->wpAnyIn (FF l) 5 P .any ops Q fuel (b.setIfInBounds j true) a' w':=fun J=>
    ih _ _ _ _ (by rw[hX'];exact J) cl' (by simp[hs]) hin' o_
   have kz: ∀i,s.dom i↔s.dom i\/nx<=i/\i<nx:=fun i=>⟨.inl,fun h=>h.elim id (fun h=>by omega)⟩
   rcases hjA' with hjA'|hjG
   ·obtain ⟨l1, o', ho', hq, hlk, hlg⟩ := hA j hjA'
    rw[ho]at ho';cases ho'
    have hRT:=I.rt hlk hlg hmask
    rcases hq with⟨hw,hv⟩|⟨hw,rd,hc'⟩|⟨hw,he⟩
    ·rw [Qax] at hw
     rw[if_neg (by rw[Qar hRT hw];decide)]
     exact⟨fun f _=>Qdc l f,next (I.put hU ho (fun _=>by rw[hv];exact⟨#[],rfl,rfl⟩) I.at_.rel.rh (Step.refl s w []) kz)⟩
    ·rw [Qax] at hw
     rw[if_pos (Qar hRT hw)]
     rw[Qlu (Qdl (ops:=ops))]at hc'
     obtain⟨u,g1,g2⟩:=Qdt hG I.at_.rel.rh hRT hc'
     refine⟨fun f _=>Qdc l f,?_⟩
     rw[Qdu hc',g2 w (fun _ _=>rfl) (fun _ _=>rfl)]
     exact next (I.put hU ho (fun _=>g1) I.at_.rel.rh (Step.refl s w []) kz)
    ·rw [Qax] at hw
     rw[if_pos (Qar hRT hw)]
     rw[Qq7 (Qdl (ops:=ops))]at he
     have hgl:(rTM ops o (puts ops val l1 tm0)).gl=tm0.gl:=(Qhp (ops:=ops) val l1 tm0).1
     refine Qk1 hG hX hcall hgl I.at_.rel.rh hRT I.at_.rel.nx he ?_
     rintro u w' ⟨u',s',e,g1,g2,g3,g4,g5⟩
     cases e
     exact next (I.put hU ho (fun _=>g1) g2 g3 g4)
   ·obtain ⟨o', x, ob, ho', hgd, hal⟩ := hGb j hjG
    rw[ho]at ho';cases ho'
    rw[if_pos (by unfold Region.wanted;rw[hgd])]
    obtain⟨u,w',s',g1,g2,g3,g4,g5⟩:=Qek hG I.at_.rel.rh I.at_.rel.rt (I.at_.rel.nx nx (Nat.le_refl _)) (hal _)
    obtain⟨s'',q1,q2,q3,q4⟩:=Qbm (v:=.bool true) (u:=.bool true) I.at_.rel.rh rfl trivial g4 (fun h hh=>by cases hh) (fun b hb=>g3.old b (.inl hb))
    refine⟨fun f _=>Qdc l f,?_⟩
    rw[Qed (hal ⟨.e,tm0.gl,tm0.n⟩),g1]
    exact next (I.put hU ho (fun h=>absurd hjG h) q2 q3 (fun i=>by rw[q4];exact kz i))
end
def Qte(ops:Array Oper)(bf:Array Nat)(A Gb:List Nat)(j0:Nat):Bool:=
 Qdh ops&&Qhc ops bf&&Qcf (ops.toList.filterMap (·.dst))&&ordB ops bf [] A&&(match ops[j0]? with|some o=>looksB ops bf j0 o A|none=>false)&& !A.contains j0&& !Gb.contains j0&&(A.all fun k=> !Gb.contains k)&&
 ops.toList.zipIdx.all fun p=>A.contains p.2||Gb.contains p.2||Nat.beq p.2 j0||p.1.after.toList.any fun e=>Region.binds .any e&& !A.contains e.on&& !Gb.contains e.on
theorem Sat.region_panDG{P:Program}{E:Env}(hE:E.Ok P)(hm:P.follows .mixedOrders=true){rd:Option Nat}{nx0:Nat}{st:St}{R:Ex->St->Prop}{id:Nat}{ops:Array Oper}{call:Qap}(hc:Qbj P st.tm.gl call){A Gb:List Nat}{j0:Nat}{oj:Oper}{v:V}{val:Nat->V}(hb:Qte ops (Region.before ops) A Gb j0=true)
  (hGb: ∀k∈Gb,∃o x ob,ops[k]? =some o/\o.guard=none/\∀tm,allocO E.G tm st.nx o=some (x,ob))
  (hA: ∀l1 k l2,A=l1++k::l2->∃o,ops[k]? =some o/\QOp E call ops st.H st.nx (puts ops val l1 st.tm) o (val k))
  (hj:ops[j0]? =some oj)(hjw:wantedV (puts ops val A st.tm) ops oj=some true)(hjp:PanOp P ⟨puts ops val A st.tm,st.H,st.nx,st.lg⟩ oj v ⟨puts ops val A st.tm,st.H,st.nx,st.lg⟩)
  (hR:R (.pan v) ⟨⟨.e,st.tm.gl,st.tm.n⟩,st.H,st.nx,st.lg⟩):Sat P rd nx0 (.region id ops true) st R:=by
 intro B s0 w0 s w a hn hB hrd At Q hQ
 unfold Qte at hb
 simp only[Bool.and_eq_true]at hb
 obtain⟨⟨⟨⟨⟨⟨⟨⟨b1,b2⟩,b3⟩,b4⟩,b5⟩,b6⟩,b8⟩,b9⟩,b7⟩:=hb
 have hAG: ∀i∈A,i∉Gb:=fun i hi hg=>by
  have:=List.all_eq_true.1 b9 i hi
  simp[hg]at this
 refine wpIn_region_any hm ?_
 have hL:Lst (Array.replicate ops.size false)=fun _=>False:=funext fun i=>propext ⟨fun h=>by
  unfold Lst at h
  rw[Array.getD_eq_getD_getElem?,Array.getElem?_replicate]at h
  split at h<;>simp at h,False.elim⟩
 have kd:Kept s w w.drew:=fun _ _=>rfl
 have hord: ∀(l pre:List Nat),ordB ops (Region.before ops) pre l=true->∀l1 k l2,l=l1++k::l2->∀o,ops[k]? =some o->looksB ops (Region.before ops) k o (pre++l1)=true:=by
  intro l
  induction l with
  |nil=>intro pre _ l1 k l2 e;simp at e
  | cons x l ih =>
   intro pre h l1 k l2 e o ho
   unfold ordB at h
   simp only[Bool.and_eq_true]at h
   cases l1 with
   |nil=>
    rw[List.nil_append]at e
    cases e
    rw[ho]at h
    rw[List.append_nil];exact h.1.2
   |cons y l1=>
    rw[List.cons_append]at e
    cases e
    have:=ih (pre++[x]) h.2 l1 k l2 rfl o ho
    simpa using this
 refine any_panG (l:=rd.map s0.μ) (val:=val) (A:=A) (Gb:=Gb) (j0:=j0) (tm0:=st.tm) hE.G hE.ext hc b1 b2 b3 (fun k hk=>?_) hj hjw hjp ?_ (by simp at b6 b8;exact fun h=>h.elim b6 b8) hAG hGb (fun k o ho hk hkg hkj=>?_) (fun s' w' a' A' u hu=>hQ _ _ hR s' w' a' A' u hu) ops.size _ s w.drew a ?_ ?_ (by simp) ?_ ?_
 ·obtain ⟨l1, l2, e⟩ := List.append_of_mem hk
  obtain⟨o,ho,hq⟩:=hA l1 k l2 e
  refine⟨l1,o,ho,hq,?_⟩
  have:=hord A [] b4 l1 k l2 e o ho
  rw[List.nil_append]at this
  exact⟨Qey this,fun i hi=>hAG i (by rw[e];exact List.mem_append.2 (.inl hi))⟩
 ·rw [hj] at b5
  exact Qey b5
 ·have := Qdo b7 ho
  dsimp only at this
  rw[Bool.or_eq_true,Bool.or_eq_true,Bool.or_eq_true]at this
  rcases this with((h|h)|h)|h
  ·exact absurd (List.contains_iff_mem.1 h) hk
  ·exact absurd (List.contains_iff_mem.1 h) hkg
  ·exact absurd (Nat.eq_of_beq_eq_true h) hkj
  ·obtain ⟨e, he, h2⟩ := List.any_eq_true.1 h
   rw[Bool.and_eq_true,Bool.and_eq_true]at h2
   exact⟨e,by simpa using he,h2.1.1,fun hm=>hm.elim (fun hm=>by have:=h2.1.2;simp[hm]at this) (fun hm=>by have:=h2.2;simp[hm]at this)⟩
 ·rw [hL]
  have hr:=At.rel
  refine⟨⟨⟨hr.rh.drew,⟨hr.rt.1,fun i x hx=>by simp at hx,fun gi l hl=>RC.mono (Sig.Le.refl s) kd _ _ _ (hr.rt.2.2 gi l hl)⟩,hr.nx,?_⟩,At.step.drew,At.dom,At.le⟩,fun t x hx _=>?_,fun _ _ h=>h.elim⟩
  ·obtain ⟨Ds, h1, h2, h3⟩ := hr.df
   exact⟨Ds,h1,h2,h3⟩
  ·obtain ⟨v, hv, hrv⟩ := hr.rt.2.1 t x hx
   exact⟨v,hv,RV.mono (Sig.Le.refl s) kd _ _ hrv⟩
 ·rw[hL];exact fun _ _ h=>h.elim
 ·rw[hL];exact fun _ h=>h.elim
 ·have : ∀ n, cnt (Array.replicate ops.size false) n <= n := by
   intro n
   induction n with
   |zero=>simp[cnt]
   |succ n ih=>unfold cnt;cases(Array.replicate ops.size false).getD n false<;>simp<;>omega
  exact this ops.size
set_option maxHeartbeats 1000000
set_option maxRecDepth 100000
theorem Sat.region_panV{P:Program}{E:Env}{sp:Qa7}(hE:E.Ok P)(hm:P.follows .mixedOrders=true){rd:Option Nat}{nx0 id j:Nat}{ops:Array Oper}{tm:TM}{H:T O}{nx:Nat}{lg:List Nat}{A Gb:List Nat}{o:Oper}{v0:V}{hs:Hs}(hsp:Qau P tm.gl sp)(hb:Qte ops (Region.before ops) A Gb j=true)(ho:ops[j]? =some o)
  (hGb: ∀k∈Gb,∃o x ob,ops[k]? =some o/\o.guard=none/\∀tm,allocO E.G tm nx o=some (x,ob))
  (h:vcQ P E sp ops H nx (fun hs _ tm'=>match fwanted tm' ops o with
    |some true=>Qh0 P tm' H nx lg (some v0) (fun v _=>v=v0) o.op
    | _=>False) A hs [] tm):Sat P rd nx0 (.region id ops true) ⟨tm,H,nx,lg⟩ (fun e st=>e= .pan v0/\st.H=H/\st.nx=nx/\st.lg=lg):=by
 have hnd:A.Nodup:=by
  have hb':=hb
  unfold Qte at hb'
  simp only[Bool.and_eq_true]at hb'
  exact Qfk hb'.1.1.1.1.1.2
 obtain⟨hs',qs',val,k1,k2,_,k4⟩:=Qur (gl:=tm.gl) hsp _ hs [] tm hnd rfl TblOk.nil h
 rw[Qa9]at k1
 split at k1
 ·rename_i hw
  obtain⟨v,p1,p2⟩:=Qh1 k1
  subst p2
  exact Sat.region_panDG hE hm (st:=⟨tm,H,nx,lg⟩) k2.call hb hGb (k4 _ k2.meets) ho hw p1 ⟨rfl,rfl,rfl,rfl⟩
 ·exact k1.elim
theorem Qs2:Qte o2P (Region.before o2P) [0,1,2,3,4,5,6,7,8,9,11] [12] 10=true:=by kernel_rfl
theorem o2_gar(nx:Nat): ∀k∈[12],∃o x ob,o2P[k]? =some o/\o.guard=none/\∀tm,allocO vE.G tm nx o=some (x,ob):=by
 intro k hk
 obtain rfl:=List.mem_singleton.1 hk
 exact⟨opK 12,.sl nx 0 1 (some 0),.row 57 none [i6 0,u6 0,.nils],by kernel_rfl,by kernel_rfl,fun tm=>by kernel_rfl⟩
theorem o2_panV(p j:List Nat)(xs ys:Nat)(od:List Nat)(rd hb c t all nx0 nx:Nat)(H:T O)(lg:List Nat)(hB:gt H hb=some (uO c))(h0:gt H 0=some (pO p j xs ys od))(h2:gt H 2=some (uO all))(v5:V)(u:Int)(hv5:v5= .nils\/∃h n,v5= .sl h 0 n none)(h3:gt H 3=some (fcO v5))
  (kq vq nq:Nat)(X:List V)(hX:HfL X)(hz:V)
  (htab:FnOk Pg g0 67 [u6 all] (.agg [i6 (1:Nat),u6 (all:Nat),.im 0 noL]))
  (xy:FnOk Pg g0 66 [.imp (prC p j xs ys od),u6 t,u6 all,.agg [i6 (1:Nat),u6 (all:Nat),.im 0 noL]] (.agg [i6 (kq:Nat),u6 (vq:Nat),.im nq X]))
  (xk:FnPan Pg g0 65 [.imp (prC p j xs ys od),u6 c,u6 t,.agg [i6 (kq:Nat),u6 (vq:Nat),.im nq X]] hz):
  Sat Pg (some rd) nx0 o2R (mkSo g0 73 (s21 hb t) H nx lg) (fun e st=>e= .pan hz/\st.H=H/\st.nx=nx/\st.lg=lg):=by
 rw[Qs0]
 have hp:=Qaf p
 have hj:=Qaf j
 have ho:=Qbk od
 rcases hv5 with rfl|⟨h,n,rfl⟩
 ·refine Sat.region_panV vE_ok mixed (sp := sp0) Qab Qs2 (show o2P[10]? = some (opK 10) by kernel_rfl) (o2_gar nx) (hs := [lo_ 49 (fcO .nils) .nils, lo_ 50 (pO p j xs ys od) (.imp (prC p j xs ys od)), lo_ 51 (uO c) (u6 (c : Nat)), lo_ 53 (pO p j xs ys od) (.imp (prC p j xs ys od)), lo_ 55 (uO all) (u6 (all : Nat)), lo_ 56 (uO all) (u6 (all : Nat)), fn 57 (.agg [i6 (1 : Nat), u6 (all : Nat), .im 0 noL]), fn 58 (.agg [i6 (kq : Nat), u6 (vq : Nat), .im nq X])]) ?_
  exact v_ (p:=let z5:=Bn [Tt,Tt,Tt,TT 3];let z0:=V.imp (prC p j xs ys od);let z2:=V.agg [i6 kq,u6 vq,V.im nq X];let z3:=u6 ↑all;let z4:=some (pO p j xs ys od);let z1:=V.agg [i6 ↑(1:Nat),z3,V.im 0 noL];An [gt H 3=some (fcO V.nils),headF [V.nils]=some V.nils,gt H 0=z4,headF [z0]=some z0,gt H hb=some (uO c),headF [u6 c]=some (u6 c),gt H 0=z4,headF [z0]=some z0,gt H 2=some (uO all),headF [z3]=some z3,gt H 2=some (uO all),headF [z3]=some z3,Bn [Tt],FnOk Try.prog g0 67 [z3] z1,Tt,An [H=H,nx=nx,([]:List Nat)=[]],z5,FnOk Try.prog g0 66 [z0,u6 t,z3,z1] z2,Bn [(V.fn 67 []=V.fn 66 []->[z3]=[z0,u6 t,z3,z1]->H=H->nx=nx->CR.mk z1 H nx []=CR.mk z2 H nx [])],An [H=H,nx=nx,([]:List Nat)=[]],z5,FnPan Try.prog g0 65 [z0,u6 c,u6 t,z2] hz,hz=hz])
 ·refine Sat.region_panV vE_ok mixed (sp := sp0) Qab Qs2 (show o2P[10]? = some (opK 10) by kernel_rfl) (o2_gar nx) (hs := [lo_ 49 (fcO (.sl h 0 n none)) (.sl h 0 n none), lo_ 50 (pO p j xs ys od) (.imp (prC p j xs ys od)), lo_ 51 (uO c) (u6 (c : Nat)), lo_ 53 (pO p j xs ys od) (.imp (prC p j xs ys od)), lo_ 55 (uO all) (u6 (all : Nat)), lo_ 56 (uO all) (u6 (all : Nat)), fn 57 (.agg [i6 (1 : Nat), u6 (all : Nat), .im 0 noL]), fn 58 (.agg [i6 (kq : Nat), u6 (vq : Nat), .im nq X])]) ?_
  exact v_ (p:=let z6:=Bn [Tt,Tt,Tt,TT 3];let z0:=V.imp (prC p j xs ys od);let z2:=V.agg [i6 kq,u6 vq,V.im nq X];let z3:=u6 ↑all;let z4:=V.sl h 0 n none;let z5:=some (pO p j xs ys od);let z1:=V.agg [i6 ↑(1:Nat),z3,V.im 0 noL];An [gt H 3=some (fcO z4),headF [z4]=some z4,gt H 0=z5,headF [z0]=some z0,gt H hb=some (uO c),headF [u6 c]=some (u6 c),gt H 0=z5,headF [z0]=some z0,gt H 2=some (uO all),headF [z3]=some z3,gt H 2=some (uO all),headF [z3]=some z3,Bn [Tt],FnOk Try.prog g0 67 [z3] z1,Tt,An [H=H,nx=nx,([]:List Nat)=[]],z6,FnOk Try.prog g0 66 [z0,u6 t,z3,z1] z2,Bn [(V.fn 67 []=V.fn 66 []->[z3]=[z0,u6 t,z3,z1]->H=H->nx=nx->CR.mk z1 H nx []=CR.mk z2 H nx [])],An [H=H,nx=nx,([]:List Nat)=[]],z6,FnPan Try.prog g0 65 [z0,u6 c,u6 t,z2] hz,hz=hz])
theorem CallPan.yldS{P:Program}{E:Env}{sp:Qa7}(hE:E.Ok P)(hm:P.follows .mixedOrders=true){gl:T (List V)}(hsp:Qau P gl sp){n hd f0:Nat}{fn:Func}(hf:P.funcs[f0]? =some fn){ars:List V}{H H1 H2:T O}{nx nx1 nx2:Nat}{tm tm1:TM}{ps:List Nat}{assign body:Code}{sl0 sl1:List (Nat×V)}{lg1 L:List Nat}{hs0:Hs}{m0:Nat}{v:V}
  (ho:gt H hd=some (.loop .ready none (f0+1) tm ps assign body))(xg:putPs tm ps ars=some tm1)(hn:tm1.n=n)(hg:tm1.gl=gl)(h0:slotsQ tm1 sl0)
  (ha:vc P E sp (some hd) nx m0 assign hs0 (mkSo gl n sl0 H nx []) (Qce n sl1 H1 nx1 lg1))(h1:gt H1 hd=some (.loop .ready none (f0+1) tm ps assign body))
  (hb:SatF P f0 (some hd) nx body (mkSo gl n sl1 (pt H1 hd (.loop .busy none (f0+1) tm ps assign body)) nx1 (hd::lg1)) (fun e st=>e= .pan v/\st.H=H2/\st.nx=nx2/\∀x,x∈st.lg->x∈L)):
  CallPan P gl (.yld hd) ars H nx ⟨v,H2,nx2,L⟩:=by
 rw[Qak]at ho h1
 refine CallPan.yld hf ho xg ?_
 have hst:(⟨tm1,H,nx,[]⟩:St)=⟨⟨tm1.sl,gl,n⟩,H,nx,[]⟩:=by cases tm1;subst hn hg;rfl
 rw[hst]
 refine SatF.of ?_
 refine Sat.fewer (sl:=sl0) (by obtain⟨a,b,c⟩:=tm1;cases hn;cases hg;exact h0) ?_
 refine Sat.fewer_post ?_
 refine Sat.of_vc hE hm hsp rfl ha fun e hs' st' hgl hk=>?_
 unfold Qce at hk
 split at hk
 ·obtain ⟨hb1, k1, k2, k3, k4⟩ := Qae hk
  have hn':=Nat.eq_of_beq_eq_true hb1
  refine⟨sl1,k1,rfl,none,_,tm,ps,assign,body,by show st'.H.get hd=_;rw[k2];exact h1,?_⟩
  show SatF P f0 (some hd) nx body ⟨_,st'.H.put hd _,st'.nx,hd::st'.lg⟩ _
  rw[k2,k3,k4]
  have e0:(mkSo st'.tm.gl st'.tm.n sl1 H1 nx1 lg1).tm=(mkSo gl n sl1 H1 nx1 lg1).tm:=by rw[hgl,hn']
  rw[e0]
  rw[pt_eq]at hb
  exact hb
 ·exact hk.elim
theorem Qsa{p j od:List Nat}{all F c:Nat}{fs:List Es}{h:Nat×Nat×Nat}: ∀{m:Nat},inW p j od all F c fs m=some (.inr h)->∃k,k<m/\∃gs,inW p j od all F c fs k=some (.inl gs)/\mi c (dkF j all k)=0/\fiW p j od c F (dkF j all k,partE (dkF j all k) all (.mk 1 all []) od)=some (.inr h)
 |0,hw=>by unfold inW at hw;cases hw
 | m + 1, hw => by
  unfold inW at hw
  split at hw
  ·rename_i g hg
   split at hw
   ·rename_i hm
    split at hw
    ·cases hw
    ·rename_i h' hf
     cases hw
     exact⟨m,by omega,g,hg,hm,hf⟩
    ·cases hw
   ·cases hw
  ·rename_i r hr
   obtain⟨k,h1,h2⟩:=Qsa hw
   exact⟨k,by omega,h2⟩
theorem Qs5{p j od:List Nat}{all F asked:Nat}{h:Nat×Nat×Nat}: ∀{m:Nat},ouW p j od all F asked m=some (.inr h)->∃k,k<m/\∃gs,ouW p j od all F asked k=some (.inl gs)/\inW p j od all F (dkF j asked k) gs (rn j all)=some (.inr h)
 |0,hw=>by unfold ouW at hw;cases hw
 | m + 1, hw => by
  unfold ouW at hw
  split at hw
  ·rename_i g hg
   exact⟨m,by omega,g,hg,hw⟩
  ·rename_i r hr
   obtain⟨k,h1,h2⟩:=Qs5 hw
   exact⟨k,by omega,h2⟩
section
variable (p j:List Nat) (xs ys:Nat) (od:List Nat) (all c hb hl:Nat) (Lo:O)
theorem in_panic(fs:List Es)(H:T O)(nx t:Nat)(M:InM p j xs ys od all c hb hl (lp2 (39+1) p j hb all .ready) Lo fs H nx)(hc:c<18446744073709551616)(ht:t<18446744073709551616)(hm:mi c t=0)(q:Es)(hz:V)
  (xy:FnOk Pg g0 66 [.imp (prC p j xs ys od),u6 t,u6 all,esV (.mk 1 all [])] (esV q))
  (xk:FnPan Pg g0 65 [.imp (prC p j xs ys od),u6 c,u6 t,esV q] hz):
  ∃H' n' L,CallPan Pg g0 (.yld hl) [u6 (t:Nat)] H nx ⟨hz,H',n',L⟩:=by
 have htab:=Qkb all
 obtain⟨kq,vq,nq,X,eq,hX⟩:=Qfs q
 change FnOk Pg g0 67 [u6 all] (.agg [i6 (1:Nat),u6 (all:Nat),.im 0 noL])at htab
 change FnOk Pg g0 66 [.imp (prC p j xs ys od),u6 t,u6 all,.agg [i6 (1:Nat),u6 (all:Nat),.im 0 noL]] (.agg (esC q))at xy
 change FnPan Pg g0 65 [.imp (prC p j xs ys od),u6 c,u6 t,.agg (esC q)] hz at xk
 rw[eq]at xy xk
 obtain⟨m0,m1,m2,m4,mb,ml,mf,b1,b2,b3⟩:=M
 obtain⟨Bz,hBz⟩: ∃B,B=lp2 (39+1) p j hb all .busy:=⟨_,rfl⟩
 have hne:hb≠hl:=Nat.ne_of_lt b2
 have w0:gt (pt H hl Bz) 0=some (pO p j xs ys od):=by rw[gt_pt,if_neg o_];exact m0
 have w2:gt (pt H hl Bz) 2=some (uO all):=by rw[gt_pt,if_neg o_];exact m2
 have wb:gt (pt H hl Bz) hb=some (uO c):=by rw[gt_pt,if_neg hne];exact mb
 obtain⟨v5,hv5,w3⟩: ∃v5,(v5=V.nils\/∃h n,v5= .sl h 0 n none)/\gt (pt H hl Bz) 3=some (fcO v5):=by
  rcases mf with⟨_,m3⟩|⟨h,w,_,_,_,_,m3,_⟩
  ·exact⟨_,.inl rfl,by rw[gt_pt,if_neg o_];exact m3⟩
  ·exact⟨_,.inr ⟨h,_,rfl⟩,by rw[gt_pt,if_neg o_];exact m3⟩
 have hR:=o2_panV p j xs ys od hl hb c t all nx nx (pt H hl Bz) [hl] wb w0 w2 v5 0 hv5 w3 kq vq nq X hX hz htab xy xk
 have hS:Sat Pg (some hl) nx o2B (mkSo g0 73 (s21 hb t) (pt H hl Bz) nx [hl]) (fun e st=>e= .pan hz/\st.H=pt H hl Bz/\st.nx=nx/\∀x,x∈st.lg->x∈[hl]):=by
  rw[o2B_eq]
  refine Sat.block (R':=fun e st=>e= .pan hz/\st.H=pt H hl Bz/\st.nx=nx/\∀x,x∈st.lg->x∈[hl]) ?_ (fun st1⟨he,_⟩=>by cases he) (fun e st1 _ h=>h)
  refine Sat.seq (R':=fun e st=>e= .normal/\st=mkSo g0 73 (s22 hb t) (pt H hl Bz) nx [hl]) ?_ (fun st1⟨_,e⟩=>?_) (fun e st1 hne⟨he,_⟩=>absurd he hne)
  ·refine Sat.fewer_post (Sat.of_vc vE_ok mixed Qab rfl (Qod hl hb c t nx nx (pt H hl Bz) [hl] hc ht hm wb) fun e hs' st' hgl hk => ?_)
   unfold Qce at hk
   split at hk
   ·obtain ⟨hb1, k1, k2, k3, k4⟩ := Qae hk
    have hn':=Nat.eq_of_beq_eq_true hb1
    exact⟨s22 hb t,k1,rfl,by rw[k2,k3,k4,hn',hgl];rfl⟩
   ·exact hk.elim
  ·subst e
   refine Sat.cond (t:=true) rfl ?_
   show Sat Pg (some hl) nx o2R _ _
   refine Sat.fewer (sl:=s21 hb t) ⟨rfl,rfl,rfl,rfl,rfl,trivial⟩ (hR.mono fun e st⟨h1,h2,h3,h4⟩=>⟨h1,h2,h3,fun x hx=>by rw[h4]at hx;exact hx⟩)
 rw[hBz]at hS
 exact⟨_,_,_,CallPan.yldS vE_ok mixed Qab Try.func39 (n:=73) (hd:=hl) (ars:=[u6 (t:Nat)]) (H:=H) (H1:=H) (tm:=tm2 p j hb all) (ps:=[44]) (assign:=o2A) (body:=o2B) (sl0:=s20 hb t) (sl1:=s21 hb t) (lg1:=[]) (m0:=1000) ml rfl rfl rfl ⟨rfl,rfl,rfl,rfl,rfl,trivial⟩ (Qoc hl hb t H nx) ml (SatF.of hS)⟩
end
set_option maxHeartbeats 1000000
set_option maxRecDepth 100000
section
variable (p j:List Nat) (xs ys:Nat) (od:List Nat) (asked all c:Nat) (hc:c<18446744073709551616) (jx:all<18446744073709551616) (ho: ∀x∈od,x<64) (hol:od.length<=64) (hlp:p.length<=64) (jt:S64 p) (hl:j.length<=64) (h64:S64 j)
include hc jx ho hol hlp jt hl h64
theorem ou_panic(F:Nat)(fs:List Es)(h:Nat×Nat×Nat)(hfl:fs.length+rn j all<=10000)(hw:inW p j od all F c fs (rn j all)=some (.inr h))(H:T O)(nx:Nat)(M:OuM p j xs ys od all (lp1 (39+1) p j asked .ready) fs H nx):
  ∃H' n' L,CallPan Pg g0 (.yld 4) [u6 (c:Nat)] H nx ⟨hgP h,H',n',L⟩:=by
 obtain⟨m0,m1,m2,m4,mf,b⟩:=M
 obtain⟨Bz,hBz⟩: ∃B,B=lp1 (39+1) p j asked .busy:=⟨_,rfl⟩
 obtain⟨H1,hH1⟩: ∃H1,H1=pt (pt H nx (uO 0)) nx (uO c):=⟨_,rfl⟩
 have k1: ∀i,i≠nx->gt H1 i=gt H i:=fun i hi=>by rw[hH1,gt_pt,if_neg hi,gt_pt,if_neg hi]
 have k1n:gt H1 nx=some (uO c):=by rw[hH1,gt_pt,if_pos rfl]
 have k2: ∀i,i≠4->gt (pt H1 4 Bz) i=gt H1 i:=fun i hi=>by rw[gt_pt,if_neg hi]
 obtain⟨hrm,hrne⟩:=Qpw (j:=j) jx
 obtain⟨m,hmlt,gs,hg1,hmi,hfi⟩:=Qsa hw
 have hd:=Qep (j:=j) jx
 have hI0:InM p j xs ys od all c nx (nx+1) (lp2 (39+1) p j nx all .ready) Bz fs (pt (pt H1 4 Bz) (nx+1) (lp2 (39+1) p j nx all .ready)) (nx+1+1):=by
  refine⟨by rw[gt_pt,if_neg o_,k2 0 d_,k1 0 o_];exact m0,by rw[gt_pt,if_neg o_,k2 1 d_,k1 1 o_];exact m1,by rw[gt_pt,if_neg o_,k2 2 d_,k1 2 o_];exact m2,by rw[gt_pt,if_neg o_,gt_pt,if_pos rfl],by rw[gt_pt,if_neg o_,k2 nx o_];exact k1n,by rw[gt_pt,if_pos rfl],?_,b,by omega,by omega⟩
  rcases mf with⟨e,m3⟩|⟨h,w,g1,g2,g3,g4,m3,g5⟩
  ·exact .inl ⟨e,by rw[gt_pt,if_neg o_,k2 3 d_,k1 3 o_];exact m3⟩
  ·exact .inr ⟨h,w,g1,by omega,by simp only[List.mem_cons,List.not_mem_nil,or_false,not_or];omega,g4,by rw[gt_pt,if_neg o_,k2 3 d_,k1 3 o_];exact m3,by rw[gt_pt,if_neg o_,k2 h o_,k1 h o_];exact g5⟩
 have xb:=Qit (f0:=39) (rd:=some 4) (nx0:=nx) (n:=73) (nx:=nx+1) (s:=all) (m:=m) (sl:=sl2 p j nx all) (H:=pt H1 4 Bz) (lg:=4::[nx]) (g:=.tmp 43) (ps:= #[44]) (asg:=o2A) (body:=o2B) p j jx hl h64 (fun k hk=>hrne k o_) rfl (by show isLoop ((pt H1 4 Bz).get 4)=true;rw[<-Qak,gt_pt,if_pos rfl,hBz];rfl) (lp2 (39+1) p j nx all .ready) rfl
  (fun k H' n'=>∃g,inW p j od all F c fs k=some (.inl g)/\InM p j xs ys od all c nx (nx+1) (lp2 (39+1) p j nx all .ready) Bz g H' n') ⟨fs,rfl,hI0⟩ (hgP h)
  (fun k hk H' n' ⟨g, hg, hM⟩ => by
   obtain⟨g',hg'⟩:=Qsb hg1 (k+1) hk
   have jr:=Qjk hg
   obtain⟨H2,n2,L,i1,i2⟩:=Qsc p j xs ys od all c hc jx ho hol hlp jt hl h64 F nx (nx+1) Bz fs g g' k o_ hg hg' _ H' n' hM
   exact⟨H2,n2,L,⟨g',hg',i1⟩,i2⟩)
  (fun H' n' ⟨g, hg, hM⟩ => by
   have hpt:=Qmj p j xs ys (dkF j all m) all od (.mk 1 all []) jx (hd m) jx ho hol
   have hpv:=Qdy (d:=dkF j all m) (s:=all) (q:=.mk 1 all []) (od:=od) jx
   have hfp:=find_pan p j xs ys od c hc ho hol hlp jt hl h64 F (dkF j all m) _ hpv (hd m) h hfi
   exact in_panic p j xs ys od all c nx (nx+1) Bz g H' n' _ hM hc (hd m) hmi _ _ hpt hfp)
 obtain⟨H2,n2,L,xw⟩:=xb
 rw[show Code.rangeFunc (.tmp 43) #[44] o2A o2B=o2C from o2_eq.symm]at xw
 have hS:SatF Pg 39 (some 4) nx o1B (mkSo g0 73 (s11 nx) (pt H1 4 Bz) (nx+1) (4::[nx])) (fun e st=>e= .pan (hgP h)/\st.H=H2/\st.nx=n2/\∀x,x∈st.lg->x∈L):=by
  rw[o1B_eq]
  refine SatF.block (R':=fun e st=>e= .pan (hgP h)/\st.H=H2/\st.nx=n2/\∀x,x∈st.lg->x∈L) ?_ (fun st1⟨he,_⟩=>by cases he) (fun e st1 _ h=>h)
  refine SatF.seq (R':=fun e st=>e= .normal/\st=mkSo g0 73 (sl2 p j nx all) (pt H1 4 Bz) (nx+1) (4::[nx])) (SatF.of ?_) (fun st1⟨_,e⟩=>?_) (fun e st1 hne⟨he,_⟩=>absurd he hne)
  ·refine Sat.fewer_post (Sat.of_vc vE_ok mixed Qab rfl (Qob p j xs ys od all nx nx (nx + 1) (pt H1 4 Bz) (4 :: [nx]) (by rw [k2 0 d_, k1 0 o_]; exact m0) (by rw [k2 2 d_, k1 2 o_]; exact m2)) fun e hs' st' hgl hk => ?_)
   unfold Qce at hk
   split at hk
   ·obtain ⟨hb1, q1, q2, q3, q4⟩ := Qae hk
    have hn':=Nat.eq_of_beq_eq_true hb1
    exact⟨sl2 p j nx all,q1,rfl,by rw[q2,q3,q4,hn',hgl];rfl⟩
   ·exact hk.elim
  ·subst e
   exact SatF.block (R':=fun e st=>e= .pan (hgP h)/\st.H=H2/\st.nx=n2/\∀x,x∈st.lg->x∈L) xw (fun st1⟨he,_⟩=>by cases he) (fun e st1 _ h=>h)
 rw[hBz]at hS
 exact⟨_,_,_,CallPan.yldS vE_ok mixed Qab Try.func39 (n:=73) (hd:=4) (ars:=[u6 (c:Nat)]) (H:=H) (H1:=H1) (tm:=tm1 p j asked) (ps:=[37]) (assign:=o1A) (body:=o1B) (sl0:=s10 c) (sl1:=s11 nx) (lg1:=[nx]) (m0:=1000) m4 rfl rfl rfl ⟨rfl,rfl,rfl,rfl,trivial⟩ (by rw[hH1];exact o1_asg c H nx) (by rw[k1 4 o_];exact m4) hS⟩
end
section
variable (p j:List Nat) (xs ys:Nat) (od:List Nat) (hxs:xs<18446744073709551616) (hys:ys<18446744073709551616) (ho: ∀x∈od,x<64) (hol:od.length<=64) (hlp:p.length<64) (jt:S64 p) (hl:j.length<=64) (h64:S64 j)
include hxs hys ho hol hlp jt hl h64
theorem Qs7(asked all F:Nat)(h:Nat×Nat×Nat)(xv:asked<18446744073709551616)(jx:all<18446744073709551616)(hfl:(rn j asked+1)*rn j all<=10000)(hw:ouW p j od all F asked (rn j asked)=some (.inr h))(H:T O)(lg:List Nat)(m0:gt H 0=some (pO p j xs ys od))(m1:gt H 1=some esZ)(m2:gt H 2=some (uO all))(m3:gt H 3=some (fcO .nils)):
  ∃H1 n1 L,SatF Pg 39 none 0 o1C (mkSo g0 73 (sl1 p j asked) H 4 lg) (fun e st=>e= .pan (hgP h)/\st.H=H1/\st.nx=n1/\SubL st.lg L):=by
 obtain⟨hrm,hrne⟩:=Qpw (j:=j) xv
 obtain⟨m,hmlt,gs,hg1,hin⟩:=Qs5 hw
 have xb:=Qit (f0:=39) (rd:=none) (nx0:=0) (n:=73) (nx:=4) (s:=asked) (m:=m) (sl:=sl1 p j asked) (H:=H) (lg:=lg) (g:=.tmp 36) (ps:= #[37]) (asg:=o1A) (body:=o1B) p j xv hl h64 (fun k hk=>hrne k o_) rfl rfl (lp1 (39+1) p j asked .ready) rfl
  (fun k H' n'=>∃g,ouW p j od all F asked k=some (.inl g)/\OuM p j xs ys od all (lp1 (39+1) p j asked .ready) g H' n')
  ⟨[],rfl,by rw[gt_pt,if_neg d_];exact m0,by rw[gt_pt,if_neg d_];exact m1,by rw[gt_pt,if_neg d_];exact m2,by rw[gt_pt,if_pos rfl],.inl ⟨rfl,by rw[gt_pt,if_neg d_];exact m3⟩,by decide⟩ (hgP h)
  (fun k hk H' n' ⟨g, hg, hM⟩ => by
   obtain⟨g',hg'⟩:=Qs6 hg1 (k+1) hk
   have jr:=Qfl hg
   have h1:k*rn j all<=rn j asked*rn j all:=Nat.mul_le_mul_right _ o_
   rw[Nat.succ_mul]at hfl
   have hin:inW p j od all F (dkF j asked k) g (rn j all)=some (.inl g'):=by
    have e:ouW p j od all F asked (k+1)=(match ouW p j od all F asked k with
     |some (.inl fs)=>inW p j od all F (dkF j asked k) fs (rn j all)
     |r=>r):=rfl
    rw[hg]at e
    rw[hg']at e
    exact e.symm
   obtain⟨H2,n2,L,i1,i2⟩:=Qoj p j xs ys od asked all (dkF j asked k) _ (Qep xv k) jx ho hol o_ jt hl h64 F g g' o_ hin H' n' hM
   exact⟨H2,n2,L,⟨g',hg',i1⟩,i2⟩)
  (fun H' n' ⟨g, hg, hM⟩ => by
   rw[hg1]at hg
   cases hg
   have jr:=Qfl hg1
   have h1:m*rn j all<=rn j asked*rn j all:=Nat.mul_le_mul_right _ o_
   rw[Nat.succ_mul]at hfl
   exact ou_panic p j xs ys od asked all (dkF j asked m) (Qep xv m) jx ho hol o_ jt hl h64 F gs h o_ hin H' n' hM)
 exact xb
end
set_option maxHeartbeats 1000000
set_option maxRecDepth 100000
theorem SatF.vcs{f0 n m nx nx':Nat}{x y:Code}{sl sl':List (Nat×V)}{H H':T O}{lg lg':List Nat}{hs:Hs}{rd:Option Nat}{nx0:Nat}{R:Ex->St->Prop}(h:vc Pg vE sp0 rd nx0 m x hs (mkSo g0 n sl H nx lg) (Qce n sl' H' nx' lg'))(k:SatF Pg f0 rd nx0 y (mkSo g0 n sl' H' nx' lg') R):SatF Pg f0 rd nx0 (.seq x y) (mkSo g0 n sl H nx lg) R:=by
 refine SatF.seq (R':=fun e st=>e= .normal/\st=mkSo g0 n sl' H' nx' lg') (SatF.of ?_) (fun st1⟨_,e⟩=>by subst e;exact k) (fun e st1 hne⟨he,_⟩=>absurd he hne)
 refine Sat.fewer_post (Sat.of_vc vE_ok mixed Qab rfl h fun e hs' st' hgl hk=>?_)
 unfold Qce at hk
 split at hk
 ·obtain ⟨hb1, q1, q2, q3, q4⟩ := Qae hk
  have hn':=Nat.eq_of_beq_eq_true hb1
  exact⟨sl',q1,rfl,by rw[q2,q3,q4,hn',hgl];rfl⟩
 ·exact hk.elim
theorem gc_nil(st:St):Gc 0 [] st ⟨⟨.e,st.tm.gl,st.tm.n⟩,.e,0,[]⟩:=
 ⟨rfl,fun g hg=>(by cases hg),List.nodup_nil,rfl,rfl,fun i x hx=>(by simp at hx),fun h o ho _=>(by simp at ho),fun h _ hlt=>absurd hlt (Nat.not_lt_zero _)⟩
noncomputable def so_(q:List Nat):Code:=at' 39 q
theorem so_eq:Qqx 39= .seq (so_ [0]) (.seq (so_ [1,0]) (.seq (so_ [1,1,0]) (.seq (so_ [1,1,1,0]) (.seq (.seq (so_ [1,1,1,1,0,0]) (.block 0 o1C)) (so_ [1,1,1,1,1]))))):=by kernel_rfl
section
variable (p j:List Nat) (xs ys:Nat) (od:List Nat) (hxs:xs<18446744073709551616) (hys:ys<18446744073709551616) (ho: ∀x∈od,x<64) (hol:od.length<=64) (hlp:p.length<64) (jt:S64 p) (hl:j.length<=64) (h64:S64 j)
include hxs hys ho hol hlp jt hl h64
noncomputable abbrev soH0:T O:=pt (pt .e 0 (pO p j xs ys od)) 1 esZ
noncomputable abbrev soH1(all:Nat):T O:=pt (pt (soH0 p j xs ys od) 2 (uO 0)) 2 (uO all)
noncomputable abbrev soH2(all:Nat):T O:=pt (soH1 p j xs ys od all) 3 (fcO .nils)
theorem Qt2(F:Nat)(h:Nat×Nat×Nat)(hx:soE p j xs ys od F=some (.inr h))(hfl: ∀s,s<18446744073709551616->(rn j s+1)*rn j (alN p.length)<=1000):
  FnPan Pg g0 39 [.imp (prC p j xs ys od)] (hgP h):=by
 have hp:=Qaf p
 have hj:=Qaf j
 have hod:=Qbk od
 unfold soE at hx
 generalize jx:alN p.length=all at*
 generalize hnq:mi all xs=nq at*
 have hnq64:nq<18446744073709551616:=by rw[<-hnq];exact Qc4
 generalize hask:clo (ys&&& nq) nq p=asked at*
 have ha64:asked<18446744073709551616:=by rw[<-hask];exact Qea (Nat.and_lt_two_pow (n:=64) _ hnq64) hnq64
 have hw:ouW p j od all F asked (rn j asked)=some (.inr h):=by
  cases hw:ouW p j od all F asked (rn j asked)with
  |none=>rw[hw]at hx;cases hx
  |some r=>
   rw[hw]at hx
   cases r with
   |inl h=>cases hx
   |inr h'=>cases hx;rfl
 have hfl1:=hfl asked ha64
 obtain⟨z,hz⟩: ∃z,z=2^p.length:=⟨_,rfl⟩
 obtain⟨h1,h2⟩:=Qdm (G:=Qac Pg) (t:=29) hlp
 have h3:1<=2^p.length:=Nat.one_le_two_pow
 have h4:(all:Int)=(z:Int)-1:=by rw[<-jx];unfold alN;omega
 rw[<-hz]at h1 h2 h3
 have h5:wr .u64 ((z:Int)-1)=(all:Int):=by rw[h4];exact Qlp (by simp[lo];omega) (by simp[hi];omega)
 have hall64:all<18446744073709551616:=by omega
 have s1:=mi_u (G:=Qac Pg) (t:=29) hall64 hxs
 rw[hnq]at s1
 have hab:=Qfz p j ys nq hys hnq64 o_ jt
 rw[hask]at hab
 have hpt:=Qe1 p j asked
 obtain⟨H1,m1,L,xw⟩:=Qs7 p j xs ys od hxs hys ho hol o_ jt hl h64 asked all F h ha64 hall64 o_ hw (soH2 p j xs ys od all) [2] rfl rfl rfl rfl
 have e1:(vE.code 39).map (·.body)=some (Qqx 39):=by kernel_rfl
 have e2:(vE.code 39).map (·.ntmps)=some 73:=by kernel_rfl
 cases hfi:vE.code 39 with
 |none=>rw[hfi]at e1;cases e1
 |some fi=>
 rw[hfi]at e1 e2
 have hb:fi.body=_:=Option.some.inj e1
 have hn:fi.ntmps=73:=Option.some.inj e2
 show CallPan Pg g0 (.fn _ []) _ .e 0 _
 refine CallPan.fnS vE_ok hfi (by rw[hn];rfl) ?_
 rw[hb,hn,so_eq]
 refine SatF.gc_post (SatF.mono (R:=fun e st=>e= .pan (hgP h)) ?_ (fun e st he=>⟨[],_,gc_nil st,he,rfl,rfl,fun x hx=>by cases hx⟩))
 refine SatF.fewer (sl:=[(0,.imp (prC p j xs ys od))]) ⟨rfl,trivial⟩ ?_
 refine SatF.vcs (m:=1000) (hs:=[]) (sl':=[(1,.ptr 0 0),(2,.ptr 1 0)]) (H':=soH0 p j xs ys od) (nx':=2) (lg':=[]) ?_ ?_
 ·refine Eq.mp (by kernel_rfl : (An [An [Sm (V.ptr 0 0), Sm (V.ptr 1 0), Tt], pt (pt T.e 0 (O.row 95 none [V.imp (prC p j xs ys od)])) 1 (O.row 57 none [i6 0, u6 0, V.nils]) = soH0 p j xs ys od, 2 = 2, ([] : List Nat) = []]) = _) ?_
  exact a_
 refine SatF.vcs (m:=1000) (hs:=[va 14 (u6 (z:Nat)),nu 15 (all:Nat)]) (sl':=[(1,.ptr 0 0),(2,.ptr 1 0),(3,.ptr 2 0)]) (H':=soH1 p j xs ys od all) (nx':=3) (lg':=[2]) ?_ ?_
 ·clear hw hx
  exact v_ (p:=An [binV (Qac Try.prog) BinOp.shl 29 (u6 1) (i6 p.length)=some (u6 z),wr .u64 ((z:Int)-1)=(all:Int),Bn [Sm (V.ptr 0 0),Sm (V.ptr 1 0),Sm (V.ptr 2 0)],pt (pt (soH0 p j xs ys od) 2 (O.row 29 none [u6 0])) 2 (O.row 29 none [u6 all])=soH1 p j xs ys od all,3=3,[2]++[]=[2]])
 refine SatF.vcs (m:=1000) (hs:=[va 29 (u6 (nq:Nat)),fn 30 (u6 (asked:Nat))]) (sl':=[(1,.ptr 0 0),(2,.ptr 1 0),(3,.ptr 2 0),(4,u6 (asked:Nat))]) (H':=soH1 p j xs ys od all) (nx':=3) (lg':=[2]) ?_ ?_
 ·clear hw hx hask
  exact v_ (p:=An [binV (Qac Try.prog) BinOp.andNot 29 (u6 all) (u6 xs)=some (u6 nq),An [TT 2,TT 2],FnOk Pg g0 63 [V.agg [V.im p.length (ut p),V.im j.length (ut j)],u6 ys,u6 nq] (u6 asked),Tt,Bn [Sm (V.ptr 0 0),Sm (V.ptr 1 0),Sm (V.ptr 2 0),Sm (u6 asked)],Sm (soH1 p j xs ys od all),3=3,[]++[2]=[2]])
 refine SatF.vcs (m:=1000) (hs:=[]) (sl':=[(1,.ptr 0 0),(2,.ptr 1 0),(3,.ptr 2 0),(4,u6 (asked:Nat)),(5,.ptr 3 0)]) (H':=soH2 p j xs ys od all) (nx':=4) (lg':=[2]) ?_ ?_
 ·clear hw hx hask
  exact v_ (p:=An [Bn [Sm (V.ptr 0 0),Sm (V.ptr 1 0),Sm (V.ptr 2 0),Sm (u6 asked),Sm (V.ptr 3 0)],pt (soH1 p j xs ys od all) 3 (O.row 55 none [V.nils])=soH2 p j xs ys od all,4=4,[2]=[2]])
 refine SatF.seq (R':=fun e st=>e= .pan (hgP h)) ?_ (fun st1 he=>by cases he) (fun e st1 _ he=>he)
 refine SatF.vcs (m:=1000) (hs:=[fn 36 (ptC p j asked)]) (sl':=sl1 p j asked) (H':=soH2 p j xs ys od all) (nx':=4) (lg':=[2]) ?_ ?_
 ·clear hw hx hask
  exact v_ (p:=An [Bn [TT 2,Tt],FnOk Pg g0 64 [V.agg [V.im p.length (ut p),V.im j.length (ut j)],u6 asked] (ptC p j asked),Tt,Bn [Sm (V.ptr 0 0),Sm (V.ptr 1 0),Sm (V.ptr 2 0),Sm (u6 asked),Sm (V.ptr 3 0),Sm (ptC p j asked)],Sm (soH2 p j xs ys od all),4=4,[]++[2]=[2]])
 exact SatF.block (R':=fun e st=>e= .pan (hgP h)) (xw.mono fun e st⟨he,_⟩=>he) (fun st1 he=>by cases he) (fun e st1 _ he=>he)
end
set_option maxHeartbeats 1000000
set_option maxRecDepth 100000
abbrev hgO(h:Nat×Nat×Nat):O:=.row 59 none [u6 (h.1:Nat),u6 (h.2.1:Nat),u6 (h.2.2:Nat)]
abbrev erO(e:Nat):O:=.row 31 none [i6 (e:Nat)]
noncomputable def df_(q:List Nat):Code:=at' 36 q
theorem Qjc: ∃fg,vE.code 36=some fg/\fg.body= .seq (df_ [0]) (df_ [1])/\fg.ntmps=16/\fg.res=[]:=by
 have e1:(vE.code 36).map (·.body)=some (.seq (df_ [0]) (df_ [1])):=by kernel_rfl
 have e2:(vE.code 36).map (·.ntmps)=some 16:=by kernel_rfl
 have e3:(vE.code 36).map (·.res)=some []:=by kernel_rfl
 cases hfi:vE.code 36 with
 |none=>rw[hfi]at e1;cases e1
 |some fi=>
  rw[hfi]at e1 e2 e3
  exact⟨fi,rfl,Option.some.inj e1,Option.some.inj e2,Option.some.inj e3⟩
noncomputable def df0:Array Oper:=rgOps (df_ [0])
theorem df0_eq:df_ [0]= .region (rgId (df_ [0])) df0 false:=by kernel_rfl
abbrev dfC:List V:=[.ptr 0 0,.ptr 1 0,.ptr 2 0]
noncomputable abbrev dfT(x:V):TM:=((⟨putAll (blank 16) 0 dfC,g0,16⟩:TM).put (some 6) x).put (some 3) x
theorem df_none(H:T O)(nx:Nat):DefSpec Pg g0 36 dfC [] H nx none ⟨.tup [],H,nx,[]⟩:=by
 obtain⟨fg,h1,h2,h3,h4⟩:=Qjc
 refine DefSpec.of vE_ok (os:=[df0.getD 1 default]) (o:=df0.getD 0 default) (tm1:=dfT .nili) h1 (by rw[h3];rfl) (by rw[h2,df0_eq]) k_ k_ (c:=_) rfl rfl (by rw[h3];kernel_rfl) ?_
 rw[h4]
 have hv:vc Pg vE sp0 none nx 1000 (df_ [1]) [] (mkSo g0 16 [(3,.nili)] H nx []) (Qg5 H nx []):=by
  exact v_ (p:=An [H=H,nx=nx,([]:List Nat)=[]])
 refine Sat.fewer (sl:=[(3,.nili)]) ⟨rfl,trivial⟩ ?_
 refine Sat.of_vc vE_ok mixed Qab rfl hv fun e hs' st' hgl hk=>?_
 unfold Qg5 at hk
 split at hk
 ·exact⟨.inl rfl,rfl,hk.1,hk.2.1,hk.2.2⟩
 ·exact hk.elim
theorem df_some(h:Nat×Nat×Nat)(H:T O)(n:Nat)(c0:List V)(h0 h1' h2':Nat×Nat×Nat)(e0:Nat)(x y z:V)(g0':gt H 0=some (.row 57 none [x,y,z]))(g1:gt H 1=some (hgO h1'))(g2:gt H 2=some (erO e0)):
  DefSpec Pg g0 36 dfC [] H (n+3) (some (hgP h)) ⟨.tup [],pt (pt (pt (pt (pt H (n+3) (hgO (0,0,0))) (n+3) (hgO h)) 0 esZ) 1 (hgO h)) 2 (erO 351),(n+3)+1,[2]++([1]++([0]++([(n+3)]++[])))⟩:=by
 obtain⟨fg,h1,h2,h3,h4⟩:=Qjc
 refine DefSpec.of vE_ok (os:=[df0.getD 1 default]) (o:=df0.getD 0 default) (tm1:=dfT (hgP h)) h1 (by rw[h3];rfl) (by rw[h2,df0_eq]) k_ k_ (c:=_) rfl rfl (by rw[h3];kernel_rfl) ?_
 rw[h4]
 obtain⟨a,b,c⟩:=h
 obtain⟨p1,p2,p3⟩:=h1'
 have hv:vc Pg vE sp0 none (n+3) 1000 (df_ [1]) [so (hgO (0,0,0)) [u6 (a:Nat),u6 (b:Nat),u6 (c:Nat)],so (.row 57 none [x,y,z]) [i6 0,u6 0,.nils],lo_ 15 (hgO (a,b,c)) (hgV (a,b,c)),so (hgO (p1,p2,p3)) [u6 (a:Nat),u6 (b:Nat),u6 (c:Nat)],so (erO e0) [i6 351]] (mkSo g0 16 [(0,.ptr 0 0),(1,.ptr 1 0),(2,.ptr 2 0),(3,hgP (a,b,c))] H (n+3) []) (Qg5 (pt (pt (pt (pt (pt H (n+3) (hgO (0,0,0))) (n+3) (hgO (a,b,c))) 0 esZ) 1 (hgO (a,b,c))) 2 (erO 351)) ((n+3)+1) ([2]++([1]++([0]++([(n+3)]++[]))))):=by
  refine m_ (p:=let z1:=[u6 a,u6 b,u6 c];let z2:=pt H (n+3) (O.row 59 none [u6 0,u6 0,u6 0]);let z4:=[i6 0,u6 0,V.nils];let z5:=hgO (a,b,c);let z6:=u6 ↑(0:Nat);let z3:=O.row 59 none z1;let z0:=pt (pt z2 (n+3) z3) 0 (O.row 57 none z4);An [An [gt z2 (n+3)=some (hgO (0,0,0)),layE 0 [z6,z6,z6] z1=some z1],An [gt (pt z2 (n+3) z3) 0=some (O.row 57 none [x,y,z]),layE 0 [x,y,z] z4=some z4],gt z0 (n+3)=some z5,takeE 3 z1=some z1,An [gt z0 1=some (hgO (p1,p2,p3)),layE 0 [u6 p1,u6 p2,u6 p3] z1=some z1],An [gt (pt z0 1 z3) 2=some (erO e0),layE 0 [i6 e0] [i6 351]=some [i6 351]],pt (pt z0 1 z3) 2 (O.row 31 none [i6 351])=pt (pt (pt (pt (pt H (n+3) (hgO (0,0,0))) (n+3) z5) 0 esZ) 1 z5) 2 (erO 351),Sm (n+3+1),Sm ([2]++([1]++([0]++([n+3]++[]))))]) ?_
  (repeat'(first|(with_reducible apply And.intro)|(refine fun(_:True)=>?_)))
  all_goals first|rfl|exact trivial|(simp[gt_pt,g0',g1,g2];done)|skip
 refine Sat.fewer (sl:=[(0,.ptr 0 0),(1,.ptr 1 0),(2,.ptr 2 0),(3,hgP (a,b,c))]) ⟨rfl,rfl,rfl,rfl,trivial⟩ ?_
 refine Sat.of_vc vE_ok mixed Qab rfl hv fun e hs' st' hgl hk=>?_
 unfold Qg5 at hk
 split at hk
 ·exact⟨.inl rfl,rfl,hk.1,hk.2.1,hk.2.2⟩
 ·exact hk.elim
end Go.Proofs.Ythjjgipcoeiapaa.Am
