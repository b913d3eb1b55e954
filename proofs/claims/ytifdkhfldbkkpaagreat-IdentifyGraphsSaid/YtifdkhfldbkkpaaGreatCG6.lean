/- Texts behind the claim, part 6: the abstract machine, and what the functions answer. No condition. -/
import Derived.Test.YtifdkhfldbkkpaaGreatCG5
set_option linter.unusedVariables false
set_option maxHeartbeats 4000000
set_option maxRecDepth 100000
set_option linter.unusedSimpArgs false
set_option linter.unusedSectionVars false
namespace Go.Proofs.YtifdkhfldbkkpaaGreat.Am
open Go.RowKit
theorem wr8{n:Int}(h1:0≤n)(h2:n≤255):wr .u8 n=n:=Qg9 h1 h2
theorem Qh8(g c:Int)(x:Nat)(hg:2≤g∧g≤12)(hx:x<256): ∃l:List Int,l.length=(if c=2 then 2 else 3)∧FnOk Pg g0 33 [i6 g,i6 c,w8 (x:Nat)] (sl l):=by
 obtain⟨a,ha⟩: ∃a:Int,a=(x:Int).tmod (g-1):=⟨_,rfl⟩
 have r1:binV (Qac Pg) .rem 3 (i6 (x:Nat)) (i6 (g-1))=some (i6 a):=by rw[rem6 (by omega),←ha]
 have ha2:0≤a∧a<g-1:=by
  rw[ha,Int.tmod_eq_emod_of_nonneg (by omega)]
  exact⟨Int.emod_nonneg _ (by omega),Int.emod_lt_of_pos _ (by omega)⟩
 clear ha
 by_cases hc:c=2
 ·subst hc
  refine⟨[1+a,g-(1+a)],rfl,?_⟩
  refine FnOk.of_vc vE_ok Qaf Qab (n:=1000) (r:=[]) (S:={sl:=[(6,sl [1+a,g-(1+a)])]}) (hs:=[nu 10 (x:Nat),nu 12 (g-1),va 13 (i6 a),nu 14 (1+a),nu 20 (g-(1+a))]) ?_
  exact m_ (p:=let z0:=(1:Int);let z1:=[z0+a,g-(z0+a)];An [Sm (sl z1),wr .i64 (↑x:Int)=(↑x:Int),wr .i64 (g-z0)=g-z0,_,wr .i64 (z0+a)=z0+a,wr .i64 (g-(z0+a))=g-(z0+a),An [An [2=2,ints z1=[i6 (z0+a),i6 (g-(z0+a))],TT 2],Tt],Tt]) ⟨aq,aq,aq,r1,aq,aq,⟨⟨aq,(by rfl),aq⟩,aq⟩,aq⟩
 ·obtain ⟨b, hb⟩ : ∃ b : Int, b = ((x / 12 : Nat) : Int).tmod (g - (1 + a) + 1) := ⟨_, rfl⟩
  have r2:binV (Qac Pg) .rem 3 (i6 (x/12:Nat)) (i6 (g-(1+a)+1))=some (i6 b):=by rw[rem6 (by omega),←hb]
  have hb2:0≤b∧b<g-(1+a)+1:=by
   rw[hb,Int.tmod_eq_emod_of_nonneg (by omega)]
   exact⟨Int.emod_nonneg _ (by omega),Int.emod_lt_of_pos _ (by omega)⟩
  clear hb
  have hd:wr .u8 ((x:Int).tdiv 12)=(x/12:Nat):=by
   rw[Int.tdiv_eq_ediv_of_nonneg (by omega),wr8 (by omega) (by omega)];omega
  have hy:x/12<256:=by omega
  refine⟨[1+a,b,g-(1+a)-b],by rw[if_neg hc];rfl,?_⟩
  refine FnOk.of_vc vE_ok Qaf Qab (n:=1000) (r:=[]) (S:={sl:=[(6,sl [1+a,b,g-(1+a)-b])]}) (hs:=[nu 10 (x:Nat),nu 12 (g-1),va 13 (i6 a),nu 14 (1+a),no 16,nu 23 (x/12:Nat),nu 24 (x/12:Nat),nu 27 (g-(1+a)),nu 28 (g-(1+a)+1),va 29 (i6 b),nu 34 (g-(1+a)),nu 36 (g-(1+a)-b)]) ?_
  generalize x/12=y at*
  exact m_ (p:=let z1:=(1:Int);let z0:=(z1+a);let z2:=[z1+a,b,g-z0-b];An [Sm (sl z2),wr .i64 (↑x:Int)=(↑x:Int),wr .i64 (g-z1)=g-z1,_,wr .i64 z0=z1+a,(c==(2:Int))=false,_,wr .i64 (↑y:Int)=(↑y:Int),wr .i64 (g-z0)=g-z0,wr .i64 (g-z0+z1)=g-z0+z1,_,wr .i64 (g-z0)=g-z0,wr .i64 (g-z0-b)=g-z0-b,An [An [3=3,ints z2=[i6 z0,i6 b,i6 (g-z0-b)],TT 3],Tt],Tt]) ⟨aq,aq,aq,r1,aq,aq,hd,aq,aq,aq,r2,aq,aq,⟨⟨aq,(by rfl),aq⟩,aq⟩,aq⟩
abbrev nmO(W:List Nat)(a:Nat):O:=.row 148 none [bl W,i6 (a:Nat)]
theorem Qq1{H:T O}{nx:Nat}(W:List Nat):CallSpec Pg g0 (.fn 32 []) [bl W] H nx ⟨.ptr nx 0,pt H nx (nmO W 0),nx+1,[]⟩:=by
 have hW:=Qau W
 refine CallSpec.of_vcA vE_ok Qaf Qab (n:=1000) (hs:=[]) (by rw[pt_eq];exact Log.new _ _ _ _) ?_
 exact m_ (p:=An [Sm (V.ptr nx 0),pt H nx (O.row 148 none [bl W,i6 0])=pt H nx (nmO W 0),Sm (nx+1),([]:List Nat)=[]]) ⟨aq,(by rfl),a_⟩
theorem Qrb{H:T O}{nx h a:Nat}(W:List Nat)(hW: ∀x∈W,x<256)(hl:W.length≤9223372036854775807)(ha:a≤1000)(hh:gt H (h)=some (nmO W a)): ∃(x:Nat)(H':T O)(a':Nat),x<256∧a'≤a+1∧gt H' h=some (nmO W a')∧(∀g,g≠h→gt H' g=gt H g)∧CallSpec Pg g0 (.fn 34 []) [.ptr h 0] H nx ⟨w8 (x:Nat),H',nx,[h]⟩:=by
 have hWb:=Qau W
 by_cases h0:W.length=0
 ·refine ⟨0, H, a, by omega, by omega, hh, fun _ _ => rfl, ?_⟩
  refine CallSpec.moreL (r:=⟨w8 (0:Nat),H,nx,[]⟩) ?_ (fun g hg=>by cases hg)
  refine CallSpec.of_vcA vE_ok Qaf Qab (n:=1000) (hs:=[lo_ 6 (nmO W a) (bl W),yes 8]) (Log.refl _ _ _) ?_
  exact m_ (p:=An [_,headF (dropF (0+0) [bl W,i6 ↑a])=some (bl W),((↑W.length:Int)==(0:Int))=true,w8 0=w8 ↑(0:Nat),H=H,nx=nx,([]:List Nat)=[]]) ⟨hh,(by rfl),a_⟩
 ·have hm : (a + 1) % W.length < W.length := Nat.mod_lt _ (by omega)
  have h1:=Qbu hm
  have h2:=Qcp (G:=Qac Pg) (t:=3) (a:=a+1) h0
  refine⟨W.getD ((a+1)%W.length) 0,pt H h (nmO W (a+1)),a+1,Qgi hW _,by omega,by rw[Qaa,if_pos rfl],fun g hg=>by rw[Qaa,if_neg hg],?_⟩
  refine CallSpec.of_vcS vE_ok Qaf Qab (n:=1000) (hs:=[lo_ 6 (nmO W a) (bl W),no 8,lo_ 13 (nmO W a) (i6 (a:Nat)),nu 14 (a+1:Nat),so (nmO W a) [bl W,i6 (a+1:Nat)],lo_ 20 (nmO W (a+1)) (bl W),lo_ 24 (nmO W (a+1)) (i6 (a+1:Nat)),lo_ 28 (nmO W (a+1)) (bl W),va 30 (i6 ((a+1)%W.length:Nat)),pl 31,ld 32 (w8 (W.getD ((a+1)%W.length) 0:Nat))]) (by rw[pt_eq];exact Log.put _ _ _ _) ?_
  have hp:gt (pt H h (nmO W (a+1))) h=some (nmO W (a+1)):=by rw[Qaa,if_pos rfl]
  generalize W.getD ((a+1)%W.length) 0=y at*
  generalize (a+1)%W.length=z at*
  exact m_ (p:=let z1:=i6 ↑(a+1);let z4:=[bl W,i6 ↑a];let z3:=[bl W,z1];let z6:=headF (dropF (0+0) z3);An [_,headF (dropF (0+0) z4)=some (bl W),((↑W.length:Int)==(0:Int))=false,_,headF (dropF 1 z4)=some (i6 ↑a),wr .i64 ((↑a:Int)+(1:Int))=(↑(a+1):Int),An [_,layE 1 z4 [z1]=some z3],_,z6=some (bl W),_,headF (dropF 1 z3)=some z1,_,z6=some (bl W),_,An [(0:Int)≤(↑z:Int),(↑z:Int)<(↑W.length:Int)],_,Sm (w8 ↑y),(pt H h (O.row 148 none z3))=pt H h (nmO W (a+1)),nx=nx,∀(g:Nat),List.Mem g ([h]++[])→List.Mem g [h]]) ⟨hh,(by rfl),aq,hh,(by rfl),aq,⟨hh,(by rfl)⟩,hp,(by rfl),hp,(by rfl),hp,(by rfl),h2,a_,h1,a_⟩
noncomputable def kFinH(nx0 n:Nat)(r:List Nat)(S:SL):KF:=fun e _ st=>match e with
 | .exit _=>False
 | .pan _=>False
 | _=>bif Nat.beq st.tm.n n then gcP nx0 r st S else False
noncomputable def vcFiH(P:Program)(E:Env)(sp:Qb3)(gl:T (List V))(n:Nat)(os0:List O)(ars:List V)(hs:Hs)(r:List Nat)(S:SL)(v:V):Option FI→Prop
 |some fi=>bif Nat.ble ars.length fi.ntmps then retP v (retV E.G (mkSt gl fi.ntmps S).tm (mkSt gl fi.ntmps S).H fi.res)∧vc P E sp none os0.length n fi.body hs ⟨⟨Qda (blank fi.ntmps) 0 ars,gl,fi.ntmps⟩,ofOs .e 0 os0,os0.length,[]⟩ (kFinH os0.length fi.ntmps r S)else False
 |none=>False
noncomputable def vcFnH(P:Program)(E:Env)(sp:Qb3)(gl:T (List V))(n f:Nat)(os0:List O)(ars:List V)(hs:Hs)(r:List Nat)(S:SL)(v:V):Prop:=vcFiH P E sp gl n os0 ars hs r S v (E.code f)
theorem Qlb: ∀(os:List O)(t:T O)(k i:Nat),k≤i→i<k+os.length→(ofOs t k os).get i=os[i-k]?
 |[],_,_,_,h1,h2=>by grind
 | o :: os, t, k, i, h1, h2 => by
  rw[ofOs]
  by_cases hi:i=k
  ·subst hi
   have: ∀(os:List O)(t:T O)(j i:Nat),i<j→(ofOs t j os).get i=t.get i:=by
    intro os
    induction os with
    |nil=>intro t j i _;rfl
    |cons o os ih=>
     grind[ofOs,pt_eq,T.get_put]
   grind[pt_eq,T.get_put]
  ·rw [Qlb os _ _ _ (by omega) (by grind)]
   grind
theorem ofOs_out{os:List O}{i:Nat}(h:os.length≤i):(ofOs .e 0 os).get i=none:=by
 cases hg:(ofOs .e 0 os).get i with
 |none=>rfl
 |some o=>
  rcases ofOs_get os .e 0 i o hg with⟨_,h2⟩|h2
  all_goals simp_all
theorem CallSpec.of_vcH{P:Program}{E:Env}{sp:Qb3}(hE:E.Ok P)(hm:P.follows .mixedOrders=true){gl:T (List V)}(hsp:Qbf P gl sp){n f:Nat}{os0:List O}{ars:List V}{hs:Hs}{r:List Nat}{S:SL}{v:V}(hle:os0.length≤S.os.length)(hsame: ∀i,i<os0.length→i∉S.lg→S.os[i]? =os0[i]?)(h:vcFnH P E sp gl n f os0 ars hs r S v):CallSpec P gl (.fn f []) ars (ofOs .e 0 os0) os0.length ⟨v,ofOs .e 0 S.os,S.os.length,S.lg⟩:=by
 unfold vcFnH vcFiH at h
 split at h
 ·rename_i fi hfi
  obtain⟨hb,hret,hv⟩:=Qaj h
  have hret':retV E.G (mkSt gl fi.ntmps S).tm (mkSt gl fi.ntmps S).H fi.res=some v:=by
   unfold retP at hret
   split at hret
   ·simp_all
   ·exact hret.elim
  rw[Qbh]at hv
  have hlog:Log (ofOs .e 0 os0).get os0.length (ofOs .e 0 S.os).get S.os.length S.lg:=by
   refine⟨hle,fun i hi hn=>?_⟩
   by_cases h1:i<os0.length
   ·grind[Qlb]
   ·grind[ofOs_out]
  refine CallSpec.fnC hE hfi (by simp_all) hlog (R:=fun e st=>(e= .normal∨e= .ret)∧st=mkSt gl fi.ntmps S) ?_ ?_
  ·rw [List.append_nil]
   refine Sat.gc_post (Sat.of_vc hE hm hsp rfl hv fun e hs' st' hg hk=>?_)
   unfold kFinH at hk
   have fin:(bif Nat.beq st'.tm.n fi.ntmps then gcP os0.length r st' S else False)→∃r st2,Gc os0.length r st' st2∧st2=mkSt gl fi.ntmps S:=by
    intro hk
    obtain⟨hb,hk⟩:=Qaj hk
    exact⟨r,_,Qhs hk,by simp_all⟩
   cases e with
   |exit=>exact hk.elim
   |pan=>exact hk.elim
   |normal=>simp_all
   |ret=>simp_all
  ·rintro e st ⟨he, rfl⟩
   exact⟨he,v,hret',fun s w ee w' _ _ hp=>hp⟩
 ·exact h.elim
def allI(c:List V):Prop:=∀x∈c,∃k m,x=V.int k m
theorem Qf0(l:List Int):allI (ints l):=fun x hx=>by
 obtain⟨n,_,rfl⟩:=List.mem_map.1 hx
 exact⟨_,_,rfl⟩
theorem Qrs{s s':Sig}{w:World}{b:Nat}(hb:s'.fz b): ∀(l:List V)(off:Nat),allI l→RC s w l b off→RC s' w l b off
 |[],_,_,_=>trivial
 |x::l,off,h,⟨⟨_,u,h2,h3⟩,hr⟩=>by
  obtain⟨k,m,rfl⟩:=h x List.mem_cons_self
  exact⟨⟨hb,u,h2,h3⟩,Qrs hb l _ (fun y hy=>h y (List.mem_cons_of_mem _ hy)) hr⟩
theorem Qir{o:O}:(ofOs .e 0 [o]).get 0=some o:=by
 rw[Qlb _ _ _ _ (Nat.le_refl _) (by simp)];rfl
theorem frameZ{P:Program}{gl:T (List V)}{f:Nat}{ars ars':List V}{n t:Nat}{sp:Option Nat}{c:List V}{H:T O}{nx:Nat}(h:CallSpec P gl (.fn f []) ars .e 0 ⟨.sl 0 0 n none,ofOs .e 0 [.row t sp c],1,[]⟩)(hv:ViewL H.get (fun _=>True) (fun _=>none) ars ars')(hci:allI c)(hn:c.length=n):CallSpec P gl (.fn f []) ars' H nx ⟨.im n c,H,nx,[]⟩:=by
 refine⟨fun s w fv vals hc hargs hH hgl hnn=>?_,Log.refl _ _ _⟩
 obtain⟨F,hFd⟩: ∃F:Nat→Prop,F=fun b=>s.fz b∨∃g t sp c,H.get g=some (.row t sp c)∧b=s.μ g:=⟨_,rfl⟩
 have hF1: ∀b,s.fz b→F b:=fun b hb=>by rw[hFd];exact .inl hb
 have hF2: ∀b,F b→b<w.heap.size:=fun b hb=>by
  rw[hFd]at hb
  rcases hb with hb|⟨g,t,sp,c,hg,rfl⟩
  ·exact hH.old b (.inl hb)
  ·exact(hH.obj _ _ hg rfl).2.1
 have hF3:RL (sg F) w ars vals.toList:=ViewL.rl hH (s':=sg F) ⟨fun _ _ e=>(by cases e),fun g t sp c _ hg=>by rw[hFd];exact .inr ⟨g,t,sp,c,hg,rfl⟩,hF1⟩ _ _ _ hv hargs
 obtain⟨next,e1,e2,e3⟩:=h.1 (sg F) w fv vals (Hf.rv (s':=sg F) hF1 _ _ trivial hc) hF3 (Qj0 (fun b hb=>hb.elim (hF2 b) False.elim)) (fun g l hg=>RC.mono' (s':=sg F) hF1 (fun _ _=>rfl) l g 0 (hgl g l hg)) (fun _ _ h=>h)
 refine⟨next,e1,?_,e3⟩
 obtain⟨f',ars2,rfl⟩:=e3 ⟨f,[],rfl⟩
 refine CallsIn.mono e2 ?_
 rintro e w' ⟨u,s',rfl,g1,g2,g3,g4,g5⟩
 obtain⟨o1,o2,o3,o4⟩:=g2.obj 0 _ Qir rfl
 have hnew:w.heap.size≤s'.μ 0:=by
  rcases g3.new 0 o1 (fun h=>h)with h|⟨k,hk,_⟩
  ·exact h
  ·cases hk
 obtain⟨r1,_⟩:=hH.below (w':=w') ⟨g3.mod.os,g3.mod.tape,g3.mod.output,g3.mod.size,fun k hk=>g3.mod.block k hk (fun⟨_,hm,_⟩=>by cases hm)⟩
 have hsz:=g3.mod.size
 have hview:View (ofOs .e 0 [.row t sp c]).get (fun _=>True) (fun _=>none) (.im n c) (.sl 0 0 n none):=.inr (.inr ⟨0,0,none,t,sp,c,rfl,trivial,Qir,by
  have: ∀l:List V,allI l→ViewP (ofOs .e 0 [.row t sp c]).get (fun _=>True) l l:=by
   intro l
   induction l with
   |nil=>exact fun _=>trivial
   |cons x l ih=>
    intro h
    obtain⟨k,m,rfl⟩:=h x List.mem_cons_self
    exact⟨_,_,rfl,rfl,ih fun y hy=>h y (List.mem_cons_of_mem _ hy)⟩
  exact this c hci⟩)
 have hrv:RV {s' with fz:=fun b=>s'.fz b∨b=s'.μ 0} w' (.im n c) u:=View.rv (s':={s' with fz:=fun b=>s'.fz b∨b=s'.μ 0}) g2 ⟨fun _ _ e=>(by cases e),fun g t2 sp2 c2 _ hg=>by
  have h0:g=0:=by
   rcases ofOs_get _ _ _ _ _ hg with⟨_,hm⟩|hm
   ·have := (List.getElem?_eq_some_iff.1 hm).1
    simp at this;omega
   ·simp at hm
  subst h0;exact .inr rfl,fun b hb=>.inl hb⟩ _ _ _ hview g1
 refine⟨u,{s with fz:=fun b=>s.fz b∨b=s'.μ 0},rfl,?_,⟨fun i o ho hl=>?_,r1.inj,fun b hb=>?_⟩,⟨⟨⟨fun _ _=>rfl,fun _ _=>rfl,fun _ h=>h,fun b hb=>.inl hb⟩,fun _ h=>h⟩,fun b hb=>hb.elim .inl (fun e=>.inr (.inl (by rw[e];exact hnew))),fun b hb=>?_,⟨g3.mod.os,g3.mod.tape,g3.mod.output,hsz,fun k hk _=>g3.mod.block k hk (fun⟨_,hm,_⟩=>by cases hm)⟩,fun i hi hno=>absurd hi hno⟩,fun i=>⟨.inl,fun h=>h.elim id (fun⟨a,b⟩=>absurd b (by dsimp only;omega))⟩,Nat.le_refl _⟩
 ·obtain ⟨a, cap, hu, hle, hrc⟩ := hrv
  refine⟨a,cap,hu,hle,fun hn0=>?_⟩
  obtain⟨b,off,ha,hr⟩:=hrc hn0
  have hb:b=s'.μ 0:=by
   obtain⟨_,cap2,hu2,_⟩:=g1
   rw[hu2]at hu
   injection hu with h1
   rw[ha]at h1
   injection h1 with h2
   injection h2 with h3
   exact h3.symm
  exact⟨b,off,ha,Qrs (s':={s with fz:=fun b=>s.fz b∨b=s'.μ 0}) (Or.inr hb) _ _ hci hr⟩
 ·obtain ⟨a1, a2, a3, a4⟩ := r1.obj i o ho hl
  have a2':=(hH.obj i o ho hl).2.1
  refine⟨a1,a2,?_,RO.mono' (s:=s) (s':={s with fz:=fun b=>s.fz b∨b=s'.μ 0}) ⟨fun _ _=>rfl,fun _ _=>rfl,fun _ h=>h,fun b hb=>.inl hb⟩ (fun _ _=>rfl) a1 a4 (fun _=>rfl)⟩
  rintro((hf|hf)|hm)
  ·exact a3 (.inl hf)
  ·dsimp only at hf;omega
  ·exact a3 (.inr hm)
 ·rcases hb with (hb | hb) | hb
  ·exact r1.old b (.inl hb)
  ·rw[hb];exact o2
  ·exact r1.old b (.inr hb)
 ·exact g3.mod.block b (hH.old b hb) (fun⟨_,hm,_⟩=>by cases hm)
theorem Qrz{s s':Sig}{w w':World}: ∀(l:List V)(vs:List Value),allI l→RL s w l vs→RL s' w' l vs
 |[],_,_,h=>h
 |x::l,_,h,⟨v,vs,e,h1,h2⟩=>by
  obtain⟨k,m,rfl⟩:=h x List.mem_cons_self
  exact⟨v,vs,e,h1,Qrz l vs (fun y hy=>h y (List.mem_cons_of_mem _ hy)) h2⟩
theorem frameN{P:Program}{gl:T (List V)}{f:Nat}{ars ars':List V}{n t:Nat}{sp room:Option Nat}{c:List V}{H:T O}{nx:Nat}(h:CallSpec P gl (.fn f []) ars .e 0 ⟨.sl 0 0 n room,ofOs .e 0 [.row t sp c],1,[]⟩)(hv:ViewL H.get (fun _=>True) (fun _=>none) ars ars')(hci:allI c):CallSpec P gl (.fn f []) ars' H nx ⟨.sl nx 0 n room,pt H nx (.row t sp c),nx+1,[]⟩:=by
 refine⟨fun s w fv vals hc hargs hH hgl hnn=>?_,by grind[pt_eq,Log.new]⟩
 obtain⟨F,hFd⟩: ∃F:Nat→Prop,F=fun b=>s.fz b∨∃g t sp c,H.get g=some (.row t sp c)∧b=s.μ g:=⟨_,rfl⟩
 have hF1: ∀b,s.fz b→F b:=fun b hb=>by simp_all
 have hF2: ∀b,F b→b<w.heap.size:=fun b hb=>by
  rw[hFd]at hb
  rcases hb with hb|⟨g,t,sp,c,hg,rfl⟩
  ·exact hH.old b (.inl hb)
  ·exact(hH.obj _ _ hg rfl).2.1
 have hF3:RL (sg F) w ars vals.toList:=ViewL.rl hH (s':=sg F) ⟨fun _ _ e=>(by cases e),fun g t sp c _ hg=>by rw[hFd];exact .inr ⟨g,t,sp,c,hg,rfl⟩,hF1⟩ _ _ _ hv hargs
 obtain⟨next,e1,e2,e3⟩:=h.1 (sg F) w fv vals (Hf.rv (s':=sg F) hF1 _ _ trivial hc) hF3 (Qj0 (fun b hb=>hb.elim (hF2 b) False.elim)) (fun g l hg=>RC.mono' (s':=sg F) hF1 (fun _ _=>rfl) l g 0 (hgl g l hg)) (fun _ _ h=>h)
 refine⟨next,e1,?_,e3⟩
 obtain⟨f',ars2,rfl⟩:=e3 ⟨f,[],rfl⟩
 refine CallsIn.mono e2 ?_
 rintro e w' ⟨u,s',rfl,g1,g2,g3,g4,g5⟩
 obtain⟨o1,o2,o3,o4⟩:=g2.obj 0 _ Qir rfl
 have hnew:w.heap.size≤s'.μ 0:=by
  rcases g3.new 0 o1 (fun h=>h)with h|⟨k,hk,_⟩
  ·exact h
  ·cases hk
 obtain⟨r1,_⟩:=hH.below (w':=w') ⟨g3.mod.os,g3.mod.tape,g3.mod.output,g3.mod.size,fun k hk=>g3.mod.block k hk (fun⟨_,hm,_⟩=>by cases hm)⟩
 have hsz:=g3.mod.size
 have hno: ¬s.dom nx:=hnn nx (Nat.le_refl _)
 have hold: ∀b,b<w.heap.size→w'.heap[b]? =w.heap[b]? :=fun b hb=>g3.mod.block b hb (fun⟨_,hm,_⟩=>by cases hm)
 have hk:KeptP s w w':=fun b hb=>hold b (hH.old b hb)
 refine⟨u,s.ext nx (s'.μ 0) (s'.cp 0),rfl,?_,?_,⟨Sig.ext_le hno,fun _ h=>.inl h,hk,⟨g3.mod.os,g3.mod.tape,g3.mod.output,hsz,fun k hk _=>hold k hk⟩,fun i hi hni=>?_⟩,fun i=>?_,Nat.le_succ _⟩
 ·obtain ⟨_, cap, hu, hle, hr1, hr2⟩ := g1
  exact⟨Qcg _ _ _ _,cap,by grind[Qat],hle,hr1,fun h1 h2=>by grind[ext_cp]⟩
 ·show RH _ _ (pt H nx (.row t sp c)).get
  rw[pt_eq,get_put_upd]
  refine hH.put hno (.inl hnew) hk (fun g og hg hl=>hold _ (hH.obj g og hg hl).2.1) hsz o2 ?_
  obtain⟨vs,rest,q1,q2,q3,q4⟩:=o4
  exact⟨vs,rest,by grind[Qat],Qrz _ _ hci q2,q3,by grind[ext_cp]⟩
 ·rcases hi with hi | hi
  all_goals grind[Qat]
 ·constructor
  ·rintro (hi | hi)
   all_goals grind
  ·rintro (hi | ⟨a, b⟩)
   ·exact .inl hi
   ·exact .inr (by grind)
theorem Sat.fst{P:Program}{rd:Option Nat}{nx0:Nat}{c:Code}{st:St}{gl:T (List V)}{n:Nat}{A B:Prop}{e e':Ex}{S S':SL}(h:Sat P rd nx0 c st (Qae gl n [(A,e,S),(B,e',S')]))(hb: ¬B):Sat P rd nx0 c st (Qae gl n [(True,e,S)]):=
 h.mono fun _ _ q=>q.elim (fun q=>.inl ⟨trivial,q.2⟩) fun q=>q.elim (fun q=>absurd q.1 hb) fun q=>q.elim
theorem Sat.snd{P:Program}{rd:Option Nat}{nx0:Nat}{c:Code}{st:St}{gl:T (List V)}{n:Nat}{A B:Prop}{e e':Ex}{S S':SL}(h:Sat P rd nx0 c st (Qae gl n [(A,e,S),(B,e',S')]))(hb: ¬A):Sat P rd nx0 c st (Qae gl n [(True,e',S')]):=
 h.mono fun _ _ q=>q.elim (fun q=>absurd q.1 hb) fun q=>q.elim (fun q=>.inl ⟨trivial,q.2⟩) fun q=>q.elim
theorem sl_inj{L M:List Int}(h:sl L=sl M):L=M:=by
 have ints_inj: ∀{L M:List Int},ints L=ints M→L=M:=by
  intro L
  induction L with
  |nil=>intro M h;cases M with
   |nil=>rfl
   |cons=>cases h
  | cons a L ih =>
   intro M h
   cases M with
   |nil=>cases h
   |cons b M=>
    simp only[ints,List.map_cons,List.cons.injEq]at h
    obtain⟨h1,h2⟩:=h
    injection h1 with h3 h4
    rw[h4,ih h2]
 grind
theorem Qcd{n:Nat}{L:List Int}(h:incB n L=true):L.length≤n:=by
 have hi:=Qcv.1 h
 have key: ∀k,k<L.length→(k:Int)≤L.getD k 0:=by
  intro k
  induction k with
  |zero=>simp_all
  |succ k ih=>
   grind
 grind
theorem Qbg{n:Nat}{L:List Int}(h:incB n L=true):Qbk L n:=fun k hk=>⟨(Qcv.1 h k hk).1,(Qcv.1 h k hk).2.1⟩
def crdP(N:List Mc):Nat→Int
 |0=>1
 |k+1=>crdP N k*(N.getD k mc0).c
theorem Qps{N:List Mc}(hc: ∀k,k<N.length→1≤(N.getD k mc0).c∧(N.getD k mc0).c≤4): ∀k,k≤N.length→1≤crdP N k∧crdP N k≤4^k
 |0,_=>by simp[crdP]
 |k+1,hk=>by
  obtain⟨h1,h2⟩:=Qps hc k (by omega)
  obtain⟨h5,h6⟩:=hc k (by omega)
  show 1≤crdP N k*(N.getD k mc0).c∧crdP N k*(N.getD k mc0).c≤4^(k+1)
  generalize (N.getD k mc0).c=c at*
  generalize crdP N k=a at*
  have e:(4:Int)^(k+1)=4^k*4:=Int.pow_succ ..
  rw[e]
  refine⟨?_,Int.mul_le_mul h2 h6 (by omega) (by omega)⟩
  have:1*1≤a*c:=Int.mul_le_mul h1 h5 (by decide) (by omega)
  omega
def inL(k:Nat)(L:List Int):Bool:=(List.range L.length).any fun i=>decide (L.getD i 0=(k:Int))
theorem Qkz{k:Nat}{L:List Int}:inL k L=false↔∀i,i<L.length→L.getD i 0≠(k:Int):=by
 grind[inL]
def nodB(R:List (List Int))(N:List Mc)(k:Nat)(x:Mc):Bool:=
 incB N.length x.fr&&incB R.length x.no&& !inL k x.fr&&decide ((x.ou.length:Int)=proC N x.fr x.fr.length*(proR R x.no x.no.length:Nat))&&inB 0 (x.c-1) x.ou
def nodesB(R:List (List Int))(N:List Mc):Bool:=(List.range N.length).all (fun k=>nodB R N k (N.getD k mc0))&&decide (crdP N N.length≤1024)
abbrev nfS(g:Int)(n:Nat)(R:List V)(q:Nat)(N:List V)(x:Mc)(k:Nat)(p:Int)(i:Nat):SL:={sl:=[(1,.ptr 0 0),(2,.bool false),(3,i6 p),(4,i6 (k:Nat)),(5,.ptr 1 0),(11,.im q N),(12,i6 (q:Nat)),(13,i6 (k:Nat)),(39,sl x.fr),(40,i6 (x.fr.length:Nat)),(41,i6 (i:Nat))],os:=[moO g n R q N,mcO x]}
theorem nodes_in(g:Int)(n:Nat)(R:List V)(hR:HfL R)(q:Nat)(N:List V)(hN:HfL N)(c:Int)(fr nz ou:List Int)(k:Nat)(p:Int)(hl:fr.length≤8)(hk:k≤8):
  Sat Pg none 0 (at' 78 [1,1,0,1,0,0,1,1,0,0,1,1,1,0,1,0]) (mkSt g0 74 (nfS g n R q N ⟨c,fr,nz,ou⟩ k p 0)) (Qae g0 74 [(inL k fr=false,.exit 2,nfS g n R q N ⟨c,fr,nz,ou⟩ k p fr.length),(inL k fr=true,.ret,{sl:=[(2,.bool false)]})]):=by
 have h1:=Qad fr
 have h2:=Qad nz
 have h3:=Qad ou
 refine Qaw vE_ok Qaf Qab (b:=at' 78 [1,1,0,1,0,0,1,1,0,0,1,1,1,0,1,0,0]) (by kernel_rfl) (fun i=>i≤fr.length∧∀j,j<i→fr.getD j 0≠(k:Int)) (nfS g n R q N ⟨c,fr,nz,ou⟩ k p) (fun i=>fr.length-i) (fun i hi=>?_) 0 ⟨Nat.zero_le _,fun i h=>absurd h (Nat.not_lt_zero _)⟩
 obtain⟨hi,hin⟩:=hi
 by_cases hlt:i<fr.length
 ·have hld := Qao hlt
  by_cases he:fr.getD i 0=(k:Int)
  ·have hf : inL k fr = true := by
    cases hb:inL k fr with
    |true=>rfl
    |false=>grind[Qkz]
   refine .inr ⟨.ret,[],{sl:=[(2,.bool false)]},[yes 42,pl 43,ld 44 (i6 (fr.getD i 0)),yes 47],1000,.inr (.inl ⟨hf,rfl,rfl⟩),?_⟩
   clear hin hf
   generalize fr.getD i 0=y at*
   exact m_ (p:=let z0:=(↑i:Int);An [decide (z0<(↑fr.length:Int))=true,An [(0:Int)≤z0,z0<(↑fr.length:Int)],_,(y==(↑k:Int))=true,An [Sm false,Tt],Tt]) ⟨aq,a_,hld,a_⟩
  ·refine .inl ⟨i + 1, [0, 1], [yes 42, pl 43, ld 44 (i6 (fr.getD i 0)), no 47, nu 48 ((i + 1 : Nat) : Int)], 1000, ⟨hlt, fun j hj => ?_⟩, by omega, ?_⟩
   ·grind
   clear hin
   generalize fr.getD i 0=y at*
   exact m_ (p:=let z0:=(↑fr.length:Int);let z1:=(↑k:Int);let z2:=(↑(i+1):Int);let z3:=(↑i:Int);let z4:=[i6 c,sl fr,sl nz,sl ou];let z5:=[i6 g,V.im n R,V.im q N];An [decide (z3<z0)=true,An [(0:Int)≤z3,z3<z0],_,(y==z1)=false,wr .i64 (z3+(1:Int))=z2,An [Zz,Sm false,p=p,z1=z1,Zz,An [q=q,N=N],Sm (↑q:Int),z1=z1,An [Sm fr.length,Sm (ints fr)],z0=z0,z2=z2,Tt],An [z5=z5,TT 3],An [z4=z4,TT 4],Tt]) ⟨aq,a_,hld,a_⟩
 ·have hk2 : i = fr.length := by omega
  subst hk2
  refine .inr ⟨.exit 2,[0,1],nfS g n R q N ⟨c,fr,nz,ou⟩ k p fr.length,[no 42],1000,.inl ⟨Qkz.2 hin,rfl,rfl⟩,?_⟩
  clear hin
  refine Eq.mp (by kernel_rfl:(let z0:=(↑fr.length:Int);An [decide (z0<z0)=false,An [Zz,Sm false,p=p,Sm (↑k:Int),Zz,An [q=q,N=N],Sm (↑q:Int),Sm (↑k:Int),An [Sm fr.length,Sm (ints fr)],Sm z0,Sm z0,Tt],An [Sm [i6 g,V.im n R,V.im q N],TT 3],An [Sm [i6 c,sl fr,sl nz,sl ou],TT 4],Tt])=_) ?_
  (repeat'(first|(with_reducible apply And.intro)|(refine fun(_:True)=>?_)))<;>first|exact aq|skip
  all_goals skip
abbrev noS(g:Int)(n:Nat)(R:List V)(q:Nat)(N:List V)(k:Nat)(p:Int):SL:={sl:=[(1,.ptr 0 0),(2,.bool false),(3,i6 p),(11,.im q N),(12,i6 (q:Nat)),(13,i6 (k:Nat))],os:=[moO g n R q N]}
section
variable (g:Int) (R:List (List Int)) (N:List Mc) (hq:N.length≤5) (hn:R.length≤8) (hc: ∀k,k<N.length→1≤(N.getD k mc0).c∧(N.getD k mc0).c≤4) (hR: ∀k,k<R.length→1≤(R.getD k []).length∧(R.getD k []).length≤4) (h6: ∀x∈N,x.fr.length≤1000000∧x.no.length≤1000000∧x.ou.length≤1000000)
include hq hn hc hR h6
theorem Qn4:Sat Pg none 0 (at' 78 [1,1,0,1,0]) (mkSt g0 74 (noS g R.length (rtL R) N.length (mcL N) 0 1)) (Qae g0 74 [((List.range N.length).all (fun k=>nodB R N k (N.getD k mc0))=true,.exit 0,{sl:=[(3,i6 (crdP N N.length))]}),((List.range N.length).all (fun k=>nodB R N k (N.getD k mc0))=false,.ret,{sl:=[(2,.bool false)]})]):=by
 have hRR:=Qar R
 have hNN:=Qav N
 refine Qaw vE_ok Qaf Qab (b:=at' 78 [1,1,0,1,0,0]) (by kernel_rfl) (fun k=>k≤N.length∧∀i,i<k→nodB R N i (N.getD i mc0)=true) (fun k=>noS g R.length (rtL R) N.length (mcL N) k (crdP N k)) (fun k=>N.length-k) (fun k hk=>?_) 0 ⟨Nat.zero_le _,fun i h=>absurd h (Nat.not_lt_zero _)⟩
 obtain⟨hk,hin⟩:=hk
 by_cases hlt:k<N.length
 ·have hld := Qdp hlt
  have bad:nodB R N k (N.getD k mc0)=false→(List.range N.length).all (fun k=>nodB R N k (N.getD k mc0))=false:=fun h=>by
   grind
  have hgood:nodB R N k (N.getD k mc0)=true→∀i,i<k+1→nodB R N i (N.getD i mc0)=true:=fun h i hi=>by
   grind
  have hcb:=Qps hc (k+1) hlt
  have h45:(4:Int)^(k+1)≤4^5:=by
   have:=Nat.pow_le_pow_right (show 4>0 by decide) (show k+1≤5 by omega)
   exact_mod_cast this
  have h46:(4:Int)^5=1024:=rfl
  have e1:crdP N (k+1)=crdP N k*(N.getD k mc0).c:=rfl
  have hx6:=h6 (N.getD k mc0) (by simp_all)
  have hcx:=hc k hlt
  have hs:Qbk (N.getD k mc0).fr N.length→Qbk (N.getD k mc0).no R.length→(N.getD k mc0).fr.length≤5→(N.getD k mc0).no.length≤8→FnOk Pg g0 118 [mdV g R N,.agg [i6 (N.getD k mc0).c,sl (N.getD k mc0).fr,sl (N.getD k mc0).no,sl (N.getD k mc0).ou]] (.tup [i6 (proC N (N.getD k mc0).fr (N.getD k mc0).fr.length),i6 (proR R (N.getD k mc0).no (N.getD k mc0).no.length:Nat)]):=fun a b c d=>sizes_fn g R N (N.getD k mc0) hc hR a b c d
  have hca:=fun(a:Qbk (N.getD k mc0).fr N.length)(l:(N.getD k mc0).fr.length≤5)=>Qle hc a (N.getD k mc0).fr.length (Nat.le_refl _)
  have hra:=fun(a:Qbk (N.getD k mc0).no R.length)=>Qlf hR a (N.getD k mc0).no.length (Nat.le_refl _)
  generalize hxe:N.getD k mc0=x at*
  obtain⟨c,fr,nz,ou⟩:=x
  dsimp only at*
  generalize hp1e:crdP N (k+1)=p1 at*
  generalize crdP N k=p0 at*
  have h1:=Qad fr
  have h2:=Qad nz
  have h3:=Qad ou
  have w1:=Qel fr N.length hx6.1
  have w2:=Qel nz R.length hx6.2.1
  have w3:=Qb9 0 (c-1) ou hx6.2.2
  have eN:nodB R N k ⟨c,fr,nz,ou⟩=(incB N.length fr&&incB R.length nz&& !inL k fr&&decide ((ou.length:Int)=proC N fr fr.length*(proR R nz nz.length:Nat))&&inB 0 (c-1) ou):=rfl
  cases b1:incB N.length fr with
  |false=>
   rw[b1]at w1 eN
   have hf:=bad (by rw[eN];rfl)
   refine .inr ⟨.ret,[],{sl:=[(2,.bool false)]},[yes 14,pl 16,ld 17 (.agg (mcC ⟨c,fr,nz,ou⟩)),nu 21 p1,fn 27 (.bool false)],1000,.inr (.inl ⟨hf,rfl,rfl⟩),?_⟩
   clear hxe hin bad hgood hs hca hra hc hR h6 eN
   generalize rtL R=RR at*
   generalize mcL N=NN at*
   exact m_ (p:=let z0:=(↑k:Int);An [decide (z0<(↑N.length:Int))=true,An [(0:Int)≤z0,z0<(↑N.length:Int)],_,wr .i64 (p0*c)=p1,TT 2,_,Tt,An [Sm false,Tt],Tt]) ⟨aq,a_,hld,aq,aq,w1,a_⟩
  | true =>
   rw[b1]at w1 eN
   have pl1:=Qbg b1
   have ln1:=Qcd b1
   cases b2:incB R.length nz with
   |false=>
    rw[b2]at w2 eN
    have hf:=bad (by rw[eN];rfl)
    refine .inr ⟨.ret,[],{sl:=[(2,.bool false)]},[yes 14,pl 16,ld 17 (.agg (mcC ⟨c,fr,nz,ou⟩)),nu 21 p1,fn 27 (.bool true),fn 35 (.bool false)],1000,.inr (.inl ⟨hf,rfl,rfl⟩),?_⟩
    clear hxe hin bad hgood hs hca hra hc hR h6 eN
    generalize rtL R=RR at*
    generalize mcL N=NN at*
    exact m_ (p:=let z0:=pt (pt (ofOs T.e 0 [moO g R.length RR N.length NN]) 1 (O.row 86 none [i6 0,V.nils,V.nils,V.nils])) 1 (O.row 86 none [i6 c,sl fr,sl nz,sl ou]);let z1:=(↑k:Int);An [decide (z1<(↑N.length:Int))=true,An [(0:Int)≤z1,z1<(↑N.length:Int)],_,wr .i64 (p0*c)=p1,TT 2,_,Tt,TT 2,_,An [V.fn 117 []=V.fn 117 []→[sl fr,i6 ↑N.length]=[sl nz,i6 ↑R.length]→z0=z0→1+1=2→CR.mk (V.bool true) z0 2 []=CR.mk (V.bool false) z0 2 [],Tt],An [Sm false,Tt],Tt]) ⟨aq,a_,hld,aq,aq,w1,aq,aq,w2,⟨(by (intro _ h _ _;have e3:=sl_inj (List.cons.inj h).1;have e4:=(List.cons.inj (List.cons.inj h).2).1;injection e4 with _ e5;rw[e3,e5,b2]at b1;cases b1;done)),aq⟩,a_⟩
   | true =>
    rw[b2]at w2 eN
    have pl2:=Qbg b2
    have ln2:=Qcd b2
    have hlo:=nodes_in g R.length (rtL R) hRR N.length (mcL N) hNN c fr nz ou k p1 (by omega) (by omega)
    replace hs:=hs pl1 pl2 (by omega) (by omega)
    unfold mdV at hs
    replace hca:=hca pl1 (by omega)
    replace hra:=hra pl2
    have hcb5:(4:Int)^fr.length≤4^5:=by
     have:=Nat.pow_le_pow_right (show 4>0 by decide) (show fr.length≤5 by omega)
     exact_mod_cast this
    have hrb5:4^nz.length≤4^8:=Nat.pow_le_pow_right (by decide) (by omega)
    have h48:4^8=65536:=rfl
    generalize proC N fr fr.length=a at*
    generalize proR R nz nz.length=b at*
    have hab:1*1≤a*(b:Int)∧a*(b:Int)≤1024*65536:=⟨Int.mul_le_mul (by omega) (by omega) (by omega) (by omega),Int.mul_le_mul (by omega) (by omega) (by omega) (by omega)⟩
    obtain⟨ab,hab2⟩: ∃z,z=a*(b:Int):=⟨_,rfl⟩
    rw[←hab2]at hab eN
    cases b3:inL k fr with
    |true=>
     rw[b3]at hlo eN
     replace hlo:=hlo.snd (fun h=>by cases h)
     have hf:=bad (by rw[eN];rfl)
     refine .inr ⟨.ret,[],{sl:=[(2,.bool false)]},[yes 14,pl 16,ld 17 (.agg (mcC ⟨c,fr,nz,ou⟩)),nu 21 p1,fn 27 (.bool true),fn 35 (.bool true),(0,.loop [0,1] (nfS g R.length (rtL R) N.length (mcL N) ⟨c,fr,nz,ou⟩ k p1 0) [(True,.ret,{sl:=[(2,.bool false)]})])],1000,.inr (.inl ⟨hf,rfl,rfl⟩),?_⟩
     clear hxe hin bad hgood hs hca hra hc hR h6 eN
     generalize rtL R=RR at*
     generalize mcL N=NN at*
     exact m_ (p:=let z1:=(↑k:Int);let z2:=(↑N.length:Int);let z3:=[i6 c,sl fr,sl nz,sl ou];let z4:=[i6 g,V.im R.length RR,V.im N.length NN];let z0:=pt (pt (ofOs T.e 0 [moO g R.length RR N.length NN]) 1 (O.row 86 none [i6 0,V.nils,V.nils,V.nils])) 1 (O.row 86 none z3);An [decide (z1<z2)=true,An [(0:Int)≤z1,z1<z2],_,wr .i64 (p0*c)=p1,TT 2,_,Tt,TT 2,_,An [V.fn 117 []=V.fn 117 []→[sl fr,i6 ↑N.length]=[sl nz,i6 ↑R.length]→z0=z0→1+1=2→Sm (CR.mk (V.bool true) z0 2 []),Tt],An [An [Zz,Sm false,p1=p1,z1=z1,Zz,An [Sm N.length,NN=NN],z2=z2,z1=z1,An [Sm fr.length,Sm (ints fr)],Sm (↑fr.length:Int),(↑(0:Nat):Int)=(0:Int),Tt],An [z4=z4,TT 3],An [z3=z3,TT 4],Tt],_,(True->An [An [Sm false,Tt],Tt]),Tt]) ⟨aq,a_,hld,aq,aq,w1,aq,aq,w2,a_,a_,hlo,a_⟩
    | false =>
     rw[b3]at hlo eN
     replace hlo:=hlo.fst (fun h=>by cases h)
     by_cases h5:(ou.length:Int)=ab
     ·cases b4 : inB 0 (c - 1) ou with
      |false=>
       rw[b4]at w3 eN
       have hf:=bad (by rw[eN];simp)
       refine .inr ⟨.ret,[],{sl:=[(2,.bool false)]},[yes 14,pl 16,ld 17 (.agg (mcC ⟨c,fr,nz,ou⟩)),nu 21 p1,fn 27 (.bool true),fn 35 (.bool true),(0,.loop [0,1] (nfS g R.length (rtL R) N.length (mcL N) ⟨c,fr,nz,ou⟩ k p1 0) [(True,.exit 2,nfS g R.length (rtL R) N.length (mcL N) ⟨c,fr,nz,ou⟩ k p1 fr.length)]),fn 52 (.tup [i6 a,i6 (b:Nat)]),nu 60 ab,no 61,nu 65 (c-1),fn 68 (.bool false)],1000,.inr (.inl ⟨hf,rfl,rfl⟩),?_⟩
       clear hxe hin bad hgood hca hra hc hR h6 eN
       generalize rtL R=RR at*
       generalize mcL N=NN at*
       exact m_ (p:=let z1:=[i6 g,V.im R.length RR,V.im N.length NN];let z2:=(↑k:Int);let z3:=(↑N.length:Int);let z4:=[i6 c,sl fr,sl nz,sl ou];let z0:=pt (pt (ofOs T.e 0 [moO g R.length RR N.length NN]) 1 (O.row 86 none [i6 0,V.nils,V.nils,V.nils])) 1 (O.row 86 none z4);An [decide (z2<z3)=true,An [(0:Int)≤z2,z2<z3],_,wr .i64 (p0*c)=p1,TT 2,_,Tt,TT 2,_,An [V.fn 117 []=V.fn 117 []→[sl fr,i6 ↑N.length]=[sl nz,i6 ↑R.length]→z0=z0→1+1=2→Sm (CR.mk (V.bool true) z0 2 []),Tt],An [An [Zz,Sm false,p1=p1,z2=z2,Zz,An [Sm N.length,NN=NN],z3=z3,z2=z2,An [Sm fr.length,Sm (ints fr)],Sm (↑fr.length:Int),(↑(0:Nat):Int)=(0:Int),Tt],An [z1=z1,TT 3],An [z4=z4,TT 4],Tt],_,(True->An [An [TT 3,TT 4,Tt],_,Tt,wr .i64 (a*(↑b:Int))=ab,((↑ou.length:Int) != ab)=false,wr .i64 (c-(1:Int))=c-(1:Int),TT 3,_,Tt,An [Sm false,Tt],Tt]),Tt]) ⟨aq,a_,hld,aq,aq,w1,aq,aq,w2,a_,a_,hlo,(fun _=>⟨a_,hs,aq,aq,aq,aq,aq,w3,a_⟩),aq⟩
      |true=>
       rw[b4]at w3 eN
       have hg:=hgood (by grind)
       refine .inl ⟨k+1,[0],[yes 14,pl 16,ld 17 (.agg (mcC ⟨c,fr,nz,ou⟩)),nu 21 p1,fn 27 (.bool true),fn 35 (.bool true),(0,.loop [0,1] (nfS g R.length (rtL R) N.length (mcL N) ⟨c,fr,nz,ou⟩ k p1 0) [(True,.exit 2,nfS g R.length (rtL R) N.length (mcL N) ⟨c,fr,nz,ou⟩ k p1 fr.length)]),fn 52 (.tup [i6 a,i6 (b:Nat)]),nu 60 ab,no 61,nu 65 (c-1),fn 68 (.bool true),nu 71 ((k+1:Nat):Int)],1000,⟨hlt,hg⟩,by omega,?_⟩
       clear hxe hin bad hgood hg hca hra hc hR h6 eN
       generalize rtL R=RR at*
       generalize mcL N=NN at*
       exact m_ (p:=let z1:=[i6 g,V.im R.length RR,V.im N.length NN];let z2:=(↑N.length:Int);let z3:=(↑k:Int);let z4:=[i6 c,sl fr,sl nz,sl ou];let z7:=(↑(k+1):Int);let z0:=pt (pt (ofOs T.e 0 [moO g R.length RR N.length NN]) 1 (O.row 86 none [i6 0,V.nils,V.nils,V.nils])) 1 (O.row 86 none z4);An [decide (z3<z2)=true,An [(0:Int)≤z3,z3<z2],_,wr .i64 (p0*c)=p1,TT 2,_,Tt,TT 2,_,An [V.fn 117 []=V.fn 117 []→[sl fr,i6 ↑N.length]=[sl nz,i6 ↑R.length]→z0=z0→1+1=2→Sm (CR.mk (V.bool true) z0 2 []),Tt],An [An [Zz,Sm false,p1=p1,z3=z3,Zz,An [Sm N.length,NN=NN],z2=z2,z3=z3,An [Sm fr.length,Sm (ints fr)],Sm (↑fr.length:Int),(↑(0:Nat):Int)=(0:Int),Tt],An [z1=z1,TT 3],An [z4=z4,TT 4],Tt],_,(True->An [An [TT 3,TT 4,Tt],_,Tt,wr .i64 (a*(↑b:Int))=ab,((↑ou.length:Int) != ab)=false,wr .i64 (c-(1:Int))=c-(1:Int),TT 3,_,Tt,wr .i64 (z3+(1:Int))=z7,An [Zz,Sm false,_,An [Sm N.length,NN=NN],z2=z2,z7=z7,Tt],An [z1=z1,TT 3],Tt]),Tt]) ⟨aq,a_,hld,aq,aq,w1,aq,aq,w2,a_,a_,hlo,(fun _=>⟨a_,hs,aq,aq,aq,aq,aq,w3,aq,aq,⟨aq,aq,hp1e,a_⟩,a_⟩),aq⟩
     ·have hf := bad (by simp_all)
      refine .inr ⟨.ret,[],{sl:=[(2,.bool false)]},[yes 14,pl 16,ld 17 (.agg (mcC ⟨c,fr,nz,ou⟩)),nu 21 p1,fn 27 (.bool true),fn 35 (.bool true),(0,.loop [0,1] (nfS g R.length (rtL R) N.length (mcL N) ⟨c,fr,nz,ou⟩ k p1 0) [(True,.exit 2,nfS g R.length (rtL R) N.length (mcL N) ⟨c,fr,nz,ou⟩ k p1 fr.length)]),fn 52 (.tup [i6 a,i6 (b:Nat)]),nu 60 ab,yes 61],1000,.inr (.inl ⟨hf,rfl,rfl⟩),?_⟩
      clear hxe hin bad hgood hca hra hc hR h6 eN
      generalize rtL R=RR at*
      generalize mcL N=NN at*
      exact m_ (p:=let z1:=[i6 g,V.im R.length RR,V.im N.length NN];let z2:=(↑k:Int);let z3:=(↑N.length:Int);let z4:=[i6 c,sl fr,sl nz,sl ou];let z0:=pt (pt (ofOs T.e 0 [moO g R.length RR N.length NN]) 1 (O.row 86 none [i6 0,V.nils,V.nils,V.nils])) 1 (O.row 86 none z4);An [decide (z2<z3)=true,An [(0:Int)≤z2,z2<z3],_,wr .i64 (p0*c)=p1,TT 2,_,Tt,TT 2,_,An [V.fn 117 []=V.fn 117 []→[sl fr,i6 ↑N.length]=[sl nz,i6 ↑R.length]→z0=z0→1+1=2→Sm (CR.mk (V.bool true) z0 2 []),Tt],An [An [Zz,Sm false,p1=p1,z2=z2,Zz,An [Sm N.length,NN=NN],z3=z3,z2=z2,An [Sm fr.length,Sm (ints fr)],Sm (↑fr.length:Int),(↑(0:Nat):Int)=(0:Int),Tt],An [z1=z1,TT 3],An [z4=z4,TT 4],Tt],_,(True->An [An [TT 3,TT 4,Tt],_,Tt,wr .i64 (a*(↑b:Int))=ab,((↑ou.length:Int) != ab)=true,An [Sm false,Tt],Tt]),Tt]) ⟨aq,a_,hld,aq,aq,w1,aq,aq,w2,a_,a_,hlo,(fun _=>⟨a_,hs,a_⟩),aq⟩
 ·have hk2 : k = N.length := by omega
  have hall:(List.range N.length).all (fun k=>nodB R N k (N.getD k mc0))=true:=List.all_eq_true.2 fun i hi=>hin i (by simp_all)
  subst hk2
  generalize hp0:crdP N N.length=p0 at*
  refine .inr ⟨.exit 0,[],{sl:=[(3,i6 p0)]},[no 14],1000,.inl ⟨hall,rfl,rfl⟩,?_⟩
  clear hin hall hp0
  generalize rtL R=RR at*
  generalize mcL N=NN at*
  refine Eq.mp (by kernel_rfl:(An [decide ((↑N.length:Int)<(↑N.length:Int))=false,An [p0=p0,Tt],Tt])=_) ?_
  (repeat'(first|(with_reducible apply And.intro)|(refine fun(_:True)=>?_)))<;>first|exact aq|skip
  all_goals skip
end
section
variable (g:Int) (R:List (List Int)) (N:List Mc) (hq:N.length≤5) (hn:R.length≤8) (hc: ∀k,k<N.length→1≤(N.getD k mc0).c∧(N.getD k mc0).c≤4) (hR: ∀k,k<R.length→1≤(R.getD k []).length∧(R.getD k []).length≤4) (h6: ∀x∈N,x.fr.length≤1000000∧x.no.length≤1000000∧x.ou.length≤1000000)
include hq hn hc hR h6
theorem nodes_fn:FnOk Pg g0 78 [mdV g R N] (.bool (nodesB R N)):=by
 have hRR:=Qar R
 have hNN:=Qav N
 have h:=Qn4 g R N hq hn hc hR h6
 show FnOk Pg g0 78 [.agg [i6 g,.im R.length (rtL R),.im N.length (mcL N)]] (.bool ((List.range N.length).all (fun k=>nodB R N k (N.getD k mc0))&&decide (crdP N N.length≤1024)))
 generalize (List.range N.length).all (fun k=>nodB R N k (N.getD k mc0))=b at*
 generalize crdP N N.length=p at*
 generalize rtL R=RR at*
 generalize mcL N=NN at*
 cases b with
 |false=>
  replace h:=h.snd (fun h=>by cases h)
  refine FnOk.of_vc vE_ok Qaf Qab (n:=1000) (r:=[]) (S:={sl:=[(2,.bool false)]}) (hs:=[(0,.loop [0] (noS g R.length RR N.length NN 0 1) [(True,.ret,{sl:=[(2,.bool false)]})])]) ?_
  clear hc hR h6
  exact m_ (p:=An [V.bool false=V.bool (false&&decide (p≤(1024:Int))),An [An [Zz,Sm false,Sm (1:Int),An [Sm N.length,NN=NN],Sm (↑N.length:Int),(↑(0:Nat):Int)=(0:Int),Tt],An [Sm [i6 g,V.im R.length RR,V.im N.length NN],TT 3],Tt],_,(True->An [An [Sm false,Tt],Tt]),Tt]) ⟨aq,a_,h,a_⟩
 | true =>
  replace h:=h.fst (fun h=>by cases h)
  by_cases hp:p≤1024
  ·rw [decide_eq_true hp]
   refine FnOk.of_vc vE_ok Qaf Qab (n:=1000) (r:=[]) (S:={sl:=[(2,.bool true)]}) (hs:=[(0,.loop [0] (noS g R.length RR N.length NN 0 1) [(True,.exit 0,{sl:=[(3,i6 p)]})]),yes 73]) ?_
   clear hc hR h6
   exact m_ (p:=An [V.bool true=V.bool (true&&true),An [An [Zz,Sm false,Sm (1:Int),An [Sm N.length,NN=NN],Sm (↑N.length:Int),(↑(0:Nat):Int)=(0:Int),Tt],An [Sm [i6 g,V.im R.length RR,V.im N.length NN],TT 3],Tt],_,(True->An [_,An [Sm true,Tt],Tt]),Tt]) ⟨aq,a_,h,(fun _=>⟨(decide_eq_true hp),a_⟩),aq⟩
  ·rw [decide_eq_false hp]
   refine FnOk.of_vc vE_ok Qaf Qab (n:=1000) (r:=[]) (S:={sl:=[(2,.bool false)]}) (hs:=[(0,.loop [0] (noS g R.length RR N.length NN 0 1) [(True,.exit 0,{sl:=[(3,i6 p)]})]),no 73]) ?_
   clear hc hR h6
   exact m_ (p:=An [V.bool false=V.bool (true&&false),An [An [Zz,Sm false,Sm (1:Int),An [Sm N.length,NN=NN],Sm (↑N.length:Int),(↑(0:Nat):Int)=(0:Int),Tt],An [Sm [i6 g,V.im R.length RR,V.im N.length NN],TT 3],Tt],_,(True->An [_,An [Sm false,Tt],Tt]),Tt]) ⟨aq,a_,h,(fun _=>⟨(decide_eq_false hp),a_⟩),aq⟩
end
theorem wru{n m:Int}(h1:0≤n)(h2:n≤18446744073709551615)(h:n=m):wr .u64 n=m:=by rw[←h];exact Qg9 h1 h2
def acT(N:List Mc)(d i:Nat):Nat:=if mi (setI (N.getD i mc0).fr (N.getD i mc0).fr.length) d=0 then d|||2^i else d
def acI(N:List Mc)(d:Nat):Nat→Nat
 |0=>d
 |i+1=>acT N (acI N d i) i
def acO(N:List Mc):Nat→Nat
 |0=>0
 |r+1=>acI N (acO N r) N.length
def acyB(N:List Mc):Bool:=decide (acO N N.length=2^N.length-1)
theorem acT_lt{N:List Mc}{d i:Nat}(hd:d<18446744073709551616)(hi:i<64):acT N d i<18446744073709551616:=by
 unfold acT
 split
 ·exact Nat.or_lt_two_pow (n:=64) hd (Nat.pow_lt_pow_right (by omega) hi)
 ·exact hd
theorem Qjb{N:List Mc}{d:Nat}(hd:d<18446744073709551616): ∀i,i≤64→acI N d i<18446744073709551616
 |0,_=>hd
 |i+1,hi=>acT_lt (Qjb hd i (by omega)) (by omega)
theorem Ql8{N:List Mc}(hq:N.length≤5): ∀r,acO N r<18446744073709551616
 |0=>by show 0< _;omega
 |r+1=>Qjb (Ql8 hq r) _ (by omega)
abbrev aiS(g:Int)(n:Nat)(R:List V)(q:Nat)(N:List V)(r:Nat)(i:Nat)(d:Nat):SL:={sl:=[(1,.ptr 0 0),(2,.bool false),(3,u6 (d:Nat)),(7,.im q N),(8,i6 (q:Nat)),(9,i6 (r:Nat)),(12,.im q N),(13,i6 (q:Nat)),(14,i6 (i:Nat))],os:=[moO g n R q N]}
abbrev aoS(g:Int)(n:Nat)(R:List V)(q:Nat)(N:List V)(r:Nat)(d:Nat):SL:={sl:=[(1,.ptr 0 0),(2,.bool false),(3,u6 (d:Nat)),(7,.im q N),(8,i6 (q:Nat)),(9,i6 (r:Nat))],os:=[moO g n R q N]}
section
variable (g:Int) (R:List (List Int)) (N:List Mc) (hq:N.length≤5) (hf: ∀k,k<N.length→Qbk (N.getD k mc0).fr N.length∧(N.getD k mc0).fr.length≤5)
include hq hf
theorem ac_in(r d:Nat)(hr:r≤5)(hd:d<18446744073709551616):Sat Pg none 0 (at' 79 [1,1,0,1,0,0,1,1,0,0,1,0]) (mkSt g0 38 (aiS g R.length (rtL R) N.length (mcL N) r 0 d)) (Qae g0 38 [(True,.exit 2,aiS g R.length (rtL R) N.length (mcL N) r N.length (acI N d N.length))]):=by
 have hRR:=Qar R
 have hNN:=Qav N
 refine Qaw vE_ok Qaf Qab (b:=at' 79 [1,1,0,1,0,0,1,1,0,0,1,0,0]) (by kernel_rfl) (fun i=>i≤N.length) (fun i=>aiS g R.length (rtL R) N.length (mcL N) r i (acI N d i)) (fun i=>N.length-i) (fun i hi=>?_) 0 (Nat.zero_le _)
 by_cases hlt:i<N.length
 ·have hld := Qdp hlt
  have ef:(N.getD i mc0).fr=(N.getD i mc0).fr:=rfl
  have hs:=Qiz (N.getD i mc0).fr (by grind) (fun k hk=>by have:=(hf i hlt).1 k hk;omega)
  have hs1:=Qb8 (L:=(N.getD i mc0).fr) (fun k hk=>by have:=(hf i hlt).1 k hk;omega) _ (Nat.le_refl _)
  have e1:acI N d (i+1)=acT N (acI N d i) i:=rfl
  have hd1:=Qjb (N:=N) hd i (by omega)
  have hd2:=Qjb (N:=N) hd (i+1) (by omega)
  unfold acT at e1
  generalize hd2e:acI N d (i+1)=d2 at*
  generalize acI N d i=d1 at*
  clear hf
  generalize N.getD i mc0=x at*
  obtain⟨c,fr,nz,ou⟩:=x
  dsimp only at*
  generalize setI fr fr.length=s at*
  have h1:=Qad fr
  have h2:=Qad nz
  have h3:=Qad ou
  have m1:=mi_u (G:=Qac Pg) (t:=29) hs1 hd1
  have m2:=Qew (G:=Qac Pg) (t:=29) (k:=i) (by omega)
  have m3:=or_u (G:=Qac Pg) (t:=29) hd1 m2.2
  by_cases h0:mi s d1=0
  ·rw [if_pos h0] at e1
   rw[h0]at m1
   rw[←e1]at m3
   refine .inl ⟨i+1,[0],[yes 15,pl 17,ld 18 (.agg (mcC ⟨c,fr,nz,ou⟩)),fn 21 (u6 (s:Nat)),va 23 (u6 (0:Nat)),va 27 (u6 (2^i:Nat)),va 28 (u6 (d2:Nat)),nu 29 ((i+1:Nat):Int)],1000,hlt,by omega,?_⟩
   generalize rtL R=RR at*
   generalize mcL N=NN at*
   exact m_ (p:=let z0:=(↑N.length:Int);let z1:=[i6 g,V.im R.length RR,V.im N.length NN];let z2:=Qac Tryz.prog;let z3:=(↑(i+1):Int);let z4:=(↑i:Int);An [decide (z4<z0)=true,An [(0:Int)≤z4,z4<z0],_,An [Tt,Tt],_,Tt,_,binV z2 BinOp.shl 29 (u6 1) (i6 ↑i)=some (u6 ↑(2^i)),binV z2 BinOp.or 29 (u6 ↑d1) (u6 ↑(2^i))=some (u6 ↑d2),wr .i64 (z4+(1:Int))=z3,An [Zz,Sm false,(↑(acI N d (i+1)):Int)=(↑d2:Int),An [Sm N.length,NN=NN],z0=z0,Sm (↑r:Int),An [Sm N.length,NN=NN],z0=z0,z3=z3,Tt],An [z1=z1,TT 3],Tt]) ⟨aq,a_,hld,a_,hs,aq,m1,a_⟩
  ·rw [if_neg h0] at e1
   obtain rfl:d1=d2:=e1.symm
   refine .inl ⟨i+1,[0],[yes 15,pl 17,ld 18 (.agg (mcC ⟨c,fr,nz,ou⟩)),fn 21 (u6 (s:Nat)),va 23 (u6 (mi s d1:Nat)),no 24,nu 29 ((i+1:Nat):Int)],1000,hlt,by omega,?_⟩
   generalize rtL R=RR at*
   generalize mcL N=NN at*
   generalize mi s d1=m at*
   exact m_ (p:=let z0:=(↑N.length:Int);let z1:=[i6 g,V.im R.length RR,V.im N.length NN];let z2:=(↑(i+1):Int);let z3:=(↑i:Int);An [decide (z3<z0)=true,An [(0:Int)≤z3,z3<z0],_,An [Tt,Tt],_,Tt,_,((↑m:Int)==(0:Int))=false,wr .i64 (z3+(1:Int))=z2,An [Zz,Sm false,(↑(acI N d (i+1)):Int)=(↑d1:Int),An [Sm N.length,NN=NN],z0=z0,Sm (↑r:Int),An [Sm N.length,NN=NN],z0=z0,z2=z2,Tt],An [z1=z1,TT 3],Tt]) ⟨aq,a_,hld,a_,hs,aq,m1,a_⟩
 ·have hk2 : i = N.length := by omega
  subst hk2
  generalize acI N d N.length=d1 at*
  refine .inr ⟨.exit 2,[0],aiS g R.length (rtL R) N.length (mcL N) r N.length d1,[no 15],1000,.inl ⟨trivial,rfl,rfl⟩,?_⟩
  generalize rtL R=RR at*
  generalize mcL N=NN at*
  clear hf
  refine Eq.mp (by kernel_rfl:(let z0:=(↑N.length:Int);let z1:=[i6 g,V.im R.length RR,V.im N.length NN];An [decide (z0<z0)=false,An [Zz,Sm false,Sm (↑d1:Int),An [Sm N.length,NN=NN],z0=z0,Sm (↑r:Int),An [Sm N.length,NN=NN],z0=z0,z0=z0,Tt],An [z1=z1,TT 3],Tt])=_) ?_
  (repeat'(first|(with_reducible apply And.intro)|(refine fun(_:True)=>?_)))<;>first|exact aq|skip
  all_goals skip
theorem ac_out:Sat Pg none 0 (at' 79 [1,1,0,1,0]) (mkSt g0 38 (aoS g R.length (rtL R) N.length (mcL N) 0 0)) (Qae g0 38 [(True,.exit 0,aoS g R.length (rtL R) N.length (mcL N) N.length (acO N N.length))]):=by
 have hRR:=Qar R
 have hNN:=Qav N
 refine Qaw vE_ok Qaf Qab (b:=at' 79 [1,1,0,1,0,0]) (by kernel_rfl) (fun i=>i≤N.length) (fun i=>aoS g R.length (rtL R) N.length (mcL N) i (acO N i)) (fun i=>N.length-i) (fun i hi=>?_) 0 (Nat.zero_le _)
 by_cases hlt:i<N.length
 ·have hlo := ac_in g R N hq hf i (acO N i) (by omega) (Ql8 hq i)
  have e1:acO N (i+1)=acI N (acO N i) N.length:=rfl
  rw[←e1]at hlo
  generalize hd2e:acO N (i+1)=d2 at*
  generalize acO N i=d1 at*
  refine .inl ⟨i+1,[0],[yes 10,(0,.loop [0] (aiS g R.length (rtL R) N.length (mcL N) i 0 d1) [(True,.exit 2,aiS g R.length (rtL R) N.length (mcL N) i N.length d2)]),nu 30 ((i+1:Nat):Int)],1000,hlt,by omega,?_⟩
  generalize rtL R=RR at*
  generalize mcL N=NN at*
  clear hf
  exact m_ (p:=let z0:=[i6 g,V.im R.length RR,V.im N.length NN];let z1:=(↑N.length:Int);let z2:=(↑(i+1):Int);let z3:=(↑i:Int);An [decide (z3<z1)=true,An [An [Zz,Sm false,Sm (↑d1:Int),An [Sm N.length,NN=NN],z1=z1,z3=z3,An [Sm N.length,NN=NN],z1=z1,(↑(0:Nat):Int)=(0:Int),Tt],An [z0=z0,TT 3],Tt],_,(True->An [wr .i64 (z3+(1:Int))=z2,An [Zz,Sm false,(↑(acO N (i+1)):Int)=(↑d2:Int),An [Sm N.length,NN=NN],z1=z1,z2=z2,Tt],An [z0=z0,TT 3],Tt]),Tt]) ⟨aq,a_,hlo,a_⟩
 ·have hk2 : i = N.length := by omega
  subst hk2
  generalize acO N N.length=d1 at*
  refine .inr ⟨.exit 0,[0],aoS g R.length (rtL R) N.length (mcL N) N.length d1,[no 10],1000,.inl ⟨trivial,rfl,rfl⟩,?_⟩
  generalize rtL R=RR at*
  generalize mcL N=NN at*
  clear hf
  refine Eq.mp (by kernel_rfl:(let z0:=(↑N.length:Int);let z1:=[i6 g,V.im R.length RR,V.im N.length NN];An [decide (z0<z0)=false,An [Zz,Sm false,Sm (↑d1:Int),An [Sm N.length,NN=NN],z0=z0,z0=z0,Tt],An [z1=z1,TT 3],Tt])=_) ?_
  (repeat'(first|(with_reducible apply And.intro)|(refine fun(_:True)=>?_)))<;>first|exact aq|skip
  all_goals skip
theorem Qnj:FnOk Pg g0 79 [mdV g R N] (.bool (acyB N)):=by
 have hRR:=Qar R
 have hNN:=Qav N
 have h:=ac_out g R N hq hf
 have hlt:=Ql8 hq N.length
 show FnOk Pg g0 79 [.agg [i6 g,.im R.length (rtL R),.im N.length (mcL N)]] (.bool (decide (acO N N.length=2^N.length-1)))
 clear hf
 generalize acO N N.length=d at*
 have m2:=Qew (G:=Qac Pg) (t:=29) (k:=N.length) (by omega)
 have hp:2^N.length≤2^5:=Nat.pow_le_pow_right (by decide) hq
 have hp0:1≤2^N.length:=Nat.one_le_two_pow
 have e32:2^5=32:=rfl
 generalize 2^N.length=z at*
 generalize rtL R=RR at*
 generalize mcL N=NN at*
 by_cases hd:d=z-1
 ·rw [decide_eq_true hd]
  refine FnOk.of_vc vE_ok Qaf Qab (n:=1000) (r:=[]) (S:={sl:=[(2,.bool true)]}) (hs:=[(0,.loop [0] (aoS g R.length RR N.length NN 0 0) [(True,.exit 0,aoS g R.length RR N.length NN N.length d)]),va 35 (u6 (z:Nat)),nu 36 ((z-1:Nat):Int),yes 37]) ?_
  exact m_ (p:=An [Sm (V.bool true),An [An [Zz,Sm false,(↑(0:Nat):Int)=(0:Int),An [Sm N.length,NN=NN],Sm (↑N.length:Int),(↑(0:Nat):Int)=(0:Int),Tt],An [Sm [i6 g,V.im R.length RR,V.im N.length NN],TT 3],Tt],_,(True->An [_,wr .u64 ((↑z:Int)-(1:Int))=(↑(z-1):Int),((↑d:Int)==(↑(z-1):Int))=true,An [Sm true,Tt],Tt]),Tt]) ⟨aq,a_,h,(fun _=>⟨m2.1,wru (by omega) (by omega) (by omega),a_⟩),aq⟩
 ·rw [decide_eq_false hd]
  refine FnOk.of_vc vE_ok Qaf Qab (n:=1000) (r:=[]) (S:={sl:=[(2,.bool false)]}) (hs:=[(0,.loop [0] (aoS g R.length RR N.length NN 0 0) [(True,.exit 0,aoS g R.length RR N.length NN N.length d)]),va 35 (u6 (z:Nat)),nu 36 ((z-1:Nat):Int),no 37]) ?_
  exact m_ (p:=An [Sm (V.bool false),An [An [Zz,Sm false,(↑(0:Nat):Int)=(0:Int),An [Sm N.length,NN=NN],Sm (↑N.length:Int),(↑(0:Nat):Int)=(0:Int),Tt],An [Sm [i6 g,V.im R.length RR,V.im N.length NN],TT 3],Tt],_,(True->An [_,wr .u64 ((↑z:Int)-(1:Int))=(↑(z-1):Int),((↑d:Int)==(↑(z-1):Int))=false,An [Sm false,Tt],Tt]),Tt]) ⟨aq,a_,h,(fun _=>⟨m2.1,wru (by omega) (by omega) (by omega),a_⟩),aq⟩
end
def Qds(x:Mc):Bool:=inB 1 4 [x.c]
theorem Qgb{x:Mc}(h:Qds x=true):1≤x.c∧x.c≤4:=Qa7.1 h 0 Nat.zero_lt_one
def chkB(g:Int)(R:List (List Int))(N:List Mc):Bool:=
 inB 1 12 [g]&&inB 0 8 [(R.length:Int)]&&inB 1 5 [(N.length:Int)]&&rootsB g R&&N.all Qds&&nodesB R N&&acyB N
abbrev ckS(g:Int)(n:Nat)(R:List V)(q:Nat)(N:List V)(k:Nat):SL:={sl:=[(1,.ptr 0 0),(2,i6 0),(30,.im q N),(31,i6 (q:Nat)),(32,i6 (k:Nat))],os:=[moO g n R q N]}
abbrev ckX(g:Int)(n:Nat)(R:List V)(q:Nat)(N:List V):SL:={sl:=[(1,.ptr 0 0)],os:=[moO g n R q N]}
theorem ck_loop(g:Int)(n:Nat)(R:List V)(hR:HfL R)(N:List Mc)(hq:N.length≤5):Sat Pg none 0 (at' 39 [1,1,1,0,1,0]) (mkSt g0 50 (ckS g n R N.length (mcL N) 0)) (Qae g0 50 [(N.all Qds=true,.exit 0,ckX g n R N.length (mcL N)),(N.all Qds=false,.ret,{sl:=[(2,i6 330)]})]):=by
 have hNN:=Qav N
 refine Qaw vE_ok Qaf Qab (b:=at' 39 [1,1,1,0,1,0,0]) (by kernel_rfl) (fun k=>k≤N.length∧∀i,i<k→Qds (N.getD i mc0)=true) (ckS g n R N.length (mcL N)) (fun k=>N.length-k) (fun k hk=>?_) 0 ⟨Nat.zero_le _,fun i h=>absurd h (Nat.not_lt_zero _)⟩
 obtain⟨hk,hin⟩:=hk
 by_cases hlt:k<N.length
 ·have hld := Qdp hlt
  have hmem:N.getD k mc0∈N:=by rw[List.getD_eq_getElem?_getD,List.getElem?_eq_getElem hlt];exact List.getElem_mem hlt
  have bad:Qds (N.getD k mc0)=false→N.all Qds=false:=fun h=>by
   grind
  have hgood:Qds (N.getD k mc0)=true→∀i,i<k+1→Qds (N.getD i mc0)=true:=fun h i hi=>by
   grind
  generalize N.getD k mc0=x at*
  obtain⟨c,fr,nz,ou⟩:=x
  have h1:=Qad fr
  have h2:=Qad nz
  have h3:=Qad ou
  have w1:=Qb9 1 4 [c] (by simp)
  have e1:Qds ⟨c,fr,nz,ou⟩=inB 1 4 [c]:=rfl
  rw[e1]at bad hgood
  cases b:inB 1 4 [c]with
  |true=>
   rw[b]at w1
   have hg:=hgood b
   refine .inl ⟨k+1,[0],[yes 33,pl 34,ld 35 (.agg (mcC ⟨c,fr,nz,ou⟩)),fn 39 (.bool true),nu 41 ((k+1:Nat):Int)],1000,⟨hlt,hg⟩,by omega,?_⟩
   clear hin bad hgood hg hmem
   generalize mcL N=NN at*
   exact m_ (p:=let z0:=(↑N.length:Int);let z1:=(↑(k+1):Int);let z2:=[i6 g,V.im n R,V.im N.length NN];let z3:=(↑k:Int);An [decide (z3<z0)=true,An [(0:Int)≤z3,z3<z0],_,An [Tt,Tt,An [Tt,Tt],Tt],FnOk Tryz.prog g0 76 [i6 1,i6 4,V.im 1 [i6 c]] (V.bool true),Tt,wr .i64 (z3+(1:Int))=z1,An [Zz,Sm (0:Int),An [Sm N.length,NN=NN],z0=z0,z1=z1,Tt],An [z2=z2,TT 3],Tt]) ⟨aq,a_,hld,a_,w1,a_⟩
  |false=>
   rw[b]at w1
   have hf:=bad b
   refine .inr ⟨.ret,[],{sl:=[(2,i6 330)]},[yes 33,pl 34,ld 35 (.agg (mcC ⟨c,fr,nz,ou⟩)),fn 39 (.bool false)],1000,.inr (.inl ⟨hf,rfl,rfl⟩),?_⟩
   clear hin bad hgood hmem hf
   generalize mcL N=NN at*
   exact m_ (p:=let z0:=(↑k:Int);An [decide (z0<(↑N.length:Int))=true,An [(0:Int)≤z0,z0<(↑N.length:Int)],_,An [Tt,Tt,An [Tt,Tt],Tt],FnOk Tryz.prog g0 76 [i6 1,i6 4,V.im 1 [i6 c]] (V.bool false),Tt,An [Sm (330:Int),Tt],Tt]) ⟨aq,a_,hld,a_,w1,a_⟩
 ·have hk2 : k = N.length := by omega
  have hall:N.all Qds=true:=List.all_eq_true.2 fun L hL=>by
   grind[List.getElem_of_mem]
  subst hk2
  refine .inr ⟨.exit 0,[0],ckX g n R N.length (mcL N),[no 33],1000,.inl ⟨hall,rfl,rfl⟩,?_⟩
  clear hin hall
  generalize mcL N=NN at*
  refine Eq.mp (by kernel_rfl:(An [decide ((↑N.length:Int)<(↑N.length:Int))=false,An [Zz,Tt],An [Sm [i6 g,V.im n R,V.im N.length NN],TT 3],Tt])=_) ?_
  (repeat'(first|(with_reducible apply And.intro)|(refine fun(_:True)=>?_)))<;>first|exact aq|skip
  all_goals skip
def Qbo(R:List (List Int))(N:List Mc):Prop:=(∀L∈R,L.length≤1000000)∧∀x∈N,x.fr.length≤1000000∧x.no.length≤1000000∧x.ou.length≤1000000
theorem Qdz{α:Type}{d:α}{l:List α}{k:Nat}(h:k<l.length):l.getD k d∈l:=by
 simp_all
theorem memDG{α:Type}{d x:α}{l:List α}(h:x∈l): ∃k,k<l.length∧l.getD k d=x:=by
 obtain⟨i,hi,e⟩:=List.getElem_of_mem h
 exact⟨i,hi,by simp_all⟩
structure MdOk(g:Int)(R:List (List Int))(N:List Mc):Prop where
 g1:1≤g∧g≤12
 n1:R.length≤8
 q1:1≤N.length∧N.length≤5
 rt:rootsB g R=true
 cd: ∀k,k<N.length→1≤(N.getD k mc0).c∧(N.getD k mc0).c≤4
 nd:nodesB R N=true
 ac:acyB N=true
theorem md_ok{g:Int}{R:List (List Int)}{N:List Mc}(h:chkB g R N=true):MdOk g R N:=by
 unfold chkB at h
 simp only[Bool.and_eq_true]at h
 obtain⟨⟨⟨⟨⟨⟨h1,h2⟩,h3⟩,h4⟩,h5⟩,h6⟩,h7⟩:=h
 have i1:=Qa7.1 h1 0 Nat.zero_lt_one
 have i2:=Qa7.1 h2 0 Nat.zero_lt_one
 have i3:=Qa7.1 h3 0 Nat.zero_lt_one
 simp only[List.getD_cons_zero]at i1 i2 i3
 exact⟨i1,by omega,by omega,h4,fun k hk=>Qgb (List.all_eq_true.1 h5 _ (Qdz hk)),h6,h7⟩
theorem rt_len{g:Int}{R:List (List Int)}(h:rootsB g R=true): ∀k,k<R.length→1≤(R.getD k []).length∧(R.getD k []).length≤4:=fun k hk=>by
 grind[rootsB,Qix,Qdz]
theorem Qq9{R:List (List Int)}{N:List Mc}(h:nodesB R N=true): ∀k,k<N.length→nodB R N k (N.getD k mc0)=true:=fun k hk=>by
 grind[nodesB]
theorem Qfa{R:List (List Int)}{N:List Mc}{k:Nat}{x:Mc}:nodB R N k x=true↔incB N.length x.fr=true∧incB R.length x.no=true∧inL k x.fr=false∧(x.ou.length:Int)=proC N x.fr x.fr.length*(proR R x.no x.no.length:Nat)∧inB 0 (x.c-1) x.ou=true:=by
 grind[nodB]
theorem Qkk (g : Int) (R : List (List Int)) (N : List Mc) (hl : Qbo R N) : FnOk Pg g0 39 [mdV g R N] (i6 (if chkB g R N = true then 0 else 330)) := by
 have hRR:=Qar R
 have hNN:=Qav N
 have w1:=Qb9 1 12 [g] (by simp)
 have w2:=Qb9 0 8 [(R.length:Int)] (by simp)
 have w3:=Qb9 1 5 [(N.length:Int)] (by simp)
 have hlo:=fun h:N.length≤5=>ck_loop g R.length (rtL R) hRR N h
 have i1:=fun h:inB 1 12 [g]=true=>Qa7.1 h 0 Nat.zero_lt_one
 have i2:=fun h:inB 0 8 [(R.length:Int)]=true=>Qa7.1 h 0 Nat.zero_lt_one
 have i3:=fun h:inB 1 5 [(N.length:Int)]=true=>Qa7.1 h 0 Nat.zero_lt_one
 simp only[List.getD_cons_zero]at i1 i2 i3
 have r1:=fun(h1:1≤g∧g≤12)(h2:R.length≤8)=>roots_fn g h1 R h2 hl.1 N
 have i5:N.all Qds=true→∀k,k<N.length→1≤(N.getD k mc0).c∧(N.getD k mc0).c≤4:=fun h k hk=>Qgb (List.all_eq_true.1 h _ (Qdz hk))
 have r2:=fun(h1:N.length≤5)(h2:R.length≤8)(h3:N.all Qds=true)(h4:rootsB g R=true)=>nodes_fn g R N h1 h2 (i5 h3) (rt_len h4) hl.2
 have r3:=fun(h1:N.length≤5)(h2:nodesB R N=true)=>Qnj g R N h1 (fun k hk=>by
  have:=Qfa.1 (Qq9 h2 k hk)
  exact⟨Qbg this.1,Nat.le_trans (Qcd this.1) h1⟩)
 show FnOk Pg g0 39 [.agg [i6 g,.im R.length (rtL R),.im N.length (mcL N)]] (i6 (if(inB 1 12 [g]&&inB 0 8 [(R.length:Int)]&&inB 1 5 [(N.length:Int)]&&rootsB g R&&N.all Qds&&nodesB R N&&acyB N)=true then 0 else 330))
 unfold mdV at r1 r2 r3
 generalize hb1:inB 1 12 [g]=b1 at*
 generalize hb2:inB 0 8 [(R.length:Int)]=b2 at*
 generalize hb3:inB 1 5 [(N.length:Int)]=b3 at*
 generalize rootsB g R=b4 at*
 generalize N.all Qds=b5 at*
 generalize nodesB R N=b6 at*
 generalize acyB N=b7 at*
 clear hl i5 hb1 hb2 hb3
 generalize rtL R=RR at*
 generalize mcL N=NN at*
 generalize R.length=n at*
 generalize N.length=q at*
 cases b1 with
 |false=>
  clear i1 i2 i3 r1 r2 r3 hlo
  refine FnOk.of_vc vE_ok Qaf Qab (n:=1000) (r:=[]) (S:={sl:=[(2,i6 330)]}) (hs:=[fn 8 (.bool false)]) ?_
  refine Eq.mp (by kernel_rfl:(An [i6 330=i6 (if(false&&b2&&b3&&b4&&b5&&b6&&b7)=true then(0:Int)else(330:Int)),An [Tt,Tt,An [Tt,Tt],Tt],FnOk Tryz.prog g0 76 [i6 1,i6 12,V.im 1 [i6 g]] (V.bool false),Tt,An [Sm (330:Int),Tt],Tt])=_) ?_
  (repeat'(first|(with_reducible apply And.intro)|(refine fun(_:True)=>?_)))<;>first|exact aq|skip
  all_goals first|exact w1|skip
 | true =>
  have k1:=i1 rfl
  cases b2 with
  |false=>
   clear i1 i2 i3 r1 r2 r3 hlo
   refine FnOk.of_vc vE_ok Qaf Qab (n:=1000) (r:=[]) (S:={sl:=[(2,i6 330)]}) (hs:=[fn 8 (.bool true),fn 15 (.bool false)]) ?_
   refine Eq.mp (by kernel_rfl:(let z2:=An [Tt,Tt,An [Tt,Tt],Tt];let z0:=pt (pt T.e 0 (O.row 34 none [i6 g,V.im n RR,V.im q NN])) 1 (O.row 3 none [i6 g]);let z1:=pt z0 2 (O.row 3 none [i6 ↑n]);An [i6 330=i6 (if(true&&false&&b3&&b4&&b5&&b6&&b7)=true then(0:Int)else(330:Int)),z2,FnOk Tryz.prog g0 76 [i6 1,i6 12,V.im 1 [i6 g]] (V.bool true),Tt,z2,FnOk Tryz.prog g0 76 [i6 0,i6 8,V.im 1 [i6 ↑n]] (V.bool false),An [(V.fn 76 []=V.fn 76 []→[i6 1,i6 12,V.sl 1 0 1 (some 0)]=[i6 0,i6 8,V.sl 2 0 1 (some 0)]→z0=z1→0+1+1=3→CR.mk (V.bool true) z0 2 []=CR.mk (V.bool false) z1 3 []),Tt],An [Sm (330:Int),Tt],Tt])=_) ?_
   (repeat'(first|(with_reducible apply And.intro)|(refine fun(_:True)=>?_)))<;>first|exact aq|skip
   all_goals first|exact w1|exact w2|skip
  | true =>
   have k2:=i2 rfl
   have r1:=r1 k1 (by omega)
   cases b3 with
   |false=>
    clear i1 i2 i3 r1 r2 r3 hlo
    refine FnOk.of_vc vE_ok Qaf Qab (n:=1000) (r:=[]) (S:={sl:=[(2,i6 330)]}) (hs:=[fn 8 (.bool true),fn 15 (.bool true),fn 23 (.bool false)]) ?_
    refine Eq.mp (by kernel_rfl:(let z8:=An [Tt,Tt,An [Tt,Tt],Tt];let z0:=pt (pt T.e 0 (O.row 34 none [i6 g,V.im n RR,V.im q NN])) 1 (O.row 3 none [i6 g]);let z3:=V.bool true;let z4:=[i6 1,i6 12,V.sl 1 0 1 (some 0)];let z5:=[i6 0,i6 8,V.sl 2 0 1 (some 0)];let z6:=[i6 1,i6 5,V.sl 3 0 1 (some 0)];let z7:=V.bool false;let z1:=pt z0 2 (O.row 3 none [i6 ↑n]);let z2:=pt z1 3 (O.row 3 none [i6 ↑q]);An [i6 330=i6 (if(true&&true&&false&&b4&&b5&&b6&&b7)=true then(0:Int)else(330:Int)),z8,FnOk Tryz.prog g0 76 [i6 1,i6 12,V.im 1 [i6 g]] z3,Tt,z8,FnOk Tryz.prog g0 76 [i6 0,i6 8,V.im 1 [i6 ↑n]] z3,An [(V.fn 76 []=V.fn 76 []→z4=z5→z0=z1→0+1+1=3→CR.mk z3 z0 2 []=CR.mk z3 z1 3 []),Tt],z8,FnOk Tryz.prog g0 76 [i6 1,i6 5,V.im 1 [i6 ↑q]] z7,An [(V.fn 76 []=V.fn 76 []→z5=z6→z1=z2→0+1+1+1=4→CR.mk z3 z1 3 []=CR.mk z7 z2 4 []),(V.fn 76 []=V.fn 76 []→z4=z6→z0=z2→0+1+1=4→CR.mk z3 z0 2 []=CR.mk z7 z2 4 []),Tt],An [Sm (330:Int),Tt],Tt])=_) ?_
    (repeat'(first|(with_reducible apply And.intro)|(refine fun(_:True)=>?_)))<;>first|exact aq|skip
    all_goals first|exact w1|exact w2|exact w3|skip
   | true =>
    have k3:=i3 rfl
    cases b4 with
    |false=>
     clear i1 i2 i3 r2 r3 hlo
     refine FnOk.of_vc vE_ok Qaf Qab (n:=1000) (r:=[]) (S:={sl:=[(2,i6 330)]}) (hs:=[fn 8 (.bool true),fn 15 (.bool true),fn 23 (.bool true),fn 27 (.bool false)]) ?_
     refine Eq.mp (by kernel_rfl:(let z8:=An [Tt,Tt,An [Tt,Tt],Tt];let z3:=V.bool true;let z4:=[i6 1,i6 12,V.sl 1 0 1 (some 0)];let z5:=[i6 0,i6 8,V.sl 2 0 1 (some 0)];let z6:=[i6 1,i6 5,V.sl 3 0 1 (some 0)];let z7:=[i6 g,V.im n RR,V.im q NN];let z0:=pt (pt T.e 0 (O.row 34 none z7)) 1 (O.row 3 none [i6 g]);let z1:=pt z0 2 (O.row 3 none [i6 ↑n]);let z2:=pt z1 3 (O.row 3 none [i6 ↑q]);An [i6 330=i6 (if(true&&true&&true&&false&&b5&&b6&&b7)=true then(0:Int)else(330:Int)),z8,FnOk Tryz.prog g0 76 [i6 1,i6 12,V.im 1 [i6 g]] z3,Tt,z8,FnOk Tryz.prog g0 76 [i6 0,i6 8,V.im 1 [i6 ↑n]] z3,An [(V.fn 76 []=V.fn 76 []→z4=z5→z0=z1→0+1+1=3→CR.mk z3 z0 2 []=CR.mk z3 z1 3 []),Tt],z8,FnOk Tryz.prog g0 76 [i6 1,i6 5,V.im 1 [i6 ↑q]] z3,An [(V.fn 76 []=V.fn 76 []→z5=z6→z1=z2→0+1+1+1=4→CR.mk z3 z1 3 []=CR.mk z3 z2 4 []),(V.fn 76 []=V.fn 76 []→z4=z6→z0=z2→0+1+1=4→CR.mk z3 z0 2 []=CR.mk z3 z2 4 []),Tt],An [TT 3,Tt],FnOk Tryz.prog g0 77 [V.agg z7] (V.bool false),Tt,An [Sm (330:Int),Tt],Tt])=_) ?_
     (repeat'(first|(with_reducible apply And.intro)|(refine fun(_:True)=>?_)))<;>first|exact aq|skip
     all_goals first|exact w1|exact w2|exact w3|exact r1|skip
    | true =>
     cases b5 with
     |false=>
      clear i1 i2 i3 r2 r3
      replace hlo:=(hlo (by omega)).snd (fun h=>by cases h)
      refine FnOk.of_vc vE_ok Qaf Qab (n:=1000) (r:=[]) (S:={sl:=[(2,i6 330)]}) (hs:=[fn 8 (.bool true),fn 15 (.bool true),fn 23 (.bool true),fn 27 (.bool true),(0,.loop [0] (ckS g n RR q NN 0) [(True,.ret,{sl:=[(2,i6 330)]})])]) ?_
      refine Eq.mp (by kernel_rfl:(let z9:=An [Tt,Tt,An [Tt,Tt],Tt];let z2:=V.bool true;let z4:=[i6 g,V.im n RR,V.im q NN];let z5:=[i6 1,i6 12,V.sl 1 0 1 (some 0)];let z6:=[i6 0,i6 8,V.sl 2 0 1 (some 0)];let z7:=[i6 1,i6 5,V.sl 3 0 1 (some 0)];let z8:=(0:Int);let z0:=pt (pt T.e 0 (O.row 34 none z4)) 1 (O.row 3 none [i6 g]);let z1:=pt z0 2 (O.row 3 none [i6 ↑n]);let z3:=pt z1 3 (O.row 3 none [i6 ↑q]);An [i6 330=i6 (if(true&&true&&true&&true&&false&&b6&&b7)=true then z8 else(330:Int)),z9,FnOk Tryz.prog g0 76 [i6 1,i6 12,V.im 1 [i6 g]] z2,Tt,z9,FnOk Tryz.prog g0 76 [i6 0,i6 8,V.im 1 [i6 ↑n]] z2,An [(V.fn 76 []=V.fn 76 []→z5=z6→z0=z1→0+1+1=3→CR.mk z2 z0 2 []=CR.mk z2 z1 3 []),Tt],z9,FnOk Tryz.prog g0 76 [i6 1,i6 5,V.im 1 [i6 ↑q]] z2,An [(V.fn 76 []=V.fn 76 []→z6=z7→z1=z3→0+1+1+1=4→CR.mk z2 z1 3 []=CR.mk z2 z3 4 []),(V.fn 76 []=V.fn 76 []→z5=z7→z0=z3→0+1+1=4→CR.mk z2 z0 2 []=CR.mk z2 z3 4 []),Tt],An [TT 3,Tt],FnOk Tryz.prog g0 77 [V.agg z4] z2,Tt,An [An [Zz,z8=z8,An [q=q,NN=NN],Sm (↑q:Int),(↑(0:Nat):Int)=z8,Tt],An [z4=z4,TT 3],Tt],Sat Tryz.prog none 0 (at' 39 [1,1,1,0,1,0]) (mkSt g0 50 (ckS g n RR q NN 0)) (Qae g0 50 [(True,Ex.ret,SL.mk [(2,i6 330)] [] [] [])]),(True→An [An [Sm (330:Int),Tt],Tt]),Tt])=_) ?_
      (repeat'(first|(with_reducible apply And.intro)|(refine fun(_:True)=>?_)))<;>first|exact aq|skip
      all_goals first|exact w1|exact w2|exact w3|exact r1|exact hlo|skip
     | true =>
      replace hlo:=(hlo (by omega)).fst (fun h=>by cases h)
      have r2:=r2 (by omega) (by omega) rfl rfl
      cases b6 with
      |false=>
       clear i1 i2 i3 r3
       refine FnOk.of_vc vE_ok Qaf Qab (n:=1000) (r:=[]) (S:={sl:=[(2,i6 330)]}) (hs:=[fn 8 (.bool true),fn 15 (.bool true),fn 23 (.bool true),fn 27 (.bool true),(0,.loop [0] (ckS g n RR q NN 0) [(True,.exit 0,ckX g n RR q NN)]),fn 43 (.bool false)]) ?_
       refine Eq.mp (by kernel_rfl:(let z9:=An [Tt,Tt,An [Tt,Tt],Tt];let z2:=[i6 g,V.im n RR,V.im q NN];let z3:=V.bool true;let z5:=[i6 1,i6 12,V.sl 1 0 1 (some 0)];let z6:=[i6 0,i6 8,V.sl 2 0 1 (some 0)];let z7:=[i6 1,i6 5,V.sl 3 0 1 (some 0)];let z8:=(0:Int);let z0:=pt (pt T.e 0 (O.row 34 none z2)) 1 (O.row 3 none [i6 g]);let z1:=pt z0 2 (O.row 3 none [i6 ↑n]);let z4:=pt z1 3 (O.row 3 none [i6 ↑q]);An [i6 330=i6 (if(true&&true&&true&&true&&true&&false&&b7)=true then z8 else(330:Int)),z9,FnOk Tryz.prog g0 76 [i6 1,i6 12,V.im 1 [i6 g]] z3,Tt,z9,FnOk Tryz.prog g0 76 [i6 0,i6 8,V.im 1 [i6 ↑n]] z3,An [(V.fn 76 []=V.fn 76 []→z5=z6→z0=z1→0+1+1=3→CR.mk z3 z0 2 []=CR.mk z3 z1 3 []),Tt],z9,FnOk Tryz.prog g0 76 [i6 1,i6 5,V.im 1 [i6 ↑q]] z3,An [(V.fn 76 []=V.fn 76 []→z6=z7→z1=z4→0+1+1+1=4→CR.mk z3 z1 3 []=CR.mk z3 z4 4 []),(V.fn 76 []=V.fn 76 []→z5=z7→z0=z4→0+1+1=4→CR.mk z3 z0 2 []=CR.mk z3 z4 4 []),Tt],An [TT 3,Tt],FnOk Tryz.prog g0 77 [V.agg z2] z3,Tt,An [An [Zz,z8=z8,An [q=q,NN=NN],Sm (↑q:Int),(↑(0:Nat):Int)=z8,Tt],An [z2=z2,TT 3],Tt],Sat Tryz.prog none 0 (at' 39 [1,1,1,0,1,0]) (mkSt g0 50 (ckS g n RR q NN 0)) (Qae g0 50 [(True,Ex.exit 0,ckX g n RR q NN)]),(True→An [An [TT 3,Tt],FnOk Tryz.prog g0 78 [V.agg z2] (V.bool false),Tt,An [Sm (330:Int),Tt],Tt]),Tt])=_) ?_
       (repeat'(first|(with_reducible apply And.intro)|(refine fun(_:True)=>?_)))<;>first|exact aq|skip
       all_goals first|exact w1|exact w2|exact w3|exact r1|exact r2|exact hlo|skip
      | true =>
       have r3:=r3 (by omega) rfl
       clear i1 i2 i3
       cases b7 with
       |false=>
        refine FnOk.of_vc vE_ok Qaf Qab (n:=1000) (r:=[]) (S:={sl:=[(2,i6 330)]}) (hs:=[fn 8 (.bool true),fn 15 (.bool true),fn 23 (.bool true),fn 27 (.bool true),(0,.loop [0] (ckS g n RR q NN 0) [(True,.exit 0,ckX g n RR q NN)]),fn 43 (.bool true),fn 47 (.bool false)]) ?_
        refine Eq.mp (by kernel_rfl:(let y1:=An [Tt,Tt,An [Tt,Tt],Tt];let y2:=An [TT 3,Tt];let z2:=[i6 g,V.im n RR,V.im q NN];let z3:=V.bool true;let z5:=ofOs T.e 0 [moO g n RR q NN];let z6:=[i6 1,i6 12,V.sl 1 0 1 (some 0)];let z8:=[i6 0,i6 8,V.sl 2 0 1 (some 0)];let z9:=[i6 1,i6 5,V.sl 3 0 1 (some 0)];let y0:=(0:Int);let z0:=pt (pt T.e 0 (O.row 34 none z2)) 1 (O.row 3 none [i6 g]);let z7:=[V.agg z2];let z1:=pt z0 2 (O.row 3 none [i6 ↑n]);let z4:=pt z1 3 (O.row 3 none [i6 ↑q]);An [i6 330=i6 (if(true&&true&&true&&true&&true&&true&&false)=true then y0 else(330:Int)),y1,FnOk Tryz.prog g0 76 [i6 1,i6 12,V.im 1 [i6 g]] z3,Tt,y1,FnOk Tryz.prog g0 76 [i6 0,i6 8,V.im 1 [i6 ↑n]] z3,An [(V.fn 76 []=V.fn 76 []→z6=z8→z0=z1→0+1+1=3→CR.mk z3 z0 2 []=CR.mk z3 z1 3 []),Tt],y1,FnOk Tryz.prog g0 76 [i6 1,i6 5,V.im 1 [i6 ↑q]] z3,An [(V.fn 76 []=V.fn 76 []→z8=z9→z1=z4→0+1+1+1=4→CR.mk z3 z1 3 []=CR.mk z3 z4 4 []),(V.fn 76 []=V.fn 76 []→z6=z9→z0=z4→0+1+1=4→CR.mk z3 z0 2 []=CR.mk z3 z4 4 []),Tt],y2,FnOk Tryz.prog g0 77 z7 z3,Tt,An [An [Zz,y0=y0,An [q=q,NN=NN],Sm (↑q:Int),(↑(0:Nat):Int)=y0,Tt],An [z2=z2,TT 3],Tt],Sat Tryz.prog none 0 (at' 39 [1,1,1,0,1,0]) (mkSt g0 50 (ckS g n RR q NN 0)) (Qae g0 50 [(True,Ex.exit 0,ckX g n RR q NN)]),(True→An [y2,FnOk Tryz.prog g0 78 z7 z3,Tt,y2,FnOk Tryz.prog g0 79 z7 (V.bool false),An [(V.fn 78 []=V.fn 79 []→z7=z7→z5=z5→1=1→CR.mk z3 z5 1 []=CR.mk (V.bool false) z5 1 []),Tt],An [Sm (330:Int),Tt],Tt]),Tt])=_) ?_
        (repeat'(first|(with_reducible apply And.intro)|(refine fun(_:True)=>?_)))<;>first|exact aq|skip
        all_goals first|exact w1|exact w2|exact w3|exact r1|exact r2|exact r3|exact hlo|skip
       |true=>
        refine FnOk.of_vc vE_ok Qaf Qab (n:=1000) (r:=[]) (S:={sl:=[(2,i6 0)]}) (hs:=[fn 8 (.bool true),fn 15 (.bool true),fn 23 (.bool true),fn 27 (.bool true),(0,.loop [0] (ckS g n RR q NN 0) [(True,.exit 0,ckX g n RR q NN)]),fn 43 (.bool true),fn 47 (.bool true)]) ?_
        refine Eq.mp (by kernel_rfl:(let y1:=An [Tt,Tt,An [Tt,Tt],Tt];let y2:=An [TT 3,Tt];let z2:=[i6 g,V.im n RR,V.im q NN];let z3:=V.bool true;let z5:=ofOs T.e 0 [moO g n RR q NN];let z6:=(0:Int);let z7:=[i6 1,i6 12,V.sl 1 0 1 (some 0)];let z9:=[i6 0,i6 8,V.sl 2 0 1 (some 0)];let y0:=[i6 1,i6 5,V.sl 3 0 1 (some 0)];let z0:=pt (pt T.e 0 (O.row 34 none z2)) 1 (O.row 3 none [i6 g]);let z8:=[V.agg z2];let z1:=pt z0 2 (O.row 3 none [i6 ↑n]);let z4:=pt z1 3 (O.row 3 none [i6 ↑q]);An [i6 0=i6 (if(true&&true&&true&&true&&true&&true&&true)=true then z6 else(330:Int)),y1,FnOk Tryz.prog g0 76 [i6 1,i6 12,V.im 1 [i6 g]] z3,Tt,y1,FnOk Tryz.prog g0 76 [i6 0,i6 8,V.im 1 [i6 ↑n]] z3,An [(V.fn 76 []=V.fn 76 []→z7=z9→z0=z1→0+1+1=3→CR.mk z3 z0 2 []=CR.mk z3 z1 3 []),Tt],y1,FnOk Tryz.prog g0 76 [i6 1,i6 5,V.im 1 [i6 ↑q]] z3,An [(V.fn 76 []=V.fn 76 []→z9=y0→z1=z4→0+1+1+1=4→CR.mk z3 z1 3 []=CR.mk z3 z4 4 []),(V.fn 76 []=V.fn 76 []→z7=y0→z0=z4→0+1+1=4→CR.mk z3 z0 2 []=CR.mk z3 z4 4 []),Tt],y2,FnOk Tryz.prog g0 77 z8 z3,Tt,An [An [Zz,z6=z6,An [q=q,NN=NN],Sm (↑q:Int),(↑(0:Nat):Int)=z6,Tt],An [z2=z2,TT 3],Tt],Sat Tryz.prog none 0 (at' 39 [1,1,1,0,1,0]) (mkSt g0 50 (ckS g n RR q NN 0)) (Qae g0 50 [(True,Ex.exit 0,ckX g n RR q NN)]),(True→An [y2,FnOk Tryz.prog g0 78 z8 z3,Tt,y2,FnOk Tryz.prog g0 79 z8 z3,An [(V.fn 78 []=V.fn 79 []→z8=z8→z5=z5→1=1→Sm (CR.mk z3 z5 1 [])),Tt],An [z6=z6,Tt],Tt]),Tt])=_) ?_
        (repeat'(first|(with_reducible apply And.intro)|(refine fun(_:True)=>?_)))<;>first|exact aq|skip
        all_goals first|exact w1|exact w2|exact w3|exact r1|exact r2|exact r3|exact hlo|skip
section
variable (g:Int) (R:List (List Int)) (N:List Mc) (hq:N.length≤5) (hc: ∀k,k<N.length→1≤(N.getD k mc0).c∧(N.getD k mc0).c≤4)
include hq hc
end
def RkOk(N:List Mc)(rk:Nat→Nat):Prop:=∀i,i<N.length→rk i≤25∧∀k,k<(N.getD i mc0).fr.length→rk ((N.getD i mc0).fr.getD k 0).toNat<rk i
def acQ(N:List Mc):Nat→Nat
 |0=>0
 |t+1=>acT N (acQ N t) (t%N.length)
theorem acI_q{N:List Mc}{r:Nat}: ∀i,i≤N.length→acI N (acQ N (r*N.length)) i=acQ N (r*N.length+i)
 |0,_=>rfl
 |i+1,h=>by
  show acT N (acI N (acQ N (r*N.length)) i) i=acT N (acQ N (r*N.length+i)) ((r*N.length+i)%N.length)
  rw[acI_q i (by omega),Nat.add_comm (r*N.length) i,Nat.add_mul_mod_self_right,Nat.mod_eq_of_lt (by omega)]
theorem acO_q{N:List Mc}: ∀r,acO N r=acQ N (r*N.length)
 |0=>by rw[Nat.zero_mul];rfl
 |r+1=>by
  show acI N (acO N r) N.length=_
  rw[acO_q r,acI_q _ (Nat.le_refl _),Nat.succ_mul]
theorem Qiy{L:List Int}{b:Nat}: ∀k,k≤L.length→((setI L k).testBit b=true↔∃j,j<k∧(L.getD j 0).toNat=b)
 |0,_=>by simp[setI]
 | k + 1, h => by
  unfold setI
  rw[Nat.testBit_or,Bool.or_eq_true,Qiy k (by omega),Nat.testBit_two_pow,decide_eq_true_eq]
  constructor
  ·rintro (⟨j, h1, h2⟩ | h1)
   ·exact⟨j,by omega,h2⟩
   ·exact⟨k,by omega,h1⟩
  ·rintro ⟨j, h1, h2⟩
   by_cases hj:j=k
   ·subst hj;exact .inr h2
   ·exact .inl ⟨j,by omega,h2⟩
theorem acQ_lt{N:List Mc}(hq:1≤N.length∧N.length≤5): ∀t,acQ N t<18446744073709551616
 |0=>by show 0< _;omega
 |t+1=>acT_lt (acQ_lt hq t) (by have:=Nat.mod_lt t (show 0<N.length by omega);omega)
theorem rk_t{N:List Mc}(hq:1≤N.length∧N.length≤5)(hf: ∀k,k<N.length→Qbk (N.getD k mc0).fr N.length∧(N.getD k mc0).fr.length≤5): ∀t,∃rk:Nat→Nat,∀i,(acQ N t).testBit i=true→rk i<t∧∀k,k<(N.getD i mc0).fr.length→(acQ N t).testBit ((N.getD i mc0).fr.getD k 0).toNat=true∧rk ((N.getD i mc0).fr.getD k 0).toNat<rk i
 |0=>⟨fun _=>0,fun i h=>by simp[acQ]at h⟩
 | t + 1 => by
  obtain⟨rk,h⟩:=rk_t hq hf t
  have hi:=Nat.mod_lt t (show 0<N.length by omega)
  have hd:=acQ_lt hq t
  have e:acQ N (t+1)=acT N (acQ N t) (t%N.length):=rfl
  rw[e]
  generalize t%N.length=i at*
  unfold acT
  by_cases h0:mi (setI (N.getD i mc0).fr (N.getD i mc0).fr.length) (acQ N t)=0
  ·rw [if_pos h0]
   by_cases hin:(acQ N t).testBit i=true
   ·have e2 : acQ N t ||| 2 ^ i = acQ N t := by
     apply Nat.eq_of_testBit_eq
     intro b
     rw[Nat.testBit_or,Nat.testBit_two_pow]
     by_cases hb:i=b
     ·subst hb;rw[hin];rfl
     ·simp[hb]
    rw[e2]
    refine⟨rk,fun j hj=>?_⟩
    obtain⟨h1,h2⟩:=h j hj
    exact⟨by omega,h2⟩
   ·have hnew : ∀ b, (acQ N t ||| 2 ^ i).testBit b = true ↔ ((acQ N t).testBit b = true ∨ i = b) := fun b => by
     rw[Nat.testBit_or,Nat.testBit_two_pow,Bool.or_eq_true,decide_eq_true_eq]
    have hfr: ∀k,k<(N.getD i mc0).fr.length→(acQ N t).testBit ((N.getD i mc0).fr.getD k 0).toNat=true:=fun k hk=>by
     have hb:(setI (N.getD i mc0).fr (N.getD i mc0).fr.length).testBit ((N.getD i mc0).fr.getD k 0).toNat=true:=(Qiy _ (Nat.le_refl _)).2 ⟨k,hk,rfl⟩
     have hs:=Qb8 (L:=(N.getD i mc0).fr) (fun k hk=>by have:=(hf i hi).1 k hk;omega) _ (Nat.le_refl _)
     have:=congrArg (fun z=>z.testBit ((N.getD i mc0).fr.getD k 0).toNat) h0
     simp only[Nat.zero_testBit]at this
     rw[Qep hs hd,hb,Bool.true_and,Bool.not_eq_false']at this
     exact this
    refine⟨fun x=>if x=i then t else rk x,fun j hj=>?_⟩
    dsimp only
    have hne: ∀b,(acQ N t).testBit b=true→b≠i:=fun b hb e=>hin (e▸hb)
    rcases(hnew j).1 hj with hj|rfl
    ·obtain ⟨h1, h2⟩ := h j hj
     rw[if_neg (hne j hj)]
     refine⟨by omega,fun k hk=>?_⟩
     obtain⟨a,b⟩:=h2 k hk
     rw[if_neg (hne _ a)]
     exact⟨(hnew _).2 (.inl a),b⟩
    ·rw [if_pos rfl]
     refine⟨by omega,fun k hk=>?_⟩
     have a:=hfr k hk
     rw[if_neg (hne _ a)]
     exact⟨(hnew _).2 (.inl a),(h _ a).1⟩
  ·rw [if_neg h0]
   refine⟨rk,fun j hj=>?_⟩
   obtain⟨h1,h2⟩:=h j hj
   exact⟨by omega,h2⟩
theorem rk_ex{N:List Mc}(hq:1≤N.length∧N.length≤5)(hf: ∀k,k<N.length→Qbk (N.getD k mc0).fr N.length∧(N.getD k mc0).fr.length≤5)(ha:acyB N=true): ∃rk,RkOk N rk:=by
 obtain⟨rk,h⟩:=rk_t hq hf (N.length*N.length)
 have ha2:acQ N (N.length*N.length)=2^N.length-1:=by
  rw[←acO_q];exact of_decide_eq_true ha
 refine⟨rk,fun i hi=>?_⟩
 obtain⟨h1,h2⟩:=h i (by rw[ha2,Nat.testBit_two_pow_sub_one];exact decide_eq_true hi)
 have:N.length*N.length≤5*5:=Nat.mul_le_mul hq.2 hq.2
 exact⟨by omega,fun k hk=>(h2 k hk).2⟩
def RootL(R:List (List Int))(u:List Int):Prop:=u.length=R.length∧∀k,k<R.length→0≤u.getD k 0∧u.getD k 0<((R.getD k []).length:Nat)
def SetL(N:List Mc)(s:List Int):Prop:=s.length=N.length∧∀k,k<N.length→ -1≤s.getD k 0∧s.getD k 0<(N.getD k mc0).c
structure NdOk(R:List (List Int))(N:List Mc):Prop where
 q:1≤N.length∧N.length≤5
 n:R.length≤8
 c: ∀k,k<N.length→1≤(N.getD k mc0).c∧(N.getD k mc0).c≤4
 rl: ∀k,k<R.length→1≤(R.getD k []).length∧(R.getD k []).length≤4
 fr: ∀k,k<N.length→Qbk (N.getD k mc0).fr N.length∧(N.getD k mc0).fr.length≤5
 no: ∀k,k<N.length→Qbk (N.getD k mc0).no R.length∧(N.getD k mc0).no.length≤8
 ol: ∀k,k<N.length→((N.getD k mc0).ou.length:Int)=proC N (N.getD k mc0).fr (N.getD k mc0).fr.length*(proR R (N.getD k mc0).no (N.getD k mc0).no.length:Nat)
 ou: ∀k,k<N.length→∀i,i<(N.getD k mc0).ou.length→0≤(N.getD k mc0).ou.getD i 0∧(N.getD k mc0).ou.getD i 0<(N.getD k mc0).c
 rk: ∃rk,RkOk N rk
theorem MdOk.nd2{g:Int}{R:List (List Int)}{N:List Mc}(h:MdOk g R N):NdOk R N:=by
 have hfr: ∀k,k<N.length→Qbk (N.getD k mc0).fr N.length∧(N.getD k mc0).fr.length≤5:=fun k hk=>by
  have:=Qfa.1 (Qq9 h.nd k hk)
  exact⟨Qbg this.1,Nat.le_trans (Qcd this.1) h.q1.2⟩
 refine⟨h.q1,h.n1,h.cd,rt_len h.rt,hfr,fun k hk=>?_,fun k hk=>?_,fun k hk i hi=>?_,rk_ex h.q1 hfr h.ac⟩
 ·have := Qfa.1 (Qq9 h.nd k hk)
  exact⟨Qbg this.2.1,Nat.le_trans (Qcd this.2.1) h.n1⟩
 ·exact(Qfa.1 (Qq9 h.nd k hk)).2.2.2.1
 ·have := Qa7.1 (Qfa.1 (Qq9 h.nd k hk)).2.2.2.2 i hi
  omega
section
variable (g:Int) (R:List (List Int)) (N:List Mc) (W:Int) (u:List Int) (hN:NdOk R N) (hu:RootL R u) (f:Nat→Int) (c:Int) (fr nz ou:List Int) (i:Nat)
include hN
include hu
end
section
variable (g:Int) (R:List (List Int)) (N:List Mc) (W:Int) (s u:List Int) (hN:NdOk R N) (hu:RootL R u) (hs:SetL N s)
include hN hu hs
end
section
variable (g:Int) (R:List (List Int)) (N:List Mc) (W:Int) (s u:List Int) (hN:NdOk R N) (hu:RootL R u) (hs:SetL N s)
include hN hu hs
end
def WtOk(R:List (List Int)):Prop:=∀k,k<R.length→1≤(R.getD k []).length∧(R.getD k []).length≤4∧∀j,j<(R.getD k []).length→0≤(R.getD k []).getD j 0∧(R.getD k []).getD j 0≤12
abbrev rw3(l:List Int):O:=.row 3 none (ints l)
section
variable (g:Int) (R:List (List Int)) (q:Nat) (NN:List V) (W:Nat) (hR:WtOk R) (hn:R.length≤8) (hNN:HfL NN)
include hR hn hNN
end
section
variable (g:Int) (R:List (List Int)) (q:Nat) (NN:List V) (W:Nat) (hR:WtOk R) (hn:R.length≤8) (hNN:HfL NN) (hW:W≤65536)
include hR hn hNN hW
end
section
variable (g:Int) (R:List (List Int)) (N:List Mc) (W:Nat) (s p:List Int) (hN:NdOk R N) (hs:SetL N s) (hp:p.length=N.length) (hR:WtOk R) (hW:W≤1024)
include hN hs hp hR hW
end
section
variable (g:Int) (R:List (List Int)) (N:List Mc) (W:Int) (s:List Int) (hq:N.length≤5) (hc: ∀k,k<N.length→1≤(N.getD k mc0).c∧(N.getD k mc0).c≤4)
include hq hc
end
section
variable (g:Int) (R:List (List Int)) (N:List Mc) (W:Nat) (s a b:List Int) (hN:NdOk R N) (hs:SetL N s) (hR:WtOk R) (hW:W≤1024) (ha:a.length=N.length) (hb:b.length=N.length) (hbv: ∀k,k<N.length→b.getD k 0=(N.getD k mc0).c) (z:Nat) (hz:(crdP N N.length).toNat=z) (hz6:z≤1000000)
include hN hs hR hW ha hb hbv hz hz6
end
def cdT(N:List Mc):List Int:=(List.range N.length).map fun i=>(N.getD i mc0).c
theorem cdT_len{N:List Mc}:(cdT N).length=N.length:=by simp[cdT]
theorem Qgl{l:List Int}{k:Nat}(h:k<l.length):ints (l.take (k+1))=ints (l.take k)++[i6 (l.getD k 0)]:=by
 rw[List.take_add_one,List.getElem?_eq_getElem h,List.getD_eq_getElem?_getD,List.getElem?_eq_getElem h]
 unfold ints;rw[List.map_append];rfl
theorem Qcx{l:List Int}{k:Nat}(h:k≤l.length):(ints (l.take k)).length=k:=by rw[Qal,List.length_take];omega
section
variable (g:Int) (nR:Nat) (RR:List V) (hRR:HfL RR) (nN:Nat) (NN:List V) (hNN:HfL NN)
abbrev cuO(g:Int)(nR:Nat)(RR:List V)(nN:Nat)(NN:List V):O:=.row 34 none [i6 g,.im nR RR,.im nN NN]
abbrev rcS(g:Int)(nR:Nat)(RR:List V)(nN:Nat)(NN:List V)(q:Nat×List V):SL:={sl:=[(1,.ptr 0 0),(3,owV 1 q.1),(4,i6 (q.1:Nat))],os:=cuO g nR RR nN NN::owL 3 1 q.2 q.1}
include hRR hNN
theorem Qlh(A:List Int)(hA:A.length=nN)(hn:nN≤1000000)(hd: ∀k,k<nN→headF (NN.drop (k*4))=some (i6 (A.getD k 0))):
  Sat Pg none 0 (at' 12 [1,1,0,1,0]) (mkSt g0 22 (rcS g nR RR nN NN (0,[]))) (Qae g0 22 [(True,.exit 0,{sl:=[(3,.im nN (ints A))]})]):=by
 refine Qaw vE_ok Qaf Qab (b:=at' 12 [1,1,0,1,0,0]) (by kernel_rfl) (fun q=>q.1≤nN∧q.2=ints (A.take q.1)) (rcS g nR RR nN NN) (fun q=>nN-q.1) (fun q hq=>?_) (0,[]) ⟨Nat.zero_le _,rfl⟩
 obtain⟨k,a⟩:=q
 obtain⟨hk,ha⟩:=hq
 dsimp only at hk ha
 have hal:a.length=k:=by rw[ha];exact Qcx (by omega)
 have haf:HfL a:=by rw[ha];exact Qad _
 by_cases hlt:k<nN
 ·have hnx := Qgl (l := A) (k := k) (by omega)
  rw[←ha]at hnx
  have hld:=hd k hlt
  clear ha hd
  generalize A.getD k 0=x at*
  cases k with
  |zero=>
   obtain rfl:a=[]:=List.eq_nil_of_length_eq_zero hal
   refine .inl ⟨(1,[i6 x]),[0,2],[yes 9,pl 16,ld 18 (i6 x),nu 11 (1:Nat)],1000,⟨hlt,hnx.symm⟩,by dsimp only;omega,?_⟩
   clear hnx
   refine Eq.mp (by kernel_rfl:(let z0:=(↑(0:Nat):Int);let z1:=(↑(1:Nat):Int);let z2:=[i6 g,V.im nR RR,V.im nN NN];An [decide (z0<(↑nN:Int))=true,An [(0:Int)≤z0,z0<(↑nN:Int)],headF (List.drop 0 (List.drop (0*4) NN))=some (i6 x),wr .i64 (z0+(1:Int))=z1,An [Zz,An [Zz,1=1,Tt],z1=z1,Tt],An [z2=z2,TT 3],An [Sm [i6 x],Tt,Tt],Tt])=_) ?_
   (repeat'(first|(with_reducible apply And.intro)|(refine fun(_:True)=>?_)))<;>first|exact aq|skip
   all_goals first|exact hld|rfl|skip
  |succ k=>
   refine .inl ⟨(k+2,a++[i6 x]),[0,3],[yes 9,pl 16,ld 18 (i6 x),ap 20,nu 11 (k+2:Nat)],1000,⟨hlt,hnx.symm⟩,by dsimp only;omega,?_⟩
   clear hnx
   exact m_ (p:=let z0:=(↑(k+1):Int);let z1:=(↑(k+2):Int);let z2:=[i6 g,V.im nR RR,V.im nN NN];An [decide (z0<(↑nN:Int))=true,An [(0:Int)≤z0,z0<(↑nN:Int)],headF (List.drop 0 (List.drop ((k+1)*4) NN))=some (i6 x),a.length=(k+1)*1,k+1+1≤9223372036854775807,(k+1+1)*8≤140737488355328,wr .i64 (z0+(1:Int))=z1,An [Zz,An [Zz,Nat.succ k+1=k+1+1,Tt],z1=z1,Tt],An [z2=z2,TT 3],An [Sm (a++[i6 x]),HfL (a++[i6 x])],Tt]) ⟨aq,a_,aq,aq,aq,aq,aq,a_,a_,⟨aq,Qe0 haf ⟨trivial,trivial⟩⟩,aq⟩
 ·obtain rfl : k = nN := by omega
  have hI:ints A=a:=by rw[ha,List.take_of_length_le (by omega)]
  rw[hI]
  clear ha hd hI
  cases k with
  |zero=>
   obtain rfl:a=[]:=List.eq_nil_of_length_eq_zero hal
   refine .inr ⟨.exit 0,[],{sl:=[(3,.im 0 noL)]},[no 9],1000,.inl ⟨trivial,rfl,rfl⟩,?_⟩
   refine Eq.mp (by kernel_rfl:(An [decide ((↑(0:Nat):Int)<(↑(0:Nat):Int))=false,An [Zz,Tt],Tt])=_) ?_
   (repeat'(first|(with_reducible apply And.intro)|(refine fun(_:True)=>?_)))<;>first|exact aq|skip
   all_goals first|rfl|skip
  |succ k=>
   refine .inr ⟨.exit 0,[],{sl:=[(3,.im (k+1) a)]},[no 9],1000,.inl ⟨trivial,rfl,rfl⟩,?_⟩
   exact m_ (p:=An [decide ((↑(k+1):Int)<(↑(k+1):Int))=false,An [An [Sm (k+1),a=a,_],Tt],Tt]) ⟨aq,⟨⟨aq,aq,haf⟩,aq⟩,aq⟩
theorem Qrt(A:List Int)(hA:A.length=nN)(hn:nN≤1000000)(hd: ∀k,k<nN→headF (NN.drop (k*4))=some (i6 (A.getD k 0))):FnOk Pg g0 12 [.agg [i6 g,.im nR RR,.im nN NN]] (.im nN (ints A)):=by
 have hlp:=Qlh g nR RR hRR nN NN hNN A hA hn hd
 have hAf:=Qad A
 clear hd
 generalize ints A=L at*
 refine FnOk.of_vc vE_ok Qaf Qab (n:=1000) (r:=[]) (S:={sl:=[(2,.im nN L)]}) (hs:=[(0,.loop [0] (rcS g nR RR nN NN (0,[])) [(True,.exit 0,{sl:=[(3,.im nN L)]})])]) ?_
 exact m_ (p:=An [Sm (V.im nN L),An [An [Zz,Tt,(↑(0:Nat):Int)=(0:Int),Tt],An [Sm [i6 g,V.im nR RR,V.im nN NN],TT 3],Tt],_,(True->An [An [An [nN=nN,L=L],Tt],Tt]),Tt]) ⟨aq,a_,hlp,a_⟩
theorem Qof(A:List Int)(hA:A.length=nR)(hn:nR≤1000000)(ls:Nat→List Int)(hd: ∀k,k<nR→headF (RR.drop (k*1))=some (sl (ls k))∧A.getD k 0=(ls k).length):
  Sat Pg none 0 (at' 74 [1,1,0,1,0]) (mkSt g0 22 (rcS g nR RR nN NN (0,[]))) (Qae g0 22 [(True,.exit 0,{sl:=[(3,.im nR (ints A))]})]):=by
 refine Qaw vE_ok Qaf Qab (b:=at' 74 [1,1,0,1,0,0]) (by kernel_rfl) (fun q=>q.1≤nR∧q.2=ints (A.take q.1)) (rcS g nR RR nN NN) (fun q=>nR-q.1) (fun q hq=>?_) (0,[]) ⟨Nat.zero_le _,rfl⟩
 obtain⟨k,a⟩:=q
 obtain⟨hk,ha⟩:=hq
 dsimp only at hk ha
 have hal:a.length=k:=by rw[ha];exact Qcx (by omega)
 have haf:HfL a:=by rw[ha];exact Qad _
 by_cases hlt:k<nR
 ·have hnx := Qgl (l := A) (k := k) (by omega)
  obtain⟨hld,hx⟩:=hd k hlt
  rw[←ha,hx]at hnx
  clear ha hd
  generalize ls k=L at*
  cases k with
  |zero=>
   obtain rfl:a=[]:=List.eq_nil_of_length_eq_zero hal
   refine .inl ⟨(1,[i6 L.length]),[0,2],[yes 9,pl 16,ld 17 (sl L),nu 11 (1:Nat)],1000,⟨hlt,hnx.symm⟩,by dsimp only;omega,?_⟩
   clear hnx
   exact m_ (p:=let z0:=(↑(0:Nat):Int);let z1:=(↑(1:Nat):Int);let z2:=[i6 g,V.im nR RR,V.im nN NN];An [decide (z0<(↑nR:Int))=true,An [(0:Int)≤z0,z0<(↑nR:Int)],_,wr .i64 (z0+(1:Int))=z1,An [Zz,An [Zz,1=1,Tt],z1=z1,Tt],An [z2=z2,TT 3],An [Sm [i6 ↑L.length],Tt,Tt],Tt]) ⟨aq,a_,hld,a_⟩
  |succ k=>
   refine .inl ⟨(k+2,a++[i6 L.length]),[0,3],[yes 9,pl 16,ld 17 (sl L),ap 20,nu 11 (k+2:Nat)],1000,⟨hlt,hnx.symm⟩,by dsimp only;omega,?_⟩
   clear hnx
   exact m_ (p:=let z0:=(↑(k+1):Int);let z1:=(↑(k+2):Int);let z2:=[i6 g,V.im nR RR,V.im nN NN];let z3:=[i6 ↑L.length];An [decide (z0<(↑nR:Int))=true,An [(0:Int)≤z0,z0<(↑nR:Int)],_,a.length=(k+1)*1,k+1+1≤9223372036854775807,(k+1+1)*8≤140737488355328,wr .i64 (z0+(1:Int))=z1,An [Zz,An [Zz,Nat.succ k+1=k+1+1,Tt],z1=z1,Tt],An [z2=z2,TT 3],An [Sm (a++z3),HfL (a++z3)],Tt]) ⟨aq,a_,hld,aq,aq,aq,aq,a_,a_,⟨aq,Qe0 haf ⟨trivial,trivial⟩⟩,aq⟩
 ·obtain rfl : k = nR := by omega
  have hI:ints A=a:=by rw[ha,List.take_of_length_le (by omega)]
  rw[hI]
  clear ha hd hI
  cases k with
  |zero=>
   obtain rfl:a=[]:=List.eq_nil_of_length_eq_zero hal
   refine .inr ⟨.exit 0,[],{sl:=[(3,.im 0 noL)]},[no 9],1000,.inl ⟨trivial,rfl,rfl⟩,?_⟩
   refine Eq.mp (by kernel_rfl:(An [decide ((↑(0:Nat):Int)<(↑(0:Nat):Int))=false,An [Zz,Tt],Tt])=_) ?_
   (repeat'(first|(with_reducible apply And.intro)|(refine fun(_:True)=>?_)))<;>first|exact aq|skip
   all_goals first|rfl|skip
  |succ k=>
   refine .inr ⟨.exit 0,[],{sl:=[(3,.im (k+1) a)]},[no 9],1000,.inl ⟨trivial,rfl,rfl⟩,?_⟩
   exact m_ (p:=An [decide ((↑(k+1):Int)<(↑(k+1):Int))=false,An [An [Sm (k+1),a=a,_],Tt],Tt]) ⟨aq,⟨⟨aq,aq,haf⟩,aq⟩,aq⟩
theorem rlens_im(A:List Int)(hA:A.length=nR)(hn:nR≤1000000)(ls:Nat→List Int)(hd: ∀k,k<nR→headF (RR.drop (k*1))=some (sl (ls k))∧A.getD k 0=(ls k).length):FnOk Pg g0 74 [.agg [i6 g,.im nR RR,.im nN NN]] (.im nR (ints A)):=by
 have hlp:=Qof g nR RR hRR nN NN hNN A hA hn ls hd
 have hAf:=Qad A
 clear hd
 generalize ints A=L at*
 refine FnOk.of_vc vE_ok Qaf Qab (n:=1000) (r:=[]) (S:={sl:=[(2,.im nR L)]}) (hs:=[(0,.loop [0] (rcS g nR RR nN NN (0,[])) [(True,.exit 0,{sl:=[(3,.im nR L)]})])]) ?_
 exact m_ (p:=An [Sm (V.im nR L),An [An [Zz,Tt,(↑(0:Nat):Int)=(0:Int),Tt],An [Sm [i6 g,V.im nR RR,V.im nN NN],TT 3],Tt],_,(True->An [An [An [nR=nR,L=L],Tt],Tt]),Tt]) ⟨aq,a_,hlp,a_⟩
end
def lnT(R:List (List Int)):List Int:=R.map fun L=>(L.length:Int)
theorem lnT_at{R:List (List Int)}{k:Nat}(h:k<R.length):(lnT R).getD k 0=(R.getD k []).length:=by
 unfold lnT
 rw[List.getD_eq_getElem?_getD,List.getElem?_map,List.getElem?_eq_getElem h,List.getD_eq_getElem?_getD,List.getElem?_eq_getElem h]
 rfl
theorem Qph{N:List Mc}{k:Nat}(h:k<N.length):(cdT N).getD k 0=(N.getD k mc0).c:=by
 unfold cdT
 rw[List.getD_eq_getElem?_getD,List.getElem?_map,List.getElem?_range h]
 rfl
theorem Qj8(g:Int)(R:List (List Int))(N:List Mc)(hn:N.length≤1000000):FnOk Pg g0 12 [mdV g R N] (sl (cdT N)):=by
 have h:=Qrt g R.length (rtL R) (Qar R) N.length (mcL N) (Qav N) (cdT N) (by simp[cdT]) hn (fun k hk=>by rw[Qph hk];exact Qmx hk)
 rw[show sl (cdT N)= .im N.length (ints (cdT N))by unfold sl;rw[show(cdT N).length=N.length by simp[cdT]]]
 exact h
theorem Qm8(g:Int)(R:List (List Int))(N:List Mc)(hn:R.length≤1000000):FnOk Pg g0 74 [mdV g R N] (sl (lnT R)):=by
 have h:=rlens_im g R.length (rtL R) (Qar R) N.length (mcL N) (Qav N) (lnT R) (by simp[lnT]) hn (fun k=>R.getD k []) (fun k hk=>⟨Qe9 hk,lnT_at hk⟩)
 rw[show sl (lnT R)= .im R.length (ints (lnT R))by unfold sl;rw[show(lnT R).length=R.length by simp[lnT]]]
 exact h
def swG(q:Nat→Nat)(s:Nat):Nat→Nat
 |0=>s
 |k+1=>if(swG q s k).testBit k=true then swG q s k|||q k else swG q s k
def itG(q:Nat→Nat)(n s:Nat):Nat→Nat
 |0=>s
 |m+1=>swG q (itG q n s m) n
theorem Sub.refl(a:Nat):Sub a a:=fun _ h=>h
theorem Sub.trans{a b c:Nat}(h:Sub a b)(k:Sub b c):Sub a c:=fun i hi=>k i (h i hi)
theorem Sub.orl{a b:Nat}:Sub a (a|||b):=fun i hi=>by rw[Nat.testBit_or,hi];rfl
theorem Qg3{q:Nat→Nat}{s:Nat}: ∀k,Sub s (swG q s k)
 |0=>.refl s
 |k+1=>by
  unfold swG
  split
  ·exact(Qg3 k).trans .orl
  ·exact Qg3 k
theorem Qne{q:Nat→Nat}{s k:Nat}: ∀m,Sub (swG q s k) (swG q s (k+m))
 |0=>.refl _
 |m+1=>by
  refine(Qne m).trans ?_
  show Sub _ (swG q s (k+m+1))
  rw[swG]
  split
  ·exact .orl
  ·exact .refl _
theorem Qqs{q:Nat→Nat}{n s:Nat}: ∀m,Sub s (itG q n s m)
 |0=>.refl s
 |m+1=>(Qqs m).trans (Qg3 n)
theorem Qnd{q:Nat→Nat}{n s:Nat}(hs:s<2^n)(hq: ∀k,k<n→q k<2^n): ∀k,k≤n→swG q s k<2^n
 |0,_=>hs
 |k+1,hk=>by
  unfold swG
  split
  ·exact Nat.or_lt_two_pow (Qnd hs hq k (by omega)) (hq k (by omega))
  ·exact Qnd hs hq k (by omega)
theorem Qqq{q:Nat→Nat}{n s:Nat}(hs:s<2^n)(hq: ∀k,k<n→q k<2^n): ∀m,itG q n s m<2^n
 |0=>hs
 |m+1=>Qnd (Qqq hs hq m) hq n (Nat.le_refl _)
def ClQ(q:Nat→Nat)(n s:Nat):Prop:=∀v,v<n→s.testBit v=true→Sub (q v) s
theorem swG_cl{q:Nat→Nat}{n s:Nat}(h:ClQ q n s): ∀k,k≤n→swG q s k=s
 |0,_=>rfl
 | k + 1, hk => by
  unfold swG
  rw[swG_cl h k (by omega)]
  split
  ·rename_i hb
   refine Sub.eq (fun i hi=>?_) .orl
   rw[Nat.testBit_or]at hi
   cases hs:s.testBit i with
   |true=>rfl
   |false=>
    rw[hs,Bool.false_or]at hi
    have:=h k (by omega) hb i hi
    rw[hs]at this;exact this
  ·rfl
theorem cl_swG{q:Nat→Nat}{n s:Nat}(h:swG q s n=s):ClQ q n s:=by
 intro v hv hb
 have h1:Sub (swG q s (v+1)) s:=by
  have:=Qne (q:=q) (s:=s) (k:=v+1) (n-(v+1))
  rw[show v+1+(n-(v+1))=n by omega,h]at this
  exact this
 have h2:=Qg3 (q:=q) (s:=s) v v hb
 rw[swG,if_pos h2]at h1
 exact fun i hi=>h1 i (by rw[Nat.testBit_or,hi,Bool.or_true])
def ctB(n s:Nat):Nat:=(List.range n).countP fun i=>s.testBit i
theorem ctB_le(n s:Nat):ctB n s≤n:=by
 unfold ctB
 have:=List.countP_le_length (p:=fun i=>s.testBit i) (l:=List.range n)
 rwa [List.length_range]at this
theorem Qmh{n a b:Nat}(h:Sub a b){i:Nat}(hi:i<n)(ha:a.testBit i=false)(hb:b.testBit i=true):ctB n a<ctB n b:=by
 unfold ctB
 induction n with
 |zero=>omega
 | succ n ih =>
  rw[List.range_succ,List.countP_append,List.countP_append,List.countP_singleton,List.countP_singleton]
  by_cases hin:i=n
  ·subst hin
   rw[ha,hb]
   have hle:(List.range i).countP (fun i=>a.testBit i)≤(List.range i).countP (fun i=>b.testBit i):=List.countP_mono_left fun x _ hx=>h x hx
   simp;omega
  ·have := ih (by omega)
   have hc:(if a.testBit n=true then 1 else 0)≤(if b.testBit n=true then 1 else 0):=by
    split
    ·rename_i hx;rw[if_pos (h n hx)];exact Nat.le_refl _
    ·omega
   omega
theorem Qmg{n s:Nat}(h:n≤ctB n s): ∀i,i<n→s.testBit i=true:=by
 intro i hi
 cases hb:s.testBit i with
 |true=>rfl
 |false=>
  have h1:=Qmh (n:=n) (a:=s) (b:=s|||2^i) .orl hi hb (by rw[Nat.testBit_or,Nat.testBit_two_pow_self,Bool.or_true])
  have h2:=ctB_le n (s|||2^i)
  omega
theorem itG_cl{q:Nat→Nat}{n s:Nat}(hs:s<2^n)(hq: ∀k,k<n→q k<2^n):ClQ q n (itG q n s n):=by
 have key : ∀ m, ClQ q n (itG q n s m) ∨ m ≤ ctB n (itG q n s m) := by
  intro m
  induction m with
  |zero=>exact .inr (Nat.zero_le _)
  | succ m ih =>
   rcases ih with ih|ih
   ·left
    rw[itG,swG_cl ih n (Nat.le_refl _)];exact ih
   ·by_cases he : swG q (itG q n s m) n = itG q n s m
    ·left;rw[itG,he];exact cl_swG he
    ·right
     have hsub:=Qg3 (q:=q) (s:=itG q n s m) n
     obtain⟨i,h1,h2⟩: ∃i,(itG q n s m).testBit i=false∧(swG q (itG q n s m) n).testBit i=true:=by
      by_cases hx: ∃i,(itG q n s m).testBit i=false∧(swG q (itG q n s m) n).testBit i=true
      ·exact hx
      ·refine absurd (Sub.eq (fun i hi => ?_) hsub) he
       cases hb:(itG q n s m).testBit i with
       |true=>rfl
       |false=>exact absurd ⟨i,hb,hi⟩ hx
     have hin:i<n:=by
      have hlt:=Qnd (Qqq hs hq m) hq n (Nat.le_refl _)
      rcases Nat.lt_or_ge i n with h|h
      ·exact h
      ·rw[Nat.testBit_lt_two_pow (Nat.lt_of_lt_of_le hlt (Nat.pow_le_pow_right (by decide) h))]at h2;cases h2
     have:=Qmh hsub hin h1 h2
     rw[itG];omega
 rcases key n with h|h
 ·exact h
 ·intro v hv _ i hi
  have hin:i<n:=by
   rcases Nat.lt_or_ge i n with h'|h'
   ·exact h'
   ·rw[Nat.testBit_lt_two_pow (Nat.lt_of_lt_of_le (hq v hv) (Nat.pow_le_pow_right (by decide) h'))]at hi;cases hi
  exact Qmg h i hin
section
variable {l:List Nat} {w n s:Nat} {q:Nat→Nat} (hq: ∀k,k<n→q k=l.getD k 0&&& w)
include hq
theorem Qi2: ∀k,k≤n→∀b,(swG q s k).testBit b=true→∃a,s.testBit a=true∧Rch l w a b
 |0,_,b,h=>⟨b,h,.refl b⟩
 | k + 1, hk, b, h => by
  unfold swG at h
  split at h
  ·rename_i hb
   rw[Nat.testBit_or,Bool.or_eq_true]at h
   rcases h with h|h
   ·exact Qi2 k (by omega) b h
   ·obtain ⟨a, h1, h2⟩ := Qi2 k (by omega) k hb
    rw[hq k (by omega),Nat.testBit_and,Bool.and_eq_true]at h
    exact⟨a,h1,h2.step h.1 h.2⟩
  ·exact Qi2 k (by omega) b h
theorem Qqr: ∀m b,(itG q n s m).testBit b=true→∃a,s.testBit a=true∧Rch l w a b
 |0,b,h=>⟨b,h,.refl b⟩
 |m+1,b,h=>by
  obtain⟨a,h1,h2⟩:=Qi2 hq n (Nat.le_refl _) b h
  obtain⟨c,h3,h4⟩:=Qqr m a h1
  exact⟨c,h3,h4.trans h2⟩
theorem Qqp(hs:s<2^n)(hw: ∀k,k<n→q k<2^n)(b:Nat):(itG q n s n).testBit b=true↔∃a,s.testBit a=true∧Rch l w a b:=by
 constructor
 ·exact Qqr hq n b
 ·rintro ⟨a, h1, h2⟩
  have hcl:=itG_cl hs hw
  have hlt:=Qqq hs hw n
  induction h2 with
  |refl=>exact Qqs n _ h1
  | step _ h3 h4 ih =>
   rename_i b c _
   have hbn:b<n:=by
    rcases Nat.lt_or_ge b n with h|h
    ·exact h
    ·rw[Nat.testBit_lt_two_pow (Nat.lt_of_lt_of_le hlt (Nat.pow_le_pow_right (by decide) h))]at ih;cases ih
   refine hcl b hbn ih c ?_
   rw[hq b hbn,Nat.testBit_and,h3,h4];rfl
end
def acR(p:List Nat):Bool:=(List.range p.length).all fun v=> !(itG (fun k=>p.getD k 0) p.length (p.getD v 0) p.length).testBit v
section
variable {p:List Nat} (hp: ∀k,k<p.length→p.getD k 0<2^p.length)
include hp
theorem Qnh{v:Nat}(hv:v<p.length)(b:Nat):(itG (fun k=>p.getD k 0) p.length (p.getD v 0) p.length).testBit b=true↔∃a,(p.getD v 0).testBit a=true∧Rch p (alN p.length) a b:=by
 refine Qqp (fun k hk=>?_) (hp v hv) hp b
 refine Nat.eq_of_testBit_eq fun i=>?_
 rw[Nat.testBit_and,Qib]
 cases hb:(p.getD k 0).testBit i with
 |false=>rfl
 | true =>
  have:i<p.length:=by
   rcases Nat.lt_or_ge i p.length with h|h
   ·exact h
   ·rw[Nat.testBit_lt_two_pow (Nat.lt_of_lt_of_le (hp k hk) (Nat.pow_le_pow_right (by decide) h))]at hb;cases hb
  rw[decide_eq_true this];rfl
theorem bit_n{v a:Nat}(hv:v<p.length)(h:(p.getD v 0).testBit a=true):a<p.length:=by
 rcases Nat.lt_or_ge a p.length with h'|h'
 ·exact h'
 ·rw[Nat.testBit_lt_two_pow (Nat.lt_of_lt_of_le (hp v hv) (Nat.pow_le_pow_right (by decide) h'))]at h;cases h
theorem Qe2:acR p=true↔Acy p:=by
 unfold acR
 rw[List.all_eq_true]
 constructor
 ·intro h
  refine⟨fun v=>ctB p.length (itG (fun k=>p.getD k 0) p.length (p.getD v 0) p.length),fun u hu v hv=>?_⟩
  have hvn:=bit_n hp hu hv
  refine⟨hvn,Qmh (fun i hi=>?_) hvn ?_ ?_⟩
  ·obtain ⟨a, h1, h2⟩ := (Qnh hp hvn i).1 hi
   exact(Qnh hp hu i).2 ⟨v,hv,(Rch.step (.refl v) h1 (by rw[Qib];exact decide_eq_true (bit_n hp hvn h1))).trans h2⟩
  ·have := h v (List.mem_range.2 hvn)
   simpa using this
  ·exact(Qnh hp hu v).2 ⟨v,hv,.refl v⟩
 ·rintro ⟨rk, hr⟩ v hv
  have hv:=List.mem_range.1 hv
  cases hb:(itG (fun k=>p.getD k 0) p.length (p.getD v 0) p.length).testBit v with
  |false=>rfl
  | true =>
   obtain⟨a,h1,h2⟩:=(Qnh hp hv v).1 hb
   have key: ∀a b,Rch p (alN p.length) a b→a<p.length→b<p.length∧rk b≤rk a:=by
    intro a b h ha
    induction h with
    |refl=>exact⟨ha,Nat.le_refl _⟩
    |step _ h3 h4 ih=>
     obtain⟨i1,i2⟩:=ih
     obtain⟨j1,j2⟩:=hr _ i1 _ h3
     exact⟨j1,by omega⟩
   obtain⟨k1,k2⟩:=hr v hv a h1
   have:=(key a v h2 k1).2
   omega
end
theorem Qr9{G:Ctx}{t:Nat}{x k:Nat}(hk:k≤64):binV G .shr t (u6 (x:Int)) (u6 (k:Int))=some (u6 ((x/2^k:Nat):Int)):=by
 grind[binV,intV,IntKind.bits]
theorem wrk{k:Nat}(h:k<64):wr .u64 (k:Int)=(k:Int):=by grind[wr_eq,Qez]
theorem Qd0(s v:Nat)(hv:v<64):FnOk Pg g0 63 [u6 (s:Nat),i6 (v:Nat)] (.bool (s.testBit v)):=by
 have w1:=wrk hv
 have s1:=Qr9 (G:=Qac Pg) (t:=29) (x:=s) (k:=v) (by omega)
 have s2:=Qc6 (G:=Qac Pg) (t:=29) (x:=s/2^v)
 cases hb:s.testBit v with
 |true=>
  have hbe:s/2^v%2=1:=by rw[Qbx,hb];rfl
  rw[hbe]at s2
  generalize s/2^v=x1 at*
  refine FnOk.of_vc vE_ok Qaf Qab (n:=1000) (r:=[]) (S:={sl:=[(4,.bool true)]}) (hs:=[nu 7 (v:Nat),va 8 (u6 (x1:Nat)),va 9 (u6 (1:Nat)),yes 10]) ?_
  clear hb hbe
  exact m_ (p:=An [Sm (V.bool true),_,_,_,((↑(1:Nat):Int)==(1:Int))=true,An [Sm true,Tt],Tt]) ⟨aq,w1,s1,s2,a_⟩
 |false=>
  have hbe:s/2^v%2=0:=by rw[Qbx,hb];rfl
  rw[hbe]at s2
  generalize s/2^v=x1 at*
  refine FnOk.of_vc vE_ok Qaf Qab (n:=1000) (r:=[]) (S:={sl:=[(4,.bool false)]}) (hs:=[nu 7 (v:Nat),va 8 (u6 (x1:Nat)),va 9 (u6 (0:Nat)),no 10]) ?_
  clear hb hbe
  exact m_ (p:=An [Sm (V.bool false),_,_,_,((↑(0:Nat):Int)==(1:Int))=false,An [Sm false,Tt],Tt]) ⟨aq,w1,s1,s2,a_⟩
section
variable (p:List Nat) (hl:p.length≤64) (h64:S64 p)
include hl h64
theorem Qnc{s:Nat}(hs:s<18446744073709551616): ∀k,swG (fun k=>p.getD k 0) s k<18446744073709551616
 |0=>hs
 |k+1=>by
  unfold swG
  split
  ·exact Nat.or_lt_two_pow (n:=64) (Qnc hs k) (h64.get k)
  ·exact Qnc hs k
theorem itG_64{s n:Nat}(hs:s<18446744073709551616): ∀m,itG (fun k=>p.getD k 0) n s m<18446744073709551616
 |0=>hs
 |m+1=>Qnc p hl h64 (itG_64 hs m) n
abbrev upI(p:List Nat)(n s m k:Nat):SL:={sl:=[(0,.im n (ut p)),(1,u6 (swG (fun k=>p.getD k 0) s k:Nat)),(5,i6 (m:Nat)),(6,i6 (k:Nat))]}
theorem up_in(n s m:Nat)(hn:p.length=n)(hs:s<18446744073709551616):
  Sat Pg none 0 (at' 75 [1,0,1,0,0,1,0,0,1,0]) (mkSt g0 29 (upI p n s m 0)) (Qae g0 29 [(True,.exit 2,{sl:=[(0,.im n (ut p)),(1,u6 (swG (fun k=>p.getD k 0) s n:Nat)),(5,i6 (m:Nat))]})]):=by
 have hp:=Qag p
 refine Qaw vE_ok Qaf Qab (b:=at' 75 [1,0,1,0,0,1,0,0,1,0,0]) (by kernel_rfl) (fun k=>k≤n) (upI p n s m) (fun k=>n-k) (fun k hk=>?_) 0 (Nat.zero_le _)
 by_cases hlt:k<n
 ·have s0 := Qa0 (l := p) (k := k) (by omega)
  have h1:=Qd0 (swG (fun k=>p.getD k 0) s k) k (by omega)
  have h2:=Qnc p hl h64 hs k
  have h3:=(or_u (G:=Qac Pg) (t:=29) h2 (h64.get k)).1
  have e:swG (fun k=>p.getD k 0) s (k+1)=if(swG (fun k=>p.getD k 0) s k).testBit k=true then swG (fun k=>p.getD k 0) s k|||p.getD k 0 else swG (fun k=>p.getD k 0) s k:=rfl
  cases hb:(swG (fun k=>p.getD k 0) s k).testBit k with
  |true=>
   rw[hb,if_pos rfl]at e
   rw[hb]at h1
   rw[←e]at h3
   clear e hb h2
   refine .inl ⟨k+1,[],[yes 16,fn 21 (.bool true),pl 25,ld 26 (u6 (p.getD k 0:Nat)),va 27 (u6 (swG (fun k=>p.getD k 0) s (k+1):Nat)),nu 18 ((k+1:Nat):Int)],1000,by omega,by omega,?_⟩
   unfold upI
   generalize swG (fun k=>p.getD k 0) s (k+1)=y2 at*
   generalize swG (fun k=>p.getD k 0) s k=y1 at*
   generalize p.getD k 0=y at*
   exact m_ (p:=let z0:=(↑(k+1):Int);let z1:=(↑k:Int);An [decide (z1<(↑n:Int))=true,TT 2,_,Tt,An [(0:Int)≤z1,z1<(↑n:Int)],_,_,wr .i64 (z1+(1:Int))=z0,An [An [n=n,Sm (ut p)],Sm (↑y2:Int),Sm (↑m:Int),z0=z0,Tt],Tt]) ⟨aq,aq,h1,aq,a_,s0,h3,a_⟩
  |false=>
   rw[hb,if_neg (by simp)]at e
   rw[hb]at h1
   refine .inl ⟨k+1,[],[yes 16,fn 21 (.bool false),nu 18 ((k+1:Nat):Int)],1000,by omega,by omega,?_⟩
   unfold upI
   rw[e]
   clear e hb h2 h3
   generalize swG (fun k=>p.getD k 0) s k=y1 at*
   exact m_ (p:=An [decide ((↑k:Int)<(↑n:Int))=true,TT 2,_,Tt,wr .i64 ((↑k:Int)+(1:Int))=(↑(k+1):Int),An [An [n=n,Sm (ut p)],Sm (↑y1:Int),Sm (↑m:Int),Sm (↑(k+1):Int),Tt],Tt]) ⟨aq,aq,h1,a_⟩
 ·obtain rfl : k = n := by omega
  refine .inr ⟨.exit 2,[],{sl:=[(0,.im k (ut p)),(1,u6 (swG (fun k=>p.getD k 0) s k:Nat)),(5,i6 (m:Nat))]},[no 16],1000,.inl ⟨trivial,rfl,rfl⟩,?_⟩
  unfold upI
  generalize swG (fun k=>p.getD k 0) s k=y1 at*
  refine Eq.mp (by kernel_rfl:(An [decide ((↑k:Int)<(↑k:Int))=false,An [An [k=k,Sm (ut p)],Sm (↑y1:Int),Sm (↑m:Int),Tt],Tt])=_) ?_
  (repeat'(first|(with_reducible apply And.intro)|(refine fun(_:True)=>?_)))<;>first|exact aq|skip
  all_goals skip
abbrev upO(p:List Nat)(n s m:Nat):SL:={sl:=[(0,.im n (ut p)),(1,u6 (itG (fun k=>p.getD k 0) n s m:Nat)),(5,i6 (m:Nat))]}
theorem up_out(n s:Nat)(hn:p.length=n)(hs:s<18446744073709551616):
  Sat Pg none 0 (at' 75 [1,0,1,0]) (mkSt g0 29 (upO p n s 0)) (Qae g0 29 [(True,.exit 0,{sl:=[(1,u6 (itG (fun k=>p.getD k 0) n s n:Nat))]})]):=by
 have hp:=Qag p
 refine Qaw vE_ok Qaf Qab (b:=at' 75 [1,0,1,0,0]) (by kernel_rfl) (fun k=>k≤n) (upO p n s) (fun k=>n-k) (fun m hm=>?_) 0 (Nat.zero_le _)
 by_cases hlt:m<n
 ·have h2 := itG_64 p hl h64 (n := n) hs m
  have hin:=up_in p hl h64 n (itG (fun k=>p.getD k 0) n s m) m hn h2
  refine .inl ⟨m+1,[],[yes 10,(0,.loop [] (upI p n (itG (fun k=>p.getD k 0) n s m) m 0) [(True,.exit 2,{sl:=[(0,.im n (ut p)),(1,u6 (itG (fun k=>p.getD k 0) n s (m+1):Nat)),(5,i6 (m:Nat))]})]),nu 12 ((m+1:Nat):Int)],1000,by omega,by omega,?_⟩
  have e:itG (fun k=>p.getD k 0) n s (m+1)=swG (fun k=>p.getD k 0) (itG (fun k=>p.getD k 0) n s m) n:=rfl
  rw[←e]at hin
  unfold upO upI at*
  rw[show swG (fun k=>p.getD k 0) (itG (fun k=>p.getD k 0) n s m) 0=itG (fun k=>p.getD k 0) n s m from rfl]at*
  clear e h2
  generalize itG (fun k=>p.getD k 0) n s (m+1)=y2 at*
  generalize itG (fun k=>p.getD k 0) n s m=y1 at*
  exact m_ (p:=let z0:=(↑(m+1):Int);let z1:=(↑m:Int);An [decide (z1<(↑n:Int))=true,An [An [An [n=n,Sm (ut p)],Sm (↑y1:Int),z1=z1,(↑(0:Nat):Int)=(0:Int),Tt],Tt],_,(True->An [wr .i64 (z1+(1:Int))=z0,An [An [n=n,Sm (ut p)],Sm (↑y2:Int),z0=z0,Tt],Tt]),Tt]) ⟨aq,a_,hin,a_⟩
 ·obtain rfl : m = n := by omega
  refine .inr ⟨.exit 0,[],{sl:=[(1,u6 (itG (fun k=>p.getD k 0) m s m:Nat))]},[no 10],1000,.inl ⟨trivial,rfl,rfl⟩,?_⟩
  unfold upO
  generalize itG (fun k=>p.getD k 0) m s m=y1 at*
  refine Eq.mp (by kernel_rfl:(An [decide ((↑m:Int)<(↑m:Int))=false,An [Sm (↑y1:Int),Tt],Tt])=_) ?_
  (repeat'(first|(with_reducible apply And.intro)|(refine fun(_:True)=>?_)))<;>first|exact aq|skip
  all_goals skip
theorem up05_fn(s:Nat)(hs:s<18446744073709551616):FnOk Pg g0 75 [ul p,u6 (s:Nat)] (u6 (itG (fun k=>p.getD k 0) p.length s p.length:Nat)):=by
 have hp:=Qag p
 have h:=up_out p hl h64 p.length s rfl hs
 generalize hn:p.length=n at*
 refine FnOk.of_vc vE_ok Qaf Qab (n:=1000) (r:=[]) (S:={sl:=[(4,u6 (itG (fun k=>p.getD k 0) n s n:Nat))]}) (hs:=[(0,.loop [] {sl:=[(0,.im n (ut p)),(1,u6 (s:Nat)),(5,i6 (0:Nat))]} [(True,.exit 0,{sl:=[(1,u6 (itG (fun k=>p.getD k 0) n s n:Nat))]})])]) ?_
 have h':Sat Pg none 0 (at' 75 [1,0,1,0]) (mkSt g0 29 {sl:=[(0,.im n (ut p)),(1,u6 (s:Nat)),(5,i6 (0:Nat))]}) (Qae g0 29 [(True,.exit 0,{sl:=[(1,u6 (itG (fun k=>p.getD k 0) n s n:Nat))]})]):=h
 clear h
 generalize itG (fun k=>p.getD k 0) n s n=y1 at*
 exact m_ (p:=An [Sm (u6 ↑y1),An [An [An [_,Sm (ut p)],Sm (↑s:Int),(↑(0:Nat):Int)=(0:Int),Tt],Tt],_,(True->An [An [Sm (↑y1:Int),Tt],Tt]),Tt]) ⟨aq,⟨⟨⟨hn.symm,aq⟩,a_⟩,aq⟩,h',a_⟩
abbrev acyS(p:List Nat)(n v:Nat):SL:={sl:=[(0,.im n (ut p)),(3,i6 (v:Nat))]}
theorem Qoz(n:Nat)(hn:p.length=n):
  Sat Pg none 0 (at' 38 [1,0,1,0]) (mkSt g0 18 (acyS p n 0)) (Qae g0 18 [(acR p=true,.exit 0,{sl:=[]}),(acR p=false,.ret,{sl:=[(2,.bool false)]})]):=by
 have hp:=Qag p
 have hn64:n≤64:=by omega
 refine Qaw vE_ok Qaf Qab (b:=at' 38 [1,0,1,0,0]) (by kernel_rfl) (fun k=>k≤n∧∀i,i<k→(itG (fun k=>p.getD k 0) p.length (p.getD i 0) p.length).testBit i=false) (acyS p n) (fun k=>n-k) (fun v hv=>?_) 0 ⟨Nat.zero_le _,fun i h=>absurd h (Nat.not_lt_zero _)⟩
 obtain⟨hv,hin⟩:=hv
 by_cases hlt:v<n
 ·have s0 := Qa0 (l := p) (k := v) (by omega)
  have h1:=up05_fn p hl h64 (p.getD v 0) (h64.get v)
  have h2:=Qd0 (itG (fun k=>p.getD k 0) p.length (p.getD v 0) p.length) v (by omega)
  cases hb:(itG (fun k=>p.getD k 0) p.length (p.getD v 0) p.length).testBit v with
  | true =>
   have hf:acR p=false:=by
    cases ha:acR p with
    |false=>rfl
    |true=>
     have:=List.all_eq_true.1 ha v (List.mem_range.2 (by omega))
     simp_all
   rw[hb]at h2
   refine .inr ⟨.ret,[],{sl:=[(2,.bool false)]},[yes 7,pl 13,ld 14 (u6 (p.getD v 0:Nat)),fn 15 (u6 (itG (fun k=>p.getD k 0) p.length (p.getD v 0) p.length:Nat)),fn 17 (.bool true)],1000,.inr (.inl ⟨hf,rfl,rfl⟩),?_⟩
   clear hf hin hb
   generalize itG (fun k=>p.getD k 0) p.length (p.getD v 0) p.length=y1 at*
   generalize p.getD v 0=y at*
   unfold ul at*
   rw[hn]at*
   exact m_ (p:=let z2:=(↑v:Int);An [decide (z2<(↑n:Int))=true,An [(0:Int)≤z2,z2<(↑n:Int)],_,TT 2,_,Tt,TT 2,_,An [V.fn 75 []=V.fn 63 []→[V.im n (ut p),u6 ↑y]=[(u6 ↑y1),i6 ↑v]→ofOs T.e 0 []=ofOs T.e 0 []→0=0→CR.mk (u6 ↑y1) (ofOs T.e 0 []) 0 []=CR.mk (V.bool true) (ofOs T.e 0 []) 0 [],Tt],An [Sm false,Tt],Tt]) ⟨aq,a_,s0,aq,h1,aq,aq,h2,a_⟩
  | false =>
   have hnx: ∀i,i<v+1→(itG (fun k=>p.getD k 0) p.length (p.getD i 0) p.length).testBit i=false:=fun i hi=>by
    grind
   rw[hb]at h2
   refine .inl ⟨v+1,[],[yes 7,pl 13,ld 14 (u6 (p.getD v 0:Nat)),fn 15 (u6 (itG (fun k=>p.getD k 0) p.length (p.getD v 0) p.length:Nat)),fn 17 (.bool false),nu 9 ((v+1:Nat):Int)],1000,⟨hlt,hnx⟩,by omega,?_⟩
   clear hin hb hnx
   generalize itG (fun k=>p.getD k 0) p.length (p.getD v 0) p.length=y1 at*
   generalize p.getD v 0=y at*
   unfold ul at*
   rw[hn]at*
   exact m_ (p:=let z0:=(↑(v+1):Int);let z1:=(↑v:Int);An [decide (z1<(↑n:Int))=true,An [(0:Int)≤z1,z1<(↑n:Int)],_,TT 2,_,Tt,TT 2,_,An [V.fn 75 []=V.fn 63 []→[V.im n (ut p),u6 ↑y]=[(u6 ↑y1),i6 ↑v]→ofOs T.e 0 []=ofOs T.e 0 []→0=0→CR.mk (u6 ↑y1) (ofOs T.e 0 []) 0 []=CR.mk (V.bool false) (ofOs T.e 0 []) 0 [],Tt],wr .i64 (z1+(1:Int))=z0,An [An [_,Sm (ut p)],z0=z0,Tt],Tt]) ⟨aq,a_,s0,aq,h1,aq,aq,h2,a_,aq,⟨⟨hn,aq⟩,a_⟩,aq⟩
 ·obtain rfl : v = n := by omega
  have hf:acR p=true:=by
   unfold acR
   rw[List.all_eq_true]
   intro i hi
   have:=List.mem_range.1 hi
   rw[hin i (by omega)];rfl
  refine .inr ⟨.exit 0,[],{sl:=[]},[no 7],1000,.inl ⟨hf,rfl,rfl⟩,?_⟩
  clear hf hin
  refine Eq.mp (by kernel_rfl:(An [decide ((↑v:Int)<(↑v:Int))=false,Tt,Tt])=_) ?_
  (repeat'(first|(with_reducible apply And.intro)|(refine fun(_:True)=>?_)))<;>first|exact aq|skip
  all_goals skip
theorem Qoy:FnOk Pg g0 38 [ul p] (.bool (acR p)):=by
 have hp:=Qag p
 have h:=Qoz p hl h64 p.length rfl
 generalize hn:p.length=n at*
 generalize acR p=b at*
 refine FnOk.of_vc vE_ok Qaf Qab (n:=1000) (r:=[]) (S:={sl:=[(2,.bool b)]}) (hs:=[(0,.loop [] (acyS p n 0) [(b=true,.exit 0,{sl:=[]}),(b=false,.ret,{sl:=[(2,.bool false)]})])]) ?_
 exact m_ (p:=An [Sm (V.bool b),An [An [An [_,Sm (ut p)],(↑(0:Nat):Int)=(0:Int),Tt],Tt],_,b=true→An [An [b=true,Tt],Tt],b=false→An [An [b=false,Tt],Tt],Tt]) ⟨aq,⟨⟨⟨hn.symm,aq⟩,a_⟩,aq⟩,h,a_⟩
end
def prodT(cs:List Int):Nat→Int
 |0=>1
 |k+1=>prodT cs k*cs.getD k 0
theorem Qbz{l:List Int}{k:Nat}{x:Int}(h:k<l.length):(l.set k x).getD k 0=x:=by
 rw[List.getD_eq_getElem?_getD,List.getElem?_set_self h];rfl
theorem Qbp{l:List Int}{k j:Nat}{x:Int}(h:k≠j):(l.set k x).getD j 0=l.getD j 0:=by
 rw[List.getD_eq_getElem?_getD,List.getElem?_set_ne h,←List.getD_eq_getElem?_getD]
def nxV(cs:List Int):List Int→Nat→List Int
 |vs,0=>vs
 |vs,k+1=>if vs.getD k 0=cs.getD k 0-1 then nxV cs (vs.set k 0) k else vs.set k (vs.getD k 0+1)
def nxB(cs:List Int):List Int→Nat→Bool
 | _,0=>false
 |vs,k+1=>if vs.getD k 0=cs.getD k 0-1 then nxB cs (vs.set k 0) k else true
theorem Qrd(cs:List Int): ∀(k:Nat)(vs:List Int),(nxV cs vs k).length=vs.length
 |0,_=>rfl
 |k+1,vs=>by
  unfold nxV
  split
  ·rw[Qrd cs k];simp
  ·simp
def valT(cs vs:List Int)(k:Nat):Prop:=∀i,i<k→0≤vs.getD i 0∧vs.getD i 0<cs.getD i 0
def idxT(cs vs:List Int):Nat→Int
 |0=>0
 |k+1=>idxT cs vs k*cs.getD k 0+vs.getD k 0
theorem Qio{cs:List Int}: ∀{k j:Nat}{vs:List Int}{x:Int},k≤j→idxT cs (vs.set j x) k=idxT cs vs k
 |0,_,_,_,_=>rfl
 |k+1,j,vs,x,h=>by
  unfold idxT
  rw[Qio (by omega),Qbp (by omega)]
theorem Qqn{cs:List Int}: ∀{k:Nat}{vs:List Int},valT cs vs k→0≤idxT cs vs k∧idxT cs vs k<prodT cs k
 |0,_,_=>⟨Int.le_refl _,by show(0:Int)<1;decide⟩
 |k+1,vs,h=>by
  have ih:=@Qqn cs k vs (fun i hi=>h i (by omega))
  have hk:=h k (by omega)
  have h1:=Int.mul_nonneg ih.1 (show 0≤cs.getD k 0 by omega)
  have h2:=Int.mul_le_mul_of_nonneg_right (show idxT cs vs k+1≤prodT cs k by omega) (show 0≤cs.getD k 0 by omega)
  rw[Int.add_mul]at h2
  unfold idxT prodT
  omega
theorem Qla{cs:List Int}: ∀{k:Nat}{vs:List Int},valT cs vs k→k≤vs.length→(nxB cs vs k=true→valT cs (nxV cs vs k) k∧idxT cs (nxV cs vs k) k=idxT cs vs k+1)∧(nxB cs vs k=false→idxT cs vs k+1=prodT cs k)
 |0,vs,_,_=>⟨fun h=>(by cases h),fun _=>rfl⟩
 | k + 1, vs, h, hl => by
  have hk:=h k (by omega)
  have hr:valT cs vs k:=fun i hi=>h i (by omega)
  unfold nxB nxV
  by_cases he:vs.getD k 0=cs.getD k 0-1
  ·rw [if_pos he, if_pos he]
   have hs:valT cs (vs.set k 0) k:=fun i hi=>by rw[Qbp (by omega)];exact hr i hi
   have ih:=@Qla cs k (vs.set k 0) hs (by simp;omega)
   rw[Qio (Nat.le_refl _)]at ih
   have hg: ∀(k':Nat)(w:List Int),k'≤k→(nxV cs w k').getD k 0=w.getD k 0:=by
    intro k'
    induction k' with
    |zero=>intro w _;rfl
    |succ k' ihk=>
     intro w hw
     unfold nxV
     split
     ·rw[ihk _ (by omega),Qbp (by omega)]
     ·rw[Qbp (by omega)]
   have hz:(nxV cs (vs.set k 0) k).getD k 0=0:=by rw[hg k _ (Nat.le_refl _),Qbz (by omega)]
   refine⟨fun hb=>?_,fun hb=>?_⟩
   ·obtain ⟨h1, h2⟩ := ih.1 hb
    refine⟨fun i hi=>?_,?_⟩
    ·by_cases hik : i = k
     ·subst hik;rw[hz];omega
     ·exact h1 i (by omega)
    ·unfold idxT
     rw[h2,hz,he,Int.add_mul]
     omega
   ·have h2 := ih.2 hb
    unfold idxT prodT
    rw[←h2,he,Int.add_mul]
    omega
  ·rw [if_neg he, if_neg he]
   refine⟨fun _=>⟨fun i hi=>?_,?_⟩,fun hb=>by cases hb⟩
   ·by_cases hik : i = k
    ·subst hik;rw[Qbz (by omega)];omega
    ·rw[Qbp (by omega)];exact h i hi
   ·unfold idxT
    rw[Qio (Nat.le_refl _),Qbz (by omega)]
    omega
def cmb(cs:List Int):Nat→List Int
 |0=>List.replicate cs.length 0
 |j+1=>nxV cs (cmb cs j) cs.length
theorem Qe5(cs:List Int): ∀j,(cmb cs j).length=cs.length
 |0=>by simp[cmb]
 |j+1=>by rw[cmb,Qrd,Qe5 cs j]
theorem Qmv(n k:Nat):(List.replicate n (0:Int)).getD k 0=0:=by
 rw[List.getD_eq_getElem?_getD,List.getElem?_replicate];split<;>rfl
theorem Qjt(cs:List Int): ∀k,idxT cs (List.replicate cs.length 0) k=0
 |0=>rfl
 |k+1=>by unfold idxT;rw[Qjt cs k,Qmv];simp
theorem Qmf{cs:List Int}(hc: ∀i,i<cs.length→1≤cs.getD i 0): ∀{j:Nat},(j:Int)<prodT cs cs.length→valT cs (cmb cs j) cs.length∧idxT cs (cmb cs j) cs.length=j
 |0,_=>⟨fun i hi=>by rw[cmb,Qmv];have:=hc i hi;omega,by rw[cmb,Qjt];rfl⟩
 |j+1,h=>by
  obtain⟨h1,h2⟩:=@Qmf cs hc j (by omega)
  have hs:=Qla h1 (by rw[Qe5];exact Nat.le_refl _)
  cases hb:nxB cs (cmb cs j) cs.length with
  |true=>obtain⟨a,b⟩:=hs.1 hb;exact⟨a,by rw[cmb,b,h2];omega⟩
  |false=>have:=hs.2 hb;omega
theorem cmb_more{cs:List Int}(hc: ∀i,i<cs.length→1≤cs.getD i 0){j:Nat}(h:(j:Int)<prodT cs cs.length):nxB cs (cmb cs j) cs.length=decide ((j:Int)+1<prodT cs cs.length):=by
 obtain⟨h1,h2⟩:=Qmf hc h
 have hs:=Qla h1 (by rw[Qe5];exact Nat.le_refl _)
 cases hb:nxB cs (cmb cs j) cs.length with
 |true=>
  obtain⟨a,b⟩:=hs.1 hb
  have:=Qqn a
  rw[decide_eq_true (by omega)]
 |false=>
  have:=hs.2 hb
  rw[decide_eq_false (by omega)]
def mkC(cs:List Int)(s:Nat):List Int:=(List.range cs.length).map fun i=>if s.testBit i then cs.getD i 0 else 1
section
variable (cs:List Int) (s q:Nat) (hq:cs.length=q) (hs64:s<18446744073709551616) (h12:q≤8) (hc: ∀i,i<q→1≤cs.getD i 0∧cs.getD i 0≤4) (P:Nat) (hP:(P:Int)=prodT (mkC cs s) q) (E:Nat) (hE1:1≤E) (hE2:E≤P) (F:Nat→Bool) (hF: ∀j,j+1<E→F j=true) (hl:F (E-1)=true→E=P)
include hq hs64 h12 hc hP hE1 hE2 hF hl
end
section
variable (cs:List Int) (s q:Nat) (hq:cs.length=q) (hs64:s<18446744073709551616) (h12:q≤8) (hc: ∀i,i<q→1≤cs.getD i 0∧cs.getD i 0≤4) (P:Nat) (hP:(P:Int)=prodT (mkC cs s) q) (hP1:1≤P)
include hq hs64 h12 hc hP hP1
end
section
variable (g:Int) (R:List (List Int)) (N:List Mc) (hg:1≤g∧g≤12) (hn:R.length≤8)
include hg hn
end
def sameB(N M:List Mc):Bool:=decide (cdT N=cdT M)
section
variable (g g':Int) (R R':List (List Int)) (N M:List Mc) (hq:N.length≤1000000) (hl:N.length=M.length)
include hq hl
end
section
variable (g:Int) (R:List (List Int)) (N:List Mc) (hq:N.length≤5)
include hq
end
section
variable (cs v:List Int) (s q c:Nat) (hq:cs.length=q) (hs64:s<18446744073709551616) (h12:q≤5) (hc: ∀i,i<cs.length→1≤cs.getD i 0∧cs.getD i 0≤4) (hvl:v.length=q) (hv: ∀k,k<cs.length→0≤v.getD k 0∧v.getD k 0<cs.getD k 0)
include hq hs64 h12 hc hvl hv
end
section
variable (cs:List Int) (s al c h P:Nat) (a b w:List Int) (hs64:s<18446744073709551616) (h12:cs.length≤5) (hc: ∀i,i<cs.length→1≤cs.getD i 0∧cs.getD i 0≤4) (hP:(P:Int)=prodT (mkC cs s) cs.length) (hw:(w.length:Int)=prodT cs cs.length) (hwb: ∀i,i<w.length→0≤w.getD i 0∧w.getD i 0≤500000000000) (h6:6<h) (hhc:h<c)
include hs64 h12 hc hP hw hwb h6 hhc
end
section
variable (R:List (List Int)) (L:List Int)
end
abbrev mdO(g:Int)(n:Nat)(R:List V)(q:Nat)(N:List V):O:=.row 34 none [i6 g,.im n R,.im q N]
section
variable (ga:Int) (na:Nat) (RA:List V) (gb:Int) (nb:Nat) (RB:List V) (q:Nat) (NA NB:List V) (cs:List Int) (xs ys:Nat) (vals:List Int)
variable (hRA:HfL RA) (hRB:HfL RB) (hNA:HfL NA) (hNB:HfL NB) (h5:q≤5) (hcl:cs.length=q) (hvl:vals.length=q)
include hRA hRB hNA hNB h5 hcl hvl
end
section
variable (ga:Int) (na:Nat) (RA:List V) (gb:Int) (nb:Nat) (RB:List V) (q:Nat) (NA NB:List V) (cs:List Int) (xs:Nat) (vals:List Int) (X Y:List Int) (P:Nat) (wA wB:Int)
variable (hRA:HfL RA) (hRB:HfL RB) (hNA:HfL NA) (hNB:HfL NB) (h5:q≤5) (hcl:cs.length=q) (hvl:vals.length=q) (hX:X.length=P) (hY:Y.length=P) (hP:P≤1024)
 (hXb: ∀i,i<P→0≤X.getD i 0∧X.getD i 0≤429981696) (hYb: ∀i,i<P→0≤Y.getD i 0∧Y.getD i 0≤429981696) (hwA:1≤wA∧wA≤429981696) (hwB:1≤wB∧wB≤429981696)
include hRA hRB hNA hNB h5 hcl hvl hX hY hP hXb hYb hwA hwB
end
section
variable (q xs:Nat) (vals:List Int) (h5:q≤5) (hvl:vals.length=q)
include h5 hvl
end
section
variable (ga:Int) (na:Nat) (RA:List V) (gb:Int) (nb:Nat) (RB:List V) (q:Nat) (NA NB:List V) (cs:List Int) (xs:Nat) (vals:List Int) (X Y:List Int) (P:Nat) (wA wB:Int)
variable (hRA:HfL RA) (hRB:HfL RB) (hNA:HfL NA) (hNB:HfL NB) (h5:q≤5) (hcl:cs.length=q) (hvl:vals.length=q) (hX:X.length=P) (hY:Y.length=P) (hP:P≤1024)
 (hXb: ∀i,i<P→0≤X.getD i 0∧X.getD i 0≤429981696) (hYb: ∀i,i<P→0≤Y.getD i 0∧Y.getD i 0≤429981696) (hwA:1≤wA∧wA≤429981696) (hwB:1≤wB∧wB≤429981696)
include hRA hRB hNA hNB h5 hcl hvl hX hY hP hXb hYb hwA hwB
end
section
variable (ga:Int) (na:Nat) (RA:List V) (gb:Int) (nb:Nat) (RB:List V) (q:Nat) (NA NB:List V) (cs:List Int) (xs ys:Nat) (vals:List Int) (X Y:List Int) (P:Nat) (wA wB:Int)
variable (hRA:HfL RA) (hRB:HfL RB) (hNA:HfL NA) (hNB:HfL NB) (h5:q≤5) (hcl:cs.length=q) (hvl:vals.length=q) (hX:X.length=P) (hY:Y.length=P) (hP:P≤1024)
 (hXb: ∀i,i<P→0≤X.getD i 0∧X.getD i 0≤429981696) (hYb: ∀i,i<P→0≤Y.getD i 0∧Y.getD i 0≤429981696) (hwA:1≤wA∧wA≤429981696) (hwB:1≤wB∧wB≤429981696)
 (hys:ys<18446744073709551616) (hc: ∀i,i<q→1≤cs.getD i 0∧cs.getD i 0≤4) (hPe:(P:Int)=prodT (mkC cs ys) q) (hP1:1≤P)
include hRA hRB hNA hNB h5 hcl hvl hX hY hP hXb hYb hwA hwB hys hc hPe hP1
end
section
variable {ga gb:Int} {RA RB:List (List Int)} {NA NB:List Mc} (hlA:Qbo RA NA) (hlB:Qbo RB NB) (hA:chkB ga RA NA=true) (hB:chkB gb RB NB=true) (hs:cdT NA=cdT NB) {xs ys:Nat} (hxs:xs<18446744073709551616) (hys:ys<18446744073709551616) {vals:List Int} (hvl:vals.length=NA.length) (hval:valT (cdT NA) vals NA.length)
include hlA hlB hA hB hs hxs hys hvl hval
end
section
variable {ga gb:Int} {RA RB:List (List Int)} {NA NB:List Mc} (hlA:Qbo RA NA) (hlB:Qbo RB NB) (hA:chkB ga RA NA=true) (hB:chkB gb RB NB=true) (hs:cdT NA=cdT NB) {xs ys:Nat} (hxs:xs<18446744073709551616) (hys:ys<18446744073709551616) {vals:List Int} (hvl:vals.length=NA.length) (hval:valT (cdT NA) vals NA.length)
include hlA hlB hA hB hs hxs hys hvl hval
end
def ldV(p:Nat):Option (List Int)→V
 |none=>.nils
 |some l=>.im (p+1) (ints l)
section
variable (ga:Int) (na:Nat) (RA:List V) (gb:Int) (nb:Nat) (RB:List V) (q:Nat) (NB:List V) (xs ys:Nat)
end
section
variable (ga:Int) (na:Nat) (RA:List V) (gb:Int) (nb:Nat) (RB:List V) (N:List Mc) (NB:List V) (xs ys:Nat) (hq:N.length≤5) (hc: ∀k,k<N.length→1≤(N.getD k mc0).c∧(N.getD k mc0).c≤4) (hRA:HfL RA) (hRB:HfL RB) (hNB:HfL NB)
include hq hc hRA hRB hNB
end
section
variable (ga:Int) (na:Nat) (RA:List V) (gb:Int) (nb:Nat) (RB:List V) (p:Nat) (NA NB:List V) (cs:List Int) (xs ys:Nat)
variable (hRA:HfL RA) (hRB:HfL RB) (hNA:HfL NA) (hNB:HfL NB) (h5:p+1≤5) (hcl:cs.length=p+1)
include hRA hRB hNA hNB h5 hcl
end
section
variable {ga gb:Int} {RA RB:List (List Int)} {NA NB:List Mc} (hlA:Qbo RA NA) (hlB:Qbo RB NB) (hA:chkB ga RA NA=true) (hB:chkB gb RB NB=true) (hs:cdT NA=cdT NB) {xs ys:Nat} (hxs:xs<18446744073709551616) (hys:ys<18446744073709551616)
include hlA hlB hA hB hs hxs hys
end
section
variable (ga:Int) (na:Nat) (RA:List V) (gb:Int) (nb:Nat) (RB:List V) (p:Nat) (NA NB:List V) (cs:List Int) (xs ys:Nat)
variable (hRA:HfL RA) (hRB:HfL RB) (hNA:HfL NA) (hNB:HfL NB) (h5:p+1≤5) (hcl:cs.length=p+1) (hxs:xs<18446744073709551616) (hc: ∀i,i<p+1→1≤cs.getD i 0∧cs.getD i 0≤4) (P:Nat) (hPe:(P:Int)=prodT (mkC cs xs) (p+1)) (hP1:1≤P) (F:Nat→Option (List Int)) (hF: ∀k l,F k=some l→l.length=p+1)
 (hcall: ∀k,k<P→∀(H:T O)(nx:Nat),gt H 9=some (rw3 (cmb (mkC cs xs) k))→CallSpec Pg g0 (.fn 48 []) [.agg [i6 ga,.im na RA,.im (p+1) NA],.agg [i6 gb,.im nb RB,.im (p+1) NB],.im (p+1) (ints cs),u6 (xs:Nat),u6 (ys:Nat),.sl 9 0 (p+1) (some (p+1-(p+1)))] H nx ⟨.tup [ldV p (F k),i6 0],H,nx,[]⟩)
include hRA hRB hNA hNB h5 hcl hxs hc hPe hP1 hF hcall
end
def setsB(n xs ys:Nat):Bool:=decide ((xs|||ys)/2^n=0)&&decide (xs&&& ys=0)
section
variable (ga:Int) (RA:List (List Int)) (NA:List Mc) (gb:Int) (RB:List (List Int)) (NB:List Mc) (hlA:Qbo RA NA) (hlB:Qbo RB NB) (xs ys:Nat)
include hlA hlB
end
section
variable (ga:Int) (RA:List (List Int)) (NA:List Mc) (gb:Int) (RB:List (List Int)) (NB:List Mc) (hlA:Qbo RA NA) (hlB:Qbo RB NB) (xs ys:Nat) (hxs:xs<18446744073709551616) (hys:ys<18446744073709551616) (hA:chkB ga RA NA=true) (hB:chkB gb RB NB=true) (hs:sameB NA NB=true) (hst:setsB NA.length xs ys=true)
include hlA hlB hxs hys hA hB hs hst
end
section
variable (X Y:List Int) (z:Nat) (wA wB:Int) (hX:X.length=z) (hY:Y.length=z) (hz:z≤1000000) (hXb: ∀i,i<z→0≤X.getD i 0∧X.getD i 0≤429981696) (hYb: ∀i,i<z→0≤Y.getD i 0∧Y.getD i 0≤429981696) (hwA:1≤wA∧wA≤429981696) (hwB:1≤wB∧wB≤429981696)
include hX hY hz hXb hYb hwA hwB
end
section
variable (ga:Int) (RA:List (List Int)) (NA:List Mc) (gb:Int) (RB:List (List Int)) (NB:List Mc) (hlA:Qbo RA NA) (hlB:Qbo RB NB)
include hlA hlB
end
section
variable {p j:List Nat} (g:GrOk p j) {xs ys:Nat} (hq:AskOk p.length xs ys) {y:Nat×List Nat} (hy:soW p 5 (0,[])=some y)
include g hq hy
end
end Go.Proofs.YtifdkhfldbkkpaaGreat.Am
