/- Texts behind the claim, part 7: the abstract machine, and what the functions answer. No condition. -/
import Derived.Test.YtbmegckcapfdkaaCKnown6
set_option linter.unusedVariables false
set_option linter.unusedSimpArgs false
set_option linter.unusedSectionVars false
namespace Go.Proofs.Ytbmegckcapfdkaa.Am
open Go.RowKit
set_option maxHeartbeats 4000000
set_option maxRecDepth 100000
def isD:Nat→List V→Bool
 |0,l=>match l with
  |[.int .i64 a,.int .u64 b,.im 0 []]=>decide (a=1)&&decide (b=1)
  | _=>false
 |k+1,l=>match l with
  |[.int .i64 a,.int .u64 b,.im 2 [x,y,z,.int .i64 a',.int .u64 b',.im 0 []]]=>(decide (a=3)&&decide (b=0)&&decide (a'=3)&&decide (b'=0))&&isD k [x,y,z]
  | _=>false
theorem isD_ok: ∀{k:Nat}{l:List V},isD k l=true→l=dpC k
 | 0, l, h => by
  unfold isD at h
  split at h
  ·simp at h
   obtain⟨rfl,rfl⟩:=h
   rfl
  ·cases h
 | k + 1, l, h => by
  unfold isD at h
  split at h
  ·rw [Bool.and_eq_true] at h
   obtain⟨h1,h2⟩:=h
   simp at h1
   obtain⟨⟨⟨rfl,rfl⟩,rfl⟩,rfl⟩:=h1
   show _=[i6 3,u6 0,.im 2 (dpC k++[i6 3,u6 0,.im 0 []])]
   rw[←isD_ok h2];rfl
  ·cases h
noncomputable def memoT(f:Nat)(t:T O→List V→Bool)(v:V)(h:Hook):Hook:=fun f' ars H gl=>match gl with
 | .e=>bif Nat.beq f' f&&t H ars then some v else h f' ars H gl
 | _=>h f' ars H gl
theorem memoT_ok{f:Nat}{l:List V}{t:T O→List V→Bool}{v:V}{h:Hook}(hh:Qaj Pg h)(hv:gnd v=true)(hc:(codeOf Pg f).isSome=true)(ht: ∀H ars,t H ars=true→ViewL H.get (fun _=>True) (fun _=>none) l ars)(hok:FnOk Pg .e f l v):Qaj Pg (memoT f t v h):=by
 intro f' ars H gl u hu s w vals ha hH hgl
 unfold memoT at hu
 split at hu
 ·cases hb : (Nat.beq f' f && t H ars) with
  |false=>rw[hb]at hu;exact hh f' ars H _ u hu s w vals ha hH hgl
  | true =>
   rw[hb,cond_true]at hu
   cases hu
   simp only[Bool.and_eq_true]at hb
   have e1:=Nat.eq_of_beq_eq_true hb.1
   subst e1
   have hview:=ht _ _ hb.2
   obtain⟨fi,hfi⟩:=Option.isSome_iff_exists.1 hc
   obtain⟨fn,f1,f2,f3,f4,f5⟩:=Qiw plain hfi
   have hF: ∀b,(s.fz b∨∃g t sp c,H.get g=some (.row t sp c)∧b=s.μ g)→b<w.heap.size:=by
    rintro b (hb|⟨g,t,sp,c,hg,rfl⟩)
    ·exact hH.old b (.inl hb)
    ·exact(hH.obj _ _ hg rfl).2.1
   have hrl:=ViewL.rl hH (s':=sg (fun b=>s.fz b∨∃g t sp c,H.get g=some (.row t sp c)∧b=s.μ g)) ⟨fun _ _ e=>(by cases e),fun g t sp c _ hg=>.inr ⟨g,t,sp,c,hg,rfl⟩,fun b hb=>.inl hb⟩ _ _ _ hview ha
   obtain⟨next,q1,q2,q3⟩:=hok.1 (sg _) w (.func (.func f') #[] #[]) vals ⟨#[],rfl,rfl⟩ hrl (Qja (fun b hb=>hb.elim (hF b) (fun hb=>hb.elim))) (fun g l hg=>by simp at hg) (fun _ _ h=>h)
   have hn:next= .enter f' vals:=by
    have h5:=f5 vals w
    simp[Deferred.ofValue,invoke,h5]at q1
    exact q1.symm
   subst hn
   refine⟨f5 vals w,(callsIn_wide.1 q2).mono ?_⟩
   rintro e w' ⟨x,s',rfl,g1,g2,g3,g4,g5⟩
   exact⟨x,rfl,⟨g3.mod.os,g3.mod.tape,g3.mod.output,g3.mod.size,fun k hk=>g3.mod.block k hk (by rintro⟨h,hm,_⟩;cases hm)⟩,fun s'' w''=>gnd_rv _ _ hv g1⟩
 ·exact hh f' ars H gl u hu s w vals ha hH hgl
noncomputable def tD(H:T O):List V→Bool
 |[fa,.agg d,vs]=>vxB H fbV fa&&vxB H (il [0,0]) vs&&isD 2500 d
 | _=>false
theorem tD_ok(H:T O)(ars:List V)(h:tD H ars=true):ViewL H.get (fun _=>True) (fun _=>none) [fbV,.agg (dpC 2500),il [0,0]] ars:=by
 unfold tD at h
 split at h
 ·rename_i fa d vs
  simp only[Bool.and_eq_true]at h
  obtain⟨⟨h1,h2⟩,h3⟩:=h
  have h3:=isD_ok h3
  subst h3
  refine⟨_,_,rfl,Qld _ _ h1,_,_,rfl,⟨_,rfl,?_⟩,_,_,rfl,Qld _ _ h2,rfl⟩
  obtain⟨a,b,m,A,hd⟩:=Qf5 2500
  rw[hd]
  exact⟨_,_,rfl,rfl,_,_,rfl,rfl,_,_,rfl,.inl rfl,rfl⟩
 ·cases h
noncomputable def hq1:Hook:=memoT 12 tD (qV 0 0 352) Qkp
theorem hq1_ok:Qaj Pg hq1:=memoT_ok Qfc rfl (by kernel_rfl) tD_ok Qnd
noncomputable def hq2:Hook:=Qaq 12 [fbV,esV e31,il [1,0]] (qV 0 0 7) hq1
theorem hq2_ok:Qaj Pg hq2:=Qae hq1_ok rfl (by kernel_rfl) ek_1
noncomputable def hq3:Hook:=Qaq 12 [fbV,esV e31,il [0,0]] (qV 1 1 0) hq2
theorem hq3_ok:Qaj Pg hq3:=Qae hq2_ok rfl (by kernel_rfl) ek_2
noncomputable def hq4:Hook:=Qaq 12 [fbV,esV (.mk 3 0 [.mk 1 0 [],e11]),il [1,1]] (qV 0 0 7) hq3
theorem hq4_ok:Qaj Pg hq4:=Qae hq3_ok rfl (by kernel_rfl) ek_3
noncomputable def hq5:Hook:=Qaq 12 [fbV,esV (.mk 2 1 [e11]),il [0,0]] (qV 0 0 7) hq4
theorem hq5_ok:Qaj Pg hq5:=Qae hq4_ok rfl (by kernel_rfl) ek_4
noncomputable def hq6:Hook:=Qaq 12 [fbV,esV (.mk 1 3 []),il [1,1]] (qV 0 1 0) hq5
theorem hq6_ok:Qaj Pg hq6:=Qae hq5_ok rfl (by kernel_rfl) ek_5
noncomputable def hq7:Hook:=Qaq 12 [fgV,esV (.mk 3 0 [.mk 1 1 [],.mk 1 1 []]),il [0]] (qV 0 0 6) hq6
theorem hq7_ok:Qaj Pg hq7:=Qae hq6_ok rfl (by kernel_rfl) ek_6
noncomputable def hq8:Hook:=Qaq 12 [fgV,esV (.mk 1 1 []),il [0]] (qV 0 0 6) hq7
theorem hq8_ok:Qaj Pg hq8:=Qae hq7_ok rfl (by kernel_rfl) ek_7
noncomputable def hq9:Hook:=Qaq 12 [fgV,esV (.mk 1 0 []),il [1]] (qV 1 1 0) hq8
theorem hq9_ok:Qaj Pg hq9:=Qae hq8_ok rfl (by kernel_rfl) ek_8
noncomputable def hq10:Hook:=Qaq 12 [ftV,esV (.mk 1 1 []),il [0,0]] (qV 0 0 30) hq9
theorem hq10_ok:Qaj Pg hq10:=Qae hq9_ok rfl (by kernel_rfl) ek_9
noncomputable def hq11:Hook:=Qaq 12 [.agg [.im 0 [],.im 0 [],il [1]],esV (.mk 1 0 []),.im 0 []] (qV 0 0 30) hq10
theorem hq11_ok:Qaj Pg hq11:=Qae hq10_ok rfl (by kernel_rfl) ek_10
noncomputable def hq12:Hook:=Qaq 12 [fzV,esV (.mk 0 0 []),.im 0 []] (qV 0 0 7) hq11
theorem hq12_ok:Qaj Pg hq12:=Qae hq11_ok rfl (by kernel_rfl) ek_11
noncomputable def hq13:Hook:=Qaq 12 [fbV,esV (.mk 1 4 []),.im 0 []] (qV 0 0 352) hq12
theorem hq13_ok:Qaj Pg hq13:=Qae hq12_ok rfl (by kernel_rfl) ek_12
noncomputable def hq14:Hook:=Qaq 12 [fbV,esV (.mk 4 0 [.mk 1 1 []]),.im 0 []] (qV 0 0 352) hq13
theorem hq14_ok:Qaj Pg hq14:=Qae hq13_ok rfl (by kernel_rfl) ek_13
noncomputable def hq15:Hook:=Qaq 12 [fbV,esV (.mk 3 1 []),.im 0 []] (qV 0 0 352) hq14
theorem hq15_ok:Qaj Pg hq15:=Qae hq14_ok rfl (by kernel_rfl) ek_14
noncomputable def hq16:Hook:=Qaq 12 [fbV,esV (.mk 1 1 []),il [0,2]] (qV 0 0 2) hq15
theorem hq16_ok:Qaj Pg hq16:=Qae hq15_ok rfl (by kernel_rfl) ek_16
noncomputable def hq17:Hook:=Qaq 12 [fbV,esV (.mk 1 1 []),il [0]] (qV 0 0 2) hq16
theorem hq17_ok:Qaj Pg hq17:=Qae hq16_ok rfl (by kernel_rfl) ek_17
noncomputable def hq18:Hook:=Qaq 7 [ul [0,1,2,4],ul [12,0,1,1],u6 (4:Nat),u6 (8:Nat)] (i6 (0:Nat)) hq17
theorem hq18_ok:Qaj Pg hq18:=Qae hq17_ok rfl (by kernel_rfl) k_41
noncomputable def hq19:Hook:=Qaq 7 [ul [0,1],ul [2,1],u6 (1:Nat),u6 (2:Nat)] (i6 (351:Nat)) hq18
theorem hq19_ok:Qaj Pg hq19:=Qae hq18_ok rfl (by kernel_rfl) k_46
noncomputable def hq20:Hook:=Qaq 7 [ul [0,1,2],ul [2,1,0],u6 (1:Nat),u6 (4:Nat)] (i6 (351:Nat)) hq19
theorem hq20_ok:Qaj Pg hq20:=Qae hq19_ok rfl (by kernel_rfl) k_52
noncomputable def hq21:Hook:=Qaq 7 [ul [0,1,2],ul [2,5,2],u6 (2:Nat),u6 (4:Nat)] (i6 (351:Nat)) hq20
theorem hq21_ok:Qaj Pg hq21:=Qae hq20_ok rfl (by kernel_rfl) k_58
noncomputable def hq22:Hook:=Qaq 7 [ul [0,1,2],ul [6,1,1],u6 (2:Nat),u6 (4:Nat)] (i6 (351:Nat)) hq21
theorem hq22_ok:Qaj Pg hq22:=Qae hq21_ok rfl (by kernel_rfl) k_64
noncomputable def hq23:Hook:=Qaq 7 [ul [0,1,2],ul [4,0,1],u6 (2:Nat),u6 (4:Nat)] (i6 (0:Nat)) hq22
theorem hq23_ok:Qaj Pg hq23:=Qae hq22_ok rfl (by kernel_rfl) k_70
noncomputable def hq24:Hook:=Qaq 7 [ul [0],ul [0],u6 (0:Nat),u6 (0:Nat)] (i6 (2:Nat)) hq23
theorem hq24_ok:Qaj Pg hq24:=Qae hq23_ok rfl (by kernel_rfl) k_288
noncomputable def hq25:Hook:=Qaq 7 [ul [0],ul [0],u6 (2:Nat),u6 (1:Nat)] (i6 (2:Nat)) hq24
theorem hq25_ok:Qaj Pg hq25:=Qae hq24_ok rfl (by kernel_rfl) k_294
noncomputable def hq26:Hook:=Qaq 7 [ul [1],ul [0],u6 (9:Nat),u6 (9:Nat)] (i6 (350:Nat)) hq25
theorem hq26_ok:Qaj Pg hq26:=Qae hq25_ok rfl (by kernel_rfl) k_282
noncomputable def hq27:Hook:=Qaq 7 [ul [0,0,0,0,0,0],ul [0,0,0,0,0,0],u6 (0:Nat),u6 (1:Nat)] (i6 (350:Nat)) hq26
theorem hq27_ok:Qaj Pg hq27:=Qae hq26_ok rfl (by kernel_rfl) k_300
noncomputable def hq28:Hook:=Qaq 17 [ul [0],ul [0],u6 (0:Nat),u6 (1:Nat),.agg [u6 0,u6 0,u6 0]] (i6 (351:Nat)) hq27
theorem hq28_ok:Qaj Pg hq28:=Qae hq27_ok rfl (by kernel_rfl) k_307
noncomputable def hq29:Hook:=Qaq 16 [ul [0],ul [0],.agg [i6 0,.im 0 [],.im 0 []]] (.tup [.bool false,i6 0]) hq28
theorem hq29_ok:Qaj Pg hq29:=Qae hq28_ok rfl (by kernel_rfl) k_262
noncomputable def hq30:Hook:=Qaq 5 [] (.bool true) hq29
theorem hq30_ok:Qaj Pg hq30:=Qae hq29_ok rfl (by kernel_rfl) works_fn
noncomputable def vK:Env:=envOf Pg hq30 extF
theorem vK_ok:vK.Ok Pg:=Qm8 plain hq30_ok Qnf
theorem give1{f n h:Nat}{room:Option Nat}{cs:List V}{t:Nat}{sp:Option Nat}{v:V}{H H2:T O}{nx:Nat}(hf:FnOk Pg g0 f [.im n cs] v)(hv:Hf v)(hc:HfL cs)(ho:gt H h=some (.row t sp cs))(h2:H2=pt H h .dead):CallSpec Pg g0 (.fn f []) [.sl h 0 n room] H nx ⟨v,H2,nx,[h]⟩:=by
 subst h2
 refine Qkg [h] hf ⟨_,_,rfl,.inr (.inr ⟨h,0,room,t,sp,cs,rfl,List.mem_singleton.2 rfl,by rw[←Qak];exact ho,ViewP.of_hf _ hc⟩),rfl⟩ hv (fun g hg=>?_) (fun i hi=>?_) (fun i hi=>?_)
 ·obtain rfl := List.mem_singleton.1 hg
  exact⟨_,_,_,by rw[←Qak];exact ho⟩
 ·rw[←Qak,←Qak,gt_pt,if_neg (fun e=>hi (List.mem_singleton.2 e))]
 ·obtain rfl := List.mem_singleton.1 hi
  rw[←Qak,gt_pt,if_pos rfl]
abbrev dpS(k:Int)(l:List V):SL:={sl:=[(1,ul [0,1,2,4]),(2,ul [12,0,1,1]),(3,.ptr 0 0),(4,.ptr 1 0),(5,.ptr 2 0),(6,.ptr 3 0),(7,.ptr 4 0),(32,i6 k)],os:=[.row 40 none [il [0,1],il [2,2],il [1,0,0,0]],.row 40 none [il [0,2],il [1,1],il [1]],.row 40 none [il [0],il [2],il [0,0]],.row 40 none [il [0],il [2],il [4611686018427387903,4611686018427387902]],.row 43 none l],md:=[1,1,1,1,1]}
theorem Qm3:Sat Pg none 0 (at' 4 [1,1,1,1,1,1,1,1,1,0,1,0]) (mkSt g0 310 (dpS 0 (dpC 0))) (Qam g0 310 [(True,.exit 0,dpS 2500 (dpC 2500))]):=by
 refine Qc4 vE_ok mixed Qab (b:=at' 4 [1,1,1,1,1,1,1,1,1,0,1,0,0]) (by kernel_rfl) (fun(k:Nat)=>k≤2500) (fun k=>dpS k (dpC k)) (fun k=>2500-k) (fun k hk=>?_) 0 (by decide)
 by_cases hlt:k<2500
 ·obtain ⟨a, b, m, A, hd⟩ := Qf5 k
  have hk2:(k:Int)<2500:=by omega
  have h0:=Qif 0 [] trivial
  have h1:=Qif 2 [i6 a,u6 b,.im m A,i6 3,u6 0,.im 0 []] ⟨trivial,trivial,trivial,trivial,trivial,trivial,trivial⟩
  refine .inl ⟨k+1,[0,1,2,3,4],[yes 33,fn 35 (.agg [i6 3,u6 0,.im 0 []]),(37,.call ⟨.agg [i6 3,u6 0,.im 2 [i6 a,u6 b,.im m A,i6 3,u6 0,.im 0 []]],ofOs .e 0 ((dpS 0 [i6 a,u6 b,.im m A]).os++[.dead]),6,[5]⟩),nu 38 ((k+1:Nat):Int)],1000,by omega,by omega,?_⟩
  have e:dpC (k+1)=[i6 3,u6 0,.im 2 [i6 a,u6 b,.im m A,i6 3,u6 0,.im 0 []]]:=by
   show[i6 3,u6 0,.im 2 (dpC k++[i6 3,u6 0,.im 0 []])]=_
   rw[hd];rfl
  show vc _ _ _ _ _ _ _ _ (mkSt g0 310 (dpS k (dpC k))) (kNext 0 310 _ (dpS ((k+1:Nat):Int) (dpC (k+1))))
  rw[e,hd]
  clear hd e
  refine Eq.mp (by kernel_rfl:(let z1:=[4611686018427387903,4611686018427387902];let z3:=V.im m A;let z4:=(↑(k+1):Int);let z6:=[1,0,0,0];let z0:=[O.row 40 none [il [0,1],il [2,2],il z6],O.row 40 none [il [0,2],il [1,1],il [1]],O.row 40 none [il [0],il [2],il [0,0]],O.row 40 none [il [0],il [2],il z1],O.row 43 none [i6 a,u6 b,z3]];let z2:=ofOs T.e 0 z0;let z5:=ofOs T.e 0 (z0++[O.dead]);An [decide ((↑k:Int)<(2500:Int))=true,An [Tt,Tt],FnOk Try.prog g0 10 [V.im 0 []] (V.agg [i6 3,u6 0,V.im 0 []]),Tt,CallSpec Try.prog g0 (V.fn 10 []) [V.sl 5 0 2 (some 0)] (pt z2 5 (O.row 43 none [i6 a,u6 b,z3,i6 3,u6 0,V.im 0 []])) 6 (CR.mk (V.agg [i6 3,u6 0,V.im 2 [i6 a,u6 b,z3,i6 3,u6 0,V.im 0 []]]) z5 6 [5]),An [(V.fn 10 []=V.fn 10 []→[V.nils]=[V.sl 5 0 2 (some 0)]→z2=pt z2 5 (O.row 43 none [i6 a,u6 b,z3,i6 3,u6 0,V.im 0 []])→5=6→CR.mk (V.agg [i6 3,u6 0,V.im 0 []]) z2 5 []=CR.mk (V.agg [i6 3,u6 0,V.im 2 [i6 a,u6 b,z3,i6 3,u6 0,V.im 0 []]]) z5 6 [5]),Tt],wr .i64 ((↑k:Int)+(1:Int))=z4,An [An [4=4,Sm (ut [0,1,2,4])],An [4=4,Sm (ut [12,0,1,1])],Zz,Zz,Zz,Zz,Zz,z4=z4,Tt],An [An [2=2,Sm (it [0,1])],An [2=2,Sm (it [2,2])],An [4=4,Sm (it z6)],Tt],An [An [2=2,Sm (it [0,2])],An [2=2,Sm (it [1,1])],An [1=1,Sm (it [1])],Tt],An [An [1=1,Sm (it [0])],An [1=1,Sm (it [2])],An [2=2,Sm (it [0,0])],Tt],An [An [1=1,Sm (it [0])],An [1=1,Sm (it [2])],An [2=2,Sm (it z1)],Tt],An [Sm (3:Int),Sm (0:Int),An [2=2,Sm [i6 a,u6 b,z3,i6 3,u6 0,V.im 0 []]],Tt],Tt])=_) ?_
  (repeat'(first|(with_reducible apply And.intro)|(refine fun(_:True)=>?_)))<;>first|exact aq|skip
  all_goals first|exact h0|exact give1 (t:=43) (sp:=none) h1 ⟨trivial,trivial,trivial,trivial⟩ ⟨trivial,trivial,trivial,trivial,trivial,trivial,trivial⟩ (by kernel_rfl) (by kernel_rfl)|skip
 ·obtain rfl : k = 2500 := by omega
  obtain⟨a,b,m,A,hd⟩:=Qf5 2500
  refine .inr ⟨.exit 0,[0,1,2,3,4],dpS 2500 (dpC 2500),[],1000,.inl ⟨trivial,rfl,rfl⟩,?_⟩
  show vc _ _ _ _ _ _ _ _ (mkSt g0 310 (dpS 2500 (dpC 2500))) _
  rw[hd]
  clear hd
  refine Eq.mp (by kernel_rfl:(An [An [An [4=4,Sm (ut [0,1,2,4])],An [4=4,Sm (ut [12,0,1,1])],Zz,Zz,Zz,Zz,Zz,Sm (2500:Int),Tt],An [An [2=2,Sm (it [0,1])],An [2=2,Sm (it [2,2])],An [4=4,Sm (it [1,0,0,0])],Tt],An [An [2=2,Sm (it [0,2])],An [2=2,Sm (it [1,1])],An [1=1,Sm (it [1])],Tt],An [An [1=1,Sm (it [0])],An [1=1,Sm (it [2])],An [2=2,Sm (it [0,0])],Tt],An [An [1=1,Sm (it [0])],An [1=1,Sm (it [2])],An [2=2,Sm (it [4611686018427387903,4611686018427387902])],Tt],An [a=a,b=b,An [m=m,A=A],Tt],Tt])=_) ?_
  (repeat'(first|(with_reducible apply And.intro)|(refine fun(_:True)=>?_)))<;>first|exact aq|skip
  all_goals skip
noncomputable def endV(G:Ctx)(res:List ResultVar):Option Rs→Option V
 |some [(.normal,st)]=>retV G st.tm st.H res
 |some [(.ret,st)]=>retV G st.tm st.H res
 | _=>none
theorem Sat.of_end{E:Env}(hE:E.Ok Pg){n nx0:Nat}{c:Code}{st:St}{res:List ResultVar}{v:V}{G:Ctx}(h:endV G res (exec E n none c st)=some v):Sat Pg none nx0 c st (fun e st=>(e= .normal∨e= .ret)∧retV G st.tm st.H res=some v):=by
 have key: ∀(e:Ex)(st':St),e= .normal∨e= .ret→exec E n none c st=some [(e,st')]→retV G st'.tm st'.H res=some v→Sat Pg none nx0 c st (fun e st=>(e= .normal∨e= .ret)∧retV G st.tm st.H res=some v):=fun e st' he hx hr=>by
  intro B s0 w0 s w a hn hB hrd A Q hQ
  refine(Qbh hE mixed n).one none c st st' e s w a B hx A.rel (Nat.le_trans hB A.step.mod.size) (fun h e=>by cases e) Q (fun a' w'⟨lg,s',W⟩=>?_)
  have:=hQ e st' ⟨he,hr⟩ s' w' a' (A.went W)
  rcases he with rfl|rfl<;>exact this
 unfold endV at h
 split at h
 ·rename_i st' hx;exact key .normal st' (.inl rfl) hx h
 ·rename_i st' hx;exact key .ret st' (.inr rfl) hx h
 ·cases h
abbrev dpS1(l:List V):SL:={sl:=[(1,ul [0,1,2,4]),(2,ul [12,0,1,1]),(3,.ptr 0 0),(4,.ptr 1 0),(5,.ptr 2 0),(6,.ptr 3 0),(7,.ptr 4 0)],os:=[.row 40 none [il [0,1],il [2,2],il [1,0,0,0]],.row 40 none [il [0,2],il [1,1],il [1]],.row 40 none [il [0],il [2],il [0,0]],.row 40 none [il [0],il [2],il [4611686018427387903,4611686018427387902]],.row 43 none l],md:=[1,1,1,1,1]}
theorem Qn5:endV vE.G [.tmp 0] (exec vK 100000 none (at' 4 [1,1,1,1,1,1,1,1,1,1]) (mkSt g0 310 (dpS 2500 (dpC 2500))))=some (.bool true):=by kernel_rfl
theorem known35:FnOk Pg g0 4 [] (.bool true):=by
 obtain⟨fi,hfi,hb,hn,hr⟩: ∃fi,vE.code 4=some fi∧fi.body=at' 4 []∧fi.ntmps=310∧fi.res=[.tmp 0]:=by
  have e1:(vE.code 4).map (·.body)=some (at' 4 []):=by kernel_rfl
  have e2:(vE.code 4).map (·.ntmps)=some 310:=by kernel_rfl
  have e3:(vE.code 4).map (·.res)=some [.tmp 0]:=by kernel_rfl
  cases hfi:vE.code 4 with
  |none=>rw[hfi]at e1;cases e1
  |some fi=>
   rw[hfi]at e1 e2 e3
   exact⟨fi,rfl,Option.some.inj e1,Option.some.inj e2,Option.some.inj e3⟩
 refine FnOk.of_sat hfi (by rw[hn];rfl) rfl ?_
 rw[hb,hn,hr]
 refine Qjf (E:=vK) vK_ok (n:=100000) (k:=9) (N:=310) (Y:=at' 4 [1,1,1,1,1,1,1,1,1]) (r:=[5,9,13,17,19]) (S:=dpS1 (dpC 0)) (by kernel_rfl) ?_ ?_
 ·refine Eq.mp (by kernel_rfl : (An [An [g0 = g0, Nat.beq 310 310 = true], An [An [4 = 4, ut [0, 1, 2, 4] = [u6 0, u6 1, u6 2, u6 4], TT 4], An [4 = 4, ut [12, 0, 1, 1] = [u6 12, u6 0, u6 1, u6 1], TT 4], Zz, Zz, Zz, Zz, Zz, Tt], An [An [2 = 2, it [0, 1] = [i6 0, i6 1], TT 2], An [2 = 2, it [2, 2] = [i6 2, i6 2], TT 2], An [4 = 4, it [1, 0, 0, 0] = [i6 1, i6 0, i6 0, i6 0], TT 4], Tt], An [An [2 = 2, it [0, 2] = [i6 0, i6 2], TT 2], An [2 = 2, it [1, 1] = [i6 1, i6 1], TT 2], An [1 = 1, it [1] = [i6 1], Tt, Tt], Tt], An [An [1 = 1, it [0] = [i6 0], Tt, Tt], An [1 = 1, it [2] = [i6 2], Tt, Tt], An [2 = 2, it [0, 0] = [i6 0, i6 0], TT 2], Tt], An [An [1 = 1, it [0] = [i6 0], Tt, Tt], An [1 = 1, it [2] = [i6 2], Tt, Tt], An [2 = 2, it [4611686018427387903, 4611686018427387902] = [i6 4611686018427387903, i6 4611686018427387902], TT 2], Tt], An [Sm (1 : Int), Sm (1 : Int), Zz, Tt], Tt]) = _) ?_
  (repeat'(first|(with_reducible apply And.intro)|(refine fun(_:True)=>?_)))<;>first|exact aq|skip
  all_goals first|rfl|skip
 ·rw [show at' 4 [1, 1, 1, 1, 1, 1, 1, 1, 1] = .seq (.seq (at' 4 [1, 1, 1, 1, 1, 1, 1, 1, 1, 0, 0]) (.block 0 (at' 4 [1, 1, 1, 1, 1, 1, 1, 1, 1, 0, 1, 0]))) (at' 4 [1, 1, 1, 1, 1, 1, 1, 1, 1, 1]) by kernel_rfl]
  refine Sat.seq (R':=fun e s=>e= .normal∧s=mkSt g0 310 (dpS 2500 (dpC 2500))) ?_ (fun s⟨_,e⟩=>by subst e;exact Sat.of_end vK_ok Qn5) (fun e s hne⟨he,_⟩=>absurd he hne)
  refine Qjf (E:=vK) vK_ok (n:=100000) (k:=1) (N:=310) (Y:=.block 0 (at' 4 [1,1,1,1,1,1,1,1,1,0,1,0])) (r:=[0,1,2,3,4]) (S:=dpS 0 (dpC 0)) (by kernel_rfl) ?_ ?_
  ·obtain ⟨a, b, m, A, hd⟩ := Qf5 0
   rw[hd]
   clear hd
   refine Eq.mp (by kernel_rfl:(An [An [g0=g0,Nat.beq 310 310=true],An [An [4=4,Sm (ut [0,1,2,4])],An [4=4,Sm (ut [12,0,1,1])],Zz,Zz,Zz,Zz,Zz,Sm (0:Int),Tt],An [An [2=2,Sm (it [0,1])],An [2=2,Sm (it [2,2])],An [4=4,Sm (it [1,0,0,0])],Tt],An [An [2=2,Sm (it [0,2])],An [2=2,Sm (it [1,1])],An [1=1,Sm (it [1])],Tt],An [An [1=1,Sm (it [0])],An [1=1,Sm (it [2])],An [2=2,Sm (it [0,0])],Tt],An [An [1=1,Sm (it [0])],An [1=1,Sm (it [2])],An [2=2,Sm (it [4611686018427387903,4611686018427387902])],Tt],An [a=a,b=b,An [m=m,A=A],Tt],Tt])=_) ?_
   (repeat'(first|(with_reducible apply And.intro)|(refine fun(_:True)=>?_)))<;>first|exact aq|skip
  ·refine Sat.block Qm3 (fun s h => ?_) (fun e s hne h => ?_)
   ·rcases h with ⟨_, _, e⟩ | h
    ·exact⟨rfl,e⟩
    ·exact h.elim
   ·rcases h with ⟨_, e, _⟩ | h
    ·exact absurd e hne
    ·exact h.elim
end Go.Proofs.Ytbmegckcapfdkaa.Am
