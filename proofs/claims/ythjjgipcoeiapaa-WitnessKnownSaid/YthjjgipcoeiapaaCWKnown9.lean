/- Texts behind the claim, part 9: the abstract machine, and what the functions answer. No condition. -/
import Derived.Test.YthjjgipcoeiapaaCWKnown8
set_option linter.unusedVariables false
set_option linter.unusedSimpArgs false
set_option linter.unusedSectionVars false
namespace Go.Proofs.Ythjjgipcoeiapaa.Am
open Go.RowKit
set_option maxHeartbeats 1000000
set_option maxRecDepth 100000
noncomputable def kRetB(H:T O)(nx:Nat)(L:List Nat):KF:=fun e _ st=>match e with
 | .ret=>st.H=H/\st.nx=nx/\SubL st.lg L
 | _=>False
theorem CallSpec.yldR{P:Program}{E:Env}{sp:Qa7}(hE:E.Ok P)(hm:P.follows .mixedOrders=true){gl:T (List V)}(hsp:Qau P gl sp){n hd:Nat}{ars:List V}{H H2:T O}{nx nx2:Nat}{tm tm1:TM}{ps:List Nat}{assign body:Code}{fn0:Nat}{sl0 sl1:List (Nat×V)}{L:List Nat}{hs0:Hs}{hs1:O->Hs}{m0 m1:Nat}
  (ho:gt H hd=some (.loop .ready none fn0 tm ps assign body))(xg:putPs tm ps ars=some tm1)(hn:tm1.n=n)(hg:tm1.gl=gl)(h0:slotsQ tm1 sl0)
  (ha: ∀(H:T O)(nx:Nat),vc P E sp (some hd) nx m0 assign hs0 (mkSo gl n sl0 H nx []) (kAsg n sl1 H nx))
  (hb: ∀Lb:O,vc P E sp (some hd) nx m1 body (hs1 Lb) (mkSo gl n sl1 (pt H hd Lb) nx [hd]) (kRetB (pt H2 hd Lb) nx2 L))
  (hL:hd∈L)(hlog:Log H.get nx (pt H2 hd (.loop .done (some .ret) fn0 tm ps assign body)).get nx2 L):CallSpec P gl (.yld hd) ars H nx ⟨.bool false,pt H2 hd (.loop .done (some .ret) fn0 tm ps assign body),nx2,L⟩:=by
 rw[Qak]at ho
 refine CallSpec.yld ho xg hlog ?_
 have hst:(⟨tm1,H,nx,[]⟩:St)=⟨⟨tm1.sl,gl,n⟩,H,nx,[]⟩:=by cases tm1;subst hn hg;rfl
 rw[hst]
 refine Sat.fewer (sl:=sl0) (by obtain⟨a,b,c⟩:=tm1;cases hn;cases hg;exact h0) ?_
 refine Sat.fewer_post ?_
 refine Sat.of_vc hE hm hsp rfl (ha H nx) fun e hs' st' hgl hk=>?_
 unfold kAsg at hk
 split at hk
 ·obtain ⟨hb1, k1, k2, k3, k4⟩ := Qae hk
  have hn':=Nat.eq_of_beq_eq_true hb1
  refine⟨sl1,k1,rfl,none,fn0,tm,ps,assign,body,by show st'.H.get hd=_;rw[k2];exact ho,?_⟩
  show Sat P (some hd) nx body ⟨_,st'.H.put hd _,st'.nx,hd::st'.lg⟩ _
  rw[k2,k3,k4]
  have e0:(mkSo st'.tm.gl st'.tm.n sl1 H nx []).tm=(mkSo gl n sl1 H nx []).tm:=by rw[hgl,hn']
  rw[e0]
  have hb':=hb (.loop .busy none fn0 tm ps assign body)
  rw[pt_eq]at hb'
  refine Sat.of_vc hE hm hsp rfl hb' fun e hs2 st2 hgl2 hk2=>?_
  unfold kRetB at hk2
  split at hk2
  ·obtain ⟨q1, q2, q3⟩ := hk2
   refine⟨rfl,.busy,none,fn0,tm,ps,assign,body,by rw[q1,pt_eq,T.get_put,if_pos rfl],rfl,?_,q2.symm,fun x hx=>?_⟩
   ·show pt H2 hd _ = _
    rw[q1,<-pt_eq,Qhm];rfl
   ·rcases List.mem_cons.1 hx with rfl | hx
    ·exact hL
    ·exact q3 x hx
  ·exact hk2.elim
 ·exact hk.elim
theorem Sat.rangeR{P:Program}{gl:T (List V)}{rd:Option Nat}{nx0:Nat}{g:Operand}{ps:Array Tmp}{asg body:Code}{f:Nat}{caps:List V}{n:Nat}{S S':SL}{H1:T O}{nx1:Nat}{r L:List Nat}{v:V}
  (hg:ev (mkSt gl n S).tm g=some (.fn f caps))(hlb:rdOk rd (mkSt gl n S).H=true)
  (hc:CallSpec P gl (.fn f caps) [.yld S.os.length] (pt (ofOs .e 0 S.os) S.os.length (.loop .ready none 0 (mkSt gl n S).tm ps.toList asg body)) (S.os.length+1) ⟨v,H1,nx1,L⟩)
  (h1:gt H1 S.os.length=some (.loop .done (some .ret) 0 (mkSt gl n S).tm ps.toList asg body))
  (hr:gcP nx0 r ⟨(mkSt gl n S).tm,pt H1 S.os.length .dead,nx1,L++S.lg⟩ S'):
  Sat P rd nx0 (.rangeFunc g ps asg body) (mkSt gl n S) (Qad gl n [(True,.ret,S')]):=by
 rw[pt_eq]at hc
 rw[Qak]at h1
 rw[pt_eq]at hr
 refine Sat.gc_post (Sat.rangeFunc' hg hlb hc (.inr ⟨.ret,0,_,_,_,_,h1,?_⟩))
 exact Sat.ret ⟨r,mkSt gl n S',Qeb hr,.inl ⟨trivial,rfl,rfl⟩⟩
theorem Qn6{f:Nat->Int}{a:Nat}: ∀z,isum z (fun j=>if j=a then f j else 0)=if a<z then f a else 0
 |0=>by simp[isum]
 | z + 1 => by
  show isum z (fun j=>if j=a then f j else 0)+(if z=a then f z else 0)=_
  rw[Qn6 z]
  by_cases h:z=a
  ·subst h
   rw[if_neg o_,if_pos rfl,if_pos o_];omega
  ·rw [if_neg h]
   by_cases h2:a<z
   ·rw[if_pos h2,if_pos o_];omega
   ·rw[if_neg h2,if_neg o_];rfl
theorem Qeq{R:List (List Int)}{N:List Mc}{act:List Int}{s:Nat}:(effL R N act s).length=(prodT (mkC (cdT N) s) (cdT N).length).toNat:=Qf4
theorem effL_at{R:List (List Int)}{N:List Mc}{act:List Int}{s i:Nat}(hN:NdOk R N)(hs:SetL N act)(h:i<(effL R N act s).length):(effL R N act s).getD i 0=wsum R (fun x=>decide (pfE (cdT N) s (plcW R N act x)=i)) (prK R R.length):=by
 rw[Qeq]at h
 unfold effL
 rw[Ql7 h,Qr1,Qkg]
 have e1: ∀j,j<(tabT R N act).length->(if(decide (pfE (cdT N) s j=i))=true then(tabT R N act).getD j 0 else 0)=isum (prK R R.length) (fun x=>if j=plcW R N act x then(if decide (pfE (cdT N) s j=i)=true then wgt R x else 0)else 0):=fun j hj=>by
  rw[Qbv]at hj
  unfold tabT
  rw[Qhw hj,Qkg]
  by_cases hp:pfE (cdT N) s j=i
  ·simp only [hp, decide_true, if_true]
   refine Qb7 _ fun x _=>?_
   by_cases hx:plcW R N act x=j
   ·simp[hx]
   ·rw[if_neg (by simpa using hx),if_neg (fun e=>hx e.symm)]
  ·simp only [hp, decide_false, Bool.false_eq_true, if_false, ite_self]
   exact(Qg3 _).symm
 rw[Qb7 _ e1,Qg2]
 refine Qb7 _ fun x _=>?_
 rw[Qn6 (f:=fun j=>if decide (pfE (cdT N) s j=i)=true then wgt R x else 0)]
 rw[if_pos (by rw[Qbv];exact(Qti hN hs x).2)]
theorem MdOk.sums{g:Int}{R:List (List Int)}{N:List Mc}(h:MdOk g R N): ∀L∈R,sumI L=g:=fun L hL=>by
 have h2:=h.rt
 unfold rootsB at h2
 rw[Bool.and_eq_true]at h2
 have h3:=List.all_eq_true.1 h2.1 L hL
 unfold rtB at h3
 simp only[Bool.and_eq_true,decide_eq_true_eq]at h3
 exact h3.2
theorem Qo5{g:Int}{R:List (List Int)}{N:List Mc}(h:MdOk g R N)(f:Nat->Bool):0<=wsum R f (prK R R.length)/\wsum R f (prK R R.length)<=g^R.length:=by
 refine⟨(Qkf h.wt h.n1 f _).1,?_⟩
 rw[<-Qnn g R.length R rfl h.sums,Ql1,Qkg]
 refine Qsf _ fun x _=>?_
 have:=(Qu2 h.wt h.n1 x).1
 split<;>omega
theorem Qje{g:Int}{R:List (List Int)}{N:List Mc}{act:List Int}{s:Nat}(h:MdOk g R N)(hs:SetL N act): ∀i,i<(effL R N act s).length->0<=(effL R N act s).getD i 0/\(effL R N act s).getD i 0<=429981696:=fun i hi=>by
 rw[effL_at h.nd2 hs hi]
 have h1:=Qo5 h (fun x=>decide (pfE (cdT N) s (plcW R N act x)=i))
 have h2:=Qji h.g1 h.n1
 omega
theorem Qo0{g:Int}{R:List (List Int)}{N:List Mc}{act:List Int}(h:MdOk g R N): ∀i,i<(tabT R N act).length->0<=(tabT R N act).getD i 0/\(tabT R N act).getD i 0<=429981696:=fun i hi=>by
 rw[Qbv]at hi
 unfold tabT
 rw[Qhw hi]
 have h1:=Qo5 h (fun x=>decide (plcW R N act x=i))
 have h2:=Qji h.g1 h.n1
 omega
def mixF(xs:Nat)(jj:List Int)(d:Nat->Int)(i:Nat):Int:=if xs.testBit i=true then jj.getD i 0 else d i
def mixL(n xs:Nat)(jj:List Int)(d:Nat->Int):List Int:=(List.range n).map (mixF xs jj d)
theorem Qa4{n xs:Nat}{jj:List Int}{d:Nat->Int}:(mixL n xs jj d).length=n:=by simp[mixL]
theorem mixL_at{n xs i:Nat}{jj:List Int}{d:Nat->Int}(h:i<n):(mixL n xs jj d).getD i 0=mixF xs jj d i:=by
 unfold mixL
 rw[List.getD_eq_getElem?_getD,List.getElem?_map,List.getElem?_eq_getElem (by simpa using h)]
 simp
theorem preL_mix{n xs:Nat}{jj:List Int}{d:Nat->Int}:preL (mixF xs jj d) n n=mixL n xs jj d:=Qe2
abbrev actL(n xs:Nat)(jj:List Int):List Int:=mixL n xs jj (fun _=> -1)
theorem Qi4{N:List Mc}{xs:Nat}{jj:List Int}(hc: ∀k,k<N.length->1<=(N.getD k mc0).c/\(N.getD k mc0).c<=4)(hv:valT (cdT N) jj N.length):setB N (actL N.length xs jj)=true:=Qge.2 ⟨Qa4,fun k hk=>by
 rw[mixL_at hk]
 have h1:=hc k hk
 have h2:=hv k hk
 rw[Qii hk]at h2
 unfold mixF
 split
 ·omega
 ·dsimp only;omega⟩
abbrev mdO(g:Int)(n:Nat)(R:List V)(q:Nat)(N:List V):O:=.row 26 none [i6 g,.im n R,.im q N]
abbrev ernO(e:Int):O:=.row 31 none [i6 e]
section
variable (ga:Int) (na:Nat) (RA:List V) (gb:Int) (nb:Nat) (RB:List V) (q:Nat) (NA NB:List V) (cs:List Int) (xs ys:Nat) (jj:List Int)
abbrev f1S(x:Nat×List Int):SL:={sl:=[(4,u6 (ys:Nat)),(6,.ptr 0 0),(7,.ptr 1 0),(8,.ptr 2 0),(9,.ptr 3 0),(11,.ptr 4 0),(12,.ptr 5 0),(13,.ptr 6 0),(14,.sl 7 0 q (some (q-q))),(29,i6 (q:Nat)),(30,i6 (x.1:Nat))],os:=[mdO ga na RA q NA,mdO gb nb RB q NB,eoO (.im q (ints cs)),euO xs,eoO (.im q (ints jj)),eoO .nils,ernO 0,rw3 x.2]}
abbrev f1X(act:List Int):SL:={sl:=[(4,u6 (ys:Nat)),(6,.ptr 0 0),(7,.ptr 1 0),(8,.ptr 2 0),(9,.ptr 3 0),(11,.ptr 4 0),(12,.ptr 5 0),(13,.ptr 6 0),(14,.im q (ints act))],os:=[mdO ga na RA q NA,mdO gb nb RB q NB,eoO (.im q (ints cs)),euO xs,eoO (.im q (ints jj)),eoO .nils,ernO 0]}
variable (hRA:HfL RA) (hRB:HfL RB) (hNA:HfL NA) (hNB:HfL NB) (h5:q<=5) (hcl:cs.length=q) (hvl:jj.length=q)
include hRA hRB hNA hNB h5 hcl hvl
theorem Qre:Sat Pg none 0 (at' 30 [1,1,0,1,0]) (mkSt g0 123 (f1S ga na RA gb nb RB q NA NB cs xs ys jj (0,preL (mixF xs jj fun _=> -1) q 0))) (Qad g0 123 [(True,.exit 0,f1X ga na RA gb nb RB q NA NB cs xs ys jj (actL q xs jj))]):=by
 have hcc:=Qaa cs
 have hvv:=Qaa jj
 rw[show actL q xs jj=preL (mixF xs jj fun _=> -1) q q from preL_mix.symm]
 refine Qav vE_ok mixed Qab (b:=at' 30 [1,1,0,1,0,0]) k_ (fun x=>x.1<=q/\x.2=preL (mixF xs jj fun _=> -1) q x.1) (f1S ga na RA gb nb RB q NA NB cs xs ys jj) (fun x=>q-x.1) (fun x hx=>?_) (0,preL (mixF xs jj fun _=> -1) q 0) ⟨Nat.zero_le _,rfl⟩
 obtain⟨k,a⟩:=x
 obtain⟨hk,ha⟩:=hx
 dsimp only at hk ha
 by_cases hlt:k<q
 ·have w1 := Qdd (G := Qac Pg) (t := 29) (x := xs) (k := k) o_
  have w2:=Qcj (G:=Qac Pg) (t:=29) (x:=xs/2^k)
  have b01:=bit01 xs k
  have la:a.length=q:=by rw[ha,Qa0]
  have e:=Qdz (f:=mixF xs jj fun _=> -1) (n:=q) (k:=k)
  rw[<-ha]at e
  have l2:=Qa0 (f:=mixF xs jj fun _=> -1) (n:=q) (k:=k+1)
  have s1:=Qa3 (l:=a) (j:=k) (x:= -1) o_
  cases kp:xs.testBit k with
  |false=>
   have hx2:=b01.2.1 kp
   have em:mixF xs jj (fun _=> -1) k= -1:=by unfold mixF;rw[if_neg (by rw[kp];simp)]
   rw[em]at e
   rw[e]at s1
   refine .inl ⟨(k+1,preL (mixF xs jj fun _=> -1) q (k+1)),[0,1,2,3,4,5,6,7],[yes 31,pl 35,st (ints (preL (mixF xs jj fun _=> -1) q (k+1))),va 38 (u6 (xs/2^k:Nat)),va 39 (u6 (xs/2^k%2:Nat)),no 40,nu 48 ((k+1:Nat):Int)],1000,⟨hlt,rfl⟩,by dsimp only;omega,?_⟩
   clear e em ha b01
   generalize preL (mixF xs jj fun _=> -1) q (k+1)=a2 at*
   have h1:=Qaa a
   have h2:=Qaa a2
   generalize xs/2^k=t at*
   refine m_ (p:=let z0:=(k:Int);let z1:=(q:Int);Bn [decide (z0<z1)=true,An [(0:Int)<=z0,z0<z1],layE (0+k*1) (ints a) [i6 (-1)]=some (ints a2),binV (Qac Try.prog) BinOp.shr 29 (u6 xs) (i6 k)=some (u6 t),binV (Qac Try.prog) BinOp.and 29 (u6 t) (u6 1)=some (u6 ↑(t%2)),((↑(t%2):Int)==1)=false,wr .i64 (z0+1)=(↑(k+1):Int),Bn [Sm (ys:Int),Zz,Zz,Zz,Zz,Zz,Zz,Zz,An [Zz,q=q,Sm (q-q)],Sm z1,Sm (↑(k+1):Int)],An [Sm [i6 ga,V.im na RA,V.im q NA],TT 3],An [Sm [i6 gb,V.im nb RB,V.im q NB],TT 3],Bn [Sm [V.im q (ints cs)],Tt],Bn [Sm [u6 xs],Tt],Bn [Sm [V.im q (ints jj)],Tt],Bn [Sm [V.nils],Tt],Bn [Sm [i6 0],Tt],An [Sm (ints a2),HfL (ints a2)]]) ?_
   (repeat'(first|(with_reducible apply And.intro)|(refine fun(_:True)=>?_)))<;>first|exact aq|skip
   all_goals first|exact w1|exact w2|exact s1|(rw[hx2];rfl)|skip
  |true=>
   have hx2:=b01.1.1 kp
   have em:mixF xs jj (fun _=> -1) k=jj.getD k 0:=by unfold mixF;rw[if_pos kp]
   rw[em]at e
   have s3:=Qag (l:=jj) (k:=k) o_
   have l1:(a.set k (-1)).length=q:=by rw[List.length_set];exact la
   have s2:=Qa3 (l:=a.set k (-1)) (j:=k) (x:=jj.getD k 0) o_
   rw[List.set_set,e]at s2
   refine .inl ⟨(k+1,preL (mixF xs jj fun _=> -1) q (k+1)),[0,1,2,3,4,5,6,7],[yes 31,pl 35,st (ints (a.set k (-1))),va 38 (u6 (xs/2^k:Nat)),va 39 (u6 (xs/2^k%2:Nat)),yes 40,pl 45,ld 46 (i6 (jj.getD k 0)),pl 47,st (ints (preL (mixF xs jj fun _=> -1) q (k+1))),nu 48 ((k+1:Nat):Int)],1000,⟨hlt,rfl⟩,by dsimp only;omega,?_⟩
   clear e em ha b01
   generalize preL (mixF xs jj fun _=> -1) q (k+1)=a2 at*
   generalize a.set k (-1)=a1 at*
   have h1:=Qaa a
   have h2:=Qaa a2
   have h3:=Qaa a1
   generalize jj.getD k 0=z at*
   generalize xs/2^k=t at*
   refine m_ (p:=let z0:=(k:Int);let z1:=(q:Int);let z2:=(↑(k+1):Int);let z3:=[i6 ga,V.im na RA,V.im q NA];let z4:=[i6 gb,V.im nb RB,V.im q NB];let z5:=ints jj;Bn [decide (z0<z1)=true,An [(0:Int)<=z0,z0<z1],layE (0+k*1) (ints a) [i6 (-1)]=some (ints a1),binV (Qac Try.prog) BinOp.shr 29 (u6 xs) (i6 k)=some (u6 t),binV (Qac Try.prog) BinOp.and 29 (u6 t) (u6 1)=some (u6 ↑(t%2)),((↑(t%2):Int)==1)=true,An [(0:Int)<=z0,z0<z1],headF (List.drop (k*1) z5)=some (i6 z),An [(0:Int)<=z0,z0<z1],layE (0+k*1) (ints a1) [i6 z]=some (ints a2),wr .i64 (z0+1)=z2,Bn [Sm (ys:Int),Zz,Zz,Zz,Zz,Zz,Zz,Zz,An [Zz,q=q,Sm (q-q)],z1=z1,z2=z2],An [z3=z3,TT 3],An [z4=z4,TT 3],Bn [Sm [V.im q (ints cs)],Tt],Bn [Sm [u6 xs],Tt],Bn [Sm [V.im q z5],Tt],Bn [Sm [V.nils],Tt],Bn [Sm [i6 0],Tt],An [Sm (ints a2),HfL (ints a2)]]) ?_
   (repeat'(first|(with_reducible apply And.intro)|(refine fun(_:True)=>?_)))<;>first|exact aq|skip
   all_goals first|exact w1|exact w2|exact s1|exact s2|exact s3|(rw[hx2];rfl)|skip
 ·have hk2 : k = q := by omega
  subst hk2
  subst ha
  have l2:=Qa0 (f:=mixF xs jj fun _=> -1) (n:=k) (k:=k)
  refine .inr ⟨.exit 0,[0,1,2,3,4,5,6],_,[no 31],1000,.inl ⟨trivial,rfl,rfl⟩,?_⟩
  generalize preL (mixF xs jj fun _=> -1) k k=a2 at*
  have h2:=Qaa a2
  refine m_ (p:=Bn [decide ((k:Int)<(k:Int))=false,Bn [Sm (ys:Int),Zz,Zz,Zz,Zz,Zz,Zz,Zz,An [k=k,Sm (ints a2),HfL (ints a2)]],An [Sm [i6 ga,V.im na RA,V.im k NA],TT 3],An [Sm [i6 gb,V.im nb RB,V.im k NB],TT 3],Bn [Sm [V.im k (ints cs)],Tt],Bn [Sm [u6 xs],Tt],Bn [Sm [V.im k (ints jj)],Tt],Bn [Sm [V.nils],Tt],Bn [Sm [i6 0],Tt]]) ?_
  (repeat'(first|(with_reducible apply And.intro)|(refine fun(_:True)=>?_)))<;>first|exact aq|skip
  all_goals first|rfl|skip
end
set_option maxHeartbeats 1000000
set_option maxRecDepth 100000
noncomputable abbrev f2C:Code:=at' 30 [1,1,1,1,1,1,1,1,1,0,1,0]
theorem f2_eq:f2C= .rangeFunc (.tmp 77) #[78] (Qeh f2C) (Qbb f2C):=by kernel_rfl
noncomputable def f2B:Code:=Qbb f2C
noncomputable def f2A:Code:=Qeh f2C
abbrev f20(v:V):List (Nat×V):=[(8,.ptr 2 0),(9,.ptr 3 0),(11,.ptr 4 0),(12,.ptr 5 0),(13,.ptr 6 0),(16,.ptr 7 0),(18,.ptr 8 0),(19,.ptr 9 0),(20,.ptr 10 0),(21,.ptr 11 0),(78,v)]
abbrev f21(v:V):List (Nat×V):=[(8,.ptr 2 0),(9,.ptr 3 0),(11,.ptr 4 0),(12,.ptr 5 0),(13,.ptr 6 0),(16,.ptr 7 0),(18,.ptr 8 0),(19,.ptr 9 0),(20,.ptr 10 0),(21,.ptr 11 0),(22,v)]
theorem Qrf(v:V)(H:T O)(nx:Nat):vc Pg vE sp0 (some 12) nx 1000 f2A [] (mkSo g0 123 (f20 v) H nx []) (kAsg 123 (f21 v) H nx):=by
 refine m_ (p:=An [Bn [Sm (V.ptr 2 0),Sm (V.ptr 3 0),Sm (V.ptr 4 0),Sm (V.ptr 5 0),Sm (V.ptr 6 0),Sm (V.ptr 7 0),Sm (V.ptr 8 0),Sm (V.ptr 9 0),Sm (V.ptr 10 0),Sm (V.ptr 11 0),v=v],H=H,nx=nx,([]:List Nat)=[]]) ?_
 (repeat'(first|(with_reducible apply And.intro)|(refine fun(_:True)=>?_)))<;>first|exact aq|skip
 all_goals skip
theorem Qrh{X Y:List Int}{P:Nat}{wA wB:Int}(hXb: ∀i,i<P->0<=X.getD i 0/\X.getD i 0<=429981696)(hYb: ∀i,i<P->0<=Y.getD i 0/\Y.getD i 0<=429981696)(hwA:1<=wA/\wA<=429981696)(hwB:1<=wB/\wB<=429981696)(k:Nat)(hk:k<P):0<=X.getD k 0*wB/\X.getD k 0*wB<=184884258895036416/\0<=Y.getD k 0*wA/\Y.getD k 0*wA<=184884258895036416:=by
 have h1:=hXb k hk
 have h2:=hYb k hk
 have a:=Int.mul_nonneg h1.1 (show 0<=wB by omega)
 have b:=Int.mul_nonneg h2.1 (show 0<=wA by omega)
 have c:=Int.mul_le_mul h1.2 hwB.2 o_ d_
 have d:=Int.mul_le_mul h2.2 hwA.2 o_ d_
 exact⟨a,by omega,b,by omega⟩
section
variable (ga:Int) (na:Nat) (RA:List V) (gb:Int) (nb:Nat) (RB:List V) (q:Nat) (NA NB:List V) (cs:List Int) (xs:Nat) (jj:List Int) (X Y:List Int) (P:Nat) (wA wB:Int)
abbrev f2O(r:V)(k:Int):List O:=[mdO ga na RA q NA,mdO gb nb RB q NB,eoO (.im q (ints cs)),euO xs,eoO (.im q (ints jj)),eoO r,ernO 0,eoO (.im P (ints X)),eoO (.im P (ints Y)),cnO wA,cnO wB,cnO k]
variable (hRA:HfL RA) (hRB:HfL RB) (hNA:HfL NA) (hNB:HfL NB) (h5:q<=5) (hcl:cs.length=q) (hvl:jj.length=q) (hX:X.length=P) (hY:Y.length=P) (hP:P<=1024)
 (hXb: ∀i,i<P->0<=X.getD i 0/\X.getD i 0<=429981696) (hYb: ∀i,i<P->0<=Y.getD i 0/\Y.getD i 0<=429981696) (hwA:1<=wA/\wA<=429981696) (hwB:1<=wB/\wB<=429981696)
include hRA hRB hNA hNB h5 hcl hvl hX hY hP hXb hYb hwA hwB
theorem f2_same(k:Nat)(hk:k<P)(he:X.getD k 0*wB=Y.getD k 0*wA)(v:V)(u:List Int)(hu:u.length=q)(Lb:O):
  vc Pg vE sp0 (some 12) 14 1000 f2B [pl 81,ld 82 (i6 (X.getD k 0)),nu 84 (X.getD k 0*wB),pl 87,ld 88 (i6 (Y.getD k 0)),nu 90 (Y.getD k 0*wA),no 91,nu 122 ((k+1:Nat):Int)] (mkSo g0 123 (f21 v) (ofOs .e 0 (f2O ga na RA gb nb RB q NA NB cs xs jj X Y P wA wB .nils k++[Lb,rw3 u])) 14 [12]) (kBdy (ofOs .e 0 (f2O ga na RA gb nb RB q NA NB cs xs jj X Y P wA wB .nils ((k+1:Nat):Int)++[Lb,rw3 u])) 14 [11,12]):=by
 have s1:=Qag (l:=X) (k:=k) o_
 have s2:=Qag (l:=Y) (k:=k) o_
 have b:=Qrh hXb hYb hwA hwB k hk
 have hcc:=Qaa cs
 have hvv:=Qaa jj
 have hxx:=Qaa X
 have hyy:=Qaa Y
 clear hXb hYb
 generalize hp:X.getD k 0*wB=p at*
 generalize hp2:Y.getD k 0*wA=p2 at*
 generalize X.getD k 0=x at*
 generalize Y.getD k 0=y at*
 refine m_ (p:=let z0:=(k:Int);An [An [(0:Int)<=z0,z0<(P:Int)],headF (List.drop (k*1) (ints X))=some (i6 x),wr .i64 (x*wB)=p,An [(0:Int)<=z0,z0<(P:Int)],headF (List.drop (k*1) (ints Y))=some (i6 y),wr .i64 (y*wA)=p2,(p != p2)=false,wr .i64 (z0+1)=(↑(k+1):Int),pt (ofOs T.e 0 (f2O ga na RA gb nb RB q NA NB cs xs jj X Y P wA wB V.nils z0++[Lb,rw3 u])) 11 (O.row 3 none [i6 ↑(k+1)])=ofOs T.e 0 (f2O ga na RA gb nb RB q NA NB cs xs jj X Y P wA wB V.nils (↑(k+1):Int)++[Lb,rw3 u]),14=14,∀(g:Nat),List.Mem g ([11]++[12])->List.Mem g [11,12]]) ?_
 (repeat'(first|(with_reducible apply And.intro)|(refine fun(_:True)=>?_)))<;>first|exact aq|skip
 all_goals first|exact s1|exact s2|(rw[hp,wr6 o_ o_];done)|(rw[hp2,wr6 o_ o_];done)|(intro g hg;change g∈[11,12]at hg;exact hg)|kernel_rfl|skip
abbrev f3S(q:Nat)(v:V)(k:Nat):List (Nat×V):=[(9,.ptr 3 0),(11,.ptr 4 0),(12,.ptr 5 0),(13,.ptr 6 0),(22,v),(23,.sl 14 0 q (some (q-q))),(96,i6 (q:Nat)),(97,i6 (k:Nat))]
abbrev f3X(q:Nat):List (Nat×V):=[(12,.ptr 5 0),(13,.ptr 6 0),(23,.sl 14 0 q (some (q-q)))]
end
section
variable (q xs:Nat) (jj:List Int) (h5:q<=5) (hvl:jj.length=q)
include h5 hvl
theorem f3_in(u:List Int)(hu:u.length=q)(nx0 nx:Nat)(H0:T O)(L lg0:List Nat)(hL:14∈L)(hlg:SubL lg0 L)(h3:gt H0 3=some (euO xs))(h4:gt H0 4=some (eoO (.im q (ints jj))))(h13:gt H0 13=some (rw3 u)):
  Sat Pg (some 12) nx0 (sub [0,0,1,0,1,0,1,0] (Qbb f2C)) (mkSo g0 123 (f3S q (.sl 13 0 q (some (q-q))) 0) (pt H0 14 (rw3 (preL (mixF xs jj fun i=>u.getD i 0) q 0))) nx lg0) (Qbq g0 123 (.exit 4) (fun _=>f3X q) (fun _ H n lg=>H=pt H0 14 (rw3 (mixL q xs jj fun i=>u.getD i 0))/\n=nx/\SubL lg L)):=by
 have hvv:=Qaa jj
 refine(Qha (b:=sub [0,0,1,0,1,0,1,0,0] (Qbb f2C)) k_ (fun(k:Nat) M=>k<=q/\M.H=pt H0 14 (rw3 (preL (mixF xs jj fun i=>u.getD i 0) q k))/\M.nx=nx/\SubL M.lg L) (fun k=>f3S q (.sl 13 0 q (some (q-q))) k) (fun k=>q-k) (fun e sl M=>e= .exit 4/\sl=f3X q/\M.H=pt H0 14 (rw3 (mixL q xs jj fun i=>u.getD i 0))/\M.nx=nx/\SubL M.lg L) (fun k H nx1 lg G hI hN hE hR=>?_) 0 ⟨_,_,_⟩ ⟨Nat.zero_le _,rfl,rfl,hlg⟩).mono ?_
 ·obtain ⟨hk, rfl, rfl, hs⟩ := hI
  dsimp only at hk hs
  by_cases hlt:k<q
  ·have w1 := Qdd (G := Qac Pg) (t := 29) (x := xs) (k := k) o_
   have w2:=Qcj (G:=Qac Pg) (t:=29) (x:=xs/2^k)
   have b01:=bit01 xs k
   have la:=Qa0 (f:=mixF xs jj fun i=>u.getD i 0) (n:=q) (k:=k)
   have e:=Qdz (f:=mixF xs jj fun i=>u.getD i 0) (n:=q) (k:=k)
   have l2:=Qa0 (f:=mixF xs jj fun i=>u.getD i 0) (n:=q) (k:=k+1)
   have s0:=Qbo (l:=u) (k:=k) o_
   have jg:=fun H lg' eH h=>hN (k+1) H nx1 lg' ⟨hlt,eH,rfl,h⟩ o_
   generalize preL (mixF xs jj fun i=>u.getD i 0) q (k+1)=a2 at*
   generalize preL (mixF xs jj fun i=>u.getD i 0) q k=a at*
   have s1:=Qa3 (l:=a) (j:=k) (x:=u.getD k 0) o_
   have g1:gt (pt H0 14 (rw3 a)) 14=some (rw3 a):=by rw[gt_pt,if_pos rfl]
   have g2:gt (pt H0 14 (rw3 a)) 13=some (rw3 u):=by rw[gt_pt,if_neg d_];exact h13
   cases kp:xs.testBit k with
   | false =>
    have hx2:=b01.2.1 kp
    have em:mixF xs jj (fun i=>u.getD i 0) k=u.getD k 0:=by unfold mixF;rw[if_neg (by rw[kp];simp)]
    rw[em]at e
    rw[e]at s1
    have g3:gt (pt (pt H0 14 (rw3 a)) 14 (rw3 a2)) 3=some (euO xs):=by rw[gt_pt,if_neg d_,gt_pt,if_neg d_];exact h3
    have hn2:=jg (pt (pt H0 14 (rw3 a)) 14 (rw3 a2)) ([14]++lg) (by rw[Qhm]) (fun g hg=>by
     rcases List.mem_cons.1 hg with rfl|hg
     ·exact hL
     ·exact hs g hg)
    refine⟨[yes 98,pl 104,lo_ 105 (rw3 u) (i6 (u.getD k 0)),pl 106,so (rw3 a) (ints a2),lo_ 107 (euO xs) (u6 (xs:Nat)),va 109 (u6 (xs/2^k:Nat)),va 110 (u6 (xs/2^k%2:Nat)),no 111,nu 119 ((k+1:Nat):Int),toO (f3S q (.sl 13 0 q (some (q-q))) (k+1))],1000,?_⟩
    clear hN hE hR e em b01 jg
    generalize u.getD k 0=z at*
    generalize xs/2^k=t at*
    refine m_ (p:=let z1:=(k:Int);let z2:=some (q-q);let z3:=pt H0 14 (rw3 a);let z5:=(q:Int);let z0:=pt z3 14 (O.row 3 none (ints a2));let z4:=V.sl 13 0 q z2;Bn [decide (z1<z5)=true,An [(0:Int)<=z1,z1<z5],gt z3 13=some (rw3 u),headF (dropF (0+k*1) (ints u))=some (i6 z),An [(0:Int)<=z1,z1<z5],An [gt z3 14=some (rw3 a),layE (0+k*1) (ints a) [i6 z]=some (ints a2)],gt z0 3=some (euO xs),headF [u6 xs]=some (u6 xs),binV (Qac Try.prog) BinOp.shr 29 (u6 xs) (i6 k)=some (u6 t),binV (Qac Try.prog) BinOp.and 29 (u6 t) (u6 1)=some (u6 ↑(t%2)),((↑(t%2):Int)==1)=false,wr .i64 (z1+1)=(↑(k+1):Int),G Ex.normal (f3S q z4 (k+1)) z0 nx1 ([14]++lg),Sm (V.ptr 3 0),Sm (V.ptr 4 0),Sm (V.ptr 5 0),Sm (V.ptr 6 0),z4=z4,Sm (V.sl 14 0 q z2),Sm (i6 q),Sm (i6 ↑(k+1))]) ?_
    (repeat'(first|(with_reducible apply And.intro)|(refine fun(_:True)=>?_)))<;>first|exact aq|skip
    all_goals first|exact w1|exact w2|exact s0|exact s1|exact g1|exact g2|exact g3|exact hn2|(rw[hx2];rfl)|rfl|skip
   | true =>
    have hx2:=b01.1.1 kp
    have em:mixF xs jj (fun i=>u.getD i 0) k=jj.getD k 0:=by unfold mixF;rw[if_pos kp]
    rw[em]at e
    have s3:=Qag (l:=jj) (k:=k) o_
    have l1:(a.set k (u.getD k 0)).length=q:=by rw[List.length_set];exact la
    have s2:=Qa3 (l:=a.set k (u.getD k 0)) (j:=k) (x:=jj.getD k 0) o_
    rw[List.set_set,e]at s2
    generalize a.set k (u.getD k 0)=a1 at*
    have g3:gt (pt (pt H0 14 (rw3 a)) 14 (rw3 a1)) 3=some (euO xs):=by rw[gt_pt,if_neg d_,gt_pt,if_neg d_];exact h3
    have g4:gt (pt (pt H0 14 (rw3 a)) 14 (rw3 a1)) 4=some (eoO (.im q (ints jj))):=by rw[gt_pt,if_neg d_,gt_pt,if_neg d_];exact h4
    have g5:gt (pt (pt H0 14 (rw3 a)) 14 (rw3 a1)) 14=some (rw3 a1):=by rw[gt_pt,if_pos rfl]
    have hn2:=jg (pt (pt (pt H0 14 (rw3 a)) 14 (rw3 a1)) 14 (rw3 a2)) ([14]++([14]++lg)) (by rw[Qhm,Qhm]) (fun g hg=>by
     rcases List.mem_cons.1 hg with rfl|hg
     ·exact hL
     ·rcases List.mem_cons.1 hg with rfl | hg
      ·exact hL
      ·exact hs g hg)
    refine⟨[yes 98,pl 104,lo_ 105 (rw3 u) (i6 (u.getD k 0)),pl 106,so (rw3 a) (ints a1),lo_ 107 (euO xs) (u6 (xs:Nat)),va 109 (u6 (xs/2^k:Nat)),va 110 (u6 (xs/2^k%2:Nat)),yes 111,lo_ 114 (eoO (.im q (ints jj))) (.im q (ints jj)),pl 116,ld 117 (i6 (jj.getD k 0)),pl 118,so (rw3 a1) (ints a2),nu 119 ((k+1:Nat):Int),toO (f3S q (.sl 13 0 q (some (q-q))) (k+1))],1000,?_⟩
    clear hN hE hR e em b01 jg
    generalize u.getD k 0=z at*
    generalize jj.getD k 0=z2 at*
    generalize xs/2^k=t at*
    refine m_ (p:=let z1:=(k:Int);let z3:=some (q-q);let z4:=(q:Int);let z5:=V.im q (ints jj);let z6:=pt H0 14 (rw3 a);let z8:=(0:Int);let z0:=pt z6 14 (O.row 3 none (ints a1));let z7:=V.sl 13 0 q z3;Bn [decide (z1<z4)=true,An [z8<=z1,z1<z4],gt z6 13=some (rw3 u),headF (dropF (0+k*1) (ints u))=some (i6 z),An [z8<=z1,z1<z4],An [gt z6 14=some (rw3 a),layE (0+k*1) (ints a) [i6 z]=some (ints a1)],gt z0 3=some (euO xs),headF [u6 xs]=some (u6 xs),binV (Qac Try.prog) BinOp.shr 29 (u6 xs) (i6 k)=some (u6 t),binV (Qac Try.prog) BinOp.and 29 (u6 t) (u6 1)=some (u6 ↑(t%2)),((↑(t%2):Int)==1)=true,gt z0 4=some (eoO z5),headF [z5]=some z5,An [z8<=z1,z1<z4],headF (List.drop (k*1) (ints jj))=some (i6 z2),An [z8<=z1,z1<z4],An [gt z0 14=some (rw3 a1),layE (0+k*1) (ints a1) [i6 z2]=some (ints a2)],wr .i64 (z1+1)=(↑(k+1):Int),G Ex.normal (f3S q z7 (k+1)) (pt z0 14 (O.row 3 none (ints a2))) nx1 ([14]++([14]++lg)),Sm (V.ptr 3 0),Sm (V.ptr 4 0),Sm (V.ptr 5 0),Sm (V.ptr 6 0),z7=z7,Sm (V.sl 14 0 q z3),Sm (i6 q),Sm (i6 ↑(k+1))]) ?_
    (repeat'(first|(with_reducible apply And.intro)|(refine fun(_:True)=>?_)))<;>first|exact aq|skip
    all_goals first|exact w1|exact w2|exact s0|exact s1|exact s2|exact s3|exact g1|exact g2|exact g3|exact g4|exact g5|exact hn2|(rw[hx2];rfl)|rfl|skip
  ·have hk2 : k = q := by omega
   subst hk2
   have hex:=hE 4 (f3X k) (pt H0 14 (rw3 (preL (mixF xs jj fun i=>u.getD i 0) k k))) nx1 lg ⟨rfl,rfl,by dsimp only;rw[preL_mix],rfl,hs⟩
   refine⟨[no 98,toO (f3X k)],1000,?_⟩
   clear hN hE hR
   generalize preL (mixF xs jj fun i=>u.getD i 0) k k=a at*
   refine m_ (p:=Bn [decide ((k:Int)<(k:Int))=false,G (Ex.exit 4) (f3X k) (pt H0 14 (rw3 a)) nx1 lg,Sm (V.ptr 5 0),Sm (V.ptr 6 0),Sm (V.sl 14 0 k (some (k-k)))]) ?_
   (repeat'(first|(with_reducible apply And.intro)|(refine fun(_:True)=>?_)))<;>first|exact aq|skip
   all_goals first|exact hex|skip
 ·rintro e st ⟨sl', M', rfl, rfl, rfl, hQ⟩
  exact⟨0,_,_,_,rfl,rfl,hQ⟩
end
set_option maxHeartbeats 1000000
set_option maxRecDepth 100000
section
variable (ga:Int) (na:Nat) (RA:List V) (gb:Int) (nb:Nat) (RB:List V) (q:Nat) (NA NB:List V) (cs:List Int) (xs:Nat) (jj:List Int) (X Y:List Int) (P:Nat) (wA wB:Int)
variable (hRA:HfL RA) (hRB:HfL RB) (hNA:HfL NA) (hNB:HfL NB) (h5:q<=5) (hcl:cs.length=q) (hvl:jj.length=q) (hX:X.length=P) (hY:Y.length=P) (hP:P<=1024)
 (hXb: ∀i,i<P->0<=X.getD i 0/\X.getD i 0<=429981696) (hYb: ∀i,i<P->0<=Y.getD i 0/\Y.getD i 0<=429981696) (hwA:1<=wA/\wA<=429981696) (hwB:1<=wB/\wB<=429981696)
include hRA hRB hNA hNB h5 hcl hvl hX hY hP hXb hYb hwA hwB
theorem Qrg(k:Nat)(hk:k<P)(he:X.getD k 0*wB≠Y.getD k 0*wA)(u:List Int)(hu:u.length=q)(Lb:O):
  ∃hsb:Hs,vc Pg vE sp0 (some 12) 14 1000 f2B hsb (mkSo g0 123 (f21 (.sl 13 0 q (some (q-q)))) (ofOs .e 0 (f2O ga na RA gb nb RB q NA NB cs xs jj X Y P wA wB .nils k++[Lb,rw3 u])) 14 [12]) (kRetB (ofOs .e 0 (f2O ga na RA gb nb RB q NA NB cs xs jj X Y P wA wB (.sl 14 0 q (some (q-q))) k++[Lb,rw3 u,rw3 (mixL q xs jj fun i=>u.getD i 0)])) 15 [5,6,11,12,14]):=by
 have s1:=Qag (l:=X) (k:=k) o_
 have s2:=Qag (l:=Y) (k:=k) o_
 have b:=Qrh hXb hYb hwA hwB k hk
 have hcc:=Qaa cs
 have hvv:=Qaa jj
 have hxx:=Qaa X
 have hyy:=Qaa Y
 have hin:=f3_in q xs jj h5 hvl u hu 14 15 (ofOs .e 0 (f2O ga na RA gb nb RB q NA NB cs xs jj X Y P wA wB .nils k++[Lb,rw3 u])) [5,6,11,12,14] [12] (by simp) (fun g hg=>by simp at hg;subst hg;simp) rfl rfl rfl
 have hz:rw3 (List.replicate q 0)= .row 3 none (rep q [i6 0]):=by rw[Qay]
 rw[Qcg,hz]at hin
 have hml:(mixL q xs jj fun i=>u.getD i 0).length=q:=Qa4
 generalize (mixL q xs jj fun i=>u.getD i 0)=mx at*
 refine⟨[pl 81,ld 82 (i6 (X.getD k 0)),nu 84 (X.getD k 0*wB),pl 87,ld 88 (i6 (Y.getD k 0)),nu 90 (Y.getD k 0*wA),yes 91,mk 94,(0,.loopM (f3S q (.sl 13 0 q (some (q-q))) 0) (.exit 4) (fun _=>f3X q) (fun _ H n lg=>H=pt (ofOs .e 0 (f2O ga na RA gb nb RB q NA NB cs xs jj X Y P wA wB .nils k++[Lb,rw3 u])) 14 (rw3 mx)/\n=15/\SubL lg [5,6,11,12,14]) (fun _ _ _ _=>[so (eoO .nils) [.sl 14 0 q (some (q-q))],so (ernO 0) [i6 0]]))],?_⟩
 clear hXb hYb hz
 generalize hp:X.getD k 0*wB=p at*
 generalize hp2:Y.getD k 0*wA=p2 at*
 generalize X.getD k 0=x at*
 generalize Y.getD k 0=y at*
 refine m_ (p:=let z3:=V.sl 14 0 q (some (q-q));let z4:=Op.move (Operand.tmp 24);let z5:=Edge.mk 0 Ground.data;let z6:=(k:Int);let z7:=V.sl 13 0 q (some (q-q));let z8:=Operand.const (Value.int IntKind.u64 (1:Int));let z9:= #[Edge.mk 2 Ground.data,Edge.mk 3 Ground.data];let y0:=(q:Int);let y1:=Edge.mk 0 Ground.phase;let y2:=[5,6,11,12,14];let y3:=Operand.tmp 97;let y4:=Op.move (Operand.tmp 23);let y5:= #[Edge.mk 4 Ground.data];let y6:=(0:Int);let y8:=Edge.mk 1 Ground.phase;let y9:=Edge.mk 2 Ground.phase;let x0:=Edge.mk 3 Ground.phase;let x1:=Edge.mk 4 Ground.phase;let x2:=Edge.mk 5 Ground.phase;let z0:=ofOs T.e 0 (f2O ga na RA gb nb RB q NA NB cs xs jj X Y P wA wB V.nils z6++[Lb,rw3 u]);let z1:= #[z5,Edge.mk 1 Ground.data,y1,y8,y9,x0,x1,x2];let z2:= #[Edge.mk 6 Ground.data,Edge.mk 5 Ground.data,y1,y8,y9,x0,x1,x2];let y7:=O.row 36 none [z3];An [An [y6<=z6,z6<(P:Int)],headF (List.drop (k*1) (ints X))=some (i6 x),wr .i64 (x*wB)=p,An [y6<=z6,z6<(P:Int)],headF (List.drop (k*1) (ints Y))=some (i6 y),wr .i64 (y*wA)=p2,(p != p2)=true,An [y6<=y0,y0<=y0,((8:Nat):Int)*y0<=281474976710656,y0<=9223372036854775807],Bn [Sm (V.ptr 3 0),Sm (V.ptr 4 0),Sm (V.ptr 5 0),Sm (V.ptr 6 0),z7=z7,z3=z3,Sm (i6 q),i6 0=i6 ↑(0:Nat)],Sat Pg (some 12) 14 (Code.loop (Code.seq (Code.region 22 #[Oper.mk (some 98) (Op.binOp BinOp.lss 3 y3 (Operand.tmp 96) 3) 0 "witness.go:203" #[] none] false) (Code.seq (Code.cond (Operand.tmp 98) Code.skip (Code.exit 4)) (Code.seq (Code.block 5 (Code.seq (Code.region 23 #[Oper.mk (some 99) (Op.move y3) 3 "witness.go:203" #[] none,Oper.mk (some 24) (Op.assign (Operand.tmp 99)) 3 "witness.go:203" #[z5,y1] none] false) (Code.seq (Code.region 24 #[Oper.mk (some 100) y4 36 "witness.go:204" #[] none,Oper.mk (some 101) z4 3 "witness.go:204" #[] none,Oper.mk (some 102) (Op.move (Operand.tmp 22)) 36 "witness.go:204" #[] none,Oper.mk (some 103) z4 3 "witness.go:204" #[] none,Oper.mk (some 104) (Op.indexAddr 36 (Operand.tmp 102) (Operand.tmp 103)) 0 "witness.go:204" z9 none,Oper.mk (some 105) (Op.load 3 (Operand.tmp 104)) 3 "witness.go:204" y5 none,Oper.mk (some 106) (Op.indexAddr 36 (Operand.tmp 100) (Operand.tmp 101)) 0 "witness.go:204" z1 none,Oper.mk none (Op.store 3 (Operand.tmp 106) (Operand.tmp 105)) 0 "witness.go:204" z2 none] false) (Code.seq (Code.region 25 #[Oper.mk (some 107) (Op.load 29 (Operand.tmp 9)) 29 "witness.go:205" #[] none,Oper.mk (some 108) z4 3 "witness.go:205" #[] none,Oper.mk (some 109) (Op.binOp BinOp.shr 29 (Operand.tmp 107) (Operand.tmp 108) 3) 29 "witness.go:205" #[z5,Edge.mk 1 Ground.data] none,Oper.mk (some 110) (Op.binOp BinOp.and 29 (Operand.tmp 109) z8 29) 29 "witness.go:205" #[Edge.mk 2 Ground.data] none,Oper.mk (some 111) (Op.binOp BinOp.eql 29 (Operand.tmp 110) z8 29) 4 "witness.go:205" #[Edge.mk 3 Ground.data] none] false) (Code.cond (Operand.tmp 111) (Code.region 26 #[Oper.mk (some 112) y4 36 "witness.go:206" #[] none,Oper.mk (some 113) z4 3 "witness.go:206" #[] none,Oper.mk (some 114) (Op.load 36 (Operand.tmp 11)) 36 "witness.go:206" #[] none,Oper.mk (some 115) z4 3 "witness.go:206" #[] none,Oper.mk (some 116) (Op.indexAddr 36 (Operand.tmp 114) (Operand.tmp 115)) 0 "witness.go:206" z9 none,Oper.mk (some 117) (Op.load 3 (Operand.tmp 116)) 3 "witness.go:206" y5 none,Oper.mk (some 118) (Op.indexAddr 36 (Operand.tmp 112) (Operand.tmp 113)) 0 "witness.go:206" z1 none,Oper.mk none (Op.store 3 (Operand.tmp 118) (Operand.tmp 117)) 0 "witness.go:206" z2 none] false) Code.skip))))) (Code.region 27 #[Oper.mk (some 119) (Op.binOp BinOp.add 3 y3 (Operand.const (Value.int IntKind.i64 (1:Int))) 3) 3 "witness.go:203" #[] none,Oper.mk (some 97) (Op.move (Operand.tmp 119)) 3 "witness.go:203" #[z5] none] false))))) (mkSo g0 123 (f3S q z7 0) (pt z0 14 (O.row 3 none (rep q [i6 0]))) 15 [12]) (Qbq g0 123 (Ex.exit 4) (fun x=>f3X q) fun x H n lg=>H=pt z0 14 (rw3 mx)/\n=15/\SubL lg y2),∀(h:Nat)(H:T O)(nx:Nat)(lg:List Nat),(H=pt z0 14 (rw3 mx)/\nx=15/\∀(g:Nat),List.Mem g lg->List.Mem g y2)->(gt H 5=some (eoO V.nils)/\layE 0 [V.nils] [z3]=some [z3])/\(gt (pt H 5 y7) 6=some (ernO y6)/\layE 0 [i6 0] [i6 0]=some [i6 0])/\pt (pt H 5 y7) 6 (O.row 31 none [i6 0])=ofOs T.e 0 (f2O ga na RA gb nb RB q NA NB cs xs jj X Y P wA wB z3 z6++[Lb,rw3 u,rw3 mx])/\nx=15/\∀(g:Nat),List.Mem g ([6]++([5]++lg))->List.Mem g y2]) ?_
 (repeat'(first|(with_reducible apply And.intro)|(refine fun(_:True)=>?_)))<;>first|exact aq|skip
 all_goals first|exact s1|exact s2|exact hin|(rw[hp,wr6 o_ o_];done)|(rw[hp2,wr6 o_ o_];done)|kernel_rfl|skip
 all_goals(rintro h H nx' lg' ⟨rfl,rfl,hs'⟩;(repeat'(first|(with_reducible apply And.intro)|(refine fun(_:True)=>?_)));all_goals first|exact aq|rfl|kernel_rfl|(intro g hg;change g∈6::5::lg' at hg;change g∈[5,6,11,12,14];rcases List.mem_cons.1 hg with rfl|hg;simp;rcases List.mem_cons.1 hg with rfl|hg;simp;exact hs' g hg)|skip)
end
set_option maxHeartbeats 1000000
set_option maxRecDepth 100000
section
variable (ga:Int) (na:Nat) (RA:List V) (gb:Int) (nb:Nat) (RB:List V) (q:Nat) (NA NB:List V) (cs:List Int) (xs ys:Nat) (jj:List Int) (X Y:List Int) (P:Nat) (wA wB:Int)
abbrev f2SL:SL:={sl:=[(8,.ptr 2 0),(9,.ptr 3 0),(11,.ptr 4 0),(12,.ptr 5 0),(13,.ptr 6 0),(16,.ptr 7 0),(18,.ptr 8 0),(19,.ptr 9 0),(20,.ptr 10 0),(21,.ptr 11 0),(77,.fn 58 [.imp [.im q (ints cs)],.imp [u6 (ys:Nat)]])],os:=f2O ga na RA gb nb RB q NA NB cs xs jj X Y P wA wB .nils 0}
abbrev f2G(mx:List Int):SL:={sl:=[(12,.ptr 0 0),(13,.ptr 1 0)],os:=[eoO (.sl 2 0 q (some (q-q))),ernO 0,rw3 mx],md:=[1,0,0]}
abbrev f2E(v:V):SL:={sl:=[(12,.ptr 0 0),(13,.ptr 1 0)],os:=[eoO v,ernO 0],md:=[1,0]}
variable (hRA:HfL RA) (hRB:HfL RB) (hNA:HfL NA) (hNB:HfL NB) (h5:q<=5) (hcl:cs.length=q) (hvl:jj.length=q) (hX:X.length=P) (hY:Y.length=P) (hP:P<=1024)
 (hXb: ∀i,i<P->0<=X.getD i 0/\X.getD i 0<=429981696) (hYb: ∀i,i<P->0<=Y.getD i 0/\Y.getD i 0<=429981696) (hwA:1<=wA/\wA<=429981696) (hwB:1<=wB/\wB<=429981696)
 (hys:ys<18446744073709551616) (hc: ∀i,i<q->1<=cs.getD i 0/\cs.getD i 0<=4) (hPe:(P:Int)=prodT (mkC cs ys) q) (hP1:1<=P)
include hRA hRB hNA hNB h5 hcl hvl hX hY hP hXb hYb hwA hwB hys hc hPe hP1
theorem Qri(L:O)(hL:L= .loop .ready none 0 (mkSt g0 123 (f2SL ga na RA gb nb RB q NA NB cs xs ys jj X Y P wA wB)).tm [78] f2A f2B)(k:Nat)(hk:k<P)(he:X.getD k 0*wB=Y.getD k 0*wA)(u:List Int)(hu:u.length=q):
  CallSpec Pg g0 (.yld 12) [.sl 13 0 q (some (q-q))] (ofOs .e 0 (f2O ga na RA gb nb RB q NA NB cs xs jj X Y P wA wB .nils k++[L,rw3 u])) 14 ⟨.bool true,ofOs .e 0 (f2O ga na RA gb nb RB q NA NB cs xs jj X Y P wA wB .nils ((k+1:Nat):Int)++[L,rw3 u]),14,[11,12]⟩:=by
 have hb:=fun Lb=>f2_same ga na RA gb nb RB q NA NB cs xs jj X Y P wA wB hRA hRB hNA hNB h5 hcl hvl hX hY hP hXb hYb hwA hwB k hk he (.sl 13 0 q (some (q-q))) u hu Lb
 refine CallSpec.yldC vE_ok mixed Qab (n:=123) (fn0:=0) (tm:=(mkSt g0 123 (f2SL ga na RA gb nb RB q NA NB cs xs ys jj X Y P wA wB)).tm) (ps:=[78]) (assign:=f2A) (body:=f2B) (hs0:=[]) (hs1:=fun _=>[pl 81,ld 82 (i6 (X.getD k 0)),nu 84 (X.getD k 0*wB),pl 87,ld 88 (i6 (Y.getD k 0)),nu 90 (Y.getD k 0*wA),no 91,nu 122 ((k+1:Nat):Int)]) (m0:=1000) (m1:=1000) (sl0:=f20 (.sl 13 0 q (some (q-q)))) (sl1:=f21 (.sl 13 0 q (some (q-q)))) ?_ rfl rfl rfl ⟨rfl,rfl,rfl,rfl,rfl,rfl,rfl,rfl,rfl,rfl,rfl,trivial⟩ (Qrf _) (fun Lb=>?_) (by simp) (fun i hi=>?_) ?_
 ·rw[Qak,Qai,hL];rfl
 ·have e4 : ∀ k, pt (ofOs .e 0 (f2O ga na RA gb nb RB q NA NB cs xs jj X Y P wA wB .nils k ++ [L, rw3 u])) 12 Lb = ofOs .e 0 (f2O ga na RA gb nb RB q NA NB cs xs jj X Y P wA wB .nils k ++ [Lb, rw3 u]) := fun k => by kernel_rfl
  rw[e4,e4]
  exact hb Lb
 ·rw [Qai, Qai]
  simp only[List.mem_cons,List.not_mem_nil,or_false,not_or]at hi
  rcases(show i<11\/13<=i by omega)with h7|h7
  ·rcases(show i=0\/i=1\/i=2\/i=3\/i=4\/i=5\/i=6\/i=7\/i=8\/i=9\/i=10 by omega)with rfl|rfl|rfl|rfl|rfl|rfl|rfl|rfl|rfl|rfl|rfl<;>rfl
  ·obtain ⟨d, rfl⟩ : ∃ d, i = d + 13 := ⟨i - 13, by omega⟩
   rfl
 ·rw[Qak,Qai,hL];rfl
theorem hh_is(L:O)(j:Nat):HHc (ofOs .e 0 (f2O ga na RA gb nb RB q NA NB cs xs jj X Y P wA wB .nils 0++[L])) (fun j=>ofOs .e 0 (f2O ga na RA gb nb RB q NA NB cs xs jj X Y P wA wB .nils ((j+1:Nat):Int)++[L,rw3 (cmb (mkC cs ys) j)])) 13 (mkC cs ys) j=ofOs .e 0 (f2O ga na RA gb nb RB q NA NB cs xs jj X Y P wA wB .nils j++[L,rw3 (cmb (mkC cs ys) j)]):=by
 cases j with
 |zero=>kernel_rfl
 |succ j=>kernel_rfl
theorem f2_none(heq: ∀k,k<P->X.getD k 0*wB=Y.getD k 0*wA):Sat Pg none 0 f2C (mkSt g0 123 (f2SL ga na RA gb nb RB q NA NB cs xs ys jj X Y P wA wB)) (Qad g0 123 [(True,.normal,f2E .nils)]):=by
 rw[f2_eq]
 obtain⟨L,hL⟩: ∃L:O,L= .loop .ready none 0 (mkSt g0 123 (f2SL ga na RA gb nb RB q NA NB cs xs ys jj X Y P wA wB)).tm [78] f2A f2B:=⟨_,rfl⟩
 have hcall:=Qen cs ys q hcl hys o_ hc P hPe P hP1 (Nat.le_refl _) (fun _=>true) (fun _ _=>rfl) (fun _=>rfl) 12 13 (ofOs .e 0 (f2O ga na RA gb nb RB q NA NB cs xs jj X Y P wA wB .nils 0++[L])) (fun j=>ofOs .e 0 (f2O ga na RA gb nb RB q NA NB cs xs jj X Y P wA wB .nils ((j+1:Nat):Int)++[L,rw3 (cmb (mkC cs ys) j)])) (fun _=>14) [11,12] rfl (fun j hj=>by rw[Qak,Qai];rfl) (fun j hj=>by
  rw[hh_is ga na RA gb nb RB q NA NB cs xs ys jj X Y P wA wB hRA hRB hNA hNB h5 hcl hvl hX hY hP hXb hYb hwA hwB hys hc hPe hP1]
  exact Qri ga na RA gb nb RB q NA NB cs xs ys jj X Y P wA wB hRA hRB hNA hNB h5 hcl hvl hX hY hP hXb hYb hwA hwB hys hc hPe hP1 L hL j hj (heq j hj) _ (by rw[Qcz,Qbi,hcl])) (by
  obtain⟨m,rfl⟩: ∃m,P=m+1:=⟨P-1,by omega⟩
  have e:cbF (fun j=>ofOs .e 0 (f2O ga na RA gb nb RB q NA NB cs xs jj X Y (m+1) wA wB .nils ((j+1:Nat):Int)++[L,rw3 (cmb (mkC cs ys) j)])) 13 (mkC cs ys) (m+1) true=ofOs .e 0 (f2O ga na RA gb nb RB q NA NB cs xs jj X Y (m+1) wA wB .nils ((m+1:Nat):Int)++[L,rw3 (cmb (mkC cs ys) (m+1))]):=by kernel_rfl
  rw[e]
  refine⟨by simp,fun i hi hn=>?_⟩
  rw[Qai,Qai]
  simp only[List.mem_cons,List.not_mem_nil,or_false,not_or]at hi
  rcases(show i=0\/i=1\/i=2\/i=3\/i=4\/i=5\/i=6\/i=7\/i=8\/i=9\/i=10\/14<=i by omega)with rfl|rfl|rfl|rfl|rfl|rfl|rfl|rfl|rfl|rfl|rfl|h7
  all_goals first|rfl|(obtain⟨d,rfl⟩: ∃d,i=d+14:=⟨i-14,by omega⟩;rfl))
 obtain⟨m,rfl⟩: ∃m,P=m+1:=⟨P-1,by omega⟩
 have e:cbF (fun j=>ofOs .e 0 (f2O ga na RA gb nb RB q NA NB cs xs jj X Y (m+1) wA wB .nils ((j+1:Nat):Int)++[L,rw3 (cmb (mkC cs ys) j)])) 13 (mkC cs ys) (m+1) true=ofOs .e 0 (f2O ga na RA gb nb RB q NA NB cs xs jj X Y (m+1) wA wB .nils ((m+1:Nat):Int)++[L,rw3 (cmb (mkC cs ys) (m+1))]):=by kernel_rfl
 rw[e]at hcall
 generalize cmb (mkC cs ys) (m+1)=u at*
 refine Sat.rangeC (r:=[5,6]) (S:=f2SL ga na RA gb nb RB q NA NB cs xs ys jj X Y (m+1) wA wB) (f:=58) (caps:=[.imp [.im q (ints cs)],.imp [u6 (ys:Nat)]]) rfl rfl (by rw[hL]at hcall;exact hcall) ?_ ?_
 ·rw[Qak,Qai];rfl
 ·clear hcall hL hXb hYb heq hc hPe e
  refine m_ (p:=Bn [Bn [Zz,Zz],Bn [Tt],Bn [Sm [i6 0],Tt]]) ?_
  (repeat'(first|(with_reducible apply And.intro)|(refine fun(_:True)=>?_)))<;>first|exact aq|skip
  all_goals first|rfl|skip
theorem f2_some(i:Nat)(hi:i<P)(heq: ∀k,k<i->X.getD k 0*wB=Y.getD k 0*wA)(hne:X.getD i 0*wB≠Y.getD i 0*wA):Sat Pg none 0 f2C (mkSt g0 123 (f2SL ga na RA gb nb RB q NA NB cs xs ys jj X Y P wA wB)) (Qad g0 123 [(True,.ret,f2E (.im q (ints (mixL q xs jj fun v=>(cmb (mkC cs ys) i).getD v 0))))]):=by
 rw[f2_eq]
 obtain⟨T0,hT0⟩: ∃T0:TM,T0=(mkSt g0 123 (f2SL ga na RA gb nb RB q NA NB cs xs ys jj X Y P wA wB)).tm:=⟨_,rfl⟩
 obtain⟨L,hL⟩: ∃L:O,L= .loop .ready none 0 T0 [78] f2A f2B:=⟨_,rfl⟩
 obtain⟨D,hD⟩: ∃D:O,D= .loop .done (some .ret) 0 T0 [78] f2A f2B:=⟨_,rfl⟩
 obtain⟨KK,hKK⟩: ∃KK:Nat->T O,KK=fun j=>if j<i then ofOs .e 0 (f2O ga na RA gb nb RB q NA NB cs xs jj X Y P wA wB .nils ((j+1:Nat):Int)++[L,rw3 (cmb (mkC cs ys) j)])else ofOs .e 0 (f2O ga na RA gb nb RB q NA NB cs xs jj X Y P wA wB (.sl 14 0 q (some (q-q))) i++[D,rw3 (cmb (mkC cs ys) i),rw3 (mixL q xs jj fun v=>(cmb (mkC cs ys) i).getD v 0)]):=⟨_,rfl⟩
 have kk1: ∀j,j<i->KK j=ofOs .e 0 (f2O ga na RA gb nb RB q NA NB cs xs jj X Y P wA wB .nils ((j+1:Nat):Int)++[L,rw3 (cmb (mkC cs ys) j)]):=fun j hj=>by rw[hKK];exact if_pos hj
 have kk2:KK i=ofOs .e 0 (f2O ga na RA gb nb RB q NA NB cs xs jj X Y P wA wB (.sl 14 0 q (some (q-q))) i++[D,rw3 (cmb (mkC cs ys) i),rw3 (mixL q xs jj fun v=>(cmb (mkC cs ys) i).getD v 0)]):=by rw[hKK];exact if_neg o_
 have hh: ∀j,j<=i->HHc (ofOs .e 0 (f2O ga na RA gb nb RB q NA NB cs xs jj X Y P wA wB .nils 0++[L])) KK 13 (mkC cs ys) j=ofOs .e 0 (f2O ga na RA gb nb RB q NA NB cs xs jj X Y P wA wB .nils j++[L,rw3 (cmb (mkC cs ys) j)]):=fun j hj=>by
  cases j with
  |zero=>kernel_rfl
  |succ j=>
   show pt (KK j) 13 (rw3 (cmb (mkC cs ys) (j+1)))=_
   rw[kk1 j o_]
   kernel_rfl
 have hul: ∀j,(cmb (mkC cs ys) j).length=q:=fun j=>by rw[Qcz,Qbi,hcl]
 have hcall:=Qen cs ys q hcl hys o_ hc P hPe (i+1) o_ o_ (fun j=>decide (j≠i)) (fun j hj=>decide_eq_true o_) (fun h=>by simp at h) 12 13 (ofOs .e 0 (f2O ga na RA gb nb RB q NA NB cs xs jj X Y P wA wB .nils 0++[L])) KK (fun j=>if j<=i then 14 else 15) [5,6,11,12,14] rfl (fun j hj=>by
  by_cases hji:j<i
  ·rw[kk1 j hji,Qak,Qai];rfl
  ·have : j = i := by omega
   subst this
   rw[kk2,Qak,Qai];rfl) (fun j hj=>by
  rw[hh j o_]
  by_cases hji:j<i
  ·rw [decide_eq_true (show j ≠ i by omega), kk1 j hji, if_pos o_, if_pos o_]
   exact CallSpec.moreL (r:=⟨_,_,_,[11,12]⟩) (Qri ga na RA gb nb RB q NA NB cs xs ys jj X Y P wA wB hRA hRB hNA hNB h5 hcl hvl hX hY hP hXb hYb hwA hwB hys hc hPe hP1 L (by rw[hL,hT0]) j o_ (heq j hji) _ (hul j)) (fun x hx=>by simp only[List.mem_cons,List.not_mem_nil,or_false]at hx⊢;omega)
  ·have : j = i := by omega
   subst this
   rw[decide_eq_false (by simp),kk2,if_pos o_,if_neg o_]
   have hb:=fun Lb=>Qrg ga na RA gb nb RB q NA NB cs xs jj X Y P wA wB hRA hRB hNA hNB h5 hcl hvl hX hY hP hXb hYb hwA hwB j hi hne (cmb (mkC cs ys) j) (hul j) Lb
   generalize cmb (mkC cs ys) j=u at*
   generalize (mixL q xs jj fun v=>u.getD v 0)=mx at*
   have e5: ∀Lb,pt (ofOs .e 0 (f2O ga na RA gb nb RB q NA NB cs xs jj X Y P wA wB (.sl 14 0 q (some (q-q))) j++[.dead,rw3 u,rw3 mx])) 12 Lb=ofOs .e 0 (f2O ga na RA gb nb RB q NA NB cs xs jj X Y P wA wB (.sl 14 0 q (some (q-q))) j++[Lb,rw3 u,rw3 mx]):=fun Lb=>by kernel_rfl
   have:=CallSpec.yldR vE_ok mixed Qab (hd:=12) (H:=ofOs .e 0 (f2O ga na RA gb nb RB q NA NB cs xs jj X Y P wA wB .nils j++[L,rw3 u])) (H2:=ofOs .e 0 (f2O ga na RA gb nb RB q NA NB cs xs jj X Y P wA wB (.sl 14 0 q (some (q-q))) j++[.dead,rw3 u,rw3 mx])) (nx:=14) (nx2:=15) (ars:=[.sl 13 0 q (some (q-q))]) (n:=123) (fn0:=0) (tm:=T0) (ps:=[78]) (assign:=f2A) (body:=f2B) (L:=[5,6,11,12,14]) (hs0:=[]) (hs1:=fun Lb=>(hb Lb).choose) (m0:=1000) (m1:=1000) (sl0:=f20 (.sl 13 0 q (some (q-q)))) (sl1:=f21 (.sl 13 0 q (some (q-q)))) (by rw[Qak,Qai,hL];rfl) rfl (by rw[hT0];rfl) (by rw[hT0];rfl) (by rw[hT0];exact⟨rfl,rfl,rfl,rfl,rfl,rfl,rfl,rfl,rfl,rfl,rfl,trivial⟩) (Qrf _) (fun Lb=>by
     have e4:pt (ofOs .e 0 (f2O ga na RA gb nb RB q NA NB cs xs jj X Y P wA wB .nils j++[L,rw3 u])) 12 Lb=ofOs .e 0 (f2O ga na RA gb nb RB q NA NB cs xs jj X Y P wA wB .nils j++[Lb,rw3 u]):=by kernel_rfl
     rw[e4,e5]
     have h1:=(hb Lb).choose_spec
     exact h1) (by simp) ?_
   ·rw [e5] at this
    rw[hD]
    exact this
   ·rw [e5]
    refine⟨by omega,fun i2 hi2 hn=>?_⟩
    rw[Qai,Qai]
    simp only[List.mem_cons,List.not_mem_nil,or_false,not_or]at hi2
    rcases(show i2=0\/i2=1\/i2=2\/i2=3\/i2=4\/i2=7\/i2=8\/i2=9\/i2=10\/i2=13\/15<=i2 by omega)with rfl|rfl|rfl|rfl|rfl|rfl|rfl|rfl|rfl|rfl|h7
    all_goals first|rfl|(obtain⟨d,rfl⟩: ∃d,i2=d+15:=⟨i2-15,by omega⟩;rfl)) (by
  have e:cbF KK 13 (mkC cs ys) (i+1) (decide (i+1-1≠i))=KK i:=by rw[decide_eq_false (by simp)];rfl
  rw[e,kk2,if_neg o_]
  refine⟨by omega,fun i2 hi2 hn=>?_⟩
  rw[Qai,Qai]
  simp only[List.mem_cons,List.not_mem_nil,or_false,not_or]at hi2
  rcases(show i2=0\/i2=1\/i2=2\/i2=3\/i2=4\/i2=7\/i2=8\/i2=9\/i2=10\/15<=i2 by omega)with rfl|rfl|rfl|rfl|rfl|rfl|rfl|rfl|rfl|h7
  all_goals first|rfl|(obtain⟨d,rfl⟩: ∃d,i2=d+15:=⟨i2-15,by omega⟩;rfl))
 have e:cbF KK 13 (mkC cs ys) (i+1) (decide (i+1-1≠i))=KK i:=by rw[decide_eq_false (by simp)];rfl
 rw[e,kk2,if_neg o_]at hcall
 have hu:=hul i
 have hml:(mixL q xs jj fun v=>(cmb (mkC cs ys) i).getD v 0).length=q:=Qa4
 generalize (mixL q xs jj fun v=>(cmb (mkC cs ys) i).getD v 0)=mx at*
 generalize cmb (mkC cs ys) i=u at*
 have hmm:=Qaa mx
 refine Sat.rangeR (r:=[5,6]) (S:=f2SL ga na RA gb nb RB q NA NB cs xs ys jj X Y P wA wB) (f:=58) (caps:=[.imp [.im q (ints cs)],.imp [u6 (ys:Nat)]]) rfl rfl (by rw[hL,hT0]at hcall;exact hcall) ?_ ?_
 ·rw[Qak,Qai,hD,hT0];rfl
 ·clear hcall hL hXb hYb heq hc hPe e kk1 kk2 hh hKK hne hD hul
  subst hT0
  refine m_ (p:=Bn [Bn [Zz,Zz],Bn [An [q=q,Sm (ints mx),HfL (ints mx)]],Bn [Sm [i6 0],Tt]]) ?_
  (repeat'(first|(with_reducible apply And.intro)|(refine fun(_:True)=>?_)))<;>first|exact aq|skip
  all_goals first|rfl|skip
theorem f2_some'(i:Nat)(hi:i<P)(heq: ∀k,k<i->X.getD k 0*wB=Y.getD k 0*wA)(hne:X.getD i 0*wB≠Y.getD i 0*wA):Sat Pg none 0 f2C (mkSt g0 123 (f2SL ga na RA gb nb RB q NA NB cs xs ys jj X Y P wA wB)) (Qad g0 123 [(True,.ret,f2G q (mixL q xs jj fun v=>(cmb (mkC cs ys) i).getD v 0))]):=by
 rw[f2_eq]
 obtain⟨T0,hT0⟩: ∃T0:TM,T0=(mkSt g0 123 (f2SL ga na RA gb nb RB q NA NB cs xs ys jj X Y P wA wB)).tm:=⟨_,rfl⟩
 obtain⟨L,hL⟩: ∃L:O,L= .loop .ready none 0 T0 [78] f2A f2B:=⟨_,rfl⟩
 obtain⟨D,hD⟩: ∃D:O,D= .loop .done (some .ret) 0 T0 [78] f2A f2B:=⟨_,rfl⟩
 obtain⟨KK,hKK⟩: ∃KK:Nat->T O,KK=fun j=>if j<i then ofOs .e 0 (f2O ga na RA gb nb RB q NA NB cs xs jj X Y P wA wB .nils ((j+1:Nat):Int)++[L,rw3 (cmb (mkC cs ys) j)])else ofOs .e 0 (f2O ga na RA gb nb RB q NA NB cs xs jj X Y P wA wB (.sl 14 0 q (some (q-q))) i++[D,rw3 (cmb (mkC cs ys) i),rw3 (mixL q xs jj fun v=>(cmb (mkC cs ys) i).getD v 0)]):=⟨_,rfl⟩
 have kk1: ∀j,j<i->KK j=ofOs .e 0 (f2O ga na RA gb nb RB q NA NB cs xs jj X Y P wA wB .nils ((j+1:Nat):Int)++[L,rw3 (cmb (mkC cs ys) j)]):=fun j hj=>by rw[hKK];exact if_pos hj
 have kk2:KK i=ofOs .e 0 (f2O ga na RA gb nb RB q NA NB cs xs jj X Y P wA wB (.sl 14 0 q (some (q-q))) i++[D,rw3 (cmb (mkC cs ys) i),rw3 (mixL q xs jj fun v=>(cmb (mkC cs ys) i).getD v 0)]):=by rw[hKK];exact if_neg o_
 have hh: ∀j,j<=i->HHc (ofOs .e 0 (f2O ga na RA gb nb RB q NA NB cs xs jj X Y P wA wB .nils 0++[L])) KK 13 (mkC cs ys) j=ofOs .e 0 (f2O ga na RA gb nb RB q NA NB cs xs jj X Y P wA wB .nils j++[L,rw3 (cmb (mkC cs ys) j)]):=fun j hj=>by
  cases j with
  |zero=>kernel_rfl
  |succ j=>
   show pt (KK j) 13 (rw3 (cmb (mkC cs ys) (j+1)))=_
   rw[kk1 j o_]
   kernel_rfl
 have hul: ∀j,(cmb (mkC cs ys) j).length=q:=fun j=>by rw[Qcz,Qbi,hcl]
 have hcall:=Qen cs ys q hcl hys o_ hc P hPe (i+1) o_ o_ (fun j=>decide (j≠i)) (fun j hj=>decide_eq_true o_) (fun h=>by simp at h) 12 13 (ofOs .e 0 (f2O ga na RA gb nb RB q NA NB cs xs jj X Y P wA wB .nils 0++[L])) KK (fun j=>if j<=i then 14 else 15) [5,6,11,12,14] rfl (fun j hj=>by
  by_cases hji:j<i
  ·rw[kk1 j hji,Qak,Qai];rfl
  ·have : j = i := by omega
   subst this
   rw[kk2,Qak,Qai];rfl) (fun j hj=>by
  rw[hh j o_]
  by_cases hji:j<i
  ·rw [decide_eq_true (show j ≠ i by omega), kk1 j hji, if_pos o_, if_pos o_]
   exact CallSpec.moreL (r:=⟨_,_,_,[11,12]⟩) (Qri ga na RA gb nb RB q NA NB cs xs ys jj X Y P wA wB hRA hRB hNA hNB h5 hcl hvl hX hY hP hXb hYb hwA hwB hys hc hPe hP1 L (by rw[hL,hT0]) j o_ (heq j hji) _ (hul j)) (fun x hx=>by simp only[List.mem_cons,List.not_mem_nil,or_false]at hx⊢;omega)
  ·have : j = i := by omega
   subst this
   rw[decide_eq_false (by simp),kk2,if_pos o_,if_neg o_]
   have hb:=fun Lb=>Qrg ga na RA gb nb RB q NA NB cs xs jj X Y P wA wB hRA hRB hNA hNB h5 hcl hvl hX hY hP hXb hYb hwA hwB j hi hne (cmb (mkC cs ys) j) (hul j) Lb
   generalize cmb (mkC cs ys) j=u at*
   generalize (mixL q xs jj fun v=>u.getD v 0)=mx at*
   have e5: ∀Lb,pt (ofOs .e 0 (f2O ga na RA gb nb RB q NA NB cs xs jj X Y P wA wB (.sl 14 0 q (some (q-q))) j++[.dead,rw3 u,rw3 mx])) 12 Lb=ofOs .e 0 (f2O ga na RA gb nb RB q NA NB cs xs jj X Y P wA wB (.sl 14 0 q (some (q-q))) j++[Lb,rw3 u,rw3 mx]):=fun Lb=>by kernel_rfl
   have:=CallSpec.yldR vE_ok mixed Qab (hd:=12) (H:=ofOs .e 0 (f2O ga na RA gb nb RB q NA NB cs xs jj X Y P wA wB .nils j++[L,rw3 u])) (H2:=ofOs .e 0 (f2O ga na RA gb nb RB q NA NB cs xs jj X Y P wA wB (.sl 14 0 q (some (q-q))) j++[.dead,rw3 u,rw3 mx])) (nx:=14) (nx2:=15) (ars:=[.sl 13 0 q (some (q-q))]) (n:=123) (fn0:=0) (tm:=T0) (ps:=[78]) (assign:=f2A) (body:=f2B) (L:=[5,6,11,12,14]) (hs0:=[]) (hs1:=fun Lb=>(hb Lb).choose) (m0:=1000) (m1:=1000) (sl0:=f20 (.sl 13 0 q (some (q-q)))) (sl1:=f21 (.sl 13 0 q (some (q-q)))) (by rw[Qak,Qai,hL];rfl) rfl (by rw[hT0];rfl) (by rw[hT0];rfl) (by rw[hT0];exact⟨rfl,rfl,rfl,rfl,rfl,rfl,rfl,rfl,rfl,rfl,rfl,trivial⟩) (Qrf _) (fun Lb=>by
     have e4:pt (ofOs .e 0 (f2O ga na RA gb nb RB q NA NB cs xs jj X Y P wA wB .nils j++[L,rw3 u])) 12 Lb=ofOs .e 0 (f2O ga na RA gb nb RB q NA NB cs xs jj X Y P wA wB .nils j++[Lb,rw3 u]):=by kernel_rfl
     rw[e4,e5]
     have h1:=(hb Lb).choose_spec
     exact h1) (by simp) ?_
   ·rw [e5] at this
    rw[hD]
    exact this
   ·rw [e5]
    refine⟨by omega,fun i2 hi2 hn=>?_⟩
    rw[Qai,Qai]
    simp only[List.mem_cons,List.not_mem_nil,or_false,not_or]at hi2
    rcases(show i2=0\/i2=1\/i2=2\/i2=3\/i2=4\/i2=7\/i2=8\/i2=9\/i2=10\/i2=13\/15<=i2 by omega)with rfl|rfl|rfl|rfl|rfl|rfl|rfl|rfl|rfl|rfl|h7
    all_goals first|rfl|(obtain⟨d,rfl⟩: ∃d,i2=d+15:=⟨i2-15,by omega⟩;rfl)) (by
  have e:cbF KK 13 (mkC cs ys) (i+1) (decide (i+1-1≠i))=KK i:=by rw[decide_eq_false (by simp)];rfl
  rw[e,kk2,if_neg o_]
  refine⟨by omega,fun i2 hi2 hn=>?_⟩
  rw[Qai,Qai]
  simp only[List.mem_cons,List.not_mem_nil,or_false,not_or]at hi2
  rcases(show i2=0\/i2=1\/i2=2\/i2=3\/i2=4\/i2=7\/i2=8\/i2=9\/i2=10\/15<=i2 by omega)with rfl|rfl|rfl|rfl|rfl|rfl|rfl|rfl|rfl|h7
  all_goals first|rfl|(obtain⟨d,rfl⟩: ∃d,i2=d+15:=⟨i2-15,by omega⟩;rfl))
 have e:cbF KK 13 (mkC cs ys) (i+1) (decide (i+1-1≠i))=KK i:=by rw[decide_eq_false (by simp)];rfl
 rw[e,kk2,if_neg o_]at hcall
 have hu:=hul i
 have hml:(mixL q xs jj fun v=>(cmb (mkC cs ys) i).getD v 0).length=q:=Qa4
 generalize (mixL q xs jj fun v=>(cmb (mkC cs ys) i).getD v 0)=mx at*
 generalize cmb (mkC cs ys) i=u at*
 have hmm:=Qaa mx
 refine Sat.rangeR (r:=[5,6,14]) (S:=f2SL ga na RA gb nb RB q NA NB cs xs ys jj X Y P wA wB) (f:=58) (caps:=[.imp [.im q (ints cs)],.imp [u6 (ys:Nat)]]) rfl rfl (by rw[hL,hT0]at hcall;exact hcall) ?_ ?_
 ·rw[Qak,Qai,hD,hT0];rfl
 ·clear hcall hL hXb hYb heq hc hPe e kk1 kk2 hh hKK hne hD hul
  subst hT0
  refine m_ (p:=Bn [Bn [Zz,Zz],Bn [An [Zz,q=q,Sm (q-q)]],Bn [Sm [i6 0],Tt],An [Sm (ints mx),HfL (ints mx)]]) ?_
  (repeat'(first|(with_reducible apply And.intro)|(refine fun(_:True)=>?_)))<;>first|exact aq|skip
  all_goals first|rfl|skip
end
set_option maxHeartbeats 1000000
set_option maxRecDepth 100000
def firI(X Y:List Int)(wA wB:Int)(P:Nat):Option Nat:=(List.range P).find? fun i=>decide (X.getD i 0*wB≠Y.getD i 0*wA)
theorem Qrr{X Y:List Int}{wA wB:Int}{P:Nat}(h:firI X Y wA wB P=none): ∀k,k<P->X.getD k 0*wB=Y.getD k 0*wA:=fun k hk=>by
 have:=List.find?_eq_none.1 h k (List.mem_range.2 hk)
 simpa using this
theorem Qk4{X Y:List Int}{wA wB:Int}{P i:Nat}(h:firI X Y wA wB P=some i):i<P/\X.getD i 0*wB≠Y.getD i 0*wA/\∀k,k<i->X.getD k 0*wB=Y.getD k 0*wA:=by
 unfold firI at h
 have h1:=List.mem_range.1 (List.mem_of_find?_eq_some h)
 have h2:=List.find?_some h
 refine⟨h1,by simpa using h2,fun k hk=>?_⟩
 obtain⟨_,pa,pb,hab,hno⟩:=List.find?_eq_some_iff_append.1 h
 have hl:pa.length=i:=by
  have h3:(List.range P)[pa.length]? =some i:=by rw[hab];simp
  obtain⟨h4,h5⟩:=List.getElem?_eq_some_iff.1 h3
  simpa using h5
 have hk2:k∈pa:=by
  have h3:(List.range P)[k]? =some k:=by rw[List.getElem?_range o_]
  rw[hab,List.getElem?_append_left o_]at h3
  exact List.mem_of_getElem? h3
 have:=hno k hk2
 simpa using this
def firV(q xs:Nat)(jj cs:List Int)(ys:Nat):Option Nat->V
 |none=>.nils
 |some i=>.im q (ints (mixL q xs jj fun v=>(cmb (mkC cs ys) i).getD v 0))
section
variable {ga gb:Int} {RA RB:List (List Int)} {NA NB:List Mc} (hlA:Qbd RA NA) (hlB:Qbd RB NB) (hA:chkB ga RA NA=true) (hB:chkB gb RB NB=true) (hs:cdT NA=cdT NB) {xs ys:Nat} (hxs:xs<18446744073709551616) (hys:ys<18446744073709551616) {jj:List Int} (hvl:jj.length=NA.length) (xz:valT (cdT NA) jj NA.length)
include hlA hlB hA hB hs hxs hys hvl xz
theorem first_fn:FnOk Pg g0 30 [mdV ga RA NA,mdV gb RB NB,sl (cdT NA),u6 (xs:Nat),u6 (ys:Nat),sl jj] (.tup [firV NA.length xs jj (cdT NA) ys (firI (effL RA NA (actL NA.length xs jj) ys) (effL RB NB (actL NA.length xs jj) ys) (ga^RA.length) (gb^RB.length) (effL RA NA (actL NA.length xs jj) ys).length),i6 0]):=by
 have hMA:=Qb4 hA
 have hMB:=Qb4 hB
 have hq:=hMA.q1
 have hcl:=Qbe (N:=NA)
 have hcb:=Qkx hMA.cd
 have hql:NA.length=NB.length:=by rw[<-hcl,hs,Qbe]
 have hSA:=Qi4 (xs:=xs) hMA.cd xz
 have hSB:setB NB (actL NA.length xs jj)=true:=by
  rw[hql]
  exact Qi4 hMB.cd (by rw[<-hs,<-hql];exact xz)
 have heA:=Qdv ga RA NA hlA hA (actL NA.length xs jj) (by rw[Qa4];omega) hSA ys hys
 have heB:=Qdv gb RB NB hlB hB (actL NA.length xs jj) (by rw[Qa4];omega) hSB ys hys
 rw[<-hs]at heB
 have hXb:=Qje (s:=ys) hMA (Qhu hSA)
 have hYb:=Qje (s:=ys) hMB (Qhu hSB)
 have hXl:=Qeq (R:=RA) (N:=NA) (act:=actL NA.length xs jj) (s:=ys)
 have hYl:=Qeq (R:=RB) (N:=NB) (act:=actL NA.length xs jj) (s:=ys)
 rw[<-hs,<-hXl]at hYl
 rw[hYl]at hYb
 have hP4:=Qmm (s:=ys) hcb o_ (cdT NA).length (Nat.le_refl _)
 have hPe:((effL RA NA (actL NA.length xs jj) ys).length:Int)=prodT (mkC (cdT NA) ys) NA.length:=by rw[hXl,hcl];rw[hcl]at hP4;omega
 have hwA:=Qd8 ga RA NA hMA.g1 hMA.n1
 have hwB:=Qd8 gb RB NB hMB.g1 hMB.n1
 have bwA:=Qji hMA.g1 hMA.n1
 have bwB:=Qji hMB.g1 hMB.n1
 have hcf:=Qeo (cdT NA) ys
 have hRA:=Qah RA
 have hNA:=Qaj NA
 have hRB:=Qah RB
 have hNB:=Qaj NB
 have hl1:=Qre ga RA.length (rtL RA) gb RB.length (rtL RB) NA.length (mcL NA) (mcL NB) (cdT NA) xs ys jj hRA hRB hNA hNB hq.2 hcl hvl
 have hact:(actL NA.length xs jj).length=NA.length:=Qa4
 rw[Qcg]at hl1
 generalize effL RA NA (actL NA.length xs jj) ys=X at*
 generalize effL RB NB (actL NA.length xs jj) ys=Y at*
 have hP1:1<=X.length:=by rw[<-hcl]at hPe;omega
 have hP2:X.length<=1024:=by rw[<-hcl]at hPe;omega
 have hfn:=f2_none ga RA.length (rtL RA) gb RB.length (rtL RB) NA.length (mcL NA) (mcL NB) (cdT NA) xs ys jj X Y X.length (ga^RA.length) (gb^RB.length) hRA hRB hNA hNB hq.2 hcl hvl rfl hYl hP2 hXb hYb bwA bwB hys (by rw[<-hcl];exact hcb) hPe hP1
 have hfs:=f2_some ga RA.length (rtL RA) gb RB.length (rtL RB) NA.length (mcL NA) (mcL NB) (cdT NA) xs ys jj X Y X.length (ga^RA.length) (gb^RB.length) hRA hRB hNA hNB hq.2 hcl hvl rfl hYl hP2 hXb hYb bwA bwB hys (by rw[<-hcl];exact hcb) hPe hP1
 generalize actL NA.length xs jj=act at*
 have hacc:=Qaa act
 have hxx:=Qaa X
 have hyy:=Qaa Y
 have hvv:=Qaa jj
 have e1:sl (cdT NA)= .im NA.length (ints (cdT NA)):=by show V.im (cdT NA).length _=_;rw[hcl]
 have e2:sl act= .im NA.length (ints act):=by show V.im act.length _=_;rw[hact]
 have e3:sl jj= .im NA.length (ints jj):=by show V.im jj.length _=_;rw[hvl]
 have e4:sl Y= .im X.length (ints Y):=by show V.im Y.length _=_;rw[hYl]
 rw[e1,e2]at heA heB
 rw[e4]at heB
 rw[e1]at hcf
 rw[e1,e3]
 unfold mdV at*
 rw[<-hql]at heB hwB⊢
 clear hMA hMB hXb hYb hcb xz hSA hSB hA hB hlA hlB hs hPe hP4 e1 e2 e3 e4 hXl
 have hcc:=Qaa (cdT NA)
 have hwAB:ga=gb->RA.length=RB.length->ga^RA.length=gb^RB.length:=fun a b=>by rw[a,b]
 generalize ga^RA.length=wA at*
 generalize gb^RB.length=wB at*
 cases hf:firI X Y wA wB X.length with
 |none=>
  have hrg:=hfn (Qrr hf)
  clear hfn hfs hf
  show FnOk Pg g0 _ _ (.tup [.nils,i6 0])
  refine FnOk.of_vc vE_ok mixed Qab (n:=1000) (r:=[0,1]) (S:={sl:=[(12,.ptr 0 0),(13,.ptr 1 0)],os:=[eoO .nils,ernO 0]}) (hs:=[mk 27,(0,.loop [0,1,2,3,4,5,6,7] (f1S ga RA.length (rtL RA) gb RB.length (rtL RB) NA.length (mcL NA) (mcL NB) (cdT NA) xs ys jj (0,List.replicate NA.length 0)) [(True,.exit 0,f1X ga RA.length (rtL RA) gb RB.length (rtL RB) NA.length (mcL NA) (mcL NB) (cdT NA) xs ys jj act)]),fn 54 (.tup [sl X,i6 0]),fn 65 (.tup [.im X.length (ints Y),i6 0]),fn 72 (i6 wA),fn 74 (i6 wB),fn 77 (.fn 58 [.imp [.im NA.length (ints (cdT NA))],.imp [u6 (ys:Nat)]]),(0,.loop [0,1,2,3,4,5,6,7,8,9,10,11] (f2SL ga RA.length (rtL RA) gb RB.length (rtL RB) NA.length (mcL NA) (mcL NB) (cdT NA) xs ys jj X Y X.length wA wB) [(True,.normal,f2E .nils)])]) ?_
  generalize cdT NA=cs at*
  generalize rtL RA=RRA at*
  generalize mcL NA=NNA at*
  generalize rtL RB=RRB at*
  generalize mcL NB=NNB at*
  refine m_ (p:=let y3:=Bn [Sm [i6 0],Tt];let z1:=[i6 ga,V.im RA.length RRA,V.im NA.length NNA];let z2:=[i6 gb,V.im RB.length RRB,V.im NA.length NNB];let z3:=V.im NA.length (ints cs);let z4:=(NA.length:Int);let z5:=V.im NA.length (ints jj);let z7:=V.im X.length (ints Y);let z8:=[V.nils];let z9:=u6 ↑ys;let y0:=[u6 xs];let y1:=V.im NA.length (ints act);let y2:=(0:Int);let z0:=pt (pt (pt (pt (ofOs T.e 0 [mdO ga RA.length RRA NA.length NNA,mdO gb RB.length RRB NA.length NNB,eoO z3,euO xs,eoO z5,eoO V.nils,ernO y2]) 7 (O.row 36 none z8)) 7 (O.row 36 none [sl X])) 8 (O.row 36 none z8)) 8 (O.row 36 none [z7]);let z6:=List.replicate NA.length y2;Bn [Sm (V.tup [V.nils,i6 0]),An [y2<=z4,z4<=z4,((8:Nat):Int)*z4<=281474976710656,z4<=9223372036854775807],Bn [Bn [Sm (ys:Int),Zz,Zz,Zz,Zz,Zz,Zz,Zz,An [Zz,Sm NA.length,Sm (NA.length-NA.length)],z4=z4,((0:Nat):Int)=y2],An [z1=z1,TT 3],An [z2=z2,TT 3],Bn [Sm [z3],Tt],Bn [y0=y0,Tt],Bn [Sm [z5],Tt],Bn [z8=z8,Tt],y3,An [ints z6=rep NA.length [i6 0],HfL (ints z6)]],Sat Try.prog none 0 (at' 30 [1,1,0,1,0]) (mkSt g0 123 (f1S ga RA.length RRA gb RB.length RRB NA.length NNA NNB cs xs ys jj (0,z6))) (Qad g0 123 [(True,Ex.exit 0,f1X ga RA.length RRA gb RB.length RRB NA.length NNA NNB cs xs ys jj act)]),(True->Bn [An [TT 3,TT 3],FnOk Try.prog g0 59 [V.agg z1,y1,z3,z9] (V.tup [sl X,i6 0]),Tt,An [TT 3,TT 3],FnOk Try.prog g0 59 [V.agg z2,y1,z3,z9] (V.tup [z7,i6 0]),Tt,Bn [TT 3],FnOk Try.prog g0 28 [V.agg z1] (i6 wA),Tt,Bn [TT 3],FnOk Try.prog g0 28 [V.agg z2] (i6 wB),Bn [(V.fn 28 []=V.fn 28 []->[V.agg z1]=[V.agg z2]->z0=z0->7+1+1=9->CR.mk (i6 wA) z0 9 []=CR.mk (i6 wB) z0 9 [])],TT 2,FnOk Try.prog g0 29 [z3,z9] (V.fn 58 [V.imp [z3],V.imp [z9]]),Tt,Bn [Bn [Zz,Zz,Zz,Zz,Zz,Zz,Zz,Zz,Zz,Zz,Bn [Sm [z3],Sm [z9]]],An [z1=z1,TT 3],An [z2=z2,TT 3],Bn [Sm [z3],Tt],Bn [y0=y0,Tt],Bn [Sm [z5],Tt],Bn [z8=z8,Tt],y3,Bn [[V.im X.length (ints X)]=[sl X],Tt],Bn [Sm [z7],Tt],Bn [Sm [i6 wA],Tt],Bn [Sm [i6 wB],Tt],y3],Sat Try.prog none 0 (at' 30 [1,1,1,1,1,1,1,1,1,0,1,0]) (mkSt g0 123 (f2SL ga RA.length RRA gb RB.length RRB NA.length NNA NNB cs xs ys jj X Y X.length wA wB)) (Qad g0 123 [(True,Ex.normal,f2E V.nils)]),(True->Bn [Bn [Zz,Zz],Bn [z8=z8,Tt],y3])])]) ?_
  (repeat'(first|(with_reducible apply And.intro)|(refine fun(_:True)=>?_)))<;>first|exact aq|skip
  all_goals first|exact heA|exact heB|exact hwA|exact hwB|exact hcf|exact hl1|exact hrg|exact Qay _ _|exact(Qay _ _).symm|(intro _ h _ _;have h1:=V.agg.inj (List.cons.inj h).1;have h2:=(V.int.inj (List.cons.inj h1).1).2;have h3:=(V.im.inj (List.cons.inj (List.cons.inj h1).2).1).1;rw[hwAB h2 h3])|skip
 |some i=>
  obtain⟨h1,h2,h3⟩:=Qk4 hf
  have hrg:=hfs i h1 h3 h2
  clear hfn hfs hf h1 h2 h3
  show FnOk Pg g0 _ _ (.tup [.im NA.length (ints (mixL NA.length xs jj fun v=>(cmb (mkC (cdT NA) ys) i).getD v 0)),i6 0])
  have hml:(mixL NA.length xs jj fun v=>(cmb (mkC (cdT NA) ys) i).getD v 0).length=NA.length:=Qa4
  generalize (mixL NA.length xs jj fun v=>(cmb (mkC (cdT NA) ys) i).getD v 0)=mx at*
  have hmm:=Qaa mx
  refine FnOk.of_vc vE_ok mixed Qab (n:=1000) (r:=[0,1]) (S:={sl:=[(12,.ptr 0 0),(13,.ptr 1 0)],os:=[eoO (.im NA.length (ints mx)),ernO 0],md:=[1,0]}) (hs:=[mk 27,(0,.loop [0,1,2,3,4,5,6,7] (f1S ga RA.length (rtL RA) gb RB.length (rtL RB) NA.length (mcL NA) (mcL NB) (cdT NA) xs ys jj (0,List.replicate NA.length 0)) [(True,.exit 0,f1X ga RA.length (rtL RA) gb RB.length (rtL RB) NA.length (mcL NA) (mcL NB) (cdT NA) xs ys jj act)]),fn 54 (.tup [sl X,i6 0]),fn 65 (.tup [.im X.length (ints Y),i6 0]),fn 72 (i6 wA),fn 74 (i6 wB),fn 77 (.fn 58 [.imp [.im NA.length (ints (cdT NA))],.imp [u6 (ys:Nat)]]),(0,.loop [0,1,2,3,4,5,6,7,8,9,10,11] (f2SL ga RA.length (rtL RA) gb RB.length (rtL RB) NA.length (mcL NA) (mcL NB) (cdT NA) xs ys jj X Y X.length wA wB) [(True,.ret,f2E (.im NA.length (ints mx)))])]) ?_
  generalize cdT NA=cs at*
  generalize rtL RA=RRA at*
  generalize mcL NA=NNA at*
  generalize rtL RB=RRB at*
  generalize mcL NB=NNB at*
  refine m_ (p:=let y4:=Bn [Sm [i6 0],Tt];let z1:=[i6 ga,V.im RA.length RRA,V.im NA.length NNA];let z2:=[i6 gb,V.im RB.length RRB,V.im NA.length NNB];let z3:=V.im NA.length (ints cs);let z4:=(NA.length:Int);let z5:=V.im NA.length (ints jj);let z7:=V.im X.length (ints Y);let z8:=V.im NA.length (ints mx);let z9:=[V.nils];let y0:=u6 ↑ys;let y1:=[u6 xs];let y2:=V.im NA.length (ints act);let y3:=(0:Int);let z0:=pt (pt (pt (pt (ofOs T.e 0 [mdO ga RA.length RRA NA.length NNA,mdO gb RB.length RRB NA.length NNB,eoO z3,euO xs,eoO z5,eoO V.nils,ernO y3]) 7 (O.row 36 none z9)) 7 (O.row 36 none [sl X])) 8 (O.row 36 none z9)) 8 (O.row 36 none [z7]);let z6:=List.replicate NA.length y3;Bn [Sm (V.tup [z8,i6 0]),An [y3<=z4,z4<=z4,((8:Nat):Int)*z4<=281474976710656,z4<=9223372036854775807],Bn [Bn [Sm (ys:Int),Zz,Zz,Zz,Zz,Zz,Zz,Zz,An [Zz,Sm NA.length,Sm (NA.length-NA.length)],z4=z4,((0:Nat):Int)=y3],An [z1=z1,TT 3],An [z2=z2,TT 3],Bn [Sm [z3],Tt],Bn [y1=y1,Tt],Bn [Sm [z5],Tt],Bn [z9=z9,Tt],y4,An [ints z6=rep NA.length [i6 0],HfL (ints z6)]],Sat Try.prog none 0 (at' 30 [1,1,0,1,0]) (mkSt g0 123 (f1S ga RA.length RRA gb RB.length RRB NA.length NNA NNB cs xs ys jj (0,z6))) (Qad g0 123 [(True,Ex.exit 0,f1X ga RA.length RRA gb RB.length RRB NA.length NNA NNB cs xs ys jj act)]),(True->Bn [An [TT 3,TT 3],FnOk Try.prog g0 59 [V.agg z1,y2,z3,y0] (V.tup [sl X,i6 0]),Tt,An [TT 3,TT 3],FnOk Try.prog g0 59 [V.agg z2,y2,z3,y0] (V.tup [z7,i6 0]),Tt,Bn [TT 3],FnOk Try.prog g0 28 [V.agg z1] (i6 wA),Tt,Bn [TT 3],FnOk Try.prog g0 28 [V.agg z2] (i6 wB),Bn [(V.fn 28 []=V.fn 28 []->[V.agg z1]=[V.agg z2]->z0=z0->7+1+1=9->CR.mk (i6 wA) z0 9 []=CR.mk (i6 wB) z0 9 [])],TT 2,FnOk Try.prog g0 29 [z3,y0] (V.fn 58 [V.imp [z3],V.imp [y0]]),Tt,Bn [Bn [Zz,Zz,Zz,Zz,Zz,Zz,Zz,Zz,Zz,Zz,Bn [Sm [z3],Sm [y0]]],An [z1=z1,TT 3],An [z2=z2,TT 3],Bn [Sm [z3],Tt],Bn [y1=y1,Tt],Bn [Sm [z5],Tt],Bn [z9=z9,Tt],y4,Bn [[V.im X.length (ints X)]=[sl X],Tt],Bn [Sm [z7],Tt],Bn [Sm [i6 wA],Tt],Bn [Sm [i6 wB],Tt],y4],Sat Try.prog none 0 (at' 30 [1,1,1,1,1,1,1,1,1,0,1,0]) (mkSt g0 123 (f2SL ga RA.length RRA gb RB.length RRB NA.length NNA NNB cs xs ys jj X Y X.length wA wB)) (Qad g0 123 [(True,Ex.ret,f2E z8)]),(True->Bn [Bn [Zz,Zz],Bn [An [Sm NA.length,Sm (ints mx)]],y4])])]) ?_
  (repeat'(first|(with_reducible apply And.intro)|(refine fun(_:True)=>?_)))<;>first|exact aq|skip
  all_goals first|exact heA|exact heB|exact hwA|exact hwB|exact hcf|exact hl1|exact hrg|exact Qay _ _|exact(Qay _ _).symm|(intro _ h _ _;have h1:=V.agg.inj (List.cons.inj h).1;have h2:=(V.int.inj (List.cons.inj h1).1).2;have h3:=(V.im.inj (List.cons.inj (List.cons.inj h1).2).1).1;rw[hwAB h2 h3])|skip
end
set_option maxHeartbeats 1000000
set_option maxRecDepth 100000
theorem frameZT{P:Program}{gl:T (List V)}{f:Nat}{ars ars':List V}{n t:Nat}{sp room:Option Nat}{c:List V}{k:IntKind}{m:Int}{H:T O}{nx nx1:Nat}{jz:List O}(h:CallSpec P gl (.fn f []) ars .e 0 ⟨.tup [.sl 0 0 n room,.int k m],ofOs .e 0 (.row t sp c::jz),nx1,[]⟩)(hv:ViewL H.get (fun _=>True) (fun _=>none) ars ars')(hci:allI c)(hn:c.length=n):CallSpec P gl (.fn f []) ars' H nx ⟨.tup [.im n c,.int k m],H,nx,[]⟩:=by
 refine⟨fun s w fv jj hc jy hH hgl hnn=>?_,Log.refl _ _ _⟩
 obtain⟨F,hFd⟩: ∃F:Nat->Prop,F=fun b=>s.fz b\/∃g t sp c,H.get g=some (.row t sp c)/\b=s.μ g:=⟨_,rfl⟩
 have hF1: ∀b,s.fz b->F b:=fun b hb=>by rw[hFd];exact .inl hb
 have hF2: ∀b,F b->b<w.heap.size:=fun b hb=>by
  rw[hFd]at hb
  rcases hb with hb|⟨g,t,sp,c,hg,rfl⟩
  ·exact hH.old b (.inl hb)
  ·exact(hH.obj _ _ hg rfl).2.1
 have hF3:RL (sg F) w ars jj.toList:=ViewL.rl hH (s':=sg F) ⟨fun _ _ e=>(by cases e),fun g t sp c _ hg=>by rw[hFd];exact .inr ⟨g,t,sp,c,hg,rfl⟩,hF1⟩ _ _ _ hv jy
 obtain⟨next,e1,e2,e3⟩:=h.1 (sg F) w fv jj (Hf.rv (s':=sg F) hF1 _ _ trivial hc) hF3 (Qle (fun b hb=>hb.elim (hF2 b) False.elim)) (fun g l hg=>RC.mono' (s':=sg F) hF1 (fun _ _=>rfl) l g 0 (hgl g l hg)) (fun _ _ h=>h)
 refine⟨next,e1,?_,e3⟩
 obtain⟨f',ars2,rfl⟩:=e3 ⟨f,[],rfl⟩
 refine CallsIn.mono e2 ?_
 rintro e w' ⟨u,s',rfl,⟨vs,rfl,u1,vs1,ev1,g1,u2,vs2,ev2,gu2,ev3⟩,g2,g3,g4,g5⟩
 have hone:(ofOs .e 0 (.row t sp c::jz)).get 0=some (.row t sp c):=by
  rw[Qfh _ _ _ _ (Nat.le_refl _) (by simp)];rfl
 obtain⟨o1,o2,o3,o4⟩:=g2.obj 0 _ hone rfl
 have xn:w.heap.size<=s'.μ 0:=by
  rcases g3.new 0 o1 (fun h=>h)with h|⟨k',hk,_⟩
  ·exact h
  ·cases hk
 obtain⟨r1,_⟩:=hH.below (w':=w') ⟨g3.mod.os,g3.mod.tape,g3.mod.output,g3.mod.size,fun k hk=>g3.mod.block k hk (fun⟨_,hm,_⟩=>by cases hm)⟩
 have hsz:=g3.mod.size
 have hview:View (ofOs .e 0 (.row t sp c::jz)).get (fun g=>g=0) (fun _=>none) (.im n c) (.sl 0 0 n room):=.inr (.inr ⟨0,0,room,t,sp,c,rfl,rfl,hone,by
  have: ∀l:List V,allI l->ViewP (ofOs .e 0 (.row t sp c::jz)).get (fun g=>g=0) l l:=by
   intro l
   induction l with
   |nil=>exact fun _=>trivial
   |cons x l ih=>
    intro h
    obtain⟨k',m',rfl⟩:=h x List.mem_cons_self
    exact⟨_,_,rfl,rfl,ih fun y hy=>h y (List.mem_cons_of_mem _ hy)⟩
  exact this c hci⟩)
 have hrv:RV {s' with fz:=fun b=>s'.fz b\/b=s'.μ 0} w' (.im n c) u1:=View.rv (s':={s' with fz:=fun b=>s'.fz b\/b=s'.μ 0}) g2 ⟨fun _ _ e=>(by cases e),fun g t2 sp2 c2 h0 hg=>by
  subst h0;exact .inr rfl,fun b hb=>.inl hb⟩ _ _ _ hview g1
 refine⟨.tuple vs,{s with fz:=fun b=>s.fz b\/b=s'.μ 0},rfl,?_,⟨fun i o ho hl=>?_,r1.inj,fun b hb=>?_⟩,⟨⟨⟨fun _ _=>rfl,fun _ _=>rfl,fun _ h=>h,fun b hb=>.inl hb⟩,fun _ h=>h⟩,fun b hb=>hb.elim .inl (fun e=>.inr (.inl (by rw[e];exact xn))),fun b hb=>?_,⟨g3.mod.os,g3.mod.tape,g3.mod.output,hsz,fun k hk _=>g3.mod.block k hk (fun⟨_,hm,_⟩=>by cases hm)⟩,fun i hi hno=>absurd hi hno⟩,fun i=>⟨.inl,fun h=>h.elim id (fun⟨a,b⟩=>absurd b (by dsimp only;omega))⟩,Nat.le_refl _⟩
 ·obtain ⟨a, cap, hu, hle, hrc⟩ := hrv
  refine⟨vs,rfl,u1,vs1,ev1,⟨a,cap,hu,hle,fun hn0=>?_⟩,u2,vs2,ev2,gu2,ev3⟩
  obtain⟨b,off,ha,hr⟩:=hrc hn0
  have hb:b=s'.μ 0:=by
   obtain⟨_,cap2,hu2,_⟩:=g1
   rw[hu2]at hu
   injection hu with h1
   rw[ha]at h1
   injection h1 with h2
   injection h2 with h3
   exact h3.symm
  exact⟨b,off,ha,Qmo (s':={s with fz:=fun b=>s.fz b\/b=s'.μ 0}) (Or.inr hb) _ _ hci hr⟩
 ·obtain ⟨a1, a2, a3, a4⟩ := r1.obj i o ho hl
  have a2':=(hH.obj i o ho hl).2.1
  refine⟨a1,a2,?_,RO.mono' (s:=s) (s':={s with fz:=fun b=>s.fz b\/b=s'.μ 0}) ⟨fun _ _=>rfl,fun _ _=>rfl,fun _ h=>h,fun b hb=>.inl hb⟩ (fun _ _=>rfl) a1 a4 (fun _=>rfl)⟩
  rintro((hf|hf)|hm)
  ·exact a3 (.inl hf)
  ·dsimp only at hf;omega
  ·exact a3 (.inr hm)
 ·rcases hb with (hb | hb) | hb
  ·exact r1.old b (.inl hb)
  ·rw[hb];exact o2
  ·exact r1.old b (.inr hb)
 ·exact g3.mod.block b (hH.old b hb) (fun⟨_,hm,_⟩=>by cases hm)
section
variable {ga gb:Int} {RA RB:List (List Int)} {NA NB:List Mc} (hlA:Qbd RA NA) (hlB:Qbd RB NB) (hA:chkB ga RA NA=true) (hB:chkB gb RB NB=true) (hs:cdT NA=cdT NB) {xs ys:Nat} (hxs:xs<18446744073709551616) (hys:ys<18446744073709551616) {jj:List Int} (hvl:jj.length=NA.length) (xz:valT (cdT NA) jj NA.length)
include hlA hlB hA hB hs hxs hys hvl xz
theorem Qrs(i:Nat)(hf:firI (effL RA NA (actL NA.length xs jj) ys) (effL RB NB (actL NA.length xs jj) ys) (ga^RA.length) (gb^RB.length) (effL RA NA (actL NA.length xs jj) ys).length=some i):CallSpec Pg g0 (.fn 30 []) [mdV ga RA NA,mdV gb RB NB,sl (cdT NA),u6 (xs:Nat),u6 (ys:Nat),sl jj] .e 0 ⟨.tup [.sl 0 0 NA.length (some (NA.length-NA.length)),i6 0],ofOs .e 0 [rw3 (mixL NA.length xs jj fun v=>(cmb (mkC (cdT NA) ys) i).getD v 0),eoO (.sl 0 0 NA.length (some (NA.length-NA.length))),ernO 0],3,[]⟩:=by
 have hMA:=Qb4 hA
 have hMB:=Qb4 hB
 have hq:=hMA.q1
 have hcl:=Qbe (N:=NA)
 have hcb:=Qkx hMA.cd
 have hql:NA.length=NB.length:=by rw[<-hcl,hs,Qbe]
 have hSA:=Qi4 (xs:=xs) hMA.cd xz
 have hSB:setB NB (actL NA.length xs jj)=true:=by
  rw[hql]
  exact Qi4 hMB.cd (by rw[<-hs,<-hql];exact xz)
 have heA:=Qdv ga RA NA hlA hA (actL NA.length xs jj) (by rw[Qa4];omega) hSA ys hys
 have heB:=Qdv gb RB NB hlB hB (actL NA.length xs jj) (by rw[Qa4];omega) hSB ys hys
 rw[<-hs]at heB
 have hXb:=Qje (s:=ys) hMA (Qhu hSA)
 have hYb:=Qje (s:=ys) hMB (Qhu hSB)
 have hXl:=Qeq (R:=RA) (N:=NA) (act:=actL NA.length xs jj) (s:=ys)
 have hYl:=Qeq (R:=RB) (N:=NB) (act:=actL NA.length xs jj) (s:=ys)
 rw[<-hs,<-hXl]at hYl
 rw[hYl]at hYb
 have hP4:=Qmm (s:=ys) hcb o_ (cdT NA).length (Nat.le_refl _)
 have hPe:((effL RA NA (actL NA.length xs jj) ys).length:Int)=prodT (mkC (cdT NA) ys) NA.length:=by rw[hXl,hcl];rw[hcl]at hP4;omega
 have hwA:=Qd8 ga RA NA hMA.g1 hMA.n1
 have hwB:=Qd8 gb RB NB hMB.g1 hMB.n1
 have bwA:=Qji hMA.g1 hMA.n1
 have bwB:=Qji hMB.g1 hMB.n1
 have hcf:=Qeo (cdT NA) ys
 have hRA:=Qah RA
 have hNA:=Qaj NA
 have hRB:=Qah RB
 have hNB:=Qaj NB
 have hl1:=Qre ga RA.length (rtL RA) gb RB.length (rtL RB) NA.length (mcL NA) (mcL NB) (cdT NA) xs ys jj hRA hRB hNA hNB hq.2 hcl hvl
 have hact:(actL NA.length xs jj).length=NA.length:=Qa4
 rw[Qcg]at hl1
 generalize effL RA NA (actL NA.length xs jj) ys=X at*
 generalize effL RB NB (actL NA.length xs jj) ys=Y at*
 have hP1:1<=X.length:=by rw[<-hcl]at hPe;omega
 have hP2:X.length<=1024:=by rw[<-hcl]at hPe;omega
 have hfs:=f2_some' ga RA.length (rtL RA) gb RB.length (rtL RB) NA.length (mcL NA) (mcL NB) (cdT NA) xs ys jj X Y X.length (ga^RA.length) (gb^RB.length) hRA hRB hNA hNB hq.2 hcl hvl rfl hYl hP2 hXb hYb bwA bwB hys (by rw[<-hcl];exact hcb) hPe hP1
 generalize actL NA.length xs jj=act at*
 have hacc:=Qaa act
 have hxx:=Qaa X
 have hyy:=Qaa Y
 have hvv:=Qaa jj
 have e1:sl (cdT NA)= .im NA.length (ints (cdT NA)):=by show V.im (cdT NA).length _=_;rw[hcl]
 have e2:sl act= .im NA.length (ints act):=by show V.im act.length _=_;rw[hact]
 have e3:sl jj= .im NA.length (ints jj):=by show V.im jj.length _=_;rw[hvl]
 have e4:sl Y= .im X.length (ints Y):=by show V.im Y.length _=_;rw[hYl]
 rw[e1,e2]at heA heB
 rw[e4]at heB
 rw[e1]at hcf
 rw[e1,e3]
 unfold mdV at*
 rw[<-hql]at heB hwB⊢
 clear hMA hMB hXb hYb hcb xz hSA hSB hA hB hlA hlB hs hPe hP4 e1 e2 e3 e4 hXl
 have hcc:=Qaa (cdT NA)
 have hwAB:ga=gb->RA.length=RB.length->ga^RA.length=gb^RB.length:=fun a b=>by rw[a,b]
 generalize ga^RA.length=wA at*
 generalize gb^RB.length=wB at*
 obtain⟨h1,h2,h3⟩:=Qk4 hf
 have hrg:=hfs i h1 h3 h2
 clear hfs hf h1 h2 h3
 have hml:(mixL NA.length xs jj fun v=>(cmb (mkC (cdT NA) ys) i).getD v 0).length=NA.length:=Qa4
 generalize (mixL NA.length xs jj fun v=>(cmb (mkC (cdT NA) ys) i).getD v 0)=mx at*
 have hmm:=Qaa mx
 refine CallSpec.of_vcH (P:=Pg) (E:=vE) vE_ok mixed Qab (n:=1000) (f:=30) (os0:=[]) (r:=[2,0,1]) (S:={sl:=[(12,.ptr 1 0),(13,.ptr 2 0)],os:=[rw3 mx,eoO (.sl 0 0 NA.length (some (NA.length-NA.length))),ernO 0],md:=[0,1,0]}) (hs:=[mk 27,(0,.loop [0,1,2,3,4,5,6,7] (f1S ga RA.length (rtL RA) gb RB.length (rtL RB) NA.length (mcL NA) (mcL NB) (cdT NA) xs ys jj (0,List.replicate NA.length 0)) [(True,.exit 0,f1X ga RA.length (rtL RA) gb RB.length (rtL RB) NA.length (mcL NA) (mcL NB) (cdT NA) xs ys jj act)]),fn 54 (.tup [sl X,i6 0]),fn 65 (.tup [.im X.length (ints Y),i6 0]),fn 72 (i6 wA),fn 74 (i6 wB),fn 77 (.fn 58 [.imp [.im NA.length (ints (cdT NA))],.imp [u6 (ys:Nat)]]),(0,.loop [0,1,2,3,4,5,6,7,8,9,10,11] (f2SL ga RA.length (rtL RA) gb RB.length (rtL RB) NA.length (mcL NA) (mcL NB) (cdT NA) xs ys jj X Y X.length wA wB) [(True,.ret,f2G NA.length mx)])]) (by simp) (fun i hi=>absurd hi (Nat.not_lt_zero _)) ?_
 generalize cdT NA=cs at*
 generalize rtL RA=RRA at*
 generalize mcL NA=NNA at*
 generalize rtL RB=RRB at*
 generalize mcL NB=NNB at*
 refine m_ (p:=let y4:=Bn [Sm [i6 0],Tt];let y5:=An [Zz,Sm NA.length,Sm (NA.length-NA.length)];let z1:=[i6 ga,V.im RA.length RRA,V.im NA.length NNA];let z2:=[i6 gb,V.im RB.length RRB,V.im NA.length NNB];let z3:=V.im NA.length (ints cs);let z4:=(NA.length:Int);let z5:=V.im NA.length (ints jj);let z7:=V.tup [V.sl 0 0 NA.length (some (NA.length-NA.length)),i6 0];let z8:=V.im X.length (ints Y);let z9:=[V.nils];let y0:=u6 ↑ys;let y1:=[u6 xs];let y2:=V.im NA.length (ints act);let y3:=(0:Int);let z0:=pt (pt (pt (pt (ofOs T.e 0 [mdO ga RA.length RRA NA.length NNA,mdO gb RB.length RRB NA.length NNB,eoO z3,euO xs,eoO z5,eoO V.nils,ernO y3]) 7 (O.row 36 none z9)) 7 (O.row 36 none [sl X])) 8 (O.row 36 none z9)) 8 (O.row 36 none [z8]);let z6:=List.replicate NA.length y3;Bn [z7=z7,An [y3<=z4,z4<=z4,((8:Nat):Int)*z4<=281474976710656,z4<=9223372036854775807],Bn [Bn [Sm (ys:Int),Zz,Zz,Zz,Zz,Zz,Zz,Zz,y5,z4=z4,((0:Nat):Int)=y3],An [z1=z1,TT 3],An [z2=z2,TT 3],Bn [Sm [z3],Tt],Bn [y1=y1,Tt],Bn [Sm [z5],Tt],Bn [z9=z9,Tt],y4,An [ints z6=rep NA.length [i6 0],HfL (ints z6)]],Sat Pg none 0 (at' 30 [1,1,0,1,0]) (mkSt g0 123 (f1S ga RA.length RRA gb RB.length RRB NA.length NNA NNB cs xs ys jj (0,z6))) (Qad g0 123 [(True,Ex.exit 0,f1X ga RA.length RRA gb RB.length RRB NA.length NNA NNB cs xs ys jj act)]),(True->Bn [An [TT 3,TT 3],FnOk Pg g0 59 [V.agg z1,y2,z3,y0] (V.tup [sl X,i6 0]),Tt,An [TT 3,TT 3],FnOk Pg g0 59 [V.agg z2,y2,z3,y0] (V.tup [z8,i6 0]),Tt,Bn [TT 3],FnOk Pg g0 28 [V.agg z1] (i6 wA),Tt,Bn [TT 3],FnOk Pg g0 28 [V.agg z2] (i6 wB),Bn [(V.fn 28 []=V.fn 28 []->[V.agg z1]=[V.agg z2]->z0=z0->7+1+1=9->CR.mk (i6 wA) z0 9 []=CR.mk (i6 wB) z0 9 [])],TT 2,FnOk Pg g0 29 [z3,y0] (V.fn 58 [V.imp [z3],V.imp [y0]]),Tt,Bn [Bn [Zz,Zz,Zz,Zz,Zz,Zz,Zz,Zz,Zz,Zz,Bn [Sm [z3],Sm [y0]]],An [z1=z1,TT 3],An [z2=z2,TT 3],Bn [Sm [z3],Tt],Bn [y1=y1,Tt],Bn [Sm [z5],Tt],Bn [z9=z9,Tt],y4,Bn [[V.im X.length (ints X)]=[sl X],Tt],Bn [Sm [z8],Tt],Bn [Sm [i6 wA],Tt],Bn [Sm [i6 wB],Tt],y4],Sat Pg none 0 (at' 30 [1,1,1,1,1,1,1,1,1,0,1,0]) (mkSt g0 123 (f2SL ga RA.length RRA gb RB.length RRB NA.length NNA NNB cs xs ys jj X Y X.length wA wB)) (Qad g0 123 [(True,Ex.ret,f2G NA.length mx)]),(True->Bn [Bn [Zz,Zz],An [Sm (ints mx),HfL (ints mx)],Bn [y5],y4])])]) ?_
 (repeat'(first|(with_reducible apply And.intro)|(refine fun(_:True)=>?_)))<;>first|exact aq|skip
 all_goals first|exact heA|exact heB|exact hwA|exact hwB|exact hcf|exact hl1|exact hrg|exact Qay _ _|exact(Qay _ _).symm|(intro _ h _ _;have h1:=V.agg.inj (List.cons.inj h).1;have h2:=(V.int.inj (List.cons.inj h1).1).2;have h3:=(V.im.inj (List.cons.inj (List.cons.inj h1).2).1).1;rw[hwAB h2 h3])|skip
end
set_option maxHeartbeats 1000000
set_option maxRecDepth 100000
def ldV(p:Nat):Option (List Int)->V
 |none=>.nils
 |some l=>.im (p+1) (ints l)
def Qj7(lo f:Option (List Int)):Option (List Int):=match f with
 |none=>lo
 |some l=>match lo with
  |none=>some l
  |some m=>if befB l m=true then some l else some m
def dfR(F:Nat->Option (List Int)):Nat->Option (List Int)
 |0=>none
 |k+1=>Qj7 (dfR F k) (F k)
theorem Qjb{F:Nat->Option (List Int)}{q:Nat}(h: ∀k l,F k=some l->l.length=q): ∀k l,dfR F k=some l->l.length=q
 |0,l,e=>by cases e
 | k + 1, l, e => by
  have ih:=Qjb h k
  unfold dfR Qj7 at e
  cases hf:F k with
  |none=>rw[hf]at e;exact ih l e
  | some a =>
   rw[hf]at e
   dsimp only at e
   cases hd:dfR F k with
   |none=>rw[hd]at e;injection e with e;rw[<-e];exact h k a hf
   |some m=>
    rw[hd]at e
    dsimp only at e
    split at e
    ·injection e with e;rw[<-e];exact h k a hf
    ·injection e with e;rw[<-e];exact ih m hd
section
variable (ga:Int) (na:Nat) (RA:List V) (gb:Int) (nb:Nat) (RB:List V) (q:Nat) (NB:List V) (xs ys:Nat)
abbrev dkS(NA:List V)(x:Nat×List Int):SL:={sl:=[(4,.ptr 0 0),(5,.ptr 1 0),(6,.ptr 2 0),(7,.ptr 3 0),(8,.ptr 4 0),(9,.ptr 5 0),(10,.ptr 7 0),(50,.im q NA),(51,i6 (q:Nat)),(52,i6 (x.1:Nat))],os:=[mdO ga na RA q NA,mdO gb nb RB q NB,euO xs,euO ys,eoO .nils,ernO 0,rw3 x.2,eoO (.sl 6 0 q (some (q-q)))],md:=[0,0,0,0,0,0,0,1]}
abbrev dkX(NA:List V)(l:List Int):SL:={sl:=[(4,.ptr 0 0),(5,.ptr 1 0),(6,.ptr 2 0),(7,.ptr 3 0),(8,.ptr 4 0),(9,.ptr 5 0),(10,.ptr 6 0)],os:=[mdO ga na RA q NA,mdO gb nb RB q NB,euO xs,euO ys,eoO .nils,ernO 0,eoO (.im q (ints l))],md:=[0,0,0,0,0,0,1]}
end
section
variable (ga:Int) (na:Nat) (RA:List V) (gb:Int) (nb:Nat) (RB:List V) (N:List Mc) (NB:List V) (xs ys:Nat) (hq:N.length<=5) (hc: ∀k,k<N.length->1<=(N.getD k mc0).c/\(N.getD k mc0).c<=4) (hRA:HfL RA) (hRB:HfL RB) (hNB:HfL NB)
include hq hc hRA hRB hNB
theorem dk_loop:Sat Pg none 0 (at' 10 [1,1,1,1,0,1,0]) (mkSt g0 95 (dkS ga na RA gb nb RB N.length NB xs ys (mcL N) (0,preL (fun i=>(N.getD i mc0).c) N.length 0))) (Qad g0 95 [(True,.exit 0,dkX ga na RA gb nb RB N.length NB xs ys (mcL N) (cdT N))]):=by
 have hNN:=Qaj N
 have e2:preL (fun i=>(N.getD i mc0).c) N.length N.length=cdT N:=Qe2
 rw[<-e2]
 refine Qav vE_ok mixed Qab (b:=at' 10 [1,1,1,1,0,1,0,0]) k_ (fun x=>x.1<=N.length/\x.2=preL (fun i=>(N.getD i mc0).c) N.length x.1) (dkS ga na RA gb nb RB N.length NB xs ys (mcL N)) (fun x=>N.length-x.1) (fun x hx=>?_) (0,preL (fun i=>(N.getD i mc0).c) N.length 0) ⟨Nat.zero_le _,rfl⟩
 obtain⟨k,b⟩:=x
 obtain⟨hk,h3⟩:=hx
 dsimp only at hk h3
 by_cases hlt:k<N.length
 ·have hld := Qc8 hlt
  have lb:b.length=N.length:=by rw[h3,Qa0]
  have eb:=Qdz (f:=fun i=>(N.getD i mc0).c) (n:=N.length) (k:=k)
  rw[<-h3]at eb
  have s2:=Qa3 (l:=b) (j:=k) (x:=(N.getD k mc0).c) o_
  rw[eb]at s2
  have lb2:(preL (fun i=>(N.getD i mc0).c) N.length (k+1)).length=N.length:=Qa0
  refine .inl ⟨(k+1,preL (fun i=>(N.getD i mc0).c) N.length (k+1)),[0,1,2,3,4,5,6,7],[yes 53,pl 55,ld 56 (.agg (mcC (N.getD k mc0))),pl 61,st (ints (preL (fun i=>(N.getD i mc0).c) N.length (k+1))),nu 62 ((k+1:Nat):Int)],1000,⟨hlt,rfl⟩,by dsimp only;omega,?_⟩
  clear eb h3
  generalize preL (fun i=>(N.getD i mc0).c) N.length (k+1)=b2 at*
  have hb2:=Qaa b
  have hb4:=Qaa b2
  generalize hxe:N.getD k mc0=x at*
  obtain⟨c,fr,nz,ou⟩:=x
  dsimp only at*
  have i1:=Qaa fr
  have i2:=Qaa nz
  have i3:=Qaa ou
  clear hc
  generalize mcL N=NN at*
  generalize N.length=n at*
  refine m_ (p:=let z0:=(k:Int);let z1:=(n:Int);let z2:=(↑(k+1):Int);let z3:=[i6 ga,V.im na RA,V.im n NN];let z4:=[i6 gb,V.im nb RB,V.im n NB];Bn [decide (z0<z1)=true,An [(0:Int)<=z0,z0<z1],takeE 4 (List.drop (k*4) NN)=some (mcC (Mc.mk c fr nz ou)),An [(0:Int)<=z0,z0<z1],layE (0+k*1) (ints b) [i6 c]=some (ints b2),wr .i64 (z0+1)=z2,Bn [Zz,Zz,Zz,Zz,Zz,Zz,Zz,An [n=n,NN=NN],z1=z1,z2=z2],An [z3=z3,TT 3],An [z4=z4,TT 3],Bn [Sm [u6 xs],Tt],Bn [Sm [u6 ys],Tt],Bn [Sm [V.nils],Tt],Bn [Sm [i6 0],Tt],An [Sm (ints b2),HfL (ints b2)],Bn [An [Zz,n=n,Sm (n-n)]]]) ?_
  (repeat'(first|(with_reducible apply And.intro)|(refine fun(_:True)=>?_)))<;>first|exact aq|skip
  all_goals first|exact s2|skip
 ·have hk2 : k = N.length := by omega
  subst hk2
  subst h3
  have lb2:(preL (fun i=>(N.getD i mc0).c) N.length N.length).length=N.length:=Qa0
  refine .inr ⟨.exit 0,[0,1,2,3,4,5,7],_,[no 53],1000,.inl ⟨trivial,rfl,rfl⟩,?_⟩
  generalize preL (fun i=>(N.getD i mc0).c) N.length N.length=b2 at*
  have hb4:=Qaa b2
  clear hc
  generalize mcL N=NN at*
  generalize N.length=n at*
  refine m_ (p:=Bn [decide ((n:Int)<(n:Int))=false,Bn [Zz,Zz,Zz,Zz,Zz,Zz,Zz],An [Sm [i6 ga,V.im na RA,V.im n NN],TT 3],An [Sm [i6 gb,V.im nb RB,V.im n NB],TT 3],Bn [Sm [u6 xs],Tt],Bn [Sm [u6 ys],Tt],Bn [Sm [V.nils],Tt],Bn [Sm [i6 0],Tt],Bn [An [n=n,Sm (ints b2),HfL (ints b2)]]]) ?_
  (repeat'(first|(with_reducible apply And.intro)|(refine fun(_:True)=>?_)))<;>first|exact aq|skip
  all_goals first|rfl|skip
end
noncomputable abbrev dgC:Code:=at' 10 [1,1,1,1,1,1,0,1,0]
theorem dgC_eq:dgC= .rangeFunc (.tmp 65) #[66] (Qeh dgC) (Qbb dgC):=by kernel_rfl
noncomputable def dgB:Code:=Qbb dgC
noncomputable def dgA:Code:=Qeh dgC
abbrev dg0(v:V):List (Nat×V):=[(4,.ptr 0 0),(5,.ptr 1 0),(6,.ptr 2 0),(7,.ptr 3 0),(8,.ptr 4 0),(9,.ptr 5 0),(10,.ptr 6 0),(13,.ptr 7 0),(66,v)]
abbrev dg1(v:V):List (Nat×V):=[(4,.ptr 0 0),(5,.ptr 1 0),(6,.ptr 2 0),(7,.ptr 3 0),(8,.ptr 4 0),(9,.ptr 5 0),(10,.ptr 6 0),(13,.ptr 7 0),(14,v)]
theorem dg_asg(v:V)(H:T O)(nx:Nat):vc Pg vE sp0 (some 8) nx 1000 dgA [] (mkSo g0 95 (dg0 v) H nx []) (kAsg 95 (dg1 v) H nx):=by
 refine m_ (p:=An [Bn [Sm (V.ptr 0 0),Sm (V.ptr 1 0),Sm (V.ptr 2 0),Sm (V.ptr 3 0),Sm (V.ptr 4 0),Sm (V.ptr 5 0),Sm (V.ptr 6 0),Sm (V.ptr 7 0),v=v],H=H,nx=nx,([]:List Nat)=[]]) ?_
 (repeat'(first|(with_reducible apply And.intro)|(refine fun(_:True)=>?_)))<;>first|exact aq|skip
 all_goals skip
section
variable (ga:Int) (na:Nat) (RA:List V) (gb:Int) (nb:Nat) (RB:List V) (p:Nat) (NA NB:List V) (cs:List Int) (xs ys:Nat)
abbrev dgO(lv:V):List O:=[mdO ga na RA (p+1) NA,mdO gb nb RB (p+1) NB,euO xs,euO ys,eoO .nils,ernO 0,eoO (.im (p+1) (ints cs)),eoO lv]
variable (hRA:HfL RA) (hRB:HfL RB) (hNA:HfL NA) (hNB:HfL NB) (h5:p+1<=5) (hcl:cs.length=p+1)
include hRA hRB hNA hNB h5 hcl
theorem dg_bdy(lo f:Option (List Int))(hlo: ∀l,lo=some l->l.length=p+1)(hf: ∀l,f=some l->l.length=p+1)(u:List Int)(hcall: ∀(H:T O)(nx:Nat),gt H 9=some (rw3 u)->CallSpec Pg g0 (.fn 30 []) [.agg [i6 ga,.im na RA,.im (p+1) NA],.agg [i6 gb,.im nb RB,.im (p+1) NB],.im (p+1) (ints cs),u6 (xs:Nat),u6 (ys:Nat),.sl 9 0 (p+1) (some (p+1-(p+1)))] H nx ⟨.tup [ldV p f,i6 0],H,nx,[]⟩)(Lb:O):
  ∃hsb:Hs,vc Pg vE sp0 (some 8) 10 1000 dgB hsb (mkSo g0 95 (dg1 (.sl 9 0 (p+1) (some (p+1-(p+1))))) (ofOs .e 0 (dgO ga na RA gb nb RB p NA NB cs xs ys (ldV p lo)++[Lb,rw3 u])) 10 [8]) (kBdy (ofOs .e 0 (dgO ga na RA gb nb RB p NA NB cs xs ys (ldV p (Qj7 lo f))++[Lb,rw3 u])) 10 [7,8]):=by
 have hcc:=Qaa cs
 have hc1:=hcall (ofOs .e 0 (dgO ga na RA gb nb RB p NA NB cs xs ys (ldV p lo)++[Lb,rw3 u])) 10 rfl
 clear hcall
 cases f with
 |none=>
  refine⟨[(74,.call ⟨.tup [.nils,i6 0],ofOs .e 0 (dgO ga na RA gb nb RB p NA NB cs xs ys (ldV p lo)++[Lb,rw3 u]),10,[]⟩)],?_⟩
  have e:Qj7 lo none=lo:=rfl
  rw[e]
  have hc2:CallSpec Pg g0 _ _ _ _ ⟨.tup [.nils,i6 0],_,_,_⟩:=hc1
  clear hc1
  have hlv:Hf (ldV p lo):=by cases lo<;>trivial
  generalize ldV p lo=lv at*
  refine m_ (p:=let z0:=ofOs T.e 0 (dgO ga na RA gb nb RB p NA NB cs xs ys lv++[Lb,rw3 u]);An [CallSpec Pg g0 (V.fn 30 []) [V.agg [i6 ga,V.im na RA,V.im (p+1) NA],V.agg [i6 gb,V.im nb RB,V.im (p+1) NB],V.im (p+1) (ints cs),u6 xs,u6 ys,V.sl 9 0 (p+1) (some (p+1-(p+1)))] z0 10 (CR.mk (V.tup [V.nils,i6 0]) z0 10 []),Tt,z0=z0,10=10,∀(g:Nat),List.Mem g ([]++[8])->List.Mem g [7,8]]) ?_
  (repeat'(first|(with_reducible apply And.intro)|(refine fun(_:True)=>?_)))<;>first|exact aq|skip
  all_goals first|exact hc2|(intro g hg;change g∈[8]at hg;show g∈[7,8];simp only[List.mem_cons,List.not_mem_nil,or_false]at hg⊢;omega)|kernel_rfl|skip
 | some l =>
  have hll:=hf l rfl
  have hl1:=Qaa l
  cases lo with
  |none=>
   refine⟨[(74,.call ⟨.tup [.im (p+1) (ints l),i6 0],ofOs .e 0 (dgO ga na RA gb nb RB p NA NB cs xs ys .nils++[Lb,rw3 u]),10,[]⟩)],?_⟩
   have hc2:CallSpec Pg g0 _ _ (ofOs .e 0 (dgO ga na RA gb nb RB p NA NB cs xs ys .nils++[Lb,rw3 u])) _ ⟨.tup [.im (p+1) (ints l),i6 0],ofOs .e 0 (dgO ga na RA gb nb RB p NA NB cs xs ys .nils++[Lb,rw3 u]),_,_⟩:=hc1
   clear hc1
   show vc _ _ _ _ _ _ _ _ (mkSo _ _ _ (ofOs .e 0 (dgO ga na RA gb nb RB p NA NB cs xs ys .nils++[Lb,rw3 u])) _ _) (kBdy (ofOs .e 0 (dgO ga na RA gb nb RB p NA NB cs xs ys (.im (p+1) (ints l))++[Lb,rw3 u])) _ _)
   refine m_ (p:=let z0:=ofOs T.e 0 (dgO ga na RA gb nb RB p NA NB cs xs ys V.nils++[Lb,rw3 u]);let z1:=V.im (p+1) (ints l);An [CallSpec Pg g0 (V.fn 30 []) [V.agg [i6 ga,V.im na RA,V.im (p+1) NA],V.agg [i6 gb,V.im nb RB,V.im (p+1) NB],V.im (p+1) (ints cs),u6 xs,u6 ys,V.sl 9 0 (p+1) (some (p+1-(p+1)))] z0 10 (CR.mk (V.tup [z1,i6 0]) z0 10 []),Tt,pt z0 7 (O.row 36 none [z1])=ofOs T.e 0 (dgO ga na RA gb nb RB p NA NB cs xs ys z1++[Lb,rw3 u]),10=10,∀(g:Nat),List.Mem g ([7]++([]++[8]))->List.Mem g [7,8]]) ?_
   (repeat'(first|(with_reducible apply And.intro)|(refine fun(_:True)=>?_)))<;>first|exact aq|skip
   all_goals first|exact hc2|(intro g hg;change g∈[7,8]at hg;exact hg)|kernel_rfl|skip
  | some m =>
   have hml:=hlo m rfl
   have hm1:=Qaa m
   have hbf:=Qqp l m o_ o_
   have e1:sl l= .im (p+1) (ints l):=by show V.im l.length _=_;rw[hll]
   have e2:sl m= .im (p+1) (ints m):=by show V.im m.length _=_;rw[hml]
   rw[e1,e2]at hbf
   have hc2:CallSpec Pg g0 _ _ (ofOs .e 0 (dgO ga na RA gb nb RB p NA NB cs xs ys (.im (p+1) (ints m))++[Lb,rw3 u])) _ ⟨.tup [.im (p+1) (ints l),i6 0],ofOs .e 0 (dgO ga na RA gb nb RB p NA NB cs xs ys (.im (p+1) (ints m))++[Lb,rw3 u]),_,_⟩:=hc1
   clear hc1 e1 e2
   cases hb:befB l m with
   |true=>
    rw[hb]at hbf
    refine⟨[(74,.call ⟨.tup [.im (p+1) (ints l),i6 0],ofOs .e 0 (dgO ga na RA gb nb RB p NA NB cs xs ys (.im (p+1) (ints m))++[Lb,rw3 u]),10,[]⟩),fn 88 (.bool true)],?_⟩
    have es:ldV p (Qj7 (some m) (some l))= .im (p+1) (ints l):=by unfold Qj7;dsimp only;rw[if_pos hb];rfl
    rw[es]
    show vc _ _ _ _ _ _ _ _ (mkSo _ _ _ (ofOs .e 0 (dgO ga na RA gb nb RB p NA NB cs xs ys (.im (p+1) (ints m))++[Lb,rw3 u])) _ _) (kBdy (ofOs .e 0 (dgO ga na RA gb nb RB p NA NB cs xs ys (.im (p+1) (ints l))++[Lb,rw3 u])) _ _)
    clear es hb
    refine m_ (p:=let z1:=V.im (p+1) (ints l);let z2:=V.im (p+1) (ints m);let z0:=ofOs T.e 0 (dgO ga na RA gb nb RB p NA NB cs xs ys z2++[Lb,rw3 u]);An [CallSpec Pg g0 (V.fn 30 []) [V.agg [i6 ga,V.im na RA,V.im (p+1) NA],V.agg [i6 gb,V.im nb RB,V.im (p+1) NB],V.im (p+1) (ints cs),u6 xs,u6 ys,V.sl 9 0 (p+1) (some (p+1-(p+1)))] z0 10 (CR.mk (V.tup [z1,i6 0]) z0 10 []),Tt,TT 2,FnOk Pg g0 31 [z1,z2] (V.bool true),Tt,pt z0 7 (O.row 36 none [z1])=ofOs T.e 0 (dgO ga na RA gb nb RB p NA NB cs xs ys z1++[Lb,rw3 u]),10=10,∀(g:Nat),List.Mem g ([7]++([]++([]++[8])))->List.Mem g [7,8]]) ?_
    (repeat'(first|(with_reducible apply And.intro)|(refine fun(_:True)=>?_)))<;>first|exact aq|skip
    all_goals first|exact hc2|exact hbf|(intro g hg;change g∈[7,8]at hg;exact hg)|kernel_rfl|skip
   |false=>
    rw[hb]at hbf
    refine⟨[(74,.call ⟨.tup [.im (p+1) (ints l),i6 0],ofOs .e 0 (dgO ga na RA gb nb RB p NA NB cs xs ys (.im (p+1) (ints m))++[Lb,rw3 u]),10,[]⟩),fn 88 (.bool false)],?_⟩
    have es:ldV p (Qj7 (some m) (some l))= .im (p+1) (ints m):=by unfold Qj7;dsimp only;rw[if_neg (by rw[hb];simp)];rfl
    rw[es]
    show vc _ _ _ _ _ _ _ _ (mkSo _ _ _ (ofOs .e 0 (dgO ga na RA gb nb RB p NA NB cs xs ys (.im (p+1) (ints m))++[Lb,rw3 u])) _ _) (kBdy (ofOs .e 0 (dgO ga na RA gb nb RB p NA NB cs xs ys (.im (p+1) (ints m))++[Lb,rw3 u])) _ _)
    clear es hb
    refine m_ (p:=let z1:=V.im (p+1) (ints m);let z0:=ofOs T.e 0 (dgO ga na RA gb nb RB p NA NB cs xs ys z1++[Lb,rw3 u]);An [CallSpec Pg g0 (V.fn 30 []) [V.agg [i6 ga,V.im na RA,V.im (p+1) NA],V.agg [i6 gb,V.im nb RB,V.im (p+1) NB],V.im (p+1) (ints cs),u6 xs,u6 ys,V.sl 9 0 (p+1) (some (p+1-(p+1)))] z0 10 (CR.mk (V.tup [V.im (p+1) (ints l),i6 0]) z0 10 []),Tt,TT 2,FnOk Pg g0 31 [V.im (p+1) (ints l),z1] (V.bool false),Tt,z0=z0,10=10,∀(g:Nat),List.Mem g ([]++([]++[8]))->List.Mem g [7,8]]) ?_
    (repeat'(first|(with_reducible apply And.intro)|(refine fun(_:True)=>?_)))<;>first|exact aq|skip
    all_goals first|exact hc2|exact hbf|(intro g hg;change g∈[8]at hg;show g∈[7,8];simp only[List.mem_cons,List.not_mem_nil,or_false]at hg⊢;omega)|kernel_rfl|skip
end
set_option maxHeartbeats 1000000
set_option maxRecDepth 100000
def firD(ga:Int)(RA:List (List Int))(NA:List Mc)(gb:Int)(RB:List (List Int))(NB:List Mc)(xs ys k:Nat):Option (List Int):=
 (firI (effL RA NA (actL NA.length xs (cmb (mkC (cdT NA) xs) k)) ys) (effL RB NB (actL NA.length xs (cmb (mkC (cdT NA) xs) k)) ys) (ga^RA.length) (gb^RB.length) (effL RA NA (actL NA.length xs (cmb (mkC (cdT NA) xs) k)) ys).length).map fun i=>mixL NA.length xs (cmb (mkC (cdT NA) xs) k) fun v=>(cmb (mkC (cdT NA) ys) i).getD v 0
theorem Qnx{ga:Int}{RA:List (List Int)}{NA:List Mc}{gb:Int}{RB:List (List Int)}{NB:List Mc}{xs ys:Nat}: ∀k l,firD ga RA NA gb RB NB xs ys k=some l->l.length=NA.length:=fun k l h=>by
 unfold firD at h
 obtain⟨i,_,rfl⟩:=Option.map_eq_some_iff.1 h
 exact Qa4
theorem mkC_val{cs:List Int}{s:Nat}{u:List Int}(hc: ∀i,i<cs.length->1<=cs.getD i 0/\cs.getD i 0<=4)(h:valT (mkC cs s) u cs.length):valT cs u cs.length:=fun i hi=>by
 have h1:=h i hi
 rw[Qld hi]at h1
 have h2:=hc i hi
 split at h1<;>omega
section
variable {ga gb:Int} {RA RB:List (List Int)} {NA NB:List Mc} (hlA:Qbd RA NA) (hlB:Qbd RB NB) (hA:chkB ga RA NA=true) (hB:chkB gb RB NB=true) (hs:cdT NA=cdT NB) {xs ys:Nat} (hxs:xs<18446744073709551616) (hys:ys<18446744073709551616)
include hlA hlB hA hB hs hxs hys
theorem first_at(k p:Nat)(hp:NA.length=p+1)(hk:(k:Int)<prodT (mkC (cdT NA) xs) NA.length)(H:T O)(nx:Nat)(h9:gt H 9=some (rw3 (cmb (mkC (cdT NA) xs) k))):CallSpec Pg g0 (.fn 30 []) [.agg [i6 ga,.im RA.length (rtL RA),.im (p+1) (mcL NA)],.agg [i6 gb,.im RB.length (rtL RB),.im (p+1) (mcL NB)],.im (p+1) (ints (cdT NA)),u6 (xs:Nat),u6 (ys:Nat),.sl 9 0 (p+1) (some (p+1-(p+1)))] H nx ⟨.tup [ldV p (firD ga RA NA gb RB NB xs ys k),i6 0],H,nx,[]⟩:=by
 have hMA:=Qb4 hA
 have hcl:=Qbe (N:=NA)
 have hcb:=Qkx hMA.cd
 have hql:NA.length=NB.length:=by rw[<-hcl,hs,Qbe]
 have hRA:=Qah RA
 have hNA:=Qaj NA
 have hRB:=Qah RB
 have hNB:=Qaj NB
 have hcc:=Qaa (cdT NA)
 obtain⟨hv1,_⟩:=Qky (cs:=mkC (cdT NA) xs) (fun i hi=>(Qsu hcb i (by rw[Qbi]at hi;exact hi)).1) (j:=k) (by rw[Qbi,hcl];exact hk)
 rw[Qbi]at hv1
 have hv2:=mkC_val hcb hv1
 have hul:(cmb (mkC (cdT NA) xs) k).length=NA.length:=by rw[Qcz,Qbi,hcl]
 rw[hcl]at hv2
 have hfn:=first_fn hlA hlB hA hB hs hxs hys hul hv2
 have hfo:=Qrs hlA hlB hA hB hs hxs hys hul hv2
 rw[Qak]at h9
 have e1:mdV ga RA NA= .agg [i6 ga,.im RA.length (rtL RA),.im (p+1) (mcL NA)]:=by rw[<-hp]
 have e2:mdV gb RB NB= .agg [i6 gb,.im RB.length (rtL RB),.im (p+1) (mcL NB)]:=by rw[<-hp,hql]
 have e3:sl (cdT NA)= .im (p+1) (ints (cdT NA)):=by show V.im (cdT NA).length _=_;rw[hcl,hp]
 have e4:sl (cmb (mkC (cdT NA) xs) k)= .im (p+1) (ints (cmb (mkC (cdT NA) xs) k)):=by show V.im (cmb (mkC (cdT NA) xs) k).length _=_;rw[hul,hp]
 rw[e1,e2,e3,e4]at hfn hfo
 unfold firD
 have hview: ∀u:List Int,H.get 9=some (rw3 u)->ViewL H.get (fun _=>True) (fun _=>none) [.agg [i6 ga,.im RA.length (rtL RA),.im (p+1) (mcL NA)],.agg [i6 gb,.im RB.length (rtL RB),.im (p+1) (mcL NB)],.im (p+1) (ints (cdT NA)),u6 (xs:Nat),u6 (ys:Nat),.im (p+1) (ints u)] [.agg [i6 ga,.im RA.length (rtL RA),.im (p+1) (mcL NA)],.agg [i6 gb,.im RB.length (rtL RB),.im (p+1) (mcL NB)],.im (p+1) (ints (cdT NA)),u6 (xs:Nat),u6 (ys:Nat),.sl 9 0 (p+1) (some (p+1-(p+1)))]:=fun u hu=>by
  refine⟨_,_,rfl,View.of_hf _ ⟨trivial,trivial,trivial,trivial⟩,_,_,rfl,View.of_hf _ ⟨trivial,trivial,trivial,trivial⟩,_,_,rfl,View.of_hf _ trivial,_,_,rfl,View.of_hf _ trivial,_,_,rfl,View.of_hf _ trivial,_,_,rfl,.inr (.inr ⟨9,0,_,_,_,_,rfl,trivial,hu,ViewP.of_hf _ (Qaa u)⟩),rfl⟩
 have hvw:=hview _ h9
 cases hf:firI (effL RA NA (actL NA.length xs (cmb (mkC (cdT NA) xs) k)) ys) (effL RB NB (actL NA.length xs (cmb (mkC (cdT NA) xs) k)) ys) (ga^RA.length) (gb^RB.length) (effL RA NA (actL NA.length xs (cmb (mkC (cdT NA) xs) k)) ys).length with
 |none=>
  rw[hf]at hfn
  exact Qrw hfn hvw rfl
 |some i=>
  have h1:=hfo i hf
  have hml:(mixL NA.length xs (cmb (mkC (cdT NA) xs) k) fun v=>(cmb (mkC (cdT NA) ys) i).getD v 0).length=NA.length:=Qa4
  show CallSpec Pg g0 _ _ H nx ⟨.tup [.im (p+1) (ints (mixL NA.length xs (cmb (mkC (cdT NA) xs) k) fun v=>(cmb (mkC (cdT NA) ys) i).getD v 0)),i6 0],H,nx,[]⟩
  rw[hp]at h1 hml⊢
  exact frameZT h1 hvw (Qkp _) (by rw[Qbs];exact hml)
end
section
variable (ga:Int) (na:Nat) (RA:List V) (gb:Int) (nb:Nat) (RB:List V) (p:Nat) (NA NB:List V) (cs:List Int) (xs ys:Nat)
abbrev dgS:SL:={sl:=[(4,.ptr 0 0),(5,.ptr 1 0),(6,.ptr 2 0),(7,.ptr 3 0),(8,.ptr 4 0),(9,.ptr 5 0),(10,.ptr 6 0),(13,.ptr 7 0),(65,.fn 58 [.imp [.im (p+1) (ints cs)],.imp [u6 (xs:Nat)]])],os:=dgO ga na RA gb nb RB p NA NB cs xs ys .nils,md:=[0,0,0,0,0,0,1,1]}
abbrev dgX(v:V):SL:={sl:=[(8,.ptr 0 0),(9,.ptr 1 0),(13,.ptr 2 0)],os:=[eoO .nils,ernO 0,eoO v],md:=[0,0,1]}
variable (hRA:HfL RA) (hRB:HfL RB) (hNA:HfL NA) (hNB:HfL NB) (h5:p+1<=5) (hcl:cs.length=p+1) (hxs:xs<18446744073709551616) (hc: ∀i,i<p+1->1<=cs.getD i 0/\cs.getD i 0<=4) (P:Nat) (hPe:(P:Int)=prodT (mkC cs xs) (p+1)) (hP1:1<=P) (F:Nat->Option (List Int)) (hF: ∀k l,F k=some l->l.length=p+1)
 (hcall: ∀k,k<P->∀(H:T O)(nx:Nat),gt H 9=some (rw3 (cmb (mkC cs xs) k))->CallSpec Pg g0 (.fn 30 []) [.agg [i6 ga,.im na RA,.im (p+1) NA],.agg [i6 gb,.im nb RB,.im (p+1) NB],.im (p+1) (ints cs),u6 (xs:Nat),u6 (ys:Nat),.sl 9 0 (p+1) (some (p+1-(p+1)))] H nx ⟨.tup [ldV p (F k),i6 0],H,nx,[]⟩)
include hRA hRB hNA hNB h5 hcl hxs hc hPe hP1 hF hcall
theorem dg_range:Sat Pg none 0 dgC (mkSt g0 95 (dgS ga na RA gb nb RB p NA NB cs xs ys)) (Qad g0 95 [(True,.normal,dgX (ldV p (dfR F P)))]):=by
 rw[dgC_eq]
 obtain⟨L,hL⟩: ∃L:O,L= .loop .ready none 0 (mkSt g0 95 (dgS ga na RA gb nb RB p NA NB cs xs ys)).tm [66] dgA dgB:=⟨_,rfl⟩
 have hh: ∀j,HHc (ofOs .e 0 (dgO ga na RA gb nb RB p NA NB cs xs ys .nils++[L])) (fun j=>ofOs .e 0 (dgO ga na RA gb nb RB p NA NB cs xs ys (ldV p (dfR F (j+1)))++[L,rw3 (cmb (mkC cs xs) j)])) 9 (mkC cs xs) j=ofOs .e 0 (dgO ga na RA gb nb RB p NA NB cs xs ys (ldV p (dfR F j))++[L,rw3 (cmb (mkC cs xs) j)]):=fun j=>by
  cases j with
  |zero=>kernel_rfl
  |succ j=>kernel_rfl
 have hfin: ∀m,cbF (fun j=>ofOs .e 0 (dgO ga na RA gb nb RB p NA NB cs xs ys (ldV p (dfR F (j+1)))++[L,rw3 (cmb (mkC cs xs) j)])) 9 (mkC cs xs) (m+1) true=ofOs .e 0 (dgO ga na RA gb nb RB p NA NB cs xs ys (ldV p (dfR F (m+1)))++[L,rw3 (cmb (mkC cs xs) (m+1))]):=fun m=>by kernel_rfl
 obtain⟨m,rfl⟩: ∃m,P=m+1:=⟨P-1,by omega⟩
 have hrng:=Qen cs xs (p+1) hcl hxs o_ hc (m+1) hPe (m+1) hP1 (Nat.le_refl _) (fun _=>true) (fun _ _=>rfl) (fun _=>rfl) 8 9 (ofOs .e 0 (dgO ga na RA gb nb RB p NA NB cs xs ys .nils++[L])) (fun j=>ofOs .e 0 (dgO ga na RA gb nb RB p NA NB cs xs ys (ldV p (dfR F (j+1)))++[L,rw3 (cmb (mkC cs xs) j)])) (fun _=>10) [7,8] rfl (fun j hj=>by rw[Qak,Qai];rfl) (fun j hj=>by
  rw[hh j]
  have hb:=fun Lb=>dg_bdy ga na RA gb nb RB p NA NB cs xs ys hRA hRB hNA hNB h5 hcl (dfR F j) (F j) (Qjb hF j) (hF j) (cmb (mkC cs xs) j) (hcall j hj) Lb
  have es:Qj7 (dfR F j) (F j)=dfR F (j+1):=rfl
  rw[es]at hb
  generalize cmb (mkC cs xs) j=u at*
  refine CallSpec.yldC vE_ok mixed Qab (n:=95) (fn0:=0) (tm:=(mkSt g0 95 (dgS ga na RA gb nb RB p NA NB cs xs ys)).tm) (ps:=[66]) (assign:=dgA) (body:=dgB) (hs0:=[]) (hs1:=fun Lb=>(hb Lb).choose) (m0:=1000) (m1:=1000) (sl0:=dg0 (.sl 9 0 (p+1) (some (p+1-(p+1))))) (sl1:=dg1 (.sl 9 0 (p+1) (some (p+1-(p+1))))) ?_ rfl rfl rfl ⟨rfl,rfl,rfl,rfl,rfl,rfl,rfl,rfl,rfl,trivial⟩ (dg_asg _) (fun Lb=>?_) (by simp) (fun i hi=>?_) ?_
  ·rw[Qak,Qai,hL];rfl
  ·have e4 : ∀ v, pt (ofOs .e 0 (dgO ga na RA gb nb RB p NA NB cs xs ys v ++ [L, rw3 u])) 8 Lb = ofOs .e 0 (dgO ga na RA gb nb RB p NA NB cs xs ys v ++ [Lb, rw3 u]) := fun v => by kernel_rfl
   rw[e4,e4]
   exact(hb Lb).choose_spec
  ·rw [Qai, Qai]
   simp only[List.mem_cons,List.not_mem_nil,or_false,not_or]at hi
   rcases(show i=0\/i=1\/i=2\/i=3\/i=4\/i=5\/i=6\/9<=i by omega)with rfl|rfl|rfl|rfl|rfl|rfl|rfl|h7
   all_goals first|rfl|(obtain⟨d,rfl⟩: ∃d,i=d+9:=⟨i-9,by omega⟩;rfl)
  ·rw[Qak,Qai,hL];rfl) (by
  rw[hfin]
  refine⟨by simp,fun i hi hn=>?_⟩
  rw[Qai,Qai]
  simp only[List.mem_cons,List.not_mem_nil,or_false,not_or]at hi
  rcases(show i=0\/i=1\/i=2\/i=3\/i=4\/i=5\/i=6\/10<=i by omega)with rfl|rfl|rfl|rfl|rfl|rfl|rfl|h7
  all_goals first|rfl|(obtain⟨d,rfl⟩: ∃d,i=d+10:=⟨i-10,by omega⟩;rfl))
 rw[hfin]at hrng
 generalize cmb (mkC cs xs) (m+1)=u at*
 generalize dfR F (m+1)=lo at*
 cases lo with
 | none =>
  rw[show ldV p none= .nils from rfl]at hrng⊢
  refine Sat.rangeC (r:=[4,5,7]) (S:=dgS ga na RA gb nb RB p NA NB cs xs ys) (f:=58) (caps:=[.imp [.im (p+1) (ints cs)],.imp [u6 (xs:Nat)]]) rfl rfl (by rw[hL]at hrng;exact hrng) ?_ ?_
  ·rw[Qak,Qai];rfl
  ·clear hrng hL hc hPe hcall hF hh hfin
   refine m_ (p:=Bn [Bn [Zz,Zz,Zz],Bn [Sm [V.nils],Tt],Bn [Sm [i6 0],Tt],Bn [Tt]]) ?_
   (repeat'(first|(with_reducible apply And.intro)|(refine fun(_:True)=>?_)))<;>first|exact aq|skip
   all_goals first|rfl|skip
 | some l =>
  have hll:=Qaa l
  rw[show ldV p (some l)= .im (p+1) (ints l)from rfl]at hrng⊢
  refine Sat.rangeC (r:=[4,5,7]) (S:=dgS ga na RA gb nb RB p NA NB cs xs ys) (f:=58) (caps:=[.imp [.im (p+1) (ints cs)],.imp [u6 (xs:Nat)]]) rfl rfl (by rw[hL]at hrng;exact hrng) ?_ ?_
  ·rw[Qak,Qai];rfl
  ·clear hrng hL hc hPe hcall hF hh hfin
   refine m_ (p:=Bn [Bn [Zz,Zz,Zz],Bn [Sm [V.nils],Tt],Bn [Sm [i6 0],Tt],Bn [An [Sm (p+1),Sm (ints l)]]]) ?_
   (repeat'(first|(with_reducible apply And.intro)|(refine fun(_:True)=>?_)))<;>first|exact aq|skip
   all_goals first|rfl|skip
end
set_option maxHeartbeats 1000000
set_option maxRecDepth 100000
theorem ints_inj: ∀{a b:List Int},ints a=ints b->a=b
 |[],[],_=>rfl
 |[],_:: _,h=>by cases h
 | _:: _,[],h=>by cases h
 |x::a,y::b,h=>by
  have h1:=List.cons.inj (show i6 x::ints a=i6 y::ints b from h)
  rw[(V.int.inj h1.1).2,ints_inj h1.2]
theorem Qj6{a b:List Int}(h:sl a=sl b):a=b:=ints_inj (V.im.inj h).2
theorem Qtp: ∀{A B:List (List Int)},rtL A=rtL B->A=B
 |[],[],_=>rfl
 |[],_:: _,h=>by cases h
 | _:: _,[],h=>by cases h
 |x::a,y::b,h=>by
  have h1:=List.cons.inj (show sl x::rtL a=sl y::rtL b from h)
  rw[Qj6 h1.1,Qtp h1.2]
theorem Qst: ∀{A B:List Mc},mcL A=mcL B->A=B
 |[],[],_=>rfl
 |[],_:: _,h=>by cases h
 | _:: _,[],h=>by cases h
 |⟨c,fr,nz,ou⟩::a,⟨c',fr',nz',ou'⟩::b,h=>by
  have h1:=List.cons.inj (show i6 c::sl fr::sl nz::sl ou::mcL a=i6 c'::sl fr'::sl nz'::sl ou'::mcL b from h)
  have h2:=List.cons.inj h1.2
  have h3:=List.cons.inj h2.2
  have h4:=List.cons.inj h3.2
  rw[(V.int.inj h1.1).2,Qj6 h2.1,Qj6 h3.1,Qj6 h4.1,Qst h4.2]
theorem mdV_inj{ga gb:Int}{RA RB:List (List Int)}{NA NB:List Mc}(h:V.agg [i6 ga,.im RA.length (rtL RA),.im NA.length (mcL NA)]=V.agg [i6 gb,.im RB.length (rtL RB),.im NB.length (mcL NB)]):ga=gb/\RA=RB/\NA=NB:=by
 have h1:=List.cons.inj (V.agg.inj h)
 have h2:=List.cons.inj h1.2
 have h3:=List.cons.inj h2.2
 exact⟨(V.int.inj h1.1).2,Qtp (V.im.inj h2.1).2,Qst (V.im.inj h3.1).2⟩
def difL(ga:Int)(RA:List (List Int))(NA:List Mc)(gb:Int)(RB:List (List Int))(NB:List Mc)(xs ys:Nat):Option (List Int):=dfR (firD ga RA NA gb RB NB xs ys) (prodT (mkC (cdT NA) xs) NA.length).toNat
def Qmt(n xs ys:Nat):Bool:=decide ((xs|||ys)/2^n=0)&&decide (xs&&& ys=0)
section
variable (ga:Int) (RA:List (List Int)) (NA:List Mc) (gb:Int) (RB:List (List Int)) (NB:List Mc) (hlA:Qbd RA NA) (hlB:Qbd RB NB) (xs ys:Nat)
include hlA hlB
theorem Qlx(hA:chkB ga RA NA=false):FnOk Pg g0 10 [mdV ga RA NA,mdV gb RB NB,u6 (xs:Nat),u6 (ys:Nat)] (.tup [.nils,i6 330]):=by
 have c1:=Qas ga RA NA hlA
 rw[hA,if_neg (by simp)]at c1
 have hRA:=Qah RA
 have hNA:=Qaj NA
 have hRB:=Qah RB
 have hNB:=Qaj NB
 unfold mdV at*
 refine FnOk.of_vc vE_ok mixed Qab (n:=1000) (r:=[4,5]) (S:={sl:=[(8,.ptr 0 0),(9,.ptr 1 0)],os:=[eoO .nils,ernO 330]}) (hs:=[fn 18 (i6 330)]) ?_
 clear hA hlA hlB
 generalize rtL RA=RRA at*
 generalize mcL NA=NNA at*
 generalize rtL RB=RRB at*
 generalize mcL NB=NNB at*
 refine m_ (p:=Bn [Sm (V.tup [V.nils,i6 330]),Bn [TT 3],FnOk Try.prog g0 25 [V.agg [i6 ga,V.im RA.length RRA,V.im NA.length NNA]] (i6 330),Tt,Bn [Zz,Zz],Bn [Sm [V.nils],Tt],Bn [Sm [i6 330],Tt]]) ?_
 (repeat'(first|(with_reducible apply And.intro)|(refine fun(_:True)=>?_)))<;>first|exact aq|skip
 all_goals first|exact c1|skip
theorem Qly(hA:chkB ga RA NA=true)(hB:chkB gb RB NB=true)(hs:sameB NA NB=false):FnOk Pg g0 10 [mdV ga RA NA,mdV gb RB NB,u6 (xs:Nat),u6 (ys:Nat)] (.tup [.nils,i6 2]):=by
 have c1:=Qas ga RA NA hlA
 rw[hA,if_pos rfl]at c1
 have c2:=Qas gb RB NB hlB
 rw[hB,if_pos rfl]at c2
 have hMA:=Qb4 hA
 have hMB:=Qb4 hB
 have c3:=Qhs ga gb RA RB NA NB (by have:=hMA.q1;omega) (by have:=hMB.q1;omega)
 rw[hs]at c3
 have hRA:=Qah RA
 have hNA:=Qaj NA
 have hRB:=Qah RB
 have hNB:=Qaj NB
 unfold mdV at*
 refine FnOk.of_vc vE_ok mixed Qab (n:=1000) (r:=[4,5]) (S:={sl:=[(8,.ptr 0 0),(9,.ptr 1 0)],os:=[eoO .nils,ernO 2]}) (hs:=[fn 18 (i6 0),fn 22 (i6 0),fn 27 (.bool false)]) ?_
 clear hA hlA hlB hMA hMB hs hB
 generalize rtL RA=RRA at*
 generalize mcL NA=NNA at*
 generalize rtL RB=RRB at*
 generalize mcL NB=NNB at*
 refine m_ (p:=let z1:=[i6 ga,V.im RA.length RRA,V.im NA.length NNA];let z2:=[i6 gb,V.im RB.length RRB,V.im NB.length NNB];let z0:=pt (pt (pt (pt (pt (pt T.e 0 (O.row 26 none z1)) 1 (O.row 26 none z2)) 2 (O.row 29 none [u6 xs])) 3 (O.row 29 none [u6 ys])) 4 (O.row 36 none [V.nils])) 5 (O.row 31 none [i6 0]);Bn [Sm (V.tup [V.nils,i6 2]),Bn [TT 3],FnOk Try.prog g0 25 [V.agg z1] (i6 0),Tt,Bn [TT 3],FnOk Try.prog g0 25 [V.agg z2] (i6 0),Bn [(V.fn 25 []=V.fn 25 []->[V.agg z1]=[V.agg z2]->z0=z0->0+1+1+1+1+1+1=6->Sm (CR.mk (i6 0) z0 6 []))],Bn [TT 3,TT 3],FnOk Try.prog g0 26 [V.agg z1,V.agg z2] (V.bool false),Tt,Bn [Zz,Zz],Bn [Sm [V.nils],Tt],Bn [Sm [i6 2],Tt]]) ?_
 (repeat'(first|(with_reducible apply And.intro)|(refine fun(_:True)=>?_)))<;>first|exact aq|skip
 all_goals first|exact c1|exact c2|exact c3|skip
theorem Qgr(hxs:xs<18446744073709551616)(hys:ys<18446744073709551616)(hA:chkB ga RA NA=true)(hB:chkB gb RB NB=true)(hs:sameB NA NB=true)(hst:Qmt NA.length xs ys=false):FnOk Pg g0 10 [mdV ga RA NA,mdV gb RB NB,u6 (xs:Nat),u6 (ys:Nat)] (.tup [.nils,i6 2]):=by
 have c1:=Qas ga RA NA hlA
 rw[hA,if_pos rfl]at c1
 have c2:=Qas gb RB NB hlB
 rw[hB,if_pos rfl]at c2
 have hMA:=Qb4 hA
 have hMB:=Qb4 hB
 have hqa:=hMA.q1
 have c3:=Qhs ga gb RA RB NA NB (by have:=hMA.q1;omega) (by have:=hMB.q1;omega)
 rw[hs]at c3
 have hRA:=Qah RA
 have hNA:=Qaj NA
 have hRB:=Qah RB
 have hNB:=Qaj NB
 have o1:=(or_u (G:=Qac Pg) (t:=29) hxs hys).1
 have o2:=Qdd (G:=Qac Pg) (t:=29) (x:=xs|||ys) (k:=NA.length) o_
 have o3:=Qls (G:=Qac Pg) (t:=29) hxs hys
 unfold Qmt at hst
 unfold mdV at*
 by_cases h1:(xs|||ys)/2^NA.length=0
 ·have h2 : xs &&& ys ≠ 0 := fun e => by rw [h1, e] at hst; simp at hst
  refine FnOk.of_vc vE_ok mixed Qab (n:=1000) (r:=[4,5]) (S:={sl:=[(8,.ptr 0 0),(9,.ptr 1 0)],os:=[eoO .nils,ernO 2]}) (hs:=[fn 18 (i6 0),fn 22 (i6 0),fn 27 (.bool true),va 32 (u6 (xs|||ys:Nat)),va 36 (u6 ((xs|||ys)/2^NA.length:Nat)),no 37,va 42 (u6 (xs&&& ys:Nat)),yes 43]) ?_
  clear hA hlA hlB hMA hMB hs hB hst
  generalize (xs|||ys)/2^NA.length=z1 at*
  generalize xs|||ys=z0 at*
  generalize xs&&& ys=z2 at*
  generalize rtL RA=RRA at*
  generalize mcL NA=NNA at*
  generalize rtL RB=RRB at*
  generalize mcL NB=NNB at*
  refine m_ (p:=let z4:=[i6 ga,V.im RA.length RRA,V.im NA.length NNA];let z5:=[i6 gb,V.im RB.length RRB,V.im NB.length NNB];let z6:=Qac Try.prog;let z3:=pt (pt (pt (pt (pt (pt T.e 0 (O.row 26 none z4)) 1 (O.row 26 none z5)) 2 (O.row 29 none [u6 xs])) 3 (O.row 29 none [u6 ys])) 4 (O.row 36 none [V.nils])) 5 (O.row 31 none [i6 0]);Bn [Sm (V.tup [V.nils,i6 2]),Bn [TT 3],FnOk Try.prog g0 25 [V.agg z4] (i6 0),Tt,Bn [TT 3],FnOk Try.prog g0 25 [V.agg z5] (i6 0),Bn [(V.fn 25 []=V.fn 25 []->[V.agg z4]=[V.agg z5]->z3=z3->0+1+1+1+1+1+1=6->Sm (CR.mk (i6 0) z3 6 []))],Bn [TT 3,TT 3],FnOk Try.prog g0 26 [V.agg z4,V.agg z5] (V.bool true),Tt,binV z6 BinOp.or 29 (u6 xs) (u6 ys)=some (u6 z0),binV z6 BinOp.shr 29 (u6 z0) (i6 NA.length)=some (u6 z1),((z1:Int) != 0)=false,binV z6 BinOp.and 29 (u6 xs) (u6 ys)=some (u6 z2),((z2:Int) != 0)=true,Bn [Zz,Zz],Bn [Sm [V.nils],Tt],Bn [Sm [i6 2],Tt]]) ?_
  (repeat'(first|(with_reducible apply And.intro)|(refine fun(_:True)=>?_)))<;>first|exact aq|skip
  all_goals first|exact c1|exact c2|exact c3|exact o1|exact o2|exact o3|(rw[h1];rfl)|(simp;omega)|skip
 ·refine FnOk.of_vc vE_ok mixed Qab (n := 1000) (r := [4, 5]) (S := { sl := [(8, .ptr 0 0), (9, .ptr 1 0)], os := [eoO .nils, ernO 2] }) (hs := [fn 18 (i6 0), fn 22 (i6 0), fn 27 (.bool true), va 32 (u6 (xs ||| ys : Nat)), va 36 (u6 ((xs ||| ys) / 2 ^ NA.length : Nat)), yes 37]) ?_
  clear hA hlA hlB hMA hMB hs hB hst
  generalize (xs|||ys)/2^NA.length=z1 at*
  generalize xs|||ys=z0 at*
  generalize xs&&& ys=z2 at*
  generalize rtL RA=RRA at*
  generalize mcL NA=NNA at*
  generalize rtL RB=RRB at*
  generalize mcL NB=NNB at*
  refine m_ (p:=let z3:=[i6 ga,V.im RA.length RRA,V.im NA.length NNA];let z4:=[i6 gb,V.im RB.length RRB,V.im NB.length NNB];let z2:=pt (pt (pt (pt (pt (pt T.e 0 (O.row 26 none z3)) 1 (O.row 26 none z4)) 2 (O.row 29 none [u6 xs])) 3 (O.row 29 none [u6 ys])) 4 (O.row 36 none [V.nils])) 5 (O.row 31 none [i6 0]);Bn [Sm (V.tup [V.nils,i6 2]),Bn [TT 3],FnOk Try.prog g0 25 [V.agg z3] (i6 0),Tt,Bn [TT 3],FnOk Try.prog g0 25 [V.agg z4] (i6 0),Bn [(V.fn 25 []=V.fn 25 []->[V.agg z3]=[V.agg z4]->z2=z2->0+1+1+1+1+1+1=6->Sm (CR.mk (i6 0) z2 6 []))],Bn [TT 3,TT 3],FnOk Try.prog g0 26 [V.agg z3,V.agg z4] (V.bool true),Tt,binV (Qac Try.prog) BinOp.or 29 (u6 xs) (u6 ys)=some (u6 z0),binV (Qac Try.prog) BinOp.shr 29 (u6 z0) (i6 NA.length)=some (u6 z1),((z1:Int) != 0)=true,Bn [Zz,Zz],Bn [Sm [V.nils],Tt],Bn [Sm [i6 2],Tt]]) ?_
  (repeat'(first|(with_reducible apply And.intro)|(refine fun(_:True)=>?_)))<;>first|exact aq|skip
  all_goals first|exact c1|exact c2|exact c3|exact o1|exact o2|exact o3|(simp;omega)|skip
end
set_option maxHeartbeats 1000000
set_option maxRecDepth 100000
section
variable (ga:Int) (RA:List (List Int)) (NA:List Mc) (gb:Int) (RB:List (List Int)) (NB:List Mc) (hlA:Qbd RA NA) (hlB:Qbd RB NB) (xs ys:Nat) (hxs:xs<18446744073709551616) (hys:ys<18446744073709551616) (hA:chkB ga RA NA=true) (hB:chkB gb RB NB=true) (hs:sameB NA NB=true) (hst:Qmt NA.length xs ys=true)
include hlA hlB hxs hys hA hB hs hst
theorem Qdf(p:Nat)(hp:NA.length=p+1):FnOk Pg g0 10 [mdV ga RA NA,mdV gb RB NB,u6 (xs:Nat),u6 (ys:Nat)] (.tup [ldV p (difL ga RA NA gb RB NB xs ys),i6 (if difL ga RA NA gb RB NB xs ys=none then 4 else 0)]):=by
 have c1:=Qas ga RA NA hlA
 rw[hA,if_pos rfl]at c1
 have c2:=Qas gb RB NB hlB
 rw[hB,if_pos rfl]at c2
 have hMA:=Qb4 hA
 have hMB:=Qb4 hB
 have hqa:=hMA.q1
 have c3:=Qhs ga gb RA RB NA NB (by have:=hMA.q1;omega) (by have:=hMB.q1;omega)
 rw[hs]at c3
 have hss:cdT NA=cdT NB:=of_decide_eq_true hs
 have hcl:=Qbe (N:=NA)
 have hcb:=Qkx hMA.cd
 have hql:NA.length=NB.length:=by rw[<-hcl,hss,Qbe]
 have hRA:=Qah RA
 have hNA:=Qaj NA
 have hRB:=Qah RB
 have hNB:=Qaj NB
 have o1:=(or_u (G:=Qac Pg) (t:=29) hxs hys).1
 have o2:=Qdd (G:=Qac Pg) (t:=29) (x:=xs|||ys) (k:=NA.length) o_
 have o3:=Qls (G:=Qac Pg) (t:=29) hxs hys
 unfold Qmt at hst
 rw[Bool.and_eq_true,decide_eq_true_eq,decide_eq_true_eq]at hst
 obtain⟨h1,h2⟩:=hst
 rw[h1]at o2
 rw[h2]at o3
 have hP4:=Qmm (s:=xs) hcb o_ (cdT NA).length (Nat.le_refl _)
 rw[hcl]at hP4
 have hdk:=dk_loop ga RA.length (rtL RA) gb RB.length (rtL RB) NA (mcL NB) xs ys hqa.2 hMA.cd hRA hRB hNB
 rw[Qcg]at hdk
 have hcf:=Qeo (cdT NA) xs
 obtain⟨P,hPe⟩: ∃P:Nat,(P:Int)=prodT (mkC (cdT NA) xs) NA.length:=⟨(prodT (mkC (cdT NA) xs) NA.length).toNat,by omega⟩
 have hfa:=fun(k:Nat)(hk:k<P)=>first_at hlA hlB hA hB hss hxs hys k p hp o_
 have hdif:difL ga RA NA gb RB NB xs ys=dfR (firD ga RA NA gb RB NB xs ys) P:=by unfold difL;rw[<-hPe,Int.toNat_natCast]
 rw[hdif]
 have hFl:=Qnx (ga:=ga) (RA:=RA) (NA:=NA) (gb:=gb) (RB:=RB) (NB:=NB) (xs:=xs) (ys:=ys)
 have hcc:=Qaa (cdT NA)
 have e3:sl (cdT NA)= .im NA.length (ints (cdT NA)):=by show V.im (cdT NA).length _=_;rw[hcl]
 rw[e3]at hcf
 have hqa5:p+1<=5:=by omega
 have hcl2:(cdT NA).length=p+1:=by omega
 rw[hp]at hPe hFl
 rw[hp]at hP4
 have hrg:=dg_range ga RA.length (rtL RA) gb RB.length (rtL RB) p (mcL NA) (mcL NB) (cdT NA) xs ys hRA hRB hNA hNB hqa5 hcl2 hxs (fun i hi=>hcb i o_) P hPe o_ (firD ga RA NA gb RB NB xs ys) hFl hfa
 have hrl:=Qjb hFl P
 unfold mdV at*
 rw[<-hql]at c2 c3⊢
 clear hfa hFl hdif hA hB hs hss hMA hMB hcb hPe hP4 hlA hlB e3
 generalize dfR (firD ga RA NA gb RB NB xs ys) P=lo at*
 generalize xs|||ys=z0 at*
 generalize cdT NA=cs at*
 generalize rtL RA=RRA at*
 generalize mcL NA=NNA at*
 generalize rtL RB=RRB at*
 generalize mcL NB=NNB at*
 clear h1 h2 hql
 generalize NA.length=q at*
 cases lo with
 |none=>
  rw[if_pos rfl]
  rw[show ldV p none= .nils from rfl]at hrg⊢
  refine FnOk.of_vc vE_ok mixed Qab (n:=1000) (r:=[0,1]) (S:={sl:=[(8,.ptr 0 0),(9,.ptr 1 0)],os:=[eoO .nils,ernO 4]}) (hs:=[fn 18 (i6 0),fn 22 (i6 0),fn 27 (.bool true),va 32 (u6 (z0:Nat)),va 36 (u6 (0:Nat)),va 42 (u6 (0:Nat)),mk 48,(0,.loop [0,1,2,3,4,5,6,7] (dkS ga RA.length RRA gb RB.length RRB q NNB xs ys NNA (0,List.replicate q 0)) [(True,.exit 0,dkX ga RA.length RRA gb RB.length RRB q NNB xs ys NNA cs)]),fn 65 (.fn 58 [.imp [.im q (ints cs)],.imp [u6 (xs:Nat)]]),(0,.loop [0,1,2,3,4,5,6,7] (dgS ga RA.length RRA gb RB.length RRB p NNA NNB cs xs ys) [(True,.normal,dgX .nils)])]) ?_
  refine m_ (p:=let y2:=Bn [Sm [i6 0],Tt];let z2:=[i6 ga,V.im RA.length RRA,V.im q NNA];let z3:=[i6 gb,V.im RB.length RRB,V.im q NNB];let z4:=u6 ↑xs;let z5:=(q:Int);let z6:=List.replicate q (0:Int);let z7:=u6 ↑ys;let z8:=[V.nils];let z9:=Qac Try.prog;let y0:=V.im q (ints cs);let y1:=some (u6 ↑(0:Nat));let z1:=pt (pt (pt (pt (pt (pt T.e 0 (O.row 26 none z2)) 1 (O.row 26 none z3)) 2 (O.row 29 none [z4])) 3 (O.row 29 none [z7])) 4 (O.row 36 none z8)) 5 (O.row 31 none [i6 0]);Bn [Sm (V.tup [V.nils,i6 4]),Bn [TT 3],FnOk Try.prog g0 25 [V.agg z2] (i6 0),Tt,Bn [TT 3],FnOk Try.prog g0 25 [V.agg z3] (i6 0),Bn [(V.fn 25 []=V.fn 25 []->[V.agg z2]=[V.agg z3]->z1=z1->0+1+1+1+1+1+1=6->Sm (CR.mk (i6 0) z1 6 []))],Bn [TT 3,TT 3],FnOk Try.prog g0 26 [V.agg z2,V.agg z3] (V.bool true),Tt,binV z9 BinOp.or 29 z4 z7=some (u6 z0),binV z9 BinOp.shr 29 (u6 z0) (i6 q)=y1,binV z9 BinOp.and 29 z4 z7=y1,An [(0:Int)<=z5,z5<=z5,((8:Nat):Int)*z5<=281474976710656,z5<=9223372036854775807],Bn [Bn [Zz,Zz,Zz,Zz,Zz,Zz,Zz,An [q=q,NNA=NNA],z5=z5,((0:Nat):Int)=(0:Int)],An [z2=z2,TT 3],An [z3=z3,TT 3],Bn [Sm [z4],Tt],Bn [Sm [z7],Tt],Bn [z8=z8,Tt],y2,An [ints z6=rep q [i6 0],HfL (ints z6)],Bn [An [Zz,q=q,Sm (q-q)]]],Sat Try.prog none 0 (at' 10 [1,1,1,1,0,1,0]) (mkSt g0 95 (dkS ga RA.length RRA gb RB.length RRB q NNB xs ys NNA (0,z6))) (Qad g0 95 [(True,Ex.exit 0,dkX ga RA.length RRA gb RB.length RRB q NNB xs ys NNA cs)]),(True->Bn [TT 2,FnOk Try.prog g0 29 [y0,z4] (V.fn 58 [V.imp [y0],V.imp [z4]]),Tt,Bn [Bn [Zz,Zz,Zz,Zz,Zz,Zz,Zz,Zz,Bn [[V.im (p+1) (ints cs)]=[y0],Sm [z4]]],An [[i6 ga,V.im RA.length RRA,V.im (p+1) NNA]=z2,TT 3],An [[i6 gb,V.im RB.length RRB,V.im (p+1) NNB]=z3,TT 3],Bn [Sm [z4],Tt],Bn [Sm [z7],Tt],Bn [z8=z8,Tt],y2,Bn [An [p+1=q,Sm (ints cs)]],Bn [Tt]],Sat Try.prog none 0 (at' 10 [1,1,1,1,1,1,0,1,0]) (mkSt g0 95 (dgS ga RA.length RRA gb RB.length RRB p NNA NNB cs xs ys)) (Qad g0 95 [(True,Ex.normal,dgX V.nils)]),(True->Bn [Bn [Zz,Zz],Bn [z8=z8,Tt],Bn [Sm [i6 4],Tt]])])]) ?_
  (repeat'(first|(with_reducible apply And.intro)|(refine fun(_:True)=>?_)))<;>first|exact aq|skip
  all_goals first|exact c1|exact c2|exact c3|exact o1|exact o2|exact o3|exact hdk|exact hcf|exact hrg|exact Qay _ _|exact(Qay _ _).symm|omega|(rw[hp];done)|skip
 |some l=>
  rw[if_neg (by simp)]
  have hll:=hrl l rfl
  have hl1:=Qaa l
  rw[show ldV p (some l)= .im (p+1) (ints l)from rfl]at hrg⊢
  refine FnOk.of_vc vE_ok mixed Qab (n:=1000) (r:=[0,1]) (S:={sl:=[(8,.ptr 0 0),(9,.ptr 1 0)],os:=[eoO (.im (p+1) (ints l)),ernO 0],md:=[1,0]}) (hs:=[fn 18 (i6 0),fn 22 (i6 0),fn 27 (.bool true),va 32 (u6 (z0:Nat)),va 36 (u6 (0:Nat)),va 42 (u6 (0:Nat)),mk 48,(0,.loop [0,1,2,3,4,5,6,7] (dkS ga RA.length RRA gb RB.length RRB q NNB xs ys NNA (0,List.replicate q 0)) [(True,.exit 0,dkX ga RA.length RRA gb RB.length RRB q NNB xs ys NNA cs)]),fn 65 (.fn 58 [.imp [.im q (ints cs)],.imp [u6 (xs:Nat)]]),(0,.loop [0,1,2,3,4,5,6,7] (dgS ga RA.length RRA gb RB.length RRB p NNA NNB cs xs ys) [(True,.normal,dgX (.im (p+1) (ints l)))])]) ?_
  refine m_ (p:=let y3:=Bn [Sm [i6 0],Tt];let z2:=[i6 ga,V.im RA.length RRA,V.im q NNA];let z3:=[i6 gb,V.im RB.length RRB,V.im q NNB];let z4:=u6 ↑xs;let z5:=(q:Int);let z6:=List.replicate q (0:Int);let z7:=V.im (p+1) (ints l);let z8:=u6 ↑ys;let z9:=Qac Try.prog;let y0:=V.im q (ints cs);let y1:=[V.nils];let y2:=some (u6 ↑(0:Nat));let z1:=pt (pt (pt (pt (pt (pt T.e 0 (O.row 26 none z2)) 1 (O.row 26 none z3)) 2 (O.row 29 none [z4])) 3 (O.row 29 none [z8])) 4 (O.row 36 none y1)) 5 (O.row 31 none [i6 0]);Bn [Sm (V.tup [z7,i6 0]),Bn [TT 3],FnOk Try.prog g0 25 [V.agg z2] (i6 0),Tt,Bn [TT 3],FnOk Try.prog g0 25 [V.agg z3] (i6 0),Bn [(V.fn 25 []=V.fn 25 []->[V.agg z2]=[V.agg z3]->z1=z1->0+1+1+1+1+1+1=6->Sm (CR.mk (i6 0) z1 6 []))],Bn [TT 3,TT 3],FnOk Try.prog g0 26 [V.agg z2,V.agg z3] (V.bool true),Tt,binV z9 BinOp.or 29 z4 z8=some (u6 z0),binV z9 BinOp.shr 29 (u6 z0) (i6 q)=y2,binV z9 BinOp.and 29 z4 z8=y2,An [(0:Int)<=z5,z5<=z5,((8:Nat):Int)*z5<=281474976710656,z5<=9223372036854775807],Bn [Bn [Zz,Zz,Zz,Zz,Zz,Zz,Zz,An [q=q,NNA=NNA],z5=z5,((0:Nat):Int)=(0:Int)],An [z2=z2,TT 3],An [z3=z3,TT 3],Bn [Sm [z4],Tt],Bn [Sm [z8],Tt],Bn [y1=y1,Tt],y3,An [ints z6=rep q [i6 0],HfL (ints z6)],Bn [An [Zz,q=q,Sm (q-q)]]],Sat Try.prog none 0 (at' 10 [1,1,1,1,0,1,0]) (mkSt g0 95 (dkS ga RA.length RRA gb RB.length RRB q NNB xs ys NNA (0,z6))) (Qad g0 95 [(True,Ex.exit 0,dkX ga RA.length RRA gb RB.length RRB q NNB xs ys NNA cs)]),(True->Bn [TT 2,FnOk Try.prog g0 29 [y0,z4] (V.fn 58 [V.imp [y0],V.imp [z4]]),Tt,Bn [Bn [Zz,Zz,Zz,Zz,Zz,Zz,Zz,Zz,Bn [[V.im (p+1) (ints cs)]=[y0],Sm [z4]]],An [[i6 ga,V.im RA.length RRA,V.im (p+1) NNA]=z2,TT 3],An [[i6 gb,V.im RB.length RRB,V.im (p+1) NNB]=z3,TT 3],Bn [Sm [z4],Tt],Bn [Sm [z8],Tt],Bn [y1=y1,Tt],y3,Bn [An [p+1=q,Sm (ints cs)]],Bn [Tt]],Sat Try.prog none 0 (at' 10 [1,1,1,1,1,1,0,1,0]) (mkSt g0 95 (dgS ga RA.length RRA gb RB.length RRB p NNA NNB cs xs ys)) (Qad g0 95 [(True,Ex.normal,dgX z7)]),(True->Bn [Bn [Zz,Zz],Bn [An [Sm (p+1),Sm (ints l)]],y3])])]) ?_
  (repeat'(first|(with_reducible apply And.intro)|(refine fun(_:True)=>?_)))<;>first|exact aq|skip
  all_goals first|exact c1|exact c2|exact c3|exact o1|exact o2|exact o3|exact hdk|exact hcf|exact hrg|exact Qay _ _|exact(Qay _ _).symm|omega|(rw[hp];done)|skip
end
set_option maxHeartbeats 1000000
set_option maxRecDepth 100000
def aliB(X Y:List Int)(wA wB:Int):Bool:=(List.range X.length).all fun i=>decide (X.getD i 0*wB=Y.getD i 0*wA)
theorem Qng{X Y:List Int}{wA wB:Int}:aliB X Y wA wB=true↔∀i,i<X.length->X.getD i 0*wB=Y.getD i 0*wA:=by
 unfold aliB
 rw[List.all_eq_true]
 simp only[List.mem_range,decide_eq_true_eq]
section
variable (X Y:List Int) (z:Nat) (wA wB:Int) (hX:X.length=z) (hY:Y.length=z) (hz:z<=1000000) (hXb: ∀i,i<z->0<=X.getD i 0/\X.getD i 0<=429981696) (hYb: ∀i,i<z->0<=Y.getD i 0/\Y.getD i 0<=429981696) (hwA:1<=wA/\wA<=429981696) (hwB:1<=wB/\wB<=429981696)
abbrev alS(k:Nat):SL:={sl:=[(6,.im z (ints X)),(8,.im z (ints Y)),(9,.bool true),(10,i6 wA),(11,i6 wB),(45,.im z (ints X)),(46,i6 (z:Nat)),(47,i6 (k:Nat))]}
include hX hY hz hXb hYb hwA hwB
theorem ali_loop:Sat Pg none 0 (at' 9 [1,0,1,1,1,1,1,1,1,1,1,0,1,0]) (mkSt g0 66 (alS X Y z wA wB 0)) (Qad g0 66 [(aliB X Y wA wB=true,.exit 0,{sl:=[(9,.bool true)]}),(aliB X Y wA wB=false,.exit 0,{sl:=[(9,.bool false)]})]):=by
 have hxx:=Qaa X
 have hyy:=Qaa Y
 refine Qav vE_ok mixed Qab (b:=at' 9 [1,0,1,1,1,1,1,1,1,1,1,0,1,0,0]) k_ (fun k=>k<=z/\∀i,i<k->X.getD i 0*wB=Y.getD i 0*wA) (alS X Y z wA wB) (fun k=>z-k) (fun k hk=>?_) 0 ⟨Nat.zero_le _,fun i h=>absurd h (Nat.not_lt_zero _)⟩
 obtain⟨hk,hin⟩:=hk
 by_cases hlt:k<z
 ·have s1 := Qag (l := X) (k := k) o_
  have s2:=Qag (l:=Y) (k:=k) o_
  have b:=Qrh hXb hYb hwA hwB k hlt
  by_cases he:X.getD k 0*wB=Y.getD k 0*wA
  ·have hg : ∀ i, i < k + 1 -> X.getD i 0 * wB = Y.getD i 0 * wA := fun i hi => by
    by_cases hik:i=k
    ·subst hik;exact he
    ·exact hin i o_
   refine .inl ⟨k+1,[],[yes 48,pl 53,ld 54 (i6 (X.getD k 0)),nu 56 (X.getD k 0*wB),pl 59,ld 60 (i6 (Y.getD k 0)),nu 62 (Y.getD k 0*wA),no 63,nu 64 ((k+1:Nat):Int)],1000,⟨hlt,hg⟩,by omega,?_⟩
   clear hin hg hXb hYb
   generalize hp:X.getD k 0*wB=p at*
   generalize hp2:Y.getD k 0*wA=p2 at*
   generalize X.getD k 0=x at*
   generalize Y.getD k 0=y at*
   refine m_ (p:=let z0:=(k:Int);let z1:=(z:Int);let z2:=(↑(k+1):Int);Bn [decide (z0<z1)=true,An [(0:Int)<=z0,z0<z1],headF (List.drop (k*1) (ints X))=some (i6 x),wr .i64 (x*wB)=p,An [(0:Int)<=z0,z0<z1],headF (List.drop (k*1) (ints Y))=some (i6 y),wr .i64 (y*wA)=p2,(p != p2)=false,wr .i64 (z0+1)=z2,Bn [An [z=z,Sm (ints X)],An [z=z,Sm (ints Y)],Sm true,wA=wA,wB=wB,An [z=z,Sm (ints X)],z1=z1,z2=z2]]) ?_
   (repeat'(first|(with_reducible apply And.intro)|(refine fun(_:True)=>?_)))<;>first|exact aq|skip
   all_goals first|exact s1|exact s2|(rw[hp,wr6 o_ o_];done)|(rw[hp2,wr6 o_ o_];done)|skip
  ·have hf : aliB X Y wA wB = false := by
    cases hb:aliB X Y wA wB with
    |false=>rfl
    |true=>exact absurd (Qng.1 hb k o_) he
   refine .inr ⟨.exit 0,[],{sl:=[(9,.bool false)]},[yes 48,pl 53,ld 54 (i6 (X.getD k 0)),nu 56 (X.getD k 0*wB),pl 59,ld 60 (i6 (Y.getD k 0)),nu 62 (Y.getD k 0*wA),yes 63],1000,.inr (.inl ⟨hf,rfl,rfl⟩),?_⟩
   clear hin hf hXb hYb
   generalize hp:X.getD k 0*wB=p at*
   generalize hp2:Y.getD k 0*wA=p2 at*
   generalize X.getD k 0=x at*
   generalize Y.getD k 0=y at*
   refine m_ (p:=let z0:=(k:Int);let z1:=(z:Int);Bn [decide (z0<z1)=true,An [(0:Int)<=z0,z0<z1],headF (List.drop (k*1) (ints X))=some (i6 x),wr .i64 (x*wB)=p,An [(0:Int)<=z0,z0<z1],headF (List.drop (k*1) (ints Y))=some (i6 y),wr .i64 (y*wA)=p2,(p != p2)=true,Bn [Sm false]]) ?_
   (repeat'(first|(with_reducible apply And.intro)|(refine fun(_:True)=>?_)))<;>first|exact aq|skip
   all_goals first|exact s1|exact s2|(rw[hp,wr6 o_ o_];done)|(rw[hp2,wr6 o_ o_];done)|skip
 ·have hk2 : k = z := by omega
  have hf:aliB X Y wA wB=true:=Qng.2 fun i hi=>hin i o_
  refine .inr ⟨.exit 0,[],{sl:=[(9,.bool true)]},[no 48],1000,.inl ⟨hf,rfl,rfl⟩,?_⟩
  clear hin hf hXb hYb
  refine m_ (p:=Bn [decide ((k:Int)<(z:Int))=false,Bn [Sm true]]) ?_
  (repeat'(first|(with_reducible apply And.intro)|(refine fun(_:True)=>?_)))<;>first|exact aq|skip
  all_goals skip
end
section
variable (ga:Int) (RA:List (List Int)) (NA:List Mc) (gb:Int) (RB:List (List Int)) (NB:List Mc) (hlA:Qbd RA NA) (hlB:Qbd RB NB)
include hlA hlB
theorem Qo8(hA:chkB ga RA NA=true)(hB:chkB gb RB NB=false):FnOk Pg g0 9 [mdV ga RA NA,mdV gb RB NB] (.tup [.bool false,i6 330]):=by
 have c1:=Qas ga RA NA hlA
 rw[hA,if_pos rfl]at c1
 have c2:=Qas gb RB NB hlB
 rw[hB,if_neg (by simp)]at c2
 have hno:[V.agg [i6 ga,.im RA.length (rtL RA),.im NA.length (mcL NA)]]=[V.agg [i6 gb,.im RB.length (rtL RB),.im NB.length (mcL NB)]]->False:=fun h=>by
  obtain⟨e1,e2,e3⟩:=mdV_inj (List.cons.inj h).1
  rw[e1,e2,e3,hB]at hA
  cases hA
 have hRA:=Qah RA
 have hNA:=Qaj NA
 have hRB:=Qah RB
 have hNB:=Qaj NB
 unfold mdV at*
 refine FnOk.of_vc vE_ok mixed Qab (n:=1000) (r:=[]) (S:={sl:=[(4,.bool false),(5,i6 330)]}) (hs:=[fn 14 (i6 0),fn 18 (i6 330)]) ?_
 clear hA hlA hlB
 generalize rtL RA=RRA at*
 generalize mcL NA=NNA at*
 generalize rtL RB=RRB at*
 generalize mcL NB=NNB at*
 refine m_ (p:=let z1:=[i6 ga,V.im RA.length RRA,V.im NA.length NNA];let z2:=[i6 gb,V.im RB.length RRB,V.im NB.length NNB];let z3:=V.tup [V.bool false,i6 330];let z0:=pt (pt T.e 0 (O.row 26 none z1)) 1 (O.row 26 none z2);Bn [z3=z3,Bn [TT 3],FnOk Try.prog g0 25 [V.agg z1] (i6 0),Tt,Bn [TT 3],FnOk Try.prog g0 25 [V.agg z2] (i6 330),Bn [(V.fn 25 []=V.fn 25 []->[V.agg z1]=[V.agg z2]->z0=z0->0+1+1=2->CR.mk (i6 0) z0 2 []=CR.mk (i6 330) z0 2 [])],Bn [Sm false,Sm (330:Int)]]) ?_
 (repeat'(first|(with_reducible apply And.intro)|(refine fun(_:True)=>?_)))<;>first|exact aq|skip
 all_goals first|exact c1|exact c2|(intro _ h _ _;exact(hno h).elim)|skip
theorem Qic(hA:chkB ga RA NA=true)(hB:chkB gb RB NB=true)(hs:sameB NA NB=false):FnOk Pg g0 9 [mdV ga RA NA,mdV gb RB NB] (.tup [.bool false,i6 0]):=by
 have c1:=Qas ga RA NA hlA
 rw[hA,if_pos rfl]at c1
 have c2:=Qas gb RB NB hlB
 rw[hB,if_pos rfl]at c2
 have hMA:=Qb4 hA
 have hMB:=Qb4 hB
 have c3:=Qhs ga gb RA RB NA NB (by have:=hMA.q1;omega) (by have:=hMB.q1;omega)
 rw[hs]at c3
 have hRA:=Qah RA
 have hNA:=Qaj NA
 have hRB:=Qah RB
 have hNB:=Qaj NB
 unfold mdV at*
 refine FnOk.of_vc vE_ok mixed Qab (n:=1000) (r:=[]) (S:={sl:=[(4,.bool false),(5,i6 0)]}) (hs:=[fn 14 (i6 0),fn 18 (i6 0),fn 23 (.bool false)]) ?_
 clear hA hlA hlB hMA hMB hs hB
 generalize rtL RA=RRA at*
 generalize mcL NA=NNA at*
 generalize rtL RB=RRB at*
 generalize mcL NB=NNB at*
 refine m_ (p:=let z1:=[i6 ga,V.im RA.length RRA,V.im NA.length NNA];let z2:=[i6 gb,V.im RB.length RRB,V.im NB.length NNB];let z3:=V.tup [V.bool false,i6 0];let z0:=pt (pt T.e 0 (O.row 26 none z1)) 1 (O.row 26 none z2);Bn [z3=z3,Bn [TT 3],FnOk Try.prog g0 25 [V.agg z1] (i6 0),Tt,Bn [TT 3],FnOk Try.prog g0 25 [V.agg z2] (i6 0),Bn [(V.fn 25 []=V.fn 25 []->[V.agg z1]=[V.agg z2]->z0=z0->0+1+1=2->Sm (CR.mk (i6 0) z0 2 []))],Bn [TT 3,TT 3],FnOk Try.prog g0 26 [V.agg z1,V.agg z2] (V.bool false),Tt,Bn [Sm false,Sm (0:Int)]]) ?_
 (repeat'(first|(with_reducible apply And.intro)|(refine fun(_:True)=>?_)))<;>first|exact aq|skip
 all_goals first|exact c1|exact c2|exact c3|skip
theorem Qf0(hA:chkB ga RA NA=true)(hB:chkB gb RB NB=true)(hs:sameB NA NB=true):FnOk Pg g0 9 [mdV ga RA NA,mdV gb RB NB] (.tup [.bool (aliB (tabT RA NA (none_ NA.length)) (tabT RB NB (none_ NA.length)) (ga^RA.length) (gb^RB.length)),i6 0]):=by
 have c1:=Qas ga RA NA hlA
 rw[hA,if_pos rfl]at c1
 have c2:=Qas gb RB NB hlB
 rw[hB,if_pos rfl]at c2
 have hMA:=Qb4 hA
 have hMB:=Qb4 hB
 have c3:=Qhs ga gb RA RB NA NB (by have:=hMA.q1;omega) (by have:=hMB.q1;omega)
 rw[hs]at c3
 have hss:cdT NA=cdT NB:=of_decide_eq_true hs
 have hql:NA.length=NB.length:=by rw[<-Qbe (N:=NA),hss,Qbe]
 have c4:=Qj2 ga RA NA hlA hA
 have c5:=Qj2 gb RB NB hlB hB
 rw[<-hql]at c5
 have hXl:(tabT RA NA (none_ NA.length)).length=(tabT RA NA (none_ NA.length)).length:=rfl
 have hYl:(tabT RB NB (none_ NA.length)).length=(tabT RA NA (none_ NA.length)).length:=by
  rw[Qbv,Qbv,<-Qgb _ (Nat.le_refl _),<-Qgb _ (Nat.le_refl _),<-hss,hql]
 have hXb:=Qo0 (act:=none_ NA.length) hMA
 have hYb:=Qo0 (act:=none_ NA.length) hMB
 rw[hYl]at hYb
 have hz:(tabT RA NA (none_ NA.length)).length<=1024:=by rw[Qbv];have:=hMA.z24;omega
 have wA:=Qd8 ga RA NA hMA.g1 hMA.n1
 have wB:=Qd8 gb RB NB hMB.g1 hMB.n1
 have bwA:=Qji hMA.g1 hMA.n1
 have bwB:=Qji hMB.g1 hMB.n1
 have hRA:=Qah RA
 have hNA:=Qaj NA
 have hRB:=Qah RB
 have hNB:=Qaj NB
 have hwAB:ga=gb->RA.length=RB.length->ga^RA.length=gb^RB.length:=fun a b=>by rw[a,b]
 have hlo:=ali_loop _ _ _ (ga^RA.length) (gb^RB.length) hXl hYl o_ hXb hYb bwA bwB
 have e5:sl (tabT RB NB (none_ NA.length))= .im (tabT RA NA (none_ NA.length)).length (ints (tabT RB NB (none_ NA.length))):=by show V.im (tabT RB NB (none_ NA.length)).length _=_;rw[hYl]
 rw[e5]at c5
 clear hXb hYb hA hB hs hss hMA hMB hlA hlB e5
 generalize tabT RB NB (none_ NA.length)=Y at*
 generalize tabT RA NA (none_ NA.length)=X at*
 have hxx:=Qaa X
 have hyy:=Qaa Y
 unfold mdV at*
 generalize ga^RA.length=wa at*
 generalize gb^RB.length=wb at*
 generalize aliB X Y wa wb=b at*
 refine FnOk.of_vc vE_ok mixed Qab (n:=1000) (r:=[]) (S:={sl:=[(4,.bool b),(5,i6 0)]}) (hs:=[fn 14 (i6 0),fn 18 (i6 0),fn 23 (.bool true),fn 27 (.tup [sl X,i6 0]),fn 35 (.tup [.im X.length (ints Y),i6 0]),fn 42 (i6 wa),fn 44 (i6 wb),(0,.loop [] (alS X Y X.length wa wb 0) [(b=true,.exit 0,{sl:=[(9,.bool true)]}),(b=false,.exit 0,{sl:=[(9,.bool false)]})])]) ?_
 generalize rtL RA=RRA at*
 generalize mcL NA=NNA at*
 generalize rtL RB=RRB at*
 generalize mcL NB=NNB at*
 refine m_ (p:=let z7:=Bn [TT 3];let z8:=An [Sm X.length,Sm (ints X)];let z1:=[i6 ga,V.im RA.length RRA,V.im NA.length NNA];let z2:=[i6 gb,V.im RB.length RRB,V.im NB.length NNB];let z5:=(0:Int);let z6:=V.tup [V.bool b,i6 0];let z0:=pt (pt T.e 0 (O.row 26 none z1)) 1 (O.row 26 none z2);let z3:=[V.agg z1];let z4:=[V.agg z2];Bn [z6=z6,z7,FnOk Try.prog g0 25 z3 (i6 0),Tt,z7,FnOk Try.prog g0 25 z4 (i6 0),Bn [(V.fn 25 []=V.fn 25 []->z3=z4->z0=z0->0+1+1=2->Sm (CR.mk (i6 0) z0 2 []))],Bn [TT 3,TT 3],FnOk Try.prog g0 26 [V.agg z1,V.agg z2] (V.bool true),Tt,z7,FnOk Try.prog g0 27 z3 (V.tup [sl X,i6 0]),Tt,z7,FnOk Try.prog g0 27 z4 (V.tup [V.im X.length (ints Y),i6 0]),Tt,z7,FnOk Try.prog g0 28 z3 (i6 wa),Tt,z7,FnOk Try.prog g0 28 z4 (i6 wb),Bn [(V.fn 28 []=V.fn 28 []->z3=z4->z0=z0->0+1+1=2->CR.mk (i6 wa) z0 2 []=CR.mk (i6 wb) z0 2 [])],Bn [Bn [z8,An [Sm X.length,Sm (ints Y)],Sm true,wa=wa,wb=wb,z8,Sm (X.length:Int),((0:Nat):Int)=z5]],Sat Try.prog none 0 (at' 9 [1,0,1,1,1,1,1,1,1,1,1,0,1,0]) (mkSt g0 66 (alS X Y X.length wa wb 0)) (Qad g0 66 [(b=true,Ex.exit 0,SL.mk [(9,V.bool true)] [] [] []),(b=false,Ex.exit 0,SL.mk [(9,V.bool false)] [] [] [])]),(b=true->Bn [Bn [b=true,z5=z5]]),(b=false->Bn [Bn [b=false,z5=z5]])]) ?_
 (repeat'(first|(with_reducible apply And.intro)|(refine fun(_:True)=>?_)))<;>first|exact aq|skip
 all_goals first|exact c1|exact c2|exact c3|exact c4|exact c5|exact wA|exact wB|exact hlo|(intro h;subst h;rfl)|(intro _ h _ _;have h1:=V.agg.inj (List.cons.inj h).1;have h2:=(V.int.inj (List.cons.inj h1).1).2;have h3:=(V.im.inj (List.cons.inj (List.cons.inj h1).2).1).1;rw[hwAB h2 h3])|skip
end
set_option maxHeartbeats 1000000
set_option maxRecDepth 100000
def pU(f:Nat->Nat)(k i:Nat):Nat:=if i<k then f i else 0
theorem pU_step{f:Nat->Nat}{k:Nat}:(fun i=>if i=k then f k else pU f k i)=pU f (k+1):=funext fun i=>by
 unfold pU
 by_cases h:i=k
 ·subst h;rw[if_pos rfl,if_pos o_]
 ·rw [if_neg h]
  by_cases h2:i<k
  ·rw[if_pos h2,if_pos o_]
  ·rw[if_neg h2,if_neg o_]
theorem Qtb{f:Nat->Nat}(n:Nat):uF (pU f 0) n=rep n [u6 0]:=by
 rw[<-Qec n (p:=[])]
 exact Qe7 fun i hi=>by simp[pU,chR]
theorem pU_all{f:Nat->Nat}(n:Nat):uF (pU f n) n=uF f n:=Qe7 fun i hi=>by simp[pU,hi]
def grP(N:List Mc)(i:Nat):Nat:=setI (N.getD i mc0).fr (N.getD i mc0).fr.length
def grZ(N:List Mc)(i:Nat):Nat:=setI (N.getD i mc0).no (N.getD i mc0).no.length
def jnR(N:List Mc)(i:Nat):Nat->Nat
 |0=>0
 |k+1=>if i≠k/\grZ N i&&& grZ N k≠0 then jnR N i k|||2^k else jnR N i k
def grJ(N:List Mc)(i:Nat):Nat:=jnR N i N.length
theorem Qmb{N:List Mc}{i b:Nat}: ∀k,(jnR N i k).testBit b=(decide (b<k)&&decide (i≠b)&&decide (grZ N i&&& grZ N b≠0))
 |0=>by simp[jnR]
 | k + 1 => by
  unfold jnR
  by_cases h:i≠k/\grZ N i&&& grZ N k≠0
  ·rw [if_pos h, Nat.testBit_or, Qmb k, Nat.testBit_two_pow]
   by_cases hb:k=b
   ·subst hb;simp[h.1,h.2]
   ·simp only [hb, decide_false, Bool.or_false]
    congr 2
    simp only[decide_eq_decide];omega
  ·rw [if_neg h, Qmb k]
   by_cases hb:b=k
   ·subst hb
    simp only[Nat.lt_irrefl,decide_false,Bool.false_and]
    by_cases h1:i=b
    ·simp[h1]
    ·have : grZ N i &&& grZ N b = 0 := by
      by_cases h2:grZ N i&&& grZ N b=0
      ·exact h2
      ·exact absurd ⟨h1,h2⟩ h
     simp[this]
   ·congr 2
    simp only[decide_eq_decide];omega
theorem Qqv{x b:Nat}(h: ∀k,x.testBit k=true->k<b):x<2^b:=by
 apply Nat.lt_pow_two_of_testBit
 intro i hi
 cases hx:x.testBit i with
 |false=>rfl
 |true=>have:=h i hx;omega
theorem jnR_lt{N:List Mc}{i:Nat}(k:Nat)(hk:k<=64):jnR N i k<18446744073709551616:=by
 have h1:jnR N i k<2^k:=Qqv fun b hb=>by
  rw[Qmb]at hb
  simp only[Bool.and_eq_true,decide_eq_true_eq]at hb
  exact hb.1.1
 exact Nat.lt_of_lt_of_le h1 (Nat.pow_le_pow_right (n:=2) d_ hk)
section
variable (g:Int) (R:List (List Int)) (N:List Mc) (hN:NdOk R N)
theorem NdOk.pl64{R:List (List Int)}{N:List Mc}(hN:NdOk R N){k:Nat}(hk:k<N.length):(∀i,i<(N.getD k mc0).fr.length->0<=(N.getD k mc0).fr.getD i 0/\(N.getD k mc0).fr.getD i 0<64)/\∀i,i<(N.getD k mc0).no.length->0<=(N.getD k mc0).no.getD i 0/\(N.getD k mc0).no.getD i 0<64:=by
 have h1:=(hN.fr k hk).1
 have h2:=(hN.no k hk).1
 have h3:=hN.q
 have h4:=hN.n
 exact⟨fun i hi=>by have:=h1 i hi;omega,fun i hi=>by have:=h2 i hi;omega⟩
theorem grP_lt{R:List (List Int)}{N:List Mc}(hN:NdOk R N){k:Nat}(hk:k<N.length):grP N k<18446744073709551616:=Qfp (hN.pl64 hk).1 _ (Nat.le_refl _)
theorem grZ_lt{R:List (List Int)}{N:List Mc}(hN:NdOk R N){k:Nat}(hk:k<N.length):grZ N k<18446744073709551616:=Qfp (hN.pl64 hk).2 _ (Nat.le_refl _)
abbrev g1S(g:Int)(n:Nat)(R:List V)(q:Nat)(NN:List V)(k:Nat)(A B C:List V):SL:={sl:=[(1,.ptr 0 0),(2,.sl 1 0 q (some (q-q))),(3,.sl 2 0 q (some (q-q))),(6,.sl 3 0 q (some (q-q))),(29,.im q NN),(30,i6 (q:Nat)),(31,i6 (k:Nat))],os:=[mdO g n R q NN,.row 29 none A,.row 29 none B,.row 29 none C]}
abbrev g1X(q:Nat)(A B C:List V):SL:={sl:=[(2,.im q A),(3,.sl 0 0 q (some (q-q))),(6,.im q C)],os:=[.row 29 none B]}
include hN
theorem g1_loop:Sat Pg none 0 (at' 40 [1,1,1,1,0,1,0]) (mkSt g0 86 (g1S g R.length (rtL R) N.length (mcL N) 0 (uF (pU (grP N) 0) N.length) (rep N.length [u6 0]) (uF (pU (grZ N) 0) N.length))) (Qad g0 86 [(True,.exit 0,g1X N.length (uF (grP N) N.length) (rep N.length [u6 0]) (uF (grZ N) N.length))]):=by
 have hRR:=Qah R
 have hNN:=Qaj N
 have hq:=hN.q
 refine Qav vE_ok mixed Qab (b:=at' 40 [1,1,1,1,0,1,0,0]) k_ (fun k=>k<=N.length) (fun k=>g1S g R.length (rtL R) N.length (mcL N) k (uF (pU (grP N) k) N.length) (rep N.length [u6 0]) (uF (pU (grZ N) k) N.length)) (fun k=>N.length-k) (fun k hk=>?_) 0 (Nat.zero_le _)
 by_cases hlt:k<N.length
 ·have hld := Qc8 hlt
  obtain⟨p1,p2⟩:=hN.pl64 hlt
  have f1:=Qj4 (N.getD k mc0).fr (by have:=(hN.fr k hlt).2;omega) p1
  have f2:=Qj4 (N.getD k mc0).no (by have:=(hN.no k hlt).2;omega) p2
  have l1:=Qn8 (f:=pU (grP N) k) hlt (grP N k)
  have l2:=Qn8 (f:=pU (grZ N) k) hlt (grZ N k)
  rw[pU_step]at l1 l2
  rw[show setI (N.getD k mc0).fr (N.getD k mc0).fr.length=grP N k from rfl]at f1
  rw[show setI (N.getD k mc0).no (N.getD k mc0).no.length=grZ N k from rfl]at f2
  have y1:=Qaz (pU (grP N) k) N.length
  have y2:=Qaz (pU (grP N) (k+1)) N.length
  have y3:=Qaz (pU (grZ N) k) N.length
  have y4:=Qaz (pU (grZ N) (k+1)) N.length
  have z1:=Qat (pU (grP N) k) N.length
  have z2:=Qat (pU (grP N) (k+1)) N.length
  have z3:=Qat (pU (grZ N) k) N.length
  have z4:=Qat (pU (grZ N) (k+1)) N.length
  refine .inl ⟨k+1,[0,1,2,3],[yes 32,pl 34,ld 35 (.agg (mcC (N.getD k mc0))),fn 40 (u6 (grP N k:Nat)),pl 41,st (uF (pU (grP N) (k+1)) N.length),fn 46 (u6 (grZ N k:Nat)),pl 47,st (uF (pU (grZ N) (k+1)) N.length),nu 48 ((k+1:Nat):Int)],1000,hlt,by omega,?_⟩
  clear hN
  generalize uF (pU (grP N) (k+1)) N.length=A2 at*
  generalize uF (pU (grP N) k) N.length=A at*
  generalize uF (pU (grZ N) (k+1)) N.length=C2 at*
  generalize uF (pU (grZ N) k) N.length=C at*
  have z5:HfL (rep N.length [u6 0]):=by rw[<-Qec N.length (p:=[])];exact Qat _ _
  have y5:(rep N.length [u6 0]).length=N.length:=by rw[<-Qec N.length (p:=[]),Qaz]
  generalize rep N.length [u6 0]=B at*
  generalize grP N k=a at*
  generalize grZ N k=c at*
  generalize hxe:N.getD k mc0=x at*
  obtain⟨cd,fr,nz,ou⟩:=x
  dsimp only at*
  have i1:=Qaa fr
  have i2:=Qaa nz
  have i3:=Qaa ou
  generalize rtL R=RR at*
  generalize mcL N=NN at*
  generalize N.length=n at*
  refine m_ (p:=let z0:=(k:Int);let z1:=(n:Int);let z2:=[i6 g,V.im R.length RR,V.im n NN];let z3:=(↑(k+1):Int);Bn [decide (z0<z1)=true,An [(0:Int)<=z0,z0<z1],takeE 4 (List.drop (k*4) NN)=some (mcC (Mc.mk cd fr nz ou)),Bn [Tt],FnOk Try.prog g0 70 [V.im fr.length (ints fr)] (u6 a),Tt,An [(0:Int)<=z0,z0<z1],layE (0+k*1) A [u6 a]=some A2,Bn [Tt],FnOk Try.prog g0 70 [V.im nz.length (ints nz)] (u6 c),Tt,An [(0:Int)<=z0,z0<z1],layE (0+k*1) C [u6 c]=some C2,wr .i64 (z0+1)=z3,Bn [Zz,An [Zz,n=n,Sm (n-n)],An [Zz,n=n,Sm (n-n)],An [Zz,n=n,Sm (n-n)],An [n=n,NN=NN],z1=z1,z3=z3],An [z2=z2,TT 3],An [A2=A2,HfL A2],An [B=B,HfL B],An [C2=C2,HfL C2]]) ?_
  (repeat'(first|(with_reducible apply And.intro)|(refine fun(_:True)=>?_)))<;>first|exact aq|skip
  all_goals first|exact f1|exact f2|exact l1|exact l2|skip
 ·have hk2 : k = N.length := by omega
  subst hk2
  have y1:=Qaz (grP N) N.length
  have y3:=Qaz (grZ N) N.length
  have z1:=Qat (grP N) N.length
  have z3:=Qat (grZ N) N.length
  have z5:HfL (rep N.length [u6 0]):=by rw[<-Qec N.length (p:=[])];exact Qat _ _
  have y5:(rep N.length [u6 0]).length=N.length:=by rw[<-Qec N.length (p:=[]),Qaz]
  refine .inr ⟨.exit 0,[2],_,[no 32],1000,.inl ⟨trivial,rfl,rfl⟩,?_⟩
  rw[pU_all,pU_all]
  generalize uF (grP N) N.length=A at*
  generalize uF (grZ N) N.length=C at*
  generalize rep N.length [u6 0]=B at*
  clear hN
  generalize rtL R=RR at*
  generalize mcL N=NN at*
  generalize N.length=n at*
  refine m_ (p:=Bn [decide ((n:Int)<(n:Int))=false,Bn [An [n=n,A=A,HfL A],An [Zz,n=n,Sm (n-n)],An [n=n,C=C,HfL C]],An [B=B,HfL B]]) ?_
  (repeat'(first|(with_reducible apply And.intro)|(refine fun(_:True)=>?_)))<;>first|exact aq|skip
  all_goals first|rfl|skip
end
end Go.Proofs.Ythjjgipcoeiapaa.Am
