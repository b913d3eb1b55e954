/- Texts behind the claim, part 7: the abstract machine, and what the functions answer. No condition. -/
import Derived.Test.YtglpoiaedkoecaaDoorCAll6
set_option linter.unusedVariables false
set_option linter.unusedSimpArgs false
set_option linter.unusedSectionVars false
namespace Go.Proofs.YtglpoiaedkoecaaDoor.Am
open Go.RowKit
set_option maxHeartbeats 1000000
set_option maxRecDepth 100000
noncomputable def Qou:Code→Code
 | .rangeFunc _ _ _ b=>b
 |c=>c
noncomputable def rfAsg:Code→Code
 | .rangeFunc _ _ a _=>a
 |c=>c
noncomputable def kAsg(n:Nat)(sl1:List (Nat×V))(H:T O)(nx:Nat):KF:=fun e _ st=>match e with
 | .normal=>bif Nat.beq st.tm.n n then slotsQ st.tm sl1∧st.H=H∧st.nx=nx∧st.lg=[]else False
 | _=>False
noncomputable def kBdy(H:T O)(nx:Nat)(L:List Nat):KF:=fun e _ st=>match e with
 | .normal=>st.H=H∧st.nx=nx∧SubL st.lg L
 | _=>False
theorem CallSpec.yldN{P:Program}{E:Env}{sp:Qdl}(hE:E.Ok P)(hm:P.follows .mixedOrders=true){gl:T (List V)}(hsp:Qbg P gl sp){n hd:Nat}{ars:List V}{H H2:T O}{nx nx2:Nat}{tm tm1:TM}{ps:List Nat}{assign body:Code}{fn0:Nat}{sl0 sl1:List (Nat×V)}{L:List Nat}{hs0 hs1:Hs}{m0 m1:Nat}
  (ho:gt H hd=some (.loop .ready none fn0 tm ps assign body))(htm1:putPs tm ps ars=some tm1)(hn:tm1.n=n)(hg:tm1.gl=gl)(h0:slotsQ tm1 sl0)
  (ha: ∀(H:T O)(nx:Nat),vc P E sp (some hd) nx m0 assign hs0 (mkSo gl n sl0 H nx []) (kAsg n sl1 H nx))
  (hb:vc P E sp (some hd) nx m1 body hs1 (mkSo gl n sl1 (pt H hd (.loop .busy none fn0 tm ps assign body)) nx [hd]) (kBdy (pt H2 hd (.loop .busy none fn0 tm ps assign body)) nx2 L))
  (hL:hd∈L)(hlog:Log H.get nx H2.get nx2 L)(h2:gt H2 hd=some (.loop .ready none fn0 tm ps assign body)):CallSpec P gl (.yld hd) ars H nx ⟨.bool true,H2,nx2,L⟩:=by
 rw[Qay]at ho h2
 refine CallSpec.yld ho htm1 hlog ?_
 have hst:(⟨tm1,H,nx,[]⟩:St)=⟨⟨tm1.sl,gl,n⟩,H,nx,[]⟩:=by cases tm1;subst hn hg;rfl
 rw[hst]
 refine Sat.fewer (sl:=sl0) (by obtain⟨a,b,c⟩:=tm1;cases hn;cases hg;exact h0) ?_
 refine Sat.fewer_post ?_
 refine Sat.of_vc hE hm hsp rfl (ha H nx) fun e hs' st' hgl hk=>?_
 unfold kAsg at hk
 split at hk
 ·obtain ⟨hb1, k1, k2, k3, k4⟩ := Qai hk
  have hn':=Nat.eq_of_beq_eq_true hb1
  refine⟨sl1,k1,rfl,none,fn0,tm,ps,assign,body,by show st'.H.get hd=_;rw[k2];exact ho,?_⟩
  show Sat P (some hd) nx body ⟨_,st'.H.put hd _,st'.nx,hd::st'.lg⟩ _
  rw[k2,k3,k4]
  have e0:(mkSo st'.tm.gl st'.tm.n sl1 H nx []).tm=(mkSo gl n sl1 H nx []).tm:=by rw[hgl,hn']
  rw[e0]
  rw[pt_eq]at hb
  refine Sat.of_vc hE hm hsp rfl hb fun e hs2 st2 hgl2 hk2=>?_
  unfold kBdy at hk2
  split at hk2
  ·obtain ⟨q1, q2, q3⟩ := hk2
   refine⟨.busy,none,fn0,tm,ps,assign,body,by rw[q1,pt_eq,T.get_put,if_pos rfl],rfl,?_,q2.symm,fun x hx=>?_⟩
   ·show H2 = _
    rw[q1]
    have: ∀x:O,(pt H2 hd x).put hd (.loop .ready none fn0 tm ps assign body)=H2:=fun x=>by
     rw[←pt_eq,pt_pt,pt_same (by rw[Qay];exact h2)]
    exact(this _).symm
   ·rcases List.mem_cons.1 hx with rfl | hx
    ·exact hL
    ·exact q3 x hx
  ·exact hk2.elim
 ·exact hk.elim
theorem Sat.rangeC{P:Program}{gl:T (List V)}{rd:Option Nat}{nx0:Nat}{g:Operand}{ps:Array Tmp}{asg body:Code}{f:Nat}{caps:List V}{n:Nat}{S S':SL}{H1:T O}{nx1:Nat}{r L:List Nat}{v:V}
  (hg:ev (mkSt gl n S).tm g=some (.fn f caps))(hlb:rdOk rd (mkSt gl n S).H=true)
  (hc:CallSpec P gl (.fn f caps) [.yld S.os.length] (pt (ofOs .e 0 S.os) S.os.length (.loop .ready none 0 (mkSt gl n S).tm ps.toList asg body)) (S.os.length+1) ⟨v,H1,nx1,L⟩)
  (h1:gt H1 S.os.length=some (.loop .ready none 0 (mkSt gl n S).tm ps.toList asg body))
  (hr:gcP nx0 r ⟨(mkSt gl n S).tm,pt H1 S.os.length .dead,nx1,L++S.lg⟩ S'):
  Sat P rd nx0 (.rangeFunc g ps asg body) (mkSt gl n S) (Qaf gl n [(True,.normal,S')]):=by
 rw[pt_eq]at hc
 rw[Qay]at h1
 rw[pt_eq]at hr
 refine Sat.gc_post (Sat.rangeFunc' hg hlb hc (.inl ⟨0,_,_,_,_,h1,r,mkSt gl n S',Qdj hr,.inl ⟨trivial,rfl,rfl⟩⟩))
theorem Qip{os0 os1:List O}{lg:List Nat}(hle:os0.length≤os1.length)(h: ∀i,i<os0.length→i∉lg→os1[i]? =os0[i]?):Log (ofOs .e 0 os0).get os0.length (ofOs .e 0 os1).get os1.length lg:=by
 refine⟨hle,fun i hi hn=>?_⟩
 by_cases h1:i<os0.length
 ·rw [Qb2 _ _ _ _ (Nat.zero_le _) (by omega), Qb2 _ _ _ _ (Nat.zero_le _) (by omega), Nat.sub_zero]
  exact h i h1 hi
 ·rw[Qbj (by omega),Qbj (by omega)]
noncomputable abbrev rgC:Code:=at' 88 [1,1,1,1,1,0,1,0,0,1,1,0,0,1,1,1,1,0,0,1,1,0,0,1,1,1,0]
theorem rg_eq:rgC= .rangeFunc (.tmp 61) #[62] (rfAsg rgC) (Qou rgC):=by kernel_rfl
noncomputable def rgB:Code:=Qou rgC
noncomputable def rgA:Code:=rfAsg rgC
section
variable (cards:List Int) (cs:List (List Int)) (F:Nat→Nat→Nat→Int) (size lim n w:Nat) (q:Nat→Nat×Nat) (s:Nat) (b:BSt) (B:Nat→Nat→Int) (la pa:Nat→Nat) (v:Nat)
abbrev clZ:List (Nat×V):=[(1,i6 (lim:Nat)),(2,.ptr 0 0),(4,.ptr 1 0),(5,.ptr 2 0),(6,.ptr 3 0),(8,i6 (size:Nat)),(9,.ptr 7 0),(10,.ptr 10 0),(11,.ptr 11 0),(12,.ptr 12 0),(13,.ptr 13 0),(39,i6 (size:Nat)),(40,i6 (s:Nat)),(46,i6 (n:Nat)),(47,i6 (v:Nat))]
abbrev rgZ:List (Nat×V):=clZ size lim n s v++[(14,.ptr 14 0),(61,.fn 122 [.imp [i6 (lim:Nat)],.imp [u6 (w:Nat)]])]
abbrev clO(hs k:Nat):List O:=[.row 32 none [sl cards,gC cs],.row 153 none [.nilp],.row 77 none [.nils,.nils],.row 36 none [i6 0],.row 41 none (bF (sB s b B) size),.map (entM q k) k,.row 158 none (toC cards cs size 4 5 hs k),.row 153 none [.ptr 6 0],.row 3 none (nF (sL s b la) size),.row 28 none (uF (sP s b pa) size),.row 77 none [.sl 8 0 size (some (size-size)),.sl 9 0 size (some (size-size))],.row 3 none [i6 (s:Nat)],.row 4 none [.bool (Qao b)],.row 184 none [.fn 109 [.ptr 7 0,.ptr 11 0,.ptr 12 0,.ptr 10 0]],.row 3 none [i6 (v:Nat)]]
abbrev clM:List Nat:=[0,0,0,0,0,0,1,1,0,0,1,0,0,1,0]
abbrev scO(k:Nat):O:=.row 41 (some 18) (bF (scF F q) (k+1))
noncomputable def rgT:TM:=(mkSt g0 75 {sl:=rgZ size lim n w s v}).tm
noncomputable abbrev lbO(ls:LoopState):O:=.loop ls none 0 (rgT size lim n w s v) [62] rgA rgB
noncomputable abbrev ykA(ls:LoopState):List O:=clO cards cs size q s b B la pa v 15 0++[lbO size lim n w s v ls]
noncomputable abbrev ykB(ls:LoopState)(k:Nat):List O:=clO cards cs size q s b B la pa v 15 (k+1)++[scO F q k,lbO size lim n w s v ls]
noncomputable abbrev ykC(ls:LoopState)(k:Nat):List O:=clO cards cs size q s b B la pa v 16 (k+1)++[lbO size lim n w s v ls,scO F q k]
noncomputable abbrev ykD(ls:LoopState)(k:Nat):List O:=clO cards cs size q s b B la pa v 17 (k+1)++[.dead,lbO size lim n w s v ls,scO F q k]
noncomputable abbrev ykC2(ls:LoopState)(k:Nat):List O:=clO cards cs size q s b B la pa v 17 (k+1)++[lbO size lim n w s v ls,.dead,scO F q k]
noncomputable abbrev ykD2(ls:LoopState)(k:Nat):List O:=clO cards cs size q s b B la pa v 18 (k+1)++[.dead,lbO size lim n w s v ls,.dead,scO F q k]
end
theorem Qky(size lim n w s v nx0:Nat)(h:15≤nx0):LowT nx0 (rgT size lim n w s v):=by
 intro i x hx
 have hx':(putL (blank 75) (rgZ size lim n w s v)).get i=some x:=hx
 rcases putL_get _ _ _ _ hx' with hm|hm
 ·simp only [rgZ, clZ, List.cons_append, List.nil_append, List.mem_cons, List.not_mem_nil, or_false, Prod.mk.injEq] at hm
  rcases hm with⟨_,rfl⟩|⟨_,rfl⟩|⟨_,rfl⟩|⟨_,rfl⟩|⟨_,rfl⟩|⟨_,rfl⟩|⟨_,rfl⟩|⟨_,rfl⟩|⟨_,rfl⟩|⟨_,rfl⟩|⟨_,rfl⟩|⟨_,rfl⟩|⟨_,rfl⟩|⟨_,rfl⟩|⟨_,rfl⟩|⟨_,rfl⟩|⟨_,rfl⟩<;>simp only[Sc,ScL,and_true]<;>omega
 ·rw[Qbi]at hm;cases hm
theorem Qgq(p hd:Nat)(H:T O)(nx:Nat):vc Pg vE sp0 (some hd) nx 1000 rgA [] (mkSo g0 75 [(13,.ptr 13 0),(14,.ptr 14 0),(62,u6 (p:Nat))] H nx []) (kAsg 75 [(13,.ptr 13 0),(14,.ptr 14 0),(15,u6 (p:Nat))] H nx):=by
 refine Eq.mp (by kernel_rfl:(An [An [Sm (V.ptr 13 0),Sm (V.ptr 14 0),Sm (u6 ↑p),Tt],H=H,nx=nx,([]:List Nat)=[]])=_) ?_
 (repeat'(first|(with_reducible apply And.intro)|(refine fun(_:True)=>?_)))<;>first|exact aq|skip
 all_goals skip
theorem yld_A(cards:List Int)(cs:List (List Int))(F:Nat→Nat→Nat→Int)(size lim n w:Nat)(q:Nat→Nat×Nat)(s:Nat)(b:BSt)(B:Nat→Nat→Int)(la pa:Nat→Nat)(v p t bt:Nat)(x:Nat→Int)(h:TryOk cards cs F size s b B v p t bt x):
  CallSpec Pg g0 (.yld 15) [u6 (p:Nat)] (ofOs .e 0 (ykA cards cs size lim n w q s b B la pa v .ready)) 16 ⟨.bool true,ofOs .e 0 (ykC cards cs F size lim n w (upQ q 0 (v,p)) s (upT b v p x) B la pa v .ready 0),17,[4,5,6,8,9,12,15]⟩:=by
 have hB:=Qaa (sB s b B) size
 have hB1:=Qaa (sB s (upT b v p x) B) size
 have hS:=Qaa (scF F (upQ q 0 (v,p))) (0+1)
 have hE:=Qac (upQ q 0 (v,p)) (0+1)
 have hS0:=Qaa (scF F q) 0
 have hE0:=Qac q 0
 have hc:=Qae cards
 have hg:=Qas cs
 have hla:=Qah (sL s b la) size
 have hpa:=Qag (sP s b pa) size
 have hla1:=Qah (sL s (upT b v p x) la) size
 have hpa1:=Qag (sP s (upT b v p x) pa) size
 have hcall:CallSpec Pg g0 (.fn 109 []) (i6 (v:Nat)::u6 (p:Nat)::[.ptr 7 0,.ptr 11 0,.ptr 12 0,.ptr 10 0]) (ofOs .e 0 (ykA cards cs size lim n w q s b B la pa v .busy)) 16 ⟨i6 0,ofOs .e 0 (ykC cards cs F size lim n w (upQ q 0 (v,p)) s (upT b v p x) B la pa v .busy 0),17,[4,5,6,8,9,12]⟩:=
  CallSpec.frameL (OS:=ykA cards cs size lim n w q s b B la pa v .busy) (OS':=ykC cards cs F size lim n w (upQ q 0 (v,p)) s (upT b v p x) B la pa v .busy 0) [4,5,6,8,9,7,11,12,10] [(4,0),(5,1),(6,2),(8,3),(9,4),(7,5),(11,6),(12,7),(10,8),(16,9)] [0,0,1,0,0,1,0,0,1] [0,0,0,0,0,0,1,1,0,0,1,0,0,1,0] (Qt9 (q:=q) (la:=la) (pa:=pa) h) (by kernel_rfl) (by
   refine Eq.mp (by kernel_rfl:(An [Sm (↑v:Int),Sm (↑p:Int),Zz,Zz,Zz,Zz,Tt])=_) ?_
   (repeat'(first|(with_reducible apply And.intro)|(refine fun(_:True)=>?_)))<;>first|exact aq|skip) (by
   refine Eq.mp (by kernel_rfl:(let z3:=An [Zz,Sm size,Sm (size-size)];let z0:=nF (sL s b la) size;let z1:=uF (sP s b pa) size;let z2:=bF (sB s b B) size;An [An [z2=z2,HfL z2],An [Sm (entM q 0),HfE (entM q 0),Zz],An [An [Sm cards.length,Sm (ints cards)],An [Sm cs.length,Sm (List.map sl cs)],z3,TT 2],An [z0=z0,HfL z0],An [z1=z1,HfL z1],An [Zz,Tt],An [Sm [i6 ↑s],Tt,Tt],An [Sm [V.bool (Qao b)],Tt,Tt],An [z3,z3,Tt],Tt])=_) ?_
   (repeat'(first|(with_reducible apply And.intro)|(refine fun(_:True)=>?_)))
   all_goals first|exact aq|exact hB|exact hB1|exact hS|exact hS0|exact hE|exact hE0|exact hla|exact hpa|exact hla1|exact hpa1|rfl|skip) (by
   refine Eq.mp (by kernel_rfl:(Sm (0:Int))=_) ?_
   (repeat'(first|(with_reducible apply And.intro)|(refine fun(_:True)=>?_)))<;>first|exact aq|skip) (by
   refine Eq.mp (by kernel_rfl:(let y4:=An [Zz,Sm size,Sm (size-size)];let z0:=ykA cards cs size lim n w q s b B la pa v .busy;let z1:=upT b v p x;let z2:=some (O.row 184 none [V.fn 109 [V.ptr 7 0,V.ptr 11 0,V.ptr 12 0,V.ptr 10 0]]);let z3:=upQ q 0 (v,p);let z6:=some (O.row 32 none [sl cards,gC cs]);let z8:=some (O.row 77 none [V.nils,V.nils]);let z9:=some (lbO size lim n w s v .busy);let y0:=some (O.row 153 none [V.nilp]);let y1:=some (O.row 3 none [i6 ↑v]);let y2:=some (O.row 36 none [i6 0]);let y3:=some (size-size);let z4:=nF (sL s z1 la) size;let z5:=uF (sP s z1 pa) size;let z7:=bF (sB s z1 B) size;An [z0[0]? =z6,z0[0]? =z6,z0[1]? =y0,z0[1]? =y0,z0[2]? =z8,z0[2]? =z8,z0[3]? =y2,z0[3]? =y2,Tt,An [z7=z7,HfL z7],Tt,An [Sm (entM z3 1),HfE (entM z3 1),1=1],Tt,An [An [Sm cards.length,Sm (ints cards)],An [Sm cs.length,Sm (List.map sl cs)],y4,Tt,An [Zz,1=1,Tt],Tt],z0[7]? =some (O.row 153 none [V.ptr 6 0]),An [Zz,Tt],Tt,An [z4=z4,HfL z4],Tt,An [z5=z5,HfL z5],z0[10]? =some (O.row 77 none [V.sl 8 0 size y3,V.sl 9 0 size y3]),An [y4,y4,Tt],z0[11]? =some (O.row 3 none [i6 ↑s]),An [Sm [i6 ↑s],Tt,Tt],Tt,An [Sm [V.bool (Qao z1)],Tt,Tt],z0[13]? =z2,z0[13]? =z2,z0[14]? =y1,z0[14]? =y1,z0[15]? =z9,z0[15]? =z9,Tt,An [Sm (bF (scF F z3) 1),TT 18],Tt])=_) ?_
   (repeat'(first|(with_reducible apply And.intro)|(refine fun(_:True)=>?_)))
   all_goals first|exact aq|exact hB|exact hB1|exact hS|exact hS0|exact hE|exact hE0|exact hla|exact hpa|exact hla1|exact hpa1|rfl|skip)
 have hcall':=CallSpec.caps (ars:=[i6 (v:Nat),u6 (p:Nat)]) (caps:=[.ptr 7 0,.ptr 11 0,.ptr 12 0,.ptr 10 0]) hcall
 refine CallSpec.yldN vE_ok mixed Qab (n:=75) (fn0:=0) (tm:=rgT size lim n w s v) (ps:=[62]) (assign:=rgA) (body:=rgB) (hs0:=[]) (hs1:=[(66,.call ⟨i6 0,ofOs .e 0 (ykC cards cs F size lim n w (upQ q 0 (v,p)) s (upT b v p x) B la pa v .busy 0),17,[4,5,6,8,9,12]⟩)]) (m0:=1000) (m1:=1000) (sl0:=[(13,.ptr 13 0),(14,.ptr 14 0),(62,u6 (p:Nat))]) (sl1:=[(13,.ptr 13 0),(14,.ptr 14 0),(15,u6 (p:Nat))]) (by kernel_rfl) rfl rfl rfl ⟨rfl,rfl,rfl,trivial⟩ (Qgq p 15) ?_ (by decide) (Qip (os0:=ykA cards cs size lim n w q s b B la pa v .ready) (os1:=ykC cards cs F size lim n w (upQ q 0 (v,p)) s (upT b v p x) B la pa v .ready 0) (by simp) (fun i hi hno=>?_)) (by kernel_rfl)
 ·refine Eq.mp (by kernel_rfl : (let z0 := ofOs T.e 0 (ykC cards cs F size lim n w (upQ q 0 (v, p)) s (upT b v p x) B la pa v .busy 0); let z1 := O.loop .busy none 0 (rgT size lim n w s v) [62] rgA rgB; An [CallSpec Pg g0 (V.fn 109 [V.ptr 7 0, V.ptr 11 0, V.ptr 12 0, V.ptr 10 0]) [i6 ↑v, u6 ↑p] (pt (ofOs T.e 0 (ykA cards cs size lim n w q s b B la pa v .ready)) 15 z1) 16 (CR.mk (i6 0) z0 17 [4, 5, 6, 8, 9, 12]), Tt, z0 = pt (ofOs T.e 0 (ykC cards cs F size lim n w (upQ q 0 (v, p)) s (upT b v p x) B la pa v .ready 0)) 15 z1, 17 = 17, ∀ (g : Nat), List.Mem g ([4, 5, 6, 8, 9, 12] ++ [15]) → List.Mem g [4, 5, 6, 8, 9, 12, 15]]) = _) ?_
  (repeat'(first|(with_reducible apply And.intro)|(refine fun(_:True)=>?_)))
  all_goals first|exact aq|exact hcall'|rfl|skip
 ·rcases(show i=0∨i=1∨i=2∨i=3∨i=4∨i=5∨i=6∨i=7∨i=8∨i=9∨i=10∨i=11∨i=12∨i=13∨i=14∨i=15 by simp at hi;omega)with rfl|rfl|rfl|rfl|rfl|rfl|rfl|rfl|rfl|rfl|rfl|rfl|rfl|rfl|rfl|rfl<;>first|rfl|(simp at hno)
theorem yld_Bh(cards:List Int)(cs:List (List Int))(F:Nat→Nat→Nat→Int)(size lim n w:Nat)(q:Nat→Nat×Nat)(s:Nat)(b:BSt)(B:Nat→Nat→Int)(la pa:Nat→Nat)(v p t bt:Nat)(x:Nat→Int)(h:TryOk cards cs F size s b B v p t bt x)(k j:Nat)(hj:j<k+1)(hq:q j=(v,p))(hf:findS [true,true] [i6 (v:Nat),u6 (p:Nat)] (entM q (k+1)) 0=some (some (j,i6 (j:Nat)))):
  CallSpec Pg g0 (.yld 16) [u6 (p:Nat)] (ofOs .e 0 (ykB cards cs F size lim n w q s b B la pa v .ready k)) 17 ⟨.bool true,ofOs .e 0 (ykB cards cs F size lim n w q s (upT b v p x) B la pa v .ready k),17,[4,5,6,8,9,12,16]⟩:=by
 have hB:=Qaa (sB s b B) size
 have hB1:=Qaa (sB s (upT b v p x) B) size
 have hS:=Qaa (scF F q) (k+1)
 have hE:=Qac q (k+1)
 have hS0:=Qaa (scF F q) (k+1)
 have hE0:=Qac q (k+1)
 have hc:=Qae cards
 have hg:=Qas cs
 have hla:=Qah (sL s b la) size
 have hpa:=Qag (sP s b pa) size
 have hla1:=Qah (sL s (upT b v p x) la) size
 have hpa1:=Qag (sP s (upT b v p x) pa) size
 have hcall:CallSpec Pg g0 (.fn 109 []) (i6 (v:Nat)::u6 (p:Nat)::[.ptr 7 0,.ptr 11 0,.ptr 12 0,.ptr 10 0]) (ofOs .e 0 (ykB cards cs F size lim n w q s b B la pa v .busy k)) 17 ⟨i6 0,ofOs .e 0 (ykB cards cs F size lim n w q s (upT b v p x) B la pa v .busy k),17,[4,5,6,8,9,12]⟩:=
  CallSpec.frameL (OS:=ykB cards cs F size lim n w q s b B la pa v .busy k) (OS':=ykB cards cs F size lim n w q s (upT b v p x) B la pa v .busy k) [4,5,6,8,9,7,11,12,10,15] [(4,0),(5,1),(6,2),(8,3),(9,4),(7,5),(11,6),(12,7),(10,8),(15,9)] [0,0,1,0,0,1,0,0,1] [0,0,0,0,0,0,1,1,0,0,1,0,0,1,0] (Qm1 (la:=la) (pa:=pa) h hj hq hf) (by kernel_rfl) (by
   refine Eq.mp (by kernel_rfl:(An [Sm (↑v:Int),Sm (↑p:Int),Zz,Zz,Zz,Zz,Tt])=_) ?_
   (repeat'(first|(with_reducible apply And.intro)|(refine fun(_:True)=>?_)))<;>first|exact aq|skip) (by
   refine Eq.mp (by kernel_rfl:(let z5:=An [Zz,Sm size,Sm (size-size)];let z0:=bF (scF F q) (k+1);let z1:=nF (sL s b la) size;let z2:=uF (sP s b pa) size;let z3:=bF (sB s b B) size;let z4:=entM q (k+1);An [An [z3=z3,HfL z3],An [z4=z4,HfE z4,Sm (k+1)],An [An [Sm cards.length,Sm (ints cards)],An [Sm cs.length,Sm (List.map sl cs)],z5,Tt,An [Zz,Sm (k+1),Tt],Tt],An [z1=z1,HfL z1],An [z2=z2,HfL z2],An [Zz,Tt],An [Sm [i6 ↑s],Tt,Tt],An [Sm [V.bool (Qao b)],Tt,Tt],An [z5,z5,Tt],An [z0=z0,HfL z0],Tt])=_) ?_
   (repeat'(first|(with_reducible apply And.intro)|(refine fun(_:True)=>?_)))
   all_goals first|exact aq|exact hB|exact hB1|exact hS|exact hS0|exact hE|exact hE0|exact hla|exact hpa|exact hla1|exact hpa1|rfl|skip) (by
   refine Eq.mp (by kernel_rfl:(Sm (0:Int))=_) ?_
   (repeat'(first|(with_reducible apply And.intro)|(refine fun(_:True)=>?_)))<;>first|exact aq|skip) (by
   refine Eq.mp (by kernel_rfl:(let y5:=An [Zz,Sm size,Sm (size-size)];let z0:=ykB cards cs F size lim n w q s b B la pa v .busy k;let z1:=upT b v p x;let z2:=some (O.row 184 none [V.fn 109 [V.ptr 7 0,V.ptr 11 0,V.ptr 12 0,V.ptr 10 0]]);let z5:=bF (scF F q) (k+1);let z6:=some (O.row 32 none [sl cards,gC cs]);let z8:=some (O.row 77 none [V.nils,V.nils]);let z9:=some (lbO size lim n w s v .busy);let y0:=some (O.row 153 none [V.nilp]);let y1:=some (O.row 3 none [i6 ↑v]);let y2:=entM q (k+1);let y3:=some (O.row 36 none [i6 0]);let y4:=some (size-size);let z3:=nF (sL s z1 la) size;let z4:=uF (sP s z1 pa) size;let z7:=bF (sB s z1 B) size;An [z0[0]? =z6,z0[0]? =z6,z0[1]? =y0,z0[1]? =y0,z0[2]? =z8,z0[2]? =z8,z0[3]? =y3,z0[3]? =y3,Tt,An [z7=z7,HfL z7],Tt,An [y2=y2,HfE y2,Sm (k+1)],Tt,An [An [Sm cards.length,Sm (ints cards)],An [Sm cs.length,Sm (List.map sl cs)],y5,Tt,An [Zz,Sm (k+1),Tt],Tt],z0[7]? =some (O.row 153 none [V.ptr 6 0]),An [Zz,Tt],Tt,An [z3=z3,HfL z3],Tt,An [z4=z4,HfL z4],z0[10]? =some (O.row 77 none [V.sl 8 0 size y4,V.sl 9 0 size y4]),An [y5,y5,Tt],z0[11]? =some (O.row 3 none [i6 ↑s]),An [Sm [i6 ↑s],Tt,Tt],Tt,An [Sm [V.bool (Qao z1)],Tt,Tt],z0[13]? =z2,z0[13]? =z2,z0[14]? =y1,z0[14]? =y1,z0[15]? =some (scO F q k),An [z5=z5,HfL z5],z0[16]? =z9,z0[16]? =z9,Tt])=_) ?_
   (repeat'(first|(with_reducible apply And.intro)|(refine fun(_:True)=>?_)))
   all_goals first|exact aq|exact hB|exact hB1|exact hS|exact hS0|exact hE|exact hE0|exact hla|exact hpa|exact hla1|exact hpa1|rfl|skip)
 have hcall':=CallSpec.caps (ars:=[i6 (v:Nat),u6 (p:Nat)]) (caps:=[.ptr 7 0,.ptr 11 0,.ptr 12 0,.ptr 10 0]) hcall
 refine CallSpec.yldN vE_ok mixed Qab (n:=75) (fn0:=0) (tm:=rgT size lim n w s v) (ps:=[62]) (assign:=rgA) (body:=rgB) (hs0:=[]) (hs1:=[(66,.call ⟨i6 0,ofOs .e 0 (ykB cards cs F size lim n w q s (upT b v p x) B la pa v .busy k),17,[4,5,6,8,9,12]⟩)]) (m0:=1000) (m1:=1000) (sl0:=[(13,.ptr 13 0),(14,.ptr 14 0),(62,u6 (p:Nat))]) (sl1:=[(13,.ptr 13 0),(14,.ptr 14 0),(15,u6 (p:Nat))]) (by kernel_rfl) rfl rfl rfl ⟨rfl,rfl,rfl,trivial⟩ (Qgq p 16) ?_ (by decide) (Qip (os0:=ykB cards cs F size lim n w q s b B la pa v .ready k) (os1:=ykB cards cs F size lim n w q s (upT b v p x) B la pa v .ready k) (by simp) (fun i hi hno=>?_)) (by kernel_rfl)
 ·refine Eq.mp (by kernel_rfl : (let z0 := ofOs T.e 0 (ykB cards cs F size lim n w q s (upT b v p x) B la pa v .busy k); let z1 := O.loop .busy none 0 (rgT size lim n w s v) [62] rgA rgB; An [CallSpec Pg g0 (V.fn 109 [V.ptr 7 0, V.ptr 11 0, V.ptr 12 0, V.ptr 10 0]) [i6 ↑v, u6 ↑p] (pt (ofOs T.e 0 (ykB cards cs F size lim n w q s b B la pa v .ready k)) 16 z1) 17 (CR.mk (i6 0) z0 17 [4, 5, 6, 8, 9, 12]), Tt, z0 = pt (ofOs T.e 0 (ykB cards cs F size lim n w q s (upT b v p x) B la pa v .ready k)) 16 z1, 17 = 17, ∀ (g : Nat), List.Mem g ([4, 5, 6, 8, 9, 12] ++ [16]) → List.Mem g [4, 5, 6, 8, 9, 12, 16]]) = _) ?_
  (repeat'(first|(with_reducible apply And.intro)|(refine fun(_:True)=>?_)))
  all_goals first|exact aq|exact hcall'|rfl|skip
 ·rcases(show i=0∨i=1∨i=2∨i=3∨i=4∨i=5∨i=6∨i=7∨i=8∨i=9∨i=10∨i=11∨i=12∨i=13∨i=14∨i=15∨i=16 by simp at hi;omega)with rfl|rfl|rfl|rfl|rfl|rfl|rfl|rfl|rfl|rfl|rfl|rfl|rfl|rfl|rfl|rfl|rfl<;>first|rfl|(simp at hno)
theorem yld_Bm(cards:List Int)(cs:List (List Int))(F:Nat→Nat→Nat→Int)(size lim n w:Nat)(q:Nat→Nat×Nat)(s:Nat)(b:BSt)(B:Nat→Nat→Int)(la pa:Nat→Nat)(v p t bt:Nat)(x:Nat→Int)(h:TryOk cards cs F size s b B v p t bt x)(k:Nat)(hk:k≤1000000)(hf:findS [true,true] [i6 (v:Nat),u6 (p:Nat)] (entM q (k+1)) 0=some none):
  CallSpec Pg g0 (.yld 16) [u6 (p:Nat)] (ofOs .e 0 (ykB cards cs F size lim n w q s b B la pa v .ready k)) 17 ⟨.bool true,ofOs .e 0 (ykD cards cs F size lim n w (upQ q (k+1) (v,p)) s (upT b v p x) B la pa v .ready (k+1)),18,[4,5,6,8,9,12,15,16]⟩:=by
 have hB:=Qaa (sB s b B) size
 have hB1:=Qaa (sB s (upT b v p x) B) size
 have hS:=Qaa (scF F (upQ q (k+1) (v,p))) (k+1+1)
 have hE:=Qac (upQ q (k+1) (v,p)) (k+1+1)
 have hS0:=Qaa (scF F q) (k+1)
 have hE0:=Qac q (k+1)
 have hc:=Qae cards
 have hg:=Qas cs
 have hla:=Qah (sL s b la) size
 have hpa:=Qag (sP s b pa) size
 have hla1:=Qah (sL s (upT b v p x) la) size
 have hpa1:=Qag (sP s (upT b v p x) pa) size
 have hcall:CallSpec Pg g0 (.fn 109 []) (i6 (v:Nat)::u6 (p:Nat)::[.ptr 7 0,.ptr 11 0,.ptr 12 0,.ptr 10 0]) (ofOs .e 0 (ykB cards cs F size lim n w q s b B la pa v .busy k)) 17 ⟨i6 0,ofOs .e 0 (ykD cards cs F size lim n w (upQ q (k+1) (v,p)) s (upT b v p x) B la pa v .busy (k+1)),18,[4,5,6,8,9,12,15]⟩:=
  CallSpec.frameL (OS:=ykB cards cs F size lim n w q s b B la pa v .busy k) (OS':=ykD cards cs F size lim n w (upQ q (k+1) (v,p)) s (upT b v p x) B la pa v .busy (k+1)) [4,5,6,8,9,7,11,12,10,15] [(4,0),(5,1),(6,2),(8,3),(9,4),(7,5),(11,6),(12,7),(10,8),(15,9),(17,10)] [0,0,1,0,0,1,0,0,1] [0,0,0,0,0,0,1,1,0,0,1,0,0,1,0] (Qgy (q:=q) (la:=la) (pa:=pa) h hk hf) (by kernel_rfl) (by
   refine Eq.mp (by kernel_rfl:(An [Sm (↑v:Int),Sm (↑p:Int),Zz,Zz,Zz,Zz,Tt])=_) ?_
   (repeat'(first|(with_reducible apply And.intro)|(refine fun(_:True)=>?_)))<;>first|exact aq|skip) (by
   refine Eq.mp (by kernel_rfl:(let z5:=An [Zz,Sm size,Sm (size-size)];let z0:=bF (scF F q) (k+1);let z1:=nF (sL s b la) size;let z2:=uF (sP s b pa) size;let z3:=bF (sB s b B) size;let z4:=entM q (k+1);An [An [z3=z3,HfL z3],An [z4=z4,HfE z4,Sm (k+1)],An [An [Sm cards.length,Sm (ints cards)],An [Sm cs.length,Sm (List.map sl cs)],z5,Tt,An [Zz,Sm (k+1),Tt],Tt],An [z1=z1,HfL z1],An [z2=z2,HfL z2],An [Zz,Tt],An [Sm [i6 ↑s],Tt,Tt],An [Sm [V.bool (Qao b)],Tt,Tt],An [z5,z5,Tt],An [z0=z0,HfL z0],Tt])=_) ?_
   (repeat'(first|(with_reducible apply And.intro)|(refine fun(_:True)=>?_)))
   all_goals first|exact aq|exact hB|exact hB1|exact hS|exact hS0|exact hE|exact hE0|exact hla|exact hpa|exact hla1|exact hpa1|rfl|skip) (by
   refine Eq.mp (by kernel_rfl:(Sm (0:Int))=_) ?_
   (repeat'(first|(with_reducible apply And.intro)|(refine fun(_:True)=>?_)))<;>first|exact aq|skip) (by
   refine Eq.mp (by kernel_rfl:(let y6:=An [Zz,Sm size,Sm (size-size)];let z0:=ykB cards cs F size lim n w q s b B la pa v .busy k;let z1:=upT b v p x;let z2:=upQ q (k+1) (v,p);let z3:=some (O.row 184 none [V.fn 109 [V.ptr 7 0,V.ptr 11 0,V.ptr 12 0,V.ptr 10 0]]);let z7:=some (O.row 32 none [sl cards,gC cs]);let y0:=some (O.row 77 none [V.nils,V.nils]);let y1:=some (lbO size lim n w s v .busy);let y2:=some (O.row 153 none [V.nilp]);let y3:=some (O.row 3 none [i6 ↑v]);let y4:=some (O.row 36 none [i6 0]);let y5:=some (size-size);let z4:=bF (scF F z2) (k+1+1);let z5:=nF (sL s z1 la) size;let z6:=uF (sP s z1 pa) size;let z8:=bF (sB s z1 B) size;let z9:=entM z2 (k+1+1);An [z0[0]? =z7,z0[0]? =z7,z0[1]? =y2,z0[1]? =y2,z0[2]? =y0,z0[2]? =y0,z0[3]? =y4,z0[3]? =y4,Tt,An [z8=z8,HfL z8],Tt,An [z9=z9,HfE z9,Sm (k+1+1)],Tt,An [An [Sm cards.length,Sm (ints cards)],An [Sm cs.length,Sm (List.map sl cs)],y6,Tt,An [Zz,Sm (Nat.succ k+1),Tt],Tt],z0[7]? =some (O.row 153 none [V.ptr 6 0]),An [Zz,Tt],Tt,An [z5=z5,HfL z5],Tt,An [z6=z6,HfL z6],z0[10]? =some (O.row 77 none [V.sl 8 0 size y5,V.sl 9 0 size y5]),An [y6,y6,Tt],z0[11]? =some (O.row 3 none [i6 ↑s]),An [Sm [i6 ↑s],Tt,Tt],Tt,An [Sm [V.bool (Qao z1)],Tt,Tt],z0[13]? =z3,z0[13]? =z3,z0[14]? =y3,z0[14]? =y3,Tt,Tt,z0[16]? =y1,z0[16]? =y1,Tt,An [z4=z4,HfL z4],Tt])=_) ?_
   (repeat'(first|(with_reducible apply And.intro)|(refine fun(_:True)=>?_)))
   all_goals first|exact aq|exact hB|exact hB1|exact hS|exact hS0|exact hE|exact hE0|exact hla|exact hpa|exact hla1|exact hpa1|rfl|skip)
 have hcall':=CallSpec.caps (ars:=[i6 (v:Nat),u6 (p:Nat)]) (caps:=[.ptr 7 0,.ptr 11 0,.ptr 12 0,.ptr 10 0]) hcall
 refine CallSpec.yldN vE_ok mixed Qab (n:=75) (fn0:=0) (tm:=rgT size lim n w s v) (ps:=[62]) (assign:=rgA) (body:=rgB) (hs0:=[]) (hs1:=[(66,.call ⟨i6 0,ofOs .e 0 (ykD cards cs F size lim n w (upQ q (k+1) (v,p)) s (upT b v p x) B la pa v .busy (k+1)),18,[4,5,6,8,9,12,15]⟩)]) (m0:=1000) (m1:=1000) (sl0:=[(13,.ptr 13 0),(14,.ptr 14 0),(62,u6 (p:Nat))]) (sl1:=[(13,.ptr 13 0),(14,.ptr 14 0),(15,u6 (p:Nat))]) (by kernel_rfl) rfl rfl rfl ⟨rfl,rfl,rfl,trivial⟩ (Qgq p 16) ?_ (by decide) (Qip (os0:=ykB cards cs F size lim n w q s b B la pa v .ready k) (os1:=ykD cards cs F size lim n w (upQ q (k+1) (v,p)) s (upT b v p x) B la pa v .ready (k+1)) (by simp) (fun i hi hno=>?_)) (by kernel_rfl)
 ·refine Eq.mp (by kernel_rfl : (let z1 := O.loop .busy none 0 (rgT size lim n w s v) [62] rgA rgB; let z2 := upQ q (k + 1) (v, p); let z3 := [4, 5, 6, 8, 9, 12, 15]; let z0 := ofOs T.e 0 (ykD cards cs F size lim n w z2 s (upT b v p x) B la pa v .busy (k + 1)); An [CallSpec Pg g0 (V.fn 109 [V.ptr 7 0, V.ptr 11 0, V.ptr 12 0, V.ptr 10 0]) [i6 ↑v, u6 ↑p] (pt (ofOs T.e 0 (ykB cards cs F size lim n w q s b B la pa v .ready k)) 16 z1) 17 (CR.mk (i6 0) z0 18 z3), Tt, z0 = pt (ofOs T.e 0 (ykD cards cs F size lim n w z2 s (upT b v p x) B la pa v .ready (k + 1))) 16 z1, 18 = 18, ∀ (g : Nat), List.Mem g (z3 ++ [16]) → List.Mem g [4, 5, 6, 8, 9, 12, 15, 16]]) = _) ?_
  (repeat'(first|(with_reducible apply And.intro)|(refine fun(_:True)=>?_)))
  all_goals first|exact aq|exact hcall'|rfl|skip
 ·rcases(show i=0∨i=1∨i=2∨i=3∨i=4∨i=5∨i=6∨i=7∨i=8∨i=9∨i=10∨i=11∨i=12∨i=13∨i=14∨i=15∨i=16 by simp at hi;omega)with rfl|rfl|rfl|rfl|rfl|rfl|rfl|rfl|rfl|rfl|rfl|rfl|rfl|rfl|rfl|rfl|rfl<;>first|rfl|(simp at hno)
theorem yld_Ch(cards:List Int)(cs:List (List Int))(F:Nat→Nat→Nat→Int)(size lim n w:Nat)(q:Nat→Nat×Nat)(s:Nat)(b:BSt)(B:Nat→Nat→Int)(la pa:Nat→Nat)(v p t bt:Nat)(x:Nat→Int)(h:TryOk cards cs F size s b B v p t bt x)(k j:Nat)(hj:j<k+1)(hq:q j=(v,p))(hf:findS [true,true] [i6 (v:Nat),u6 (p:Nat)] (entM q (k+1)) 0=some (some (j,i6 (j:Nat)))):
  CallSpec Pg g0 (.yld 15) [u6 (p:Nat)] (ofOs .e 0 (ykC cards cs F size lim n w q s b B la pa v .ready k)) 17 ⟨.bool true,ofOs .e 0 (ykC cards cs F size lim n w q s (upT b v p x) B la pa v .ready k),17,[4,5,6,8,9,12,15]⟩:=by
 have hB:=Qaa (sB s b B) size
 have hB1:=Qaa (sB s (upT b v p x) B) size
 have hS:=Qaa (scF F q) (k+1)
 have hE:=Qac q (k+1)
 have hS0:=Qaa (scF F q) (k+1)
 have hE0:=Qac q (k+1)
 have hc:=Qae cards
 have hg:=Qas cs
 have hla:=Qah (sL s b la) size
 have hpa:=Qag (sP s b pa) size
 have hla1:=Qah (sL s (upT b v p x) la) size
 have hpa1:=Qag (sP s (upT b v p x) pa) size
 have hcall:CallSpec Pg g0 (.fn 109 []) (i6 (v:Nat)::u6 (p:Nat)::[.ptr 7 0,.ptr 11 0,.ptr 12 0,.ptr 10 0]) (ofOs .e 0 (ykC cards cs F size lim n w q s b B la pa v .busy k)) 17 ⟨i6 0,ofOs .e 0 (ykC cards cs F size lim n w q s (upT b v p x) B la pa v .busy k),17,[4,5,6,8,9,12]⟩:=
  CallSpec.frameL (OS:=ykC cards cs F size lim n w q s b B la pa v .busy k) (OS':=ykC cards cs F size lim n w q s (upT b v p x) B la pa v .busy k) [4,5,6,8,9,7,11,12,10,16] [(4,0),(5,1),(6,2),(8,3),(9,4),(7,5),(11,6),(12,7),(10,8),(16,9)] [0,0,1,0,0,1,0,0,1] [0,0,0,0,0,0,1,1,0,0,1,0,0,1,0] (Qm1 (la:=la) (pa:=pa) h hj hq hf) (by kernel_rfl) (by
   refine Eq.mp (by kernel_rfl:(An [Sm (↑v:Int),Sm (↑p:Int),Zz,Zz,Zz,Zz,Tt])=_) ?_
   (repeat'(first|(with_reducible apply And.intro)|(refine fun(_:True)=>?_)))<;>first|exact aq|skip) (by
   refine Eq.mp (by kernel_rfl:(let z5:=An [Zz,Sm size,Sm (size-size)];let z0:=bF (scF F q) (k+1);let z1:=nF (sL s b la) size;let z2:=uF (sP s b pa) size;let z3:=bF (sB s b B) size;let z4:=entM q (k+1);An [An [z3=z3,HfL z3],An [z4=z4,HfE z4,Sm (k+1)],An [An [Sm cards.length,Sm (ints cards)],An [Sm cs.length,Sm (List.map sl cs)],z5,Tt,An [Zz,Sm (k+1),Tt],Tt],An [z1=z1,HfL z1],An [z2=z2,HfL z2],An [Zz,Tt],An [Sm [i6 ↑s],Tt,Tt],An [Sm [V.bool (Qao b)],Tt,Tt],An [z5,z5,Tt],An [z0=z0,HfL z0],Tt])=_) ?_
   (repeat'(first|(with_reducible apply And.intro)|(refine fun(_:True)=>?_)))
   all_goals first|exact aq|exact hB|exact hB1|exact hS|exact hS0|exact hE|exact hE0|exact hla|exact hpa|exact hla1|exact hpa1|rfl|skip) (by
   refine Eq.mp (by kernel_rfl:(Sm (0:Int))=_) ?_
   (repeat'(first|(with_reducible apply And.intro)|(refine fun(_:True)=>?_)))<;>first|exact aq|skip) (by
   refine Eq.mp (by kernel_rfl:(let y5:=An [Zz,Sm size,Sm (size-size)];let z0:=ykC cards cs F size lim n w q s b B la pa v .busy k;let z1:=upT b v p x;let z2:=some (O.row 184 none [V.fn 109 [V.ptr 7 0,V.ptr 11 0,V.ptr 12 0,V.ptr 10 0]]);let z5:=bF (scF F q) (k+1);let z6:=some (O.row 32 none [sl cards,gC cs]);let z8:=some (O.row 77 none [V.nils,V.nils]);let z9:=some (lbO size lim n w s v .busy);let y0:=some (O.row 153 none [V.nilp]);let y1:=some (O.row 3 none [i6 ↑v]);let y2:=entM q (k+1);let y3:=some (O.row 36 none [i6 0]);let y4:=some (size-size);let z3:=nF (sL s z1 la) size;let z4:=uF (sP s z1 pa) size;let z7:=bF (sB s z1 B) size;An [z0[0]? =z6,z0[0]? =z6,z0[1]? =y0,z0[1]? =y0,z0[2]? =z8,z0[2]? =z8,z0[3]? =y3,z0[3]? =y3,Tt,An [z7=z7,HfL z7],Tt,An [y2=y2,HfE y2,Sm (k+1)],Tt,An [An [Sm cards.length,Sm (ints cards)],An [Sm cs.length,Sm (List.map sl cs)],y5,Tt,An [Zz,Sm (k+1),Tt],Tt],z0[7]? =some (O.row 153 none [V.ptr 6 0]),An [Zz,Tt],Tt,An [z3=z3,HfL z3],Tt,An [z4=z4,HfL z4],z0[10]? =some (O.row 77 none [V.sl 8 0 size y4,V.sl 9 0 size y4]),An [y5,y5,Tt],z0[11]? =some (O.row 3 none [i6 ↑s]),An [Sm [i6 ↑s],Tt,Tt],Tt,An [Sm [V.bool (Qao z1)],Tt,Tt],z0[13]? =z2,z0[13]? =z2,z0[14]? =y1,z0[14]? =y1,z0[15]? =z9,z0[15]? =z9,z0[16]? =some (scO F q k),An [z5=z5,HfL z5],Tt])=_) ?_
   (repeat'(first|(with_reducible apply And.intro)|(refine fun(_:True)=>?_)))
   all_goals first|exact aq|exact hB|exact hB1|exact hS|exact hS0|exact hE|exact hE0|exact hla|exact hpa|exact hla1|exact hpa1|rfl|skip)
 have hcall':=CallSpec.caps (ars:=[i6 (v:Nat),u6 (p:Nat)]) (caps:=[.ptr 7 0,.ptr 11 0,.ptr 12 0,.ptr 10 0]) hcall
 refine CallSpec.yldN vE_ok mixed Qab (n:=75) (fn0:=0) (tm:=rgT size lim n w s v) (ps:=[62]) (assign:=rgA) (body:=rgB) (hs0:=[]) (hs1:=[(66,.call ⟨i6 0,ofOs .e 0 (ykC cards cs F size lim n w q s (upT b v p x) B la pa v .busy k),17,[4,5,6,8,9,12]⟩)]) (m0:=1000) (m1:=1000) (sl0:=[(13,.ptr 13 0),(14,.ptr 14 0),(62,u6 (p:Nat))]) (sl1:=[(13,.ptr 13 0),(14,.ptr 14 0),(15,u6 (p:Nat))]) (by kernel_rfl) rfl rfl rfl ⟨rfl,rfl,rfl,trivial⟩ (Qgq p 15) ?_ (by decide) (Qip (os0:=ykC cards cs F size lim n w q s b B la pa v .ready k) (os1:=ykC cards cs F size lim n w q s (upT b v p x) B la pa v .ready k) (by simp) (fun i hi hno=>?_)) (by kernel_rfl)
 ·refine Eq.mp (by kernel_rfl : (let z0 := ofOs T.e 0 (ykC cards cs F size lim n w q s (upT b v p x) B la pa v .busy k); let z1 := O.loop .busy none 0 (rgT size lim n w s v) [62] rgA rgB; An [CallSpec Pg g0 (V.fn 109 [V.ptr 7 0, V.ptr 11 0, V.ptr 12 0, V.ptr 10 0]) [i6 ↑v, u6 ↑p] (pt (ofOs T.e 0 (ykC cards cs F size lim n w q s b B la pa v .ready k)) 15 z1) 17 (CR.mk (i6 0) z0 17 [4, 5, 6, 8, 9, 12]), Tt, z0 = pt (ofOs T.e 0 (ykC cards cs F size lim n w q s (upT b v p x) B la pa v .ready k)) 15 z1, 17 = 17, ∀ (g : Nat), List.Mem g ([4, 5, 6, 8, 9, 12] ++ [15]) → List.Mem g [4, 5, 6, 8, 9, 12, 15]]) = _) ?_
  (repeat'(first|(with_reducible apply And.intro)|(refine fun(_:True)=>?_)))
  all_goals first|exact aq|exact hcall'|rfl|skip
 ·rcases(show i=0∨i=1∨i=2∨i=3∨i=4∨i=5∨i=6∨i=7∨i=8∨i=9∨i=10∨i=11∨i=12∨i=13∨i=14∨i=15∨i=16 by simp at hi;omega)with rfl|rfl|rfl|rfl|rfl|rfl|rfl|rfl|rfl|rfl|rfl|rfl|rfl|rfl|rfl|rfl|rfl<;>first|rfl|(simp at hno)
theorem yld_Cm(cards:List Int)(cs:List (List Int))(F:Nat→Nat→Nat→Int)(size lim n w:Nat)(q:Nat→Nat×Nat)(s:Nat)(b:BSt)(B:Nat→Nat→Int)(la pa:Nat→Nat)(v p t bt:Nat)(x:Nat→Int)(h:TryOk cards cs F size s b B v p t bt x)(k:Nat)(hk:k≤1000000)(hf:findS [true,true] [i6 (v:Nat),u6 (p:Nat)] (entM q (k+1)) 0=some none):
  CallSpec Pg g0 (.yld 15) [u6 (p:Nat)] (ofOs .e 0 (ykC cards cs F size lim n w q s b B la pa v .ready k)) 17 ⟨.bool true,ofOs .e 0 (ykC2 cards cs F size lim n w (upQ q (k+1) (v,p)) s (upT b v p x) B la pa v .ready (k+1)),18,[4,5,6,8,9,12,16,15]⟩:=by
 have hB:=Qaa (sB s b B) size
 have hB1:=Qaa (sB s (upT b v p x) B) size
 have hS:=Qaa (scF F (upQ q (k+1) (v,p))) (k+1+1)
 have hE:=Qac (upQ q (k+1) (v,p)) (k+1+1)
 have hS0:=Qaa (scF F q) (k+1)
 have hE0:=Qac q (k+1)
 have hc:=Qae cards
 have hg:=Qas cs
 have hla:=Qah (sL s b la) size
 have hpa:=Qag (sP s b pa) size
 have hla1:=Qah (sL s (upT b v p x) la) size
 have hpa1:=Qag (sP s (upT b v p x) pa) size
 have hcall:CallSpec Pg g0 (.fn 109 []) (i6 (v:Nat)::u6 (p:Nat)::[.ptr 7 0,.ptr 11 0,.ptr 12 0,.ptr 10 0]) (ofOs .e 0 (ykC cards cs F size lim n w q s b B la pa v .busy k)) 17 ⟨i6 0,ofOs .e 0 (ykC2 cards cs F size lim n w (upQ q (k+1) (v,p)) s (upT b v p x) B la pa v .busy (k+1)),18,[4,5,6,8,9,12,16]⟩:=
  CallSpec.frameL (OS:=ykC cards cs F size lim n w q s b B la pa v .busy k) (OS':=ykC2 cards cs F size lim n w (upQ q (k+1) (v,p)) s (upT b v p x) B la pa v .busy (k+1)) [4,5,6,8,9,7,11,12,10,16] [(4,0),(5,1),(6,2),(8,3),(9,4),(7,5),(11,6),(12,7),(10,8),(16,9),(17,10)] [0,0,1,0,0,1,0,0,1] [0,0,0,0,0,0,1,1,0,0,1,0,0,1,0] (Qgy (q:=q) (la:=la) (pa:=pa) h hk hf) (by kernel_rfl) (by
   refine Eq.mp (by kernel_rfl:(An [Sm (↑v:Int),Sm (↑p:Int),Zz,Zz,Zz,Zz,Tt])=_) ?_
   (repeat'(first|(with_reducible apply And.intro)|(refine fun(_:True)=>?_)))<;>first|exact aq|skip) (by
   refine Eq.mp (by kernel_rfl:(let z5:=An [Zz,Sm size,Sm (size-size)];let z0:=bF (scF F q) (k+1);let z1:=nF (sL s b la) size;let z2:=uF (sP s b pa) size;let z3:=bF (sB s b B) size;let z4:=entM q (k+1);An [An [z3=z3,HfL z3],An [z4=z4,HfE z4,Sm (k+1)],An [An [Sm cards.length,Sm (ints cards)],An [Sm cs.length,Sm (List.map sl cs)],z5,Tt,An [Zz,Sm (k+1),Tt],Tt],An [z1=z1,HfL z1],An [z2=z2,HfL z2],An [Zz,Tt],An [Sm [i6 ↑s],Tt,Tt],An [Sm [V.bool (Qao b)],Tt,Tt],An [z5,z5,Tt],An [z0=z0,HfL z0],Tt])=_) ?_
   (repeat'(first|(with_reducible apply And.intro)|(refine fun(_:True)=>?_)))
   all_goals first|exact aq|exact hB|exact hB1|exact hS|exact hS0|exact hE|exact hE0|exact hla|exact hpa|exact hla1|exact hpa1|rfl|skip) (by
   refine Eq.mp (by kernel_rfl:(Sm (0:Int))=_) ?_
   (repeat'(first|(with_reducible apply And.intro)|(refine fun(_:True)=>?_)))<;>first|exact aq|skip) (by
   refine Eq.mp (by kernel_rfl:(let y6:=An [Zz,Sm size,Sm (size-size)];let z0:=ykC cards cs F size lim n w q s b B la pa v .busy k;let z1:=upT b v p x;let z2:=upQ q (k+1) (v,p);let z3:=some (O.row 184 none [V.fn 109 [V.ptr 7 0,V.ptr 11 0,V.ptr 12 0,V.ptr 10 0]]);let z7:=some (O.row 32 none [sl cards,gC cs]);let y0:=some (O.row 77 none [V.nils,V.nils]);let y1:=some (lbO size lim n w s v .busy);let y2:=some (O.row 153 none [V.nilp]);let y3:=some (O.row 3 none [i6 ↑v]);let y4:=some (O.row 36 none [i6 0]);let y5:=some (size-size);let z4:=bF (scF F z2) (k+1+1);let z5:=nF (sL s z1 la) size;let z6:=uF (sP s z1 pa) size;let z8:=bF (sB s z1 B) size;let z9:=entM z2 (k+1+1);An [z0[0]? =z7,z0[0]? =z7,z0[1]? =y2,z0[1]? =y2,z0[2]? =y0,z0[2]? =y0,z0[3]? =y4,z0[3]? =y4,Tt,An [z8=z8,HfL z8],Tt,An [z9=z9,HfE z9,Sm (k+1+1)],Tt,An [An [Sm cards.length,Sm (ints cards)],An [Sm cs.length,Sm (List.map sl cs)],y6,Tt,An [Zz,Sm (Nat.succ k+1),Tt],Tt],z0[7]? =some (O.row 153 none [V.ptr 6 0]),An [Zz,Tt],Tt,An [z5=z5,HfL z5],Tt,An [z6=z6,HfL z6],z0[10]? =some (O.row 77 none [V.sl 8 0 size y5,V.sl 9 0 size y5]),An [y6,y6,Tt],z0[11]? =some (O.row 3 none [i6 ↑s]),An [Sm [i6 ↑s],Tt,Tt],Tt,An [Sm [V.bool (Qao z1)],Tt,Tt],z0[13]? =z3,z0[13]? =z3,z0[14]? =y3,z0[14]? =y3,z0[15]? =y1,z0[15]? =y1,Tt,Tt,Tt,An [z4=z4,HfL z4],Tt])=_) ?_
   (repeat'(first|(with_reducible apply And.intro)|(refine fun(_:True)=>?_)))
   all_goals first|exact aq|exact hB|exact hB1|exact hS|exact hS0|exact hE|exact hE0|exact hla|exact hpa|exact hla1|exact hpa1|rfl|skip)
 have hcall':=CallSpec.caps (ars:=[i6 (v:Nat),u6 (p:Nat)]) (caps:=[.ptr 7 0,.ptr 11 0,.ptr 12 0,.ptr 10 0]) hcall
 refine CallSpec.yldN vE_ok mixed Qab (n:=75) (fn0:=0) (tm:=rgT size lim n w s v) (ps:=[62]) (assign:=rgA) (body:=rgB) (hs0:=[]) (hs1:=[(66,.call ⟨i6 0,ofOs .e 0 (ykC2 cards cs F size lim n w (upQ q (k+1) (v,p)) s (upT b v p x) B la pa v .busy (k+1)),18,[4,5,6,8,9,12,16]⟩)]) (m0:=1000) (m1:=1000) (sl0:=[(13,.ptr 13 0),(14,.ptr 14 0),(62,u6 (p:Nat))]) (sl1:=[(13,.ptr 13 0),(14,.ptr 14 0),(15,u6 (p:Nat))]) (by kernel_rfl) rfl rfl rfl ⟨rfl,rfl,rfl,trivial⟩ (Qgq p 15) ?_ (by decide) (Qip (os0:=ykC cards cs F size lim n w q s b B la pa v .ready k) (os1:=ykC2 cards cs F size lim n w (upQ q (k+1) (v,p)) s (upT b v p x) B la pa v .ready (k+1)) (by simp) (fun i hi hno=>?_)) (by kernel_rfl)
 ·refine Eq.mp (by kernel_rfl : (let z1 := O.loop .busy none 0 (rgT size lim n w s v) [62] rgA rgB; let z2 := upQ q (k + 1) (v, p); let z3 := [4, 5, 6, 8, 9, 12, 16]; let z0 := ofOs T.e 0 (ykC2 cards cs F size lim n w z2 s (upT b v p x) B la pa v .busy (k + 1)); An [CallSpec Pg g0 (V.fn 109 [V.ptr 7 0, V.ptr 11 0, V.ptr 12 0, V.ptr 10 0]) [i6 ↑v, u6 ↑p] (pt (ofOs T.e 0 (ykC cards cs F size lim n w q s b B la pa v .ready k)) 15 z1) 17 (CR.mk (i6 0) z0 18 z3), Tt, z0 = pt (ofOs T.e 0 (ykC2 cards cs F size lim n w z2 s (upT b v p x) B la pa v .ready (k + 1))) 15 z1, 18 = 18, ∀ (g : Nat), List.Mem g (z3 ++ [15]) → List.Mem g [4, 5, 6, 8, 9, 12, 16, 15]]) = _) ?_
  (repeat'(first|(with_reducible apply And.intro)|(refine fun(_:True)=>?_)))
  all_goals first|exact aq|exact hcall'|rfl|skip
 ·rcases(show i=0∨i=1∨i=2∨i=3∨i=4∨i=5∨i=6∨i=7∨i=8∨i=9∨i=10∨i=11∨i=12∨i=13∨i=14∨i=15∨i=16 by simp at hi;omega)with rfl|rfl|rfl|rfl|rfl|rfl|rfl|rfl|rfl|rfl|rfl|rfl|rfl|rfl|rfl|rfl|rfl<;>first|rfl|(simp at hno)
theorem yld_Dh(cards:List Int)(cs:List (List Int))(F:Nat→Nat→Nat→Int)(size lim n w:Nat)(q:Nat→Nat×Nat)(s:Nat)(b:BSt)(B:Nat→Nat→Int)(la pa:Nat→Nat)(v p t bt:Nat)(x:Nat→Int)(h:TryOk cards cs F size s b B v p t bt x)(k j:Nat)(hj:j<k+1)(hq:q j=(v,p))(hf:findS [true,true] [i6 (v:Nat),u6 (p:Nat)] (entM q (k+1)) 0=some (some (j,i6 (j:Nat)))):
  CallSpec Pg g0 (.yld 16) [u6 (p:Nat)] (ofOs .e 0 (ykD cards cs F size lim n w q s b B la pa v .ready k)) 18 ⟨.bool true,ofOs .e 0 (ykD cards cs F size lim n w q s (upT b v p x) B la pa v .ready k),18,[4,5,6,8,9,12,16]⟩:=by
 have hB:=Qaa (sB s b B) size
 have hB1:=Qaa (sB s (upT b v p x) B) size
 have hS:=Qaa (scF F q) (k+1)
 have hE:=Qac q (k+1)
 have hS0:=Qaa (scF F q) (k+1)
 have hE0:=Qac q (k+1)
 have hc:=Qae cards
 have hg:=Qas cs
 have hla:=Qah (sL s b la) size
 have hpa:=Qag (sP s b pa) size
 have hla1:=Qah (sL s (upT b v p x) la) size
 have hpa1:=Qag (sP s (upT b v p x) pa) size
 have hcall:CallSpec Pg g0 (.fn 109 []) (i6 (v:Nat)::u6 (p:Nat)::[.ptr 7 0,.ptr 11 0,.ptr 12 0,.ptr 10 0]) (ofOs .e 0 (ykD cards cs F size lim n w q s b B la pa v .busy k)) 18 ⟨i6 0,ofOs .e 0 (ykD cards cs F size lim n w q s (upT b v p x) B la pa v .busy k),18,[4,5,6,8,9,12]⟩:=
  CallSpec.frameL (OS:=ykD cards cs F size lim n w q s b B la pa v .busy k) (OS':=ykD cards cs F size lim n w q s (upT b v p x) B la pa v .busy k) [4,5,6,8,9,7,11,12,10,17] [(4,0),(5,1),(6,2),(8,3),(9,4),(7,5),(11,6),(12,7),(10,8),(17,9)] [0,0,1,0,0,1,0,0,1] [0,0,0,0,0,0,1,1,0,0,1,0,0,1,0] (Qm1 (la:=la) (pa:=pa) h hj hq hf) (by kernel_rfl) (by
   refine Eq.mp (by kernel_rfl:(An [Sm (↑v:Int),Sm (↑p:Int),Zz,Zz,Zz,Zz,Tt])=_) ?_
   (repeat'(first|(with_reducible apply And.intro)|(refine fun(_:True)=>?_)))<;>first|exact aq|skip) (by
   refine Eq.mp (by kernel_rfl:(let z5:=An [Zz,Sm size,Sm (size-size)];let z0:=bF (scF F q) (k+1);let z1:=nF (sL s b la) size;let z2:=uF (sP s b pa) size;let z3:=bF (sB s b B) size;let z4:=entM q (k+1);An [An [z3=z3,HfL z3],An [z4=z4,HfE z4,Sm (k+1)],An [An [Sm cards.length,Sm (ints cards)],An [Sm cs.length,Sm (List.map sl cs)],z5,Tt,An [Zz,Sm (k+1),Tt],Tt],An [z1=z1,HfL z1],An [z2=z2,HfL z2],An [Zz,Tt],An [Sm [i6 ↑s],Tt,Tt],An [Sm [V.bool (Qao b)],Tt,Tt],An [z5,z5,Tt],An [z0=z0,HfL z0],Tt])=_) ?_
   (repeat'(first|(with_reducible apply And.intro)|(refine fun(_:True)=>?_)))
   all_goals first|exact aq|exact hB|exact hB1|exact hS|exact hS0|exact hE|exact hE0|exact hla|exact hpa|exact hla1|exact hpa1|rfl|skip) (by
   refine Eq.mp (by kernel_rfl:(Sm (0:Int))=_) ?_
   (repeat'(first|(with_reducible apply And.intro)|(refine fun(_:True)=>?_)))<;>first|exact aq|skip) (by
   refine Eq.mp (by kernel_rfl:(let y5:=An [Zz,Sm size,Sm (size-size)];let z0:=ykD cards cs F size lim n w q s b B la pa v .busy k;let z1:=upT b v p x;let z2:=some (O.row 184 none [V.fn 109 [V.ptr 7 0,V.ptr 11 0,V.ptr 12 0,V.ptr 10 0]]);let z5:=bF (scF F q) (k+1);let z6:=some (O.row 32 none [sl cards,gC cs]);let z8:=some (O.row 77 none [V.nils,V.nils]);let z9:=some (lbO size lim n w s v .busy);let y0:=some (O.row 153 none [V.nilp]);let y1:=some (O.row 3 none [i6 ↑v]);let y2:=entM q (k+1);let y3:=some (O.row 36 none [i6 0]);let y4:=some (size-size);let z3:=nF (sL s z1 la) size;let z4:=uF (sP s z1 pa) size;let z7:=bF (sB s z1 B) size;An [z0[0]? =z6,z0[0]? =z6,z0[1]? =y0,z0[1]? =y0,z0[2]? =z8,z0[2]? =z8,z0[3]? =y3,z0[3]? =y3,Tt,An [z7=z7,HfL z7],Tt,An [y2=y2,HfE y2,Sm (k+1)],Tt,An [An [Sm cards.length,Sm (ints cards)],An [Sm cs.length,Sm (List.map sl cs)],y5,Tt,An [Zz,Sm (k+1),Tt],Tt],z0[7]? =some (O.row 153 none [V.ptr 6 0]),An [Zz,Tt],Tt,An [z3=z3,HfL z3],Tt,An [z4=z4,HfL z4],z0[10]? =some (O.row 77 none [V.sl 8 0 size y4,V.sl 9 0 size y4]),An [y5,y5,Tt],z0[11]? =some (O.row 3 none [i6 ↑s]),An [Sm [i6 ↑s],Tt,Tt],Tt,An [Sm [V.bool (Qao z1)],Tt,Tt],z0[13]? =z2,z0[13]? =z2,z0[14]? =y1,z0[14]? =y1,z0[15]? =some O.dead,Tt,z0[16]? =z9,z0[16]? =z9,z0[17]? =some (scO F q k),An [z5=z5,HfL z5],Tt])=_) ?_
   (repeat'(first|(with_reducible apply And.intro)|(refine fun(_:True)=>?_)))
   all_goals first|exact aq|exact hB|exact hB1|exact hS|exact hS0|exact hE|exact hE0|exact hla|exact hpa|exact hla1|exact hpa1|rfl|skip)
 have hcall':=CallSpec.caps (ars:=[i6 (v:Nat),u6 (p:Nat)]) (caps:=[.ptr 7 0,.ptr 11 0,.ptr 12 0,.ptr 10 0]) hcall
 refine CallSpec.yldN vE_ok mixed Qab (n:=75) (fn0:=0) (tm:=rgT size lim n w s v) (ps:=[62]) (assign:=rgA) (body:=rgB) (hs0:=[]) (hs1:=[(66,.call ⟨i6 0,ofOs .e 0 (ykD cards cs F size lim n w q s (upT b v p x) B la pa v .busy k),18,[4,5,6,8,9,12]⟩)]) (m0:=1000) (m1:=1000) (sl0:=[(13,.ptr 13 0),(14,.ptr 14 0),(62,u6 (p:Nat))]) (sl1:=[(13,.ptr 13 0),(14,.ptr 14 0),(15,u6 (p:Nat))]) (by kernel_rfl) rfl rfl rfl ⟨rfl,rfl,rfl,trivial⟩ (Qgq p 16) ?_ (by decide) (Qip (os0:=ykD cards cs F size lim n w q s b B la pa v .ready k) (os1:=ykD cards cs F size lim n w q s (upT b v p x) B la pa v .ready k) (by simp) (fun i hi hno=>?_)) (by kernel_rfl)
 ·refine Eq.mp (by kernel_rfl : (let z0 := ofOs T.e 0 (ykD cards cs F size lim n w q s (upT b v p x) B la pa v .busy k); let z1 := O.loop .busy none 0 (rgT size lim n w s v) [62] rgA rgB; An [CallSpec Pg g0 (V.fn 109 [V.ptr 7 0, V.ptr 11 0, V.ptr 12 0, V.ptr 10 0]) [i6 ↑v, u6 ↑p] (pt (ofOs T.e 0 (ykD cards cs F size lim n w q s b B la pa v .ready k)) 16 z1) 18 (CR.mk (i6 0) z0 18 [4, 5, 6, 8, 9, 12]), Tt, z0 = pt (ofOs T.e 0 (ykD cards cs F size lim n w q s (upT b v p x) B la pa v .ready k)) 16 z1, 18 = 18, ∀ (g : Nat), List.Mem g ([4, 5, 6, 8, 9, 12] ++ [16]) → List.Mem g [4, 5, 6, 8, 9, 12, 16]]) = _) ?_
  (repeat'(first|(with_reducible apply And.intro)|(refine fun(_:True)=>?_)))
  all_goals first|exact aq|exact hcall'|rfl|skip
 ·rcases(show i=0∨i=1∨i=2∨i=3∨i=4∨i=5∨i=6∨i=7∨i=8∨i=9∨i=10∨i=11∨i=12∨i=13∨i=14∨i=15∨i=16∨i=17 by simp at hi;omega)with rfl|rfl|rfl|rfl|rfl|rfl|rfl|rfl|rfl|rfl|rfl|rfl|rfl|rfl|rfl|rfl|rfl|rfl<;>first|rfl|(simp at hno)
theorem yld_Dm(cards:List Int)(cs:List (List Int))(F:Nat→Nat→Nat→Int)(size lim n w:Nat)(q:Nat→Nat×Nat)(s:Nat)(b:BSt)(B:Nat→Nat→Int)(la pa:Nat→Nat)(v p t bt:Nat)(x:Nat→Int)(h:TryOk cards cs F size s b B v p t bt x)(k:Nat)(hk:k≤1000000)(hf:findS [true,true] [i6 (v:Nat),u6 (p:Nat)] (entM q (k+1)) 0=some none):
  CallSpec Pg g0 (.yld 16) [u6 (p:Nat)] (ofOs .e 0 (ykD cards cs F size lim n w q s b B la pa v .ready k)) 18 ⟨.bool true,ofOs .e 0 (ykD2 cards cs F size lim n w (upQ q (k+1) (v,p)) s (upT b v p x) B la pa v .ready (k+1)),19,[4,5,6,8,9,12,17,16]⟩:=by
 have hB:=Qaa (sB s b B) size
 have hB1:=Qaa (sB s (upT b v p x) B) size
 have hS:=Qaa (scF F (upQ q (k+1) (v,p))) (k+1+1)
 have hE:=Qac (upQ q (k+1) (v,p)) (k+1+1)
 have hS0:=Qaa (scF F q) (k+1)
 have hE0:=Qac q (k+1)
 have hc:=Qae cards
 have hg:=Qas cs
 have hla:=Qah (sL s b la) size
 have hpa:=Qag (sP s b pa) size
 have hla1:=Qah (sL s (upT b v p x) la) size
 have hpa1:=Qag (sP s (upT b v p x) pa) size
 have hcall:CallSpec Pg g0 (.fn 109 []) (i6 (v:Nat)::u6 (p:Nat)::[.ptr 7 0,.ptr 11 0,.ptr 12 0,.ptr 10 0]) (ofOs .e 0 (ykD cards cs F size lim n w q s b B la pa v .busy k)) 18 ⟨i6 0,ofOs .e 0 (ykD2 cards cs F size lim n w (upQ q (k+1) (v,p)) s (upT b v p x) B la pa v .busy (k+1)),19,[4,5,6,8,9,12,17]⟩:=
  CallSpec.frameL (OS:=ykD cards cs F size lim n w q s b B la pa v .busy k) (OS':=ykD2 cards cs F size lim n w (upQ q (k+1) (v,p)) s (upT b v p x) B la pa v .busy (k+1)) [4,5,6,8,9,7,11,12,10,17] [(4,0),(5,1),(6,2),(8,3),(9,4),(7,5),(11,6),(12,7),(10,8),(17,9),(18,10)] [0,0,1,0,0,1,0,0,1] [0,0,0,0,0,0,1,1,0,0,1,0,0,1,0] (Qgy (q:=q) (la:=la) (pa:=pa) h hk hf) (by kernel_rfl) (by
   refine Eq.mp (by kernel_rfl:(An [Sm (↑v:Int),Sm (↑p:Int),Zz,Zz,Zz,Zz,Tt])=_) ?_
   (repeat'(first|(with_reducible apply And.intro)|(refine fun(_:True)=>?_)))<;>first|exact aq|skip) (by
   refine Eq.mp (by kernel_rfl:(let z5:=An [Zz,Sm size,Sm (size-size)];let z0:=bF (scF F q) (k+1);let z1:=nF (sL s b la) size;let z2:=uF (sP s b pa) size;let z3:=bF (sB s b B) size;let z4:=entM q (k+1);An [An [z3=z3,HfL z3],An [z4=z4,HfE z4,Sm (k+1)],An [An [Sm cards.length,Sm (ints cards)],An [Sm cs.length,Sm (List.map sl cs)],z5,Tt,An [Zz,Sm (k+1),Tt],Tt],An [z1=z1,HfL z1],An [z2=z2,HfL z2],An [Zz,Tt],An [Sm [i6 ↑s],Tt,Tt],An [Sm [V.bool (Qao b)],Tt,Tt],An [z5,z5,Tt],An [z0=z0,HfL z0],Tt])=_) ?_
   (repeat'(first|(with_reducible apply And.intro)|(refine fun(_:True)=>?_)))
   all_goals first|exact aq|exact hB|exact hB1|exact hS|exact hS0|exact hE|exact hE0|exact hla|exact hpa|exact hla1|exact hpa1|rfl|skip) (by
   refine Eq.mp (by kernel_rfl:(Sm (0:Int))=_) ?_
   (repeat'(first|(with_reducible apply And.intro)|(refine fun(_:True)=>?_)))<;>first|exact aq|skip) (by
   refine Eq.mp (by kernel_rfl:(let y6:=An [Zz,Sm size,Sm (size-size)];let z0:=ykD cards cs F size lim n w q s b B la pa v .busy k;let z1:=upT b v p x;let z2:=upQ q (k+1) (v,p);let z3:=some (O.row 184 none [V.fn 109 [V.ptr 7 0,V.ptr 11 0,V.ptr 12 0,V.ptr 10 0]]);let z7:=some (O.row 32 none [sl cards,gC cs]);let y0:=some (O.row 77 none [V.nils,V.nils]);let y1:=some (lbO size lim n w s v .busy);let y2:=some (O.row 153 none [V.nilp]);let y3:=some (O.row 3 none [i6 ↑v]);let y4:=some (O.row 36 none [i6 0]);let y5:=some (size-size);let z4:=bF (scF F z2) (k+1+1);let z5:=nF (sL s z1 la) size;let z6:=uF (sP s z1 pa) size;let z8:=bF (sB s z1 B) size;let z9:=entM z2 (k+1+1);An [z0[0]? =z7,z0[0]? =z7,z0[1]? =y2,z0[1]? =y2,z0[2]? =y0,z0[2]? =y0,z0[3]? =y4,z0[3]? =y4,Tt,An [z8=z8,HfL z8],Tt,An [z9=z9,HfE z9,Sm (k+1+1)],Tt,An [An [Sm cards.length,Sm (ints cards)],An [Sm cs.length,Sm (List.map sl cs)],y6,Tt,An [Zz,Sm (Nat.succ k+1),Tt],Tt],z0[7]? =some (O.row 153 none [V.ptr 6 0]),An [Zz,Tt],Tt,An [z5=z5,HfL z5],Tt,An [z6=z6,HfL z6],z0[10]? =some (O.row 77 none [V.sl 8 0 size y5,V.sl 9 0 size y5]),An [y6,y6,Tt],z0[11]? =some (O.row 3 none [i6 ↑s]),An [Sm [i6 ↑s],Tt,Tt],Tt,An [Sm [V.bool (Qao z1)],Tt,Tt],z0[13]? =z3,z0[13]? =z3,z0[14]? =y3,z0[14]? =y3,z0[15]? =some O.dead,Tt,z0[16]? =y1,z0[16]? =y1,Tt,Tt,Tt,An [z4=z4,HfL z4],Tt])=_) ?_
   (repeat'(first|(with_reducible apply And.intro)|(refine fun(_:True)=>?_)))
   all_goals first|exact aq|exact hB|exact hB1|exact hS|exact hS0|exact hE|exact hE0|exact hla|exact hpa|exact hla1|exact hpa1|rfl|skip)
 have hcall':=CallSpec.caps (ars:=[i6 (v:Nat),u6 (p:Nat)]) (caps:=[.ptr 7 0,.ptr 11 0,.ptr 12 0,.ptr 10 0]) hcall
 refine CallSpec.yldN vE_ok mixed Qab (n:=75) (fn0:=0) (tm:=rgT size lim n w s v) (ps:=[62]) (assign:=rgA) (body:=rgB) (hs0:=[]) (hs1:=[(66,.call ⟨i6 0,ofOs .e 0 (ykD2 cards cs F size lim n w (upQ q (k+1) (v,p)) s (upT b v p x) B la pa v .busy (k+1)),19,[4,5,6,8,9,12,17]⟩)]) (m0:=1000) (m1:=1000) (sl0:=[(13,.ptr 13 0),(14,.ptr 14 0),(62,u6 (p:Nat))]) (sl1:=[(13,.ptr 13 0),(14,.ptr 14 0),(15,u6 (p:Nat))]) (by kernel_rfl) rfl rfl rfl ⟨rfl,rfl,rfl,trivial⟩ (Qgq p 16) ?_ (by decide) (Qip (os0:=ykD cards cs F size lim n w q s b B la pa v .ready k) (os1:=ykD2 cards cs F size lim n w (upQ q (k+1) (v,p)) s (upT b v p x) B la pa v .ready (k+1)) (by simp) (fun i hi hno=>?_)) (by kernel_rfl)
 ·refine Eq.mp (by kernel_rfl : (let z1 := O.loop .busy none 0 (rgT size lim n w s v) [62] rgA rgB; let z2 := upQ q (k + 1) (v, p); let z3 := [4, 5, 6, 8, 9, 12, 17]; let z0 := ofOs T.e 0 (ykD2 cards cs F size lim n w z2 s (upT b v p x) B la pa v .busy (k + 1)); An [CallSpec Pg g0 (V.fn 109 [V.ptr 7 0, V.ptr 11 0, V.ptr 12 0, V.ptr 10 0]) [i6 ↑v, u6 ↑p] (pt (ofOs T.e 0 (ykD cards cs F size lim n w q s b B la pa v .ready k)) 16 z1) 18 (CR.mk (i6 0) z0 19 z3), Tt, z0 = pt (ofOs T.e 0 (ykD2 cards cs F size lim n w z2 s (upT b v p x) B la pa v .ready (k + 1))) 16 z1, 19 = 19, ∀ (g : Nat), List.Mem g (z3 ++ [16]) → List.Mem g [4, 5, 6, 8, 9, 12, 17, 16]]) = _) ?_
  (repeat'(first|(with_reducible apply And.intro)|(refine fun(_:True)=>?_)))
  all_goals first|exact aq|exact hcall'|rfl|skip
 ·rcases(show i=0∨i=1∨i=2∨i=3∨i=4∨i=5∨i=6∨i=7∨i=8∨i=9∨i=10∨i=11∨i=12∨i=13∨i=14∨i=15∨i=16∨i=17 by simp at hi;omega)with rfl|rfl|rfl|rfl|rfl|rfl|rfl|rfl|rfl|rfl|rfl|rfl|rfl|rfl|rfl|rfl|rfl|rfl<;>first|rfl|(simp at hno)
set_option maxHeartbeats 1000000
set_option maxRecDepth 100000
def nxM(p w:Nat):Nat:=(p+18446744073709551616-w)%18446744073709551616
def nxP(p w:Nat):Nat:=nxM p w&&& w
theorem nxP_all1: ∀w:Nat,w<32→∀p:Nat,p<32→(¬p&&& w=p∨(nxP p w<32∧nxP p w&&& w=nxP p w∧(nxP p w=0→p=w)∧(p≠w→p<nxP p w))):=by decide+kernel
theorem nxP_all2: ∀w:Nat,w<32→∀p:Nat,p<32→∀r:Nat,r<32→(¬p&&& w=p∨p=w∨nxP p w≤r∨r≤p∨¬r&&& w=r):=by decide+kernel
theorem nxP_all(w:Nat)(hw:w<32)(p:Nat)(hp:p<32)(h:p&&& w=p):nxP p w<32∧nxP p w&&& w=nxP p w∧(nxP p w=0→p=w)∧(p≠w→p<nxP p w∧∀r,r<nxP p w→p<r→¬r&&& w=r):=by
 rcases nxP_all1 w hw p hp with h'|⟨a,b,c,d⟩
 ·exact absurd h h'
 ·refine ⟨a, b, c, fun hne => ⟨d hne, fun r h1 h2 => ?_⟩⟩
  rcases nxP_all2 w hw p hp r (by omega)with h'|h'|h'|h'|h'
  ·exact absurd h h'
  ·exact absurd h' hne
  ·omega
  ·omega
  ·exact h'
theorem sub_rm0: ∀s:Nat,s<32→∀v:Nat,v<5→∀p:Nat,p<32→(s.testBit v=false∨(p&&& (s-2^v)=p↔p&&& s=p∧p.testBit v=false)):=by decide+kernel
theorem sub_rm(s:Nat)(hs:s<32)(v:Nat)(hv:v<5)(hb:s.testBit v=true)(p:Nat)(hp:p<32):p&&& (s-2^v)=p↔p&&& s=p∧p.testBit v=false:=by
 rcases sub_rm0 s hs v hv p hp with h|h
 ·rw[hb]at h;cases h
 ·exact h
theorem Qs2: ∀w:Nat,w<32→∀p:Nat,p<32→IntKind.u64.wrap (((p:Nat):Int)-((w:Nat):Int))=(nxM p w:Int)∧IntKind.u64.wrap ((BitVec.ofInt 64 (nxM p w:Int)&&& BitVec.ofInt 64 (w:Int)).toNat:Int)=(nxP p w:Int):=by decide+kernel
theorem nx_sub{w p:Nat}(hw:w<32)(hp:p<32)(G:Ctx)(t:Nat):binV G .sub t (u6 (p:Nat)) (u6 (w:Nat))=some (u6 (nxM p w:Nat)):=by
 have e:binV G .sub t (u6 (p:Nat)) (u6 (w:Nat))=some (.int .u64 (wr .u64 ((p:Int)-(w:Int)))):=rfl
 rw[e,wr_eq,(Qs2 w hw p hp).1]
theorem nx_and{w p:Nat}(hw:w<32)(hp:p<32)(G:Ctx)(t:Nat):binV G .and t (u6 (nxM p w:Nat)) (u6 (w:Nat))=some (u6 (nxP p w:Nat)):=by
 have e:binV G .and t (u6 (nxM p w:Nat)) (u6 (w:Nat))=some (.int .u64 (IntKind.u64.wrap ((BitVec.ofInt 64 (nxM p w:Int)&&& BitVec.ofInt 64 (w:Int)).toNat:Int))):=rfl
 rw[e,(Qs2 w hw p hp).2]
section
variable {lim s v:Nat} {q:Nat→Nat×Nat} {k:Nat} {F:Nat→Nat→Nat→Int} {B:Nat→Nat→Int} {b:BSt}
theorem Qf3{n:Nat}: ∀m,(∀r,n≤r→r<n+m→okT lim s v r=false)→innA lim s v q k (n+m)=innA lim s v q k n
 |0,_=>rfl
 |m+1,h=>by
  rw[←Nat.add_assoc,innA,if_neg (by rw[h (n+m) (by omega) (by omega)];decide),Qf3 m (fun r h1 h2=>h r h1 (by omega))]
theorem Qf4{n:Nat}: ∀m,(∀r,n≤r→r<n+m→okT lim s v r=false)→innB lim F B s v b (n+m)=innB lim F B s v b n
 |0,_=>rfl
 |m+1,h=>by
  rw[←Nat.add_assoc,innB,if_neg (by rw[h (n+m) (by omega) (by omega)];decide),Qf4 m (fun r h1 h2=>h r h1 (by omega))]
theorem Qdu(hs:s<32)(hv:v<5)(hb:s.testBit v=true){p:Nat}(hp:p<32):okT lim s v p=true↔p&&& (s-2^v)=p∧popc p≤lim:=by
 rw[Qbw,sub_rm s hs v hv hb p hp]
 exact and_assoc.symm
theorem Qs3(hs:s<32)(hv:v<5)(hb:s.testBit v=true){p:Nat}(h: ¬p&&& (s-2^v)=p):okT lim s v p=false:=by
 cases ho:okT lim s v p with
 |false=>rfl
 |true=>
  have h1:=(Qbw.1 ho).1
  have:p≤s:=by rw[←h1];exact Nat.and_le_right
  exact absurd ((Qdu hs hv hb (by omega)).1 ho).1 h
theorem Qol(hs:s<32)(hv:v<5)(hb:s.testBit v=true){p:Nat}(hp:p<32)(hsub:p&&& (s-2^v)=p):
  (p≠s-2^v→nxP p (s-2^v)<32∧nxP p (s-2^v)&&& (s-2^v)=nxP p (s-2^v)∧nxP p (s-2^v)≠0∧p<nxP p (s-2^v)∧nxP p (s-2^v)≤s-2^v∧innA lim s v q k (nxP p (s-2^v))=innA lim s v q k (p+1)∧innB lim F B s v b (nxP p (s-2^v))=innB lim F B s v b (p+1))∧
  (p=s-2^v→nxP p (s-2^v)=0∧innA lim s v q k (s+1)=innA lim s v q k (p+1)∧innB lim F B s v b (s+1)=innB lim F B s v b (p+1)):=by
 obtain⟨r1,_⟩:=Qbx s hs v hv hb
 have hp0:0<2^v:=Nat.pow_pos (by decide)
 obtain⟨a1,a2,a3,a4⟩:=nxP_all (s-2^v) (by omega) p hp hsub
 constructor
 ·intro hne
  obtain⟨b1,b2⟩:=a4 hne
  have h0:nxP p (s-2^v)≠0:=fun e=>hne (a3 e)
  have hle:nxP p (s-2^v)≤s-2^v:=by unfold nxP;exact Nat.and_le_right
  have hskip: ∀r,p+1≤r→r<(p+1)+(nxP p (s-2^v)-(p+1))→okT lim s v r=false:=fun r h1 h2=>Qs3 hs hv hb (b2 r (by omega) (by omega))
  have e:(p+1)+(nxP p (s-2^v)-(p+1))=nxP p (s-2^v):=by omega
  have e1:=Qf3 (q:=q) (k:=k) _ hskip
  have e2:=Qf4 (F:=F) (B:=B) (b:=b) _ hskip
  rw[e]at e1 e2
  exact⟨a1,a2,h0,b1,hle,e1,e2⟩
 ·intro he
  have hz:nxP p (s-2^v)=0:=by
   rw[←he]
   have:nxM p p=0:=by
    unfold nxM
    rw[show p+18446744073709551616-p=18446744073709551616 by omega]
   unfold nxP;rw[this,Nat.zero_and]
  have hp0:0<2^v:=Nat.pow_pos (by decide)
  have hskip: ∀r,p+1≤r→r<(p+1)+(s-p)→okT lim s v r=false:=fun r h1 h2=>Qs3 hs hv hb (fun h=>by
   have:r&&& (s-2^v)≤s-2^v:=Nat.and_le_right
   omega)
  have e:(p+1)+(s-p)=s+1:=by omega
  have e1:=Qf3 (q:=q) (k:=k) _ hskip
  have e2:=Qf4 (F:=F) (B:=B) (b:=b) _ hskip
  rw[e]at e1 e2
  exact⟨hz,e1,e2⟩
theorem Qio: ∀n,1≤n→okT lim s v 0=true→k=0→1≤innK lim s v q k n
 |0,h,_,_=>absurd h (by omega)
 |1,_,h,hk=>by
  subst hk
  unfold innK innA
  rw[if_pos h]
  dsimp only[innA]
  unfold askK hasQ
  simp
 |n+2,_,h,hk=>by
  have ih:=Qio (n+1) (by omega) h hk
  have:=Qds lim s v q k (n+1)
  show 1≤(innA lim s v q k (n+1+1)).2
  rw[innA]
  split
  ·exact Nat.le_trans ih (Qqw _ _ _).1
  ·exact ih
end
theorem Qiu(p:Nat)(hp:p<32):FnOk Pg g0 65 [u6 (p:Nat)] (i6 (popc p:Nat)):=by
 rcases(show p=0∨p=1∨p=2∨p=3∨p=4∨p=5∨p=6∨p=7∨p=8∨p=9∨p=10∨p=11∨p=12∨p=13∨p=14∨p=15∨p=16∨p=17∨p=18∨p=19∨p=20∨p=21∨p=22∨p=23∨p=24∨p=25∨p=26∨p=27∨p=28∨p=29∨p=30∨p=31 by omega)with rfl|rfl|rfl|rfl|rfl|rfl|rfl|rfl|rfl|rfl|rfl|rfl|rfl|rfl|rfl|rfl|rfl|rfl|rfl|rfl|rfl|rfl|rfl|rfl|rfl|rfl|rfl|rfl|rfl|rfl|rfl|rfl
 all_goals exact FnOk.of_run vE_ok mixed (n:=100000) rfl (by kernel_rfl)
set_option maxHeartbeats 4000000
set_option maxRecDepth 100000
def GoodB(b:BSt):Prop:=∀v p y,b=some (v,p,y)→inB y 1000
theorem GoodB.up{b:BSt}{v p:Nat}{x:Nat→Int}(h:GoodB b)(hx:inB x 1000):GoodB (upT b v p x):=by
 intro v' p' y e
 rcases b with _|⟨v0,p0,y0⟩
 ·cases e;exact hx
 ·unfold upT at e
  dsimp only at e
  split at e
  ·cases e;exact hx
  ·cases e;exact h _ _ _ rfl
structure Qdw(cards:List Int)(cs:List (List Int))(F:Nat→Nat→Nat→Int)(size lim s v:Nat)(B:Nat→Nat→Int):Prop where
 s32:s<32
 v5:v<5
 bit:s.testBit v=true
 bd: ∀p,inB (tryF F B s v p) 1000
 ok: ∀p b,okT lim s v p=true→GoodB b→TryOk cards cs F size s b B v p (s-2^v) (2^v) (tryF F B s v p)
abbrev prZ(hd lim w p:Nat):List (Nat×V):=[(0,.yld hd),(1,.imp [i6 (lim:Nat)]),(2,.imp [u6 (w:Nat)]),(4,u6 (p:Nat))]
section
variable (cards:List Int) (cs:List (List Int)) (F:Nat→Nat→Nat→Int) (size lim n:Nat) (s:Nat) (B:Nat→Nat→Int) (la pa:Nat→Nat) (v:Nat)
noncomputable abbrev kpaS(x:Nat×(Nat→Nat×Nat)×Nat×BSt):SL:={sl:=prZ 15 lim (s-2^v) x.1,os:=match x.2.2.1 with|0=>ykA cards cs size lim n (s-2^v) x.2.1 s x.2.2.2 B la pa v .ready|k+1=>ykC cards cs F size lim n (s-2^v) x.2.1 s x.2.2.2 B la pa v .ready k,md:=clM,lg:=[4,5,6,8,9,12,15]}
noncomputable abbrev kpbS(x:Nat×(Nat→Nat×Nat)×Nat×BSt×Bool):SL:={sl:=prZ 16 lim (s-2^v) x.1,os:=match x.2.2.2.2 with|false=>ykB cards cs F size lim n (s-2^v) x.2.1 s x.2.2.2.1 B la pa v .ready x.2.2.1|true=>ykD cards cs F size lim n (s-2^v) x.2.1 s x.2.2.2.1 B la pa v .ready x.2.2.1,md:=clM,lg:=[4,5,6,8,9,12,15,16]}
end
theorem Qmn(cards:List Int)(cs:List (List Int))(F:Nat→Nat→Nat→Int)(size lim n:Nat)(q:Nat→Nat×Nat)(s:Nat)(b:BSt)(B:Nat→Nat→Int)(la pa:Nat→Nat)(v:Nat)(h:Qdw cards cs F size lim s v B)(hG:GoodB b)(q1:Nat→Nat×Nat)(k1:Nat)(b1:BSt)(hfin:innA lim s v q 0 (s+1)=(q1,k1+1))(hb1:innB lim F B s v b (s+1)=b1):
  Sat Pg none 16 (at' 122 [1,0]) (mkSt g0 22 (kpaS cards cs F size lim n s B la pa v (0,q,0,b))) (Qaf g0 22 [(True,.ret,{sl:=[],os:=ykC cards cs F size lim n (s-2^v) q1 s b1 B la pa v .ready k1,md:=clM,lg:=[4,5,6,8,9,12,15]})]):=by
 have hs32:=h.s32
 have hv5:=h.v5
 have hvb:=h.bit
 obtain⟨hw,_⟩:=Qbx s hs32 v hv5 hvb
 have hp2:0<2^v:=Nat.pow_pos (by decide)
 have hl:=Qky size lim n (s-2^v) s v 16 (by decide)
 have hc:=Qae cards
 have hg:=Qas cs
 refine Qa2 vE_ok mixed Qab (b:=at' 122 [1,0,0]) (by kernel_rfl) (fun x=>x.1<32∧x.1&&& (s-2^v)=x.1∧(x.1≠0→1≤x.2.2.1)∧x.2.2.1≤10000+x.1∧innA lim s v q 0 x.1=(x.2.1,x.2.2.1)∧innB lim F B s v b x.1=x.2.2.2∧GoodB x.2.2.2) (kpaS cards cs F size lim n s B la pa v) (fun x=>32-x.1) (fun x hx=>?_) (0,q,0,b) ⟨(by show 0<32;decide),Nat.zero_and _,fun h=>absurd rfl h,Nat.zero_le _,rfl,rfl,hG⟩
 obtain⟨p,q',k',b'⟩:=x
 obtain⟨hp,hsub,hpos,hk,eA,eB,hG'⟩:=hx
 dsimp only at hp hsub hpos hk eA eB hG'
 have hnx:=Qol (lim:=lim) (q:=q) (k:=0) (F:=F) (B:=B) (b:=b) hs32 hv5 hvb hp hsub
 have hone:=Qiu p hp
 have hsu:=fun G t=>nx_sub (w:=s-2^v) (p:=p) (by omega) hp G t
 have han:=fun G t=>nx_and (w:=s-2^v) (p:=p) (by omega) hp G t
 have hple:p≤s-2^v:=by rw[←hsub];exact Nat.and_le_right
 by_cases hok:popc p≤lim
 ·have ho : okT lim s v p = true := (Qdu hs32 hv5 hvb hp).2 ⟨hsub, hok⟩
  have HT:=h.ok p b' ho hG'
  have hG2:=hG'.up (v:=v) (p:=p) (h.bd p)
  have eB2:innB lim F B s v b (p+1)=upT b' v p (tryF F B s v p):=by rw[innB,if_pos ho,eB]
  cases k' with
  | zero =>
   have hhas:hasQ q' 0 (v,p)=false:=rfl
   have hcall:=yld_A cards cs F size lim n (s-2^v) q' s b' B la pa v p (s-2^v) (2^v) (tryF F B s v p) HT
   have eA2:innA lim s v q 0 (p+1)=((upQ q' 0 (v,p)),(0+1)):=by
    rw[innA,if_pos ho,eA]
    unfold askQ askK
    rw[show hasQ q' 0 (v,p)=false from hhas]
    rfl
   have hB:=Qaa (sB s b' B) size
   have hB1:=Qaa (sB s (upT b' v p (tryF F B s v p)) B) size
   have hS:=Qaa (scF F (upQ q' 0 (v,p))) (0+1)
   have hE:=Qac (upQ q' 0 (v,p)) (0+1)
   have hS0:=Qaa (scF F q') 0
   have hE0:=Qac q' 0
   have hla:=Qah (sL s b' la) size
   have hpa:=Qag (sP s b' pa) size
   have hla1:=Qah (sL s (upT b' v p (tryF F B s v p)) la) size
   have hpa1:=Qag (sP s (upT b' v p (tryF F B s v p)) pa) size
   by_cases hlast:p=s-2^v
   ·skip
    obtain⟨i1,i6_,i7⟩:=hnx.2 hlast
    rw[i6_,eA2]at hfin
    rw[i7,eB2]at hb1
    obtain⟨f1,f2⟩:=Prod.mk.inj hfin
    have f3:=Nat.succ.inj f2
    subst hb1 f1 f3
    refine .inr ⟨.ret,[16],{sl:=[],os:=ykC cards cs F size lim n (s-2^v) (upQ q' 0 (v,p)) s (upT b' v p (tryF F B s v p)) B la pa v .ready 0,md:=clM,lg:=[4,5,6,8,9,12,15]},[fn 6 (i6 (popc p:Nat)),yes 8,(12,.call ⟨.bool true,ofOs .e 0 (ykC cards cs F size lim n (s-2^v) (upQ q' 0 (v,p)) s (upT b' v p (tryF F B s v p)) B la pa v .ready 0),17,[4,5,6,8,9,12,15]⟩),va 17 (u6 (nxM p (s-2^v):Nat)),va 19 (u6 (0:Nat)),yes 21],1000,by exact .inl ⟨trivial,rfl,rfl⟩,?_⟩
    rw[i1]at han
    clear hnx h HT
    refine Eq.mp (by kernel_rfl:(let y0:=An [Zz,Sm size,Sm (size-size)];let z0:=upT b' v p (tryF F B s v p);let z1:=ofOs T.e 0 (ykA cards cs size lim n (s-2^v) q' s b' B la pa v .ready);let z3:=upQ q' 0 (v,p);let z7:=u6 (↑(nxM p (s-2^v)):Int);let z8:=rgT size lim n (s-2^v) s v;let z9:=[u6 ↑p];let z2:=CR.mk (V.bool true) (ofOs T.e 0 (ykC cards cs F size lim n (s-2^v) z3 s z0 B la pa v .ready 0)) 17 [4,5,6,8,9,12,15];let z4:=nF (sL s z0 la) size;let z5:=uF (sP s z0 pa) size;let z6:=bF (sB s z0 B) size;An [An [Tt,Tt],FnOk Pg g0 65 z9 (i6 ↑(popc p)),Tt,decide ((↑(popc p):Int)≤(↑lim:Int))=true,CallSpec Pg g0 (V.yld 15) z9 z1 16 z2,An [(V.fn 65 []=V.yld 15→z9=z9→z1=z1→16=16→CR.mk (i6 ↑(popc p)) z1 16 []=z2),Tt],binV (Qad Pg) .sub 28 (u6 ↑p) (u6 ↑(s-2^v))=some z7,binV (Qad Pg) .and 28 z7 (u6 ↑(s-2^v))=some (u6 ↑(0:Nat)),((↑(0:Nat):Int)==(0:Int))=true,Tt,An [Sm [sl cards,gC cs],TT 2],An [Sm [V.nilp],Tt,Tt],An [Sm [V.nils,V.nils],TT 2],An [Sm [i6 0],Tt,Tt],An [z6=z6,HfL z6],An [Sm (entM z3 1),HfE (entM z3 1),1=1],An [An [Sm cards.length,Sm (ints cards)],An [Sm cs.length,Sm (List.map sl cs)],y0,Tt,An [Zz,1=1,Tt],Tt],An [Zz,Tt],An [z4=z4,HfL z4],An [z5=z5,HfL z5],An [y0,y0,Tt],An [Sm [i6 ↑s],Tt,Tt],An [Sm [V.bool (Qao z0)],Tt,Tt],An [An [Zz,Zz,Zz,Zz,Tt],Tt],An [Sm [i6 ↑v],Tt,Tt],An [lbO size lim n (s-2^v) s v .ready=O.loop .ready none 0 z8 [62] rgA rgB,LowT 16 z8],An [Sm (bF (scF F z3) 1),TT 18],Tt])=_) ?_
    (repeat'(first|(with_reducible apply And.intro)|(refine fun(_:True)=>?_)))
    all_goals first|(with_reducible exact hsu _ _)|(with_reducible exact han _ _)|exact aq|exact hone|exact hcall|exact hl|exact hB|exact hB1|exact hS|exact hS0|exact hE|exact hE0|exact hla|exact hpa|exact hla1|exact hpa1|exact hsu _ _|exact han _ _|rfl|skip
   ·skip
    obtain⟨i1,i2,i3,i4,i5,i6_,i7⟩:=hnx.1 hlast
    refine .inl ⟨(nxP p (s-2^v),(upQ q' 0 (v,p)),0+1,(upT b' v p (tryF F B s v p))),[16],[fn 6 (i6 (popc p:Nat)),yes 8,(12,.call ⟨.bool true,ofOs .e 0 (ykC cards cs F size lim n (s-2^v) (upQ q' 0 (v,p)) s (upT b' v p (tryF F B s v p)) B la pa v .ready 0),17,[4,5,6,8,9,12,15]⟩),va 17 (u6 (nxM p (s-2^v):Nat)),va 19 (u6 (nxP p (s-2^v):Nat)),no 21],1000,⟨i1,i2,fun _=>Nat.succ_le_succ (Nat.zero_le _),by dsimp only;omega,by rw[i6_];exact eA2,by rw[i7];exact eB2,hG2⟩,by dsimp only;omega,?_⟩
    clear hnx h HT
    refine Eq.mp (by kernel_rfl:(let y2:=An [Zz,Sm size,Sm (size-size)];let z0:=upT b' v p (tryF F B s v p);let z1:=ofOs T.e 0 (ykA cards cs size lim n (s-2^v) q' s b' B la pa v .ready);let z3:=(↑(nxP p (s-2^v)):Int);let z4:=upQ q' 0 (v,p);let z5:=u6 ↑(s-2^v);let z9:=u6 (↑(nxM p (s-2^v)):Int);let y0:=rgT size lim n (s-2^v) s v;let y1:=[u6 ↑p];let z2:=CR.mk (V.bool true) (ofOs T.e 0 (ykC cards cs F size lim n (s-2^v) z4 s z0 B la pa v .ready 0)) 17 [4,5,6,8,9,12,15];let z6:=nF (sL s z0 la) size;let z7:=uF (sP s z0 pa) size;let z8:=bF (sB s z0 B) size;An [An [Tt,Tt],FnOk Pg g0 65 y1 (i6 ↑(popc p)),Tt,decide ((↑(popc p):Int)≤(↑lim:Int))=true,CallSpec Pg g0 (V.yld 15) y1 z1 16 z2,An [(V.fn 65 []=V.yld 15→y1=y1→z1=z1→16=16→CR.mk (i6 ↑(popc p)) z1 16 []=z2),Tt],binV (Qad Pg) .sub 28 (u6 ↑p) z5=some z9,binV (Qad Pg) .and 28 z9 z5=some (u6 z3),(z3==(0:Int))=false,An [Tt,Sm [i6 ↑lim],Sm [z5],z3=z3,Tt],An [Sm [sl cards,gC cs],TT 2],An [Sm [V.nilp],Tt,Tt],An [Sm [V.nils,V.nils],TT 2],An [Sm [i6 0],Tt,Tt],An [z8=z8,HfL z8],An [Sm (entM z4 1),HfE (entM z4 1),1=1],An [An [Sm cards.length,Sm (ints cards)],An [Sm cs.length,Sm (List.map sl cs)],y2,Tt,An [Zz,1=1,Tt],Tt],An [Zz,Tt],An [z6=z6,HfL z6],An [z7=z7,HfL z7],An [y2,y2,Tt],An [Sm [i6 ↑s],Tt,Tt],An [Sm [V.bool (Qao z0)],Tt,Tt],An [An [Zz,Zz,Zz,Zz,Tt],Tt],An [Sm [i6 ↑v],Tt,Tt],An [lbO size lim n (s-2^v) s v .ready=O.loop .ready none 0 y0 [62] rgA rgB,LowT 16 y0],An [Sm (bF (scF F z4) 1),TT 18],Tt])=_) ?_
    (repeat'(first|(with_reducible apply And.intro)|(refine fun(_:True)=>?_)))
    all_goals first|(with_reducible exact hsu _ _)|(with_reducible exact han _ _)|exact aq|exact hone|exact hcall|exact hl|exact hB|exact hB1|exact hS|exact hS0|exact hE|exact hE0|exact hla|exact hpa|exact hla1|exact hpa1|exact hsu _ _|exact han _ _|rfl|skip
  | succ k =>
   rcases find_entM q' v p (k+1)with⟨j,hj,hq,hf⟩|⟨hq,hf⟩
   ·have hhas : hasQ q' (k + 1) (v, p) = true := Qc7.2 ⟨j, hj, hq⟩
    have hcall:=yld_Ch cards cs F size lim n (s-2^v) q' s b' B la pa v p (s-2^v) (2^v) (tryF F B s v p) HT k j hj hq hf
    have eA2:innA lim s v q 0 (p+1)=(q',(k+1)):=by
     rw[innA,if_pos ho,eA]
     unfold askQ askK
     rw[show hasQ q' (k+1) (v,p)=true from hhas]
     rfl
    have hB:=Qaa (sB s b' B) size
    have hB1:=Qaa (sB s (upT b' v p (tryF F B s v p)) B) size
    have hS:=Qaa (scF F q') (k+1)
    have hE:=Qac q' (k+1)
    have hS0:=Qaa (scF F q') (k+1)
    have hE0:=Qac q' (k+1)
    have hla:=Qah (sL s b' la) size
    have hpa:=Qag (sP s b' pa) size
    have hla1:=Qah (sL s (upT b' v p (tryF F B s v p)) la) size
    have hpa1:=Qag (sP s (upT b' v p (tryF F B s v p)) pa) size
    by_cases hlast:p=s-2^v
    ·skip
     obtain⟨i1,i6_,i7⟩:=hnx.2 hlast
     rw[i6_,eA2]at hfin
     rw[i7,eB2]at hb1
     obtain⟨f1,f2⟩:=Prod.mk.inj hfin
     have f3:=Nat.succ.inj f2
     subst hb1 f1 f3
     refine .inr ⟨.ret,[16],{sl:=[],os:=ykC cards cs F size lim n (s-2^v) q' s (upT b' v p (tryF F B s v p)) B la pa v .ready k,md:=clM,lg:=[4,5,6,8,9,12,15]},[fn 6 (i6 (popc p:Nat)),yes 8,(12,.call ⟨.bool true,ofOs .e 0 (ykC cards cs F size lim n (s-2^v) q' s (upT b' v p (tryF F B s v p)) B la pa v .ready k),17,[4,5,6,8,9,12,15]⟩),va 17 (u6 (nxM p (s-2^v):Nat)),va 19 (u6 (0:Nat)),yes 21],1000,by exact .inl ⟨trivial,rfl,rfl⟩,?_⟩
     rw[i1]at han
     clear hnx h HT
     refine Eq.mp (by kernel_rfl:(let y1:=An [Zz,Sm size,Sm (size-size)];let z0:=upT b' v p (tryF F B s v p);let z1:=ofOs T.e 0 (ykC cards cs F size lim n (s-2^v) q' s b' B la pa v .ready k);let z3:=bF (scF F q') (k+1);let z7:=u6 (↑(nxM p (s-2^v)):Int);let z8:=rgT size lim n (s-2^v) s v;let z9:=entM q' (k+1);let y0:=[u6 ↑p];let z2:=CR.mk (V.bool true) (ofOs T.e 0 (ykC cards cs F size lim n (s-2^v) q' s z0 B la pa v .ready k)) 17 [4,5,6,8,9,12,15];let z4:=nF (sL s z0 la) size;let z5:=uF (sP s z0 pa) size;let z6:=bF (sB s z0 B) size;An [An [Tt,Tt],FnOk Pg g0 65 y0 (i6 ↑(popc p)),Tt,decide ((↑(popc p):Int)≤(↑lim:Int))=true,CallSpec Pg g0 (V.yld 15) y0 z1 17 z2,An [(V.fn 65 []=V.yld 15→y0=y0→z1=z1→17=17→CR.mk (i6 ↑(popc p)) z1 17 []=z2),Tt],binV (Qad Pg) .sub 28 (u6 ↑p) (u6 ↑(s-2^v))=some z7,binV (Qad Pg) .and 28 z7 (u6 ↑(s-2^v))=some (u6 ↑(0:Nat)),((↑(0:Nat):Int)==(0:Int))=true,Tt,An [Sm [sl cards,gC cs],TT 2],An [Sm [V.nilp],Tt,Tt],An [Sm [V.nils,V.nils],TT 2],An [Sm [i6 0],Tt,Tt],An [z6=z6,HfL z6],An [z9=z9,HfE z9,Sm (k+1)],An [An [Sm cards.length,Sm (ints cards)],An [Sm cs.length,Sm (List.map sl cs)],y1,Tt,An [Zz,Sm (k+1),Tt],Tt],An [Zz,Tt],An [z4=z4,HfL z4],An [z5=z5,HfL z5],An [y1,y1,Tt],An [Sm [i6 ↑s],Tt,Tt],An [Sm [V.bool (Qao z0)],Tt,Tt],An [An [Zz,Zz,Zz,Zz,Tt],Tt],An [Sm [i6 ↑v],Tt,Tt],An [lbO size lim n (s-2^v) s v .ready=O.loop .ready none 0 z8 [62] rgA rgB,LowT 16 z8],An [z3=z3,HfL z3],Tt])=_) ?_
     (repeat'(first|(with_reducible apply And.intro)|(refine fun(_:True)=>?_)))
     all_goals first|(with_reducible exact hsu _ _)|(with_reducible exact han _ _)|exact aq|exact hone|exact hcall|exact hl|exact hB|exact hB1|exact hS|exact hS0|exact hE|exact hE0|exact hla|exact hpa|exact hla1|exact hpa1|exact hsu _ _|exact han _ _|rfl|skip
    ·skip
     obtain⟨i1,i2,i3,i4,i5,i6_,i7⟩:=hnx.1 hlast
     refine .inl ⟨(nxP p (s-2^v),q',k+1,(upT b' v p (tryF F B s v p))),[16],[fn 6 (i6 (popc p:Nat)),yes 8,(12,.call ⟨.bool true,ofOs .e 0 (ykC cards cs F size lim n (s-2^v) q' s (upT b' v p (tryF F B s v p)) B la pa v .ready k),17,[4,5,6,8,9,12,15]⟩),va 17 (u6 (nxM p (s-2^v):Nat)),va 19 (u6 (nxP p (s-2^v):Nat)),no 21],1000,⟨i1,i2,fun _=>Nat.succ_le_succ (Nat.zero_le _),by dsimp only;omega,by rw[i6_];exact eA2,by rw[i7];exact eB2,hG2⟩,by dsimp only;omega,?_⟩
     clear hnx h HT
     refine Eq.mp (by kernel_rfl:(let y3:=An [Zz,Sm size,Sm (size-size)];let z0:=upT b' v p (tryF F B s v p);let z1:=ofOs T.e 0 (ykC cards cs F size lim n (s-2^v) q' s b' B la pa v .ready k);let z3:=(↑(nxP p (s-2^v)):Int);let z4:=u6 ↑(s-2^v);let z5:=bF (scF F q') (k+1);let z9:=u6 (↑(nxM p (s-2^v)):Int);let y0:=rgT size lim n (s-2^v) s v;let y1:=entM q' (k+1);let y2:=[u6 ↑p];let z2:=CR.mk (V.bool true) (ofOs T.e 0 (ykC cards cs F size lim n (s-2^v) q' s z0 B la pa v .ready k)) 17 [4,5,6,8,9,12,15];let z6:=nF (sL s z0 la) size;let z7:=uF (sP s z0 pa) size;let z8:=bF (sB s z0 B) size;An [An [Tt,Tt],FnOk Pg g0 65 y2 (i6 ↑(popc p)),Tt,decide ((↑(popc p):Int)≤(↑lim:Int))=true,CallSpec Pg g0 (V.yld 15) y2 z1 17 z2,An [(V.fn 65 []=V.yld 15→y2=y2→z1=z1→17=17→CR.mk (i6 ↑(popc p)) z1 17 []=z2),Tt],binV (Qad Pg) .sub 28 (u6 ↑p) z4=some z9,binV (Qad Pg) .and 28 z9 z4=some (u6 z3),(z3==(0:Int))=false,An [Tt,Sm [i6 ↑lim],Sm [z4],z3=z3,Tt],An [Sm [sl cards,gC cs],TT 2],An [Sm [V.nilp],Tt,Tt],An [Sm [V.nils,V.nils],TT 2],An [Sm [i6 0],Tt,Tt],An [z8=z8,HfL z8],An [y1=y1,HfE y1,Sm (k+1)],An [An [Sm cards.length,Sm (ints cards)],An [Sm cs.length,Sm (List.map sl cs)],y3,Tt,An [Zz,Sm (k+1),Tt],Tt],An [Zz,Tt],An [z6=z6,HfL z6],An [z7=z7,HfL z7],An [y3,y3,Tt],An [Sm [i6 ↑s],Tt,Tt],An [Sm [V.bool (Qao z0)],Tt,Tt],An [An [Zz,Zz,Zz,Zz,Tt],Tt],An [Sm [i6 ↑v],Tt,Tt],An [lbO size lim n (s-2^v) s v .ready=O.loop .ready none 0 y0 [62] rgA rgB,LowT 16 y0],An [z5=z5,HfL z5],Tt])=_) ?_
     (repeat'(first|(with_reducible apply And.intro)|(refine fun(_:True)=>?_)))
     all_goals first|(with_reducible exact hsu _ _)|(with_reducible exact han _ _)|exact aq|exact hone|exact hcall|exact hl|exact hB|exact hB1|exact hS|exact hS0|exact hE|exact hE0|exact hla|exact hpa|exact hla1|exact hpa1|exact hsu _ _|exact han _ _|rfl|skip
   ·have hhas : hasQ q' (k + 1) (v, p) = false := by
     cases hh:hasQ q' (k+1) (v,p)with
     |false=>rfl
     |true=>obtain⟨j,h1,h2⟩:=Qc7.1 hh;exact absurd h2 (hq j h1)
    have hcall:=yld_Cm cards cs F size lim n (s-2^v) q' s b' B la pa v p (s-2^v) (2^v) (tryF F B s v p) HT k (by omega) hf
    have eA2:innA lim s v q 0 (p+1)=((upQ q' (k+1) (v,p)),(k+1+1)):=by
     rw[innA,if_pos ho,eA]
     unfold askQ askK
     rw[show hasQ q' (k+1) (v,p)=false from hhas]
     rfl
    have hB:=Qaa (sB s b' B) size
    have hB1:=Qaa (sB s (upT b' v p (tryF F B s v p)) B) size
    have hS:=Qaa (scF F (upQ q' (k+1) (v,p))) (k+1+1)
    have hE:=Qac (upQ q' (k+1) (v,p)) (k+1+1)
    have hS0:=Qaa (scF F q') (k+1)
    have hE0:=Qac q' (k+1)
    have hla:=Qah (sL s b' la) size
    have hpa:=Qag (sP s b' pa) size
    have hla1:=Qah (sL s (upT b' v p (tryF F B s v p)) la) size
    have hpa1:=Qag (sP s (upT b' v p (tryF F B s v p)) pa) size
    by_cases hlast:p=s-2^v
    ·skip
     obtain⟨i1,i6_,i7⟩:=hnx.2 hlast
     rw[i6_,eA2]at hfin
     rw[i7,eB2]at hb1
     obtain⟨f1,f2⟩:=Prod.mk.inj hfin
     have f3:=Nat.succ.inj f2
     subst hb1 f1 f3
     refine .inr ⟨.ret,[17],{sl:=[],os:=ykC cards cs F size lim n (s-2^v) (upQ q' (k+1) (v,p)) s (upT b' v p (tryF F B s v p)) B la pa v .ready (k+1),md:=clM,lg:=[4,5,6,8,9,12,15]},[fn 6 (i6 (popc p:Nat)),yes 8,(12,.call ⟨.bool true,ofOs .e 0 (ykC2 cards cs F size lim n (s-2^v) (upQ q' (k+1) (v,p)) s (upT b' v p (tryF F B s v p)) B la pa v .ready (k+1)),18,[4,5,6,8,9,12,16,15]⟩),va 17 (u6 (nxM p (s-2^v):Nat)),va 19 (u6 (0:Nat)),yes 21],1000,by exact .inl ⟨trivial,rfl,rfl⟩,?_⟩
     rw[i1]at han
     clear hnx h HT
     refine Eq.mp (by kernel_rfl:(let y2:=An [Zz,Sm size,Sm (size-size)];let z0:=upT b' v p (tryF F B s v p);let z1:=ofOs T.e 0 (ykC cards cs F size lim n (s-2^v) q' s b' B la pa v .ready k);let z3:=upQ q' (k+1) (v,p);let z9:=u6 (↑(nxM p (s-2^v)):Int);let y0:=rgT size lim n (s-2^v) s v;let y1:=[u6 ↑p];let z2:=CR.mk (V.bool true) (ofOs T.e 0 (ykC2 cards cs F size lim n (s-2^v) z3 s z0 B la pa v .ready (k+1))) 18 [4,5,6,8,9,12,16,15];let z4:=bF (scF F z3) (k+1+1);let z5:=nF (sL s z0 la) size;let z6:=uF (sP s z0 pa) size;let z7:=bF (sB s z0 B) size;let z8:=entM z3 (k+1+1);An [An [Tt,Tt],FnOk Pg g0 65 y1 (i6 ↑(popc p)),Tt,decide ((↑(popc p):Int)≤(↑lim:Int))=true,CallSpec Pg g0 (V.yld 15) y1 z1 17 z2,An [(V.fn 65 []=V.yld 15→y1=y1→z1=z1→17=17→CR.mk (i6 ↑(popc p)) z1 17 []=z2),Tt],binV (Qad Pg) .sub 28 (u6 ↑p) (u6 ↑(s-2^v))=some z9,binV (Qad Pg) .and 28 z9 (u6 ↑(s-2^v))=some (u6 ↑(0:Nat)),((↑(0:Nat):Int)==(0:Int))=true,Tt,An [Sm [sl cards,gC cs],TT 2],An [Sm [V.nilp],Tt,Tt],An [Sm [V.nils,V.nils],TT 2],An [Sm [i6 0],Tt,Tt],An [z7=z7,HfL z7],An [z8=z8,HfE z8,Sm (k+1+1)],An [An [Sm cards.length,Sm (ints cards)],An [Sm cs.length,Sm (List.map sl cs)],y2,Tt,An [Zz,Sm (Nat.succ k+1),Tt],Tt],An [Zz,Tt],An [z5=z5,HfL z5],An [z6=z6,HfL z6],An [y2,y2,Tt],An [Sm [i6 ↑s],Tt,Tt],An [Sm [V.bool (Qao z0)],Tt,Tt],An [An [Zz,Zz,Zz,Zz,Tt],Tt],An [Sm [i6 ↑v],Tt,Tt],An [lbO size lim n (s-2^v) s v .ready=O.loop .ready none 0 y0 [62] rgA rgB,LowT 16 y0],An [z4=z4,HfL z4],Tt])=_) ?_
     (repeat'(first|(with_reducible apply And.intro)|(refine fun(_:True)=>?_)))
     all_goals first|(with_reducible exact hsu _ _)|(with_reducible exact han _ _)|exact aq|exact hone|exact hcall|exact hl|exact hB|exact hB1|exact hS|exact hS0|exact hE|exact hE0|exact hla|exact hpa|exact hla1|exact hpa1|exact hsu _ _|exact han _ _|rfl|skip
    ·skip
     obtain⟨i1,i2,i3,i4,i5,i6_,i7⟩:=hnx.1 hlast
     refine .inl ⟨(nxP p (s-2^v),(upQ q' (k+1) (v,p)),(k+1)+1,(upT b' v p (tryF F B s v p))),[17],[fn 6 (i6 (popc p:Nat)),yes 8,(12,.call ⟨.bool true,ofOs .e 0 (ykC2 cards cs F size lim n (s-2^v) (upQ q' (k+1) (v,p)) s (upT b' v p (tryF F B s v p)) B la pa v .ready (k+1)),18,[4,5,6,8,9,12,16,15]⟩),va 17 (u6 (nxM p (s-2^v):Nat)),va 19 (u6 (nxP p (s-2^v):Nat)),no 21],1000,⟨i1,i2,fun _=>Nat.succ_le_succ (Nat.zero_le _),by dsimp only;omega,by rw[i6_];exact eA2,by rw[i7];exact eB2,hG2⟩,by dsimp only;omega,?_⟩
     clear hnx h HT
     refine Eq.mp (by kernel_rfl:(let y4:=An [Zz,Sm size,Sm (size-size)];let z0:=upT b' v p (tryF F B s v p);let z1:=ofOs T.e 0 (ykC cards cs F size lim n (s-2^v) q' s b' B la pa v .ready k);let z3:=upQ q' (k+1) (v,p);let z4:=(↑(nxP p (s-2^v)):Int);let z5:=u6 ↑(s-2^v);let z6:=Nat.succ k;let y0:=u6 (↑(nxM p (s-2^v)):Int);let y1:=rgT size lim n (s-2^v) s v;let y3:=[u6 ↑p];let z2:=CR.mk (V.bool true) (ofOs T.e 0 (ykC2 cards cs F size lim n (s-2^v) z3 s z0 B la pa v .ready (k+1))) 18 [4,5,6,8,9,12,16,15];let z7:=nF (sL s z0 la) size;let z8:=uF (sP s z0 pa) size;let z9:=bF (sB s z0 B) size;let y2:=bF (scF F z3) (z6+1);An [An [Tt,Tt],FnOk Pg g0 65 y3 (i6 ↑(popc p)),Tt,decide ((↑(popc p):Int)≤(↑lim:Int))=true,CallSpec Pg g0 (V.yld 15) y3 z1 17 z2,An [(V.fn 65 []=V.yld 15→y3=y3→z1=z1→17=17→CR.mk (i6 ↑(popc p)) z1 17 []=z2),Tt],binV (Qad Pg) .sub 28 (u6 ↑p) z5=some y0,binV (Qad Pg) .and 28 y0 z5=some (u6 z4),(z4==(0:Int))=false,An [Tt,Sm [i6 ↑lim],Sm [z5],z4=z4,Tt],An [Sm [sl cards,gC cs],TT 2],An [Sm [V.nilp],Tt,Tt],An [Sm [V.nils,V.nils],TT 2],An [Sm [i6 0],Tt,Tt],An [z9=z9,HfL z9],An [entM z3 (z6+1)=entM z3 (k+1+1),HfE (entM z3 (z6+1)),z6+1=k+1+1],An [An [Sm cards.length,Sm (ints cards)],An [Sm cs.length,Sm (List.map sl cs)],y4,Tt,An [Zz,Sm (z6+1),Tt],Tt],An [Zz,Tt],An [z7=z7,HfL z7],An [z8=z8,HfL z8],An [y4,y4,Tt],An [Sm [i6 ↑s],Tt,Tt],An [Sm [V.bool (Qao z0)],Tt,Tt],An [An [Zz,Zz,Zz,Zz,Tt],Tt],An [Sm [i6 ↑v],Tt,Tt],An [lbO size lim n (s-2^v) s v .ready=O.loop .ready none 0 y1 [62] rgA rgB,LowT 16 y1],An [y2=bF (scF F z3) (k+1+1),HfL y2],Tt])=_) ?_
     (repeat'(first|(with_reducible apply And.intro)|(refine fun(_:True)=>?_)))
     all_goals first|(with_reducible exact hsu _ _)|(with_reducible exact han _ _)|exact aq|exact hone|exact hcall|exact hl|exact hB|exact hB1|exact hS|exact hS0|exact hE|exact hE0|exact hla|exact hpa|exact hla1|exact hpa1|exact hsu _ _|exact han _ _|rfl|skip
 ·have ho : ¬ okT lim s v p = true := fun h' => hok ((Qdu hs32 hv5 hvb hp).1 h').2
  have HT:=trivial
  have hcall:=trivial
  have hG2:=hG'
  have eB2:innB lim F B s v b (p+1)=b':=by rw[innB,if_neg ho,eB]
  cases k' with
  |zero=>
   have hp0:p=0:=Nat.eq_zero_of_not_pos (fun h'=>by have:=hpos (by omega);omega)
   subst hp0
   exact absurd (Nat.zero_le _) hok
  | succ k =>
   have eA2:innA lim s v q 0 (p+1)=(q',k+1):=by rw[innA,if_neg ho,eA]
   have hB:=Qaa (sB s b' B) size
   have hB1:=Qaa (sB s b' B) size
   have hS:=Qaa (scF F q') (k+1)
   have hE:=Qac q' (k+1)
   have hS0:=Qaa (scF F q') (k+1)
   have hE0:=Qac q' (k+1)
   have hla:=Qah (sL s b' la) size
   have hpa:=Qag (sP s b' pa) size
   have hla1:=Qah (sL s b' la) size
   have hpa1:=Qag (sP s b' pa) size
   by_cases hlast:p=s-2^v
   ·skip
    obtain⟨i1,i6_,i7⟩:=hnx.2 hlast
    rw[i6_,eA2]at hfin
    rw[i7,eB2]at hb1
    obtain⟨f1,f2⟩:=Prod.mk.inj hfin
    have f3:=Nat.succ.inj f2
    subst hb1 f1 f3
    refine .inr ⟨.ret,[16],{sl:=[],os:=ykC cards cs F size lim n (s-2^v) q' s b' B la pa v .ready k,md:=clM,lg:=[4,5,6,8,9,12,15]},[fn 6 (i6 (popc p:Nat)),no 8,va 17 (u6 (nxM p (s-2^v):Nat)),va 19 (u6 (0:Nat)),yes 21],1000,by exact .inl ⟨trivial,rfl,rfl⟩,?_⟩
    rw[i1]at han
    clear hnx h HT
    refine Eq.mp (by kernel_rfl:(let z7:=An [Zz,Sm size,Sm (size-size)];let z0:=bF (scF F q') (k+1);let z1:=nF (sL s b' la) size;let z2:=uF (sP s b' pa) size;let z3:=bF (sB s b' B) size;let z4:=u6 (↑(nxM p (s-2^v)):Int);let z5:=rgT size lim n (s-2^v) s v;let z6:=entM q' (k+1);An [An [Tt,Tt],FnOk Pg g0 65 [u6 ↑p] (i6 ↑(popc p)),Tt,decide ((↑(popc p):Int)≤(↑lim:Int))=false,binV (Qad Pg) .sub 28 (u6 ↑p) (u6 ↑(s-2^v))=some z4,binV (Qad Pg) .and 28 z4 (u6 ↑(s-2^v))=some (u6 ↑(0:Nat)),((↑(0:Nat):Int)==(0:Int))=true,Tt,An [Sm [sl cards,gC cs],TT 2],An [Sm [V.nilp],Tt,Tt],An [Sm [V.nils,V.nils],TT 2],An [Sm [i6 0],Tt,Tt],An [z3=z3,HfL z3],An [z6=z6,HfE z6,Sm (k+1)],An [An [Sm cards.length,Sm (ints cards)],An [Sm cs.length,Sm (List.map sl cs)],z7,Tt,An [Zz,Sm (k+1),Tt],Tt],An [Zz,Tt],An [z1=z1,HfL z1],An [z2=z2,HfL z2],An [z7,z7,Tt],An [Sm [i6 ↑s],Tt,Tt],An [Sm [V.bool (Qao b')],Tt,Tt],An [An [Zz,Zz,Zz,Zz,Tt],Tt],An [Sm [i6 ↑v],Tt,Tt],An [lbO size lim n (s-2^v) s v .ready=O.loop .ready none 0 z5 [62] rgA rgB,LowT 16 z5],An [z0=z0,HfL z0],Tt])=_) ?_
    (repeat'(first|(with_reducible apply And.intro)|(refine fun(_:True)=>?_)))
    all_goals first|(with_reducible exact hsu _ _)|(with_reducible exact han _ _)|exact aq|exact hone|exact hcall|exact hl|exact hB|exact hB1|exact hS|exact hS0|exact hE|exact hE0|exact hla|exact hpa|exact hla1|exact hpa1|exact hsu _ _|exact han _ _|rfl|skip
   ·skip
    obtain⟨i1,i2,i3,i4,i5,i6_,i7⟩:=hnx.1 hlast
    refine .inl ⟨(nxP p (s-2^v),q',k+1,b'),[16],[fn 6 (i6 (popc p:Nat)),no 8,va 17 (u6 (nxM p (s-2^v):Nat)),va 19 (u6 (nxP p (s-2^v):Nat)),no 21],1000,⟨i1,i2,fun _=>Nat.succ_le_succ (Nat.zero_le _),by dsimp only;omega,by rw[i6_];exact eA2,by rw[i7];exact eB2,hG2⟩,by dsimp only;omega,?_⟩
    clear hnx h HT
    refine Eq.mp (by kernel_rfl:(let z9:=An [Zz,Sm size,Sm (size-size)];let z0:=(↑(nxP p (s-2^v)):Int);let z1:=u6 ↑(s-2^v);let z2:=bF (scF F q') (k+1);let z3:=nF (sL s b' la) size;let z4:=uF (sP s b' pa) size;let z5:=bF (sB s b' B) size;let z6:=u6 (↑(nxM p (s-2^v)):Int);let z7:=rgT size lim n (s-2^v) s v;let z8:=entM q' (k+1);An [An [Tt,Tt],FnOk Pg g0 65 [u6 ↑p] (i6 ↑(popc p)),Tt,decide ((↑(popc p):Int)≤(↑lim:Int))=false,binV (Qad Pg) .sub 28 (u6 ↑p) z1=some z6,binV (Qad Pg) .and 28 z6 z1=some (u6 z0),(z0==(0:Int))=false,An [Tt,Sm [i6 ↑lim],Sm [z1],z0=z0,Tt],An [Sm [sl cards,gC cs],TT 2],An [Sm [V.nilp],Tt,Tt],An [Sm [V.nils,V.nils],TT 2],An [Sm [i6 0],Tt,Tt],An [z5=z5,HfL z5],An [z8=z8,HfE z8,Sm (k+1)],An [An [Sm cards.length,Sm (ints cards)],An [Sm cs.length,Sm (List.map sl cs)],z9,Tt,An [Zz,Sm (k+1),Tt],Tt],An [Zz,Tt],An [z3=z3,HfL z3],An [z4=z4,HfL z4],An [z9,z9,Tt],An [Sm [i6 ↑s],Tt,Tt],An [Sm [V.bool (Qao b')],Tt,Tt],An [An [Zz,Zz,Zz,Zz,Tt],Tt],An [Sm [i6 ↑v],Tt,Tt],An [lbO size lim n (s-2^v) s v .ready=O.loop .ready none 0 z7 [62] rgA rgB,LowT 16 z7],An [z2=z2,HfL z2],Tt])=_) ?_
    (repeat'(first|(with_reducible apply And.intro)|(refine fun(_:True)=>?_)))
    all_goals first|(with_reducible exact hsu _ _)|(with_reducible exact han _ _)|exact aq|exact hone|exact hcall|exact hl|exact hB|exact hB1|exact hS|exact hS0|exact hE|exact hE0|exact hla|exact hpa|exact hla1|exact hpa1|exact hsu _ _|exact han _ _|rfl|skip
theorem Qgj(cards:List Int)(cs:List (List Int))(F:Nat→Nat→Nat→Int)(size lim n:Nat)(q:Nat→Nat×Nat)(s:Nat)(b:BSt)(B:Nat→Nat→Int)(la pa:Nat→Nat)(v:Nat)(k0:Nat)(hk0:k0≤10000)(h:Qdw cards cs F size lim s v B)(hG:GoodB b)(q1:Nat→Nat×Nat)(k1:Nat)(b1:BSt)(hfin:innA lim s v q (k0+1) (s+1)=(q1,k1+1))(hb1:innB lim F B s v b (s+1)=b1):
  Sat Pg none 17 (at' 122 [1,0]) (mkSt g0 22 (kpbS cards cs F size lim n s B la pa v (0,q,k0,b,false))) (Qaf g0 22 [(k1=k0,.ret,{sl:=[],os:=ykB cards cs F size lim n (s-2^v) q1 s b1 B la pa v .ready k1,md:=clM,lg:=[4,5,6,8,9,12,15,16]}),(k1≠k0,.ret,{sl:=[],os:=ykD cards cs F size lim n (s-2^v) q1 s b1 B la pa v .ready k1,md:=clM,lg:=[4,5,6,8,9,12,15,16]})]):=by
 have hs32:=h.s32
 have hv5:=h.v5
 have hvb:=h.bit
 obtain⟨hw,_⟩:=Qbx s hs32 v hv5 hvb
 have hp2:0<2^v:=Nat.pow_pos (by decide)
 have hl:=Qky size lim n (s-2^v) s v 17 (by decide)
 have hc:=Qae cards
 have hg:=Qas cs
 refine Qa2 vE_ok mixed Qab (b:=at' 122 [1,0,0]) (by kernel_rfl) (fun x=>x.1<32∧x.1&&& (s-2^v)=x.1∧x.2.2.1≤10000+x.1∧innA lim s v q (k0+1) x.1=(x.2.1,x.2.2.1+1)∧innB lim F B s v b x.1=x.2.2.2.1∧GoodB x.2.2.2.1∧(if x.2.2.2.2 then x.2.2.1≠k0 else x.2.2.1=k0)) (kpbS cards cs F size lim n s B la pa v) (fun x=>32-x.1) (fun x hx=>?_) (0,q,k0,b,false) ⟨(by show 0<32;decide),Nat.zero_and _,by dsimp only;omega,rfl,rfl,hG,rfl⟩
 obtain⟨p,q',k,b',fl⟩:=x
 obtain⟨hp,hsub,hk,eA,eB,hG',hm⟩:=hx
 dsimp only at hp hsub hk eA eB hG' hm
 have hnx:=Qol (lim:=lim) (q:=q) (k:=(k0+1)) (F:=F) (B:=B) (b:=b) hs32 hv5 hvb hp hsub
 have hone:=Qiu p hp
 have hsu:=fun G t=>nx_sub (w:=s-2^v) (p:=p) (by omega) hp G t
 have han:=fun G t=>nx_and (w:=s-2^v) (p:=p) (by omega) hp G t
 have hple:p≤s-2^v:=by rw[←hsub];exact Nat.and_le_right
 by_cases hok:popc p≤lim
 ·have ho : okT lim s v p = true := (Qdu hs32 hv5 hvb hp).2 ⟨hsub, hok⟩
  have HT:=h.ok p b' ho hG'
  have hG2:=hG'.up (v:=v) (p:=p) (h.bd p)
  have eB2:innB lim F B s v b (p+1)=upT b' v p (tryF F B s v p):=by rw[innB,if_pos ho,eB]
  cases fl with
  | false =>
   rcases find_entM q' v p (k+1)with⟨j,hj,hq,hf⟩|⟨hq,hf⟩
   ·have hhas : hasQ q' (k + 1) (v, p) = true := Qc7.2 ⟨j, hj, hq⟩
    have hcall:=yld_Bh cards cs F size lim n (s-2^v) q' s b' B la pa v p (s-2^v) (2^v) (tryF F B s v p) HT k j hj hq hf
    have eA2:innA lim s v q (k0+1) (p+1)=(q',(k+1)):=by
     rw[innA,if_pos ho,eA]
     unfold askQ askK
     rw[show hasQ q' (k+1) (v,p)=true from hhas]
     rfl
    have hB:=Qaa (sB s b' B) size
    have hB1:=Qaa (sB s (upT b' v p (tryF F B s v p)) B) size
    have hS:=Qaa (scF F q') (k+1)
    have hE:=Qac q' (k+1)
    have hS0:=Qaa (scF F q') (k+1)
    have hE0:=Qac q' (k+1)
    have hla:=Qah (sL s b' la) size
    have hpa:=Qag (sP s b' pa) size
    have hla1:=Qah (sL s (upT b' v p (tryF F B s v p)) la) size
    have hpa1:=Qag (sP s (upT b' v p (tryF F B s v p)) pa) size
    have hfl:k=k0:=hm
    by_cases hlast:p=s-2^v
    ·skip
     obtain⟨i1,i6_,i7⟩:=hnx.2 hlast
     rw[i6_,eA2]at hfin
     rw[i7,eB2]at hb1
     obtain⟨f1,f2⟩:=Prod.mk.inj hfin
     have f3:=Nat.succ.inj f2
     subst hb1 f1 f3
     refine .inr ⟨.ret,[],{sl:=[],os:=ykB cards cs F size lim n (s-2^v) q' s (upT b' v p (tryF F B s v p)) B la pa v .ready k,md:=clM,lg:=[4,5,6,8,9,12,15,16]},[fn 6 (i6 (popc p:Nat)),yes 8,(12,.call ⟨.bool true,ofOs .e 0 (ykB cards cs F size lim n (s-2^v) q' s (upT b' v p (tryF F B s v p)) B la pa v .ready k),17,[4,5,6,8,9,12,16]⟩),va 17 (u6 (nxM p (s-2^v):Nat)),va 19 (u6 (0:Nat)),yes 21],1000,by exact .inl ⟨hfl,rfl,rfl⟩,?_⟩
     rw[i1]at han
     clear hnx h HT
     refine Eq.mp (by kernel_rfl:(let y1:=An [Zz,Sm size,Sm (size-size)];let z0:=upT b' v p (tryF F B s v p);let z1:=ofOs T.e 0 (ykB cards cs F size lim n (s-2^v) q' s b' B la pa v .ready k);let z3:=bF (scF F q') (k+1);let z7:=u6 (↑(nxM p (s-2^v)):Int);let z8:=rgT size lim n (s-2^v) s v;let z9:=entM q' (k+1);let y0:=[u6 ↑p];let z2:=CR.mk (V.bool true) (ofOs T.e 0 (ykB cards cs F size lim n (s-2^v) q' s z0 B la pa v .ready k)) 17 [4,5,6,8,9,12,16];let z4:=nF (sL s z0 la) size;let z5:=uF (sP s z0 pa) size;let z6:=bF (sB s z0 B) size;An [An [Tt,Tt],FnOk Pg g0 65 y0 (i6 ↑(popc p)),Tt,decide ((↑(popc p):Int)≤(↑lim:Int))=true,CallSpec Pg g0 (V.yld 16) y0 z1 17 z2,An [(V.fn 65 []=V.yld 16→y0=y0→z1=z1→17=17→CR.mk (i6 ↑(popc p)) z1 17 []=z2),Tt],binV (Qad Pg) .sub 28 (u6 ↑p) (u6 ↑(s-2^v))=some z7,binV (Qad Pg) .and 28 z7 (u6 ↑(s-2^v))=some (u6 ↑(0:Nat)),((↑(0:Nat):Int)==(0:Int))=true,Tt,An [Sm [sl cards,gC cs],TT 2],An [Sm [V.nilp],Tt,Tt],An [Sm [V.nils,V.nils],TT 2],An [Sm [i6 0],Tt,Tt],An [z6=z6,HfL z6],An [z9=z9,HfE z9,Sm (k+1)],An [An [Sm cards.length,Sm (ints cards)],An [Sm cs.length,Sm (List.map sl cs)],y1,Tt,An [Zz,Sm (k+1),Tt],Tt],An [Zz,Tt],An [z4=z4,HfL z4],An [z5=z5,HfL z5],An [y1,y1,Tt],An [Sm [i6 ↑s],Tt,Tt],An [Sm [V.bool (Qao z0)],Tt,Tt],An [An [Zz,Zz,Zz,Zz,Tt],Tt],An [Sm [i6 ↑v],Tt,Tt],An [z3=z3,HfL z3],An [lbO size lim n (s-2^v) s v .ready=O.loop .ready none 0 z8 [62] rgA rgB,LowT 17 z8],Tt])=_) ?_
     (repeat'(first|(with_reducible apply And.intro)|(refine fun(_:True)=>?_)))
     all_goals first|(with_reducible exact hsu _ _)|(with_reducible exact han _ _)|exact aq|exact hone|exact hcall|exact hl|exact hB|exact hB1|exact hS|exact hS0|exact hE|exact hE0|exact hla|exact hpa|exact hla1|exact hpa1|exact hsu _ _|exact han _ _|rfl|skip
    ·skip
     obtain⟨i1,i2,i3,i4,i5,i6_,i7⟩:=hnx.1 hlast
     refine .inl ⟨(nxP p (s-2^v),q',k,(upT b' v p (tryF F B s v p)),false),[],[fn 6 (i6 (popc p:Nat)),yes 8,(12,.call ⟨.bool true,ofOs .e 0 (ykB cards cs F size lim n (s-2^v) q' s (upT b' v p (tryF F B s v p)) B la pa v .ready k),17,[4,5,6,8,9,12,16]⟩),va 17 (u6 (nxM p (s-2^v):Nat)),va 19 (u6 (nxP p (s-2^v):Nat)),no 21],1000,⟨i1,i2,by dsimp only;omega,by rw[i6_];exact eA2,by rw[i7];exact eB2,hG2,hfl⟩,by dsimp only;omega,?_⟩
     clear hnx h HT
     refine Eq.mp (by kernel_rfl:(let y3:=An [Zz,Sm size,Sm (size-size)];let z0:=upT b' v p (tryF F B s v p);let z1:=ofOs T.e 0 (ykB cards cs F size lim n (s-2^v) q' s b' B la pa v .ready k);let z3:=(↑(nxP p (s-2^v)):Int);let z4:=u6 ↑(s-2^v);let z5:=bF (scF F q') (k+1);let z9:=u6 (↑(nxM p (s-2^v)):Int);let y0:=rgT size lim n (s-2^v) s v;let y1:=entM q' (k+1);let y2:=[u6 ↑p];let z2:=CR.mk (V.bool true) (ofOs T.e 0 (ykB cards cs F size lim n (s-2^v) q' s z0 B la pa v .ready k)) 17 [4,5,6,8,9,12,16];let z6:=nF (sL s z0 la) size;let z7:=uF (sP s z0 pa) size;let z8:=bF (sB s z0 B) size;An [An [Tt,Tt],FnOk Pg g0 65 y2 (i6 ↑(popc p)),Tt,decide ((↑(popc p):Int)≤(↑lim:Int))=true,CallSpec Pg g0 (V.yld 16) y2 z1 17 z2,An [(V.fn 65 []=V.yld 16→y2=y2→z1=z1→17=17→CR.mk (i6 ↑(popc p)) z1 17 []=z2),Tt],binV (Qad Pg) .sub 28 (u6 ↑p) z4=some z9,binV (Qad Pg) .and 28 z9 z4=some (u6 z3),(z3==(0:Int))=false,An [Tt,Sm [i6 ↑lim],Sm [z4],z3=z3,Tt],An [Sm [sl cards,gC cs],TT 2],An [Sm [V.nilp],Tt,Tt],An [Sm [V.nils,V.nils],TT 2],An [Sm [i6 0],Tt,Tt],An [z8=z8,HfL z8],An [y1=y1,HfE y1,Sm (k+1)],An [An [Sm cards.length,Sm (ints cards)],An [Sm cs.length,Sm (List.map sl cs)],y3,Tt,An [Zz,Sm (k+1),Tt],Tt],An [Zz,Tt],An [z6=z6,HfL z6],An [z7=z7,HfL z7],An [y3,y3,Tt],An [Sm [i6 ↑s],Tt,Tt],An [Sm [V.bool (Qao z0)],Tt,Tt],An [An [Zz,Zz,Zz,Zz,Tt],Tt],An [Sm [i6 ↑v],Tt,Tt],An [z5=z5,HfL z5],An [lbO size lim n (s-2^v) s v .ready=O.loop .ready none 0 y0 [62] rgA rgB,LowT 17 y0],Tt])=_) ?_
     (repeat'(first|(with_reducible apply And.intro)|(refine fun(_:True)=>?_)))
     all_goals first|(with_reducible exact hsu _ _)|(with_reducible exact han _ _)|exact aq|exact hone|exact hcall|exact hl|exact hB|exact hB1|exact hS|exact hS0|exact hE|exact hE0|exact hla|exact hpa|exact hla1|exact hpa1|exact hsu _ _|exact han _ _|rfl|skip
   ·have hhas : hasQ q' (k + 1) (v, p) = false := by
     cases hh:hasQ q' (k+1) (v,p)with
     |false=>rfl
     |true=>obtain⟨j,h1,h2⟩:=Qc7.1 hh;exact absurd h2 (hq j h1)
    have hcall:=yld_Bm cards cs F size lim n (s-2^v) q' s b' B la pa v p (s-2^v) (2^v) (tryF F B s v p) HT k (by omega) hf
    have eA2:innA lim s v q (k0+1) (p+1)=((upQ q' (k+1) (v,p)),(k+1+1)):=by
     rw[innA,if_pos ho,eA]
     unfold askQ askK
     rw[show hasQ q' (k+1) (v,p)=false from hhas]
     rfl
    have hB:=Qaa (sB s b' B) size
    have hB1:=Qaa (sB s (upT b' v p (tryF F B s v p)) B) size
    have hS:=Qaa (scF F (upQ q' (k+1) (v,p))) (k+1+1)
    have hE:=Qac (upQ q' (k+1) (v,p)) (k+1+1)
    have hS0:=Qaa (scF F q') (k+1)
    have hE0:=Qac q' (k+1)
    have hla:=Qah (sL s b' la) size
    have hpa:=Qag (sP s b' pa) size
    have hla1:=Qah (sL s (upT b' v p (tryF F B s v p)) la) size
    have hpa1:=Qag (sP s (upT b' v p (tryF F B s v p)) pa) size
    have hfl:(k+1)≠k0:=by have hm':k=k0:=hm;omega
    by_cases hlast:p=s-2^v
    ·skip
     obtain⟨i1,i6_,i7⟩:=hnx.2 hlast
     rw[i6_,eA2]at hfin
     rw[i7,eB2]at hb1
     obtain⟨f1,f2⟩:=Prod.mk.inj hfin
     have f3:=Nat.succ.inj f2
     subst hb1 f1 f3
     refine .inr ⟨.ret,[17],{sl:=[],os:=ykD cards cs F size lim n (s-2^v) (upQ q' (k+1) (v,p)) s (upT b' v p (tryF F B s v p)) B la pa v .ready (k+1),md:=clM,lg:=[4,5,6,8,9,12,15,16]},[fn 6 (i6 (popc p:Nat)),yes 8,(12,.call ⟨.bool true,ofOs .e 0 (ykD cards cs F size lim n (s-2^v) (upQ q' (k+1) (v,p)) s (upT b' v p (tryF F B s v p)) B la pa v .ready (k+1)),18,[4,5,6,8,9,12,15,16]⟩),va 17 (u6 (nxM p (s-2^v):Nat)),va 19 (u6 (0:Nat)),yes 21],1000,by exact .inr (.inl ⟨hfl,rfl,rfl⟩),?_⟩
     rw[i1]at han
     clear hnx h HT
     refine Eq.mp (by kernel_rfl:(let y2:=An [Zz,Sm size,Sm (size-size)];let z0:=upT b' v p (tryF F B s v p);let z1:=ofOs T.e 0 (ykB cards cs F size lim n (s-2^v) q' s b' B la pa v .ready k);let z3:=upQ q' (k+1) (v,p);let z9:=u6 (↑(nxM p (s-2^v)):Int);let y0:=rgT size lim n (s-2^v) s v;let y1:=[u6 ↑p];let z2:=CR.mk (V.bool true) (ofOs T.e 0 (ykD cards cs F size lim n (s-2^v) z3 s z0 B la pa v .ready (k+1))) 18 [4,5,6,8,9,12,15,16];let z4:=bF (scF F z3) (k+1+1);let z5:=nF (sL s z0 la) size;let z6:=uF (sP s z0 pa) size;let z7:=bF (sB s z0 B) size;let z8:=entM z3 (k+1+1);An [An [Tt,Tt],FnOk Pg g0 65 y1 (i6 ↑(popc p)),Tt,decide ((↑(popc p):Int)≤(↑lim:Int))=true,CallSpec Pg g0 (V.yld 16) y1 z1 17 z2,An [(V.fn 65 []=V.yld 16→y1=y1→z1=z1→17=17→CR.mk (i6 ↑(popc p)) z1 17 []=z2),Tt],binV (Qad Pg) .sub 28 (u6 ↑p) (u6 ↑(s-2^v))=some z9,binV (Qad Pg) .and 28 z9 (u6 ↑(s-2^v))=some (u6 ↑(0:Nat)),((↑(0:Nat):Int)==(0:Int))=true,Tt,An [Sm [sl cards,gC cs],TT 2],An [Sm [V.nilp],Tt,Tt],An [Sm [V.nils,V.nils],TT 2],An [Sm [i6 0],Tt,Tt],An [z7=z7,HfL z7],An [z8=z8,HfE z8,Sm (k+1+1)],An [An [Sm cards.length,Sm (ints cards)],An [Sm cs.length,Sm (List.map sl cs)],y2,Tt,An [Zz,Sm (Nat.succ k+1),Tt],Tt],An [Zz,Tt],An [z5=z5,HfL z5],An [z6=z6,HfL z6],An [y2,y2,Tt],An [Sm [i6 ↑s],Tt,Tt],An [Sm [V.bool (Qao z0)],Tt,Tt],An [An [Zz,Zz,Zz,Zz,Tt],Tt],An [Sm [i6 ↑v],Tt,Tt],Tt,An [lbO size lim n (s-2^v) s v .ready=O.loop .ready none 0 y0 [62] rgA rgB,LowT 17 y0],An [z4=z4,HfL z4],Tt])=_) ?_
     (repeat'(first|(with_reducible apply And.intro)|(refine fun(_:True)=>?_)))
     all_goals first|(with_reducible exact hsu _ _)|(with_reducible exact han _ _)|exact aq|exact hone|exact hcall|exact hl|exact hB|exact hB1|exact hS|exact hS0|exact hE|exact hE0|exact hla|exact hpa|exact hla1|exact hpa1|exact hsu _ _|exact han _ _|rfl|skip
    ·skip
     obtain⟨i1,i2,i3,i4,i5,i6_,i7⟩:=hnx.1 hlast
     refine .inl ⟨(nxP p (s-2^v),(upQ q' (k+1) (v,p)),(k+1),(upT b' v p (tryF F B s v p)),true),[17],[fn 6 (i6 (popc p:Nat)),yes 8,(12,.call ⟨.bool true,ofOs .e 0 (ykD cards cs F size lim n (s-2^v) (upQ q' (k+1) (v,p)) s (upT b' v p (tryF F B s v p)) B la pa v .ready (k+1)),18,[4,5,6,8,9,12,15,16]⟩),va 17 (u6 (nxM p (s-2^v):Nat)),va 19 (u6 (nxP p (s-2^v):Nat)),no 21],1000,⟨i1,i2,by dsimp only;omega,by rw[i6_];exact eA2,by rw[i7];exact eB2,hG2,hfl⟩,by dsimp only;omega,?_⟩
     clear hnx h HT
     refine Eq.mp (by kernel_rfl:(let y4:=An [Zz,Sm size,Sm (size-size)];let z0:=upT b' v p (tryF F B s v p);let z1:=ofOs T.e 0 (ykB cards cs F size lim n (s-2^v) q' s b' B la pa v .ready k);let z3:=upQ q' (k+1) (v,p);let z4:=(↑(nxP p (s-2^v)):Int);let z5:=u6 ↑(s-2^v);let y1:=u6 (↑(nxM p (s-2^v)):Int);let y2:=rgT size lim n (s-2^v) s v;let y3:=[u6 ↑p];let z2:=CR.mk (V.bool true) (ofOs T.e 0 (ykD cards cs F size lim n (s-2^v) z3 s z0 B la pa v .ready (k+1))) 18 [4,5,6,8,9,12,15,16];let z6:=bF (scF F z3) (k+1+1);let z7:=nF (sL s z0 la) size;let z8:=uF (sP s z0 pa) size;let z9:=bF (sB s z0 B) size;let y0:=entM z3 (k+1+1);An [An [Tt,Tt],FnOk Pg g0 65 y3 (i6 ↑(popc p)),Tt,decide ((↑(popc p):Int)≤(↑lim:Int))=true,CallSpec Pg g0 (V.yld 16) y3 z1 17 z2,An [(V.fn 65 []=V.yld 16→y3=y3→z1=z1→17=17→CR.mk (i6 ↑(popc p)) z1 17 []=z2),Tt],binV (Qad Pg) .sub 28 (u6 ↑p) z5=some y1,binV (Qad Pg) .and 28 y1 z5=some (u6 z4),(z4==(0:Int))=false,An [Tt,Sm [i6 ↑lim],Sm [z5],z4=z4,Tt],An [Sm [sl cards,gC cs],TT 2],An [Sm [V.nilp],Tt,Tt],An [Sm [V.nils,V.nils],TT 2],An [Sm [i6 0],Tt,Tt],An [z9=z9,HfL z9],An [y0=y0,HfE y0,Sm (k+1+1)],An [An [Sm cards.length,Sm (ints cards)],An [Sm cs.length,Sm (List.map sl cs)],y4,Tt,An [Zz,Sm (Nat.succ k+1),Tt],Tt],An [Zz,Tt],An [z7=z7,HfL z7],An [z8=z8,HfL z8],An [y4,y4,Tt],An [Sm [i6 ↑s],Tt,Tt],An [Sm [V.bool (Qao z0)],Tt,Tt],An [An [Zz,Zz,Zz,Zz,Tt],Tt],An [Sm [i6 ↑v],Tt,Tt],Tt,An [lbO size lim n (s-2^v) s v .ready=O.loop .ready none 0 y2 [62] rgA rgB,LowT 17 y2],An [z6=z6,HfL z6],Tt])=_) ?_
     (repeat'(first|(with_reducible apply And.intro)|(refine fun(_:True)=>?_)))
     all_goals first|(with_reducible exact hsu _ _)|(with_reducible exact han _ _)|exact aq|exact hone|exact hcall|exact hl|exact hB|exact hB1|exact hS|exact hS0|exact hE|exact hE0|exact hla|exact hpa|exact hla1|exact hpa1|exact hsu _ _|exact han _ _|rfl|skip
  | true =>
   rcases find_entM q' v p (k+1)with⟨j,hj,hq,hf⟩|⟨hq,hf⟩
   ·have hhas : hasQ q' (k + 1) (v, p) = true := Qc7.2 ⟨j, hj, hq⟩
    have hcall:=yld_Dh cards cs F size lim n (s-2^v) q' s b' B la pa v p (s-2^v) (2^v) (tryF F B s v p) HT k j hj hq hf
    have eA2:innA lim s v q (k0+1) (p+1)=(q',(k+1)):=by
     rw[innA,if_pos ho,eA]
     unfold askQ askK
     rw[show hasQ q' (k+1) (v,p)=true from hhas]
     rfl
    have hB:=Qaa (sB s b' B) size
    have hB1:=Qaa (sB s (upT b' v p (tryF F B s v p)) B) size
    have hS:=Qaa (scF F q') (k+1)
    have hE:=Qac q' (k+1)
    have hS0:=Qaa (scF F q') (k+1)
    have hE0:=Qac q' (k+1)
    have hla:=Qah (sL s b' la) size
    have hpa:=Qag (sP s b' pa) size
    have hla1:=Qah (sL s (upT b' v p (tryF F B s v p)) la) size
    have hpa1:=Qag (sP s (upT b' v p (tryF F B s v p)) pa) size
    have hfl:k≠k0:=hm
    by_cases hlast:p=s-2^v
    ·skip
     obtain⟨i1,i6_,i7⟩:=hnx.2 hlast
     rw[i6_,eA2]at hfin
     rw[i7,eB2]at hb1
     obtain⟨f1,f2⟩:=Prod.mk.inj hfin
     have f3:=Nat.succ.inj f2
     subst hb1 f1 f3
     refine .inr ⟨.ret,[17],{sl:=[],os:=ykD cards cs F size lim n (s-2^v) q' s (upT b' v p (tryF F B s v p)) B la pa v .ready k,md:=clM,lg:=[4,5,6,8,9,12,15,16]},[fn 6 (i6 (popc p:Nat)),yes 8,(12,.call ⟨.bool true,ofOs .e 0 (ykD cards cs F size lim n (s-2^v) q' s (upT b' v p (tryF F B s v p)) B la pa v .ready k),18,[4,5,6,8,9,12,16]⟩),va 17 (u6 (nxM p (s-2^v):Nat)),va 19 (u6 (0:Nat)),yes 21],1000,by exact .inr (.inl ⟨hfl,rfl,rfl⟩),?_⟩
     rw[i1]at han
     clear hnx h HT
     refine Eq.mp (by kernel_rfl:(let y1:=An [Zz,Sm size,Sm (size-size)];let z0:=upT b' v p (tryF F B s v p);let z1:=ofOs T.e 0 (ykD cards cs F size lim n (s-2^v) q' s b' B la pa v .ready k);let z3:=bF (scF F q') (k+1);let z7:=u6 (↑(nxM p (s-2^v)):Int);let z8:=rgT size lim n (s-2^v) s v;let z9:=entM q' (k+1);let y0:=[u6 ↑p];let z2:=CR.mk (V.bool true) (ofOs T.e 0 (ykD cards cs F size lim n (s-2^v) q' s z0 B la pa v .ready k)) 18 [4,5,6,8,9,12,16];let z4:=nF (sL s z0 la) size;let z5:=uF (sP s z0 pa) size;let z6:=bF (sB s z0 B) size;An [An [Tt,Tt],FnOk Pg g0 65 y0 (i6 ↑(popc p)),Tt,decide ((↑(popc p):Int)≤(↑lim:Int))=true,CallSpec Pg g0 (V.yld 16) y0 z1 18 z2,An [(V.fn 65 []=V.yld 16→y0=y0→z1=z1→18=18→CR.mk (i6 ↑(popc p)) z1 18 []=z2),Tt],binV (Qad Pg) .sub 28 (u6 ↑p) (u6 ↑(s-2^v))=some z7,binV (Qad Pg) .and 28 z7 (u6 ↑(s-2^v))=some (u6 ↑(0:Nat)),((↑(0:Nat):Int)==(0:Int))=true,Tt,An [Sm [sl cards,gC cs],TT 2],An [Sm [V.nilp],Tt,Tt],An [Sm [V.nils,V.nils],TT 2],An [Sm [i6 0],Tt,Tt],An [z6=z6,HfL z6],An [z9=z9,HfE z9,Sm (k+1)],An [An [Sm cards.length,Sm (ints cards)],An [Sm cs.length,Sm (List.map sl cs)],y1,Tt,An [Zz,Sm (k+1),Tt],Tt],An [Zz,Tt],An [z4=z4,HfL z4],An [z5=z5,HfL z5],An [y1,y1,Tt],An [Sm [i6 ↑s],Tt,Tt],An [Sm [V.bool (Qao z0)],Tt,Tt],An [An [Zz,Zz,Zz,Zz,Tt],Tt],An [Sm [i6 ↑v],Tt,Tt],Tt,An [lbO size lim n (s-2^v) s v .ready=O.loop .ready none 0 z8 [62] rgA rgB,LowT 17 z8],An [z3=z3,HfL z3],Tt])=_) ?_
     (repeat'(first|(with_reducible apply And.intro)|(refine fun(_:True)=>?_)))
     all_goals first|(with_reducible exact hsu _ _)|(with_reducible exact han _ _)|exact aq|exact hone|exact hcall|exact hl|exact hB|exact hB1|exact hS|exact hS0|exact hE|exact hE0|exact hla|exact hpa|exact hla1|exact hpa1|exact hsu _ _|exact han _ _|rfl|skip
    ·skip
     obtain⟨i1,i2,i3,i4,i5,i6_,i7⟩:=hnx.1 hlast
     refine .inl ⟨(nxP p (s-2^v),q',k,(upT b' v p (tryF F B s v p)),true),[17],[fn 6 (i6 (popc p:Nat)),yes 8,(12,.call ⟨.bool true,ofOs .e 0 (ykD cards cs F size lim n (s-2^v) q' s (upT b' v p (tryF F B s v p)) B la pa v .ready k),18,[4,5,6,8,9,12,16]⟩),va 17 (u6 (nxM p (s-2^v):Nat)),va 19 (u6 (nxP p (s-2^v):Nat)),no 21],1000,⟨i1,i2,by dsimp only;omega,by rw[i6_];exact eA2,by rw[i7];exact eB2,hG2,hfl⟩,by dsimp only;omega,?_⟩
     clear hnx h HT
     refine Eq.mp (by kernel_rfl:(let y3:=An [Zz,Sm size,Sm (size-size)];let z0:=upT b' v p (tryF F B s v p);let z1:=ofOs T.e 0 (ykD cards cs F size lim n (s-2^v) q' s b' B la pa v .ready k);let z3:=(↑(nxP p (s-2^v)):Int);let z4:=u6 ↑(s-2^v);let z5:=bF (scF F q') (k+1);let z9:=u6 (↑(nxM p (s-2^v)):Int);let y0:=rgT size lim n (s-2^v) s v;let y1:=entM q' (k+1);let y2:=[u6 ↑p];let z2:=CR.mk (V.bool true) (ofOs T.e 0 (ykD cards cs F size lim n (s-2^v) q' s z0 B la pa v .ready k)) 18 [4,5,6,8,9,12,16];let z6:=nF (sL s z0 la) size;let z7:=uF (sP s z0 pa) size;let z8:=bF (sB s z0 B) size;An [An [Tt,Tt],FnOk Pg g0 65 y2 (i6 ↑(popc p)),Tt,decide ((↑(popc p):Int)≤(↑lim:Int))=true,CallSpec Pg g0 (V.yld 16) y2 z1 18 z2,An [(V.fn 65 []=V.yld 16→y2=y2→z1=z1→18=18→CR.mk (i6 ↑(popc p)) z1 18 []=z2),Tt],binV (Qad Pg) .sub 28 (u6 ↑p) z4=some z9,binV (Qad Pg) .and 28 z9 z4=some (u6 z3),(z3==(0:Int))=false,An [Tt,Sm [i6 ↑lim],Sm [z4],z3=z3,Tt],An [Sm [sl cards,gC cs],TT 2],An [Sm [V.nilp],Tt,Tt],An [Sm [V.nils,V.nils],TT 2],An [Sm [i6 0],Tt,Tt],An [z8=z8,HfL z8],An [y1=y1,HfE y1,Sm (k+1)],An [An [Sm cards.length,Sm (ints cards)],An [Sm cs.length,Sm (List.map sl cs)],y3,Tt,An [Zz,Sm (k+1),Tt],Tt],An [Zz,Tt],An [z6=z6,HfL z6],An [z7=z7,HfL z7],An [y3,y3,Tt],An [Sm [i6 ↑s],Tt,Tt],An [Sm [V.bool (Qao z0)],Tt,Tt],An [An [Zz,Zz,Zz,Zz,Tt],Tt],An [Sm [i6 ↑v],Tt,Tt],Tt,An [lbO size lim n (s-2^v) s v .ready=O.loop .ready none 0 y0 [62] rgA rgB,LowT 17 y0],An [z5=z5,HfL z5],Tt])=_) ?_
     (repeat'(first|(with_reducible apply And.intro)|(refine fun(_:True)=>?_)))
     all_goals first|(with_reducible exact hsu _ _)|(with_reducible exact han _ _)|exact aq|exact hone|exact hcall|exact hl|exact hB|exact hB1|exact hS|exact hS0|exact hE|exact hE0|exact hla|exact hpa|exact hla1|exact hpa1|exact hsu _ _|exact han _ _|rfl|skip
   ·have hhas : hasQ q' (k + 1) (v, p) = false := by
     cases hh:hasQ q' (k+1) (v,p)with
     |false=>rfl
     |true=>obtain⟨j,h1,h2⟩:=Qc7.1 hh;exact absurd h2 (hq j h1)
    have hcall:=yld_Dm cards cs F size lim n (s-2^v) q' s b' B la pa v p (s-2^v) (2^v) (tryF F B s v p) HT k (by omega) hf
    have eA2:innA lim s v q (k0+1) (p+1)=((upQ q' (k+1) (v,p)),(k+1+1)):=by
     rw[innA,if_pos ho,eA]
     unfold askQ askK
     rw[show hasQ q' (k+1) (v,p)=false from hhas]
     rfl
    have hB:=Qaa (sB s b' B) size
    have hB1:=Qaa (sB s (upT b' v p (tryF F B s v p)) B) size
    have hS:=Qaa (scF F (upQ q' (k+1) (v,p))) (k+1+1)
    have hE:=Qac (upQ q' (k+1) (v,p)) (k+1+1)
    have hS0:=Qaa (scF F q') (k+1)
    have hE0:=Qac q' (k+1)
    have hla:=Qah (sL s b' la) size
    have hpa:=Qag (sP s b' pa) size
    have hla1:=Qah (sL s (upT b' v p (tryF F B s v p)) la) size
    have hpa1:=Qag (sP s (upT b' v p (tryF F B s v p)) pa) size
    have hfl:(k+1)≠k0:=by have hm':k≠k0:=hm;have:=Qds lim s v q (k0+1) p;have e2:innK lim s v q (k0+1) p=k+1:=congrArg Prod.snd eA;omega
    by_cases hlast:p=s-2^v
    ·skip
     obtain⟨i1,i6_,i7⟩:=hnx.2 hlast
     rw[i6_,eA2]at hfin
     rw[i7,eB2]at hb1
     obtain⟨f1,f2⟩:=Prod.mk.inj hfin
     have f3:=Nat.succ.inj f2
     subst hb1 f1 f3
     refine .inr ⟨.ret,[18],{sl:=[],os:=ykD cards cs F size lim n (s-2^v) (upQ q' (k+1) (v,p)) s (upT b' v p (tryF F B s v p)) B la pa v .ready (k+1),md:=clM,lg:=[4,5,6,8,9,12,15,16]},[fn 6 (i6 (popc p:Nat)),yes 8,(12,.call ⟨.bool true,ofOs .e 0 (ykD2 cards cs F size lim n (s-2^v) (upQ q' (k+1) (v,p)) s (upT b' v p (tryF F B s v p)) B la pa v .ready (k+1)),19,[4,5,6,8,9,12,17,16]⟩),va 17 (u6 (nxM p (s-2^v):Nat)),va 19 (u6 (0:Nat)),yes 21],1000,by exact .inr (.inl ⟨hfl,rfl,rfl⟩),?_⟩
     rw[i1]at han
     clear hnx h HT
     refine Eq.mp (by kernel_rfl:(let y2:=An [Zz,Sm size,Sm (size-size)];let z0:=upT b' v p (tryF F B s v p);let z1:=ofOs T.e 0 (ykD cards cs F size lim n (s-2^v) q' s b' B la pa v .ready k);let z3:=upQ q' (k+1) (v,p);let z9:=u6 (↑(nxM p (s-2^v)):Int);let y0:=rgT size lim n (s-2^v) s v;let y1:=[u6 ↑p];let z2:=CR.mk (V.bool true) (ofOs T.e 0 (ykD2 cards cs F size lim n (s-2^v) z3 s z0 B la pa v .ready (k+1))) 19 [4,5,6,8,9,12,17,16];let z4:=bF (scF F z3) (k+1+1);let z5:=nF (sL s z0 la) size;let z6:=uF (sP s z0 pa) size;let z7:=bF (sB s z0 B) size;let z8:=entM z3 (k+1+1);An [An [Tt,Tt],FnOk Pg g0 65 y1 (i6 ↑(popc p)),Tt,decide ((↑(popc p):Int)≤(↑lim:Int))=true,CallSpec Pg g0 (V.yld 16) y1 z1 18 z2,An [(V.fn 65 []=V.yld 16→y1=y1→z1=z1→18=18→CR.mk (i6 ↑(popc p)) z1 18 []=z2),Tt],binV (Qad Pg) .sub 28 (u6 ↑p) (u6 ↑(s-2^v))=some z9,binV (Qad Pg) .and 28 z9 (u6 ↑(s-2^v))=some (u6 ↑(0:Nat)),((↑(0:Nat):Int)==(0:Int))=true,Tt,An [Sm [sl cards,gC cs],TT 2],An [Sm [V.nilp],Tt,Tt],An [Sm [V.nils,V.nils],TT 2],An [Sm [i6 0],Tt,Tt],An [z7=z7,HfL z7],An [z8=z8,HfE z8,Sm (k+1+1)],An [An [Sm cards.length,Sm (ints cards)],An [Sm cs.length,Sm (List.map sl cs)],y2,Tt,An [Zz,Sm (Nat.succ k+1),Tt],Tt],An [Zz,Tt],An [z5=z5,HfL z5],An [z6=z6,HfL z6],An [y2,y2,Tt],An [Sm [i6 ↑s],Tt,Tt],An [Sm [V.bool (Qao z0)],Tt,Tt],An [An [Zz,Zz,Zz,Zz,Tt],Tt],An [Sm [i6 ↑v],Tt,Tt],Tt,An [lbO size lim n (s-2^v) s v .ready=O.loop .ready none 0 y0 [62] rgA rgB,LowT 17 y0],An [z4=z4,HfL z4],Tt])=_) ?_
     (repeat'(first|(with_reducible apply And.intro)|(refine fun(_:True)=>?_)))
     all_goals first|(with_reducible exact hsu _ _)|(with_reducible exact han _ _)|exact aq|exact hone|exact hcall|exact hl|exact hB|exact hB1|exact hS|exact hS0|exact hE|exact hE0|exact hla|exact hpa|exact hla1|exact hpa1|exact hsu _ _|exact han _ _|rfl|skip
    ·skip
     obtain⟨i1,i2,i3,i4,i5,i6_,i7⟩:=hnx.1 hlast
     refine .inl ⟨(nxP p (s-2^v),(upQ q' (k+1) (v,p)),(k+1),(upT b' v p (tryF F B s v p)),true),[18],[fn 6 (i6 (popc p:Nat)),yes 8,(12,.call ⟨.bool true,ofOs .e 0 (ykD2 cards cs F size lim n (s-2^v) (upQ q' (k+1) (v,p)) s (upT b' v p (tryF F B s v p)) B la pa v .ready (k+1)),19,[4,5,6,8,9,12,17,16]⟩),va 17 (u6 (nxM p (s-2^v):Nat)),va 19 (u6 (nxP p (s-2^v):Nat)),no 21],1000,⟨i1,i2,by dsimp only;omega,by rw[i6_];exact eA2,by rw[i7];exact eB2,hG2,hfl⟩,by dsimp only;omega,?_⟩
     clear hnx h HT
     refine Eq.mp (by kernel_rfl:(let y4:=An [Zz,Sm size,Sm (size-size)];let z0:=upT b' v p (tryF F B s v p);let z1:=ofOs T.e 0 (ykD cards cs F size lim n (s-2^v) q' s b' B la pa v .ready k);let z3:=upQ q' (k+1) (v,p);let z4:=(↑(nxP p (s-2^v)):Int);let z5:=u6 ↑(s-2^v);let y1:=u6 (↑(nxM p (s-2^v)):Int);let y2:=rgT size lim n (s-2^v) s v;let y3:=[u6 ↑p];let z2:=CR.mk (V.bool true) (ofOs T.e 0 (ykD2 cards cs F size lim n (s-2^v) z3 s z0 B la pa v .ready (k+1))) 19 [4,5,6,8,9,12,17,16];let z6:=bF (scF F z3) (k+1+1);let z7:=nF (sL s z0 la) size;let z8:=uF (sP s z0 pa) size;let z9:=bF (sB s z0 B) size;let y0:=entM z3 (k+1+1);An [An [Tt,Tt],FnOk Pg g0 65 y3 (i6 ↑(popc p)),Tt,decide ((↑(popc p):Int)≤(↑lim:Int))=true,CallSpec Pg g0 (V.yld 16) y3 z1 18 z2,An [(V.fn 65 []=V.yld 16→y3=y3→z1=z1→18=18→CR.mk (i6 ↑(popc p)) z1 18 []=z2),Tt],binV (Qad Pg) .sub 28 (u6 ↑p) z5=some y1,binV (Qad Pg) .and 28 y1 z5=some (u6 z4),(z4==(0:Int))=false,An [Tt,Sm [i6 ↑lim],Sm [z5],z4=z4,Tt],An [Sm [sl cards,gC cs],TT 2],An [Sm [V.nilp],Tt,Tt],An [Sm [V.nils,V.nils],TT 2],An [Sm [i6 0],Tt,Tt],An [z9=z9,HfL z9],An [y0=y0,HfE y0,Sm (k+1+1)],An [An [Sm cards.length,Sm (ints cards)],An [Sm cs.length,Sm (List.map sl cs)],y4,Tt,An [Zz,Sm (Nat.succ k+1),Tt],Tt],An [Zz,Tt],An [z7=z7,HfL z7],An [z8=z8,HfL z8],An [y4,y4,Tt],An [Sm [i6 ↑s],Tt,Tt],An [Sm [V.bool (Qao z0)],Tt,Tt],An [An [Zz,Zz,Zz,Zz,Tt],Tt],An [Sm [i6 ↑v],Tt,Tt],Tt,An [lbO size lim n (s-2^v) s v .ready=O.loop .ready none 0 y2 [62] rgA rgB,LowT 17 y2],An [z6=z6,HfL z6],Tt])=_) ?_
     (repeat'(first|(with_reducible apply And.intro)|(refine fun(_:True)=>?_)))
     all_goals first|(with_reducible exact hsu _ _)|(with_reducible exact han _ _)|exact aq|exact hone|exact hcall|exact hl|exact hB|exact hB1|exact hS|exact hS0|exact hE|exact hE0|exact hla|exact hpa|exact hla1|exact hpa1|exact hsu _ _|exact han _ _|rfl|skip
 ·have ho : ¬ okT lim s v p = true := fun h' => hok ((Qdu hs32 hv5 hvb hp).1 h').2
  have HT:=trivial
  have hcall:=trivial
  have hG2:=hG'
  have eB2:innB lim F B s v b (p+1)=b':=by rw[innB,if_neg ho,eB]
  cases fl with
  | false =>
   have eA2:innA lim s v q (k0+1) (p+1)=(q',k+1):=by rw[innA,if_neg ho,eA]
   have hB:=Qaa (sB s b' B) size
   have hB1:=Qaa (sB s b' B) size
   have hS:=Qaa (scF F q') (k+1)
   have hE:=Qac q' (k+1)
   have hS0:=Qaa (scF F q') (k+1)
   have hE0:=Qac q' (k+1)
   have hla:=Qah (sL s b' la) size
   have hpa:=Qag (sP s b' pa) size
   have hla1:=Qah (sL s b' la) size
   have hpa1:=Qag (sP s b' pa) size
   have hfl:k=k0:=hm
   by_cases hlast:p=s-2^v
   ·skip
    obtain⟨i1,i6_,i7⟩:=hnx.2 hlast
    rw[i6_,eA2]at hfin
    rw[i7,eB2]at hb1
    obtain⟨f1,f2⟩:=Prod.mk.inj hfin
    have f3:=Nat.succ.inj f2
    subst hb1 f1 f3
    refine .inr ⟨.ret,[],{sl:=[],os:=ykB cards cs F size lim n (s-2^v) q' s b' B la pa v .ready k,md:=clM,lg:=[4,5,6,8,9,12,15,16]},[fn 6 (i6 (popc p:Nat)),no 8,va 17 (u6 (nxM p (s-2^v):Nat)),va 19 (u6 (0:Nat)),yes 21],1000,by exact .inl ⟨hfl,rfl,rfl⟩,?_⟩
    rw[i1]at han
    clear hnx h HT
    refine Eq.mp (by kernel_rfl:(let z7:=An [Zz,Sm size,Sm (size-size)];let z0:=bF (scF F q') (k+1);let z1:=nF (sL s b' la) size;let z2:=uF (sP s b' pa) size;let z3:=bF (sB s b' B) size;let z4:=u6 (↑(nxM p (s-2^v)):Int);let z5:=rgT size lim n (s-2^v) s v;let z6:=entM q' (k+1);An [An [Tt,Tt],FnOk Pg g0 65 [u6 ↑p] (i6 ↑(popc p)),Tt,decide ((↑(popc p):Int)≤(↑lim:Int))=false,binV (Qad Pg) .sub 28 (u6 ↑p) (u6 ↑(s-2^v))=some z4,binV (Qad Pg) .and 28 z4 (u6 ↑(s-2^v))=some (u6 ↑(0:Nat)),((↑(0:Nat):Int)==(0:Int))=true,Tt,An [Sm [sl cards,gC cs],TT 2],An [Sm [V.nilp],Tt,Tt],An [Sm [V.nils,V.nils],TT 2],An [Sm [i6 0],Tt,Tt],An [z3=z3,HfL z3],An [z6=z6,HfE z6,Sm (k+1)],An [An [Sm cards.length,Sm (ints cards)],An [Sm cs.length,Sm (List.map sl cs)],z7,Tt,An [Zz,Sm (k+1),Tt],Tt],An [Zz,Tt],An [z1=z1,HfL z1],An [z2=z2,HfL z2],An [z7,z7,Tt],An [Sm [i6 ↑s],Tt,Tt],An [Sm [V.bool (Qao b')],Tt,Tt],An [An [Zz,Zz,Zz,Zz,Tt],Tt],An [Sm [i6 ↑v],Tt,Tt],An [z0=z0,HfL z0],An [lbO size lim n (s-2^v) s v .ready=O.loop .ready none 0 z5 [62] rgA rgB,LowT 17 z5],Tt])=_) ?_
    (repeat'(first|(with_reducible apply And.intro)|(refine fun(_:True)=>?_)))
    all_goals first|(with_reducible exact hsu _ _)|(with_reducible exact han _ _)|exact aq|exact hone|exact hcall|exact hl|exact hB|exact hB1|exact hS|exact hS0|exact hE|exact hE0|exact hla|exact hpa|exact hla1|exact hpa1|exact hsu _ _|exact han _ _|rfl|skip
   ·skip
    obtain⟨i1,i2,i3,i4,i5,i6_,i7⟩:=hnx.1 hlast
    refine .inl ⟨(nxP p (s-2^v),q',k,b',false),[],[fn 6 (i6 (popc p:Nat)),no 8,va 17 (u6 (nxM p (s-2^v):Nat)),va 19 (u6 (nxP p (s-2^v):Nat)),no 21],1000,⟨i1,i2,by dsimp only;omega,by rw[i6_];exact eA2,by rw[i7];exact eB2,hG2,hfl⟩,by dsimp only;omega,?_⟩
    clear hnx h HT
    refine Eq.mp (by kernel_rfl:(let z9:=An [Zz,Sm size,Sm (size-size)];let z0:=(↑(nxP p (s-2^v)):Int);let z1:=u6 ↑(s-2^v);let z2:=bF (scF F q') (k+1);let z3:=nF (sL s b' la) size;let z4:=uF (sP s b' pa) size;let z5:=bF (sB s b' B) size;let z6:=u6 (↑(nxM p (s-2^v)):Int);let z7:=rgT size lim n (s-2^v) s v;let z8:=entM q' (k+1);An [An [Tt,Tt],FnOk Pg g0 65 [u6 ↑p] (i6 ↑(popc p)),Tt,decide ((↑(popc p):Int)≤(↑lim:Int))=false,binV (Qad Pg) .sub 28 (u6 ↑p) z1=some z6,binV (Qad Pg) .and 28 z6 z1=some (u6 z0),(z0==(0:Int))=false,An [Tt,Sm [i6 ↑lim],Sm [z1],z0=z0,Tt],An [Sm [sl cards,gC cs],TT 2],An [Sm [V.nilp],Tt,Tt],An [Sm [V.nils,V.nils],TT 2],An [Sm [i6 0],Tt,Tt],An [z5=z5,HfL z5],An [z8=z8,HfE z8,Sm (k+1)],An [An [Sm cards.length,Sm (ints cards)],An [Sm cs.length,Sm (List.map sl cs)],z9,Tt,An [Zz,Sm (k+1),Tt],Tt],An [Zz,Tt],An [z3=z3,HfL z3],An [z4=z4,HfL z4],An [z9,z9,Tt],An [Sm [i6 ↑s],Tt,Tt],An [Sm [V.bool (Qao b')],Tt,Tt],An [An [Zz,Zz,Zz,Zz,Tt],Tt],An [Sm [i6 ↑v],Tt,Tt],An [z2=z2,HfL z2],An [lbO size lim n (s-2^v) s v .ready=O.loop .ready none 0 z7 [62] rgA rgB,LowT 17 z7],Tt])=_) ?_
    (repeat'(first|(with_reducible apply And.intro)|(refine fun(_:True)=>?_)))
    all_goals first|(with_reducible exact hsu _ _)|(with_reducible exact han _ _)|exact aq|exact hone|exact hcall|exact hl|exact hB|exact hB1|exact hS|exact hS0|exact hE|exact hE0|exact hla|exact hpa|exact hla1|exact hpa1|exact hsu _ _|exact han _ _|rfl|skip
  | true =>
   have eA2:innA lim s v q (k0+1) (p+1)=(q',k+1):=by rw[innA,if_neg ho,eA]
   have hB:=Qaa (sB s b' B) size
   have hB1:=Qaa (sB s b' B) size
   have hS:=Qaa (scF F q') (k+1)
   have hE:=Qac q' (k+1)
   have hS0:=Qaa (scF F q') (k+1)
   have hE0:=Qac q' (k+1)
   have hla:=Qah (sL s b' la) size
   have hpa:=Qag (sP s b' pa) size
   have hla1:=Qah (sL s b' la) size
   have hpa1:=Qag (sP s b' pa) size
   have hfl:k≠k0:=hm
   by_cases hlast:p=s-2^v
   ·skip
    obtain⟨i1,i6_,i7⟩:=hnx.2 hlast
    rw[i6_,eA2]at hfin
    rw[i7,eB2]at hb1
    obtain⟨f1,f2⟩:=Prod.mk.inj hfin
    have f3:=Nat.succ.inj f2
    subst hb1 f1 f3
    refine .inr ⟨.ret,[17],{sl:=[],os:=ykD cards cs F size lim n (s-2^v) q' s b' B la pa v .ready k,md:=clM,lg:=[4,5,6,8,9,12,15,16]},[fn 6 (i6 (popc p:Nat)),no 8,va 17 (u6 (nxM p (s-2^v):Nat)),va 19 (u6 (0:Nat)),yes 21],1000,by exact .inr (.inl ⟨hfl,rfl,rfl⟩),?_⟩
    rw[i1]at han
    clear hnx h HT
    refine Eq.mp (by kernel_rfl:(let z7:=An [Zz,Sm size,Sm (size-size)];let z0:=bF (scF F q') (k+1);let z1:=nF (sL s b' la) size;let z2:=uF (sP s b' pa) size;let z3:=bF (sB s b' B) size;let z4:=u6 (↑(nxM p (s-2^v)):Int);let z5:=rgT size lim n (s-2^v) s v;let z6:=entM q' (k+1);An [An [Tt,Tt],FnOk Pg g0 65 [u6 ↑p] (i6 ↑(popc p)),Tt,decide ((↑(popc p):Int)≤(↑lim:Int))=false,binV (Qad Pg) .sub 28 (u6 ↑p) (u6 ↑(s-2^v))=some z4,binV (Qad Pg) .and 28 z4 (u6 ↑(s-2^v))=some (u6 ↑(0:Nat)),((↑(0:Nat):Int)==(0:Int))=true,Tt,An [Sm [sl cards,gC cs],TT 2],An [Sm [V.nilp],Tt,Tt],An [Sm [V.nils,V.nils],TT 2],An [Sm [i6 0],Tt,Tt],An [z3=z3,HfL z3],An [z6=z6,HfE z6,Sm (k+1)],An [An [Sm cards.length,Sm (ints cards)],An [Sm cs.length,Sm (List.map sl cs)],z7,Tt,An [Zz,Sm (k+1),Tt],Tt],An [Zz,Tt],An [z1=z1,HfL z1],An [z2=z2,HfL z2],An [z7,z7,Tt],An [Sm [i6 ↑s],Tt,Tt],An [Sm [V.bool (Qao b')],Tt,Tt],An [An [Zz,Zz,Zz,Zz,Tt],Tt],An [Sm [i6 ↑v],Tt,Tt],Tt,An [lbO size lim n (s-2^v) s v .ready=O.loop .ready none 0 z5 [62] rgA rgB,LowT 17 z5],An [z0=z0,HfL z0],Tt])=_) ?_
    (repeat'(first|(with_reducible apply And.intro)|(refine fun(_:True)=>?_)))
    all_goals first|(with_reducible exact hsu _ _)|(with_reducible exact han _ _)|exact aq|exact hone|exact hcall|exact hl|exact hB|exact hB1|exact hS|exact hS0|exact hE|exact hE0|exact hla|exact hpa|exact hla1|exact hpa1|exact hsu _ _|exact han _ _|rfl|skip
   ·skip
    obtain⟨i1,i2,i3,i4,i5,i6_,i7⟩:=hnx.1 hlast
    refine .inl ⟨(nxP p (s-2^v),q',k,b',true),[17],[fn 6 (i6 (popc p:Nat)),no 8,va 17 (u6 (nxM p (s-2^v):Nat)),va 19 (u6 (nxP p (s-2^v):Nat)),no 21],1000,⟨i1,i2,by dsimp only;omega,by rw[i6_];exact eA2,by rw[i7];exact eB2,hG2,hfl⟩,by dsimp only;omega,?_⟩
    clear hnx h HT
    refine Eq.mp (by kernel_rfl:(let z9:=An [Zz,Sm size,Sm (size-size)];let z0:=(↑(nxP p (s-2^v)):Int);let z1:=u6 ↑(s-2^v);let z2:=bF (scF F q') (k+1);let z3:=nF (sL s b' la) size;let z4:=uF (sP s b' pa) size;let z5:=bF (sB s b' B) size;let z6:=u6 (↑(nxM p (s-2^v)):Int);let z7:=rgT size lim n (s-2^v) s v;let z8:=entM q' (k+1);An [An [Tt,Tt],FnOk Pg g0 65 [u6 ↑p] (i6 ↑(popc p)),Tt,decide ((↑(popc p):Int)≤(↑lim:Int))=false,binV (Qad Pg) .sub 28 (u6 ↑p) z1=some z6,binV (Qad Pg) .and 28 z6 z1=some (u6 z0),(z0==(0:Int))=false,An [Tt,Sm [i6 ↑lim],Sm [z1],z0=z0,Tt],An [Sm [sl cards,gC cs],TT 2],An [Sm [V.nilp],Tt,Tt],An [Sm [V.nils,V.nils],TT 2],An [Sm [i6 0],Tt,Tt],An [z5=z5,HfL z5],An [z8=z8,HfE z8,Sm (k+1)],An [An [Sm cards.length,Sm (ints cards)],An [Sm cs.length,Sm (List.map sl cs)],z9,Tt,An [Zz,Sm (k+1),Tt],Tt],An [Zz,Tt],An [z3=z3,HfL z3],An [z4=z4,HfL z4],An [z9,z9,Tt],An [Sm [i6 ↑s],Tt,Tt],An [Sm [V.bool (Qao b')],Tt,Tt],An [An [Zz,Zz,Zz,Zz,Tt],Tt],An [Sm [i6 ↑v],Tt,Tt],Tt,An [lbO size lim n (s-2^v) s v .ready=O.loop .ready none 0 z7 [62] rgA rgB,LowT 17 z7],An [z2=z2,HfL z2],Tt])=_) ?_
    (repeat'(first|(with_reducible apply And.intro)|(refine fun(_:True)=>?_)))
    all_goals first|(with_reducible exact hsu _ _)|(with_reducible exact han _ _)|exact aq|exact hone|exact hcall|exact hl|exact hB|exact hB1|exact hS|exact hS0|exact hE|exact hE0|exact hla|exact hpa|exact hla1|exact hpa1|exact hsu _ _|exact han _ _|rfl|skip
set_option maxHeartbeats 4000000
set_option maxRecDepth 100000
section
variable (cards:List Int) (cs:List (List Int)) (F:Nat→Nat→Nat→Int) (size lim n:Nat) (q:Nat→Nat×Nat) (s:Nat) (b:BSt) (B:Nat→Nat→Int) (la pa:Nat→Nat) (v:Nat)
abbrev cmO(hs k:Nat):List O:=[.row 32 none [sl cards,gC cs],.row 153 none [.nilp],.row 77 none [.nils,.nils],.row 36 none [i6 0],.row 41 none (bF (sB s b B) size),.map (entM q k) k,.row 158 none (toC cards cs size 4 5 hs k),.row 153 none [.ptr 6 0],.row 3 none (nF (sL s b la) size),.row 28 none (uF (sP s b pa) size),.row 77 none [.sl 8 0 size (some (size-size)),.sl 9 0 size (some (size-size))],.row 3 none [i6 (s:Nat)],.row 4 none [.bool (Qao b)],.row 184 none [.fn 109 [.ptr 7 0,.ptr 11 0,.ptr 12 0,.ptr 10 0]]]
abbrev vS1(k:Nat):SL:={sl:=clZ size lim n s v,os:=cmO cards cs size q s b B la pa 14 (k+1)++[scO F q k],md:=clM}
abbrev rS0:SL:={sl:=rgZ size lim n (s-2^v) s v,os:=clO cards cs size q s b B la pa v 15 0,md:=clM}
abbrev rS1(k:Nat):SL:={sl:=rgZ size lim n (s-2^v) s v,os:=clO cards cs size q s b B la pa v 15 (k+1)++[scO F q k],md:=clM}
end
theorem parts_A(cards:List Int)(cs:List (List Int))(F:Nat→Nat→Nat→Int)(size lim n:Nat)(q:Nat→Nat×Nat)(s:Nat)(b:BSt)(B:Nat→Nat→Int)(la pa:Nat→Nat)(v:Nat)(h:Qdw cards cs F size lim s v B)(hG:GoodB b)(q1:Nat→Nat×Nat)(k1:Nat)(b1:BSt)(hfin:innA lim s v q 0 (s+1)=(q1,k1+1))(hb1:innB lim F B s v b (s+1)=b1):
  CallSpec Pg g0 (.fn 122 [.imp [i6 (lim:Nat)],.imp [u6 (s-2^v:Nat)]]) [.yld 15] (ofOs .e 0 (ykA cards cs size lim n (s-2^v) q s b B la pa v .ready)) 16 ⟨.tup [],ofOs .e 0 (ykC cards cs F size lim n (s-2^v) q1 s b1 B la pa v .ready k1),17,[4,5,6,8,9,12,15]⟩:=by
 have l:Sat Pg none 16 (at' 122 [1,0]) (mkSt g0 22 (kpaS cards cs F size lim n s B la pa v (0,q,0,b))) (Qaf g0 22 [(True,.ret,{sl:=[],os:=ykC cards cs F size lim n (s-2^v) q1 s b1 B la pa v .ready k1,md:=clM,lg:=[4,5,6,8,9,12,15]})]):=Qmn cards cs F size lim n q s b B la pa v h hG q1 k1 b1 hfin hb1
 have hl:=Qky size lim n (s-2^v) s v 16 (by decide)
 have hB:=Qaa (sB s b B) size
 have hB1:=Qaa (sB s b1 B) size
 have hS:=Qaa (scF F q1) (k1+1)
 have hE:=Qac q1 (k1+1)
 have hS0:=Qaa (scF F q) 0
 have hE0:=Qac q 0
 have hla:=Qah (sL s b la) size
 have hpa:=Qag (sP s b pa) size
 have hla1:=Qah (sL s b1 la) size
 have hpa1:=Qag (sP s b1 pa) size
 have hc:=Qae cards
 have hg:=Qas cs
 clear h
 refine CallSpec.caps (caps:=[.imp [i6 (lim:Nat)],.imp [u6 (s-2^v:Nat)]]) (ars:=[.yld 15]) ?_
 refine CallSpec.of_vcH (P:=Pg) (E:=vE) vE_ok mixed Qab (n:=1000) (f:=122) (os0:=ykA cards cs size lim n (s-2^v) q s b B la pa v .ready) (ars:=[.yld 15,.imp [i6 (lim:Nat)],.imp [u6 (s-2^v:Nat)]]) (r:=[16])
  (S := { sl := [], os := ykC cards cs F size lim n (s - 2 ^ v) q1 s b1 B la pa v .ready k1, md := clM, lg := [4, 5, 6, 8, 9, 12, 15] }) (v := .tup []) (hs := [(0, .loop [] (kpaS cards cs F size lim n s B la pa v (0, q, 0, b)) [(True, .ret, { sl := [], os := ykC cards cs F size lim n (s - 2 ^ v) q1 s b1 B la pa v .ready k1, md := clM, lg := [4, 5, 6, 8, 9, 12, 15] })])]) (gl := g0) (by simp) (fun i hi hno => by
   rcases(show i=0∨i=1∨i=2∨i=3∨i=4∨i=5∨i=6∨i=7∨i=8∨i=9∨i=10∨i=11∨i=12∨i=13∨i=14∨i=15 by simp at hi;omega)with rfl|rfl|rfl|rfl|rfl|rfl|rfl|rfl|rfl|rfl|rfl|rfl|rfl|rfl|rfl|rfl<;>first|rfl|(simp at hno)) ?_
 refine Eq.mp (by kernel_rfl:(let y7:=An [Zz,Sm size,Sm (size-size)];let y8:=An [An [Zz,Zz,Zz,Zz,Tt],Tt];let y9:=An [Sm [V.nilp],Tt,Tt];let x0:=An [Sm [i6 0],Tt,Tt];let z0:=rgT size lim n (s-2^v) s v;let z1:=[sl cards,gC cs];let z2:=[V.nils,V.nils];let z3:=bF (scF F q1) (k1+1);let z4:=nF (sL s b1 la) size;let z5:=uF (sP s b1 pa) size;let z6:=List.map sl cs;let z7:=nF (sL s b la) size;let z8:=uF (sP s b pa) size;let z9:=bF (sB s b1 B) size;let y0:=lbO size lim n (s-2^v) s v .ready;let y1:=bF (sB s b B) size;let y3:=entM q1 (k1+1);let y4:=ints cards;let y5:=[i6 ↑s];let y6:=[i6 ↑v];let y2:=O.loop .ready none 0 z0 [62] rgA rgB;An [Sm (V.tup []),An [An [Tt,Sm [i6 ↑lim],Sm [u6 ↑(s-2^v)],(↑(0:Nat):Int)=(0:Int),Tt],An [z1=z1,TT 2],y9,An [z2=z2,TT 2],x0,An [y1=y1,HfL y1],An [Sm (entM q 0),HfE (entM q 0),Zz],An [An [Sm cards.length,y4=y4],An [Sm cs.length,z6=z6],y7,TT 2],An [Zz,Tt],An [z7=z7,HfL z7],An [z8=z8,HfL z8],An [y7,y7,Tt],An [y5=y5,Tt,Tt],An [Sm [V.bool (Qao b)],Tt,Tt],y8,An [y6=y6,Tt,Tt],An [y0=y2,LowT 16 z0],Tt],Sat Pg none 16 (at' 122 [1,0]) (mkSt g0 22 (kpaS cards cs F size lim n s B la pa v (0,q,0,b))) (Qaf g0 22 [(True,Ex.ret,SL.mk [] (ykC cards cs F size lim n (s-2^v) q1 s b1 B la pa v .ready k1) [4,5,6,8,9,12,15] clM)]),(True→An [Tt,An [z1=z1,TT 2],y9,An [z2=z2,TT 2],x0,An [z9=z9,HfL z9],An [y3=y3,HfE y3,Sm (k1+1)],An [An [Sm cards.length,y4=y4],An [Sm cs.length,z6=z6],y7,Tt,An [Zz,Sm (k1+1),Tt],Tt],An [Zz,Tt],An [z4=z4,HfL z4],An [z5=z5,HfL z5],An [y7,y7,Tt],An [y5=y5,Tt,Tt],An [Sm [V.bool (Qao b1)],Tt,Tt],y8,An [y6=y6,Tt,Tt],An [y0=y2,LowT 16 z0],An [z3=z3,HfL z3],Tt]),Tt])=_) ?_
 (repeat'(first|(with_reducible apply And.intro)|(refine fun(_:True)=>?_)))
 all_goals first|exact l|exact aq|exact hl|exact hB|exact hB1|exact hS|exact hS0|exact hE|exact hE0|exact hla|exact hpa|exact hla1|exact hpa1|rfl|skip
theorem parts_B(cards:List Int)(cs:List (List Int))(F:Nat→Nat→Nat→Int)(size lim n:Nat)(q:Nat→Nat×Nat)(s:Nat)(b:BSt)(B:Nat→Nat→Int)(la pa:Nat→Nat)(v:Nat)(k0:Nat)(hk0:k0≤10000)(h:Qdw cards cs F size lim s v B)(hG:GoodB b)(q1:Nat→Nat×Nat)(k1:Nat)(b1:BSt)(hfin:innA lim s v q (k0+1) (s+1)=(q1,k1+1))(hb1:innB lim F B s v b (s+1)=b1)(he:k1=k0):
  CallSpec Pg g0 (.fn 122 [.imp [i6 (lim:Nat)],.imp [u6 (s-2^v:Nat)]]) [.yld 16] (ofOs .e 0 (ykB cards cs F size lim n (s-2^v) q s b B la pa v .ready k0)) 17 ⟨.tup [],ofOs .e 0 (ykB cards cs F size lim n (s-2^v) q1 s b1 B la pa v .ready k1),17,[4,5,6,8,9,12,15,16]⟩:=by
 have l:Sat Pg none 17 (at' 122 [1,0]) (mkSt g0 22 (kpbS cards cs F size lim n s B la pa v (0,q,k0,b,false))) (Qaf g0 22 [(True,.ret,{sl:=[],os:=ykB cards cs F size lim n (s-2^v) q1 s b1 B la pa v .ready k1,md:=clM,lg:=[4,5,6,8,9,12,15,16]})]):=(Qgj cards cs F size lim n q s b B la pa v k0 hk0 h hG q1 k1 b1 hfin hb1).mono (fun e st hh=>by rcases hh with⟨_,h2⟩|⟨h1,_⟩|hh;exact .inl ⟨trivial,h2⟩;exact absurd he h1;exact hh.elim)
 have hl:=Qky size lim n (s-2^v) s v 17 (by decide)
 have hB:=Qaa (sB s b B) size
 have hB1:=Qaa (sB s b1 B) size
 have hS:=Qaa (scF F q1) (k1+1)
 have hE:=Qac q1 (k1+1)
 have hS0:=Qaa (scF F q) (k0+1)
 have hE0:=Qac q (k0+1)
 have hla:=Qah (sL s b la) size
 have hpa:=Qag (sP s b pa) size
 have hla1:=Qah (sL s b1 la) size
 have hpa1:=Qag (sP s b1 pa) size
 have hc:=Qae cards
 have hg:=Qas cs
 clear h
 refine CallSpec.caps (caps:=[.imp [i6 (lim:Nat)],.imp [u6 (s-2^v:Nat)]]) (ars:=[.yld 16]) ?_
 refine CallSpec.of_vcH (P:=Pg) (E:=vE) vE_ok mixed Qab (n:=1000) (f:=122) (os0:=ykB cards cs F size lim n (s-2^v) q s b B la pa v .ready k0) (ars:=[.yld 16,.imp [i6 (lim:Nat)],.imp [u6 (s-2^v:Nat)]]) (r:=[])
  (S := { sl := [], os := ykB cards cs F size lim n (s - 2 ^ v) q1 s b1 B la pa v .ready k1, md := clM, lg := [4, 5, 6, 8, 9, 12, 15, 16] }) (v := .tup []) (hs := [(0, .loop [] (kpbS cards cs F size lim n s B la pa v (0, q, k0, b, false)) [(True, .ret, { sl := [], os := ykB cards cs F size lim n (s - 2 ^ v) q1 s b1 B la pa v .ready k1, md := clM, lg := [4, 5, 6, 8, 9, 12, 15, 16] })])]) (gl := g0) (by simp) (fun i hi hno => by
   rcases(show i=0∨i=1∨i=2∨i=3∨i=4∨i=5∨i=6∨i=7∨i=8∨i=9∨i=10∨i=11∨i=12∨i=13∨i=14∨i=15∨i=16 by simp at hi;omega)with rfl|rfl|rfl|rfl|rfl|rfl|rfl|rfl|rfl|rfl|rfl|rfl|rfl|rfl|rfl|rfl|rfl<;>first|rfl|(simp at hno)) ?_
 refine Eq.mp (by kernel_rfl:(let y9:=An [Zz,Sm size,Sm (size-size)];let x0:=An [An [Zz,Zz,Zz,Zz,Tt],Tt];let x1:=An [Sm [V.nilp],Tt,Tt];let x2:=An [Sm [i6 0],Tt,Tt];let z0:=rgT size lim n (s-2^v) s v;let z1:=[sl cards,gC cs];let z2:=[V.nils,V.nils];let z3:=bF (scF F q1) (k1+1);let z4:=bF (scF F q) (k0+1);let z5:=nF (sL s b1 la) size;let z6:=uF (sP s b1 pa) size;let z7:=List.map sl cs;let z8:=nF (sL s b la) size;let z9:=uF (sP s b pa) size;let y0:=bF (sB s b1 B) size;let y1:=lbO size lim n (s-2^v) s v .ready;let y2:=bF (sB s b B) size;let y4:=entM q1 (k1+1);let y5:=entM q (k0+1);let y6:=ints cards;let y7:=[i6 ↑s];let y8:=[i6 ↑v];let y3:=O.loop .ready none 0 z0 [62] rgA rgB;An [Sm (V.tup []),An [An [Tt,Sm [i6 ↑lim],Sm [u6 ↑(s-2^v)],(↑(0:Nat):Int)=(0:Int),Tt],An [z1=z1,TT 2],x1,An [z2=z2,TT 2],x2,An [y2=y2,HfL y2],An [y5=y5,HfE y5,Sm (k0+1)],An [An [Sm cards.length,y6=y6],An [Sm cs.length,z7=z7],y9,Tt,An [Zz,Sm (k0+1),Tt],Tt],An [Zz,Tt],An [z8=z8,HfL z8],An [z9=z9,HfL z9],An [y9,y9,Tt],An [y7=y7,Tt,Tt],An [Sm [V.bool (Qao b)],Tt,Tt],x0,An [y8=y8,Tt,Tt],An [z4=z4,HfL z4],An [y1=y3,LowT 17 z0],Tt],Sat Pg none 17 (at' 122 [1,0]) (mkSt g0 22 (kpbS cards cs F size lim n s B la pa v (0,q,k0,b,false))) (Qaf g0 22 [(True,Ex.ret,SL.mk [] (ykB cards cs F size lim n (s-2^v) q1 s b1 B la pa v .ready k1) [4,5,6,8,9,12,15,16] clM)]),(True→An [Tt,An [z1=z1,TT 2],x1,An [z2=z2,TT 2],x2,An [y0=y0,HfL y0],An [y4=y4,HfE y4,Sm (k1+1)],An [An [Sm cards.length,y6=y6],An [Sm cs.length,z7=z7],y9,Tt,An [Zz,Sm (k1+1),Tt],Tt],An [Zz,Tt],An [z5=z5,HfL z5],An [z6=z6,HfL z6],An [y9,y9,Tt],An [y7=y7,Tt,Tt],An [Sm [V.bool (Qao b1)],Tt,Tt],x0,An [y8=y8,Tt,Tt],An [z3=z3,HfL z3],An [y1=y3,LowT 17 z0],Tt]),Tt])=_) ?_
 (repeat'(first|(with_reducible apply And.intro)|(refine fun(_:True)=>?_)))
 all_goals first|exact l|exact aq|exact hl|exact hB|exact hB1|exact hS|exact hS0|exact hE|exact hE0|exact hla|exact hpa|exact hla1|exact hpa1|rfl|skip
theorem parts_D(cards:List Int)(cs:List (List Int))(F:Nat→Nat→Nat→Int)(size lim n:Nat)(q:Nat→Nat×Nat)(s:Nat)(b:BSt)(B:Nat→Nat→Int)(la pa:Nat→Nat)(v:Nat)(k0:Nat)(hk0:k0≤10000)(h:Qdw cards cs F size lim s v B)(hG:GoodB b)(q1:Nat→Nat×Nat)(k1:Nat)(b1:BSt)(hfin:innA lim s v q (k0+1) (s+1)=(q1,k1+1))(hb1:innB lim F B s v b (s+1)=b1)(he:k1≠k0):
  CallSpec Pg g0 (.fn 122 [.imp [i6 (lim:Nat)],.imp [u6 (s-2^v:Nat)]]) [.yld 16] (ofOs .e 0 (ykB cards cs F size lim n (s-2^v) q s b B la pa v .ready k0)) 17 ⟨.tup [],ofOs .e 0 (ykD cards cs F size lim n (s-2^v) q1 s b1 B la pa v .ready k1),18,[4,5,6,8,9,12,15,16]⟩:=by
 have l:Sat Pg none 17 (at' 122 [1,0]) (mkSt g0 22 (kpbS cards cs F size lim n s B la pa v (0,q,k0,b,false))) (Qaf g0 22 [(True,.ret,{sl:=[],os:=ykD cards cs F size lim n (s-2^v) q1 s b1 B la pa v .ready k1,md:=clM,lg:=[4,5,6,8,9,12,15,16]})]):=(Qgj cards cs F size lim n q s b B la pa v k0 hk0 h hG q1 k1 b1 hfin hb1).mono (fun e st hh=>by rcases hh with⟨h1,_⟩|⟨_,h2⟩|hh;exact absurd h1 he;exact .inl ⟨trivial,h2⟩;exact hh.elim)
 have hl:=Qky size lim n (s-2^v) s v 17 (by decide)
 have hB:=Qaa (sB s b B) size
 have hB1:=Qaa (sB s b1 B) size
 have hS:=Qaa (scF F q1) (k1+1)
 have hE:=Qac q1 (k1+1)
 have hS0:=Qaa (scF F q) (k0+1)
 have hE0:=Qac q (k0+1)
 have hla:=Qah (sL s b la) size
 have hpa:=Qag (sP s b pa) size
 have hla1:=Qah (sL s b1 la) size
 have hpa1:=Qag (sP s b1 pa) size
 have hc:=Qae cards
 have hg:=Qas cs
 clear h
 refine CallSpec.caps (caps:=[.imp [i6 (lim:Nat)],.imp [u6 (s-2^v:Nat)]]) (ars:=[.yld 16]) ?_
 refine CallSpec.of_vcH (P:=Pg) (E:=vE) vE_ok mixed Qab (n:=1000) (f:=122) (os0:=ykB cards cs F size lim n (s-2^v) q s b B la pa v .ready k0) (ars:=[.yld 16,.imp [i6 (lim:Nat)],.imp [u6 (s-2^v:Nat)]]) (r:=[17])
  (S := { sl := [], os := ykD cards cs F size lim n (s - 2 ^ v) q1 s b1 B la pa v .ready k1, md := clM, lg := [4, 5, 6, 8, 9, 12, 15, 16] }) (v := .tup []) (hs := [(0, .loop [] (kpbS cards cs F size lim n s B la pa v (0, q, k0, b, false)) [(True, .ret, { sl := [], os := ykD cards cs F size lim n (s - 2 ^ v) q1 s b1 B la pa v .ready k1, md := clM, lg := [4, 5, 6, 8, 9, 12, 15, 16] })])]) (gl := g0) (by simp) (fun i hi hno => by
   rcases(show i=0∨i=1∨i=2∨i=3∨i=4∨i=5∨i=6∨i=7∨i=8∨i=9∨i=10∨i=11∨i=12∨i=13∨i=14∨i=15∨i=16 by simp at hi;omega)with rfl|rfl|rfl|rfl|rfl|rfl|rfl|rfl|rfl|rfl|rfl|rfl|rfl|rfl|rfl|rfl|rfl<;>first|rfl|(simp at hno)) ?_
 refine Eq.mp (by kernel_rfl:(let y9:=An [Zz,Sm size,Sm (size-size)];let x0:=An [An [Zz,Zz,Zz,Zz,Tt],Tt];let x1:=An [Sm [V.nilp],Tt,Tt];let x2:=An [Sm [i6 0],Tt,Tt];let z0:=rgT size lim n (s-2^v) s v;let z1:=[sl cards,gC cs];let z2:=[V.nils,V.nils];let z3:=bF (scF F q1) (k1+1);let z4:=bF (scF F q) (k0+1);let z5:=nF (sL s b1 la) size;let z6:=uF (sP s b1 pa) size;let z7:=List.map sl cs;let z8:=nF (sL s b la) size;let z9:=uF (sP s b pa) size;let y0:=bF (sB s b1 B) size;let y1:=lbO size lim n (s-2^v) s v .ready;let y2:=bF (sB s b B) size;let y4:=entM q1 (k1+1);let y5:=entM q (k0+1);let y6:=ints cards;let y7:=[i6 ↑s];let y8:=[i6 ↑v];let y3:=O.loop .ready none 0 z0 [62] rgA rgB;An [Sm (V.tup []),An [An [Tt,Sm [i6 ↑lim],Sm [u6 ↑(s-2^v)],(↑(0:Nat):Int)=(0:Int),Tt],An [z1=z1,TT 2],x1,An [z2=z2,TT 2],x2,An [y2=y2,HfL y2],An [y5=y5,HfE y5,Sm (k0+1)],An [An [Sm cards.length,y6=y6],An [Sm cs.length,z7=z7],y9,Tt,An [Zz,Sm (k0+1),Tt],Tt],An [Zz,Tt],An [z8=z8,HfL z8],An [z9=z9,HfL z9],An [y9,y9,Tt],An [y7=y7,Tt,Tt],An [Sm [V.bool (Qao b)],Tt,Tt],x0,An [y8=y8,Tt,Tt],An [z4=z4,HfL z4],An [y1=y3,LowT 17 z0],Tt],Sat Pg none 17 (at' 122 [1,0]) (mkSt g0 22 (kpbS cards cs F size lim n s B la pa v (0,q,k0,b,false))) (Qaf g0 22 [(True,Ex.ret,SL.mk [] (ykD cards cs F size lim n (s-2^v) q1 s b1 B la pa v .ready k1) [4,5,6,8,9,12,15,16] clM)]),(True→An [Tt,An [z1=z1,TT 2],x1,An [z2=z2,TT 2],x2,An [y0=y0,HfL y0],An [y4=y4,HfE y4,Sm (k1+1)],An [An [Sm cards.length,y6=y6],An [Sm cs.length,z7=z7],y9,Tt,An [Zz,Sm (k1+1),Tt],Tt],An [Zz,Tt],An [z5=z5,HfL z5],An [z6=z6,HfL z6],An [y9,y9,Tt],An [y7=y7,Tt,Tt],An [Sm [V.bool (Qao b1)],Tt,Tt],x0,An [y8=y8,Tt,Tt],Tt,An [y1=y3,LowT 17 z0],An [z3=z3,HfL z3],Tt]),Tt])=_) ?_
 (repeat'(first|(with_reducible apply And.intro)|(refine fun(_:True)=>?_)))
 all_goals first|exact l|exact aq|exact hl|exact hB|exact hB1|exact hS|exact hS0|exact hE|exact hE0|exact hla|exact hpa|exact hla1|exact hpa1|rfl|skip
theorem range_A(cards:List Int)(cs:List (List Int))(F:Nat→Nat→Nat→Int)(size lim n:Nat)(q:Nat→Nat×Nat)(s:Nat)(b:BSt)(B:Nat→Nat→Int)(la pa:Nat→Nat)(v:Nat)(h:Qdw cards cs F size lim s v B)(hG:GoodB b)(q1:Nat→Nat×Nat)(k1:Nat)(b1:BSt)(hfin:innA lim s v q 0 (s+1)=(q1,k1+1))(hb1:innB lim F B s v b (s+1)=b1):
  Sat Pg none 0 rgC (mkSt g0 75 (rS0 cards cs size lim n q s b B la pa v)) (Qaf g0 75 [(True,.normal,vS1 cards cs F size lim n q1 s b1 B la pa v k1)]):=by
 rw[rg_eq]
 have hB:=Qaa (sB s b B) size
 have hB1:=Qaa (sB s b1 B) size
 have hS:=Qaa (scF F q1) (k1+1)
 have hE:=Qac q1 (k1+1)
 have hS0:=Qaa (scF F q) 0
 have hE0:=Qac q 0
 have hla:=Qah (sL s b la) size
 have hpa:=Qag (sP s b pa) size
 have hla1:=Qah (sL s b1 la) size
 have hpa1:=Qag (sP s b1 pa) size
 have hc:=Qae cards
 have hg:=Qas cs
 have hcall:=parts_A cards cs F size lim n q s b B la pa v h hG q1 k1 b1 hfin hb1
 clear h
 refine Sat.rangeC (gl:=g0) (r:=[0,1,2,3,4,5,6,7,8,9,10,11,12,13,16]) (S:=rS0 cards cs size lim n q s b B la pa v) (f:=122) (caps:=[.imp [i6 (lim:Nat)],.imp [u6 (s-2^v:Nat)]]) (H1:=ofOs .e 0 (ykC cards cs F size lim n (s-2^v) q1 s b1 B la pa v .ready k1)) (nx1:=17) (v:=.tup []) rfl rfl hcall (by kernel_rfl) ?_
 refine Eq.mp (by kernel_rfl:(let z6:=An [Zz,Sm size,Sm (size-size)];let z0:=bF (scF F q1) (k1+1);let z1:=(↑size:Int);let z2:=nF (sL s b1 la) size;let z3:=uF (sP s b1 pa) size;let z4:=bF (sB s b1 B) size;let z5:=entM q1 (k1+1);An [An [Sm (↑lim:Int),Zz,Zz,Zz,Zz,z1=z1,Zz,Zz,Zz,Zz,Zz,z1=z1,Sm (↑s:Int),Sm (↑n:Int),Sm (↑v:Int),Tt],An [Sm [sl cards,gC cs],TT 2],An [Sm [V.nilp],Tt,Tt],An [Sm [V.nils,V.nils],TT 2],An [Sm [i6 0],Tt,Tt],An [z4=z4,HfL z4],An [z5=z5,HfE z5,Sm (k1+1)],An [An [Sm cards.length,Sm (ints cards)],An [Sm cs.length,Sm (List.map sl cs)],z6,Tt,An [Zz,Sm (k1+1),Tt],Tt],An [Zz,Tt],An [z2=z2,HfL z2],An [z3=z3,HfL z3],An [z6,z6,Tt],An [Sm [i6 ↑s],Tt,Tt],An [Sm [V.bool (Qao b1)],Tt,Tt],An [An [Zz,Zz,Zz,Zz,Tt],Tt],An [z0=z0,HfL z0],Tt])=_) ?_
 (repeat'(first|(with_reducible apply And.intro)|(refine fun(_:True)=>?_)))
 all_goals first|exact aq|exact hl|exact hB|exact hB1|exact hS|exact hS0|exact hE|exact hE0|exact hla|exact hpa|exact hla1|exact hpa1|rfl|skip
theorem range_B(cards:List Int)(cs:List (List Int))(F:Nat→Nat→Nat→Int)(size lim n:Nat)(q:Nat→Nat×Nat)(s:Nat)(b:BSt)(B:Nat→Nat→Int)(la pa:Nat→Nat)(v:Nat)(k0:Nat)(hk0:k0≤10000)(h:Qdw cards cs F size lim s v B)(hG:GoodB b)(q1:Nat→Nat×Nat)(k1:Nat)(b1:BSt)(hfin:innA lim s v q (k0+1) (s+1)=(q1,k1+1))(hb1:innB lim F B s v b (s+1)=b1):
  Sat Pg none 0 rgC (mkSt g0 75 (rS1 cards cs F size lim n q s b B la pa v k0)) (Qaf g0 75 [(True,.normal,vS1 cards cs F size lim n q1 s b1 B la pa v k1)]):=by
 rw[rg_eq]
 have hB:=Qaa (sB s b B) size
 have hB1:=Qaa (sB s b1 B) size
 have hS:=Qaa (scF F q1) (k1+1)
 have hE:=Qac q1 (k1+1)
 have hS0:=Qaa (scF F q) (k0+1)
 have hE0:=Qac q (k0+1)
 have hla:=Qah (sL s b la) size
 have hpa:=Qag (sP s b pa) size
 have hla1:=Qah (sL s b1 la) size
 have hpa1:=Qag (sP s b1 pa) size
 have hc:=Qae cards
 have hg:=Qas cs
 by_cases he:k1=k0
 ·skip
  have hcall:=parts_B cards cs F size lim n q s b B la pa v k0 hk0 h hG q1 k1 b1 hfin hb1 he
  clear h
  refine Sat.rangeC (gl:=g0) (r:=[0,1,2,3,4,5,6,7,8,9,10,11,12,13,15]) (S:=rS1 cards cs F size lim n q s b B la pa v k0) (f:=122) (caps:=[.imp [i6 (lim:Nat)],.imp [u6 (s-2^v:Nat)]]) (H1:=ofOs .e 0 (ykB cards cs F size lim n (s-2^v) q1 s b1 B la pa v .ready k1)) (nx1:=17) (v:=.tup []) rfl rfl hcall (by kernel_rfl) ?_
  refine Eq.mp (by kernel_rfl:(let z6:=An [Zz,Sm size,Sm (size-size)];let z0:=bF (scF F q1) (k1+1);let z1:=(↑size:Int);let z2:=nF (sL s b1 la) size;let z3:=uF (sP s b1 pa) size;let z4:=bF (sB s b1 B) size;let z5:=entM q1 (k1+1);An [An [Sm (↑lim:Int),Zz,Zz,Zz,Zz,z1=z1,Zz,Zz,Zz,Zz,Zz,z1=z1,Sm (↑s:Int),Sm (↑n:Int),Sm (↑v:Int),Tt],An [Sm [sl cards,gC cs],TT 2],An [Sm [V.nilp],Tt,Tt],An [Sm [V.nils,V.nils],TT 2],An [Sm [i6 0],Tt,Tt],An [z4=z4,HfL z4],An [z5=z5,HfE z5,Sm (k1+1)],An [An [Sm cards.length,Sm (ints cards)],An [Sm cs.length,Sm (List.map sl cs)],z6,Tt,An [Zz,Sm (k1+1),Tt],Tt],An [Zz,Tt],An [z2=z2,HfL z2],An [z3=z3,HfL z3],An [z6,z6,Tt],An [Sm [i6 ↑s],Tt,Tt],An [Sm [V.bool (Qao b1)],Tt,Tt],An [An [Zz,Zz,Zz,Zz,Tt],Tt],An [z0=z0,HfL z0],Tt])=_) ?_
  (repeat'(first|(with_reducible apply And.intro)|(refine fun(_:True)=>?_)))
  all_goals first|exact aq|exact hl|exact hB|exact hB1|exact hS|exact hS0|exact hE|exact hE0|exact hla|exact hpa|exact hla1|exact hpa1|rfl|skip
 ·skip
  have hcall:=parts_D cards cs F size lim n q s b B la pa v k0 hk0 h hG q1 k1 b1 hfin hb1 he
  clear h
  refine Sat.rangeC (gl:=g0) (r:=[0,1,2,3,4,5,6,7,8,9,10,11,12,13,17]) (S:=rS1 cards cs F size lim n q s b B la pa v k0) (f:=122) (caps:=[.imp [i6 (lim:Nat)],.imp [u6 (s-2^v:Nat)]]) (H1:=ofOs .e 0 (ykD cards cs F size lim n (s-2^v) q1 s b1 B la pa v .ready k1)) (nx1:=18) (v:=.tup []) rfl rfl hcall (by kernel_rfl) ?_
  refine Eq.mp (by kernel_rfl:(let z6:=An [Zz,Sm size,Sm (size-size)];let z0:=bF (scF F q1) (k1+1);let z1:=(↑size:Int);let z2:=nF (sL s b1 la) size;let z3:=uF (sP s b1 pa) size;let z4:=bF (sB s b1 B) size;let z5:=entM q1 (k1+1);An [An [Sm (↑lim:Int),Zz,Zz,Zz,Zz,z1=z1,Zz,Zz,Zz,Zz,Zz,z1=z1,Sm (↑s:Int),Sm (↑n:Int),Sm (↑v:Int),Tt],An [Sm [sl cards,gC cs],TT 2],An [Sm [V.nilp],Tt,Tt],An [Sm [V.nils,V.nils],TT 2],An [Sm [i6 0],Tt,Tt],An [z4=z4,HfL z4],An [z5=z5,HfE z5,Sm (k1+1)],An [An [Sm cards.length,Sm (ints cards)],An [Sm cs.length,Sm (List.map sl cs)],z6,Tt,An [Zz,Sm (k1+1),Tt],Tt],An [Zz,Tt],An [z2=z2,HfL z2],An [z3=z3,HfL z3],An [z6,z6,Tt],An [Sm [i6 ↑s],Tt,Tt],An [Sm [V.bool (Qao b1)],Tt,Tt],An [An [Zz,Zz,Zz,Zz,Tt],Tt],An [z0=z0,HfL z0],Tt])=_) ?_
  (repeat'(first|(with_reducible apply And.intro)|(refine fun(_:True)=>?_)))
  all_goals first|exact aq|exact hl|exact hB|exact hB1|exact hS|exact hS0|exact hE|exact hE0|exact hla|exact hpa|exact hla1|exact hpa1|rfl|skip
end Go.Proofs.YtglpoiaedkoecaaDoor.Am
