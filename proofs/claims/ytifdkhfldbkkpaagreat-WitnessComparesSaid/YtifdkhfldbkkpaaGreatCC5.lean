/- Texts behind the claim, part 5: the abstract machine, and what the functions answer. No condition. -/
import Derived.Test.YtifdkhfldbkkpaaGreatCC4
set_option linter.unusedVariables false
set_option maxHeartbeats 4000000
set_option maxRecDepth 100000
set_option linter.unusedSimpArgs false
set_option linter.unusedSectionVars false
namespace Go.Proofs.YtifdkhfldbkkpaaGreat.Am
open Go.RowKit
variable{c:Code}{e:Ex}{g:Int}{R:List (List Int)}{L s u:List Int}{N:List Mc}{ars:List V}{f i n nx:Nat}{P:Program}{S:SL}{gl:T (List V)}{H:T O}{w:World}
noncomputable def Mq(H:T O):V->V->Bool
 | .tup l,y=>match y with
  | .tup l'=>Pn H l l'
  | _=>false
 |x,y=>K3 H x y
theorem EW{ρ:Nat->Option Nat}: ∀(x y:V),Mq H x y=true->Bo H.get (λ_=>True) ρ x y
 | .tup l,y,h=>by
  cases y with
  |tup l'=>exact⟨l',rfl,LJ l l' (by simpa [Mq]using h)⟩
  | _=>simp[Mq]at h
 | .bool _,y,h| .int _ _,y,h| .str _,y,h| .nilp,y,h| .nilf,y,h| .nili,y,h| .nils,y,h| .nilm,y,h| .agg _,y,h| .im _ _,y,h| .imp _,y,h| .fn _ _,y,h| .mfn _ _,y,h| .ifc _ _,y,h| .ptr _ _,y,h| .sl _ _ _ _,y,h| .mp _,y,h| .yld _,y,h=>kV _ y h
theorem pV{s:Av}{w':World}{v v0:V}{lg:List Nat}{ee:Ending}(hH:RH s w (T.e:T O).get)(hn: ∀i,0<=i->¬s.dom i)(hv:Mq H v v0=true)(hf:Hf v)(h:Ge s w 0 ⟨v0,H,nx,lg⟩ ee w'):Ge s w 0 ⟨v,.e,0,[]⟩ ee w':=by
 obtain⟨u,s',rfl,g1,g2,g3,g4,g5⟩:=h
 have hr: ∀g t sp c,H.get g=some (.row t sp c)->s'.dom g/\s'.μ g<w'.heap.size:=λg t sp c hg=>by
  obtain⟨a,b,_⟩:=g2.obj g _ hg rfl
  exact⟨a,b⟩
 have hrv:RV {s' with fz:=λb=>s'.fz b\/∃g t sp c,H.get g=some (.row t sp c)/\b=s'.μ g} w' v u:=Bo.rv (s':={s' with fz:=λb=>s'.fz b\/∃g t sp c,H.get g=some (.row t sp c)/\b=s'.μ g}) g2 ⟨λ_ _ e=>(by cases e),λg t sp c _ hg=>.inr ⟨g,t,sp,c,hg,rfl⟩,λb hb=>.inl hb⟩ v v0 u (EW (ρ:=λ_=>none) v v0 hv) g1
 have hst:Br s w {s' with fz:=λb=>s'.fz b\/∃g t sp c,H.get g=some (.row t sp c)/\b=s'.μ g} w' lg:=⟨⟨⟨g3.le.μ,g3.le.cp,g3.le.dom,λb hb=>.inl (g3.le.fz b hb)⟩,g3.le.mark⟩,λb hb=>by
  rcases hb with hb|⟨g,t,sp,c,hg,rfl⟩
  .exact g3.fz b hb
  .obtain⟨a,_⟩:=hr g t sp c hg
   rcases g3.new g a (hn g (aG _))with h|⟨k,_,h,_⟩
   .exact .inr (.inl h)
   .exact absurd h (hn k (aG _)),g3.kept,g3.mod,g3.new⟩
 obtain⟨s'',q1,q2,q3,q4⟩:=ZE hH hrv hf hst (λh _=>hn h (aG _)) (λb hb=>by
  rcases hb with hb|⟨g,t,sp,c,hg,rfl⟩
  .exact g2.old b (.inl hb)
  .exact(hr g t sp c hg).2)
 exact⟨u,s'',rfl,q1,q2,q3,λi=>by rw[q4];exact Cp s _ i,aC _⟩
noncomputable def OF(E:B9)(n f:Nat)(ars:List V)(v:V):Bool:=match E.code f with
 |some fi=>Nat.ble ars.length fi.ntmps&&(match Dh E n none fi.body ⟨⟨Cf (B0 fi.ntmps) 0 ars,g0,fi.ntmps⟩,.e,0,[]⟩with
  |some [(.normal,st)]=>(match Db E.G st.tm st.H fi.res with|some v0=>Mq st.H v v0|none=>false)
  |some [(.ret,st)]=>(match Db E.G st.tm st.H fi.res with|some v0=>Mq st.H v v0|none=>false)
  | _=>false)
 |none=>false
theorem Ag.of_runV{E:B9}(hE:E.Ok Pg){v:V}(hf:Jo v=true)(h:OF E n f ars v=true):Ag Pg g0 f ars v:=by
 unfold OF at h
 split at h
 .rename_i fi hfi
  rw[aD]at h
  obtain⟨hle,h⟩:=h
  have key: ∀(e:Ex)(st':St),e= .normal\/e= .ret->Dh E n none fi.body ⟨⟨Cf (B0 fi.ntmps) 0 ars,g0,fi.ntmps⟩,.e,0,[]⟩=some [(e,st')]->(match Db E.G st'.tm st'.H fi.res with|some v0=>Mq st'.H v v0|none=>false)=true->Ag Pg g0 f ars v:=λe st' he hx hr=>by
   split at hr
   .rename_i v0 hret
    refine Ac.fnC hE hfi (by rw[aV];exact hle) (C5.refl _ _ _) (R:=λe' s=>e'=e/\s=st') ?_ ?_
    .rw[aV]
     intro B s0 w0 s w a hn hB hrd A Q hQ
     refine(pT hE Bx n).one none _ _ st' e s w a B hx A.rel (aP hB A.step.mod.size) (λh e=>by cases e) Q (λa' w'⟨lg,s',W⟩=>?_)
     have:=hQ e st' ⟨rfl,rfl⟩ s' w' a' (A.went W)
     rcases he with rfl|rfl<;>exact this
    .rintro e' st ⟨rfl,rfl⟩
     exact⟨he,v0,hret,λs w ee w' hH hn hp=>pV hH hn hr (AR.1 v hf) hp⟩
   .cases hr
  split at h
  .rename_i st' hx;exact key .normal st' (.inl rfl) hx h
  .rename_i st' hx;exact key .ret st' (.inr rfl) hx h
  .cases h
 .cases h
theorem Ag.view{v v0:V}(h:Ag Pg g0 f ars v0)(hf:Jo v=true)(hv:Mq .e v v0=true):Ag Pg g0 f ars v:=⟨λs w fv vals hc ha hH hgl hn=>by
 obtain⟨next,q1,q2,q3⟩:=h.1 s w fv vals hc ha hH hgl hn
 obtain⟨f',a',rfl⟩:=q3 ⟨_,_,rfl⟩
 exact⟨_,q1,callsIn_wide.2 ((callsIn_wide.1 q2).mono λe w' hp=>pV hH (λi _=>hn i (aG _)) hv (AR.1 v hf) hp),q3⟩,C5.refl _ _ _⟩
theorem Ag.of_sat{v:V}{fi:FI}(hfi:vE.code f=some fi)(hle:Nat.ble ars.length fi.ntmps=true)(hv:Jo v=true)(h:Au Pg none 0 fi.body ⟨⟨Cf (B0 fi.ntmps) 0 ars,g0,fi.ntmps⟩,.e,0,[]⟩ (λe st=>(e= .normal\/e= .ret)/\Db vE.G st.tm st.H fi.res=some v)):Ag Pg g0 f ars v:=by
 refine Ac.fnC vE_ok hfi (by rw[aV];exact hle) (C5.refl _ _ _) (by rw[aV];exact h) ?_
 rintro e st ⟨he,hret⟩
 refine⟨he,v,hret,λs w ee w' hH hn⟨u,s',h1,g1,g2,g3,_,_⟩=>?_⟩
 subst h1
 obtain⟨s'',q1,q2,q3,q4⟩:=ZE hH g1 (AR.1 v hv) g3 (λh _=>hn h (aG _)) (λb hb=>g2.old b (.inl hb))
 exact⟨u,s'',rfl,q1,q2,q3,λi=>by rw[q4];exact Cp s _ i,aC _⟩
noncomputable def LF(k:Nat)(c:Code)(S:SL)(v:V):Option FI->Prop
 |some fi=>fi.ntmps=k/\fi.body=c/\Nat.ble 1 fi.ntmps=true/\Gr v (Db vE.G (Al g0 k S).tm (Al g0 k S).H fi.res)
 |none=>False
theorem T8{x v:V}{k:Nat}{sl:List (Nat×V)}(he:e= .normal\/e= .ret)(h:To k c [(0,x)] .e 0 e sl H nx){r:List Nat}(hv:Jo v=true)(hg: ∀lg,Gc 0 r (Be g0 k sl H nx lg) (Al g0 k S))(hr:LF k c S v (vE.code f)):Ag Pg g0 f [x] v:=by
 unfold LF at hr
 split at hr
 .rename_i fi hfi
  obtain⟨h1,h2,h3,h4⟩:=hr
  subst h1 h2
  have hret:Db vE.G (Al g0 fi.ntmps S).tm (Al g0 fi.ntmps S).H fi.res=some v:=by
   unfold Gr at h4
   split at h4
   .rename_i u e;rw[e,h4]
   .exact h4.elim
  refine Ag.of_sat hfi h3 hv (Au.gc_post ?_)
  have h0:=h 0 []
  have e0:Cf (B0 fi.ntmps) 0 [x]=Hl (B0 fi.ntmps) [(0,x)]:=by rw[<-EC];rfl
  rw[e0]
  refine Au.mono h0 ?_
  rintro e1 st ⟨rfl,lg,rfl⟩
  exact⟨r,_,hg lg,he,hret⟩
 .exact hr.elim
abbrev NQ(n:Int):V:=.int .u16 n
theorem Wr: ∀(n:Nat)(z:List V),Ba z->Ba (Cx n z)
 |0,_,_=>trivial
 |n+1,z,h=>by rw[Cx];exact Nb h (Wr n z h)
theorem ey(l:List Nat):(it l).length=l.length:=by simp[it]
abbrev z8(n:Nat):V:=.im n (Cx n [w8 0])
abbrev Zr(n:Nat)(Q:List Nat):List V:=[z8 n,.int .u16 0,bl Q]
abbrev QR(n:Nat)(Q:List Nat):O:=.row 81 none (Zr n Q)
abbrev Ls(Q:List Nat)(n:Nat)(q:Nat×List Nat):SL:={sl:=[(1,.ptr 0 0),(3,G6 1 q.1),(4,i6 q.1)],os:=QR n Q::Ik 3 1 (it q.2) q.1}
theorem JH(Q:List Nat)(n:Nat)(hn:1<=n/\n<=4):Ag Pg g0 71 [.agg (Zr n Q)] (sl (List.replicate n 1)):=by
 have hQ:=Ph Q
 rcases(show n=1\/n=2\/n=3\/n=4 by omega)with rfl|rfl|rfl|rfl
 .refine Ch {sl:=[(2,sl (List.replicate 1 1))]} [(0,.unroll 2)] ?_
  exact m_ (p:=let z0:=List.replicate 1 (1:Int);An [Sm (sl z0),An [An [1=1,Aa z0=[i6 (wr .i64 ((1:Int)+wr .i64 (Int.tmod (0:Int) (4:Int))))],Tt,Tt],Tt],Tt]) ⟨aq,⟨⟨aq,(by rfl),a_⟩,aq⟩,aq⟩
 .refine Ch {sl:=[(2,sl (List.replicate 2 1))]} [(0,.unroll 3)] ?_
  exact m_ (p:=let z0:=[i6 (wr .i64 ((1:Int)+wr .i64 (Int.tmod (0:Int) (4:Int))))];let z1:=List.replicate 2 (1:Int);An [Sm (sl z1),An [An [2=2,Aa z1=z0++z0,TT 2],Tt],Tt]) ⟨aq,⟨⟨aq,(by rfl),aq⟩,aq⟩,aq⟩
 .refine Ch {sl:=[(2,sl (List.replicate 3 1))]} [(0,.unroll 4)] ?_
  exact m_ (p:=let z0:=[i6 (wr .i64 ((1:Int)+wr .i64 (Int.tmod (0:Int) (4:Int))))];let z1:=List.replicate 3 (1:Int);An [Sm (sl z1),An [An [3=3,Aa z1=z0++z0++z0,TT 3],Tt],Tt]) ⟨aq,⟨⟨aq,(by rfl),aq⟩,aq⟩,aq⟩
 .refine Ch {sl:=[(2,sl (List.replicate 4 1))]} [(0,.unroll 5)] ?_
  exact m_ (p:=let z0:=[i6 (wr .i64 ((1:Int)+wr .i64 (Int.tmod (0:Int) (4:Int))))];let z1:=List.replicate 4 (1:Int);An [Sm (sl z1),An [An [4=4,Aa z1=z0++z0++z0++z0,TT 4],Tt],Tt]) ⟨aq,⟨⟨aq,(by rfl),aq⟩,aq⟩,aq⟩
theorem iI(Q:List Nat)(n:Nat)(hn:0<n)(hn6:1<=n/\n<=4)(y:Nat)(hb:0<Q.length)(hy:Q.getD (0) 0=y)(hu:y%(0+1)=0)(hx:y<256):
  vc Pg vE E0 none 0 1000 (aT 31 1110100) [fn 9 (sl (List.replicate n 1)),As 11,As 18,pl 22,ld 23 (w8 y),nu 24 y,va 27 (i6 (0:Nat))] (Al g0 42 (Ls Q n (0,[]))) (L8 0 42 [0,2] (Ls Q n (1,[0]))):=by
 have hQ:=Ph Q
 have hc:=JH Q n hn6
 have hl':(List.replicate n (1:Int)).length=n:=cK ..
 have hz:Ba (Cx n [w8 0]):=Wr n _ ⟨trivial,trivial⟩
 generalize Cx n [w8 0]=Z,List.replicate n (1:Int)=W at*
 have h1:=JF (l:=Q) (k:=0) hb
 rw[hy]at h1
 have h2:=Og (G:=B1 Pg) (t:=3) (a:=y) (b:=1) d_
 rw[hu]at h2
 refine Eq.mp (by kernel_rfl:(let z0:=(↑(0:Nat):Int);let z1:=wr .i64 (z0+(1:Int));An [Ag Pg g0 71 [V.agg [V.im n (Cx n [w8 0]),NQ 0,V.im Q.length (bt Q)]] (sl W),decide (z0<(↑W.length:Int))=true,decide (z0<(↑Q.length:Int))=true,An [(0:Int)<=z0,z0<(↑Q.length:Int)],Ae (List.drop (0*1) (bt Q))=some (w8 ↑y),wr .i64 (↑y:Int)=(↑y:Int),B6 (B1 Tryz.prog) BinOp.rem 3 (i6 ↑y) (i6 z1)=some (i6 ↑(0:Nat)),An [Zz,An [Zz,1=1,Tt],(↑(1:Nat):Int)=z1,Tt],An [Sm (Zr n Q),TT 3],An [it [0]=[i6 ↑(0:Nat)],Tt,Tt],Tt])=_) ?_
 (repeat'(first|(with_reducible apply And.intro)|(refine λ(_:True)=>?_)))<;>first|exact aq|skip
 all_goals trivial
theorem OW(Q:List Nat)(n:Nat)(hn:0<n)(hn6:1<=n/\n<=4)(hb: ¬0<Q.length):
  vc Pg vE E0 none 0 1000 (aT 31 1110100) [fn 9 (sl (List.replicate n 1)),As 11,no 18] (Al g0 42 (Ls Q n (0,[]))) (L8 0 42 [0,2] (Ls Q n (1,[0]))):=by
 have hQ:=Ph Q
 have hc:=JH Q n hn6
 have hl':(List.replicate n (1:Int)).length=n:=cK ..
 have hz:Ba (Cx n [w8 0]):=Wr n _ ⟨trivial,trivial⟩
 generalize Cx n [w8 0]=Z,List.replicate n (1:Int)=W at*
 refine Eq.mp (by kernel_rfl:(let z0:=(↑(0:Nat):Int);An [Ag Pg g0 71 [V.agg [V.im n (Cx n [w8 0]),NQ 0,V.im Q.length (bt Q)]] (sl W),decide (z0<(↑W.length:Int))=true,decide (z0<(↑Q.length:Int))=false,An [Zz,An [Zz,1=1,Tt],(↑(1:Nat):Int)=wr .i64 (z0+(1:Int)),Tt],An [Sm (Zr n Q),TT 3],An [it [0]=[i6 ↑(0:Nat)],Tt,Tt],Tt])=_) ?_
 (repeat'(first|(with_reducible apply And.intro)|(refine λ(_:True)=>?_)))<;>first|exact aq|skip
 all_goals trivial
theorem iG(Q:List Nat)(n:Nat)(i:Nat)(hn:i+1<n)(hn6:1<=n/\n<=4)(l:List Nat)(hl:l.length=i+1)(M:List Nat)(hM:it M=[i6 ((i+1:Nat):Int)]++it l)(y:Nat)(hb:i+1<Q.length)(hy:Q.getD (i+1) 0=y)(hu:y%(i+1+1)=0)(hx:y<256):
  vc Pg vE E0 none 0 1000 (aT 31 1110100) [fn 9 (sl (List.replicate n 1)),As 11,As 18,pl 22,ld 23 (w8 y),nu 24 y,nu 26 ((i+1+1:Nat):Int),va 27 (i6 (0:Nat)),va 31 (.im 0 []),va 39 (.sl 1 0 (i+1) none),(40,.aop (.row 3 (some 1) ([i6 ((i+1:Nat):Int)])) (i+1) (it l)),nu 13 ((i+1+1:Nat):Int)] (Al g0 42 (Ls Q n (i+1,l))) (L8 0 42 [0,4] (Ls Q n (i+1+1,M))):=by
 have hQ:=Ph Q
 have hc:=JH Q n hn6
 have hl':(List.replicate n (1:Int)).length=n:=cK ..
 have hz:Ba (Cx n [w8 0]):=Wr n _ ⟨trivial,trivial⟩
 generalize Cx n [w8 0]=Z,List.replicate n (1:Int)=W at*
 have h1:=JF (l:=Q) (k:=i+1) hb
 rw[hy]at h1
 have h2:=Og (G:=B1 Pg) (t:=3) (a:=y) (b:=i+1+1) o_
 rw[hu]at h2
 have s3:=@pA 1 (i+1) none (some ((0:Nat):Int)) 0 rfl rfl o_
 have s4:=@UH 1 (i+1) (some ((0:Nat):Int)) none 0 (i+1) rfl rfl o_ (aC _)
 exact m_ (p:=let z2:=(↑(i+1+1):Int);let z4:=B1 Tryz.prog;let z5:=some (↑(0:Nat):Int);let z6:=V.sl 1 0 (i+1) none;let z7:=wr .i64 ((↑(i+1):Int)+(1:Int));let z8:=O.row 3 (some 1) [i6 ↑(i+1)];let z0:=T.put (pt (Ai T.e 0 (QR n Q::Ik 3 1 (it l) (i+1))) 2 (O.row 3 none [i6 ↑(i+1)])) 3 z8;An [_,decide ((↑(i+1):Int)<(↑W.length:Int))=true,_,_,_,wr .i64 (↑y:Int)=(↑y:Int),z7=z2,_,Ce z4 47 (G6 1 (i+1)) none z5 none=some (V.im 0 []),Ce z4 47 (G6 1 (i+1)) z5 none none=some z6,A6 z0 1 z6=some (i+1,it l),An [gt z0 3=some z8,1=1*1,1<=i+1,1+(i+1)<=9223372036854775807,(1+(i+1))*8<=140737488355328,Bl (it l)=true],z7=z2,An [Zz,An [Zz,Nat.succ i+1=1+(i+1),Tt],z2=z2,Tt],An [Sm (Zr n Q),TT 3],An [_,Ba (it M)],Tt]) ⟨hc,aq,Bf hb,Ar hb,h1,aq,aq,h2,s3,s4,(by exact SD (L:=l) (t:=3) (sp:=some 1) k_ o_ (bF (by simp;omega))),⟨(by rfl),aq,aq,aq,aq,ZC _⟩,aq,a_,a_,⟨hM,Fm _⟩,aq⟩
theorem OV(Q:List Nat)(n:Nat)(i:Nat)(hn:i+1<n)(hn6:1<=n/\n<=4)(l:List Nat)(hl:l.length=i+1)(M:List Nat)(hM:it M=[i6 ((i+1:Nat):Int)]++it l)(hb: ¬i+1<Q.length):
  vc Pg vE E0 none 0 1000 (aT 31 1110100) [fn 9 (sl (List.replicate n 1)),As 11,no 18,va 31 (.im 0 []),va 39 (.sl 1 0 (i+1) none),(40,.aop (.row 3 (some 1) ([i6 ((i+1:Nat):Int)])) (i+1) (it l)),nu 13 ((i+1+1:Nat):Int)] (Al g0 42 (Ls Q n (i+1,l))) (L8 0 42 [0,4] (Ls Q n (i+1+1,M))):=by
 have hQ:=Ph Q
 have hc:=JH Q n hn6
 have hl':(List.replicate n (1:Int)).length=n:=cK ..
 have hz:Ba (Cx n [w8 0]):=Wr n _ ⟨trivial,trivial⟩
 generalize Cx n [w8 0]=Z,List.replicate n (1:Int)=W at*
 have s3:=@pA 1 (i+1) none (some ((0:Nat):Int)) 0 rfl rfl o_
 have s4:=@UH 1 (i+1) (some ((0:Nat):Int)) none 0 (i+1) rfl rfl o_ (aC _)
 exact m_ (p:=let z1:=(↑(i+1+1):Int);let z4:=V.sl 1 0 (i+1) none;let z5:=O.row 3 (some 1) [i6 ↑(i+1)];let z0:=T.put (pt (Ai T.e 0 (QR n Q::Ik 3 1 (it l) (i+1))) 2 (O.row 3 none [i6 ↑(i+1)])) 3 z5;An [_,decide ((↑(i+1):Int)<(↑W.length:Int))=true,_,Ce (B1 Tryz.prog) 47 (G6 1 (i+1)) none (some (0:Int)) none=some (V.im 0 []),Ce (B1 Tryz.prog) 47 (G6 1 (i+1)) (some (0:Int)) none none=some z4,A6 z0 1 z4=some (i+1,it l),An [gt z0 3=some z5,1=1*1,1<=i+1,1+(i+1)<=9223372036854775807,(1+(i+1))*8<=140737488355328,Bl (it l)=true],wr .i64 ((↑(i+1):Int)+(1:Int))=z1,An [Zz,An [Zz,Nat.succ i+1=1+(i+1),Tt],z1=z1,Tt],An [Sm (Zr n Q),TT 3],An [_,Ba (it M)],Tt]) ⟨hc,aq,Cq hb,s3,s4,(by exact SD (L:=l) (t:=3) (sp:=some 1) k_ o_ (bF (by simp;omega))),⟨(by rfl),aq,aq,aq,aq,ZC _⟩,aq,a_,a_,⟨hM,Fm _⟩,aq⟩
theorem iH(Q:List Nat)(n:Nat)(i a m:Nat)(hi:i+1=a+1+(m+1))(hn:i+1<n)(hn6:1<=n/\n<=4)(l:List Nat)(hl:l.length=i+1)(y:Nat)(hb:i+1<Q.length)(hy:Q.getD (i+1) 0=y)(hu:y%(i+1+1)=a+1)(hx:y<256):
  vc Pg vE E0 none 0 1000 (aT 31 1110100) [fn 9 (sl (List.replicate n 1)),As 11,As 18,pl 22,ld 23 (w8 y),nu 24 y,nu 26 ((i+1+1:Nat):Int),va 27 (i6 ((a+1:Nat):Nat)),va 31 (.sl 1 0 (a+1) none),(32,.an (a+1) (it (l.take (a+1)))),(35,.ao (.row 3 (some 1) (it (l.take (a+1)))) 1 [i6 ((i+1:Nat):Int)]),va 39 (.sl 1 (a+1) (m+1) none),(40,.aop (.row 3 (some 1) (it (l.take (a+1))++[i6 ((i+1:Nat):Int)])) (m+1) (it (l.drop (a+1)))),nu 13 ((i+1+1:Nat):Int)] (Al g0 42 (Ls Q n (i+1,l))) (L8 0 42 [0,5] (Ls Q n (i+1+1,l.take (a+1)++[i+1]++l.drop (a+1)))):=by
 have hQ:=Ph Q
 have hc:=JH Q n hn6
 have hl':(List.replicate n (1:Int)).length=n:=cK ..
 have hz:Ba (Cx n [w8 0]):=Wr n _ ⟨trivial,trivial⟩
 generalize Cx n [w8 0]=Z,List.replicate n (1:Int)=W at*
 have h1:=JF (l:=Q) (k:=i+1) hb
 rw[hy]at h1
 have h2:=Og (G:=B1 Pg) (t:=3) (a:=y) (b:=i+1+1) o_
 rw[hu]at h2
 have s3:=@UH 1 (i+1) none (some ((a+1:Nat):Int)) 0 (a+1) rfl rfl o_ o_
 have s4:=@UH 1 (i+1) (some ((a+1:Nat):Int)) none (a+1) (i+1) rfl rfl o_ (aC _)
 rw[show i+1-(a+1)=m+1 by omega]at s4
 exact m_ (p:=let z1:=List.take (a+1) l;let z4:=List.drop (a+1) l;let z5:=(↑(i+1+1):Int);let z6:=[i6 ↑(i+1)];let z7:=Ai T.e 0 (QR n Q::Ik 3 1 (it l) (i+1));let z8:=B1 Tryz.prog;let z9:=V.sl 1 (a+1) (m+1) none;let y2:=some (↑(a+1):Int);let y4:=V.sl 1 0 (a+1) none;let z2:=O.row 3 (some 1) (it z1++z6);let y0:=O.row 3 (some 1) (it z1);let y3:=it (z1++[i+1]++z4);let y5:=wr .i64 ((↑(i+1):Int)+(1:Int));let z0:=pt (pt z7 2 y0) 3 (O.row 3 none z6);let y1:=pt (pt z0 2 O.dead) 4 z2;An [_,decide ((↑(i+1):Int)<(↑W.length:Int))=true,_,_,_,wr .i64 (↑y:Int)=(↑y:Int),y5=z5,_,Ce z8 47 (G6 1 (i+1)) none y2 none=some y4,An [A6 z7 1 y4=some (a+1,it z1),a+1<=9223372036854775807,(a+1)*8<=140737488355328],A6 z0 1 (V.sl 3 0 1 (some 0))=some (1,z6),gt z0 2=some y0,List.length (it z1)=(a+1)*1,a+1+1<=9223372036854775807,(a+1+1)*8<=140737488355328,Ce z8 47 (G6 1 (i+1)) y2 none none=some z9,A6 y1 1 z9=some (m+1,it z4),An [gt y1 4=some z2,List.length (it z1++z6)=(a+1+1)*1,1<=m+1,a+1+1+(m+1)<=9223372036854775807,(a+1+1+(m+1))*8<=140737488355328,Bl (it z4)=true],y5=z5,An [Zz,An [Zz,Nat.succ i+1=a+1+1+(m+1),Tt],z5=z5,Tt],An [Sm (Zr n Q),TT 3],An [y3=it z1++z6++it z4,Ba y3],Tt]) ⟨hc,aq,Bf hb,Ar hb,h1,aq,aq,h2,s3,⟨SD (L:=l) (t:=3) (sp:=some 1) k_ o_ (by rw[List.drop_zero]),a_⟩,(by rfl),(by rfl),(by(simp[it,hl];omega)),aq,aq,s4,(by exact SD (L:=l) (t:=3) (sp:=some 1) k_ o_ (bF (by simp;omega))),⟨(by rfl),(by(simp[it,hl];omega)),aq,aq,aq,ZC _⟩,aq,a_,a_,⟨(by(simp[it];done)),Fm _⟩,aq⟩
theorem iF(Q:List Nat)(n:Nat)(i:Nat)(hn:i+1<n)(hn6:1<=n/\n<=4)(l:List Nat)(hl:l.length=i+1)(y:Nat)(hb:i+1<Q.length)(hy:Q.getD (i+1) 0=y)(hu:y%(i+1+1)=i+1)(hx:y<256):
  vc Pg vE E0 none 0 1000 (aT 31 1110100) [fn 9 (sl (List.replicate n 1)),As 11,As 18,pl 22,ld 23 (w8 y),nu 24 y,nu 26 ((i+1+1:Nat):Int),va 27 (i6 ((i+1:Nat):Nat)),va 31 (.sl 1 0 (i+1) none),(32,.an (i+1) (it l)),(35,.ao (.row 3 (some 1) (it l)) 1 [i6 ((i+1:Nat):Int)]),va 39 (.im 0 []),nu 13 ((i+1+1:Nat):Int)] (Al g0 42 (Ls Q n (i+1,l))) (L8 0 42 [0,4] (Ls Q n (i+1+1,l++[i+1]))):=by
 have hQ:=Ph Q
 have hc:=JH Q n hn6
 have hl':(List.replicate n (1:Int)).length=n:=cK ..
 have hz:Ba (Cx n [w8 0]):=Wr n _ ⟨trivial,trivial⟩
 generalize Cx n [w8 0]=Z,List.replicate n (1:Int)=W at*
 have h1:=JF (l:=Q) (k:=i+1) hb
 rw[hy]at h1
 have h2:=Og (G:=B1 Pg) (t:=3) (a:=y) (b:=i+1+1) o_
 rw[hu]at h2
 have s3:=@UH 1 (i+1) none (some ((i+1:Nat):Int)) 0 (i+1) rfl rfl o_ (aC _)
 have s4:=@pA 1 (i+1) (some ((i+1:Nat):Int)) none (i+1) rfl rfl (aC _)
 exact m_ (p:=let z1:=(↑(i+1):Int);let z2:=(↑(i+1+1):Int);let z3:=Ai T.e 0 (QR n Q::Ik 3 1 (it l) (i+1));let z4:=i6 ↑(i+1);let z5:=B1 Tryz.prog;let z6:=O.row 3 (some 1) (it l);let z7:=V.sl 1 0 (i+1) none;let z0:=pt (pt z3 2 z6) 3 (O.row 3 none [z4]);let z8:=wr .i64 (z1+(1:Int));An [_,decide (z1<(↑W.length:Int))=true,_,_,_,wr .i64 (↑y:Int)=(↑y:Int),z8=z2,_,Ce z5 47 (G6 1 (i+1)) none (some z1) none=some z7,An [A6 z3 1 z7=some (i+1,it l),i+1<=9223372036854775807,(i+1)*8<=140737488355328],A6 z0 1 (V.sl 3 0 1 (some 0))=some (1,[z4]),gt z0 2=some z6,List.length (it l)=(i+1)*1,i+1+1<=9223372036854775807,(i+1+1)*8<=140737488355328,Ce z5 47 (G6 1 (i+1)) (some z1) none none=some (V.im 0 []),z8=z2,An [Zz,An [Zz,Nat.succ i+1=i+1+1,Tt],z2=z2,Tt],An [Sm (Zr n Q),TT 3],An [it (l++[i+1])=it l++[z4],Ba (it (l++[i+1]))],Tt]) ⟨hc,aq,Bf hb,Ar hb,h1,aq,aq,h2,s3,⟨(by exact SD (L:=l) (t:=3) (sp:=some 1) k_ o_ (bF (by simp;omega))),a_⟩,(by rfl),(by rfl),(by(simp[it,hl];done)),aq,aq,s4,aq,a_,a_,⟨(by(simp[it,hl];done)),Fm _⟩,aq⟩
theorem Sb(Q:List Nat)(hQ: ∀x∈Q,x<256)(n i:Nat)(hn:i<n)(hn6:1<=n/\n<=4)(L:List Nat)(hL:L=Gg Q i):
  ∃r hs,vc Pg vE E0 none 0 1000 (aT 31 1110100) hs (Al g0 42 (Ls Q n (i,L))) (L8 0 42 r (Ls Q n (i+1,Gg Q (i+1)))):=by
 have hl:L.length=i:=by rw[hL];exact LX Q i
 have hnx:Gg Q (i+1)=L.take (Vc Q i)++[i]++L.drop (Vc Q i):=by rw[hL];rfl
 have hlt:=IL Q i
 have hy:=YC hQ i
 rw[hnx]
 clear hnx hL
 cases i with
 |zero=>
  obtain rfl:=aE hl
  rw[List.take_nil,List.drop_nil]
  by_cases hb:0<Q.length
  .exact⟨_,_,iI Q n hn hn6 _ hb rfl (Nat.mod_one _) hy⟩
  .exact⟨_,_,OW Q n hn hn6 hb⟩
 | succ i =>
  by_cases hb:i+1<Q.length
  .have e:Vc Q (i+1)=Q.getD (i+1) 0%(i+1+1):=by unfold Vc;rw[if_pos hb]
   generalize Vc Q (i+1)=u at*
   rcases(show u=0\/u=i+1\/∃a m,u=a+1/\i+1=a+1+(m+1)by
    rcases Nat.eq_zero_or_pos u with h|h
    .exact .inl h
    .rcases cU u (i+1)with h'|h'
     .exact .inr (.inr ⟨u-1,i-u,o_,o_⟩)
     omega)with rfl|rfl|⟨a,m,rfl,hi⟩
   .exact⟨_,_,iG Q n i hn hn6 L hl _ (by simp[it]) _ hb rfl e.symm hy⟩
   .rw[bF o_,eQ o_,aV]
    exact⟨_,_,iF Q n i hn hn6 L hl _ hb rfl e.symm hy⟩
   .exact⟨_,_,iH Q n i a m hi hn hn6 L hl _ hb rfl e.symm hy⟩
  .have e:Vc Q (i+1)=0:=by unfold Vc;rw[if_neg hb]
   rw[e]
   exact⟨_,_,OV Q n i hn hn6 L hl _ (by simp[it]) hb⟩
theorem X5(Q:List Nat)(n m:Nat)(he:n=m+1)(hm:1<=n/\n<=4)(L:List Nat):
  vc Pg vE E0 none 0 1000 (aT 31 1110100) [fn 9 (sl (List.replicate n 1)),no 11] (Al g0 42 (Ls Q n (m+1,L))) (Kr 0 42 (.exit 0) [1] {sl:=[(3,G6 0 (m+1))],os:=Ik 3 1 (it L) (m+1)}):=by
 have hQ:=Ph Q
 have hL:=Fm L
 have hc:=JH Q n hm
 have hl:(List.replicate n (1:Int)).length=n:=cK ..
 have hz:Ba (Cx n [w8 0]):=Wr n _ ⟨trivial,trivial⟩
 generalize Cx n [w8 0]=Z,List.replicate n (1:Int)=W at*
 exact Cj [_,decide ((↑(m+1):Int)<(↑W.length:Int))=false] ⟨hc,aq⟩
theorem GF(Q:List Nat)(hQ: ∀x∈Q,x<256)(n:Nat)(hn:1<=n/\n<=4):Ag Pg g0 31 [.agg (Zr n Q)] (.im n (it (Gg Q n))):=by
 obtain⟨m,he⟩: ∃m,n=m+1:=⟨n-1,o_⟩
 have hloop:Au Pg none 0 (aT 31 111010) (Al g0 42 (Ls Q n (0,[]))) (B3 g0 42 [(True,.exit 0,{sl:=[(3,G6 0 (m+1))],os:=Ik 3 1 (it (Gg Q n)) (m+1)})]):=by
  refine C9 (aT 31 1110100) (λq=>q.1<=n/\q.2=Gg Q q.1) (Ls Q n) (λq=>n-q.1) (λq hq=>?_) (0,[]) ⟨aG _,rfl⟩
  obtain⟨i,L⟩:=q
  obtain⟨hi,hL⟩:=hq
  dsimp only at hi hL
  by_cases hlt:i<n
  .obtain⟨r,hs,h⟩:=Sb Q hQ n i hlt hn L hL
   exact .inl ⟨(i+1,Gg Q (i+1)),r,hs,1000,⟨hlt,rfl⟩,o_,h⟩
  .obtain rfl:i=m+1:=o_
   rw[show Gg Q n=L by rw[hL,he]]
   exact .inr ⟨.exit 0,[1],_,_,1000,.inl ⟨trivial,rfl,rfl⟩,X5 Q n m he hn _⟩
 have hQ':=Ph Q
 have hL:=Fm (Gg Q n)
 have hz:Ba (Cx n [w8 0]):=Wr n _ ⟨trivial,trivial⟩
 have hl:(it (Gg Q n)).length=m+1:=by rw[ey,LX,he]
 generalize it (Gg Q n)=L,hZ:Cx n [w8 0]=Z at*
 rw[show V.im n L=V.im (m+1) L by rw[he]]
 have hloop:Au Pg none 0 (aT 31 111010) (Al g0 42 {sl:=[(1,.ptr 0 0),(3,.nils),(4,i6 0)],os:=[.row 81 none [.im n Z,.int .u16 0,bl Q]]}) (B3 g0 42 [(True,.exit 0,{sl:=[(3,G6 0 (m+1))],os:=Ik 3 1 L (m+1)})]):=by rw[<-hZ];exact hloop
 refine Ch {sl:=[(2,.im (m+1) L)]} [(0,.loop [0] {sl:=[(1,.ptr 0 0),(3,.nils),(4,i6 0)],os:=[.row 81 none [.im n Z,.int .u16 0,bl Q]]} [(True,.exit 0,{sl:=[(3,G6 0 (m+1))],os:=Ik 3 1 L (m+1)})])] ?_
 exact m_ (p:=An [Sm (V.im (m+1) L),An [An [Zz,Tt,Sm (0:Int),Tt],An [[V.im n Z,NQ 0,bl Q]=[z8 n,NQ 0,bl Q],TT 3],Tt],_,(True->An [An [An [Sm (m+1),L=L,_],Tt],Tt]),Tt]) ⟨aq,a_,hloop,(λ_=>⟨⟨⟨aq,aq,hL⟩,aq⟩,aq⟩),aq⟩
theorem Sl{Q:List Nat}: ∀i,(Gg Q i).Nodup
 |0=>cF
 |i+1=>by
  have h1:=Sl (Q:=Q) i
  have h2:=TA (Q:=Q) i
  grind[Gg,List.take_append_drop]
theorem Yc{Q:List Nat}{v:Nat}(h:v<n):v∈Gg Q n:=by
 induction n with
 |zero=>omega
 |succ i ih=>
  grind[Gg,List.take_append_drop]
theorem av{n:Int}(h1:0<=n)(h2:n<=255):wr .u8 n=n:=Vu h1 h2
theorem yX(g c:Int)(x:Nat)(hg:2<=g/\g<=12)(hx:x<256): ∃l:List Int,l.length=(if c=2 then 2 else 3)/\Ag Pg g0 33 [i6 g,i6 c,w8 x] (sl l):=by
 obtain⟨a,ha⟩: ∃a:Int,a=(x:Int).tmod (g-1):=⟨_,rfl⟩
 have r1:B6 (B1 Pg) .rem 3 (i6 x) (i6 (g-1))=some (i6 a):=by rw[Ox o_,<-ha]
 have ha2:0<=a/\a<g-1:=by
  rw[ha,aS o_]
  exact⟨Int.emod_nonneg _ o_,Int.emod_lt_of_pos _ o_⟩
 clear ha
 by_cases hc:c=2
 .subst hc
  refine⟨[1+a,g-(1+a)],rfl,?_⟩
  refine Ch {sl:=[(6,sl [1+a,g-(1+a)])]} [nu 10 x,nu 12 (g-1),va 13 (i6 a),nu 14 (1+a),nu 20 (g-(1+a))] ?_
  exact m_ (p:=let z0:=(1:Int);let z1:=[z0+a,g-(z0+a)];An [Sm (sl z1),wr .i64 (↑x:Int)=(↑x:Int),wr .i64 (g-z0)=g-z0,_,wr .i64 (z0+a)=z0+a,wr .i64 (g-(z0+a))=g-(z0+a),An [An [2=2,Aa z1=[i6 (z0+a),i6 (g-(z0+a))],TT 2],Tt],Tt]) ⟨aq,aq,aq,r1,aq,aq,⟨⟨aq,(by rfl),aq⟩,aq⟩,aq⟩
 .obtain⟨b,hb⟩: ∃b:Int,b=((x/12:Nat):Int).tmod (g-(1+a)+1):=⟨_,rfl⟩
  have r2:B6 (B1 Pg) .rem 3 (i6 (x/12:Nat)) (i6 (g-(1+a)+1))=some (i6 b):=by rw[Ox o_,<-hb]
  have hb2:0<=b/\b<g-(1+a)+1:=by
   rw[hb,aS o_]
   exact⟨Int.emod_nonneg _ o_,Int.emod_lt_of_pos _ o_⟩
  clear hb
  have hd:wr .u8 ((x:Int).tdiv 12)=(x/12:Nat):=by
   rw[Int.tdiv_eq_ediv_of_nonneg o_,av o_ o_];omega
  have hy:x/12<256:=o_
  refine⟨[1+a,b,g-(1+a)-b],by rw[if_neg hc];rfl,?_⟩
  refine Ch {sl:=[(6,sl [1+a,b,g-(1+a)-b])]} [nu 10 x,nu 12 (g-1),va 13 (i6 a),nu 14 (1+a),no 16,nu 23 (x/12:Nat),nu 24 (x/12:Nat),nu 27 (g-(1+a)),nu 28 (g-(1+a)+1),va 29 (i6 b),nu 34 (g-(1+a)),nu 36 (g-(1+a)-b)] ?_
  generalize x/12=y at*
  exact m_ (p:=let z1:=(1:Int);let z0:=(z1+a);let z2:=[z1+a,b,g-z0-b];An [Sm (sl z2),wr .i64 (↑x:Int)=(↑x:Int),wr .i64 (g-z1)=g-z1,_,wr .i64 z0=z1+a,(c==(2:Int))=false,_,wr .i64 (↑y:Int)=(↑y:Int),wr .i64 (g-z0)=g-z0,wr .i64 (g-z0+z1)=g-z0+z1,_,wr .i64 (g-z0)=g-z0,wr .i64 (g-z0-b)=g-z0-b,An [An [3=3,Aa z2=[i6 z0,i6 b,i6 (g-z0-b)],TT 3],Tt],Tt]) ⟨aq,aq,aq,r1,aq,aq,hd,aq,aq,aq,r2,aq,aq,⟨⟨aq,(by rfl),aq⟩,aq⟩,aq⟩
abbrev J8(W:List Nat)(a:Nat):O:=.row 148 none [bl W,i6 a]
theorem de{H:T O}{nx:Nat}(W:List Nat):Ac Pg g0 (.fn 32 []) [bl W] H nx ⟨.ptr nx 0,pt H nx (J8 W 0),nx+1,[]⟩:=by
 have hW:=Ph W
 refine Ac.of_vcA vE_ok Bx Gy (n:=1000) (hs:=[]) (by rw[Bh];exact C5.new _ _ _ _) ?_
 exact m_ (p:=An [Sm (V.ptr nx 0),pt H nx (O.row 148 none [bl W,i6 0])=pt H nx (J8 W 0),Sm (nx+1),([]:List Nat)=[]]) ⟨aq,(by rfl),a_⟩
theorem tG{h a:Nat}(W:List Nat)(hW: ∀x∈W,x<256)(hl:W.length<=9223372036854775807)(ha:a<=1000)(hh:gt H (h)=some (J8 W a)): ∃(x:Nat)(H':T O)(a':Nat),x<256/\a'<=a+1/\gt H' h=some (J8 W a')/\(∀g,g≠h->gt H' g=gt H g)/\Ac Pg g0 (.fn 34 []) [.ptr h 0] H nx ⟨w8 x,H',nx,[h]⟩:=by
 have hWb:=Ph W
 by_cases h0:W.length=0
 .refine⟨0,H,a,o_,o_,hh,λ_ _=>rfl,?_⟩
  refine Ac.moreL (r:=⟨w8 (0:Nat),H,nx,[]⟩) ?_ (λg hg=>by cases hg)
  refine Ac.of_vcA vE_ok Bx Gy (n:=1000) (hs:=[A5 6 (J8 W a) (bl W),As 8]) (C5.refl _ _ _) ?_
  exact m_ (p:=An [_,Ae (Af (0+0) [bl W,i6 ↑a])=some (bl W),((↑W.length:Int)==(0:Int))=true,w8 0=w8 ↑(0:Nat),H=H,nx=nx,([]:List Nat)=[]]) ⟨hh,(by rfl),a_⟩
 .have hm:(a+1)%W.length<W.length:=aY _ o_
  have h1:=JF hm
  have h2:=Og (G:=B1 Pg) (t:=3) (a:=a+1) h0
  refine⟨W.getD ((a+1)%W.length) 0,pt H h (J8 W (a+1)),a+1,YC hW _,o_,by rw[Ad,if_pos rfl],λg hg=>by rw[Ad,if_neg hg],?_⟩
  refine Ac.of_vcS vE_ok Bx Gy (n:=1000) (hs:=[A5 6 (J8 W a) (bl W),no 8,A5 13 (J8 W a) (i6 a),nu 14 (a+1:Nat),so (J8 W a) [bl W,i6 (a+1:Nat)],A5 20 (J8 W (a+1)) (bl W),A5 24 (J8 W (a+1)) (i6 (a+1:Nat)),A5 28 (J8 W (a+1)) (bl W),va 30 (i6 ((a+1)%W.length:Nat)),pl 31,ld 32 (w8 (W.getD ((a+1)%W.length) 0:Nat))]) (by rw[Bh];exact C5.put _ _ _ _) ?_
  have hp:gt (pt H h (J8 W (a+1))) h=some (J8 W (a+1)):=by rw[Ad,if_pos rfl]
  generalize W.getD ((a+1)%W.length) 0=y,(a+1)%W.length=z at*
  exact m_ (p:=let z1:=i6 ↑(a+1);let z4:=[bl W,i6 ↑a];let z3:=[bl W,z1];let z6:=Ae (Af (0+0) z3);An [_,Ae (Af (0+0) z4)=some (bl W),((↑W.length:Int)==(0:Int))=false,_,Ae (Af 1 z4)=some (i6 ↑a),_,An [_,Bg 1 z4 [z1]=some z3],_,z6=some (bl W),_,Ae (Af 1 z3)=some z1,_,z6=some (bl W),_,_,_,Sm (w8 ↑y),(pt H h (O.row 148 none z3))=pt H h (J8 W (a+1)),nx=nx,∀(g:Nat),List.Mem g ([h]++[])->List.Mem g [h]]) ⟨hh,(by rfl),aq,hh,(by rfl),Dw a o_,⟨hh,(by rfl)⟩,hp,(by rfl),hp,(by rfl),hp,(by rfl),h2,Ar hm,h1,a_⟩
noncomputable def CN(nx0 n:Nat)(r:List Nat)(S:SL):KF:=λe _ st=>match e with
 | .exit _=>False
 | .pan _=>False
 | _=>bif Nat.beq st.tm.n n then O5 nx0 r st S else False
noncomputable def BN(P:Program)(E:B9)(sp:Ld)(gl:T (List V))(n:Nat)(os0:List O)(ars:List V)(hs:Hs)(r:List Nat)(S:SL)(v:V):Option FI->Prop
 |some fi=>bif Nat.ble ars.length fi.ntmps then Gr v (Db E.G (Al gl fi.ntmps S).tm (Al gl fi.ntmps S).H fi.res)/\vc P E sp none os0.length n fi.body hs ⟨⟨DU (B0 fi.ntmps) 0 ars,gl,fi.ntmps⟩,Ai .e 0 os0,os0.length,[]⟩ (CN os0.length fi.ntmps r S)else False
 |none=>False
noncomputable def BK(P:Program)(E:B9)(sp:Ld)(gl:T (List V))(n f:Nat)(os0:List O)(ars:List V)(hs:Hs)(r:List Nat)(S:SL)(v:V):Prop:=BN P E sp gl n os0 ars hs r S v (E.code f)
theorem TB: ∀(os:List O)(t:T O)(k i:Nat),k<=i->i<k+os.length->(Ai t k os).get i=os[i-k]?
 |[],_,_,_,h1,h2=>by grind
 | o :: os, t, k, i, h1, h2 => by
  rw[Ai]
  by_cases hi:i=k
  .subst hi
   have: ∀(os:List O)(t:T O)(j i:Nat),i<j->(Ai t j os).get i=t.get i:=by
    intro os
    induction os with
    |nil=>intro t j i _;rfl
    |cons o os ih=>
     grind[Ai,Bh,T.get_put]
   grind[Bh,T.get_put]
  .rw[TB os _ _ _ o_ (by grind)]
   grind
theorem wW{os:List O}(h:os.length<=i):(Ai .e 0 os).get i=none:=by
 cases hg:(Ai .e 0 os).get i with
 |none=>rfl
 |some o=>
  rcases Ej os .e 0 i o hg with⟨_,h2⟩|h2
  all_goals simp_all
theorem Ac.of_vcH{E:B9}{sp:Ld}(hE:E.Ok P)(hm:P.follows .mixedOrders=true)(hsp:Lf P gl sp){os0:List O}{hs:Hs}{r:List Nat}{v:V}(hle:os0.length<=S.os.length)(hsame: ∀i,i<os0.length->i∉S.lg->S.os[i]? =os0[i]?)(h:BK P E sp gl n f os0 ars hs r S v):Ac P gl (.fn f []) ars (Ai .e 0 os0) os0.length ⟨v,Ai .e 0 S.os,S.os.length,S.lg⟩:=by
 unfold BK BN at h
 split at h
 .rename_i fi hfi
  obtain⟨hb,hret,hv⟩:=Fc h
  have hret':Db E.G (Al gl fi.ntmps S).tm (Al gl fi.ntmps S).H fi.res=some v:=by
   unfold Gr at hret
   split at hret
   .simp_all
   .exact hret.elim
  rw[EC]at hv
  have hlog:C5 (Ai .e 0 os0).get os0.length (Ai .e 0 S.os).get S.os.length S.lg:=by
   refine⟨hle,λi hi hn=>?_⟩
   by_cases h1:i<os0.length
   .grind[TB]
   .grind[wW]
  refine Ac.fnC hE hfi (by simp_all) hlog (R:=λe st=>(e= .normal\/e= .ret)/\st=Al gl fi.ntmps S) ?_ ?_
  .rw[aV]
   refine Au.gc_post (Au.of_vc hE hm hsp rfl hv λe hs' st' hg hk=>?_)
   unfold CN at hk
   have fin:(bif Nat.beq st'.tm.n fi.ntmps then O5 os0.length r st' S else False)->∃r st2,Gc os0.length r st' st2/\st2=Al gl fi.ntmps S:=by
    intro hk
    obtain⟨hb,hk⟩:=Fc hk
    exact⟨r,_,Wo hk,by simp_all⟩
   cases e with
   |exit=>exact hk.elim
   |pan=>exact hk.elim
   |normal=>simp_all
   |ret=>simp_all
  .rintro e st ⟨he,rfl⟩
   exact⟨he,v,hret',λs w ee w' _ _ hp=>hp⟩
 .exact h.elim
def L7(c:List V):Prop:=∀x∈c,∃k m,x=V.int k m
theorem Ws(l:List Int):L7 (Aa l):=λx hx=>by
 obtain⟨n,_,rfl⟩:=cC.1 hx
 exact⟨_,_,rfl⟩
theorem nF{s s':Av}{b:Nat}(hb:s'.fz b): ∀(l:List V)(off:Nat),L7 l->RC s w l b off->RC s' w l b off
 |[],_,_,_=>trivial
 |x::l,off,h,⟨⟨_,u,h2,h3⟩,hr⟩=>by
  obtain⟨k,m,rfl⟩:=h x aZ
  exact⟨⟨hb,u,h2,h3⟩,nF hb l _ (λy hy=>h y (aW _ hy)) hr⟩
theorem oC{o:O}:(Ai .e 0 [o]).get 0=some o:=by
 rw[TB _ _ _ _ (aC _) s_];rfl
theorem LS{ars':List V}{t:Nat}{sp:Option Nat}{c:List V}(h:Ac P gl (.fn f []) ars .e 0 ⟨.sl 0 0 n none,Ai .e 0 [.row t sp c],1,[]⟩)(hv:A8 H.get (λ_=>True) (λ_=>none) ars ars')(hci:L7 c)(hn:c.length=n):Ac P gl (.fn f []) ars' H nx ⟨.im n c,H,nx,[]⟩:=by
 refine⟨λs w fv vals hc hargs hH hgl hnn=>?_,C5.refl _ _ _⟩
 obtain⟨F,hFd⟩: ∃F:Nat->Prop,F=λb=>s.fz b\/∃g t sp c,H.get g=some (.row t sp c)/\b=s.μ g:=⟨_,rfl⟩
 have hF1: ∀b,s.fz b->F b:=λb hb=>by rw[hFd];exact .inl hb
 have hF2: ∀b,F b->b<w.heap.size:=λb hb=>by
  rw[hFd]at hb
  rcases hb with hb|⟨g,t,sp,c,hg,rfl⟩
  .exact hH.old b (.inl hb)
  .exact(hH.obj _ _ hg rfl).2.1
 have hF3:RL (sg F) w ars vals.toList:=A8.rl hH (s':=sg F) ⟨λ_ _ e=>(by cases e),λg t sp c _ hg=>by rw[hFd];exact .inr ⟨g,t,sp,c,hg,rfl⟩,hF1⟩ _ _ _ hv hargs
 obtain⟨next,e1,e2,e3⟩:=h.1 (sg F) w fv vals (Hf.rv (s':=sg F) hF1 _ _ trivial hc) hF3 (DP (λb hb=>hb.elim (hF2 b) False.elim)) (λg l hg=>RC.mono' (s':=sg F) hF1 (λ_ _=>rfl) l g 0 (hgl g l hg)) (λ_ _ h=>h)
 refine⟨next,e1,?_,e3⟩
 obtain⟨f',ars2,rfl⟩:=e3 ⟨f,[],rfl⟩
 refine CallsIn.mono e2 ?_
 rintro e w' ⟨u,s',rfl,g1,g2,g3,g4,g5⟩
 obtain⟨o1,o2,o3,o4⟩:=g2.obj 0 _ oC rfl
 have hnew:w.heap.size<=s'.μ 0:=by
  rcases g3.new 0 o1 (λh=>h)with h|⟨k,hk,_⟩
  .exact h
  .cases hk
 obtain⟨r1,_⟩:=hH.below (w':=w') ⟨g3.mod.os,g3.mod.tape,g3.mod.output,g3.mod.size,λk hk=>g3.mod.block k hk (λ⟨_,hm,_⟩=>by cases hm)⟩
 have hsz:=g3.mod.size
 have hview:Bo (Ai .e 0 [.row t sp c]).get (λ_=>True) (λ_=>none) (.im n c) (.sl 0 0 n none):=.inr (.inr ⟨0,0,none,t,sp,c,rfl,trivial,oC,by
  have: ∀l:List V,L7 l->Bq (Ai .e 0 [.row t sp c]).get (λ_=>True) l l:=by
   intro l
   induction l with
   |nil=>exact λ_=>trivial
   |cons x l ih=>
    intro h
    obtain⟨k,m,rfl⟩:=h x aZ
    exact⟨_,_,rfl,rfl,ih λy hy=>h y (aW _ hy)⟩
  exact this c hci⟩)
 have hrv:RV {s' with fz:=λb=>s'.fz b\/b=s'.μ 0} w' (.im n c) u:=Bo.rv (s':={s' with fz:=λb=>s'.fz b\/b=s'.μ 0}) g2 ⟨λ_ _ e=>(by cases e),λg t2 sp2 c2 _ hg=>by
  have h0:g=0:=by
   rcases Ej _ _ _ _ _ hg with⟨_,hm⟩|hm
   .have:=(aM.1 hm).1
    simp at this;omega
   .simp at hm
  subst h0;exact .inr rfl,λb hb=>.inl hb⟩ _ _ _ hview g1
 refine⟨u,{s with fz:=λb=>s.fz b\/b=s'.μ 0},rfl,?_,⟨λi o ho hl=>?_,r1.inj,λb hb=>?_⟩,⟨⟨⟨λ_ _=>rfl,λ_ _=>rfl,λ_ h=>h,λb hb=>.inl hb⟩,λ_ h=>h⟩,λb hb=>hb.elim .inl (λe=>.inr (.inl (by rw[e];exact hnew))),λb hb=>?_,⟨g3.mod.os,g3.mod.tape,g3.mod.output,hsz,λk hk _=>g3.mod.block k hk (λ⟨_,hm,_⟩=>by cases hm)⟩,λi hi hno=>absurd hi hno⟩,λi=>⟨.inl,λh=>h.elim id (λ⟨a,b⟩=>absurd b (by dsimp only;omega))⟩,aC _⟩
 .obtain⟨a,cap,hu,hle,hrc⟩:=hrv
  refine⟨a,cap,hu,hle,λhn0=>?_⟩
  obtain⟨b,off,ha,hr⟩:=hrc hn0
  have hb:b=s'.μ 0:=by
   obtain⟨_,cap2,hu2,_⟩:=g1
   rw[hu2]at hu
   injection hu with h1
   rw[ha]at h1
   injection h1 with h2
   injection h2 with h3
   exact h3.symm
  exact⟨b,off,ha,nF (s':={s with fz:=λb=>s.fz b\/b=s'.μ 0}) (Or.inr hb) _ _ hci hr⟩
 .obtain⟨a1,a2,a3,a4⟩:=r1.obj i o ho hl
  have a2':=(hH.obj i o ho hl).2.1
  refine⟨a1,a2,?_,RO.mono' (s:=s) (s':={s with fz:=λb=>s.fz b\/b=s'.μ 0}) ⟨λ_ _=>rfl,λ_ _=>rfl,λ_ h=>h,λb hb=>.inl hb⟩ (λ_ _=>rfl) a1 a4 (λ_=>rfl)⟩
  rintro((hf|hf)|hm)
  .exact a3 (.inl hf)
  .dsimp only at hf;omega
  .exact a3 (.inr hm)
 .rcases hb with(hb|hb)|hb
  .exact r1.old b (.inl hb)
  .rw[hb];exact o2
  .exact r1.old b (.inr hb)
 .exact g3.mod.block b (hH.old b hb) (λ⟨_,hm,_⟩=>by cases hm)
theorem sW{s s':Av}{w':World}: ∀(l:List V)(vs:List Value),L7 l->RL s w l vs->RL s' w' l vs
 |[],_,_,h=>h
 |x::l,_,h,⟨v,vs,e,h1,h2⟩=>by
  obtain⟨k,m,rfl⟩:=h x aZ
  exact⟨v,vs,e,h1,sW l vs (λy hy=>h y (aW _ hy)) h2⟩
theorem lK{ars':List V}{t:Nat}{sp room:Option Nat}{c:List V}(h:Ac P gl (.fn f []) ars .e 0 ⟨.sl 0 0 n room,Ai .e 0 [.row t sp c],1,[]⟩)(hv:A8 H.get (λ_=>True) (λ_=>none) ars ars')(hci:L7 c):Ac P gl (.fn f []) ars' H nx ⟨.sl nx 0 n room,pt H nx (.row t sp c),nx+1,[]⟩:=by
 refine⟨λs w fv vals hc hargs hH hgl hnn=>?_,by grind[Bh,C5.new]⟩
 obtain⟨F,hFd⟩: ∃F:Nat->Prop,F=λb=>s.fz b\/∃g t sp c,H.get g=some (.row t sp c)/\b=s.μ g:=⟨_,rfl⟩
 have hF1: ∀b,s.fz b->F b:=λb hb=>by simp_all
 have hF2: ∀b,F b->b<w.heap.size:=λb hb=>by
  rw[hFd]at hb
  rcases hb with hb|⟨g,t,sp,c,hg,rfl⟩
  .exact hH.old b (.inl hb)
  .exact(hH.obj _ _ hg rfl).2.1
 have hF3:RL (sg F) w ars vals.toList:=A8.rl hH (s':=sg F) ⟨λ_ _ e=>(by cases e),λg t sp c _ hg=>by rw[hFd];exact .inr ⟨g,t,sp,c,hg,rfl⟩,hF1⟩ _ _ _ hv hargs
 obtain⟨next,e1,e2,e3⟩:=h.1 (sg F) w fv vals (Hf.rv (s':=sg F) hF1 _ _ trivial hc) hF3 (DP (λb hb=>hb.elim (hF2 b) False.elim)) (λg l hg=>RC.mono' (s':=sg F) hF1 (λ_ _=>rfl) l g 0 (hgl g l hg)) (λ_ _ h=>h)
 refine⟨next,e1,?_,e3⟩
 obtain⟨f',ars2,rfl⟩:=e3 ⟨f,[],rfl⟩
 refine CallsIn.mono e2 ?_
 rintro e w' ⟨u,s',rfl,g1,g2,g3,g4,g5⟩
 obtain⟨o1,o2,o3,o4⟩:=g2.obj 0 _ oC rfl
 have hnew:w.heap.size<=s'.μ 0:=by
  rcases g3.new 0 o1 (λh=>h)with h|⟨k,hk,_⟩
  .exact h
  .cases hk
 obtain⟨r1,_⟩:=hH.below (w':=w') ⟨g3.mod.os,g3.mod.tape,g3.mod.output,g3.mod.size,λk hk=>g3.mod.block k hk (λ⟨_,hm,_⟩=>by cases hm)⟩
 have hsz:=g3.mod.size
 have hno: ¬s.dom nx:=hnn nx (aC _)
 have hold: ∀b,b<w.heap.size->w'.heap[b]? =w.heap[b]? :=λb hb=>g3.mod.block b hb (λ⟨_,hm,_⟩=>by cases hm)
 have hk:Ee s w w':=λb hb=>hold b (hH.old b hb)
 refine⟨u,s.ext nx (s'.μ 0) (s'.cp 0),rfl,?_,?_,⟨Av.ext_le hno,λ_ h=>.inl h,hk,⟨g3.mod.os,g3.mod.tape,g3.mod.output,hsz,λk hk _=>hold k hk⟩,λi hi hni=>?_⟩,λi=>?_,Nat.le_succ _⟩
 .obtain⟨_,cap,hu,hle,hr1,hr2⟩:=g1
  exact⟨Wp _ _ _ _,cap,by grind[Ig],hle,hr1,λh1 h2=>by grind[Ht]⟩
 .show RH _ _ (pt H nx (.row t sp c)).get
  rw[Bh,A9]
  refine hH.put hno (.inl hnew) hk (λg og hg hl=>hold _ (hH.obj g og hg hl).2.1) hsz o2 ?_
  obtain⟨vs,rest,q1,q2,q3,q4⟩:=o4
  exact⟨vs,rest,by grind[Ig],sW _ _ hci q2,q3,by grind[Ht]⟩
 .rcases hi with hi|hi
  all_goals grind[Ig]
 .constructor
  .rintro(hi|hi)
   all_goals grind
  .rintro(hi|⟨a,b⟩)
   .exact .inl hi
   .exact .inr (by grind)
theorem Au.fst{rd:Option Nat}{nx0:Nat}{st:St}{A B:Prop}{e':Ex}{S':SL}(h:Au P rd nx0 c st (B3 gl n [(A,e,S),(B,e',S')]))(hb: ¬B):Au P rd nx0 c st (B3 gl n [(True,e,S)]):=
 h.mono λ_ _ q=>q.elim (λq=>.inl ⟨trivial,q.2⟩) λq=>q.elim (λq=>absurd q.1 hb) λq=>q.elim
theorem Au.snd{rd:Option Nat}{nx0:Nat}{st:St}{A B:Prop}{e':Ex}{S':SL}(h:Au P rd nx0 c st (B3 gl n [(A,e,S),(B,e',S')]))(hb: ¬A):Au P rd nx0 c st (B3 gl n [(True,e',S')]):=
 h.mono λ_ _ q=>q.elim (λq=>absurd q.1 hb) λq=>q.elim (λq=>.inl ⟨trivial,q.2⟩) λq=>q.elim
theorem kZ{M:List Int}(h:sl L=sl M):L=M:=by
 have I7: ∀{L M:List Int},Aa L=Aa M->L=M:=by
  intro L
  induction L with
  |nil=>intro M h;cases M with
   |nil=>rfl
   |cons=>cases h
  | cons a L ih =>
   intro M h
   cases M with
   |nil=>cases h
   |cons b M=>
    simp only[Aa,List.map_cons,cT]at h
    obtain⟨h1,h2⟩:=h
    injection h1 with h3 h4
    rw[h4,ih h2]
 grind
theorem DZ(h:De n L=true):L.length<=n:=by
 have hi:=JO.1 h
 have key: ∀k,k<L.length->(k:Int)<=L.getD k 0:=by
  intro k
  induction k with
  |zero=>simp_all
  |succ k ih=>
   grind
 grind
theorem ED(h:De n L=true):Hw L n:=λk hk=>⟨(JO.1 h k hk).1,(JO.1 h k hk).2.1⟩
def By(N:List Mc):Nat->Int
 |0=>1
 |k+1=>By N k*(N.getD k Ao).c
theorem AZ(hc: ∀k,k<N.length->1<=(N.getD k Ao).c/\(N.getD k Ao).c<=4): ∀k,k<=N.length->1<=By N k/\By N k<=4^k
 |0,_=>by simp[By]
 |k+1,hk=>by
  obtain⟨h1,h2⟩:=AZ hc k o_
  obtain⟨h5,h6⟩:=hc k o_
  show 1<=By N k*(N.getD k Ao).c/\By N k*(N.getD k Ao).c<=4^(k+1)
  generalize (N.getD k Ao).c=c,By N k=a at*
  have e:(4:Int)^(k+1)=4^k*4:=cV ..
  rw[e]
  refine⟨?_,bC h2 h6 o_ o_⟩
  have:1*1<=a*c:=bC h1 h5 d_ o_
  omega
def Tr(k:Nat)(L:List Int):Bool:=(List.range L.length).any λi=>decide (L.getD i 0=(k:Int))
theorem mP{k:Nat}:Tr k L=false↔∀i,i<L.length->L.getD i 0≠(k:Int):=by
 grind[Tr]
def Gh(R:List (List Int))(N:List Mc)(k:Nat)(x:Mc):Bool:=
 De N.length x.fr&&De R.length x.no&& !Tr k x.fr&&decide ((x.ou.length:Int)=Cs N x.fr x.fr.length*(C7 R x.no x.no.length:Nat))&&D5 0 (x.c-1) x.ou
def Ek(R:List (List Int))(N:List Mc):Bool:=(List.range N.length).all (λk=>Gh R N k (N.getD k Ao))&&decide (By N N.length<=1024)
abbrev Sv(g:Int)(n:Nat)(R:List V)(q:Nat)(N:List V)(x:Mc)(k:Nat)(p:Int)(i:Nat):SL:={sl:=[(1,.ptr 0 0),(2,.bool false),(3,i6 p),(4,i6 k),(5,.ptr 1 0),(11,.im q N),(12,i6 q),(13,i6 k),(39,sl x.fr),(40,i6 x.fr.length),(41,i6 i)],os:=[Mg g n R q N,N4 x]}
theorem Sr(g:Int)(n:Nat)(R:List V)(hR:Ba R)(q:Nat)(N:List V)(hN:Ba N)(c:Int)(fr nz ou:List Int)(k:Nat)(p:Int)(hl:fr.length<=8)(hk:k<=8):
  Au Pg none 0 (aT 78 11101001100111010) (Al g0 74 (Sv g n R q N ⟨c,fr,nz,ou⟩ k p 0)) (B3 g0 74 [(Tr k fr=false,.exit 2,Sv g n R q N ⟨c,fr,nz,ou⟩ k p fr.length),(Tr k fr=true,.ret,{sl:=[(2,.bool false)]})]):=by
 have h1:=Ap fr
 have h2:=Ap nz
 have h3:=Ap ou
 refine C9 (aT 78 111010011001110100) (λi=>i<=fr.length/\∀j,j<i->fr.getD j 0≠(k:Int)) (Sv g n R q N ⟨c,fr,nz,ou⟩ k p) (λi=>fr.length-i) (λi hi=>?_) 0 ⟨aG _,λi h=>absurd h (aJ _)⟩
 obtain⟨hi,hin⟩:=hi
 by_cases hlt:i<fr.length
 .have hld:=Dm hlt
  by_cases he:fr.getD i 0=(k:Int)
  .have hf:Tr k fr=true:=by
    cases hb:Tr k fr with
    |true=>rfl
    |false=>grind[mP]
   refine .inr ⟨.ret,[],{sl:=[(2,.bool false)]},[As 42,pl 43,ld 44 (i6 (fr.getD i 0)),As 47],1000,.inr (.inl ⟨hf,rfl,rfl⟩),?_⟩
   clear hin hf
   generalize fr.getD i 0=y at*
   exact Cj [_,_,_,(y==(↑k:Int))=true] ⟨Bf hlt,Ar hlt,hld,a_⟩
  .refine .inl ⟨i+1,[0,1],[As 42,pl 43,ld 44 (i6 (fr.getD i 0)),no 47,nu 48 ((i+1:Nat):Int)],1000,⟨hlt,λj hj=>?_⟩,o_,?_⟩
   .grind
   clear hin
   generalize fr.getD i 0=y at*
   exact C8 [_,_,_,(y==(↑k:Int))=false,wr .i64 ((↑i:Int)+(1:Int))=(↑(i+1):Int)] ⟨Bf hlt,Ar hlt,hld,a_⟩
 .have hk2:i=fr.length:=o_
  subst hk2
  refine .inr ⟨.exit 2,[0,1],Sv g n R q N ⟨c,fr,nz,ou⟩ k p fr.length,[no 42],1000,.inl ⟨mP.2 hin,rfl,rfl⟩,?_⟩
  clear hin
  exact Cj [_] (Cq hlt)
abbrev PH(g:Int)(n:Nat)(R:List V)(q:Nat)(N:List V)(k:Nat)(p:Int):SL:={sl:=[(1,.ptr 0 0),(2,.bool false),(3,i6 p),(11,.im q N),(12,i6 q),(13,i6 k)],os:=[Mg g n R q N]}
section
variable (g:Int) (R:List (List Int)) (N:List Mc) (hq:N.length<=5) (hn:R.length<=8) (hc: ∀k,k<N.length->1<=(N.getD k Ao).c/\(N.getD k Ao).c<=4) (hR: ∀k,k<R.length->1<=(R.getD k []).length/\(R.getD k []).length<=4) (h6: ∀x∈N,x.fr.length<=1000000/\x.no.length<=1000000/\x.ou.length<=1000000)
include hq hn hc hR h6
theorem gx:Au Pg none 0 (aT 78 111010) (Al g0 74 (PH g R.length (Ah R) N.length (Ak N) 0 1)) (B3 g0 74 [((List.range N.length).all (λk=>Gh R N k (N.getD k Ao))=true,.exit 0,{sl:=[(3,i6 (By N N.length))]}),((List.range N.length).all (λk=>Gh R N k (N.getD k Ao))=false,.ret,{sl:=[(2,.bool false)]})]):=by
 have hRR:=B7 R
 have hNN:=Cl N
 refine C9 (aT 78 1110100) (λk=>k<=N.length/\∀i,i<k->Gh R N i (N.getD i Ao)=true) (λk=>PH g R.length (Ah R) N.length (Ak N) k (By N k)) (λk=>N.length-k) (λk hk=>?_) 0 ⟨aG _,λi h=>absurd h (aJ _)⟩
 obtain⟨hk,hin⟩:=hk
 by_cases hlt:k<N.length
 .have hld:=DX hlt
  have bad:Gh R N k (N.getD k Ao)=false->(List.range N.length).all (λk=>Gh R N k (N.getD k Ao))=false:=λh=>by
   grind
  have hgood:Gh R N k (N.getD k Ao)=true->∀i,i<k+1->Gh R N i (N.getD i Ao)=true:=λh i hi=>by
   grind
  have hcb:=AZ hc (k+1) hlt
  have h45:(4:Int)^(k+1)<=4^5:=by
   have:=aH (show 4>0 by decide) (show k+1<=5 by omega)
   exact_mod_cast this
  have h46:(4:Int)^5=1024:=rfl
  have e1:By N (k+1)=By N k*(N.getD k Ao).c:=rfl
  have hx6:=h6 (N.getD k Ao) (by simp_all)
  have hcx:=hc k hlt
  have hs:Hw (N.getD k Ao).fr N.length->Hw (N.getD k Ao).no R.length->(N.getD k Ao).fr.length<=5->(N.getD k Ao).no.length<=8->Ag Pg g0 118 [Bd g R N,.agg [i6 (N.getD k Ao).c,sl (N.getD k Ao).fr,sl (N.getD k Ao).no,sl (N.getD k Ao).ou]] (.tup [i6 (Cs N (N.getD k Ao).fr (N.getD k Ao).fr.length),i6 (C7 R (N.getD k Ao).no (N.getD k Ao).no.length:Nat)]):=λa b c d=>Qw g R N (N.getD k Ao) hc hR a b c d
  have hca:=λ(a:Hw (N.getD k Ao).fr N.length)(l:(N.getD k Ao).fr.length<=5)=>LW hc a (N.getD k Ao).fr.length (aC _)
  have hra:=λ(a:Hw (N.getD k Ao).no R.length)=>TL hR a (N.getD k Ao).no.length (aC _)
  generalize hxe:N.getD k Ao=x at*
  obtain⟨c,fr,nz,ou⟩:=x
  dsimp only at*
  generalize hp1e:By N (k+1)=p1,By N k=p0 at*
  have h1:=Ap fr
  have h2:=Ap nz
  have h3:=Ap ou
  have w1:=am fr N.length hx6.1
  have w2:=am nz R.length hx6.2.1
  have w3:=EG 0 (c-1) ou hx6.2.2
  have eN:Gh R N k ⟨c,fr,nz,ou⟩=(De N.length fr&&De R.length nz&& !Tr k fr&&decide ((ou.length:Int)=Cs N fr fr.length*(C7 R nz nz.length:Nat))&&D5 0 (c-1) ou):=rfl
  cases b1:De N.length fr with
  |false=>
   rw[b1]at w1 eN
   have hf:=bad (by rw[eN];rfl)
   refine .inr ⟨.ret,[],{sl:=[(2,.bool false)]},[As 14,pl 16,ld 17 (.agg (Fq ⟨c,fr,nz,ou⟩)),nu 21 p1,fn 27 (.bool false)],1000,.inr (.inl ⟨hf,rfl,rfl⟩),?_⟩
   clear hxe hin bad hgood hs hca hra hc hR h6 eN
   generalize Ah R=RR,Ak N=NN at*
   exact Cj [_,_,_,wr .i64 (p0*c)=p1,_] ⟨Bf hlt,Ar hlt,hld,aq,w1⟩
  | true =>
   rw[b1]at w1 eN
   have pl1:=ED b1
   have ln1:=DZ b1
   cases b2:De R.length nz with
   |false=>
    rw[b2]at w2 eN
    have hf:=bad (by rw[eN];rfl)
    refine .inr ⟨.ret,[],{sl:=[(2,.bool false)]},[As 14,pl 16,ld 17 (.agg (Fq ⟨c,fr,nz,ou⟩)),nu 21 p1,fn 27 (.bool true),fn 35 (.bool false)],1000,.inr (.inl ⟨hf,rfl,rfl⟩),?_⟩
    clear hxe hin bad hgood hs hca hra hc hR h6 eN
    generalize Ah R=RR,Ak N=NN at*
    exact Cj (let z0:=pt (pt (Ai T.e 0 [Mg g R.length RR N.length NN]) 1 (O.row 86 none [i6 0,V.nils,V.nils,V.nils])) 1 (O.row 86 none [i6 c,sl fr,sl nz,sl ou]);[_,_,_,wr .i64 (p0*c)=p1,_,_,V.fn 117 []=V.fn 117 []->[sl fr,i6 ↑N.length]=[sl nz,i6 ↑R.length]->z0=z0->1+1=2->CR.mk (V.bool true) z0 2 []=CR.mk (V.bool false) z0 2 []]) ⟨Bf hlt,Ar hlt,hld,aq,w1,w2,(by(intro _ h _ _;have e3:=kZ (cA h).1;have e4:=(cA (cA h).2).1;injection e4 with _ e5;rw[e3,e5,b2]at b1;cases b1;done))⟩
   | true =>
    rw[b2]at w2 eN
    have pl2:=ED b2
    have ln2:=DZ b2
    have hlo:=Sr g R.length (Ah R) hRR N.length (Ak N) hNN c fr nz ou k p1 o_ o_
    replace hs:=hs pl1 pl2 o_ o_
    unfold Bd at hs
    replace hca:=hca pl1 o_
    replace hra:=hra pl2
    have hcb5:(4:Int)^fr.length<=4^5:=by
     have:=aH (show 4>0 by decide) (show fr.length<=5 by omega)
     exact_mod_cast this
    have hrb5:4^nz.length<=4^8:=aH d_ o_
    have h48:4^8=65536:=rfl
    generalize Cs N fr fr.length=a,C7 R nz nz.length=b at*
    have hab:1*1<=a*(b:Int)/\a*(b:Int)<=1024*65536:=⟨bC o_ o_ o_ o_,bC o_ o_ o_ o_⟩
    obtain⟨ab,hab2⟩: ∃z,z=a*(b:Int):=⟨_,rfl⟩
    rw[<-hab2]at hab eN
    cases b3:Tr k fr with
    |true=>
     rw[b3]at hlo eN
     replace hlo:=hlo.snd (λh=>by cases h)
     have hf:=bad (by rw[eN];rfl)
     refine .inr ⟨.ret,[],{sl:=[(2,.bool false)]},[As 14,pl 16,ld 17 (.agg (Fq ⟨c,fr,nz,ou⟩)),nu 21 p1,fn 27 (.bool true),fn 35 (.bool true),(0,.loop [0,1] (Sv g R.length (Ah R) N.length (Ak N) ⟨c,fr,nz,ou⟩ k p1 0) [(True,.ret,{sl:=[(2,.bool false)]})])],1000,.inr (.inl ⟨hf,rfl,rfl⟩),?_⟩
     clear hxe hin bad hgood hs hca hra hc hR h6 eN
     generalize Ah R=RR,Ak N=NN at*
     exact m_ (p:=let z1:=(↑k:Int);let z2:=(↑N.length:Int);let z3:=[i6 c,sl fr,sl nz,sl ou];let z4:=[i6 g,V.im R.length RR,V.im N.length NN];let z0:=pt (pt (Ai T.e 0 [Mg g R.length RR N.length NN]) 1 (O.row 86 none [i6 0,V.nils,V.nils,V.nils])) 1 (O.row 86 none z3);An [_,_,_,wr .i64 (p0*c)=p1,_,_,V.fn 117 []=V.fn 117 []->[sl fr,i6 ↑N.length]=[sl nz,i6 ↑R.length]->z0=z0->1+1=2->Sm (CR.mk (V.bool true) z0 2 []),An [An [Zz,Sm false,p1=p1,z1=z1,Zz,An [Sm N.length,NN=NN],z2=z2,z1=z1,An [Sm fr.length,Sm (Aa fr)],Sm (↑fr.length:Int),(↑(0:Nat):Int)=(0:Int),Tt],An [z4=z4,TT 3],An [z3=z3,TT 4],Tt],_,(True->An [An [Sm false,Tt],Tt]),Tt]) ⟨Bf hlt,Ar hlt,hld,aq,w1,w2,aq,a_,hlo,a_⟩
    | false =>
     rw[b3]at hlo eN
     replace hlo:=hlo.fst (λh=>by cases h)
     by_cases h5:(ou.length:Int)=ab
     .cases b4:D5 0 (c-1) ou with
      |false=>
       rw[b4]at w3 eN
       have hf:=bad (by rw[eN];simp)
       refine .inr ⟨.ret,[],{sl:=[(2,.bool false)]},[As 14,pl 16,ld 17 (.agg (Fq ⟨c,fr,nz,ou⟩)),nu 21 p1,fn 27 (.bool true),fn 35 (.bool true),(0,.loop [0,1] (Sv g R.length (Ah R) N.length (Ak N) ⟨c,fr,nz,ou⟩ k p1 0) [(True,.exit 2,Sv g R.length (Ah R) N.length (Ak N) ⟨c,fr,nz,ou⟩ k p1 fr.length)]),fn 52 (.tup [i6 a,i6 b]),nu 60 ab,no 61,nu 65 (c-1),fn 68 (.bool false)],1000,.inr (.inl ⟨hf,rfl,rfl⟩),?_⟩
       clear hxe hin bad hgood hca hra hc hR h6 eN
       generalize Ah R=RR,Ak N=NN at*
       exact m_ (p:=let z1:=[i6 g,V.im R.length RR,V.im N.length NN];let z2:=(↑k:Int);let z3:=(↑N.length:Int);let z4:=[i6 c,sl fr,sl nz,sl ou];let z0:=pt (pt (Ai T.e 0 [Mg g R.length RR N.length NN]) 1 (O.row 86 none [i6 0,V.nils,V.nils,V.nils])) 1 (O.row 86 none z4);An [_,_,_,wr .i64 (p0*c)=p1,_,_,V.fn 117 []=V.fn 117 []->[sl fr,i6 ↑N.length]=[sl nz,i6 ↑R.length]->z0=z0->1+1=2->Sm (CR.mk (V.bool true) z0 2 []),An [An [Zz,Sm false,p1=p1,z2=z2,Zz,An [Sm N.length,NN=NN],z3=z3,z2=z2,An [Sm fr.length,Sm (Aa fr)],Sm (↑fr.length:Int),(↑(0:Nat):Int)=(0:Int),Tt],An [z1=z1,TT 3],An [z4=z4,TT 4],Tt],_,(True->An [_,wr .i64 (a*(↑b:Int))=ab,((↑ou.length:Int) != ab)=false,wr .i64 (c-(1:Int))=c-(1:Int),_,An [Sm false,Tt],Tt]),Tt]) ⟨Bf hlt,Ar hlt,hld,aq,w1,w2,aq,a_,hlo,(λ_=>⟨hs,aq,aq,aq,w3,a_⟩),aq⟩
      |true=>
       rw[b4]at w3 eN
       have hg:=hgood (by grind)
       refine .inl ⟨k+1,[0],[As 14,pl 16,ld 17 (.agg (Fq ⟨c,fr,nz,ou⟩)),nu 21 p1,fn 27 (.bool true),fn 35 (.bool true),(0,.loop [0,1] (Sv g R.length (Ah R) N.length (Ak N) ⟨c,fr,nz,ou⟩ k p1 0) [(True,.exit 2,Sv g R.length (Ah R) N.length (Ak N) ⟨c,fr,nz,ou⟩ k p1 fr.length)]),fn 52 (.tup [i6 a,i6 b]),nu 60 ab,no 61,nu 65 (c-1),fn 68 (.bool true),nu 71 ((k+1:Nat):Int)],1000,⟨hlt,hg⟩,o_,?_⟩
       clear hxe hin bad hgood hg hca hra hc hR h6 eN
       generalize Ah R=RR,Ak N=NN at*
       exact m_ (p:=let z1:=[i6 g,V.im R.length RR,V.im N.length NN];let z2:=(↑N.length:Int);let z3:=(↑k:Int);let z4:=[i6 c,sl fr,sl nz,sl ou];let z7:=(↑(k+1):Int);let z0:=pt (pt (Ai T.e 0 [Mg g R.length RR N.length NN]) 1 (O.row 86 none [i6 0,V.nils,V.nils,V.nils])) 1 (O.row 86 none z4);An [_,_,_,wr .i64 (p0*c)=p1,_,_,V.fn 117 []=V.fn 117 []->[sl fr,i6 ↑N.length]=[sl nz,i6 ↑R.length]->z0=z0->1+1=2->Sm (CR.mk (V.bool true) z0 2 []),An [An [Zz,Sm false,p1=p1,z3=z3,Zz,An [Sm N.length,NN=NN],z2=z2,z3=z3,An [Sm fr.length,Sm (Aa fr)],Sm (↑fr.length:Int),(↑(0:Nat):Int)=(0:Int),Tt],An [z1=z1,TT 3],An [z4=z4,TT 4],Tt],_,(True->An [_,wr .i64 (a*(↑b:Int))=ab,((↑ou.length:Int) != ab)=false,wr .i64 (c-(1:Int))=c-(1:Int),_,wr .i64 (z3+(1:Int))=z7,An [Zz,Sm false,_,An [Sm N.length,NN=NN],z2=z2,z7=z7,Tt],An [z1=z1,TT 3],Tt]),Tt]) ⟨Bf hlt,Ar hlt,hld,aq,w1,w2,aq,a_,hlo,(λ_=>⟨hs,aq,aq,aq,w3,aq,⟨aq,aq,hp1e,a_⟩,a_⟩),aq⟩
     .have hf:=bad (by simp_all)
      refine .inr ⟨.ret,[],{sl:=[(2,.bool false)]},[As 14,pl 16,ld 17 (.agg (Fq ⟨c,fr,nz,ou⟩)),nu 21 p1,fn 27 (.bool true),fn 35 (.bool true),(0,.loop [0,1] (Sv g R.length (Ah R) N.length (Ak N) ⟨c,fr,nz,ou⟩ k p1 0) [(True,.exit 2,Sv g R.length (Ah R) N.length (Ak N) ⟨c,fr,nz,ou⟩ k p1 fr.length)]),fn 52 (.tup [i6 a,i6 b]),nu 60 ab,As 61],1000,.inr (.inl ⟨hf,rfl,rfl⟩),?_⟩
      clear hxe hin bad hgood hca hra hc hR h6 eN
      generalize Ah R=RR,Ak N=NN at*
      exact m_ (p:=let z1:=[i6 g,V.im R.length RR,V.im N.length NN];let z2:=(↑k:Int);let z3:=(↑N.length:Int);let z4:=[i6 c,sl fr,sl nz,sl ou];let z0:=pt (pt (Ai T.e 0 [Mg g R.length RR N.length NN]) 1 (O.row 86 none [i6 0,V.nils,V.nils,V.nils])) 1 (O.row 86 none z4);An [_,_,_,wr .i64 (p0*c)=p1,_,_,V.fn 117 []=V.fn 117 []->[sl fr,i6 ↑N.length]=[sl nz,i6 ↑R.length]->z0=z0->1+1=2->Sm (CR.mk (V.bool true) z0 2 []),An [An [Zz,Sm false,p1=p1,z2=z2,Zz,An [Sm N.length,NN=NN],z3=z3,z2=z2,An [Sm fr.length,Sm (Aa fr)],Sm (↑fr.length:Int),(↑(0:Nat):Int)=(0:Int),Tt],An [z1=z1,TT 3],An [z4=z4,TT 4],Tt],_,(True->An [_,wr .i64 (a*(↑b:Int))=ab,((↑ou.length:Int) != ab)=true,An [Sm false,Tt],Tt]),Tt]) ⟨Bf hlt,Ar hlt,hld,aq,w1,w2,aq,a_,hlo,(λ_=>⟨hs,a_⟩),aq⟩
 .have hk2:k=N.length:=o_
  have hall:(List.range N.length).all (λk=>Gh R N k (N.getD k Ao))=true:=aO.2 λi hi=>hin i (by simp_all)
  subst hk2
  generalize hp0:By N N.length=p0 at*
  refine .inr ⟨.exit 0,[],{sl:=[(3,i6 p0)]},[no 14],1000,.inl ⟨hall,rfl,rfl⟩,?_⟩
  clear hin hall hp0
  generalize Ah R=RR,Ak N=NN at*
  exact Cj [_] (Cq hlt)
end
section
variable (g:Int) (R:List (List Int)) (N:List Mc) (hq:N.length<=5) (hn:R.length<=8) (hc: ∀k,k<N.length->1<=(N.getD k Ao).c/\(N.getD k Ao).c<=4) (hR: ∀k,k<R.length->1<=(R.getD k []).length/\(R.getD k []).length<=4) (h6: ∀x∈N,x.fr.length<=1000000/\x.no.length<=1000000/\x.ou.length<=1000000)
include hq hn hc hR h6
theorem Ss:Ag Pg g0 78 [Bd g R N] (.bool (Ek R N)):=by
 have hRR:=B7 R
 have hNN:=Cl N
 have h:=gx g R N hq hn hc hR h6
 show Ag Pg g0 78 [.agg [i6 g,.im R.length (Ah R),.im N.length (Ak N)]] (.bool ((List.range N.length).all (λk=>Gh R N k (N.getD k Ao))&&decide (By N N.length<=1024)))
 generalize (List.range N.length).all (λk=>Gh R N k (N.getD k Ao))=b,By N N.length=p,Ah R=RR,Ak N=NN at*
 cases b with
 |false=>
  replace h:=h.snd (λh=>by cases h)
  refine Ch {sl:=[(2,.bool false)]} [(0,.loop [0] (PH g R.length RR N.length NN 0 1) [(True,.ret,{sl:=[(2,.bool false)]})])] ?_
  clear hc hR h6
  exact m_ (p:=An [V.bool false=V.bool (false&&decide (p<=(1024:Int))),An [An [Zz,Sm false,Sm (1:Int),An [Sm N.length,NN=NN],Sm (↑N.length:Int),(↑(0:Nat):Int)=(0:Int),Tt],An [Sm [i6 g,V.im R.length RR,V.im N.length NN],TT 3],Tt],_,(True->An [An [Sm false,Tt],Tt]),Tt]) ⟨aq,a_,h,a_⟩
 | true =>
  replace h:=h.fst (λh=>by cases h)
  by_cases hp:p<=1024
  .rw[decide_eq_true hp]
   refine Ch {sl:=[(2,.bool true)]} [(0,.loop [0] (PH g R.length RR N.length NN 0 1) [(True,.exit 0,{sl:=[(3,i6 p)]})]),As 73] ?_
   clear hc hR h6
   exact m_ (p:=An [V.bool true=V.bool (true&&true),An [An [Zz,Sm false,Sm (1:Int),An [Sm N.length,NN=NN],Sm (↑N.length:Int),(↑(0:Nat):Int)=(0:Int),Tt],An [Sm [i6 g,V.im R.length RR,V.im N.length NN],TT 3],Tt],_,(True->An [_,An [Sm true,Tt],Tt]),Tt]) ⟨aq,a_,h,(λ_=>⟨decide_eq_true hp,a_⟩),aq⟩
  .rw[decide_eq_false hp]
   refine Ch {sl:=[(2,.bool false)]} [(0,.loop [0] (PH g R.length RR N.length NN 0 1) [(True,.exit 0,{sl:=[(3,i6 p)]})]),no 73] ?_
   clear hc hR h6
   exact m_ (p:=An [V.bool false=V.bool (true&&false),An [An [Zz,Sm false,Sm (1:Int),An [Sm N.length,NN=NN],Sm (↑N.length:Int),(↑(0:Nat):Int)=(0:Int),Tt],An [Sm [i6 g,V.im R.length RR,V.im N.length NN],TT 3],Tt],_,(True->An [_,An [Sm false,Tt],Tt]),Tt]) ⟨aq,a_,h,(λ_=>⟨decide_eq_false hp,a_⟩),aq⟩
end
theorem qS{n m:Int}(h1:0<=n)(h2:n<=18446744073709551615)(h:n=m):wr .u64 n=m:=by rw[<-h];exact Vu h1 h2
def La(N:List Mc)(d i:Nat):Nat:=if mi (Cr (N.getD i Ao).fr (N.getD i Ao).fr.length) d=0 then d|||2^i else d
def Ic(N:List Mc)(d:Nat):Nat->Nat
 |0=>d
 |i+1=>La N (Ic N d i) i
def Gq(N:List Mc):Nat->Nat
 |0=>0
 |r+1=>Ic N (Gq N r) N.length
def Jk(N:List Mc):Bool:=decide (Gq N N.length=2^N.length-1)
theorem Vj{d:Nat}(hd:d<2^64)(hi:i<64):La N d i<2^64:=by
 unfold La
 split
 .exact dL (n:=64) hd (dD o_ hi)
 .exact hd
theorem SV{d:Nat}(hd:d<2^64): ∀i,i<=64->Ic N d i<2^64
 |0,_=>hd
 |i+1,hi=>Vj (SV hd i o_) o_
theorem WW(hq:N.length<=5): ∀r,Gq N r<2^64
 |0=>by show 0< _;omega
 |r+1=>SV (WW hq r) _ o_
abbrev KV(g:Int)(n:Nat)(R:List V)(q:Nat)(N:List V)(r:Nat)(i:Nat)(d:Nat):SL:={sl:=[(1,.ptr 0 0),(2,.bool false),(3,u6 d),(7,.im q N),(8,i6 q),(9,i6 r),(12,.im q N),(13,i6 q),(14,i6 i)],os:=[Mg g n R q N]}
abbrev DF(g:Int)(n:Nat)(R:List V)(q:Nat)(N:List V)(r:Nat)(d:Nat):SL:={sl:=[(1,.ptr 0 0),(2,.bool false),(3,u6 d),(7,.im q N),(8,i6 q),(9,i6 r)],os:=[Mg g n R q N]}
section
variable (g:Int) (R:List (List Int)) (N:List Mc) (hq:N.length<=5) (hf: ∀k,k<N.length->Hw (N.getD k Ao).fr N.length/\(N.getD k Ao).fr.length<=5)
include hq hf
theorem RI(r d:Nat)(hr:r<=5)(hd:d<2^64):Au Pg none 0 (aT 79 1110100110010) (Al g0 38 (KV g R.length (Ah R) N.length (Ak N) r 0 d)) (B3 g0 38 [(True,.exit 2,KV g R.length (Ah R) N.length (Ak N) r N.length (Ic N d N.length))]):=by
 have hRR:=B7 R
 have hNN:=Cl N
 refine C9 (aT 79 11101001100100) (λi=>i<=N.length) (λi=>KV g R.length (Ah R) N.length (Ak N) r i (Ic N d i)) (λi=>N.length-i) (λi hi=>?_) 0 (aG _)
 by_cases hlt:i<N.length
 .have hld:=DX hlt
  have ef:(N.getD i Ao).fr=(N.getD i Ao).fr:=rfl
  have hs:=Q0 (N.getD i Ao).fr (by grind) (λk hk=>by have:=(hf i hlt).1 k hk;omega)
  have hs1:=JD (L:=(N.getD i Ao).fr) (λk hk=>by have:=(hf i hlt).1 k hk;omega) _ (aC _)
  have e1:Ic N d (i+1)=La N (Ic N d i) i:=rfl
  have hd1:=SV (N:=N) hd i o_
  have hd2:=SV (N:=N) hd (i+1) o_
  unfold La at e1
  generalize hd2e:Ic N d (i+1)=d2,Ic N d i=d1 at*
  clear hf
  generalize N.getD i Ao=x at*
  obtain⟨c,fr,nz,ou⟩:=x
  dsimp only at*
  generalize Cr fr fr.length=s at*
  have h1:=Ap fr
  have h2:=Ap nz
  have h3:=Ap ou
  have m1:=S4 (G:=B1 Pg) (t:=29) hs1 hd1
  have m2:=WI (G:=B1 Pg) (t:=29) (k:=i) o_
  have m3:=Kn (G:=B1 Pg) (t:=29) hd1 m2.2
  by_cases h0:mi s d1=0
  .rw[if_pos h0]at e1
   rw[h0]at m1
   rw[<-e1]at m3
   refine .inl ⟨i+1,[0],[As 15,pl 17,ld 18 (.agg (Fq ⟨c,fr,nz,ou⟩)),fn 21 (u6 s),va 23 (u6 (0:Nat)),va 27 (u6 (2^i:Nat)),va 28 (u6 d2),nu 29 ((i+1:Nat):Int)],1000,hlt,o_,?_⟩
   generalize Ah R=RR,Ak N=NN at*
   exact m_ (p:=let z0:=(↑N.length:Int);let z1:=[i6 g,V.im R.length RR,V.im N.length NN];let z2:=B1 Tryz.prog;let z3:=(↑(i+1):Int);An [_,_,_,_,_,B6 z2 BinOp.shl 29 (u6 1) (i6 ↑i)=some (u6 ↑(2^i)),B6 z2 BinOp.or 29 (u6 ↑d1) (u6 ↑(2^i))=some (u6 ↑d2),wr .i64 ((↑i:Int)+(1:Int))=z3,An [Zz,Sm false,(↑(Ic N d (i+1)):Int)=(↑d2:Int),An [Sm N.length,NN=NN],z0=z0,Sm (↑r:Int),An [Sm N.length,NN=NN],z0=z0,z3=z3,Tt],An [z1=z1,TT 3],Tt]) ⟨Bf hlt,Ar hlt,hld,hs,m1,a_⟩
  .rw[if_neg h0]at e1
   obtain rfl:d1=d2:=e1.symm
   refine .inl ⟨i+1,[0],[As 15,pl 17,ld 18 (.agg (Fq ⟨c,fr,nz,ou⟩)),fn 21 (u6 s),va 23 (u6 (mi s d1:Nat)),no 24,nu 29 ((i+1:Nat):Int)],1000,hlt,o_,?_⟩
   generalize Ah R=RR,Ak N=NN,mi s d1=m at*
   exact m_ (p:=let z0:=(↑N.length:Int);let z1:=[i6 g,V.im R.length RR,V.im N.length NN];let z2:=(↑(i+1):Int);An [_,_,_,_,_,((↑m:Int)==(0:Int))=false,wr .i64 ((↑i:Int)+(1:Int))=z2,An [Zz,Sm false,(↑(Ic N d (i+1)):Int)=(↑d1:Int),An [Sm N.length,NN=NN],z0=z0,Sm (↑r:Int),An [Sm N.length,NN=NN],z0=z0,z2=z2,Tt],An [z1=z1,TT 3],Tt]) ⟨Bf hlt,Ar hlt,hld,hs,m1,a_⟩
 .have hk2:i=N.length:=o_
  subst hk2
  generalize Ic N d N.length=d1 at*
  refine .inr ⟨.exit 2,[0],KV g R.length (Ah R) N.length (Ak N) r N.length d1,[no 15],1000,.inl ⟨trivial,rfl,rfl⟩,?_⟩
  generalize Ah R=RR,Ak N=NN at*
  clear hf
  exact m_ (p:=let z0:=(↑N.length:Int);let z1:=[i6 g,V.im R.length RR,V.im N.length NN];An [_,An [Zz,Sm false,Sm (↑d1:Int),An [Sm N.length,NN=NN],z0=z0,Sm (↑r:Int),An [Sm N.length,NN=NN],z0=z0,z0=z0,Tt],An [z1=z1,TT 3],Tt]) ⟨Cq hlt,a_⟩
theorem IP:Au Pg none 0 (aT 79 111010) (Al g0 38 (DF g R.length (Ah R) N.length (Ak N) 0 0)) (B3 g0 38 [(True,.exit 0,DF g R.length (Ah R) N.length (Ak N) N.length (Gq N N.length))]):=by
 have hRR:=B7 R
 have hNN:=Cl N
 refine C9 (aT 79 1110100) (λi=>i<=N.length) (λi=>DF g R.length (Ah R) N.length (Ak N) i (Gq N i)) (λi=>N.length-i) (λi hi=>?_) 0 (aG _)
 by_cases hlt:i<N.length
 .have hlo:=RI g R N hq hf i (Gq N i) o_ (WW hq i)
  have e1:Gq N (i+1)=Ic N (Gq N i) N.length:=rfl
  rw[<-e1]at hlo
  generalize hd2e:Gq N (i+1)=d2,Gq N i=d1 at*
  refine .inl ⟨i+1,[0],[As 10,(0,.loop [0] (KV g R.length (Ah R) N.length (Ak N) i 0 d1) [(True,.exit 2,KV g R.length (Ah R) N.length (Ak N) i N.length d2)]),nu 30 ((i+1:Nat):Int)],1000,hlt,o_,?_⟩
  generalize Ah R=RR,Ak N=NN at*
  clear hf
  exact m_ (p:=let z0:=[i6 g,V.im R.length RR,V.im N.length NN];let z1:=(↑N.length:Int);let z2:=(↑(i+1):Int);let z3:=(↑i:Int);An [_,An [An [Zz,Sm false,Sm (↑d1:Int),An [Sm N.length,NN=NN],z1=z1,z3=z3,An [Sm N.length,NN=NN],z1=z1,(↑(0:Nat):Int)=(0:Int),Tt],An [z0=z0,TT 3],Tt],_,(True->An [wr .i64 (z3+(1:Int))=z2,An [Zz,Sm false,(↑(Gq N (i+1)):Int)=(↑d2:Int),An [Sm N.length,NN=NN],z1=z1,z2=z2,Tt],An [z0=z0,TT 3],Tt]),Tt]) ⟨Bf hlt,a_,hlo,a_⟩
 .have hk2:i=N.length:=o_
  subst hk2
  generalize Gq N N.length=d1 at*
  refine .inr ⟨.exit 0,[0],DF g R.length (Ah R) N.length (Ak N) N.length d1,[no 10],1000,.inl ⟨trivial,rfl,rfl⟩,?_⟩
  generalize Ah R=RR,Ak N=NN at*
  clear hf
  exact Cj [_] (Cq hlt)
theorem ik:Ag Pg g0 79 [Bd g R N] (.bool (Jk N)):=by
 have hRR:=B7 R
 have hNN:=Cl N
 have h:=IP g R N hq hf
 have hlt:=WW hq N.length
 show Ag Pg g0 79 [.agg [i6 g,.im R.length (Ah R),.im N.length (Ak N)]] (.bool (decide (Gq N N.length=2^N.length-1)))
 clear hf
 generalize Gq N N.length=d at*
 have m2:=WI (G:=B1 Pg) (t:=29) (k:=N.length) o_
 have hp:2^N.length<=2^5:=aH d_ hq
 have hp0:1<=2^N.length:=Nat.one_le_two_pow
 have e32:2^5=32:=rfl
 generalize 2^N.length=z,Ah R=RR,Ak N=NN at*
 by_cases hd:d=z-1
 .rw[decide_eq_true hd]
  refine Ch {sl:=[(2,.bool true)]} [(0,.loop [0] (DF g R.length RR N.length NN 0 0) [(True,.exit 0,DF g R.length RR N.length NN N.length d)]),va 35 (u6 z),nu 36 ((z-1:Nat):Int),As 37] ?_
  exact m_ (p:=An [Sm (V.bool true),An [An [Zz,Sm false,(↑(0:Nat):Int)=(0:Int),An [Sm N.length,NN=NN],Sm (↑N.length:Int),(↑(0:Nat):Int)=(0:Int),Tt],An [Sm [i6 g,V.im R.length RR,V.im N.length NN],TT 3],Tt],_,(True->An [_,wr .u64 ((↑z:Int)-(1:Int))=(↑(z-1):Int),((↑d:Int)==(↑(z-1):Int))=true,An [Sm true,Tt],Tt]),Tt]) ⟨aq,a_,h,(λ_=>⟨m2.1,qS o_ o_ o_,a_⟩),aq⟩
 .rw[decide_eq_false hd]
  refine Ch {sl:=[(2,.bool false)]} [(0,.loop [0] (DF g R.length RR N.length NN 0 0) [(True,.exit 0,DF g R.length RR N.length NN N.length d)]),va 35 (u6 z),nu 36 ((z-1:Nat):Int),no 37] ?_
  exact m_ (p:=An [Sm (V.bool false),An [An [Zz,Sm false,(↑(0:Nat):Int)=(0:Int),An [Sm N.length,NN=NN],Sm (↑N.length:Int),(↑(0:Nat):Int)=(0:Int),Tt],An [Sm [i6 g,V.im R.length RR,V.im N.length NN],TT 3],Tt],_,(True->An [_,wr .u64 ((↑z:Int)-(1:Int))=(↑(z-1):Int),((↑d:Int)==(↑(z-1):Int))=false,An [Sm false,Tt],Tt]),Tt]) ⟨aq,a_,h,(λ_=>⟨m2.1,qS o_ o_ o_,a_⟩),aq⟩
end
def Mn(x:Mc):Bool:=D5 1 4 [x.c]
theorem pN{x:Mc}(h:Mn x=true):1<=x.c/\x.c<=4:=J3.1 h 0 dB
def Ck(g:Int)(R:List (List Int))(N:List Mc):Bool:=
 D5 1 12 [g]&&D5 0 8 [(R.length:Int)]&&D5 1 5 [(N.length:Int)]&&D2 g R&&N.all Mn&&Ek R N&&Jk N
abbrev Wk(g:Int)(n:Nat)(R:List V)(q:Nat)(N:List V)(k:Nat):SL:={sl:=[(1,.ptr 0 0),(2,i6 0),(30,.im q N),(31,i6 q),(32,i6 k)],os:=[Mg g n R q N]}
abbrev DA(g:Int)(n:Nat)(R:List V)(q:Nat)(N:List V):SL:={sl:=[(1,.ptr 0 0)],os:=[Mg g n R q N]}
theorem Zy(g:Int)(n:Nat)(R:List V)(hR:Ba R)(N:List Mc)(hq:N.length<=5):Au Pg none 0 (aT 39 1111010) (Al g0 50 (Wk g n R N.length (Ak N) 0)) (B3 g0 50 [(N.all Mn=true,.exit 0,DA g n R N.length (Ak N)),(N.all Mn=false,.ret,{sl:=[(2,i6 330)]})]):=by
 have hNN:=Cl N
 refine C9 (aT 39 11110100) (λk=>k<=N.length/\∀i,i<k->Mn (N.getD i Ao)=true) (Wk g n R N.length (Ak N)) (λk=>N.length-k) (λk hk=>?_) 0 ⟨aG _,λi h=>absurd h (aJ _)⟩
 obtain⟨hk,hin⟩:=hk
 by_cases hlt:k<N.length
 .have hld:=DX hlt
  have hmem:N.getD k Ao∈N:=by rw[aA,aB hlt];exact cL hlt
  have bad:Mn (N.getD k Ao)=false->N.all Mn=false:=λh=>by
   grind
  have hgood:Mn (N.getD k Ao)=true->∀i,i<k+1->Mn (N.getD i Ao)=true:=λh i hi=>by
   grind
  generalize N.getD k Ao=x at*
  obtain⟨c,fr,nz,ou⟩:=x
  have h1:=Ap fr
  have h2:=Ap nz
  have h3:=Ap ou
  have w1:=EG 1 4 [c] s_
  have e1:Mn ⟨c,fr,nz,ou⟩=D5 1 4 [c]:=rfl
  rw[e1]at bad hgood
  cases b:D5 1 4 [c]with
  |true=>
   rw[b]at w1
   have hg:=hgood b
   refine .inl ⟨k+1,[0],[As 33,pl 34,ld 35 (.agg (Fq ⟨c,fr,nz,ou⟩)),fn 39 (.bool true),nu 41 ((k+1:Nat):Int)],1000,⟨hlt,hg⟩,o_,?_⟩
   clear hin bad hgood hg hmem
   generalize Ak N=NN at*
   exact C8 [_,_,_,An [Tt,Tt,An [Tt,Tt],Tt],Ag Tryz.prog g0 76 [i6 1,i6 4,V.im 1 [i6 c]] (V.bool true),wr .i64 ((↑k:Int)+(1:Int))=(↑(k+1):Int)] ⟨Bf hlt,Ar hlt,hld,a_,w1,aq⟩
  |false=>
   rw[b]at w1
   have hf:=bad b
   refine .inr ⟨.ret,[],{sl:=[(2,i6 330)]},[As 33,pl 34,ld 35 (.agg (Fq ⟨c,fr,nz,ou⟩)),fn 39 (.bool false)],1000,.inr (.inl ⟨hf,rfl,rfl⟩),?_⟩
   clear hin bad hgood hmem hf
   generalize Ak N=NN at*
   exact Cj [_,_,_,An [Tt,Tt,An [Tt,Tt],Tt],Ag Tryz.prog g0 76 [i6 1,i6 4,V.im 1 [i6 c]] (V.bool false)] ⟨Bf hlt,Ar hlt,hld,a_,w1⟩
 .have hk2:k=N.length:=o_
  have hall:N.all Mn=true:=aO.2 λL hL=>by
   grind[List.getElem_of_mem]
  subst hk2
  refine .inr ⟨.exit 0,[0],DA g n R N.length (Ak N),[no 33],1000,.inl ⟨hall,rfl,rfl⟩,?_⟩
  clear hin hall
  generalize Ak N=NN at*
  exact Cj [_] (Cq hlt)
def B8(R:List (List Int))(N:List Mc):Prop:=(∀L∈R,L.length<=1000000)/\∀x∈N,x.fr.length<=1000000/\x.no.length<=1000000/\x.ou.length<=1000000
theorem DO{α:Type}{d:α}{l:List α}{k:Nat}(h:k<l.length):l.getD k d∈l:=by
 simp_all
theorem Nz{α:Type}{d x:α}{l:List α}(h:x∈l): ∃k,k<l.length/\l.getD k d=x:=by
 obtain⟨i,hi,e⟩:=fD h
 exact⟨i,hi,by simp_all⟩
structure Dz(g:Int)(R:List (List Int))(N:List Mc):Prop where
 g1:1<=g/\g<=12
 n1:R.length<=8
 q1:1<=N.length/\N.length<=5
 rt:D2 g R=true
 cd: ∀k,k<N.length->1<=(N.getD k Ao).c/\(N.getD k Ao).c<=4
 nd:Ek R N=true
 ac:Jk N=true
theorem Is(h:Ck g R N=true):Dz g R N:=by
 unfold Ck at h
 simp only[aD]at h
 obtain⟨⟨⟨⟨⟨⟨h1,h2⟩,h3⟩,h4⟩,h5⟩,h6⟩,h7⟩:=h
 have i1:=J3.1 h1 0 dB
 have i2:=J3.1 h2 0 dB
 have i3:=J3.1 h3 0 dB
 simp only[List.getD_cons_zero]at i1 i2 i3
 exact⟨i1,o_,o_,h4,λk hk=>pN (aO.1 h5 _ (DO hk)),h6,h7⟩
theorem WU(h:D2 g R=true): ∀k,k<R.length->1<=(R.getD k []).length/\(R.getD k []).length<=4:=λk hk=>by
 grind[D2,XL,DO]
theorem RM(h:Ek R N=true): ∀k,k<N.length->Gh R N k (N.getD k Ao)=true:=λk hk=>by
 grind[Ek]
theorem MC{k:Nat}{x:Mc}:Gh R N k x=true↔De N.length x.fr=true/\De R.length x.no=true/\Tr k x.fr=false/\(x.ou.length:Int)=Cs N x.fr x.fr.length*(C7 R x.no x.no.length:Nat)/\D5 0 (x.c-1) x.ou=true:=by
 grind[Gh]
theorem Md(g:Int)(R:List (List Int))(N:List Mc)(hl:B8 R N):Ag Pg g0 39 [Bd g R N] (i6 (if Ck g R N=true then 0 else 330)):=by
 have hRR:=B7 R
 have hNN:=Cl N
 have w1:=EG 1 12 [g] s_
 have w2:=EG 0 8 [(R.length:Int)] s_
 have w3:=EG 1 5 [(N.length:Int)] s_
 have hlo:=λh:N.length<=5=>Zy g R.length (Ah R) hRR N h
 have i1:=λh:D5 1 12 [g]=true=>J3.1 h 0 dB
 have i2:=λh:D5 0 8 [(R.length:Int)]=true=>J3.1 h 0 dB
 have i3:=λh:D5 1 5 [(N.length:Int)]=true=>J3.1 h 0 dB
 simp only[List.getD_cons_zero]at i1 i2 i3
 have r1:=λ(h1:1<=g/\g<=12)(h2:R.length<=8)=>Rm g h1 R h2 hl.1 N
 have i5:N.all Mn=true->∀k,k<N.length->1<=(N.getD k Ao).c/\(N.getD k Ao).c<=4:=λh k hk=>pN (aO.1 h _ (DO hk))
 have r2:=λ(h1:N.length<=5)(h2:R.length<=8)(h3:N.all Mn=true)(h4:D2 g R=true)=>Ss g R N h1 h2 (i5 h3) (WU h4) hl.2
 have r3:=λ(h1:N.length<=5)(h2:Ek R N=true)=>ik g R N h1 (λk hk=>by
  have:=MC.1 (RM h2 k hk)
  exact⟨ED this.1,aP (DZ this.1) h1⟩)
 show Ag Pg g0 39 [.agg [i6 g,.im R.length (Ah R),.im N.length (Ak N)]] (i6 (if(D5 1 12 [g]&&D5 0 8 [(R.length:Int)]&&D5 1 5 [(N.length:Int)]&&D2 g R&&N.all Mn&&Ek R N&&Jk N)=true then 0 else 330))
 unfold Bd at r1 r2 r3
 generalize hb1:D5 1 12 [g]=b1,hb2:D5 0 8 [(R.length:Int)]=b2,hb3:D5 1 5 [(N.length:Int)]=b3,D2 g R=b4,N.all Mn=b5,Ek R N=b6,Jk N=b7 at*
 clear hl i5 hb1 hb2 hb3
 generalize Ah R=RR,Ak N=NN,R.length=n,N.length=q at*
 cases b1 with
 |false=>
  clear i1 i2 i3 r1 r2 r3 hlo
  refine Ch {sl:=[(2,i6 330)]} [fn 8 (.bool false)] ?_
  refine Eq.mp (by kernel_rfl:(An [i6 330=i6 (if(false&&b2&&b3&&b4&&b5&&b6&&b7)=true then(0:Int)else(330:Int)),An [Tt,Tt,An [Tt,Tt],Tt],Ag Tryz.prog g0 76 [i6 1,i6 12,V.im 1 [i6 g]] (V.bool false),An [Sm (330:Int),Tt],Tt])=_) ?_
  (repeat'(first|(with_reducible apply And.intro)|(refine λ(_:True)=>?_)))<;>first|exact aq|skip
  all_goals first|exact w1|skip
 | true =>
  have k1:=i1 rfl
  cases b2 with
  |false=>
   clear i1 i2 i3 r1 r2 r3 hlo
   refine Ch {sl:=[(2,i6 330)]} [fn 8 (.bool true),fn 15 (.bool false)] ?_
   refine Eq.mp (by kernel_rfl:(let z2:=An [Tt,Tt,An [Tt,Tt],Tt];let z0:=pt (pt T.e 0 (O.row 34 none [i6 g,V.im n RR,V.im q NN])) 1 (O.row 3 none [i6 g]);let z1:=pt z0 2 (O.row 3 none [i6 ↑n]);An [i6 330=i6 (if(true&&false&&b3&&b4&&b5&&b6&&b7)=true then(0:Int)else(330:Int)),z2,Ag Tryz.prog g0 76 [i6 1,i6 12,V.im 1 [i6 g]] (V.bool true),z2,Ag Tryz.prog g0 76 [i6 0,i6 8,V.im 1 [i6 ↑n]] (V.bool false),(V.fn 76 []=V.fn 76 []->[i6 1,i6 12,V.sl 1 0 1 (some 0)]=[i6 0,i6 8,V.sl 2 0 1 (some 0)]->z0=z1->0+1+1=3->CR.mk (V.bool true) z0 2 []=CR.mk (V.bool false) z1 3 []),An [Sm (330:Int),Tt],Tt])=_) ?_
   (repeat'(first|(with_reducible apply And.intro)|(refine λ(_:True)=>?_)))<;>first|exact aq|skip
   all_goals first|exact w1|exact w2|skip
  | true =>
   have k2:=i2 rfl
   have r1:=r1 k1 o_
   cases b3 with
   |false=>
    clear i1 i2 i3 r1 r2 r3 hlo
    refine Ch {sl:=[(2,i6 330)]} [fn 8 (.bool true),fn 15 (.bool true),fn 23 (.bool false)] ?_
    refine Eq.mp (by kernel_rfl:(let z8:=An [Tt,Tt,An [Tt,Tt],Tt];let z0:=pt (pt T.e 0 (O.row 34 none [i6 g,V.im n RR,V.im q NN])) 1 (O.row 3 none [i6 g]);let z3:=V.bool true;let z4:=[i6 1,i6 12,V.sl 1 0 1 (some 0)];let z5:=[i6 0,i6 8,V.sl 2 0 1 (some 0)];let z6:=[i6 1,i6 5,V.sl 3 0 1 (some 0)];let z7:=V.bool false;let z1:=pt z0 2 (O.row 3 none [i6 ↑n]);let z2:=pt z1 3 (O.row 3 none [i6 ↑q]);An [i6 330=i6 (if(true&&true&&false&&b4&&b5&&b6&&b7)=true then(0:Int)else(330:Int)),z8,Ag Tryz.prog g0 76 [i6 1,i6 12,V.im 1 [i6 g]] z3,z8,Ag Tryz.prog g0 76 [i6 0,i6 8,V.im 1 [i6 ↑n]] z3,(V.fn 76 []=V.fn 76 []->z4=z5->z0=z1->0+1+1=3->CR.mk z3 z0 2 []=CR.mk z3 z1 3 []),z8,Ag Tryz.prog g0 76 [i6 1,i6 5,V.im 1 [i6 ↑q]] z7,(V.fn 76 []=V.fn 76 []->z5=z6->z1=z2->0+1+1+1=4->CR.mk z3 z1 3 []=CR.mk z7 z2 4 []),(V.fn 76 []=V.fn 76 []->z4=z6->z0=z2->0+1+1=4->CR.mk z3 z0 2 []=CR.mk z7 z2 4 []),An [Sm (330:Int),Tt],Tt])=_) ?_
    (repeat'(first|(with_reducible apply And.intro)|(refine λ(_:True)=>?_)))<;>first|exact aq|skip
    all_goals first|exact w1|exact w2|exact w3|skip
   | true =>
    have k3:=i3 rfl
    cases b4 with
    |false=>
     clear i1 i2 i3 r2 r3 hlo
     refine Ch {sl:=[(2,i6 330)]} [fn 8 (.bool true),fn 15 (.bool true),fn 23 (.bool true),fn 27 (.bool false)] ?_
     refine Eq.mp (by kernel_rfl:(let z8:=An [Tt,Tt,An [Tt,Tt],Tt];let z3:=V.bool true;let z4:=[i6 1,i6 12,V.sl 1 0 1 (some 0)];let z5:=[i6 0,i6 8,V.sl 2 0 1 (some 0)];let z6:=[i6 1,i6 5,V.sl 3 0 1 (some 0)];let z7:=[i6 g,V.im n RR,V.im q NN];let z0:=pt (pt T.e 0 (O.row 34 none z7)) 1 (O.row 3 none [i6 g]);let z1:=pt z0 2 (O.row 3 none [i6 ↑n]);let z2:=pt z1 3 (O.row 3 none [i6 ↑q]);An [i6 330=i6 (if(true&&true&&true&&false&&b5&&b6&&b7)=true then(0:Int)else(330:Int)),z8,Ag Tryz.prog g0 76 [i6 1,i6 12,V.im 1 [i6 g]] z3,z8,Ag Tryz.prog g0 76 [i6 0,i6 8,V.im 1 [i6 ↑n]] z3,(V.fn 76 []=V.fn 76 []->z4=z5->z0=z1->0+1+1=3->CR.mk z3 z0 2 []=CR.mk z3 z1 3 []),z8,Ag Tryz.prog g0 76 [i6 1,i6 5,V.im 1 [i6 ↑q]] z3,(V.fn 76 []=V.fn 76 []->z5=z6->z1=z2->0+1+1+1=4->CR.mk z3 z1 3 []=CR.mk z3 z2 4 []),(V.fn 76 []=V.fn 76 []->z4=z6->z0=z2->0+1+1=4->CR.mk z3 z0 2 []=CR.mk z3 z2 4 []),Ag Tryz.prog g0 77 [V.agg z7] (V.bool false),An [Sm (330:Int),Tt],Tt])=_) ?_
     (repeat'(first|(with_reducible apply And.intro)|(refine λ(_:True)=>?_)))<;>first|exact aq|skip
     all_goals first|exact w1|exact w2|exact w3|exact r1|skip
    | true =>
     cases b5 with
     |false=>
      clear i1 i2 i3 r2 r3
      replace hlo:=(hlo o_).snd (λh=>by cases h)
      refine Ch {sl:=[(2,i6 330)]} [fn 8 (.bool true),fn 15 (.bool true),fn 23 (.bool true),fn 27 (.bool true),(0,.loop [0] (Wk g n RR q NN 0) [(True,.ret,{sl:=[(2,i6 330)]})])] ?_
      refine Eq.mp (by kernel_rfl:(let z9:=An [Tt,Tt,An [Tt,Tt],Tt];let z2:=V.bool true;let z4:=[i6 g,V.im n RR,V.im q NN];let z5:=[i6 1,i6 12,V.sl 1 0 1 (some 0)];let z6:=[i6 0,i6 8,V.sl 2 0 1 (some 0)];let z7:=[i6 1,i6 5,V.sl 3 0 1 (some 0)];let z8:=(0:Int);let z0:=pt (pt T.e 0 (O.row 34 none z4)) 1 (O.row 3 none [i6 g]);let z1:=pt z0 2 (O.row 3 none [i6 ↑n]);let z3:=pt z1 3 (O.row 3 none [i6 ↑q]);An [i6 330=i6 (if(true&&true&&true&&true&&false&&b6&&b7)=true then z8 else(330:Int)),z9,Ag Tryz.prog g0 76 [i6 1,i6 12,V.im 1 [i6 g]] z2,z9,Ag Tryz.prog g0 76 [i6 0,i6 8,V.im 1 [i6 ↑n]] z2,(V.fn 76 []=V.fn 76 []->z5=z6->z0=z1->0+1+1=3->CR.mk z2 z0 2 []=CR.mk z2 z1 3 []),z9,Ag Tryz.prog g0 76 [i6 1,i6 5,V.im 1 [i6 ↑q]] z2,(V.fn 76 []=V.fn 76 []->z6=z7->z1=z3->0+1+1+1=4->CR.mk z2 z1 3 []=CR.mk z2 z3 4 []),(V.fn 76 []=V.fn 76 []->z5=z7->z0=z3->0+1+1=4->CR.mk z2 z0 2 []=CR.mk z2 z3 4 []),Ag Tryz.prog g0 77 [V.agg z4] z2,An [An [Zz,z8=z8,An [q=q,NN=NN],Sm (↑q:Int),(↑(0:Nat):Int)=z8,Tt],An [z4=z4,TT 3],Tt],Au Tryz.prog none 0 (aT 39 1111010) (Al g0 50 (Wk g n RR q NN 0)) (B3 g0 50 [(True,Ex.ret,SL.mk [(2,i6 330)] [] [] [])]),(True->An [An [Sm (330:Int),Tt],Tt]),Tt])=_) ?_
      (repeat'(first|(with_reducible apply And.intro)|(refine λ(_:True)=>?_)))<;>first|exact aq|skip
      all_goals first|exact w1|exact w2|exact w3|exact r1|exact hlo|skip
     | true =>
      replace hlo:=(hlo o_).fst (λh=>by cases h)
      have r2:=r2 o_ o_ rfl rfl
      cases b6 with
      |false=>
       clear i1 i2 i3 r3
       refine Ch {sl:=[(2,i6 330)]} [fn 8 (.bool true),fn 15 (.bool true),fn 23 (.bool true),fn 27 (.bool true),(0,.loop [0] (Wk g n RR q NN 0) [(True,.exit 0,DA g n RR q NN)]),fn 43 (.bool false)] ?_
       refine Eq.mp (by kernel_rfl:(let z9:=An [Tt,Tt,An [Tt,Tt],Tt];let z2:=[i6 g,V.im n RR,V.im q NN];let z3:=V.bool true;let z5:=[i6 1,i6 12,V.sl 1 0 1 (some 0)];let z6:=[i6 0,i6 8,V.sl 2 0 1 (some 0)];let z7:=[i6 1,i6 5,V.sl 3 0 1 (some 0)];let z8:=(0:Int);let z0:=pt (pt T.e 0 (O.row 34 none z2)) 1 (O.row 3 none [i6 g]);let z1:=pt z0 2 (O.row 3 none [i6 ↑n]);let z4:=pt z1 3 (O.row 3 none [i6 ↑q]);An [i6 330=i6 (if(true&&true&&true&&true&&true&&false&&b7)=true then z8 else(330:Int)),z9,Ag Tryz.prog g0 76 [i6 1,i6 12,V.im 1 [i6 g]] z3,z9,Ag Tryz.prog g0 76 [i6 0,i6 8,V.im 1 [i6 ↑n]] z3,(V.fn 76 []=V.fn 76 []->z5=z6->z0=z1->0+1+1=3->CR.mk z3 z0 2 []=CR.mk z3 z1 3 []),z9,Ag Tryz.prog g0 76 [i6 1,i6 5,V.im 1 [i6 ↑q]] z3,(V.fn 76 []=V.fn 76 []->z6=z7->z1=z4->0+1+1+1=4->CR.mk z3 z1 3 []=CR.mk z3 z4 4 []),(V.fn 76 []=V.fn 76 []->z5=z7->z0=z4->0+1+1=4->CR.mk z3 z0 2 []=CR.mk z3 z4 4 []),Ag Tryz.prog g0 77 [V.agg z2] z3,An [An [Zz,z8=z8,An [q=q,NN=NN],Sm (↑q:Int),(↑(0:Nat):Int)=z8,Tt],An [z2=z2,TT 3],Tt],Au Tryz.prog none 0 (aT 39 1111010) (Al g0 50 (Wk g n RR q NN 0)) (B3 g0 50 [(True,Ex.exit 0,DA g n RR q NN)]),(True->An [Ag Tryz.prog g0 78 [V.agg z2] (V.bool false),An [Sm (330:Int),Tt],Tt]),Tt])=_) ?_
       (repeat'(first|(with_reducible apply And.intro)|(refine λ(_:True)=>?_)))<;>first|exact aq|skip
       all_goals first|exact w1|exact w2|exact w3|exact r1|exact r2|exact hlo|skip
      | true =>
       have r3:=r3 o_ rfl
       clear i1 i2 i3
       cases b7 with
       |false=>
        refine Ch {sl:=[(2,i6 330)]} [fn 8 (.bool true),fn 15 (.bool true),fn 23 (.bool true),fn 27 (.bool true),(0,.loop [0] (Wk g n RR q NN 0) [(True,.exit 0,DA g n RR q NN)]),fn 43 (.bool true),fn 47 (.bool false)] ?_
        refine Eq.mp (by kernel_rfl:(let z9:=An [Tt,Tt,An [Tt,Tt],Tt];let z2:=[i6 g,V.im n RR,V.im q NN];let z3:=V.bool true;let z5:=[i6 1,i6 12,V.sl 1 0 1 (some 0)];let z6:=[i6 0,i6 8,V.sl 2 0 1 (some 0)];let z7:=[i6 1,i6 5,V.sl 3 0 1 (some 0)];let z8:=(0:Int);let z0:=pt (pt T.e 0 (O.row 34 none z2)) 1 (O.row 3 none [i6 g]);let z1:=pt z0 2 (O.row 3 none [i6 ↑n]);let z4:=pt z1 3 (O.row 3 none [i6 ↑q]);An [i6 330=i6 (if(true&&true&&true&&true&&true&&true&&false)=true then z8 else(330:Int)),z9,Ag Tryz.prog g0 76 [i6 1,i6 12,V.im 1 [i6 g]] z3,z9,Ag Tryz.prog g0 76 [i6 0,i6 8,V.im 1 [i6 ↑n]] z3,(V.fn 76 []=V.fn 76 []->z5=z6->z0=z1->0+1+1=3->CR.mk z3 z0 2 []=CR.mk z3 z1 3 []),z9,Ag Tryz.prog g0 76 [i6 1,i6 5,V.im 1 [i6 ↑q]] z3,(V.fn 76 []=V.fn 76 []->z6=z7->z1=z4->0+1+1+1=4->CR.mk z3 z1 3 []=CR.mk z3 z4 4 []),(V.fn 76 []=V.fn 76 []->z5=z7->z0=z4->0+1+1=4->CR.mk z3 z0 2 []=CR.mk z3 z4 4 []),Ag Tryz.prog g0 77 [V.agg z2] z3,An [An [Zz,z8=z8,An [q=q,NN=NN],Sm (↑q:Int),(↑(0:Nat):Int)=z8,Tt],An [z2=z2,TT 3],Tt],Au Tryz.prog none 0 (aT 39 1111010) (Al g0 50 (Wk g n RR q NN 0)) (B3 g0 50 [(True,Ex.exit 0,DA g n RR q NN)]),(True->An [Ag Tryz.prog g0 78 [V.agg z2] z3,Ag Tryz.prog g0 79 [V.agg z2] (V.bool false),An [Sm (330:Int),Tt],Tt]),Tt])=_) ?_
        (repeat'(first|(with_reducible apply And.intro)|(refine λ(_:True)=>?_)))<;>first|exact aq|skip
        all_goals first|exact w1|exact w2|exact w3|exact r1|exact r2|exact r3|exact hlo|skip
       |true=>
        refine Ch {sl:=[(2,i6 0)]} [fn 8 (.bool true),fn 15 (.bool true),fn 23 (.bool true),fn 27 (.bool true),(0,.loop [0] (Wk g n RR q NN 0) [(True,.exit 0,DA g n RR q NN)]),fn 43 (.bool true),fn 47 (.bool true)] ?_
        refine Eq.mp (by kernel_rfl:(let z9:=An [Tt,Tt,An [Tt,Tt],Tt];let z2:=[i6 g,V.im n RR,V.im q NN];let z3:=V.bool true;let z5:=(0:Int);let z6:=[i6 1,i6 12,V.sl 1 0 1 (some 0)];let z7:=[i6 0,i6 8,V.sl 2 0 1 (some 0)];let z8:=[i6 1,i6 5,V.sl 3 0 1 (some 0)];let z0:=pt (pt T.e 0 (O.row 34 none z2)) 1 (O.row 3 none [i6 g]);let z1:=pt z0 2 (O.row 3 none [i6 ↑n]);let z4:=pt z1 3 (O.row 3 none [i6 ↑q]);An [i6 0=i6 (if(true&&true&&true&&true&&true&&true&&true)=true then z5 else(330:Int)),z9,Ag Tryz.prog g0 76 [i6 1,i6 12,V.im 1 [i6 g]] z3,z9,Ag Tryz.prog g0 76 [i6 0,i6 8,V.im 1 [i6 ↑n]] z3,(V.fn 76 []=V.fn 76 []->z6=z7->z0=z1->0+1+1=3->CR.mk z3 z0 2 []=CR.mk z3 z1 3 []),z9,Ag Tryz.prog g0 76 [i6 1,i6 5,V.im 1 [i6 ↑q]] z3,(V.fn 76 []=V.fn 76 []->z7=z8->z1=z4->0+1+1+1=4->CR.mk z3 z1 3 []=CR.mk z3 z4 4 []),(V.fn 76 []=V.fn 76 []->z6=z8->z0=z4->0+1+1=4->CR.mk z3 z0 2 []=CR.mk z3 z4 4 []),Ag Tryz.prog g0 77 [V.agg z2] z3,An [An [Zz,z5=z5,An [q=q,NN=NN],Sm (↑q:Int),(↑(0:Nat):Int)=z5,Tt],An [z2=z2,TT 3],Tt],Au Tryz.prog none 0 (aT 39 1111010) (Al g0 50 (Wk g n RR q NN 0)) (B3 g0 50 [(True,Ex.exit 0,DA g n RR q NN)]),(True->An [Ag Tryz.prog g0 78 [V.agg z2] z3,Ag Tryz.prog g0 79 [V.agg z2] z3,An [z5=z5,Tt],Tt]),Tt])=_) ?_
        (repeat'(first|(with_reducible apply And.intro)|(refine λ(_:True)=>?_)))<;>first|exact aq|skip
        all_goals first|exact w1|exact w2|exact w3|exact r1|exact r2|exact r3|exact hlo|skip
def Kj(N:List Mc)(L:List Int):Bool:=(List.range N.length).all λk=>D5 (-1) ((N.getD k Ao).c-1) [L.getD k 0]
def Ey(N:List Mc)(L:List Int):Bool:=decide (L.length=N.length)&&Kj N L
theorem nW:Kj N L=true↔∀k,k<N.length->D5 (-1) ((N.getD k Ao).c-1) [L.getD k 0]=true:=by
 unfold Kj
 rw[aO]
 simp only[bB]
theorem YH:Ey N L=true↔L.length=N.length/\∀k,k<N.length-> -1<=L.getD k 0/\L.getD k 0<=(N.getD k Ao).c-1:=by
 unfold Ey
 rw[aD,decide_eq_true_eq,nW]
 constructor
 .intro⟨h1,h2⟩
  exact⟨h1,λk hk=>J3.1 (h2 k hk) 0 dB⟩
 .intro⟨h1,h2⟩
  refine⟨h1,λk hk=>J3.2 λi hi=>?_⟩
  have:i=0:=by simp at hi;exact hi
  subst this
  exact h2 k hk
abbrev rP(g:Int)(n:Nat)(R:List V)(q:Nat)(N:List V)(w:Nat):O:=.row 210 none [i6 g,.im n R,.im q N,i6 w]
abbrev PU:O:=.row 210 none [i6 0,.nils,.nils,i6 0]
abbrev KB:SL:={sl:=[(4,.ptr 0 0),(5,i6 2)],os:=[PU]}
abbrev VG(g:Int)(n:Nat)(R:List V)(q:Nat)(N:List V)(m:Nat)(S:List V)(j:Nat)(L:List Int)(k:Nat):SL:={sl:=[(2,.ptr 0 0),(4,.ptr 1 0),(5,i6 0),(20,.im m S),(21,i6 m),(22,i6 j),(33,sl L),(34,i6 L.length),(35,i6 k)],os:=[Mg g n R q N,PU]}
abbrev KA(g:Int)(n:Nat)(R:List V)(q:Nat)(N:List V)(m:Nat)(S:List V)(j:Nat):SL:={sl:=[(2,.ptr 0 0),(4,.ptr 1 0),(5,i6 0),(20,.im m S),(21,i6 m),(22,i6 j)],os:=[Mg g n R q N,PU]}
abbrev iC(g:Int)(n:Nat)(R:List V)(q:Nat)(N:List V):SL:={sl:=[(2,.ptr 0 0),(4,.ptr 1 0),(5,i6 0)],os:=[Mg g n R q N,PU]}
section
variable (g:Int) (R:List (List Int)) (N:List Mc) (hq:N.length<=5) (hc: ∀k,k<N.length->1<=(N.getD k Ao).c/\(N.getD k Ao).c<=4)
include hq hc
theorem OO(m:Nat)(S:List V)(hS:Ba S)(j:Nat)(hj:j<m)(hm:m<=1000000)(L:List Int)(hL:L.length=N.length):Au Pg none 0 (aT 119 111010011001110) (Al g0 71 (VG g R.length (Ah R) N.length (Ak N) m S j L 0)) (B3 g0 71 [(Kj N L=true,.exit 2,KA g R.length (Ah R) N.length (Ak N) m S j),(Kj N L=false,.ret,KB)]):=by
 have hRR:=B7 R
 have hNN:=Cl N
 have hLL:=Ap L
 refine C9 (aT 119 1110100110011100) (λk=>k<=L.length/\∀i,i<k->D5 (-1) ((N.getD i Ao).c-1) [L.getD i 0]=true) (VG g R.length (Ah R) N.length (Ak N) m S j L) (λk=>L.length-k) (λk hk=>?_) 0 ⟨aG _,λi h=>absurd h (aJ _)⟩
 obtain⟨hk,hin⟩:=hk
 by_cases hlt:k<L.length
 .have hld:=Dm hlt
  have hld2:=ML (N:=N) (k:=k) o_
  have w1:=EG (-1) ((N.getD k Ao).c-1) [L.getD k 0] s_
  have hck:=hc k o_
  have bad:D5 (-1) ((N.getD k Ao).c-1) [L.getD k 0]=false->Kj N L=false:=λh=>by
   cases hb:Kj N L with
   |false=>rfl
   |true=>rw[nW.1 hb k o_]at h;cases h
  have hgood:D5 (-1) ((N.getD k Ao).c-1) [L.getD k 0]=true->∀i,i<k+1->D5 (-1) ((N.getD i Ao).c-1) [L.getD i 0]=true:=λh i hi=>by
   by_cases hik:i=k
   .subst hik;exact h
   .exact hin i o_
  generalize N.getD k Ao=x at*
  obtain⟨c,fr,nz,ou⟩:=x
  dsimp only at*
  generalize L.getD k 0=y at*
  cases b:D5 (-1) (c-1) [y]with
  |true=>
   rw[b]at w1
   have hg:=hgood b
   refine .inl ⟨k+1,[0,1],[As 36,pl 38,ld 39 (i6 y),pl 43,ld 45 (i6 c),nu 46 (c-1),fn 49 (.bool true),nu 52 ((k+1:Nat):Int)],1000,⟨hlt,hg⟩,o_,?_⟩
   clear hin bad hgood hg hc
   generalize Ak N=NN,Ah R=RR at*
   exact C8 (let z1:=(↑k:Int);let z6:=(1:Int);[_,_,_,An [(0:Int)<=z1,z1<(↑N.length:Int)],Ae (List.drop 0 (List.drop (k*4) NN))=some (i6 c),wr .i64 (c-z6)=c-z6,An [Tt,Tt,An [Tt,Tt],Tt],Ag Tryz.prog g0 76 [i6 (-1),i6 (c-z6),V.im 1 [i6 y]] (V.bool true),wr .i64 (z1+z6)=(↑(k+1):Int)]) ⟨Bf hlt,Ar hlt,hld,a_,aq,aq,a_,w1,aq⟩
  |false=>
   rw[b]at w1
   have hf:=bad b
   refine .inr ⟨.ret,[1],KB,[As 36,pl 38,ld 39 (i6 y),pl 43,ld 45 (i6 c),nu 46 (c-1),fn 49 (.bool false)],1000,.inr (.inl ⟨hf,rfl,rfl⟩),?_⟩
   clear hin bad hgood hf hc
   generalize Ak N=NN,Ah R=RR at*
   exact Cj [_,_,_,An [(0:Int)<=(↑k:Int),(↑k:Int)<(↑N.length:Int)],Ae (List.drop 0 (List.drop (k*4) NN))=some (i6 c),wr .i64 (c-(1:Int))=c-(1:Int),An [Tt,Tt,An [Tt,Tt],Tt],Ag Tryz.prog g0 76 [i6 (-1),i6 (c-(1:Int)),V.im 1 [i6 y]] (V.bool false)] ⟨Bf hlt,Ar hlt,hld,a_,aq,aq,a_,w1⟩
 .have hk2:k=L.length:=o_
  have hall:Kj N L=true:=nW.2 λi hi=>hin i o_
  subst hk2
  refine .inr ⟨.exit 2,[0,1],KA g R.length (Ah R) N.length (Ak N) m S j,[no 36],1000,.inl ⟨hall,rfl,rfl⟩,?_⟩
  clear hin hall hc
  generalize Ak N=NN,Ah R=RR at*
  exact Cj [_] (Cq hlt)
theorem FT(S:List (List Int))(hm:S.length<=1000000)(h6: ∀L∈S,L.length<=1000000):Au Pg none 0 (aT 119 111010) (Al g0 71 (KA g R.length (Ah R) N.length (Ak N) S.length (Ah S) 0)) (B3 g0 71 [(S.all (Ey N)=true,.exit 0,iC g R.length (Ah R) N.length (Ak N)),(S.all (Ey N)=false,.ret,KB)]):=by
 have hRR:=B7 R
 have hNN:=Cl N
 have hSS:=B7 S
 refine C9 (aT 119 1110100) (λk=>k<=S.length/\∀i,i<k->Ey N (S.getD i [])=true) (KA g R.length (Ah R) N.length (Ak N) S.length (Ah S)) (λk=>S.length-k) (λk hk=>?_) 0 ⟨aG _,λi h=>absurd h (aJ _)⟩
 obtain⟨hk,hin⟩:=hk
 by_cases hlt:k<S.length
 .have hld:=Pk hlt
  have hmem:S.getD k []∈S:=DO hlt
  have h6k:=h6 _ hmem
  have bad:Ey N (S.getD k [])=false->S.all (Ey N)=false:=λh=>by
   cases hb:S.all (Ey N)with
   |false=>rfl
   |true=>rw[aO.1 hb _ hmem]at h;cases h
  have hgood:Ey N (S.getD k [])=true->∀i,i<k+1->Ey N (S.getD i [])=true:=λh i hi=>by
   by_cases hik:i=k
   .subst hik;exact h
   .exact hin i o_
  have hlo:=λh=>OO g R N hq hc S.length (Ah S) hSS k hlt hm (S.getD k []) h
  generalize S.getD k []=L at*
  have hLL:=Ap L
  have eL:Ey N L=(decide (L.length=N.length)&&Kj N L):=rfl
  by_cases hlen:L.length=N.length
  .rw[decide_eq_true hlen,eD]at eL
   replace hlo:=hlo hlen
   rw[<-eL]at hlo
   cases b:Ey N L with
   |true=>
    rw[b]at hlo
    replace hlo:=hlo.fst (λh=>by cases h)
    have hg:=hgood b
    refine .inl ⟨k+1,[0,1],[As 23,pl 24,ld 25 (sl L),no 31,(0,.loop [0,1] (VG g R.length (Ah R) N.length (Ak N) S.length (Ah S) k L 0) [(True,.exit 2,KA g R.length (Ah R) N.length (Ak N) S.length (Ah S) k)]),nu 53 ((k+1:Nat):Int)],1000,⟨hlt,hg⟩,o_,?_⟩
    clear hin bad hgood hg hc eL hmem h6
    generalize Ak N=NN,Ah R=RR,Ah S=SS at*
    exact m_ (p:=let z0:=[i6 g,V.im R.length RR,V.im N.length NN];let z1:=(↑S.length:Int);let z2:=[i6 0,V.nils,V.nils,i6 0];let z3:=(↑k:Int);let z4:=(0:Int);let z5:=(↑L.length:Int);let z6:=(↑(k+1):Int);An [_,_,_,(z5 != (↑N.length:Int))=false,An [An [Zz,Zz,z4=z4,An [Sm S.length,SS=SS],z1=z1,z3=z3,An [Sm L.length,Sm (Aa L)],z5=z5,(↑(0:Nat):Int)=z4,Tt],An [z0=z0,TT 3],An [z2=z2,TT 4],Tt],_,(True->An [wr .i64 (z3+(1:Int))=z6,An [Zz,Zz,z4=z4,An [Sm S.length,SS=SS],z1=z1,z6=z6,Tt],An [z0=z0,TT 3],An [z2=z2,TT 4],Tt]),Tt]) ⟨Bf hlt,Ar hlt,hld,aq,a_,hlo,a_⟩
   |false=>
    rw[b]at hlo
    replace hlo:=hlo.snd (λh=>by cases h)
    have hf:=bad b
    refine .inr ⟨.ret,[0],KB,[As 23,pl 24,ld 25 (sl L),no 31,(0,.loop [0,1] (VG g R.length (Ah R) N.length (Ak N) S.length (Ah S) k L 0) [(True,.ret,KB)])],1000,.inr (.inl ⟨hf,rfl,rfl⟩),?_⟩
    clear hin bad hgood hf hc eL hmem h6
    generalize Ak N=NN,Ah R=RR,Ah S=SS at*
    exact m_ (p:=let z0:=[i6 0,V.nils,V.nils,i6 0];let z1:=(↑S.length:Int);let z3:=[i6 g,V.im R.length RR,V.im N.length NN];let z4:=(↑L.length:Int);An [_,_,_,(z4 != (↑N.length:Int))=false,An [An [Zz,Zz,(0:Int)=(0:Int),An [Sm S.length,SS=SS],z1=z1,(↑k:Int)=(↑k:Int),An [Sm L.length,Sm (Aa L)],z4=z4,(↑(0:Nat):Int)=(0:Int),Tt],An [z3=z3,TT 3],An [z0=z0,TT 4],Tt],_,(True->An [An [Zz,Sm (2:Int),Tt],An [z0=z0,TT 4],Tt]),Tt]) ⟨Bf hlt,Ar hlt,hld,aq,a_,hlo,a_⟩
  .have hf:=bad (by rw[eL,decide_eq_false hlen];rfl)
   refine .inr ⟨.ret,[1],KB,[As 23,pl 24,ld 25 (sl L),As 31],1000,.inr (.inl ⟨hf,rfl,rfl⟩),?_⟩
   clear hin bad hgood hf hc eL hmem h6 hlo
   generalize Ak N=NN,Ah R=RR,Ah S=SS at*
   exact Cj [_,_,_,((↑L.length:Int) != (↑N.length:Int))=true] ⟨Bf hlt,Ar hlt,hld,a_⟩
 .have hk2:k=S.length:=o_
  have hall:S.all (Ey N)=true:=aO.2 λL hL=>by
   obtain⟨i,hi,e⟩:=Nz (d:=[]) hL
   rw[<-e];exact hin i o_
  subst hk2
  refine .inr ⟨.exit 0,[0,1],iC g R.length (Ah R) N.length (Ak N),[no 23],1000,.inl ⟨hall,rfl,rfl⟩,?_⟩
  clear hin hall hc h6
  generalize Ak N=NN,Ah R=RR,Ah S=SS at*
  exact Cj [_] (Cq hlt)
end
abbrev JZ(g:Int)(n:Nat)(R:List V)(q:Nat)(N:List V)(k:Nat)(w:Nat):SL:={sl:=[(4,.ptr 0 0),(5,i6 0),(11,.ptr 1 0),(57,.im n R),(58,i6 n),(59,i6 k)],os:=[PU,rP g n R q N w]}
theorem iB(g:Int)(R:List (List Int))(q:Nat)(N:List V)(hN:Ba N)(hn:R.length<=8)(hR: ∀k,k<R.length->1<=(R.getD k []).length/\(R.getD k []).length<=4):Au Pg none 0 (aT 119 11111010) (Al g0 71 (JZ g R.length (Ah R) q N 0 1)) (B3 g0 71 [(True,.exit 4,JZ g R.length (Ah R) q N R.length (B4 R R.length))]):=by
 have hRR:=B7 R
 refine C9 (aT 119 111110100) (λk=>k<=R.length) (λk=>JZ g R.length (Ah R) q N k (B4 R k)) (λk=>R.length-k) (λk hk=>?_) 0 (aG _)
 by_cases hlt:k<R.length
 .have hld:=Pk hlt
  have hb:=mI R hR k hk
  have hb2:=mI R hR (k+1) hlt
  have h4:4^(k+1)<=4^8:=aH d_ o_
  have h48:4^8=65536:=rfl
  have e1:((B4 R (k+1):Nat):Int)=(B4 R k:Nat)*((R.getD k []).length:Nat):=cJ _ _
  generalize R.getD k []=L,hp1e:B4 R (k+1)=p1,B4 R k=p0 at*
  have hLL:=Ap L
  refine .inl ⟨k+1,[0,1],[As 60,pl 61,ld 62 (sl L),nu 67 p1,nu 69 ((k+1:Nat):Int)],1000,hlt,o_,?_⟩
  clear hR
  generalize Ah R=RR at*
  exact C8 [_,_,_,wr .i64 ((↑p0:Int)*(↑L.length:Int))=(↑p1:Int),wr .i64 ((↑k:Int)+(1:Int))=(↑(k+1):Int)] ⟨Bf hlt,Ar hlt,hld,a_⟩
 .have hk2:k=R.length:=o_
  subst hk2
  generalize B4 R R.length=p at*
  refine .inr ⟨.exit 4,[0,1],JZ g R.length (Ah R) q N R.length p,[no 60],1000,.inl ⟨trivial,rfl,rfl⟩,?_⟩
  clear hR
  generalize Ah R=RR at*
  exact Cj [_] (Cq hlt)
abbrev jG(g:Int)(R:List (List Int))(N:List Mc):V:=.agg [i6 g,.im R.length (Ah R),.im N.length (Ak N),i6 (B4 R R.length:Nat)]
theorem Qj(g:Int)(R:List (List Int))(N:List Mc)(hl:B8 R N)(h:Ck g R N=true)(S:List (List Int))(hm:S.length<=1000000)(h6: ∀L∈S,L.length<=1000000)(hS:S.all (Ey N)=true):Ag Pg g0 119 [Bd g R N,.im S.length (Ah S)] (.tup [jG g R N,i6 0]):=by
 have hRR:=B7 R
 have hNN:=Cl N
 have hSS:=B7 S
 have w:=Md g R N hl
 rw[h,if_pos rfl]at w
 have hM:=Is h
 have hlo:=(FT g R N hM.q1.2 hM.cd S hm h6).fst (λh=>by rw[hS]at h;cases h)
 have hlw:=iB g R N.length (Ak N) hNN hM.n1 (WU hM.rt)
 unfold Bd jG at*
 generalize B4 R R.length=p at*
 refine K8 [0] {sl:=[(4,.ptr 0 0),(5,i6 0)],os:=[rP g R.length (Ah R) N.length (Ak N) p]} [fn 15 (i6 0),(0,.loop [0,1] (KA g R.length (Ah R) N.length (Ak N) S.length (Ah S) 0) [(True,.exit 0,iC g R.length (Ah R) N.length (Ak N))]),(0,.loop [1,2] (JZ g R.length (Ah R) N.length (Ak N) 0 1) [(True,.exit 4,JZ g R.length (Ah R) N.length (Ak N) R.length p)])] ?_
 clear hl h6 hS hM h
 generalize Ak N=NN,Ah R=RR,Ah S=SS at*
 exact m_ (p:=let z2:=[i6 0,V.nils,V.nils,i6 0];let z3:=(0:Int);let z4:=V.im R.length RR;let z5:=V.im N.length NN;let z0:=[i6 g,z4,z5,i6 ↑p];let z6:=V.tup [V.agg z0,i6 0];An [z6=z6,_,An [An [Zz,Zz,z3=z3,An [Sm S.length,SS=SS],Sm (↑S.length:Int),(↑(0:Nat):Int)=z3,Tt],An [[i6 g,z4,z5]=[i6 g,z4,z5],TT 3],An [z2=z2,TT 4],Tt],_,(True->An [An [An [Zz,z3=z3,Zz,An [Sm R.length,RR=RR],Sm (↑R.length:Int),(↑(0:Nat):Int)=z3,Tt],An [z2=z2,TT 4],An [[i6 g,z4,z5,i6 ↑(1:Nat)]=[i6 g,z4,z5,i6 1],TT 4],Tt],_,(True->An [An [Zz,z3=z3,Tt],An [z0=z0,TT 4],Tt]),Tt]),Tt]) ⟨aq,w,a_,hlo,(λ_=>⟨a_,hlw,a_⟩),aq⟩
def H8(N:List Mc)(f:Nat->Int)(L:List Int):Nat->Int
 |0=>0
 |k+1=>H8 N f L k*(N.getD (L.getD k 0).toNat Ao).c+f (L.getD k 0).toNat
def Ja(R:List (List Int))(u:List Int)(a:Int)(L:List Int):Nat->Int
 |0=>a
 |k+1=>Ja R u a L k*((R.getD (L.getD k 0).toNat []).length:Nat)+u.getD (L.getD k 0).toNat 0
def Ko(N:List Mc)(R:List (List Int))(u:List Int)(f:Nat->Int)(x:Mc):Int:=
 x.ou.getD (Ja R u (H8 N f x.fr x.fr.length) x.no x.no.length).toNat 0
def Ju(N:List Mc)(R:List (List Int))(s u:List Int):Nat->Nat->Int
 |0,_=>0
 |m+1,i=>if 0<=s.getD i 0 then s.getD i 0 else Ko N R u (Ju N R s u m) (N.getD i Ao)
def Dt(N:List Mc)(R:List (List Int))(s u:List Int)(i:Nat):Int:=Ju N R s u 26 i
def Fs(N:List Mc)(f:Nat->Int):Nat->Nat->List Int->List Int
 |0,_,w=>w
 |m+1,i,w=>if 0<=w.getD i 0 then w else((N.getD i Ao).fr.foldl (λw j=>Fs N f m j.toNat w) w).set i (f i)
def Vs(N:List Mc)(rk:Nat->Nat):Prop:=∀i,i<N.length->rk i<=25/\∀k,k<(N.getD i Ao).fr.length->rk ((N.getD i Ao).fr.getD k 0).toNat<rk i
def J1(N:List Mc):Nat->Nat
 |0=>0
 |t+1=>La N (J1 N t) (t%N.length)
theorem DI{r:Nat}: ∀i,i<=N.length->Ic N (J1 N (r*N.length)) i=J1 N (r*N.length+i)
 |0,_=>rfl
 |i+1,h=>by
  show La N (Ic N (J1 N (r*N.length)) i) i=La N (J1 N (r*N.length+i)) ((r*N.length+i)%N.length)
  rw[DI i o_,eP (r*N.length) i,Nat.add_mul_mod_self_right,bO o_]
theorem DG: ∀r,Gq N r=J1 N (r*N.length)
 |0=>by rw[Nat.zero_mul];rfl
 |r+1=>by
  show Ic N (Gq N r) N.length=_
  rw[DG r,DI _ (aC _),fE]
theorem nV{b:Nat}: ∀k,k<=L.length->((Cr L k).testBit b=true↔∃j,j<k/\(L.getD j 0).toNat=b)
 |0,_=>by simp[Cr]
 | k + 1, h => by
  unfold Cr
  rw[cP,bT,nV k o_,fB,decide_eq_true_eq]
  constructor
  .rintro(⟨j,h1,h2⟩|h1)
   .exact⟨j,o_,h2⟩
   .exact⟨k,o_,h1⟩
  .rintro⟨j,h1,h2⟩
   by_cases hj:j=k
   .subst hj;exact .inr h2
   .exact .inl ⟨j,o_,h2⟩
theorem Vk(hq:1<=N.length/\N.length<=5): ∀t,J1 N t<2^64
 |0=>by show 0< _;omega
 |t+1=>Vj (Vk hq t) (by have:=aY t (show 0<N.length by omega);omega)
theorem ON(hq:1<=N.length/\N.length<=5)(hf: ∀k,k<N.length->Hw (N.getD k Ao).fr N.length/\(N.getD k Ao).fr.length<=5): ∀t,∃rk:Nat->Nat,∀i,(J1 N t).testBit i=true->rk i<t/\∀k,k<(N.getD i Ao).fr.length->(J1 N t).testBit ((N.getD i Ao).fr.getD k 0).toNat=true/\rk ((N.getD i Ao).fr.getD k 0).toNat<rk i
 |0=>⟨λ_=>0,λi h=>by simp[J1]at h⟩
 | t + 1 => by
  obtain⟨rk,h⟩:=ON hq hf t
  have hi:=aY t (show 0<N.length by omega)
  have hd:=Vk hq t
  have e:J1 N (t+1)=La N (J1 N t) (t%N.length):=rfl
  rw[e]
  generalize t%N.length=i at*
  unfold La
  by_cases h0:mi (Cr (N.getD i Ao).fr (N.getD i Ao).fr.length) (J1 N t)=0
  .rw[if_pos h0]
   by_cases hin:(J1 N t).testBit i=true
   .have e2:J1 N t|||2^i=J1 N t:=by
     apply dO
     intro b
     rw[cP,fB]
     by_cases hb:i=b
     .subst hb;rw[hin];rfl
     .simp[hb]
    rw[e2]
    refine⟨rk,λj hj=>?_⟩
    obtain⟨h1,h2⟩:=h j hj
    exact⟨o_,h2⟩
   .have hnew: ∀b,(J1 N t|||2^i).testBit b=true↔((J1 N t).testBit b=true\/i=b):=λb=>by
     rw[cP,fB,bT,decide_eq_true_eq]
    have hfr: ∀k,k<(N.getD i Ao).fr.length->(J1 N t).testBit ((N.getD i Ao).fr.getD k 0).toNat=true:=λk hk=>by
     have hb:(Cr (N.getD i Ao).fr (N.getD i Ao).fr.length).testBit ((N.getD i Ao).fr.getD k 0).toNat=true:=(nV _ (aC _)).2 ⟨k,hk,rfl⟩
     have hs:=JD (L:=(N.getD i Ao).fr) (λk hk=>by have:=(hf i hi).1 k hk;omega) _ (aC _)
     have:=congrArg (λz=>z.testBit ((N.getD i Ao).fr.getD k 0).toNat) h0
     simp only[Nat.zero_testBit]at this
     rw[WL hs hd,hb,eD,Bool.not_eq_false']at this
     exact this
    refine⟨λx=>if x=i then t else rk x,λj hj=>?_⟩
    dsimp only
    have hne: ∀b,(J1 N t).testBit b=true->b≠i:=λb hb e=>hin (e▸hb)
    rcases(hnew j).1 hj with hj|rfl
    .obtain⟨h1,h2⟩:=h j hj
     rw[if_neg (hne j hj)]
     refine⟨o_,λk hk=>?_⟩
     obtain⟨a,b⟩:=h2 k hk
     rw[if_neg (hne _ a)]
     exact⟨(hnew _).2 (.inl a),b⟩
    .rw[if_pos rfl]
     refine⟨o_,λk hk=>?_⟩
     have a:=hfr k hk
     rw[if_neg (hne _ a)]
     exact⟨(hnew _).2 (.inl a),(h _ a).1⟩
  .rw[if_neg h0]
   refine⟨rk,λj hj=>?_⟩
   obtain⟨h1,h2⟩:=h j hj
   exact⟨o_,h2⟩
theorem BZ(hq:1<=N.length/\N.length<=5)(hf: ∀k,k<N.length->Hw (N.getD k Ao).fr N.length/\(N.getD k Ao).fr.length<=5)(ha:Jk N=true): ∃rk,Vs N rk:=by
 obtain⟨rk,h⟩:=ON hq hf (N.length*N.length)
 have ha2:J1 N (N.length*N.length)=2^N.length-1:=by
  rw[<-DG];exact of_decide_eq_true ha
 refine⟨rk,λi hi=>?_⟩
 obtain⟨h1,h2⟩:=h i (by rw[ha2,dK];exact decide_eq_true hi)
 have:N.length*N.length<=5*5:=cX hq.2 hq.2
 exact⟨o_,λk hk=>(h2 k hk).2⟩
theorem oZ{f g:Nat->Int}: ∀k,k<=L.length->(∀j,j<L.length->f (L.getD j 0).toNat=g (L.getD j 0).toNat)->H8 N f L k=H8 N g L k
 |0,_,_=>rfl
 |k+1,h,e=>by
  unfold H8
  rw[oZ k o_ e,e k o_]
theorem sI{rk:Nat->Nat}(hf: ∀k,k<N.length->Hw (N.getD k Ao).fr N.length)(hr:Vs N rk): ∀(m m' i:Nat),i<N.length->rk i<m->rk i<m'->Ju N R s u m i=Ju N R s u m' i
 |0,_,_,_,h,_=>o_
 | _+1,0,_,_,_,h=>o_
 | m + 1, m' + 1, i, hi, h1, h2 => by
  unfold Ju
  split
  .rfl
  .unfold Ko
   rw[oZ (f:=Ju N R s u m) (g:=Ju N R s u m') _ (aC _) λj hj=>by
    have h3:=(hr i hi).2 j hj
    have h4:=hf i hi j hj
    exact sI hf hr m m' _ o_ o_ o_]
theorem SE{rk:Nat->Nat}(hf: ∀k,k<N.length->Hw (N.getD k Ao).fr N.length)(hr:Vs N rk)(hi:i<N.length):Dt N R s u i=if 0<=s.getD i 0 then s.getD i 0 else Ko N R u (Dt N R s u) (N.getD i Ao):=by
 show Ju N R s u (25+1) i=_
 rw[Ju]
 split
 .rfl
 .unfold Ko
  rw[oZ (f:=Ju N R s u 25) (g:=Dt N R s u) _ (aC _) λj hj=>by
   have h3:=(hr i hi).2 j hj
   have h4:=hf i hi j hj
   have h5:=(hr i hi).1
   exact sI hf hr 25 26 _ o_ o_ o_]
theorem SK{f:Nat->Int}(hc: ∀k,k<N.length->1<=(N.getD k Ao).c/\(N.getD k Ao).c<=4)(hf: ∀j,j<L.length->0<=f (L.getD j 0).toNat/\f (L.getD j 0).toNat<(N.getD (L.getD j 0).toNat Ao).c): ∀k,k<=L.length->0<=H8 N f L k/\H8 N f L k<Cs N L k
 |0,_=>by simp[H8,Cs]
 |k+1,h=>by
  obtain⟨h1,h2⟩:=SK hc hf k o_
  obtain⟨h3,h4⟩:=hf k o_
  show 0<=H8 N f L k*(N.getD (L.getD k 0).toNat Ao).c+f (L.getD k 0).toNat/\H8 N f L k*(N.getD (L.getD k 0).toNat Ao).c+f (L.getD k 0).toNat<Cs N L k*(N.getD (L.getD k 0).toNat Ao).c
  generalize H8 N f L k=a,f (L.getD k 0).toNat=b,(N.getD (L.getD k 0).toNat Ao).c=c,Cs N L k=p at*
  have e1:(a+1)*c<=p*c:=bL o_ o_
  have e2:(a+1)*c=a*c+c:=by rw[dS,eW]
  have e3:0<=a*c:=bY h1 o_
  omega
theorem WR{a p:Int}(ha:0<=a/\a<p)(hu: ∀j,j<L.length->0<=u.getD (L.getD j 0).toNat 0/\u.getD (L.getD j 0).toNat 0<((R.getD (L.getD j 0).toNat []).length:Nat)): ∀k,k<=L.length->0<=Ja R u a L k/\Ja R u a L k<p*(C7 R L k:Nat)
 |0,_=>by simp[Ja,C7];omega
 |k+1,h=>by
  obtain⟨h1,h2⟩:=WR ha hu k o_
  obtain⟨h3,h4⟩:=hu k o_
  show 0<=Ja R u a L k*((R.getD (L.getD k 0).toNat []).length:Nat)+u.getD (L.getD k 0).toNat 0/\Ja R u a L k*((R.getD (L.getD k 0).toNat []).length:Nat)+u.getD (L.getD k 0).toNat 0<p*((C7 R L k*(R.getD (L.getD k 0).toNat []).length:Nat):Int)
  rw[cJ,<-eU]
  generalize Ja R u a L k=x,u.getD (L.getD k 0).toNat 0=b,((R.getD (L.getD k 0).toNat []).length:Int)=c,p*(C7 R L k:Int)=z at*
  have e1:(x+1)*c<=z*c:=bL o_ o_
  have e2:(x+1)*c=x*c+c:=by rw[dS,eW]
  have e3:0<=x*c:=bY h1 o_
  omega
def AM(R:List (List Int))(u:List Int):Prop:=u.length=R.length/\∀k,k<R.length->0<=u.getD k 0/\u.getD k 0<((R.getD k []).length:Nat)
def F3(N:List Mc)(s:List Int):Prop:=s.length=N.length/\∀k,k<N.length-> -1<=s.getD k 0/\s.getD k 0<(N.getD k Ao).c
theorem V0(h:Ey N s=true):F3 N s:=⟨(YH.1 h).1,λk hk=>by have:=(YH.1 h).2 k hk;omega⟩
structure Fp(R:List (List Int))(N:List Mc):Prop where
 q:1<=N.length/\N.length<=5
 n:R.length<=8
 c: ∀k,k<N.length->1<=(N.getD k Ao).c/\(N.getD k Ao).c<=4
 rl: ∀k,k<R.length->1<=(R.getD k []).length/\(R.getD k []).length<=4
 fr: ∀k,k<N.length->Hw (N.getD k Ao).fr N.length/\(N.getD k Ao).fr.length<=5
 no: ∀k,k<N.length->Hw (N.getD k Ao).no R.length/\(N.getD k Ao).no.length<=8
 ol: ∀k,k<N.length->((N.getD k Ao).ou.length:Int)=Cs N (N.getD k Ao).fr (N.getD k Ao).fr.length*(C7 R (N.getD k Ao).no (N.getD k Ao).no.length:Nat)
 ou: ∀k,k<N.length->∀i,i<(N.getD k Ao).ou.length->0<=(N.getD k Ao).ou.getD i 0/\(N.getD k Ao).ou.getD i 0<(N.getD k Ao).c
 rk: ∃rk,Vs N rk
theorem Dz.nd2(h:Dz g R N):Fp R N:=by
 have hfr: ∀k,k<N.length->Hw (N.getD k Ao).fr N.length/\(N.getD k Ao).fr.length<=5:=λk hk=>by
  have:=MC.1 (RM h.nd k hk)
  exact⟨ED this.1,aP (DZ this.1) h.q1.2⟩
 refine⟨h.q1,h.n1,h.cd,WU h.rt,hfr,λk hk=>?_,λk hk=>?_,λk hk i hi=>?_,BZ h.q1 hfr h.ac⟩
 .have:=MC.1 (RM h.nd k hk)
  exact⟨ED this.2.1,aP (DZ this.2.1) h.n1⟩
 .exact(MC.1 (RM h.nd k hk)).2.2.2.1
 .have:=J3.1 (MC.1 (RM h.nd k hk)).2.2.2.2 i hi
  omega
theorem mM(h:Fp R N)(hu:AM R u){f:Nat->Int}(hi:i<N.length)(hf: ∀j,j<(N.getD i Ao).fr.length->0<=f ((N.getD i Ao).fr.getD j 0).toNat/\f ((N.getD i Ao).fr.getD j 0).toNat<(N.getD ((N.getD i Ao).fr.getD j 0).toNat Ao).c):
  (0<=Ja R u (H8 N f (N.getD i Ao).fr (N.getD i Ao).fr.length) (N.getD i Ao).no (N.getD i Ao).no.length/\Ja R u (H8 N f (N.getD i Ao).fr (N.getD i Ao).fr.length) (N.getD i Ao).no (N.getD i Ao).no.length<((N.getD i Ao).ou.length:Nat))/\0<=Ko N R u f (N.getD i Ao)/\Ko N R u f (N.getD i Ao)<(N.getD i Ao).c:=by
 have h1:=SK h.c hf _ (aC _)
 have h2:=WR (R:=R) (u:=u) h1 (λj hj=>by
  have:=(h.no i hi).1 j hj
  exact hu.2 _ o_) _ (aC _)
 rw[<-h.ol i hi]at h2
 refine⟨h2,?_⟩
 unfold Ko
 exact h.ou i hi _ o_
theorem IZ(h:Fp R N)(hu:AM R u)(hs:F3 N s): ∀i,i<N.length->0<=Dt N R s u i/\Dt N R s u i<(N.getD i Ao).c:=by
 obtain⟨rk,hr⟩:=h.rk
 have hf: ∀k,k<N.length->Hw (N.getD k Ao).fr N.length:=λk hk=>(h.fr k hk).1
 have key: ∀m i,i<N.length->rk i<m->0<=Dt N R s u i/\Dt N R s u i<(N.getD i Ao).c:=by
  intro m
  induction m with
  |zero=>intro i _ h;omega
  |succ m ih=>
   intro i hi hm
   rw[SE hf hr hi]
   split
   .exact⟨by assumption,(hs.2 i hi).2⟩
   .exact(mM h hu hi λj hj=>by
     have h3:=(hr i hi).2 j hj
     have h4:=hf i hi j hj
     exact ih _ o_ o_).2
 exact λi hi=>key 26 i hi (by have:=(hr i hi).1;omega)
def It(N:List Mc)(f:Nat->Int)(s w:List Int):Prop:=w.length=N.length/\∀i,i<N.length->(0<=w.getD i 0\/0<=s.getD i 0)->w.getD i 0=f i
theorem mW{f:Nat->Int}: ∀(m i:Nat)(w:List Int),It N f s w->It N f s (Fs N f m i w)
 |0,_,w,h=>h
 | m + 1, i, w, h => by
  unfold Fs
  split
  .exact h
  .have key: ∀(l:List Int)(w:List Int),It N f s w ->It N f s (l.foldl (λw j=>Fs N f m j.toNat w) w):=by
    intro l
    induction l with
    |nil=>exact λw h=>h
    |cons x l ih=>exact λw h=>ih _ (mW m _ _ h)
   have h1:=key (N.getD i Ao).fr w h
   generalize (N.getD i Ao).fr.foldl (λw j=>Fs N f m j.toNat w) w=w1 at*
   refine⟨by rw[bJ];exact h1.1,λk hk hor=>?_⟩
   rw[aA,bV]at*
   by_cases hik:i=k
   .subst hik
    rw[if_pos rfl,if_pos (by rw[h1.1];exact hk)]
    rfl
   .rw[if_neg hik]at*
    rw[<-aA]at*
    exact h1.2 k hk hor
theorem wD{f:Nat->Int}(hf: ∀i,i<N.length->0<=f i): ∀(m i:Nat)(w:List Int)(k:Nat),k<N.length->w.length=N.length->0<=w.getD k 0->0<=(Fs N f m i w).getD k 0/\(Fs N f m i w).length=N.length
 |0,_,w,k,_,hl,h=>⟨h,hl⟩
 | m + 1, i, w, k, hk, hl, h => by
  unfold Fs
  split
  .exact⟨h,hl⟩
  .have key: ∀(l:List Int)(w:List Int),w.length=N.length ->0<=w.getD k 0 ->0<=(l.foldl (λw j=>Fs N f m j.toNat w) w).getD k 0/\(l.foldl (λw j=>Fs N f m j.toNat w) w).length=N.length:=by
    intro l
    induction l with
    |nil=>exact λw h1 h2=>⟨h2,h1⟩
    |cons x l ih=>
     intro w h1 h2
     have:=wD hf m x.toNat w k hk h1 h2
     exact ih _ this.2 this.1
   have h1:=key (N.getD i Ao).fr w hl h
   generalize (N.getD i Ao).fr.foldl (λw j=>Fs N f m j.toNat w) w=w1 at*
   refine⟨?_,by rw[bJ];exact h1.2⟩
   rw[aA,bV]
   by_cases hik:i=k
   .subst hik
    rw[if_pos rfl,if_pos (by rw[h1.2];exact hk)]
    exact hf i hk
   .rw[if_neg hik,<-aA]
    exact h1.1
theorem HC{f:Nat->Int}(hf: ∀i,i<N.length->0<=f i){m:Nat}{w:List Int}(hi:i<N.length)(hl:w.length=N.length):0<=(Fs N f (m+1) i w).getD i 0:=by
 have hlen: ∀(m i:Nat)(w:List Int),w.length=N.length->(Fs N f m i w).length=N.length:=by
  intro m
  induction m with
  |zero=>exact λi w h=>h
  | succ m ih =>
   intro i w h
   unfold Fs
   split
   .exact h
   .rw[bJ]
    have key: ∀(l:List Int)(w:List Int),w.length=N.length->(l.foldl (λw j=>Fs N f m j.toNat w) w).length=N.length:=by
     intro l
     induction l with
     |nil=>exact λw h=>h
     |cons x l ih2=>exact λw h=>ih2 _ (ih _ _ h)
    exact key _ _ h
 unfold Fs
 split
 .assumption
 .have key: ∀(l:List Int)(w:List Int),w.length=N.length ->(l.foldl (λw j=>Fs N f m j.toNat w) w).length=N.length:=by
   intro l
   induction l with
   |nil=>exact λw h=>h
   |cons x l ih2=>exact λw h=>ih2 _ (hlen _ _ _ h)
  have h1:=key (N.getD i Ao).fr w hl
  generalize (N.getD i Ao).fr.foldl (λw j=>Fs N f m j.toNat w) w=w1 at*
  rw[aA,bV,if_pos rfl,if_pos o_]
  exact hf i hi
theorem Px{l:List Int}{k:Nat}(h:k<l.length):Ae (Af (0+k*1) (Aa l))=some (i6 (l.getD k 0)):=by
 rw[cM,Om];exact Dm h
abbrev VB:List V:=[.ptr 3 0,.ptr 0 0,.ptr 4 0,.ptr 1 0]
abbrev jH(g:Int)(n:Nat)(R:List V)(q:Nat)(N:List V)(W:Int):O:=.row 210 none [i6 g,.im n R,.im q N,i6 W]
abbrev H6(g:Int)(n:Nat)(R:List V)(q:Nat)(N:List V)(W:Int)(u w:List Int):List O:=
 [jH g n R q N W,.row 47 none [sl u],.row 3 (some 1) (Aa w),.row 47 none [.sl 2 0 q none],.row 238 none [.fn 151 VB]]
theorem Rd(g:Int)(n:Nat)(R:List V)(hR:Ba R)(q:Nat)(N:List V)(hN:Ba N)(W:Int)(u w:List Int)(hw:w.length=q)(i:Nat)(hi:i<q)(x:Int)(hx:w.getD i 0=x)(h0:0<=x):
  Ac Pg g0 (.fn 151 []) [i6 i,.ptr 3 0,.ptr 0 0,.ptr 4 0,.ptr 1 0] (Ai .e 0 (H6 g n R q N W u w)) 5 ⟨i6 x,Ai .e 0 (H6 g n R q N W u w),5,[2]⟩:=by
 have hu:=Ap u
 have hww:=Ap w
 have h1:=Px (l:=w) (k:=i) o_
 rw[hx]at h1
 refine Ac.of_vcH (P:=Pg) (E:=vE) vE_ok Bx Gy (n:=1000) (f:=151) (os0:=H6 g n R q N W u w) (r:=[]) (S:={sl:=[(6,i6 x)],os:=H6 g n R q N W u w,lg:=[2],md:=[0,0,0,1,1]}) (hs:=[pl 15,ld 16 (i6 x),As 17,pl 20,ld 21 (i6 x)]) s_ (λi hi hno=>rfl) ?_
 clear hx
 exact m_ (p:=let z2:=[i6 g,V.im n R,V.im q N,i6 W];An [Sm (i6 x),_,_,_,_,_,An [x=x,Tt],An [z2=z2,TT 4],An [Sm [sl u],Tt,Tt],An [Sm (Aa w),_],An [An [Zz,q=q,Tt],Tt],An [An [Zz,Zz,Zz,Zz,Tt],Tt],Tt]) ⟨aq,Ar hi,h1,Pp h0,Ar hi,h1,a_,a_,a_,⟨aq,hww⟩,a_⟩
abbrev KE(g:Int)(n:Nat)(R:List V)(q:Nat)(N:List V)(W:Int)(u w:List Int)(x:Mc)(i k:Nat)(a:Int):SL:={sl:=[(0,i6 i),(1,.ptr 3 0),(2,.ptr 0 0),(3,.ptr 4 0),(4,.ptr 1 0),(7,.ptr 5 0),(8,i6 a),(29,sl x.fr),(30,i6 x.fr.length),(31,i6 k)],os:=H6 g n R q N W u w++[N4 x],lg:=[2],md:=[0,0,0,1,1,0]}
abbrev KD(g:Int)(n:Nat)(R:List V)(q:Nat)(N:List V)(W:Int)(u w:List Int)(x:Mc)(i k:Nat)(a:Int):SL:={sl:=[(0,i6 i),(1,.ptr 3 0),(2,.ptr 0 0),(3,.ptr 4 0),(4,.ptr 1 0),(7,.ptr 5 0),(8,i6 a),(50,sl x.no),(51,i6 x.no.length),(52,i6 k)],os:=H6 g n R q N W u w++[N4 x],lg:=[2],md:=[0,0,0,1,1,0]}
theorem FH{R:List V}(hR:Ba R){q:Nat}{N:List V}(hN:Ba N){W:Int}{w w':List Int}{j:Nat}{v:Int}(h:Ac Pg g0 (.fn 151 []) [i6 j,.ptr 3 0,.ptr 0 0,.ptr 4 0,.ptr 1 0] (Ai .e 0 (H6 g n R q N W u w)) 5 ⟨i6 v,Ai .e 0 (H6 g n R q N W u w'),5,[2]⟩)(c:Int)(fr nz ou:List Int):
  Ac Pg g0 (.fn 151 VB) [i6 j] (Ai .e 0 (H6 g n R q N W u w++[N4 ⟨c,fr,nz,ou⟩])) 6 ⟨i6 v,Ai .e 0 (H6 g n R q N W u w'++[N4 ⟨c,fr,nz,ou⟩]),6,[2]⟩:=by
 have hu:=Ap u
 have hw1:=Ap w
 have hw2:=Ap w'
 have h1:=Ap fr
 have h2:=Ap nz
 have h3:=Ap ou
 refine Ac.caps ?_
 refine Ac.frameL (OS:=H6 g n R q N W u w++[N4 ⟨c,fr,nz,ou⟩]) (OS':=H6 g n R q N W u w'++[N4 ⟨c,fr,nz,ou⟩]) [0,1,2,3,4] [(0,0),(1,1),(2,2),(3,3),(4,4)] [0,0,0,1,1] [0,0,0,1,1,0] h k_ ?_ ?_ ?_ ?_
 .refine Eq.mp (by kernel_rfl:(An [Sm (↑j:Int),Zz,Zz,Zz,Zz,Tt])=_) ?_
  (repeat'(first|(with_reducible apply And.intro)|(refine λ(_:True)=>?_)))<;>first|exact aq|skip
 .refine Eq.mp (by kernel_rfl:(An [An [Sm [i6 g,V.im n R,V.im q N,i6 W],TT 4],An [Sm [sl u],Tt,Tt],An [Sm (Aa w),Ba (Aa w)],An [An [Zz,q=q,Tt],Tt],An [An [Zz,Zz,Zz,Zz,Tt],Tt],Tt])=_) ?_
  (repeat'(first|(with_reducible apply And.intro)|(refine λ(_:True)=>?_)))<;>first|exact aq|skip
 .refine Eq.mp (by kernel_rfl:(v=v)=_) ?_
  (repeat'(first|(with_reducible apply And.intro)|(refine λ(_:True)=>?_)))<;>first|exact aq|skip
 .refine Eq.mp (by kernel_rfl:(let z0:=N4 (Mc.mk c fr nz ou);let z1:=H6 g n R q N W u w;let z2:=[i6 g,V.im n R,V.im q N,i6 W];An [(z1++[z0])[0]? =some (jH g n R q N W),An [z2=z2,TT 4],(z1++[z0])[1]? =some (O.row 47 none [sl u]),An [Sm [sl u],Tt,Tt],Tt,An [Sm (Aa w'),Ba (Aa w')],(z1++[z0])[3]? =some (O.row 47 none [V.sl 2 0 q none]),An [An [Zz,q=q,Tt],Tt],(z1++[z0])[4]? =some (O.row 238 none [V.fn 151 VB]),An [An [Zz,Zz,Zz,Zz,Tt],Tt],(z1++[z0])[5]? =some z0,(z1++[z0])[5]? =some z0,Tt])=_) ?_
  (repeat'(first|(with_reducible apply And.intro)|(refine λ(_:True)=>?_)))<;>first|exact aq|skip
end Go.Proofs.YtifdkhfldbkkpaaGreat.Am
