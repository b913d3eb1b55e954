/- Texts behind the claim, part 5: the abstract machine, and what the functions answer. No condition. -/
import Derived.Test.YtakfneapahohkaaDoorCRights4
set_option linter.unusedVariables false
set_option linter.unusedSimpArgs false
set_option linter.unusedSectionVars false
namespace Go.Proofs.YtakfneapahohkaaDoor.Am
open Go.RowKit
set_option maxHeartbeats 1000000
set_option maxRecDepth 100000
abbrev El(a b:Nat->Int):Nat->Int:=Bc a b 1 18
abbrev adS(f:Nat->Int)(e:Int):SL:={sl:=[(4,.ptr 0 0),(5,i6 e)],os:=[.row 37 none (arF f)]}
theorem add_ok(a b:Nat->Int)(ha:inA a=true)(hb:inA b=true)(hs:inA (El a b)=true):Ac Pg g0 50 [ar a,ar b] (.tup [ar (El a b),i6 0]):=by
 have h:=Qcu a
 have h2:=Qcu b
 have h3:=Qcu (El a b)
 have h4:=Qe2 a b 1 (fun k hk=>by have:=Qh9 ha hk;omega) (fun k hk=>by have:=Qh9 hb hk;omega)
 rw[ha]at h
 rw[hb]at h2
 rw[hs]at h3
 change Ac Pg g0 _ _ (ar (El a b))at h4
 generalize hf:El a b=f at*
 refine Ac.of_vc vE_ok Af Qaa (n:=1000) (r:=[2]) (S:=adS f 0) (hs:=[fn 8 (.bool true),fn 12 (.bool true),fn 18 (ar f),fn 20 (.bool true)]) ?_
 refine m_ (p:=let z4:=Bn [TT 18];let z0:=pt (pt (pt T.e 0 (O.row 37 none (arF a))) 1 (O.row 37 none (arF b))) 2 (O.row 37 none [i6 0,i6 0,i6 0,i6 0,i6 0,i6 0,i6 0,i6 0,i6 0,i6 0,i6 0,i6 0,i6 0,i6 0,i6 0,i6 0,i6 0,i6 0]);let z1:=V.bool true;let z2:=V.agg (arF a);let z3:=V.agg (arF b);Bn [V.tup [V.agg (arF f),i6 0]=V.tup [ar f,i6 0],z4,Ac Pg g0 52 [z2] z1,Tt,z4,Ac Pg g0 52 [z3] z1,Bn [(V.fn 52 []=V.fn 52 []->[z2]=[z3]->z0=z0->0+1+1+1=3->Sm (CR.mk z1 z0 3 []))],Bn [TT 18,TT 18,Tt],Ac Pg g0 53 [z2,z3,i6 1] (ar f),Tt,z4,Ac Pg g0 52 [V.agg (arF f)] z1,Tt,Bn [Zz,Sm (0:Int)],An [Sm (arF f),TT 18]]) ?_
 (repeat'(first|(with_reducible apply And.intro)|(refine fun(_:True)=>?_)))<;>first|exact aq|skip
 all_goals rfl
theorem ofF_bd{n:Nat}(h:1<=n): ∀k i,0<=ofF n k i/\ofF n k i<=63
 |0,_=>by simp[ofF,Qah]
 | k + 1, i => by
  unfold ofF upA
  split
  ·have := (Qfr (Qbc k).1 63 (ofN n k) (Qsu h k).1).2.2
   omega
  ·exact ofF_bd h k i
theorem Qr5{f:Nat->Int}(h: ∀k,k<18-> -2000<=f k/\f k<=2000):inA f=true:=by
 unfold inA okA
 rw[List.all_eq_true]
 intro k hk
 have:=h k (List.mem_range.1 hk)
 simpa using this
def eqA(a b:Nat->Int):Bool:=a 0==b 0&&(a 1==b 1&&(a 2==b 2&&(a 3==b 3&&(a 4==b 4&&(a 5==b 5&&(a 6==b 6&&(a 7==b 7&&(a 8==b 8&&(a 9==b 9&&(a 10==b 10&&(a 11==b 11&&(a 12==b 12&&(a 13==b 13&&(a 14==b 14&&(a 15==b 15&&(a 16==b 16&&(a 17==b 17&&true)))))))))))))))))
theorem Qi6{a b:Nat->Int}:eqA a b=true↔∀i,i<18->a i=b i:=by
 unfold eqA
 simp only[Bool.and_eq_true,beq_iff_eq,and_true]
 constructor
 ·rintro ⟨h0, h1, h2, h3, h4, h5, h6, h7, h8, h9, h10, h11, h12, h13, h14, h15, h16, h17⟩ i hi
  rcases lt18 hi with rfl|rfl|rfl|rfl|rfl|rfl|rfl|rfl|rfl|rfl|rfl|rfl|rfl|rfl|rfl|rfl|rfl|rfl<;>assumption
 ·intro h
  exact⟨h 0 o_,h 1 o_,h 2 o_,h 3 o_,h 4 o_,h 5 o_,h 6 o_,h 7 o_,h 8 o_,h 9 o_,h 10 o_,h 11 o_,h 12 o_,h 13 o_,h 14 o_,h 15 o_,h 16 o_,h 17 o_⟩
theorem Qra{a b:Nat->Int}(h: ¬ ∀i,i<18->a i=b i):eqA a b=false:=by
 cases hb:eqA a b with
 |false=>rfl
 |true=>exact absurd (Qi6.1 hb) h
set_option maxHeartbeats 4000000
def factT:List V:=factL.map (V.int .i64)
def Ba(c i:Nat):Int:=factL.getD (18*c+i) 0
theorem lt44{k:Nat}(h:k<44):k=0\/k=1\/k=2\/k=3\/k=4\/k=5\/k=6\/k=7\/k=8\/k=9\/k=10\/k=11\/k=12\/k=13\/k=14\/k=15\/k=16\/k=17\/k=18\/k=19\/k=20\/k=21\/k=22\/k=23\/k=24\/k=25\/k=26\/k=27\/k=28\/k=29\/k=30\/k=31\/k=32\/k=33\/k=34\/k=35\/k=36\/k=37\/k=38\/k=39\/k=40\/k=41\/k=42\/k=43:=by omega
abbrev fcT(A B:List V)(n:Nat):SL:={sl:=[(0,.ptr 0 0),(1,.ptr 1 0),(2,i6 (n:Nat))],os:=[.row 134 none A,.row 134 none B]}
theorem Qrh(A:List V)(T:Nat->List V)(F:Nat->Nat->Int)(hT: ∀n,HfL (T n))(hA:HfL A)(h1: ∀n,n<44->1<=n->A6 18 (Aj ((n-1)*18) (T n))=some (arF (F (n-1))))(h2: ∀n,n<44->1<=n->Ax (0+n*18) (T n) (arF (F n))=some (T (n+1)))
  (h3: ∀n,n<44->1<=n->ar (Aq (F (n-1)) (ofF n 18) 1)=ar (F n))(h4: ∀n k,-1000000<=F n k/\F n k<=1000000):
  Sat Pg none 0 (at' 73 [1,1,0,1,0]) (Ah g0 23 (fcT A (T 1) 1)) (Qaf g0 23 [(True,.exit 0,fcT A (T 44) 44)]):=by
 refine Qax vE_ok Af Qaa (b:=at' 73 [1,1,0,1,0,0]) k_ (fun n=>1<=n/\n<=44) (fun n=>fcT A (T n) n) (fun n=>44-n) (fun n hn=>?_) 1 ⟨Nat.le_refl _,by decide⟩
 obtain⟨hn1,hn2⟩:=hn
 by_cases hlt:n<44
 ·have hs := Qox n hn1 o_
  have hc:=comb (F (n-1)) (ofF n 18) 1 (fun k _=>h4 _ k) (fun k _=>by have:=ofF_bd hn1 18 k;omega)
  rw[h3 n hlt hn1]at hc
  have hp1:=@Qer 1 (n-1) o_
  have hp2:=@Qer 1 n hlt
  have ht:=h1 n hlt hn1
  have hl:=h2 n hlt hn1
  have hz:((n-1:Nat):Int)=(n:Int)-1:=by omega
  have hf:=hT n
  have hf2:=hT (n+1)
  generalize hm:n-1=m at*
  generalize ofF n 18=g at*
  generalize ofN n 18=o at*
  generalize F n=f1 at*
  generalize F m=f0 at*
  generalize hT1:T (n+1)=T1 at*
  generalize T n=T0 at*
  refine .inl ⟨n+1,[0,1],[yes 6,fn 11 (.tup [ar g,i6 (o:Nat)]),nu 16 ((m:Nat):Int),va 17 (.ptr 1 (m*18)),ld 18 (ar f0),fn 20 (ar f1),va 21 (.ptr 1 (n*18)),st T1,nu 8 ((n+1:Nat):Int)],1000,⟨by omega,by omega⟩,by omega,?_⟩
  refine m_ (p:=let z0:=(↑(n+1):Int);let z1:=(n:Int);Bn [decide (z1<44)=true,Bn [Tt],Ac Pg g0 59 [i6 n] (V.tup [ar g,i6 o]),Tt,wr .i64 (z1-1)=(m:Int),Az (Qac Pg) 134 (V.ptr 1 0) (m:Int)=some (V.ptr 1 (m*18)),A6 18 (Aj (m*18) T0)=some (arF f0),Bn [TT 18,TT 18,Tt],Ac Pg g0 53 [V.agg (arF f0),V.agg (arF g),i6 1] (ar f1),Tt,Az (Qac Pg) 134 (V.ptr 1 0) z1=some (V.ptr 1 (n*18)),Ax (n*18) T0 (arF f1)=some T1,wr .i64 (z1+1)=z0,Bn [Zz,Zz,z0=z0],An [A=A,HfL A],An [T (n+1)=T1,HfL (T (n+1))]]) ?_
  (repeat'(first|(with_reducible apply And.intro)|(refine fun(_:True)=>?_)))<;>first|exact aq|skip
  all_goals first|exact hs|exact hc|exact hp1|exact hp2|exact ht|exact hl|exact hf|exact hf2|exact hT1|skip
 ·have : n = 44 := by omega
  subst this
  have hf:=hT 44
  generalize T 44=T0 at*
  refine .inr ⟨.exit 0,[0,1],fcT A T0 44,[no 6],1000,.inl ⟨trivial,rfl,rfl⟩,?_⟩
  refine m_ (p:=let z0:=((44:Nat):Int);Bn [decide (z0<44)=false,Bn [Zz,Zz,z0=z0],An [A=A,HfL A],An [T0=T0,HfL T0]]) ?_
  (repeat'(first|(with_reducible apply And.intro)|(refine fun(_:True)=>?_)))<;>first|exact aq|skip
  all_goals skip
def fzT:List V:=List.replicate 792 (i6 0)
def fcB(n:Nat):List V:=(List.range 44).flatMap fun c=>arF (if c<n then Ba c else Qah)
theorem hf_apT{a b:List V}(ha:HfL a)(hb:HfL b):HfL (a++b):=by
 induction a with
 |nil=>exact hb
 |cons x a ih=>exact⟨ha.1,ih ha.2⟩
theorem Qn5(n:Nat):HfL (fcB n):=by
 unfold fcB
 generalize List.range 44=l
 induction l with
 |nil=>trivial
 |cons x l ih=>rw[List.flatMap_cons];exact hf_apT (By _) ih
theorem facF_bd(n k:Nat): -1000000<=Ba n k/\Ba n k<=1000000:=by
 have h: ∀x∈factL,0<=x/\x<=50:=by decide
 unfold Ba
 rw[List.getD_eq_getElem?_getD]
 cases hx:factL[18*n+k]? with
 |none=>simp
 |some x=>have:=h x (List.mem_of_getElem? hx);simp only[Option.getD_some];omega
theorem fact_fn:Ac Pg g0 73 [] (.agg factT):=by
 have hl:Sat Pg none 0 (at' 73 [1,1,0,1,0]) (Ah g0 23 (fcT fzT (fcB 1) 1)) (Qaf g0 23 [(True,.exit 0,fcT fzT (fcB 44) 44)]):=
  Qrh fzT fcB Ba Qn5 ((by kernel_rfl:fcB 0=fzT)▸Qn5 0)
   (fun n h h1=>by rcases lt44 h with rfl|rfl|rfl|rfl|rfl|rfl|rfl|rfl|rfl|rfl|rfl|rfl|rfl|rfl|rfl|rfl|rfl|rfl|rfl|rfl|rfl|rfl|rfl|rfl|rfl|rfl|rfl|rfl|rfl|rfl|rfl|rfl|rfl|rfl|rfl|rfl|rfl|rfl|rfl|rfl|rfl|rfl|rfl|rfl<;>first|(exact absurd h1 d_)|kernel_rfl)
   (fun n h h1=>by rcases lt44 h with rfl|rfl|rfl|rfl|rfl|rfl|rfl|rfl|rfl|rfl|rfl|rfl|rfl|rfl|rfl|rfl|rfl|rfl|rfl|rfl|rfl|rfl|rfl|rfl|rfl|rfl|rfl|rfl|rfl|rfl|rfl|rfl|rfl|rfl|rfl|rfl|rfl|rfl|rfl|rfl|rfl|rfl|rfl|rfl<;>first|(exact absurd h1 d_)|kernel_rfl)
   (fun n h h1=>by rcases lt44 h with rfl|rfl|rfl|rfl|rfl|rfl|rfl|rfl|rfl|rfl|rfl|rfl|rfl|rfl|rfl|rfl|rfl|rfl|rfl|rfl|rfl|rfl|rfl|rfl|rfl|rfl|rfl|rfl|rfl|rfl|rfl|rfl|rfl|rfl|rfl|rfl|rfl|rfl|rfl|rfl|rfl|rfl|rfl|rfl<;>first|(exact absurd h1 d_)|kernel_rfl) facF_bd
 have h0:HfL fzT:=(by kernel_rfl:fcB 0=fzT)▸Qn5 0
 refine Ac.of_vc vE_ok Af Qaa (n:=1000) (r:=[0]) (S:={sl:=[(0,.ptr 0 0)],os:=[.row 134 none factT]}) (hs:=[(777777,.loop [0,1] (fcT fzT (fcB 1) 1) [(True,.exit 0,fcT fzT (fcB 44) 44)]),ld 22 (.agg factT),(999999,.sw)]) ?_
 exact Eq.mp (by kernel_rfl:(V.agg factT=V.agg factT/\((0=0/\0=0/\((1:Nat):Int)=(1:Int)/\True)/\(fzT=fzT/\HfL fzT)/\(fcB 1=fzT/\HfL (fcB 1))/\True)/\Sat Pg none 0 (at' 73 [1,1,0,1,0]) (Ah g0 23 (fcT fzT (fcB 1) 1)) (Qaf g0 23 [(True,Ex.exit 0,fcT fzT (fcB 44) 44)])/\(True->A6 792 (fcB 44)=some factT/\(792=792/\Bp factT=true/\792=792)/\(0=0/\True)/\(factT=factT/\HfL factT)/\True)/\True)=_)
  ⟨rfl,⟨⟨rfl,rfl,rfl,trivial⟩,⟨rfl,h0⟩,⟨by kernel_rfl,Qn5 1⟩,trivial⟩,hl,fun _=>⟨by kernel_rfl,⟨rfl,by kernel_rfl,rfl⟩,⟨rfl,trivial⟩,⟨rfl,Qag _⟩,trivial⟩,trivial⟩
set_option maxHeartbeats 1000000
theorem fac_ok:Qo5 Ba factT:=by
 refine⟨fun c hc=>?_,fun c i _ _=>?_,Qag _⟩
 ·rcases lt44 hc with rfl|rfl|rfl|rfl|rfl|rfl|rfl|rfl|rfl|rfl|rfl|rfl|rfl|rfl|rfl|rfl|rfl|rfl|rfl|rfl|rfl|rfl|rfl|rfl|rfl|rfl|rfl|rfl|rfl|rfl|rfl|rfl|rfl|rfl|rfl|rfl|rfl|rfl|rfl|rfl|rfl|rfl|rfl|rfl<;>kernel_rfl
 ·have : ∀ x ∈ factL, 0 <= x /\ x <= 50 := by decide
  unfold Ba
  rw[List.getD_eq_getElem?_getD]
  cases hx:factL[18*c+i]? with
  |none=>simp
  |some x=>exact this x (List.mem_of_getElem? hx)
theorem Qi8(i:Nat)(h:i<18):Ba 0 i=0:=by
 rcases lt18 h with rfl|rfl|rfl|rfl|rfl|rfl|rfl|rfl|rfl|rfl|rfl|rfl|rfl|rfl|rfl|rfl|rfl|rfl<;>rfl
def famF(jj:List Nat)(cs:List (List Nat))(v ps:Nat):Nat->Int:=Eh Ba (Qav jj v ps cs) (jj.getD v 0) (Qbn jj ps jj.length)
theorem Qjm{jj:List Nat}{v ps:Nat}{cs:List (List Nat)}(hc:Bt jj)(hcs: ∀c∈cs,Cb jj c)(hv:v<jj.length): ∀p∈Qav jj v ps cs,p.1<Qbn jj ps jj.length/\p.2<jj.getD v 0:=by
 intro p hp
 obtain⟨c,hm,rfl⟩:=List.mem_map.1 hp
 exact⟨Qhd hc (hcs c hm) ps _ (Nat.le_refl _),(hcs c hm).lt v hv⟩
theorem Qgg{r:Nat}{P:List (Nat×Nat)}(h: ∀p∈P,p.2<r):(Qaq r P).length<=P.length:=by
 have hE:=Qct P h
 have hk: ∀k∈(Qaq r P).map (·.1),k∈P.map (·.1):=fun k hk=>by
  obtain⟨m,hm⟩:=(hE.keys k).1 hk
  exact List.mem_map.2 ⟨_,hm,rfl⟩
 have key: ∀(a b:List Nat),a.Nodup->(∀x∈a,x∈b)->a.length<=b.length:=by
  intro a
  induction a with
  |nil=>intro b _ _;exact Nat.zero_le _
  |cons x a ih=>
   intro b hn hs
   rw[List.nodup_cons]at hn
   have hx:=hs x List.mem_cons_self
   have:=ih (b.erase x) hn.2 (fun y hy=>(List.mem_erase_of_ne (fun e=>hn.1 (by rw[<-e];exact hy))).2 (hs y (List.mem_cons_of_mem _ hy)))
   rw[List.length_erase_of_mem hx]at this
   have:=List.length_pos_of_mem hx
   simp only[List.length_cons];omega
 have:=key _ _ hE.nodup hk
 simpa using this
theorem Qrr(jj:List Nat)(cs:List (List Nat))(v ps r n:Nat)(E:List (V×V×Nat))(tb:List V)(hv:v<jj.length)(htl:tb.length=792)(hta:Bp tb=true)(htf:HfL tb)(hHE:HfE E)(hfact:Ac Pg g0 73 [] (.agg tb))(g:Nat->Int)(hld:Ad ((nt jj).drop (v*1))=some (i6 r))
  (hcount:Sat Pg none 0 (at' 71 [1,1,1,0,1,0]) (Ah g0 113 {sl:=fbS cs v ps r 0,os:=fbO jj cs}) (Qaf g0 113 [(True,.exit 0,fcS r [dO jj cs,.row 37 none (arF Qah),.map E n])]))
  (hmap:Sat Pg none 0 (at' 71 [1,1,1,1,1,1,0,1,0]) (Ah g0 113 (fmS r E n tb [] Qah)) (Qaf g0 113 [(True,.exit 4,fzS g)])):Ac Pg g0 71 [dN jj cs,i6 v,u6 ps] (ar g):=by
 refine Ac.of_vc vE_ok Af Qaa (n:=1000) (r:=[1]) (S:={sl:=[(6,.ptr 0 0)],os:=[.row 37 none (arF g)]}) (hs:=[pl 24,ld 25 (i6 r),(0,.loop [0,1,2] {sl:=fbS cs v ps r 0,os:=fbO jj cs} [(True,.exit 0,fcS r [dO jj cs,.row 37 none (arF Qah),.map E n])]),(76,.fnP (.agg tb)),(999999,.sw),(0,.loop [0,1,2,3,4,5] (fmS r E n tb [] Qah) [(True,.exit 4,fzS g)])]) ?_
 refine m_ (p:=let z0:=[i6 0,i6 0,i6 0,i6 0,i6 0,i6 0,i6 0,i6 0,i6 0,i6 0,i6 0,i6 0,i6 0,i6 0,i6 0,i6 0,i6 0,i6 0];let z1:=Au (V.agg tb);let z2:=(v:Int);let z3:=(r:Int);let z4:=arF Qah;Bn [V.agg (arF g)=ar g,An [(0:Int)<=z2,z2<(jj.length:Int)],Ad (List.drop (v*1) (nt jj))=some (i6 r),Bn [Bn [z2=z2,Sm (ps:Int),Zz,Zz,z3=z3,Tt,An [Sm cs.length,Sm (List.map nl cs)],Sm (cs.length:Int),((0:Nat):Int)=(0:Int)],An [Sm [nl jj,cV cs],TT 2],An [z4=z0,TT 18],An [([]:List (V×V×Nat))=[],HfE [],Zz]],Sat Pg none 0 (at' 71 [1,1,1,0,1,0]) (Ah g0 113 (SL.mk (fbS cs v ps r 0) (fbO jj cs) [] [])) (Qaf g0 113 [(True,Ex.exit 0,fcS r [dO jj cs,O.row 37 none z4,O.map E n])]),(True->Bn [Tt,An [Hf (V.agg tb),Ac Pg g0 73 [] (V.agg tb)],Tt,An [z1.length=792,Bp z1=true,792=z1.length],Bn [Bn [Zz,z3=z3,Zz,Zz,Zz],Tt,An [z4=z4,TT 18],An [E=E,HfE E,n=n],An [tb=z1,HfL tb],An [z4=z0,TT 18],An [n=n,([]:List Nat)=[],n=n]],Sat Pg none 0 (at' 71 [1,1,1,1,1,1,0,1,0]) (Ah g0 113 (fmS r E n tb [] Qah)) (Qaf g0 113 [(True,Ex.exit 4,fzS g)]),(True->Bn [Bn [Zz],An [Sm (arF g),TT 18]])])]) ?_
 (repeat'(first|(with_reducible apply And.intro)|(refine fun(_:True)=>?_)))<;>first|exact aq|skip
 all_goals first|rfl|exact htf|exact htl|exact hta|exact htl.symm|exact trivial
theorem Qrs(jj:List Nat)(cs:List (List Nat))(v ps:Nat)(hc:Bt jj)(hcs: ∀c∈cs,Cb jj c)(hv:v<jj.length)(hm:cs.length<=40):Ac Pg g0 71 [dN jj cs,i6 v,u6 ps] (ar (famF jj cs v ps)):=by
 have hcount:=Qro jj cs v ps _ hc hcs hv rfl hm
 have hpo:=Qjm (ps:=ps) hc hcs hv
 have hr:=hc.each v hv
 have hlt:=fun p hp=>(hpo p hp).2
 have hel:=Qgg hlt
 have hpl:(Qav jj v ps cs).length<=40:=by simpa [Qav]using hm
 have hE:=Qct _ hlt
 have hsum:=Qcy (r:=jj.getD v 0) (Qav jj v ps cs)
 have hz:ar (famF jj cs v ps)=ar (fun i=>Bh ((Qaq (jj.getD v 0) (Qav jj v ps cs)).map fun e=>Cq Ba (jj.getD v 0) e.2 i)):=by
  refine congrArg V.agg (Qbf fun i hi=>?_)
  exact(Qgh (Qi8 i hi) hpo).symm
 have hld:=@Qa5 jj v hv
 rw[hz]
 generalize Qaq (jj.getD v 0) (Qav jj v ps cs)=es at*
 generalize hrr:jj.getD v 0=r at*
 have hrows:Qm9 r es.length (fun a=>(es.getD a (0,[])).2):=by
  have hget: ∀a,a<es.length->es.getD a (0,[])∈es:=fun a ha=>by
   rw[List.getD_eq_getElem?_getD,List.getElem?_eq_getElem ha];exact List.getElem_mem ha
  refine⟨by omega,hr.2,by omega,fun a ha=>?_,fun a ha=>?_⟩
  ·show (es.getD a (0, [])).2.length = r
   rw[hE.row _ (hget a ha),Qbt]
  ·show As (es.getD a (0, [])).2 <= 40
   rw[hE.row _ (hget a ha)]
   have:=hsum (es.getD a (0,[])).1 hlt
   omega
 have hmap:=fam_map r es.length (fun a=>(es.getD a (0,[])).1) (fun a=>(es.getD a (0,[])).2) factT Ba fac_ok hrows (Fq r 0 es) (Qq7 r es)
 have jd:(fun i=>Bh ((List.range es.length).map fun a=>Cq Ba r ((fun a=>(es.getD a (0,[])).2) a) i))=(fun i=>Bh (es.map fun e=>Cq Ba r e.2 i)):=by
  funext i
  congr 1
  apply List.ext_getElem?
  intro a
  rw[List.getElem?_map,List.getElem?_map]
  by_cases h:a<es.length
  ·rw [List.getElem?_range h, List.getElem?_eq_getElem h]
   simp only[Option.map_some,List.getD_eq_getElem?_getD,List.getElem?_eq_getElem h,Option.getD_some]
  ·rw[List.getElem?_eq_none (by simp;omega),List.getElem?_eq_none o_];rfl
 rw[jd]at hmap
 generalize (fun i=>Bh (es.map fun e=>Cq Ba r e.2 i))=g at*
 have hHE:HfE (Fq r 0 es):=by rw[Qq7];exact Qir _ _ _ _
 simp only[fcO]at hcount
 generalize Fq r 0 es=E at*
 have hfact:Ac Pg g0 73 [] (.agg factT):=fact_fn
 have htl:factT.length=792:=by kernel_rfl
 have hta:Bp factT=true:=by kernel_rfl
 exact Qrr jj cs v ps r es.length E factT hv htl hta (Qag _) hHE hfact g hld hcount hmap
theorem Ql9(jj:List Int)(cs:List (List Int))(h40:cs.length<=1000)(hcl: ∀c∈cs,c.length<=1000):Ac Pg g0 57 [gV jj cs] (gV jj (comp cs)):=by
 have hl:=cp_loop jj cs h40 hcl _ rfl _ rfl
 generalize comp cs=l at*
 cases hm:l.length with
 |zero=>
  have:l=[]:=List.eq_nil_of_length_eq_zero hm
  subst this
  refine Ac.of_vc vE_ok Af Qaa (n:=1000) (r:=[0]) (S:={sl:=[(2,.ptr 0 0)],os:=[.row 31 none [sl jj,.im 0 []]],md:=[1]}) (hs:=[(0,.loop [0,1,2] (cpS jj cs (0,0,[])) [(True,.exit 0,cpX jj 0 [])])]) ?_
  exact u_ (p:=let z0:=An [Sm jj.length,Sm (Ab jj)];Bn [V.agg [sl jj,V.im 0 []]=gV jj [],Bn [Bn [Zz,Zz,Zz,((0:Nat):Int)=(0:Int)],An [Sm [sl jj,gC cs],TT 2],An [Sm [V.nils,V.nils],TT 2],Bn [z0,Tt]],Sat Pg none 0 (at' 57 [1,1,0,1,0]) (Ah g0 32 (cpS jj cs (0,0,[]))) (Qaf g0 32 [(True,Ex.exit 0,cpX jj 0 [])]),(True->Bn [Bn [Zz],Bn [z0,Zz]])])
 |succ n=>
  rw[hm]at hl
  rw[show gV jj l= .agg [sl jj,.im (n+1) (l.map sl)]by show V.agg [sl jj,.im l.length (l.map sl)]=_;rw[hm]]
  refine Ac.of_vc vE_ok Af Qaa (n:=1000) (r:=[0]) (S:={sl:=[(2,.ptr 0 0)],os:=[.row 31 none [sl jj,.im (n+1) (l.map sl)]],md:=[1]}) (hs:=[(0,.loop [0,1,2] (cpS jj cs (0,0,[])) [(True,.exit 0,cpX jj (n+1) l)])]) ?_
  exact u_ (p:=let z0:=An [Sm jj.length,Sm (Ab jj)];let z1:=List.map sl l;Bn [Sm (V.agg [sl jj,V.im (n+1) z1]),Bn [Bn [Zz,Zz,Zz,((0:Nat):Int)=(0:Int)],An [Sm [sl jj,gC cs],TT 2],An [Sm [V.nils,V.nils],TT 2],Bn [z0,Tt]],Sat Pg none 0 (at' 57 [1,1,0,1,0]) (Ah g0 32 (cpS jj cs (0,0,[]))) (Qaf g0 32 [(True,Ex.exit 0,cpX jj (n+1) l)]),(True->Bn [Bn [Zz],Bn [z0,An [Sm (n+1),Sm z1,HfL z1]]])])
theorem Qi3(cs:List (List Int)):((comp cs).length=cs.length↔cs.any Cf=false):=by
 unfold comp
 rw[<-List.countP_eq_length_filter]
 constructor
 ·intro h
  rw[List.countP_eq_length]at h
  rw[List.any_eq_false]
  intro c hc
  have:=h c hc
  simpa using this
 ·intro h
  rw[List.countP_eq_length]
  intro c hc
  rw[List.any_eq_false]at h
  simpa using h c hc
theorem Qte(jj:List Int)(cs:List (List Int))(h40:cs.length<=1000)(hcl: ∀c∈cs,c.length<=1000):Ac Pg g0 39 [gV jj cs] (.bool (!cs.any Cf)):=by
 have hc:=Ql9 jj cs h40 hcl
 have hi:=Qi3 cs
 cases hn:cs.any Cf with
 |false=>
  have hl:=hi.2 hn
  generalize comp cs=l at*
  refine Ac.of_vc vE_ok Af Qaa (n:=1000) (r:=[]) (S:=bR true) (hs:=[fn 4 (gV jj l),yes 10]) ?_
  exact u_ (p:=Bn [V.bool true=V.bool !false,Bn [TT 2],Ac Pg g0 57 [V.agg [V.im jj.length (Ab jj),V.im cs.length (List.map sl cs)]] (gV jj l),Tt,((l.length:Int)==(cs.length:Int))=true,Bn [Sm true]])
 |true=>
  have hl:(comp cs).length≠cs.length:=fun h=>by rw[hi.1 h]at hn;cases hn
  generalize comp cs=l at*
  refine Ac.of_vc vE_ok Af Qaa (n:=1000) (r:=[]) (S:=bR false) (hs:=[fn 4 (gV jj l),no 10]) ?_
  exact u_ (p:=Bn [V.bool false=V.bool !true,Bn [TT 2],Ac Pg g0 57 [V.agg [V.im jj.length (Ab jj),V.im cs.length (List.map sl cs)]] (gV jj l),Tt,((l.length:Int)==(cs.length:Int))=false,Bn [Sm false]])
abbrev rtS(jj:List Int)(cs:List (List Int))(k:Nat):SL:={sl:=[(1,.ptr 0 0),(3,i6 (Ar jj k)),(4,i6 k)],os:=[gO jj cs]}
abbrev rtX(jj:List Int)(cs:List (List Int))(w:Int):SL:={sl:=[(1,.ptr 0 0),(3,i6 w)],os:=[gO jj cs]}
theorem G0(jj:List Int)(cs:List (List Int))(h6:jj.length<=6):
  Sat Pg none 0 (at' 38 [1,1,1,0,1,0]) (Ah g0 102 (rtS jj cs 0)) (Qaf g0 102 [(Er jj=true,.exit 0,rtX jj cs (Ar jj jj.length)),(Er jj=false,.ret,bR false)]):=by
 refine Qax vE_ok Af Qaa (b:=at' 38 [1,1,1,0,1,0,0]) k_ (fun k=>k<=jj.length/\∀j,j<k->okC (jj.getD j 0)=true) (rtS jj cs) (fun k=>jj.length-k) (fun k hk=>?_) 0 ⟨Nat.zero_le _,fun j h=>absurd h (Nat.not_lt_zero _)⟩
 obtain⟨hk,hj⟩:=hk
 by_cases hlt:k<jj.length
 ·have hld := @Qal jj k hlt
  have hpb:=Qfp k hj
  have hp4:=pow4I (show k<=6 by omega)
  have jw:okC (jj.getD k 0)=false->Er jj=false:=fun h=>Qbb hlt h
  have jv:okC (jj.getD k 0)=true->∀j,j<k+1->okC (jj.getD j 0)=true:=fun h j hj1=>by
   rcases Nat.lt_succ_iff_lt_or_eq.1 hj1 with h2|h2
   ·exact hj j h2
   ·subst h2;exact h
  have hS:rtS jj cs (k+1)={sl:=[(1,.ptr 0 0),(3,i6 (Ar jj k*jj.getD k 0)),(4,i6 (k+1:Nat))],os:=[gO jj cs]}:=rfl
  by_cases h1:jj.getD k 0<2
  ·have hb := jw (by unfold okC; exact decide_eq_false o_)
   refine .inr ⟨.ret,[],bR false,[yes 27,pl 33,ld 34 (i6 (jj.getD k 0)),yes 35],1000,.inr (.inl ⟨hb,rfl,rfl⟩),?_⟩
   exact u_ (p:=let z0:=List.getD jj k (0:Int);let z1:=(jj.length:Int);let z2:=(k:Int);Bn [decide (z2<z1)=true,An [(0:Int)<=z2,z2<z1],Ad (List.drop (k*1) (Ab jj))=some (i6 z0),decide (z0<2)=true,Bn [Sm false]])
  ·by_cases h2 : jj.getD k 0 > 4
   ·have hb := jw (by unfold okC; exact decide_eq_false o_)
    refine .inr ⟨.ret,[],bR false,[yes 27,pl 33,ld 34 (i6 (jj.getD k 0)),no 35,pl 40,ld 41 (i6 (jj.getD k 0)),yes 42],1000,.inr (.inl ⟨hb,rfl,rfl⟩),?_⟩
    exact u_ (p:=let z0:=List.getD jj k (0:Int);let z1:=(jj.length:Int);let z2:=(k:Int);let z3:=Ad (List.drop (k*1) (Ab jj));Bn [decide (z2<z1)=true,An [(0:Int)<=z2,z2<z1],z3=some (i6 z0),decide (z0<2)=false,An [(0:Int)<=z2,z2<z1],z3=some (i6 z0),decide (z0>4)=true,Bn [Sm false]])
   ·have hg := jv (by unfold okC; exact decide_eq_true o_)
    have hm:Ar jj k*jj.getD k 0<=4096*4:=Int.mul_le_mul o_ o_ o_ o_
    have hm0:0<=Ar jj k*jj.getD k 0:=Int.mul_nonneg o_ o_
    refine .inl ⟨k+1,[0],[yes 27,pl 33,ld 34 (i6 (jj.getD k 0)),no 35,pl 40,ld 41 (i6 (jj.getD k 0)),no 42,pl 48,ld 49 (i6 (jj.getD k 0)),nu 50 (Ar jj k*jj.getD k 0),nu 29 (k+1:Nat)],1000,⟨hlt,hg⟩,by omega,?_⟩
    rw[hS]
    generalize hy:Ar jj k*jj.getD k 0=y at*
    refine m_ (p:=let z1:=Ad (List.drop (k*1) (Ab jj));let z2:=(k:Int);let z3:=(jj.length:Int);let z4:=(↑(k+1):Int);let z5:=(0:Int);let z0:=List.getD jj k z5;let z6:=some (i6 z0);Bn [decide (z2<z3)=true,An [z5<=z2,z2<z3],z1=z6,decide (z0<2)=false,An [z5<=z2,z2<z3],z1=z6,decide (z0>4)=false,An [z5<=z2,z2<z3],z1=z6,wr .i64 (Ar jj k*z0)=y,wr .i64 (z2+1)=z4,Bn [Zz,y=y,z4=z4],An [Sm [sl jj,gC cs],TT 2]]) ?_
    (repeat'(first|(with_reducible apply And.intro)|(refine fun(_:True)=>?_)))<;>first|exact aq|skip
    all_goals first|rfl|exact Ql2 _|(rw[hy];exact wr6 o_ o_)
 ·have : k = jj.length := by omega
  subst this
  refine .inr ⟨.exit 0,[0],rtX jj cs (Ar jj jj.length),[no 27],1000,.inl ⟨Qam.2 hj,rfl,rfl⟩,?_⟩
  show vc _ _ _ _ _ _ _ _ (Ah g0 102 {sl:=[(1,.ptr 0 0),(3,i6 (Ar jj jj.length)),(4,i6 (jj.length:Nat))],os:=[gO jj cs]}) _
  generalize Ar jj jj.length=w at*
  exact u_ (p:=let z0:=(jj.length:Int);Bn [decide (z0<z0)=false,Bn [Zz,w=w],An [Sm [sl jj,gC cs],TT 2]])
abbrev rvS(jj:List Int)(cs:List (List Int))(w:Int)(i:Nat)(j:Nat):SL:={sl:=[(1,.ptr 0 0),(3,i6 w),(5,i6 i),(6,i6 j)],os:=[gO jj cs]}
abbrev rwS(jj:List Int)(cs:List (List Int))(w:Int)(i:Nat):SL:={sl:=[(1,.ptr 0 0),(3,i6 w),(5,i6 i)],os:=[gO jj cs]}
theorem rt_row(jj:List Int)(cs:List (List Int))(w:Int)(i:Nat)(c:List Int)(hi:i<cs.length)(hc:cs[i]? =some c)(jy:c.length=jj.length)(h6:jj.length<=6):
  Sat Pg none 0 (at' 38 [1,1,1,1,0,1,0,0,1,0,0,1,1,0]) (Ah g0 102 (rvS jj cs w i 0)) (Qaf g0 102 [(Bd jj c=true,.exit 4,rwS jj cs w i),(Bd jj c=false,.ret,bR false)]):=by
 refine Qax vE_ok Af Qaa (b:=at' 38 [1,1,1,1,0,1,0,0,1,0,0,1,1,0,0]) k_ (fun k=>k<=jj.length/\∀j,j<k->okX (jj.getD j 0) (c.getD j 0)=true) (rvS jj cs w i) (fun k=>jj.length-k) (fun k hk=>?_) 0 ⟨Nat.zero_le _,fun j h=>absurd h (Nat.not_lt_zero _)⟩
 obtain⟨hk,hj⟩:=hk
 have hldc:Ad ((cs.map sl).drop (i*1))=some (sl c):=Qbg hc
 by_cases hlt:k<jj.length
 ·have hld := @Qal jj k hlt
  have hld2:=@Qal c k o_
  have jw:okX (jj.getD k 0) (c.getD k 0)=false->Bd jj c=false:=fun h=>by
   unfold Bd;rw[Qbb hlt h,Bool.and_false]
  have jv:okX (jj.getD k 0) (c.getD k 0)=true->∀j,j<k+1->okX (jj.getD j 0) (c.getD j 0)=true:=fun h j hj1=>by
   rcases Nat.lt_succ_iff_lt_or_eq.1 hj1 with h2|h2
   ·exact hj j h2
   ·subst h2;exact h
  by_cases h1:c.getD k 0< -1
  ·have hb := jw (by unfold okX; exact decide_eq_false o_)
   refine .inr ⟨.ret,[],bR false,[yes 72,pl 78,ld 79 (sl c),pl 81,ld 82 (i6 (c.getD k 0)),yes 83],1000,.inr (.inl ⟨hb,rfl,rfl⟩),?_⟩
   exact u_ (p:=let z0:=List.getD c k (0:Int);let z1:=(k:Int);Bn [decide (z1<(jj.length:Int))=true,An [(0:Int)<=(i:Int),(i:Int)<(cs.length:Int)],Ad (List.drop (i*1) (List.map sl cs))=some (sl c),An [(0:Int)<=z1,z1<(c.length:Int)],Ad (List.drop (k*1) (Ab c))=some (i6 z0),decide (z0<(-1:Int))=true,Bn [Sm false]])
  ·by_cases h2 : c.getD k 0 >= jj.getD k 0
   ·have hb := jw (by unfold okX; exact decide_eq_false o_)
    refine .inr ⟨.ret,[],bR false,[yes 72,pl 78,ld 79 (sl c),pl 81,ld 82 (i6 (c.getD k 0)),no 83,pl 88,ld 89 (sl c),pl 91,ld 92 (i6 (c.getD k 0)),pl 96,ld 97 (i6 (jj.getD k 0)),yes 98],1000,.inr (.inl ⟨hb,rfl,rfl⟩),?_⟩
    exact u_ (p:=let z0:=(0:Int);let z1:=(k:Int);let z3:=Ad (List.drop (i*1) (List.map sl cs));let z4:=Ad (List.drop (k*1) (Ab c));let z5:=(i:Int);let z6:=(jj.length:Int);let z2:=List.getD c k z0;let z7:=List.getD jj k z0;Bn [decide (z1<z6)=true,An [z0<=z5,z5<(cs.length:Int)],z3=some (sl c),An [z0<=z1,z1<(c.length:Int)],z4=some (i6 z2),decide (z2<(-1:Int))=false,An [z0<=z5,z5<(cs.length:Int)],z3=some (sl c),An [z0<=z1,z1<(c.length:Int)],z4=some (i6 z2),An [z0<=z1,z1<z6],Ad (List.drop (k*1) (Ab jj))=some (i6 z7),decide (z2>=z7)=true,Bn [Sm false]])
   ·have hg := jv (by unfold okX; exact decide_eq_true o_)
    refine .inl ⟨k+1,[0],[yes 72,pl 78,ld 79 (sl c),pl 81,ld 82 (i6 (c.getD k 0)),no 83,pl 88,ld 89 (sl c),pl 91,ld 92 (i6 (c.getD k 0)),pl 96,ld 97 (i6 (jj.getD k 0)),no 98,nu 74 (k+1:Nat)],1000,⟨hlt,hg⟩,by omega,?_⟩
    exact u_ (p:=let z0:=(k:Int);let z1:=(0:Int);let z2:=(i:Int);let z4:=Ad (List.drop (i*1) (List.map sl cs));let z5:=Ad (List.drop (k*1) (Ab c));let z6:=(↑(k+1):Int);let z7:=(jj.length:Int);let z3:=List.getD c k z1;let z8:=List.getD jj k z1;Bn [decide (z0<z7)=true,An [z1<=z2,z2<(cs.length:Int)],z4=some (sl c),An [z1<=z0,z0<(c.length:Int)],z5=some (i6 z3),decide (z3<(-1:Int))=false,An [z1<=z2,z2<(cs.length:Int)],z4=some (sl c),An [z1<=z0,z0<(c.length:Int)],z5=some (i6 z3),An [z1<=z0,z0<z7],Ad (List.drop (k*1) (Ab jj))=some (i6 z8),decide (z3>=z8)=false,wr .i64 (z0+1)=z6,Bn [Zz,w=w,z2=z2,z6=z6],An [Sm [sl jj,gC cs],TT 2]])
 ·have : k = jj.length := by omega
  subst this
  have hg:Bd jj c=true:=by unfold Bd;rw[Qam.2 hj,decide_eq_true jy];rfl
  refine .inr ⟨.exit 4,[0],rwS jj cs w i,[no 72],1000,.inl ⟨hg,rfl,rfl⟩,?_⟩
  exact u_ (p:=let z0:=(jj.length:Int);Bn [decide (z0<z0)=false,Bn [Zz,w=w,Sm (i:Int)],An [Sm [sl jj,gC cs],TT 2]])
theorem rt_rows(jj:List Int)(cs:List (List Int))(w:Int)(h6:jj.length<=6)(h40:cs.length<=40):
  Sat Pg none 0 (at' 38 [1,1,1,1,0,1,0]) (Ah g0 102 (rwS jj cs w 0)) (Qaf g0 102 [(cs.all (Bd jj)=true,.exit 2,{sl:=[(3,i6 w)]}),(cs.all (Bd jj)=false,.ret,bR false)]):=by
 refine Qax vE_ok Af Qaa (b:=at' 38 [1,1,1,1,0,1,0,0]) k_ (fun k=>k<=cs.length/\(cs.take k).all (Bd jj)=true) (rwS jj cs w) (fun k=>cs.length-k) (fun k hk=>?_) 0 ⟨Nat.zero_le _,rfl⟩
 obtain⟨hk,hj⟩:=hk
 by_cases hlt:k<cs.length
 ·have hck : cs[k]? = some cs[k] := List.getElem?_eq_getElem hlt
  have kj:=List.getElem_mem hlt
  generalize cs[k]=c at*
  have hld:Ad ((cs.map sl).drop (k*1))=some (sl c):=Qbg hck
  have jw:Bd jj c=false->cs.all (Bd jj)=false:=fun h=>by
   cases ha:cs.all (Bd jj)with
   |false=>rfl
   |true=>
    rw[List.all_eq_true]at ha
    rw[ha c kj]at h;cases h
  have jv:Bd jj c=true->(cs.take (k+1)).all (Bd jj)=true:=fun h=>by
   rw[List.take_add_one,hck,List.all_append,hj];simp[h]
  by_cases h1:c.length=jj.length
  ·have km := rt_row jj cs w k c hlt hck h1 h6
   cases hok:Bd jj c with
   |true=>
    have hr:=km.mono (Qbj hok (by rw[hok];simp))
    refine .inl ⟨k+1,[0],[yes 55,pl 61,ld 62 (sl c),no 67,(0,.loop [0] (rvS jj cs w k 0) [(True,.exit 4,rwS jj cs w k)]),nu 57 (k+1:Nat)],1000,⟨hlt,jv hok⟩,by omega,?_⟩
    exact u_ (p:=let z0:=(k:Int);let z1:=[sl jj,gC cs];let z2:=(↑(k+1):Int);Bn [decide (z0<(cs.length:Int))=true,An [(0:Int)<=z0,z0<(cs.length:Int)],Ad (List.drop (k*1) (List.map sl cs))=some (sl c),((c.length:Int) != (jj.length:Int))=false,Bn [Bn [Zz,w=w,z0=z0,((0:Nat):Int)=(0:Int)],An [z1=z1,TT 2]],Sat Pg none 0 (at' 38 [1,1,1,1,0,1,0,0,1,0,0,1,1,0]) (Ah g0 102 (rvS jj cs w k 0)) (Qaf g0 102 [(True,Ex.exit 4,rwS jj cs w k)]),(True->Bn [wr .i64 (z0+1)=z2,Bn [Zz,w=w,z2=z2],An [z1=z1,TT 2]])])
   |false=>
    have hr:=km.mono (Qbk (by rw[hok];simp) hok)
    refine .inr ⟨.ret,[],bR false,[yes 55,pl 61,ld 62 (sl c),no 67,(0,.loop [0] (rvS jj cs w k 0) [(True,.ret,bR false)])],1000,.inr (.inl ⟨jw hok,rfl,rfl⟩),?_⟩
    exact u_ (p:=let z0:=(k:Int);Bn [decide (z0<(cs.length:Int))=true,An [(0:Int)<=z0,z0<(cs.length:Int)],Ad (List.drop (k*1) (List.map sl cs))=some (sl c),((c.length:Int) != (jj.length:Int))=false,Bn [Bn [Zz,w=w,z0=z0,((0:Nat):Int)=(0:Int)],An [Sm [sl jj,gC cs],TT 2]],Sat Pg none 0 (at' 38 [1,1,1,1,0,1,0,0,1,0,0,1,1,0]) (Ah g0 102 (rvS jj cs w k 0)) (Qaf g0 102 [(True,Ex.ret,bR false)]),(True->Bn [Bn [Sm false]])])
  ·have := jw (by unfold Bd; rw [decide_eq_false h1]; rfl)
   refine .inr ⟨.ret,[],bR false,[yes 55,pl 61,ld 62 (sl c),yes 67],1000,.inr (.inl ⟨this,rfl,rfl⟩),?_⟩
   exact u_ (p:=let z0:=(k:Int);Bn [decide (z0<(cs.length:Int))=true,An [(0:Int)<=z0,z0<(cs.length:Int)],Ad (List.drop (k*1) (List.map sl cs))=some (sl c),((c.length:Int) != (jj.length:Int))=true,Bn [Sm false]])
 ·have : k = cs.length := by omega
  subst this
  rw[List.take_length]at hj
  refine .inr ⟨.exit 2,[],{sl:=[(3,i6 w)]},[no 55],1000,.inl ⟨hj,rfl,rfl⟩,?_⟩
  exact u_ (p:=Bn [decide ((cs.length:Int)<(cs.length:Int))=false,Bn [w=w]])
theorem G3(jj:List Int)(cs:List (List Int))(hl1:jj.length<=1000)(hl2:cs.length<=1000):Ac Pg g0 38 [gV jj cs] (.bool (B5 jj cs)):=by
 have jf: ∀b1 b2 b3 b4 b5 b6:Bool,decide (1<=jj.length)=b1->decide (jj.length<=6)=b2->decide (cs.length<=40)=b3->Er jj=b4->decide (Ar jj jj.length<=1024)=b5->cs.all (Bd jj)=b6->B5 jj cs=(b1&&(b2&&(b3&&(b4&&(b5&&b6))))):=by
  intro b1 b2 b3 b4 b5 b6 h1 h2 h3 h4 h5 h6
  unfold B5
  rw[h1,h2,h3,h4,h5,h6]
 by_cases h1:1<=jj.length
 ·by_cases h2 : jj.length <= 6
  ·by_cases h3 : cs.length <= 40
   ·have hl := G0 jj cs h2
    cases h4:Er jj with
    |false=>
     rw[show B5 jj cs=false by rw[jf _ _ _ _ _ _ rfl rfl rfl h4 rfl rfl];simp]
     have hl':=hl.mono (Qbk (by rw[h4];simp) h4)
     refine Ac.of_vc vE_ok Af Qaa (n:=1000) (r:=[]) (S:=bR false) (hs:=[no 10,no 15,no 21,(0,.loop [0] (rtS jj cs 0) [(True,.ret,bR false)])]) ?_
     exact u_ (p:=let z0:=(jj.length:Int);Bn [Sm (V.bool false),decide (z0<1)=false,decide (z0>6)=false,decide ((cs.length:Int)>40)=false,Bn [Bn [Zz,Ar jj 0=(1:Int),((0:Nat):Int)=(0:Int)],An [Sm [sl jj,gC cs],TT 2]],Sat Pg none 0 (at' 38 [1,1,1,0,1,0]) (Ah g0 102 (rtS jj cs 0)) (Qaf g0 102 [(True,Ex.ret,bR false)]),(True->Bn [Bn [Sm false]])])
    | true =>
     have hl':=hl.mono (Qbj h4 (by rw[h4];simp))
     have hrr:=rt_rows jj cs (Ar jj jj.length) h2 h3
     cases h6:cs.all (Bd jj)with
     |false=>
      rw[show B5 jj cs=false by rw[jf _ _ _ _ _ _ rfl rfl rfl rfl rfl h6];simp]
      have hr:=hrr.mono (Qbk (by rw[h6];simp) h6)
      refine Ac.of_vc vE_ok Af Qaa (n:=1000) (r:=[]) (S:=bR false) (hs:=[no 10,no 15,no 21,(0,.loop [0] (rtS jj cs 0) [(True,.exit 0,rtX jj cs (Ar jj jj.length))]),(0,.loop [0] (rwS jj cs (Ar jj jj.length) 0) [(True,.ret,bR false)])]) ?_
      exact u_ (p:=let z0:=Ar jj jj.length;let z1:=[sl jj,gC cs];let z2:=(jj.length:Int);Bn [Sm (V.bool false),decide (z2<1)=false,decide (z2>6)=false,decide ((cs.length:Int)>40)=false,Bn [Bn [Zz,Ar jj 0=(1:Int),((0:Nat):Int)=(0:Int)],An [z1=z1,TT 2]],Sat Pg none 0 (at' 38 [1,1,1,0,1,0]) (Ah g0 102 (rtS jj cs 0)) (Qaf g0 102 [(True,Ex.exit 0,rtX jj cs z0)]),(True->Bn [Bn [Bn [Zz,z0=z0,((0:Nat):Int)=(0:Int)],An [z1=z1,TT 2]],Sat Pg none 0 (at' 38 [1,1,1,1,0,1,0]) (Ah g0 102 (rwS jj cs z0 0)) (Qaf g0 102 [(True,Ex.ret,bR false)]),(True->Bn [Bn [Sm false]])])])
     | true =>
      have hr:=hrr.mono (Qbj h6 (by rw[h6];simp))
      by_cases h5:Ar jj jj.length<=1024
      ·rw [show B5 jj cs = true by rw [jf _ _ _ _ _ _ (decide_eq_true h1) (decide_eq_true h2) (decide_eq_true h3) h4 (decide_eq_true h5) h6]; rfl]
       refine Ac.of_vc vE_ok Af Qaa (n:=1000) (r:=[]) (S:=bR true) (hs:=[no 10,no 15,no 21,(0,.loop [0] (rtS jj cs 0) [(True,.exit 0,rtX jj cs (Ar jj jj.length))]),(0,.loop [0] (rwS jj cs (Ar jj jj.length) 0) [(True,.exit 2,{sl:=[(3,i6 (Ar jj jj.length))]})]),yes 101]) ?_
       exact u_ (p:=let z0:=Ar jj jj.length;let z1:=[sl jj,gC cs];let z2:=(jj.length:Int);Bn [Sm (V.bool true),decide (z2<1)=false,decide (z2>6)=false,decide ((cs.length:Int)>40)=false,Bn [Bn [Zz,Ar jj 0=(1:Int),((0:Nat):Int)=(0:Int)],An [z1=z1,TT 2]],Sat Pg none 0 (at' 38 [1,1,1,0,1,0]) (Ah g0 102 (rtS jj cs 0)) (Qaf g0 102 [(True,Ex.exit 0,rtX jj cs z0)]),(True->Bn [Bn [Bn [Zz,z0=z0,((0:Nat):Int)=(0:Int)],An [z1=z1,TT 2]],Sat Pg none 0 (at' 38 [1,1,1,1,0,1,0]) (Ah g0 102 (rwS jj cs z0 0)) (Qaf g0 102 [(True,Ex.exit 2,SL.mk [(3,i6 z0)] [] [] [])]),(True->Bn [decide (z0<=1024)=true,Bn [Sm true]])])])
      ·rw [show B5 jj cs = false by rw [jf _ _ _ _ _ _ rfl rfl rfl rfl (decide_eq_false h5) rfl]; simp]
       refine Ac.of_vc vE_ok Af Qaa (n:=1000) (r:=[]) (S:=bR false) (hs:=[no 10,no 15,no 21,(0,.loop [0] (rtS jj cs 0) [(True,.exit 0,rtX jj cs (Ar jj jj.length))]),(0,.loop [0] (rwS jj cs (Ar jj jj.length) 0) [(True,.exit 2,{sl:=[(3,i6 (Ar jj jj.length))]})]),no 101]) ?_
       exact u_ (p:=let z0:=Ar jj jj.length;let z1:=[sl jj,gC cs];let z2:=(jj.length:Int);Bn [Sm (V.bool false),decide (z2<1)=false,decide (z2>6)=false,decide ((cs.length:Int)>40)=false,Bn [Bn [Zz,Ar jj 0=(1:Int),((0:Nat):Int)=(0:Int)],An [z1=z1,TT 2]],Sat Pg none 0 (at' 38 [1,1,1,0,1,0]) (Ah g0 102 (rtS jj cs 0)) (Qaf g0 102 [(True,Ex.exit 0,rtX jj cs z0)]),(True->Bn [Bn [Bn [Zz,z0=z0,((0:Nat):Int)=(0:Int)],An [z1=z1,TT 2]],Sat Pg none 0 (at' 38 [1,1,1,1,0,1,0]) (Ah g0 102 (rwS jj cs z0 0)) (Qaf g0 102 [(True,Ex.exit 2,SL.mk [(3,i6 z0)] [] [] [])]),(True->Bn [decide (z0<=1024)=false,Bn [Sm false]])])])
   ·rw [show B5 jj cs = false by rw [jf _ _ _ _ _ _ rfl rfl (decide_eq_false h3) rfl rfl rfl]; simp]
    refine Ac.of_vc vE_ok Af Qaa (n:=1000) (r:=[]) (S:=bR false) (hs:=[no 10,no 15,yes 21]) ?_
    exact u_ (p:=let z0:=(jj.length:Int);Bn [Sm (V.bool false),decide (z0<1)=false,decide (z0>6)=false,decide ((cs.length:Int)>40)=true,Bn [Sm false]])
  ·rw [show B5 jj cs = false by rw [jf _ _ _ _ _ _ rfl (decide_eq_false h2) rfl rfl rfl rfl]; simp]
   refine Ac.of_vc vE_ok Af Qaa (n:=1000) (r:=[]) (S:=bR false) (hs:=[no 10,yes 15]) ?_
   exact u_ (p:=let z0:=(jj.length:Int);Bn [Sm (V.bool false),decide (z0<1)=false,decide (z0>6)=true,Bn [Sm false]])
 ·rw [show B5 jj cs = false by rw [jf _ _ _ _ _ _ (decide_eq_false h1) rfl rfl rfl rfl rfl]; simp]
  refine Ac.of_vc vE_ok Af Qaa (n:=1000) (r:=[]) (S:=bR false) (hs:=[yes 10]) ?_
  exact u_ (p:=Bn [Sm (V.bool false),decide ((jj.length:Int)<1)=true,Bn [Sm false]])
theorem good_fn(jj:List Int)(cs:List (List Int))(hl1:jj.length<=1000)(hl2:cs.length<=1000)(hcl: ∀c∈cs,c.length<=1000):Ac Pg g0 20 [gV jj cs] (i6 (Bx jj cs)):=by
 have h1:=G3 jj cs hl1 hl2
 have h2:=Qte jj cs hl2 hcl
 unfold Bx
 cases hok:B5 jj cs with
 |false=>
  rw[hok]at h1
  refine Ac.of_vc vE_ok Af Qaa (n:=1000) (r:=[]) (S:=ckR 250) (hs:=[fn 4 (.bool false)]) ?_
  exact u_ (p:=Bn [i6 250=i6 (if false=true then if List.any cs Cf=true then(260:Int)else(0:Int)else(250:Int)),Bn [TT 2],Ac Pg g0 38 [V.agg [V.im jj.length (Ab jj),V.im cs.length (List.map sl cs)]] (V.bool false),Tt,Bn [Sm (250:Int)]])
 | true =>
  rw[hok]at h1
  cases hn:cs.any Cf with
  |false=>
   rw[hn]at h2
   refine Ac.of_vc vE_ok Af Qaa (n:=1000) (r:=[]) (S:=ckR 0) (hs:=[fn 4 (.bool true),fn 7 (.bool true)]) ?_
   exact u_ (p:=let z0:=[V.agg [V.im jj.length (Ab jj),V.im cs.length (List.map sl cs)]];Bn [i6 0=i6 (if true=true then if false=true then(260:Int)else(0:Int)else(250:Int)),Bn [TT 2],Ac Pg g0 38 z0 (V.bool true),Tt,Bn [TT 2],Ac Pg g0 39 z0 (V.bool true),Tt,Bn [Sm (0:Int)]])
  |true=>
   rw[hn]at h2
   refine Ac.of_vc vE_ok Af Qaa (n:=1000) (r:=[]) (S:=ckR 260) (hs:=[fn 4 (.bool true),fn 7 (.bool false)]) ?_
   exact u_ (p:=let z0:=[V.agg [V.im jj.length (Ab jj),V.im cs.length (List.map sl cs)]];Bn [i6 260=i6 (if true=true then if true=true then(260:Int)else(0:Int)else(250:Int)),Bn [TT 2],Ac Pg g0 38 z0 (V.bool true),Tt,Bn [TT 2],Ac Pg g0 39 z0 (V.bool false),Tt,Bn [Sm (260:Int)]])
abbrev w8(n:Int):V:=.int .u8 n
abbrev sl8(l:List Int):V:=.im l.length (l.map w8)
def u8s(l:List Int):Prop:=∀c∈l,0<=c/\c<=255
theorem head_8{l:List Int}{k:Nat}(h:k<l.length):Ad ((l.map w8).drop (k*1))=some (w8 (l.getD k 0)):=by
 rw[Nat.mul_one,<-List.map_drop,List.drop_eq_getElem_cons h,List.getD_eq_getElem?_getD,List.getElem?_eq_getElem h];rfl
theorem Qn1{l:List Int}{k:Nat}(h:k<l.length):l.getD k 0∈l:=by rw[List.getD_eq_getElem?_getD,List.getElem?_eq_getElem h];exact List.getElem_mem h
def five(f:Nat->Int):List V:=[w8 (f 0),w8 (f 1),w8 (f 2),w8 (f 3),w8 (f 4)]
def Qda:List (Nat->Int)->List V
 |[]=>[]
 |f::l=>five f++Qda l
abbrev kV(ks:List (Nat->Int)):V:=.im ks.length (Qda ks)
theorem Qkx: ∀(ks:List (Nat->Int))(i:Nat)(f:Nat->Int),ks[i]? =some f->∃jq,(Qda ks).drop (i*5)=five f++jq
 |[],i,f,h=>by simp at h
 |g::ks,0,f,h=>by
  obtain rfl:g=f:=by simpa using h
  exact⟨Qda ks,by simp[Qda]⟩
 |g::ks,i+1,f,h=>by
  obtain⟨jq,hr⟩:=Qkx ks i f (by simpa using h)
  refine⟨jq,?_⟩
  rw[Qda,Nat.add_mul,Nat.one_mul,Nat.add_comm,<-List.drop_drop,List.drop_left' (by rfl),hr]
theorem lt5{j:Nat}(h:j<5):j=0\/j=1\/j=2\/j=3\/j=4:=by omega
theorem Qrv(f:Nat->Int)(jq:List V){j:Nat}(h:j<5):Ad ((five f++jq).drop j)=some (w8 (f j)):=by
 rcases lt5 h with rfl|rfl|rfl|rfl|rfl<;>rfl
theorem place92{l:List V}{j:Nat}(h:j<5):Az (Qac Pg) 64 (.imp l) (j:Int)=some (.imp (l.drop j)):=by
 rcases lt5 h with rfl|rfl|rfl|rfl|rfl<;>kernel_rfl
structure KOk(ks:List (Nat->Int)):Prop where
 bd: ∀f∈ks,∀j,j<5->0<=f j/\f j<=255
abbrev dfL(C:List Int)(ks:List (Nat->Int))(fo:Int)(M:List Int):List V:=[sl8 C,kV ks,w8 fo,sl8 M]
abbrev dfV(C:List Int)(ks:List (Nat->Int))(fo:Int)(M:List Int):V:=.agg (dfL C ks fo M)
abbrev dfO(C:List Int)(ks:List (Nat->Int))(fo:Int)(M:List Int):O:=.row 25 none (dfL C ks fo M)
def Qc1(c:Int):Int:=2+c%2
theorem Qj0{C:List Int}{k:Nat}(h:k<C.length)(f:Int->Int):(C.take (k+1)).map f=(C.take k).map f++[f (C.getD k 0)]:=by
 rw[List.take_succ_eq_append_getElem h,List.map_append,List.getD_eq_getElem?_getD,List.getElem?_eq_getElem h];rfl
theorem Qn8(l:List Int)(x:Int):Ab (l++[x])=Ab l++[i6 x]:=by simp[Ab]
abbrev n2:O:=.row 31 none [.nils,.nils]
abbrev dcS(C:List Int)(ks:List (Nat->Int))(fo:Int)(M:List Int)(k:Nat):SL:={sl:=[(1,.ptr 0 0),(2,.ptr 1 0),(3,.ptr 2 0),(4,i6 k)],os:=dfO C ks fo M::n2:: .row 31 none [owV 3 k,.nils]::owL 3 (Ab ((C.take k).map Qc1)) k,md:=[0,0,1]}
abbrev dcX(C:List Int)(ks:List (Nat->Int))(fo:Int)(M:List Int)(k:Nat):SL:={sl:=[(1,.ptr 0 0),(2,.ptr 1 0),(3,.ptr 2 0)],os:=dfO C ks fo M::n2:: .row 31 none [owV 3 k,.nils]::owL 3 (Ab ((C.take k).map Qc1)) k,md:=[0,0,1]}
theorem dc_loop(C:List Int)(ks:List (Nat->Int))(fo:Int)(M:List Int)(hC:u8s C)(n:Nat)(hn:n=min C.length 5):
  Sat Pg none 0 (at' 6 [1,1,0,1,0]) (Ah g0 139 (dcS C ks fo M 0)) (Qaf g0 139 [(True,.exit 0,dcX C ks fo M n)]):=by
 refine Qax vE_ok Af Qaa (b:=at' 6 [1,1,0,1,0,0]) k_ (fun k=>k<=n) (dcS C ks fo M) (fun k=>n-k) (fun k hk=>?_) 0 (Nat.zero_le _)
 by_cases hlt:k<n
 ·have h1 : k < C.length := by omega
  have hc:=hC _ (Qn1 h1)
  have hld:=head_8 h1
  have e1:(C.getD k 0).tmod 2=C.getD k 0%2:=Int.tmod_eq_emod_of_nonneg hc.1
  have hts:=Qj0 h1 Qc1
  have e2:Qc1 (C.getD k 0)=2+C.getD k 0%2:=rfl
  have hil:=Qbr ((C.take k).map Qc1)
  have hll:((C.take k).map Qc1).length=k:=by rw[List.length_map,List.length_take];omega
  rw[e2]at hts
  have hap:=Qn8 ((C.take k).map Qc1) (2+C.getD k 0%2)
  rw[<-hts]at hap
  generalize C.getD k 0=c at*
  cases k with
  |zero=>
   refine .inl ⟨1,[0,1,2,4],[yes 15,yes 18,pl 27,ld 28 (w8 c),nu 29 (c%2),nu 30 (c%2),nu 31 (2+c%2),nu 21 1],1000,hlt,by omega,?_⟩
   refine m_ (p:=let z0:=((0:Nat):Int);let z1:=(2:Int);let z2:=Ab (List.map Qc1 (List.take 1 C));Bn [decide (z0<(C.length:Int))=true,decide (z0<5)=true,An [(0:Int)<=z0,z0<(C.length:Int)],Ad (List.drop (0*1) (List.map w8 C))=some (w8 c),Int.tmod c z1=c%z1,wr .i64 (c%z1)=c%z1,wr .i64 (z1+c%z1)=z1+c%z1,wr .i64 (z0+1)=(1:Int),Bn [Zz,Zz,Zz,((1:Nat):Int)=(1:Int)],An [Sm (dfL C ks fo M),TT 4],An [Sm [V.nils,V.nils],TT 2],Bn [Bn [Zz,1=1],Tt],An [z2=[i6 (z1+c%z1)],HfL z2]]) ?_
   (repeat'(first|(with_reducible apply And.intro)|(refine fun(_:True)=>?_)))<;>first|exact aq|skip
   all_goals first|rfl|exact hap|(rw[hap];rfl)
  |succ k=>
   refine .inl ⟨k+1+1,[0,1,2,5],[yes 15,yes 18,pl 27,ld 28 (w8 c),nu 29 (c%2),nu 30 (c%2),nu 31 (2+c%2),ap 33,nu 21 (k+1+1:Nat)],1000,hlt,by omega,?_⟩
   exact u_ (p:=let z0:=(↑(k+1):Int);let z1:=(2:Int);let z2:=Ab (List.map Qc1 (List.take (k+1+1) C));let z3:=Ab (List.map Qc1 (List.take (k+1) C));let z4:=(↑(k+1+1):Int);Bn [decide (z0<(C.length:Int))=true,decide (z0<5)=true,An [(0:Int)<=z0,z0<(C.length:Int)],Ad (List.drop ((k+1)*1) (List.map w8 C))=some (w8 c),Int.tmod c z1=c%z1,wr .i64 (c%z1)=c%z1,wr .i64 (z1+c%z1)=z1+c%z1,z3.length=(k+1)*1,k+1+1<=9223372036854775807,(k+1+1)*8<=140737488355328,wr .i64 (z0+1)=z4,Bn [Zz,Zz,Zz,z4=z4],An [Sm (dfL C ks fo M),TT 4],An [Sm [V.nils,V.nils],TT 2],Bn [Bn [Zz,Nat.succ k+1=k+1+1],Tt],An [z2=z3++[i6 (z1+c%z1)],HfL z2]])
 ·have : k = n := by omega
  subst this
  by_cases h5:k<C.length
  ·cases k with
   |zero=>omega
   |succ k=>
    refine .inr ⟨.exit 0,[0,1,2,3],dcX C ks fo M (k+1),[yes 15,no 18],1000,.inl ⟨trivial,rfl,rfl⟩,?_⟩
    exact u_ (p:=let z0:=Ab (List.map Qc1 (List.take (k+1) C));Bn [decide ((↑(k+1):Int)<(C.length:Int))=true,decide ((↑(k+1):Int)<5)=false,Bn [Zz,Zz,Zz],An [Sm (dfL C ks fo M),TT 4],An [Sm [V.nils,V.nils],TT 2],Bn [Bn [Zz,Sm (k+1)],Tt],An [z0=z0,HfL z0]])
  ·cases k with
   |zero=>
    refine .inr ⟨.exit 0,[0,1,2],dcX C ks fo M 0,[no 15],1000,.inl ⟨trivial,rfl,rfl⟩,?_⟩
    exact u_ (p:=Bn [decide (((0:Nat):Int)<(C.length:Int))=false,Bn [Zz,Zz,Zz],An [Sm (dfL C ks fo M),TT 4],An [Sm [V.nils,V.nils],TT 2],TT 2])
   |succ k=>
    refine .inr ⟨.exit 0,[0,1,2,3],dcX C ks fo M (k+1),[no 15],1000,.inl ⟨trivial,rfl,rfl⟩,?_⟩
    exact u_ (p:=let z0:=Ab (List.map Qc1 (List.take (k+1) C));Bn [decide ((↑(k+1):Int)<(C.length:Int))=false,Bn [Zz,Zz,Zz],An [Sm (dfL C ks fo M),TT 4],An [Sm [V.nils,V.nils],TT 2],Bn [Bn [Zz,Sm (k+1)],Tt],An [z0=z0,HfL z0]])
def Qjw(x fo prev card:Int)(j:Nat):Int:=(if 0<j/\x%8<fo%8 then prev else x)%card
def Du(f:Nat->Int)(fo:Int)(jj:List Int):Nat->List Int
 |0=>[]
 |j+1=>Du f fo jj j++[Qjw (f j) fo ((Du f fo jj j).getD (j-1) 0) (jj.getD j 0) j]
theorem Qce(f:Nat->Int)(fo:Int)(jj:List Int): ∀j,(Du f fo jj j).length=j
 |0=>rfl
 |j+1=>by rw[Du,List.length_append,Qce f fo jj j];rfl
structure CdOk(jj:List Int):Prop where
 pos:1<=jj.length
 five:jj.length<=5
 each: ∀k,k<jj.length->2<=jj.getD k 0/\jj.getD k 0<=3
theorem getD_app{l:List Int}{x:Int}{t:Nat}:(l++[x]).getD t 0=if t<l.length then l.getD t 0 else if t=l.length then x else 0:=by
 rw[List.getD_eq_getElem?_getD,List.getElem?_append]
 split
 ·rw[List.getD_eq_getElem?_getD]
 ·split
  ·rename_i h;subst h;simp
  ·rw[List.getElem?_eq_none (by simp;omega)];rfl
theorem Qtd{f:Nat->Int}{fo:Int}{jj:List Int}(hc:CdOk jj): ∀j,j<=jj.length->∀t,t<j->0<=(Du f fo jj j).getD t 0/\(Du f fo jj j).getD t 0<jj.getD t 0
 |0,_,t,h=>absurd h (Nat.not_lt_zero _)
 | j + 1, hj, t, h => by
  have h1:=hc.each j o_
  unfold Du
  rw[getD_app,Qce]
  by_cases ht:t<j
  ·rw[if_pos ht];exact Qtd hc j o_ t ht
  ·have : t = j := by omega
   subst this
   rw[if_neg ht,if_pos rfl]
   unfold Qjw
   exact⟨Int.emod_nonneg _ o_,Int.emod_lt_of_pos _ o_⟩
abbrev dbS(i:Nat):List (Nat×V):=[(1,.ptr 0 0),(2,.ptr 1 0),(3,.ptr 2 0),(5,i6 i)]
abbrev diS(i:Nat)(q:Nat×Nat):List (Nat×V):=[(1,.ptr 0 0),(2,.ptr 1 0),(3,.ptr 2 0),(5,i6 i),(6,owV q.2 q.1),(7,i6 q.1)]
abbrev diX(i n:Nat)(h:Nat):List (Nat×V):=[(1,.ptr 0 0),(2,.ptr 1 0),(3,.ptr 2 0),(5,i6 i),(6,.sl h 0 n none)]
structure Base(C:List Int)(ks:List (Nat->Int))(fo:Int)(M:List Int)(jj:List Int)(room:Option Nat)(sp:Option Nat)(lv:V)(H:T O)(nx:Nat):Prop where
 h0:gt H 0=some (dfO C ks fo M)
 h1:gt H 1=some n2
 h2:gt H 2=some (.row 31 none [.sl 3 0 jj.length room,lv])
 h3:gt H 3=some (.row 3 sp (Ab jj))
 nx:4<=nx
theorem Base.mono{C:List Int}{ks:List (Nat->Int)}{fo:Int}{M jj:List Int}{room sp:Option Nat}{lv:V}{H H':T O}{nx nx':Nat}(h:Base C ks fo M jj room sp lv H nx)(hg: ∀g,g<nx->gt H' g=gt H g)(hn:nx<=nx'):Base C ks fo M jj room sp lv H' nx':=by
 have:=h.nx
 exact⟨by rw[hg 0 o_];exact h.h0,by rw[hg 1 o_];exact h.h1,by rw[hg 2 o_];exact h.h2,by rw[hg 3 o_];exact h.h3,by omega⟩
def rowQ(H0:T O)(nx0:Nat)(c:List Int)(h:Nat)(H:T O)(nx:Nat)(_:List Nat):Prop:=(∀g,g<nx0->gt H g=gt H0 g)/\nx0<=h/\h<nx/\gt H h=some (.row 3 (some 1) (Ab c))
theorem Qeu{H:T O}{h:Nat}{t:Nat}{sp:Option Nat}{x:V}{room:Option Nat}(hg:gt H h=some (.row t sp [x])):A3 H 1 (.sl h 0 1 room)=some (1,[x]):=by
 rw[Qa0]at hg
 unfold A3
 dsimp only
 rw[hg]
 rfl
theorem di_loop(C:List Int)(ks:List (Nat->Int))(fo:Int)(M jj:List Int)(room sp:Option Nat)(lv:V)(i:Nat)(f:Nat->Int)(hf:ks[i]? =some f)(hK:KOk ks)(hfo:0<=fo/\fo<=255)(hc:CdOk jj)(H0:T O)(nx0:Nat)(lg0:List Nat)(hB:Base C ks fo M jj room sp lv H0 nx0):
  Sat Pg none 0 (at' 6 [1,1,1,1,0,1,0,0,1,0,0,1,0,1,0]) (A4 g0 139 (diS i (0,0)) H0 nx0 lg0) (Qcd g0 139 (.exit 4) (diX i jj.length) (rowQ H0 nx0 (Du f fo jj jj.length))):=by
 have h5:=hc.five
 have hi:i<ks.length:=(List.getElem?_eq_some_iff.1 hf).1
 obtain⟨jq,hrest⟩:=Qkx ks i f hf
 have key:=Qgw (c:=at' 6 [1,1,1,1,0,1,0,0,1,0,0,1,0,1,0]) (b:=at' 6 [1,1,1,1,0,1,0,0,1,0,0,1,0,1,0,0]) k_ (k:=139) (gl:=g0) (fun(q:Nat×Nat)(M':Mem)=>q.1<=jj.length/\nx0<=M'.nx/\(∀g,g<nx0->gt M'.H g=gt H0 g)/\(0<q.1->nx0<=q.2/\q.2<M'.nx/\gt M'.H q.2=some (.row 3 (some 1) (Ab (Du f fo jj q.1))))) (diS i) (fun q=>jj.length-q.1) (fun e sl M'=>e= .exit 4/\∃h,sl=diX i jj.length h/\rowQ H0 nx0 (Du f fo jj jj.length) h M'.H M'.nx M'.lg) (fun q H nx lg G hI hN hE _=>?_) (0,0) ⟨H0,nx0,lg0⟩ ⟨Nat.zero_le _,Nat.le_refl _,fun _ _=>rfl,fun h=>absurd h (Nat.lt_irrefl _)⟩
 ·refine key.mono ?_
  rintro e st ⟨sl,M',rfl,rfl,h,rfl,hQ⟩
  exact⟨h,M'.H,M'.nx,M'.lg,rfl,rfl,hQ⟩
 ·obtain ⟨j, hcr⟩ := q
  obtain⟨hj,hnx,hg,km⟩:=hI
  dsimp only at hj hnx hg km hN
  have hB':=hB.mono hg hnx
  obtain⟨b0,b1,b2,b3,b4⟩:=hB'
  by_cases hlt:j<jj.length
  ·have hx := hK.bd f (List.mem_of_getElem? hf) j o_
   have hcd:=hc.each j hlt
   have hp92:=@place92 ((Qda ks).drop (i*5)) j o_
   have hhd:Ad (((Qda ks).drop (i*5)).drop j)=some (w8 (f j)):=by rw[hrest];exact Qrv f jq o_
   have hldc:=@Qal jj j hlt
   have hnext:Du f fo jj (j+1)=Du f fo jj j++[Qjw (f j) fo ((Du f fo jj j).getD (j-1) 0) (jj.getD j 0) j]:=rfl
   have hrl:=Qce f fo jj j
   have hrb:=fun t ht=>@Qtd f fo jj hc j o_ t ht
   have hN1:=fun h' H nx lg h1 h2 h3 h4 h5=>hN (j+1,h') H nx lg ⟨by dsimp only;omega,h1,h2,fun _=>⟨h3,h4,h5⟩⟩ (by dsimp only;omega)
   dsimp only at hN1
   rw[hnext]at hN1
   clear hnext hN hE hrest
   generalize Du f fo jj j=c at*
   generalize hfx:f j=x at*
   generalize jj.getD j 0=cd at*
   have e1:x.tmod 8=x%8:=Int.tmod_eq_emod_of_nonneg hx.1
   have e2:fo.tmod 8=fo%8:=Int.tmod_eq_emod_of_nonneg hfo.1
   cases j with
   |zero=>
    have hc0:c=[]:=List.eq_nil_of_length_eq_zero hrl
    subst hc0
    have hst:Qjw x fo (([]:List Int).getD (0-1) 0) cd 0=x%cd:=by unfold Qjw;rw[if_neg o_]
    rw[hst]at hN1
    have e3:Ai (Qac Pg) .rem 3 (i6 x) (i6 cd)=some (i6 (x%cd)):=by rw[Db o_,Int.tmod_eq_emod_of_nonneg hx.1]
    refine⟨[lo_ 54 (.row 31 none [.sl 3 0 jj.length room,lv]) (.sl 3 0 jj.length room),yes 56,lo_ 60 (dfO C ks fo M) (kV ks),pl 63,va 64 (.imp (((Qda ks).drop (i*5)).drop 0)),ld 65 (w8 x),nu 66 x,lo_ 86 (.row 31 none [.sl 3 0 jj.length room,lv]) (.sl 3 0 jj.length room),pl 88,lo_ 89 (.row 3 sp (Ab jj)) (i6 cd),va 90 (i6 (x%cd)),(92,.an 1 [i6 (x%cd)]),nu 58 1,toO (diS i (1,nx+1))],1000,?_⟩
    refine m_ (p:=let z0:=V.sl 3 0 jj.length room;let z1:=((0:Nat):Int);let z2:=List.drop (i*5) (Qda ks);let z3:=i6 (x%cd);let z7:=(jj.length:Int);let z4:=pt H nx (O.row 3 none [z3]);let z5:=Ad (Aj (0+0) [z0,lv]);let z6:=some (O.row 31 none [z0,lv]);Bn [gt H 2=z6,z5=some z0,decide (z1<z7)=true,gt H 0=some (dfO C ks fo M),Ad (Aj 1 (dfL C ks fo M))=some (kV ks),An [(0:Int)<=(i:Int),(i:Int)<(ks.length:Int)],Az (Qac Pg) 64 (V.imp z2) z1=some (V.imp (List.drop 0 z2)),Ad (List.drop 0 z2)=some (w8 x),wr .i64 x=x,gt H 2=z6,z5=some z0,An [(0:Int)<=z1,z1<z7],gt H 3=some (O.row 3 sp (Ab jj)),Ad (Aj (0+0*1) (Ab jj))=some (i6 cd),Ai (Qac Pg) .rem 3 (i6 x) (i6 cd)=some z3,An [A3 z4 1 (V.sl nx 0 1 (some 0))=some (1,[z3]),1<=9223372036854775807,1*8<=140737488355328],wr .i64 (z1+1)=(1:Int),G Ex.normal (diS i (1,nx+1)) (pt z4 (nx+1) (O.row 3 (some 1) [z3])) (nx+1+1) ([]++lg),Sm (V.ptr 0 0),Sm (V.ptr 1 0),Sm (V.ptr 2 0),Sm (i6 i),V.sl (nx+1) 0 1 none=owV (nx+1) 1,i6 1=i6 ↑(1:Nat)]) ?_
    (repeat'(first|(with_reducible apply And.intro)|(refine fun(_:True)=>?_)))<;>first|exact aq|skip
    all_goals first|rfl|(rw[Qau,Nat.zero_add];exact hldc)|exact Qeu (t:=3) (sp:=none) ((Qad _ _ _ _).trans ((if_pos rfl).trans k_))|skip
    refine hN1 (nx+1) _ _ _ ?_ (fun g hg'=>?_) ?_ ?_ ?_
    ·omega
    ·rw[Qad,if_neg o_,Qad,if_neg o_];exact hg g hg'
    ·omega
    ·omega
    ·rw[Qad,if_pos rfl];rfl
   | succ j =>
    obtain⟨r1,r2,r3⟩:=km o_
    have hap:=Qn8 c
    have hil:=Qbr c
    have hjb:=hrb j o_
    have hldp:=@Qal c j o_
    have kb:j+1-1=j:=by omega
    rw[kb]at hN1
    by_cases hlt8:x%8<fo%8
    ·have hst : Qjw x fo (c.getD j 0) cd (j + 1) = c.getD j 0 % cd := by unfold Qjw; rw [if_pos ⟨by omega, hlt8⟩]
     rw[hst]at hN1
     generalize c.getD j 0=y at*
     have e3:Ai (Qac Pg) .rem 3 (i6 y) (i6 cd)=some (i6 (y%cd)):=by rw[Db o_,Int.tmod_eq_emod_of_nonneg hjb.1]
     have hap:=hap (y%cd)
     generalize y%cd=z at*
     refine⟨[lo_ 54 (.row 31 none [.sl 3 0 jj.length room,lv]) (.sl 3 0 jj.length room),yes 56,lo_ 60 (dfO C ks fo M) (kV ks),pl 63,va 64 (.imp (((Qda ks).drop (i*5)).drop (j+1))),ld 65 (w8 x),nu 66 x,yes 68,nu 71 (x%8),lo_ 73 (dfO C ks fo M) (w8 fo),nu 74 (fo%8),nu 75 (fo%8),yes 76,nu 80 j,pl 81,lo_ 82 (.row 3 (some 1) (Ab c)) (i6 y),lo_ 86 (.row 31 none [.sl 3 0 jj.length room,lv]) (.sl 3 0 jj.length room),pl 88,lo_ 89 (.row 3 sp (Ab jj)) (i6 cd),va 90 (i6 z),(92,.ao (.row 3 (some 1) (Ab c)) 1 [i6 z]),nu 58 (j+1+1:Nat),toO (diS i (j+1+1,nx+1))],1000,?_⟩
     refine m_ (p:=let z0:=V.sl 3 0 jj.length room;let z1:=(↑(j+1):Int);let z2:=pt H nx (O.row 3 none [i6 z]);let z3:=List.drop (i*5) (Qda ks);let z4:=(8:Int);let z5:=some (O.row 3 (some 1) (Ab c));let z9:=(jj.length:Int);let y0:=(0:Int);let y1:=(j:Int);let z6:=Ad (Aj (0+0) [z0,lv]);let z7:=some (O.row 31 none [z0,lv]);let z8:=List.drop (j+1) z3;Bn [gt H 2=z7,z6=some z0,decide (z1<z9)=true,gt H 0=some (dfO C ks fo M),Ad (Aj 1 (dfL C ks fo M))=some (kV ks),An [y0<=(i:Int),(i:Int)<(ks.length:Int)],Az (Qac Pg) 64 (V.imp z3) z1=some (V.imp z8),Ad z8=some (w8 x),wr .i64 x=x,decide (z1>y0)=true,Int.tmod x z4=x%z4,gt H 0=some (dfO C ks fo M),Ad (Aj (0+2) (dfL C ks fo M))=some (w8 fo),Int.tmod fo z4=fo%z4,wr .i64 (fo%z4)=fo%z4,decide (x%z4<fo%z4)=true,wr .i64 (z1-1)=y1,An [y0<=y1,y1<z1],gt H hcr=z5,Ad (Aj (0+j*1) (Ab c))=some (i6 y),gt H 2=z7,z6=some z0,An [y0<=z1,z1<z9],gt H 3=some (O.row 3 sp (Ab jj)),Ad (Aj (0+(j+1)*1) (Ab jj))=some (i6 cd),Ai (Qac Pg) .rem 3 (i6 y) (i6 cd)=some (i6 z),A3 z2 1 (V.sl nx 0 1 (some 0))=some (1,[i6 z]),gt z2 hcr=z5,List.length (Ab c)=(j+1)*1,j+1+1<=9223372036854775807,(j+1+1)*8<=140737488355328,wr .i64 (z1+1)=(↑(j+1+1):Int),G Ex.normal (diS i (j+1+1,nx+1)) (pt (pt z2 hcr O.dead) (nx+1) (O.row 3 (some 1) (Ab c++[i6 z]))) (nx+1+1) ([hcr]++lg),Sm (V.ptr 0 0),Sm (V.ptr 1 0),Sm (V.ptr 2 0),Sm (i6 i),V.sl (nx+1) 0 (j+1+1) none=owV (nx+1) (j+1+1),Sm (i6 ↑(j+1+1))]) ?_
     (repeat'(first|(with_reducible apply And.intro)|(refine fun(_:True)=>?_)))<;>first|exact aq|skip
     all_goals first|rfl|omega|(rw[Qau,Nat.zero_add];first|exact hldc|exact hldp)|exact Qeu (t:=3) (sp:=none) ((Qad _ _ _ _).trans ((if_pos rfl).trans k_))|((repeat(first|(rw[Qad,if_pos (by first|rfl|omega)])|(rw[Qad,if_neg o_])))<;>first|assumption|rfl)|skip
     refine hN1 (nx+1) _ _ _ ?_ (fun g hg'=>?_) ?_ ?_ ?_
     ·omega
     ·rw[Qad,if_neg o_,Qad,if_neg o_,Qad,if_neg o_];exact hg g hg'
     ·omega
     ·omega
     ·rw[Qad,if_pos rfl,hap]
    ·have hst : Qjw x fo (c.getD j 0) cd (j + 1) = x % cd := by unfold Qjw; rw [if_neg (fun h => hlt8 h.2)]
     rw[hst]at hN1
     have e3:Ai (Qac Pg) .rem 3 (i6 x) (i6 cd)=some (i6 (x%cd)):=by rw[Db o_,Int.tmod_eq_emod_of_nonneg hx.1]
     have hap:=hap (x%cd)
     generalize hz:x%cd=z at*
     refine⟨[lo_ 54 (.row 31 none [.sl 3 0 jj.length room,lv]) (.sl 3 0 jj.length room),yes 56,lo_ 60 (dfO C ks fo M) (kV ks),pl 63,va 64 (.imp (((Qda ks).drop (i*5)).drop (j+1))),ld 65 (w8 x),nu 66 x,yes 68,nu 71 (x%8),lo_ 73 (dfO C ks fo M) (w8 fo),nu 74 (fo%8),nu 75 (fo%8),no 76,lo_ 86 (.row 31 none [.sl 3 0 jj.length room,lv]) (.sl 3 0 jj.length room),pl 88,lo_ 89 (.row 3 sp (Ab jj)) (i6 cd),va 90 (i6 z),(92,.ao (.row 3 (some 1) (Ab c)) 1 [i6 z]),nu 58 (j+1+1:Nat),toO (diS i (j+1+1,nx+1))],1000,?_⟩
     refine m_ (p:=let z0:=V.sl 3 0 jj.length room;let z1:=(↑(j+1):Int);let z2:=pt H nx (O.row 3 none [i6 z]);let z3:=List.drop (i*5) (Qda ks);let z4:=(8:Int);let z8:=(jj.length:Int);let z5:=Ad (Aj (0+0) [z0,lv]);let z6:=some (O.row 31 none [z0,lv]);let z7:=List.drop (j+1) z3;Bn [gt H 2=z6,z5=some z0,decide (z1<z8)=true,gt H 0=some (dfO C ks fo M),Ad (Aj 1 (dfL C ks fo M))=some (kV ks),An [(0:Int)<=(i:Int),(i:Int)<(ks.length:Int)],Az (Qac Pg) 64 (V.imp z3) z1=some (V.imp z7),Ad z7=some (w8 x),wr .i64 x=x,decide (z1>0)=true,Int.tmod x z4=x%z4,gt H 0=some (dfO C ks fo M),Ad (Aj (0+2) (dfL C ks fo M))=some (w8 fo),Int.tmod fo z4=fo%z4,wr .i64 (fo%z4)=fo%z4,decide (x%z4<fo%z4)=false,gt H 2=z6,z5=some z0,An [(0:Int)<=z1,z1<z8],gt H 3=some (O.row 3 sp (Ab jj)),Ad (Aj (0+(j+1)*1) (Ab jj))=some (i6 cd),Ai (Qac Pg) .rem 3 (i6 x) (i6 cd)=some (i6 z),A3 z2 1 (V.sl nx 0 1 (some 0))=some (1,[i6 z]),gt z2 hcr=some (O.row 3 (some 1) (Ab c)),List.length (Ab c)=(j+1)*1,j+1+1<=9223372036854775807,(j+1+1)*8<=140737488355328,wr .i64 (z1+1)=(↑(j+1+1):Int),G Ex.normal (diS i (j+1+1,nx+1)) (pt (pt z2 hcr O.dead) (nx+1) (O.row 3 (some 1) (Ab c++[i6 z]))) (nx+1+1) ([hcr]++lg),Sm (V.ptr 0 0),Sm (V.ptr 1 0),Sm (V.ptr 2 0),Sm (i6 i),V.sl (nx+1) 0 (j+1+1) none=owV (nx+1) (j+1+1),Sm (i6 ↑(j+1+1))]) ?_
     (repeat'(first|(with_reducible apply And.intro)|(refine fun(_:True)=>?_)))<;>first|exact aq|skip
     all_goals first|rfl|omega|(rw[Qau,Nat.zero_add];first|exact hldc|exact hldp)|exact Qeu (t:=3) (sp:=none) ((Qad _ _ _ _).trans ((if_pos rfl).trans k_))|((repeat(first|(rw[Qad,if_pos (by first|rfl|omega)])|(rw[Qad,if_neg o_])))<;>first|assumption|rfl)|skip
     refine hN1 (nx+1) _ _ _ ?_ (fun g hg'=>?_) ?_ ?_ ?_
     ·omega
     ·rw[Qad,if_neg o_,Qad,if_neg o_,Qad,if_neg o_];exact hg g hg'
     ·omega
     ·omega
     ·rw[Qad,if_pos rfl,hap]
  ·have : j = jj.length := by omega
   subst this
   obtain⟨r1,r2,r3⟩:=km hc.pos
   have hX:=hE 4 (diX i jj.length hcr) H nx lg ⟨rfl,hcr,rfl,hg,r1,r2,r3⟩
   have jp:=hc.pos
   generalize Du f fo jj jj.length=c at*
   cases hn:jj.length with
   |zero=>omega
   |succ n=>
    rw[hn]at hX b2
    refine⟨[lo_ 54 (.row 31 none [.sl 3 0 (n+1) room,lv]) (.sl 3 0 (n+1) room),no 56,toO (diX i (n+1) hcr)],1000,?_⟩
    clear hn
    exact u_ (p:=let z0:=V.sl 3 0 (n+1) room;Bn [gt H 2=some (O.row 31 none [z0,lv]),Ad (Aj (0+0) [z0,lv])=some z0,decide ((↑(n+1):Int)<(↑(n+1):Int))=false,G (Ex.exit 4) (diX i (n+1) hcr) H nx lg,Sm (V.ptr 0 0),Sm (V.ptr 1 0),Sm (V.ptr 2 0),Sm (i6 i),owV hcr (n+1)=V.sl hcr 0 (n+1) none])
structure Rows(n lo:Nat)(jx:List (List Int))(hl:Nat)(hs:List Nat)(H:T O)(nx:Nat):Prop where
 len:hs.length=jx.length
 list:0<jx.length->lo<=hl/\hl<nx/\hl∉hs/\gt H hl=some (.row 28 (some 1) (hs.map fun h=>V.sl h 0 n none))
 nodup:hs.Nodup
 row: ∀(i h:Nat),hs[i]? =some h->lo<=h/\h<nx/\∃c,jx[i]? =some c/\c.length=n/\gt H h=some (.row 3 (some 1) (Ab c))
structure DH(C:List Int)(ks:List (Nat->Int))(fo:Int)(M jj:List Int)(room sp:Option Nat)(jx:List (List Int))(hl:Nat)(hs:List Nat)(H:T O)(nx:Nat):Prop where
 base:Base C ks fo M jj room sp (owV hl jx.length) H nx
 jx:Rows jj.length 4 jx hl hs H nx
theorem Qou{n lo:Nat}{jx:List (List Int)}{hl h:Nat}{hs:List Nat}{H H':T O}{nx nx' hl':Nat}{c:List Int}(hR:Rows n lo jx hl hs H nx)(hn:nx<=h/\h<hl'/\hl'<nx')(hlo:lo<=nx)(hc:c.length=n)(h1:gt H' h=some (.row 3 (some 1) (Ab c)))(h2:gt H' hl'=some (.row 28 (some 1) (hs.map (fun h=>V.sl h 0 n none)++[.sl h 0 n none])))(h3: ∀g∈hs,gt H' g=gt H g):Rows n lo (jx++[c]) hl' (hs++[h]) H' nx':=by
 have hlt: ∀g∈hs,g<nx:=fun g hg=>by
  obtain⟨i,hi,rfl⟩:=List.getElem_of_mem hg
  exact(hR.row i _ (List.getElem?_eq_getElem hi)).2.1
 refine⟨by simp[hR.len],fun _=>⟨by omega,by omega,?_,by rw[h2,List.map_append];rfl⟩,?_,fun i g hg=>?_⟩
 ·rw [List.mem_append, List.mem_singleton]
  rintro(hm|hm)
  ·have:=hlt _ hm;omega
  ·omega
 ·rw [List.nodup_append]
  refine⟨hR.nodup,by simp,fun a ha b hb=>?_⟩
  obtain rfl:=List.mem_singleton.1 hb
  have:=hlt a ha
  omega
 ·rw [List.getElem?_append] at hg
  split at hg
  ·rename_i hi
   obtain⟨a1,a2,d,a3,a4,a5⟩:=hR.row i g hg
   exact⟨a1,by omega,d,by rw[List.getElem?_append_left (by rw[<-hR.len];exact hi)];exact a3,a4,by rw[h3 g (List.mem_of_getElem? hg)];exact a5⟩
  ·rename_i hi
   have hi2:i=hs.length:=by
    have:=(List.getElem?_eq_some_iff.1 hg).1
    simp at this;omega
   subst hi2
   rw[Nat.sub_self]at hg
   cases hg
   exact⟨by omega,by omega,c,by rw[hR.len];simp,hc,h1⟩
abbrev Cm(ks:List (Nat->Int))(fo:Int)(jj:List Int)(m:Nat):List (List Int):=(ks.take m).map fun f=>Du f fo jj jj.length
theorem Qpg{ks:List (Nat->Int)}{fo:Int}{jj:List Int}{m:Nat}{f:Nat->Int}(h:ks[m]? =some f):Cm ks fo jj (m+1)=Cm ks fo jj m++[Du f fo jj jj.length]:=by
 unfold Cm
 rw[List.take_add_one,h,List.map_append];rfl
theorem dr_loop(C:List Int)(ks:List (Nat->Int))(fo:Int)(M jj:List Int)(room sp:Option Nat)(hK:KOk ks)(hfo:0<=fo/\fo<=255)(hc:CdOk jj)(m:Nat)(hm:m=min ks.length 40)(H0:T O)(nx0:Nat)(lg0:List Nat)(hB:Base C ks fo M jj room sp .nils H0 nx0):
  Sat Pg none 0 (at' 6 [1,1,1,1,0,1,0]) (A4 g0 139 (dbS 0) H0 nx0 lg0) (Qcd g0 139 (.exit 2) (fun _=>[(1,.ptr 0 0),(2,.ptr 1 0),(3,.ptr 2 0)]) (fun hl H nx lg=>∃hs,DH C ks fo M jj room sp (Cm ks fo jj m) hl hs H nx)):=by
 have key:=Qgw (c:=at' 6 [1,1,1,1,0,1,0]) (b:=at' 6 [1,1,1,1,0,1,0,0]) k_ (k:=139) (gl:=g0) (fun(q:Nat×Nat×List Nat)(M':Mem)=>q.1<=m/\DH C ks fo M jj room sp (Cm ks fo jj q.1) q.2.1 q.2.2 M'.H M'.nx) (fun q=>dbS q.1) (fun q=>m-q.1) (fun e sl M'=>e= .exit 2/\sl=[(1,.ptr 0 0),(2,.ptr 1 0),(3,.ptr 2 0)]/\∃hl hs,DH C ks fo M jj room sp (Cm ks fo jj m) hl hs M'.H M'.nx) (fun q H nx lg G hI hN hE _=>?_) (0,0,[]) ⟨H0,nx0,lg0⟩ ⟨Nat.zero_le _,hB,rfl,fun h=>absurd h (Nat.lt_irrefl _),List.nodup_nil,fun i h hi=>by simp at hi⟩
 ·refine key.mono ?_
  rintro e st ⟨sl,M',rfl,rfl,rfl,hl,hs,hQ⟩
  exact⟨hl,M'.H,M'.nx,M'.lg,rfl,rfl,hs,hQ⟩
 ·obtain ⟨i, hl, hs⟩ := q
  obtain⟨hi,hD⟩:=hI
  dsimp only at hi hD hN
  have hrl:(Cm ks fo jj i).length=i:=by simp only[Cm,List.length_map,List.length_take];omega
  obtain⟨hB',hR⟩:=hD
  rw[hrl]at hB'
  obtain⟨b0,b1,b2,b3,b4⟩:=hB'
  by_cases hlt:i<m
  ·have hki : ks[i]? = some ks[i] := List.getElem?_eq_getElem o_
   have hkl:i<ks.length:=by omega
   generalize ks[i]=f at*
   have hin:=di_loop C ks fo M jj room sp (owV hl i) i f hki hK hfo hc H nx lg ⟨b0,b1,b2,b3,b4⟩
   have hcl:=Qce f fo jj jj.length
   have hsucc:=@Qpg ks fo jj i f hki
   have hN1:=fun hl' h H nx lg h1=>hN (i+1,hl',hs++[h]) H nx lg ⟨by dsimp only;omega,h1⟩ (by dsimp only;omega)
   dsimp only at hN1
   rw[hsucc]at hN1
   have jp:=hc.pos
   generalize Du f fo jj jj.length=c at*
   generalize Cm ks fo jj i=jx at*
   have hrlen:(jx++[c]).length=i+1:=by simp[hrl]
   have hsl:hs.length=i:=by rw[hR.len,hrl]
   have hhs: ∀g∈hs,g<nx/\4<=g:=fun g hg=>by
    obtain⟨t,ht,rfl⟩:=List.getElem_of_mem hg
    have:=hR.row t _ (List.getElem?_eq_getElem ht)
    exact⟨this.2.1,this.1⟩
   have jd: ∀(h:Nat)(H1 H':T O)(nx' hl':Nat)(lg':List Nat),rowQ H nx c h H1 (hl'-1) []->gt H' 0=some (dfO C ks fo M)->gt H' 1=some n2->gt H' 2=some (.row 31 none [.sl 3 0 jj.length room,.sl hl' 0 (i+1) none])->gt H' 3=some (.row 3 sp (Ab jj))->hl'<nx'->gt H' hl'=some (.row 28 (some 1) (hs.map (fun h=>V.sl h 0 jj.length none)++[.sl h 0 jj.length none]))->(∀g,g<hl'-1->4<=g->g≠hl\/i=0->gt H' g=gt H1 g)->G .normal (dbS (i+1)) H' nx' lg':=by
    intro h H1 H' nx' hl' lg' hQ q0 q1 q2 q3 q4 q5 q6
    obtain⟨a1,a2,a3,a4⟩:=hQ
    refine hN1 hl' h H' nx' lg' ⟨⟨q0,q1,by rw[hrlen];exact q2,q3,by omega⟩,?_⟩
    have hne: ∀g∈hs,g≠hl\/i=0:=fun g hg=>by
     by_cases h0:i=0
     ·exact .inr h0
     ·refine .inl ?_
      rintro rfl
      exact(hR.list o_).2.2.1 hg
    refine Qou hR ⟨a2,by omega,q4⟩ b4 hcl ?_ q5 (fun g hg=>?_)
    ·rw [q6 h a3 o_ ?_]; exact a4
     by_cases h0:i=0
     ·exact .inr h0
     ·refine .inl ?_
      have:=(hR.list o_).2.1
      omega
    ·have h1 := hhs g hg
     rw[q6 g o_ h1.2 (hne g hg)];exact a1 g h1.1
   cases i with
   | zero =>
    refine⟨[lo_ 43 (dfO C ks fo M) (kV ks),yes 45,yes 48,(0,.loopM (diS 0 (0,0)) (.exit 4) (diX 0 jj.length) (rowQ H nx c) (fun h H' nx' lg'=>[lo_ 94 (.row 31 none [.sl 3 0 jj.length room,.nils]) .nils,(97,.an 1 [.sl h 0 jj.length none]),so (.row 31 none [.sl 3 0 jj.length room,.nils]) [.sl 3 0 jj.length room,.sl (nx'+1) 0 1 none],nu 51 1,toO (dbS 1)]))],1000,?_⟩
    refine m_ (p:=let z0:=V.sl 3 0 jj.length room;let z1:=((0:Nat):Int);let z3:=i6 ↑(0:Nat);let z4:=V.ptr 0 0;let z5:=V.ptr 1 0;let z6:=V.ptr 2 0;let z7:=[z0,V.nils];let z2:=some (O.row 31 none z7);An [gt H 0=some (dfO C ks fo M),Ad (Aj 1 (dfL C ks fo M))=some (kV ks),decide (z1<(ks.length:Int))=true,decide (z1<40)=true,Bn [z4=z4,z5=z5,z6=z6,z3=z3,V.nils=owV 0 0,i6 0=z3],Sat Pg none 0 (at' 6 [1,1,1,1,0,1,0,0,1,0,0,1,0,1,0]) (A4 g0 139 (diS 0 (0,0)) H nx lg) (Qcd g0 139 (Ex.exit 4) (diX 0 jj.length) (rowQ H nx c)),∀(h:Nat)(H_1:T O)(nx_1:Nat)(lg:List Nat),(∀(g:Nat),g<nx->gt H_1 g=gt H g)/\nx<=h/\h<nx_1/\gt H_1 h=some (O.row 3 (some 1) (Ab c))->Bn [gt H_1 2=z2,Ad (Aj 1 z7)=some V.nils,An [A3 (pt H_1 nx_1 (O.row 28 none [V.sl h 0 jj.length none])) 1 (V.sl nx_1 0 1 (some 0))=some (1,[V.sl h 0 jj.length none]),1<=9223372036854775807,1*24<=140737488355328],An [gt (pt (pt H_1 nx_1 (O.row 28 none [V.sl h 0 jj.length none])) (nx_1+1) (O.row 28 (some 1) [V.sl h 0 jj.length none])) 2=z2,Ax 1 z7 [V.sl (nx_1+1) 0 1 none]=some [z0,V.sl (nx_1+1) 0 1 none]],wr .i64 (z1+1)=(1:Int),G Ex.normal (dbS 1) (pt (pt (pt H_1 nx_1 (O.row 28 none [V.sl h 0 jj.length none])) (nx_1+1) (O.row 28 (some 1) [V.sl h 0 jj.length none])) 2 (O.row 31 none [z0,V.sl (nx_1+1) 0 1 none])) (nx_1+1+1) ([2]++([]++lg)),z4=z4,z5=z5,z6=z6,i6 1=i6 ↑(1:Nat)]]) ?_
    refine⟨?_,?_,?_,?_,?_,?_,?_⟩
    all_goals first|exact b0|rfl|(exact decide_eq_true o_)|exact⟨rfl,rfl,rfl,rfl,rfl,rfl,trivial⟩|exact hin|skip
    intro h H1 nx1 lg1 hQ
    obtain⟨a1,a2,a3,a4⟩:=hQ
    have g0':gt H1 0=some (dfO C ks fo M):=(a1 0 o_).trans b0
    have g1':gt H1 1=some n2:=(a1 1 o_).trans b1
    have g2':=(a1 2 o_).trans b2
    have g3':gt H1 3=some (.row 3 sp (Ab jj)):=(a1 3 o_).trans b3
    (repeat'(first|(with_reducible apply And.intro)|(refine fun(_:True)=>?_)))<;>first|exact aq|skip
    all_goals first|rfl|exact g2'|omega|exact Qeu (t:=28) (sp:=none) ((Qad _ _ _ _).trans ((if_pos rfl).trans k_))|((repeat(first|(rw[Qad,if_pos (by first|rfl|omega)])|(rw[Qad,if_neg o_])))<;>first|assumption|rfl)|(rw[List.length_map];omega)|skip
    refine jd h H1 _ _ (nx1+1) _ ⟨a1,a2,a3,a4⟩ ?_ ?_ ?_ ?_ ?_ ?_ ?_
    ·((repeat(first|(rw[Qad,if_pos (by first|rfl|omega)])|(rw[Qad,if_neg o_])))<;>first|assumption|rfl)
    ·((repeat(first|(rw[Qad,if_pos (by first|rfl|omega)])|(rw[Qad,if_neg o_])))<;>first|assumption|rfl)
    ·((repeat(first|(rw[Qad,if_pos (by first|rfl|omega)])|(rw[Qad,if_neg o_])))<;>first|assumption|rfl)
    ·((repeat(first|(rw[Qad,if_pos (by first|rfl|omega)])|(rw[Qad,if_neg o_])))<;>first|assumption|rfl)
    ·omega
    ·rw[Qad,if_neg o_,Qad,if_pos rfl,List.eq_nil_of_length_eq_zero hsl];rfl
    ·intro g hg1 hg2 hg3
     rw[Qad,if_neg o_,Qad,if_neg o_,Qad,if_neg o_]
   | succ i =>
    refine⟨[lo_ 43 (dfO C ks fo M) (kV ks),yes 45,yes 48,(0,.loopM (diS (i+1) (0,0)) (.exit 4) (diX (i+1) jj.length) (rowQ H nx c) (fun h H' nx' lg'=>[lo_ 94 (.row 31 none [.sl 3 0 jj.length room,.sl hl 0 (i+1) none]) (.sl hl 0 (i+1) none),(97,.ao (.row 28 (some 1) (hs.map fun h=>V.sl h 0 jj.length none)) 1 [.sl h 0 jj.length none]),so (.row 31 none [.sl 3 0 jj.length room,.sl hl 0 (i+1) none]) [.sl 3 0 jj.length room,.sl (nx'+1) 0 (i+1+1) none],nu 51 (i+1+1:Nat),toO (dbS (i+1+1))]))],1000,?_⟩
    refine m_ (p:=let z1:=V.sl 3 0 jj.length room;let z2:=(↑(i+1):Int);let z3:=V.sl hl 0 (i+1) none;let z4:=V.ptr 0 0;let z5:=V.ptr 1 0;let z6:=V.ptr 2 0;let z0:=[z1,z3];let z7:=some (O.row 31 none z0);An [gt H 0=some (dfO C ks fo M),Ad (Aj 1 (dfL C ks fo M))=some (kV ks),decide (z2<(ks.length:Int))=true,decide (z2<40)=true,Bn [z4=z4,z5=z5,z6=z6,Sm (i6 ↑(i+1)),V.nils=owV 0 0,i6 0=i6 ↑(0:Nat)],Sat Pg none 0 (at' 6 [1,1,1,1,0,1,0,0,1,0,0,1,0,1,0]) (A4 g0 139 (diS (i+1) (0,0)) H nx lg) (Qcd g0 139 (Ex.exit 4) (diX (i+1) jj.length) (rowQ H nx c)),∀(h:Nat)(H_1:T O)(nx_1:Nat)(lg:List Nat),(∀(g:Nat),g<nx->gt H_1 g=gt H g)/\nx<=h/\h<nx_1/\gt H_1 h=some (O.row 3 (some 1) (Ab c))->Bn [gt H_1 2=z7,Ad (Aj 1 z0)=some z3,A3 (pt H_1 nx_1 (O.row 28 none [V.sl h 0 jj.length none])) 1 (V.sl nx_1 0 1 (some 0))=some (1,[V.sl h 0 jj.length none]),gt (pt H_1 nx_1 (O.row 28 none [V.sl h 0 jj.length none])) hl=some (O.row 28 (some 1) (List.map (fun h=>V.sl h 0 jj.length none) hs)),List.length (List.map (fun h=>V.sl h 0 jj.length none) hs)=(i+1)*1,i+1+1<=9223372036854775807,(i+1+1)*24<=140737488355328,An [gt (pt (pt (pt H_1 nx_1 (O.row 28 none [V.sl h 0 jj.length none])) hl O.dead) (nx_1+1) (O.row 28 (some 1) (List.map (fun h=>V.sl h 0 jj.length none) hs++[V.sl h 0 jj.length none]))) 2=z7,Ax 1 z0 [V.sl (nx_1+1) 0 (i+1+1) none]=some [z1,V.sl (nx_1+1) 0 (i+1+1) none]],wr .i64 (z2+1)=(↑(i+1+1):Int),G Ex.normal (dbS (i+1+1)) (pt (pt (pt (pt H_1 nx_1 (O.row 28 none [V.sl h 0 jj.length none])) hl O.dead) (nx_1+1) (O.row 28 (some 1) (List.map (fun h=>V.sl h 0 jj.length none) hs++[V.sl h 0 jj.length none]))) 2 (O.row 31 none [z1,V.sl (nx_1+1) 0 (i+1+1) none])) (nx_1+1+1) ([2]++([hl]++lg)),z4=z4,z5=z5,z6=z6,Sm (i6 ↑(i+1+1))]]) ?_
    refine⟨?_,?_,?_,?_,?_,?_,?_⟩
    all_goals first|exact b0|rfl|(exact decide_eq_true o_)|exact⟨rfl,rfl,rfl,rfl,rfl,rfl,trivial⟩|exact hin|skip
    intro h H1 nx1 lg1 hQ
    obtain⟨a1,a2,a3,a4⟩:=hQ
    have g0':gt H1 0=some (dfO C ks fo M):=(a1 0 o_).trans b0
    have g1':gt H1 1=some n2:=(a1 1 o_).trans b1
    have g2':=(a1 2 o_).trans b2
    have g3':gt H1 3=some (.row 3 sp (Ab jj)):=(a1 3 o_).trans b3
    obtain⟨l1,l2,l3,l4⟩:=hR.list o_
    have gl':=(a1 hl l2).trans l4
    (repeat'(first|(with_reducible apply And.intro)|(refine fun(_:True)=>?_)))<;>first|exact aq|skip
    all_goals first|rfl|exact g2'|omega|exact Qeu (t:=28) (sp:=none) ((Qad _ _ _ _).trans ((if_pos rfl).trans k_))|((repeat(first|(rw[Qad,if_pos (by first|rfl|omega)])|(rw[Qad,if_neg o_])))<;>first|assumption|rfl)|(rw[List.length_map];omega)|skip
    refine jd h H1 _ _ (nx1+1) _ ⟨a1,a2,a3,a4⟩ ?_ ?_ ?_ ?_ ?_ ?_ ?_
    ·((repeat(first|(rw[Qad,if_pos (by first|rfl|omega)])|(rw[Qad,if_neg o_])))<;>first|assumption|rfl)
    ·((repeat(first|(rw[Qad,if_pos (by first|rfl|omega)])|(rw[Qad,if_neg o_])))<;>first|assumption|rfl)
    ·((repeat(first|(rw[Qad,if_pos (by first|rfl|omega)])|(rw[Qad,if_neg o_])))<;>first|assumption|rfl)
    ·((repeat(first|(rw[Qad,if_pos (by first|rfl|omega)])|(rw[Qad,if_neg o_])))<;>first|assumption|rfl)
    ·omega
    ·rw[Qad,if_neg o_,Qad,if_pos rfl]
    ·intro g hg1 hg2 hg3
     rw[Qad,if_neg o_,Qad,if_neg o_,Qad,if_neg o_,Qad,if_neg o_]
  ·have : i = m := by omega
   subst this
   by_cases h40:i<ks.length
   ·refine ⟨[lo_ 43 (dfO C ks fo M) (kV ks), yes 45, no 48, toO [(1, .ptr 0 0), (2, .ptr 1 0), (3, .ptr 2 0)]], 1000, ?_⟩
    have hx:=hE 2 _ H nx lg ⟨rfl,rfl,hl,hs,⟨⟨b0,b1,by rw[hrl];exact b2,b3,b4⟩,hR⟩⟩
    exact u_ (p:=Bn [gt H 0=some (dfO C ks fo M),Ad (Aj 1 (dfL C ks fo M))=some (kV ks),decide ((i:Int)<(ks.length:Int))=true,decide ((i:Int)<40)=false,G (Ex.exit 2) [(1,V.ptr 0 0),(2,V.ptr 1 0),(3,V.ptr 2 0)] H nx lg,Sm (V.ptr 0 0),Sm (V.ptr 1 0),Sm (V.ptr 2 0)])
   ·refine ⟨[lo_ 43 (dfO C ks fo M) (kV ks), no 45, toO [(1, .ptr 0 0), (2, .ptr 1 0), (3, .ptr 2 0)]], 1000, ?_⟩
    have hx:=hE 2 _ H nx lg ⟨rfl,rfl,hl,hs,⟨⟨b0,b1,by rw[hrl];exact b2,b3,b4⟩,hR⟩⟩
    exact u_ (p:=Bn [gt H 0=some (dfO C ks fo M),Ad (Aj 1 (dfL C ks fo M))=some (kV ks),decide ((i:Int)<(ks.length:Int))=false,G (Ex.exit 2) [(1,V.ptr 0 0),(2,V.ptr 1 0),(3,V.ptr 2 0)] H nx lg,Sm (V.ptr 0 0),Sm (V.ptr 1 0),Sm (V.ptr 2 0)])
def Qhp(n:Nat)(jx:List (List Int))(mm:Int):List (List Int):=jx.set (mm/5%jx.length).toNat ((jx.getD (mm/5%jx.length).toNat []).set (mm%n).toNat (-1))
def Qdn(n:Nat)(jx:List (List Int))(M:List Int):List (List Int):=M.foldl (Qhp n) jx
theorem Qpr(n:Nat)(jx:List (List Int))(M:List Int)(mm:Int):Qdn n jx (M++[mm])=Qhp n (Qdn n jx M) mm:=by simp[Qdn,List.foldl_append]
theorem Qdo(n:Nat): ∀(M:List Int)(jx:List (List Int)),(Qdn n jx M).length=jx.length
 |[],_=>rfl
 |m::M,jx=>by
  have:=Qdo n M (Qhp n jx m)
  unfold Qdn at this⊢
  rw[List.foldl_cons,this]
  simp[Qhp]
theorem Qgy(n:Nat): ∀(M:List Int),Qdn n [] M=[]
 |[]=>rfl
 |m::M=>by
  have:Qhp n [] m=[]:=by simp[Qhp]
  unfold Qdn
  rw[List.foldl_cons,this]
  exact Qgy n M
abbrev dmS(t:Nat):List (Nat×V):=[(1,.ptr 0 0),(2,.ptr 1 0),(3,.ptr 2 0),(9,i6 t)]
abbrev dmX:List (Nat×V):=[(2,.ptr 1 0),(3,.ptr 2 0)]
theorem Qdk{l:List Int}{j:Nat}{x:Int}(h:j<l.length):Ax (0+j*1) (Ab l) [i6 x]=some (Ab (l.set j x)):=Qoa h
theorem dm_loop(C:List Int)(ks:List (Nat->Int))(fo:Int)(M jj:List Int)(room sp:Option Nat)(hM:u8s M)(hML:M.length<=9223372036854775807)(hc:CdOk jj)(jx:List (List Int))(hl:Nat)(hs:List Nat)(H0:T O)(nx0:Nat)(lg0:List Nat)(hD:DH C ks fo M jj room sp jx hl hs H0 nx0)(h40:jx.length<=40):
  Sat Pg none 0 (at' 6 [1,1,1,1,1,0,1,0]) (A4 g0 139 (dmS 0) H0 nx0 lg0) (fun e st=>∃(sl:List (Nat×V))(M':Mem),st=A4 g0 139 sl M'.H M'.nx M'.lg/\e= .exit 6/\sl=dmX/\DH C ks fo M jj room sp (Qdn jj.length jx M) hl hs M'.H M'.nx):=by
 refine Qgw (b:=at' 6 [1,1,1,1,1,0,1,0,0]) k_ (fun(t:Nat)(M':Mem)=>t<=M.length/\DH C ks fo M jj room sp (Qdn jj.length jx (M.take t)) hl hs M'.H M'.nx) dmS (fun t=>M.length-t) (fun e sl M'=>e= .exit 6/\sl=dmX/\DH C ks fo M jj room sp (Qdn jj.length jx M) hl hs M'.H M'.nx) (fun t H nx lg G hI hN hE _=>?_) 0 ⟨H0,nx0,lg0⟩ ⟨Nat.zero_le _,hD⟩
 obtain⟨ht,hD'⟩:=hI
 dsimp only at hD'
 have hX:=hE 6 dmX H nx lg
 have jy:=Qdo jj.length (M.take t) jx
 obtain⟨hB,hR⟩:=hD'
 have hBB:=hB
 obtain⟨b0,b1,b2,b3,b4⟩:=hB
 have jp:=hc.pos
 have h5:=hc.five
 by_cases hlt:t<M.length
 ·have hmt : M[t]? = some (M.getD t 0) := by rw [List.getD_eq_getElem?_getD, List.getElem?_eq_getElem hlt]; rfl
  have hm8:=hM _ (Qn1 hlt)
  have hldm:=head_8 hlt
  have hnx:Qdn jj.length jx (M.take (t+1))=Qhp jj.length (Qdn jj.length jx (M.take t)) (M.getD t 0):=by
   rw[List.take_add_one,hmt,Option.toList_some,Qpr]
  have hN1:=fun H nx lg h=>hN (t+1) H nx lg ⟨by omega,h⟩ o_
  rw[hnx]at hN1
  dsimp only at hN1
  by_cases h0:jx.length=0
  ·have hr0 : jx = [] := List.eq_nil_of_length_eq_zero h0
   subst hr0
   rw[Qgy]at hBB hR
   rw[Qgy]at hX b2
   have hx:=hX ⟨rfl,rfl,hBB,hR⟩
   clear hX hN hN1 hE hnx jy hD hBB
   refine⟨[lo_ 101 (dfO C ks fo M) (sl8 M),yes 103,lo_ 106 (.row 31 none [.sl 3 0 jj.length room,.nils]) .nils,toO dmX],1000,?_⟩
   exact u_ (p:=let z0:=[V.sl 3 0 jj.length room,V.nils];Bn [gt H 0=some (dfO C ks fo M),Ad (Aj (0+3) (dfL C ks fo M))=some (sl8 M),decide ((t:Int)<(M.length:Int))=true,gt H 2=some (O.row 31 none z0),Ad (Aj 1 z0)=some V.nils,G (Ex.exit 6) dmX H nx lg,Sm (V.ptr 1 0),Sm (V.ptr 2 0)])
  ·generalize hrr : Qdn jj.length jx (M.take t) = rw_ at *
   generalize M.getD t 0=mm at*
   have hRl:0<rw_.length:=by omega
   have hR40:rw_.length<=40:=by omega
   unfold Qhp at hN1
   have hr1:0<=mm/5%(rw_.length:Int):=Int.emod_nonneg _ o_
   have hr2:mm/5%(rw_.length:Int)<rw_.length:=Int.emod_lt_of_pos _ o_
   have hc1:0<=mm%(jj.length:Int):=Int.emod_nonneg _ o_
   have hc2:mm%(jj.length:Int)<jj.length:=Int.emod_lt_of_pos _ o_
   have e0:mm.tdiv 5=mm/5:=Int.tdiv_eq_ediv_of_nonneg hm8.1
   have e1:Ai (Qac Pg) .rem 3 (i6 (mm/5)) (i6 rw_.length)=some (i6 (((mm/5%(rw_.length:Int)).toNat:Nat):Int)):=by
    rw[Db o_,Int.tmod_eq_emod_of_nonneg o_,Int.toNat_of_nonneg hr1]
   have e2:Ai (Qac Pg) .rem 3 (i6 mm) (i6 jj.length)=some (i6 (((mm%(jj.length:Int)).toNat:Nat):Int)):=by
    rw[Db o_,Int.tmod_eq_emod_of_nonneg hm8.1,Int.toNat_of_nonneg hc1]
   obtain⟨l1,l2,l3,l4⟩:=hR.list hRl
   have hrl:(mm/5%(rw_.length:Int)).toNat<rw_.length:=by omega
   have hcl:(mm%(jj.length:Int)).toNat<jj.length:=by omega
   generalize (mm/5%(rw_.length:Int)).toNat=ri at*
   generalize (mm%(jj.length:Int)).toNat=ci at*
   have hgi:hs[ri]? =some (hs.getD ri 0):=by rw[List.getD_eq_getElem?_getD,List.getElem?_eq_getElem (by rw[hR.len];exact hrl)];rfl
   obtain⟨r1,r2,c,r3,r4,r5⟩:=hR.row ri _ hgi
   have hgc:rw_.getD ri []=c:=by rw[List.getD_eq_getElem?_getD,r3];rfl
   rw[hgc]at hN1
   have hhead:Ad ((hs.map fun h=>V.sl h 0 jj.length none).drop (ri*1))=some (V.sl (hs.getD ri 0) 0 jj.length none):=Qbg hgi
   have hgm:=List.mem_of_getElem? hgi
   have hnod:=hR.nodup
   generalize hs.getD ri 0=g at*
   have hgne:g≠hl:=fun e=>l3 (e▸hgm)
   have hlay:=@Qdk c ci (-1) o_
   have jd: ∀lg',G .normal (dmS (t+1)) (pt H g (.row 3 (some 1) (Ab (c.set ci (-1))))) nx lg':=fun lg'=>by
    refine hN1 _ nx lg' ⟨⟨?_,?_,?_,?_,b4⟩,⟨by rw[List.length_set];exact hR.len,fun _=>⟨l1,l2,l3,?_⟩,hnod,fun i h hi=>?_⟩⟩
    ·((repeat(first|(rw[Qad,if_pos (by first|rfl|omega)])|(rw[Qad,if_neg o_])))<;>first|assumption|rfl)
    ·((repeat(first|(rw[Qad,if_pos (by first|rfl|omega)])|(rw[Qad,if_neg o_])))<;>first|assumption|rfl)
    ·rw[Qad,if_neg o_,List.length_set];exact b2
    ·((repeat(first|(rw[Qad,if_pos (by first|rfl|omega)])|(rw[Qad,if_neg o_])))<;>first|assumption|rfl)
    ·rw[Qad,if_neg (Ne.symm hgne)];exact l4
    ·obtain ⟨q1, q2, d, q3, q4, q5⟩ := hR.row i h hi
     by_cases hri:i=ri
     ·subst hri
      rw[hgi]at hi
      cases hi
      rw[r3]at q3
      cases q3
      exact⟨q1,q2,c.set ci (-1),by rw[List.getElem?_set_self o_],by simpa using r4,by rw[Qad,if_pos rfl]⟩
     ·have hne : h ≠ g := by
       rintro rfl
       have h1:=(List.getElem?_eq_some_iff.1 hi)
       have h2:=(List.getElem?_eq_some_iff.1 hgi)
       exact hri ((List.getElem_inj hnod).1 (h1.2.trans h2.2.symm))
      exact⟨q1,q2,d,by rw[List.getElem?_set_ne (Ne.symm hri)];exact q3,q4,by rw[Qad,if_neg hne];exact q5⟩
   have hb2:gt H 2=some (.row 31 none [.sl 3 0 jj.length room,.sl hl 0 rw_.length none]):=by
    rw[b2]
    cases hn:rw_.length with
    |zero=>omega
    |succ n=>rfl
   generalize hRR:rw_.length=R at*
   clear hX hN hN1 hE hnx jy hD hBB hR b2 hrr
   refine⟨[lo_ 101 (dfO C ks fo M) (sl8 M),yes 103,lo_ 106 (.row 31 none [.sl 3 0 jj.length room,.sl hl 0 R none]) (.sl hl 0 R none),yes 108,lo_ 113 (.row 31 none [.sl 3 0 jj.length room,.sl hl 0 R none]) (.sl hl 0 R none),lo_ 115 (dfO C ks fo M) (sl8 M),pl 117,ld 118 (w8 mm),nu 119 (mm/5),nu 120 (mm/5),lo_ 122 (.row 31 none [.sl 3 0 jj.length room,.sl hl 0 R none]) (.sl hl 0 R none),va 124 (i6 ri),pl 125,lo_ 126 (.row 28 (some 1) (hs.map fun h=>V.sl h 0 jj.length none)) (.sl g 0 jj.length none),lo_ 129 (dfO C ks fo M) (sl8 M),pl 131,ld 132 (w8 mm),nu 133 mm,va 136 (i6 ci),pl 137,so (.row 3 (some 1) (Ab c)) (Ab (c.set ci (-1))),nu 111 (t+1:Nat),toO (dmS (t+1))],1000,?_⟩
   refine m_ (p:=let z1:=Ad (Aj (0+3) (dfL C ks fo M));let z2:=(t:Int);let z3:=V.sl hl 0 R none;let z5:=Ad (List.drop (t*1) (List.map w8 M));let z6:=some (dfO C ks fo M);let z7:=(M.length:Int);let z8:=Ab (List.set c ci (-1:Int));let y0:=(0:Int);let y1:=(5:Int);let y2:=some (sl8 M);let z0:=[V.sl 3 0 jj.length room,z3];let z4:=some (O.row 31 none z0);let z9:=Ad (Aj 1 z0);Bn [gt H 0=z6,z1=y2,decide (z2<z7)=true,gt H 2=z4,z9=some z3,decide ((R:Int)>y0)=true,gt H 2=z4,z9=some z3,gt H 0=z6,z1=y2,An [y0<=z2,z2<z7],z5=some (w8 mm),wr .u8 (Int.tdiv mm y1)=mm/y1,wr .i64 (mm/y1)=mm/y1,gt H 2=z4,z9=some z3,Ai (Qac Pg) .rem 3 (i6 (mm/y1)) (i6 R)=some (i6 ri),An [y0<=(ri:Int),(ri:Int)<(R:Int)],gt H hl=some (O.row 28 (some 1) (List.map (fun h=>V.sl h 0 jj.length none) hs)),Ad (Aj (0+ri*1) (List.map (fun h=>V.sl h 0 jj.length none) hs))=some (V.sl g 0 jj.length none),gt H 0=z6,z1=y2,An [y0<=z2,z2<z7],z5=some (w8 mm),wr .i64 mm=mm,Ai (Qac Pg) .rem 3 (i6 mm) (i6 jj.length)=some (i6 ci),An [y0<=(ci:Int),(ci:Int)<(jj.length:Int)],An [gt H g=some (O.row 3 (some 1) (Ab c)),Ax (0+ci*1) (Ab c) [i6 (-1)]=some z8],wr .i64 (z2+1)=(↑(t+1):Int),G Ex.normal (dmS (t+1)) (pt H g (O.row 3 (some 1) z8)) nx ([g]++lg),Sm (V.ptr 0 0),Sm (V.ptr 1 0),Sm (V.ptr 2 0),Sm (i6 ↑(t+1))]) ?_
   (repeat'(first|(with_reducible apply And.intro)|(refine fun(_:True)=>?_)))<;>first|exact aq|skip
   all_goals first|rfl|exact jd _|exact hlay|omega|(rw[Qau,Nat.zero_add];exact hhead)|(rw[e0];exact Qei (by simp[lo];omega) (by simp[hi];omega))|exact wr6 o_ o_ |skip
 ·have : t = M.length := by omega
  subst this
  rw[List.take_length]at hBB hR
  have hx:=hX ⟨rfl,rfl,hBB,hR⟩
  clear hX hN hE jy hD hBB hR b2
  refine⟨[lo_ 101 (dfO C ks fo M) (sl8 M),no 103,toO dmX],1000,?_⟩
  exact u_ (p:=Bn [gt H 0=some (dfO C ks fo M),Ad (Aj (0+3) (dfL C ks fo M))=some (sl8 M),decide ((M.length:Int)<(M.length:Int))=false,G (Ex.exit 6) dmX H nx lg,Sm (V.ptr 1 0),Sm (V.ptr 2 0)])
abbrev dzS(jj:List Int)(jx:List (List Int)):SL:={sl:=[(2,.ptr 0 0),(3,.ptr 1 0)],os:=[n2,.row 31 none [sl jj,gC jx]]}
theorem dm_done (C : List Int) (ks : List (Nat -> Int)) (fo : Int) (M jj : List Int) (room sp : Option Nat) (hM : u8s M) (hML : M.length <= 9223372036854775807) (hc : CdOk jj) (jx : List (List Int)) (hl : Nat) (hs : List Nat) (H0 : T O) (nx0 : Nat) (lg0 : List Nat) (hD : DH C ks fo M jj room sp jx hl hs H0 nx0) (h40 : jx.length <= 40) :
  Sat Pg none 0 (at' 6 [1,1,1,1,1,0,1,0]) (A4 g0 139 (dmS 0) H0 nx0 lg0) (Qaf g0 139 [(True,.exit 6,dzS jj (Qdn jj.length jx M))]):=by
 refine Sat.gc_post ((dm_loop C ks fo M jj room sp hM hML hc jx hl hs H0 nx0 lg0 hD h40).mono ?_)
 rintro e st ⟨slots,M',rfl,rfl,rfl,hB,hR⟩
 generalize Qdn jj.length jx M=rw_ at*
 obtain⟨H,nx,lg⟩:=M'
 have h1:=hB.h1
 have h2:=hB.h2
 have h3:=hB.h3
 have h4:=hB.nx
 rw[Qa0]at h1 h2 h3
 refine⟨[1,2],Ah g0 139 (dzS jj rw_),⟨rfl,fun g hg=>?_,by decide,rfl,rfl,fun i x hx=>?_,fun h o ho hlive=>?_,fun h _ hlt=>absurd hlt (Nat.not_lt_zero _)⟩,.inl ⟨trivial,rfl,rfl⟩⟩
 ·refine ⟨Nat.zero_le _, ?_⟩
  show g<nx
  dsimp only at h4
  simp at hg;omega
 ·have c2 : gt (En (Qdg 139) dmX) 2 = some (.ptr 1 0) := by kernel_rfl
  have c3:gt (En (Qdg 139) dmX) 3=some (.ptr 2 0):=by kernel_rfl
  rw[Qa0]at c2 c3
  rcases Cr _ _ _ _ hx with kj|kj
  ·simp only [List.mem_cons, List.not_mem_nil, or_false] at kj
   rcases kj with h|h<;>cases h
   ·exact⟨_,c2,1,rfl,rfl⟩
   ·exact⟨_,c3,2,rfl,rfl⟩
  ·rw[Qbz]at kj;cases kj
 ·have hF : ∀ g, 3 <= g -> Fr 0 [1, 2] (A4 g0 139 dmX H nx lg).lg g := fun g hg => ⟨Nat.zero_le _, by simp; omega, fun _ _ => Nat.zero_le _⟩
  rcases Cs _ _ _ _ _ ho with⟨_,hm⟩|hm
  ·rw [Nat.sub_zero] at hm
   rcases h with _| _|h
   ·cases hm;exact⟨1,_,rfl,h1,_,rfl,Be.of_hf _ ⟨trivial,trivial,trivial⟩⟩
   ·cases hm
    refine⟨2,_,rfl,h2,_,rfl,_,_,rfl,.inr (.inr ⟨3,0,room,3,sp,Ab jj,rfl,hF 3 (Nat.le_refl _),h3,Ci.of_hf _ (Qag _)⟩),_,_,rfl,?_,rfl⟩
    cases hn:rw_ with
    |nil=>exact .inr (.inl ⟨rfl,rfl⟩)
    | cons c cs =>
     obtain⟨l1,l2,l3,l4⟩:=hR.list (by rw[hn];simp)
     rw[Qa0]at l4
     refine .inr (.inr ⟨hl,0,none,28,some 1,_,rfl,hF hl o_,l4,?_⟩)
     rw[<-hn,List.drop_zero]
     have key: ∀(rs:List (List Int))(gs:List Nat),gs.length=rs.length->(∀(i h:Nat),gs[i]? =some h->4<=h/\∃c,rs[i]? =some c/\c.length=jj.length/\H.get h=some (.row 3 (some 1) (Ab c)))->Ci H.get (Fr 0 [1,2] (A4 g0 139 dmX H nx lg).lg) (rs.map sl) (gs.map fun h=>V.sl h 0 jj.length none):=by
      intro rs
      induction rs with
      |nil=>intro gs _ _;trivial
      | cons r rs ih =>
       intro gs jy hgs
       cases gs with
       |nil=>simp at jy
       |cons g gs=>
        obtain⟨q1,c,q2,q3,q4⟩:=hgs 0 g rfl
        obtain rfl:r=c:=by simpa using q2
        refine⟨_,_,rfl,.inr (.inr ⟨g,0,none,3,some 1,Ab r,by rw[q3],hF g o_,q4,Ci.of_hf _ (Qag _)⟩),ih gs (by simpa using jy) (fun i h hi=>?_)⟩
        have:=hgs (i+1) h (by simpa using hi)
        simpa using this
     refine key rw_ hs hR.len (fun i h hi=>?_)
     obtain⟨q1,_,c,q3,q4,q5⟩:=hR.row i h hi
     rw[Qa0]at q5
     exact⟨q1,c,q3,q4,q5⟩
   ·simp at hm
  ·simp at hm
def A0(C:List Int):List Int:=if C=[]then[2]else(C.take 5).map Qc1
theorem Qki(C:List Int):CdOk (A0 C):=by
 unfold A0
 by_cases h:C=[]
 ·rw [if_pos h]
  refine⟨by simp,by simp,fun k hk=>?_⟩
  have:k=0:=by simp at hk;omega
  subst this;simp
 ·rw [if_neg h]
  have hl:1<=C.length:=Nat.pos_of_ne_zero (fun h0=>h (List.eq_nil_of_length_eq_zero h0))
  refine⟨by rw[List.length_map,List.length_take];omega,by rw[List.length_map,List.length_take];omega,fun k hk=>?_⟩
  rw[List.getD_eq_getElem?_getD,List.getElem?_eq_getElem hk,Option.getD_some,List.getElem_map]
  unfold Qc1;omega
def B9(C:List Int)(ks:List (Nat->Int))(fo:Int)(M:List Int):List (List Int):=Qdn (A0 C).length (Cm ks fo (A0 C) (min ks.length 40)) M
structure DrOk(C:List Int)(ks:List (Nat->Int))(fo:Int)(M:List Int):Prop where
 c8:u8s C
 k8:KOk ks
 f8:0<=fo/\fo<=255
 m8:u8s M
 mlen:M.length<=9223372036854775807
theorem draft_fn(C:List Int)(ks:List (Nat->Int))(fo:Int)(M:List Int)(h:DrOk C ks fo M):Ac Pg g0 6 [dfV C ks fo M] (gV (A0 C) (B9 C ks fo M)):=by
 obtain⟨n,hn⟩: ∃n,n=min C.length 5:=⟨_,rfl⟩
 have hl:=dc_loop C ks fo M h.c8 n hn
 have hcd:=Qki C
 have hdl:(Cm ks fo (A0 C) (min ks.length 40)).length<=40:=by simp only[Cm,List.length_map,List.length_take];omega
 have hB: ∀(H:T O)(nx:Nat)(room sp:Option Nat),gt H 0=some (dfO C ks fo M)->gt H 1=some n2->gt H 2=some (.row 31 none [.sl 3 0 (A0 C).length room,.nils])->gt H 3=some (.row 3 sp (Ab (A0 C)))->4<=nx->Base C ks fo M (A0 C) room sp .nils H nx:=fun H nx room sp h0 h1 h2 h3 h4=>⟨h0,h1,h2,h3,h4⟩
 have hrows:=fun H nx lg room sp(hb:Base C ks fo M (A0 C) room sp .nils H nx)=>dr_loop C ks fo M (A0 C) room sp h.k8 h.f8 hcd _ rfl H nx lg hb
 have hdone:=fun room sp hl hs H nx lg hD=>dm_done C ks fo M (A0 C) room sp h.m8 h.mlen hcd (Cm ks fo (A0 C) (min ks.length 40)) hl hs H nx lg hD hdl
 change∀room sp hl hs H nx lg,_->Sat Pg none 0 _ _ (Qaf g0 139 [(True,.exit 6,dzS (A0 C) (B9 C ks fo M))])at hdone
 generalize B9 C ks fo M=jx at*
 cases n with
 |zero=>
  have hC:C=[]:=List.eq_nil_of_length_eq_zero o_
  have hcs:A0 C=[2]:=by unfold A0;rw[if_pos hC]
  rw[hcs]at hB hrows hdone⊢
  clear hcd hdl hcs
  refine Ac.of_vc vE_ok Af Qaa (n:=1000) (r:=[0]) (S:={sl:=[(2,.ptr 0 0)],os:=[.row 31 none [sl [2],gC jx]]}) (hs:=[(0,.loop [0,1,2] (dcS C ks fo M 0) [(True,.exit 0,dcX C ks fo M 0)]),yes 38,(0,.loopM (dbS 0) (.exit 2) (fun _=>[(1,.ptr 0 0),(2,.ptr 1 0),(3,.ptr 2 0)]) (fun hl H nx lg=>∃hs,DH C ks fo M [2] (some 0) none (Cm ks fo [2] (min ks.length 40)) hl hs H nx) (fun hl H' nx' lg'=>[(0,.loopK (dmS 0) [(True,.exit 6,dzS [2] jx)])]))]) ?_
  refine Eq.mp (by kernel_rfl:(let z0:=[(2:Int)];let z3:=V.ptr 0 0;let z4:=V.ptr 1 0;let z5:=V.ptr 2 0;let z6:=(0:Nat);let z1:=Cm ks fo z0 (min ks.length 40);let z2:=[sl z0,gC jx];An [V.agg z2=gV z0 jx,An [An [Zz,Zz,Zz,(↑z6:Int)=(0:Int),Tt],An [dfL C ks fo M=[sl8 C,kV ks,w8 fo,sl8 M],TT 4],An [Sm [V.nils,V.nils],TT 2],TT 2,Tt],Sat Pg none 0 (at' 6 [1,1,0,1,0]) (Ah g0 139 (dcS C ks fo M 0)) (Qaf g0 139 [(True,Ex.exit 0,dcX C ks fo M 0)]),(True→((↑z6:Int)==(0:Int))=true∧(z3=z3∧z4=z4∧z5=z5∧i6 0=i6 ↑z6∧True)∧Sat Pg none 0 (at' 6 [1,1,1,1,0,1,0]) (A4 g0 139 (dbS 0) (pt (pt (Ae T.e 0 (dfO C ks fo M::n2::O.row 31 none [owV 3 0,V.nils]::owL 3 (Ab (List.map Qc1 [])) 0)) 3 (O.row 3 none [i6 2])) 2 (O.row 31 none [V.sl 3 0 1 (some 0),V.nils])) 4 ([2]++[])) (Qcd g0 139 (Ex.exit 2) (fun x=>[(1,z3),(2,z4),(3,z5)]) fun hl H nx lg=>∃hs,DH C ks fo M z0 (some 0) none z1 hl hs H nx)∧∀(h:Nat)(H:T O)(nx:Nat)(lg:List Nat),(∃hs,DH C ks fo M z0 (some 0) none z1 h hs H nx)→An [An [z3=z3,z4=z4,z5=z5,i6 0=i6 ↑z6,Tt],Sat Pg none 0 (at' 6 [1,1,1,1,1,0,1,0]) (A4 g0 139 (dmS 0) H nx lg) (Qaf g0 139 [(True,Ex.exit 6,dzS z0 jx)]),(True→An [An [Zz,Tt],An [z2=z2,TT 2],Tt]),Tt]),Tt])=_) ?_
  (repeat'(first|(with_reducible apply And.intro)|(refine fun(_:True)=>?_)))
  all_goals first|with_reducible rfl|exact trivial|assumption|rfl|exact hrows _ _ _ (some 0) none (hB _ _ (some 0) none (by kernel_rfl) (by kernel_rfl) (by kernel_rfl) (by kernel_rfl) (by decide))|skip
  intro hl_ H_ nx_ lg_ hQ
  obtain⟨hs_,hD_⟩:=hQ
  have hd_:=hdone _ _ hl_ hs_ H_ nx_ lg_ hD_
  exact a_
 | succ n =>
  have hcs:A0 C=(C.take (n+1)).map Qc1:=by
   unfold A0
   rw[if_neg (by rintro rfl;simp at hn)]
   congr 1
   by_cases h5:C.length<=5
   ·rw[List.take_of_length_le h5,List.take_of_length_le o_]
   ·rw[show n+1=5 by omega]
  have hLl:((C.take (n+1)).map Qc1).length=n+1:=by rw[List.length_map,List.length_take];omega
  rw[hcs]at hB hrows hdone⊢
  have hl2:Sat Pg none 0 (at' 6 [1,1,0,1,0]) (Ah g0 139 (dcS C ks fo M 0)) (Qaf g0 139 [(True,.exit 0,{sl:=[(1,.ptr 0 0),(2,.ptr 1 0),(3,.ptr 2 0)],os:=dfO C ks fo M::n2:: .row 31 none [owV 3 (n+1),.nils]::owL 3 (Ab ((C.take (n+1)).map Qc1)) (n+1),md:=[0,0,1]})]):=hl
  clear hcd hdl hcs hn hl
  generalize (C.take (n+1)).map Qc1=L at*
  refine Ac.of_vc vE_ok Af Qaa (n:=1000) (r:=[0]) (S:={sl:=[(2,.ptr 0 0)],os:=[.row 31 none [sl L,gC jx]]}) (hs:=[(0,.loop [0,1,2] (dcS C ks fo M 0) [(True,.exit 0,{sl:=[(1,.ptr 0 0),(2,.ptr 1 0),(3,.ptr 2 0)],os:=dfO C ks fo M::n2:: .row 31 none [owV 3 (n+1),.nils]::owL 3 (Ab L) (n+1),md:=[0,0,1]})]),no 38,(0,.loopM (dbS 0) (.exit 2) (fun _=>[(1,.ptr 0 0),(2,.ptr 1 0),(3,.ptr 2 0)]) (fun hl H nx lg=>∃hs,DH C ks fo M L none (some 1) (Cm ks fo L (min ks.length 40)) hl hs H nx) (fun hl H' nx' lg'=>[(0,.loopK (dmS 0) [(True,.exit 6,dzS L jx)])]))]) ?_
  refine Eq.mp (by kernel_rfl:(let z1:=O.row 31 none [owV 3 (n+1),V.nils];let z2:=Cm ks fo L (min ks.length 40);let z3:=V.ptr 0 0;let z4:=V.ptr 1 0;let z5:=V.ptr 2 0;let z6:=[sl L,gC jx];let z7:=owL 3 (Ab L) (n+1);let z0:=[(1,z3),(2,z4),(3,z5)];An [V.agg z6=gV L jx,An [An [Zz,Zz,Zz,(↑(0:Nat):Int)=(0:Int),Tt],An [dfL C ks fo M=[sl8 C,kV ks,w8 fo,sl8 M],TT 4],An [Sm [V.nils,V.nils],TT 2],TT 2,Tt],Sat Pg none 0 (at' 6 [1,1,0,1,0]) (Ah g0 139 (dcS C ks fo M 0)) (Qaf g0 139 [(True,Ex.exit 0,SL.mk z0 (dfO C ks fo M::n2::z1::z7) [] [0,0,1])]),(True→((↑(n+1):Int)==(0:Int))=false∧(z3=z3∧z4=z4∧z5=z5∧i6 0=i6 ↑(0:Nat)∧True)∧Sat Pg none 0 (at' 6 [1,1,1,1,0,1,0]) (A4 g0 139 (dbS 0) (Ae T.e 0 (dfO C ks fo M::n2::z1::z7)) 4 []) (Qcd g0 139 (Ex.exit 2) (fun x=>z0) fun hl H nx lg=>∃hs,DH C ks fo M L none (some 1) z2 hl hs H nx)∧∀(h:Nat)(H:T O)(nx:Nat)(lg:List Nat),(∃hs,DH C ks fo M L none (some 1) z2 h hs H nx)→An [An [z3=z3,z4=z4,z5=z5,i6 0=i6 ↑(0:Nat),Tt],Sat Pg none 0 (at' 6 [1,1,1,1,1,0,1,0]) (A4 g0 139 (dmS 0) H nx lg) (Qaf g0 139 [(True,Ex.exit 6,dzS L jx)]),(True→An [An [Zz,Tt],An [z6=z6,TT 2],Tt]),Tt]),Tt])=_) ?_
  (repeat'(first|(with_reducible apply And.intro)|(refine fun(_:True)=>?_)))
  all_goals first|with_reducible rfl|exact trivial|assumption|rfl|(refine Qan ?_;omega)|exact hrows _ _ _ none (some 1) (hB _ _ none (some 1) (by kernel_rfl) (by kernel_rfl) (by rw[hLl];kernel_rfl) (by kernel_rfl) (by decide))|skip
  intro hl_ H_ nx_ lg_ hQ
  obtain⟨hs_,hD_⟩:=hQ
  have hd_:=hdone _ _ hl_ hs_ H_ nx_ lg_ hD_
  exact a_
open Go.RowKit Go.ChangeShapes Go.WideShapes
theorem Qsq{w:World}{a:Addr}{v:Value}(h:w.cell? a=some v):a=⟨a.block,a.off,none⟩/\a.block<w.heap.size:=by
 unfold World.cell? at h
 split at h
 ·rename_i c e f hb
  refine⟨?_,(Array.getElem?_eq_some_iff.1 hb).1⟩
  cases a with
  |mk b o s=>
   cases s with
   |none=>rfl
   |some x=>simp at h
 ·cases h
theorem wf8{n:Int}(h:(Lit.int .u8 n).wf=true):0<=n/\n<=255:=by
 simp only[Lit.wf,Bool.and_eq_true,decide_eq_true_eq]at h
 exact h
section
variable {H:Type} {enc:TypeId×Value->H} {w:World}
theorem Qj2{t e:TypeId}{k:IntKind}{fuel:Nat}{cs:List Value}{x:DataW H×List MemPlace}(ht:Pg.underlying t=some (.slice e))(he:Pg.underlying e=some (.int k))(hc:Pg.cellsOf e=1)
  (h:DataW.trod enc Pg w 0 (fun _=>true) true fuel t cs=some x): ∃(v:Value)(L:List Int),cs=[v]/\RV (sg (Ee w)) w (.im L.length (L.map (V.int k))) v/\(∀n∈L,(Lit.int k n).wf=true)/\L.length<=9223372036854775807:=by
 rcases open_ints ht he hc h with⟨rfl,_⟩|⟨a,len,cap,zs,rfl,_,hl,hmx,hz,_,kn,hw⟩
 ·exact⟨_,[],rfl,⟨none,0,rfl,Nat.le_refl _,fun h=>absurd rfl h⟩,(fun _ h=>by cases h),Nat.zero_le _⟩
 ·have hz' : zs.length = cap := by simpa using hz
  have hmx':cap<=9223372036854775807:=hmx
  refine⟨_,zs.take len,rfl,⟨some a,cap,?_,by simp;omega,fun hn=>?_⟩,fun n hm=>hw n (List.mem_of_mem_take hm),by rw[List.length_take];omega⟩
  ·congr 1;simp;omega
  ·have h0 : 0 < zs.length := by
    have:(zs.take len).length≠0:=hn
    simp at this;omega
   obtain⟨h1,h2⟩:=Qsq (by have:=kn 0 h0;simpa [Addr.add]using this)
   refine⟨a.block,a.off,by rw[<-h1],?_⟩
   have key: ∀(l:List Int)(off:Nat),(∀(j:Nat)(h:j<l.length),w.cell? ⟨a.block,off+j,none⟩=some (.int k l[j]))->RC (sg (Ee w)) w (l.map (V.int k)) a.block off:=by
    intro l
    induction l with
    |nil=>intro _ _;trivial
    | cons y l ih =>
     intro off hh
     exact⟨⟨h2,_,hh 0 (by simp),rfl⟩,ih (off+1) fun j hj=>by
      have:=hh (j+1) (by simpa using hj)
      rw[show off+1+j=off+(j+1)by omega]
      exact this⟩
   refine key _ _ fun j hj=>?_
   have hj':j<zs.length:=by simp at hj;omega
   have:=kn j hj'
   rw[h1,Qa3]at this
   rw[this]
   simp[List.getD,List.getElem?_eq_getElem hj']
theorem Qfj{t:TypeId}{k:IntKind}{fuel:Nat}{cs:List Value}{x:DataW H×List MemPlace}(ht:Pg.underlying t=some (.int k))(h:DataW.trod enc Pg w 0 (fun _=>true) true fuel t cs=some x): ∃n,cs=[.int k n]/\(Lit.int k n).wf=true:=by
 cases fuel with
 |zero=>simp[DataW.trod]at h
 |succ m=>
  obtain⟨n,rfl,_,hw⟩:=DataW.trod_int ht h
  exact⟨n,rfl,hw⟩
theorem Qt3{fuel:Nat}{cs:List Value}{x:DataW H×List MemPlace}(h:DataW.trod enc Pg w 0 (fun _=>true) true fuel 23 cs=some x): ∃(v:Value)(ks:List (Nat->Int)),cs=[v]/\RV (sg (Ee w)) w (kV ks) v/\KOk ks:=by
 have h5:Pg.cellsOf 64=5:=by kernel_rfl
 rcases DataW.trod_slice Tryd.underlying23 h with⟨rfl,_⟩|⟨a,len,cap,elems,jq,n,_,rfl,_,_,hl,_,jy,hel,_,_⟩
 ·exact⟨_,[],rfl,⟨none,0,rfl,Nat.le_refl _,fun h=>absurd rfl h⟩,⟨fun f hf=>by cases hf⟩⟩
 ·rw [h5] at hel
  have each: ∀i:Nat,∃ns:List Int,i<len->(ns.length=5/\(∀m∈ns,(Lit.int .u8 m).wf=true)/\∀j,j<5->w.cell? ((a.add (i*5)).add j)=some (.int .u8 (ns.getD j 0))):=by
   intro i
   by_cases hi:i<len
   ·have h1 := hel i hi
    rw[List.getElem?_eq_getElem o_]at h1
    obtain⟨cs',hcs,hy⟩:=Option.bind_eq_some_iff.1 h1
    obtain⟨ns,e1,e2,_,e4⟩:=Qfl Tryd.underlying64 Tryd.underlying5 k_ k_ hy
    refine⟨ns,fun _=>⟨e1,e4,fun j hj=>?_⟩⟩
    have:=(World.cells?_some hcs).2.2 j hj
    rw[e2,List.getElem?_map,List.getElem?_eq_getElem o_]at this
    rw[this,List.getD_eq_getElem?_getD,List.getElem?_eq_getElem o_]
    rfl
   ·exact⟨[],fun h=>absurd h hi⟩
  obtain⟨f,hf⟩:=Classical.axiomOfChoice each
  refine⟨_,(List.range len).map fun i j=>(f i).getD j 0,rfl,?_,⟨fun g hg j hj=>?_⟩⟩
  ·refine ⟨some a, cap, by simp, by simpa using hl, fun hn => ?_⟩
   have h0:0<len:=by
    have:((List.range len).map fun i j=>(f i).getD j 0).length≠0:=hn
    simp at this;omega
   obtain⟨h1,h2⟩:=Qsq (by have:=(hf 0 h0).2.2 0 o_;simpa [Addr.add]using this)
   refine⟨a.block,a.off,by rw[<-h1],?_⟩
   have key: ∀(l:List (Nat->Int))(off:Nat),(∀(i:Nat)(g:Nat->Int),l[i]? =some g->∀j,j<5->w.cell? ⟨a.block,off+(i*5+j),none⟩=some (.int .u8 (g j)))->RC (sg (Ee w)) w (Qda l) a.block off:=by
    intro l
    induction l with
    |nil=>intro _ _;trivial
    | cons y l ih =>
     intro off hh
     have q:=fun j hj=>hh 0 y rfl j hj
     refine⟨⟨h2,_,q 0 o_,rfl⟩,⟨h2,_,?_,rfl⟩,⟨h2,_,?_,rfl⟩,⟨h2,_,?_,rfl⟩,⟨h2,_,?_,rfl⟩,ih (off+1+1+1+1+1) fun i g hi j hj=>?_⟩
     ·exact q 1 o_
     ·exact q 2 o_
     ·exact q 3 o_
     ·exact q 4 o_
     ·have := hh (i + 1) g (by simpa using hi) j hj
      rw[show off+1+1+1+1+1+(i*5+j)=off+((i+1)*5+j)by omega]
      exact this
   refine key _ _ fun i g hi j hj=>?_
   rw[List.getElem?_map]at hi
   have hlt:i<len:=by
    rcases Nat.lt_or_ge i len with h'|h'
    ·exact h'
    ·rw[List.getElem?_eq_none (by simpa using h')]at hi;cases hi
   rw[List.getElem?_range hlt]at hi
   cases hi
   have:=(hf i hlt).2.2 j hj
   rw[h1,Qa3,Qa3,Nat.add_assoc]at this
   exact this
  ·obtain ⟨i, hi, rfl⟩ := List.mem_map.1 hg
   have hlt:=List.mem_range.1 hi
   obtain⟨e1,e2,_⟩:=hf i hlt
   dsimp only
   rw[List.getD_eq_getElem?_getD,List.getElem?_eq_getElem o_]
   exact wf8 (e2 _ (List.getElem_mem _))
theorem Qqp{v:Value}{d:DataW H}{p:List MemPlace}(hv: ∃cs,v= .agg cs/\cs.size=Pg.cellsOf 25)(h:DataW.Trod enc Pg w 0 (fun _=>true) true 25 v d p):
  ∃(C:List Int)(ks:List (Nat->Int))(fo:Int)(M:List Int),RV (sg (Ee w)) w (dfV C ks fo M) v/\DrOk C ks fo M:=by
 obtain⟨arr,rfl,hsz⟩:=hv
 obtain⟨fuel,hf⟩:=h
 obtain⟨xs,n,_,_,hl,jy,hfd⟩:=DataW.trod_struct Tryd.underlying25 hf
 have hc26:Pg.cellsOf 25=4:=by kernel_rfl
 rw[hc26]at hl
 have xf:(Value.agg arr).cells.toList=arr.toList:=rfl
 rw[xf]at hl hfd
 obtain⟨c0,c1,c2,c3,kg⟩: ∃c0 c1 c2 c3,arr.toList=[c0,c1,c2,c3]:=by
  match arr.toList,hl with
  |[c0,c1,c2,c3],_=>exact⟨c0,c1,c2,c3,rfl⟩
 have hlen':xs.length=4:=jy
 obtain⟨y0,y1,y2,y3,rfl⟩: ∃y0 y1 y2 y3,xs=[y0,y1,y2,y3]:=by
  match xs,hlen' with
  |[y0,y1,y2,y3],_=>exact⟨y0,y1,y2,y3,rfl⟩
 have h1c: ∀t,t=22\/t=23\/t=5->Pg.cellsOf t=1:=by
  rintro t (rfl|rfl|rfl)<;>kernel_rfl
 have f0:DataW.trod enc Pg w 0 (fun _=>true) true n 22 (List.take (Pg.cellsOf 22) (List.drop 0 arr.toList))=some y0:=hfd 0 _ rfl
 have f1:DataW.trod enc Pg w 0 (fun _=>true) true n 23 (List.take (Pg.cellsOf 23) (List.drop 1 arr.toList))=some y1:=hfd 1 _ rfl
 have f2:DataW.trod enc Pg w 0 (fun _=>true) true n 5 (List.take (Pg.cellsOf 5) (List.drop 2 arr.toList))=some y2:=hfd 2 _ rfl
 have f3:DataW.trod enc Pg w 0 (fun _=>true) true n 22 (List.take (Pg.cellsOf 22) (List.drop 3 arr.toList))=some y3:=hfd 3 _ rfl
 rw[kg]at f0 f1 f2 f3
 rw[h1c 22 (.inl rfl)]at f0 f3
 rw[h1c 23 (.inr (.inl rfl))]at f1
 rw[h1c 5 (.inr (.inr rfl))]at f2
 obtain⟨v0,C,e0,r0,w0,_⟩:=Qj2 Tryd.underlying22 Tryd.underlying5 k_ (x:=y0) f0
 obtain⟨v1,ks,e1,r1,w1⟩:=Qt3 (x:=y1) f1
 obtain⟨k2,e2,w2⟩:=Qfj Tryd.underlying5 (x:=y2) f2
 obtain⟨v3,M,e3,r3,w3,l3⟩:=Qj2 Tryd.underlying22 Tryd.underlying5 k_ (x:=y3) f3
 simp at e0 e1 e2 e3
 subst e0 e1 e2 e3
 refine⟨C,ks,k2,M,⟨arr,rfl,?_⟩,⟨fun c hc=>wf8 (w0 c hc),w1,wf8 w2,fun c hc=>wf8 (w3 c hc),l3⟩⟩
 rw[kg]
 exact⟨_,_,rfl,r0,_,_,rfl,r1,_,_,rfl,rfl,_,_,rfl,r3,rfl⟩
end
set_option maxHeartbeats 1000000
set_option maxRecDepth 100000
noncomputable def kFinO(gl:T (List V))(n:Nat)(r:List Nat)(sl:List (Nat×V))(S:SL):KF:=fun e _ st=>match e with
 | .exit _=>False
 | _=>bif Nat.beq st.tm.n n then Ce st.tm sl/\Gc 0 r (A4 gl n sl st.H st.nx st.lg) (Ah gl n S)else False
noncomputable def vcFiO(P:Program)(E:Env)(sp:Qdc)(gl:T (List V))(n:Nat)(ars:List V)(hs:Hs)(r:List Nat)(sl:List (Nat×V))(S:SL)(v:V):Option FI->Prop
 |some fi=>bif Nat.ble ars.length fi.ntmps&&hfB v then retP v (Ff E.G (Ah gl fi.ntmps S).tm (Ah gl fi.ntmps S).H fi.res)/\vc P E sp none 0 n fi.body hs ⟨⟨Qef (Qdg fi.ntmps) 0 ars,gl,fi.ntmps⟩,.e,0,[]⟩ (kFinO gl fi.ntmps r sl S)else False
 |none=>False
noncomputable def vcFnX(P:Program)(E:Env)(sp:Qdc)(gl:T (List V))(n f:Nat)(ars:List V)(hs:Hs)(r:List Nat)(sl:List (Nat×V))(S:SL)(v:V):Prop:=vcFiO P E sp gl n ars hs r sl S v (E.code f)
theorem Ac.of_vcX{gl:T (List V)}{n f:Nat}{ars:List V}{hs:Hs}{r:List Nat}{sl:List (Nat×V)}{S:SL}{v:V}(h:vcFnX Pg vE sp0 gl n f ars hs r sl S v):Ac Pg gl f ars v:=by
 unfold vcFnX vcFiO at h
 split at h
 ·rename_i fi hfi
  obtain⟨hb,kp,hv⟩:=Qak h
  rw[Bool.and_eq_true]at hb
  have hret':Ff vE.G (Ah gl fi.ntmps S).tm (Ah gl fi.ntmps S).H fi.res=some v:=by
   unfold retP at kp
   split at kp
   ·rename_i u e;rw[e,kp]
   ·exact kp.elim
  rw[Qcv]at hv
  refine Aa.fnC vE_ok hfi (by rw[List.append_nil];exact hb.1) (Log.refl _ _ _) (R:=fun e st=>(e= .normal\/e= .ret)/\st=Ah gl fi.ntmps S) ?_ ?_
  ·rw [List.append_nil]
   refine Sat.gc_post (Sat.fewer_post (Sat.of_vc vE_ok Af Qaa rfl hv fun e hs' st' hg hk=>?_))
   unfold kFinO at hk
   have fin:(bif Nat.beq st'.tm.n fi.ntmps then Ce st'.tm sl/\Gc 0 r (A4 gl fi.ntmps sl st'.H st'.nx st'.lg) (Ah gl fi.ntmps S)else False)->Ce st'.tm sl/\Gc 0 r (A4 st'.tm.gl st'.tm.n sl st'.H st'.nx st'.lg) (Ah gl fi.ntmps S):=by
    intro hk
    obtain⟨hb,hk1,hk2⟩:=Qak hk
    exact⟨hk1,by rw[hg,Nat.eq_of_beq_eq_true hb];exact hk2⟩
   cases e with
   |exit=>exact hk.elim
   |normal=>obtain⟨h1,h2⟩:=fin hk;exact⟨sl,h1,r,_,h2,.inl rfl,rfl⟩
   |ret=>obtain⟨h1,h2⟩:=fin hk;exact⟨sl,h1,r,_,h2,.inr rfl,rfl⟩
  ·rintro e st ⟨he, rfl⟩
   refine⟨he,v,hret',fun s w ee w' hH hn⟨u,s',h1,g1,g2,g3,_,_⟩=>?_⟩
   subst h1
   obtain⟨s'',q1,q2,q3,q4⟩:=Qge hH g1 (Qk0.1 v hb.2) g3 (fun h _=>hn h (Nat.zero_le _)) (fun b hb=>g2.old b (.inl hb))
   exact⟨u,s'',rfl,q1,q2,q3,fun i=>by rw[q4];exact Cg s _ i,Nat.le_refl _⟩
 ·exact h.elim
theorem Qm8(C:List Int)(ks:List (Nat->Int))(fo:Int)(M:List Int)(h:DrOk C ks fo M):Ac Pg g0 5 [dfV C ks fo M] (gV (A0 C) (B9 C ks fo [])):=by
 have hd:=draft_fn C ks fo [] ⟨h.c8,h.k8,h.f8,fun c hc=>(by cases hc),by simp⟩
 generalize A0 C=jj at*
 generalize B9 C ks fo []=jx at*
 refine Ac.of_vc vE_ok Af Qaa (n:=1000) (r:=[1]) (S:={sl:=[(2,.ptr 0 0)],os:=[.row 31 none [sl jj,gC jx]]}) (hs:=[fn 5 (gV jj jx)]) ?_
 exact v_ (p:=let z0:=[sl jj,gC jx];Bn [V.agg z0=gV jj jx,Bn [TT 4],Ac Pg g0 6 [V.agg [V.im C.length (List.map w8 C),V.im ks.length (Qda ks),w8 fo,V.im 0 []]] (gV jj jx),Tt,Bn [Zz],An [z0=z0,TT 2]])
def Qa4(n:Nat)(jx:List (List Int)):Prop:=∀c∈jx,c.length=n
theorem Qq5(ks:List (Nat->Int))(fo:Int)(jj:List Int)(m:Nat):Qa4 jj.length (Cm ks fo jj m):=by
 intro c hc
 obtain⟨f,_,rfl⟩:=List.mem_map.1 hc
 exact Qce f fo jj _
theorem Qoc{n:Nat}: ∀(M:List Int)(jx:List (List Int)),Qa4 n jx->Qa4 n (Qdn n jx M)
 |[],_,h=>h
 | m :: M, jx, h => by
  have h1:Qa4 n (Qhp n jx m):=by
   intro c hc
   unfold Qhp at hc
   by_cases hr:jx=[]
   ·subst hr;simp at hc
   ·have hp : 0 < jx.length := Nat.pos_of_ne_zero (fun h0 => hr (List.eq_nil_of_length_eq_zero h0))
    have h2:=Int.emod_lt_of_pos (m/5) (show(0:Int)<jx.length by omega)
    have h3:=Int.emod_nonneg (m/5) (show(jx.length:Int)≠0 by omega)
    rcases List.mem_or_eq_of_mem_set hc with hc|rfl
    ·exact h c hc
    ·rw [List.length_set, List.getD_eq_getElem?_getD, List.getElem?_eq_getElem o_]
     exact h _ (List.getElem_mem o_)
  exact Qoc M _ h1
theorem Qq3(C:List Int)(ks:List (Nat->Int))(fo:Int)(M:List Int):Qa4 (A0 C).length (B9 C ks fo M)/\(B9 C ks fo M).length<=40:=by
 refine⟨Qoc M _ (Qq5 ks fo _ _),?_⟩
 unfold B9
 rw[Qdo]
 simp only[Cm,List.length_map,List.length_take];omega
abbrev bdL(b a N:Int):List V:=[w8 b,w8 a,i6 N]
abbrev bdO(b a N:Int):O:=.row 27 none (bdL b a N)
abbrev beV(b a N:Int):V:=.agg (bdL b a N)
theorem Qcj{H:T O}{l:List Int}:A3 H 1 (sl l)=some (l.length,Ab l):=by
 unfold A3
 have h:Nat.ble (l.length*1) (Ab l).length=true:=Nat.ble_eq_true_of_le (by rw[Qbr];omega)
 simp only[h,cond_true]
 rw[Nat.mul_one,List.take_of_length_le (by rw[Qbr];omega)]
theorem Qa2{H:T O}{h:Nat}{t:Nat}{sp:Option Nat}{room:Option Nat}(hg:gt H h=some (.row t sp [])):A3 H 1 (.sl h 0 0 room)=some (0,[]):=by
 rw[Qa0]at hg
 unfold A3
 dsimp only
 rw[hg]
 rfl
structure BBase(b a N:Int)(jj:List Int)(cs:List (List Int))(lv:V)(H:T O)(nx:Nat):Prop where
 h0:gt H 0=some (bdO b a N)
 h1:gt H 1=some (gO jj cs)
 h2:gt H 2=some n2
 h4:gt H 4=some (.row 3 (some 1) (Ab jj))
 h5:gt H 5=some (.row 31 none [.sl 4 0 jj.length none,lv])
 nx:6<=nx
structure BH(b a N:Int)(jj:List Int)(cs jx:List (List Int))(hl:Nat)(hs:List Nat)(H:T O)(nx:Nat):Prop where
 base:BBase b a N jj cs (owV hl jx.length) H nx
 jx:Rows jj.length 6 jx hl hs H nx
abbrev bcS(i:Nat):List (Nat×V):=[(2,.ptr 0 0),(3,.ptr 1 0),(4,.ptr 2 0),(5,.ptr 5 0),(6,i6 i)]
abbrev bcX:List (Nat×V):=[(2,.ptr 0 0),(4,.ptr 2 0),(5,.ptr 5 0)]
theorem Qb3(b a N:Int)(jj:List Int)(cs:List (List Int))(h1:1<=jj.length)(h6:jj.length<=1000)(jy:Qa4 jj.length cs)(h40:cs.length<=1000)(H0:T O)(nx0:Nat)(lg0:List Nat)(hB:BBase b a N jj cs .nils H0 nx0):
  Sat Pg none 0 (at' 7 [1,1,0,1,0]) (A4 g0 138 (bcS 0) H0 nx0 lg0) (Qcd g0 138 (.exit 0) (fun _=>bcX) (fun hl H nx lg=>∃hs,BH b a N jj cs cs hl hs H nx)):=by
 have key:=Qgw (c:=at' 7 [1,1,0,1,0]) (b:=at' 7 [1,1,0,1,0,0]) k_ (k:=138) (gl:=g0) (fun(q:Nat×Nat×List Nat)(M':Mem)=>q.1<=cs.length/\BH b a N jj cs (cs.take q.1) q.2.1 q.2.2 M'.H M'.nx) (fun q=>bcS q.1) (fun q=>cs.length-q.1) (fun e sl M'=>e= .exit 0/\sl=bcX/\∃hl hs,BH b a N jj cs cs hl hs M'.H M'.nx) (fun q H nx lg G hI hN hE _=>?_) (0,0,[]) ⟨H0,nx0,lg0⟩ ⟨Nat.zero_le _,hB,rfl,fun h=>absurd h (Nat.lt_irrefl _),List.nodup_nil,fun i h hi=>by simp at hi⟩
 ·refine key.mono ?_
  rintro e st ⟨sl,M',rfl,rfl,rfl,hl,hs,hQ⟩
  exact⟨hl,M'.H,M'.nx,M'.lg,rfl,rfl,hs,hQ⟩
 ·obtain ⟨i, hl, hs⟩ := q
  obtain⟨hi,hD⟩:=hI
  dsimp only at hi hD hN
  have hrl:(cs.take i).length=i:=by rw[List.length_take];omega
  obtain⟨hB',hR⟩:=hD
  rw[hrl]at hB'
  obtain⟨b0,b1,b2,b4,b5,b6⟩:=hB'
  by_cases hlt:i<cs.length
  ·have hci : cs[i]? = some cs[i] := List.getElem?_eq_getElem hlt
   have hcl:=jy _ (List.getElem_mem hlt)
   have hsucc:cs.take (i+1)=cs.take i++[cs[i]]:=by rw[List.take_add_one,hci];rfl
   have hN1:=fun hl' h H nx lg h1=>hN (i+1,hl',hs++[h]) H nx lg ⟨by dsimp only;omega,h1⟩ (by dsimp only;omega)
   dsimp only at hN1
   rw[hsucc]at hN1
   generalize cs[i]=c at*
   have hld:Ad ((cs.map sl).drop (i*1))=some (sl c):=Qbg hci
   have jn:=fun H=>@Qcj H c
   rw[hcl]at jn
   generalize cs.take i=jx at*
   have hrlen:(jx++[c]).length=i+1:=by simp[hrl]
   have hsl:hs.length=i:=by rw[hR.len,hrl]
   have hhs: ∀g∈hs,g<nx/\6<=g:=fun g hg=>by
    obtain⟨t,ht,rfl⟩:=List.getElem_of_mem hg
    have:=hR.row t _ (List.getElem?_eq_getElem ht)
    exact⟨this.2.1,this.1⟩
   have jd: ∀(H':T O)(lg':List Nat),gt H' 0=some (bdO b a N)->gt H' 1=some (gO jj cs)->gt H' 2=some n2->gt H' 4=some (.row 3 (some 1) (Ab jj))->gt H' 5=some (.row 31 none [.sl 4 0 jj.length none,.sl (nx+3) 0 (i+1) none])->gt H' (nx+3)=some (.row 28 (some 1) (hs.map (fun h=>V.sl h 0 jj.length none)++[.sl (nx+1) 0 jj.length none]))->gt H' (nx+1)=some (.row 3 (some 1) (Ab c))->(∀g,g<nx->6<=g->g≠hl\/i=0->gt H' g=gt H g)->G .normal (bcS (i+1)) H' (nx+4) lg':=by
    intro H' lg' q0 q1 q2 q4 q5 q6 q7 q8
    refine hN1 (nx+3) (nx+1) H' (nx+4) lg' ⟨⟨q0,q1,q2,q4,by rw[hrlen];exact q5,by omega⟩,?_⟩
    refine Qou hR ⟨by omega,by omega,by omega⟩ b6 hcl q7 q6 (fun g hg=>?_)
    have h1:=hhs g hg
    refine q8 g h1.1 h1.2 ?_
    by_cases h0:i=0
    ·exact .inr h0
    ·refine .inl ?_
     rintro rfl
     exact(hR.list o_).2.2.1 hg
   clear hN hE hN1 hsucc
   cases i with
   | zero =>
    refine⟨[lo_ 16 (gO jj cs) (gC cs),yes 18,lo_ 25 (gO jj cs) (gC cs),pl 27,ld 28 (sl c),(29,.cp jj.length (Ab c)),lo_ 22 (.row 31 none [.sl 4 0 jj.length none,.nils]) .nils,(31,.an 1 [.sl (nx+1) 0 jj.length none]),so (.row 31 none [.sl 4 0 jj.length none,.nils]) [.sl 4 0 jj.length none,.sl (nx+1+1+1) 0 1 none],nu 20 1,toO (bcS 1)],1000,?_⟩
    refine Eq.mp (by kernel_rfl:(let z0:=[V.sl (nx+1) 0 jj.length none];let z1:=V.sl 4 0 jj.length none;let z2:=O.row 3 (some 1) (Ab c);let z3:=V.sl (nx+1+1+1) 0 1 none;let z4:=(↑(0:Nat):Int);let z6:=Ad (Aj 1 [sl jj,gC cs]);let z5:=O.row 28 none z0;let z8:=O.row 28 (some 1) z0;let z9:=[z1,V.nils];let z7:=some (O.row 31 none z9);An [gt H 1=some (gO jj cs),z6=some (gC cs),decide (z4<(↑cs.length:Int))=true,gt (pt H nx (O.row 3 none [])) 1=some (gO jj cs),z6=some (gC cs),An [(0:Int)≤z4,z4<(↑cs.length:Int)],Ad (List.drop (0*1) (List.map sl cs))=some (sl c),An [A3 (pt H nx (O.row 3 none [])) 1 (sl c)=some (jj.length,Ab c),A3 (pt H nx (O.row 3 none [])) 1 (V.sl nx 0 0 (some 0))=some (0,[]),1≤jj.length,jj.length≤9223372036854775807,jj.length*8≤140737488355328],gt (pt (pt H nx (O.row 3 none [])) (nx+1) z2) 5=z7,Ad (Aj 1 z9)=some V.nils,An [A3 (pt (pt (pt H nx (O.row 3 none [])) (nx+1) z2) (nx+1+1) z5) 1 (V.sl (nx+1+1) 0 1 (some 0))=some (1,z0),1≤9223372036854775807,1*24≤140737488355328],An [gt (pt (pt (pt (pt H nx (O.row 3 none [])) (nx+1) z2) (nx+1+1) z5) (nx+1+1+1) z8) 5=z7,Ax 1 z9 [z3]=some [z1,z3]],wr .i64 (z4+(1:Int))=(1:Int),G Ex.normal (bcS 1) (pt (pt (pt (pt (pt H nx (O.row 3 none [])) (nx+1) z2) (nx+1+1) z5) (nx+1+1+1) z8) 5 (O.row 31 none [z1,z3])) (nx+1+1+1+1) ([5]++([]++([]++lg))),Sm (V.ptr 0 0),Sm (V.ptr 1 0),Sm (V.ptr 2 0),Sm (V.ptr 5 0),i6 1=i6 ↑(1:Nat),Tt])=_) ?_
    (repeat'(first|(with_reducible apply And.intro)|(refine fun(_:True)=>?_)))
    all_goals first|with_reducible rfl|exact trivial|omega|with_reducible assumption|with_reducible exact hld|with_reducible exact jn _|(with_reducible exact decide_eq_true (by omega))|(rw[List.length_map];omega)|with_reducible exact Qa2 (t:=3) (sp:=none) ((Qad _ _ _ _).trans (if_pos rfl))|with_reducible exact Qeu (t:=28) (sp:=none) ((Qad _ _ _ _).trans ((if_pos rfl).trans (by kernel_rfl)))|(with_reducible refine Dt ?_ ?_ ?_<;>omega)|((repeat(first|(rw[Qad,if_pos (by first|rfl|omega)])|(rw[Qad,if_neg (by omega)])))<;>first|assumption|rfl)|rfl|skip
    refine jd _ _ ?_ ?_ ?_ ?_ ?_ ?_ ?_ ?_
    ·((repeat(first|(rw[Qad,if_pos (by first|rfl|omega)])|(rw[Qad,if_neg o_])))<;>first|assumption|rfl)
    ·((repeat(first|(rw[Qad,if_pos (by first|rfl|omega)])|(rw[Qad,if_neg o_])))<;>first|assumption|rfl)
    ·((repeat(first|(rw[Qad,if_pos (by first|rfl|omega)])|(rw[Qad,if_neg o_])))<;>first|assumption|rfl)
    ·((repeat(first|(rw[Qad,if_pos (by first|rfl|omega)])|(rw[Qad,if_neg o_])))<;>first|assumption|rfl)
    ·((repeat(first|(rw[Qad,if_pos (by first|rfl|omega)])|(rw[Qad,if_neg o_])))<;>first|assumption|rfl)
    ·rw[Qad,if_neg o_,Qad,if_pos rfl,List.eq_nil_of_length_eq_zero hsl];rfl
    ·((repeat(first|(rw[Qad,if_pos (by first|rfl|omega)])|(rw[Qad,if_neg o_])))<;>first|assumption|rfl)
    ·intro g hg1 hg2 hg3
     rw[Qad,if_neg o_,Qad,if_neg o_,Qad,if_neg o_,Qad,if_neg o_,Qad,if_neg o_]
   | succ i =>
    refine⟨[lo_ 16 (gO jj cs) (gC cs),yes 18,lo_ 25 (gO jj cs) (gC cs),pl 27,ld 28 (sl c),(29,.cp jj.length (Ab c)),lo_ 22 (.row 31 none [.sl 4 0 jj.length none,.sl hl 0 (i+1) none]) (.sl hl 0 (i+1) none),(31,.ao (.row 28 (some 1) (hs.map fun h=>V.sl h 0 jj.length none)) 1 [.sl (nx+1) 0 jj.length none]),so (.row 31 none [.sl 4 0 jj.length none,.sl hl 0 (i+1) none]) [.sl 4 0 jj.length none,.sl (nx+1+1+1) 0 (i+1+1) none],nu 20 (i+1+1:Nat),toO (bcS (i+1+1))],1000,?_⟩
    refine m_ (p:=let z0:=[V.sl (nx+1) 0 jj.length none];let z2:=O.row 3 (some 1) (Ab c);let z3:=V.sl (nx+1+1+1) 0 (i+1+1) none;let z5:=(↑(i+1):Int);let z6:=V.sl 4 0 jj.length none;let z7:=Ad (Aj 1 [sl jj,gC cs]);let z8:=V.sl hl 0 (i+1) none;let z1:=[z6,z8];let z4:=O.row 28 none z0;let z9:=some (O.row 31 none z1);Bn [gt H 1=some (gO jj cs),z7=some (gC cs),decide (z5<(cs.length:Int))=true,gt (pt H nx (O.row 3 none [])) 1=some (gO jj cs),z7=some (gC cs),An [(0:Int)<=z5,z5<(cs.length:Int)],Ad (List.drop ((i+1)*1) (List.map sl cs))=some (sl c),An [A3 (pt H nx (O.row 3 none [])) 1 (sl c)=some (jj.length,Ab c),A3 (pt H nx (O.row 3 none [])) 1 (V.sl nx 0 0 (some 0))=some (0,[]),1<=jj.length,jj.length<=9223372036854775807,jj.length*8<=140737488355328],gt (pt (pt H nx (O.row 3 none [])) (nx+1) z2) 5=z9,Ad (Aj 1 z1)=some z8,A3 (pt (pt (pt H nx (O.row 3 none [])) (nx+1) z2) (nx+1+1) z4) 1 (V.sl (nx+1+1) 0 1 (some 0))=some (1,z0),gt (pt (pt (pt H nx (O.row 3 none [])) (nx+1) z2) (nx+1+1) z4) hl=some (O.row 28 (some 1) (List.map (fun h=>V.sl h 0 jj.length none) hs)),List.length (List.map (fun h=>V.sl h 0 jj.length none) hs)=(i+1)*1,i+1+1<=9223372036854775807,(i+1+1)*24<=140737488355328,An [gt (pt (pt (pt (pt (pt H nx (O.row 3 none [])) (nx+1) z2) (nx+1+1) z4) hl O.dead) (nx+1+1+1) (O.row 28 (some 1) (List.map (fun h=>V.sl h 0 jj.length none) hs++z0))) 5=z9,Ax 1 z1 [z3]=some [z6,z3]],wr .i64 (z5+1)=(↑(i+1+1):Int),G Ex.normal (bcS (i+1+1)) (pt (pt (pt (pt (pt (pt H nx (O.row 3 none [])) (nx+1) z2) (nx+1+1) z4) hl O.dead) (nx+1+1+1) (O.row 28 (some 1) (List.map (fun h=>V.sl h 0 jj.length none) hs++z0))) 5 (O.row 31 none [z6,z3])) (nx+1+1+1+1) ([5]++([hl]++([]++lg))),Sm (V.ptr 0 0),Sm (V.ptr 1 0),Sm (V.ptr 2 0),Sm (V.ptr 5 0),Sm (i6 ↑(i+1+1))]) ?_
    obtain⟨l1,l2,l3,l4⟩:=hR.list (by omega)
    (repeat'(first|(with_reducible apply And.intro)|(refine fun(_:True)=>?_)))
    all_goals first|with_reducible rfl|exact trivial|omega|with_reducible assumption|with_reducible exact hld|with_reducible exact jn _|(with_reducible exact decide_eq_true (by omega))|(rw[List.length_map];omega)|with_reducible exact Qa2 (t:=3) (sp:=none) ((Qad _ _ _ _).trans (if_pos rfl))|with_reducible exact Qeu (t:=28) (sp:=none) ((Qad _ _ _ _).trans ((if_pos rfl).trans (by kernel_rfl)))|(with_reducible refine Dt ?_ ?_ ?_<;>omega)|((repeat(first|(rw[Qad,if_pos (by first|rfl|omega)])|(rw[Qad,if_neg (by omega)])))<;>first|assumption|rfl)|rfl|skip
    refine jd _ _ ?_ ?_ ?_ ?_ ?_ ?_ ?_ ?_
    ·((repeat(first|(rw[Qad,if_pos (by first|rfl|omega)])|(rw[Qad,if_neg o_])))<;>first|assumption|rfl)
    ·((repeat(first|(rw[Qad,if_pos (by first|rfl|omega)])|(rw[Qad,if_neg o_])))<;>first|assumption|rfl)
    ·((repeat(first|(rw[Qad,if_pos (by first|rfl|omega)])|(rw[Qad,if_neg o_])))<;>first|assumption|rfl)
    ·((repeat(first|(rw[Qad,if_pos (by first|rfl|omega)])|(rw[Qad,if_neg o_])))<;>first|assumption|rfl)
    ·((repeat(first|(rw[Qad,if_pos (by first|rfl|omega)])|(rw[Qad,if_neg o_])))<;>first|assumption|rfl)
    ·rw[Qad,if_neg o_,Qad,if_pos rfl]
    ·((repeat(first|(rw[Qad,if_pos (by first|rfl|omega)])|(rw[Qad,if_neg o_])))<;>first|assumption|rfl)
    ·intro g hg1 hg2 hg3
     rw[Qad,if_neg o_,Qad,if_neg o_,Qad,if_neg o_,Qad,if_neg o_,Qad,if_neg o_,Qad,if_neg o_]
  ·have : i = cs.length := by omega
   subst this
   rw[List.take_length]at hR hrl
   have hx:=hE 0 bcX H nx lg ⟨rfl,rfl,hl,hs,⟨⟨b0,b1,b2,b4,b5,b6⟩,hR⟩⟩
   refine⟨[lo_ 16 (gO jj cs) (gC cs),no 18,toO bcX],1000,?_⟩
   clear hN hE
   exact u_ (p:=Bn [gt H 1=some (gO jj cs),Ad (Aj 1 [sl jj,gC cs])=some (gC cs),decide ((cs.length:Int)<(cs.length:Int))=false,G (Ex.exit 0) bcX H nx lg,Sm (V.ptr 0 0),Sm (V.ptr 2 0),Sm (V.ptr 5 0)])
theorem Rows.mono{n lo:Nat}{jx:List (List Int)}{hl:Nat}{hs:List Nat}{H H':T O}{nx nx':Nat}(h:Rows n lo jx hl hs H nx)(hg: ∀g,lo<=g->gt H' g=gt H g)(hn:nx<=nx'):Rows n lo jx hl hs H' nx':=by
 refine⟨h.len,fun hp=>?_,h.nodup,fun i g hi=>?_⟩
 ·obtain ⟨a, b, c, d⟩ := h.list hp
  exact⟨a,by omega,c,by rw[hg hl a];exact d⟩
 ·obtain ⟨a, b, c, d, e, f⟩ := h.row i g hi
  exact⟨a,by omega,c,d,e,by rw[hg g a];exact f⟩
theorem G1{n lo:Nat}{jx:List (List Int)}{hl:Nat}{hs:List Nat}{H H':T O}{nx g ri:Nat}{c:List Int}(h:Rows n lo jx hl hs H nx)(hp:0<jx.length)(hgi:hs[ri]? =some g)(hc:c.length=n)(hg:gt H' g=some (.row 3 (some 1) (Ab c)))(ho: ∀j,j≠g->lo<=j->gt H' j=gt H j):Rows n lo (jx.set ri c) hl hs H' nx:=by
 obtain⟨l1,l2,l3,l4⟩:=h.list hp
 have hri:ri<jx.length:=by rw[<-h.len];exact(List.getElem?_eq_some_iff.1 hgi).1
 have hgm:=List.mem_of_getElem? hgi
 refine⟨by rw[List.length_set];exact h.len,fun _=>⟨l1,l2,l3,?_⟩,h.nodup,fun i k hi=>?_⟩
 ·rw[ho hl (fun e=>l3 (e▸hgm)) l1];exact l4
 ·obtain ⟨q1, q2, d, q3, q4, q5⟩ := h.row i k hi
  by_cases hir:i=ri
  ·subst hir
   rw[hgi]at hi
   cases hi
   exact⟨q1,q2,c,by rw[List.getElem?_set_self hri],hc,hg⟩
  ·have hne : k ≠ g := by
    rintro rfl
    have h1:=(List.getElem?_eq_some_iff.1 hi)
    have h2:=(List.getElem?_eq_some_iff.1 hgi)
    exact hir ((List.getElem_inj h.nodup).1 (h1.2.trans h2.2.symm))
   exact⟨q1,q2,d,by rw[List.getElem?_set_ne (Ne.symm hir)];exact q3,q4,by rw[ho k hne q1];exact q5⟩
def E2(H:T O)(cv:V)(l:List Int):Prop:=cv=sl l\/(cv= .nils/\l=[])\/∃h off room t sp c,cv= .sl h off l.length room/\h≠2/\gt H h=some (.row t sp c)/\c.drop off=Ab l
def Fz(H:T O)(lv:V)(jx:List (List Int)):Prop:=(lv= .nils/\jx=[])\/∃h room t sp cells,lv= .sl h 0 jx.length room/\h≠2/\gt H h=some (.row t sp cells)/\cells.length=jx.length/\∀(i:Nat)(cell:V),cells[i]? =some cell->∃c,jx[i]? =some c/\E2 H cell c
theorem E2.view{H:T O}{cv:V}{l:List Int}{lg:List Nat}{ρ:Nat->Option Nat}(h:E2 H cv l):Ca H.get (Fr 0 [2] lg) ρ (sl l) cv:=by
 rcases h with rfl|⟨rfl,rfl⟩|⟨h,off,room,t,sp,c,rfl,hne,hg,hd⟩
 ·exact .inl rfl
 ·exact .inr (.inl ⟨rfl,rfl⟩)
 ·rw [Qa0] at hg
  refine .inr (.inr ⟨h,off,room,t,sp,c,rfl,⟨Nat.zero_le _,by simpa using hne,fun _ _=>Nat.zero_le _⟩,hg,?_⟩)
  rw[hd];exact Ci.of_hf _ (Qag _)
theorem Fz.view{H:T O}{lv:V}{jx:List (List Int)}{lg:List Nat}{ρ:Nat->Option Nat}(h:Fz H lv jx):Ca H.get (Fr 0 [2] lg) ρ (gC jx) lv:=by
 rcases h with⟨rfl,rfl⟩|⟨h,room,t,sp,cells,rfl,hne,hg,jy,hc⟩
 ·exact .inr (.inl ⟨rfl,rfl⟩)
 ·rw [Qa0] at hg
  refine .inr (.inr ⟨h,0,room,t,sp,cells,rfl,⟨Nat.zero_le _,by simpa using hne,fun _ _=>Nat.zero_le _⟩,hg,?_⟩)
  rw[List.drop_zero]
  have key: ∀(rs:List (List Int))(cl:List V),cl.length=rs.length->(∀(i:Nat)(cell:V),cl[i]? =some cell->∃c,rs[i]? =some c/\E2 H cell c)->Ci H.get (Fr 0 [2] lg) (rs.map sl) cl:=by
   intro rs
   induction rs with
   |nil=>intro cl _ _;trivial
   | cons r rs ih =>
    intro cl jy hcl
    cases cl with
    |nil=>simp at jy
    |cons x cl=>
     obtain⟨c,q2,q3⟩:=hcl 0 x rfl
     obtain rfl:r=c:=by simpa using q2
     refine⟨_,_,rfl,q3.view,ih cl (by simpa using jy) (fun i cell hi=>?_)⟩
     have:=hcl (i+1) cell (by simpa using hi)
     simpa using this
  exact key jx cells jy hc
theorem Qc9{H:T O}{nx:Nat}{lg:List Nat}{cv lv:V}{jj:List Int}{jx:List (List Int)}(hn:3<=nx)(h2:gt H 2=some (.row 31 none [cv,lv]))(hc:E2 H cv jj)(hr:Fz H lv jx):
  Gc 0 [2] (A4 g0 138 [(4,.ptr 2 0)] H nx lg) (Ah g0 138 {sl:=[(4,.ptr 0 0)],os:=[.row 31 none [sl jj,gC jx]]}):=by
 rw[Qa0]at h2
 refine⟨rfl,fun g hg=>?_,by decide,rfl,rfl,fun i x hx=>?_,fun h o ho hlive=>?_,fun h _ hlt=>absurd hlt (Nat.not_lt_zero _)⟩
 ·refine ⟨Nat.zero_le _, ?_⟩
  show g<nx
  simp at hg;omega
 ·have c4 : gt (En (Qdg 138) [(4, V.ptr 2 0)]) 4 = some (.ptr 2 0) := by kernel_rfl
  rw[Qa0]at c4
  rcases Cr _ _ _ _ hx with kj|kj
  ·simp only [List.mem_cons, List.not_mem_nil, or_false] at kj
   cases kj
   exact⟨_,c4,2,rfl,rfl⟩
  ·rw[Qbz]at kj;cases kj
 ·rcases Cs _ _ _ _ _ ho with ⟨_, hm⟩ | hm
  ·rw [Nat.sub_zero] at hm
   rcases h with _|h
   ·cases hm
    exact⟨2,_,rfl,h2,_,rfl,_,_,rfl,hc.view,_,_,rfl,hr.view,rfl⟩
   ·simp at hm
  ·simp at hm
theorem Rows.sees{n lo:Nat}{jx:List (List Int)}{hl:Nat}{hs:List Nat}{H:T O}{nx:Nat}(h:Rows n lo jx hl hs H nx)(hlo:3<=lo):Fz H (owV hl jx.length) jx:=by
 by_cases hp:0<jx.length
 ·obtain ⟨l1, l2, l3, l4⟩ := h.list hp
  refine .inr ⟨hl,none,28,some 1,_,?_,by omega,l4,by rw[List.length_map];exact h.len,fun i cell hi=>?_⟩
  ·cases hn : jx.length with
   |zero=>omega
   |succ m=>rfl
  ·rw [List.getElem?_map] at hi
   cases hg:hs[i]? with
   |none=>rw[hg]at hi;cases hi
   |some g=>
    rw[hg]at hi
    cases hi
    obtain⟨q1,q2,c,q3,q4,q5⟩:=h.row i g hg
    exact⟨c,q3,.inr (.inr ⟨g,0,none,3,some 1,Ab c,by rw[q4],by omega,q5,rfl⟩)⟩
 ·have : jx = [] := List.eq_nil_of_length_eq_zero o_
  subst this
  exact .inl ⟨rfl,rfl⟩
end Go.Proofs.YtakfneapahohkaaDoor.Am
