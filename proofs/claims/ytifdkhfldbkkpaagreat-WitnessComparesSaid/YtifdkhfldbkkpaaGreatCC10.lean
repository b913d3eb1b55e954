/- Texts behind the claim, part 10: the abstract machine, and what the functions answer. No condition. -/
import Derived.Test.YtifdkhfldbkkpaaGreatCC9
set_option linter.unusedVariables false
set_option maxHeartbeats 4000000
set_option maxRecDepth 100000
set_option linter.unusedSimpArgs false
set_option linter.unusedSectionVars false
namespace Go.Proofs.YtifdkhfldbkkpaaGreat.Am
open Go.RowKit
variable{body:Code}{g:Int}{R:List (List Int)}{act cs vals:List Int}{N:List Mc}{d i n nx s x xs:Nat}{f f' w:Nat->Int}{H:T O}
theorem Ut(a b n N:Nat)(hb0:0<b)(hn:(dg b).length=n+1)(hN:(dg a).length=n+N)(hnb:n<=1000)(hNb:N<=1000):
  Au Pg none 0 (aT 175 111111010) (Al g0 124 (Jb a b n N (dI (pd N (J7 (a/b) N))) (a/10000^N%b) (Dr N) [])) (B3 g0 124 [(True,.exit 0,{sl:=[(7,.im N (dI (pd N (a/b)))),(8,dV (a%b))]})]):=by
 refine C9 (aT 175 1111110100) (λj=>j<=N) (λj=>Jb a b n N (dI (pd N (J7 (a/b) j))) (a/10000^j%b) (Dr j) []) (λj=>j) (λj hj=>?_) N (aC _)
 have hfa:=Ap ((dg a).map λd:Nat=>(d:Int))
 have hfb:=Ap ((dg b).map λd:Nat=>(d:Int))
 cases j with
 |zero=>
  rw[show J7 (a/b) 0=a/b by simp[J7],show a/10000^0%b=a%b by simp]
  have hfq:=Ap ((pd N (a/b)).map λd:Nat=>(d:Int))
  have hfr:=Ap ((dg (a%b)).map λd:Nat=>(d:Int))
  have hql:(dI (pd N (a/b))).length=N:=by rw[Pu,Mp]
  refine .inr ⟨.exit 0,[],{sl:=[(7,.im N (dI (pd N (a/b)))),(8,dV (a%b))]},[],1000,.inl ⟨trivial,rfl,rfl⟩,?_⟩
  unfold Jb dV dI at*
  generalize Aa ((pd N (a/b)).map λd:Nat=>(d:Int))=Q at*
  generalize Aa ((dg (a%b)).map λd:Nat=>(d:Int))=R at*
  generalize Aa ((dg a).map λd:Nat=>(d:Int))=A at*
  generalize Aa ((dg b).map λd:Nat=>(d:Int))=B at*
  exact m_ (p:=An [An [An [N=N,Q=Q,_],An [Sm (List.length (dg (a%b))),R=R],Tt],Tt]) ⟨⟨⟨aq,aq,hfq⟩,a_⟩,aq⟩
 | succ j =>
  have hd:=AY (x:=a) (show j<(dg a).length by omega)
  have hstep:=Zs a b j hb0
  have hylt:=QS a b j hb0
  rw[OP]at hstep
  have hdj:a/10000^j%10000<10000:=aY _ o_
  have hqj:a/b/10000^j%10000<10000:=aY _ o_
  have hxb:=aY (a/10000^(j+1)) hb0
  generalize a/10000^(j+1)%b=x at*
  generalize a/10000^j%10000=d at*
  have hlay:=X3 (N:=N) (q:=a/b) (j:=j) o_
  have hQ:Ba (dI (pd N (J7 (a/b) (j+1)))):=Ap _
  have hQ':Ba (dI (pd N (J7 (a/b) j))):=Ap _
  have hQl:(dI (pd N (J7 (a/b) (j+1)))).length=N:=by rw[Pu,Mp]
  have hbB:b<10000^(n+1):=hn▸Me b
  have hbn:10000^n<=b:=by
   have:=UJ (x:=b) o_
   rwa [hn,eI]at this
  obtain⟨y,hy⟩: ∃y,y=x*10000+d:=⟨_,rfl⟩
  rw[<-hy]at hstep hylt
  have hyB:y<10000^(n+2):=by rw[bK];exact aQ hylt (bW _ o_)
  have hlx:(dg x).length<=n+1:=EF (fR hxb hbB)
  have hly:(dg y).length<=n+2:=EF hyB
  have hyx:y<10000^((dg x).length+1):=by
   have:=Me x
   rw[bK]
   generalize 10000^(dg x).length=P at*
   omega
  have hcut:=TY y ((dg x).length+1) hyx o_
  rw[hy,X7 hdj,<-xE,<-hy]at hcut
  have hfirst:=je a b n N (dI (pd N (J7 (a/b) (j+1)))) hQ y (j:Nat) hn hyB o_ o_
  have ht0:0<b/10000^(n-1):=Nat.div_pos (aP (aH o_ o_) hbn) (Jr _)
  have hest:=bi (R:=y) (b:=b) (e:=n-1) ht0
  have hhi:=HM (R:=y) (b:=b) (e:=n-1) hylt (by
   by_cases h1:n-1=0
   .exact .inr h1
   .left
    rw[fT (Jr _),bQ,<-bK]
    grind) hb0
  have hfb1:y/10000^(n-1)<1000000000000:=by
   rw[bH (Jr _),show(1000000000000:Nat)=10000^3 by decide,<-dN]
   exact aQ hyB (aH o_ o_)
  have htb:b/10000^(n-1)<1000000000000:=by
   rw[bH (Jr _),show(1000000000000:Nat)=10000^3 by decide,<-dN]
   exact aQ hbB (aH o_ o_)
  have hq1:=tN (s:=y/10000^(n-1)) (t:=b/10000^(n-1)+1) o_ o_
  have hq2:=tN (s:=y/10000^(n-1)) (t:=b/10000^(n-1)) ht0 o_
  have hsearch:=jf a b n N (dI (pd N (J7 (a/b) (j+1)))) hQ y (j:Nat) hb0 o_ o_ _ _ hest.1 hest.2 hhi
  obtain⟨hs1,hs2⟩:=hstep
  rw[hs1]at hsearch
  have hmulle:b*(a/b/10000^j%10000)<=y:=by rw[<-hs1];exact Nat.mul_div_le _ _
  have hmn:y-b*(a/b/10000^j%10000)=a/10000^j%b:=by
   rw[<-hs1,<-hs2]
   have:=Nat.div_add_mod y b
   omega
  have hcut2:=TY (a/b/10000^j%10000) 1 o_ o_
  have hpd1:dI (pd 1 (a/b/10000^j%10000))=[i6 ((a/b/10000^j%10000:Nat):Int)]:=by
   simp only[pd]
   rw[bO hqj]
   rfl
  rw[hpd1]at hcut2
  have hlq:(dg (a/b/10000^j%10000)).length<=1:=EF o_
  have htimes:=da b (a/b/10000^j%10000) o_ o_
  have hminus:=S3 y (b*(a/b/10000^j%10000)) hmulle o_
  rw[hmn]at hminus
  have hdj':Dr j=(j:Int)-1:=by cases j with|zero=>rfl|succ j=>grind[Dr]
  have hfx:Ba (dI (dg x)):=Ap _
  have hxl:(dI (dg x)).length=(dg x).length:=Pu _
  have hfr:Ba (dI (dg (a/10000^j%b))):=Ap _
  have hfy:Ba (dI (dg y)):=Ap _
  clear hest hhi hs1 hs2 hmulle hmn hpd1 hyx hylt hxb hyB hbB hbn hb0
  have key: ∃hs,vc Pg vE E0 none 0 1000 (aT 175 1111110100) hs (Al g0 124 (Jb a b n N (dI (pd N (J7 (a/b) (j+1)))) x (Dr (j+1)) [])) (L8 0 124 [0] (Jb a b n N (dI (pd N (J7 (a/b) j))) (a/10000^j%b) (Dr j) [])):=by
   rw[show Dr (j+1)=(j:Int)from rfl]
   unfold Jb at*
   generalize a/10000^j%b=r at*
   generalize a/b/10000^j%10000=q at*
   generalize dI (pd N (J7 (a/b) (j+1)))=Q at*
   generalize dI (pd N (J7 (a/b) j))=Q' at*
   generalize y/10000^(n-1)/(b/10000^(n-1)+1)=lo at*
   generalize y/10000^(n-1)/(b/10000^(n-1))=hi at*
   generalize y/10000^(n-1)=fs at*
   generalize b/10000^(n-1)=tp at*
   generalize b*q=bq at*
   unfold dV at*
   generalize dI (dg a)=A at*
   generalize dI (dg b)=B at*
   generalize dI (dg y)=Y at*
   generalize dI (dg r)=R at*
   generalize dI (dg q)=QQ at*
   generalize dI (dg bq)=BQ at*
   change Ag Pg g0 186 [.im _ (i6 d::dI (dg x))] _ at hcut
   generalize dI (dg x)=X at*
   generalize (dg a).length=la at*
   generalize (dg b).length=lb at*
   generalize (dg y).length=ly at*
   generalize (dg r).length=lr at*
   generalize (dg q).length=lq at*
   generalize (dg bq).length=lbq at*
   generalize (dg x).length=lx at*
   generalize Dr j=jj at*
   cases lx with
   |zero=>
    obtain rfl:X=[]:=aE hxl
    refine⟨[As 43,pl 48,ld 49 (i6 d),(53,.call ⟨.im ly Y,pt (pt (Ai .e 0 [.row 3 none Q]) 1 (.row 3 none [i6 d])) 1 .dead,1+1,[1]⟩),nu 55 (n+1:Nat),(0,.loop [0] {sl:=[(0,.im la A),(1,.im lb B),(6,i6 n),(7,.sl 0 0 N (some (N-N))),(8,.im ly Y),(9,i6 j),(10,i6 0),(11,i6 0),(12,i6 ((n+1:Nat):Int))],os:=[.row 3 none Q]} [(True,.exit 2,{sl:=[(0,.im la A),(1,.im lb B),(6,i6 n),(7,.sl 0 0 N (some (N-N))),(8,.im ly Y),(9,i6 j),(10,i6 tp),(11,i6 fs)],os:=[.row 3 none Q]})]),nu 87 (tp+1:Nat),va 88 (i6 lo),va 91 (i6 hi),(0,.loop [0] {sl:=[(0,.im la A),(1,.im lb B),(6,i6 n),(7,.sl 0 0 N (some (N-N))),(8,.im ly Y),(9,i6 j),(13,i6 lo),(14,i6 hi)],os:=[.row 3 none Q]} [(True,.exit 4,{sl:=[(0,.im la A),(1,.im lb B),(6,i6 n),(7,.sl 0 0 N (some (N-N))),(8,.im ly Y),(9,i6 j),(13,i6 q)],os:=[.row 3 none Q]})]),pl 113,st Q',(118,.call ⟨.im lq QQ,pt (pt (Ai .e 0 [.row 3 none Q']) 1 (.row 3 none [i6 q])) 1 .dead,1+1,[1]⟩),fn 119 (.im lbq BQ),fn 120 (.im lr R),nu 45 jj],?_⟩
    exact m_ (p:=let z0:=(↑j:Int);let z1:=[O.row 3 none Q];let z3:=(↑n:Int);let z5:=(0:Int);let z9:=O.row 3 none [i6 ↑q];let z4:=pt (Ai T.e 0 z1) 1 (O.row 3 none [i6 ↑d]);An [decide (z0≥z5)=true,An [z5<=z0,z0<(↑la:Int)],_,Ac Pg g0 (V.fn 186 []) [V.sl 1 0 1 (some 0)] z4 2 (CR.mk (V.im ly Y) (pt z4 1 O.dead) 2 [1]),_,An [An [An [la=la,A=A],An [lb=lb,B=B],z3=z3,An [Zz,N=N,Sm (N-N)],An [ly=ly,Y=Y],z0=z0,z5=z5,z5=z5,(↑(n+1):Int)=(↑(n+1):Int),Tt],An [Q=Q,_],Tt],_,(True->An [_,_,_,An [An [An [la=la,A=A],An [lb=lb,B=B],z3=z3,An [Zz,N=N,Sm (N-N)],An [ly=ly,Y=Y],z0=z0,Sm (↑lo:Int),Sm (↑hi:Int),Tt],An [Q=Q,_],Tt],_,(True->An [_,_,Ac Pg g0 (V.fn 186 []) [V.sl 1 0 1 (some 0)] (pt (pt (Ai T.e 0 z1) 0 (O.row 3 none Q')) 1 z9) 2 (CR.mk (V.im lq QQ) (pt (pt (Ai T.e 0 [O.row 3 none Q']) 1 z9) 1 O.dead) 2 [1]),_,_,wr .i64 (z0-(1:Int))=jj,An [An [la=la,A=A],An [lb=lb,B=B],z3=z3,An [Zz,N=N,Sm (N-N)],An [lr=lr,R=R],jj=jj,Tt],An [Q'=Q',_],Tt]),Tt]),Tt]) ⟨aq,a_,hd,WN (t:=3) (sp:=none) hcut trivial ⟨trivial,trivial⟩ k_ k_,Dw n o_,⟨a_,⟨aq,hQ⟩,aq⟩,hfirst,(λ_=>⟨Dw tp o_,hq1,hq2,⟨a_,⟨aq,hQ⟩,aq⟩,hsearch,(λ_=>⟨Ar hj,hlay,WN (t:=3) (sp:=none) hcut2 trivial ⟨trivial,trivial⟩ k_ k_,htimes,hminus,aq,a_,⟨aq,hQ'⟩,aq⟩),aq⟩),aq⟩
   | succ lx =>
    have hsrc: ∀H:T O,A6 H 1 (.im (lx+1) X)=some (lx+1,X):=λH=>by
     grind[A6,Nat.ble_eq_true_of_le]
    have hcut':Ag Pg g0 186 [.im (1+(lx+1)) (i6 d::X)] (.im ly Y):=by rw[show 1+(lx+1)=lx+1+1 by omega];exact hcut
    refine⟨[As 43,pl 48,ld 49 (i6 d),(52,.cp (lx+1) (i6 d::X)),(53,.call ⟨.im ly Y,pt (pt (pt (Ai .e 0 [.row 3 none Q]) 1 (.row 3 none [i6 d])) (1+1) (.row 3 (some 1) (i6 d::X))) (1+1) .dead,1+1+1,[1+1]⟩),nu 55 (n+1:Nat),(0,.loop [0] {sl:=[(0,.im la A),(1,.im lb B),(6,i6 n),(7,.sl 0 0 N (some (N-N))),(8,.im ly Y),(9,i6 j),(10,i6 0),(11,i6 0),(12,i6 ((n+1:Nat):Int))],os:=[.row 3 none Q]} [(True,.exit 2,{sl:=[(0,.im la A),(1,.im lb B),(6,i6 n),(7,.sl 0 0 N (some (N-N))),(8,.im ly Y),(9,i6 j),(10,i6 tp),(11,i6 fs)],os:=[.row 3 none Q]})]),nu 87 (tp+1:Nat),va 88 (i6 lo),va 91 (i6 hi),(0,.loop [0] {sl:=[(0,.im la A),(1,.im lb B),(6,i6 n),(7,.sl 0 0 N (some (N-N))),(8,.im ly Y),(9,i6 j),(13,i6 lo),(14,i6 hi)],os:=[.row 3 none Q]} [(True,.exit 4,{sl:=[(0,.im la A),(1,.im lb B),(6,i6 n),(7,.sl 0 0 N (some (N-N))),(8,.im ly Y),(9,i6 j),(13,i6 q)],os:=[.row 3 none Q]})]),pl 113,st Q',(118,.call ⟨.im lq QQ,pt (pt (Ai .e 0 [.row 3 none Q']) 1 (.row 3 none [i6 q])) 1 .dead,1+1,[1]⟩),fn 119 (.im lbq BQ),fn 120 (.im lr R),nu 45 jj],?_⟩
    exact m_ (p:=let z1:=(↑j:Int);let z2:=[O.row 3 none Q];let z4:=(↑n:Int);let z6:=(0:Int);let y0:=O.row 3 none [i6 ↑q];let z0:=pt (Ai T.e 0 z2) 1 (O.row 3 none [i6 ↑d]);let z5:=pt z0 2 (O.row 3 (some 1) (i6 ↑d::X));An [decide (z1≥z6)=true,An [z6<=z1,z1<(↑la:Int)],_,An [A6 z0 1 (V.im (lx+1) X)=some (lx+1,List.drop (1*1) (i6 ↑d::X)),A6 z0 1 (V.sl 1 0 1 (some 0))=some (1,[i6 ↑d]),1<=lx+1,1+(lx+1)<=9223372036854775807,(1+(lx+1))*8<=140737488355328],Ac Pg g0 (V.fn 186 []) [V.sl 2 0 (1+(lx+1)) none] z5 3 (CR.mk (V.im ly Y) (pt z5 2 O.dead) 3 [2]),_,An [An [An [la=la,A=A],An [lb=lb,B=B],z4=z4,An [Zz,N=N,Sm (N-N)],An [ly=ly,Y=Y],z1=z1,z6=z6,z6=z6,(↑(n+1):Int)=(↑(n+1):Int),Tt],An [Q=Q,_],Tt],_,(True->An [_,_,_,An [An [An [la=la,A=A],An [lb=lb,B=B],z4=z4,An [Zz,N=N,Sm (N-N)],An [ly=ly,Y=Y],z1=z1,Sm (↑lo:Int),Sm (↑hi:Int),Tt],An [Q=Q,_],Tt],_,(True->An [_,_,Ac Pg g0 (V.fn 186 []) [V.sl 1 0 1 (some 0)] (pt (pt (Ai T.e 0 z2) 0 (O.row 3 none Q')) 1 y0) 2 (CR.mk (V.im lq QQ) (pt (pt (Ai T.e 0 [O.row 3 none Q']) 1 y0) 1 O.dead) 2 [1]),_,_,wr .i64 (z1-(1:Int))=jj,An [An [la=la,A=A],An [lb=lb,B=B],z4=z4,An [Zz,N=N,Sm (N-N)],An [lr=lr,R=R],jj=jj,Tt],An [Q'=Q',_],Tt]),Tt]),Tt]) ⟨aq,a_,hd,⟨aq,(by rfl),a_⟩,WN (t:=3) (sp:=some 1) hcut' trivial ⟨trivial,hfx⟩ k_ k_,Dw n o_,⟨a_,⟨aq,hQ⟩,aq⟩,hfirst,(λ_=>⟨Dw tp o_,hq1,hq2,⟨a_,⟨aq,hQ⟩,aq⟩,hsearch,(λ_=>⟨Ar hj,hlay,WN (t:=3) (sp:=none) hcut2 trivial ⟨trivial,trivial⟩ k_ k_,htimes,hminus,aq,a_,⟨aq,hQ'⟩,aq⟩),aq⟩),aq⟩
  grind
theorem uN: ∀(k a:Nat),(dg a).drop k=dg (a/10000^k)
 |0,a=>by simp
 |k+1,a=>by
  by_cases h:a=0
  .simp_all[DW]
  .rw[WT h,List.drop_succ_cons,uN k,SN]
theorem f9(a b n:Nat)(hn:(dg b).length=n+1)(hla:(dg a).length<=n)(hnb:n<=1000):Ag Pg g0 175 [dV a,dV b] (.tup [dV (a/b),dV (a%b)]):=by
 have hlt:a<b:=YZ o_
 rw[cW hlt,bO hlt]
 have hz:dV 0= .im 0 Eb:=by rw[dV,DW];rfl
 have hal:(dI (dg a)).length=(dg a).length:=Pu _
 have hfa:Ba (dI (dg a)):=Ap _
 rw[hz]
 unfold dV
 generalize dI (dg a)=A,dI (dg b)=B,(dg a).length=la,(dg b).length=lb at*
 clear hlt
 have hsrc: ∀H:T O,A6 H 1 (.im la A)=some (la,A):=λH=>by
  grind[A6,Nat.ble_eq_true_of_le]
 cases la with
 |zero=>
  obtain rfl:A=Eb:=aE hal
  refine Ch {sl:=[(4,.im 0 Eb),(5,.im 0 Eb)]} [nu 18 n,As 22] ?_
  exact m_ (p:=An [Sm (V.tup [V.im 0 Eb,V.im 0 Eb]),wr .i64 ((↑lb:Int)-(1:Int))=(↑n:Int),decide ((↑(0:Nat):Int)<=(↑n:Int))=true,An [Zz,An [Zz,Eb=[],Tt],Tt],Tt]) a_
 |succ la=>
  refine Ch {sl:=[(4,.im 0 Eb),(5,.im (la+1) A)]} [nu 18 n,As 22,(25,.cp (la+1) A)] ?_
  exact m_ (p:=An [Sm (V.tup [V.im 0 Eb,V.im (la+1) A]),wr .i64 ((↑lb:Int)-(1:Int))=(↑n:Int),decide ((↑(la+1):Int)<=(↑n:Int))=true,An [A6 (pt T.e 0 (O.row 3 none [])) 1 (V.im (la+1) A)=some (la+1,A),A6 (pt T.e 0 (O.row 3 none [])) 1 (V.sl 0 0 0 (some 0))=some (0,[]),1<=la+1,la+1<=9223372036854775807,(la+1)*8<=140737488355328],An [Zz,An [Sm (la+1),A=A,_],Tt],Tt]) ⟨aq,aq,aq,⟨aq,rfl,a_⟩,⟨aq,⟨aq,aq,hfa⟩,aq⟩,aq⟩
theorem fa(a b n N:Nat)(hb0:0<b)(hn:(dg b).length=n+1)(hN:(dg a).length=n+(N+1))(hnb:n<=1000)(hNb:N<1000):Ag Pg g0 175 [dV a,dV b] (.tup [dV (a/b),dV (a%b)]):=by
 have hbn:10000^n<=b:=by
  have:=UJ (x:=b) o_
  rwa [hn,eI]at this
 have haN:a<10000^(n+(N+1)):=hN▸Me a
 have hx:a/10000^(N+1)<b:=by
  refine aQ ?_ hbn
  rw[bH (Jr _),<-dN]
  exact haN
 have hq:a/b<10000^(N+1):=by
  rw[bH hb0]
  refine aQ haN ?_
  rw[dN,bQ]
  exact Nat.mul_le_mul_left _ hbn
 have hlp:=Ut a b n (N+1) hb0 hn hN hnb o_
 rw[bO hx,show J7 (a/b) (N+1)=0 by grind[J7,Nat.div_eq_of_lt]]at hlp
 have hcut:=TY (a/b) (N+1) hq o_
 have hz:Cx (N+1) [i6 0]=dI (pd (N+1) 0):=by
  rw[Lh]
  have: ∀k,pd k 0=List.replicate k 0:=λk=>by
   induction k with
   |zero=>rfl
   |succ k ih=>grind[pd]
  rw[this]
  unfold dI
  rw[List.map_replicate]
  rfl
 have hdr:=uN (N+1) a
 have hdl:(dg (a/10000^(N+1))).length=n:=by rw[<-hdr,List.length_drop];omega
 have hdI:(dI (dg a)).drop (N+1)=dI (dg (a/10000^(N+1))):=by
  rw[<-hdr]
  unfold dI Aa
  rw[List.map_drop,List.map_drop]
 have hXl:(dI (dg (a/10000^(N+1)))).length=n:=by rw[Pu,hdl]
 have hsl:Ce (B1 Pg) 47 (.im (dg a).length (dI (dg a))) (some ((N+1:Nat):Int)) none none=some (.im n (dI (dg (a/10000^(N+1))))):=by
  unfold Ce
  simp only[qX,qW,dG,dU,Option.isNone_none,and_true]
  rw[if_pos o_]
  by_cases h0:n=0
  .simp_all
  .grind
 have hfx:Ba (dI (dg (a/10000^(N+1)))):=Ap _
 have hfz:Ba (dI (pd (N+1) 0)):=Ap _
 have hfq:Ba (dI (pd (N+1) (a/b))):=Ap _
 have hd:Dr (N+1)=(N:Int):=rfl
 have hzl:(dI (pd (N+1) 0)).length=N+1:=by rw[Pu,Mp]
 rw[hd]at hlp
 clear hx hq haN hbn hdr hdI hb0 hd
 unfold Jb dV at*
 rw[hdl]at hlp
 generalize dI (dg (a/10000^(N+1)))=X at*
 generalize dI (pd (N+1) 0)=Z at*
 generalize dI (pd (N+1) (a/b))=Q at*
 generalize a/b=q at*
 generalize a%b=r at*
 generalize dI (dg a)=A at*
 generalize dI (dg b)=B at*
 generalize dI (dg q)=QQ at*
 generalize dI (dg r)=R at*
 generalize (dg a).length=la at*
 generalize (dg b).length=lb at*
 generalize (dg q).length=lq at*
 generalize (dg r).length=lr at*
 obtain⟨M,hM⟩: ∃M,M=N+1:=⟨_,rfl⟩
 rw[<-hM]at hlp hz hsl hcut hN hzl
 have hsrc: ∀H:T O,A6 H 1 (.im n X)=some (n,X):=λH=>by
  grind[A6,Nat.ble_eq_true_of_le]
 cases n with
 |zero=>
  obtain rfl:X=Eb:=aE hXl
  refine Ch {sl:=[(4,.im lq QQ),(5,.im lr R)]} [nu 18 (0:Nat),no 22,nu 29 M,mk 30,nu 36 M,va 37 (.im 0 Eb),nu 41 N,(0,.loop [0] {sl:=[(0,.im la A),(1,.im lb B),(6,i6 ((0:Nat):Int)),(7,.sl 0 0 M (some (M-M))),(8,.im 0 Eb),(9,i6 N)],os:=[.row 3 none Z]} [(True,.exit 0,{sl:=[(7,.im M Q),(8,.im lr R)]})]),fn 122 (.im lq QQ)] ?_
  exact m_ (p:=let z0:=(↑(0:Nat):Int);let z1:=(↑M:Int);let z2:=V.tup [V.im lq QQ,V.im lr R];let z4:=(↑N:Int);let z3:=wr .i64 ((↑la:Int)-z0);An [z2=z2,wr .i64 ((↑lb:Int)-(1:Int))=z0,decide ((↑la:Int)<=z0)=false,z3=z1,An [(0:Int)<=z1,z1<=z1,(↑(8:Nat):Int)*z1<=(281474976710656:Int),z1<=(9223372036854775807:Int)],z3=z1,_,wr .i64 (z1-(1:Int))=z4,An [An [An [la=la,A=A],An [lb=lb,B=B],z0=z0,An [Zz,M=M,Sm (M-M)],An [Zz,Eb=[],Tt],z4=z4,Tt],An [Z=Cx M [i6 0],_],Tt],_,(True->An [_,An [An [lq=lq,QQ=QQ],An [lr=lr,R=R],Tt],Tt]),Tt]) ⟨aq,aq,aq,aq,a_,aq,hsl,aq,⟨a_,⟨aq,hfz⟩,aq⟩,hlp,(λ_=>⟨hcut,a_⟩),aq⟩
 |succ n=>
  refine Ch {sl:=[(4,.im lq QQ),(5,.im lr R)]} [nu 18 (n+1:Nat),no 22,nu 29 M,mk 30,nu 36 M,va 37 (.im (n+1) X),(38,.cp (n+1) X),nu 41 N,(0,.loop [0] {sl:=[(0,.im la A),(1,.im lb B),(6,i6 ((n+1:Nat):Int)),(7,.sl 0 0 M (some (M-M))),(8,.im (n+1) X),(9,i6 N)],os:=[.row 3 none Z]} [(True,.exit 0,{sl:=[(7,.im M Q),(8,.im lr R)]})]),fn 122 (.im lq QQ)] ?_
  exact m_ (p:=let z0:=(↑(n+1):Int);let z1:=(↑M:Int);let z2:=pt T.e 0 (O.row 3 none (Cx M [i6 0]));let z4:=V.tup [V.im lq QQ,V.im lr R];let z6:=(↑N:Int);let z5:=wr .i64 ((↑la:Int)-z0);An [z4=z4,wr .i64 ((↑lb:Int)-(1:Int))=z0,decide ((↑la:Int)<=z0)=false,z5=z1,An [(0:Int)<=z1,z1<=z1,(↑(8:Nat):Int)*z1<=(281474976710656:Int),z1<=(9223372036854775807:Int)],z5=z1,_,An [A6 (pt z2 1 (O.row 3 none [])) 1 (V.im (n+1) X)=some (n+1,X),A6 (pt z2 1 (O.row 3 none [])) 1 (V.sl 1 0 0 (some 0))=some (0,[]),1<=n+1,n+1<=9223372036854775807,(n+1)*8<=140737488355328],wr .i64 (z1-(1:Int))=z6,An [An [An [la=la,A=A],An [lb=lb,B=B],z0=z0,An [Zz,M=M,Sm (M-M)],An [Sm (n+1),X=X,_],z6=z6,Tt],An [Z=Cx M [i6 0],_],Tt],_,(True->An [_,An [An [lq=lq,QQ=QQ],An [lr=lr,R=R],Tt],Tt]),Tt]) ⟨aq,aq,aq,aq,a_,aq,hsl,⟨aq,rfl,a_⟩,aq,⟨⟨a_,a_,aq,a_,⟨aq,aq,hfx⟩,a_⟩,⟨aq,hfz⟩,aq⟩,hlp,(λ_=>⟨hcut,a_⟩),aq⟩
theorem pJ(a b:Nat)(hb0:0<b)(hla:(dg a).length<=1000)(hlb:(dg b).length<=1000):Ag Pg g0 175 [dV a,dV b] (.tup [dV (a/b),dV (a%b)]):=by
 have hp:=pU (x:=b) o_
 by_cases h:(dg a).length<=(dg b).length-1
 .grind[f9]
 .exact fa a b ((dg b).length-1) ((dg a).length-(dg b).length) hb0 o_ o_ o_ o_
theorem T5(a0 b0:Nat)(hla:(dg a0).length<=1000)(hlb:(dg b0).length<=1000):
  Au Pg none 0 (aT 174 1100) (Al g0 19 {sl:=[(0,dV a0),(1,dV b0)]}) (B3 g0 19 [(True,.exit 0,{sl:=[(0,dV (Nat.gcd a0 b0))]})]):=by
 refine C9 (aT 174 11000) (λq=>Nat.gcd q.1 q.2=Nat.gcd a0 b0/\(dg q.1).length<=1000/\(dg q.2).length<=1000) (λq=>{sl:=[(0,dV q.1),(1,dV q.2)]}) (λq=>q.2) (λq hq=>?_) (a0,b0) ⟨rfl,hla,hlb⟩
 obtain⟨a,b⟩:=q
 obtain⟨hg,h1,h2⟩:=hq
 dsimp only at hg h1 h2
 by_cases hb:b=0
 .subst hb
  rw[<-hg,Nat.gcd_zero_right]
  have hz:dV 0= .im 0 Eb:=by rw[dV,DW];rfl
  have hfa:Ba (dI (dg a)):=Ap _
  refine .inr ⟨.exit 0,[],{sl:=[(0,dV a)]},[],1000,.inl ⟨trivial,rfl,rfl⟩,?_⟩
  dsimp only
  rw[hz]
  unfold dV at*
  generalize dI (dg a)=A,(dg a).length=la at*
  exact Cj [] trivial
 .have hd:=pJ a b o_ h1 h2
  have hlt:a%b<b:=aY _ o_
  have hl3:(dg (a%b)).length<=1000:=aP (EF (fR hlt (Me b))) h2
  have hp:=pU hb
  refine .inl ⟨(b,a%b),[],[As 9,fn 13 (.tup [dV (a/b),dV (a%b)])],1000,⟨by grind[Nat.gcd_comm,Nat.gcd_rec],h2,hl3⟩,hlt,?_⟩
  dsimp only
  unfold dV at*
  generalize dI (dg a)=A,dI (dg b)=B,dI (dg (a/b))=C,dI (dg (a%b))=D,(dg a).length=la,(dg b).length=lb,(dg (a/b)).length=lc,(dg (a%b)).length=ld at*
  exact C8 [decide ((↑lb:Int)>(0:Int))=true,_] ⟨aq,hd⟩
theorem Xy(a b:Nat)(hla:(dg a).length<=1000)(hlb:(dg b).length<=1000):Ag Pg g0 174 [dV a,dV b] (dV (Nat.gcd a b)):=by
 have hlp:=T5 a b hla hlb
 unfold dV at*
 generalize dI (dg (Nat.gcd a b))=G,(dg (Nat.gcd a b)).length=lg,dI (dg a)=A,dI (dg b)=B,(dg a).length=la,(dg b).length=lb at*
 refine Ch {sl:=[(4,.im lg G)]} [(0,.loop [] {sl:=[(0,.im la A),(1,.im lb B)]} [(True,.exit 0,{sl:=[(0,.im lg G)]})])] ?_
 exact m_ (p:=An [Sm (V.im lg G),An [An [An [la=la,A=A],An [lb=lb,B=B],Tt],Tt],_,(True->An [An [An [lg=lg,G=G],Tt],Tt]),Tt]) ⟨aq,a_,hlp,a_⟩
theorem TX(h:n<=4611686018427387903):(dg n).length<=5:=EF (k:=5) (by
 omega)
theorem Yr(n d:Nat)(hn:n<=4611686018427387903)(hd:d<=4611686018427387903)(hd0:0<d):Ag Pg g0 165 [.bool false,dV n,dV d] (.tup [.agg [i6 ((n/Nat.gcd n d:Nat):Int),i6 ((d/Nat.gcd n d:Nat):Int)],.bool true]):=by
 have ln:=TX hn
 have ld:=TX hd
 have hgd:Nat.gcd n d<=d:=Nat.le_of_dvd hd0 (Nat.gcd_dvd_right _ _)
 have hg0:=fL n hd0
 have lg:=TX (n:=Nat.gcd n d) o_
 have hg:=Xy n d o_ o_
 have h1:=pJ n (Nat.gcd n d) hg0 o_ o_
 have h2:=pJ d (Nat.gcd n d) hg0 o_ o_
 have b1:n/Nat.gcd n d<=4611686018427387903:=aP (eE _ _) hn
 have b2:d/Nat.gcd n d<=4611686018427387903:=aP (eE _ _) hd
 have l1:=TX b1
 have l2:=TX b2
 have v1:=xP (n/Nat.gcd n d) b1 o_
 have v2:=xP (d/Nat.gcd n d) b2 o_
 generalize n/Nat.gcd n d=p,d/Nat.gcd n d=q,n%Nat.gcd n d=r,d%Nat.gcd n d=s,Nat.gcd n d=g at*
 unfold dV at*
 generalize dI (dg n)=A,dI (dg d)=B,dI (dg g)=G,dI (dg p)=P,dI (dg q)=Q,dI (dg r)=R,dI (dg s)=S,(dg n).length=k1,(dg d).length=k2,(dg g).length=k3,(dg p).length=k4,(dg q).length=k5,(dg r).length=k6,(dg s).length=k7 at*
 refine K8 [0] {sl:=[(6,.ptr 0 0),(7,.bool true)],os:=[.row 105 none [i6 p,i6 q]]} [fn 15 (.im k3 G),fn 19 (.tup [.im k4 P,.im k6 R]),fn 25 (.tup [.im k5 Q,.im k7 S]),fn 30 (.tup [i6 p,.bool true]),fn 35 (.tup [i6 q,.bool true])] ?_
 exact Hu [Sm (V.tup [V.agg [i6 ↑p,i6 ↑q],(V.bool true)]),_,_,_,_,_] ⟨aq,hg,h1,h2,v1,v2⟩
theorem Yq(n d:Nat)(hn:n<=4611686018427387903)(hd:d<=4611686018427387903)(hd0:0<d):Ag Pg g0 153 [i6 n,i6 d] (.tup [.agg [i6 ((n/Nat.gcd n d:Nat):Int),i6 ((d/Nat.gcd n d:Nat):Int)],.bool true]):=by
 have hm:=Yr n d hn hd hd0
 have d1:=nE n o_
 have d2:=nE d o_
 have hs:[i6 n]=[i6 d]->dV n=dV d:=λh=>by
  grind
 unfold dV at*
 generalize n/Nat.gcd n d=p,d/Nat.gcd n d=q,dI (dg n)=A,dI (dg d)=B,(dg n).length=k1,(dg d).length=k2 at*
 refine K8 [0] {sl:=[(4,.ptr 0 0),(5,.bool true)],os:=[.row 105 none [i6 p,i6 q]]} [no 7,no 9,fn 12 (.im k1 A),fn 14 (.im k2 B),fn 15 (.tup [.agg [i6 p,i6 q],.bool true])] ?_
 exact Hu (let z0:=pt T.e 0 (O.row 105 none [i6 0,i6 0]);let z1:=V.tup [V.agg [i6 ↑p,i6 ↑q],V.bool true];[z1=z1,decide ((↑n:Int)<(0:Int))=false,decide ((↑d:Int)<(0:Int))=false,_,_,V.fn 166 []=V.fn 166 []->[i6 ↑n]=[i6 ↑d]->z0=z0->0+1=1->CR.mk (V.im k1 A) z0 1 []=CR.mk (V.im k2 B) z0 1 [],Ag Tryz.prog g0 165 [V.bool !false==false,V.im k1 A,V.im k2 B] z1]) ⟨aq,aq,aq,d1,d2,a_⟩
theorem GJ(n d:Nat)(hn:n<=4611686018427387903)(hd:d<=4611686018427387903)(hd0:0<d):Ag Pg g0 125 [i6 n,i6 d] (.agg [i6 ((n/Nat.gcd n d:Nat):Int),i6 ((d/Nat.gcd n d:Nat):Int)]):=by
 have hm:=Yq n d hn hd hd0
 generalize n/Nat.gcd n d=p,d/Nat.gcd n d=q at*
 refine K8 [0] {sl:=[(4,.ptr 0 0)],os:=[.row 105 none [i6 p,i6 q]]} [fn 10 (.tup [.agg [i6 p,i6 q],.bool true])] ?_
 exact Hu [Sm (V.agg [i6 ↑p,i6 ↑q]),_] ⟨aq,hm⟩
abbrev K9(hd hv:Nat)(cs:List Int)(s q:Nat)(k:Nat):List (Nat×V):=[(0,.yld hd),(1,.imp [.im q (Aa cs)]),(2,.imp [u6 s]),(4,.sl hv 0 q (some (q-q))),(5,i6 ((k:Int)-1))]
def MT(H0:T O)(hv nx0:Nat)(cs:List Int)(vs:List Int)(q:Nat)(L:List Nat)(k:Nat)(H:T O)(nx:Nat)(lg:List Nat):Prop:=k=K6 cs vs q/\H=pt H0 hv (Ay (E1 cs vs q))/\nx=nx0/\D8 lg L
theorem iu(nx0 hd hv nx:Nat)(cs vs:List Int)(s q:Nat)(hq:cs.length=q)(hs64:s<2^64)(hv2:vs.length=q)(h12:q<=8)(hc: ∀i,i<q->1<=cs.getD i 0/\cs.getD i 0<=4)(hval:Co (Ax cs s) vs q)(H0:T O)(L lg0:List Nat)(hL:hv∈L)(hlg:D8 lg0 L):
  Au Pg none nx0 (aT 87 110001100) (Be g0 45 (K9 hd hv cs s q q) (pt H0 hv (Ay vs)) nx lg0) (Oj g0 45 (.exit 2) (K9 hd hv cs s q) (MT H0 hv nx (Ax cs s) vs q L)):=by
 refine(LR (b:=aT 87 1100011000) k_ (λ(p:Nat×List Int) M=>p.1<=q/\p.2.length=q/\Co (Ax cs s) p.2 q/\E1 (Ax cs s) p.2 p.1=E1 (Ax cs s) vs q/\K6 (Ax cs s) p.2 p.1=K6 (Ax cs s) vs q/\M.H=pt H0 hv (Ay p.2)/\M.nx=nx/\D8 M.lg L) (λp=>K9 hd hv cs s q p.1) (λp=>p.1) (λe sl M=>e= .exit 2/\∃k,sl=K9 hd hv cs s q k/\MT H0 hv nx (Ax cs s) vs q L k M.H M.nx M.lg) (λp H nx1 lg G hI hN hE hR=>?_) (q,vs) ⟨_,_,_⟩ ⟨aC _,hv2,hval,rfl,rfl,rfl,rfl,hlg⟩).mono ?_
 .obtain⟨k,row⟩:=p
  obtain⟨hk,hl,hvr,e1,e2,rfl,rfl,hs⟩:=hI
  dsimp only at hk hl hvr e1 e2 hs hN
  cases k with
  |zero=>
   have hex:=hE 2 (K9 hd hv cs s q 0) (pt H0 hv (Ay row)) nx1 lg ⟨rfl,0,rfl,e2,by rw[<-e1];rfl,rfl,hs⟩
   refine⟨[no 17,toO (K9 hd hv cs s q 0)],1000,?_⟩
   clear hN hE hR
   exact m_ (p:=An [decide ((↑(0:Nat):Int)-(1:Int)≥(0:Int))=false,_,Sm (V.yld hd),Sm (V.imp [V.im q (Aa cs)]),Sm (V.imp [u6 ↑s]),Sm (V.sl hv 0 q (some (q-q))),Sm (i6 ((↑(0:Nat):Int)-(1:Int))),Tt]) ⟨aq,hex,a_⟩
  | succ k =>
   have hb:=hvr k o_
   have hcb:=hc k o_
   have hmk:=Vz (cs:=cs) (s:=s) (i:=k) o_
   have s1:=LA (G:=B1 Pg) (t:=29) (x:=s) (k:=k) o_
   have s2:=SU (G:=B1 Pg) (t:=29) (x:=s/2^k)
   have b01:=Oa s k
   have g1:gt (pt H0 hv (Ay row)) hv=some (Ay row):=by rw[Ad,if_pos rfl]
   cases hbit:s.testBit k with
   |false=>
    have hx2:=b01.2.1 hbit
    rw[hbit,if_neg s_]at hmk
    have h0:row.getD k 0=0:=o_
    have hset:=set_same h0
    have e3:E1 (Ax cs s) row (k+1)=E1 (Ax cs s) row k:=by conv=>lhs;unfold E1;rw[if_pos o_,hset]
    have e4:K6 (Ax cs s) row (k+1)=K6 (Ax cs s) row k:=by conv=>lhs;unfold K6;rw[if_pos o_,hset]
    have hnext:=hN (k,row) (pt H0 hv (Ay row)) nx1 lg ⟨by dsimp only;omega,hl,hvr,by dsimp only;rw[<-e3,e1],by dsimp only;rw[<-e4,e2],rfl,rfl,hs⟩ (by dsimp only;omega)
    refine⟨[As 17,va 22 (u6 (s/2^k:Nat)),va 23 (u6 (s/2^k%2:Nat)),As 24,nu 19 ((k:Int)-1),toO (K9 hd hv cs s q k)],1000,?_⟩
    clear hN hE hR e1 e2 e3 e4 hvr hc b01
    generalize s/2^k=y at*
    exact m_ (p:=let z0:=(1:Int);let z1:=(↑(k+1):Int);let z2:=V.sl hv 0 q (some (q-q));let z3:=V.imp [V.im q (Aa cs)];An [decide (z1-z0≥(0:Int))=true,B6 (B1 Tryz.prog) BinOp.shr 29 (u6 ↑s) (i6 (z1-z0))=some (u6 ↑y),_,((↑(y%2):Int)==(0:Int))=true,wr .i64 (z1-z0-z0)=(↑k:Int)-z0,_,Sm (V.yld hd),z3=z3,Sm (V.imp [u6 ↑s]),z2=z2,Sm (i6 ((↑k:Int)-z0)),Tt]) ⟨aq,aq,s2,aq,aq,hnext,a_⟩
   | true =>
    have hx2:=b01.1.1 hbit
    rw[hbit,if_pos rfl]at hmk
    have h1:=@Px row k o_
    have h2:=@Dm cs k o_
    have hl1:=@Ie row k (row.getD k 0+1) o_
    have g2:gt (pt (pt H0 hv (Ay row)) hv (Ay (row.set k (row.getD k 0+1)))) hv=some (Ay (row.set k (row.getD k 0+1))):=by rw[Ad,if_pos rfl]
    have h3:=@Px (row.set k (row.getD k 0+1)) k (by simp;omega)
    rw[MS o_]at h3
    by_cases he:row.getD k 0+1<cs.getD k 0
    .have e3:E1 (Ax cs s) row (k+1)=row.set k (row.getD k 0+1):=by conv=>lhs;unfold E1;rw[if_neg o_]
     have e4:K6 (Ax cs s) row (k+1)=k+1:=by conv=>lhs;unfold K6;rw[if_neg o_]
     have hex:=hE 2 (K9 hd hv cs s q (k+1)) (pt (pt H0 hv (Ay row)) hv (Ay (row.set k (row.getD k 0+1)))) nx1 ([hv]++lg) ⟨rfl,k+1,rfl,by rw[<-e2,e4],by rw[<-e1,e3,Wn],rfl,λg hg=>by
      rcases aK.1 hg with rfl|hg
      .exact hL
      .exact hs g hg⟩
     refine⟨[As 17,va 22 (u6 (s/2^k:Nat)),va 23 (u6 (s/2^k%2:Nat)),no 24,pl 27,A5 28 (Ay row) (i6 (row.getD k 0)),nu 29 (row.getD k 0+1),pl 30,so (Ay row) (Aa (row.set k (row.getD k 0+1))),pl 33,A5 34 (Ay (row.set k (row.getD k 0+1))) (i6 (row.getD k 0+1)),pl 37,ld 38 (i6 (cs.getD k 0)),As 39,toO (K9 hd hv cs s q (k+1))],1000,?_⟩
     have hlr:(row.set k (row.getD k 0+1)).length=q:=by rw[bJ];exact hl
     clear hN hE hR e1 e2 e3 e4 hvr hc b01
     generalize row.set k (row.getD k 0+1)=row2,s/2^k=y at*
     exact m_ (p:=let z0:=(↑(k+1):Int);let z1:=(1:Int);let z3:=(0:Int);let z7:=(↑q:Int);let z8:=V.sl hv 0 q (some (q-q));let y0:=V.imp [V.im q (Aa cs)];let z2:=List.getD row k z3;let z5:=Int.toNat (z0-z1);let z9:=i6 (z0-z1);An [decide (z0-z1≥z3)=true,B6 (B1 Tryz.prog) BinOp.shr 29 (u6 ↑s) z9=some (u6 ↑y),_,((↑(y%2):Int)==z3)=false,An [z3<=z0-z1,z0-z1<z7],_,Ae (Af (0+z5*1) (Aa row))=some (i6 z2),wr .i64 (z2+z1)=z2+z1,An [z3<=z0-z1,z0-z1<z7],An [_,Bg (0+z5*1) (Aa row) [i6 (z2+z1)]=some (Aa row2)],An [z3<=z0-z1,z0-z1<z7],_,Ae (Af (0+z5*1) (Aa row2))=some (i6 (z2+z1)),An [z3<=z0-z1,z0-z1<z7],Ae (List.drop (z5*1) (Aa cs))=some (i6 (List.getD cs k z3)),_,_,Sm (V.yld hd),y0=y0,Sm (V.imp [u6 ↑s]),z8=z8,z9=z9,Tt]) ⟨aq,aq,s2,aq,a_,g1,aq,aq,a_,⟨g1,aq⟩,a_,g2,aq,a_,aq,Pp he,hex,a_⟩
    .have e3:E1 (Ax cs s) row (k+1)=E1 (Ax cs s) (row.set k 0) k:=by conv=>lhs;unfold E1;rw[if_pos o_]
     have e4:K6 (Ax cs s) row (k+1)=K6 (Ax cs s) (row.set k 0) k:=by conv=>lhs;unfold K6;rw[if_pos o_]
     have ess:(row.set k (row.getD k 0+1)).set k 0=row.set k 0:=by rw[List.set_set]
     have hl2:=@Ie (row.set k (row.getD k 0+1)) k 0 (by simp;omega)
     rw[ess]at hl2
     have hnext:=hN (k,row.set k 0) (pt (pt (pt H0 hv (Ay row)) hv (Ay (row.set k (row.getD k 0+1)))) hv (Ay (row.set k 0))) nx1 ([hv]++([hv]++lg)) ⟨by dsimp only;omega,by simpa using hl,λi hi=>by
      by_cases hik:k=i
      .subst hik;dsimp only;rw[MS o_];omega
      .dsimp only;rw[EE hik];exact hvr i hi,by dsimp only;rw[<-e3,e1],by dsimp only;rw[<-e4,e2],by dsimp only;rw[Wn,Wn],rfl,λg hg=>by
      rcases aK.1 hg with rfl|hg
      .exact hL
      .rcases aK.1 hg with rfl|hg
       .exact hL
       .exact hs g hg⟩ (by dsimp only;omega)
     refine⟨[As 17,va 22 (u6 (s/2^k:Nat)),va 23 (u6 (s/2^k%2:Nat)),no 24,pl 27,A5 28 (Ay row) (i6 (row.getD k 0)),nu 29 (row.getD k 0+1),pl 30,so (Ay row) (Aa (row.set k (row.getD k 0+1))),pl 33,A5 34 (Ay (row.set k (row.getD k 0+1))) (i6 (row.getD k 0+1)),pl 37,ld 38 (i6 (cs.getD k 0)),no 39,pl 42,so (Ay (row.set k (row.getD k 0+1))) (Aa (row.set k 0)),nu 19 ((k:Int)-1),toO (K9 hd hv cs s q k)],1000,?_⟩
     have hlr:(row.set k (row.getD k 0+1)).length=q:=by rw[bJ];exact hl
     have hlr2:(row.set k 0).length=q:=by rw[bJ];exact hl
     clear hN hE hR e1 e2 e3 e4 hvr hc b01 ess
     generalize row.set k (row.getD k 0+1)=row2,row.set k 0=row3,s/2^k=y at*
     exact m_ (p:=let z0:=(↑(k+1):Int);let z1:=(1:Int);let z5:=(0:Int);let z6:=(↑q:Int);let z8:=Aa row2;let z9:=V.sl hv 0 q (some (q-q));let y0:=V.imp [V.im q (Aa cs)];let z2:=List.getD row k z5;let z4:=Int.toNat (z0-z1);An [decide (z0-z1≥z5)=true,B6 (B1 Tryz.prog) BinOp.shr 29 (u6 ↑s) (i6 (z0-z1))=some (u6 ↑y),_,((↑(y%2):Int)==z5)=false,An [z5<=z0-z1,z0-z1<z6],_,Ae (Af (0+z4*1) (Aa row))=some (i6 z2),wr .i64 (z2+z1)=z2+z1,An [z5<=z0-z1,z0-z1<z6],An [_,Bg (0+z4*1) (Aa row) [i6 (z2+z1)]=some z8],An [z5<=z0-z1,z0-z1<z6],_,Ae (Af (0+z4*1) z8)=some (i6 (z2+z1)),An [z5<=z0-z1,z0-z1<z6],Ae (List.drop (z4*1) (Aa cs))=some (i6 (List.getD cs k z5)),_,An [z5<=z0-z1,z0-z1<z6],An [_,Bg (0+z4*1) z8 [i6 0]=some (Aa row3)],wr .i64 (z0-z1-z1)=(↑k:Int)-z1,_,Sm (V.yld hd),y0=y0,Sm (V.imp [u6 ↑s]),z9=z9,Sm (i6 ((↑k:Int)-z1)),Tt]) ⟨aq,aq,s2,aq,a_,g1,aq,aq,a_,⟨g1,aq⟩,a_,g2,aq,a_,aq,Jp he,a_,⟨g2,aq⟩,aq,hnext,a_⟩
 .rintro e st ⟨sl',M',rfl,rfl,k,rfl,hQ⟩
  exact⟨k,_,_,_,rfl,rfl,hQ⟩
abbrev QW(hd hv:Nat)(cs:List Int)(s q:Nat)(_:Nat):List (Nat×V):=[(0,.yld hd),(1,.imp [.im q (Aa cs)]),(2,.imp [u6 s]),(4,.sl hv 0 q (some (q-q)))]
noncomputable def V8(H0:T O)(KK:Nat->T O)(hv:Nat)(cs:List Int):Nat->T O
 |0=>pt H0 hv (Ay (A7 cs 0))
 |j+1=>pt (KK j) hv (Ay (A7 cs (j+1)))
noncomputable def Mk(KK:Nat->T O)(hv:Nat)(cs:List Int)(E:Nat):Bool->T O
 |true=>pt (KK (E-1)) hv (Ay (A7 cs E))
 |false=>KK (E-1)
abbrev kD(HP:T O)(nx0:Nat)(L:List Nat)(_:Nat)(H:T O)(nx:Nat)(lg:List Nat):Prop:=H=HP/\nx=nx0/\D8 lg L
section
variable (cs:List Int) (s q:Nat) (hq:cs.length=q) (hs64:s<2^64) (h12:q<=8) (hc: ∀i,i<q->1<=cs.getD i 0/\cs.getD i 0<=4) (P:Nat) (hP:(P:Int)=Aw (Ax cs s) q) (E:Nat) (hE1:1<=E) (hE2:E<=P) (F:Nat->Bool) (hF: ∀j,j+1<E->F j=true) (hl:F (E-1)=true->E=P)
include hq hs64 h12 hc hP hE1 hE2 hF hl
theorem fj(nx0 hd hv:Nat)(H0:T O)(KK:Nat->T O)(Nn:Nat->Nat)(L LY:List Nat)(hL:hv∈L)(hLY:D8 LY L)
  (hg: ∀j,j<E->gt (KK j) hv=some (Ay (A7 (Ax cs s) j)))
  (hy: ∀j,j<E->Ac Pg g0 (.yld hd) [.sl hv 0 q (some (q-q))] (V8 H0 KK hv (Ax cs s) j) (Nn j) ⟨.bool (F j),KK j,Nn (j+1),LY⟩):
  Au Pg none nx0 (aT 87 110) (Be g0 45 (QW hd hv cs s q 0) (V8 H0 KK hv (Ax cs s) 0) (Nn 0) []) (Oj g0 45 .ret (λ_=>[]) (kD (Mk KK hv (Ax cs s) E (F (E-1))) (Nn E) L)):=by
 subst hq
 have hcm: ∀i,i<(Ax cs s).length->1<=(Ax cs s).getD i 0:=λi hi=>(lF hc i (by rw[Mb]at hi;exact hi)).1
 have hml:=Mb (cs:=cs) (s:=s)
 refine(LR (b:=aT 87 1100) k_ (λ(j:Nat) M=>j<E/\M.H=V8 H0 KK hv (Ax cs s) j/\M.nx=Nn j/\D8 M.lg L) (QW hd hv cs s cs.length) (λj=>E-j) (λe sl M=>e= .ret/\sl=[]/\kD (Mk KK hv (Ax cs s) E (F (E-1))) (Nn E) L 0 M.H M.nx M.lg) (λj H nx1 lg G hI hN hE hR=>?_) 0 ⟨_,_,_⟩ ⟨o_,rfl,rfl,λg hg=>by cases hg⟩).mono ?_
 .obtain⟨hj,rfl,rfl,hs⟩:=hI
  dsimp only at hj hs
  have hcall:=hy j hj
  cases hb0:F j with
  | false =>
   have hje:E=j+1:=by
    by_cases h:j+1<E
    .rw[hF j h]at hb0;cases hb0
    .omega
   subst hje
   rw[hb0]at hcall
   have hout:=λlg' h=>hR [] (KK j) (Nn (j+1)) lg' ⟨rfl,rfl,by show KK j=Mk KK hv _ _ (F j);rw[hb0];rfl,rfl,h⟩
   refine⟨[(11,.call ⟨.bool false,KK j,Nn (j+1),LY⟩),toO []],1000,?_⟩
   clear hN hE hR hy hg hc
   refine Eq.mp (by kernel_rfl:(An [Ac Pg g0 (V.yld hd) [V.sl hv 0 cs.length (some (cs.length-cs.length))] (V8 H0 KK hv (Ax cs s) j) (Nn j) (CR.mk (V.bool false) (KK j) (Nn (j+1)) LY),G Ex.ret [] (KK j) (Nn (j+1)) (LY++lg),Tt])=_) ?_
   (repeat'(first|(with_reducible apply And.intro)|(refine λ(_:True)=>?_)))<;>first|exact aq|skip
   all_goals first|exact hcall|(refine hout _ (λg hg=>?_);rcases aL.1 hg with hg|hg;exact hLY g hg;exact hs g hg)|skip
  | true =>
   rw[hb0]at hcall
   have hjP:(j:Int)<Aw (Ax cs s) (Ax cs s).length:=by rw[hml];omega
   obtain⟨hval,_⟩:=Pv hcm hjP
   have hmore:=xH hcm hjP
   rw[hml]at hval hmore
   have hlen:=Li (Ax cs s) j
   rw[hml]at hlen
   have hcar:=iu nx0 hd hv (Nn (j+1)) cs (A7 (Ax cs s) j) s cs.length rfl hs64 hlen h12 hc hval (KK j) L (LY++lg) hL (λg hg=>by
    rcases aL.1 hg with hg|hg
    .exact hLY g hg
    .exact hs g hg)
   rw[mH (hg j hj)]at hcar
   have hKB:=CH (cs:=Ax cs s) (k:=cs.length) (vs:=A7 (Ax cs s) j)
   have e1:A7 (Ax cs s) (j+1)=E1 (Ax cs s) (A7 (Ax cs s) j) cs.length:=by rw[A7,hml]
   generalize hK':K6 (Ax cs s) (A7 (Ax cs s) j) cs.length=K at*
   cases hb:Il (Ax cs s) (A7 (Ax cs s) j) cs.length with
   | true =>
    have k1:=hKB.1 hb
    rw[hb]at hmore
    have hj2:j+1<P:=by have:=of_decide_eq_true hmore.symm;omega
    have hjE:j+1<E:=by
     by_cases h:j+1<E
     .exact h
     .have:E=j+1:=o_
      subst this
      have:=hl hb0
      omega
    obtain⟨k,rfl⟩: ∃k,K=k+1:=⟨K-1,o_⟩
    have hnext:=λlg' h=>hN (j+1) (pt (KK j) hv (Ay (A7 (Ax cs s) (j+1)))) (Nn (j+1)) lg' ⟨hjE,rfl,rfl,h⟩ o_
    rw[e1]at hnext
    have hcar':Au Pg none nx0 (aT 87 110001100) (Be g0 45 (K9 hd hv cs s cs.length cs.length) (KK j) (Nn (j+1)) (LY++lg)) (Oj g0 45 (Ex.exit 2) (λx=>K9 hd hv cs s cs.length (k+1)) (MT (KK j) hv (Nn (j+1)) (Ax cs s) (A7 (Ax cs s) j) cs.length L)):=hcar.mono (λe st⟨h,H,nx,lg,he,hst,hQ⟩=>⟨h,H,nx,lg,he,by rw[hst,hQ.1,hK'],hQ⟩)
    refine⟨[(11,.call ⟨.bool true,KK j,Nn (j+1),LY⟩),nu 15 ((cs.length:Int)-1),(0,.loopM (K9 hd hv cs s cs.length cs.length) (.exit 2) (λ_=>K9 hd hv cs s cs.length (k+1)) (MT (KK j) hv (Nn (j+1)) (Ax cs s) (A7 (Ax cs s) j) cs.length L) (λ_ _ _ _=>[no 44,toO (QW hd hv cs s cs.length (j+1))]))],1000,?_⟩
    clear hN hE hR e1 hc hy hg hcar
    refine m_ (p:=let z0:=V.sl hv 0 cs.length (some (cs.length-cs.length));let z1:=V.imp [V.im cs.length (Aa cs)];let z2:=((↑cs.length:Int)-(1:Int));let z3:=Ax cs s;let z4:=V.imp [u6 ↑s];let z6:=V.yld hd;An [_,wr .i64 z2=(↑cs.length:Int)-(1:Int),An [z6=z6,z1=z1,z4=z4,z0=z0,Sm (i6 z2),Tt],_,∀(h:Nat)(H:T O)(nx:Nat)(lg:List Nat),(h=K6 z3 (A7 z3 j) cs.length/\H=pt (KK j) hv (Ay (E1 z3 (A7 z3 j) cs.length))/\nx=(Nn (j+1))/\∀(g:Nat),List.Mem g lg->List.Mem g L)->An [decide ((↑(k+1):Int)-(1:Int)<(0:Int))=false,G Ex.normal (QW hd hv cs s cs.length (j+1)) H nx lg,z6=z6,z1=z1,z4=z4,z0=z0,Tt]]) ⟨hcall,aq,a_,hcar',?_⟩
    (repeat'(first|(with_reducible apply And.intro)|(refine λ(_:True)=>?_)))<;>first|exact aq|skip
    all_goals first|exact hcall|exact hcar'|skip
    all_goals(rintro h H nx' lg' ⟨hh,rfl,rfl,hs'⟩;(repeat'(first|(with_reducible apply And.intro)|(refine λ(_:True)=>?_)));all_goals first|exact aq|exact hnext _ hs'|skip)
   |false=>
    have k1:=hKB.2 hb
    rw[hb]at hmore
    have hj2:j+1=P:=by have:=of_decide_eq_false hmore.symm;omega
    have hje:E=j+1:=o_
    subst hje
    have hout:=λlg' h=>hR [] (pt (KK j) hv (Ay (A7 (Ax cs s) (j+1)))) (Nn (j+1)) lg' ⟨rfl,rfl,by show _=Mk KK hv _ _ (F j);rw[hb0];rfl,rfl,h⟩
    rw[e1]at hout
    have hcar':Au Pg none nx0 (aT 87 110001100) (Be g0 45 (K9 hd hv cs s cs.length cs.length) (KK j) (Nn (j+1)) (LY++lg)) (Oj g0 45 (Ex.exit 2) (λx=>K9 hd hv cs s cs.length 0) (MT (KK j) hv (Nn (j+1)) (Ax cs s) (A7 (Ax cs s) j) cs.length L)):=hcar.mono (λe st⟨h,H,nx,lg,he,hst,hQ⟩=>⟨h,H,nx,lg,he,by rw[hst,hQ.1,hK',k1],hQ⟩)
    refine⟨[(11,.call ⟨.bool true,KK j,Nn (j+1),LY⟩),nu 15 ((cs.length:Int)-1),(0,.loopM (K9 hd hv cs s cs.length cs.length) (.exit 2) (λ_=>K9 hd hv cs s cs.length 0) (MT (KK j) hv (Nn (j+1)) (Ax cs s) (A7 (Ax cs s) j) cs.length L) (λ_ _ _ _=>[As 44,toO []]))],1000,?_⟩
    clear hN hE hR e1 hc hy hg hcar
    refine m_ (p:=let z0:=V.sl hv 0 cs.length (some (cs.length-cs.length));let z1:=((↑cs.length:Int)-(1:Int));let z2:=Ax cs s;let z4:=V.imp [V.im cs.length (Aa cs)];An [_,wr .i64 z1=(↑cs.length:Int)-(1:Int),An [Sm (V.yld hd),z4=z4,Sm (V.imp [u6 ↑s]),z0=z0,Sm (i6 z1),Tt],_,∀(h:Nat)(H:T O)(nx:Nat)(lg:List Nat),(h=K6 z2 (A7 z2 j) cs.length/\H=pt (KK j) hv (Ay (E1 z2 (A7 z2 j) cs.length))/\nx=(Nn (j+1))/\∀(g:Nat),List.Mem g lg->List.Mem g L)->An [decide ((↑(0:Nat):Int)-(1:Int)<(0:Int))=true,G Ex.ret [] H nx lg,Tt]]) ⟨hcall,aq,a_,hcar',?_⟩
    (repeat'(first|(with_reducible apply And.intro)|(refine λ(_:True)=>?_)))<;>first|exact aq|skip
    all_goals first|exact hcall|exact hcar'|skip
    all_goals(rintro h H nx' lg' ⟨hh,rfl,rfl,hs'⟩;(repeat'(first|(with_reducible apply And.intro)|(refine λ(_:True)=>?_)));all_goals first|exact aq|exact hout _ hs'|skip)
 .rintro e st ⟨sl',M',rfl,rfl,rfl,hQ⟩
  exact⟨0,_,_,_,rfl,rfl,hQ⟩
theorem UA(hd nx:Nat)(H0:T O)(KK:Nat->T O)(Nn:Nat->Nat)(LY:List Nat)(en:Nn 0=nx+1)
  (hg: ∀j,j<E->gt (KK j) nx=some (Ay (A7 (Ax cs s) j)))
  (hy: ∀j,j<E->Ac Pg g0 (.yld hd) [.sl nx 0 q (some (q-q))] (V8 H0 KK nx (Ax cs s) j) (Nn j) ⟨.bool (F j),KK j,Nn (j+1),LY⟩)
  (hlog:C5 H0.get nx (Mk KK nx (Ax cs s) E (F (E-1))).get (Nn E) (nx::LY)):
  Ac Pg g0 (.fn 87 [.imp [.im q (Aa cs)],.imp [u6 s]]) [.yld hd] H0 nx ⟨.tup [],Mk KK nx (Ax cs s) E (F (E-1)),Nn E,nx::LY⟩:=by
 refine Ac.caps ?_
 have l:=fj cs s q hq hs64 h12 hc P hP E hE1 hE2 F hF hl nx hd nx H0 KK Nn (nx::LY) LY s_ (λg hg=>aW _ hg) hg hy
 have hz:Ay (A7 (Ax cs s) 0)= .row 3 none (Cx q [i6 0]):=by rw[Lh,A7,Mb,hq]
 rw[show V8 H0 KK nx (Ax cs s) 0=pt H0 nx (.row 3 none (Cx q [i6 0]))by rw[<-hz];rfl,en]at l
 refine Ac.of_vcS vE_ok Bx Gy (n:=1000) (hs:=[mk 8,(0,.loopM (QW hd nx cs s q 0) .ret (λ_=>[]) (kD (Mk KK nx (Ax cs s) E (F (E-1))) (Nn E) (nx::LY)) (λ_ _ _ _=>[]))]) hlog ?_
 clear hy hlog hc hz hg
 generalize Mk KK nx (Ax cs s) E (F (E-1))=HF at*
 exact m_ (p:=let z0:=(↑q:Int);An [An [(0:Int)<=z0,z0<=z0,(↑(8:Nat):Int)*z0<=(281474976710656:Int),z0<=(9223372036854775807:Int)],An [Sm (V.yld hd),Sm (V.imp [V.im q (Aa cs)]),Sm (V.imp [u6 ↑s]),Sm (V.sl nx 0 q (some (q-q))),Tt],_,∀(h:Nat)(H:T O)(nx_1:Nat)(lg:List Nat),(H=HF/\nx_1=Nn E/\∀(g:Nat),List.Mem g lg->List.Mem g (nx::LY))->V.tup []=V.tup []/\H=HF/\nx_1=Nn E/\∀(g:Nat),List.Mem g lg->List.Mem g (nx::LY)]) ⟨a_,a_,l,aq⟩
end
section
variable (cs:List Int) (s q:Nat) (hq:cs.length=q) (hs64:s<2^64) (h12:q<=8) (hc: ∀i,i<q->1<=cs.getD i 0/\cs.getD i 0<=4) (P:Nat) (hP:(P:Int)=Aw (Ax cs s) q) (hP1:1<=P)
include hq hs64 h12 hc hP hP1
theorem U0(hd nx:Nat)(H0:T O)(I:Nat->T O->Nat->Prop)(h0:I 0 (pt H0 nx (Ay (A7 (Ax cs s) 0))) (nx+1))
  (step: ∀k,k<P->∀H n,I k H n->∃K n' L,Ac Pg g0 (.yld hd) [.sl nx 0 q (some (q-q))] H n ⟨.bool true,K,n',L⟩/\gt K nx=some (Ay (A7 (Ax cs s) k))/\I (k+1) (pt K nx (Ay (A7 (Ax cs s) (k+1)))) n'):
  ∃H' n' L,I P H' n'/\Ac Pg g0 (.fn 87 [.imp [.im q (Aa cs)],.imp [u6 s]]) [.yld hd] H0 nx ⟨.tup [],H',n',L⟩:=by
 obtain⟨HH,N,LL,e1,e2,hi,hcc⟩:=xR (C:=λk H n H' n' L=>∃K,Ac Pg g0 (.yld hd) [.sl nx 0 q (some (q-q))] H n ⟨.bool true,K,n',L⟩/\gt K nx=some (Ay (A7 (Ax cs s) k))/\H'=pt K nx (Ay (A7 (Ax cs s) (k+1)))) _ _ h0 P (λk hk H n hI=>by
  obtain⟨K,n',L,a,b,c⟩:=step k hk H n hI
  exact⟨_,n',L,c,K,a,b,rfl⟩)
 obtain⟨KK,hKK⟩: ∃KK:Nat->T O,∀k,k<P->Ac Pg g0 (.yld hd) [.sl nx 0 q (some (q-q))] (HH k) (N k) ⟨.bool true,KK k,N (k+1),LL k⟩/\gt (KK k) nx=some (Ay (A7 (Ax cs s) k))/\HH (k+1)=pt (KK k) nx (Ay (A7 (Ax cs s) (k+1))):=by
  refine⟨λk=>if h:k<P then(hcc k h).choose else .e,λk hk=>?_⟩
  dsimp only
  rw[dif_pos hk]
  exact(hcc k hk).choose_spec
 have hHH: ∀k,k<P->V8 H0 KK nx (Ax cs s) k=HH k:=λk hk=>by
  cases k with
  |zero=>rw[e1];rfl
  |succ k=>rw[(hKK k o_).2.2];rfl
 have hL: ∀k,k<P->∀x∈LL k,x∈(List.range P).flatMap LL:=λk hk x hx=>List.mem_flatMap.2 ⟨k,bB.2 hk,hx⟩
 have hfin:Mk KK nx (Ax cs s) P true=HH P:=by
  obtain⟨m,rfl⟩: ∃m,P=m+1:=⟨P-1,o_⟩
  rw[(hKK m o_).2.2]
  rfl
 have hstep: ∀k,k<P->C5 (HH k).get (N k) (HH (k+1)).get (N (k+1)) (nx::(List.range P).flatMap LL):=λk hk=>by
  obtain⟨a,b,c⟩:=hKK k hk
  have h1:=a.2.more (hL k hk)
  rw[c]
  refine⟨h1.1,λi hni hin=>?_⟩
  simp only[aK,not_or]at hni
  rw[Bh,T.get_put,if_neg hni.1]
  exact h1.2 i hni.2 hin
 have hlog:=zB (HH:=HH) (N:=N) (LL:=λ_=>nx::(List.range P).flatMap LL) (L:=nx::(List.range P).flatMap LL) P hstep (λk hk x hx=>hx)
 refine⟨HH P,N P,nx::(List.range P).flatMap LL,hi P (aC _),?_⟩
 have:=UA cs s q hq hs64 h12 hc P hP P hP1 (aC _) (λ_=>true) (λ_ _=>rfl) (λ_=>rfl) hd nx H0 KK N ((List.range P).flatMap LL) e2 (λk hk=>(hKK k hk).2.1) (λk hk=>by
  rw[hHH k hk]
  exact Ac.moreL (r:=⟨_,_,_,LL k⟩) (hKK k hk).1 (hL k hk)) ?_
 .rw[hfin]at this
  exact this
 .rw[hfin]
  refine⟨by have:=hlog.1;rw[e2]at this;omega,λi hni hin=>?_⟩
  have h1:=hlog.2 i hni (by rw[e2];omega)
  rw[h1,e1,Bh,T.get_put,if_neg (λe=>hni (by rw[e];exact aZ))]
theorem zC{rd:Option Nat}{nx0:Nat}{sl:List (Nat×V)}{lg:List Nat}{g:Operand}{ps:Array Tmp}{asg:Code}
  (hg:ev (Be g0 n sl H nx lg).tm g=some (.fn 87 [.imp [.im q (Aa cs)],.imp [u6 s]]))(hlb:Kl rd H=true)(L0:O)(hL0:L0= .loop .ready none 0 (Be g0 n sl H nx lg).tm ps.toList asg body)
  (I:Nat->T O->Nat->Prop)(h0:I 0 (pt (pt H nx L0) (nx+1) (Ay (A7 (Ax cs s) 0))) (nx+2))
  (step: ∀k,k<P->∀H n,I k H n->∃K n' L,Ac Pg g0 (.yld nx) [.sl (nx+1) 0 q (some (q-q))] H n ⟨.bool true,K,n',L⟩/\gt K (nx+1)=some (Ay (A7 (Ax cs s) k))/\I (k+1) (pt K (nx+1) (Ay (A7 (Ax cs s) (k+1)))) n')
  (hI: ∀H' n',I P H' n'->gt H' nx=some L0):
  ∃H1 n1 L,I P H1 n1/\C5 (pt H nx L0).get (nx+1) H1.get n1 L/\Au Pg rd nx0 (.rangeFunc g ps asg body) (Be g0 n sl H nx lg) (Oj g0 n .normal (λ_=>sl) (λ_ H' nx' lg'=>H'=pt H1 nx .dead/\nx'=n1/\lg'=L++lg)):=by
 obtain⟨H1,n1,L,hi,hcl⟩:=U0 cs s q hq hs64 h12 hc P hP hP1 nx (nx+1) (pt H nx L0) I h0 step
 refine⟨H1,n1,L,hi,hcl.2,?_⟩
 have hgt:=hI _ _ hi
 rw[Cm]at hgt
 rw[Bh]at hcl
 subst hL0
 refine Au.rangeFunc' hg hlb hcl (.inl ⟨0,_,_,_,_,hgt,0,_,_,_,rfl,?_,rfl,rfl,rfl⟩)
 rw[Bh];rfl
end
theorem TZ(cs:List Int)(s:Nat):Ag Pg g0 47 [sl cs,u6 s] (.fn 87 [.imp [sl cs],.imp [u6 s]]):=by
 have h:=Ap cs
 refine Ch {sl:=[(4,.fn 87 [.imp [sl cs],.imp [u6 s]])]} [] ?_
 exact m_ (p:=An [Sm (V.fn 87 [V.imp [sl cs],V.imp [u6 ↑s]]),An [An [An [Sm [sl cs],Tt,Tt],An [Sm [u6 ↑s],Tt,Tt],Tt],Tt],Tt]) a_
abbrev ZV(g:Int)(n:Nat)(R:List V)(q:Nat)(N:List V)(k:Nat)(w:Int):SL:={sl:=[(1,.ptr 0 0),(3,i6 w),(6,i6 n),(7,i6 k)],os:=[.row 34 none [i6 g,.im n R,.im q N]]}
theorem PZ(h:1<=g/\g<=12): ∀k,1<=g^k/\g^k<=12^k
 |0=>by simp
 |k+1=>by
  obtain⟨h1,h2⟩:=PZ h k
  rw[cV,cV]
  have a:=bC h1 h.1 o_ (show 0<=g^k by omega)
  exact⟨by simpa using a,bC h2 h.2 o_ o_⟩
theorem L9(h:1<=g/\g<=12){k:Nat}(hk:k<=8):1<=g^k/\g^k<=429981696:=by
 have h1:=PZ h k
 have h2:(12:Int)^k<=12^8:=by
  have:=aH (show 12>0 by decide) hk
  exact_mod_cast this
 have h3:(12:Int)^8=429981696:=rfl
 omega
section
variable (g:Int) (R:List (List Int)) (N:List Mc) (hg:1<=g/\g<=12) (hn:R.length<=8)
include hg hn
theorem g8:Au Pg none 0 (aT 42 111010) (Al g0 15 (ZV g R.length (Ah R) N.length (Ak N) 0 1)) (B3 g0 15 [(True,.exit 0,{sl:=[(3,i6 (g^R.length))]})]):=by
 have hRR:=B7 R
 have hNN:=Cl N
 have e0:(1:Int)=g^0:=by simp
 rw[e0]
 refine C9 (aT 42 1110100) (λk=>k<=R.length) (λk=>ZV g R.length (Ah R) N.length (Ak N) k (g^k)) (λk=>R.length-k) (λk hk=>?_) 0 (aG _)
 by_cases hlt:k<R.length
 .have e1:g^(k+1)=g^k*g:=cV g k
  have b1:=L9 hg (show k+1<=8 by omega)
  refine .inl ⟨k+1,[0],[As 8,nu 12 (g^(k+1)),nu 13 ((k+1:Nat):Int)],1000,hlt,o_,?_⟩
  generalize g^(k+1)=y,g^k=x,Ah R=RR,Ak N=NN at*
  exact C8 [_,wr .i64 (x*g)=y,wr .i64 ((↑k:Int)+(1:Int))=(↑(k+1):Int)] ⟨Bf hlt,a_⟩
 .have hk2:k=R.length:=o_
  subst hk2
  refine .inr ⟨.exit 0,[],{sl:=[(3,i6 (g^R.length))]},[no 8],1000,.inl ⟨trivial,rfl,rfl⟩,?_⟩
  generalize g^R.length=x,Ah R=RR,Ak N=NN at*
  exact Cj [_] (Cq hlt)
theorem MG:Ag Pg g0 42 [Bd g R N] (i6 (g^R.length)):=by
 have hRR:=B7 R
 have hNN:=Cl N
 have h:=g8 g R N hg hn
 unfold Bd
 refine Ch {sl:=[(2,i6 (g^R.length))]} [(0,.loop [0] (ZV g R.length (Ah R) N.length (Ak N) 0 1) [(True,.exit 0,{sl:=[(3,i6 (g^R.length))]})])] ?_
 generalize g^R.length=x,Ah R=RR,Ak N=NN at*
 exact m_ (p:=An [Sm (i6 x),An [An [Zz,Sm (1:Int),Sm (↑R.length:Int),(↑(0:Nat):Int)=(0:Int),Tt],An [Sm [i6 g,V.im R.length RR,V.im N.length NN],TT 3],Tt],_,(True->An [An [x=x,Tt],Tt]),Tt]) ⟨aq,a_,h,a_⟩
end
def Dx:List Int->List Int->Bool
 |x::a,y::b=>if x=y then Dx a b else decide (x<y)
 | _,_=>false
theorem IJ{a b:List Int}{k:Nat}(ha:k<a.length)(hb:k<b.length):Dx (a.drop k) (b.drop k)=if a.getD k 0=b.getD k 0 then Dx (a.drop (k+1)) (b.drop (k+1))else decide (a.getD k 0<b.getD k 0):=by
 rw[dA ha,dA hb,aA,aA,aB ha,aB hb]
 rfl
abbrev kE(a b:List Int)(k:Nat):SL:={sl:=[(0,sl a),(1,sl b),(7,i6 a.length),(8,i6 k)]}
theorem jm(a b:List Int)(h6:a.length<=1000000)(hl:b.length=a.length):Au Pg none 0 (aT 49 11010) (Al g0 30 (kE a b 0)) (B3 g0 30 [(Dx a b=false,.exit 0,{sl:=[]}),(True,.ret,{sl:=[(4,.bool (Dx a b))]})]):=by
 have haa:=Ap a
 have hbb:=Ap b
 refine C9 (aT 49 110100) (λk=>k<=a.length/\Dx a b=Dx (a.drop k) (b.drop k)) (kE a b) (λk=>a.length-k) (λk hk=>?_) 0 ⟨aG _,rfl⟩
 obtain⟨hk,he⟩:=hk
 by_cases hlt:k<a.length
 .have s1:=Dm hlt
  have s2:=Dm (l:=b) (k:=k) o_
  have h1:=IJ hlt (show k<b.length by omega)
  by_cases hxy:a.getD k 0=b.getD k 0
  .rw[if_pos hxy]at h1
   refine .inl ⟨k+1,[],[As 9,pl 13,ld 14 (i6 (a.getD k 0)),pl 17,ld 18 (i6 (b.getD k 0)),no 19,nu 29 ((k+1:Nat):Int)],1000,⟨hlt,by rw[he,h1]⟩,o_,?_⟩
   clear he h1
   generalize a.getD k 0=x,b.getD k 0=y at*
   exact C8 (let z1:=(↑k:Int);[_,_,_,An [(0:Int)<=z1,z1<(↑b.length:Int)],_,(x != y)=false,wr .i64 (z1+(1:Int))=(↑(k+1):Int)]) ⟨Bf hlt,Ar hlt,s1,a_,s2,a_⟩
  .rw[if_neg hxy]at h1
   rw[h1]at he
   have hdec:Dx a b=decide (a.getD k 0<b.getD k 0):=he
   refine .inr ⟨.ret,[],{sl:=[(4,.bool (Dx a b))]},[As 9,pl 13,ld 14 (i6 (a.getD k 0)),pl 17,ld 18 (i6 (b.getD k 0)),As 19,pl 22,ld 23 (i6 (a.getD k 0)),pl 26,ld 27 (i6 (b.getD k 0)),va 28 (.bool (Dx a b))],1000,.inr (.inl ⟨trivial,rfl,rfl⟩),?_⟩
   clear he h1
   generalize a.getD k 0=x,b.getD k 0=y,Dx a b=z at*
   exact Cj (let z0:=(↑k:Int);[_,_,_,An [(0:Int)<=z0,z0<(↑b.length:Int)],_,(x != y)=true,_,_,An [(0:Int)<=z0,z0<(↑b.length:Int)],_,B6 (B1 Tryz.prog) BinOp.lss 3 (i6 x) (i6 y)=some (V.bool z)]) ⟨Bf hlt,Ar hlt,s1,a_,s2,aq,Ar hlt,s1,a_,s2,(by(rw[hdec];rfl))⟩
 .have hk2:k=a.length:=o_
  have hf:Dx a b=false:=by
   rw[he,eQ o_]
   rfl
  subst hk2
  refine .inr ⟨.exit 0,[],{sl:=[]},[no 9],1000,.inl ⟨hf,rfl,rfl⟩,?_⟩
  clear he hf
  exact Cj [_] (Cq hlt)
theorem fq(a b:List Int)(h6:a.length<=1000000)(hl:b.length=a.length):Ag Pg g0 49 [sl a,sl b] (.bool (Dx a b)):=by
 have haa:=Ap a
 have hbb:=Ap b
 have h:=jm a b h6 hl
 generalize Dx a b=z at*
 refine Ch {sl:=[(4,.bool z)]} [(0,.loop [] (kE a b 0) [(z=false,.exit 0,{sl:=[]}),(True,.ret,{sl:=[(4,.bool z)]})])] ?_
 exact m_ (p:=An [Sm (V.bool z),An [An [An [Sm a.length,Sm (Aa a)],An [Sm b.length,Sm (Aa b)],Sm (↑a.length:Int),(↑(0:Nat):Int)=(0:Int),Tt],Tt],_,z=false->An [An [z=false,Tt],Tt],(True->An [An [z=z,Tt],Tt]),Tt]) ⟨aq,a_,h,a_⟩
def Dk(N M:List Mc):Bool:=decide (Aq N=Aq M)
theorem nY{M:List Mc}:Dk N M=true↔N.length=M.length/\∀k,k<N.length->(N.getD k Ao).c=(M.getD k Ao).c:=by
 unfold Dk
 rw[decide_eq_true_eq]
 constructor
 .intro h
  have hl:N.length=M.length:=by rw[<-Eg (N:=N),h,Eg]
  refine⟨hl,λk hk=>?_⟩
  rw[<-Oi hk,h,Oi o_]
 .rintro⟨hl,h⟩
  unfold Aq
  rw[hl]
  apply dZ
  intro k hk
  exact h k (by rw[hl];exact bB.1 hk)
abbrev gP(g g':Int)(n n':Nat)(R R':List V)(q:Nat)(N M:List V)(k:Nat):SL:={sl:=[(2,.ptr 0 0),(3,.ptr 1 0),(15,i6 q),(16,i6 k)],os:=[.row 34 none [i6 g,.im n R,.im q N],.row 34 none [i6 g',.im n' R',.im q M]]}
section
variable (g g':Int) (R R':List (List Int)) (N M:List Mc) (hq:N.length<=1000000) (hl:N.length=M.length)
include hq hl
theorem ce:Au Pg none 0 (aT 40 111010) (Al g0 33 (gP g g' R.length R'.length (Ah R) (Ah R') N.length (Ak N) (Ak M) 0)) (B3 g0 33 [(Dk N M=true,.exit 0,{sl:=[]}),(Dk N M=false,.ret,{sl:=[(4,.bool false)]})]):=by
 have hRR:=B7 R
 have hNN:=Cl N
 have hRR2:=B7 R'
 have hNN2:=Cl M
 refine C9 (aT 40 1110100) (λk=>k<=N.length/\∀i,i<k->(N.getD i Ao).c=(M.getD i Ao).c) (λk=>gP g g' R.length R'.length (Ah R) (Ah R') N.length (Ak N) (Ak M) k) (λk=>N.length-k) (λk hk=>?_) 0 ⟨aG _,λi h=>absurd h (aJ _)⟩
 obtain⟨hk,hin⟩:=hk
 by_cases hlt:k<N.length
 .have s1:=ML hlt
  have s2:=ML (N:=M) (k:=k) o_
  by_cases he:(N.getD k Ao).c=(M.getD k Ao).c
  .have hg: ∀i,i<k+1 ->(N.getD i Ao).c=(M.getD i Ao).c:=λi hi=>by
    by_cases hik:i=k
    .subst hik;exact he
    .exact hin i o_
   refine .inl ⟨k+1,[0,1],[As 17,pl 22,ld 24 (i6 (N.getD k Ao).c),pl 28,ld 30 (i6 (M.getD k Ao).c),no 31,nu 32 ((k+1:Nat):Int)],1000,⟨hlt,hg⟩,o_,?_⟩
   clear hin hg
   generalize (N.getD k Ao).c=x,(M.getD k Ao).c=y,Ah R=RR,Ak N=NN,Ah R'=RR2,Ak M=NN2 at*
   exact C8 [_,_,Ae (List.drop 0 (List.drop (k*4) NN))=some (i6 x),_,Ae (List.drop 0 (List.drop (k*4) NN2))=some (i6 y),(x != y)=false,wr .i64 ((↑k:Int)+(1:Int))=(↑(k+1):Int)] ⟨Bf hlt,Ar hlt,aq,Ar hlt,a_⟩
  .have hf:Dk N M=false:=by
    cases hb:Dk N M with
    |false=>rfl
    |true=>exact absurd ((nY.1 hb).2 k hlt) he
   refine .inr ⟨.ret,[],{sl:=[(4,.bool false)]},[As 17,pl 22,ld 24 (i6 (N.getD k Ao).c),pl 28,ld 30 (i6 (M.getD k Ao).c),As 31],1000,.inr (.inl ⟨hf,rfl,rfl⟩),?_⟩
   clear hin hf
   generalize (N.getD k Ao).c=x,(M.getD k Ao).c=y,Ah R=RR,Ak N=NN,Ah R'=RR2,Ak M=NN2 at*
   exact Cj [_,_,Ae (List.drop 0 (List.drop (k*4) NN))=some (i6 x),_,Ae (List.drop 0 (List.drop (k*4) NN2))=some (i6 y),(x != y)=true] ⟨Bf hlt,Ar hlt,aq,Ar hlt,a_⟩
 .have hk2:k=N.length:=o_
  have hf:Dk N M=true:=nY.2 ⟨hl,λi hi=>hin i o_⟩
  subst hk2
  refine .inr ⟨.exit 0,[],{sl:=[]},[no 17],1000,.inl ⟨hf,rfl,rfl⟩,?_⟩
  clear hin hf
  generalize Ah R=RR,Ak N=NN,Ah R'=RR2,Ak M=NN2 at*
  exact Cj [_] (Cq hlt)
end
theorem TH(g g':Int)(R R':List (List Int))(N M:List Mc)(hq:N.length<=1000000)(hq2:M.length<=1000000):Ag Pg g0 40 [Bd g R N,Bd g' R' M] (.bool (Dk N M)):=by
 have hRR:=B7 R
 have hNN:=Cl N
 have hRR2:=B7 R'
 have hNN2:=Cl M
 unfold Bd
 by_cases hl:N.length=M.length
 .have h:=ce g g' R R' N M hq hl
  generalize Dk N M=z at*
  refine Ch {sl:=[(4,.bool z)]} [no 12,(0,.loop [0,1] (gP g g' R.length R'.length (Ah R) (Ah R') N.length (Ak N) (Ak M) 0) [(z=true,.exit 0,{sl:=[]}),(z=false,.ret,{sl:=[(4,.bool false)]})])] ?_
  generalize Ah R=RR,Ak N=NN,Ah R'=RR2,Ak M=NN2 at*
  exact m_ (p:=An [Sm (V.bool z),((↑N.length:Int) != (↑M.length:Int))=false,An [An [Zz,Zz,Sm (↑N.length:Int),(↑(0:Nat):Int)=(0:Int),Tt],An [Sm [i6 g,V.im R.length RR,V.im N.length NN],TT 3],An [[i6 g',V.im R'.length RR2,V.im N.length NN2]=[i6 g',V.im R'.length RR2,V.im M.length NN2],TT 3],Tt],_,z=true->An [An [z=true,Tt],Tt],z=false->An [An [z=false,Tt],Tt],Tt]) ⟨aq,aq,a_,h,a_⟩
 .have hf:Dk N M=false:=by
   cases hb:Dk N M with
   |false=>rfl
   |true=>exact absurd (nY.1 hb).1 hl
  rw[hf]
  refine Ch {sl:=[(4,.bool false)]} [As 12] ?_
  clear hf
  generalize Ah R=RR,Ak N=NN,Ah R'=RR2,Ak M=NN2 at*
  exact Hu [Sm (V.bool false),((↑N.length:Int) != (↑M.length:Int))=true] a_
abbrev gR(g:Int)(n:Nat)(R:List V)(q:Nat)(N:List V)(k:Nat)(l:List Int):SL:={sl:=[(1,.ptr 0 0),(4,.sl 1 0 q (some (q-q))),(13,i6 q),(14,i6 k)],os:=[.row 34 none [i6 g,.im n R,.im q N],.row 3 none (Aa l)]}
abbrev gQ(g:Int)(n:Nat)(R:List V)(q:Nat)(N:List V)(l:List Int):SL:={sl:=[(1,.ptr 0 0),(4,.im q (Aa l))],os:=[.row 34 none [i6 g,.im n R,.im q N]]}
def Cb(n:Nat):List Int:=List.replicate n (-1)
section
variable (g:Int) (R:List (List Int)) (N:List Mc) (hq:N.length<=5)
include hq
theorem c9:Au Pg none 0 (aT 41 111010) (Al g0 30 (gR g R.length (Ah R) N.length (Ak N) 0 (Bm (λ_=> -1) N.length 0))) (B3 g0 30 [(True,.exit 0,gQ g R.length (Ah R) N.length (Ak N) (Bm (λ_=> -1) N.length N.length))]):=by
 have hRR:=B7 R
 have hNN:=Cl N
 refine C9 (aT 41 1110100) (λk=>k<=N.length) (λk=>gR g R.length (Ah R) N.length (Ak N) k (Bm (λ_=> -1) N.length k)) (λk=>N.length-k) (λk hk=>?_) 0 (aG _)
 by_cases hlt:k<N.length
 .have e:=MJ (f:=λ_=>(-1:Int)) (n:=N.length) (k:=k)
  have h1:=Nc (f:=λ_=>(-1:Int)) (n:=N.length) (k:=k)
  have h2:=Nc (f:=λ_=>(-1:Int)) (n:=N.length) (k:=k+1)
  have s1:=Ie (l:=Bm (λ_=>(-1:Int)) N.length k) (j:=k) (x:= -1) o_
  rw[e]at s1
  refine .inl ⟨k+1,[0,1],[As 15,pl 19,st (Aa (Bm (λ_=> -1) N.length (k+1))),nu 20 ((k+1:Nat):Int)],1000,hlt,o_,?_⟩
  clear e
  generalize Bm (λ_=>(-1:Int)) N.length k=a,Bm (λ_=>(-1:Int)) N.length (k+1)=b at*
  have haa:=Ap a
  have hbb:=Ap b
  generalize Ah R=RR,Ak N=NN,N.length=n at*
  exact C8 [_,_,_,wr .i64 ((↑k:Int)+(1:Int))=(↑(k+1):Int)] ⟨Bf hlt,Ar hlt,s1,aq⟩
 .have hk2:k=N.length:=o_
  subst hk2
  have h2:=Nc (f:=λ_=>(-1:Int)) (n:=N.length) (k:=N.length)
  refine .inr ⟨.exit 0,[0],gQ g R.length (Ah R) N.length (Ak N) (Bm (λ_=> -1) N.length N.length),[no 15],1000,.inl ⟨trivial,rfl,rfl⟩,?_⟩
  generalize Bm (λ_=>(-1:Int)) N.length N.length=b at*
  have hbb:=Ap b
  generalize Ah R=RR,Ak N=NN,N.length=n at*
  exact m_ (p:=An [_,An [Zz,An [n=n,Sm (Aa b),_],Tt],An [Sm [i6 g,V.im R.length RR,V.im n NN],TT 3],Tt]) ⟨Cq hlt,⟨aq,⟨aq,aq,hbb⟩,aq⟩,a_⟩
end
theorem oD:(Cb n).length=n:=by simp[Cb]
theorem Yf{k:Nat}(h:k<n):(Cb n).getD k 0= -1:=by
 unfold Cb
 rw[aA,List.getElem?_replicate,if_pos h];rfl
theorem YM(hc: ∀k,k<N.length->1<=(N.getD k Ao).c/\(N.getD k Ao).c<=4):Ey N (Cb N.length)=true:=YH.2 ⟨oD,λk hk=>by
 rw[Yf hk]
 have:=hc k hk
 omega⟩
theorem sQ(g:Int)(R:List (List Int))(N:List Mc)(hl:B8 R N)(h:Ck g R N=true):Ag Pg g0 41 [Bd g R N] (.tup [sl (Bp R N (Cb N.length)),i6 0]):=by
 have hRR:=B7 R
 have hNN:=Cl N
 have hM:=Is h
 have hq:=hM.q1
 have ht:=sH g R N hl h (Cb N.length) (by rw[oD];omega) (YM hM.cd)
 have hlo:=c9 g R N hq.2
 have e2:Bm (λ_=>(-1:Int)) N.length N.length=Cb N.length:=by
  rw[TW]
  unfold Cb
  rw[eT]
  refine⟨by simp,λb hb=>?_⟩
  obtain⟨i,_,rfl⟩:=cC.1 hb
  rfl
 rw[e2,JM]at hlo
 have hnl:=oD (n:=N.length)
 generalize Bp R N (Cb N.length)=w,Gl N.length=a,Aq N=b,Cb N.length=o at*
 have haa:=Ap a
 have hbb:=Ap b
 have hww:=Ap w
 have hoo:=Ap o
 unfold Bd at*
 clear e2 hM hl h
 have ho:sl o= .im N.length (Aa o):=by show V.im o.length _=_;rw[hnl]
 rw[ho]at ht
 refine Ch {sl:=[(2,sl w),(3,i6 0)]} [mk 11,(0,.loop [0,1] (gR g R.length (Ah R) N.length (Ak N) 0 (List.replicate N.length 0)) [(True,.exit 0,gQ g R.length (Ah R) N.length (Ak N) o)]),fn 24 (.tup [.agg [sl a,sl b,sl w],i6 0])] ?_
 generalize Ah R=RR,Ak N=NN at*
 exact m_ (p:=let z0:=(↑N.length:Int);let z1:=[i6 g,V.im R.length RR,V.im N.length NN];let z3:=(0:Int);let z2:=List.replicate N.length z3;An [Sm (V.tup [sl w,i6 0]),An [z3<=z0,z0<=z0,(↑(8:Nat):Int)*z0<=(281474976710656:Int),z0<=(9223372036854775807:Int)],An [An [Zz,An [Zz,Sm N.length,Sm (N.length-N.length)],z0=z0,(↑(0:Nat):Int)=z3,Tt],An [z1=z1,TT 3],An [Aa z2=Cx N.length [i6 0],Ba (Aa z2)],Tt],_,(True->An [_,An [An [Sm w.length,Sm (Aa w)],z3=z3,Tt],Tt]),Tt]) ⟨aq,a_,⟨a_,a_,⟨(Lh _ _).symm,aq⟩,aq⟩,hlo,(λ_=>⟨ht,a_⟩),aq⟩
def In(w:Nat->Int)(f:Nat->Bool):Nat->Int
 |0=>0
 |k+1=>if f k=true then In w f k+w k else In w f k
def Fk(w:Nat->Int)(f:Nat->Nat)(n k:Nat):List Int:=(List.range n).map λi=>In w (λx=>decide (f x=i)) k
theorem YS{f:Nat->Nat}{k:Nat}:(Fk w f n k).length=n:=by simp[Fk]
theorem mV{f:Nat->Nat}{k:Nat}(h:i<n):(Fk w f n k).getD i 0=In w (λx=>decide (f x=i)) k:=by
 unfold Fk
 rw[aA,bD,aB (by simpa using h)]
 simp
theorem dy{f:Nat->Nat}:Fk w f n 0=List.replicate n 0:=by
 unfold Fk
 rw[eT]
 refine⟨by simp,λb hb=>?_⟩
 obtain⟨i,_,rfl⟩:=cC.1 hb
 rfl
theorem Tz{f:Nat->Nat}{k:Nat}(h:f k<n):(Fk w f n k).set (f k) ((Fk w f n k).getD (f k) 0+w k)=Fk w f n (k+1):=by
 rw[mV h]
 apply cD
 intro i
 rw[bV]
 by_cases hik:f k=i
 .subst hik
  rw[if_pos rfl,if_pos (by rw[YS];exact h)]
  unfold Fk
  rw[bD,aB (by simpa using h)]
  simp[In]
 .rw[if_neg hik]
  unfold Fk
  simp only[bD]
  cases h2:(List.range n)[i]? with
  |none=>rfl
  | some x =>
   have:x=i:=by
    obtain⟨h1,h3⟩:=aM.1 h2
    simpa using h3.symm
   subst this
   simp only[Option.map_some,In]
   rw[if_neg (by simpa using hik)]
theorem uA{f:Nat->Bool}{b:Int}(hb:0<=b): ∀k:Nat,(∀i,i<k->0<=w i/\w i<=b)->0<=In w f k/\In w f k<=k*b
 |0,_=>by simp[In]
 |k+1,h=>by
  have h1:=uA (f:=f) hb k (λi hi=>h i o_)
  have h2:=h k o_
  have h3:((k+1:Nat):Int)*b=k*b+b:=by rw[Int.natCast_succ,dS,eW]
  unfold In
  split<;>omega
def Du(cs:List Int)(s:Nat)(v:List Int):Nat->Int
 |0=>0
 |k+1=>if s.testBit k=true then Du cs s v k*cs.getD k 0+v.getD k 0 else Du cs s v k
theorem XO{v:List Int}(hc: ∀k,k<cs.length->1<=cs.getD k 0/\cs.getD k 0<=4)(hv: ∀k,k<cs.length->0<=v.getD k 0/\v.getD k 0<cs.getD k 0): ∀k,k<=cs.length->0<=Du cs s v k/\Du cs s v k<Aw (Ax cs s) k
 |0,_=>by simp[Du,Aw]
 | k + 1, h => by
  obtain⟨h1,h2⟩:=XO hc hv k o_
  obtain⟨h3,h4⟩:=hv k o_
  have hm:=Vz (cs:=cs) (s:=s) (i:=k) o_
  unfold Du Aw
  rw[hm]
  split
  .rename_i hb
   generalize Du cs s v k=a,v.getD k 0=b,cs.getD k 0=c,Aw (Ax cs s) k=p at*
   have e1:(a+1)*c<=p*c:=bL o_ o_
   have e2:(a+1)*c=a*c+c:=by rw[dS,eW]
   have e3:0<=a*c:=bY h1 o_
   omega
  .omega
theorem IU(hc: ∀k,k<cs.length->1<=cs.getD k 0/\cs.getD k 0<=4)(h5:cs.length<=5): ∀k,k<=cs.length->1<=Aw (Ax cs s) k/\Aw (Ax cs s) k<=1024:=λk hk=>by
 have h:=TV (cs:=Ax cs s) (λi hi=>lF hc i (by rw[Mb]at hi;exact hi)) k (by rw[Mb];exact hk)
 have h45:(4:Int)^k<=4^5:=by
  have:=aH (show 4>0 by decide) (show k<=5 by omega)
  exact_mod_cast this
 have h46:(4:Int)^5=1024:=rfl
 omega
theorem Yn(h: ∀i,i<cs.length->s.testBit i=true):Ax cs s=cs:=by
 apply cD
 intro i
 by_cases hi:i<cs.length
 .have h1:=Vz (s:=s) hi
  rw[h i hi,if_pos rfl,aA,aB (by rw[Mb];exact hi),aA,aB hi]at h1
  rw[aB (by rw[Mb];exact hi),aB hi]
  exact congrArg some h1
 .rw[aX (by rw[Mb];omega),aX o_]
noncomputable abbrev KQ:Code:=aT 88 11111010
theorem QN:KQ= .rangeFunc (.tmp 29) #[30] (Wm KQ) (Ma KQ):=k_
noncomputable def KR:Code:=Ma KQ
noncomputable def QO:Code:=Wm KQ
abbrev Cw(v:V):O:=.row 47 none [v]
abbrev M8(A:List Int):O:=.row 3 (some 1) (Aa A)
abbrev KN(a b w:List Int):O:=.row 102 none [sl a,sl b,sl w]
abbrev H9(s:Nat):O:=.row 29 none [u6 s]
theorem Ur(v:V)(H:T O)(nx:Nat):vc Pg vE E0 (some 5) nx 1000 QO [] (Be g0 76 [(12,.ptr 4 0),(30,v)] H nx []) (N5 76 [(12,.ptr 4 0)] H nx []):=by
 exact m_ (p:=An [An [Sm (V.ptr 4 0),Tt],H=H,nx=nx,([]:List Nat)=[]]) a_
abbrev QP:O:=.row 3 none [i6 0]
theorem BV:A6 (pt H nx QP) 1 (.sl nx 0 1 (some 0))=some (1,[i6 0]):=by
 unfold A6;dsimp only;rw[Bh,T.get_put,if_pos rfl];rfl
theorem Uq(nx:Nat)(H:T O)(h1:gt H 4=some (Cw .nils))(hn:6<nx):
  vc Pg vE E0 (some 5) nx 1000 KR [A5 31 (Cw .nils) .nils,(33,.an 1 [i6 0]),so (Cw .nils) [.sl (nx+1) 0 1 none]] (Be g0 76 [(12,.ptr 4 0)] H nx [5]) (RU (pt (pt (pt H nx QP) (nx+1) (M8 [0])) 4 (Cw (.sl (nx+1) 0 1 none))) (nx+1+1) [4,5]):=by
 exact m_ (p:=let z1:=V.sl (nx+1) 0 1 none;let z2:=pt H nx (O.row 3 none [i6 0]);let z0:=pt z2 (nx+1) (O.row 3 (some 1) [i6 0]);An [_,Ae [V.nils]=some V.nils,An [A6 z2 1 (V.sl nx 0 1 (some 0))=some (1,[i6 0]),1<=9223372036854775807,1*8<=140737488355328],An [gt z0 4=some (Cw V.nils),Bg 0 [V.nils] [z1]=some [z1]],pt z0 4 (O.row 47 none [z1])=pt (pt (pt H nx QP) (nx+1) (M8 [(0:Int)])) 4 (Cw z1),Sm (nx+1+1),[4]++([]++[5])=[4,5]]) ⟨h1,(by rfl),⟨BV,a_⟩,⟨(by(rw[Ad,if_neg o_,Ad,if_neg o_];exact h1)),(by rfl)⟩,(by rfl),a_⟩
theorem Zq(nx h w:Nat)(A:List Int)(hA:A.length=w+1)(hw:w<=100000)(H:T O)(h1:gt H 4=some (Cw (.sl h 0 (w+1) none)))(h2:gt H h=some (M8 A))(hn:6<nx)(hh:h<nx)(hh2:6<h):
  vc Pg vE E0 (some 5) nx 1000 KR [A5 31 (Cw (.sl h 0 (w+1) none)) (.sl h 0 (w+1) none),(33,.ao (M8 A) 1 [i6 0]),so (Cw (.sl h 0 (w+1) none)) [.sl (nx+1) 0 (w+1+1) none]] (Be g0 76 [(12,.ptr 4 0)] H nx [5]) (RU (pt (pt (pt (pt H nx QP) h .dead) (nx+1) (.row 3 (some 1) (Aa A++[i6 0]))) 4 (Cw (.sl (nx+1) 0 (w+1+1) none))) (nx+1+1) [4,h,5]):=by
 have hA2:(Aa A).length=w+1:=by rw[F5];exact hA
 exact m_ (p:=let z1:=V.sl (nx+1) 0 (w+1+1) none;let z2:=V.sl h 0 (w+1) none;let z3:=pt H nx (O.row 3 none [i6 0]);let z4:=O.row 3 (some 1) (Aa A++[i6 0]);let z0:=pt (pt z3 h O.dead) (nx+1) z4;An [_,Ae [z2]=some z2,A6 z3 1 (V.sl nx 0 1 (some 0))=some (1,[i6 0]),gt z3 h=some (M8 A),List.length (Aa A)=(w+1)*1,w+1+1<=9223372036854775807,(w+1+1)*8<=140737488355328,An [gt z0 4=some (Cw z2),Bg 0 [z2] [z1]=some [z1]],pt z0 4 (O.row 47 none [z1])=pt (pt (pt (pt H nx QP) h O.dead) (nx+1) z4) 4 (Cw z1),Sm (nx+1+1),[4]++([h]++[5])=[4,h,5]]) ⟨h1,(by rfl),BV,(by(rw[Ad,if_neg o_];exact h2)),aq,aq,aq,⟨(by(rw[Ad,if_neg o_,Ad,if_neg o_,Ad,if_neg o_];exact h1)),(by rfl)⟩,a_⟩
structure ZQ(L0:O)(cs:List Int)(s:Nat)(F:O)(k:Nat)(H:T O)(n:Nat):Prop where
 b1:gt H 1=some (Cw (sl cs))
 b2:gt H 2=some (H9 s)
 b3:gt H 3=some F
 lp:gt H 5=some L0
 rw:gt H 6=some (Ay (A7 (Ax cs s) k))
 lo:7<=n
 sm:(k=0/\gt H 4=some (Cw .nils))\/∃h w,6<h/\h<n/\k=w+1/\gt H 4=some (Cw (.sl h 0 (w+1) none))/\gt H h=some (M8 (List.replicate (w+1) 0))
abbrev CZ(cs:List Int)(s:Nat):List (Nat×V):=[(4,.ptr 0 0),(6,.ptr 1 0),(7,.ptr 2 0),(10,.ptr 3 0),(12,.ptr 4 0),(29,.fn 87 [.imp [.im cs.length (Aa cs)],.imp [u6 s]])]
noncomputable abbrev jT(cs:List Int)(s:Nat):TM:=(Be g0 76 (CZ cs s) .e 0 []).tm
noncomputable abbrev HT(cs:List Int)(s:Nat)(ls:LoopState):O:=.loop ls none 0 (jT cs s) [30] QO KR
theorem Ru(w:Nat):Aa (List.replicate (w+1) 0)++[i6 0]=Aa (List.replicate (w+1+1) 0):=by
 have h:List.replicate (w+1+1) (0:Int)=List.replicate (w+1) 0++[0]:=List.replicate_succ'
 rw[h]
 unfold Aa
 rw[bP]
 rfl
theorem Uo(cs:List Int)(s q:Nat)(hq:cs.length=q)(F:O)(k:Nat)(hk:k<=10000)(H:T O)(nx:Nat)(M:ZQ (HT cs s .ready) cs s F k H nx):
  ∃K n' L,Ac Pg g0 (.yld 5) [.sl 6 0 q (some (q-q))] H nx ⟨.bool true,K,n',L⟩/\gt K 6=some (Ay (A7 (Ax cs s) k))/\ZQ (HT cs s .ready) cs s F (k+1) (pt K 6 (Ay (A7 (Ax cs s) (k+1)))) n':=by
 obtain⟨b1,b2,b3,lp,rw_,lo,sm⟩:=M
 rcases sm with⟨rfl,m1⟩|⟨h,w,g1,g2,rfl,m1,m2⟩
 .have hv:=Uq nx (pt H 5 (HT cs s .busy)) (by rw[Ad,if_neg d_];exact m1) o_
  refine⟨_,_,_,Ac.yldO vE_ok Bx Gy (n:=76) (hd:=5) (H:=H) (H1:=H) (fn0:=0) (tm:=jT cs s) (ps:=[30]) (assign:=QO) (body:=KR) (sl0:=[(12,.ptr 4 0),(30,.sl 6 0 q (some (q-q)))]) (sl1:=[(12,.ptr 4 0)]) lp rfl rfl rfl ⟨rfl,rfl,trivial⟩ (Ur _ H nx) lp hv ?_ (lH o_ (λi hi hr=>?_)),?_,?_⟩
  .simp only[Ad];repeat' split
   all_goals first|omega|(exact absurd trivial (by assumption))|rfl
  .simp only[aK,bE,or_false,not_or]at hi
   simp only[Ad];repeat' split
   all_goals first|omega|(exact absurd trivial (by assumption))|rfl
  .simp only[Ad];repeat' split
   all_goals first|omega|(exact absurd trivial (by assumption))|assumption
  .refine⟨?_,?_,?_,?_,?_,o_,.inr ⟨nx+1,0,o_,o_,rfl,?_,?_⟩⟩
   all_goals(simp only[Ad];repeat' split)
   all_goals first|omega|(exact absurd trivial (by assumption))|assumption|rfl
 .have hv:=Zq nx h w (List.replicate (w+1) 0) s_ o_ (pt H 5 (HT cs s .busy)) (by rw[Ad,if_neg d_];exact m1) (by rw[Ad,if_neg o_];exact m2) o_ g2 g1
  rw[Ru]at hv
  refine⟨_,_,_,Ac.yldO vE_ok Bx Gy (n:=76) (hd:=5) (H:=H) (H1:=H) (fn0:=0) (tm:=jT cs s) (ps:=[30]) (assign:=QO) (body:=KR) (sl0:=[(12,.ptr 4 0),(30,.sl 6 0 q (some (q-q)))]) (sl1:=[(12,.ptr 4 0)]) lp rfl rfl rfl ⟨rfl,rfl,trivial⟩ (Ur _ H nx) lp hv ?_ (lH o_ (λi hi hr=>?_)),?_,?_⟩
  .simp only[Ad];repeat' split
   all_goals first|omega|(exact absurd trivial (by assumption))|rfl
  .simp only[aK,bE,or_false,not_or]at hi
   simp only[Ad];repeat' split
   all_goals first|omega|(exact absurd trivial (by assumption))|rfl
  .simp only[Ad];repeat' split
   all_goals first|omega|(exact absurd trivial (by assumption))|assumption
  .refine⟨?_,?_,?_,?_,?_,o_,.inr ⟨nx+1,w+1,o_,o_,rfl,?_,?_⟩⟩
   all_goals(simp only[Ad];repeat' split)
   all_goals first|omega|(exact absurd trivial (by assumption))|assumption|rfl
theorem Up(cs:List Int)(s q:Nat)(hq:cs.length=q)(hs64:s<2^64)(h12:q<=8)(hc: ∀i,i<q->1<=cs.getD i 0/\cs.getD i 0<=4)(P:Nat)(hP:(P:Int)=Aw (Ax cs s) q)(hP1:1<=P)(hP2:P<=1024)(F:O)(H:T O)(lg:List Nat)
  (b1:gt H 1=some (Cw (sl cs)))(b2:gt H 2=some (H9 s))(b3:gt H 3=some F)(b4:gt H 4=some (Cw .nils)):
  ∃H1 n1 L,ZQ (HT cs s .ready) cs s F P H1 n1/\Au Pg none 0 KQ (Be g0 76 (CZ cs s) H 5 lg) (Oj g0 76 .normal (λ_=>CZ cs s) (λ_ H' nx' lg'=>H'=pt H1 5 .dead/\nx'=n1/\lg'=L++lg)):=by
 subst hq
 obtain⟨H1,n1,L,hM,hlog,hsat⟩:=zC cs s cs.length rfl hs64 h12 hc P hP hP1 (rd:=none) (nx0:=0) (n:=76) (nx:=5) (sl:=CZ cs s) (H:=H) (lg:=lg) (g:=.tmp 29) (ps:= #[30]) (asg:=QO) (body:=KR) rfl rfl (HT cs s .ready) rfl
  (λk H' n'=>ZQ (HT cs s .ready) cs s F k H' n')
  (by
   refine⟨?_,?_,?_,?_,?_,o_,.inl ⟨rfl,?_⟩⟩
   all_goals(simp only[Ad];repeat' split)
   all_goals first|omega|(exact absurd trivial (by assumption))|assumption|rfl)
  (λk hk H' n' hM=>Uo cs s cs.length rfl F k o_ H' n' hM)
  (λH' n' hM=>hM.lp)
 exact⟨H1,n1,L,hM,by rw[QN];exact hsat⟩
noncomputable abbrev Zp:Code:=aT 88 1111111010
theorem QM:Zp= .rangeFunc (.tmp 39) #[40] (Wm Zp) (Ma Zp):=k_
noncomputable def VV:Code:=Ma Zp
noncomputable def VW:Code:=Wm Zp
abbrev Mj(k:Int):O:=.row 3 none [i6 k]
abbrev QK(c:Nat):List (Nat×V):=[(6,.ptr 1 0),(7,.ptr 2 0),(10,.ptr 3 0),(12,.ptr 4 0),(13,.ptr c 0)]
theorem HS(c:Nat)(v:V)(H:T O)(nx:Nat):vc Pg vE E0 (some (c+1)) nx 1000 VW [] (Be g0 76 (QK c++[(40,v)]) H nx []) (N5 76 (QK c++[(14,v)]) H nx []):=by
 exact m_ (p:=An [An [Sm (V.ptr 1 0),Sm (V.ptr 2 0),Sm (V.ptr 3 0),Sm (V.ptr 4 0),Sm (V.ptr c 0),v=v,Tt],H=H,nx=nx,([]:List Nat)=[]]) a_
abbrev KP(c q:Nat)(k:Nat)(x:Int):List (Nat×V):=QK c++[(15,i6 x),(41,.sl (c+2) 0 q (some (q-q))),(42,i6 q),(43,i6 k)]
abbrev VU(c:Nat)(x:Int):List (Nat×V):=[(10,.ptr 3 0),(12,.ptr 4 0),(13,.ptr c 0),(15,i6 x)]
section
variable (cs v:List Int) (s q c:Nat) (hq:cs.length=q) (hs64:s<2^64) (h12:q<=5) (hc: ∀i,i<cs.length->1<=cs.getD i 0/\cs.getD i 0<=4) (hvl:v.length=q) (hv: ∀k,k<cs.length->0<=v.getD k 0/\v.getD k 0<cs.getD k 0)
include hq hs64 h12 hc hvl hv
theorem QL(nx0:Nat)(H:T O)(nx:Nat)(lg:List Nat)(b1:gt H 1=some (Cw (sl cs)))(b2:gt H 2=some (H9 s))(br:gt H (c+2)=some (Ay v)):
  Au Pg (some (c+1)) nx0 (sub [0,1,0,1,0] (Ma Zp)) (Be g0 76 (KP c q 0 0) H nx lg) (DQ g0 76 H nx lg [(True,.exit 4,VU c (Du cs s v q))]):=by
 subst hq
 refine Td (b:=sub [0,1,0,1,0,0] (Ma Zp)) k_ (λx=>x.1<=cs.length/\x.2=Du cs s v x.1) (λ(x:Nat×Int)=>KP c cs.length x.1 x.2) (λx=>cs.length-x.1) _ H nx lg (λx G hI hN hE=>?_) (0,0) ⟨aG _,rfl⟩
 obtain⟨k,x⟩:=x
 obtain⟨hk,hx0⟩:=hI
 dsimp only at hk hx0
 subst hx0
 have hcc:=Ap cs
 by_cases hlt:k<cs.length
 .have s1:=Px (l:=v) (k:=k) o_
  have s2:=Dm (l:=cs) (k:=k) o_
  have hck:=hc k hlt
  have hvk:=hv k hlt
  have b0:=XO (s:=s) hc hv k hk
  have b3:=XO (s:=s) hc hv (k+1) hlt
  have c1:=IU (s:=s) hc h12 (k+1) hlt
  have c0:=IU (s:=s) hc h12 k hk
  have b01:=Oa s k
  have w1:=LA (G:=B1 Pg) (t:=29) (x:=s) (k:=k) o_
  have w2:=SU (G:=B1 Pg) (t:=29) (x:=s/2^k)
  have hnext:=hN (k+1,Du cs s v (k+1)) ⟨hlt,rfl⟩ (by dsimp only;omega)
  dsimp only at hnext
  cases hbit:s.testBit k with
  |true=>
   have e1:Du cs s v (k+1)=Du cs s v k*cs.getD k 0+v.getD k 0:=by show(if s.testBit k=true then _ else _)=_;rw[if_pos hbit]
   have hx2:=b01.1.1 hbit
   have hm0:0<=Du cs s v k*cs.getD k 0:=bY b0.1 o_
   refine⟨[As 44,pl 46,A5 47 (Ay v) (i6 (v.getD k 0)),A5 48 (H9 s) (u6 s),va 50 (u6 (s/2^k:Nat)),va 51 (u6 (s/2^k%2:Nat)),As 52,A5 54 (Cw (sl cs)) (sl cs),pl 56,ld 57 (i6 (cs.getD k 0)),nu 58 (Du cs s v k*cs.getD k 0),nu 60 (Du cs s v (k+1)),nu 61 ((k+1:Nat):Int),toO (KP c cs.length (k+1) (Du cs s v (k+1)))],1000,?_⟩
   clear hN hE hc hv b01
   generalize Du cs s v (k+1)=p1,Du cs s v k=p0,cs.getD k 0=y,v.getD k 0=z,s/2^k=t at*
   exact m_ (p:=let z0:=V.sl (c+2) 0 cs.length (some (cs.length-cs.length));An [_,_,_,_,_,Ae [u6 ↑s]=some (u6 ↑s),_,_,((↑(t%2):Int)==(1:Int))=true,_,Ae [sl cs]=some (sl cs),_,_,wr .i64 (p0*y)=p0*y,wr .i64 (p0*y+z)=p1,_,_,Sm (V.ptr 1 0),Sm (V.ptr 2 0),Sm (V.ptr 3 0),Sm (V.ptr 4 0),Sm (V.ptr c 0),Sm (i6 p1),z0=z0,Sm (i6 ↑cs.length),Sm (i6 ↑(k+1)),Tt]) ⟨Bf hlt,Ar hlt,br,s1,b2,(by rfl),w1,w2,aq,b1,(by rfl),Ar hlt,s2,aq,aq,Dw k o_,hnext,a_⟩
  |false=>
   have e1:Du cs s v (k+1)=Du cs s v k:=by show(if s.testBit k=true then _ else _)=_;rw[if_neg (by rw[hbit];simp)]
   have hx2:=b01.2.1 hbit
   rw[e1]at hnext
   refine⟨[As 44,pl 46,A5 47 (Ay v) (i6 (v.getD k 0)),A5 48 (H9 s) (u6 s),va 50 (u6 (s/2^k:Nat)),va 51 (u6 (s/2^k%2:Nat)),no 52,nu 61 ((k+1:Nat):Int),toO (KP c cs.length (k+1) (Du cs s v k))],1000,?_⟩
   clear hN hE hc hv b01
   generalize Du cs s v k=p0,cs.getD k 0=y,v.getD k 0=z,s/2^k=t at*
   exact m_ (p:=let z0:=V.sl (c+2) 0 cs.length (some (cs.length-cs.length));An [_,_,_,_,_,Ae [u6 ↑s]=some (u6 ↑s),_,_,((↑(t%2):Int)==(1:Int))=false,_,_,Sm (V.ptr 1 0),Sm (V.ptr 2 0),Sm (V.ptr 3 0),Sm (V.ptr 4 0),Sm (V.ptr c 0),Sm (i6 p0),z0=z0,Sm (i6 ↑cs.length),Sm (i6 ↑(k+1)),Tt]) ⟨Bf hlt,Ar hlt,br,s1,b2,(by rfl),w1,w2,aq,Dw k o_,hnext,a_⟩
 .have hk2:k=cs.length:=o_
  subst hk2
  have hex:=hE 4 _ (.inl ⟨trivial,rfl,rfl⟩)
  refine⟨[no 44,toO (VU c (Du cs s v cs.length))],1000,?_⟩
  clear hN hE hc hv
  generalize Du cs s v cs.length=p0 at*
  exact m_ (p:=An [_,_,Sm (V.ptr 3 0),Sm (V.ptr 4 0),Sm (V.ptr c 0),Sm (i6 p0),Tt]) ⟨Cq hlt,hex,a_⟩
theorem HR(h P:Nat)(a b w S:List Int)(hS:S.length=P)(hP6:P<=1000000)(k:Nat)(hk:k<w.length)(hw6:w.length<=1000000)(x y:Int)(p:Nat)(hp:Du cs s v q=(p:Int))(hpP:p<P)(hx:S.getD p 0=x)(hy:w.getD k 0=y)(bx: -1000000000000000<=x/\x<=1000000000000000)(by_: -1000000000000000<=y/\y<=1000000000000000)(h6:6<h)(hhc:h<c)(H:T O)(nx:Nat)(b1:gt H 1=some (Cw (sl cs)))(b2:gt H 2=some (H9 s))(b3:gt H 3=some (KN a b w))(b4:gt H 4=some (Cw (.sl h 0 P none)))(bh:gt H h=some (M8 S))(bc:gt H c=some (Mj k))(br:gt H (c+2)=some (Ay v)):
  vc Pg vE E0 (some (c+1)) nx 1000 VV [rJ (KP c q 0 0) (.exit 4) (VU c (p:Nat)),A5 62 (Cw (.sl h 0 P none)) (.sl h 0 P none),pl 64,A5 65 (M8 S) (i6 x),A5 67 (KN a b w) (sl w),A5 68 (Mj k) (i6 k),pl 69,ld 70 (i6 y),nu 71 (x+y),pl 72,so (M8 S) (Aa (S.set p (x+y))),A5 73 (Mj k) (i6 k),nu 74 ((k+1:Nat):Int),so (Mj k) [i6 ((k+1:Nat):Int)]] (Be g0 76 (QK c++[(14,.sl (c+2) 0 q (some (q-q)))]) H nx [c+1]) (RU (pt (pt H h (M8 (S.set p (x+y)))) c (Mj ((k+1:Nat):Int))) nx [c,h,c+1]):=by
 have hin:=λlg=>QL cs v s q c hq hs64 h12 hc hvl hv nx H nx lg b1 b2 br
 rw[hp]at hin
 have s1:=Px (l:=S) (k:=p) o_
 rw[hx]at s1
 have s2:=Ie (l:=S) (j:=p) (x:=x+y) o_
 have s3:=Dm (l:=w) (k:=k) hk
 rw[hy]at s3
 have hwl:(S.set p (x+y)).length=P:=by rw[bJ];exact hS
 clear hc hv
 generalize S.set p (x+y)=S2 at*
 have hww:=Ap w
 exact m_ (p:=let z0:=pt H h (O.row 3 (some 1) (Aa S2));let z3:=V.sl h 0 P none;let z4:=V.sl (c+2) 0 q (some (q-q));let z5:=[i6 ↑(k+1)];let z6:=some (Mj (↑k:Int));An [An [Sm (V.ptr 1 0),Sm (V.ptr 2 0),Sm (V.ptr 3 0),Sm (V.ptr 4 0),Sm (V.ptr c 0),Sm (i6 0),z4=z4,Sm (i6 ↑q),i6 0=i6 ↑(0:Nat),Tt],Au Pg (some (c+1)) nx (sub [0,1,0,1,0] (Ma Zp)) (Be g0 76 (KP c q 0 (0:Int)) H nx [c+1]) (DQ g0 76 H nx [c+1] [(True,Ex.exit 4,VU c (↑p:Int))]),(True->An [_,Ae [z3]=some z3,_,_,_,_,Ae (Af (0+2) [sl a,sl b,sl w])=some (sl w),_,Ae [i6 ↑k]=some (i6 ↑k),_,_,wr .i64 (x+y)=x+y,_,An [_,_],gt z0 c=z6,Ae [i6 ↑k]=some (i6 ↑k),_,An [gt z0 c=z6,Bg 0 [i6 ↑k] z5=some z5],pt z0 c (O.row 3 none z5)=pt (pt H h (M8 S2)) c (Mj (↑(k+1):Int)),nx=nx,[c]++([h]++[c+1])=[c,h,c+1]]),Tt]) ⟨a_,aq,(λ_=>⟨b4,(by rfl),Ar hpP,bh,s1,b3,(by rfl),bc,(by rfl),Ar hk,s3,aq,Ar hpP,⟨bh,s2⟩,(by(rw[Ad,if_neg o_];exact bc)),(by rfl),Dw k o_,⟨(by(rw[Ad,if_neg o_];exact bc)),(by rfl)⟩,a_⟩),aq⟩
end
structure UN(L0:O)(cs:List Int)(s c h P:Nat)(a b w:List Int)(pf:Nat->Nat)(k:Nat)(H:T O)(n:Nat):Prop where
 b1:gt H 1=some (Cw (sl cs))
 b2:gt H 2=some (H9 s)
 b3:gt H 3=some (KN a b w)
 b4:gt H 4=some (Cw (.sl h 0 P none))
 bh:gt H h=some (M8 (Fk (λi=>w.getD i 0) pf P k))
 bc:gt H c=some (Mj k)
 lp:gt H (c+1)=some L0
 rw:gt H (c+2)=some (Ay (A7 cs k))
 lo:c+3<=n
abbrev CX(cs:List Int)(al c:Nat):List (Nat×V):=QK c++[(39,.fn 87 [.imp [.im cs.length (Aa cs)],.imp [u6 al]])]
noncomputable abbrev rY(cs:List Int)(al c:Nat):TM:=(Be g0 76 (CX cs al c) .e 0 []).tm
noncomputable abbrev CY(cs:List Int)(al c:Nat)(ls:LoopState):O:=.loop ls none 0 (rY cs al c) [40] VW VV
def Hn(cs:List Int)(s:Nat)(k:Nat):Nat:=(Du cs s (A7 cs k) cs.length).toNat
section
variable (cs:List Int) (s al c h P:Nat) (a b w:List Int) (hs64:s<2^64) (h12:cs.length<=5) (hc: ∀i,i<cs.length->1<=cs.getD i 0/\cs.getD i 0<=4) (hP:(P:Int)=Aw (Ax cs s) cs.length) (hw:(w.length:Int)=Aw cs cs.length) (hwb: ∀i,i<w.length->0<=w.getD i 0/\w.getD i 0<=500000000000) (h6:6<h) (hhc:h<c)
include hs64 h12 hc hP hw hwb h6 hhc
theorem Um(k:Nat)(hk:k<w.length)(H:T O)(nx:Nat)(M:UN (CY cs al c .ready) cs s c h P a b w (Hn cs s) k H nx):
  ∃K n' L,Ac Pg g0 (.yld (c+1)) [.sl (c+2) 0 cs.length (some (cs.length-cs.length))] H nx ⟨.bool true,K,n',L⟩/\gt K (c+2)=some (Ay (A7 cs k))/\UN (CY cs al c .ready) cs s c h P a b w (Hn cs s) (k+1) (pt K (c+2) (Ay (A7 cs (k+1)))) n':=by
 obtain⟨b1,b2,b3,b4,bh,bc,lp,rw_,lo⟩:=M
 obtain⟨hval,_⟩:=Pv (λi hi=>(hc i hi).1) (show(k:Int)<Aw cs cs.length by omega)
 have hpb:=XO (s:=s) hc hval cs.length (aC _)
 have h4:=IU (s:=s) hc h12 cs.length (aC _)
 have hw4:=TV hc cs.length (aC _)
 have h45:(4:Int)^cs.length<=4^5:=by
  have:=aH (show 4>0 by decide) h12
  exact_mod_cast this
 have h46:(4:Int)^5=1024:=rfl
 have hpe:Du cs s (A7 cs k) cs.length=(Hn cs s k:Nat):=by unfold Hn;omega
 have hpP:Hn cs s k<P:=o_
 have hset:=Tz (w:=λi=>w.getD i 0) (f:=Hn cs s) (n:=P) (k:=k) hpP
 have hgb:=uA (w:=λi=>w.getD i 0) (f:=λx=>decide (Hn cs s x=Hn cs s k)) (b:=500000000000) d_ k (λi hi=>hwb i o_)
 rw[<-mV hpP]at hgb
 have hwk:=hwb k hk
 have hv:=HR cs (A7 cs k) s cs.length c rfl hs64 h12 hc (Li cs k) hval h P a b w (Fk (λi=>w.getD i 0) (Hn cs s) P k) YS o_ k hk o_ _ _ _ hpe hpP rfl rfl o_ o_ h6 hhc (pt H (c+1) (CY cs al c .busy)) nx
  (by rw[Ad,if_neg o_];exact b1) (by rw[Ad,if_neg o_];exact b2) (by rw[Ad,if_neg o_];exact b3) (by rw[Ad,if_neg o_];exact b4) (by rw[Ad,if_neg o_];exact bh) (by rw[Ad,if_neg o_];exact bc) (by rw[Ad,if_neg o_];exact rw_)
 rw[hset]at hv
 refine⟨_,_,_,Ac.yldO vE_ok Bx Gy (n:=76) (hd:=c+1) (H:=H) (H1:=H) (fn0:=0) (tm:=rY cs al c) (ps:=[40]) (assign:=VW) (body:=VV) (sl0:=[(6,.ptr 1 0),(7,.ptr 2 0),(10,.ptr 3 0),(12,.ptr 4 0),(13,.ptr c 0),(40,.sl (c+2) 0 cs.length (some (cs.length-cs.length)))]) (sl1:=[(6,.ptr 1 0),(7,.ptr 2 0),(10,.ptr 3 0),(12,.ptr 4 0),(13,.ptr c 0),(14,.sl (c+2) 0 cs.length (some (cs.length-cs.length)))]) lp rfl rfl rfl ⟨rfl,rfl,rfl,rfl,rfl,rfl,trivial⟩ (HS c _ H nx) lp hv ?_ (lH o_ (λi hi hr=>?_)),?_,?_⟩
 .simp only[Ad];repeat' split
  all_goals first|omega|(exact absurd trivial (by assumption))|rfl
 .simp only[aK,bE,or_false,not_or]at hi
  simp only[Ad];repeat' split
  all_goals first|omega|(exact absurd trivial (by assumption))|rfl
 .simp only[Ad];repeat' split
  all_goals first|omega|(exact absurd trivial (by assumption))|assumption
 .refine⟨?_,?_,?_,?_,?_,?_,?_,?_,o_⟩
  all_goals(simp only[Ad];repeat' split)
  all_goals first|omega|(exact absurd trivial (by assumption))|assumption|rfl
theorem Un(hal: ∀i,i<cs.length->al.testBit i=true)(hal64:al<2^64)(H:T O)(lg:List Nat)(b1:gt H 1=some (Cw (sl cs)))(b2:gt H 2=some (H9 s))(b3:gt H 3=some (KN a b w))(b4:gt H 4=some (Cw (.sl h 0 P none)))(bh:gt H h=some (M8 (List.replicate P 0)))(bc:gt H c=some (Mj 0)):
  ∃H1 n1 L,UN (CY cs al c .ready) cs s c h P a b w (Hn cs s) w.length H1 n1/\Au Pg none 0 Zp (Be g0 76 (CX cs al c) H (c+1) lg) (Oj g0 76 .normal (λ_=>CX cs al c) (λ_ H' nx' lg'=>H'=pt H1 (c+1) .dead/\nx'=n1/\lg'=L++lg)):=by
 have hm:Ax cs al=cs:=Yn hal
 have hw1:=TV hc cs.length (aC _)
 have h0:UN (CY cs al c .ready) cs s c h P a b w (Hn cs s) 0 (pt (pt H (c+1) (CY cs al c .ready)) (c+1+1) (Ay (A7 (Ax cs al) 0))) (c+1+2):=by
  rw[hm]
  have hz:=dy (w:=λi=>w.getD i 0) (f:=Hn cs s) (n:=P)
  rw[<-hz]at bh
  refine⟨?_,?_,?_,?_,?_,?_,?_,?_,o_⟩
  all_goals(simp only[Ad];repeat' split)
  all_goals first|omega|(exact absurd trivial (by assumption))|assumption|rfl
 obtain⟨H1,n1,L,hM,hlog,hsat⟩:=zC cs al cs.length rfl hal64 o_ hc w.length (by rw[hm];exact hw) o_ (rd:=none) (nx0:=0) (n:=76) (nx:=c+1) (sl:=CX cs al c) (H:=H) (lg:=lg) (g:=.tmp 39) (ps:= #[40]) (asg:=VW) (body:=VV) rfl rfl (CY cs al c .ready) rfl
  (λk H' n'=>UN (CY cs al c .ready) cs s c h P a b w (Hn cs s) k H' n')
  h0
  (λk hk H' n' hM=>by
   rw[hm]
   exact Um cs s al c h P a b w hs64 h12 hc hP hw hwb h6 hhc k hk H' n' hM)
  (λH' n' hM=>hM.lp)
 exact⟨H1,n1,L,hM,by rw[QM];exact hsat⟩
end
theorem DY: ∀k,k<=N.length->Aw (Aq N) k=By N k
 |0,_=>rfl
 |k+1,h=>by
  unfold Aw By
  rw[DY k o_,Oi o_]
theorem SP(hc: ∀k,k<N.length->1<=(N.getD k Ao).c/\(N.getD k Ao).c<=4): ∀k,k<(Aq N).length->1<=(Aq N).getD k 0/\(Aq N).getD k 0<=4:=λk hk=>by
 rw[Eg]at hk
 rw[Oi hk]
 exact hc k hk
theorem Pw{s:List Int}:(Bp R N s).length=(By N N.length).toNat:=JK
theorem Xd(hM:Dz g R N){s:List Int}: ∀i,i<(Bp R N s).length->0<=(Bp R N s).getD i 0/\(Bp R N s).getD i 0<=500000000000:=λi hi=>by
 unfold Bp
 rw[Pw]at hi
 rw[LV hi]
 have h:=DS hM.wt hM.n1 (λx=>decide (Ct R N s x=i)) (B4 R R.length)
 have:=hM.w24
 omega
def Df(R:List (List Int))(N:List Mc)(act:List Int)(s:Nat):List Int:=Fk (λi=>(Bp R N act).getD i 0) (Hn (Aq N) s) (Aw (Ax (Aq N) s) (Aq N).length).toNat (Bp R N act).length
theorem HE{h:Nat}{lg:List Nat}{X:List Int}(h1:gt H h=some (M8 X)):
  Gc 0 [] (Be g0 76 [(8,.sl h 0 n none),(9,i6 0)] H nx lg) (Al g0 76 {sl:=[(8,.im n (Aa X)),(9,i6 0)]}):=by
 rw[Cm]at h1
 have hX:=Ap X
 refine⟨rfl,λg hg=>(by cases hg),cF,rfl,rfl,λi x hx=>?_,λh' o ho hlive=>?_,λh _ hlt=>absurd hlt (aJ _)⟩
 .have c6:gt (Hl (B0 76) [(8,V.sl h 0 n none),(9,i6 0)]) 8=some (.sl h 0 n none):=k_
  have c7:gt (Hl (B0 76) [(8,V.sl h 0 n none),(9,i6 0)]) 9=some (i6 0):=k_
  rw[Cm]at c6 c7
  rcases E2 _ _ _ _ hx with hmem|hmem
  .simp only[aK,bE,or_false]at hmem
   rcases hmem with hmem|hmem
   .cases hmem
    exact⟨_,c6,.inr (.inr ⟨h,0,none,_,_,_,rfl,⟨aG _,by simp,λ_ _=>aG _⟩,h1,Bq.of_hf _ hX⟩)⟩
   .cases hmem
    exact⟨_,c7,rfl⟩
  .rw[EJ]at hmem;cases hmem
 .simp[Al,Ai]at ho
theorem ZK(g:Int)(R:List (List Int))(N:List Mc)(hl:B8 R N)(h:Ck g R N=true)(act:List Int)(h6:act.length<=1000000)(hS:Ey N act=true)(s:Nat)(hs64:s<2^64):Ag Pg g0 88 [Bd g R N,sl act,sl (Aq N),u6 s] (.tup [sl (Df R N act s),i6 0]):=by
 have hRR:=B7 R
 have hNN:=Cl N
 have hacc:=Ap act
 have hM:=Is h
 have ht:=sH g R N hl h act h6 hS
 have hq:=hM.q1
 have hcl:=Eg (N:=N)
 have hcb:=SP hM.cd
 have hP4:=IU (s:=s) hcb o_ (Aq N).length (aC _)
 have hz1:=(AZ hM.cd N.length (aC _)).1
 have hwl:((Bp R N act).length:Int)=Aw (Aq N) (Aq N).length:=by rw[hcl,DY N.length (aC _),Pw];omega
 have hwb:=Xd hM (s:=act)
 obtain⟨P,hPe⟩: ∃P:Nat,(P:Int)=Aw (Ax (Aq N) s) (Aq N).length:=⟨(Aw (Ax (Aq N) s) (Aq N).length).toNat,o_⟩
 have heff:Df R N act s=Fk (λi=>(Bp R N act).getD i 0) (Hn (Aq N) s) P (Bp R N act).length:=by unfold Df;rw[<-hPe,cS]
 rw[heff]
 have hb1:=TZ (Aq N) s
 have hb2:=TZ (Aq N) (Jj (Aq N).length)
 obtain⟨z2,hz2⟩: ∃z,z=2^(Aq N).length:=⟨_,rfl⟩
 obtain⟨sh1,sh2⟩:=WI (G:=B1 Pg) (t:=29) (k:=(Aq N).length) o_
 have sh3:1<=2^(Aq N).length:=Nat.one_le_two_pow
 have sh4:(Jj (Aq N).length:Int)=(z2:Int)-1:=by unfold Jj;omega
 have hal64:Jj (Aq N).length<2^64:=by unfold Jj;omega
 have hal: ∀i,i<(Aq N).length->(Jj (Aq N).length).testBit i=true:=λi hi=>by
  unfold Jj
  rw[dK]
  exact decide_eq_true hi
 rw[<-hz2]at sh1 sh2 sh3
 have sh5:wr .u64 ((z2:Int)-1)=(Jj (Aq N).length:Int):=by rw[sh4];exact Vu (by simp[lo];omega) (by simp[hi];omega)
 generalize Gl N.length=vr,Bp R N act=w at*
 have hww:=Ap w
 generalize Aq N=cs at*
 have hcs:=Ap cs
 obtain⟨H1,n1,L1,hE1,hsat1⟩:=Up cs s cs.length rfl hs64 o_ hcb P hPe o_ o_ (KN vr cs w) (pt (pt (pt (pt (pt (pt .e 0 (.row 34 none [i6 g,.im R.length (Ah R),.im N.length (Ak N)])) 1 (Cw (sl cs))) 2 (H9 s)) 3 (.row 102 none [.nils,.nils,.nils])) 3 (KN vr cs w)) 4 (Cw .nils)) [3] rfl rfl rfl rfl
 obtain⟨c1,c2,c3,c4,c5,c6,c7⟩:=hE1
 rcases c7 with⟨e,_⟩|⟨hh,v0,q1,q2,q3,q4,q5⟩
 .omega
 rw[<-q3]at q4 q5
 obtain⟨H2,n2,L2,hE2,hsat2⟩:=Un cs s (Jj cs.length) n1 hh P vr cs w hs64 o_ hcb hPe hwl hwb q1 q2 hal hal64 (pt (pt (pt H1 5 .dead) n1 (Mj 0)) n1 (Mj 0)) (n1::(L1++[3]))
  (by
    simp only[Ad];repeat' split
    all_goals first|omega|(exact absurd trivial (by assumption))|assumption)
  (by
    simp only[Ad];repeat' split
    all_goals first|omega|(exact absurd trivial (by assumption))|assumption)
  (by
    simp only[Ad];repeat' split
    all_goals first|omega|(exact absurd trivial (by assumption))|assumption)
  (by
    simp only[Ad];repeat' split
    all_goals first|omega|(exact absurd trivial (by assumption))|assumption)
  (by
    simp only[Ad];repeat' split
    all_goals first|omega|(exact absurd trivial (by assumption))|assumption)
  (by
    simp only[Ad];repeat' split
    all_goals first|omega|(exact absurd trivial (by assumption))|rfl)
 obtain⟨d1,d2,d3,d4,d5,d6,d7,d8,d9⟩:=hE2
 have r1:gt (pt H2 (n1+1) .dead) 4=some (Cw (.sl hh 0 P none)):=by rw[Ad,if_neg o_];exact d4
 have r2:gt (pt H2 (n1+1) .dead) hh=some (M8 (Fk (λi=>w.getD i 0) (Hn cs s) P w.length)):=by rw[Ad,if_neg o_];exact d5
 have hlen:(Fk (λi=>w.getD i 0) (Hn cs s) P w.length).length=P:=YS
 generalize Fk (λi=>w.getD i 0) (Hn cs s) P w.length=X at*
 have hXX:=Ap X
 have eX:sl X= .im P (Aa X):=by show V.im X.length _=_;rw[hlen]
 rw[eX]
 generalize Jj cs.length=al at*
 have rc:gt (pt H1 5 .dead) 1=some (Cw (sl cs)):=by rw[Ad,if_neg o_];exact c1
 have gcf:=λlg=>HE (nx:=n2) (n:=P) (lg:=lg) r2
 clear d1 d2 d3 d4 d5 d6 d7 d8 q4 q5 c1 c2 c3 c4 c5 hM hwb hcb heff hPe hwl eX
 unfold Bd at*
 refine Ag.of_vcX (n:=1000) (r:=[]) (sl:=[(8,.sl hh 0 P none),(9,i6 0)]) (S:={sl:=[(8,.im P (Aa X)),(9,i6 0)]}) (hs:=[fn 21 (.tup [.agg [sl vr,sl cs,sl w],i6 0]),fn 29 (.fn 87 [.imp [.im cs.length (Aa cs)],.imp [u6 s]]),(0,.loopM (CZ cs s) .normal (λ_=>CZ cs s) (λ_ H' nx' lg'=>H'=pt H1 5 .dead/\nx'=n1/\lg'=L1++[3]) (λ_ _ _ _=>[so (Mj 0) [i6 0],A5 34 (Cw (sl cs)) (sl cs),A5 35 (Cw (sl cs)) (sl cs),va 37 (u6 z2),nu 38 ((al:Nat):Int),fn 39 (.fn 87 [.imp [.im cs.length (Aa cs)],.imp [u6 al]]),(0,.loopM (CX cs al n1) .normal (λ_=>CX cs al n1) (λ_ H' nx' lg'=>H'=pt H2 (n1+1) .dead/\nx'=n2/\lg'=L2++(n1::(L1++[3]))) (λ_ _ _ _=>[A5 75 (Cw (.sl hh 0 P none)) (.sl hh 0 P none)]))]))]) ?_
 generalize Ah R=RR,Ak N=NN at*
 refine m_ (p:=let z0:=V.im cs.length (Aa cs);let z1:=O.row 3 none [i6 0];let z4:=V.sl hh 0 P none;let z7:=V.tup [V.im P (Aa X),i6 0];let z8:=V.ptr 1 0;let z9:=V.ptr 2 0;let y0:=V.ptr 3 0;let y1:=V.ptr 4 0;let z3:=V.fn 87 [V.imp [z0],V.imp [u6 ↑al]];let z5:=V.fn 87 [V.imp [z0],V.imp [u6 ↑s]];An [z7=z7,_,_,An [Sm (V.ptr 0 0),z8=z8,z9=z9,y0=y0,y1=y1,z5=z5,_],Au Pg none 0 (aT 88 11111010) (Be g0 76 (CZ cs s) (pt (pt (pt (pt (pt (pt T.e 0 (O.row 34 none [i6 g,V.im R.length RR,V.im N.length NN])) 1 (O.row 47 none [sl cs])) 2 (O.row 29 none [u6 ↑s])) 3 (O.row 102 none [V.nils,V.nils,V.nils])) 3 (O.row 102 none [sl vr,sl cs,sl w])) 4 (O.row 47 none [V.nils])) 5 ([]++([3]++([]++[])))) (Oj g0 76 Ex.normal (λx=>CZ cs s) λx H' nx' lg'=>H'=pt H1 5 O.dead/\nx'=n1/\lg'=L1++[3]),∀(h:Nat)(H:T O)(nx:Nat)(lg:List Nat),H=pt H1 5 O.dead/\nx=n1/\lg=L1++[3]->(gt (pt H nx z1) nx=some (Mj (0:Int))/\Bg 0 [i6 0] [i6 0]=some [i6 0])/\gt (pt (pt H nx z1) nx z1) 1=some (Cw (sl cs))/\Ae [sl cs]=some (sl cs)/\gt (pt (pt H nx z1) nx z1) 1=some (Cw (sl cs))/\Ae [sl cs]=some (sl cs)/\B6 (B1 Tryz.prog) BinOp.shl 29 (u6 1) (i6 ↑cs.length)=some (u6 ↑z2)/\wr .u64 ((↑z2:Int)-(1:Int))=(↑al:Int)/\Ag Pg g0 47 [z0,u6 ↑al] z3/\(z8=z8/\z9=z9/\y0=y0/\y1=y1/\V.ptr nx 0=V.ptr n1 0/\z3=z3/\True)/\Au Pg none 0 (aT 88 1111111010) (Be g0 76 (CX cs al n1) (pt (pt H nx z1) nx z1) (nx+1) ([]++([nx]++lg))) (Oj g0 76 Ex.normal (λx=>CX cs al n1) λx H' nx' lg'=>H'=pt H2 (n1+1) O.dead/\nx'=n2/\lg'=L2++n1::(L1++[3]))/\∀(h:Nat)(H:T O)(nx:Nat)(lg:List Nat),H=pt H2 (n1+1) O.dead/\nx=n2/\lg=L2++n1::(L1++[3])->gt H 4=some (Cw z4)/\Ae [z4]=some z4/\(z4=z4/\i6 0=i6 0/\True)/\Gc 0 [] (Be g0 76 [(8,z4),(9,i6 0)] H nx lg) (Al g0 76 (SL.mk [(8,V.im P (Aa X)),(9,i6 0)] [] [] []))]) ⟨aq,ht,hb1,⟨aq,aq,aq,aq,aq,aq,aq⟩,aq,?_⟩
 (repeat'(first|(with_reducible apply And.intro)|(refine λ(_:True)=>?_)))
 all_goals first|exact ht|exact hb1|exact hb2|exact hsat1|(rintro h H nx lg ⟨rfl,rfl,rfl⟩;(repeat'(first|(with_reducible apply And.intro)|(refine λ(_:True)=>?_)));all_goals first|rfl|exact aq|exact hsat2|exact r1|(rw[Ad,if_pos rfl];done)|(rw[Ad,if_neg o_,Ad,if_neg o_];exact rc)|(rintro h H nx lg ⟨rfl,rfl,rfl⟩;(repeat'(first|(with_reducible apply And.intro)|(refine λ(_:True)=>?_)));all_goals first|rfl|exact aq|exact r1|exact gcf _|skip)|skip)|exact aq|skip
def B5:Nat->(Nat->Int)->Int
 |0,_=>0
 |k+1,f=>B5 k f+f k
theorem MN: ∀k,(∀i,i<k->f i=f' i)->B5 k f=B5 k f'
 |0,_=>rfl
 |k+1,h=>by
  unfold B5
  rw[MN k (λi hi=>h i o_),h k o_]
theorem vY: ∀k,B5 k (λi=>f i+f' i)=B5 k f+B5 k f'
 |0=>rfl
 |k+1=>by
  unfold B5
  rw[vY k]
  dsimp only
  omega
theorem oV: ∀k,B5 k (λ_=>0)=0
 |0=>rfl
 |k+1=>by
  unfold B5
  rw[oV k];rfl
theorem oK(c:Int): ∀k,B5 k (λi=>c*f i)=c*B5 k f
 |0=>by simp[B5]
 |k+1=>by
  unfold B5
  rw[oK c k,Int.mul_add]
theorem oW{f:Nat->Nat->Int}(b:Nat): ∀a,B5 a (λx=>B5 b (λd=>f x d))=B5 b (λd=>B5 a (λx=>f x d))
 |0=>(oV b).symm
 |a+1=>by
  show B5 a (λx=>B5 b (λd=>f x d))+B5 b (λd=>f a d)=B5 b (λd=>B5 a (λx=>f x d)+f a d)
  rw[oW b a,vY]
theorem a8(a:Nat): ∀b,B5 (a+b) f=B5 a f+B5 b (λi=>f (a+i))
 |0=>by simp[B5]
 |b+1=>by
  show B5 (a+b) f+f (a+b)=B5 a f+(B5 b (λi=>f (a+i))+f (a+b))
  rw[a8 a b]
  omega
theorem zR(r:Nat): ∀a,B5 (a*r) f=B5 a (λx=>B5 r (λd=>f (x*r+d)))
 |0=>by rw[Nat.zero_mul];rfl
 |a+1=>by
  rw[eK,Nat.one_mul,a8,zR r a]
  rfl
theorem tS: ∀k,(∀i,i<k->f i<=f' i)->B5 k f<=B5 k f'
 |0,_=>Int.le_refl _
 |k+1,h=>by
  have h1:=tS k (λi hi=>h i o_)
  have h2:=h k o_
  unfold B5
  omega
theorem XF{f:Nat->Bool}: ∀k,Dn R f k=B5 k (λx=>if f x=true then Ei R x else 0)
 |0=>rfl
 |k+1=>by
  unfold Dn B5
  rw[XF k]
  dsimp only
  split
  .rfl
  .omega
theorem nP: ∀k,Ez R k=B5 k (Ei R)
 |0=>rfl
 |k+1=>by
  unfold Ez B5
  rw[nP k]
theorem tZ{f:Nat->Bool}: ∀k,In w f k=B5 k (λx=>if f x=true then w x else 0)
 |0=>rfl
 |k+1=>by
  unfold In B5
  rw[tZ k]
  dsimp only
  split
  .rfl
  .omega
theorem MM{α:Type}{d:α}(l:List α)(x:α)(k:Nat):(l++[x]).getD k d=if k<l.length then l.getD k d else if k=l.length then x else d:=by
 rw[aA,dR]
 by_cases h:k<l.length
 .rw[if_pos h,if_pos h,aA]
 .rw[if_neg h,if_neg h]
  by_cases h2:k=l.length
  .subst h2;simp
  .rw[if_neg h2]
   obtain⟨m,hm⟩: ∃m,k-l.length=m+1:=⟨k-l.length-1,o_⟩
   rw[hm];rfl
section
variable (R:List (List Int)) (L:List Int)
theorem Wt:(R++[L]).length=R.length+1:=by simp
theorem vQ:K4 (R++[L]) ((R++[L]).length-1-0)=L.length:=by
 unfold K4
 rw[Wt,MM,if_neg o_,if_pos o_]
theorem mZ(t:Nat)(h:t<R.length):(R++[L]).getD ((R++[L]).length-1-(t+1)) []=R.getD (R.length-1-t) []:=by
 rw[Wt,MM,if_pos o_]
 congr 1
 omega
theorem sJ(hd:d<L.length): ∀t,t<=R.length->xq (R++[L]) (x*L.length+d) (t+1)=xq R x t
 |0,_=>by
  show xq (R++[L]) (x*L.length+d) 0/K4 (R++[L]) ((R++[L]).length-1-0)=x
  rw[vQ]
  show(x*L.length+d)/L.length=x
  rw[eP,Nat.add_mul_div_right _ _ o_,cW hd,cM]
 |t+1,h=>by
  show xq (R++[L]) (x*L.length+d) (t+1)/K4 (R++[L]) ((R++[L]).length-1-(t+1))=xq R x t/K4 R (R.length-1-t)
  rw[sJ hd t o_]
  unfold K4
  rw[mZ R L t o_]
theorem vS(hd:d<L.length):Gp (R++[L]) (x*L.length+d) 0=d:=by
 unfold Gp
 rw[vQ]
 show(x*L.length+d)%L.length=d
 rw[eP,Nat.add_mul_mod_self_right,bO hd]
theorem sL(hd:d<L.length)(t:Nat)(h:t<R.length):Gp (R++[L]) (x*L.length+d) (t+1)=Gp R x t:=by
 unfold Gp
 rw[sJ R L hd t o_]
 unfold K4
 rw[mZ R L t h]
theorem sK(hd:d<L.length): ∀t,t<=R.length->wq (R++[L]) (x*L.length+d) (t+1)=wq R x t*L.getD d 0
 |0,_=>by
  show wq (R++[L]) (x*L.length+d) 0*((R++[L]).getD ((R++[L]).length-1-0) []).getD (Gp (R++[L]) (x*L.length+d) 0) 0=1*L.getD d 0
  rw[vS R L hd,Wt,MM,if_neg o_,if_pos o_]
  rfl
 |t+1,h=>by
  show wq (R++[L]) (x*L.length+d) (t+1)*((R++[L]).getD ((R++[L]).length-1-(t+1)) []).getD (Gp (R++[L]) (x*L.length+d) (t+1)) 0=wq R x t*(R.getD (R.length-1-t) []).getD (Gp R x t) 0*L.getD d 0
  rw[sK hd t o_,mZ R L t o_,sL R L hd t o_,eU,Int.mul_comm (L.getD d 0),eU]
theorem Qv(hd:d<L.length):Ei (R++[L]) (x*L.length+d)=Ei R x*L.getD d 0:=by
 unfold Ei
 rw[Wt]
 exact sK R L hd R.length (aC _)
theorem Qu(hd:d<L.length):B2 (R++[L]) (x*L.length+d)=B2 R x++[(d:Int)]:=by
 apply cD
 intro i
 by_cases hi:i<R.length+1
 .have h1:=WE (R:=R++[L]) (x:=x*L.length+d) (i:=i) (by rw[Wt];exact hi)
  have h2:(B2 R x++[(d:Int)]).getD i 0=(B2 (R++[L]) (x*L.length+d)).getD i 0:=by
   rw[h1,MM,Pj,Wt]
   by_cases hlt:i<R.length
   .rw[if_pos hlt,WE hlt,show R.length+1-1-i=(R.length-1-i)+1 by omega,sL R L hd _ o_]
   .rw[if_neg hlt,if_pos o_,show R.length+1-1-i=0 by omega,vS R L hd]
  rw[aA,aA,aB (by rw[aR,Pj];simpa using hi),aB (by rw[Pj,Wt];exact hi)]at h2
  rw[aB (by rw[Pj,Wt];exact hi),aB (by rw[aR,Pj];simpa using hi)]
  exact congrArg some h2.symm
 .rw[aX (by rw[Pj,Wt];omega),aX (by rw[aR,Pj];simp;omega)]
theorem vR: ∀k,k<=R.length->B4 (R++[L]) k=B4 R k
 |0,_=>rfl
 |k+1,h=>by
  unfold B4
  rw[vR k o_,MM,if_pos o_]
theorem Xh:B4 (R++[L]) (R++[L]).length=B4 R R.length*L.length:=by
 rw[Wt]
 show B4 (R++[L]) R.length*((R++[L]).getD R.length []).length=_
 rw[vR R L _ (aC _),MM,if_neg o_,if_pos rfl]
end
theorem bu(R:List (List Int))(L:List Int)(F:List Int->Int):B5 (B4 (R++[L]) (R++[L]).length) (λx=>Ei (R++[L]) x*F (B2 (R++[L]) x))=B5 L.length (λd=>L.getD d 0*B5 (B4 R R.length) (λx=>Ei R x*F (B2 R x++[(d:Int)]))):=by
 rw[Xh,zR,oW]
 refine MN _ λd hd=>?_
 rw[<-oK]
 refine MN _ λx _=>?_
 rw[Qv R L hd,Qu R L hd,Int.mul_comm (Ei R x),eU]
theorem du(L:List Int):B5 L.length (λd=>L.getD d 0)=Cd L:=by
 have key: ∀k,k<=L.length->B5 k (λd=>L.getD d 0)=Cd (L.take k):=by
  intro k
  induction k with
  |zero=>intro _;rfl
  |succ k ih=>
   intro h
   unfold B5
   rw[ih o_,dF,aB o_,YG]
   dsimp only
   rw[aA,aB o_]
   simp[Cd]
 have:=key L.length (aC _)
 rw[List.take_length]at this
 exact this
theorem oM(g:Int): ∀(n:Nat)(R:List (List Int)),R.length=n->(∀L∈R,Cd L=g)->Ez R (B4 R R.length)=g^n
 |0,R,h,_=>by
  have:R=[]:=List.length_eq_zero_iff.1 h
  subst this
  simp[B4,Ez,Ei,wq]
 |n+1,R,h,hs=>by
  obtain⟨R',L,rfl⟩: ∃R' L,R=R'++[L]:=⟨R.dropLast,R.getLast (by intro e;subst e;simp at h),(List.dropLast_concat_getLast _).symm⟩
  have hl:R'.length=n:=by simpa using h
  have ih:=oM g n R' hl (λL' hL=>hs L' (dQ _ hL))
  rw[nP]at ih⊢
  have hw:=bu R' L (λ_=>1)
  simp only[Int.mul_one]at hw
  rw[hw,show(λx=>Ei R' x)=Ei R' from rfl,ih]
  rw[show(λd=>L.getD d 0*g^n)=λd=>g^n*L.getD d 0 from funext λd=>Int.mul_comm _ _,oK,du,hs L s_,cV]
noncomputable def Tn(H:T O)(nx:Nat)(L:List Nat):KF:=λe _ st=>match e with
 | .ret=>st.H=H/\st.nx=nx/\D8 st.lg L
 | _=>False
theorem Ac.yldR{P:Program}{E:B9}{sp:Ld}(hE:E.Ok P)(hm:P.follows .mixedOrders=true){gl:T (List V)}(hsp:Lf P gl sp){hd:Nat}{ars:List V}{H2:T O}{nx2:Nat}{tm tm1:TM}{ps:List Nat}{assign:Code}{fn0:Nat}{sl0 sl1:List (Nat×V)}{L:List Nat}{hs0:Hs}{hs1:O->Hs}{m0 m1:Nat}
  (ho:gt H hd=some (.loop .ready none fn0 tm ps assign body))(htm1:Iy tm ps ars=some tm1)(hn:tm1.n=n)(hg:tm1.gl=gl)(h0:C4 tm1 sl0)
  (ha: ∀(H:T O)(nx:Nat),vc P E sp (some hd) nx m0 assign hs0 (Be gl n sl0 H nx []) (M0 n sl1 H nx))
  (hb: ∀Lb:O,vc P E sp (some hd) nx m1 body (hs1 Lb) (Be gl n sl1 (pt H hd Lb) nx [hd]) (Tn (pt H2 hd Lb) nx2 L))
  (hL:hd∈L)(hlog:C5 H.get nx (pt H2 hd (.loop .done (some .ret) fn0 tm ps assign body)).get nx2 L):Ac P gl (.yld hd) ars H nx ⟨.bool false,pt H2 hd (.loop .done (some .ret) fn0 tm ps assign body),nx2,L⟩:=by
 rw[Cm]at ho
 refine Ac.yld ho htm1 hlog ?_
 have hst:(⟨tm1,H,nx,[]⟩:St)=⟨⟨tm1.sl,gl,n⟩,H,nx,[]⟩:=by cases tm1;subst hn hg;rfl
 rw[hst]
 refine Au.fewer (sl:=sl0) (by obtain⟨a,b,c⟩:=tm1;cases hn;cases hg;exact h0) ?_
 refine Au.fewer_post ?_
 refine Au.of_vc hE hm hsp rfl (ha H nx) λe hs' st' hgl hk=>?_
 unfold M0 at hk
 split at hk
 .obtain⟨hb1,k1,k2,k3,k4⟩:=Fc hk
  have hn':=aF hb1
  refine⟨sl1,k1,rfl,none,fn0,tm,ps,assign,body,by show st'.H.get hd=_;rw[k2];exact ho,?_⟩
  show Au P (some hd) nx body ⟨_,st'.H.put hd _,st'.nx,hd::st'.lg⟩ _
  rw[k2,k3,k4]
  have e0:(Be st'.tm.gl st'.tm.n sl1 H nx []).tm=(Be gl n sl1 H nx []).tm:=by rw[hgl,hn']
  rw[e0]
  have hb':=hb (.loop .busy none fn0 tm ps assign body)
  rw[Bh]at hb'
  refine Au.of_vc hE hm hsp rfl hb' λe hs2 st2 hgl2 hk2=>?_
  unfold Tn at hk2
  split at hk2
  .obtain⟨q1,q2,q3⟩:=hk2
   refine⟨rfl,.busy,none,fn0,tm,ps,assign,body,by rw[q1,Bh,T.get_put,if_pos rfl],rfl,?_,q2.symm,λx hx=>?_⟩
   .show pt H2 hd _=_
    rw[q1,<-Bh,Wn];rfl
   .rcases aK.1 hx with rfl|hx
    .exact hL
    .exact q3 x hx
  .exact hk2.elim
 .exact hk.elim
theorem Au.rangeR{P:Program}{gl:T (List V)}{rd:Option Nat}{nx0:Nat}{g:Operand}{ps:Array Tmp}{asg:Code}{f:Nat}{caps:List V}{S S':SL}{H1:T O}{nx1:Nat}{r L:List Nat}{v:V}
  (hg:ev (Al gl n S).tm g=some (.fn f caps))(hlb:Kl rd (Al gl n S).H=true)
  (hc:Ac P gl (.fn f caps) [.yld S.os.length] (pt (Ai .e 0 S.os) S.os.length (.loop .ready none 0 (Al gl n S).tm ps.toList asg body)) (S.os.length+1) ⟨v,H1,nx1,L⟩)
  (h1:gt H1 S.os.length=some (.loop .done (some .ret) 0 (Al gl n S).tm ps.toList asg body))
  (hr:O5 nx0 r ⟨(Al gl n S).tm,pt H1 S.os.length .dead,nx1,L++S.lg⟩ S'):
  Au P rd nx0 (.rangeFunc g ps asg body) (Al gl n S) (B3 gl n [(True,.ret,S')]):=by
 rw[Bh]at hc
 rw[Cm]at h1
 rw[Bh]at hr
 refine Au.gc_post (Au.rangeFunc' hg hlb hc (.inr ⟨.ret,0,_,_,_,_,h1,?_⟩))
 exact Au.ret ⟨r,Al gl n S',Wo hr,.inl ⟨trivial,rfl,rfl⟩⟩
theorem vW{a:Nat}: ∀z,B5 z (λj=>if j=a then f j else 0)=if a<z then f a else 0
 |0=>by simp[B5]
 | z + 1 => by
  show B5 z (λj=>if j=a then f j else 0)+(if z=a then f z else 0)=_
  rw[vW z]
  by_cases h:z=a
  .subst h
   rw[if_neg o_,if_pos rfl,if_pos o_];omega
  .rw[if_neg h]
   by_cases h2:a<z
   .rw[if_pos h2,if_pos o_];omega
   .rw[if_neg h2,if_neg o_];rfl
theorem EA:(Df R N act s).length=(Aw (Ax (Aq N) s) (Aq N).length).toNat:=YS
theorem uK(hN:Fp R N)(hs:F3 N act)(h:i<(Df R N act s).length):(Df R N act s).getD i 0=Dn R (λx=>decide (Hn (Aq N) s (Ct R N act x)=i)) (B4 R R.length):=by
 rw[EA]at h
 unfold Df
 rw[mV h,tZ,XF]
 have e1: ∀j,j<(Bp R N act).length->(if(decide (Hn (Aq N) s j=i))=true then(Bp R N act).getD j 0 else 0)=B5 (B4 R R.length) (λx=>if j=Ct R N act x then(if decide (Hn (Aq N) s j=i)=true then Ei R x else 0)else 0):=λj hj=>by
  rw[Pw]at hj
  unfold Bp
  rw[LV hj,XF]
  by_cases hp:Hn (Aq N) s j=i
  .simp only[hp,decide_true,if_true]
   refine MN _ λx _=>?_
   by_cases hx:Ct R N act x=j
   .simp[hx]
   .rw[if_neg (by simpa using hx),if_neg (λe=>hx e.symm)]
  .simp only[hp,decide_false,Bool.false_eq_true,if_false,ite_self]
   exact(oV _).symm
 rw[MN _ e1,oW]
 refine MN _ λx _=>?_
 rw[vW (f:=λj=>if decide (Hn (Aq N) s j=i)=true then Ei R x else 0)]
 rw[if_pos (by rw[Pw];exact(mJ hN hs x).2)]
theorem Dz.sums(h:Dz g R N): ∀L∈R,Cd L=g:=λL hL=>by
 have h2:=h.rt
 unfold D2 at h2
 rw[aD]at h2
 have h3:=aO.1 h2.1 L hL
 unfold G4 at h3
 simp only[aD,decide_eq_true_eq]at h3
 exact h3.2
theorem vD(h:Dz g R N)(f:Nat->Bool):0<=Dn R f (B4 R R.length)/\Dn R f (B4 R R.length)<=g^R.length:=by
 refine⟨(DS h.wt h.n1 f _).1,?_⟩
 rw[<-oM g R.length R rfl h.sums,nP,XF]
 refine tS _ λx _=>?_
 have:=(LI h.wt h.n1 x).1
 split<;>omega
theorem YD(h:Dz g R N)(hs:F3 N act): ∀i,i<(Df R N act s).length->0<=(Df R N act s).getD i 0/\(Df R N act s).getD i 0<=429981696:=λi hi=>by
 rw[uK h.nd2 hs hi]
 have h1:=vD h (λx=>decide (Hn (Aq N) s (Ct R N act x)=i))
 have h2:=L9 h.g1 h.n1
 omega
theorem YF(h:Dz g R N): ∀i,i<(Bp R N act).length->0<=(Bp R N act).getD i 0/\(Bp R N act).getD i 0<=429981696:=λi hi=>by
 rw[Pw]at hi
 unfold Bp
 rw[LV hi]
 have h1:=vD h (λx=>decide (Ct R N act x=i))
 have h2:=L9 h.g1 h.n1
 omega
def Ci(xs:Nat)(vals:List Int)(d:Nat->Int)(i:Nat):Int:=if xs.testBit i=true then vals.getD i 0 else d i
def Cz(n xs:Nat)(vals:List Int)(d:Nat->Int):List Int:=(List.range n).map (Ci xs vals d)
theorem Gf{d:Nat->Int}:(Cz n xs vals d).length=n:=by simp[Cz]
theorem Mo{d:Nat->Int}(h:i<n):(Cz n xs vals d).getD i 0=Ci xs vals d i:=by
 unfold Cz
 rw[aA,bD,aB (by simpa using h)]
 simp
theorem preL_mix{d:Nat->Int}:Bm (Ci xs vals d) n n=Cz n xs vals d:=TW
abbrev Bc(n xs:Nat)(vals:List Int):List Int:=Cz n xs vals (λ_=> -1)
theorem JI(hc: ∀k,k<N.length->1<=(N.getD k Ao).c/\(N.getD k Ao).c<=4)(hv:Co (Aq N) vals N.length):Ey N (Bc N.length xs vals)=true:=YH.2 ⟨Gf,λk hk=>by
 rw[Mo hk]
 have h1:=hc k hk
 have h2:=hv k hk
 rw[Oi hk]at h2
 unfold Ci
 split
 .omega
 .dsimp only;omega⟩
abbrev K7(g:Int)(n:Nat)(R:List V)(q:Nat)(N:List V):O:=.row 34 none [i6 g,.im n R,.im q N]
abbrev D6(e:Int):O:=.row 39 none [i6 e]
section
variable (ga:Int) (na:Nat) (RA:List V) (gb:Int) (nb:Nat) (RB:List V) (q:Nat) (NA NB:List V) (cs:List Int) (xs ys:Nat) (vals:List Int)
abbrev QF(x:Nat×List Int):SL:={sl:=[(4,u6 ys),(6,.ptr 0 0),(7,.ptr 1 0),(8,.ptr 2 0),(9,.ptr 3 0),(11,.ptr 4 0),(12,.ptr 5 0),(13,.ptr 6 0),(14,.sl 7 0 q (some (q-q))),(29,i6 q),(30,i6 x.1)],os:=[K7 ga na RA q NA,K7 gb nb RB q NB,Cw (.im q (Aa cs)),H9 xs,Cw (.im q (Aa vals)),Cw .nils,D6 0,Ay x.2]}
abbrev VR(act:List Int):SL:={sl:=[(4,u6 ys),(6,.ptr 0 0),(7,.ptr 1 0),(8,.ptr 2 0),(9,.ptr 3 0),(11,.ptr 4 0),(12,.ptr 5 0),(13,.ptr 6 0),(14,.im q (Aa act))],os:=[K7 ga na RA q NA,K7 gb nb RB q NB,Cw (.im q (Aa cs)),H9 xs,Cw (.im q (Aa vals)),Cw .nils,D6 0]}
variable (hRA:Ba RA) (hRB:Ba RB) (hNA:Ba NA) (hNB:Ba NB) (h5:q<=5) (hcl:cs.length=q) (hvl:vals.length=q)
include hRA hRB hNA hNB h5 hcl hvl
theorem uV:Au Pg none 0 (aT 48 111010) (Al g0 123 (QF ga na RA gb nb RB q NA NB cs xs ys vals (0,Bm (Ci xs vals λ_=> -1) q 0))) (B3 g0 123 [(True,.exit 0,VR ga na RA gb nb RB q NA NB cs xs ys vals (Bc q xs vals))]):=by
 have hcc:=Ap cs
 have hvv:=Ap vals
 rw[show Bc q xs vals=Bm (Ci xs vals λ_=> -1) q q from preL_mix.symm]
 refine C9 (aT 48 1110100) (λx=>x.1<=q/\x.2=Bm (Ci xs vals λ_=> -1) q x.1) (QF ga na RA gb nb RB q NA NB cs xs ys vals) (λx=>q-x.1) (λx hx=>?_) (0,Bm (Ci xs vals λ_=> -1) q 0) ⟨aG _,rfl⟩
 obtain⟨k,a⟩:=x
 obtain⟨hk,ha⟩:=hx
 dsimp only at hk ha
 by_cases hlt:k<q
 .have w1:=LA (G:=B1 Pg) (t:=29) (x:=xs) (k:=k) o_
  have w2:=SU (G:=B1 Pg) (t:=29) (x:=xs/2^k)
  have b01:=Oa xs k
  have la:a.length=q:=by rw[ha,Nc]
  have e:=MJ (f:=Ci xs vals λ_=> -1) (n:=q) (k:=k)
  rw[<-ha]at e
  have l2:=Nc (f:=Ci xs vals λ_=> -1) (n:=q) (k:=k+1)
  have s1:=Ie (l:=a) (j:=k) (x:= -1) o_
  cases hbit:xs.testBit k with
  |false=>
   have hx2:=b01.2.1 hbit
   have em:Ci xs vals (λ_=> -1) k= -1:=by unfold Ci;rw[if_neg (by rw[hbit];simp)]
   rw[em]at e
   rw[e]at s1
   refine .inl ⟨(k+1,Bm (Ci xs vals λ_=> -1) q (k+1)),[0,1,2,3,4,5,6,7],[As 31,pl 35,st (Aa (Bm (Ci xs vals λ_=> -1) q (k+1))),va 38 (u6 (xs/2^k:Nat)),va 39 (u6 (xs/2^k%2:Nat)),no 40,nu 48 ((k+1:Nat):Int)],1000,⟨hlt,rfl⟩,by dsimp only;omega,?_⟩
   clear e em ha b01
   generalize Bm (Ci xs vals λ_=> -1) q (k+1)=a2 at*
   have h1:=Ap a
   have h2:=Ap a2
   generalize xs/2^k=t at*
   exact C8 [_,_,_,_,_,((↑(t%2):Int)==(1:Int))=false,_] ⟨Bf hlt,Ar hlt,s1,w1,w2,aq,Dw k o_⟩
  |true=>
   have hx2:=b01.1.1 hbit
   have em:Ci xs vals (λ_=> -1) k=vals.getD k 0:=by unfold Ci;rw[if_pos hbit]
   rw[em]at e
   have s3:=Dm (l:=vals) (k:=k) o_
   have l1:(a.set k (-1)).length=q:=by rw[bJ];exact la
   have s2:=Ie (l:=a.set k (-1)) (j:=k) (x:=vals.getD k 0) o_
   rw[List.set_set,e]at s2
   refine .inl ⟨(k+1,Bm (Ci xs vals λ_=> -1) q (k+1)),[0,1,2,3,4,5,6,7],[As 31,pl 35,st (Aa (a.set k (-1))),va 38 (u6 (xs/2^k:Nat)),va 39 (u6 (xs/2^k%2:Nat)),As 40,pl 45,ld 46 (i6 (vals.getD k 0)),pl 47,st (Aa (Bm (Ci xs vals λ_=> -1) q (k+1))),nu 48 ((k+1:Nat):Int)],1000,⟨hlt,rfl⟩,by dsimp only;omega,?_⟩
   clear e em ha b01
   generalize Bm (Ci xs vals λ_=> -1) q (k+1)=a2,a.set k (-1)=a1 at*
   have h1:=Ap a
   have h2:=Ap a2
   have h3:=Ap a1
   generalize vals.getD k 0=z,xs/2^k=t at*
   exact C8 [_,_,_,_,_,((↑(t%2):Int)==(1:Int))=true,_,_,_,_,_] ⟨Bf hlt,Ar hlt,s1,w1,w2,aq,Ar hlt,s3,Ar hlt,s2,Dw k o_⟩
 .have hk2:k=q:=o_
  subst hk2
  subst ha
  have l2:=Nc (f:=Ci xs vals λ_=> -1) (n:=k) (k:=k)
  refine .inr ⟨.exit 0,[0,1,2,3,4,5,6],_,[no 31],1000,.inl ⟨trivial,rfl,rfl⟩,?_⟩
  generalize Bm (Ci xs vals λ_=> -1) k k=a2 at*
  have h2:=Ap a2
  exact m_ (p:=An [_,An [Sm (↑ys:Int),Zz,Zz,Zz,Zz,Zz,Zz,Zz,An [k=k,Sm (Aa a2),_],Tt],An [Sm [i6 ga,V.im na RA,V.im k NA],TT 3],An [Sm [i6 gb,V.im nb RB,V.im k NB],TT 3],An [Sm [V.im k (Aa cs)],Tt,Tt],An [Sm [u6 ↑xs],Tt,Tt],An [Sm [V.im k (Aa vals)],Tt,Tt],An [Sm [V.nils],Tt,Tt],An [Sm [i6 0],Tt,Tt],Tt]) ⟨Cq hlt,⟨aq,aq,aq,aq,aq,aq,aq,aq,⟨aq,aq,h2⟩,aq⟩,a_⟩
end
end Go.Proofs.YtifdkhfldbkkpaaGreat.Am
