/- Texts behind the claim, part 10: the abstract machine, and what the functions answer. No condition. -/
import Derived.Test.YtglpoiaedkoecaaDoorCBest9
set_option linter.unusedVariables false
set_option linter.unusedSimpArgs false
set_option linter.unusedSectionVars false
namespace Go.Proofs.YtglpoiaedkoecaaDoor.Am
open Go.RowKit
set_option maxHeartbeats 1000000
set_option maxRecDepth 100000
theorem Qtl{n:Nat}{G:List Nat}(h1:1≤n)(h6:n≤6)(hG:G.length=n)(r:Nat→Nat)(hr: ∀u,u<n→∀p,relL G u p=true→p<n∧r p<r u):Qfz n G=true:=by
 unfold Qfz Qkz
 rw[hG]
 simp only[decide_true,Bool.true_and]
 rw[decide_eq_true h1,decide_eq_true h6,Bool.true_and,Bool.true_and,Bool.and_eq_true]
 refine⟨GG.all_range.2 fun u hu=>?_,GG.all_range.2 fun i hi=>?_⟩
 ·rw[in_out fun p hp=>(hr u hu p hp).1];rfl
 ·cases hc : GG.clo n (relL G) i n i with
  |false=>rfl
  |true=>have:=(GG.clo_below hr hi n i hc).2;omega
theorem Qe8{f:Nat→Nat}{n k:Nat}(h:k<n):((List.range n).map f).getD k 0=f k:=by
 rw[List.getD_eq_getElem?_getD,List.getElem?_eq_getElem (by simpa using h)];simp
theorem Qsh{f:Nat→Int}{n k:Nat}(h:k<n):((List.range n).map f).getD k 0=f k:=by
 rw[List.getD_eq_getElem?_getD,List.getElem?_eq_getElem (by simpa using h)];simp
theorem bit_lt{s n p:Nat}(h:s<2^n)(hb:s.testBit p=true):p<n:=by
 rcases Nat.lt_or_ge p n with h'|h'
 ·exact h'
 ·rw[Nat.testBit_lt_two_pow (Nat.lt_of_lt_of_le h (Nat.pow_le_pow_right (by decide) h'))]at hb;cases hb
theorem Qex{n:Nat}{g r:Nat→Nat}(h1:1≤n)(h6:n≤6)(hg:Qie n g r):Qfz n ((List.range n).map g)=true:=
 Qtl h1 h6 (by simp) r fun u hu p hp=>by
  unfold relL at hp
  rw[Qe8 hu]at hp
  have hpn:=bit_lt (hg u hu).1 hp
  exact⟨hpn,(hg u hu).2 p hpn hp⟩
theorem gra_sc{cards:List Int}{cs:List (List Int)}{l:List Nat}(hl:l.length=cards.length)(hn:cards.length≤5):graG cards cs l=scG (fF cards cs) (fun v=>l.getD v 0) (2^cards.length-1) cards.length:=by
 have key: ∀k,k≤cards.length→graF (toN cards) (cs.map toN) l k=scG (fF cards cs) (fun v=>l.getD v 0) (2^cards.length-1) k:=by
  intro k
  induction k with
  |zero=>intro _;rfl
  | succ k ih =>
   intro hk
   rw[graF,scG,Qe7 _ hn k (by omega),decide_eq_true (show k<cards.length by omega),if_pos rfl,ih (by omega)]
   have:fF cards cs k (l.getD k 0)=famF (toN cards) (cs.map toN) k (l.getD k 0):=by
    unfold fF famG
    rw[if_pos (by omega)];rfl
   rw[this]
 unfold graG
 rw[hl]
 exact key _ (Nat.le_refl _)
theorem Qsj{cards:List Int}{cs:List (List Int)}{g:Nat→Nat}(hn:cards.length≤5):graG cards cs ((List.range cards.length).map g)=scG (fF cards cs) g (2^cards.length-1) cards.length:=by
 rw[gra_sc (by simp) hn]
 exact Qgw _ (fun _ _=>rfl) fun v hv _=>Qe8 hv
theorem Qua(n lim:Nat)(F:Nat→Nat→Nat→Int):topB n lim F 0=Qaj:=by
 unfold topB
 rw[Qm5 (fun v _=>Nat.zero_testBit v)];rfl
section
variable {n lim:Nat} {F:Nat→Nat→Nat→Int}
theorem sol_at(hF: ∀v p,inB (F v p) 160)(hn:n≤5){s:Nat}(h0:0<s)(hs:s<2^n):laT n lim F (2^n) s<n∧s.testBit (laT n lim F (2^n) s)=true∧okT lim s (laT n lim F (2^n) s) (paT n lim F (2^n) s)=true∧topB n lim F s=addA (topB n lim F (s-2^laT n lim F (2^n) s)) (F (laT n lim F (2^n) s) (paT n lim F (2^n) s)) 1:=by
 obtain⟨v,p,h1,h2,h3,h4,h5⟩:=top_is (lim:=lim) hF hn hs h0
 have e1:laT n lim F (2^n) s=v:=by rw[la_at _ _ _ _ _ hs,h4];rfl
 have e2:paT n lim F (2^n) s=p:=by rw[pa_at _ _ _ _ _ hs,h4];rfl
 rw[e1,e2]
 exact⟨h1,h2,h3,h5⟩
def mkL(la:Nat→Nat)(n:Nat):List Int:=(List.range (2^n)).map fun s=>((la s:Nat):Int)
def mkP(pa:Nat→Nat)(n:Nat):List Nat:=(List.range (2^n)).map pa
theorem mk_l{la:Nat→Nat}{s:Nat}(hs:s<2^n):(mkL la n).getD s 0=((la s:Nat):Int):=Qsh hs
theorem mk_p{pa:Nat→Nat}{s:Nat}(hs:s<2^n):(mkP pa n).getD s 0=pa s:=Qe8 hs
theorem mk_la{la:Nat→Nat}{s:Nat}(hs:s<2^n):laL (mkL la n) s=la s:=by unfold laL;rw[mk_l hs];rfl
theorem mk_pa{pa:Nat→Nat}{s:Nat}(hs:s<2^n):paL (mkP pa n) s=pa s:=mk_p hs
theorem Qou(la pa:Nat→Nat)(h1:1≤n)(hn:n≤5):wdt (mkL la n) (mkP pa n)=n:=
 (Qel _ _).2.2 n h1 hn (Qcr.2 ⟨by simp[mkL],by simp[mkP]⟩)
theorem mk_lad{la pa:Nat→Nat}(h1:1≤n)(hn:n≤5)(hl0:la 0=0)(hp0:pa 0=0)(h: ∀s,0<s→s<2^n→la s<n∧s.testBit (la s)=true∧pa s&&& (s-2^la s)=pa s):ladB (mkL la n) (mkP pa n)=true:=by
 have hp:0<2^n:=Nat.pow_pos (by decide)
 have h32:=Qas hn
 unfold ladB
 rw[Qou la pa h1 hn,decide_eq_true h1,Bool.true_and,Bool.and_eq_true]
 constructor
 ·unfold ok0
  rw[mk_l hp,mk_p hp,hl0,hp0]
  rfl
 ·refine all_range.2 fun s hs => ?_
  have hs':s<2^n:=by simpa [mkL]using hs
  rcases Nat.eq_zero_or_pos s with h0|h0
  ·rw[decide_eq_true h0];rfl
  ·obtain ⟨a, b, c⟩ := h s h0 hs'
   rw[Bool.or_eq_true]
   right
   unfold okS
   rw[mk_l hs',mk_p hs',Int.toNat_natCast]
   rw[decide_eq_true (by omega),decide_eq_true (by omega),b,decide_eq_true c]
   rfl
theorem mk_ok{la pa:Nat→Nat}(h1:1≤n)(hn:n≤5)(hl0:la 0=0)(hp0:pa 0=0)(h: ∀s,0<s→s<2^n→la s<n∧s.testBit (la s)=true∧pa s&&& (s-2^la s)=pa s):LdOk (mkL la n) (mkP pa n) n:=by
 have:=Qf6 (mk_lad h1 hn hl0 hp0 h)
 rwa [Qou la pa h1 hn]at this
theorem Qs6(f:Nat→Nat): ∀n,nF f n=ints ((List.range n).map fun s=>((f s:Nat):Int))
 |0=>rfl
 |n+1=>by
  show blF _ (n+1)=_
  rw[Qa9,show blF (fun i=>[i6 (f i:Nat)]) n=ints ((List.range n).map fun s=>((f s:Nat):Int))from Qs6 f n]
  unfold ints
  rw[List.range_succ,List.map_append,List.map_append];rfl
theorem mk_V(la pa:Nat→Nat)(n:Nat):ldV (2^n) la pa=lV (mkL la n) (mkP pa n):=by
 show V.agg [.im (2^n) (nF la (2^n)),.im (2^n) (uF pa (2^n))]=V.agg [.im (mkL la n).length (ints (mkL la n)),.im (mkP pa n).length (ut (mkP pa n))]
 rw[Qs6,Quh]
 unfold mkL mkP
 rw[List.length_map,List.length_map,List.length_range]
theorem mk_S64{pa:Nat→Nat}(h: ∀s,s<2^n→pa s<18446744073709551616):S64 (mkP pa n):=fun x hx=>by
 obtain⟨s,hs,rfl⟩:=List.mem_map.1 hx
 exact h s (List.mem_range.1 hs)
variable (n lim F)in
abbrev solL:List Int:=mkL (laT n lim F (2^n)) n
variable (n lim F)in
abbrev solP:List Nat:=mkP (paT n lim F (2^n)) n
theorem Qtz:laT n lim F (2^n) 0=0∧paT n lim F (2^n) 0=0:=by
 have hp:0<2^n:=Nat.pow_pos (by decide)
 rw[la_at _ _ _ _ _ hp,pa_at _ _ _ _ _ hp,Qm5 (fun v _=>Nat.zero_testBit v)]
 exact⟨rfl,rfl⟩
theorem Qm4(hF: ∀v p,inB (F v p) 160)(hn:n≤5): ∀s,0<s→s<2^n→laT n lim F (2^n) s<n∧s.testBit (laT n lim F (2^n) s)=true∧paT n lim F (2^n) s&&& (s-2^laT n lim F (2^n) s)=paT n lim F (2^n) s:=fun s h0 hs=>by
 have h32:=Qas hn
 obtain⟨a,b,c,_⟩:=sol_at (lim:=lim) hF hn h0 hs
 have hps:=(Qbw.1 c).1
 have hp32:paT n lim F (2^n) s<32:=by
  rw[←hps];exact Nat.lt_of_le_of_lt Nat.and_le_right (by omega)
 exact⟨a,b,((Qdu (by omega) (by omega) b hp32).1 c).1⟩
theorem sol_lad(hF: ∀v p,inB (F v p) 160)(h1:1≤n)(hn:n≤5):ladB (solL n lim F) (solP n lim F)=true:=mk_lad h1 hn Qtz.1 Qtz.2 (Qm4 hF hn)
theorem sol_S64(hF: ∀v p,inB (F v p) 160)(hn:n≤5):S64 (solP n lim F):=mk_S64 fun s hs=>by
 have h32:=Qas hn
 rcases Nat.eq_zero_or_pos s with h0|h0
 ·subst h0;rw[Qtz.2];decide
 ·have := (Qm4 (lim := lim) hF hn s h0 hs).2.2
  rw[←this];exact Nat.lt_of_le_of_lt Nat.and_le_right (by have:=Nat.sub_le s (2^laT n lim F (2^n) s);omega)
def rgtB(n lim:Nat)(F:Nat→Nat→Nat→Int)(L:List Int)(P:List Nat):Bool:=(List.range (2^n)).all fun s=>decide (s=0)||(decide (popc (P.getD s 0)≤lim)&&eqA (addA (topB n lim F (s-2^laL L s)) (F (laL L s) (paL P s)) 1) (topB n lim F s))
theorem sol_rgt(hF: ∀v p,inB (F v p) 160)(hn:n≤5):rgtB n lim F (solL n lim F) (solP n lim F)=true:=by
 refine all_range.2 fun s hs=>?_
 rcases Nat.eq_zero_or_pos s with h0|h0
 ·rw[decide_eq_true h0];rfl
 ·obtain ⟨a, b, c, d⟩ := sol_at (lim := lim) hF hn h0 hs
  rw[Bool.or_eq_true]
  right
  rw[mk_p hs,mk_la hs,mk_pa hs,←d,Qoa,decide_eq_true (Qbw.1 c).2.2]
  rfl
theorem ladG_in{la pa:Nat→Nat}: ∀f s v,(∀t,0<t→t≤s→t.testBit (la t)=true)→ladG la pa f s v=0∨∃t,0<t∧t≤s∧ladG la pa f s v=pa t
 |0,_,_,_=>.inl rfl
 | f + 1, s, v, h => by
  rw[ladG]
  split
  ·exact .inl rfl
  ·rename_i h0
   split
   ·exact .inr ⟨s,by omega,Nat.le_refl _,rfl⟩
   ·have hsb := Nat.sub_le s (2 ^ la s)
    rcases ladG_in f (s-2^la s) v (fun t h1 h2=>h t h1 (Nat.le_trans h2 hsb))with h1|⟨t,h1,h2,h3⟩
    ·exact .inl h1
    ·exact .inr ⟨t,h1,Nat.le_trans h2 hsb,h3⟩
theorem lad_rank{L:List Int}{P:List Nat}(h:LdOk L P n):Qie n (gL L P n) (ladR (laL L) n (2^n-1)):=fun v hv=>by
 have h5:=h.w5
 have hp:0<2^n:=Nat.pow_pos (by decide)
 refine⟨Qst h5 h.ok n _ v (by omega),fun p hp2 hb=>?_⟩
 exact(Qk3 h5 h.ok n _ (by omega) (by rw[Qeg n h5];exact Nat.le_refl _) v hv (by rw[Qe7 n h5 v (by omega),decide_eq_true hv]) p hp2 hb).2
theorem Qsv{L:List Int}{P:List Nat}(h:LdOk L P n)(hr:rgtB n lim F L P=true): ∀i,i<18→scG F (gL L P n) (2^n-1) n i=topB n lim F (2^n-1) i:=by
 have h5:=h.w5
 have hp:0<2^n:=Nat.pow_pos (by decide)
 refine Qhx h5 h.ok (B:=topB n lim F) (fun i _=>by rw[Qua];rfl) (fun s h0 hs i hi=>?_) n _ (by omega) (by rw[Qeg n h5];exact Nat.le_refl _)
 have:=all_range.1 hr s hs
 rw[decide_eq_false (by omega),Bool.false_or,Bool.and_eq_true]at this
 have:=(Qer.1 this.2) i hi
 rw[←this,Qbt]
theorem lad_lim{L:List Int}{P:List Nat}(h:LdOk L P n)(hr:rgtB n lim F L P=true)(v:Nat):popc (gL L P n v)≤lim:=by
 have hp:0<2^n:=Nat.pow_pos (by decide)
 rcases ladG_in (la:=laL L) (pa:=paL P) n (2^n-1) v (fun t h1 h2=>(h.ok.at_ t h1 (by omega)).2.1)with e|⟨t,h1,h2,e⟩
 ·rw[show gL L P n v=0 from e];exact Nat.zero_le _
 ·rw [show gL L P n v = paL P t from e]
  have:=all_range.1 hr t (by omega)
  rw[decide_eq_false (by omega),Bool.false_or,Bool.and_eq_true]at this
  exact of_decide_eq_true this.1
theorem sc_top(hF: ∀v p,inB (F v p) 160)(h1:1≤n)(hn:n≤5){g r:Nat→Nat}(hg:Qie n g r)(hl: ∀v,v<n→popc (g v)≤lim):nvF (scG F g (2^n-1) n)≤nvF (topB n lim F (2^n-1)):=by
 have hp:0<2^n:=Nat.pow_pos (by decide)
 exact sc_le hF hn hg hl n _ (by omega) (Qeg n hn) fun v hv hb p hp hgp=>by rw[Qe7 n hn p (by omega),decide_eq_true hp]
theorem sol_ok(hF: ∀v p,inB (F v p) 160)(h1:1≤n)(hn:n≤5):LdOk (solL n lim F) (solP n lim F) n:=mk_ok h1 hn Qtz.1 Qtz.2 (Qm4 hF hn)
theorem sc_in(hF: ∀v p,inB (F v p) 160)(hn:n≤5)(g:Nat→Nat)(s:Nat):inB (scG F g s n) 800:=(Qpb hF g s n).mono (by omega)
theorem cmp_le{a b:Nat→Int}(ha:inB a 800)(hb:inB b 800)(h:nvF a≤nvF b):cmpF a b≤0:=by
 rw[Qdp (ha.mono (by decide)) (hb.mono (by decide))]
 exact Qtv.2 h
theorem cmp_zero{a b:Nat→Int}(ha:inB a 800)(hb:inB b 800)(h: ∀i,i<18→a i=b i):cmpF a b=0:=by
 rw[Qdp (ha.mono (by decide)) (hb.mono (by decide)),Qo1 h]
 exact Qfc.2 rfl
end
def eqv:BSt→BSt→Prop
 |none,none=>True
 |some (v,p,x),some (v',p',y)=>v=v'∧p=p'∧∀i,i<18→x i=y i
 | _,_=>False
theorem Qpu{a b c d:Nat→Int}(h: ∀i,i<18→a i=b i)(k: ∀i,i<18→c i=d i):cmpF a c=cmpF b d:=by
 have e: ∀i,i<18→mixF a c (-1) 18 i=mixF b d (-1) 18 i:=fun i hi=>by
  rw[Qbm,Qbm,if_pos hi,if_pos hi,h i hi,k i hi]
 unfold cmpF
 rw[Qa0 (e:=posF (mixF a c (-1) 18) 1) (f:=posF (mixF b d (-1) 18) 1) 18 (fun j hj=>by unfold posF;rw[e j hj]),Qa0 (e:=posF (mixF a c (-1) 18) (-1)) (f:=posF (mixF b d (-1) 18) (-1)) 18 (fun j hj=>by unfold posF;rw[e j hj])]
theorem upT_eqv{b c:BSt}(h:eqv b c){v p:Nat}{x y:Nat→Int}(hx: ∀i,i<18→x i=y i):eqv (upT b v p x) (upT c v p y):=by
 rcases b with _|⟨v1,p1,x1⟩<;>rcases c with _|⟨v2,p2,x2⟩
 ·exact⟨rfl,rfl,hx⟩
 ·exact h.elim
 ·exact h.elim
 ·unfold upT
  dsimp only
  rw[Qpu hx h.2.2]
  split
  ·exact⟨rfl,rfl,hx⟩
  ·exact h
section
variable {n lim:Nat} {F G:Nat→Nat→Nat→Int}
theorem Qon{B C:Nat→Nat→Int}{s v:Nat}(h0:0<s)(hB: ∀t,t<s→∀i,i<18→B t i=C t i){b c:BSt}(h:eqv b c): ∀k,(∀p,p<k→∀i,i<18→F v p i=G v p i)→eqv (innB lim F B s v b k) (innB lim G C s v c k)
 |0,_=>h
 |k+1,hF=>by
  have ih:=Qon h0 hB h k fun p hp=>hF p (by omega)
  have hp:0<2^v:=Nat.pow_pos (by decide)
  unfold innB
  split
  ·exact upT_eqv ih fun i hi=>by unfold tryF;rw[Qbt,Qbt,hB _ (by omega) i hi,hF k (by omega) i hi]
  ·exact ih
theorem Qo3{B C:Nat→Nat→Int}{s:Nat}(hB: ∀t,t<s→∀i,i<18→B t i=C t i): ∀k,(∀v,v<k→∀p,p≤s→∀i,i<18→F v p i=G v p i)→eqv (outB lim F B s k) (outB lim G C s k)
 |0,_=>trivial
 | k + 1, hF => by
  have ih:=Qo3 (s:=s) hB k fun v hv=>hF v (by omega)
  unfold outB
  split
  ·rename_i hb
   have h0:0<s:=by
    rcases Nat.eq_zero_or_pos s with h|h
    ·subst h;rw[Nat.zero_testBit]at hb;cases hb
    ·exact h
   exact Qon h0 hB ih _ fun p hp=>hF k (by omega) p (by omega)
  ·exact ih
theorem valO_eqv{b c:BSt}(h:eqv b c): ∀i,i<18→valO b i=valO c i:=by
 rcases b with _|⟨v1,p1,x1⟩<;>rcases c with _|⟨v2,p2,x2⟩
 ·intro i _;rfl
 ·exact h.elim
 ·exact h.elim
 ·exact h.2.2
theorem Qpg(T:Nat→Nat→Int)(N:Nat)(hF: ∀v,v<n→∀p,p<N→∀i,i<18→F v p i=G v p i)(h: ∀s,s<N→∀i,i<18→valO (outB lim G T s n) i=T s i): ∀s,s<N→eqv (stB n lim F s) (outB lim G T s n)∧∀i,i<18→topB n lim F s i=T s i:=by
 intro s
 induction s using Nat.strongRecOn with
 | _ s ih=>
  intro hs
  have e:eqv (stB n lim F s) (outB lim G T s n):=Qo3 (fun t ht i hi=>by rw[Qcm,if_pos ht];exact(ih t ht (by omega)).2 i hi) n fun v hv p hp=>hF v hv p (by omega)
  exact⟨e,fun i hi=>(valO_eqv e i hi).trans (h s hs i hi)⟩
end
set_option maxHeartbeats 1000000
set_option maxRecDepth 100000
def Qoj(m:Nat)(l:List Nat):Bool:=decide (1≤l.length)&&(decide (l.length≤m)&&((List.range l.length).all (fun u=> !outL l l.length u)&&GG.acyclic l.length (relL l)))
theorem Qmh{m n:Nat}{l:List Nat}(hm:m≤6)(hl:l.length=n)(hn:n≤m):Qoj m l=Qfz n l:=by
 unfold Qoj Qfz Qkz
 rw[decide_eq_true hl,Bool.true_and,decide_eq_true (show l.length≤m by omega),decide_eq_true (show l.length≤6 by omega)]
theorem rgraph_m(m:Nat)(hm:m≤6)(l:List Nat)(h64:S64 l):FnOk Pg g0 67 [ul l,i6 (m:Nat)] (.bool (Qoj m l)):=by
 unfold Qoj
 by_cases h1:1≤l.length
 ·rw [decide_eq_true h1]
  by_cases h2:l.length≤m
  ·rw [decide_eq_true h2]
   have a1:=rg_first l _ rfl (Nat.le_trans h2 hm) h64
   have a2:=rg_i l _ rfl (Nat.le_trans h2 hm) h64
   cases hc1:(List.range l.length).all (fun u=> !outL l l.length u)with
   |false=>
    have a1':=a1.mono (Qb7 (by rw[hc1];simp) hc1)
    refine FnOk.of_vc vE_ok mixed Qab (n:=1000) (r:=[]) (S:=bR4 false) (hs:=[no 12,no 17,(0,.loop [] {sl:=[(0,ul l),(5,i6 (0:Nat))]} [(True,.ret,bR4 false)])]) ?_
    clear a1 a2 hc1
    refine Eq.mp (by kernel_rfl:(An [V.bool false=V.bool (true&&(true&&(false&&GG.acyclic l.length (relL l)))),decide ((↑l.length:Int)<(1:Int))=false,decide ((↑l.length:Int)>(↑m:Int))=false,An [An [An [Sm l.length,Sm (ut l)],(↑(0:Nat):Int)=(0:Int),Tt],Tt],Sat Pg none 0 (at' 67 [1,1,0,1,0]) (mkSt g0 67 (SL.mk [(0,ul l),(5,i6 ↑(0:Nat))] [] [] [])) (Qaf g0 67 [(True,Ex.ret,bR4 false)]),(True→An [An [Sm false,Tt],Tt]),Tt])=_) ?_
    exact au
   | true =>
    have a1':=a1.mono (Qb6 hc1 (by rw[hc1];simp))
    cases hc2:GG.acyclic l.length (relL l)with
    |false=>
     have a2':=a2.mono (Qb7 (by rw[hc2];simp) hc2)
     refine FnOk.of_vc vE_ok mixed Qab (n:=1000) (r:=[]) (S:=bR4 false) (hs:=[no 12,no 17,(0,.loop [] {sl:=[(0,ul l),(5,i6 (0:Nat))]} [(True,.exit 0,{sl:=[(0,ul l)]})]),(0,.loop [] {sl:=[(0,ul l),(6,i6 (0:Nat))]} [(True,.ret,bR4 false)])]) ?_
     clear a1 a2 hc1 hc2
     refine Eq.mp (by kernel_rfl:(let z1:=An [Sm l.length,Sm (ut l)];let z0:=(0:Nat);An [V.bool false=V.bool (true&&(true&&(true&&false))),decide ((↑l.length:Int)<(1:Int))=false,decide ((↑l.length:Int)>(↑m:Int))=false,An [An [z1,(↑z0:Int)=(0:Int),Tt],Tt],Sat Pg none 0 (at' 67 [1,1,0,1,0]) (mkSt g0 67 (SL.mk [(0,ul l),(5,i6 ↑z0)] [] [] [])) (Qaf g0 67 [(True,Ex.exit 0,SL.mk [(0,ul l)] [] [] [])]),(True→An [An [An [z1,(↑z0:Int)=(0:Int),Tt],Tt],Sat Pg none 0 (at' 67 [1,1,1,0,1,0]) (mkSt g0 67 (SL.mk [(0,ul l),(6,i6 ↑z0)] [] [] [])) (Qaf g0 67 [(True,Ex.ret,bR4 false)]),(True→An [An [Sm false,Tt],Tt]),Tt]),Tt])=_) ?_
     exact au
    |true=>
     have a2':=a2.mono (Qb6 hc2 (by rw[hc2];simp))
     refine FnOk.of_vc vE_ok mixed Qab (n:=1000) (r:=[]) (S:=bR4 true) (hs:=[no 12,no 17,(0,.loop [] {sl:=[(0,ul l),(5,i6 (0:Nat))]} [(True,.exit 0,{sl:=[(0,ul l)]})]),(0,.loop [] {sl:=[(0,ul l),(6,i6 (0:Nat))]} [(True,.exit 2,{sl:=[]})])]) ?_
     clear a1 a2 hc1 hc2
     refine Eq.mp (by kernel_rfl:(let z1:=An [Sm l.length,Sm (ut l)];let z0:=(0:Nat);An [V.bool true=V.bool (true&&(true&&(true&&true))),decide ((↑l.length:Int)<(1:Int))=false,decide ((↑l.length:Int)>(↑m:Int))=false,An [An [z1,(↑z0:Int)=(0:Int),Tt],Tt],Sat Pg none 0 (at' 67 [1,1,0,1,0]) (mkSt g0 67 (SL.mk [(0,ul l),(5,i6 ↑z0)] [] [] [])) (Qaf g0 67 [(True,Ex.exit 0,SL.mk [(0,ul l)] [] [] [])]),(True→An [An [An [z1,(↑z0:Int)=(0:Int),Tt],Tt],Sat Pg none 0 (at' 67 [1,1,1,0,1,0]) (mkSt g0 67 (SL.mk [(0,ul l),(6,i6 ↑z0)] [] [] [])) (Qaf g0 67 [(True,Ex.exit 2,SL.mk [] [] [] [])]),(True→An [An [Sm true,Tt],Tt]),Tt]),Tt])=_) ?_
     exact au
  ·rw [decide_eq_false h2]
   refine FnOk.of_vc vE_ok mixed Qab (n:=1000) (r:=[]) (S:=bR4 false) (hs:=[no 12,yes 17]) ?_
   refine Eq.mp (by kernel_rfl:(An [V.bool false=V.bool (true&&(false&&((List.all (List.range l.length) fun u=> !outL l l.length u)&&GG.acyclic l.length (relL l)))),decide ((↑l.length:Int)<(1:Int))=false,decide ((↑l.length:Int)>(↑m:Int))=true,An [Sm false,Tt],Tt])=_) ?_
   exact au
 ·rw [decide_eq_false h1]
  refine FnOk.of_vc vE_ok mixed Qab (n:=1000) (r:=[]) (S:=bR4 false) (hs:=[yes 12]) ?_
  refine Eq.mp (by kernel_rfl:(An [V.bool false=V.bool (false&&(decide (l.length≤m)&&((List.all (List.range l.length) fun u=> !outL l l.length u)&&GG.acyclic l.length (relL l)))),decide ((↑l.length:Int)<(1:Int))=true,An [Sm false,Tt],Tt])=_) ?_
  exact au
def Qf2(m:Nat)(N:Nat)(o:Nat→Nat)(E:Nat):List Nat:=edgeA (ordL (fun k=>o k%(k+1)) (N%m+1)) E (N%m+1) (N%m+1)
theorem Qth(m:Nat)(hm1:1≤m)(hm6:m≤6)(N:Nat)(o:Nat→Nat)(E:Nat):(Qf2 m N o E).length=N%m+1∧∃r,Qie (N%m+1) (fun v=>(Qf2 m N o E).getD v 0) r:=by
 have hn:N%m<6:=Nat.lt_of_lt_of_le (Nat.mod_lt _ (by omega)) hm6
 unfold Qf2
 generalize N%m=n0 at*
 obtain⟨w,hw⟩: ∃w,w=n0+1:=⟨_,rfl⟩
 rw[←hw]
 have hf: ∀k,o k%(k+1)≤k:=fun k=>Nat.le_of_lt_succ (Nat.mod_lt _ (by omega))
 obtain⟨hnd,hlt⟩:=Qh0 (f:=fun k=>o k%(k+1)) hf w
 have hl:=Qee (fun k=>o k%(k+1)) w
 have hb:=Qi6 (fun k=>o k%(k+1)) (show 0<w by omega) w (Nat.le_refl _)
 generalize ordL (fun k=>o k%(k+1)) w=L at*
 have hok:=Qe6 (L:=L) (E:=E) (n:=w) (fun k=>Nat.lt_of_lt_of_le (hb k) (by omega)) w
 have hd:=Qhm (L:=L) (E:=E) (n:=w) w
 generalize edgeA L E w w=G at*
 have hr: ∀u,u<w→∀p,(G.getD u 0).testBit p=true→p<w∧L.idxOf p<L.idxOf u:=fun u hu p hp=>by
  obtain⟨x,y,h1,h2,h3,h4⟩:=hd u p hp
  have hx:x<w:=by omega
  subst h3 h4
  rw[idx_at hnd (by omega),idx_at hnd (by omega)]
  exact⟨hb y,h1⟩
 refine⟨hok.len,fun p=>L.idxOf p,fun v hv=>⟨?_,fun p _ hb=>(hr v hv p hb).2⟩⟩
 refine Nat.lt_pow_two_of_testBit _ fun i hi=>?_
 cases e:(G.getD v 0).testBit i with
 |false=>rfl
 |true=>have:=(hr v hv i e).1;omega
theorem red_all: ∀p:Nat,p<32→(p=0∨(popc (p&&& (p-1))+1=popc p∧(p&&& (p-1))&&& p=p&&& (p-1)∧p&&& (p-1)<32)):=by decide+kernel
def redP(lim:Nat):Nat→Nat→Nat
 |0,p=>p
 |f+1,p=>if lim<popc p then redP lim f (p&&& (p-1))else p
theorem Qq5{a b c:Nat}(h1:a&&& b=a)(h2:b&&& c=b):a&&& c=a:=by
 rw[←h1,Nat.and_assoc,h2]
theorem Qmx(lim:Nat): ∀f p,p<32→popc p≤lim+f→redP lim f p<32∧popc (redP lim f p)≤lim∧redP lim f p&&& p=redP lim f p
 |0,p,hp,h=>⟨hp,by unfold redP;omega,Nat.and_self p⟩
 | f + 1, p, hp, h => by
  unfold redP
  split
  ·rename_i hlt
   rcases red_all p hp with h0|⟨h1,h2,h3⟩
   ·subst h0
    have:popc 0=0:=rfl
    omega
   ·obtain ⟨a, b, c⟩ := Qmx lim f _ h3 (by omega)
    exact⟨a,b,Qq5 c h2⟩
  ·rename_i hlt
   exact⟨hp,by omega,Nat.and_self p⟩
theorem rank_sub{n:Nat}{g h r:Nat→Nat}(hn:n≤5)(hg:Qie n g r)(hs: ∀v,v<n→h v&&& g v=h v):Qie n h r:=fun v hv=>by
 obtain⟨h1,h2⟩:=hg v hv
 have e:=hs v hv
 refine⟨by rw[←e];exact Nat.lt_of_le_of_lt Nat.and_le_right h1,fun p hp hb=>h2 p hp ?_⟩
 rw[←e,Nat.testBit_and,Bool.and_eq_true]at hb
 exact hb.2
section
variable (n:Nat) (a b:Nat→Nat)
end
theorem Qq6: ∀b:Nat,b<256→∀s:Nat,s<32→IntKind.u64.wrap ((BitVec.ofInt 64 (b:Int)&&& BitVec.ofInt 64 (s:Int)).toNat:Int)=((b&&& s:Nat):Int):=by decide+kernel
theorem and_u8{G:Ctx}{t b s:Nat}(hb:b<256)(hs:s<32):binV G .and t (u6 (b:Int)) (u6 (s:Int))=some (u6 ((b&&& s:Nat):Int)):=by
 have e:binV G .and t (u6 (b:Int)) (u6 (s:Int))=some (.int .u64 (IntKind.u64.wrap ((BitVec.ofInt 64 (b:Int)&&& BitVec.ofInt 64 (s:Int)).toNat:Int))):=rfl
 rw[e,Qq6 b hb s hs]
set_option maxHeartbeats 4000000
set_option maxRecDepth 100000
section
variable (N:Nat) (a b:Nat→Nat) (n size:Nat) (la pa:Nat→Nat)
end
open Go.RowKit Go.ChangeShapes Go.WideShapes
set_option maxRecDepth 100000
section
variable {H:Type} {enc:TypeId×Value→H} {w:World}
end
set_option maxHeartbeats 4000000
set_option maxRecDepth 100000
theorem Qre(L:List Int)(P:List Nat)(cards:List Int)(cs:List (List Int))(F:Nat→Nat→Nat→Int)(size:Nat)(q:Nat→Nat×Nat)(B:Nat→Nat→Int)(la pa:Nat→Nat)(k lim:Nat)
  (h:CallSpec Pg g0 (.fn 88 []) [gV cards cs,i6 (lim:Int)] (ofOs .e 0 []) 0 ⟨cbV size,ofOs .e 0 (cbO cards cs F size q B la pa k),6,[]⟩):
  CallSpec Pg g0 (.fn 88 []) [gV cards cs,i6 (lim:Int)] (ofOs .e 0 [gO cards cs,lO L P]) 2 ⟨cbW size,ofOs .e 0 ([gO cards cs,lO L P]++cbD cards cs F size q B la pa k),8,[]⟩:=by
 have hB:=Qaa B size
 have hla:=Qah la size
 have hpa:=Qag pa size
 have hE:=Qac q (k+1)
 have hS:=Qaa (scF F q) (k+1)
 have hg:=Qar cs
 have hc:=Qae cards
 have hlo:=Qae L
 have hu:=Qa8 P
 refine CallSpec.frameL (OS:=[gO cards cs,_]) (OS':=[gO cards cs,_]++cbD cards cs F size q B la pa k) [] [(2,0),(3,1),(4,2),(5,3),(6,4),(7,5)] [] [0,0,0,0,1] h (by kernel_rfl) ?_ ?_ ?_ ?_
 ·refine Eq.mp (by kernel_rfl : (An [An [An [Sm cards.length, Sm (ints cards)], An [Sm cs.length, Sm (List.map sl cs)], Tt], Sm (↑lim : Int), Tt]) = _) ?_
  (repeat'(first|(with_reducible apply And.intro)|(refine fun(_:True)=>?_)))
  all_goals first|exact aq|exact hB|exact hS|exact hE|exact hla|exact hpa|exact hg|exact hc|exact hlo|exact hu|rfl|skip
 ·refine Eq.mp (by kernel_rfl : (Tt) = _) ?_
  (repeat'(first|(with_reducible apply And.intro)|(refine fun(_:True)=>?_)))
  all_goals first|exact aq|exact hB|exact hS|exact hE|exact hla|exact hpa|exact hg|exact hc|exact hlo|exact hu|rfl|skip
 ·refine Eq.mp (by kernel_rfl : (let z0 := An [Zz, Sm size, Sm (size - size)]; An [Zz, An [z0, z0, Tt], Sm (0 : Int), Tt]) = _) ?_
  (repeat'(first|(with_reducible apply And.intro)|(refine fun(_:True)=>?_)))
  all_goals first|exact aq|exact hB|exact hS|exact hE|exact hla|exact hpa|exact hg|exact hc|exact hlo|exact hu|rfl|skip
 ·refine Eq.mp (by kernel_rfl : (let z1 := bF (scF F q) (k + 1); let z2 := entM q (k + 1); let z3 := gO cards cs; let z0 := [z3, lO L P]; An [z0[0]? = some z3, z0[0]? = some z3, z0[1]? = some (lO L P), z0[1]? = some (lO L P), Tt, An [Sm (bF B size), HfL (bF B size)], Tt, An [z2 = z2, HfE z2, Sm (k + 1)], Tt, An [An [Sm cards.length, Sm (ints cards)], An [Sm cs.length, Sm (List.map sl cs)], An [Zz, Sm size, Sm (size - size)], Tt, An [Zz, Sm (k + 1), Tt], Tt], Tt, An [Sm (nF la size), HfL (nF la size)], Tt, An [Sm (uF pa size), HfL (uF pa size)], Tt, An [z1 = z1, HfL z1], Tt]) = _) ?_
  (repeat'(first|(with_reducible apply And.intro)|(refine fun(_:True)=>?_)))
  all_goals first|exact aq|exact hB|exact hS|exact hE|exact hla|exact hpa|exact hg|exact hc|exact hlo|exact hu|rfl|skip
section
variable (L:List Int) (P:List Nat) (cards:List Int) (cs:List (List Int)) (F:Nat→Nat→Nat→Int) (B:Nat→Nat→Int) (size:Nat) (q:Nat→Nat×Nat) (k:Nat)
abbrev rtO:List O:=[lO L P,.row 41 none (bF B size),.map (entM q (k+1)) (k+1),.row 158 none (toC cards cs size 1 2 4 (k+1)),.row 41 (some 18) (bF (scF F q) (k+1))]
abbrev rtO2:List O:=[lO L P,.row 41 none (bF B size),.map (entM q (k+1)) (k+1),.row 158 none (toC cards cs size 1 2 5 (k+1)),.dead,.row 41 (some 18) (bF (scF F q) (k+1))]
end
theorem rt_hit(L:List Int)(P:List Nat)(cards:List Int)(cs:List (List Int))(F:Nat→Nat→Nat→Int)(B:Nat→Nat→Int)(size:Nat)(q:Nat→Nat×Nat)(k s v p:Nat)(x:Nat→Int)
  (h:CallSpec Pg g0 (.fn 90 []) [.ptr 2 0,i6 (s:Nat),i6 (v:Nat),u6 (p:Nat)] (ofOs .e 0 (toO1 cards cs F B size q k)) 4 ⟨.tup [ar x,i6 0],ofOs .e 0 (toO1 cards cs F B size q k),4,[]⟩):
  CallSpec Pg g0 (.fn 90 []) [.ptr 3 0,i6 (s:Nat),i6 (v:Nat),u6 (p:Nat)] (ofOs .e 0 (rtO L P cards cs F B size q k)) 5 ⟨.tup [ar x,i6 0],ofOs .e 0 (rtO L P cards cs F B size q k),5,[]⟩:=by
 have hB:=Qaa B size
 have hE:=Qac q (k+1)
 have hS:=Qaa (scF F q) (k+1)
 have hg:=Qar cs
 have hc:=Qae cards
 have hlo:=Qae L
 have hu:=Qa8 P
 exact CallSpec.frameL (OS:=rtO L P cards cs F B size q k) (OS':=rtO L P cards cs F B size q k) [1,2,3,4] [(1,0),(2,1),(3,2),(4,3)] [0,0,1] [0,0,0,1] h (by kernel_rfl) (by
  refine Eq.mp (by kernel_rfl:(An [Zz,Sm (↑s:Int),Sm (↑v:Int),Sm (↑p:Int),Tt])=_) ?_
  (repeat'(first|(with_reducible apply And.intro)|(refine fun(_:True)=>?_)))<;>first|exact aq|skip) (by
  refine Eq.mp (by kernel_rfl:(let z0:=bF (scF F q) (k+1);let z1:=entM q (k+1);An [An [Sm (bF B size),HfL (bF B size)],An [z1=z1,HfE z1,Sm (k+1)],An [An [Sm cards.length,Sm (ints cards)],An [Sm cs.length,Sm (List.map sl cs)],An [Zz,Sm size,Sm (size-size)],Tt,An [Zz,Sm (k+1),Tt],Tt],An [z0=z0,HfL z0],Tt])=_) ?_
  (repeat'(first|(with_reducible apply And.intro)|(refine fun(_:True)=>?_)))
  all_goals first|exact aq|exact hB|exact hS|exact hE|exact hg|exact hc|exact hlo|exact hu|rfl|skip) (by
  refine Eq.mp (by kernel_rfl:(An [An [x 0=x 0,x 1=x 1,x 2=x 2,x 3=x 3,x 4=x 4,x 5=x 5,x 6=x 6,x 7=x 7,x 8=x 8,x 9=x 9,Sm (x 10),Sm (x 11),Sm (x 12),Sm (x 13),Sm (x 14),Sm (x 15),Sm (x 16),Sm (x 17),Tt],Sm (0:Int),Tt])=_) ?_
  (repeat'(first|(with_reducible apply And.intro)|(refine fun(_:True)=>?_)))<;>first|exact aq|skip) (by
  refine Eq.mp (by kernel_rfl:(let z0:=rtO L P cards cs F B size q k;let z1:=bF (scF F q) (k+1);let z2:=entM q (k+1);let z3:=bF B size;An [z0[0]? =some (lO L P),z0[0]? =some (lO L P),z0[1]? =some (O.row 41 none z3),An [z3=z3,HfL z3],z0[2]? =some (O.map z2 (k+1)),An [z2=z2,HfE z2,Sm (k+1)],z0[3]? =some (O.row 158 none (toC cards cs size 1 2 4 (k+1))),An [An [Sm cards.length,Sm (ints cards)],An [Sm cs.length,Sm (List.map sl cs)],An [Zz,Sm size,Sm (size-size)],Tt,An [Zz,Sm (k+1),Tt],Tt],z0[4]? =some (O.row 41 (some 18) z1),An [z1=z1,HfL z1],Tt])=_) ?_
  (repeat'(first|(with_reducible apply And.intro)|(refine fun(_:True)=>?_)))
  all_goals first|exact aq|exact hB|exact hS|exact hE|exact hg|exact hc|exact hlo|exact hu|rfl|skip)
theorem rt_miss(L:List Int)(P:List Nat)(cards:List Int)(cs:List (List Int))(F:Nat→Nat→Nat→Int)(B:Nat→Nat→Int)(size:Nat)(q q':Nat→Nat×Nat)(k s v p:Nat)(x:Nat→Int)
  (h:CallSpec Pg g0 (.fn 90 []) [.ptr 2 0,i6 (s:Nat),i6 (v:Nat),u6 (p:Nat)] (ofOs .e 0 (toO1 cards cs F B size q k)) 4 ⟨.tup [ar x,i6 0],ofOs .e 0 (toO2 cards cs F B size q' (k+1)),5,[1,2,3]⟩):
  CallSpec Pg g0 (.fn 90 []) [.ptr 3 0,i6 (s:Nat),i6 (v:Nat),u6 (p:Nat)] (ofOs .e 0 (rtO L P cards cs F B size q k)) 5 ⟨.tup [ar x,i6 0],ofOs .e 0 (rtO2 L P cards cs F B size q' (k+1)),6,[2,3,4]⟩:=by
 have hB:=Qaa B size
 have hE:=Qac q (k+1)
 have hS:=Qaa (scF F q) (k+1)
 have hE2:=Qac q' (k+1+1)
 have hS2:=Qaa (scF F q') (k+1+1)
 have hg:=Qar cs
 have hc:=Qae cards
 have hlo:=Qae L
 have hu:=Qa8 P
 exact CallSpec.frameL (OS:=rtO L P cards cs F B size q k) (OS':=rtO2 L P cards cs F B size q' (k+1)) [1,2,3,4] [(1,0),(2,1),(3,2),(4,3),(5,4)] [0,0,1] [0,0,0,1] h (by kernel_rfl) (by
  refine Eq.mp (by kernel_rfl:(An [Zz,Sm (↑s:Int),Sm (↑v:Int),Sm (↑p:Int),Tt])=_) ?_
  (repeat'(first|(with_reducible apply And.intro)|(refine fun(_:True)=>?_)))<;>first|exact aq|skip) (by
  refine Eq.mp (by kernel_rfl:(let z0:=bF (scF F q) (k+1);let z1:=entM q (k+1);An [An [Sm (bF B size),HfL (bF B size)],An [z1=z1,HfE z1,Sm (k+1)],An [An [Sm cards.length,Sm (ints cards)],An [Sm cs.length,Sm (List.map sl cs)],An [Zz,Sm size,Sm (size-size)],Tt,An [Zz,Sm (k+1),Tt],Tt],An [z0=z0,HfL z0],Tt])=_) ?_
  (repeat'(first|(with_reducible apply And.intro)|(refine fun(_:True)=>?_)))
  all_goals first|exact aq|exact hB|exact hS|exact hE|exact hS2|exact hE2|exact hg|exact hc|exact hlo|exact hu|rfl|skip) (by
  refine Eq.mp (by kernel_rfl:(An [An [x 0=x 0,x 1=x 1,x 2=x 2,x 3=x 3,x 4=x 4,x 5=x 5,x 6=x 6,x 7=x 7,x 8=x 8,x 9=x 9,Sm (x 10),Sm (x 11),Sm (x 12),Sm (x 13),Sm (x 14),Sm (x 15),Sm (x 16),Sm (x 17),Tt],Sm (0:Int),Tt])=_) ?_
  (repeat'(first|(with_reducible apply And.intro)|(refine fun(_:True)=>?_)))<;>first|exact aq|skip) (by
  refine Eq.mp (by kernel_rfl:(let z0:=rtO L P cards cs F B size q k;let z1:=bF (scF F q') (k+1+1);let z2:=entM q' (k+1+1);let z3:=bF B size;An [z0[0]? =some (lO L P),z0[0]? =some (lO L P),z0[1]? =some (O.row 41 none z3),An [z3=z3,HfL z3],Tt,An [z2=z2,HfE z2,Sm (k+1+1)],Tt,An [An [Sm cards.length,Sm (ints cards)],An [Sm cs.length,Sm (List.map sl cs)],An [Zz,Sm size,Sm (size-size)],Tt,An [Zz,Sm (Nat.succ k+1),Tt],Tt],Tt,Tt,Tt,An [z1=z1,HfL z1],Tt])=_) ?_
  (repeat'(first|(with_reducible apply And.intro)|(refine fun(_:True)=>?_)))
  all_goals first|exact aq|exact hB|exact hS|exact hE|exact hS2|exact hE2|exact hg|exact hc|exact hlo|exact hu|rfl|skip)
section
variable (L:List Int) (P:List Nat) (cards:List Int) (cs:List (List Int)) (F:Nat→Nat→Nat→Int) (B:Nat→Nat→Int) (size lim:Nat)
abbrev rrS(x:Nat×(Nat→Nat×Nat)×Nat):SL:={sl:=[(1,i6 (lim:Nat)),(5,.ptr 0 0),(8,.ptr 3 0),(37,i6 (size:Nat)),(38,i6 (x.1:Nat))],os:=rtO L P cards cs F B size x.2.1 x.2.2,md:=[0,0,0,1]}
end
abbrev rtR(b:Bool):SL:={sl:=[(6,.bool b),(7,i6 0)]}
def rgtS(lim:Nat)(F:Nat→Nat→Nat→Int)(B:Nat→Nat→Int)(L:List Int)(P:List Nat)(s:Nat):Bool:=decide (popc (P.getD s 0)≤lim)&&eqA (addA (B (s-2^laL L s)) (F (laL L s) (paL P s)) 1) (B s)
structure AskOk(cards:List Int)(cs:List (List Int))(F:Nat→Nat→Nat→Int)(B:Nat→Nat→Int)(s v p:Nat):Prop where
 add:FnOk Pg g0 34 [ar (B (s-2^v)),ar (F v p)] (.tup [ar (addA (B (s-2^v)) (F v p) 1),i6 0])
 fam:FnOk Pg g0 22 [gV cards cs,i6 (v:Nat),u6 (p:Nat)] (.tup [ar (F v p),i6 0])
theorem rt_loop(L:List Int)(P:List Nat)(hP:S64 P)(cards:List Int)(cs:List (List Int))(F:Nat→Nat→Nat→Int)(B:Nat→Nat→Int)(n size lim:Nat)(hsz:size=2^n)(h:LdOk L P n)
  (hask: ∀s,0<s→s<size→popc (paL P s)≤lim→AskOk cards cs F B s (laL L s) (paL P s))(q0:Nat→Nat×Nat)(k0:Nat)(hk0:k0≤100000)(b:Bool)(hb:b=(List.range size).all (fun s=>decide (s=0)||rgtS lim F B L P s)):
  Sat Pg none 0 (at' 42 [1,1,1,1,0,1,0]) (mkSt g0 80 (rrS L P cards cs F B size lim (0,q0,k0))) (Qaf g0 80 [(b=true,.exit 0,{sl:=[]}),(b=false,.ret,rtR false)]):=by
 have hB:=Qaa B size
 have hEE:=fun q k=>Qac q k
 have hSS:=fun q k=>Qaa (scF F q) k
 have hg:=Qar cs
 have hc:=Qae cards
 have hlo:=Qae L
 have hu:=Qa8 P
 have h5:=h.w5
 have h32:size≤32:=by rw[hsz];exact Qas h5
 have e1:=h.lenL
 have e2:=h.lenP
 rw[←hsz]at e1 e2
 refine Qaz vE_ok mixed Qab (b:=at' 42 [1,1,1,1,0,1,0,0]) (by kernel_rfl) (fun x=>x.1≤size∧x.2.2≤100000+x.1∧∀j,j<x.1→(decide (j=0)||rgtS lim F B L P j)=true) (rrS L P cards cs F B size lim) (fun x=>size-x.1) (fun x hx=>?_) (0,q0,k0) ⟨Nat.zero_le _,by dsimp only;omega,fun j hj=>absurd hj (Nat.not_lt_zero _)⟩
 obtain⟨s,q,k⟩:=x
 obtain⟨hs,hk,hj⟩:=hx
 dsimp only at hs hk hj
 have hE:=Qac q (k+1)
 have hS:=Qaa (scF F q) (k+1)
 by_cases hlt:s<size
 ·by_cases h0 : s = 0
  ·refine .inl ⟨(s + 1, q, k), [0, 1, 2, 3, 4], [yes 39, yes 42, nu 79 ((s + 1 : Nat) : Int)], 1000, ⟨hlt, by dsimp only; omega, fun j hj2 => by rw [decide_eq_true (show j = 0 by dsimp only at hj2; omega)]; rfl⟩, by dsimp only; omega, ?_⟩
   clear hj hb hask
   have hs0:((s:Int)==0)=true:=by rw[beq_iff_eq];omega
   refine Eq.mp (by kernel_rfl:(let z0:=bF (scF F q) (k+1);let z1:=(↑(s+1):Int);let z2:=(↑size:Int);let z3:=entM q (k+1);let z4:=(↑s:Int);An [decide (z4<z2)=true,(z4==(0:Int))=true,wr .i64 (z4+(1:Int))=z1,An [Sm (↑lim:Int),Zz,Zz,z2=z2,z1=z1,Tt],An [Sm [sl L,ul P],TT 2],An [Sm (bF B size),HfL (bF B size)],An [z3=z3,HfE z3,Sm (k+1)],An [An [Sm cards.length,Sm (ints cards)],An [Sm cs.length,Sm (List.map sl cs)],An [Zz,Sm size,Sm (size-size)],Tt,An [Zz,Sm (k+1),Tt],Tt],An [z0=z0,HfL z0],Tt])=_) ?_
   (repeat'(first|(with_reducible apply And.intro)|(refine fun(_:True)=>?_)))
   all_goals first|exact hB|exact hE|exact hS|exact hg|exact hc|exact hlo|exact hu|(with_reducible exact hs0)|exact aq|rfl|skip
  ·have hs0 : ((s : Int) == 0) = false := by rw [beq_eq_false_iff_ne]; omega
   obtain⟨a1,a2,a3⟩:=h.ok.at_ s (by omega) (by omega)
   have hld:=@Qau L s (by omega)
   rw[h.nn s (by omega) (by omega)]at hld
   have hlp:=@Qbv P s (by omega)
   have hpp:P.getD s 0<32:=by
    rw[show P.getD s 0=paL P s from rfl,←a3]
    exact Nat.lt_of_le_of_lt Nat.and_le_right (by have:=Nat.sub_le s (2^laL L s);omega)
   have hone:=Qgh (P.getD s 0) hpp
   have hbad:rgtS lim F B L P s=false→b=false:=fun hh=>by
    rw[hb];exact Qbc hlt (by rw[hh,decide_eq_false h0];rfl)
   have hgood:rgtS lim F B L P s=true→∀j,j<s+1→(decide (j=0)||rgtS lim F B L P j)=true:=fun hh j hj1=>by
    rcases Nat.lt_succ_iff_lt_or_eq.1 hj1 with h2|h2
    ·exact hj j h2
    ·subst h2;rw[hh,Bool.or_true]
   have hask:=hask s (by omega) hlt
   have hpow:2^laL L s≤s:=(Qbx s (by omega) _ (by omega) a2).1
   have s3:=fun G t=>@Qlp G t (laL L s) (by omega)
   have s4:=fun G t=>@Qq7 G t s (laL L s) (by omega) (by omega) a2
   have htk:=@Qa3 B size s hlt
   unfold rgtS at hbad hgood
   unfold paL at hask hbad hgood
   by_cases hpc:popc (P.getD s 0)≤lim
   ·obtain ⟨hadd, hfam⟩ := hask hpc
    rw[decide_eq_true hpc,Bool.true_and]at hbad hgood
    clear hj hb
    generalize hv:laL L s=v at*
    generalize hpd:P.getD s 0=p at*
    clear hpd hv
    generalize hx:addA (B (s-2^v)) (F v p) 1=x at*
    have ht:s-2^v<size:=Nat.lt_of_le_of_lt (Nat.sub_le _ _) hlt
    generalize s-2^v=t at*
    generalize 2^v=bt at*
    have hpc':(lim:Int)<(popc p:Nat)↔False:=⟨fun hh=>by omega,False.elim⟩
    rcases find_entM q v p (k+1)with⟨j,hj1,hj2,hf⟩|⟨_,hf⟩
    ·have hcall := rt_hit L P cards cs F B size q k s v p x (Qo5 cards cs F B size q k s t v p bt j x hj1 hj2 hf ht s3 s4 hadd)
     clear hf hfam hadd
     cases hEq:eqA x (B s)with
     |true=>
      have hg2:=hgood hEq
      have hEqn:(!eqA x (B s))=false:=by rw[hEq];rfl
      unfold eqA at hEqn
      refine .inl ⟨(s+1,q,k),[0,1,2,3,4],[yes 39,no 42,pl 46,ld 47 (u6 (p:Nat)),fn 48 (i6 (popc p:Nat)),no 50,pl 57,ld 58 (i6 (v:Nat)),pl 62,ld 63 (u6 (p:Nat)),(64,.call ⟨.tup [ar x,i6 0],ofOs .e 0 (rtO L P cards cs F B size q k),5,[]⟩),pl 76,ld 77 (ar (B s)),no 78,nu 79 ((s+1:Nat):Int)],1000,⟨hlt,by dsimp only;omega,hg2⟩,by dsimp only;omega,?_⟩
      clear hgood hbad hg2 hask hx
      refine Eq.mp (by kernel_rfl:(let z0:=(↑s:Int);let z1:=ofOs T.e 0 (rtO L P cards cs F B size q k);let z2:=(↑size:Int);let z3:=bF (scF F q) (k+1);let z4:=(↑(s+1):Int);let z5:=headF (List.drop (s*1) (ut P));let z6:=(0:Int);let z7:=entM q (k+1);let z8:=bF B size;let z9:=(↑lim:Int);An [decide (z0<z2)=true,(z0==z6)=false,An [z6≤z0,z0<(↑P.length:Int)],z5=some (u6 ↑p),An [Tt,Tt],FnOk Pg g0 65 [u6 ↑p] (i6 ↑(popc p)),Tt,decide ((↑(popc p):Int)>z9)=false,An [z6≤z0,z0<(↑L.length:Int)],headF (List.drop (s*1) (ints L))=some (i6 ↑v),An [z6≤z0,z0<(↑P.length:Int)],z5=some (u6 ↑p),CallSpec Pg g0 (V.fn 90 []) [V.ptr 3 0,i6 ↑s,i6 ↑v,u6 ↑p] z1 5 (CR.mk (V.tup [ar x,i6 0]) z1 5 []),Tt,An [z6≤z0,z0<z2],takeE 18 (dropF (0+s*18) z8)=some (arF (B s)),(!(x 0==B s 0&&(x 1==B s 1&&(x 2==B s 2&&(x 3==B s 3&&(x 4==B s 4&&(x 5==B s 5&&(x 6==B s 6&&(x 7==B s 7&&(x 8==B s 8&&(x 9==B s 9&&(x 10==B s 10&&(x 11==B s 11&&(x 12==B s 12&&(x 13==B s 13&&(x 14==B s 14&&(x 15==B s 15&&(x 16==B s 16&&(x 17==B s 17&&true)))))))))))))))))))=false,wr .i64 (z0+(1:Int))=z4,An [z9=z9,Zz,Zz,z2=z2,z4=z4,Tt],An [Sm [sl L,ul P],TT 2],An [z8=z8,HfL z8],An [z7=z7,HfE z7,Sm (k+1)],An [An [Sm cards.length,Sm (ints cards)],An [Sm cs.length,Sm (List.map sl cs)],An [Zz,Sm size,Sm (size-size)],Tt,An [Zz,Sm (k+1),Tt],Tt],An [z3=z3,HfL z3],Tt])=_) ?_
      (repeat'(first|(with_reducible apply And.intro)|(refine fun(_:True)=>?_)))
      all_goals first|exact hcall|exact hone|(with_reducible exact hld)|(with_reducible exact hlp)|(with_reducible exact htk)|(rw[Nat.zero_add];with_reducible exact htk)|(with_reducible exact hEqn)|exact hB|exact hE|exact hS|exact hg|exact hc|exact hlo|exact hu|(with_reducible exact hs0)|exact aq|rfl|skip
     |false=>
      have hb2:=hbad hEq
      have hEqn:(!eqA x (B s))=true:=by rw[hEq];rfl
      unfold eqA at hEqn
      refine .inr ⟨.ret,[],rtR false,[yes 39,no 42,pl 46,ld 47 (u6 (p:Nat)),fn 48 (i6 (popc p:Nat)),no 50,pl 57,ld 58 (i6 (v:Nat)),pl 62,ld 63 (u6 (p:Nat)),(64,.call ⟨.tup [ar x,i6 0],ofOs .e 0 (rtO L P cards cs F B size q k),5,[]⟩),pl 76,ld 77 (ar (B s)),yes 78],1000,.inr (.inl ⟨hb2,rfl,rfl⟩),?_⟩
      clear hgood hbad hb2 hask hx
      refine Eq.mp (by kernel_rfl:(let z0:=(↑s:Int);let z1:=ofOs T.e 0 (rtO L P cards cs F B size q k);let z2:=(0:Int);let z3:=headF (List.drop (s*1) (ut P));An [decide (z0<(↑size:Int))=true,(z0==z2)=false,An [z2≤z0,z0<(↑P.length:Int)],z3=some (u6 ↑p),An [Tt,Tt],FnOk Pg g0 65 [u6 ↑p] (i6 ↑(popc p)),Tt,decide ((↑(popc p):Int)>(↑lim:Int))=false,An [z2≤z0,z0<(↑L.length:Int)],headF (List.drop (s*1) (ints L))=some (i6 ↑v),An [z2≤z0,z0<(↑P.length:Int)],z3=some (u6 ↑p),CallSpec Pg g0 (V.fn 90 []) [V.ptr 3 0,i6 ↑s,i6 ↑v,u6 ↑p] z1 5 (CR.mk (V.tup [ar x,i6 0]) z1 5 []),Tt,An [z2≤z0,z0<(↑size:Int)],takeE 18 (dropF (0+s*18) (bF B size))=some (arF (B s)),(!(x 0==B s 0&&(x 1==B s 1&&(x 2==B s 2&&(x 3==B s 3&&(x 4==B s 4&&(x 5==B s 5&&(x 6==B s 6&&(x 7==B s 7&&(x 8==B s 8&&(x 9==B s 9&&(x 10==B s 10&&(x 11==B s 11&&(x 12==B s 12&&(x 13==B s 13&&(x 14==B s 14&&(x 15==B s 15&&(x 16==B s 16&&(x 17==B s 17&&true)))))))))))))))))))=true,An [Sm false,z2=z2,Tt],Tt])=_) ?_
      (repeat'(first|(with_reducible apply And.intro)|(refine fun(_:True)=>?_)))
      all_goals first|exact hcall|exact hone|(with_reducible exact hld)|(with_reducible exact hlp)|(with_reducible exact htk)|(rw[Nat.zero_add];with_reducible exact htk)|(with_reducible exact hEqn)|exact hB|exact hE|exact hS|exact hg|exact hc|exact hlo|exact hu|(with_reducible exact hs0)|exact aq|rfl|skip
    ·have hcall := rt_miss L P cards cs F B size q _ k s v p x (Qh3 cards cs F B size q k s t v p bt x (by omega) hf hfam ht s3 s4 hadd)
     have hE2:=Qac (upQ q (k+1) (v,p)) (k+1+1)
     have hS2:=Qaa (scF F (upQ q (k+1) (v,p))) (k+1+1)
     clear hf hfam hadd
     cases hEq:eqA x (B s)with
     |true=>
      have hg2:=hgood hEq
      have hEqn:(!eqA x (B s))=false:=by rw[hEq];rfl
      unfold eqA at hEqn
      refine .inl ⟨(s+1,upQ q (k+1) (v,p),k+1),[0,1,2,3,5],[yes 39,no 42,pl 46,ld 47 (u6 (p:Nat)),fn 48 (i6 (popc p:Nat)),no 50,pl 57,ld 58 (i6 (v:Nat)),pl 62,ld 63 (u6 (p:Nat)),(64,.call ⟨.tup [ar x,i6 0],ofOs .e 0 (rtO2 L P cards cs F B size (upQ q (k+1) (v,p)) (k+1)),6,[2,3,4]⟩),pl 76,ld 77 (ar (B s)),no 78,nu 79 ((s+1:Nat):Int)],1000,⟨hlt,by dsimp only;omega,hg2⟩,by dsimp only;omega,?_⟩
      clear hgood hbad hg2 hask hx
      generalize upQ q (k+1) (v,p)=q' at*
      refine Eq.mp (by kernel_rfl:(let z0:=(↑s:Int);let z1:=bF (scF F q') (k+1+1);let z2:=(↑size:Int);let z3:=entM q' (k+1+1);let z4:=(↑(s+1):Int);let z5:=headF (List.drop (s*1) (ut P));let z6:=(0:Int);let z7:=bF B size;let z8:=(↑lim:Int);An [decide (z0<z2)=true,(z0==z6)=false,An [z6≤z0,z0<(↑P.length:Int)],z5=some (u6 ↑p),An [Tt,Tt],FnOk Pg g0 65 [u6 ↑p] (i6 ↑(popc p)),Tt,decide ((↑(popc p):Int)>z8)=false,An [z6≤z0,z0<(↑L.length:Int)],headF (List.drop (s*1) (ints L))=some (i6 ↑v),An [z6≤z0,z0<(↑P.length:Int)],z5=some (u6 ↑p),CallSpec Pg g0 (V.fn 90 []) [V.ptr 3 0,i6 ↑s,i6 ↑v,u6 ↑p] (ofOs T.e 0 (rtO L P cards cs F B size q k)) 5 (CR.mk (V.tup [ar x,i6 0]) (ofOs T.e 0 (rtO2 L P cards cs F B size q' (k+1))) 6 [2,3,4]),Tt,An [z6≤z0,z0<z2],takeE 18 (dropF (0+s*18) z7)=some (arF (B s)),(!(x 0==B s 0&&(x 1==B s 1&&(x 2==B s 2&&(x 3==B s 3&&(x 4==B s 4&&(x 5==B s 5&&(x 6==B s 6&&(x 7==B s 7&&(x 8==B s 8&&(x 9==B s 9&&(x 10==B s 10&&(x 11==B s 11&&(x 12==B s 12&&(x 13==B s 13&&(x 14==B s 14&&(x 15==B s 15&&(x 16==B s 16&&(x 17==B s 17&&true)))))))))))))))))))=false,wr .i64 (z0+(1:Int))=z4,An [z8=z8,Zz,Zz,z2=z2,z4=z4,Tt],An [Sm [sl L,ul P],TT 2],An [z7=z7,HfL z7],An [z3=z3,HfE z3,Sm (k+1+1)],An [An [Sm cards.length,Sm (ints cards)],An [Sm cs.length,Sm (List.map sl cs)],An [Zz,Sm size,Sm (size-size)],Tt,An [Zz,Sm (Nat.succ k+1),Tt],Tt],An [z1=z1,HfL z1],Tt])=_) ?_
      (repeat'(first|(with_reducible apply And.intro)|(refine fun(_:True)=>?_)))
      all_goals first|exact hcall|exact hone|(with_reducible exact hld)|(with_reducible exact hlp)|(with_reducible exact htk)|(rw[Nat.zero_add];with_reducible exact htk)|(with_reducible exact hEqn)|exact hB|exact hE|exact hS|exact hE2|exact hS2|exact hg|exact hc|exact hlo|exact hu|(with_reducible exact hs0)|exact aq|rfl|skip
     |false=>
      have hb2:=hbad hEq
      have hEqn:(!eqA x (B s))=true:=by rw[hEq];rfl
      unfold eqA at hEqn
      refine .inr ⟨.ret,[],rtR false,[yes 39,no 42,pl 46,ld 47 (u6 (p:Nat)),fn 48 (i6 (popc p:Nat)),no 50,pl 57,ld 58 (i6 (v:Nat)),pl 62,ld 63 (u6 (p:Nat)),(64,.call ⟨.tup [ar x,i6 0],ofOs .e 0 (rtO2 L P cards cs F B size (upQ q (k+1) (v,p)) (k+1)),6,[2,3,4]⟩),pl 76,ld 77 (ar (B s)),yes 78],1000,.inr (.inl ⟨hb2,rfl,rfl⟩),?_⟩
      clear hgood hbad hb2 hask hx
      generalize upQ q (k+1) (v,p)=q' at*
      refine Eq.mp (by kernel_rfl:(let z0:=(↑s:Int);let z1:=(0:Int);let z2:=headF (List.drop (s*1) (ut P));An [decide (z0<(↑size:Int))=true,(z0==z1)=false,An [z1≤z0,z0<(↑P.length:Int)],z2=some (u6 ↑p),An [Tt,Tt],FnOk Pg g0 65 [u6 ↑p] (i6 ↑(popc p)),Tt,decide ((↑(popc p):Int)>(↑lim:Int))=false,An [z1≤z0,z0<(↑L.length:Int)],headF (List.drop (s*1) (ints L))=some (i6 ↑v),An [z1≤z0,z0<(↑P.length:Int)],z2=some (u6 ↑p),CallSpec Pg g0 (V.fn 90 []) [V.ptr 3 0,i6 ↑s,i6 ↑v,u6 ↑p] (ofOs T.e 0 (rtO L P cards cs F B size q k)) 5 (CR.mk (V.tup [ar x,i6 0]) (ofOs T.e 0 (rtO2 L P cards cs F B size q' (k+1))) 6 [2,3,4]),Tt,An [z1≤z0,z0<(↑size:Int)],takeE 18 (dropF (0+s*18) (bF B size))=some (arF (B s)),(!(x 0==B s 0&&(x 1==B s 1&&(x 2==B s 2&&(x 3==B s 3&&(x 4==B s 4&&(x 5==B s 5&&(x 6==B s 6&&(x 7==B s 7&&(x 8==B s 8&&(x 9==B s 9&&(x 10==B s 10&&(x 11==B s 11&&(x 12==B s 12&&(x 13==B s 13&&(x 14==B s 14&&(x 15==B s 15&&(x 16==B s 16&&(x 17==B s 17&&true)))))))))))))))))))=true,An [Sm false,z1=z1,Tt],Tt])=_) ?_
      (repeat'(first|(with_reducible apply And.intro)|(refine fun(_:True)=>?_)))
      all_goals first|exact hcall|exact hone|(with_reducible exact hld)|(with_reducible exact hlp)|(with_reducible exact htk)|(rw[Nat.zero_add];with_reducible exact htk)|(with_reducible exact hEqn)|exact hB|exact hE|exact hS|exact hE2|exact hS2|exact hg|exact hc|exact hlo|exact hu|(with_reducible exact hs0)|exact aq|rfl|skip
   ·rw [decide_eq_false hpc, Bool.false_and] at hbad
    have hb2:=hbad rfl
    clear hj hb hask hgood hbad
    generalize P.getD s 0=p at*
    refine .inr ⟨.ret,[],rtR false,[yes 39,no 42,pl 46,ld 47 (u6 (p:Nat)),fn 48 (i6 (popc p:Nat)),yes 50],1000,.inr (.inl ⟨hb2,rfl,rfl⟩),?_⟩
    clear hb2
    refine Eq.mp (by kernel_rfl:(let z0:=(↑s:Int);let z1:=(0:Int);An [decide (z0<(↑size:Int))=true,(z0==z1)=false,An [z1≤z0,z0<(↑P.length:Int)],headF (List.drop (s*1) (ut P))=some (u6 ↑p),An [Tt,Tt],FnOk Pg g0 65 [u6 ↑p] (i6 ↑(popc p)),Tt,decide ((↑(popc p):Int)>(↑lim:Int))=true,An [Sm false,z1=z1,Tt],Tt])=_) ?_
    (repeat'(first|(with_reducible apply And.intro)|(refine fun(_:True)=>?_)))
    all_goals first|exact hone|(with_reducible exact hlp)|exact hB|exact hE|exact hS|exact hg|exact hc|exact hlo|exact hu|(with_reducible exact hs0)|exact aq|rfl|skip
 ·have hall : b = true := by rw [hb]; exact all_range.2 fun j hj1 => hj j (by omega)
  refine .inr ⟨.exit 0,[],{sl:=[]},[no 39],1000,.inl ⟨hall,rfl,rfl⟩,?_⟩
  clear hj hall hb hask
  refine Eq.mp (by kernel_rfl:(An [decide ((↑s:Int)<(↑size:Int))=false,Tt,Tt])=_) ?_
  (repeat'(first|(with_reducible apply And.intro)|(refine fun(_:True)=>?_)))
  all_goals first|exact hB|exact hE|exact hS|exact hg|exact hc|exact hlo|exact hu|exact aq|rfl|skip
set_option maxHeartbeats 4000000
set_option maxRecDepth 100000
abbrev rtE(b:Bool)(e:Int):SL:={sl:=[(6,.bool b),(7,i6 e)]}
theorem sum_add1(f g:Nat→Int):ar (sumF f g)=ar (addA f g 1):=congrArg V.agg (Qbo fun k hk=>Qpf f g hk)
theorem ask_ok{cards:List Int}{cs:List (List Int)}(hl2:cs.length≤40)(hcl: ∀c∈cs,c.length≤1000)(h:goodE cards cs=0)(hn:cards.length≤5){lim s v p:Nat}(hs:s<2^cards.length)(hv:v<cards.length)(hok:okT lim s v p=true)(B:Nat→Nat→Int)(hB:inB (B (s-2^v)) 800):AskOk cards cs (fF cards cs) B s v p:=by
 have hF:=Qr0 h hl2
 refine⟨?_,?_⟩
 ·have := add_ok (B (s - 2 ^ v)) (fF cards cs v p) (hB.inA (by decide)) ((hF v p).inA (by decide)) (by
   refine Qso fun k hk=>?_
   have h1:=hB k hk
   have h2:=hF v p k hk
   have:sumF (B (s-2^v)) (fF cards cs v p) k=B (s-2^v) k+1*fF cards cs v p k:=Qpf _ _ hk
   omega)
  rwa [sum_add1]at this
 ·have ho := Qbw.1 hok
  have hps:p≤s:=by rw[←ho.1];exact Nat.and_le_right
  have hF2:fF cards cs v p=famG cards cs v p:=if_pos hv
  rw[hF2]
  refine Qtu cards cs v p (by omega) (by omega) hcl h ?_
  unfold memB
  have e1:p/2^cards.length=0:=Nat.div_eq_of_lt (by omega)
  have e2:p/2^v%2=0:=by
   have:=ho.2.1
   rw[Nat.testBit_eq_decide_div_mod_eq]at this
   have:=of_decide_eq_false this
   omega
  simp[e1,e2,hv]
theorem rgt_all(n lim:Nat)(F:Nat→Nat→Nat→Int)(L:List Int)(P:List Nat)(h:LdOk L P n):(List.range (2^n)).all (fun s=>decide (s=0)||rgtS lim F (tabB n lim F (2^n)) L P s)=rgtB n lim F L P:=by
 have key: ∀s,s<2^n→(decide (s=0)||rgtS lim F (tabB n lim F (2^n)) L P s)=(decide (s=0)||(decide (popc (P.getD s 0)≤lim)&&eqA (addA (topB n lim F (s-2^laL L s)) (F (laL L s) (paL P s)) 1) (topB n lim F s))):=fun s hs=>by
  unfold rgtS
  rw[Qcm,Qcm,if_pos hs,if_pos (Nat.lt_of_le_of_lt (Nat.sub_le _ _) hs)]
 unfold rgtB
 apply Bool.eq_iff_iff.2
 constructor
 ·intro h;exact all_range.2 fun s hs=>by rw[←key s hs];exact all_range.1 h s hs
 ·intro h;exact all_range.2 fun s hs=>by rw[key s hs];exact all_range.1 h s hs
theorem Qfb(cards:List Int)(cs:List (List Int))(lim:Nat)(L:List Int)(P:List Nat)(hP:S64 P)(he:Qdw cards cs (lim:Int)=0)(hgood:goodL L P cards.length=true):FnOk Pg g0 42 [gV cards cs,i6 (lim:Int),lV L P] (.tup [.bool (rgtB cards.length lim (fF cards cs) L P),i6 0]):=by
 obtain⟨hg0,hn1,hn5,_,_,hl2,hcl⟩:=Qjk he
 obtain⟨q,k,hk,h⟩:=Qio cards cs lim he
 have hck:=Qa4 L P hP
 have hvr:=Qbk L P
 rw[Qky,Bool.and_eq_true]at hgood
 obtain⟨hb,hw⟩:=hgood
 have hw:=of_decide_eq_true hw
 have hlad:=Qf6 hb
 rw[hb,if_pos rfl]at hck
 rw[hw]at hvr hlad
 have hF:=Qr0 hg0 hl2
 have hpos:1≤2^cards.length:=Nat.pow_pos (by decide)
 have h32:=Qas hn5
 have l:=rt_loop L P hP cards cs (fF cards cs) (tabB cards.length lim (fF cards cs) (2^cards.length)) cards.length (2^cards.length) lim rfl hlad (fun s h0 hs hpc=>by
  obtain⟨a1,a2,a3⟩:=hlad.ok.at_ s h0 hs
  have hp32:paL P s<32:=by
   rw[←a3];exact Nat.lt_of_le_of_lt Nat.and_le_right (by have:=Nat.sub_le s (2^laL L s);omega)
  refine ask_ok hl2 (fun c hc=>by rw[hcl c hc];omega) hg0 hn5 hs a1 ((Qdu (by omega) (by omega) a2 hp32).2 ⟨a3,hpc⟩) _ ?_
  rw[Qcm,if_pos (Nat.lt_of_le_of_lt (Nat.sub_le _ _) hs)]
  exact Qjt hF hn5 (Nat.lt_of_le_of_lt (Nat.sub_le _ _) hs)) q k hk _ rfl
 rw[rgt_all _ _ _ _ _ hlad]at l
 have e1:=hlad.lenL
 have e2:=hlad.lenP
 generalize rgtB cards.length lim (fF cards cs) L P=b at*
 generalize tabB cards.length lim (fF cards cs) (2^cards.length)=B at*
 generalize laT cards.length lim (fF cards cs) (2^cards.length)=la at*
 generalize paT cards.length lim (fF cards cs) (2^cards.length)=pa at*
 generalize fF cards cs=F at*
 generalize 2^cards.length=size at*
 have hcall:=Qre L P cards cs F size q B la pa k lim h
 have hB:=Qaa B size
 have hla:=Qah la size
 have hpa:=Qag pa size
 have hE:=Qac q (k+1)
 have hS:=Qaa (scF F q) (k+1)
 have hg:=Qar cs
 have hc:=Qae cards
 have hlo:=Qae L
 have hu:=Qa8 P
 have hrt:rrS L P cards cs F B size lim (0,q,k)={sl:=[(1,i6 (lim:Nat)),(5,.ptr 0 0),(8,.ptr 3 0),(37,i6 (L.length:Nat)),(38,i6 0)],os:=rtO L P cards cs F B size q k,md:=[0,0,0,1]}:=by rw[e1];rfl
 rw[hrt]at l
 clear h he hw hb hrt hF
 cases b with
 |true=>
  have l:=l.mono (Qb6 rfl (by simp))
  refine FnOk.of_vc vE_ok mixed Qab (n:=1000) (r:=[]) (S:=rtE true 0) (hs:=[(17,.call ⟨cbW size,ofOs .e 0 ([gO cards cs,lO L P]++cbD cards cs F size q B la pa k),8,[]⟩),fn 25 (i6 0),fn 29 (i6 (cards.length:Nat)),no 33,(0,.loop [1,2,3,4,7] {sl:=[(1,i6 (lim:Nat)),(5,.ptr 0 0),(8,.ptr 3 0),(37,i6 (L.length:Nat)),(38,i6 0)],os:=rtO L P cards cs F B size q k,md:=[0,0,0,1]} [(True,.exit 0,{sl:=[]})])]) ?_
  refine Eq.mp (by kernel_rfl:(let z1:=ofOs T.e 0 ([gO cards cs,lO L P]++cbD cards cs F size q B la pa k);let z2:=[V.agg [V.im L.length (ints L),V.im P.length (ut P)]];let z3:=[sl L,ul P];let z4:=bF (scF F q) (k+1);let z5:=entM q (k+1);let z6:=V.tup [V.bool true,i6 0];let z7:=(↑cards.length:Int);let z8:=(0:Int);let z9:=i6 ↑cards.length;let y0:=some (size-size);let z0:=pt (pt z1 8 (O.row 77 none [V.nils,V.nils])) 8 (O.row 77 none [V.sl 5 0 size y0,V.sl 6 0 size y0]);An [z6=z6,CallSpec Pg g0 (V.fn 88 []) [V.agg [sl cards,gC cs],i6 ↑lim] (pt (pt T.e 0 (O.row 32 none [sl cards,gC cs])) 1 (O.row 77 none z3)) 2 (CR.mk (cbW size) z1 8 []),Tt,An [TT 2,Tt],FnOk Pg g0 56 z2 (i6 0),Tt,An [TT 2,Tt],FnOk Pg g0 89 z2 z9,An [(V.fn 56 []=V.fn 89 []→[V.agg z3]=[V.agg z3]→z0=z0→8+1=9→CR.mk (i6 0) z0 9 []=CR.mk z9 z0 9 []),Tt],(z7 != z7)=false,An [An [Sm (↑lim:Int),Zz,Zz,Sm (↑L.length:Int),z8=z8,Tt],An [z3=z3,TT 2],An [Sm (bF B size),HfL (bF B size)],An [z5=z5,HfE z5,Sm (k+1)],An [An [Sm cards.length,Sm (ints cards)],An [Sm cs.length,Sm (List.map sl cs)],An [Zz,Sm size,Sm (size-size)],Tt,An [Zz,Sm (k+1),Tt],Tt],An [z4=z4,HfL z4],Tt],Sat Pg none 0 (at' 42 [1,1,1,1,0,1,0]) (mkSt g0 80 (SL.mk [(1,i6 ↑lim),(5,V.ptr 0 0),(8,V.ptr 3 0),(37,i6 ↑L.length),(38,i6 0)] (rtO L P cards cs F B size q k) [] [0,0,0,1])) (Qaf g0 80 [(True,Ex.exit 0,SL.mk [] [] [] [])]),(True→An [An [Sm true,z8=z8,Tt],Tt]),Tt])=_) ?_
  (repeat'(first|(with_reducible apply And.intro)|(refine fun(_:True)=>?_)))
  all_goals first|exact l|exact hcall|exact hck|exact hvr|exact hg|exact hc|exact hB|exact hla|exact hpa|exact hE|exact hS|exact hlo|exact hu|exact aq|rfl|skip
 |false=>
  have l:=l.mono (Qb7 (by simp) rfl)
  refine FnOk.of_vc vE_ok mixed Qab (n:=1000) (r:=[]) (S:=rtE false 0) (hs:=[(17,.call ⟨cbW size,ofOs .e 0 ([gO cards cs,lO L P]++cbD cards cs F size q B la pa k),8,[]⟩),fn 25 (i6 0),fn 29 (i6 (cards.length:Nat)),no 33,(0,.loop [1,2,3,4,7] {sl:=[(1,i6 (lim:Nat)),(5,.ptr 0 0),(8,.ptr 3 0),(37,i6 (L.length:Nat)),(38,i6 0)],os:=rtO L P cards cs F B size q k,md:=[0,0,0,1]} [(True,.ret,rtR false)])]) ?_
  refine Eq.mp (by kernel_rfl:(let z1:=ofOs T.e 0 ([gO cards cs,lO L P]++cbD cards cs F size q B la pa k);let z2:=[V.agg [V.im L.length (ints L),V.im P.length (ut P)]];let z3:=[sl L,ul P];let z4:=bF (scF F q) (k+1);let z5:=entM q (k+1);let z6:=V.tup [V.bool false,i6 0];let z7:=(↑cards.length:Int);let z8:=(0:Int);let z9:=i6 ↑cards.length;let y0:=some (size-size);let z0:=pt (pt z1 8 (O.row 77 none [V.nils,V.nils])) 8 (O.row 77 none [V.sl 5 0 size y0,V.sl 6 0 size y0]);An [z6=z6,CallSpec Pg g0 (V.fn 88 []) [V.agg [sl cards,gC cs],i6 ↑lim] (pt (pt T.e 0 (O.row 32 none [sl cards,gC cs])) 1 (O.row 77 none z3)) 2 (CR.mk (cbW size) z1 8 []),Tt,An [TT 2,Tt],FnOk Pg g0 56 z2 (i6 0),Tt,An [TT 2,Tt],FnOk Pg g0 89 z2 z9,An [(V.fn 56 []=V.fn 89 []→[V.agg z3]=[V.agg z3]→z0=z0→8+1=9→CR.mk (i6 0) z0 9 []=CR.mk z9 z0 9 []),Tt],(z7 != z7)=false,An [An [Sm (↑lim:Int),Zz,Zz,Sm (↑L.length:Int),z8=z8,Tt],An [z3=z3,TT 2],An [Sm (bF B size),HfL (bF B size)],An [z5=z5,HfE z5,Sm (k+1)],An [An [Sm cards.length,Sm (ints cards)],An [Sm cs.length,Sm (List.map sl cs)],An [Zz,Sm size,Sm (size-size)],Tt,An [Zz,Sm (k+1),Tt],Tt],An [z4=z4,HfL z4],Tt],Sat Pg none 0 (at' 42 [1,1,1,1,0,1,0]) (mkSt g0 80 (SL.mk [(1,i6 ↑lim),(5,V.ptr 0 0),(8,V.ptr 3 0),(37,i6 ↑L.length),(38,i6 0)] (rtO L P cards cs F B size q k) [] [0,0,0,1])) (Qaf g0 80 [(True,Ex.ret,rtR false)]),(True→An [An [Sm false,z8=z8,Tt],Tt]),Tt])=_) ?_
  (repeat'(first|(with_reducible apply And.intro)|(refine fun(_:True)=>?_)))
  all_goals first|exact l|exact hcall|exact hck|exact hvr|exact hg|exact hc|exact hB|exact hla|exact hpa|exact hE|exact hS|exact hlo|exact hu|exact aq|rfl|skip
def litF(l:List Int):Nat→Int:=fun i=>l.getD i 0
abbrev exC:List Int:=[2,2]
abbrev exD:List (List Int):=[[0,0],[0,0],[1,1],[0,1]]
def exG(v p:Nat):Nat→Int:=match v,p with
 |0,0=>litF [-2,0,-1]
 |0,2=>litF [-1,-2]
 |1,0=>litF [-1,-1,-1]
 |1,1=>litF [-3,-1]
 | _,_=>fF exC exD v p
theorem Qkp: ∀v,v<2→∀p,p<4→∀i,i<18→fF exC exD v p i=exG v p i:=by decide+kernel
def exT(lim:Nat)(s:Nat):Nat→Int:=match s with
 |1=>litF [-2,0,-1]
 |2=>litF [-1,-1,-1]
 |3=>if lim=0 then litF [-3,-1,-2]else litF [-5,-1,-1]
 | _=>Qaj
theorem exT0: ∀s,s<4→∀i,i<18→valO (outB 0 exG (exT 0) s 2) i=exT 0 s i:=by decide+kernel
theorem exT1: ∀s,s<4→∀i,i<18→valO (outB 1 exG (exT 1) s 2) i=exT 1 s i:=by decide+kernel
theorem Qrz: ∀s,s<4→∀i,i<18→topB 2 0 (fF exC exD) s i=exT 0 s i:=fun s hs=>(Qpg (lim:=0) (exT 0) 4 Qkp exT0 s hs).2
theorem Qmc: ∀s,s<4→∀i,i<18→topB 2 1 (fF exC exD) s i=exT 1 s i:=fun s hs=>(Qpg (lim:=1) (exT 1) 4 Qkp exT1 s hs).2
noncomputable def vcFi2(P:Program)(E:Env)(sp:Qdl)(gl:T (List V))(n:Nat)(ars:List V)(hs:Hs)(r1:List Nat)(S1:SL)(r:List Nat)(S:SL)(v:V):Option FI→Prop
 |some fi=>bif Nat.ble ars.length fi.ntmps&&hfB v then retP v (retV E.G (mkSt gl fi.ntmps S).tm (mkSt gl fi.ntmps S).H fi.res)∧gcP 0 r (mkSt gl fi.ntmps S1) S∧vc P E sp none 0 n fi.body hs ⟨⟨Qdv (blank fi.ntmps) 0 ars,gl,fi.ntmps⟩,.e,0,[]⟩ (kFin fi.ntmps r1 S1)else False
 |none=>False
theorem FnOk.of_vc2{P:Program}{E:Env}{sp:Qdl}(hE:E.Ok P)(hm:P.follows .mixedOrders=true){gl:T (List V)}(hsp:Qbg P gl sp){n f:Nat}{ars:List V}{hs:Hs}{r1:List Nat}{S1:SL}{r:List Nat}{S:SL}{v:V}(h:vcFi2 P E sp gl n ars hs r1 S1 r S v (E.code f)):FnOk P gl f ars v:=by
 unfold vcFi2 at h
 split at h
 ·rename_i fi hfi
  obtain⟨hb,hret,hgc,hv⟩:=Qai h
  rw[Bool.and_eq_true]at hb
  have hret':retV E.G (mkSt gl fi.ntmps S).tm (mkSt gl fi.ntmps S).H fi.res=some v:=by
   unfold retP at hret
   split at hret
   ·rename_i u e;rw[e,hret]
   ·exact hret.elim
  rw[Qca]at hv
  refine CallSpec.fnC hE hfi (by rw[List.append_nil];exact hb.1) (Log.refl _ _ _) (R:=fun e st=>(e= .normal∨e= .ret)∧st=mkSt gl fi.ntmps S) ?_ ?_
  ·rw [List.append_nil]
   refine Sat.gc_post (Sat.gc_post (Sat.of_vc hE hm hsp rfl hv fun e hs' st' hg hk=>?_))
   unfold kFin at hk
   have fin:(bif Nat.beq st'.tm.n fi.ntmps then gcP 0 r1 st' S1 else False)→∃r0 st2,Gc 0 r0 st' st2∧∃r1' st3,Gc 0 r1' st2 st3∧st3=mkSt gl fi.ntmps S:=by
    intro hk
    obtain⟨hb,hk⟩:=Qai hk
    have hn:=Nat.eq_of_beq_eq_true hb
    have g1:=Qdi hk
    rw[hg,hn]at g1
    exact⟨r1,_,g1,r,_,Qdi hgc,rfl⟩
   cases e with
   |exit=>exact hk.elim
   |normal=>obtain⟨r0,st2,h1,r2,st3,h2,h3⟩:=fin hk;exact⟨r0,st2,h1,r2,st3,h2,.inl rfl,h3⟩
   |ret=>obtain⟨r0,st2,h1,r2,st3,h2,h3⟩:=fin hk;exact⟨r0,st2,h1,r2,st3,h2,.inr rfl,h3⟩
  ·rintro e st ⟨he, rfl⟩
   refine⟨he,v,hret',fun s w ee w' hH hn⟨u,s',h1,g1,g2,g3,_,_⟩=>?_⟩
   subst h1
   obtain⟨s'',q1,q2,q3,q4⟩:=Qfu hH g1 (Qk0.1 v hb.2) g3 (fun h _=>hn h (Nat.zero_le _)) (fun b hb=>g2.old b (.inl hb))
   exact⟨u,s'',rfl,q1,q2,q3,fun i=>by rw[q4];exact dom_same s _ i,Nat.le_refl _⟩
 ·exact h.elim
theorem Qjg{n lim:Nat}{F G:Nat→Nat→Nat→Int}{T:Nat→Nat→Int}{L:List Int}{P:List Nat}(h:LdOk L P n)(hT: ∀s,s<2^n→∀i,i<18→topB n lim F s i=T s i)(hG: ∀v,v<n→∀p,p<2^n→∀i,i<18→F v p i=G v p i):rgtB n lim F L P=(List.range (2^n)).all fun s=>decide (s=0)||(decide (popc (P.getD s 0)≤lim)&&eqA (addA (T (s-2^laL L s)) (G (laL L s) (paL P s)) 1) (T s)):=by
 have key: ∀s,s<2^n→(decide (s=0)||(decide (popc (P.getD s 0)≤lim)&&eqA (addA (topB n lim F (s-2^laL L s)) (F (laL L s) (paL P s)) 1) (topB n lim F s)))=(decide (s=0)||(decide (popc (P.getD s 0)≤lim)&&eqA (addA (T (s-2^laL L s)) (G (laL L s) (paL P s)) 1) (T s))):=fun s hs=>by
  by_cases h0:s=0
  ·rw[decide_eq_true h0];rfl
  ·obtain ⟨a1, a2, a3⟩ := h.ok.at_ s (by omega) hs
   have hp:paL P s<2^n:=by
    rw[←a3];exact Nat.lt_of_le_of_lt Nat.and_le_right (by have:=Nat.sub_le s (2^laL L s);omega)
   congr 2
   apply Bool.eq_iff_iff.2
   rw[Qer,Qer]
   have ht:=Nat.sub_le s (2^laL L s)
   constructor
   ·intro hh i hi
    rw[Qbt,←hT _ (by omega) i hi,←hG _ a1 _ hp i hi,←hT _ hs i hi,←hh i hi,Qbt]
   ·intro hh i hi
    rw[Qbt,hT _ (by omega) i hi,hG _ a1 _ hp i hi,hT _ hs i hi,←hh i hi,Qbt]
 unfold rgtB
 apply Bool.eq_iff_iff.2
 constructor
 ·intro h;exact all_range.2 fun s hs=>by rw[←key s hs];exact all_range.1 h s hs
 ·intro h;exact all_range.2 fun s hs=>by rw[key s hs];exact all_range.1 h s hs
abbrev l1L:List Int:=[0,0,1,1]
abbrev l1P:List Nat:=[0,0,0,1]
abbrev l2L:List Int:=[0,0,1,0]
abbrev l2P:List Nat:=[0,0,0,2]
theorem Qqj{a b c d:Nat}(ha:a<100)(hb:b<100)(hc:c<100)(hd:d<100):S64 [a,b,c,d]:=fun x hx=>by
 simp at hx
 omega
theorem Qes:Qdw exC exD 0=0∧Qdw exC exD 1=0∧Qdw exC exD 5=2:=by decide+kernel
theorem l1_ok:LdOk l1L l1P 2:=Qf6 (L:=l1L) (P:=l1P) (by decide+kernel)
theorem l2_ok:LdOk l2L l2P 2:=Qf6 (L:=l2L) (P:=l2P) (by decide+kernel)
theorem r11:rgtB 2 1 (fF exC exD) l1L l1P=true:=by rw[Qjg l1_ok Qmc Qkp];decide+kernel
theorem r12:rgtB 2 1 (fF exC exD) l2L l2P=false:=by rw[Qjg l2_ok Qmc Qkp];decide+kernel
theorem r01:rgtB 2 0 (fF exC exD) l1L l1P=false:=by rw[Qjg l1_ok Qrz Qkp];decide+kernel
theorem over_600:FnOk Pg g0 96 [i6 600] (ar (litF [-3,-1,-2])):=FnOk.of_run vE_ok mixed (n:=100000) rfl (by kernel_rfl)
theorem over_480:FnOk Pg g0 96 [i6 480] (ar (litF [-5,-1,-1])):=FnOk.of_run vE_ok mixed (n:=100000) rfl (by kernel_rfl)
theorem Qp1:FnOk Pg g0 66 [] (gV exC exD):=by
 refine FnOk.of_vc2 vE_ok mixed Qab (n:=1000) (r1:=[0,6]) (S1:={sl:=[(0,.ptr 0 0)],os:=[.row 32 none [sl exC,.sl 1 0 4 (some 0)],.row 29 none [sl [0,0],sl [0,0],sl [1,1],sl [0,1]]],md:=[1,1]}) (r:=[0]) (S:={sl:=[(0,.ptr 0 0)],os:=[.row 32 none [sl exC,gC exD]],md:=[1]}) (hs:=[]) ?_
 refine Eq.mp (by kernel_rfl:(let z0:=(0:Int);let z1:=(1:Int);An [V.agg [sl exC,gC exD]=gV exC exD,An [An [Zz,Tt],An [An [2=2,Sm (ints exC)],An [4=4,List.map sl exD=[sl [z0,z0],sl [z0,z0],sl [z1,z1],sl [z0,z1]],TT 4],Tt],Tt],An [Zz,Tt],An [An [2=2,ints exC=[i6 2,i6 2],TT 2],An [Zz,4=4,Zz],Tt],An [An [2=2,ints [z0,z0]=[i6 0,i6 0],TT 2],An [2=2,ints [z0,z0]=[i6 0,i6 0],TT 2],An [2=2,ints [z1,z1]=[i6 1,i6 1],TT 2],An [2=2,ints [z0,z1]=[i6 0,i6 1],TT 2],Tt],Tt])=_) ?_
 (repeat'(first|(with_reducible apply And.intro)|(refine fun(_:True)=>?_)))
 all_goals first|exact aq|rfl|skip
theorem top_0:FnOk Pg g0 41 [gV exC exD,i6 0] (.tup [ar (litF [-3,-1,-2]),i6 0]):=by
 have h:=Quc exC exD 0 Qes.1
 rw[show ar (topB exC.length 0 (fF exC exD) (2^exC.length-1))=ar (litF [-3,-1,-2])from congrArg V.agg (Qbo (Qrz 3 (by decide)))]at h
 exact h
theorem top_1:FnOk Pg g0 41 [gV exC exD,i6 1] (.tup [ar (litF [-5,-1,-1]),i6 0]):=by
 have h:=Quc exC exD 1 Qes.2.1
 rw[show ar (topB exC.length 1 (fF exC exD) (2^exC.length-1))=ar (litF [-5,-1,-1])from congrArg V.agg (Qbo (Qmc 3 (by decide)))]at h
 exact h
theorem top_5:FnOk Pg g0 41 [gV exC exD,i6 5] (.tup [ar Qaj,i6 2]):=top_bad exC exD 5 (by decide) (by decide) 2 Qes.2.2 (by decide)
abbrev wkO:List O:=[.row 32 none [sl exC,gC exD],.row 41 none (arF (litF [-3,-1,-2])),.row 41 none (arF (litF [-5,-1,-1])),.row 3 none [i6 0,i6 0,i6 1,i6 1],.row 28 none [u6 0,u6 0,u6 0,u6 1],.row 77 none [.sl 3 0 4 (some 0),.sl 4 0 4 (some 0)],.row 3 none [i6 0,i6 0,i6 1,i6 0],.row 28 none [u6 0,u6 0,u6 0,u6 2],.row 77 none [.sl 6 0 4 (some 0),.sl 7 0 4 (some 0)]]
abbrev wkO1:List O:=wkO++[.row 28 none [u6 0,u6 1]]
theorem wk_small(n:Nat)(h:n<9):n=0∨n=1∨n=2∨n=3∨n=4∨n=5∨n=6∨n=7∨n=8:=by omega
theorem wk_small1(n:Nat)(h:n<10):n=0∨n=1∨n=2∨n=3∨n=4∨n=5∨n=6∨n=7∨n=8∨n=9:=by omega
theorem chk_l1:FnOk Pg g0 56 [lV l1L l1P] (i6 0):=by
 have h:=Qa4 l1L l1P (Qqj (by decide) (by decide) (by decide) (by decide))
 rw[show(if ladB l1L l1P then(0:Int)else 290)=0 by decide+kernel]at h
 exact h
theorem chk_l2:FnOk Pg g0 56 [lV l2L l2P] (i6 0):=by
 have h:=Qa4 l2L l2P (Qqj (by decide) (by decide) (by decide) (by decide))
 rw[show(if ladB l2L l2P then(0:Int)else 290)=0 by decide+kernel]at h
 exact h
theorem var_l1:FnOk Pg g0 89 [lV l1L l1P] (i6 2):=by
 have h:=Qbk l1L l1P
 rw[show wdt l1L l1P=2 by decide+kernel]at h
 exact h
theorem var_l2:FnOk Pg g0 89 [lV l2L l2P] (i6 2):=by
 have h:=Qbk l2L l2P
 rw[show wdt l2L l2P=2 by decide+kernel]at h
 exact h
theorem gra_l1:CallSpec Pg g0 (.fn 40 []) [.agg [.sl 3 0 4 (some 0),.sl 4 0 4 (some 0)]] (ofOs .e 0 wkO) 9 ⟨.tup [.sl 9 0 2 (some 0),i6 0],ofOs .e 0 wkO1,10,[]⟩:=by
 have h1:=chk_l1
 have h2:=var_l1
 refine CallSpec.of_vcH (P:=Pg) (E:=vE) vE_ok mixed Qab (n:=1000) (f:=40) (os0:=wkO) (ars:=[.agg [.sl 3 0 4 (some 0),.sl 4 0 4 (some 0)]]) (r:=[10]) (S:={sl:=[(2,.sl 9 0 2 (some 0)),(3,i6 0)],os:=wkO1,md:=[0,0,0,0,0,1,0,0,1]}) (v:=.tup [.sl 9 0 2 (some 0),i6 0]) (hs:=[fn 8 (i6 0),fn 13 (i6 2),(0,.unroll 5)]) (gl:=g0) (by simp) (fun i hi _=>by
   rcases wk_small i (by simpa using hi)with rfl|rfl|rfl|rfl|rfl|rfl|rfl|rfl|rfl<;>rfl) (by
  refine Eq.mp (by kernel_rfl:(let z9:=An [An [TT 4,TT 4,Tt],Tt];let z1:=arF (litF [(-3:Int),(-1:Int),(-2:Int)]);let z2:=arF (litF [(-5:Int),(-1:Int),(-1:Int)]);let z3:=[i6 0,i6 0,i6 1,i6 1];let z4:=[u6 0,u6 0,u6 0,u6 1];let z5:=Int.toNat (2:Int);let z6:=V.tup [V.sl 9 0 2 (some 0),i6 0];let z7:=[i6 0,i6 0,i6 1,i6 0];let z8:=[u6 0,u6 0,u6 0,u6 2];let z0:=[V.agg [V.im 4 z3,V.im 4 z4]];An [z6=z6,z9,FnOk Pg g0 56 z0 (i6 0),Tt,z9,FnOk Pg g0 89 z0 (i6 2),Tt,An [An [Zz,2=z5,0=z5-z5],Sm (0:Int),Tt],An [Sm [sl exC,gC exD],TT 2],An [z1=z1,TT 18],An [z2=z2,TT 18],An [z3=z3,TT 4],An [z4=z4,TT 4],An [An [Zz,4=4,Zz],An [Zz,4=4,Zz],Tt],An [z7=z7,TT 4],An [z8=z8,TT 4],An [An [Zz,4=4,Zz],An [Zz,4=4,Zz],Tt],An [Sm [u6 0,u6 1],TT 2],Tt])=_) ?_
  (repeat'(first|(with_reducible apply And.intro)|(refine fun(_:True)=>?_)))
  all_goals first|exact h1|exact h2|exact aq|rfl|skip)
theorem gra_l2:CallSpec Pg g0 (.fn 40 []) [.agg [.sl 6 0 4 (some 0),.sl 7 0 4 (some 0)]] (ofOs .e 0 wkO1) 10 ⟨.tup [.sl 10 0 2 (some 0),i6 0],ofOs .e 0 (wkO1++[.row 28 none [u6 2,u6 0]]),11,[]⟩:=by
 have h1:=chk_l2
 have h2:=var_l2
 refine CallSpec.of_vcH (P:=Pg) (E:=vE) vE_ok mixed Qab (n:=1000) (f:=40) (os0:=wkO1) (ars:=[.agg [.sl 6 0 4 (some 0),.sl 7 0 4 (some 0)]]) (r:=[11]) (S:={sl:=[(2,.sl 10 0 2 (some 0)),(3,i6 0)],os:=wkO1++[.row 28 none [u6 2,u6 0]],md:=[0,0,0,0,0,1,0,0,1]}) (v:=.tup [.sl 10 0 2 (some 0),i6 0]) (hs:=[fn 8 (i6 0),fn 13 (i6 2),(0,.unroll 5)]) (gl:=g0) (by simp) (fun i hi _=>by
   rcases wk_small1 i (by simpa using hi)with rfl|rfl|rfl|rfl|rfl|rfl|rfl|rfl|rfl|rfl<;>rfl) (by
  refine Eq.mp (by kernel_rfl:(let z9:=An [An [TT 4,TT 4,Tt],Tt];let z1:=arF (litF [(-3:Int),(-1:Int),(-2:Int)]);let z2:=arF (litF [(-5:Int),(-1:Int),(-1:Int)]);let z3:=[i6 0,i6 0,i6 1,i6 0];let z4:=[u6 0,u6 0,u6 0,u6 2];let z5:=Int.toNat (2:Int);let z6:=V.tup [V.sl 10 0 2 (some 0),i6 0];let z7:=[i6 0,i6 0,i6 1,i6 1];let z8:=[u6 0,u6 0,u6 0,u6 1];let z0:=[V.agg [V.im 4 z3,V.im 4 z4]];An [z6=z6,z9,FnOk Pg g0 56 z0 (i6 0),Tt,z9,FnOk Pg g0 89 z0 (i6 2),Tt,An [An [Zz,2=z5,0=z5-z5],Sm (0:Int),Tt],An [Sm [sl exC,gC exD],TT 2],An [z1=z1,TT 18],An [z2=z2,TT 18],An [z7=z7,TT 4],An [z8=z8,TT 4],An [An [Zz,4=4,Zz],An [Zz,4=4,Zz],Tt],An [z3=z3,TT 4],An [z4=z4,TT 4],An [An [Zz,4=4,Zz],An [Zz,4=4,Zz],Tt],An [Sm [u6 0,u6 1],TT 2],An [Sm [u6 2,u6 0],TT 2],Tt])=_) ?_
  (repeat'(first|(with_reducible apply And.intro)|(refine fun(_:True)=>?_)))
  all_goals first|exact h1|exact h2|exact aq|rfl|skip)
theorem rgt_11:FnOk Pg g0 42 [gV exC exD,i6 1,lV l1L l1P] (.tup [.bool true,i6 0]):=by
 have h:=Qfb exC exD 1 l1L l1P (Qqj (by decide) (by decide) (by decide) (by decide)) Qes.2.1 (by decide+kernel)
 rw[show rgtB exC.length 1 (fF exC exD) l1L l1P=true from r11]at h
 exact h
theorem rgt_12:FnOk Pg g0 42 [gV exC exD,i6 1,lV l2L l2P] (.tup [.bool false,i6 0]):=by
 have h:=Qfb exC exD 1 l2L l2P (Qqj (by decide) (by decide) (by decide) (by decide)) Qes.2.1 (by decide+kernel)
 rw[show rgtB exC.length 1 (fF exC exD) l2L l2P=false from r12]at h
 exact h
theorem rgt_01:FnOk Pg g0 42 [gV exC exD,i6 0,lV l1L l1P] (.tup [.bool false,i6 0]):=by
 have h:=Qfb exC exD 0 l1L l1P (Qqj (by decide) (by decide) (by decide) (by decide)) Qes.1 (by decide+kernel)
 rw[show rgtB exC.length 0 (fF exC exD) l1L l1P=false from r01]at h
 exact h
theorem chk_a:FnOk Pg g0 56 [lV [0,1,1,1] [0,0,0,0]] (i6 290):=by
 have h:=Qa4 [0,1,1,1] [0,0,0,0] (Qqj (by decide) (by decide) (by decide) (by decide))
 rw[show(if ladB [0,1,1,1] [0,0,0,0]then(0:Int)else 290)=290 by decide+kernel]at h
 exact h
theorem chk_b:FnOk Pg g0 56 [lV [0,0,1] [0,0,0]] (i6 290):=by
 have h:=Qa4 [0,0,1] [0,0,0] (fun x hx=>by simp at hx;omega)
 rw[show(if ladB [0,0,1] [0,0,0]then(0:Int)else 290)=290 by decide+kernel]at h
 exact h
theorem works29:FnOk Pg g0 60 [] (.bool true):=by
 have h1:=Qp1
 have h2:=top_0
 have h3:=top_1
 have h4:=gra_l1
 have h5:=gra_l2
 have h6:=rgt_11
 have h7:=rgt_12
 have h8:=rgt_01
 have h9:=top_5
 have ha:=over_600
 have hb:=over_480
 have hc:=Qhq [0,1] (by decide)
 have hd:=Qhq [2,0] (by decide)
 have he:=chk_a
 have hf:=chk_b
 refine FnOk.of_vc vE_ok mixed Qab (n:=1000) (r:=[]) (S:={sl:=[(0,.bool true)]}) (hs:=[fn 21 (gV exC exD),fn 24 (.tup [ar (litF [-3,-1,-2]),i6 0]),fn 29 (.tup [ar (litF [-5,-1,-1]),i6 0]),(40,.call ⟨.tup [.sl 9 0 2 (some 0),i6 0],ofOs .e 0 wkO1,10,[]⟩),(45,.call ⟨.tup [.sl 10 0 2 (some 0),i6 0],ofOs .e 0 (wkO1++[.row 28 none [u6 2,u6 0]]),11,[]⟩),fn 51 (.tup [.bool true,i6 0]),fn 57 (.tup [.bool false,i6 0]),fn 63 (.tup [.bool false,i6 0]),fn 68 (.tup [ar Qaj,i6 2]),fn 79 (ar (litF [-3,-1,-2])),fn 84 (ar (litF [-5,-1,-1])),fn 94 (.bool true),fn 103 (.bool true),fn 137 (i6 290),fn 144 (i6 290)]) ?_
 refine Eq.mp (by kernel_rfl:(let w0:=An [TT 2,Tt,An [TT 4,TT 4,Tt],Tt];let w1:=An [TT 2,Tt,Tt];let z1:=[(-3:Int),(-1:Int),(-2:Int)];let z2:=[(-5:Int),(-1:Int),(-1:Int)];let z5:=O.row 41 none [i6 0,i6 0,i6 0,i6 0,i6 0,i6 0,i6 0,i6 0,i6 0,i6 0,i6 0,i6 0,i6 0,i6 0,i6 0,i6 0,i6 0,i6 0];let z6:=V.agg [V.im 2 (ints exC),V.im 4 (List.map sl exD)];let z8:=V.bool true;let y0:=[V.sl 10 0 2 (some 0),V.sl 13 0 2 (some 0)];let y1:=[V.sl 9 0 2 (some 0),V.sl 12 0 2 (some 0)];let y3:=Int.toNat (4:Int);let y4:=Int.toNat (3:Int);let y8:=[V.sl 3 0 4 (some 0),V.sl 4 0 4 (some 0)];let y9:=[V.sl 6 0 4 (some 0),V.sl 7 0 4 (some 0)];let x0:=O.row 77 none [V.nils,V.nils];let x1:=[u6 2,u6 0];let x2:=V.tup [V.bool false,i6 0];let x3:=[i6 0,i6 0,i6 1,i6 1];let x4:=[u6 0,u6 0,u6 0,u6 1];let x5:=[i6 0,i6 0,i6 1,i6 0];let x6:=[u6 0,u6 0,u6 0,u6 2];let x7:=[i6 0,i6 1,i6 1,i6 1];let x8:=[u6 0,u6 0,u6 0,u6 0];let x9:=[u6 0,u6 1];let y2:=V.agg [V.im 4 x3,V.im 4 x4];let y5:=ofOs T.e 0 (wkO1++[O.row 28 none x1]);let y6:=ar (litF z1);let y7:=ar (litF z2);let z0:=pt (pt y5 11 z5) 11 (O.row 41 none (arF Qaj));let z7:=pt z0 12 (O.row 28 none x9);let z3:=pt z7 13 (O.row 28 none x1);let z4:=pt (pt z3 14 (O.row 3 none x7)) 15 (O.row 28 none x8);let z9:=pt (pt z4 16 (O.row 3 none [i6 0,i6 0,i6 1])) 17 (O.row 28 none [u6 0,u6 0,u6 0]);An [z8=z8,Tt,FnOk Pg g0 66 [] (gV exC exD),Tt,w1,FnOk Pg g0 41 [z6,i6 0] (V.tup [y6,i6 0]),Tt,w1,FnOk Pg g0 41 [z6,i6 1] (V.tup [y7,i6 0]),Tt,CallSpec Pg g0 (V.fn 40 []) [V.agg y8] (pt (pt (pt (pt (pt (pt (pt (pt (pt (pt (pt (pt (pt (pt T.e 0 (O.row 32 none [V.nils,V.nils])) 0 (O.row 32 none [sl exC,gC exD])) 1 z5) 1 (O.row 41 none (arF (litF z1)))) 2 z5) 2 (O.row 41 none (arF (litF z2)))) 3 (O.row 3 none x3)) 4 (O.row 28 none x4)) 5 x0) 5 (O.row 77 none y8)) 6 (O.row 3 none x5)) 7 (O.row 28 none x6)) 8 x0) 8 (O.row 77 none y9)) 9 (CR.mk (V.tup [V.sl 9 0 2 (some 0),i6 0]) (ofOs T.e 0 wkO1) 10 []),Tt,CallSpec Pg g0 (V.fn 40 []) [V.agg y9] (ofOs T.e 0 wkO1) 10 (CR.mk (V.tup [V.sl 10 0 2 (some 0),i6 0]) y5 11 []),Tt,w0,FnOk Pg g0 42 [z6,i6 1,y2] (V.tup [z8,i6 0]),Tt,w0,FnOk Pg g0 42 [z6,i6 1,V.agg [V.im 4 x5,V.im 4 x6]] x2,Tt,w0,FnOk Pg g0 42 [z6,i6 0,y2] x2,Tt,w1,FnOk Pg g0 41 [z6,i6 5] (V.tup [ar Qaj,i6 2]),Tt,An [Tt,Tt],FnOk Pg g0 96 [i6 600] y6,Tt,An [Tt,Tt],FnOk Pg g0 96 [i6 480] y7,An [(V.fn 96 []=V.fn 96 []→[i6 600]=[i6 480]→z0=z0→11+1=12→CR.mk y6 z0 12 []=CR.mk y7 z0 12 []),Tt],An [TT 2,TT 2,Tt],FnOk Pg g0 58 [V.im 2 x9,V.im 2 x9] z8,An [(V.fn 96 []=V.fn 58 []→[i6 480]=y1→z0=z7→11+1=13→CR.mk y7 z0 12 []=CR.mk z8 z7 13 []),(V.fn 96 []=V.fn 58 []→[i6 600]=y1→z0=z7→11+1=13→CR.mk y6 z0 12 []=CR.mk z8 z7 13 []),Tt],An [TT 2,TT 2,Tt],FnOk Pg g0 58 [V.im 2 x1,V.im 2 x1] z8,An [(V.fn 58 []=V.fn 58 []→y1=y0→z7=z3→11+1+1=14→CR.mk z8 z7 13 []=CR.mk z8 z3 14 []),(V.fn 96 []=V.fn 58 []→[i6 480]=y0→z0=z3→11+1=14→CR.mk y7 z0 12 []=CR.mk z8 z3 14 []),(V.fn 96 []=V.fn 58 []→[i6 600]=y0→z0=z3→11+1=14→CR.mk y6 z0 12 []=CR.mk z8 z3 14 []),Tt],An [An [TT 4,TT 4,Tt],Tt],FnOk Pg g0 56 [V.agg [V.im 4 x7,V.im y3 x8]] (i6 290),Tt,An [An [TT 3,TT 3,Tt],Tt],FnOk Pg g0 56 [V.agg [V.im 3 [i6 0,i6 0,i6 1],V.im y4 [u6 0,u6 0,u6 0]]] (i6 290),An [(V.fn 56 []=V.fn 56 []→[V.agg [V.sl 14 0 4 (some 0),V.sl 15 0 y3 (some (y3-y3))]]=[V.agg [V.sl 16 0 3 (some 0),V.sl 17 0 y4 (some (y4-y4))]]→z4=z9→11+1+1+1+1+1=18→CR.mk (i6 290) z4 16 []=CR.mk (i6 290) z9 18 []),Tt],An [true=((290:Int)==(290:Int)),Tt],Tt])=_) ?_
 (repeat'(first|(with_reducible apply And.intro)|(refine fun(_:True)=>?_)))
 all_goals first|exact h1|exact h2|exact h3|exact h4|exact h5|exact h6|exact h7|exact h8|exact h9|exact ha|exact hb|exact hc|exact hd|exact he|exact hf|exact aq|rfl|skip
set_option maxHeartbeats 1000000
theorem Qti{cards:List Int}(h:CdOk cards): ∀k:Nat,k≤cards.length→1≤prodT cards k∧prodT cards k≤3^k
 |0,_=>by simp[prodT]
 |k+1,hk=>by
  have h1:=Qti h k (by omega)
  have h2:=h.each k (by omega)
  unfold prodT
  rw[Int.pow_succ]
  generalize (3:Int)^k=P at*
  generalize prodT cards k=a at*
  generalize cards.getD k 0=c at*
  constructor
  ·exact Int.mul_le_mul h1.1 (by omega:(1:Int)≤c) (by omega) (by omega) |> fun h=>by simpa using h
  ·exact Int.mul_le_mul h1.2 h2.2 (by omega) (by omega)
theorem Qsi{l:List Int}{x:Int}(h:x∈l): ∃k,k<l.length∧x=l.getD k 0:=by
 obtain⟨k,hk,rfl⟩:=List.getElem_of_mem h
 exact⟨k,hk,by rw[List.getD_eq_getElem?_getD,List.getElem?_eq_getElem hk];rfl⟩
theorem good_of{cards:List Int}{cs:List (List Int)}(hc:CdOk cards)(hl:cs.length≤40)(hrow: ∀r∈cs,r.length=cards.length∧∀k,k<cards.length→0≤r.getD k 0∧r.getD k 0<cards.getD k 0):goodE cards cs=0:=by
 have h1:okAll cards cs=true:=by
  unfold okAll
  have hp:=hc.pos
  have h5:=hc.five
  have hpr:prodT cards cards.length≤1024:=by
   have h3:=(Qti hc cards.length (Nat.le_refl _)).2
   have h4:(3:Int)^cards.length≤243:=by
    rcases(show cards.length=1∨cards.length=2∨cards.length=3∨cards.length=4∨cards.length=5 by omega)with e|e|e|e|e<;>rw[e]<;>decide
   omega
  simp only[Bool.and_eq_true,decide_eq_true_eq]
  refine⟨hp,by omega,hl,?_,hpr,?_⟩
  ·unfold okCs
   exact all_range.2 fun j hj=>by
    have:=hc.each j hj
    exact decide_eq_true (by omega)
  ·rw [List.all_eq_true]
   intro r hr
   obtain⟨r1,r2⟩:=hrow r hr
   unfold okRow
   rw[Bool.and_eq_true]
   exact⟨decide_eq_true r1,all_range.2 fun j hj=>by
    have:=r2 j hj
    exact decide_eq_true (by omega)⟩
 have h2:cs.any negB=false:=by
  rw[List.any_eq_false]
  intro r hr
  obtain⟨r1,r2⟩:=hrow r hr
  unfold negB
  rw[Bool.not_eq_true,List.any_eq_false]
  intro x hx
  obtain⟨k,hk,rfl⟩:=Qsi hx
  have:=r2 k (by omega)
  simpa using this.1
 unfold goodE
 rw[h1,h2];rfl
theorem Qpw(C:List Int)(ks:List (Nat→Int))(fo:Int): ∀r∈dataD C ks fo [],r.length=(cardsD C).length∧∀k,k<(cardsD C).length→0≤r.getD k 0∧r.getD k 0<(cardsD C).getD k 0:=by
 have hc:=Qd4 C
 rw[show dataD C ks fo []=drows ks fo (cardsD C) (min ks.length 40)from rfl]
 intro r hr
 obtain⟨f,_,rfl⟩:=List.mem_map.1 hr
 exact⟨Qbd _ _ _ _,fun k hk=>Qm0 hc _ (Nat.le_refl _) k hk⟩
theorem Qp5(C:List Int)(ks:List (Nat→Int))(fo:Int):goodE (cardsD C) (dataD C ks fo [])=0:=good_of (Qd4 C) (Qkf C ks fo []).2 (Qpw C ks fo)
set_option maxHeartbeats 4000000
theorem Qtg(m:Nat)(hm1:1≤m)(hm6:m≤6)(N:Nat)(o:Nat→Nat)(E:Nat)(hN:N<256)(ho: ∀k,k<6→o k<256)(hE:E<65536):CallSpec Pg g0 (.fn 26 []) [.agg (plL N o E),i6 (m:Nat)] (ofOs .e 0 []) 0 ⟨.sl 0 0 (N%m+1) (some (N%m+1-(N%m+1))),ofOs .e 0 [.row 28 none (ut (Qf2 m N o E))],1,[]⟩:=by
 unfold Qf2
 have hn:N%m<6:=Nat.lt_of_lt_of_le (Nat.mod_lt _ (by omega)) hm6
 have hrem:binV (Qad Pg) .rem 3 (i6 (N:Nat)) (i6 (m:Nat))=some (i6 (N%m:Nat)):=by
  rw[rem6 (by omega),Qjs]
 generalize hn0:N%m=n0 at*
 have l1:=pl_order N o E n0 hn ho _ rfl
 have hLl:=Qee (fun k=>o k%(k+1)) (n0+1)
 have hLb:=Qi6 (fun k=>o k%(k+1)) (show 0<n0+1 by omega) (n0+1) (Nat.le_refl _)
 generalize ordL (fun k=>o k%(k+1)) (n0+1)=L at*
 obtain⟨w,hw⟩: ∃w,w=n0+1:=⟨_,rfl⟩
 have l1':Sat Pg none 0 (at' 26 [1,1,1,0,1,0]) (mkSt g0 94 (poS N o E w (0,[]))) (Qaf g0 94 [(True,.exit 0,poX N o E w L (n0+1))]):=by subst hw;exact l1
 clear l1
 rw[←hw]at hLl hLb⊢
 have l2:=pl_rows N o E w L hE (by omega) (by omega) hLl hLb
 have hok:=Qe6 (L:=L) (E:=E) (n:=w) (fun k=>Nat.lt_of_lt_of_le (hLb k) (by omega)) w
 have hrep:=rep_ut w 0
 have hGl:=hok.len
 generalize edgeA L E w w=G at*
 generalize List.replicate w 0=R at*
 have hG:=Qa8 G
 have hR:=Qa8 R
 have hR2:HfL (rep w [u6 0]):=by rw[show(u6 0:V)=u6 ((0:Nat):Int)from rfl,hrep];exact hR
 clear hok hn0
 refine CallSpec.of_vcH (P:=Pg) (E:=vE) vE_ok mixed Qab (n:=1000) (f:=26) (os0:=[]) (ars:=[.agg (plL N o E),i6 (m:Nat)]) (r:=[0]) (S:={sl:=[(4,.sl 0 0 w (some (w-w)))],os:=[.row 28 none (ut G)]}) (v:=.sl 0 0 w (some (w-w))) (hs:=[nu 16 (N:Nat),va 18 (i6 n0),nu 19 (w:Nat),(0,.loop [0] (poS N o E w (0,[])) [(True,.exit 0,poX N o E w L (n0+1))]),mk 55,(0,.loop [0,1,2] (paS N o E w L 0 1 R) [(True,.exit 4,paX w G)])]) (gl:=g0) (by simp) (fun i hi _=>absurd hi (Nat.not_lt_zero _)) ?_
 refine Eq.mp (by kernel_rfl:(let z0:=(↑w:Int);let z1:=V.sl 0 0 w (some (w-w));An [z1=z1,wr .i64 (↑N:Int)=(↑N:Int),binV (Qad Pg) .rem 3 (i6 ↑N) (i6 ↑m)=some (i6 ↑n0),wr .i64 ((1:Int)+(↑n0:Int))=z0,An [An [Zz,z0=z0,Tt,(↑(0:Nat):Int)=(0:Int),Tt],An [plL N o E=[w8 ↑N,w8 ↑(o 0),w8 ↑(o 1),w8 ↑(o 2),w8 ↑(o 3),w8 ↑(o 4),w8 ↑(o 5),v16 ↑E],TT 8],Tt],Sat Pg none 0 (at' 26 [1,1,1,0,1,0]) (mkSt g0 94 (poS N o E w (0,[]))) (Qaf g0 94 [(True,Ex.exit 0,poX N o E w L (n0+1))]),(True→An [An [(0:Int)≤z0,z0≤z0,(↑(8:Nat):Int)*z0≤(281474976710656:Int),z0≤(9223372036854775807:Int)],An [An [Zz,z0=z0,An [Zz,w=n0+1,Tt],An [Zz,w=w,Sm (w-w)],(↑(0:Nat):Int)=(0:Int),(↑(1:Nat):Int)=(1:Int),Tt],An [Sm (plL N o E),TT 8],An [Sm (nt L),HfL (nt L)],An [ut R=rep w [u6 0],HfL (ut R)],Tt],Sat Pg none 0 (at' 26 [1,1,1,1,1,1,0,1,0]) (mkSt g0 94 (paS N o E w L 0 1 R)) (Qaf g0 94 [(True,Ex.exit 4,paX w G)]),(True→An [An [An [Zz,w=w,Sm (w-w)],Tt],An [Sm (ut G),HfL (ut G)],Tt]),Tt]),Tt])=_) ?_
 (repeat'(first|(with_reducible apply And.intro)|(refine fun(_:True)=>?_)))
 all_goals first|exact l1'|exact l2|(with_reducible exact hrem)|(with_reducible exact hrep)|(with_reducible exact hrep.symm)|exact hG|exact hR|exact Qq0 _|exact aq|rfl|skip
abbrev sbO(cards:List Int)(rows:List (List Int))(T:Nat→Int)(N:Nat)(o:Nat→Nat)(E:Nat):List O:=[gO cards rows,.row 41 none (arF T),.row 51 none (plL N o E)]
theorem plan_own(cards:List Int)(rows:List (List Int))(T:Nat→Int)(m:Nat)(hm1:1≤m)(hm6:m≤6)(N:Nat)(o:Nat→Nat)(E:Nat)(hN:N<m)(ho: ∀k,k<6→o k<256)(hE:E<65536)(w:Nat)(hw:w=N+1)(G:List Nat)(hG:Qf2 m N o E=G):CallSpec Pg g0 (.fn 26 []) [.agg (plL N o E),i6 (m:Nat)] (ofOs .e 0 (sbO cards rows T N o E)) 3 ⟨.sl 3 0 w (some (w-w)),ofOs .e 0 (sbO cards rows T N o E++[.row 28 none (ut G)]),4,[]⟩:=by
 have h:=Qtg m hm1 hm6 N o E (by omega) ho hE
 rw[Nat.mod_eq_of_lt hN,←hw,hG]at h
 have hu:=Qa8 G
 have hg:=Qar rows
 have hc:=Qae cards
 have hT:=HfL_ar T
 refine CallSpec.frameL (OS:=sbO cards rows T N o E) (OS':=sbO cards rows T N o E++[.row 28 none (ut G)]) [] [(3,0)] [] [0,0,0,0] h (by kernel_rfl) ?_ ?_ ?_ ?_
 ·refine Eq.mp (by kernel_rfl : (An [An [Sm (↑N : Int), Sm (↑(o 0) : Int), Sm (↑(o 1) : Int), Sm (↑(o 2) : Int), Sm (↑(o 3) : Int), Sm (↑(o 4) : Int), Sm (↑(o 5) : Int), Sm (↑E : Int), Tt], Sm (↑m : Int), Tt]) = _) ?_
  (repeat'(first|(with_reducible apply And.intro)|(refine fun(_:True)=>?_)))
  all_goals first|exact aq|exact hu|exact hg|exact hc|exact hT|rfl|skip
 ·refine Eq.mp (by kernel_rfl : (Tt) = _) ?_
  (repeat'(first|(with_reducible apply And.intro)|(refine fun(_:True)=>?_)))
  all_goals first|exact aq|exact hu|exact hg|exact hc|exact hT|rfl|skip
 ·refine Eq.mp (by kernel_rfl : (An [Zz, w = w, Sm (w - w)]) = _) ?_
  (repeat'(first|(with_reducible apply And.intro)|(refine fun(_:True)=>?_)))
  all_goals first|exact aq|exact hu|exact hg|exact hc|exact hT|rfl|skip
 ·refine Eq.mp (by kernel_rfl : (let z0 := sbO cards rows T N o E; let z1 := some (O.row 51 none (plL N o E)); let z2 := some (O.row 41 none (arF T)); An [z0[0]? = some (gO cards rows), z0[0]? = some (gO cards rows), z0[1]? = z2, z0[1]? = z2, z0[2]? = z1, z0[2]? = z1, Tt, An [Sm (ut G), HfL (ut G)], Tt]) = _) ?_
  (repeat'(first|(with_reducible apply And.intro)|(refine fun(_:True)=>?_)))
  all_goals first|exact aq|exact hu|exact hg|exact hc|exact hT|rfl|skip
theorem Qsk{cards:List Int}{rows:List (List Int)}(hg:goodE cards rows=0)(h1:1≤cards.length)(h5:cards.length≤5)(hr:rows.length≤40)(hcl: ∀c∈rows,c.length≤1000)(lim:Nat){g r:Nat→Nat}(hrk:Qie cards.length g r)(hl: ∀v,v<cards.length→popc (g v)≤lim): ∃S c,FnOk Pg g0 28 [gV cards rows,gV' cards.length g] (.tup [ar S,i6 0])∧FnOk Pg g0 45 [ar S,ar (topB cards.length lim (fF cards rows) (2^cards.length-1))] (.tup [i6 c,i6 0])∧c≤0∧(c=0↔∀i,i<18→S i=topB cards.length lim (fF cards rows) (2^cards.length-1) i):=by
 have hF:=Qr0 hg hr
 have hfull:2^cards.length-1<2^cards.length:=by
  have:0<2^cards.length:=Nat.pow_pos (by decide)
  omega
 have h32:=Qas h5
 have hT:inB (topB cards.length lim (fF cards rows) (2^cards.length-1)) 800:=Qjt hF h5 hfull
 have hS:=sc_in hF h5 g (2^cards.length-1)
 have e:=Qtw cards rows ((List.range cards.length).map g) (by omega) (by omega) hcl (fun x hx=>by
  obtain⟨v,hv,rfl⟩:=List.mem_map.1 hx
  have:=(hrk v (List.mem_range.1 hv)).1
  omega) hg (Qex h1 (by omega) hrk)
 rw[Qsj h5,←gV_ul]at e
 have hc:=Qdp (hS.mono (show(800:Int)≤4000 by decide)) (hT.mono (show(800:Int)≤4000 by decide))
 refine⟨_,_,e,cmp_ok _ _ (hS.inA (by decide)) (hT.inA (by decide)),cmp_le hS hT (sc_top hF h1 h5 hrk hl),?_,fun hi=>cmp_zero hS hT hi⟩
 intro h0
 rw[hc]at h0
 exact nv_inj (hS.mono (by decide)) (hT.mono (by decide)) (Qfc.1 h0)
structure BestOk(cards:List Int)(rows:List (List Int))(lim:Nat)(L:List Int)(P:List Nat)(g:Nat→Nat):Prop where
 top:FnOk Pg g0 41 [gV cards rows,i6 (lim:Int)] (.tup [ar (topB cards.length lim (fF cards rows) (2^cards.length-1)),i6 0])
 sol:FnOk Pg g0 39 [gV cards rows,i6 (lim:Int)] (.tup [lV L P,i6 0])
 gra:FnOk Pg g0 40 [lV L P] (.tup [gV' cards.length g,i6 0])
 s64:S64 P
 rank: ∃r,Qie cards.length g r
 few: ∀v,popc (g v)≤lim
 sc:FnOk Pg g0 28 [gV cards rows,gV' cards.length g] (.tup [ar (topB cards.length lim (fF cards rows) (2^cards.length-1)),i6 0])
 rgt:FnOk Pg g0 42 [gV cards rows,i6 (lim:Int),lV L P] (.tup [.bool true,i6 0])
 lenL:L.length=2^cards.length
theorem best_ok{cards:List Int}{rows:List (List Int)}(hg:goodE cards rows=0)(h1:1≤cards.length)(h5:cards.length≤5)(hr:rows.length≤40)(hcl: ∀c∈rows,c.length≤1000)(lim:Nat)(hlim:lim≤4): ∃L P g,BestOk cards rows lim L P g:=by
 have hF:=Qr0 hg hr
 have he:Qdw cards rows (lim:Int)=0:=by
  unfold Qdw
  rw[if_pos hg,if_neg (by omega)]
 have h32:=Qas h5
 have hsol:FnOk Pg g0 39 [gV cards rows,i6 (lim:Int)] (.tup [lV (solL cards.length lim (fF cards rows)) (solP cards.length lim (fF cards rows)),i6 0]):=by
  have:=solve_ok _ _ lim he
  rwa [mk_V]at this
 have hS:=sol_S64 (lim:=lim) hF h5
 have hb:=sol_lad (lim:=lim) hF h1 h5
 have hlo:=sol_ok (lim:=lim) hF h1 h5
 have hrg:=sol_rgt (lim:=lim) hF h5
 have hgr:=graph_ok _ _ hS hb
 rw[Qou _ _ h1 h5]at hgr
 have hrank:=lad_rank hlo
 have hsc:=Qtw cards rows ((List.range cards.length).map (gL (solL cards.length lim (fF cards rows)) (solP cards.length lim (fF cards rows)) cards.length)) (by omega) (by omega) hcl (fun x hx=>by
  obtain⟨v,hv,rfl⟩:=List.mem_map.1 hx
  have:=(hrank v (List.mem_range.1 hv)).1
  omega) hg (Qex h1 (by omega) hrank)
 rw[Qsj h5,←gV_ul,show ar (scG (fF cards rows) (gL (solL cards.length lim (fF cards rows)) (solP cards.length lim (fF cards rows)) cards.length) (2^cards.length-1) cards.length)=ar (topB cards.length lim (fF cards rows) (2^cards.length-1))from congrArg V.agg (Qbo (Qsv hlo hrg))]at hsc
 have hgood:goodL (solL cards.length lim (fF cards rows)) (solP cards.length lim (fF cards rows)) cards.length=true:=by
  rw[Qky,hb,Qou _ _ h1 h5,decide_eq_true rfl];rfl
 have hri:=Qfb cards rows lim _ _ hS he hgood
 rw[hrg]at hri
 exact⟨_,_,_,Quc cards rows lim he,hsol,hgr,hS,⟨_,hrank⟩,lad_lim hlo hrg,hsc,hri,by simp[solL,mkL]⟩
theorem Qiw{f:Nat→Nat}{n k:Nat}(h:k<n):headF (dropF (0+k*1) (uF f n))=some (u6 ((f k:Nat):Int)):=by
 have e:=@Qol ((List.range n).map f) k (by simpa using h)
 rw[←Quh,Qe8 h]at e
 exact e
theorem head_uFD{f:Nat→Nat}{n k:Nat}(h:k<n):headF (List.drop (k*1) (uF f n))=some (u6 ((f k:Nat):Int)):=by
 have e:=@Qiw f n k h
 rwa [Qaq,Nat.zero_add]at e
abbrev p4L(N:Nat→Int)(o:Nat→Nat→Nat)(E:Nat→Nat):List V:=[w8 (N 0),w8 (o 0 0),w8 (o 0 1),w8 (o 0 2),w8 (o 0 3),w8 (o 0 4),w8 (o 0 5),v16 (E 0),w8 (N 1),w8 (o 1 0),w8 (o 1 1),w8 (o 1 2),w8 (o 1 3),w8 (o 1 4),w8 (o 1 5),v16 (E 1),w8 (N 2),w8 (o 2 0),w8 (o 2 1),w8 (o 2 2),w8 (o 2 3),w8 (o 2 4),w8 (o 2 5),v16 (E 2),w8 (N 3),w8 (o 3 0),w8 (o 3 1),w8 (o 3 2),w8 (o 3 3),w8 (o 3 4),w8 (o 3 5),v16 (E 3)]
theorem idx121(N:Nat→Int)(o:Nat→Nat→Nat)(E:Nat→Nat){q:Nat}(h:q<4):idxV (Qad Pg) 121 (.agg (p4L N o E)) (q:Int)=some (.agg [w8 (N q),w8 (o q 0),w8 (o q 1),w8 (o q 2),w8 (o q 3),w8 (o q 4),w8 (o q 5),v16 (E q)]):=by
 rcases(show q=0∨q=1∨q=2∨q=3 by omega)with rfl|rfl|rfl|rfl<;>kernel_rfl
def upF(f:Nat→Nat)(v p:Nat):Nat→Nat:=fun i=>if i=v then p else f i
theorem upF_self(f:Nat→Nat)(v:Nat):upF f v (f v)=f:=by
 funext i;unfold upF;split
 ·rename_i h;rw[h]
 ·rfl
theorem upF_up(f:Nat→Nat)(v p q:Nat):(fun i=>if i=v then q else upF f v p i)=upF f v q:=by
 funext i;unfold upF;split<;>rfl
section
variable (cards:List Int) (rows:List (List Int)) (T:Nat→Int) (lim:Nat) (N:Nat→Int) (o:Nat→Nat→Nat) (E:Nat→Nat) (n q v p:Nat) (f g:Nat→Nat)
abbrev obA(j:Nat):SL:={sl:=[(4,.ptr 0 0),(7,.ptr 1 0),(8,i6 (lim:Nat)),(9,.ptr 2 0),(13,gV' n g),(75,gV' n g),(76,i6 (n:Nat)),(77,i6 (j:Nat))],os:=[.row 121 none (p4L N o E),gO cards rows,.row 41 none (arF T)]}
abbrev obAX:SL:={sl:=[(4,.ptr 0 0),(7,.ptr 1 0),(8,i6 (lim:Nat)),(9,.ptr 2 0),(13,gV' n g)],os:=[.row 121 none (p4L N o E),gO cards rows,.row 41 none (arF T)]}
abbrev obD:SL:={sl:=[(7,.ptr 0 0),(8,i6 (lim:Nat)),(9,.ptr 1 0),(99,.agg (p4L N o E)),(100,i6 (q:Nat))],os:=[gO cards rows,.row 41 none (arF T)]}
abbrev obE:SL:={sl:=[(7,.ptr 0 0),(8,i6 (lim:Nat)),(9,.ptr 1 0),(99,.agg (p4L N o E)),(100,i6 (q:Nat)),(21,.sl 2 0 n (some (n-n))),(111,.sl 2 0 n (some (n-n))),(112,i6 (n:Nat)),(113,i6 (v:Nat))],os:=[gO cards rows,.row 41 none (arF T),.row 28 none (uF f n)]}
abbrev obEX:SL:={sl:=[(7,.ptr 0 0),(8,i6 (lim:Nat)),(9,.ptr 1 0),(99,.agg (p4L N o E)),(100,i6 (q:Nat)),(21,.sl 2 0 n (some (n-n)))],os:=[gO cards rows,.row 41 none (arF T),.row 28 none (uF f n)]}
abbrev obF:SL:={sl:=[(7,.ptr 0 0),(8,i6 (lim:Nat)),(9,.ptr 1 0),(99,.agg (p4L N o E)),(100,i6 (q:Nat)),(21,.sl 2 0 n (some (n-n))),(111,.sl 2 0 n (some (n-n))),(112,i6 (n:Nat)),(113,i6 (v:Nat)),(22,i6 (v:Nat)),(23,u6 (p:Nat))],os:=[gO cards rows,.row 41 none (arF T),.row 28 none (uF f n)]}
end
theorem ob_a(cards:List Int)(rows:List (List Int))(T:Nat→Int)(lim:Nat)(N:Nat→Int)(o:Nat→Nat→Nat)(E:Nat→Nat)(n:Nat)(hn:n≤5)(g:Nat→Nat)(hg5: ∀v,v<n→g v<32)(hl: ∀v,popc (g v)≤lim):
  Sat Pg none 0 (at' 15 [1,1,1,1,1,1,1,1,0,1,0]) (mkSt g0 161 (obA cards rows T lim N o E n g 0)) (Qaf g0 161 [(True,.exit 0,obAX cards rows T lim N o E n g)]):=by
 have hg:=Qar rows
 have hc:=Qae cards
 have hT:=HfL_ar T
 have hU:=Qag g n
 refine Qaz vE_ok mixed Qab (b:=at' 15 [1,1,1,1,1,1,1,1,0,1,0,0]) (by kernel_rfl) (fun j=>j≤n) (obA cards rows T lim N o E n g) (fun j=>n-j) (fun j hj=>?_) 0 (Nat.zero_le _)
 by_cases hlt:j<n
 ·have hld := @head_uFD g n j hlt
  have hone:=Qgh (g j) (hg5 j hlt)
  have hpl:=hl j
  generalize g j=p at*
  refine .inl ⟨j+1,[0,1,2],[yes 78,pl 79,ld 80 (u6 (p:Nat)),fn 82 (i6 (popc p:Nat)),no 84,nu 85 ((j+1:Nat):Int)],1000,by omega,by omega,?_⟩
  refine Eq.mp (by kernel_rfl:(let z0:=(↑(j+1):Int);let z1:=(↑j:Int);let z2:=(↑n:Int);let z3:=(↑lim:Int);An [decide (z1<z2)=true,An [(0:Int)≤z1,z1<z2],headF (List.drop (j*1) (uF g n))=some (u6 ↑p),An [Tt,Tt],FnOk Pg g0 65 [u6 ↑p] (i6 ↑(popc p)),Tt,decide ((↑(popc p):Int)>z3)=false,wr .i64 (z1+(1:Int))=z0,An [Zz,Zz,z3=z3,Zz,An [n=n,Sm (uF g n)],An [n=n,Sm (uF g n)],z2=z2,z0=z0,Tt],An [Sm (p4L N o E),TT 32],An [Sm [sl cards,gC rows],TT 2],An [Sm (arF T),TT 18],Tt])=_) ?_
  (repeat'(first|(with_reducible apply And.intro)|(refine fun(_:True)=>?_)))
  all_goals first|(with_reducible exact hld)|exact hone|exact hg|exact hc|exact hT|exact hU|exact aq|rfl|skip
 ·have : j = n := by omega
  subst this
  refine .inr ⟨.exit 0,[0,1,2],obAX cards rows T lim N o E j g,[no 78],1000,.inl ⟨trivial,rfl,rfl⟩,?_⟩
  refine Eq.mp (by kernel_rfl:(An [decide ((↑j:Int)<(↑j:Int))=false,An [Zz,Zz,Sm (↑lim:Int),Zz,An [j=j,Sm (uF g j)],Tt],An [Sm (p4L N o E),TT 32],An [Sm [sl cards,gC rows],TT 2],An [Sm (arF T),TT 18],Tt])=_) ?_
  (repeat'(first|(with_reducible apply And.intro)|(refine fun(_:True)=>?_)))
  all_goals first|exact hg|exact hc|exact hT|exact hU|exact aq|rfl|skip
theorem ob_f(cards:List Int)(rows:List (List Int))(T:Nat→Int)(lim:Nat)(N:Nat→Int)(o:Nat→Nat→Nat)(E:Nat→Nat)(n q v:Nat)(hv:v<n)(hn:n≤5)(f:Nat→Nat)(hf:f v<32):
  Sat Pg none 0 (at' 15 [1,1,1,1,1,1,1,1,1,1,1,0,1,0,0,1,1,0,0,1,1,1,0,1,0,0,1,1,0,0,1,0]) (mkSt g0 161 (obF cards rows T lim N o E n q v (f v) f)) (Qaf g0 161 [(True,.exit 6,obE cards rows T lim N o E n q v (upF f v (redP lim 5 (f v))))]):=by
 have hg:=Qar rows
 have hc:=Qae cards
 have hT:=HfL_ar T
 have hU:=fun g=>Qag g n
 have e0:=upF_self f v
 obtain⟨_,ht2,_⟩:=Qmx lim 5 (f v) hf (by have:=Qgn (f v);omega)
 generalize hR:redP lim 5 (f v)=R at*
 have key : Sat Pg none 0 (at' 15 [1, 1, 1, 1, 1, 1, 1, 1, 1, 1, 1, 0, 1, 0, 0, 1, 1, 0, 0, 1, 1, 1, 0, 1, 0, 0, 1, 1, 0, 0, 1, 0]) (mkSt g0 161 (obF cards rows T lim N o E n q v (f v) (upF f v (f v)))) (Qaf g0 161 [(True, .exit 6, obE cards rows T lim N o E n q v (upF f v R))]) := by
  refine Qaz vE_ok mixed Qab (b:=at' 15 [1,1,1,1,1,1,1,1,1,1,1,0,1,0,0,1,1,0,0,1,1,1,0,1,0,0,1,1,0,0,1,0,0]) (by kernel_rfl) (fun x:Nat×Nat=>x.1<32∧popc x.1≤lim+x.2∧redP lim x.2 x.1=R) (fun x=>obF cards rows T lim N o E n q v x.1 (upF f v x.1)) (fun x=>x.2) (fun x hx=>?_) (f v,5) ⟨hf,by have:=Qgn (f v);dsimp only;omega,hR⟩
  obtain⟨p,k⟩:=x
  obtain⟨hp,hk,hr⟩:=hx
  dsimp only at hp hk hr
  have hld:=@Qiw (upF f v p) n v hv
  rw[show upF f v p v=p from if_pos rfl]at hld
  have hone:=Qgh p hp
  by_cases hlt:lim<popc p
  ·cases k with
   |zero=>omega
   | succ k =>
    rw[redP,if_pos hlt]at hr
    have hp0:0<p:=by
     rcases Nat.eq_zero_or_pos p with h|h
     ·subst h
      have:popc 0=0:=rfl
      omega
     ·exact h
    rcases red_all p hp with h0|⟨k1,k2,k3⟩
    ·omega
    ·have hand := fun G t => @and_u8 G t p (p - 1) (by omega) (by omega)
     have hsub:wr .u64 ((p:Int)-1)=((p-1:Nat):Int):=by
      rw[show(p:Int)-1=((p-1:Nat):Int)by omega];exact Qe3 (by simp only[lo];omega) (by simp only[hi];omega)
     have y:=@Qcs (upF f v p) n v hv (p&&& (p-1))
     rw[upF_up]at y
     have hld2:=@Qiw (upF f v (p&&& (p-1))) n v hv
     rw[show upF f v (p&&& (p-1)) v=p&&& (p-1)from if_pos rfl]at hld2
     generalize p&&& (p-1)=p2 at*
     generalize hp1:p-1=p1 at*
     refine .inl ⟨(p2,k),[0,1,2],[pl 120,ld 121 (u6 (p:Nat)),fn 122 (i6 (popc p:Nat)),yes 124,pl 127,ld 128 (u6 (p:Nat)),nu 130 (p1:Nat),va 131 (u6 (p2:Nat)),pl 132,st (uF (upF f v p2) n),pl 135,ld 136 (u6 (p2:Nat))],1000,⟨k3,by dsimp only;omega,hr⟩,by dsimp only;omega,?_⟩
     clear hr hR e0 k2 hp1
     refine Eq.mp (by kernel_rfl:(let z0:=(↑v:Int);let z1:=uF (upF f v p2) n;let z2:=(↑n:Int);let z3:=headF (dropF (0+v*1) (uF (upF f v p) n));let z4:=(↑lim:Int);let z5:=(0:Int);An [An [z5≤z0,z0<z2],z3=some (u6 ↑p),An [Tt,Tt],FnOk Pg g0 65 [u6 ↑p] (i6 ↑(popc p)),Tt,decide ((↑(popc p):Int)>z4)=true,An [z5≤z0,z0<z2],z3=some (u6 ↑p),wr .u64 ((↑p:Int)-(1:Int))=(↑p1:Int),binV (Qad Pg) .and 28 (u6 ↑p) (u6 ↑p1)=some (u6 ↑p2),An [z5≤z0,z0<z2],layE (0+v*1) (uF (upF f v p) n) [u6 ↑p2]=some z1,An [z5≤z0,z0<z2],headF (dropF (0+v*1) z1)=some (u6 ↑p2),An [Zz,z4=z4,Zz,An [N 0=N 0,Sm (↑(o 0 0):Int),Sm (↑(o 0 1):Int),Sm (↑(o 0 2):Int),Sm (↑(o 0 3):Int),Sm (↑(o 0 4):Int),Sm (↑(o 0 5):Int),Sm (↑(E 0):Int),N 1=N 1,Sm (↑(o 1 0):Int),Sm (↑(o 1 1):Int),Sm (↑(o 1 2):Int),Sm (↑(o 1 3):Int),Sm (↑(o 1 4):Int),Sm (↑(o 1 5):Int),Sm (↑(E 1):Int),N 2=N 2,Sm (↑(o 2 0):Int),Sm (↑(o 2 1):Int),Sm (↑(o 2 2):Int),Sm (↑(o 2 3):Int),Sm (↑(o 2 4):Int),Sm (↑(o 2 5):Int),Sm (↑(E 2):Int),N 3=N 3,Sm (↑(o 3 0):Int),Sm (↑(o 3 1):Int),Sm (↑(o 3 2):Int),Sm (↑(o 3 3):Int),Sm (↑(o 3 4):Int),Sm (↑(o 3 5):Int),Sm (↑(E 3):Int),Tt],Sm (↑q:Int),An [Zz,n=n,Sm (n-n)],An [Zz,n=n,Sm (n-n)],z2=z2,z0=z0,z0=z0,Sm (↑p2:Int),Tt],An [Sm [sl cards,gC rows],TT 2],An [Sm (arF T),TT 18],An [z1=z1,HfL z1],Tt])=_) ?_
     (repeat'(first|(with_reducible apply And.intro)|(refine fun(_:True)=>?_)))
     all_goals first|(with_reducible exact hld)|(with_reducible exact hld2)|(with_reducible exact y)|(with_reducible exact hsub)|(with_reducible exact hand _ _)|exact hone|exact hg|exact hc|exact hT|(with_reducible exact hU _)|exact aq|rfl|skip
  ·have hpR : p = R := by
    rw[←hr]
    cases k with
    |zero=>rfl
    |succ k=>rw[redP,if_neg hlt]
   subst hpR
   refine .inr ⟨.exit 6,[0,1,2],obE cards rows T lim N o E n q v (upF f v p),[pl 120,ld 121 (u6 (p:Nat)),fn 122 (i6 (popc p:Nat)),no 124],1000,.inl ⟨trivial,rfl,rfl⟩,?_⟩
   clear hr hR e0
   refine Eq.mp (by kernel_rfl:(let z0:=uF (upF f v p) n;let z1:=(↑v:Int);let z2:=(↑lim:Int);let z3:=(↑n:Int);An [An [(0:Int)≤z1,z1<z3],headF (dropF (0+v*1) z0)=some (u6 ↑p),An [Tt,Tt],FnOk Pg g0 65 [u6 ↑p] (i6 ↑(popc p)),Tt,decide ((↑(popc p):Int)>z2)=false,An [Zz,z2=z2,Zz,An [N 0=N 0,Sm (↑(o 0 0):Int),Sm (↑(o 0 1):Int),Sm (↑(o 0 2):Int),Sm (↑(o 0 3):Int),Sm (↑(o 0 4):Int),Sm (↑(o 0 5):Int),Sm (↑(E 0):Int),N 1=N 1,Sm (↑(o 1 0):Int),Sm (↑(o 1 1):Int),Sm (↑(o 1 2):Int),Sm (↑(o 1 3):Int),Sm (↑(o 1 4):Int),Sm (↑(o 1 5):Int),Sm (↑(E 1):Int),N 2=N 2,Sm (↑(o 2 0):Int),Sm (↑(o 2 1):Int),Sm (↑(o 2 2):Int),Sm (↑(o 2 3):Int),Sm (↑(o 2 4):Int),Sm (↑(o 2 5):Int),Sm (↑(E 2):Int),N 3=N 3,Sm (↑(o 3 0):Int),Sm (↑(o 3 1):Int),Sm (↑(o 3 2):Int),Sm (↑(o 3 3):Int),Sm (↑(o 3 4):Int),Sm (↑(o 3 5):Int),Sm (↑(E 3):Int),Tt],Sm (↑q:Int),An [Zz,n=n,Sm (n-n)],An [Zz,n=n,Sm (n-n)],z3=z3,z1=z1,Tt],An [Sm [sl cards,gC rows],TT 2],An [Sm (arF T),TT 18],An [z0=z0,HfL z0],Tt])=_) ?_
   (repeat'(first|(with_reducible apply And.intro)|(refine fun(_:True)=>?_)))
   all_goals first|(with_reducible exact hld)|exact hone|exact hg|exact hc|exact hT|(with_reducible exact hU _)|exact aq|rfl|skip
 rw[e0]at key
 exact key
def rdF(lim:Nat)(f:Nat→Nat)(v:Nat):Nat→Nat:=fun u=>if u<v then redP lim 5 (f u)else f u
theorem rdF_next(lim:Nat)(f:Nat→Nat)(v:Nat):upF (rdF lim f v) v (redP lim 5 (rdF lim f v v))=rdF lim f (v+1):=by
 funext u
 unfold upF rdF
 rw[if_neg (Nat.lt_irrefl v)]
 by_cases h:u=v
 ·subst h;rw[if_pos rfl,if_pos (Nat.lt_succ_self _)]
 ·rw [if_neg h]
  by_cases h2:u<v
  ·rw[if_pos h2,if_pos (by omega)]
  ·rw[if_neg h2,if_neg (by omega)]
theorem ob_e(cards:List Int)(rows:List (List Int))(T:Nat→Int)(lim:Nat)(N:Nat→Int)(o:Nat→Nat→Nat)(E:Nat→Nat)(n q:Nat)(hn:n≤5)(f:Nat→Nat)(hf: ∀v,v<n→f v<32):
  Sat Pg none 0 (at' 15 [1,1,1,1,1,1,1,1,1,1,1,0,1,0,0,1,1,0,0,1,1,1,0,1,0]) (mkSt g0 161 (obE cards rows T lim N o E n q 0 (rdF lim f 0))) (Qaf g0 161 [(True,.exit 4,obEX cards rows T lim N o E n q (rdF lim f n))]):=by
 have hg:=Qar rows
 have hc:=Qae cards
 have hT:=HfL_ar T
 have hU:=fun g=>Qag g n
 refine Qaz vE_ok mixed Qab (b:=at' 15 [1,1,1,1,1,1,1,1,1,1,1,0,1,0,0,1,1,0,0,1,1,1,0,1,0,0]) (by kernel_rfl) (fun v=>v≤n) (fun v=>obE cards rows T lim N o E n q v (rdF lim f v)) (fun v=>n-v) (fun v hv=>?_) 0 (Nat.zero_le _)
 by_cases hlt:v<n
 ·have hld := @Qiw (rdF lim f v) n v hlt
  have hfv:rdF lim f v v=f v:=by unfold rdF;rw[if_neg (Nat.lt_irrefl v)]
  have l:=ob_f cards rows T lim N o E n q v hlt hn (rdF lim f v) (by rw[hfv];exact hf v hlt)
  rw[rdF_next]at l
  generalize rdF lim f v v=p at*
  refine .inl ⟨v+1,[0,1,2],[yes 114,pl 116,ld 117 (u6 (p:Nat)),(0,.loop [0,1,2] (obF cards rows T lim N o E n q v p (rdF lim f v)) [(True,.exit 6,obE cards rows T lim N o E n q v (rdF lim f (v+1)))]),nu 137 ((v+1:Nat):Int)],1000,by omega,by omega,?_⟩
  refine Eq.mp (by kernel_rfl:(let w6:=Sm (n-n);let w7:=An [Sm (arF T),TT 18];let z0:=(↑v:Int);let z1:=rdF lim f (v+1);let z2:=uF (rdF lim f v) n;let z3:=[sl cards,gC rows];let z4:=(↑n:Int);let z5:=(↑(o 0 0):Int);let z6:=(↑(o 0 1):Int);let z7:=(↑(o 0 2):Int);let z8:=(↑(o 0 3):Int);let z9:=(↑(o 0 4):Int);let y0:=(↑(o 0 5):Int);let y1:=(↑(o 1 0):Int);let y2:=(↑(o 1 1):Int);let y3:=(↑(o 1 2):Int);let y4:=(↑(o 1 3):Int);let y5:=(↑(o 1 4):Int);let y6:=(↑(o 1 5):Int);let y7:=(↑(o 2 0):Int);let y8:=(↑(o 2 1):Int);let y9:=(↑(o 2 2):Int);let x0:=(↑(o 2 3):Int);let x1:=(↑(o 2 4):Int);let x2:=(↑(o 2 5):Int);let x3:=(↑(o 3 0):Int);let x4:=(↑(o 3 1):Int);let x5:=(↑(o 3 2):Int);let x6:=(↑(o 3 3):Int);let x7:=(↑(o 3 4):Int);let x8:=(↑(o 3 5):Int);let x9:=(↑(E 0):Int);let w0:=(↑(E 1):Int);let w1:=(↑(E 2):Int);let w2:=(↑(E 3):Int);let w3:=(↑lim:Int);let w4:=(↑(v+1):Int);let w5:=(↑q:Int);An [decide (z0<z4)=true,An [(0:Int)≤z0,z0<z4],headF (dropF (0+v*1) z2)=some (u6 ↑p),An [An [Zz,w3=w3,Zz,An [N 0=N 0,z5=z5,z6=z6,z7=z7,z8=z8,z9=z9,y0=y0,x9=x9,N 1=N 1,y1=y1,y2=y2,y3=y3,y4=y4,y5=y5,y6=y6,w0=w0,N 2=N 2,y7=y7,y8=y8,y9=y9,x0=x0,x1=x1,x2=x2,w1=w1,N 3=N 3,x3=x3,x4=x4,x5=x5,x6=x6,x7=x7,x8=x8,w2=w2,Tt],w5=w5,An [Zz,n=n,w6],An [Zz,n=n,w6],z4=z4,z0=z0,z0=z0,Sm (↑p:Int),Tt],An [z3=z3,TT 2],w7,An [z2=z2,HfL z2],Tt],Sat Pg none 0 (at' 15 [1,1,1,1,1,1,1,1,1,1,1,0,1,0,0,1,1,0,0,1,1,1,0,1,0,0,1,1,0,0,1,0]) (mkSt g0 161 (obF cards rows T lim N o E n q v p (rdF lim f v))) (Qaf g0 161 [(True,Ex.exit 6,obE cards rows T lim N o E n q v z1)]),(True→An [wr .i64 (z0+(1:Int))=w4,An [Zz,w3=w3,Zz,An [N 0=N 0,z5=z5,z6=z6,z7=z7,z8=z8,z9=z9,y0=y0,x9=x9,N 1=N 1,y1=y1,y2=y2,y3=y3,y4=y4,y5=y5,y6=y6,w0=w0,N 2=N 2,y7=y7,y8=y8,y9=y9,x0=x0,x1=x1,x2=x2,w1=w1,N 3=N 3,x3=x3,x4=x4,x5=x5,x6=x6,x7=x7,x8=x8,w2=w2,Tt],w5=w5,An [Zz,n=n,w6],An [Zz,n=n,w6],z4=z4,w4=w4,Tt],An [z3=z3,TT 2],w7,An [Sm (uF z1 n),HfL (uF z1 n)],Tt]),Tt])=_) ?_
  (repeat'(first|(with_reducible apply And.intro)|(refine fun(_:True)=>?_)))
  all_goals first|exact l|(with_reducible exact hld)|exact hg|exact hc|exact hT|(with_reducible exact hU _)|exact aq|rfl|skip
 ·have : v = n := by omega
  subst this
  refine .inr ⟨.exit 4,[0,1,2],obEX cards rows T lim N o E v q (rdF lim f v),[no 114],1000,.inl ⟨trivial,rfl,rfl⟩,?_⟩
  refine Eq.mp (by kernel_rfl:(let z0:=uF (rdF lim f v) v;An [decide ((↑v:Int)<(↑v:Int))=false,An [Zz,Sm (↑lim:Int),Zz,An [N 0=N 0,Sm (↑(o 0 0):Int),Sm (↑(o 0 1):Int),Sm (↑(o 0 2):Int),Sm (↑(o 0 3):Int),Sm (↑(o 0 4):Int),Sm (↑(o 0 5):Int),Sm (↑(E 0):Int),N 1=N 1,Sm (↑(o 1 0):Int),Sm (↑(o 1 1):Int),Sm (↑(o 1 2):Int),Sm (↑(o 1 3):Int),Sm (↑(o 1 4):Int),Sm (↑(o 1 5):Int),Sm (↑(E 1):Int),N 2=N 2,Sm (↑(o 2 0):Int),Sm (↑(o 2 1):Int),Sm (↑(o 2 2):Int),Sm (↑(o 2 3):Int),Sm (↑(o 2 4):Int),Sm (↑(o 2 5):Int),Sm (↑(E 2):Int),N 3=N 3,Sm (↑(o 3 0):Int),Sm (↑(o 3 1):Int),Sm (↑(o 3 2):Int),Sm (↑(o 3 3):Int),Sm (↑(o 3 4):Int),Sm (↑(o 3 5):Int),Sm (↑(E 3):Int),Tt],Sm (↑q:Int),An [Zz,v=v,Sm (v-v)],Tt],An [Sm [sl cards,gC rows],TT 2],An [Sm (arF T),TT 18],An [z0=z0,HfL z0],Tt])=_) ?_
  (repeat'(first|(with_reducible apply And.intro)|(refine fun(_:True)=>?_)))
  all_goals first|exact hg|exact hc|exact hT|(with_reducible exact hU _)|exact aq|rfl|skip
theorem ob_d(cards:List Int)(rows:List (List Int))(hgo:goodE cards rows=0)(h1:1≤cards.length)(h5:cards.length≤5)(hr:rows.length≤40)(hcl: ∀c∈rows,c.length≤1000)(lim:Nat)(T:Nat→Int)(hTe:T=topB cards.length lim (fF cards rows) (2^cards.length-1))(N:Nat→Int)(o:Nat→Nat→Nat)(E:Nat→Nat)(ho: ∀q k,o q k<256)(hE: ∀q,E q<65536):
  Sat Pg none 0 (at' 15 [1,1,1,1,1,1,1,1,1,1,1,0,1,0]) (mkSt g0 161 (obD cards rows T lim N o E 0)) (Qaf g0 161 [(True,.exit 2,{sl:=[]})]):=by
 have hg:=Qar rows
 have hc:=Qae cards
 have hT:=HfL_ar T
 obtain⟨n,hn⟩: ∃n,n=cards.length:=⟨_,rfl⟩
 have h32:=Qas h5
 refine Qaz vE_ok mixed Qab (b:=at' 15 [1,1,1,1,1,1,1,1,1,1,1,0,1,0,0]) (by kernel_rfl) (fun q=>q≤4) (obD cards rows T lim N o E) (fun q=>4-q) (fun q hq=>?_) 0 (by decide)
 by_cases hlt:q<4
 ·have hidx := idx121 N o E hlt
  obtain⟨hGl,r,hrk⟩:=Qth 5 (by decide) (by decide) (cards.length-1) (o q) (E q)
  have hmod:(cards.length-1)%5+1=cards.length:=by rw[Nat.mod_eq_of_lt (by omega)];omega
  rw[hmod]at hGl hrk
  have hcall:=plan_own cards rows T 5 (by decide) (by decide) (cards.length-1) (o q) (E q) (by omega) (fun k _=>ho q k) (hE q) n (by omega) _ rfl
  generalize Qf2 5 (cards.length-1) (o q) (E q)=G at*
  have hf32: ∀v,v<cards.length→G.getD v 0<32:=fun v hv=>by have:G.getD v 0<2^cards.length:=(hrk v hv).1;omega
  have hred: ∀v,v<cards.length→rdF lim (fun v=>G.getD v 0) cards.length v<32∧popc (rdF lim (fun v=>G.getD v 0) cards.length v)≤lim∧rdF lim (fun v=>G.getD v 0) cards.length v&&& G.getD v 0=rdF lim (fun v=>G.getD v 0) cards.length v:=fun v hv=>by
   unfold rdF
   rw[if_pos hv]
   exact Qmx lim 5 (G.getD v 0) (hf32 v hv) (by have:=Qgn (G.getD v 0);omega)
  obtain⟨S,c,s1,s2,s3,_⟩:=Qsk hgo h1 h5 hr hcl lim (rank_sub h5 hrk fun v hv=>(hred v hv).2.2) (fun v hv=>(hred v hv).2.1)
  have l:=ob_e cards rows T lim N o E cards.length q h5 (fun v=>G.getD v 0) hf32
  have hU0:uF (rdF lim (fun v=>G.getD v 0) 0) cards.length=ut G:=by
   rw[Quh]
   congr 1
   refine List.ext_getElem (by simp[hGl]) fun i hi1 hi2=>?_
   rw[List.getElem_map,List.getElem_range]
   unfold rdF
   rw[if_neg (Nat.not_lt_zero _)]
   show G.getD i 0=G[i]
   rw[List.getD_eq_getElem?_getD,List.getElem?_eq_getElem hi2];rfl
  have hUx:=Qag (rdF lim (fun v=>G.getD v 0) cards.length) cards.length
  have hu:=Qa8 G
  have hU0':=Qag (rdF lim (fun v=>G.getD v 0) 0) cards.length
  rw[←hTe]at s2
  rw[←hn]at s1 l hU0 hUx hU0'
  generalize rdF lim (fun v=>G.getD v 0) n=fx at*
  generalize rdF lim (fun v=>G.getD v 0) 0=f0 at*
  have hw1:(n:Int)-1=((cards.length-1:Nat):Int):=by omega
  generalize hn1:cards.length-1=n1 at*
  have hwr:wr .u8 ((n1:Nat):Int)=((n1:Nat):Int):=Qe3 (by simp only[lo];omega) (by simp only[hi];omega)
  clear hrk hf32 hred hTe hgo hcl hE
  generalize N q=Nq at*
  generalize o q=oq at*
  generalize E q=Ep at*
  refine .inl ⟨q+1,[0,1],[yes 101,va 102 (.agg [w8 Nq,w8 (oq 0),w8 (oq 1),w8 (oq 2),w8 (oq 3),w8 (oq 4),w8 (oq 5),v16 Ep]),nu 106 (n1:Nat),nu 107 (n1:Nat),(110,.call ⟨.sl 3 0 n (some (n-n)),ofOs .e 0 (sbO cards rows T n1 oq Ep++[.row 28 none (ut G)]),4,[]⟩),(0,.loop [0,1,3] (obE cards rows T lim N o E n q 0 f0) [(True,.exit 4,obEX cards rows T lim N o E n q fx)]),fn 141 (.tup [ar S,i6 0]),fn 147 (.tup [i6 c,i6 0]),no 158,nu 160 ((q+1:Nat):Int)],1000,by omega,by omega,?_⟩
  refine Eq.mp (by kernel_rfl:(let w5:=An [Sm (arF T),TT 18];let z0:=[w8 ↑n1,w8 ↑(oq 0),w8 ↑(oq 1),w8 ↑(oq 2),w8 ↑(oq 3),w8 ↑(oq 4),w8 ↑(oq 5),v16 ↑Ep];let z1:=[w8 Nq,w8 ↑(oq 0),w8 ↑(oq 1),w8 ↑(oq 2),w8 ↑(oq 3),w8 ↑(oq 4),w8 ↑(oq 5),v16 ↑Ep];let z2:=[sl cards,gC rows];let z3:=(↑(o 0 0):Int);let z4:=(↑(o 0 1):Int);let z5:=(↑(o 0 2):Int);let z6:=(↑(o 0 3):Int);let z7:=(↑(o 0 4):Int);let z8:=(↑(o 0 5):Int);let z9:=(↑(o 1 0):Int);let y0:=(↑(o 1 1):Int);let y1:=(↑(o 1 2):Int);let y2:=(↑(o 1 3):Int);let y3:=(↑(o 1 4):Int);let y4:=(↑(o 1 5):Int);let y5:=(↑(o 2 0):Int);let y6:=(↑(o 2 1):Int);let y7:=(↑(o 2 2):Int);let y8:=(↑(o 2 3):Int);let y9:=(↑(o 2 4):Int);let x0:=(↑(o 2 5):Int);let x1:=(↑(o 3 0):Int);let x2:=(↑(o 3 1):Int);let x3:=(↑(o 3 2):Int);let x4:=(↑(o 3 3):Int);let x5:=(↑(o 3 4):Int);let x6:=(↑(o 3 5):Int);let x7:=(↑(E 0):Int);let x8:=(↑(E 1):Int);let x9:=(↑(E 2):Int);let w0:=(↑(E 3):Int);let w1:=(↑q:Int);let w2:=(↑lim:Int);let w3:=(↑(q+1):Int);let w4:=(↑n1:Int);An [decide (w1<(4:Int))=true,idxV (Qad Pg) 121 (V.agg (p4L N o E)) w1=some (V.agg z1),wr .i64 ((↑cards.length:Int)-(1:Int))=w4,wr .u8 w4=w4,CallSpec Pg g0 (V.fn 26 []) [V.agg z0,i6 5] (pt (pt (pt (ofOs Am.T.e 0 [gO cards rows,O.row 41 none (arF T)]) 2 (O.row 51 none [w8 0,w8 0,w8 0,w8 0,w8 0,w8 0,w8 0,v16 0])) 2 (O.row 51 none z1)) 2 (O.row 51 none z0)) 3 (CR.mk (V.sl 3 0 n (some (n-n))) (ofOs Am.T.e 0 (sbO cards rows T n1 oq Ep++[O.row 28 none (ut G)])) 4 []),Tt,An [An [Zz,w2=w2,Zz,An [N 0=N 0,z3=z3,z4=z4,z5=z5,z6=z6,z7=z7,z8=z8,x7=x7,N 1=N 1,z9=z9,y0=y0,y1=y1,y2=y2,y3=y3,y4=y4,x8=x8,N 2=N 2,y5=y5,y6=y6,y7=y7,y8=y8,y9=y9,x0=x0,x9=x9,N 3=N 3,x1=x1,x2=x2,x3=x3,x4=x4,x5=x5,x6=x6,w0=w0,Tt],w1=w1,An [Zz,n=n,Sm (n-n)],An [Zz,n=n,Sm (n-n)],Sm (↑n:Int),(↑(0:Nat):Int)=(0:Int),Tt],An [z2=z2,TT 2],w5,An [uF f0 n=ut G,HfL (uF f0 n)],Tt],Sat Pg none 0 (at' 15 [1,1,1,1,1,1,1,1,1,1,1,0,1,0,0,1,1,0,0,1,1,1,0,1,0]) (mkSt g0 161 (obE cards rows T lim N o E n q 0 f0)) (Qaf g0 161 [(True,Ex.exit 4,obEX cards rows T lim N o E n q fx)]),(True→An [An [TT 2,HfL (uF fx n),Tt],FnOk Pg g0 28 [V.agg [V.im cards.length (ints cards),V.im rows.length (List.map sl rows)],V.im n (uF fx n)] (V.tup [ar S,i6 0]),Tt,An [TT 18,TT 18,Tt],FnOk Pg g0 45 [V.agg (arF S),V.agg (arF T)] (V.tup [i6 c,i6 0]),Tt,decide (c>(0:Int))=false,wr .i64 (w1+(1:Int))=w3,An [Zz,w2=w2,Zz,An [N 0=N 0,z3=z3,z4=z4,z5=z5,z6=z6,z7=z7,z8=z8,x7=x7,N 1=N 1,z9=z9,y0=y0,y1=y1,y2=y2,y3=y3,y4=y4,x8=x8,N 2=N 2,y5=y5,y6=y6,y7=y7,y8=y8,y9=y9,x0=x0,x9=x9,N 3=N 3,x1=x1,x2=x2,x3=x3,x4=x4,x5=x5,x6=x6,w0=w0,Tt],w3=w3,Tt],An [z2=z2,TT 2],w5,Tt]),Tt])=_) ?_
  (repeat'(first|(with_reducible apply And.intro)|(refine fun(_:True)=>?_)))
  all_goals first|exact l|exact hcall|exact s1|exact s2|(with_reducible exact hidx)|(with_reducible exact hU0)|(with_reducible exact hU0.symm)|(with_reducible exact hwr)|exact hg|exact hc|exact hT|exact hu|exact hUx|exact hU0'|exact aq|(rw[←hw1,hn];exact wr6 (by omega) (by omega))|rfl|skip
 ·have : q = 4 := by omega
  subst this
  refine .inr ⟨.exit 2,[],{sl:=[]},[],1000,.inl ⟨trivial,rfl,rfl⟩,?_⟩
  refine Eq.mp (by kernel_rfl:(An [Tt,Tt])=_) ?_
  (repeat'(first|(with_reducible apply And.intro)|(refine fun(_:True)=>?_)))
  all_goals first|exact hg|exact hc|exact hT|exact aq|rfl|skip
theorem Qqn(C:List Int)(ks:List (Nat→Int))(fo:Int)(M:List Int)(N:Nat→Int)(o:Nat→Nat→Nat)(E:Nat→Nat)(x:Nat)(h:DrOk C ks fo M)(ho: ∀q k,o q k<256)(hE: ∀q,E q<65536)(hx:x<256):FnOk Pg g0 15 [dfV C ks fo M,.agg (p4L N o E),w8 (x:Nat)] (.bool true):=by
 have hw:=works29
 have hwd:=Qng C ks fo M h
 have hcd:=Qd4 C
 have hgo:=Qp5 C ks fo
 obtain⟨x1,x2⟩:=Qkf C ks fo []
 have h1:=hcd.pos
 have h5:=hcd.five
 have hcl: ∀c∈dataD C ks fo [],c.length≤1000:=fun c hc=>by rw[x1 c hc];omega
 generalize dataD C ks fo []=rows at*
 generalize cardsD C=cards at*
 have hm5:x%5<5:=Nat.mod_lt _ (by decide)
 have hm:(x:Int).tmod 5=((x%5:Nat):Int):=by rw[show(5:Int)=((5:Nat):Int)from rfl,Qjs]
 obtain⟨L,P,g,B⟩:=best_ok hgo h1 h5 x2 hcl (x%5) (by omega)
 obtain⟨b1,b2,b3,b4,⟨r,b5⟩,b6,b7,_,_⟩:=B
 have h32:=Qas h5
 have lA:=fun T=>ob_a cards rows T (x%5) N o E cards.length h5 g (fun v hv=>by have:=(b5 v hv).1;omega) b6
 have lD:=ob_d cards rows hgo h1 h5 x2 hcl (x%5) _ rfl N o E ho hE
 have hrg:=rgraph_m 5 (by decide) ((List.range cards.length).map g) (fun y hy=>by
  obtain⟨v,hv,rfl⟩:=List.mem_map.1 hy
  have:=(b5 v (List.mem_range.1 hv)).1
  omega)
 rw[Qmh (n:=cards.length) (by decide) (by simp) h5,Qex h1 (by omega) b5,←gV_ul]at hrg
 have hTT:=Qoa (topB cards.length (x%5) (fF cards rows) (2^cards.length-1))
 have lA:=lA (topB cards.length (x%5) (fF cards rows) (2^cards.length-1))
 have hTn:(!eqA (topB cards.length (x%5) (fF cards rows) (2^cards.length-1)) (topB cards.length (x%5) (fF cards rows) (2^cards.length-1)))=false:=by rw[hTT];rfl
 unfold eqA at hTn
 clear hTT b5 b6
 generalize topB cards.length (x%5) (fF cards rows) (2^cards.length-1)=T at*
 generalize x%5=lim at*
 have hg:=Qar rows
 have hc:=Qae cards
 have hT:=HfL_ar T
 have hu:=Qa8 P
 have hU:=Qag g cards.length
 obtain⟨n,hn⟩: ∃n,n=cards.length:=⟨_,rfl⟩
 rw[←hn]at b3 b7 lA hrg hU
 have hne:(n:Int)=(cards.length:Int):=by omega
 clear hcl hgo
 refine FnOk.of_vc vE_ok mixed Qab (n:=1000) (r:=[]) (S:={sl:=[(6,.bool true)]}) (hs:=[fn 28 (.bool true),fn 31 (gV cards rows),nu 33 (lim:Nat),nu 34 (lim:Nat),fn 38 (.tup [ar T,i6 0]),fn 44 (.tup [lV L P,i6 0]),fn 49 (.tup [gV' n g,i6 0]),no 68,fn 72 (.bool true),(0,.loop [1,2,3] (obA cards rows T lim N o E n g 0) [(True,.exit 0,obAX cards rows T lim N o E n g)]),fn 89 (.tup [ar T,i6 0]),no 97,(0,.loop [1,2] (obD cards rows T lim N o E 0) [(True,.exit 2,{sl:=[]})])]) ?_
 refine Eq.mp (by kernel_rfl:(let z6:=An [TT 2,Tt,Tt];let z7:=An [Sm (arF T),TT 18];let z0:=V.agg [V.im cards.length (ints cards),V.im rows.length (List.map sl rows)];let z1:=(↑lim:Int);let z2:=[sl cards,gC rows];let z3:=V.bool true;let z4:=V.tup [ar T,i6 0];let z5:=(↑n:Int);An [z3=z3,Tt,FnOk Pg g0 60 [] z3,Tt,An [TT 4,Tt],FnOk Pg g0 18 [V.agg [V.im C.length (List.map w8 C),V.im ks.length (Qcq ks),w8 fo,V.im M.length (List.map w8 M)]] (gV cards rows),Tt,Int.tmod (↑x:Int) (5:Int)=z1,wr .i64 z1=z1,z6,FnOk Pg g0 41 [z0,i6 ↑lim] z4,Tt,z6,FnOk Pg g0 39 [z0,i6 ↑lim] (V.tup [lV L P,i6 0]),Tt,An [TT 2,Tt],FnOk Pg g0 40 [V.agg [V.im L.length (ints L),V.im P.length (ut P)]] (V.tup [gV' n g,i6 0]),Tt,(z5 != (↑cards.length:Int))=false,TT 2,FnOk Pg g0 67 [V.im n (uF g n),i6 5] z3,Tt,An [An [Zz,Zz,z1=z1,Zz,An [n=n,Sm (uF g n)],An [n=n,Sm (uF g n)],z5=z5,(↑(0:Nat):Int)=(0:Int),Tt],An [p4L N o E=[w8 (N 0),w8 ↑(o 0 0),w8 ↑(o 0 1),w8 ↑(o 0 2),w8 ↑(o 0 3),w8 ↑(o 0 4),w8 ↑(o 0 5),v16 ↑(E 0),w8 (N 1),w8 ↑(o 1 0),w8 ↑(o 1 1),w8 ↑(o 1 2),w8 ↑(o 1 3),w8 ↑(o 1 4),w8 ↑(o 1 5),v16 ↑(E 1),w8 (N 2),w8 ↑(o 2 0),w8 ↑(o 2 1),w8 ↑(o 2 2),w8 ↑(o 2 3),w8 ↑(o 2 4),w8 ↑(o 2 5),v16 ↑(E 2),w8 (N 3),w8 ↑(o 3 0),w8 ↑(o 3 1),w8 ↑(o 3 2),w8 ↑(o 3 3),w8 ↑(o 3 4),w8 ↑(o 3 5),v16 ↑(E 3)],TT 32],An [z2=z2,TT 2],z7,Tt],Sat Pg none 0 (at' 15 [1,1,1,1,1,1,1,1,0,1,0]) (mkSt g0 161 (obA cards rows T lim N o E n g 0)) (Qaf g0 161 [(True,Ex.exit 0,obAX cards rows T lim N o E n g)]),(True→An [z6,FnOk Pg g0 28 [z0,V.im n (uF g n)] z4,Tt,(!(T 0==T 0&&(T 1==T 1&&(T 2==T 2&&(T 3==T 3&&(T 4==T 4&&(T 5==T 5&&(T 6==T 6&&(T 7==T 7&&(T 8==T 8&&(T 9==T 9&&(T 10==T 10&&(T 11==T 11&&(T 12==T 12&&(T 13==T 13&&(T 14==T 14&&(T 15==T 15&&(T 16==T 16&&(T 17==T 17&&true)))))))))))))))))))=false,An [An [Zz,z1=z1,Zz,An [N 0=N 0,Sm (↑(o 0 0):Int),Sm (↑(o 0 1):Int),Sm (↑(o 0 2):Int),Sm (↑(o 0 3):Int),Sm (↑(o 0 4):Int),Sm (↑(o 0 5):Int),Sm (↑(E 0):Int),N 1=N 1,Sm (↑(o 1 0):Int),Sm (↑(o 1 1):Int),Sm (↑(o 1 2):Int),Sm (↑(o 1 3):Int),Sm (↑(o 1 4):Int),Sm (↑(o 1 5):Int),Sm (↑(E 1):Int),N 2=N 2,Sm (↑(o 2 0):Int),Sm (↑(o 2 1):Int),Sm (↑(o 2 2):Int),Sm (↑(o 2 3):Int),Sm (↑(o 2 4):Int),Sm (↑(o 2 5):Int),Sm (↑(E 2):Int),N 3=N 3,Sm (↑(o 3 0):Int),Sm (↑(o 3 1):Int),Sm (↑(o 3 2):Int),Sm (↑(o 3 3):Int),Sm (↑(o 3 4):Int),Sm (↑(o 3 5):Int),Sm (↑(E 3):Int),Tt],(↑(0:Nat):Int)=(0:Int),Tt],An [z2=z2,TT 2],z7,Tt],Sat Pg none 0 (at' 15 [1,1,1,1,1,1,1,1,1,1,1,0,1,0]) (mkSt g0 161 (obD cards rows T lim N o E 0)) (Qaf g0 161 [(True,Ex.exit 2,SL.mk [] [] [] [])]),(True→An [An [Sm true,Tt],Tt]),Tt]),Tt])=_) ?_
 (repeat'(first|(with_reducible apply And.intro)|(refine fun(_:True)=>?_)))
 all_goals first|exact hw|exact hwd|exact b1|exact b2|exact b3|exact b7|exact lA|exact lD|exact hrg|(with_reducible exact hm)|(with_reducible exact hTn)|exact hg|exact hc|exact hT|exact hu|exact hU|exact aq|rfl|skip
open Go.RowKit Go.ChangeShapes Go.WideShapes
set_option maxRecDepth 100000
section
variable {H:Type} {enc:TypeId×Value→H} {w:World}
theorem Qqe{fuel:Nat}{cs:List Value}{x:DataW H×List MemPlace}(h:DataW.trod enc Pg w 0 (fun _=>true) true fuel 51 cs=some x):
  ∃(N:Int)(o:Nat→Nat)(E:Nat),cs=[.int .u8 N,.int .u8 (o 0:Nat),.int .u8 (o 1:Nat),.int .u8 (o 2:Nat),.int .u8 (o 3:Nat),.int .u8 (o 4:Nat),.int .u8 (o 5:Nat),.int .u16 (E:Nat)]∧(∀k,o k<256)∧E<65536:=by
 obtain⟨xs,n,_,_,hl,hlen,hfd⟩:=DataW.trod_struct Tryd.underlying51 h
 have hc51:Pg.cellsOf 51=8:=by kernel_rfl
 rw[hc51]at hl
 obtain⟨c0,c1,c2,c3,c4,c5,c6,c7,rfl⟩: ∃c0 c1 c2 c3 c4 c5 c6 c7,cs=[c0,c1,c2,c3,c4,c5,c6,c7]:=by
  match cs,hl with
  |[c0,c1,c2,c3,c4,c5,c6,c7],_=>exact⟨c0,c1,c2,c3,c4,c5,c6,c7,rfl⟩
 have hlen':xs.length=3:=hlen
 obtain⟨y0,y1,y2,rfl⟩: ∃y0 y1 y2,xs=[y0,y1,y2]:=by
  match xs,hlen' with
  |[y0,y1,y2],_=>exact⟨y0,y1,y2,rfl⟩
 have hc5:Pg.cellsOf 5=1:=by kernel_rfl
 have hc48:Pg.cellsOf 48=6:=by kernel_rfl
 have hc49:Pg.cellsOf 49=1:=by kernel_rfl
 have f0:DataW.trod enc Pg w 0 (fun _=>true) true n 5 (List.take (Pg.cellsOf 5) (List.drop 0 [c0,c1,c2,c3,c4,c5,c6,c7]))=some y0:=hfd 0 _ rfl
 have f1:DataW.trod enc Pg w 0 (fun _=>true) true n 48 (List.take (Pg.cellsOf 48) (List.drop 1 [c0,c1,c2,c3,c4,c5,c6,c7]))=some y1:=hfd 1 _ rfl
 have f2:DataW.trod enc Pg w 0 (fun _=>true) true n 49 (List.take (Pg.cellsOf 49) (List.drop 7 [c0,c1,c2,c3,c4,c5,c6,c7]))=some y2:=hfd 2 _ rfl
 rw[hc5]at f0
 rw[hc48]at f1
 rw[hc49]at f2
 obtain⟨k0,e0,w0⟩:=Que Tryd.underlying5 (x:=y0) f0
 obtain⟨ns,l1,e1,_,w1⟩:=Qii Tryd.underlying48 Tryd.underlying5 (by kernel_rfl) (by kernel_rfl) f1
 obtain⟨k2,e2,w2⟩:=Que Tryd.underlying49 (x:=y2) f2
 obtain⟨n0,n1,n2,n3,n4,n5,rfl⟩: ∃n0 n1 n2 n3 n4 n5,ns=[n0,n1,n2,n3,n4,n5]:=by
  match ns,l1 with
  |[n0,n1,n2,n3,n4,n5],_=>exact⟨n0,n1,n2,n3,n4,n5,rfl⟩
 simp at e0 e1 e2
 obtain⟨a0,rfl,b0⟩:=wf8n (w1 n0 (by simp))
 obtain⟨a1,rfl,b1⟩:=wf8n (w1 n1 (by simp))
 obtain⟨a2,rfl,b2⟩:=wf8n (w1 n2 (by simp))
 obtain⟨a3,rfl,b3⟩:=wf8n (w1 n3 (by simp))
 obtain⟨a4,rfl,b4⟩:=wf8n (w1 n4 (by simp))
 obtain⟨a5,rfl,b5⟩:=wf8n (w1 n5 (by simp))
 have b6:=wf16 w2
 obtain⟨E,rfl⟩: ∃E:Nat,k2=E:=⟨k2.toNat,by omega⟩
 obtain⟨rfl,rfl,rfl,rfl,rfl,rfl⟩:=e1
 subst e0 e2
 refine⟨k0,fun k=>[a0,a1,a2,a3,a4,a5].getD k 0,E,rfl,fun k=>?_,by omega⟩
 by_cases hk:k<6
 ·rcases lt6 hk with rfl | rfl | rfl | rfl | rfl | rfl
  ·exact b0
  ·exact b1
  ·exact b2
  ·exact b3
  ·exact b4
  ·exact b5
 ·dsimp only
  rw[List.getD_eq_getElem?_getD,List.getElem?_eq_none (by simp;omega)];decide
theorem arg_p4{v:Value}{d:DataW H}{p:List MemPlace}(hv: ∃cs,v= .agg cs)(h:DataW.Trod enc Pg w 0 (fun _=>true) true 121 v d p):
  ∃(N:Nat→Int)(o:Nat→Nat→Nat)(E:Nat→Nat),RV (sg (allB w)) w (.agg (p4L N o E)) v∧(∀q k,o q k<256)∧(∀q,E q<65536):=by
 obtain⟨arr,rfl⟩:=hv
 obtain⟨fuel,hf⟩:=h
 obtain⟨xs,f,_,_,hl,hxl,hx⟩:=DataW.trod_array Tryd.underlying121 hf
 have hc:Pg.cellsOf 121=32:=by kernel_rfl
 have hc2:Pg.cellsOf 51=8:=by kernel_rfl
 have hcells:(Value.agg arr).cells.toList=arr.toList:=rfl
 rw[hc]at hl
 rw[hcells]at hl hx
 rw[hc2]at hx
 have each: ∀q:Nat,∃(N:Int)(o:Nat→Nat)(E:Nat),(q<4→List.take 8 (List.drop (q*8) arr.toList)=[.int .u8 N,.int .u8 (o 0:Nat),.int .u8 (o 1:Nat),.int .u8 (o 2:Nat),.int .u8 (o 3:Nat),.int .u8 (o 4:Nat),.int .u8 (o 5:Nat),.int .u16 (E:Nat)])∧(∀k,o k<256)∧E<65536:=fun q=>by
  by_cases hq:q<4
  ·have h0 := hx q hq
   obtain⟨x0,e0⟩: ∃x,xs[q]? =some x:=⟨xs[q]'(by omega),List.getElem?_eq_getElem _⟩
   rw[e0]at h0
   obtain⟨N,o,E,r,p0,p1⟩:=Qqe h0
   exact⟨N,o,E,fun _=>r,p0,p1⟩
  ·exact⟨0,fun _=>0,0,fun h=>absurd h hq,fun _=>(by decide:0<256),by decide⟩
 obtain⟨N,hN⟩:=Classical.axiomOfChoice each
 obtain⟨o,ho⟩:=Classical.axiomOfChoice hN
 obtain⟨E,hE⟩:=Classical.axiomOfChoice ho
 refine⟨N,o,E,⟨arr,rfl,?_⟩,fun q=>(hE q).2.1,fun q=>(hE q).2.2⟩
 have r0:=(hE 0).1 (by decide)
 have r1:=(hE 1).1 (by decide)
 have r2:=(hE 2).1 (by decide)
 have r3:=(hE 3).1 (by decide)
 have hall:arr.toList=List.take 8 (List.drop (0*8) arr.toList)++(List.take 8 (List.drop (1*8) arr.toList)++(List.take 8 (List.drop (2*8) arr.toList)++List.take 8 (List.drop (3*8) arr.toList))):=by
  generalize arr.toList=l at*
  have e3:List.take 8 (List.drop (3*8) l)=List.drop (3*8) l:=List.take_of_length_le (by rw[List.length_drop];omega)
  rw[e3,show List.drop (3*8) l=List.drop 8 (List.drop (2*8) l)by rw[List.drop_drop],List.take_append_drop,show List.drop (2*8) l=List.drop 8 (List.drop (1*8) l)by rw[List.drop_drop],List.take_append_drop,show List.drop (1*8) l=List.drop 8 (List.drop (0*8) l)by rw[List.drop_drop],List.take_append_drop];rfl
 rw[r0,r1,r2,r3]at hall
 rw[hall]
 exact⟨_,_,rfl,rfl,_,_,rfl,rfl,_,_,rfl,rfl,_,_,rfl,rfl,_,_,rfl,rfl,_,_,rfl,rfl,_,_,rfl,rfl,_,_,rfl,rfl,_,_,rfl,rfl,_,_,rfl,rfl,_,_,rfl,rfl,_,_,rfl,rfl,_,_,rfl,rfl,_,_,rfl,rfl,_,_,rfl,rfl,_,_,rfl,rfl,_,_,rfl,rfl,_,_,rfl,rfl,_,_,rfl,rfl,_,_,rfl,rfl,_,_,rfl,rfl,_,_,rfl,rfl,_,_,rfl,rfl,_,_,rfl,rfl,_,_,rfl,rfl,_,_,rfl,rfl,_,_,rfl,rfl,_,_,rfl,rfl,_,_,rfl,rfl,_,_,rfl,rfl,_,_,rfl,rfl,_,_,rfl,rfl,rfl⟩
end
end Go.Proofs.YtglpoiaedkoecaaDoor.Am
