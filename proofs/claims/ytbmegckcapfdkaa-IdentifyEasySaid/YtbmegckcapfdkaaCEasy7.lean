/- Texts behind the claim, part 7: the abstract machine, and what the functions answer. No condition. -/
import Derived.Test.YtbmegckcapfdkaaCEasy6
set_option linter.unusedVariables false
set_option linter.unusedSimpArgs false
set_option linter.unusedSectionVars false
namespace Go.Proofs.Ytbmegckcapfdkaa.Am
open Go.RowKit
theorem Qi7(Q:List Nat): ∀i,(orL Q i).Nodup
 |0=>List.nodup_nil
 | i + 1 => by
  have ih:=Qi7 Q i
  have hm:=Qhz (Q:=Q) i
  rw[orL]
  have hp:((orL Q i).take (atF Q i)++[i]++(orL Q i).drop (atF Q i)).Perm (i::orL Q i):=by
   have:=List.perm_middle (a:=i) (l₁:=(orL Q i).take (atF Q i)) (l₂:=(orL Q i).drop (atF Q i))
   rw[List.take_append_drop]at this
   simpa using this
  rw[hp.nodup_iff]
  exact List.nodup_cons.2 ⟨fun h=>absurd (hm i h) (Nat.lt_irrefl _),ih⟩
theorem idx_at{L:List Nat}(hn:L.Nodup){x:Nat}(hx:x<L.length):L.idxOf (L.getD x 0)=x:=by
 rw[List.getD_eq_getElem?_getD,List.getElem?_eq_getElem hx]
 exact List.Nodup.idxOf_getElem hn x hx
theorem drI_bit{y:Nat}{o:Nat→Nat}{k:Nat}{x:Nat×(Nat→Nat)}{i b:Nat}: ∀j,((drI y o k x j).2 i).testBit b=true→(x.2 i).testBit b=true∨i=o k∧∃m,m<j∧b=o m
 |0,h=>.inl h
 | j + 1, h => by
  have ih:=drI_bit (y:=y) (o:=o) (k:=k) (x:=x) (i:=i) (b:=b) j
  have up:((drI y o k x j).2 i).testBit b=true→(x.2 i).testBit b=true∨i=o k∧∃m,m<j+1∧b=o m:=fun h=>by
   rcases ih h with h|⟨h1,m,h2,h3⟩
   ·exact .inl h
   ·exact .inr ⟨h1,m,by omega,h3⟩
  unfold drI at h
  split at h
  ·dsimp only at h
   split at h
   ·rename_i hik
    rw[Nat.testBit_or,Bool.or_eq_true]at h
    rcases h with h|h
    ·rw[←hik]at h;exact up h
    ·rw [Nat.testBit_two_pow] at h
     exact .inr ⟨hik,j,by omega,(of_decide_eq_true h).symm⟩
   ·exact up h
  ·exact up h
theorem Qn3{P:List Nat}{o:Nat→Nat}{i b:Nat}: ∀K,(drO P o K i).testBit b=true→∃k m,m<k∧k<K∧i=o k∧b=o m
 |0,h=>by unfold drO at h;simp at h
 | K + 1, h => by
  unfold drO at h
  rcases drI_bit K h with h|⟨h1,m,h2,h3⟩
  ·obtain ⟨k, m, h1, h2, h3, h4⟩ := Qn3 K h
   exact⟨k,m,h1,by omega,h3,h4⟩
  ·exact⟨K,m,h2,by omega,h1,h3⟩
def SymF(f:Nat→Nat):Prop:=(∀a b,(f a).testBit b=(f b).testBit a)∧∀a,(f a).testBit a=false
theorem Qjy{f:Nat→Nat}{x y:Nat}(h:x≠y)(a b:Nat):(mx1 (mx1 f x y) y x a).testBit b=((f a).testBit b||(decide (a=x)&&decide (b=y))||(decide (a=y)&&decide (b=x))):=by
 unfold mx1
 by_cases h1:a=y
 ·subst h1
  rw[if_pos rfl,if_neg (Ne.symm h),Nat.testBit_or,Nat.testBit_two_pow]
  have e:decide (x=b)=decide (b=x):=by simp[eq_comm]
  simp[Ne.symm h,e]
 ·rw [if_neg h1]
  by_cases h2:a=x
  ·subst h2
   rw[if_pos rfl,Nat.testBit_or,Nat.testBit_two_pow]
   have e:decide (y=b)=decide (b=y):=by simp[eq_comm]
   simp[h1,e]
  ·rw[if_neg h2];simp[h1,h2]
theorem mx2_sym{f:Nat→Nat}{x y:Nat}(h:x≠y)(hf:SymF f):SymF (mx1 (mx1 f x y) y x):=by
 refine⟨fun a b=>?_,fun a=>?_⟩
 ·rw [Qjy h, Qjy h, hf.1 a b]
  cases(f b).testBit a<;>by_cases h1:a=x<;>by_cases h2:a=y<;>by_cases h3:b=x<;>by_cases h4:b=y<;>simp[h1,h2,h3,h4]
 ·rw [Qjy h, hf.2 a]
  by_cases h1:a=x
  ·subst h1;simp[h]
  ·simp[h1]
theorem Qjz{n:Nat}{pr:List (Nat×Nat)}: ∀i,SymF (mxF n pr i)
 |0=>⟨fun a b=>by unfold mxF;simp,fun a=>by unfold mxF;simp⟩
 |i+1=>by
  unfold mxF
  split
  ·rename_i h;exact mx2_sym h (Qjz i)
  ·exact Qjz i
theorem Qc0(f:Nat→Nat){n k:Nat}(h:k<n):((List.range n).map f).getD k 0=f k:=by
 rw[List.getD_eq_getElem?_getD,List.getElem?_map,List.getElem?_range h];rfl
theorem mg_ok(P Q:List Nat)(pr:List (Nat×Nat)):GrOk (mgP P Q) (mgJ P pr):=by
 have hl5:(P.take 5).length≤5:=by rw[List.length_take];omega
 have hn:drN (P.take 5)≤5:=by unfold drN;omega
 have hn1:1≤drN (P.take 5):=by unfold drN;omega
 have hK:min (drN (P.take 5)) (P.take 5).length≤drN (P.take 5):=Nat.min_le_left _ _
 have hpl:(mgP P Q).length=drN (P.take 5):=by unfold mgP;rw[List.length_map,List.length_range]
 have hjl:(mgJ P pr).length=drN (P.take 5):=by unfold mgJ;rw[List.length_map,List.length_range]
 have ho: ∀j,(orL Q (drN (P.take 5))).getD j 0<drN (P.take 5):=fun i=>by
  rw[List.getD_eq_getElem?_getD]
  cases hx:(orL Q (drN (P.take 5)))[i]? with
  |none=>simp;omega
  |some x=>exact Qhz _ x (List.mem_of_getElem? hx)
 have hg: ∀i,drG (P.take 5) Q i<2^drN (P.take 5):=fun i=>Qn4 (by omega) ho _ i
 have hj: ∀i,mxF (drN (P.take 5)) pr (min pr.length 10) i<2^drN (P.take 5):=fun i=>Qlk hn1 _ i
 have h32:2^drN (P.take 5)≤32:=Nat.pow_le_pow_right (n:=2) (by decide) hn
 have hsy:=Qjz (n:=drN (P.take 5)) (pr:=pr) (min pr.length 10)
 refine⟨by omega,by omega,fun x hx=>?_,⟨fun v=>(orL Q (drN (P.take 5))).idxOf v,fun u hu v hv=>?_⟩,fun k hk=>?_,by omega,fun x hx=>?_,fun k hk=>?_,fun k hk=>?_,fun k m hk hm=>?_⟩
 ·obtain ⟨i, _, rfl⟩ := List.mem_map.1 hx
  have:=hg i;omega
 ·rw [hpl] at hu ⊢
  unfold mgP at hv
  rw[Qc0 _ hu]at hv
  unfold drG at hv
  obtain⟨k,m,h1,h2,h3,h4⟩:=Qn3 _ hv
  have hll:=Qhy Q (drN (P.take 5))
  have hnd:=Qi7 Q (drN (P.take 5))
  refine⟨by rw[h4];exact ho m,?_⟩
  rw[h3,h4]
  show(orL Q (drN (P.take 5))).idxOf _<(orL Q (drN (P.take 5))).idxOf _
  rw[idx_at hnd (x:=m) (by omega),idx_at hnd (x:=k) (by omega)]
  exact h1
 ·rw [hpl] at hk ⊢
  unfold mgP
  rw[Qc0 _ hk]
  exact Nat.div_eq_of_lt (hg k)
 ·obtain ⟨i, _, rfl⟩ := List.mem_map.1 hx
  have:=hj i;omega
 ·rw [hpl] at hk ⊢
  unfold mgJ
  rw[Qc0 _ hk]
  exact Nat.div_eq_of_lt (hj k)
 ·rw [hpl] at hk
  unfold mgJ
  rw[Qc0 _ hk]
  exact hsy.2 k
 ·rw [hpl] at hk hm
  unfold mgJ
  rw[Qc0 _ hk,Qc0 _ hm]
  exact hsy.1 k m
inductive Rch(l:List Nat)(w:Nat):Nat→Nat→Prop
 |refl (a:Nat):Rch l w a a
 |step {a b c:Nat}:Rch l w a b→(l.getD b 0).testBit c=true→w.testBit c=true→Rch l w a c
theorem Rch.trans{l:List Nat}{w a b c:Nat}(h1:Rch l w a b)(h2:Rch l w b c):Rch l w a c:=by
 induction h2 with
 |refl=>exact h1
 |step _ h3 h4 ih=>exact ih.step h3 h4
theorem Rch.mono{l:List Nat}{w w' a b:Nat}(h:Rch l w a b)(hw: ∀i,w.testBit i=true→w'.testBit i=true):Rch l w' a b:=by
 induction h with
 |refl=>exact .refl _
 |step _ h3 h4 ih=>exact ih.step h3 (hw _ h4)
theorem Rch.mem{l:List Nat}{w a b:Nat}(h:Rch l w a b)(ha:w.testBit a=true):w.testBit b=true:=by
 cases h with
 |refl=>exact ha
 |step _ _ h4=>exact h4
theorem nxF_iff{s w:Nat}{l:List Nat}{b:Nat}: ∀k,(nxF s w l k).testBit b=true↔s.testBit b=true∨∃a,a<k∧s.testBit a=true∧(l.getD a 0).testBit b=true∧w.testBit b=true
 |0=>⟨fun h=>.inl h,fun h=>h.elim id (fun⟨a,ha,_⟩=>absurd ha (Nat.not_lt_zero _))⟩
 | k + 1 => by
  have ih:=nxF_iff (s:=s) (w:=w) (l:=l) (b:=b) k
  unfold nxF
  constructor
  ·intro h
   split at h
   ·rename_i hk
    rw[Nat.testBit_or,Bool.or_eq_true,Nat.testBit_and,Bool.and_eq_true]at h
    rcases h with h|h
    ·rcases ih.1 h with h | ⟨a, h1, h2⟩
     ·exact .inl h
     ·exact .inr ⟨a,by omega,h2⟩
    ·exact .inr ⟨k,by omega,hk,h.1,h.2⟩
   ·rcases ih.1 h with h | ⟨a, h1, h2⟩
    ·exact .inl h
    ·exact .inr ⟨a,by omega,h2⟩
  ·intro h
   have up:(nxF s w l k).testBit b=true→(if s.testBit k=true then nxF s w l k|||(l.getD k 0&&& w)else nxF s w l k).testBit b=true:=by
    intro h
    split
    ·rw[Nat.testBit_or,h,Bool.true_or]
    ·exact h
   rcases h with h|⟨a,h1,h2,h3,h4⟩
   ·exact up (ih.2 (.inl h))
   ·by_cases hak : a = k
    ·subst hak
     rw[if_pos h2,Nat.testBit_or,Nat.testBit_and,h3,h4];simp
    ·exact up (ih.2 (.inr ⟨a,by omega,h2,h3,h4⟩))
theorem Qnu{w:Nat}{l:List Nat}(hw:w<18446744073709551616): ∀f s,18446744073709551616-s≤f→s<18446744073709551616→nxF (clF w l f s) w l l.length=clF w l f s
 |0,s,h,hs=>by omega
 | f + 1, s, h, hs => by
  unfold clF
  split
  ·rename_i he;exact he
  ·rename_i he
   have h1:=Qgu s w l l.length
   exact Qnu hw f _ (by omega) (Qeg hs hw _)
theorem Qnv{w:Nat}{l:List Nat}: ∀f s b,(clF w l f s).testBit b=true→∃a,s.testBit a=true∧Rch l w a b
 |0,s,b,h=>⟨b,h,.refl _⟩
 | f + 1, s, b, h => by
  unfold clF at h
  split at h
  ·exact⟨b,h,.refl _⟩
  ·obtain ⟨a, h1, h2⟩ := Qnv f _ b h
   rcases(nxF_iff _).1 h1 with h1|⟨a',_,h3,h4,h5⟩
   ·exact⟨a,h1,h2⟩
   ·exact⟨a',h3,(Rch.step (.refl _) h4 h5).trans h2⟩
theorem Qjk{s w:Nat}{l:List Nat}(hs:s<18446744073709551616)(hw:w<18446744073709551616)(b:Nat):(clo s w l).testBit b=true↔∃a,s.testBit a=true∧Rch l w a b:=by
 constructor
 ·exact Qnv _ _ _
 ·rintro ⟨a, h1, h2⟩
  have hfix:nxF (clo s w l) w l l.length=clo s w l:=Qnu hw _ s (Nat.le_refl _) hs
  induction h2 with
  |refl=>exact Qjj h1
  | @step b c h3 h4 h5 ih=>
   rw[←hfix,nxF_iff]
   refine .inr ⟨b,?_,ih,h4,h5⟩
   refine Nat.lt_of_not_le fun hle=>?_
   rw[List.getD_eq_getElem?_getD,List.getElem?_eq_none hle]at h4
   simp at h4
def Sub(a b:Nat):Prop:=∀i,a.testBit i=true→b.testBit i=true
theorem Sub.eq{a b:Nat}(h1:Sub a b)(h2:Sub b a):a=b:=Nat.eq_of_testBit_eq fun i=>by
 rw[Bool.eq_iff_iff];exact⟨h1 i,h2 i⟩
theorem Qa7{x y:Nat}(hx:x<18446744073709551616)(hy:y<18446744073709551616):mi x y=0↔Sub x y:=by
 constructor
 ·intro h i hi
  have:=Qcn hx hy i
  rw[h,hi,Nat.zero_testBit]at this
  cases hyi:y.testBit i with
  |true=>rfl
  |false=>rw[hyi]at this;cases this
 ·intro h
  refine Qmc fun i=>?_
  rw[Qcn hx hy i]
  cases hi:x.testBit i with
  |false=>rfl
  |true=>rw[h i hi];rfl
theorem Qar(n i:Nat):(alN n).testBit i=decide (i<n):=Nat.testBit_two_pow_sub_one n i
theorem Qex{v:Nat}(h:v<64):2^v<18446744073709551616:=Nat.pow_lt_pow_right (n:=64) (by decide) h
theorem bit_lt64{s v:Nat}(hs:s<18446744073709551616)(h:s.testBit v=true):v<64:=by
 refine Nat.lt_of_not_le fun hle=>?_
 rw[Nat.testBit_lt_two_pow (Nat.lt_of_lt_of_le (show s<2^64 from hs) (Nat.pow_le_pow_right (by decide) hle))]at h
 cases h
theorem Qcb{j:List Nat}{s v:Nat}(hs:s<18446744073709551616)(hv:v<64)(b:Nat):(clo (2^v) s j).testBit b=true↔Rch j s v b:=by
 rw[Qjk (Qex hv) hs]
 constructor
 ·rintro ⟨a, h1, h2⟩
  rw[Nat.testBit_two_pow]at h1
  rw[of_decide_eq_true h1];exact h2
 ·intro h
  exact⟨v,Nat.testBit_two_pow_self,h⟩
theorem Qj6{j:List Nat}{s:Nat}(hs:s<18446744073709551616): ∀k,Sub (reF j s k) s
 |0,i,h=>h
 |k+1,i,h=>by
  have hr:=Qeh (j:=j) hs k
  have e2:reF j s (k+1)=mi (reF j s k) (dkF j s k):=rfl
  rw[e2,Qcn hr (Qbq hs k)]at h
  simp only[Bool.and_eq_true]at h
  exact Qj6 hs k i h.1
theorem Qk3{j:List Nat}{s k:Nat}(hs:s<18446744073709551616)(hk:k<rn j s): ∃v,v<64∧s.testBit v=true∧dkF j s k=clo (2^v) s j:=by
 have h0:=(Qgf (j:=j) hs).2 k hk
 obtain⟨v,h64,h1,h2,h3⟩:=Qjx h0 (Qeh hs k)
 exact⟨v,h64,Qj6 hs k v h1,by unfold dkF;rw[h2]⟩
theorem Qk4{j:List Nat}{s u:Nat}(hs:s<18446744073709551616)(hu:s.testBit u=true): ∃k,k<rn j s∧(dkF j s k).testBit u=true:=by
 by_cases h: ∃k,k<rn j s∧(dkF j s k).testBit u=true
 ·exact h
 ·have key : ∀ k, k ≤ rn j s → (reF j s k).testBit u = true := by
   intro k
   induction k with
   |zero=>intro _;exact hu
   |succ k ih=>
    intro hk
    have e2:reF j s (k+1)=mi (reF j s k) (dkF j s k):=rfl
    rw[e2,Qcn (Qeh hs k) (Qbq hs k),ih (by omega)]
    cases hb:(dkF j s k).testBit u with
    |false=>rfl
    |true=>exact absurd ⟨k,by omega,hb⟩ h
  have:=key (rn j s) (Nat.le_refl _)
  rw[(Qgf (j:=j) hs).1,Nat.zero_testBit]at this
  cases this
section
variable {p j:List Nat} (g:GrOk p j)
include g
theorem Rch.symm{S a b:Nat}(hS:Sub S (alN p.length))(h:Rch j S a b)(ha:S.testBit a=true):Rch j S b a:=by
 induction h with
 |refl=>exact .refl _
 | @step b c h1 h2 h3 ih=>
  have hb:=h1.mem ha
  have hbn:=hS b hb
  have hcn:=hS c h3
  rw[Qar]at hbn hcn
  have e:=g.js b c (of_decide_eq_true hbn) (of_decide_eq_true hcn)
  rw[h2]at e
  exact(Rch.step (.refl c) e.symm hb).trans ih
theorem al64:alN p.length<18446744073709551616:=Qgl (by have:=g.l5;omega)
theorem Qdx{S:Nat}(hS:Sub S (alN p.length)):S<18446744073709551616:=by
 have:S<2^5:=Nat.lt_pow_two_of_testBit S fun i hi=>by
  cases h:S.testBit i with
  |false=>rfl
  |true=>
   have:=hS i h
   rw[Qar]at this
   have:=of_decide_eq_true this
   have:=g.l5
   omega
 omega
theorem Qfd{S k u b:Nat}(hS:Sub S (alN p.length))(hk:k<rn j S)(hu:(dkF j S k).testBit u=true)(hb:(dkF j S k).testBit b=true):Rch j (dkF j S k) u b:=by
 have hs:=Qdx g hS
 obtain⟨v,h64,hv,e⟩:=Qk3 hs hk
 have key: ∀x,Rch j S v x→Rch j (clo (2^v) S j) v x:=by
  intro x hx
  induction hx with
  |refl=>exact .refl _
  | @step b c h1 h2 h3 ih=>exact ih.step h2 ((Qcb hs h64 c).2 (h1.step h2 h3))
 rw[e]at hu hb⊢
 have hsub:Sub (clo (2^v) S j) (alN p.length):=fun i hi=>hS i (((Qcb hs h64 i).1 hi).mem hv)
 have hvv:(clo (2^v) S j).testBit v=true:=(Qcb hs h64 v).2 (.refl _)
 exact(Rch.symm g hsub (key u ((Qcb hs h64 u).1 hu)) hvv).trans (key b ((Qcb hs h64 b).1 hb))
theorem Qk5{S k u b:Nat}(hS:Sub S (alN p.length))(hk:k<rn j S)(hu:(dkF j S k).testBit u=true)(hb:Rch j S u b):(dkF j S k).testBit b=true:=by
 have hs:=Qdx g hS
 obtain⟨v,h64,hv,e⟩:=Qk3 hs hk
 rw[e]at hu⊢
 exact(Qcb hs h64 b).2 (((Qcb hs h64 u).1 hu).trans hb)
theorem Qdo{S k:Nat}(hS:Sub S (alN p.length))(hk:k<rn j S):Sub (dkF j S k) S:=fun i hi=>by
 have hs:=Qdx g hS
 obtain⟨v,h64,hv,e⟩:=Qk3 hs hk
 rw[e]at hi
 exact((Qcb hs h64 i).1 hi).mem hv
theorem dk_ne{S k:Nat}(hS:Sub S (alN p.length))(hk:k<rn j S): ∃v,(dkF j S k).testBit v=true:=by
 have hs:=Qdx g hS
 obtain⟨v,h64,hv,e⟩:=Qk3 hs hk
 exact⟨v,by rw[e];exact(Qcb hs h64 v).2 (.refl _)⟩
theorem Qii{c t b:Nat}(hc:Sub c (alN p.length))(ht:Sub t (alN p.length)):(abF p c t).testBit b=true↔∃a,(c&&& t).testBit a=true∧Rch p t a b:=by
 unfold abF
 exact Qjk (Nat.lt_of_le_of_lt Nat.and_le_left (Qdx g hc)) (Qdx g ht) b
variable {B c k0:Nat} (hB:Sub B (alN p.length)) (hk0:k0<rn j B) (hc:c=dkF j B k0)
include hB hk0 hc
theorem find_ok{t k1:Nat}(hk1:k1<rn j (alN p.length))(ht:t=dkF j (alN p.length) k1)(hct:mi c t=0)(hab:Sub (abF p c t) B)(od:List Nat)(q:Es): ∃x,fiW p j od c 2 (t,q)=some (.inl x):=by
 have hcB:Sub c B:=by rw[hc];exact Qdo g hB hk0
 have hcA:Sub c (alN p.length):=fun i hi=>hB i (hcB i hi)
 have hSA:Sub (alN p.length) (alN p.length):=fun i hi=>hi
 have htA:Sub t (alN p.length):=by rw[ht];exact Qdo g hSA hk1
 have hct':Sub c t:=(Qa7 (Qdx g hcA) (Qdx g htA)).1 hct
 obtain⟨v,hv⟩: ∃v,c.testBit v=true:=by rw[hc];exact dk_ne g hB hk0
 have hsub:Sub c (abF p c t):=fun i hi=>(Qii g hcA htA).2 ⟨i,by rw[Nat.testBit_and,hi,hct' i hi];rfl,.refl _⟩
 -- what holds c, connected within B, is c
 have uniq: ∀S k,Sub S B→k<rn j S→Sub c (dkF j S k)→dkF j S k=c:=by
  intro S k hSB hk hcd
  have hSA':Sub S (alN p.length):=fun i hi=>hB i (hSB i hi)
  refine Sub.eq (fun b hb=>?_) hcd
  have h1:=Qfd g hSA' hk (hcd v hv) hb
  have h2:Rch j B v b:=h1.mono fun i hi=>hSB i (Qdo g hSA' hk i hi)
  rw[hc]at hv⊢
  exact Qk5 g hB hk0 hv h2
 by_cases htc:t=c
 ·exact⟨q,by unfold fiW;rw[if_pos htc]⟩
 ·have hane : abF p c t ≠ t := fun e => htc (by
   have hconn: ∀b,t.testBit b=true→c.testBit b=true:=fun b hb=>by
    have h1:Rch j t v b:=by
     have hb':=hb;have hv':=hct' v hv
     rw[ht]at hb' hv'⊢
     exact Qfd g hSA hk1 hv' hb'
    have h2:Rch j B v b:=h1.mono fun i hi=>hab i (by rw[e];exact hi)
    rw[hc]at hv⊢
    exact Qk5 g hB hk0 hv h2
   exact Sub.eq hconn hct')
  have haA:Sub (abF p c t) (alN p.length):=fun i hi=>hB i (hab i hi)
  obtain⟨m,hm,hmv⟩:=Qk4 (j:=j) (Qdx g haA) (hsub v hv)
  -- the district of the ancestors that holds v is c
  have hcm:Sub c (dkF j (abF p c t) m):=fun b hb=>by
   have h1:Rch j c v b:=by
    have hb':=hb;have hv':=hv
    rw[hc]at hb' hv'⊢
    exact Qfd g hB hk0 hv' hb'
   exact Qk5 g haA hm hmv (h1.mono hsub)
  have hfin : ∀ x : Nat × Es, (tqF j c (abF p c t) od x (rn j (abF p c t))).1 = c := by
   intro x
   have key: ∀k,k≤rn j (abF p c t)→m<k→(tqF j c (abF p c t) od x k).1=c:=by
    intro k
    induction k with
    |zero=>intro _ h;omega
    | succ k ih =>
     intro hk hmk
     unfold tqF
     by_cases hz:mi c (dkF j (abF p c t) k)=0
     ·rw [if_pos hz]
      exact uniq (abF p c t) k hab (by omega) ((Qa7 (Qdx g hcA) (Qbq (Qdx g haA) k)).1 hz)
     ·rw [if_neg hz]
      by_cases hkm:m=k
      ·subst hkm
       exact absurd ((Qa7 (Qdx g hcA) (Qbq (Qdx g haA) m)).2 hcm) hz
      ·exact ih (by omega) (by omega)
   exact key _ (Nat.le_refl _) hm
  unfold fiW
  dsimp only
  rw[if_neg htc,if_neg hane]
  unfold fiW
  exact⟨_,by rw[if_pos (hfin _)]⟩
end
theorem Qdt{ks:List Nat}{n:Nat}(hn:ks.Nodup)(hk: ∀k∈ks,k<n):ks.length≤n:=by
 have hp:((List.range n).filter (fun j=>decide (j∈ks))).Perm ks:=by
  refine(List.perm_ext_iff_of_nodup (List.Nodup.sublist List.filter_sublist List.nodup_range) hn).2 fun a=>?_
  simp only[List.mem_filter,List.mem_range,decide_eq_true_eq]
  exact⟨fun h=>h.2,fun h=>⟨hk a h,h⟩⟩
 rw[←hp.length_eq]
 calc _≤(List.range n).length:=List.length_filter_le _ _
  _=n:=List.length_range
theorem rn_le{j:List Nat}{s m:Nat}(hs:s<18446744073709551616)(hm: ∀i,s.testBit i=true→i<m):rn j s≤m:=by
 have key: ∀k,k≤rn j s→∃l:List Nat,l.Nodup∧l.length=k∧∀x∈l,s.testBit x=true∧(reF j s k).testBit x=false:=by
  intro k
  induction k with
  |zero=>intro _;exact⟨[],List.nodup_nil,rfl,fun x hx=>by cases hx⟩
  |succ k ih=>
   intro hk
   obtain⟨l,h1,h2,h3⟩:=ih (by omega)
   have h0:=(Qgf (j:=j) hs).2 k (by omega)
   have hr:=Qeh (j:=j) hs k
   obtain⟨v,h64,hv,hvl,_⟩:=Qjx h0 hr
   have hd:(dkF j s k).testBit v=true:=Qjj (by rw[hvl];exact Nat.testBit_two_pow_self)
   have e2:reF j s (k+1)=mi (reF j s k) (dkF j s k):=rfl
   refine⟨v::l,List.nodup_cons.2 ⟨fun hm=>(by rw[(h3 v hm).2]at hv;cases hv),h1⟩,by simp[h2],fun x hx=>?_⟩
   rw[e2,Qcn hr (Qbq hs k)]
   rcases List.mem_cons.1 hx with rfl|hx
   ·exact⟨Qj6 hs k x hv,by rw[hd];simp⟩
   ·exact⟨(h3 x hx).1,by rw[(h3 x hx).2];rfl⟩
 obtain⟨l,h1,h2,h3⟩:=key _ (Nat.le_refl _)
 rw[←h2]
 exact Qdt h1 fun x hx=>hm x (h3 x hx).1
section
variable {p j:List Nat} (g:GrOk p j)
include g
theorem Qlw: ∀s,s<18446744073709551616→(rn j s+1)*rn j (alN p.length)≤1000:=by
 intro s hs
 have h1:rn j s≤64:=rn_le hs fun i hi=>bit_lt64 hs hi
 have h2:rn j (alN p.length)≤p.length:=rn_le (al64 g) fun i hi=>by rw[Qar]at hi;exact of_decide_eq_true hi
 have h5:=g.l5
 have:=Nat.mul_le_mul (show rn j s+1≤65 by omega) (show rn j (alN p.length)≤5 by omega)
 omega
def SoOk(n:Nat)(x:Nat×List Nat):Prop:=x.2.Nodup∧(∀y∈x.2,y<n)∧SetOf x.2 x.1
theorem Qp2{x:Nat×List Nat}(hx:SoOk p.length x): ∀k,k≤p.length→SoOk p.length (soP p k x)∧x.2.length≤(soP p k x).2.length∧Sub x.1 (soP p k x).1∧(∀i,k≤i→(soP p k x).1.testBit i=x.1.testBit i)
 |0,_=>⟨hx,Nat.le_refl _,fun i h=>h,fun i _=>rfl⟩
 | k + 1, hk => by
  obtain⟨⟨h1,h2,h3⟩,h4,h5,h6⟩:=Qp2 hx k (by omega)
  unfold soP
  split
  ·rename_i hc
   refine⟨⟨?_,fun z hz=>?_,h3.put⟩,by simp;omega,fun i hi=>by rw[Nat.testBit_or,h5 i hi];rfl,fun i hi=>?_⟩
   ·dsimp only
    rw[List.nodup_append]
    refine⟨h1,by simp,fun a ha b hb e=>?_⟩
    obtain rfl:=List.mem_singleton.1 hb
    subst e
    exact hc.1 (by rw[h3 a];exact decide_eq_true ha)
   ·rcases List.mem_append.1 hz with hz | hz
    ·exact h2 z hz
    ·obtain rfl:=List.mem_singleton.1 hz;omega
   ·dsimp only
    rw[Nat.testBit_or,Nat.testBit_two_pow,decide_eq_false (by omega),Bool.or_false]
    exact h6 i (by omega)
  ·exact⟨⟨h1,h2,h3⟩,h4,h5,fun i hi=>h6 i (by omega)⟩
theorem Qh5{x:Nat×List Nat}(hx:SoOk p.length x):x.1<18446744073709551616:=by
 have:=hx.2.2.lt hx.2.1
 have h5:=g.l5
 have:2^p.length≤2^5:=Nat.pow_le_pow_right (by decide) h5
 omega
theorem Ql0{x:Nat×List Nat}(hx:SoOk p.length x){u:Nat}(hu:u<p.length)(hok:okN p x.1 u): ∀k,u<k→k≤p.length→x.2.length<(soP p k x).2.length
 |0,h,_=>absurd h (Nat.not_lt_zero _)
 | k + 1, h, hk => by
  obtain⟨⟨h1,h2,h3⟩,h4,h5,h6⟩:=Qp2 g hx k (by omega)
  by_cases huk:u=k
  ·subst huk
   have hc: ¬(soP p u x).1.testBit u=true∧mi (p.getD u 0) (soP p u x).1=0:=by
    refine⟨by rw[h6 u (Nat.le_refl _),hok.1];simp,?_⟩
    have h64:=g.p64.get u
    rw[Qa7 h64 (Qh5 g ⟨h1,h2,h3⟩)]
    exact fun i hi=>h5 i ((Qa7 h64 (Qh5 g hx)).1 hok.2 i hi)
   unfold soP
   rw[if_pos hc]
   simp;omega
  ·have ih := Ql0 hx hu hok k (by omega) (by omega)
   unfold soP
   split
   ·simp;omega
   ·exact ih
theorem soW_some: ∀(f:Nat)(x:Nat×List Nat),SoOk p.length x→p.length-x.2.length≤f→∃y,soW p f x=some y∧SoOk p.length y:=by
 intro f
 have full: ∀x:Nat×List Nat,SoOk p.length x→x.1≠alN p.length→∃v,v<p.length∧x.1.testBit v=false:=by
  intro x hx hne
  by_cases h: ∃v,v<p.length∧x.1.testBit v=false
  ·exact h
  ·refine absurd (Nat.eq_of_testBit_eq fun i => ?_) hne
   rw[Qar]
   by_cases hi:i<p.length
   ·rw [decide_eq_true hi]
    cases hb:x.1.testBit i with
    |true=>rfl
    |false=>exact absurd ⟨i,hi,hb⟩ h
   ·rw [decide_eq_false hi, hx.2.2 i]
    exact decide_eq_false fun hm=>hi (hx.2.1 i hm)
 induction f with
 | zero =>
  intro x hx hlen
  by_cases he:x.1=alN p.length
  ·exact⟨x,by rw[soW,if_pos he],hx⟩
  ·obtain ⟨v, hv, hb⟩ := full x hx he
   rw[hx.2.2 v]at hb
   have:=Qdt (ks:=v::x.2) (n:=p.length) (List.nodup_cons.2 ⟨of_decide_eq_false hb,hx.1⟩) (fun z hz=>by
    rcases List.mem_cons.1 hz with rfl|hz
    ·exact hv
    ·exact hx.2.1 z hz)
   simp at this
   omega
 | succ f ih =>
  intro x hx hlen
  by_cases he:x.1=alN p.length
  ·exact⟨x,by rw[soW,if_pos he],hx⟩
  ·obtain ⟨v, hv, hb⟩ := full x hx he
   obtain⟨u,hu,hok,_⟩:=Qkq g.acy g.p64 (Qh5 g hx) ⟨v,hv,hb⟩
   have h1:=Ql0 g hx hu hok p.length hu (Nat.le_refl _)
   obtain⟨y,hy,hyo⟩:=ih (soP p p.length x) (Qp2 g hx p.length (Nat.le_refl _)).1 (by omega)
   exact⟨y,by rw[soW,if_neg he];exact hy,hyo⟩
theorem Qlq: ∃y,soW p 5 (0,[])=some y∧SoOk p.length y:=
 soW_some g 5 (0,[]) ⟨List.nodup_nil,fun y hy=>(by cases hy),fun b=>(by simp)⟩ (by have:=g.l5;simp only[List.length_nil];omega)
end
def askB(p:List Nat)(xs ys:Nat):Nat:=clo (ys&&& mi (alN p.length) xs) (mi (alN p.length) xs) p
section
variable {p j:List Nat} (g:GrOk p j) {xs ys:Nat} (hq:Qid p.length xs ys)
include g hq
theorem Qi5(i:Nat):(mi (alN p.length) xs).testBit i=(decide (i<p.length)&& !xs.testBit i):=by
 rw[Qcn (al64 g) hq.x64,Qar]
theorem Qe5(b:Nat):(askB p xs ys).testBit b=true↔∃a,(ys&&& mi (alN p.length) xs).testBit a=true∧Rch p (mi (alN p.length) xs) a b:=
 Qjk (Nat.lt_of_le_of_lt Nat.and_le_right Qbd) Qbd b
theorem ask_nq:Sub (askB p xs ys) (mi (alN p.length) xs):=fun b hb=>by
 obtain⟨a,h1,h2⟩:=(Qe5 g hq b).1 hb
 rw[Nat.testBit_and,Bool.and_eq_true]at h1
 exact h2.mem h1.2
theorem Qdf:Sub (askB p xs ys) (alN p.length):=fun b hb=>by
 have:=ask_nq g hq b hb
 rw[Qi5 g hq]at this
 rw[Qar]
 simp only[Bool.and_eq_true]at this
 exact this.1
theorem Qku{b c:Nat}(hb:(askB p xs ys).testBit b=true)(hc:(p.getD b 0).testBit c=true)(hn:c<p.length)(hx:xs.testBit c=false):(askB p xs ys).testBit c=true:=by
 obtain⟨a,h1,h2⟩:=(Qe5 g hq b).1 hb
 exact(Qe5 g hq c).2 ⟨a,h1,h2.step hc (by rw[Qi5 g hq,decide_eq_true hn,hx];rfl)⟩
def AbOk(p j:List Nat)(xs ys:Nat):Prop:=∀k0 k1,k0<rn j (askB p xs ys)→k1<rn j (alN p.length)→Sub (dkF j (askB p xs ys) k0) (dkF j (alN p.length) k1)→Sub (abF p (dkF j (askB p xs ys) k0) (dkF j (alN p.length) k1)) (askB p xs ys)
variable (hab:AbOk p j xs ys)
include hab
theorem inW_ok(od:List Nat){k0:Nat}(hk0:k0<rn j (askB p xs ys))(fs:List Es): ∀k,k≤rn j (alN p.length)→∃gs,inW p j od (alN p.length) 2 (dkF j (askB p xs ys) k0) fs k=some (.inl gs)
 |0,_=>⟨fs,rfl⟩
 | k + 1, hk => by
  obtain⟨gs,ih⟩:=inW_ok od hk0 fs k (by omega)
  have hB:=Qdf g hq
  unfold inW
  rw[ih]
  dsimp only
  by_cases hm:mi (dkF j (askB p xs ys) k0) (dkF j (alN p.length) k)=0
  ·rw [if_pos hm]
   have hsub:=(Qa7 (Qbq (Qdx g hB) k0) (Qbq (al64 g) k)).1 hm
   obtain⟨x,hx⟩:=find_ok g hB hk0 rfl (by omega) rfl hm (hab k0 k hk0 (by omega) hsub) od (partE (dkF j (alN p.length) k) (alN p.length) (.mk 1 (alN p.length) []) od)
   rw[hx]
   exact⟨_,rfl⟩
  ·rw [if_neg hm]
   exact⟨gs,rfl⟩
theorem ouW_ok(od:List Nat): ∀k,k≤rn j (askB p xs ys)→∃gs,ouW p j od (alN p.length) 2 (askB p xs ys) k=some (.inl gs)
 |0,_=>⟨[],rfl⟩
 |k+1,hk=>by
  obtain⟨gs,ih⟩:=ouW_ok od k (by omega)
  unfold ouW
  rw[ih]
  exact inW_ok g hq hab od (by omega) gs _ (Nat.le_refl _)
theorem soE_ok(od:List Nat): ∃x,soE p j xs ys od 2=some (.inl x):=by
 obtain⟨gs,h⟩:=ouW_ok g hq hab od _ (Nat.le_refl _)
 unfold soE
 rw[show clo (ys&&& mi (alN p.length) xs) (mi (alN p.length) xs) p=askB p xs ys from rfl,h]
 exact⟨_,rfl⟩
theorem Qc1:FnOk Pg g0 7 [ul p,ul j,u6 (xs:Nat),u6 (ys:Nat)] (i6 (0:Nat)):=by
 have h5:=g.l5
 have hjl:=g.jl
 obtain⟨y,hy,hyo⟩:=Qlq g
 obtain⟨x,hx⟩:=soE_ok g hq hab y.2
 have hol:y.2.length≤64:=by have:=Qdt hyo.1 hyo.2.1;omega
 have hfl:=Qlw g
 have hsv:=Ql1 p j xs ys y.2 hq.x64 hq.y64 (fun z hz=>by have:=hyo.2.1 z hz;omega) hol (by omega) g.p64 (by omega) g.j64 2 x hx hfl
 have hg:=Qh6 hol hfl hx
 exact Qlj p j xs ys hg (Qfl p j xs ys (by omega) g.p64 5 (by omega) y hy (Qhc p j g xs ys hq) hg hsv)
end
theorem none_ok{p j:List Nat}(g:GrOk p j):GrOk p (List.replicate p.length 0):=by
 have e: ∀k,(List.replicate p.length 0).getD k 0=0:=fun k=>by
  rw[List.getD_eq_getElem?_getD,List.getElem?_replicate];split<;>rfl
 exact⟨g.l1,g.l5,g.p64,g.acy,g.pw,by simp,fun x hx=>by rw[(List.mem_replicate.1 hx).2];decide,fun k hk=>by rw[e];simp,fun k hk=>by rw[e];simp,fun k m hk hm=>by rw[e,e];simp⟩
section
variable {p j:List Nat} (g:GrOk p j) {xs ys:Nat} (hq:Qid p.length xs ys)
include g
theorem ab_sub{c t:Nat}(hc:Sub c (alN p.length))(ht:Sub t (alN p.length)):Sub (abF p c t) t:=fun b hb=>by
 obtain⟨a,h1,h2⟩:=(Qii g hc ht).1 hb
 rw[Nat.testBit_and,Bool.and_eq_true]at h1
 exact h2.mem h1.2
include hq
theorem Qhk{k0:Nat}(h:k0<rn j (askB p xs ys)):Sub (dkF j (askB p xs ys) k0) (alN p.length):=fun i hi=>Qdf g hq i (Qdo g (Qdf g hq) h i hi)
theorem Qhj{k1:Nat}(h:k1<rn j (alN p.length)):Sub (dkF j (alN p.length) k1) (alN p.length):=fun i hi=>Qdo g (fun i hi=>hi) h i hi
theorem ab_none(hj: ∀k,j.getD k 0=0):AbOk p j xs ys:=by
 intro k0 k1 h0 h1 hsub b hb
 have hB:=Qdf g hq
 have hS:Sub (alN p.length) (alN p.length):=fun i hi=>hi
 obtain⟨v,hv⟩:=dk_ne g hB h0
 have hbt:=ab_sub g (Qhk g hq h0) (Qhj g hq h1) b hb
 have hr:=Qfd g hS h1 (hsub v hv) hbt
 have e: ∀{a b:Nat},Rch j (dkF j (alN p.length) k1) a b→a=b:=fun h=>by
  cases h with
  |refl=>rfl
  |step _ h2 _=>rw[hj]at h2;simp at h2
 rw[←e hr]
 exact Qdo g hB h0 v hv
theorem ab_anc(ha: ∀b c,(askB p xs ys).testBit b=true→(p.getD b 0).testBit c=true→(askB p xs ys).testBit c=true):AbOk p j xs ys:=by
 intro k0 k1 h0 h1 hsub b hb
 obtain⟨a,h2,h3⟩:=(Qii g (Qhk g hq h0) (Qhj g hq h1)).1 hb
 rw[Nat.testBit_and,Bool.and_eq_true]at h2
 have h4:=Qdo g (Qdf g hq) h0 a h2.1
 induction h3 with
 |refl=>exact h4
 | @step b c h5 h6 h7 ih=>exact ha b c (ih ((Qii g (Qhk g hq h0) (Qhj g hq h1)).2 ⟨a,by rw[Nat.testBit_and,h2.1,h2.2];rfl,h5⟩)) h6
theorem par_lt{b c:Nat}(hb:b<p.length)(hc:(p.getD b 0).testBit c=true):c<p.length:=by
 obtain⟨rk,hr⟩:=g.acy
 exact(hr b hb c hc).1
theorem ask_lt{b:Nat}(hb:(askB p xs ys).testBit b=true):b<p.length:=by
 have:=Qdf g hq b hb
 rw[Qar]at this
 exact of_decide_eq_true this
theorem Ql7(hx:xs=0):AbOk p j xs ys:=by
 refine ab_anc g hq fun b c hb hc=>Qku g hq hb hc (par_lt g hq (ask_lt g hq hb) hc) ?_
 rw[hx];exact Nat.zero_testBit c
theorem ab_below{d:Nat}(hxd:Sub xs d)(hdn: ∀u,u<p.length→∀c,(p.getD u 0).testBit c=true→d.testBit c=true→d.testBit u=true)(hyd:ys&&& d=0):AbOk p j xs ys:=by
 have hno: ∀b,(askB p xs ys).testBit b=true→d.testBit b=false:=by
  intro b hb
  obtain⟨a,h1,h2⟩:=(Qe5 g hq b).1 hb
  rw[Nat.testBit_and,Bool.and_eq_true]at h1
  have ha:d.testBit a=false:=by
   cases hd:d.testBit a with
   |false=>rfl
   |true=>
    have:(ys&&& d).testBit a=true:=by rw[Nat.testBit_and,h1.1,hd];rfl
    rw[hyd,Nat.zero_testBit]at this
    cases this
  clear hb
  induction h2 with
  |refl=>exact ha
  | @step b c h3 h4 h5 ih =>
   have hbn:=h3.mem h1.2
   rw[Qi5 g hq]at hbn
   simp only[Bool.and_eq_true]at hbn
   have hb:d.testBit b=false:=ih
   cases hd:d.testBit c with
   |false=>rfl
   |true=>
    rw[hdn b (of_decide_eq_true hbn.1) c h4 hd]at hb
    cases hb
 refine ab_anc g hq fun b c hb hc=>?_
 have hbn:=ask_lt g hq hb
 refine Qku g hq hb hc (par_lt g hq hbn hc) ?_
 cases hxc:xs.testBit c with
 |false=>rfl
 |true=>
  have:=hdn b hbn c hc (hxd c hxc)
  rw[hno b hb]at this
  cases this
theorem ab_one{v k2:Nat}(hv:v<p.length)(hx:xs=2^v)(hk2:k2<rn j (alN p.length))(hvk:(dkF j (alN p.length) k2).testBit v=true)(hch: ∀u,u<p.length→(p.getD u 0).testBit v=true→(dkF j (alN p.length) k2).testBit u=false)(hys: ∀i,i<p.length→i≠v→ys.testBit i=true):AbOk p j xs ys:=by
 intro k0 k1 h0 h1 hsub b hb
 have hS:Sub (alN p.length) (alN p.length):=fun i hi=>hi
 have hB:=Qdf g hq
 have hcA:=Qhk g hq h0
 have htA:=Qhj g hq h1
 -- all nodes but v are asked
 have hall: ∀i,i<p.length→i≠v→(askB p xs ys).testBit i=true:=fun i hi hne=>(Qe5 g hq i).2 ⟨i,by
  rw[Nat.testBit_and,hys i hi hne,Qi5 g hq,decide_eq_true hi,hx,Nat.testBit_two_pow,decide_eq_false (Ne.symm hne)];rfl,.refl _⟩
 have hvB:(askB p xs ys).testBit v=false:=by
  cases h:(askB p xs ys).testBit v with
  |false=>rfl
  |true=>
   have:=ask_nq g hq v h
   rw[Qi5 g hq,hx,Nat.testBit_two_pow_self]at this
   simp at this
 have hbt:=ab_sub g hcA htA b hb
 have hbn:=htA b hbt
 rw[Qar]at hbn
 refine hall b (of_decide_eq_true hbn) fun e=>?_
 subst e
 -- the district that holds b is the one of which we know
 have heq: ∀i,(dkF j (alN p.length) k1).testBit i=true→(dkF j (alN p.length) k2).testBit i=true:=fun i hi=>by
  have h2:=Qfd g hS h1 hbt hi
  exact Qk5 g hS hk2 hvk (h2.mono (Qdo g hS h1))
 obtain⟨a,h2,h3⟩:=(Qii g hcA htA).1 hb
 rw[Nat.testBit_and,Bool.and_eq_true]at h2
 cases h3 with
 |refl=>
  have:=Qdo g hB h0 b h2.1
  rw[hvB]at this
  cases this
 | @step c _ h4 h5 h6=>
  have hct:=h4.mem h2.2
  have hcn:=htA c hct
  rw[Qar]at hcn
  have:=hch c (of_decide_eq_true hcn) h5
  rw[heq c hct]at this
  cases this
end
def blI(p:List Nat)(s:Nat):Nat→Nat
 |0=>s
 |k+1=>if p.getD k 0&&& blI p s k≠0 then blI p s k|||2^k else blI p s k
def blO(p:List Nat)(s:Nat):Nat→Nat
 |0=>s
 |i+1=>blI p (blO p s i) p.length
theorem Qe6{p:List Nat}{s:Nat}: ∀k,Sub s (blI p s k)
 |0,i,h=>h
 |k+1,i,h=>by
  have ih:=Qe6 (p:=p) (s:=s) k i h
  unfold blI
  split
  ·rw[Nat.testBit_or,ih];rfl
  ·exact ih
theorem Qky{p:List Nat}{s:Nat}: ∀m k,k≤m→Sub (blI p s k) (blI p s m)
  | 0, k, hk, i, h => by have : k = 0 := by omega
                         subst this;exact h
  | m + 1, k, hk, i, h => by
    by_cases hkm:k=m+1
    · subst hkm;exact h
    · have ih := Qky (p := p) (s := s) m k (by omega) i h
      unfold blI
      split
      · rw[Nat.testBit_or,ih];rfl
      · exact ih
theorem Qjh{p:List Nat}{s n:Nat}(hs: ∀i,s.testBit i=true→i<n): ∀k,k≤n→∀i,(blI p s k).testBit i=true→i<n
 |0,_,i,h=>hs i h
 | k + 1, hk, i, h => by
  unfold blI at h
  split at h
  ·rw [Nat.testBit_or, Bool.or_eq_true] at h
   rcases h with h|h
   ·exact Qjh hs k (by omega) i h
   ·rw [Nat.testBit_two_pow] at h
    have:=of_decide_eq_true h
    omega
  ·exact Qjh hs k (by omega) i h
theorem blI_kids{p:List Nat}{s u c:Nat}(hu:u<p.length)(hc:(p.getD u 0).testBit c=true)(hsc:s.testBit c=true):(blI p s p.length).testBit u=true:=by
 refine Qky p.length (u+1) hu u ?_
 have h1:(p.getD u 0&&& blI p s u).testBit c=true:=by rw[Nat.testBit_and,hc,Qe6 u c hsc];rfl
 have h2:p.getD u 0&&& blI p s u≠0:=fun e=>by rw[e,Nat.zero_testBit]at h1;cases h1
 unfold blI
 rw[if_pos h2,Nat.testBit_or,Nat.testBit_two_pow_self,Bool.or_true]
theorem Qnm{p:List Nat}{s:Nat}(hs: ∀i,s.testBit i=true→i<p.length): ∀k i,(blO p s k).testBit i=true→i<p.length
 |0,i,h=>hs i h
 |k+1,i,h=>Qjh (Qnm hs k) p.length (Nat.le_refl _) i h
theorem Qno{p:List Nat}{s:Nat}: ∀k,Sub s (blO p s k)
 |0,i,h=>h
 |k+1,i,h=>Qe6 _ i (Qno k i h)
theorem Qmd{p:List Nat}{s:Nat}(hs: ∀i,s.testBit i=true→i<p.length): ∀u,u<p.length→∀c,(p.getD u 0).testBit c=true→(blO p s p.length).testBit c=true→(blO p s p.length).testBit u=true:=by
 have key : ∀ k, blI p (blO p s k) p.length = blO p s k ∨ ∃ l : List Nat, l.Nodup ∧ l.length = k ∧ ∀ x ∈ l, (blO p s k).testBit x = true := by
  intro k
  induction k with
  |zero=>exact .inr ⟨[],List.nodup_nil,rfl,fun x hx=>by cases hx⟩
  | succ k ih =>
   rcases ih with h|⟨l,h1,h2,h3⟩
   ·left
    show blI p (blI p (blO p s k) p.length) p.length=blI p (blO p s k) p.length
    rw[h,h]
   ·by_cases he : blI p (blO p s k) p.length = blO p s k
    ·left
     show blI p (blI p (blO p s k) p.length) p.length=blI p (blO p s k) p.length
     rw[he,he]
    ·right
     obtain⟨u,hu1,hu2⟩: ∃u,(blI p (blO p s k) p.length).testBit u=true∧(blO p s k).testBit u=false:=by
      by_cases hx: ∃u,(blI p (blO p s k) p.length).testBit u=true∧(blO p s k).testBit u=false
      ·exact hx
      ·refine absurd (Sub.eq (fun i hi => ?_) (Qe6 _)) he
       cases hb:(blO p s k).testBit i with
       |true=>rfl
       |false=>exact absurd ⟨i,hi,hb⟩ hx
     refine⟨u::l,List.nodup_cons.2 ⟨fun hm=>?_,h1⟩,by simp[h2],fun x hx=>?_⟩
     ·rw[h3 u hm]at hu2;cases hu2
     ·rcases List.mem_cons.1 hx with rfl | hx
      ·exact hu1
      ·exact Qe6 _ x (h3 x hx)
 intro u hu c hc hbc
 rcases key p.length with h|⟨l,h1,h2,h3⟩
 ·rw [← h]
  exact blI_kids hu hc hbc
 ·by_cases hm : u ∈ l
  ·exact h3 u hm
  ·have := Qdt (ks := u :: l) (n := p.length) (List.nodup_cons.2 ⟨hm, h1⟩) (fun x hx => by
    rcases List.mem_cons.1 hx with rfl|hx
    ·exact hu
    ·exact Qnm hs _ x (h3 x hx))
   simp at this
   omega
set_option maxHeartbeats 1000000
set_option maxRecDepth 100000
theorem Qkx{p:List Nat}{s:Nat}(hs:s<18446744073709551616): ∀k,k≤64→blI p s k<18446744073709551616
 |0,_=>hs
 |k+1,hk=>by
  unfold blI
  split
  ·exact Nat.or_lt_two_pow (n:=64) (Qkx hs k (by omega)) (Qex (by omega))
  ·exact Qkx hs k (by omega)
theorem Qnn{p:List Nat}{s:Nat}(hp:p.length≤64)(hs:s<18446744073709551616): ∀k,blO p s k<18446744073709551616
 |0=>hs
 |k+1=>Qkx (Qnn hp hs k) p.length hp
abbrev ey0(p j:List Nat)(al x y b:Nat):List (Nat×V):=[(7,ul p),(8,ul j),(9,u6 (al:Nat)),(1,u6 (x:Nat)),(2,u6 (y:Nat)),(11,u6 (b:Nat))]
abbrev ey1(p j:List Nat)(al x y:Nat)(q:Nat×Nat):SL:={sl:=ey0 p j al x y q.2++[(61,ul p),(62,i6 (p.length:Nat)),(63,i6 (q.1:Nat))]}
abbrev ey2(p j:List Nat)(al x y i:Nat)(q:Nat×Nat):SL:={sl:=ey0 p j al x y q.2++[(61,ul p),(62,i6 (p.length:Nat)),(63,i6 (i:Nat)),(65,ul p),(66,i6 (p.length:Nat)),(67,i6 (q.1:Nat))]}
theorem below_in(p j:List Nat)(hl:p.length≤64)(h64:S64 p)(al x y i s s':Nat)(hs:s<18446744073709551616)(hs':blI p s p.length=s'):
  Sat Pg none 0 (at' 3 [1,1,1,1,1,1,1,1,1,1,0,1,0,0,1,1,0,0,1,0]) (mkSt g0 166 (ey2 p j al x y i (0,s))) (Qah g0 166 [(True,.exit 2,ey2 p j al x y i (p.length,s'))]):=by
 have hp:=Qac p
 have hj:=Qac j
 refine Qbi vE_ok Qaf Qab (b:=at' 3 [1,1,1,1,1,1,1,1,1,1,0,1,0,0,1,1,0,0,1,0,0]) (by kernel_rfl) (fun q=>q.1≤p.length∧blI p s q.1=q.2) (ey2 p j al x y i) (fun q=>p.length-q.1) (fun q hq=>?_) (0,s) ⟨Nat.zero_le _,rfl⟩
 obtain⟨u,b⟩:=q
 obtain⟨hu,hb⟩:=hq
 dsimp only at hu hb
 have hb64:b<18446744073709551616:=by rw[←hb];exact Qkx hs u (by omega)
 by_cases hlt:u<p.length
 ·have s0 := Qbz hlt
  have s1:=Qgb (G:=Qaa Pg) (t:=28) (h64.get u) hb64
  obtain⟨s2,s2b⟩:=Qdd (G:=Qaa Pg) (t:=28) (k:=u) (by omega)
  have s3:=(or_u (G:=Qaa Pg) (t:=28) hb64 s2b).1
  have hstep:blI p s (u+1)=if p.getD u 0&&& blI p s u≠0 then blI p s u|||2^u else blI p s u:=rfl
  rw[hb]at hstep
  by_cases hc:p.getD u 0&&& b≠0
  ·rw [if_pos hc] at hstep
   generalize b|||2^u=b' at*
   generalize 2^u=z at*
   generalize p.getD u 0&&& b=a at*
   generalize p.getD u 0=c at*
   refine .inl ⟨(u+1,b'),[],[yes 68,pl 70,ld 71 (u6 (c:Nat)),va 74 (u6 (a:Nat)),yes 75,va 78 (u6 (z:Nat)),va 79 (u6 (b':Nat)),nu 80 ((u+1:Nat):Int)],1000,⟨hlt,hstep⟩,by dsimp only;omega,?_⟩
   clear hstep hs' hb
   refine Eq.mp (by kernel_rfl:(let z4:=An [Sm p.length,Sm (ut p)];let z0:=(↑p.length:Int);let z1:=(↑(u+1):Int);let z2:=(↑u:Int);let z3:=Qaa Try.prog;An [decide (z2<z0)=true,An [(0:Int)≤z2,z2<z0],headF (List.drop (u*1) (ut p))=some (u6 ↑c),binV z3 BinOp.and 28 (u6 ↑c) (u6 ↑b)=some (u6 ↑a),((↑a:Int) != (0:Int))=true,binV z3 BinOp.shl 28 (u6 1) (i6 ↑u)=some (u6 ↑z),binV z3 BinOp.or 28 (u6 ↑b) (u6 ↑z)=some (u6 ↑b'),wr .i64 (z2+(1:Int))=z1,An [z4,An [Sm j.length,Sm (ut j)],Sm (↑al:Int),Sm (↑x:Int),Sm (↑y:Int),Sm (↑b':Int),z4,z0=z0,Sm (↑i:Int),z4,z0=z0,z1=z1,Tt],Tt])=_) ?_
   (repeat'(first|(with_reducible apply And.intro)|(refine fun(_:True)=>?_)))<;>first|exact aq|skip
   all_goals first|exact s0|exact s1|exact s2|exact s3|(simp;omega)|skip
  ·rw [if_neg hc] at hstep
   have hc0:p.getD u 0&&& b=0:=by omega
   rw[hc0]at s1
   generalize p.getD u 0=c at*
   refine .inl ⟨(u+1,b),[],[yes 68,pl 70,ld 71 (u6 (c:Nat)),va 74 (u6 (0:Nat)),nu 80 ((u+1:Nat):Int)],1000,⟨hlt,hstep⟩,by dsimp only;omega,?_⟩
   clear hstep hs' hb hc hc0
   refine Eq.mp (by kernel_rfl:(let z3:=An [Sm p.length,Sm (ut p)];let z0:=(↑p.length:Int);let z1:=(↑(u+1):Int);let z2:=(↑u:Int);An [decide (z2<z0)=true,An [(0:Int)≤z2,z2<z0],headF (List.drop (u*1) (ut p))=some (u6 ↑c),binV (Qaa Try.prog) BinOp.and 28 (u6 ↑c) (u6 ↑b)=some (u6 ↑(0:Nat)),wr .i64 (z2+(1:Int))=z1,An [z3,An [Sm j.length,Sm (ut j)],Sm (↑al:Int),Sm (↑x:Int),Sm (↑y:Int),Sm (↑b:Int),z3,z0=z0,Sm (↑i:Int),z3,z0=z0,z1=z1,Tt],Tt])=_) ?_
   (repeat'(first|(with_reducible apply And.intro)|(refine fun(_:True)=>?_)))<;>first|exact aq|skip
   all_goals first|exact s0|exact s1|skip
 ·obtain rfl : u = p.length := by omega
  rw[hs']at hb
  subst hb
  refine .inr ⟨.exit 2,[],ey2 p j al x y i (p.length,s'),[no 68],1000,.inl ⟨trivial,rfl,rfl⟩,?_⟩
  clear hs'
  refine Eq.mp (by kernel_rfl:(let z1:=An [Sm p.length,Sm (ut p)];let z0:=(↑p.length:Int);An [decide (z0<z0)=false,An [z1,An [Sm j.length,Sm (ut j)],Sm (↑al:Int),Sm (↑x:Int),Sm (↑y:Int),Sm (↑s':Int),z1,z0=z0,Sm (↑i:Int),z1,z0=z0,z0=z0,Tt],Tt])=_) ?_
  (repeat'(first|(with_reducible apply And.intro)|(refine fun(_:True)=>?_)))<;>first|exact aq|skip
  all_goals skip
theorem Qng(p j:List Nat)(hl:p.length≤64)(h64:S64 p)(al x y s s':Nat)(hs:s<18446744073709551616)(hs':blO p s p.length=s'):
  Sat Pg none 0 (at' 3 [1,1,1,1,1,1,1,1,1,1,0,1,0]) (mkSt g0 166 (ey1 p j al x y (0,s))) (Qah g0 166 [(True,.exit 0,{sl:=ey0 p j al x y s'})]):=by
 have hp:=Qac p
 have hj:=Qac j
 refine Qbi vE_ok Qaf Qab (b:=at' 3 [1,1,1,1,1,1,1,1,1,1,0,1,0,0]) (by kernel_rfl) (fun q=>q.1≤p.length∧blO p s q.1=q.2) (ey1 p j al x y) (fun q=>p.length-q.1) (fun q hq=>?_) (0,s) ⟨Nat.zero_le _,rfl⟩
 obtain⟨i,b⟩:=q
 obtain⟨hi,hb⟩:=hq
 dsimp only at hi hb
 have hb64:b<18446744073709551616:=by rw[←hb];exact Qnn hl hs i
 by_cases hlt:i<p.length
 ·have hin := below_in p j hl h64 al x y i b _ hb64 rfl
  have hstep:blO p s (i+1)=blI p b p.length:=by show blI p (blO p s i) p.length=_;rw[hb]
  generalize blI p b p.length=b' at*
  refine .inl ⟨(i+1,b'),[],[yes 64,(0,.loop [] (ey2 p j al x y i (0,b)) [(True,.exit 2,ey2 p j al x y i (p.length,b'))]),nu 81 ((i+1:Nat):Int)],1000,⟨hlt,hstep⟩,by dsimp only;omega,?_⟩
  clear hstep hs' hb
  refine Eq.mp (by kernel_rfl:(let z6:=An [Sm p.length,Sm (ut p)];let z7:=An [Sm j.length,Sm (ut j)];let z0:=(↑p.length:Int);let z1:=(↑al:Int);let z2:=(↑(i+1):Int);let z3:=(↑i:Int);let z4:=(↑x:Int);let z5:=(↑y:Int);An [decide (z3<z0)=true,An [An [z6,z7,z1=z1,z4=z4,z5=z5,Sm (↑b:Int),z6,z0=z0,z3=z3,z6,z0=z0,(↑(0:Nat):Int)=(0:Int),Tt],Tt],Sat Try.prog none 0 (at' 3 [1,1,1,1,1,1,1,1,1,1,0,1,0,0,1,1,0,0,1,0]) (mkSt g0 166 (ey2 p j al x y i (0,b))) (Qah g0 166 [(True,Ex.exit 2,ey2 p j al x y i (p.length,b'))]),(True→An [wr .i64 (z3+(1:Int))=z2,An [z6,z7,z1=z1,z4=z4,z5=z5,Sm (↑b':Int),z6,z0=z0,z2=z2,Tt],Tt]),Tt])=_) ?_
  (repeat'(first|(with_reducible apply And.intro)|(refine fun(_:True)=>?_)))<;>first|exact aq|skip
  all_goals first|exact hin|skip
 ·obtain rfl : i = p.length := by omega
  rw[hs']at hb
  subst hb
  refine .inr ⟨.exit 0,[],{sl:=ey0 p j al x y s'},[no 64],1000,.inl ⟨trivial,rfl,rfl⟩,?_⟩
  clear hs'
  refine Eq.mp (by kernel_rfl:(An [decide ((↑p.length:Int)<(↑p.length:Int))=false,An [An [Sm p.length,Sm (ut p)],An [Sm j.length,Sm (ut j)],Sm (↑al:Int),Sm (↑x:Int),Sm (↑y:Int),Sm (↑s':Int),Tt],Tt])=_) ?_
  (repeat'(first|(with_reducible apply And.intro)|(refine fun(_:True)=>?_)))<;>first|exact aq|skip
  all_goals skip
def ownI(L:List Nat)(v:Nat):Nat→Nat
 |0=>0
 |i+1=>if L.getD i 0/2^v%2=1 then L.getD i 0 else ownI L v i
def kidI(p:List Nat)(v:Nat):Nat→Nat
 |0=>0
 |u+1=>if p.getD u 0/2^v%2=1 then kidI p v u|||2^u else kidI p v u
theorem Qhs{p:List Nat}{v:Nat}: ∀u,u≤64→kidI p v u<18446744073709551616
 |0,_=>by unfold kidI;decide
 |u+1,h=>by
  unfold kidI
  split
  ·exact Nat.or_lt_two_pow (n:=64) (Qhs u (by omega)) (Qex (by omega))
  ·exact Qhs u (by omega)
abbrev ev0(p j:List Nat)(al v:Nat):List (Nat×V):=[(7,ul p),(8,ul j),(9,u6 (al:Nat)),(94,ul p),(95,i6 (p.length:Nat)),(96,i6 (v:Nat))]
abbrev ev1(p j L:List Nat)(al v:Nat)(q:Nat×Nat):SL:={sl:=ev0 p j al v++[(14,i6 (v:Nat)),(17,u6 (q.2:Nat)),(18,u6 0),(108,ul L),(109,i6 (L.length:Nat)),(110,i6 (q.1:Nat))]}
abbrev ev2(p j:List Nat)(al v w:Nat)(q:Nat×Nat):SL:={sl:=ev0 p j al v++[(14,i6 (v:Nat)),(17,u6 (w:Nat)),(18,u6 (q.2:Nat)),(121,ul p),(122,i6 (p.length:Nat)),(123,i6 (q.1:Nat))]}
theorem own_loop(p j L:List Nat)(al v w:Nat)(hv:v<64)(hL:L.length≤1000)(hw:ownI L v L.length=w):
  Sat Pg none 0 (at' 3 [1,1,1,1,1,1,1,1,1,1,1,1,0,1,0,0,1,1,0,0,1,1,1,1,0,1,0]) (mkSt g0 166 (ev1 p j L al v (0,0))) (Qah g0 166 [(True,.exit 6,{sl:=ev0 p j al v++[(14,i6 (v:Nat)),(17,u6 (w:Nat)),(18,u6 0)]})]):=by
 have hp:=Qac p
 have hj:=Qac j
 have hLf:=Qac L
 refine Qbi vE_ok Qaf Qab (b:=at' 3 [1,1,1,1,1,1,1,1,1,1,1,1,0,1,0,0,1,1,0,0,1,1,1,1,0,1,0,0]) (by kernel_rfl) (fun q=>q.1≤L.length∧ownI L v q.1=q.2) (ev1 p j L al v) (fun q=>L.length-q.1) (fun q hq=>?_) (0,0) ⟨Nat.zero_le _,rfl⟩
 obtain⟨i,b⟩:=q
 obtain⟨hi,hb⟩:=hq
 dsimp only at hi hb
 by_cases hlt:i<L.length
 ·have s0 := Qbz hlt
  have s1:=Qdi (G:=Qaa Pg) (t:=28) (x:=L.getD i 0) (k:=v) (by omega)
  have s2:=Qb4 (G:=Qaa Pg) (t:=28) (x:=L.getD i 0/2^v)
  have hstep:ownI L v (i+1)=if L.getD i 0/2^v%2=1 then L.getD i 0 else ownI L v i:=rfl
  rw[hb]at hstep
  by_cases hc:L.getD i 0/2^v%2=1
  ·rw [if_pos hc] at hstep
   rw[hc]at s2
   generalize L.getD i 0/2^v=c1 at*
   generalize L.getD i 0=c at*
   refine .inl ⟨(i+1,c),[],[yes 111,pl 112,ld 113 (u6 (c:Nat)),va 116 (u6 (c1:Nat)),va 117 (u6 (1:Nat)),nu 120 ((i+1:Nat):Int)],1000,⟨hlt,hstep⟩,by dsimp only;omega,?_⟩
   clear hstep hw hb hc
   refine Eq.mp (by kernel_rfl:(let z4:=An [Sm p.length,Sm (ut p)];let z0:=(↑L.length:Int);let z1:=(↑(i+1):Int);let z2:=(↑i:Int);let z3:=(↑v:Int);An [decide (z2<z0)=true,An [(0:Int)≤z2,z2<z0],headF (List.drop (i*1) (ut L))=some (u6 ↑c),binV (Qaa Try.prog) BinOp.shr 28 (u6 ↑c) (i6 ↑v)=some (u6 ↑c1),binV (Qaa Try.prog) BinOp.and 28 (u6 ↑c1) (u6 1)=some (u6 ↑(1:Nat)),wr .i64 (z2+(1:Int))=z1,An [z4,An [Sm j.length,Sm (ut j)],Sm (↑al:Int),z4,Sm (↑p.length:Int),z3=z3,z3=z3,Sm (↑c:Int),Sm (0:Int),An [Sm L.length,Sm (ut L)],z0=z0,z1=z1,Tt],Tt])=_) ?_
   (repeat'(first|(with_reducible apply And.intro)|(refine fun(_:True)=>?_)))<;>first|exact aq|skip
   all_goals first|exact s0|exact s1|exact s2|skip
  ·rw [if_neg hc] at hstep
   have hc0:L.getD i 0/2^v%2=0:=by omega
   rw[hc0]at s2
   generalize L.getD i 0/2^v=c1 at*
   generalize L.getD i 0=c at*
   refine .inl ⟨(i+1,b),[],[yes 111,pl 112,ld 113 (u6 (c:Nat)),va 116 (u6 (c1:Nat)),va 117 (u6 (0:Nat)),nu 120 ((i+1:Nat):Int)],1000,⟨hlt,hstep⟩,by dsimp only;omega,?_⟩
   clear hstep hw hb hc hc0
   refine Eq.mp (by kernel_rfl:(let z4:=An [Sm p.length,Sm (ut p)];let z0:=(↑L.length:Int);let z1:=(↑(i+1):Int);let z2:=(↑i:Int);let z3:=(↑v:Int);An [decide (z2<z0)=true,An [(0:Int)≤z2,z2<z0],headF (List.drop (i*1) (ut L))=some (u6 ↑c),binV (Qaa Try.prog) BinOp.shr 28 (u6 ↑c) (i6 ↑v)=some (u6 ↑c1),binV (Qaa Try.prog) BinOp.and 28 (u6 ↑c1) (u6 1)=some (u6 ↑(0:Nat)),wr .i64 (z2+(1:Int))=z1,An [z4,An [Sm j.length,Sm (ut j)],Sm (↑al:Int),z4,Sm (↑p.length:Int),z3=z3,z3=z3,Sm (↑b:Int),Sm (0:Int),An [Sm L.length,Sm (ut L)],z0=z0,z1=z1,Tt],Tt])=_) ?_
   (repeat'(first|(with_reducible apply And.intro)|(refine fun(_:True)=>?_)))<;>first|exact aq|skip
   all_goals first|exact s0|exact s1|exact s2|skip
 ·obtain rfl : i = L.length := by omega
  rw[hw]at hb
  subst hb
  refine .inr ⟨.exit 6,[],{sl:=ev0 p j al v++[(14,i6 (v:Nat)),(17,u6 (w:Nat)),(18,u6 0)]},[no 111],1000,.inl ⟨trivial,rfl,rfl⟩,?_⟩
  clear hw
  refine Eq.mp (by kernel_rfl:(let z0:=An [Sm p.length,Sm (ut p)];An [decide ((↑L.length:Int)<(↑L.length:Int))=false,An [z0,An [Sm j.length,Sm (ut j)],Sm (↑al:Int),z0,Sm (↑p.length:Int),Sm (↑v:Int),Sm (↑v:Int),Sm (↑w:Int),Sm (0:Int),Tt],Tt])=_) ?_
  (repeat'(first|(with_reducible apply And.intro)|(refine fun(_:True)=>?_)))<;>first|exact aq|skip
  all_goals skip
theorem kid_loop(p j:List Nat)(hl:p.length≤64)(al v w k:Nat)(hv:v<64)(hk:kidI p v p.length=k):
  Sat Pg none 0 (at' 3 [1,1,1,1,1,1,1,1,1,1,1,1,0,1,0,0,1,1,0,0,1,1,1,1,1,0,1,0]) (mkSt g0 166 (ev2 p j al v w (0,0))) (Qah g0 166 [(True,.exit 8,{sl:=ev0 p j al v++[(14,i6 (v:Nat)),(17,u6 (w:Nat)),(18,u6 (k:Nat))]})]):=by
 have hp:=Qac p
 have hj:=Qac j
 refine Qbi vE_ok Qaf Qab (b:=at' 3 [1,1,1,1,1,1,1,1,1,1,1,1,0,1,0,0,1,1,0,0,1,1,1,1,1,0,1,0,0]) (by kernel_rfl) (fun q=>q.1≤p.length∧kidI p v q.1=q.2) (ev2 p j al v w) (fun q=>p.length-q.1) (fun q hq=>?_) (0,0) ⟨Nat.zero_le _,rfl⟩
 obtain⟨u,b⟩:=q
 obtain⟨hu,hb⟩:=hq
 dsimp only at hu hb
 have hb64:b<18446744073709551616:=by rw[←hb];exact Qhs u (by omega)
 by_cases hlt:u<p.length
 ·have s0 := Qbz hlt
  have s1:=Qdi (G:=Qaa Pg) (t:=28) (x:=p.getD u 0) (k:=v) (by omega)
  have s2:=Qb4 (G:=Qaa Pg) (t:=28) (x:=p.getD u 0/2^v)
  obtain⟨s3,s3b⟩:=Qdd (G:=Qaa Pg) (t:=28) (k:=u) (by omega)
  have s4:=(or_u (G:=Qaa Pg) (t:=28) hb64 s3b).1
  have hstep:kidI p v (u+1)=if p.getD u 0/2^v%2=1 then kidI p v u|||2^u else kidI p v u:=rfl
  rw[hb]at hstep
  by_cases hc:p.getD u 0/2^v%2=1
  ·rw [if_pos hc] at hstep
   rw[hc]at s2
   generalize b|||2^u=b' at*
   generalize 2^u=z at*
   generalize p.getD u 0/2^v=c1 at*
   generalize p.getD u 0=c at*
   refine .inl ⟨(u+1,b'),[],[yes 124,pl 126,ld 127 (u6 (c:Nat)),va 130 (u6 (c1:Nat)),va 131 (u6 (1:Nat)),va 135 (u6 (z:Nat)),va 136 (u6 (b':Nat)),nu 137 ((u+1:Nat):Int)],1000,⟨hlt,hstep⟩,by dsimp only;omega,?_⟩
   clear hstep hk hb hc
   refine Eq.mp (by kernel_rfl:(let z5:=An [Sm p.length,Sm (ut p)];let z0:=(↑p.length:Int);let z1:=Qaa Try.prog;let z2:=(↑(u+1):Int);let z3:=(↑u:Int);let z4:=(↑v:Int);An [decide (z3<z0)=true,An [(0:Int)≤z3,z3<z0],headF (List.drop (u*1) (ut p))=some (u6 ↑c),binV z1 BinOp.shr 28 (u6 ↑c) (i6 ↑v)=some (u6 ↑c1),binV z1 BinOp.and 28 (u6 ↑c1) (u6 1)=some (u6 ↑(1:Nat)),binV z1 BinOp.shl 28 (u6 1) (i6 ↑u)=some (u6 ↑z),binV z1 BinOp.or 28 (u6 ↑b) (u6 ↑z)=some (u6 ↑b'),wr .i64 (z3+(1:Int))=z2,An [z5,An [Sm j.length,Sm (ut j)],Sm (↑al:Int),z5,z0=z0,z4=z4,z4=z4,Sm (↑w:Int),Sm (↑b':Int),z5,z0=z0,z2=z2,Tt],Tt])=_) ?_
   (repeat'(first|(with_reducible apply And.intro)|(refine fun(_:True)=>?_)))<;>first|exact aq|skip
   all_goals first|exact s0|exact s1|exact s2|exact s3|exact s4|skip
  ·rw [if_neg hc] at hstep
   have hc0:p.getD u 0/2^v%2=0:=by omega
   rw[hc0]at s2
   generalize p.getD u 0/2^v=c1 at*
   generalize p.getD u 0=c at*
   refine .inl ⟨(u+1,b),[],[yes 124,pl 126,ld 127 (u6 (c:Nat)),va 130 (u6 (c1:Nat)),va 131 (u6 (0:Nat)),nu 137 ((u+1:Nat):Int)],1000,⟨hlt,hstep⟩,by dsimp only;omega,?_⟩
   clear hstep hk hb hc hc0
   refine Eq.mp (by kernel_rfl:(let z4:=An [Sm p.length,Sm (ut p)];let z0:=(↑p.length:Int);let z1:=(↑(u+1):Int);let z2:=(↑u:Int);let z3:=(↑v:Int);An [decide (z2<z0)=true,An [(0:Int)≤z2,z2<z0],headF (List.drop (u*1) (ut p))=some (u6 ↑c),binV (Qaa Try.prog) BinOp.shr 28 (u6 ↑c) (i6 ↑v)=some (u6 ↑c1),binV (Qaa Try.prog) BinOp.and 28 (u6 ↑c1) (u6 1)=some (u6 ↑(0:Nat)),wr .i64 (z2+(1:Int))=z1,An [z4,An [Sm j.length,Sm (ut j)],Sm (↑al:Int),z4,z0=z0,z3=z3,z3=z3,Sm (↑w:Int),Sm (↑b:Int),z4,z0=z0,z1=z1,Tt],Tt])=_) ?_
   (repeat'(first|(with_reducible apply And.intro)|(refine fun(_:True)=>?_)))<;>first|exact aq|skip
   all_goals first|exact s0|exact s1|exact s2|skip
 ·obtain rfl : u = p.length := by omega
  rw[hk]at hb
  subst hb
  refine .inr ⟨.exit 8,[],{sl:=ev0 p j al v++[(14,i6 (v:Nat)),(17,u6 (w:Nat)),(18,u6 (k:Nat))]},[no 124],1000,.inl ⟨trivial,rfl,rfl⟩,?_⟩
  clear hk
  refine Eq.mp (by kernel_rfl:(let z2:=An [Sm p.length,Sm (ut p)];let z0:=(↑p.length:Int);let z1:=(↑v:Int);An [decide (z0<z0)=false,An [z2,An [Sm j.length,Sm (ut j)],Sm (↑al:Int),z2,z0=z0,z1=z1,z1=z1,Sm (↑w:Int),Sm (↑k:Int),Tt],Tt])=_) ?_
  (repeat'(first|(with_reducible apply And.intro)|(refine fun(_:True)=>?_)))<;>first|exact aq|skip
  all_goals skip
theorem Qis(x v:Nat):x/2^v%2=1↔x.testBit v=true:=by
 rw[Qjg];simp
theorem diL_get{j:List Nat}{s m i:Nat}(h:i<m):(diL j s m).getD i 0=dkF j s i:=by
 unfold diL
 rw[List.getD_eq_getElem?_getD,List.getElem?_map,List.getElem?_range h];rfl
theorem own_is{j:List Nat}{s v:Nat}: ∀m i,i≤m→(∃k,k<i∧(dkF j s k).testBit v=true)→∃k,k<i∧(dkF j s k).testBit v=true∧ownI (diL j s m) v i=dkF j s k
 |m,0,_,⟨k,h,_⟩=>absurd h (Nat.not_lt_zero _)
 | m, i + 1, hi, ⟨k, h1, h2⟩ => by
  unfold ownI
  rw[diL_get (by omega)]
  by_cases hb:(dkF j s i).testBit v=true
  ·exact⟨i,by omega,hb,by rw[if_pos ((Qis _ _).2 hb)]⟩
  ·have hki : k < i := by
    refine Nat.lt_of_le_of_ne (by omega) fun e=>?_
    subst e;exact hb h2
   obtain⟨k',g1,g2,g3⟩:=own_is m i (by omega) ⟨k,hki,h2⟩
   exact⟨k',by omega,g2,by rw[if_neg (fun h=>hb ((Qis _ _).1 h))];exact g3⟩
theorem Qo1{p:List Nat}{v i:Nat}: ∀u,(kidI p v u).testBit i=true↔i<u∧(p.getD i 0).testBit v=true
 |0=>by unfold kidI;simp
 | u + 1 => by
  have ih:=Qo1 (p:=p) (v:=v) (i:=i) u
  unfold kidI
  by_cases hb:(p.getD u 0).testBit v=true
  ·rw [if_pos ((Qis _ _).2 hb), Nat.testBit_or, Bool.or_eq_true, ih, Nat.testBit_two_pow]
   constructor
   ·rintro (⟨h1, h2⟩ | h)
    ·exact⟨by omega,h2⟩
    ·obtain rfl := of_decide_eq_true h
     exact⟨by omega,hb⟩
   ·rintro ⟨h1, h2⟩
    by_cases hiu:u=i
    ·exact .inr (decide_eq_true hiu)
    ·exact .inl ⟨by omega,h2⟩
  ·rw [if_neg (fun h => hb ((Qis _ _).1 h)), ih]
   constructor
   ·rintro⟨h1,h2⟩;exact⟨by omega,h2⟩
   ·rintro ⟨h1, h2⟩
    refine⟨Nat.lt_of_le_of_ne (by omega) fun e=>?_,h2⟩
    subst e;exact hb h2
section
variable {p j:List Nat} (g:GrOk p j)
include g
theorem one_ask{v:Nat}(hv:v<p.length)(h1:alN p.length≠1):Qid p.length (2^v) (mi (alN p.length) (2^v)):=by
 have h64:=al64 g
 have hv64:2^v<18446744073709551616:=Qex (by have:=g.l5;omega)
 have hb: ∀i,(mi (alN p.length) (2^v)).testBit i=(decide (i<p.length)&& !decide (v=i)):=fun i=>by rw[Qcn h64 hv64,Qar,Nat.testBit_two_pow]
 refine⟨(Qa7 hv64 h64).2 fun i hi=>?_,(Qa7 Qbd h64).2 fun i hi=>?_,Qmc fun i=>?_,fun e=>?_,hv64,Qbd⟩
 ·rw [Nat.testBit_two_pow] at hi
  rw[Qar,←of_decide_eq_true hi]
  exact decide_eq_true hv
 ·rw [hb] at hi
  simp only[Bool.and_eq_true]at hi
  rw[Qar];exact hi.1
 ·rw [Nat.testBit_and, hb, Nat.testBit_two_pow]
  by_cases hvi:v=i<;>simp[hvi]
 ·have hn : p.length ≠ 1 := fun h => h1 (by rw [h]; rfl)
  have:=g.l1
  obtain⟨i,hi,hne⟩: ∃i,i<p.length∧v≠i:=by
   by_cases h0:v=0
   ·exact⟨1,by omega,by omega⟩
   ·exact⟨0,by omega,h0⟩
  have:=hb i
  rw[e,Nat.zero_testBit,decide_eq_true hi,decide_eq_false hne]at this
  cases this
theorem one_code{v k2:Nat}(hv:v<p.length)(h1:alN p.length≠1)(hk2:k2<rn j (alN p.length))(hvk:(dkF j (alN p.length) k2).testBit v=true)(hz:dkF j (alN p.length) k2&&& kidI p v p.length=0):
  FnOk Pg g0 7 [ul p,ul j,u6 (2^v:Nat),u6 (mi (alN p.length) (2^v):Nat)] (i6 (0:Nat)):=by
 have hq:=one_ask g hv h1
 refine Qc1 g hq (ab_one g hq hv rfl hk2 hvk (fun u hu hc=>?_) (fun i hi hne=>?_))
 ·cases hb : (dkF j (alN p.length) k2).testBit u with
  |false=>rfl
  |true=>
   have:(dkF j (alN p.length) k2&&& kidI p v p.length).testBit u=true:=by rw[Nat.testBit_and,hb,(Qo1 p.length).2 ⟨hu,hc⟩];rfl
   rw[hz,Nat.zero_testBit]at this
   cases this
 ·rw[Qcn (al64 g) hq.x64,Qar,Nat.testBit_two_pow,decide_eq_true hi,decide_eq_false (Ne.symm hne)];rfl
end
abbrev ev3(p j:List Nat)(al:Nat)(v:Nat):SL:={sl:=[(7,ul p),(8,ul j),(9,u6 (al:Nat)),(94,ul p),(95,i6 (p.length:Nat)),(96,i6 (v:Nat))]}
theorem Qmp(p j:List Nat)(g:GrOk p j)(al:Nat)(hal:alN p.length=al):
  Sat Pg none 0 (at' 3 [1,1,1,1,1,1,1,1,1,1,1,1,0,1,0]) (mkSt g0 166 (ev3 p j al 0)) (Qah g0 166 [(True,.exit 4,{sl:=[]})]):=by
 have hp:=Qac p
 have hj:=Qac j
 have h5:=g.l5
 have h1':=g.l1
 have h64:=al64 g
 have hS:Sub (alN p.length) (alN p.length):=fun i hi=>hi
 have hal0:alN p.length≠0:=fun e=>by
  have:=Qar p.length 0
  rw[e,Nat.zero_testBit,decide_eq_true (by omega)]at this
  cases this
 have hrn:rn j (alN p.length)≤p.length:=rn_le h64 fun i hi=>by rw[Qar]at hi;exact of_decide_eq_true hi
 have hd:=Qir p j g (alN p.length) h64 hal0 ((Qa7 h64 h64).2 hS) (by omega)
 have hLl:=Qjm j (alN p.length) (rn j (alN p.length))
 refine Qbi vE_ok Qaf Qab (b:=at' 3 [1,1,1,1,1,1,1,1,1,1,1,1,0,1,0,0]) (by kernel_rfl) (fun v=>v≤p.length) (ev3 p j al) (fun v=>p.length-v) (fun v hv=>?_) 0 (Nat.zero_le _)
 by_cases hlt:v<p.length
 ·obtain ⟨k0, hk0, hk0v⟩ := Qk4 (j := j) h64 (show (alN p.length).testBit v = true by rw [Qar]; exact decide_eq_true hlt)
  obtain⟨k2,hk2,hk2v,hown⟩:=own_is (rn j (alN p.length)) (rn j (alN p.length)) (Nat.le_refl _) ⟨k0,hk0,hk0v⟩
  have ho:=own_loop p j (diL j (alN p.length) (rn j (alN p.length))) al v (dkF j (alN p.length) k2) (by omega) (by omega) (by rw[hLl];exact hown)
  have hkd:=kid_loop p j (by omega) al v (dkF j (alN p.length) k2) _ (by omega) rfl
  have hone:=fun h=>one_code g hlt h hk2 hk2v
  have hw64:=Qbq (j:=j) h64 k2
  have hk64:=Qhs (p:=p) (v:=v) p.length (by omega)
  have hLf:=Qac (diL j (alN p.length) (rn j (alN p.length)))
  have s1:=Qdi (G:=Qaa Pg) (t:=28) (x:=dkF j (alN p.length) k2) (k:=v) (by omega)
  have s2:=Qb4 (G:=Qaa Pg) (t:=28) (x:=dkF j (alN p.length) k2/2^v)
  rw[(Qis _ _).2 hk2v]at s2
  have s3:=Qgb (G:=Qaa Pg) (t:=28) hw64 hk64
  obtain⟨s4,s4b⟩:=Qdd (G:=Qaa Pg) (t:=28) (k:=v) (by omega)
  have s5:=mi_u (G:=Qaa Pg) (t:=28) (x:=alN p.length) (y:=2^v) h64 s4b
  rw[hal]at*
  generalize diL j al (rn j al)=L at*
  generalize kidI p v p.length=kd at*
  clear hown hk0v hk2v hk64 hw64 hrn hLl hal0 hS
  generalize dkF j al k2=w at*
  by_cases hz:w&&& kd=0
  ·have hone := fun h => hone h hz
   rw[hz]at s3
   by_cases ha1:al=1
   ·clear hone
    generalize mi al (2^v)=m2 at*
    generalize 2^v=z at*
    generalize w/z=w1 at*
    refine .inl ⟨v+1,[],[yes 97,fn 103 (.tup [ul L,i6 0]),(0,.loop [] (ev1 p j L al v (0,0)) [(True,.exit 6,{sl:=ev0 p j al v++[(14,i6 (v:Nat)),(17,u6 (w:Nat)),(18,u6 0)]})]),(0,.loop [] (ev2 p j al v w (0,0)) [(True,.exit 8,{sl:=ev0 p j al v++[(14,i6 (v:Nat)),(17,u6 (w:Nat)),(18,u6 (kd:Nat))]})]),va 140 (u6 (w1:Nat)),va 141 (u6 (1:Nat)),va 146 (u6 (0:Nat)),no 150,nu 165 ((v+1:Nat):Int)],1000,hlt,by omega,?_⟩
    clear hz
    refine Eq.mp (by kernel_rfl:(let z7:=An [Sm p.length,Sm (ut p)];let z8:=An [Sm j.length,Sm (ut j)];let z0:=(↑p.length:Int);let z1:=(↑v:Int);let z2:=(↑al:Int);let z3:=(↑(0:Nat):Int);let z4:=(0:Int);let z5:=(↑(v+1):Int);let z6:=Qaa Try.prog;An [decide (z1<z0)=true,TT 3,FnOk Try.prog g0 8 [V.im p.length (ut p),V.im j.length (ut j),u6 ↑al] (V.tup [ul L,i6 0]),Tt,An [An [z7,z8,z2=z2,z7,z0=z0,z1=z1,z1=z1,z3=z4,z4=z4,An [Sm L.length,Sm (ut L)],Sm (↑L.length:Int),z3=z4,Tt],Tt],Sat Try.prog none 0 (at' 3 [1,1,1,1,1,1,1,1,1,1,1,1,0,1,0,0,1,1,0,0,1,1,1,1,0,1,0]) (mkSt g0 166 (ev1 p j L al v (0,0))) (Qah g0 166 [(True,Ex.exit 6,SL.mk (ev0 p j al v++[(14,i6 ↑v),(17,u6 ↑w),(18,u6 0)]) [] [] [])]),(True→An [An [An [z7,z8,z2=z2,z7,z0=z0,z1=z1,z1=z1,Sm (↑w:Int),z3=z4,z7,z0=z0,z3=z4,Tt],Tt],Sat Try.prog none 0 (at' 3 [1,1,1,1,1,1,1,1,1,1,1,1,0,1,0,0,1,1,0,0,1,1,1,1,1,0,1,0]) (mkSt g0 166 (ev2 p j al v w (0,0))) (Qah g0 166 [(True,Ex.exit 8,SL.mk (ev0 p j al v++[(14,i6 ↑v),(17,u6 ↑w),(18,u6 ↑kd)]) [] [] [])]),(True→An [binV z6 BinOp.shr 28 (u6 ↑w) (i6 ↑v)=some (u6 ↑w1),binV z6 BinOp.and 28 (u6 ↑w1) (u6 1)=some (u6 ↑(1:Nat)),binV z6 BinOp.and 28 (u6 ↑w) (u6 ↑kd)=some (u6 ↑(0:Nat)),(z2 != (1:Int))=false,wr .i64 (z1+(1:Int))=z5,An [z7,z8,z2=z2,z7,z0=z0,z5=z5,Tt],Tt]),Tt]),Tt])=_) ?_
    (repeat'(first|(with_reducible apply And.intro)|(refine fun(_:True)=>?_)))<;>first|exact aq|skip
    all_goals first|exact hd|exact ho|exact hkd|exact s1|exact s2|exact s3|(rw[ha1];rfl)|skip
   ·have hc := hone ha1
    clear hone
    generalize mi al (2^v)=m2 at*
    generalize 2^v=z at*
    generalize w/z=w1 at*
    refine .inl ⟨v+1,[],[yes 97,fn 103 (.tup [ul L,i6 0]),(0,.loop [] (ev1 p j L al v (0,0)) [(True,.exit 6,{sl:=ev0 p j al v++[(14,i6 (v:Nat)),(17,u6 (w:Nat)),(18,u6 0)]})]),(0,.loop [] (ev2 p j al v w (0,0)) [(True,.exit 8,{sl:=ev0 p j al v++[(14,i6 (v:Nat)),(17,u6 (w:Nat)),(18,u6 (kd:Nat))]})]),va 140 (u6 (w1:Nat)),va 141 (u6 (1:Nat)),va 146 (u6 (0:Nat)),yes 150,va 156 (u6 (z:Nat)),va 159 (u6 (z:Nat)),va 160 (u6 (m2:Nat)),fn 161 (i6 (0:Nat)),nu 165 ((v+1:Nat):Int)],1000,hlt,by omega,?_⟩
    clear hz
    refine Eq.mp (by kernel_rfl:(let z8:=An [Sm p.length,Sm (ut p)];let z9:=An [Sm j.length,Sm (ut j)];let z0:=(↑p.length:Int);let z1:=(↑v:Int);let z2:=Qaa Try.prog;let z3:=(↑al:Int);let z4:=(↑(0:Nat):Int);let z5:=(0:Int);let z7:=(↑(v+1):Int);let z6:=binV z2 BinOp.shl 28 (u6 1) (i6 ↑v);An [decide (z1<z0)=true,TT 3,FnOk Try.prog g0 8 [V.im p.length (ut p),V.im j.length (ut j),u6 ↑al] (V.tup [ul L,i6 0]),Tt,An [An [z8,z9,z3=z3,z8,z0=z0,z1=z1,z1=z1,z4=z5,z5=z5,An [Sm L.length,Sm (ut L)],Sm (↑L.length:Int),z4=z5,Tt],Tt],Sat Try.prog none 0 (at' 3 [1,1,1,1,1,1,1,1,1,1,1,1,0,1,0,0,1,1,0,0,1,1,1,1,0,1,0]) (mkSt g0 166 (ev1 p j L al v (0,0))) (Qah g0 166 [(True,Ex.exit 6,SL.mk (ev0 p j al v++[(14,i6 ↑v),(17,u6 ↑w),(18,u6 0)]) [] [] [])]),(True→An [An [An [z8,z9,z3=z3,z8,z0=z0,z1=z1,z1=z1,Sm (↑w:Int),z4=z5,z8,z0=z0,z4=z5,Tt],Tt],Sat Try.prog none 0 (at' 3 [1,1,1,1,1,1,1,1,1,1,1,1,0,1,0,0,1,1,0,0,1,1,1,1,1,0,1,0]) (mkSt g0 166 (ev2 p j al v w (0,0))) (Qah g0 166 [(True,Ex.exit 8,SL.mk (ev0 p j al v++[(14,i6 ↑v),(17,u6 ↑w),(18,u6 ↑kd)]) [] [] [])]),(True→An [binV z2 BinOp.shr 28 (u6 ↑w) (i6 ↑v)=some (u6 ↑w1),binV z2 BinOp.and 28 (u6 ↑w1) (u6 1)=some (u6 ↑(1:Nat)),binV z2 BinOp.and 28 (u6 ↑w) (u6 ↑kd)=some (u6 ↑(0:Nat)),(z3 != (1:Int))=true,z6=some (u6 ↑z),z6=some (u6 ↑z),binV z2 BinOp.andNot 28 (u6 ↑al) (u6 ↑z)=some (u6 ↑m2),TT 4,FnOk Try.prog g0 7 [V.im p.length (ut p),V.im j.length (ut j),u6 ↑z,u6 ↑m2] (i6 ↑(0:Nat)),Tt,wr .i64 (z1+(1:Int))=z7,An [z8,z9,z3=z3,z8,z0=z0,z7=z7,Tt],Tt]),Tt]),Tt])=_) ?_
    (repeat'(first|(with_reducible apply And.intro)|(refine fun(_:True)=>?_)))<;>first|exact aq|skip
    all_goals first|exact hd|exact ho|exact hkd|exact s1|exact s2|exact s3|exact s4|exact s5|exact hc|(simp;omega)|skip
  ·generalize w &&& kd = a at *
   clear hone
   generalize mi al (2^v)=m2 at*
   generalize 2^v=z at*
   generalize w/z=w1 at*
   refine .inl ⟨v+1,[],[yes 97,fn 103 (.tup [ul L,i6 0]),(0,.loop [] (ev1 p j L al v (0,0)) [(True,.exit 6,{sl:=ev0 p j al v++[(14,i6 (v:Nat)),(17,u6 (w:Nat)),(18,u6 0)]})]),(0,.loop [] (ev2 p j al v w (0,0)) [(True,.exit 8,{sl:=ev0 p j al v++[(14,i6 (v:Nat)),(17,u6 (w:Nat)),(18,u6 (kd:Nat))]})]),va 140 (u6 (w1:Nat)),va 141 (u6 (1:Nat)),va 146 (u6 (a:Nat)),no 147,nu 165 ((v+1:Nat):Int)],1000,hlt,by omega,?_⟩
   refine Eq.mp (by kernel_rfl:(let z7:=An [Sm p.length,Sm (ut p)];let z8:=An [Sm j.length,Sm (ut j)];let z0:=(↑p.length:Int);let z1:=(↑v:Int);let z2:=(↑al:Int);let z3:=(↑(0:Nat):Int);let z4:=(0:Int);let z5:=(↑(v+1):Int);let z6:=Qaa Try.prog;An [decide (z1<z0)=true,TT 3,FnOk Try.prog g0 8 [V.im p.length (ut p),V.im j.length (ut j),u6 ↑al] (V.tup [ul L,i6 0]),Tt,An [An [z7,z8,z2=z2,z7,z0=z0,z1=z1,z1=z1,z3=z4,z4=z4,An [Sm L.length,Sm (ut L)],Sm (↑L.length:Int),z3=z4,Tt],Tt],Sat Try.prog none 0 (at' 3 [1,1,1,1,1,1,1,1,1,1,1,1,0,1,0,0,1,1,0,0,1,1,1,1,0,1,0]) (mkSt g0 166 (ev1 p j L al v (0,0))) (Qah g0 166 [(True,Ex.exit 6,SL.mk (ev0 p j al v++[(14,i6 ↑v),(17,u6 ↑w),(18,u6 0)]) [] [] [])]),(True→An [An [An [z7,z8,z2=z2,z7,z0=z0,z1=z1,z1=z1,Sm (↑w:Int),z3=z4,z7,z0=z0,z3=z4,Tt],Tt],Sat Try.prog none 0 (at' 3 [1,1,1,1,1,1,1,1,1,1,1,1,0,1,0,0,1,1,0,0,1,1,1,1,1,0,1,0]) (mkSt g0 166 (ev2 p j al v w (0,0))) (Qah g0 166 [(True,Ex.exit 8,SL.mk (ev0 p j al v++[(14,i6 ↑v),(17,u6 ↑w),(18,u6 ↑kd)]) [] [] [])]),(True→An [binV z6 BinOp.shr 28 (u6 ↑w) (i6 ↑v)=some (u6 ↑w1),binV z6 BinOp.and 28 (u6 ↑w1) (u6 1)=some (u6 ↑(1:Nat)),binV z6 BinOp.and 28 (u6 ↑w) (u6 ↑kd)=some (u6 ↑a),((↑a:Int)==z4)=false,wr .i64 (z1+(1:Int))=z5,An [z7,z8,z2=z2,z7,z0=z0,z5=z5,Tt],Tt]),Tt]),Tt])=_) ?_
   (repeat'(first|(with_reducible apply And.intro)|(refine fun(_:True)=>?_)))<;>first|exact aq|skip
   all_goals first|exact hd|exact ho|exact hkd|exact s1|exact s2|exact s3|(simp;omega)|skip
 ·obtain rfl : v = p.length := by omega
  refine .inr ⟨.exit 4,[],{sl:=[]},[no 97],1000,.inl ⟨trivial,rfl,rfl⟩,?_⟩
  refine Eq.mp (by kernel_rfl:(An [decide ((↑p.length:Int)<(↑p.length:Int))=false,Tt,Tt])=_) ?_
  (repeat'(first|(with_reducible apply And.intro)|(refine fun(_:True)=>?_)))<;>first|exact aq|skip
  all_goals skip
set_option maxHeartbeats 1000000
set_option maxRecDepth 100000
theorem Qqi(n:Nat):ut (List.replicate n 0)=rep n [u6 0]:=by
 rw[←Qei (p:=[]) n]
 apply List.ext_getElem?
 intro i
 unfold ut uF
 rw[List.getElem?_map,List.getElem?_map,List.getElem?_replicate]
 by_cases hi:i<n
 ·rw[if_pos hi,List.getElem?_range hi];rfl
 ·rw[if_neg hi,List.getElem?_eq_none (by simp;omega)];rfl
section
variable {p j:List Nat} (g:GrOk p j) (x y:Nat) (hx:x<18446744073709551616) (hy:y<18446744073709551616)
include g hx hy
theorem ask_xy(h0:y&&& alN p.length≠0):Qid p.length (x&&& mi (alN p.length) (y&&& alN p.length)) (y&&& alN p.length):=by
 have h64:=al64 g
 have hy64:y&&& alN p.length<18446744073709551616:=Nat.and_lt_two_pow (n:=64) _ h64
 have hm: ∀i,(mi (alN p.length) (y&&& alN p.length)).testBit i=(decide (i<p.length)&& !((y.testBit i)&&decide (i<p.length))):=fun i=>by
  rw[Qcn h64 hy64,Nat.testBit_and,Qar]
 refine⟨(Qa7 (Nat.and_lt_two_pow (n:=64) _ Qbd) h64).2 fun i hi=>?_,(Qa7 hy64 h64).2 fun i hi=>?_,Qmc fun i=>?_,h0,Nat.and_lt_two_pow (n:=64) _ Qbd,hy64⟩
 ·rw [Nat.testBit_and, hm] at hi
  simp only[Bool.and_eq_true]at hi
  rw[Qar];exact hi.2.1
 ·rw [Nat.testBit_and] at hi
  simp only[Bool.and_eq_true]at hi
  exact hi.2
 ·rw [Nat.testBit_and, Nat.testBit_and, hm, Nat.testBit_and, Qar]
  cases x.testBit i<;>cases y.testBit i<;>by_cases h:i<p.length<;>simp[h]
theorem ask_0y(h0:y&&& alN p.length≠0):Qid p.length 0 (y&&& alN p.length):=by
 have h:=ask_xy g x y hx hy h0
 exact⟨(Qa7 (by decide) (al64 g)).2 fun i hi=>by simp at hi,h.y,by simp,h0,by decide,h.y64⟩
theorem Qn7(P Q:List Nat)(pr:List (Nat×Nat))(hP: ∀x∈P,x<256)(hQ: ∀x∈Q,x<256)(h256: ∀x∈pr,x.1<256∧x.2<256)(ep:mgP P Q=p)(ej:mgJ P pr=j)(hw:FnOk Pg g0 5 [] (.bool true)):
  FnOk Pg g0 3 [.agg [bl P,bl Q,.im pr.length (prT pr)],u6 (x:Nat),u6 (y:Nat)] (.bool true):=by
 have hPf:=Qae P
 have hQf:=Qae Q
 have hTf:=Qg9 pr
 have hp:=Qac p
 have hj:=Qac j
 have h5:=g.l5
 have h1':=g.l1
 have h64:=al64 g
 have hg:=Qo9 P Q pr hP hQ h256
 rw[ep,ej]at hg
 obtain⟨s1,s1b⟩:=Qdd (G:=Qaa Pg) (t:=28) (k:=p.length) (by omega)
 have w1:wr .u64 (((2^p.length:Nat):Int)-1)=((alN p.length:Nat):Int):=by
  have hpos:0<2^p.length:=Nat.pow_pos (by decide)
  have e:((2^p.length:Nat):Int)-1=((alN p.length:Nat):Int):=by unfold alN;omega
  rw[e,wr_eq];exact Qga h64
 have s2:=Qgb (G:=Qaa Pg) (t:=28) hy h64
 have hy64:y&&& alN p.length<18446744073709551616:=Nat.and_lt_two_pow (n:=64) _ h64
 have s3:=mi_u (G:=Qaa Pg) (t:=28) (x:=alN p.length) (y:=y&&& alN p.length) h64 hy64
 have s4:=Qgb (G:=Qaa Pg) (t:=28) hx (Qbd (x:=alN p.length) (y:=y&&& alN p.length))
 by_cases h0:y&&& alN p.length=0
 ·rw [h0] at s2 s3 s4
  generalize x&&& mi (alN p.length) 0=x1 at*
  generalize mi (alN p.length) 0=m1 at*
  generalize hal:alN p.length=al at*
  generalize 2^p.length=z at*
  generalize prT pr=PP at*
  refine FnOk.of_vc vE_ok Qaf Qab (n:=1000) (r:=[]) (S:={sl:=[(6,.bool true)]}) (hs:=[fn 23 (.bool true),fn 27 (.tup [ul p,ul j]),va 32 (u6 (z:Nat)),nu 33 (al:Nat),va 36 (u6 (0:Nat)),va 40 (u6 (m1:Nat)),va 41 (u6 (x1:Nat))]) ?_
  clear h0 ep ej hal
  refine Eq.mp (by kernel_rfl:(let z0:=Qaa Try.prog;let z1:=V.bool true;An [z1=z1,Tt,FnOk Try.prog g0 5 [] z1,Tt,An [TT 3,Tt],FnOk Try.prog g0 6 [V.agg [V.im P.length (bt P),V.im Q.length (bt Q),V.im pr.length PP]] (V.tup [ul p,ul j]),Tt,binV z0 BinOp.shl 28 (u6 1) (i6 ↑p.length)=some (u6 ↑z),wr .u64 ((↑z:Int)-(1:Int))=(↑al:Int),binV z0 BinOp.and 28 (u6 ↑y) (u6 ↑al)=some (u6 ↑(0:Nat)),binV z0 BinOp.andNot 28 (u6 ↑al) (u6 ↑(0:Nat))=some (u6 ↑m1),binV z0 BinOp.and 28 (u6 ↑x) (u6 ↑m1)=some (u6 ↑x1),An [Sm true,Tt],Tt])=_) ?_
  (repeat'(first|(with_reducible apply And.intro)|(refine fun(_:True)=>?_)))<;>first|exact aq|skip
  all_goals first|exact hw|exact hg|exact s1|exact s2|exact s3|exact s4|exact w1|skip
 ·have hq := ask_xy g x y hx hy h0
  have hq0:=ask_0y g x y hx hy h0
  have gn:=none_ok g
  have c1:=Qc1 gn hq (ab_none gn hq (fun k=>by rw[List.getD_eq_getElem?_getD,List.getElem?_replicate];split<;>rfl))
  have c2:=Qc1 g hq0 (Ql7 g hq0 rfl)
  have e0:ul (List.replicate p.length 0)= .im p.length (rep p.length [u6 0]):=by
   show V.im _ (ut _)=_
   rw[List.length_replicate,Qqi]
  rw[e0]at c1
  have hRf:HfL (rep p.length [u6 0]):=by rw[←Qqi];exact Qac _
  have hb:=Qng p j (by omega) g.p64 (alN p.length) (x&&& mi (alN p.length) (y&&& alN p.length)) (y&&& alN p.length) (x&&& mi (alN p.length) (y&&& alN p.length)) _ hq.x64 rfl
  have hn:=Qmp p j g (alN p.length) rfl
  have hsub: ∀i,(x&&& mi (alN p.length) (y&&& alN p.length)).testBit i=true→i<p.length:=fun i hi=>by
   have:=(Qa7 hq.x64 h64).1 hq.x i hi
   rw[Qar]at this
   exact of_decide_eq_true this
  have c3:(y&&& alN p.length)&&& blO p (x&&& mi (alN p.length) (y&&& alN p.length)) p.length=0→FnOk Pg g0 7 [ul p,ul j,u6 (x&&& mi (alN p.length) (y&&& alN p.length):Nat),u6 (y&&& alN p.length:Nat)] (i6 (0:Nat)):=fun hz=>
   Qc1 g hq (ab_below g hq (Qno p.length) (Qmd hsub) hz)
  have s5:=Qgb (G:=Qaa Pg) (t:=28) hy64 (Qnn (p:=p) (by omega) hq.x64 p.length)
  generalize blO p (x&&& mi (alN p.length) (y&&& alN p.length)) p.length=b at*
  clear hsub hq hq0 gn e0
  generalize x&&& mi (alN p.length) (y&&& alN p.length)=x1 at*
  generalize mi (alN p.length) (y&&& alN p.length)=m1 at*
  generalize y&&& alN p.length=y1 at*
  generalize hal:alN p.length=al at*
  generalize 2^p.length=z at*
  generalize prT pr=PP at*
  have hlen:(p.length:Int)≤5:=by omega
  clear hal ep ej
  by_cases hz:y1&&& b=0
  ·have c3 := c3 hz
   rw[hz]at s5
   refine FnOk.of_vc vE_ok Qaf Qab (n:=1000) (r:=[]) (S:={sl:=[(6,.bool true)]}) (hs:=[fn 23 (.bool true),fn 27 (.tup [ul p,ul j]),va 32 (u6 (z:Nat)),nu 33 (al:Nat),va 36 (u6 (y1:Nat)),va 40 (u6 (m1:Nat)),va 41 (u6 (x1:Nat)),no 43,mk 46,fn 51 (i6 (0:Nat)),fn 57 (i6 (0:Nat)),(0,.loop [] (ey1 p j al x1 y1 (0,x1)) [(True,.exit 0,{sl:=ey0 p j al x1 y1 b})]),va 84 (u6 (0:Nat)),fn 91 (i6 (0:Nat)),(0,.loop [] (ev3 p j al 0) [(True,.exit 4,{sl:=[]})])]) ?_
   clear hz
   refine Eq.mp (by kernel_rfl:(let y5:=An [Sm p.length,Sm (ut p)];let y6:=An [Sm j.length,Sm (ut j)];let z1:=(↑p.length:Int);let z3:=Qaa Try.prog;let z4:=u6 ↑y1;let z5:=(↑al:Int);let z6:=rep p.length [u6 0];let z7:=V.im p.length (ut p);let z8:=(↑x1:Int);let z9:=(↑y1:Int);let y0:=(0:Int);let y2:=(0:Nat);let y3:=V.bool true;let y4:=u6 ↑x1;let z0:=pt (pt T.e 0 (O.row 27 none [bl P,bl Q,V.im pr.length PP])) 1 (O.row 28 none z6);let z2:=i6 ↑y2;An [y3=y3,Tt,FnOk Try.prog g0 5 [] y3,Tt,An [TT 3,Tt],FnOk Try.prog g0 6 [V.agg [V.im P.length (bt P),V.im Q.length (bt Q),V.im pr.length PP]] (V.tup [ul p,ul j]),Tt,binV z3 BinOp.shl 28 (u6 1) (i6 ↑p.length)=some (u6 ↑z),wr .u64 ((↑z:Int)-(1:Int))=z5,binV z3 BinOp.and 28 (u6 ↑y) (u6 ↑al)=some z4,binV z3 BinOp.andNot 28 (u6 ↑al) z4=some (u6 ↑m1),binV z3 BinOp.and 28 (u6 ↑x) (u6 ↑m1)=some y4,(z9==y0)=false,An [y0≤z1,z1≤z1,(↑(8:Nat):Int)*z1≤(281474976710656:Int),z1≤(9223372036854775807:Int)],An [Tt,HfL z6,TT 2],FnOk Try.prog g0 7 [z7,V.im p.length z6,y4,z4] z2,Tt,TT 4,FnOk Try.prog g0 7 [z7,V.im j.length (ut j),u6 0,z4] z2,An [(V.fn 7 []=V.fn 7 []→[ul p,V.sl 1 0 p.length (some (p.length-p.length)),y4,z4]=[ul p,ul j,u6 0,z4]→z0=z0→0+1+1=2→Sm (CR.mk z2 z0 2 [])),Tt],An [An [y5,y6,z5=z5,z8=z8,z9=z9,z8=z8,y5,z1=z1,(↑y2:Int)=y0,Tt],Tt],Sat Try.prog none 0 (at' 3 [1,1,1,1,1,1,1,1,1,1,0,1,0]) (mkSt g0 166 (ey1 p j al x1 y1 (0,x1))) (Qah g0 166 [(True,Ex.exit 0,SL.mk (ey0 p j al x1 y1 b) [] [] [])]),(True→An [binV z3 BinOp.and 28 z4 (u6 ↑b)=some (u6 ↑y2),TT 4,FnOk Try.prog g0 7 [z7,V.im j.length (ut j),y4,z4] z2,Tt,An [An [y5,y6,z5=z5,y5,z1=z1,(↑y2:Int)=y0,Tt],Tt],Sat Try.prog none 0 (at' 3 [1,1,1,1,1,1,1,1,1,1,1,1,0,1,0]) (mkSt g0 166 (ev3 p j al 0)) (Qah g0 166 [(True,Ex.exit 4,SL.mk [] [] [] [])]),(True→An [An [Sm true,Tt],Tt]),Tt]),Tt])=_) ?_
   (repeat'(first|(with_reducible apply And.intro)|(refine fun(_:True)=>?_)))<;>first|exact aq|skip
   all_goals first|exact hw|exact hg|exact s1|exact s2|exact s3|exact s4|exact s5|exact w1|exact c1|exact c2|exact c3|exact hb|exact hn|(simp;omega)|skip
  ·generalize y1 &&& b = yb at *
   clear c3
   refine FnOk.of_vc vE_ok Qaf Qab (n:=1000) (r:=[]) (S:={sl:=[(6,.bool true)]}) (hs:=[fn 23 (.bool true),fn 27 (.tup [ul p,ul j]),va 32 (u6 (z:Nat)),nu 33 (al:Nat),va 36 (u6 (y1:Nat)),va 40 (u6 (m1:Nat)),va 41 (u6 (x1:Nat)),no 43,mk 46,fn 51 (i6 (0:Nat)),fn 57 (i6 (0:Nat)),(0,.loop [] (ey1 p j al x1 y1 (0,x1)) [(True,.exit 0,{sl:=ey0 p j al x1 y1 b})]),va 84 (u6 (yb:Nat)),no 85,(0,.loop [] (ev3 p j al 0) [(True,.exit 4,{sl:=[]})])]) ?_
   refine Eq.mp (by kernel_rfl:(let y2:=An [Sm p.length,Sm (ut p)];let y3:=An [Sm j.length,Sm (ut j)];let z1:=(↑p.length:Int);let z2:=Qaa Try.prog;let z3:=i6 ↑(0:Nat);let z4:=(↑al:Int);let z5:=u6 ↑y1;let z6:=rep p.length [u6 0];let z7:=(↑x1:Int);let z8:=(0:Int);let z9:=(↑y1:Int);let y0:=V.bool true;let z0:=pt (pt T.e 0 (O.row 27 none [bl P,bl Q,V.im pr.length PP])) 1 (O.row 28 none z6);An [y0=y0,Tt,FnOk Try.prog g0 5 [] y0,Tt,An [TT 3,Tt],FnOk Try.prog g0 6 [V.agg [V.im P.length (bt P),V.im Q.length (bt Q),V.im pr.length PP]] (V.tup [ul p,ul j]),Tt,binV z2 BinOp.shl 28 (u6 1) (i6 ↑p.length)=some (u6 ↑z),wr .u64 ((↑z:Int)-(1:Int))=z4,binV z2 BinOp.and 28 (u6 ↑y) (u6 ↑al)=some z5,binV z2 BinOp.andNot 28 (u6 ↑al) z5=some (u6 ↑m1),binV z2 BinOp.and 28 (u6 ↑x) (u6 ↑m1)=some (u6 ↑x1),(z9==z8)=false,An [z8≤z1,z1≤z1,(↑(8:Nat):Int)*z1≤(281474976710656:Int),z1≤(9223372036854775807:Int)],An [Tt,HfL z6,TT 2],FnOk Try.prog g0 7 [V.im p.length (ut p),V.im p.length z6,u6 ↑x1,z5] z3,Tt,TT 4,FnOk Try.prog g0 7 [V.im p.length (ut p),V.im j.length (ut j),u6 0,z5] z3,An [(V.fn 7 []=V.fn 7 []→[ul p,V.sl 1 0 p.length (some (p.length-p.length)),u6 ↑x1,z5]=[ul p,ul j,u6 0,z5]→z0=z0→0+1+1=2→Sm (CR.mk z3 z0 2 [])),Tt],An [An [y2,y3,z4=z4,z7=z7,z9=z9,z7=z7,y2,z1=z1,(↑(0:Nat):Int)=z8,Tt],Tt],Sat Try.prog none 0 (at' 3 [1,1,1,1,1,1,1,1,1,1,0,1,0]) (mkSt g0 166 (ey1 p j al x1 y1 (0,x1))) (Qah g0 166 [(True,Ex.exit 0,SL.mk (ey0 p j al x1 y1 b) [] [] [])]),(True→An [binV z2 BinOp.and 28 z5 (u6 ↑b)=some (u6 ↑yb),((↑yb:Int)==z8)=false,An [An [y2,y3,z4=z4,y2,z1=z1,(↑(0:Nat):Int)=z8,Tt],Tt],Sat Try.prog none 0 (at' 3 [1,1,1,1,1,1,1,1,1,1,1,1,0,1,0]) (mkSt g0 166 (ev3 p j al 0)) (Qah g0 166 [(True,Ex.exit 4,SL.mk [] [] [] [])]),(True→An [An [Sm true,Tt],Tt]),Tt]),Tt])=_) ?_
   (repeat'(first|(with_reducible apply And.intro)|(refine fun(_:True)=>?_)))<;>first|exact aq|skip
   all_goals first|exact hw|exact hg|exact s1|exact s2|exact s3|exact s4|exact s5|exact w1|exact c1|exact c2|exact hb|exact hn|(simp;omega)|skip
end
open Go.RowKit Go.ChangeShapes Go.WideShapes
set_option maxRecDepth 100000
def allB(w:World)(b:Nat):Prop:=b<w.heap.size
def blF(f:Nat→List V)(n:Nat):List V:=(List.range n).flatMap f
theorem Qkw(f:Nat→List V):blF f 0=[]:=rfl
theorem Qcw(f:Nat→List V)(n:Nat):blF f (n+1)=blF f n++f n:=by
 unfold blF;rw[List.range_succ,List.flatMap_append];simp
theorem Qil{f g:Nat→List V}: ∀{n:Nat},(∀i,i<n→f i=g i)→blF f n=blF g n
 |0,_=>rfl
 |n+1,h=>by rw[Qcw,Qcw,Qil (fun i hi=>h i (by omega)),h n (by omega)]
theorem no_spot{w:World}{a:Addr}{v:Value}(h:w.cell? a=some v):a=⟨a.block,a.off,none⟩∧a.block<w.heap.size:=by
 unfold World.cell? at h
 split at h
 ·rename_i c e f hb
  refine⟨?_,(Array.getElem?_eq_some_iff.1 hb).1⟩
  cases a with
  |mk b o s=>
   cases s with
   |none=>rfl
   |some x=>simp at h
 ·cases h
theorem wf8{n:Int}(h:(Lit.int .u8 n).wf=true):0≤n∧n≤255:=by
 simp only[Lit.wf,Bool.and_eq_true,decide_eq_true_eq]at h
 exact h
section
variable {H:Type} {enc:TypeId×Value→H} {w:World}
theorem Qqh{t:TypeId}{k:IntKind}{fuel:Nat}{cs:List Value}{x:DataW H×List MemPlace}(ht:Pg.underlying t=some (.int k))(h:DataW.trod enc Pg w 0 (fun _=>true) true fuel t cs=some x): ∃n,cs=[.int k n]∧(Lit.int k n).wf=true:=by
 cases fuel with
 |zero=>simp[DataW.trod]at h
 |succ m=>
  obtain⟨n,rfl,_,hw⟩:=DataW.trod_int ht h
  exact⟨n,rfl,hw⟩
theorem RL_get: ∀{l:List V}{cs:List Value}{s:Sig},RL s w l cs→l.length=cs.length∧∀(j:Nat)(v:Value),cs[j]? =some v→∃x:V,l[j]? =some x∧RV s w x v
 |[],_,_,h=>by subst h;exact⟨rfl,fun j v h=>(by simp at h)⟩
 |x::l,_,s,⟨v,vs,rfl,h1,h2⟩=>by
  obtain⟨e,k⟩:=RL_get h2
  refine⟨by simp[e],fun j u hu=>?_⟩
  cases j with
  |zero=>exact⟨x,rfl,by simp at hu;exact hu▸h1⟩
  |succ j=>exact k j u (by simpa using hu)
theorem RC_of{b:Nat}(hb:b<w.heap.size): ∀{l:List V}{off:Nat},(∀j x,l[j]? =some x→∃v,w.cell? ⟨b,off+j,none⟩=some v∧RV (sg (allB w)) w x v)→RC (sg (allB w)) w l b off
 |[],_,_=>trivial
 | x :: l, off, h => by
  obtain⟨v,h1,h2⟩:=h 0 x rfl
  exact⟨⟨hb,v,h1,h2⟩,RC_of hb fun j y hy=>by
   obtain⟨u,k1,k2⟩:=h (j+1) y (by simpa using hy)
   exact⟨u,by rw[show off+1+j=off+(j+1)by omega];exact k1,k2⟩⟩
theorem Qnl{f:Nat→List V}{s:Nat}(hs:0<s): ∀{n j:Nat}{x:V},(∀i,i<n→(f i).length=s)→(blF f n)[j]? =some x→j/s<n∧(f (j/s))[j%s]? =some x
 |0,j,x,_,h=>by rw[Qkw]at h;simp at h
 | n + 1, j, x, hl, h => by
  have hlen: ∀m,m≤n→(blF f m).length=m*s:=by
   intro m
   induction m with
   |zero=>intro _;rw[Qkw];simp
   |succ m ih=>intro hm;rw[Qcw,List.length_append,ih (by omega),hl m (by omega),Nat.succ_mul]
  rw[Qcw]at h
  by_cases hj:j<n*s
  ·rw [List.getElem?_append_left (by rw [hlen n (Nat.le_refl _)]; exact hj)] at h
   obtain⟨a,b⟩:=Qnl hs (fun i hi=>hl i (by omega)) h
   exact⟨by omega,b⟩
  ·rw [List.getElem?_append_right (by rw [hlen n (Nat.le_refl _)]; omega), hlen n (Nat.le_refl _)] at h
   have hlt:j-n*s<s:=by
    have:=(List.getElem?_eq_some_iff.1 h).1
    rw[hl n (by omega)]at this;exact this
   have e1:j/s=n:=by
    rw[Nat.div_eq_iff hs];constructor
    ·rw[Nat.mul_comm]at*;omega
    ·have : (n + 1) * s = n * s + s := Nat.succ_mul n s
     omega
   have e2:j%s=j-n*s:=by rw[Nat.mod_eq_sub_div_mul,e1]
   rw[e1,e2]
   exact⟨by omega,h⟩
theorem Qf5{t e:TypeId}{s:Nat}(hs:0<s)(ht:Pg.underlying t=some (.slice e))(hce:Pg.cellsOf e=s)(Q:List V→Prop)(hQ: ∀(fuel:Nat)(cs:List Value)(x:DataW H×List MemPlace),DataW.trod enc Pg w 0 (fun _=>true) true fuel e cs=some x→∃l:List V,l.length=s∧RL (sg (allB w)) w l cs∧Q l)
  {fuel:Nat}{cs:List Value}{x:DataW H×List MemPlace}(h:DataW.trod enc Pg w 0 (fun _=>true) true fuel t cs=some x):
  ∃(v:Value)(f:Nat→List V)(n:Nat),cs=[v]∧RV (sg (allB w)) w (.im n (blF f n)) v∧(∀i,i<n→(f i).length=s∧Q (f i))∧n≤9223372036854775807:=by
 rcases DataW.trod_slice ht h with⟨rfl,_⟩|⟨a,len,cap,elems,rest,m,_,rfl,_,_,hl,hmx,hlen,hel,_,_⟩
 ·exact⟨_,fun _=>[],0,rfl,⟨none,0,rfl,Nat.le_refl _,fun h=>absurd rfl h⟩,fun i hi=>absurd hi (Nat.not_lt_zero _),Nat.zero_le _⟩
 ·rw [hce] at hel
  have each: ∀i:Nat,∃l:List V,i<len→(l.length=s∧Q l∧∀j x,l[j]? =some x→∃v,w.cell? ((a.add (i*s)).add j)=some v∧RV (sg (allB w)) w x v):=by
   intro i
   by_cases hi:i<len
   ·have h1 := hel i hi
    rw[List.getElem?_eq_getElem (by omega)]at h1
    obtain⟨cs',hcs,hy⟩:=Option.bind_eq_some_iff.1 h1
    obtain⟨l,k1,k2,k3⟩:=hQ _ _ _ hy
    obtain⟨e1,e2⟩:=RL_get k2
    refine⟨l,fun _=>⟨k1,k3,fun j x hx=>?_⟩⟩
    have hj:j<s:=by rw[←k1];exact(List.getElem?_eq_some_iff.1 hx).1
    have hc:=(World.cells?_some hcs).2.2 j hj
    have hjl:j<cs'.length:=by omega
    rw[List.getElem?_eq_getElem hjl]at hc
    obtain⟨y,y1,y2⟩:=e2 j _ (List.getElem?_eq_getElem hjl)
    rw[hx]at y1
    cases y1
    exact⟨_,hc,y2⟩
   ·exact⟨[],fun h=>absurd h hi⟩
  obtain⟨f,hf⟩:=Classical.axiomOfChoice each
  have hmx':cap≤9223372036854775807:=hmx
  refine⟨_,f,len,rfl,?_,fun i hi=>⟨(hf i hi).1,(hf i hi).2.1⟩,by omega⟩
  refine⟨some a,cap,by simp,hl,fun hn=>?_⟩
  have h0:0<len:=by omega
  obtain⟨k1,_,k3⟩:=hf 0 h0
  obtain⟨x0,hx0⟩: ∃x0,(f 0)[0]? =some x0:=⟨_,List.getElem?_eq_getElem (by omega)⟩
  obtain⟨v0,c0,_⟩:=k3 0 x0 hx0
  obtain⟨h1,h2⟩:=no_spot (by simpa [Addr.add]using c0)
  refine⟨a.block,a.off,by rw[←h1],RC_of h2 fun j x hx=>?_⟩
  obtain⟨q1,q2⟩:=Qnl hs (fun i hi=>(hf i hi).1) hx
  obtain⟨v,c1,c2⟩:=(hf _ q1).2.2 _ _ q2
  refine⟨v,?_,c2⟩
  rw[h1,Qas,Qas,Nat.add_assoc]at c1
  have e:j/s*s+j%s=j:=by rw[Nat.mul_comm];exact Nat.div_add_mod j s
  rw[e]at c1
  exact c1
theorem trod_sl{t e:TypeId}{k:IntKind}{fuel:Nat}{cs:List Value}{x:DataW H×List MemPlace}(ht:Pg.underlying t=some (.slice e))(he:Pg.underlying e=some (.int k))(hc:Pg.cellsOf e=1)
  (h:DataW.trod enc Pg w 0 (fun _=>true) true fuel t cs=some x): ∃(v:Value)(L:List Int),cs=[v]∧RV (sg (allB w)) w (.im L.length (L.map (V.int k))) v∧(∀n∈L,(Lit.int k n).wf=true)∧L.length≤9223372036854775807:=by
 obtain⟨v,f,n,rfl,h1,h2,h3⟩:=Qf5 (s:=1) (by omega) ht hc (fun l=>∃m,l=[.int k m]∧(Lit.int k m).wf=true) (fun fuel cs x hx=>by
  obtain⟨m,rfl,hw⟩:=Qqh he hx
  exact⟨[.int k m],rfl,⟨_,_,rfl,rfl,rfl⟩,m,rfl,hw⟩) h
 have: ∀i:Nat,∃m:Int,i<n→f i=[.int k m]∧(Lit.int k m).wf=true:=fun i=>by
  by_cases hi:i<n
  ·obtain ⟨m, e1, e2⟩ := (h2 i hi).2
   exact⟨m,fun _=>⟨e1,e2⟩⟩
  ·exact⟨0,fun h=>absurd h hi⟩
 obtain⟨g,hg⟩:=Classical.axiomOfChoice this
 have e:blF f n=((List.range n).map g).map (V.int k):=by
  have: ∀m,m≤n→blF f m=((List.range m).map g).map (V.int k):=by
   intro m
   induction m with
   |zero=>intro _;rfl
   |succ m ih=>intro hm;rw[Qcw,ih (by omega),(hg m (by omega)).1,List.range_succ,List.map_append,List.map_append];rfl
  exact this n (Nat.le_refl _)
 refine⟨v,(List.range n).map g,rfl,by rw[←e];simpa using h1,fun m hm=>?_,by simpa using h3⟩
 obtain⟨i,hi,rfl⟩:=List.mem_map.1 hm
 exact(hg i (List.mem_range.1 hi)).2
theorem wfu{n:Int}(h:(Lit.int .u64 n).wf=true): ∃k:Nat,n=(k:Int)∧k<18446744073709551616:=by
 simp only[Lit.wf,Bool.and_eq_true,decide_eq_true_eq]at h
 have h2:n≤18446744073709551615:=h.2
 exact⟨n.toNat,(Int.toNat_of_nonneg h.1).symm,by have:=Int.toNat_of_nonneg h.1;omega⟩
theorem wf8n{n:Int}(h:(Lit.int .u8 n).wf=true): ∃k:Nat,n=(k:Int)∧k<256:=by
 have h:=wf8 h
 exact⟨n.toNat,(Int.toNat_of_nonneg h.1).symm,by omega⟩
theorem prT_bl: ∀(g:Nat→Nat×Nat)(n:Nat),blF (fun i=>[w8 ((g i).1:Nat),w8 ((g i).2:Nat)]) n=prT ((List.range n).map g)
 |g,0=>rfl
 | g, n + 1 => by
  have e: ∀l m:List (Nat×Nat),prT (l++m)=prT l++prT m:=by
   intro l m
   induction l with
   |nil=>rfl
   |cons x l ih=>show[_,_]++prT (l++m)=([_,_]++prT l)++prT m;rw[ih];rfl
  rw[Qcw,prT_bl g n,List.range_succ,List.map_append,e];rfl
theorem Qqg{fuel:Nat}{cs:List Value}{x:DataW H×List MemPlace}(h:DataW.trod enc Pg w 0 (fun _=>true) true fuel 22 cs=some x): ∃(v:Value)(L:List Nat),cs=[v]∧RV (sg (allB w)) w (bl L) v∧(∀x∈L,x<256)∧L.length≤9223372036854775807:=by
 obtain⟨v,L,e1,r1,w1,l1⟩:=trod_sl Try.underlying22 Try.underlying5 (by kernel_rfl) h
 have eL:L.map (V.int .u8)=bt (L.map Int.toNat):=by
  unfold bt
  rw[List.map_map]
  refine List.map_congr_left fun z hz=>?_
  have:=wf8 (w1 z hz)
  show V.int .u8 z=V.int .u8 ((z.toNat:Nat):Int)
  rw[Int.toNat_of_nonneg this.1]
 refine⟨v,L.map Int.toNat,e1,?_,fun x hx=>?_,by simpa using l1⟩
 ·show RV _ _ (.im (L.map Int.toNat).length (bt _)) _
  rw[←eL,List.length_map]
  exact r1
 ·obtain ⟨z, hz, rfl⟩ := List.mem_map.1 hx
  have:=wf8 (w1 z hz)
  omega
theorem trod_two{fuel:Nat}{cs:List Value}{x:DataW H×List MemPlace}(h:DataW.trod enc Pg w 0 (fun _=>true) true fuel 70 cs=some x): ∃a b:Nat,cs=[.int .u8 (a:Nat),.int .u8 (b:Nat)]∧a<256∧b<256:=by
 obtain⟨xs,n,_,_,hl,hlen,hfd⟩:=DataW.trod_array Try.underlying70 h
 have hc:Pg.cellsOf 70=2:=by kernel_rfl
 have h5:Pg.cellsOf 5=1:=by kernel_rfl
 rw[hc]at hl
 obtain⟨c0,c1,rfl⟩: ∃c0 c1,cs=[c0,c1]:=by
  match cs,hl with
  |[c0,c1],_=>exact⟨c0,c1,rfl⟩
 obtain⟨y0,y1,rfl⟩: ∃y0 y1,xs=[y0,y1]:=by
  match xs,hlen with
  |[y0,y1],_=>exact⟨y0,y1,rfl⟩
 have f0:=hfd 0 (by omega)
 have f1:=hfd 1 (by omega)
 rw[h5]at f0 f1
 obtain⟨k0,e0,w0⟩:=Qqh Try.underlying5 (x:=y0) f0
 obtain⟨k1,e1,w1⟩:=Qqh Try.underlying5 (x:=y1) f1
 simp at e0 e1
 obtain⟨a,rfl,ha⟩:=wf8n w0
 obtain⟨b,rfl,hb⟩:=wf8n w1
 subst e0 e1
 exact⟨a,b,rfl,ha,hb⟩
theorem trod_prs{fuel:Nat}{cs:List Value}{x:DataW H×List MemPlace}(h:DataW.trod enc Pg w 0 (fun _=>true) true fuel 25 cs=some x): ∃(v:Value)(pr:List (Nat×Nat)),cs=[v]∧RV (sg (allB w)) w (.im pr.length (prT pr)) v∧(∀x∈pr,x.1<256∧x.2<256)∧pr.length≤9223372036854775807:=by
 obtain⟨v,f,n,rfl,h1,h2,h3⟩:=Qf5 (s:=2) (by omega) Try.underlying25 (by kernel_rfl) (fun l=>∃q:Nat×Nat,l=[w8 (q.1:Nat),w8 (q.2:Nat)]∧q.1<256∧q.2<256) (fun fuel cs x hx=>by
  obtain⟨a,b,rfl,ha,hb⟩:=trod_two hx
  exact⟨[w8 (a:Nat),w8 (b:Nat)],rfl,⟨_,_,rfl,rfl,_,_,rfl,rfl,rfl⟩,(a,b),rfl,ha,hb⟩) h
 have: ∀i:Nat,∃q:Nat×Nat,i<n→f i=[w8 (q.1:Nat),w8 (q.2:Nat)]∧q.1<256∧q.2<256:=fun i=>by
  by_cases hi:i<n
  ·obtain ⟨q, hq⟩ := (h2 i hi).2
   exact⟨q,fun _=>hq⟩
  ·exact⟨(0,0),fun h=>absurd h hi⟩
 obtain⟨g,hg⟩:=Classical.axiomOfChoice this
 refine⟨v,(List.range n).map g,rfl,?_,fun x hx=>?_,by simpa using h3⟩
 ·rw [← prT_bl, ← Qil (f := f) (fun i hi => (hg i hi).1)]
  simpa using h1
 ·obtain ⟨i, hi, rfl⟩ := List.mem_map.1 hx
  exact(hg i (List.mem_range.1 hi)).2
theorem trod_dr7{fuel:Nat}{cs:List Value}{x:DataW H×List MemPlace}(h:DataW.trod enc Pg w 0 (fun _=>true) true fuel 24 cs=some x): ∃P Q:List Nat,RL (sg (allB w)) w [bl P,bl Q] cs∧(∀x∈P,x<256)∧(∀x∈Q,x<256):=by
 obtain⟨xs,n,_,_,hl,hlen,hfd⟩:=DataW.trod_struct Try.underlying24 h
 have hc:Pg.cellsOf 24=2:=by kernel_rfl
 rw[hc]at hl
 obtain⟨c0,c1,rfl⟩: ∃c0 c1,cs=[c0,c1]:=by
  match cs,hl with
  |[c0,c1],_=>exact⟨c0,c1,rfl⟩
 have hlen':xs.length=2:=hlen
 obtain⟨y0,y1,rfl⟩: ∃y0 y1,xs=[y0,y1]:=by
  match xs,hlen' with
  |[y0,y1],_=>exact⟨y0,y1,rfl⟩
 have h1:Pg.cellsOf 22=1:=by kernel_rfl
 have f0:DataW.trod enc Pg w 0 (fun _=>true) true n 22 (List.take (Pg.cellsOf 22) (List.drop 0 [c0,c1]))=some y0:=hfd 0 _ rfl
 have f1:DataW.trod enc Pg w 0 (fun _=>true) true n 22 (List.take (Pg.cellsOf 22) (List.drop 1 [c0,c1]))=some y1:=hfd 1 _ rfl
 rw[h1]at f0 f1
 obtain⟨v0,P,e0,r0,w0,_⟩:=Qqg f0
 obtain⟨v1,Q,e1,r1,w1,_⟩:=Qqg f1
 simp at e0 e1
 subst e0 e1
 exact⟨P,Q,⟨_,_,rfl,r0,_,_,rfl,r1,rfl⟩,w0,w1⟩
theorem Qnf{v:Value}{d:DataW H}{p:List MemPlace}(hv: ∃cs,v= .agg cs∧cs.size=Pg.cellsOf 27)(h:DataW.Trod enc Pg w 0 (fun _=>true) true 27 v d p):
  ∃(P Q:List Nat)(pr:List (Nat×Nat)),RV (sg (allB w)) w (.agg [bl P,bl Q,.im pr.length (prT pr)]) v∧(∀x∈P,x<256)∧(∀x∈Q,x<256)∧∀x∈pr,x.1<256∧x.2<256:=by
 obtain⟨arr,rfl,hsz⟩:=hv
 obtain⟨fuel,hf⟩:=h
 obtain⟨xs,n,_,_,hl,hlen,hfd⟩:=DataW.trod_struct Try.underlying27 hf
 have hc:Pg.cellsOf 27=3:=by kernel_rfl
 rw[hc]at hl
 have hcells:(Value.agg arr).cells.toList=arr.toList:=rfl
 rw[hcells]at hl hfd
 obtain⟨c0,c1,c2,harr⟩: ∃c0 c1 c2,arr.toList=[c0,c1,c2]:=by
  match arr.toList,hl with
  |[c0,c1,c2],_=>exact⟨c0,c1,c2,rfl⟩
 have hlen':xs.length=2:=hlen
 obtain⟨y0,y1,rfl⟩: ∃y0 y1,xs=[y0,y1]:=by
  match xs,hlen' with
  |[y0,y1],_=>exact⟨y0,y1,rfl⟩
 have h1:Pg.cellsOf 25=1:=by kernel_rfl
 have h2:Pg.cellsOf 24=2:=by kernel_rfl
 have f0:DataW.trod enc Pg w 0 (fun _=>true) true n 24 (List.take (Pg.cellsOf 24) (List.drop 0 arr.toList))=some y0:=hfd 0 _ rfl
 have f1:DataW.trod enc Pg w 0 (fun _=>true) true n 25 (List.take (Pg.cellsOf 25) (List.drop 2 arr.toList))=some y1:=hfd 1 _ rfl
 rw[harr]at f0 f1
 rw[h2]at f0
 rw[h1]at f1
 obtain⟨P,Q,⟨u0,us0,q0,r0,u1,us1,q1,r1,q2⟩,w0,w1⟩:=trod_dr7 (x:=y0) f0
 obtain⟨v2,pr,e2,r2,w2,_⟩:=trod_prs (x:=y1) f1
 simp at q0 e2
 obtain⟨rfl,rfl⟩:=q0
 simp at q1
 obtain⟨rfl,rfl⟩:=q1
 subst e2
 refine⟨P,Q,pr,⟨arr,rfl,?_⟩,w0,w1,w2⟩
 rw[harr]
 exact⟨_,_,rfl,r0,_,_,rfl,r1,_,_,rfl,r2,rfl⟩
end
theorem Qo4{f:Nat}{ars:List V}{b:Bool}(h:FnOk Pg g0 f ars (.bool b))(hf:(codeOf Pg f).isSome=true){w:World}{vals:Array Value}(ha:RL (sg (allB w)) w ars vals.toList):Calls Pg f vals w fun e w'=>e= .returned (.bool b)∧Below w.heap.size w w':=by
 obtain⟨fi,hfi⟩:=Option.isSome_iff_exists.1 hf
 obtain⟨next,e1,e2,e3⟩:=h.1 (sg (allB w)) w (.func (.func f) #[] #[]) vals ⟨#[],rfl,rfl⟩ ha (Qmo (fun b hb=>hb.elim id False.elim)) no_gl (fun _ _ h=>h)
 have hn:next= .enter f vals:=by
  have:=(vE_ok.code f fi hfi)
  obtain⟨fn,f1,f2,f3,f4,f5⟩:=this
  have:=f5 vals w
  simp[Deferred.ofValue,invoke,this]at e1
  exact e1.symm
 subst hn
 refine(callsIn_wide.1 e2).mono ?_
 rintro e w' ⟨u,s',rfl,g1,g2,g3,_⟩
 obtain rfl:u= .bool b:=g1
 exact⟨rfl,g3.mod.os,g3.mod.tape,g3.mod.output,g3.mod.size,fun k hk=>g3.mod.block k hk (fun⟨_,hm,_⟩=>by cases hm)⟩
variable {P:Program}
inductive Chain(P:Program)(E:Env)(gl:T (List V))(res:List ResultVar)(nx:Nat)(Z:V→T O→Nat→List Nat→Prop):(St→Prop)→Code→Prop
 |more {R R':St→Prop} {c2 X:Code} (h: ∀st,R st→Sat P none nx c2 st (fun e st'=>(e= .normal∧st'.tm.gl=gl∧R' st')∨(e= .ret∧∃v,retV E.G st'.tm st'.H res=some v∧Z v st'.H st'.nx st'.lg))) (k:Chain P E gl res nx Z R' X):Chain P E gl res nx Z R (.seq c2 X)
 |last {R:St→Prop} {id:Nat} {ops:Array Oper} {rest:Code} (h: ∀st,R st→∃(st3:St)(g:Nat)(dcaps dars:List V)(call:Qak)(i:Nat)(o:Oper)(c:Call)(fo:Operand)(fg:FI),Qa1 P gl call∧seqR E call ops (ops.toList.take i) st=some st3∧ops[i]? =some o∧wantedV st3.tm ops o=some true∧o.op= .defer c∧c.callee= .value fo∧ev st3.tm fo=some (.fn g dcaps)∧evs st3.tm c.args.toList=some dars∧i+1=ops.size∧o.dst=none∧E.code g=some fg∧st3.tm.gl=gl∧
Sat P none st3.nx rest ⟨st3.tm,st3.H,st3.nx,[]⟩ (fun e st4=>Qm5 P E gl g dcaps dars res (fun v H' nx' lg'=>Z v H' nx' (lg'++st3.lg)) e st4)):Chain P E gl res nx Z R (.seq (.region id ops false) rest)
theorem CallSpec.guardC {E : Env} (hE : E.Ok P) {gl : T (List V)} {f : Nat} {caps ars : List V} {H : T O} {nx : Nat} {r : CR} {fi : FI} (hfi : E.code f = some fi) (hle : Nat.ble (ars ++ caps).length fi.ntmps = true) (hlog : Log H.get nx r.H.get r.nx r.lg)
  {Z:V→T O→Nat→List Nat→Prop}
  (hZ: ∀v H' nx' lg',Z v H' nx' lg'→∀(s:Sig)(w:World)(ee:Ending)(w':World),RH s w H.get→(∀i,nx≤i→¬s.dom i)→CPost s w nx ⟨v,H',nx',lg'⟩ ee w'→CPost s w nx r ee w')
  (hch:Chain P E gl fi.res nx Z (fun st=>st=⟨⟨putAll (blank fi.ntmps) 0 (ars++caps),gl,fi.ntmps⟩,H,nx,[]⟩) fi.body):CallSpec P gl (.fn f caps) ars H nx r:=by
 refine⟨fun s w fv vals hc hargs hH hgl hn=>?_,hlog⟩
 obtain⟨vs,rfl,hcaps⟩:=hc
 have hrun: ∀x:Result Next,(callFunc f (vals++vs)).run P w=x→((do let d←Deferred.ofValue (.func (.func f) #[] vs) vals;invoke d.target d.args):Sem Next).run P w=x:=by
  intro x hx;simp[Deferred.ofValue,invoke,hx]
 obtain⟨fn,f1,f2,f3,f4,f5⟩:=hE.code f fi hfi
 refine⟨_,hrun _ (f5 _ w),?_,fun _=>⟨_,_,rfl⟩⟩
 have A0:=Qcl hE hfi hle hcaps hargs hH hgl hn []
 refine callsIn_of_wp_marks (F:=Fence.wide) (n:=4) f1 f2 trivial (Qa6 (n:=5) (l:=none) ?_)
 rw[f3]
 -- a frame that leaves with marks alone
 have leave: ∀(Ds:List Nat)(tm:TM)(H':T O)(nx':Nat)(lg':List Nat)(s':Sig)(w':World)(a':Act)(v:V),a'.defers=Ds.map Qbj→Ds.Nodup→(∀D∈Ds,DOk w.heap.size s' w' D)→RH s' w' H'.get→RT s' w' tm a'.tmps→Step s w s' w' lg'→(∀i,s'.dom i↔s.dom i∨nx≤i∧i<nx')→nx≤nx'→
   retV E.G tm H' fi.res=some v→Z v H' nx' lg'→∀Ds':List Nat,Ds'.Nodup→(∀D∈Ds',D∈Ds)→LeavesInM Fence.wide 4 P fn a'.tmps (CPost s w nx r) (Ds'.map Qbj++[]) .returning w':=by
  intro Ds tm H' nx' lg' s' w' a' v hd hnd hdk hH' hT hs hdom hnx hret hz Ds' hnd' hsub
  refine Qa2 (F:=Fence.wide) (by simp) Ds' w' hnd' (fun D hD=>(hdk D (hsub D hD)).2.2.1) (fun w'' g1 g2 g3 g4 g5=>?_)
  have A:Ats ⟨w.heap.size,[],[]⟩ s w nx ⟨tm,H',nx',lg'⟩ s' w' {a' with defers:=Ds.map Qbj}:=⟨⟨hH',hT,fun i hi hdm=>by
   rcases(hdom i).1 hdm with h|h
   ·exact hn i (Nat.le_trans hnx hi) h
   ·dsimp only at hi;omega,Ds,by simp,by simpa using hnd,by simpa using hdk⟩,hs,hdom,hnx⟩
  obtain⟨k1,k2,k3⟩:=A.unmarked (Ds:=Ds') (Nat.le_refl _) (fun D hD=>hdk D (hsub D hD)) g1 g2 g3 g4 g5 hH.old
  rw[←f4]at hret
  obtain⟨u,v1,v2⟩:=Qdw (P:=P) hE.G k1 (hT.mono (Sig.Le.refl s') k3) rfl hret
  exact⟨u,v2,hZ _ _ _ _ hz s w _ _ hH hn ⟨u,s',rfl,v1,k1,k2,hdom,hnx⟩⟩
 have main : ∀ (R : St → Prop) (X : Code), Chain P E gl fi.res nx Z R X → ∀ st2, R st2 → st2.tm.gl = gl → ∀ (s2 : Sig) (w2 : World) (a2 : Act), Ats ⟨w.heap.size, [], []⟩ s w nx st2 s2 w2 a2 → X.wpIn (FF none) 5 P (bodyPostM Fence.wide 4 P fn (CPost s w nx r)) a2 w2 := by
  intro R X hch
  induction hch with
  | @more R R' c2 X h k ih =>
   intro st1 hr1 hg1 s1 w1 a1 A1
   refine wpIn_seq (h st1 hr1 _ s w s1 w1 a1 hn (Nat.le_refl _) (fun h e=>by cases e) A1 _ ?_)
   rintro e st2 (⟨rfl,hg2,hr2⟩|⟨rfl,v,hret,hz⟩) s2 w2 a2 A2
   ·exact ih st2 hr2 hg2 s2 w2 a2 A2
   ·skip
    obtain⟨Ds,d1,d2,d3⟩:=A2.rel.df
    have d2:=(List.nodup_append.1 d2).1
    have d3:=fun D(hD:D∈Ds)=>d3 D (List.mem_append.2 (.inl hD))
    show LeavesInM Fence.wide 4 P fn a2.tmps (CPost s w nx r) a2.defers .returning w2
    rw[d1]
    have:=leave Ds st2.tm st2.H st2.nx st2.lg s2 w2 {a2 with defers:=Ds.map Qbj} v rfl d2 d3 A2.rel.rh A2.rel.rt A2.step A2.dom A2.le hret hz Ds d2 (fun D hD=>hD)
    exact this
  | @last R id ops rest h =>
   intro st2 hr2 hg2 s2 w2 a2 A2
   obtain⟨st3,g,dcaps,dars,call,i,o,c,fo,fg,q1,q2,q3,q4,q5,q6,q7,q8,q9,q10,q11,q12,q13⟩:=h st2 hr2
   refine wpIn_seq ?_
   refine wpIn_region ?_
   have hlen:(ops.toList.take i).length=i:=by rw[List.length_take,Array.length_toList];omega
   have hsp:List.range ops.size=List.range' 0 (ops.toList.take i).length++[i]:=by
    rw[hlen,List.range_eq_range',←q9,List.range'_1_concat];simp
   rw[hsp]
   refine Qd2 _ _ _ ?_
   refine Qej hE.G hE.ext (gl:=gl) q1 (l:=none) (ops.toList.take i) 0 st2 st3 s2 w2 a2 (fun j hj=>?_) q2 hg2 A2.rel ?_
   ·rw [hlen] at hj
    rw[List.getElem?_take_of_lt hj,Array.getElem?_toList,Nat.zero_add]
   ·rintro a3 w3 ⟨lg3, s3, W3⟩
    have A3:=A2.went W3
    show wpOpsIn _ _ _ _ _ _ _ _
    rw[wpOpsIn_cons]
    unfold wpOpIn
    rw[q3]
    dsimp only
    rw[if_pos (Qam A3.rel.rt q4)]
    refine Qk1 (l:=none) rfl q5 q6 A3.rel.rt q7 q8 (fun dvs dvals hdc hda=>?_)
    obtain⟨Ds0,d1,d2,d3⟩:=A3.rel.df
    have d2:=(List.nodup_append.1 d2).1
    have d3:=fun D(hD:D∈Ds0)=>d3 D (List.mem_append.2 (.inl hD))
    rw[List.append_nil]at d1
    have hnx3:=A3.rel.nx
    -- the rest, in a frame of its own reckoning
    have A3':Ats ⟨w3.heap.size,{target:=.fn (.func g) dvs,args:=dvals}::Ds0.map Qbj,[]⟩ s3 w3 st3.nx ⟨st3.tm,st3.H,st3.nx,[]⟩ s3 w3 ({a3 with defers:={target:=.fn (.func g) dvs,args:=dvals}::a3.defers}.put o.dst undef):=by
     rw[q10]
     exact⟨⟨A3.rel.rh,A3.rel.rt,hnx3,[],by show _::a3.defers=_;rw[d1];rfl,List.nodup_nil,fun D hD=>by simp at hD⟩,Step.refl s3 w3 [],dom_same s3 _,Nat.le_refl _⟩
    show wpOpsIn (FF none) 5 P ops _ [] _ w3
    show Code.wpIn _ _ _ _ _ _ _
    refine q13 _ s3 w3 s3 w3 _ hnx3 (Nat.le_refl _) (fun h e=>by cases e) A3' _ ?_
    rintro e st4 ⟨pan,r4,hpan,hdef,v,hret,hz⟩ s4 w4 a4 A4
    -- the frame leaves: its own marks, the closure, the marks ahead of it
    have key : ∀ (u : Value), (∀ x, pan = some x → ∀ s2 w2, RV s2 w2 x u) → LeavesInM Fence.wide 4 P fn a4.tmps (CPost s w nx r) a4.defers (defMode pan false u) w4 := by
     intro u hu
     obtain⟨Ds4,e1,e2,e3⟩:=A4.rel.df
     have e2:=(List.nodup_append.1 e2).1
     have e3:=fun D(hD:D∈Ds4)=>e3 D (List.mem_append.2 (.inl hD))
     rw[e1]
     refine Qa2 (F:=Fence.wide) (Qcz _ _ _) Ds4 w4 e2 (fun D hD=>(e3 D hD).2.2.1) (fun w5 g1 g2 g3 g4 g5=>?_)
     obtain⟨k1,k2,k3⟩:=A4.unmarked (Ds:=Ds4) (Nat.le_refl _) e3 g1 g2 g3 g4 g5 A3.rel.rh.old
     have hgl4:GL s4 w5 gl:=by
      have:RT s4 w5 st3.tm a3.tmps:=A3.rel.rt.mono k2.le k2.k
      rw[←q12];exact this.2.2
     obtain⟨fng,y1,y2,y3,y4,y5⟩:=hE.code g fg q11
     have hcl:=hdef s4 w5 dvs dvals u (RL.mono k2.le k2.k _ _ hdc) (RL.mono k2.le k2.k _ _ hda) k1 hgl4 A4.rel.nx hu
     refine⟨Qcz _ _ _,.inr ⟨fun h=>(by cases h),.func g,dvs,g,dvals++dvs,rfl,by simp[invoke,y5],fun _ _=>trivial,hcl.mono ?_⟩⟩
     rintro ee u' w6 ⟨⟨uu,s6,rfl,_,z2,z3,z4,z5⟩,rfl⟩
     show LeavesInM Fence.wide 4 P fn a4.tmps (CPost s w nx r) (Ds0.map Qbj) (settle (defMode pan true u)) w6
     rw[Qg2]
     have hs36:Step s3 w3 s6 w6 (r4.lg++st4.lg):=(k2.trans z3).more (fun x hx=>by rw[List.mem_append]at hx⊢;exact hx.symm)
     have hdom6: ∀i,s6.dom i↔s.dom i∨nx≤i∧i<r4.nx:=fun i=>by
      rw[z4,A4.dom,A3.dom]
      have b1:=A3.le
      have b2:=A4.le
      constructor
      ·rintro ((h | h) | h)
       ·exact h.imp (fun h=>h) (fun h=>⟨h.1,by omega⟩)
       ·exact .inr ⟨by omega,by omega⟩
       ·exact .inr ⟨by omega,h.2⟩
      ·rintro (h | h)
       ·exact .inl (.inl (.inl h))
       ·by_cases h3 : i < st3.nx
        ·exact .inl (.inl (.inr ⟨h.1,h3⟩))
        ·by_cases h4 : i < st4.nx
         ·exact .inl (.inr ⟨by omega,h4⟩)
         ·exact .inr ⟨by omega,h.2⟩
     have:=leave Ds0 st4.tm r4.H r4.nx (r4.lg++st4.lg++st3.lg) s6 w6 {a4 with defers:=Ds0.map Qbj} v rfl d2 (fun D hD=>(d3 D hD).step hs36) z2 (A4.rel.rt.mono (Sig.Le.refl s4) k3 |>.mono z3.le z3.k) ((A3.step.trans hs36).more (fun x hx=>by simp only[List.mem_append]at hx⊢;rcases hx with h|h|h<;>simp[h])) hdom6 (Nat.le_trans A3.le (Nat.le_trans A4.le z5)) hret hz Ds0 d2 (fun D hD=>hD)
     rw[List.append_nil]at this
     exact this
    rcases hpan with⟨rfl|rfl,rfl⟩|⟨x,rfl,rfl⟩
    ·exact key .nilIface (fun x e=>by cases e)
    ·exact key .nilIface (fun x e=>by cases e)
    ·exact fun u hu=>key u (fun x' e=>by cases e;exact hu)
 exact main _ _ hch _ rfl rfl _ _ _ A0
set_option maxHeartbeats 1000000
set_option maxRecDepth 100000
theorem Sat.of_exec{n nx0:Nat}{c:Code}{st st':St}{e:Ex}(he:e= .normal∨e= .ret)(h:exec vE n none c st=some [(e,st')]){R:Ex→St→Prop}(hR:R e st'):Sat Pg none nx0 c st R:=by
 intro B s0 w0 s w a hn hB hrd A Q hQ
 have hB':B.n≤w.heap.size:=Nat.le_trans hB A.step.mod.size
 refine(Qgr vE_ok Qaf n).one none c st st' e s w a B h A.rel hB' (fun h e=>by cases e) Q (fun a' w'⟨lg,s',W⟩=>?_)
 have h1:=hQ e st' hR s' w' a' (A.went W)
 rcases he with rfl|rfl<;>exact h1
noncomputable def gPre(n:Nat):Nat→Code→St→Option (St×Array Oper×Code)
 |0,X,st=>match X with
  | .seq (.region _ ops false) rest=>some (st,ops,rest)
  | _=>none
 | k + 1, X, st => match X with
  | .seq c Y => match exec vE n none c st with
   |some [(.normal,st')]=>match st'.tm.gl with
    | .e=>gPre n k Y st'
    | _=>none
   | _=>none
  | _=>none
noncomputable def gEnd(n f g:Nat)(res:List ResultVar):Option (St×Array Oper×Code)→Option V
 | some (st, ops, rest) => match seqR vE (tbl []) ops (ops.toList.take 1) st, ops[1]? with
  | some st3, some o => match wantedV st3.tm ops o, o.op, st3.tm.gl with
   | some true, .defer c, .e => match c.callee, c.args.toList, o.dst with
    | .value fo, [], none => match ev st3.tm fo with
     |some (.fn g' [.ptr a 0,.ptr b 0])=>bif Nat.beq g' g&&Nat.beq ops.size 2&&Nat.beq a 2&&Nat.beq b 3 then(match exec vE n none rest ⟨st3.tm,st3.H,st3.nx,[]⟩with
      |some [(.ret,st4)]=>retV vE.G st4.tm st4.H res
      | _=>none)else none
     | _=>none
    | _,_,_=>none
   | _,_,_=>none
  | _,_=>none
 |none=>none
noncomputable def gRun(n k f g:Nat)(ars:List V)(res:List ResultVar):Option V:=match vE.code f with
 |some fi=>gEnd n f g res (gPre n k fi.body ⟨⟨putAll (blank fi.ntmps) 0 (ars++[]),g0,fi.ntmps⟩,.e,0,[]⟩)
 |none=>none
noncomputable def df2:Array Oper:=rgOps (at' 29 [0])
theorem Qk2: ∃fg,vE.code 29=some fg∧fg.body= .seq (at' 29 [0]) (at' 29 [1])∧fg.ntmps=17∧fg.res=[]:=by
 have e1:(vE.code 29).map (·.body)=some (.seq (at' 29 [0]) (at' 29 [1])):=by kernel_rfl
 have e2:(vE.code 29).map (·.ntmps)=some 17:=by kernel_rfl
 have e3:(vE.code 29).map (·.res)=some []:=by kernel_rfl
 cases hfi:vE.code 29 with
 |none=>rw[hfi]at e1;cases e1
 |some fi=>
  rw[hfi]at e1 e2 e3
  exact⟨fi,rfl,Option.some.inj e1,Option.some.inj e2,Option.some.inj e3⟩
theorem df2_eq:at' 29 [0]= .region (rgId (at' 29 [0])) df2 false:=by kernel_rfl
abbrev dc2:List V:=[.ptr 2 0,.ptr 3 0]
noncomputable abbrev df2T(x:V):TM:=((⟨putAll (blank 17) 0 dc2,g0,17⟩:TM).put (some 5) x).put (some 2) x
theorem df2_none(H:T O)(nx:Nat):DefSpec Pg g0 29 dc2 [] H nx none ⟨.tup [],H,nx,[]⟩:=by
 obtain⟨fg,h1,h2,h3,h4⟩:=Qk2
 refine DefSpec.of vE_ok (os:=[df2.getD 1 default]) (o:=df2.getD 0 default) (tm1:=df2T .nili) h1 (by rw[h3];rfl) (by rw[h2,df2_eq]) (by kernel_rfl) (by kernel_rfl) (c:=_) rfl rfl (by rw[h3];kernel_rfl) ?_
 rw[h4]
 have hv:vc Pg vE sp0 none nx 1000 (at' 29 [1]) [] (mkSo g0 17 [(2,.nili)] H nx []) (Qem H nx []):=by
  refine Eq.mp (by kernel_rfl:(An [H=H,nx=nx,([]:List Nat)=[]])=_) ?_
  (repeat'(first|(with_reducible apply And.intro)|(refine fun(_:True)=>?_)))
  all_goals first|rfl|exact trivial|skip
 refine Sat.fewer (sl:=[(2,.nili)]) ⟨rfl,trivial⟩ ?_
 refine Sat.of_vc vE_ok Qaf Qab rfl hv fun e hs' st' hgl hk=>?_
 unfold Qem at hk
 split at hk
 ·exact⟨.inl rfl,rfl,hk.1,hk.2.1,hk.2.2⟩
 ·exact hk.elim
theorem Qhp {n k f : Nat} {ars : List V} {res : List ResultVar} {v : V} (hv : Hf v) (hb : ∀ fi, vE.code f = some fi → fi.res = res ∧ Nat.ble ars.length fi.ntmps = true) (h : gRun n k f 29 ars res = some v) : FnOk Pg g0 f ars v := by
 unfold gRun at h
 split at h
 ·rename_i fi hfi
  obtain⟨hr,hn⟩:=hb fi hfi
  refine CallSpec.guardC vE_ok hfi (by rw[List.append_nil];exact hn) (Log.refl _ _ _) (Z:=fun u _ _ _=>u=v) ?_ ?_
  ·rintro u H' nx' lg' rfl s w ee w' hH hn ⟨x, s', h1, g1, g2, g3, _, _⟩
   subst h1
   obtain⟨s'',q1,q2,q3,q4⟩:=Qbc hH g1 hv g3 (fun h _=>hn h (Nat.zero_le _)) (fun b hb=>g2.old b (.inl hb))
   exact⟨x,s'',rfl,q1,q2,q3,fun i=>by rw[q4];exact dom_same s _ i,Nat.le_refl _⟩
  ·have key : ∀ (k : Nat) (X : Code) (st : St), gEnd n f 29 res (gPre n k X st) = some v → Chain Pg vE g0 fi.res 0 (fun u _ _ _ => u = v) (fun st' => st' = st) X := by
    intro k
    induction k with
    | zero =>
     intro X st h
     unfold gPre at h
     split at h
     ·rename_i id ops rest
      refine Chain.last fun st' e=>?_
      subst e
      unfold gEnd at h
      dsimp only at h
      split at h
      ·rename_i st3 o e1 e2
       split at h
       ·rename_i c e3 e4 e5
        split at h
        ·rename_i fo e6 e7 e8
         split at h
         ·rename_i g' a b e9
          obtain⟨hb1,h⟩:=Qag h
          simp only[Bool.and_eq_true]at hb1
          obtain⟨⟨⟨b1,b2⟩,b3⟩,b4⟩:=hb1
          have b1:=Nat.eq_of_beq_eq_true b1
          have b2:=Nat.eq_of_beq_eq_true b2
          have b3:=Nat.eq_of_beq_eq_true b3
          have b4:=Nat.eq_of_beq_eq_true b4
          subst b1 b3 b4
          split at h
          ·rename_i st4 e10
           obtain⟨fg,hg1,_⟩:=Qk2
           refine⟨st3,_,dc2,[],tbl [],1,o,c,fo,fg,TblOk.nil.call,e1,e2,e3,e4,e6,e9,by rw[e7];rfl,by rw[b2],e8,hg1,e5,?_⟩
           exact Sat.of_exec (.inr rfl) e10 ⟨none,⟨.tup [],st4.H,st4.nx,[]⟩,.inl ⟨.inr rfl,rfl⟩,df2_none _ _,v,by rw[hr];rw[b2]at h;exact h,rfl⟩
          ·rw[b2]at h;cases h
         ·cases h
        ·cases h
       ·cases h
      ·cases h
     ·cases h
    | succ k ih =>
     intro X st h
     unfold gPre at h
     split at h
     ·rename_i c Y
      split at h
      ·rename_i st' e1
       split at h
       ·rename_i e2
        refine Chain.more (R':=fun s=>s=st') (fun s e=>?_) (ih Y st' h)
        subst e
        exact Sat.of_exec (.inl rfl) e1 (.inl ⟨rfl,e2,rfl⟩)
       ·cases h
      ·cases h
     ·cases h
   exact key k _ _ h
 ·cases h
abbrev evR:List ResultVar:=[.cell 6 49,.cell 7 33]
theorem Qhm: ∀fi,vE.code 12=some fi→fi.res=evR∧Nat.ble 3 fi.ntmps=true:=by
 have e2:(vE.code 12).map (fun fi=>Nat.ble 3 fi.ntmps)=some true:=by kernel_rfl
 have e3:(vE.code 12).map (·.res)=some evR:=by kernel_rfl
 intro fi hfi
 rw[hfi]at e2 e3
 exact⟨Option.some.inj e3,Option.some.inj e2⟩
abbrev faV:V:=.agg [il [0,1],il [2,2],il [3,1,1,3]]
abbrev qV(a b:Int)(e:Nat):V:=.tup [.agg [i6 a,i6 b],i6 (e:Nat)]
theorem ev_1:FnOk Pg g0 12 [faV,esV (.mk 1 1 []),il [0,0]] (qV 1 2 0):=
 Qhp (n:=100000) (k:=9) (res:=evR) ⟨⟨trivial,trivial,trivial⟩,trivial,trivial⟩ Qhm (by kernel_rfl)
theorem ev_2:FnOk Pg g0 12 [faV,esV (.mk 4 0 [.mk 1 3 [],.mk 1 1 []]),il [0,1]] (qV 1 4 0):=
 Qhp (n:=100000) (k:=9) (res:=evR) ⟨⟨trivial,trivial,trivial⟩,trivial,trivial⟩ Qhm (by kernel_rfl)
theorem ev_3:FnOk Pg g0 12 [faV,esV (.mk 2 2 [.mk 1 2 []]),il [0,0]] (qV 1 1 0):=
 Qhp (n:=100000) (k:=9) (res:=evR) ⟨⟨trivial,trivial,trivial⟩,trivial,trivial⟩ Qhm (by kernel_rfl)
theorem ev_4:FnOk Pg g0 12 [faV,esV (.mk 3 0 []),il [0,0]] (qV 1 1 0):=
 Qhp (n:=100000) (k:=9) (res:=evR) ⟨⟨trivial,trivial,trivial⟩,trivial,trivial⟩ Qhm (by kernel_rfl)
def grB(p j:List Nat)(rk:Nat→Nat):Bool:=
 Nat.ble 1 p.length&&Nat.ble p.length 5&&Nat.beq j.length p.length&&p.all (fun x=>Nat.blt x (2^p.length))&&j.all (fun x=>Nat.blt x (2^p.length))&&
 (List.range p.length).all fun u=>(List.range p.length).all fun v=>(!(p.getD u 0).testBit v||Nat.blt (rk v) (rk u))&&((j.getD u 0).testBit v==(j.getD v 0).testBit u)&& !(j.getD u 0).testBit u
theorem Qor{p j:List Nat}{rk:Nat→Nat}(h:grB p j rk=true):GrOk p j:=by
 unfold grB at h
 simp only[Bool.and_eq_true,List.all_eq_true,List.mem_range]at h
 obtain⟨⟨⟨⟨⟨h1,h2⟩,h3⟩,h4⟩,h5⟩,h6⟩:=h
 have h1:=Nat.le_of_ble_eq_true h1
 have h2:=Nat.le_of_ble_eq_true h2
 have h3:=Nat.eq_of_beq_eq_true h3
 have h4: ∀x∈p,x<2^p.length:=fun x hx=>Nat.le_of_ble_eq_true (h4 x hx)
 have h5: ∀x∈j,x<2^p.length:=fun x hx=>Nat.le_of_ble_eq_true (h5 x hx)
 have hb:2^p.length≤32:=Nat.pow_le_pow_right (n:=2) (by decide) h2
 have hp: ∀k,p.getD k 0<2^p.length:=fun k=>by
  rw[List.getD_eq_getElem?_getD]
  cases hx:p[k]? with
  |none=>exact Nat.pow_pos (by decide)
  |some x=>exact h4 x (List.mem_of_getElem? hx)
 have hj: ∀k,j.getD k 0<2^p.length:=fun k=>by
  rw[List.getD_eq_getElem?_getD]
  cases hx:j[k]? with
  |none=>exact Nat.pow_pos (by decide)
  |some x=>exact h5 x (List.mem_of_getElem? hx)
 have lt: ∀{x v:Nat},x<2^p.length→x.testBit v=true→v<p.length:=fun hx hv=>by
  refine Nat.lt_of_not_le fun hle=>?_
  rw[Nat.testBit_lt_two_pow (Nat.lt_of_lt_of_le hx (Nat.pow_le_pow_right (by decide) hle))]at hv
  cases hv
 refine⟨h1,h2,fun x hx=>by have:=h4 x hx;omega,⟨rk,fun u hu v hv=>?_⟩,fun k _=>Nat.div_eq_of_lt (hp k),h3,fun x hx=>by have:=h5 x hx;omega,fun k _=>Nat.div_eq_of_lt (hj k),fun k hk=>?_,fun k m hk hm=>?_⟩
 ·have hvn := lt (hp u) hv
  refine⟨hvn,?_⟩
  have:=(h6 u hu v hvn).1.1
  rw[hv]at this
  simpa using this
 ·have := (h6 k hk k hk).2
  simpa using this
 ·have := (h6 k hk m hm).1.2
  simpa using this
def askB'(n xs ys:Nat):Bool:=Nat.beq (mi xs (alN n)) 0&&Nat.beq (mi ys (alN n)) 0&&Nat.beq (xs&&& ys) 0&& !(Nat.beq ys 0)&&Nat.blt xs 18446744073709551616&&Nat.blt ys 18446744073709551616
theorem Qeq{n xs ys:Nat}(h:askB' n xs ys=true):Qid n xs ys:=by
 unfold askB' at h
 simp only[Bool.and_eq_true]at h
 obtain⟨⟨⟨⟨⟨h1,h2⟩,h3⟩,h4⟩,h5⟩,h6⟩:=h
 refine⟨Nat.eq_of_beq_eq_true h1,Nat.eq_of_beq_eq_true h2,Nat.eq_of_beq_eq_true h3,fun e=>?_,Nat.le_of_ble_eq_true h5,Nat.le_of_ble_eq_true h6⟩
 subst e;simp at h4
section
variable {p j:List Nat} (g:GrOk p j) {xs ys:Nat} (hq:Qid p.length xs ys) {y:Nat×List Nat} (hy:soW p 5 (0,[])=some y)
include g hq hy
theorem so_sm:(∀z∈y.2,z<64)∧y.2.length≤64:=by
 obtain⟨y',hy',hyo⟩:=Qlq g
 rw[hy]at hy'
 cases hy'
 have h5:=g.l5
 exact⟨fun z hz=>by have:=hyo.2.1 z hz;omega,by have:=Qdt hyo.1 hyo.2.1;omega⟩
theorem ident_ok{F:Nat}{x:Es}(hx:soE p j xs ys y.2 F=some (.inl x)):FnOk Pg g0 18 [ul p,ul j,u6 (xs:Nat),u6 (ys:Nat)] (.tup [esV x,hgV (0,0,0),i6 (0:Nat)]):=by
 obtain⟨h1,h2⟩:=so_sm g hq hy
 have h5:=g.l5
 have hjl:=g.jl
 have hfl:=Qlw g
 exact Qfl p j xs ys (by omega) g.p64 5 (by omega) y hy (Qhc p j g xs ys hq) (Qh6 h2 hfl hx) (Ql1 p j xs ys y.2 hq.x64 hq.y64 h1 h2 (by omega) g.p64 (by omega) g.j64 F x hx hfl)
theorem ident_no{F:Nat}{h:Nat×Nat×Nat}(hx:soE p j xs ys y.2 F=some (.inr h)):FnOk Pg g0 18 [ul p,ul j,u6 (xs:Nat),u6 (ys:Nat)] (.tup [.agg [i6 0,u6 0,.nils],hgV h,i6 (351:Nat)]):=by
 obtain⟨h1,h2⟩:=so_sm g hq hy
 have h5:=g.l5
 have hjl:=g.jl
 have hfl:=Qlw g
 exact Qge p j xs ys (by omega) g.p64 5 (by omega) y hy (Qhc p j g xs ys hq) h (Qp3 p j xs ys y.2 hq.x64 hq.y64 h1 h2 (by omega) g.p64 (by omega) g.j64 F h hx hfl)
theorem Qnx{F:Nat}{x:Es}(hx:soE p j xs ys y.2 F=some (.inl x)):FnOk Pg g0 7 [ul p,ul j,u6 (xs:Nat),u6 (ys:Nat)] (i6 (0:Nat)):=by
 obtain⟨h1,h2⟩:=so_sm g hq hy
 exact Qlj p j xs ys (Qh6 h2 (Qlw g) hx) (ident_ok g hq hy hx)
end
set_option maxHeartbeats 1000000
set_option maxRecDepth 100000
theorem g_a:GrOk [0,1] [2,1]:=Qor (rk:=fun v=>v) (by kernel_rfl)
theorem g_b:GrOk [0,1,2] [4,0,1]:=Qor (rk:=fun v=>v) (by kernel_rfl)
theorem g_c:GrOk [4,5,0] [0,0,0]:=Qor (rk:=fun v=>if v=2 then 0 else v+1) (by kernel_rfl)
theorem w_21:FnOk Pg g0 18 [ul [0,1],ul [2,1],u6 (1:Nat),u6 (2:Nat)] (.tup [.agg [i6 0,u6 0,.nils],hgV (3,2,2),i6 (351:Nat)]):=
 ident_no g_a (Qeq (by kernel_rfl)) (y:=(3,[0,1])) (by kernel_rfl) (F:=3) (by kernel_rfl)
def inlB:Option (Es ⊕ Nat×Nat×Nat)→Bool
 |some (.inl _)=>true
 | _=>false
theorem Qjs: ∀{o:Option (Es ⊕ Nat×Nat×Nat)},inlB o=true→∃x,o=some (.inl x)
 |some (.inl x),_=>⟨x,rfl⟩
theorem w_39:FnOk Pg g0 7 [ul [0,1],ul [2,1],u6 (2:Nat),u6 (1:Nat)] (i6 (0:Nat)):=by
 obtain⟨x,hx⟩:=Qjs (o:=soE [0,1] [2,1] 2 1 [0,1] 3) (by kernel_rfl)
 exact Qnx g_a (Qeq (by kernel_rfl)) (y:=(3,[0,1])) (by kernel_rfl) hx
theorem w_45:FnOk Pg g0 7 [ul [0,1,2],ul [4,0,1],u6 (1:Nat),u6 (4:Nat)] (i6 (0:Nat)):=by
 obtain⟨x,hx⟩:=Qjs (o:=soE [0,1,2] [4,0,1] 1 4 [0,1,2] 4) (by kernel_rfl)
 exact Qnx g_b (Qeq (by kernel_rfl)) (y:=(7,[0,1,2])) (by kernel_rfl) hx
theorem w_51:FnOk Pg g0 7 [ul [4,5,0],ul [0,0,0],u6 (1:Nat),u6 (2:Nat)] (i6 (0:Nat)):=by
 obtain⟨x,hx⟩:=Qjs (o:=soE [4,5,0] [0,0,0] 1 2 [2,0,1] 4) (by kernel_rfl)
 exact Qnx g_c (Qeq (by kernel_rfl)) (y:=(7,[2,0,1])) (by kernel_rfl) hx
theorem asked_2{p j:List Nat}(g:GrOk p j)(xs ys:Nat)(hx:xs<18446744073709551616)(hy:ys<18446744073709551616)(h:(Nat.beq (mi xs (alN p.length)) 0&&Nat.beq (mi ys (alN p.length)) 0&&Nat.beq (xs&&& ys) 0&& !(Nat.beq ys 0))=false):FnOk Pg g0 34 [ul p,ul j,u6 (xs:Nat),u6 (ys:Nat)] (i6 (2:Nat)):=by
 have hp:=Qac p
 have hj:=Qac j
 have h5:=g.l5
 have h1:=Qhg p j g
 have h2:=Qks p j (by omega)
 have s1:=mi_u (G:=Qaa Pg) (t:=28) (x:=xs) (y:=alN p.length) hx (Qgl (by omega))
 have s2:=mi_u (G:=Qaa Pg) (t:=28) (x:=ys) (y:=alN p.length) hy (Qgl (by omega))
 have s3:=Qgb (G:=Qaa Pg) (t:=28) hx hy
 have hbq: ∀a:Nat,a≠0→Nat.beq a 0=false:=fun a h=>by
  cases a with
  |zero=>exact absurd rfl h
  |succ=>rfl
 generalize mi xs (alN p.length)=a at*
 generalize mi ys (alN p.length)=b at*
 generalize xs&&& ys=c at*
 generalize alN p.length=al at*
 by_cases ha:a=0
 ·subst ha
  by_cases hb:b=0
  ·subst hb
   by_cases hc:c=0
   ·subst hc
    have hy0:ys=0:=by
     by_cases hz:ys=0
     ·exact hz
     ·rw[hbq ys hz]at h;cases h
    subst hy0
    refine FnOk.of_vc vE_ok Qaf Qab (n:=1000) (r:=[]) (S:={sl:=[(8,i6 (2:Nat))]}) (hs:=[fn 12 (i6 0),fn 17 (u6 (al:Nat)),va 20 (u6 (0:Nat)),va 25 (u6 (0:Nat)),va 31 (u6 (0:Nat))]) ?_
    clear h
    refine Eq.mp (by kernel_rfl:(let z0:=u6 ↑(0:Nat);let z1:=[V.im p.length (ut p),V.im j.length (ut j)];let z2:=Qaa Try.prog;An [Sm (i6 ↑(2:Nat)),TT 2,FnOk Try.prog g0 20 z1 (i6 0),Tt,An [TT 2,Tt],FnOk Try.prog g0 22 [V.agg z1] (u6 ↑al),Tt,binV z2 BinOp.andNot 28 (u6 ↑xs) (u6 ↑al)=some z0,binV z2 BinOp.andNot 28 z0 (u6 ↑al)=some z0,binV z2 BinOp.and 28 (u6 ↑xs) z0=some z0,An [(↑(2:Nat):Int)=(2:Int),Tt],Tt])=_) ?_
    (repeat'(first|(with_reducible apply And.intro)|(refine fun(_:True)=>?_)))<;>first|exact aq|skip
    all_goals first|exact h1|exact h2|exact s1|exact s2|exact s3|skip
   ·refine FnOk.of_vc vE_ok Qaf Qab (n := 1000) (r := []) (S := { sl := [(8, i6 (2 : Nat))] }) (hs := [fn 12 (i6 0), fn 17 (u6 (al : Nat)), va 20 (u6 (0 : Nat)), va 25 (u6 (0 : Nat)), va 31 (u6 (c : Nat)), yes 32]) ?_
    clear h
    refine Eq.mp (by kernel_rfl:(let z0:=[V.im p.length (ut p),V.im j.length (ut j)];let z1:=Qaa Try.prog;let z2:=some (u6 ↑(0:Nat));An [Sm (i6 ↑(2:Nat)),TT 2,FnOk Try.prog g0 20 z0 (i6 0),Tt,An [TT 2,Tt],FnOk Try.prog g0 22 [V.agg z0] (u6 ↑al),Tt,binV z1 BinOp.andNot 28 (u6 ↑xs) (u6 ↑al)=z2,binV z1 BinOp.andNot 28 (u6 ↑ys) (u6 ↑al)=z2,binV z1 BinOp.and 28 (u6 ↑xs) (u6 ↑ys)=some (u6 ↑c),((↑c:Int) != (0:Int))=true,An [(↑(2:Nat):Int)=(2:Int),Tt],Tt])=_) ?_
    (repeat'(first|(with_reducible apply And.intro)|(refine fun(_:True)=>?_)))<;>first|exact aq|skip
    all_goals first|exact h1|exact h2|exact s1|exact s2|exact s3|(simp;omega)|skip
  ·refine FnOk.of_vc vE_ok Qaf Qab (n := 1000) (r := []) (S := { sl := [(8, i6 (2 : Nat))] }) (hs := [fn 12 (i6 0), fn 17 (u6 (al : Nat)), va 20 (u6 (0 : Nat)), va 25 (u6 (b : Nat)), yes 26]) ?_
   clear h
   refine Eq.mp (by kernel_rfl:(let z0:=[V.im p.length (ut p),V.im j.length (ut j)];An [Sm (i6 ↑(2:Nat)),TT 2,FnOk Try.prog g0 20 z0 (i6 0),Tt,An [TT 2,Tt],FnOk Try.prog g0 22 [V.agg z0] (u6 ↑al),Tt,binV (Qaa Try.prog) BinOp.andNot 28 (u6 ↑xs) (u6 ↑al)=some (u6 ↑(0:Nat)),binV (Qaa Try.prog) BinOp.andNot 28 (u6 ↑ys) (u6 ↑al)=some (u6 ↑b),((↑b:Int) != (0:Int))=true,An [(↑(2:Nat):Int)=(2:Int),Tt],Tt])=_) ?_
   (repeat'(first|(with_reducible apply And.intro)|(refine fun(_:True)=>?_)))<;>first|exact aq|skip
   all_goals first|exact h1|exact h2|exact s1|exact s2|(simp;omega)|skip
 ·refine FnOk.of_vc vE_ok Qaf Qab (n := 1000) (r := []) (S := { sl := [(8, i6 (2 : Nat))] }) (hs := [fn 12 (i6 0), fn 17 (u6 (al : Nat)), va 20 (u6 (a : Nat)), yes 21]) ?_
  clear h
  refine Eq.mp (by kernel_rfl:(let z0:=[V.im p.length (ut p),V.im j.length (ut j)];An [Sm (i6 ↑(2:Nat)),TT 2,FnOk Try.prog g0 20 z0 (i6 0),Tt,An [TT 2,Tt],FnOk Try.prog g0 22 [V.agg z0] (u6 ↑al),Tt,binV (Qaa Try.prog) BinOp.andNot 28 (u6 ↑xs) (u6 ↑al)=some (u6 ↑a),((↑a:Int) != (0:Int))=true,An [(↑(2:Nat):Int)=(2:Int),Tt],Tt])=_) ?_
  (repeat'(first|(with_reducible apply And.intro)|(refine fun(_:True)=>?_)))<;>first|exact aq|skip
  all_goals first|exact h1|exact h2|exact s1|(simp;omega)|skip
theorem code_2{p j:List Nat}(g:GrOk p j)(xs ys:Nat)(hx:xs<18446744073709551616)(hy:ys<18446744073709551616)(h:(Nat.beq (mi xs (alN p.length)) 0&&Nat.beq (mi ys (alN p.length)) 0&&Nat.beq (xs&&& ys) 0&& !(Nat.beq ys 0))=false):FnOk Pg g0 7 [ul p,ul j,u6 (xs:Nat),u6 (ys:Nat)] (i6 (2:Nat)):=
 Qo5 p j xs ys 2 (by decide) (by decide) (Qi1 p j xs ys 2 (by decide) (asked_2 g xs ys hx hy h))
theorem w_129:FnOk Pg g0 7 [ul [0,1],ul [2,1],u6 (1:Nat),u6 (1:Nat)] (i6 (2:Nat)):=code_2 g_a 1 1 (by decide) (by decide) (by kernel_rfl)
mutual
noncomputable def vxB(H:T O):V→V→Bool
 | .int k n,y=>match y with
  | .int k' n'=>decide (k=k')&&decide (n=n')
  | _=>false
 | .bool a,y=>match y with
  | .bool b=>a==b
  | _=>false
 | .nils,y=>match y with
  | .nils=>true
  | _=>false
 | .agg l,y=>match y with
  | .agg l'=>vxL H l l'
  | _=>false
 | .im n l, y => match y with
  | .nils=>Nat.beq n 0
  | .sl h off m _=>Nat.beq n m&&(match gt H h with
   |some (.row _ _ c)=>vxP H l (c.drop off)
   | _=>false)
  | _=>false
 | .imp l, y => match y with
  | .ptr h off=>(match gt H h with
   |some (.row _ _ c)=>vxP H l (c.drop off)
   | _=>false)
  | _=>false
 | _,_=>false
noncomputable def vxL(H:T O):List V→List V→Bool
 |[],ys=>match ys with
  |[]=>true
  | _=>false
 |x::xs,ys=>match ys with
  |y::ys'=>vxB H x y&&vxL H xs ys'
  |[]=>false
noncomputable def vxP(H:T O):List V→List V→Bool
 |[],_=>true
 |x::xs,ys=>match ys with
  |y::ys'=>vxB H x y&&vxP H xs ys'
  |[]=>false
end
mutual
theorem vxB_ok{H:T O}{ρ:Nat→Option Nat}: ∀(x y:V),vxB H x y=true→View H.get (fun _=>True) ρ x y
 | .int k n,y,h=>by
  cases y<;>simp[vxB]at h
  obtain⟨rfl,rfl⟩:=h
  rfl
 | .bool a,y,h=>by
  cases y<;>simp[vxB]at h
  subst h;rfl
 | .nils,y,h=>by
  cases y<;>first|rfl|simp[vxB]at h
 | .agg l,y,h=>by
  cases y with
  |agg l'=>exact⟨l',rfl,Qq1 l l' (by simpa [vxB]using h)⟩
  | _=>simp[vxB]at h
 | .im n l, y, h => by
  cases y with
  |nils=>exact .inr (.inl ⟨rfl,Nat.eq_of_beq_eq_true (by simpa [vxB]using h)⟩)
  | sl g off m room =>
   unfold vxB at h
   simp only[Bool.and_eq_true]at h
   obtain⟨h1,h2⟩:=h
   have h1:=Nat.eq_of_beq_eq_true h1
   subst h1
   split at h2
   ·rename_i t sp c hg
    rw[Qal]at hg
    exact .inr (.inr ⟨g,off,room,t,sp,c,rfl,trivial,hg,Qq2 l _ h2⟩)
   ·cases h2
  | _=>simp[vxB]at h
 | .imp l, y, h => by
  cases y with
  | ptr g off =>
   unfold vxB at h
   dsimp only at h
   split at h
   ·rename_i t sp c hg
    rw[Qal]at hg
    exact .inr ⟨g,off,t,sp,c,rfl,trivial,hg,Qq2 l _ h⟩
   ·cases h
  | _=>simp[vxB]at h
 | .str _,_,h| .nilp,_,h| .nilf,_,h| .nili,_,h| .nilm,_,h| .tup _,_,h| .fn _ _,_,h| .ifc _ _,_,h| .ptr _ _,_,h| .sl _ _ _ _,_,h| .mp _,_,h| .yld _,_,h=>by simp[vxB]at h
theorem Qq1{H:T O}{ρ:Nat→Option Nat}: ∀(xs ys:List V),vxL H xs ys=true→ViewL H.get (fun _=>True) ρ xs ys
 |[],ys,h=>by
  cases ys with
  |nil=>rfl
  |cons=>simp[vxL]at h
 | x :: xs, ys, h => by
  cases ys with
  |nil=>simp[vxL]at h
  |cons y ys=>
   unfold vxL at h
   simp only[Bool.and_eq_true]at h
   exact⟨y,ys,rfl,vxB_ok x y h.1,Qq1 xs ys h.2⟩
theorem Qq2{H:T O}: ∀(xs ys:List V),vxP H xs ys=true→ViewP H.get (fun _=>True) xs ys
 |[],ys,h=>trivial
 | x :: xs, ys, h => by
  cases ys with
  |nil=>simp[vxP]at h
  |cons y ys=>
   unfold vxP at h
   simp only[Bool.and_eq_true]at h
   exact⟨y,ys,rfl,vxB_ok x y h.1,Qq2 xs ys h.2⟩
end
noncomputable def Qfs(f:Nat)(l:List V)(v:V)(h:Hook):Hook:=fun f' ars H gl=>match gl with
 | .e=>bif Nat.beq f' f&&vxL H l ars then some v else h f' ars H gl
 | _=>h f' ars H gl
theorem Qbk{f:Nat}{l:List V}{v:V}{h:Hook}(hh:Qb3 Pg h)(hv:gnd v=true)(hc:(codeOf Pg f).isSome=true)(hok:FnOk Pg .e f l v):Qb3 Pg (Qfs f l v h):=by
 intro f' ars H gl u hu s w vals ha hH hgl
 unfold Qfs at hu
 split at hu
 ·cases hb : (Nat.beq f' f && vxL H l ars) with
  |false=>rw[hb]at hu;exact hh f' ars H _ u hu s w vals ha hH hgl
  | true =>
   rw[hb,cond_true]at hu
   cases hu
   simp only[Bool.and_eq_true]at hb
   have e1:=Nat.eq_of_beq_eq_true hb.1
   subst e1
   have hview:=Qq1 (ρ:=fun _=>none) _ _ hb.2
   obtain⟨fi,hfi⟩:=Option.isSome_iff_exists.1 hc
   obtain⟨fn,f1,f2,f3,f4,f5⟩:=Qny plain hfi
   have hF: ∀b,(s.fz b∨∃g t sp c,H.get g=some (.row t sp c)∧b=s.μ g)→b<w.heap.size:=by
    rintro b (hb|⟨g,t,sp,c,hg,rfl⟩)
    ·exact hH.old b (.inl hb)
    ·exact(hH.obj _ _ hg rfl).2.1
   have hrl:=ViewL.rl hH (s':=sg (fun b=>s.fz b∨∃g t sp c,H.get g=some (.row t sp c)∧b=s.μ g)) ⟨fun _ _ e=>(by cases e),fun g t sp c _ hg=>.inr ⟨g,t,sp,c,hg,rfl⟩,fun b hb=>.inl hb⟩ _ _ _ hview ha
   obtain⟨next,q1,q2,q3⟩:=hok.1 (sg _) w (.func (.func f') #[] #[]) vals ⟨#[],rfl,rfl⟩ hrl (Qmo (fun b hb=>hb.elim (hF b) (fun hb=>hb.elim))) (fun g l hg=>by simp at hg) (fun _ _ h=>h)
   have hn:next= .enter f' vals:=by
    have h5:=f5 vals w
    simp[Deferred.ofValue,invoke,h5]at q1
    exact q1.symm
   subst hn
   refine⟨f5 vals w,(callsIn_wide.1 q2).mono ?_⟩
   rintro e w' ⟨x,s',rfl,g1,g2,g3,g4,g5⟩
   exact⟨x,rfl,⟨g3.mod.os,g3.mod.tape,g3.mod.output,g3.mod.size,fun k hk=>g3.mod.block k hk (by rintro⟨h,hm,_⟩;cases hm)⟩,fun s'' w''=>gnd_rv _ _ hv g1⟩
 ·exact hh f' ars H gl u hu s w vals ha hH hgl
set_option maxHeartbeats 4000000
set_option maxRecDepth 100000
abbrev a4(p j:List Nat)(x y:Nat):List V:=[ul p,ul j,u6 (x:Nat),u6 (y:Nat)]
noncomputable def hk1:Hook:=Qfs 12 [faV,esV (.mk 1 1 []),il [0,0]] (qV 1 2 0) Qpc
noncomputable def hk2:Hook:=Qfs 12 [faV,esV (.mk 4 0 [.mk 1 3 [],.mk 1 1 []]),il [0,1]] (qV 1 4 0) hk1
noncomputable def hk3:Hook:=Qfs 12 [faV,esV (.mk 2 2 [.mk 1 2 []]),il [0,0]] (qV 1 1 0) hk2
noncomputable def hk4:Hook:=Qfs 12 [faV,esV (.mk 3 0 []),il [0,0]] (qV 1 1 0) hk3
noncomputable def hk5:Hook:=Qfs 18 (a4 [0,1] [2,1] 1 2) (.tup [.agg [i6 0,u6 0,.nils],hgV (3,2,2),i6 (351:Nat)]) hk4
noncomputable def hk6:Hook:=Qfs 7 (a4 [0,1] [2,1] 2 1) (i6 (0:Nat)) hk5
noncomputable def hk7:Hook:=Qfs 7 (a4 [0,1,2] [4,0,1] 1 4) (i6 (0:Nat)) hk6
noncomputable def hk8:Hook:=Qfs 7 (a4 [4,5,0] [0,0,0] 1 2) (i6 (0:Nat)) hk7
noncomputable def hk9:Hook:=Qfs 7 (a4 [0,1] [2,1] 1 1) (i6 (2:Nat)) hk8
theorem hk1_ok:Qb3 Pg hk1:=Qbk Qi4 rfl (by kernel_rfl) ev_1
theorem hk2_ok:Qb3 Pg hk2:=Qbk hk1_ok rfl (by kernel_rfl) ev_2
theorem hk3_ok:Qb3 Pg hk3:=Qbk hk2_ok rfl (by kernel_rfl) ev_3
theorem hk4_ok:Qb3 Pg hk4:=Qbk hk3_ok rfl (by kernel_rfl) ev_4
theorem hk5_ok:Qb3 Pg hk5:=Qbk hk4_ok rfl (by kernel_rfl) w_21
theorem hk6_ok:Qb3 Pg hk6:=Qbk hk5_ok rfl (by kernel_rfl) w_39
theorem hk7_ok:Qb3 Pg hk7:=Qbk hk6_ok rfl (by kernel_rfl) w_45
theorem hk8_ok:Qb3 Pg hk8:=Qbk hk7_ok rfl (by kernel_rfl) w_51
theorem hk9_ok:Qb3 Pg hk9:=Qbk hk8_ok rfl (by kernel_rfl) w_129
noncomputable def vW:Env:=envOf Pg hk9 extF
theorem vW_ok:vW.Ok Pg:=env_ok plain hk9_ok ext_ok
theorem works_fn:FnOk Pg g0 5 [] (.bool true):=FnOk.of_run vW_ok Qaf (n:=100000) rfl (by kernel_rfl)
end Go.Proofs.Ytbmegckcapfdkaa.Am
