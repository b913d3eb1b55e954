/- Texts behind the claim, part 8: the abstract machine, and what the functions answer. No condition. -/
import Derived.Test.YthjjgipcoeiapaaCWKnown7
set_option linter.unusedVariables false
set_option linter.unusedSimpArgs false
set_option linter.unusedSectionVars false
namespace Go.Proofs.Ythjjgipcoeiapaa.Am
open Go.RowKit
set_option maxHeartbeats 1000000
set_option maxRecDepth 100000
abbrev caS(hd hv:Nat)(cs:List Int)(s q:Nat)(k:Nat):List (Nat×V):=[(0,.yld hd),(1,.imp [.im q (ints cs)]),(2,.imp [u6 (s:Nat)]),(4,.sl hv 0 q (some (q-q))),(5,i6 ((k:Int)-1))]
def CaQ(H0:T O)(hv nx0:Nat)(cs:List Int)(vs:List Int)(q:Nat)(L:List Nat)(k:Nat)(H:T O)(nx:Nat)(lg:List Nat):Prop:=k=nxK cs vs q/\H=pt H0 hv (rw3 (nxV cs vs q))/\nx=nx0/\SubL lg L
theorem Qph(nx0 hd hv nx:Nat)(cs vs:List Int)(s q:Nat)(hq:cs.length=q)(xx:s<18446744073709551616)(hv2:vs.length=q)(h12:q<=8)(hc: ∀i,i<q->1<=cs.getD i 0/\cs.getD i 0<=4)(xz:valT (mkC cs s) vs q)(H0:T O)(L lg0:List Nat)(hL:hv∈L)(hlg:SubL lg0 L):
  Sat Pg none nx0 (at' 58 [1,0,0,0,1,1,0,0]) (mkSo g0 45 (caS hd hv cs s q q) (pt H0 hv (rw3 vs)) nx lg0) (Qbq g0 45 (.exit 2) (caS hd hv cs s q) (CaQ H0 hv nx (mkC cs s) vs q L)):=by
 refine(Qha (b:=at' 58 [1,0,0,0,1,1,0,0,0]) k_ (fun(p:Nat×List Int) M=>p.1<=q/\p.2.length=q/\valT (mkC cs s) p.2 q/\nxV (mkC cs s) p.2 p.1=nxV (mkC cs s) vs q/\nxK (mkC cs s) p.2 p.1=nxK (mkC cs s) vs q/\M.H=pt H0 hv (rw3 p.2)/\M.nx=nx/\SubL M.lg L) (fun p=>caS hd hv cs s q p.1) (fun p=>p.1) (fun e sl M=>e= .exit 2/\∃k,sl=caS hd hv cs s q k/\CaQ H0 hv nx (mkC cs s) vs q L k M.H M.nx M.lg) (fun p H nx1 lg G hI hN hE hR=>?_) (q,vs) ⟨_,_,_⟩ ⟨Nat.le_refl _,hv2,xz,rfl,rfl,rfl,rfl,hlg⟩).mono ?_
 ·obtain ⟨k, row⟩ := p
  obtain⟨hk,hl,hvr,e1,e2,rfl,rfl,hs⟩:=hI
  dsimp only at hk hl hvr e1 e2 hs hN
  cases k with
  |zero=>
   have hex:=hE 2 (caS hd hv cs s q 0) (pt H0 hv (rw3 row)) nx1 lg ⟨rfl,0,rfl,e2,by rw[<-e1];rfl,rfl,hs⟩
   refine⟨[no 17,toO (caS hd hv cs s q 0)],1000,?_⟩
   clear hN hE hR
   refine m_ (p:=Bn [decide (((0:Nat):Int)-1>=0)=false,G (Ex.exit 2) (caS hd hv cs s q 0) (pt H0 hv (rw3 row)) nx1 lg,Sm (V.yld hd),Sm (V.imp [V.im q (ints cs)]),Sm (V.imp [u6 s]),Sm (V.sl hv 0 q (some (q-q))),Sm (i6 (((0:Nat):Int)-1))]) ?_
   (repeat'(first|(with_reducible apply And.intro)|(refine fun(_:True)=>?_)))<;>first|exact aq|skip
   all_goals first|exact hex|skip
  | succ k =>
   have hb:=hvr k o_
   have hcb:=hc k o_
   have hmk:=Qld (cs:=cs) (s:=s) (i:=k) o_
   have s1:=Qdd (G:=Qac Pg) (t:=29) (x:=s) (k:=k) o_
   have s2:=Qcj (G:=Qac Pg) (t:=29) (x:=s/2^k)
   have b01:=bit01 s k
   have g1:gt (pt H0 hv (rw3 row)) hv=some (rw3 row):=by rw[gt_pt,if_pos rfl]
   cases kp:s.testBit k with
   |false=>
    have hx2:=b01.2.1 kp
    rw[kp,if_neg (by simp)]at hmk
    have h0:row.getD k 0=0:=by omega
    have hset:=set_same h0
    have e3:nxV (mkC cs s) row (k+1)=nxV (mkC cs s) row k:=by conv=>lhs;unfold nxV;rw[if_pos o_,hset]
    have e4:nxK (mkC cs s) row (k+1)=nxK (mkC cs s) row k:=by conv=>lhs;unfold nxK;rw[if_pos o_,hset]
    have jg:=hN (k,row) (pt H0 hv (rw3 row)) nx1 lg ⟨by dsimp only;omega,hl,hvr,by dsimp only;rw[<-e3,e1],by dsimp only;rw[<-e4,e2],rfl,rfl,hs⟩ (by dsimp only;omega)
    refine⟨[yes 17,va 22 (u6 (s/2^k:Nat)),va 23 (u6 (s/2^k%2:Nat)),yes 24,nu 19 ((k:Int)-1),toO (caS hd hv cs s q k)],1000,?_⟩
    clear hN hE hR e1 e2 e3 e4 hvr hc b01
    generalize s/2^k=y at*
    refine m_ (p:=let z0:=(1:Int);let z1:=(↑(k+1):Int);let z2:=V.sl hv 0 q (some (q-q));let z3:=V.imp [V.im q (ints cs)];let z4:=(k:Int);Bn [decide (z1-z0>=0)=true,binV (Qac Try.prog) BinOp.shr 29 (u6 s) (i6 (z1-z0))=some (u6 y),binV (Qac Try.prog) BinOp.and 29 (u6 y) (u6 1)=some (u6 ↑(y%2)),((↑(y%2):Int)==0)=true,wr .i64 (z1-z0-z0)=z4-z0,G Ex.normal (caS hd hv cs s q k) (pt H0 hv (rw3 row)) nx1 lg,Sm (V.yld hd),z3=z3,Sm (V.imp [u6 s]),z2=z2,Sm (i6 (z4-z0))]) ?_
    (repeat'(first|(with_reducible apply And.intro)|(refine fun(_:True)=>?_)))<;>first|exact aq|skip
    all_goals first|exact s1|exact s2|exact jg|(rw[hx2];rfl)|skip
   | true =>
    have hx2:=b01.1.1 kp
    rw[kp,if_pos rfl]at hmk
    have h1:=@Qbo row k o_
    have h2:=@Qag cs k o_
    have hl1:=@Qa3 row k (row.getD k 0+1) o_
    have g2:gt (pt (pt H0 hv (rw3 row)) hv (rw3 (row.set k (row.getD k 0+1)))) hv=some (rw3 (row.set k (row.getD k 0+1))):=by rw[gt_pt,if_pos rfl]
    have h3:=@Qbo (row.set k (row.getD k 0+1)) k (by simp;omega)
    rw[Qbn o_]at h3
    by_cases he:row.getD k 0+1<cs.getD k 0
    ·have e3 : nxV (mkC cs s) row (k + 1) = row.set k (row.getD k 0 + 1) := by conv => lhs; unfold nxV; rw [if_neg o_]
     have e4:nxK (mkC cs s) row (k+1)=k+1:=by conv=>lhs;unfold nxK;rw[if_neg o_]
     have hex:=hE 2 (caS hd hv cs s q (k+1)) (pt (pt H0 hv (rw3 row)) hv (rw3 (row.set k (row.getD k 0+1)))) nx1 ([hv]++lg) ⟨rfl,k+1,rfl,by rw[<-e2,e4],by rw[<-e1,e3,Qhm],rfl,fun g hg=>by
      rcases List.mem_cons.1 hg with rfl|hg
      ·exact hL
      ·exact hs g hg⟩
     refine⟨[yes 17,va 22 (u6 (s/2^k:Nat)),va 23 (u6 (s/2^k%2:Nat)),no 24,pl 27,lo_ 28 (rw3 row) (i6 (row.getD k 0)),nu 29 (row.getD k 0+1),pl 30,so (rw3 row) (ints (row.set k (row.getD k 0+1))),pl 33,lo_ 34 (rw3 (row.set k (row.getD k 0+1))) (i6 (row.getD k 0+1)),pl 37,ld 38 (i6 (cs.getD k 0)),yes 39,toO (caS hd hv cs s q (k+1))],1000,?_⟩
     have hlr:(row.set k (row.getD k 0+1)).length=q:=by rw[List.length_set];exact hl
     clear hN hE hR e1 e2 e3 e4 hvr hc b01
     generalize row.set k (row.getD k 0+1)=row2 at*
     generalize s/2^k=y at*
     refine m_ (p:=let z0:=(↑(k+1):Int);let z1:=(1:Int);let z3:=(0:Int);let z4:=pt H0 hv (rw3 row);let z7:=(q:Int);let z8:=V.sl hv 0 q (some (q-q));let y0:=V.imp [V.im q (ints cs)];let y1:=ints row2;let z2:=List.getD row k z3;let z5:=Int.toNat (z0-z1);let z6:=pt z4 hv (O.row 3 none y1);let z9:=i6 (z0-z1);Bn [decide (z0-z1>=z3)=true,binV (Qac Try.prog) BinOp.shr 29 (u6 s) z9=some (u6 y),binV (Qac Try.prog) BinOp.and 29 (u6 y) (u6 1)=some (u6 ↑(y%2)),((↑(y%2):Int)==z3)=false,An [z3<=z0-z1,z0-z1<z7],gt z4 hv=some (rw3 row),headF (dropF (0+z5*1) (ints row))=some (i6 z2),wr .i64 (z2+z1)=z2+z1,An [z3<=z0-z1,z0-z1<z7],An [gt z4 hv=some (rw3 row),layE (0+z5*1) (ints row) [i6 (z2+z1)]=some y1],An [z3<=z0-z1,z0-z1<z7],gt z6 hv=some (rw3 row2),headF (dropF (0+z5*1) y1)=some (i6 (z2+z1)),An [z3<=z0-z1,z0-z1<z7],headF (List.drop (z5*1) (ints cs))=some (i6 (List.getD cs k z3)),decide (z2+z1<List.getD cs k z3)=true,G (Ex.exit 2) (caS hd hv cs s q (k+1)) z6 nx1 ([hv]++lg),Sm (V.yld hd),y0=y0,Sm (V.imp [u6 s]),z8=z8,z9=z9]) ?_
     (repeat'(first|(with_reducible apply And.intro)|(refine fun(_:True)=>?_)))<;>first|exact aq|skip
     all_goals first|exact s1|exact s2|exact g1|exact g2|exact h1|exact h2|exact h3|exact hl1|exact hex|(rw[hx2];rfl)|skip
    ·have e3 : nxV (mkC cs s) row (k + 1) = nxV (mkC cs s) (row.set k 0) k := by conv => lhs; unfold nxV; rw [if_pos o_]
     have e4:nxK (mkC cs s) row (k+1)=nxK (mkC cs s) (row.set k 0) k:=by conv=>lhs;unfold nxK;rw[if_pos o_]
     have ess:(row.set k (row.getD k 0+1)).set k 0=row.set k 0:=by rw[List.set_set]
     have hl2:=@Qa3 (row.set k (row.getD k 0+1)) k 0 (by simp;omega)
     rw[ess]at hl2
     have jg:=hN (k,row.set k 0) (pt (pt (pt H0 hv (rw3 row)) hv (rw3 (row.set k (row.getD k 0+1)))) hv (rw3 (row.set k 0))) nx1 ([hv]++([hv]++lg)) ⟨by dsimp only;omega,by simpa using hl,fun i hi=>by
      by_cases hik:k=i
      ·subst hik;dsimp only;rw[Qbn o_];omega
      ·dsimp only;rw[Qbr hik];exact hvr i hi,by dsimp only;rw[<-e3,e1],by dsimp only;rw[<-e4,e2],by dsimp only;rw[Qhm,Qhm],rfl,fun g hg=>by
      rcases List.mem_cons.1 hg with rfl|hg
      ·exact hL
      ·rcases List.mem_cons.1 hg with rfl | hg
       ·exact hL
       ·exact hs g hg⟩ (by dsimp only;omega)
     refine⟨[yes 17,va 22 (u6 (s/2^k:Nat)),va 23 (u6 (s/2^k%2:Nat)),no 24,pl 27,lo_ 28 (rw3 row) (i6 (row.getD k 0)),nu 29 (row.getD k 0+1),pl 30,so (rw3 row) (ints (row.set k (row.getD k 0+1))),pl 33,lo_ 34 (rw3 (row.set k (row.getD k 0+1))) (i6 (row.getD k 0+1)),pl 37,ld 38 (i6 (cs.getD k 0)),no 39,pl 42,so (rw3 (row.set k (row.getD k 0+1))) (ints (row.set k 0)),nu 19 ((k:Int)-1),toO (caS hd hv cs s q k)],1000,?_⟩
     have hlr:(row.set k (row.getD k 0+1)).length=q:=by rw[List.length_set];exact hl
     have hlr2:(row.set k 0).length=q:=by rw[List.length_set];exact hl
     clear hN hE hR e1 e2 e3 e4 hvr hc b01 ess
     generalize row.set k (row.getD k 0+1)=row2 at*
     generalize row.set k 0=row3 at*
     generalize s/2^k=y at*
     refine m_ (p:=let z0:=(↑(k+1):Int);let z1:=(1:Int);let z5:=(0:Int);let z6:=(q:Int);let z7:=pt H0 hv (rw3 row);let z8:=ints row2;let z9:=V.sl hv 0 q (some (q-q));let y0:=V.imp [V.im q (ints cs)];let y1:=(k:Int);let z2:=List.getD row k z5;let z3:=pt z7 hv (O.row 3 none z8);let z4:=Int.toNat (z0-z1);Bn [decide (z0-z1>=z5)=true,binV (Qac Try.prog) BinOp.shr 29 (u6 s) (i6 (z0-z1))=some (u6 y),binV (Qac Try.prog) BinOp.and 29 (u6 y) (u6 1)=some (u6 ↑(y%2)),((↑(y%2):Int)==z5)=false,An [z5<=z0-z1,z0-z1<z6],gt z7 hv=some (rw3 row),headF (dropF (0+z4*1) (ints row))=some (i6 z2),wr .i64 (z2+z1)=z2+z1,An [z5<=z0-z1,z0-z1<z6],An [gt z7 hv=some (rw3 row),layE (0+z4*1) (ints row) [i6 (z2+z1)]=some z8],An [z5<=z0-z1,z0-z1<z6],gt z3 hv=some (rw3 row2),headF (dropF (0+z4*1) z8)=some (i6 (z2+z1)),An [z5<=z0-z1,z0-z1<z6],headF (List.drop (z4*1) (ints cs))=some (i6 (List.getD cs k z5)),decide (z2+z1<List.getD cs k z5)=false,An [z5<=z0-z1,z0-z1<z6],An [gt z3 hv=some (rw3 row2),layE (0+z4*1) z8 [i6 0]=some (ints row3)],wr .i64 (z0-z1-z1)=y1-z1,G Ex.normal (caS hd hv cs s q k) (pt z3 hv (O.row 3 none (ints row3))) nx1 ([hv]++([hv]++lg)),Sm (V.yld hd),y0=y0,Sm (V.imp [u6 s]),z9=z9,Sm (i6 (y1-z1))]) ?_
     (repeat'(first|(with_reducible apply And.intro)|(refine fun(_:True)=>?_)))<;>first|exact aq|skip
     all_goals first|exact s1|exact s2|exact g1|exact g2|exact h1|exact h2|exact h3|exact hl1|exact hl2|exact jg|(rw[hx2];rfl)|skip
 ·rintro e st ⟨sl', M', rfl, rfl, k, rfl, hQ⟩
  exact⟨k,_,_,_,rfl,rfl,hQ⟩
abbrev cbS(hd hv:Nat)(cs:List Int)(s q:Nat)(_:Nat):List (Nat×V):=[(0,.yld hd),(1,.imp [.im q (ints cs)]),(2,.imp [u6 (s:Nat)]),(4,.sl hv 0 q (some (q-q)))]
noncomputable def HHc(H0:T O)(KK:Nat->T O)(hv:Nat)(cs:List Int):Nat->T O
 |0=>pt H0 hv (rw3 (cmb cs 0))
 |j+1=>pt (KK j) hv (rw3 (cmb cs (j+1)))
noncomputable def cbF(KK:Nat->T O)(hv:Nat)(cs:List Int)(E:Nat):Bool->T O
 |true=>pt (KK (E-1)) hv (rw3 (cmb cs E))
 |false=>KK (E-1)
abbrev cbQ(HP:T O)(nx0:Nat)(L:List Nat)(_:Nat)(H:T O)(nx:Nat)(lg:List Nat):Prop:=H=HP/\nx=nx0/\SubL lg L
section
variable (cs:List Int) (s q:Nat) (hq:cs.length=q) (xx:s<18446744073709551616) (h12:q<=8) (hc: ∀i,i<q->1<=cs.getD i 0/\cs.getD i 0<=4) (P:Nat) (hP:(P:Int)=prodT (mkC cs s) q) (E:Nat) (hE1:1<=E) (hE2:E<=P) (F:Nat->Bool) (hF: ∀j,j+1<E->F j=true) (hl:F (E-1)=true->E=P)
include hq xx h12 hc hP hE1 hE2 hF hl
theorem Qq3(nx0 hd hv:Nat)(H0:T O)(KK:Nat->T O)(Nn:Nat->Nat)(L LY:List Nat)(hL:hv∈L)(hLY:SubL LY L)
  (hg: ∀j,j<E->gt (KK j) hv=some (rw3 (cmb (mkC cs s) j)))
  (hy: ∀j,j<E->CallSpec Pg g0 (.yld hd) [.sl hv 0 q (some (q-q))] (HHc H0 KK hv (mkC cs s) j) (Nn j) ⟨.bool (F j),KK j,Nn (j+1),LY⟩):
  Sat Pg none nx0 (at' 58 [1,0]) (mkSo g0 45 (cbS hd hv cs s q 0) (HHc H0 KK hv (mkC cs s) 0) (Nn 0) []) (Qbq g0 45 .ret (fun _=>[]) (cbQ (cbF KK hv (mkC cs s) E (F (E-1))) (Nn E) L)):=by
 subst hq
 have hcm: ∀i,i<(mkC cs s).length->1<=(mkC cs s).getD i 0:=fun i hi=>(Qsu hc i (by rw[Qbi]at hi;exact hi)).1
 have hml:=Qbi (cs:=cs) (s:=s)
 refine(Qha (b:=at' 58 [1,0,0]) k_ (fun(j:Nat) M=>j<E/\M.H=HHc H0 KK hv (mkC cs s) j/\M.nx=Nn j/\SubL M.lg L) (cbS hd hv cs s cs.length) (fun j=>E-j) (fun e sl M=>e= .ret/\sl=[]/\cbQ (cbF KK hv (mkC cs s) E (F (E-1))) (Nn E) L 0 M.H M.nx M.lg) (fun j H nx1 lg G hI hN hE hR=>?_) 0 ⟨_,_,_⟩ ⟨by omega,rfl,rfl,fun g hg=>by cases hg⟩).mono ?_
 ·obtain ⟨hj, rfl, rfl, hs⟩ := hI
  dsimp only at hj hs
  have hcall:=hy j hj
  cases hb0:F j with
  | false =>
   have hje:E=j+1:=by
    by_cases h:j+1<E
    ·rw[hF j h]at hb0;cases hb0
    ·omega
   subst hje
   rw[hb0]at hcall
   have hout:=fun lg' h=>hR [] (KK j) (Nn (j+1)) lg' ⟨rfl,rfl,by show KK j=cbF KK hv _ _ (F j);rw[hb0];rfl,rfl,h⟩
   refine⟨[(11,.call ⟨.bool false,KK j,Nn (j+1),LY⟩),toO []],1000,?_⟩
   clear hN hE hR hy hg hc
   refine m_ (p:=Bn [CallSpec Pg g0 (V.yld hd) [V.sl hv 0 cs.length (some (cs.length-cs.length))] (HHc H0 KK hv (mkC cs s) j) (Nn j) (CR.mk (V.bool false) (KK j) (Nn (j+1)) LY),Tt,G Ex.ret [] (KK j) (Nn (j+1)) (LY++lg)]) ?_
   (repeat'(first|(with_reducible apply And.intro)|(refine fun(_:True)=>?_)))<;>first|exact aq|skip
   all_goals first|exact hcall|(refine hout _ (fun g hg=>?_);rcases List.mem_append.1 hg with hg|hg;exact hLY g hg;exact hs g hg)|skip
  | true =>
   rw[hb0]at hcall
   have hjP:(j:Int)<prodT (mkC cs s) (mkC cs s).length:=by rw[hml];omega
   obtain⟨xz,_⟩:=Qky hcm hjP
   have hmore:=cmb_more hcm hjP
   rw[hml]at xz hmore
   have jr:=Qcz (mkC cs s) j
   rw[hml]at jr
   have hcar:=Qph nx0 hd hv (Nn (j+1)) cs (cmb (mkC cs s) j) s cs.length rfl xx jr h12 hc xz (KK j) L (LY++lg) hL (fun g hg=>by
    rcases List.mem_append.1 hg with hg|hg
    ·exact hLY g hg
    ·exact hs g hg)
   rw[Qhn (hg j hj)]at hcar
   have hKB:=nxK_B (cs:=mkC cs s) (k:=cs.length) (vs:=cmb (mkC cs s) j)
   have e1:cmb (mkC cs s) (j+1)=nxV (mkC cs s) (cmb (mkC cs s) j) cs.length:=by rw[cmb,hml]
   generalize hK':nxK (mkC cs s) (cmb (mkC cs s) j) cs.length=K at*
   cases hb:nxB (mkC cs s) (cmb (mkC cs s) j) cs.length with
   | true =>
    have k1:=hKB.1 hb
    rw[hb]at hmore
    have hj2:j+1<P:=by have:=of_decide_eq_true hmore.symm;omega
    have hjE:j+1<E:=by
     by_cases h:j+1<E
     ·exact h
     ·have : E = j + 1 := by omega
      subst this
      have:=hl hb0
      omega
    obtain⟨k,rfl⟩: ∃k,K=k+1:=⟨K-1,by omega⟩
    have jg:=fun lg' h=>hN (j+1) (pt (KK j) hv (rw3 (cmb (mkC cs s) (j+1)))) (Nn (j+1)) lg' ⟨hjE,rfl,rfl,h⟩ o_
    rw[e1]at jg
    have hcar':Sat Pg none nx0 (at' 58 [1,0,0,0,1,1,0,0]) (mkSo g0 45 (caS hd hv cs s cs.length cs.length) (KK j) (Nn (j+1)) (LY++lg)) (Qbq g0 45 (Ex.exit 2) (fun x=>caS hd hv cs s cs.length (k+1)) (CaQ (KK j) hv (Nn (j+1)) (mkC cs s) (cmb (mkC cs s) j) cs.length L)):=hcar.mono (fun e st⟨h,H,nx,lg,he,hst,hQ⟩=>⟨h,H,nx,lg,he,by rw[hst,hQ.1,hK'],hQ⟩)
    refine⟨[(11,.call ⟨.bool true,KK j,Nn (j+1),LY⟩),nu 15 ((cs.length:Int)-1),(0,.loopM (caS hd hv cs s cs.length cs.length) (.exit 2) (fun _=>caS hd hv cs s cs.length (k+1)) (CaQ (KK j) hv (Nn (j+1)) (mkC cs s) (cmb (mkC cs s) j) cs.length L) (fun _ _ _ _=>[no 44,toO (cbS hd hv cs s cs.length (j+1))]))],1000,?_⟩
    clear hN hE hR e1 hc hy hg hcar
    refine m_ (p:=let z0:=V.sl hv 0 cs.length (some (cs.length-cs.length));let z1:=V.imp [V.im cs.length (ints cs)];let z2:=((cs.length:Int)-1);let z3:=mkC cs s;let z4:=V.imp [u6 s];let z5:=Nn (j+1);let z6:=V.yld hd;An [CallSpec Pg g0 z6 [z0] (HHc H0 KK hv z3 j) (Nn j) (CR.mk (V.bool true) (KK j) z5 LY),Tt,wr .i64 z2=(cs.length:Int)-1,Bn [z6=z6,z1=z1,z4=z4,z0=z0,Sm (i6 z2)],Sat Pg none nx0 (at' 58 [1,0,0,0,1,1,0,0]) (mkSo g0 45 (caS hd hv cs s cs.length cs.length) (KK j) z5 (LY++lg)) (Qbq g0 45 (Ex.exit 2) (fun x=>caS hd hv cs s cs.length (k+1)) (CaQ (KK j) hv z5 z3 (cmb z3 j) cs.length L)),∀(h:Nat)(H:T O)(nx:Nat)(lg:List Nat),(h=nxK z3 (cmb z3 j) cs.length/\H=pt (KK j) hv (rw3 (nxV z3 (cmb z3 j) cs.length))/\nx=z5/\∀(g:Nat),List.Mem g lg->List.Mem g L)->Bn [decide ((↑(k+1):Int)-1<0)=false,G Ex.normal (cbS hd hv cs s cs.length (j+1)) H nx lg,z6=z6,z1=z1,z4=z4,z0=z0]]) ?_
    (repeat'(first|(with_reducible apply And.intro)|(refine fun(_:True)=>?_)))<;>first|exact aq|skip
    all_goals first|exact hcall|exact hcar'|skip
    all_goals(rintro h H nx' lg' ⟨hh,rfl,rfl,hs'⟩;(repeat'(first|(with_reducible apply And.intro)|(refine fun(_:True)=>?_)));all_goals first|exact aq|exact jg _ hs'|skip)
   |false=>
    have k1:=hKB.2 hb
    rw[hb]at hmore
    have hj2:j+1=P:=by have:=of_decide_eq_false hmore.symm;omega
    have hje:E=j+1:=by omega
    subst hje
    have hout:=fun lg' h=>hR [] (pt (KK j) hv (rw3 (cmb (mkC cs s) (j+1)))) (Nn (j+1)) lg' ⟨rfl,rfl,by show _=cbF KK hv _ _ (F j);rw[hb0];rfl,rfl,h⟩
    rw[e1]at hout
    have hcar':Sat Pg none nx0 (at' 58 [1,0,0,0,1,1,0,0]) (mkSo g0 45 (caS hd hv cs s cs.length cs.length) (KK j) (Nn (j+1)) (LY++lg)) (Qbq g0 45 (Ex.exit 2) (fun x=>caS hd hv cs s cs.length 0) (CaQ (KK j) hv (Nn (j+1)) (mkC cs s) (cmb (mkC cs s) j) cs.length L)):=hcar.mono (fun e st⟨h,H,nx,lg,he,hst,hQ⟩=>⟨h,H,nx,lg,he,by rw[hst,hQ.1,hK',k1],hQ⟩)
    refine⟨[(11,.call ⟨.bool true,KK j,Nn (j+1),LY⟩),nu 15 ((cs.length:Int)-1),(0,.loopM (caS hd hv cs s cs.length cs.length) (.exit 2) (fun _=>caS hd hv cs s cs.length 0) (CaQ (KK j) hv (Nn (j+1)) (mkC cs s) (cmb (mkC cs s) j) cs.length L) (fun _ _ _ _=>[yes 44,toO []]))],1000,?_⟩
    clear hN hE hR e1 hc hy hg hcar
    refine m_ (p:=let z0:=V.sl hv 0 cs.length (some (cs.length-cs.length));let z1:=((cs.length:Int)-1);let z2:=mkC cs s;let z3:=Nn (j+1);let z4:=V.imp [V.im cs.length (ints cs)];An [CallSpec Pg g0 (V.yld hd) [z0] (HHc H0 KK hv z2 j) (Nn j) (CR.mk (V.bool true) (KK j) z3 LY),Tt,wr .i64 z1=(cs.length:Int)-1,Bn [Sm (V.yld hd),z4=z4,Sm (V.imp [u6 s]),z0=z0,Sm (i6 z1)],Sat Pg none nx0 (at' 58 [1,0,0,0,1,1,0,0]) (mkSo g0 45 (caS hd hv cs s cs.length cs.length) (KK j) z3 (LY++lg)) (Qbq g0 45 (Ex.exit 2) (fun x=>caS hd hv cs s cs.length 0) (CaQ (KK j) hv z3 z2 (cmb z2 j) cs.length L)),∀(h:Nat)(H:T O)(nx:Nat)(lg:List Nat),(h=nxK z2 (cmb z2 j) cs.length/\H=pt (KK j) hv (rw3 (nxV z2 (cmb z2 j) cs.length))/\nx=z3/\∀(g:Nat),List.Mem g lg->List.Mem g L)->Bn [decide (((0:Nat):Int)-1<0)=true,G Ex.ret [] H nx lg]]) ?_
    (repeat'(first|(with_reducible apply And.intro)|(refine fun(_:True)=>?_)))<;>first|exact aq|skip
    all_goals first|exact hcall|exact hcar'|skip
    all_goals(rintro h H nx' lg' ⟨hh,rfl,rfl,hs'⟩;(repeat'(first|(with_reducible apply And.intro)|(refine fun(_:True)=>?_)));all_goals first|exact aq|exact hout _ hs'|skip)
 ·rintro e st ⟨sl', M', rfl, rfl, rfl, hQ⟩
  exact⟨0,_,_,_,rfl,rfl,hQ⟩
theorem Qen(hd nx:Nat)(H0:T O)(KK:Nat->T O)(Nn:Nat->Nat)(LY:List Nat)(en:Nn 0=nx+1)
  (hg: ∀j,j<E->gt (KK j) nx=some (rw3 (cmb (mkC cs s) j)))
  (hy: ∀j,j<E->CallSpec Pg g0 (.yld hd) [.sl nx 0 q (some (q-q))] (HHc H0 KK nx (mkC cs s) j) (Nn j) ⟨.bool (F j),KK j,Nn (j+1),LY⟩)
  (hlog:Log H0.get nx (cbF KK nx (mkC cs s) E (F (E-1))).get (Nn E) (nx::LY)):
  CallSpec Pg g0 (.fn 58 [.imp [.im q (ints cs)],.imp [u6 (s:Nat)]]) [.yld hd] H0 nx ⟨.tup [],cbF KK nx (mkC cs s) E (F (E-1)),Nn E,nx::LY⟩:=by
 refine CallSpec.caps ?_
 have l:=Qq3 cs s q hq xx h12 hc P hP E hE1 hE2 F hF hl nx hd nx H0 KK Nn (nx::LY) LY (by simp) (fun g hg=>List.mem_cons_of_mem _ hg) hg hy
 have hz:rw3 (cmb (mkC cs s) 0)= .row 3 none (rep q [i6 0]):=by rw[Qay,cmb,Qbi,hq]
 rw[show HHc H0 KK nx (mkC cs s) 0=pt H0 nx (.row 3 none (rep q [i6 0]))by rw[<-hz];rfl,en]at l
 refine CallSpec.of_vcS vE_ok mixed Qab (n:=1000) (hs:=[mk 8,(0,.loopM (cbS hd nx cs s q 0) .ret (fun _=>[]) (cbQ (cbF KK nx (mkC cs s) E (F (E-1))) (Nn E) (nx::LY)) (fun _ _ _ _=>[]))]) hlog ?_
 clear hy hlog hc hz hg
 generalize cbF KK nx (mkC cs s) E (F (E-1))=HF at*
 refine m_ (p:=let z0:=(q:Int);An [An [(0:Int)<=z0,z0<=z0,((8:Nat):Int)*z0<=281474976710656,z0<=9223372036854775807],Bn [Sm (V.yld hd),Sm (V.imp [V.im q (ints cs)]),Sm (V.imp [u6 s]),Sm (V.sl nx 0 q (some (q-q)))],Sat Try.prog none nx (at' 58 [1,0]) (mkSo g0 45 (cbS hd nx cs s q 0) (pt H0 nx (O.row 3 none (rep q [i6 0]))) (nx+1) []) (Qbq g0 45 Ex.ret (fun x=>[]) (cbQ HF (Nn E) (nx::LY))),∀(h:Nat)(H:T O)(nx_1:Nat)(lg:List Nat),(H=HF/\nx_1=Nn E/\∀(g:Nat),List.Mem g lg->List.Mem g (nx::LY))->V.tup []=V.tup []/\H=HF/\nx_1=Nn E/\∀(g:Nat),List.Mem g lg->List.Mem g (nx::LY)]) ?_
 (repeat'(first|(with_reducible apply And.intro)|(refine fun(_:True)=>?_)))<;>first|exact aq|skip
 all_goals first|exact l|(rintro h H nx lg ⟨rfl,rfl,hs'⟩;(repeat'(first|(with_reducible apply And.intro)|(refine fun(_:True)=>?_)));all_goals first|rfl|exact trivial|exact hs'|skip)|skip
end
set_option maxHeartbeats 1000000
set_option maxRecDepth 100000
section
variable (cs:List Int) (s q:Nat) (hq:cs.length=q) (xx:s<18446744073709551616) (h12:q<=8) (hc: ∀i,i<q->1<=cs.getD i 0/\cs.getD i 0<=4) (P:Nat) (hP:(P:Int)=prodT (mkC cs s) q) (hP1:1<=P)
include hq xx h12 hc hP hP1
theorem comb_rel(hd nx:Nat)(H0:T O)(I:Nat->T O->Nat->Prop)(h0:I 0 (pt H0 nx (rw3 (cmb (mkC cs s) 0))) (nx+1))
  (step: ∀k,k<P->∀H n,I k H n->∃K n' L,CallSpec Pg g0 (.yld hd) [.sl nx 0 q (some (q-q))] H n ⟨.bool true,K,n',L⟩/\gt K nx=some (rw3 (cmb (mkC cs s) k))/\I (k+1) (pt K nx (rw3 (cmb (mkC cs s) (k+1)))) n'):
  ∃H' n' L,I P H' n'/\CallSpec Pg g0 (.fn 58 [.imp [.im q (ints cs)],.imp [u6 (s:Nat)]]) [.yld hd] H0 nx ⟨.tup [],H',n',L⟩:=by
 obtain⟨HH,N,LL,e1,e2,hi,hcc⟩:=Qe4 (C:=fun k H n H' n' L=>∃K,CallSpec Pg g0 (.yld hd) [.sl nx 0 q (some (q-q))] H n ⟨.bool true,K,n',L⟩/\gt K nx=some (rw3 (cmb (mkC cs s) k))/\H'=pt K nx (rw3 (cmb (mkC cs s) (k+1)))) _ _ h0 P (fun k hk H n hI=>by
  obtain⟨K,n',L,a,b,c⟩:=step k hk H n hI
  exact⟨_,n',L,c,K,a,b,rfl⟩)
 obtain⟨KK,hKK⟩: ∃KK:Nat->T O,∀k,k<P->CallSpec Pg g0 (.yld hd) [.sl nx 0 q (some (q-q))] (HH k) (N k) ⟨.bool true,KK k,N (k+1),LL k⟩/\gt (KK k) nx=some (rw3 (cmb (mkC cs s) k))/\HH (k+1)=pt (KK k) nx (rw3 (cmb (mkC cs s) (k+1))):=by
  refine⟨fun k=>if h:k<P then(hcc k h).choose else .e,fun k hk=>?_⟩
  dsimp only
  rw[dif_pos hk]
  exact(hcc k hk).choose_spec
 have hHH: ∀k,k<P->HHc H0 KK nx (mkC cs s) k=HH k:=fun k hk=>by
  cases k with
  |zero=>rw[e1];rfl
  |succ k=>rw[(hKK k o_).2.2];rfl
 have hL: ∀k,k<P->∀x∈LL k,x∈(List.range P).flatMap LL:=fun k hk x hx=>List.mem_flatMap.2 ⟨k,List.mem_range.2 hk,hx⟩
 have hfin:cbF KK nx (mkC cs s) P true=HH P:=by
  obtain⟨m,rfl⟩: ∃m,P=m+1:=⟨P-1,by omega⟩
  rw[(hKK m o_).2.2]
  rfl
 have hstep: ∀k,k<P->Log (HH k).get (N k) (HH (k+1)).get (N (k+1)) (nx::(List.range P).flatMap LL):=fun k hk=>by
  obtain⟨a,b,c⟩:=hKK k hk
  have h1:=a.2.more (hL k hk)
  rw[c]
  refine⟨h1.1,fun i hni hin=>?_⟩
  simp only[List.mem_cons,not_or]at hni
  rw[pt_eq,T.get_put,if_neg hni.1]
  exact h1.2 i hni.2 hin
 have hlog:=Qfo (HH:=HH) (N:=N) (LL:=fun _=>nx::(List.range P).flatMap LL) (L:=nx::(List.range P).flatMap LL) P hstep (fun k hk x hx=>hx)
 refine⟨HH P,N P,nx::(List.range P).flatMap LL,hi P (Nat.le_refl _),?_⟩
 have:=Qen cs s q hq xx h12 hc P hP P hP1 (Nat.le_refl _) (fun _=>true) (fun _ _=>rfl) (fun _=>rfl) hd nx H0 KK N ((List.range P).flatMap LL) e2 (fun k hk=>(hKK k hk).2.1) (fun k hk=>by
  rw[hHH k hk]
  exact CallSpec.moreL (r:=⟨_,_,_,LL k⟩) (hKK k hk).1 (hL k hk)) ?_
 ·rw [hfin] at this
  exact this
 ·rw [hfin]
  refine⟨by have:=hlog.1;rw[e2]at this;omega,fun i hni hin=>?_⟩
  have h1:=hlog.2 i hni (by rw[e2];omega)
  rw[h1,e1,pt_eq,T.get_put,if_neg (fun e=>hni (by rw[e];exact List.mem_cons_self))]
theorem Qis{rd:Option Nat}{nx0 n nx:Nat}{sl:List (Nat×V)}{H:T O}{lg:List Nat}{g:Operand}{ps:Array Tmp}{asg body:Code}
  (hg:ev (mkSo g0 n sl H nx lg).tm g=some (.fn 58 [.imp [.im q (ints cs)],.imp [u6 (s:Nat)]]))(hlb:rdOk rd H=true)(L0:O)(hL0:L0= .loop .ready none 0 (mkSo g0 n sl H nx lg).tm ps.toList asg body)
  (I:Nat->T O->Nat->Prop)(h0:I 0 (pt (pt H nx L0) (nx+1) (rw3 (cmb (mkC cs s) 0))) (nx+2))
  (step: ∀k,k<P->∀H n,I k H n->∃K n' L,CallSpec Pg g0 (.yld nx) [.sl (nx+1) 0 q (some (q-q))] H n ⟨.bool true,K,n',L⟩/\gt K (nx+1)=some (rw3 (cmb (mkC cs s) k))/\I (k+1) (pt K (nx+1) (rw3 (cmb (mkC cs s) (k+1)))) n')
  (hI: ∀H' n',I P H' n'->gt H' nx=some L0):
  ∃H1 n1 L,I P H1 n1/\Log (pt H nx L0).get (nx+1) H1.get n1 L/\Sat Pg rd nx0 (.rangeFunc g ps asg body) (mkSo g0 n sl H nx lg) (Qbq g0 n .normal (fun _=>sl) (fun _ H' nx' lg'=>H'=pt H1 nx .dead/\nx'=n1/\lg'=L++lg)):=by
 obtain⟨H1,n1,L,hi,hcl⟩:=comb_rel cs s q hq xx h12 hc P hP hP1 nx (nx+1) (pt H nx L0) I h0 step
 refine⟨H1,n1,L,hi,hcl.2,?_⟩
 have hgt:=hI _ _ hi
 rw[Qak]at hgt
 rw[pt_eq]at hcl
 subst hL0
 refine Sat.rangeFunc' hg hlb hcl (.inl ⟨0,_,_,_,_,hgt,0,_,_,_,rfl,?_,rfl,rfl,rfl⟩)
 rw[pt_eq];rfl
end
set_option maxHeartbeats 1000000
set_option maxRecDepth 100000
section
variable (g:Int) (R:List (List Int)) (q:Nat) (NN:List V) (W:Nat) (hR:WtOk R) (hn:R.length<=8) (hNN:HfL NN) (hW:W<=65536)
include hR hn hNN hW
theorem Qm6(nx0 hd hv:Nat)(HH:Nat->T O)(Nn:Nat->Nat)(L LY:List Nat)(hL:hv∈L)(hLY:SubL LY L)
  (hg: ∀k,k<=W->∃l:List Int,l.length=R.length/\gt (HH k) hv=some (rw3 l))
  (hy: ∀k,k<W->CallSpec Pg g0 (.yld hd) [.sl hv 0 R.length (some (R.length-R.length)),i6 (wgt R k)] (pt (HH k) hv (rw3 (wld R k))) (Nn k) ⟨.bool true,HH (k+1),Nn (k+1),LY⟩):
  Sat Pg none nx0 (at' 73 [1,1,0]) (mkSo g0 67 (woS g R.length (rtL R) q NN W hd hv 0) (HH 0) (Nn 0) []) (Qbq g0 67 (.exit 0) (fun _=>[]) (fun _ H nx lg=>H=HH W/\nx=Nn W/\SubL lg L)):=by
 have hRR:=Qah R
 refine(Qha (b:=at' 73 [1,1,0,0]) k_ (fun(k:Nat) M=>k<=W/\M.H=HH k/\M.nx=Nn k/\SubL M.lg L) (woS g R.length (rtL R) q NN W hd hv) (fun k=>W-k) (fun e sl M=>e= .exit 0/\sl=[]/\M.H=HH W/\M.nx=Nn W/\SubL M.lg L) (fun k H nx1 lg G hI hN hE hR2=>?_) 0 ⟨_,_,_⟩ ⟨Nat.zero_le _,rfl,rfl,fun g hg=>by cases hg⟩).mono ?_
 ·obtain ⟨hk, rfl, rfl, hs⟩ := hI
  dsimp only at hk hs
  by_cases hlt:k<W
  ·have hcall := hy k hlt
   obtain⟨l,hl,hgt⟩:=hg k hk
   have hdig:=Qlz g R q NN W hR hn hNN nx0 hd hv (Nn k) k o_ l hl (HH k) L lg hL hs
   rw[Qhn hgt]at hdig
   have jg:=fun lg' h=>hN (k+1) (HH (k+1)) (Nn (k+1)) lg' ⟨hlt,rfl,rfl,h⟩ o_
   generalize wgt R k=w at*
   generalize wld R k=l1 at*
   refine⟨[yes 16,nu 21 ((R.length:Int)-1),(0,.loopM (wjS g R.length (rtL R) q NN W hd hv k 1 k ((R.length:Int)-1)) (.exit 2) (fun _=>wxS g R.length (rtL R) q NN W hd hv k w) (wdQ (HH k) hv (Nn k) l1 L) (fun _ _ _ _=>[(64,.call ⟨.bool true,HH (k+1),Nn (k+1),LY⟩),nu 66 ((k+1:Nat):Int),toO (woS g R.length (rtL R) q NN W hd hv (k+1))]))],1000,?_⟩
   clear hN hE hR2 hR hy hg
   generalize rtL R=RR at*
   generalize R.length=n at*
   refine m_ (p:=let z0:=V.sl hv 0 n (some (n-n));let z2:=V.yld hd;let z3:=(1:Int);let z4:=V.im n RR;let z5:=V.im q NN;let z1:=((n:Int)-z3);An [decide ((k:Int)<(W:Int))=true,wr .i64 z1=(n:Int)-z3,Bn [z2=z2,Sm (V.imp [i6 g,z4,z5,i6 W]),z0=z0,Sm (i6 W),Sm (i6 k),Sm (i6 1),Sm (i6 k),Sm (i6 z1)],Sat Pg none nx0 (at' 73 [1,1,0,0,1,1,0,0,1,1,0,1,0]) (mkSo g0 67 (wjS g n RR q NN W hd hv k z3 k z1) (HH k) (Nn k) lg) (Qbq g0 67 (Ex.exit 2) (fun x=>wxS g n RR q NN W hd hv k w) (wdQ (HH k) hv (Nn k) l1 L)),∀(h:Nat)(H:T O)(nx:Nat)(lg:List Nat),(H=pt (HH k) hv (rw3 l1)/\nx=Nn k/\∀(g:Nat),List.Mem g lg->List.Mem g L)->Bn [CallSpec Pg g0 z2 [z0,i6 w] H nx (CR.mk (V.bool true) (HH (k+1)) (Nn (k+1)) LY),Tt,wr .i64 ((k:Int)+z3)=(↑(k+1):Int),G Ex.normal (woS g n RR q NN W hd hv (k+1)) (HH (k+1)) (Nn (k+1)) (LY++lg),z2=z2,Sm (V.imp [i6 g,z4,z5,i6 W]),z0=z0,Sm (i6 W),Sm (i6 ↑(k+1))]]) ?_
   (repeat'(first|(with_reducible apply And.intro)|(refine fun(_:True)=>?_)))<;>first|exact aq|skip
   all_goals first|exact hdig|skip
   all_goals(rintro h H nx' lg' ⟨rfl,rfl,hs'⟩;(repeat'(first|(with_reducible apply And.intro)|(refine fun(_:True)=>?_)));all_goals first|exact aq|exact hcall|(rw[wr6 o_ o_];rfl)|(refine jg _ (fun g hg=>?_);rcases List.mem_append.1 hg with hg|hg;exact hLY g hg;exact hs' g hg)|skip)
  ·have hk2 : k = W := by omega
   have hex:=hE 0 [] (HH k) (Nn k) lg ⟨rfl,rfl,by rw[hk2],by rw[hk2],hs⟩
   refine⟨[no 16,toO []],1000,?_⟩
   clear hN hE hR2 hR hy hg
   generalize rtL R=RR at*
   generalize R.length=n at*
   refine m_ (p:=Bn [decide ((k:Int)<(W:Int))=false,G (Ex.exit 0) [] (HH k) (Nn k) lg]) ?_
   (repeat'(first|(with_reducible apply And.intro)|(refine fun(_:True)=>?_)))<;>first|exact aq|skip
   all_goals first|exact hex|skip
 ·rintro e st ⟨sl', M', rfl, rfl, rfl, hQ⟩
  exact⟨0,_,_,_,rfl,rfl,hQ⟩
theorem Qp8(hd nx0:Nat)(H0:T O)(HH:Nat->T O)(Nn:Nat->Nat)(LY:List Nat)(e0:HH 0=pt H0 nx0 (rw3 (List.replicate R.length 0)))(en:Nn 0=nx0+1)
  (hg: ∀k,k<=W->∃l:List Int,l.length=R.length/\gt (HH k) nx0=some (rw3 l))
  (hy: ∀k,k<W->CallSpec Pg g0 (.yld hd) [.sl nx0 0 R.length (some (R.length-R.length)),i6 (wgt R k)] (pt (HH k) nx0 (rw3 (wld R k))) (Nn k) ⟨.bool true,HH (k+1),Nn (k+1),LY⟩)
  (hlog:Log H0.get nx0 (HH W).get (Nn W) (nx0::LY)):
  CallSpec Pg g0 (.fn 73 [.imp [i6 g,.im R.length (rtL R),.im q NN,i6 (W:Nat)]]) [.yld hd] H0 nx0 ⟨.tup [],HH W,Nn W,nx0::LY⟩:=by
 refine CallSpec.caps ?_
 have hRR:=Qah R
 have l:=Qm6 g R q NN W hR hn hNN hW nx0 hd nx0 HH Nn (nx0::LY) LY (by simp) (fun g hg=>List.mem_cons_of_mem _ hg) hg hy
 have hz:rw3 (List.replicate R.length 0)= .row 3 none (rep R.length [i6 0]):=by rw[Qay]
 rw[e0,en,hz]at l
 refine CallSpec.of_vcS vE_ok mixed Qab (n:=1000) (hs:=[mk 12,(0,.loopM (woS g R.length (rtL R) q NN W hd nx0 0) (.exit 0) (fun _=>[]) (fun _ H nx lg=>H=HH W/\nx=Nn W/\SubL lg (nx0::LY)) (fun _ _ _ _=>[]))]) hlog ?_
 clear hy hlog hg e0 en hR
 generalize rtL R=RR at*
 generalize R.length=n at*
 refine m_ (p:=let z0:=(n:Int);let z1:=V.sl nx0 0 n (some (n-n));An [An [(0:Int)<=z0,z0<=z0,((8:Nat):Int)*z0<=281474976710656,z0<=9223372036854775807],Bn [Sm (V.yld hd),Sm (V.imp [i6 g,V.im n RR,V.im q NN,i6 W]),z1=z1,Sm (i6 W),i6 0=i6 ↑(0:Nat)],Sat Try.prog none nx0 (at' 73 [1,1,0]) (mkSo g0 67 (woS g n RR q NN W hd nx0 0) (pt H0 nx0 (O.row 3 none (rep n [i6 0]))) (nx0+1) []) (Qbq g0 67 (Ex.exit 0) (fun x=>[]) fun x H nx lg=>H=HH W/\nx=Nn W/\SubL lg (nx0::LY)),∀(h:Nat)(H:T O)(nx:Nat)(lg:List Nat),(H=HH W/\nx=Nn W/\∀(g:Nat),List.Mem g lg->List.Mem g (nx0::LY))->V.tup []=V.tup []/\H=HH W/\nx=Nn W/\∀(g:Nat),List.Mem g lg->List.Mem g (nx0::LY)]) ?_
 (repeat'(first|(with_reducible apply And.intro)|(refine fun(_:True)=>?_)))<;>first|exact aq|skip
 all_goals first|exact l|(rintro h H nx lg ⟨rfl,rfl,hs'⟩;(repeat'(first|(with_reducible apply And.intro)|(refine fun(_:True)=>?_)));all_goals first|rfl|exact trivial|exact hs'|skip)|skip
end
theorem Qu5(g:Int)(n:Nat)(RR:List V)(hR:HfL RR)(q:Nat)(NN:List V)(hN:HfL NN)(W:Int):FnOk Pg g0 43 [.agg [i6 g,.im n RR,.im q NN,i6 W]] (.fn 73 [.imp [i6 g,.im n RR,.im q NN,i6 W]]):=by
 refine FnOk.of_vc vE_ok mixed Qab (n:=1000) (r:=[]) (S:={sl:=[(2,.fn 73 [.imp [i6 g,.im n RR,.im q NN,i6 W]])]}) (hs:=[]) ?_
 refine m_ (p:=let z0:=[i6 g,V.im n RR,V.im q NN,i6 W];Bn [Sm (V.fn 73 [V.imp z0]),Bn [Bn [An [z0=z0,TT 4]]]]) ?_
 (repeat'(first|(with_reducible apply And.intro)|(refine fun(_:True)=>?_)))<;>first|exact aq|skip
 all_goals skip
def allI(c:List V):Prop:=∀x∈c,∃k m,x=V.int k m
theorem Qkp(l:List Int):allI (ints l):=fun x hx=>by
 obtain⟨n,_,rfl⟩:=List.mem_map.1 hx
 exact⟨_,_,rfl⟩
theorem Qmo{s s':Sig}{w:World}{b:Nat}(hb:s'.fz b): ∀(l:List V)(off:Nat),allI l->RC s w l b off->RC s' w l b off
 |[],_,_,_=>trivial
 |x::l,off,h,⟨⟨_,u,h2,h3⟩,hr⟩=>by
  obtain⟨k,m,rfl⟩:=h x List.mem_cons_self
  exact⟨⟨hb,u,h2,h3⟩,Qmo hb l _ (fun y hy=>h y (List.mem_cons_of_mem _ hy)) hr⟩
theorem Qog{o:O}:(ofOs .e 0 [o]).get 0=some o:=by
 rw[Qfh _ _ _ _ (Nat.le_refl _) (by simp)];rfl
theorem frameZ{P:Program}{gl:T (List V)}{f:Nat}{ars ars':List V}{n t:Nat}{sp:Option Nat}{c:List V}{H:T O}{nx:Nat}(h:CallSpec P gl (.fn f []) ars .e 0 ⟨.sl 0 0 n none,ofOs .e 0 [.row t sp c],1,[]⟩)(hv:ViewL H.get (fun _=>True) (fun _=>none) ars ars')(hci:allI c)(hn:c.length=n):CallSpec P gl (.fn f []) ars' H nx ⟨.im n c,H,nx,[]⟩:=by
 refine⟨fun s w fv jj hc jy hH hgl hnn=>?_,Log.refl _ _ _⟩
 obtain⟨F,hFd⟩: ∃F:Nat->Prop,F=fun b=>s.fz b\/∃g t sp c,H.get g=some (.row t sp c)/\b=s.μ g:=⟨_,rfl⟩
 have hF1: ∀b,s.fz b->F b:=fun b hb=>by rw[hFd];exact .inl hb
 have hF2: ∀b,F b->b<w.heap.size:=fun b hb=>by
  rw[hFd]at hb
  rcases hb with hb|⟨g,t,sp,c,hg,rfl⟩
  ·exact hH.old b (.inl hb)
  ·exact(hH.obj _ _ hg rfl).2.1
 have hF3:RL (sg F) w ars jj.toList:=ViewL.rl hH (s':=sg F) ⟨fun _ _ e=>(by cases e),fun g t sp c _ hg=>by rw[hFd];exact .inr ⟨g,t,sp,c,hg,rfl⟩,hF1⟩ _ _ _ hv jy
 obtain⟨next,e1,e2,e3⟩:=h.1 (sg F) w fv jj (Hf.rv (s':=sg F) hF1 _ _ trivial hc) hF3 (Qle (fun b hb=>hb.elim (hF2 b) False.elim)) (fun g l hg=>RC.mono' (s':=sg F) hF1 (fun _ _=>rfl) l g 0 (hgl g l hg)) (fun _ _ h=>h)
 refine⟨next,e1,?_,e3⟩
 obtain⟨f',ars2,rfl⟩:=e3 ⟨f,[],rfl⟩
 refine CallsIn.mono e2 ?_
 rintro e w' ⟨u,s',rfl,g1,g2,g3,g4,g5⟩
 obtain⟨o1,o2,o3,o4⟩:=g2.obj 0 _ Qog rfl
 have xn:w.heap.size<=s'.μ 0:=by
  rcases g3.new 0 o1 (fun h=>h)with h|⟨k,hk,_⟩
  ·exact h
  ·cases hk
 obtain⟨r1,_⟩:=hH.below (w':=w') ⟨g3.mod.os,g3.mod.tape,g3.mod.output,g3.mod.size,fun k hk=>g3.mod.block k hk (fun⟨_,hm,_⟩=>by cases hm)⟩
 have hsz:=g3.mod.size
 have hview:View (ofOs .e 0 [.row t sp c]).get (fun _=>True) (fun _=>none) (.im n c) (.sl 0 0 n none):=.inr (.inr ⟨0,0,none,t,sp,c,rfl,trivial,Qog,by
  have: ∀l:List V,allI l->ViewP (ofOs .e 0 [.row t sp c]).get (fun _=>True) l l:=by
   intro l
   induction l with
   |nil=>exact fun _=>trivial
   |cons x l ih=>
    intro h
    obtain⟨k,m,rfl⟩:=h x List.mem_cons_self
    exact⟨_,_,rfl,rfl,ih fun y hy=>h y (List.mem_cons_of_mem _ hy)⟩
  exact this c hci⟩)
 have hrv:RV {s' with fz:=fun b=>s'.fz b\/b=s'.μ 0} w' (.im n c) u:=View.rv (s':={s' with fz:=fun b=>s'.fz b\/b=s'.μ 0}) g2 ⟨fun _ _ e=>(by cases e),fun g t2 sp2 c2 _ hg=>by
  have h0:g=0:=by
   rcases ofOs_get _ _ _ _ _ hg with⟨_,hm⟩|hm
   ·have := (List.getElem?_eq_some_iff.1 hm).1
    simp at this;omega
   ·simp at hm
  subst h0;exact .inr rfl,fun b hb=>.inl hb⟩ _ _ _ hview g1
 refine⟨u,{s with fz:=fun b=>s.fz b\/b=s'.μ 0},rfl,?_,⟨fun i o ho hl=>?_,r1.inj,fun b hb=>?_⟩,⟨⟨⟨fun _ _=>rfl,fun _ _=>rfl,fun _ h=>h,fun b hb=>.inl hb⟩,fun _ h=>h⟩,fun b hb=>hb.elim .inl (fun e=>.inr (.inl (by rw[e];exact xn))),fun b hb=>?_,⟨g3.mod.os,g3.mod.tape,g3.mod.output,hsz,fun k hk _=>g3.mod.block k hk (fun⟨_,hm,_⟩=>by cases hm)⟩,fun i hi hno=>absurd hi hno⟩,fun i=>⟨.inl,fun h=>h.elim id (fun⟨a,b⟩=>absurd b (by dsimp only;omega))⟩,Nat.le_refl _⟩
 ·obtain ⟨a, cap, hu, hle, hrc⟩ := hrv
  refine⟨a,cap,hu,hle,fun hn0=>?_⟩
  obtain⟨b,off,ha,hr⟩:=hrc hn0
  have hb:b=s'.μ 0:=by
   obtain⟨_,cap2,hu2,_⟩:=g1
   rw[hu2]at hu
   injection hu with h1
   rw[ha]at h1
   injection h1 with h2
   injection h2 with h3
   exact h3.symm
  exact⟨b,off,ha,Qmo (s':={s with fz:=fun b=>s.fz b\/b=s'.μ 0}) (Or.inr hb) _ _ hci hr⟩
 ·obtain ⟨a1, a2, a3, a4⟩ := r1.obj i o ho hl
  have a2':=(hH.obj i o ho hl).2.1
  refine⟨a1,a2,?_,RO.mono' (s:=s) (s':={s with fz:=fun b=>s.fz b\/b=s'.μ 0}) ⟨fun _ _=>rfl,fun _ _=>rfl,fun _ h=>h,fun b hb=>.inl hb⟩ (fun _ _=>rfl) a1 a4 (fun _=>rfl)⟩
  rintro((hf|hf)|hm)
  ·exact a3 (.inl hf)
  ·dsimp only at hf;omega
  ·exact a3 (.inr hm)
 ·rcases hb with (hb | hb) | hb
  ·exact r1.old b (.inl hb)
  ·rw[hb];exact o2
  ·exact r1.old b (.inr hb)
 ·exact g3.mod.block b (hH.old b hb) (fun⟨_,hm,_⟩=>by cases hm)
set_option maxHeartbeats 1000000
set_option maxRecDepth 100000
theorem run_at{g:Int}{R:List (List Int)}{N:List Mc}{W:Int}{s u:List Int}(hN:NdOk R N)(hu:Qki R u)(hs:SetL N s){H:T O}{nx hv:Nat}{t:Nat}{sp room:Option Nat}(hg:gt H hv=some (.row t sp (ints u))):
  CallSpec Pg g0 (.fn 44 []) [.agg [i6 g,.im R.length (rtL R),.im N.length (mcL N),i6 W],.sl hv 0 R.length room,sl s] H nx ⟨.im N.length (ints (solL N R s u)),H,nx,[]⟩:=by
 have hRR:=Qah R
 have hNN:=Qaj N
 rw[Qak]at hg
 have e:sl u= .im R.length (ints u):=by show V.im u.length _=_;rw[hu.1]
 have h:=run_own g R N W s u hN hu hs
 rw[e]at h
 refine frameZ h ⟨_,_,rfl,View.of_hf _ ⟨trivial,trivial,trivial,trivial,trivial⟩,_,_,rfl,.inr (.inr ⟨hv,0,room,t,sp,ints u,rfl,trivial,hg,?_⟩),_,_,rfl,View.of_hf _ trivial,rfl⟩ (Qkp _) (by rw[Qbs,Qc7])
 exact ViewP.of_hf _ (Qaa u)
theorem Qai(os:List O)(i:Nat):(ofOs .e 0 os).get i=os[i]? :=by
 by_cases hi:i<os.length
 ·rw[Qfh _ _ _ _ (Nat.zero_le _) o_,Nat.sub_zero]
 ·rw[Qjq o_,List.getElem?_eq_none o_]
def wsum(R:List (List Int))(f:Nat->Bool):Nat->Int
 |0=>0
 |k+1=>if f k=true then wsum R f k+wgt R k else wsum R f k
def dsum(R:List (List Int)):Nat->Int
 |0=>0
 |k+1=>dsum R k+wgt R k
theorem Qu2{R:List (List Int)}(h:WtOk R)(hn:R.length<=8)(x:Nat):0<=wgt R x/\wgt R x<=429981696:=by
 have h1:=wq_bd h (x:=x) R.length (Nat.le_refl _)
 have h12:12^R.length<=12^8:=Nat.pow_le_pow_right d_ hn
 have h128:12^8=429981696:=rfl
 unfold wgt
 omega
theorem Qkf{R:List (List Int)}(h:WtOk R)(hn:R.length<=8)(f:Nat->Bool): ∀k,0<=wsum R f k/\wsum R f k<=k*429981696
 |0=>by simp[wsum]
 |k+1=>by
  have h1:=Qkf h hn f k
  have h2:=Qu2 h hn k
  unfold wsum
  split<;>omega
def lstK(R:List (List Int)):Nat->List Int
 |0=>List.replicate R.length 0
 |k+1=>wld R k
theorem lstK_len{R:List (List Int)}: ∀k,(lstK R k).length=R.length
 |0=>by simp[lstK]
 |k+1=>Qda
section
variable (g:Int) (R:List (List Int)) (N:List Mc) (W:Nat) (s p:List Int) (hN:NdOk R N) (hs:SetL N s) (hp:p.length=N.length) (hR:WtOk R) (hW:W<=1024)
include hN hs hp hR hW
end
set_option maxHeartbeats 1000000
set_option maxRecDepth 100000
def plcK(N:List Mc)(v:List Int):Nat->Int
 |0=>0
 |k+1=>plcK N v k*(N.getD k mc0).c+v.getD k 0
theorem Qjz{N:List Mc}{v:List Int}(hc: ∀k,k<N.length->1<=(N.getD k mc0).c/\(N.getD k mc0).c<=4)(hv: ∀k,k<N.length->0<=v.getD k 0/\v.getD k 0<(N.getD k mc0).c): ∀k,k<=N.length->0<=plcK N v k/\plcK N v k<crdP N k
 |0,_=>by simp[plcK,crdP]
 |k+1,h=>by
  obtain⟨h1,h2⟩:=Qjz hc hv k o_
  obtain⟨h3,h4⟩:=hv k o_
  show 0<=plcK N v k*(N.getD k mc0).c+v.getD k 0/\plcK N v k*(N.getD k mc0).c+v.getD k 0<crdP N k*(N.getD k mc0).c
  generalize plcK N v k=a at*
  generalize v.getD k 0=b at*
  generalize (N.getD k mc0).c=c at*
  generalize crdP N k=p at*
  have e1:(a+1)*c<=p*c:=Int.mul_le_mul_of_nonneg_right o_ o_
  have e2:(a+1)*c=a*c+c:=by rw[Int.add_mul,Int.one_mul]
  have e3:0<=a*c:=Int.mul_nonneg h1 o_
  omega
def preL(f:Nat->Int)(n k:Nat):List Int:=(List.range n).map fun i=>if i<k then f i else 0
theorem Qa0{f:Nat->Int}{n k:Nat}:(preL f n k).length=n:=by simp[preL]
theorem Qcg{f:Nat->Int}{n:Nat}:preL f n 0=List.replicate n 0:=by
 unfold preL
 rw[List.eq_replicate_iff]
 refine⟨by simp,fun b hb=>?_⟩
 obtain⟨i,_,rfl⟩:=List.mem_map.1 hb
 rfl
theorem Qdz{f:Nat->Int}{n k:Nat}:(preL f n k).set k (f k)=preL f n (k+1):=by
 apply List.ext_getElem?
 intro i
 unfold preL
 rw[List.getElem?_set]
 by_cases hik:k=i
 ·subst hik
  rw[if_pos rfl]
  by_cases hn:k<n
  ·rw [if_pos (by simpa using hn), List.getElem?_map, List.getElem?_eq_getElem (by simpa using hn)]
   simp
  ·rw[if_neg (by simpa using hn),List.getElem?_eq_none (by simpa using hn)]
 ·rw [if_neg hik]
  simp only[List.getElem?_map]
  cases h:(List.range n)[i]? with
  |none=>rfl
  | some x =>
   have:x=i:=by
    obtain⟨h1,h2⟩:=List.getElem?_eq_some_iff.1 h
    simpa using h2.symm
   subst this
   simp only[Option.map_some]
   congr 1
   by_cases h1:x<k
   ·rw[if_pos h1,if_pos o_]
   ·rw[if_neg h1,if_neg o_]
theorem Qe2{f:Nat->Int}{n:Nat}:preL f n n=(List.range n).map f:=by
 unfold preL
 apply List.map_congr_left
 intro i hi
 rw[if_pos (List.mem_range.1 hi)]
def tabL(R:List (List Int))(f:Nat->Nat)(n k:Nat):List Int:=(List.range n).map fun i=>wsum R (fun x=>decide (f x=i)) k
theorem Qe6{R:List (List Int)}{f:Nat->Nat}{n k:Nat}:(tabL R f n k).length=n:=by simp[tabL]
theorem Qhw{R:List (List Int)}{f:Nat->Nat}{n k i:Nat}(h:i<n):(tabL R f n k).getD i 0=wsum R (fun x=>decide (f x=i)) k:=by
 unfold tabL
 rw[List.getD_eq_getElem?_getD,List.getElem?_map,List.getElem?_eq_getElem (by simpa using h)]
 simp
theorem Qud{R:List (List Int)}{f:Nat->Nat}{n:Nat}:tabL R f n 0=List.replicate n 0:=by
 unfold tabL
 rw[List.eq_replicate_iff]
 refine⟨by simp,fun b hb=>?_⟩
 obtain⟨i,_,rfl⟩:=List.mem_map.1 hb
 rfl
theorem tabL_set{R:List (List Int)}{f:Nat->Nat}{n k:Nat}(h:f k<n):(tabL R f n k).set (f k) ((tabL R f n k).getD (f k) 0+wgt R k)=tabL R f n (k+1):=by
 rw[Qhw h]
 apply List.ext_getElem?
 intro i
 rw[List.getElem?_set]
 by_cases hik:f k=i
 ·subst hik
  rw[if_pos rfl,if_pos (by rw[Qe6];exact h)]
  unfold tabL
  rw[List.getElem?_map,List.getElem?_eq_getElem (by simpa using h)]
  simp[wsum]
 ·rw [if_neg hik]
  unfold tabL
  simp only[List.getElem?_map]
  cases h2:(List.range n)[i]? with
  |none=>rfl
  | some x =>
   have:x=i:=by
    obtain⟨h1,h3⟩:=List.getElem?_eq_some_iff.1 h2
    simpa using h3.symm
   subst this
   simp only[Option.map_some,wsum]
   rw[if_neg (by simpa using hik)]
abbrev facO(n:Nat)(z:V):O:=.row 66 none [.sl 3 0 n (some (n-n)),.sl 4 0 n (some (n-n)),z]
abbrev taO(g:Int)(n:Nat)(R:List V)(q:Nat)(N:List V)(W:Int)(s:List Int)(a b:List Int)(z:V):List O:=
 [.row 36 none [sl s],.row 66 none [.nils,.nils,.nils],knP g n R q N W,rw3 a,rw3 b,facO q z]
abbrev taX(g:Int)(n:Nat)(R:List V)(q:Nat)(N:List V)(W:Int)(s:List Int)(p:Int)(a b:List Int):SL:={sl:=[(3,.ptr 0 0),(4,.ptr 1 0),(6,.ptr 2 0),(8,i6 p),(9,.ptr 5 0)],os:=taO g n R q N W s a b .nils,md:=[0,0,0,0,0,1]}
abbrev taS(g:Int)(n:Nat)(R:List V)(q:Nat)(N:List V)(W:Int)(s:List Int)(x:Nat×Int×List Int×List Int):SL:={sl:=[(3,.ptr 0 0),(4,.ptr 1 0),(6,.ptr 2 0),(8,i6 x.2.1),(9,.ptr 5 0),(41,.im q N),(42,i6 (q:Nat)),(43,i6 (x.1:Nat))],os:=taO g n R q N W s x.2.2.1 x.2.2.2 .nils,md:=[0,0,0,0,0,1]}
section
variable (g:Int) (R:List (List Int)) (N:List Mc) (W:Int) (s:List Int) (hq:N.length<=5) (hc: ∀k,k<N.length->1<=(N.getD k mc0).c/\(N.getD k mc0).c<=4)
include hq hc
theorem ta_loop:Sat Pg none 0 (at' 19 [1,1,1,1,1,0,1,0]) (mkSt g0 100 (taS g R.length (rtL R) N.length (mcL N) W s (0,1,preL (fun i=>(i:Int)) N.length 0,preL (fun i=>(N.getD i mc0).c) N.length 0))) (Qad g0 100 [(True,.exit 0,taX g R.length (rtL R) N.length (mcL N) W s (crdP N N.length) (preL (fun i=>(i:Int)) N.length N.length) (preL (fun i=>(N.getD i mc0).c) N.length N.length))]):=by
 have hRR:=Qah R
 have hNN:=Qaj N
 have hss:=Qaa s
 refine Qav vE_ok mixed Qab (b:=at' 19 [1,1,1,1,1,0,1,0,0]) k_ (fun x=>x.1<=N.length/\x.2.1=crdP N x.1/\x.2.2.1=preL (fun i=>(i:Int)) N.length x.1/\x.2.2.2=preL (fun i=>(N.getD i mc0).c) N.length x.1) (taS g R.length (rtL R) N.length (mcL N) W s) (fun x=>N.length-x.1) (fun x hx=>?_) (0,1,preL (fun i=>(i:Int)) N.length 0,preL (fun i=>(N.getD i mc0).c) N.length 0) ⟨Nat.zero_le _,rfl,rfl,rfl⟩
 obtain⟨k,p,a,b⟩:=x
 obtain⟨hk,h1,h2,h3⟩:=hx
 dsimp only at hk h1 h2 h3
 by_cases hlt:k<N.length
 ·have hld := Qc8 hlt
  have hcb:=Qeg hc (k+1) hlt
  have h45:(4:Int)^(k+1)<=4^5:=by
   have:=Nat.pow_le_pow_right (show 4>0 by decide) (show k+1<=5 by omega)
   exact_mod_cast this
  have h46:(4:Int)^5=1024:=rfl
  have e1:crdP N (k+1)=crdP N k*(N.getD k mc0).c:=rfl
  have la:a.length=N.length:=by rw[h2,Qa0]
  have lb:b.length=N.length:=by rw[h3,Qa0]
  have ea:=Qdz (f:=fun i=>(i:Int)) (n:=N.length) (k:=k)
  have eb:=Qdz (f:=fun i=>(N.getD i mc0).c) (n:=N.length) (k:=k)
  rw[<-h2]at ea
  rw[<-h3]at eb
  try dsimp only at ea eb
  have s1:=Qa3 (l:=a) (j:=k) (x:=(k:Int)) o_
  have s2:=Qa3 (l:=b) (j:=k) (x:=(N.getD k mc0).c) o_
  rw[ea]at s1
  rw[eb]at s2
  rw[h1]
  have hnx:(k+1<=N.length/\crdP N (k+1)=crdP N (k+1)/\preL (fun i=>(i:Int)) N.length (k+1)=preL (fun i=>(i:Int)) N.length (k+1)/\preL (fun i=>(N.getD i mc0).c) N.length (k+1)=preL (fun i=>(N.getD i mc0).c) N.length (k+1)):=⟨hlt,rfl,rfl,rfl⟩
  have la2:(preL (fun i=>(i:Int)) N.length (k+1)).length=N.length:=Qa0
  have lb2:(preL (fun i=>(N.getD i mc0).c) N.length (k+1)).length=N.length:=Qa0
  refine .inl ⟨(k+1,crdP N (k+1),preL (fun i=>(i:Int)) N.length (k+1),preL (fun i=>(N.getD i mc0).c) N.length (k+1)),[0,1,2,3,4,5],[yes 44,pl 46,ld 47 (.agg (mcC (N.getD k mc0))),pl 57,st (ints (preL (fun i=>(i:Int)) N.length (k+1))),pl 58,st (ints (preL (fun i=>(N.getD i mc0).c) N.length (k+1))),nu 62 (crdP N (k+1)),nu 63 ((k+1:Nat):Int)],1000,hnx,by dsimp only;omega,?_⟩
  clear hnx ea eb h2 h3
  generalize preL (fun i=>(i:Int)) N.length (k+1)=a2 at*
  generalize preL (fun i=>(N.getD i mc0).c) N.length (k+1)=b2 at*
  have hb1:=Qaa a
  have hb2:=Qaa b
  have hb3:=Qaa a2
  have hb4:=Qaa b2
  generalize hxe:N.getD k mc0=x at*
  obtain⟨c,fr,nz,ou⟩:=x
  dsimp only at*
  have i1:=Qaa fr
  have i2:=Qaa nz
  have i3:=Qaa ou
  have hck:=hc k hlt
  rw[hxe]at hck
  dsimp only at hck
  clear hc
  generalize crdP N (k+1)=p1 at*
  generalize crdP N k=p0 at*
  generalize mcL N=NN at*
  generalize rtL R=RR at*
  generalize N.length=n at*
  refine m_ (p:=let z0:=(k:Int);let z1:=(n:Int);let z2:=[i6 g,V.im R.length RR,V.im n NN,i6 W];let z3:=(↑(k+1):Int);let z4:=[V.nils,V.nils,V.nils];Bn [decide (z0<z1)=true,An [(0:Int)<=z0,z0<z1],takeE 4 (List.drop (k*4) NN)=some (mcC (Mc.mk c fr nz ou)),An [(0:Int)<=z0,z0<z1],layE (0+k*1) (ints a) [i6 k]=some (ints a2),An [(0:Int)<=z0,z0<z1],layE (0+k*1) (ints b) [i6 c]=some (ints b2),wr .i64 (p0*c)=p1,wr .i64 (z0+1)=z3,Bn [Zz,Zz,Zz,p1=p1,Zz,An [n=n,NN=NN],z1=z1,z3=z3],Bn [Sm [sl s],Tt],An [z4=z4,TT 3],An [z2=z2,TT 4],An [Sm (ints a2),HfL (ints a2)],An [Sm (ints b2),HfL (ints b2)],Bn [An [Zz,n=n,Sm (n-n)],An [Zz,n=n,Sm (n-n)],Tt]]) ?_
  (repeat'(first|(with_reducible apply And.intro)|(refine fun(_:True)=>?_)))<;>first|exact aq|skip
  all_goals first|exact s1|exact s2|(rw[<-e1,wr6 o_ o_];done)|skip
 ·have hk2 : k = N.length := by omega
  subst hk2
  subst h1 h2 h3
  refine .inr ⟨.exit 0,[0,1,2,3,4,5],_,[no 44],1000,.inl ⟨trivial,rfl,rfl⟩,?_⟩
  generalize preL (fun i=>(i:Int)) N.length N.length=a2 at*
  generalize preL (fun i=>(N.getD i mc0).c) N.length N.length=b2 at*
  have hb3:=Qaa a2
  have hb4:=Qaa b2
  clear hc
  generalize crdP N N.length=p1 at*
  generalize mcL N=NN at*
  generalize rtL R=RR at*
  generalize N.length=n at*
  refine m_ (p:=Bn [decide ((n:Int)<(n:Int))=false,Bn [Zz,Zz,Zz,p1=p1,Zz],Bn [Sm [sl s],Tt],An [Sm [V.nils,V.nils,V.nils],TT 3],An [Sm [i6 g,V.im R.length RR,V.im n NN,i6 W],TT 4],An [Sm (ints a2),HfL (ints a2)],An [Sm (ints b2),HfL (ints b2)],Bn [An [Zz,n=n,Sm (n-n)],An [Zz,n=n,Sm (n-n)],Tt]]) ?_
  (repeat'(first|(with_reducible apply And.intro)|(refine fun(_:True)=>?_)))<;>first|exact aq|skip
  all_goals skip
end
set_option maxHeartbeats 1000000
set_option maxRecDepth 100000
noncomputable abbrev tbC:Code:=at' 19 [1,1,1,1,1,1,1,0,1,0]
theorem tb_eq:tbC= .rangeFunc (.tmp 68) #[69,70] (Qeh tbC) (Qbb tbC):=by kernel_rfl
noncomputable def tbB:Code:=Qbb tbC
noncomputable def tbA:Code:=Qeh tbC
abbrev tbF(n z:Nat):V:=.sl 6 0 z (some (z-z))
abbrev tbO(g:Int)(n:Nat)(R:List V)(q:Nat)(N:List V)(W:Int)(s:List Int)(a b:List Int)(z:Nat)(w:List Int):List O:=taO g n R q N W s a b (tbF q z)++[rw3 w]
abbrev tb0(n:Nat)(w:Int):List (Nat×V):=[(3,.ptr 0 0),(4,.ptr 1 0),(6,.ptr 2 0),(9,.ptr 5 0),(69,.sl 8 0 n (some (n-n))),(70,i6 w)]
abbrev tb1(n:Nat)(w:Int):List (Nat×V):=[(3,.ptr 0 0),(4,.ptr 1 0),(6,.ptr 2 0),(9,.ptr 5 0),(12,.sl 8 0 n (some (n-n))),(13,i6 w)]
theorem tb_asg(n:Nat)(w:Int)(H:T O)(nx:Nat):vc Pg vE sp0 (some 7) nx 1000 tbA [] (mkSo g0 100 (tb0 n w) H nx []) (kAsg 100 (tb1 n w) H nx):=by
 refine m_ (p:=An [Bn [Sm (V.ptr 0 0),Sm (V.ptr 1 0),Sm (V.ptr 2 0),Sm (V.ptr 5 0),Sm (V.sl 8 0 n (some (n-n))),Sm (i6 w)],H=H,nx=nx,([]:List Nat)=[]]) ?_
 (repeat'(first|(with_reducible apply And.intro)|(refine fun(_:True)=>?_)))<;>first|exact aq|skip
 all_goals skip
abbrev tbS(q:Nat)(L:List V)(w:Int)(k:Nat)(x:Int):List (Nat×V):=[(9,.ptr 5 0),(13,i6 w),(14,i6 x),(74,.im q L),(75,i6 (q:Nat)),(76,i6 (k:Nat))]
theorem tb_in(nx0:Nat)(N:List Mc)(v b:List Int)(w:Int)(hc: ∀k,k<N.length->1<=(N.getD k mc0).c/\(N.getD k mc0).c<=4)(hq:N.length<=5)(hv: ∀k,k<N.length->0<=v.getD k 0/\v.getD k 0<(N.getD k mc0).c)(hl:v.length=N.length)(hb:b.length=N.length)(hbv: ∀k,k<N.length->b.getD k 0=(N.getD k mc0).c)(H:T O)(nx:Nat)(lg:List Nat)(z:V)(h5:gt H 5=some (facO N.length z))(h4:gt H 4=some (rw3 b)):
  Sat Pg (some 7) nx0 (sub [0,1,0,1,0] (Qbb tbC)) (mkSo g0 100 (tbS N.length (ints v) w 0 0) H nx lg) (Qjt g0 100 H nx lg [(True,.exit 4,[(9,.ptr 5 0),(13,i6 w),(14,i6 (plcK N v N.length))])]):=by
 refine loopFr (b:=sub [0,1,0,1,0,0] (Qbb tbC)) k_ (fun x=>x.1<=N.length/\x.2=plcK N v x.1) (fun(x:Nat×Int)=>tbS N.length (ints v) w x.1 x.2) (fun x=>N.length-x.1) _ H nx lg (fun x G hI hN hE=>?_) (0,0) ⟨Nat.zero_le _,rfl⟩
 obtain⟨k,x⟩:=x
 obtain⟨hk,hx0⟩:=hI
 dsimp only at hk hx0
 subst hx0
 by_cases hlt:k<N.length
 ·have s1 := Qag (l := v) (k := k) o_
  have s2:=Qbo (l:=b) (k:=k) o_
  rw[hbv k hlt]at s2
  have hck:=hc k hlt
  have hvk:=hv k hlt
  have b0:=Qjz hc hv k hk
  have b1:=Qjz hc hv (k+1) hlt
  have c1:=Qeg hc (k+1) hlt
  have c0:=Qeg hc k hk
  have h45:(4:Int)^(k+1)<=4^5:=by
   have:=Nat.pow_le_pow_right (show 4>0 by decide) (show k+1<=5 by omega)
   exact_mod_cast this
  have h44:(4:Int)^k<=4^5:=by
   have:=Nat.pow_le_pow_right (show 4>0 by decide) (show k<=5 by omega)
   exact_mod_cast this
  have h46:(4:Int)^5=1024:=rfl
  have e1:plcK N v (k+1)=plcK N v k*(N.getD k mc0).c+v.getD k 0:=rfl
  have e2:crdP N (k+1)=crdP N k*(N.getD k mc0).c:=rfl
  have jg:=hN (k+1,plcK N v (k+1)) ⟨hlt,rfl⟩ (by dsimp only;omega)
  dsimp only at jg
  have hm0:0<=plcK N v k*(N.getD k mc0).c:=Int.mul_nonneg b0.1 o_
  refine⟨[yes 77,pl 79,ld 80 (i6 (v.getD k 0)),lo_ 83 (facO N.length z) (.sl 4 0 N.length (some (N.length-N.length))),pl 85,lo_ 86 (rw3 b) (i6 (N.getD k mc0).c),nu 87 (plcK N v k*(N.getD k mc0).c),nu 89 (plcK N v (k+1)),nu 90 ((k+1:Nat):Int),toO (tbS N.length (ints v) w (k+1) (plcK N v (k+1)))],1000,?_⟩
  clear hN hE hc hv hbv
  generalize plcK N v (k+1)=p1 at*
  generalize plcK N v k=p0 at*
  generalize (N.getD k mc0).c=c at*
  generalize v.getD k 0=y at*
  generalize N.length=n at*
  have hvv:=Qaa v
  refine m_ (p:=let z0:=(k:Int);let z1:=some (n-n);let z2:=(n:Int);Bn [decide (z0<z2)=true,An [(0:Int)<=z0,z0<z2],headF (List.drop (k*1) (ints v))=some (i6 y),gt H 5=some (facO n z),headF (dropF 1 [V.sl 3 0 n z1,V.sl 4 0 n z1,z])=some (V.sl 4 0 n z1),An [(0:Int)<=z0,z0<z2],gt H 4=some (rw3 b),headF (dropF (0+k*1) (ints b))=some (i6 c),wr .i64 (p0*c)=p0*c,wr .i64 (p0*c+y)=p1,wr .i64 (z0+1)=(↑(k+1):Int),G Ex.normal (tbS n (ints v) w (k+1) p1) H nx lg,Sm (V.ptr 5 0),Sm (i6 w),Sm (i6 p1),Sm (V.im n (ints v)),Sm (i6 n),Sm (i6 ↑(k+1))]) ?_
  (repeat'(first|(with_reducible apply And.intro)|(refine fun(_:True)=>?_)))<;>first|exact aq|skip
  all_goals first|exact s1|exact s2|exact h5|exact h4|exact jg|(rw[wr6 o_ o_];done)|(rw[<-e1,wr6 o_ o_];done)|rfl|kernel_rfl|skip
 ·have hk2 : k = N.length := by omega
  subst hk2
  have hex:=hE 4 _ (.inl ⟨trivial,rfl,rfl⟩)
  refine⟨[no 77,toO [(9,.ptr 5 0),(13,i6 w),(14,i6 (plcK N v N.length))]],1000,?_⟩
  clear hN hE hc hv hbv
  generalize plcK N v N.length=p0 at*
  generalize N.length=n at*
  have hvv:=Qaa v
  refine m_ (p:=Bn [decide ((n:Int)<(n:Int))=false,G (Ex.exit 4) [(9,V.ptr 5 0),(13,i6 w),(14,i6 p0)] H nx lg,Sm (V.ptr 5 0),Sm (i6 w),Sm (i6 p0)]) ?_
  (repeat'(first|(with_reducible apply And.intro)|(refine fun(_:True)=>?_)))<;>first|exact aq|skip
  all_goals first|exact hex|skip
theorem tb_bdy(g:Int)(R:List (List Int))(N:List Mc)(W:Int)(s u a b:List Int)(z:Nat)(w:List Int)(hN:NdOk R N)(hu:Qki R u)(hs:SetL N s)(hb:b.length=N.length)(hbv: ∀k,k<N.length->b.getD k 0=(N.getD k mc0).c)(hw:w.length=z)(hz6:z<=1000000)(wt:Int)(h3: -1000000000000<=wt/\wt<=1000000000000)(p:Nat)(hpz:p<z)(hp:plcK N (solL N R s u) N.length=(p:Int))(x:Int)(hx:w.getD p 0=x)(h4: -1000000000000<=x/\x<=1000000000000)(Lb:O):
  ∃hsb:Hs,vc Pg vE sp0 (some 7) 9 1000 tbB hsb (mkSo g0 100 (tb1 R.length wt) (ofOs .e 0 (tbO g R.length (rtL R) N.length (mcL N) W s a b z w++[Lb,rw3 u])) 9 [7]) (kBdy (ofOs .e 0 (tbO g R.length (rtL R) N.length (mcL N) W s a b z (w.set p (x+wt))++[Lb,rw3 u])) 9 [6,7]):=by
 have hRR:=Qah R
 have hNN:=Qaj N
 have hss:=Qaa s
 have huu:=Qaa u
 have jm:=run_at (g:=g) (W:=W) hN hu hs (H:=ofOs .e 0 (tbO g R.length (rtL R) N.length (mcL N) W s a b z w++[Lb,rw3 u])) (nx:=9) (hv:=8) (t:=3) (sp:=none) (room:=some (R.length-R.length)) rfl
 have hq:=hN.q
 have hsb:=Qow hN hu hs
 have hin:=fun lg=>tb_in 9 N (solL N R s u) b wt hN.c hq.2 (fun k hk=>by rw[Qmw hk];exact hsb k hk) Qc7 hb hbv (ofOs .e 0 (tbO g R.length (rtL R) N.length (mcL N) W s a b z w++[Lb,rw3 u])) 9 lg (tbF N.length z) k_ k_
 rw[hp]at hin
 have s1:=Qbo (l:=w) (k:=p) o_
 rw[hx]at s1
 have s2:=Qa3 (l:=w) (j:=p) (x:=x+wt) o_
 refine⟨[(74,.call ⟨.im N.length (ints (solL N R s u)),ofOs .e 0 (tbO g R.length (rtL R) N.length (mcL N) W s a b z w++[Lb,rw3 u]),9,[]⟩),lpF (tbS N.length (ints (solL N R s u)) wt 0 0) (.exit 4) [(9,.ptr 5 0),(13,i6 wt),(14,i6 (p:Nat))],pl 94,ld 95 (i6 x),nu 97 (x+wt),pl 98,st (ints (w.set p (x+wt)))],?_⟩
 have hwl:(w.set p (x+wt)).length=z:=by rw[List.length_set];exact hw
 clear hN hu hs hp hsb hbv
 generalize w.set p (x+wt)=w2 at*
 have hLL:=Qaa (solL N R s u)
 generalize solL N R s u=L at*
 generalize rtL R=RR at*
 generalize mcL N=NN at*
 refine m_ (p:=let z0:=[Lb,rw3 u];let z1:=Operand.tmp 76;let z2:=V.im N.length (ints L);let z3:=Edge.mk 0 Ground.phase;let z4:=Edge.mk 1 Ground.phase;let z5:=Edge.mk 2 Ground.phase;let z6:=Edge.mk 0 Ground.data;let z7:=(p:Int);let z8:= #[Edge.mk 1 Ground.data];let z9:=Edge.mk 3 Ground.phase;Bn [CallSpec Pg g0 (V.fn 44 []) [V.agg [i6 g,V.im R.length RR,V.im N.length NN,i6 W],V.sl 8 0 R.length (some (R.length-R.length)),sl s] (ofOs T.e 0 (tbO g R.length RR N.length NN W s a b z w++z0)) 9 (CR.mk z2 (ofOs T.e 0 (tbO g R.length RR N.length NN W s a b z w++z0)) 9 []),Tt,Bn [Sm (V.ptr 5 0),Sm (i6 wt),Sm (i6 0),z2=z2,Sm (i6 N.length),i6 0=i6 ↑(0:Nat)],Sat Pg (some 7) 9 (Code.loop (Code.seq (Code.region 18 #[Oper.mk (some 77) (Op.binOp BinOp.lss 3 z1 (Operand.tmp 75) 3) 0 "twin.go:60" #[] none] false) (Code.seq (Code.cond (Operand.tmp 77) Code.skip (Code.exit 4)) (Code.seq (Code.block 5 (Code.seq (Code.region 19 #[Oper.mk (some 78) (Op.move z1) 3 "twin.go:60" #[] none,Oper.mk (some 79) (Op.indexAddr 36 (Operand.tmp 74) z1) 0 "twin.go:60" #[] none,Oper.mk (some 80) (Op.load 3 (Operand.tmp 79)) 3 "twin.go:60" z8 none,Oper.mk (some 15) (Op.assign (Operand.tmp 78)) 3 "twin.go:60" #[z6,z3,z4,z5] none,Oper.mk (some 16) (Op.assign (Operand.tmp 80)) 3 "twin.go:60" #[Edge.mk 2 Ground.data,Edge.mk 3 Ground.chain,z3,z4,z5,z9] none] false) (Code.region 20 #[Oper.mk (some 81) (Op.move (Operand.tmp 14)) 3 "twin.go:61" #[] none,Oper.mk (some 82) (Op.fieldAddr 66 (Operand.tmp 9) 1) 0 "twin.go:61" #[] none,Oper.mk (some 83) (Op.load 36 (Operand.tmp 82)) 36 "twin.go:61" z8 none,Oper.mk (some 84) (Op.move (Operand.tmp 15)) 3 "twin.go:61" #[] none,Oper.mk (some 85) (Op.indexAddr 36 (Operand.tmp 83) (Operand.tmp 84)) 0 "twin.go:61" #[Edge.mk 2 Ground.data,Edge.mk 3 Ground.data] none,Oper.mk (some 86) (Op.load 3 (Operand.tmp 85)) 3 "twin.go:61" #[Edge.mk 4 Ground.data] none,Oper.mk (some 87) (Op.binOp BinOp.mul 3 (Operand.tmp 81) (Operand.tmp 86) 3) 3 "twin.go:61" #[z6,Edge.mk 5 Ground.data] none,Oper.mk (some 88) (Op.move (Operand.tmp 16)) 3 "twin.go:61" #[] none,Oper.mk (some 89) (Op.binOp BinOp.add 3 (Operand.tmp 87) (Operand.tmp 88) 3) 3 "twin.go:61" #[Edge.mk 6 Ground.data,Edge.mk 7 Ground.data] none,Oper.mk (some 14) (Op.assign (Operand.tmp 89)) 3 "twin.go:61" #[Edge.mk 8 Ground.data,z3,z4,z5,z9,Edge.mk 4 Ground.phase,Edge.mk 5 Ground.phase,Edge.mk 6 Ground.phase,Edge.mk 7 Ground.phase,Edge.mk 8 Ground.phase] none] false))) (Code.region 21 #[Oper.mk (some 90) (Op.binOp BinOp.add 3 z1 (Operand.const (Value.int IntKind.i64 (1:Int))) 3) 3 "twin.go:60" #[] none,Oper.mk (some 76) (Op.move (Operand.tmp 90)) 3 "twin.go:60" #[z6] none] false))))) (mkSo g0 100 (tbS N.length (ints L) wt 0 (0:Int)) (ofOs T.e 0 (tbO g R.length RR N.length NN W s a b z w++z0)) 9 ([]++[7])) (Qjt g0 100 (ofOs T.e 0 (tbO g R.length RR N.length NN W s a b z w++z0)) 9 ([]++[7]) [(True,Ex.exit 4,[(9,V.ptr 5 0),(13,i6 wt),(14,i6 p)])]),(True->((0:Int)<=z7/\z7<(z:Int))/\headF (dropF (0+p*1) (ints w))=some (i6 x)/\wr .i64 (x+wt)=x+wt/\((0:Int)<=z7/\z7<(z:Int))/\layE (0+p*1) (ints w) [i6 (x+wt)]=some (ints w2)/\pt (ofOs T.e 0 (tbO g R.length RR N.length NN W s a b z w++z0)) 6 (O.row 3 none (ints w2))=ofOs T.e 0 (tbO g R.length RR N.length NN W s a b z w2++z0)/\9=9/\∀(g:Nat),List.Mem g ([6]++([]++[7]))->List.Mem g [6,7])]) ?_
 (repeat'(first|(with_reducible apply And.intro)|(refine fun(_:True)=>?_)))<;>first|exact aq|skip
 all_goals first|exact jm|exact hin ([]++[7])|exact s1|exact s2|(intro g hg;change g∈[7]at hg;show g∈[6,7];simp only[List.mem_cons,List.not_mem_nil,or_false]at hg⊢;omega)|(intro g hg;change g∈[6,7]at hg;exact hg)|kernel_rfl|skip
theorem MdOk.wt{g:Int}{R:List (List Int)}{N:List Mc}(h:MdOk g R N):WtOk R:=fun k hk=>by
 have h1:=Qoo h.rt k hk
 have h2:=h.rt
 unfold rootsB at h2
 rw[Bool.and_eq_true]at h2
 have h3:=List.all_eq_true.1 h2.1 (R.getD k []) (Ql4 hk)
 unfold rtB at h3
 simp only[Bool.and_eq_true]at h3
 have h5:=Qbf.1 h3.1.2
 exact⟨h1.1,h1.2,fun j hj=>by have:=h5 j hj;have:=h.g1;omega⟩
theorem MdOk.w24{g:Int}{R:List (List Int)}{N:List Mc}(h:MdOk g R N):prK R R.length<=1024:=by
 have h2:=h.rt
 unfold rootsB at h2
 rw[Bool.and_eq_true]at h2
 exact of_decide_eq_true h2.2
theorem MdOk.z24{g:Int}{R:List (List Int)}{N:List Mc}(h:MdOk g R N):crdP N N.length<=1024:=by
 have h2:=h.nd
 unfold nodesB at h2
 rw[Bool.and_eq_true]at h2
 exact of_decide_eq_true h2.2
def plcW(R:List (List Int))(N:List Mc)(s:List Int)(x:Nat):Nat:=(plcK N (solL N R s (wld R x)) N.length).toNat
theorem Qti{R:List (List Int)}{N:List Mc}{s:List Int}(hN:NdOk R N)(hs:SetL N s)(x:Nat):plcK N (solL N R s (wld R x)) N.length=(plcW R N s x:Nat)/\plcW R N s x<(crdP N N.length).toNat:=by
 have hroot:=Qo4 (fun k hk=>(hN.rl k hk).1) x
 have h:=Qjz hN.c (v:=solL N R s (wld R x)) (fun k hk=>by rw[Qmw hk];exact Qow hN hroot hs k hk) N.length (Nat.le_refl _)
 unfold plcW
 omega
abbrev tbSL(g:Int)(n:Nat)(R:List V)(q:Nat)(N:List V)(W:Int)(s:List Int)(a b:List Int)(z:Nat)(w:List Int):SL:={sl:=[(3,.ptr 0 0),(4,.ptr 1 0),(6,.ptr 2 0),(9,.ptr 5 0),(68,.fn 73 [.imp [i6 g,.im n R,.im q N,i6 W]])],os:=tbO g n R q N W s a b z w,md:=[0,0,0,0,0,1]}
abbrev tbX(a b w:List Int):SL:={sl:=[(4,.ptr 0 0),(9,.ptr 1 0)],os:=[.row 66 none [.nils,.nils,.nils],.row 66 none [sl a,sl b,sl w]],md:=[0,1]}
section
variable (g:Int) (R:List (List Int)) (N:List Mc) (W:Nat) (s a b:List Int) (hN:NdOk R N) (hs:SetL N s) (hR:WtOk R) (hW:W<=1024) (ha:a.length=N.length) (hb:b.length=N.length) (hbv: ∀k,k<N.length->b.getD k 0=(N.getD k mc0).c) (z:Nat) (hz:(crdP N N.length).toNat=z) (hz6:z<=1000000)
include hN hs hR hW ha hb hbv hz hz6
theorem tb_range:Sat Pg none 0 tbC (mkSt g0 100 (tbSL g R.length (rtL R) N.length (mcL N) W s a b z (tabL R (plcW R N s) z 0))) (Qad g0 100 [(True,.normal,tbX a b (tabL R (plcW R N s) z W))]):=by
 have hRR:=Qah R
 have hNN:=Qaj N
 have hss:=Qaa s
 rw[tb_eq]
 have hpl:=Qti hN hs
 rw[hz]at hpl
 obtain⟨f,hf⟩: ∃f:Nat->Nat,f=plcW R N s:=⟨_,rfl⟩
 rw[<-hf]at hpl⊢
 obtain⟨L,hL⟩: ∃L:O,L= .loop .ready none 0 (mkSt g0 100 (tbSL g R.length (rtL R) N.length (mcL N) W s a b z (tabL R f z 0))).tm [69,70] tbA tbB:=⟨_,rfl⟩
 have hcall:=Qp8 g R N.length (mcL N) W hR hN.n hNN o_ 7 8 (ofOs .e 0 (tbO g R.length (rtL R) N.length (mcL N) W s a b z (tabL R f z 0)++[L])) (fun k=>ofOs .e 0 (tbO g R.length (rtL R) N.length (mcL N) W s a b z (tabL R f z k)++[L,rw3 (lstK R k)])) (fun _=>9) [6,7] k_ rfl (fun k hk=>⟨lstK R k,lstK_len k,by rw[Qak,Qai];rfl⟩) (fun k hk=>by
  have b1:=Qkf hR hN.n (fun x=>decide (f x=f k)) k
  have b3:=Qu2 hR hN.n k
  have hroot:=Qo4 (fun k hk=>(hR k hk).1) k
  have bdy:=fun Lb=>tb_bdy g R N W s (wld R k) a b z (tabL R f z k) hN hroot hs hb hbv Qe6 hz6 (wgt R k) o_ (f k) (hpl k).2 (hpl k).1 _ rfl (by rw[Qhw (hpl k).2];omega) Lb
  have e3:lstK R (k+1)=wld R k:=rfl
  rw[tabL_set (hpl k).2,<-e3]at bdy
  rw[<-e3]
  have ept:pt (ofOs .e 0 (tbO g R.length (rtL R) N.length (mcL N) W s a b z (tabL R f z k)++[L,rw3 (lstK R k)])) 8 (rw3 (lstK R (k+1)))=ofOs .e 0 (tbO g R.length (rtL R) N.length (mcL N) W s a b z (tabL R f z k)++[L,rw3 (lstK R (k+1))]):=by kernel_rfl
  rw[ept]
  refine CallSpec.yldC vE_ok mixed Qab (n:=100) (fn0:=0) (tm:=(mkSt g0 100 (tbSL g R.length (rtL R) N.length (mcL N) W s a b z (tabL R f z 0))).tm) (ps:=[69,70]) (assign:=tbA) (body:=tbB) (hs0:=[]) (hs1:=fun Lb=>(bdy Lb).choose) (m0:=1000) (m1:=1000) (sl0:=tb0 R.length (wgt R k)) (sl1:=tb1 R.length (wgt R k)) ?_ rfl rfl rfl ⟨rfl,rfl,rfl,rfl,rfl,rfl,trivial⟩ (tb_asg R.length (wgt R k)) (fun Lb=>?_) d_ (fun i hi=>?_) ?_
  ·rw[Qak,Qai,hL];rfl
  ·have e4 : ∀ w, pt (ofOs .e 0 (tbO g R.length (rtL R) N.length (mcL N) W s a b z w ++ [L, rw3 (lstK R (k + 1))])) 7 Lb = ofOs .e 0 (tbO g R.length (rtL R) N.length (mcL N) W s a b z w ++ [Lb, rw3 (lstK R (k + 1))]) := fun w => by kernel_rfl
   rw[e4,e4]
   exact(bdy Lb).choose_spec
  ·rw [Qai, Qai]
   simp only[List.mem_cons,List.not_mem_nil,or_false,not_or]at hi
   rcases(show i=0\/i=1\/i=2\/i=3\/i=4\/i=5\/8<=i by omega)with rfl|rfl|rfl|rfl|rfl|rfl|h7
   ·rfl
   ·rfl
   ·rfl
   ·rfl
   ·rfl
   ·rfl
   ·obtain ⟨d, rfl⟩ : ∃ d, i = d + 8 := ⟨i - 8, by omega⟩
    rfl
  ·rw [Qak, Qai, hL]; rfl) ⟨by simp, fun i hi hn => by
   rw[Qai,Qai]
   simp only[List.mem_cons,List.not_mem_nil,or_false,not_or]at hi
   rcases(show i=0\/i=1\/i=2\/i=3\/i=4\/i=5\/9<=i by omega)with rfl|rfl|rfl|rfl|rfl|rfl|h7
   ·rfl
   ·rfl
   ·rfl
   ·rfl
   ·rfl
   ·rfl
   ·obtain ⟨d, rfl⟩ : ∃ d, i = d + 9 := ⟨i - 9, by omega⟩
    rfl⟩
 have hwl:(tabL R f z W).length=z:=Qe6
 have hq:=hN.q
 generalize tabL R f z W=w at*
 generalize tabL R f z 0=w0 at*
 generalize lstK R W=l at*
 have hll:=Qaa l
 have hww:=Qaa w
 have haa:=Qaa a
 have hbb:=Qaa b
 refine Sat.rangeC (r:=[1,5]) (S:=tbSL g R.length (rtL R) N.length (mcL N) W s a b z w0) (f:=73) (caps:=[.imp [i6 g,.im R.length (rtL R),.im N.length (mcL N),i6 (W:Nat)]]) rfl rfl (by rw[hL]at hcall;exact hcall) ?_ ?_
 ·rw[Qak,Qai];rfl
 ·clear hcall hL hf hR hN hs hbv hpl
  generalize rtL R=RR at*
  generalize mcL N=NN at*
  refine m_ (p:=Bn [Bn [Zz,Zz],An [Sm [V.nils,V.nils,V.nils],TT 3],Bn [An [a.length=N.length,Sm (ints a),HfL (ints a)],An [b.length=N.length,Sm (ints b),HfL (ints b)],An [w.length=z,Sm (ints w),HfL (ints w)]]]) ?_
  (repeat'(first|(with_reducible apply And.intro)|(refine fun(_:True)=>?_)))<;>first|exact aq|skip
  all_goals first|rfl|skip
end
set_option maxHeartbeats 1000000
set_option maxRecDepth 100000
def vrT(n:Nat):List Int:=(List.range n).map fun(i:Nat)=>(i:Int)
def cdT(N:List Mc):List Int:=(List.range N.length).map fun i=>(N.getD i mc0).c
theorem Qbe{N:List Mc}:(cdT N).length=N.length:=by simp[cdT]
theorem Qii{N:List Mc}{k:Nat}(h:k<N.length):(cdT N).getD k 0=(N.getD k mc0).c:=by
 unfold cdT
 rw[List.getD_eq_getElem?_getD,List.getElem?_map,List.getElem?_eq_getElem (by simpa using h)]
 simp
def tabT(R:List (List Int))(N:List Mc)(s:List Int):List Int:=tabL R (plcW R N s) (crdP N N.length).toNat (prK R R.length)
theorem give2{f n h:Nat}{room:Option Nat}{cs:List V}{t:Nat}{sp:Option Nat}{x v:V}{H H2:T O}{nx:Nat}(hf:FnOk Pg g0 f [x,.im n cs] v)(hx:Hf x)(hv:Hf v)(hc:HfL cs)(ho:gt H h=some (.row t sp cs))(h2:H2=pt H h .dead):CallSpec Pg g0 (.fn f []) [x,.sl h 0 n room] H nx ⟨v,H2,nx,[h]⟩:=by
 subst h2
 refine Qnz [h] hf ⟨_,_,rfl,View.of_hf _ hx,_,_,rfl,.inr (.inr ⟨h,0,room,t,sp,cs,rfl,List.mem_singleton.2 rfl,by rw[<-Qak];exact ho,ViewP.of_hf _ hc⟩),rfl⟩ hv (fun g hg=>?_) (fun i hi=>?_) (fun i hi=>?_)
 ·obtain rfl := List.mem_singleton.1 hg
  exact⟨_,_,_,by rw[<-Qak];exact ho⟩
 ·rw[<-Qak,<-Qak,gt_pt,if_neg (fun e=>hi (List.mem_singleton.2 e))]
 ·obtain rfl := List.mem_singleton.1 hi
  rw[<-Qak,gt_pt,if_pos rfl]
theorem Quh(g:Int)(R:List (List Int))(N:List Mc)(hl:Qbd R N)(h:chkB g R N=true)(s:List Int)(h6:s.length<=1000000)(hS:setB N s=true):FnOk Pg g0 19 [mdV g R N,sl s] (.tup [.agg [sl (vrT N.length),sl (cdT N),sl (tabT R N s)],i6 0]):=by
 have hRR:=Qah R
 have hNN:=Qaj N
 have hss:=Qaa s
 have hM:=Qb4 h
 have hread:=tread_fn g R N hl h [s] (by simp) (fun L hL=>by simp at hL;subst hL;exact h6) (by simpa using hS)
 have hz:=hM.z24
 have hz1:=(Qeg hM.cd N.length (Nat.le_refl _)).1
 have hlo:=ta_loop g R N (prK R R.length:Nat) s hM.q1.2 hM.cd
 have hrg:=tb_range g R N (prK R R.length) s (vrT N.length) (cdT N) hM.nd2 (Qhu hS) hM.wt hM.w24 (by simp[vrT]) Qbe (fun k hk=>Qii hk) _ rfl o_
 have hwf:=Qu5 g R.length (rtL R) hRR N.length (mcL N) hNN (prK R R.length:Nat)
 rw[Qud]at hrg
 have e1:preL (fun i=>(i:Int)) N.length N.length=vrT N.length:=Qe2
 have e2:preL (fun i=>(N.getD i mc0).c) N.length N.length=cdT N:=Qe2
 rw[e1,e2,Qcg,Qcg]at hlo
 have hq:=hM.q1
 have hrl:rtL [s]=[sl s]:=rfl
 rw[hrl]at hread
 obtain⟨z,hze⟩: ∃z:Nat,crdP N N.length=(z:Int):=⟨(crdP N N.length).toNat,by omega⟩
 rw[hze]at hlo hrg hz hz1
 rw[Int.toNat_natCast]at hrg
 have hT:tabT R N s=tabL R (plcW R N s) z (prK R R.length):=by unfold tabT;rw[hze,Int.toNat_natCast]
 rw[hT]
 have hT2:(tabL R (plcW R N s) z (prK R R.length)).length=z:=Qe6
 generalize tabL R (plcW R N s) z (prK R R.length)=w at*
 have hvl:(vrT N.length).length=N.length:=by simp[vrT]
 have hcl:=Qbe (N:=N)
 generalize vrT N.length=a at*
 generalize cdT N=b at*
 have haa:=Qaa a
 have hbb:=Qaa b
 have hww:=Qaa w
 clear hT hze e1 e2 hM hl h hS hrl
 unfold mdV at*
 unfold knV at hread
 generalize prK R R.length=P at*
 refine FnOk.of_vc vE_ok mixed Qab (n:=1000) (r:=[0]) (S:={sl:=[(4,.ptr 0 0),(5,i6 0)],os:=[.row 66 none [sl a,sl b,sl w]],md:=[1]}) (hs:=[(21,.call ⟨.tup [.agg [i6 g,.im R.length (rtL R),.im N.length (mcL N),i6 (P:Nat)],i6 0],pt (ofOs .e 0 [.row 26 none [i6 g,.im R.length (rtL R),.im N.length (mcL N)],.row 36 none [sl s],.row 66 none [.nils,.nils,.nils],.row 36 none [sl s]]) 3 .dead,4,[3]⟩),mk 32,mk 37,(0,.loop [1,2,4,5,6,7] (taS g R.length (rtL R) N.length (mcL N) P s (0,1,List.replicate N.length 0,List.replicate N.length 0)) [(True,.exit 0,taX g R.length (rtL R) N.length (mcL N) P s z a b)]),mk 65,fn 68 (.fn 73 [.imp [i6 g,.im R.length (rtL R),.im N.length (mcL N),i6 (P:Nat)]]),(0,.loop [0,1,2,3,4,5,6] (tbSL g R.length (rtL R) N.length (mcL N) P s a b z (List.replicate z 0)) [(True,.normal,tbX a b w)])]) ?_
 generalize rtL R=RR at*
 generalize mcL N=NN at*
 refine m_ (p:=let y4:=An [Zz,Sm N.length,Sm (N.length-N.length)];let y5:=Bn [Sm [sl s],Tt];let z0:=[i6 g,V.im R.length RR,V.im N.length NN,i6 P];let z1:=(N.length:Int);let z3:=[V.nils,V.nils,V.nils];let z4:=[i6 g,V.im R.length RR,V.im N.length NN];let z5:=(0:Int);let z6:=O.row 36 none [sl s];let z7:=(9223372036854775807:Int);let z8:=(z:Int);let z9:=(281474976710656:Int);let y1:=V.tup [V.agg [sl a,sl b,sl w],i6 0];let y2:=((8:Nat):Int);let y3:=(P:Int);let z2:=List.replicate N.length z5;let y0:=List.replicate z z5;Bn [y1=y1,CallSpec Try.prog g0 (V.fn 42 []) [V.agg z4,V.sl 3 0 1 (some 0)] (pt (pt (pt (pt T.e 0 (O.row 26 none z4)) 1 z6) 2 (O.row 66 none z3)) 3 z6) 4 (CR.mk (V.tup [V.agg z0,i6 0]) (pt (ofOs T.e 0 [O.row 26 none z4,z6,O.row 66 none z3,z6]) 3 O.dead) 4 [3]),Tt,An [z5<=z1,z1<=z1,y2*z1<=z9,z1<=z7],An [z5<=z1,z1<=z1,y2*z1<=z9,z1<=z7],Bn [Bn [Zz,Zz,Zz,Sm (1:Int),Zz,An [Sm N.length,NN=NN],z1=z1,((0:Nat):Int)=z5],y5,An [z3=z3,TT 3],An [z0=z0,TT 4],An [ints z2=rep N.length [i6 0],HfL (ints z2)],An [ints z2=rep N.length [i6 0],HfL (ints z2)],Bn [y4,y4,Tt]],Sat Try.prog none 0 (at' 19 [1,1,1,1,1,0,1,0]) (mkSt g0 100 (taS g R.length RR N.length NN y3 s (0,(1:Int),z2,z2))) (Qad g0 100 [(True,Ex.exit 0,taX g R.length RR N.length NN y3 s z8 a b)]),(True->Bn [An [z5<=z8,z8<=z8,y2*z8<=z9,z8<=z7],Bn [TT 4],FnOk Try.prog g0 43 [V.agg z0] (V.fn 73 [V.imp z0]),Tt,Bn [Bn [Zz,Zz,Zz,Zz,Bn [z0=z0]],y5,An [z3=z3,TT 3],An [z0=z0,TT 4],An [Sm (ints a),HfL (ints a)],An [Sm (ints b),HfL (ints b)],Bn [y4,y4,An [Zz,z=z,Sm (z-z)]],An [ints y0=rep z [i6 0],HfL (ints y0)]],Sat Try.prog none 0 (at' 19 [1,1,1,1,1,1,1,0,1,0]) (mkSt g0 100 (tbSL g R.length RR N.length NN y3 s a b z y0)) (Qad g0 100 [(True,Ex.normal,tbX a b w)]),(True->Bn [Bn [Zz,z5=z5],Bn [An [Sm a.length,Sm (ints a)],An [Sm b.length,Sm (ints b)],An [Sm w.length,Sm (ints w)]]])])]) ?_
 (repeat'(first|(with_reducible apply And.intro)|(refine fun(_:True)=>?_)))<;>first|exact aq|skip
 all_goals first|exact give2 hread ⟨trivial,trivial,trivial,trivial⟩ ⟨⟨trivial,trivial,trivial,trivial,trivial⟩,trivial,trivial⟩ ⟨trivial,trivial⟩ rfl k_ |exact hlo|exact hrg|exact hwf|exact Qay _ _|exact(Qay _ _).symm|skip
theorem Qeo(cs:List Int)(s:Nat):FnOk Pg g0 29 [sl cs,u6 (s:Nat)] (.fn 58 [.imp [sl cs],.imp [u6 (s:Nat)]]):=by
 have h:=Qaa cs
 refine FnOk.of_vc vE_ok mixed Qab (n:=1000) (r:=[]) (S:={sl:=[(4,.fn 58 [.imp [sl cs],.imp [u6 (s:Nat)]])]}) (hs:=[]) ?_
 refine m_ (p:=Bn [Sm (V.fn 58 [V.imp [sl cs],V.imp [u6 s]]),Bn [Bn [Bn [Sm [sl cs],Tt],Bn [Sm [u6 s],Tt]]]]) ?_
 (repeat'(first|(with_reducible apply And.intro)|(refine fun(_:True)=>?_)))<;>first|exact aq|skip
 all_goals skip
abbrev whS(g:Int)(n:Nat)(R:List V)(q:Nat)(N:List V)(k:Nat)(w:Int):SL:={sl:=[(1,.ptr 0 0),(3,i6 w),(6,i6 (n:Nat)),(7,i6 (k:Nat))],os:=[.row 26 none [i6 g,.im n R,.im q N]]}
theorem gpow{g:Int}(h:1<=g/\g<=12): ∀k,1<=g^k/\g^k<=12^k
 |0=>by simp
 |k+1=>by
  obtain⟨h1,h2⟩:=gpow h k
  rw[Int.pow_succ,Int.pow_succ]
  have a:=Int.mul_le_mul h1 h.1 o_ (show 0<=g^k by omega)
  exact⟨by simpa using a,Int.mul_le_mul h2 h.2 o_ o_⟩
theorem Qji{g:Int}(h:1<=g/\g<=12){k:Nat}(hk:k<=8):1<=g^k/\g^k<=429981696:=by
 have h1:=gpow h k
 have h2:(12:Int)^k<=12^8:=by
  have:=Nat.pow_le_pow_right (show 12>0 by decide) hk
  exact_mod_cast this
 have h3:(12:Int)^8=429981696:=rfl
 omega
section
variable (g:Int) (R:List (List Int)) (N:List Mc) (hg:1<=g/\g<=12) (hn:R.length<=8)
include hg hn
theorem Qp7:Sat Pg none 0 (at' 28 [1,1,0,1,0]) (mkSt g0 15 (whS g R.length (rtL R) N.length (mcL N) 0 1)) (Qad g0 15 [(True,.exit 0,{sl:=[(3,i6 (g^R.length))]})]):=by
 have hRR:=Qah R
 have hNN:=Qaj N
 have e0:(1:Int)=g^0:=by simp
 rw[e0]
 refine Qav vE_ok mixed Qab (b:=at' 28 [1,1,0,1,0,0]) k_ (fun k=>k<=R.length) (fun k=>whS g R.length (rtL R) N.length (mcL N) k (g^k)) (fun k=>R.length-k) (fun k hk=>?_) 0 (Nat.zero_le _)
 by_cases hlt:k<R.length
 ·have e1 : g ^ (k + 1) = g ^ k * g := Int.pow_succ g k
  have b1:=Qji hg (show k+1<=8 by omega)
  refine .inl ⟨k+1,[0],[yes 8,nu 12 (g^(k+1)),nu 13 ((k+1:Nat):Int)],1000,hlt,by omega,?_⟩
  generalize g^(k+1)=y at*
  generalize g^k=x at*
  generalize rtL R=RR at*
  generalize mcL N=NN at*
  refine m_ (p:=Bn [decide ((k:Int)<(R.length:Int))=true,wr .i64 (x*g)=y,wr .i64 ((k:Int)+1)=(↑(k+1):Int),Bn [Zz,y=y,Sm (R.length:Int),Sm (↑(k+1):Int)],An [Sm [i6 g,V.im R.length RR,V.im N.length NN],TT 3]]) ?_
  (repeat'(first|(with_reducible apply And.intro)|(refine fun(_:True)=>?_)))<;>first|exact aq|skip
  all_goals first|(rw[<-e1,wr6 o_ o_];done)|skip
 ·have hk2 : k = R.length := by omega
  subst hk2
  refine .inr ⟨.exit 0,[],{sl:=[(3,i6 (g^R.length))]},[no 8],1000,.inl ⟨trivial,rfl,rfl⟩,?_⟩
  generalize g^R.length=x at*
  generalize rtL R=RR at*
  generalize mcL N=NN at*
  refine m_ (p:=Bn [decide ((R.length:Int)<(R.length:Int))=false,Bn [x=x]]) ?_
  (repeat'(first|(with_reducible apply And.intro)|(refine fun(_:True)=>?_)))<;>first|exact aq|skip
  all_goals skip
theorem Qd8:FnOk Pg g0 28 [mdV g R N] (i6 (g^R.length)):=by
 have hRR:=Qah R
 have hNN:=Qaj N
 have h:=Qp7 g R N hg hn
 unfold mdV
 refine FnOk.of_vc vE_ok mixed Qab (n:=1000) (r:=[]) (S:={sl:=[(2,i6 (g^R.length))]}) (hs:=[(0,.loop [0] (whS g R.length (rtL R) N.length (mcL N) 0 1) [(True,.exit 0,{sl:=[(3,i6 (g^R.length))]})])]) ?_
 generalize g^R.length=x at*
 generalize rtL R=RR at*
 generalize mcL N=NN at*
 refine m_ (p:=Bn [Sm (i6 x),Bn [Bn [Zz,Sm (1:Int),Sm (R.length:Int),((0:Nat):Int)=(0:Int)],An [Sm [i6 g,V.im R.length RR,V.im N.length NN],TT 3]],Sat Try.prog none 0 (at' 28 [1,1,0,1,0]) (mkSt g0 15 (whS g R.length RR N.length NN 0 (1:Int))) (Qad g0 15 [(True,Ex.exit 0,SL.mk [(3,i6 x)] [] [] [])]),(True->Bn [Bn [x=x]])]) ?_
 (repeat'(first|(with_reducible apply And.intro)|(refine fun(_:True)=>?_)))<;>first|exact aq|skip
 all_goals first|exact h|skip
end
def befB:List Int->List Int->Bool
 |x::a,y::b=>if x=y then befB a b else decide (x<y)
 | _,_=>false
theorem bef_at{a b:List Int}{k:Nat}(ha:k<a.length)(hb:k<b.length):befB (a.drop k) (b.drop k)=if a.getD k 0=b.getD k 0 then befB (a.drop (k+1)) (b.drop (k+1))else decide (a.getD k 0<b.getD k 0):=by
 rw[List.drop_eq_getElem_cons ha,List.drop_eq_getElem_cons hb,List.getD_eq_getElem?_getD,List.getD_eq_getElem?_getD,List.getElem?_eq_getElem ha,List.getElem?_eq_getElem hb]
 rfl
abbrev beS(a b:List Int)(k:Nat):SL:={sl:=[(0,sl a),(1,sl b),(7,i6 (a.length:Nat)),(8,i6 (k:Nat))]}
theorem Qlt(a b:List Int)(h6:a.length<=1000000)(hl:b.length=a.length):Sat Pg none 0 (at' 31 [1,0,1,0]) (mkSt g0 30 (beS a b 0)) (Qad g0 30 [(befB a b=false,.exit 0,{sl:=[]}),(True,.ret,{sl:=[(4,.bool (befB a b))]})]):=by
 have haa:=Qaa a
 have hbb:=Qaa b
 refine Qav vE_ok mixed Qab (b:=at' 31 [1,0,1,0,0]) k_ (fun k=>k<=a.length/\befB a b=befB (a.drop k) (b.drop k)) (beS a b) (fun k=>a.length-k) (fun k hk=>?_) 0 ⟨Nat.zero_le _,rfl⟩
 obtain⟨hk,he⟩:=hk
 by_cases hlt:k<a.length
 ·have s1 := Qag hlt
  have s2:=Qag (l:=b) (k:=k) o_
  have h1:=bef_at hlt (show k<b.length by omega)
  by_cases hxy:a.getD k 0=b.getD k 0
  ·rw [if_pos hxy] at h1
   refine .inl ⟨k+1,[],[yes 9,pl 13,ld 14 (i6 (a.getD k 0)),pl 17,ld 18 (i6 (b.getD k 0)),no 19,nu 29 ((k+1:Nat):Int)],1000,⟨hlt,by rw[he,h1]⟩,by omega,?_⟩
   clear he h1
   generalize a.getD k 0=x at*
   generalize b.getD k 0=y at*
   refine m_ (p:=let z0:=(a.length:Int);let z1:=(k:Int);let z2:=(↑(k+1):Int);Bn [decide (z1<z0)=true,An [(0:Int)<=z1,z1<z0],headF (List.drop (k*1) (ints a))=some (i6 x),An [(0:Int)<=z1,z1<(b.length:Int)],headF (List.drop (k*1) (ints b))=some (i6 y),(x != y)=false,wr .i64 (z1+1)=z2,Bn [An [Sm a.length,Sm (ints a)],An [Sm b.length,Sm (ints b)],z0=z0,z2=z2]]) ?_
   (repeat'(first|(with_reducible apply And.intro)|(refine fun(_:True)=>?_)))<;>first|exact aq|skip
   all_goals first|exact s1|exact s2|skip
  ·rw [if_neg hxy] at h1
   rw[h1]at he
   have hdec:befB a b=decide (a.getD k 0<b.getD k 0):=he
   refine .inr ⟨.ret,[],{sl:=[(4,.bool (befB a b))]},[yes 9,pl 13,ld 14 (i6 (a.getD k 0)),pl 17,ld 18 (i6 (b.getD k 0)),yes 19,pl 22,ld 23 (i6 (a.getD k 0)),pl 26,ld 27 (i6 (b.getD k 0)),va 28 (.bool (befB a b))],1000,.inr (.inl ⟨trivial,rfl,rfl⟩),?_⟩
   clear he h1
   generalize a.getD k 0=x at*
   generalize b.getD k 0=y at*
   generalize befB a b=z at*
   refine m_ (p:=let z0:=(k:Int);let z1:=(a.length:Int);let z2:=headF (List.drop (k*1) (ints a));let z3:=headF (List.drop (k*1) (ints b));let z4:=(0:Int);Bn [decide (z0<z1)=true,An [z4<=z0,z0<z1],z2=some (i6 x),An [z4<=z0,z0<(b.length:Int)],z3=some (i6 y),(x != y)=true,An [z4<=z0,z0<z1],z2=some (i6 x),An [z4<=z0,z0<(b.length:Int)],z3=some (i6 y),binV (Qac Try.prog) BinOp.lss 3 (i6 x) (i6 y)=some (V.bool z),Bn [z=z]]) ?_
   (repeat'(first|(with_reducible apply And.intro)|(refine fun(_:True)=>?_)))<;>first|exact aq|skip
   all_goals first|exact s1|exact s2|(rw[hdec];rfl)|skip
 ·have hk2 : k = a.length := by omega
  have hf:befB a b=false:=by
   rw[he,List.drop_eq_nil_of_le o_]
   rfl
  subst hk2
  refine .inr ⟨.exit 0,[],{sl:=[]},[no 9],1000,.inl ⟨hf,rfl,rfl⟩,?_⟩
  clear he hf
  refine m_ (p:=Bn [decide ((a.length:Int)<(a.length:Int))=false,Tt]) ?_
  (repeat'(first|(with_reducible apply And.intro)|(refine fun(_:True)=>?_)))<;>first|exact aq|skip
  all_goals skip
theorem Qqp(a b:List Int)(h6:a.length<=1000000)(hl:b.length=a.length):FnOk Pg g0 31 [sl a,sl b] (.bool (befB a b)):=by
 have haa:=Qaa a
 have hbb:=Qaa b
 have h:=Qlt a b h6 hl
 generalize befB a b=z at*
 refine FnOk.of_vc vE_ok mixed Qab (n:=1000) (r:=[]) (S:={sl:=[(4,.bool z)]}) (hs:=[(0,.loop [] (beS a b 0) [(z=false,.exit 0,{sl:=[]}),(True,.ret,{sl:=[(4,.bool z)]})])]) ?_
 refine m_ (p:=Bn [Sm (V.bool z),Bn [Bn [An [Sm a.length,Sm (ints a)],An [Sm b.length,Sm (ints b)],Sm (a.length:Int),((0:Nat):Int)=(0:Int)]],Sat Try.prog none 0 (at' 31 [1,0,1,0]) (mkSt g0 30 (beS a b 0)) (Qad g0 30 [(z=false,Ex.exit 0,SL.mk [] [] [] []),(True,Ex.ret,SL.mk [(4,V.bool z)] [] [] [])]),(z=false->Bn [Bn [z=false]]),(True->Bn [Bn [z=z]])]) ?_
 (repeat'(first|(with_reducible apply And.intro)|(refine fun(_:True)=>?_)))<;>first|exact aq|skip
 all_goals first|exact h|(intro h;subst h;rfl)|skip
set_option maxHeartbeats 1000000
set_option maxRecDepth 100000
def sameB(N M:List Mc):Bool:=decide (cdT N=cdT M)
theorem Qj1{N M:List Mc}:sameB N M=true↔N.length=M.length/\∀k,k<N.length->(N.getD k mc0).c=(M.getD k mc0).c:=by
 unfold sameB
 rw[decide_eq_true_eq]
 constructor
 ·intro h
  have hl:N.length=M.length:=by rw[<-Qbe (N:=N),h,Qbe]
  refine⟨hl,fun k hk=>?_⟩
  rw[<-Qii hk,h,Qii o_]
 ·rintro ⟨hl, h⟩
  unfold cdT
  rw[hl]
  apply List.map_congr_left
  intro k hk
  exact h k (by rw[hl];exact List.mem_range.1 hk)
abbrev smS(g g':Int)(n n':Nat)(R R':List V)(q:Nat)(N M:List V)(k:Nat):SL:={sl:=[(2,.ptr 0 0),(3,.ptr 1 0),(15,i6 (q:Nat)),(16,i6 (k:Nat))],os:=[.row 26 none [i6 g,.im n R,.im q N],.row 26 none [i6 g',.im n' R',.im q M]]}
section
variable (g g':Int) (R R':List (List Int)) (N M:List Mc) (hq:N.length<=1000000) (hl:N.length=M.length)
include hq hl
theorem Qtr:Sat Pg none 0 (at' 26 [1,1,0,1,0]) (mkSt g0 33 (smS g g' R.length R'.length (rtL R) (rtL R') N.length (mcL N) (mcL M) 0)) (Qad g0 33 [(sameB N M=true,.exit 0,{sl:=[]}),(sameB N M=false,.ret,{sl:=[(4,.bool false)]})]):=by
 have hRR:=Qah R
 have hNN:=Qaj N
 have hRR2:=Qah R'
 have hNN2:=Qaj M
 refine Qav vE_ok mixed Qab (b:=at' 26 [1,1,0,1,0,0]) k_ (fun k=>k<=N.length/\∀i,i<k->(N.getD i mc0).c=(M.getD i mc0).c) (fun k=>smS g g' R.length R'.length (rtL R) (rtL R') N.length (mcL N) (mcL M) k) (fun k=>N.length-k) (fun k hk=>?_) 0 ⟨Nat.zero_le _,fun i h=>absurd h (Nat.not_lt_zero _)⟩
 obtain⟨hk,hin⟩:=hk
 by_cases hlt:k<N.length
 ·have s1 := Qeu hlt
  have s2:=Qeu (N:=M) (k:=k) o_
  by_cases he:(N.getD k mc0).c=(M.getD k mc0).c
  ·have hg : ∀ i, i < k + 1 -> (N.getD i mc0).c = (M.getD i mc0).c := fun i hi => by
    by_cases hik:i=k
    ·subst hik;exact he
    ·exact hin i o_
   refine .inl ⟨k+1,[0,1],[yes 17,pl 22,ld 24 (i6 (N.getD k mc0).c),pl 28,ld 30 (i6 (M.getD k mc0).c),no 31,nu 32 ((k+1:Nat):Int)],1000,⟨hlt,hg⟩,by omega,?_⟩
   clear hin hg
   generalize (N.getD k mc0).c=x at*
   generalize (M.getD k mc0).c=y at*
   generalize rtL R=RR at*
   generalize mcL N=NN at*
   generalize rtL R'=RR2 at*
   generalize mcL M=NN2 at*
   refine m_ (p:=let z0:=(N.length:Int);let z1:=(k:Int);let z2:=[i6 g',V.im R'.length RR2,V.im N.length NN2];let z3:=[i6 g,V.im R.length RR,V.im N.length NN];let z4:=(↑(k+1):Int);Bn [decide (z1<z0)=true,An [(0:Int)<=z1,z1<z0],headF (List.drop 0 (List.drop (k*4) NN))=some (i6 x),An [(0:Int)<=z1,z1<z0],headF (List.drop 0 (List.drop (k*4) NN2))=some (i6 y),(x != y)=false,wr .i64 (z1+1)=z4,Bn [Zz,Zz,z0=z0,z4=z4],An [z3=z3,TT 3],An [z2=z2,TT 3]]) ?_
   (repeat'(first|(with_reducible apply And.intro)|(refine fun(_:True)=>?_)))<;>first|exact aq|skip
   all_goals first|exact s1|exact s2|skip
  ·have hf : sameB N M = false := by
    cases hb:sameB N M with
    |false=>rfl
    |true=>exact absurd ((Qj1.1 hb).2 k hlt) he
   refine .inr ⟨.ret,[],{sl:=[(4,.bool false)]},[yes 17,pl 22,ld 24 (i6 (N.getD k mc0).c),pl 28,ld 30 (i6 (M.getD k mc0).c),yes 31],1000,.inr (.inl ⟨hf,rfl,rfl⟩),?_⟩
   clear hin hf
   generalize (N.getD k mc0).c=x at*
   generalize (M.getD k mc0).c=y at*
   generalize rtL R=RR at*
   generalize mcL N=NN at*
   generalize rtL R'=RR2 at*
   generalize mcL M=NN2 at*
   refine m_ (p:=let z0:=(k:Int);let z1:=(N.length:Int);Bn [decide (z0<z1)=true,An [(0:Int)<=z0,z0<z1],headF (List.drop 0 (List.drop (k*4) NN))=some (i6 x),An [(0:Int)<=z0,z0<z1],headF (List.drop 0 (List.drop (k*4) NN2))=some (i6 y),(x != y)=true,Bn [Sm false]]) ?_
   (repeat'(first|(with_reducible apply And.intro)|(refine fun(_:True)=>?_)))<;>first|exact aq|skip
   all_goals first|exact s1|exact s2|skip
 ·have hk2 : k = N.length := by omega
  have hf:sameB N M=true:=Qj1.2 ⟨hl,fun i hi=>hin i o_⟩
  subst hk2
  refine .inr ⟨.exit 0,[],{sl:=[]},[no 17],1000,.inl ⟨hf,rfl,rfl⟩,?_⟩
  clear hin hf
  generalize rtL R=RR at*
  generalize mcL N=NN at*
  generalize rtL R'=RR2 at*
  generalize mcL M=NN2 at*
  refine m_ (p:=Bn [decide ((N.length:Int)<(N.length:Int))=false,Tt]) ?_
  (repeat'(first|(with_reducible apply And.intro)|(refine fun(_:True)=>?_)))<;>first|exact aq|skip
  all_goals skip
end
theorem Qhs(g g':Int)(R R':List (List Int))(N M:List Mc)(hq:N.length<=1000000)(hq2:M.length<=1000000):FnOk Pg g0 26 [mdV g R N,mdV g' R' M] (.bool (sameB N M)):=by
 have hRR:=Qah R
 have hNN:=Qaj N
 have hRR2:=Qah R'
 have hNN2:=Qaj M
 unfold mdV
 by_cases hl:N.length=M.length
 ·have h := Qtr g g' R R' N M hq hl
  generalize sameB N M=z at*
  refine FnOk.of_vc vE_ok mixed Qab (n:=1000) (r:=[]) (S:={sl:=[(4,.bool z)]}) (hs:=[no 12,(0,.loop [0,1] (smS g g' R.length R'.length (rtL R) (rtL R') N.length (mcL N) (mcL M) 0) [(z=true,.exit 0,{sl:=[]}),(z=false,.ret,{sl:=[(4,.bool false)]})])]) ?_
  generalize rtL R=RR at*
  generalize mcL N=NN at*
  generalize rtL R'=RR2 at*
  generalize mcL M=NN2 at*
  refine m_ (p:=Bn [Sm (V.bool z),((N.length:Int) != (M.length:Int))=false,Bn [Bn [Zz,Zz,Sm (N.length:Int),((0:Nat):Int)=(0:Int)],An [Sm [i6 g,V.im R.length RR,V.im N.length NN],TT 3],An [[i6 g',V.im R'.length RR2,V.im N.length NN2]=[i6 g',V.im R'.length RR2,V.im M.length NN2],TT 3]],Sat Try.prog none 0 (at' 26 [1,1,0,1,0]) (mkSt g0 33 (smS g g' R.length R'.length RR RR2 N.length NN NN2 0)) (Qad g0 33 [(z=true,Ex.exit 0,SL.mk [] [] [] []),(z=false,Ex.ret,SL.mk [(4,V.bool false)] [] [] [])]),(z=true->Bn [Bn [z=true]]),(z=false->Bn [Bn [z=false]])]) ?_
  (repeat'(first|(with_reducible apply And.intro)|(refine fun(_:True)=>?_)))<;>first|exact aq|skip
  all_goals first|exact h|(rw[<-hl];done)|(intro h;subst h;rfl)|skip
 ·have hf : sameB N M = false := by
   cases hb:sameB N M with
   |false=>rfl
   |true=>exact absurd (Qj1.1 hb).1 hl
  rw[hf]
  refine FnOk.of_vc vE_ok mixed Qab (n:=1000) (r:=[]) (S:={sl:=[(4,.bool false)]}) (hs:=[yes 12]) ?_
  clear hf
  generalize rtL R=RR at*
  generalize mcL N=NN at*
  generalize rtL R'=RR2 at*
  generalize mcL M=NN2 at*
  refine m_ (p:=Bn [Sm (V.bool false),((N.length:Int) != (M.length:Int))=true,Bn [Sm false]]) ?_
  (repeat'(first|(with_reducible apply And.intro)|(refine fun(_:True)=>?_)))<;>first|exact aq|skip
  all_goals skip
abbrev seS(g:Int)(n:Nat)(R:List V)(q:Nat)(N:List V)(k:Nat)(l:List Int):SL:={sl:=[(1,.ptr 0 0),(4,.sl 1 0 q (some (q-q))),(13,i6 (q:Nat)),(14,i6 (k:Nat))],os:=[.row 26 none [i6 g,.im n R,.im q N],.row 3 none (ints l)]}
abbrev seX(g:Int)(n:Nat)(R:List V)(q:Nat)(N:List V)(l:List Int):SL:={sl:=[(1,.ptr 0 0),(4,.im q (ints l))],os:=[.row 26 none [i6 g,.im n R,.im q N]]}
def none_(n:Nat):List Int:=List.replicate n (-1)
section
variable (g:Int) (R:List (List Int)) (N:List Mc) (hq:N.length<=5)
include hq
theorem Qtt:Sat Pg none 0 (at' 27 [1,1,0,1,0]) (mkSt g0 30 (seS g R.length (rtL R) N.length (mcL N) 0 (preL (fun _=> -1) N.length 0))) (Qad g0 30 [(True,.exit 0,seX g R.length (rtL R) N.length (mcL N) (preL (fun _=> -1) N.length N.length))]):=by
 have hRR:=Qah R
 have hNN:=Qaj N
 refine Qav vE_ok mixed Qab (b:=at' 27 [1,1,0,1,0,0]) k_ (fun k=>k<=N.length) (fun k=>seS g R.length (rtL R) N.length (mcL N) k (preL (fun _=> -1) N.length k)) (fun k=>N.length-k) (fun k hk=>?_) 0 (Nat.zero_le _)
 by_cases hlt:k<N.length
 ·have e := Qdz (f := fun _ => (-1 : Int)) (n := N.length) (k := k)
  have h1:=Qa0 (f:=fun _=>(-1:Int)) (n:=N.length) (k:=k)
  have h2:=Qa0 (f:=fun _=>(-1:Int)) (n:=N.length) (k:=k+1)
  have s1:=Qa3 (l:=preL (fun _=>(-1:Int)) N.length k) (j:=k) (x:= -1) o_
  rw[e]at s1
  refine .inl ⟨k+1,[0,1],[yes 15,pl 19,st (ints (preL (fun _=> -1) N.length (k+1))),nu 20 ((k+1:Nat):Int)],1000,hlt,by omega,?_⟩
  clear e
  generalize preL (fun _=>(-1:Int)) N.length k=a at*
  generalize preL (fun _=>(-1:Int)) N.length (k+1)=b at*
  have haa:=Qaa a
  have hbb:=Qaa b
  generalize rtL R=RR at*
  generalize mcL N=NN at*
  generalize N.length=n at*
  refine m_ (p:=let z0:=[i6 g,V.im R.length RR,V.im n NN];let z1:=(↑(k+1):Int);let z2:=(k:Int);let z3:=(n:Int);Bn [decide (z2<z3)=true,An [(0:Int)<=z2,z2<z3],layE (0+k*1) (ints a) [i6 (-1)]=some (ints b),wr .i64 (z2+1)=z1,Bn [Zz,An [Zz,n=n,Sm (n-n)],z3=z3,z1=z1],An [z0=z0,TT 3],An [Sm (ints b),HfL (ints b)]]) ?_
  (repeat'(first|(with_reducible apply And.intro)|(refine fun(_:True)=>?_)))<;>first|exact aq|skip
  all_goals first|exact s1|skip
 ·have hk2 : k = N.length := by omega
  subst hk2
  have h2:=Qa0 (f:=fun _=>(-1:Int)) (n:=N.length) (k:=N.length)
  refine .inr ⟨.exit 0,[0],seX g R.length (rtL R) N.length (mcL N) (preL (fun _=> -1) N.length N.length),[no 15],1000,.inl ⟨trivial,rfl,rfl⟩,?_⟩
  generalize preL (fun _=>(-1:Int)) N.length N.length=b at*
  have hbb:=Qaa b
  generalize rtL R=RR at*
  generalize mcL N=NN at*
  generalize N.length=n at*
  refine m_ (p:=Bn [decide ((n:Int)<(n:Int))=false,Bn [Zz,An [n=n,Sm (ints b),HfL (ints b)]],An [Sm [i6 g,V.im R.length RR,V.im n NN],TT 3]]) ?_
  (repeat'(first|(with_reducible apply And.intro)|(refine fun(_:True)=>?_)))<;>first|exact aq|skip
  all_goals first|rfl|skip
end
theorem Qjp{n:Nat}:(none_ n).length=n:=by simp[none_]
theorem none_at{n k:Nat}(h:k<n):(none_ n).getD k 0= -1:=by
 unfold none_
 rw[List.getD_eq_getElem?_getD,List.getElem?_replicate,if_pos h];rfl
theorem none_set{N:List Mc}(hc: ∀k,k<N.length->1<=(N.getD k mc0).c/\(N.getD k mc0).c<=4):setB N (none_ N.length)=true:=Qge.2 ⟨Qjp,fun k hk=>by
 rw[none_at hk]
 have:=hc k hk
 omega⟩
theorem Qj2(g:Int)(R:List (List Int))(N:List Mc)(hl:Qbd R N)(h:chkB g R N=true):FnOk Pg g0 27 [mdV g R N] (.tup [sl (tabT R N (none_ N.length)),i6 0]):=by
 have hRR:=Qah R
 have hNN:=Qaj N
 have hM:=Qb4 h
 have hq:=hM.q1
 have ht:=Quh g R N hl h (none_ N.length) (by rw[Qjp];omega) (none_set hM.cd)
 have hlo:=Qtt g R N hq.2
 have e2:preL (fun _=>(-1:Int)) N.length N.length=none_ N.length:=by
  rw[Qe2]
  unfold none_
  rw[List.eq_replicate_iff]
  refine⟨by simp,fun b hb=>?_⟩
  obtain⟨i,_,rfl⟩:=List.mem_map.1 hb
  rfl
 rw[e2,Qcg]at hlo
 have hnl:=Qjp (n:=N.length)
 generalize tabT R N (none_ N.length)=w at*
 generalize vrT N.length=a at*
 generalize cdT N=b at*
 generalize none_ N.length=o at*
 have haa:=Qaa a
 have hbb:=Qaa b
 have hww:=Qaa w
 have hoo:=Qaa o
 unfold mdV at*
 clear e2 hM hl h
 have ho:sl o= .im N.length (ints o):=by show V.im o.length _=_;rw[hnl]
 rw[ho]at ht
 refine FnOk.of_vc vE_ok mixed Qab (n:=1000) (r:=[]) (S:={sl:=[(2,sl w),(3,i6 0)]}) (hs:=[mk 11,(0,.loop [0,1] (seS g R.length (rtL R) N.length (mcL N) 0 (List.replicate N.length 0)) [(True,.exit 0,seX g R.length (rtL R) N.length (mcL N) o)]),fn 24 (.tup [.agg [sl a,sl b,sl w],i6 0])]) ?_
 generalize rtL R=RR at*
 generalize mcL N=NN at*
 refine m_ (p:=let z0:=(N.length:Int);let z1:=[i6 g,V.im R.length RR,V.im N.length NN];let z3:=(0:Int);let z2:=List.replicate N.length z3;Bn [Sm (V.tup [sl w,i6 0]),An [z3<=z0,z0<=z0,((8:Nat):Int)*z0<=281474976710656,z0<=9223372036854775807],Bn [Bn [Zz,An [Zz,Sm N.length,Sm (N.length-N.length)],z0=z0,((0:Nat):Int)=z3],An [z1=z1,TT 3],An [ints z2=rep N.length [i6 0],HfL (ints z2)]],Sat Try.prog none 0 (at' 27 [1,1,0,1,0]) (mkSt g0 30 (seS g R.length RR N.length NN 0 z2)) (Qad g0 30 [(True,Ex.exit 0,seX g R.length RR N.length NN o)]),(True->Bn [Bn [TT 3,Tt],FnOk Try.prog g0 19 [V.agg z1,V.im N.length (ints o)] (V.tup [V.agg [sl a,sl b,sl w],i6 0]),Tt,Bn [An [Sm w.length,Sm (ints w)],z3=z3]])]) ?_
 (repeat'(first|(with_reducible apply And.intro)|(refine fun(_:True)=>?_)))<;>first|exact aq|skip
 all_goals first|exact ht|exact hlo|exact Qay _ _|exact(Qay _ _).symm|skip
set_option maxHeartbeats 1000000
set_option maxRecDepth 100000
def gsum(w:Nat->Int)(f:Nat->Bool):Nat->Int
 |0=>0
 |k+1=>if f k=true then gsum w f k+w k else gsum w f k
def gtab(w:Nat->Int)(f:Nat->Nat)(n k:Nat):List Int:=(List.range n).map fun i=>gsum w (fun x=>decide (f x=i)) k
theorem Qf4{w:Nat->Int}{f:Nat->Nat}{n k:Nat}:(gtab w f n k).length=n:=by simp[gtab]
theorem Ql7{w:Nat->Int}{f:Nat->Nat}{n k i:Nat}(h:i<n):(gtab w f n k).getD i 0=gsum w (fun x=>decide (f x=i)) k:=by
 unfold gtab
 rw[List.getD_eq_getElem?_getD,List.getElem?_map,List.getElem?_eq_getElem (by simpa using h)]
 simp
theorem Qr2{w:Nat->Int}{f:Nat->Nat}{n:Nat}:gtab w f n 0=List.replicate n 0:=by
 unfold gtab
 rw[List.eq_replicate_iff]
 refine⟨by simp,fun b hb=>?_⟩
 obtain⟨i,_,rfl⟩:=List.mem_map.1 hb
 rfl
theorem gtab_set{w:Nat->Int}{f:Nat->Nat}{n k:Nat}(h:f k<n):(gtab w f n k).set (f k) ((gtab w f n k).getD (f k) 0+w k)=gtab w f n (k+1):=by
 rw[Ql7 h]
 apply List.ext_getElem?
 intro i
 rw[List.getElem?_set]
 by_cases hik:f k=i
 ·subst hik
  rw[if_pos rfl,if_pos (by rw[Qf4];exact h)]
  unfold gtab
  rw[List.getElem?_map,List.getElem?_eq_getElem (by simpa using h)]
  simp[gsum]
 ·rw [if_neg hik]
  unfold gtab
  simp only[List.getElem?_map]
  cases h2:(List.range n)[i]? with
  |none=>rfl
  | some x =>
   have:x=i:=by
    obtain⟨h1,h3⟩:=List.getElem?_eq_some_iff.1 h2
    simpa using h3.symm
   subst this
   simp only[Option.map_some,gsum]
   rw[if_neg (by simpa using hik)]
theorem Qr0{w:Nat->Int}{f:Nat->Bool}{b:Int}(hb:0<=b): ∀k:Nat,(∀i,i<k->0<=w i/\w i<=b)->0<=gsum w f k/\gsum w f k<=k*b
 |0,_=>by simp[gsum]
 |k+1,h=>by
  have h1:=Qr0 (f:=f) hb k (fun i hi=>h i o_)
  have h2:=h k o_
  have h3:((k+1:Nat):Int)*b=k*b+b:=by rw[Int.natCast_succ,Int.add_mul,Int.one_mul]
  unfold gsum
  split<;>omega
def pidx(cs:List Int)(s:Nat)(v:List Int):Nat->Int
 |0=>0
 |k+1=>if s.testBit k=true then pidx cs s v k*cs.getD k 0+v.getD k 0 else pidx cs s v k
theorem Qjy{cs:List Int}{s:Nat}{v:List Int}(hc: ∀k,k<cs.length->1<=cs.getD k 0/\cs.getD k 0<=4)(hv: ∀k,k<cs.length->0<=v.getD k 0/\v.getD k 0<cs.getD k 0): ∀k,k<=cs.length->0<=pidx cs s v k/\pidx cs s v k<prodT (mkC cs s) k
 |0,_=>by simp[pidx,prodT]
 | k + 1, h => by
  obtain⟨h1,h2⟩:=Qjy hc hv k o_
  obtain⟨h3,h4⟩:=hv k o_
  have hm:=Qld (cs:=cs) (s:=s) (i:=k) o_
  unfold pidx prodT
  rw[hm]
  split
  ·rename_i hb
   generalize pidx cs s v k=a at*
   generalize v.getD k 0=b at*
   generalize cs.getD k 0=c at*
   generalize prodT (mkC cs s) k=p at*
   have e1:(a+1)*c<=p*c:=Int.mul_le_mul_of_nonneg_right o_ o_
   have e2:(a+1)*c=a*c+c:=by rw[Int.add_mul,Int.one_mul]
   have e3:0<=a*c:=Int.mul_nonneg h1 o_
   omega
  ·omega
theorem Qmm{cs:List Int}{s:Nat}(hc: ∀k,k<cs.length->1<=cs.getD k 0/\cs.getD k 0<=4)(h5:cs.length<=5): ∀k,k<=cs.length->1<=prodT (mkC cs s) k/\prodT (mkC cs s) k<=1024:=fun k hk=>by
 have h:=Qga (cs:=mkC cs s) (fun i hi=>Qsu hc i (by rw[Qbi]at hi;exact hi)) k (by rw[Qbi];exact hk)
 have h45:(4:Int)^k<=4^5:=by
  have:=Nat.pow_le_pow_right (show 4>0 by decide) (show k<=5 by omega)
  exact_mod_cast this
 have h46:(4:Int)^5=1024:=rfl
 omega
theorem mkC_all{cs:List Int}{s:Nat}(h: ∀i,i<cs.length->s.testBit i=true):mkC cs s=cs:=by
 apply List.ext_getElem?
 intro i
 by_cases hi:i<cs.length
 ·have h1 := Qld (s := s) hi
  rw[h i hi,if_pos rfl,List.getD_eq_getElem?_getD,List.getElem?_eq_getElem (by rw[Qbi];exact hi),List.getD_eq_getElem?_getD,List.getElem?_eq_getElem hi]at h1
  rw[List.getElem?_eq_getElem (by rw[Qbi];exact hi),List.getElem?_eq_getElem hi]
  exact congrArg some h1
 ·rw[List.getElem?_eq_none (by rw[Qbi];omega),List.getElem?_eq_none o_]
noncomputable abbrev e1C:Code:=at' 59 [1,1,1,1,0,1,0]
theorem e1_eq:e1C= .rangeFunc (.tmp 29) #[30] (Qeh e1C) (Qbb e1C):=by kernel_rfl
noncomputable def e1B:Code:=Qbb e1C
noncomputable def e1A:Code:=Qeh e1C
abbrev eoO(v:V):O:=.row 36 none [v]
abbrev eoL(A:List Int):O:=.row 3 (some 1) (ints A)
abbrev efF(a b w:List Int):O:=.row 66 none [sl a,sl b,sl w]
abbrev euO(s:Nat):O:=.row 29 none [u6 (s:Nat)]
theorem e1_asg(v:V)(H:T O)(nx:Nat):vc Pg vE sp0 (some 5) nx 1000 e1A [] (mkSo g0 76 [(12,.ptr 4 0),(30,v)] H nx []) (Qce 76 [(12,.ptr 4 0)] H nx []):=by
 refine m_ (p:=An [Bn [Sm (V.ptr 4 0)],H=H,nx=nx,([]:List Nat)=[]]) ?_
 (repeat'(first|(with_reducible apply And.intro)|(refine fun(_:True)=>?_)))<;>first|exact aq|skip
 all_goals skip
abbrev e0L:O:=.row 3 none [i6 0]
theorem src_i{H:T O}{nx:Nat}:srcV (pt H nx e0L) 1 (.sl nx 0 1 (some 0))=some (1,[i6 0]):=by
 unfold srcV;dsimp only;rw[pt_eq,T.get_put,if_pos rfl];rfl
theorem e1_first(nx:Nat)(H:T O)(h1:gt H 4=some (eoO .nils))(hn:6<nx):
  vc Pg vE sp0 (some 5) nx 1000 e1B [lo_ 31 (eoO .nils) .nils,(33,.an 1 [i6 0]),so (eoO .nils) [.sl (nx+1) 0 1 none]] (mkSo g0 76 [(12,.ptr 4 0)] H nx [5]) (Qg5 (pt (pt (pt H nx e0L) (nx+1) (eoL [0])) 4 (eoO (.sl (nx+1) 0 1 none))) (nx+1+1) [4,5]):=by
 refine m_ (p:=let z1:=V.sl (nx+1) 0 1 none;let z2:=pt H nx (O.row 3 none [i6 0]);let z0:=pt z2 (nx+1) (O.row 3 (some 1) [i6 0]);An [gt H 4=some (eoO V.nils),headF [V.nils]=some V.nils,An [srcV z2 1 (V.sl nx 0 1 (some 0))=some (1,[i6 0]),1<=9223372036854775807,1*8<=140737488355328],An [gt z0 4=some (eoO V.nils),layE 0 [V.nils] [z1]=some [z1]],pt z0 4 (O.row 36 none [z1])=pt (pt (pt H nx e0L) (nx+1) (eoL [(0:Int)])) 4 (eoO z1),Sm (nx+1+1),[4]++([]++[5])=[4,5]]) ?_
 (repeat'(first|(with_reducible apply And.intro)|(refine fun(_:True)=>?_)))<;>first|exact aq|skip
 all_goals first|rfl|exact h1|exact src_i|(rw[gt_pt,if_neg o_,gt_pt,if_neg o_];exact h1)|(rw[gt_pt,if_neg o_];exact h1)|skip
theorem e1_more(nx h w:Nat)(A:List Int)(hA:A.length=w+1)(hw:w<=100000)(H:T O)(h1:gt H 4=some (eoO (.sl h 0 (w+1) none)))(h2:gt H h=some (eoL A))(hn:6<nx)(hh:h<nx)(hh2:6<h):
  vc Pg vE sp0 (some 5) nx 1000 e1B [lo_ 31 (eoO (.sl h 0 (w+1) none)) (.sl h 0 (w+1) none),(33,.ao (eoL A) 1 [i6 0]),so (eoO (.sl h 0 (w+1) none)) [.sl (nx+1) 0 (w+1+1) none]] (mkSo g0 76 [(12,.ptr 4 0)] H nx [5]) (Qg5 (pt (pt (pt (pt H nx e0L) h .dead) (nx+1) (.row 3 (some 1) (ints A++[i6 0]))) 4 (eoO (.sl (nx+1) 0 (w+1+1) none))) (nx+1+1) [4,h,5]):=by
 have hA2:(ints A).length=w+1:=by rw[Qbs];exact hA
 refine m_ (p:=let z1:=V.sl (nx+1) 0 (w+1+1) none;let z2:=V.sl h 0 (w+1) none;let z3:=pt H nx (O.row 3 none [i6 0]);let z4:=O.row 3 (some 1) (ints A++[i6 0]);let z0:=pt (pt z3 h O.dead) (nx+1) z4;An [gt H 4=some (eoO z2),headF [z2]=some z2,srcV z3 1 (V.sl nx 0 1 (some 0))=some (1,[i6 0]),gt z3 h=some (eoL A),List.length (ints A)=(w+1)*1,w+1+1<=9223372036854775807,(w+1+1)*8<=140737488355328,An [gt z0 4=some (eoO z2),layE 0 [z2] [z1]=some [z1]],pt z0 4 (O.row 36 none [z1])=pt (pt (pt (pt H nx e0L) h O.dead) (nx+1) z4) 4 (eoO z1),Sm (nx+1+1),[4]++([h]++[5])=[4,h,5]]) ?_
 (repeat'(first|(with_reducible apply And.intro)|(refine fun(_:True)=>?_)))<;>first|exact aq|skip
 all_goals first|rfl|exact h1|exact src_i|(rw[gt_pt,if_neg o_];exact h2)|(rw[gt_pt,if_neg o_];exact h1)|(rw[gt_pt,if_neg o_,gt_pt,if_neg o_,gt_pt,if_neg o_];exact h1)|skip
structure Ef1(L0:O)(cs:List Int)(s:Nat)(F:O)(k:Nat)(H:T O)(n:Nat):Prop where
 b1:gt H 1=some (eoO (sl cs))
 b2:gt H 2=some (euO s)
 b3:gt H 3=some F
 lp:gt H 5=some L0
 rw:gt H 6=some (rw3 (cmb (mkC cs s) k))
 lo:7<=n
 sm:(k=0/\gt H 4=some (eoO .nils))\/∃h w,6<h/\h<n/\k=w+1/\gt H 4=some (eoO (.sl h 0 (w+1) none))/\gt H h=some (eoL (List.replicate (w+1) 0))
abbrev e1S(cs:List Int)(s:Nat):List (Nat×V):=[(4,.ptr 0 0),(6,.ptr 1 0),(7,.ptr 2 0),(10,.ptr 3 0),(12,.ptr 4 0),(29,.fn 58 [.imp [.im cs.length (ints cs)],.imp [u6 (s:Nat)]])]
noncomputable abbrev e1T(cs:List Int)(s:Nat):TM:=(mkSo g0 76 (e1S cs s) .e 0 []).tm
noncomputable abbrev e1L(cs:List Int)(s:Nat)(ls:LoopState):O:=.loop ls none 0 (e1T cs s) [30] e1A e1B
theorem rep_snoc(w:Nat):ints (List.replicate (w+1) 0)++[i6 0]=ints (List.replicate (w+1+1) 0):=by
 have h:List.replicate (w+1+1) (0:Int)=List.replicate (w+1) 0++[0]:=List.replicate_succ'
 rw[h]
 unfold ints
 rw[List.map_append]
 rfl
theorem e1_round(cs:List Int)(s q:Nat)(hq:cs.length=q)(F:O)(k:Nat)(hk:k<=10000)(H:T O)(nx:Nat)(M:Ef1 (e1L cs s .ready) cs s F k H nx):
  ∃K n' L,CallSpec Pg g0 (.yld 5) [.sl 6 0 q (some (q-q))] H nx ⟨.bool true,K,n',L⟩/\gt K 6=some (rw3 (cmb (mkC cs s) k))/\Ef1 (e1L cs s .ready) cs s F (k+1) (pt K 6 (rw3 (cmb (mkC cs s) (k+1)))) n':=by
 obtain⟨b1,b2,b3,lp,rw_,lo,sm⟩:=M
 rcases sm with⟨rfl,m1⟩|⟨h,w,g1,g2,rfl,m1,m2⟩
 ·have hv := e1_first nx (pt H 5 (e1L cs s .busy)) (by rw [gt_pt, if_neg d_]; exact m1) o_
  refine⟨_,_,_,CallSpec.yldO vE_ok mixed Qab (n:=76) (hd:=5) (H:=H) (H1:=H) (fn0:=0) (tm:=e1T cs s) (ps:=[30]) (assign:=e1A) (body:=e1B) (sl0:=[(12,.ptr 4 0),(30,.sl 6 0 q (some (q-q)))]) (sl1:=[(12,.ptr 4 0)]) lp rfl rfl rfl ⟨rfl,rfl,trivial⟩ (e1_asg _ H nx) lp hv ?_ (Qg8 o_ (fun i hi hr=>?_)),?_,?_⟩
  ·simp only [gt_pt]; repeat' split
   all_goals first|omega|(exact absurd trivial (by assumption))|rfl
  ·simp only [List.mem_cons, List.not_mem_nil, or_false, not_or] at hi
   simp only[gt_pt];repeat' split
   all_goals first|omega|(exact absurd trivial (by assumption))|rfl
  ·simp only [gt_pt]; repeat' split
   all_goals first|omega|(exact absurd trivial (by assumption))|assumption
  ·refine ⟨?_, ?_, ?_, ?_, ?_, by omega, .inr ⟨nx + 1, 0, by omega, by omega, rfl, ?_, ?_⟩⟩
   all_goals(simp only[gt_pt];repeat' split)
   all_goals first|omega|(exact absurd trivial (by assumption))|assumption|rfl
 ·have hv := e1_more nx h w (List.replicate (w + 1) 0) (by simp) o_ (pt H 5 (e1L cs s .busy)) (by rw [gt_pt, if_neg d_]; exact m1) (by rw [gt_pt, if_neg o_]; exact m2) o_ g2 g1
  rw[rep_snoc]at hv
  refine⟨_,_,_,CallSpec.yldO vE_ok mixed Qab (n:=76) (hd:=5) (H:=H) (H1:=H) (fn0:=0) (tm:=e1T cs s) (ps:=[30]) (assign:=e1A) (body:=e1B) (sl0:=[(12,.ptr 4 0),(30,.sl 6 0 q (some (q-q)))]) (sl1:=[(12,.ptr 4 0)]) lp rfl rfl rfl ⟨rfl,rfl,trivial⟩ (e1_asg _ H nx) lp hv ?_ (Qg8 o_ (fun i hi hr=>?_)),?_,?_⟩
  ·simp only [gt_pt]; repeat' split
   all_goals first|omega|(exact absurd trivial (by assumption))|rfl
  ·simp only [List.mem_cons, List.not_mem_nil, or_false, not_or] at hi
   simp only[gt_pt];repeat' split
   all_goals first|omega|(exact absurd trivial (by assumption))|rfl
  ·simp only [gt_pt]; repeat' split
   all_goals first|omega|(exact absurd trivial (by assumption))|assumption
  ·refine ⟨?_, ?_, ?_, ?_, ?_, by omega, .inr ⟨nx + 1, w + 1, by omega, by omega, rfl, ?_, ?_⟩⟩
   all_goals(simp only[gt_pt];repeat' split)
   all_goals first|omega|(exact absurd trivial (by assumption))|assumption|rfl
theorem e1_range(cs:List Int)(s q:Nat)(hq:cs.length=q)(xx:s<18446744073709551616)(h12:q<=8)(hc: ∀i,i<q->1<=cs.getD i 0/\cs.getD i 0<=4)(P:Nat)(hP:(P:Int)=prodT (mkC cs s) q)(hP1:1<=P)(hP2:P<=1024)(F:O)(H:T O)(lg:List Nat)
  (b1:gt H 1=some (eoO (sl cs)))(b2:gt H 2=some (euO s))(b3:gt H 3=some F)(b4:gt H 4=some (eoO .nils)):
  ∃H1 n1 L,Ef1 (e1L cs s .ready) cs s F P H1 n1/\Sat Pg none 0 e1C (mkSo g0 76 (e1S cs s) H 5 lg) (Qbq g0 76 .normal (fun _=>e1S cs s) (fun _ H' nx' lg'=>H'=pt H1 5 .dead/\nx'=n1/\lg'=L++lg)):=by
 subst hq
 obtain⟨H1,n1,L,hM,hlog,xw⟩:=Qis cs s cs.length rfl xx h12 hc P hP hP1 (rd:=none) (nx0:=0) (n:=76) (nx:=5) (sl:=e1S cs s) (H:=H) (lg:=lg) (g:=.tmp 29) (ps:= #[30]) (asg:=e1A) (body:=e1B) rfl rfl (e1L cs s .ready) rfl
  (fun k H' n'=>Ef1 (e1L cs s .ready) cs s F k H' n')
  (by
   refine⟨?_,?_,?_,?_,?_,by omega,.inl ⟨rfl,?_⟩⟩
   all_goals(simp only[gt_pt];repeat' split)
   all_goals first|omega|(exact absurd trivial (by assumption))|assumption|rfl)
  (fun k hk H' n' hM=>e1_round cs s cs.length rfl F k o_ H' n' hM)
  (fun H' n' hM=>hM.lp)
 exact⟨H1,n1,L,hM,by rw[e1_eq];exact xw⟩
noncomputable abbrev e2C:Code:=at' 59 [1,1,1,1,1,1,0,1,0]
theorem e2_eq:e2C= .rangeFunc (.tmp 39) #[40] (Qeh e2C) (Qbb e2C):=by kernel_rfl
noncomputable def e2B:Code:=Qbb e2C
noncomputable def e2A:Code:=Qeh e2C
abbrev cnO(k:Int):O:=.row 3 none [i6 k]
abbrev e2s(c:Nat):List (Nat×V):=[(6,.ptr 1 0),(7,.ptr 2 0),(10,.ptr 3 0),(12,.ptr 4 0),(13,.ptr c 0)]
theorem e2_asg(c:Nat)(v:V)(H:T O)(nx:Nat):vc Pg vE sp0 (some (c+1)) nx 1000 e2A [] (mkSo g0 76 (e2s c++[(40,v)]) H nx []) (Qce 76 (e2s c++[(14,v)]) H nx []):=by
 refine m_ (p:=An [Bn [Sm (V.ptr 1 0),Sm (V.ptr 2 0),Sm (V.ptr 3 0),Sm (V.ptr 4 0),Sm (V.ptr c 0),v=v],H=H,nx=nx,([]:List Nat)=[]]) ?_
 (repeat'(first|(with_reducible apply And.intro)|(refine fun(_:True)=>?_)))<;>first|exact aq|skip
 all_goals skip
abbrev e2I(c q:Nat)(k:Nat)(x:Int):List (Nat×V):=e2s c++[(15,i6 x),(41,.sl (c+2) 0 q (some (q-q))),(42,i6 (q:Nat)),(43,i6 (k:Nat))]
abbrev e2X(c:Nat)(x:Int):List (Nat×V):=[(10,.ptr 3 0),(12,.ptr 4 0),(13,.ptr c 0),(15,i6 x)]
section
variable (cs v:List Int) (s q c:Nat) (hq:cs.length=q) (xx:s<18446744073709551616) (h12:q<=5) (hc: ∀i,i<cs.length->1<=cs.getD i 0/\cs.getD i 0<=4) (hvl:v.length=q) (hv: ∀k,k<cs.length->0<=v.getD k 0/\v.getD k 0<cs.getD k 0)
include hq xx h12 hc hvl hv
theorem e2_in(nx0:Nat)(H:T O)(nx:Nat)(lg:List Nat)(b1:gt H 1=some (eoO (sl cs)))(b2:gt H 2=some (euO s))(br:gt H (c+2)=some (rw3 v)):
  Sat Pg (some (c+1)) nx0 (sub [0,1,0,1,0] (Qbb e2C)) (mkSo g0 76 (e2I c q 0 0) H nx lg) (Qjt g0 76 H nx lg [(True,.exit 4,e2X c (pidx cs s v q))]):=by
 subst hq
 refine loopFr (b:=sub [0,1,0,1,0,0] (Qbb e2C)) k_ (fun x=>x.1<=cs.length/\x.2=pidx cs s v x.1) (fun(x:Nat×Int)=>e2I c cs.length x.1 x.2) (fun x=>cs.length-x.1) _ H nx lg (fun x G hI hN hE=>?_) (0,0) ⟨Nat.zero_le _,rfl⟩
 obtain⟨k,x⟩:=x
 obtain⟨hk,hx0⟩:=hI
 dsimp only at hk hx0
 subst hx0
 have hcc:=Qaa cs
 by_cases hlt:k<cs.length
 ·have s1 := Qbo (l := v) (k := k) o_
  have s2:=Qag (l:=cs) (k:=k) o_
  have hck:=hc k hlt
  have hvk:=hv k hlt
  have b0:=Qjy (s:=s) hc hv k hk
  have b3:=Qjy (s:=s) hc hv (k+1) hlt
  have c1:=Qmm (s:=s) hc h12 (k+1) hlt
  have c0:=Qmm (s:=s) hc h12 k hk
  have b01:=bit01 s k
  have w1:=Qdd (G:=Qac Pg) (t:=29) (x:=s) (k:=k) o_
  have w2:=Qcj (G:=Qac Pg) (t:=29) (x:=s/2^k)
  have jg:=hN (k+1,pidx cs s v (k+1)) ⟨hlt,rfl⟩ (by dsimp only;omega)
  dsimp only at jg
  cases kp:s.testBit k with
  |true=>
   have e1:pidx cs s v (k+1)=pidx cs s v k*cs.getD k 0+v.getD k 0:=by show(if s.testBit k=true then _ else _)=_;rw[if_pos kp]
   have hx2:=b01.1.1 kp
   have hm0:0<=pidx cs s v k*cs.getD k 0:=Int.mul_nonneg b0.1 o_
   refine⟨[yes 44,pl 46,lo_ 47 (rw3 v) (i6 (v.getD k 0)),lo_ 48 (euO s) (u6 (s:Nat)),va 50 (u6 (s/2^k:Nat)),va 51 (u6 (s/2^k%2:Nat)),yes 52,lo_ 54 (eoO (sl cs)) (sl cs),pl 56,ld 57 (i6 (cs.getD k 0)),nu 58 (pidx cs s v k*cs.getD k 0),nu 60 (pidx cs s v (k+1)),nu 61 ((k+1:Nat):Int),toO (e2I c cs.length (k+1) (pidx cs s v (k+1)))],1000,?_⟩
   clear hN hE hc hv b01
   generalize pidx cs s v (k+1)=p1 at*
   generalize pidx cs s v k=p0 at*
   generalize cs.getD k 0=y at*
   generalize v.getD k 0=z at*
   generalize s/2^k=t at*
   refine m_ (p:=let z0:=V.sl (c+2) 0 cs.length (some (cs.length-cs.length));let z1:=(k:Int);let z2:=(cs.length:Int);Bn [decide (z1<z2)=true,An [(0:Int)<=z1,z1<z2],gt H (c+2)=some (rw3 v),headF (dropF (0+k*1) (ints v))=some (i6 z),gt H 2=some (euO s),headF [u6 s]=some (u6 s),binV (Qac Try.prog) BinOp.shr 29 (u6 s) (i6 k)=some (u6 t),binV (Qac Try.prog) BinOp.and 29 (u6 t) (u6 1)=some (u6 ↑(t%2)),((↑(t%2):Int)==1)=true,gt H 1=some (eoO (sl cs)),headF [sl cs]=some (sl cs),An [(0:Int)<=z1,z1<z2],headF (List.drop (k*1) (ints cs))=some (i6 y),wr .i64 (p0*y)=p0*y,wr .i64 (p0*y+z)=p1,wr .i64 (z1+1)=(↑(k+1):Int),G Ex.normal (e2I c cs.length (k+1) p1) H nx lg,Sm (V.ptr 1 0),Sm (V.ptr 2 0),Sm (V.ptr 3 0),Sm (V.ptr 4 0),Sm (V.ptr c 0),Sm (i6 p1),z0=z0,Sm (i6 cs.length),Sm (i6 ↑(k+1))]) ?_
   (repeat'(first|(with_reducible apply And.intro)|(refine fun(_:True)=>?_)))<;>first|exact aq|skip
   all_goals first|exact s1|exact s2|exact b1|exact b2|exact br|exact w1|exact w2|exact jg|(rw[hx2];rfl)|(rw[wr6 o_ o_];done)|(rw[<-e1,wr6 o_ o_];done)|rfl|skip
  |false=>
   have e1:pidx cs s v (k+1)=pidx cs s v k:=by show(if s.testBit k=true then _ else _)=_;rw[if_neg (by rw[kp];simp)]
   have hx2:=b01.2.1 kp
   rw[e1]at jg
   refine⟨[yes 44,pl 46,lo_ 47 (rw3 v) (i6 (v.getD k 0)),lo_ 48 (euO s) (u6 (s:Nat)),va 50 (u6 (s/2^k:Nat)),va 51 (u6 (s/2^k%2:Nat)),no 52,nu 61 ((k+1:Nat):Int),toO (e2I c cs.length (k+1) (pidx cs s v k))],1000,?_⟩
   clear hN hE hc hv b01
   generalize pidx cs s v k=p0 at*
   generalize cs.getD k 0=y at*
   generalize v.getD k 0=z at*
   generalize s/2^k=t at*
   refine m_ (p:=let z0:=V.sl (c+2) 0 cs.length (some (cs.length-cs.length));let z1:=(k:Int);Bn [decide (z1<(cs.length:Int))=true,An [(0:Int)<=z1,z1<(cs.length:Int)],gt H (c+2)=some (rw3 v),headF (dropF (0+k*1) (ints v))=some (i6 z),gt H 2=some (euO s),headF [u6 s]=some (u6 s),binV (Qac Try.prog) BinOp.shr 29 (u6 s) (i6 k)=some (u6 t),binV (Qac Try.prog) BinOp.and 29 (u6 t) (u6 1)=some (u6 ↑(t%2)),((↑(t%2):Int)==1)=false,wr .i64 (z1+1)=(↑(k+1):Int),G Ex.normal (e2I c cs.length (k+1) p0) H nx lg,Sm (V.ptr 1 0),Sm (V.ptr 2 0),Sm (V.ptr 3 0),Sm (V.ptr 4 0),Sm (V.ptr c 0),Sm (i6 p0),z0=z0,Sm (i6 cs.length),Sm (i6 ↑(k+1))]) ?_
   (repeat'(first|(with_reducible apply And.intro)|(refine fun(_:True)=>?_)))<;>first|exact aq|skip
   all_goals first|exact s1|exact s2|exact b1|exact b2|exact br|exact w1|exact w2|exact jg|(rw[hx2];rfl)|rfl|skip
 ·have hk2 : k = cs.length := by omega
  subst hk2
  have hex:=hE 4 _ (.inl ⟨trivial,rfl,rfl⟩)
  refine⟨[no 44,toO (e2X c (pidx cs s v cs.length))],1000,?_⟩
  clear hN hE hc hv
  generalize pidx cs s v cs.length=p0 at*
  refine m_ (p:=Bn [decide ((cs.length:Int)<(cs.length:Int))=false,G (Ex.exit 4) (e2X c p0) H nx lg,Sm (V.ptr 3 0),Sm (V.ptr 4 0),Sm (V.ptr c 0),Sm (i6 p0)]) ?_
  (repeat'(first|(with_reducible apply And.intro)|(refine fun(_:True)=>?_)))<;>first|exact aq|skip
  all_goals first|exact hex|skip
theorem e2_bdy(h P:Nat)(a b w S:List Int)(hS:S.length=P)(hP6:P<=1000000)(k:Nat)(hk:k<w.length)(hw6:w.length<=1000000)(x y:Int)(p:Nat)(hp:pidx cs s v q=(p:Int))(hpP:p<P)(hx:S.getD p 0=x)(hy:w.getD k 0=y)(bx: -1000000000000000<=x/\x<=1000000000000000)(by_: -1000000000000000<=y/\y<=1000000000000000)(h6:6<h)(hhc:h<c)(H:T O)(nx:Nat)(b1:gt H 1=some (eoO (sl cs)))(b2:gt H 2=some (euO s))(b3:gt H 3=some (efF a b w))(b4:gt H 4=some (eoO (.sl h 0 P none)))(bh:gt H h=some (eoL S))(bc:gt H c=some (cnO k))(br:gt H (c+2)=some (rw3 v)):
  vc Pg vE sp0 (some (c+1)) nx 1000 e2B [lpF (e2I c q 0 0) (.exit 4) (e2X c (p:Nat)),lo_ 62 (eoO (.sl h 0 P none)) (.sl h 0 P none),pl 64,lo_ 65 (eoL S) (i6 x),lo_ 67 (efF a b w) (sl w),lo_ 68 (cnO k) (i6 k),pl 69,ld 70 (i6 y),nu 71 (x+y),pl 72,so (eoL S) (ints (S.set p (x+y))),lo_ 73 (cnO k) (i6 k),nu 74 ((k+1:Nat):Int),so (cnO k) [i6 ((k+1:Nat):Int)]] (mkSo g0 76 (e2s c++[(14,.sl (c+2) 0 q (some (q-q)))]) H nx [c+1]) (Qg5 (pt (pt H h (eoL (S.set p (x+y)))) c (cnO ((k+1:Nat):Int))) nx [c,h,c+1]):=by
 have hin:=fun lg=>e2_in cs v s q c hq xx h12 hc hvl hv nx H nx lg b1 b2 br
 rw[hp]at hin
 have s1:=Qbo (l:=S) (k:=p) o_
 rw[hx]at s1
 have s2:=Qa3 (l:=S) (j:=p) (x:=x+y) o_
 have s3:=Qag (l:=w) (k:=k) hk
 rw[hy]at s3
 have hwl:(S.set p (x+y)).length=P:=by rw[List.length_set];exact hS
 clear hc hv
 generalize S.set p (x+y)=S2 at*
 have hww:=Qaa w
 refine m_ (p:=let z0:=pt H h (O.row 3 (some 1) (ints S2));let z1:=Edge.mk 0 Ground.data;let z2:=(k:Int);let z3:=Operand.const (Value.int IntKind.u64 (1:Int));let z4:=Operand.tmp 43;let z5:=Edge.mk 0 Ground.phase;let z6:=Edge.mk 1 Ground.phase;let z7:=Edge.mk 2 Ground.phase;let z8:=(p:Int);let z9:=Edge.mk 1 Ground.data;let y0:=Edge.mk 2 Ground.data;let y1:=V.sl h 0 P none;let y2:=V.sl (c+2) 0 q (some (q-q));let y3:=Op.move (Operand.tmp 16);let y4:=[i6 ↑(k+1)];let y5:= #[Edge.mk 3 Ground.data];let y7:=(0:Int);let y8:=Edge.mk 3 Ground.phase;let y6:=some (cnO z2);Bn [Bn [Sm (V.ptr 1 0),Sm (V.ptr 2 0),Sm (V.ptr 3 0),Sm (V.ptr 4 0),Sm (V.ptr c 0),Sm (i6 0),y2=y2,Sm (i6 q),i6 0=i6 ↑(0:Nat)],Sat Pg (some (c+1)) nx (Code.loop (Code.seq (Code.region 12 #[Oper.mk (some 44) (Op.binOp BinOp.lss 3 z4 (Operand.tmp 42) 3) 0 "witness.go:229" #[] none] false) (Code.seq (Code.cond (Operand.tmp 44) Code.skip (Code.exit 4)) (Code.seq (Code.block 5 (Code.seq (Code.region 13 #[Oper.mk (some 45) (Op.move z4) 3 "witness.go:229" #[] none,Oper.mk (some 46) (Op.indexAddr 36 (Operand.tmp 41) z4) 0 "witness.go:229" #[] none,Oper.mk (some 47) (Op.load 3 (Operand.tmp 46)) 3 "witness.go:229" #[z9] none,Oper.mk (some 16) (Op.assign (Operand.tmp 45)) 3 "witness.go:229" #[z1,z5,z6,z7] none,Oper.mk (some 17) (Op.assign (Operand.tmp 47)) 3 "witness.go:229" #[y0,Edge.mk 3 Ground.chain,z5,z6,z7,y8] none] false) (Code.seq (Code.region 14 #[Oper.mk (some 48) (Op.load 29 (Operand.tmp 7)) 29 "witness.go:230" #[] none,Oper.mk (some 49) y3 3 "witness.go:230" #[] none,Oper.mk (some 50) (Op.binOp BinOp.shr 29 (Operand.tmp 48) (Operand.tmp 49) 3) 29 "witness.go:230" #[z1,z9] none,Oper.mk (some 51) (Op.binOp BinOp.and 29 (Operand.tmp 50) z3 29) 29 "witness.go:230" #[y0] none,Oper.mk (some 52) (Op.binOp BinOp.eql 29 (Operand.tmp 51) z3 29) 4 "witness.go:230" y5 none] false) (Code.cond (Operand.tmp 52) (Code.region 15 #[Oper.mk (some 53) (Op.move (Operand.tmp 15)) 3 "witness.go:231" #[] none,Oper.mk (some 54) (Op.load 36 (Operand.tmp 6)) 36 "witness.go:231" #[] none,Oper.mk (some 55) y3 3 "witness.go:231" #[] none,Oper.mk (some 56) (Op.indexAddr 36 (Operand.tmp 54) (Operand.tmp 55)) 0 "witness.go:231" #[z9,y0] none,Oper.mk (some 57) (Op.load 3 (Operand.tmp 56)) 3 "witness.go:231" y5 none,Oper.mk (some 58) (Op.binOp BinOp.mul 3 (Operand.tmp 53) (Operand.tmp 57) 3) 3 "witness.go:231" #[z1,Edge.mk 4 Ground.data] none,Oper.mk (some 59) (Op.move (Operand.tmp 17)) 3 "witness.go:231" #[] none,Oper.mk (some 60) (Op.binOp BinOp.add 3 (Operand.tmp 58) (Operand.tmp 59) 3) 3 "witness.go:231" #[Edge.mk 5 Ground.data,Edge.mk 6 Ground.data] none,Oper.mk (some 15) (Op.assign (Operand.tmp 60)) 3 "witness.go:231" #[Edge.mk 7 Ground.data,z5,z6,z7,y8,Edge.mk 4 Ground.phase,Edge.mk 5 Ground.phase,Edge.mk 6 Ground.phase,Edge.mk 7 Ground.phase] none] false) Code.skip)))) (Code.region 16 #[Oper.mk (some 61) (Op.binOp BinOp.add 3 z4 (Operand.const (Value.int IntKind.i64 (1:Int))) 3) 3 "witness.go:229" #[] none,Oper.mk (some 43) (Op.move (Operand.tmp 61)) 3 "witness.go:229" #[z1] none] false))))) (mkSo g0 76 (e2I c q 0 y7) H nx [c+1]) (Qjt g0 76 H nx [c+1] [(True,Ex.exit 4,e2X c z8)]),(True->An [gt H 4=some (eoO y1),headF [y1]=some y1,An [y7<=z8,z8<(P:Int)],gt H h=some (eoL S),headF (dropF (0+p*1) (ints S))=some (i6 x),gt H 3=some (efF a b w),headF (dropF (0+2) [sl a,sl b,sl w])=some (sl w),gt H c=y6,headF [i6 k]=some (i6 k),An [y7<=z2,z2<(w.length:Int)],headF (List.drop (k*1) (ints w))=some (i6 y),wr .i64 (x+y)=x+y,An [y7<=z8,z8<(P:Int)],An [gt H h=some (eoL S),layE (0+p*1) (ints S) [i6 (x+y)]=some (ints S2)],gt z0 c=y6,headF [i6 k]=some (i6 k),wr .i64 (z2+1)=(↑(k+1):Int),An [gt z0 c=y6,layE 0 [i6 k] y4=some y4],pt z0 c (O.row 3 none y4)=pt (pt H h (eoL S2)) c (cnO (↑(k+1):Int)),nx=nx,[c]++([h]++[c+1])=[c,h,c+1]])]) ?_
 (repeat'(first|(with_reducible apply And.intro)|(refine fun(_:True)=>?_)))<;>first|exact aq|skip
 all_goals first|exact hin ([]++[c+1])|exact hin _|exact s1|exact s2|exact s3|exact b1|exact b2|exact b3|exact b4|exact bh|exact bc|exact br|rfl|(rw[gt_pt,if_neg o_];exact bc)|skip
end
set_option maxHeartbeats 1000000
set_option maxRecDepth 100000
structure Ef2(L0:O)(cs:List Int)(s c h P:Nat)(a b w:List Int)(pf:Nat->Nat)(k:Nat)(H:T O)(n:Nat):Prop where
 b1:gt H 1=some (eoO (sl cs))
 b2:gt H 2=some (euO s)
 b3:gt H 3=some (efF a b w)
 b4:gt H 4=some (eoO (.sl h 0 P none))
 bh:gt H h=some (eoL (gtab (fun i=>w.getD i 0) pf P k))
 bc:gt H c=some (cnO k)
 lp:gt H (c+1)=some L0
 rw:gt H (c+2)=some (rw3 (cmb cs k))
 lo:c+3<=n
abbrev e2S(cs:List Int)(al c:Nat):List (Nat×V):=e2s c++[(39,.fn 58 [.imp [.im cs.length (ints cs)],.imp [u6 (al:Nat)]])]
noncomputable abbrev e2T(cs:List Int)(al c:Nat):TM:=(mkSo g0 76 (e2S cs al c) .e 0 []).tm
noncomputable abbrev e2L(cs:List Int)(al c:Nat)(ls:LoopState):O:=.loop ls none 0 (e2T cs al c) [40] e2A e2B
def pfE(cs:List Int)(s:Nat)(k:Nat):Nat:=(pidx cs s (cmb cs k) cs.length).toNat
section
variable (cs:List Int) (s al c h P:Nat) (a b w:List Int) (xx:s<18446744073709551616) (h12:cs.length<=5) (hc: ∀i,i<cs.length->1<=cs.getD i 0/\cs.getD i 0<=4) (hP:(P:Int)=prodT (mkC cs s) cs.length) (hw:(w.length:Int)=prodT cs cs.length) (hwb: ∀i,i<w.length->0<=w.getD i 0/\w.getD i 0<=500000000000) (h6:6<h) (hhc:h<c)
include xx h12 hc hP hw hwb h6 hhc
theorem e2_round(k:Nat)(hk:k<w.length)(H:T O)(nx:Nat)(M:Ef2 (e2L cs al c .ready) cs s c h P a b w (pfE cs s) k H nx):
  ∃K n' L,CallSpec Pg g0 (.yld (c+1)) [.sl (c+2) 0 cs.length (some (cs.length-cs.length))] H nx ⟨.bool true,K,n',L⟩/\gt K (c+2)=some (rw3 (cmb cs k))/\Ef2 (e2L cs al c .ready) cs s c h P a b w (pfE cs s) (k+1) (pt K (c+2) (rw3 (cmb cs (k+1)))) n':=by
 obtain⟨b1,b2,b3,b4,bh,bc,lp,rw_,lo⟩:=M
 obtain⟨xz,_⟩:=Qky (fun i hi=>(hc i hi).1) (show(k:Int)<prodT cs cs.length by omega)
 have hpb:=Qjy (s:=s) hc xz cs.length (Nat.le_refl _)
 have h4:=Qmm (s:=s) hc h12 cs.length (Nat.le_refl _)
 have hw4:=Qga hc cs.length (Nat.le_refl _)
 have h45:(4:Int)^cs.length<=4^5:=by
  have:=Nat.pow_le_pow_right (show 4>0 by decide) h12
  exact_mod_cast this
 have h46:(4:Int)^5=1024:=rfl
 have hpe:pidx cs s (cmb cs k) cs.length=(pfE cs s k:Nat):=by unfold pfE;omega
 have hpP:pfE cs s k<P:=by omega
 have hset:=gtab_set (w:=fun i=>w.getD i 0) (f:=pfE cs s) (n:=P) (k:=k) hpP
 have hgb:=Qr0 (w:=fun i=>w.getD i 0) (f:=fun x=>decide (pfE cs s x=pfE cs s k)) (b:=500000000000) d_ k (fun i hi=>hwb i o_)
 rw[<-Ql7 hpP]at hgb
 have hwk:=hwb k hk
 have hv:=e2_bdy cs (cmb cs k) s cs.length c rfl xx h12 hc (Qcz cs k) xz h P a b w (gtab (fun i=>w.getD i 0) (pfE cs s) P k) Qf4 o_ k hk o_ _ _ _ hpe hpP rfl rfl o_ o_ h6 hhc (pt H (c+1) (e2L cs al c .busy)) nx
  (by rw[gt_pt,if_neg o_];exact b1) (by rw[gt_pt,if_neg o_];exact b2) (by rw[gt_pt,if_neg o_];exact b3) (by rw[gt_pt,if_neg o_];exact b4) (by rw[gt_pt,if_neg o_];exact bh) (by rw[gt_pt,if_neg o_];exact bc) (by rw[gt_pt,if_neg o_];exact rw_)
 rw[hset]at hv
 refine⟨_,_,_,CallSpec.yldO vE_ok mixed Qab (n:=76) (hd:=c+1) (H:=H) (H1:=H) (fn0:=0) (tm:=e2T cs al c) (ps:=[40]) (assign:=e2A) (body:=e2B) (sl0:=[(6,.ptr 1 0),(7,.ptr 2 0),(10,.ptr 3 0),(12,.ptr 4 0),(13,.ptr c 0),(40,.sl (c+2) 0 cs.length (some (cs.length-cs.length)))]) (sl1:=[(6,.ptr 1 0),(7,.ptr 2 0),(10,.ptr 3 0),(12,.ptr 4 0),(13,.ptr c 0),(14,.sl (c+2) 0 cs.length (some (cs.length-cs.length)))]) lp rfl rfl rfl ⟨rfl,rfl,rfl,rfl,rfl,rfl,trivial⟩ (e2_asg c _ H nx) lp hv ?_ (Qg8 o_ (fun i hi hr=>?_)),?_,?_⟩
 ·simp only [gt_pt]; repeat' split
  all_goals first|omega|(exact absurd trivial (by assumption))|rfl
 ·simp only [List.mem_cons, List.not_mem_nil, or_false, not_or] at hi
  simp only[gt_pt];repeat' split
  all_goals first|omega|(exact absurd trivial (by assumption))|rfl
 ·simp only [gt_pt]; repeat' split
  all_goals first|omega|(exact absurd trivial (by assumption))|assumption
 ·refine ⟨?_, ?_, ?_, ?_, ?_, ?_, ?_, ?_, by omega⟩
  all_goals(simp only[gt_pt];repeat' split)
  all_goals first|omega|(exact absurd trivial (by assumption))|assumption|rfl
theorem e2_range(hal: ∀i,i<cs.length->al.testBit i=true)(hal64:al<18446744073709551616)(H:T O)(lg:List Nat)(b1:gt H 1=some (eoO (sl cs)))(b2:gt H 2=some (euO s))(b3:gt H 3=some (efF a b w))(b4:gt H 4=some (eoO (.sl h 0 P none)))(bh:gt H h=some (eoL (List.replicate P 0)))(bc:gt H c=some (cnO 0)):
  ∃H1 n1 L,Ef2 (e2L cs al c .ready) cs s c h P a b w (pfE cs s) w.length H1 n1/\Sat Pg none 0 e2C (mkSo g0 76 (e2S cs al c) H (c+1) lg) (Qbq g0 76 .normal (fun _=>e2S cs al c) (fun _ H' nx' lg'=>H'=pt H1 (c+1) .dead/\nx'=n1/\lg'=L++lg)):=by
 have hm:mkC cs al=cs:=mkC_all hal
 have hw1:=Qga hc cs.length (Nat.le_refl _)
 have h0:Ef2 (e2L cs al c .ready) cs s c h P a b w (pfE cs s) 0 (pt (pt H (c+1) (e2L cs al c .ready)) (c+1+1) (rw3 (cmb (mkC cs al) 0))) (c+1+2):=by
  rw[hm]
  have hz:=Qr2 (w:=fun i=>w.getD i 0) (f:=pfE cs s) (n:=P)
  rw[<-hz]at bh
  refine⟨?_,?_,?_,?_,?_,?_,?_,?_,by omega⟩
  all_goals(simp only[gt_pt];repeat' split)
  all_goals first|omega|(exact absurd trivial (by assumption))|assumption|rfl
 obtain⟨H1,n1,L,hM,hlog,xw⟩:=Qis cs al cs.length rfl hal64 o_ hc w.length (by rw[hm];exact hw) o_ (rd:=none) (nx0:=0) (n:=76) (nx:=c+1) (sl:=e2S cs al c) (H:=H) (lg:=lg) (g:=.tmp 39) (ps:= #[40]) (asg:=e2A) (body:=e2B) rfl rfl (e2L cs al c .ready) rfl
  (fun k H' n'=>Ef2 (e2L cs al c .ready) cs s c h P a b w (pfE cs s) k H' n')
  h0
  (fun k hk H' n' hM => by
   rw[hm]
   exact e2_round cs s al c h P a b w xx h12 hc hP hw hwb h6 hhc k hk H' n' hM)
  (fun H' n' hM=>hM.lp)
 exact⟨H1,n1,L,hM,by rw[e2_eq];exact xw⟩
end
set_option maxHeartbeats 1000000
set_option maxRecDepth 100000
theorem Qgb{N:List Mc}: ∀k,k<=N.length->prodT (cdT N) k=crdP N k
 |0,_=>rfl
 |k+1,h=>by
  unfold prodT crdP
  rw[Qgb k o_,Qii o_]
theorem Qkx{N:List Mc}(hc: ∀k,k<N.length->1<=(N.getD k mc0).c/\(N.getD k mc0).c<=4): ∀k,k<(cdT N).length->1<=(cdT N).getD k 0/\(cdT N).getD k 0<=4:=fun k hk=>by
 rw[Qbe]at hk
 rw[Qii hk]
 exact hc k hk
theorem Qbv{R:List (List Int)}{N:List Mc}{s:List Int}:(tabT R N s).length=(crdP N N.length).toNat:=Qe6
theorem tabT_bd{g:Int}{R:List (List Int)}{N:List Mc}(hM:MdOk g R N){s:List Int}: ∀i,i<(tabT R N s).length->0<=(tabT R N s).getD i 0/\(tabT R N s).getD i 0<=500000000000:=fun i hi=>by
 unfold tabT
 rw[Qbv]at hi
 rw[Qhw hi]
 have h:=Qkf hM.wt hM.n1 (fun x=>decide (plcW R N s x=i)) (prK R R.length)
 have:=hM.w24
 omega
def effL(R:List (List Int))(N:List Mc)(act:List Int)(s:Nat):List Int:=gtab (fun i=>(tabT R N act).getD i 0) (pfE (cdT N) s) (prodT (mkC (cdT N) s) (cdT N).length).toNat (tabT R N act).length
theorem gc_eff{H:T O}{nx h n:Nat}{lg:List Nat}{X:List Int}(h1:gt H h=some (eoL X)):
  Gc 0 [] (mkSo g0 76 [(8,.sl h 0 n none),(9,i6 0)] H nx lg) (mkSt g0 76 {sl:=[(8,.im n (ints X)),(9,i6 0)]}):=by
 rw[Qak]at h1
 have hX:=Qaa X
 refine⟨rfl,fun g hg=>(by cases hg),List.nodup_nil,rfl,rfl,fun i x hx=>?_,fun h' o ho hlive=>?_,fun h _ hlt=>absurd hlt (Nat.not_lt_zero _)⟩
 ·have c6 : gt (putL (blank 76) [(8, V.sl h 0 n none), (9, i6 0)]) 8 = some (.sl h 0 n none) := by kernel_rfl
  have c7:gt (putL (blank 76) [(8,V.sl h 0 n none),(9,i6 0)]) 9=some (i6 0):=by kernel_rfl
  rw[Qak]at c6 c7
  rcases putL_get _ _ _ _ hx with jb|jb
  ·simp only [List.mem_cons, List.not_mem_nil, or_false] at jb
   rcases jb with jb|jb
   ·cases jb
    exact⟨_,c6,.inr (.inr ⟨h,0,none,_,_,_,rfl,⟨Nat.zero_le _,by simp,fun _ _=>Nat.zero_le _⟩,h1,ViewP.of_hf _ hX⟩)⟩
   ·cases jb
    exact⟨_,c7,rfl⟩
  ·rw[Qca]at jb;cases jb
 ·simp[mkSt,ofOs]at ho
theorem Qdv(g:Int)(R:List (List Int))(N:List Mc)(hl:Qbd R N)(h:chkB g R N=true)(act:List Int)(h6:act.length<=1000000)(hS:setB N act=true)(s:Nat)(xx:s<18446744073709551616):FnOk Pg g0 59 [mdV g R N,sl act,sl (cdT N),u6 (s:Nat)] (.tup [sl (effL R N act s),i6 0]):=by
 have hRR:=Qah R
 have hNN:=Qaj N
 have hacc:=Qaa act
 have hM:=Qb4 h
 have ht:=Quh g R N hl h act h6 hS
 have hq:=hM.q1
 have hcl:=Qbe (N:=N)
 have hcb:=Qkx hM.cd
 have hP4:=Qmm (s:=s) hcb o_ (cdT N).length (Nat.le_refl _)
 have hz1:=(Qeg hM.cd N.length (Nat.le_refl _)).1
 have hwl:((tabT R N act).length:Int)=prodT (cdT N) (cdT N).length:=by rw[hcl,Qgb N.length (Nat.le_refl _),Qbv];omega
 have hwb:=tabT_bd hM (s:=act)
 obtain⟨P,hPe⟩: ∃P:Nat,(P:Int)=prodT (mkC (cdT N) s) (cdT N).length:=⟨(prodT (mkC (cdT N) s) (cdT N).length).toNat,by omega⟩
 have heff:effL R N act s=gtab (fun i=>(tabT R N act).getD i 0) (pfE (cdT N) s) P (tabT R N act).length:=by unfold effL;rw[<-hPe,Int.toNat_natCast]
 rw[heff]
 have hb1:=Qeo (cdT N) s
 have hb2:=Qeo (cdT N) (alN (cdT N).length)
 obtain⟨z2,hz2⟩: ∃z,z=2^(cdT N).length:=⟨_,rfl⟩
 obtain⟨sh1,sh2⟩:=Qdm (G:=Qac Pg) (t:=29) (k:=(cdT N).length) o_
 have sh3:1<=2^(cdT N).length:=Nat.one_le_two_pow
 have sh4:(alN (cdT N).length:Int)=(z2:Int)-1:=by unfold alN;omega
 have hal64:alN (cdT N).length<18446744073709551616:=by unfold alN;omega
 have hal: ∀i,i<(cdT N).length->(alN (cdT N).length).testBit i=true:=fun i hi=>by
  unfold alN
  rw[Nat.testBit_two_pow_sub_one]
  exact decide_eq_true hi
 rw[<-hz2]at sh1 sh2 sh3
 have sh5:wr .u64 ((z2:Int)-1)=(alN (cdT N).length:Int):=by rw[sh4];exact Qlp (by simp[lo];omega) (by simp[hi];omega)
 generalize vrT N.length=vr at*
 generalize tabT R N act=w at*
 have hww:=Qaa w
 generalize cdT N=cs at*
 have hcs:=Qaa cs
 obtain⟨H1,n1,L1,hE1,hsat1⟩:=e1_range cs s cs.length rfl xx o_ hcb P hPe o_ o_ (efF vr cs w) (pt (pt (pt (pt (pt (pt .e 0 (.row 26 none [i6 g,.im R.length (rtL R),.im N.length (mcL N)])) 1 (eoO (sl cs))) 2 (euO s)) 3 (.row 66 none [.nils,.nils,.nils])) 3 (efF vr cs w)) 4 (eoO .nils)) [3] rfl rfl rfl rfl
 obtain⟨c1,c2,c3,c4,c5,c6,c7⟩:=hE1
 rcases c7 with⟨e,_⟩|⟨hh,v0,q1,q2,q3,q4,q5⟩
 ·omega
 rw[<-q3]at q4 q5
 obtain⟨H2,n2,L2,hE2,hsat2⟩:=e2_range cs s (alN cs.length) n1 hh P vr cs w xx o_ hcb hPe hwl hwb q1 q2 hal hal64 (pt (pt (pt H1 5 .dead) n1 (cnO 0)) n1 (cnO 0)) (n1::(L1++[3]))
  (by
    simp only[gt_pt];repeat' split
    all_goals first|omega|(exact absurd trivial (by assumption))|assumption)
  (by
    simp only[gt_pt];repeat' split
    all_goals first|omega|(exact absurd trivial (by assumption))|assumption)
  (by
    simp only[gt_pt];repeat' split
    all_goals first|omega|(exact absurd trivial (by assumption))|assumption)
  (by
    simp only[gt_pt];repeat' split
    all_goals first|omega|(exact absurd trivial (by assumption))|assumption)
  (by
    simp only[gt_pt];repeat' split
    all_goals first|omega|(exact absurd trivial (by assumption))|assumption)
  (by
    simp only[gt_pt];repeat' split
    all_goals first|omega|(exact absurd trivial (by assumption))|rfl)
 obtain⟨d1,d2,d3,d4,d5,d6,d7,d8,d9⟩:=hE2
 have r1:gt (pt H2 (n1+1) .dead) 4=some (eoO (.sl hh 0 P none)):=by rw[gt_pt,if_neg o_];exact d4
 have r2:gt (pt H2 (n1+1) .dead) hh=some (eoL (gtab (fun i=>w.getD i 0) (pfE cs s) P w.length)):=by rw[gt_pt,if_neg o_];exact d5
 have jr:(gtab (fun i=>w.getD i 0) (pfE cs s) P w.length).length=P:=Qf4
 generalize gtab (fun i=>w.getD i 0) (pfE cs s) P w.length=X at*
 have hXX:=Qaa X
 have eX:sl X= .im P (ints X):=by show V.im X.length _=_;rw[jr]
 rw[eX]
 generalize alN cs.length=al at*
 have rc:gt (pt H1 5 .dead) 1=some (eoO (sl cs)):=by rw[gt_pt,if_neg o_];exact c1
 have gcf:=fun lg=>gc_eff (nx:=n2) (n:=P) (lg:=lg) r2
 clear d1 d2 d3 d4 d5 d6 d7 d8 q4 q5 c1 c2 c3 c4 c5 hM hwb hcb heff hPe hwl eX
 unfold mdV at*
 refine FnOk.of_vcX (n:=1000) (r:=[]) (sl:=[(8,.sl hh 0 P none),(9,i6 0)]) (S:={sl:=[(8,.im P (ints X)),(9,i6 0)]}) (hs:=[fn 21 (.tup [.agg [sl vr,sl cs,sl w],i6 0]),fn 29 (.fn 58 [.imp [.im cs.length (ints cs)],.imp [u6 (s:Nat)]]),(0,.loopM (e1S cs s) .normal (fun _=>e1S cs s) (fun _ H' nx' lg'=>H'=pt H1 5 .dead/\nx'=n1/\lg'=L1++[3]) (fun _ _ _ _=>[so (cnO 0) [i6 0],lo_ 34 (eoO (sl cs)) (sl cs),lo_ 35 (eoO (sl cs)) (sl cs),va 37 (u6 (z2:Nat)),nu 38 ((al:Nat):Int),fn 39 (.fn 58 [.imp [.im cs.length (ints cs)],.imp [u6 (al:Nat)]]),(0,.loopM (e2S cs al n1) .normal (fun _=>e2S cs al n1) (fun _ H' nx' lg'=>H'=pt H2 (n1+1) .dead/\nx'=n2/\lg'=L2++(n1::(L1++[3]))) (fun _ _ _ _=>[lo_ 75 (eoO (.sl hh 0 P none)) (.sl hh 0 P none)]))]))]) ?_
 generalize rtL R=RR at*
 generalize mcL N=NN at*
 refine m_ (p:=let z0:=V.im cs.length (ints cs);let z1:=O.row 3 none [i6 0];let z4:=V.sl hh 0 P none;let z6:=[i6 g,V.im R.length RR,V.im N.length NN];let z7:=V.tup [V.im P (ints X),i6 0];let z8:=V.ptr 1 0;let z9:=V.ptr 2 0;let y0:=V.ptr 3 0;let y1:=V.ptr 4 0;let z3:=V.fn 58 [V.imp [z0],V.imp [u6 al]];let z5:=V.fn 58 [V.imp [z0],V.imp [u6 s]];An [z7=z7,Bn [TT 3,Tt],FnOk Pg g0 19 [V.agg z6,V.im act.length (ints act)] (V.tup [V.agg [sl vr,sl cs,sl w],i6 0]),Tt,TT 2,FnOk Pg g0 29 [z0,u6 s] z5,Tt,Bn [Sm (V.ptr 0 0),z8=z8,z9=z9,y0=y0,y1=y1,z5=z5],Sat Pg none 0 (at' 59 [1,1,1,1,0,1,0]) (mkSo g0 76 (e1S cs s) (pt (pt (pt (pt (pt (pt T.e 0 (O.row 26 none z6)) 1 (O.row 36 none [sl cs])) 2 (O.row 29 none [u6 s])) 3 (O.row 66 none [V.nils,V.nils,V.nils])) 3 (O.row 66 none [sl vr,sl cs,sl w])) 4 (O.row 36 none [V.nils])) 5 ([]++([3]++([]++[])))) (Qbq g0 76 Ex.normal (fun x=>e1S cs s) fun x H' nx' lg'=>H'=pt H1 5 O.dead∧nx'=n1∧lg'=L1++[3]),∀(h:Nat)(H:T O)(nx:Nat)(lg:List Nat),H=pt H1 5 O.dead∧nx=n1∧lg=L1++[3]→(gt (pt H nx z1) nx=some (cnO (0:Int))∧layE 0 [i6 0] [i6 0]=some [i6 0])∧gt (pt (pt H nx z1) nx z1) 1=some (eoO (sl cs))∧headF [sl cs]=some (sl cs)∧gt (pt (pt H nx z1) nx z1) 1=some (eoO (sl cs))∧headF [sl cs]=some (sl cs)∧binV (Qac Try.prog) BinOp.shl 29 (u6 1) (i6 cs.length)=some (u6 z2)∧wr .u64 ((z2:Int)-1)=(al:Int)∧(True∧True∧True)∧FnOk Pg g0 29 [z0,u6 al] z3∧True∧(z8=z8∧z9=z9∧y0=y0∧y1=y1∧V.ptr nx 0=V.ptr n1 0∧z3=z3∧True)∧Sat Pg none 0 (at' 59 [1,1,1,1,1,1,0,1,0]) (mkSo g0 76 (e2S cs al n1) (pt (pt H nx z1) nx z1) (nx+1) ([]++([nx]++lg))) (Qbq g0 76 Ex.normal (fun x=>e2S cs al n1) fun x H' nx' lg'=>H'=pt H2 (n1+1) O.dead∧nx'=n2∧lg'=L2++n1::(L1++[3]))∧∀(h:Nat)(H:T O)(nx:Nat)(lg:List Nat),H=pt H2 (n1+1) O.dead∧nx=n2∧lg=L2++n1::(L1++[3])→gt H 4=some (eoO z4)∧headF [z4]=some z4∧(z4=z4∧i6 0=i6 0∧True)∧Gc 0 [] (mkSo g0 76 [(8,z4),(9,i6 0)] H nx lg) (mkSt g0 76 (SL.mk [(8,V.im P (ints X)),(9,i6 0)] [] [] []))]) ?_
 (repeat'(first|(with_reducible apply And.intro)|(refine fun(_:True)=>?_)))
 all_goals first|exact ht|exact hb1|exact hb2|exact hsat1|(rintro h H nx lg ⟨rfl,rfl,rfl⟩;(repeat'(first|(with_reducible apply And.intro)|(refine fun(_:True)=>?_)));all_goals first|rfl|exact aq|exact hsat2|exact r1|(rw[gt_pt,if_pos rfl];done)|(rw[gt_pt,if_neg (by omega),gt_pt,if_neg (by omega)];exact rc)|(rintro h H nx lg ⟨rfl,rfl,rfl⟩;(repeat'(first|(with_reducible apply And.intro)|(refine fun(_:True)=>?_)));all_goals first|rfl|exact aq|exact r1|exact gcf _|skip)|skip)|exact aq|skip
def isum:Nat->(Nat->Int)->Int
 |0,_=>0
 |k+1,f=>isum k f+f k
theorem Qb7{f f':Nat->Int}: ∀k,(∀i,i<k->f i=f' i)->isum k f=isum k f'
 |0,_=>rfl
 |k+1,h=>by
  unfold isum
  rw[Qb7 k (fun i hi=>h i o_),h k o_]
theorem Qn5{f f':Nat->Int}: ∀k,isum k (fun i=>f i+f' i)=isum k f+isum k f'
 |0=>rfl
 |k+1=>by
  unfold isum
  rw[Qn5 k]
  dsimp only
  omega
theorem Qg3: ∀k,isum k (fun _=>0)=0
 |0=>rfl
 |k+1=>by
  unfold isum
  rw[Qg3 k];rfl
theorem Qjl{f:Nat->Int}(c:Int): ∀k,isum k (fun i=>c*f i)=c*isum k f
 |0=>by simp[isum]
 |k+1=>by
  unfold isum
  rw[Qjl c k,Int.mul_add]
theorem Qg2{f:Nat->Nat->Int}(b:Nat): ∀a,isum a (fun x=>isum b (fun d=>f x d))=isum b (fun d=>isum a (fun x=>f x d))
 |0=>(Qg3 b).symm
 |a+1=>by
  show isum a (fun x=>isum b (fun d=>f x d))+isum b (fun d=>f a d)=isum b (fun d=>isum a (fun x=>f x d)+f a d)
  rw[Qg2 b a,Qn5]
theorem Qg1{f:Nat->Int}(a:Nat): ∀b,isum (a+b) f=isum a f+isum b (fun i=>f (a+i))
 |0=>by simp[isum]
 |b+1=>by
  show isum (a+b) f+f (a+b)=isum a f+(isum b (fun i=>f (a+i))+f (a+b))
  rw[Qg1 a b]
  omega
theorem Qin{f:Nat->Int}(r:Nat): ∀a,isum (a*r) f=isum a (fun x=>isum r (fun d=>f (x*r+d)))
 |0=>by rw[Nat.zero_mul];rfl
 |a+1=>by
  rw[Nat.add_mul,Nat.one_mul,Qg1,Qin r a]
  rfl
theorem Qsf{f f':Nat->Int}: ∀k,(∀i,i<k->f i<=f' i)->isum k f<=isum k f'
 |0,_=>Int.le_refl _
 |k+1,h=>by
  have h1:=Qsf k (fun i hi=>h i o_)
  have h2:=h k o_
  unfold isum
  omega
theorem Qkg{R:List (List Int)}{f:Nat->Bool}: ∀k,wsum R f k=isum k (fun x=>if f x=true then wgt R x else 0)
 |0=>rfl
 |k+1=>by
  unfold wsum isum
  rw[Qkg k]
  dsimp only
  split
  ·rfl
  ·omega
theorem Ql1{R:List (List Int)}: ∀k,dsum R k=isum k (wgt R)
 |0=>rfl
 |k+1=>by
  unfold dsum isum
  rw[Ql1 k]
theorem Qr1{w:Nat->Int}{f:Nat->Bool}: ∀k,gsum w f k=isum k (fun x=>if f x=true then w x else 0)
 |0=>rfl
 |k+1=>by
  unfold gsum isum
  rw[Qr1 k]
  dsimp only
  split
  ·rfl
  ·omega
theorem Qcu{α:Type}{d:α}(l:List α)(x:α)(k:Nat):(l++[x]).getD k d=if k<l.length then l.getD k d else if k=l.length then x else d:=by
 rw[List.getD_eq_getElem?_getD,List.getElem?_append]
 by_cases h:k<l.length
 ·rw[if_pos h,if_pos h,List.getD_eq_getElem?_getD]
 ·rw [if_neg h, if_neg h]
  by_cases h2:k=l.length
  ·subst h2;simp
  ·rw [if_neg h2]
   obtain⟨m,hm⟩: ∃m,k-l.length=m+1:=⟨k-l.length-1,by omega⟩
   rw[hm];rfl
section
variable (R:List (List Int)) (L:List Int)
theorem Qbu:(R++[L]).length=R.length+1:=by simp
theorem Qot:rtN (R++[L]) ((R++[L]).length-1-0)=L.length:=by
 unfold rtN
 rw[Qbu,Qcu,if_neg o_,if_pos o_]
theorem Qmu(t:Nat)(h:t<R.length):(R++[L]).getD ((R++[L]).length-1-(t+1)) []=R.getD (R.length-1-t) []:=by
 rw[Qbu,Qcu,if_pos o_]
 congr 1
 omega
theorem Qtz{x d:Nat}(hd:d<L.length): ∀t,t<=R.length->xq (R++[L]) (x*L.length+d) (t+1)=xq R x t
 |0,_=>by
  show xq (R++[L]) (x*L.length+d) 0/rtN (R++[L]) ((R++[L]).length-1-0)=x
  rw[Qot]
  show(x*L.length+d)/L.length=x
  rw[Nat.add_comm,Nat.add_mul_div_right _ _ o_,Nat.div_eq_of_lt hd,Nat.zero_add]
 |t+1,h=>by
  show xq (R++[L]) (x*L.length+d) (t+1)/rtN (R++[L]) ((R++[L]).length-1-(t+1))=xq R x t/rtN R (R.length-1-t)
  rw[Qtz hd t o_]
  unfold rtN
  rw[Qmu R L t o_]
theorem Qor{x d:Nat}(hd:d<L.length):dgt (R++[L]) (x*L.length+d) 0=d:=by
 unfold dgt
 rw[Qot]
 show(x*L.length+d)%L.length=d
 rw[Nat.add_comm,Nat.add_mul_mod_self_right,Nat.mod_eq_of_lt hd]
theorem Qtx{x d:Nat}(hd:d<L.length)(t:Nat)(h:t<R.length):dgt (R++[L]) (x*L.length+d) (t+1)=dgt R x t:=by
 unfold dgt
 rw[Qtz R L hd t o_]
 unfold rtN
 rw[Qmu R L t h]
theorem Qty{x d:Nat}(hd:d<L.length): ∀t,t<=R.length->wq (R++[L]) (x*L.length+d) (t+1)=wq R x t*L.getD d 0
 |0,_=>by
  show wq (R++[L]) (x*L.length+d) 0*((R++[L]).getD ((R++[L]).length-1-0) []).getD (dgt (R++[L]) (x*L.length+d) 0) 0=1*L.getD d 0
  rw[Qor R L hd,Qbu,Qcu,if_neg o_,if_pos o_]
  rfl
 |t+1,h=>by
  show wq (R++[L]) (x*L.length+d) (t+1)*((R++[L]).getD ((R++[L]).length-1-(t+1)) []).getD (dgt (R++[L]) (x*L.length+d) (t+1)) 0=wq R x t*(R.getD (R.length-1-t) []).getD (dgt R x t) 0*L.getD d 0
  rw[Qty hd t o_,Qmu R L t o_,Qtx R L hd t o_,Int.mul_assoc,Int.mul_comm (L.getD d 0),Int.mul_assoc]
theorem snoc_wgt{x d:Nat}(hd:d<L.length):wgt (R++[L]) (x*L.length+d)=wgt R x*L.getD d 0:=by
 unfold wgt
 rw[Qbu]
 exact Qty R L hd R.length (Nat.le_refl _)
theorem snoc_wld{x d:Nat}(hd:d<L.length):wld (R++[L]) (x*L.length+d)=wld R x++[(d:Int)]:=by
 apply List.ext_getElem?
 intro i
 by_cases hi:i<R.length+1
 ·have h1 := Qu3 (R := R ++ [L]) (x := x * L.length + d) (i := i) (by rw [Qbu]; exact hi)
  have h2:(wld R x++[(d:Int)]).getD i 0=(wld (R++[L]) (x*L.length+d)).getD i 0:=by
   rw[h1,Qcu,Qda,Qbu]
   by_cases hlt:i<R.length
   ·rw[if_pos hlt,Qu3 hlt,show R.length+1-1-i=(R.length-1-i)+1 by omega,Qtx R L hd _ o_]
   ·rw[if_neg hlt,if_pos o_,show R.length+1-1-i=0 by omega,Qor R L hd]
  rw[List.getD_eq_getElem?_getD,List.getD_eq_getElem?_getD,List.getElem?_eq_getElem (by rw[List.length_append,Qda];simpa using hi),List.getElem?_eq_getElem (by rw[Qda,Qbu];exact hi)]at h2
  rw[List.getElem?_eq_getElem (by rw[Qda,Qbu];exact hi),List.getElem?_eq_getElem (by rw[List.length_append,Qda];simpa using hi)]
  exact congrArg some h2.symm
 ·rw[List.getElem?_eq_none (by rw[Qda,Qbu];omega),List.getElem?_eq_none (by rw[List.length_append,Qda];simp;omega)]
theorem Qos: ∀k,k<=R.length->prK (R++[L]) k=prK R k
 |0,_=>rfl
 |k+1,h=>by
  unfold prK
  rw[Qos k o_,Qcu,if_pos o_]
theorem snoc_pr:prK (R++[L]) (R++[L]).length=prK R R.length*L.length:=by
 rw[Qbu]
 show prK (R++[L]) R.length*((R++[L]).getD R.length []).length=_
 rw[Qos R L _ (Nat.le_refl _),Qcu,if_neg o_,if_pos rfl]
end
theorem Qu4(R:List (List Int))(L:List Int)(F:List Int->Int):isum (prK (R++[L]) (R++[L]).length) (fun x=>wgt (R++[L]) x*F (wld (R++[L]) x))=isum L.length (fun d=>L.getD d 0*isum (prK R R.length) (fun x=>wgt R x*F (wld R x++[(d:Int)]))):=by
 rw[snoc_pr,Qin,Qg2]
 refine Qb7 _ fun d hd=>?_
 rw[<-Qjl]
 refine Qb7 _ fun x _=>?_
 rw[snoc_wgt R L hd,snoc_wld R L hd,Int.mul_comm (wgt R x),Int.mul_assoc]
theorem Qsg(L:List Int):isum L.length (fun d=>L.getD d 0)=sumI L:=by
 have key: ∀k,k<=L.length->isum k (fun d=>L.getD d 0)=sumI (L.take k):=by
  intro k
  induction k with
  |zero=>intro _;rfl
  |succ k ih=>
   intro h
   unfold isum
   rw[ih o_,List.take_add_one,List.getElem?_eq_getElem o_,Qka]
   dsimp only
   rw[List.getD_eq_getElem?_getD,List.getElem?_eq_getElem o_]
   simp[sumI]
 have:=key L.length (Nat.le_refl _)
 rw[List.take_length]at this
 exact this
theorem Qnn(g:Int): ∀(n:Nat)(R:List (List Int)),R.length=n->(∀L∈R,sumI L=g)->dsum R (prK R R.length)=g^n
 |0,R,h,_=>by
  have:R=[]:=List.length_eq_zero_iff.1 h
  subst this
  simp[prK,dsum,wgt,wq]
 |n+1,R,h,hs=>by
  obtain⟨R',L,rfl⟩: ∃R' L,R=R'++[L]:=⟨R.dropLast,R.getLast (by intro e;subst e;simp at h),(List.dropLast_concat_getLast _).symm⟩
  have hl:R'.length=n:=by simpa using h
  have ih:=Qnn g n R' hl (fun L' hL=>hs L' (List.mem_append_left _ hL))
  rw[Ql1]at ih⊢
  have hw:=Qu4 R' L (fun _=>1)
  simp only[Int.mul_one]at hw
  rw[hw,show(fun x=>wgt R' x)=wgt R' from rfl,ih]
  rw[show(fun d=>L.getD d 0*g^n)=fun d=>g^n*L.getD d 0 from funext fun d=>Int.mul_comm _ _,Qjl,Qsg,hs L (by simp),Int.pow_succ]
end Go.Proofs.Ythjjgipcoeiapaa.Am
