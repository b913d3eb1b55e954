/- Texts behind the claim, part 5: the abstract machine, and what the functions answer. No condition. -/
import Derived.Test.YtglpoiaedkoecaaDoorCAll4
set_option linter.unusedVariables false
set_option linter.unusedSimpArgs false
set_option linter.unusedSectionVars false
namespace Go.Proofs.YtglpoiaedkoecaaDoor.Am
open Go.RowKit
set_option maxHeartbeats 1000000
set_option maxRecDepth 100000
structure Rows(n lo:Nat)(rows:List (List Int))(hl:Nat)(hs:List Nat)(H:T O)(nx:Nat):Prop where
 len:hs.length=rows.length
 list:0<rows.length→lo≤hl∧hl<nx∧hl∉hs∧gt H hl=some (.row 29 (some 1) (hs.map fun h=>V.sl h 0 n none))
 nodup:hs.Nodup
 row: ∀(i h:Nat),hs[i]? =some h→lo≤h∧h<nx∧∃c,rows[i]? =some c∧c.length=n∧gt H h=some (.row 3 (some 1) (ints c))
structure DH(C:List Int)(ks:List (Nat→Int))(fo:Int)(M cards:List Int)(room sp:Option Nat)(rows:List (List Int))(hl:Nat)(hs:List Nat)(H:T O)(nx:Nat):Prop where
 base:Base C ks fo M cards room sp (owV hl rows.length) H nx
 rows:Rows cards.length 4 rows hl hs H nx
theorem rows_new{n lo:Nat}{rows:List (List Int)}{hl h:Nat}{hs:List Nat}{H H':T O}{nx nx' hl':Nat}{c:List Int}(hR:Rows n lo rows hl hs H nx)(hn:nx≤h∧h<hl'∧hl'<nx')(hlo:lo≤nx)(hc:c.length=n)(h1:gt H' h=some (.row 3 (some 1) (ints c)))(h2:gt H' hl'=some (.row 29 (some 1) (hs.map (fun h=>V.sl h 0 n none)++[.sl h 0 n none])))(h3: ∀g∈hs,gt H' g=gt H g):Rows n lo (rows++[c]) hl' (hs++[h]) H' nx':=by
 have hlt: ∀g∈hs,g<nx:=fun g hg=>by
  obtain⟨i,hi,rfl⟩:=List.getElem_of_mem hg
  exact(hR.row i _ (List.getElem?_eq_getElem hi)).2.1
 refine⟨by simp[hR.len],fun _=>⟨by omega,by omega,?_,by rw[h2,List.map_append];rfl⟩,?_,fun i g hg=>?_⟩
 ·rw [List.mem_append, List.mem_singleton]
  rintro(hm|hm)
  ·have:=hlt _ hm;omega
  ·omega
 ·rw [List.nodup_append]
  refine⟨hR.nodup,by simp,fun a ha b hb=>?_⟩
  obtain rfl:=List.mem_singleton.1 hb
  have:=hlt a ha
  omega
 ·rw [List.getElem?_append] at hg
  split at hg
  ·rename_i hi
   obtain⟨a1,a2,d,a3,a4,a5⟩:=hR.row i g hg
   exact⟨a1,by omega,d,by rw[List.getElem?_append_left (by rw[←hR.len];exact hi)];exact a3,a4,by rw[h3 g (List.mem_of_getElem? hg)];exact a5⟩
  ·rename_i hi
   have hi2:i=hs.length:=by
    have:=(List.getElem?_eq_some_iff.1 hg).1
    simp at this;omega
   subst hi2
   rw[Nat.sub_self]at hg
   cases hg
   exact⟨by omega,by omega,c,by rw[hR.len];simp,hc,h1⟩
abbrev drows(ks:List (Nat→Int))(fo:Int)(cards:List Int)(m:Nat):List (List Int):=(ks.take m).map fun f=>rowD f fo cards cards.length
theorem Qpl{ks:List (Nat→Int)}{fo:Int}{cards:List Int}{m:Nat}{f:Nat→Int}(h:ks[m]? =some f):drows ks fo cards (m+1)=drows ks fo cards m++[rowD f fo cards cards.length]:=by
 unfold drows
 rw[List.take_add_one,h,List.map_append];rfl
theorem dr_loop(C:List Int)(ks:List (Nat→Int))(fo:Int)(M cards:List Int)(room sp:Option Nat)(hK:KOk ks)(hfo:0≤fo∧fo≤255)(hc:CdOk cards)(m:Nat)(hm:m=min ks.length 40)(H0:T O)(nx0:Nat)(lg0:List Nat)(hB:Base C ks fo M cards room sp .nils H0 nx0):
  Sat Pg none 0 (at' 19 [1,1,1,1,0,1,0]) (mkSo g0 139 (dbS 0) H0 nx0 lg0) (Qk8 g0 139 (.exit 2) (fun _=>[(1,.ptr 0 0),(2,.ptr 1 0),(3,.ptr 2 0)]) (fun hl H nx lg=>∃hs,DH C ks fo M cards room sp (drows ks fo cards m) hl hs H nx)):=by
 have key:=Qkx (c:=at' 19 [1,1,1,1,0,1,0]) (b:=at' 19 [1,1,1,1,0,1,0,0]) (by kernel_rfl) (k:=139) (gl:=g0) (fun(q:Nat×Nat×List Nat)(M':Mem)=>q.1≤m∧DH C ks fo M cards room sp (drows ks fo cards q.1) q.2.1 q.2.2 M'.H M'.nx) (fun q=>dbS q.1) (fun q=>m-q.1) (fun e sl M'=>e= .exit 2∧sl=[(1,.ptr 0 0),(2,.ptr 1 0),(3,.ptr 2 0)]∧∃hl hs,DH C ks fo M cards room sp (drows ks fo cards m) hl hs M'.H M'.nx) (fun q H nx lg G hI hN hE _=>?_) (0,0,[]) ⟨H0,nx0,lg0⟩ ⟨Nat.zero_le _,hB,rfl,fun h=>absurd h (Nat.lt_irrefl _),List.nodup_nil,fun i h hi=>by simp at hi⟩
 ·refine key.mono ?_
  rintro e st ⟨sl,M',rfl,rfl,rfl,hl,hs,hQ⟩
  exact⟨hl,M'.H,M'.nx,M'.lg,rfl,rfl,hs,hQ⟩
 ·obtain ⟨i, hl, hs⟩ := q
  obtain⟨hi,hD⟩:=hI
  dsimp only at hi hD hN
  have hrl:(drows ks fo cards i).length=i:=by simp only[drows,List.length_map,List.length_take];omega
  obtain⟨hB',hR⟩:=hD
  rw[hrl]at hB'
  obtain⟨b0,b1,b2,b3,b4⟩:=hB'
  by_cases hlt:i<m
  ·have hki : ks[i]? = some ks[i] := List.getElem?_eq_getElem (by omega)
   have hkl:i<ks.length:=by omega
   generalize ks[i]=f at*
   have hin:=di_loop C ks fo M cards room sp (owV hl i) i f hki hK hfo hc H nx lg ⟨b0,b1,b2,b3,b4⟩
   have hcl:=Qbd f fo cards cards.length
   have hsucc:=@Qpl ks fo cards i f hki
   have hN1:=fun hl' h H nx lg h1=>hN (i+1,hl',hs++[h]) H nx lg ⟨by dsimp only;omega,h1⟩ (by dsimp only;omega)
   dsimp only at hN1
   rw[hsucc]at hN1
   have hpos:=hc.pos
   generalize rowD f fo cards cards.length=c at*
   generalize drows ks fo cards i=rows at*
   have hrlen:(rows++[c]).length=i+1:=by simp[hrl]
   have hsl:hs.length=i:=by rw[hR.len,hrl]
   have hhs: ∀g∈hs,g<nx∧4≤g:=fun g hg=>by
    obtain⟨t,ht,rfl⟩:=List.getElem_of_mem hg
    have:=hR.row t _ (List.getElem?_eq_getElem ht)
    exact⟨this.2.1,this.1⟩
   have hfin: ∀(h:Nat)(H1 H':T O)(nx' hl':Nat)(lg':List Nat),rowQ H nx c h H1 (hl'-1) []→gt H' 0=some (dfO C ks fo M)→gt H' 1=some n2→gt H' 2=some (.row 32 none [.sl 3 0 cards.length room,.sl hl' 0 (i+1) none])→gt H' 3=some (.row 3 sp (ints cards))→hl'<nx'→gt H' hl'=some (.row 29 (some 1) (hs.map (fun h=>V.sl h 0 cards.length none)++[.sl h 0 cards.length none]))→(∀g,g<hl'-1→4≤g→g≠hl∨i=0→gt H' g=gt H1 g)→G .normal (dbS (i+1)) H' nx' lg':=by
    intro h H1 H' nx' hl' lg' hQ q0 q1 q2 q3 q4 q5 q6
    obtain⟨a1,a2,a3,a4⟩:=hQ
    refine hN1 hl' h H' nx' lg' ⟨⟨q0,q1,by rw[hrlen];exact q2,q3,by omega⟩,?_⟩
    have hne: ∀g∈hs,g≠hl∨i=0:=fun g hg=>by
     by_cases h0:i=0
     ·exact .inr h0
     ·refine .inl ?_
      rintro rfl
      exact(hR.list (by omega)).2.2.1 hg
    refine rows_new hR ⟨a2,by omega,q4⟩ b4 hcl ?_ q5 (fun g hg=>?_)
    ·rw [q6 h a3 (by omega) ?_]; exact a4
     by_cases h0:i=0
     ·exact .inr h0
     ·refine .inl ?_
      have:=(hR.list (by omega)).2.1
      omega
    ·have h1 := hhs g hg
     rw[q6 g (by omega) h1.2 (hne g hg)];exact a1 g h1.1
   cases i with
   | zero =>
    refine⟨[lo_ 43 (dfO C ks fo M) (kV ks),yes 45,yes 48,(0,.loopM (diS 0 (0,0)) (.exit 4) (diX 0 cards.length) (rowQ H nx c) (fun h H' nx' lg'=>[lo_ 94 (.row 32 none [.sl 3 0 cards.length room,.nils]) .nils,(97,.an 1 [.sl h 0 cards.length none]),so (.row 32 none [.sl 3 0 cards.length room,.nils]) [.sl 3 0 cards.length room,.sl (nx'+1) 0 1 none],nu 51 1,toO (dbS 1)]))],1000,?_⟩
    refine Eq.mp (by kernel_rfl:(let z0:=V.sl 3 0 cards.length room;let z1:=(↑(0:Nat):Int);let z3:=i6 ↑(0:Nat);let z4:=V.ptr 0 0;let z5:=V.ptr 1 0;let z6:=V.ptr 2 0;let z7:=[z0,V.nils];let z2:=some (O.row 32 none z7);An [gt H 0=some (dfO C ks fo M),headF (dropF 1 (dfL C ks fo M))=some (kV ks),decide (z1<(↑ks.length:Int))=true,decide (z1<(40:Int))=true,An [z4=z4,z5=z5,z6=z6,z3=z3,V.nils=owV 0 0,i6 0=z3,Tt],Sat Pg none 0 (at' 19 [1,1,1,1,0,1,0,0,1,0,0,1,0,1,0]) (mkSo g0 139 (diS 0 (0,0)) H nx lg) (Qk8 g0 139 (Ex.exit 4) (diX 0 cards.length) (rowQ H nx c)),∀(h:Nat)(H_1:T O)(nx_1:Nat)(lg:List Nat),(∀(g:Nat),g<nx→gt H_1 g=gt H g)∧nx≤h∧h<nx_1∧gt H_1 h=some (O.row 3 (some 1) (ints c))→An [gt H_1 2=z2,headF (dropF 1 z7)=some V.nils,An [srcV (pt H_1 nx_1 (O.row 29 none [V.sl h 0 cards.length none])) 1 (V.sl nx_1 0 1 (some 0))=some (1,[V.sl h 0 cards.length none]),1≤9223372036854775807,1*24≤140737488355328],An [gt (pt (pt H_1 nx_1 (O.row 29 none [V.sl h 0 cards.length none])) (nx_1+1) (O.row 29 (some 1) [V.sl h 0 cards.length none])) 2=z2,layE 1 z7 [V.sl (nx_1+1) 0 1 none]=some [z0,V.sl (nx_1+1) 0 1 none]],wr .i64 (z1+(1:Int))=(1:Int),G Ex.normal (dbS 1) (pt (pt (pt H_1 nx_1 (O.row 29 none [V.sl h 0 cards.length none])) (nx_1+1) (O.row 29 (some 1) [V.sl h 0 cards.length none])) 2 (O.row 32 none [z0,V.sl (nx_1+1) 0 1 none])) (nx_1+1+1) ([2]++([]++lg)),z4=z4,z5=z5,z6=z6,i6 1=i6 ↑(1:Nat),Tt]])=_) ?_
    refine⟨?_,?_,?_,?_,?_,?_,?_⟩
    all_goals first|exact b0|rfl|(exact decide_eq_true (by omega))|exact⟨rfl,rfl,rfl,rfl,rfl,rfl,trivial⟩|exact hin|skip
    intro h H1 nx1 lg1 hQ
    obtain⟨a1,a2,a3,a4⟩:=hQ
    have g0':gt H1 0=some (dfO C ks fo M):=(a1 0 (by omega)).trans b0
    have g1':gt H1 1=some n2:=(a1 1 (by omega)).trans b1
    have g2':=(a1 2 (by omega)).trans b2
    have g3':gt H1 3=some (.row 3 sp (ints cards)):=(a1 3 (by omega)).trans b3
    (repeat'(first|(with_reducible apply And.intro)|(refine fun(_:True)=>?_)))<;>first|exact aq|skip
    all_goals first|rfl|exact g2'|omega|exact Qlj (t:=29) (sp:=none) ((Qam _ _ _ _).trans ((if_pos rfl).trans (by kernel_rfl)))|((repeat(first|(rw[Qam,if_pos (by first|rfl|omega)])|(rw[Qam,if_neg (by omega)])))<;>first|assumption|rfl)|(rw[List.length_map];omega)|skip
    refine hfin h H1 _ _ (nx1+1) _ ⟨a1,a2,a3,a4⟩ ?_ ?_ ?_ ?_ ?_ ?_ ?_
    ·((repeat(first|(rw[Qam,if_pos (by first|rfl|omega)])|(rw[Qam,if_neg (by omega)])))<;>first|assumption|rfl)
    ·((repeat(first|(rw[Qam,if_pos (by first|rfl|omega)])|(rw[Qam,if_neg (by omega)])))<;>first|assumption|rfl)
    ·((repeat(first|(rw[Qam,if_pos (by first|rfl|omega)])|(rw[Qam,if_neg (by omega)])))<;>first|assumption|rfl)
    ·((repeat(first|(rw[Qam,if_pos (by first|rfl|omega)])|(rw[Qam,if_neg (by omega)])))<;>first|assumption|rfl)
    ·omega
    ·rw[Qam,if_neg (by omega),Qam,if_pos rfl,List.eq_nil_of_length_eq_zero hsl];rfl
    ·intro g hg1 hg2 hg3
     rw[Qam,if_neg (by omega),Qam,if_neg (by omega),Qam,if_neg (by omega)]
   | succ i =>
    refine⟨[lo_ 43 (dfO C ks fo M) (kV ks),yes 45,yes 48,(0,.loopM (diS (i+1) (0,0)) (.exit 4) (diX (i+1) cards.length) (rowQ H nx c) (fun h H' nx' lg'=>[lo_ 94 (.row 32 none [.sl 3 0 cards.length room,.sl hl 0 (i+1) none]) (.sl hl 0 (i+1) none),(97,.ao (.row 29 (some 1) (hs.map fun h=>V.sl h 0 cards.length none)) 1 [.sl h 0 cards.length none]),so (.row 32 none [.sl 3 0 cards.length room,.sl hl 0 (i+1) none]) [.sl 3 0 cards.length room,.sl (nx'+1) 0 (i+1+1) none],nu 51 (i+1+1:Nat),toO (dbS (i+1+1))]))],1000,?_⟩
    refine Eq.mp (by kernel_rfl:(let z1:=V.sl 3 0 cards.length room;let z2:=(↑(i+1):Int);let z3:=V.sl hl 0 (i+1) none;let z4:=V.ptr 0 0;let z5:=V.ptr 1 0;let z6:=V.ptr 2 0;let z0:=[z1,z3];let z7:=some (O.row 32 none z0);An [gt H 0=some (dfO C ks fo M),headF (dropF 1 (dfL C ks fo M))=some (kV ks),decide (z2<(↑ks.length:Int))=true,decide (z2<(40:Int))=true,An [z4=z4,z5=z5,z6=z6,Sm (i6 ↑(i+1)),V.nils=owV 0 0,i6 0=i6 ↑(0:Nat),Tt],Sat Pg none 0 (at' 19 [1,1,1,1,0,1,0,0,1,0,0,1,0,1,0]) (mkSo g0 139 (diS (i+1) (0,0)) H nx lg) (Qk8 g0 139 (Ex.exit 4) (diX (i+1) cards.length) (rowQ H nx c)),∀(h:Nat)(H_1:T O)(nx_1:Nat)(lg:List Nat),(∀(g:Nat),g<nx→gt H_1 g=gt H g)∧nx≤h∧h<nx_1∧gt H_1 h=some (O.row 3 (some 1) (ints c))→An [gt H_1 2=z7,headF (dropF 1 z0)=some z3,srcV (pt H_1 nx_1 (O.row 29 none [V.sl h 0 cards.length none])) 1 (V.sl nx_1 0 1 (some 0))=some (1,[V.sl h 0 cards.length none]),gt (pt H_1 nx_1 (O.row 29 none [V.sl h 0 cards.length none])) hl=some (O.row 29 (some 1) (List.map (fun h=>V.sl h 0 cards.length none) hs)),List.length (List.map (fun h=>V.sl h 0 cards.length none) hs)=(i+1)*1,i+1+1≤9223372036854775807,(i+1+1)*24≤140737488355328,An [gt (pt (pt (pt H_1 nx_1 (O.row 29 none [V.sl h 0 cards.length none])) hl O.dead) (nx_1+1) (O.row 29 (some 1) (List.map (fun h=>V.sl h 0 cards.length none) hs++[V.sl h 0 cards.length none]))) 2=z7,layE 1 z0 [V.sl (nx_1+1) 0 (i+1+1) none]=some [z1,V.sl (nx_1+1) 0 (i+1+1) none]],wr .i64 (z2+(1:Int))=(↑(i+1+1):Int),G Ex.normal (dbS (i+1+1)) (pt (pt (pt (pt H_1 nx_1 (O.row 29 none [V.sl h 0 cards.length none])) hl O.dead) (nx_1+1) (O.row 29 (some 1) (List.map (fun h=>V.sl h 0 cards.length none) hs++[V.sl h 0 cards.length none]))) 2 (O.row 32 none [z1,V.sl (nx_1+1) 0 (i+1+1) none])) (nx_1+1+1) ([2]++([hl]++lg)),z4=z4,z5=z5,z6=z6,Sm (i6 ↑(i+1+1)),Tt]])=_) ?_
    refine⟨?_,?_,?_,?_,?_,?_,?_⟩
    all_goals first|exact b0|rfl|(exact decide_eq_true (by omega))|exact⟨rfl,rfl,rfl,rfl,rfl,rfl,trivial⟩|exact hin|skip
    intro h H1 nx1 lg1 hQ
    obtain⟨a1,a2,a3,a4⟩:=hQ
    have g0':gt H1 0=some (dfO C ks fo M):=(a1 0 (by omega)).trans b0
    have g1':gt H1 1=some n2:=(a1 1 (by omega)).trans b1
    have g2':=(a1 2 (by omega)).trans b2
    have g3':gt H1 3=some (.row 3 sp (ints cards)):=(a1 3 (by omega)).trans b3
    obtain⟨l1,l2,l3,l4⟩:=hR.list (by omega)
    have gl':=(a1 hl l2).trans l4
    (repeat'(first|(with_reducible apply And.intro)|(refine fun(_:True)=>?_)))<;>first|exact aq|skip
    all_goals first|rfl|exact g2'|omega|exact Qlj (t:=29) (sp:=none) ((Qam _ _ _ _).trans ((if_pos rfl).trans (by kernel_rfl)))|((repeat(first|(rw[Qam,if_pos (by first|rfl|omega)])|(rw[Qam,if_neg (by omega)])))<;>first|assumption|rfl)|(rw[List.length_map];omega)|skip
    refine hfin h H1 _ _ (nx1+1) _ ⟨a1,a2,a3,a4⟩ ?_ ?_ ?_ ?_ ?_ ?_ ?_
    ·((repeat(first|(rw[Qam,if_pos (by first|rfl|omega)])|(rw[Qam,if_neg (by omega)])))<;>first|assumption|rfl)
    ·((repeat(first|(rw[Qam,if_pos (by first|rfl|omega)])|(rw[Qam,if_neg (by omega)])))<;>first|assumption|rfl)
    ·((repeat(first|(rw[Qam,if_pos (by first|rfl|omega)])|(rw[Qam,if_neg (by omega)])))<;>first|assumption|rfl)
    ·((repeat(first|(rw[Qam,if_pos (by first|rfl|omega)])|(rw[Qam,if_neg (by omega)])))<;>first|assumption|rfl)
    ·omega
    ·rw[Qam,if_neg (by omega),Qam,if_pos rfl]
    ·intro g hg1 hg2 hg3
     rw[Qam,if_neg (by omega),Qam,if_neg (by omega),Qam,if_neg (by omega),Qam,if_neg (by omega)]
  ·have : i = m := by omega
   subst this
   by_cases h40:i<ks.length
   ·refine ⟨[lo_ 43 (dfO C ks fo M) (kV ks), yes 45, no 48, toO [(1, .ptr 0 0), (2, .ptr 1 0), (3, .ptr 2 0)]], 1000, ?_⟩
    have hx:=hE 2 _ H nx lg ⟨rfl,rfl,hl,hs,⟨⟨b0,b1,by rw[hrl];exact b2,b3,b4⟩,hR⟩⟩
    refine Eq.mp (by kernel_rfl:(An [gt H 0=some (dfO C ks fo M),headF (dropF 1 (dfL C ks fo M))=some (kV ks),decide ((↑i:Int)<(↑ks.length:Int))=true,decide ((↑i:Int)<(40:Int))=false,G (Ex.exit 2) [(1,V.ptr 0 0),(2,V.ptr 1 0),(3,V.ptr 2 0)] H nx lg,Sm (V.ptr 0 0),Sm (V.ptr 1 0),Sm (V.ptr 2 0),Tt])=_) ?_
    exact au
   ·refine ⟨[lo_ 43 (dfO C ks fo M) (kV ks), no 45, toO [(1, .ptr 0 0), (2, .ptr 1 0), (3, .ptr 2 0)]], 1000, ?_⟩
    have hx:=hE 2 _ H nx lg ⟨rfl,rfl,hl,hs,⟨⟨b0,b1,by rw[hrl];exact b2,b3,b4⟩,hR⟩⟩
    refine Eq.mp (by kernel_rfl:(An [gt H 0=some (dfO C ks fo M),headF (dropF 1 (dfL C ks fo M))=some (kV ks),decide ((↑i:Int)<(↑ks.length:Int))=false,G (Ex.exit 2) [(1,V.ptr 0 0),(2,V.ptr 1 0),(3,V.ptr 2 0)] H nx lg,Sm (V.ptr 0 0),Sm (V.ptr 1 0),Sm (V.ptr 2 0),Tt])=_) ?_
    exact au
def Qg5(n:Nat)(rows:List (List Int))(mm:Int):List (List Int):=rows.set (mm/5%rows.length).toNat ((rows.getD (mm/5%rows.length).toNat []).set (mm%n).toNat (-1))
def Qcv(n:Nat)(rows:List (List Int))(M:List Int):List (List Int):=M.foldl (Qg5 n) rows
theorem Qp0(n:Nat)(rows:List (List Int))(M:List Int)(mm:Int):Qcv n rows (M++[mm])=Qg5 n (Qcv n rows M) mm:=by simp[Qcv,List.foldl_append]
theorem Qcw(n:Nat): ∀(M:List Int)(rows:List (List Int)),(Qcv n rows M).length=rows.length
 |[],_=>rfl
 |m::M,rows=>by
  have:=Qcw n M (Qg5 n rows m)
  unfold Qcv at this⊢
  rw[List.foldl_cons,this]
  simp[Qg5]
theorem Qgb(n:Nat): ∀(M:List Int),Qcv n [] M=[]
 |[]=>rfl
 |m::M=>by
  have:Qg5 n [] m=[]:=by simp[Qg5]
  unfold Qcv
  rw[List.foldl_cons,this]
  exact Qgb n M
abbrev dmS(t:Nat):List (Nat×V):=[(1,.ptr 0 0),(2,.ptr 1 0),(3,.ptr 2 0),(9,i6 t)]
abbrev dmX:List (Nat×V):=[(2,.ptr 1 0),(3,.ptr 2 0)]
theorem Qso{l:List Int}{j:Nat}{x:Int}(h:j<l.length):layE (0+j*1) (ints l) [i6 x]=some (ints (l.set j x)):=Qof h
theorem dm_loop(C:List Int)(ks:List (Nat→Int))(fo:Int)(M cards:List Int)(room sp:Option Nat)(hM:u8s M)(hML:M.length≤9223372036854775807)(hc:CdOk cards)(rows:List (List Int))(hl:Nat)(hs:List Nat)(H0:T O)(nx0:Nat)(lg0:List Nat)(hD:DH C ks fo M cards room sp rows hl hs H0 nx0)(h40:rows.length≤40):
  Sat Pg none 0 (at' 19 [1,1,1,1,1,0,1,0]) (mkSo g0 139 (dmS 0) H0 nx0 lg0) (fun e st=>∃(sl:List (Nat×V))(M':Mem),st=mkSo g0 139 sl M'.H M'.nx M'.lg∧e= .exit 6∧sl=dmX∧DH C ks fo M cards room sp (Qcv cards.length rows M) hl hs M'.H M'.nx):=by
 refine Qkx (b:=at' 19 [1,1,1,1,1,0,1,0,0]) (by kernel_rfl) (fun(t:Nat)(M':Mem)=>t≤M.length∧DH C ks fo M cards room sp (Qcv cards.length rows (M.take t)) hl hs M'.H M'.nx) dmS (fun t=>M.length-t) (fun e sl M'=>e= .exit 6∧sl=dmX∧DH C ks fo M cards room sp (Qcv cards.length rows M) hl hs M'.H M'.nx) (fun t H nx lg G hI hN hE _=>?_) 0 ⟨H0,nx0,lg0⟩ ⟨Nat.zero_le _,hD⟩
 obtain⟨ht,hD'⟩:=hI
 dsimp only at hD'
 have hX:=hE 6 dmX H nx lg
 have hlen:=Qcw cards.length (M.take t) rows
 obtain⟨hB,hR⟩:=hD'
 have hBB:=hB
 obtain⟨b0,b1,b2,b3,b4⟩:=hB
 have hpos:=hc.pos
 have h5:=hc.five
 by_cases hlt:t<M.length
 ·have hmt : M[t]? = some (M.getD t 0) := by rw [List.getD_eq_getElem?_getD, List.getElem?_eq_getElem hlt]; rfl
  have hm8:=hM _ (Qn5 hlt)
  have hldm:=head_8 hlt
  have hnx:Qcv cards.length rows (M.take (t+1))=Qg5 cards.length (Qcv cards.length rows (M.take t)) (M.getD t 0):=by
   rw[List.take_add_one,hmt,Option.toList_some,Qp0]
  have hN1:=fun H nx lg h=>hN (t+1) H nx lg ⟨by omega,h⟩ (by omega)
  rw[hnx]at hN1
  dsimp only at hN1
  by_cases h0:rows.length=0
  ·have hr0 : rows = [] := List.eq_nil_of_length_eq_zero h0
   subst hr0
   rw[Qgb]at hBB hR
   rw[Qgb]at hX b2
   have hx:=hX ⟨rfl,rfl,hBB,hR⟩
   clear hX hN hN1 hE hnx hlen hD hBB
   refine⟨[lo_ 101 (dfO C ks fo M) (sl8 M),yes 103,lo_ 106 (.row 32 none [.sl 3 0 cards.length room,.nils]) .nils,toO dmX],1000,?_⟩
   refine Eq.mp (by kernel_rfl:(let z0:=[V.sl 3 0 cards.length room,V.nils];An [gt H 0=some (dfO C ks fo M),headF (dropF (0+3) (dfL C ks fo M))=some (sl8 M),decide ((↑t:Int)<(↑M.length:Int))=true,gt H 2=some (O.row 32 none z0),headF (dropF 1 z0)=some V.nils,G (Ex.exit 6) dmX H nx lg,Sm (V.ptr 1 0),Sm (V.ptr 2 0),Tt])=_) ?_
   exact au
  ·generalize hrr : Qcv cards.length rows (M.take t) = rw_ at *
   generalize M.getD t 0=mm at*
   have hRl:0<rw_.length:=by omega
   have hR40:rw_.length≤40:=by omega
   unfold Qg5 at hN1
   have hr1:0≤mm/5%(rw_.length:Int):=Int.emod_nonneg _ (by omega)
   have hr2:mm/5%(rw_.length:Int)<rw_.length:=Int.emod_lt_of_pos _ (by omega)
   have hc1:0≤mm%(cards.length:Int):=Int.emod_nonneg _ (by omega)
   have hc2:mm%(cards.length:Int)<cards.length:=Int.emod_lt_of_pos _ (by omega)
   have e0:mm.tdiv 5=mm/5:=Int.tdiv_eq_ediv_of_nonneg hm8.1
   have e1:binV (Qad Pg) .rem 3 (i6 (mm/5)) (i6 rw_.length)=some (i6 (((mm/5%(rw_.length:Int)).toNat:Nat):Int)):=by
    rw[rem6 (by omega),Int.tmod_eq_emod_of_nonneg (by omega),Int.toNat_of_nonneg hr1]
   have e2:binV (Qad Pg) .rem 3 (i6 mm) (i6 cards.length)=some (i6 (((mm%(cards.length:Int)).toNat:Nat):Int)):=by
    rw[rem6 (by omega),Int.tmod_eq_emod_of_nonneg hm8.1,Int.toNat_of_nonneg hc1]
   obtain⟨l1,l2,l3,l4⟩:=hR.list hRl
   have hrl:(mm/5%(rw_.length:Int)).toNat<rw_.length:=by omega
   have hcl:(mm%(cards.length:Int)).toNat<cards.length:=by omega
   generalize (mm/5%(rw_.length:Int)).toNat=ri at*
   generalize (mm%(cards.length:Int)).toNat=ci at*
   have hgi:hs[ri]? =some (hs.getD ri 0):=by rw[List.getD_eq_getElem?_getD,List.getElem?_eq_getElem (by rw[hR.len];exact hrl)];rfl
   obtain⟨r1,r2,c,r3,r4,r5⟩:=hR.row ri _ hgi
   have hgc:rw_.getD ri []=c:=by rw[List.getD_eq_getElem?_getD,r3];rfl
   rw[hgc]at hN1
   have hhead:headF ((hs.map fun h=>V.sl h 0 cards.length none).drop (ri*1))=some (V.sl (hs.getD ri 0) 0 cards.length none):=Qc9 hgi
   have hgm:=List.mem_of_getElem? hgi
   have hnod:=hR.nodup
   generalize hs.getD ri 0=g at*
   have hgne:g≠hl:=fun e=>l3 (e▸hgm)
   have hlay:=@Qso c ci (-1) (by omega)
   have hfin: ∀lg',G .normal (dmS (t+1)) (pt H g (.row 3 (some 1) (ints (c.set ci (-1))))) nx lg':=fun lg'=>by
    refine hN1 _ nx lg' ⟨⟨?_,?_,?_,?_,b4⟩,⟨by rw[List.length_set];exact hR.len,fun _=>⟨l1,l2,l3,?_⟩,hnod,fun i h hi=>?_⟩⟩
    ·((repeat(first|(rw[Qam,if_pos (by first|rfl|omega)])|(rw[Qam,if_neg (by omega)])))<;>first|assumption|rfl)
    ·((repeat(first|(rw[Qam,if_pos (by first|rfl|omega)])|(rw[Qam,if_neg (by omega)])))<;>first|assumption|rfl)
    ·rw[Qam,if_neg (by omega),List.length_set];exact b2
    ·((repeat(first|(rw[Qam,if_pos (by first|rfl|omega)])|(rw[Qam,if_neg (by omega)])))<;>first|assumption|rfl)
    ·rw[Qam,if_neg (Ne.symm hgne)];exact l4
    ·obtain ⟨q1, q2, d, q3, q4, q5⟩ := hR.row i h hi
     by_cases hri:i=ri
     ·subst hri
      rw[hgi]at hi
      cases hi
      rw[r3]at q3
      cases q3
      exact⟨q1,q2,c.set ci (-1),by rw[List.getElem?_set_self (by omega)],by simpa using r4,by rw[Qam,if_pos rfl]⟩
     ·have hne : h ≠ g := by
       rintro rfl
       have h1:=(List.getElem?_eq_some_iff.1 hi)
       have h2:=(List.getElem?_eq_some_iff.1 hgi)
       exact hri ((List.getElem_inj hnod).1 (h1.2.trans h2.2.symm))
      exact⟨q1,q2,d,by rw[List.getElem?_set_ne (Ne.symm hri)];exact q3,q4,by rw[Qam,if_neg hne];exact q5⟩
   have hb2:gt H 2=some (.row 32 none [.sl 3 0 cards.length room,.sl hl 0 rw_.length none]):=by
    rw[b2]
    cases hn:rw_.length with
    |zero=>omega
    |succ n=>rfl
   generalize hRR:rw_.length=R at*
   clear hX hN hN1 hE hnx hlen hD hBB hR b2 hrr
   refine⟨[lo_ 101 (dfO C ks fo M) (sl8 M),yes 103,lo_ 106 (.row 32 none [.sl 3 0 cards.length room,.sl hl 0 R none]) (.sl hl 0 R none),yes 108,lo_ 113 (.row 32 none [.sl 3 0 cards.length room,.sl hl 0 R none]) (.sl hl 0 R none),lo_ 115 (dfO C ks fo M) (sl8 M),pl 117,ld 118 (w8 mm),nu 119 (mm/5),nu 120 (mm/5),lo_ 122 (.row 32 none [.sl 3 0 cards.length room,.sl hl 0 R none]) (.sl hl 0 R none),va 124 (i6 ri),pl 125,lo_ 126 (.row 29 (some 1) (hs.map fun h=>V.sl h 0 cards.length none)) (.sl g 0 cards.length none),lo_ 129 (dfO C ks fo M) (sl8 M),pl 131,ld 132 (w8 mm),nu 133 mm,va 136 (i6 ci),pl 137,so (.row 3 (some 1) (ints c)) (ints (c.set ci (-1))),nu 111 (t+1:Nat),toO (dmS (t+1))],1000,?_⟩
   refine Eq.mp (by kernel_rfl:(let z1:=headF (dropF (0+3) (dfL C ks fo M));let z2:=(↑t:Int);let z3:=V.sl hl 0 R none;let z5:=headF (List.drop (t*1) (List.map w8 M));let z6:=some (dfO C ks fo M);let z7:=(↑M.length:Int);let z8:=ints (List.set c ci (-1:Int));let y0:=(0:Int);let y1:=(5:Int);let y2:=some (sl8 M);let z0:=[V.sl 3 0 cards.length room,z3];let z4:=some (O.row 32 none z0);let z9:=headF (dropF 1 z0);An [gt H 0=z6,z1=y2,decide (z2<z7)=true,gt H 2=z4,z9=some z3,decide ((↑R:Int)>y0)=true,gt H 2=z4,z9=some z3,gt H 0=z6,z1=y2,An [y0≤z2,z2<z7],z5=some (w8 mm),wr .u8 (Int.tdiv mm y1)=mm/y1,wr .i64 (mm/y1)=mm/y1,gt H 2=z4,z9=some z3,binV (Qad Pg) .rem 3 (i6 (mm/y1)) (i6 ↑R)=some (i6 ↑ri),An [y0≤(↑ri:Int),(↑ri:Int)<(↑R:Int)],gt H hl=some (O.row 29 (some 1) (List.map (fun h=>V.sl h 0 cards.length none) hs)),headF (dropF (0+ri*1) (List.map (fun h=>V.sl h 0 cards.length none) hs))=some (V.sl g 0 cards.length none),gt H 0=z6,z1=y2,An [y0≤z2,z2<z7],z5=some (w8 mm),wr .i64 mm=mm,binV (Qad Pg) .rem 3 (i6 mm) (i6 ↑cards.length)=some (i6 ↑ci),An [y0≤(↑ci:Int),(↑ci:Int)<(↑cards.length:Int)],An [gt H g=some (O.row 3 (some 1) (ints c)),layE (0+ci*1) (ints c) [i6 (-1)]=some z8],wr .i64 (z2+(1:Int))=(↑(t+1):Int),G Ex.normal (dmS (t+1)) (pt H g (O.row 3 (some 1) z8)) nx ([g]++lg),Sm (V.ptr 0 0),Sm (V.ptr 1 0),Sm (V.ptr 2 0),Sm (i6 ↑(t+1)),Tt])=_) ?_
   (repeat'(first|(with_reducible apply And.intro)|(refine fun(_:True)=>?_)))<;>first|exact aq|skip
   all_goals first|rfl|exact hfin _|exact hlay|omega|(rw[Qat,Nat.zero_add];exact hhead)|(rw[e0];exact Qe2 (by simp[lo];omega) (by simp[hi];omega))|exact wr6 (by omega) (by omega)|skip
 ·have : t = M.length := by omega
  subst this
  rw[List.take_length]at hBB hR
  have hx:=hX ⟨rfl,rfl,hBB,hR⟩
  clear hX hN hE hlen hD hBB hR b2
  refine⟨[lo_ 101 (dfO C ks fo M) (sl8 M),no 103,toO dmX],1000,?_⟩
  refine Eq.mp (by kernel_rfl:(An [gt H 0=some (dfO C ks fo M),headF (dropF (0+3) (dfL C ks fo M))=some (sl8 M),decide ((↑M.length:Int)<(↑M.length:Int))=false,G (Ex.exit 6) dmX H nx lg,Sm (V.ptr 1 0),Sm (V.ptr 2 0),Tt])=_) ?_
  exact au
abbrev dzS(cards:List Int)(rows:List (List Int)):SL:={sl:=[(2,.ptr 0 0),(3,.ptr 1 0)],os:=[n2,.row 32 none [sl cards,gC rows]]}
theorem dm_done (C : List Int) (ks : List (Nat → Int)) (fo : Int) (M cards : List Int) (room sp : Option Nat) (hM : u8s M) (hML : M.length ≤ 9223372036854775807) (hc : CdOk cards) (rows : List (List Int)) (hl : Nat) (hs : List Nat) (H0 : T O) (nx0 : Nat) (lg0 : List Nat) (hD : DH C ks fo M cards room sp rows hl hs H0 nx0) (h40 : rows.length ≤ 40) :
  Sat Pg none 0 (at' 19 [1,1,1,1,1,0,1,0]) (mkSo g0 139 (dmS 0) H0 nx0 lg0) (Qaf g0 139 [(True,.exit 6,dzS cards (Qcv cards.length rows M))]):=by
 refine Sat.gc_post ((dm_loop C ks fo M cards room sp hM hML hc rows hl hs H0 nx0 lg0 hD h40).mono ?_)
 rintro e st ⟨slots,M',rfl,rfl,rfl,hB,hR⟩
 generalize Qcv cards.length rows M=rw_ at*
 obtain⟨H,nx,lg⟩:=M'
 have h1:=hB.h1
 have h2:=hB.h2
 have h3:=hB.h3
 have h4:=hB.nx
 rw[Qay]at h1 h2 h3
 refine⟨[1,2],mkSt g0 139 (dzS cards rw_),⟨rfl,fun g hg=>?_,by decide,rfl,rfl,fun i x hx=>?_,fun h o ho hlive=>?_,fun h _ hlt=>absurd hlt (Nat.not_lt_zero _)⟩,.inl ⟨trivial,rfl,rfl⟩⟩
 ·refine ⟨Nat.zero_le _, ?_⟩
  show g<nx
  dsimp only at h4
  simp at hg;omega
 ·have c2 : gt (putL (blank 139) dmX) 2 = some (.ptr 1 0) := by kernel_rfl
  have c3:gt (putL (blank 139) dmX) 3=some (.ptr 2 0):=by kernel_rfl
  rw[Qay]at c2 c3
  rcases putL_get _ _ _ _ hx with hmem|hmem
  ·simp only [List.mem_cons, List.not_mem_nil, or_false] at hmem
   rcases hmem with h|h<;>cases h
   ·exact⟨_,c2,1,rfl,rfl⟩
   ·exact⟨_,c3,2,rfl,rfl⟩
  ·rw[Qbi]at hmem;cases hmem
 ·have hF : ∀ g, 3 ≤ g → Fr 0 [1, 2] (mkSo g0 139 dmX H nx lg).lg g := fun g hg => ⟨Nat.zero_le _, by simp; omega, fun _ _ => Nat.zero_le _⟩
  rcases ofOs_get _ _ _ _ _ ho with⟨_,hm⟩|hm
  ·rw [Nat.sub_zero] at hm
   rcases h with _| _|h
   ·cases hm;exact⟨1,_,rfl,h1,_,rfl,ViewL.of_hf _ ⟨trivial,trivial,trivial⟩⟩
   ·cases hm
    refine⟨2,_,rfl,h2,_,rfl,_,_,rfl,.inr (.inr ⟨3,0,room,3,sp,ints cards,rfl,hF 3 (Nat.le_refl _),h3,ViewP.of_hf _ (Qae _)⟩),_,_,rfl,?_,rfl⟩
    cases hn:rw_ with
    |nil=>exact .inr (.inl ⟨rfl,rfl⟩)
    | cons c cs =>
     obtain⟨l1,l2,l3,l4⟩:=hR.list (by rw[hn];simp)
     rw[Qay]at l4
     refine .inr (.inr ⟨hl,0,none,29,some 1,_,rfl,hF hl (by omega),l4,?_⟩)
     rw[←hn,List.drop_zero]
     have key: ∀(rs:List (List Int))(gs:List Nat),gs.length=rs.length→(∀(i h:Nat),gs[i]? =some h→4≤h∧∃c,rs[i]? =some c∧c.length=cards.length∧H.get h=some (.row 3 (some 1) (ints c)))→ViewP H.get (Fr 0 [1,2] (mkSo g0 139 dmX H nx lg).lg) (rs.map sl) (gs.map fun h=>V.sl h 0 cards.length none):=by
      intro rs
      induction rs with
      |nil=>intro gs _ _;trivial
      | cons r rs ih =>
       intro gs hlen hgs
       cases gs with
       |nil=>simp at hlen
       |cons g gs=>
        obtain⟨q1,c,q2,q3,q4⟩:=hgs 0 g rfl
        obtain rfl:r=c:=by simpa using q2
        refine⟨_,_,rfl,.inr (.inr ⟨g,0,none,3,some 1,ints r,by rw[q3],hF g (by omega),q4,ViewP.of_hf _ (Qae _)⟩),ih gs (by simpa using hlen) (fun i h hi=>?_)⟩
        have:=hgs (i+1) h (by simpa using hi)
        simpa using this
     refine key rw_ hs hR.len (fun i h hi=>?_)
     obtain⟨q1,_,c,q3,q4,q5⟩:=hR.row i h hi
     rw[Qay]at q5
     exact⟨q1,c,q3,q4,q5⟩
   ·simp at hm
  ·simp at hm
def cardsD(C:List Int):List Int:=if C=[]then[2]else(C.take 5).map Qcf
theorem Qd3(C:List Int):CdOk (cardsD C):=by
 unfold cardsD
 by_cases h:C=[]
 ·rw [if_pos h]
  refine⟨by simp,by simp,fun k hk=>?_⟩
  have:k=0:=by simp at hk;omega
  subst this;simp
 ·rw [if_neg h]
  have hl:1≤C.length:=Nat.pos_of_ne_zero (fun h0=>h (List.eq_nil_of_length_eq_zero h0))
  refine⟨by rw[List.length_map,List.length_take];omega,by rw[List.length_map,List.length_take];omega,fun k hk=>?_⟩
  rw[List.getD_eq_getElem?_getD,List.getElem?_eq_getElem hk,Option.getD_some,List.getElem_map]
  unfold Qcf;omega
def dataD(C:List Int)(ks:List (Nat→Int))(fo:Int)(M:List Int):List (List Int):=Qcv (cardsD C).length (drows ks fo (cardsD C) (min ks.length 40)) M
structure DrOk(C:List Int)(ks:List (Nat→Int))(fo:Int)(M:List Int):Prop where
 c8:u8s C
 k8:KOk ks
 f8:0≤fo∧fo≤255
 m8:u8s M
 mlen:M.length≤9223372036854775807
theorem draft_fn(C:List Int)(ks:List (Nat→Int))(fo:Int)(M:List Int)(h:DrOk C ks fo M):FnOk Pg g0 19 [dfV C ks fo M] (gV (cardsD C) (dataD C ks fo M)):=by
 obtain⟨n,hn⟩: ∃n,n=min C.length 5:=⟨_,rfl⟩
 have hl:=dc_loop C ks fo M h.c8 n hn
 have hcd:=Qd3 C
 have hdl:(drows ks fo (cardsD C) (min ks.length 40)).length≤40:=by simp only[drows,List.length_map,List.length_take];omega
 have hB: ∀(H:T O)(nx:Nat)(room sp:Option Nat),gt H 0=some (dfO C ks fo M)→gt H 1=some n2→gt H 2=some (.row 32 none [.sl 3 0 (cardsD C).length room,.nils])→gt H 3=some (.row 3 sp (ints (cardsD C)))→4≤nx→Base C ks fo M (cardsD C) room sp .nils H nx:=fun H nx room sp h0 h1 h2 h3 h4=>⟨h0,h1,h2,h3,h4⟩
 have hrows:=fun H nx lg room sp(hb:Base C ks fo M (cardsD C) room sp .nils H nx)=>dr_loop C ks fo M (cardsD C) room sp h.k8 h.f8 hcd _ rfl H nx lg hb
 have hdone:=fun room sp hl hs H nx lg hD=>dm_done C ks fo M (cardsD C) room sp h.m8 h.mlen hcd (drows ks fo (cardsD C) (min ks.length 40)) hl hs H nx lg hD hdl
 change∀room sp hl hs H nx lg,_→Sat Pg none 0 _ _ (Qaf g0 139 [(True,.exit 6,dzS (cardsD C) (dataD C ks fo M))])at hdone
 generalize dataD C ks fo M=rows at*
 cases n with
 |zero=>
  have hC:C=[]:=List.eq_nil_of_length_eq_zero (by omega)
  have hcs:cardsD C=[2]:=by unfold cardsD;rw[if_pos hC]
  rw[hcs]at hB hrows hdone⊢
  clear hcd hdl hcs
  refine FnOk.of_vc vE_ok mixed Qab (n:=1000) (r:=[0]) (S:={sl:=[(2,.ptr 0 0)],os:=[.row 32 none [sl [2],gC rows]]}) (hs:=[(0,.loop [0,1,2] (dcS C ks fo M 0) [(True,.exit 0,dcX C ks fo M 0)]),yes 38,(0,.loopM (dbS 0) (.exit 2) (fun _=>[(1,.ptr 0 0),(2,.ptr 1 0),(3,.ptr 2 0)]) (fun hl H nx lg=>∃hs,DH C ks fo M [2] (some 0) none (drows ks fo [2] (min ks.length 40)) hl hs H nx) (fun hl H' nx' lg'=>[(0,.loopK (dmS 0) [(True,.exit 6,dzS [2] rows)])]))]) ?_
  refine Eq.mp (by kernel_rfl:(let z0:=[(2:Int)];let z3:=V.ptr 0 0;let z4:=V.ptr 1 0;let z5:=V.ptr 2 0;let z6:=(0:Nat);let z1:=drows ks fo z0 (min ks.length 40);let z2:=[sl z0,gC rows];An [V.agg z2=gV z0 rows,An [An [Zz,Zz,Zz,(↑z6:Int)=(0:Int),Tt],An [dfL C ks fo M=[sl8 C,kV ks,w8 fo,sl8 M],TT 4],An [Sm [V.nils,V.nils],TT 2],TT 2,Tt],Sat Pg none 0 (at' 19 [1,1,0,1,0]) (mkSt g0 139 (dcS C ks fo M 0)) (Qaf g0 139 [(True,Ex.exit 0,dcX C ks fo M 0)]),(True→((↑z6:Int)==(0:Int))=true∧(z3=z3∧z4=z4∧z5=z5∧i6 0=i6 ↑z6∧True)∧Sat Pg none 0 (at' 19 [1,1,1,1,0,1,0]) (mkSo g0 139 (dbS 0) (pt (pt (ofOs T.e 0 (dfO C ks fo M::n2::O.row 32 none [owV 3 0,V.nils]::owL 3 (ints (List.map Qcf [])) 0)) 3 (O.row 3 none [i6 2])) 2 (O.row 32 none [V.sl 3 0 1 (some 0),V.nils])) 4 ([2]++[])) (Qk8 g0 139 (Ex.exit 2) (fun x=>[(1,z3),(2,z4),(3,z5)]) fun hl H nx lg=>∃hs,DH C ks fo M z0 (some 0) none z1 hl hs H nx)∧∀(h:Nat)(H:T O)(nx:Nat)(lg:List Nat),(∃hs,DH C ks fo M z0 (some 0) none z1 h hs H nx)→An [An [z3=z3,z4=z4,z5=z5,i6 0=i6 ↑z6,Tt],Sat Pg none 0 (at' 19 [1,1,1,1,1,0,1,0]) (mkSo g0 139 (dmS 0) H nx lg) (Qaf g0 139 [(True,Ex.exit 6,dzS z0 rows)]),(True→An [An [Zz,Tt],An [z2=z2,TT 2],Tt]),Tt]),Tt])=_) ?_
  (repeat'(first|(with_reducible apply And.intro)|(refine fun(_:True)=>?_)))
  all_goals first|with_reducible rfl|exact trivial|assumption|rfl|exact hrows _ _ _ (some 0) none (hB _ _ (some 0) none (by kernel_rfl) (by kernel_rfl) (by kernel_rfl) (by kernel_rfl) (by decide))|skip
  intro hl_ H_ nx_ lg_ hQ
  obtain⟨hs_,hD_⟩:=hQ
  have hd_:=hdone _ _ hl_ hs_ H_ nx_ lg_ hD_
  (repeat'(first|(with_reducible apply And.intro)|(refine fun(_:True)=>?_)))
  all_goals first|with_reducible rfl|exact trivial|assumption|rfl
 | succ n =>
  have hcs:cardsD C=(C.take (n+1)).map Qcf:=by
   unfold cardsD
   rw[if_neg (by rintro rfl;simp at hn)]
   congr 1
   by_cases h5:C.length≤5
   ·rw[List.take_of_length_le h5,List.take_of_length_le (by omega)]
   ·rw[show n+1=5 by omega]
  have hLl:((C.take (n+1)).map Qcf).length=n+1:=by rw[List.length_map,List.length_take];omega
  rw[hcs]at hB hrows hdone⊢
  have hl2:Sat Pg none 0 (at' 19 [1,1,0,1,0]) (mkSt g0 139 (dcS C ks fo M 0)) (Qaf g0 139 [(True,.exit 0,{sl:=[(1,.ptr 0 0),(2,.ptr 1 0),(3,.ptr 2 0)],os:=dfO C ks fo M::n2:: .row 32 none [owV 3 (n+1),.nils]::owL 3 (ints ((C.take (n+1)).map Qcf)) (n+1),md:=[0,0,1]})]):=hl
  clear hcd hdl hcs hn hl
  generalize (C.take (n+1)).map Qcf=L at*
  refine FnOk.of_vc vE_ok mixed Qab (n:=1000) (r:=[0]) (S:={sl:=[(2,.ptr 0 0)],os:=[.row 32 none [sl L,gC rows]]}) (hs:=[(0,.loop [0,1,2] (dcS C ks fo M 0) [(True,.exit 0,{sl:=[(1,.ptr 0 0),(2,.ptr 1 0),(3,.ptr 2 0)],os:=dfO C ks fo M::n2:: .row 32 none [owV 3 (n+1),.nils]::owL 3 (ints L) (n+1),md:=[0,0,1]})]),no 38,(0,.loopM (dbS 0) (.exit 2) (fun _=>[(1,.ptr 0 0),(2,.ptr 1 0),(3,.ptr 2 0)]) (fun hl H nx lg=>∃hs,DH C ks fo M L none (some 1) (drows ks fo L (min ks.length 40)) hl hs H nx) (fun hl H' nx' lg'=>[(0,.loopK (dmS 0) [(True,.exit 6,dzS L rows)])]))]) ?_
  refine Eq.mp (by kernel_rfl:(let z1:=O.row 32 none [owV 3 (n+1),V.nils];let z2:=drows ks fo L (min ks.length 40);let z3:=V.ptr 0 0;let z4:=V.ptr 1 0;let z5:=V.ptr 2 0;let z6:=[sl L,gC rows];let z7:=owL 3 (ints L) (n+1);let z0:=[(1,z3),(2,z4),(3,z5)];An [V.agg z6=gV L rows,An [An [Zz,Zz,Zz,(↑(0:Nat):Int)=(0:Int),Tt],An [dfL C ks fo M=[sl8 C,kV ks,w8 fo,sl8 M],TT 4],An [Sm [V.nils,V.nils],TT 2],TT 2,Tt],Sat Pg none 0 (at' 19 [1,1,0,1,0]) (mkSt g0 139 (dcS C ks fo M 0)) (Qaf g0 139 [(True,Ex.exit 0,SL.mk z0 (dfO C ks fo M::n2::z1::z7) [] [0,0,1])]),(True→((↑(n+1):Int)==(0:Int))=false∧(z3=z3∧z4=z4∧z5=z5∧i6 0=i6 ↑(0:Nat)∧True)∧Sat Pg none 0 (at' 19 [1,1,1,1,0,1,0]) (mkSo g0 139 (dbS 0) (ofOs T.e 0 (dfO C ks fo M::n2::z1::z7)) 4 []) (Qk8 g0 139 (Ex.exit 2) (fun x=>z0) fun hl H nx lg=>∃hs,DH C ks fo M L none (some 1) z2 hl hs H nx)∧∀(h:Nat)(H:T O)(nx:Nat)(lg:List Nat),(∃hs,DH C ks fo M L none (some 1) z2 h hs H nx)→An [An [z3=z3,z4=z4,z5=z5,i6 0=i6 ↑(0:Nat),Tt],Sat Pg none 0 (at' 19 [1,1,1,1,1,0,1,0]) (mkSo g0 139 (dmS 0) H nx lg) (Qaf g0 139 [(True,Ex.exit 6,dzS L rows)]),(True→An [An [Zz,Tt],An [z6=z6,TT 2],Tt]),Tt]),Tt])=_) ?_
  (repeat'(first|(with_reducible apply And.intro)|(refine fun(_:True)=>?_)))
  all_goals first|with_reducible rfl|exact trivial|assumption|rfl|(refine Qen ?_;omega)|exact hrows _ _ _ none (some 1) (hB _ _ none (some 1) (by kernel_rfl) (by kernel_rfl) (by rw[hLl];kernel_rfl) (by kernel_rfl) (by decide))|skip
  intro hl_ H_ nx_ lg_ hQ
  obtain⟨hs_,hD_⟩:=hQ
  have hd_:=hdone _ _ hl_ hs_ H_ nx_ lg_ hD_
  (repeat'(first|(with_reducible apply And.intro)|(refine fun(_:True)=>?_)))
  all_goals first|with_reducible rfl|exact trivial|assumption|rfl
open Go.RowKit Go.ChangeShapes Go.WideShapes
theorem Qs1{w:World}{a:Addr}{v:Value}(h:w.cell? a=some v):a=⟨a.block,a.off,none⟩∧a.block<w.heap.size:=by
 unfold World.cell? at h
 split at h
 ·rename_i c e f hb
  refine⟨?_,(Array.getElem?_eq_some_iff.1 hb).1⟩
  cases a with
  |mk b o s=>
   cases s with
   |none=>rfl
   |some x=>simp at h
 ·cases h
theorem wf8{n:Int}(h:(Lit.int .u8 n).wf=true):0≤n∧n≤255:=by
 simp only[Lit.wf,Bool.and_eq_true,decide_eq_true_eq]at h
 exact h
section
variable {H:Type} {enc:TypeId×Value→H} {w:World}
theorem Qt8{t e:TypeId}{k:IntKind}{fuel:Nat}{cs:List Value}{x:DataW H×List MemPlace}(ht:Pg.underlying t=some (.slice e))(he:Pg.underlying e=some (.int k))(hc:Pg.cellsOf e=1)
  (h:DataW.trod enc Pg w 0 (fun _=>true) true fuel t cs=some x): ∃(v:Value)(L:List Int),cs=[v]∧RV (sg (allB w)) w (.im L.length (L.map (V.int k))) v∧(∀n∈L,(Lit.int k n).wf=true)∧L.length≤9223372036854775807:=by
 rcases open_ints ht he hc h with⟨rfl,_⟩|⟨a,len,cap,zs,rfl,_,hl,hmx,hz,_,hcell,hw⟩
 ·exact⟨_,[],rfl,⟨none,0,rfl,Nat.le_refl _,fun h=>absurd rfl h⟩,(fun _ h=>by cases h),Nat.zero_le _⟩
 ·have hz' : zs.length = cap := by simpa using hz
  have hmx':cap≤9223372036854775807:=hmx
  refine⟨_,zs.take len,rfl,⟨some a,cap,?_,by simp;omega,fun hn=>?_⟩,fun n hm=>hw n (List.mem_of_mem_take hm),by rw[List.length_take];omega⟩
  ·congr 1;simp;omega
  ·have h0 : 0 < zs.length := by
    have:(zs.take len).length≠0:=hn
    simp at this;omega
   obtain⟨h1,h2⟩:=Qs1 (by have:=hcell 0 h0;simpa [Addr.add]using this)
   refine⟨a.block,a.off,by rw[←h1],?_⟩
   have key: ∀(l:List Int)(off:Nat),(∀(j:Nat)(h:j<l.length),w.cell? ⟨a.block,off+j,none⟩=some (.int k l[j]))→RC (sg (allB w)) w (l.map (V.int k)) a.block off:=by
    intro l
    induction l with
    |nil=>intro _ _;trivial
    | cons y l ih =>
     intro off hh
     exact⟨⟨h2,_,hh 0 (by simp),rfl⟩,ih (off+1) fun j hj=>by
      have:=hh (j+1) (by simpa using hj)
      rw[show off+1+j=off+(j+1)by omega]
      exact this⟩
   refine key _ _ fun j hj=>?_
   have hj':j<zs.length:=by simp at hj;omega
   have:=hcell j hj'
   rw[h1,Qax]at this
   rw[this]
   simp[List.getD,List.getElem?_eq_getElem hj']
theorem trod_i{t:TypeId}{k:IntKind}{fuel:Nat}{cs:List Value}{x:DataW H×List MemPlace}(ht:Pg.underlying t=some (.int k))(h:DataW.trod enc Pg w 0 (fun _=>true) true fuel t cs=some x): ∃n,cs=[.int k n]∧(Lit.int k n).wf=true:=by
 cases fuel with
 |zero=>simp[DataW.trod]at h
 |succ m=>
  obtain⟨n,rfl,_,hw⟩:=DataW.trod_int ht h
  exact⟨n,rfl,hw⟩
theorem Qt7{fuel:Nat}{cs:List Value}{x:DataW H×List MemPlace}(h:DataW.trod enc Pg w 0 (fun _=>true) true fuel 23 cs=some x): ∃(v:Value)(ks:List (Nat→Int)),cs=[v]∧RV (sg (allB w)) w (kV ks) v∧KOk ks:=by
 have h5:Pg.cellsOf 92=5:=by kernel_rfl
 rcases DataW.trod_slice Tryd.underlying23 h with⟨rfl,_⟩|⟨a,len,cap,elems,rest,n,_,rfl,_,_,hl,_,hlen,hel,_,_⟩
 ·exact⟨_,[],rfl,⟨none,0,rfl,Nat.le_refl _,fun h=>absurd rfl h⟩,⟨fun f hf=>by cases hf⟩⟩
 ·rw [h5] at hel
  have each: ∀i:Nat,∃ns:List Int,i<len→(ns.length=5∧(∀m∈ns,(Lit.int .u8 m).wf=true)∧∀j,j<5→w.cell? ((a.add (i*5)).add j)=some (.int .u8 (ns.getD j 0))):=by
   intro i
   by_cases hi:i<len
   ·have h1 := hel i hi
    rw[List.getElem?_eq_getElem (by omega)]at h1
    obtain⟨cs',hcs,hy⟩:=Option.bind_eq_some_iff.1 h1
    obtain⟨ns,e1,e2,_,e4⟩:=Qe5 Tryd.underlying92 Tryd.underlying5 (by kernel_rfl) (by kernel_rfl) hy
    refine⟨ns,fun _=>⟨e1,e4,fun j hj=>?_⟩⟩
    have:=(World.cells?_some hcs).2.2 j hj
    rw[e2,List.getElem?_map,List.getElem?_eq_getElem (by omega)]at this
    rw[this,List.getD_eq_getElem?_getD,List.getElem?_eq_getElem (by omega)]
    rfl
   ·exact⟨[],fun h=>absurd h hi⟩
  obtain⟨f,hf⟩:=Classical.axiomOfChoice each
  refine⟨_,(List.range len).map fun i j=>(f i).getD j 0,rfl,?_,⟨fun g hg j hj=>?_⟩⟩
  ·refine ⟨some a, cap, by simp, by simpa using hl, fun hn => ?_⟩
   have h0:0<len:=by
    have:((List.range len).map fun i j=>(f i).getD j 0).length≠0:=hn
    simp at this;omega
   obtain⟨h1,h2⟩:=Qs1 (by have:=(hf 0 h0).2.2 0 (by omega);simpa [Addr.add]using this)
   refine⟨a.block,a.off,by rw[←h1],?_⟩
   have key: ∀(l:List (Nat→Int))(off:Nat),(∀(i:Nat)(g:Nat→Int),l[i]? =some g→∀j,j<5→w.cell? ⟨a.block,off+(i*5+j),none⟩=some (.int .u8 (g j)))→RC (sg (allB w)) w (Qcm l) a.block off:=by
    intro l
    induction l with
    |nil=>intro _ _;trivial
    | cons y l ih =>
     intro off hh
     have q:=fun j hj=>hh 0 y rfl j hj
     refine⟨⟨h2,_,q 0 (by omega),rfl⟩,⟨h2,_,?_,rfl⟩,⟨h2,_,?_,rfl⟩,⟨h2,_,?_,rfl⟩,⟨h2,_,?_,rfl⟩,ih (off+1+1+1+1+1) fun i g hi j hj=>?_⟩
     ·exact q 1 (by omega)
     ·exact q 2 (by omega)
     ·exact q 3 (by omega)
     ·exact q 4 (by omega)
     ·have := hh (i + 1) g (by simpa using hi) j hj
      rw[show off+1+1+1+1+1+(i*5+j)=off+((i+1)*5+j)by omega]
      exact this
   refine key _ _ fun i g hi j hj=>?_
   rw[List.getElem?_map]at hi
   have hlt:i<len:=by
    rcases Nat.lt_or_ge i len with h'|h'
    ·exact h'
    ·rw[List.getElem?_eq_none (by simpa using h')]at hi;cases hi
   rw[List.getElem?_range hlt]at hi
   cases hi
   have:=(hf i hlt).2.2 j hj
   rw[h1,Qax,Qax,Nat.add_assoc]at this
   exact this
  ·obtain ⟨i, hi, rfl⟩ := List.mem_map.1 hg
   have hlt:=List.mem_range.1 hi
   obtain⟨e1,e2,_⟩:=hf i hlt
   dsimp only
   rw[List.getD_eq_getElem?_getD,List.getElem?_eq_getElem (by omega)]
   exact wf8 (e2 _ (List.getElem_mem _))
theorem Qqv{v:Value}{d:DataW H}{p:List MemPlace}(hv: ∃cs,v= .agg cs∧cs.size=Pg.cellsOf 25)(h:DataW.Trod enc Pg w 0 (fun _=>true) true 25 v d p):
  ∃(C:List Int)(ks:List (Nat→Int))(fo:Int)(M:List Int),RV (sg (allB w)) w (dfV C ks fo M) v∧DrOk C ks fo M:=by
 obtain⟨arr,rfl,hsz⟩:=hv
 obtain⟨fuel,hf⟩:=h
 obtain⟨xs,n,_,_,hl,hlen,hfd⟩:=DataW.trod_struct Tryd.underlying25 hf
 have hc26:Pg.cellsOf 25=4:=by kernel_rfl
 rw[hc26]at hl
 have hcells:(Value.agg arr).cells.toList=arr.toList:=rfl
 rw[hcells]at hl hfd
 obtain⟨c0,c1,c2,c3,harr⟩: ∃c0 c1 c2 c3,arr.toList=[c0,c1,c2,c3]:=by
  match arr.toList,hl with
  |[c0,c1,c2,c3],_=>exact⟨c0,c1,c2,c3,rfl⟩
 have hlen':xs.length=4:=hlen
 obtain⟨y0,y1,y2,y3,rfl⟩: ∃y0 y1 y2 y3,xs=[y0,y1,y2,y3]:=by
  match xs,hlen' with
  |[y0,y1,y2,y3],_=>exact⟨y0,y1,y2,y3,rfl⟩
 have h1c: ∀t,t=22∨t=23∨t=5→Pg.cellsOf t=1:=by
  rintro t (rfl|rfl|rfl)<;>kernel_rfl
 have f0:DataW.trod enc Pg w 0 (fun _=>true) true n 22 (List.take (Pg.cellsOf 22) (List.drop 0 arr.toList))=some y0:=hfd 0 _ rfl
 have f1:DataW.trod enc Pg w 0 (fun _=>true) true n 23 (List.take (Pg.cellsOf 23) (List.drop 1 arr.toList))=some y1:=hfd 1 _ rfl
 have f2:DataW.trod enc Pg w 0 (fun _=>true) true n 5 (List.take (Pg.cellsOf 5) (List.drop 2 arr.toList))=some y2:=hfd 2 _ rfl
 have f3:DataW.trod enc Pg w 0 (fun _=>true) true n 22 (List.take (Pg.cellsOf 22) (List.drop 3 arr.toList))=some y3:=hfd 3 _ rfl
 rw[harr]at f0 f1 f2 f3
 rw[h1c 22 (.inl rfl)]at f0 f3
 rw[h1c 23 (.inr (.inl rfl))]at f1
 rw[h1c 5 (.inr (.inr rfl))]at f2
 obtain⟨v0,C,e0,r0,w0,_⟩:=Qt8 Tryd.underlying22 Tryd.underlying5 (by kernel_rfl) (x:=y0) f0
 obtain⟨v1,ks,e1,r1,w1⟩:=Qt7 (x:=y1) f1
 obtain⟨k2,e2,w2⟩:=trod_i Tryd.underlying5 (x:=y2) f2
 obtain⟨v3,M,e3,r3,w3,l3⟩:=Qt8 Tryd.underlying22 Tryd.underlying5 (by kernel_rfl) (x:=y3) f3
 simp at e0 e1 e2 e3
 subst e0 e1 e2 e3
 refine⟨C,ks,k2,M,⟨arr,rfl,?_⟩,⟨fun c hc=>wf8 (w0 c hc),w1,wf8 w2,fun c hc=>wf8 (w3 c hc),l3⟩⟩
 rw[harr]
 exact⟨_,_,rfl,r0,_,_,rfl,r1,_,_,rfl,rfl,_,_,rfl,r3,rfl⟩
end
set_option maxHeartbeats 1000000
set_option maxRecDepth 100000
theorem Qm7(C:List Int)(ks:List (Nat→Int))(fo:Int)(M:List Int)(h:DrOk C ks fo M):FnOk Pg g0 18 [dfV C ks fo M] (gV (cardsD C) (dataD C ks fo [])):=by
 have hd:=draft_fn C ks fo [] ⟨h.c8,h.k8,h.f8,fun c hc=>(by cases hc),by simp⟩
 generalize cardsD C=cards at*
 generalize dataD C ks fo []=rows at*
 refine FnOk.of_vc vE_ok mixed Qab (n:=1000) (r:=[1]) (S:={sl:=[(2,.ptr 0 0)],os:=[.row 32 none [sl cards,gC rows]]}) (hs:=[fn 5 (gV cards rows)]) ?_
 refine Eq.mp (by kernel_rfl:(let z0:=[sl cards,gC rows];An [V.agg z0=gV cards rows,An [TT 4,Tt],FnOk Pg g0 19 [V.agg [V.im C.length (List.map w8 C),V.im ks.length (Qcm ks),w8 fo,V.im 0 []]] (gV cards rows),Tt,An [Zz,Tt],An [z0=z0,TT 2],Tt])=_) ?_
 (repeat'(first|(with_reducible apply And.intro)|(refine fun(_:True)=>?_)))
 all_goals first|with_reducible rfl|exact trivial|assumption|rfl|exact hd
def Qfe(n:Nat)(rows:List (List Int)):Prop:=∀c∈rows,c.length=n
theorem Qre(ks:List (Nat→Int))(fo:Int)(cards:List Int)(m:Nat):Qfe cards.length (drows ks fo cards m):=by
 intro c hc
 obtain⟨f,_,rfl⟩:=List.mem_map.1 hc
 exact Qbd f fo cards _
theorem Qoh{n:Nat}: ∀(M:List Int)(rows:List (List Int)),Qfe n rows→Qfe n (Qcv n rows M)
 |[],_,h=>h
 | m :: M, rows, h => by
  have h1:Qfe n (Qg5 n rows m):=by
   intro c hc
   unfold Qg5 at hc
   by_cases hr:rows=[]
   ·subst hr;simp at hc
   ·have hp : 0 < rows.length := Nat.pos_of_ne_zero (fun h0 => hr (List.eq_nil_of_length_eq_zero h0))
    have h2:=Int.emod_lt_of_pos (m/5) (show(0:Int)<rows.length by omega)
    have h3:=Int.emod_nonneg (m/5) (show(rows.length:Int)≠0 by omega)
    rcases List.mem_or_eq_of_mem_set hc with hc|rfl
    ·exact h c hc
    ·rw [List.length_set, List.getD_eq_getElem?_getD, List.getElem?_eq_getElem (by omega)]
     exact h _ (List.getElem_mem (by omega))
  exact Qoh M _ h1
theorem Qj7(C:List Int)(ks:List (Nat→Int))(fo:Int)(M:List Int):Qfe (cardsD C).length (dataD C ks fo M)∧(dataD C ks fo M).length≤40:=by
 refine⟨Qoh M _ (Qre ks fo _ _),?_⟩
 unfold dataD
 rw[Qcw]
 simp only[drows,List.length_map,List.length_take];omega
abbrev bdL(b a N:Int):List V:=[w8 b,w8 a,i6 N]
abbrev bdO(b a N:Int):O:=.row 27 none (bdL b a N)
structure BBase(b a N:Int)(cards:List Int)(cs:List (List Int))(lv:V)(H:T O)(nx:Nat):Prop where
 h0:gt H 0=some (bdO b a N)
 h1:gt H 1=some (gO cards cs)
 h2:gt H 2=some n2
 h4:gt H 4=some (.row 3 (some 1) (ints cards))
 h5:gt H 5=some (.row 32 none [.sl 4 0 cards.length none,lv])
 nx:6≤nx
structure BH(b a N:Int)(cards:List Int)(cs rows:List (List Int))(hl:Nat)(hs:List Nat)(H:T O)(nx:Nat):Prop where
 base:BBase b a N cards cs (owV hl rows.length) H nx
 rows:Rows cards.length 6 rows hl hs H nx
structure LstR(n:Nat)(rows:List (List Int))(hl:Nat)(cells:List V)(H:T O)(nx:Nat):Prop where
 len:cells.length=rows.length
 list:0<rows.length→6≤hl∧hl<nx∧gt H hl=some (.row 29 (some 1) cells)
 row: ∀(i:Nat)(cell:V),cells[i]? =some cell→∃g room sp c,cell= .sl g 0 n room∧6≤g∧g<nx∧(g≠hl∨rows.length=0)∧rows[i]? =some c∧c.length=n∧gt H g=some (.row 3 sp (ints c))
structure M3(cards:List Int)(cs:List (List Int))(lv:V)(H:T O)(nx:Nat):Prop where
 h2:gt H 2=some n2
 h4:gt H 4=some (.row 3 (some 1) (ints cards))
 h5:gt H 5=some (.row 32 none [.sl 4 0 cards.length none,lv])
 nx:6≤nx
def memB(n:Nat)(v:Int)(ps:Nat):Bool:=decide (0≤v)&&(decide (v<n)&&(decide (ps/2^n=0)&&decide (ps/2^v.toNat%2=0)))
theorem shr_v{G:Ctx}{t:Nat}{x:Nat}{v:Int}(h0:0≤v)(hk:v≤64):binV G .shr t (u6 (x:Int)) (i6 v)=some (u6 ((x/2^v.toNat:Nat):Int)):=by
 have:=@Qli G t x v.toNat (by omega)
 rwa [Int.toNat_of_nonneg h0]at this
def toN(l:List Int):List Nat:=l.map Int.toNat
theorem Qar(l:List Int):(toN l).length=l.length:=by simp[toN]
theorem Qm0(l:List Int)(k:Nat):(toN l).getD k 0=(l.getD k 0).toNat:=by
 unfold toN
 rw[List.getD_eq_getElem?_getD,List.getD_eq_getElem?_getD,List.getElem?_map]
 cases l[k]? <;>rfl
theorem sl_nl{l:List Int}(h: ∀x∈l,0≤x):sl l=nl (toN l):=by
 show V.im l.length (ints l)=V.im (toN l).length (nt (toN l))
 rw[Qar,Qeu]
 congr 2
 unfold toN
 rw[List.map_map]
 conv=>lhs;rw[←List.map_id l]
 refine List.map_congr_left fun x hx=>?_
 simp only[Function.comp,id]
 rw[Int.toNat_of_nonneg (h x hx)]
theorem Qpu{cards:List Int}{cs:List (List Int)}(h:goodE cards cs=0):okAll cards cs=true∧cs.any negB=false:=by
 unfold goodE at h
 cases h1:okAll cards cs with
 |false=>rw[h1]at h;simp at h
 |true=>
  cases h2:cs.any negB with
  |true=>rw[h1,h2]at h;simp at h
  |false=>exact⟨rfl,rfl⟩
structure WholeOk(cards:List Int)(cs:List (List Int)):Prop where
 cok:CardsOk (toN cards)
 rok: ∀c∈cs.map toN,CaseOk (toN cards) c
 len:cs.length≤40
 eq:gV cards cs=dN (toN cards) (cs.map toN)
 size:prodT cards cards.length≤1024
theorem Qfc{cards:List Int}{cs:List (List Int)}(h:goodE cards cs=0):WholeOk cards cs:=by
 obtain⟨h1,h2⟩:=Qpu h
 unfold okAll at h1
 simp only[Bool.and_eq_true,decide_eq_true_eq]at h1
 obtain⟨a1,a2,a3,a4,a5,a6⟩:=h1
 have hc: ∀k,k<cards.length→2≤cards.getD k 0∧cards.getD k 0≤4:=fun k hk=>of_decide_eq_true (all_range.1 a4 k hk)
 have hcm: ∀x∈cards,0≤x:=fun x hx=>by
  obtain⟨k,hk,rfl⟩:=List.getElem_of_mem hx
  have:=hc k hk
  rw[List.getD_eq_getElem?_getD,List.getElem?_eq_getElem hk]at this
  simp only[Option.getD_some]at this;omega
 have hrow: ∀c∈cs,c.length=cards.length∧∀k,k<cards.length→ -1≤c.getD k 0∧c.getD k 0<cards.getD k 0:=fun c hc=>by
  have:=List.all_eq_true.1 a6 c hc
  unfold okRow at this
  rw[Bool.and_eq_true,decide_eq_true_eq]at this
  exact⟨this.1,fun k hk=>of_decide_eq_true (all_range.1 this.2 k hk)⟩
 have hpos: ∀c∈cs,∀x∈c,0≤x:=fun c hc x hx=>by
  have:=List.any_eq_false.1 h2 c hc
  unfold negB at this
  have h3:=List.any_eq_false.1 (by simpa using this:(c.any fun x=>decide (x<0))=false) x hx
  simpa using h3
 refine⟨⟨by rw[Qar];exact a1,by rw[Qar];exact a2,fun k hk=>?_⟩,fun c hc'=>?_,a3,?_,a5⟩
 ·rw [Qar] at hk
  have:=hc k hk
  rw[Qm0];omega
 ·obtain ⟨d, hd, rfl⟩ := List.mem_map.1 hc'
  obtain⟨r1,r2⟩:=hrow d hd
  refine⟨by rw[Qar,Qar];exact r1,fun k hk=>?_⟩
  rw[Qar]at hk
  have:=r2 k hk
  have:=hc k hk
  rw[Qm0,Qm0]
  omega
 ·have e2 : cs.map sl = (cs.map toN).map nl := by
   rw[List.map_map]
   exact List.map_congr_left fun c hc=>sl_nl (hpos c hc)
  show V.agg [sl cards,.im cs.length (cs.map sl)]=V.agg [nl (toN cards),.im (cs.map toN).length ((cs.map toN).map nl)]
  rw[sl_nl hcm,e2,List.length_map]
abbrev fpS(f:Nat→Int)(e:Int):SL:={sl:=[(6,.ptr 0 0),(7,i6 e)],os:=[.row 41 none (arF f)]}
theorem sfam_arg(cards:List Int)(cs:List (List Int))(v:Int)(ps:Nat)(hl1:cards.length≤64)(hl2:cs.length≤1000)(hcl: ∀c∈cs,c.length≤1000)(h:goodE cards cs=0)(hm:memB cards.length v ps=false):FnOk Pg g0 22 [gV cards cs,i6 v,u6 ps] (.tup [ar Qaj,i6 2]):=by
 have h1:=Qbq cards cs (by omega) hl2 hcl
 rw[h]at h1
 unfold memB at hm
 have s1:=@Qli (Qad Pg) 28 ps cards.length hl1
 by_cases c1:v<0
 ·refine FnOk.of_vc vE_ok mixed Qab (n := 1000) (r := [1]) (S := fpS Qaj 2) (hs := [fn 10 (i6 0), yes 16]) ?_
  refine Eq.mp (by kernel_rfl:(An [V.tup [V.agg (arF Qaj),i6 2]=V.tup [ar Qaj,i6 2],An [TT 2,Tt],FnOk Pg g0 72 [V.agg [V.im cards.length (ints cards),V.im cs.length (List.map sl cs)]] (i6 0),Tt,decide (v<(0:Int))=true,An [Zz,Sm (2:Int),Tt],An [arF Qaj=[i6 0,i6 0,i6 0,i6 0,i6 0,i6 0,i6 0,i6 0,i6 0,i6 0,i6 0,i6 0,i6 0,i6 0,i6 0,i6 0,i6 0,i6 0],TT 18],Tt])=_) ?_
  exact au
 ·by_cases c2 : v ≥ cards.length
  ·refine FnOk.of_vc vE_ok mixed Qab (n := 1000) (r := [1]) (S := fpS Qaj 2) (hs := [fn 10 (i6 0), no 16, yes 22]) ?_
   refine Eq.mp (by kernel_rfl:(An [V.tup [V.agg (arF Qaj),i6 2]=V.tup [ar Qaj,i6 2],An [TT 2,Tt],FnOk Pg g0 72 [V.agg [V.im cards.length (ints cards),V.im cs.length (List.map sl cs)]] (i6 0),Tt,decide (v<(0:Int))=false,decide (v≥(↑cards.length:Int))=true,An [Zz,Sm (2:Int),Tt],An [arF Qaj=[i6 0,i6 0,i6 0,i6 0,i6 0,i6 0,i6 0,i6 0,i6 0,i6 0,i6 0,i6 0,i6 0,i6 0,i6 0,i6 0,i6 0,i6 0],TT 18],Tt])=_) ?_
   exact au
  ·have s2 := @shr_v (Qad Pg) 28 ps v (by omega) (by omega)
   have s3:=@Qjv (Qad Pg) 28 (ps/2^v.toNat)
   rw[decide_eq_true (show 0≤v by omega),decide_eq_true (show v<cards.length by omega)]at hm
   generalize ps/2^cards.length=a at*
   generalize ps/2^v.toNat=b at*
   by_cases c3:a=0
   ·rw [decide_eq_true c3] at hm
    have hb1:b%2=1:=by
     have: ¬b%2=0:=by simpa using hm
     omega
    rw[hb1]at s3
    refine FnOk.of_vc vE_ok mixed Qab (n:=1000) (r:=[1]) (S:=fpS Qaj 2) (hs:=[fn 10 (i6 0),no 16,no 22,va 29 (u6 a),no 30,va 35 (u6 b),va 36 (u6 1),yes 37]) ?_
    refine Eq.mp (by kernel_rfl:(An [V.tup [V.agg (arF Qaj),i6 2]=V.tup [ar Qaj,i6 2],An [TT 2,Tt],FnOk Pg g0 72 [V.agg [V.im cards.length (ints cards),V.im cs.length (List.map sl cs)]] (i6 0),Tt,decide (v<(0:Int))=false,decide (v≥(↑cards.length:Int))=false,binV (Qad Pg) .shr 28 (u6 ↑ps) (i6 ↑cards.length)=some (u6 ↑a),((↑a:Int) != (0:Int))=false,binV (Qad Pg) .shr 28 (u6 ↑ps) (i6 v)=some (u6 ↑b),binV (Qad Pg) .and 28 (u6 ↑b) (u6 1)=some (u6 1),((1:Int)==(1:Int))=true,An [Zz,Sm (2:Int),Tt],An [arF Qaj=[i6 0,i6 0,i6 0,i6 0,i6 0,i6 0,i6 0,i6 0,i6 0,i6 0,i6 0,i6 0,i6 0,i6 0,i6 0,i6 0,i6 0,i6 0],TT 18],Tt])=_) ?_
    exact au
   ·refine FnOk.of_vc vE_ok mixed Qab (n := 1000) (r := [1]) (S := fpS Qaj 2) (hs := [fn 10 (i6 0), no 16, no 22, va 29 (u6 a), yes 30]) ?_
    refine Eq.mp (by kernel_rfl:(An [V.tup [V.agg (arF Qaj),i6 2]=V.tup [ar Qaj,i6 2],An [TT 2,Tt],FnOk Pg g0 72 [V.agg [V.im cards.length (ints cards),V.im cs.length (List.map sl cs)]] (i6 0),Tt,decide (v<(0:Int))=false,decide (v≥(↑cards.length:Int))=false,binV (Qad Pg) .shr 28 (u6 ↑ps) (i6 ↑cards.length)=some (u6 ↑a),((↑a:Int) != (0:Int))=true,An [Zz,Sm (2:Int),Tt],An [arF Qaj=[i6 0,i6 0,i6 0,i6 0,i6 0,i6 0,i6 0,i6 0,i6 0,i6 0,i6 0,i6 0,i6 0,i6 0,i6 0,i6 0,i6 0,i6 0],TT 18],Tt])=_) ?_
    exact au
def famG(cards:List Int)(cs:List (List Int))(v:Int)(ps:Nat):Nat→Int:=famF (toN cards) (cs.map toN) v.toNat ps
theorem Qto(cards:List Int)(cs:List (List Int))(v:Int)(ps:Nat)(hl1:cards.length≤64)(hl2:cs.length≤1000)(hcl: ∀c∈cs,c.length≤1000)(h:goodE cards cs=0)(hm:memB cards.length v ps=true):FnOk Pg g0 22 [gV cards cs,i6 v,u6 ps] (.tup [ar (famG cards cs v ps),i6 0]):=by
 have h1:=Qbq cards cs (by omega) hl2 hcl
 have hw:=Qfc h
 rw[h]at h1
 unfold memB at hm
 simp only[Bool.and_eq_true,decide_eq_true_eq]at hm
 obtain⟨m1,m2,m3,m4⟩:=hm
 have hf:=Qki (toN cards) (cs.map toN) v.toNat ps hw.cok hw.rok (by rw[Qar];omega) (by rw[List.length_map];exact hw.len)
 rw[←hw.eq,Int.toNat_of_nonneg m1]at hf
 have s1:=@Qli (Qad Pg) 28 ps cards.length hl1
 have s2:=@shr_v (Qad Pg) 28 ps v m1 (by omega)
 have s3:=@Qjv (Qad Pg) 28 (ps/2^v.toNat)
 rw[m3]at s1
 rw[m4]at s3
 unfold famG
 generalize famF (toN cards) (cs.map toN) v.toNat ps=f at*
 generalize ps/2^v.toNat=b at*
 refine FnOk.of_vc vE_ok mixed Qab (n:=1000) (r:=[1]) (S:=fpS f 0) (hs:=[fn 10 (i6 0),no 16,no 22,va 29 (u6 (0:Nat)),no 30,va 35 (u6 b),va 36 (u6 (0:Nat)),no 37,fn 43 (ar f)]) ?_
 refine Eq.mp (by kernel_rfl:(let z0:=V.agg [V.im cards.length (ints cards),V.im cs.length (List.map sl cs)];let z1:=(0:Int);let z2:=(0:Nat);An [V.tup [V.agg (arF f),i6 0]=V.tup [ar f,i6 0],An [TT 2,Tt],FnOk Pg g0 72 [z0] (i6 0),Tt,decide (v<z1)=false,decide (v≥(↑cards.length:Int))=false,binV (Qad Pg) .shr 28 (u6 ↑ps) (i6 ↑cards.length)=some (u6 ↑z2),((↑z2:Int) != z1)=false,binV (Qad Pg) .shr 28 (u6 ↑ps) (i6 v)=some (u6 ↑b),binV (Qad Pg) .and 28 (u6 ↑b) (u6 1)=some (u6 ↑z2),((↑z2:Int)==(1:Int))=false,An [TT 2,TT 2],FnOk Pg g0 73 [z0,i6 v,u6 ↑ps] (ar f),Tt,An [Zz,z1=z1,Tt],An [Sm (arF f),TT 18],Tt])=_) ?_
 exact au
structure DatOk(cards:List Int)(cs:List (List Int)):Prop where
 c6:cards.length≤6
 s41:cs.length≤41
 r6: ∀c∈cs,c.length≤6
open Go.RowKit Go.ChangeShapes Go.WideShapes
section
variable {H:Type} {enc:TypeId×Value→H} {w:World}
end
set_option maxRecDepth 100000
def valW:List Nat→Nat
 |[]=>0
 |x::l=>x+18446744073709551616*valW l
def WOk(l:List Nat):Prop:=∀k,l.getD k 0<18446744073709551616
theorem Qbf(a b:List Nat):valW (a++b)=valW a+18446744073709551616^a.length*valW b:=by
 induction a with
 |nil=>simp[valW]
 |cons x a ih=>
  simp only[List.cons_append,valW,ih,List.length_cons,Nat.pow_succ,Nat.mul_add]
  rw[Nat.mul_comm (18446744073709551616^a.length) 18446744073709551616,Nat.mul_assoc]
  omega
theorem WOk.tail{x:Nat}{l:List Nat}(h:WOk (x::l)):x<18446744073709551616∧WOk l:=
 ⟨by simpa using h 0,fun k=>by simpa using h (k+1)⟩
theorem WOk.cons{x:Nat}{l:List Nat}(h1:x<18446744073709551616)(h2:WOk l):WOk (x::l)
 |0=>by simpa using h1
 |k+1=>by simpa using h2 k
theorem WOk.take{l:List Nat}(h:WOk l)(n:Nat):WOk (l.take n):=fun k=>by
 rw[List.getD_eq_getElem?_getD,List.getElem?_take]
 split
 ·rw[←List.getD_eq_getElem?_getD];exact h k
 ·simp
theorem Qm3: ∀{l:List Nat},WOk l→valW l<18446744073709551616^l.length
 |[],_=>by simp[valW]
 |x::l,h=>by
  have h1:=h.tail
  have h2:=Qm3 h1.2
  simp only[valW,List.length_cons,Nat.pow_succ]
  have h3:=h1.1
  generalize 18446744073709551616^l.length=P at*
  omega
theorem Qej{l:List Nat}{i:Nat}(h:i<l.length):l.take (i+1)=l.take i++[l.getD i 0]:=by
 rw[List.take_succ_eq_append_getElem h,List.getD_eq_getElem?_getD,List.getElem?_eq_getElem h];rfl
theorem Qnv{l:List Nat}{i:Nat}(h:i<l.length):l.drop i=l.getD i 0::l.drop (i+1):=by
 rw[List.drop_eq_getElem_cons h,List.getD_eq_getElem?_getD,List.getElem?_eq_getElem h];rfl
theorem Qg0{l:List Nat}{i:Nat}(h:i<l.length):valW (l.take (i+1))=valW (l.take i)+18446744073709551616^i*l.getD i 0:=by
 rw[Qej h,Qbf,List.length_take,Nat.min_eq_left (by omega)]
 simp[valW]
def mulS(w:Nat)(l:List Nat):Nat→List Nat×Nat
 |0=>(l,0)
 |i+1=>((mulS w l i).1.set i ((l.getD i 0*w+(mulS w l i).2)%18446744073709551616),(l.getD i 0*w+(mulS w l i).2)/18446744073709551616)
theorem Qbr(w:Nat)(l:List Nat): ∀i,(mulS w l i).1.length=l.length
 |0=>rfl
 |i+1=>by rw[mulS,List.length_set,Qbr w l i]
theorem Qk1(w:Nat)(l:List Nat): ∀i,(mulS w l i).1.drop i=l.drop i
 |0=>rfl
 |i+1=>by
  have h:=Qk1 w l i
  rw[mulS,List.drop_set_of_lt (by omega)]
  have:=congrArg (List.drop 1) h
  simpa [List.drop_drop]using this
theorem mulS_at(w:Nat)(l:List Nat)(i:Nat):(mulS w l i).1.getD i 0=l.getD i 0:=by
 have h:=congrArg (fun x=>x.getD 0 0) (Qk1 w l i)
 simpa [List.getD_eq_getElem?_getD,List.getElem?_drop]using h
theorem set_take{l:List Nat}{i x:Nat}(h:i<l.length):(l.set i x).take (i+1)=l.take i++[x]:=by
 rw[Qej (by simpa using h),List.take_set_of_le (by omega)]
 congr 2
 rw[List.getD_eq_getElem?_getD,List.getElem?_set_self h];rfl
theorem Qgc{a w c:Nat}(ha:a<18446744073709551616)(hw:w<18446744073709551616)(hc:c<18446744073709551616):a*w+c<340282366920938463463374607431768211456:=by
 have:a*w≤18446744073709551615*18446744073709551615:=Nat.mul_le_mul (by omega) (by omega)
 omega
structure MulOk(w:Nat)(l:List Nat)(i:Nat)(m:List Nat)(c:Nat):Prop where
 len:m.length=l.length
 words:WOk m
 carry:c<18446744073709551616
 val:valW (m.take i)+18446744073709551616^i*c=w*valW (l.take i)
theorem Qmj{w:Nat}{l:List Nat}(hl:WOk l)(hw:w<18446744073709551616): ∀i,i≤l.length→MulOk w l i (mulS w l i).1 (mulS w l i).2
 |0,_=>⟨rfl,hl,by show 0< _;omega,by simp[mulS,valW]⟩
 | i + 1, h => by
  have ih:=Qmj hl hw i (by omega)
  have hlen:=Qbr w l i
  have ha:=hl i
  have hcc:=ih.carry
  have hb:=Qgc ha hw hcc
  refine⟨by rw[Qbr],fun k=>?_,?_,?_⟩
  ·simp only [mulS]
   rw[List.getD_eq_getElem?_getD,List.getElem?_set]
   split
   ·split
    ·simp only[Option.getD_some];omega
    ·simp
   ·rw[←List.getD_eq_getElem?_getD];exact ih.words k
  ·simp only[mulS];omega
  ·have hv := ih.val
   simp only[mulS]
   rw[set_take (by omega),Qbf,Qg0 (by omega),List.length_take,hlen,Nat.min_eq_left (by omega),Nat.mul_add,←hv]
   generalize (mulS w l i).2=c at*
   generalize (mulS w l i).1=m at*
   simp only[valW,Nat.mul_zero,Nat.add_zero]
   have hd:=Nat.mod_add_div (l.getD i 0*w+c) 18446744073709551616
   generalize (l.getD i 0*w+c)%18446744073709551616=r at*
   generalize (l.getD i 0*w+c)/18446744073709551616=q at*
   rw[Nat.pow_succ,Nat.mul_assoc (18446744073709551616^i),Nat.add_assoc (valW (m.take i)),←Nat.mul_add,hd,Nat.mul_add,Nat.mul_left_comm w,Nat.mul_comm w]
   omega
structure Norm(l:List Nat):Prop where
 ok:WOk l
 pos:1≤l.length
 top:18446744073709551616^(l.length-1)≤valW l
def mulW(w:Nat)(l:List Nat):List Nat:=if(mulS w l l.length).2=0 then(mulS w l l.length).1 else(mulS w l l.length).1++[(mulS w l l.length).2]
theorem Qsx{w:Nat}{l:List Nat}(h:Norm l)(hw:w<18446744073709551616)(hp:1≤w):Norm (mulW w l)∧valW (mulW w l)=w*valW l∧(mulW w l).length≤l.length+1:=by
 have ho:=Qmj h.ok hw l.length (Nat.le_refl _)
 have hv:=ho.val
 have hlen:=ho.len
 unfold mulW
 generalize (mulS w l l.length).1=m at*
 generalize (mulS w l l.length).2=c at*
 rw[List.take_of_length_le (by omega),List.take_of_length_le (by omega)]at hv
 have hge:valW l≤w*valW l:=Nat.le_mul_of_pos_left _ hp
 have htop:=h.top
 have hpos:=h.pos
 by_cases hc:c=0
 ·subst hc
  rw[if_pos rfl]
  simp only[Nat.mul_zero,Nat.add_zero]at hv
  exact⟨⟨ho.words,by omega,by rw[hlen];omega⟩,hv,by omega⟩
 ·rw [if_neg hc]
  have hval:valW (m++[c])=w*valW l:=by
   rw[Qbf,hlen];simpa [valW]using hv
  refine⟨⟨fun k=>?_,by simp,?_⟩,hval,by simp;omega⟩
  ·rw [List.getD_eq_getElem?_getD, List.getElem?_append]
   split
   ·rw[←List.getD_eq_getElem?_getD];exact ho.words k
   ·cases hk : k - m.length with
    |zero=>simpa using ho.carry
    |succ j=>simp
  ·rw [Qbf]
   simp only[List.length_append,List.length_singleton,Nat.add_sub_cancel,valW,Nat.mul_zero,Nat.add_zero]
   have:18446744073709551616^m.length*1≤18446744073709551616^m.length*c:=Nat.mul_le_mul_left _ (by omega)
   omega
theorem norm_one:Norm [1]:=⟨WOk.cons (by omega) (fun k=>by simp),by simp,by simp[valW]⟩
theorem Qon{a b:List Nat}(ha:Norm a)(hb:Norm b)(h:a.length<b.length):valW a<valW b:=by
 have h1:=Qm3 ha.ok
 have h2:=hb.top
 have h3:18446744073709551616^a.length≤18446744073709551616^(b.length-1):=Nat.pow_le_pow_right (by omega) (by omega)
 omega
theorem Qo8{a b:List Nat}(ha:WOk a){i:Nat}(hl:a.length=b.length)(hi:i<a.length)(hd:a.drop (i+1)=b.drop (i+1))(h:a.getD i 0<b.getD i 0):valW a<valW b:=by
 have e1:valW a=valW (a.take (i+1))+18446744073709551616^(i+1)*valW (a.drop (i+1)):=by
  conv=>lhs;rw[←List.take_append_drop (i+1) a]
  rw[Qbf,List.length_take,Nat.min_eq_left (by omega)]
 have e2:valW b=valW (b.take (i+1))+18446744073709551616^(i+1)*valW (b.drop (i+1)):=by
  conv=>lhs;rw[←List.take_append_drop (i+1) b]
  rw[Qbf,List.length_take,Nat.min_eq_left (by omega)]
 rw[e1,e2,hd,Qg0 hi,Qg0 (by omega)]
 have h1:=Qm3 (ha.take i)
 rw[List.length_take,Nat.min_eq_left (by omega)]at h1
 have h2:18446744073709551616^i*(a.getD i 0+1)≤18446744073709551616^i*b.getD i 0:=Nat.mul_le_mul_left _ h
 rw[Nat.mul_add,Nat.mul_one]at h2
 omega
theorem Qka{a b:List Nat}{i:Nat}(hl:a.length=b.length)(hi:i<a.length)(hd:a.drop (i+1)=b.drop (i+1))(h:a.getD i 0=b.getD i 0):a.drop i=b.drop i:=by
 have hi':i<b.length:=by omega
 rw[Qnv hi,Qnv hi',h,hd]
def sgn(x y:Nat):Int:=if x<y then -1 else if y<x then 1 else 0
def Qaw(e:Nat→Nat):Nat→Nat
 |0=>1
 |k+1=>Qaw e k*primeN k^e k
theorem Qp4(k:Nat):0<primeN k:=by have:=(Qef k).1;omega
theorem Qlc(e:Nat→Nat): ∀k,0<Qaw e k
 |0=>by simp[Qaw]
 |k+1=>Nat.mul_pos (Qlc e k) (Nat.pow_pos (Qp4 k))
theorem Qaz{e f:Nat→Nat}: ∀k,(∀j,j<k→e j=f j)→Qaw e k=Qaw f k
 |0,_=>rfl
 |k+1,h=>by rw[Qaw,Qaw,Qaz k (fun j hj=>h j (by omega)),h k (by omega)]
theorem Qgm(e f:Nat→Nat): ∀k,Qaw (fun j=>e j+f j) k=Qaw e k*Qaw f k
 |0=>rfl
 |k+1=>by
  rw[Qaw,Qaw,Qaw,Qgm e f k,Nat.pow_add]
  simp only[Nat.mul_assoc,Nat.mul_left_comm,Nat.mul_comm]
theorem Qg7:((List.range 18).all fun i=>(List.range 18).all fun j=>decide (i=j)||decide (Nat.gcd (primeN i) (primeN j)=1))=true:=by decide+kernel
theorem Qi1{i j:Nat}(hi:i<18)(hj:j<18)(h:i≠j):Nat.Coprime (primeN i) (primeN j):=by
 have h1:=List.all_eq_true.1 (List.all_eq_true.1 Qg7 i (List.mem_range.2 hi)) j (List.mem_range.2 hj)
 rcases Bool.or_eq_true _ _▸h1 with h2|h2
 ·exact absurd (of_decide_eq_true h2) h
 ·exact of_decide_eq_true h2
theorem Qeg{e:Nat→Nat}{i:Nat}(hi:i<18)(h0:e i=0): ∀k,k≤18→Nat.Coprime (primeN i) (Qaw e k)
 |0,_=>by simp[Qaw,Nat.Coprime]
 |k+1,hk=>by
  rw[Qaw]
  refine Nat.Coprime.mul_right (Qeg hi h0 k (by omega)) ?_
  by_cases h:i=k
  ·subst h;rw[h0];simp[Nat.Coprime]
  ·exact Nat.Coprime.pow_right _ (Qi1 hi (by omega) h)
theorem Qlb{e:Nat→Nat}{i:Nat}(h1:1≤e i): ∀k,i<k→primeN i∣Qaw e k
 | k + 1, h => by
  rw[Qaw]
  by_cases hk:i=k
  ·subst hk
   exact Nat.dvd_mul_left_of_dvd (Nat.dvd_trans (by rw[Nat.pow_one];exact Nat.dvd_refl _) (Nat.pow_dvd_pow _ h1)) _
  ·exact Nat.dvd_mul_right_of_dvd (Qlb h1 k (by omega)) _
def posF(f:Nat→Int)(s:Int)(j:Nat):Nat:=(s*f j).toNat
theorem Qtb{e f:Nat→Nat}{i:Nat}(hi:i<18)(h1:1≤e i)(h0:f i=0):Qaw e 18≠Qaw f 18:=by
 intro h
 have hd:=Qlb h1 18 hi
 rw[h]at hd
 have hc:=Qeg hi h0 18 (Nat.le_refl _)
 have:=Nat.Coprime.eq_one_of_dvd hc hd
 have:=(Qef i).1
 omega
theorem Qld{f:Nat→Int}(h:Qaw (posF f 1) 18=Qaw (posF f (-1)) 18): ∀i,i<18→f i=0:=by
 intro i hi
 rcases Int.lt_trichotomy (f i) 0 with h1|h1|h1
 ·exact absurd h.symm (Qtb hi (by unfold posF;omega) (by unfold posF;omega))
 ·exact h1
 ·exact absurd h (Qtb hi (by unfold posF;omega) (by unfold posF;omega))
theorem quot_cmp{a b:Nat→Nat}{n m:Nat}(hn:n=Qaw a 18)(hm:m=Qaw b 18)(f:Nat→Int)(hf: ∀i,i<18→f i=(a i:Int)-(b i:Int)):sgn (Qaw (posF f 1) 18) (Qaw (posF f (-1)) 18)=sgn n m:=by
 have h1:n=Qaw (posF f 1) 18*Qaw (fun i=>min (a i) (b i)) 18:=by
  rw[hn,←Qgm]
  exact Qaz 18 fun j hj=>by
   have:=hf j hj
   unfold posF;omega
 have h2:m=Qaw (posF f (-1)) 18*Qaw (fun i=>min (a i) (b i)) 18:=by
  rw[hm,←Qgm]
  exact Qaz 18 fun j hj=>by
   have:=hf j hj
   unfold posF;omega
 have h3:=Qlc (fun i=>min (a i) (b i)) 18
 generalize Qaw (posF f 1) 18=x at*
 generalize Qaw (posF f (-1)) 18=y at*
 generalize Qaw (fun i=>min (a i) (b i)) 18=z at*
 subst h1 h2
 unfold sgn
 by_cases hxy:x<y
 ·rw[if_pos hxy,if_pos (Nat.mul_lt_mul_of_pos_right hxy h3)]
 ·have hle := Nat.mul_le_mul_right z (Nat.le_of_not_lt hxy)
  have hn1: ¬x*z<y*z:=Nat.not_lt.2 hle
  rw[if_neg hxy,if_neg hn1]
  by_cases hyx:y<x
  ·rw[if_pos hyx,if_pos (Nat.mul_lt_mul_of_pos_right hyx h3)]
  ·have hn2 : ¬ y * z < x * z := Nat.not_lt.2 (Nat.mul_le_mul_right z (Nat.le_of_not_lt hyx))
   rw[if_neg hyx,if_neg hn2]
set_option maxHeartbeats 1000000
noncomputable def kFinH(nx0 n:Nat)(r:List Nat)(S:SL):KF:=fun e _ st=>match e with
 | .exit _=>False
 | _=>bif Nat.beq st.tm.n n then gcP nx0 r st S else False
noncomputable def vcFiH(P:Program)(E:Env)(sp:Qdl)(gl:T (List V))(n:Nat)(os0:List O)(ars:List V)(hs:Hs)(r:List Nat)(S:SL)(v:V):Option FI→Prop
 |some fi=>bif Nat.ble ars.length fi.ntmps then retP v (retV E.G (mkSt gl fi.ntmps S).tm (mkSt gl fi.ntmps S).H fi.res)∧vc P E sp none os0.length n fi.body hs ⟨⟨Qdv (blank fi.ntmps) 0 ars,gl,fi.ntmps⟩,ofOs .e 0 os0,os0.length,[]⟩ (kFinH os0.length fi.ntmps r S)else False
 |none=>False
noncomputable def vcFnH(P:Program)(E:Env)(sp:Qdl)(gl:T (List V))(n f:Nat)(os0:List O)(ars:List V)(hs:Hs)(r:List Nat)(S:SL)(v:V):Prop:=vcFiH P E sp gl n os0 ars hs r S v (E.code f)
theorem Qml: ∀(os:List O)(t:T O)(k i:Nat),k≤i→i<k+os.length→(ofOs t k os).get i=os[i-k]?
 |[],_,_,_,h1,h2=>by simp at h2;omega
 | o :: os, t, k, i, h1, h2 => by
  rw[ofOs]
  by_cases hi:i=k
  ·subst hi
   have: ∀(os:List O)(t:T O)(j i:Nat),i<j→(ofOs t j os).get i=t.get i:=by
    intro os
    induction os with
    |nil=>intro t j i _;rfl
    |cons o os ih=>
     intro t j i h
     rw[ofOs,ih _ _ _ (by omega),pt_eq,T.get_put,if_neg (by omega)]
   rw[this _ _ _ _ (by omega),pt_eq,T.get_put,if_pos rfl]
   simp
  ·rw [Qml os _ _ _ (by omega) (by simp at h2; omega)]
   rw[show i-k=(i-(k+1))+1 by omega,List.getElem?_cons_succ]
theorem Qop{os:List O}{i:Nat}(h:os.length≤i):(ofOs .e 0 os).get i=none:=by
 cases hg:(ofOs .e 0 os).get i with
 |none=>rfl
 | some o =>
  rcases ofOs_get os .e 0 i o hg with⟨_,h2⟩|h2
  ·have := (List.getElem?_eq_some_iff.1 h2).1
   omega
  ·cases h2
theorem CallSpec.of_vcH{P:Program}{E:Env}{sp:Qdl}(hE:E.Ok P)(hm:P.follows .mixedOrders=true){gl:T (List V)}(hsp:Qbg P gl sp){n f:Nat}{os0:List O}{ars:List V}{hs:Hs}{r:List Nat}{S:SL}{v:V}(hle:os0.length≤S.os.length)(hsame: ∀i,i<os0.length→i∉S.lg→S.os[i]? =os0[i]?)(h:vcFnH P E sp gl n f os0 ars hs r S v):CallSpec P gl (.fn f []) ars (ofOs .e 0 os0) os0.length ⟨v,ofOs .e 0 S.os,S.os.length,S.lg⟩:=by
 unfold vcFnH vcFiH at h
 split at h
 ·rename_i fi hfi
  obtain⟨hb,hret,hv⟩:=Qai h
  have hret':retV E.G (mkSt gl fi.ntmps S).tm (mkSt gl fi.ntmps S).H fi.res=some v:=by
   unfold retP at hret
   split at hret
   ·rename_i u e;rw[e,hret]
   ·exact hret.elim
  rw[Qca]at hv
  have hlog:Log (ofOs .e 0 os0).get os0.length (ofOs .e 0 S.os).get S.os.length S.lg:=by
   refine⟨hle,fun i hi hn=>?_⟩
   by_cases h1:i<os0.length
   ·rw [Qml _ _ _ _ (Nat.zero_le _) (by omega), Qml _ _ _ _ (Nat.zero_le _) (by omega), Nat.sub_zero]
    exact hsame i h1 hi
   ·rw[Qop (by omega),Qop (by omega)]
  refine CallSpec.fnC hE hfi (by rw[List.append_nil];exact hb) hlog (R:=fun e st=>(e= .normal∨e= .ret)∧st=mkSt gl fi.ntmps S) ?_ ?_
  ·rw [List.append_nil]
   refine Sat.gc_post (Sat.of_vc hE hm hsp rfl hv fun e hs' st' hg hk=>?_)
   unfold kFinH at hk
   have fin:(bif Nat.beq st'.tm.n fi.ntmps then gcP os0.length r st' S else False)→∃r st2,Gc os0.length r st' st2∧st2=mkSt gl fi.ntmps S:=by
    intro hk
    obtain⟨hb,hk⟩:=Qai hk
    exact⟨r,_,Qdj hk,by rw[hg,Nat.eq_of_beq_eq_true hb]⟩
   cases e with
   |exit=>exact hk.elim
   |normal=>obtain⟨r,st2,h1,h2⟩:=fin hk;exact⟨r,st2,h1,.inl rfl,h2⟩
   |ret=>obtain⟨r,st2,h1,h2⟩:=fin hk;exact⟨r,st2,h1,.inr rfl,h2⟩
  ·rintro e st ⟨he, rfl⟩
   exact⟨he,v,hret',fun s w ee w' _ _ hp=>hp⟩
 ·exact h.elim
theorem wru{z:Nat}(h:z<18446744073709551616):wr .u64 ((z:Nat):Int)=(z:Int):=Qe2 (by simp[lo]) (by simp[hi];omega)
theorem wru_mod(z:Nat):wr .u64 ((z:Nat):Int)=((z%18446744073709551616:Nat):Int):=by
 rw[wr_eq,IntKind.wrap_u64];omega
theorem Qly{G:Ctx}{t:Nat}{x:Nat}:binV G .and t (u6 (x:Int)) (u6 4294967295)=some (u6 ((x%4294967296:Nat):Int)):=by
 have h:(BitVec.ofInt 64 (x:Int)&&& BitVec.ofInt 64 4294967295).toNat=x%4294967296:=by
  rw[BitVec.toNat_and]
  have h1:(BitVec.ofInt 64 4294967295).toNat=2^32-1:=by decide
  rw[h1,Nat.and_two_pow_sub_one_eq_mod]
  have h2:(BitVec.ofInt 64 (x:Int)).toNat=x%2^64:=by
   rw[BitVec.toNat_ofInt];omega
  rw[h2];omega
 have hw:IntKind.u64.wrap ((x%4294967296:Nat):Int)=((x%4294967296:Nat):Int):=by
  rw[←wr_eq];exact wru (by omega)
 have e:binV G .and t (u6 (x:Int)) (u6 4294967295)=some (.int .u64 (IntKind.u64.wrap ((BitVec.ofInt 64 (x:Int)&&& BitVec.ofInt 64 4294967295).toNat:Int))):=rfl
 rw[e,h,hw]
theorem Qgu{G:Ctx}{t:Nat}{x:Nat}:binV G .shr t (u6 (x:Int)) (u6 32)=some (u6 ((x/4294967296:Nat):Int)):=by
 have h1:((32:Int)<0)=False:=by simp
 have h2:2^min (Int.toNat 32) IntKind.u64.bits=4294967296:=by decide
 simp only[binV,intV,h1,if_false,h2]
 rw[Int.fdiv_eq_ediv_of_nonneg _ (by omega)]
 rfl
theorem wru'{n:Int}{z:Nat}(e:n=(z:Int))(h:z<18446744073709551616):wr .u64 n=(z:Int):=by rw[e];exact wru h
abbrev mulV(x y:Nat):V:=.tup [u6 ((x*y/18446744073709551616:Nat):Int),u6 ((x*y%18446744073709551616:Nat):Int)]
theorem Qir(x y:Nat)(hx:x<18446744073709551616)(hy:y<18446744073709551616):FnOk Pg g0 113 [u6 x,u6 y] (mulV x y):=by
 show FnOk Pg g0 113 [u6 x,u6 y] (.tup [u6 ((x*y/18446744073709551616:Nat):Int),u6 ((x*y%18446744073709551616:Nat):Int)])
 obtain⟨h1,h2,h3,h4⟩:=Go.Lib.mul64_hi x y hx hy
 have x1:=@Qly (Qad Pg) 170 x
 have y1:=@Qly (Qad Pg) 170 y
 have x2:=@Qgu (Qad Pg) 170 x
 have y2:=@Qgu (Qad Pg) 170 y
 have hlo:=wru_mod (x*y)
 have hbh:x*y/18446744073709551616<18446744073709551616:=by
  rw[Nat.div_lt_iff_lt_mul (by omega)]
  have:=Qgc hx hy (c:=0) (by omega)
  omega
 generalize x*y/18446744073709551616=H at*
 have e0:((x*y:Nat):Int)=(x:Int)*(y:Int):=Int.natCast_mul x y
 rw[e0]at hlo
 generalize x*y%18446744073709551616=L at*
 have ha0:x%4294967296<4294967296:=Nat.mod_lt _ (by omega)
 have hb0:y%4294967296<4294967296:=Nat.mod_lt _ (by omega)
 have ha1:x/4294967296<4294967296:=by omega
 have hb1:y/4294967296<4294967296:=by omega
 generalize x%4294967296=a0 at*
 generalize x/4294967296=a1 at*
 generalize y%4294967296=b0 at*
 generalize y/4294967296=b1 at*
 have m00:(a0:Int)*(b0:Int)=((a0*b0:Nat):Int):=(Int.natCast_mul a0 b0).symm
 have m10:(a1:Int)*(b0:Int)=((a1*b0:Nat):Int):=(Int.natCast_mul a1 b0).symm
 have m01:(a0:Int)*(b1:Int)=((a0*b1:Nat):Int):=(Int.natCast_mul a0 b1).symm
 have m11:(a1:Int)*(b1:Int)=((a1*b1:Nat):Int):=(Int.natCast_mul a1 b1).symm
 have l00:=Go.Lib.half_mul_le (a:=a0) (b:=b0) (by omega) (by omega)
 have l10:=Go.Lib.half_mul_le (a:=a1) (b:=b0) (by omega) (by omega)
 have l01:=Go.Lib.half_mul_le (a:=a0) (b:=b1) (by omega) (by omega)
 have l11:=Go.Lib.half_mul_le (a:=a1) (b:=b1) (by omega) (by omega)
 generalize a0*b0=p at*
 generalize a1*b0=q at*
 generalize a0*b1=u at*
 generalize a1*b1=v at*
 have s1:=@Qgu (Qad Pg) 170 p
 obtain⟨t,ht⟩: ∃t,t=q+p/4294967296:=⟨_,rfl⟩
 have s2:=@Qly (Qad Pg) 170 t
 have s3:=@Qgu (Qad Pg) 170 t
 obtain⟨w1,hw1⟩: ∃w1,w1=t%4294967296+u:=⟨_,rfl⟩
 have s4:=@Qgu (Qad Pg) 170 w1
 refine FnOk.of_vc vE_ok mixed Qab (n:=1000) (r:=[]) (S:={sl:=[(4,u6 (H:Int)),(5,u6 (L:Int))]}) (hs:=[va 15 (u6 (a0:Int)),va 17 (u6 (a1:Int)),va 19 (u6 (b0:Int)),va 21 (u6 (b1:Int)),nu 24 (p:Int),nu 27 (q:Int),va 29 (u6 ((p/4294967296:Nat):Int)),nu 30 (t:Int),va 32 (u6 ((t%4294967296:Nat):Int)),va 34 (u6 ((t/4294967296:Nat):Int)),nu 38 (u:Int),nu 39 (w1:Int),nu 42 (v:Int),nu 44 ((v+t/4294967296:Nat):Int),va 46 (u6 ((w1/4294967296:Nat):Int)),nu 47 (H:Int),nu 50 (L:Int)]) ?_
 refine Eq.mp (by kernel_rfl:(let z0:=Qad Pg;let z1:=(↑(v+t/4294967296):Int);let z2:=u6 4294967295;let z3:=V.tup [u6 ↑H,u6 ↑L];let z4:=(↑H:Int);let z5:=(↑L:Int);An [z3=z3,binV z0 .and 170 (u6 ↑x) z2=some (u6 ↑a0),binV z0 .shr 170 (u6 ↑x) (u6 32)=some (u6 ↑a1),binV z0 .and 170 (u6 ↑y) z2=some (u6 ↑b0),binV z0 .shr 170 (u6 ↑y) (u6 32)=some (u6 ↑b1),wr .u64 ((↑a0:Int)*(↑b0:Int))=(↑p:Int),wr .u64 ((↑a1:Int)*(↑b0:Int))=(↑q:Int),binV z0 .shr 170 (u6 ↑p) (u6 32)=some (u6 ↑(p/4294967296)),wr .u64 ((↑q:Int)+(↑(p/4294967296):Int))=(↑t:Int),binV z0 .and 170 (u6 ↑t) z2=some (u6 ↑(t%4294967296)),binV z0 .shr 170 (u6 ↑t) (u6 32)=some (u6 ↑(t/4294967296)),wr .u64 ((↑a0:Int)*(↑b1:Int))=(↑u:Int),wr .u64 ((↑(t%4294967296):Int)+(↑u:Int))=(↑w1:Int),wr .u64 ((↑a1:Int)*(↑b1:Int))=(↑v:Int),wr .u64 ((↑v:Int)+(↑(t/4294967296):Int))=z1,binV z0 .shr 170 (u6 ↑w1) (u6 32)=some (u6 ↑(w1/4294967296)),wr .u64 (z1+(↑(w1/4294967296):Int))=z4,wr .u64 ((↑x:Int)*(↑y:Int))=z5,An [z4=z4,z5=z5,Tt],Tt])=_) ?_
 (repeat'(first|(with_reducible apply And.intro)|(refine fun(_:True)=>?_)))
 all_goals first|assumption|rfl|trivial|exact wru' (by omega) (by omega)|(rw[m00];exact wru (by omega))|(rw[m10];exact wru (by omega))|(rw[m01];exact wru (by omega))|(rw[m11];exact wru (by omega))|skip
def add64N:List V→Option V
 |[.int .u64 (.ofNat x),.int .u64 (.ofNat y),.int .u64 (.ofNat 0)]=>some (.tup [.int .u64 (.ofNat ((x+y)%18446744073709551616)),.int .u64 (.ofNat ((x+y)/18446744073709551616))])
 | _=>none
def extN(f:Nat)(l:List V):Option V:=bif Nat.beq f 114 then add64N l else none
theorem extN_ok:Qlv Tryd.prog extN:=by
 intro f l v h
 refine ext_ok f l v ?_
 unfold extN at h
 obtain⟨hf,k⟩:=Qak h
 unfold extF
 rw[hf,cond_true]
 unfold add64N at k
 split at k
 ·rename_i x y
  cases k
  unfold Qqq
  simp only[Int.ofNat_eq_natCast]
  rw[if_pos (by omega)]
  congr 5<;>omega
 ·cases k
noncomputable def vN:Env:=envOf Tryd.prog Qs0 extN
theorem Qgz:vN.Ok Tryd.prog:=env_ok plain Qk5 extN_ok
def wt(l:List Nat):List V:=l.map fun(x:Nat)=>u6 (x:Int)
theorem Quk(l:List Nat):(wt l).length=l.length:=by simp[wt]
theorem Qbb(l:List Nat):HfL (wt l):=Qb3 _ l (fun _=>trivial)
theorem Quj(l:List Nat)(x:Nat):wt (l++[x])=wt l++[u6 (x:Int)]:=by simp[wt]
theorem Qsc{l:List Nat}{k:Nat}(h:k<l.length):headF (dropF (0+k*1) (wt l))=some (u6 ((l.getD k 0:Nat):Int)):=by
 rw[Nat.zero_add,Nat.mul_one,Qat,wt,←List.map_drop,List.drop_eq_getElem_cons h,List.getD_eq_getElem?_getD,List.getElem?_eq_getElem h];rfl
theorem lay_wt{l:List Nat}{j x:Nat}(h:j<l.length):layE (0+j*1) (wt l) [u6 (x:Int)]=some (wt (l.set j x)):=by
 rw[Nat.zero_add,Nat.mul_one,Qd9,Quk]
 have:Nat.ble (j+[u6 (x:Int)].length) l.length=true:=Nat.ble_eq_true_of_le (by simp;omega)
 rw[this,cond_true]
 congr 1
 rw[List.set_eq_take_append_cons_drop,if_pos h]
 simp[wt,List.map_take,List.map_drop]
theorem Qk4{d w c:Nat}(hd:d<18446744073709551616)(hw:w<18446744073709551616)(hc:c<18446744073709551616):
  (d*w%18446744073709551616+c)%18446744073709551616=(d*w+c)%18446744073709551616∧d*w/18446744073709551616+(d*w%18446744073709551616+c)/18446744073709551616=(d*w+c)/18446744073709551616∧(d*w+c)/18446744073709551616<18446744073709551616:=by
 have:=Qgc hd hw hc
 generalize d*w=p at*
 omega
abbrev n1(f:Nat→Int)(x:Nat):List O:=[.row 41 none (arF f),.row 162 none [.sl 2 0 1 (some 0)],.row 170 none [u6 (x:Int)]]
theorem os3{i:Nat}{l:List Nat}(hi:i<3)(hn:i∉2::l):i=0∨i=1:=by
 have:i≠2:=fun h=>hn (by rw[h];exact List.mem_cons_self)
 omega
theorem Qoi(f:Nat→Int)(x w:Nat)(hx:x<18446744073709551616)(hw:w<18446744073709551616)(y:Nat)(hy:y=x*w%18446744073709551616)(hc:x*w/18446744073709551616=0):
  CallSpec Pg g0 (.fn 112 [.ptr 1 0]) [u6 (w:Int)] (ofOs .e 0 (n1 f x)) 3 ⟨.tup [],ofOs .e 0 (n1 f y),3,[2]⟩:=by
 refine CallSpec.caps ?_
 have hm:=Qir x w hx hw
 have hy2:y<18446744073709551616:=by omega
 rw[show mulV x w= .tup [u6 ((0:Nat):Int),u6 (y:Int)]by rw[mulV,hc,←hy]]at hm
 have hv:(y+0)%18446744073709551616=y:=by omega
 refine CallSpec.of_vcH (os0:=n1 f x) Qgz mixed Qab (n:=1000) (r:=[]) (S:={sl:=[],os:=n1 f y,lg:=[2],md:=[0,1,0]}) (hs:=[(0,.unroll 3),fn 20 (.tup [u6 ((0:Nat):Int),u6 (y:Int)]),nu 34 ((0:Nat):Int),no 38]) (by simp) (fun i hi hn=>?_) ?_
 ·rcases os3 hi hn with rfl|rfl<;>rfl
 refine Eq.mp (by kernel_rfl:(let z0:=(↑(0:Nat):Int);An [Sm (V.tup []),TT 2,FnOk Pg g0 113 [u6 ↑x,u6 ↑w] (V.tup [u6 ↑(0:Nat),u6 ↑y]),Tt,wr .u64 (z0+(↑((y+0)/18446744073709551616):Int))=z0,(z0 != (0:Int))=false,Tt,An [Sm (arF f),TT 18],An [An [Zz,1=1,Zz],Tt],An [[u6 ↑y]=[u6 (↑((y+0)%18446744073709551616):Int)],Tt,Tt],Tt])=_) ?_
 (repeat'(first|(with_reducible apply And.intro)|(refine fun(_:True)=>?_)))<;>first|exact aq|skip
 all_goals first|(refine wru' ?_ ?_<;>omega)|skip
theorem Qoj(f:Nat→Int)(x w:Nat)(hx:x<18446744073709551616)(hw:w<18446744073709551616)(y c:Nat)(hy:y=x*w%18446744073709551616)(hc:c=x*w/18446744073709551616)(hc0:c≠0):
  CallSpec Pg g0 (.fn 112 [.ptr 1 0]) [u6 (w:Int)] (ofOs .e 0 (n1 f x)) 3 ⟨.tup [],ofOs .e 0 [.row 41 none (arF f),.row 162 none [.sl 3 0 2 none],.dead,.row 170 (some 1) [u6 (y:Int),u6 (c:Int)]],4,[2,1]⟩:=by
 refine CallSpec.caps ?_
 have hm:=Qir x w hx hw
 have hp:=Qk4 hx hw (c:=0) (by omega)
 have hy2:y<18446744073709551616:=by omega
 have hc2:c<18446744073709551616:=by omega
 rw[show mulV x w= .tup [u6 ((c:Nat):Int),u6 (y:Int)]by rw[mulV,←hc,←hy]]at hm
 have hv:(y+0)%18446744073709551616=y:=by omega
 refine CallSpec.of_vcH (os0:=n1 f x) Qgz mixed Qab (n:=1000) (r:=[4]) (S:={sl:=[],os:=[.row 41 none (arF f),.row 162 none [.sl 3 0 2 none],.dead,.row 170 (some 1) [u6 (y:Int),u6 (c:Int)]],lg:=[2,1],md:=[0,1,0,0]}) (hs:=[(0,.unroll 3),fn 20 (.tup [u6 ((c:Nat):Int),u6 (y:Int)]),nu 34 (c:Int),yes 38]) (by simp) (fun i hi hn=>?_) ?_
 ·have : i = 0 := by
   rcases os3 hi hn with h|h
   ·exact h
   ·exact absurd (by rw[h];simp) hn
  subst this;rfl
 refine Eq.mp (by kernel_rfl:(let z0:=(↑c:Int);An [Sm (V.tup []),TT 2,FnOk Pg g0 113 [u6 ↑x,u6 ↑w] (V.tup [u6 ↑c,u6 ↑y]),Tt,wr .u64 (z0+(↑((y+0)/18446744073709551616):Int))=z0,(z0 != (0:Int))=true,Tt,An [Sm (arF f),TT 18],An [An [Zz,2=2,Tt],Tt],Tt,An [[u6 ↑y,u6 ↑c]=[u6 (↑((y+0)%18446744073709551616):Int)]++[u6 ↑c],TT 2],Tt])=_) ?_
 (repeat'(first|(with_reducible apply And.intro)|(refine fun(_:True)=>?_)))<;>first|exact aq|skip
 all_goals first|(refine wru' ?_ ?_<;>omega)|skip
abbrev acS(f:Nat→Int)(w n:Nat)(q:Nat×List Nat×Nat):SL:={sl:=[(0,u6 w),(1,.ptr 1 0),(3,u6 q.2.2),(10,.sl 2 0 n none),(11,i6 n),(12,i6 q.1)],os:=[.row 41 none (arF f),.row 162 none [.sl 2 0 n none],.row 170 (some 1) (wt q.2.1)],lg:=[2],md:=[0,1,0]}
abbrev acX(f:Nat→Int)(w n:Nat)(m:List Nat)(c:Nat):SL:={sl:=[(1,.ptr 1 0),(3,u6 c)],os:=[.row 41 none (arF f),.row 162 none [.sl 2 0 n none],.row 170 (some 1) (wt m)],lg:=[2],md:=[0,1,0]}
theorem Qk0(f:Nat→Int)(ws:List Nat)(w n:Nat)(hn:n=ws.length)(hn2:n≤100000)(hws:WOk ws)(hw:w<18446744073709551616):
  Sat Pg none 3 (at' 112 [1,0,1,0]) (mkSt g0 43 (acS f w n (0,ws,0))) (Qaf g0 43 [(True,.exit 0,acX f w n (mulS w ws n).1 (mulS w ws n).2)]):=by
 refine Qa2 Qgz mixed Qab (b:=at' 112 [1,0,1,0,0]) (by kernel_rfl) (fun q=>q.1≤n∧q.2.1=(mulS w ws q.1).1∧q.2.2=(mulS w ws q.1).2) (acS f w n) (fun q=>n-q.1) (fun q hq=>?_) (0,ws,0) ⟨Nat.zero_le _,rfl,rfl⟩
 obtain⟨i,m,c⟩:=q
 obtain⟨hi,hmm,hcc⟩:=hq
 dsimp only at hi hmm hcc
 have ho:=Qmj hws hw i (by omega)
 rw[←hmm,←hcc]at ho
 have hlen:=ho.len
 have hcb:=ho.carry
 by_cases hlt:i<n
 ·have hat := mulS_at w ws i
  rw[←hmm]at hat
  have hd:=hws i
  have h1:=Qsc (l:=m) (k:=i) (by omega)
  rw[hat]at h1
  have e1:(mulS w ws (i+1)).1=m.set i ((ws.getD i 0*w+c)%18446744073709551616):=by rw[mulS,←hmm,←hcc]
  have e2:(mulS w ws (i+1)).2=(ws.getD i 0*w+c)/18446744073709551616:=by rw[mulS,←hcc]
  have hp:=Qk4 hd hw hcb
  have hml:FnOk Pg g0 113 [u6 (ws.getD i 0:Nat),u6 w] (.tup [u6 ((ws.getD i 0*w/18446744073709551616:Nat):Int),u6 ((ws.getD i 0*w%18446744073709551616:Nat):Int)]):=Qir (ws.getD i 0) w hd hw
  have hlay:=lay_wt (l:=m) (j:=i) (x:=(ws.getD i 0*w+c)%18446744073709551616) (by omega)
  obtain⟨m',hm'⟩: ∃m',m'=(mulS w ws (i+1)).1:=⟨_,rfl⟩
  rw[←e1,←hm']at hlay
  generalize ws.getD i 0=d at*
  generalize hc':(d*w+c)/18446744073709551616=c' at*
  generalize hs':(d*w+c)%18446744073709551616=s' at*
  generalize d*w/18446744073709551616=H at*
  generalize d*w%18446744073709551616=L at*
  obtain⟨p1,p2,p3⟩:=hp
  subst p1
  refine .inl ⟨(i+1,m',c'),[],[yes 13,pl 15,ld 16 (u6 d),fn 20 (.tup [u6 ((H:Nat):Int),u6 (L:Int)]),nu 34 (c':Int),pl 35,st (wt m'),nu 36 (i+1:Nat)],1000,⟨hlt,hm',e2.symm⟩,by dsimp only;omega,?_⟩
  clear hc' hmm hcc ho e1 e2 hm'
  refine Eq.mp (by kernel_rfl:(let z0:=(↑i:Int);let z1:=(↑n:Int);let z2:=(↑(i+1):Int);let z3:=(↑c':Int);An [decide (z0<z1)=true,An [(0:Int)≤z0,z0<z1],headF (dropF (0+i*1) (wt m))=some (u6 ↑d),TT 2,FnOk Pg g0 113 [u6 ↑d,u6 ↑w] (V.tup [u6 ↑H,u6 ↑L]),Tt,wr .u64 ((↑H:Int)+(↑((L+c)/18446744073709551616):Int))=z3,An [(0:Int)≤z0,z0<z1],layE (0+i*1) (wt m) [u6 (↑((L+c)%18446744073709551616):Int)]=some (wt m'),wr .i64 (z0+(1:Int))=z2,An [Sm (↑w:Int),Zz,z3=z3,An [Zz,n=n,Tt],z1=z1,z2=z2,Tt],An [Sm (arF f),TT 18],An [An [Zz,n=n,Tt],Tt],An [Sm (wt m'),HfL (wt m')],Tt])=_) ?_
  (repeat'(first|(with_reducible apply And.intro)|(refine fun(_:True)=>?_)))<;>first|exact aq|skip
  all_goals first|(refine wru' ?_ ?_<;>omega)|exact Qbb _|skip
 ·have : i = n := by omega
  subst this
  rw[←hmm,←hcc]
  refine .inr ⟨.exit 0,[],acX f w i m c,[no 13],1000,.inl ⟨trivial,rfl,rfl⟩,?_⟩
  clear hmm hcc
  refine Eq.mp (by kernel_rfl:(An [decide ((↑i:Int)<(↑i:Int))=false,An [Zz,Sm (↑c:Int),Tt],An [Sm (arF f),TT 18],An [An [Zz,i=i,Tt],Tt],An [Sm (wt m),HfL (wt m)],Tt])=_) ?_
  (repeat'(first|(with_reducible apply And.intro)|(refine fun(_:True)=>?_)))<;>first|exact aq|skip
  all_goals first|exact Qbb _|skip
theorem mul_M0(f:Nat→Int)(ws:List Nat)(w n:Nat)(hn:n=ws.length)(hn2:n≤100000)(hws:WOk ws)(hw:w<18446744073709551616)(m:List Nat)(hm:m=(mulS w ws n).1)(hc:(mulS w ws n).2=0):
  CallSpec Pg g0 (.fn 112 [.ptr 1 0]) [u6 (w:Int)] (ofOs .e 0 [.row 41 none (arF f),.row 162 none [.sl 2 0 n none],.row 170 (some 1) (wt ws)]) 3 ⟨.tup [],ofOs .e 0 [.row 41 none (arF f),.row 162 none [.sl 2 0 n none],.row 170 (some 1) (wt m)],3,[2]⟩:=by
 refine CallSpec.caps ?_
 have l:=Qk0 f ws w n hn hn2 hws hw
 rw[←hm,hc]at l
 refine CallSpec.of_vcH (os0:=[.row 41 none (arF f),.row 162 none [.sl 2 0 n none],.row 170 (some 1) (wt ws)]) Qgz mixed Qab (n:=1000) (r:=[]) (S:={sl:=[],os:=[.row 41 none (arF f),.row 162 none [.sl 2 0 n none],.row 170 (some 1) (wt m)],lg:=[2],md:=[0,1,0]}) (hs:=[(0,.loop [] (acS f w n (0,ws,0)) [(True,.exit 0,acX f w n m 0)]),no 38]) (by simp) (fun i hi hn=>?_) ?_
 ·rcases os3 hi hn with rfl|rfl<;>rfl
 clear hm hc
 refine Eq.mp (by kernel_rfl:(let z1:=An [Sm (arF f),TT 18];let z0:=(↑(0:Nat):Int);An [Sm (V.tup []),An [An [Sm (↑w:Int),Zz,z0=(0:Int),An [Zz,n=n,Tt],Sm (↑n:Int),z0=(0:Int),Tt],z1,An [An [Zz,n=n,Tt],Tt],An [Sm (wt ws),HfL (wt ws)],Tt],Sat Pg none 3 (at' 112 [1,0,1,0]) (mkSt g0 43 (acS f w n (0,ws,0))) (Qaf g0 43 [(True,Ex.exit 0,acX f w n m 0)]),(True→An [(z0 != (0:Int))=false,Tt,z1,An [An [Zz,n=n,Tt],Tt],An [Sm (wt m),HfL (wt m)],Tt]),Tt])=_) ?_
 (repeat'(first|(with_reducible apply And.intro)|(refine fun(_:True)=>?_)))<;>first|exact aq|skip
 all_goals first|exact Qbb _|skip
theorem mul_M1(f:Nat→Int)(ws:List Nat)(w n:Nat)(hn:n=ws.length)(hn2:n≤100000)(hws:WOk ws)(hw:w<18446744073709551616)(m:List Nat)(c:Nat)(hm:m=(mulS w ws n).1)(hc:c=(mulS w ws n).2)(hc0:c≠0):
  CallSpec Pg g0 (.fn 112 [.ptr 1 0]) [u6 (w:Int)] (ofOs .e 0 [.row 41 none (arF f),.row 162 none [.sl 2 0 n none],.row 170 (some 1) (wt ws)]) 3 ⟨.tup [],ofOs .e 0 [.row 41 none (arF f),.row 162 none [.sl 3 0 (n+1) none],.dead,.row 170 (some 1) (wt m++[u6 (c:Int)])],4,[2,1]⟩:=by
 refine CallSpec.caps ?_
 have l:=Qk0 f ws w n hn hn2 hws hw
 have hml:=Qbr w ws n
 rw[←hm]at hml
 rw[←hm,←hc]at l
 have hwl:=Quk m
 refine CallSpec.of_vcH (os0:=[.row 41 none (arF f),.row 162 none [.sl 2 0 n none],.row 170 (some 1) (wt ws)]) Qgz mixed Qab (n:=1000) (r:=[4]) (S:={sl:=[],os:=[.row 41 none (arF f),.row 162 none [.sl 3 0 (n+1) none],.dead,.row 170 (some 1) (wt m++[u6 (c:Int)])],lg:=[2,1],md:=[0,1,0,0]}) (hs:=[(0,.loop [] (acS f w n (0,ws,0)) [(True,.exit 0,acX f w n m c)]),yes 38,ap 42]) (by simp) (fun i hi hn=>?_) ?_
 ·have : i = 0 := by
   rcases os3 hi hn with h|h
   ·exact h
   ·exact absurd (by rw[h];simp) hn
  subst this;rfl
 clear hm hc
 have hf:HfL (wt m++[u6 (c:Int)]):=by have:=Qbb (m++[c]);rwa [Quj]at this
 refine Eq.mp (by kernel_rfl:(let z0:=An [Sm (arF f),TT 18];An [Sm (V.tup []),An [An [Sm (↑w:Int),Zz,(↑(0:Nat):Int)=(0:Int),An [Zz,n=n,Tt],Sm (↑n:Int),(↑(0:Nat):Int)=(0:Int),Tt],z0,An [An [Zz,n=n,Tt],Tt],An [Sm (wt ws),HfL (wt ws)],Tt],Sat Pg none 3 (at' 112 [1,0,1,0]) (mkSt g0 43 (acS f w n (0,ws,0))) (Qaf g0 43 [(True,Ex.exit 0,acX f w n m c)]),(True→An [((↑c:Int) != (0:Int))=true,List.length (wt m)=n*1,n+1≤9223372036854775807,(n+1)*8≤140737488355328,Tt,z0,An [An [Zz,Sm (n+1),Tt],Tt],Tt,An [Sm (wt m++[u6 ↑c]),HfL (wt m++[u6 ↑c])],Tt]),Tt])=_) ?_
 (repeat'(first|(with_reducible apply And.intro)|(refine fun(_:True)=>?_)))<;>first|exact aq|skip
 all_goals first|exact Qbb _|skip
def Qtw(p w:Nat)(md:Bool)(ws:List Nat):Nat×Bool×List Nat:=if 144115188075855872<w then(p,md||decide ((mulS w ws ws.length).2≠0),mulW w ws)else(w*p,md,ws)
def itQ(p:Nat):Nat→Nat×Bool×List Nat→Nat×Bool×List Nat
 |0,s=>s
 |t+1,s=>Qtw p (itQ p t s).1 (itQ p t s).2.1 (itQ p t s).2.2
def outQ(e:Nat→Nat):Nat→Nat×Bool×List Nat
 |0=>(1,false,[1])
 |i+1=>itQ (primeN i) (e i) (outQ e i)
structure QOk(e:Nat→Nat)(i t:Nat)(s:Nat×Bool×List Nat):Prop where
 norm:Norm s.2.2
 val:valW s.2.2*s.1=Qaw e i*primeN i^t
 w1:1≤s.1
 wb:s.1≤8791026472627208192
 len:s.2.2.length≤1+4000*i+t
 one:s.2.1=false→s.2.2.length=1
theorem Qsw{w:Nat}{l:List Nat}(h:(mulS w l l.length).2=0):(mulW w l).length=l.length:=by
 unfold mulW;rw[if_pos h,Qbr]
theorem QOk.step{e:Nat→Nat}{i t:Nat}{s:Nat×Bool×List Nat}(h:QOk e i t s):QOk e i (t+1) (Qtw (primeN i) s.1 s.2.1 s.2.2):=by
 obtain⟨w,md,ws⟩:=s
 have hp:=Qef i
 have hv:=h.val
 have hw:=h.w1
 have hb:=h.wb
 have hl:=h.len
 dsimp only at hv hw hb hl
 unfold Qtw
 dsimp only
 by_cases hc:144115188075855872<w
 ·rw [if_pos hc]
  obtain⟨m1,m2,m3⟩:=Qsx h.norm (w:=w) (by omega) hw
  dsimp only at m1 m2 m3
  refine⟨m1,?_,by dsimp only;omega,by dsimp only;omega,by dsimp only;omega,fun ho=>?_⟩
  ·dsimp only
   rw[m2,Nat.mul_comm w,hv,Nat.pow_succ,Nat.mul_assoc]
  ·dsimp only at ho ⊢
   rw[Bool.or_eq_false_iff]at ho
   have h0:(mulS w ws ws.length).2=0:=by
    have:=of_decide_eq_false ho.2
    omega
   rw[Qsw h0]
   exact h.one ho.1
 ·rw [if_neg hc]
  have hle:w*primeN i≤144115188075855872*61:=Nat.mul_le_mul (by omega) hp.2
  refine⟨h.norm,?_,Nat.mul_pos (by omega) (by omega),by dsimp only;omega,by dsimp only;omega,h.one⟩
  dsimp only
  rw[←Nat.mul_assoc,hv,Nat.pow_succ,Nat.mul_assoc]
theorem QOk.it{e:Nat→Nat}{i:Nat}{s:Nat×Bool×List Nat}(h:QOk e i 0 s): ∀t,QOk e i t (itQ (primeN i) t s)
 |0=>h
 |t+1=>(QOk.it h t).step
theorem QOk.next{e:Nat→Nat}{i:Nat}{s:Nat×Bool×List Nat}(he:e i≤4000)(h:QOk e i (e i) s):QOk e (i+1) 0 s:=by
 refine⟨h.norm,?_,h.w1,h.wb,?_,h.one⟩
 ·rw[h.val,Qaw,Nat.pow_zero,Nat.mul_one]
 ·have:=h.len;omega
theorem Qmm{e:Nat→Nat}(he: ∀i,i<18→e i≤4000): ∀i,i≤18→QOk e i 0 (outQ e i)
 |0,_=>⟨norm_one,by simp[outQ,valW,Qaw],by simp[outQ],by simp[outQ],by simp[outQ],fun _=>rfl⟩
 |i+1,h=>((Qmm he i (by omega)).it (e i)).next (he i (by omega))
def bxV:Bool→Nat→V
 |false,_=>.sl 2 0 1 (some 0)
 |true,n=>.sl 2 0 n none
def bxO:Bool→List Nat→O
 |false,l=>.row 170 none (wt l)
 |true,l=>.row 170 (some 1) (wt l)
theorem Qis(w x:Nat):mulS w [x] 1=([x*w%18446744073709551616],x*w/18446744073709551616):=by simp[mulS]
theorem Qk2{w x:Nat}(h:x*w/18446744073709551616=0):mulW w [x]=[x*w%18446744073709551616]:=by
 unfold mulW
 simp only[List.length_singleton,Qis]
 rw[if_pos h]
theorem Qk3{w x:Nat}(h:x*w/18446744073709551616≠0):mulW w [x]=[x*w%18446744073709551616,x*w/18446744073709551616]:=by
 unfold mulW
 simp only[List.length_singleton,Qis]
 rw[if_neg h];rfl
abbrev aoL(f:Nat→Int)(md:Bool)(ws:List Nat):List O:=[.row 41 none (arF f),.row 162 none [bxV md ws.length],bxO md ws]
abbrev aiS(f:Nat→Int)(s:Int)(i e p:Nat)(q:Nat×Nat×Bool×List Nat):SL:={sl:=[(1,i6 s),(2,.ptr 0 0),(5,.ptr 1 0),(6,.fn 112 [.ptr 1 0]),(7,u6 q.2.1),(12,prV),(13,i6 i),(9,i6 p),(22,i6 e),(23,i6 q.1)],os:=aoL f q.2.2.1 q.2.2.2,md:=[0,1,0]}
abbrev aoS(f:Nat→Int)(s:Int)(i:Nat)(w:Nat)(md:Bool)(ws:List Nat):SL:={sl:=[(1,i6 s),(2,.ptr 0 0),(5,.ptr 1 0),(6,.fn 112 [.ptr 1 0]),(7,u6 w),(12,prV),(13,i6 i)],os:=aoL f md ws,md:=[0,1,0]}
theorem wtw{x p:Nat}(h:x*p<18446744073709551616):wr .u64 ((x:Int)*(p:Int))=((x*p:Nat):Int):=wru' (by rw[Int.natCast_mul]) h
theorem av_in(f:Nat→Int)(s:Int)(E:Nat→Nat)(i e:Nat)(hi:i<18)(he:e=E i)(he4:e≤4000)(s0:Nat×Bool×List Nat)(h0:QOk E i 0 s0)(w':Nat)(md':Bool)(ws':List Nat)(hx:itQ (primeN i) e s0=(w',md',ws'))(w0:Nat)(md0:Bool)(ws0:List Nat)(hs0:s0=(w0,md0,ws0)):
  Sat Pg none 0 (at' 93 [1,1,1,1,0,1,0,0,1,1,0,0,1,1,0]) (mkSt g0 40 (aiS f s i e (primeN i) (0,w0,md0,ws0))) (Qaf g0 40 [(True,.exit 2,aoS f s i w' md' ws')]):=by
 refine Qa2 Qgz mixed Qab (b:=at' 93 [1,1,1,1,0,1,0,0,1,1,0,0,1,1,0,0]) (by kernel_rfl) (fun q=>q.1≤e∧q.2=itQ (primeN i) q.1 s0) (aiS f s i e (primeN i)) (fun q=>e-q.1) (fun q hq=>?_) (0,w0,md0,ws0) ⟨Nat.zero_le _,hs0.symm⟩
 obtain⟨t,w,md,ws⟩:=q
 obtain⟨ht,hq⟩:=hq
 dsimp only at ht hq
 have hok:=h0.it t
 rw[←hq]at hok
 have hw1:=hok.w1
 have hwb:=hok.wb
 have hlen:=hok.len
 have hone:=hok.one
 have hnorm:=hok.norm
 dsimp only at hw1 hwb hlen hone hnorm
 have hp:=Qef i
 by_cases hlt:t<e
 ·have hnx : itQ (primeN i) (t + 1) s0 = Qtw (primeN i) w md ws := by rw [itQ, ← hq]
  unfold Qtw at hnx
  generalize primeN i=p at*
  by_cases hc:144115188075855872<w
  ·rw [if_pos hc] at hnx
   have h1p:=wtw (x:=1) (p:=p) (by omega)
   cases md with
   | false =>
    obtain⟨x,rfl⟩: ∃x,ws=[x]:=List.length_eq_one_iff.1 (hone rfl)
    have hxb:x<18446744073709551616:=by simpa using hnorm.ok 0
    simp only[List.length_singleton,Qis,Bool.false_or]at hnx
    by_cases hc0:x*w/18446744073709551616=0
    ·rw [Qk2 hc0, decide_eq_false (by omega)] at hnx
     have hcs:=Qoi f x w hxb (by omega) _ rfl hc0
     generalize x*w%18446744073709551616=y at*
     refine .inl ⟨(t+1,p,false,[y]),[0,1,2],[yes 24,yes 26,(29,.call ⟨.tup [],ofOs .e 0 (n1 f y),3,[2]⟩),nu 32 (p:Nat),nu 33 ((1*p:Nat):Int),nu 34 (t+1:Nat)],1000,⟨hlt,hnx.symm⟩,by dsimp only;omega,?_⟩
     clear hq hnx hok
     refine Eq.mp (by kernel_rfl:(let z0:=(↑p:Int);let z1:=(↑(t+1):Int);let z2:=(↑e:Int);An [decide ((↑t:Int)<z2)=true,decide ((↑w:Int)>(144115188075855872:Int))=true,CallSpec Pg g0 (V.fn 112 [V.ptr 1 0]) [u6 ↑w] (ofOs T.e 0 (aoL f false [x])) 3 (CR.mk (V.tup []) (ofOs T.e 0 (n1 f y)) 3 [2]),Tt,wr .u64 z0=z0,wr .u64 ((1:Int)*z0)=(↑(1*p):Int),wr .i64 ((↑t:Int)+(1:Int))=z1,An [s=s,Zz,Zz,An [Zz,Tt],z0=(↑(1*p):Int),An [Sm (2:Int),Sm (3:Int),Sm (5:Int),Sm (7:Int),Sm (11:Int),Sm (13:Int),Sm (17:Int),Sm (19:Int),Sm (23:Int),Sm (29:Int),Sm (31:Int),Sm (37:Int),Sm (41:Int),Sm (43:Int),Sm (47:Int),Sm (53:Int),Sm (59:Int),Sm (61:Int),Tt],Sm (↑i:Int),z0=z0,z2=z2,z1=z1,Tt],An [Sm (arF f),TT 18],An [An [Zz,1=1,Zz],Tt],An [wt [y]=[u6 ↑y],Tt,Tt],Tt])=_) ?_
     (repeat'(first|(with_reducible apply And.intro)|(refine fun(_:True)=>?_)))<;>first|exact aq|skip
     all_goals first|exact hcs|exact rfl|exact wru (by omega)|exact h1p|skip
    ·rw [Qk3 hc0, decide_eq_true hc0] at hnx
     have hcs:=Qoj f x w hxb (by omega) _ _ rfl rfl hc0
     generalize x*w%18446744073709551616=y at*
     generalize x*w/18446744073709551616=c at*
     refine .inl ⟨(t+1,p,true,[y,c]),[0,1,3],[yes 24,yes 26,(29,.call ⟨.tup [],ofOs .e 0 [.row 41 none (arF f),.row 162 none [.sl 3 0 2 none],.dead,.row 170 (some 1) [u6 (y:Int),u6 (c:Int)]],4,[2,1]⟩),nu 32 (p:Nat),nu 33 ((1*p:Nat):Int),nu 34 (t+1:Nat)],1000,⟨hlt,hnx.symm⟩,by dsimp only;omega,?_⟩
     clear hq hnx hok
     refine Eq.mp (by kernel_rfl:(let z0:=(↑p:Int);let z1:=(↑(t+1):Int);let z2:=(↑e:Int);An [decide ((↑t:Int)<z2)=true,decide ((↑w:Int)>(144115188075855872:Int))=true,CallSpec Pg g0 (V.fn 112 [V.ptr 1 0]) [u6 ↑w] (ofOs T.e 0 (aoL f false [x])) 3 (CR.mk (V.tup []) (ofOs T.e 0 [O.row 41 none (arF f),O.row 162 none [V.sl 3 0 2 none],O.dead,O.row 170 (some 1) [u6 ↑y,u6 ↑c]]) 4 [2,1]),Tt,wr .u64 z0=z0,wr .u64 ((1:Int)*z0)=(↑(1*p):Int),wr .i64 ((↑t:Int)+(1:Int))=z1,An [s=s,Zz,Zz,An [Zz,Tt],z0=(↑(1*p):Int),An [Sm (2:Int),Sm (3:Int),Sm (5:Int),Sm (7:Int),Sm (11:Int),Sm (13:Int),Sm (17:Int),Sm (19:Int),Sm (23:Int),Sm (29:Int),Sm (31:Int),Sm (37:Int),Sm (41:Int),Sm (43:Int),Sm (47:Int),Sm (53:Int),Sm (59:Int),Sm (61:Int),Tt],Sm (↑i:Int),z0=z0,z2=z2,z1=z1,Tt],An [Sm (arF f),TT 18],An [An [Zz,2=2,Tt],Tt],An [wt [y,c]=[u6 ↑y,u6 ↑c],TT 2],Tt])=_) ?_
     (repeat'(first|(with_reducible apply And.intro)|(refine fun(_:True)=>?_)))<;>first|exact aq|skip
     all_goals first|exact hcs|exact rfl|exact wru (by omega)|exact h1p|skip
   | true =>
    simp only[Bool.true_or]at hnx
    obtain⟨n,hn⟩: ∃n,n=ws.length:=⟨_,rfl⟩
    have hwl:=Quk
    by_cases hc0:(mulS w ws n).2=0
    ·have hcs := mul_M0 f ws w n hn (by omega) hnorm.ok (by omega) _ rfl hc0
     have hml:=Qbr w ws n
     rw[show mulW w ws=(mulS w ws n).1 by unfold mulW;rw[←hn,if_pos hc0]]at hnx
     generalize (mulS w ws n).1=m at*
     refine .inl ⟨(t+1,p,true,m),[0,1,2],[yes 24,yes 26,(29,.call ⟨.tup [],ofOs .e 0 [.row 41 none (arF f),.row 162 none [.sl 2 0 n none],.row 170 (some 1) (wt m)],3,[2]⟩),nu 32 (p:Nat),nu 33 ((1*p:Nat):Int),nu 34 (t+1:Nat)],1000,⟨hlt,hnx.symm⟩,by dsimp only;omega,?_⟩
     clear hq hnx hok
     subst hn
     refine Eq.mp (by kernel_rfl:(let z0:=(↑p:Int);let z1:=(↑(t+1):Int);let z2:=(↑e:Int);An [decide ((↑t:Int)<z2)=true,decide ((↑w:Int)>(144115188075855872:Int))=true,CallSpec Pg g0 (V.fn 112 [V.ptr 1 0]) [u6 ↑w] (ofOs T.e 0 (aoL f true ws)) 3 (CR.mk (V.tup []) (ofOs T.e 0 [O.row 41 none (arF f),O.row 162 none [V.sl 2 0 ws.length none],O.row 170 (some 1) (wt m)]) 3 [2]),Tt,wr .u64 z0=z0,wr .u64 ((1:Int)*z0)=(↑(1*p):Int),wr .i64 ((↑t:Int)+(1:Int))=z1,An [s=s,Zz,Zz,An [Zz,Tt],z0=(↑(1*p):Int),An [Sm (2:Int),Sm (3:Int),Sm (5:Int),Sm (7:Int),Sm (11:Int),Sm (13:Int),Sm (17:Int),Sm (19:Int),Sm (23:Int),Sm (29:Int),Sm (31:Int),Sm (37:Int),Sm (41:Int),Sm (43:Int),Sm (47:Int),Sm (53:Int),Sm (59:Int),Sm (61:Int),Tt],Sm (↑i:Int),z0=z0,z2=z2,z1=z1,Tt],An [Sm (arF f),TT 18],An [An [Zz,m.length=ws.length,Tt],Tt],An [Sm (wt m),HfL (wt m)],Tt])=_) ?_
     (repeat'(first|(with_reducible apply And.intro)|(refine fun(_:True)=>?_)))<;>first|exact aq|skip
     all_goals first|exact hcs|exact Qbb _|exact wru (by omega)|exact h1p|skip
    ·have hcs := mul_M1 f ws w n hn (by omega) hnorm.ok (by omega) _ _ rfl rfl hc0
     have hml:=Qbr w ws n
     rw[show mulW w ws=(mulS w ws n).1++[(mulS w ws n).2]by unfold mulW;rw[←hn,if_neg hc0]]at hnx
     generalize (mulS w ws n).1=m at*
     generalize (mulS w ws n).2=c at*
     rw[←Quj]at hcs
     have hl2:(m++[c]).length=n+1:=by simp;omega
     generalize m++[c]=m' at*
     refine .inl ⟨(t+1,p,true,m'),[0,1,3],[yes 24,yes 26,(29,.call ⟨.tup [],ofOs .e 0 [.row 41 none (arF f),.row 162 none [.sl 3 0 (n+1) none],.dead,.row 170 (some 1) (wt m')],4,[2,1]⟩),nu 32 (p:Nat),nu 33 ((1*p:Nat):Int),nu 34 (t+1:Nat)],1000,⟨hlt,hnx.symm⟩,by dsimp only;omega,?_⟩
     clear hq hnx hok
     subst hn
     refine Eq.mp (by kernel_rfl:(let z0:=(↑p:Int);let z1:=(↑(t+1):Int);let z2:=(↑e:Int);An [decide ((↑t:Int)<z2)=true,decide ((↑w:Int)>(144115188075855872:Int))=true,CallSpec Pg g0 (V.fn 112 [V.ptr 1 0]) [u6 ↑w] (ofOs T.e 0 (aoL f true ws)) 3 (CR.mk (V.tup []) (ofOs T.e 0 [O.row 41 none (arF f),O.row 162 none [V.sl 3 0 (ws.length+1) none],O.dead,O.row 170 (some 1) (wt m')]) 4 [2,1]),Tt,wr .u64 z0=z0,wr .u64 ((1:Int)*z0)=(↑(1*p):Int),wr .i64 ((↑t:Int)+(1:Int))=z1,An [s=s,Zz,Zz,An [Zz,Tt],z0=(↑(1*p):Int),An [Sm (2:Int),Sm (3:Int),Sm (5:Int),Sm (7:Int),Sm (11:Int),Sm (13:Int),Sm (17:Int),Sm (19:Int),Sm (23:Int),Sm (29:Int),Sm (31:Int),Sm (37:Int),Sm (41:Int),Sm (43:Int),Sm (47:Int),Sm (53:Int),Sm (59:Int),Sm (61:Int),Tt],Sm (↑i:Int),z0=z0,z2=z2,z1=z1,Tt],An [Sm (arF f),TT 18],An [An [Zz,m'.length=ws.length+1,Tt],Tt],An [Sm (wt m'),HfL (wt m')],Tt])=_) ?_
     (repeat'(first|(with_reducible apply And.intro)|(refine fun(_:True)=>?_)))<;>first|exact aq|skip
     all_goals first|exact hcs|exact Qbb _|exact wru (by omega)|exact h1p|skip
  ·rw [if_neg hc] at hnx
   have hle:w*p≤144115188075855872*61:=Nat.mul_le_mul (by omega) hp.2
   have h1p:=wtw (x:=w) (p:=p) (by omega)
   generalize w*p=wp at*
   cases md with
   |false=>
    obtain⟨x,rfl⟩: ∃x,ws=[x]:=List.length_eq_one_iff.1 (hone rfl)
    refine .inl ⟨(t+1,wp,false,[x]),[0,1,2],[yes 24,no 26,nu 32 (p:Nat),nu 33 (wp:Nat),nu 34 (t+1:Nat)],1000,⟨hlt,hnx.symm⟩,by dsimp only;omega,?_⟩
    clear hq hnx hok
    refine Eq.mp (by kernel_rfl:(let z0:=(↑p:Int);let z1:=(↑(t+1):Int);let z2:=(↑wp:Int);let z3:=(↑e:Int);An [decide ((↑t:Int)<z3)=true,decide ((↑w:Int)>(144115188075855872:Int))=false,wr .u64 z0=z0,wr .u64 ((↑w:Int)*z0)=z2,wr .i64 ((↑t:Int)+(1:Int))=z1,An [s=s,Zz,Zz,An [Zz,Tt],z2=z2,An [Sm (2:Int),Sm (3:Int),Sm (5:Int),Sm (7:Int),Sm (11:Int),Sm (13:Int),Sm (17:Int),Sm (19:Int),Sm (23:Int),Sm (29:Int),Sm (31:Int),Sm (37:Int),Sm (41:Int),Sm (43:Int),Sm (47:Int),Sm (53:Int),Sm (59:Int),Sm (61:Int),Tt],Sm (↑i:Int),z0=z0,z3=z3,z1=z1,Tt],An [Sm (arF f),TT 18],An [An [Zz,1=1,Zz],Tt],An [Sm (wt [x]),Tt,Tt],Tt])=_) ?_
    (repeat'(first|(with_reducible apply And.intro)|(refine fun(_:True)=>?_)))<;>first|exact aq|skip
    all_goals first|exact rfl|exact wru (by omega)|skip
   |true=>
    refine .inl ⟨(t+1,wp,true,ws),[0,1,2],[yes 24,no 26,nu 32 (p:Nat),nu 33 (wp:Nat),nu 34 (t+1:Nat)],1000,⟨hlt,hnx.symm⟩,by dsimp only;omega,?_⟩
    clear hq hnx hok
    refine Eq.mp (by kernel_rfl:(let z0:=(↑p:Int);let z1:=(↑(t+1):Int);let z2:=(↑wp:Int);let z3:=(↑e:Int);An [decide ((↑t:Int)<z3)=true,decide ((↑w:Int)>(144115188075855872:Int))=false,wr .u64 z0=z0,wr .u64 ((↑w:Int)*z0)=z2,wr .i64 ((↑t:Int)+(1:Int))=z1,An [s=s,Zz,Zz,An [Zz,Tt],z2=z2,An [Sm (2:Int),Sm (3:Int),Sm (5:Int),Sm (7:Int),Sm (11:Int),Sm (13:Int),Sm (17:Int),Sm (19:Int),Sm (23:Int),Sm (29:Int),Sm (31:Int),Sm (37:Int),Sm (41:Int),Sm (43:Int),Sm (47:Int),Sm (53:Int),Sm (59:Int),Sm (61:Int),Tt],Sm (↑i:Int),z0=z0,z3=z3,z1=z1,Tt],An [Sm (arF f),TT 18],An [An [Zz,Sm ws.length,Tt],Tt],An [Sm (wt ws),HfL (wt ws)],Tt])=_) ?_
    (repeat'(first|(with_reducible apply And.intro)|(refine fun(_:True)=>?_)))<;>first|exact aq|skip
    all_goals first|exact Qbb _|exact wru (by omega)|skip
 ·have : t = e := by omega
  subst this
  rw[hx]at hq
  obtain⟨x1,x2,x3⟩:w'=w∧md'=md∧ws'=ws:=by
   simp only[Prod.mk.injEq]at hq
   exact⟨hq.1.symm,hq.2.1.symm,hq.2.2.symm⟩
  rw[x1,x2,x3]
  clear hx hq
  cases md with
  |false=>
   refine .inr ⟨.exit 2,[0,1,2],aoS f s i w false ws,[no 24],1000,.inl ⟨trivial,rfl,rfl⟩,?_⟩
   refine Eq.mp (by kernel_rfl:(An [decide ((↑t:Int)<(↑t:Int))=false,An [s=s,Zz,Zz,An [Zz,Tt],Sm (↑w:Int),An [Sm (2:Int),Sm (3:Int),Sm (5:Int),Sm (7:Int),Sm (11:Int),Sm (13:Int),Sm (17:Int),Sm (19:Int),Sm (23:Int),Sm (29:Int),Sm (31:Int),Sm (37:Int),Sm (41:Int),Sm (43:Int),Sm (47:Int),Sm (53:Int),Sm (59:Int),Sm (61:Int),Tt],Sm (↑i:Int),Tt],An [Sm (arF f),TT 18],An [An [Zz,1=1,Zz],Tt],An [Sm (wt ws),HfL (wt ws)],Tt])=_) ?_
   (repeat'(first|(with_reducible apply And.intro)|(refine fun(_:True)=>?_)))<;>first|exact aq|skip
   all_goals first|exact Qbb _|skip
  |true=>
   refine .inr ⟨.exit 2,[0,1,2],aoS f s i w true ws,[no 24],1000,.inl ⟨trivial,rfl,rfl⟩,?_⟩
   refine Eq.mp (by kernel_rfl:(An [decide ((↑t:Int)<(↑t:Int))=false,An [s=s,Zz,Zz,An [Zz,Tt],Sm (↑w:Int),An [Sm (2:Int),Sm (3:Int),Sm (5:Int),Sm (7:Int),Sm (11:Int),Sm (13:Int),Sm (17:Int),Sm (19:Int),Sm (23:Int),Sm (29:Int),Sm (31:Int),Sm (37:Int),Sm (41:Int),Sm (43:Int),Sm (47:Int),Sm (53:Int),Sm (59:Int),Sm (61:Int),Tt],Sm (↑i:Int),Tt],An [Sm (arF f),TT 18],An [An [Zz,Sm ws.length,Tt],Tt],An [Sm (wt ws),HfL (wt ws)],Tt])=_) ?_
   (repeat'(first|(with_reducible apply And.intro)|(refine fun(_:True)=>?_)))<;>first|exact aq|skip
   all_goals first|exact Qbb _|skip
def okA(f:Nat→Int)(l:List Nat):Bool:=l.all fun i=>decide (-2000≤f i)&&decide (f i≤2000)
def inA(f:Nat→Int):Bool:=okA f (List.range 18)
theorem okA_drop(f:Nat→Int){k:Nat}(h:k<18):okA f ((List.range 18).drop k)=((decide (-2000≤f k)&&decide (f k≤2000))&&okA f ((List.range 18).drop (k+1))):=by
 rw[List.drop_eq_getElem_cons (by simpa using h)];simp[okA]
theorem Qez{f:Nat→Int}(h:inA f=true){k:Nat}(hk:k<18): -2000≤f k∧f k≤2000:=by
 unfold inA okA at h
 have:=List.all_eq_true.1 h k (List.mem_range.2 hk)
 simpa using this
abbrev irS(f:Nat→Int)(k:Nat):SL:={sl:=[(5,ar f),(6,i6 k)]}
theorem Qks(f:Nat→Int)(b:Bool)(k:Nat)(hk:k≤18∧okA f ((List.range 18).drop k)=b):
  Sat Pg none 0 (at' 82 [1,0,1,0]) (mkSt g0 16 (irS f k)) (Qaf g0 16 [(b=true,.exit 0,arE),(b=false,.ret,bE 2 false)]):=by
 refine Qa2 vE_ok mixed Qab (b:=at' 82 [1,0,1,0,0]) (by kernel_rfl) (fun k=>k≤18∧okA f ((List.range 18).drop k)=b) (irS f) (fun k=>18-k) (fun k hk=>?_) k hk
 obtain⟨hk,hb⟩:=hk
 by_cases hlt:k<18
 ·rw [okA_drop f hlt] at hb
  have hx:=@idx41 f k hlt
  by_cases h1:f k< -2000
  ·rw [decide_eq_false (show ¬ -2000 ≤ f k by omega)] at hb
   refine .inr ⟨.ret,[],bE 2 false,[yes 7,va 8 (i6 (f k)),yes 10],1000,.inr (.inl ⟨hb.symm,rfl,rfl⟩),?_⟩
   refine Eq.mp (by kernel_rfl:(An [decide ((↑k:Int)<(18:Int))=true,idxV (Qad Pg) 41 (ar f) (↑k:Int)=some (i6 (f k)),decide (f k<(-2000:Int))=true,An [Sm false,Tt],Tt])=_) ?_
   exact au
  ·by_cases h2 : 2000 < f k
   ·rw [decide_eq_false (show ¬ f k ≤ 2000 by omega), Bool.and_false] at hb
    refine .inr ⟨.ret,[],bE 2 false,[yes 7,va 8 (i6 (f k)),no 10,yes 13],1000,.inr (.inl ⟨hb.symm,rfl,rfl⟩),?_⟩
    refine Eq.mp (by kernel_rfl:(An [decide ((↑k:Int)<(18:Int))=true,idxV (Qad Pg) 41 (ar f) (↑k:Int)=some (i6 (f k)),decide (f k<(-2000:Int))=false,decide (f k>(2000:Int))=true,An [Sm false,Tt],Tt])=_) ?_
    exact au
   ·rw [decide_eq_true (show -2000 ≤ f k by omega), decide_eq_true (show f k ≤ 2000 by omega)] at hb
    refine .inl ⟨k+1,[],[yes 7,va 8 (i6 (f k)),no 10,no 13,nu 15 (k+1:Nat)],1000,⟨hlt,hb⟩,by omega,?_⟩
    refine Eq.mp (by kernel_rfl:(let z0:=(↑(k+1):Int);let z1:=(↑k:Int);An [decide (z1<(18:Int))=true,idxV (Qad Pg) 41 (ar f) z1=some (i6 (f k)),decide (f k<(-2000:Int))=false,decide (f k>(2000:Int))=false,wr .i64 (z1+(1:Int))=z0,An [An [f 0=f 0,f 1=f 1,f 2=f 2,f 3=f 3,f 4=f 4,f 5=f 5,f 6=f 6,f 7=f 7,f 8=f 8,f 9=f 9,Sm (f 10),Sm (f 11),Sm (f 12),Sm (f 13),Sm (f 14),Sm (f 15),Sm (f 16),Sm (f 17),Tt],z0=z0,Tt],Tt])=_) ?_
    exact au
 ·have : k = 18 := by omega
  subst this
  refine .inr ⟨.exit 0,[],arE,[],1000,.inl ⟨hb.symm,rfl,rfl⟩,?_⟩
  refine Eq.mp (by kernel_rfl:(An [Tt,Tt])=_) ?_
  exact au
theorem Qa5(f:Nat→Int):FnOk Pg g0 82 [ar f] (.bool (inA f)):=by
 have l:=Qks f (inA f) 0 ⟨Nat.zero_le _,rfl⟩
 refine FnOk.of_vc vE_ok mixed Qab (n:=1000) (r:=[]) (S:=bE 2 (inA f)) (hs:=[(0,.loop [] (irS f 0) [(inA f=true,.exit 0,arE),(inA f=false,.ret,bE 2 false)])]) ?_
 refine Eq.mp (by kernel_rfl:(An [Sm (V.bool (inA f)),An [An [An [f 0=f 0,f 1=f 1,f 2=f 2,f 3=f 3,f 4=f 4,f 5=f 5,f 6=f 6,f 7=f 7,f 8=f 8,f 9=f 9,Sm (f 10),Sm (f 11),Sm (f 12),Sm (f 13),Sm (f 14),Sm (f 15),Sm (f 16),Sm (f 17),Tt],(↑(0:Nat):Int)=(0:Int),Tt],Tt],Sat Pg none 0 (at' 82 [1,0,1,0]) (mkSt g0 16 (irS f 0)) (Qaf g0 16 [(inA f=true,Ex.exit 0,arE),(inA f=false,Ex.ret,bE 2 false)]),(inA f=true→An [An [inA f=true,Tt],Tt]),(inA f=false→An [An [inA f=false,Tt],Tt]),Tt])=_) ?_
 exact au
abbrev azX(f:Nat→Int)(w:Nat)(md:Bool)(ws:List Nat):SL:={sl:=[(5,.ptr 1 0),(6,.fn 112 [.ptr 1 0]),(7,u6 w)],os:=aoL f md ws,md:=[0,1,0]}
theorem av_out(f:Nat→Int)(s:Int)(hs:s=1∨s= -1)(hf: ∀i,i<18→ -4000≤f i∧f i≤4000)(w':Nat)(md':Bool)(ws':List Nat)(hx:outQ (posF f s) 18=(w',md',ws')):
  Sat Pg none 0 (at' 93 [1,1,1,1,0,1,0]) (mkSt g0 40 (aoS f s 0 1 false [1])) (Qaf g0 40 [(True,.exit 0,azX f w' md' ws')]):=by
 have he: ∀i,i<18→posF f s i≤4000:=fun i hi=>by
  have:=hf i hi
  unfold posF
  rcases hs with rfl|rfl<;>omega
 refine Qa2 Qgz mixed Qab (b:=at' 93 [1,1,1,1,0,1,0,0]) (by kernel_rfl) (fun q:Nat×Nat×Bool×List Nat=>q.1≤18∧q.2=outQ (posF f s) q.1) (fun q=>aoS f s q.1 q.2.1 q.2.2.1 q.2.2.2) (fun q=>18-q.1) (fun q hq=>?_) (0,1,false,[1]) ⟨Nat.zero_le _,rfl⟩
 obtain⟨i,w,md,ws⟩:=q
 obtain⟨hi,hq⟩:=hq
 dsimp only at hi hq
 by_cases hlt:i<18
 ·have hok := Qmm he i hi
  obtain⟨w2,md2,ws2,h2⟩: ∃w2 md2 ws2,outQ (posF f s) (i+1)=(w2,md2,ws2):=⟨_,_,_,rfl⟩
  have h2':=h2
  rw[outQ,←hq]at h2'
  rw[←hq]at hok
  have hin:=av_in f s (posF f s) i (posF f s i) hlt rfl (he i hlt) (w,md,ws) hok w2 md2 ws2 h2' w md ws rfl
  have hpr:=idx40 hlt
  have hpl:=@Qmo 0 i hlt
  have hhd:=@Qmb f i hlt
  have hfi:=hf i hlt
  have hpos:((posF f s i:Nat):Int)=if(0:Int)<s*f i then s*f i else 0:=by
   unfold posF
   rcases hs with rfl|rfl<;>(split<;>omega)
  have hmul: -4000≤s*f i∧s*f i≤4000:=by rcases hs with rfl|rfl<;>omega
  generalize primeN i=p at*
  generalize posF f s i=e at*
  generalize hxe:s*f i=x at*
  cases md with
  | false =>
   cases md2 with
   |false=>
    refine .inl ⟨(i+1,w2,false,ws2),[0,1,2],[yes 14,va 16 (i6 p),va 19 (.ptr 0 i),ld 20 (i6 (f i)),nu 21 x,nu 22 (e:Nat),(0,.loop [0,1,2] (aiS f s i e p (0,w,false,ws)) [(True,.exit 2,aoS f s i w2 false ws2)]),nu 35 (i+1:Nat)],1000,⟨hlt,h2.symm⟩,by dsimp only;omega,?_⟩
    clear hq hok h2 h2' hf he
    refine Eq.mp (by kernel_rfl:(let z0:=An [Sm (2:Int),Sm (3:Int),Sm (5:Int),Sm (7:Int),Sm (11:Int),Sm (13:Int),Sm (17:Int),Sm (19:Int),Sm (23:Int),Sm (29:Int),Sm (31:Int),Sm (37:Int),Sm (41:Int),Sm (43:Int),Sm (47:Int),Sm (53:Int),Sm (59:Int),Sm (61:Int),Tt];let z1:=(↑i:Int);let z2:=An [Sm (arF f),TT 18];An [decide (z1<(18:Int))=true,idxV (Qad Pg) 40 prV z1=some (i6 ↑p),placeV (Qad Pg) 41 (V.ptr 0 0) z1=some (V.ptr 0 i),headF (dropF i (arF f))=some (i6 (f i)),wr .i64 (s*f i)=x,(if x>(0:Int)then x else(0:Int))=(↑e:Int),An [An [s=s,Zz,Zz,An [Zz,Tt],Sm (↑w:Int),z0,Sm z1,Sm (↑p:Int),Sm (↑e:Int),(↑(0:Nat):Int)=(0:Int),Tt],z2,An [An [Zz,1=1,Zz],Tt],An [Sm (wt ws),HfL (wt ws)],Tt],Sat Pg none 0 (at' 93 [1,1,1,1,0,1,0,0,1,1,0,0,1,1,0]) (mkSt g0 40 (aiS f s i e p (0,w,false,ws))) (Qaf g0 40 [(True,Ex.exit 2,aoS f s i w2 false ws2)]),(True→An [wr .i64 (z1+(1:Int))=(↑(i+1):Int),An [s=s,Zz,Zz,An [Zz,Tt],Sm (↑w2:Int),z0,Sm (↑(i+1):Int),Tt],z2,An [An [Zz,1=1,Zz],Tt],An [Sm (wt ws2),HfL (wt ws2)],Tt]),Tt])=_) ?_
    (repeat'(first|(with_reducible apply And.intro)|(refine fun(_:True)=>?_)))<;>first|exact aq|skip
    all_goals first|exact Qbb _|(rw[hxe];exact wr6 (by omega) (by omega))|exact hpos.symm|skip
   |true=>
    refine .inl ⟨(i+1,w2,true,ws2),[0,1,2],[yes 14,va 16 (i6 p),va 19 (.ptr 0 i),ld 20 (i6 (f i)),nu 21 x,nu 22 (e:Nat),(0,.loop [0,1,2] (aiS f s i e p (0,w,false,ws)) [(True,.exit 2,aoS f s i w2 true ws2)]),nu 35 (i+1:Nat)],1000,⟨hlt,h2.symm⟩,by dsimp only;omega,?_⟩
    clear hq hok h2 h2' hf he
    refine Eq.mp (by kernel_rfl:(let z0:=An [Sm (2:Int),Sm (3:Int),Sm (5:Int),Sm (7:Int),Sm (11:Int),Sm (13:Int),Sm (17:Int),Sm (19:Int),Sm (23:Int),Sm (29:Int),Sm (31:Int),Sm (37:Int),Sm (41:Int),Sm (43:Int),Sm (47:Int),Sm (53:Int),Sm (59:Int),Sm (61:Int),Tt];let z1:=(↑i:Int);let z2:=An [Sm (arF f),TT 18];An [decide (z1<(18:Int))=true,idxV (Qad Pg) 40 prV z1=some (i6 ↑p),placeV (Qad Pg) 41 (V.ptr 0 0) z1=some (V.ptr 0 i),headF (dropF i (arF f))=some (i6 (f i)),wr .i64 (s*f i)=x,(if x>(0:Int)then x else(0:Int))=(↑e:Int),An [An [s=s,Zz,Zz,An [Zz,Tt],Sm (↑w:Int),z0,Sm z1,Sm (↑p:Int),Sm (↑e:Int),(↑(0:Nat):Int)=(0:Int),Tt],z2,An [An [Zz,1=1,Zz],Tt],An [Sm (wt ws),HfL (wt ws)],Tt],Sat Pg none 0 (at' 93 [1,1,1,1,0,1,0,0,1,1,0,0,1,1,0]) (mkSt g0 40 (aiS f s i e p (0,w,false,ws))) (Qaf g0 40 [(True,Ex.exit 2,aoS f s i w2 true ws2)]),(True→An [wr .i64 (z1+(1:Int))=(↑(i+1):Int),An [s=s,Zz,Zz,An [Zz,Tt],Sm (↑w2:Int),z0,Sm (↑(i+1):Int),Tt],z2,An [An [Zz,Sm ws2.length,Tt],Tt],An [Sm (wt ws2),HfL (wt ws2)],Tt]),Tt])=_) ?_
    (repeat'(first|(with_reducible apply And.intro)|(refine fun(_:True)=>?_)))<;>first|exact aq|skip
    all_goals first|exact Qbb _|(rw[hxe];exact wr6 (by omega) (by omega))|exact hpos.symm|skip
  | true =>
   cases md2 with
   |false=>
    refine .inl ⟨(i+1,w2,false,ws2),[0,1,2],[yes 14,va 16 (i6 p),va 19 (.ptr 0 i),ld 20 (i6 (f i)),nu 21 x,nu 22 (e:Nat),(0,.loop [0,1,2] (aiS f s i e p (0,w,true,ws)) [(True,.exit 2,aoS f s i w2 false ws2)]),nu 35 (i+1:Nat)],1000,⟨hlt,h2.symm⟩,by dsimp only;omega,?_⟩
    clear hq hok h2 h2' hf he
    refine Eq.mp (by kernel_rfl:(let z0:=An [Sm (2:Int),Sm (3:Int),Sm (5:Int),Sm (7:Int),Sm (11:Int),Sm (13:Int),Sm (17:Int),Sm (19:Int),Sm (23:Int),Sm (29:Int),Sm (31:Int),Sm (37:Int),Sm (41:Int),Sm (43:Int),Sm (47:Int),Sm (53:Int),Sm (59:Int),Sm (61:Int),Tt];let z1:=(↑i:Int);let z2:=An [Sm (arF f),TT 18];An [decide (z1<(18:Int))=true,idxV (Qad Pg) 40 prV z1=some (i6 ↑p),placeV (Qad Pg) 41 (V.ptr 0 0) z1=some (V.ptr 0 i),headF (dropF i (arF f))=some (i6 (f i)),wr .i64 (s*f i)=x,(if x>(0:Int)then x else(0:Int))=(↑e:Int),An [An [s=s,Zz,Zz,An [Zz,Tt],Sm (↑w:Int),z0,Sm z1,Sm (↑p:Int),Sm (↑e:Int),(↑(0:Nat):Int)=(0:Int),Tt],z2,An [An [Zz,Sm ws.length,Tt],Tt],An [Sm (wt ws),HfL (wt ws)],Tt],Sat Pg none 0 (at' 93 [1,1,1,1,0,1,0,0,1,1,0,0,1,1,0]) (mkSt g0 40 (aiS f s i e p (0,w,true,ws))) (Qaf g0 40 [(True,Ex.exit 2,aoS f s i w2 false ws2)]),(True→An [wr .i64 (z1+(1:Int))=(↑(i+1):Int),An [s=s,Zz,Zz,An [Zz,Tt],Sm (↑w2:Int),z0,Sm (↑(i+1):Int),Tt],z2,An [An [Zz,1=1,Zz],Tt],An [Sm (wt ws2),HfL (wt ws2)],Tt]),Tt])=_) ?_
    (repeat'(first|(with_reducible apply And.intro)|(refine fun(_:True)=>?_)))<;>first|exact aq|skip
    all_goals first|exact Qbb _|(rw[hxe];exact wr6 (by omega) (by omega))|exact hpos.symm|skip
   |true=>
    refine .inl ⟨(i+1,w2,true,ws2),[0,1,2],[yes 14,va 16 (i6 p),va 19 (.ptr 0 i),ld 20 (i6 (f i)),nu 21 x,nu 22 (e:Nat),(0,.loop [0,1,2] (aiS f s i e p (0,w,true,ws)) [(True,.exit 2,aoS f s i w2 true ws2)]),nu 35 (i+1:Nat)],1000,⟨hlt,h2.symm⟩,by dsimp only;omega,?_⟩
    clear hq hok h2 h2' hf he
    refine Eq.mp (by kernel_rfl:(let z0:=An [Sm (2:Int),Sm (3:Int),Sm (5:Int),Sm (7:Int),Sm (11:Int),Sm (13:Int),Sm (17:Int),Sm (19:Int),Sm (23:Int),Sm (29:Int),Sm (31:Int),Sm (37:Int),Sm (41:Int),Sm (43:Int),Sm (47:Int),Sm (53:Int),Sm (59:Int),Sm (61:Int),Tt];let z1:=(↑i:Int);let z2:=An [Sm (arF f),TT 18];An [decide (z1<(18:Int))=true,idxV (Qad Pg) 40 prV z1=some (i6 ↑p),placeV (Qad Pg) 41 (V.ptr 0 0) z1=some (V.ptr 0 i),headF (dropF i (arF f))=some (i6 (f i)),wr .i64 (s*f i)=x,(if x>(0:Int)then x else(0:Int))=(↑e:Int),An [An [s=s,Zz,Zz,An [Zz,Tt],Sm (↑w:Int),z0,Sm z1,Sm (↑p:Int),Sm (↑e:Int),(↑(0:Nat):Int)=(0:Int),Tt],z2,An [An [Zz,Sm ws.length,Tt],Tt],An [Sm (wt ws),HfL (wt ws)],Tt],Sat Pg none 0 (at' 93 [1,1,1,1,0,1,0,0,1,1,0,0,1,1,0]) (mkSt g0 40 (aiS f s i e p (0,w,true,ws))) (Qaf g0 40 [(True,Ex.exit 2,aoS f s i w2 true ws2)]),(True→An [wr .i64 (z1+(1:Int))=(↑(i+1):Int),An [s=s,Zz,Zz,An [Zz,Tt],Sm (↑w2:Int),z0,Sm (↑(i+1):Int),Tt],z2,An [An [Zz,Sm ws2.length,Tt],Tt],An [Sm (wt ws2),HfL (wt ws2)],Tt]),Tt])=_) ?_
    (repeat'(first|(with_reducible apply And.intro)|(refine fun(_:True)=>?_)))<;>first|exact aq|skip
    all_goals first|exact Qbb _|(rw[hxe];exact wr6 (by omega) (by omega))|exact hpos.symm|skip
 ·have : i = 18 := by omega
  subst this
  rw[hx]at hq
  obtain⟨x1,x2,x3⟩:w'=w∧md'=md∧ws'=ws:=by
   simp only[Prod.mk.injEq]at hq
   exact⟨hq.1.symm,hq.2.1.symm,hq.2.2.symm⟩
  rw[x1,x2,x3]
  clear hx hq
  cases md with
  |false=>
   refine .inr ⟨.exit 0,[0,1,2],azX f w false ws,[],1000,.inl ⟨trivial,rfl,rfl⟩,?_⟩
   refine Eq.mp (by kernel_rfl:(An [An [Zz,An [Zz,Tt],Sm (↑w:Int),Tt],An [Sm (arF f),TT 18],An [An [Zz,1=1,Zz],Tt],An [Sm (wt ws),HfL (wt ws)],Tt])=_) ?_
   (repeat'(first|(with_reducible apply And.intro)|(refine fun(_:True)=>?_)))<;>first|exact aq|skip
   all_goals first|exact Qbb _|skip
  |true=>
   refine .inr ⟨.exit 0,[0,1,2],azX f w true ws,[],1000,.inl ⟨trivial,rfl,rfl⟩,?_⟩
   refine Eq.mp (by kernel_rfl:(An [An [Zz,An [Zz,Tt],Sm (↑w:Int),Tt],An [Sm (arF f),TT 18],An [An [Zz,Sm ws.length,Tt],Tt],An [Sm (wt ws),HfL (wt ws)],Tt])=_) ?_
   (repeat'(first|(with_reducible apply And.intro)|(refine fun(_:True)=>?_)))<;>first|exact aq|skip
   all_goals first|exact Qbb _|skip
abbrev lnV(l:List Nat):V:=.im l.length (wt l)
theorem Qne(f:Nat→Int)(s:Int)(hs:s=1∨s= -1)(hf: ∀i,i<18→ -4000≤f i∧f i≤4000): ∃ws,Norm ws∧valW ws=Qaw (posF f s) 18∧ws.length≤100000∧FnOk Pg g0 93 [ar f,i6 s] (lnV ws):=by
 have he: ∀i,i<18→posF f s i≤4000:=fun i hi=>by
  have:=hf i hi
  unfold posF
  rcases hs with rfl|rfl<;>omega
 have hok:=Qmm he 18 (Nat.le_refl _)
 obtain⟨w,md,ws,hx⟩: ∃w md ws,outQ (posF f s) 18=(w,md,ws):=⟨_,_,_,rfl⟩
 have l:=av_out f s hs hf w md ws hx
 rw[hx]at hok
 have hw1:=hok.w1
 have hwb:=hok.wb
 have hlen:=hok.len
 have hone:=hok.one
 have hnorm:=hok.norm
 have hval:=hok.val
 dsimp only at hw1 hwb hlen hone hnorm hval
 rw[Nat.pow_zero,Nat.mul_one]at hval
 obtain⟨m1,m2,m3⟩:=Qsx hnorm (w:=w) (by omega) hw1
 refine⟨mulW w ws,m1,by rw[m2,Nat.mul_comm,hval],by omega,?_⟩
 clear hok hx hval m1 m2 m3 he hf
 cases md with
 | false =>
  obtain⟨x,rfl⟩: ∃x,ws=[x]:=List.length_eq_one_iff.1 (hone rfl)
  have hxb:x<18446744073709551616:=by simpa using hnorm.ok 0
  by_cases hc0:x*w/18446744073709551616=0
  ·have hcs := Qoi f x w hxb (by omega) _ rfl hc0
   rw[Qk2 hc0]
   generalize x*w%18446744073709551616=y at*
   refine FnOk.of_vc Qgz mixed Qab (n:=1000) (r:=[]) (S:={sl:=[(4,.im 1 [u6 (y:Int)])]}) (hs:=[(0,.loop [0,2,1] (aoS f s 0 1 false [1]) [(True,.exit 0,azX f w false [x])]),(38,.call ⟨.tup [],ofOs .e 0 (n1 f y),3,[2]⟩)]) ?_
   refine Eq.mp (by kernel_rfl:(An [V.im 1 [u6 ↑y]=lnV [y],An [An [s=s,Zz,Zz,An [Zz,Tt],(↑(1:Nat):Int)=(1:Int),An [Sm (2:Int),Sm (3:Int),Sm (5:Int),Sm (7:Int),Sm (11:Int),Sm (13:Int),Sm (17:Int),Sm (19:Int),Sm (23:Int),Sm (29:Int),Sm (31:Int),Sm (37:Int),Sm (41:Int),Sm (43:Int),Sm (47:Int),Sm (53:Int),Sm (59:Int),Sm (61:Int),Tt],(↑(0:Nat):Int)=(0:Int),Tt],An [Sm (arF f),TT 18],An [An [Zz,1=1,Zz],Tt],An [wt [1]=[u6 1],Tt,Tt],Tt],Sat Pg none 0 (at' 93 [1,1,1,1,0,1,0]) (mkSt g0 40 (aoS f s 0 1 false [1])) (Qaf g0 40 [(True,Ex.exit 0,azX f w false [x])]),(True→An [CallSpec Pg g0 (V.fn 112 [V.ptr 1 0]) [u6 ↑w] (ofOs T.e 0 (aoL f false [x])) 3 (CR.mk (V.tup []) (ofOs T.e 0 (n1 f y)) 3 [2]),Tt,An [An [1=1,Sm [u6 ↑y],Tt,Tt],Tt],Tt]),Tt])=_) ?_
   (repeat'(first|(with_reducible apply And.intro)|(refine fun(_:True)=>?_)))<;>first|exact aq|skip
   all_goals first|exact hcs|exact rfl|skip
  ·have hcs := Qoj f x w hxb (by omega) _ _ rfl rfl hc0
   rw[Qk3 hc0]
   generalize x*w%18446744073709551616=y at*
   generalize x*w/18446744073709551616=c at*
   refine FnOk.of_vc Qgz mixed Qab (n:=1000) (r:=[]) (S:={sl:=[(4,.im 2 [u6 (y:Int),u6 (c:Int)])]}) (hs:=[(0,.loop [0,2,1] (aoS f s 0 1 false [1]) [(True,.exit 0,azX f w false [x])]),(38,.call ⟨.tup [],ofOs .e 0 [.row 41 none (arF f),.row 162 none [.sl 3 0 2 none],.dead,.row 170 (some 1) [u6 (y:Int),u6 (c:Int)]],4,[2,1]⟩)]) ?_
   refine Eq.mp (by kernel_rfl:(let z0:=[u6 ↑y,u6 ↑c];An [V.im 2 z0=lnV [y,c],An [An [s=s,Zz,Zz,An [Zz,Tt],(↑(1:Nat):Int)=(1:Int),An [Sm (2:Int),Sm (3:Int),Sm (5:Int),Sm (7:Int),Sm (11:Int),Sm (13:Int),Sm (17:Int),Sm (19:Int),Sm (23:Int),Sm (29:Int),Sm (31:Int),Sm (37:Int),Sm (41:Int),Sm (43:Int),Sm (47:Int),Sm (53:Int),Sm (59:Int),Sm (61:Int),Tt],(↑(0:Nat):Int)=(0:Int),Tt],An [Sm (arF f),TT 18],An [An [Zz,1=1,Zz],Tt],An [wt [1]=[u6 1],Tt,Tt],Tt],Sat Pg none 0 (at' 93 [1,1,1,1,0,1,0]) (mkSt g0 40 (aoS f s 0 1 false [1])) (Qaf g0 40 [(True,Ex.exit 0,azX f w false [x])]),(True→An [CallSpec Pg g0 (V.fn 112 [V.ptr 1 0]) [u6 ↑w] (ofOs T.e 0 (aoL f false [x])) 3 (CR.mk (V.tup []) (ofOs T.e 0 [O.row 41 none (arF f),O.row 162 none [V.sl 3 0 2 none],O.dead,O.row 170 (some 1) z0]) 4 [2,1]),Tt,An [An [2=2,z0=z0,TT 2],Tt],Tt]),Tt])=_) ?_
   (repeat'(first|(with_reducible apply And.intro)|(refine fun(_:True)=>?_)))<;>first|exact aq|skip
   all_goals first|exact hcs|exact rfl|skip
 | true =>
  obtain⟨n,hn⟩: ∃n,n=ws.length:=⟨_,rfl⟩
  by_cases hc0:(mulS w ws n).2=0
  ·have hcs := mul_M0 f ws w n hn (by omega) hnorm.ok (by omega) _ rfl hc0
   have hml:=Qbr w ws n
   rw[show mulW w ws=(mulS w ws n).1 by unfold mulW;rw[←hn,if_pos hc0]]
   generalize (mulS w ws n).1=m at*
   clear hc0
   subst hn
   refine FnOk.of_vc Qgz mixed Qab (n:=1000) (r:=[]) (S:={sl:=[(4,lnV m)]}) (hs:=[(0,.loop [0,2,1] (aoS f s 0 1 false [1]) [(True,.exit 0,azX f w true ws)]),(38,.call ⟨.tup [],ofOs .e 0 [.row 41 none (arF f),.row 162 none [.sl 2 0 ws.length none],.row 170 (some 1) (wt m)],3,[2]⟩)]) ?_
   refine Eq.mp (by kernel_rfl:(An [Sm (lnV m),An [An [s=s,Zz,Zz,An [Zz,Tt],(↑(1:Nat):Int)=(1:Int),An [Sm (2:Int),Sm (3:Int),Sm (5:Int),Sm (7:Int),Sm (11:Int),Sm (13:Int),Sm (17:Int),Sm (19:Int),Sm (23:Int),Sm (29:Int),Sm (31:Int),Sm (37:Int),Sm (41:Int),Sm (43:Int),Sm (47:Int),Sm (53:Int),Sm (59:Int),Sm (61:Int),Tt],(↑(0:Nat):Int)=(0:Int),Tt],An [Sm (arF f),TT 18],An [An [Zz,1=1,Zz],Tt],An [wt [1]=[u6 1],Tt,Tt],Tt],Sat Pg none 0 (at' 93 [1,1,1,1,0,1,0]) (mkSt g0 40 (aoS f s 0 1 false [1])) (Qaf g0 40 [(True,Ex.exit 0,azX f w true ws)]),(True→An [CallSpec Pg g0 (V.fn 112 [V.ptr 1 0]) [u6 ↑w] (ofOs T.e 0 (aoL f true ws)) 3 (CR.mk (V.tup []) (ofOs T.e 0 [O.row 41 none (arF f),O.row 162 none [V.sl 2 0 ws.length none],O.row 170 (some 1) (wt m)]) 3 [2]),Tt,An [An [m.length=ws.length,Sm (wt m),HfL (wt m)],Tt],Tt]),Tt])=_) ?_
   (repeat'(first|(with_reducible apply And.intro)|(refine fun(_:True)=>?_)))<;>first|exact aq|skip
   all_goals first|exact hcs|exact Qbb _|exact rfl|skip
  ·have hcs := mul_M1 f ws w n hn (by omega) hnorm.ok (by omega) _ _ rfl rfl hc0
   have hml:=Qbr w ws n
   rw[show mulW w ws=(mulS w ws n).1++[(mulS w ws n).2]by unfold mulW;rw[←hn,if_neg hc0]]
   generalize (mulS w ws n).1=m at*
   generalize (mulS w ws n).2=c at*
   rw[←Quj]at hcs
   have hl2:(m++[c]).length=n+1:=by simp;omega
   generalize m++[c]=m' at*
   clear hc0
   subst hn
   refine FnOk.of_vc Qgz mixed Qab (n:=1000) (r:=[]) (S:={sl:=[(4,lnV m')]}) (hs:=[(0,.loop [0,2,1] (aoS f s 0 1 false [1]) [(True,.exit 0,azX f w true ws)]),(38,.call ⟨.tup [],ofOs .e 0 [.row 41 none (arF f),.row 162 none [.sl 3 0 (ws.length+1) none],.dead,.row 170 (some 1) (wt m')],4,[2,1]⟩)]) ?_
   refine Eq.mp (by kernel_rfl:(An [Sm (lnV m'),An [An [s=s,Zz,Zz,An [Zz,Tt],(↑(1:Nat):Int)=(1:Int),An [Sm (2:Int),Sm (3:Int),Sm (5:Int),Sm (7:Int),Sm (11:Int),Sm (13:Int),Sm (17:Int),Sm (19:Int),Sm (23:Int),Sm (29:Int),Sm (31:Int),Sm (37:Int),Sm (41:Int),Sm (43:Int),Sm (47:Int),Sm (53:Int),Sm (59:Int),Sm (61:Int),Tt],(↑(0:Nat):Int)=(0:Int),Tt],An [Sm (arF f),TT 18],An [An [Zz,1=1,Zz],Tt],An [wt [1]=[u6 1],Tt,Tt],Tt],Sat Pg none 0 (at' 93 [1,1,1,1,0,1,0]) (mkSt g0 40 (aoS f s 0 1 false [1])) (Qaf g0 40 [(True,Ex.exit 0,azX f w true ws)]),(True→An [CallSpec Pg g0 (V.fn 112 [V.ptr 1 0]) [u6 ↑w] (ofOs T.e 0 (aoL f true ws)) 3 (CR.mk (V.tup []) (ofOs T.e 0 [O.row 41 none (arF f),O.row 162 none [V.sl 3 0 (ws.length+1) none],O.dead,O.row 170 (some 1) (wt m')]) 4 [2,1]),Tt,An [An [m'.length=ws.length+1,Sm (wt m'),HfL (wt m')],Tt],Tt]),Tt])=_) ?_
   (repeat'(first|(with_reducible apply And.intro)|(refine fun(_:True)=>?_)))<;>first|exact aq|skip
   all_goals first|exact hcs|exact Qbb _|exact rfl|skip
abbrev sumF(a b:Nat→Int):Nat→Int:=mixF a b 1 18
abbrev adS(f:Nat→Int)(e:Int):SL:={sl:=[(4,.ptr 0 0),(5,i6 e)],os:=[.row 41 none (arF f)]}
theorem add_big(a b:Nat→Int)(ha:inA a=true)(hb:inA b=true)(hs:inA (sumF a b)=false):FnOk Pg g0 34 [ar a,ar b] (.tup [ar Qaj,i6 6]):=by
 have h:=Qa5 a
 have h2:=Qa5 b
 have h3:=Qa5 (sumF a b)
 have h4:=Qc5 a b 1 (fun k hk=>by have:=Qez ha hk;omega) (fun k hk=>by have:=Qez hb hk;omega)
 rw[ha]at h
 rw[hb]at h2
 rw[hs]at h3
 change FnOk Pg g0 _ _ (ar (sumF a b))at h4
 generalize hf:sumF a b=f at*
 refine FnOk.of_vc vE_ok mixed Qab (n:=1000) (r:=[2]) (S:=adS Qaj 6) (hs:=[fn 8 (.bool true),fn 12 (.bool true),fn 18 (ar f),fn 20 (.bool false)]) ?_
 refine Eq.mp (by kernel_rfl:(let z5:=An [TT 18,Tt];let z1:=[i6 0,i6 0,i6 0,i6 0,i6 0,i6 0,i6 0,i6 0,i6 0,i6 0,i6 0,i6 0,i6 0,i6 0,i6 0,i6 0,i6 0,i6 0];let z2:=V.bool true;let z3:=V.agg (arF a);let z4:=V.agg (arF b);let z0:=pt (pt (pt T.e 0 (O.row 41 none (arF a))) 1 (O.row 41 none (arF b))) 2 (O.row 41 none z1);An [V.tup [V.agg (arF Qaj),i6 6]=V.tup [ar Qaj,i6 6],z5,FnOk Pg g0 82 [z3] z2,Tt,z5,FnOk Pg g0 82 [z4] z2,An [(V.fn 82 []=V.fn 82 []→[z3]=[z4]→z0=z0→0+1+1+1=3→Sm (CR.mk z2 z0 3 [])),Tt],An [TT 18,TT 18,Tt,Tt],FnOk Pg g0 79 [z3,z4,i6 1] (ar f),Tt,z5,FnOk Pg g0 82 [V.agg (arF f)] (V.bool false),Tt,An [Zz,Sm (6:Int),Tt],An [arF Qaj=z1,TT 18],Tt])=_) ?_
 (repeat'(first|(with_reducible apply And.intro)|(refine fun(_:True)=>?_)))<;>first|exact aq|skip
 all_goals first|rfl|(intro _ hh _ _;have:=inA_ar (List.cons.inj hh).1;simp only[ha,hb,hs]at this;cases this)
theorem add_ok(a b:Nat→Int)(ha:inA a=true)(hb:inA b=true)(hs:inA (sumF a b)=true):FnOk Pg g0 34 [ar a,ar b] (.tup [ar (sumF a b),i6 0]):=by
 have h:=Qa5 a
 have h2:=Qa5 b
 have h3:=Qa5 (sumF a b)
 have h4:=Qc5 a b 1 (fun k hk=>by have:=Qez ha hk;omega) (fun k hk=>by have:=Qez hb hk;omega)
 rw[ha]at h
 rw[hb]at h2
 rw[hs]at h3
 change FnOk Pg g0 _ _ (ar (sumF a b))at h4
 generalize hf:sumF a b=f at*
 refine FnOk.of_vc vE_ok mixed Qab (n:=1000) (r:=[2]) (S:=adS f 0) (hs:=[fn 8 (.bool true),fn 12 (.bool true),fn 18 (ar f),fn 20 (.bool true)]) ?_
 refine Eq.mp (by kernel_rfl:(let z4:=An [TT 18,Tt];let z0:=pt (pt (pt T.e 0 (O.row 41 none (arF a))) 1 (O.row 41 none (arF b))) 2 (O.row 41 none [i6 0,i6 0,i6 0,i6 0,i6 0,i6 0,i6 0,i6 0,i6 0,i6 0,i6 0,i6 0,i6 0,i6 0,i6 0,i6 0,i6 0,i6 0]);let z1:=V.bool true;let z2:=V.agg (arF a);let z3:=V.agg (arF b);An [V.tup [V.agg (arF f),i6 0]=V.tup [ar f,i6 0],z4,FnOk Pg g0 82 [z2] z1,Tt,z4,FnOk Pg g0 82 [z3] z1,An [(V.fn 82 []=V.fn 82 []→[z2]=[z3]→z0=z0→0+1+1+1=3→Sm (CR.mk z1 z0 3 [])),Tt],An [TT 18,TT 18,Tt,Tt],FnOk Pg g0 79 [z2,z3,i6 1] (ar f),Tt,z4,FnOk Pg g0 82 [V.agg (arF f)] z1,Tt,An [Zz,Sm (0:Int),Tt],An [Sm (arF f),TT 18],Tt])=_) ?_
 (repeat'(first|(with_reducible apply And.intro)|(refine fun(_:True)=>?_)))<;>first|exact aq|skip
 all_goals rfl
theorem Qsf{f:Nat→Int}(h: ∀k,k<18→ -2000≤f k∧f k≤2000):inA f=true:=by
 unfold inA okA
 rw[List.all_eq_true]
 intro k hk
 have:=h k (List.mem_range.1 hk)
 simpa using this
def eqA(a b:Nat→Int):Bool:=a 0==b 0&&(a 1==b 1&&(a 2==b 2&&(a 3==b 3&&(a 4==b 4&&(a 5==b 5&&(a 6==b 6&&(a 7==b 7&&(a 8==b 8&&(a 9==b 9&&(a 10==b 10&&(a 11==b 11&&(a 12==b 12&&(a 13==b 13&&(a 14==b 14&&(a 15==b 15&&(a 16==b 16&&(a 17==b 17&&true)))))))))))))))))
theorem Qer{a b:Nat→Int}:eqA a b=true↔∀i,i<18→a i=b i:=by
 unfold eqA
 simp only[Bool.and_eq_true,beq_iff_eq,and_true]
 constructor
 ·rintro ⟨h0, h1, h2, h3, h4, h5, h6, h7, h8, h9, h10, h11, h12, h13, h14, h15, h16, h17⟩ i hi
  rcases lt18 hi with rfl|rfl|rfl|rfl|rfl|rfl|rfl|rfl|rfl|rfl|rfl|rfl|rfl|rfl|rfl|rfl|rfl|rfl<;>assumption
 ·intro h
  exact⟨h 0 (by omega),h 1 (by omega),h 2 (by omega),h 3 (by omega),h 4 (by omega),h 5 (by omega),h 6 (by omega),h 7 (by omega),h 8 (by omega),h 9 (by omega),h 10 (by omega),h 11 (by omega),h 12 (by omega),h 13 (by omega),h 14 (by omega),h 15 (by omega),h 16 (by omega),h 17 (by omega)⟩
theorem Qrj{a b:Nat→Int}(h: ¬ ∀i,i<18→a i=b i):eqA a b=false:=by
 cases hb:eqA a b with
 |false=>rfl
 |true=>exact absurd (Qer.1 hb) h
theorem Qn0(a:Nat→Int):eqA a a=true:=Qer.2 fun _ _=>rfl
end Go.Proofs.YtglpoiaedkoecaaDoor.Am
