/- Texts behind the claim, part 6: the abstract machine, and what the functions answer. No condition. -/
import Derived.Test.YtakfneapahohkaaDoorCRights5
set_option linter.unusedVariables false
set_option linter.unusedSimpArgs false
set_option linter.unusedSectionVars false
namespace Go.Proofs.YtakfneapahohkaaDoor.Am
open Go.RowKit
set_option maxHeartbeats 1000000
set_option maxRecDepth 100000
theorem Qcb{b:Int}(h:0<=b/\b<=255):b.tmod 6=b%6:=Int.tmod_eq_emod_of_nonneg h.1
theorem Qcs{b:Int}(h:0<=b/\b<=255):b.tdiv 4=b/4:=Int.tdiv_eq_ediv_of_nonneg h.1
theorem wr8{n:Int}(h1:0<=n)(h2:n<=255):wr .u8 n=n:=Qei h1 h2
theorem bend0z(b a N:Int)(jj:List Int)(cs:List (List Int))(hb:0<=b/\b<=255)(ha:0<=a/\a<=255)(h1:1<=jj.length)(h6:jj.length<=6)(jy:Qa4 jj.length cs)(h40:cs.length<=40)(hR:cs.length=0)(h0:b%6=0):Ac Pg g0 7 [beV b a N,gV jj cs] (gV (jj.set (a%(jj.length:Int)).toNat N) cs):=by
 have jt:=fun H nx lg hB=>Qb3 b a N jj cs h1 o_ jy o_ H nx lg hB
 have jn:=fun H=>@Qcj H jj
 refine Ac.of_vcX (n:=1000) (r:=[2]) (sl:=[(4,.ptr 2 0)]) (S:={sl:=[(4,.ptr 0 0)],os:=[.row 31 none [sl (jj.set (a%(jj.length:Int)).toNat N),gC cs]]}) (hs:=[(12,.cp jj.length (Ab jj)),(0,.loopM (bcS 0) (.exit 0) (fun _=>bcX) (fun hl H nx lg=>∃hs,BH b a N jj cs cs hl hs H nx) (fun hl H nx lg=>[lo_ 36 (bdO b a N) (w8 b),nu 37 (b%6),yes 38,lo_ 40 (.row 31 none [.sl 4 0 jj.length none,.nils]) (.sl 4 0 jj.length none),lo_ 42 (bdO b a N) (w8 a),nu 43 a,lo_ 45 (.row 31 none [.sl 4 0 jj.length none,.nils]) (.sl 4 0 jj.length none),va 47 (i6 ((a%(jj.length:Int)).toNat:Nat)),lo_ 49 (bdO b a N) (i6 N),pl 50,so (.row 3 (some 1) (Ab jj)) (Ab (jj.set (a%(jj.length:Int)).toNat N)),lo_ 137 (.row 31 none [.sl 4 0 jj.length none,.nils]) (.agg [.sl 4 0 jj.length none,.nils]),so n2 [.sl 4 0 jj.length none,.nils]]))]) ?_
 refine Eq.mp (by kernel_rfl:(let z6:=V.sl 4 0 jj.length none;let z7:=O.row 31 none [V.nils,V.nils];let z9:=V.ptr 2 0;let y0:=some (bdO b a N);let y3:=(↑jj.length:Int);let y4:=Ab jj;let y5:=bdL b a N;let z0:=Int.toNat (a%y3);let z1:=[z6,V.nils];let z2:=pt (pt (pt T.e 0 (O.row 27 none [w8 b,w8 a,i6 N])) 1 (O.row 31 none [sl jj,gC cs])) 2 z7;let z8:=O.row 3 (some 1) y4;let z3:=List.set jj z0 N;let z4:=O.row 31 none z1;let y1:=(↑(z0):Int);let y2:=Ad (Aj (0+0) z1);let z5:=O.row 3 (some 1) (Ab z3);An [V.agg [sl z3,gC cs]=gV z3 cs,An [A3 (pt z2 3 (O.row 3 none [])) 1 (sl jj)=some (jj.length,y4),A3 (pt z2 3 (O.row 3 none [])) 1 (V.sl 3 0 0 (some 0))=some (0,[]),1≤jj.length,jj.length≤9223372036854775807,jj.length*8≤140737488355328],An [Sm (V.ptr 0 0),Sm (V.ptr 1 0),z9=z9,Sm (V.ptr 5 0),i6 0=i6 ↑(0:Nat),Tt],Sat Pg none 0 (at' 7 [1,1,0,1,0]) (A4 g0 138 (bcS 0) (pt (pt (pt (pt z2 3 (O.row 3 none [])) 4 z8) 5 z7) 5 z4) 6 ([5]++([]++[]))) (Qcd g0 138 (Ex.exit 0) (fun x=>bcX) fun hl H nx lg=>∃hs,BH b a N jj cs cs hl hs H nx),∀(h:Nat)(H:T O)(nx:Nat)(lg:List Nat),(∃hs,BH b a N jj cs cs h hs H nx)→An [gt H 0=y0,Ad (Aj (0+0) y5)=some (w8 b),Int.tmod b (6:Int)=b%(6:Int),(b%(6:Int)==(0:Int))=true,gt H 5=some z4,y2=some z6,gt H 0=y0,Ad (Aj 1 y5)=some (w8 a),wr .i64 a=a,gt H 5=some z4,y2=some z6,Ai (Qac Pg) .rem 3 (i6 a) (i6 ↑jj.length)=some (i6 y1),gt H 0=y0,Ad (Aj (0+2) y5)=some (i6 N),An [(0:Int)≤y1,y1<y3],An [gt H 4=some z8,Ax (0+z0*1) y4 [i6 N]=some (Ab z3)],gt (pt H 4 z5) 5=some z4,A6 2 z1=some z1,An [gt (pt H 4 z5) 2=some n2,Ax 0 [V.nils,V.nils] z1=some z1],An [z9=z9,Tt],Gc 0 [2] (A4 g0 138 [(4,z9)] (pt (pt H 4 z5) 2 z4) nx ([2]++([4]++lg))) (Ah g0 138 (SL.mk [(4,V.ptr 0 0)] [O.row 31 none [sl z3,gC cs]] [] []))]])=_) ?_
 (repeat'(first|(with_reducible apply And.intro)|(refine fun(_:True)=>?_)))
 all_goals first|with_reducible rfl|exact trivial|omega|with_reducible assumption|with_reducible exact jn _|with_reducible exact Qa2 (t:=3) (sp:=none) (by kernel_rfl)|exact jt _ _ _ ⟨by kernel_rfl,by kernel_rfl,by kernel_rfl,by kernel_rfl,by kernel_rfl,by decide⟩|rfl|skip
 intro hl H nx lg hQ
 obtain⟨hs,⟨b0,b1,b2,b4,b5,b6⟩,hRw⟩:=hQ
 rw[hR]at b5
 have hq:=hRw.sees o_
 rw[hR]at hq
 have q1:0<=a%(jj.length:Int):=Int.emod_nonneg _ o_
 have q2:a%(jj.length:Int)<jj.length:=Int.emod_lt_of_pos _ o_
 have e1:Ai (Qac Pg) .rem 3 (i6 a) (i6 jj.length)=some (i6 (((a%(jj.length:Int)).toNat:Nat):Int)):=by
  rw[Db (by omega),Int.tmod_eq_emod_of_nonneg ha.1,Int.toNat_of_nonneg q1]
 have q3:(a%(jj.length:Int)).toNat<jj.length:=by omega
 generalize (a%(jj.length:Int)).toNat=k at*
 have hlay:=@Qdk jj k N q3
 (repeat'(first|(with_reducible apply And.intro)|(refine fun(_:True)=>?_)))
 all_goals first|with_reducible rfl|exact trivial|omega|with_reducible assumption|(with_reducible exact decide_eq_true (by omega))|(with_reducible refine Qat ?_;omega)|(with_reducible refine Qan ?_;omega)|with_reducible exact Qcb hb|with_reducible exact Qcs ha|(rw[Qcb hb];exact wr8 (by omega) (by omega))|(rw[Qcs ha];exact wr8 (by omega) (by omega))|(with_reducible refine Dt ?_ ?_ ?_<;>omega)|with_reducible exact Qal (by omega)|((repeat(first|(rw[Qad,if_pos (by first|rfl|omega)])|(rw[Qad,if_neg (by omega)])))<;>first|assumption|rfl)|rfl|skip
 refine Qc9 (cv:=.sl 4 0 jj.length none) (lv:=V.nils) ?_ ?_ (.inr (.inr ⟨4,0,none,3,some 1,Ab (jj.set k N),?_,?_,?_,rfl⟩)) ?_
 ·omega
 ·((repeat(first|(rw[Qad,if_pos (by first|rfl|omega)])|(rw[Qad,if_neg o_])))<;>first|assumption|rfl)
 ·rw[List.length_set]
 ·omega
 ·((repeat(first|(rw[Qad,if_pos (by first|rfl|omega)])|(rw[Qad,if_neg o_])))<;>first|assumption|rfl)
 have:=(hRw.mono (H':=pt (pt H 4 (O.row 3 (some 1) (Ab (jj.set k N)))) 2 (O.row 31 none [V.sl 4 0 jj.length none,V.nils])) (fun g hg=>by rw[Qad,if_neg o_,Qad,if_neg o_]) (Nat.le_refl _)).sees o_
 rwa [hR]at this
theorem bend4z(b a N:Int)(jj:List Int)(cs:List (List Int))(hb:0<=b/\b<=255)(ha:0<=a/\a<=255)(h1:1<=jj.length)(h6:jj.length<=6)(jy:Qa4 jj.length cs)(h40:cs.length<=40)(hR:cs.length=0)(h0:b%6=4):Ac Pg g0 7 [beV b a N,gV jj cs] (gV [4,4,4,4,4,4] []):=by
 have jt:=fun H nx lg hB=>Qb3 b a N jj cs h1 o_ jy o_ H nx lg hB
 have jn:=fun H=>@Qcj H jj
 refine Ac.of_vcX (n:=1000) (r:=[2]) (sl:=[(4,.ptr 2 0)]) (S:={sl:=[(4,.ptr 0 0)],os:=[.row 31 none [sl [4,4,4,4,4,4],gC []]]}) (hs:=[(12,.cp jj.length (Ab jj)),(0,.loopM (bcS 0) (.exit 0) (fun _=>bcX) (fun hl H nx lg=>∃hs,BH b a N jj cs cs hl hs H nx) (fun hl H nx lg=>[lo_ 36 (bdO b a N) (w8 b),nu 37 (b%6),no 38,lo_ 53 (bdO b a N) (w8 b),nu 54 (b%6),no 55,lo_ 86 (bdO b a N) (w8 b),nu 87 (b%6),no 88,lo_ 114 (bdO b a N) (w8 b),nu 115 (b%6),no 116,lo_ 132 (bdO b a N) (w8 b),nu 133 (b%6),yes 134,so (.row 31 none [.sl 4 0 jj.length none,.nils]) [.sl nx 0 6 (some 0),.nils],lo_ 137 (.row 31 none [.sl nx 0 6 (some 0),.nils]) (.agg [.sl nx 0 6 (some 0),.nils]),so n2 [.sl nx 0 6 (some 0),.nils]]))]) ?_
 refine Eq.mp (by kernel_rfl:(let z1:=O.row 3 none [i6 4,i6 4,i6 4,i6 4,i6 4,i6 4];let z3:=Ad (Aj (0+0) (bdL b a N));let z4:=(6:Int);let z5:=[V.sl 4 0 jj.length none,V.nils];let z6:=some (bdO b a N);let z8:=(4:Int);let z9:=some (w8 b);let y0:=O.row 31 none [V.nils,V.nils];let y1:=V.ptr 2 0;let z0:=pt (pt (pt T.e 0 (O.row 27 none [w8 b,w8 a,i6 N])) 1 (O.row 31 none [sl jj,gC cs])) 2 y0;let z2:=[z8,z8,z8,z8,z8,z8];let z7:=Int.tmod b z4;An [V.agg [sl z2,gC []]=gV z2 [],An [A3 (pt z0 3 (O.row 3 none [])) 1 (sl jj)=some (jj.length,Ab jj),A3 (pt z0 3 (O.row 3 none [])) 1 (V.sl 3 0 0 (some 0))=some (0,[]),1≤jj.length,jj.length≤9223372036854775807,jj.length*8≤140737488355328],An [Sm (V.ptr 0 0),Sm (V.ptr 1 0),y1=y1,Sm (V.ptr 5 0),i6 0=i6 ↑(0:Nat),Tt],Sat Pg none 0 (at' 7 [1,1,0,1,0]) (A4 g0 138 (bcS 0) (pt (pt (pt (pt z0 3 (O.row 3 none [])) 4 (O.row 3 (some 1) (Ab jj))) 5 y0) 5 (O.row 31 none z5)) 6 ([5]++([]++[]))) (Qcd g0 138 (Ex.exit 0) (fun x=>bcX) fun hl H nx lg=>∃hs,BH b a N jj cs cs hl hs H nx),∀(h:Nat)(H:T O)(nx:Nat)(lg:List Nat),(∃hs,BH b a N jj cs cs h hs H nx)→An [gt H 0=z6,z3=z9,z7=b%z4,(b%z4==(0:Int))=false,gt H 0=z6,z3=z9,z7=b%z4,(b%z4==(1:Int))=false,gt H 0=z6,z3=z9,z7=b%z4,(b%z4==(2:Int))=false,gt H 0=z6,z3=z9,z7=b%z4,(b%z4==(3:Int))=false,gt H 0=z6,z3=z9,z7=b%z4,(b%z4==z8)=true,An [gt (pt H nx z1) 5=some (O.row 31 none z5),Ax 0 z5 [V.sl nx 0 6 (some 0),V.nils]=some [V.sl nx 0 6 (some 0),V.nils]],gt (pt (pt H nx z1) 5 (O.row 31 none [V.sl nx 0 6 (some 0),V.nils])) 5=some (O.row 31 none [V.sl nx 0 6 (some 0),V.nils]),A6 2 [V.sl nx 0 6 (some 0),V.nils]=some [V.sl nx 0 6 (some 0),V.nils],An [gt (pt (pt H nx z1) 5 (O.row 31 none [V.sl nx 0 6 (some 0),V.nils])) 2=some n2,Ax 0 [V.nils,V.nils] [V.sl nx 0 6 (some 0),V.nils]=some [V.sl nx 0 6 (some 0),V.nils]],An [y1=y1,Tt],Gc 0 [2] (A4 g0 138 [(4,y1)] (pt (pt (pt H nx z1) 5 (O.row 31 none [V.sl nx 0 6 (some 0),V.nils])) 2 (O.row 31 none [V.sl nx 0 6 (some 0),V.nils])) (nx+1) ([2]++([5]++lg))) (Ah g0 138 (SL.mk [(4,V.ptr 0 0)] [O.row 31 none [sl z2,gC []]] [] []))]])=_) ?_
 (repeat'(first|(with_reducible apply And.intro)|(refine fun(_:True)=>?_)))
 all_goals first|with_reducible rfl|exact trivial|omega|with_reducible assumption|with_reducible exact jn _|with_reducible exact Qa2 (t:=3) (sp:=none) (by kernel_rfl)|exact jt _ _ _ ⟨by kernel_rfl,by kernel_rfl,by kernel_rfl,by kernel_rfl,by kernel_rfl,by decide⟩|rfl|skip
 intro hl H nx lg hQ
 obtain⟨hs,⟨b0,b1,b2,b4,b5,b6⟩,hRw⟩:=hQ
 rw[hR]at b5
 have hq:=hRw.sees (by omega)
 rw[hR]at hq
 (repeat'(first|(with_reducible apply And.intro)|(refine fun(_:True)=>?_)))
 all_goals first|with_reducible rfl|exact trivial|omega|with_reducible assumption|(with_reducible exact decide_eq_true (by omega))|(with_reducible refine Qat ?_;omega)|(with_reducible refine Qan ?_;omega)|with_reducible exact Qcb hb|with_reducible exact Qcs ha|(rw[Qcb hb];exact wr8 (by omega) (by omega))|(rw[Qcs ha];exact wr8 (by omega) (by omega))|(with_reducible refine Dt ?_ ?_ ?_<;>omega)|with_reducible exact Qal (by omega)|((repeat(first|(rw[Qad,if_pos (by first|rfl|omega)])|(rw[Qad,if_neg (by omega)])))<;>first|assumption|rfl)|rfl|skip
 refine Qc9 (cv:=.sl nx 0 6 (some 0)) (lv:=.nils) ?_ ?_ (.inr (.inr ⟨nx,0,some 0,3,none,Ab [4,4,4,4,4,4],rfl,?_,?_,rfl⟩)) (.inl ⟨rfl,rfl⟩)
 ·omega
 ·((repeat(first|(rw[Qad,if_pos (by first|rfl|omega)])|(rw[Qad,if_neg o_])))<;>first|assumption|rfl)
 ·omega
 ·((repeat(first|(rw[Qad,if_pos (by first|rfl|omega)])|(rw[Qad,if_neg o_])))<;>first|assumption|rfl)
theorem bend5z(b a N:Int)(jj:List Int)(cs:List (List Int))(hb:0<=b/\b<=255)(ha:0<=a/\a<=255)(h1:1<=jj.length)(h6:jj.length<=6)(jy:Qa4 jj.length cs)(h40:cs.length<=40)(hR:cs.length=0)(h0:b%6=5):Ac Pg g0 7 [beV b a N,gV jj cs] (gV [] cs):=by
 have jt:=fun H nx lg hB=>Qb3 b a N jj cs h1 o_ jy o_ H nx lg hB
 have jn:=fun H=>@Qcj H jj
 refine Ac.of_vcX (n:=1000) (r:=[2]) (sl:=[(4,.ptr 2 0)]) (S:={sl:=[(4,.ptr 0 0)],os:=[.row 31 none [sl [],gC cs]]}) (hs:=[(12,.cp jj.length (Ab jj)),(0,.loopM (bcS 0) (.exit 0) (fun _=>bcX) (fun hl H nx lg=>∃hs,BH b a N jj cs cs hl hs H nx) (fun hl H nx lg=>[lo_ 36 (bdO b a N) (w8 b),nu 37 (b%6),no 38,lo_ 53 (bdO b a N) (w8 b),nu 54 (b%6),no 55,lo_ 86 (bdO b a N) (w8 b),nu 87 (b%6),no 88,lo_ 114 (bdO b a N) (w8 b),nu 115 (b%6),no 116,lo_ 132 (bdO b a N) (w8 b),nu 133 (b%6),no 134,so (.row 31 none [.sl 4 0 jj.length none,.nils]) [.nils,.nils],lo_ 137 (.row 31 none [.nils,.nils]) (.agg [.nils,.nils]),so n2 [.nils,.nils]]))]) ?_
 refine Eq.mp (by kernel_rfl:(let z2:=Ad (Aj (0+0) (bdL b a N));let z3:=(6:Int);let z4:=[V.nils,V.nils];let z5:=[V.sl 4 0 jj.length none,V.nils];let z6:=some (bdO b a N);let z8:=some (w8 b);let z9:=V.ptr 2 0;let z1:=O.row 31 none z4;let z7:=Int.tmod b z3;let z0:=pt (pt (pt T.e 0 (O.row 27 none [w8 b,w8 a,i6 N])) 1 (O.row 31 none [sl jj,gC cs])) 2 z1;An [V.agg [sl [],gC cs]=gV [] cs,An [A3 (pt z0 3 (O.row 3 none [])) 1 (sl jj)=some (jj.length,Ab jj),A3 (pt z0 3 (O.row 3 none [])) 1 (V.sl 3 0 0 (some 0))=some (0,[]),1≤jj.length,jj.length≤9223372036854775807,jj.length*8≤140737488355328],An [Sm (V.ptr 0 0),Sm (V.ptr 1 0),z9=z9,Sm (V.ptr 5 0),i6 0=i6 ↑(0:Nat),Tt],Sat Pg none 0 (at' 7 [1,1,0,1,0]) (A4 g0 138 (bcS 0) (pt (pt (pt (pt z0 3 (O.row 3 none [])) 4 (O.row 3 (some 1) (Ab jj))) 5 z1) 5 (O.row 31 none z5)) 6 ([5]++([]++[]))) (Qcd g0 138 (Ex.exit 0) (fun x=>bcX) fun hl H nx lg=>∃hs,BH b a N jj cs cs hl hs H nx),∀(h:Nat)(H:T O)(nx:Nat)(lg:List Nat),(∃hs,BH b a N jj cs cs h hs H nx)→An [gt H 0=z6,z2=z8,z7=b%z3,(b%z3==(0:Int))=false,gt H 0=z6,z2=z8,z7=b%z3,(b%z3==(1:Int))=false,gt H 0=z6,z2=z8,z7=b%z3,(b%z3==(2:Int))=false,gt H 0=z6,z2=z8,z7=b%z3,(b%z3==(3:Int))=false,gt H 0=z6,z2=z8,z7=b%z3,(b%z3==(4:Int))=false,An [gt H 5=some (O.row 31 none z5),Ax (0+0) z5 [V.nils]=some z4],gt (pt H 5 z1) 5=some z1,A6 2 z4=some z4,An [gt (pt H 5 z1) 2=some n2,Ax 0 z4 z4=some z4],An [z9=z9,Tt],Gc 0 [2] (A4 g0 138 [(4,z9)] (pt (pt H 5 z1) 2 z1) nx ([2]++([5]++lg))) (Ah g0 138 (SL.mk [(4,V.ptr 0 0)] [O.row 31 none [sl [],gC cs]] [] []))]])=_) ?_
 (repeat'(first|(with_reducible apply And.intro)|(refine fun(_:True)=>?_)))
 all_goals first|with_reducible rfl|exact trivial|omega|with_reducible assumption|with_reducible exact jn _|with_reducible exact Qa2 (t:=3) (sp:=none) (by kernel_rfl)|exact jt _ _ _ ⟨by kernel_rfl,by kernel_rfl,by kernel_rfl,by kernel_rfl,by kernel_rfl,by decide⟩|rfl|skip
 intro hl H nx lg hQ
 obtain⟨hs,⟨b0,b1,b2,b4,b5,b6⟩,hRw⟩:=hQ
 rw[hR]at b5
 have hq:=hRw.sees (by omega)
 rw[hR]at hq
 (repeat'(first|(with_reducible apply And.intro)|(refine fun(_:True)=>?_)))
 all_goals first|with_reducible rfl|exact trivial|omega|with_reducible assumption|(with_reducible exact decide_eq_true (by omega))|(with_reducible refine Qat ?_;omega)|(with_reducible refine Qan ?_;omega)|with_reducible exact Qcb hb|with_reducible exact Qcs ha|(rw[Qcb hb];exact wr8 (by omega) (by omega))|(rw[Qcs ha];exact wr8 (by omega) (by omega))|(with_reducible refine Dt ?_ ?_ ?_<;>omega)|with_reducible exact Qal (by omega)|((repeat(first|(rw[Qad,if_pos (by first|rfl|omega)])|(rw[Qad,if_neg (by omega)])))<;>first|assumption|rfl)|rfl|skip
 refine Qc9 (cv:=.nils) (lv:=V.nils) ?_ ?_ (.inr (.inl ⟨rfl,rfl⟩)) ?_
 ·omega
 ·((repeat(first|(rw[Qad,if_pos (by first|rfl|omega)])|(rw[Qad,if_neg o_])))<;>first|assumption|rfl)
 have:=(hRw.mono (H':=pt (pt H 5 (O.row 31 none [V.nils,V.nils])) 2 (O.row 31 none [V.nils,V.nils])) (fun g hg=>by rw[Qad,if_neg o_,Qad,if_neg o_]) (Nat.le_refl _)).sees o_
 rwa [hR]at this
theorem bend1z(b a N:Int)(jj:List Int)(cs:List (List Int))(hb:0<=b/\b<=255)(ha:0<=a/\a<=255)(h1:1<=jj.length)(h6:jj.length<=6)(jy:Qa4 jj.length cs)(h40:cs.length<=40)(hR:cs.length=0)(h0:b%6=1):Ac Pg g0 7 [beV b a N,gV jj cs] (gV [] cs):=by
 have jt:=fun H nx lg hB=>Qb3 b a N jj cs h1 o_ jy o_ H nx lg hB
 have jn:=fun H=>@Qcj H jj
 refine Ac.of_vcX (n:=1000) (r:=[2]) (sl:=[(4,.ptr 2 0)]) (S:={sl:=[(4,.ptr 0 0)],os:=[.row 31 none [sl [],gC cs]]}) (hs:=[(12,.cp jj.length (Ab jj)),(0,.loopM (bcS 0) (.exit 0) (fun _=>bcX) (fun hl H nx lg=>∃hs,BH b a N jj cs cs hl hs H nx) (fun hl H nx lg=>[lo_ 36 (bdO b a N) (w8 b),nu 37 (b%6),no 38,lo_ 53 (bdO b a N) (w8 b),nu 54 (b%6),yes 55,lo_ 58 (.row 31 none [.sl 4 0 jj.length none,.nils]) .nils,lo_ 86 (bdO b a N) (w8 b),nu 87 (b%6),no 88,lo_ 114 (bdO b a N) (w8 b),nu 115 (b%6),no 116,lo_ 132 (bdO b a N) (w8 b),nu 133 (b%6),no 134,so (.row 31 none [.sl 4 0 jj.length none,.nils]) [.nils,.nils],lo_ 137 (.row 31 none [.nils,.nils]) (.agg [.nils,.nils]),so n2 [.nils,.nils]]))]) ?_
 refine Eq.mp (by kernel_rfl:(let z2:=[V.sl 4 0 jj.length none,V.nils];let z3:=Ad (Aj (0+0) (bdL b a N));let z4:=(6:Int);let z5:=[V.nils,V.nils];let z6:=some (bdO b a N);let z8:=some (w8 b);let y0:=V.ptr 2 0;let z1:=O.row 31 none z5;let z7:=Int.tmod b z4;let z9:=O.row 31 none z2;let z0:=pt (pt (pt T.e 0 (O.row 27 none [w8 b,w8 a,i6 N])) 1 (O.row 31 none [sl jj,gC cs])) 2 z1;An [V.agg [sl [],gC cs]=gV [] cs,An [A3 (pt z0 3 (O.row 3 none [])) 1 (sl jj)=some (jj.length,Ab jj),A3 (pt z0 3 (O.row 3 none [])) 1 (V.sl 3 0 0 (some 0))=some (0,[]),1≤jj.length,jj.length≤9223372036854775807,jj.length*8≤140737488355328],An [Sm (V.ptr 0 0),Sm (V.ptr 1 0),y0=y0,Sm (V.ptr 5 0),i6 0=i6 ↑(0:Nat),Tt],Sat Pg none 0 (at' 7 [1,1,0,1,0]) (A4 g0 138 (bcS 0) (pt (pt (pt (pt z0 3 (O.row 3 none [])) 4 (O.row 3 (some 1) (Ab jj))) 5 z1) 5 z9) 6 ([5]++([]++[]))) (Qcd g0 138 (Ex.exit 0) (fun x=>bcX) fun hl H nx lg=>∃hs,BH b a N jj cs cs hl hs H nx),∀(h:Nat)(H:T O)(nx:Nat)(lg:List Nat),(∃hs,BH b a N jj cs cs h hs H nx)→An [gt H 0=z6,z3=z8,z7=b%z4,(b%z4==(0:Int))=false,gt H 0=z6,z3=z8,z7=b%z4,(b%z4==(1:Int))=true,gt H 5=some z9,Ad (Aj 1 z2)=some V.nils,gt H 0=z6,z3=z8,z7=b%z4,(b%z4==(2:Int))=false,gt H 0=z6,z3=z8,z7=b%z4,(b%z4==(3:Int))=false,gt H 0=z6,z3=z8,z7=b%z4,(b%z4==(4:Int))=false,An [gt H 5=some z9,Ax (0+0) z2 [V.nils]=some z5],gt (pt H 5 z1) 5=some z1,A6 2 z5=some z5,An [gt (pt H 5 z1) 2=some n2,Ax 0 z5 z5=some z5],An [y0=y0,Tt],Gc 0 [2] (A4 g0 138 [(4,y0)] (pt (pt H 5 z1) 2 z1) nx ([2]++([5]++lg))) (Ah g0 138 (SL.mk [(4,V.ptr 0 0)] [O.row 31 none [sl [],gC cs]] [] []))]])=_) ?_
 (repeat'(first|(with_reducible apply And.intro)|(refine fun(_:True)=>?_)))
 all_goals first|with_reducible rfl|exact trivial|omega|with_reducible assumption|with_reducible exact jn _|with_reducible exact Qa2 (t:=3) (sp:=none) (by kernel_rfl)|exact jt _ _ _ ⟨by kernel_rfl,by kernel_rfl,by kernel_rfl,by kernel_rfl,by kernel_rfl,by decide⟩|rfl|skip
 intro hl H nx lg hQ
 obtain⟨hs,⟨b0,b1,b2,b4,b5,b6⟩,hRw⟩:=hQ
 rw[hR]at b5
 have hq:=hRw.sees (by omega)
 rw[hR]at hq
 (repeat'(first|(with_reducible apply And.intro)|(refine fun(_:True)=>?_)))
 all_goals first|with_reducible rfl|exact trivial|omega|with_reducible assumption|(with_reducible exact decide_eq_true (by omega))|(with_reducible refine Qat ?_;omega)|(with_reducible refine Qan ?_;omega)|with_reducible exact Qcb hb|with_reducible exact Qcs ha|(rw[Qcb hb];exact wr8 (by omega) (by omega))|(rw[Qcs ha];exact wr8 (by omega) (by omega))|(with_reducible refine Dt ?_ ?_ ?_<;>omega)|with_reducible exact Qal (by omega)|((repeat(first|(rw[Qad,if_pos (by first|rfl|omega)])|(rw[Qad,if_neg (by omega)])))<;>first|assumption|rfl)|rfl|skip
 refine Qc9 (cv:=.nils) (lv:=V.nils) ?_ ?_ (.inr (.inl ⟨rfl,rfl⟩)) ?_
 ·omega
 ·((repeat(first|(rw[Qad,if_pos (by first|rfl|omega)])|(rw[Qad,if_neg o_])))<;>first|assumption|rfl)
 have:=(hRw.mono (H':=pt (pt H 5 (O.row 31 none [V.nils,V.nils])) 2 (O.row 31 none [V.nils,V.nils])) (fun g hg=>by rw[Qad,if_neg o_,Qad,if_neg o_]) (Nat.le_refl _)).sees o_
 rwa [hR]at this
theorem bend2z(b a N:Int)(jj:List Int)(cs:List (List Int))(hb:0<=b/\b<=255)(ha:0<=a/\a<=255)(h1:1<=jj.length)(h6:jj.length<=6)(jy:Qa4 jj.length cs)(h40:cs.length<=40)(hR:cs.length=0)(h0:b%6=2):Ac Pg g0 7 [beV b a N,gV jj cs] (gV [] cs):=by
 have jt:=fun H nx lg hB=>Qb3 b a N jj cs h1 o_ jy o_ H nx lg hB
 have jn:=fun H=>@Qcj H jj
 refine Ac.of_vcX (n:=1000) (r:=[2]) (sl:=[(4,.ptr 2 0)]) (S:={sl:=[(4,.ptr 0 0)],os:=[.row 31 none [sl [],gC cs]]}) (hs:=[(12,.cp jj.length (Ab jj)),(0,.loopM (bcS 0) (.exit 0) (fun _=>bcX) (fun hl H nx lg=>∃hs,BH b a N jj cs cs hl hs H nx) (fun hl H nx lg=>[lo_ 36 (bdO b a N) (w8 b),nu 37 (b%6),no 38,lo_ 53 (bdO b a N) (w8 b),nu 54 (b%6),no 55,lo_ 86 (bdO b a N) (w8 b),nu 87 (b%6),yes 88,lo_ 91 (.row 31 none [.sl 4 0 jj.length none,.nils]) .nils,lo_ 114 (bdO b a N) (w8 b),nu 115 (b%6),no 116,lo_ 132 (bdO b a N) (w8 b),nu 133 (b%6),no 134,so (.row 31 none [.sl 4 0 jj.length none,.nils]) [.nils,.nils],lo_ 137 (.row 31 none [.nils,.nils]) (.agg [.nils,.nils]),so n2 [.nils,.nils]]))]) ?_
 refine Eq.mp (by kernel_rfl:(let z2:=[V.sl 4 0 jj.length none,V.nils];let z3:=Ad (Aj (0+0) (bdL b a N));let z4:=(6:Int);let z5:=[V.nils,V.nils];let z6:=some (bdO b a N);let z8:=some (w8 b);let y0:=V.ptr 2 0;let z1:=O.row 31 none z5;let z7:=Int.tmod b z4;let z9:=O.row 31 none z2;let z0:=pt (pt (pt T.e 0 (O.row 27 none [w8 b,w8 a,i6 N])) 1 (O.row 31 none [sl jj,gC cs])) 2 z1;An [V.agg [sl [],gC cs]=gV [] cs,An [A3 (pt z0 3 (O.row 3 none [])) 1 (sl jj)=some (jj.length,Ab jj),A3 (pt z0 3 (O.row 3 none [])) 1 (V.sl 3 0 0 (some 0))=some (0,[]),1≤jj.length,jj.length≤9223372036854775807,jj.length*8≤140737488355328],An [Sm (V.ptr 0 0),Sm (V.ptr 1 0),y0=y0,Sm (V.ptr 5 0),i6 0=i6 ↑(0:Nat),Tt],Sat Pg none 0 (at' 7 [1,1,0,1,0]) (A4 g0 138 (bcS 0) (pt (pt (pt (pt z0 3 (O.row 3 none [])) 4 (O.row 3 (some 1) (Ab jj))) 5 z1) 5 z9) 6 ([5]++([]++[]))) (Qcd g0 138 (Ex.exit 0) (fun x=>bcX) fun hl H nx lg=>∃hs,BH b a N jj cs cs hl hs H nx),∀(h:Nat)(H:T O)(nx:Nat)(lg:List Nat),(∃hs,BH b a N jj cs cs h hs H nx)→An [gt H 0=z6,z3=z8,z7=b%z4,(b%z4==(0:Int))=false,gt H 0=z6,z3=z8,z7=b%z4,(b%z4==(1:Int))=false,gt H 0=z6,z3=z8,z7=b%z4,(b%z4==(2:Int))=true,gt H 5=some z9,Ad (Aj 1 z2)=some V.nils,gt H 0=z6,z3=z8,z7=b%z4,(b%z4==(3:Int))=false,gt H 0=z6,z3=z8,z7=b%z4,(b%z4==(4:Int))=false,An [gt H 5=some z9,Ax (0+0) z2 [V.nils]=some z5],gt (pt H 5 z1) 5=some z1,A6 2 z5=some z5,An [gt (pt H 5 z1) 2=some n2,Ax 0 z5 z5=some z5],An [y0=y0,Tt],Gc 0 [2] (A4 g0 138 [(4,y0)] (pt (pt H 5 z1) 2 z1) nx ([2]++([5]++lg))) (Ah g0 138 (SL.mk [(4,V.ptr 0 0)] [O.row 31 none [sl [],gC cs]] [] []))]])=_) ?_
 (repeat'(first|(with_reducible apply And.intro)|(refine fun(_:True)=>?_)))
 all_goals first|with_reducible rfl|exact trivial|omega|with_reducible assumption|with_reducible exact jn _|with_reducible exact Qa2 (t:=3) (sp:=none) (by kernel_rfl)|exact jt _ _ _ ⟨by kernel_rfl,by kernel_rfl,by kernel_rfl,by kernel_rfl,by kernel_rfl,by decide⟩|rfl|skip
 intro hl H nx lg hQ
 obtain⟨hs,⟨b0,b1,b2,b4,b5,b6⟩,hRw⟩:=hQ
 rw[hR]at b5
 have hq:=hRw.sees (by omega)
 rw[hR]at hq
 (repeat'(first|(with_reducible apply And.intro)|(refine fun(_:True)=>?_)))
 all_goals first|with_reducible rfl|exact trivial|omega|with_reducible assumption|(with_reducible exact decide_eq_true (by omega))|(with_reducible refine Qat ?_;omega)|(with_reducible refine Qan ?_;omega)|with_reducible exact Qcb hb|with_reducible exact Qcs ha|(rw[Qcb hb];exact wr8 (by omega) (by omega))|(rw[Qcs ha];exact wr8 (by omega) (by omega))|(with_reducible refine Dt ?_ ?_ ?_<;>omega)|with_reducible exact Qal (by omega)|((repeat(first|(rw[Qad,if_pos (by first|rfl|omega)])|(rw[Qad,if_neg (by omega)])))<;>first|assumption|rfl)|rfl|skip
 refine Qc9 (cv:=.nils) (lv:=V.nils) ?_ ?_ (.inr (.inl ⟨rfl,rfl⟩)) ?_
 ·omega
 ·((repeat(first|(rw[Qad,if_pos (by first|rfl|omega)])|(rw[Qad,if_neg o_])))<;>first|assumption|rfl)
 have:=(hRw.mono (H':=pt (pt H 5 (O.row 31 none [V.nils,V.nils])) 2 (O.row 31 none [V.nils,V.nils])) (fun g hg=>by rw[Qad,if_neg o_,Qad,if_neg o_]) (Nat.le_refl _)).sees o_
 rwa [hR]at this
theorem bend0s(m:Nat)(b a N:Int)(jj:List Int)(cs:List (List Int))(hb:0<=b/\b<=255)(ha:0<=a/\a<=255)(h1:1<=jj.length)(h6:jj.length<=6)(jy:Qa4 jj.length cs)(h40:cs.length<=40)(hR:cs.length=m+1)(h0:b%6=0):Ac Pg g0 7 [beV b a N,gV jj cs] (gV (jj.set (a%(jj.length:Int)).toNat N) cs):=by
 have jt:=fun H nx lg hB=>Qb3 b a N jj cs h1 o_ jy o_ H nx lg hB
 have jn:=fun H=>@Qcj H jj
 refine Ac.of_vcX (n:=1000) (r:=[2]) (sl:=[(4,.ptr 2 0)]) (S:={sl:=[(4,.ptr 0 0)],os:=[.row 31 none [sl (jj.set (a%(jj.length:Int)).toNat N),gC cs]]}) (hs:=[(12,.cp jj.length (Ab jj)),(0,.loopM (bcS 0) (.exit 0) (fun _=>bcX) (fun hl H nx lg=>∃hs,BH b a N jj cs cs hl hs H nx) (fun hl H nx lg=>[lo_ 36 (bdO b a N) (w8 b),nu 37 (b%6),yes 38,lo_ 40 (.row 31 none [.sl 4 0 jj.length none,.sl hl 0 (m+1) none]) (.sl 4 0 jj.length none),lo_ 42 (bdO b a N) (w8 a),nu 43 a,lo_ 45 (.row 31 none [.sl 4 0 jj.length none,.sl hl 0 (m+1) none]) (.sl 4 0 jj.length none),va 47 (i6 ((a%(jj.length:Int)).toNat:Nat)),lo_ 49 (bdO b a N) (i6 N),pl 50,so (.row 3 (some 1) (Ab jj)) (Ab (jj.set (a%(jj.length:Int)).toNat N)),lo_ 137 (.row 31 none [.sl 4 0 jj.length none,.sl hl 0 (m+1) none]) (.agg [.sl 4 0 jj.length none,.sl hl 0 (m+1) none]),so n2 [.sl 4 0 jj.length none,.sl hl 0 (m+1) none]]))]) ?_
 refine Eq.mp (by kernel_rfl:(let z1:=V.sl 4 0 jj.length none;let z5:=O.row 31 none [V.nils,V.nils];let z7:=V.ptr 2 0;let z8:=some (bdO b a N);let y0:=(↑jj.length:Int);let y1:=Ab jj;let y2:=bdL b a N;let z0:=Int.toNat (a%y0);let z2:=pt (pt (pt T.e 0 (O.row 27 none [w8 b,w8 a,i6 N])) 1 (O.row 31 none [sl jj,gC cs])) 2 z5;let z6:=O.row 3 (some 1) y1;let z3:=List.set jj z0 N;let z9:=(↑(z0):Int);let z4:=O.row 3 (some 1) (Ab z3);An [V.agg [sl z3,gC cs]=gV z3 cs,An [A3 (pt z2 3 (O.row 3 none [])) 1 (sl jj)=some (jj.length,y1),A3 (pt z2 3 (O.row 3 none [])) 1 (V.sl 3 0 0 (some 0))=some (0,[]),1≤jj.length,jj.length≤9223372036854775807,jj.length*8≤140737488355328],An [Sm (V.ptr 0 0),Sm (V.ptr 1 0),z7=z7,Sm (V.ptr 5 0),i6 0=i6 ↑(0:Nat),Tt],Sat Pg none 0 (at' 7 [1,1,0,1,0]) (A4 g0 138 (bcS 0) (pt (pt (pt (pt z2 3 (O.row 3 none [])) 4 z6) 5 z5) 5 (O.row 31 none [z1,V.nils])) 6 ([5]++([]++[]))) (Qcd g0 138 (Ex.exit 0) (fun x=>bcX) fun hl H nx lg=>∃hs,BH b a N jj cs cs hl hs H nx),∀(h:Nat)(H:T O)(nx:Nat)(lg:List Nat),(∃hs,BH b a N jj cs cs h hs H nx)→An [gt H 0=z8,Ad (Aj (0+0) y2)=some (w8 b),Int.tmod b (6:Int)=b%(6:Int),(b%(6:Int)==(0:Int))=true,gt H 5=some (O.row 31 none [z1,V.sl h 0 (m+1) none]),Ad (Aj (0+0) [z1,V.sl h 0 (m+1) none])=some z1,gt H 0=z8,Ad (Aj 1 y2)=some (w8 a),wr .i64 a=a,gt H 5=some (O.row 31 none [z1,V.sl h 0 (m+1) none]),Ad (Aj (0+0) [z1,V.sl h 0 (m+1) none])=some z1,Ai (Qac Pg) .rem 3 (i6 a) (i6 ↑jj.length)=some (i6 z9),gt H 0=z8,Ad (Aj (0+2) y2)=some (i6 N),An [(0:Int)≤z9,z9<y0],An [gt H 4=some z6,Ax (0+z0*1) y1 [i6 N]=some (Ab z3)],gt (pt H 4 z4) 5=some (O.row 31 none [z1,V.sl h 0 (m+1) none]),A6 2 [z1,V.sl h 0 (m+1) none]=some [z1,V.sl h 0 (m+1) none],An [gt (pt H 4 z4) 2=some n2,Ax 0 [V.nils,V.nils] [z1,V.sl h 0 (m+1) none]=some [z1,V.sl h 0 (m+1) none]],An [z7=z7,Tt],Gc 0 [2] (A4 g0 138 [(4,z7)] (pt (pt H 4 z4) 2 (O.row 31 none [z1,V.sl h 0 (m+1) none])) nx ([2]++([4]++lg))) (Ah g0 138 (SL.mk [(4,V.ptr 0 0)] [O.row 31 none [sl z3,gC cs]] [] []))]])=_) ?_
 (repeat'(first|(with_reducible apply And.intro)|(refine fun(_:True)=>?_)))
 all_goals first|with_reducible rfl|exact trivial|omega|with_reducible assumption|with_reducible exact jn _|with_reducible exact Qa2 (t:=3) (sp:=none) (by kernel_rfl)|exact jt _ _ _ ⟨by kernel_rfl,by kernel_rfl,by kernel_rfl,by kernel_rfl,by kernel_rfl,by decide⟩|rfl|skip
 intro hl H nx lg hQ
 obtain⟨hs,⟨b0,b1,b2,b4,b5,b6⟩,hRw⟩:=hQ
 rw[hR]at b5
 have hq:=hRw.sees o_
 rw[hR]at hq
 have q1:0<=a%(jj.length:Int):=Int.emod_nonneg _ o_
 have q2:a%(jj.length:Int)<jj.length:=Int.emod_lt_of_pos _ o_
 have e1:Ai (Qac Pg) .rem 3 (i6 a) (i6 jj.length)=some (i6 (((a%(jj.length:Int)).toNat:Nat):Int)):=by
  rw[Db (by omega),Int.tmod_eq_emod_of_nonneg ha.1,Int.toNat_of_nonneg q1]
 have q3:(a%(jj.length:Int)).toNat<jj.length:=by omega
 generalize (a%(jj.length:Int)).toNat=k at*
 have hlay:=@Qdk jj k N q3
 (repeat'(first|(with_reducible apply And.intro)|(refine fun(_:True)=>?_)))
 all_goals first|with_reducible rfl|exact trivial|omega|with_reducible assumption|(with_reducible exact decide_eq_true (by omega))|(with_reducible refine Qat ?_;omega)|(with_reducible refine Qan ?_;omega)|with_reducible exact Qcb hb|with_reducible exact Qcs ha|(rw[Qcb hb];exact wr8 (by omega) (by omega))|(rw[Qcs ha];exact wr8 (by omega) (by omega))|(with_reducible refine Dt ?_ ?_ ?_<;>omega)|with_reducible exact Qal (by omega)|((repeat(first|(rw[Qad,if_pos (by first|rfl|omega)])|(rw[Qad,if_neg (by omega)])))<;>first|assumption|rfl)|rfl|skip
 refine Qc9 (cv:=.sl 4 0 jj.length none) (lv:=V.sl hl 0 (m+1) none) ?_ ?_ (.inr (.inr ⟨4,0,none,3,some 1,Ab (jj.set k N),?_,?_,?_,rfl⟩)) ?_
 ·omega
 ·((repeat(first|(rw[Qad,if_pos (by first|rfl|omega)])|(rw[Qad,if_neg o_])))<;>first|assumption|rfl)
 ·rw[List.length_set]
 ·omega
 ·((repeat(first|(rw[Qad,if_pos (by first|rfl|omega)])|(rw[Qad,if_neg o_])))<;>first|assumption|rfl)
 have:=(hRw.mono (H':=pt (pt H 4 (O.row 3 (some 1) (Ab (jj.set k N)))) 2 (O.row 31 none [V.sl 4 0 jj.length none,V.sl hl 0 (m+1) none])) (fun g hg=>by rw[Qad,if_neg o_,Qad,if_neg o_]) (Nat.le_refl _)).sees o_
 rwa [hR]at this
theorem bend4s(m:Nat)(b a N:Int)(jj:List Int)(cs:List (List Int))(hb:0<=b/\b<=255)(ha:0<=a/\a<=255)(h1:1<=jj.length)(h6:jj.length<=6)(jy:Qa4 jj.length cs)(h40:cs.length<=40)(hR:cs.length=m+1)(h0:b%6=4):Ac Pg g0 7 [beV b a N,gV jj cs] (gV [4,4,4,4,4,4] []):=by
 have jt:=fun H nx lg hB=>Qb3 b a N jj cs h1 o_ jy o_ H nx lg hB
 have jn:=fun H=>@Qcj H jj
 refine Ac.of_vcX (n:=1000) (r:=[2]) (sl:=[(4,.ptr 2 0)]) (S:={sl:=[(4,.ptr 0 0)],os:=[.row 31 none [sl [4,4,4,4,4,4],gC []]]}) (hs:=[(12,.cp jj.length (Ab jj)),(0,.loopM (bcS 0) (.exit 0) (fun _=>bcX) (fun hl H nx lg=>∃hs,BH b a N jj cs cs hl hs H nx) (fun hl H nx lg=>[lo_ 36 (bdO b a N) (w8 b),nu 37 (b%6),no 38,lo_ 53 (bdO b a N) (w8 b),nu 54 (b%6),no 55,lo_ 86 (bdO b a N) (w8 b),nu 87 (b%6),no 88,lo_ 114 (bdO b a N) (w8 b),nu 115 (b%6),no 116,lo_ 132 (bdO b a N) (w8 b),nu 133 (b%6),yes 134,so (.row 31 none [.sl 4 0 jj.length none,.sl hl 0 (m+1) none]) [.sl nx 0 6 (some 0),.nils],lo_ 137 (.row 31 none [.sl nx 0 6 (some 0),.nils]) (.agg [.sl nx 0 6 (some 0),.nils]),so n2 [.sl nx 0 6 (some 0),.nils]]))]) ?_
 refine Eq.mp (by kernel_rfl:(let z1:=O.row 3 none [i6 4,i6 4,i6 4,i6 4,i6 4,i6 4];let z3:=Ad (Aj (0+0) (bdL b a N));let z4:=(6:Int);let z5:=some (bdO b a N);let z6:=V.sl 4 0 jj.length none;let z8:=(4:Int);let z9:=some (w8 b);let y0:=O.row 31 none [V.nils,V.nils];let y1:=V.ptr 2 0;let z0:=pt (pt (pt T.e 0 (O.row 27 none [w8 b,w8 a,i6 N])) 1 (O.row 31 none [sl jj,gC cs])) 2 y0;let z2:=[z8,z8,z8,z8,z8,z8];let z7:=Int.tmod b z4;An [V.agg [sl z2,gC []]=gV z2 [],An [A3 (pt z0 3 (O.row 3 none [])) 1 (sl jj)=some (jj.length,Ab jj),A3 (pt z0 3 (O.row 3 none [])) 1 (V.sl 3 0 0 (some 0))=some (0,[]),1≤jj.length,jj.length≤9223372036854775807,jj.length*8≤140737488355328],An [Sm (V.ptr 0 0),Sm (V.ptr 1 0),y1=y1,Sm (V.ptr 5 0),i6 0=i6 ↑(0:Nat),Tt],Sat Pg none 0 (at' 7 [1,1,0,1,0]) (A4 g0 138 (bcS 0) (pt (pt (pt (pt z0 3 (O.row 3 none [])) 4 (O.row 3 (some 1) (Ab jj))) 5 y0) 5 (O.row 31 none [z6,V.nils])) 6 ([5]++([]++[]))) (Qcd g0 138 (Ex.exit 0) (fun x=>bcX) fun hl H nx lg=>∃hs,BH b a N jj cs cs hl hs H nx),∀(h:Nat)(H:T O)(nx:Nat)(lg:List Nat),(∃hs,BH b a N jj cs cs h hs H nx)→An [gt H 0=z5,z3=z9,z7=b%z4,(b%z4==(0:Int))=false,gt H 0=z5,z3=z9,z7=b%z4,(b%z4==(1:Int))=false,gt H 0=z5,z3=z9,z7=b%z4,(b%z4==(2:Int))=false,gt H 0=z5,z3=z9,z7=b%z4,(b%z4==(3:Int))=false,gt H 0=z5,z3=z9,z7=b%z4,(b%z4==z8)=true,An [gt (pt H nx z1) 5=some (O.row 31 none [z6,V.sl h 0 (m+1) none]),Ax 0 [z6,V.sl h 0 (m+1) none] [V.sl nx 0 6 (some 0),V.nils]=some [V.sl nx 0 6 (some 0),V.nils]],gt (pt (pt H nx z1) 5 (O.row 31 none [V.sl nx 0 6 (some 0),V.nils])) 5=some (O.row 31 none [V.sl nx 0 6 (some 0),V.nils]),A6 2 [V.sl nx 0 6 (some 0),V.nils]=some [V.sl nx 0 6 (some 0),V.nils],An [gt (pt (pt H nx z1) 5 (O.row 31 none [V.sl nx 0 6 (some 0),V.nils])) 2=some n2,Ax 0 [V.nils,V.nils] [V.sl nx 0 6 (some 0),V.nils]=some [V.sl nx 0 6 (some 0),V.nils]],An [y1=y1,Tt],Gc 0 [2] (A4 g0 138 [(4,y1)] (pt (pt (pt H nx z1) 5 (O.row 31 none [V.sl nx 0 6 (some 0),V.nils])) 2 (O.row 31 none [V.sl nx 0 6 (some 0),V.nils])) (nx+1) ([2]++([5]++lg))) (Ah g0 138 (SL.mk [(4,V.ptr 0 0)] [O.row 31 none [sl z2,gC []]] [] []))]])=_) ?_
 (repeat'(first|(with_reducible apply And.intro)|(refine fun(_:True)=>?_)))
 all_goals first|with_reducible rfl|exact trivial|omega|with_reducible assumption|with_reducible exact jn _|with_reducible exact Qa2 (t:=3) (sp:=none) (by kernel_rfl)|exact jt _ _ _ ⟨by kernel_rfl,by kernel_rfl,by kernel_rfl,by kernel_rfl,by kernel_rfl,by decide⟩|rfl|skip
 intro hl H nx lg hQ
 obtain⟨hs,⟨b0,b1,b2,b4,b5,b6⟩,hRw⟩:=hQ
 rw[hR]at b5
 have hq:=hRw.sees (by omega)
 rw[hR]at hq
 (repeat'(first|(with_reducible apply And.intro)|(refine fun(_:True)=>?_)))
 all_goals first|with_reducible rfl|exact trivial|omega|with_reducible assumption|(with_reducible exact decide_eq_true (by omega))|(with_reducible refine Qat ?_;omega)|(with_reducible refine Qan ?_;omega)|with_reducible exact Qcb hb|with_reducible exact Qcs ha|(rw[Qcb hb];exact wr8 (by omega) (by omega))|(rw[Qcs ha];exact wr8 (by omega) (by omega))|(with_reducible refine Dt ?_ ?_ ?_<;>omega)|with_reducible exact Qal (by omega)|((repeat(first|(rw[Qad,if_pos (by first|rfl|omega)])|(rw[Qad,if_neg (by omega)])))<;>first|assumption|rfl)|rfl|skip
 refine Qc9 (cv:=.sl nx 0 6 (some 0)) (lv:=.nils) ?_ ?_ (.inr (.inr ⟨nx,0,some 0,3,none,Ab [4,4,4,4,4,4],rfl,?_,?_,rfl⟩)) (.inl ⟨rfl,rfl⟩)
 ·omega
 ·((repeat(first|(rw[Qad,if_pos (by first|rfl|omega)])|(rw[Qad,if_neg o_])))<;>first|assumption|rfl)
 ·omega
 ·((repeat(first|(rw[Qad,if_pos (by first|rfl|omega)])|(rw[Qad,if_neg o_])))<;>first|assumption|rfl)
theorem bend5s(m:Nat)(b a N:Int)(jj:List Int)(cs:List (List Int))(hb:0<=b/\b<=255)(ha:0<=a/\a<=255)(h1:1<=jj.length)(h6:jj.length<=6)(jy:Qa4 jj.length cs)(h40:cs.length<=40)(hR:cs.length=m+1)(h0:b%6=5):Ac Pg g0 7 [beV b a N,gV jj cs] (gV [] cs):=by
 have jt:=fun H nx lg hB=>Qb3 b a N jj cs h1 o_ jy o_ H nx lg hB
 have jn:=fun H=>@Qcj H jj
 refine Ac.of_vcX (n:=1000) (r:=[2]) (sl:=[(4,.ptr 2 0)]) (S:={sl:=[(4,.ptr 0 0)],os:=[.row 31 none [sl [],gC cs]]}) (hs:=[(12,.cp jj.length (Ab jj)),(0,.loopM (bcS 0) (.exit 0) (fun _=>bcX) (fun hl H nx lg=>∃hs,BH b a N jj cs cs hl hs H nx) (fun hl H nx lg=>[lo_ 36 (bdO b a N) (w8 b),nu 37 (b%6),no 38,lo_ 53 (bdO b a N) (w8 b),nu 54 (b%6),no 55,lo_ 86 (bdO b a N) (w8 b),nu 87 (b%6),no 88,lo_ 114 (bdO b a N) (w8 b),nu 115 (b%6),no 116,lo_ 132 (bdO b a N) (w8 b),nu 133 (b%6),no 134,so (.row 31 none [.sl 4 0 jj.length none,.sl hl 0 (m+1) none]) [.nils,.sl hl 0 (m+1) none],lo_ 137 (.row 31 none [.nils,.sl hl 0 (m+1) none]) (.agg [.nils,.sl hl 0 (m+1) none]),so n2 [.nils,.sl hl 0 (m+1) none]]))]) ?_
 refine Eq.mp (by kernel_rfl:(let z1:=Ad (Aj (0+0) (bdL b a N));let z2:=(6:Int);let z3:=some (bdO b a N);let z4:=V.sl 4 0 jj.length none;let z6:=some (w8 b);let z7:=O.row 31 none [V.nils,V.nils];let z8:=V.ptr 2 0;let z0:=pt (pt (pt T.e 0 (O.row 27 none [w8 b,w8 a,i6 N])) 1 (O.row 31 none [sl jj,gC cs])) 2 z7;let z5:=Int.tmod b z2;An [V.agg [sl [],gC cs]=gV [] cs,An [A3 (pt z0 3 (O.row 3 none [])) 1 (sl jj)=some (jj.length,Ab jj),A3 (pt z0 3 (O.row 3 none [])) 1 (V.sl 3 0 0 (some 0))=some (0,[]),1≤jj.length,jj.length≤9223372036854775807,jj.length*8≤140737488355328],An [Sm (V.ptr 0 0),Sm (V.ptr 1 0),z8=z8,Sm (V.ptr 5 0),i6 0=i6 ↑(0:Nat),Tt],Sat Pg none 0 (at' 7 [1,1,0,1,0]) (A4 g0 138 (bcS 0) (pt (pt (pt (pt z0 3 (O.row 3 none [])) 4 (O.row 3 (some 1) (Ab jj))) 5 z7) 5 (O.row 31 none [z4,V.nils])) 6 ([5]++([]++[]))) (Qcd g0 138 (Ex.exit 0) (fun x=>bcX) fun hl H nx lg=>∃hs,BH b a N jj cs cs hl hs H nx),∀(h:Nat)(H:T O)(nx:Nat)(lg:List Nat),(∃hs,BH b a N jj cs cs h hs H nx)→An [gt H 0=z3,z1=z6,z5=b%z2,(b%z2==(0:Int))=false,gt H 0=z3,z1=z6,z5=b%z2,(b%z2==(1:Int))=false,gt H 0=z3,z1=z6,z5=b%z2,(b%z2==(2:Int))=false,gt H 0=z3,z1=z6,z5=b%z2,(b%z2==(3:Int))=false,gt H 0=z3,z1=z6,z5=b%z2,(b%z2==(4:Int))=false,An [gt H 5=some (O.row 31 none [z4,V.sl h 0 (m+1) none]),Ax (0+0) [z4,V.sl h 0 (m+1) none] [V.nils]=some [V.nils,V.sl h 0 (m+1) none]],gt (pt H 5 (O.row 31 none [V.nils,V.sl h 0 (m+1) none])) 5=some (O.row 31 none [V.nils,V.sl h 0 (m+1) none]),A6 2 [V.nils,V.sl h 0 (m+1) none]=some [V.nils,V.sl h 0 (m+1) none],An [gt (pt H 5 (O.row 31 none [V.nils,V.sl h 0 (m+1) none])) 2=some n2,Ax 0 [V.nils,V.nils] [V.nils,V.sl h 0 (m+1) none]=some [V.nils,V.sl h 0 (m+1) none]],An [z8=z8,Tt],Gc 0 [2] (A4 g0 138 [(4,z8)] (pt (pt H 5 (O.row 31 none [V.nils,V.sl h 0 (m+1) none])) 2 (O.row 31 none [V.nils,V.sl h 0 (m+1) none])) nx ([2]++([5]++lg))) (Ah g0 138 (SL.mk [(4,V.ptr 0 0)] [O.row 31 none [sl [],gC cs]] [] []))]])=_) ?_
 (repeat'(first|(with_reducible apply And.intro)|(refine fun(_:True)=>?_)))
 all_goals first|with_reducible rfl|exact trivial|omega|with_reducible assumption|with_reducible exact jn _|with_reducible exact Qa2 (t:=3) (sp:=none) (by kernel_rfl)|exact jt _ _ _ ⟨by kernel_rfl,by kernel_rfl,by kernel_rfl,by kernel_rfl,by kernel_rfl,by decide⟩|rfl|skip
 intro hl H nx lg hQ
 obtain⟨hs,⟨b0,b1,b2,b4,b5,b6⟩,hRw⟩:=hQ
 rw[hR]at b5
 have hq:=hRw.sees (by omega)
 rw[hR]at hq
 (repeat'(first|(with_reducible apply And.intro)|(refine fun(_:True)=>?_)))
 all_goals first|with_reducible rfl|exact trivial|omega|with_reducible assumption|(with_reducible exact decide_eq_true (by omega))|(with_reducible refine Qat ?_;omega)|(with_reducible refine Qan ?_;omega)|with_reducible exact Qcb hb|with_reducible exact Qcs ha|(rw[Qcb hb];exact wr8 (by omega) (by omega))|(rw[Qcs ha];exact wr8 (by omega) (by omega))|(with_reducible refine Dt ?_ ?_ ?_<;>omega)|with_reducible exact Qal (by omega)|((repeat(first|(rw[Qad,if_pos (by first|rfl|omega)])|(rw[Qad,if_neg (by omega)])))<;>first|assumption|rfl)|rfl|skip
 refine Qc9 (cv:=.nils) (lv:=V.sl hl 0 (m+1) none) ?_ ?_ (.inr (.inl ⟨rfl,rfl⟩)) ?_
 ·omega
 ·((repeat(first|(rw[Qad,if_pos (by first|rfl|omega)])|(rw[Qad,if_neg o_])))<;>first|assumption|rfl)
 have:=(hRw.mono (H':=pt (pt H 5 (O.row 31 none [V.nils,V.sl hl 0 (m+1) none])) 2 (O.row 31 none [V.nils,V.sl hl 0 (m+1) none])) (fun g hg=>by rw[Qad,if_neg o_,Qad,if_neg o_]) (Nat.le_refl _)).sees o_
 rwa [hR]at this
noncomputable def cellsOf(H:T O)(hl:Nat):List V:=match gt H hl with
 |some (.row _ _ c)=>c
 | _=>[]
noncomputable def Qcf(H:T O)(hl ri:Nat):Nat:=match(cellsOf H hl)[ri]? with
 |some (.sl g _ _ _)=>g
 | _=>0
theorem Qe1{H:T O}{hl:Nat}{t:Nat}{sp:Option Nat}{c:List V}(h:gt H hl=some (.row t sp c)):cellsOf H hl=c:=by unfold cellsOf;rw[h]
theorem Qjt{H:T O}{hl ri g off n:Nat}{room:Option Nat}{c:List V}(h:cellsOf H hl=c)(hc:c[ri]? =some (.sl g off n room)):Qcf H hl ri=g:=by unfold Qcf;rw[h,hc]
theorem Qk6{l:List V}{j:Nat}{x:V}(h:j<l.length):Ax (0+j*1) l [x]=some (l.set j x):=by
 rw[Nat.zero_add,Nat.mul_one,Qc3]
 have:Nat.ble (j+[x].length) l.length=true:=Nat.ble_eq_true_of_le (by simp;omega)
 rw[this,cond_true]
 congr 1
 rw[List.set_eq_take_append_cons_drop,if_pos h]
 simp
theorem Qe5{l:List V}{j:Nat}{x:V}(h:l[j]? =some x):Ad (Aj (0+j*1) l)=some x:=by
 rw[Qau,Nat.zero_add,Nat.mul_one]
 obtain⟨hk,rfl⟩:=List.getElem?_eq_some_iff.1 h
 rw[List.drop_eq_getElem_cons hk];rfl
theorem bend1s(b a N:Int)(jj:List Int)(cs:List (List Int))(hb:0<=b/\b<=255)(ha:0<=a/\a<=255)(h1:1<=jj.length)(h6:jj.length<=6)(jy:Qa4 jj.length cs)(h40:cs.length<=40)(m:Nat)(hR:cs.length=m+1)(h0:b%6=1): ∃cs',Ac Pg g0 7 [beV b a N,gV jj cs] (gV jj cs')/\cs'.length=cs.length/\Qa4 jj.length cs':=by
 have jt:=fun H nx lg hB=>Qb3 b a N jj cs h1 o_ jy o_ H nx lg hB
 have jn:=fun H=>@Qcj H jj
 have q1:0<=a%(jj.length:Int):=Int.emod_nonneg _ o_
 have q2:a%(jj.length:Int)<jj.length:=Int.emod_lt_of_pos _ o_
 have q3:0<=a/4%((m+1:Nat):Int):=Int.emod_nonneg _ o_
 have q4:a/4%((m+1:Nat):Int)<((m+1:Nat):Int):=Int.emod_lt_of_pos _ o_
 have e1:Ai (Qac Pg) .rem 3 (i6 a) (i6 jj.length)=some (i6 (((a%(jj.length:Int)).toNat:Nat):Int)):=by
  rw[Db o_,Int.tmod_eq_emod_of_nonneg ha.1,Int.toNat_of_nonneg q1]
 have e2:Ai (Qac Pg) .rem 3 (i6 (a/4)) (i6 (m+1:Nat))=some (i6 (((a/4%((m+1:Nat):Int)).toNat:Nat):Int)):=by
  rw[Db o_,Int.tmod_eq_emod_of_nonneg o_,Int.toNat_of_nonneg q3]
 have q5:(a%(jj.length:Int)).toNat<jj.length:=by omega
 have q6:(a/4%((m+1:Nat):Int)).toNat<m+1:=by omega
 generalize (a%(jj.length:Int)).toNat=ci at*
 generalize (a/4%((m+1:Nat):Int)).toNat=ri at*
 have hci:cs[ri]? =some cs[ri]:=List.getElem?_eq_getElem o_
 have hcl:=jy _ (List.getElem_mem (show ri<cs.length by omega))
 generalize cs[ri]=c at*
 have hlay:=@Qdk c ci N o_
 refine⟨cs.set ri (c.set ci N),?_,by rw[List.length_set],fun d hd=>?_⟩
 rotate_left
 ·rcases List.mem_or_eq_of_mem_set hd with hd | rfl
  ·exact jy d hd
  ·rw[List.length_set];exact hcl
 refine Ac.of_vcX (n:=1000) (r:=[2]) (sl:=[(4,.ptr 2 0)]) (S:={sl:=[(4,.ptr 0 0)],os:=[.row 31 none [sl jj,gC (cs.set ri (c.set ci N))]]}) (hs:=[(12,.cp jj.length (Ab jj)),(0,.loopM (bcS 0) (.exit 0) (fun _=>bcX) (fun hl H nx lg=>∃hs,BH b a N jj cs cs hl hs H nx) (fun hl H nx lg=>[lo_ 36 (bdO b a N) (w8 b),nu 37 (b%6),no 38,lo_ 53 (bdO b a N) (w8 b),nu 54 (b%6),yes 55,lo_ 58 (.row 31 none [.sl 4 0 jj.length none,.sl hl 0 (m+1) none]) (.sl hl 0 (m+1) none),yes 60,lo_ 63 (.row 31 none [.sl 4 0 jj.length none,.sl hl 0 (m+1) none]) (.sl hl 0 (m+1) none),lo_ 65 (bdO b a N) (w8 a),nu 66 (a/4),nu 67 (a/4),lo_ 69 (.row 31 none [.sl 4 0 jj.length none,.sl hl 0 (m+1) none]) (.sl hl 0 (m+1) none),va 71 (i6 ri),pl 72,lo_ 73 (.row 28 (some 1) (cellsOf H hl)) (.sl (Qcf H hl ri) 0 jj.length none),lo_ 76 (bdO b a N) (w8 a),nu 77 a,va 80 (i6 ci),lo_ 82 (bdO b a N) (i6 N),pl 83,so (.row 3 (some 1) (Ab c)) (Ab (c.set ci N)),lo_ 137 (.row 31 none [.sl 4 0 jj.length none,.sl hl 0 (m+1) none]) (.agg [.sl 4 0 jj.length none,.sl hl 0 (m+1) none]),so n2 [.sl 4 0 jj.length none,.sl hl 0 (m+1) none]]))]) ?_
 refine Eq.mp (by kernel_rfl:(let z0:=V.sl 4 0 jj.length none;let z2:=List.set c ci N;let z3:=some (bdO b a N);let z5:=bdL b a N;let z7:=(6:Int);let z8:=O.row 31 none [V.nils,V.nils];let z9:=V.ptr 2 0;let y0:=(4:Int);let y2:=(0:Int);let y3:=sl jj;let z1:=pt (pt (pt T.e 0 (O.row 27 none [w8 b,w8 a,i6 N])) 1 (O.row 31 none [y3,gC cs])) 2 z8;let z4:=O.row 3 (some 1) (Ab z2);let z6:=List.set cs ri z2;let y1:=Ad (Aj (0+0) z5);An [V.agg [y3,gC z6]=gV jj z6,An [A3 (pt z1 3 (O.row 3 none [])) 1 y3=some (jj.length,Ab jj),A3 (pt z1 3 (O.row 3 none [])) 1 (V.sl 3 0 0 (some 0))=some (0,[]),1≤jj.length,jj.length≤9223372036854775807,jj.length*8≤140737488355328],An [Sm (V.ptr 0 0),Sm (V.ptr 1 0),z9=z9,Sm (V.ptr 5 0),i6 0=i6 ↑(0:Nat),Tt],Sat Pg none 0 (at' 7 [1,1,0,1,0]) (A4 g0 138 (bcS 0) (pt (pt (pt (pt z1 3 (O.row 3 none [])) 4 (O.row 3 (some 1) (Ab jj))) 5 z8) 5 (O.row 31 none [z0,V.nils])) 6 ([5]++([]++[]))) (Qcd g0 138 (Ex.exit 0) (fun x=>bcX) fun hl H nx lg=>∃hs,BH b a N jj cs cs hl hs H nx),∀(h:Nat)(H:T O)(nx:Nat)(lg:List Nat),(∃hs,BH b a N jj cs cs h hs H nx)→An [gt H 0=z3,y1=some (w8 b),Int.tmod b z7=b%z7,(b%z7==y2)=false,gt H 0=z3,y1=some (w8 b),Int.tmod b z7=b%z7,(b%z7==(1:Int))=true,gt H 5=some (O.row 31 none [z0,V.sl h 0 (m+1) none]),Ad (Aj 1 [z0,V.sl h 0 (m+1) none])=some (V.sl h 0 (m+1) none),decide ((↑(m+1):Int)>y2)=true,gt H 5=some (O.row 31 none [z0,V.sl h 0 (m+1) none]),Ad (Aj 1 [z0,V.sl h 0 (m+1) none])=some (V.sl h 0 (m+1) none),gt H 0=z3,Ad (Aj 1 z5)=some (w8 a),wr .u8 (Int.tdiv a y0)=a/y0,wr .i64 (a/y0)=a/y0,gt H 5=some (O.row 31 none [z0,V.sl h 0 (m+1) none]),Ad (Aj 1 [z0,V.sl h 0 (m+1) none])=some (V.sl h 0 (m+1) none),Ai (Qac Pg) .rem 3 (i6 (a/y0)) (i6 ↑(m+1))=some (i6 ↑ri),An [y2≤(↑ri:Int),(↑ri:Int)<(↑(m+1):Int)],gt H h=some (O.row 28 (some 1) (cellsOf H h)),Ad (Aj (0+ri*1) (cellsOf H h))=some (V.sl (Qcf H h ri) 0 jj.length none),gt H 0=z3,Ad (Aj 1 z5)=some (w8 a),wr .i64 a=a,Ai (Qac Pg) .rem 3 (i6 a) (i6 ↑jj.length)=some (i6 ↑ci),gt H 0=z3,Ad (Aj (0+2) z5)=some (i6 N),An [y2≤(↑ci:Int),(↑ci:Int)<(↑jj.length:Int)],An [gt H (Qcf H h ri)=some (O.row 3 (some 1) (Ab c)),Ax (0+ci*1) (Ab c) [i6 N]=some (Ab z2)],gt (pt H (Qcf H h ri) z4) 5=some (O.row 31 none [z0,V.sl h 0 (m+1) none]),A6 2 [z0,V.sl h 0 (m+1) none]=some [z0,V.sl h 0 (m+1) none],An [gt (pt H (Qcf H h ri) z4) 2=some n2,Ax 0 [V.nils,V.nils] [z0,V.sl h 0 (m+1) none]=some [z0,V.sl h 0 (m+1) none]],An [z9=z9,Tt],Gc 0 [2] (A4 g0 138 [(4,z9)] (pt (pt H (Qcf H h ri) z4) 2 (O.row 31 none [z0,V.sl h 0 (m+1) none])) nx ([2]++([Qcf H h ri]++lg))) (Ah g0 138 (SL.mk [(4,V.ptr 0 0)] [O.row 31 none [y3,gC z6]] [] []))]])=_) ?_
 (repeat'(first|(with_reducible apply And.intro)|(refine fun(_:True)=>?_)))
 all_goals first|with_reducible rfl|exact trivial|omega|with_reducible assumption|with_reducible exact jn _|with_reducible exact Qa2 (t:=3) (sp:=none) (by kernel_rfl)|exact jt _ _ _ ⟨by kernel_rfl,by kernel_rfl,by kernel_rfl,by kernel_rfl,by kernel_rfl,by decide⟩|rfl|skip
 intro hl H nx lg hQ
 obtain⟨hs,⟨b0,b1,b2,b4,b5,b6⟩,hRw⟩:=hQ
 rw[hR]at b5
 obtain⟨l1,l2,l3,l4⟩:=hRw.list o_
 have hgi:hs[ri]? =some (hs.getD ri 0):=by rw[List.getD_eq_getElem?_getD,List.getElem?_eq_getElem (by rw[hRw.len];omega)];rfl
 obtain⟨r1,r2,d,r3,r4,r5⟩:=hRw.row ri _ hgi
 rw[hci]at r3
 cases r3
 have kn:(hs.map fun h=>V.sl h 0 jj.length none)[ri]? =some (V.sl (hs.getD ri 0) 0 jj.length none):=by rw[List.getElem?_map,hgi];rfl
 have k1:=Qe1 l4
 have k2:=Qjt k1 kn
 have hgm:=List.mem_of_getElem? hgi
 rw[k2,k1]
 have hset:=fun H' hg ho=>G1 (H':=H') (c:=c.set ci N) hRw (by omega) hgi (by rw[List.length_set];exact hcl) hg ho
 generalize hs.getD ri 0=g at*
 have hgne:g≠hl:=fun e=>l3 (e▸hgm)
 have hhd:=Qe5 kn
 (repeat'(first|(with_reducible apply And.intro)|(refine fun(_:True)=>?_)))
 all_goals first|with_reducible rfl|exact trivial|omega|with_reducible assumption|(with_reducible exact decide_eq_true (by omega))|(with_reducible refine Qat ?_;omega)|(with_reducible refine Qan ?_;omega)|with_reducible exact Qcb hb|with_reducible exact Qcs ha|(rw[Qcb hb];exact wr8 (by omega) (by omega))|(rw[Qcs ha];exact wr8 (by omega) (by omega))|(with_reducible refine Dt ?_ ?_ ?_<;>omega)|((repeat(first|(rw[Qad,if_pos (by first|rfl|omega)])|(rw[Qad,if_neg (by omega)])))<;>first|assumption|rfl)|rfl|skip
 refine Qc9 (cv:=.sl 4 0 jj.length none) (lv:=.sl hl 0 (m+1) none) ?_ ?_ (.inr (.inr ⟨4,0,none,3,some 1,Ab jj,rfl,?_,?_,rfl⟩)) ?_
 ·omega
 ·((repeat(first|(rw[Qad,if_pos (by first|rfl|omega)])|(rw[Qad,if_neg o_])))<;>first|assumption|rfl)
 ·omega
 ·((repeat(first|(rw[Qad,if_pos (by first|rfl|omega)])|(rw[Qad,if_neg o_])))<;>first|assumption|rfl)
 ·have := ((hset (pt H g (.row 3 (some 1) (Ab (c.set ci N)))) (by rw [Qad, if_pos rfl]) (fun j h1 _ => by rw [Qad, if_neg h1])).mono (H' := pt (pt H g (.row 3 (some 1) (Ab (c.set ci N)))) 2 (.row 31 none [.sl 4 0 jj.length none, .sl hl 0 (m + 1) none])) (fun g hg => by rw [Qad, if_neg o_]) (Nat.le_refl _)).sees o_
  rwa [List.length_set,hR]at this
def cutV(g:Nat):Nat->V
 |0=>.im 0 []
 |1=>.im 0 []
 |n+2=>.sl g 1 (n+1) none
theorem Qls(g n:Nat)(h:1<=n):Bv (Qac Pg) 28 (.sl g 0 n none) (some 1) none none=some (cutV g n):=by
 have e1:(Qac Pg).ty 28=some ⟨.slice 3,1,24,false,some [.nils]⟩:=by kernel_rfl
 have e2:(Qac Pg).ty 3=some ⟨.int .i64,1,8,false,some [i6 0]⟩:=by kernel_rfl
 cases n with
 |zero=>omega
 | succ n =>
  unfold Bv
  rw[e1]
  dsimp only
  rw[e2]
  dsimp only
  simp only[Option.getD_some,Option.getD_none,Option.isSome_none,Option.isNone_none,Bool.and_self,cond_true,Bool.false_eq_true,false_implies,and_true]
  rw[if_pos ⟨by omega,by omega,by omega,by omega⟩]
  cases n with
  |zero=>rw[if_pos o_];rfl
  |succ n=>
   rw[if_neg o_,if_pos (.inr o_)]
   rfl
theorem Qnt{H:T O}{g n:Nat}{c:List Int}{t:Nat}{sp:Option Nat}(hg:g≠2)(h:gt H g=some (.row t sp (Ab c)))(hn:c.length=n):E2 H (cutV g n) (c.drop 1):=by
 match n,hn with
 |0,hn=>exact .inl (by rw[show c.drop 1=[]from List.eq_nil_of_length_eq_zero (by simp;omega)];rfl)
 |1,hn=>exact .inl (by rw[show c.drop 1=[]from List.eq_nil_of_length_eq_zero (by simp;omega)];rfl)
 |n+2,hn=>exact .inr (.inr ⟨g,1,none,t,sp,Ab c,by rw[List.length_drop,hn];rfl,hg,h,by simp[Ab]⟩)
theorem bend2s1(b a N:Int)(jj:List Int)(cs:List (List Int))(hb:0<=b/\b<=255)(ha:0<=a/\a<=255)(h1:1<=jj.length)(h6:jj.length<=6)(jy:Qa4 jj.length cs)(h40:cs.length<=40)(m:Nat)(hR:cs.length=m+1)(h0:b%6=2)(hn:jj.length=1): ∃cs',Ac Pg g0 7 [beV b a N,gV jj cs] (gV jj cs')/\cs'.length=cs.length/\∀c∈cs',c.length<=jj.length:=by
 have jt:=fun H nx lg hB=>Qb3 b a N jj cs h1 o_ jy o_ H nx lg hB
 have jn:=fun H=>@Qcj H jj
 have q3:0<=a%((m+1:Nat):Int):=Int.emod_nonneg _ o_
 have q4:a%((m+1:Nat):Int)<((m+1:Nat):Int):=Int.emod_lt_of_pos _ o_
 have e2:Ai (Qac Pg) .rem 3 (i6 a) (i6 (m+1:Nat))=some (i6 (((a%((m+1:Nat):Int)).toNat:Nat):Int)):=by
  rw[Db o_,Int.tmod_eq_emod_of_nonneg ha.1,Int.toNat_of_nonneg q3]
 have q6:(a%((m+1:Nat):Int)).toNat<m+1:=by omega
 generalize (a%((m+1:Nat):Int)).toNat=ri at*
 have hci:cs[ri]? =some cs[ri]:=List.getElem?_eq_getElem o_
 have hcl:=jy _ (List.getElem_mem (show ri<cs.length by omega))
 generalize cs[ri]=c at*
 have hcut: ∀g,Bv (Qac Pg) 28 (.sl g 0 jj.length none) (some 1) none none=some (.im 0 []):=fun g=>by
  have:=Qls g jj.length h1
  rw[hn]at this⊢;exact this
 refine⟨cs.set ri (c.drop 1),?_,by rw[List.length_set],fun d hd=>?_⟩
 rotate_left
 ·rcases List.mem_or_eq_of_mem_set hd with hd | rfl
  ·rw[jy d hd];exact Nat.le_refl _
  ·rw[List.length_drop];omega
 refine Ac.of_vcX (n:=1000) (r:=[2]) (sl:=[(4,.ptr 2 0)]) (S:={sl:=[(4,.ptr 0 0)],os:=[.row 31 none [sl jj,gC (cs.set ri (c.drop 1))]]}) (hs:=[(12,.cp jj.length (Ab jj)),(0,.loopM (bcS 0) (.exit 0) (fun _=>bcX) (fun hl H nx lg=>∃hs,BH b a N jj cs cs hl hs H nx) (fun hl H nx lg=>[lo_ 36 (bdO b a N) (w8 b),nu 37 (b%6),no 38,lo_ 53 (bdO b a N) (w8 b),nu 54 (b%6),no 55,lo_ 86 (bdO b a N) (w8 b),nu 87 (b%6),yes 88,lo_ 91 (.row 31 none [.sl 4 0 jj.length none,.sl hl 0 (m+1) none]) (.sl hl 0 (m+1) none),yes 93,lo_ 96 (bdO b a N) (w8 a),nu 97 a,lo_ 99 (.row 31 none [.sl 4 0 jj.length none,.sl hl 0 (m+1) none]) (.sl hl 0 (m+1) none),va 101 (i6 ri),lo_ 103 (.row 31 none [.sl 4 0 jj.length none,.sl hl 0 (m+1) none]) (.sl hl 0 (m+1) none),lo_ 106 (.row 31 none [.sl 4 0 jj.length none,.sl hl 0 (m+1) none]) (.sl hl 0 (m+1) none),pl 108,lo_ 109 (.row 28 (some 1) (cellsOf H hl)) (.sl (Qcf H hl ri) 0 jj.length none),va 110 (.im 0 []),pl 111,so (.row 28 (some 1) (cellsOf H hl)) ((cellsOf H hl).set ri (.im 0 [])),lo_ 137 (.row 31 none [.sl 4 0 jj.length none,.sl hl 0 (m+1) none]) (.agg [.sl 4 0 jj.length none,.sl hl 0 (m+1) none]),so n2 [.sl 4 0 jj.length none,.sl hl 0 (m+1) none]]))]) ?_
 refine Eq.mp (by kernel_rfl:(let z0:=V.sl 4 0 jj.length none;let z2:=List.set cs ri (List.drop 1 c);let z3:=Ad (Aj (0+0) (bdL b a N));let z4:=(6:Int);let z5:=some (bdO b a N);let z6:=(↑ri:Int);let z7:=O.row 31 none [V.nils,V.nils];let z8:=(↑(m+1):Int);let z9:=V.ptr 2 0;let y1:=(0:Int);let y2:=sl jj;let z1:=pt (pt (pt T.e 0 (O.row 27 none [w8 b,w8 a,i6 N])) 1 (O.row 31 none [y2,gC cs])) 2 z7;let y0:=Int.tmod b z4;An [V.agg [y2,gC z2]=gV jj z2,An [A3 (pt z1 3 (O.row 3 none [])) 1 y2=some (jj.length,Ab jj),A3 (pt z1 3 (O.row 3 none [])) 1 (V.sl 3 0 0 (some 0))=some (0,[]),1≤jj.length,jj.length≤9223372036854775807,jj.length*8≤140737488355328],An [Sm (V.ptr 0 0),Sm (V.ptr 1 0),z9=z9,Sm (V.ptr 5 0),i6 0=i6 ↑(0:Nat),Tt],Sat Pg none 0 (at' 7 [1,1,0,1,0]) (A4 g0 138 (bcS 0) (pt (pt (pt (pt z1 3 (O.row 3 none [])) 4 (O.row 3 (some 1) (Ab jj))) 5 z7) 5 (O.row 31 none [z0,V.nils])) 6 ([5]++([]++[]))) (Qcd g0 138 (Ex.exit 0) (fun x=>bcX) fun hl H nx lg=>∃hs,BH b a N jj cs cs hl hs H nx),∀(h:Nat)(H:T O)(nx:Nat)(lg:List Nat),(∃hs,BH b a N jj cs cs h hs H nx)→An [gt H 0=z5,z3=some (w8 b),y0=b%z4,(b%z4==y1)=false,gt H 0=z5,z3=some (w8 b),y0=b%z4,(b%z4==(1:Int))=false,gt H 0=z5,z3=some (w8 b),y0=b%z4,(b%z4==(2:Int))=true,gt H 5=some (O.row 31 none [z0,V.sl h 0 (m+1) none]),Ad (Aj 1 [z0,V.sl h 0 (m+1) none])=some (V.sl h 0 (m+1) none),decide (z8>y1)=true,gt H 0=z5,Ad (Aj 1 (bdL b a N))=some (w8 a),wr .i64 a=a,gt H 5=some (O.row 31 none [z0,V.sl h 0 (m+1) none]),Ad (Aj 1 [z0,V.sl h 0 (m+1) none])=some (V.sl h 0 (m+1) none),Ai (Qac Pg) .rem 3 (i6 a) (i6 ↑(m+1))=some (i6 ↑ri),gt H 5=some (O.row 31 none [z0,V.sl h 0 (m+1) none]),Ad (Aj 1 [z0,V.sl h 0 (m+1) none])=some (V.sl h 0 (m+1) none),gt H 5=some (O.row 31 none [z0,V.sl h 0 (m+1) none]),Ad (Aj 1 [z0,V.sl h 0 (m+1) none])=some (V.sl h 0 (m+1) none),An [y1≤z6,z6<z8],gt H h=some (O.row 28 (some 1) (cellsOf H h)),Ad (Aj (0+ri*1) (cellsOf H h))=some (V.sl (Qcf H h ri) 0 jj.length none),Bv (Qac Pg) 28 (V.sl (Qcf H h ri) 0 jj.length none) (some (1:Int)) none none=some (V.im 0 []),An [y1≤z6,z6<z8],An [gt H h=some (O.row 28 (some 1) (cellsOf H h)),Ax (0+ri*1) (cellsOf H h) [V.im 0 []]=some (List.set (cellsOf H h) ri (V.im 0 []))],gt (pt H h (O.row 28 (some 1) (List.set (cellsOf H h) ri (V.im 0 [])))) 5=some (O.row 31 none [z0,V.sl h 0 (m+1) none]),A6 2 [z0,V.sl h 0 (m+1) none]=some [z0,V.sl h 0 (m+1) none],An [gt (pt H h (O.row 28 (some 1) (List.set (cellsOf H h) ri (V.im 0 [])))) 2=some n2,Ax 0 [V.nils,V.nils] [z0,V.sl h 0 (m+1) none]=some [z0,V.sl h 0 (m+1) none]],An [z9=z9,Tt],Gc 0 [2] (A4 g0 138 [(4,z9)] (pt (pt H h (O.row 28 (some 1) (List.set (cellsOf H h) ri (V.im 0 [])))) 2 (O.row 31 none [z0,V.sl h 0 (m+1) none])) nx ([2]++([h]++lg))) (Ah g0 138 (SL.mk [(4,V.ptr 0 0)] [O.row 31 none [y2,gC z2]] [] []))]])=_) ?_
 (repeat'(first|(with_reducible apply And.intro)|(refine fun(_:True)=>?_)))
 all_goals first|with_reducible rfl|exact trivial|omega|with_reducible assumption|with_reducible exact jn _|with_reducible exact Qa2 (t:=3) (sp:=none) (by kernel_rfl)|exact jt _ _ _ ⟨by kernel_rfl,by kernel_rfl,by kernel_rfl,by kernel_rfl,by kernel_rfl,by decide⟩|rfl|skip
 intro hl H nx lg hQ
 obtain⟨hs,⟨b0,b1,b2,b4,b5,b6⟩,hRw⟩:=hQ
 rw[hR]at b5
 obtain⟨l1,l2,l3,l4⟩:=hRw.list o_
 have hgi:hs[ri]? =some (hs.getD ri 0):=by rw[List.getD_eq_getElem?_getD,List.getElem?_eq_getElem (by rw[hRw.len];omega)];rfl
 obtain⟨r1,r2,d,r3,r4,r5⟩:=hRw.row ri _ hgi
 rw[hci]at r3
 cases r3
 have kn:(hs.map fun h=>V.sl h 0 jj.length none)[ri]? =some (V.sl (hs.getD ri 0) 0 jj.length none):=by rw[List.getElem?_map,hgi];rfl
 have k1:=Qe1 l4
 have k2:=Qjt k1 kn
 have hgm:=List.mem_of_getElem? hgi
 rw[k2,k1]
 have hcu:=hcut (hs.getD ri 0)
 have hhd:=Qe5 kn
 have hlay:=@Qk6 (hs.map fun h=>V.sl h 0 jj.length none) ri (.im 0 []) (by rw[List.length_map,hRw.len];omega)
 have hlay':=hlay
 rw[Nat.zero_add]at hlay'
 have hsee1: ∀H',gt H' (hs.getD ri 0)=gt H (hs.getD ri 0)->E2 H' (.im 0 []) (c.drop 1):=fun H' hg=>by
  have:=Qnt (H:=H') (g:=hs.getD ri 0) (n:=jj.length) (c:=c) o_ (hg.trans r5) hcl
  rw[hn]at this;exact this
 have hsee2: ∀H':T O,gt H' hl=some (.row 28 (some 1) ((hs.map fun h=>V.sl h 0 jj.length none).set ri (.im 0 [])))->(∀g∈hs,gt H' g=gt H g)->Fz H' (.sl hl 0 (m+1) none) (cs.set ri (c.drop 1)):=fun H' h1 h2=>by
  refine .inr ⟨hl,none,28,some 1,_,by rw[List.length_set,hR],by omega,h1,by rw[List.length_set,List.length_set,List.length_map];exact hRw.len,fun i cell hi=>?_⟩
  by_cases hir:ri=i
  ·subst hir
   rw[List.getElem?_set_self (by rw[List.length_map,hRw.len];omega)]at hi
   cases hi
   exact⟨_,List.getElem?_set_self o_,hsee1 H' (h2 _ hgm)⟩
  ·rw [List.getElem?_set_ne hir, List.getElem?_map] at hi
   cases hg:hs[i]? with
   |none=>rw[hg]at hi;cases hi
   |some g=>
    rw[hg]at hi
    cases hi
    obtain⟨p1,p2,d,p3,p4,p5⟩:=hRw.row i g hg
    exact⟨d,by rw[List.getElem?_set_ne hir];exact p3,.inr (.inr ⟨g,0,none,3,some 1,Ab d,by rw[p4],by omega,by rw[h2 g (List.mem_of_getElem? hg)];exact p5,rfl⟩)⟩
 have hne: ∀g∈hs,g≠hl∧6≤g:=fun g hg=>by
  refine⟨fun e=>l3 (e▸hg),?_⟩
  obtain⟨t,ht,rfl⟩:=List.getElem_of_mem hg
  exact(hRw.row t _ (List.getElem?_eq_getElem ht)).1
 generalize hs.getD ri 0=g at*
 (repeat'(first|(with_reducible apply And.intro)|(refine fun(_:True)=>?_)))
 all_goals first|with_reducible rfl|exact trivial|omega|with_reducible assumption|(with_reducible exact decide_eq_true (by omega))|(with_reducible refine Qat ?_;omega)|(with_reducible refine Qan ?_;omega)|with_reducible exact Qcb hb|with_reducible exact Qcs ha|(rw[Qcb hb];exact wr8 (by omega) (by omega))|(with_reducible refine Dt ?_ ?_ ?_<;>omega)|((repeat(first|(rw[Qad,if_pos (by first|rfl|omega)])|(rw[Qad,if_neg (by omega)])))<;>first|assumption|rfl)|rfl|skip
 refine Qc9 (cv:=.sl 4 0 jj.length none) (lv:=.sl hl 0 (m+1) none) ?_ ?_ (.inr (.inr ⟨4,0,none,3,some 1,Ab jj,rfl,?_,?_,rfl⟩)) (hsee2 _ ?_ (fun j hj=>?_))
 ·omega
 ·((repeat(first|(rw[Qad,if_pos (by first|rfl|omega)])|(rw[Qad,if_neg o_])))<;>first|assumption|rfl)
 ·omega
 ·((repeat(first|(rw[Qad,if_pos (by first|rfl|omega)])|(rw[Qad,if_neg o_])))<;>first|assumption|rfl)
 ·((repeat(first|(rw[Qad,if_pos (by first|rfl|omega)])|(rw[Qad,if_neg o_])))<;>first|assumption|rfl)
 ·have := hne j hj
  rw[Qad,if_neg o_,Qad,if_neg this.1]
theorem bend2s2(b a N:Int)(jj:List Int)(cs:List (List Int))(hb:0<=b/\b<=255)(ha:0<=a/\a<=255)(h1:1<=jj.length)(h6:jj.length<=6)(jy:Qa4 jj.length cs)(h40:cs.length<=40)(m:Nat)(hR:cs.length=m+1)(h0:b%6=2)(k:Nat)(hn:jj.length=k+2): ∃cs',Ac Pg g0 7 [beV b a N,gV jj cs] (gV jj cs')/\cs'.length=cs.length/\∀c∈cs',c.length<=jj.length:=by
 have jt:=fun H nx lg hB=>Qb3 b a N jj cs h1 o_ jy o_ H nx lg hB
 have jn:=fun H=>@Qcj H jj
 have q3:0<=a%((m+1:Nat):Int):=Int.emod_nonneg _ o_
 have q4:a%((m+1:Nat):Int)<((m+1:Nat):Int):=Int.emod_lt_of_pos _ o_
 have e2:Ai (Qac Pg) .rem 3 (i6 a) (i6 (m+1:Nat))=some (i6 (((a%((m+1:Nat):Int)).toNat:Nat):Int)):=by
  rw[Db o_,Int.tmod_eq_emod_of_nonneg ha.1,Int.toNat_of_nonneg q3]
 have q6:(a%((m+1:Nat):Int)).toNat<m+1:=by omega
 generalize (a%((m+1:Nat):Int)).toNat=ri at*
 have hci:cs[ri]? =some cs[ri]:=List.getElem?_eq_getElem o_
 have hcl:=jy _ (List.getElem_mem (show ri<cs.length by omega))
 generalize cs[ri]=c at*
 have hcut: ∀g,Bv (Qac Pg) 28 (.sl g 0 jj.length none) (some 1) none none=some (.sl g 1 (k+1) none):=fun g=>by
  have:=Qls g jj.length h1
  rw[hn]at this⊢;exact this
 refine⟨cs.set ri (c.drop 1),?_,by rw[List.length_set],fun d hd=>?_⟩
 rotate_left
 ·rcases List.mem_or_eq_of_mem_set hd with hd | rfl
  ·rw[jy d hd];exact Nat.le_refl _
  ·rw[List.length_drop];omega
 refine Ac.of_vcX (n:=1000) (r:=[2]) (sl:=[(4,.ptr 2 0)]) (S:={sl:=[(4,.ptr 0 0)],os:=[.row 31 none [sl jj,gC (cs.set ri (c.drop 1))]]}) (hs:=[(12,.cp jj.length (Ab jj)),(0,.loopM (bcS 0) (.exit 0) (fun _=>bcX) (fun hl H nx lg=>∃hs,BH b a N jj cs cs hl hs H nx) (fun hl H nx lg=>[lo_ 36 (bdO b a N) (w8 b),nu 37 (b%6),no 38,lo_ 53 (bdO b a N) (w8 b),nu 54 (b%6),no 55,lo_ 86 (bdO b a N) (w8 b),nu 87 (b%6),yes 88,lo_ 91 (.row 31 none [.sl 4 0 jj.length none,.sl hl 0 (m+1) none]) (.sl hl 0 (m+1) none),yes 93,lo_ 96 (bdO b a N) (w8 a),nu 97 a,lo_ 99 (.row 31 none [.sl 4 0 jj.length none,.sl hl 0 (m+1) none]) (.sl hl 0 (m+1) none),va 101 (i6 ri),lo_ 103 (.row 31 none [.sl 4 0 jj.length none,.sl hl 0 (m+1) none]) (.sl hl 0 (m+1) none),lo_ 106 (.row 31 none [.sl 4 0 jj.length none,.sl hl 0 (m+1) none]) (.sl hl 0 (m+1) none),pl 108,lo_ 109 (.row 28 (some 1) (cellsOf H hl)) (.sl (Qcf H hl ri) 0 jj.length none),va 110 (.sl (Qcf H hl ri) 1 (k+1) none),pl 111,so (.row 28 (some 1) (cellsOf H hl)) ((cellsOf H hl).set ri (.sl (Qcf H hl ri) 1 (k+1) none)),lo_ 137 (.row 31 none [.sl 4 0 jj.length none,.sl hl 0 (m+1) none]) (.agg [.sl 4 0 jj.length none,.sl hl 0 (m+1) none]),so n2 [.sl 4 0 jj.length none,.sl hl 0 (m+1) none]]))]) ?_
 refine Eq.mp (by kernel_rfl:(let z0:=V.sl 4 0 jj.length none;let z2:=List.set cs ri (List.drop 1 c);let z3:=Ad (Aj (0+0) (bdL b a N));let z4:=(6:Int);let z5:=some (bdO b a N);let z6:=(↑ri:Int);let z7:=O.row 31 none [V.nils,V.nils];let z8:=(↑(m+1):Int);let z9:=V.ptr 2 0;let y1:=(0:Int);let y2:=sl jj;let z1:=pt (pt (pt T.e 0 (O.row 27 none [w8 b,w8 a,i6 N])) 1 (O.row 31 none [y2,gC cs])) 2 z7;let y0:=Int.tmod b z4;An [V.agg [y2,gC z2]=gV jj z2,An [A3 (pt z1 3 (O.row 3 none [])) 1 y2=some (jj.length,Ab jj),A3 (pt z1 3 (O.row 3 none [])) 1 (V.sl 3 0 0 (some 0))=some (0,[]),1≤jj.length,jj.length≤9223372036854775807,jj.length*8≤140737488355328],An [Sm (V.ptr 0 0),Sm (V.ptr 1 0),z9=z9,Sm (V.ptr 5 0),i6 0=i6 ↑(0:Nat),Tt],Sat Pg none 0 (at' 7 [1,1,0,1,0]) (A4 g0 138 (bcS 0) (pt (pt (pt (pt z1 3 (O.row 3 none [])) 4 (O.row 3 (some 1) (Ab jj))) 5 z7) 5 (O.row 31 none [z0,V.nils])) 6 ([5]++([]++[]))) (Qcd g0 138 (Ex.exit 0) (fun x=>bcX) fun hl H nx lg=>∃hs,BH b a N jj cs cs hl hs H nx),∀(h:Nat)(H:T O)(nx:Nat)(lg:List Nat),(∃hs,BH b a N jj cs cs h hs H nx)→An [gt H 0=z5,z3=some (w8 b),y0=b%z4,(b%z4==y1)=false,gt H 0=z5,z3=some (w8 b),y0=b%z4,(b%z4==(1:Int))=false,gt H 0=z5,z3=some (w8 b),y0=b%z4,(b%z4==(2:Int))=true,gt H 5=some (O.row 31 none [z0,V.sl h 0 (m+1) none]),Ad (Aj 1 [z0,V.sl h 0 (m+1) none])=some (V.sl h 0 (m+1) none),decide (z8>y1)=true,gt H 0=z5,Ad (Aj 1 (bdL b a N))=some (w8 a),wr .i64 a=a,gt H 5=some (O.row 31 none [z0,V.sl h 0 (m+1) none]),Ad (Aj 1 [z0,V.sl h 0 (m+1) none])=some (V.sl h 0 (m+1) none),Ai (Qac Pg) .rem 3 (i6 a) (i6 ↑(m+1))=some (i6 ↑ri),gt H 5=some (O.row 31 none [z0,V.sl h 0 (m+1) none]),Ad (Aj 1 [z0,V.sl h 0 (m+1) none])=some (V.sl h 0 (m+1) none),gt H 5=some (O.row 31 none [z0,V.sl h 0 (m+1) none]),Ad (Aj 1 [z0,V.sl h 0 (m+1) none])=some (V.sl h 0 (m+1) none),An [y1≤z6,z6<z8],gt H h=some (O.row 28 (some 1) (cellsOf H h)),Ad (Aj (0+ri*1) (cellsOf H h))=some (V.sl (Qcf H h ri) 0 jj.length none),Bv (Qac Pg) 28 (V.sl (Qcf H h ri) 0 jj.length none) (some (1:Int)) none none=some (V.sl (Qcf H h ri) 1 (k+1) none),An [y1≤z6,z6<z8],An [gt H h=some (O.row 28 (some 1) (cellsOf H h)),Ax (0+ri*1) (cellsOf H h) [V.sl (Qcf H h ri) 1 (k+1) none]=some (List.set (cellsOf H h) ri (V.sl (Qcf H h ri) 1 (k+1) none))],gt (pt H h (O.row 28 (some 1) (List.set (cellsOf H h) ri (V.sl (Qcf H h ri) 1 (k+1) none)))) 5=some (O.row 31 none [z0,V.sl h 0 (m+1) none]),A6 2 [z0,V.sl h 0 (m+1) none]=some [z0,V.sl h 0 (m+1) none],An [gt (pt H h (O.row 28 (some 1) (List.set (cellsOf H h) ri (V.sl (Qcf H h ri) 1 (k+1) none)))) 2=some n2,Ax 0 [V.nils,V.nils] [z0,V.sl h 0 (m+1) none]=some [z0,V.sl h 0 (m+1) none]],An [z9=z9,Tt],Gc 0 [2] (A4 g0 138 [(4,z9)] (pt (pt H h (O.row 28 (some 1) (List.set (cellsOf H h) ri (V.sl (Qcf H h ri) 1 (k+1) none)))) 2 (O.row 31 none [z0,V.sl h 0 (m+1) none])) nx ([2]++([h]++lg))) (Ah g0 138 (SL.mk [(4,V.ptr 0 0)] [O.row 31 none [y2,gC z2]] [] []))]])=_) ?_
 (repeat'(first|(with_reducible apply And.intro)|(refine fun(_:True)=>?_)))
 all_goals first|with_reducible rfl|exact trivial|omega|with_reducible assumption|with_reducible exact jn _|with_reducible exact Qa2 (t:=3) (sp:=none) (by kernel_rfl)|exact jt _ _ _ ⟨by kernel_rfl,by kernel_rfl,by kernel_rfl,by kernel_rfl,by kernel_rfl,by decide⟩|rfl|skip
 intro hl H nx lg hQ
 obtain⟨hs,⟨b0,b1,b2,b4,b5,b6⟩,hRw⟩:=hQ
 rw[hR]at b5
 obtain⟨l1,l2,l3,l4⟩:=hRw.list o_
 have hgi:hs[ri]? =some (hs.getD ri 0):=by rw[List.getD_eq_getElem?_getD,List.getElem?_eq_getElem (by rw[hRw.len];omega)];rfl
 obtain⟨r1,r2,d,r3,r4,r5⟩:=hRw.row ri _ hgi
 rw[hci]at r3
 cases r3
 have kn:(hs.map fun h=>V.sl h 0 jj.length none)[ri]? =some (V.sl (hs.getD ri 0) 0 jj.length none):=by rw[List.getElem?_map,hgi];rfl
 have k1:=Qe1 l4
 have k2:=Qjt k1 kn
 have hgm:=List.mem_of_getElem? hgi
 rw[k2,k1]
 have hcu:=hcut (hs.getD ri 0)
 have hhd:=Qe5 kn
 have hlay:=@Qk6 (hs.map fun h=>V.sl h 0 jj.length none) ri (.sl (hs.getD ri 0) 1 (k+1) none) (by rw[List.length_map,hRw.len];omega)
 have hlay':=hlay
 rw[Nat.zero_add]at hlay'
 have hsee1: ∀H',gt H' (hs.getD ri 0)=gt H (hs.getD ri 0)->E2 H' (.sl (hs.getD ri 0) 1 (k+1) none) (c.drop 1):=fun H' hg=>by
  have:=Qnt (H:=H') (g:=hs.getD ri 0) (n:=jj.length) (c:=c) o_ (hg.trans r5) hcl
  rw[hn]at this;exact this
 have hsee2: ∀H':T O,gt H' hl=some (.row 28 (some 1) ((hs.map fun h=>V.sl h 0 jj.length none).set ri (.sl (hs.getD ri 0) 1 (k+1) none)))->(∀g∈hs,gt H' g=gt H g)->Fz H' (.sl hl 0 (m+1) none) (cs.set ri (c.drop 1)):=fun H' h1 h2=>by
  refine .inr ⟨hl,none,28,some 1,_,by rw[List.length_set,hR],by omega,h1,by rw[List.length_set,List.length_set,List.length_map];exact hRw.len,fun i cell hi=>?_⟩
  by_cases hir:ri=i
  ·subst hir
   rw[List.getElem?_set_self (by rw[List.length_map,hRw.len];omega)]at hi
   cases hi
   exact⟨_,List.getElem?_set_self o_,hsee1 H' (h2 _ hgm)⟩
  ·rw [List.getElem?_set_ne hir, List.getElem?_map] at hi
   cases hg:hs[i]? with
   |none=>rw[hg]at hi;cases hi
   |some g=>
    rw[hg]at hi
    cases hi
    obtain⟨p1,p2,d,p3,p4,p5⟩:=hRw.row i g hg
    exact⟨d,by rw[List.getElem?_set_ne hir];exact p3,.inr (.inr ⟨g,0,none,3,some 1,Ab d,by rw[p4],by omega,by rw[h2 g (List.mem_of_getElem? hg)];exact p5,rfl⟩)⟩
 have hne: ∀g∈hs,g≠hl∧6≤g:=fun g hg=>by
  refine⟨fun e=>l3 (e▸hg),?_⟩
  obtain⟨t,ht,rfl⟩:=List.getElem_of_mem hg
  exact(hRw.row t _ (List.getElem?_eq_getElem ht)).1
 generalize hs.getD ri 0=g at*
 (repeat'(first|(with_reducible apply And.intro)|(refine fun(_:True)=>?_)))
 all_goals first|with_reducible rfl|exact trivial|omega|with_reducible assumption|(with_reducible exact decide_eq_true (by omega))|(with_reducible refine Qat ?_;omega)|(with_reducible refine Qan ?_;omega)|with_reducible exact Qcb hb|with_reducible exact Qcs ha|(rw[Qcb hb];exact wr8 (by omega) (by omega))|(with_reducible refine Dt ?_ ?_ ?_<;>omega)|((repeat(first|(rw[Qad,if_pos (by first|rfl|omega)])|(rw[Qad,if_neg (by omega)])))<;>first|assumption|rfl)|rfl|skip
 refine Qc9 (cv:=.sl 4 0 jj.length none) (lv:=.sl hl 0 (m+1) none) ?_ ?_ (.inr (.inr ⟨4,0,none,3,some 1,Ab jj,rfl,?_,?_,rfl⟩)) (hsee2 _ ?_ (fun j hj=>?_))
 ·omega
 ·((repeat(first|(rw[Qad,if_pos (by first|rfl|omega)])|(rw[Qad,if_neg o_])))<;>first|assumption|rfl)
 ·omega
 ·((repeat(first|(rw[Qad,if_pos (by first|rfl|omega)])|(rw[Qad,if_neg o_])))<;>first|assumption|rfl)
 ·((repeat(first|(rw[Qad,if_pos (by first|rfl|omega)])|(rw[Qad,if_neg o_])))<;>first|assumption|rfl)
 ·have := hne j hj
  rw[Qad,if_neg o_,Qad,if_neg this.1]
structure E8(n:Nat)(jx:List (List Int))(hl:Nat)(cells:List V)(H:T O)(nx:Nat):Prop where
 len:cells.length=jx.length
 list:0<jx.length->6<=hl/\hl<nx/\gt H hl=some (.row 28 (some 1) cells)
 row: ∀(i:Nat)(cell:V),cells[i]? =some cell->∃g room sp c,cell= .sl g 0 n room/\6<=g/\g<nx/\(g≠hl\/jx.length=0)/\jx[i]? =some c/\c.length=n/\gt H g=some (.row 3 sp (Ab c))
theorem Rows.lstR{n:Nat}{jx:List (List Int)}{hl:Nat}{hs:List Nat}{H:T O}{nx:Nat}(h:Rows n 6 jx hl hs H nx):E8 n jx hl (hs.map fun h=>V.sl h 0 n none) H nx:=by
 refine⟨by rw[List.length_map];exact h.len,fun hp=>?_,fun i cell hi=>?_⟩
 ·obtain ⟨a, b, c, d⟩ := h.list hp
  exact⟨a,b,d⟩
 ·rw [List.getElem?_map] at hi
  cases hg:hs[i]? with
  |none=>rw[hg]at hi;cases hi
  | some g =>
   rw[hg]at hi
   cases hi
   obtain⟨q1,q2,c,q3,q4,q5⟩:=h.row i g hg
   refine⟨g,none,some 1,c,rfl,q1,q2,?_,q3,q4,q5⟩
   by_cases hp:0<jx.length
   ·refine .inl ?_
    rintro rfl
    exact(h.list hp).2.2.1 (List.mem_of_getElem? hg)
   ·exact .inr o_
theorem E8.sees{n:Nat}{jx:List (List Int)}{hl:Nat}{cells:List V}{H H':T O}{nx:Nat}(h:E8 n jx hl cells H nx)(hp:0<jx.length)(hg: ∀g,6<=g->gt H' g=gt H g):Fz H' (.sl hl 0 jx.length none) jx:=by
 obtain⟨l1,l2,l3⟩:=h.list hp
 refine .inr ⟨hl,none,28,some 1,cells,rfl,by omega,by rw[hg hl l1];exact l3,h.len,fun i cell hi=>?_⟩
 obtain⟨g,room,sp,c,rfl,q1,q2,q3,q4,q5,q6⟩:=h.row i cell hi
 exact⟨c,q4,.inr (.inr ⟨g,0,room,3,sp,Ab c,by rw[q5],by omega,by rw[hg g q1];exact q6,rfl⟩)⟩
theorem lst_new{n:Nat}{jx:List (List Int)}{hl hl' g nx nx':Nat}{cells:List V}{H H':T O}{room sp:Option Nat}{c:List Int}(h:E8 n jx hl cells H nx)(h6:6<=nx)(hn:nx<=g/\g<hl'/\hl'<nx')(hc:c.length=n)(h1:gt H' g=some (.row 3 sp (Ab c)))(h2:gt H' hl'=some (.row 28 (some 1) (cells++[.sl g 0 n room])))(h3: ∀k,k<nx->6<=k->k≠hl\/jx.length=0->gt H' k=gt H k):E8 n (jx++[c]) hl' (cells++[.sl g 0 n room]) H' nx':=by
 refine⟨by simp[h.len],fun _=>⟨by omega,hn.2.2,h2⟩,fun i cell hi=>?_⟩
 rw[List.getElem?_append]at hi
 split at hi
 ·rename_i hlt
  obtain⟨k,room',sp',d,rfl,q1,q2,q3,q4,q5,q6⟩:=h.row i cell hi
  exact⟨k,room',sp',d,rfl,q1,by omega,.inl o_,by rw[List.getElem?_append_left (by rw[<-h.len];exact hlt)];exact q4,q5,by rw[h3 k q2 q1 q3];exact q6⟩
 ·rename_i hge
  have hi2:i=cells.length:=by
   have:=(List.getElem?_eq_some_iff.1 hi).1
   simp at this;omega
  subst hi2
  rw[Nat.sub_self]at hi
  cases hi
  exact⟨g,room,sp,c,rfl,by omega,by omega,.inl o_,by rw[h.len];simp,hc,h1⟩
abbrev Qd6(n:Nat)(cs:List (List Int))(j:Nat):List (List Int):=cs++List.replicate j (List.replicate n 0)
structure M3(jj:List Int)(cs:List (List Int))(lv:V)(H:T O)(nx:Nat):Prop where
 h2:gt H 2=some n2
 h4:gt H 4=some (.row 3 (some 1) (Ab jj))
 h5:gt H 5=some (.row 31 none [.sl 4 0 jj.length none,lv])
 nx:6<=nx
theorem Qsk(n:Nat)(cs:List (List Int))(j:Nat):Qd6 n cs (j+1)=Qd6 n cs j++[List.replicate n 0]:=by
 unfold Qd6
 rw[List.replicate_succ',List.append_assoc]
theorem Qsj(jj:List Int)(cs:List (List Int))(h1:1<=jj.length)(h6:jj.length<=6)(h40:cs.length<=40)(hl0:Nat)(cells0:List V)(H0:T O)(nx0:Nat)(lg0:List Nat)(hM:M3 jj cs (owV hl0 cs.length) H0 nx0)(hL:E8 jj.length cs hl0 cells0 H0 nx0):
  Sat Pg none 0 (at' 7 [1,1,1,0,0,1,1,1,1,1,1,1,0,0]) (A4 g0 138 [(4,.ptr 2 0),(5,.ptr 5 0)] H0 nx0 lg0) (Qcd g0 138 (.exit 3) (fun _=>[(4,.ptr 2 0),(5,.ptr 5 0)]) (fun hl H nx lg=>∃cells,M3 jj cs (.sl hl 0 41 none) H nx/\E8 jj.length (Qd6 jj.length cs (41-cs.length)) hl cells H nx)):=by
 have key:=Qgw (c:=at' 7 [1,1,1,0,0,1,1,1,1,1,1,1,0,0]) (b:=at' 7 [1,1,1,0,0,1,1,1,1,1,1,1,0,0,0]) k_ (k:=138) (gl:=g0) (fun(q:Nat×Nat×List V)(M':Mem)=>q.1<=41-cs.length/\M3 jj cs (owV q.2.1 (cs.length+q.1)) M'.H M'.nx/\E8 jj.length (Qd6 jj.length cs q.1) q.2.1 q.2.2 M'.H M'.nx) (fun q=>[(4,.ptr 2 0),(5,.ptr 5 0)]) (fun q=>41-cs.length-q.1) (fun e sl M'=>e= .exit 3/\sl=[(4,.ptr 2 0),(5,.ptr 5 0)]/\∃hl cells,M3 jj cs (.sl hl 0 41 none) M'.H M'.nx/\E8 jj.length (Qd6 jj.length cs (41-cs.length)) hl cells M'.H M'.nx) (fun q H nx lg G hI hN hE _=>?_) (0,hl0,cells0) ⟨H0,nx0,lg0⟩ ⟨Nat.zero_le _,hM,by unfold Qd6;rw[List.replicate_zero,List.append_nil];exact hL⟩
 ·refine key.mono ?_
  rintro e st ⟨sl,M',rfl,rfl,rfl,hl,cells,hQ⟩
  exact⟨hl,M'.H,M'.nx,M'.lg,rfl,rfl,cells,hQ⟩
 ·obtain ⟨j, hl, cells⟩ := q
  obtain⟨hj,⟨b2,b4,b5,b6⟩,hR⟩:=hI
  dsimp only at hj b2 b4 b5 b6 hR hN
  have hrl:(Qd6 jj.length cs j).length=cs.length+j:=by simp[Qd6]
  by_cases hlt:j<41-cs.length
  ·have hN1 := fun hl' g room H nx lg h1 => hN (j + 1, hl', cells ++ [V.sl g 0 jj.length room]) H nx lg ⟨by dsimp only; omega, h1⟩ (by dsimp only; omega)
   dsimp only at hN1
   rw[Qsk]at hN1
   generalize Qd6 jj.length cs j=jx at*
   have hcl:cells.length=cs.length+j:=by rw[hR.len,hrl]
   have hrep:rep jj.length [i6 0]=Ab (List.replicate jj.length 0):=Qoo jj.length 0
   have jd: ∀(room:Option Nat)(H':T O)(lg':List Nat),gt H' 2=some n2->gt H' 4=some (.row 3 (some 1) (Ab jj))->gt H' 5=some (.row 31 none [.sl 4 0 jj.length none,.sl (nx+2) 0 (cs.length+j+1) none])->gt H' (nx+2)=some (.row 28 (some 1) (cells++[V.sl nx 0 jj.length room]))->gt H' nx=some (.row 3 none (Ab (List.replicate jj.length 0)))->(∀g,g<nx->6<=g->g≠hl\/jx.length=0->gt H' g=gt H g)->G .normal [(4,.ptr 2 0),(5,.ptr 5 0)] H' (nx+3) lg':=by
    intro room H' lg' q2 q4 q5 q6 q7 q8
    refine hN1 (nx+2) nx room H' (nx+3) lg' ⟨⟨q2,q4,q5,by omega⟩,?_⟩
    exact lst_new hR b6 ⟨Nat.le_refl _,by omega,by omega⟩ (by simp) q7 q6 q8
   clear hN hE hN1
   generalize hk:cs.length+j=k at*
   have hk41:k<41:=by omega
   have hk0:jx.length=k:=hrl
   clear hk hrl
   cases k with
   |zero=>
    refine⟨[lo_ 118 (.row 31 none [.sl 4 0 jj.length none,.nils]) .nils,lo_ 122 (.row 31 none [.sl 4 0 jj.length none,.nils]) .nils,lo_ 124 (.row 31 none [.sl 4 0 jj.length none,.nils]) (.sl 4 0 jj.length none),mk 126,(128,.an 1 [.sl nx 0 jj.length (some (jj.length-jj.length))]),so (.row 31 none [.sl 4 0 jj.length none,.nils]) [.sl 4 0 jj.length none,.sl (nx+1+1) 0 1 none],toO [(4,.ptr 2 0),(5,.ptr 5 0)]],1000,?_⟩
    refine Eq.mp (by kernel_rfl:(let z0:=[V.sl nx 0 jj.length (some (jj.length-jj.length))];let z1:=V.sl 4 0 jj.length none;let z4:=(↑jj.length:Int);let z5:=V.sl (nx+1+1) 0 1 none;let z2:=pt (pt H nx (O.row 3 none (rep jj.length [i6 0]))) (nx+1) (O.row 28 none z0);let z7:=[z1,V.nils];let z3:=some (O.row 31 none z7);let z6:=pt z2 (nx+1+1) (O.row 28 (some 1) z0);An [gt H 5=z3,Ad (Aj 1 z7)=some V.nils,gt H 5=z3,Ad (Aj 1 z7)=some V.nils,gt H 5=z3,Ad (Aj (0+0) z7)=some z1,An [(0:Int)≤z4,z4≤z4,(↑(8:Nat):Int)*z4≤(281474976710656:Int),z4≤(9223372036854775807:Int)],An [A3 z2 1 (V.sl (nx+1) 0 1 (some 0))=some (1,z0),1≤9223372036854775807,1*24≤140737488355328],An [gt z6 5=z3,Ax 1 z7 [z5]=some [z1,z5]],G Ex.normal [(4,V.ptr 2 0),(5,V.ptr 5 0)] (pt z6 5 (O.row 31 none [z1,z5])) (nx+1+1+1) ([5]++([]++lg)),Sm (V.ptr 2 0),Sm (V.ptr 5 0),Tt])=_) ?_
    (repeat'(first|(with_reducible apply And.intro)|(refine fun(_:True)=>?_)))
    all_goals first|with_reducible rfl|exact trivial|omega|with_reducible assumption|(with_reducible exact decide_eq_true (by omega))|with_reducible exact Qeu (t:=28) (sp:=none) ((Qad _ _ _ _).trans ((if_pos rfl).trans (by kernel_rfl)))|(with_reducible refine Dt ?_ ?_ ?_<;>omega)|((repeat(first|(rw[Qad,if_pos (by first|rfl|omega)])|(rw[Qad,if_neg (by omega)])))<;>first|assumption|rfl)|rfl|skip
    refine jd (some (jj.length-jj.length)) _ _ ?_ ?_ ?_ ?_ ?_ (fun g hg1 hg2 hg3=>?_)
    ·((repeat(first|(rw[Qad,if_pos (by first|rfl|omega)])|(rw[Qad,if_neg o_])))<;>first|assumption|rfl)
    ·((repeat(first|(rw[Qad,if_pos (by first|rfl|omega)])|(rw[Qad,if_neg o_])))<;>first|assumption|rfl)
    ·((repeat(first|(rw[Qad,if_pos (by first|rfl|omega)])|(rw[Qad,if_neg o_])))<;>first|assumption|rfl)
    ·rw[Qad,if_neg o_,Qad,if_pos rfl,List.eq_nil_of_length_eq_zero hcl];rfl
    ·rw[Qad,if_neg o_,Qad,if_neg o_,Qad,if_neg o_,Qad,if_pos rfl];exact congrArg (fun z=>some (O.row 3 none z)) hrep
    ·rw[Qad,if_neg o_,Qad,if_neg o_,Qad,if_neg o_,Qad,if_neg o_]
   |succ k=>
    obtain⟨l1,l2,l4⟩:=hR.list o_
    refine⟨[lo_ 118 (.row 31 none [.sl 4 0 jj.length none,.sl hl 0 (k+1) none]) (.sl hl 0 (k+1) none),yes 120,lo_ 122 (.row 31 none [.sl 4 0 jj.length none,.sl hl 0 (k+1) none]) (.sl hl 0 (k+1) none),lo_ 124 (.row 31 none [.sl 4 0 jj.length none,.sl hl 0 (k+1) none]) (.sl 4 0 jj.length none),mk 126,(128,.ao (.row 28 (some 1) cells) 1 [.sl nx 0 jj.length (some (jj.length-jj.length))]),so (.row 31 none [.sl 4 0 jj.length none,.sl hl 0 (k+1) none]) [.sl 4 0 jj.length none,.sl (nx+1+1) 0 (k+1+1) none],toO [(4,.ptr 2 0),(5,.ptr 5 0)]],1000,?_⟩
    refine Eq.mp (by kernel_rfl:(let z2:=[V.sl nx 0 jj.length (some (jj.length-jj.length))];let z3:=(↑jj.length:Int);let z4:=V.sl 4 0 jj.length none;let z6:=V.sl (nx+1+1) 0 (k+1+1) none;let z8:=V.sl hl 0 (k+1) none;let z0:=pt (pt H nx (O.row 3 none (rep jj.length [i6 0]))) (nx+1) (O.row 28 none z2);let z1:=[z4,z8];let z5:=pt (pt z0 hl O.dead) (nx+1+1) (O.row 28 (some 1) (cells++z2));let z7:=some (O.row 31 none z1);An [gt H 5=z7,Ad (Aj 1 z1)=some z8,decide ((↑(k+1):Int)<(41:Int))=true,gt H 5=z7,Ad (Aj 1 z1)=some z8,gt H 5=z7,Ad (Aj (0+0) z1)=some z4,An [(0:Int)≤z3,z3≤z3,(↑(8:Nat):Int)*z3≤(281474976710656:Int),z3≤(9223372036854775807:Int)],A3 z0 1 (V.sl (nx+1) 0 1 (some 0))=some (1,z2),gt z0 hl=some (O.row 28 (some 1) cells),cells.length=(k+1)*1,k+1+1≤9223372036854775807,(k+1+1)*24≤140737488355328,An [gt z5 5=z7,Ax 1 z1 [z6]=some [z4,z6]],G Ex.normal [(4,V.ptr 2 0),(5,V.ptr 5 0)] (pt z5 5 (O.row 31 none [z4,z6])) (nx+1+1+1) ([5]++([hl]++lg)),Sm (V.ptr 2 0),Sm (V.ptr 5 0),Tt])=_) ?_
    (repeat'(first|(with_reducible apply And.intro)|(refine fun(_:True)=>?_)))
    all_goals first|with_reducible rfl|exact trivial|omega|with_reducible assumption|(with_reducible exact decide_eq_true (by omega))|with_reducible exact Qeu (t:=28) (sp:=none) ((Qad _ _ _ _).trans ((if_pos rfl).trans (by kernel_rfl)))|(with_reducible refine Dt ?_ ?_ ?_<;>omega)|((repeat(first|(rw[Qad,if_pos (by first|rfl|omega)])|(rw[Qad,if_neg (by omega)])))<;>first|assumption|rfl)|rfl|skip
    refine jd (some (jj.length-jj.length)) _ _ ?_ ?_ ?_ ?_ ?_ (fun g hg1 hg2 hg3=>?_)
    ·((repeat(first|(rw[Qad,if_pos (by first|rfl|omega)])|(rw[Qad,if_neg o_])))<;>first|assumption|rfl)
    ·((repeat(first|(rw[Qad,if_pos (by first|rfl|omega)])|(rw[Qad,if_neg o_])))<;>first|assumption|rfl)
    ·((repeat(first|(rw[Qad,if_pos (by first|rfl|omega)])|(rw[Qad,if_neg o_])))<;>first|assumption|rfl)
    ·rw[Qad,if_neg o_,Qad,if_pos rfl]
    ·rw[Qad,if_neg o_,Qad,if_neg o_,Qad,if_neg o_,Qad,if_neg o_,Qad,if_pos rfl];exact congrArg (fun z=>some (O.row 3 none z)) hrep
    ·rw[Qad,if_neg o_,Qad,if_neg o_,Qad,if_neg o_,Qad,if_neg o_,Qad,if_neg o_]
  ·have : j = 41 - cs.length := by omega
   subst this
   have hk:cs.length+(41-cs.length)=41:=by omega
   rw[hk]at b5
   have hx:=hE 3 [(4,.ptr 2 0),(5,.ptr 5 0)] H nx lg ⟨rfl,rfl,hl,cells,⟨b2,b4,b5,b6⟩,hR⟩
   clear hN hE
   refine⟨[lo_ 118 (.row 31 none [.sl 4 0 jj.length none,.sl hl 0 41 none]) (.sl hl 0 41 none),toO [(4,.ptr 2 0),(5,.ptr 5 0)]],1000,?_⟩
   exact v_ (p:=let z0:=[V.sl 4 0 jj.length none,V.sl hl 0 41 none];Bn [gt H 5=some (O.row 31 none z0),Ad (Aj 1 z0)=some (V.sl hl 0 41 none),G (Ex.exit 3) [(4,V.ptr 2 0),(5,V.ptr 5 0)] H nx lg,Sm (V.ptr 2 0),Sm (V.ptr 5 0)])
theorem bend3(b a N:Int)(jj:List Int)(cs:List (List Int))(hb:0<=b/\b<=255)(ha:0<=a/\a<=255)(h1:1<=jj.length)(h6:jj.length<=6)(jy:Qa4 jj.length cs)(h40:cs.length<=40)(h0:b%6=3):Ac Pg g0 7 [beV b a N,gV jj cs] (gV jj (Qd6 jj.length cs (41-cs.length))):=by
 have jt:=fun H nx lg hB=>Qb3 b a N jj cs h1 (by omega) jy (by omega) H nx lg hB
 have jn:=fun H=>@Qcj H jj
 have hmore:=fun hl cells H nx lg hM hL=>Qsj jj cs h1 h6 h40 hl cells H nx lg hM hL
 have hml:(Qd6 jj.length cs (41-cs.length)).length=41:=by simp[Qd6];omega
 generalize Qd6 jj.length cs (41-cs.length)=jx at*
 refine Ac.of_vcX (n:=1000) (r:=[2]) (sl:=[(4,.ptr 2 0)]) (S:={sl:=[(4,.ptr 0 0)],os:=[.row 31 none [sl jj,gC jx]]}) (hs:=[(12,.cp jj.length (Ab jj)),(0,.loopM (bcS 0) (.exit 0) (fun _=>bcX) (fun hl H nx lg=>∃hs,BH b a N jj cs cs hl hs H nx) (fun hl H nx lg=>[lo_ 36 (bdO b a N) (w8 b),nu 37 (b%6),no 38,lo_ 53 (bdO b a N) (w8 b),nu 54 (b%6),no 55,lo_ 86 (bdO b a N) (w8 b),nu 87 (b%6),no 88,lo_ 114 (bdO b a N) (w8 b),nu 115 (b%6),yes 116,(0,.loopM [(4,.ptr 2 0),(5,.ptr 5 0)] (.exit 3) (fun _=>[(4,.ptr 2 0),(5,.ptr 5 0)]) (fun hl H nx lg=>∃cells,M3 jj cs (.sl hl 0 41 none) H nx∧E8 jj.length jx hl cells H nx) (fun hl H nx lg=>[lo_ 137 (.row 31 none [.sl 4 0 jj.length none,.sl hl 0 41 none]) (.agg [.sl 4 0 jj.length none,.sl hl 0 41 none]),so n2 [.sl 4 0 jj.length none,.sl hl 0 41 none]]))]))]) ?_
 refine Eq.mp (by kernel_rfl:(let z1:=V.sl 4 0 jj.length none;let z2:=Ad (Aj (0+0) (bdL b a N));let z3:=(6:Int);let z4:=V.ptr 2 0;let z5:=some (bdO b a N);let z6:=V.ptr 5 0;let z8:=O.row 31 none [V.nils,V.nils];let z9:=some (w8 b);let y0:=sl jj;let z0:=pt (pt (pt T.e 0 (O.row 27 none [w8 b,w8 a,i6 N])) 1 (O.row 31 none [y0,gC cs])) 2 z8;let z7:=Int.tmod b z3;An [V.agg [y0,gC jx]=gV jj jx,An [A3 (pt z0 3 (O.row 3 none [])) 1 y0=some (jj.length,Ab jj),A3 (pt z0 3 (O.row 3 none [])) 1 (V.sl 3 0 0 (some 0))=some (0,[]),1≤jj.length,jj.length≤9223372036854775807,jj.length*8≤140737488355328],An [Sm (V.ptr 0 0),Sm (V.ptr 1 0),z4=z4,z6=z6,i6 0=i6 ↑(0:Nat),Tt],Sat Pg none 0 (at' 7 [1,1,0,1,0]) (A4 g0 138 (bcS 0) (pt (pt (pt (pt z0 3 (O.row 3 none [])) 4 (O.row 3 (some 1) (Ab jj))) 5 z8) 5 (O.row 31 none [z1,V.nils])) 6 ([5]++([]++[]))) (Qcd g0 138 (Ex.exit 0) (fun x=>bcX) fun hl H nx lg=>∃hs,BH b a N jj cs cs hl hs H nx),∀(h:Nat)(H:T O)(nx:Nat)(lg:List Nat),(∃hs,BH b a N jj cs cs h hs H nx)→gt H 0=z5∧z2=z9∧z7=b%z3∧(b%z3==(0:Int))=false∧gt H 0=z5∧z2=z9∧z7=b%z3∧(b%z3==(1:Int))=false∧gt H 0=z5∧z2=z9∧z7=b%z3∧(b%z3==(2:Int))=false∧gt H 0=z5∧z2=z9∧z7=b%z3∧(b%z3==(3:Int))=true∧(z4=z4∧z6=z6∧True)∧Sat Pg none 0 (at' 7 [1,1,1,0,0,1,1,1,1,1,1,1,0,0]) (A4 g0 138 [(4,z4),(5,z6)] H nx lg) (Qcd g0 138 (Ex.exit 3) (fun x=>[(4,z4),(5,z6)]) fun hl H nx lg=>∃cells,M3 jj cs (V.sl hl 0 41 none) H nx∧E8 jj.length jx hl cells H nx)∧∀(h:Nat)(H:T O)(nx:Nat)(lg:List Nat),(∃cells,M3 jj cs (V.sl h 0 41 none) H nx∧E8 jj.length jx h cells H nx)→gt H 5=some (O.row 31 none [z1,V.sl h 0 41 none])∧A6 2 [z1,V.sl h 0 41 none]=some [z1,V.sl h 0 41 none]∧(gt H 2=some n2∧Ax 0 [V.nils,V.nils] [z1,V.sl h 0 41 none]=some [z1,V.sl h 0 41 none])∧(z4=z4∧True)∧Gc 0 [2] (A4 g0 138 [(4,z4)] (pt H 2 (O.row 31 none [z1,V.sl h 0 41 none])) nx ([2]++lg)) (Ah g0 138 (SL.mk [(4,V.ptr 0 0)] [O.row 31 none [y0,gC jx]] [] []))])=_) ?_
 (repeat'(first|(with_reducible apply And.intro)|(refine fun(_:True)=>?_)))
 all_goals first|with_reducible rfl|exact trivial|omega|with_reducible assumption|with_reducible exact jn _|with_reducible exact Qa2 (t:=3) (sp:=none) (by kernel_rfl)|exact jt _ _ _ ⟨by kernel_rfl,by kernel_rfl,by kernel_rfl,by kernel_rfl,by kernel_rfl,by decide⟩|rfl|skip
 intro hl H nx lg hQ
 obtain⟨hs,⟨b0,b1,b2,b4,b5,b6⟩,hRw⟩:=hQ
 (repeat'(first|(with_reducible apply And.intro)|(refine fun(_:True)=>?_)))
 all_goals first|with_reducible rfl|exact trivial|omega|with_reducible assumption|(with_reducible refine Qat ?_;omega)|(with_reducible refine Qan ?_;omega)|with_reducible exact Qcb hb|exact hmore _ _ _ _ _ ⟨b2,b4,b5,b6⟩ hRw.lstR|rfl|skip
 intro hl' H' nx' lg' hQ'
 obtain⟨cells,⟨c2,c4,c5,c6⟩,hLs⟩:=hQ'
 (repeat'(first|(with_reducible apply And.intro)|(refine fun(_:True)=>?_)))
 all_goals first|with_reducible rfl|exact trivial|omega|with_reducible assumption|rfl|skip
 refine Qc9 (cv:=.sl 4 0 jj.length none) (lv:=.sl hl' 0 41 none) ?_ ?_ (.inr (.inr ⟨4,0,none,3,some 1,Ab jj,rfl,?_,?_,rfl⟩)) ?_
 ·omega
 ·((repeat(first|(rw[Qad,if_pos (by first|rfl|omega)])|(rw[Qad,if_neg o_])))<;>first|assumption|rfl)
 ·omega
 ·((repeat(first|(rw[Qad,if_pos (by first|rfl|omega)])|(rw[Qad,if_neg o_])))<;>first|assumption|rfl)
 ·have := hLs.sees (H' := pt H' 2 (.row 31 none [.sl 4 0 jj.length none, .sl hl' 0 41 none])) o_ (fun g hg => by rw [Qad, if_neg o_])
  rwa [hml]at this
theorem bend_fn(b a N:Int)(jj:List Int)(cs:List (List Int))(hb:0<=b/\b<=255)(ha:0<=a/\a<=255)(h1:1<=jj.length)(h6:jj.length<=6)(jy:Qa4 jj.length cs)(h40:cs.length<=40): ∃cards' cs',Ac Pg g0 7 [beV b a N,gV jj cs] (gV cards' cs')/\cards'.length<=6/\cs'.length<=41/\∀c∈cs',c.length<=6:=by
 have hle: ∀c∈cs,c.length<=6:=fun c hc=>by rw[jy c hc];exact h6
 have hb6:b%6=0\/b%6=1\/b%6=2\/b%6=3\/b%6=4\/b%6=5:=by omega
 cases hR:cs.length with
 | zero =>
  rcases hb6 with h|h|h|h|h|h
  ·exact⟨_,_,bend0z b a N jj cs hb ha h1 h6 jy h40 hR h,by rw[List.length_set];exact h6,by omega,hle⟩
  ·exact⟨_,_,bend1z b a N jj cs hb ha h1 h6 jy h40 hR h,by simp,by omega,hle⟩
  ·exact⟨_,_,bend2z b a N jj cs hb ha h1 h6 jy h40 hR h,by simp,by omega,hle⟩
  ·refine ⟨_, _, bend3 b a N jj cs hb ha h1 h6 jy h40 h, h6, by simp [Qd6]; omega, fun c hc => ?_⟩
   rcases List.mem_append.1 hc with hc|hc
   ·exact hle c hc
   ·rw[(List.mem_replicate.1 hc).2,List.length_replicate];exact h6
  ·exact⟨_,_,bend4z b a N jj cs hb ha h1 h6 jy h40 hR h,by simp,by simp,fun c hc=>by cases hc⟩
  ·exact⟨_,_,bend5z b a N jj cs hb ha h1 h6 jy h40 hR h,by simp,by omega,hle⟩
 | succ m =>
  rcases hb6 with h|h|h|h|h|h
  ·exact⟨_,_,bend0s m b a N jj cs hb ha h1 h6 jy h40 hR h,by rw[List.length_set];exact h6,by omega,hle⟩
  ·obtain ⟨cs', h2, h3, h4⟩ := bend1s b a N jj cs hb ha h1 h6 jy h40 m hR h
   exact⟨_,_,h2,h6,by omega,fun c hc=>by rw[h4 c hc];exact h6⟩
  ·have : jj.length = 1 \/ ∃ k, jj.length = k + 2 := by
    rcases Nat.lt_or_ge 1 jj.length with h'|h'
    ·exact .inr ⟨jj.length-2,by omega⟩
    ·exact .inl o_
   rcases this with hn|⟨k,hn⟩
   ·obtain ⟨cs', h2, h3, h4⟩ := bend2s1 b a N jj cs hb ha h1 h6 jy h40 m hR h hn
    exact⟨_,_,h2,h6,by omega,fun c hc=>by have:=h4 c hc;omega⟩
   ·obtain ⟨cs', h2, h3, h4⟩ := bend2s2 b a N jj cs hb ha h1 h6 jy h40 m hR h k hn
    exact⟨_,_,h2,h6,by omega,fun c hc=>by have:=h4 c hc;omega⟩
  ·refine ⟨_, _, bend3 b a N jj cs hb ha h1 h6 jy h40 h, h6, by simp [Qd6]; omega, fun c hc => ?_⟩
   rcases List.mem_append.1 hc with hc|hc
   ·exact hle c hc
   ·rw[(List.mem_replicate.1 hc).2,List.length_replicate];exact h6
  ·exact⟨_,_,bend4s m b a N jj cs hb ha h1 h6 jy h40 hR h,by simp,by simp,fun c hc=>by cases hc⟩
  ·exact⟨_,_,bend5s m b a N jj cs hb ha h1 h6 jy h40 hR h,by simp,by omega,hle⟩
def memB(n:Nat)(v:Int)(ps:Nat):Bool:=decide (0<=v)&&(decide (v<n)&&(decide (ps/2^n=0)&&decide (ps/2^v.toNat%2=0)))
theorem shr_v{G:Ctx}{t:Nat}{x:Nat}{v:Int}(h0:0<=v)(hk:v<=64):Ai G .shr t (u6 (x:Int)) (i6 v)=some (u6 ((x/2^v.toNat:Nat):Int)):=by
 have:=@F6 G t x v.toNat o_
 rwa [Int.toNat_of_nonneg h0]at this
def toN(l:List Int):List Nat:=l.map Int.toNat
theorem Qay(l:List Int):(toN l).length=l.length:=by simp[toN]
theorem Qhh(l:List Int)(k:Nat):(toN l).getD k 0=(l.getD k 0).toNat:=by
 unfold toN
 rw[List.getD_eq_getElem?_getD,List.getD_eq_getElem?_getD,List.getElem?_map]
 cases l[k]? <;>rfl
theorem sl_nl{l:List Int}(h: ∀x∈l,0<=x):sl l=nl (toN l):=by
 show V.im l.length (Ab l)=V.im (toN l).length (nt (toN l))
 rw[Qay,Qe7]
 congr 2
 unfold toN
 rw[List.map_map]
 conv=>lhs;rw[<-List.map_id l]
 refine List.map_congr_left fun x hx=>?_
 simp only[Function.comp,id]
 rw[Int.toNat_of_nonneg (h x hx)]
theorem Qpn{jj:List Int}{cs:List (List Int)}(h:Bx jj cs=0):B5 jj cs=true/\cs.any Cf=false:=by
 unfold Bx at h
 cases h1:B5 jj cs with
 |false=>rw[h1]at h;simp at h
 |true=>
  cases h2:cs.any Cf with
  |true=>rw[h1,h2]at h;simp at h
  |false=>exact⟨rfl,rfl⟩
structure WholeOk(jj:List Int)(cs:List (List Int)):Prop where
 cok:Bt (toN jj)
 rok: ∀c∈cs.map toN,Cb (toN jj) c
 len:cs.length<=40
 eq:gV jj cs=dN (toN jj) (cs.map toN)
 size:Ar jj jj.length<=1024
theorem Qj5{jj:List Int}{cs:List (List Int)}(h:Bx jj cs=0):WholeOk jj cs:=by
 obtain⟨h1,h2⟩:=Qpn h
 unfold B5 at h1
 simp only[Bool.and_eq_true,decide_eq_true_eq]at h1
 obtain⟨a1,a2,a3,a4,a5,a6⟩:=h1
 have hc: ∀k,k<jj.length->2<=jj.getD k 0/\jj.getD k 0<=4:=fun k hk=>of_decide_eq_true (Qam.1 a4 k hk)
 have hcm: ∀x∈jj,0<=x:=fun x hx=>by
  obtain⟨k,hk,rfl⟩:=List.getElem_of_mem hx
  have:=hc k hk
  rw[List.getD_eq_getElem?_getD,List.getElem?_eq_getElem hk]at this
  simp only[Option.getD_some]at this;omega
 have km: ∀c∈cs,c.length=jj.length/\∀k,k<jj.length-> -1<=c.getD k 0/\c.getD k 0<jj.getD k 0:=fun c hc=>by
  have:=List.all_eq_true.1 a6 c hc
  unfold Bd at this
  rw[Bool.and_eq_true,decide_eq_true_eq]at this
  exact⟨this.1,fun k hk=>of_decide_eq_true (Qam.1 this.2 k hk)⟩
 have jp: ∀c∈cs,∀x∈c,0<=x:=fun c hc x hx=>by
  have:=List.any_eq_false.1 h2 c hc
  unfold Cf at this
  have h3:=List.any_eq_false.1 (by simpa using this:(c.any fun x=>decide (x<0))=false) x hx
  simpa using h3
 refine⟨⟨by rw[Qay];exact a1,by rw[Qay];exact a2,fun k hk=>?_⟩,fun c hc'=>?_,a3,?_,a5⟩
 ·rw [Qay] at hk
  have:=hc k hk
  rw[Qhh];omega
 ·obtain ⟨d, hd, rfl⟩ := List.mem_map.1 hc'
  obtain⟨r1,r2⟩:=km d hd
  refine⟨by rw[Qay,Qay];exact r1,fun k hk=>?_⟩
  rw[Qay]at hk
  have:=r2 k hk
  have:=hc k hk
  rw[Qhh,Qhh]
  omega
 ·have e2 : cs.map sl = (cs.map toN).map nl := by
   rw[List.map_map]
   exact List.map_congr_left fun c hc=>sl_nl (jp c hc)
  show V.agg [sl jj,.im cs.length (cs.map sl)]=V.agg [nl (toN jj),.im (cs.map toN).length ((cs.map toN).map nl)]
  rw[sl_nl hcm,e2,List.length_map]
abbrev fpS(f:Nat->Int)(e:Int):SL:={sl:=[(6,.ptr 0 0),(7,i6 e)],os:=[.row 37 none (arF f)]}
def famG(jj:List Int)(cs:List (List Int))(v:Int)(ps:Nat):Nat->Int:=famF (toN jj) (cs.map toN) v.toNat ps
theorem Qti(jj:List Int)(cs:List (List Int))(v:Int)(ps:Nat)(hl1:jj.length<=64)(hl2:cs.length<=1000)(hcl: ∀c∈cs,c.length<=1000)(h:Bx jj cs=0)(hm:memB jj.length v ps=true):Ac Pg g0 60 [gV jj cs,i6 v,u6 ps] (.tup [ar (famG jj cs v ps),i6 0]):=by
 have h1:=Qi2 jj cs o_ hl2 hcl
 have hw:=Qj5 h
 rw[h]at h1
 unfold memB at hm
 simp only[Bool.and_eq_true,decide_eq_true_eq]at hm
 obtain⟨m1,m2,m3,m4⟩:=hm
 have hf:=Qrs (toN jj) (cs.map toN) v.toNat ps hw.cok hw.rok (by rw[Qay];omega) (by rw[List.length_map];exact hw.len)
 rw[<-hw.eq,Int.toNat_of_nonneg m1]at hf
 have s1:=@F6 (Qac Pg) 72 ps jj.length hl1
 have s2:=@shr_v (Qac Pg) 72 ps v m1 o_
 have s3:=@Qqk (Qac Pg) 72 (ps/2^v.toNat)
 rw[m3]at s1
 rw[m4]at s3
 unfold famG
 generalize famF (toN jj) (cs.map toN) v.toNat ps=f at*
 generalize ps/2^v.toNat=b at*
 refine Ac.of_vc vE_ok Af Qaa (n:=1000) (r:=[1]) (S:=fpS f 0) (hs:=[fn 10 (i6 0),no 16,no 22,va 29 (u6 (0:Nat)),no 30,va 35 (u6 b),va 36 (u6 (0:Nat)),no 37,fn 43 (ar f)]) ?_
 exact u_ (p:=let z0:=V.agg [V.im jj.length (Ab jj),V.im cs.length (List.map sl cs)];let z1:=(0:Int);let z2:=(0:Nat);Bn [V.tup [V.agg (arF f),i6 0]=V.tup [ar f,i6 0],Bn [TT 2],Ac Pg g0 70 [z0] (i6 0),Tt,decide (v<z1)=false,decide (v>=(jj.length:Int))=false,Ai (Qac Pg) .shr 72 (u6 ps) (i6 jj.length)=some (u6 z2),((z2:Int) != z1)=false,Ai (Qac Pg) .shr 72 (u6 ps) (i6 v)=some (u6 b),Ai (Qac Pg) .and 72 (u6 b) (u6 1)=some (u6 z2),((z2:Int)==1)=false,An [TT 2,TT 2],Ac Pg g0 71 [z0,i6 v,u6 ps] (ar f),Tt,Bn [Zz,z1=z1],An [Sm (arF f),TT 18]])
abbrev v8(n:Int):V:=.int .u8 n
theorem shr_8{G:Ctx}{t:Nat}{x k:Nat}(hk:k<=8):Ai G .shr t (v8 (x:Int)) (i6 (k:Int))=some (v8 ((x/2^k:Nat):Int)):=by
 have h1:((k:Int)<0)=False:=by simp
 have h2:min k 8=k:=by omega
 simp only[Ai,intV,h1,if_false,Int.toNat_natCast,IntKind.bits,h2]
 rw[Int.fdiv_eq_ediv_of_nonneg _ (Int.natCast_nonneg _)]
 rfl
theorem and1_8{G:Ctx}{t:Nat}{x:Nat}:Ai G .and t (v8 (x:Int)) (v8 1)=some (v8 ((x%2:Nat):Int)):=by
 have h:(BitVec.ofInt 8 (x:Int)&&& BitVec.ofInt 8 1).toNat=x%2:=by
  rw[BitVec.toNat_and]
  have h1:(BitVec.ofInt 8 1).toNat=1:=by decide
  rw[h1,Nat.and_one_is_mod]
  have h2:(BitVec.ofInt 8 (x:Int)).toNat=x%2^8:=by
   rw[BitVec.toNat_ofInt];omega
  rw[h2];omega
 have hw:IntKind.u8.wrap ((x%2:Nat):Int)=((x%2:Nat):Int):=by
  rw[<-Dw];exact Qei (by simp[lo];omega) (by simp[hi];omega)
 have e:Ai G .and t (v8 (x:Int)) (v8 1)=some (.int .u8 (IntKind.u8.wrap ((BitVec.ofInt 8 (x:Int)&&& BitVec.ofInt 8 1).toNat:Int))):=rfl
 rw[e,h,hw]
def Bw(n ps:Nat):List Nat:=(List.range n).filter fun k=>decide (ps/2^k%2=1)
theorem Qfd(n ps:Nat):Bw (n+1) ps=Bw n ps++if ps/2^n%2=1 then[n]else[]:=by
 unfold Bw
 rw[List.range_succ,List.filter_append]
 by_cases h:ps/2^n%2=1<;>simp[h]
theorem Qj3(n ps:Nat):(Bw n ps).length<=n:=by
 unfold Bw
 exact Nat.le_trans (List.length_filter_le _ _) (by simp)
theorem Qo2{n ps k:Nat}(h:k∈Bw n ps):k<n:=List.mem_range.1 (List.mem_filter.1 h).1
abbrev vrS(n ps:Nat)(q:Nat×Nat×List Nat):SL:={sl:=[(0,i6 n),(1,v8 ps),(5,owV 0 q.2.1),(6,i6 q.1)],os:=owL 3 (nt q.2.2) q.2.1}
abbrev vrX(m:Nat)(l:List Nat):SL:={sl:=[(5,owV 0 m)],os:=owL 3 (nt l) m}
theorem Qlg(l:List Nat)(x:Nat):nt (l++[x])=nt l++[i6 (x:Nat)]:=by simp[nt]
theorem Qt6(n ps:Nat)(hn:n<=8)(l:List Nat)(hl:l=Bw n ps)(m:Nat)(hm:m=l.length):
  Sat Pg none 0 (at' 40 [1,1,0,1,0]) (Ah g0 22 (vrS n ps (0,0,[]))) (Qaf g0 22 [(True,.exit 0,vrX m l)]):=by
 refine Qax vE_ok Af Qaa (b:=at' 40 [1,1,0,1,0,0]) k_ (fun q=>q.1<=n/\q.2.2=Bw q.1 ps/\q.2.2.length=q.2.1) (vrS n ps) (fun q=>n-q.1) (fun q hq=>?_) (0,0,[]) ⟨Nat.zero_le _,rfl,rfl⟩
 obtain⟨k,u,a⟩:=q
 obtain⟨hk,ha,hu⟩:=hq
 dsimp only at hk ha hu
 have hle:a.length<=k:=by rw[ha];exact Qj3 _ _
 by_cases hlt:k<n
 ·have hnx := Qfd k ps
  have s1:=@shr_8 (Qac Pg) 5 ps k o_
  have s2:=@and1_8 (Qac Pg) 5 (ps/2^k)
  rw[<-ha]at hnx
  generalize ps/2^k=b at*
  by_cases hb:b%2=1
  ·rw [if_pos hb] at hnx
   rw[hb]at s2
   have hnt:=Qlg a k
   cases u with
   |zero=>
    have:a=[]:=List.eq_nil_of_length_eq_zero hu
    subst this
    refine .inl ⟨(k+1,1,[k]),[1],[yes 9,va 14 (v8 b),va 15 (v8 (1:Nat)),yes 16,nu 11 (k+1:Nat)],1000,⟨hlt,hnx.symm,rfl⟩,by dsimp only;omega,?_⟩
    clear ha hnx
    exact u_ (p:=Bn [decide ((k:Int)<(n:Int))=true,Ai (Qac Pg) .shr 5 (v8 ps) (i6 k)=some (v8 b),Ai (Qac Pg) .and 5 (v8 b) (w8 1)=some (v8 ↑(1:Nat)),(((1:Nat):Int)==1)=true,wr .i64 ((k:Int)+1)=(↑(k+1):Int),Bn [Sm (n:Int),Sm (ps:Int),Bn [Zz,1=1],Sm (↑(k+1):Int)],Bn [nt [k]=[i6 k],Tt]])
   |succ u=>
    have hntl:=Qb0 a
    refine .inl ⟨(k+1,u+1+1,a++[k]),[2],[yes 9,va 14 (v8 b),va 15 (v8 (1:Nat)),yes 16,ap 20,nu 11 (k+1:Nat)],1000,⟨hlt,hnx.symm,by simp[hu]⟩,by dsimp only;omega,?_⟩
    clear ha hnx
    refine m_ (p:=Bn [decide ((k:Int)<(n:Int))=true,Ai (Qac Pg) .shr 5 (v8 ps) (i6 k)=some (v8 b),Ai (Qac Pg) .and 5 (v8 b) (w8 1)=some (v8 ↑(1:Nat)),(((1:Nat):Int)==1)=true,List.length (nt a)=(u+1)*1,u+1+1<=9223372036854775807,(u+1+1)*8<=140737488355328,wr .i64 ((k:Int)+1)=(↑(k+1):Int),Bn [Sm (n:Int),Sm (ps:Int),Bn [Zz,Nat.succ u+1=u+1+1],Sm (↑(k+1):Int)],An [nt (a++[k])=nt a++[i6 k],HfL (nt (a++[k]))]]) ?_
    (repeat'(first|(with_reducible apply And.intro)|(refine fun(_:True)=>?_)))<;>first|exact aq|skip
    all_goals first|rfl|exact Qaz _|(rw[Qb0];omega)
  ·rw [if_neg hb, List.append_nil] at hnx
   have hb0:b%2=0:=by omega
   rw[hb0]at s2
   cases u with
   |zero=>
    have:a=[]:=List.eq_nil_of_length_eq_zero hu
    subst this
    refine .inl ⟨(k+1,0,[]),[],[yes 9,va 14 (v8 b),va 15 (v8 (0:Nat)),no 16,nu 11 (k+1:Nat)],1000,⟨hlt,hnx.symm,rfl⟩,by dsimp only;omega,?_⟩
    clear ha hnx
    exact u_ (p:=Bn [decide ((k:Int)<(n:Int))=true,Ai (Qac Pg) .shr 5 (v8 ps) (i6 k)=some (v8 b),Ai (Qac Pg) .and 5 (v8 b) (w8 1)=some (v8 ↑(0:Nat)),(((0:Nat):Int)==1)=false,wr .i64 ((k:Int)+1)=(↑(k+1):Int),Bn [Sm (n:Int),Sm (ps:Int),Tt,Sm (↑(k+1):Int)]])
   |succ u=>
    refine .inl ⟨(k+1,u+1,a),[0],[yes 9,va 14 (v8 b),va 15 (v8 (0:Nat)),no 16,nu 11 (k+1:Nat)],1000,⟨hlt,hnx.symm,hu⟩,by dsimp only;omega,?_⟩
    clear ha hnx
    exact u_ (p:=Bn [decide ((k:Int)<(n:Int))=true,Ai (Qac Pg) .shr 5 (v8 ps) (i6 k)=some (v8 b),Ai (Qac Pg) .and 5 (v8 b) (w8 1)=some (v8 ↑(0:Nat)),(((0:Nat):Int)==1)=false,wr .i64 ((k:Int)+1)=(↑(k+1):Int),Bn [Sm (n:Int),Sm (ps:Int),Bn [Zz,Sm (u+1)],Sm (↑(k+1):Int)],An [Sm (nt a),HfL (nt a)]])
 ·have : k = n := by omega
  subst this
  obtain rfl:a=l:=ha.trans hl.symm
  obtain rfl:u=m:=hu.symm.trans hm.symm
  clear ha hl hm
  cases u with
  |zero=>
   have:a=[]:=List.eq_nil_of_length_eq_zero hu
   subst this
   refine .inr ⟨.exit 0,[],vrX 0 [],[no 9],1000,.inl ⟨trivial,rfl,rfl⟩,?_⟩
   exact u_ (p:=Bn [decide ((k:Int)<(k:Int))=false,Bn [Tt]])
  |succ u=>
   refine .inr ⟨.exit 0,[0],vrX (u+1) a,[no 9],1000,.inl ⟨trivial,rfl,rfl⟩,?_⟩
   exact u_ (p:=Bn [decide ((k:Int)<(k:Int))=false,Bn [Bn [Zz,Sm (u+1)]],An [Sm (nt a),HfL (nt a)]])
theorem vars_fn(n ps:Nat)(hn:n<=8):Ac Pg g0 40 [i6 n,v8 ps] (nl (Bw n ps)):=by
 have hl:=Qt6 n ps hn _ rfl _ rfl
 generalize Bw n ps=l at*
 cases hm:l.length with
 |zero=>
  have:l=[]:=List.eq_nil_of_length_eq_zero hm
  subst this
  clear hm
  refine Ac.of_vc vE_ok Af Qaa (n:=1000) (r:=[]) (S:={sl:=[(4,.im 0 [])]}) (hs:=[(0,.loop [] (vrS n ps (0,0,[])) [(True,.exit 0,vrX 0 [])])]) ?_
  exact u_ (p:=Bn [V.im 0 []=nl [],Bn [Bn [Sm (n:Int),Sm (ps:Int),Tt,((0:Nat):Int)=(0:Int)]],Sat Pg none 0 (at' 40 [1,1,0,1,0]) (Ah g0 22 (vrS n ps (0,0,[]))) (Qaf g0 22 [(True,Ex.exit 0,vrX 0 [])]),(True->Bn [Bn [Zz]])])
 |succ m=>
  rw[hm]at hl
  rw[show nl l= .im (m+1) (nt l)by show V.im l.length (nt l)=_;rw[hm]]
  clear hm
  refine Ac.of_vc vE_ok Af Qaa (n:=1000) (r:=[]) (S:={sl:=[(4,.im (m+1) (nt l))]}) (hs:=[(0,.loop [] (vrS n ps (0,0,[])) [(True,.exit 0,vrX (m+1) l)])]) ?_
  exact u_ (p:=Bn [Sm (V.im (m+1) (nt l)),Bn [Bn [Sm (n:Int),Sm (ps:Int),Tt,((0:Nat):Int)=(0:Int)]],Sat Pg none 0 (at' 40 [1,1,0,1,0]) (Ah g0 22 (vrS n ps (0,0,[]))) (Qaf g0 22 [(True,Ex.exit 0,vrX (m+1) l)]),(True->Bn [Bn [An [Sm (m+1),Sm (nt l),HfL (nt l)]]])])
def Fn(jj jk:List Nat)(l:List Nat):Nat:=l.foldl (fun a k=>a*jj.getD k 0+jk.getD k 0) 0
theorem Qgo(jj jk l:List Nat)(k:Nat):Fn jj jk (l++[k])=Fn jj jk l*jj.getD k 0+jk.getD k 0:=by simp[Fn,List.foldl_append]
theorem Qgp(jj jk:List Nat)(ps:Nat): ∀n,Fn jj jk (Bw n ps)=Ct jj ps jk n
 |0=>rfl
 |n+1=>by
  rw[Qfd]
  unfold Ct
  split
  ·rw[Qgo,Qgp jj jk ps n]
  ·rw[List.append_nil,Qgp jj jk ps n]
theorem Qr4{jj jk:List Nat}(hc:Bt jj)(hv:Cb jj jk)(l:List Nat)(hl: ∀k∈l,k<jj.length): ∀i,i<=l.length->Fn jj jk (l.take i)<4^i
 |0,_=>by simp[Fn]
 | i + 1, h => by
  have h1:=Qr4 hc hv l hl i o_
  have hk:=hl _ (List.getElem_mem (show i<l.length by omega))
  rw[List.take_add_one,List.getElem?_eq_getElem o_,Option.toList_some,Qgo]
  have h2:=hc.each _ hk
  have h3:=hv.lt _ hk
  rw[Nat.pow_succ]
  calc _<Fn jj jk (l.take i)*jj.getD l[i] 0+jj.getD l[i] 0:=by omega
   _=(Fn jj jk (l.take i)+1)*jj.getD l[i] 0:=by rw[Nat.add_mul,Nat.one_mul]
   _<=4^i*4:=Nat.mul_le_mul h1 h2.2
abbrev ixS(jj jk l:List Nat)(q:Nat×Nat):SL:={sl:=[(0,nl jj),(1,nl l),(2,nl jk),(7,i6 q.2),(8,i6 q.1)]}
theorem Qpo(jj jk l:List Nat)(hc:Bt jj)(hv:Cb jj jk)(hl: ∀k∈l,k<jj.length)(hl6:l.length<=6)(w:Nat)(hw:w=Fn jj jk l):
  Sat Pg none 0 (at' 42 [1,1,0,1,0]) (Ah g0 41 (ixS jj jk l (0,0))) (Qaf g0 41 [(True,.exit 0,{sl:=[(7,i6 w)]})]):=by
 refine Qax vE_ok Af Qaa (b:=at' 42 [1,1,0,1,0,0]) k_ (fun q=>q.1<=l.length/\q.2=Fn jj jk (l.take q.1)) (ixS jj jk l) (fun q=>l.length-q.1) (fun q hq=>?_) (0,0) ⟨Nat.zero_le _,rfl⟩
 obtain⟨k,u⟩:=q
 obtain⟨hk,hu⟩:=hq
 dsimp only at hk hu
 have hlt4:=Qr4 hc hv l hl k hk
 have hp4:=pow4 (show k<=6 by omega)
 rw[<-hu]at hlt4
 by_cases hlt:k<l.length
 ·have hx : l.getD k 0 ∈ l := by rw [List.getD_eq_getElem?_getD, List.getElem?_eq_getElem hlt]; exact List.getElem_mem hlt
  have hxl:=hl _ hx
  have hld:=@Qa5 l k hlt
  have hnx:Fn jj jk (l.take (k+1))=u*jj.getD (l.getD k 0) 0+jk.getD (l.getD k 0) 0:=by
   rw[List.take_add_one,List.getElem?_eq_getElem hlt,Option.toList_some,Qgo,<-hu,List.getD_eq_getElem?_getD (l:=l),List.getElem?_eq_getElem hlt,Option.getD_some]
  generalize l.getD k 0=x at*
  have hcd:=hc.each x hxl
  have hvl:=hv.lt x hxl
  have jy:=hv.len
  have hld1:=@Qa5 jj x hxl
  have hld2:=@Qa5 jk x o_
  generalize jj.getD x 0=c at*
  generalize jk.getD x 0=y at*
  have hmul:u*c<=4096*4:=Nat.mul_le_mul o_ hcd.2
  have hcast:((u:Int)*(c:Int))=((u*c:Nat):Int):=by simp
  generalize u*c=uc at*
  refine .inl ⟨(k+1,uc+y),[],[yes 12,pl 18,ld 19 (i6 x),pl 20,ld 21 (i6 y),no 22,pl 27,ld 28 (i6 x),pl 29,ld 30 (i6 c),nu 31 (uc:Nat),pl 35,ld 36 (i6 x),pl 37,ld 38 (i6 y),nu 39 (uc+y:Nat),nu 14 (k+1:Nat)],1000,⟨hlt,hnx.symm⟩,by dsimp only;omega,?_⟩
  exact u_ (p:=let z0:=(k:Int);let z1:=Ad (List.drop (k*1) (nt l));let z2:=(l.length:Int);let z3:=(x:Int);let z4:=(0:Int);let z5:=(↑(uc+y):Int);let z6:=Ad (List.drop (x*1) (nt jk));let z7:=(↑(k+1):Int);let z8:=some (i6 x);let z9:=(jk.length:Int);Bn [decide (z0<z2)=true,An [z4<=z0,z0<z2],z1=z8,An [z4<=z3,z3<z9],z6=some (i6 y),decide ((y:Int)<z4)=false,An [z4<=z0,z0<z2],z1=z8,An [z4<=z3,z3<(jj.length:Int)],Ad (List.drop (x*1) (nt jj))=some (i6 c),wr .i64 ((u:Int)*(c:Int))=(uc:Int),An [z4<=z0,z0<z2],z1=z8,An [z4<=z3,z3<z9],z6=some (i6 y),wr .i64 ((uc:Int)+(y:Int))=z5,wr .i64 (z0+1)=z7,Bn [An [Sm jj.length,Sm (nt jj)],An [Sm l.length,Sm (nt l)],An [Sm jk.length,Sm (nt jk)],z5=z5,z7=z7]])
 ·have : k = l.length := by omega
  subst this
  rw[List.take_length]at hu
  obtain rfl:u=w:=hu.trans hw.symm
  refine .inr ⟨.exit 0,[],{sl:=[(7,i6 u)]},[no 12],1000,.inl ⟨trivial,rfl,rfl⟩,?_⟩
  exact u_ (p:=Bn [decide ((l.length:Int)<(l.length:Int))=false,Bn [Sm (u:Int)]])
theorem Qn6(jj jk:List Nat)(ps:Nat)(hc:Bt jj)(hv:Cb jj jk):Ac Pg g0 42 [nl jj,nl (Bw jj.length ps),nl jk] (i6 (Ct jj ps jk jj.length:Nat)):=by
 have hl:=Qpo jj jk (Bw jj.length ps) hc hv (fun k hk=>Qo2 hk) (by have:=Qj3 jj.length ps;have:=hc.six;omega) _ (Qgp jj jk ps jj.length).symm
 generalize Ct jj ps jk jj.length=w at*
 generalize Bw jj.length ps=l at*
 refine Ac.of_vc vE_ok Af Qaa (n:=1000) (r:=[]) (S:={sl:=[(6,i6 w)]}) (hs:=[(0,.loop [] (ixS jj jk l (0,0)) [(True,.exit 0,{sl:=[(7,i6 w)]})])]) ?_
 exact u_ (p:=Bn [Sm (i6 w),Bn [Bn [An [Sm jj.length,Sm (nt jj)],An [Sm l.length,Sm (nt l)],An [Sm jk.length,Sm (nt jk)],((0:Nat):Int)=(0:Int),((0:Nat):Int)=(0:Int)]],Sat Pg none 0 (at' 42 [1,1,0,1,0]) (Ah g0 41 (ixS jj jk l (0,0))) (Qaf g0 41 [(True,Ex.exit 0,SL.mk [(7,i6 w)] [] [] [])]),(True->Bn [Bn [Sm (w:Int)]])])
abbrev tmS(a b:Nat->Int)(s:Int)(k:Nat):SL:={sl:=[(2,i6 s),(3,.ptr 0 0),(6,.ptr 1 0),(7,.ptr 2 0),(9,i6 k)],os:=[.row 37 none (arF (Bc a b s k)),.row 37 none (arF Qah),.row 37 none (arF b)]}
abbrev tmX(a b:Nat->Int)(s:Int):SL:={sl:=[(3,.ptr 0 0),(6,.ptr 1 0)],os:=[.row 37 none (arF (Bc a b s 18)),.row 37 none (arF Qah)]}
theorem Qp7(a b:Nat->Int)(s:Int)(ha: ∀k,k<18-> -1000000<=a k/\a k<=1000000)(hb: ∀k,k<18-> -1000000<=s*b k/\s*b k<=1000000)(k:Nat)(hk:k<=18):
  Sat Pg none 0 (at' 58 [1,1,0,1,0]) (Ah g0 31 (tmS a b s k)) (Qaf g0 31 [(True,.exit 0,tmX a b s)]):=by
 refine Qax vE_ok Af Qaa (b:=at' 58 [1,1,0,1,0,0]) k_ (fun k=>k<=18) (tmS a b s) (fun k=>18-k) (fun k hk=>?_) k hk
 by_cases hlt:k<18
 ·have p0 := @Qbs 0 k hlt
  have p1:=@Qbs 2 k hlt
  have h0:Ad (Aj k (arF (Bc a b s k)))=some (i6 (a k)):=by rw[Qbq hlt,Qbi,if_neg o_]
  have h1:=@Qbq b k hlt
  have hst:Ax k (arF (Bc a b s k)) [i6 (a k+s*b k)]=some (arF (Bc a b s (k+1))):=Qk5 hlt
  have ha:=ha k hlt
  have hb:=hb k hlt
  refine .inl ⟨k+1,[0,1,2],[yes 16,va 21 (.ptr 0 k),ld 22 (i6 (a k)),va 25 (.ptr 2 k),ld 26 (i6 (b k)),nu 27 (s*b k),nu 28 (a k+s*b k),va 29 (.ptr 0 k),st (arF (Bc a b s (k+1))),nu 18 (k+1:Nat)],1000,hlt,by omega,?_⟩
  exact u_ (p:=let z0:=arF (Bc a b s (k+1));let z2:=(↑(k+1):Int);let z3:=(k:Int);let z4:=arF (Bc a b s k);let z1:=Az (Qac Pg) 37 (V.ptr 0 0) z3;Bn [decide (z3<18)=true,z1=some (V.ptr 0 k),Ad (Aj k z4)=some (i6 (a k)),Az (Qac Pg) 37 (V.ptr 2 0) z3=some (V.ptr 2 k),Ad (Aj k (arF b))=some (i6 (b k)),wr .i64 (s*b k)=s*b k,wr .i64 (a k+s*b k)=a k+s*b k,z1=some (V.ptr 0 k),Ax k z4 [i6 (a k+s*b k)]=some z0,wr .i64 (z3+1)=z2,Bn [s=s,Zz,Zz,Zz,z2=z2],An [z0=z0,TT 18],An [Sm (arF Qah),TT 18],An [Sm (arF b),TT 18]])
 ·have : k = 18 := by omega
  subst this
  refine .inr ⟨.exit 0,[0,1],tmX a b s,[],1000,.inl ⟨trivial,rfl,rfl⟩,?_⟩
  exact u_ (p:=Bn [Bn [Zz,Zz],An [Sm (arF (Bc a b s 18)),TT 18],An [Sm (arF Qah),TT 18]])
theorem Gp(a:Nat->Int)(n:Nat)(s:Int)(ha: ∀k,k<18-> -1000000<=a k/\a k<=1000000)(h1:1<=n)(h2:n<=1000000)(hb: ∀k,k<18-> -1000000<=s*ofF n 18 k/\s*ofF n 18 k<=1000000):Ac Pg g0 58 [ar a,i6 n,i6 s] (ar (Aq a (ofF n 18) s)):=by
 have l:=Qp7 a (ofF n 18) s ha hb 0 (Nat.zero_le _)
 have ho:=refof_fn n h1 o_ _ rfl
 have e:arF (Bc a (ofF n 18) s 18)=arF (Aq a (ofF n 18) s):=Qbf fun k hk=>by rw[Qbi,if_pos hk];rfl
 rw[show ar (Aq a (ofF n 18) s)=ar (Bc a (ofF n 18) s 18)from congrArg V.agg e.symm]
 generalize decide (ofN n 18=1)=b at*
 generalize ofF n 18=f at*
 refine Ac.of_vc vE_ok Af Qaa (n:=1000) (r:=[1]) (S:={sl:=[(6,.ptr 0 0)],os:=[.row 37 none (arF (Bc a f s 18))]}) (hs:=[fn 12 (.tup [ar f,.bool b]),(0,.loop [0,1,2] (tmS a f s 0) [(True,.exit 0,tmX a f s)])]) ?_
 exact u_ (p:=let z0:=Bc a f s 18;Bn [V.agg (arF z0)=ar z0,Bn [Tt],Ac Pg g0 69 [i6 n] (V.tup [ar f,V.bool b]),Tt,Bn [Bn [s=s,Zz,Zz,Zz,((0:Nat):Int)=(0:Int)],An [arF (Bc a f s 0)=arF a,TT 18],An [arF Qah=[i6 0,i6 0,i6 0,i6 0,i6 0,i6 0,i6 0,i6 0,i6 0,i6 0,i6 0,i6 0,i6 0,i6 0,i6 0,i6 0,i6 0,i6 0],TT 18],An [Sm (arF f),TT 18]],Sat Pg none 0 (at' 58 [1,1,0,1,0]) (Ah g0 31 (tmS a f s 0)) (Qaf g0 31 [(True,Ex.exit 0,tmX a f s)]),(True->Bn [Bn [Zz],An [Sm (arF z0),TT 18]])])
theorem Qrj:((List.range 43).all fun k=>(List.range 18).all fun i=>decide (Ba (k+1) i=Ba k i+ofF (k+1) 18 i)&&decide (0<=ofF (k+1) 18 i/\ofF (k+1) 18 i<=63))=true:=by kernel_rfl
theorem fac_step{k i:Nat}(hk:k<43)(hi:i<18):Ba (k+1) i=Ba k i+ofF (k+1) 18 i/\0<=ofF (k+1) 18 i/\ofF (k+1) 18 i<=63:=by
 have:=Qam.1 (Qam.1 Qrj k hk) i hi
 rw[Bool.and_eq_true,decide_eq_true_eq,decide_eq_true_eq]at this
 exact⟨this.1,this.2.1,this.2.2⟩
theorem Qri(i:Nat)(h:i<18):Ba 1 i=0:=by
 rcases lt18 h with rfl|rfl|rfl|rfl|rfl|rfl|rfl|rfl|rfl|rfl|rfl|rfl|rfl|rfl|rfl|rfl|rfl|rfl<;>rfl
abbrev ftS(n:Nat)(s:Int)(q:Nat×(Nat->Int)):SL:={sl:=[(1,i6 n),(2,i6 s),(3,.ptr 0 0),(6,.ptr 1 0),(7,i6 q.1)],os:=[.row 37 none (arF q.2),.row 37 none (arF Qah)]}
abbrev ftX(f:Nat->Int):SL:={sl:=[(3,.ptr 0 0),(6,.ptr 1 0)],os:=[.row 37 none (arF f),.row 37 none (arF Qah)]}
theorem Qrk(a:Nat->Int)(n:Nat)(s:Int)(hs:s=1\/s= -1)(ha: ∀k,k<18-> -900000<=a k/\a k<=900000)(hn:n<44):
  Sat Pg none 0 (at' 43 [1,0,1,0]) (Ah g0 18 (ftS n s (2,a))) (Qaf g0 18 [(True,.exit 0,ftX (Aq a (Ba n) s))]):=by
 have key:Sat Pg none 0 (at' 43 [1,0,1,0]) (Ah g0 18 (ftS n s (2,a))) (fun e st=>∃S',st=Ah g0 18 S'/\e= .exit 0/\∃f,S'=ftX f/\∀i,i<18->f i=Aq a (Ba n) s i):=by
  refine Qse (b:=at' 43 [1,0,1,0,0]) k_ (fun q:Nat×(Nat->Int)=>2<=q.1/\(q.1<=n+1\/q.1=2)/\∀i,i<18->q.2 i=Aq a (Ba (q.1-1)) s i) (ftS n s) (fun q=>n+1-q.1) (fun e S'=>e= .exit 0/\∃f,S'=ftX f/\∀i,i<18->f i=Aq a (Ba n) s i) (fun q G hq hN hX _=>?_) (2,a) ⟨Nat.le_refl _,.inr rfl,fun i hi=>by show a i=a i+s*Ba 1 i;rw[Qri i hi];omega⟩
  obtain⟨k,f⟩:=q
  obtain⟨h2,hk,hf⟩:=hq
  dsimp only at h2 hk hf hN
  by_cases hlt:k<=n
  ·have hst := fun i (hi : i < 18) => @fac_step (k - 1) i o_ hi
   rw[show k-1+1=k by omega]at hst
   have hbd:=fun i(hi:i<18)=>fac_ok.bd (k-1) i o_ hi
   have ht:=Gp f k s (fun i hi=>by have:=hbd i hi;have:=ha i hi;rw[hf i hi];unfold Aq;rcases hs with rfl|rfl<;>omega) o_ o_ (fun i hi=>by have:=hst i hi;rcases hs with rfl|rfl<;>omega)
   have hnx:=hN (k+1,Aq f (ofF k 18) s) ⟨by dsimp only;omega,.inl (by dsimp only;omega),fun i hi=>by
    dsimp only
    rw[show k+1-1=k by omega]
    have:=hst i hi
    have h3:=hf i hi
    unfold Aq at h3⊢
    rw[h3,this.1,Int.mul_add];omega⟩ (by dsimp only;omega)
   generalize ofF k 18=o at*
   refine⟨[yes 10,fn 16 (ar (Aq f o s)),nu 12 (k+1:Nat),(0,.to [0,1] (ftS n s (k+1,Aq f o s)))],1000,?_⟩
   generalize Aq f o s=f' at*
   exact u_ (p:=Bn [decide ((k:Int)<=(n:Int))=true,An [TT 18,TT 2],Ac Pg g0 58 [V.agg (arF f),i6 k,i6 s] (ar f'),Tt,wr .i64 ((k:Int)+1)=(↑(k+1):Int),G Ex.normal (ftS n s (k+1,f')),Bn [Sm (n:Int),s=s,Zz,Zz,Sm (↑(k+1):Int)],An [Sm (arF f'),TT 18],An [Sm (arF Qah),TT 18]])
  ·have jd : ∀ i, i < 18 -> f i = Aq a (Ba n) s i := by
    intro i hi
    rw[hf i hi]
    rcases hk with hk|rfl
    ·rw[show k-1=n by omega]
    ·have : n = 0 \/ n = 1 := by omega
     unfold Aq
     rcases this with rfl|rfl
     ·rw[Qri i hi,Qi8 i hi]
     ·rfl
   have hnx:=hX 0 _ ⟨rfl,f,rfl,jd⟩
   refine⟨[no 10,(0,.to [0,1] (ftX f))],1000,?_⟩
   exact u_ (p:=Bn [decide ((k:Int)<=(n:Int))=false,G (Ex.exit 0) (ftX f),Bn [Zz,Zz],An [Sm (arF f),TT 18],An [Sm (arF Qah),TT 18]])
 refine key.mono ?_
 rintro e st ⟨S',rfl,rfl,f,rfl,hf⟩
 refine .inl ⟨trivial,rfl,?_⟩
 have:arF f=arF (Aq a (Ba n) s):=Qbf hf
 show Ah g0 18 {sl:=[(3,.ptr 0 0),(6,.ptr 1 0)],os:=[.row 37 none (arF f),.row 37 none (arF Qah)]}=_
 rw[this]
theorem Qdi(a:Nat->Int)(n:Nat)(s:Int)(hs:s=1\/s= -1)(ha: ∀k,k<18-> -900000<=a k/\a k<=900000)(hn:n<44):Ac Pg g0 43 [ar a,i6 n,i6 s] (ar (Aq a (Ba n) s)):=by
 have l:=Qrk a n s hs ha hn
 generalize Aq a (Ba n) s=f at*
 refine Ac.of_vc vE_ok Af Qaa (n:=1000) (r:=[1]) (S:={sl:=[(6,.ptr 0 0)],os:=[.row 37 none (arF f)]}) (hs:=[(0,.loop [0,1] (ftS n s (2,a)) [(True,.exit 0,ftX f)])]) ?_
 exact u_ (p:=Bn [V.agg (arF f)=ar f,Bn [Bn [Sm (n:Int),s=s,Zz,Zz,((2:Nat):Int)=(2:Int)],An [Sm (arF a),TT 18],An [arF Qah=[i6 0,i6 0,i6 0,i6 0,i6 0,i6 0,i6 0,i6 0,i6 0,i6 0,i6 0,i6 0,i6 0,i6 0,i6 0,i6 0,i6 0,i6 0],TT 18]],Sat Pg none 0 (at' 43 [1,0,1,0]) (Ah g0 18 (ftS n s (2,a))) (Qaf g0 18 [(True,Ex.exit 0,ftX f)]),(True->Bn [Bn [Zz],An [Sm (arF f),TT 18]])])
def Qhq(jj:List Nat)(l:List Nat):Nat:=l.foldl (fun a k=>a*jj.getD k 0) 1
theorem Qfb(jj l:List Nat)(k:Nat):Qhq jj (l++[k])=Qhq jj l*jj.getD k 0:=by simp[Qhq,List.foldl_append]
theorem Qfc(jj:List Nat)(ps:Nat): ∀n,Qhq jj (Bw n ps)=Qbn jj ps n
 |0=>rfl
 |n+1=>by
  rw[Qfd]
  unfold Qbn
  split
  ·rw[Qfb,Qfc jj ps n]
  ·rw[List.append_nil,Qfc jj ps n]
theorem Qow{jj:List Nat}(hc:Bt jj)(l:List Nat)(hl: ∀k∈l,k<jj.length): ∀i,i<=l.length->1<=Qhq jj (l.take i)/\Qhq jj (l.take i)<=4^i
 |0,_=>by simp[Qhq]
 |i+1,h=>by
  have h1:=Qow hc l hl i o_
  have hk:=hl _ (List.getElem_mem (show i<l.length by omega))
  rw[List.take_add_one,List.getElem?_eq_getElem o_,Option.toList_some,Qfb]
  have h2:=hc.each _ hk
  rw[Nat.pow_succ]
  exact⟨Nat.mul_pos h1.1 o_,Nat.mul_le_mul h1.2 h2.2⟩
def Fv(jj l:List Nat):List Nat:=l.map fun k=>jj.getD k 0
theorem Qqx(jj l:List Nat)(k:Nat):Fv jj (l++[k])=Fv jj l++[jj.getD k 0]:=by simp[Fv]
theorem Qf9(jj l:List Nat):(Fv jj l).length=l.length:=by simp[Fv]
def owC(l m:List Nat):Nat->List O
 |0=>[]
 | _+1=>[.row 3 (some 1) (nt l),.row 3 (some 1) (nt m)]
abbrev n3:O:=.row 94 none [.nils,.nils,.nils]
abbrev ctS(jj:List Nat)(cs:List (List Nat))(l:List Nat)(q:Nat×Nat×List Nat×List Nat):SL:={sl:=[(1,nl l),(2,.ptr 0 0),(4,.ptr 1 0),(5,i6 q.2.1),(6,.ptr 2 0),(7,i6 q.1)],os:=dO jj cs::n3:: .row 94 none [owV 3 q.1,owV 4 q.1,.nils]::owC q.2.2.1 q.2.2.2 q.1,md:=[0,0,1,0,0]}
abbrev ctX(jj:List Nat)(cs:List (List Nat))(l:List Nat)(k:Nat)(s:Nat)(m:List Nat):SL:={sl:=[(1,nl l),(2,.ptr 0 0),(4,.ptr 1 0),(5,i6 s),(6,.ptr 2 0)],os:=dO jj cs::n3:: .row 94 none [owV 3 k,owV 4 k,.nils]::owC l m k,md:=[0,0,1,0,0]}
theorem Qpf(jj:List Nat)(cs:List (List Nat))(l:List Nat)(hc:Bt jj)(hl: ∀k∈l,k<jj.length)(hl6:l.length<=6)(s:Nat)(hs:s=Qhq jj l)(m:List Nat)(hm:m=Fv jj l)(n:Nat)(hn:n=l.length):
  Sat Pg none 0 (at' 41 [1,1,1,0,1,0]) (Ah g0 80 (ctS jj cs l (0,1,[],[]))) (Qaf g0 80 [(True,.exit 0,ctX jj cs l n s m)]):=by
 refine Qax vE_ok Af Qaa (b:=at' 41 [1,1,1,0,1,0,0]) k_ (fun q=>q.1<=l.length/\q.2.1=Qhq jj (l.take q.1)/\q.2.2.1=l.take q.1/\q.2.2.2=Fv jj (l.take q.1)) (ctS jj cs l) (fun q=>l.length-q.1) (fun q hq=>?_) (0,1,[],[]) ⟨Nat.zero_le _,rfl,rfl,rfl⟩
 obtain⟨k,u,a,b⟩:=q
 obtain⟨hk,hu,ha,hb⟩:=hq
 dsimp only at hk hu ha hb
 have hsz:=Qow hc l hl k hk
 have hp4:=pow4 (show k<=6 by omega)
 rw[<-hu]at hsz
 by_cases hlt:k<l.length
 ·have hx : l.getD k 0 ∈ l := by rw [List.getD_eq_getElem?_getD, List.getElem?_eq_getElem hlt]; exact List.getElem_mem hlt
  have hxl:=hl _ hx
  have hld:=@Qa5 l k hlt
  have htk:l.take (k+1)=l.take k++[l.getD k 0]:=by
   rw[List.take_add_one,List.getElem?_eq_getElem hlt,Option.toList_some,List.getD_eq_getElem?_getD,List.getElem?_eq_getElem hlt];rfl
  have hal:a.length=k:=by rw[ha,List.length_take];omega
  have hbl:b.length=k:=by rw[hb,Qf9,List.length_take];omega
  have n1:u*jj.getD (l.getD k 0) 0=Qhq jj (l.take (k+1)):=by rw[htk,Qfb,<-hu]
  have n2:a++[l.getD k 0]=l.take (k+1):=by rw[htk,<-ha]
  have n3':b++[jj.getD (l.getD k 0) 0]=Fv jj (l.take (k+1)):=by rw[htk,Qqx,<-hb]
  generalize l.getD k 0=x at*
  have hcd:=hc.each x hxl
  have hld1:=@Qa5 jj x hxl
  generalize jj.getD x 0=c at*
  have hmul:u*c<=4096*4:=Nat.mul_le_mul o_ hcd.2
  have hcast:((u:Int)*(c:Int))=((u*c:Nat):Int):=by simp
  have hta:=Qlg a x
  have htb:=Qlg b c
  have htal:=Qb0 a
  have htbl:=Qb0 b
  generalize u*c=uc at*
  cases k with
  |zero=>
   have:a=[]:=List.eq_nil_of_length_eq_zero hal
   subst this
   have:b=[]:=List.eq_nil_of_length_eq_zero hbl
   subst this
   refine .inl ⟨(1,uc,[x],[c]),[0,1,2,4,6],[yes 13,pl 20,ld 21 (i6 x),pl 31,ld 32 (i6 x),pl 33,ld 34 (i6 c),pl 43,ld 44 (i6 x),pl 45,ld 46 (i6 c),nu 47 (uc:Nat),nu 15 1],1000,⟨by dsimp only;omega,n1,n2,n3'⟩,by dsimp only;omega,?_⟩
   clear ha hb hu htk n1 n2 n3' hs hm hn
   exact u_ (p:=let z0:=((0:Nat):Int);let z1:=Ad (List.drop (0*1) (nt l));let z2:=(l.length:Int);let z3:=Ad (List.drop (x*1) (nt jj));let z4:=(x:Int);let z5:=(0:Int);let z6:=some (i6 x);let z7:=(uc:Int);let z8:=[V.nils,V.nils,V.nils];let z9:=(jj.length:Int);Bn [decide (z0<z2)=true,An [z5<=z0,z0<z2],z1=z6,An [z5<=z0,z0<z2],z1=z6,An [z5<=z4,z4<z9],z3=some (i6 c),An [z5<=z0,z0<z2],z1=z6,An [z5<=z4,z4<z9],z3=some (i6 c),wr .i64 ((u:Int)*(c:Int))=z7,wr .i64 (z0+1)=(1:Int),Bn [An [Sm l.length,Sm (nt l)],Zz,Zz,z7=z7,Zz,((1:Nat):Int)=(1:Int)],An [Sm [nl jj,cV cs],TT 2],An [z8=z8,TT 3],Bn [Bn [Zz,1=1],Bn [Zz,1=1],Tt],Bn [nt [x]=[i6 x],Tt],Bn [nt [c]=[i6 c],Tt]])
  |succ k=>
   refine .inl ⟨(k+1+1,uc,a++[x],b++[c]),[0,1,2,6,8],[yes 13,pl 20,ld 21 (i6 x),ap 23,pl 31,ld 32 (i6 x),pl 33,ld 34 (i6 c),ap 36,pl 43,ld 44 (i6 x),pl 45,ld 46 (i6 c),nu 47 (uc:Nat),nu 15 (k+1+1:Nat)],1000,⟨by dsimp only;omega,n1,n2,n3'⟩,by dsimp only;omega,?_⟩
   clear ha hb hu htk n1 n2 n3' hs hm hn
   exact u_ (p:=let z0:=(↑(k+1):Int);let z1:=Ad (List.drop ((k+1)*1) (nt l));let z2:=(l.length:Int);let z3:=(↑(k+1+1):Int);let z4:=Ad (List.drop (x*1) (nt jj));let z5:=(x:Int);let z6:=(0:Int);let z7:=some (i6 x);let z8:=(uc:Int);let z9:=[V.nils,V.nils,V.nils];let y0:=(jj.length:Int);Bn [decide (z0<z2)=true,An [z6<=z0,z0<z2],z1=z7,List.length (nt a)=(k+1)*1,k+1+1<=9223372036854775807,(k+1+1)*8<=140737488355328,An [z6<=z0,z0<z2],z1=z7,An [z6<=z5,z5<y0],z4=some (i6 c),List.length (nt b)=(k+1)*1,k+1+1<=9223372036854775807,(k+1+1)*8<=140737488355328,An [z6<=z0,z0<z2],z1=z7,An [z6<=z5,z5<y0],z4=some (i6 c),wr .i64 ((u:Int)*(c:Int))=z8,wr .i64 (z0+1)=z3,Bn [An [Sm l.length,Sm (nt l)],Zz,Zz,z8=z8,Zz,z3=z3],An [Sm [nl jj,cV cs],TT 2],An [z9=z9,TT 3],Bn [Bn [Zz,Nat.succ k+1=k+1+1],Bn [Zz,Nat.succ k+1=k+1+1],Tt],An [nt (a++[x])=nt a++[i6 x],HfL (nt (a++[x]))],An [nt (b++[c])=nt b++[i6 c],HfL (nt (b++[c]))]])
 ·have : k = l.length := by omega
  rw[this,List.take_length]at hu ha hb
  obtain rfl:u=s:=hu.trans hs.symm
  obtain rfl:b=m:=hb.trans hm.symm
  subst ha
  obtain rfl:k=n:=this.trans hn.symm
  clear hu hb hs hm
  cases k with
  |zero=>
   refine .inr ⟨.exit 0,[0,1,2],ctX jj cs a 0 u b,[no 13],1000,.inl ⟨trivial,rfl,rfl⟩,?_⟩
   clear this
   exact u_ (p:=Bn [decide (((0:Nat):Int)<(a.length:Int))=false,Bn [An [Sm a.length,Sm (nt a)],Zz,Zz,Sm (u:Int),Zz],An [Sm [nl jj,cV cs],TT 2],An [Sm [V.nils,V.nils,V.nils],TT 3],TT 3])
  |succ k=>
   refine .inr ⟨.exit 0,[0,1,2,3,4],ctX jj cs a (k+1) u b,[no 13],1000,.inl ⟨trivial,rfl,rfl⟩,?_⟩
   clear this
   exact u_ (p:=let z0:=Bn [Zz,Sm (k+1)];Bn [decide ((↑(k+1):Int)<(a.length:Int))=false,Bn [An [Sm a.length,Sm (nt a)],Zz,Zz,Sm (u:Int),Zz],An [Sm [nl jj,cV cs],TT 2],An [Sm [V.nils,V.nils,V.nils],TT 3],Bn [z0,z0,Tt],An [Sm (nt a),HfL (nt a)],An [Sm (nt b),HfL (nt b)]])
def Qf5(L:List Nat)(w:Nat):List Nat:=L.set w (L.getD w 0+1)
def Fu(jj:List Nat)(ps size:Nat)(cs:List (List Nat)):List Nat:=(cs.map fun c=>Ct jj ps c jj.length).foldl Qf5 (List.replicate size 0)
theorem Qq1(jj:List Nat)(ps size:Nat)(cs:List (List Nat))(c:List Nat):Fu jj ps size (cs++[c])=Qf5 (Fu jj ps size cs) (Ct jj ps c jj.length):=by simp[Fu,List.foldl_append]
theorem Qqu(L:List Nat)(w:Nat):(Qf5 L w).length=L.length:=by simp[Qf5]
theorem bumpW_bd{L:List Nat}{w n:Nat}(h: ∀j,L.getD j 0<=n): ∀j,(Qf5 L w).getD j 0<=n+1:=fun j=>by
 unfold Qf5
 rw[List.getD_eq_getElem?_getD,List.getElem?_set]
 have h1:=h j
 have h2:=h w
 rw[List.getD_eq_getElem?_getD]at h1
 by_cases hw:w=j
 ·rw [if_pos hw]
  by_cases hl:w<L.length
  ·rw[if_pos hl];simp only[Option.getD_some];omega
  ·rw[if_neg hl];simp
 ·rw[if_neg hw];omega
theorem Qq0(jj:List Nat)(ps size:Nat): ∀(cs:List (List Nat)),(Fu jj ps size cs).length=size/\∀j,(Fu jj ps size cs).getD j 0<=cs.length:=by
 have key: ∀(l:List Nat)(L:List Nat)(n:Nat),L.length=size->(∀j,L.getD j 0<=n)->(l.foldl Qf5 L).length=size/\∀j,(l.foldl Qf5 L).getD j 0<=n+l.length:=by
  intro l
  induction l with
  |nil=>intro L n h1 h2;exact⟨h1,h2⟩
  |cons x l ih=>
   intro L n h1 h2
   have:=ih (Qf5 L x) (n+1) (by rw[Qqu];exact h1) (bumpW_bd h2)
   refine⟨this.1,fun j=>?_⟩
   have:=this.2 j
   simp only[List.foldl_cons,List.length_cons]
   omega
 intro cs
 have:=key (cs.map fun c=>Ct jj ps c jj.length) (List.replicate size 0) 0 (by simp) (fun j=>by
  rw[List.getD_eq_getElem?_getD,List.getElem?_replicate];split<;>simp)
 unfold Fu
 refine⟨this.1,fun j=>?_⟩
 have:=this.2 j
 rw[List.length_map]at this
 omega
abbrev cuS(jj:List Nat)(cs:List (List Nat))(l m:List Nat)(size:Nat)(q:Nat×List Nat):SL:={sl:=[(1,nl l),(2,.ptr 0 0),(4,.ptr 1 0),(6,.ptr 2 0),(8,i6 q.1)],os:=[dO jj cs,n3,.row 94 none [nl l,nl m,.sl 3 0 size (some (size-size))],.row 3 none (nt q.2)],md:=[0,0,1,0]}
abbrev cuX(l m:List Nat)(size:Nat)(L:List Nat):SL:={sl:=[(4,.ptr 0 0),(6,.ptr 1 0)],os:=[n3,.row 94 none [nl l,nl m,.sl 2 0 size (some (size-size))],.row 3 none (nt L)],md:=[0,1,0]}
theorem Qmb(jj:List Nat)(cs:List (List Nat))(ps:Nat)(l m:List Nat)(size:Nat)(hc:Bt jj)(hcs: ∀c∈cs,Cb jj c)(h40:cs.length<=40)(hl:l=Bw jj.length ps)(hsize:size=Qbn jj ps jj.length)(L:List Nat)(hL:L=Fu jj ps size cs):
  Sat Pg none 0 (at' 41 [1,1,1,1,1,0,1,0]) (Ah g0 80 (cuS jj cs l m size (0,List.replicate size 0))) (Qaf g0 80 [(True,.exit 2,cuX l m size L)]):=by
 refine Qax vE_ok Af Qaa (b:=at' 41 [1,1,1,1,1,0,1,0,0]) k_ (fun q=>q.1<=cs.length/\q.2=Fu jj ps size (cs.take q.1)) (cuS jj cs l m size) (fun q=>cs.length-q.1) (fun q hq=>?_) (0,List.replicate size 0) ⟨Nat.zero_le _,rfl⟩
 obtain⟨k,W⟩:=q
 obtain⟨hk,hW⟩:=hq
 dsimp only at hk hW
 by_cases hlt:k<cs.length
 ·have hck : cs[k]? = some cs[k] := List.getElem?_eq_getElem hlt
  have hco:=hcs _ (List.getElem_mem hlt)
  generalize cs[k]=c at*
  have hld:Ad ((cs.map nl).drop (k*1))=some (nl c):=Qbg hck
  have hix:=Qn6 jj c ps hc hco
  rw[<-hl]at hix
  have hw:=Qhd hc hco ps jj.length (Nat.le_refl _)
  rw[<-hsize]at hw
  have hnx:Qf5 W (Ct jj ps c jj.length)=Fu jj ps size (cs.take (k+1)):=by
   rw[List.take_add_one,hck,Option.toList_some,Qq1,hW]
  have hWl:W.length=size:=by rw[hW];exact(Qq0 _ _ _ _).1
  have hWb: ∀j,W.getD j 0<=40:=fun j=>by
   have:=(Qq0 jj ps size (cs.take k)).2 j
   rw[<-hW,List.length_take]at this;omega
  generalize Ct jj ps c jj.length=w at*
  have hwb:=hWb w
  have hldW:=@Qa5 W w o_
  have hlay:=@Qob W w (W.getD w 0+1) o_
  unfold Qf5 at hnx
  refine .inl ⟨(k+1,W.set w (W.getD w 0+1)),[0,1,2,3],[yes 55,pl 64,ld 65 (nl c),fn 66 (i6 w),yes 68,pl 75,ld 76 (i6 (W.getD w 0:Nat)),nu 77 (W.getD w 0+1:Nat),pl 78,st (nt (W.set w (W.getD w 0+1))),nu 57 (k+1:Nat)],1000,⟨hlt,hnx⟩,by dsimp only;omega,?_⟩
  clear hW hL hl hsize hnx hWb
  generalize W.getD w 0=y at*
  refine m_ (p:=let z6:=An [Sm l.length,Sm (nt l)];let z0:=nt (List.set W w (y+1));let z1:=(w:Int);let z2:=(↑(k+1):Int);let z3:=(k:Int);let z4:=[V.nils,V.nils,V.nils];let z5:=(0:Int);Bn [decide (z3<(cs.length:Int))=true,An [z5<=z3,z3<(cs.length:Int)],Ad (List.drop (k*1) (List.map nl cs))=some (nl c),TT 3,Ac Pg g0 42 [V.im jj.length (nt jj),V.im l.length (nt l),V.im c.length (nt c)] (i6 w),Tt,decide (z1>=z5)=true,An [z5<=z1,z1<(size:Int)],Ad (Aj (0+w*1) (nt W))=some (i6 y),wr .i64 ((y:Int)+1)=(↑(y+1):Int),An [z5<=z1,z1<(size:Int)],Ax (0+w*1) (nt W) [i6 ↑(y+1)]=some z0,wr .i64 (z3+1)=z2,Bn [z6,Zz,Zz,Zz,z2=z2],An [Sm [nl jj,cV cs],TT 2],An [z4=z4,TT 3],Bn [z6,An [Sm m.length,Sm (nt m)],An [Zz,Sm size,Sm (size-size)]],An [z0=z0,HfL z0]]) ?_
  (repeat'(first|(with_reducible apply And.intro)|(refine fun(_:True)=>?_)))<;>first|exact aq|skip
  all_goals first|rfl|exact HfL_nls _|exact Qaz _|omega|(rw[Qau,Nat.zero_add];exact hldW)
 ·have : k = cs.length := by omega
  subst this
  rw[List.take_length]at hW
  obtain rfl:W=L:=hW.trans hL.symm
  refine .inr ⟨.exit 2,[1,2,3],cuX l m size W,[no 55],1000,.inl ⟨trivial,rfl,rfl⟩,?_⟩
  clear hW hL
  exact u_ (p:=Bn [decide ((cs.length:Int)<(cs.length:Int))=false,Bn [Zz,Zz],An [Sm [V.nils,V.nils,V.nils],TT 3],Bn [An [Sm l.length,Sm (nt l)],An [Sm m.length,Sm (nt m)],An [Zz,Sm size,Sm (size-size)]],An [Sm (nt W),HfL (nt W)]])
theorem count_fn(jj:List Nat)(cs:List (List Nat))(ps:Nat)(hc:Bt jj)(hcs: ∀c∈cs,Cb jj c)(h40:cs.length<=40): ∃m L,Ac Pg g0 41 [dN jj cs,nl (Bw jj.length ps)] (.agg [nl (Bw jj.length ps),nl m,.im (Qbn jj ps jj.length) (nt L)]):=by
 have hv6:=Qj3 jj.length ps
 have h6:=hc.six
 have l1:=Qpf jj cs (Bw jj.length ps) hc (fun k hk=>Qo2 hk) o_ _ (Qfc jj ps jj.length).symm _ rfl _ rfl
 have l2:=Qmb jj cs ps _ (Fv jj (Bw jj.length ps)) _ hc hcs h40 rfl rfl _ rfl
 have hsz:=Qet hc ps jj.length (Nat.le_refl _)
 have hp4:=pow4 h6
 have hrep:=Qop (Qbn jj ps jj.length) 0
 have hcl:=Qf9 jj (Bw jj.length ps)
 refine⟨Fv jj (Bw jj.length ps),Fu jj ps (Qbn jj ps jj.length) cs,?_⟩
 generalize Fu jj ps (Qbn jj ps jj.length) cs=L at*
 generalize Qbn jj ps jj.length=size at*
 generalize Fv jj (Bw jj.length ps)=m at*
 generalize Bw jj.length ps=l at*
 have hs4:size<=4096:=by omega
 cases hn:l.length with
 |zero=>
  have:l=[]:=List.eq_nil_of_length_eq_zero hn
  subst this
  have:m=[]:=List.eq_nil_of_length_eq_zero (by simpa using hcl)
  subst this
  clear hcl hn
  refine Ac.of_vc vE_ok Af Qaa (n:=1000) (r:=[0]) (S:={sl:=[(4,.ptr 0 0)],os:=[.row 94 none [nl [],nl [],.im size (nt L)]],md:=[1]}) (hs:=[(0,.loop [0,1,2] (ctS jj cs [] (0,1,[],[])) [(True,.exit 0,ctX jj cs [] 0 size [])]),mk 49,(0,.loop [0,1,2,3] (cuS jj cs [] [] size (0,List.replicate size 0)) [(True,.exit 2,cuX [] [] size L)])]) ?_
  refine m_ (p:=let z0:=[V.nils,V.nils,V.nils];let z1:=(size:Int);let z2:=[nl jj,cV cs];let z3:=List.replicate size 0;Bn [Sm (V.agg [nl [],nl [],V.im size (nt L)]),Bn [Bn [An [Zz,Sm (nt [])],Zz,Zz,((1:Nat):Int)=(1:Int),Zz,((0:Nat):Int)=(0:Int)],An [z2=z2,TT 2],An [z0=z0,TT 3],TT 3],Sat Pg none 0 (at' 41 [1,1,1,0,1,0]) (Ah g0 80 (ctS jj cs [] (0,1,[],[]))) (Qaf g0 80 [(True,Ex.exit 0,ctX jj cs [] 0 size [])]),(True->Bn [An [(0:Int)<=z1,z1<=z1,((8:Nat):Int)*z1<=281474976710656,z1<=9223372036854775807],Bn [Bn [An [Zz,Sm (nt [])],Zz,Zz,Zz,((0:Nat):Int)=(0:Int)],An [z2=z2,TT 2],An [z0=z0,TT 3],Bn [Zz,Zz,An [Zz,Sm size,Sm (size-size)]],An [nt z3=rep size [i6 0],HfL (nt z3)]],Sat Pg none 0 (at' 41 [1,1,1,1,1,0,1,0]) (Ah g0 80 (cuS jj cs [] [] size (0,z3))) (Qaf g0 80 [(True,Ex.exit 2,cuX [] [] size L)]),(True->Bn [Bn [Zz],Bn [An [Zz,Sm (nt [])],An [Zz,Sm (nt [])],An [Sm size,Sm (nt L),HfL (nt L)]]])])]) ?_
  (repeat'(first|(with_reducible apply And.intro)|(refine fun(_:True)=>?_)))<;>first|exact aq|skip
  all_goals first|rfl|exact HfL_nls _|exact Qaz _|omega|exact hrep.symm
 | succ n =>
  rw[hn]at l1 hcl
  have e: ∀L,V.agg [nl l,nl m,.im size (nt L)]= .agg [.im (n+1) (nt l),.im (n+1) (nt m),.im size (nt L)]:=fun L=>by
   show V.agg [.im l.length (nt l),.im m.length (nt m),_]=_
   rw[hn,hcl]
  refine Ac.of_vc vE_ok Af Qaa (n:=1000) (r:=[0]) (S:={sl:=[(4,.ptr 0 0)],os:=[.row 94 none [nl l,nl m,.im size (nt L)]],md:=[1]}) (hs:=[(0,.loop [0,1,2] (ctS jj cs l (0,1,[],[])) [(True,.exit 0,ctX jj cs l (n+1) size m)]),mk 49,(0,.loop [0,1,2,5] (cuS jj cs l m size (0,List.replicate size 0)) [(True,.exit 2,cuX l m size L)])]) ?_
  clear e
  refine m_ (p:=let z5:=An [Sm l.length,Sm (nt l)];let z0:=[V.nils,V.nils,V.nils];let z1:=(size:Int);let z2:=[nl jj,cV cs];let z3:=List.replicate size 0;let z4:=V.agg [nl l,nl m,V.im size (nt L)];Bn [z4=z4,Bn [Bn [z5,Zz,Zz,((1:Nat):Int)=(1:Int),Zz,((0:Nat):Int)=(0:Int)],An [z2=z2,TT 2],An [z0=z0,TT 3],TT 3],Sat Pg none 0 (at' 41 [1,1,1,0,1,0]) (Ah g0 80 (ctS jj cs l (0,1,[],[]))) (Qaf g0 80 [(True,Ex.exit 0,ctX jj cs l (n+1) size m)]),(True->Bn [An [(0:Int)<=z1,z1<=z1,((8:Nat):Int)*z1<=281474976710656,z1<=9223372036854775807],Bn [Bn [z5,Zz,Zz,Zz,((0:Nat):Int)=(0:Int)],An [z2=z2,TT 2],An [z0=z0,TT 3],Bn [An [l.length=n+1,Sm (nt l),HfL (nt l)],An [m.length=n+1,Sm (nt m),HfL (nt m)],An [Zz,Sm size,Sm (size-size)]],An [nt z3=rep size [i6 0],HfL (nt z3)]],Sat Pg none 0 (at' 41 [1,1,1,1,1,0,1,0]) (Ah g0 80 (cuS jj cs l m size (0,z3))) (Qaf g0 80 [(True,Ex.exit 2,cuX l m size L)]),(True->Bn [Bn [Zz],Bn [z5,An [Sm m.length,Sm (nt m)],An [Sm size,Sm (nt L),HfL (nt L)]]])])]) ?_
  (repeat'(first|(with_reducible apply And.intro)|(refine fun(_:True)=>?_)))<;>first|exact aq|skip
  all_goals first|rfl|exact HfL_nls _|exact Qaz _|omega|exact hrep.symm
end Go.Proofs.YtakfneapahohkaaDoor.Am
