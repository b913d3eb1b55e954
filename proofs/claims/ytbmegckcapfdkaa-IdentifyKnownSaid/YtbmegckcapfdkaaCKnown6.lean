/- Texts behind the claim, part 6: the abstract machine, and what the functions answer. No condition. -/
import Derived.Test.YtbmegckcapfdkaaCKnown5
set_option linter.unusedVariables false
set_option linter.unusedSimpArgs false
set_option linter.unusedSectionVars false
namespace Go.Proofs.Ytbmegckcapfdkaa.Am
open Go.RowKit
set_option maxHeartbeats 1000000
set_option maxRecDepth 100000
noncomputable def id_(q:List Nat):Code:=at' 18 q
noncomputable def id3:Array Oper:=rgOps (id_ [1,1,0])
abbrev idR:List ResultVar:=[.cell 8 43,.cell 9 63,.cell 10 33]
theorem Qnu: ∃fi,vE.code 18=some fi∧fi.body= .seq (id_ [0]) (.seq (id_ [1,0]) (.seq (.region (rgId (id_ [1,1,0])) id3 false) (id_ [1,1,1])))∧fi.ntmps=39∧fi.res=idR:=by
 have e1:(vE.code 18).map (·.body)=some (.seq (id_ [0]) (.seq (id_ [1,0]) (.seq (.region (rgId (id_ [1,1,0])) id3 false) (id_ [1,1,1])))):=by kernel_rfl
 have e2:(vE.code 18).map (·.ntmps)=some 39:=by kernel_rfl
 have e3:(vE.code 18).map (·.res)=some idR:=by kernel_rfl
 cases hfi:vE.code 18 with
 |none=>rw[hfi]at e1;cases e1
 |some fi=>
  rw[hfi]at e1 e2 e3
  exact⟨fi,rfl,Option.some.inj e1,Option.some.inj e2,Option.some.inj e3⟩
abbrev idS(p j:List Nat)(xs ys:Nat):List (Nat×V):=[(0,ul p),(1,ul j),(2,u6 (xs:Nat)),(3,u6 (ys:Nat)),(8,.ptr 0 0),(9,.ptr 1 0),(10,.ptr 2 0)]
abbrev idC:List (Nat×V):=[(8,.ptr 0 0),(9,.ptr 1 0),(10,.ptr 2 0)]
noncomputable abbrev idH:T O:=pt (pt (pt .e 0 esZ) 1 (hgO (0,0,0))) 2 (erO 0)
def idQ(k v n:Nat)(X:List V)(h:Nat×Nat×Nat)(e:Nat)(H:T O):Prop:=gt H 0=some (esO k v n X)∧gt H 1=some (hgO h)∧gt H 2=some (erO e)
theorem id_ret{H:T O}{tm:TM}{c0 c1 c2:List V}{t0 t1 t2:Nat}{s0 s1 s2:Option Nat}{v0 v1 v2:V}(hs:slotsQ tm idC)(h0:gt H 0=some (.row t0 s0 c0))(h1:gt H 1=some (.row t1 s1 c1))(h2:gt H 2=some (.row t2 s2 c2))
  (e0:(match vE.G.ty 43 with|some ti=>loadC ti c0|none=>none)=some v0)(e1:(match vE.G.ty 63 with|some ti=>loadC ti c1|none=>none)=some v1)(e2:(match vE.G.ty 33 with|some ti=>loadC ti c2|none=>none)=some v2):
  retV vE.G tm H idR=some (.tup [v0,v1,v2]):=by
 rw[Qak]at h0 h1 h2
 obtain⟨q0,q1,q2,_⟩:=hs
 have key: ∀(i h t:Nat)(tt:Nat)(ss:Option Nat)(c:List V)(v:V),(match gt tm.sl i with|some y=>y=V.ptr h 0|none=>False)→H.get h=some (.row tt ss c)→(match vE.G.ty t with|some ti=>loadC ti c|none=>none)=some v→resV vE.G tm H (.cell i t)=some v:=by
  intro i h t tt ss c v hg hH hv
  split at hg
  ·rename_i y hy
   subst hg
   rw[Qak]at hy
   cases ht:vE.G.ty t with
   |none=>rw[ht]at hv;cases hv
   |some ti=>rw[ht]at hv;simp only[resV,hy,ht,hH];exact hv
  ·exact hg.elim
 unfold retV resVs resVs resVs resVs
 rw[key _ _ _ _ _ _ _ q0 h0 e0,key _ _ _ _ _ _ _ q1 h1 e1,key _ _ _ _ _ _ _ q2 h2 e2]
theorem id_retQ{H:T O}{tm:TM}{k v n e:Nat}{X:List V}{h:Nat×Nat×Nat}(hs:slotsQ tm idC)(hq:idQ k v n X h e H):retV vE.G tm H idR=some (.tup [.agg [i6 (k:Nat),u6 (v:Nat),.im n X],hgV h,i6 (e:Nat)]):=
 id_ret hs hq.1 hq.2.1 hq.2.2 (by kernel_rfl) (by kernel_rfl) (by kernel_rfl)
theorem Qnv{H:T O}{tm:TM}{e:Nat}{h:Nat×Nat×Nat}(hs:slotsQ tm idC)(h0:gt H 0=some esZ)(h1:gt H 1=some (hgO h))(h2:gt H 2=some (erO e)):retV vE.G tm H idR=some (.tup [.agg [i6 0,u6 0,.nils],hgV h,i6 (e:Nat)]):=
 id_ret hs h0 h1 h2 (by kernel_rfl) (by kernel_rfl) (by kernel_rfl)
noncomputable def kIdE(e:Nat):KF:=fun ex _ st=>match ex with
 | .ret=>slotsQ st.tm idC∧gt st.H 0=some esZ∧gt st.H 1=some (hgO (0,0,0))∧gt st.H 2=some (erO e)
 | _=>False
noncomputable def kIdN(k v n:Nat)(X:List V):KF:=fun ex _ st=>match ex with
 | .ret=>slotsQ st.tm idC∧idQ k v n X (0,0,0) 0 st.H
 | _=>False
noncomputable def kIdP(h:Nat×Nat×Nat):KF:=fun ex _ st=>match ex with
 | .pan v=>v=hgP h∧slotsQ st.tm idC∧gt st.H 0=some esZ∧gt st.H 1=some (hgO (0,0,0))∧gt st.H 2=some (erO 0)∧st.nx=5
 | _=>False
theorem Sat.kAsg{rd:Option Nat}{nx0 m n nx nx':Nat}{c:Code}{hs:Hs}{sl sl':List (Nat×V)}{H H':T O}{lg lg':List Nat}(h:vc Pg vE sp0 rd nx0 m c hs (mkSo g0 n sl H nx lg) (Qb5 n sl' H' nx' lg')):Sat Pg rd nx0 c (mkSo g0 n sl H nx lg) (fun e st=>e= .normal∧st=mkSo g0 n sl' H' nx' lg'):=by
 refine Sat.fewer_post (Sat.of_vc vE_ok mixed Qab rfl h fun e hs' st' hgl hk=>?_)
 unfold Qb5 at hk
 split at hk
 ·obtain ⟨hb1, q1, q2, q3, q4⟩ := Qaa hk
  have hn':=Nat.eq_of_beq_eq_true hb1
  exact⟨sl',q1,rfl,by rw[q2,q3,q4,hn',hgl];rfl⟩
 ·exact hk.elim
section
variable (p j:List Nat) (xs ys:Nat)
theorem id_vc0(hp:HfL (ut p))(hj:HfL (ut j)):vc Pg vE sp0 none 0 1000 (id_ [0]) [] (mkSo g0 39 [(0,ul p),(1,ul j),(2,u6 (xs:Nat)),(3,u6 (ys:Nat))] .e 0 []) (Qb5 39 (idS p j xs ys) idH 3 []):=by
 refine Eq.mp (by kernel_rfl:(An [An [Sm (ul p),Sm (ul j),Sm (u6 ↑xs),Sm (u6 ↑ys),Sm (V.ptr 0 0),Sm (V.ptr 1 0),Sm (V.ptr 2 0),Tt],pt (pt (pt T.e 0 (O.row 43 none [i6 0,u6 0,V.nils])) 1 (O.row 63 none [u6 0,u6 0,u6 0])) 2 (O.row 33 none [i6 0])=idH,3=3,([]:List Nat)=[]])=_) ?_
 (repeat'(first|(with_reducible apply And.intro)|(refine fun(_:True)=>?_)))
 all_goals first|rfl|exact trivial|skip
theorem id_vc1(hp:HfL (ut p))(hj:HfL (ut j))(ha:FnOk Pg g0 34 [ul p,ul j,u6 (xs:Nat),u6 (ys:Nat)] (i6 (0:Nat))):vc Pg vE sp0 none 0 1000 (id_ [1,0]) [fn 18 (i6 (0:Nat))] (mkSo g0 39 (idS p j xs ys) idH 3 []) (Qb5 39 (idS p j xs ys) idH 3 []):=by
 refine Eq.mp (by kernel_rfl:(An [TT 4,FnOk Pg g0 34 [V.im p.length (ut p),V.im j.length (ut j),u6 ↑xs,u6 ↑ys] (i6 ↑(0:Nat)),Tt,An [Sm (ul p),Sm (ul j),Sm (u6 ↑xs),Sm (u6 ↑ys),Sm (V.ptr 0 0),Sm (V.ptr 1 0),Sm (V.ptr 2 0),Tt],idH=idH,3=3,([]:List Nat)++[]=[]])=_) ?_
 (repeat'(first|(with_reducible apply And.intro)|(refine fun(_:True)=>?_)))
 all_goals first|rfl|exact trivial|exact ha|skip
theorem id_vc1e(hp:HfL (ut p))(hj:HfL (ut j))(e:Nat)(he:e≠0)(ha:FnOk Pg g0 34 [ul p,ul j,u6 (xs:Nat),u6 (ys:Nat)] (i6 (e:Nat))):vc Pg vE sp0 none 0 1000 (id_ [1,0]) [fn 18 (i6 (e:Nat)),yes 20] (mkSo g0 39 (idS p j xs ys) idH 3 []) (kIdE e):=by
 refine Eq.mp (by kernel_rfl:(let z0:=pt (pt (pt idH 0 (O.row 43 none [i6 0,u6 0,V.nils])) 1 (O.row 63 none [u6 0,u6 0,u6 0])) 2 (O.row 33 none [i6 ↑e]);An [TT 4,FnOk Pg g0 34 [V.im p.length (ut p),V.im j.length (ut j),u6 ↑xs,u6 ↑ys] (i6 ↑e),Tt,((↑e:Int) != (0:Int))=true,An [Sm (V.ptr 0 0),Sm (V.ptr 1 0),Sm (V.ptr 2 0),Tt],gt z0 0=some esZ,gt z0 1=some (hgO (0,0,0)),gt z0 2=some (erO e)])=_) ?_
 (repeat'(first|(with_reducible apply And.intro)|(refine fun(_:True)=>?_)))
 all_goals first|rfl|exact trivial|exact ha|(simp;omega)|skip
noncomputable abbrev id5(p j:List Nat)(xs ys m:Nat)(A:List V):T O:=pt (pt (pt idH 3 (.row 72 none [.nils,.nils])) 3 (.row 72 none [ul p,ul j])) 4 (.row 101 none [ul p,ul j,u6 (xs:Nat),u6 (ys:Nat),.im m A])
theorem id_call(hp:HfL (ut p))(hj:HfL (ut j))(m:Nat)(A:List V)(hA:HfL A){r:V}(hr:Hf r)(hsv:FnOk Pg g0 39 [.imp [ul p,ul j,u6 (xs:Nat),u6 (ys:Nat),.im m A]] r):
  CallSpec Pg g0 (.fn 39 []) [.ptr 4 0] (id5 p j xs ys m A) 5 ⟨r,pt (id5 p j xs ys m A) 4 .dead,5,[4]⟩:=by
 have hg:gt (id5 p j xs ys m A) 4=some (.row 101 none [ul p,ul j,u6 (xs:Nat),u6 (ys:Nat),.im m A]):=by kernel_rfl
 refine Qkg [4] hsv ⟨_,_,rfl,.inr ⟨4,0,_,_,_,rfl,List.mem_singleton.2 rfl,by rw[←Qak];exact hg,?_⟩,rfl⟩ hr (fun g hg'=>?_) (fun i hi=>?_) (fun i hi=>?_)
 ·exact ViewP.of_hf _ ⟨trivial,trivial,trivial,trivial,trivial,trivial⟩
 ·obtain rfl := List.mem_singleton.1 hg'
  exact⟨_,_,_,by rw[←Qak];exact hg⟩
 ·rw[←Qak,←Qak,gt_pt,if_neg (fun e=>hi (List.mem_singleton.2 e))]
 ·obtain rfl := List.mem_singleton.1 hi
  rw[←Qak,gt_pt,if_pos rfl]
theorem id_vc2(hp:HfL (ut p))(hj:HfL (ut j))(od:List Nat)(m:Nat)(A:List V)(hA:HfL A)(hs:FnOk Pg g0 37 [grV p j] (.im m A))(k v n:Nat)(X:List V)(hX:HfL X)
  (hsv:FnOk Pg g0 39 [.imp [ul p,ul j,u6 (xs:Nat),u6 (ys:Nat),.im m A]] (.agg [i6 (k:Nat),u6 (v:Nat),.im n X]))(hcl:FnOk Pg g0 38 [.agg [i6 (k:Nat),u6 (v:Nat),.im n X]] (.agg [i6 (k:Nat),u6 (v:Nat),.im n X])):
  vc Pg vE sp0 none 3 1000 (id_ [1,1,1]) [fn 32 (.im m A),(36,.call ⟨.agg [i6 (k:Nat),u6 (v:Nat),.im n X],pt (id5 p j xs ys m A) 4 .dead,5,[4]⟩),fn 37 (.agg [i6 (k:Nat),u6 (v:Nat),.im n X])] (mkSo g0 39 (idS p j xs ys) idH 3 []) (kIdN k v n X):=by
 have hc:=id_call p j xs ys hp hj m A hA (r:=.agg [i6 (k:Nat),u6 (v:Nat),.im n X]) ⟨trivial,trivial,trivial,trivial⟩ hsv
 refine Eq.mp (by kernel_rfl:(let z2:=pt (pt (pt idH 3 (O.row 72 none [V.nils,V.nils])) 3 (O.row 72 none [ul p,ul j])) 4 (O.row 101 none [ul p,ul j,u6 ↑xs,u6 ↑ys,V.im m A]);let z3:=pt (id5 p j xs ys m A) 4 O.dead;let z4:=[i6 ↑k,u6 ↑v,V.im n X];let z0:=pt (pt (pt z3 0 (O.row 43 none z4)) 1 (O.row 63 none [u6 0,u6 0,u6 0])) 2 (O.row 33 none [i6 0]);let z1:=V.agg z4;An [An [TT 2,Tt],FnOk Pg g0 37 [V.agg [V.im p.length (ut p),V.im j.length (ut j)]] (V.im m A),Tt,CallSpec Pg g0 (V.fn 39 []) [V.ptr 4 0] z2 5 (CR.mk z1 z3 5 [4]),Tt,An [TT 3,Tt],FnOk Pg g0 38 [z1] z1,An [(V.fn 39 []=V.fn 38 []→[V.ptr 4 0]=[z1]→z2=z3→3+1+1=5→CR.mk z1 z3 5 [4]=CR.mk z1 z3 5 []),Tt],An [Sm (V.ptr 0 0),Sm (V.ptr 1 0),Sm (V.ptr 2 0),Tt],gt z0 0=some (esO k v n X),gt z0 1=some (hgO (0,0,0)),gt z0 2=some (erO 0)])=_) ?_
 (repeat'(first|(with_reducible apply And.intro)|(refine fun(_:True)=>?_)))
 all_goals first|rfl|exact trivial|exact hs|exact hc|exact hcl|(intro hq;cases hq;done)|skip
theorem id_vc3(hp:HfL (ut p))(hj:HfL (ut j))(od:List Nat)(m:Nat)(A:List V)(hA:HfL A)(hs:FnOk Pg g0 37 [grV p j] (.im m A))(h1 h2 h3:Nat)
  (hsv:FnPan Pg g0 39 [.imp [ul p,ul j,u6 (xs:Nat),u6 (ys:Nat),.im m A]] (hgP (h1,h2,h3))):
  vc Pg vE sp0 none 3 1000 (id_ [1,1,1]) [fn 32 (.im m A),(7,.pn 1 (some (hgP (h1,h2,h3))))] (mkSo g0 39 (idS p j xs ys) idH 3 []) (kIdP (h1,h2,h3)):=by
 refine Eq.mp (by kernel_rfl:(let z1:=[ul p,ul j,u6 ↑xs,u6 ↑ys,V.im m A];let z2:=hgP (h1,h2,h3);let z0:=pt (pt (pt idH 3 (O.row 72 none [V.nils,V.nils])) 3 (O.row 72 none [ul p,ul j])) 4 (O.row 101 none z1);An [An [TT 2,Tt],FnOk Pg g0 37 [V.agg [V.im p.length (ut p),V.im j.length (ut j)]] (V.im m A),Tt,An [TT 5,Tt],FnPan Pg g0 39 [V.imp z1] z2,z2=z2,An [Sm (V.ptr 0 0),Sm (V.ptr 1 0),Sm (V.ptr 2 0),Tt],gt z0 0=some esZ,gt z0 1=some (hgO (0,0,0)),gt z0 2=some (erO 0),5=5])=_) ?_
 (repeat'(first|(with_reducible apply And.intro)|(refine fun(_:True)=>?_)))
 all_goals first|rfl|exact trivial|exact hs|exact hsv|skip
theorem Qki(hp:HfL (ut p))(hj:HfL (ut j)){v0:V}(hv:Hf v0){R1:Prop}
  (h2:vc Pg vE sp0 none 0 1000 (id_ [1,0]) [fn 18 (i6 (0:Nat))] (mkSo g0 39 (idS p j xs ys) idH 3 []) (Qb5 39 (idS p j xs ys) idH 3 []))
  (h3:Sat Pg none 3 (id_ [1,1,1]) (mkSo g0 39 (idS p j xs ys) idH 3 []) (fun e st=>Qmb Pg vE g0 36 dfC [] idR (fun v _ _ _=>v=v0) e st)):
  FnOk Pg g0 18 [ul p,ul j,u6 (xs:Nat),u6 (ys:Nat)] v0:=by
 obtain⟨fi,hfi,hb,hn,hr⟩:=Qnu
 obtain⟨fg,hg1,_⟩:=Qg2
 refine CallSpec.guard vE_ok hfi (by rw[hn];rfl) (Log.refl _ _ _) hb (R1:=fun st=>st=mkSo g0 39 (idS p j xs ys) idH 3 []) (R2:=fun st=>st=mkSo g0 39 (idS p j xs ys) idH 3 []) (Z:=fun v _ _ _=>v=v0) ?_ ?_ ?_ ?_
 ·rintro v H' nx' lg' rfl s w ee w' hH hn ⟨u, s', h1, g1, g2, g3, _, _⟩
  subst h1
  obtain⟨s'',q1,q2,q3,q4⟩:=Qaz hH g1 hv g3 (fun h _=>hn h (Nat.zero_le _)) (fun b hb=>g2.old b (.inl hb))
  exact⟨u,s'',rfl,q1,q2,q3,fun i=>by rw[q4];exact dom_same s _ i,Nat.le_refl _⟩
 ·rw [hn]
  refine Sat.fewer (sl:=[(0,ul p),(1,ul j),(2,u6 (xs:Nat)),(3,u6 (ys:Nat))]) ⟨rfl,rfl,rfl,rfl,trivial⟩ ?_
  exact Sat.kAsg (id_vc0 p j xs ys hp hj)
 ·rintro st rfl
  refine(Sat.kAsg h2).mono fun e st' h=>.inl ⟨h.1,by rw[h.2];rfl,h.2⟩
 ·rintro st rfl
  refine⟨⟨(mkSo g0 39 (idS p j xs ys) idH 3 []).tm.put (some 24) (.fn 36 dfC),idH,3,[]⟩,36,dfC,[],tbl [],1,id3.getD 1 default,⟨.value (.tmp 24), #[], #[]⟩,.tmp 24,fg,TblOk.nil.call,by kernel_rfl,by kernel_rfl,by kernel_rfl,by kernel_rfl,rfl,by kernel_rfl,by kernel_rfl,by kernel_rfl,by kernel_rfl,hg1,rfl,?_⟩
  refine Sat.fewer (sl:=idS p j xs ys) ⟨rfl,rfl,rfl,rfl,rfl,rfl,rfl,trivial⟩ ?_
  rw[hr]
  exact h3
end
set_option maxHeartbeats 1000000
set_option maxRecDepth 100000
section
variable (p j:List Nat) (xs ys:Nat)
theorem Qcf(e:Nat)(he:e≠0)(ha:FnOk Pg g0 34 [ul p,ul j,u6 (xs:Nat),u6 (ys:Nat)] (i6 (e:Nat))):FnOk Pg g0 18 [ul p,ul j,u6 (xs:Nat),u6 (ys:Nat)] (.tup [.agg [i6 0,u6 0,.nils],hgV (0,0,0),i6 (e:Nat)]):=by
 have hp:=Qad p
 have hj:=Qad j
 obtain⟨fi,hfi,hb,hn,hr⟩:=Qnu
 obtain⟨fg,hg1,_⟩:=Qg2
 refine CallSpec.guard vE_ok hfi (by rw[hn];rfl) (Log.refl _ _ _) hb (R1:=fun st=>st=mkSo g0 39 (idS p j xs ys) idH 3 []) (R2:=fun st=>False) (Z:=fun v _ _ _=>v= .tup [.agg [i6 0,u6 0,.nils],hgV (0,0,0),i6 (e:Nat)]) ?_ ?_ ?_ (fun st h=>h.elim)
 ·rintro v H' nx' lg' rfl s w ee w' hH hn ⟨u, s', h1, g1, g2, g3, _, _⟩
  subst h1
  obtain⟨s'',q1,q2,q3,q4⟩:=Qaz hH g1 ⟨⟨trivial,trivial,trivial,trivial⟩,⟨trivial,trivial,trivial,trivial⟩,trivial,trivial⟩ g3 (fun h _=>hn h (Nat.zero_le _)) (fun b hb=>g2.old b (.inl hb))
  exact⟨u,s'',rfl,q1,q2,q3,fun i=>by rw[q4];exact dom_same s _ i,Nat.le_refl _⟩
 ·rw [hn]
  refine Sat.fewer (sl:=[(0,ul p),(1,ul j),(2,u6 (xs:Nat)),(3,u6 (ys:Nat))]) ⟨rfl,rfl,rfl,rfl,trivial⟩ ?_
  exact Sat.kAsg (id_vc0 p j xs ys hp hj)
 ·rintro st rfl
  refine Sat.of_vc vE_ok mixed Qab rfl (id_vc1e p j xs ys hp hj e he ha) fun ex hs' st' hgl hk=>?_
  unfold kIdE at hk
  split at hk
  ·exact .inr ⟨rfl,_,by rw[hr];exact Qnv hk.1 hk.2.1 hk.2.2.1 hk.2.2.2,rfl⟩
  ·exact hk.elim
variable (hl:p.length<64) (h64:S64 p) (F:Nat) (hF:F≤10) (y:Nat×List Nat) (hy:soW p F (0,[])=some y) (ha:FnOk Pg g0 34 [ul p,ul j,u6 (xs:Nat),u6 (ys:Nat)] (i6 (0:Nat)))
include hl h64 hF hy ha
theorem Qi4{x:Es}(hx:EsG x)(hsv:FnOk Pg g0 39 [.imp (prC p j xs ys y.2)] (esV x)):FnOk Pg g0 18 [ul p,ul j,u6 (xs:Nat),u6 (ys:Nat)] (.tup [esV x,hgV (0,0,0),i6 (0:Nat)]):=by
 have hp:=Qad p
 have hj:=Qad j
 have hs:=Qiq p j hl h64 F hF y hy
 have hA:=Qa1 y.2
 have hcl:=clone_fn hx.1
 obtain⟨k,v,l⟩:=x
 have hX:=Qah l
 have e:esV (.mk k v l)= .agg [i6 (k:Nat),u6 (v:Nat),.im l.length (esL l)]:=rfl
 have e2:il y.2= .im y.2.length (it y.2):=rfl
 rw[e]at hcl hsv⊢
 rw[e2]at hs
 have e3:prC p j xs ys y.2=[ul p,ul j,u6 (xs:Nat),u6 (ys:Nat),.im y.2.length (it y.2)]:=rfl
 rw[e3]at hsv
 generalize esL l=X at*
 generalize it y.2=A at*
 refine Qki p j xs ys hp hj ⟨⟨trivial,trivial,trivial,trivial⟩,⟨trivial,trivial,trivial,trivial⟩,trivial,trivial⟩ (R1:=True) (id_vc1 p j xs ys hp hj ha) ?_
 refine Sat.of_vc vE_ok mixed Qab rfl (id_vc2 p j xs ys hp hj [] y.2.length A hA hs k v l.length X hX hsv hcl) fun ex hs' st' hgl hk=>?_
 unfold kIdN at hk
 split at hk
 ·exact⟨none,⟨.tup [],st'.H,st'.nx,[]⟩,.inl ⟨.inr rfl,rfl⟩,df_none _ _,_,id_retQ hk.1 hk.2,rfl⟩
 ·exact hk.elim
theorem Qfu(h:Nat×Nat×Nat)(hsv:FnPan Pg g0 39 [.imp (prC p j xs ys y.2)] (hgP h)):FnOk Pg g0 18 [ul p,ul j,u6 (xs:Nat),u6 (ys:Nat)] (.tup [.agg [i6 0,u6 0,.nils],hgV h,i6 (351:Nat)]):=by
 have hp:=Qad p
 have hj:=Qad j
 have hs:=Qiq p j hl h64 F hF y hy
 have hA:=Qa1 y.2
 have e2:il y.2= .im y.2.length (it y.2):=rfl
 rw[e2]at hs
 have e3:prC p j xs ys y.2=[ul p,ul j,u6 (xs:Nat),u6 (ys:Nat),.im y.2.length (it y.2)]:=rfl
 rw[e3]at hsv
 generalize it y.2=A at*
 obtain⟨a,b,c⟩:=h
 refine Qki p j xs ys hp hj ⟨⟨trivial,trivial,trivial,trivial⟩,⟨trivial,trivial,trivial,trivial⟩,trivial,trivial⟩ (R1:=True) (id_vc1 p j xs ys hp hj ha) ?_
 refine Sat.of_vc vE_ok mixed Qab rfl (id_vc3 p j xs ys hp hj [] y.2.length A hA hs a b c hsv) fun ex hs' st' hgl hk=>?_
 unfold kIdP at hk
 split at hk
 ·obtain ⟨rfl, k1, k2, k3, k4, k5⟩ := hk
  refine⟨some (hgP (a,b,c)),_,.inr ⟨_,rfl,rfl⟩,by rw[k5];exact df_some (a,b,c) st'.H 2 [] (0,0,0) (0,0,0) (0,0,0) 0 _ _ _ k2 k3 k4,_,Qnv (h:=(a,b,c)) (e:=351) k1 ?_ ?_ ?_,rfl⟩
  ·rw[gt_pt,if_neg (by decide),gt_pt,if_neg (by decide),gt_pt,if_pos rfl]
  ·rw[gt_pt,if_neg (by decide),gt_pt,if_pos rfl]
  ·rw[gt_pt,if_pos rfl]
 ·exact hk.elim
end
set_option maxHeartbeats 1000000
set_option maxRecDepth 100000
theorem shl_u{G:Ctx}{t:Nat}{x k:Nat}(hk:k<64)(hx:x*2^k<18446744073709551616):binV G .shl t (u6 (x:Int)) (i6 (k:Int))=some (u6 ((x*2^k:Nat):Int)):=by
 have e:binV G .shl t (u6 (x:Int)) (i6 (k:Int))=if(k:Int)<0 then none else some (.int .u64 (wr .u64 ((x:Int)*((2^min ((k:Int).toNat) 64:Nat):Int)))):=rfl
 rw[e,if_neg (by omega),Int.toNat_natCast,show min k 64=k by omega,wr_eq,←Int.natCast_mul,Qp8 hx]
def uF(f:Nat→Nat)(n:Nat):List V:=(List.range n).map fun i=>u6 (f i:Nat)
theorem Qem(f:Nat→Nat)(n:Nat):HfL (uF f n):=Qgu _ _ (fun _=>trivial)
theorem uF_len(f:Nat→Nat)(n:Nat):(uF f n).length=n:=by unfold uF;rw[List.length_map,List.length_range]
theorem uF_congr{f g:Nat→Nat}{n:Nat}(h: ∀i,i<n→f i=g i):uF f n=uF g n:=by
 unfold uF
 exact List.map_congr_left fun i hi=>by rw[h i (List.mem_range.1 hi)]
theorem head_uF{f:Nat→Nat}{n k:Nat}(h:k<n):headF (dropF (0+k*1) (uF f n))=some (u6 (f k:Nat)):=by
 rw[Qbd,Nat.zero_add]
 exact Qg7 (by rw[List.getElem?_range h])
theorem lay_set{c:List V}{j:Nat}{x:V}(h:j<c.length):layE (0+j*1) c [x]=some (c.set j x):=by
 rw[Qg9,Nat.zero_add,Nat.mul_one]
 have hb:Nat.ble (j+[x].length) c.length=true:=by rw[Nat.ble_eq];simp;omega
 rw[hb,cond_true]
 congr 1
 rw[List.set_eq_take_append_cons_drop,if_pos h,List.append_assoc]
 rfl
theorem lay_uF{f:Nat→Nat}{n j:Nat}(h:j<n)(x:Nat):layE (0+j*1) (uF f n) [u6 (x:Nat)]=some (uF (fun i=>if i=j then x else f i) n):=by
 rw[lay_set (by rw[uF_len];exact h)]
 congr 1
 apply List.ext_getElem?
 intro i
 unfold uF
 rw[List.getElem?_set,List.length_map,List.length_range]
 by_cases hij:j=i
 ·subst hij
  rw[if_pos rfl,if_pos h,List.getElem?_map,List.getElem?_range h];simp
 ·rw [if_neg hij, List.getElem?_map, List.getElem?_map]
  by_cases hi:i<n
  ·rw[List.getElem?_range hi];simp[Ne.symm hij]
  ·rw[List.getElem?_eq_none (by simp;omega)];rfl
def chR(p:List Nat):Nat→Nat→Nat
 |0,_=>0
 |k+1,i=>chR p k i|||p.getD k 0/2^i%2*2^k
def chI(p:List Nat)(k m i:Nat):Nat:=if i<m then chR p (k+1) i else chR p k i
theorem Qmt{y k:Nat}(hk:k<64):y%2*2^k<18446744073709551616:=by
 have h1:2^k≤2^63:=Nat.pow_le_pow_right (by decide) (by omega)
 have h2:y%2≤1:=by omega
 have:=Nat.mul_le_mul h2 h1
 omega
theorem chR_lt(p:List Nat): ∀k i,k≤64→chR p k i<18446744073709551616
 |0,_,_=>by unfold chR;decide
 |k+1,i,hk=>Nat.or_lt_two_pow (n:=64) (chR_lt p k i (by omega)) (Qmt (by omega))
theorem chI_step(p:List Nat)(k m:Nat):(fun i=>if i=m then chR p k m|||p.getD k 0/2^m%2*2^k else chI p k m i)=chI p k (m+1):=by
 funext i
 unfold chI
 by_cases h:i=m
 ·subst h;rw[if_pos rfl,if_pos (by omega)];rfl
 ·rw [if_neg h]
  by_cases h2:i<m
  ·rw[if_pos h2,if_pos (by omega)]
  ·rw[if_neg h2,if_neg (by omega)]
theorem chI_zero(p:List Nat)(k:Nat):chI p k 0=chR p k:=by
 funext i;unfold chI;rw[if_neg (by omega)]
theorem chI_end(p:List Nat)(k n:Nat):uF (chI p k n) n=uF (chR p (k+1)) n:=uF_congr fun i hi=>by unfold chI;rw[if_pos hi]
abbrev rdO(p:List Nat)(r:Nat)(C:List V):List O:=[.row 133 none [.nils,.nils],.row 28 none C,.row 133 none [ul p,.sl 1 0 p.length (some (r-r))]]
abbrev rd2(p:List Nat)(x k n:Nat)(q:Nat×List V):SL:={sl:=[(0,ul p),(2,.ptr 0 0),(4,.ptr 2 0),(28,ul p),(29,i6 (n:Nat)),(30,i6 (k:Nat)),(5,i6 (k:Nat)),(6,u6 (x:Nat)),(42,i6 (n:Nat)),(43,i6 (q.1:Nat))],os:=rdO p n q.2,md:=[0,0,1]}
theorem read_in(p:List Nat)(hl:p.length≤64)(h64:S64 p)(n k x:Nat)(hn:p.length=n)(hk:k<n)(hx:p.getD k 0=x)(A B:List V)(hA:uF (chI p k 0) n=A)(hB:uF (chI p k n) n=B):
  Sat Pg none 0 (at' 66 [1,0,1,1,0,1,0,0,1,1,0,0,1,1,1,0]) (mkSt g0 95 (rd2 p x k n (0,A))) (Qam g0 95 [(True,.exit 2,rd2 p x k n (n,B))]):=by
 have hp:=Qad p
 refine Qc4 vE_ok mixed Qab (b:=at' 66 [1,0,1,1,0,1,0,0,1,1,0,0,1,1,1,0,0]) (by kernel_rfl) (fun q=>q.1≤n∧uF (chI p k q.1) n=q.2) (rd2 p x k n) (fun q=>n-q.1) (fun q hq=>?_) (0,A) ⟨Nat.zero_le _,hA⟩
 obtain⟨m,C⟩:=q
 obtain⟨hm,hC⟩:=hq
 dsimp only at hm hC
 have hCf:HfL C:=by rw[←hC];exact Qem _ _
 by_cases hlt:m<n
 ·have s0 : headF (dropF (0 + m * 1) C) = some (u6 (chR p k m : Nat)) := by rw [← hC, head_uF hlt]; unfold chI; rw [if_neg (by omega)]
  have s1:=Qea (G:=Qac Pg) (t:=28) (x:=p.getD k 0) (k:=m) (by omega)
  have s2:=Qc5 (G:=Qac Pg) (t:=28) (x:=p.getD k 0/2^m)
  have s3:=shl_u (G:=Qac Pg) (t:=28) (x:=p.getD k 0/2^m%2) (k:=k) (by omega) (Qmt (by omega))
  have s4:=(or_u (G:=Qac Pg) (t:=28) (chR_lt p k m (by omega)) (Qmt (y:=p.getD k 0/2^m) (k:=k) (by omega))).1
  have s5:=lay_uF (f:=chI p k m) hlt (chR p k m|||p.getD k 0/2^m%2*2^k)
  rw[chI_step,hC]at s5
  generalize hD:uF (chI p k (m+1)) n=D at s5
  generalize chR p k m=c at*
  rw[hx]at s1 s2 s3 s4 s5
  generalize x/2^m=x1 at*
  generalize x1%2=x2 at*
  generalize x2*2^k=x3 at*
  generalize c|||x3=x4 at*
  refine .inl ⟨(m+1,D),[0,1,2],[yes 44,pl 49,ld 50 (u6 (c:Nat)),va 53 (u6 (x1:Nat)),va 54 (u6 (x2:Nat)),va 56 (u6 (x3:Nat)),va 57 (u6 (x4:Nat)),pl 58,st D,nu 59 ((m+1:Nat):Int)],1000,⟨hlt,hD⟩,by dsimp only;omega,?_⟩
  have hDf:HfL D:=by rw[←hD];exact Qem _ _
  clear hC hD hA hB hx
  refine Eq.mp (by kernel_rfl:(let z5:=An [Sm p.length,Sm (ut p)];let z0:=(↑m:Int);let z1:=Qac Try.prog;let z2:=(↑n:Int);let z3:=(↑(m+1):Int);let z4:=(↑k:Int);An [decide (z0<z2)=true,An [(0:Int)≤z0,z0<(↑p.length:Int)],headF (dropF (0+m*1) C)=some (u6 ↑c),binV z1 BinOp.shr 28 (u6 ↑x) (i6 ↑m)=some (u6 ↑x1),binV z1 BinOp.and 28 (u6 ↑x1) (u6 1)=some (u6 ↑x2),binV z1 BinOp.shl 28 (u6 ↑x2) (i6 ↑k)=some (u6 ↑x3),binV z1 BinOp.or 28 (u6 ↑c) (u6 ↑x3)=some (u6 ↑x4),An [(0:Int)≤z0,z0<(↑p.length:Int)],layE (0+m*1) C [u6 ↑x4]=some D,wr .i64 (z0+(1:Int))=z3,An [z5,Zz,Zz,z5,z2=z2,z4=z4,z4=z4,Sm (↑x:Int),z2=z2,z3=z3,Tt],An [Sm [V.nils,V.nils],TT 2],An [D=D,HfL D],An [z5,An [Zz,Sm p.length,Sm (n-n)],Tt],Tt])=_) ?_
  (repeat'(first|(with_reducible apply And.intro)|(refine fun(_:True)=>?_)))<;>first|exact aq|skip
  all_goals first|exact s0|exact s1|exact s2|exact s3|exact s4|exact s5|skip
 ·obtain rfl : m = n := by omega
  rw[hB]at hC
  subst hC
  refine .inr ⟨.exit 2,[0,1,2],rd2 p x k m (m,B),[no 44],1000,.inl ⟨trivial,rfl,rfl⟩,?_⟩
  clear hA hB hx
  refine Eq.mp (by kernel_rfl:(let z2:=An [Sm p.length,Sm (ut p)];let z0:=(↑m:Int);let z1:=(↑k:Int);An [decide (z0<z0)=false,An [z2,Zz,Zz,z2,z0=z0,z1=z1,z1=z1,Sm (↑x:Int),z0=z0,z0=z0,Tt],An [Sm [V.nils,V.nils],TT 2],An [B=B,HfL B],An [z2,An [Zz,Sm p.length,Sm (m-m)],Tt],Tt])=_) ?_
  (repeat'(first|(with_reducible apply And.intro)|(refine fun(_:True)=>?_)))<;>first|exact aq|skip
  all_goals skip
abbrev rd1(p:List Nat)(n:Nat)(q:Nat×List V):SL:={sl:=[(0,ul p),(2,.ptr 0 0),(4,.ptr 2 0),(28,ul p),(29,i6 (n:Nat)),(30,i6 (q.1:Nat))],os:=rdO p n q.2,md:=[0,0,1]}
theorem Qo0(p:List Nat)(hl:p.length≤64)(h64:S64 p)(n:Nat)(hn:p.length=n)(hW: ∀k,k<n→p.getD k 0/2^n=0)(A B:List V)(hA:uF (chR p 0) n=A)(hB:uF (chR p n) n=B):
  Sat Pg none 0 (at' 66 [1,0,1,1,0,1,0]) (mkSt g0 95 (rd1 p n (0,A))) (Qam g0 95 [(True,.exit 0,rd1 p n (n,B))]):=by
 have hp:=Qad p
 refine Qc4 vE_ok mixed Qab (b:=at' 66 [1,0,1,1,0,1,0,0]) (by kernel_rfl) (fun q=>q.1≤n∧uF (chR p q.1) n=q.2) (rd1 p n) (fun q=>n-q.1) (fun q hq=>?_) (0,A) ⟨Nat.zero_le _,hA⟩
 obtain⟨k,C⟩:=q
 obtain⟨hk,hC⟩:=hq
 dsimp only at hk hC
 have hCf:HfL C:=by rw[←hC];exact Qem _ _
 by_cases hlt:k<n
 ·have s0 := Qda (l := p) (k := k) (by omega)
  have s1:=Qea (G:=Qac Pg) (t:=28) (x:=p.getD k 0) (k:=n) (by omega)
  rw[hW k hlt]at s1
  have hin:=read_in p hl h64 n k (p.getD k 0) hn hlt rfl C (uF (chR p (k+1)) n) (by rw[chI_zero];exact hC) (chI_end p k n)
  have hDf:=Qem (chR p (k+1)) n
  generalize hD:uF (chR p (k+1)) n=D at*
  generalize p.getD k 0=x at*
  refine .inl ⟨(k+1,D),[0,1,2],[yes 31,pl 33,ld 34 (u6 (x:Nat)),va 38 (u6 (0:Nat)),no 39,(0,.loop [0,1,2] (rd2 p x k n (0,C)) [(True,.exit 2,rd2 p x k n (n,D))]),nu 60 ((k+1:Nat):Int)],1000,⟨hlt,hD⟩,by dsimp only;omega,?_⟩
  clear hC hD hA hB
  refine Eq.mp (by kernel_rfl:(let z4:=An [Sm p.length,Sm (ut p)];let z5:=An [z4,An [Zz,Sm p.length,Sm (n-n)],Tt];let z0:=(↑k:Int);let z1:=(↑n:Int);let z2:=[V.nils,V.nils];let z3:=(↑(k+1):Int);An [decide (z0<z1)=true,An [(0:Int)≤z0,z0<(↑p.length:Int)],headF (List.drop (k*1) (ut p))=some (u6 ↑x),binV (Qac Try.prog) BinOp.shr 28 (u6 ↑x) (i6 ↑p.length)=some (u6 ↑(0:Nat)),((↑(0:Nat):Int) != (0:Int))=false,An [An [z4,Zz,Zz,z4,z1=z1,z0=z0,z0=z0,Sm (↑x:Int),z1=(↑p.length:Int),(↑(0:Nat):Int)=(0:Int),Tt],An [z2=z2,TT 2],An [C=C,HfL C],z5,Tt],Sat Try.prog none 0 (at' 66 [1,0,1,1,0,1,0,0,1,1,0,0,1,1,1,0]) (mkSt g0 95 (rd2 p x k n (0,C))) (Qam g0 95 [(True,Ex.exit 2,rd2 p x k n (n,D))]),(True→An [wr .i64 (z0+(1:Int))=z3,An [z4,Zz,Zz,z4,z1=z1,z3=z3,Tt],An [z2=z2,TT 2],An [D=D,HfL D],z5,Tt]),Tt])=_) ?_
  (repeat'(first|(with_reducible apply And.intro)|(refine fun(_:True)=>?_)))<;>first|exact aq|skip
  all_goals first|exact s0|exact s1|exact hin|skip
 ·obtain rfl : k = n := by omega
  rw[hB]at hC
  subst hC
  refine .inr ⟨.exit 0,[0,1,2],rd1 p k (k,B),[no 31],1000,.inl ⟨trivial,rfl,rfl⟩,?_⟩
  clear hA hB
  refine Eq.mp (by kernel_rfl:(let z1:=An [Sm p.length,Sm (ut p)];let z0:=(↑k:Int);An [decide (z0<z0)=false,An [z1,Zz,Zz,z1,z0=z0,z0=z0,Tt],An [Sm [V.nils,V.nils],TT 2],An [B=B,HfL B],An [z1,An [Zz,Sm p.length,Sm (k-k)],Tt],Tt])=_) ?_
  (repeat'(first|(with_reducible apply And.intro)|(refine fun(_:True)=>?_)))<;>first|exact aq|skip
  all_goals skip
def okN(p:List Nat)(s k:Nat):Prop:=s.testBit k=false∧mi (p.getD k 0) s=0
abbrev rd4(p:List Nat)(n i s:Nat)(C:List V)(k:Nat):SL:={sl:=[(0,ul p),(2,.ptr 0 0),(4,.ptr 2 0),(8,u6 (s:Nat)),(64,i6 (n:Nat)),(65,i6 (i:Nat)),(69,ul p),(70,i6 (n:Nat)),(71,i6 (k:Nat))],os:=rdO p n C,md:=[0,0,1]}
abbrev rd3(p:List Nat)(n:Nat)(C:List V)(q:Nat×Nat):SL:={sl:=[(0,ul p),(2,.ptr 0 0),(4,.ptr 2 0),(8,u6 (q.2:Nat)),(64,i6 (n:Nat)),(65,i6 (q.1:Nat))],os:=rdO p n C,md:=[0,0,1]}
theorem Qoz(p:List Nat)(hl:p.length≤64)(h64:S64 p)(n i s:Nat)(hn:p.length=n)(hs:s<18446744073709551616)(C:List V)(hC:HfL C)(u:Nat)(hu:u<n)(hok:okN p s u)(hmin: ∀i,i<u→¬okN p s i):
  Sat Pg none 0 (at' 66 [1,0,1,1,1,1,1,0,1,0,0,1,1,0,0,0,1,0]) (mkSt g0 95 (rd4 p n i s C 0)) (Qam g0 95 [(True,.exit 5,rd3 p n C (i,s|||2^u))]):=by
 have hp:=Qad p
 refine Qc4 vE_ok mixed Qab (b:=at' 66 [1,0,1,1,1,1,1,0,1,0,0,1,1,0,0,0,1,0,0]) (by kernel_rfl) (fun q=>q≤u) (rd4 p n i s C) (fun q=>u-q) (fun k hk=>?_) 0 (Nat.zero_le _)
 have hlt:k<n:=by omega
 have s0:=Qda (l:=p) (k:=k) (by omega)
 have s1:=Qea (G:=Qac Pg) (t:=28) (x:=s) (k:=k) (by omega)
 have s2:=Qc5 (G:=Qac Pg) (t:=28) (x:=s/2^k)
 have s3:=mi_u (G:=Qac Pg) (t:=28) (h64.get k) hs
 obtain⟨s4,s5⟩:=Qgn (G:=Qac Pg) (t:=28) (k:=k) (by omega)
 have s6:=(or_u (G:=Qac Pg) (t:=28) hs s5).1
 by_cases hku:k=u
 ·subst hku
  obtain⟨hb,hm⟩:=hok
  have hbe:s/2^k%2=0:=by rw[Qbc,hb];rfl
  rw[hm]at s3
  rw[hbe]at s2
  generalize s/2^k=x1 at*
  generalize 2^k=z at*
  generalize s|||z=s' at*
  generalize p.getD k 0=x at*
  refine .inr ⟨.exit 5,[0,1,2],rd3 p n C (i,s'),[yes 72,pl 74,ld 75 (u6 (x:Nat)),va 78 (u6 (x1:Nat)),va 79 (u6 (0:Nat)),yes 80,va 84 (u6 (0:Nat)),yes 85,va 89 (u6 (z:Nat)),va 90 (u6 (s':Nat))],1000,.inl ⟨trivial,rfl,rfl⟩,?_⟩
  clear hmin
  refine Eq.mp (by kernel_rfl:(let z5:=An [Sm p.length,Sm (ut p)];let z0:=Qac Try.prog;let z1:=((↑(0:Nat):Int)==(0:Int));let z2:=(↑k:Int);let z3:=(↑n:Int);let z4:=some (u6 ↑(0:Nat));An [decide (z2<z3)=true,An [(0:Int)≤z2,z2<(↑p.length:Int)],headF (List.drop (k*1) (ut p))=some (u6 ↑x),binV z0 BinOp.shr 28 (u6 ↑s) (i6 ↑k)=some (u6 ↑x1),binV z0 BinOp.and 28 (u6 ↑x1) (u6 1)=z4,z1=true,binV z0 BinOp.andNot 28 (u6 ↑x) (u6 ↑s)=z4,z1=true,binV z0 BinOp.shl 28 (u6 1) (i6 ↑k)=some (u6 ↑z),binV z0 BinOp.or 28 (u6 ↑s) (u6 ↑z)=some (u6 ↑s'),An [z5,Zz,Zz,Sm (↑s':Int),z3=z3,Sm (↑i:Int),Tt],An [Sm [V.nils,V.nils],TT 2],An [C=C,HfL C],An [z5,An [Zz,Sm p.length,Sm (n-n)],Tt],Tt])=_) ?_
  (repeat'(first|(with_reducible apply And.intro)|(refine fun(_:True)=>?_)))<;>first|exact aq|skip
  all_goals first|exact s0|exact s1|exact s2|exact s3|exact s4|exact s6|skip
 ·have hno := hmin k (by omega)
  cases hb:s.testBit k with
  |true=>
   have hbe:s/2^k%2=1:=by rw[Qbc,hb];rfl
   rw[hbe]at s2
   generalize s/2^k=x1 at*
   generalize p.getD k 0=x at*
   refine .inl ⟨k+1,[0,1,2],[yes 72,pl 74,ld 75 (u6 (x:Nat)),va 78 (u6 (x1:Nat)),va 79 (u6 (1:Nat)),no 80,nu 91 ((k+1:Nat):Int)],1000,by omega,by omega,?_⟩
   clear hmin hno
   refine Eq.mp (by kernel_rfl:(let z3:=An [Sm p.length,Sm (ut p)];let z0:=(↑n:Int);let z1:=(↑(k+1):Int);let z2:=(↑k:Int);An [decide (z2<z0)=true,An [(0:Int)≤z2,z2<(↑p.length:Int)],headF (List.drop (k*1) (ut p))=some (u6 ↑x),binV (Qac Try.prog) BinOp.shr 28 (u6 ↑s) (i6 ↑k)=some (u6 ↑x1),binV (Qac Try.prog) BinOp.and 28 (u6 ↑x1) (u6 1)=some (u6 ↑(1:Nat)),((↑(1:Nat):Int)==(0:Int))=false,wr .i64 (z2+(1:Int))=z1,An [z3,Zz,Zz,Sm (↑s:Int),z0=z0,Sm (↑i:Int),z3,z0=z0,z1=z1,Tt],An [Sm [V.nils,V.nils],TT 2],An [C=C,HfL C],An [z3,An [Zz,Sm p.length,Sm (n-n)],Tt],Tt])=_) ?_
   (repeat'(first|(with_reducible apply And.intro)|(refine fun(_:True)=>?_)))<;>first|exact aq|skip
   all_goals first|exact s0|exact s1|exact s2|skip
  |false=>
   have hbe:s/2^k%2=0:=by rw[Qbc,hb];rfl
   have hm:mi (p.getD k 0) s≠0:=fun e=>hno ⟨hb,e⟩
   rw[hbe]at s2
   generalize s/2^k=x1 at*
   generalize mi (p.getD k 0) s=y at*
   generalize p.getD k 0=x at*
   refine .inl ⟨k+1,[0,1,2],[yes 72,pl 74,ld 75 (u6 (x:Nat)),va 78 (u6 (x1:Nat)),va 79 (u6 (0:Nat)),yes 80,va 84 (u6 (y:Nat)),no 85,nu 91 ((k+1:Nat):Int)],1000,by omega,by omega,?_⟩
   clear hmin hno
   refine Eq.mp (by kernel_rfl:(let z4:=An [Sm p.length,Sm (ut p)];let z0:=(↑n:Int);let z1:=(↑(k+1):Int);let z2:=(↑k:Int);let z3:=Qac Try.prog;An [decide (z2<z0)=true,An [(0:Int)≤z2,z2<(↑p.length:Int)],headF (List.drop (k*1) (ut p))=some (u6 ↑x),binV z3 BinOp.shr 28 (u6 ↑s) (i6 ↑k)=some (u6 ↑x1),binV z3 BinOp.and 28 (u6 ↑x1) (u6 1)=some (u6 ↑(0:Nat)),((↑(0:Nat):Int)==(0:Int))=true,binV z3 BinOp.andNot 28 (u6 ↑x) (u6 ↑s)=some (u6 ↑y),((↑y:Int)==(0:Int))=false,wr .i64 (z2+(1:Int))=z1,An [z4,Zz,Zz,Sm (↑s:Int),z0=z0,Sm (↑i:Int),z4,z0=z0,z1=z1,Tt],An [Sm [V.nils,V.nils],TT 2],An [C=C,HfL C],An [z4,An [Zz,Sm p.length,Sm (n-n)],Tt],Tt])=_) ?_
   (repeat'(first|(with_reducible apply And.intro)|(refine fun(_:True)=>?_)))<;>first|exact aq|skip
   all_goals first|exact s0|exact s1|exact s2|exact s3|(simp;omega)|skip
def Acy(p:List Nat):Prop:=∃rk:Nat→Nat,∀u,u<p.length→∀v,(p.getD u 0).testBit v=true→v<p.length∧rk v<rk u
theorem first_of{P:Nat→Prop}{n:Nat}(h: ∃k,k<n∧P k): ∃k,k<n∧P k∧∀i,i<k→¬P i:=by
 obtain⟨k,hk,hp⟩:=h
 induction k using Nat.strongRecOn with
 | ind k ih =>
  by_cases hb: ∃b,b<k∧P b
  ·obtain ⟨b, h1, h2⟩ := hb
   exact ih b h1 (by omega) h2
  ·exact⟨k,hk,hp,fun i hi hpi=>hb ⟨i,hi,hpi⟩⟩
theorem Qj0{p:List Nat}(h:Acy p)(h64:S64 p){s:Nat}(hs:s<18446744073709551616)(hv: ∃v,v<p.length∧s.testBit v=false): ∃u,u<p.length∧okN p s u∧∀i,i<u→¬okN p s i:=by
 obtain⟨rk,hr⟩:=h
 refine first_of ?_
 obtain⟨v,hv,hb⟩:=hv
 generalize hm:rk v=m
 induction m using Nat.strongRecOn generalizing v with
 | ind m ih =>
  by_cases hok:mi (p.getD v 0) s=0
  ·exact⟨v,hv,hb,hok⟩
  ·obtain ⟨b, hbb⟩ : ∃ b, (mi (p.getD v 0) s).testBit b = true := by
    by_cases hx: ∃b,(mi (p.getD v 0) s).testBit b=true
    ·exact hx
    ·exact absurd (bits0 fun i=>by
      cases hi:(mi (p.getD v 0) s).testBit i with
      |false=>rfl
      |true=>exact absurd ⟨i,hi⟩ hx) hok
   rw[Qga (h64.get v) hs]at hbb
   simp only[Bool.and_eq_true,Bool.not_eq_true']at hbb
   obtain⟨h1,h2⟩:=hr v hv b hbb.1
   exact ih (rk b) (by omega) b h1 hbb.2 rfl
theorem miss_of{l:List Nat}{n:Nat}(hn:l.Nodup)(hl:l.length<n)(hlt: ∀x∈l,x<n): ∃v,v<n∧v∉l:=by
 by_cases h: ∃v,v<n∧v∉l
 ·exact h
 ·have hp : (List.range n).Perm l := (List.perm_ext_iff_of_nodup List.nodup_range hn).2 fun a => ⟨fun ha => by
   by_cases hb:a∈l
   ·exact hb
   ·exact absurd ⟨a,List.mem_range.1 ha,hb⟩ h,fun ha=>List.mem_range.2 (hlt a ha)⟩
  have:=hp.length_eq
  rw[List.length_range]at this
  omega
def SetOf(l:List Nat)(s:Nat):Prop:=∀b,s.testBit b=decide (b∈l)
theorem SetOf.lt{l:List Nat}{s n:Nat}(h:SetOf l s)(hl: ∀x∈l,x<n):s<2^n:=by
 refine Nat.lt_pow_two_of_testBit s fun i hi=>?_
 rw[h i]
 exact decide_eq_false fun hm=>absurd (hl i hm) (by omega)
theorem SetOf.put{l:List Nat}{s u:Nat}(h:SetOf l s):SetOf (l++[u]) (s|||2^u):=by
 intro b
 rw[Nat.testBit_or,h b,Nat.testBit_two_pow]
 by_cases e:u=b
 ·subst e;simp
 ·simp[e,Ne.symm e]
theorem Qlz(p:List Nat)(hl:p.length≤64)(h64:S64 p)(hac:Acy p)(n:Nat)(hn:p.length=n)(C:List V)(hC:HfL C):
  Sat Pg none 0 (at' 66 [1,0,1,1,1,1,1,0,1,0]) (mkSt g0 95 (rd3 p n C (0,0))) (Qam g0 95 [(True,.exit 4,{sl:=[(2,.ptr 0 0),(4,.ptr 2 0)],os:=rdO p n C,md:=[0,0,1]})]):=by
 have hp:=Qad p
 refine Qc4 vE_ok mixed Qab (b:=at' 66 [1,0,1,1,1,1,1,0,1,0,0]) (by kernel_rfl) (fun q=>q.1≤n∧∃l:List Nat,l.Nodup∧l.length=q.1∧(∀x∈l,x<n)∧SetOf l q.2) (rd3 p n C) (fun q=>n-q.1) (fun q hq=>?_) (0,0) ⟨Nat.zero_le _,[],List.nodup_nil,rfl,fun x hx=>(by cases hx),fun b=>by simp⟩
 obtain⟨i,s⟩:=q
 obtain⟨hi,l,h1,h2,h3,h4⟩:=hq
 dsimp only at hi h2 h4
 have hs2:s<2^n:=h4.lt h3
 have hs:s<18446744073709551616:=Nat.lt_of_lt_of_le hs2 (Nat.pow_le_pow_right (n:=2) (by decide) (show n≤64 by omega))
 by_cases hlt:i<n
 ·obtain ⟨v, hv, hvl⟩ := miss_of h1 (by omega) h3
  obtain⟨u,hu,hok,hmin⟩:=Qj0 hac h64 hs ⟨v,by omega,by rw[h4 v];exact decide_eq_false hvl⟩
  have hf:=Qoz p hl h64 n i s hn hs C hC u (by omega) hok hmin
  have hul:u∉l:=fun hm=>by
   have:=hok.1
   rw[h4 u,decide_eq_true hm]at this
   cases this
  have hnext:(fun q:Nat×Nat=>q.1≤n∧∃l:List Nat,l.Nodup∧l.length=q.1∧(∀x∈l,x<n)∧SetOf l q.2) (i+1,s|||2^u):=by
   refine⟨hlt,l++[u],?_,by simp;omega,fun x hx=>?_,h4.put⟩
   ·rw [List.nodup_append]
    exact⟨h1,by simp,fun a ha b hb e=>by
     obtain rfl:=List.mem_singleton.1 hb
     exact hul (e▸ha)⟩
   ·rcases List.mem_append.1 hx with hx | hx
    ·exact h3 x hx
    ·obtain rfl:=List.mem_singleton.1 hx;omega
  generalize s|||2^u=s' at*
  refine .inl ⟨(i+1,s'),[0,1,2],[yes 66,(0,.loop [0,1,2] (rd4 p n i s C 0) [(True,.exit 5,rd3 p n C (i,s'))]),nu 93 ((i+1:Nat):Int)],1000,hnext,by dsimp only;omega,?_⟩
  clear hnext hmin hok hul
  refine Eq.mp (by kernel_rfl:(let z4:=An [Sm p.length,Sm (ut p)];let z5:=An [z4,An [Zz,Sm p.length,Sm (n-n)],Tt];let z0:=(↑n:Int);let z1:=[V.nils,V.nils];let z2:=(↑(i+1):Int);let z3:=(↑i:Int);An [decide (z3<z0)=true,An [An [z4,Zz,Zz,Sm (↑s:Int),z0=z0,z3=z3,z4,z0=(↑p.length:Int),(↑(0:Nat):Int)=(0:Int),Tt],An [z1=z1,TT 2],An [C=C,HfL C],z5,Tt],Sat Try.prog none 0 (at' 66 [1,0,1,1,1,1,1,0,1,0,0,1,1,0,0,0,1,0]) (mkSt g0 95 (rd4 p n i s C 0)) (Qam g0 95 [(True,Ex.exit 5,rd3 p n C (i,s'))]),(True→An [wr .i64 (z3+(1:Int))=z2,An [z4,Zz,Zz,Sm (↑s':Int),z0=z0,z2=z2,Tt],An [z1=z1,TT 2],An [C=C,HfL C],z5,Tt]),Tt])=_) ?_
  (repeat'(first|(with_reducible apply And.intro)|(refine fun(_:True)=>?_)))<;>first|exact aq|skip
  all_goals first|exact hf|skip
 ·obtain rfl : i = n := by omega
  refine .inr ⟨.exit 4,[0,1,2],{sl:=[(2,.ptr 0 0),(4,.ptr 2 0)],os:=rdO p i C,md:=[0,0,1]},[no 66],1000,.inl ⟨trivial,rfl,rfl⟩,?_⟩
  clear h1 h2 h3 h4
  refine Eq.mp (by kernel_rfl:(An [decide ((↑i:Int)<(↑i:Int))=false,An [Zz,Zz,Tt],An [Sm [V.nils,V.nils],TT 2],An [C=C,HfL C],An [An [Sm p.length,Sm (ut p)],An [Zz,Sm p.length,Sm (i-i)],Tt],Tt])=_) ?_
  (repeat'(first|(with_reducible apply And.intro)|(refine fun(_:True)=>?_)))<;>first|exact aq|skip
  all_goals skip
theorem rep_uF(n:Nat){p:List Nat}:uF (chR p 0) n=rep n [u6 0]:=by
 apply List.ext_getElem?
 intro i
 unfold uF
 rw[List.getElem?_map]
 by_cases hi:i<n
 ·rw[List.getElem?_range hi,Qjj n [u6 0] i (by simpa using hi),List.length_singleton,Nat.mod_one];rfl
 ·rw[List.getElem?_eq_none (by simp;omega),List.getElem?_eq_none (by rw[Qcz];simp;omega)];rfl
theorem read_fn(p:List Nat)(hl:p.length≤8)(hl1:1≤p.length)(h64:S64 p)(hac:Acy p)(hW: ∀k,k<p.length→p.getD k 0/2^p.length=0):FnOk Pg g0 66 [ul p] (.tup [.agg [ul p,.im p.length (uF (chR p p.length) p.length)],i6 0]):=by
 have hp:=Qad p
 have hA:uF (chR p 0) p.length=rep p.length [u6 0]:=rep_uF p.length
 have h1:=Qo0 p (by omega) h64 p.length rfl hW _ _ rfl rfl
 rw[hA]at h1
 have hCf:=Qem (chR p p.length) p.length
 have hRf:HfL (rep p.length [u6 0]):=by rw[←rep_uF (p:=p)];exact Qem _ _
 generalize uF (chR p p.length) p.length=C at*
 have h2:=Qlz p (by omega) h64 hac p.length rfl C hCf
 have hn8:(p.length:Int)≤8:=by omega
 generalize hn:p.length=n at*
 refine FnOk.of_vc vE_ok mixed Qab (n:=1000) (r:=[0]) (S:={sl:=[(2,.ptr 0 0),(3,i6 0)],os:=[.row 133 none [ul p,.im n C]],md:=[1]}) (hs:=[no 13,no 17,mk 24,(0,.loop [0,1,2] (rd1 p n (0,rep n [u6 0])) [(True,.exit 0,rd1 p n (n,C))]),(0,.loop [0,1,2] (rd3 p n C (0,0)) [(True,.exit 4,{sl:=[(2,.ptr 0 0),(4,.ptr 2 0)],os:=rdO p n C,md:=[0,0,1]})])]) ?_
 refine Eq.mp (by kernel_rfl:(let z6:=An [Sm p.length,Sm (ut p)];let z0:=(↑p.length:Int);let z1:=[V.nils,V.nils];let z2:=(↑(0:Nat):Int);let z3:=(0:Int);let z4:=V.tup [V.agg [ul p,V.im n C],i6 0];let z5:=rep n [u6 0];An [z4=z4,decide (z0<(1:Int))=false,decide (z0>(8:Int))=false,An [z3≤z0,z0≤z0,(↑(8:Nat):Int)*z0≤(281474976710656:Int),z0≤(9223372036854775807:Int)],An [An [z6,Zz,Zz,z6,(↑n:Int)=z0,z2=z3,Tt],An [z1=z1,TT 2],An [z5=rep p.length [u6 0],HfL z5],An [z6,An [Zz,Sm p.length,n-n=p.length-p.length],Tt],Tt],Sat Try.prog none 0 (at' 66 [1,0,1,1,0,1,0]) (mkSt g0 95 (rd1 p n (0,z5))) (Qam g0 95 [(True,Ex.exit 0,rd1 p n (n,C))]),(True→An [An [An [z6,Zz,Zz,z2=z3,(↑n:Int)=z0,z2=z3,Tt],An [z1=z1,TT 2],An [C=C,HfL C],An [z6,An [Zz,Sm p.length,Sm (n-n)],Tt],Tt],Sat Try.prog none 0 (at' 66 [1,0,1,1,1,1,1,0,1,0]) (mkSt g0 95 (rd3 p n C (0,0))) (Qam g0 95 [(True,Ex.exit 4,SL.mk [(2,V.ptr 0 0),(4,V.ptr 2 0)] (rdO p n C) [] [0,0,1])]),(True→An [An [Zz,z3=z3,Tt],An [z6,An [n=p.length,C=C,HfL C],Tt],Tt]),Tt]),Tt])=_) ?_
 (repeat'(first|(with_reducible apply And.intro)|(refine fun(_:True)=>?_)))<;>first|exact aq|skip
 all_goals first|exact h1|exact h2|skip
structure GrOk(p j:List Nat):Prop where
 l1:1≤p.length
 l5:p.length≤5
 p64:S64 p
 acy:Acy p
 pw: ∀k,k<p.length→p.getD k 0/2^p.length=0
 jl:j.length=p.length
 j64:S64 j
 jw: ∀k,k<p.length→j.getD k 0/2^p.length=0
 jk: ∀k,k<p.length→(j.getD k 0).testBit k=false
 js: ∀k m,k<p.length→m<p.length→(j.getD k 0).testBit m=(j.getD m 0).testBit k
theorem Qo4(p:List Nat)(hl:p.length≤8)(hl1:1≤p.length)(h64:S64 p)(hac:Acy p)(hW: ∀k,k<p.length→p.getD k 0/2^p.length=0):FnOk Pg g0 42 [ul p] (i6 0):=by
 have hp:=Qad p
 have h1:=read_fn p hl hl1 h64 hac hW
 have hCf:=Qem (chR p p.length) p.length
 generalize uF (chR p p.length) p.length=C at*
 refine FnOk.of_vc vE_ok mixed Qab (n:=1000) (r:=[]) (S:={sl:=[(2,i6 0)]}) (hs:=[fn 7 (.tup [.agg [ul p,.im p.length C],i6 0])]) ?_
 refine Eq.mp (by kernel_rfl:(An [Sm (i6 0),An [Tt,Tt],FnOk Try.prog g0 66 [V.im p.length (ut p)] (V.tup [V.agg [ul p,V.im p.length C],i6 0]),Tt,An [Sm (0:Int),Tt],Tt])=_) ?_
 (repeat'(first|(with_reducible apply And.intro)|(refine fun(_:True)=>?_)))<;>first|exact aq|skip
 all_goals first|exact h1|skip
abbrev ck2(j:List Nat)(n k x m:Nat):SL:={sl:=[(1,ul j),(5,i6 (n:Nat)),(25,ul j),(26,i6 (n:Nat)),(27,i6 (k:Nat)),(6,i6 (k:Nat)),(7,u6 (x:Nat)),(43,ul j),(44,i6 (n:Nat)),(45,i6 (m:Nat))]}
abbrev ck1(j:List Nat)(n k:Nat):SL:={sl:=[(1,ul j),(5,i6 (n:Nat)),(25,ul j),(26,i6 (n:Nat)),(27,i6 (k:Nat))]}
theorem check_in(p j:List Nat)(h:GrOk p j)(n k x:Nat)(hn:j.length=n)(hk:k<n)(hx:j.getD k 0=x):
  Sat Pg none 0 (at' 20 [1,1,1,0,1,0,0,1,1,0,0,1,1,1,0]) (mkSt g0 61 (ck2 j n k x 0)) (Qam g0 61 [(True,.exit 2,ck2 j n k x n)]):=by
 have hj:=Qad j
 have hjl:=h.jl
 have h5:=h.l5
 refine Qc4 vE_ok mixed Qab (b:=at' 20 [1,1,1,0,1,0,0,1,1,0,0,1,1,1,0,0]) (by kernel_rfl) (fun m=>m≤n) (ck2 j n k x) (fun m=>n-m) (fun m hm=>?_) 0 (Nat.zero_le _)
 by_cases hlt:m<n
 ·have s0 := Qda (l := j) (k := m) (by omega)
  have s1:=Qea (G:=Qac Pg) (t:=28) (x:=x) (k:=m) (by omega)
  have s2:=Qc5 (G:=Qac Pg) (t:=28) (x:=x/2^m)
  have s3:=Qea (G:=Qac Pg) (t:=28) (x:=j.getD m 0) (k:=k) (by omega)
  have s4:=Qc5 (G:=Qac Pg) (t:=28) (x:=j.getD m 0/2^k)
  have e:x/2^m%2=j.getD m 0/2^k%2:=by
   have:=h.js k m (by omega) (by omega)
   rw[hx]at this
   rw[Qbc,Qbc,this]
  rw[←e]at s4
  generalize j.getD m 0=y at*
  generalize y/2^k=y1 at*
  generalize x/2^m=x1 at*
  generalize x1%2=x2 at*
  refine .inl ⟨m+1,[],[yes 46,pl 48,ld 49 (u6 (y:Nat)),va 52 (u6 (x1:Nat)),va 53 (u6 (x2:Nat)),va 56 (u6 (y1:Nat)),va 57 (u6 (x2:Nat)),no 58,nu 59 ((m+1:Nat):Int)],1000,by omega,by omega,?_⟩
  clear e h
  refine Eq.mp (by kernel_rfl:(let z5:=An [Sm j.length,Sm (ut j)];let z0:=(↑n:Int);let z1:=Qac Try.prog;let z2:=(↑(m+1):Int);let z3:=(↑m:Int);let z4:=(↑k:Int);An [decide (z3<z0)=true,An [(0:Int)≤z3,z3<(↑j.length:Int)],headF (List.drop (m*1) (ut j))=some (u6 ↑y),binV z1 BinOp.shr 28 (u6 ↑x) (i6 ↑m)=some (u6 ↑x1),binV z1 BinOp.and 28 (u6 ↑x1) (u6 1)=some (u6 ↑x2),binV z1 BinOp.shr 28 (u6 ↑y) (i6 ↑k)=some (u6 ↑y1),binV z1 BinOp.and 28 (u6 ↑y1) (u6 1)=some (u6 ↑x2),((↑x2:Int) != (↑x2:Int))=false,wr .i64 (z3+(1:Int))=z2,An [z5,z0=z0,z5,z0=z0,z4=z4,z4=z4,Sm (↑x:Int),z5,z0=z0,z2=z2,Tt],Tt])=_) ?_
  (repeat'(first|(with_reducible apply And.intro)|(refine fun(_:True)=>?_)))<;>first|exact aq|skip
  all_goals first|exact s0|exact s1|exact s2|exact s3|exact s4|skip
 ·obtain rfl : m = n := by omega
  refine .inr ⟨.exit 2,[],ck2 j m k x m,[no 46],1000,.inl ⟨trivial,rfl,rfl⟩,?_⟩
  clear h
  refine Eq.mp (by kernel_rfl:(let z2:=An [Sm j.length,Sm (ut j)];let z0:=(↑m:Int);let z1:=(↑k:Int);An [decide (z0<z0)=false,An [z2,z0=z0,z2,z0=z0,z1=z1,z1=z1,Sm (↑x:Int),z2,z0=z0,z0=z0,Tt],Tt])=_) ?_
  (repeat'(first|(with_reducible apply And.intro)|(refine fun(_:True)=>?_)))<;>first|exact aq|skip
  all_goals skip
theorem Qmx(p j:List Nat)(h:GrOk p j)(n:Nat)(hn:j.length=n):
  Sat Pg none 0 (at' 20 [1,1,1,0,1,0]) (mkSt g0 61 (ck1 j n 0)) (Qam g0 61 [(True,.exit 0,ck1 j n n)]):=by
 have hj:=Qad j
 have hjl:=h.jl
 have h5:=h.l5
 refine Qc4 vE_ok mixed Qab (b:=at' 20 [1,1,1,0,1,0,0]) (by kernel_rfl) (fun k=>k≤n) (ck1 j n) (fun k=>n-k) (fun k hk=>?_) 0 (Nat.zero_le _)
 by_cases hlt:k<n
 ·have s0 := Qda (l := j) (k := k) (by omega)
  have s1:=Qea (G:=Qac Pg) (t:=28) (x:=j.getD k 0) (k:=n) (by omega)
  have hw:=h.jw k (by omega)
  rw[←hjl,hn]at hw
  rw[hw]at s1
  have s2:=Qea (G:=Qac Pg) (t:=28) (x:=j.getD k 0) (k:=k) (by omega)
  have s3:=Qc5 (G:=Qac Pg) (t:=28) (x:=j.getD k 0/2^k)
  have hb:=h.jk k (by omega)
  have hbe:j.getD k 0/2^k%2=0:=by rw[Qbc,hb];rfl
  rw[hbe]at s3
  have hin:=check_in p j h n k (j.getD k 0) hn hlt rfl
  generalize j.getD k 0=x at*
  generalize x/2^k=x1 at*
  refine .inl ⟨k+1,[],[yes 28,pl 30,ld 31 (u6 (x:Nat)),va 34 (u6 (0:Nat)),va 39 (u6 (x1:Nat)),va 40 (u6 (0:Nat)),(0,.loop [] (ck2 j n k x 0) [(True,.exit 2,ck2 j n k x n)]),nu 60 ((k+1:Nat):Int)],1000,by omega,by omega,?_⟩
  clear hw hb hbe h
  refine Eq.mp (by kernel_rfl:(let z5:=An [Sm j.length,Sm (ut j)];let z0:=(↑n:Int);let z1:=(↑k:Int);let z2:=(↑(k+1):Int);let z3:=Qac Try.prog;let z4:=some (u6 ↑(0:Nat));An [decide (z1<z0)=true,An [(0:Int)≤z1,z1<(↑j.length:Int)],headF (List.drop (k*1) (ut j))=some (u6 ↑x),binV z3 BinOp.shr 28 (u6 ↑x) (i6 ↑n)=z4,binV z3 BinOp.shr 28 (u6 ↑x) (i6 ↑k)=some (u6 ↑x1),binV z3 BinOp.and 28 (u6 ↑x1) (u6 1)=z4,An [An [z5,z0=z0,z5,z0=z0,z1=z1,z1=z1,Sm (↑x:Int),z5,z0=(↑j.length:Int),(↑(0:Nat):Int)=(0:Int),Tt],Tt],Sat Try.prog none 0 (at' 20 [1,1,1,0,1,0,0,1,1,0,0,1,1,1,0]) (mkSt g0 61 (ck2 j n k x 0)) (Qam g0 61 [(True,Ex.exit 2,ck2 j n k x n)]),(True→An [wr .i64 (z1+(1:Int))=z2,An [z5,z0=z0,z5,z0=z0,z2=z2,Tt],Tt]),Tt])=_) ?_
  (repeat'(first|(with_reducible apply And.intro)|(refine fun(_:True)=>?_)))<;>first|exact aq|skip
  all_goals first|exact s0|exact s1|exact s2|exact s3|exact hin|skip
 ·obtain rfl : k = n := by omega
  refine .inr ⟨.exit 0,[],ck1 j k k,[no 28],1000,.inl ⟨trivial,rfl,rfl⟩,?_⟩
  clear h
  refine Eq.mp (by kernel_rfl:(let z1:=An [Sm j.length,Sm (ut j)];let z0:=(↑k:Int);An [decide (z0<z0)=false,An [z1,z0=z0,z1,z0=z0,z0=z0,Tt],Tt])=_) ?_
  (repeat'(first|(with_reducible apply And.intro)|(refine fun(_:True)=>?_)))<;>first|exact aq|skip
  all_goals skip
theorem Qj7(p j:List Nat)(h:GrOk p j):FnOk Pg g0 20 [ul p,ul j] (i6 0):=by
 have hp:=Qad p
 have hj:=Qad j
 have h5:=h.l5
 have hjl:=h.jl
 have h1:=Qo4 p (by omega) h.l1 h.p64 h.acy h.pw
 have h2:=Qmx p j h j.length rfl
 generalize hn:p.length=n at*
 rw[hjl]at h2
 show FnOk Pg g0 20 [.im p.length (ut p),.im j.length (ut j)] (i6 0)
 have h1':FnOk Pg g0 42 [.im n (ut p)] (i6 0):=by rw[←hn];exact h1
 have h2':Sat Pg none 0 (at' 20 [1,1,1,0,1,0]) (mkSt g0 61 {sl:=[(1,.im n (ut j)),(5,i6 (n:Nat)),(25,.im n (ut j)),(26,i6 (n:Nat)),(27,i6 (0:Nat))]}) (Qam g0 61 [(True,.exit 0,{sl:=[(1,.im n (ut j)),(5,i6 (n:Nat)),(25,.im n (ut j)),(26,i6 (n:Nat)),(27,i6 (n:Nat))]})]):=by
  rw[←hjl];rw[←hjl]at h2;exact h2
 rw[hn,hjl]
 clear h hn hjl
 refine FnOk.of_vc vE_ok mixed Qab (n:=1000) (r:=[]) (S:={sl:=[(4,i6 0)]}) (hs:=[no 13,fn 16 (i6 0),no 23,(0,.loop [] {sl:=[(1,.im n (ut j)),(5,i6 (n:Nat)),(25,.im n (ut j)),(26,i6 (n:Nat)),(27,i6 (0:Nat))]} [(True,.exit 0,{sl:=[(1,.im n (ut j)),(5,i6 (n:Nat)),(25,.im n (ut j)),(26,i6 (n:Nat)),(27,i6 (n:Nat))]})])]) ?_
 refine Eq.mp (by kernel_rfl:(let z0:=(↑n:Int);let z1:=V.im n (ut j);An [Sm (i6 0),decide (z0>(5:Int))=false,An [Tt,Tt],FnOk Try.prog g0 42 [V.im n (ut p)] (i6 0),Tt,(z0 != z0)=false,An [An [An [n=n,Sm (ut j)],z0=z0,An [n=n,Sm (ut j)],z0=z0,(↑(0:Nat):Int)=(0:Int),Tt],Tt],Sat Try.prog none 0 (at' 20 [1,1,1,0,1,0]) (mkSt g0 61 (SL.mk [(1,z1),(5,i6 ↑n),(25,z1),(26,i6 ↑n),(27,i6 ↑(0:Nat))] [] [] [])) (Qam g0 61 [(True,Ex.exit 0,SL.mk [(1,z1),(5,i6 ↑n),(25,z1),(26,i6 ↑n),(27,i6 ↑n)] [] [] [])]),(True→An [An [Sm (0:Int),Tt],Tt]),Tt])=_) ?_
 (repeat'(first|(with_reducible apply And.intro)|(refine fun(_:True)=>?_)))<;>first|exact aq|skip
 all_goals first|exact h1'|exact h2'|skip
theorem Qhy{n:Nat}(h:n<64):alN n<18446744073709551616:=by
 have:=Nat.pow_le_pow_right (n:=2) (by decide) (show n≤63 by omega)
 unfold alN;omega
structure Qma(n xs ys:Nat):Prop where
 x:mi xs (alN n)=0
 y:mi ys (alN n)=0
 d:xs&&& ys=0
 n0:ys≠0
 x64:xs<18446744073709551616
 y64:ys<18446744073709551616
theorem Qj3(p j:List Nat)(h:GrOk p j)(xs ys:Nat)(hq:Qma p.length xs ys):FnOk Pg g0 34 [ul p,ul j,u6 (xs:Nat),u6 (ys:Nat)] (i6 (0:Nat)):=by
 have hp:=Qad p
 have hj:=Qad j
 have h5:=h.l5
 have h1:=Qj7 p j h
 have h2:=Qml p j (by omega)
 have s1:=mi_u (G:=Qac Pg) (t:=28) (x:=xs) (y:=alN p.length) hq.x64 (Qhy (by omega))
 have s2:=mi_u (G:=Qac Pg) (t:=28) (x:=ys) (y:=alN p.length) hq.y64 (Qhy (by omega))
 have s3:=Qmm (G:=Qac Pg) (t:=28) hq.x64 hq.y64
 rw[hq.x]at s1
 rw[hq.y]at s2
 rw[hq.d]at s3
 have hn0:=hq.n0
 generalize alN p.length=al at*
 refine FnOk.of_vc vE_ok mixed Qab (n:=1000) (r:=[]) (S:={sl:=[(8,i6 (0:Nat))]}) (hs:=[fn 12 (i6 0),fn 17 (u6 (al:Nat)),va 20 (u6 (0:Nat)),va 25 (u6 (0:Nat)),va 31 (u6 (0:Nat)),no 36]) ?_
 clear hq h
 refine Eq.mp (by kernel_rfl:(let z0:=[V.im p.length (ut p),V.im j.length (ut j)];let z2:=Qac Try.prog;let z3:=(0:Nat);let z1:=some (u6 ↑z3);An [Sm (i6 ↑z3),TT 2,FnOk Try.prog g0 20 z0 (i6 0),Tt,An [TT 2,Tt],FnOk Try.prog g0 22 [V.agg z0] (u6 ↑al),Tt,binV z2 BinOp.andNot 28 (u6 ↑xs) (u6 ↑al)=z1,binV z2 BinOp.andNot 28 (u6 ↑ys) (u6 ↑al)=z1,binV z2 BinOp.and 28 (u6 ↑xs) (u6 ↑ys)=z1,((↑ys:Int)==(0:Int))=false,An [(↑z3:Int)=(0:Int),Tt],Tt])=_) ?_
 (repeat'(first|(with_reducible apply And.intro)|(refine fun(_:True)=>?_)))<;>first|exact aq|skip
 all_goals first|exact h1|exact h2|exact s1|exact s2|exact s3|(simp;omega)|skip
theorem lcode_ok(p j:List Nat)(xs ys:Nat){x:Es}(hx:EsG x)(hid:FnOk Pg g0 18 [ul p,ul j,u6 (xs:Nat),u6 (ys:Nat)] (.tup [esV x,hgV (0,0,0),i6 (0:Nat)])):
  FnOk Pg g0 7 [ul p,ul j,u6 (xs:Nat),u6 (ys:Nat)] (i6 (0:Nat)):=by
 have hp:=Qad p
 have hj:=Qad j
 obtain⟨k,v,l⟩:=x
 have hk:k≠0:=hx.2
 have hX:=Qah l
 have e:esV (.mk k v l)= .agg [i6 (k:Nat),u6 (v:Nat),.im l.length (esL l)]:=rfl
 rw[e]at hid
 generalize esL l=X at*
 clear hx e
 refine FnOk.of_vc vE_ok mixed Qab (n:=1000) (r:=[]) (S:={sl:=[(8,i6 (0:Nat))]}) (hs:=[fn 17 (.tup [.agg [i6 (k:Nat),u6 (v:Nat),.im l.length X],hgV (0,0,0),i6 (0:Nat)]),no 26]) ?_
 refine Eq.mp (by kernel_rfl:(An [Sm (i6 ↑(0:Nat)),TT 4,FnOk Try.prog g0 18 [V.im p.length (ut p),V.im j.length (ut j),u6 ↑xs,u6 ↑ys] (V.tup [V.agg [i6 ↑k,u6 ↑v,V.im l.length X],hgV (0,0,0),i6 ↑(0:Nat)]),Tt,((↑k:Int)==(0:Int))=false,An [Sm (↑(0:Nat):Int),Tt],Tt])=_) ?_
 (repeat'(first|(with_reducible apply And.intro)|(refine fun(_:True)=>?_)))<;>first|exact aq|skip
 all_goals first|exact hid|(simp;omega)|skip
theorem Qi6(p j:List Nat)(xs ys:Nat)(a b c:Nat)(ha:a≠0)(hid:FnOk Pg g0 18 [ul p,ul j,u6 (xs:Nat),u6 (ys:Nat)] (.tup [.agg [i6 0,u6 0,.nils],hgV (a,b,c),i6 (351:Nat)])):
  FnOk Pg g0 7 [ul p,ul j,u6 (xs:Nat),u6 (ys:Nat)] (i6 (351:Nat)):=by
 have hp:=Qad p
 have hj:=Qad j
 refine FnOk.of_vc vE_ok mixed Qab (n:=1000) (r:=[]) (S:={sl:=[(8,i6 (351:Nat))]}) (hs:=[fn 17 (.tup [.agg [i6 0,u6 0,.nils],hgV (a,b,c),i6 (351:Nat)]),yes 42]) ?_
 refine Eq.mp (by kernel_rfl:(let z0:=(351:Nat);An [Sm (i6 ↑z0),TT 4,FnOk Try.prog g0 18 [V.im p.length (ut p),V.im j.length (ut j),u6 ↑xs,u6 ↑ys] (V.tup [V.agg [i6 0,u6 0,V.nils],hgV (a,b,c),i6 ↑z0]),Tt,((↑a:Int) != (0:Int))=true,An [Sm (↑z0:Int),Tt],Tt])=_) ?_
 (repeat'(first|(with_reducible apply And.intro)|(refine fun(_:True)=>?_)))<;>first|exact aq|skip
 all_goals first|exact hid|(simp;omega)|skip
theorem Qe5(p j:List Nat)(xs ys:Nat)(e:Nat)(he:e≠0)(h2:e≠351)(hid:FnOk Pg g0 18 [ul p,ul j,u6 (xs:Nat),u6 (ys:Nat)] (.tup [.agg [i6 0,u6 0,.nils],hgV (0,0,0),i6 (e:Nat)])):
  FnOk Pg g0 7 [ul p,ul j,u6 (xs:Nat),u6 (ys:Nat)] (i6 (e:Nat)):=by
 have hp:=Qad p
 have hj:=Qad j
 refine FnOk.of_vc vE_ok mixed Qab (n:=1000) (r:=[]) (S:={sl:=[(8,i6 (e:Nat))]}) (hs:=[fn 17 (.tup [.agg [i6 0,u6 0,.nils],hgV (0,0,0),i6 (e:Nat)]),no 22,yes 30,no 39]) ?_
 refine Eq.mp (by kernel_rfl:(let z0:=(↑e:Int);An [Sm (i6 ↑e),TT 4,FnOk Try.prog g0 18 [V.im p.length (ut p),V.im j.length (ut j),u6 ↑xs,u6 ↑ys] (V.tup [V.agg [i6 0,u6 0,V.nils],hgV (0,0,0),i6 ↑e]),Tt,(z0==(0:Int))=false,(z0 != (0:Int))=true,(z0==(351:Int))=false,An [z0=z0,Tt],Tt])=_) ?_
 (repeat'(first|(with_reducible apply And.intro)|(refine fun(_:True)=>?_)))<;>first|exact aq|skip
 all_goals first|exact hid|(simp;omega)|skip
set_option maxHeartbeats 4000000
abbrev w8(n:Int):V:=.int .u8 n
def bt(l:List Nat):List V:=l.map fun(x:Nat)=>w8 (x:Int)
abbrev bl(l:List Nat):V:=.im l.length (bt l)
abbrev dfO(P Q:List Nat):O:=.row 24 none [bl P,bl Q]
end Go.Proofs.Ytbmegckcapfdkaa.Am
namespace Go.Proofs.Ytbmegckcapfdkaa.Am
open Go.RowKit
def Sub(a b:Nat):Prop:=∀i,a.testBit i=true→b.testBit i=true
theorem Qoc{x y:Nat}(hx:x<18446744073709551616)(hy:y<18446744073709551616):mi x y=0↔Sub x y:=by
 constructor
 ·intro h i hi
  have:=Qga hx hy i
  rw[h,hi,Nat.zero_testBit]at this
  cases hyi:y.testBit i with
  |true=>rfl
  |false=>rw[hyi]at this;cases this
 ·intro h
  refine bits0 fun i=>?_
  rw[Qga hx hy i]
  cases hi:x.testBit i with
  |false=>rfl
  |true=>rw[h i hi];rfl
theorem Qmk(n i:Nat):(alN n).testBit i=decide (i<n):=Nat.testBit_two_pow_sub_one n i
theorem bit_lt64{s v:Nat}(hs:s<18446744073709551616)(h:s.testBit v=true):v<64:=by
 refine Nat.lt_of_not_le fun hle=>?_
 rw[Nat.testBit_lt_two_pow (Nat.lt_of_lt_of_le (show s<2^64 from hs) (Nat.pow_le_pow_right (by decide) hle))]at h
 cases h
theorem Qoy{j:List Nat}{s:Nat}(hs:s<18446744073709551616): ∀k,Sub (reF j s k) s
 |0,i,h=>h
 |k+1,i,h=>by
  have hr:=Qgh (j:=j) hs k
  have e2:reF j s (k+1)=mi (reF j s k) (dkF j s k):=rfl
  rw[e2,Qga hr (Qdf hs k)]at h
  simp only[Bool.and_eq_true]at h
  exact Qoy hs k i h.1
section
variable {p j:List Nat} (g:GrOk p j)
include g
theorem al64:alN p.length<18446744073709551616:=Qhy (by have:=g.l5;omega)
variable {B c k0:Nat} (hB:Sub B (alN p.length)) (hk0:k0<rn j B) (hc:c=dkF j B k0)
include hB hk0 hc
end
theorem Qhc{ks:List Nat}{n:Nat}(hn:ks.Nodup)(hk: ∀k∈ks,k<n):ks.length≤n:=by
 have hp:((List.range n).filter (fun j=>decide (j∈ks))).Perm ks:=by
  refine(List.perm_ext_iff_of_nodup (List.Nodup.sublist List.filter_sublist List.nodup_range) hn).2 fun a=>?_
  simp only[List.mem_filter,List.mem_range,decide_eq_true_eq]
  exact⟨fun h=>h.2,fun h=>⟨hk a h,h⟩⟩
 rw[←hp.length_eq]
 calc _≤(List.range n).length:=List.length_filter_le _ _
  _=n:=List.length_range
theorem rn_le{j:List Nat}{s m:Nat}(hs:s<18446744073709551616)(hm: ∀i,s.testBit i=true→i<m):rn j s≤m:=by
 have key: ∀k,k≤rn j s→∃l:List Nat,l.Nodup∧l.length=k∧∀x∈l,s.testBit x=true∧(reF j s k).testBit x=false:=by
  intro k
  induction k with
  |zero=>intro _;exact⟨[],List.nodup_nil,rfl,fun x hx=>by cases hx⟩
  |succ k ih=>
   intro hk
   obtain⟨l,h1,h2,h3⟩:=ih (by omega)
   have h0:=(Ql0 (j:=j) hs).2 k (by omega)
   have hr:=Qgh (j:=j) hs k
   obtain⟨v,h64,hv,hvl,_⟩:=Qoa h0 hr
   have hd:(dkF j s k).testBit v=true:=Qmz (by rw[hvl];exact Nat.testBit_two_pow_self)
   have e2:reF j s (k+1)=mi (reF j s k) (dkF j s k):=rfl
   refine⟨v::l,List.nodup_cons.2 ⟨fun hm=>(by rw[(h3 v hm).2]at hv;cases hv),h1⟩,by simp[h2],fun x hx=>?_⟩
   rw[e2,Qga hr (Qdf hs k)]
   rcases List.mem_cons.1 hx with rfl|hx
   ·exact⟨Qoy hs k x hv,by rw[hd];simp⟩
   ·exact⟨(h3 x hx).1,by rw[(h3 x hx).2];rfl⟩
 obtain⟨l,h1,h2,h3⟩:=key _ (Nat.le_refl _)
 rw[←h2]
 exact Qhc h1 fun x hx=>hm x (h3 x hx).1
section
variable {p j:List Nat} (g:GrOk p j)
include g
theorem Qo2: ∀s,s<18446744073709551616→(rn j s+1)*rn j (alN p.length)≤1000:=by
 intro s hs
 have h1:rn j s≤64:=rn_le hs fun i hi=>bit_lt64 hs hi
 have h2:rn j (alN p.length)≤p.length:=rn_le (al64 g) fun i hi=>by rw[Qmk]at hi;exact of_decide_eq_true hi
 have h5:=g.l5
 have:=Nat.mul_le_mul (show rn j s+1≤65 by omega) (show rn j (alN p.length)≤5 by omega)
 omega
def SoOk(n:Nat)(x:Nat×List Nat):Prop:=x.2.Nodup∧(∀y∈x.2,y<n)∧SetOf x.2 x.1
theorem Qo8{x:Nat×List Nat}(hx:SoOk p.length x): ∀k,k≤p.length→SoOk p.length (soP p k x)∧x.2.length≤(soP p k x).2.length∧Sub x.1 (soP p k x).1∧(∀i,k≤i→(soP p k x).1.testBit i=x.1.testBit i)
 |0,_=>⟨hx,Nat.le_refl _,fun i h=>h,fun i _=>rfl⟩
 | k + 1, hk => by
  obtain⟨⟨h1,h2,h3⟩,h4,h5,h6⟩:=Qo8 hx k (by omega)
  unfold soP
  split
  ·rename_i hc
   refine⟨⟨?_,fun z hz=>?_,h3.put⟩,by simp;omega,fun i hi=>by rw[Nat.testBit_or,h5 i hi];rfl,fun i hi=>?_⟩
   ·dsimp only
    rw[List.nodup_append]
    refine⟨h1,by simp,fun a ha b hb e=>?_⟩
    obtain rfl:=List.mem_singleton.1 hb
    subst e
    exact hc.1 (by rw[h3 a];exact decide_eq_true ha)
   ·rcases List.mem_append.1 hz with hz | hz
    ·exact h2 z hz
    ·obtain rfl:=List.mem_singleton.1 hz;omega
   ·dsimp only
    rw[Nat.testBit_or,Nat.testBit_two_pow,decide_eq_false (by omega),Bool.or_false]
    exact h6 i (by omega)
  ·exact⟨⟨h1,h2,h3⟩,h4,h5,fun i hi=>h6 i (by omega)⟩
theorem Qhl{x:Nat×List Nat}(hx:SoOk p.length x):x.1<18446744073709551616:=by
 have:=hx.2.2.lt hx.2.1
 have h5:=g.l5
 have:2^p.length≤2^5:=Nat.pow_le_pow_right (by decide) h5
 omega
theorem Qk5{x:Nat×List Nat}(hx:SoOk p.length x){u:Nat}(hu:u<p.length)(hok:okN p x.1 u): ∀k,u<k→k≤p.length→x.2.length<(soP p k x).2.length
 |0,h,_=>absurd h (Nat.not_lt_zero _)
 | k + 1, h, hk => by
  obtain⟨⟨h1,h2,h3⟩,h4,h5,h6⟩:=Qo8 g hx k (by omega)
  by_cases huk:u=k
  ·subst huk
   have hc: ¬(soP p u x).1.testBit u=true∧mi (p.getD u 0) (soP p u x).1=0:=by
    refine⟨by rw[h6 u (Nat.le_refl _),hok.1];simp,?_⟩
    have h64:=g.p64.get u
    rw[Qoc h64 (Qhl g ⟨h1,h2,h3⟩)]
    exact fun i hi=>h5 i ((Qoc h64 (Qhl g hx)).1 hok.2 i hi)
   unfold soP
   rw[if_pos hc]
   simp;omega
  ·have ih := Qk5 hx hu hok k (by omega) (by omega)
   unfold soP
   split
   ·simp;omega
   ·exact ih
theorem soW_some: ∀(f:Nat)(x:Nat×List Nat),SoOk p.length x→p.length-x.2.length≤f→∃y,soW p f x=some y∧SoOk p.length y:=by
 intro f
 have full: ∀x:Nat×List Nat,SoOk p.length x→x.1≠alN p.length→∃v,v<p.length∧x.1.testBit v=false:=by
  intro x hx hne
  by_cases h: ∃v,v<p.length∧x.1.testBit v=false
  ·exact h
  ·refine absurd (Nat.eq_of_testBit_eq fun i => ?_) hne
   rw[Qmk]
   by_cases hi:i<p.length
   ·rw [decide_eq_true hi]
    cases hb:x.1.testBit i with
    |true=>rfl
    |false=>exact absurd ⟨i,hi,hb⟩ h
   ·rw [decide_eq_false hi, hx.2.2 i]
    exact decide_eq_false fun hm=>hi (hx.2.1 i hm)
 induction f with
 | zero =>
  intro x hx hlen
  by_cases he:x.1=alN p.length
  ·exact⟨x,by rw[soW,if_pos he],hx⟩
  ·obtain ⟨v, hv, hb⟩ := full x hx he
   rw[hx.2.2 v]at hb
   have:=Qhc (ks:=v::x.2) (n:=p.length) (List.nodup_cons.2 ⟨of_decide_eq_false hb,hx.1⟩) (fun z hz=>by
    rcases List.mem_cons.1 hz with rfl|hz
    ·exact hv
    ·exact hx.2.1 z hz)
   simp at this
   omega
 | succ f ih =>
  intro x hx hlen
  by_cases he:x.1=alN p.length
  ·exact⟨x,by rw[soW,if_pos he],hx⟩
  ·obtain ⟨v, hv, hb⟩ := full x hx he
   obtain⟨u,hu,hok,_⟩:=Qj0 g.acy g.p64 (Qhl g hx) ⟨v,hv,hb⟩
   have h1:=Qk5 g hx hu hok p.length hu (Nat.le_refl _)
   obtain⟨y,hy,hyo⟩:=ih (soP p p.length x) (Qo8 g hx p.length (Nat.le_refl _)).1 (by omega)
   exact⟨y,by rw[soW,if_neg he];exact hy,hyo⟩
theorem order_ok: ∃y,soW p 5 (0,[])=some y∧SoOk p.length y:=
 soW_some g 5 (0,[]) ⟨List.nodup_nil,fun y hy=>(by cases hy),fun b=>(by simp)⟩ (by have:=g.l5;simp only[List.length_nil];omega)
end
def askB(p:List Nat)(xs ys:Nat):Nat:=clo (ys&&& mi (alN p.length) xs) (mi (alN p.length) xs) p
section
variable {p j:List Nat} (g:GrOk p j) {xs ys:Nat} (hq:Qma p.length xs ys)
include g hq
def AbOk(p j:List Nat)(xs ys:Nat):Prop:=∀k0 k1,k0<rn j (askB p xs ys)→k1<rn j (alN p.length)→Sub (dkF j (askB p xs ys) k0) (dkF j (alN p.length) k1)→Sub (abF p (dkF j (askB p xs ys) k0) (dkF j (alN p.length) k1)) (askB p xs ys)
variable (hab:AbOk p j xs ys)
include hab
end
section
variable {p j:List Nat} (g:GrOk p j) {xs ys:Nat} (hq:Qma p.length xs ys)
include g
include hq
end
set_option maxHeartbeats 1000000
set_option maxRecDepth 100000
section
variable {p j:List Nat} (g:GrOk p j)
include g
end
set_option maxHeartbeats 1000000
set_option maxRecDepth 100000
section
variable {p j:List Nat} (g:GrOk p j) (x y:Nat) (hx:x<18446744073709551616) (hy:y<18446744073709551616)
include g hx hy
end
open Go.RowKit Go.ChangeShapes Go.WideShapes
set_option maxRecDepth 100000
def allB(w:World)(b:Nat):Prop:=b<w.heap.size
section
variable {H:Type} {enc:TypeId×Value→H} {w:World}
end
theorem Qn6{f:Nat}{ars:List V}{b:Bool}(h:FnOk Pg g0 f ars (.bool b))(hf:(codeOf Pg f).isSome=true){w:World}{vals:Array Value}(ha:RL (sg (allB w)) w ars vals.toList):Calls Pg f vals w fun e w'=>e= .returned (.bool b)∧Below w.heap.size w w':=by
 obtain⟨fi,hfi⟩:=Option.isSome_iff_exists.1 hf
 obtain⟨next,e1,e2,e3⟩:=h.1 (sg (allB w)) w (.func (.func f) #[] #[]) vals ⟨#[],rfl,rfl⟩ ha (Qja (fun b hb=>hb.elim id False.elim)) no_gl (fun _ _ h=>h)
 have hn:next= .enter f vals:=by
  have:=(vE_ok.code f fi hfi)
  obtain⟨fn,f1,f2,f3,f4,f5⟩:=this
  have:=f5 vals w
  simp[Deferred.ofValue,invoke,this]at e1
  exact e1.symm
 subst hn
 refine(callsIn_wide.1 e2).mono ?_
 rintro e w' ⟨u,s',rfl,g1,g2,g3,_⟩
 obtain rfl:u= .bool b:=g1
 exact⟨rfl,g3.mod.os,g3.mod.tape,g3.mod.output,g3.mod.size,fun k hk=>g3.mod.block k hk (fun⟨_,hm,_⟩=>by cases hm)⟩
variable {P:Program}
inductive Chain(P:Program)(E:Env)(gl:T (List V))(res:List ResultVar)(nx:Nat)(Z:V→T O→Nat→List Nat→Prop):(St→Prop)→Code→Prop
 |more {R R':St→Prop} {c2 X:Code} (h: ∀st,R st→Sat P none nx c2 st (fun e st'=>(e= .normal∧st'.tm.gl=gl∧R' st')∨(e= .ret∧∃v,retV E.G st'.tm st'.H res=some v∧Z v st'.H st'.nx st'.lg))) (k:Chain P E gl res nx Z R' X):Chain P E gl res nx Z R (.seq c2 X)
 |last {R:St→Prop} {id:Nat} {ops:Array Oper} {rest:Code} (h: ∀st,R st→∃(st3:St)(g:Nat)(dcaps dars:List V)(call:Qag)(i:Nat)(o:Oper)(c:Call)(fo:Operand)(fg:FI),Qax P gl call∧seqR E call ops (ops.toList.take i) st=some st3∧ops[i]? =some o∧wantedV st3.tm ops o=some true∧o.op= .defer c∧c.callee= .value fo∧ev st3.tm fo=some (.fn g dcaps)∧evs st3.tm c.args.toList=some dars∧i+1=ops.size∧o.dst=none∧E.code g=some fg∧st3.tm.gl=gl∧
Sat P none st3.nx rest ⟨st3.tm,st3.H,st3.nx,[]⟩ (fun e st4=>Qmb P E gl g dcaps dars res (fun v H' nx' lg'=>Z v H' nx' (lg'++st3.lg)) e st4)):Chain P E gl res nx Z R (.seq (.region id ops false) rest)
theorem CallSpec.guardC {E : Env} (hE : E.Ok P) {gl : T (List V)} {f : Nat} {caps ars : List V} {H : T O} {nx : Nat} {r : CR} {fi : FI} (hfi : E.code f = some fi) (hle : Nat.ble (ars ++ caps).length fi.ntmps = true) (hlog : Log H.get nx r.H.get r.nx r.lg)
  {Z:V→T O→Nat→List Nat→Prop}
  (hZ: ∀v H' nx' lg',Z v H' nx' lg'→∀(s:Sig)(w:World)(ee:Ending)(w':World),RH s w H.get→(∀i,nx≤i→¬s.dom i)→CPost s w nx ⟨v,H',nx',lg'⟩ ee w'→CPost s w nx r ee w')
  (hch:Chain P E gl fi.res nx Z (fun st=>st=⟨⟨putAll (blank fi.ntmps) 0 (ars++caps),gl,fi.ntmps⟩,H,nx,[]⟩) fi.body):CallSpec P gl (.fn f caps) ars H nx r:=by
 refine⟨fun s w fv vals hc hargs hH hgl hn=>?_,hlog⟩
 obtain⟨vs,rfl,hcaps⟩:=hc
 have hrun: ∀x:Result Next,(callFunc f (vals++vs)).run P w=x→((do let d←Deferred.ofValue (.func (.func f) #[] vs) vals;invoke d.target d.args):Sem Next).run P w=x:=by
  intro x hx;simp[Deferred.ofValue,invoke,hx]
 obtain⟨fn,f1,f2,f3,f4,f5⟩:=hE.code f fi hfi
 refine⟨_,hrun _ (f5 _ w),?_,fun _=>⟨_,_,rfl⟩⟩
 have A0:=Qce hE hfi hle hcaps hargs hH hgl hn []
 refine callsIn_of_wp_marks (F:=Fence.wide) (n:=4) f1 f2 trivial (Qa5 (n:=5) (l:=none) ?_)
 rw[f3]
 -- a frame that leaves with marks alone
 have leave: ∀(Ds:List Nat)(tm:TM)(H':T O)(nx':Nat)(lg':List Nat)(s':Sig)(w':World)(a':Act)(v:V),a'.defers=Ds.map Qbe→Ds.Nodup→(∀D∈Ds,DOk w.heap.size s' w' D)→RH s' w' H'.get→RT s' w' tm a'.tmps→Step s w s' w' lg'→(∀i,s'.dom i↔s.dom i∨nx≤i∧i<nx')→nx≤nx'→
   retV E.G tm H' fi.res=some v→Z v H' nx' lg'→∀Ds':List Nat,Ds'.Nodup→(∀D∈Ds',D∈Ds)→LeavesInM Fence.wide 4 P fn a'.tmps (CPost s w nx r) (Ds'.map Qbe++[]) .returning w':=by
  intro Ds tm H' nx' lg' s' w' a' v hd hnd hdk hH' hT hs hdom hnx hret hz Ds' hnd' hsub
  refine Qa2 (F:=Fence.wide) (by simp) Ds' w' hnd' (fun D hD=>(hdk D (hsub D hD)).2.2.1) (fun w'' g1 g2 g3 g4 g5=>?_)
  have A:Ats ⟨w.heap.size,[],[]⟩ s w nx ⟨tm,H',nx',lg'⟩ s' w' {a' with defers:=Ds.map Qbe}:=⟨⟨hH',hT,fun i hi hdm=>by
   rcases(hdom i).1 hdm with h|h
   ·exact hn i (Nat.le_trans hnx hi) h
   ·dsimp only at hi;omega,Ds,by simp,by simpa using hnd,by simpa using hdk⟩,hs,hdom,hnx⟩
  obtain⟨k1,k2,k3⟩:=A.unmarked (Ds:=Ds') (Nat.le_refl _) (fun D hD=>hdk D (hsub D hD)) g1 g2 g3 g4 g5 hH.old
  rw[←f4]at hret
  obtain⟨u,v1,v2⟩:=Qdo (P:=P) hE.G k1 (hT.mono (Sig.Le.refl s') k3) rfl hret
  exact⟨u,v2,hZ _ _ _ _ hz s w _ _ hH hn ⟨u,s',rfl,v1,k1,k2,hdom,hnx⟩⟩
 have main : ∀ (R : St → Prop) (X : Code), Chain P E gl fi.res nx Z R X → ∀ st2, R st2 → st2.tm.gl = gl → ∀ (s2 : Sig) (w2 : World) (a2 : Act), Ats ⟨w.heap.size, [], []⟩ s w nx st2 s2 w2 a2 → X.wpIn (FF none) 5 P (bodyPostM Fence.wide 4 P fn (CPost s w nx r)) a2 w2 := by
  intro R X hch
  induction hch with
  | @more R R' c2 X h k ih =>
   intro st1 hr1 hg1 s1 w1 a1 A1
   refine wpIn_seq (h st1 hr1 _ s w s1 w1 a1 hn (Nat.le_refl _) (fun h e=>by cases e) A1 _ ?_)
   rintro e st2 (⟨rfl,hg2,hr2⟩|⟨rfl,v,hret,hz⟩) s2 w2 a2 A2
   ·exact ih st2 hr2 hg2 s2 w2 a2 A2
   ·skip
    obtain⟨Ds,d1,d2,d3⟩:=A2.rel.df
    have d2:=(List.nodup_append.1 d2).1
    have d3:=fun D(hD:D∈Ds)=>d3 D (List.mem_append.2 (.inl hD))
    show LeavesInM Fence.wide 4 P fn a2.tmps (CPost s w nx r) a2.defers .returning w2
    rw[d1]
    have:=leave Ds st2.tm st2.H st2.nx st2.lg s2 w2 {a2 with defers:=Ds.map Qbe} v rfl d2 d3 A2.rel.rh A2.rel.rt A2.step A2.dom A2.le hret hz Ds d2 (fun D hD=>hD)
    exact this
  | @last R id ops rest h =>
   intro st2 hr2 hg2 s2 w2 a2 A2
   obtain⟨st3,g,dcaps,dars,call,i,o,c,fo,fg,q1,q2,q3,q4,q5,q6,q7,q8,q9,q10,q11,q12,q13⟩:=h st2 hr2
   refine wpIn_seq ?_
   refine wpIn_region ?_
   have hlen:(ops.toList.take i).length=i:=by rw[List.length_take,Array.length_toList];omega
   have hsp:List.range ops.size=List.range' 0 (ops.toList.take i).length++[i]:=by
    rw[hlen,List.range_eq_range',←q9,List.range'_1_concat];simp
   rw[hsp]
   refine Qdt _ _ _ ?_
   refine Qd7 hE.G hE.ext (gl:=gl) q1 (l:=none) (ops.toList.take i) 0 st2 st3 s2 w2 a2 (fun j hj=>?_) q2 hg2 A2.rel ?_
   ·rw [hlen] at hj
    rw[List.getElem?_take_of_lt hj,Array.getElem?_toList,Nat.zero_add]
   ·rintro a3 w3 ⟨lg3, s3, W3⟩
    have A3:=A2.went W3
    show wpOpsIn _ _ _ _ _ _ _ _
    rw[wpOpsIn_cons]
    unfold wpOpIn
    rw[q3]
    dsimp only
    rw[if_pos (Qal A3.rel.rt q4)]
    refine Qj9 (l:=none) rfl q5 q6 A3.rel.rt q7 q8 (fun dvs dvals hdc hda=>?_)
    obtain⟨Ds0,d1,d2,d3⟩:=A3.rel.df
    have d2:=(List.nodup_append.1 d2).1
    have d3:=fun D(hD:D∈Ds0)=>d3 D (List.mem_append.2 (.inl hD))
    rw[List.append_nil]at d1
    have hnx3:=A3.rel.nx
    -- the rest, in a frame of its own reckoning
    have A3':Ats ⟨w3.heap.size,{target:=.fn (.func g) dvs,args:=dvals}::Ds0.map Qbe,[]⟩ s3 w3 st3.nx ⟨st3.tm,st3.H,st3.nx,[]⟩ s3 w3 ({a3 with defers:={target:=.fn (.func g) dvs,args:=dvals}::a3.defers}.put o.dst undef):=by
     rw[q10]
     exact⟨⟨A3.rel.rh,A3.rel.rt,hnx3,[],by show _::a3.defers=_;rw[d1];rfl,List.nodup_nil,fun D hD=>by simp at hD⟩,Step.refl s3 w3 [],dom_same s3 _,Nat.le_refl _⟩
    show wpOpsIn (FF none) 5 P ops _ [] _ w3
    show Code.wpIn _ _ _ _ _ _ _
    refine q13 _ s3 w3 s3 w3 _ hnx3 (Nat.le_refl _) (fun h e=>by cases e) A3' _ ?_
    rintro e st4 ⟨pan,r4,hpan,hdef,v,hret,hz⟩ s4 w4 a4 A4
    -- the frame leaves: its own marks, the closure, the marks ahead of it
    have key : ∀ (u : Value), (∀ x, pan = some x → ∀ s2 w2, RV s2 w2 x u) → LeavesInM Fence.wide 4 P fn a4.tmps (CPost s w nx r) a4.defers (defMode pan false u) w4 := by
     intro u hu
     obtain⟨Ds4,e1,e2,e3⟩:=A4.rel.df
     have e2:=(List.nodup_append.1 e2).1
     have e3:=fun D(hD:D∈Ds4)=>e3 D (List.mem_append.2 (.inl hD))
     rw[e1]
     refine Qa2 (F:=Fence.wide) (Qct _ _ _) Ds4 w4 e2 (fun D hD=>(e3 D hD).2.2.1) (fun w5 g1 g2 g3 g4 g5=>?_)
     obtain⟨k1,k2,k3⟩:=A4.unmarked (Ds:=Ds4) (Nat.le_refl _) e3 g1 g2 g3 g4 g5 A3.rel.rh.old
     have hgl4:GL s4 w5 gl:=by
      have:RT s4 w5 st3.tm a3.tmps:=A3.rel.rt.mono k2.le k2.k
      rw[←q12];exact this.2.2
     obtain⟨fng,y1,y2,y3,y4,y5⟩:=hE.code g fg q11
     have hcl:=hdef s4 w5 dvs dvals u (RL.mono k2.le k2.k _ _ hdc) (RL.mono k2.le k2.k _ _ hda) k1 hgl4 A4.rel.nx hu
     refine⟨Qct _ _ _,.inr ⟨fun h=>(by cases h),.func g,dvs,g,dvals++dvs,rfl,by simp[invoke,y5],fun _ _=>trivial,hcl.mono ?_⟩⟩
     rintro ee u' w6 ⟨⟨uu,s6,rfl,_,z2,z3,z4,z5⟩,rfl⟩
     show LeavesInM Fence.wide 4 P fn a4.tmps (CPost s w nx r) (Ds0.map Qbe) (settle (defMode pan true u)) w6
     rw[Qgm]
     have hs36:Step s3 w3 s6 w6 (r4.lg++st4.lg):=(k2.trans z3).more (fun x hx=>by rw[List.mem_append]at hx⊢;exact hx.symm)
     have hdom6: ∀i,s6.dom i↔s.dom i∨nx≤i∧i<r4.nx:=fun i=>by
      rw[z4,A4.dom,A3.dom]
      have b1:=A3.le
      have b2:=A4.le
      constructor
      ·rintro ((h | h) | h)
       ·exact h.imp (fun h=>h) (fun h=>⟨h.1,by omega⟩)
       ·exact .inr ⟨by omega,by omega⟩
       ·exact .inr ⟨by omega,h.2⟩
      ·rintro (h | h)
       ·exact .inl (.inl (.inl h))
       ·by_cases h3 : i < st3.nx
        ·exact .inl (.inl (.inr ⟨h.1,h3⟩))
        ·by_cases h4 : i < st4.nx
         ·exact .inl (.inr ⟨by omega,h4⟩)
         ·exact .inr ⟨by omega,h.2⟩
     have:=leave Ds0 st4.tm r4.H r4.nx (r4.lg++st4.lg++st3.lg) s6 w6 {a4 with defers:=Ds0.map Qbe} v rfl d2 (fun D hD=>(d3 D hD).step hs36) z2 (A4.rel.rt.mono (Sig.Le.refl s4) k3 |>.mono z3.le z3.k) ((A3.step.trans hs36).more (fun x hx=>by simp only[List.mem_append]at hx⊢;rcases hx with h|h|h<;>simp[h])) hdom6 (Nat.le_trans A3.le (Nat.le_trans A4.le z5)) hret hz Ds0 d2 (fun D hD=>hD)
     rw[List.append_nil]at this
     exact this
    rcases hpan with⟨rfl|rfl,rfl⟩|⟨x,rfl,rfl⟩
    ·exact key .nilIface (fun x e=>by cases e)
    ·exact key .nilIface (fun x e=>by cases e)
    ·exact fun u hu=>key u (fun x' e=>by cases e;exact hu)
 exact main _ _ hch _ rfl rfl _ _ _ A0
set_option maxHeartbeats 1000000
set_option maxRecDepth 100000
theorem Sat.of_exec{n nx0:Nat}{c:Code}{st st':St}{e:Ex}(he:e= .normal∨e= .ret)(h:exec vE n none c st=some [(e,st')]){R:Ex→St→Prop}(hR:R e st'):Sat Pg none nx0 c st R:=by
 intro B s0 w0 s w a hn hB hrd A Q hQ
 have hB':B.n≤w.heap.size:=Nat.le_trans hB A.step.mod.size
 refine(Qbh vE_ok mixed n).one none c st st' e s w a B h A.rel hB' (fun h e=>by cases e) Q (fun a' w'⟨lg,s',W⟩=>?_)
 have h1:=hQ e st' hR s' w' a' (A.went W)
 rcases he with rfl|rfl<;>exact h1
noncomputable def gPre(n:Nat):Nat→Code→St→Option (St×Array Oper×Code)
 |0,X,st=>match X with
  | .seq (.region _ ops false) rest=>some (st,ops,rest)
  | _=>none
 | k + 1, X, st => match X with
  | .seq c Y => match exec vE n none c st with
   |some [(.normal,st')]=>match st'.tm.gl with
    | .e=>gPre n k Y st'
    | _=>none
   | _=>none
  | _=>none
noncomputable def gEnd(n f g:Nat)(res:List ResultVar):Option (St×Array Oper×Code)→Option V
 | some (st, ops, rest) => match seqR vE (tbl []) ops (ops.toList.take 1) st, ops[1]? with
  | some st3, some o => match wantedV st3.tm ops o, o.op, st3.tm.gl with
   | some true, .defer c, .e => match c.callee, c.args.toList, o.dst with
    | .value fo, [], none => match ev st3.tm fo with
     |some (.fn g' [.ptr a 0,.ptr b 0])=>bif Nat.beq g' g&&Nat.beq ops.size 2&&Nat.beq a 2&&Nat.beq b 3 then(match exec vE n none rest ⟨st3.tm,st3.H,st3.nx,[]⟩with
      |some [(.ret,st4)]=>retV vE.G st4.tm st4.H res
      | _=>none)else none
     | _=>none
    | _,_,_=>none
   | _,_,_=>none
  | _,_=>none
 |none=>none
noncomputable def gRun(n k f g:Nat)(ars:List V)(res:List ResultVar):Option V:=match vE.code f with
 |some fi=>gEnd n f g res (gPre n k fi.body ⟨⟨putAll (blank fi.ntmps) 0 (ars++[]),g0,fi.ntmps⟩,.e,0,[]⟩)
 |none=>none
noncomputable def df2:Array Oper:=rgOps (at' 29 [0])
theorem Qee: ∃fg,vE.code 29=some fg∧fg.body= .seq (at' 29 [0]) (at' 29 [1])∧fg.ntmps=17∧fg.res=[]:=by
 have e1:(vE.code 29).map (·.body)=some (.seq (at' 29 [0]) (at' 29 [1])):=by kernel_rfl
 have e2:(vE.code 29).map (·.ntmps)=some 17:=by kernel_rfl
 have e3:(vE.code 29).map (·.res)=some []:=by kernel_rfl
 cases hfi:vE.code 29 with
 |none=>rw[hfi]at e1;cases e1
 |some fi=>
  rw[hfi]at e1 e2 e3
  exact⟨fi,rfl,Option.some.inj e1,Option.some.inj e2,Option.some.inj e3⟩
theorem df2_eq:at' 29 [0]= .region (rgId (at' 29 [0])) df2 false:=by kernel_rfl
abbrev dc2:List V:=[.ptr 2 0,.ptr 3 0]
noncomputable abbrev df2T(x:V):TM:=((⟨putAll (blank 17) 0 dc2,g0,17⟩:TM).put (some 5) x).put (some 2) x
theorem df2_none(H:T O)(nx:Nat):DefSpec Pg g0 29 dc2 [] H nx none ⟨.tup [],H,nx,[]⟩:=by
 obtain⟨fg,h1,h2,h3,h4⟩:=Qee
 refine DefSpec.of vE_ok (os:=[df2.getD 1 default]) (o:=df2.getD 0 default) (tm1:=df2T .nili) h1 (by rw[h3];rfl) (by rw[h2,df2_eq]) (by kernel_rfl) (by kernel_rfl) (c:=_) rfl rfl (by rw[h3];kernel_rfl) ?_
 rw[h4]
 have hv:vc Pg vE sp0 none nx 1000 (at' 29 [1]) [] (mkSo g0 17 [(2,.nili)] H nx []) (Qie H nx []):=by
  refine Eq.mp (by kernel_rfl:(An [H=H,nx=nx,([]:List Nat)=[]])=_) ?_
  (repeat'(first|(with_reducible apply And.intro)|(refine fun(_:True)=>?_)))
  all_goals first|rfl|exact trivial|skip
 refine Sat.fewer (sl:=[(2,.nili)]) ⟨rfl,trivial⟩ ?_
 refine Sat.of_vc vE_ok mixed Qab rfl hv fun e hs' st' hgl hk=>?_
 unfold Qie at hk
 split at hk
 ·exact⟨.inl rfl,rfl,hk.1,hk.2.1,hk.2.2⟩
 ·exact hk.elim
theorem Qb4 {n k f : Nat} {ars : List V} {res : List ResultVar} {v : V} (hv : Hf v) (hb : ∀ fi, vE.code f = some fi → fi.res = res ∧ Nat.ble ars.length fi.ntmps = true) (h : gRun n k f 29 ars res = some v) : FnOk Pg g0 f ars v := by
 unfold gRun at h
 split at h
 ·rename_i fi hfi
  obtain⟨hr,hn⟩:=hb fi hfi
  refine CallSpec.guardC vE_ok hfi (by rw[List.append_nil];exact hn) (Log.refl _ _ _) (Z:=fun u _ _ _=>u=v) ?_ ?_
  ·rintro u H' nx' lg' rfl s w ee w' hH hn ⟨x, s', h1, g1, g2, g3, _, _⟩
   subst h1
   obtain⟨s'',q1,q2,q3,q4⟩:=Qaz hH g1 hv g3 (fun h _=>hn h (Nat.zero_le _)) (fun b hb=>g2.old b (.inl hb))
   exact⟨x,s'',rfl,q1,q2,q3,fun i=>by rw[q4];exact dom_same s _ i,Nat.le_refl _⟩
  ·have key : ∀ (k : Nat) (X : Code) (st : St), gEnd n f 29 res (gPre n k X st) = some v → Chain Pg vE g0 fi.res 0 (fun u _ _ _ => u = v) (fun st' => st' = st) X := by
    intro k
    induction k with
    | zero =>
     intro X st h
     unfold gPre at h
     split at h
     ·rename_i id ops rest
      refine Chain.last fun st' e=>?_
      subst e
      unfold gEnd at h
      dsimp only at h
      split at h
      ·rename_i st3 o e1 e2
       split at h
       ·rename_i c e3 e4 e5
        split at h
        ·rename_i fo e6 e7 e8
         split at h
         ·rename_i g' a b e9
          obtain⟨hb1,h⟩:=Qaf h
          simp only[Bool.and_eq_true]at hb1
          obtain⟨⟨⟨b1,b2⟩,b3⟩,b4⟩:=hb1
          have b1:=Nat.eq_of_beq_eq_true b1
          have b2:=Nat.eq_of_beq_eq_true b2
          have b3:=Nat.eq_of_beq_eq_true b3
          have b4:=Nat.eq_of_beq_eq_true b4
          subst b1 b3 b4
          split at h
          ·rename_i st4 e10
           obtain⟨fg,hg1,_⟩:=Qee
           refine⟨st3,_,dc2,[],tbl [],1,o,c,fo,fg,TblOk.nil.call,e1,e2,e3,e4,e6,e9,by rw[e7];rfl,by rw[b2],e8,hg1,e5,?_⟩
           exact Sat.of_exec (.inr rfl) e10 ⟨none,⟨.tup [],st4.H,st4.nx,[]⟩,.inl ⟨.inr rfl,rfl⟩,df2_none _ _,v,by rw[hr];rw[b2]at h;exact h,rfl⟩
          ·rw[b2]at h;cases h
         ·cases h
        ·cases h
       ·cases h
      ·cases h
     ·cases h
    | succ k ih =>
     intro X st h
     unfold gPre at h
     split at h
     ·rename_i c Y
      split at h
      ·rename_i st' e1
       split at h
       ·rename_i e2
        refine Chain.more (R':=fun s=>s=st') (fun s e=>?_) (ih Y st' h)
        subst e
        exact Sat.of_exec (.inl rfl) e1 (.inl ⟨rfl,e2,rfl⟩)
       ·cases h
      ·cases h
     ·cases h
   exact key k _ _ h
 ·cases h
abbrev evR:List ResultVar:=[.cell 6 49,.cell 7 33]
theorem Qa9: ∀fi,vE.code 12=some fi→fi.res=evR∧Nat.ble 3 fi.ntmps=true:=by
 have e2:(vE.code 12).map (fun fi=>Nat.ble 3 fi.ntmps)=some true:=by kernel_rfl
 have e3:(vE.code 12).map (·.res)=some evR:=by kernel_rfl
 intro fi hfi
 rw[hfi]at e2 e3
 exact⟨Option.some.inj e3,Option.some.inj e2⟩
abbrev faV:V:=.agg [il [0,1],il [2,2],il [3,1,1,3]]
abbrev qV(a b:Int)(e:Nat):V:=.tup [.agg [i6 a,i6 b],i6 (e:Nat)]
theorem ev_1:FnOk Pg g0 12 [faV,esV (.mk 1 1 []),il [0,0]] (qV 1 2 0):=
 Qb4 (n:=100000) (k:=9) (res:=evR) ⟨⟨trivial,trivial,trivial⟩,trivial,trivial⟩ Qa9 (by kernel_rfl)
theorem ev_2:FnOk Pg g0 12 [faV,esV (.mk 4 0 [.mk 1 3 [],.mk 1 1 []]),il [0,1]] (qV 1 4 0):=
 Qb4 (n:=100000) (k:=9) (res:=evR) ⟨⟨trivial,trivial,trivial⟩,trivial,trivial⟩ Qa9 (by kernel_rfl)
theorem ev_3:FnOk Pg g0 12 [faV,esV (.mk 2 2 [.mk 1 2 []]),il [0,0]] (qV 1 1 0):=
 Qb4 (n:=100000) (k:=9) (res:=evR) ⟨⟨trivial,trivial,trivial⟩,trivial,trivial⟩ Qa9 (by kernel_rfl)
theorem ev_4:FnOk Pg g0 12 [faV,esV (.mk 3 0 []),il [0,0]] (qV 1 1 0):=
 Qb4 (n:=100000) (k:=9) (res:=evR) ⟨⟨trivial,trivial,trivial⟩,trivial,trivial⟩ Qa9 (by kernel_rfl)
theorem Qif(n:Nat)(A:List V)(hA:HfL A):FnOk Pg g0 10 [.im n A] (.agg [i6 (3:Nat),u6 (0:Nat),.im n A]):=by
 refine FnOk.of_vc vE_ok mixed Qab (n:=1000) (r:=[0]) (S:={sl:=[(2,.ptr 0 0)],os:=[.row 43 none [i6 (3:Nat),u6 (0:Nat),.im n A]],md:=[1]}) (hs:=[]) ?_
 refine Eq.mp (by kernel_rfl:(An [Sm (V.agg [i6 ↑(3:Nat),u6 ↑(0:Nat),V.im n A]),An [Zz,Tt],An [(↑(3:Nat):Int)=(3:Int),(↑(0:Nat):Int)=(0:Int),An [n=n,A=A],Tt],Tt])=_) ?_
 (repeat'(first|(with_reducible apply And.intro)|(refine fun(_:True)=>?_)))<;>first|exact aq|skip
 all_goals skip
def grB(p j:List Nat)(rk:Nat→Nat):Bool:=
 Nat.ble 1 p.length&&Nat.ble p.length 5&&Nat.beq j.length p.length&&p.all (fun x=>Nat.blt x (2^p.length))&&j.all (fun x=>Nat.blt x (2^p.length))&&
 (List.range p.length).all fun u=>(List.range p.length).all fun v=>(!(p.getD u 0).testBit v||Nat.blt (rk v) (rk u))&&((j.getD u 0).testBit v==(j.getD v 0).testBit u)&& !(j.getD u 0).testBit u
theorem Qf8{p j:List Nat}{rk:Nat→Nat}(h:grB p j rk=true):GrOk p j:=by
 unfold grB at h
 simp only[Bool.and_eq_true,List.all_eq_true,List.mem_range]at h
 obtain⟨⟨⟨⟨⟨h1,h2⟩,h3⟩,h4⟩,h5⟩,h6⟩:=h
 have h1:=Nat.le_of_ble_eq_true h1
 have h2:=Nat.le_of_ble_eq_true h2
 have h3:=Nat.eq_of_beq_eq_true h3
 have h4: ∀x∈p,x<2^p.length:=fun x hx=>Nat.le_of_ble_eq_true (h4 x hx)
 have h5: ∀x∈j,x<2^p.length:=fun x hx=>Nat.le_of_ble_eq_true (h5 x hx)
 have hb:2^p.length≤32:=Nat.pow_le_pow_right (n:=2) (by decide) h2
 have hp: ∀k,p.getD k 0<2^p.length:=fun k=>by
  rw[List.getD_eq_getElem?_getD]
  cases hx:p[k]? with
  |none=>exact Nat.pow_pos (by decide)
  |some x=>exact h4 x (List.mem_of_getElem? hx)
 have hj: ∀k,j.getD k 0<2^p.length:=fun k=>by
  rw[List.getD_eq_getElem?_getD]
  cases hx:j[k]? with
  |none=>exact Nat.pow_pos (by decide)
  |some x=>exact h5 x (List.mem_of_getElem? hx)
 have lt: ∀{x v:Nat},x<2^p.length→x.testBit v=true→v<p.length:=fun hx hv=>by
  refine Nat.lt_of_not_le fun hle=>?_
  rw[Nat.testBit_lt_two_pow (Nat.lt_of_lt_of_le hx (Nat.pow_le_pow_right (by decide) hle))]at hv
  cases hv
 refine⟨h1,h2,fun x hx=>by have:=h4 x hx;omega,⟨rk,fun u hu v hv=>?_⟩,fun k _=>Nat.div_eq_of_lt (hp k),h3,fun x hx=>by have:=h5 x hx;omega,fun k _=>Nat.div_eq_of_lt (hj k),fun k hk=>?_,fun k m hk hm=>?_⟩
 ·have hvn := lt (hp u) hv
  refine⟨hvn,?_⟩
  have:=(h6 u hu v hvn).1.1
  rw[hv]at this
  simpa using this
 ·have := (h6 k hk k hk).2
  simpa using this
 ·have := (h6 k hk m hm).1.2
  simpa using this
def askB'(n xs ys:Nat):Bool:=Nat.beq (mi xs (alN n)) 0&&Nat.beq (mi ys (alN n)) 0&&Nat.beq (xs&&& ys) 0&& !(Nat.beq ys 0)&&Nat.blt xs 18446744073709551616&&Nat.blt ys 18446744073709551616
theorem Qbp{n xs ys:Nat}(h:askB' n xs ys=true):Qma n xs ys:=by
 unfold askB' at h
 simp only[Bool.and_eq_true]at h
 obtain⟨⟨⟨⟨⟨h1,h2⟩,h3⟩,h4⟩,h5⟩,h6⟩:=h
 refine⟨Nat.eq_of_beq_eq_true h1,Nat.eq_of_beq_eq_true h2,Nat.eq_of_beq_eq_true h3,fun e=>?_,Nat.le_of_ble_eq_true h5,Nat.le_of_ble_eq_true h6⟩
 subst e;simp at h4
section
variable {p j:List Nat} (g:GrOk p j) {xs ys:Nat} (hq:Qma p.length xs ys) {y:Nat×List Nat} (hy:soW p 5 (0,[])=some y)
include g hq hy
theorem so_sm:(∀z∈y.2,z<64)∧y.2.length≤64:=by
 obtain⟨y',hy',hyo⟩:=order_ok g
 rw[hy]at hy'
 cases hy'
 have h5:=g.l5
 exact⟨fun z hz=>by have:=hyo.2.1 z hz;omega,by have:=Qhc hyo.1 hyo.2.1;omega⟩
theorem ident_ok{F:Nat}{x:Es}(hx:soE p j xs ys y.2 F=some (.inl x)):FnOk Pg g0 18 [ul p,ul j,u6 (xs:Nat),u6 (ys:Nat)] (.tup [esV x,hgV (0,0,0),i6 (0:Nat)]):=by
 obtain⟨h1,h2⟩:=so_sm g hq hy
 have h5:=g.l5
 have hjl:=g.jl
 have hfl:=Qo2 g
 exact Qi4 p j xs ys (by omega) g.p64 5 (by omega) y hy (Qj3 p j g xs ys hq) (Qk3 h2 hfl hx) (solve_fn p j xs ys y.2 hq.x64 hq.y64 h1 h2 (by omega) g.p64 (by omega) g.j64 F x hx hfl)
theorem Qkj{F:Nat}{h:Nat×Nat×Nat}(hx:soE p j xs ys y.2 F=some (.inr h)):FnOk Pg g0 18 [ul p,ul j,u6 (xs:Nat),u6 (ys:Nat)] (.tup [.agg [i6 0,u6 0,.nils],hgV h,i6 (351:Nat)]):=by
 obtain⟨h1,h2⟩:=so_sm g hq hy
 have h5:=g.l5
 have hjl:=g.jl
 have hfl:=Qo2 g
 exact Qfu p j xs ys (by omega) g.p64 5 (by omega) y hy (Qj3 p j g xs ys hq) h (Qo9 p j xs ys y.2 hq.x64 hq.y64 h1 h2 (by omega) g.p64 (by omega) g.j64 F h hx hfl)
theorem Qh4{F:Nat}{x:Es}(hx:soE p j xs ys y.2 F=some (.inl x)):FnOk Pg g0 7 [ul p,ul j,u6 (xs:Nat),u6 (ys:Nat)] (i6 (0:Nat)):=by
 obtain⟨h1,h2⟩:=so_sm g hq hy
 exact lcode_ok p j xs ys (Qk3 h2 (Qo2 g) hx) (ident_ok g hq hy hx)
theorem Qj8{F:Nat}{a b c:Nat}(ha:a≠0)(hx:soE p j xs ys y.2 F=some (.inr (a,b,c))):FnOk Pg g0 7 [ul p,ul j,u6 (xs:Nat),u6 (ys:Nat)] (i6 (351:Nat)):=
 Qi6 p j xs ys a b c ha (Qkj g hq hy hx)
end
set_option maxHeartbeats 1000000
set_option maxRecDepth 100000
theorem g_a:GrOk [0,1] [2,1]:=Qf8 (rk:=fun v=>v) (by kernel_rfl)
theorem g_b:GrOk [0,1,2] [4,0,1]:=Qf8 (rk:=fun v=>v) (by kernel_rfl)
theorem g_c:GrOk [4,5,0] [0,0,0]:=Qf8 (rk:=fun v=>if v=2 then 0 else v+1) (by kernel_rfl)
theorem w_21:FnOk Pg g0 18 [ul [0,1],ul [2,1],u6 (1:Nat),u6 (2:Nat)] (.tup [.agg [i6 0,u6 0,.nils],hgV (3,2,2),i6 (351:Nat)]):=
 Qkj g_a (Qbp (by kernel_rfl)) (y:=(3,[0,1])) (by kernel_rfl) (F:=3) (by kernel_rfl)
def inlB:Option (Es ⊕ Nat×Nat×Nat)→Bool
 |some (.inl _)=>true
 | _=>false
theorem Qe3: ∀{o:Option (Es ⊕ Nat×Nat×Nat)},inlB o=true→∃x,o=some (.inl x)
 |some (.inl x),_=>⟨x,rfl⟩
theorem w_39:FnOk Pg g0 7 [ul [0,1],ul [2,1],u6 (2:Nat),u6 (1:Nat)] (i6 (0:Nat)):=by
 obtain⟨x,hx⟩:=Qe3 (o:=soE [0,1] [2,1] 2 1 [0,1] 3) (by kernel_rfl)
 exact Qh4 g_a (Qbp (by kernel_rfl)) (y:=(3,[0,1])) (by kernel_rfl) hx
theorem w_45:FnOk Pg g0 7 [ul [0,1,2],ul [4,0,1],u6 (1:Nat),u6 (4:Nat)] (i6 (0:Nat)):=by
 obtain⟨x,hx⟩:=Qe3 (o:=soE [0,1,2] [4,0,1] 1 4 [0,1,2] 4) (by kernel_rfl)
 exact Qh4 g_b (Qbp (by kernel_rfl)) (y:=(7,[0,1,2])) (by kernel_rfl) hx
theorem w_51:FnOk Pg g0 7 [ul [4,5,0],ul [0,0,0],u6 (1:Nat),u6 (2:Nat)] (i6 (0:Nat)):=by
 obtain⟨x,hx⟩:=Qe3 (o:=soE [4,5,0] [0,0,0] 1 2 [2,0,1] 4) (by kernel_rfl)
 exact Qh4 g_c (Qbp (by kernel_rfl)) (y:=(7,[2,0,1])) (by kernel_rfl) hx
theorem asked_2{p j:List Nat}(g:GrOk p j)(xs ys:Nat)(hx:xs<18446744073709551616)(hy:ys<18446744073709551616)(h:(Nat.beq (mi xs (alN p.length)) 0&&Nat.beq (mi ys (alN p.length)) 0&&Nat.beq (xs&&& ys) 0&& !(Nat.beq ys 0))=false):FnOk Pg g0 34 [ul p,ul j,u6 (xs:Nat),u6 (ys:Nat)] (i6 (2:Nat)):=by
 have hp:=Qad p
 have hj:=Qad j
 have h5:=g.l5
 have h1:=Qj7 p j g
 have h2:=Qml p j (by omega)
 have s1:=mi_u (G:=Qac Pg) (t:=28) (x:=xs) (y:=alN p.length) hx (Qhy (by omega))
 have s2:=mi_u (G:=Qac Pg) (t:=28) (x:=ys) (y:=alN p.length) hy (Qhy (by omega))
 have s3:=Qmm (G:=Qac Pg) (t:=28) hx hy
 have hbq: ∀a:Nat,a≠0→Nat.beq a 0=false:=fun a h=>by
  cases a with
  |zero=>exact absurd rfl h
  |succ=>rfl
 generalize mi xs (alN p.length)=a at*
 generalize mi ys (alN p.length)=b at*
 generalize xs&&& ys=c at*
 generalize alN p.length=al at*
 by_cases ha:a=0
 ·subst ha
  by_cases hb:b=0
  ·subst hb
   by_cases hc:c=0
   ·subst hc
    have hy0:ys=0:=by
     by_cases hz:ys=0
     ·exact hz
     ·rw[hbq ys hz]at h;cases h
    subst hy0
    refine FnOk.of_vc vE_ok mixed Qab (n:=1000) (r:=[]) (S:={sl:=[(8,i6 (2:Nat))]}) (hs:=[fn 12 (i6 0),fn 17 (u6 (al:Nat)),va 20 (u6 (0:Nat)),va 25 (u6 (0:Nat)),va 31 (u6 (0:Nat))]) ?_
    clear h
    refine Eq.mp (by kernel_rfl:(let z0:=u6 ↑(0:Nat);let z1:=[V.im p.length (ut p),V.im j.length (ut j)];let z2:=Qac Try.prog;An [Sm (i6 ↑(2:Nat)),TT 2,FnOk Try.prog g0 20 z1 (i6 0),Tt,An [TT 2,Tt],FnOk Try.prog g0 22 [V.agg z1] (u6 ↑al),Tt,binV z2 BinOp.andNot 28 (u6 ↑xs) (u6 ↑al)=some z0,binV z2 BinOp.andNot 28 z0 (u6 ↑al)=some z0,binV z2 BinOp.and 28 (u6 ↑xs) z0=some z0,An [(↑(2:Nat):Int)=(2:Int),Tt],Tt])=_) ?_
    (repeat'(first|(with_reducible apply And.intro)|(refine fun(_:True)=>?_)))<;>first|exact aq|skip
    all_goals first|exact h1|exact h2|exact s1|exact s2|exact s3|skip
   ·refine FnOk.of_vc vE_ok mixed Qab (n := 1000) (r := []) (S := { sl := [(8, i6 (2 : Nat))] }) (hs := [fn 12 (i6 0), fn 17 (u6 (al : Nat)), va 20 (u6 (0 : Nat)), va 25 (u6 (0 : Nat)), va 31 (u6 (c : Nat)), yes 32]) ?_
    clear h
    refine Eq.mp (by kernel_rfl:(let z0:=[V.im p.length (ut p),V.im j.length (ut j)];let z1:=Qac Try.prog;let z2:=some (u6 ↑(0:Nat));An [Sm (i6 ↑(2:Nat)),TT 2,FnOk Try.prog g0 20 z0 (i6 0),Tt,An [TT 2,Tt],FnOk Try.prog g0 22 [V.agg z0] (u6 ↑al),Tt,binV z1 BinOp.andNot 28 (u6 ↑xs) (u6 ↑al)=z2,binV z1 BinOp.andNot 28 (u6 ↑ys) (u6 ↑al)=z2,binV z1 BinOp.and 28 (u6 ↑xs) (u6 ↑ys)=some (u6 ↑c),((↑c:Int) != (0:Int))=true,An [(↑(2:Nat):Int)=(2:Int),Tt],Tt])=_) ?_
    (repeat'(first|(with_reducible apply And.intro)|(refine fun(_:True)=>?_)))<;>first|exact aq|skip
    all_goals first|exact h1|exact h2|exact s1|exact s2|exact s3|(simp;omega)|skip
  ·refine FnOk.of_vc vE_ok mixed Qab (n := 1000) (r := []) (S := { sl := [(8, i6 (2 : Nat))] }) (hs := [fn 12 (i6 0), fn 17 (u6 (al : Nat)), va 20 (u6 (0 : Nat)), va 25 (u6 (b : Nat)), yes 26]) ?_
   clear h
   refine Eq.mp (by kernel_rfl:(let z0:=[V.im p.length (ut p),V.im j.length (ut j)];An [Sm (i6 ↑(2:Nat)),TT 2,FnOk Try.prog g0 20 z0 (i6 0),Tt,An [TT 2,Tt],FnOk Try.prog g0 22 [V.agg z0] (u6 ↑al),Tt,binV (Qac Try.prog) BinOp.andNot 28 (u6 ↑xs) (u6 ↑al)=some (u6 ↑(0:Nat)),binV (Qac Try.prog) BinOp.andNot 28 (u6 ↑ys) (u6 ↑al)=some (u6 ↑b),((↑b:Int) != (0:Int))=true,An [(↑(2:Nat):Int)=(2:Int),Tt],Tt])=_) ?_
   (repeat'(first|(with_reducible apply And.intro)|(refine fun(_:True)=>?_)))<;>first|exact aq|skip
   all_goals first|exact h1|exact h2|exact s1|exact s2|(simp;omega)|skip
 ·refine FnOk.of_vc vE_ok mixed Qab (n := 1000) (r := []) (S := { sl := [(8, i6 (2 : Nat))] }) (hs := [fn 12 (i6 0), fn 17 (u6 (al : Nat)), va 20 (u6 (a : Nat)), yes 21]) ?_
  clear h
  refine Eq.mp (by kernel_rfl:(let z0:=[V.im p.length (ut p),V.im j.length (ut j)];An [Sm (i6 ↑(2:Nat)),TT 2,FnOk Try.prog g0 20 z0 (i6 0),Tt,An [TT 2,Tt],FnOk Try.prog g0 22 [V.agg z0] (u6 ↑al),Tt,binV (Qac Try.prog) BinOp.andNot 28 (u6 ↑xs) (u6 ↑al)=some (u6 ↑a),((↑a:Int) != (0:Int))=true,An [(↑(2:Nat):Int)=(2:Int),Tt],Tt])=_) ?_
  (repeat'(first|(with_reducible apply And.intro)|(refine fun(_:True)=>?_)))<;>first|exact aq|skip
  all_goals first|exact h1|exact h2|exact s1|(simp;omega)|skip
theorem Qm1{p j:List Nat}(g:GrOk p j)(xs ys:Nat)(hx:xs<18446744073709551616)(hy:ys<18446744073709551616)(h:(Nat.beq (mi xs (alN p.length)) 0&&Nat.beq (mi ys (alN p.length)) 0&&Nat.beq (xs&&& ys) 0&& !(Nat.beq ys 0))=false):FnOk Pg g0 7 [ul p,ul j,u6 (xs:Nat),u6 (ys:Nat)] (i6 (2:Nat)):=
 Qe5 p j xs ys 2 (by decide) (by decide) (Qcf p j xs ys 2 (by decide) (asked_2 g xs ys hx hy h))
theorem w_129:FnOk Pg g0 7 [ul [0,1],ul [2,1],u6 (1:Nat),u6 (1:Nat)] (i6 (2:Nat)):=Qm1 g_a 1 1 (by decide) (by decide) (by kernel_rfl)
mutual
noncomputable def vxB(H:T O):V→V→Bool
 | .int k n,y=>match y with
  | .int k' n'=>decide (k=k')&&decide (n=n')
  | _=>false
 | .bool a,y=>match y with
  | .bool b=>a==b
  | _=>false
 | .nils,y=>match y with
  | .nils=>true
  | _=>false
 | .agg l,y=>match y with
  | .agg l'=>vxL H l l'
  | _=>false
 | .im n l, y => match y with
  | .nils=>Nat.beq n 0
  | .im k m=>Nat.beq n k&&beqL l m
  | .sl h off m _=>Nat.beq n m&&(match gt H h with
   |some (.row _ _ c)=>vxP H l (c.drop off)
   | _=>false)
  | _=>false
 | .imp l, y => match y with
  | .ptr h off=>(match gt H h with
   |some (.row _ _ c)=>vxP H l (c.drop off)
   | _=>false)
  | _=>false
 | _,_=>false
noncomputable def vxL(H:T O):List V→List V→Bool
 |[],ys=>match ys with
  |[]=>true
  | _=>false
 |x::xs,ys=>match ys with
  |y::ys'=>vxB H x y&&vxL H xs ys'
  |[]=>false
noncomputable def vxP(H:T O):List V→List V→Bool
 |[],_=>true
 |x::xs,ys=>match ys with
  |y::ys'=>vxB H x y&&vxP H xs ys'
  |[]=>false
end
mutual
theorem Qld{H:T O}{ρ:Nat→Option Nat}: ∀(x y:V),vxB H x y=true→View H.get (fun _=>True) ρ x y
 | .int k n,y,h=>by
  cases y<;>simp[vxB]at h
  obtain⟨rfl,rfl⟩:=h
  rfl
 | .bool a,y,h=>by
  cases y<;>simp[vxB]at h
  subst h;rfl
 | .nils,y,h=>by
  cases y<;>first|rfl|simp[vxB]at h
 | .agg l,y,h=>by
  cases y with
  |agg l'=>exact⟨l',rfl,Qp4 l l' (by simpa [vxB]using h)⟩
  | _=>simp[vxB]at h
 | .im n l, y, h => by
  cases y with
  |nils=>exact .inr (.inl ⟨rfl,Nat.eq_of_beq_eq_true (by simpa [vxB]using h)⟩)
  |im k m=>
   unfold vxB at h
   simp only[Bool.and_eq_true]at h
   have h1:=Nat.eq_of_beq_eq_true h.1
   subst h1
   exact .inl (by rw[Qeq _ _ h.2])
  | sl g off m room =>
   unfold vxB at h
   simp only[Bool.and_eq_true]at h
   obtain⟨h1,h2⟩:=h
   have h1:=Nat.eq_of_beq_eq_true h1
   subst h1
   split at h2
   ·rename_i t sp c hg
    rw[Qak]at hg
    exact .inr (.inr ⟨g,off,room,t,sp,c,rfl,trivial,hg,Qp5 l _ h2⟩)
   ·cases h2
  | _=>simp[vxB]at h
 | .imp l, y, h => by
  cases y with
  | ptr g off =>
   unfold vxB at h
   dsimp only at h
   split at h
   ·rename_i t sp c hg
    rw[Qak]at hg
    exact .inr ⟨g,off,t,sp,c,rfl,trivial,hg,Qp5 l _ h⟩
   ·cases h
  | _=>simp[vxB]at h
 | .str _,_,h| .nilp,_,h| .nilf,_,h| .nili,_,h| .nilm,_,h| .tup _,_,h| .fn _ _,_,h| .ifc _ _,_,h| .ptr _ _,_,h| .sl _ _ _ _,_,h| .mp _,_,h| .yld _,_,h=>by simp[vxB]at h
theorem Qp4{H:T O}{ρ:Nat→Option Nat}: ∀(xs ys:List V),vxL H xs ys=true→ViewL H.get (fun _=>True) ρ xs ys
 |[],ys,h=>by
  cases ys with
  |nil=>rfl
  |cons=>simp[vxL]at h
 | x :: xs, ys, h => by
  cases ys with
  |nil=>simp[vxL]at h
  |cons y ys=>
   unfold vxL at h
   simp only[Bool.and_eq_true]at h
   exact⟨y,ys,rfl,Qld x y h.1,Qp4 xs ys h.2⟩
theorem Qp5{H:T O}: ∀(xs ys:List V),vxP H xs ys=true→ViewP H.get (fun _=>True) xs ys
 |[],ys,h=>trivial
 | x :: xs, ys, h => by
  cases ys with
  |nil=>simp[vxP]at h
  |cons y ys=>
   unfold vxP at h
   simp only[Bool.and_eq_true]at h
   exact⟨y,ys,rfl,Qld x y h.1,Qp5 xs ys h.2⟩
end
noncomputable def Qaq(f:Nat)(l:List V)(v:V)(h:Hook):Hook:=fun f' ars H gl=>match gl with
 | .e=>bif Nat.beq f' f&&vxL H l ars then some v else h f' ars H gl
 | _=>h f' ars H gl
theorem Qae{f:Nat}{l:List V}{v:V}{h:Hook}(hh:Qaj Pg h)(hv:gnd v=true)(hc:(codeOf Pg f).isSome=true)(hok:FnOk Pg .e f l v):Qaj Pg (Qaq f l v h):=by
 intro f' ars H gl u hu s w vals ha hH hgl
 unfold Qaq at hu
 split at hu
 ·cases hb : (Nat.beq f' f && vxL H l ars) with
  |false=>rw[hb]at hu;exact hh f' ars H _ u hu s w vals ha hH hgl
  | true =>
   rw[hb,cond_true]at hu
   cases hu
   simp only[Bool.and_eq_true]at hb
   have e1:=Nat.eq_of_beq_eq_true hb.1
   subst e1
   have hview:=Qp4 (ρ:=fun _=>none) _ _ hb.2
   obtain⟨fi,hfi⟩:=Option.isSome_iff_exists.1 hc
   obtain⟨fn,f1,f2,f3,f4,f5⟩:=Qiw plain hfi
   have hF: ∀b,(s.fz b∨∃g t sp c,H.get g=some (.row t sp c)∧b=s.μ g)→b<w.heap.size:=by
    rintro b (hb|⟨g,t,sp,c,hg,rfl⟩)
    ·exact hH.old b (.inl hb)
    ·exact(hH.obj _ _ hg rfl).2.1
   have hrl:=ViewL.rl hH (s':=sg (fun b=>s.fz b∨∃g t sp c,H.get g=some (.row t sp c)∧b=s.μ g)) ⟨fun _ _ e=>(by cases e),fun g t sp c _ hg=>.inr ⟨g,t,sp,c,hg,rfl⟩,fun b hb=>.inl hb⟩ _ _ _ hview ha
   obtain⟨next,q1,q2,q3⟩:=hok.1 (sg _) w (.func (.func f') #[] #[]) vals ⟨#[],rfl,rfl⟩ hrl (Qja (fun b hb=>hb.elim (hF b) (fun hb=>hb.elim))) (fun g l hg=>by simp at hg) (fun _ _ h=>h)
   have hn:next= .enter f' vals:=by
    have h5:=f5 vals w
    simp[Deferred.ofValue,invoke,h5]at q1
    exact q1.symm
   subst hn
   refine⟨f5 vals w,(callsIn_wide.1 q2).mono ?_⟩
   rintro e w' ⟨x,s',rfl,g1,g2,g3,g4,g5⟩
   exact⟨x,rfl,⟨g3.mod.os,g3.mod.tape,g3.mod.output,g3.mod.size,fun k hk=>g3.mod.block k hk (by rintro⟨h,hm,_⟩;cases hm)⟩,fun s'' w''=>gnd_rv _ _ hv g1⟩
 ·exact hh f' ars H gl u hu s w vals ha hH hgl
set_option maxHeartbeats 4000000
set_option maxRecDepth 100000
abbrev a4(p j:List Nat)(x y:Nat):List V:=[ul p,ul j,u6 (x:Nat),u6 (y:Nat)]
noncomputable def hk1:Hook:=Qaq 12 [faV,esV (.mk 1 1 []),il [0,0]] (qV 1 2 0) Qkp
noncomputable def hk2:Hook:=Qaq 12 [faV,esV (.mk 4 0 [.mk 1 3 [],.mk 1 1 []]),il [0,1]] (qV 1 4 0) hk1
noncomputable def hk3:Hook:=Qaq 12 [faV,esV (.mk 2 2 [.mk 1 2 []]),il [0,0]] (qV 1 1 0) hk2
noncomputable def hk4:Hook:=Qaq 12 [faV,esV (.mk 3 0 []),il [0,0]] (qV 1 1 0) hk3
noncomputable def hk5:Hook:=Qaq 18 (a4 [0,1] [2,1] 1 2) (.tup [.agg [i6 0,u6 0,.nils],hgV (3,2,2),i6 (351:Nat)]) hk4
noncomputable def hk6:Hook:=Qaq 7 (a4 [0,1] [2,1] 2 1) (i6 (0:Nat)) hk5
noncomputable def hk7:Hook:=Qaq 7 (a4 [0,1,2] [4,0,1] 1 4) (i6 (0:Nat)) hk6
noncomputable def hk8:Hook:=Qaq 7 (a4 [4,5,0] [0,0,0] 1 2) (i6 (0:Nat)) hk7
noncomputable def hk9:Hook:=Qaq 7 (a4 [0,1] [2,1] 1 1) (i6 (2:Nat)) hk8
theorem hk1_ok:Qaj Pg hk1:=Qae Qfc rfl (by kernel_rfl) ev_1
theorem hk2_ok:Qaj Pg hk2:=Qae hk1_ok rfl (by kernel_rfl) ev_2
theorem hk3_ok:Qaj Pg hk3:=Qae hk2_ok rfl (by kernel_rfl) ev_3
theorem hk4_ok:Qaj Pg hk4:=Qae hk3_ok rfl (by kernel_rfl) ev_4
theorem hk5_ok:Qaj Pg hk5:=Qae hk4_ok rfl (by kernel_rfl) w_21
theorem hk6_ok:Qaj Pg hk6:=Qae hk5_ok rfl (by kernel_rfl) w_39
theorem hk7_ok:Qaj Pg hk7:=Qae hk6_ok rfl (by kernel_rfl) w_45
theorem hk8_ok:Qaj Pg hk8:=Qae hk7_ok rfl (by kernel_rfl) w_51
theorem hk9_ok:Qaj Pg hk9:=Qae hk8_ok rfl (by kernel_rfl) w_129
noncomputable def vW:Env:=envOf Pg hk9 extF
theorem vW_ok:vW.Ok Pg:=Qm8 plain hk9_ok Qnf
theorem works_fn:FnOk Pg g0 5 [] (.bool true):=FnOk.of_run vW_ok mixed (n:=100000) rfl (by kernel_rfl)
set_option maxHeartbeats 1000000
def inrB:Option (Es ⊕ Nat×Nat×Nat)→Bool
 |some (.inr (a,_,_))=>Nat.blt 0 a
 | _=>false
theorem Qnz: ∀{o:Option (Es ⊕ Nat×Nat×Nat)},inrB o=true→∃a b c,a≠0∧o=some (.inr (a,b,c))
 |some (.inr (a,b,c)),h=>⟨a,b,c,by have:=Nat.le_of_ble_eq_true h;omega,rfl⟩
theorem g_k:GrOk [0,1,2,4] [12,0,1,1]:=Qf8 (rk:=fun v=>v) (by kernel_rfl)
theorem g_1:GrOk [0] [0]:=Qf8 (rk:=fun v=>v) (by kernel_rfl)
theorem k_41:FnOk Pg g0 7 [ul [0,1,2,4],ul [12,0,1,1],u6 (4:Nat),u6 (8:Nat)] (i6 (0:Nat)):=by
 obtain⟨x,hx⟩:=Qe3 (o:=soE [0,1,2,4] [12,0,1,1] 4 8 [0,1,2,3] 5) (by kernel_rfl)
 exact Qh4 g_k (Qbp (by kernel_rfl)) (y:=(15,[0,1,2,3])) (by kernel_rfl) hx
theorem k_46:FnOk Pg g0 7 [ul [0,1],ul [2,1],u6 (1:Nat),u6 (2:Nat)] (i6 (351:Nat)):=by
 obtain⟨a,b,c,h0,hx⟩:=Qnz (o:=soE [0,1] [2,1] 1 2 [0,1] 3) (by kernel_rfl)
 exact Qj8 g_a (Qbp (by kernel_rfl)) (y:=(3,[0,1])) (by kernel_rfl) h0 hx
theorem code3(j:List Nat)(xs ys:Nat)(h:(grB [0,1,2] j (fun v=>v)&&askB' 3 xs ys&&inrB (soE [0,1,2] j xs ys [0,1,2] 4))=true):FnOk Pg g0 7 [ul [0,1,2],ul j,u6 (xs:Nat),u6 (ys:Nat)] (i6 (351:Nat)):=by
 simp only[Bool.and_eq_true]at h
 obtain⟨a,b,c,h0,hx⟩:=Qnz h.2
 exact Qj8 (Qf8 h.1.1) (Qbp h.1.2) (y:=(7,[0,1,2])) (by kernel_rfl) h0 hx
theorem k_52:FnOk Pg g0 7 [ul [0,1,2],ul [2,1,0],u6 (1:Nat),u6 (4:Nat)] (i6 (351:Nat)):=code3 _ _ _ (by kernel_rfl)
theorem k_58:FnOk Pg g0 7 [ul [0,1,2],ul [2,5,2],u6 (2:Nat),u6 (4:Nat)] (i6 (351:Nat)):=code3 _ _ _ (by kernel_rfl)
theorem k_64:FnOk Pg g0 7 [ul [0,1,2],ul [6,1,1],u6 (2:Nat),u6 (4:Nat)] (i6 (351:Nat)):=code3 _ _ _ (by kernel_rfl)
theorem k_70:FnOk Pg g0 7 [ul [0,1,2],ul [4,0,1],u6 (2:Nat),u6 (4:Nat)] (i6 (0:Nat)):=by
 obtain⟨x,hx⟩:=Qe3 (o:=soE [0,1,2] [4,0,1] 2 4 [0,1,2] 4) (by kernel_rfl)
 exact Qh4 g_b (Qbp (by kernel_rfl)) (y:=(7,[0,1,2])) (by kernel_rfl) hx
theorem k_288:FnOk Pg g0 7 [ul [0],ul [0],u6 (0:Nat),u6 (0:Nat)] (i6 (2:Nat)):=Qm1 g_1 0 0 (by decide) (by decide) (by kernel_rfl)
theorem k_294:FnOk Pg g0 7 [ul [0],ul [0],u6 (2:Nat),u6 (1:Nat)] (i6 (2:Nat)):=Qm1 g_1 2 1 (by decide) (by decide) (by kernel_rfl)
theorem Qmo:FnOk Pg g0 34 [ul [1],ul [0],u6 (9:Nat),u6 (9:Nat)] (i6 (350:Nat)):=FnOk.of_run vE_ok mixed (n:=100000) rfl (by kernel_rfl)
theorem k_282:FnOk Pg g0 7 [ul [1],ul [0],u6 (9:Nat),u6 (9:Nat)] (i6 (350:Nat)):=Qe5 [1] [0] 9 9 350 (by decide) (by decide) (Qcf [1] [0] 9 9 350 (by decide) Qmo)
theorem Qlh:FnOk Pg g0 34 [ul [0,0,0,0,0,0],ul [0,0,0,0,0,0],u6 (0:Nat),u6 (1:Nat)] (i6 (350:Nat)):=FnOk.of_run vE_ok mixed (n:=100000) rfl (by kernel_rfl)
theorem k_300:FnOk Pg g0 7 [ul [0,0,0,0,0,0],ul [0,0,0,0,0,0],u6 (0:Nat),u6 (1:Nat)] (i6 (350:Nat)):=Qe5 _ _ 0 1 350 (by decide) (by decide) (Qcf _ _ 0 1 350 (by decide) Qlh)
theorem k_307:FnOk Pg g0 17 [ul [0],ul [0],u6 (0:Nat),u6 (1:Nat),.agg [u6 0,u6 0,u6 0]] (i6 (351:Nat)):=FnOk.of_run vE_ok mixed (n:=100000) rfl (by kernel_rfl)
theorem k_262:FnOk Pg g0 16 [ul [0],ul [0],.agg [i6 0,.im 0 [],.im 0 []]] (.tup [.bool false,i6 0]):=FnOk.of_run vE_ok mixed (n:=100000) rfl (by kernel_rfl)
noncomputable def dRun(n:Nat)(x:V)(H:T O)(nx:Nat):Option St:=match calmsR vE df2 H [df2.getD 1 default] ((⟨putAll (blank 17) 0 dc2,g0,17⟩:TM).put (df2.getD 0 default).dst x)with
 |some tm1=>match exec vE n none (at' 29 [1]) ⟨tm1,H,nx,[]⟩with
  |some [(.normal,st)]=>some st
  |some [(.ret,st)]=>some st
  | _=>none
 |none=>none
theorem dRun_ok{n nx:Nat}{x:V}{H:T O}{st:St}(h:dRun n x H nx=some st):DefSpec Pg g0 29 dc2 [] H nx (some x) ⟨.tup [],st.H,st.nx,st.lg⟩:=by
 obtain⟨fg,h1,h2,h3,h4⟩:=Qee
 unfold dRun at h
 split at h
 ·rename_i tm1 e1
  have key: ∀e,e= .normal∨e= .ret→exec vE n none (at' 29 [1]) ⟨tm1,H,nx,[]⟩=some [(e,st)]→DefSpec Pg g0 29 dc2 [] H nx (some x) ⟨.tup [],st.H,st.nx,st.lg⟩:=fun e he e2=>by
   refine DefSpec.of vE_ok (os:=[df2.getD 1 default]) (o:=df2.getD 0 default) (tm1:=tm1) h1 (by rw[h3];rfl) (by rw[h2,df2_eq]) (by kernel_rfl) (by kernel_rfl) (c:=_) rfl rfl (by rw[h3];exact e1) ?_
   exact Sat.of_exec he e2 ⟨he,by rw[h4];rfl,rfl,rfl,rfl⟩
  split at h
  ·rename_i st' e2;cases h;exact key _ (.inl rfl) e2
  ·rename_i st' e2;cases h;exact key _ (.inr rfl) e2
  ·cases h
 ·cases h
noncomputable def gEndP(n f g:Nat)(res:List ResultVar):Option (St×Array Oper×Code)→Option V
 | some (st, ops, rest) => match seqR vE (tbl []) ops (ops.toList.take 1) st, ops[1]? with
  | some st3, some o => match wantedV st3.tm ops o, o.op, st3.tm.gl with
   | some true, .defer c, .e => match c.callee, c.args.toList, o.dst with
    | .value fo, [], none => match ev st3.tm fo with
     | some (.fn g' [.ptr a 0, .ptr b 0]) => bif Nat.beq g' g && Nat.beq ops.size 2 && Nat.beq a 2 && Nat.beq b 3 then (match panE vE n rest ⟨st3.tm, st3.H, st3.nx, []⟩ with
      |some (x,st4)=>match dRun n x st4.H st4.nx with
       |some st5=>retV vE.G st4.tm st5.H res
       |none=>none
      |none=>none)else none
     | _=>none
    | _,_,_=>none
   | _,_,_=>none
  | _,_=>none
 |none=>none
noncomputable def gRunP(n k f g:Nat)(ars:List V)(res:List ResultVar):Option V:=match vE.code f with
 |some fi=>gEndP n f g res (gPre n k fi.body ⟨⟨putAll (blank fi.ntmps) 0 (ars++[]),g0,fi.ntmps⟩,.e,0,[]⟩)
 |none=>none
theorem Qg6 {n k f : Nat} {ars : List V} {res : List ResultVar} {v : V} (hv : Hf v) (hb : ∀ fi, vE.code f = some fi → fi.res = res ∧ Nat.ble ars.length fi.ntmps = true) (h : gRunP n k f 29 ars res = some v) : FnOk Pg g0 f ars v := by
 unfold gRunP at h
 split at h
 ·rename_i fi hfi
  obtain⟨hr,hn⟩:=hb fi hfi
  refine CallSpec.guardC vE_ok hfi (by rw[List.append_nil];exact hn) (Log.refl _ _ _) (Z:=fun u _ _ _=>u=v) ?_ ?_
  ·rintro u H' nx' lg' rfl s w ee w' hH hn ⟨x, s', h1, g1, g2, g3, _, _⟩
   subst h1
   obtain⟨s'',q1,q2,q3,q4⟩:=Qaz hH g1 hv g3 (fun h _=>hn h (Nat.zero_le _)) (fun b hb=>g2.old b (.inl hb))
   exact⟨x,s'',rfl,q1,q2,q3,fun i=>by rw[q4];exact dom_same s _ i,Nat.le_refl _⟩
  ·have key : ∀ (k : Nat) (X : Code) (st : St), gEndP n f 29 res (gPre n k X st) = some v → Chain Pg vE g0 fi.res 0 (fun u _ _ _ => u = v) (fun st' => st' = st) X := by
    intro k
    induction k with
    | zero =>
     intro X st h
     unfold gPre at h
     split at h
     ·rename_i id ops rest
      refine Chain.last fun st' e=>?_
      subst e
      unfold gEndP at h
      dsimp only at h
      split at h
      ·rename_i st3 o e1 e2
       split at h
       ·rename_i c e3 e4 e5
        split at h
        ·rename_i fo e6 e7 e8
         split at h
         ·rename_i g' a b e9
          obtain⟨hb1,h⟩:=Qaf h
          simp only[Bool.and_eq_true]at hb1
          obtain⟨⟨⟨b1,b2⟩,b3⟩,b4⟩:=hb1
          have b1:=Nat.eq_of_beq_eq_true b1
          have b2:=Nat.eq_of_beq_eq_true b2
          have b3:=Nat.eq_of_beq_eq_true b3
          have b4:=Nat.eq_of_beq_eq_true b4
          subst b1 b3 b4
          split at h
          ·rename_i x st4 e10
           split at h
           ·rename_i st5 e11
            obtain⟨fg,hg1,_⟩:=Qee
            refine⟨st3,_,dc2,[],tbl [],1,o,c,fo,fg,TblOk.nil.call,e1,e2,e3,e4,e6,e9,by rw[e7];rfl,by rw[b2],e8,hg1,e5,?_⟩
            refine(Qos vE_ok mixed n _ _ _ _ e10 _).mono fun e s⟨he,hs⟩=>?_
            subst hs
            exact⟨some x,⟨.tup [],st5.H,st5.nx,st5.lg⟩,.inr ⟨x,he,rfl⟩,dRun_ok e11,v,by rw[hr];rw[b2]at h;exact h,rfl⟩
           ·rw[b2]at h;cases h
          ·rw[b2]at h;cases h
         ·cases h
        ·cases h
       ·cases h
      ·cases h
     ·cases h
    | succ k ih =>
     intro X st h
     unfold gPre at h
     split at h
     ·rename_i c Y
      split at h
      ·rename_i st' e1
       split at h
       ·rename_i e2
        refine Chain.more (R':=fun s=>s=st') (fun s e=>?_) (ih Y st' h)
        subst e
        exact Sat.of_exec (.inl rfl) e1 (.inl ⟨rfl,e2,rfl⟩)
       ·cases h
      ·cases h
     ·cases h
   exact key k _ _ h
 ·cases h
abbrev fbV:V:=.agg [il [0,1],il [2,2],il [1,0,0,0]]
abbrev ftV:V:=.agg [il [0,2],il [1,1],il [1]]
abbrev fzV:V:=.agg [il [0],il [2],il [0,0]]
abbrev fgV:V:=.agg [il [0],il [2],il [4611686018427387903,4611686018427387902]]
abbrev e31:Es:=.mk 4 0 [.mk 1 3 [],.mk 1 1 []]
abbrev e11:Es:=.mk 4 0 [.mk 1 1 [],.mk 1 1 []]
theorem Qin(a b:Int)(e:Nat):Hf (qV a b e):=⟨⟨trivial,trivial,trivial⟩,trivial,trivial⟩
theorem ek_1:FnOk Pg g0 12 [fbV,esV e31,il [1,0]] (qV 0 0 7):=
 Qg6 (n:=100000) (k:=9) (res:=evR) (Qin _ _ _) Qa9 (by kernel_rfl)
theorem ek_2:FnOk Pg g0 12 [fbV,esV e31,il [0,0]] (qV 1 1 0):=
 Qb4 (n:=100000) (k:=9) (res:=evR) (Qin _ _ _) Qa9 (by kernel_rfl)
theorem ek_3:FnOk Pg g0 12 [fbV,esV (.mk 3 0 [.mk 1 0 [],e11]),il [1,1]] (qV 0 0 7):=
 Qg6 (n:=100000) (k:=9) (res:=evR) (Qin _ _ _) Qa9 (by kernel_rfl)
theorem ek_4:FnOk Pg g0 12 [fbV,esV (.mk 2 1 [e11]),il [0,0]] (qV 0 0 7):=
 Qg6 (n:=100000) (k:=9) (res:=evR) (Qin _ _ _) Qa9 (by kernel_rfl)
theorem ek_5:FnOk Pg g0 12 [fbV,esV (.mk 1 3 []),il [1,1]] (qV 0 1 0):=
 Qb4 (n:=100000) (k:=9) (res:=evR) (Qin _ _ _) Qa9 (by kernel_rfl)
theorem ek_6:FnOk Pg g0 12 [fgV,esV (.mk 3 0 [.mk 1 1 [],.mk 1 1 []]),il [0]] (qV 0 0 6):=
 Qb4 (n:=100000) (k:=9) (res:=evR) (Qin _ _ _) Qa9 (by kernel_rfl)
theorem ek_7:FnOk Pg g0 12 [fgV,esV (.mk 1 1 []),il [0]] (qV 0 0 6):=
 Qb4 (n:=100000) (k:=9) (res:=evR) (Qin _ _ _) Qa9 (by kernel_rfl)
theorem ek_8:FnOk Pg g0 12 [fgV,esV (.mk 1 0 []),il [1]] (qV 1 1 0):=
 Qb4 (n:=100000) (k:=9) (res:=evR) (Qin _ _ _) Qa9 (by kernel_rfl)
theorem ek_9:FnOk Pg g0 12 [ftV,esV (.mk 1 1 []),il [0,0]] (qV 0 0 30):=FnOk.of_run vE_ok mixed (n:=100000) rfl (by kernel_rfl)
theorem ek_10:FnOk Pg g0 12 [.agg [.im 0 [],.im 0 [],il [1]],esV (.mk 1 0 []),.im 0 []] (qV 0 0 30):=FnOk.of_run vE_ok mixed (n:=100000) rfl (by kernel_rfl)
theorem ek_11:FnOk Pg g0 12 [fzV,esV (.mk 0 0 []),.im 0 []] (qV 0 0 7):=FnOk.of_run vE_ok mixed (n:=100000) rfl (by kernel_rfl)
theorem ek_12:FnOk Pg g0 12 [fbV,esV (.mk 1 4 []),.im 0 []] (qV 0 0 352):=FnOk.of_run vE_ok mixed (n:=100000) rfl (by kernel_rfl)
theorem ek_13:FnOk Pg g0 12 [fbV,esV (.mk 4 0 [.mk 1 1 []]),.im 0 []] (qV 0 0 352):=FnOk.of_run vE_ok mixed (n:=100000) rfl (by kernel_rfl)
theorem ek_14:FnOk Pg g0 12 [fbV,esV (.mk 3 1 []),.im 0 []] (qV 0 0 352):=FnOk.of_run vE_ok mixed (n:=100000) rfl (by kernel_rfl)
theorem ek_16:FnOk Pg g0 12 [fbV,esV (.mk 1 1 []),il [0,2]] (qV 0 0 2):=FnOk.of_run vE_ok mixed (n:=100000) rfl (by kernel_rfl)
theorem ek_17:FnOk Pg g0 12 [fbV,esV (.mk 1 1 []),il [0]] (qV 0 0 2):=FnOk.of_run vE_ok mixed (n:=100000) rfl (by kernel_rfl)
noncomputable def kFinH(nx0 n:Nat)(r:List Nat)(S:SL):KF:=fun e _ st=>match e with
 | .exit _=>False
 | .pan _=>False
 | _=>bif Nat.beq st.tm.n n then gcP nx0 r st S else False
noncomputable def vcFiH(P:Program)(E:Env)(sp:Qay)(gl:T (List V))(n:Nat)(os0:List O)(ars:List V)(hs:Hs)(r:List Nat)(S:SL)(v:V):Option FI→Prop
 |some fi=>bif Nat.ble ars.length fi.ntmps then retP v (retV E.G (mkSt gl fi.ntmps S).tm (mkSt gl fi.ntmps S).H fi.res)∧vc P E sp none os0.length n fi.body hs ⟨⟨Qbt (blank fi.ntmps) 0 ars,gl,fi.ntmps⟩,ofOs .e 0 os0,os0.length,[]⟩ (kFinH os0.length fi.ntmps r S)else False
 |none=>False
noncomputable def vcFnH(P:Program)(E:Env)(sp:Qay)(gl:T (List V))(n f:Nat)(os0:List O)(ars:List V)(hs:Hs)(r:List Nat)(S:SL)(v:V):Prop:=vcFiH P E sp gl n os0 ars hs r S v (E.code f)
theorem Qjc: ∀(os:List O)(t:T O)(k i:Nat),k≤i→i<k+os.length→(ofOs t k os).get i=os[i-k]?
 |[],_,_,_,h1,h2=>by simp at h2;omega
 | o :: os, t, k, i, h1, h2 => by
  rw[ofOs]
  by_cases hi:i=k
  ·subst hi
   have: ∀(os:List O)(t:T O)(j i:Nat),i<j→(ofOs t j os).get i=t.get i:=by
    intro os
    induction os with
    |nil=>intro t j i _;rfl
    |cons o os ih=>
     intro t j i h
     rw[ofOs,ih _ _ _ (by omega),pt_eq,T.get_put,if_neg (by omega)]
   rw[this _ _ _ _ (by omega),pt_eq,T.get_put,if_pos rfl]
   simp
  ·rw [Qjc os _ _ _ (by omega) (by simp at h2; omega)]
   rw[show i-k=(i-(k+1))+1 by omega,List.getElem?_cons_succ]
theorem Qkv{os:List O}{i:Nat}(h:os.length≤i):(ofOs .e 0 os).get i=none:=by
 cases hg:(ofOs .e 0 os).get i with
 |none=>rfl
 | some o =>
  rcases ofOs_get os .e 0 i o hg with⟨_,h2⟩|h2
  ·have := (List.getElem?_eq_some_iff.1 h2).1
   omega
  ·cases h2
theorem CallSpec.of_vcH{P:Program}{E:Env}{sp:Qay}(hE:E.Ok P)(hm:P.follows .mixedOrders=true){gl:T (List V)}(hsp:Qap P gl sp){n f:Nat}{os0:List O}{ars:List V}{hs:Hs}{r:List Nat}{S:SL}{v:V}(hle:os0.length≤S.os.length)(hsame: ∀i,i<os0.length→i∉S.lg→S.os[i]? =os0[i]?)(h:vcFnH P E sp gl n f os0 ars hs r S v):CallSpec P gl (.fn f []) ars (ofOs .e 0 os0) os0.length ⟨v,ofOs .e 0 S.os,S.os.length,S.lg⟩:=by
 unfold vcFnH vcFiH at h
 split at h
 ·rename_i fi hfi
  obtain⟨hb,hret,hv⟩:=Qaa h
  have hret':retV E.G (mkSt gl fi.ntmps S).tm (mkSt gl fi.ntmps S).H fi.res=some v:=by
   unfold retP at hret
   split at hret
   ·rename_i u e;rw[e,hret]
   ·exact hret.elim
  rw[Qa3]at hv
  have hlog:Log (ofOs .e 0 os0).get os0.length (ofOs .e 0 S.os).get S.os.length S.lg:=by
   refine⟨hle,fun i hi hn=>?_⟩
   by_cases h1:i<os0.length
   ·rw [Qjc _ _ _ _ (Nat.zero_le _) (by omega), Qjc _ _ _ _ (Nat.zero_le _) (by omega), Nat.sub_zero]
    exact hsame i h1 hi
   ·rw[Qkv (by omega),Qkv (by omega)]
  refine CallSpec.fnC hE hfi (by rw[List.append_nil];exact hb) hlog (R:=fun e st=>(e= .normal∨e= .ret)∧st=mkSt gl fi.ntmps S) ?_ ?_
  ·rw [List.append_nil]
   refine Sat.gc_post (Sat.of_vc hE hm hsp rfl hv fun e hs' st' hg hk=>?_)
   unfold kFinH at hk
   have fin:(bif Nat.beq st'.tm.n fi.ntmps then gcP os0.length r st' S else False)→∃r st2,Gc os0.length r st' st2∧st2=mkSt gl fi.ntmps S:=by
    intro hk
    obtain⟨hb,hk⟩:=Qaa hk
    exact⟨r,_,Qdi hk,by rw[hg,Nat.eq_of_beq_eq_true hb]⟩
   cases e with
   |exit=>exact hk.elim
   |pan=>exact hk.elim
   |normal=>obtain⟨r,st2,h1,h2⟩:=fin hk;exact⟨r,st2,h1,.inl rfl,h2⟩
   |ret=>obtain⟨r,st2,h1,h2⟩:=fin hk;exact⟨r,st2,h1,.inr rfl,h2⟩
  ·rintro e st ⟨he, rfl⟩
   exact⟨he,v,hret',fun s w ee w' _ _ hp=>hp⟩
 ·exact h.elim
set_option maxHeartbeats 4000000
def dpC:Nat→List V
 |0=>[i6 1,u6 1,.im 0 []]
 |k+1=>[i6 3,u6 0,.im 2 (dpC k++[i6 3,u6 0,.im 0 []])]
theorem Qf5: ∀k,∃(a:Int)(b:Int)(m:Nat)(A:List V),dpC k=[i6 a,u6 b,.im m A]
 |0=>⟨_,_,_,_,rfl⟩
 |k+1=>⟨_,_,_,_,rfl⟩
abbrev lfO(L:Int):O:=.row 3 none [i6 L]
theorem valid_0(L:Int)(h1:1≤L)(h2:L≤10000):CallSpec Pg g0 (.fn 28 []) [.agg [i6 3,u6 0,.im 0 []],i6 2,.ptr 0 0] (ofOs .e 0 [lfO L]) 1 ⟨.bool true,ofOs .e 0 [lfO (L-1)],1,[0]⟩:=by
 refine CallSpec.of_vcH (P:=Pg) (E:=vE) vE_ok mixed Qab (n:=1000) (f:=28) (os0:=[lfO L]) (r:=[]) (S:={sl:=[(6,.bool true)],os:=[lfO (L-1)],lg:=[0]}) (hs:=[nu 12 (L-1),no 17,(0,.unroll 1)]) (by simp) (fun i hi hno=>by
  obtain rfl:i=0:=by simp at hi;omega
  simp at hno) ?_
 refine Eq.mp (by kernel_rfl:(let z0:=(1:Int);An [Sm (V.bool true),wr .i64 (L-z0)=L-z0,decide (L-z0<(0:Int))=false,An [Sm true,Tt],An [Sm [i6 (L-z0)],Tt,Tt],Tt])=_) ?_
 (repeat'(first|(with_reducible apply And.intro)|(refine fun(_:True)=>?_)))<;>first|exact aq|skip
 all_goals skip
theorem Qlb(L:Int)(h1:L=0)(t:List V)(a b:Int)(m:Nat)(A:List V)(ht:t=[i6 a,u6 b,.im m A]):CallSpec Pg g0 (.fn 28 []) [.agg t,i6 2,.ptr 0 0] (ofOs .e 0 [lfO L]) 1 ⟨.bool false,ofOs .e 0 [lfO (L-1)],1,[0]⟩:=by
 subst ht h1
 refine CallSpec.of_vcH (P:=Pg) (E:=vE) vE_ok mixed Qab (n:=1000) (f:=28) (os0:=[lfO 0]) (r:=[]) (S:={sl:=[(6,.bool false)],os:=[lfO (0-1)],lg:=[0]}) (hs:=[]) (by simp) (fun i hi hno=>by
  obtain rfl:i=0:=by simp at hi;omega
  simp at hno) ?_
 refine Eq.mp (by kernel_rfl:(let z0:=((0:Int)-(1:Int));An [Sm (V.bool false),An [Sm false,Tt],An [[i6 z0]=[i6 (wr .i64 z0)],Tt,Tt],Tt])=_) ?_
 (repeat'(first|(with_reducible apply And.intro)|(refine fun(_:True)=>?_)))<;>first|exact aq|skip
 all_goals first|exact congrArg (fun n=>[V.int .i64 n]) (by decide:(0-1:Int)=wr .i64 (0-1))|skip
theorem Qla{t:List V}{b:Bool}{L L':Int}(h:CallSpec Pg g0 (.fn 28 []) [.agg t,i6 2,.ptr 0 0] (ofOs .e 0 [lfO L]) 1 ⟨.bool b,ofOs .e 0 [lfO L'],1,[0]⟩){a e:Int}{m:Nat}{A:List V}(ht:t=[i6 a,u6 e,.im m A]){a1 e1:Int}{m1:Nat}{A1:List V}{a2 e2:Int}{m2:Nat}{A2:List V}:
  CallSpec Pg g0 (.fn 28 []) [.agg t,i6 2,.ptr 0 0] (ofOs .e 0 [lfO L,.row 43 none [i6 a1,u6 e1,.im m1 A1],.row 43 none [i6 a2,u6 e2,.im m2 A2]]) 3 ⟨.bool b,ofOs .e 0 [lfO L',.row 43 none [i6 a1,u6 e1,.im m1 A1],.row 43 none [i6 a2,u6 e2,.im m2 A2]],3,[0]⟩:=by
 subst ht
 refine CallSpec.frameL (OS:=[lfO L,.row 43 none [i6 a1,u6 e1,.im m1 A1],.row 43 none [i6 a2,u6 e2,.im m2 A2]]) (OS':=[lfO L',.row 43 none [i6 a1,u6 e1,.im m1 A1],.row 43 none [i6 a2,u6 e2,.im m2 A2]]) [0] [(0,0)] [0] [0,0,0] h (by kernel_rfl) ?_ ?_ ?_ ?_
 ·refine Eq.mp (by kernel_rfl : (An [An [a = a, e = e, An [m = m, A = A], Tt], Sm (2 : Int), Zz, Tt]) = _) ?_
  (repeat'(first|(with_reducible apply And.intro)|(refine fun(_:True)=>?_)))<;>first|exact aq|skip
 ·refine Eq.mp (by kernel_rfl : (An [An [Sm [i6 L], Tt, Tt], Tt]) = _) ?_
  (repeat'(first|(with_reducible apply And.intro)|(refine fun(_:True)=>?_)))<;>first|exact aq|skip
 ·refine Eq.mp (by kernel_rfl : (b = b) = _) ?_
  (repeat'(first|(with_reducible apply And.intro)|(refine fun(_:True)=>?_)))<;>first|exact aq|skip
 ·refine Eq.mp (by kernel_rfl : (let z1 := O.row 43 none [i6 a1, u6 e1, V.im m1 A1]; let z2 := O.row 43 none [i6 a2, u6 e2, V.im m2 A2]; let z0 := [lfO L, z1, z2]; An [Tt, An [Sm [i6 L'], Tt, Tt], z0[1]? = some z1, z0[1]? = some z1, z0[2]? = some z2, z0[2]? = some z2, Tt]) = _) ?_
  (repeat'(first|(with_reducible apply And.intro)|(refine fun(_:True)=>?_)))<;>first|exact aq|skip
theorem Qis{t:List V}{b:Bool}{L L':Int}(h:CallSpec Pg g0 (.fn 28 []) [.agg t,i6 2,.ptr 0 0] (ofOs .e 0 [lfO L]) 1 ⟨.bool b,ofOs .e 0 [lfO L'],1,[0]⟩){a e:Int}{m:Nat}{A:List V}(ht:t=[i6 a,u6 e,.im m A]){a1 e1:Int}{m1:Nat}{A1:List V}{a2 e2:Int}{m2:Nat}{A2:List V}{a3 e3:Int}{m3:Nat}{A3:List V}:
  CallSpec Pg g0 (.fn 28 []) [.agg t,i6 2,.ptr 0 0] (ofOs .e 0 [lfO L,.row 43 none [i6 a1,u6 e1,.im m1 A1],.row 43 none [i6 a2,u6 e2,.im m2 A2],.row 43 none [i6 a3,u6 e3,.im m3 A3]]) 4 ⟨.bool b,ofOs .e 0 [lfO L',.row 43 none [i6 a1,u6 e1,.im m1 A1],.row 43 none [i6 a2,u6 e2,.im m2 A2],.row 43 none [i6 a3,u6 e3,.im m3 A3]],4,[0]⟩:=by
 subst ht
 refine CallSpec.frameL (OS:=[lfO L,.row 43 none [i6 a1,u6 e1,.im m1 A1],.row 43 none [i6 a2,u6 e2,.im m2 A2],.row 43 none [i6 a3,u6 e3,.im m3 A3]]) (OS':=[lfO L',.row 43 none [i6 a1,u6 e1,.im m1 A1],.row 43 none [i6 a2,u6 e2,.im m2 A2],.row 43 none [i6 a3,u6 e3,.im m3 A3]]) [0] [(0,0)] [0] [0,0,0,0] h (by kernel_rfl) ?_ ?_ ?_ ?_
 ·refine Eq.mp (by kernel_rfl : (An [An [a = a, e = e, An [m = m, A = A], Tt], Sm (2 : Int), Zz, Tt]) = _) ?_
  (repeat'(first|(with_reducible apply And.intro)|(refine fun(_:True)=>?_)))<;>first|exact aq|skip
 ·refine Eq.mp (by kernel_rfl : (An [An [Sm [i6 L], Tt, Tt], Tt]) = _) ?_
  (repeat'(first|(with_reducible apply And.intro)|(refine fun(_:True)=>?_)))<;>first|exact aq|skip
 ·refine Eq.mp (by kernel_rfl : (b = b) = _) ?_
  (repeat'(first|(with_reducible apply And.intro)|(refine fun(_:True)=>?_)))<;>first|exact aq|skip
 ·refine Eq.mp (by kernel_rfl : (let z1 := O.row 43 none [i6 a1, u6 e1, V.im m1 A1]; let z2 := O.row 43 none [i6 a2, u6 e2, V.im m2 A2]; let z3 := O.row 43 none [i6 a3, u6 e3, V.im m3 A3]; let z0 := [lfO L, z1, z2, z3]; An [Tt, An [Sm [i6 L'], Tt, Tt], z0[1]? = some z1, z0[1]? = some z1, z0[2]? = some z2, z0[2]? = some z2, z0[3]? = some z3, z0[3]? = some z3, Tt]) = _) ?_
  (repeat'(first|(with_reducible apply And.intro)|(refine fun(_:True)=>?_)))<;>first|exact aq|skip
theorem Qpm: ∀(k:Nat)(L:Int),2*(k:Int)+1≤L→L≤10000→CallSpec Pg g0 (.fn 28 []) [.agg (dpC k),i6 2,.ptr 0 0] (ofOs .e 0 [lfO L]) 1 ⟨.bool true,ofOs .e 0 [lfO (L-(2*(k:Int)+1))],1,[0]⟩
 | 0, L, h1, h2 => by
  have e:L-(2*((0:Nat):Int)+1)=L-1:=by omega
  rw[e]
  show CallSpec Pg g0 (.fn 28 []) [.agg [i6 1,u6 1,.im 0 []],i6 2,.ptr 0 0] _ _ _
  have h3:1≤L:=by omega
  clear e h1
  refine CallSpec.of_vcH (P:=Pg) (E:=vE) vE_ok mixed Qab (n:=1000) (f:=28) (os0:=[lfO L]) (r:=[]) (S:={sl:=[(6,.bool true)],os:=[lfO (L-1)],lg:=[0]}) (hs:=[nu 12 (L-1),no 17,(0,.unroll 1)]) (by simp) (fun i hi hno=>by
   obtain rfl:i=0:=by simp at hi;omega
   simp at hno) ?_
  refine Eq.mp (by kernel_rfl:(let z0:=(1:Int);An [Sm (V.bool true),wr .i64 (L-z0)=L-z0,decide (L-z0<(0:Int))=false,An [Sm true,Tt],An [Sm [i6 (L-z0)],Tt,Tt],Tt])=_) ?_
  (repeat'(first|(with_reducible apply And.intro)|(refine fun(_:True)=>?_)))<;>first|exact aq|skip
  all_goals skip
 | k + 1, L, h1, h2 => by
  obtain⟨a,e,m,A,hd⟩:=Qf5 k
  have ih:=Qpm k (L-1) (by omega) (by omega)
  have hz:=valid_0 (L-1-(2*(k:Int)+1)) (by omega) (by omega)
  have e2:L-(2*((k+1:Nat):Int)+1)=L-1-(2*(k:Int)+1)-1:=by omega
  rw[e2]
  obtain⟨L1,hL1⟩: ∃L1,L1=L-1:=⟨_,rfl⟩
  obtain⟨L2,hL2⟩: ∃L2,L2=L1-(2*(k:Int)+1):=⟨_,rfl⟩
  obtain⟨L3,hL3⟩: ∃L3,L3=L2-1:=⟨_,rfl⟩
  rw[←hL1]at ih hz⊢
  rw[←hL2]at ih hz⊢
  rw[←hL3]at hz⊢
  have c1:=Qla ih hd (a1:=3) (e1:=0) (m1:=2) (A1:=[i6 a,u6 e,.im m A,i6 3,u6 0,.im 0 []]) (a2:=a) (e2:=e) (m2:=m) (A2:=A)
  have c2:=Qis hz (a:=3) (e:=0) (m:=0) (A:=[]) rfl (a1:=3) (e1:=0) (m1:=2) (A1:=[i6 a,u6 e,.im m A,i6 3,u6 0,.im 0 []]) (a2:=a) (e2:=e) (m2:=m) (A2:=A) (a3:=3) (e3:=0) (m3:=0) (A3:=[])
  show CallSpec Pg g0 (.fn 28 []) [.agg [i6 3,u6 0,.im 2 (dpC k++[i6 3,u6 0,.im 0 []])],i6 2,.ptr 0 0] _ _ _
  rw[hd]at c1⊢
  have h3:1≤L:=by omega
  clear e2 ih hz h1 hL2 hL3
  refine CallSpec.of_vcH (P:=Pg) (E:=vE) vE_ok mixed Qab (n:=1000) (f:=28) (os0:=[lfO L]) (r:=[]) (S:={sl:=[(6,.bool true)],os:=[lfO L3],lg:=[0]}) (hs:=[nu 12 L1,no 17,(0,.unroll 3),(65,.call ⟨.bool true,ofOs .e 0 [lfO L2,.row 43 none [i6 3,u6 0,.im 2 [i6 a,u6 e,.im m A,i6 3,u6 0,.im 0 []]],.row 43 none [i6 a,u6 e,.im m A]],3,[0]⟩),(65,.call ⟨.bool true,ofOs .e 0 [lfO L3,.row 43 none [i6 3,u6 0,.im 2 [i6 a,u6 e,.im m A,i6 3,u6 0,.im 0 []]],.row 43 none [i6 a,u6 e,.im m A],.row 43 none [i6 3,u6 0,.im 0 []]],4,[0]⟩)]) (by simp) (fun i hi hno=>by
   obtain rfl:i=0:=by simp at hi;omega
   simp at hno) ?_
  refine Eq.mp (by kernel_rfl:(let z1:=[i6 a,u6 e,V.im m A];let z2:=O.row 43 none [i6 0,u6 0,V.nils];let z3:=V.bool true;let z0:=O.row 43 none z1;An [z3=z3,wr .i64 (L-(1:Int))=L1,decide (L1<(0:Int))=false,CallSpec Pg g0 (V.fn 28 []) [V.agg z1,i6 2,V.ptr 0 0] (pt (pt (pt (pt (ofOs T.e 0 [lfO L]) 1 (O.row 43 none [i6 3,u6 0,V.im 2 (z1++[i6 3,u6 0,V.im 0 []])])) 0 (O.row 3 none [i6 L1])) 2 z2) 2 z0) 3 (CR.mk z3 (ofOs T.e 0 [lfO L2,O.row 43 none [i6 3,u6 0,V.im 2 [i6 a,u6 e,V.im m A,i6 3,u6 0,V.im 0 []]],z0]) 3 [0]),Tt,CallSpec Pg g0 (V.fn 28 []) [V.agg [i6 3,u6 0,V.im 0 []],i6 2,V.ptr 0 0] (pt (pt (ofOs T.e 0 [lfO L2,O.row 43 none [i6 3,u6 0,V.im 2 [i6 a,u6 e,V.im m A,i6 3,u6 0,V.im 0 []]],z0]) 3 z2) 3 (O.row 43 none [i6 3,u6 0,V.im 0 []])) 4 (CR.mk z3 (ofOs T.e 0 [lfO L3,O.row 43 none [i6 3,u6 0,V.im 2 [i6 a,u6 e,V.im m A,i6 3,u6 0,V.im 0 []]],z0,O.row 43 none [i6 3,u6 0,V.im 0 []]]) 4 [0]),Tt,An [Sm true,Tt],An [Sm [i6 L3],Tt,Tt],Tt])=_) ?_
  (repeat'(first|(with_reducible apply And.intro)|(refine fun(_:True)=>?_)))<;>first|exact aq|skip
  all_goals first|exact c1|exact c2|skip
theorem valid_dn: ∀(k:Nat),k≤4000→CallSpec Pg g0 (.fn 28 []) [.agg (dpC k),i6 2,.ptr 0 0] (ofOs .e 0 [lfO (2*(k:Int))]) 1 ⟨.bool false,ofOs .e 0 [lfO (-1)],1,[0]⟩
 |0,_=>by
  have:=Qlb 0 rfl (dpC 0) 1 1 0 [] rfl
  exact this
 | k + 1, hk => by
  obtain⟨a,e,m,A,hd⟩:=Qf5 k
  have ih:=Qpm k (2*(k:Int)+1) (by omega) (by omega)
  have e2:(2*((k+1:Nat):Int))=2*(k:Int)+1+1:=by omega
  rw[e2]
  rw[Int.sub_self]at ih
  have hz:=Qlb 0 rfl [i6 3,u6 0,.im 0 []] 3 0 0 [] rfl
  obtain⟨L1,hL1⟩: ∃L1,L1=2*(k:Int)+1:=⟨_,rfl⟩
  rw[←hL1]at ih⊢
  have c1:=Qla ih hd (a1:=3) (e1:=0) (m1:=2) (A1:=[i6 a,u6 e,.im m A,i6 3,u6 0,.im 0 []]) (a2:=a) (e2:=e) (m2:=m) (A2:=A)
  have c2:=Qis hz (a:=3) (e:=0) (m:=0) (A:=[]) rfl (a1:=3) (e1:=0) (m1:=2) (A1:=[i6 a,u6 e,.im m A,i6 3,u6 0,.im 0 []]) (a2:=a) (e2:=e) (m2:=m) (A2:=A) (a3:=3) (e3:=0) (m3:=0) (A3:=[])
  have c2:CallSpec Pg g0 _ _ _ _ ⟨_,ofOs .e 0 [lfO (-1),_,_,_],_,_⟩:=c2
  show CallSpec Pg g0 (.fn 28 []) [.agg [i6 3,u6 0,.im 2 (dpC k++[i6 3,u6 0,.im 0 []])],i6 2,.ptr 0 0] _ _ _
  rw[hd]at c1⊢
  have h3:0≤L1:=by omega
  have h4:L1≤10000:=by omega
  clear e2 ih hz hL1
  refine CallSpec.of_vcH (P:=Pg) (E:=vE) vE_ok mixed Qab (n:=1000) (f:=28) (os0:=[lfO (L1+1)]) (r:=[]) (S:={sl:=[(6,.bool false)],os:=[lfO (-1)],lg:=[0]}) (hs:=[nu 12 L1,no 17,(0,.unroll 3),(65,.call ⟨.bool true,ofOs .e 0 [lfO 0,.row 43 none [i6 3,u6 0,.im 2 [i6 a,u6 e,.im m A,i6 3,u6 0,.im 0 []]],.row 43 none [i6 a,u6 e,.im m A]],3,[0]⟩),(65,.call ⟨.bool false,ofOs .e 0 [lfO (-1),.row 43 none [i6 3,u6 0,.im 2 [i6 a,u6 e,.im m A,i6 3,u6 0,.im 0 []]],.row 43 none [i6 a,u6 e,.im m A],.row 43 none [i6 3,u6 0,.im 0 []]],4,[0]⟩)]) (by simp) (fun i hi hno=>by
   obtain rfl:i=0:=by simp at hi;omega
   simp at hno) ?_
  refine Eq.mp (by kernel_rfl:(let z1:=[i6 a,u6 e,V.im m A];let z2:=O.row 43 none [i6 0,u6 0,V.nils];let z3:=V.bool false;let z0:=O.row 43 none z1;An [z3=z3,wr .i64 (L1+(1:Int)-(1:Int))=L1,decide (L1<(0:Int))=false,CallSpec Pg g0 (V.fn 28 []) [V.agg z1,i6 2,V.ptr 0 0] (pt (pt (pt (pt (ofOs T.e 0 [lfO (L1+(1:Int))]) 1 (O.row 43 none [i6 3,u6 0,V.im 2 (z1++[i6 3,u6 0,V.im 0 []])])) 0 (O.row 3 none [i6 L1])) 2 z2) 2 z0) 3 (CR.mk (V.bool true) (ofOs T.e 0 [lfO (0:Int),O.row 43 none [i6 3,u6 0,V.im 2 [i6 a,u6 e,V.im m A,i6 3,u6 0,V.im 0 []]],z0]) 3 [0]),Tt,CallSpec Pg g0 (V.fn 28 []) [V.agg [i6 3,u6 0,V.im 0 []],i6 2,V.ptr 0 0] (pt (pt (ofOs T.e 0 [lfO (0:Int),O.row 43 none [i6 3,u6 0,V.im 2 [i6 a,u6 e,V.im m A,i6 3,u6 0,V.im 0 []]],z0]) 3 z2) 3 (O.row 43 none [i6 3,u6 0,V.im 0 []])) 4 (CR.mk z3 (ofOs T.e 0 [lfO (-1:Int),O.row 43 none [i6 3,u6 0,V.im 2 [i6 a,u6 e,V.im m A,i6 3,u6 0,V.im 0 []]],z0,O.row 43 none [i6 3,u6 0,V.im 0 []]]) 4 [0]),Tt,An [Sm false,Tt],An [Sm [i6 (-1)],Tt,Tt],Tt])=_) ?_
  (repeat'(first|(with_reducible apply And.intro)|(refine fun(_:True)=>?_)))<;>first|exact aq|skip
  all_goals first|exact c1|exact c2|skip
noncomputable def preR(E:Env)(n:Nat):Nat→Code→St→Option (St×Code)
 |0,X,st=>some (st,X)
 | k + 1, X, st => match X with
  | .seq c Y=>match exec E n none c st with
   |some [(.normal,st')]=>preR E n k Y st'
   | _=>none
  | _=>none
theorem Qow{E:Env}(hE:E.Ok Pg){n nx0:Nat}{R:Ex→St→Prop}: ∀{k:Nat}{X Y:Code}{st st':St},preR E n k X st=some (st',Y)→Sat Pg none nx0 Y st' R→Sat Pg none nx0 X st R
 |0,X,Y,st,st',h,hY=>by cases h;exact hY
 | k + 1, X, Y, st, st', h, hY => by
  unfold preR at h
  split at h
  ·rename_i c Z
   split at h
   ·rename_i st1 h1
    refine Sat.seq (R':=fun e s=>e= .normal∧s=st1) ?_ (fun s⟨_,e⟩=>by subst e;exact Qow hE h hY) (fun e s hne⟨he,_⟩=>absurd he hne)
    intro B s0 w0 s w a hn hB hrd A Q hQ
    exact(Qbh hE mixed n).one none c st st1 .normal s w a B h1 A.rel (Nat.le_trans hB A.step.mod.size) (fun h e=>by cases e) Q (fun a' w'⟨lg,s',W⟩=>hQ .normal st1 ⟨rfl,rfl⟩ s' w' a' (A.went W))
   ·cases h
  ·cases h
noncomputable def preP(nx0 N:Nat)(r:List Nat)(S:SL):Option (St×Code)→Prop
 |some (st,_)=>(st.tm.gl=g0∧Nat.beq st.tm.n N=true)∧gcP nx0 r st S
 |none=>False
theorem Qjf{E:Env}(hE:E.Ok Pg){n nx0 k N:Nat}{X Y:Code}{st:St}{r:List Nat}{S:SL}{R:Ex→St→Prop}(h1:(preR E n k X st).map (·.2)=some Y)(h2:preP nx0 N r S (preR E n k X st))(hY:Sat Pg none nx0 Y (mkSt g0 N S) R):Sat Pg none nx0 X st R:=by
 cases hp:preR E n k X st with
 |none=>rw[hp]at h1;cases h1
 |some q=>
  obtain⟨st',Y'⟩:=q
  rw[hp]at h1 h2
  obtain rfl:Y'=Y:=by simpa using h1
  obtain⟨⟨g1,g2⟩,g3⟩:=h2
  have g2:=Nat.eq_of_beq_eq_true g2
  refine Qow hE hp (Sat.gc (Qdi g3) ?_)
  rw[g1,g2];exact hY
theorem FnOk.of_sat{f:Nat}{ars:List V}{v:V}{fi:FI}(hfi:vE.code f=some fi)(hle:Nat.ble ars.length fi.ntmps=true)(hv:hfB v=true)(h:Sat Pg none 0 fi.body ⟨⟨putAll (blank fi.ntmps) 0 ars,g0,fi.ntmps⟩,.e,0,[]⟩ (fun e st=>(e= .normal∨e= .ret)∧retV vE.G st.tm st.H fi.res=some v)):FnOk Pg g0 f ars v:=by
 refine CallSpec.fnC vE_ok hfi (by rw[List.append_nil];exact hle) (Log.refl _ _ _) (by rw[List.append_nil];exact h) ?_
 rintro e st ⟨he,hret⟩
 refine⟨he,v,hret,fun s w ee w' hH hn⟨u,s',h1,g1,g2,g3,_,_⟩=>?_⟩
 subst h1
 obtain⟨s'',q1,q2,q3,q4⟩:=Qaz hH g1 (Qf9.1 v hv) g3 (fun h _=>hn h (Nat.zero_le _)) (fun b hb=>g2.old b (.inl hb))
 exact⟨u,s'',rfl,q1,q2,q3,fun i=>by rw[q4];exact dom_same s _ i,Nat.le_refl _⟩
noncomputable def kRet(E:Env)(res:List ResultVar)(v:V):KF:=fun e _ st=>match e with
 | .normal=>retP v (retV E.G st.tm st.H res)
 | .ret=>retP v (retV E.G st.tm st.H res)
 | _=>False
theorem kRet_ok{E:Env}{res:List ResultVar}{v:V}{e:Ex}{hs:Hs}{st:St}(h:kRet E res v e hs st):(e= .normal∨e= .ret)∧retV E.G st.tm st.H res=some v:=by
 have key:retP v (retV E.G st.tm st.H res)→retV E.G st.tm st.H res=some v:=fun hret=>by
  unfold retP at hret
  split at hret
  ·rename_i u e;rw[e,hret]
  ·exact hret.elim
 cases e with
 |normal=>exact⟨.inl rfl,key h⟩
 |ret=>exact⟨.inr rfl,key h⟩
 |exit=>exact h.elim
 |pan=>exact h.elim
abbrev evO(A:List V):List O:=[.row 40 none [il [0,1],il [2,2],il [1,0,0,0]],.row 43 none [i6 3,u6 0,.im 2 A],.row 49 none [i6 0,i6 0],.row 33 none [i6 0]]
theorem Qne(A:List V)(hv:CallSpec Pg g0 (.fn 28 []) [.agg [i6 3,u6 0,.im 2 A],i6 2,.ptr 0 0] (ofOs .e 0 [lfO 5000]) 1 ⟨.bool false,ofOs .e 0 [lfO (-1)],1,[0]⟩):FnOk Pg g0 12 [fbV,.agg [i6 3,u6 0,.im 2 A],il [0,0]] (qV 0 0 352):=by
 have hcall:CallSpec Pg g0 (.fn 28 []) [.agg [i6 3,u6 0,.im 2 A],i6 2,.ptr 4 0] (ofOs .e 0 (evO A++[lfO 5000])) 5 ⟨.bool false,ofOs .e 0 (evO A++[lfO (-1)]),5,[4]⟩:=by
  refine CallSpec.frameL (OS:=evO A++[lfO 5000]) (OS':=evO A++[lfO (-1)]) [4] [(4,0)] [0] [0,0,0,0,0] hv (by kernel_rfl) ?_ ?_ ?_ ?_
  ·refine Eq.mp (by kernel_rfl : (An [An [Sm (3 : Int), Sm (0 : Int), An [2 = 2, A = A], Tt], Sm (2 : Int), Zz, Tt]) = _) ?_
   (repeat'(first|(with_reducible apply And.intro)|(refine fun(_:True)=>?_)))<;>first|exact aq|skip
  ·refine Eq.mp (by kernel_rfl : (An [An [Sm [i6 5000], Tt, Tt], Tt]) = _) ?_
   (repeat'(first|(with_reducible apply And.intro)|(refine fun(_:True)=>?_)))<;>first|exact aq|skip
  ·refine Eq.mp (by kernel_rfl : (Sm false) = _) ?_
   (repeat'(first|(with_reducible apply And.intro)|(refine fun(_:True)=>?_)))<;>first|exact aq|skip
  ·refine Eq.mp (by kernel_rfl : (let z0 := (evO A ++ [lfO (5000 : Int)]); let z1 := some (O.row 40 none [il [0, 1], il [2, 2], il [1, 0, 0, 0]]); let z2 := some (O.row 43 none [i6 3, u6 0, V.im 2 A]); let z3 := some (O.row 49 none [i6 0, i6 0]); let z4 := some (O.row 33 none [i6 0]); An [z0[0]? = z1, z0[0]? = z1, z0[1]? = z2, z0[1]? = z2, z0[2]? = z3, z0[2]? = z3, z0[3]? = z4, z0[3]? = z4, Tt, An [Sm [i6 (-1)], Tt, Tt], Tt]) = _) ?_
   (repeat'(first|(with_reducible apply And.intro)|(refine fun(_:True)=>?_)))<;>first|exact aq|skip
 obtain⟨fi,hfi,hb,hn,hr⟩: ∃fi,vE.code 12=some fi∧fi.body=at' 12 []∧fi.ntmps=90∧fi.res=evR:=by
  have e1:(vE.code 12).map (·.body)=some (at' 12 []):=by kernel_rfl
  have e2:(vE.code 12).map (·.ntmps)=some 90:=by kernel_rfl
  have e3:(vE.code 12).map (·.res)=some evR:=by kernel_rfl
  cases hfi:vE.code 12 with
  |none=>rw[hfi]at e1;cases e1
  |some fi=>
   rw[hfi]at e1 e2 e3
   exact⟨fi,rfl,Option.some.inj e1,Option.some.inj e2,Option.some.inj e3⟩
 refine FnOk.of_sat hfi (by rw[hn];rfl) rfl ?_
 rw[hb,hn,hr]
 refine Qjf (E:=vE) vE_ok (n:=100000) (k:=5) (N:=90) (Y:=at' 12 [1,1,1,1,1]) (r:=[0,1,2,3]) (S:={sl:=[(2,il [0,0]),(3,.ptr 0 0),(4,.ptr 1 0),(6,.ptr 2 0),(7,.ptr 3 0)],os:=evO A,md:=[0,0,0,0]}) (by kernel_rfl) ?_ ?_
 ·refine Eq.mp (by kernel_rfl : (An [An [g0 = g0, Nat.beq 90 90 = true], An [An [2 = 2, Sm (it [0, 0])], Zz, Zz, Zz, Zz, Tt], An [Sm [il [0, 1], il [2, 2], il [1, 0, 0, 0]], TT 3], An [Sm [i6 3, u6 0, V.im 2 A], TT 3], An [Sm [i6 0, i6 0], TT 2], An [Sm [i6 0], Tt, Tt], Tt]) = _) ?_
  (repeat'(first|(with_reducible apply And.intro)|(refine fun(_:True)=>?_)))<;>first|exact aq|skip
 ·have h2 : vc Pg vE sp0 none 0 1000 (at' 12 [1, 1, 1, 1, 1]) [(53, .call ⟨.bool false, ofOs .e 0 (evO A ++ [lfO (-1)]), 5, [4]⟩)] (mkSt g0 90 { sl := [(2, il [0, 0]), (3, .ptr 0 0), (4, .ptr 1 0), (6, .ptr 2 0), (7, .ptr 3 0)], os := evO A, md := [0, 0, 0, 0] }) (kRet vE evR (qV 0 0 352)) := by
   refine Eq.mp (by kernel_rfl:(An [CallSpec Pg g0 (V.fn 28 []) [V.agg [i6 3,u6 0,V.im 2 A],i6 ↑(2:Nat),V.ptr 4 0] (pt (pt (ofOs T.e 0 (evO A)) 4 (O.row 3 none [i6 0])) 4 (O.row 3 none [i6 5000])) 5 (CR.mk (V.bool false) (ofOs T.e 0 (evO A++[lfO (-1:Int)])) 5 [4]),Tt,V.tup [V.agg [i6 0,i6 0],i6 352]=qV (0:Int) (0:Int) 352])=_) ?_
   (repeat'(first|(with_reducible apply And.intro)|(refine fun(_:True)=>?_)))<;>first|exact aq|skip
   all_goals first|exact hcall|skip
  exact Sat.of_vc vE_ok mixed Qab rfl h2 fun e hs st hg hk=>kRet_ok hk
theorem Qnd:FnOk Pg g0 12 [fbV,.agg (dpC 2500),il [0,0]] (qV 0 0 352):=Qne _ (valid_dn 2500 (by decide))
end Go.Proofs.Ytbmegckcapfdkaa.Am
