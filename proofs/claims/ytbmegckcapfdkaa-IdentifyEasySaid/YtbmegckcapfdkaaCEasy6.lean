/- Texts behind the claim, part 6: the abstract machine, and what the functions answer. No condition. -/
import Derived.Test.YtbmegckcapfdkaaCEasy5
set_option linter.unusedVariables false
set_option linter.unusedSimpArgs false
set_option linter.unusedSectionVars false
namespace Go.Proofs.Ytbmegckcapfdkaa.Am
open Go.RowKit
def Es.kind:Es→Nat
 | .mk k _ _=>k
def EsG(x:Es):Prop:=EsB x∧x.kind≠0
theorem EsG.mk{k v:Nat}{l:List Es}(hk:k≠0)(hl:l.length≤1000)(h: ∀x∈l,EsG x):EsG (.mk k v l):=⟨.mk hl fun x hx=>(h x hx).1,hk⟩
theorem sumE_good{s:Nat}{x:Es}(h:EsG x):EsG (sumE s x):=by
 obtain⟨k,v,l⟩:=x
 rw[sumE]
 split
 ·exact h
 ·split
  ·exact .mk (by decide) (by simp) (fun x hx=>by cases hx)
  ·exact .mk (by decide) (by simp) (fun x hx=>by obtain rfl:=List.mem_singleton.1 hx;exact h)
theorem Qf3{l:List Es}(hl:l.length≤1000)(h: ∀x∈l,EsG x):EsG (Qch l):=by
 unfold Qch
 split
 ·exact h _ (List.mem_singleton.2 rfl)
 ·exact .mk (by decide) hl h
theorem Qoe{s b n:Nat}{q:Es}(h:EsG q):EsG (facE s b n q):=by
 unfold facE
 split
 ·exact sumE_good h
 ·refine .mk (by decide) (by simp) (fun x hx => ?_)
  simp only[List.mem_cons,List.not_mem_nil,or_false]at hx
  rcases hx with rfl|rfl<;>exact sumE_good h
theorem Qlv{d s:Nat}{q:Es}{od:List Nat}(h:EsG q): ∀k,∀x∈(paF d s q od k).2,EsG x
 |0,x,hx=>by cases hx
 | k + 1, x, hx => by
  have ih:=Qlv (d:=d) (s:=s) (od:=od) h k
  unfold paF at hx
  split at hx
  ·dsimp only at hx
   split at hx
   ·rcases List.mem_append.1 hx with hx | hx
    ·exact ih x hx
    ·obtain rfl := List.mem_singleton.1 hx
     exact Qoe h
   ·exact ih x hx
  ·exact ih x hx
theorem Qgx{d s:Nat}{q:Es}{od:List Nat}(hod:od.length≤64)(h:EsG q):EsG (partE d s q od):=by
 unfold partE
 split
 ·exact h
 ·exact Qf3 (Nat.le_trans (Qh2 _) (by omega)) (Qlv h _)
theorem Qia{j od:List Nat}{c a:Nat}{x:Nat×Es}(hod:od.length≤64)(h:EsG x.2): ∀k,EsG (tqF j c a od x k).2
 |0=>h
 |k+1=>by
  unfold tqF
  split
  ·exact Qgx hod (Qia hod h k)
  ·exact Qia hod h k
theorem Qk8{p j od:List Nat}{c:Nat}(hod:od.length≤64): ∀(f:Nat){x:Nat×Es}{y:Es},EsG x.2→fiW p j od c f x=some (.inl y)→EsG y
 |0,x,y,hx,h=>by
  unfold fiW at h
  split at h
  ·cases h;exact hx
  ·cases h
 | f + 1, x, y, hx, h => by
  unfold fiW at h
  split at h
  ·cases h;exact hx
  ·split at h
   ·cases h
   ·exact Qk8 hod f (Qia hod (sumE_good hx) _) h
theorem Qlf{p j od:List Nat}{all F c:Nat}(hod:od.length≤64){fs:List Es}(h0: ∀x∈fs,EsG x): ∀(k:Nat){gs:List Es},inW p j od all F c fs k=some (.inl gs)→∀x∈gs,EsG x
 |0,gs,h=>by unfold inW at h;cases h;exact h0
 | k + 1, gs, h => by
  unfold inW at h
  split at h
  ·rename_i g hg
   have ih:=Qlf hod h0 k hg
   split at h
   ·split at h
    ·rename_i x hx
     cases h
     intro y hy
     rcases List.mem_append.1 hy with hy|hy
     ·exact ih y hy
     ·obtain rfl := List.mem_singleton.1 hy
      exact Qk8 hod F (Qgx hod (.mk (by decide) (by simp) (fun x hx=>by cases hx))) hx
    ·cases h
    ·cases h
   ·cases h;exact ih
  ·rename_i r hr
   exact absurd h (hr gs)
theorem Qlr{p j od:List Nat}{all F asked:Nat}(hod:od.length≤64): ∀(k:Nat){gs:List Es},ouW p j od all F asked k=some (.inl gs)→∀x∈gs,EsG x
 |0,gs,h=>by unfold ouW at h;cases h;intro x hx;cases hx
 | k + 1, gs, h => by
  unfold ouW at h
  split at h
  ·rename_i g hg
   exact Qlf hod (Qlr hod k hg) _ h
  ·rename_i r hr
   exact absurd h (hr gs)
theorem Qh6{p j od:List Nat}{xs ys F:Nat}(hod:od.length≤64)(hfl: ∀s,s<18446744073709551616→(rn j s+1)*rn j (alN p.length)≤1000){x:Es}(h:soE p j xs ys od F=some (.inl x)):EsG x:=by
 unfold soE at h
 split at h
 ·rename_i fs hfs
  cases h
  refine sumE_good (Qf3 ?_ (Qlr hod _ hfs))
  have h1:=Qeb hfs
  have h2:=hfl (clo (ys&&& mi (alN p.length) xs) (mi (alN p.length) xs) p) (Qdc (Nat.lt_of_le_of_lt Nat.and_le_right Qbd) Qbd)
  rw[Nat.succ_mul]at h2
  omega
 ·cases h
 ·cases h
set_option maxHeartbeats 1000000
set_option maxRecDepth 100000
noncomputable def id_(q:List Nat):Code:=at' 18 q
noncomputable def id3:Array Oper:=rgOps (id_ [1,1,0])
abbrev idR:List ResultVar:=[.cell 8 43,.cell 9 63,.cell 10 33]
theorem Qot: ∃fi,vE.code 18=some fi∧fi.body= .seq (id_ [0]) (.seq (id_ [1,0]) (.seq (.region (rgId (id_ [1,1,0])) id3 false) (id_ [1,1,1])))∧fi.ntmps=39∧fi.res=idR:=by
 have e1:(vE.code 18).map (·.body)=some (.seq (id_ [0]) (.seq (id_ [1,0]) (.seq (.region (rgId (id_ [1,1,0])) id3 false) (id_ [1,1,1])))):=by kernel_rfl
 have e2:(vE.code 18).map (·.ntmps)=some 39:=by kernel_rfl
 have e3:(vE.code 18).map (·.res)=some idR:=by kernel_rfl
 cases hfi:vE.code 18 with
 |none=>rw[hfi]at e1;cases e1
 |some fi=>
  rw[hfi]at e1 e2 e3
  exact⟨fi,rfl,Option.some.inj e1,Option.some.inj e2,Option.some.inj e3⟩
abbrev idS(p j:List Nat)(xs ys:Nat):List (Nat×V):=[(0,ul p),(1,ul j),(2,u6 (xs:Nat)),(3,u6 (ys:Nat)),(8,.ptr 0 0),(9,.ptr 1 0),(10,.ptr 2 0)]
abbrev idC:List (Nat×V):=[(8,.ptr 0 0),(9,.ptr 1 0),(10,.ptr 2 0)]
noncomputable abbrev idH:T O:=pt (pt (pt .e 0 esZ) 1 (hgO (0,0,0))) 2 (erO 0)
def idQ(k v n:Nat)(X:List V)(h:Nat×Nat×Nat)(e:Nat)(H:T O):Prop:=gt H 0=some (esO k v n X)∧gt H 1=some (hgO h)∧gt H 2=some (erO e)
theorem id_ret{H:T O}{tm:TM}{c0 c1 c2:List V}{t0 t1 t2:Nat}{s0 s1 s2:Option Nat}{v0 v1 v2:V}(hs:slotsQ tm idC)(h0:gt H 0=some (.row t0 s0 c0))(h1:gt H 1=some (.row t1 s1 c1))(h2:gt H 2=some (.row t2 s2 c2))
  (e0:(match vE.G.ty 43 with|some ti=>loadC ti c0|none=>none)=some v0)(e1:(match vE.G.ty 63 with|some ti=>loadC ti c1|none=>none)=some v1)(e2:(match vE.G.ty 33 with|some ti=>loadC ti c2|none=>none)=some v2):
  retV vE.G tm H idR=some (.tup [v0,v1,v2]):=by
 rw[Qal]at h0 h1 h2
 obtain⟨q0,q1,q2,_⟩:=hs
 have key: ∀(i h t:Nat)(tt:Nat)(ss:Option Nat)(c:List V)(v:V),(match gt tm.sl i with|some y=>y=V.ptr h 0|none=>False)→H.get h=some (.row tt ss c)→(match vE.G.ty t with|some ti=>loadC ti c|none=>none)=some v→resV vE.G tm H (.cell i t)=some v:=by
  intro i h t tt ss c v hg hH hv
  split at hg
  ·rename_i y hy
   subst hg
   rw[Qal]at hy
   cases ht:vE.G.ty t with
   |none=>rw[ht]at hv;cases hv
   |some ti=>rw[ht]at hv;simp only[resV,hy,ht,hH];exact hv
  ·exact hg.elim
 unfold retV resVs resVs resVs resVs
 rw[key _ _ _ _ _ _ _ q0 h0 e0,key _ _ _ _ _ _ _ q1 h1 e1,key _ _ _ _ _ _ _ q2 h2 e2]
theorem id_retQ{H:T O}{tm:TM}{k v n e:Nat}{X:List V}{h:Nat×Nat×Nat}(hs:slotsQ tm idC)(hq:idQ k v n X h e H):retV vE.G tm H idR=some (.tup [.agg [i6 (k:Nat),u6 (v:Nat),.im n X],hgV h,i6 (e:Nat)]):=
 id_ret hs hq.1 hq.2.1 hq.2.2 (by kernel_rfl) (by kernel_rfl) (by kernel_rfl)
theorem Qou{H:T O}{tm:TM}{e:Nat}{h:Nat×Nat×Nat}(hs:slotsQ tm idC)(h0:gt H 0=some esZ)(h1:gt H 1=some (hgO h))(h2:gt H 2=some (erO e)):retV vE.G tm H idR=some (.tup [.agg [i6 0,u6 0,.nils],hgV h,i6 (e:Nat)]):=
 id_ret hs h0 h1 h2 (by kernel_rfl) (by kernel_rfl) (by kernel_rfl)
noncomputable def kIdE(e:Nat):KF:=fun ex _ st=>match ex with
 | .ret=>slotsQ st.tm idC∧gt st.H 0=some esZ∧gt st.H 1=some (hgO (0,0,0))∧gt st.H 2=some (erO e)
 | _=>False
noncomputable def kIdN(k v n:Nat)(X:List V):KF:=fun ex _ st=>match ex with
 | .ret=>slotsQ st.tm idC∧idQ k v n X (0,0,0) 0 st.H
 | _=>False
noncomputable def kIdP(h:Nat×Nat×Nat):KF:=fun ex _ st=>match ex with
 | .pan v=>v=hgP h∧slotsQ st.tm idC∧gt st.H 0=some esZ∧gt st.H 1=some (hgO (0,0,0))∧gt st.H 2=some (erO 0)∧st.nx=5
 | _=>False
theorem Sat.kAsg{rd:Option Nat}{nx0 m n nx nx':Nat}{c:Code}{hs:Hs}{sl sl':List (Nat×V)}{H H':T O}{lg lg':List Nat}(h:vc Pg vE sp0 rd nx0 m c hs (mkSo g0 n sl H nx lg) (Qbx n sl' H' nx' lg')):Sat Pg rd nx0 c (mkSo g0 n sl H nx lg) (fun e st=>e= .normal∧st=mkSo g0 n sl' H' nx' lg'):=by
 refine Sat.fewer_post (Sat.of_vc vE_ok Qaf Qab rfl h fun e hs' st' hgl hk=>?_)
 unfold Qbx at hk
 split at hk
 ·obtain ⟨hb1, q1, q2, q3, q4⟩ := Qad hk
  have hn':=Nat.eq_of_beq_eq_true hb1
  exact⟨sl',q1,rfl,by rw[q2,q3,q4,hn',hgl];rfl⟩
 ·exact hk.elim
section
variable (p j:List Nat) (xs ys:Nat)
theorem id_vc0(hp:HfL (ut p))(hj:HfL (ut j)):vc Pg vE sp0 none 0 1000 (id_ [0]) [] (mkSo g0 39 [(0,ul p),(1,ul j),(2,u6 (xs:Nat)),(3,u6 (ys:Nat))] .e 0 []) (Qbx 39 (idS p j xs ys) idH 3 []):=by
 refine Eq.mp (by kernel_rfl:(An [An [Sm (ul p),Sm (ul j),Sm (u6 ↑xs),Sm (u6 ↑ys),Sm (V.ptr 0 0),Sm (V.ptr 1 0),Sm (V.ptr 2 0),Tt],pt (pt (pt T.e 0 (O.row 43 none [i6 0,u6 0,V.nils])) 1 (O.row 63 none [u6 0,u6 0,u6 0])) 2 (O.row 33 none [i6 0])=idH,3=3,([]:List Nat)=[]])=_) ?_
 (repeat'(first|(with_reducible apply And.intro)|(refine fun(_:True)=>?_)))
 all_goals first|rfl|exact trivial|skip
theorem id_vc1(hp:HfL (ut p))(hj:HfL (ut j))(ha:FnOk Pg g0 34 [ul p,ul j,u6 (xs:Nat),u6 (ys:Nat)] (i6 (0:Nat))):vc Pg vE sp0 none 0 1000 (id_ [1,0]) [fn 18 (i6 (0:Nat))] (mkSo g0 39 (idS p j xs ys) idH 3 []) (Qbx 39 (idS p j xs ys) idH 3 []):=by
 refine Eq.mp (by kernel_rfl:(An [TT 4,FnOk Pg g0 34 [V.im p.length (ut p),V.im j.length (ut j),u6 ↑xs,u6 ↑ys] (i6 ↑(0:Nat)),Tt,An [Sm (ul p),Sm (ul j),Sm (u6 ↑xs),Sm (u6 ↑ys),Sm (V.ptr 0 0),Sm (V.ptr 1 0),Sm (V.ptr 2 0),Tt],idH=idH,3=3,([]:List Nat)++[]=[]])=_) ?_
 (repeat'(first|(with_reducible apply And.intro)|(refine fun(_:True)=>?_)))
 all_goals first|rfl|exact trivial|exact ha|skip
theorem id_vc1e(hp:HfL (ut p))(hj:HfL (ut j))(e:Nat)(he:e≠0)(ha:FnOk Pg g0 34 [ul p,ul j,u6 (xs:Nat),u6 (ys:Nat)] (i6 (e:Nat))):vc Pg vE sp0 none 0 1000 (id_ [1,0]) [fn 18 (i6 (e:Nat)),yes 20] (mkSo g0 39 (idS p j xs ys) idH 3 []) (kIdE e):=by
 refine Eq.mp (by kernel_rfl:(let z0:=pt (pt (pt idH 0 (O.row 43 none [i6 0,u6 0,V.nils])) 1 (O.row 63 none [u6 0,u6 0,u6 0])) 2 (O.row 33 none [i6 ↑e]);An [TT 4,FnOk Pg g0 34 [V.im p.length (ut p),V.im j.length (ut j),u6 ↑xs,u6 ↑ys] (i6 ↑e),Tt,((↑e:Int) != (0:Int))=true,An [Sm (V.ptr 0 0),Sm (V.ptr 1 0),Sm (V.ptr 2 0),Tt],gt z0 0=some esZ,gt z0 1=some (hgO (0,0,0)),gt z0 2=some (erO e)])=_) ?_
 (repeat'(first|(with_reducible apply And.intro)|(refine fun(_:True)=>?_)))
 all_goals first|rfl|exact trivial|exact ha|(simp;omega)|skip
noncomputable abbrev id5(p j:List Nat)(xs ys m:Nat)(A:List V):T O:=pt (pt (pt idH 3 (.row 72 none [.nils,.nils])) 3 (.row 72 none [ul p,ul j])) 4 (.row 101 none [ul p,ul j,u6 (xs:Nat),u6 (ys:Nat),.im m A])
theorem id_call(hp:HfL (ut p))(hj:HfL (ut j))(m:Nat)(A:List V)(hA:HfL A){r:V}(hr:Hf r)(hsv:FnOk Pg g0 39 [.imp [ul p,ul j,u6 (xs:Nat),u6 (ys:Nat),.im m A]] r):
  CallSpec Pg g0 (.fn 39 []) [.ptr 4 0] (id5 p j xs ys m A) 5 ⟨r,pt (id5 p j xs ys m A) 4 .dead,5,[4]⟩:=by
 have hg:gt (id5 p j xs ys m A) 4=some (.row 101 none [ul p,ul j,u6 (xs:Nat),u6 (ys:Nat),.im m A]):=by kernel_rfl
 refine Qop [4] hsv ⟨_,_,rfl,.inr ⟨4,0,_,_,_,rfl,List.mem_singleton.2 rfl,by rw[←Qal];exact hg,?_⟩,rfl⟩ hr (fun g hg'=>?_) (fun i hi=>?_) (fun i hi=>?_)
 ·exact ViewP.of_hf _ ⟨trivial,trivial,trivial,trivial,trivial,trivial⟩
 ·obtain rfl := List.mem_singleton.1 hg'
  exact⟨_,_,_,by rw[←Qal];exact hg⟩
 ·rw[←Qal,←Qal,gt_pt,if_neg (fun e=>hi (List.mem_singleton.2 e))]
 ·obtain rfl := List.mem_singleton.1 hi
  rw[←Qal,gt_pt,if_pos rfl]
theorem id_vc2(hp:HfL (ut p))(hj:HfL (ut j))(od:List Nat)(m:Nat)(A:List V)(hA:HfL A)(hs:FnOk Pg g0 37 [grV p j] (.im m A))(k v n:Nat)(X:List V)(hX:HfL X)
  (hsv:FnOk Pg g0 39 [.imp [ul p,ul j,u6 (xs:Nat),u6 (ys:Nat),.im m A]] (.agg [i6 (k:Nat),u6 (v:Nat),.im n X]))(hcl:FnOk Pg g0 38 [.agg [i6 (k:Nat),u6 (v:Nat),.im n X]] (.agg [i6 (k:Nat),u6 (v:Nat),.im n X])):
  vc Pg vE sp0 none 3 1000 (id_ [1,1,1]) [fn 32 (.im m A),(36,.call ⟨.agg [i6 (k:Nat),u6 (v:Nat),.im n X],pt (id5 p j xs ys m A) 4 .dead,5,[4]⟩),fn 37 (.agg [i6 (k:Nat),u6 (v:Nat),.im n X])] (mkSo g0 39 (idS p j xs ys) idH 3 []) (kIdN k v n X):=by
 have hc:=id_call p j xs ys hp hj m A hA (r:=.agg [i6 (k:Nat),u6 (v:Nat),.im n X]) ⟨trivial,trivial,trivial,trivial⟩ hsv
 refine Eq.mp (by kernel_rfl:(let z2:=pt (pt (pt idH 3 (O.row 72 none [V.nils,V.nils])) 3 (O.row 72 none [ul p,ul j])) 4 (O.row 101 none [ul p,ul j,u6 ↑xs,u6 ↑ys,V.im m A]);let z3:=pt (id5 p j xs ys m A) 4 O.dead;let z4:=[i6 ↑k,u6 ↑v,V.im n X];let z0:=pt (pt (pt z3 0 (O.row 43 none z4)) 1 (O.row 63 none [u6 0,u6 0,u6 0])) 2 (O.row 33 none [i6 0]);let z1:=V.agg z4;An [An [TT 2,Tt],FnOk Pg g0 37 [V.agg [V.im p.length (ut p),V.im j.length (ut j)]] (V.im m A),Tt,CallSpec Pg g0 (V.fn 39 []) [V.ptr 4 0] z2 5 (CR.mk z1 z3 5 [4]),Tt,An [TT 3,Tt],FnOk Pg g0 38 [z1] z1,An [(V.fn 39 []=V.fn 38 []→[V.ptr 4 0]=[z1]→z2=z3→3+1+1=5→CR.mk z1 z3 5 [4]=CR.mk z1 z3 5 []),Tt],An [Sm (V.ptr 0 0),Sm (V.ptr 1 0),Sm (V.ptr 2 0),Tt],gt z0 0=some (esO k v n X),gt z0 1=some (hgO (0,0,0)),gt z0 2=some (erO 0)])=_) ?_
 (repeat'(first|(with_reducible apply And.intro)|(refine fun(_:True)=>?_)))
 all_goals first|rfl|exact trivial|exact hs|exact hc|exact hcl|(intro hq;cases hq;done)|skip
theorem id_vc3(hp:HfL (ut p))(hj:HfL (ut j))(od:List Nat)(m:Nat)(A:List V)(hA:HfL A)(hs:FnOk Pg g0 37 [grV p j] (.im m A))(h1 h2 h3:Nat)
  (hsv:FnPan Pg g0 39 [.imp [ul p,ul j,u6 (xs:Nat),u6 (ys:Nat),.im m A]] (hgP (h1,h2,h3))):
  vc Pg vE sp0 none 3 1000 (id_ [1,1,1]) [fn 32 (.im m A),(7,.pn 1 (some (hgP (h1,h2,h3))))] (mkSo g0 39 (idS p j xs ys) idH 3 []) (kIdP (h1,h2,h3)):=by
 refine Eq.mp (by kernel_rfl:(let z1:=[ul p,ul j,u6 ↑xs,u6 ↑ys,V.im m A];let z2:=hgP (h1,h2,h3);let z0:=pt (pt (pt idH 3 (O.row 72 none [V.nils,V.nils])) 3 (O.row 72 none [ul p,ul j])) 4 (O.row 101 none z1);An [An [TT 2,Tt],FnOk Pg g0 37 [V.agg [V.im p.length (ut p),V.im j.length (ut j)]] (V.im m A),Tt,An [TT 5,Tt],FnPan Pg g0 39 [V.imp z1] z2,z2=z2,An [Sm (V.ptr 0 0),Sm (V.ptr 1 0),Sm (V.ptr 2 0),Tt],gt z0 0=some esZ,gt z0 1=some (hgO (0,0,0)),gt z0 2=some (erO 0),5=5])=_) ?_
 (repeat'(first|(with_reducible apply And.intro)|(refine fun(_:True)=>?_)))
 all_goals first|rfl|exact trivial|exact hs|exact hsv|skip
theorem Qle(hp:HfL (ut p))(hj:HfL (ut j)){v0:V}(hv:Hf v0){R1:Prop}
  (h2:vc Pg vE sp0 none 0 1000 (id_ [1,0]) [fn 18 (i6 (0:Nat))] (mkSo g0 39 (idS p j xs ys) idH 3 []) (Qbx 39 (idS p j xs ys) idH 3 []))
  (h3:Sat Pg none 3 (id_ [1,1,1]) (mkSo g0 39 (idS p j xs ys) idH 3 []) (fun e st=>Qm5 Pg vE g0 36 dfC [] idR (fun v _ _ _=>v=v0) e st)):
  FnOk Pg g0 18 [ul p,ul j,u6 (xs:Nat),u6 (ys:Nat)] v0:=by
 obtain⟨fi,hfi,hb,hn,hr⟩:=Qot
 obtain⟨fg,hg1,_⟩:=Qhi
 refine CallSpec.guard vE_ok hfi (by rw[hn];rfl) (Log.refl _ _ _) hb (R1:=fun st=>st=mkSo g0 39 (idS p j xs ys) idH 3 []) (R2:=fun st=>st=mkSo g0 39 (idS p j xs ys) idH 3 []) (Z:=fun v _ _ _=>v=v0) ?_ ?_ ?_ ?_
 ·rintro v H' nx' lg' rfl s w ee w' hH hn ⟨u, s', h1, g1, g2, g3, _, _⟩
  subst h1
  obtain⟨s'',q1,q2,q3,q4⟩:=Qbc hH g1 hv g3 (fun h _=>hn h (Nat.zero_le _)) (fun b hb=>g2.old b (.inl hb))
  exact⟨u,s'',rfl,q1,q2,q3,fun i=>by rw[q4];exact dom_same s _ i,Nat.le_refl _⟩
 ·rw [hn]
  refine Sat.fewer (sl:=[(0,ul p),(1,ul j),(2,u6 (xs:Nat)),(3,u6 (ys:Nat))]) ⟨rfl,rfl,rfl,rfl,trivial⟩ ?_
  exact Sat.kAsg (id_vc0 p j xs ys hp hj)
 ·rintro st rfl
  refine(Sat.kAsg h2).mono fun e st' h=>.inl ⟨h.1,by rw[h.2];rfl,h.2⟩
 ·rintro st rfl
  refine⟨⟨(mkSo g0 39 (idS p j xs ys) idH 3 []).tm.put (some 24) (.fn 36 dfC),idH,3,[]⟩,36,dfC,[],tbl [],1,id3.getD 1 default,⟨.value (.tmp 24), #[], #[]⟩,.tmp 24,fg,TblOk.nil.call,by kernel_rfl,by kernel_rfl,by kernel_rfl,by kernel_rfl,rfl,by kernel_rfl,by kernel_rfl,by kernel_rfl,by kernel_rfl,hg1,rfl,?_⟩
  refine Sat.fewer (sl:=idS p j xs ys) ⟨rfl,rfl,rfl,rfl,rfl,rfl,rfl,trivial⟩ ?_
  rw[hr]
  exact h3
end
set_option maxHeartbeats 1000000
set_option maxRecDepth 100000
section
variable (p j:List Nat) (xs ys:Nat)
theorem Qi1(e:Nat)(he:e≠0)(ha:FnOk Pg g0 34 [ul p,ul j,u6 (xs:Nat),u6 (ys:Nat)] (i6 (e:Nat))):FnOk Pg g0 18 [ul p,ul j,u6 (xs:Nat),u6 (ys:Nat)] (.tup [.agg [i6 0,u6 0,.nils],hgV (0,0,0),i6 (e:Nat)]):=by
 have hp:=Qac p
 have hj:=Qac j
 obtain⟨fi,hfi,hb,hn,hr⟩:=Qot
 obtain⟨fg,hg1,_⟩:=Qhi
 refine CallSpec.guard vE_ok hfi (by rw[hn];rfl) (Log.refl _ _ _) hb (R1:=fun st=>st=mkSo g0 39 (idS p j xs ys) idH 3 []) (R2:=fun st=>False) (Z:=fun v _ _ _=>v= .tup [.agg [i6 0,u6 0,.nils],hgV (0,0,0),i6 (e:Nat)]) ?_ ?_ ?_ (fun st h=>h.elim)
 ·rintro v H' nx' lg' rfl s w ee w' hH hn ⟨u, s', h1, g1, g2, g3, _, _⟩
  subst h1
  obtain⟨s'',q1,q2,q3,q4⟩:=Qbc hH g1 ⟨⟨trivial,trivial,trivial,trivial⟩,⟨trivial,trivial,trivial,trivial⟩,trivial,trivial⟩ g3 (fun h _=>hn h (Nat.zero_le _)) (fun b hb=>g2.old b (.inl hb))
  exact⟨u,s'',rfl,q1,q2,q3,fun i=>by rw[q4];exact dom_same s _ i,Nat.le_refl _⟩
 ·rw [hn]
  refine Sat.fewer (sl:=[(0,ul p),(1,ul j),(2,u6 (xs:Nat)),(3,u6 (ys:Nat))]) ⟨rfl,rfl,rfl,rfl,trivial⟩ ?_
  exact Sat.kAsg (id_vc0 p j xs ys hp hj)
 ·rintro st rfl
  refine Sat.of_vc vE_ok Qaf Qab rfl (id_vc1e p j xs ys hp hj e he ha) fun ex hs' st' hgl hk=>?_
  unfold kIdE at hk
  split at hk
  ·exact .inr ⟨rfl,_,by rw[hr];exact Qou hk.1 hk.2.1 hk.2.2.1 hk.2.2.2,rfl⟩
  ·exact hk.elim
variable (hl:p.length<64) (h64:S64 p) (F:Nat) (hF:F≤10) (y:Nat×List Nat) (hy:soW p F (0,[])=some y) (ha:FnOk Pg g0 34 [ul p,ul j,u6 (xs:Nat),u6 (ys:Nat)] (i6 (0:Nat)))
include hl h64 hF hy ha
theorem Qfl{x:Es}(hx:EsG x)(hsv:FnOk Pg g0 39 [.imp (prC p j xs ys y.2)] (esV x)):FnOk Pg g0 18 [ul p,ul j,u6 (xs:Nat),u6 (ys:Nat)] (.tup [esV x,hgV (0,0,0),i6 (0:Nat)]):=by
 have hp:=Qac p
 have hj:=Qac j
 have hs:=Qjc p j hl h64 F hF y hy
 have hA:=Qau y.2
 have hcl:=clone_fn hx.1
 obtain⟨k,v,l⟩:=x
 have hX:=Qai l
 have e:esV (.mk k v l)= .agg [i6 (k:Nat),u6 (v:Nat),.im l.length (esL l)]:=rfl
 have e2:il y.2= .im y.2.length (it y.2):=rfl
 rw[e]at hcl hsv⊢
 rw[e2]at hs
 have e3:prC p j xs ys y.2=[ul p,ul j,u6 (xs:Nat),u6 (ys:Nat),.im y.2.length (it y.2)]:=rfl
 rw[e3]at hsv
 generalize esL l=X at*
 generalize it y.2=A at*
 refine Qle p j xs ys hp hj ⟨⟨trivial,trivial,trivial,trivial⟩,⟨trivial,trivial,trivial,trivial⟩,trivial,trivial⟩ (R1:=True) (id_vc1 p j xs ys hp hj ha) ?_
 refine Sat.of_vc vE_ok Qaf Qab rfl (id_vc2 p j xs ys hp hj [] y.2.length A hA hs k v l.length X hX hsv hcl) fun ex hs' st' hgl hk=>?_
 unfold kIdN at hk
 split at hk
 ·exact⟨none,⟨.tup [],st'.H,st'.nx,[]⟩,.inl ⟨.inr rfl,rfl⟩,df_none _ _,_,id_retQ hk.1 hk.2,rfl⟩
 ·exact hk.elim
theorem Qge(h:Nat×Nat×Nat)(hsv:FnPan Pg g0 39 [.imp (prC p j xs ys y.2)] (hgP h)):FnOk Pg g0 18 [ul p,ul j,u6 (xs:Nat),u6 (ys:Nat)] (.tup [.agg [i6 0,u6 0,.nils],hgV h,i6 (351:Nat)]):=by
 have hp:=Qac p
 have hj:=Qac j
 have hs:=Qjc p j hl h64 F hF y hy
 have hA:=Qau y.2
 have e2:il y.2= .im y.2.length (it y.2):=rfl
 rw[e2]at hs
 have e3:prC p j xs ys y.2=[ul p,ul j,u6 (xs:Nat),u6 (ys:Nat),.im y.2.length (it y.2)]:=rfl
 rw[e3]at hsv
 generalize it y.2=A at*
 obtain⟨a,b,c⟩:=h
 refine Qle p j xs ys hp hj ⟨⟨trivial,trivial,trivial,trivial⟩,⟨trivial,trivial,trivial,trivial⟩,trivial,trivial⟩ (R1:=True) (id_vc1 p j xs ys hp hj ha) ?_
 refine Sat.of_vc vE_ok Qaf Qab rfl (id_vc3 p j xs ys hp hj [] y.2.length A hA hs a b c hsv) fun ex hs' st' hgl hk=>?_
 unfold kIdP at hk
 split at hk
 ·obtain ⟨rfl, k1, k2, k3, k4, k5⟩ := hk
  refine⟨some (hgP (a,b,c)),_,.inr ⟨_,rfl,rfl⟩,by rw[k5];exact df_some (a,b,c) st'.H 2 [] (0,0,0) (0,0,0) (0,0,0) 0 _ _ _ k2 k3 k4,_,Qou (h:=(a,b,c)) (e:=351) k1 ?_ ?_ ?_,rfl⟩
  ·rw[gt_pt,if_neg (by decide),gt_pt,if_neg (by decide),gt_pt,if_pos rfl]
  ·rw[gt_pt,if_neg (by decide),gt_pt,if_pos rfl]
  ·rw[gt_pt,if_pos rfl]
 ·exact hk.elim
end
set_option maxHeartbeats 1000000
set_option maxRecDepth 100000
theorem shl_u{G:Ctx}{t:Nat}{x k:Nat}(hk:k<64)(hx:x*2^k<18446744073709551616):binV G .shl t (u6 (x:Int)) (i6 (k:Int))=some (u6 ((x*2^k:Nat):Int)):=by
 have e:binV G .shl t (u6 (x:Int)) (i6 (k:Int))=if(k:Int)<0 then none else some (.int .u64 (wr .u64 ((x:Int)*((2^min ((k:Int).toNat) 64:Nat):Int)))):=rfl
 rw[e,if_neg (by omega),Int.toNat_natCast,show min k 64=k by omega,wr_eq,←Int.natCast_mul,Qga hx]
def uF(f:Nat→Nat)(n:Nat):List V:=(List.range n).map fun i=>u6 (f i:Nat)
theorem Qa4(f:Nat→Nat)(n:Nat):HfL (uF f n):=Qe1 _ _ (fun _=>trivial)
theorem uF_len(f:Nat→Nat)(n:Nat):(uF f n).length=n:=by unfold uF;rw[List.length_map,List.length_range]
theorem uF_congr{f g:Nat→Nat}{n:Nat}(h: ∀i,i<n→f i=g i):uF f n=uF g n:=by
 unfold uF
 exact List.map_congr_left fun i hi=>by rw[h i (List.mem_range.1 hi)]
theorem Qhq{f:Nat→Nat}{n k:Nat}(h:k<n):headF (dropF (0+k*1) (uF f n))=some (u6 (f k:Nat)):=by
 rw[Qba,Nat.zero_add]
 exact Qeu (by rw[List.getElem?_range h])
theorem lay_set{c:List V}{j:Nat}{x:V}(h:j<c.length):layE (0+j*1) c [x]=some (c.set j x):=by
 rw[Qht,Nat.zero_add,Nat.mul_one]
 have hb:Nat.ble (j+[x].length) c.length=true:=by rw[Nat.ble_eq];simp;omega
 rw[hb,cond_true]
 congr 1
 rw[List.set_eq_take_append_cons_drop,if_pos h,List.append_assoc]
 rfl
theorem Qli{f:Nat→Nat}{n j:Nat}(h:j<n)(x:Nat):layE (0+j*1) (uF f n) [u6 (x:Nat)]=some (uF (fun i=>if i=j then x else f i) n):=by
 rw[lay_set (by rw[uF_len];exact h)]
 congr 1
 apply List.ext_getElem?
 intro i
 unfold uF
 rw[List.getElem?_set,List.length_map,List.length_range]
 by_cases hij:j=i
 ·subst hij
  rw[if_pos rfl,if_pos h,List.getElem?_map,List.getElem?_range h];simp
 ·rw [if_neg hij, List.getElem?_map, List.getElem?_map]
  by_cases hi:i<n
  ·rw[List.getElem?_range hi];simp[Ne.symm hij]
  ·rw[List.getElem?_eq_none (by simp;omega)];rfl
def chR(p:List Nat):Nat→Nat→Nat
 |0,_=>0
 |k+1,i=>chR p k i|||p.getD k 0/2^i%2*2^k
def chI(p:List Nat)(k m i:Nat):Nat:=if i<m then chR p (k+1) i else chR p k i
theorem Qnk{y k:Nat}(hk:k<64):y%2*2^k<18446744073709551616:=by
 have h1:2^k≤2^63:=Nat.pow_le_pow_right (by decide) (by omega)
 have h2:y%2≤1:=by omega
 have:=Nat.mul_le_mul h2 h1
 omega
theorem chR_lt(p:List Nat): ∀k i,k≤64→chR p k i<18446744073709551616
 |0,_,_=>by unfold chR;decide
 |k+1,i,hk=>Nat.or_lt_two_pow (n:=64) (chR_lt p k i (by omega)) (Qnk (by omega))
theorem chI_step(p:List Nat)(k m:Nat):(fun i=>if i=m then chR p k m|||p.getD k 0/2^m%2*2^k else chI p k m i)=chI p k (m+1):=by
 funext i
 unfold chI
 by_cases h:i=m
 ·subst h;rw[if_pos rfl,if_pos (by omega)];rfl
 ·rw [if_neg h]
  by_cases h2:i<m
  ·rw[if_pos h2,if_pos (by omega)]
  ·rw[if_neg h2,if_neg (by omega)]
theorem chI_zero(p:List Nat)(k:Nat):chI p k 0=chR p k:=by
 funext i;unfold chI;rw[if_neg (by omega)]
theorem chI_end(p:List Nat)(k n:Nat):uF (chI p k n) n=uF (chR p (k+1)) n:=uF_congr fun i hi=>by unfold chI;rw[if_pos hi]
abbrev rdO(p:List Nat)(r:Nat)(C:List V):List O:=[.row 133 none [.nils,.nils],.row 28 none C,.row 133 none [ul p,.sl 1 0 p.length (some (r-r))]]
abbrev rd2(p:List Nat)(x k n:Nat)(q:Nat×List V):SL:={sl:=[(0,ul p),(2,.ptr 0 0),(4,.ptr 2 0),(28,ul p),(29,i6 (n:Nat)),(30,i6 (k:Nat)),(5,i6 (k:Nat)),(6,u6 (x:Nat)),(42,i6 (n:Nat)),(43,i6 (q.1:Nat))],os:=rdO p n q.2,md:=[0,0,1]}
theorem read_in(p:List Nat)(hl:p.length≤64)(h64:S64 p)(n k x:Nat)(hn:p.length=n)(hk:k<n)(hx:p.getD k 0=x)(A B:List V)(hA:uF (chI p k 0) n=A)(hB:uF (chI p k n) n=B):
  Sat Pg none 0 (at' 66 [1,0,1,1,0,1,0,0,1,1,0,0,1,1,1,0]) (mkSt g0 95 (rd2 p x k n (0,A))) (Qah g0 95 [(True,.exit 2,rd2 p x k n (n,B))]):=by
 have hp:=Qac p
 refine Qbi vE_ok Qaf Qab (b:=at' 66 [1,0,1,1,0,1,0,0,1,1,0,0,1,1,1,0,0]) (by kernel_rfl) (fun q=>q.1≤n∧uF (chI p k q.1) n=q.2) (rd2 p x k n) (fun q=>n-q.1) (fun q hq=>?_) (0,A) ⟨Nat.zero_le _,hA⟩
 obtain⟨m,C⟩:=q
 obtain⟨hm,hC⟩:=hq
 dsimp only at hm hC
 have hCf:HfL C:=by rw[←hC];exact Qa4 _ _
 by_cases hlt:m<n
 ·have s0 : headF (dropF (0 + m * 1) C) = some (u6 (chR p k m : Nat)) := by rw [← hC, Qhq hlt]; unfold chI; rw [if_neg (by omega)]
  have s1:=Qdi (G:=Qaa Pg) (t:=28) (x:=p.getD k 0) (k:=m) (by omega)
  have s2:=Qb4 (G:=Qaa Pg) (t:=28) (x:=p.getD k 0/2^m)
  have s3:=shl_u (G:=Qaa Pg) (t:=28) (x:=p.getD k 0/2^m%2) (k:=k) (by omega) (Qnk (by omega))
  have s4:=(or_u (G:=Qaa Pg) (t:=28) (chR_lt p k m (by omega)) (Qnk (y:=p.getD k 0/2^m) (k:=k) (by omega))).1
  have s5:=Qli (f:=chI p k m) hlt (chR p k m|||p.getD k 0/2^m%2*2^k)
  rw[chI_step,hC]at s5
  generalize hD:uF (chI p k (m+1)) n=D at s5
  generalize chR p k m=c at*
  rw[hx]at s1 s2 s3 s4 s5
  generalize x/2^m=x1 at*
  generalize x1%2=x2 at*
  generalize x2*2^k=x3 at*
  generalize c|||x3=x4 at*
  refine .inl ⟨(m+1,D),[0,1,2],[yes 44,pl 49,ld 50 (u6 (c:Nat)),va 53 (u6 (x1:Nat)),va 54 (u6 (x2:Nat)),va 56 (u6 (x3:Nat)),va 57 (u6 (x4:Nat)),pl 58,st D,nu 59 ((m+1:Nat):Int)],1000,⟨hlt,hD⟩,by dsimp only;omega,?_⟩
  have hDf:HfL D:=by rw[←hD];exact Qa4 _ _
  clear hC hD hA hB hx
  refine Eq.mp (by kernel_rfl:(let z5:=An [Sm p.length,Sm (ut p)];let z0:=(↑m:Int);let z1:=Qaa Try.prog;let z2:=(↑n:Int);let z3:=(↑(m+1):Int);let z4:=(↑k:Int);An [decide (z0<z2)=true,An [(0:Int)≤z0,z0<(↑p.length:Int)],headF (dropF (0+m*1) C)=some (u6 ↑c),binV z1 BinOp.shr 28 (u6 ↑x) (i6 ↑m)=some (u6 ↑x1),binV z1 BinOp.and 28 (u6 ↑x1) (u6 1)=some (u6 ↑x2),binV z1 BinOp.shl 28 (u6 ↑x2) (i6 ↑k)=some (u6 ↑x3),binV z1 BinOp.or 28 (u6 ↑c) (u6 ↑x3)=some (u6 ↑x4),An [(0:Int)≤z0,z0<(↑p.length:Int)],layE (0+m*1) C [u6 ↑x4]=some D,wr .i64 (z0+(1:Int))=z3,An [z5,Zz,Zz,z5,z2=z2,z4=z4,z4=z4,Sm (↑x:Int),z2=z2,z3=z3,Tt],An [Sm [V.nils,V.nils],TT 2],An [D=D,HfL D],An [z5,An [Zz,Sm p.length,Sm (n-n)],Tt],Tt])=_) ?_
  (repeat'(first|(with_reducible apply And.intro)|(refine fun(_:True)=>?_)))<;>first|exact aq|skip
  all_goals first|exact s0|exact s1|exact s2|exact s3|exact s4|exact s5|skip
 ·obtain rfl : m = n := by omega
  rw[hB]at hC
  subst hC
  refine .inr ⟨.exit 2,[0,1,2],rd2 p x k m (m,B),[no 44],1000,.inl ⟨trivial,rfl,rfl⟩,?_⟩
  clear hA hB hx
  refine Eq.mp (by kernel_rfl:(let z2:=An [Sm p.length,Sm (ut p)];let z0:=(↑m:Int);let z1:=(↑k:Int);An [decide (z0<z0)=false,An [z2,Zz,Zz,z2,z0=z0,z1=z1,z1=z1,Sm (↑x:Int),z0=z0,z0=z0,Tt],An [Sm [V.nils,V.nils],TT 2],An [B=B,HfL B],An [z2,An [Zz,Sm p.length,Sm (m-m)],Tt],Tt])=_) ?_
  (repeat'(first|(with_reducible apply And.intro)|(refine fun(_:True)=>?_)))<;>first|exact aq|skip
  all_goals skip
abbrev rd1(p:List Nat)(n:Nat)(q:Nat×List V):SL:={sl:=[(0,ul p),(2,.ptr 0 0),(4,.ptr 2 0),(28,ul p),(29,i6 (n:Nat)),(30,i6 (q.1:Nat))],os:=rdO p n q.2,md:=[0,0,1]}
theorem Qpw(p:List Nat)(hl:p.length≤64)(h64:S64 p)(n:Nat)(hn:p.length=n)(hW: ∀k,k<n→p.getD k 0/2^n=0)(A B:List V)(hA:uF (chR p 0) n=A)(hB:uF (chR p n) n=B):
  Sat Pg none 0 (at' 66 [1,0,1,1,0,1,0]) (mkSt g0 95 (rd1 p n (0,A))) (Qah g0 95 [(True,.exit 0,rd1 p n (n,B))]):=by
 have hp:=Qac p
 refine Qbi vE_ok Qaf Qab (b:=at' 66 [1,0,1,1,0,1,0,0]) (by kernel_rfl) (fun q=>q.1≤n∧uF (chR p q.1) n=q.2) (rd1 p n) (fun q=>n-q.1) (fun q hq=>?_) (0,A) ⟨Nat.zero_le _,hA⟩
 obtain⟨k,C⟩:=q
 obtain⟨hk,hC⟩:=hq
 dsimp only at hk hC
 have hCf:HfL C:=by rw[←hC];exact Qa4 _ _
 by_cases hlt:k<n
 ·have s0 := Qbz (l := p) (k := k) (by omega)
  have s1:=Qdi (G:=Qaa Pg) (t:=28) (x:=p.getD k 0) (k:=n) (by omega)
  rw[hW k hlt]at s1
  have hin:=read_in p hl h64 n k (p.getD k 0) hn hlt rfl C (uF (chR p (k+1)) n) (by rw[chI_zero];exact hC) (chI_end p k n)
  have hDf:=Qa4 (chR p (k+1)) n
  generalize hD:uF (chR p (k+1)) n=D at*
  generalize p.getD k 0=x at*
  refine .inl ⟨(k+1,D),[0,1,2],[yes 31,pl 33,ld 34 (u6 (x:Nat)),va 38 (u6 (0:Nat)),no 39,(0,.loop [0,1,2] (rd2 p x k n (0,C)) [(True,.exit 2,rd2 p x k n (n,D))]),nu 60 ((k+1:Nat):Int)],1000,⟨hlt,hD⟩,by dsimp only;omega,?_⟩
  clear hC hD hA hB
  refine Eq.mp (by kernel_rfl:(let z4:=An [Sm p.length,Sm (ut p)];let z5:=An [z4,An [Zz,Sm p.length,Sm (n-n)],Tt];let z0:=(↑k:Int);let z1:=(↑n:Int);let z2:=[V.nils,V.nils];let z3:=(↑(k+1):Int);An [decide (z0<z1)=true,An [(0:Int)≤z0,z0<(↑p.length:Int)],headF (List.drop (k*1) (ut p))=some (u6 ↑x),binV (Qaa Try.prog) BinOp.shr 28 (u6 ↑x) (i6 ↑p.length)=some (u6 ↑(0:Nat)),((↑(0:Nat):Int) != (0:Int))=false,An [An [z4,Zz,Zz,z4,z1=z1,z0=z0,z0=z0,Sm (↑x:Int),z1=(↑p.length:Int),(↑(0:Nat):Int)=(0:Int),Tt],An [z2=z2,TT 2],An [C=C,HfL C],z5,Tt],Sat Try.prog none 0 (at' 66 [1,0,1,1,0,1,0,0,1,1,0,0,1,1,1,0]) (mkSt g0 95 (rd2 p x k n (0,C))) (Qah g0 95 [(True,Ex.exit 2,rd2 p x k n (n,D))]),(True→An [wr .i64 (z0+(1:Int))=z3,An [z4,Zz,Zz,z4,z1=z1,z3=z3,Tt],An [z2=z2,TT 2],An [D=D,HfL D],z5,Tt]),Tt])=_) ?_
  (repeat'(first|(with_reducible apply And.intro)|(refine fun(_:True)=>?_)))<;>first|exact aq|skip
  all_goals first|exact s0|exact s1|exact hin|skip
 ·obtain rfl : k = n := by omega
  rw[hB]at hC
  subst hC
  refine .inr ⟨.exit 0,[0,1,2],rd1 p k (k,B),[no 31],1000,.inl ⟨trivial,rfl,rfl⟩,?_⟩
  clear hA hB
  refine Eq.mp (by kernel_rfl:(let z1:=An [Sm p.length,Sm (ut p)];let z0:=(↑k:Int);An [decide (z0<z0)=false,An [z1,Zz,Zz,z1,z0=z0,z0=z0,Tt],An [Sm [V.nils,V.nils],TT 2],An [B=B,HfL B],An [z1,An [Zz,Sm p.length,Sm (k-k)],Tt],Tt])=_) ?_
  (repeat'(first|(with_reducible apply And.intro)|(refine fun(_:True)=>?_)))<;>first|exact aq|skip
  all_goals skip
def okN(p:List Nat)(s k:Nat):Prop:=s.testBit k=false∧mi (p.getD k 0) s=0
abbrev rd4(p:List Nat)(n i s:Nat)(C:List V)(k:Nat):SL:={sl:=[(0,ul p),(2,.ptr 0 0),(4,.ptr 2 0),(8,u6 (s:Nat)),(64,i6 (n:Nat)),(65,i6 (i:Nat)),(69,ul p),(70,i6 (n:Nat)),(71,i6 (k:Nat))],os:=rdO p n C,md:=[0,0,1]}
abbrev rd3(p:List Nat)(n:Nat)(C:List V)(q:Nat×Nat):SL:={sl:=[(0,ul p),(2,.ptr 0 0),(4,.ptr 2 0),(8,u6 (q.2:Nat)),(64,i6 (n:Nat)),(65,i6 (q.1:Nat))],os:=rdO p n C,md:=[0,0,1]}
theorem Qpv(p:List Nat)(hl:p.length≤64)(h64:S64 p)(n i s:Nat)(hn:p.length=n)(hs:s<18446744073709551616)(C:List V)(hC:HfL C)(u:Nat)(hu:u<n)(hok:okN p s u)(hmin: ∀i,i<u→¬okN p s i):
  Sat Pg none 0 (at' 66 [1,0,1,1,1,1,1,0,1,0,0,1,1,0,0,0,1,0]) (mkSt g0 95 (rd4 p n i s C 0)) (Qah g0 95 [(True,.exit 5,rd3 p n C (i,s|||2^u))]):=by
 have hp:=Qac p
 refine Qbi vE_ok Qaf Qab (b:=at' 66 [1,0,1,1,1,1,1,0,1,0,0,1,1,0,0,0,1,0,0]) (by kernel_rfl) (fun q=>q≤u) (rd4 p n i s C) (fun q=>u-q) (fun k hk=>?_) 0 (Nat.zero_le _)
 have hlt:k<n:=by omega
 have s0:=Qbz (l:=p) (k:=k) (by omega)
 have s1:=Qdi (G:=Qaa Pg) (t:=28) (x:=s) (k:=k) (by omega)
 have s2:=Qb4 (G:=Qaa Pg) (t:=28) (x:=s/2^k)
 have s3:=mi_u (G:=Qaa Pg) (t:=28) (h64.get k) hs
 obtain⟨s4,s5⟩:=Qdd (G:=Qaa Pg) (t:=28) (k:=k) (by omega)
 have s6:=(or_u (G:=Qaa Pg) (t:=28) hs s5).1
 by_cases hku:k=u
 ·subst hku
  obtain⟨hb,hm⟩:=hok
  have hbe:s/2^k%2=0:=by rw[Qbh,hb];rfl
  rw[hm]at s3
  rw[hbe]at s2
  generalize s/2^k=x1 at*
  generalize 2^k=z at*
  generalize s|||z=s' at*
  generalize p.getD k 0=x at*
  refine .inr ⟨.exit 5,[0,1,2],rd3 p n C (i,s'),[yes 72,pl 74,ld 75 (u6 (x:Nat)),va 78 (u6 (x1:Nat)),va 79 (u6 (0:Nat)),yes 80,va 84 (u6 (0:Nat)),yes 85,va 89 (u6 (z:Nat)),va 90 (u6 (s':Nat))],1000,.inl ⟨trivial,rfl,rfl⟩,?_⟩
  clear hmin
  refine Eq.mp (by kernel_rfl:(let z5:=An [Sm p.length,Sm (ut p)];let z0:=Qaa Try.prog;let z1:=((↑(0:Nat):Int)==(0:Int));let z2:=(↑k:Int);let z3:=(↑n:Int);let z4:=some (u6 ↑(0:Nat));An [decide (z2<z3)=true,An [(0:Int)≤z2,z2<(↑p.length:Int)],headF (List.drop (k*1) (ut p))=some (u6 ↑x),binV z0 BinOp.shr 28 (u6 ↑s) (i6 ↑k)=some (u6 ↑x1),binV z0 BinOp.and 28 (u6 ↑x1) (u6 1)=z4,z1=true,binV z0 BinOp.andNot 28 (u6 ↑x) (u6 ↑s)=z4,z1=true,binV z0 BinOp.shl 28 (u6 1) (i6 ↑k)=some (u6 ↑z),binV z0 BinOp.or 28 (u6 ↑s) (u6 ↑z)=some (u6 ↑s'),An [z5,Zz,Zz,Sm (↑s':Int),z3=z3,Sm (↑i:Int),Tt],An [Sm [V.nils,V.nils],TT 2],An [C=C,HfL C],An [z5,An [Zz,Sm p.length,Sm (n-n)],Tt],Tt])=_) ?_
  (repeat'(first|(with_reducible apply And.intro)|(refine fun(_:True)=>?_)))<;>first|exact aq|skip
  all_goals first|exact s0|exact s1|exact s2|exact s3|exact s4|exact s6|skip
 ·have hno := hmin k (by omega)
  cases hb:s.testBit k with
  |true=>
   have hbe:s/2^k%2=1:=by rw[Qbh,hb];rfl
   rw[hbe]at s2
   generalize s/2^k=x1 at*
   generalize p.getD k 0=x at*
   refine .inl ⟨k+1,[0,1,2],[yes 72,pl 74,ld 75 (u6 (x:Nat)),va 78 (u6 (x1:Nat)),va 79 (u6 (1:Nat)),no 80,nu 91 ((k+1:Nat):Int)],1000,by omega,by omega,?_⟩
   clear hmin hno
   refine Eq.mp (by kernel_rfl:(let z3:=An [Sm p.length,Sm (ut p)];let z0:=(↑n:Int);let z1:=(↑(k+1):Int);let z2:=(↑k:Int);An [decide (z2<z0)=true,An [(0:Int)≤z2,z2<(↑p.length:Int)],headF (List.drop (k*1) (ut p))=some (u6 ↑x),binV (Qaa Try.prog) BinOp.shr 28 (u6 ↑s) (i6 ↑k)=some (u6 ↑x1),binV (Qaa Try.prog) BinOp.and 28 (u6 ↑x1) (u6 1)=some (u6 ↑(1:Nat)),((↑(1:Nat):Int)==(0:Int))=false,wr .i64 (z2+(1:Int))=z1,An [z3,Zz,Zz,Sm (↑s:Int),z0=z0,Sm (↑i:Int),z3,z0=z0,z1=z1,Tt],An [Sm [V.nils,V.nils],TT 2],An [C=C,HfL C],An [z3,An [Zz,Sm p.length,Sm (n-n)],Tt],Tt])=_) ?_
   (repeat'(first|(with_reducible apply And.intro)|(refine fun(_:True)=>?_)))<;>first|exact aq|skip
   all_goals first|exact s0|exact s1|exact s2|skip
  |false=>
   have hbe:s/2^k%2=0:=by rw[Qbh,hb];rfl
   have hm:mi (p.getD k 0) s≠0:=fun e=>hno ⟨hb,e⟩
   rw[hbe]at s2
   generalize s/2^k=x1 at*
   generalize mi (p.getD k 0) s=y at*
   generalize p.getD k 0=x at*
   refine .inl ⟨k+1,[0,1,2],[yes 72,pl 74,ld 75 (u6 (x:Nat)),va 78 (u6 (x1:Nat)),va 79 (u6 (0:Nat)),yes 80,va 84 (u6 (y:Nat)),no 85,nu 91 ((k+1:Nat):Int)],1000,by omega,by omega,?_⟩
   clear hmin hno
   refine Eq.mp (by kernel_rfl:(let z4:=An [Sm p.length,Sm (ut p)];let z0:=(↑n:Int);let z1:=(↑(k+1):Int);let z2:=(↑k:Int);let z3:=Qaa Try.prog;An [decide (z2<z0)=true,An [(0:Int)≤z2,z2<(↑p.length:Int)],headF (List.drop (k*1) (ut p))=some (u6 ↑x),binV z3 BinOp.shr 28 (u6 ↑s) (i6 ↑k)=some (u6 ↑x1),binV z3 BinOp.and 28 (u6 ↑x1) (u6 1)=some (u6 ↑(0:Nat)),((↑(0:Nat):Int)==(0:Int))=true,binV z3 BinOp.andNot 28 (u6 ↑x) (u6 ↑s)=some (u6 ↑y),((↑y:Int)==(0:Int))=false,wr .i64 (z2+(1:Int))=z1,An [z4,Zz,Zz,Sm (↑s:Int),z0=z0,Sm (↑i:Int),z4,z0=z0,z1=z1,Tt],An [Sm [V.nils,V.nils],TT 2],An [C=C,HfL C],An [z4,An [Zz,Sm p.length,Sm (n-n)],Tt],Tt])=_) ?_
   (repeat'(first|(with_reducible apply And.intro)|(refine fun(_:True)=>?_)))<;>first|exact aq|skip
   all_goals first|exact s0|exact s1|exact s2|exact s3|(simp;omega)|skip
def Acy(p:List Nat):Prop:=∃rk:Nat→Nat,∀u,u<p.length→∀v,(p.getD u 0).testBit v=true→v<p.length∧rk v<rk u
theorem first_of{P:Nat→Prop}{n:Nat}(h: ∃k,k<n∧P k): ∃k,k<n∧P k∧∀i,i<k→¬P i:=by
 obtain⟨k,hk,hp⟩:=h
 induction k using Nat.strongRecOn with
 | ind k ih =>
  by_cases hb: ∃b,b<k∧P b
  ·obtain ⟨b, h1, h2⟩ := hb
   exact ih b h1 (by omega) h2
  ·exact⟨k,hk,hp,fun i hi hpi=>hb ⟨i,hi,hpi⟩⟩
theorem Qkq{p:List Nat}(h:Acy p)(h64:S64 p){s:Nat}(hs:s<18446744073709551616)(hv: ∃v,v<p.length∧s.testBit v=false): ∃u,u<p.length∧okN p s u∧∀i,i<u→¬okN p s i:=by
 obtain⟨rk,hr⟩:=h
 refine first_of ?_
 obtain⟨v,hv,hb⟩:=hv
 generalize hm:rk v=m
 induction m using Nat.strongRecOn generalizing v with
 | ind m ih =>
  by_cases hok:mi (p.getD v 0) s=0
  ·exact⟨v,hv,hb,hok⟩
  ·obtain ⟨b, hbb⟩ : ∃ b, (mi (p.getD v 0) s).testBit b = true := by
    by_cases hx: ∃b,(mi (p.getD v 0) s).testBit b=true
    ·exact hx
    ·exact absurd (Qmc fun i=>by
      cases hi:(mi (p.getD v 0) s).testBit i with
      |false=>rfl
      |true=>exact absurd ⟨i,hi⟩ hx) hok
   rw[Qcn (h64.get v) hs]at hbb
   simp only[Bool.and_eq_true,Bool.not_eq_true']at hbb
   obtain⟨h1,h2⟩:=hr v hv b hbb.1
   exact ih (rk b) (by omega) b h1 hbb.2 rfl
theorem miss_of{l:List Nat}{n:Nat}(hn:l.Nodup)(hl:l.length<n)(hlt: ∀x∈l,x<n): ∃v,v<n∧v∉l:=by
 by_cases h: ∃v,v<n∧v∉l
 ·exact h
 ·have hp : (List.range n).Perm l := (List.perm_ext_iff_of_nodup List.nodup_range hn).2 fun a => ⟨fun ha => by
   by_cases hb:a∈l
   ·exact hb
   ·exact absurd ⟨a,List.mem_range.1 ha,hb⟩ h,fun ha=>List.mem_range.2 (hlt a ha)⟩
  have:=hp.length_eq
  rw[List.length_range]at this
  omega
def SetOf(l:List Nat)(s:Nat):Prop:=∀b,s.testBit b=decide (b∈l)
theorem SetOf.lt{l:List Nat}{s n:Nat}(h:SetOf l s)(hl: ∀x∈l,x<n):s<2^n:=by
 refine Nat.lt_pow_two_of_testBit s fun i hi=>?_
 rw[h i]
 exact decide_eq_false fun hm=>absurd (hl i hm) (by omega)
theorem SetOf.put{l:List Nat}{s u:Nat}(h:SetOf l s):SetOf (l++[u]) (s|||2^u):=by
 intro b
 rw[Nat.testBit_or,h b,Nat.testBit_two_pow]
 by_cases e:u=b
 ·subst e;simp
 ·simp[e,Ne.symm e]
theorem Qmv(p:List Nat)(hl:p.length≤64)(h64:S64 p)(hac:Acy p)(n:Nat)(hn:p.length=n)(C:List V)(hC:HfL C):
  Sat Pg none 0 (at' 66 [1,0,1,1,1,1,1,0,1,0]) (mkSt g0 95 (rd3 p n C (0,0))) (Qah g0 95 [(True,.exit 4,{sl:=[(2,.ptr 0 0),(4,.ptr 2 0)],os:=rdO p n C,md:=[0,0,1]})]):=by
 have hp:=Qac p
 refine Qbi vE_ok Qaf Qab (b:=at' 66 [1,0,1,1,1,1,1,0,1,0,0]) (by kernel_rfl) (fun q=>q.1≤n∧∃l:List Nat,l.Nodup∧l.length=q.1∧(∀x∈l,x<n)∧SetOf l q.2) (rd3 p n C) (fun q=>n-q.1) (fun q hq=>?_) (0,0) ⟨Nat.zero_le _,[],List.nodup_nil,rfl,fun x hx=>(by cases hx),fun b=>by simp⟩
 obtain⟨i,s⟩:=q
 obtain⟨hi,l,h1,h2,h3,h4⟩:=hq
 dsimp only at hi h2 h4
 have hs2:s<2^n:=h4.lt h3
 have hs:s<18446744073709551616:=Nat.lt_of_lt_of_le hs2 (Nat.pow_le_pow_right (n:=2) (by decide) (show n≤64 by omega))
 by_cases hlt:i<n
 ·obtain ⟨v, hv, hvl⟩ := miss_of h1 (by omega) h3
  obtain⟨u,hu,hok,hmin⟩:=Qkq hac h64 hs ⟨v,by omega,by rw[h4 v];exact decide_eq_false hvl⟩
  have hf:=Qpv p hl h64 n i s hn hs C hC u (by omega) hok hmin
  have hul:u∉l:=fun hm=>by
   have:=hok.1
   rw[h4 u,decide_eq_true hm]at this
   cases this
  have hnext:(fun q:Nat×Nat=>q.1≤n∧∃l:List Nat,l.Nodup∧l.length=q.1∧(∀x∈l,x<n)∧SetOf l q.2) (i+1,s|||2^u):=by
   refine⟨hlt,l++[u],?_,by simp;omega,fun x hx=>?_,h4.put⟩
   ·rw [List.nodup_append]
    exact⟨h1,by simp,fun a ha b hb e=>by
     obtain rfl:=List.mem_singleton.1 hb
     exact hul (e▸ha)⟩
   ·rcases List.mem_append.1 hx with hx | hx
    ·exact h3 x hx
    ·obtain rfl:=List.mem_singleton.1 hx;omega
  generalize s|||2^u=s' at*
  refine .inl ⟨(i+1,s'),[0,1,2],[yes 66,(0,.loop [0,1,2] (rd4 p n i s C 0) [(True,.exit 5,rd3 p n C (i,s'))]),nu 93 ((i+1:Nat):Int)],1000,hnext,by dsimp only;omega,?_⟩
  clear hnext hmin hok hul
  refine Eq.mp (by kernel_rfl:(let z4:=An [Sm p.length,Sm (ut p)];let z5:=An [z4,An [Zz,Sm p.length,Sm (n-n)],Tt];let z0:=(↑n:Int);let z1:=[V.nils,V.nils];let z2:=(↑(i+1):Int);let z3:=(↑i:Int);An [decide (z3<z0)=true,An [An [z4,Zz,Zz,Sm (↑s:Int),z0=z0,z3=z3,z4,z0=(↑p.length:Int),(↑(0:Nat):Int)=(0:Int),Tt],An [z1=z1,TT 2],An [C=C,HfL C],z5,Tt],Sat Try.prog none 0 (at' 66 [1,0,1,1,1,1,1,0,1,0,0,1,1,0,0,0,1,0]) (mkSt g0 95 (rd4 p n i s C 0)) (Qah g0 95 [(True,Ex.exit 5,rd3 p n C (i,s'))]),(True→An [wr .i64 (z3+(1:Int))=z2,An [z4,Zz,Zz,Sm (↑s':Int),z0=z0,z2=z2,Tt],An [z1=z1,TT 2],An [C=C,HfL C],z5,Tt]),Tt])=_) ?_
  (repeat'(first|(with_reducible apply And.intro)|(refine fun(_:True)=>?_)))<;>first|exact aq|skip
  all_goals first|exact hf|skip
 ·obtain rfl : i = n := by omega
  refine .inr ⟨.exit 4,[0,1,2],{sl:=[(2,.ptr 0 0),(4,.ptr 2 0)],os:=rdO p i C,md:=[0,0,1]},[no 66],1000,.inl ⟨trivial,rfl,rfl⟩,?_⟩
  clear h1 h2 h3 h4
  refine Eq.mp (by kernel_rfl:(An [decide ((↑i:Int)<(↑i:Int))=false,An [Zz,Zz,Tt],An [Sm [V.nils,V.nils],TT 2],An [C=C,HfL C],An [An [Sm p.length,Sm (ut p)],An [Zz,Sm p.length,Sm (i-i)],Tt],Tt])=_) ?_
  (repeat'(first|(with_reducible apply And.intro)|(refine fun(_:True)=>?_)))<;>first|exact aq|skip
  all_goals skip
theorem Qei(n:Nat){p:List Nat}:uF (chR p 0) n=rep n [u6 0]:=by
 apply List.ext_getElem?
 intro i
 unfold uF
 rw[List.getElem?_map]
 by_cases hi:i<n
 ·rw[List.getElem?_range hi,Qj8 n [u6 0] i (by simpa using hi),List.length_singleton,Nat.mod_one];rfl
 ·rw[List.getElem?_eq_none (by simp;omega),List.getElem?_eq_none (by rw[Qc8];simp;omega)];rfl
theorem read_fn(p:List Nat)(hl:p.length≤8)(hl1:1≤p.length)(h64:S64 p)(hac:Acy p)(hW: ∀k,k<p.length→p.getD k 0/2^p.length=0):FnOk Pg g0 66 [ul p] (.tup [.agg [ul p,.im p.length (uF (chR p p.length) p.length)],i6 0]):=by
 have hp:=Qac p
 have hA:uF (chR p 0) p.length=rep p.length [u6 0]:=Qei p.length
 have h1:=Qpw p (by omega) h64 p.length rfl hW _ _ rfl rfl
 rw[hA]at h1
 have hCf:=Qa4 (chR p p.length) p.length
 have hRf:HfL (rep p.length [u6 0]):=by rw[←Qei (p:=p)];exact Qa4 _ _
 generalize uF (chR p p.length) p.length=C at*
 have h2:=Qmv p (by omega) h64 hac p.length rfl C hCf
 have hn8:(p.length:Int)≤8:=by omega
 generalize hn:p.length=n at*
 refine FnOk.of_vc vE_ok Qaf Qab (n:=1000) (r:=[0]) (S:={sl:=[(2,.ptr 0 0),(3,i6 0)],os:=[.row 133 none [ul p,.im n C]],md:=[1]}) (hs:=[no 13,no 17,mk 24,(0,.loop [0,1,2] (rd1 p n (0,rep n [u6 0])) [(True,.exit 0,rd1 p n (n,C))]),(0,.loop [0,1,2] (rd3 p n C (0,0)) [(True,.exit 4,{sl:=[(2,.ptr 0 0),(4,.ptr 2 0)],os:=rdO p n C,md:=[0,0,1]})])]) ?_
 refine Eq.mp (by kernel_rfl:(let z6:=An [Sm p.length,Sm (ut p)];let z0:=(↑p.length:Int);let z1:=[V.nils,V.nils];let z2:=(↑(0:Nat):Int);let z3:=(0:Int);let z4:=V.tup [V.agg [ul p,V.im n C],i6 0];let z5:=rep n [u6 0];An [z4=z4,decide (z0<(1:Int))=false,decide (z0>(8:Int))=false,An [z3≤z0,z0≤z0,(↑(8:Nat):Int)*z0≤(281474976710656:Int),z0≤(9223372036854775807:Int)],An [An [z6,Zz,Zz,z6,(↑n:Int)=z0,z2=z3,Tt],An [z1=z1,TT 2],An [z5=rep p.length [u6 0],HfL z5],An [z6,An [Zz,Sm p.length,n-n=p.length-p.length],Tt],Tt],Sat Try.prog none 0 (at' 66 [1,0,1,1,0,1,0]) (mkSt g0 95 (rd1 p n (0,z5))) (Qah g0 95 [(True,Ex.exit 0,rd1 p n (n,C))]),(True→An [An [An [z6,Zz,Zz,z2=z3,(↑n:Int)=z0,z2=z3,Tt],An [z1=z1,TT 2],An [C=C,HfL C],An [z6,An [Zz,Sm p.length,Sm (n-n)],Tt],Tt],Sat Try.prog none 0 (at' 66 [1,0,1,1,1,1,1,0,1,0]) (mkSt g0 95 (rd3 p n C (0,0))) (Qah g0 95 [(True,Ex.exit 4,SL.mk [(2,V.ptr 0 0),(4,V.ptr 2 0)] (rdO p n C) [] [0,0,1])]),(True→An [An [Zz,z3=z3,Tt],An [z6,An [n=p.length,C=C,HfL C],Tt],Tt]),Tt]),Tt])=_) ?_
 (repeat'(first|(with_reducible apply And.intro)|(refine fun(_:True)=>?_)))<;>first|exact aq|skip
 all_goals first|exact h1|exact h2|skip
structure GrOk(p j:List Nat):Prop where
 l1:1≤p.length
 l5:p.length≤5
 p64:S64 p
 acy:Acy p
 pw: ∀k,k<p.length→p.getD k 0/2^p.length=0
 jl:j.length=p.length
 j64:S64 j
 jw: ∀k,k<p.length→j.getD k 0/2^p.length=0
 jk: ∀k,k<p.length→(j.getD k 0).testBit k=false
 js: ∀k m,k<p.length→m<p.length→(j.getD k 0).testBit m=(j.getD m 0).testBit k
theorem Qpy(p:List Nat)(hl:p.length≤8)(hl1:1≤p.length)(h64:S64 p)(hac:Acy p)(hW: ∀k,k<p.length→p.getD k 0/2^p.length=0):FnOk Pg g0 42 [ul p] (i6 0):=by
 have hp:=Qac p
 have h1:=read_fn p hl hl1 h64 hac hW
 have hCf:=Qa4 (chR p p.length) p.length
 generalize uF (chR p p.length) p.length=C at*
 refine FnOk.of_vc vE_ok Qaf Qab (n:=1000) (r:=[]) (S:={sl:=[(2,i6 0)]}) (hs:=[fn 7 (.tup [.agg [ul p,.im p.length C],i6 0])]) ?_
 refine Eq.mp (by kernel_rfl:(An [Sm (i6 0),An [Tt,Tt],FnOk Try.prog g0 66 [V.im p.length (ut p)] (V.tup [V.agg [ul p,V.im p.length C],i6 0]),Tt,An [Sm (0:Int),Tt],Tt])=_) ?_
 (repeat'(first|(with_reducible apply And.intro)|(refine fun(_:True)=>?_)))<;>first|exact aq|skip
 all_goals first|exact h1|skip
abbrev ck2(j:List Nat)(n k x m:Nat):SL:={sl:=[(1,ul j),(5,i6 (n:Nat)),(25,ul j),(26,i6 (n:Nat)),(27,i6 (k:Nat)),(6,i6 (k:Nat)),(7,u6 (x:Nat)),(43,ul j),(44,i6 (n:Nat)),(45,i6 (m:Nat))]}
abbrev ck1(j:List Nat)(n k:Nat):SL:={sl:=[(1,ul j),(5,i6 (n:Nat)),(25,ul j),(26,i6 (n:Nat)),(27,i6 (k:Nat))]}
theorem check_in(p j:List Nat)(h:GrOk p j)(n k x:Nat)(hn:j.length=n)(hk:k<n)(hx:j.getD k 0=x):
  Sat Pg none 0 (at' 20 [1,1,1,0,1,0,0,1,1,0,0,1,1,1,0]) (mkSt g0 61 (ck2 j n k x 0)) (Qah g0 61 [(True,.exit 2,ck2 j n k x n)]):=by
 have hj:=Qac j
 have hjl:=h.jl
 have h5:=h.l5
 refine Qbi vE_ok Qaf Qab (b:=at' 20 [1,1,1,0,1,0,0,1,1,0,0,1,1,1,0,0]) (by kernel_rfl) (fun m=>m≤n) (ck2 j n k x) (fun m=>n-m) (fun m hm=>?_) 0 (Nat.zero_le _)
 by_cases hlt:m<n
 ·have s0 := Qbz (l := j) (k := m) (by omega)
  have s1:=Qdi (G:=Qaa Pg) (t:=28) (x:=x) (k:=m) (by omega)
  have s2:=Qb4 (G:=Qaa Pg) (t:=28) (x:=x/2^m)
  have s3:=Qdi (G:=Qaa Pg) (t:=28) (x:=j.getD m 0) (k:=k) (by omega)
  have s4:=Qb4 (G:=Qaa Pg) (t:=28) (x:=j.getD m 0/2^k)
  have e:x/2^m%2=j.getD m 0/2^k%2:=by
   have:=h.js k m (by omega) (by omega)
   rw[hx]at this
   rw[Qbh,Qbh,this]
  rw[←e]at s4
  generalize j.getD m 0=y at*
  generalize y/2^k=y1 at*
  generalize x/2^m=x1 at*
  generalize x1%2=x2 at*
  refine .inl ⟨m+1,[],[yes 46,pl 48,ld 49 (u6 (y:Nat)),va 52 (u6 (x1:Nat)),va 53 (u6 (x2:Nat)),va 56 (u6 (y1:Nat)),va 57 (u6 (x2:Nat)),no 58,nu 59 ((m+1:Nat):Int)],1000,by omega,by omega,?_⟩
  clear e h
  refine Eq.mp (by kernel_rfl:(let z5:=An [Sm j.length,Sm (ut j)];let z0:=(↑n:Int);let z1:=Qaa Try.prog;let z2:=(↑(m+1):Int);let z3:=(↑m:Int);let z4:=(↑k:Int);An [decide (z3<z0)=true,An [(0:Int)≤z3,z3<(↑j.length:Int)],headF (List.drop (m*1) (ut j))=some (u6 ↑y),binV z1 BinOp.shr 28 (u6 ↑x) (i6 ↑m)=some (u6 ↑x1),binV z1 BinOp.and 28 (u6 ↑x1) (u6 1)=some (u6 ↑x2),binV z1 BinOp.shr 28 (u6 ↑y) (i6 ↑k)=some (u6 ↑y1),binV z1 BinOp.and 28 (u6 ↑y1) (u6 1)=some (u6 ↑x2),((↑x2:Int) != (↑x2:Int))=false,wr .i64 (z3+(1:Int))=z2,An [z5,z0=z0,z5,z0=z0,z4=z4,z4=z4,Sm (↑x:Int),z5,z0=z0,z2=z2,Tt],Tt])=_) ?_
  (repeat'(first|(with_reducible apply And.intro)|(refine fun(_:True)=>?_)))<;>first|exact aq|skip
  all_goals first|exact s0|exact s1|exact s2|exact s3|exact s4|skip
 ·obtain rfl : m = n := by omega
  refine .inr ⟨.exit 2,[],ck2 j m k x m,[no 46],1000,.inl ⟨trivial,rfl,rfl⟩,?_⟩
  clear h
  refine Eq.mp (by kernel_rfl:(let z2:=An [Sm j.length,Sm (ut j)];let z0:=(↑m:Int);let z1:=(↑k:Int);An [decide (z0<z0)=false,An [z2,z0=z0,z2,z0=z0,z1=z1,z1=z1,Sm (↑x:Int),z2,z0=z0,z0=z0,Tt],Tt])=_) ?_
  (repeat'(first|(with_reducible apply And.intro)|(refine fun(_:True)=>?_)))<;>first|exact aq|skip
  all_goals skip
theorem Qns(p j:List Nat)(h:GrOk p j)(n:Nat)(hn:j.length=n):
  Sat Pg none 0 (at' 20 [1,1,1,0,1,0]) (mkSt g0 61 (ck1 j n 0)) (Qah g0 61 [(True,.exit 0,ck1 j n n)]):=by
 have hj:=Qac j
 have hjl:=h.jl
 have h5:=h.l5
 refine Qbi vE_ok Qaf Qab (b:=at' 20 [1,1,1,0,1,0,0]) (by kernel_rfl) (fun k=>k≤n) (ck1 j n) (fun k=>n-k) (fun k hk=>?_) 0 (Nat.zero_le _)
 by_cases hlt:k<n
 ·have s0 := Qbz (l := j) (k := k) (by omega)
  have s1:=Qdi (G:=Qaa Pg) (t:=28) (x:=j.getD k 0) (k:=n) (by omega)
  have hw:=h.jw k (by omega)
  rw[←hjl,hn]at hw
  rw[hw]at s1
  have s2:=Qdi (G:=Qaa Pg) (t:=28) (x:=j.getD k 0) (k:=k) (by omega)
  have s3:=Qb4 (G:=Qaa Pg) (t:=28) (x:=j.getD k 0/2^k)
  have hb:=h.jk k (by omega)
  have hbe:j.getD k 0/2^k%2=0:=by rw[Qbh,hb];rfl
  rw[hbe]at s3
  have hin:=check_in p j h n k (j.getD k 0) hn hlt rfl
  generalize j.getD k 0=x at*
  generalize x/2^k=x1 at*
  refine .inl ⟨k+1,[],[yes 28,pl 30,ld 31 (u6 (x:Nat)),va 34 (u6 (0:Nat)),va 39 (u6 (x1:Nat)),va 40 (u6 (0:Nat)),(0,.loop [] (ck2 j n k x 0) [(True,.exit 2,ck2 j n k x n)]),nu 60 ((k+1:Nat):Int)],1000,by omega,by omega,?_⟩
  clear hw hb hbe h
  refine Eq.mp (by kernel_rfl:(let z5:=An [Sm j.length,Sm (ut j)];let z0:=(↑n:Int);let z1:=(↑k:Int);let z2:=(↑(k+1):Int);let z3:=Qaa Try.prog;let z4:=some (u6 ↑(0:Nat));An [decide (z1<z0)=true,An [(0:Int)≤z1,z1<(↑j.length:Int)],headF (List.drop (k*1) (ut j))=some (u6 ↑x),binV z3 BinOp.shr 28 (u6 ↑x) (i6 ↑n)=z4,binV z3 BinOp.shr 28 (u6 ↑x) (i6 ↑k)=some (u6 ↑x1),binV z3 BinOp.and 28 (u6 ↑x1) (u6 1)=z4,An [An [z5,z0=z0,z5,z0=z0,z1=z1,z1=z1,Sm (↑x:Int),z5,z0=(↑j.length:Int),(↑(0:Nat):Int)=(0:Int),Tt],Tt],Sat Try.prog none 0 (at' 20 [1,1,1,0,1,0,0,1,1,0,0,1,1,1,0]) (mkSt g0 61 (ck2 j n k x 0)) (Qah g0 61 [(True,Ex.exit 2,ck2 j n k x n)]),(True→An [wr .i64 (z1+(1:Int))=z2,An [z5,z0=z0,z5,z0=z0,z2=z2,Tt],Tt]),Tt])=_) ?_
  (repeat'(first|(with_reducible apply And.intro)|(refine fun(_:True)=>?_)))<;>first|exact aq|skip
  all_goals first|exact s0|exact s1|exact s2|exact s3|exact hin|skip
 ·obtain rfl : k = n := by omega
  refine .inr ⟨.exit 0,[],ck1 j k k,[no 28],1000,.inl ⟨trivial,rfl,rfl⟩,?_⟩
  clear h
  refine Eq.mp (by kernel_rfl:(let z1:=An [Sm j.length,Sm (ut j)];let z0:=(↑k:Int);An [decide (z0<z0)=false,An [z1,z0=z0,z1,z0=z0,z0=z0,Tt],Tt])=_) ?_
  (repeat'(first|(with_reducible apply And.intro)|(refine fun(_:True)=>?_)))<;>first|exact aq|skip
  all_goals skip
theorem Qhg(p j:List Nat)(h:GrOk p j):FnOk Pg g0 20 [ul p,ul j] (i6 0):=by
 have hp:=Qac p
 have hj:=Qac j
 have h5:=h.l5
 have hjl:=h.jl
 have h1:=Qpy p (by omega) h.l1 h.p64 h.acy h.pw
 have h2:=Qns p j h j.length rfl
 generalize hn:p.length=n at*
 rw[hjl]at h2
 show FnOk Pg g0 20 [.im p.length (ut p),.im j.length (ut j)] (i6 0)
 have h1':FnOk Pg g0 42 [.im n (ut p)] (i6 0):=by rw[←hn];exact h1
 have h2':Sat Pg none 0 (at' 20 [1,1,1,0,1,0]) (mkSt g0 61 {sl:=[(1,.im n (ut j)),(5,i6 (n:Nat)),(25,.im n (ut j)),(26,i6 (n:Nat)),(27,i6 (0:Nat))]}) (Qah g0 61 [(True,.exit 0,{sl:=[(1,.im n (ut j)),(5,i6 (n:Nat)),(25,.im n (ut j)),(26,i6 (n:Nat)),(27,i6 (n:Nat))]})]):=by
  rw[←hjl];rw[←hjl]at h2;exact h2
 rw[hn,hjl]
 clear h hn hjl
 refine FnOk.of_vc vE_ok Qaf Qab (n:=1000) (r:=[]) (S:={sl:=[(4,i6 0)]}) (hs:=[no 13,fn 16 (i6 0),no 23,(0,.loop [] {sl:=[(1,.im n (ut j)),(5,i6 (n:Nat)),(25,.im n (ut j)),(26,i6 (n:Nat)),(27,i6 (0:Nat))]} [(True,.exit 0,{sl:=[(1,.im n (ut j)),(5,i6 (n:Nat)),(25,.im n (ut j)),(26,i6 (n:Nat)),(27,i6 (n:Nat))]})])]) ?_
 refine Eq.mp (by kernel_rfl:(let z0:=(↑n:Int);let z1:=V.im n (ut j);An [Sm (i6 0),decide (z0>(5:Int))=false,An [Tt,Tt],FnOk Try.prog g0 42 [V.im n (ut p)] (i6 0),Tt,(z0 != z0)=false,An [An [An [n=n,Sm (ut j)],z0=z0,An [n=n,Sm (ut j)],z0=z0,(↑(0:Nat):Int)=(0:Int),Tt],Tt],Sat Try.prog none 0 (at' 20 [1,1,1,0,1,0]) (mkSt g0 61 (SL.mk [(1,z1),(5,i6 ↑n),(25,z1),(26,i6 ↑n),(27,i6 ↑(0:Nat))] [] [] [])) (Qah g0 61 [(True,Ex.exit 0,SL.mk [(1,z1),(5,i6 ↑n),(25,z1),(26,i6 ↑n),(27,i6 ↑n)] [] [] [])]),(True→An [An [Sm (0:Int),Tt],Tt]),Tt])=_) ?_
 (repeat'(first|(with_reducible apply And.intro)|(refine fun(_:True)=>?_)))<;>first|exact aq|skip
 all_goals first|exact h1'|exact h2'|skip
theorem Qgl{n:Nat}(h:n<64):alN n<18446744073709551616:=by
 have:=Nat.pow_le_pow_right (n:=2) (by decide) (show n≤63 by omega)
 unfold alN;omega
structure Qid(n xs ys:Nat):Prop where
 x:mi xs (alN n)=0
 y:mi ys (alN n)=0
 d:xs&&& ys=0
 n0:ys≠0
 x64:xs<18446744073709551616
 y64:ys<18446744073709551616
theorem Qhc(p j:List Nat)(h:GrOk p j)(xs ys:Nat)(hq:Qid p.length xs ys):FnOk Pg g0 34 [ul p,ul j,u6 (xs:Nat),u6 (ys:Nat)] (i6 (0:Nat)):=by
 have hp:=Qac p
 have hj:=Qac j
 have h5:=h.l5
 have h1:=Qhg p j h
 have h2:=Qks p j (by omega)
 have s1:=mi_u (G:=Qaa Pg) (t:=28) (x:=xs) (y:=alN p.length) hq.x64 (Qgl (by omega))
 have s2:=mi_u (G:=Qaa Pg) (t:=28) (x:=ys) (y:=alN p.length) hq.y64 (Qgl (by omega))
 have s3:=Qgb (G:=Qaa Pg) (t:=28) hq.x64 hq.y64
 rw[hq.x]at s1
 rw[hq.y]at s2
 rw[hq.d]at s3
 have hn0:=hq.n0
 generalize alN p.length=al at*
 refine FnOk.of_vc vE_ok Qaf Qab (n:=1000) (r:=[]) (S:={sl:=[(8,i6 (0:Nat))]}) (hs:=[fn 12 (i6 0),fn 17 (u6 (al:Nat)),va 20 (u6 (0:Nat)),va 25 (u6 (0:Nat)),va 31 (u6 (0:Nat)),no 36]) ?_
 clear hq h
 refine Eq.mp (by kernel_rfl:(let z0:=[V.im p.length (ut p),V.im j.length (ut j)];let z2:=Qaa Try.prog;let z3:=(0:Nat);let z1:=some (u6 ↑z3);An [Sm (i6 ↑z3),TT 2,FnOk Try.prog g0 20 z0 (i6 0),Tt,An [TT 2,Tt],FnOk Try.prog g0 22 [V.agg z0] (u6 ↑al),Tt,binV z2 BinOp.andNot 28 (u6 ↑xs) (u6 ↑al)=z1,binV z2 BinOp.andNot 28 (u6 ↑ys) (u6 ↑al)=z1,binV z2 BinOp.and 28 (u6 ↑xs) (u6 ↑ys)=z1,((↑ys:Int)==(0:Int))=false,An [(↑z3:Int)=(0:Int),Tt],Tt])=_) ?_
 (repeat'(first|(with_reducible apply And.intro)|(refine fun(_:True)=>?_)))<;>first|exact aq|skip
 all_goals first|exact h1|exact h2|exact s1|exact s2|exact s3|(simp;omega)|skip
noncomputable def dcC:Code:=at' 8 [1,1,1,1,1,0,1,0]
noncomputable def dcB:Code:=Qf0 dcC
noncomputable def dcA:Code:=Qmw dcC
theorem dc_eq:dcC= .rangeFunc (.tmp 25) #[26] dcA dcB:=by kernel_rfl
abbrev lsO(v:V):O:=.row 30 none [v]
abbrev lsL(A:List V):O:=.row 28 (some 1) A
abbrev dcS(p j:List Nat)(s:Nat):List (Nat×V):=[(8,.ptr 0 0),(9,.ptr 1 0),(25,ptC p j s)]
abbrev dc0(d:Nat):List (Nat×V):=[(9,.ptr 1 0),(26,u6 (d:Nat))]
abbrev dc1(d:Nat):List (Nat×V):=[(9,.ptr 1 0),(10,u6 (d:Nat))]
theorem dc_asg(d:Nat)(H:T O)(nx:Nat):vc Pg vE sp0 (some 2) nx 1000 dcA [] (mkSo g0 32 (dc0 d) H nx []) (Qbx 32 (dc1 d) H nx []):=by
 refine Eq.mp (by kernel_rfl:(An [An [Sm (V.ptr 1 0),Sm (u6 ↑d),Tt],H=H,nx=nx,([]:List Nat)=[]])=_) ?_
 (repeat'(first|(with_reducible apply And.intro)|(refine fun(_:True)=>?_)))<;>first|exact aq|skip
 all_goals first|rfl|skip
theorem src_u{H:T O}{nx d:Nat}:srcV (pt H nx (.row 28 none [u6 (d:Nat)])) 1 (.sl nx 0 1 (some 0))=some (1,[u6 (d:Nat)]):=by
 unfold srcV;dsimp only;rw[pt_eq,T.get_put,if_pos rfl];rfl
abbrev uL(d:Nat):O:=.row 28 none [u6 (d:Nat)]
theorem dc_first(d nx:Nat)(H:T O)(h1:gt H 1=some (lsO .nils))(hn:2<nx):
  vc Pg vE sp0 (some 2) nx 1000 dcB [lo_ 27 (lsO .nils) .nils,(30,.an 1 [u6 (d:Nat)]),so (lsO .nils) [.sl (nx+1) 0 1 none]] (mkSo g0 32 (dc1 d) H nx [2]) (Qem (pt (pt (pt H nx (uL d)) (nx+1) (lsL [u6 (d:Nat)])) 1 (lsO (.sl (nx+1) 0 1 none))) (nx+1+1) [1,2]):=by
 refine Eq.mp (by kernel_rfl:(let z1:=V.sl (nx+1) 0 1 none;let z3:=[u6 ↑d];let z2:=pt H nx (O.row 28 none z3);let z0:=pt z2 (nx+1) (O.row 28 (some 1) z3);An [gt H 1=some (lsO V.nils),headF [V.nils]=some V.nils,An [srcV z2 1 (V.sl nx 0 1 (some 0))=some (1,z3),1≤9223372036854775807,1*8≤140737488355328],An [gt z0 1=some (lsO V.nils),layE 0 [V.nils] [z1]=some [z1]],pt z0 1 (O.row 30 none [z1])=pt (pt (pt H nx (uL d)) (nx+1) (lsL z3)) 1 (lsO z1),Sm (nx+1+1),[1]++([]++[2])=[1,2]])=_) ?_
 (repeat'(first|(with_reducible apply And.intro)|(refine fun(_:True)=>?_)))<;>first|exact aq|skip
 all_goals first|rfl|exact h1|exact src_u|(rw[gt_pt,if_neg (by omega),gt_pt,if_neg (by omega)];exact h1)|skip
theorem dc_more(d nx h w:Nat)(A:List V)(hA:A.length=w+1)(hw:w≤1000)(H:T O)(h1:gt H 1=some (lsO (.sl h 0 (w+1) none)))(h2:gt H h=some (lsL A))(hn:2<nx)(hh:h<nx)(hh2:2<h):
  vc Pg vE sp0 (some 2) nx 1000 dcB [lo_ 27 (lsO (.sl h 0 (w+1) none)) (.sl h 0 (w+1) none),(30,.ao (lsL A) 1 [u6 (d:Nat)]),so (lsO (.sl h 0 (w+1) none)) [.sl (nx+1) 0 (w+1+1) none]] (mkSo g0 32 (dc1 d) H nx [2]) (Qem (pt (pt (pt (pt H nx (uL d)) h .dead) (nx+1) (lsL (A++[u6 (d:Nat)]))) 1 (lsO (.sl (nx+1) 0 (w+1+1) none))) (nx+1+1) [1,h,2]):=by
 refine Eq.mp (by kernel_rfl:(let z1:=V.sl (nx+1) 0 (w+1+1) none;let z2:=V.sl h 0 (w+1) none;let z4:=[u6 ↑d];let z0:=pt H nx (O.row 28 none z4);let z3:=pt (pt z0 h O.dead) (nx+1) (O.row 28 (some 1) (A++z4));An [gt H 1=some (lsO z2),headF [z2]=some z2,srcV z0 1 (V.sl nx 0 1 (some 0))=some (1,z4),gt z0 h=some (lsL A),A.length=(w+1)*1,w+1+1≤9223372036854775807,(w+1+1)*8≤140737488355328,An [gt z3 1=some (lsO z2),layE 0 [z2] [z1]=some [z1]],pt z3 1 (O.row 30 none [z1])=pt (pt (pt (pt H nx (uL d)) h O.dead) (nx+1) (lsL (A++z4))) 1 (lsO z1),Sm (nx+1+1),[1]++([h]++[2])=[1,h,2]])=_) ?_
 (repeat'(first|(with_reducible apply And.intro)|(refine fun(_:True)=>?_)))<;>first|exact aq|skip
 all_goals first|rfl|exact h1|exact src_u|(rw[gt_pt,if_neg (by omega)];exact h2)|(rw[gt_pt,if_neg (by omega),gt_pt,if_neg (by omega),gt_pt,if_neg (by omega)];exact h1)|skip
noncomputable abbrev tmD(p j:List Nat)(s:Nat):TM:=(mkSo g0 32 (dcS p j s) .e 0 []).tm
noncomputable abbrev lpD(p j:List Nat)(s:Nat)(ls:LoopState):O:=.loop ls none 0 (tmD p j s) [26] dcA dcB
structure DiM(Lp:O)(L:List Nat)(H:T O)(nx:Nat):Prop where
 m2:gt H 2=some Lp
 b:2<nx
 m:(L=[]∧gt H 1=some (lsO .nils))∨∃h w,2<h∧h<nx∧L.length=w+1∧gt H 1=some (lsO (.sl h 0 (w+1) none))∧gt H h=some (lsL (ut L))
theorem ut_app(a b:List Nat):ut (a++b)=ut a++ut b:=by unfold ut;rw[List.map_append]
theorem ut_len(a:List Nat):(ut a).length=a.length:=by unfold ut;rw[List.length_map]
theorem dc_round(p j:List Nat)(s d:Nat)(L:List Nat)(hl:L.length≤1000)(H:T O)(nx:Nat)(M:DiM (lpD p j s .ready) L H nx):
  ∃H' n' LL,DiM (lpD p j s .ready) (L++[d]) H' n'∧CallSpec Pg g0 (.yld 2) [u6 (d:Nat)] H nx ⟨.bool true,H',n',LL⟩:=by
 obtain⟨m2,b,m⟩:=M
 rcases m with⟨rfl,m1⟩|⟨h,w,g1,g2,g3,m1,g5⟩
 ·have hv := dc_first d nx (pt H 2 (lpD p j s .busy)) (by rw [gt_pt, if_neg (by decide)]; exact m1) b
  refine⟨_,_,_,?_,CallSpec.yldO vE_ok Qaf Qab (n:=32) (hd:=2) (H:=H) (H1:=H) (fn0:=0) (tm:=tmD p j s) (ps:=[26]) (assign:=dcA) (body:=dcB) (sl0:=dc0 d) (sl1:=dc1 d) m2 rfl rfl rfl ⟨rfl,rfl,trivial⟩ (dc_asg d H nx) m2 hv ?_ (Qgt (by omega) (fun i hi hr=>?_))⟩
  ·refine ⟨by rw [gt_pt, if_pos rfl], by omega, .inr ⟨nx + 1, 0, by omega, by omega, rfl, ?_, ?_⟩⟩
   ·rw[gt_pt,if_neg (by decide),gt_pt,if_pos rfl]
   ·rw[gt_pt,if_neg (by omega),gt_pt,if_neg (by omega),gt_pt,if_pos rfl];rfl
  ·rw[gt_pt,if_neg (by decide),gt_pt,if_neg (by omega),gt_pt,if_neg (by omega),gt_pt,if_pos rfl]
  ·simp only [List.mem_cons, List.not_mem_nil, or_false, not_or] at hi
   rw[gt_pt,if_neg hi.1,gt_pt,if_neg hi.2.1,gt_pt,if_neg (by omega),gt_pt,if_neg (by omega),gt_pt,if_neg hi.1]
 ·have hv := dc_more d nx h w (ut L) (by rw [ut_len]; exact g3) (by omega) (pt H 2 (lpD p j s .busy)) (by rw [gt_pt, if_neg (by decide)]; exact m1) (by rw [gt_pt, if_neg (by omega)]; exact g5) b g2 g1
  refine⟨_,_,_,?_,CallSpec.yldO vE_ok Qaf Qab (n:=32) (hd:=2) (H:=H) (H1:=H) (fn0:=0) (tm:=tmD p j s) (ps:=[26]) (assign:=dcA) (body:=dcB) (sl0:=dc0 d) (sl1:=dc1 d) m2 rfl rfl rfl ⟨rfl,rfl,trivial⟩ (dc_asg d H nx) m2 hv ?_ (Qgt (by omega) (fun i hi hr=>?_))⟩
  ·refine ⟨by rw [gt_pt, if_pos rfl], by omega, .inr ⟨nx + 1, w + 1, by omega, by omega, by simp; omega, ?_, ?_⟩⟩
   ·rw[gt_pt,if_neg (by decide),gt_pt,if_pos rfl]
   ·rw[gt_pt,if_neg (by omega),gt_pt,if_neg (by omega),gt_pt,if_pos rfl,ut_app];rfl
  ·rw[gt_pt,if_neg (by decide),gt_pt,if_neg (by omega),gt_pt,if_neg (by omega),gt_pt,if_neg (by omega),gt_pt,if_pos rfl]
  ·simp only [List.mem_cons, List.not_mem_nil, or_false, not_or] at hi
   rw[gt_pt,if_neg hi.1,gt_pt,if_neg hi.2.1,gt_pt,if_neg (by omega),gt_pt,if_neg hi.2.2.1,gt_pt,if_neg (by omega),gt_pt,if_neg hi.1]
def diL(j:List Nat)(s k:Nat):List Nat:=(List.range k).map (dkF j s)
theorem diL_succ(j:List Nat)(s k:Nat):diL j s (k+1)=diL j s k++[dkF j s k]:=by unfold diL;rw[List.range_succ,List.map_append];rfl
theorem Qjm(j:List Nat)(s k:Nat):(diL j s k).length=k:=by unfold diL;rw[List.length_map,List.length_range]
theorem rn_pos{j:List Nat}{s:Nat}(hs:s<18446744073709551616)(h0:s≠0):rn j s≠0:=fun e=>by
 have h:=(Qgf (j:=j) hs).1
 rw[e]at h
 exact h0 h
theorem dc_range(p j:List Nat)(s:Nat)(hs:s<18446744073709551616)(hl:j.length≤64)(h64:S64 j)(hr:rn j s≤1000)(H:T O)(lg:List Nat)(h1:gt H 1=some (lsO .nils)):
  ∃H1 n1 L,DiM (lpD p j s .ready) (diL j s (rn j s)) H1 n1∧Sat Pg none 0 dcC (mkSo g0 32 (dcS p j s) H 2 lg) (Qen g0 32 .normal (fun _=>dcS p j s) (fun _ H' nx' lg'=>H'=pt H1 2 .dead∧nx'=n1∧lg'=L++lg)):=by
 obtain⟨hrm,hrne⟩:=Qgf (j:=j) hs
 have hrange:=Qfy (rd:=none) (nx0:=0) (n:=32) (nx:=2) (s:=s) (m:=rn j s) (sl:=dcS p j s) (H:=H) (lg:=lg) (g:=.tmp 25) (ps:= #[26]) (asg:=dcA) (body:=dcB) p j hs hl h64 hrm hrne rfl rfl (lpD p j s .ready) rfl
  (fun k H' n'=>DiM (lpD p j s .ready) (diL j s k) H' n')
  ⟨by rw[gt_pt,if_pos rfl],by decide,.inl ⟨rfl,by rw[gt_pt,if_neg (by decide)];exact h1⟩⟩
  (fun k hk H' n' hM => by
   obtain⟨H2,n2,L,i1,i2⟩:=dc_round p j s (dkF j s k) (diL j s k) (by rw[Qjm];omega) H' n' hM
   exact⟨H2,n2,L,by rw[diL_succ];exact i1,i2⟩)
  (fun H' n' hM=>hM.m2)
 obtain⟨H1,n1,L,hM,hlog,hsat⟩:=hrange
 exact⟨H1,n1,L,hM,by rw[dc_eq];exact hsat⟩
theorem gc_list{H:T O}{nx h n:Nat}{lg:List Nat}{X:List V}(hX:HfL X)(hn:h<nx)(h1:gt H h=some (lsL X)):
  Gc 0 [] (mkSo g0 32 [(6,.sl h 0 n none),(7,i6 0)] H nx lg) (mkSt g0 32 {sl:=[(6,.im n X),(7,i6 0)]}):=by
 rw[Qal]at h1
 refine⟨rfl,fun g hg=>(by cases hg),List.nodup_nil,rfl,rfl,fun i x hx=>?_,fun h' o ho hlive=>?_,fun h _ hlt=>absurd hlt (Nat.not_lt_zero _)⟩
 ·have c6 : gt (putL (blank 32) [(6, V.sl h 0 n none), (7, i6 0)]) 6 = some (.sl h 0 n none) := by kernel_rfl
  have c7:gt (putL (blank 32) [(6,V.sl h 0 n none),(7,i6 0)]) 7=some (i6 0):=by kernel_rfl
  rw[Qal]at c6 c7
  rcases putL_get _ _ _ _ hx with hmem|hmem
  ·simp only [List.mem_cons, List.not_mem_nil, or_false] at hmem
   rcases hmem with hmem|hmem
   ·cases hmem
    exact⟨_,c6,.inr (.inr ⟨h,0,none,_,_,_,rfl,⟨Nat.zero_le _,by simp,fun _ _=>Nat.zero_le _⟩,h1,ViewP.of_hf _ hX⟩)⟩
   ·cases hmem
    exact⟨_,c7,rfl⟩
  ·rw[Qbo]at hmem;cases hmem
 ·simp[mkSt,ofOs]at ho
theorem Qir(p j:List Nat)(h:GrOk p j)(s:Nat)(hs:s<18446744073709551616)(h0:s≠0)(hsa:mi s (alN p.length)=0)(hr:rn j s≤1000):FnOk Pg g0 8 [ul p,ul j,u6 (s:Nat)] (.tup [ul (diL j s (rn j s)),i6 0]):=by
 have hp:=Qac p
 have hj:=Qac j
 have h5:=h.l5
 have hck:=Qhg p j h
 have hall:=Qks p j (by omega)
 have hpt:=Qc3 p j s
 have s1:=mi_u (G:=Qaa Pg) (t:=28) (x:=s) (y:=alN p.length) hs (Qgl (by omega))
 rw[hsa]at s1
 obtain⟨H1,m1,L,hM,hsat⟩:=dc_range p j s hs (by have:=h.jl;omega) h.j64 hr (pt (pt (pt .e 0 (.row 72 none [.nils,.nils])) 0 (.row 72 none [ul p,ul j])) 1 (lsO .nils)) [0] rfl
 have hrp:=rn_pos (j:=j) hs h0
 obtain⟨m2,b,m⟩:=hM
 rcases m with⟨e,_⟩|⟨hq,w,g1,g2,g3,q1,q2⟩
 ·have := Qjm j s (rn j s)
  rw[e]at this
  exact absurd this.symm hrp
 have hA:=Qac (diL j s (rn j s))
 have e1:ul (diL j s (rn j s))= .im (w+1) (ut (diL j s (rn j s))):=by rw[←g3]
 rw[e1]
 generalize ut (diL j s (rn j s))=A at*
 obtain⟨gq,rfl⟩: ∃g,hq=g+3:=⟨hq-3,by omega⟩
 have r1:gt (pt H1 2 .dead) 1=some (lsO (.sl (gq+3) 0 (w+1) none)):=by rw[gt_pt,if_neg (by decide)];exact q1
 have r2:gt (pt H1 2 .dead) (gq+3)=some (lsL A):=by rw[gt_pt,if_neg (by omega)];exact q2
 generalize alN p.length=al at*
 refine FnOk.of_vcX (n:=1000) (r:=[]) (sl:=[(6,.sl (gq+3) 0 (w+1) none),(7,i6 0)]) (S:={sl:=[(6,.im (w+1) A),(7,i6 0)]}) (hs:=[fn 13 (i6 0),fn 20 (u6 (al:Nat)),va 21 (u6 (0:Nat)),fn 25 (ptC p j s),(0,.loopM (dcS p j s) .normal (fun _=>dcS p j s) (fun _ H' nx' lg'=>H'=pt H1 2 .dead∧nx'=m1∧lg'=L++[0]) (fun _ _ _ _=>[lo_ 31 (lsO (.sl (gq+3) 0 (w+1) none)) (.sl (gq+3) 0 (w+1) none)]))]) ?_
 clear g3 e1 h hsa
 refine Eq.mp (by kernel_rfl:(let z0:=V.sl (gq+3) 0 (w+1) none;let z1:=[V.im p.length (ut p),V.im j.length (ut j)];let z2:=V.tup [V.im (w+1) A,i6 0];An [z2=z2,TT 2,FnOk Pg g0 20 z1 (i6 0),Tt,An [TT 2,Tt],FnOk Pg g0 22 [V.agg z1] (u6 ↑al),Tt,binV (Qaa Try.prog) BinOp.andNot 28 (u6 ↑s) (u6 ↑al)=some (u6 ↑(0:Nat)),An [TT 2,Tt,Tt],FnOk Pg g0 23 [V.agg z1,u6 ↑s] (ptC p j s),Tt,An [Sm (V.ptr 0 0),Sm (V.ptr 1 0),Sm (ptC p j s),Tt],Sat Pg none 0 (at' 8 [1,1,1,1,1,0,1,0]) (mkSo g0 32 (dcS p j s) (pt (pt (pt T.e 0 (O.row 72 none [V.nils,V.nils])) 0 (O.row 72 none [ul p,ul j])) 1 (O.row 30 none [V.nils])) 2 ([]++([]++([0]++([]++[]))))) (Qen g0 32 Ex.normal (fun x=>dcS p j s) fun x H' nx' lg'=>H'=pt H1 2 O.dead∧nx'=m1∧lg'=L++[0]),∀(h:Nat)(H:T O)(nx:Nat)(lg:List Nat),H=pt H1 2 O.dead∧nx=m1∧lg=L++[0]→An [gt H 1=some (lsO z0),headF [z0]=some z0,An [z0=z0,Sm (i6 0),Tt],Gc 0 [] (mkSo g0 32 [(6,z0),(7,i6 0)] H nx lg) (mkSt g0 32 (SL.mk [(6,V.im (w+1) A),(7,i6 0)] [] [] []))]])=_) ?_
 (repeat'(first|(with_reducible apply And.intro)|(refine fun(_:True)=>?_)))
 all_goals first|exact hck|exact hall|exact s1|exact hpt|exact hsat|(rintro h H nx lg ⟨rfl,rfl,rfl⟩;(repeat'(first|(with_reducible apply And.intro)|(refine fun(_:True)=>?_)));all_goals first|rfl|exact aq|exact r1|exact gc_list hA g2 r2|skip)|exact aq|skip
theorem Qlj(p j:List Nat)(xs ys:Nat){x:Es}(hx:EsG x)(hid:FnOk Pg g0 18 [ul p,ul j,u6 (xs:Nat),u6 (ys:Nat)] (.tup [esV x,hgV (0,0,0),i6 (0:Nat)])):
  FnOk Pg g0 7 [ul p,ul j,u6 (xs:Nat),u6 (ys:Nat)] (i6 (0:Nat)):=by
 have hp:=Qac p
 have hj:=Qac j
 obtain⟨k,v,l⟩:=x
 have hk:k≠0:=hx.2
 have hX:=Qai l
 have e:esV (.mk k v l)= .agg [i6 (k:Nat),u6 (v:Nat),.im l.length (esL l)]:=rfl
 rw[e]at hid
 generalize esL l=X at*
 clear hx e
 refine FnOk.of_vc vE_ok Qaf Qab (n:=1000) (r:=[]) (S:={sl:=[(8,i6 (0:Nat))]}) (hs:=[fn 17 (.tup [.agg [i6 (k:Nat),u6 (v:Nat),.im l.length X],hgV (0,0,0),i6 (0:Nat)]),no 26]) ?_
 refine Eq.mp (by kernel_rfl:(An [Sm (i6 ↑(0:Nat)),TT 4,FnOk Try.prog g0 18 [V.im p.length (ut p),V.im j.length (ut j),u6 ↑xs,u6 ↑ys] (V.tup [V.agg [i6 ↑k,u6 ↑v,V.im l.length X],hgV (0,0,0),i6 ↑(0:Nat)]),Tt,((↑k:Int)==(0:Int))=false,An [Sm (↑(0:Nat):Int),Tt],Tt])=_) ?_
 (repeat'(first|(with_reducible apply And.intro)|(refine fun(_:True)=>?_)))<;>first|exact aq|skip
 all_goals first|exact hid|(simp;omega)|skip
theorem Qo5(p j:List Nat)(xs ys:Nat)(e:Nat)(he:e≠0)(h2:e≠351)(hid:FnOk Pg g0 18 [ul p,ul j,u6 (xs:Nat),u6 (ys:Nat)] (.tup [.agg [i6 0,u6 0,.nils],hgV (0,0,0),i6 (e:Nat)])):
  FnOk Pg g0 7 [ul p,ul j,u6 (xs:Nat),u6 (ys:Nat)] (i6 (e:Nat)):=by
 have hp:=Qac p
 have hj:=Qac j
 refine FnOk.of_vc vE_ok Qaf Qab (n:=1000) (r:=[]) (S:={sl:=[(8,i6 (e:Nat))]}) (hs:=[fn 17 (.tup [.agg [i6 0,u6 0,.nils],hgV (0,0,0),i6 (e:Nat)]),no 22,yes 30,no 39]) ?_
 refine Eq.mp (by kernel_rfl:(let z0:=(↑e:Int);An [Sm (i6 ↑e),TT 4,FnOk Try.prog g0 18 [V.im p.length (ut p),V.im j.length (ut j),u6 ↑xs,u6 ↑ys] (V.tup [V.agg [i6 0,u6 0,V.nils],hgV (0,0,0),i6 ↑e]),Tt,(z0==(0:Int))=false,(z0 != (0:Int))=true,(z0==(351:Int))=false,An [z0=z0,Tt],Tt])=_) ?_
 (repeat'(first|(with_reducible apply And.intro)|(refine fun(_:True)=>?_)))<;>first|exact aq|skip
 all_goals first|exact hid|(simp;omega)|skip
set_option maxHeartbeats 4000000
abbrev w8(n:Int):V:=.int .u8 n
def bt(l:List Nat):List V:=l.map fun(x:Nat)=>w8 (x:Int)
abbrev bl(l:List Nat):V:=.im l.length (bt l)
theorem Qae(l:List Nat):HfL (bt l):=Qe1 _ l (fun _=>trivial)
theorem Qao{l:List Nat}{k:Nat}(h:k<l.length):headF ((bt l).drop (k*1))=some (w8 ((l.getD k 0:Nat):Int)):=by
 unfold bt
 rw[List.getD_eq_getElem?_getD,List.getElem?_eq_getElem h]
 exact Qeu (List.getElem?_eq_getElem h)
theorem Qbu{G:Ctx}{t:Nat}{a b:Nat}(h:b≠0):binV G .rem t (i6 (a:Nat)) (i6 (b:Nat))=some (i6 ((a%b:Nat):Int)):=by
 rw[rem6 (by omega)]
 rfl
def atF(Q:List Nat)(i:Nat):Nat:=if i<Q.length then Q.getD i 0%(i+1)else 0
theorem atF_lt(Q:List Nat)(i:Nat):atF Q i<i+1:=by
 unfold atF
 split
 ·exact Nat.mod_lt _ (by omega)
 ·omega
def orL(Q:List Nat):Nat→List Nat
 |0=>[]
 |i+1=>(orL Q i).take (atF Q i)++[i]++(orL Q i).drop (atF Q i)
theorem Qhy(Q:List Nat): ∀i,(orL Q i).length=i
 |0=>rfl
 |i+1=>by
  have h:=Qhy Q i
  have:=atF_lt Q i
  rw[orL,List.length_append,List.length_append,List.length_take,List.length_drop,h]
  simp;omega
abbrev dfO(P Q:List Nat):O:=.row 24 none [bl P,bl Q]
abbrev ogS(P Q:List Nat)(n:Nat)(q:Nat×List Nat):SL:={sl:=[(1,.ptr 0 0),(3,i6 (n:Nat)),(4,owV 1 q.1),(5,i6 (q.1:Nat))],os:=dfO P Q::owL 3 1 (it q.2) q.1}
theorem og_0_0(P Q:List Nat)(n:Nat)(hn:0<n)(hn6:n≤6)(y:Nat)(hb:0<Q.length)(hy:Q.getD 0 0=y)(hu:y%1=0)(hx:y<256):
  vc Pg vE sp0 none 0 1000 (at' 21 [1,1,1,0,1,0,0]) [yes 19,yes 26,pl 30,ld 31 (w8 (y:Nat)),nu 32 (y:Nat),va 35 (i6 (0:Nat))] (mkSt g0 105 (ogS P Q n (0,[]))) (Qa0 0 105 [0,2] (ogS P Q n (1,[0]))):=by
 have hP:=Qae P
 have hQ:=Qae Q
 have h1:=Qao (l:=Q) (k:=0) hb
 rw[hy]at h1
 have h2:=Qbu (G:=Qaa Pg) (t:=3) (a:=y) (b:=1) (by decide)
 rw[hu]at h2
 refine Eq.mp (by kernel_rfl:(let z0:=(↑(0:Nat):Int);let z2:=(↑n:Int);let z1:=wr .i64 (z0+(1:Int));An [decide (z0<z2)=true,decide (z0<(↑Q.length:Int))=true,An [(0:Int)≤z0,z0<(↑Q.length:Int)],headF (List.drop (0*1) (bt Q))=some (w8 ↑y),wr .i64 (↑y:Int)=(↑y:Int),binV (Qaa Try.prog) BinOp.rem 3 (i6 ↑y) (i6 z1)=some (i6 ↑(0:Nat)),An [Zz,z2=z2,An [Zz,1=1,Tt],(↑(1:Nat):Int)=z1,Tt],An [Sm [bl P,bl Q],TT 2],An [it [0]=[i6 ↑(0:Nat)],Tt,Tt],Tt])=_) ?_
 (repeat'(first|(with_reducible apply And.intro)|(refine fun(_:True)=>?_)))<;>first|exact aq|skip
 all_goals first|exact h1|exact h2|rfl|decide|skip
theorem og_0_0n(P Q:List Nat)(n:Nat)(hn:0<n)(hn6:n≤6)(hb: ¬0<Q.length):
  vc Pg vE sp0 none 0 1000 (at' 21 [1,1,1,0,1,0,0]) [yes 19,no 26] (mkSt g0 105 (ogS P Q n (0,[]))) (Qa0 0 105 [0,2] (ogS P Q n (1,[0]))):=by
 have hP:=Qae P
 have hQ:=Qae Q
 refine Eq.mp (by kernel_rfl:(let z0:=(↑(0:Nat):Int);let z1:=(↑n:Int);An [decide (z0<z1)=true,decide (z0<(↑Q.length:Int))=false,An [Zz,z1=z1,An [Zz,1=1,Tt],(↑(1:Nat):Int)=wr .i64 (z0+(1:Int)),Tt],An [Sm [bl P,bl Q],TT 2],An [it [0]=[i6 ↑(0:Nat)],Tt,Tt],Tt])=_) ?_
 (repeat'(first|(with_reducible apply And.intro)|(refine fun(_:True)=>?_)))<;>first|exact aq|skip
 all_goals first|rfl|decide|skip
theorem og_1_0(P Q:List Nat)(n:Nat)(hn:1<n)(hn6:n≤6)(x0:Nat)(y:Nat)(hb:1<Q.length)(hy:Q.getD 1 0=y)(hu:y%2=0)(hx:y<256):
  vc Pg vE sp0 none 0 1000 (at' 21 [1,1,1,0,1,0,0]) [yes 19,yes 26,pl 30,ld 31 (w8 (y:Nat)),nu 32 (y:Nat),va 35 (i6 (0:Nat))] (mkSt g0 105 (ogS P Q n (1,[x0]))) (Qa0 0 105 [0,4] (ogS P Q n (2,[1,x0]))):=by
 have hP:=Qae P
 have hQ:=Qae Q
 have h1:=Qao (l:=Q) (k:=1) hb
 rw[hy]at h1
 have h2:=Qbu (G:=Qaa Pg) (t:=3) (a:=y) (b:=2) (by decide)
 rw[hu]at h2
 refine Eq.mp (by kernel_rfl:(let z0:=(↑(1:Nat):Int);let z2:=(↑n:Int);let z1:=wr .i64 (z0+(1:Int));An [decide (z0<z2)=true,decide (z0<(↑Q.length:Int))=true,An [(0:Int)≤z0,z0<(↑Q.length:Int)],headF (List.drop (1*1) (bt Q))=some (w8 ↑y),wr .i64 (↑y:Int)=(↑y:Int),binV (Qaa Try.prog) BinOp.rem 3 (i6 ↑y) (i6 z1)=some (i6 ↑(0:Nat)),An [Zz,z2=z2,An [Zz,2=1+(Int.toNat (Option.getD none (↑(1):Int))-Int.toNat (Option.getD (some (↑(0:Nat):Int)) (0:Int))),Tt],(↑(2:Nat):Int)=z1,Tt],An [Sm [bl P,bl Q],TT 2],An [it [1,x0]=[i6 ↑(1:Nat)]++[i6 ↑x0],TT 2],Tt])=_) ?_
 (repeat'(first|(with_reducible apply And.intro)|(refine fun(_:True)=>?_)))<;>first|exact aq|skip
 all_goals first|exact h1|exact h2|rfl|decide|skip
theorem og_1_0n(P Q:List Nat)(n:Nat)(hn:1<n)(hn6:n≤6)(x0:Nat)(hb: ¬1<Q.length):
  vc Pg vE sp0 none 0 1000 (at' 21 [1,1,1,0,1,0,0]) [yes 19,no 26] (mkSt g0 105 (ogS P Q n (1,[x0]))) (Qa0 0 105 [0,4] (ogS P Q n (2,[1,x0]))):=by
 have hP:=Qae P
 have hQ:=Qae Q
 refine Eq.mp (by kernel_rfl:(let z0:=(↑(1:Nat):Int);let z1:=(↑n:Int);An [decide (z0<z1)=true,decide (z0<(↑Q.length:Int))=false,An [Zz,z1=z1,An [Zz,2=1+(Int.toNat (Option.getD none (↑(1):Int))-Int.toNat (Option.getD (some (0:Int)) (0:Int))),Tt],(↑(2:Nat):Int)=wr .i64 (z0+(1:Int)),Tt],An [Sm [bl P,bl Q],TT 2],An [it [1,x0]=[i6 ↑(1:Nat)]++[i6 ↑x0],TT 2],Tt])=_) ?_
 (repeat'(first|(with_reducible apply And.intro)|(refine fun(_:True)=>?_)))<;>first|exact aq|skip
 all_goals first|rfl|decide|skip
theorem og_1_1(P Q:List Nat)(n:Nat)(hn:1<n)(hn6:n≤6)(x0:Nat)(y:Nat)(hb:1<Q.length)(hy:Q.getD 1 0=y)(hu:y%2=1)(hx:y<256):
  vc Pg vE sp0 none 0 1000 (at' 21 [1,1,1,0,1,0,0]) [yes 19,yes 26,pl 30,ld 31 (w8 (y:Nat)),nu 32 (y:Nat),va 35 (i6 (1:Nat))] (mkSt g0 105 (ogS P Q n (1,[x0]))) (Qa0 0 105 [0,4] (ogS P Q n (2,[x0,1]))):=by
 have hP:=Qae P
 have hQ:=Qae Q
 have h1:=Qao (l:=Q) (k:=1) hb
 rw[hy]at h1
 have h2:=Qbu (G:=Qaa Pg) (t:=3) (a:=y) (b:=2) (by decide)
 rw[hu]at h2
 refine Eq.mp (by kernel_rfl:(let z0:=(↑(1:Nat):Int);let z2:=(↑n:Int);let z1:=wr .i64 (z0+(1:Int));An [decide (z0<z2)=true,decide (z0<(↑Q.length:Int))=true,An [(0:Int)≤z0,z0<(↑Q.length:Int)],headF (List.drop (1*1) (bt Q))=some (w8 ↑y),wr .i64 (↑y:Int)=(↑y:Int),binV (Qaa Try.prog) BinOp.rem 3 (i6 ↑y) (i6 z1)=some (i6 ↑(1:Nat)),An [Zz,z2=z2,An [Zz,2=Int.toNat (Option.getD (some z0) (↑(1):Int))-Int.toNat (Option.getD none (0:Int))+1,Tt],(↑(2:Nat):Int)=z1,Tt],An [Sm [bl P,bl Q],TT 2],An [it [x0,1]=[i6 ↑x0]++[i6 ↑(1:Nat)],TT 2],Tt])=_) ?_
 (repeat'(first|(with_reducible apply And.intro)|(refine fun(_:True)=>?_)))<;>first|exact aq|skip
 all_goals first|exact h1|exact h2|rfl|decide|skip
theorem og_2_0(P Q:List Nat)(n:Nat)(hn:2<n)(hn6:n≤6)(x0 x1:Nat)(y:Nat)(hb:2<Q.length)(hy:Q.getD 2 0=y)(hu:y%3=0)(hx:y<256):
  vc Pg vE sp0 none 0 1000 (at' 21 [1,1,1,0,1,0,0]) [yes 19,yes 26,pl 30,ld 31 (w8 (y:Nat)),nu 32 (y:Nat),va 35 (i6 (0:Nat))] (mkSt g0 105 (ogS P Q n (2,[x0,x1]))) (Qa0 0 105 [0,4] (ogS P Q n (3,[2,x0,x1]))):=by
 have hP:=Qae P
 have hQ:=Qae Q
 have h1:=Qao (l:=Q) (k:=2) hb
 rw[hy]at h1
 have h2:=Qbu (G:=Qaa Pg) (t:=3) (a:=y) (b:=3) (by decide)
 rw[hu]at h2
 refine Eq.mp (by kernel_rfl:(let z0:=(↑(2:Nat):Int);let z2:=(↑n:Int);let z1:=wr .i64 (z0+(1:Int));An [decide (z0<z2)=true,decide (z0<(↑Q.length:Int))=true,An [(0:Int)≤z0,z0<(↑Q.length:Int)],headF (List.drop (2*1) (bt Q))=some (w8 ↑y),wr .i64 (↑y:Int)=(↑y:Int),binV (Qaa Try.prog) BinOp.rem 3 (i6 ↑y) (i6 z1)=some (i6 ↑(0:Nat)),An [Zz,z2=z2,An [Zz,3=1+(Int.toNat (Option.getD none (↑(2):Int))-Int.toNat (Option.getD (some (↑(0:Nat):Int)) (0:Int))),Tt],(↑(3:Nat):Int)=z1,Tt],An [Sm [bl P,bl Q],TT 2],An [it [2,x0,x1]=[i6 ↑(2:Nat)]++[i6 ↑x0,i6 ↑x1],TT 3],Tt])=_) ?_
 (repeat'(first|(with_reducible apply And.intro)|(refine fun(_:True)=>?_)))<;>first|exact aq|skip
 all_goals first|exact h1|exact h2|rfl|decide|skip
theorem og_2_0n(P Q:List Nat)(n:Nat)(hn:2<n)(hn6:n≤6)(x0 x1:Nat)(hb: ¬2<Q.length):
  vc Pg vE sp0 none 0 1000 (at' 21 [1,1,1,0,1,0,0]) [yes 19,no 26] (mkSt g0 105 (ogS P Q n (2,[x0,x1]))) (Qa0 0 105 [0,4] (ogS P Q n (3,[2,x0,x1]))):=by
 have hP:=Qae P
 have hQ:=Qae Q
 refine Eq.mp (by kernel_rfl:(let z0:=(↑(2:Nat):Int);let z1:=(↑n:Int);An [decide (z0<z1)=true,decide (z0<(↑Q.length:Int))=false,An [Zz,z1=z1,An [Zz,3=1+(Int.toNat (Option.getD none (↑(2):Int))-Int.toNat (Option.getD (some (0:Int)) (0:Int))),Tt],(↑(3:Nat):Int)=wr .i64 (z0+(1:Int)),Tt],An [Sm [bl P,bl Q],TT 2],An [it [2,x0,x1]=[i6 ↑(2:Nat)]++[i6 ↑x0,i6 ↑x1],TT 3],Tt])=_) ?_
 (repeat'(first|(with_reducible apply And.intro)|(refine fun(_:True)=>?_)))<;>first|exact aq|skip
 all_goals first|rfl|decide|skip
theorem og_2_1(P Q:List Nat)(n:Nat)(hn:2<n)(hn6:n≤6)(x0 x1:Nat)(y:Nat)(hb:2<Q.length)(hy:Q.getD 2 0=y)(hu:y%3=1)(hx:y<256):
  vc Pg vE sp0 none 0 1000 (at' 21 [1,1,1,0,1,0,0]) [yes 19,yes 26,pl 30,ld 31 (w8 (y:Nat)),nu 32 (y:Nat),va 35 (i6 (1:Nat))] (mkSt g0 105 (ogS P Q n (2,[x0,x1]))) (Qa0 0 105 [0,5] (ogS P Q n (3,[x0,2,x1]))):=by
 have hP:=Qae P
 have hQ:=Qae Q
 have h1:=Qao (l:=Q) (k:=2) hb
 rw[hy]at h1
 have h2:=Qbu (G:=Qaa Pg) (t:=3) (a:=y) (b:=3) (by decide)
 rw[hu]at h2
 refine Eq.mp (by kernel_rfl:(let z0:=(↑(2:Nat):Int);let z1:=some (↑(1:Nat):Int);let z3:=(↑n:Int);let z2:=wr .i64 (z0+(1:Int));An [decide (z0<z3)=true,decide (z0<(↑Q.length:Int))=true,An [(0:Int)≤z0,z0<(↑Q.length:Int)],headF (List.drop (2*1) (bt Q))=some (w8 ↑y),wr .i64 (↑y:Int)=(↑y:Int),binV (Qaa Try.prog) BinOp.rem 3 (i6 ↑y) (i6 z2)=some (i6 ↑(1:Nat)),An [Zz,z3=z3,An [Zz,3=Int.toNat (Option.getD z1 (↑(2):Int))-Int.toNat (Option.getD none (0:Int))+1+(Int.toNat (Option.getD none (↑(2):Int))-Int.toNat (Option.getD z1 (0:Int))),Tt],(↑(3:Nat):Int)=z2,Tt],An [Sm [bl P,bl Q],TT 2],An [it [x0,2,x1]=[i6 ↑x0]++[i6 ↑(2:Nat)]++[i6 ↑x1],TT 3],Tt])=_) ?_
 (repeat'(first|(with_reducible apply And.intro)|(refine fun(_:True)=>?_)))<;>first|exact aq|skip
 all_goals first|exact h1|exact h2|rfl|decide|skip
theorem og_2_2(P Q:List Nat)(n:Nat)(hn:2<n)(hn6:n≤6)(x0 x1:Nat)(y:Nat)(hb:2<Q.length)(hy:Q.getD 2 0=y)(hu:y%3=2)(hx:y<256):
  vc Pg vE sp0 none 0 1000 (at' 21 [1,1,1,0,1,0,0]) [yes 19,yes 26,pl 30,ld 31 (w8 (y:Nat)),nu 32 (y:Nat),va 35 (i6 (2:Nat))] (mkSt g0 105 (ogS P Q n (2,[x0,x1]))) (Qa0 0 105 [0,4] (ogS P Q n (3,[x0,x1,2]))):=by
 have hP:=Qae P
 have hQ:=Qae Q
 have h1:=Qao (l:=Q) (k:=2) hb
 rw[hy]at h1
 have h2:=Qbu (G:=Qaa Pg) (t:=3) (a:=y) (b:=3) (by decide)
 rw[hu]at h2
 refine Eq.mp (by kernel_rfl:(let z0:=(↑(2:Nat):Int);let z2:=(↑n:Int);let z1:=wr .i64 (z0+(1:Int));An [decide (z0<z2)=true,decide (z0<(↑Q.length:Int))=true,An [(0:Int)≤z0,z0<(↑Q.length:Int)],headF (List.drop (2*1) (bt Q))=some (w8 ↑y),wr .i64 (↑y:Int)=(↑y:Int),binV (Qaa Try.prog) BinOp.rem 3 (i6 ↑y) (i6 z1)=some (i6 ↑(2:Nat)),An [Zz,z2=z2,An [Zz,3=Int.toNat (Option.getD (some z0) (↑(2):Int))-Int.toNat (Option.getD none (0:Int))+1,Tt],(↑(3:Nat):Int)=z1,Tt],An [Sm [bl P,bl Q],TT 2],An [it [x0,x1,2]=[i6 ↑x0,i6 ↑x1]++[i6 ↑(2:Nat)],TT 3],Tt])=_) ?_
 (repeat'(first|(with_reducible apply And.intro)|(refine fun(_:True)=>?_)))<;>first|exact aq|skip
 all_goals first|exact h1|exact h2|rfl|decide|skip
theorem og_3_0(P Q:List Nat)(n:Nat)(hn:3<n)(hn6:n≤6)(x0 x1 x2:Nat)(y:Nat)(hb:3<Q.length)(hy:Q.getD 3 0=y)(hu:y%4=0)(hx:y<256):
  vc Pg vE sp0 none 0 1000 (at' 21 [1,1,1,0,1,0,0]) [yes 19,yes 26,pl 30,ld 31 (w8 (y:Nat)),nu 32 (y:Nat),va 35 (i6 (0:Nat))] (mkSt g0 105 (ogS P Q n (3,[x0,x1,x2]))) (Qa0 0 105 [0,4] (ogS P Q n (4,[3,x0,x1,x2]))):=by
 have hP:=Qae P
 have hQ:=Qae Q
 have h1:=Qao (l:=Q) (k:=3) hb
 rw[hy]at h1
 have h2:=Qbu (G:=Qaa Pg) (t:=3) (a:=y) (b:=4) (by decide)
 rw[hu]at h2
 refine Eq.mp (by kernel_rfl:(let z0:=(↑(3:Nat):Int);let z2:=(↑n:Int);let z1:=wr .i64 (z0+(1:Int));An [decide (z0<z2)=true,decide (z0<(↑Q.length:Int))=true,An [(0:Int)≤z0,z0<(↑Q.length:Int)],headF (List.drop (3*1) (bt Q))=some (w8 ↑y),wr .i64 (↑y:Int)=(↑y:Int),binV (Qaa Try.prog) BinOp.rem 3 (i6 ↑y) (i6 z1)=some (i6 ↑(0:Nat)),An [Zz,z2=z2,An [Zz,4=1+(Int.toNat (Option.getD none (↑(3):Int))-Int.toNat (Option.getD (some (↑(0:Nat):Int)) (0:Int))),Tt],(↑(4:Nat):Int)=z1,Tt],An [Sm [bl P,bl Q],TT 2],An [it [3,x0,x1,x2]=[i6 ↑(3:Nat)]++[i6 ↑x0,i6 ↑x1,i6 ↑x2],TT 4],Tt])=_) ?_
 (repeat'(first|(with_reducible apply And.intro)|(refine fun(_:True)=>?_)))<;>first|exact aq|skip
 all_goals first|exact h1|exact h2|rfl|decide|skip
theorem og_3_0n(P Q:List Nat)(n:Nat)(hn:3<n)(hn6:n≤6)(x0 x1 x2:Nat)(hb: ¬3<Q.length):
  vc Pg vE sp0 none 0 1000 (at' 21 [1,1,1,0,1,0,0]) [yes 19,no 26] (mkSt g0 105 (ogS P Q n (3,[x0,x1,x2]))) (Qa0 0 105 [0,4] (ogS P Q n (4,[3,x0,x1,x2]))):=by
 have hP:=Qae P
 have hQ:=Qae Q
 refine Eq.mp (by kernel_rfl:(let z0:=(↑(3:Nat):Int);let z1:=(↑n:Int);An [decide (z0<z1)=true,decide (z0<(↑Q.length:Int))=false,An [Zz,z1=z1,An [Zz,4=1+(Int.toNat (Option.getD none (↑(3):Int))-Int.toNat (Option.getD (some (0:Int)) (0:Int))),Tt],(↑(4:Nat):Int)=wr .i64 (z0+(1:Int)),Tt],An [Sm [bl P,bl Q],TT 2],An [it [3,x0,x1,x2]=[i6 ↑(3:Nat)]++[i6 ↑x0,i6 ↑x1,i6 ↑x2],TT 4],Tt])=_) ?_
 (repeat'(first|(with_reducible apply And.intro)|(refine fun(_:True)=>?_)))<;>first|exact aq|skip
 all_goals first|rfl|decide|skip
theorem og_3_1(P Q:List Nat)(n:Nat)(hn:3<n)(hn6:n≤6)(x0 x1 x2:Nat)(y:Nat)(hb:3<Q.length)(hy:Q.getD 3 0=y)(hu:y%4=1)(hx:y<256):
  vc Pg vE sp0 none 0 1000 (at' 21 [1,1,1,0,1,0,0]) [yes 19,yes 26,pl 30,ld 31 (w8 (y:Nat)),nu 32 (y:Nat),va 35 (i6 (1:Nat))] (mkSt g0 105 (ogS P Q n (3,[x0,x1,x2]))) (Qa0 0 105 [0,5] (ogS P Q n (4,[x0,3,x1,x2]))):=by
 have hP:=Qae P
 have hQ:=Qae Q
 have h1:=Qao (l:=Q) (k:=3) hb
 rw[hy]at h1
 have h2:=Qbu (G:=Qaa Pg) (t:=3) (a:=y) (b:=4) (by decide)
 rw[hu]at h2
 refine Eq.mp (by kernel_rfl:(let z0:=(↑(3:Nat):Int);let z1:=some (↑(1:Nat):Int);let z3:=(↑n:Int);let z2:=wr .i64 (z0+(1:Int));An [decide (z0<z3)=true,decide (z0<(↑Q.length:Int))=true,An [(0:Int)≤z0,z0<(↑Q.length:Int)],headF (List.drop (3*1) (bt Q))=some (w8 ↑y),wr .i64 (↑y:Int)=(↑y:Int),binV (Qaa Try.prog) BinOp.rem 3 (i6 ↑y) (i6 z2)=some (i6 ↑(1:Nat)),An [Zz,z3=z3,An [Zz,4=Int.toNat (Option.getD z1 (↑(3):Int))-Int.toNat (Option.getD none (0:Int))+1+(Int.toNat (Option.getD none (↑(3):Int))-Int.toNat (Option.getD z1 (0:Int))),Tt],(↑(4:Nat):Int)=z2,Tt],An [Sm [bl P,bl Q],TT 2],An [it [x0,3,x1,x2]=[i6 ↑x0]++[i6 ↑(3:Nat)]++[i6 ↑x1,i6 ↑x2],TT 4],Tt])=_) ?_
 (repeat'(first|(with_reducible apply And.intro)|(refine fun(_:True)=>?_)))<;>first|exact aq|skip
 all_goals first|exact h1|exact h2|rfl|decide|skip
theorem og_3_2(P Q:List Nat)(n:Nat)(hn:3<n)(hn6:n≤6)(x0 x1 x2:Nat)(y:Nat)(hb:3<Q.length)(hy:Q.getD 3 0=y)(hu:y%4=2)(hx:y<256):
  vc Pg vE sp0 none 0 1000 (at' 21 [1,1,1,0,1,0,0]) [yes 19,yes 26,pl 30,ld 31 (w8 (y:Nat)),nu 32 (y:Nat),va 35 (i6 (2:Nat))] (mkSt g0 105 (ogS P Q n (3,[x0,x1,x2]))) (Qa0 0 105 [0,5] (ogS P Q n (4,[x0,x1,3,x2]))):=by
 have hP:=Qae P
 have hQ:=Qae Q
 have h1:=Qao (l:=Q) (k:=3) hb
 rw[hy]at h1
 have h2:=Qbu (G:=Qaa Pg) (t:=3) (a:=y) (b:=4) (by decide)
 rw[hu]at h2
 refine Eq.mp (by kernel_rfl:(let z0:=(↑(3:Nat):Int);let z1:=some (↑(2:Nat):Int);let z3:=(↑n:Int);let z2:=wr .i64 (z0+(1:Int));An [decide (z0<z3)=true,decide (z0<(↑Q.length:Int))=true,An [(0:Int)≤z0,z0<(↑Q.length:Int)],headF (List.drop (3*1) (bt Q))=some (w8 ↑y),wr .i64 (↑y:Int)=(↑y:Int),binV (Qaa Try.prog) BinOp.rem 3 (i6 ↑y) (i6 z2)=some (i6 ↑(2:Nat)),An [Zz,z3=z3,An [Zz,4=Int.toNat (Option.getD z1 (↑(3):Int))-Int.toNat (Option.getD none (0:Int))+1+(Int.toNat (Option.getD none (↑(3):Int))-Int.toNat (Option.getD z1 (0:Int))),Tt],(↑(4:Nat):Int)=z2,Tt],An [Sm [bl P,bl Q],TT 2],An [it [x0,x1,3,x2]=[i6 ↑x0,i6 ↑x1]++[i6 ↑(3:Nat)]++[i6 ↑x2],TT 4],Tt])=_) ?_
 (repeat'(first|(with_reducible apply And.intro)|(refine fun(_:True)=>?_)))<;>first|exact aq|skip
 all_goals first|exact h1|exact h2|rfl|decide|skip
theorem og_3_3(P Q:List Nat)(n:Nat)(hn:3<n)(hn6:n≤6)(x0 x1 x2:Nat)(y:Nat)(hb:3<Q.length)(hy:Q.getD 3 0=y)(hu:y%4=3)(hx:y<256):
  vc Pg vE sp0 none 0 1000 (at' 21 [1,1,1,0,1,0,0]) [yes 19,yes 26,pl 30,ld 31 (w8 (y:Nat)),nu 32 (y:Nat),va 35 (i6 (3:Nat))] (mkSt g0 105 (ogS P Q n (3,[x0,x1,x2]))) (Qa0 0 105 [0,4] (ogS P Q n (4,[x0,x1,x2,3]))):=by
 have hP:=Qae P
 have hQ:=Qae Q
 have h1:=Qao (l:=Q) (k:=3) hb
 rw[hy]at h1
 have h2:=Qbu (G:=Qaa Pg) (t:=3) (a:=y) (b:=4) (by decide)
 rw[hu]at h2
 refine Eq.mp (by kernel_rfl:(let z0:=(↑(3:Nat):Int);let z2:=(↑n:Int);let z1:=wr .i64 (z0+(1:Int));An [decide (z0<z2)=true,decide (z0<(↑Q.length:Int))=true,An [(0:Int)≤z0,z0<(↑Q.length:Int)],headF (List.drop (3*1) (bt Q))=some (w8 ↑y),wr .i64 (↑y:Int)=(↑y:Int),binV (Qaa Try.prog) BinOp.rem 3 (i6 ↑y) (i6 z1)=some (i6 ↑(3:Nat)),An [Zz,z2=z2,An [Zz,4=Int.toNat (Option.getD (some z0) (↑(3):Int))-Int.toNat (Option.getD none (0:Int))+1,Tt],(↑(4:Nat):Int)=z1,Tt],An [Sm [bl P,bl Q],TT 2],An [it [x0,x1,x2,3]=[i6 ↑x0,i6 ↑x1,i6 ↑x2]++[i6 ↑(3:Nat)],TT 4],Tt])=_) ?_
 (repeat'(first|(with_reducible apply And.intro)|(refine fun(_:True)=>?_)))<;>first|exact aq|skip
 all_goals first|exact h1|exact h2|rfl|decide|skip
theorem og_4_0(P Q:List Nat)(n:Nat)(hn:4<n)(hn6:n≤6)(x0 x1 x2 x3:Nat)(y:Nat)(hb:4<Q.length)(hy:Q.getD 4 0=y)(hu:y%5=0)(hx:y<256):
  vc Pg vE sp0 none 0 1000 (at' 21 [1,1,1,0,1,0,0]) [yes 19,yes 26,pl 30,ld 31 (w8 (y:Nat)),nu 32 (y:Nat),va 35 (i6 (0:Nat))] (mkSt g0 105 (ogS P Q n (4,[x0,x1,x2,x3]))) (Qa0 0 105 [0,4] (ogS P Q n (5,[4,x0,x1,x2,x3]))):=by
 have hP:=Qae P
 have hQ:=Qae Q
 have h1:=Qao (l:=Q) (k:=4) hb
 rw[hy]at h1
 have h2:=Qbu (G:=Qaa Pg) (t:=3) (a:=y) (b:=5) (by decide)
 rw[hu]at h2
 refine Eq.mp (by kernel_rfl:(let z0:=(↑(4:Nat):Int);let z2:=(↑n:Int);let z1:=wr .i64 (z0+(1:Int));An [decide (z0<z2)=true,decide (z0<(↑Q.length:Int))=true,An [(0:Int)≤z0,z0<(↑Q.length:Int)],headF (List.drop (4*1) (bt Q))=some (w8 ↑y),wr .i64 (↑y:Int)=(↑y:Int),binV (Qaa Try.prog) BinOp.rem 3 (i6 ↑y) (i6 z1)=some (i6 ↑(0:Nat)),An [Zz,z2=z2,An [Zz,5=1+(Int.toNat (Option.getD none (↑(4):Int))-Int.toNat (Option.getD (some (↑(0:Nat):Int)) (0:Int))),Tt],(↑(5:Nat):Int)=z1,Tt],An [Sm [bl P,bl Q],TT 2],An [it [4,x0,x1,x2,x3]=[i6 ↑(4:Nat)]++[i6 ↑x0,i6 ↑x1,i6 ↑x2,i6 ↑x3],TT 5],Tt])=_) ?_
 (repeat'(first|(with_reducible apply And.intro)|(refine fun(_:True)=>?_)))<;>first|exact aq|skip
 all_goals first|exact h1|exact h2|rfl|decide|skip
theorem og_4_0n(P Q:List Nat)(n:Nat)(hn:4<n)(hn6:n≤6)(x0 x1 x2 x3:Nat)(hb: ¬4<Q.length):
  vc Pg vE sp0 none 0 1000 (at' 21 [1,1,1,0,1,0,0]) [yes 19,no 26] (mkSt g0 105 (ogS P Q n (4,[x0,x1,x2,x3]))) (Qa0 0 105 [0,4] (ogS P Q n (5,[4,x0,x1,x2,x3]))):=by
 have hP:=Qae P
 have hQ:=Qae Q
 refine Eq.mp (by kernel_rfl:(let z0:=(↑(4:Nat):Int);let z1:=(↑n:Int);An [decide (z0<z1)=true,decide (z0<(↑Q.length:Int))=false,An [Zz,z1=z1,An [Zz,5=1+(Int.toNat (Option.getD none (↑(4):Int))-Int.toNat (Option.getD (some (0:Int)) (0:Int))),Tt],(↑(5:Nat):Int)=wr .i64 (z0+(1:Int)),Tt],An [Sm [bl P,bl Q],TT 2],An [it [4,x0,x1,x2,x3]=[i6 ↑(4:Nat)]++[i6 ↑x0,i6 ↑x1,i6 ↑x2,i6 ↑x3],TT 5],Tt])=_) ?_
 (repeat'(first|(with_reducible apply And.intro)|(refine fun(_:True)=>?_)))<;>first|exact aq|skip
 all_goals first|rfl|decide|skip
theorem og_4_1(P Q:List Nat)(n:Nat)(hn:4<n)(hn6:n≤6)(x0 x1 x2 x3:Nat)(y:Nat)(hb:4<Q.length)(hy:Q.getD 4 0=y)(hu:y%5=1)(hx:y<256):
  vc Pg vE sp0 none 0 1000 (at' 21 [1,1,1,0,1,0,0]) [yes 19,yes 26,pl 30,ld 31 (w8 (y:Nat)),nu 32 (y:Nat),va 35 (i6 (1:Nat))] (mkSt g0 105 (ogS P Q n (4,[x0,x1,x2,x3]))) (Qa0 0 105 [0,5] (ogS P Q n (5,[x0,4,x1,x2,x3]))):=by
 have hP:=Qae P
 have hQ:=Qae Q
 have h1:=Qao (l:=Q) (k:=4) hb
 rw[hy]at h1
 have h2:=Qbu (G:=Qaa Pg) (t:=3) (a:=y) (b:=5) (by decide)
 rw[hu]at h2
 refine Eq.mp (by kernel_rfl:(let z0:=(↑(4:Nat):Int);let z1:=some (↑(1:Nat):Int);let z3:=(↑n:Int);let z2:=wr .i64 (z0+(1:Int));An [decide (z0<z3)=true,decide (z0<(↑Q.length:Int))=true,An [(0:Int)≤z0,z0<(↑Q.length:Int)],headF (List.drop (4*1) (bt Q))=some (w8 ↑y),wr .i64 (↑y:Int)=(↑y:Int),binV (Qaa Try.prog) BinOp.rem 3 (i6 ↑y) (i6 z2)=some (i6 ↑(1:Nat)),An [Zz,z3=z3,An [Zz,5=Int.toNat (Option.getD z1 (↑(4):Int))-Int.toNat (Option.getD none (0:Int))+1+(Int.toNat (Option.getD none (↑(4):Int))-Int.toNat (Option.getD z1 (0:Int))),Tt],(↑(5:Nat):Int)=z2,Tt],An [Sm [bl P,bl Q],TT 2],An [it [x0,4,x1,x2,x3]=[i6 ↑x0]++[i6 ↑(4:Nat)]++[i6 ↑x1,i6 ↑x2,i6 ↑x3],TT 5],Tt])=_) ?_
 (repeat'(first|(with_reducible apply And.intro)|(refine fun(_:True)=>?_)))<;>first|exact aq|skip
 all_goals first|exact h1|exact h2|rfl|decide|skip
theorem og_4_2(P Q:List Nat)(n:Nat)(hn:4<n)(hn6:n≤6)(x0 x1 x2 x3:Nat)(y:Nat)(hb:4<Q.length)(hy:Q.getD 4 0=y)(hu:y%5=2)(hx:y<256):
  vc Pg vE sp0 none 0 1000 (at' 21 [1,1,1,0,1,0,0]) [yes 19,yes 26,pl 30,ld 31 (w8 (y:Nat)),nu 32 (y:Nat),va 35 (i6 (2:Nat))] (mkSt g0 105 (ogS P Q n (4,[x0,x1,x2,x3]))) (Qa0 0 105 [0,5] (ogS P Q n (5,[x0,x1,4,x2,x3]))):=by
 have hP:=Qae P
 have hQ:=Qae Q
 have h1:=Qao (l:=Q) (k:=4) hb
 rw[hy]at h1
 have h2:=Qbu (G:=Qaa Pg) (t:=3) (a:=y) (b:=5) (by decide)
 rw[hu]at h2
 refine Eq.mp (by kernel_rfl:(let z0:=(↑(4:Nat):Int);let z1:=some (↑(2:Nat):Int);let z3:=(↑n:Int);let z2:=wr .i64 (z0+(1:Int));An [decide (z0<z3)=true,decide (z0<(↑Q.length:Int))=true,An [(0:Int)≤z0,z0<(↑Q.length:Int)],headF (List.drop (4*1) (bt Q))=some (w8 ↑y),wr .i64 (↑y:Int)=(↑y:Int),binV (Qaa Try.prog) BinOp.rem 3 (i6 ↑y) (i6 z2)=some (i6 ↑(2:Nat)),An [Zz,z3=z3,An [Zz,5=Int.toNat (Option.getD z1 (↑(4):Int))-Int.toNat (Option.getD none (0:Int))+1+(Int.toNat (Option.getD none (↑(4):Int))-Int.toNat (Option.getD z1 (0:Int))),Tt],(↑(5:Nat):Int)=z2,Tt],An [Sm [bl P,bl Q],TT 2],An [it [x0,x1,4,x2,x3]=[i6 ↑x0,i6 ↑x1]++[i6 ↑(4:Nat)]++[i6 ↑x2,i6 ↑x3],TT 5],Tt])=_) ?_
 (repeat'(first|(with_reducible apply And.intro)|(refine fun(_:True)=>?_)))<;>first|exact aq|skip
 all_goals first|exact h1|exact h2|rfl|decide|skip
theorem og_4_3(P Q:List Nat)(n:Nat)(hn:4<n)(hn6:n≤6)(x0 x1 x2 x3:Nat)(y:Nat)(hb:4<Q.length)(hy:Q.getD 4 0=y)(hu:y%5=3)(hx:y<256):
  vc Pg vE sp0 none 0 1000 (at' 21 [1,1,1,0,1,0,0]) [yes 19,yes 26,pl 30,ld 31 (w8 (y:Nat)),nu 32 (y:Nat),va 35 (i6 (3:Nat))] (mkSt g0 105 (ogS P Q n (4,[x0,x1,x2,x3]))) (Qa0 0 105 [0,5] (ogS P Q n (5,[x0,x1,x2,4,x3]))):=by
 have hP:=Qae P
 have hQ:=Qae Q
 have h1:=Qao (l:=Q) (k:=4) hb
 rw[hy]at h1
 have h2:=Qbu (G:=Qaa Pg) (t:=3) (a:=y) (b:=5) (by decide)
 rw[hu]at h2
 refine Eq.mp (by kernel_rfl:(let z0:=(↑(4:Nat):Int);let z1:=some (↑(3:Nat):Int);let z3:=(↑n:Int);let z2:=wr .i64 (z0+(1:Int));An [decide (z0<z3)=true,decide (z0<(↑Q.length:Int))=true,An [(0:Int)≤z0,z0<(↑Q.length:Int)],headF (List.drop (4*1) (bt Q))=some (w8 ↑y),wr .i64 (↑y:Int)=(↑y:Int),binV (Qaa Try.prog) BinOp.rem 3 (i6 ↑y) (i6 z2)=some (i6 ↑(3:Nat)),An [Zz,z3=z3,An [Zz,5=Int.toNat (Option.getD z1 (↑(4):Int))-Int.toNat (Option.getD none (0:Int))+1+(Int.toNat (Option.getD none (↑(4):Int))-Int.toNat (Option.getD z1 (0:Int))),Tt],(↑(5:Nat):Int)=z2,Tt],An [Sm [bl P,bl Q],TT 2],An [it [x0,x1,x2,4,x3]=[i6 ↑x0,i6 ↑x1,i6 ↑x2]++[i6 ↑(4:Nat)]++[i6 ↑x3],TT 5],Tt])=_) ?_
 (repeat'(first|(with_reducible apply And.intro)|(refine fun(_:True)=>?_)))<;>first|exact aq|skip
 all_goals first|exact h1|exact h2|rfl|decide|skip
theorem og_4_4(P Q:List Nat)(n:Nat)(hn:4<n)(hn6:n≤6)(x0 x1 x2 x3:Nat)(y:Nat)(hb:4<Q.length)(hy:Q.getD 4 0=y)(hu:y%5=4)(hx:y<256):
  vc Pg vE sp0 none 0 1000 (at' 21 [1,1,1,0,1,0,0]) [yes 19,yes 26,pl 30,ld 31 (w8 (y:Nat)),nu 32 (y:Nat),va 35 (i6 (4:Nat))] (mkSt g0 105 (ogS P Q n (4,[x0,x1,x2,x3]))) (Qa0 0 105 [0,4] (ogS P Q n (5,[x0,x1,x2,x3,4]))):=by
 have hP:=Qae P
 have hQ:=Qae Q
 have h1:=Qao (l:=Q) (k:=4) hb
 rw[hy]at h1
 have h2:=Qbu (G:=Qaa Pg) (t:=3) (a:=y) (b:=5) (by decide)
 rw[hu]at h2
 refine Eq.mp (by kernel_rfl:(let z0:=(↑(4:Nat):Int);let z2:=(↑n:Int);let z1:=wr .i64 (z0+(1:Int));An [decide (z0<z2)=true,decide (z0<(↑Q.length:Int))=true,An [(0:Int)≤z0,z0<(↑Q.length:Int)],headF (List.drop (4*1) (bt Q))=some (w8 ↑y),wr .i64 (↑y:Int)=(↑y:Int),binV (Qaa Try.prog) BinOp.rem 3 (i6 ↑y) (i6 z1)=some (i6 ↑(4:Nat)),An [Zz,z2=z2,An [Zz,5=Int.toNat (Option.getD (some z0) (↑(4):Int))-Int.toNat (Option.getD none (0:Int))+1,Tt],(↑(5:Nat):Int)=z1,Tt],An [Sm [bl P,bl Q],TT 2],An [it [x0,x1,x2,x3,4]=[i6 ↑x0,i6 ↑x1,i6 ↑x2,i6 ↑x3]++[i6 ↑(4:Nat)],TT 5],Tt])=_) ?_
 (repeat'(first|(with_reducible apply And.intro)|(refine fun(_:True)=>?_)))<;>first|exact aq|skip
 all_goals first|exact h1|exact h2|rfl|decide|skip
theorem og_5_0(P Q:List Nat)(n:Nat)(hn:5<n)(hn6:n≤6)(x0 x1 x2 x3 x4:Nat)(y:Nat)(hb:5<Q.length)(hy:Q.getD 5 0=y)(hu:y%6=0)(hx:y<256):
  vc Pg vE sp0 none 0 1000 (at' 21 [1,1,1,0,1,0,0]) [yes 19,yes 26,pl 30,ld 31 (w8 (y:Nat)),nu 32 (y:Nat),va 35 (i6 (0:Nat))] (mkSt g0 105 (ogS P Q n (5,[x0,x1,x2,x3,x4]))) (Qa0 0 105 [0,4] (ogS P Q n (6,[5,x0,x1,x2,x3,x4]))):=by
 have hP:=Qae P
 have hQ:=Qae Q
 have h1:=Qao (l:=Q) (k:=5) hb
 rw[hy]at h1
 have h2:=Qbu (G:=Qaa Pg) (t:=3) (a:=y) (b:=6) (by decide)
 rw[hu]at h2
 refine Eq.mp (by kernel_rfl:(let z0:=(↑(5:Nat):Int);let z2:=(↑n:Int);let z1:=wr .i64 (z0+(1:Int));An [decide (z0<z2)=true,decide (z0<(↑Q.length:Int))=true,An [(0:Int)≤z0,z0<(↑Q.length:Int)],headF (List.drop (5*1) (bt Q))=some (w8 ↑y),wr .i64 (↑y:Int)=(↑y:Int),binV (Qaa Try.prog) BinOp.rem 3 (i6 ↑y) (i6 z1)=some (i6 ↑(0:Nat)),An [Zz,z2=z2,An [Zz,6=1+(Int.toNat (Option.getD none (↑(5):Int))-Int.toNat (Option.getD (some (↑(0:Nat):Int)) (0:Int))),Tt],(↑(6:Nat):Int)=z1,Tt],An [Sm [bl P,bl Q],TT 2],An [it [5,x0,x1,x2,x3,x4]=[i6 ↑(5:Nat)]++[i6 ↑x0,i6 ↑x1,i6 ↑x2,i6 ↑x3,i6 ↑x4],TT 6],Tt])=_) ?_
 (repeat'(first|(with_reducible apply And.intro)|(refine fun(_:True)=>?_)))<;>first|exact aq|skip
 all_goals first|exact h1|exact h2|rfl|decide|skip
theorem og_5_0n(P Q:List Nat)(n:Nat)(hn:5<n)(hn6:n≤6)(x0 x1 x2 x3 x4:Nat)(hb: ¬5<Q.length):
  vc Pg vE sp0 none 0 1000 (at' 21 [1,1,1,0,1,0,0]) [yes 19,no 26] (mkSt g0 105 (ogS P Q n (5,[x0,x1,x2,x3,x4]))) (Qa0 0 105 [0,4] (ogS P Q n (6,[5,x0,x1,x2,x3,x4]))):=by
 have hP:=Qae P
 have hQ:=Qae Q
 refine Eq.mp (by kernel_rfl:(let z0:=(↑(5:Nat):Int);let z1:=(↑n:Int);An [decide (z0<z1)=true,decide (z0<(↑Q.length:Int))=false,An [Zz,z1=z1,An [Zz,6=1+(Int.toNat (Option.getD none (↑(5):Int))-Int.toNat (Option.getD (some (0:Int)) (0:Int))),Tt],(↑(6:Nat):Int)=wr .i64 (z0+(1:Int)),Tt],An [Sm [bl P,bl Q],TT 2],An [it [5,x0,x1,x2,x3,x4]=[i6 ↑(5:Nat)]++[i6 ↑x0,i6 ↑x1,i6 ↑x2,i6 ↑x3,i6 ↑x4],TT 6],Tt])=_) ?_
 (repeat'(first|(with_reducible apply And.intro)|(refine fun(_:True)=>?_)))<;>first|exact aq|skip
 all_goals first|rfl|decide|skip
theorem og_5_1(P Q:List Nat)(n:Nat)(hn:5<n)(hn6:n≤6)(x0 x1 x2 x3 x4:Nat)(y:Nat)(hb:5<Q.length)(hy:Q.getD 5 0=y)(hu:y%6=1)(hx:y<256):
  vc Pg vE sp0 none 0 1000 (at' 21 [1,1,1,0,1,0,0]) [yes 19,yes 26,pl 30,ld 31 (w8 (y:Nat)),nu 32 (y:Nat),va 35 (i6 (1:Nat))] (mkSt g0 105 (ogS P Q n (5,[x0,x1,x2,x3,x4]))) (Qa0 0 105 [0,5] (ogS P Q n (6,[x0,5,x1,x2,x3,x4]))):=by
 have hP:=Qae P
 have hQ:=Qae Q
 have h1:=Qao (l:=Q) (k:=5) hb
 rw[hy]at h1
 have h2:=Qbu (G:=Qaa Pg) (t:=3) (a:=y) (b:=6) (by decide)
 rw[hu]at h2
 refine Eq.mp (by kernel_rfl:(let z0:=(↑(5:Nat):Int);let z1:=some (↑(1:Nat):Int);let z3:=(↑n:Int);let z2:=wr .i64 (z0+(1:Int));An [decide (z0<z3)=true,decide (z0<(↑Q.length:Int))=true,An [(0:Int)≤z0,z0<(↑Q.length:Int)],headF (List.drop (5*1) (bt Q))=some (w8 ↑y),wr .i64 (↑y:Int)=(↑y:Int),binV (Qaa Try.prog) BinOp.rem 3 (i6 ↑y) (i6 z2)=some (i6 ↑(1:Nat)),An [Zz,z3=z3,An [Zz,6=Int.toNat (Option.getD z1 (↑(5):Int))-Int.toNat (Option.getD none (0:Int))+1+(Int.toNat (Option.getD none (↑(5):Int))-Int.toNat (Option.getD z1 (0:Int))),Tt],(↑(6:Nat):Int)=z2,Tt],An [Sm [bl P,bl Q],TT 2],An [it [x0,5,x1,x2,x3,x4]=[i6 ↑x0]++[i6 ↑(5:Nat)]++[i6 ↑x1,i6 ↑x2,i6 ↑x3,i6 ↑x4],TT 6],Tt])=_) ?_
 (repeat'(first|(with_reducible apply And.intro)|(refine fun(_:True)=>?_)))<;>first|exact aq|skip
 all_goals first|exact h1|exact h2|rfl|decide|skip
theorem og_5_2(P Q:List Nat)(n:Nat)(hn:5<n)(hn6:n≤6)(x0 x1 x2 x3 x4:Nat)(y:Nat)(hb:5<Q.length)(hy:Q.getD 5 0=y)(hu:y%6=2)(hx:y<256):
  vc Pg vE sp0 none 0 1000 (at' 21 [1,1,1,0,1,0,0]) [yes 19,yes 26,pl 30,ld 31 (w8 (y:Nat)),nu 32 (y:Nat),va 35 (i6 (2:Nat))] (mkSt g0 105 (ogS P Q n (5,[x0,x1,x2,x3,x4]))) (Qa0 0 105 [0,5] (ogS P Q n (6,[x0,x1,5,x2,x3,x4]))):=by
 have hP:=Qae P
 have hQ:=Qae Q
 have h1:=Qao (l:=Q) (k:=5) hb
 rw[hy]at h1
 have h2:=Qbu (G:=Qaa Pg) (t:=3) (a:=y) (b:=6) (by decide)
 rw[hu]at h2
 refine Eq.mp (by kernel_rfl:(let z0:=(↑(5:Nat):Int);let z1:=some (↑(2:Nat):Int);let z3:=(↑n:Int);let z2:=wr .i64 (z0+(1:Int));An [decide (z0<z3)=true,decide (z0<(↑Q.length:Int))=true,An [(0:Int)≤z0,z0<(↑Q.length:Int)],headF (List.drop (5*1) (bt Q))=some (w8 ↑y),wr .i64 (↑y:Int)=(↑y:Int),binV (Qaa Try.prog) BinOp.rem 3 (i6 ↑y) (i6 z2)=some (i6 ↑(2:Nat)),An [Zz,z3=z3,An [Zz,6=Int.toNat (Option.getD z1 (↑(5):Int))-Int.toNat (Option.getD none (0:Int))+1+(Int.toNat (Option.getD none (↑(5):Int))-Int.toNat (Option.getD z1 (0:Int))),Tt],(↑(6:Nat):Int)=z2,Tt],An [Sm [bl P,bl Q],TT 2],An [it [x0,x1,5,x2,x3,x4]=[i6 ↑x0,i6 ↑x1]++[i6 ↑(5:Nat)]++[i6 ↑x2,i6 ↑x3,i6 ↑x4],TT 6],Tt])=_) ?_
 (repeat'(first|(with_reducible apply And.intro)|(refine fun(_:True)=>?_)))<;>first|exact aq|skip
 all_goals first|exact h1|exact h2|rfl|decide|skip
theorem og_5_3(P Q:List Nat)(n:Nat)(hn:5<n)(hn6:n≤6)(x0 x1 x2 x3 x4:Nat)(y:Nat)(hb:5<Q.length)(hy:Q.getD 5 0=y)(hu:y%6=3)(hx:y<256):
  vc Pg vE sp0 none 0 1000 (at' 21 [1,1,1,0,1,0,0]) [yes 19,yes 26,pl 30,ld 31 (w8 (y:Nat)),nu 32 (y:Nat),va 35 (i6 (3:Nat))] (mkSt g0 105 (ogS P Q n (5,[x0,x1,x2,x3,x4]))) (Qa0 0 105 [0,5] (ogS P Q n (6,[x0,x1,x2,5,x3,x4]))):=by
 have hP:=Qae P
 have hQ:=Qae Q
 have h1:=Qao (l:=Q) (k:=5) hb
 rw[hy]at h1
 have h2:=Qbu (G:=Qaa Pg) (t:=3) (a:=y) (b:=6) (by decide)
 rw[hu]at h2
 refine Eq.mp (by kernel_rfl:(let z0:=(↑(5:Nat):Int);let z1:=some (↑(3:Nat):Int);let z3:=(↑n:Int);let z2:=wr .i64 (z0+(1:Int));An [decide (z0<z3)=true,decide (z0<(↑Q.length:Int))=true,An [(0:Int)≤z0,z0<(↑Q.length:Int)],headF (List.drop (5*1) (bt Q))=some (w8 ↑y),wr .i64 (↑y:Int)=(↑y:Int),binV (Qaa Try.prog) BinOp.rem 3 (i6 ↑y) (i6 z2)=some (i6 ↑(3:Nat)),An [Zz,z3=z3,An [Zz,6=Int.toNat (Option.getD z1 (↑(5):Int))-Int.toNat (Option.getD none (0:Int))+1+(Int.toNat (Option.getD none (↑(5):Int))-Int.toNat (Option.getD z1 (0:Int))),Tt],(↑(6:Nat):Int)=z2,Tt],An [Sm [bl P,bl Q],TT 2],An [it [x0,x1,x2,5,x3,x4]=[i6 ↑x0,i6 ↑x1,i6 ↑x2]++[i6 ↑(5:Nat)]++[i6 ↑x3,i6 ↑x4],TT 6],Tt])=_) ?_
 (repeat'(first|(with_reducible apply And.intro)|(refine fun(_:True)=>?_)))<;>first|exact aq|skip
 all_goals first|exact h1|exact h2|rfl|decide|skip
theorem og_5_4(P Q:List Nat)(n:Nat)(hn:5<n)(hn6:n≤6)(x0 x1 x2 x3 x4:Nat)(y:Nat)(hb:5<Q.length)(hy:Q.getD 5 0=y)(hu:y%6=4)(hx:y<256):
  vc Pg vE sp0 none 0 1000 (at' 21 [1,1,1,0,1,0,0]) [yes 19,yes 26,pl 30,ld 31 (w8 (y:Nat)),nu 32 (y:Nat),va 35 (i6 (4:Nat))] (mkSt g0 105 (ogS P Q n (5,[x0,x1,x2,x3,x4]))) (Qa0 0 105 [0,5] (ogS P Q n (6,[x0,x1,x2,x3,5,x4]))):=by
 have hP:=Qae P
 have hQ:=Qae Q
 have h1:=Qao (l:=Q) (k:=5) hb
 rw[hy]at h1
 have h2:=Qbu (G:=Qaa Pg) (t:=3) (a:=y) (b:=6) (by decide)
 rw[hu]at h2
 refine Eq.mp (by kernel_rfl:(let z0:=(↑(5:Nat):Int);let z1:=some (↑(4:Nat):Int);let z3:=(↑n:Int);let z2:=wr .i64 (z0+(1:Int));An [decide (z0<z3)=true,decide (z0<(↑Q.length:Int))=true,An [(0:Int)≤z0,z0<(↑Q.length:Int)],headF (List.drop (5*1) (bt Q))=some (w8 ↑y),wr .i64 (↑y:Int)=(↑y:Int),binV (Qaa Try.prog) BinOp.rem 3 (i6 ↑y) (i6 z2)=some (i6 ↑(4:Nat)),An [Zz,z3=z3,An [Zz,6=Int.toNat (Option.getD z1 (↑(5):Int))-Int.toNat (Option.getD none (0:Int))+1+(Int.toNat (Option.getD none (↑(5):Int))-Int.toNat (Option.getD z1 (0:Int))),Tt],(↑(6:Nat):Int)=z2,Tt],An [Sm [bl P,bl Q],TT 2],An [it [x0,x1,x2,x3,5,x4]=[i6 ↑x0,i6 ↑x1,i6 ↑x2,i6 ↑x3]++[i6 ↑(5:Nat)]++[i6 ↑x4],TT 6],Tt])=_) ?_
 (repeat'(first|(with_reducible apply And.intro)|(refine fun(_:True)=>?_)))<;>first|exact aq|skip
 all_goals first|exact h1|exact h2|rfl|decide|skip
theorem og_5_5(P Q:List Nat)(n:Nat)(hn:5<n)(hn6:n≤6)(x0 x1 x2 x3 x4:Nat)(y:Nat)(hb:5<Q.length)(hy:Q.getD 5 0=y)(hu:y%6=5)(hx:y<256):
  vc Pg vE sp0 none 0 1000 (at' 21 [1,1,1,0,1,0,0]) [yes 19,yes 26,pl 30,ld 31 (w8 (y:Nat)),nu 32 (y:Nat),va 35 (i6 (5:Nat))] (mkSt g0 105 (ogS P Q n (5,[x0,x1,x2,x3,x4]))) (Qa0 0 105 [0,4] (ogS P Q n (6,[x0,x1,x2,x3,x4,5]))):=by
 have hP:=Qae P
 have hQ:=Qae Q
 have h1:=Qao (l:=Q) (k:=5) hb
 rw[hy]at h1
 have h2:=Qbu (G:=Qaa Pg) (t:=3) (a:=y) (b:=6) (by decide)
 rw[hu]at h2
 refine Eq.mp (by kernel_rfl:(let z0:=(↑(5:Nat):Int);let z2:=(↑n:Int);let z1:=wr .i64 (z0+(1:Int));An [decide (z0<z2)=true,decide (z0<(↑Q.length:Int))=true,An [(0:Int)≤z0,z0<(↑Q.length:Int)],headF (List.drop (5*1) (bt Q))=some (w8 ↑y),wr .i64 (↑y:Int)=(↑y:Int),binV (Qaa Try.prog) BinOp.rem 3 (i6 ↑y) (i6 z1)=some (i6 ↑(5:Nat)),An [Zz,z2=z2,An [Zz,6=Int.toNat (Option.getD (some z0) (↑(5):Int))-Int.toNat (Option.getD none (0:Int))+1,Tt],(↑(6:Nat):Int)=z1,Tt],An [Sm [bl P,bl Q],TT 2],An [it [x0,x1,x2,x3,x4,5]=[i6 ↑x0,i6 ↑x1,i6 ↑x2,i6 ↑x3,i6 ↑x4]++[i6 ↑(5:Nat)],TT 6],Tt])=_) ?_
 (repeat'(first|(with_reducible apply And.intro)|(refine fun(_:True)=>?_)))<;>first|exact aq|skip
 all_goals first|exact h1|exact h2|rfl|decide|skip
abbrev ogX(P Q:List Nat)(n:Nat)(L:List Nat):SL:={sl:=[(1,.ptr 0 0),(3,i6 (n:Nat)),(4,.sl 1 0 n none)],os:=[dfO P Q,.row 3 (some 1) (it L)]}
theorem og_exit(P Q:List Nat)(m:Nat)(L:List Nat):
  vc Pg vE sp0 none 0 1000 (at' 21 [1,1,1,0,1,0,0]) [no 19] (mkSt g0 105 (ogS P Q (m+1) (m+1,L))) (kOut 0 105 (.exit 0) [0,1] (ogX P Q (m+1) L)):=by
 have hP:=Qae P
 have hQ:=Qae Q
 have hL:=Qau L
 refine Eq.mp (by kernel_rfl:(let z0:=(↑(m+1):Int);An [decide (z0<z0)=false,An [Zz,z0=z0,An [Zz,Sm (m+1),Tt],Tt],An [Sm [bl P,bl Q],TT 2],An [Sm (it L),HfL (it L)],Tt])=_) ?_
 (repeat'(first|(with_reducible apply And.intro)|(refine fun(_:True)=>?_)))<;>first|exact aq|skip
 all_goals first|rfl|skip
theorem getD256{Q:List Nat}(h: ∀x∈Q,x<256)(i:Nat):Q.getD i 0<256:=by
 rw[List.getD_eq_getElem?_getD]
 cases hx:Q[i]? with
 |none=>decide
 |some x=>exact h x (List.mem_of_getElem? hx)
theorem og_round(P Q:List Nat)(hQ: ∀x∈Q,x<256)(n i:Nat)(hn:i<n)(hn6:n≤6)(L:List Nat)(hL:L=orL Q i):
  ∃r hs,vc Pg vE sp0 none 0 1000 (at' 21 [1,1,1,0,1,0,0]) hs (mkSt g0 105 (ogS P Q n (i,L))) (Qa0 0 105 r (ogS P Q n (i+1,orL Q (i+1)))):=by
 have hl:L.length=i:=by rw[hL];exact Qhy Q i
 have hnx:orL Q (i+1)=L.take (atF Q i)++[i]++L.drop (atF Q i):=by rw[hL];rfl
 have hlt:=atF_lt Q i
 have hy:=getD256 hQ i
 rw[hnx]
 clear hnx hL
 by_cases hb:i<Q.length
 ·have e : atF Q i = Q.getD i 0 % (i + 1) := by unfold atF; rw [if_pos hb]
  generalize hu:atF Q i=u at*
  have e':=e.symm
  clear e hu
  rcases(show i=0∨i=1∨i=2∨i=3∨i=4∨i=5 by omega)with rfl|rfl|rfl|rfl|rfl|rfl
  ·match L, hl with
   |[],_=>
    obtain rfl:u=0:=by omega
    exact⟨_,_,og_0_0 P Q n hn hn6  _ hb rfl e' hy⟩
  ·match L, hl with
   |[x0],_=>
    rcases(show u=0∨u=1 by omega)with rfl|rfl
    ·exact⟨_,_,og_1_0 P Q n hn hn6 x0 _ hb rfl e' hy⟩
    ·exact⟨_,_,og_1_1 P Q n hn hn6 x0 _ hb rfl e' hy⟩
  ·match L, hl with
   |[x0,x1],_=>
    rcases(show u=0∨u=1∨u=2 by omega)with rfl|rfl|rfl
    ·exact⟨_,_,og_2_0 P Q n hn hn6 x0 x1 _ hb rfl e' hy⟩
    ·exact⟨_,_,og_2_1 P Q n hn hn6 x0 x1 _ hb rfl e' hy⟩
    ·exact⟨_,_,og_2_2 P Q n hn hn6 x0 x1 _ hb rfl e' hy⟩
  ·match L, hl with
   |[x0,x1,x2],_=>
    rcases(show u=0∨u=1∨u=2∨u=3 by omega)with rfl|rfl|rfl|rfl
    ·exact⟨_,_,og_3_0 P Q n hn hn6 x0 x1 x2 _ hb rfl e' hy⟩
    ·exact⟨_,_,og_3_1 P Q n hn hn6 x0 x1 x2 _ hb rfl e' hy⟩
    ·exact⟨_,_,og_3_2 P Q n hn hn6 x0 x1 x2 _ hb rfl e' hy⟩
    ·exact⟨_,_,og_3_3 P Q n hn hn6 x0 x1 x2 _ hb rfl e' hy⟩
  ·match L, hl with
   |[x0,x1,x2,x3],_=>
    rcases(show u=0∨u=1∨u=2∨u=3∨u=4 by omega)with rfl|rfl|rfl|rfl|rfl
    ·exact⟨_,_,og_4_0 P Q n hn hn6 x0 x1 x2 x3 _ hb rfl e' hy⟩
    ·exact⟨_,_,og_4_1 P Q n hn hn6 x0 x1 x2 x3 _ hb rfl e' hy⟩
    ·exact⟨_,_,og_4_2 P Q n hn hn6 x0 x1 x2 x3 _ hb rfl e' hy⟩
    ·exact⟨_,_,og_4_3 P Q n hn hn6 x0 x1 x2 x3 _ hb rfl e' hy⟩
    ·exact⟨_,_,og_4_4 P Q n hn hn6 x0 x1 x2 x3 _ hb rfl e' hy⟩
  ·match L, hl with
   |[x0,x1,x2,x3,x4],_=>
    rcases(show u=0∨u=1∨u=2∨u=3∨u=4∨u=5 by omega)with rfl|rfl|rfl|rfl|rfl|rfl
    ·exact⟨_,_,og_5_0 P Q n hn hn6 x0 x1 x2 x3 x4 _ hb rfl e' hy⟩
    ·exact⟨_,_,og_5_1 P Q n hn hn6 x0 x1 x2 x3 x4 _ hb rfl e' hy⟩
    ·exact⟨_,_,og_5_2 P Q n hn hn6 x0 x1 x2 x3 x4 _ hb rfl e' hy⟩
    ·exact⟨_,_,og_5_3 P Q n hn hn6 x0 x1 x2 x3 x4 _ hb rfl e' hy⟩
    ·exact⟨_,_,og_5_4 P Q n hn hn6 x0 x1 x2 x3 x4 _ hb rfl e' hy⟩
    ·exact⟨_,_,og_5_5 P Q n hn hn6 x0 x1 x2 x3 x4 _ hb rfl e' hy⟩
 ·have e : atF Q i = 0 := by unfold atF; rw [if_neg hb]
  rw[e]
  clear e hlt
  rcases(show i=0∨i=1∨i=2∨i=3∨i=4∨i=5 by omega)with rfl|rfl|rfl|rfl|rfl|rfl
  ·match L, hl with
   |[],_=>exact⟨_,_,og_0_0n P Q n hn hn6  hb⟩
  ·match L, hl with
   |[x0],_=>exact⟨_,_,og_1_0n P Q n hn hn6 x0 hb⟩
  ·match L, hl with
   |[x0,x1],_=>exact⟨_,_,og_2_0n P Q n hn hn6 x0 x1 hb⟩
  ·match L, hl with
   |[x0,x1,x2],_=>exact⟨_,_,og_3_0n P Q n hn hn6 x0 x1 x2 hb⟩
  ·match L, hl with
   |[x0,x1,x2,x3],_=>exact⟨_,_,og_4_0n P Q n hn hn6 x0 x1 x2 x3 hb⟩
  ·match L, hl with
   |[x0,x1,x2,x3,x4],_=>exact⟨_,_,og_5_0n P Q n hn hn6 x0 x1 x2 x3 x4 hb⟩
theorem og_loop(P Q:List Nat)(hQ: ∀x∈Q,x<256)(m:Nat)(hm:m+1≤6):
  Sat Pg none 0 (at' 21 [1,1,1,0,1,0]) (mkSt g0 105 (ogS P Q (m+1) (0,[]))) (Qah g0 105 [(True,.exit 0,ogX P Q (m+1) (orL Q (m+1)))]):=by
 refine Qbi vE_ok Qaf Qab (b:=at' 21 [1,1,1,0,1,0,0]) (by kernel_rfl) (fun q=>q.1≤m+1∧q.2=orL Q q.1) (ogS P Q (m+1)) (fun q=>m+1-q.1) (fun q hq=>?_) (0,[]) ⟨Nat.zero_le _,rfl⟩
 obtain⟨i,L⟩:=q
 obtain⟨hi,hL⟩:=hq
 dsimp only at hi hL
 by_cases hlt:i<m+1
 ·obtain ⟨r, hs, h⟩ := og_round P Q hQ (m + 1) i hlt hm L hL
  exact .inl ⟨(i+1,orL Q (i+1)),r,hs,1000,⟨hlt,rfl⟩,by dsimp only;omega,h⟩
 ·obtain rfl : i = m + 1 := by omega
  subst hL
  exact .inr ⟨.exit 0,[0,1],ogX P Q (m+1) (orL Q (m+1)),[no 19],1000,.inl ⟨trivial,rfl,rfl⟩,og_exit P Q m _⟩
theorem shr_8{G:Ctx}{t:Nat}{x k:Nat}{K:IntKind}(hk:k≤8):binV G .shr t (w8 (x:Int)) (.int K (k:Int))=some (w8 ((x/2^k:Nat):Int)):=by
 have h1:((k:Int)<0)=False:=by simp
 have h2:min k 64=k:=by omega
 have h3:min k 8=k:=by omega
 simp only[binV,intV,h1,if_false,Int.toNat_natCast,IntKind.bits,h3]
 rw[Int.fdiv_eq_ediv_of_nonneg _ (Int.natCast_nonneg _)]
 rfl
theorem and1_8{G:Ctx}{t:Nat}{x:Nat}:binV G .and t (w8 (x:Int)) (w8 1)=some (w8 ((x%2:Nat):Int)):=by
 have h:(BitVec.ofInt 8 (x:Int)&&& BitVec.ofInt 8 1).toNat=x%2:=by
  rw[BitVec.toNat_and]
  have h1:(BitVec.ofInt 8 1).toNat=1:=by decide
  rw[h1,Nat.and_one_is_mod]
  have h2:(BitVec.ofInt 8 (x:Int)).toNat=x%2^8:=by
   rw[BitVec.toNat_ofInt];omega
  rw[h2];omega
 have hw:IntKind.u8.wrap ((x%2:Nat):Int)=((x%2:Nat):Int):=by
  rw[←wr_eq];exact Qkk (by simp[lo];omega) (by simp[hi];omega)
 have e:binV G .and t (w8 (x:Int)) (w8 1)=some (.int .u8 (IntKind.u8.wrap ((BitVec.ofInt 8 (x:Int)&&& BitVec.ofInt 8 1).toNat:Int))):=rfl
 rw[e,h,hw]
theorem Qkb{G:Ctx}{t:Nat}{k:Nat}(hk:k<64):binV G .shl t (u6 1) (u6 (k:Int))=some (u6 ((2^k:Nat):Int))∧2^k<18446744073709551616:=by
 have hp:2^k<2^64:=Nat.pow_lt_pow_right (by omega) hk
 refine⟨?_,hp⟩
 have e:binV G .shl t (u6 1) (u6 (k:Int))=if(k:Int)<0 then none else some (.int .u64 (wr .u64 (1*((2^min ((k:Int).toNat) 64:Nat):Int)))):=rfl
 rw[e,if_neg (by omega),Int.toNat_natCast,show min k 64=k by omega,Int.one_mul,wr_eq,Qga hp]
theorem Qld{l:List Nat}{k:Nat}(h:k<l.length):headF (dropF (0+k*1) (it l))=some (i6 ((l.getD k 0:Nat):Int)):=by
 rw[Qba,Nat.zero_add];exact Qos h
def drI(y:Nat)(o:Nat→Nat)(k:Nat)(x:Nat×(Nat→Nat)):Nat→Nat×(Nat→Nat)
 |0=>x
 |j+1=>if y/2^j%2=1∧(drI y o k x j).1<3 then((drI y o k x j).1+1,fun i=>if i=o k then(drI y o k x j).2 (o k)|||2^o j else(drI y o k x j).2 i)else drI y o k x j
theorem Qn2{y:Nat}{o:Nat→Nat}{k n:Nat}{x:Nat×(Nat→Nat)}(hn:n≤64)(ho: ∀j,j<k→o j<n)(hx: ∀i,x.2 i<2^n): ∀j,j≤k→∀i,(drI y o k x j).2 i<2^n
 |0,_,i=>hx i
 | j + 1, hj, i => by
  have ih:=Qn2 (y:=y) hn ho hx j (by omega)
  unfold drI
  split
  ·dsimp only
   split
   ·exact Nat.or_lt_two_pow (ih _) (Nat.pow_lt_pow_right (by decide) (ho j (by omega)))
   ·exact ih i
  ·exact ih i
theorem Qn1{y:Nat}{o:Nat→Nat}{k:Nat}{x:Nat×(Nat→Nat)}(h0:x.1≤3): ∀j,(drI y o k x j).1≤3
 |0=>h0
 |j+1=>by
  have ih:=Qn1 (y:=y) (o:=o) (k:=k) h0 j
  unfold drI
  split
  ·dsimp only;omega
  ·exact ih
abbrev egS(P Q:List Nat)(n:Nat)(L:List Nat)(k:Nat)(q:Nat×Nat×List V):SL:={sl:=[(1,.ptr 0 0),(3,i6 (n:Nat)),(4,.sl 1 0 n none),(8,.sl 2 0 n (some (n-n))),(9,i6 (k:Nat)),(10,i6 (q.2.1:Nat)),(11,i6 (q.1:Nat))],os:=[dfO P Q,.row 3 (some 1) (it L),.row 28 none q.2.2]}
theorem eg_in(P Q:List Nat)(hP: ∀x∈P,x<256)(n:Nat)(hn6:n≤6)(L:List Nat)(hL:L.length=n)(hLn: ∀x∈L,x<n)(k:Nat)(hk:k<n)(hkP:k<P.length)(f:Nat→Nat)(hf: ∀i,f i<2^n)(A B:List V)(c:Nat)(hA:uF f n=A)(hB:uF (drI (P.getD k 0) (fun i=>L.getD i 0) k (0,f) k).2 n=B)(hc:(drI (P.getD k 0) (fun i=>L.getD i 0) k (0,f) k).1=c):
  Sat Pg none 0 (at' 21 [1,1,1,1,1,0,1,0,0,1,0,0,1,1,0]) (mkSt g0 105 (egS P Q n L k (0,0,A))) (Qah g0 105 [(True,.exit 4,egS P Q n L k (k,c,B))]):=by
 have hPf:=Qae P
 have hQf:=Qae Q
 have hLf:=Qau L
 have ho: ∀i,L.getD i 0<n:=fun i=>by
  rw[List.getD_eq_getElem?_getD]
  cases hx:L[i]? with
  |none=>simp;omega
  |some x=>exact hLn x (List.mem_of_getElem? hx)
 refine Qbi vE_ok Qaf Qab (b:=at' 21 [1,1,1,1,1,0,1,0,0,1,0,0,1,1,0,0]) (by kernel_rfl) (fun q=>q.1≤k∧uF (drI (P.getD k 0) (fun i=>L.getD i 0) k (0,f) q.1).2 n=q.2.2∧(drI (P.getD k 0) (fun i=>L.getD i 0) k (0,f) q.1).1=q.2.1) (egS P Q n L k) (fun q=>k-q.1) (fun q hq=>?_) (0,0,A) ⟨Nat.zero_le _,hA,rfl⟩
 obtain⟨j,cn,C⟩:=q
 obtain⟨hj,hC,hcn⟩:=hq
 dsimp only at hj hC hcn
 have hCf:HfL C:=by rw[←hC];exact Qa4 _ _
 have hc3:cn≤3:=by rw[←hcn];exact Qn1 (Nat.zero_le _) j
 by_cases hlt:j<k
 ·have hlt64 := Qn2 (y := P.getD k 0) (o := fun i => L.getD i 0) (x := (0, f)) (show n ≤ 64 by omega) (fun i _ => ho i) hf j (by omega)
  have s0:=Qao (l:=P) (k:=k) hkP
  have s1:=shr_8 (G:=Qaa Pg) (t:=5) (x:=P.getD k 0) (k:=j) (K:=.u64) (by omega)
  have s2:=and1_8 (G:=Qaa Pg) (t:=5) (x:=P.getD k 0/2^j)
  have w1:wr .u64 (j:Int)=(j:Int):=by rw[wr_eq];exact Qga (by omega)
  have hstep:drI (P.getD k 0) (fun i=>L.getD i 0) k (0,f) (j+1)=if P.getD k 0/2^j%2=1∧(drI (P.getD k 0) (fun i=>L.getD i 0) k (0,f) j).1<3 then((drI (P.getD k 0) (fun i=>L.getD i 0) k (0,f) j).1+1,fun i=>if i=L.getD k 0 then(drI (P.getD k 0) (fun i=>L.getD i 0) k (0,f) j).2 (L.getD k 0)|||2^L.getD j 0 else(drI (P.getD k 0) (fun i=>L.getD i 0) k (0,f) j).2 i)else drI (P.getD k 0) (fun i=>L.getD i 0) k (0,f) j:=rfl
  by_cases hbit:P.getD k 0/2^j%2=1
  ·by_cases h3 : cn < 3
   ·rw [if_pos ⟨hbit, by rw [hcn]; exact h3⟩] at hstep
    have hok:=ho k
    have hoj:=ho j
    have s3:=Qld (l:=L) (k:=k) (by omega)
    have s4:=Qld (l:=L) (k:=j) (by omega)
    have s5:headF (dropF (0+L.getD k 0*1) C)=some (u6 ((drI (P.getD k 0) (fun i=>L.getD i 0) k (0,f) j).2 (L.getD k 0):Nat)):=by rw[←hC];exact Qhq hok
    obtain⟨s6,s6b⟩:=Qkb (G:=Qaa Pg) (t:=28) (k:=L.getD j 0) (by omega)
    have h2n:2^n≤64:=by
     have:=Nat.pow_le_pow_right (n:=2) (by decide) hn6
     omega
    have s7:=(or_u (G:=Qaa Pg) (t:=28) (x:=(drI (P.getD k 0) (fun i=>L.getD i 0) k (0,f) j).2 (L.getD k 0)) (by have:=hlt64 (L.getD k 0);omega) s6b).1
    have s8:=Qli (f:=(drI (P.getD k 0) (fun i=>L.getD i 0) k (0,f) j).2) hok ((drI (P.getD k 0) (fun i=>L.getD i 0) k (0,f) j).2 (L.getD k 0)|||2^L.getD j 0)
    have hD2:uF (drI (P.getD k 0) (fun i=>L.getD i 0) k (0,f) (j+1)).2 n=uF (fun i=>if i=L.getD k 0 then(drI (P.getD k 0) (fun i=>L.getD i 0) k (0,f) j).2 (L.getD k 0)|||2^L.getD j 0 else(drI (P.getD k 0) (fun i=>L.getD i 0) k (0,f) j).2 i) n:=by rw[hstep]
    rw[←hD2,hC]at s8
    have hn2:(drI (P.getD k 0) (fun i=>L.getD i 0) k (0,f) (j+1)).1=cn+1:=by rw[hstep];dsimp only;omega
    have hDf:=Qa4 (drI (P.getD k 0) (fun i=>L.getD i 0) k (0,f) (j+1)).2 n
    have w2:wr .u64 (L.getD j 0:Int)=(L.getD j 0:Int):=by rw[wr_eq];exact Qga (by omega)
    rw[hbit]at s2
    clear hD2 hstep hlt64
    generalize hD:uF (drI (P.getD k 0) (fun i=>L.getD i 0) k (0,f) (j+1)).2 n=D at*
    generalize (drI (P.getD k 0) (fun i=>L.getD i 0) k (0,f) j).2 (L.getD k 0)=fo at*
    generalize hok':L.getD k 0=ok at*
    generalize hoj':L.getD j 0=oj at*
    generalize hy:P.getD k 0=y at*
    generalize hy1:y/2^j=y1 at*
    generalize hz:2^oj=z at*
    generalize hz1:fo|||z=z1 at*
    refine .inl ⟨(j+1,cn+1,D),[0,1,2],[yes 65,pl 71,ld 72 (w8 (y:Nat)),nu 74 (j:Nat),va 75 (w8 (y1:Nat)),va 76 (w8 (1:Nat)),yes 77,yes 80,pl 85,ld 86 (i6 (ok:Nat)),pl 90,ld 91 (i6 (ok:Nat)),pl 92,ld 93 (u6 (fo:Nat)),pl 96,ld 97 (i6 (oj:Nat)),nu 98 (oj:Nat),va 99 (u6 (z:Nat)),va 100 (u6 (z1:Nat)),pl 101,st D,nu 103 ((cn+1:Nat):Int),nu 67 ((j+1:Nat):Int)],1000,⟨hlt,by rw[←hD,←hy],by rw[←hn2,←hy]⟩,by dsimp only;omega,?_⟩
    clear hn2 hC hcn hA hB hc hD hok' hoj' hy hy1 hz hz1
    refine Eq.mp (by kernel_rfl:(let z0:=(↑k:Int);let z2:=(↑n:Int);let z3:=(↑j:Int);let z4:=Qaa Try.prog;let z5:=(0:Int);let z6:=(↑(cn+1):Int);let z7:=(↑ok:Int);let z8:=(↑(j+1):Int);let z9:=headF (dropF (0+k*1) (it L));An [decide (z3<z0)=true,An [z5≤z0,z0<(↑P.length:Int)],headF (List.drop (k*1) (bt P))=some (w8 ↑y),wr .u64 z3=z3,binV z4 BinOp.shr 5 (w8 ↑y) (u6 ↑j)=some (w8 ↑y1),binV z4 BinOp.and 5 (w8 ↑y1) (w8 1)=some (w8 ↑(1:Nat)),((↑(1:Nat):Int)==(1:Int))=true,decide ((↑cn:Int)<(3:Int))=true,An [z5≤z0,z0<z2],z9=some (i6 ↑ok),An [z5≤z0,z0<z2],z9=some (i6 ↑ok),An [z5≤z7,z7<z2],headF (dropF (0+ok*1) C)=some (u6 ↑fo),An [z5≤z3,z3<z2],headF (dropF (0+j*1) (it L))=some (i6 ↑oj),wr .u64 (↑oj:Int)=(↑oj:Int),binV z4 BinOp.shl 28 (u6 1) (u6 ↑oj)=some (u6 ↑z),binV z4 BinOp.or 28 (u6 ↑fo) (u6 ↑z)=some (u6 ↑z1),An [z5≤z7,z7<z2],layE (0+ok*1) C [u6 ↑z1]=some D,wr .i64 ((↑cn:Int)+(1:Int))=z6,wr .i64 (z3+(1:Int))=z8,An [Zz,z2=z2,An [Zz,n=n,Tt],An [Zz,n=n,Sm (n-n)],z0=z0,z6=z6,z8=z8,Tt],An [Sm [bl P,bl Q],TT 2],An [Sm (it L),HfL (it L)],An [D=D,HfL D],Tt])=_) ?_
    (repeat'(first|(with_reducible apply And.intro)|(refine fun(_:True)=>?_)))<;>first|exact aq|skip
    all_goals first|exact s0|exact s1|exact s2|exact s3|exact s4|exact s5|exact s6|exact s7|exact s8|exact w1|exact w2|skip
   ·rw [if_neg (fun h => h3 (by rw [← hcn]; exact h.2))] at hstep
    rw[hbit]at s2
    have hinv:uF (drI (P.getD k 0) (fun i=>L.getD i 0) k (0,f) (j+1)).2 n=C∧(drI (P.getD k 0) (fun i=>L.getD i 0) k (0,f) (j+1)).1=cn:=by rw[hstep];exact⟨hC,hcn⟩
    clear hstep hlt64 hC hcn hA hB hc hbit
    generalize P.getD k 0=y at*
    generalize y/2^j=y1 at*
    refine .inl ⟨(j+1,cn,C),[0,1,2],[yes 65,pl 71,ld 72 (w8 (y:Nat)),nu 74 (j:Nat),va 75 (w8 (y1:Nat)),va 76 (w8 (1:Nat)),yes 77,no 80,nu 67 ((j+1:Nat):Int)],1000,⟨hlt,hinv⟩,by dsimp only;omega,?_⟩
    clear hinv
    refine Eq.mp (by kernel_rfl:(let z0:=(↑k:Int);let z1:=(↑(j+1):Int);let z2:=(↑j:Int);let z3:=(↑cn:Int);An [decide (z2<z0)=true,An [(0:Int)≤z0,z0<(↑P.length:Int)],headF (List.drop (k*1) (bt P))=some (w8 ↑y),wr .u64 z2=z2,binV (Qaa Try.prog) BinOp.shr 5 (w8 ↑y) (u6 ↑j)=some (w8 ↑y1),binV (Qaa Try.prog) BinOp.and 5 (w8 ↑y1) (w8 1)=some (w8 ↑(1:Nat)),((↑(1:Nat):Int)==(1:Int))=true,decide (z3<(3:Int))=false,wr .i64 (z2+(1:Int))=z1,An [Zz,Sm (↑n:Int),An [Zz,n=n,Tt],An [Zz,n=n,Sm (n-n)],z0=z0,z3=z3,z1=z1,Tt],An [Sm [bl P,bl Q],TT 2],An [Sm (it L),HfL (it L)],An [C=C,HfL C],Tt])=_) ?_
    (repeat'(first|(with_reducible apply And.intro)|(refine fun(_:True)=>?_)))<;>first|exact aq|skip
    all_goals first|exact s0|exact s1|exact s2|exact w1|skip
  ·rw [if_neg (fun h => hbit h.1)] at hstep
   have hb0:P.getD k 0/2^j%2=0:=by omega
   rw[hb0]at s2
   have hinv:uF (drI (P.getD k 0) (fun i=>L.getD i 0) k (0,f) (j+1)).2 n=C∧(drI (P.getD k 0) (fun i=>L.getD i 0) k (0,f) (j+1)).1=cn:=by rw[hstep];exact⟨hC,hcn⟩
   clear hstep hlt64 hC hcn hA hB hc hbit hb0
   generalize P.getD k 0=y at*
   generalize y/2^j=y1 at*
   refine .inl ⟨(j+1,cn,C),[0,1,2],[yes 65,pl 71,ld 72 (w8 (y:Nat)),nu 74 (j:Nat),va 75 (w8 (y1:Nat)),va 76 (w8 (0:Nat)),no 77,nu 67 ((j+1:Nat):Int)],1000,⟨hlt,hinv⟩,by dsimp only;omega,?_⟩
   clear hinv
   refine Eq.mp (by kernel_rfl:(let z0:=(↑k:Int);let z1:=(↑(j+1):Int);let z2:=(↑j:Int);An [decide (z2<z0)=true,An [(0:Int)≤z0,z0<(↑P.length:Int)],headF (List.drop (k*1) (bt P))=some (w8 ↑y),wr .u64 z2=z2,binV (Qaa Try.prog) BinOp.shr 5 (w8 ↑y) (u6 ↑j)=some (w8 ↑y1),binV (Qaa Try.prog) BinOp.and 5 (w8 ↑y1) (w8 1)=some (w8 ↑(0:Nat)),((↑(0:Nat):Int)==(1:Int))=false,wr .i64 (z2+(1:Int))=z1,An [Zz,Sm (↑n:Int),An [Zz,n=n,Tt],An [Zz,n=n,Sm (n-n)],z0=z0,Sm (↑cn:Int),z1=z1,Tt],An [Sm [bl P,bl Q],TT 2],An [Sm (it L),HfL (it L)],An [C=C,HfL C],Tt])=_) ?_
   (repeat'(first|(with_reducible apply And.intro)|(refine fun(_:True)=>?_)))<;>first|exact aq|skip
   all_goals first|exact s0|exact s1|exact s2|exact w1|skip
 ·obtain rfl : j = k := by omega
  rw[hB]at hC
  rw[hc]at hcn
  subst hC hcn
  refine .inr ⟨.exit 4,[0,1,2],egS P Q n L j (j,c,B),[no 65],1000,.inl ⟨trivial,rfl,rfl⟩,?_⟩
  clear hA hB hc
  refine Eq.mp (by kernel_rfl:(let z0:=(↑j:Int);An [decide (z0<z0)=false,An [Zz,Sm (↑n:Int),An [Zz,n=n,Tt],An [Zz,n=n,Sm (n-n)],z0=z0,Sm (↑c:Int),z0=z0,Tt],An [Sm [bl P,bl Q],TT 2],An [Sm (it L),HfL (it L)],An [B=B,HfL B],Tt])=_) ?_
  (repeat'(first|(with_reducible apply And.intro)|(refine fun(_:True)=>?_)))<;>first|exact aq|skip
  all_goals skip
def drO(P:List Nat)(o:Nat→Nat):Nat→Nat→Nat
 |0=>fun _=>0
 |k+1=>(drI (P.getD k 0) o k (0,drO P o k) k).2
theorem Qn4{P:List Nat}{o:Nat→Nat}{n:Nat}(hn:n≤64)(ho: ∀j,o j<n): ∀k i,drO P o k i<2^n
 |0,i=>Nat.pow_pos (by decide)
 |k+1,i=>by
  unfold drO
  exact Qn2 hn (fun j _=>ho j) (fun i=>Qn4 hn ho k i) k (Nat.le_refl _) i
theorem Qhz{Q:List Nat}: ∀i,∀x∈orL Q i,x<i
 |0,x,h=>by cases h
 | i + 1, x, h => by
  rw[orL]at h
  have ih:=Qhz (Q:=Q) i
  rcases List.mem_append.1 h with h|h
  ·rcases List.mem_append.1 h with h | h
   ·have:=ih x (List.mem_of_mem_take h);omega
   ·obtain rfl:=List.mem_singleton.1 h;omega
  ·have:=ih x (List.mem_of_mem_drop h);omega
abbrev egO(P Q:List Nat)(n:Nat)(L:List Nat)(q:Nat×List V):SL:={sl:=[(1,.ptr 0 0),(3,i6 (n:Nat)),(4,.sl 1 0 n none),(8,.sl 2 0 n (some (n-n))),(9,i6 (q.1:Nat))],os:=[dfO P Q,.row 3 (some 1) (it L),.row 28 none q.2]}
abbrev egX(n:Nat)(C:List V):SL:={sl:=[(8,.sl 0 0 n (some (n-n)))],os:=[.row 28 none C]}
theorem eg_out(P Q:List Nat)(hP: ∀x∈P,x<256)(n:Nat)(hn6:n≤6)(L:List Nat)(hL:L.length=n)(hLn: ∀x∈L,x<n)(A B:List V)(hA:uF (drO P (fun i=>L.getD i 0) 0) n=A)(hB:uF (drO P (fun i=>L.getD i 0) (min n P.length)) n=B)(hn1:1≤n):
  Sat Pg none 0 (at' 21 [1,1,1,1,1,0,1,0]) (mkSt g0 105 (egO P Q n L (0,A))) (Qah g0 105 [(True,.exit 2,egX n B)]):=by
 have hPf:=Qae P
 have hQf:=Qae Q
 have hLf:=Qau L
 have ho: ∀i,L.getD i 0<n:=fun i=>by
  rw[List.getD_eq_getElem?_getD]
  cases hx:L[i]? with
  |none=>simp;omega
  |some x=>exact hLn x (List.mem_of_getElem? hx)
 refine Qbi vE_ok Qaf Qab (b:=at' 21 [1,1,1,1,1,0,1,0,0]) (by kernel_rfl) (fun q=>q.1≤min n P.length∧uF (drO P (fun i=>L.getD i 0) q.1) n=q.2) (egO P Q n L) (fun q=>n-q.1) (fun q hq=>?_) (0,A) ⟨Nat.zero_le _,hA⟩
 obtain⟨k,C⟩:=q
 obtain⟨hk,hC⟩:=hq
 dsimp only at hk hC
 have hCf:HfL C:=by rw[←hC];exact Qa4 _ _
 by_cases hlt:k<n
 ·by_cases hlP : k < P.length
  ·have hin := eg_in P Q hP n hn6 L hL hLn k hlt hlP (drO P (fun i => L.getD i 0) k) (fun i => Qn4 (by omega) ho k i) C _ _ hC rfl rfl
   have hDf:=Qa4 (drI (P.getD k 0) (fun i=>L.getD i 0) k (0,drO P (fun i=>L.getD i 0) k) k).2 n
   have hD:uF (drO P (fun i=>L.getD i 0) (k+1)) n=uF (drI (P.getD k 0) (fun i=>L.getD i 0) k (0,drO P (fun i=>L.getD i 0) k) k).2 n:=rfl
   generalize uF (drI (P.getD k 0) (fun i=>L.getD i 0) k (0,drO P (fun i=>L.getD i 0) k) k).2 n=D at*
   generalize (drI (P.getD k 0) (fun i=>L.getD i 0) k (0,drO P (fun i=>L.getD i 0) k) k).1=c at*
   refine .inl ⟨(k+1,D),[0,1,2],[yes 53,yes 59,(0,.loop [0,1,2] (egS P Q n L k (0,0,C)) [(True,.exit 4,egS P Q n L k (k,c,D))]),nu 62 ((k+1:Nat):Int)],1000,⟨by dsimp only;omega,hD⟩,by dsimp only;omega,?_⟩
   clear hD hC hA hB
   refine Eq.mp (by kernel_rfl:(let z4:=An [Sm (it L),HfL (it L)];let z0:=(↑k:Int);let z1:=(↑n:Int);let z2:=(↑(k+1):Int);let z3:=[bl P,bl Q];An [decide (z0<z1)=true,decide (z0<(↑P.length:Int))=true,An [An [Zz,z1=z1,An [Zz,n=n,Tt],An [Zz,n=n,Sm (n-n)],z0=z0,(↑(0:Nat):Int)=(0:Int),(↑(0:Nat):Int)=(0:Int),Tt],An [z3=z3,TT 2],z4,An [C=C,HfL C],Tt],Sat Try.prog none 0 (at' 21 [1,1,1,1,1,0,1,0,0,1,0,0,1,1,0]) (mkSt g0 105 (egS P Q n L k (0,0,C))) (Qah g0 105 [(True,Ex.exit 4,egS P Q n L k (k,c,D))]),(True→An [wr .i64 (z0+(1:Int))=z2,An [Zz,z1=z1,An [Zz,n=n,Tt],An [Zz,n=n,Sm (n-n)],z2=z2,Tt],An [z3=z3,TT 2],z4,An [D=D,HfL D],Tt]),Tt])=_) ?_
   (repeat'(first|(with_reducible apply And.intro)|(refine fun(_:True)=>?_)))<;>first|exact aq|skip
   all_goals first|exact hin|skip
  ·have hk2 : min n P.length = k := by omega
   rw[hk2,hC]at hB
   subst hB
   refine .inr ⟨.exit 2,[2],egX n C,[yes 53,no 59],1000,.inl ⟨trivial,rfl,rfl⟩,?_⟩
   clear hC hA hk2
   refine Eq.mp (by kernel_rfl:(An [decide ((↑k:Int)<(↑n:Int))=true,decide ((↑k:Int)<(↑P.length:Int))=false,An [An [Zz,n=n,Sm (n-n)],Tt],An [C=C,HfL C],Tt])=_) ?_
   (repeat'(first|(with_reducible apply And.intro)|(refine fun(_:True)=>?_)))<;>first|exact aq|skip
   all_goals skip
 ·have hk2 : min n P.length = k := by omega
  rw[hk2,hC]at hB
  subst hB
  refine .inr ⟨.exit 2,[2],egX n C,[no 53],1000,.inl ⟨trivial,rfl,rfl⟩,?_⟩
  clear hC hA hk2
  refine Eq.mp (by kernel_rfl:(An [decide ((↑k:Int)<(↑n:Int))=false,An [An [Zz,n=n,Sm (n-n)],Tt],An [C=C,HfL C],Tt])=_) ?_
  (repeat'(first|(with_reducible apply And.intro)|(refine fun(_:True)=>?_)))<;>first|exact aq|skip
  all_goals skip
def drN(P:List Nat):Nat:=min (max P.length 1) 6
def drG(P Q:List Nat):Nat→Nat:=drO P (fun i=>(orL Q (drN P)).getD i 0) (min (drN P) P.length)
theorem Qn0(P Q:List Nat)(hP: ∀x∈P,x<256)(hQ: ∀x∈Q,x<256):FnOk Pg g0 21 [.agg [bl P,bl Q]] (.im (drN P) (uF (drG P Q) (drN P))):=by
 have hPf:=Qae P
 have hQf:=Qae Q
 obtain⟨m,hm⟩: ∃m,drN P=m+1:=⟨drN P-1,by unfold drN;omega⟩
 have hm6:m+1≤6:=by unfold drN at hm;omega
 have h1:=og_loop P Q hQ m hm6
 have hR:=Qei (m+1) (p:=[])
 have hA:uF (drO P (fun i=>(orL Q (m+1)).getD i 0) 0) (m+1)=rep (m+1) [u6 0]:=Qei (m+1) (p:=[])
 have h2:=eg_out P Q hP (m+1) hm6 (orL Q (m+1)) (Qhy Q _) (Qhz _) _ _ hA rfl (by omega)
 have hB:uF (drG P Q) (m+1)=uF (drO P (fun i=>(orL Q (m+1)).getD i 0) (min (m+1) P.length)) (m+1):=by unfold drG;rw[hm]
 rw[hm,hB]
 have hBf:=Qa4 (drO P (fun i=>(orL Q (m+1)).getD i 0) (min (m+1) P.length)) (m+1)
 have hAf:HfL (rep (m+1) [u6 0]):=by rw[←Qei (m+1) (p:=[])];exact Qa4 _ _
 have hL:=Qau (orL Q (m+1))
 have hx1:drN P=min (max P.length 1) 6:=rfl
 generalize uF (drO P (fun i=>(orL Q (m+1)).getD i 0) (min (m+1) P.length)) (m+1)=B at*
 generalize orL Q (m+1)=L at*
 have hmx:max (P.length:Int) 1=((max P.length 1:Nat):Int):=by omega
 have hmn:min ((max P.length 1:Nat):Int) 6=((m+1:Nat):Int):=by omega
 generalize hmm:max P.length 1=mm at*
 clear hx1 hB hA hR hm hmm
 generalize m+1=n at*
 refine FnOk.of_vc vE_ok Qaf Qab (n:=1000) (r:=[]) (S:={sl:=[(2,.im n B)]}) (hs:=[nu 15 (mm:Nat),nu 16 ((n:Nat):Int),(0,.loop [0] (ogS P Q n (0,[])) [(True,.exit 0,ogX P Q n L)]),mk 50,(0,.loop [0,1,2] (egO P Q n L (0,rep n [u6 0])) [(True,.exit 2,egX n B)])]) ?_
 refine Eq.mp (by kernel_rfl:(let z0:=(↑n:Int);let z1:=rep n [u6 0];let z2:=[bl P,bl Q];let z3:=(↑mm:Int);An [Sm (V.im n B),(if(1:Int)>(↑P.length:Int)then(1:Int)else(↑P.length:Int))=z3,(if(6:Int)<z3 then(6:Int)else z3)=z0,An [An [Zz,z0=z0,Tt,(↑(0:Nat):Int)=(0:Int),Tt],An [z2=z2,TT 2],Tt],Sat Try.prog none 0 (at' 21 [1,1,1,0,1,0]) (mkSt g0 105 (ogS P Q n (0,[]))) (Qah g0 105 [(True,Ex.exit 0,ogX P Q n L)]),(True→An [An [(0:Int)≤z0,z0≤z0,(↑(8:Nat):Int)*z0≤(281474976710656:Int),z0≤(9223372036854775807:Int)],An [An [Zz,z0=z0,An [Zz,n=n,Tt],An [Zz,n=n,Sm (n-n)],(↑(0:Nat):Int)=(0:Int),Tt],An [z2=z2,TT 2],An [Sm (it L),HfL (it L)],An [z1=z1,HfL z1],Tt],Sat Try.prog none 0 (at' 21 [1,1,1,1,1,0,1,0]) (mkSt g0 105 (egO P Q n L (0,z1))) (Qah g0 105 [(True,Ex.exit 2,egX n B)]),(True→An [An [An [n=n,B=B,HfL B],Tt],Tt]),Tt]),Tt])=_) ?_
 (repeat'(first|(with_reducible apply And.intro)|(refine fun(_:True)=>?_)))<;>first|exact aq|skip
 all_goals first|exact h1|exact h2|skip
theorem slice_bt(P:List Nat)(k:Nat)(h:k≤P.length):sliceV (Qaa Pg) 22 (bl P) none (some (k:Int)) none=some (bl (P.take k)):=by
 have e:sliceV (Qaa Pg) 22 (bl P) none (some (k:Int)) none=(if 0≤(0:Int)∧0≤(k:Int)∧(k:Int)≤(P.length:Nat)∧(none:Option Int).isNone=true then some (if(0:Int)=(k:Int)then .im 0 []else .im ((k:Int).toNat-(0:Int).toNat) (((bt P).drop ((0:Int).toNat*1)).take (((k:Int).toNat-(0:Int).toNat)*1)))else none):=by kernel_rfl
 rw[e,if_pos ⟨Int.le_refl _,by omega,by omega,rfl⟩]
 have h2:bl (P.take k)= .im k ((bt P).take k):=by
  show V.im _ (bt _)=_
  rw[List.length_take,show min k P.length=k by omega]
  unfold bt
  rw[List.map_take]
 rw[h2]
 by_cases h0:k=0
 ·subst h0;rfl
 ·rw [if_neg (by omega)]
  simp
def prT:List (Nat×Nat)→List V
 |[]=>[]
 |x::l=>[w8 (x.1:Nat),w8 (x.2:Nat)]++prT l
theorem Qg9: ∀l,HfL (prT l)
 |[]=>trivial
 |x::l=>⟨trivial,trivial,Qg9 l⟩
theorem prT_at: ∀{l:List (Nat×Nat)}{k:Nat}{x:Nat×Nat},l[k]? =some x→∃r,(prT l).drop (k*2)=w8 (x.1:Nat)::w8 (x.2:Nat)::r
 |[],k,x,h=>by simp at h
 |y::l,0,x,h=>by cases h;exact⟨_,rfl⟩
 |y::l,k+1,x,h=>by
  obtain⟨r,hr⟩:=prT_at (l:=l) (k:=k) h
  refine⟨r,?_⟩
  rw[Nat.succ_mul]
  exact hr
def mx1(f:Nat→Nat)(x y:Nat):Nat→Nat:=fun i=>if i=x then f x|||2^y else f i
def mxF(n:Nat)(pr:List (Nat×Nat)):Nat→Nat→Nat
 |0=>fun _=>0
 |i+1=>if(pr.getD i (0,0)).1%n≠(pr.getD i (0,0)).2%n then mx1 (mx1 (mxF n pr i) ((pr.getD i (0,0)).1%n) ((pr.getD i (0,0)).2%n)) ((pr.getD i (0,0)).2%n) ((pr.getD i (0,0)).1%n)else mxF n pr i
theorem Qpa{f:Nat→Nat}{x y n:Nat}(h: ∀i,f i<2^n)(hy:y<n): ∀i,mx1 f x y i<2^n:=by
 intro i
 unfold mx1
 split
 ·exact Nat.or_lt_two_pow (h x) (Nat.pow_lt_pow_right (by decide) hy)
 ·exact h i
theorem Qlk{n:Nat}{pr:List (Nat×Nat)}(hn:0<n): ∀i u,mxF n pr i u<2^n
 |0,u=>Nat.pow_pos (by decide)
 |i+1,u=>by
  unfold mxF
  split
  ·exact Qpa (Qpa (Qlk hn i) (Nat.mod_lt _ hn)) (Nat.mod_lt _ hn) u
  ·exact Qlk hn i u
abbrev mgS(P Q:List Nat)(m:Nat)(PP:List V)(n:Nat)(G:List V)(q:Nat×List V):SL:={sl:=[(1,.ptr 0 0),(4,.im n G),(5,.sl 1 0 n (some (n-n))),(6,i6 (q.1:Nat))],os:=[.row 27 none [bl P,bl Q,.im m PP],.row 28 none q.2]}
abbrev mgX(n:Nat)(G C:List V):SL:={sl:=[(4,.im n G),(5,.sl 0 0 n (some (n-n)))],os:=[.row 28 none C]}
theorem mg_loop(P Q:List Nat)(pr:List (Nat×Nat))(h256: ∀x∈pr,x.1<256∧x.2<256)(n:Nat)(hn:1≤n)(hn6:n≤6)(G:List V)(hG:HfL G)(A B:List V)(hA:uF (mxF n pr 0) n=A)(hB:uF (mxF n pr (min pr.length 10)) n=B):
  Sat Pg none 0 (at' 6 [1,1,1,1,0,1,0]) (mkSt g0 84 (mgS P Q pr.length (prT pr) n G (0,A))) (Qah g0 84 [(True,.exit 0,mgX n G B)]):=by
 have hPf:=Qae P
 have hQf:=Qae Q
 have hTf:=Qg9 pr
 refine Qbi vE_ok Qaf Qab (b:=at' 6 [1,1,1,1,0,1,0,0]) (by kernel_rfl) (fun q=>q.1≤min pr.length 10∧uF (mxF n pr q.1) n=q.2) (mgS P Q pr.length (prT pr) n G) (fun q=>10-q.1) (fun q hq=>?_) (0,A) ⟨Nat.zero_le _,hA⟩
 obtain⟨i,C⟩:=q
 obtain⟨hi,hC⟩:=hq
 dsimp only at hi hC
 have hCf:HfL C:=by rw[←hC];exact Qa4 _ _
 by_cases hlt:i<pr.length
 ·by_cases hl10 : i < 10
  ·have hstep : mxF n pr (i + 1) = if (pr.getD i (0, 0)).1 % n ≠ (pr.getD i (0, 0)).2 % n then mx1 (mx1 (mxF n pr i) ((pr.getD i (0, 0)).1 % n) ((pr.getD i (0, 0)).2 % n)) ((pr.getD i (0, 0)).2 % n) ((pr.getD i (0, 0)).1 % n) else mxF n pr i := rfl
   have hpr:pr[i]? =some (pr.getD i (0,0)):=by rw[List.getD_eq_getElem?_getD,List.getElem?_eq_getElem hlt];rfl
   have hmem:=h256 _ (List.mem_of_getElem? hpr)
   obtain⟨rr,hrr⟩:=prT_at hpr
   generalize pr.getD i (0,0)=ab at*
   obtain⟨a,b⟩:=ab
   dsimp only at hstep hmem hrr
   have s1:=Qbu (G:=Qaa Pg) (t:=3) (a:=a) (b:=n) (by omega)
   have s2:=Qbu (G:=Qaa Pg) (t:=3) (a:=b) (b:=n) (by omega)
   have hx:=Nat.mod_lt a (show n>0 by omega)
   have hy:=Nat.mod_lt b (show n>0 by omega)
   generalize a%n=x at*
   generalize b%n=y at*
   by_cases hxy:x=y
   ·rw [if_neg (fun h => h hxy)] at hstep
    have hinv:uF (mxF n pr (i+1)) n=C:=by rw[hstep];exact hC
    clear hstep hA hB hC
    generalize prT pr=PP at*
    subst hxy
    refine .inl ⟨(i+1,C),[0,1],[yes 30,yes 33,pl 40,ld 42 (w8 (a:Nat)),nu 43 (a:Nat),va 46 (i6 (x:Nat)),pl 50,ld 52 (w8 (b:Nat)),nu 53 (b:Nat),va 56 (i6 (x:Nat)),no 59,nu 36 ((i+1:Nat):Int)],1000,⟨by dsimp only;omega,hinv⟩,by dsimp only;omega,?_⟩
    clear hinv
    refine Eq.mp (by kernel_rfl:(let z0:=(↑i:Int);let z1:=(↑pr.length:Int);let z2:=(↑(i+1):Int);let z3:=[bl P,bl Q,V.im pr.length PP];let z4:=List.drop (i*2) PP;An [decide (z0<z1)=true,decide (z0<(10:Int))=true,An [(0:Int)≤z0,z0<z1],headF (List.drop (Int.toNat (0:Int)*1) z4)=some (w8 ↑a),wr .i64 (↑a:Int)=(↑a:Int),binV (Qaa Try.prog) BinOp.rem 3 (i6 ↑a) (i6 ↑n)=some (i6 ↑x),An [(0:Int)≤z0,z0<z1],headF (List.drop (Int.toNat (1:Int)*1) z4)=some (w8 ↑b),wr .i64 (↑b:Int)=(↑b:Int),binV (Qaa Try.prog) BinOp.rem 3 (i6 ↑b) (i6 ↑n)=some (i6 ↑x),((↑x:Int) != (↑x:Int))=false,wr .i64 (z0+(1:Int))=z2,An [Zz,An [n=n,G=G],An [Zz,n=n,Sm (n-n)],z2=z2,Tt],An [z3=z3,TT 3],An [C=C,HfL C],Tt])=_) ?_
    (repeat'(first|(with_reducible apply And.intro)|(refine fun(_:True)=>?_)))<;>first|exact aq|skip
    all_goals first|exact s1|exact s2|(rw[hrr];rfl)|skip
   ·rw [if_pos hxy] at hstep
    have h64:2^n≤64:=by
     have:=Nat.pow_le_pow_right (n:=2) (by decide) hn6
     omega
    have hf:=Qlk (pr:=pr) hn i
    have hf1:=Qpa (x:=x) hf hy
    have s3:headF (dropF (0+x*1) C)=some (u6 (mxF n pr i x:Nat)):=by rw[←hC];exact Qhq hx
    obtain⟨s4,s4b⟩:=Qkb (G:=Qaa Pg) (t:=28) (k:=y) (by omega)
    have s5:=(or_u (G:=Qaa Pg) (t:=28) (x:=mxF n pr i x) (by have:=hf x;omega) s4b).1
    have s6:layE (0+x*1) C [u6 (mxF n pr i x|||2^y:Nat)]=some (uF (mx1 (mxF n pr i) x y) n):=by rw[←hC];exact Qli hx _
    have s7:=Qhq (f:=mx1 (mxF n pr i) x y) hy
    obtain⟨s8,s8b⟩:=Qkb (G:=Qaa Pg) (t:=28) (k:=x) (by omega)
    have s9:=(or_u (G:=Qaa Pg) (t:=28) (x:=mx1 (mxF n pr i) x y y) (by have:=hf1 y;omega) s8b).1
    have s10:layE (0+y*1) (uF (mx1 (mxF n pr i) x y) n) [u6 (mx1 (mxF n pr i) x y y|||2^x:Nat)]=some (uF (mxF n pr (i+1)) n):=by rw[hstep];exact Qli hy _
    have w1:wr .u64 (x:Int)=(x:Int):=by rw[wr_eq];exact Qga (by omega)
    have w2:wr .u64 (y:Int)=(y:Int):=by rw[wr_eq];exact Qga (by omega)
    have hDf:=Qa4 (mxF n pr (i+1)) n
    have hEf:=Qa4 (mx1 (mxF n pr i) x y) n
    clear hstep hA hB hC hf hf1
    generalize hD:uF (mxF n pr (i+1)) n=D at*
    generalize uF (mx1 (mxF n pr i) x y) n=E1 at*
    generalize mx1 (mxF n pr i) x y y=g1 at*
    generalize mxF n pr i x=g0' at*
    generalize 2^x=zx at*
    generalize 2^y=zy at*
    generalize g1|||zx=o1 at*
    generalize g0'|||zy=o0 at*
    generalize prT pr=PP at*
    refine .inl ⟨(i+1,D),[0,1],[yes 30,yes 33,pl 40,ld 42 (w8 (a:Nat)),nu 43 (a:Nat),va 46 (i6 (x:Nat)),pl 50,ld 52 (w8 (b:Nat)),nu 53 (b:Nat),va 56 (i6 (y:Nat)),yes 59,pl 64,ld 65 (u6 (g0':Nat)),nu 67 (y:Nat),va 68 (u6 (zy:Nat)),va 69 (u6 (o0:Nat)),pl 70,st E1,pl 75,ld 76 (u6 (g1:Nat)),nu 78 (x:Nat),va 79 (u6 (zx:Nat)),va 80 (u6 (o1:Nat)),pl 81,st D,nu 36 ((i+1:Nat):Int)],1000,⟨by dsimp only;omega,hD⟩,by dsimp only;omega,?_⟩
    clear hD
    refine Eq.mp (by kernel_rfl:(let z0:=Qaa Try.prog;let z1:=(↑i:Int);let z2:=(↑x:Int);let z3:=(↑y:Int);let z4:=(0:Int);let z5:=(↑pr.length:Int);let z6:=(↑(i+1):Int);let z7:=(↑n:Int);let z8:=[bl P,bl Q,V.im pr.length PP];let z9:=List.drop (i*2) PP;An [decide (z1<z5)=true,decide (z1<(10:Int))=true,An [z4≤z1,z1<z5],headF (List.drop (Int.toNat z4*1) z9)=some (w8 ↑a),wr .i64 (↑a:Int)=(↑a:Int),binV z0 BinOp.rem 3 (i6 ↑a) (i6 ↑n)=some (i6 ↑x),An [z4≤z1,z1<z5],headF (List.drop (Int.toNat (1:Int)*1) z9)=some (w8 ↑b),wr .i64 (↑b:Int)=(↑b:Int),binV z0 BinOp.rem 3 (i6 ↑b) (i6 ↑n)=some (i6 ↑y),(z2 != z3)=true,An [z4≤z2,z2<z7],headF (dropF (0+x*1) C)=some (u6 ↑g0'),wr .u64 z3=z3,binV z0 BinOp.shl 28 (u6 1) (u6 ↑y)=some (u6 ↑zy),binV z0 BinOp.or 28 (u6 ↑g0') (u6 ↑zy)=some (u6 ↑o0),An [z4≤z2,z2<z7],layE (0+x*1) C [u6 ↑o0]=some E1,An [z4≤z3,z3<z7],headF (dropF (0+y*1) E1)=some (u6 ↑g1),wr .u64 z2=z2,binV z0 BinOp.shl 28 (u6 1) (u6 ↑x)=some (u6 ↑zx),binV z0 BinOp.or 28 (u6 ↑g1) (u6 ↑zx)=some (u6 ↑o1),An [z4≤z3,z3<z7],layE (0+y*1) E1 [u6 ↑o1]=some D,wr .i64 (z1+(1:Int))=z6,An [Zz,An [n=n,G=G],An [Zz,n=n,Sm (n-n)],z6=z6,Tt],An [z8=z8,TT 3],An [D=D,HfL D],Tt])=_) ?_
    (repeat'(first|(with_reducible apply And.intro)|(refine fun(_:True)=>?_)))<;>first|exact aq|skip
    all_goals first|exact s1|exact s2|exact s3|exact s4|exact s5|exact s6|exact s7|exact s8|exact s9|exact s10|exact w1|exact w2|(rw[hrr];rfl)|(simp;omega)|skip
  ·have hk2 : min pr.length 10 = i := by omega
   rw[hk2,hC]at hB
   subst hB
   generalize prT pr=PP at*
   refine .inr ⟨.exit 0,[1],mgX n G C,[yes 30,no 33],1000,.inl ⟨trivial,rfl,rfl⟩,?_⟩
   clear hC hA hk2
   refine Eq.mp (by kernel_rfl:(An [decide ((↑i:Int)<(↑pr.length:Int))=true,decide ((↑i:Int)<(10:Int))=false,An [An [n=n,G=G],An [Zz,n=n,Sm (n-n)],Tt],An [C=C,HfL C],Tt])=_) ?_
   (repeat'(first|(with_reducible apply And.intro)|(refine fun(_:True)=>?_)))<;>first|exact aq|skip
   all_goals skip
 ·have hk2 : min pr.length 10 = i := by omega
  rw[hk2,hC]at hB
  subst hB
  generalize prT pr=PP at*
  refine .inr ⟨.exit 0,[1],mgX n G C,[no 30],1000,.inl ⟨trivial,rfl,rfl⟩,?_⟩
  clear hC hA hk2
  refine Eq.mp (by kernel_rfl:(An [decide ((↑i:Int)<(↑pr.length:Int))=false,An [An [n=n,G=G],An [Zz,n=n,Sm (n-n)],Tt],An [C=C,HfL C],Tt])=_) ?_
  (repeat'(first|(with_reducible apply And.intro)|(refine fun(_:True)=>?_)))<;>first|exact aq|skip
  all_goals skip
def mgP(P Q:List Nat):List Nat:=(List.range (drN (P.take 5))).map (drG (P.take 5) Q)
def mgJ(P:List Nat)(pr:List (Nat×Nat)):List Nat:=(List.range (drN (P.take 5))).map (mxF (drN (P.take 5)) pr (min pr.length 10))
theorem ul_map(f:Nat→Nat)(n:Nat):ul ((List.range n).map f)= .im n (uF f n):=by
 show V.im _ (ut _)=_
 rw[List.length_map,List.length_range]
 unfold ut uF
 rw[List.map_map]
 rfl
theorem Qo9(P Q:List Nat)(pr:List (Nat×Nat))(hP: ∀x∈P,x<256)(hQ: ∀x∈Q,x<256)(h256: ∀x∈pr,x.1<256∧x.2<256):FnOk Pg g0 6 [.agg [bl P,bl Q,.im pr.length (prT pr)]] (.tup [ul (mgP P Q),ul (mgJ P pr)]):=by
 have hPf:=Qae P
 have hQf:=Qae Q
 have hTf:=Qg9 pr
 have hg:=Qn0 (P.take 5) Q (fun x hx=>hP x (List.mem_of_mem_take hx)) hQ
 have hn1:1≤drN (P.take 5):=by unfold drN;omega
 have hn6:drN (P.take 5)≤6:=by unfold drN;omega
 have hGf:=Qa4 (drG (P.take 5) Q) (drN (P.take 5))
 have h1:=mg_loop (P.take 5) Q pr h256 (drN (P.take 5)) hn1 hn6 _ hGf _ _ rfl rfl
 have hA:uF (mxF (drN (P.take 5)) pr 0) (drN (P.take 5))=rep (drN (P.take 5)) [u6 0]:=Qei (p:=[]) _
 rw[hA]at h1
 have hAf:HfL (rep (drN (P.take 5)) [u6 0]):=by rw[←Qei (p:=[])];exact Qa4 _ _
 have hBf:=Qa4 (mxF (drN (P.take 5)) pr (min pr.length 10)) (drN (P.take 5))
 have e1:ul (mgP P Q)= .im (drN (P.take 5)) (uF (drG (P.take 5) Q) (drN (P.take 5))):=ul_map _ _
 have e2:ul (mgJ P pr)= .im (drN (P.take 5)) (uF (mxF (drN (P.take 5)) pr (min pr.length 10)) (drN (P.take 5))):=ul_map _ _
 rw[e1,e2]
 have h5:sliceV (Qaa Pg) 22 (bl P) none (some ((P.take 5).length:Int)) none=some (bl (P.take 5)):=by
  have:=slice_bt P (min P.length 5) (by omega)
  have e:P.take (min P.length 5)=P.take 5:=by
   by_cases h:P.length≤5
   ·rw[show min P.length 5=P.length by omega,List.take_length,List.take_of_length_le h]
   ·rw[show min P.length 5=5 by omega]
  rw[e]at this
  rw[List.length_take,Nat.min_comm]
  exact this
 have hmn:min (P.length:Int) 5=(((P.take 5).length:Nat):Int):=by rw[List.length_take];omega
 have hP5:=Qae (P.take 5)
 clear e1 e2 hA
 generalize uF (drG (P.take 5) Q) (drN (P.take 5))=G at*
 generalize uF (mxF (drN (P.take 5)) pr (min pr.length 10)) (drN (P.take 5))=B at*
 generalize drN (P.take 5)=n at*
 generalize P.take 5=P5 at*
 generalize prT pr=PP at*
 refine FnOk.of_vc vE_ok Qaf Qab (n:=1000) (r:=[]) (S:={sl:=[(2,.im n G),(3,.im n B)]}) (hs:=[nu 16 (P5.length:Nat),va 17 (bl P5),fn 22 (.im n G),mk 25,(0,.loop [0,1] (mgS P5 Q pr.length PP n G (0,rep n [u6 0])) [(True,.exit 0,mgX n G B)])]) ?_
 refine Eq.mp (by kernel_rfl:(let z0:=(↑n:Int);let z1:=rep n [u6 0];let z2:=[bl P5,bl Q,V.im pr.length PP];let z3:=V.tup [V.im n G,V.im n B];An [z3=z3,(if(5:Int)<(↑P.length:Int)then(5:Int)else(↑P.length:Int))=(↑P5.length:Int),sliceV (Qaa Try.prog) 22 (bl P) none (some (↑P5.length:Int)) none=some (bl P5),An [TT 2,Tt],FnOk Try.prog g0 21 [V.agg [V.im P5.length (bt P5),V.im Q.length (bt Q)]] (V.im n G),Tt,An [(0:Int)≤z0,z0≤z0,(↑(8:Nat):Int)*z0≤(281474976710656:Int),z0≤(9223372036854775807:Int)],An [An [Zz,An [n=n,G=G],An [Zz,n=n,Sm (n-n)],(↑(0:Nat):Int)=(0:Int),Tt],An [z2=z2,TT 3],An [z1=z1,HfL z1],Tt],Sat Try.prog none 0 (at' 6 [1,1,1,1,0,1,0]) (mkSt g0 84 (mgS P5 Q pr.length PP n G (0,z1))) (Qah g0 84 [(True,Ex.exit 0,mgX n G B)]),(True→An [An [An [n=n,G=G],An [n=n,B=B,HfL B],Tt],Tt]),Tt])=_) ?_
 (repeat'(first|(with_reducible apply And.intro)|(refine fun(_:True)=>?_)))<;>first|exact aq|skip
 all_goals first|exact h1|exact hg|exact h5|skip
end Go.Proofs.Ytbmegckcapfdkaa.Am
