/- Texts behind the claim, part 6: the abstract machine, and what the functions answer. No condition. -/
import Derived.Test.YthjjgipcoeiapaaCWKnown5
set_option linter.unusedVariables false
set_option linter.unusedSimpArgs false
set_option linter.unusedSectionVars false
namespace Go.Proofs.Ythjjgipcoeiapaa.Am
open Go.RowKit
def Es.kind:Es->Nat
 | .mk k _ _=>k
def EsG(x:Es):Prop:=EsB x/\x.kind≠0
theorem EsG.mk{k v:Nat}{l:List Es}(hk:k≠0)(hl:l.length<=1000)(h: ∀x∈l,EsG x):EsG (.mk k v l):=⟨.mk hl fun x hx=>(h x hx).1,hk⟩
theorem sumE_good{s:Nat}{x:Es}(h:EsG x):EsG (sumE s x):=by
 obtain⟨k,v,l⟩:=x
 rw[sumE]
 split
 ·exact h
 ·split
  ·exact .mk d_ (by simp) (fun x hx=>by cases hx)
  ·exact .mk d_ (by simp) (fun x hx=>by obtain rfl:=List.mem_singleton.1 hx;exact h)
theorem Qhx{l:List Es}(hl:l.length<=1000)(h: ∀x∈l,EsG x):EsG (Qdb l):=by
 unfold Qdb
 split
 ·exact h _ (List.mem_singleton.2 rfl)
 ·exact .mk d_ hl h
theorem Qrj{s b n:Nat}{q:Es}(h:EsG q):EsG (facE s b n q):=by
 unfold facE
 split
 ·exact sumE_good h
 ·refine .mk d_ (by simp) (fun x hx => ?_)
  simp only[List.mem_cons,List.not_mem_nil,or_false]at hx
  rcases hx with rfl|rfl<;>exact sumE_good h
theorem Qol{d s:Nat}{q:Es}{od:List Nat}(h:EsG q): ∀k,∀x∈(paF d s q od k).2,EsG x
 |0,x,hx=>by cases hx
 | k + 1, x, hx => by
  have ih:=Qol (d:=d) (s:=s) (od:=od) h k
  unfold paF at hx
  split at hx
  ·dsimp only at hx
   split at hx
   ·rcases List.mem_append.1 hx with hx | hx
    ·exact ih x hx
    ·obtain rfl := List.mem_singleton.1 hx
     exact Qrj h
   ·exact ih x hx
  ·exact ih x hx
theorem Qir{d s:Nat}{q:Es}{od:List Nat}(hod:od.length<=64)(h:EsG q):EsG (partE d s q od):=by
 unfold partE
 split
 ·exact h
 ·exact Qhx (Nat.le_trans (Qjw _) o_) (Qol h _)
theorem Qkc{j od:List Nat}{c a:Nat}{x:Nat×Es}(hod:od.length<=64)(h:EsG x.2): ∀k,EsG (tqF j c a od x k).2
 |0=>h
 |k+1=>by
  unfold tqF
  split
  ·exact Qir hod (Qkc hod h k)
  ·exact Qkc hod h k
theorem Qnt{p j od:List Nat}{c:Nat}(hod:od.length<=64): ∀(f:Nat){x:Nat×Es}{y:Es},EsG x.2->fiW p j od c f x=some (.inl y)->EsG y
 |0,x,y,hx,h=>by
  unfold fiW at h
  split at h
  ·cases h;exact hx
  ·cases h
 | f + 1, x, y, hx, h => by
  unfold fiW at h
  split at h
  ·cases h;exact hx
  ·split at h
   ·cases h
   ·exact Qnt hod f (Qkc hod (sumE_good hx) _) h
theorem Qn3{p j od:List Nat}{all F c:Nat}(hod:od.length<=64){fs:List Es}(h0: ∀x∈fs,EsG x): ∀(k:Nat){gs:List Es},inW p j od all F c fs k=some (.inl gs)->∀x∈gs,EsG x
 |0,gs,h=>by unfold inW at h;cases h;exact h0
 | k + 1, gs, h => by
  unfold inW at h
  split at h
  ·rename_i g hg
   have ih:=Qn3 hod h0 k hg
   split at h
   ·split at h
    ·rename_i x hx
     cases h
     intro y hy
     rcases List.mem_append.1 hy with hy|hy
     ·exact ih y hy
     ·obtain rfl := List.mem_singleton.1 hy
      exact Qnt hod F (Qir hod (.mk d_ (by simp) (fun x hx=>by cases hx))) hx
    ·cases h
    ·cases h
   ·cases h;exact ih
  ·rename_i r hr
   exact absurd h (hr gs)
theorem Qoh{p j od:List Nat}{all F asked:Nat}(hod:od.length<=64): ∀(k:Nat){gs:List Es},ouW p j od all F asked k=some (.inl gs)->∀x∈gs,EsG x
 |0,gs,h=>by unfold ouW at h;cases h;intro x hx;cases hx
 | k + 1, gs, h => by
  unfold ouW at h
  split at h
  ·rename_i g hg
   exact Qn3 hod (Qoh hod k hg) _ h
  ·rename_i r hr
   exact absurd h (hr gs)
theorem soE_good{p j od:List Nat}{xs ys F:Nat}(hod:od.length<=64)(hfl: ∀s,s<18446744073709551616->(rn j s+1)*rn j (alN p.length)<=1000){x:Es}(h:soE p j xs ys od F=some (.inl x)):EsG x:=by
 unfold soE at h
 split at h
 ·rename_i fs hfs
  cases h
  refine sumE_good (Qhx ?_ (Qoh hod _ hfs))
  have h1:=Qfl hfs
  have h2:=hfl (clo (ys&&& mi (alN p.length) xs) (mi (alN p.length) xs) p) (Qea (Nat.lt_of_le_of_lt Nat.and_le_right Qc4) Qc4)
  rw[Nat.succ_mul]at h2
  omega
 ·cases h
 ·cases h
set_option maxHeartbeats 1000000
set_option maxRecDepth 100000
noncomputable def id_(q:List Nat):Code:=at' 16 q
noncomputable def id3:Array Oper:=rgOps (id_ [1,1,0])
abbrev idR:List ResultVar:=[.cell 8 57,.cell 9 59,.cell 10 31]
theorem Qr6: ∃fi,vE.code 16=some fi/\fi.body= .seq (id_ [0]) (.seq (id_ [1,0]) (.seq (.region (rgId (id_ [1,1,0])) id3 false) (id_ [1,1,1])))/\fi.ntmps=39/\fi.res=idR:=by
 have e1:(vE.code 16).map (·.body)=some (.seq (id_ [0]) (.seq (id_ [1,0]) (.seq (.region (rgId (id_ [1,1,0])) id3 false) (id_ [1,1,1])))):=by kernel_rfl
 have e2:(vE.code 16).map (·.ntmps)=some 39:=by kernel_rfl
 have e3:(vE.code 16).map (·.res)=some idR:=by kernel_rfl
 cases hfi:vE.code 16 with
 |none=>rw[hfi]at e1;cases e1
 |some fi=>
  rw[hfi]at e1 e2 e3
  exact⟨fi,rfl,Option.some.inj e1,Option.some.inj e2,Option.some.inj e3⟩
abbrev idS(p j:List Nat)(xs ys:Nat):List (Nat×V):=[(0,ul p),(1,ul j),(2,u6 (xs:Nat)),(3,u6 (ys:Nat)),(8,.ptr 0 0),(9,.ptr 1 0),(10,.ptr 2 0)]
abbrev idC:List (Nat×V):=[(8,.ptr 0 0),(9,.ptr 1 0),(10,.ptr 2 0)]
noncomputable abbrev idH:T O:=pt (pt (pt .e 0 esZ) 1 (hgO (0,0,0))) 2 (erO 0)
def idQ(k v n:Nat)(X:List V)(h:Nat×Nat×Nat)(e:Nat)(H:T O):Prop:=gt H 0=some (esO k v n X)/\gt H 1=some (hgO h)/\gt H 2=some (erO e)
theorem id_ret{H:T O}{tm:TM}{c0 c1 c2:List V}{t0 t1 t2:Nat}{s0 s1 s2:Option Nat}{v0 v1 v2:V}(hs:slotsQ tm idC)(h0:gt H 0=some (.row t0 s0 c0))(h1:gt H 1=some (.row t1 s1 c1))(h2:gt H 2=some (.row t2 s2 c2))
  (e0:(match vE.G.ty 57 with|some ti=>loadC ti c0|none=>none)=some v0)(e1:(match vE.G.ty 59 with|some ti=>loadC ti c1|none=>none)=some v1)(e2:(match vE.G.ty 31 with|some ti=>loadC ti c2|none=>none)=some v2):
  retV vE.G tm H idR=some (.tup [v0,v1,v2]):=by
 rw[Qak]at h0 h1 h2
 obtain⟨q0,q1,q2,_⟩:=hs
 have key: ∀(i h t:Nat)(tt:Nat)(ss:Option Nat)(c:List V)(v:V),(match gt tm.sl i with|some y=>y=V.ptr h 0|none=>False)->H.get h=some (.row tt ss c)->(match vE.G.ty t with|some ti=>loadC ti c|none=>none)=some v->resV vE.G tm H (.cell i t)=some v:=by
  intro i h t tt ss c v hg hH hv
  split at hg
  ·rename_i y hy
   subst hg
   rw[Qak]at hy
   cases ht:vE.G.ty t with
   |none=>rw[ht]at hv;cases hv
   |some ti=>rw[ht]at hv;simp only[resV,hy,ht,hH];exact hv
  ·exact hg.elim
 unfold retV resVs resVs resVs resVs
 rw[key _ _ _ _ _ _ _ q0 h0 e0,key _ _ _ _ _ _ _ q1 h1 e1,key _ _ _ _ _ _ _ q2 h2 e2]
theorem id_retQ{H:T O}{tm:TM}{k v n e:Nat}{X:List V}{h:Nat×Nat×Nat}(hs:slotsQ tm idC)(hq:idQ k v n X h e H):retV vE.G tm H idR=some (.tup [.agg [i6 (k:Nat),u6 (v:Nat),.im n X],hgV h,i6 (e:Nat)]):=
 id_ret hs hq.1 hq.2.1 hq.2.2 k_ k_ k_
theorem Qr7{H:T O}{tm:TM}{e:Nat}{h:Nat×Nat×Nat}(hs:slotsQ tm idC)(h0:gt H 0=some esZ)(h1:gt H 1=some (hgO h))(h2:gt H 2=some (erO e)):retV vE.G tm H idR=some (.tup [.agg [i6 0,u6 0,.nils],hgV h,i6 (e:Nat)]):=
 id_ret hs h0 h1 h2 k_ k_ k_
noncomputable def kIdE(e:Nat):KF:=fun ex _ st=>match ex with
 | .ret=>slotsQ st.tm idC/\gt st.H 0=some esZ/\gt st.H 1=some (hgO (0,0,0))/\gt st.H 2=some (erO e)
 | _=>False
noncomputable def kIdN(k v n:Nat)(X:List V):KF:=fun ex _ st=>match ex with
 | .ret=>slotsQ st.tm idC/\idQ k v n X (0,0,0) 0 st.H
 | _=>False
noncomputable def kIdP(h:Nat×Nat×Nat):KF:=fun ex _ st=>match ex with
 | .pan v=>v=hgP h/\slotsQ st.tm idC/\gt st.H 0=some esZ/\gt st.H 1=some (hgO (0,0,0))/\gt st.H 2=some (erO 0)/\st.nx=5
 | _=>False
theorem Sat.kAsg{rd:Option Nat}{nx0 m n nx nx':Nat}{c:Code}{hs:Hs}{sl sl':List (Nat×V)}{H H':T O}{lg lg':List Nat}(h:vc Pg vE sp0 rd nx0 m c hs (mkSo g0 n sl H nx lg) (Qce n sl' H' nx' lg')):Sat Pg rd nx0 c (mkSo g0 n sl H nx lg) (fun e st=>e= .normal/\st=mkSo g0 n sl' H' nx' lg'):=by
 refine Sat.fewer_post (Sat.of_vc vE_ok mixed Qab rfl h fun e hs' st' hgl hk=>?_)
 unfold Qce at hk
 split at hk
 ·obtain ⟨hb1, q1, q2, q3, q4⟩ := Qae hk
  have hn':=Nat.eq_of_beq_eq_true hb1
  exact⟨sl',q1,rfl,by rw[q2,q3,q4,hn',hgl];rfl⟩
 ·exact hk.elim
section
variable (p j:List Nat) (xs ys:Nat)
theorem id_vc0(hp:HfL (ut p))(hj:HfL (ut j)):vc Pg vE sp0 none 0 1000 (id_ [0]) [] (mkSo g0 39 [(0,ul p),(1,ul j),(2,u6 (xs:Nat)),(3,u6 (ys:Nat))] .e 0 []) (Qce 39 (idS p j xs ys) idH 3 []):=by
 exact v_ (p:=An [Bn [Sm (ul p),Sm (ul j),Sm (u6 xs),Sm (u6 ys),Sm (V.ptr 0 0),Sm (V.ptr 1 0),Sm (V.ptr 2 0)],pt (pt (pt T.e 0 (O.row 57 none [i6 0,u6 0,V.nils])) 1 (O.row 59 none [u6 0,u6 0,u6 0])) 2 (O.row 31 none [i6 0])=idH,3=3,([]:List Nat)=[]])
theorem id_vc1(hp:HfL (ut p))(hj:HfL (ut j))(ha:FnOk Pg g0 35 [ul p,ul j,u6 (xs:Nat),u6 (ys:Nat)] (i6 (0:Nat))):vc Pg vE sp0 none 0 1000 (id_ [1,0]) [fn 18 (i6 (0:Nat))] (mkSo g0 39 (idS p j xs ys) idH 3 []) (Qce 39 (idS p j xs ys) idH 3 []):=by
 exact v_ (p:=An [TT 4,FnOk Pg g0 35 [V.im p.length (ut p),V.im j.length (ut j),u6 xs,u6 ys] (i6 ↑(0:Nat)),Tt,Bn [Sm (ul p),Sm (ul j),Sm (u6 xs),Sm (u6 ys),Sm (V.ptr 0 0),Sm (V.ptr 1 0),Sm (V.ptr 2 0)],idH=idH,3=3,([]:List Nat)++[]=[]])
theorem id_vc1e(hp:HfL (ut p))(hj:HfL (ut j))(e:Nat)(he:e≠0)(ha:FnOk Pg g0 35 [ul p,ul j,u6 (xs:Nat),u6 (ys:Nat)] (i6 (e:Nat))):vc Pg vE sp0 none 0 1000 (id_ [1,0]) [fn 18 (i6 (e:Nat)),yes 20] (mkSo g0 39 (idS p j xs ys) idH 3 []) (kIdE e):=by
 exact v_ (p:=let z0:=pt (pt (pt idH 0 (O.row 57 none [i6 0,u6 0,V.nils])) 1 (O.row 59 none [u6 0,u6 0,u6 0])) 2 (O.row 31 none [i6 e]);An [TT 4,FnOk Pg g0 35 [V.im p.length (ut p),V.im j.length (ut j),u6 xs,u6 ys] (i6 e),Tt,((e:Int) != 0)=true,Bn [Sm (V.ptr 0 0),Sm (V.ptr 1 0),Sm (V.ptr 2 0)],gt z0 0=some esZ,gt z0 1=some (hgO (0,0,0)),gt z0 2=some (erO e)])
noncomputable abbrev id5(p j:List Nat)(xs ys m:Nat)(A:List V):T O:=pt (pt (pt idH 3 (.row 94 none [.nils,.nils])) 3 (.row 94 none [ul p,ul j])) 4 (.row 98 none [ul p,ul j,u6 (xs:Nat),u6 (ys:Nat),.im m A])
theorem id_call(hp:HfL (ut p))(hj:HfL (ut j))(m:Nat)(A:List V)(hA:HfL A){r:V}(hr:Hf r)(hsv:FnOk Pg g0 39 [.imp [ul p,ul j,u6 (xs:Nat),u6 (ys:Nat),.im m A]] r):
  CallSpec Pg g0 (.fn 39 []) [.ptr 4 0] (id5 p j xs ys m A) 5 ⟨r,pt (id5 p j xs ys m A) 4 .dead,5,[4]⟩:=by
 have hg:gt (id5 p j xs ys m A) 4=some (.row 98 none [ul p,ul j,u6 (xs:Nat),u6 (ys:Nat),.im m A]):=by kernel_rfl
 refine Qnz [4] hsv ⟨_,_,rfl,.inr ⟨4,0,_,_,_,rfl,List.mem_singleton.2 rfl,by rw[<-Qak];exact hg,?_⟩,rfl⟩ hr (fun g hg'=>?_) (fun i hi=>?_) (fun i hi=>?_)
 ·exact ViewP.of_hf _ ⟨trivial,trivial,trivial,trivial,trivial,trivial⟩
 ·obtain rfl := List.mem_singleton.1 hg'
  exact⟨_,_,_,by rw[<-Qak];exact hg⟩
 ·rw[<-Qak,<-Qak,gt_pt,if_neg (fun e=>hi (List.mem_singleton.2 e))]
 ·obtain rfl := List.mem_singleton.1 hi
  rw[<-Qak,gt_pt,if_pos rfl]
theorem id_vc2(hp:HfL (ut p))(hj:HfL (ut j))(od:List Nat)(m:Nat)(A:List V)(hA:HfL A)(hs:FnOk Pg g0 37 [grV p j] (.im m A))(k v n:Nat)(X:List V)(hX:HfL X)
  (hsv:FnOk Pg g0 39 [.imp [ul p,ul j,u6 (xs:Nat),u6 (ys:Nat),.im m A]] (.agg [i6 (k:Nat),u6 (v:Nat),.im n X]))(hcl:FnOk Pg g0 38 [.agg [i6 (k:Nat),u6 (v:Nat),.im n X]] (.agg [i6 (k:Nat),u6 (v:Nat),.im n X])):
  vc Pg vE sp0 none 3 1000 (id_ [1,1,1]) [fn 32 (.im m A),(36,.call ⟨.agg [i6 (k:Nat),u6 (v:Nat),.im n X],pt (id5 p j xs ys m A) 4 .dead,5,[4]⟩),fn 37 (.agg [i6 (k:Nat),u6 (v:Nat),.im n X])] (mkSo g0 39 (idS p j xs ys) idH 3 []) (kIdN k v n X):=by
 have hc:=id_call p j xs ys hp hj m A hA (r:=.agg [i6 (k:Nat),u6 (v:Nat),.im n X]) ⟨trivial,trivial,trivial,trivial⟩ hsv
 exact v_ (p:=let z2:=pt (pt (pt idH 3 (O.row 94 none [V.nils,V.nils])) 3 (O.row 94 none [ul p,ul j])) 4 (O.row 98 none [ul p,ul j,u6 xs,u6 ys,V.im m A]);let z3:=pt (id5 p j xs ys m A) 4 O.dead;let z4:=[i6 k,u6 v,V.im n X];let z0:=pt (pt (pt z3 0 (O.row 57 none z4)) 1 (O.row 59 none [u6 0,u6 0,u6 0])) 2 (O.row 31 none [i6 0]);let z1:=V.agg z4;An [Bn [TT 2],FnOk Pg g0 37 [V.agg [V.im p.length (ut p),V.im j.length (ut j)]] (V.im m A),Tt,CallSpec Pg g0 (V.fn 39 []) [V.ptr 4 0] z2 5 (CR.mk z1 z3 5 [4]),Tt,Bn [TT 3],FnOk Pg g0 38 [z1] z1,Bn [(V.fn 39 []=V.fn 38 []->[V.ptr 4 0]=[z1]->z2=z3->3+1+1=5->CR.mk z1 z3 5 [4]=CR.mk z1 z3 5 [])],Bn [Sm (V.ptr 0 0),Sm (V.ptr 1 0),Sm (V.ptr 2 0)],gt z0 0=some (esO k v n X),gt z0 1=some (hgO (0,0,0)),gt z0 2=some (erO 0)])
theorem id_vc3(hp:HfL (ut p))(hj:HfL (ut j))(od:List Nat)(m:Nat)(A:List V)(hA:HfL A)(hs:FnOk Pg g0 37 [grV p j] (.im m A))(h1 h2 h3:Nat)
  (hsv:FnPan Pg g0 39 [.imp [ul p,ul j,u6 (xs:Nat),u6 (ys:Nat),.im m A]] (hgP (h1,h2,h3))):
  vc Pg vE sp0 none 3 1000 (id_ [1,1,1]) [fn 32 (.im m A),(7,.pn 1 (some (hgP (h1,h2,h3))))] (mkSo g0 39 (idS p j xs ys) idH 3 []) (kIdP (h1,h2,h3)):=by
 exact v_ (p:=let z1:=[ul p,ul j,u6 xs,u6 ys,V.im m A];let z2:=hgP (h1,h2,h3);let z0:=pt (pt (pt idH 3 (O.row 94 none [V.nils,V.nils])) 3 (O.row 94 none [ul p,ul j])) 4 (O.row 98 none z1);An [Bn [TT 2],FnOk Pg g0 37 [V.agg [V.im p.length (ut p),V.im j.length (ut j)]] (V.im m A),Tt,Bn [TT 5],FnPan Pg g0 39 [V.imp z1] z2,z2=z2,Bn [Sm (V.ptr 0 0),Sm (V.ptr 1 0),Sm (V.ptr 2 0)],gt z0 0=some esZ,gt z0 1=some (hgO (0,0,0)),gt z0 2=some (erO 0),5=5])
theorem Qn2(hp:HfL (ut p))(hj:HfL (ut j)){v0:V}(hv:Hf v0){R1:Prop}
  (h2:vc Pg vE sp0 none 0 1000 (id_ [1,0]) [fn 18 (i6 (0:Nat))] (mkSo g0 39 (idS p j xs ys) idH 3 []) (Qce 39 (idS p j xs ys) idH 3 []))
  (h3:Sat Pg none 3 (id_ [1,1,1]) (mkSo g0 39 (idS p j xs ys) idH 3 []) (fun e st=>DefEnd Pg vE g0 36 dfC [] idR (fun v _ _ _=>v=v0) e st)):
  FnOk Pg g0 16 [ul p,ul j,u6 (xs:Nat),u6 (ys:Nat)] v0:=by
 obtain⟨fi,hfi,hb,hn,hr⟩:=Qr6
 obtain⟨fg,hg1,_⟩:=Qjc
 refine CallSpec.guard vE_ok hfi (by rw[hn];rfl) (Log.refl _ _ _) hb (R1:=fun st=>st=mkSo g0 39 (idS p j xs ys) idH 3 []) (R2:=fun st=>st=mkSo g0 39 (idS p j xs ys) idH 3 []) (Z:=fun v _ _ _=>v=v0) ?_ ?_ ?_ ?_
 ·rintro v H' nx' lg' rfl s w ee w' hH hn ⟨u, s', h1, g1, g2, g3, _, _⟩
  subst h1
  obtain⟨s'',q1,q2,q3,q4⟩:=Qbm hH g1 hv g3 (fun h _=>hn h (Nat.zero_le _)) (fun b hb=>g2.old b (.inl hb))
  exact⟨u,s'',rfl,q1,q2,q3,fun i=>by rw[q4];exact dom_same s _ i,Nat.le_refl _⟩
 ·rw [hn]
  refine Sat.fewer (sl:=[(0,ul p),(1,ul j),(2,u6 (xs:Nat)),(3,u6 (ys:Nat))]) ⟨rfl,rfl,rfl,rfl,trivial⟩ ?_
  exact Sat.kAsg (id_vc0 p j xs ys hp hj)
 ·rintro st rfl
  refine(Sat.kAsg h2).mono fun e st' h=>.inl ⟨h.1,by rw[h.2];rfl,h.2⟩
 ·rintro st rfl
  refine⟨⟨(mkSo g0 39 (idS p j xs ys) idH 3 []).tm.put (some 24) (.fn 36 dfC),idH,3,[]⟩,36,dfC,[],tbl [],1,id3.getD 1 default,⟨.value (.tmp 24), #[], #[]⟩,.tmp 24,fg,TblOk.nil.call,by kernel_rfl,by kernel_rfl,by kernel_rfl,by kernel_rfl,rfl,by kernel_rfl,by kernel_rfl,by kernel_rfl,by kernel_rfl,hg1,rfl,?_⟩
  refine Sat.fewer (sl:=idS p j xs ys) ⟨rfl,rfl,rfl,rfl,rfl,rfl,rfl,trivial⟩ ?_
  rw[hr]
  exact h3
end
set_option maxHeartbeats 1000000
set_option maxRecDepth 100000
section
variable (p j:List Nat) (xs ys:Nat)
theorem Qck(e:Nat)(he:e≠0)(ha:FnOk Pg g0 35 [ul p,ul j,u6 (xs:Nat),u6 (ys:Nat)] (i6 (e:Nat))):FnOk Pg g0 16 [ul p,ul j,u6 (xs:Nat),u6 (ys:Nat)] (.tup [.agg [i6 0,u6 0,.nils],hgV (0,0,0),i6 (e:Nat)]):=by
 have hp:=Qaf p
 have hj:=Qaf j
 obtain⟨fi,hfi,hb,hn,hr⟩:=Qr6
 obtain⟨fg,hg1,_⟩:=Qjc
 refine CallSpec.guard vE_ok hfi (by rw[hn];rfl) (Log.refl _ _ _) hb (R1:=fun st=>st=mkSo g0 39 (idS p j xs ys) idH 3 []) (R2:=fun st=>False) (Z:=fun v _ _ _=>v= .tup [.agg [i6 0,u6 0,.nils],hgV (0,0,0),i6 (e:Nat)]) ?_ ?_ ?_ (fun st h=>h.elim)
 ·rintro v H' nx' lg' rfl s w ee w' hH hn ⟨u, s', h1, g1, g2, g3, _, _⟩
  subst h1
  obtain⟨s'',q1,q2,q3,q4⟩:=Qbm hH g1 ⟨⟨trivial,trivial,trivial,trivial⟩,⟨trivial,trivial,trivial,trivial⟩,trivial,trivial⟩ g3 (fun h _=>hn h (Nat.zero_le _)) (fun b hb=>g2.old b (.inl hb))
  exact⟨u,s'',rfl,q1,q2,q3,fun i=>by rw[q4];exact dom_same s _ i,Nat.le_refl _⟩
 ·rw [hn]
  refine Sat.fewer (sl:=[(0,ul p),(1,ul j),(2,u6 (xs:Nat)),(3,u6 (ys:Nat))]) ⟨rfl,rfl,rfl,rfl,trivial⟩ ?_
  exact Sat.kAsg (id_vc0 p j xs ys hp hj)
 ·rintro st rfl
  refine Sat.of_vc vE_ok mixed Qab rfl (id_vc1e p j xs ys hp hj e he ha) fun ex hs' st' hgl hk=>?_
  unfold kIdE at hk
  split at hk
  ·exact .inr ⟨rfl,_,by rw[hr];exact Qr7 hk.1 hk.2.1 hk.2.2.1 hk.2.2.2,rfl⟩
  ·exact hk.elim
variable (hl:p.length<64) (h64:S64 p) (F:Nat) (hF:F<=10) (y:Nat×List Nat) (hy:soW p F (0,[])=some y) (ha:FnOk Pg g0 35 [ul p,ul j,u6 (xs:Nat),u6 (ys:Nat)] (i6 (0:Nat)))
include hl h64 hF hy ha
theorem Qma{x:Es}(hx:EsG x)(hsv:FnOk Pg g0 39 [.imp (prC p j xs ys y.2)] (esV x)):FnOk Pg g0 16 [ul p,ul j,u6 (xs:Nat),u6 (ys:Nat)] (.tup [esV x,hgV (0,0,0),i6 (0:Nat)]):=by
 have hp:=Qaf p
 have hj:=Qaf j
 have hs:=Qlm p j hl h64 F hF y hy
 have hA:=Qbk y.2
 have hcl:=clone_fn hx.1
 obtain⟨k,v,l⟩:=x
 have hX:=Qan l
 have e:esV (.mk k v l)= .agg [i6 (k:Nat),u6 (v:Nat),.im l.length (esL l)]:=rfl
 have e2:il y.2= .im y.2.length (it y.2):=rfl
 rw[e]at hcl hsv⊢
 rw[e2]at hs
 have e3:prC p j xs ys y.2=[ul p,ul j,u6 (xs:Nat),u6 (ys:Nat),.im y.2.length (it y.2)]:=rfl
 rw[e3]at hsv
 generalize esL l=X at*
 generalize it y.2=A at*
 refine Qn2 p j xs ys hp hj ⟨⟨trivial,trivial,trivial,trivial⟩,⟨trivial,trivial,trivial,trivial⟩,trivial,trivial⟩ (R1:=True) (id_vc1 p j xs ys hp hj ha) ?_
 refine Sat.of_vc vE_ok mixed Qab rfl (id_vc2 p j xs ys hp hj [] y.2.length A hA hs k v l.length X hX hsv hcl) fun ex hs' st' hgl hk=>?_
 unfold kIdN at hk
 split at hk
 ·exact⟨none,⟨.tup [],st'.H,st'.nx,[]⟩,.inl ⟨.inr rfl,rfl⟩,df_none _ _,_,id_retQ hk.1 hk.2,rfl⟩
 ·exact hk.elim
theorem Qh6(h:Nat×Nat×Nat)(hsv:FnPan Pg g0 39 [.imp (prC p j xs ys y.2)] (hgP h)):FnOk Pg g0 16 [ul p,ul j,u6 (xs:Nat),u6 (ys:Nat)] (.tup [.agg [i6 0,u6 0,.nils],hgV h,i6 (351:Nat)]):=by
 have hp:=Qaf p
 have hj:=Qaf j
 have hs:=Qlm p j hl h64 F hF y hy
 have hA:=Qbk y.2
 have e2:il y.2= .im y.2.length (it y.2):=rfl
 rw[e2]at hs
 have e3:prC p j xs ys y.2=[ul p,ul j,u6 (xs:Nat),u6 (ys:Nat),.im y.2.length (it y.2)]:=rfl
 rw[e3]at hsv
 generalize it y.2=A at*
 obtain⟨a,b,c⟩:=h
 refine Qn2 p j xs ys hp hj ⟨⟨trivial,trivial,trivial,trivial⟩,⟨trivial,trivial,trivial,trivial⟩,trivial,trivial⟩ (R1:=True) (id_vc1 p j xs ys hp hj ha) ?_
 refine Sat.of_vc vE_ok mixed Qab rfl (id_vc3 p j xs ys hp hj [] y.2.length A hA hs a b c hsv) fun ex hs' st' hgl hk=>?_
 unfold kIdP at hk
 split at hk
 ·obtain ⟨rfl, k1, k2, k3, k4, k5⟩ := hk
  refine⟨some (hgP (a,b,c)),_,.inr ⟨_,rfl,rfl⟩,by rw[k5];exact df_some (a,b,c) st'.H 2 [] (0,0,0) (0,0,0) (0,0,0) 0 _ _ _ k2 k3 k4,_,Qr7 (h:=(a,b,c)) (e:=351) k1 ?_ ?_ ?_,rfl⟩
  ·rw[gt_pt,if_neg d_,gt_pt,if_neg d_,gt_pt,if_pos rfl]
  ·rw[gt_pt,if_neg d_,gt_pt,if_pos rfl]
  ·rw[gt_pt,if_pos rfl]
 ·exact hk.elim
end
set_option maxHeartbeats 1000000
set_option maxRecDepth 100000
theorem shl_u{G:Ctx}{t:Nat}{x k:Nat}(hk:k<64)(hx:x*2^k<18446744073709551616):binV G .shl t (u6 (x:Int)) (i6 (k:Int))=some (u6 ((x*2^k:Nat):Int)):=by
 have e:binV G .shl t (u6 (x:Int)) (i6 (k:Int))=if(k:Int)<0 then none else some (.int .u64 (wr .u64 ((x:Int)*((2^min ((k:Int).toNat) 64:Nat):Int)))):=rfl
 rw[e,if_neg o_,Int.toNat_natCast,show min k 64=k by omega,wr_eq,<-Int.natCast_mul,Qu8 hx]
def uF(f:Nat->Nat)(n:Nat):List V:=(List.range n).map fun i=>u6 (f i:Nat)
theorem Qat(f:Nat->Nat)(n:Nat):HfL (uF f n):=Qgg _ _ (fun _=>trivial)
theorem Qaz(f:Nat->Nat)(n:Nat):(uF f n).length=n:=by unfold uF;rw[List.length_map,List.length_range]
theorem Qe7{f g:Nat->Nat}{n:Nat}(h: ∀i,i<n->f i=g i):uF f n=uF g n:=by
 unfold uF
 exact List.map_congr_left fun i hi=>by rw[h i (List.mem_range.1 hi)]
theorem Qfg{f:Nat->Nat}{n k:Nat}(h:k<n):headF (dropF (0+k*1) (uF f n))=some (u6 (f k:Nat)):=by
 rw[Qbh,Nat.zero_add]
 exact Qf6 (by rw[List.getElem?_range h])
theorem lay_set{c:List V}{j:Nat}{x:V}(h:j<c.length):layE (0+j*1) c [x]=some (c.set j x):=by
 rw[Qf7,Nat.zero_add,Nat.mul_one]
 have hb:Nat.ble (j+[x].length) c.length=true:=by rw[Nat.ble_eq];simp;omega
 rw[hb,cond_true]
 congr 1
 rw[List.set_eq_take_append_cons_drop,if_pos h,List.append_assoc]
 rfl
theorem Qn8{f:Nat->Nat}{n j:Nat}(h:j<n)(x:Nat):layE (0+j*1) (uF f n) [u6 (x:Nat)]=some (uF (fun i=>if i=j then x else f i) n):=by
 rw[lay_set (by rw[Qaz];exact h)]
 congr 1
 apply List.ext_getElem?
 intro i
 unfold uF
 rw[List.getElem?_set,List.length_map,List.length_range]
 by_cases hij:j=i
 ·subst hij
  rw[if_pos rfl,if_pos h,List.getElem?_map,List.getElem?_range h];simp
 ·rw [if_neg hij, List.getElem?_map, List.getElem?_map]
  by_cases hi:i<n
  ·rw[List.getElem?_range hi];simp[Ne.symm hij]
  ·rw[List.getElem?_eq_none (by simp;omega)];rfl
def chR(p:List Nat):Nat->Nat->Nat
 |0,_=>0
 |k+1,i=>chR p k i|||p.getD k 0/2^i%2*2^k
def chI(p:List Nat)(k m i:Nat):Nat:=if i<m then chR p (k+1) i else chR p k i
theorem Qqu{y k:Nat}(hk:k<64):y%2*2^k<18446744073709551616:=by
 have h1:2^k<=2^63:=Nat.pow_le_pow_right d_ o_
 have h2:y%2<=1:=by omega
 have:=Nat.mul_le_mul h2 h1
 omega
theorem chR_lt(p:List Nat): ∀k i,k<=64->chR p k i<18446744073709551616
 |0,_,_=>by unfold chR;decide
 |k+1,i,hk=>Nat.or_lt_two_pow (n:=64) (chR_lt p k i o_) (Qqu o_)
theorem chI_step(p:List Nat)(k m:Nat):(fun i=>if i=m then chR p k m|||p.getD k 0/2^m%2*2^k else chI p k m i)=chI p k (m+1):=by
 funext i
 unfold chI
 by_cases h:i=m
 ·subst h;rw[if_pos rfl,if_pos o_];rfl
 ·rw [if_neg h]
  by_cases h2:i<m
  ·rw[if_pos h2,if_pos o_]
  ·rw[if_neg h2,if_neg o_]
theorem chI_zero(p:List Nat)(k:Nat):chI p k 0=chR p k:=by
 funext i;unfold chI;rw[if_neg o_]
theorem chI_end(p:List Nat)(k n:Nat):uF (chI p k n) n=uF (chR p (k+1)) n:=Qe7 fun i hi=>by unfold chI;rw[if_pos hi]
abbrev rdO(p:List Nat)(r:Nat)(C:List V):List O:=[.row 133 none [.nils,.nils],.row 29 none C,.row 133 none [ul p,.sl 1 0 p.length (some (r-r))]]
abbrev rd2(p:List Nat)(x k n:Nat)(q:Nat×List V):SL:={sl:=[(0,ul p),(2,.ptr 0 0),(4,.ptr 2 0),(28,ul p),(29,i6 (n:Nat)),(30,i6 (k:Nat)),(5,i6 (k:Nat)),(6,u6 (x:Nat)),(42,i6 (n:Nat)),(43,i6 (q.1:Nat))],os:=rdO p n q.2,md:=[0,0,1]}
theorem read_in(p:List Nat)(hl:p.length<=64)(h64:S64 p)(n k x:Nat)(hn:p.length=n)(hk:k<n)(hx:p.getD k 0=x)(A B:List V)(hA:uF (chI p k 0) n=A)(hB:uF (chI p k n) n=B):
  Sat Pg none 0 (at' 61 [1,0,1,1,0,1,0,0,1,1,0,0,1,1,1,0]) (mkSt g0 95 (rd2 p x k n (0,A))) (Qad g0 95 [(True,.exit 2,rd2 p x k n (n,B))]):=by
 have hp:=Qaf p
 refine Qav vE_ok mixed Qab (b:=at' 61 [1,0,1,1,0,1,0,0,1,1,0,0,1,1,1,0,0]) k_ (fun q=>q.1<=n/\uF (chI p k q.1) n=q.2) (rd2 p x k n) (fun q=>n-q.1) (fun q hq=>?_) (0,A) ⟨Nat.zero_le _,hA⟩
 obtain⟨m,C⟩:=q
 obtain⟨hm,hC⟩:=hq
 dsimp only at hm hC
 have hCf:HfL C:=by rw[<-hC];exact Qat _ _
 by_cases hlt:m<n
 ·have s0 : headF (dropF (0 + m * 1) C) = some (u6 (chR p k m : Nat)) := by rw [<- hC, Qfg hlt]; unfold chI; rw [if_neg o_]
  have s1:=Qdd (G:=Qac Pg) (t:=29) (x:=p.getD k 0) (k:=m) o_
  have s2:=Qcj (G:=Qac Pg) (t:=29) (x:=p.getD k 0/2^m)
  have s3:=shl_u (G:=Qac Pg) (t:=29) (x:=p.getD k 0/2^m%2) (k:=k) o_ (Qqu o_)
  have s4:=(or_u (G:=Qac Pg) (t:=29) (chR_lt p k m o_) (Qqu (y:=p.getD k 0/2^m) (k:=k) o_)).1
  have s5:=Qn8 (f:=chI p k m) hlt (chR p k m|||p.getD k 0/2^m%2*2^k)
  rw[chI_step,hC]at s5
  generalize hD:uF (chI p k (m+1)) n=D at s5
  generalize chR p k m=c at*
  rw[hx]at s1 s2 s3 s4 s5
  generalize x/2^m=x1 at*
  generalize x1%2=x2 at*
  generalize x2*2^k=x3 at*
  generalize c|||x3=x4 at*
  refine .inl ⟨(m+1,D),[0,1,2],[yes 44,pl 49,ld 50 (u6 (c:Nat)),va 53 (u6 (x1:Nat)),va 54 (u6 (x2:Nat)),va 56 (u6 (x3:Nat)),va 57 (u6 (x4:Nat)),pl 58,st D,nu 59 ((m+1:Nat):Int)],1000,⟨hlt,hD⟩,by dsimp only;omega,?_⟩
  have hDf:HfL D:=by rw[<-hD];exact Qat _ _
  clear hC hD hA hB hx
  refine m_ (p:=let z5:=An [Sm p.length,Sm (ut p)];let z0:=(m:Int);let z1:=Qac Try.prog;let z2:=(n:Int);let z3:=(↑(m+1):Int);let z4:=(k:Int);Bn [decide (z0<z2)=true,An [(0:Int)<=z0,z0<(p.length:Int)],headF (dropF (0+m*1) C)=some (u6 c),binV z1 BinOp.shr 29 (u6 x) (i6 m)=some (u6 x1),binV z1 BinOp.and 29 (u6 x1) (u6 1)=some (u6 x2),binV z1 BinOp.shl 29 (u6 x2) (i6 k)=some (u6 x3),binV z1 BinOp.or 29 (u6 c) (u6 x3)=some (u6 x4),An [(0:Int)<=z0,z0<(p.length:Int)],layE (0+m*1) C [u6 x4]=some D,wr .i64 (z0+1)=z3,Bn [z5,Zz,Zz,z5,z2=z2,z4=z4,z4=z4,Sm (x:Int),z2=z2,z3=z3],An [Sm [V.nils,V.nils],TT 2],An [D=D,HfL D],Bn [z5,An [Zz,Sm p.length,Sm (n-n)]]]) ?_
  (repeat'(first|(with_reducible apply And.intro)|(refine fun(_:True)=>?_)))<;>first|exact aq|skip
  all_goals first|exact s0|exact s1|exact s2|exact s3|exact s4|exact s5|skip
 ·obtain rfl : m = n := by omega
  rw[hB]at hC
  subst hC
  refine .inr ⟨.exit 2,[0,1,2],rd2 p x k m (m,B),[no 44],1000,.inl ⟨trivial,rfl,rfl⟩,?_⟩
  clear hA hB hx
  refine m_ (p:=let z2:=An [Sm p.length,Sm (ut p)];let z0:=(m:Int);let z1:=(k:Int);Bn [decide (z0<z0)=false,Bn [z2,Zz,Zz,z2,z0=z0,z1=z1,z1=z1,Sm (x:Int),z0=z0,z0=z0],An [Sm [V.nils,V.nils],TT 2],An [B=B,HfL B],Bn [z2,An [Zz,Sm p.length,Sm (m-m)]]]) ?_
  (repeat'(first|(with_reducible apply And.intro)|(refine fun(_:True)=>?_)))<;>first|exact aq|skip
  all_goals skip
abbrev rd1(p:List Nat)(n:Nat)(q:Nat×List V):SL:={sl:=[(0,ul p),(2,.ptr 0 0),(4,.ptr 2 0),(28,ul p),(29,i6 (n:Nat)),(30,i6 (q.1:Nat))],os:=rdO p n q.2,md:=[0,0,1]}
theorem Qtn(p:List Nat)(hl:p.length<=64)(h64:S64 p)(n:Nat)(hn:p.length=n)(hW: ∀k,k<n->p.getD k 0/2^n=0)(A B:List V)(hA:uF (chR p 0) n=A)(hB:uF (chR p n) n=B):
  Sat Pg none 0 (at' 61 [1,0,1,1,0,1,0]) (mkSt g0 95 (rd1 p n (0,A))) (Qad g0 95 [(True,.exit 0,rd1 p n (n,B))]):=by
 have hp:=Qaf p
 refine Qav vE_ok mixed Qab (b:=at' 61 [1,0,1,1,0,1,0,0]) k_ (fun q=>q.1<=n/\uF (chR p q.1) n=q.2) (rd1 p n) (fun q=>n-q.1) (fun q hq=>?_) (0,A) ⟨Nat.zero_le _,hA⟩
 obtain⟨k,C⟩:=q
 obtain⟨hk,hC⟩:=hq
 dsimp only at hk hC
 have hCf:HfL C:=by rw[<-hC];exact Qat _ _
 by_cases hlt:k<n
 ·have s0 := Qc1 (l := p) (k := k) o_
  have s1:=Qdd (G:=Qac Pg) (t:=29) (x:=p.getD k 0) (k:=n) o_
  rw[hW k hlt]at s1
  have hin:=read_in p hl h64 n k (p.getD k 0) hn hlt rfl C (uF (chR p (k+1)) n) (by rw[chI_zero];exact hC) (chI_end p k n)
  have hDf:=Qat (chR p (k+1)) n
  generalize hD:uF (chR p (k+1)) n=D at*
  generalize p.getD k 0=x at*
  refine .inl ⟨(k+1,D),[0,1,2],[yes 31,pl 33,ld 34 (u6 (x:Nat)),va 38 (u6 (0:Nat)),no 39,(0,.loop [0,1,2] (rd2 p x k n (0,C)) [(True,.exit 2,rd2 p x k n (n,D))]),nu 60 ((k+1:Nat):Int)],1000,⟨hlt,hD⟩,by dsimp only;omega,?_⟩
  clear hC hD hA hB
  refine m_ (p:=let z4:=An [Sm p.length,Sm (ut p)];let z5:=Bn [z4,An [Zz,Sm p.length,Sm (n-n)]];let z0:=(k:Int);let z1:=(n:Int);let z2:=[V.nils,V.nils];let z3:=(↑(k+1):Int);Bn [decide (z0<z1)=true,An [(0:Int)<=z0,z0<(p.length:Int)],headF (List.drop (k*1) (ut p))=some (u6 x),binV (Qac Try.prog) BinOp.shr 29 (u6 x) (i6 p.length)=some (u6 ↑(0:Nat)),(((0:Nat):Int) != 0)=false,Bn [Bn [z4,Zz,Zz,z4,z1=z1,z0=z0,z0=z0,Sm (x:Int),z1=(p.length:Int),((0:Nat):Int)=(0:Int)],An [z2=z2,TT 2],An [C=C,HfL C],z5],Sat Try.prog none 0 (at' 61 [1,0,1,1,0,1,0,0,1,1,0,0,1,1,1,0]) (mkSt g0 95 (rd2 p x k n (0,C))) (Qad g0 95 [(True,Ex.exit 2,rd2 p x k n (n,D))]),(True->Bn [wr .i64 (z0+1)=z3,Bn [z4,Zz,Zz,z4,z1=z1,z3=z3],An [z2=z2,TT 2],An [D=D,HfL D],z5])]) ?_
  (repeat'(first|(with_reducible apply And.intro)|(refine fun(_:True)=>?_)))<;>first|exact aq|skip
  all_goals first|exact s0|exact s1|exact hin|skip
 ·obtain rfl : k = n := by omega
  rw[hB]at hC
  subst hC
  refine .inr ⟨.exit 0,[0,1,2],rd1 p k (k,B),[no 31],1000,.inl ⟨trivial,rfl,rfl⟩,?_⟩
  clear hA hB
  refine m_ (p:=let z1:=An [Sm p.length,Sm (ut p)];let z0:=(k:Int);Bn [decide (z0<z0)=false,Bn [z1,Zz,Zz,z1,z0=z0,z0=z0],An [Sm [V.nils,V.nils],TT 2],An [B=B,HfL B],Bn [z1,An [Zz,Sm p.length,Sm (k-k)]]]) ?_
  (repeat'(first|(with_reducible apply And.intro)|(refine fun(_:True)=>?_)))<;>first|exact aq|skip
  all_goals skip
def okN(p:List Nat)(s k:Nat):Prop:=s.testBit k=false/\mi (p.getD k 0) s=0
abbrev rd4(p:List Nat)(n i s:Nat)(C:List V)(k:Nat):SL:={sl:=[(0,ul p),(2,.ptr 0 0),(4,.ptr 2 0),(8,u6 (s:Nat)),(64,i6 (n:Nat)),(65,i6 (i:Nat)),(69,ul p),(70,i6 (n:Nat)),(71,i6 (k:Nat))],os:=rdO p n C,md:=[0,0,1]}
abbrev rd3(p:List Nat)(n:Nat)(C:List V)(q:Nat×Nat):SL:={sl:=[(0,ul p),(2,.ptr 0 0),(4,.ptr 2 0),(8,u6 (q.2:Nat)),(64,i6 (n:Nat)),(65,i6 (q.1:Nat))],os:=rdO p n C,md:=[0,0,1]}
theorem Qtm(p:List Nat)(hl:p.length<=64)(h64:S64 p)(n i s:Nat)(hn:p.length=n)(hs:s<18446744073709551616)(C:List V)(hC:HfL C)(u:Nat)(hu:u<n)(hok:okN p s u)(hmin: ∀i,i<u->¬okN p s i):
  Sat Pg none 0 (at' 61 [1,0,1,1,1,1,1,0,1,0,0,1,1,0,0,0,1,0]) (mkSt g0 95 (rd4 p n i s C 0)) (Qad g0 95 [(True,.exit 5,rd3 p n C (i,s|||2^u))]):=by
 have hp:=Qaf p
 refine Qav vE_ok mixed Qab (b:=at' 61 [1,0,1,1,1,1,1,0,1,0,0,1,1,0,0,0,1,0,0]) k_ (fun q=>q<=u) (rd4 p n i s C) (fun q=>u-q) (fun k hk=>?_) 0 (Nat.zero_le _)
 have hlt:k<n:=by omega
 have s0:=Qc1 (l:=p) (k:=k) o_
 have s1:=Qdd (G:=Qac Pg) (t:=29) (x:=s) (k:=k) o_
 have s2:=Qcj (G:=Qac Pg) (t:=29) (x:=s/2^k)
 have s3:=mi_u (G:=Qac Pg) (t:=29) (h64.get k) hs
 obtain⟨s4,s5⟩:=Qdm (G:=Qac Pg) (t:=29) (k:=k) o_
 have s6:=(or_u (G:=Qac Pg) (t:=29) hs s5).1
 by_cases hku:k=u
 ·subst hku
  obtain⟨hb,hm⟩:=hok
  have hbe:s/2^k%2=0:=by rw[Qb2,hb];rfl
  rw[hm]at s3
  rw[hbe]at s2
  generalize s/2^k=x1 at*
  generalize 2^k=z at*
  generalize s|||z=s' at*
  generalize p.getD k 0=x at*
  refine .inr ⟨.exit 5,[0,1,2],rd3 p n C (i,s'),[yes 72,pl 74,ld 75 (u6 (x:Nat)),va 78 (u6 (x1:Nat)),va 79 (u6 (0:Nat)),yes 80,va 84 (u6 (0:Nat)),yes 85,va 89 (u6 (z:Nat)),va 90 (u6 (s':Nat))],1000,.inl ⟨trivial,rfl,rfl⟩,?_⟩
  clear hmin
  refine m_ (p:=let z5:=An [Sm p.length,Sm (ut p)];let z0:=Qac Try.prog;let z1:=(((0:Nat):Int)==0);let z2:=(k:Int);let z3:=(n:Int);let z4:=some (u6 ↑(0:Nat));Bn [decide (z2<z3)=true,An [(0:Int)<=z2,z2<(p.length:Int)],headF (List.drop (k*1) (ut p))=some (u6 x),binV z0 BinOp.shr 29 (u6 s) (i6 k)=some (u6 x1),binV z0 BinOp.and 29 (u6 x1) (u6 1)=z4,z1=true,binV z0 BinOp.andNot 29 (u6 x) (u6 s)=z4,z1=true,binV z0 BinOp.shl 29 (u6 1) (i6 k)=some (u6 z),binV z0 BinOp.or 29 (u6 s) (u6 z)=some (u6 s'),Bn [z5,Zz,Zz,Sm (s':Int),z3=z3,Sm (i:Int)],An [Sm [V.nils,V.nils],TT 2],An [C=C,HfL C],Bn [z5,An [Zz,Sm p.length,Sm (n-n)]]]) ?_
  (repeat'(first|(with_reducible apply And.intro)|(refine fun(_:True)=>?_)))<;>first|exact aq|skip
  all_goals first|exact s0|exact s1|exact s2|exact s3|exact s4|exact s6|skip
 ·have hno := hmin k o_
  cases hb:s.testBit k with
  |true=>
   have hbe:s/2^k%2=1:=by rw[Qb2,hb];rfl
   rw[hbe]at s2
   generalize s/2^k=x1 at*
   generalize p.getD k 0=x at*
   refine .inl ⟨k+1,[0,1,2],[yes 72,pl 74,ld 75 (u6 (x:Nat)),va 78 (u6 (x1:Nat)),va 79 (u6 (1:Nat)),no 80,nu 91 ((k+1:Nat):Int)],1000,by omega,by omega,?_⟩
   clear hmin hno
   refine m_ (p:=let z3:=An [Sm p.length,Sm (ut p)];let z0:=(n:Int);let z1:=(↑(k+1):Int);let z2:=(k:Int);Bn [decide (z2<z0)=true,An [(0:Int)<=z2,z2<(p.length:Int)],headF (List.drop (k*1) (ut p))=some (u6 x),binV (Qac Try.prog) BinOp.shr 29 (u6 s) (i6 k)=some (u6 x1),binV (Qac Try.prog) BinOp.and 29 (u6 x1) (u6 1)=some (u6 ↑(1:Nat)),(((1:Nat):Int)==0)=false,wr .i64 (z2+1)=z1,Bn [z3,Zz,Zz,Sm (s:Int),z0=z0,Sm (i:Int),z3,z0=z0,z1=z1],An [Sm [V.nils,V.nils],TT 2],An [C=C,HfL C],Bn [z3,An [Zz,Sm p.length,Sm (n-n)]]]) ?_
   (repeat'(first|(with_reducible apply And.intro)|(refine fun(_:True)=>?_)))<;>first|exact aq|skip
   all_goals first|exact s0|exact s1|exact s2|skip
  |false=>
   have hbe:s/2^k%2=0:=by rw[Qb2,hb];rfl
   have hm:mi (p.getD k 0) s≠0:=fun e=>hno ⟨hb,e⟩
   rw[hbe]at s2
   generalize s/2^k=x1 at*
   generalize mi (p.getD k 0) s=y at*
   generalize p.getD k 0=x at*
   refine .inl ⟨k+1,[0,1,2],[yes 72,pl 74,ld 75 (u6 (x:Nat)),va 78 (u6 (x1:Nat)),va 79 (u6 (0:Nat)),yes 80,va 84 (u6 (y:Nat)),no 85,nu 91 ((k+1:Nat):Int)],1000,by omega,by omega,?_⟩
   clear hmin hno
   refine m_ (p:=let z4:=An [Sm p.length,Sm (ut p)];let z0:=(n:Int);let z1:=(↑(k+1):Int);let z2:=(k:Int);let z3:=Qac Try.prog;Bn [decide (z2<z0)=true,An [(0:Int)<=z2,z2<(p.length:Int)],headF (List.drop (k*1) (ut p))=some (u6 x),binV z3 BinOp.shr 29 (u6 s) (i6 k)=some (u6 x1),binV z3 BinOp.and 29 (u6 x1) (u6 1)=some (u6 ↑(0:Nat)),(((0:Nat):Int)==0)=true,binV z3 BinOp.andNot 29 (u6 x) (u6 s)=some (u6 y),((y:Int)==0)=false,wr .i64 (z2+1)=z1,Bn [z4,Zz,Zz,Sm (s:Int),z0=z0,Sm (i:Int),z4,z0=z0,z1=z1],An [Sm [V.nils,V.nils],TT 2],An [C=C,HfL C],Bn [z4,An [Zz,Sm p.length,Sm (n-n)]]]) ?_
   (repeat'(first|(with_reducible apply And.intro)|(refine fun(_:True)=>?_)))<;>first|exact aq|skip
   all_goals first|exact s0|exact s1|exact s2|exact s3|(simp;omega)|skip
def Acy(p:List Nat):Prop:=∃rk:Nat->Nat,∀u,u<p.length->∀v,(p.getD u 0).testBit v=true->v<p.length/\rk v<rk u
theorem first_of{P:Nat->Prop}{n:Nat}(h: ∃k,k<n/\P k): ∃k,k<n/\P k/\∀i,i<k->¬P i:=by
 obtain⟨k,hk,hp⟩:=h
 induction k using Nat.strongRecOn with
 | ind k ih =>
  by_cases hb: ∃b,b<k/\P b
  ·obtain ⟨b, h1, h2⟩ := hb
   exact ih b h1 o_ h2
  ·exact⟨k,hk,hp,fun i hi hpi=>hb ⟨i,hi,hpi⟩⟩
theorem Qne{p:List Nat}(h:Acy p)(h64:S64 p){s:Nat}(hs:s<18446744073709551616)(hv: ∃v,v<p.length/\s.testBit v=false): ∃u,u<p.length/\okN p s u/\∀i,i<u->¬okN p s i:=by
 obtain⟨rk,hr⟩:=h
 refine first_of ?_
 obtain⟨v,hv,hb⟩:=hv
 generalize hm:rk v=m
 induction m using Nat.strongRecOn generalizing v with
 | ind m ih =>
  by_cases hok:mi (p.getD v 0) s=0
  ·exact⟨v,hv,hb,hok⟩
  ·obtain ⟨b, hbb⟩ : ∃ b, (mi (p.getD v 0) s).testBit b = true := by
    by_cases hx: ∃b,(mi (p.getD v 0) s).testBit b=true
    ·exact hx
    ·exact absurd (bits0 fun i=>by
      cases hi:(mi (p.getD v 0) s).testBit i with
      |false=>rfl
      |true=>exact absurd ⟨i,hi⟩ hx) hok
   rw[Qhd (h64.get v) hs]at hbb
   simp only[Bool.and_eq_true,Bool.not_eq_true']at hbb
   obtain⟨h1,h2⟩:=hr v hv b hbb.1
   exact ih (rk b) o_ b h1 hbb.2 rfl
theorem miss_of{l:List Nat}{n:Nat}(hn:l.Nodup)(hl:l.length<n)(hlt: ∀x∈l,x<n): ∃v,v<n/\v∉l:=by
 by_cases h: ∃v,v<n/\v∉l
 ·exact h
 ·have hp : (List.range n).Perm l := (List.perm_ext_iff_of_nodup List.nodup_range hn).2 fun a => ⟨fun ha => by
   by_cases hb:a∈l
   ·exact hb
   ·exact absurd ⟨a,List.mem_range.1 ha,hb⟩ h,fun ha=>List.mem_range.2 (hlt a ha)⟩
  have:=hp.length_eq
  rw[List.length_range]at this
  omega
def SetOf(l:List Nat)(s:Nat):Prop:=∀b,s.testBit b=decide (b∈l)
theorem SetOf.lt{l:List Nat}{s n:Nat}(h:SetOf l s)(hl: ∀x∈l,x<n):s<2^n:=by
 refine Nat.lt_pow_two_of_testBit s fun i hi=>?_
 rw[h i]
 exact decide_eq_false fun hm=>absurd (hl i hm) o_
theorem SetOf.put{l:List Nat}{s u:Nat}(h:SetOf l s):SetOf (l++[u]) (s|||2^u):=by
 intro b
 rw[Nat.testBit_or,h b,Nat.testBit_two_pow]
 by_cases e:u=b
 ·subst e;simp
 ·simp[e,Ne.symm e]
theorem Qpv(p:List Nat)(hl:p.length<=64)(h64:S64 p)(hac:Acy p)(n:Nat)(hn:p.length=n)(C:List V)(hC:HfL C):
  Sat Pg none 0 (at' 61 [1,0,1,1,1,1,1,0,1,0]) (mkSt g0 95 (rd3 p n C (0,0))) (Qad g0 95 [(True,.exit 4,{sl:=[(2,.ptr 0 0),(4,.ptr 2 0)],os:=rdO p n C,md:=[0,0,1]})]):=by
 have hp:=Qaf p
 refine Qav vE_ok mixed Qab (b:=at' 61 [1,0,1,1,1,1,1,0,1,0,0]) k_ (fun q=>q.1<=n/\∃l:List Nat,l.Nodup/\l.length=q.1/\(∀x∈l,x<n)/\SetOf l q.2) (rd3 p n C) (fun q=>n-q.1) (fun q hq=>?_) (0,0) ⟨Nat.zero_le _,[],List.nodup_nil,rfl,fun x hx=>(by cases hx),fun b=>by simp⟩
 obtain⟨i,s⟩:=q
 obtain⟨hi,l,h1,h2,h3,h4⟩:=hq
 dsimp only at hi h2 h4
 have hs2:s<2^n:=h4.lt h3
 have hs:s<18446744073709551616:=Nat.lt_of_lt_of_le hs2 (Nat.pow_le_pow_right (n:=2) d_ (show n<=64 by omega))
 by_cases hlt:i<n
 ·obtain ⟨v, hv, hvl⟩ := miss_of h1 o_ h3
  obtain⟨u,hu,hok,hmin⟩:=Qne hac h64 hs ⟨v,by omega,by rw[h4 v];exact decide_eq_false hvl⟩
  have hf:=Qtm p hl h64 n i s hn hs C hC u o_ hok hmin
  have hul:u∉l:=fun hm=>by
   have:=hok.1
   rw[h4 u,decide_eq_true hm]at this
   cases this
  have jg:(fun q:Nat×Nat=>q.1<=n/\∃l:List Nat,l.Nodup/\l.length=q.1/\(∀x∈l,x<n)/\SetOf l q.2) (i+1,s|||2^u):=by
   refine⟨hlt,l++[u],?_,by simp;omega,fun x hx=>?_,h4.put⟩
   ·rw [List.nodup_append]
    exact⟨h1,by simp,fun a ha b hb e=>by
     obtain rfl:=List.mem_singleton.1 hb
     exact hul (e▸ha)⟩
   ·rcases List.mem_append.1 hx with hx | hx
    ·exact h3 x hx
    ·obtain rfl:=List.mem_singleton.1 hx;omega
  generalize s|||2^u=s' at*
  refine .inl ⟨(i+1,s'),[0,1,2],[yes 66,(0,.loop [0,1,2] (rd4 p n i s C 0) [(True,.exit 5,rd3 p n C (i,s'))]),nu 93 ((i+1:Nat):Int)],1000,jg,by dsimp only;omega,?_⟩
  clear jg hmin hok hul
  refine m_ (p:=let z4:=An [Sm p.length,Sm (ut p)];let z5:=Bn [z4,An [Zz,Sm p.length,Sm (n-n)]];let z0:=(n:Int);let z1:=[V.nils,V.nils];let z2:=(↑(i+1):Int);let z3:=(i:Int);Bn [decide (z3<z0)=true,Bn [Bn [z4,Zz,Zz,Sm (s:Int),z0=z0,z3=z3,z4,z0=(p.length:Int),((0:Nat):Int)=(0:Int)],An [z1=z1,TT 2],An [C=C,HfL C],z5],Sat Try.prog none 0 (at' 61 [1,0,1,1,1,1,1,0,1,0,0,1,1,0,0,0,1,0]) (mkSt g0 95 (rd4 p n i s C 0)) (Qad g0 95 [(True,Ex.exit 5,rd3 p n C (i,s'))]),(True->Bn [wr .i64 (z3+1)=z2,Bn [z4,Zz,Zz,Sm (s':Int),z0=z0,z2=z2],An [z1=z1,TT 2],An [C=C,HfL C],z5])]) ?_
  (repeat'(first|(with_reducible apply And.intro)|(refine fun(_:True)=>?_)))<;>first|exact aq|skip
  all_goals first|exact hf|skip
 ·obtain rfl : i = n := by omega
  refine .inr ⟨.exit 4,[0,1,2],{sl:=[(2,.ptr 0 0),(4,.ptr 2 0)],os:=rdO p i C,md:=[0,0,1]},[no 66],1000,.inl ⟨trivial,rfl,rfl⟩,?_⟩
  clear h1 h2 h3 h4
  refine m_ (p:=Bn [decide ((i:Int)<(i:Int))=false,Bn [Zz,Zz],An [Sm [V.nils,V.nils],TT 2],An [C=C,HfL C],Bn [An [Sm p.length,Sm (ut p)],An [Zz,Sm p.length,Sm (i-i)]]]) ?_
  (repeat'(first|(with_reducible apply And.intro)|(refine fun(_:True)=>?_)))<;>first|exact aq|skip
  all_goals skip
theorem Qec(n:Nat){p:List Nat}:uF (chR p 0) n=rep n [u6 0]:=by
 apply List.ext_getElem?
 intro i
 unfold uF
 rw[List.getElem?_map]
 by_cases hi:i<n
 ·rw[List.getElem?_range hi,Qmq n [u6 0] i (by simpa using hi),List.length_singleton,Nat.mod_one];rfl
 ·rw[List.getElem?_eq_none (by simp;omega),List.getElem?_eq_none (by rw[Qd4];simp;omega)];rfl
theorem read_fn(p:List Nat)(hl:p.length<=8)(hl1:1<=p.length)(h64:S64 p)(hac:Acy p)(hW: ∀k,k<p.length->p.getD k 0/2^p.length=0):FnOk Pg g0 61 [ul p] (.tup [.agg [ul p,.im p.length (uF (chR p p.length) p.length)],i6 0]):=by
 have hp:=Qaf p
 have hA:uF (chR p 0) p.length=rep p.length [u6 0]:=Qec p.length
 have h1:=Qtn p o_ h64 p.length rfl hW _ _ rfl rfl
 rw[hA]at h1
 have hCf:=Qat (chR p p.length) p.length
 have hRf:HfL (rep p.length [u6 0]):=by rw[<-Qec (p:=p)];exact Qat _ _
 generalize uF (chR p p.length) p.length=C at*
 have h2:=Qpv p o_ h64 hac p.length rfl C hCf
 have hn8:(p.length:Int)<=8:=by omega
 generalize hn:p.length=n at*
 refine FnOk.of_vc vE_ok mixed Qab (n:=1000) (r:=[0]) (S:={sl:=[(2,.ptr 0 0),(3,i6 0)],os:=[.row 133 none [ul p,.im n C]],md:=[1]}) (hs:=[no 13,no 17,mk 24,(0,.loop [0,1,2] (rd1 p n (0,rep n [u6 0])) [(True,.exit 0,rd1 p n (n,C))]),(0,.loop [0,1,2] (rd3 p n C (0,0)) [(True,.exit 4,{sl:=[(2,.ptr 0 0),(4,.ptr 2 0)],os:=rdO p n C,md:=[0,0,1]})])]) ?_
 refine m_ (p:=let z6:=An [Sm p.length,Sm (ut p)];let z0:=(p.length:Int);let z1:=[V.nils,V.nils];let z2:=((0:Nat):Int);let z3:=(0:Int);let z4:=V.tup [V.agg [ul p,V.im n C],i6 0];let z5:=rep n [u6 0];Bn [z4=z4,decide (z0<1)=false,decide (z0>8)=false,An [z3<=z0,z0<=z0,((8:Nat):Int)*z0<=281474976710656,z0<=9223372036854775807],Bn [Bn [z6,Zz,Zz,z6,(n:Int)=z0,z2=z3],An [z1=z1,TT 2],An [z5=rep p.length [u6 0],HfL z5],Bn [z6,An [Zz,Sm p.length,n-n=p.length-p.length]]],Sat Try.prog none 0 (at' 61 [1,0,1,1,0,1,0]) (mkSt g0 95 (rd1 p n (0,z5))) (Qad g0 95 [(True,Ex.exit 0,rd1 p n (n,C))]),(True->Bn [Bn [Bn [z6,Zz,Zz,z2=z3,(n:Int)=z0,z2=z3],An [z1=z1,TT 2],An [C=C,HfL C],Bn [z6,An [Zz,Sm p.length,Sm (n-n)]]],Sat Try.prog none 0 (at' 61 [1,0,1,1,1,1,1,0,1,0]) (mkSt g0 95 (rd3 p n C (0,0))) (Qad g0 95 [(True,Ex.exit 4,SL.mk [(2,V.ptr 0 0),(4,V.ptr 2 0)] (rdO p n C) [] [0,0,1])]),(True->Bn [Bn [Zz,z3=z3],Bn [z6,An [n=p.length,C=C,HfL C]]])])]) ?_
 (repeat'(first|(with_reducible apply And.intro)|(refine fun(_:True)=>?_)))<;>first|exact aq|skip
 all_goals first|exact h1|exact h2|skip
structure GrOk(p j:List Nat):Prop where
 l1:1<=p.length
 l5:p.length<=5
 p64:S64 p
 acy:Acy p
 pw: ∀k,k<p.length->p.getD k 0/2^p.length=0
 jl:j.length=p.length
 j64:S64 j
 jw: ∀k,k<p.length->j.getD k 0/2^p.length=0
 jk: ∀k,k<p.length->(j.getD k 0).testBit k=false
 js: ∀k m,k<p.length->m<p.length->(j.getD k 0).testBit m=(j.getD m 0).testBit k
theorem Qts(p:List Nat)(hl:p.length<=8)(hl1:1<=p.length)(h64:S64 p)(hac:Acy p)(hW: ∀k,k<p.length->p.getD k 0/2^p.length=0):FnOk Pg g0 34 [ul p] (i6 0):=by
 have hp:=Qaf p
 have h1:=read_fn p hl hl1 h64 hac hW
 have hCf:=Qat (chR p p.length) p.length
 generalize uF (chR p p.length) p.length=C at*
 refine FnOk.of_vc vE_ok mixed Qab (n:=1000) (r:=[]) (S:={sl:=[(2,i6 0)]}) (hs:=[fn 7 (.tup [.agg [ul p,.im p.length C],i6 0])]) ?_
 refine m_ (p:=Bn [Sm (i6 0),Bn [Tt],FnOk Try.prog g0 61 [V.im p.length (ut p)] (V.tup [V.agg [ul p,V.im p.length C],i6 0]),Tt,Bn [Sm (0:Int)]]) ?_
 (repeat'(first|(with_reducible apply And.intro)|(refine fun(_:True)=>?_)))<;>first|exact aq|skip
 all_goals first|exact h1|skip
abbrev ck2(j:List Nat)(n k x m:Nat):SL:={sl:=[(1,ul j),(5,i6 (n:Nat)),(25,ul j),(26,i6 (n:Nat)),(27,i6 (k:Nat)),(6,i6 (k:Nat)),(7,u6 (x:Nat)),(43,ul j),(44,i6 (n:Nat)),(45,i6 (m:Nat))]}
abbrev ck1(j:List Nat)(n k:Nat):SL:={sl:=[(1,ul j),(5,i6 (n:Nat)),(25,ul j),(26,i6 (n:Nat)),(27,i6 (k:Nat))]}
theorem check_in(p j:List Nat)(h:GrOk p j)(n k x:Nat)(hn:j.length=n)(hk:k<n)(hx:j.getD k 0=x):
  Sat Pg none 0 (at' 15 [1,1,1,0,1,0,0,1,1,0,0,1,1,1,0]) (mkSt g0 61 (ck2 j n k x 0)) (Qad g0 61 [(True,.exit 2,ck2 j n k x n)]):=by
 have hj:=Qaf j
 have hjl:=h.jl
 have h5:=h.l5
 refine Qav vE_ok mixed Qab (b:=at' 15 [1,1,1,0,1,0,0,1,1,0,0,1,1,1,0,0]) k_ (fun m=>m<=n) (ck2 j n k x) (fun m=>n-m) (fun m hm=>?_) 0 (Nat.zero_le _)
 by_cases hlt:m<n
 ·have s0 := Qc1 (l := j) (k := m) o_
  have s1:=Qdd (G:=Qac Pg) (t:=29) (x:=x) (k:=m) o_
  have s2:=Qcj (G:=Qac Pg) (t:=29) (x:=x/2^m)
  have s3:=Qdd (G:=Qac Pg) (t:=29) (x:=j.getD m 0) (k:=k) o_
  have s4:=Qcj (G:=Qac Pg) (t:=29) (x:=j.getD m 0/2^k)
  have e:x/2^m%2=j.getD m 0/2^k%2:=by
   have:=h.js k m o_ o_
   rw[hx]at this
   rw[Qb2,Qb2,this]
  rw[<-e]at s4
  generalize j.getD m 0=y at*
  generalize y/2^k=y1 at*
  generalize x/2^m=x1 at*
  generalize x1%2=x2 at*
  refine .inl ⟨m+1,[],[yes 46,pl 48,ld 49 (u6 (y:Nat)),va 52 (u6 (x1:Nat)),va 53 (u6 (x2:Nat)),va 56 (u6 (y1:Nat)),va 57 (u6 (x2:Nat)),no 58,nu 59 ((m+1:Nat):Int)],1000,by omega,by omega,?_⟩
  clear e h
  refine m_ (p:=let z5:=An [Sm j.length,Sm (ut j)];let z0:=(n:Int);let z1:=Qac Try.prog;let z2:=(↑(m+1):Int);let z3:=(m:Int);let z4:=(k:Int);Bn [decide (z3<z0)=true,An [(0:Int)<=z3,z3<(j.length:Int)],headF (List.drop (m*1) (ut j))=some (u6 y),binV z1 BinOp.shr 29 (u6 x) (i6 m)=some (u6 x1),binV z1 BinOp.and 29 (u6 x1) (u6 1)=some (u6 x2),binV z1 BinOp.shr 29 (u6 y) (i6 k)=some (u6 y1),binV z1 BinOp.and 29 (u6 y1) (u6 1)=some (u6 x2),((x2:Int) != (x2:Int))=false,wr .i64 (z3+1)=z2,Bn [z5,z0=z0,z5,z0=z0,z4=z4,z4=z4,Sm (x:Int),z5,z0=z0,z2=z2]]) ?_
  (repeat'(first|(with_reducible apply And.intro)|(refine fun(_:True)=>?_)))<;>first|exact aq|skip
  all_goals first|exact s0|exact s1|exact s2|exact s3|exact s4|skip
 ·obtain rfl : m = n := by omega
  refine .inr ⟨.exit 2,[],ck2 j m k x m,[no 46],1000,.inl ⟨trivial,rfl,rfl⟩,?_⟩
  clear h
  refine m_ (p:=let z2:=An [Sm j.length,Sm (ut j)];let z0:=(m:Int);let z1:=(k:Int);Bn [decide (z0<z0)=false,Bn [z2,z0=z0,z2,z0=z0,z1=z1,z1=z1,Sm (x:Int),z2,z0=z0,z0=z0]]) ?_
  (repeat'(first|(with_reducible apply And.intro)|(refine fun(_:True)=>?_)))<;>first|exact aq|skip
  all_goals skip
theorem Qqz(p j:List Nat)(h:GrOk p j)(n:Nat)(hn:j.length=n):
  Sat Pg none 0 (at' 15 [1,1,1,0,1,0]) (mkSt g0 61 (ck1 j n 0)) (Qad g0 61 [(True,.exit 0,ck1 j n n)]):=by
 have hj:=Qaf j
 have hjl:=h.jl
 have h5:=h.l5
 refine Qav vE_ok mixed Qab (b:=at' 15 [1,1,1,0,1,0,0]) k_ (fun k=>k<=n) (ck1 j n) (fun k=>n-k) (fun k hk=>?_) 0 (Nat.zero_le _)
 by_cases hlt:k<n
 ·have s0 := Qc1 (l := j) (k := k) o_
  have s1:=Qdd (G:=Qac Pg) (t:=29) (x:=j.getD k 0) (k:=n) o_
  have hw:=h.jw k o_
  rw[<-hjl,hn]at hw
  rw[hw]at s1
  have s2:=Qdd (G:=Qac Pg) (t:=29) (x:=j.getD k 0) (k:=k) o_
  have s3:=Qcj (G:=Qac Pg) (t:=29) (x:=j.getD k 0/2^k)
  have hb:=h.jk k o_
  have hbe:j.getD k 0/2^k%2=0:=by rw[Qb2,hb];rfl
  rw[hbe]at s3
  have hin:=check_in p j h n k (j.getD k 0) hn hlt rfl
  generalize j.getD k 0=x at*
  generalize x/2^k=x1 at*
  refine .inl ⟨k+1,[],[yes 28,pl 30,ld 31 (u6 (x:Nat)),va 34 (u6 (0:Nat)),va 39 (u6 (x1:Nat)),va 40 (u6 (0:Nat)),(0,.loop [] (ck2 j n k x 0) [(True,.exit 2,ck2 j n k x n)]),nu 60 ((k+1:Nat):Int)],1000,by omega,by omega,?_⟩
  clear hw hb hbe h
  refine m_ (p:=let z5:=An [Sm j.length,Sm (ut j)];let z0:=(n:Int);let z1:=(k:Int);let z2:=(↑(k+1):Int);let z3:=Qac Try.prog;let z4:=some (u6 ↑(0:Nat));Bn [decide (z1<z0)=true,An [(0:Int)<=z1,z1<(j.length:Int)],headF (List.drop (k*1) (ut j))=some (u6 x),binV z3 BinOp.shr 29 (u6 x) (i6 n)=z4,binV z3 BinOp.shr 29 (u6 x) (i6 k)=some (u6 x1),binV z3 BinOp.and 29 (u6 x1) (u6 1)=z4,Bn [Bn [z5,z0=z0,z5,z0=z0,z1=z1,z1=z1,Sm (x:Int),z5,z0=(j.length:Int),((0:Nat):Int)=(0:Int)]],Sat Try.prog none 0 (at' 15 [1,1,1,0,1,0,0,1,1,0,0,1,1,1,0]) (mkSt g0 61 (ck2 j n k x 0)) (Qad g0 61 [(True,Ex.exit 2,ck2 j n k x n)]),(True->Bn [wr .i64 (z1+1)=z2,Bn [z5,z0=z0,z5,z0=z0,z2=z2]])]) ?_
  (repeat'(first|(with_reducible apply And.intro)|(refine fun(_:True)=>?_)))<;>first|exact aq|skip
  all_goals first|exact s0|exact s1|exact s2|exact s3|exact hin|skip
 ·obtain rfl : k = n := by omega
  refine .inr ⟨.exit 0,[],ck1 j k k,[no 28],1000,.inl ⟨trivial,rfl,rfl⟩,?_⟩
  clear h
  refine m_ (p:=let z1:=An [Sm j.length,Sm (ut j)];let z0:=(k:Int);Bn [decide (z0<z0)=false,Bn [z1,z0=z0,z1,z0=z0,z0=z0]]) ?_
  (repeat'(first|(with_reducible apply And.intro)|(refine fun(_:True)=>?_)))<;>first|exact aq|skip
  all_goals skip
theorem Qnm(p j:List Nat)(h:GrOk p j):FnOk Pg g0 15 [ul p,ul j] (i6 0):=by
 have hp:=Qaf p
 have hj:=Qaf j
 have h5:=h.l5
 have hjl:=h.jl
 have h1:=Qts p o_ h.l1 h.p64 h.acy h.pw
 have h2:=Qqz p j h j.length rfl
 generalize hn:p.length=n at*
 rw[hjl]at h2
 show FnOk Pg g0 15 [.im p.length (ut p),.im j.length (ut j)] (i6 0)
 have h1':FnOk Pg g0 34 [.im n (ut p)] (i6 0):=by rw[<-hn];exact h1
 have h2':Sat Pg none 0 (at' 15 [1,1,1,0,1,0]) (mkSt g0 61 {sl:=[(1,.im n (ut j)),(5,i6 (n:Nat)),(25,.im n (ut j)),(26,i6 (n:Nat)),(27,i6 (0:Nat))]}) (Qad g0 61 [(True,.exit 0,{sl:=[(1,.im n (ut j)),(5,i6 (n:Nat)),(25,.im n (ut j)),(26,i6 (n:Nat)),(27,i6 (n:Nat))]})]):=by
  rw[<-hjl];rw[<-hjl]at h2;exact h2
 rw[hn,hjl]
 clear h hn hjl
 refine FnOk.of_vc vE_ok mixed Qab (n:=1000) (r:=[]) (S:={sl:=[(4,i6 0)]}) (hs:=[no 13,fn 16 (i6 0),no 23,(0,.loop [] {sl:=[(1,.im n (ut j)),(5,i6 (n:Nat)),(25,.im n (ut j)),(26,i6 (n:Nat)),(27,i6 (0:Nat))]} [(True,.exit 0,{sl:=[(1,.im n (ut j)),(5,i6 (n:Nat)),(25,.im n (ut j)),(26,i6 (n:Nat)),(27,i6 (n:Nat))]})])]) ?_
 refine m_ (p:=let z0:=(n:Int);let z1:=V.im n (ut j);Bn [Sm (i6 0),decide (z0>5)=false,Bn [Tt],FnOk Try.prog g0 34 [V.im n (ut p)] (i6 0),Tt,(z0 != z0)=false,Bn [Bn [An [n=n,Sm (ut j)],z0=z0,An [n=n,Sm (ut j)],z0=z0,((0:Nat):Int)=(0:Int)]],Sat Try.prog none 0 (at' 15 [1,1,1,0,1,0]) (mkSt g0 61 (SL.mk [(1,z1),(5,i6 n),(25,z1),(26,i6 n),(27,i6 ↑(0:Nat))] [] [] [])) (Qad g0 61 [(True,Ex.exit 0,SL.mk [(1,z1),(5,i6 n),(25,z1),(26,i6 n),(27,i6 n)] [] [] [])]),(True->Bn [Bn [Sm (0:Int)]])]) ?_
 (repeat'(first|(with_reducible apply And.intro)|(refine fun(_:True)=>?_)))<;>first|exact aq|skip
 all_goals first|exact h1'|exact h2'|skip
theorem Qql{n:Nat}(h:n<64):alN n<18446744073709551616:=by
 have:=Nat.pow_le_pow_right (n:=2) d_ (show n<=63 by omega)
 unfold alN;omega
structure Qkh(n xs ys:Nat):Prop where
 x:mi xs (alN n)=0
 y:mi ys (alN n)=0
 d:xs&&& ys=0
 n0:ys≠0
 x64:xs<18446744073709551616
 y64:ys<18446744073709551616
theorem Qi7(p j:List Nat)(h:GrOk p j)(xs ys:Nat)(hq:Qkh p.length xs ys):FnOk Pg g0 35 [ul p,ul j,u6 (xs:Nat),u6 (ys:Nat)] (i6 (0:Nat)):=by
 have hp:=Qaf p
 have hj:=Qaf j
 have h5:=h.l5
 have h1:=Qnm p j h
 have h2:=Qqm p j o_
 have s1:=mi_u (G:=Qac Pg) (t:=29) (x:=xs) (y:=alN p.length) hq.x64 (Qql o_)
 have s2:=mi_u (G:=Qac Pg) (t:=29) (x:=ys) (y:=alN p.length) hq.y64 (Qql o_)
 have s3:=Qls (G:=Qac Pg) (t:=29) hq.x64 hq.y64
 rw[hq.x]at s1
 rw[hq.y]at s2
 rw[hq.d]at s3
 have hn0:=hq.n0
 generalize alN p.length=al at*
 refine FnOk.of_vc vE_ok mixed Qab (n:=1000) (r:=[]) (S:={sl:=[(8,i6 (0:Nat))]}) (hs:=[fn 12 (i6 0),fn 17 (u6 (al:Nat)),va 20 (u6 (0:Nat)),va 25 (u6 (0:Nat)),va 31 (u6 (0:Nat)),no 36]) ?_
 clear hq h
 refine m_ (p:=let z0:=[V.im p.length (ut p),V.im j.length (ut j)];let z2:=Qac Try.prog;let z3:=(0:Nat);let z1:=some (u6 z3);Bn [Sm (i6 z3),TT 2,FnOk Try.prog g0 15 z0 (i6 0),Tt,Bn [TT 2],FnOk Try.prog g0 62 [V.agg z0] (u6 al),Tt,binV z2 BinOp.andNot 29 (u6 xs) (u6 al)=z1,binV z2 BinOp.andNot 29 (u6 ys) (u6 al)=z1,binV z2 BinOp.and 29 (u6 xs) (u6 ys)=z1,((ys:Int)==0)=false,Bn [(z3:Int)=(0:Int)]]) ?_
 (repeat'(first|(with_reducible apply And.intro)|(refine fun(_:True)=>?_)))<;>first|exact aq|skip
 all_goals first|exact h1|exact h2|exact s1|exact s2|exact s3|(simp;omega)|skip
set_option maxHeartbeats 4000000
abbrev w8(n:Int):V:=.int .u8 n
def bt(l:List Nat):List V:=l.map fun(x:Nat)=>w8 (x:Int)
abbrev bl(l:List Nat):V:=.im l.length (bt l)
abbrev dfO(P Q:List Nat):O:=.row 44 none [bl P,bl Q]
end Go.Proofs.Ythjjgipcoeiapaa.Am
namespace Go.Proofs.Ythjjgipcoeiapaa.Am
open Go.RowKit
def Sub(a b:Nat):Prop:=∀i,a.testBit i=true->b.testBit i=true
theorem Qmf{x y:Nat}(hx:x<18446744073709551616)(hy:y<18446744073709551616):mi x y=0↔Sub x y:=by
 constructor
 ·intro h i hi
  have:=Qhd hx hy i
  rw[h,hi,Nat.zero_testBit]at this
  cases hyi:y.testBit i with
  |true=>rfl
  |false=>rw[hyi]at this;cases this
 ·intro h
  refine bits0 fun i=>?_
  rw[Qhd hx hy i]
  cases hi:x.testBit i with
  |false=>rfl
  |true=>rw[h i hi];rfl
theorem Qqk(n i:Nat):(alN n).testBit i=decide (i<n):=Nat.testBit_two_pow_sub_one n i
theorem bit_lt64{s v:Nat}(hs:s<18446744073709551616)(h:s.testBit v=true):v<64:=by
 refine Nat.lt_of_not_le fun hle=>?_
 rw[Nat.testBit_lt_two_pow (Nat.lt_of_lt_of_le (show s<2^64 from hs) (Nat.pow_le_pow_right d_ hle))]at h
 cases h
theorem Qtl{j:List Nat}{s:Nat}(hs:s<18446744073709551616): ∀k,Sub (reF j s k) s
 |0,i,h=>h
 |k+1,i,h=>by
  have hr:=Qiu (j:=j) hs k
  have e2:reF j s (k+1)=mi (reF j s k) (dkF j s k):=rfl
  rw[e2,Qhd hr (Qep hs k)]at h
  simp only[Bool.and_eq_true]at h
  exact Qtl hs k i h.1
section
variable {p j:List Nat} (g:GrOk p j)
include g
theorem al64:alN p.length<18446744073709551616:=Qql (by have:=g.l5;omega)
variable {B c k0:Nat} (hB:Sub B (alN p.length)) (hk0:k0<rn j B) (hc:c=dkF j B k0)
include hB hk0 hc
end
theorem Qjo{ks:List Nat}{n:Nat}(hn:ks.Nodup)(hk: ∀k∈ks,k<n):ks.length<=n:=by
 have hp:((List.range n).filter (fun j=>decide (j∈ks))).Perm ks:=by
  refine(List.perm_ext_iff_of_nodup (List.Nodup.sublist List.filter_sublist List.nodup_range) hn).2 fun a=>?_
  simp only[List.mem_filter,List.mem_range,decide_eq_true_eq]
  exact⟨fun h=>h.2,fun h=>⟨hk a h,h⟩⟩
 rw[<-hp.length_eq]
 calc _<=(List.range n).length:=List.length_filter_le _ _
  _=n:=List.length_range
theorem rn_le{j:List Nat}{s m:Nat}(hs:s<18446744073709551616)(hm: ∀i,s.testBit i=true->i<m):rn j s<=m:=by
 have key: ∀k,k<=rn j s->∃l:List Nat,l.Nodup/\l.length=k/\∀x∈l,s.testBit x=true/\(reF j s k).testBit x=false:=by
  intro k
  induction k with
  |zero=>intro _;exact⟨[],List.nodup_nil,rfl,fun x hx=>by cases hx⟩
  |succ k ih=>
   intro hk
   obtain⟨l,h1,h2,h3⟩:=ih o_
   have h0:=(Qpw (j:=j) hs).2 k o_
   have hr:=Qiu (j:=j) hs k
   obtain⟨v,h64,hv,hvl,_⟩:=Qsr h0 hr
   have hd:(dkF j s k).testBit v=true:=Qq1 (by rw[hvl];exact Nat.testBit_two_pow_self)
   have e2:reF j s (k+1)=mi (reF j s k) (dkF j s k):=rfl
   refine⟨v::l,List.nodup_cons.2 ⟨fun hm=>(by rw[(h3 v hm).2]at hv;cases hv),h1⟩,by simp[h2],fun x hx=>?_⟩
   rw[e2,Qhd hr (Qep hs k)]
   rcases List.mem_cons.1 hx with rfl|hx
   ·exact⟨Qtl hs k x hv,by rw[hd];simp⟩
   ·exact⟨(h3 x hx).1,by rw[(h3 x hx).2];rfl⟩
 obtain⟨l,h1,h2,h3⟩:=key _ (Nat.le_refl _)
 rw[<-h2]
 exact Qjo h1 fun x hx=>hm x (h3 x hx).1
section
variable {p j:List Nat} (g:GrOk p j)
include g
theorem rn_few: ∀s,s<18446744073709551616->(rn j s+1)*rn j (alN p.length)<=1000:=by
 intro s hs
 have h1:rn j s<=64:=rn_le hs fun i hi=>bit_lt64 hs hi
 have h2:rn j (alN p.length)<=p.length:=rn_le (al64 g) fun i hi=>by rw[Qqk]at hi;exact of_decide_eq_true hi
 have h5:=g.l5
 have:=Nat.mul_le_mul (show rn j s+1<=65 by omega) (show rn j (alN p.length)<=5 by omega)
 omega
def SoOk(n:Nat)(x:Nat×List Nat):Prop:=x.2.Nodup/\(∀y∈x.2,y<n)/\SetOf x.2 x.1
theorem Qt0{x:Nat×List Nat}(hx:SoOk p.length x): ∀k,k<=p.length->SoOk p.length (soP p k x)/\x.2.length<=(soP p k x).2.length/\Sub x.1 (soP p k x).1/\(∀i,k<=i->(soP p k x).1.testBit i=x.1.testBit i)
 |0,_=>⟨hx,Nat.le_refl _,fun i h=>h,fun i _=>rfl⟩
 | k + 1, hk => by
  obtain⟨⟨h1,h2,h3⟩,h4,h5,h6⟩:=Qt0 hx k o_
  unfold soP
  split
  ·rename_i hc
   refine⟨⟨?_,fun z hz=>?_,h3.put⟩,by simp;omega,fun i hi=>by rw[Nat.testBit_or,h5 i hi];rfl,fun i hi=>?_⟩
   ·dsimp only
    rw[List.nodup_append]
    refine⟨h1,by simp,fun a ha b hb e=>?_⟩
    obtain rfl:=List.mem_singleton.1 hb
    subst e
    exact hc.1 (by rw[h3 a];exact decide_eq_true ha)
   ·rcases List.mem_append.1 hz with hz | hz
    ·exact h2 z hz
    ·obtain rfl:=List.mem_singleton.1 hz;omega
   ·dsimp only
    rw[Nat.testBit_or,Nat.testBit_two_pow,decide_eq_false o_,Bool.or_false]
    exact h6 i o_
  ·exact⟨⟨h1,h2,h3⟩,h4,h5,fun i hi=>h6 i o_⟩
theorem Qj5{x:Nat×List Nat}(hx:SoOk p.length x):x.1<18446744073709551616:=by
 have:=hx.2.2.lt hx.2.1
 have h5:=g.l5
 have:2^p.length<=2^5:=Nat.pow_le_pow_right d_ h5
 omega
theorem Qov{x:Nat×List Nat}(hx:SoOk p.length x){u:Nat}(hu:u<p.length)(hok:okN p x.1 u): ∀k,u<k->k<=p.length->x.2.length<(soP p k x).2.length
 |0,h,_=>absurd h (Nat.not_lt_zero _)
 | k + 1, h, hk => by
  obtain⟨⟨h1,h2,h3⟩,h4,h5,h6⟩:=Qt0 g hx k o_
  by_cases huk:u=k
  ·subst huk
   have hc: ¬(soP p u x).1.testBit u=true/\mi (p.getD u 0) (soP p u x).1=0:=by
    refine⟨by rw[h6 u (Nat.le_refl _),hok.1];simp,?_⟩
    have h64:=g.p64.get u
    rw[Qmf h64 (Qj5 g ⟨h1,h2,h3⟩)]
    exact fun i hi=>h5 i ((Qmf h64 (Qj5 g hx)).1 hok.2 i hi)
   unfold soP
   rw[if_pos hc]
   simp;omega
  ·have ih := Qov hx hu hok k o_ o_
   unfold soP
   split
   ·simp;omega
   ·exact ih
theorem soW_some: ∀(f:Nat)(x:Nat×List Nat),SoOk p.length x->p.length-x.2.length<=f->∃y,soW p f x=some y/\SoOk p.length y:=by
 intro f
 have full: ∀x:Nat×List Nat,SoOk p.length x->x.1≠alN p.length->∃v,v<p.length/\x.1.testBit v=false:=by
  intro x hx hne
  by_cases h: ∃v,v<p.length/\x.1.testBit v=false
  ·exact h
  ·refine absurd (Nat.eq_of_testBit_eq fun i => ?_) hne
   rw[Qqk]
   by_cases hi:i<p.length
   ·rw [decide_eq_true hi]
    cases hb:x.1.testBit i with
    |true=>rfl
    |false=>exact absurd ⟨i,hi,hb⟩ h
   ·rw [decide_eq_false hi, hx.2.2 i]
    exact decide_eq_false fun hm=>hi (hx.2.1 i hm)
 induction f with
 | zero =>
  intro x hx jr
  by_cases he:x.1=alN p.length
  ·exact⟨x,by rw[soW,if_pos he],hx⟩
  ·obtain ⟨v, hv, hb⟩ := full x hx he
   rw[hx.2.2 v]at hb
   have:=Qjo (ks:=v::x.2) (n:=p.length) (List.nodup_cons.2 ⟨of_decide_eq_false hb,hx.1⟩) (fun z hz=>by
    rcases List.mem_cons.1 hz with rfl|hz
    ·exact hv
    ·exact hx.2.1 z hz)
   simp at this
   omega
 | succ f ih =>
  intro x hx jr
  by_cases he:x.1=alN p.length
  ·exact⟨x,by rw[soW,if_pos he],hx⟩
  ·obtain ⟨v, hv, hb⟩ := full x hx he
   obtain⟨u,hu,hok,_⟩:=Qne g.acy g.p64 (Qj5 g hx) ⟨v,hv,hb⟩
   have h1:=Qov g hx hu hok p.length hu (Nat.le_refl _)
   obtain⟨y,hy,hyo⟩:=ih (soP p p.length x) (Qt0 g hx p.length (Nat.le_refl _)).1 o_
   exact⟨y,by rw[soW,if_neg he];exact hy,hyo⟩
theorem order_ok: ∃y,soW p 5 (0,[])=some y/\SoOk p.length y:=
 soW_some g 5 (0,[]) ⟨List.nodup_nil,fun y hy=>(by cases hy),fun b=>(by simp)⟩ (by have:=g.l5;simp only[List.length_nil];omega)
end
def askB(p:List Nat)(xs ys:Nat):Nat:=clo (ys&&& mi (alN p.length) xs) (mi (alN p.length) xs) p
section
variable {p j:List Nat} (g:GrOk p j) {xs ys:Nat} (hq:Qkh p.length xs ys)
include g hq
def AbOk(p j:List Nat)(xs ys:Nat):Prop:=∀k0 k1,k0<rn j (askB p xs ys)->k1<rn j (alN p.length)->Sub (dkF j (askB p xs ys) k0) (dkF j (alN p.length) k1)->Sub (abF p (dkF j (askB p xs ys) k0) (dkF j (alN p.length) k1)) (askB p xs ys)
variable (hab:AbOk p j xs ys)
include hab
end
section
variable {p j:List Nat} (g:GrOk p j) {xs ys:Nat} (hq:Qkh p.length xs ys)
include g
include hq
end
set_option maxHeartbeats 1000000
set_option maxRecDepth 100000
section
variable {p j:List Nat} (g:GrOk p j)
include g
end
set_option maxHeartbeats 1000000
set_option maxRecDepth 100000
section
variable {p j:List Nat} (g:GrOk p j) (x y:Nat) (hx:x<18446744073709551616) (hy:y<18446744073709551616)
include g hx hy
end
open Go.RowKit Go.ChangeShapes Go.WideShapes
set_option maxRecDepth 100000
def allB(w:World)(b:Nat):Prop:=b<w.heap.size
section
variable {H:Type} {enc:TypeId×Value->H} {w:World}
end
theorem Qsn{f:Nat}{ars:List V}{b:Bool}(h:FnOk Pg g0 f ars (.bool b))(hf:(codeOf Pg f).isSome=true){w:World}{jj:Array Value}(ha:RL (sg (allB w)) w ars jj.toList):Calls Pg f jj w fun e w'=>e= .returned (.bool b)/\Below w.heap.size w w':=by
 obtain⟨fi,hfi⟩:=Option.isSome_iff_exists.1 hf
 obtain⟨next,e1,e2,e3⟩:=h.1 (sg (allB w)) w (.func (.func f) #[] #[]) jj ⟨#[],rfl,rfl⟩ ha (Qle (fun b hb=>hb.elim id False.elim)) no_gl (fun _ _ h=>h)
 have hn:next= .enter f jj:=by
  have:=(vE_ok.code f fi hfi)
  obtain⟨fn,f1,f2,f3,f4,f5⟩:=this
  have:=f5 jj w
  simp[Deferred.ofValue,invoke,this]at e1
  exact e1.symm
 subst hn
 refine(callsIn_wide.1 e2).mono ?_
 rintro e w' ⟨u,s',rfl,g1,g2,g3,_⟩
 obtain rfl:u= .bool b:=g1
 exact⟨rfl,g3.mod.os,g3.mod.tape,g3.mod.output,g3.mod.size,fun k hk=>g3.mod.block k hk (fun⟨_,hm,_⟩=>by cases hm)⟩
mutual
noncomputable def vxB(H:T O):V->V->Bool
 | .int k n,y=>match y with
  | .int k' n'=>decide (k=k')&&decide (n=n')
  | _=>false
 | .bool a,y=>match y with
  | .bool b=>a==b
  | _=>false
 | .nils,y=>match y with
  | .nils=>true
  | _=>false
 | .agg l,y=>match y with
  | .agg l'=>vxL H l l'
  | _=>false
 | .im n l, y => match y with
  | .nils=>Nat.beq n 0
  | .im k m=>Nat.beq n k&&beqL l m
  | .sl h off m _=>Nat.beq n m&&(match gt H h with
   |some (.row _ _ c)=>vxP H l (c.drop off)
   | _=>false)
  | _=>false
 | .imp l, y => match y with
  | .ptr h off=>(match gt H h with
   |some (.row _ _ c)=>vxP H l (c.drop off)
   | _=>false)
  | _=>false
 | _,_=>false
noncomputable def vxL(H:T O):List V->List V->Bool
 |[],ys=>match ys with
  |[]=>true
  | _=>false
 |x::xs,ys=>match ys with
  |y::ys'=>vxB H x y&&vxL H xs ys'
  |[]=>false
noncomputable def vxP(H:T O):List V->List V->Bool
 |[],_=>true
 |x::xs,ys=>match ys with
  |y::ys'=>vxB H x y&&vxP H xs ys'
  |[]=>false
end
mutual
theorem Quz{H:T O}{ρ:Nat->Option Nat}: ∀(x y:V),vxB H x y=true->View H.get (fun _=>True) ρ x y
 | .int k n,y,h=>by
  cases y<;>simp[vxB]at h
  obtain⟨rfl,rfl⟩:=h
  rfl
 | .bool a,y,h=>by
  cases y<;>simp[vxB]at h
  subst h;rfl
 | .nils,y,h=>by
  cases y<;>first|rfl|simp[vxB]at h
 | .agg l,y,h=>by
  cases y with
  |agg l'=>exact⟨l',rfl,Qlo l l' (by simpa [vxB]using h)⟩
  | _=>simp[vxB]at h
 | .im n l, y, h => by
  cases y with
  |nils=>exact .inr (.inl ⟨rfl,Nat.eq_of_beq_eq_true (by simpa [vxB]using h)⟩)
  |im k m=>
   unfold vxB at h
   simp only[Bool.and_eq_true]at h
   have h1:=Nat.eq_of_beq_eq_true h.1
   subst h1
   exact .inl (by rw[Qgk _ _ h.2])
  | sl g off m room =>
   unfold vxB at h
   simp only[Bool.and_eq_true]at h
   obtain⟨h1,h2⟩:=h
   have h1:=Nat.eq_of_beq_eq_true h1
   subst h1
   split at h2
   ·rename_i t sp c hg
    rw[Qak]at hg
    exact .inr (.inr ⟨g,off,room,t,sp,c,rfl,trivial,hg,Qu0 l _ h2⟩)
   ·cases h2
  | _=>simp[vxB]at h
 | .imp l, y, h => by
  cases y with
  | ptr g off =>
   unfold vxB at h
   dsimp only at h
   split at h
   ·rename_i t sp c hg
    rw[Qak]at hg
    exact .inr ⟨g,off,t,sp,c,rfl,trivial,hg,Qu0 l _ h⟩
   ·cases h
  | _=>simp[vxB]at h
 | .str _,_,h| .nilp,_,h| .nilf,_,h| .nili,_,h| .nilm,_,h| .tup _,_,h| .fn _ _,_,h| .mfn _ _,_,h| .ifc _ _,_,h| .ptr _ _,_,h| .sl _ _ _ _,_,h| .mp _,_,h| .yld _,_,h=>by simp[vxB]at h
theorem Qlo{H:T O}{ρ:Nat->Option Nat}: ∀(xs ys:List V),vxL H xs ys=true->ViewL H.get (fun _=>True) ρ xs ys
 |[],ys,h=>by
  cases ys with
  |nil=>rfl
  |cons=>simp[vxL]at h
 | x :: xs, ys, h => by
  cases ys with
  |nil=>simp[vxL]at h
  |cons y ys=>
   unfold vxL at h
   simp only[Bool.and_eq_true]at h
   exact⟨y,ys,rfl,Quz x y h.1,Qlo xs ys h.2⟩
theorem Qu0{H:T O}: ∀(xs ys:List V),vxP H xs ys=true->ViewP H.get (fun _=>True) xs ys
 |[],ys,h=>trivial
 | x :: xs, ys, h => by
  cases ys with
  |nil=>simp[vxP]at h
  |cons y ys=>
   unfold vxP at h
   simp only[Bool.and_eq_true]at h
   exact⟨y,ys,rfl,Quz x y h.1,Qu0 xs ys h.2⟩
end
noncomputable def Qbg(f:Nat)(l:List V)(v:V)(h:Hook):Hook:=fun f' ars H gl=>match gl with
 | .e=>bif Nat.beq f' f&&vxL H l ars then some v else h f' ars H gl
 | _=>h f' ars H gl
theorem Qal{f:Nat}{l:List V}{v:V}{h:Hook}(hh:Qaq Pg h)(hv:gnd v=true)(hc:(codeOf Pg f).isSome=true)(hok:FnOk Pg .e f l v):Qaq Pg (Qbg f l v h):=by
 intro f' ars H gl u hu s w jj ha hH hgl nx hnx
 unfold Qbg at hu
 split at hu
 ·cases hb : (Nat.beq f' f && vxL H l ars) with
  |false=>rw[hb]at hu;exact hh f' ars H _ u hu s w jj ha hH hgl nx hnx
  | true =>
   rw[hb,cond_true]at hu
   cases hu
   simp only[Bool.and_eq_true]at hb
   have e1:=Nat.eq_of_beq_eq_true hb.1
   subst e1
   have hview:=Qlo (ρ:=fun _=>none) _ _ hb.2
   obtain⟨fi,hfi⟩:=Option.isSome_iff_exists.1 hc
   obtain⟨fn,f1,f2,f3,f4,f5⟩:=Qlv plain hfi
   have hF: ∀b,(s.fz b\/∃g t sp c,H.get g=some (.row t sp c)/\b=s.μ g)->b<w.heap.size:=by
    rintro b (hb|⟨g,t,sp,c,hg,rfl⟩)
    ·exact hH.old b (.inl hb)
    ·exact(hH.obj _ _ hg rfl).2.1
   have hrl:=ViewL.rl hH (s':=sg (fun b=>s.fz b\/∃g t sp c,H.get g=some (.row t sp c)/\b=s.μ g)) ⟨fun _ _ e=>(by cases e),fun g t sp c _ hg=>.inr ⟨g,t,sp,c,hg,rfl⟩,fun b hb=>.inl hb⟩ _ _ _ hview ha
   obtain⟨next,q1,q2,q3⟩:=hok.1 (sg _) w (.func (.func f') #[] #[]) jj ⟨#[],rfl,rfl⟩ hrl (Qle (fun b hb=>hb.elim (hF b) (fun hb=>hb.elim))) (fun g l hg=>by simp at hg) (fun _ _ h=>h)
   have hn:next= .enter f' jj:=by
    have h5:=f5 jj w
    simp[Deferred.ofValue,invoke,h5]at q1
    exact q1.symm
   subst hn
   refine⟨f5 jj w,(callsIn_wide.1 q2).mono ?_⟩
   rintro e w' ⟨x,s',rfl,g1,g2,g3,g4,g5⟩
   exact hook_gnd hH ⟨x,rfl,⟨g3.mod.os,g3.mod.tape,g3.mod.output,g3.mod.size,fun k hk=>g3.mod.block k hk (by rintro⟨h,hm,_⟩;cases hm)⟩,fun s'' w''=>gnd_rv _ _ hv g1⟩
 ·exact hh f' ars H gl u hu s w jj ha hH hgl nx hnx
noncomputable def Qlc(f:Nat)(l:List V)(v:V)(h:Hook):Hook:=fun f' ars H gl=>match gl with
 | .e=>bif Nat.beq f' f&&vxL .e l ars then some v else h f' ars H gl
 | _=>h f' ars H gl
theorem Qdx{f:Nat}{l:List V}{v:V}{h:Hook}(hh:Qaq Pg h)(hv:hfB v=true)(hc:(codeOf Pg f).isSome=true)(hok:FnOk Pg .e f l v):Qaq Pg (Qlc f l v h):=by
 intro f' ars H gl u hu s w jj ha hH hgl nx hnx
 unfold Qlc at hu
 split at hu
 ·cases hb : (Nat.beq f' f && vxL .e l ars) with
  |false=>rw[hb]at hu;exact hh f' ars H _ u hu s w jj ha hH hgl nx hnx
  | true =>
   rw[hb,cond_true]at hu
   cases hu
   simp only[Bool.and_eq_true]at hb
   have e1:=Nat.eq_of_beq_eq_true hb.1
   subst e1
   have hcall:=Qny (H:=H) (nx:=nx) hok (Qlo (H:=.e) (ρ:=fun _=>none) _ _ hb.2) (Qft.1 _ hv)
   obtain⟨fi,hfi⟩:=Option.isSome_iff_exists.1 hc
   obtain⟨fn,f1,f2,f3,f4,f5⟩:=Qlv plain hfi
   obtain⟨next,q1,q2,q3⟩:=hcall.1 s w (.func (.func f') #[] #[]) jj ⟨#[],rfl,rfl⟩ ha hH (fun g l hg=>by simp at hg) hnx
   have hn:next= .enter f' jj:=by
    have h5:=f5 jj w
    simp[Deferred.ofValue,invoke,h5]at q1
    exact q1.symm
   subst hn
   exact⟨f5 jj w,callsIn_wide.1 q2⟩
 ·exact hh f' ars H gl u hu s w jj ha hH hgl nx hnx
set_option maxHeartbeats 1000000
set_option maxRecDepth 100000
noncomputable def vxT(H:T O):V->V->Bool
 | .tup l,y=>match y with
  | .tup l'=>vxL H l l'
  | _=>false
 |x,y=>vxB H x y
theorem vxT_ok{H:T O}{ρ:Nat->Option Nat}: ∀(x y:V),vxT H x y=true->View H.get (fun _=>True) ρ x y
 | .tup l,y,h=>by
  cases y with
  |tup l'=>exact⟨l',rfl,Qlo l l' (by simpa [vxT]using h)⟩
  | _=>simp[vxT]at h
 | .bool _,y,h| .int _ _,y,h| .str _,y,h| .nilp,y,h| .nilf,y,h| .nili,y,h| .nils,y,h| .nilm,y,h| .agg _,y,h| .im _ _,y,h| .imp _,y,h| .fn _ _,y,h| .mfn _ _,y,h| .ifc _ _,y,h| .ptr _ _,y,h| .sl _ _ _ _,y,h| .mp _,y,h| .yld _,y,h=>Quz _ y h
theorem Qpk{s:Sig}{w w':World}{v v0:V}{H:T O}{nx:Nat}{lg:List Nat}{ee:Ending}(hH:RH s w (T.e:T O).get)(hn: ∀i,0<=i->¬s.dom i)(hv:vxT H v v0=true)(hf:Hf v)(h:CPost s w 0 ⟨v0,H,nx,lg⟩ ee w'):CPost s w 0 ⟨v,.e,0,[]⟩ ee w':=by
 obtain⟨u,s',rfl,g1,g2,g3,g4,g5⟩:=h
 have hr: ∀g t sp c,H.get g=some (.row t sp c)->s'.dom g/\s'.μ g<w'.heap.size:=fun g t sp c hg=>by
  obtain⟨a,b,_⟩:=g2.obj g _ hg rfl
  exact⟨a,b⟩
 have hrv:RV {s' with fz:=fun b=>s'.fz b\/∃g t sp c,H.get g=some (.row t sp c)/\b=s'.μ g} w' v u:=View.rv (s':={s' with fz:=fun b=>s'.fz b\/∃g t sp c,H.get g=some (.row t sp c)/\b=s'.μ g}) g2 ⟨fun _ _ e=>(by cases e),fun g t sp c _ hg=>.inr ⟨g,t,sp,c,hg,rfl⟩,fun b hb=>.inl hb⟩ v v0 u (vxT_ok (ρ:=fun _=>none) v v0 hv) g1
 have hst:Step s w {s' with fz:=fun b=>s'.fz b\/∃g t sp c,H.get g=some (.row t sp c)/\b=s'.μ g} w' lg:=⟨⟨⟨g3.le.μ,g3.le.cp,g3.le.dom,fun b hb=>.inl (g3.le.fz b hb)⟩,g3.le.mark⟩,fun b hb=>by
  rcases hb with hb|⟨g,t,sp,c,hg,rfl⟩
  ·exact g3.fz b hb
  ·obtain ⟨a, _⟩ := hr g t sp c hg
   rcases g3.new g a (hn g (Nat.zero_le _))with h|⟨k,_,h,_⟩
   ·exact .inr (.inl h)
   ·exact absurd h (hn k (Nat.zero_le _)),g3.kept,g3.mod,g3.new⟩
 obtain⟨s'',q1,q2,q3,q4⟩:=Qbm hH hrv hf hst (fun h _=>hn h (Nat.zero_le _)) (fun b hb=>by
  rcases hb with hb|⟨g,t,sp,c,hg,rfl⟩
  ·exact g2.old b (.inl hb)
  ·exact(hr g t sp c hg).2)
 exact⟨u,s'',rfl,q1,q2,q3,fun i=>by rw[q4];exact dom_same s _ i,Nat.le_refl _⟩
noncomputable def runV(E:Env)(n f:Nat)(ars:List V)(v:V):Bool:=match E.code f with
 |some fi=>Nat.ble ars.length fi.ntmps&&(match exec E n none fi.body ⟨⟨putAll (blank fi.ntmps) 0 ars,g0,fi.ntmps⟩,.e,0,[]⟩with
  |some [(.normal,st)]=>(match retV E.G st.tm st.H fi.res with|some v0=>vxT st.H v v0|none=>false)
  |some [(.ret,st)]=>(match retV E.G st.tm st.H fi.res with|some v0=>vxT st.H v v0|none=>false)
  | _=>false)
 |none=>false
theorem FnOk.of_runV{E:Env}(hE:E.Ok Pg){n f:Nat}{ars:List V}{v:V}(hf:hfB v=true)(h:runV E n f ars v=true):FnOk Pg g0 f ars v:=by
 unfold runV at h
 split at h
 ·rename_i fi hfi
  rw[Bool.and_eq_true]at h
  obtain⟨hle,h⟩:=h
  have key: ∀(e:Ex)(st':St),e= .normal\/e= .ret->exec E n none fi.body ⟨⟨putAll (blank fi.ntmps) 0 ars,g0,fi.ntmps⟩,.e,0,[]⟩=some [(e,st')]->(match retV E.G st'.tm st'.H fi.res with|some v0=>vxT st'.H v v0|none=>false)=true->FnOk Pg g0 f ars v:=fun e st' he hx hr=>by
   split at hr
   ·rename_i v0 jd
    refine CallSpec.fnC hE hfi (by rw[List.append_nil];exact hle) (Log.refl _ _ _) (R:=fun e' s=>e'=e/\s=st') ?_ ?_
    ·rw [List.append_nil]
     intro B s0 w0 s w a hn hB hrd A Q hQ
     refine(Qdw hE mixed n).one none _ _ st' e s w a B hx A.rel (Nat.le_trans hB A.step.mod.size) (fun h e=>by cases e) Q (fun a' w'⟨lg,s',W⟩=>?_)
     have:=hQ e st' ⟨rfl,rfl⟩ s' w' a' (A.went W)
     rcases he with rfl|rfl<;>exact this
    ·rintro e' st ⟨rfl, rfl⟩
     exact⟨he,v0,jd,fun s w ee w' hH hn hp=>Qpk hH hn hr (Qft.1 v hf) hp⟩
   ·cases hr
  split at h
  ·rename_i st' hx;exact key .normal st' (.inl rfl) hx h
  ·rename_i st' hx;exact key .ret st' (.inr rfl) hx h
  ·cases h
 ·cases h
set_option maxHeartbeats 4000000
noncomputable def preR(E:Env)(n:Nat):Nat->Code->St->Option (St×Code)
 |0,X,st=>some (st,X)
 | k + 1, X, st => match X with
  | .seq c Y=>match exec E n none c st with
   |some [(.normal,st')]=>preR E n k Y st'
   | _=>none
  | _=>none
theorem Qtj{E:Env}(hE:E.Ok Pg){n nx0:Nat}{R:Ex->St->Prop}: ∀{k:Nat}{X Y:Code}{st st':St},preR E n k X st=some (st',Y)->Sat Pg none nx0 Y st' R->Sat Pg none nx0 X st R
 |0,X,Y,st,st',h,hY=>by cases h;exact hY
 | k + 1, X, Y, st, st', h, hY => by
  unfold preR at h
  split at h
  ·rename_i c Z
   split at h
   ·rename_i st1 h1
    refine Sat.seq (R':=fun e s=>e= .normal/\s=st1) ?_ (fun s⟨_,e⟩=>by subst e;exact Qtj hE h hY) (fun e s hne⟨he,_⟩=>absurd he hne)
    intro B s0 w0 s w a hn hB hrd A Q hQ
    exact(Qdw hE mixed n).one none c st st1 .normal s w a B h1 A.rel (Nat.le_trans hB A.step.mod.size) (fun h e=>by cases e) Q (fun a' w'⟨lg,s',W⟩=>hQ .normal st1 ⟨rfl,rfl⟩ s' w' a' (A.went W))
   ·cases h
  ·cases h
noncomputable def preP(nx0 N:Nat)(r:List Nat)(S:SL):Option (St×Code)->Prop
 |some (st,_)=>(st.tm.gl=g0/\Nat.beq st.tm.n N=true)/\gcP nx0 r st S
 |none=>False
theorem preR_gc{E:Env}(hE:E.Ok Pg){n nx0 k N:Nat}{X Y:Code}{st:St}{r:List Nat}{S:SL}{R:Ex->St->Prop}(h1:(preR E n k X st).map (·.2)=some Y)(h2:preP nx0 N r S (preR E n k X st))(hY:Sat Pg none nx0 Y (mkSt g0 N S) R):Sat Pg none nx0 X st R:=by
 cases hp:preR E n k X st with
 |none=>rw[hp]at h1;cases h1
 |some q=>
  obtain⟨st',Y'⟩:=q
  rw[hp]at h1 h2
  obtain rfl:Y'=Y:=by simpa using h1
  obtain⟨⟨g1,g2⟩,g3⟩:=h2
  have g2:=Nat.eq_of_beq_eq_true g2
  refine Qtj hE hp (Sat.gc (Qeb g3) ?_)
  rw[g1,g2];exact hY
theorem FnOk.of_sat{f:Nat}{ars:List V}{v:V}{fi:FI}(hfi:vE.code f=some fi)(hle:Nat.ble ars.length fi.ntmps=true)(hv:hfB v=true)(h:Sat Pg none 0 fi.body ⟨⟨putAll (blank fi.ntmps) 0 ars,g0,fi.ntmps⟩,.e,0,[]⟩ (fun e st=>(e= .normal\/e= .ret)/\retV vE.G st.tm st.H fi.res=some v)):FnOk Pg g0 f ars v:=by
 refine CallSpec.fnC vE_ok hfi (by rw[List.append_nil];exact hle) (Log.refl _ _ _) (by rw[List.append_nil];exact h) ?_
 rintro e st ⟨he,jd⟩
 refine⟨he,v,jd,fun s w ee w' hH hn⟨u,s',h1,g1,g2,g3,_,_⟩=>?_⟩
 subst h1
 obtain⟨s'',q1,q2,q3,q4⟩:=Qbm hH g1 (Qft.1 v hv) g3 (fun h _=>hn h (Nat.zero_le _)) (fun b hb=>g2.old b (.inl hb))
 exact⟨u,s'',rfl,q1,q2,q3,fun i=>by rw[q4];exact dom_same s _ i,Nat.le_refl _⟩
noncomputable def endV(G:Ctx)(res:List ResultVar):Option Rs->Option V
 |some [(.normal,st)]=>retV G st.tm st.H res
 |some [(.ret,st)]=>retV G st.tm st.H res
 | _=>none
theorem Sat.of_end{E:Env}(hE:E.Ok Pg){n nx0:Nat}{c:Code}{st:St}{res:List ResultVar}{v:V}{G:Ctx}(h:endV G res (exec E n none c st)=some v):Sat Pg none nx0 c st (fun e st=>(e= .normal\/e= .ret)/\retV G st.tm st.H res=some v):=by
 have key: ∀(e:Ex)(st':St),e= .normal\/e= .ret->exec E n none c st=some [(e,st')]->retV G st'.tm st'.H res=some v->Sat Pg none nx0 c st (fun e st=>(e= .normal\/e= .ret)/\retV G st.tm st.H res=some v):=fun e st' he hx hr=>by
  intro B s0 w0 s w a hn hB hrd A Q hQ
  refine(Qdw hE mixed n).one none c st st' e s w a B hx A.rel (Nat.le_trans hB A.step.mod.size) (fun h e=>by cases e) Q (fun a' w'⟨lg,s',W⟩=>?_)
  have:=hQ e st' ⟨he,hr⟩ s' w' a' (A.went W)
  rcases he with rfl|rfl<;>exact this
 unfold endV at h
 split at h
 ·rename_i st' hx;exact key .normal st' (.inl rfl) hx h
 ·rename_i st' hx;exact key .ret st' (.inr rfl) hx h
 ·cases h
set_option maxHeartbeats 1000000
def grB(p j:List Nat)(rk:Nat->Nat):Bool:=
 Nat.ble 1 p.length&&Nat.ble p.length 5&&Nat.beq j.length p.length&&p.all (fun x=>Nat.blt x (2^p.length))&&j.all (fun x=>Nat.blt x (2^p.length))&&
 (List.range p.length).all fun u=>(List.range p.length).all fun v=>(!(p.getD u 0).testBit v||Nat.blt (rk v) (rk u))&&((j.getD u 0).testBit v==(j.getD v 0).testBit u)&& !(j.getD u 0).testBit u
theorem Qry{p j:List Nat}{rk:Nat->Nat}(h:grB p j rk=true):GrOk p j:=by
 unfold grB at h
 simp only[Bool.and_eq_true,List.all_eq_true,List.mem_range]at h
 obtain⟨⟨⟨⟨⟨h1,h2⟩,h3⟩,h4⟩,h5⟩,h6⟩:=h
 have h1:=Nat.le_of_ble_eq_true h1
 have h2:=Nat.le_of_ble_eq_true h2
 have h3:=Nat.eq_of_beq_eq_true h3
 have h4: ∀x∈p,x<2^p.length:=fun x hx=>Nat.le_of_ble_eq_true (h4 x hx)
 have h5: ∀x∈j,x<2^p.length:=fun x hx=>Nat.le_of_ble_eq_true (h5 x hx)
 have hb:2^p.length<=32:=Nat.pow_le_pow_right (n:=2) d_ h2
 have hp: ∀k,p.getD k 0<2^p.length:=fun k=>by
  rw[List.getD_eq_getElem?_getD]
  cases hx:p[k]? with
  |none=>exact Nat.pow_pos d_
  |some x=>exact h4 x (List.mem_of_getElem? hx)
 have hj: ∀k,j.getD k 0<2^p.length:=fun k=>by
  rw[List.getD_eq_getElem?_getD]
  cases hx:j[k]? with
  |none=>exact Nat.pow_pos d_
  |some x=>exact h5 x (List.mem_of_getElem? hx)
 have lt: ∀{x v:Nat},x<2^p.length->x.testBit v=true->v<p.length:=fun hx hv=>by
  refine Nat.lt_of_not_le fun hle=>?_
  rw[Nat.testBit_lt_two_pow (Nat.lt_of_lt_of_le hx (Nat.pow_le_pow_right d_ hle))]at hv
  cases hv
 refine⟨h1,h2,fun x hx=>by have:=h4 x hx;omega,⟨rk,fun u hu v hv=>?_⟩,fun k _=>Nat.div_eq_of_lt (hp k),h3,fun x hx=>by have:=h5 x hx;omega,fun k _=>Nat.div_eq_of_lt (hj k),fun k hk=>?_,fun k m hk hm=>?_⟩
 ·have hvn := lt (hp u) hv
  refine⟨hvn,?_⟩
  have:=(h6 u hu v hvn).1.1
  rw[hv]at this
  simpa using this
 ·have := (h6 k hk k hk).2
  simpa using this
 ·have := (h6 k hk m hm).1.2
  simpa using this
def askB'(n xs ys:Nat):Bool:=Nat.beq (mi xs (alN n)) 0&&Nat.beq (mi ys (alN n)) 0&&Nat.beq (xs&&& ys) 0&& !(Nat.beq ys 0)&&Nat.blt xs 18446744073709551616&&Nat.blt ys 18446744073709551616
theorem Qb3{n xs ys:Nat}(h:askB' n xs ys=true):Qkh n xs ys:=by
 unfold askB' at h
 simp only[Bool.and_eq_true]at h
 obtain⟨⟨⟨⟨⟨h1,h2⟩,h3⟩,h4⟩,h5⟩,h6⟩:=h
 refine⟨Nat.eq_of_beq_eq_true h1,Nat.eq_of_beq_eq_true h2,Nat.eq_of_beq_eq_true h3,fun e=>?_,Nat.le_of_ble_eq_true h5,Nat.le_of_ble_eq_true h6⟩
 subst e;simp at h4
section
variable {p j:List Nat} (g:GrOk p j) {xs ys:Nat} (hq:Qkh p.length xs ys) {y:Nat×List Nat} (hy:soW p 5 (0,[])=some y)
include g hq hy
theorem so_sm:(∀z∈y.2,z<64)/\y.2.length<=64:=by
 obtain⟨y',hy',hyo⟩:=order_ok g
 rw[hy]at hy'
 cases hy'
 have h5:=g.l5
 exact⟨fun z hz=>by have:=hyo.2.1 z hz;omega,by have:=Qjo hyo.1 hyo.2.1;omega⟩
theorem ident_ok{F:Nat}{x:Es}(hx:soE p j xs ys y.2 F=some (.inl x)):FnOk Pg g0 16 [ul p,ul j,u6 (xs:Nat),u6 (ys:Nat)] (.tup [esV x,hgV (0,0,0),i6 (0:Nat)]):=by
 obtain⟨h1,h2⟩:=so_sm g hq hy
 have h5:=g.l5
 have hjl:=g.jl
 have hfl:=rn_few g
 exact Qma p j xs ys o_ g.p64 5 o_ y hy (Qi7 p j g xs ys hq) (soE_good h2 hfl hx) (solve_fn p j xs ys y.2 hq.x64 hq.y64 h1 h2 o_ g.p64 o_ g.j64 F x hx hfl)
theorem ident_no{F:Nat}{h:Nat×Nat×Nat}(hx:soE p j xs ys y.2 F=some (.inr h)):FnOk Pg g0 16 [ul p,ul j,u6 (xs:Nat),u6 (ys:Nat)] (.tup [.agg [i6 0,u6 0,.nils],hgV h,i6 (351:Nat)]):=by
 obtain⟨h1,h2⟩:=so_sm g hq hy
 have h5:=g.l5
 have hjl:=g.jl
 have hfl:=rn_few g
 exact Qh6 p j xs ys o_ g.p64 5 o_ y hy (Qi7 p j g xs ys hq) h (Qt2 p j xs ys y.2 hq.x64 hq.y64 h1 h2 o_ g.p64 o_ g.j64 F h hx hfl)
end
set_option maxHeartbeats 1000000
set_option maxRecDepth 100000
def inB(lo hi:Int)(L:List Int):Bool:=L.all fun x=>decide (lo<=x)&&decide (x<=hi)
theorem Qbf{lo hi:Int}{L:List Int}:inB lo hi L=true↔∀k,k<L.length->lo<=L.getD k 0/\L.getD k 0<=hi:=by
 unfold inB
 rw[List.all_eq_true]
 constructor
 ·intro h k hk
  have:=h (L.getD k 0) (by rw[List.getD_eq_getElem?_getD,List.getElem?_eq_getElem hk];exact List.getElem_mem hk)
  simpa using this
 ·intro h x hx
  obtain⟨k,hk,e⟩:=List.getElem_of_mem hx
  have:=h k hk
  rw[List.getD_eq_getElem?_getD,List.getElem?_eq_getElem hk]at this
  simp only[Option.getD_some]at this
  rw[e]at this
  simpa using this
abbrev wiS(lo hi:Int)(L:List Int)(k:Nat):SL:={sl:=[(0,i6 lo),(1,i6 hi),(9,sl L),(10,i6 (L.length:Nat)),(11,i6 (k:Nat))]}
theorem Qm5(lo hi:Int)(L:List Int)(hl:L.length<=1000000):
  Sat Pg none 0 (at' 54 [1,0,1,0]) (mkSt g0 24 (wiS lo hi L 0)) (Qad g0 24 [(inB lo hi L=true,.exit 0,{sl:=[]}),(inB lo hi L=false,.ret,{sl:=[(6,.bool false)]})]):=by
 have hL:=Qaa L
 refine Qav vE_ok mixed Qab (b:=at' 54 [1,0,1,0,0]) k_ (fun k=>k<=L.length/\∀i,i<k->lo<=L.getD i 0/\L.getD i 0<=hi) (wiS lo hi L) (fun k=>L.length-k) (fun k hk=>?_) 0 ⟨Nat.zero_le _,fun i h=>absurd h (Nat.not_lt_zero _)⟩
 obtain⟨hk,hin⟩:=hk
 by_cases hlt:k<L.length
 ·have hld := Qag hlt
  by_cases h1:lo<=L.getD k 0
  ·by_cases h2 : L.getD k 0 <= hi
   ·refine .inl ⟨k + 1, [], [yes 12, pl 13, ld 14 (i6 (L.getD k 0)), no 17, no 21, nu 23 ((k + 1 : Nat) : Int)], 1000, ⟨hlt, fun i hi => ?_⟩, by omega, ?_⟩
    ·by_cases hik : i = k
     ·subst hik;exact⟨h1,h2⟩
     ·exact hin i o_
    generalize L.getD k 0=x at*
    clear hin
    refine m_ (p:=let z0:=(L.length:Int);let z1:=(↑(k+1):Int);let z2:=(k:Int);Bn [decide (z2<z0)=true,An [(0:Int)<=z2,z2<z0],headF (List.drop (k*1) (ints L))=some (i6 x),decide (x<lo)=false,decide (x>hi)=false,wr .i64 (z2+1)=z1,Bn [lo=lo,hi=hi,An [Sm L.length,Sm (ints L)],z0=z0,z1=z1]]) ?_
    (repeat'(first|(with_reducible apply And.intro)|(refine fun(_:True)=>?_)))<;>first|exact aq|skip
    all_goals skip
   ·have hf : inB lo hi L = false := by
     cases hb:inB lo hi L with
     |false=>rfl
     |true=>exact absurd (Qbf.1 hb k hlt).2 h2
    refine .inr ⟨.ret,[],{sl:=[(6,.bool false)]},[yes 12,pl 13,ld 14 (i6 (L.getD k 0)),no 17,yes 21],1000,.inr (.inl ⟨hf,rfl,rfl⟩),?_⟩
    generalize L.getD k 0=x at*
    clear hin
    refine m_ (p:=let z0:=(k:Int);Bn [decide (z0<(L.length:Int))=true,An [(0:Int)<=z0,z0<(L.length:Int)],headF (List.drop (k*1) (ints L))=some (i6 x),decide (x<lo)=false,decide (x>hi)=true,Bn [Sm false]]) ?_
    (repeat'(first|(with_reducible apply And.intro)|(refine fun(_:True)=>?_)))<;>first|exact aq|skip
    all_goals skip
  ·have hf : inB lo hi L = false := by
    cases hb:inB lo hi L with
    |false=>rfl
    |true=>exact absurd (Qbf.1 hb k hlt).1 h1
   refine .inr ⟨.ret,[],{sl:=[(6,.bool false)]},[yes 12,pl 13,ld 14 (i6 (L.getD k 0)),yes 17],1000,.inr (.inl ⟨hf,rfl,rfl⟩),?_⟩
   generalize L.getD k 0=x at*
   clear hin
   refine m_ (p:=let z0:=(k:Int);Bn [decide (z0<(L.length:Int))=true,An [(0:Int)<=z0,z0<(L.length:Int)],headF (List.drop (k*1) (ints L))=some (i6 x),decide (x<lo)=true,Bn [Sm false]]) ?_
   (repeat'(first|(with_reducible apply And.intro)|(refine fun(_:True)=>?_)))<;>first|exact aq|skip
   all_goals skip
 ·have hk2 : k = L.length := by omega
  subst hk2
  refine .inr ⟨.exit 0,[],{sl:=[]},[no 12],1000,.inl ⟨Qbf.2 hin,rfl,rfl⟩,?_⟩
  clear hin
  refine m_ (p:=Bn [decide ((L.length:Int)<(L.length:Int))=false,Tt]) ?_
  (repeat'(first|(with_reducible apply And.intro)|(refine fun(_:True)=>?_)))<;>first|exact aq|skip
  all_goals skip
theorem Qbz(lo hi:Int)(L:List Int)(hl:L.length<=1000000):FnOk Pg g0 54 [i6 lo,i6 hi,sl L] (.bool (inB lo hi L)):=by
 have hL:=Qaa L
 have h:=Qm5 lo hi L hl
 generalize hb:inB lo hi L=b at*
 cases b with
 |true=>
  refine FnOk.of_vc vE_ok mixed Qab (n:=1000) (r:=[]) (S:={sl:=[(6,.bool true)]}) (hs:=[(0,.loop [] (wiS lo hi L 0) [(true=true,.exit 0,{sl:=[]}),(true=false,.ret,{sl:=[(6,.bool false)]})])]) ?_
  refine m_ (p:=Bn [Sm (V.bool true),Bn [Bn [lo=lo,hi=hi,An [Sm L.length,Sm (ints L)],Sm (L.length:Int),((0:Nat):Int)=(0:Int)]],Sat Try.prog none 0 (at' 54 [1,0,1,0]) (mkSt g0 24 (wiS lo hi L 0)) (Qad g0 24 [(true=true,Ex.exit 0,SL.mk [] [] [] []),(true=false,Ex.ret,SL.mk [(6,V.bool false)] [] [] [])]),(true=true->Bn [Bn [Sm true]]),(true=false->Bn [Bn [true=false]])]) ?_
  (repeat'(first|(with_reducible apply And.intro)|(refine fun(_:True)=>?_)))<;>first|exact aq|skip
  all_goals first|exact h|(intro h;cases h)|skip
 |false=>
  refine FnOk.of_vc vE_ok mixed Qab (n:=1000) (r:=[]) (S:={sl:=[(6,.bool false)]}) (hs:=[(0,.loop [] (wiS lo hi L 0) [(false=true,.exit 0,{sl:=[]}),(false=false,.ret,{sl:=[(6,.bool false)]})])]) ?_
  refine m_ (p:=Bn [Sm (V.bool false),Bn [Bn [lo=lo,hi=hi,An [Sm L.length,Sm (ints L)],Sm (L.length:Int),((0:Nat):Int)=(0:Int)]],Sat Try.prog none 0 (at' 54 [1,0,1,0]) (mkSt g0 24 (wiS lo hi L 0)) (Qad g0 24 [(false=true,Ex.exit 0,SL.mk [] [] [] []),(false=false,Ex.ret,SL.mk [(6,V.bool false)] [] [] [])]),(false=true->Bn [Bn [false=true]]),(false=false->Bn [Bn [Sm false]])]) ?_
  (repeat'(first|(with_reducible apply And.intro)|(refine fun(_:True)=>?_)))<;>first|exact aq|skip
  all_goals first|exact h|(intro h;cases h)|skip
def incB(n:Int)(L:List Int):Bool:=(List.range L.length).all fun k=>decide (0<=L.getD k 0)&&decide (L.getD k 0<n)&&(decide (k=0)||decide (L.getD (k-1) 0<L.getD k 0))
theorem Qev{n:Int}{L:List Int}:incB n L=true↔∀k,k<L.length->0<=L.getD k 0/\L.getD k 0<n/\(k=0\/L.getD (k-1) 0<L.getD k 0):=by
 unfold incB
 rw[List.all_eq_true]
 simp only[List.mem_range,Bool.and_eq_true,Bool.or_eq_true,decide_eq_true_eq,and_assoc]
abbrev icS(L:List Int)(n:Int)(k:Nat):SL:={sl:=[(0,sl L),(1,i6 n),(7,sl L),(8,i6 (L.length:Nat)),(9,i6 (k:Nat))]}
theorem Qg0(L:List Int)(n:Int)(hl:L.length<=1000000):
  Sat Pg none 0 (at' 85 [1,0,1,0]) (mkSt g0 35 (icS L n 0)) (Qad g0 35 [(incB n L=true,.exit 0,{sl:=[]}),(incB n L=false,.ret,{sl:=[(4,.bool false)]})]):=by
 have hL:=Qaa L
 refine Qav vE_ok mixed Qab (b:=at' 85 [1,0,1,0,0]) k_ (fun k=>k<=L.length/\∀i,i<k->0<=L.getD i 0/\L.getD i 0<n/\(i=0\/L.getD (i-1) 0<L.getD i 0)) (icS L n) (fun k=>L.length-k) (fun k hk=>?_) 0 ⟨Nat.zero_le _,fun i h=>absurd h (Nat.not_lt_zero _)⟩
 obtain⟨hk,hin⟩:=hk
 by_cases hlt:k<L.length
 ·have hld := Qag hlt
  have bad:(¬(0<=L.getD k 0/\L.getD k 0<n/\(k=0\/L.getD (k-1) 0<L.getD k 0)))->incB n L=false:=fun hno=>by
   cases hb:incB n L with
   |false=>rfl
   |true=>exact absurd (Qev.1 hb k hlt) hno
  have good:(0<=L.getD k 0/\L.getD k 0<n/\(k=0\/L.getD (k-1) 0<L.getD k 0))->∀i,i<k+1->0<=L.getD i 0/\L.getD i 0<n/\(i=0\/L.getD (i-1) 0<L.getD i 0):=fun h i hi=>by
   by_cases hik:i=k
   ·subst hik;exact h
   ·exact hin i o_
  by_cases h1:0<=L.getD k 0
  ·by_cases h2 : L.getD k 0 < n
   ·by_cases h0 : k = 0
    ·subst h0
     have hg:=good ⟨h1,h2,.inl rfl⟩
     refine .inl ⟨1,[],[yes 10,pl 12,ld 13 (i6 (L.getD 0 0)),no 15,no 19,no 23,nu 34 ((1:Nat):Int)],1000,⟨hlt,hg⟩,by omega,?_⟩
     clear hin bad good hg
     generalize L.getD 0 0=x at*
     refine m_ (p:=let z3:=An [Sm L.length,Sm (ints L)];let z0:=((0:Nat):Int);let z1:=(L.length:Int);let z2:=((1:Nat):Int);Bn [decide (z0<z1)=true,An [(0:Int)<=z0,z0<z1],headF (List.drop (0*1) (ints L))=some (i6 x),decide (x<0)=false,decide (x>=n)=false,decide (z0>0)=false,wr .i64 (z0+1)=z2,Bn [z3,n=n,z3,z1=z1,z2=z2]]) ?_
     (repeat'(first|(with_reducible apply And.intro)|(refine fun(_:True)=>?_)))<;>first|exact aq|skip
     all_goals skip
    ·have hld2 := Qag (l := L) (k := k - 1) o_
     obtain⟨q,hq⟩: ∃q,q=k-1:=⟨_,rfl⟩
     have ek:k=q+1:=by omega
     by_cases h3:L.getD (k-1) 0<L.getD k 0
     ·have hg := good ⟨h1, h2, .inr h3⟩
      refine .inl ⟨k+1,[],[yes 10,pl 12,ld 13 (i6 (L.getD k 0)),no 15,no 19,yes 23,nu 28 (q:Nat),pl 29,ld 30 (i6 (L.getD (k-1) 0)),no 31,nu 34 ((k+1:Nat):Int)],1000,⟨hlt,hg⟩,by omega,?_⟩
      clear hin bad good hg
      rw[<-hq]at hld2 h3⊢
      generalize L.getD k 0=x at*
      generalize L.getD q 0=y at*
      refine m_ (p:=let z5:=An [Sm L.length,Sm (ints L)];let z0:=(L.length:Int);let z1:=(k:Int);let z2:=(↑(k+1):Int);let z3:=(0:Int);let z4:=(q:Int);Bn [decide (z1<z0)=true,An [z3<=z1,z1<z0],headF (List.drop (k*1) (ints L))=some (i6 x),decide (x<z3)=false,decide (x>=n)=false,decide (z1>z3)=true,wr .i64 (z1-1)=z4,An [z3<=z4,z4<z0],headF (List.drop (q*1) (ints L))=some (i6 y),decide (x<=y)=false,wr .i64 (z1+1)=z2,Bn [z5,n=n,z5,z0=z0,z2=z2]]) ?_
      (repeat'(first|(with_reducible apply And.intro)|(refine fun(_:True)=>?_)))<;>first|exact aq|skip
      all_goals skip
     ·have hf := bad (fun ⟨_, _, h⟩ => h.elim h0 h3)
      refine .inr ⟨.ret,[],{sl:=[(4,.bool false)]},[yes 10,pl 12,ld 13 (i6 (L.getD k 0)),no 15,no 19,yes 23,nu 28 (q:Nat),pl 29,ld 30 (i6 (L.getD (k-1) 0)),yes 31],1000,.inr (.inl ⟨hf,rfl,rfl⟩),?_⟩
      clear hin bad good
      rw[<-hq]at hld2 h3⊢
      generalize L.getD k 0=x at*
      generalize L.getD q 0=y at*
      refine m_ (p:=let z0:=(k:Int);let z1:=(L.length:Int);let z2:=(0:Int);let z3:=(q:Int);Bn [decide (z0<z1)=true,An [z2<=z0,z0<z1],headF (List.drop (k*1) (ints L))=some (i6 x),decide (x<z2)=false,decide (x>=n)=false,decide (z0>z2)=true,wr .i64 (z0-1)=z3,An [z2<=z3,z3<z1],headF (List.drop (q*1) (ints L))=some (i6 y),decide (x<=y)=true,Bn [Sm false]]) ?_
      (repeat'(first|(with_reducible apply And.intro)|(refine fun(_:True)=>?_)))<;>first|exact aq|skip
      all_goals skip
   ·have hf := bad (fun ⟨_, h, _⟩ => h2 h)
    refine .inr ⟨.ret,[],{sl:=[(4,.bool false)]},[yes 10,pl 12,ld 13 (i6 (L.getD k 0)),no 15,yes 19],1000,.inr (.inl ⟨hf,rfl,rfl⟩),?_⟩
    clear hin bad good
    generalize L.getD k 0=x at*
    refine m_ (p:=let z0:=(k:Int);Bn [decide (z0<(L.length:Int))=true,An [(0:Int)<=z0,z0<(L.length:Int)],headF (List.drop (k*1) (ints L))=some (i6 x),decide (x<0)=false,decide (x>=n)=true,Bn [Sm false]]) ?_
    (repeat'(first|(with_reducible apply And.intro)|(refine fun(_:True)=>?_)))<;>first|exact aq|skip
    all_goals skip
  ·have hf := bad (fun ⟨h, _⟩ => h1 h)
   refine .inr ⟨.ret,[],{sl:=[(4,.bool false)]},[yes 10,pl 12,ld 13 (i6 (L.getD k 0)),yes 15],1000,.inr (.inl ⟨hf,rfl,rfl⟩),?_⟩
   clear hin bad good
   generalize L.getD k 0=x at*
   refine m_ (p:=let z0:=(k:Int);Bn [decide (z0<(L.length:Int))=true,An [(0:Int)<=z0,z0<(L.length:Int)],headF (List.drop (k*1) (ints L))=some (i6 x),decide (x<0)=true,Bn [Sm false]]) ?_
   (repeat'(first|(with_reducible apply And.intro)|(refine fun(_:True)=>?_)))<;>first|exact aq|skip
   all_goals skip
 ·have hk2 : k = L.length := by omega
  subst hk2
  refine .inr ⟨.exit 0,[],{sl:=[]},[no 10],1000,.inl ⟨Qev.2 hin,rfl,rfl⟩,?_⟩
  clear hin
  refine m_ (p:=Bn [decide ((L.length:Int)<(L.length:Int))=false,Tt]) ?_
  (repeat'(first|(with_reducible apply And.intro)|(refine fun(_:True)=>?_)))<;>first|exact aq|skip
  all_goals skip
theorem Qex(L:List Int)(n:Int)(hl:L.length<=1000000):FnOk Pg g0 85 [sl L,i6 n] (.bool (incB n L)):=by
 have hL:=Qaa L
 have h:=Qg0 L n hl
 generalize hb:incB n L=b at*
 cases b with
 |true=>
  refine FnOk.of_vc vE_ok mixed Qab (n:=1000) (r:=[]) (S:={sl:=[(4,.bool true)]}) (hs:=[(0,.loop [] (icS L n 0) [(true=true,.exit 0,{sl:=[]}),(true=false,.ret,{sl:=[(4,.bool false)]})])]) ?_
  refine m_ (p:=let z0:=An [Sm L.length,Sm (ints L)];Bn [Sm (V.bool true),Bn [Bn [z0,n=n,z0,Sm (L.length:Int),((0:Nat):Int)=(0:Int)]],Sat Try.prog none 0 (at' 85 [1,0,1,0]) (mkSt g0 35 (icS L n 0)) (Qad g0 35 [(true=true,Ex.exit 0,SL.mk [] [] [] []),(true=false,Ex.ret,SL.mk [(4,V.bool false)] [] [] [])]),(true=true->Bn [Bn [Sm true]]),(true=false->Bn [Bn [true=false]])]) ?_
  (repeat'(first|(with_reducible apply And.intro)|(refine fun(_:True)=>?_)))<;>first|exact aq|skip
  all_goals first|exact h|(intro h;cases h)|skip
 |false=>
  refine FnOk.of_vc vE_ok mixed Qab (n:=1000) (r:=[]) (S:={sl:=[(4,.bool false)]}) (hs:=[(0,.loop [] (icS L n 0) [(false=true,.exit 0,{sl:=[]}),(false=false,.ret,{sl:=[(4,.bool false)]})])]) ?_
  refine m_ (p:=let z0:=An [Sm L.length,Sm (ints L)];Bn [Sm (V.bool false),Bn [Bn [z0,n=n,z0,Sm (L.length:Int),((0:Nat):Int)=(0:Int)]],Sat Try.prog none 0 (at' 85 [1,0,1,0]) (mkSt g0 35 (icS L n 0)) (Qad g0 35 [(false=true,Ex.exit 0,SL.mk [] [] [] []),(false=false,Ex.ret,SL.mk [(4,V.bool false)] [] [] [])]),(false=true->Bn [Bn [false=true]]),(false=false->Bn [Bn [Sm false]])]) ?_
  (repeat'(first|(with_reducible apply And.intro)|(refine fun(_:True)=>?_)))<;>first|exact aq|skip
  all_goals first|exact h|(intro h;cases h)|skip
structure Mc where
 c:Int
 fr:List Int
 no:List Int
 ou:List Int
def mcC(x:Mc):List V:=[i6 x.c,sl x.fr,sl x.no,sl x.ou]
def mcL:List Mc->List V
 |[]=>[]
 |x::l=>mcC x++mcL l
def rtL(R:List (List Int)):List V:=R.map sl
abbrev mdV(g:Int)(R:List (List Int))(N:List Mc):V:=.agg [i6 g,.im R.length (rtL R),.im N.length (mcL N)]
theorem Qah(R:List (List Int)):HfL (rtL R):=Qgg _ R (fun _=>trivial)
theorem Qaj: ∀N,HfL (mcL N)
 |[]=>trivial
 |x::l=>⟨trivial,trivial,trivial,trivial,Qaj l⟩
theorem Qff{R:List (List Int)}{k:Nat}(h:k<R.length):headF ((rtL R).drop (k*1))=some (sl (R.getD k [])):=by
 unfold rtL
 rw[List.getD_eq_getElem?_getD,List.getElem?_eq_getElem h]
 exact Qf6 (List.getElem?_eq_getElem h)
theorem Ql0: ∀{N:List Mc}{k:Nat}{x:Mc},N[k]? =some x->(mcL N).drop (k*4)=mcC x++mcL (N.drop (k+1))
 |[],k,x,h=>by simp at h
 |y::l,0,x,h=>by cases h;rfl
 |y::l,k+1,x,h=>by
  show(mcC y++mcL l).drop ((k+1)*4)=_
  rw[Nat.succ_mul,Nat.add_comm,List.drop_append,show(mcC y).drop (4+k*4)=[]from List.drop_eq_nil_of_le (by show 4<=_;omega)]
  show([]:List V)++(mcL l).drop (4+k*4-4)=_
  rw[Nat.add_sub_cancel_left,List.nil_append]
  exact Ql0 (N:=l) (by simpa using h)
def sumI:List Int->Int
 |[]=>0
 |x::l=>x+sumI l
theorem Qka: ∀(a b:List Int),sumI (a++b)=sumI a+sumI b
 |[],b=>by show sumI b=0+sumI b;omega
 |x::a,b=>by show x+sumI (a++b)=x+sumI a+sumI b;rw[Qka a b];omega
theorem Qln{L:List Int}{k:Nat}(h:k<L.length):sumI (L.take (k+1))=sumI (L.take k)+L.getD k 0:=by
 rw[List.take_add_one,Qka,List.getElem?_eq_getElem h,List.getD_eq_getElem?_getD,List.getElem?_eq_getElem h]
 show _+(L[k]+0)=_+L[k]
 omega
theorem Quc{G:Int}: ∀{L:List Int},(∀x∈L,0<=x/\x<=G)->0<=sumI L/\sumI L<=L.length*G
 |[],_=>by simp[sumI]
 | x :: l, h => by
  have h1:=h x (List.mem_cons_self)
  have h2:=Quc (L:=l) fun y hy=>h y (List.mem_cons_of_mem _ hy)
  have e:((x::l).length:Int)*G=G+l.length*G:=by
   rw[List.length_cons,Int.natCast_add,Int.add_mul];omega
  show 0<=x+sumI l/\x+sumI l<=_
  rw[e];omega
def rtB(g:Int)(L:List Int):Bool:=(decide (1<=L.length)&&decide (L.length<=4))&&inB 0 g L&&decide (sumI L=g)
def prK(R:List (List Int)):Nat->Nat
 |0=>1
 |k+1=>prK R k*(R.getD k []).length
def rootsB(g:Int)(R:List (List Int)):Bool:=R.all (rtB g)&&decide (prK R R.length<=1024)
abbrev rsS(L:List Int)(g:Int)(R:List V)(n:Nat)(N:List V)(k:Nat)(p:Int)(q:Nat)(sm:Int)(i:Nat):SL:={sl:=[(1,.ptr 0 0),(3,i6 p),(4,.bool true),(6,sl L),(7,i6 sm),(11,.im n R),(12,i6 (n:Nat)),(13,i6 (k:Nat)),(33,sl L),(34,i6 (L.length:Nat)),(35,i6 (i:Nat))],os:=[.row 26 none [i6 g,.im n R,.im q N]]}
theorem roots_in(L:List Int)(g:Int)(R:List V)(hR:HfL R)(n:Nat)(N:List V)(hN:HfL N)(k:Nat)(p:Int)(q:Nat)(h4:L.length<=4)(hg:1<=g/\g<=12)(hin: ∀i,i<L.length->0<=L.getD i 0/\L.getD i 0<=g):
  Sat Pg none 0 (at' 55 [1,0,1,1,0,1,0,0,1,1,0,0,1,1,1,1,0,1,0]) (mkSt g0 53 (rsS L g R n N k p q 0 0)) (Qad g0 53 [(True,.exit 2,rsS L g R n N k p q (sumI L) L.length)]):=by
 have hL:=Qaa L
 have jx: ∀i,i<=L.length->0<=sumI (L.take i)/\sumI (L.take i)<=12*i:=by
  intro i
  induction i with
  |zero=>intro _;simp[sumI]
  |succ i ih=>
   intro hi
   have:=ih o_
   have h2:=hin i o_
   rw[Qln (show i<L.length by omega)]
   omega
 have e0:sumI (L.take 0)=0:=rfl
 have key:=Qav vE_ok mixed Qab (c:=at' 55 [1,0,1,1,0,1,0,0,1,1,0,0,1,1,1,1,0,1,0]) (b:=at' 55 [1,0,1,1,0,1,0,0,1,1,0,0,1,1,1,1,0,1,0,0]) k_ (gl:=g0) (rd:=none) (nx0:=0) (k:=53) (fun i=>i<=L.length) (fun i=>rsS L g R n N k p q (sumI (L.take i)) i) (fun i=>L.length-i) (R:=Qad g0 53 [(True,.exit 2,rsS L g R n N k p q (sumI L) L.length)]) (fun i hi=>?_) 0 (Nat.zero_le _)
 ·rw[e0]at key;exact key
 ·by_cases hlt : i < L.length
  ·have hld := Qag hlt
   have h1:=jx i hi
   have h2:=hin i hlt
   have e:=Qln hlt
   refine .inl ⟨i+1,[0],[yes 36,pl 37,ld 38 (i6 (L.getD i 0)),nu 41 (sumI (L.take (i+1))),nu 42 ((i+1:Nat):Int)],1000,hlt,by omega,?_⟩
   generalize L.getD i 0=x at*
   generalize sumI (L.take (i+1))=s1 at*
   generalize sumI (L.take i)=s0 at*
   clear jx hin
   refine m_ (p:=let z4:=An [Sm L.length,Sm (ints L)];let z0:=(L.length:Int);let z1:=(↑(i+1):Int);let z2:=(i:Int);let z3:=[i6 g,V.im n R,V.im q N];Bn [decide (z2<z0)=true,An [(0:Int)<=z2,z2<z0],headF (List.drop (i*1) (ints L))=some (i6 x),wr .i64 (s0+x)=s1,wr .i64 (z2+1)=z1,Bn [Zz,p=p,Sm true,z4,s1=s1,An [n=n,R=R],Sm (n:Int),Sm (k:Int),z4,z0=z0,z1=z1],An [z3=z3,TT 3]]) ?_
   (repeat'(first|(with_reducible apply And.intro)|(refine fun(_:True)=>?_)))<;>first|exact aq|skip
   all_goals skip
  ·have hi2 : i = L.length := by omega
   subst hi2
   rw[List.take_length]
   refine .inr ⟨.exit 2,[0],rsS L g R n N k p q (sumI L) L.length,[no 36],1000,.inl ⟨trivial,rfl,rfl⟩,?_⟩
   generalize sumI L=s0 at*
   clear jx hin
   refine m_ (p:=let z2:=An [Sm L.length,Sm (ints L)];let z0:=(L.length:Int);let z1:=[i6 g,V.im n R,V.im q N];Bn [decide (z0<z0)=false,Bn [Zz,p=p,Sm true,z2,s0=s0,An [n=n,R=R],Sm (n:Int),Sm (k:Int),z2,z0=z0,z0=z0],An [z1=z1,TT 3]]) ?_
   (repeat'(first|(with_reducible apply And.intro)|(refine fun(_:True)=>?_)))<;>first|exact aq|skip
   all_goals skip
abbrev roS(g:Int)(R:List V)(n:Nat)(q:Nat)(N:List V)(k:Nat)(p:Int):SL:={sl:=[(1,.ptr 0 0),(3,i6 p),(4,.bool true),(11,.im n R),(12,i6 (n:Nat)),(13,i6 (k:Nat))],os:=[.row 26 none [i6 g,.im n R,.im q N]]}
theorem Qml(R:List (List Int))(h: ∀k,k<R.length->1<=(R.getD k []).length/\(R.getD k []).length<=4): ∀k,k<=R.length->1<=prK R k/\prK R k<=4^k
 |0,_=>by simp[prK]
 |k+1,hk=>by
  obtain⟨h1,h2⟩:=Qml R h k o_
  obtain⟨h3,h4⟩:=h k o_
  unfold prK
  refine⟨Nat.mul_pos h1 h3,?_⟩
  rw[Nat.pow_succ]
  exact Nat.mul_le_mul h2 h4
theorem Qto{g:Int}{L:List Int}(h:rtB g L=true):1<=L.length/\L.length<=4:=by
 unfold rtB at h
 simp only[Bool.and_eq_true,decide_eq_true_eq]at h
 exact h.1.1
theorem Qpx(g:Int)(hg:1<=g/\g<=12)(R:List (List Int))(hl:R.length<=8)(h6: ∀L∈R,L.length<=1000000)(q:Nat)(N:List V)(hN:HfL N):
  Sat Pg none 0 (at' 55 [1,0,1,1,0,1,0]) (mkSt g0 53 (roS g (rtL R) R.length q N 0 1)) (Qad g0 53 [(R.all (rtB g)=true,.exit 0,{sl:=[(3,i6 (prK R R.length:Nat)),(4,.bool true)]}),(R.all (rtB g)=false,.exit 0,{sl:=[(4,.bool false)]})]):=by
 have hR:=Qah R
 refine Qav vE_ok mixed Qab (b:=at' 55 [1,0,1,1,0,1,0,0]) k_ (fun k=>k<=R.length/\∀i,i<k->rtB g (R.getD i [])=true) (fun k=>roS g (rtL R) R.length q N k (prK R k:Nat)) (fun k=>R.length-k) (fun k hk=>?_) 0 ⟨Nat.zero_le _,fun i h=>absurd h (Nat.not_lt_zero _)⟩
 obtain⟨hk,hin⟩:=hk
 have hpk:prK R k<=65536:=by
  have: ∀k',k'<=k->prK R k'<=4^k':=by
   intro k'
   induction k' with
   |zero=>intro _;simp[prK]
   |succ k' ih=>
    intro hk'
    unfold prK
    rw[Nat.pow_succ]
    exact Nat.mul_le_mul (ih o_) (Qto (hin k' o_)).2
  have h1:=this k (Nat.le_refl _)
  have h2:4^k<=4^8:=Nat.pow_le_pow_right d_ o_
  omega
 by_cases hlt:k<R.length
 ·have hld := Qff hlt
  have jb:R.getD k []∈R:=by rw[List.getD_eq_getElem?_getD,List.getElem?_eq_getElem hlt];exact List.getElem_mem hlt
  have h6k:=h6 _ jb
  have bad:rtB g (R.getD k [])=false->R.all (rtB g)=false:=fun h=>by
   cases hb:R.all (rtB g)with
   |false=>rfl
   |true=>rw[List.all_eq_true.1 hb _ jb]at h;cases h
  have e1:prK R (k+1)=prK R k*(R.getD k []).length:=rfl
  have jn:rtB g (R.getD k [])=true->∀i,i<k+1->rtB g (R.getD i [])=true:=fun h i hi=>by
   by_cases hik:i=k
   ·subst hik;exact h
   ·exact hin i o_
  generalize R.getD k []=L at*
  have hL:=Qaa L
  have w1:=Qbz 1 4 [(L.length:Int)] (by simp)
  have w2:=Qbz 0 g L h6k
  have e2:inB 1 4 [(L.length:Int)]=(decide (1<=L.length)&&decide (L.length<=4)):=by
   show(decide ((1:Int)<=L.length)&&decide ((L.length:Int)<=4)&&true)=_
   rw[Bool.and_true]
   congr 1<;>exact decide_eq_decide.2 o_
  rw[e2]at w1
  have eR:rtB g L=((decide (1<=L.length)&&decide (L.length<=4))&&inB 0 g L&&decide (sumI L=g)):=rfl
  generalize hp1e:prK R (k+1)=p1 at*
  generalize prK R k=p0 at*
  generalize rtL R=RR at*
  generalize R.length=n at*
  cases hc1:(decide (1<=L.length)&&decide (L.length<=4))with
  |false=>
   rw[hc1]at w1 eR
   have hf:=bad (by rw[eR];rfl)
   refine .inr ⟨.exit 0,[],{sl:=[(4,.bool false)]},[yes 14,pl 15,ld 16 (sl L),fn 20 (.bool false)],1000,.inr (.inl ⟨hf,rfl,rfl⟩),?_⟩
   clear hin bad jn hf
   refine m_ (p:=let z0:=(k:Int);Bn [decide (z0<(n:Int))=true,An [(0:Int)<=z0,z0<(n:Int)],headF (List.drop (k*1) RR)=some (sl L),Bn [Tt,Tt,Bn [Tt]],FnOk Try.prog g0 54 [i6 1,i6 4,V.im 1 [i6 L.length]] (V.bool false),Tt,Bn [Sm false]]) ?_
   (repeat'(first|(with_reducible apply And.intro)|(refine fun(_:True)=>?_)))<;>first|exact aq|skip
   all_goals first|exact w1|skip
  | true =>
   rw[hc1]at w1 eR
   simp only[Bool.and_eq_true,decide_eq_true_eq]at hc1
   cases hc2:inB 0 g L with
   |false=>
    rw[hc2]at w2 eR
    have hf:=bad (by rw[eR];rfl)
    refine .inr ⟨.exit 0,[],{sl:=[(4,.bool false)]},[yes 14,pl 15,ld 16 (sl L),fn 20 (.bool true),fn 26 (.bool false)],1000,.inr (.inl ⟨hf,rfl,rfl⟩),?_⟩
    clear hin bad jn hf
    refine m_ (p:=let z0:=pt (ofOs T.e 0 [O.row 26 none [i6 g,V.im n RR,V.im q N]]) 1 (O.row 3 none [i6 L.length]);let z1:=(k:Int);Bn [decide (z1<(n:Int))=true,An [(0:Int)<=z1,z1<(n:Int)],headF (List.drop (k*1) RR)=some (sl L),Bn [Tt,Tt,Bn [Tt]],FnOk Try.prog g0 54 [i6 1,i6 4,V.im 1 [i6 L.length]] (V.bool true),Tt,TT 3,FnOk Try.prog g0 54 [i6 0,i6 g,V.im L.length (ints L)] (V.bool false),Bn [(V.fn 54 []=V.fn 54 []->[i6 1,i6 4,V.sl 1 0 1 (some 0)]=[i6 0,i6 g,sl L]->z0=z0->1+1=2->CR.mk (V.bool true) z0 2 []=CR.mk (V.bool false) z0 2 [])],Bn [Sm false]]) ?_
    (repeat'(first|(with_reducible apply And.intro)|(refine fun(_:True)=>?_)))<;>first|exact aq|skip
    all_goals first|exact w1|exact w2|skip
   | true =>
    rw[hc2]at w2 eR
    have hloop:=roots_in L g RR hR n N hN k (p1:Nat) q hc1.2 hg (Qbf.1 hc2)
    have hp1:(p0:Int)*L.length=p1:=by rw[e1];exact(Int.natCast_mul _ _).symm
    have hp2:(p1:Int)<=9223372036854775807:=by
     have:p1<=65536*4:=by rw[e1];exact Nat.mul_le_mul hpk hc1.2
     omega
    have hs:0<=sumI L/\sumI L<=48:=by
     have h1:=Quc (G:=g) (L:=L) fun x hx=>by
      obtain⟨i,hi,e⟩:=List.getElem_of_mem hx
      have:=Qbf.1 hc2 i hi
      rw[List.getD_eq_getElem?_getD,List.getElem?_eq_getElem hi]at this
      simp only[Option.getD_some]at this
      rw[e]at this;exact this
     have h2:(L.length:Int)*g<=4*12:=Int.mul_le_mul o_ hg.2 o_ d_
     omega
    generalize hsm:sumI L=sm at*
    by_cases h5:sm=g
    ·have hg2 := jn (by rw [eR]; simp [h5])
     refine .inl ⟨k+1,[0],[yes 14,pl 15,ld 16 (sl L),fn 20 (.bool true),fn 26 (.bool true),nu 32 (p1:Nat),(0,.loop [0] (rsS L g RR n N k (p1:Nat) q 0 0) [(True,.exit 2,rsS L g RR n N k (p1:Nat) q sm L.length)]),no 46,nu 47 ((k+1:Nat):Int)],1000,⟨hlt,hg2⟩,by omega,?_⟩
     clear hin bad jn hg2 eR e1
     refine m_ (p:=let z9:=An [Sm L.length,Sm (ints L)];let z1:=[i6 g,V.im n RR,V.im q N];let z2:=(p1:Int);let z3:=(k:Int);let z4:=(n:Int);let z5:=V.bool true;let z6:=(L.length:Int);let z7:=(↑(k+1):Int);let z8:=(0:Int);let z0:=pt (ofOs T.e 0 [O.row 26 none z1]) 1 (O.row 3 none [i6 L.length]);Bn [decide (z3<z4)=true,An [z8<=z3,z3<z4],headF (List.drop (k*1) RR)=some (sl L),Bn [Tt,Tt,Bn [Tt]],FnOk Try.prog g0 54 [i6 1,i6 4,V.im 1 [i6 L.length]] z5,Tt,TT 3,FnOk Try.prog g0 54 [i6 0,i6 g,V.im L.length (ints L)] z5,Bn [(V.fn 54 []=V.fn 54 []->[i6 1,i6 4,V.sl 1 0 1 (some 0)]=[i6 0,i6 g,sl L]->z0=z0->1+1=2->Sm (CR.mk z5 z0 2 []))],wr .i64 ((p0:Int)*z6)=z2,Bn [Bn [Zz,z2=z2,Sm true,z9,z8=z8,An [n=n,RR=RR],z4=z4,z3=z3,z9,z6=z6,((0:Nat):Int)=z8],An [z1=z1,TT 3]],Sat Try.prog none 0 (at' 55 [1,0,1,1,0,1,0,0,1,1,0,0,1,1,1,1,0,1,0]) (mkSt g0 53 (rsS L g RR n N k z2 q z8 0)) (Qad g0 53 [(True,Ex.exit 2,rsS L g RR n N k z2 q sm L.length)]),(True->Bn [(sm != g)=false,wr .i64 (z3+1)=z7,Bn [Zz,(↑(prK R (k+1)):Int)=z2,Sm true,An [n=n,RR=RR],z4=z4,z7=z7],An [z1=z1,TT 3]])]) ?_
     (repeat'(first|(with_reducible apply And.intro)|(refine fun(_:True)=>?_)))<;>first|exact aq|skip
     all_goals first|(rw[hp1e];done)|exact w1|exact w2|exact hloop|skip
    ·have hf := bad (by rw [eR]; simp [h5])
     refine .inr ⟨.exit 0,[],{sl:=[(4,.bool false)]},[yes 14,pl 15,ld 16 (sl L),fn 20 (.bool true),fn 26 (.bool true),nu 32 (p1:Nat),(0,.loop [0] (rsS L g RR n N k (p1:Nat) q 0 0) [(True,.exit 2,rsS L g RR n N k (p1:Nat) q sm L.length)]),yes 46],1000,.inr (.inl ⟨hf,rfl,rfl⟩),?_⟩
     clear hin bad jn hf eR e1
     refine m_ (p:=let z8:=An [Sm L.length,Sm (ints L)];let z1:=[i6 g,V.im n RR,V.im q N];let z2:=(p1:Int);let z3:=(k:Int);let z4:=V.bool true;let z5:=(L.length:Int);let z6:=(n:Int);let z7:=(0:Int);let z0:=pt (ofOs T.e 0 [O.row 26 none z1]) 1 (O.row 3 none [i6 L.length]);Bn [decide (z3<z6)=true,An [z7<=z3,z3<z6],headF (List.drop (k*1) RR)=some (sl L),Bn [Tt,Tt,Bn [Tt]],FnOk Try.prog g0 54 [i6 1,i6 4,V.im 1 [i6 L.length]] z4,Tt,TT 3,FnOk Try.prog g0 54 [i6 0,i6 g,V.im L.length (ints L)] z4,Bn [(V.fn 54 []=V.fn 54 []->[i6 1,i6 4,V.sl 1 0 1 (some 0)]=[i6 0,i6 g,sl L]->z0=z0->1+1=2->Sm (CR.mk z4 z0 2 []))],wr .i64 ((p0:Int)*z5)=z2,Bn [Bn [Zz,z2=z2,Sm true,z8,z7=z7,An [n=n,RR=RR],z6=z6,z3=z3,z8,z5=z5,((0:Nat):Int)=z7],An [z1=z1,TT 3]],Sat Try.prog none 0 (at' 55 [1,0,1,1,0,1,0,0,1,1,0,0,1,1,1,1,0,1,0]) (mkSt g0 53 (rsS L g RR n N k z2 q z7 0)) (Qad g0 53 [(True,Ex.exit 2,rsS L g RR n N k z2 q sm L.length)]),(True->Bn [(sm != g)=true,Bn [Sm false]])]) ?_
     (repeat'(first|(with_reducible apply And.intro)|(refine fun(_:True)=>?_)))<;>first|exact aq|skip
     all_goals first|exact w1|exact w2|exact hloop|skip
 ·have hk2 : k = R.length := by omega
  have jx:R.all (rtB g)=true:=List.all_eq_true.2 fun L hL=>by
   obtain⟨i,hi,e⟩:=List.getElem_of_mem hL
   have:=hin i o_
   rw[List.getD_eq_getElem?_getD,List.getElem?_eq_getElem hi]at this
   simp only[Option.getD_some]at this
   rw[e]at this;exact this
  subst hk2
  generalize hp0:prK R R.length=p0 at*
  refine .inr ⟨.exit 0,[],{sl:=[(3,i6 (p0:Nat)),(4,.bool true)]},[no 14],1000,.inl ⟨jx,rfl,rfl⟩,?_⟩
  generalize rtL R=RR at*
  generalize R.length=n at*
  clear hin jx hp0
  refine m_ (p:=Bn [decide ((n:Int)<(n:Int))=false,Bn [Sm (p0:Int),Sm true]]) ?_
  (repeat'(first|(with_reducible apply And.intro)|(refine fun(_:True)=>?_)))<;>first|exact aq|skip
  all_goals skip
set_option maxHeartbeats 4000000
abbrev w4(p j:List Nat)(x y:Nat):List V:=[ul p,ul j,u6 (x:Nat),u6 (y:Nat)]
abbrev wbV(e:Nat):V:=.tup [.agg [i6 0,u6 0,.nils],hgV (0,0,0),i6 (e:Nat)]
abbrev wz(e:Nat):V:=.tup [.agg [i6 0,.nils,.nils],.agg [i6 0,.nils,.nils],i6 (e:Nat)]
theorem gw_a:GrOk [0,1] [2,1]:=Qry (rk:=fun v=>v) k_
theorem gw_p:GrOk [0,1,2,4] [2,1,0,0]:=Qry (rk:=fun v=>v) k_
theorem gw_0:GrOk [0,1,2,4] [0,0,0,0]:=Qry (rk:=fun v=>v) k_
def soX:Option (Es ⊕ Nat×Nat×Nat)->Es
 |some (.inl x)=>x
 | _=>.mk 0 0 []
def inlW:Option (Es ⊕ Nat×Nat×Nat)->Bool
 |some (.inl _)=>true
 | _=>false
theorem inl_soX: ∀{o:Option (Es ⊕ Nat×Nat×Nat)},inlW o=true->o=some (.inl (soX o))
 |some (.inl x),_=>rfl
noncomputable def xwa:Es:=soX (soE [0,1] [2,1] 2 1 [0,1] 3)
theorem wi_a:FnOk Pg g0 16 (w4 [0,1] [2,1] 2 1) (.tup [esV xwa,hgV (0,0,0),i6 (0:Nat)]):=
 ident_ok gw_a (Qb3 k_) (y:=(3,[0,1])) k_ (F:=3) (inl_soX k_)
theorem wi_p:FnOk Pg g0 16 (w4 [0,1,2,4] [2,1,0,0] 1 8) (.tup [.agg [i6 0,u6 0,.nils],hgV (3,2,2),i6 (351:Nat)]):=
 ident_no gw_p (Qb3 k_) (y:=(15,[0,1,2,3])) k_ (F:=5) k_
theorem as_1:FnOk Pg g0 35 (w4 [0,1] [2,1] 1 1) (i6 (2:Nat)):=FnOk.of_run vE_ok mixed (n:=100000) rfl k_
theorem as_2:FnOk Pg g0 35 (w4 [0] [1] 0 1) (i6 (350:Nat)):=FnOk.of_run vE_ok mixed (n:=100000) rfl k_
theorem as_3:FnOk Pg g0 35 (w4 [1] [0] 4 4) (i6 (350:Nat)):=FnOk.of_run vE_ok mixed (n:=100000) rfl k_
theorem as_4:FnOk Pg g0 35 (w4 [0,1,2,4] [2,1,0,0] 1 0) (i6 (2:Nat)):=FnOk.of_run vE_ok mixed (n:=100000) rfl k_
theorem wi_1:FnOk Pg g0 16 (w4 [0,1] [2,1] 1 1) (wbV 2):=Qck [0,1] [2,1] 1 1 2 d_ as_1
theorem wi_2:FnOk Pg g0 16 (w4 [0] [1] 0 1) (wbV 350):=Qck [0] [1] 0 1 350 d_ as_2
theorem wi_3:FnOk Pg g0 16 (w4 [1] [0] 4 4) (wbV 350):=Qck [1] [0] 4 4 350 d_ as_3
theorem wi_4:FnOk Pg g0 16 (w4 [0,1,2,4] [2,1,0,0] 1 0) (wbV 2):=Qck [0,1,2,4] [2,1,0,0] 1 0 2 d_ as_4
noncomputable def jk1:Hook:=Qlc 16 (w4 [0,1] [2,1] 2 1) (.tup [esV xwa,hgV (0,0,0),i6 (0:Nat)]) Qoa
noncomputable def jk2:Hook:=Qbg 16 (w4 [0,1,2,4] [2,1,0,0] 1 8) (.tup [.agg [i6 0,u6 0,.nils],hgV (3,2,2),i6 (351:Nat)]) jk1
noncomputable def jk3:Hook:=Qbg 16 (w4 [0,1] [2,1] 1 1) (wbV 2) jk2
noncomputable def jk4:Hook:=Qbg 16 (w4 [0] [1] 0 1) (wbV 350) jk3
noncomputable def jk5:Hook:=Qbg 16 (w4 [1] [0] 4 4) (wbV 350) jk4
noncomputable def jk6:Hook:=Qbg 16 (w4 [0,1,2,4] [2,1,0,0] 1 0) (wbV 2) jk5
theorem jk1_ok:Qaq Pg jk1:=Qdx Qhf k_ k_ wi_a
theorem jk2_ok:Qaq Pg jk2:=Qal jk1_ok rfl k_ wi_p
theorem jk3_ok:Qaq Pg jk3:=Qal jk2_ok rfl k_ wi_1
theorem jk4_ok:Qaq Pg jk4:=Qal jk3_ok rfl k_ wi_2
theorem jk5_ok:Qaq Pg jk5:=Qal jk4_ok rfl k_ wi_3
theorem jk6_ok:Qaq Pg jk6:=Qal jk5_ok rfl k_ wi_4
noncomputable def vJ:Env:=Qq9 Pg jk6 extF
theorem Qp6:vJ.Ok Pg:=Qno plain jk6_ok Qns
def wdR:List (List Int):=[[2,2],[1,3]]
def wdN:List Mc:=[⟨2,[],[0],[0,1]⟩,⟨2,[0],[0,1],[0,1,1,0,1,0,0,1]⟩]
def wfN:List Mc:=[⟨2,[],[0],[0,1]⟩,⟨2,[],[1],[0,1]⟩]
def waR:List (List Int):=[[2,2],[1,3],[1,3],[1,3]]
def waN:List Mc:=[⟨2,[],[0],[0,1]⟩,⟨2,[0],[0,1],[0,1,1,0,1,0,0,1]⟩,⟨2,[1],[2],[0,1,1,0]⟩,⟨2,[2],[3],[0,1,1,0]⟩]
def wbN:List Mc:=[⟨2,[],[0],[0,1]⟩,⟨2,[],[1],[0,1]⟩,⟨2,[1],[2],[0,1,1,0]⟩,⟨2,[2],[3],[0,1,1,0]⟩]
def wsN:List Mc:=[⟨2,[],[],[0]⟩,⟨2,[0],[],[0,1]⟩]
def wtN:List Mc:=[⟨2,[],[],[0]⟩,⟨2,[0],[],[0,0]⟩]
theorem wpair_fn:FnOk Pg g0 7 [] (.tup [mdV 4 wdR wdN,mdV 4 wdR wfN]):=FnOk.of_runV vE_ok (n:=100000) k_ k_
theorem mk_1:FnOk Pg g0 8 (w4 [0,1] [2,1] 2 1) (wz 4):=FnOk.of_runV Qp6 (n:=100000) rfl k_
theorem mk_2:FnOk Pg g0 8 (w4 [0,1] [2,1] 1 1) (wz 2):=FnOk.of_runV Qp6 (n:=100000) rfl k_
theorem mk_3:FnOk Pg g0 8 (w4 [0] [1] 0 1) (wz 350):=FnOk.of_runV Qp6 (n:=100000) rfl k_
theorem mk_4:FnOk Pg g0 8 (w4 [1] [0] 4 4) (wz 350):=FnOk.of_runV Qp6 (n:=100000) rfl k_
theorem mk_5:FnOk Pg g0 8 (w4 [0,1,2,4] [2,1,0,0] 1 0) (wz 2):=FnOk.of_runV Qp6 (n:=100000) rfl k_
theorem mk_p:FnOk Pg g0 8 (w4 [0,1,2,4] [2,1,0,0] 1 8) (.tup [mdV 4 waR waN,mdV 4 waR wbN,i6 0]):=FnOk.of_runV Qp6 (n:=100000) k_ k_
set_option maxHeartbeats 1000000
theorem roots_fn(g:Int)(hg:1<=g/\g<=12)(R:List (List Int))(hl:R.length<=8)(h6: ∀L∈R,L.length<=1000000)(N:List Mc):FnOk Pg g0 55 [mdV g R N] (.bool (rootsB g R)):=by
 have hR:=Qah R
 have hN:=Qaj N
 have h:=Qpx g hg R hl h6 N.length (mcL N) hN
 show FnOk Pg g0 55 [.agg [i6 g,.im R.length (rtL R),.im N.length (mcL N)]] (.bool (R.all (rtB g)&&decide (prK R R.length<=1024)))
 generalize hp:prK R R.length=p at*
 generalize rtL R=RR at*
 generalize mcL N=NN at*
 generalize hb:R.all (rtB g)=b at*
 generalize R.length=n at*
 cases b with
 |false=>
  refine FnOk.of_vc vE_ok mixed Qab (n:=1000) (r:=[]) (S:={sl:=[(2,.bool false)]}) (hs:=[(0,.loop [0] (roS g RR n N.length NN 0 1) [(false=true,.exit 0,{sl:=[(3,i6 (p:Nat)),(4,.bool true)]}),(false=false,.exit 0,{sl:=[(4,.bool false)]})])]) ?_
  refine m_ (p:=Bn [V.bool false=V.bool (false&&decide (p<=1024)),Bn [Bn [Zz,Sm (1:Int),Sm true,An [n=n,RR=RR],Sm (n:Int),((0:Nat):Int)=(0:Int)],An [Sm [i6 g,V.im n RR,V.im N.length NN],TT 3]],Sat Try.prog none 0 (at' 55 [1,0,1,1,0,1,0]) (mkSt g0 53 (roS g RR n N.length NN 0 (1:Int))) (Qad g0 53 [(false=true,Ex.exit 0,SL.mk [(3,i6 p),(4,V.bool true)] [] [] []),(false=false,Ex.exit 0,SL.mk [(4,V.bool false)] [] [] [])]),(false=true->Bn [Bn [false=decide ((p:Int)<=1024)]]),(false=false->Bn [Bn [Sm false]])]) ?_
  (repeat'(first|(with_reducible apply And.intro)|(refine fun(_:True)=>?_)))<;>first|exact aq|skip
  all_goals first|exact h|(intro h;first|(cases h;done)|exact⟨decide_eq_true o_,⟨rfl,trivial⟩,trivial⟩|exact⟨decide_eq_false o_,⟨rfl,trivial⟩,trivial⟩)|skip
 | true =>
  by_cases hp2:p<=1024
  ·rw [decide_eq_true hp2]
   refine FnOk.of_vc vE_ok mixed Qab (n:=1000) (r:=[]) (S:={sl:=[(2,.bool true)]}) (hs:=[(0,.loop [0] (roS g RR n N.length NN 0 1) [(true=true,.exit 0,{sl:=[(3,i6 (p:Nat)),(4,.bool true)]}),(true=false,.exit 0,{sl:=[(4,.bool false)]})]),yes 51]) ?_
   refine m_ (p:=Bn [V.bool true=V.bool (true&&true),Bn [Bn [Zz,Sm (1:Int),Sm true,An [n=n,RR=RR],Sm (n:Int),((0:Nat):Int)=(0:Int)],An [Sm [i6 g,V.im n RR,V.im N.length NN],TT 3]],Sat Try.prog none 0 (at' 55 [1,0,1,1,0,1,0]) (mkSt g0 53 (roS g RR n N.length NN 0 (1:Int))) (Qad g0 53 [(true=true,Ex.exit 0,SL.mk [(3,i6 p),(4,V.bool true)] [] [] []),(true=false,Ex.exit 0,SL.mk [(4,V.bool false)] [] [] [])]),(true=true->Bn [decide ((p:Int)<=1024)=true,Bn [Sm true]]),(true=false->Bn [Bn [true=false]])]) ?_
   (repeat'(first|(with_reducible apply And.intro)|(refine fun(_:True)=>?_)))<;>first|exact aq|skip
   all_goals first|exact h|(intro h;first|(cases h;done)|exact⟨decide_eq_true o_,⟨rfl,trivial⟩,trivial⟩|exact⟨decide_eq_false o_,⟨rfl,trivial⟩,trivial⟩)|skip
  ·rw [decide_eq_false hp2]
   refine FnOk.of_vc vE_ok mixed Qab (n:=1000) (r:=[]) (S:={sl:=[(2,.bool false)]}) (hs:=[(0,.loop [0] (roS g RR n N.length NN 0 1) [(true=true,.exit 0,{sl:=[(3,i6 (p:Nat)),(4,.bool true)]}),(true=false,.exit 0,{sl:=[(4,.bool false)]})]),no 51]) ?_
   refine m_ (p:=Bn [V.bool false=V.bool (true&&false),Bn [Bn [Zz,Sm (1:Int),Sm true,An [n=n,RR=RR],Sm (n:Int),((0:Nat):Int)=(0:Int)],An [Sm [i6 g,V.im n RR,V.im N.length NN],TT 3]],Sat Try.prog none 0 (at' 55 [1,0,1,1,0,1,0]) (mkSt g0 53 (roS g RR n N.length NN 0 (1:Int))) (Qad g0 53 [(true=true,Ex.exit 0,SL.mk [(3,i6 p),(4,V.bool true)] [] [] []),(true=false,Ex.exit 0,SL.mk [(4,V.bool false)] [] [] [])]),(true=true->Bn [decide ((p:Int)<=1024)=false,Bn [Sm false]]),(true=false->Bn [Bn [Sm false]])]) ?_
   (repeat'(first|(with_reducible apply And.intro)|(refine fun(_:True)=>?_)))<;>first|exact aq|skip
   all_goals first|exact h|(intro h;first|(cases h;done)|exact⟨decide_eq_true o_,⟨rfl,trivial⟩,trivial⟩|exact⟨decide_eq_false o_,⟨rfl,trivial⟩,trivial⟩)|skip
def setI(L:List Int):Nat->Nat
 |0=>0
 |k+1=>setI L k|||2^(L.getD k 0).toNat
theorem Qfp{L:List Int}(h: ∀k,k<L.length->0<=L.getD k 0/\L.getD k 0<64): ∀k,k<=L.length->setI L k<18446744073709551616
 |0,_=>by unfold setI;decide
 |k+1,hk=>by
  have:=h k o_
  exact Nat.or_lt_two_pow (n:=64) (Qfp h k o_) (Nat.pow_lt_pow_right o_ o_)
abbrev stS(L:List Int)(k:Nat):SL:={sl:=[(2,u6 (0:Nat)),(3,u6 (setI L k:Nat)),(6,sl L),(7,i6 (L.length:Nat)),(8,i6 (k:Nat))]}
theorem Qj4(L:List Int)(hl:L.length<=1000000)(hL: ∀k,k<L.length->0<=L.getD k 0/\L.getD k 0<64):FnOk Pg g0 70 [sl L] (u6 (setI L L.length:Nat)):=by
 have hf:=Qaa L
 have hloop:Sat Pg none 0 (at' 70 [1,1,0,1,0]) (mkSt g0 18 (stS L 0)) (Qad g0 18 [(True,.exit 0,stS L L.length)]):=by
  refine Qav vE_ok mixed Qab (b:=at' 70 [1,1,0,1,0,0]) k_ (fun k=>k<=L.length) (stS L) (fun k=>L.length-k) (fun k hk=>?_) 0 (Nat.zero_le _)
  by_cases hlt:k<L.length
  ·have hld := Qag hlt
   have h1:=hL k hlt
   obtain⟨x,hx⟩: ∃x:Nat,L.getD k 0=(x:Int):=⟨(L.getD k 0).toNat,by omega⟩
   rw[hx]at hld h1
   have e1:setI L (k+1)=setI L k|||2^x:=by
    show setI L k|||2^(L.getD k 0).toNat=_
    rw[hx];rfl
   obtain⟨s1,s1b⟩:=Qdm (G:=Qac Pg) (t:=29) (k:=x) o_
   have s2:=or_u (G:=Qac Pg) (t:=29) (Qfp hL k hk) s1b
   refine .inl ⟨k+1,[],[yes 9,pl 10,ld 11 (i6 (x:Nat)),va 14 (u6 (2^x:Nat)),va 15 (u6 (setI L (k+1):Nat)),nu 16 ((k+1:Nat):Int)],1000,hlt,by omega,?_⟩
   clear hL
   refine m_ (p:=let z0:=(L.length:Int);let z1:=(↑(setI L (k+1)):Int);let z2:=(↑(k+1):Int);let z3:=(k:Int);Bn [decide (z3<z0)=true,An [(0:Int)<=z3,z3<z0],headF (List.drop (k*1) (ints L))=some (i6 x),binV (Qac Try.prog) BinOp.shl 29 (u6 1) (i6 x)=some (u6 ↑(2^x)),binV (Qac Try.prog) BinOp.or 29 (u6 ↑(setI L k)) (u6 ↑(2^x))=some (u6 z1),wr .i64 (z3+1)=z2,Bn [Sm ((0:Nat):Int),z1=z1,An [Sm L.length,Sm (ints L)],z0=z0,z2=z2]]) ?_
   (repeat'(first|(with_reducible apply And.intro)|(refine fun(_:True)=>?_)))<;>first|exact aq|skip
   all_goals first|exact s1|exact s2.1|(rw[e1];exact s2.1)|(rw[e1];done)|skip
  ·have hk2 : k = L.length := by omega
   subst hk2
   refine .inr ⟨.exit 0,[],stS L L.length,[no 9],1000,.inl ⟨trivial,rfl,rfl⟩,?_⟩
   clear hL
   refine m_ (p:=let z0:=(L.length:Int);let z1:=(↑(setI L L.length):Int);Bn [decide (z0<z0)=false,Bn [Sm ((0:Nat):Int),z1=z1,An [Sm L.length,Sm (ints L)],z0=z0,z0=z0]]) ?_
   (repeat'(first|(with_reducible apply And.intro)|(refine fun(_:True)=>?_)))<;>first|exact aq|skip
   all_goals skip
 refine FnOk.of_vc vE_ok mixed Qab (n:=1000) (r:=[]) (S:={sl:=[(2,u6 (setI L L.length:Nat))]}) (hs:=[(0,.loop [] (stS L 0) [(True,.exit 0,stS L L.length)])]) ?_
 clear hL
 refine m_ (p:=let z0:=(↑(setI L L.length):Int);Bn [Sm (u6 z0),Bn [Bn [((0:Nat):Int)=(0:Int),(↑(setI L 0):Int)=(0:Int),An [Sm L.length,Sm (ints L)],Sm (L.length:Int),((0:Nat):Int)=(0:Int)]],Sat Try.prog none 0 (at' 70 [1,1,0,1,0]) (mkSt g0 18 (stS L 0)) (Qad g0 18 [(True,Ex.exit 0,stS L L.length)]),(True->Bn [Bn [z0=z0]])]) ?_
 (repeat'(first|(with_reducible apply And.intro)|(refine fun(_:True)=>?_)))<;>first|exact aq|skip
 all_goals first|exact hloop|rfl|skip
def proC(N:List Mc)(L:List Int):Nat->Int
 |0=>1
 |k+1=>proC N L k*(N.getD (L.getD k 0).toNat ⟨0,[],[],[]⟩).c
def proR(R:List (List Int))(L:List Int):Nat->Nat
 |0=>1
 |k+1=>proR R L k*(R.getD (L.getD k 0).toNat []).length
abbrev mc0:Mc:=⟨0,[],[],[]⟩
abbrev moO(g:Int)(n:Nat)(R:List V)(q:Nat)(N:List V):O:=.row 26 none [i6 g,.im n R,.im q N]
abbrev mcO(x:Mc):O:=.row 40 none [i6 x.c,sl x.fr,sl x.no,sl x.ou]
theorem Qeu{N:List Mc}{k:Nat}(h:k<N.length):headF ((mcL N).drop (k*4))=some (i6 (N.getD k mc0).c):=by
 rw[Ql0 (List.getElem?_eq_getElem h),List.getD_eq_getElem?_getD,List.getElem?_eq_getElem h];rfl
theorem Qc8{N:List Mc}{k:Nat}(h:k<N.length):takeE 4 ((mcL N).drop (k*4))=some (mcC (N.getD k mc0)):=by
 rw[Ql0 (List.getElem?_eq_getElem h),List.getD_eq_getElem?_getD,List.getElem?_eq_getElem h];rfl
def Qba(L:List Int)(n:Nat):Prop:=∀k,k<L.length->0<=L.getD k 0/\L.getD k 0<n
theorem Qfn{N:List Mc}{L:List Int}(hc: ∀k,k<N.length->1<=(N.getD k mc0).c/\(N.getD k mc0).c<=4)(hL:Qba L N.length): ∀k,k<=L.length->1<=proC N L k/\proC N L k<=4^k
 |0,_=>by simp[proC]
 |k+1,hk=>by
  obtain⟨h1,h2⟩:=Qfn hc hL k o_
  obtain⟨h3,h4⟩:=hL k o_
  obtain⟨h5,h6⟩:=hc (L.getD k 0).toNat o_
  show 1<=proC N L k*(N.getD (L.getD k 0).toNat mc0).c/\proC N L k*(N.getD (L.getD k 0).toNat mc0).c<=4^(k+1)
  generalize (N.getD (L.getD k 0).toNat mc0).c=c at*
  generalize proC N L k=a at*
  have e:(4:Int)^(k+1)=4^k*4:=Int.pow_succ ..
  rw[e]
  refine⟨?_,Int.mul_le_mul h2 h6 o_ o_⟩
  have:1*1<=a*c:=Int.mul_le_mul h1 h5 d_ o_
  omega
theorem Qhl{R:List (List Int)}{L:List Int}(hc: ∀k,k<R.length->1<=(R.getD k []).length/\(R.getD k []).length<=4)(hL:Qba L R.length): ∀k,k<=L.length->1<=proR R L k/\proR R L k<=4^k
 |0,_=>by simp[proR]
 |k+1,hk=>by
  obtain⟨h1,h2⟩:=Qhl hc hL k o_
  obtain⟨h3,h4⟩:=hL k o_
  obtain⟨h5,h6⟩:=hc (L.getD k 0).toNat o_
  show 1<=proR R L k*(R.getD (L.getD k 0).toNat []).length/\proR R L k*(R.getD (L.getD k 0).toNat []).length<=4^(k+1)
  rw[Nat.pow_succ]
  exact⟨Nat.mul_pos h1 h5,Nat.mul_le_mul h2 h6⟩
abbrev siS(g:Int)(n:Nat)(R:List V)(q:Nat)(N:List V)(x:Mc)(k:Nat)(a:Int):SL:={sl:=[(2,.ptr 0 0),(3,.ptr 1 0),(4,i6 a),(5,i6 1),(11,sl x.fr),(12,i6 (x.fr.length:Nat)),(13,i6 (k:Nat))],os:=[moO g n R q N,mcO x]}
abbrev sjS(g:Int)(n:Nat)(R:List V)(q:Nat)(N:List V)(x:Mc)(a:Int)(k:Nat)(b:Int):SL:={sl:=[(2,.ptr 0 0),(3,.ptr 1 0),(4,i6 a),(5,i6 b),(27,sl x.no),(28,i6 (x.no.length:Nat)),(29,i6 (k:Nat))],os:=[moO g n R q N,mcO x]}
section
variable (g:Int) (R:List (List Int)) (N:List Mc) (x:Mc) (hc: ∀k,k<N.length->1<=(N.getD k mc0).c/\(N.getD k mc0).c<=4) (hR: ∀k,k<R.length->1<=(R.getD k []).length/\(R.getD k []).length<=4) (hf:Qba x.fr N.length) (hn:Qba x.no R.length) (hf5:x.fr.length<=5) (hn8:x.no.length<=8)
include hc hR hf hn hf5 hn8
theorem sizes_a:Sat Pg none 0 (at' 86 [1,1,0,1,0]) (mkSt g0 44 (siS g R.length (rtL R) N.length (mcL N) x 0 1)) (Qad g0 44 [(True,.exit 0,siS g R.length (rtL R) N.length (mcL N) x x.fr.length (proC N x.fr x.fr.length))]):=by
 have hRR:=Qah R
 have hNN:=Qaj N
 have h1:=Qaa x.fr
 have h2:=Qaa x.no
 have h3:=Qaa x.ou
 refine Qav vE_ok mixed Qab (b:=at' 86 [1,1,0,1,0,0]) k_ (fun k=>k<=x.fr.length) (fun k=>siS g R.length (rtL R) N.length (mcL N) x k (proC N x.fr k)) (fun k=>x.fr.length-k) (fun k hk=>?_) 0 (Nat.zero_le _)
 by_cases hlt:k<x.fr.length
 ·have hld := Qag hlt
  obtain⟨g1,g2⟩:=hf k hlt
  obtain⟨y,hy⟩: ∃y:Nat,x.fr.getD k 0=(y:Int):=⟨(x.fr.getD k 0).toNat,by omega⟩
  have hb:=Qfn hc hf (k+1) hlt
  have h45:(4:Int)^(k+1)<=4^5:=by
   have:=Nat.pow_le_pow_right (show 4>0 by decide) (show k+1<=5 by omega)
   exact_mod_cast this
  have e1:proC N x.fr (k+1)=proC N x.fr k*(N.getD y mc0).c:=by
   show proC N x.fr k*(N.getD (x.fr.getD k 0).toNat mc0).c=_
   rw[hy];rfl
  rw[hy]at hld g1 g2
  have hl2:=Qeu (N:=N) (k:=y) o_
  have h46:(4:Int)^5=1024:=rfl
  refine .inl ⟨k+1,[0,1],[yes 14,pl 15,ld 16 (i6 (y:Nat)),pl 21,ld 23 (i6 (N.getD y mc0).c),nu 24 (proC N x.fr (k+1)),nu 25 ((k+1:Nat):Int)],1000,hlt,by omega,?_⟩
  clear hf hn hc hR
  refine m_ (p:=let z0:=(k:Int);Bn [decide (z0<(↑(List.length ((fun self=>self.2) x)):Int))=true,An [(0:Int)<=z0,z0<(↑(List.length ((fun self=>self.2) x)):Int)],headF (List.drop (k*1) (ints ((fun self=>self.2) x)))=some (i6 y),An [(0:Int)<=(y:Int),(y:Int)<(N.length:Int)],headF (List.drop 0 (List.drop (y*4) (mcL N)))=some (i6 ((fun self=>self.1) (List.getD N y mc0))),wr .i64 (proC N ((fun self=>self.2) x) k*(fun self=>self.1) (List.getD N y mc0))=proC N ((fun self=>self.2) x) (k+1),wr .i64 (z0+1)=(↑(k+1):Int),Bn [Zz,Zz,Sm (proC N ((fun self=>self.2) x) (k+1)),Sm (1:Int),An [Sm (List.length ((fun self=>self.2) x)),Sm (ints ((fun self=>self.2) x))],Sm (↑(List.length ((fun self=>self.2) x)):Int),Sm (↑(k+1):Int)],An [Sm [i6 g,V.im R.length (rtL R),V.im N.length (mcL N)],TT 3],An [Sm [i6 ((fun self=>self.1) x),sl ((fun self=>self.2) x),sl ((fun self=>self.3) x),sl ((fun self=>self.4) x)],TT 4]]) ?_
  (repeat'(first|(with_reducible apply And.intro)|(refine fun(_:True)=>?_)))<;>first|exact aq|skip
  all_goals first|exact hl2|(rw[<-e1,wr6 o_ o_];done)|skip
 ·have hk2 : k = x.fr.length := by omega
  subst hk2
  refine .inr ⟨.exit 0,[0,1],siS g R.length (rtL R) N.length (mcL N) x x.fr.length (proC N x.fr x.fr.length),[no 14],1000,.inl ⟨trivial,rfl,rfl⟩,?_⟩
  clear hf hn hc hR
  refine m_ (p:=Bn [decide ((↑(List.length ((fun self=>self.2) x)):Int)<(↑(List.length ((fun self=>self.2) x)):Int))=false,Bn [Zz,Zz,Sm (proC N ((fun self=>self.2) x) (List.length ((fun self=>self.2) x))),Sm (1:Int),An [Sm (List.length ((fun self=>self.2) x)),Sm (ints ((fun self=>self.2) x))],Sm (↑(List.length ((fun self=>self.2) x)):Int),Sm (↑(List.length ((fun self=>self.2) x)):Int)],An [Sm [i6 g,V.im R.length (rtL R),V.im N.length (mcL N)],TT 3],An [Sm [i6 ((fun self=>self.1) x),sl ((fun self=>self.2) x),sl ((fun self=>self.3) x),sl ((fun self=>self.4) x)],TT 4]]) ?_
  (repeat'(first|(with_reducible apply And.intro)|(refine fun(_:True)=>?_)))<;>first|exact aq|skip
  all_goals skip
theorem sizes_b(a:Int):Sat Pg none 0 (at' 86 [1,1,1,0,1,0]) (mkSt g0 44 (sjS g R.length (rtL R) N.length (mcL N) x a 0 1)) (Qad g0 44 [(True,.exit 2,sjS g R.length (rtL R) N.length (mcL N) x a x.no.length (proR R x.no x.no.length:Nat))]):=by
 have hRR:=Qah R
 have hNN:=Qaj N
 have h1:=Qaa x.fr
 have h2:=Qaa x.no
 have h3:=Qaa x.ou
 refine Qav vE_ok mixed Qab (b:=at' 86 [1,1,1,0,1,0,0]) k_ (fun k=>k<=x.no.length) (fun k=>sjS g R.length (rtL R) N.length (mcL N) x a k (proR R x.no k:Nat)) (fun k=>x.no.length-k) (fun k hk=>?_) 0 (Nat.zero_le _)
 by_cases hlt:k<x.no.length
 ·have hld := Qag hlt
  obtain⟨g1,g2⟩:=hn k hlt
  obtain⟨y,hy⟩: ∃y:Nat,x.no.getD k 0=(y:Int):=⟨(x.no.getD k 0).toNat,by omega⟩
  have hb:=Qhl hR hn (k+1) hlt
  have h45:4^(k+1)<=4^8:=Nat.pow_le_pow_right d_ o_
  have e1:((proR R x.no (k+1):Nat):Int)=(proR R x.no k:Nat)*((R.getD y []).length:Nat):=by
   show((proR R x.no k*(R.getD (x.no.getD k 0).toNat []).length:Nat):Int)=_
   rw[hy];exact Int.natCast_mul _ _
  rw[hy]at hld g1 g2
  have hl2:=Qff (R:=R) (k:=y) o_
  have h46:4^8=65536:=rfl
  refine .inl ⟨k+1,[0,1],[yes 30,pl 31,ld 32 (i6 (y:Nat)),pl 37,ld 38 (sl (R.getD y [])),nu 40 (proR R x.no (k+1):Nat),nu 41 ((k+1:Nat):Int)],1000,hlt,by omega,?_⟩
  clear hf hn hc hR
  refine m_ (p:=let z0:=(k:Int);Bn [decide (z0<(↑(List.length ((fun self=>self.3) x)):Int))=true,An [(0:Int)<=z0,z0<(↑(List.length ((fun self=>self.3) x)):Int)],headF (List.drop (k*1) (ints ((fun self=>self.3) x)))=some (i6 y),An [(0:Int)<=(y:Int),(y:Int)<(R.length:Int)],headF (List.drop (y*1) (rtL R))=some (sl (List.getD R y [])),wr .i64 ((↑(proR R ((fun self=>self.3) x) k):Int)*(↑(List.length (List.getD R y [])):Int))=(↑(proR R ((fun self=>self.3) x) (k+1)):Int),wr .i64 (z0+1)=(↑(k+1):Int),Bn [Zz,Zz,a=a,Sm (↑(proR R ((fun self=>self.3) x) (k+1)):Int),An [Sm (List.length ((fun self=>self.3) x)),Sm (ints ((fun self=>self.3) x))],Sm (↑(List.length ((fun self=>self.3) x)):Int),Sm (↑(k+1):Int)],An [Sm [i6 g,V.im R.length (rtL R),V.im N.length (mcL N)],TT 3],An [Sm [i6 ((fun self=>self.1) x),sl ((fun self=>self.2) x),sl ((fun self=>self.3) x),sl ((fun self=>self.4) x)],TT 4]]) ?_
  (repeat'(first|(with_reducible apply And.intro)|(refine fun(_:True)=>?_)))<;>first|exact aq|skip
  all_goals first|exact hl2|(rw[<-e1,wr6 o_ o_];done)|skip
 ·have hk2 : k = x.no.length := by omega
  subst hk2
  refine .inr ⟨.exit 2,[0,1],sjS g R.length (rtL R) N.length (mcL N) x a x.no.length (proR R x.no x.no.length:Nat),[no 30],1000,.inl ⟨trivial,rfl,rfl⟩,?_⟩
  clear hf hn hc hR
  refine m_ (p:=Bn [decide ((↑(List.length ((fun self=>self.3) x)):Int)<(↑(List.length ((fun self=>self.3) x)):Int))=false,Bn [Zz,Zz,a=a,Sm (↑(proR R ((fun self=>self.3) x) (List.length ((fun self=>self.3) x))):Int),An [Sm (List.length ((fun self=>self.3) x)),Sm (ints ((fun self=>self.3) x))],Sm (↑(List.length ((fun self=>self.3) x)):Int),Sm (↑(List.length ((fun self=>self.3) x)):Int)],An [Sm [i6 g,V.im R.length (rtL R),V.im N.length (mcL N)],TT 3],An [Sm [i6 ((fun self=>self.1) x),sl ((fun self=>self.2) x),sl ((fun self=>self.3) x),sl ((fun self=>self.4) x)],TT 4]]) ?_
  (repeat'(first|(with_reducible apply And.intro)|(refine fun(_:True)=>?_)))<;>first|exact aq|skip
  all_goals skip
theorem sizes_fn:FnOk Pg g0 86 [mdV g R N,.agg [i6 x.c,sl x.fr,sl x.no,sl x.ou]] (.tup [i6 (proC N x.fr x.fr.length),i6 (proR R x.no x.no.length:Nat)]):=by
 have hRR:=Qah R
 have hNN:=Qaj N
 have h1:=Qaa x.fr
 have h2:=Qaa x.no
 have h3:=Qaa x.ou
 have ha:=sizes_a g R N x hc hR hf hn hf5 hn8
 have hb:=sizes_b g R N x hc hR hf hn hf5 hn8 (proC N x.fr x.fr.length)
 refine FnOk.of_vc vE_ok mixed Qab (n:=1000) (r:=[]) (S:={sl:=[(4,i6 (proC N x.fr x.fr.length)),(5,i6 (proR R x.no x.no.length:Nat))]}) (hs:=[(0,.loop [0,1] (siS g R.length (rtL R) N.length (mcL N) x 0 1) [(True,.exit 0,siS g R.length (rtL R) N.length (mcL N) x x.fr.length (proC N x.fr x.fr.length))]),(0,.loop [0,1] (sjS g R.length (rtL R) N.length (mcL N) x (proC N x.fr x.fr.length) 0 1) [(True,.exit 2,sjS g R.length (rtL R) N.length (mcL N) x (proC N x.fr x.fr.length) x.no.length (proR R x.no x.no.length:Nat))])]) ?_
 clear hf hn hc hR
 refine m_ (p:=let z0:=[i6 g,V.im R.length (rtL R),V.im N.length (mcL N)];let z1:=(1:Int);Bn [Sm (V.tup [i6 (proC N ((fun self=>self.2) x) (List.length ((fun self=>self.2) x))),i6 (↑(proR R ((fun self=>self.3) x) (List.length ((fun self=>self.3) x))):Int)]),Bn [Bn [Zz,Zz,z1=z1,z1=z1,An [Sm (List.length ((fun self=>self.2) x)),Sm (ints ((fun self=>self.2) x))],Sm (↑(List.length ((fun self=>self.2) x)):Int),((0:Nat):Int)=(0:Int)],An [z0=z0,TT 3],An [Sm [i6 ((fun self=>self.1) x),sl ((fun self=>self.2) x),sl ((fun self=>self.3) x),sl ((fun self=>self.4) x)],TT 4]],Sat Try.prog none 0 (at' 86 [1,1,0,1,0]) (mkSt g0 44 (siS g R.length (rtL R) N.length (mcL N) x 0 z1)) (Qad g0 44 [(True,Ex.exit 0,siS g R.length (rtL R) N.length (mcL N) x (List.length ((fun self=>self.2) x)) (proC N ((fun self=>self.2) x) (List.length ((fun self=>self.2) x))))]),(True->Bn [Bn [Bn [Zz,Zz,Sm (proC N ((fun self=>self.2) x) (List.length ((fun self=>self.2) x))),z1=z1,An [Sm (List.length ((fun self=>self.3) x)),Sm (ints ((fun self=>self.3) x))],Sm (↑(List.length ((fun self=>self.3) x)):Int),((0:Nat):Int)=(0:Int)],An [z0=z0,TT 3],An [Sm [i6 ((fun self=>self.1) x),sl ((fun self=>self.2) x),sl ((fun self=>self.3) x),sl ((fun self=>self.4) x)],TT 4]],Sat Try.prog none 0 (at' 86 [1,1,1,0,1,0]) (mkSt g0 44 (sjS g R.length (rtL R) N.length (mcL N) x (proC N ((fun self=>self.2) x) (List.length ((fun self=>self.2) x))) 0 z1)) (Qad g0 44 [(True,Ex.exit 2,sjS g R.length (rtL R) N.length (mcL N) x (proC N ((fun self=>self.2) x) (List.length ((fun self=>self.2) x))) (List.length ((fun self=>self.3) x)) (↑(proR R ((fun self=>self.3) x) (List.length ((fun self=>self.3) x))):Int))]),(True->Bn [Bn [Sm (proC N ((fun self=>self.2) x) (List.length ((fun self=>self.2) x))),Sm (↑(proR R ((fun self=>self.3) x) (List.length ((fun self=>self.3) x))):Int)]])])]) ?_
 (repeat'(first|(with_reducible apply And.intro)|(refine fun(_:True)=>?_)))<;>first|exact aq|skip
 all_goals first|exact ha|exact hb|skip
end
end Go.Proofs.Ythjjgipcoeiapaa.Am
