/- Texts behind the claim, part 13: the abstract machine, and what the functions answer. No condition. -/
import Derived.Test.YtakfneapahohkaaDoorCRights12
set_option linter.unusedVariables false
set_option linter.unusedSimpArgs false
set_option linter.unusedSectionVars false
namespace Go.Proofs.YtakfneapahohkaaDoor.searchRights
open Go.ChangeShapes Go.WideShapes Go.ChangeAt Go.RowKit Go.Proofs.YtakfneapahohkaaDoor.Am
theorem own:ownKnob Tryd.prog.godebug=none:=by kernel_rfl
theorem Qe6:laidOutB Tryd.prog=true:=by kernel_rfl
theorem Qeo(os:Os):((Qk4 os).forCall (fun _ _=>0) ⟨#[], #[.agg #[.slice none 0 0,.slice none 0 0,.int .u8 0,.slice none 0 0],.agg #[.int .u8 0,.int .u8 0,.int .i64 0],.int .i64 0,.agg #[.int .u8 0,.int .u8 0,.int .u8 0,.int .u8 0,.int .u8 0,.int .u8 0,.int .u8 0,.int .u8 0,.int .u8 0,.int .u8 0,.int .u8 0,.int .u8 0,.int .u8 0,.int .u8 0,.int .u8 0,.int .u8 0,.int .u8 0,.int .u8 0,.int .u8 0,.int .u8 0,.int .u8 0,.int .u8 0,.int .u8 0,.int .u8 0,.int .u8 0,.int .u8 0,.int .u8 0,.int .u8 0,.int .u8 0,.int .u8 0,.int .u8 0,.int .u8 0,.int .u8 0,.int .u8 0,.int .u8 0,.int .u8 0,.int .u8 0,.int .u8 0,.int .u8 0,.int .u8 0,.int .u8 0,.int .u8 0,.int .u8 0,.int .u8 0,.int .u8 0,.int .u8 0,.int .u8 0,.int .u8 0,.int .u8 0,.int .u8 0,.int .u8 0,.int .u8 0,.int .u8 0,.int .u8 0,.int .u8 0,.int .u8 0,.int .u8 0,.int .u8 0,.int .u8 0,.int .u8 0,.int .u8 0,.int .u8 0,.int .u8 0,.int .u8 0,.int .u8 0],.agg #[.int .u8 0,.int .u8 0,.int .i64 0],.agg #[.slice none 0 0,.slice none 0 0]],[]⟩).memory.heap[0]? =some (.cells Do 36 (0,0)):=by kernel_rfl
set_option maxRecDepth 100000 in
theorem lifted(os:Os)(started:os.Started)(H:Type)(enc:TypeId×Value->H):
  ReturnsInHanded {} Tryd.checked os 4 .any (fun w args=>(Rows.searchRightsSpec.pre enc Tryd.prog Tryd.f4 Rows.searchRightsRow.domain false w args/\laidMet Tryd.prog [("haruspex/score.primes",Rows.laid_haruspex_score_primes)] w)/\sizedMet enc Tryd.prog Tryd.f4 (OpenSpec.ofChange Rows.searchRightsSpec) false w args) (Rows.searchRightsSpec.post enc Tryd.prog Tryd.f4 false true false false):=by
 refine returnsInHanded_of_change_and (C:=Tryd.checked) (X:=fun w _=>laidMet Tryd.prog [("haruspex/score.primes",Rows.laid_haruspex_score_primes)] w) (fun _ _ _ hh h=>h.of_heap hh) own started k_ Tryd.func4
  (ChangeSpec.witness_at (enc := enc) (C := Tryd.checked) (os := os) (X := fun w _ => laidMet Tryd.prog [("haruspex/score.primes", Rows.laid_haruspex_score_primes)] w) false (Qk4 os) #[.agg #[.slice none 0 0, .slice none 0 0, .int .u8 0, .slice none 0 0], .agg #[.int .u8 0, .int .u8 0, .int .i64 0], .int .i64 0, .agg #[.int .u8 0, .int .u8 0, .int .u8 0, .int .u8 0, .int .u8 0, .int .u8 0, .int .u8 0, .int .u8 0, .int .u8 0, .int .u8 0, .int .u8 0, .int .u8 0, .int .u8 0, .int .u8 0, .int .u8 0, .int .u8 0, .int .u8 0, .int .u8 0, .int .u8 0, .int .u8 0, .int .u8 0, .int .u8 0, .int .u8 0, .int .u8 0, .int .u8 0, .int .u8 0, .int .u8 0, .int .u8 0, .int .u8 0, .int .u8 0, .int .u8 0, .int .u8 0, .int .u8 0, .int .u8 0, .int .u8 0, .int .u8 0, .int .u8 0, .int .u8 0, .int .u8 0, .int .u8 0, .int .u8 0, .int .u8 0, .int .u8 0, .int .u8 0, .int .u8 0, .int .u8 0, .int .u8 0, .int .u8 0, .int .u8 0, .int .u8 0, .int .u8 0, .int .u8 0, .int .u8 0, .int .u8 0, .int .u8 0, .int .u8 0, .int .u8 0, .int .u8 0, .int .u8 0, .int .u8 0, .int .u8 0, .int .u8 0, .int .u8 0, .int .u8 0, .int .u8 0], .agg #[.int .u8 0, .int .u8 0, .int .i64 0], .agg #[.slice none 0 0, .slice none 0 0]] 8 rfl k_ k_ k_ k_ k_
   ⟨_, ⟨0, 36, Do, 8, [], [], by kernel_rfl, by kernel_rfl, by kernel_rfl, by kernel_rfl, rfl, rfl⟩, by decide, fun b off h => by
    have h':MemPlace.cell b off∈[MemPlace.cell 0 0,MemPlace.cell 0 1,MemPlace.cell 0 2,MemPlace.cell 0 3,MemPlace.cell 0 4,MemPlace.cell 0 5,MemPlace.cell 0 6,MemPlace.cell 0 7,MemPlace.cell 0 8,MemPlace.cell 0 9,MemPlace.cell 0 10,MemPlace.cell 0 11,MemPlace.cell 0 12,MemPlace.cell 0 13,MemPlace.cell 0 14,MemPlace.cell 0 15,MemPlace.cell 0 16,MemPlace.cell 0 17]:=h
    have hb:b=0:=by
     simp at h'
     omega
    subst hb
    refine⟨⟨_,_,Qeo os⟩,fun u v hc=>?_⟩
    simp only[World.cell?,Qeo os]at hc
    simp at h'
    rcases h' with rfl|rfl|rfl|rfl|rfl|rfl|rfl|rfl|rfl|rfl|rfl|rfl|rfl|rfl|rfl|rfl|rfl|rfl<;>simp[Do,primesL]at hc⟩) ?_
 intro W base args ds gs before hval0 hW _ _ hL _
 have xy: ∀(j:Nat) t v,Tryd.f4.params[j]? =some t->args[j]? =some v->Value.okWide Tryd.prog W .any base t v:=hval0
 have hW':=hW
 obtain⟨p,q,hA0,hV,rfl,hfz,hnd⟩:=hW
 have hA:DataW.TrodAll enc Tryd.prog W 0 (fun _=>true) true Tryd.f4.params.toList args.toList ds p:=hA0
 rw[Tryd.params4]at hA xy
 obtain⟨v0,vs0,d0,ds0,p0,q0,kx,rfl,rfl,h0,r0⟩:=trodAll_cons hA
 obtain⟨v1,vs1,d1,ds1,p1,q1,rfl,rfl,rfl,h1,r1⟩:=trodAll_cons r0
 obtain⟨v2,vs2,d2,ds2,p2,q2,rfl,rfl,rfl,h2,r2⟩:=trodAll_cons r1
 obtain⟨v3,vs3,d3,ds3,p3,q3,rfl,rfl,rfl,h3,r3⟩:=trodAll_cons r2
 obtain⟨v4,vs4,d4,ds4,p4,q4,rfl,rfl,rfl,h4,r4⟩:=trodAll_cons r3
 obtain⟨v5,vs5,d5,ds5,p5,q5,rfl,rfl,rfl,h5,r5⟩:=trodAll_cons r4
 obtain⟨rfl,rfl,rfl⟩:=trodAll_nil r5
 obtain rfl:args= #[v0,v1,v2,v3,v4,v5]:=by cases args;simp_all
 obtain⟨rfl,rfl⟩:=trodVars_none hV
 clear hA0 hval0
 have hgl:=prime_gl (Qmr hL)
 have lt0: ∀x∈p0,x.block<W.heap.size:=by obtain⟨m,hm⟩:=h0;exact DataW.trod_lt m _ _ _ hm
 obtain⟨C,ks,fo,M,rv0,ok0⟩:=Qqp (okWide_struct Tryd.underlying25 (xy 0 25 v0 rfl rfl)) h0
 have lt1: ∀x∈p1,x.block<W.heap.size:=by obtain⟨m,hm⟩:=h1;exact DataW.trod_lt m _ _ _ hm
 obtain⟨b,a,K,rv1,ok1,ok1b⟩:=arg_bend (okWide_struct Tryd.underlying27 (xy 1 27 v1 rfl rfl)) h1
 have lt2: ∀x∈p2,x.block<W.heap.size:=by obtain⟨m,hm⟩:=h2;exact DataW.trod_lt m _ _ _ hm
 obtain⟨lim,e2,_,_,w2⟩:=open_int Tryd.underlying3 (xy 2 3 v2 rfl rfl) h2
 subst e2
 have lt3: ∀x∈p3,x.block<W.heap.size:=by obtain⟨m,hm⟩:=h3;exact DataW.trod_lt m _ _ _ hm
 obtain⟨N,la,pa,rv3,ok3,ok3b,ok3c⟩:=arg_dr29 (okWide_struct Tryd.underlying55 (xy 3 55 v3 rfl rfl)) h3
 have lt4: ∀x∈p4,x.block<W.heap.size:=by obtain⟨m,hm⟩:=h4;exact DataW.trod_lt m _ _ _ hm
 obtain⟨b2,a2,K2,rv4,ok4,ok4b⟩:=arg_be29 (okWide_struct Tryd.underlying56 (xy 4 56 v4 rfl rfl)) h4
 have lt5: ∀x∈p5,x.block<W.heap.size:=by obtain⟨m,hm⟩:=h5;exact DataW.trod_lt m _ _ _ hm
 obtain⟨L,P,rv5,ok5,ok5b,ok5c⟩:=arg_lad (okWide_struct Tryd.underlying43 (xy 5 43 v5 rfl rfl)) h5
 have ha:RL (sg (Ee W)) W [dfV C ks fo M,beV b a K,.int .i64 lim,drW N la pa,.agg [w8 b2,w8 a2,i6 K2],lV L P] (#[v0,v1,.int .i64 lim,v3,v4,v5]:Array Value).toList:=⟨_,_,rfl,rv0,_,_,rfl,rv1,_,_,rfl,rfl,_,_,rfl,rv3,_,_,rfl,rv4,_,_,rfl,rv5,rfl⟩
 refine(Qsa (Qmt C ks fo M b a K lim N la pa b2 a2 K2 L P ok0 ok1 ok1b ok3b ok3c ok4 ok4b ok5 ok5b ok5c) k_ ha hgl).mono fun e W'⟨he,bel⟩=>?_
 subst he
 exact⟨_,rfl,_,_,_,[],_,[],hW',trodAll_mk1 (shut_bool Tryd.underlying4 _),(trodAll_cons_mk (Below.trod Qe6 k_ (of_decide_eq_true k_) h0 bel lt0) (trodAll_cons_mk (Below.trod Qe6 k_ (of_decide_eq_true k_) h1 bel lt1) (trodAll_cons_mk (Below.trod Qe6 k_ (of_decide_eq_true k_) h2 bel lt2) (trodAll_cons_mk (Below.trod Qe6 k_ (of_decide_eq_true k_) h3 bel lt3) (trodAll_cons_mk (Below.trod Qe6 k_ (of_decide_eq_true k_) h4 bel lt4) (trodAll_cons_mk (Below.trod Qe6 k_ (of_decide_eq_true k_) h5 bel lt5) trodAll_mk0)))))),rfl,bel.frame _,fun h=>by cases h⟩
theorem over:Rows.searchRightsRow.holds Tryd.pinned (OpenSpec.ofChange Rows.searchRightsSpec):=
 OpenClaim.holds_of_wide 4 Tryd.f4 rfl rfl rfl rfl rfl rfl rfl ⟨rfl,rfl,rfl,rfl,rfl⟩ rfl rfl rfl rfl rfl k_ Tryd.func4 k_
  (of_decide_eq_true k_) (by unfold Func.isWrapper;first|(rw[if_pos (by decide+kernel)];kernel_rfl)|(rw[if_neg (by decide+kernel)];exact⟨rfl,rfl⟩))
  (fun os started H enc _=>lifted os started H enc)
end Go.Proofs.YtakfneapahohkaaDoor.searchRights
