/- Texts behind the claim, part 12: the abstract machine, and what the functions answer. No condition. -/
import Derived.Test.YtcmeiecgijmdjaaDoorCTop11
set_option linter.unusedVariables false
set_option maxHeartbeats 4000000
set_option maxRecDepth 100000
set_option linter.unusedSimpArgs false
set_option linter.unusedSectionVars false
namespace Go.Proofs.YtcmeiecgijmdjaaDoor.topScores
open Go.ChangeShapes Go.WideShapes Go.ChangeAt Go.RowKit Go.Proofs.YtcmeiecgijmdjaaDoor.Am
theorem own:ownKnob Tryd.prog.godebug=none:=by kernel_rfl
theorem Qj9:laidOutB Tryd.prog=true:=by kernel_rfl
theorem Qev(os:Os):((Qmg os).forCall (fun _ _=>0) ⟨#[], #[.agg #[.slice none 0 0,.slice none 0 0,.int .u8 0,.slice none 0 0],.int .u8 0,.agg #[.int .u8 0,.int .u8 0,.int .u8 0,.int .u8 0,.int .u8 0,.int .u8 0,.int .u8 0,.int .u8 0],.agg #[.int .u8 0,.int .u8 0,.int .u8 0,.int .u8 0,.int .u8 0,.int .u8 0,.int .u8 0,.int .u8 0]],[]⟩).memory.heap[0]? =some (.cells primesA 43 (0,0)):=by kernel_rfl
set_option maxRecDepth 100000 in
theorem lifted(os:Os)(started:os.Started)(H:Type)(enc:TypeId×Value→H):
  ReturnsInHanded {} Tryd.checked os 3 .any (fun w args=>(Rows.topScoresSpec.pre enc Tryd.prog Tryd.f3 Rows.topScoresRow.domain false w args∧laidMet Tryd.prog [("haruspex/score.primes",Rows.laid_haruspex_score_primes)] w)∧sizedMet enc Tryd.prog Tryd.f3 (OpenSpec.ofChange Rows.topScoresSpec) false w args) (Rows.topScoresSpec.post enc Tryd.prog Tryd.f3 false true false false):=by
 refine returnsInHanded_of_change_and (C:=Tryd.checked) (X:=fun w _=>laidMet Tryd.prog [("haruspex/score.primes",Rows.laid_haruspex_score_primes)] w) (fun _ _ _ hh h=>h.of_heap hh) own started (by kernel_rfl) Tryd.func3
  (ChangeSpec.witness_at (enc := enc) (C := Tryd.checked) (os := os) (X := fun w _ => laidMet Tryd.prog [("haruspex/score.primes", Rows.laid_haruspex_score_primes)] w) false (Qmg os) #[.agg #[.slice none 0 0, .slice none 0 0, .int .u8 0, .slice none 0 0], .int .u8 0, .agg #[.int .u8 0, .int .u8 0, .int .u8 0, .int .u8 0, .int .u8 0, .int .u8 0, .int .u8 0, .int .u8 0], .agg #[.int .u8 0, .int .u8 0, .int .u8 0, .int .u8 0, .int .u8 0, .int .u8 0, .int .u8 0, .int .u8 0]] 8 rfl (by kernel_rfl) (by kernel_rfl) (by kernel_rfl) (by kernel_rfl) (by kernel_rfl)
   ⟨_, ⟨0, 43, primesA, 8, [], [], by kernel_rfl, by kernel_rfl, by kernel_rfl, by kernel_rfl, rfl, rfl⟩, by decide, fun b off h => by
    have h':MemPlace.cell b off∈[MemPlace.cell 0 0,MemPlace.cell 0 1,MemPlace.cell 0 2,MemPlace.cell 0 3,MemPlace.cell 0 4,MemPlace.cell 0 5,MemPlace.cell 0 6,MemPlace.cell 0 7,MemPlace.cell 0 8,MemPlace.cell 0 9,MemPlace.cell 0 10,MemPlace.cell 0 11,MemPlace.cell 0 12,MemPlace.cell 0 13,MemPlace.cell 0 14,MemPlace.cell 0 15,MemPlace.cell 0 16,MemPlace.cell 0 17]:=h
    have hb:b=0:=by
     simp at h'
     omega
    subst hb
    refine⟨⟨_,_,Qev os⟩,fun u v hc=>?_⟩
    simp only[World.cell?,Qev os]at hc
    simp at h'
    rcases h' with rfl|rfl|rfl|rfl|rfl|rfl|rfl|rfl|rfl|rfl|rfl|rfl|rfl|rfl|rfl|rfl|rfl|rfl<;>simp[primesA,primesL]at hc⟩) ?_
 intro W base args ds gs before hval0 hW _ _ hL _
 have hval: ∀(j:Nat) t v,Tryd.f3.params[j]? =some t→args[j]? =some v→Value.okWide Tryd.prog W .any base t v:=hval0
 have hW':=hW
 obtain⟨p,q,hA0,hV,rfl,hfz,hnd⟩:=hW
 have hA:DataW.TrodAll enc Tryd.prog W 0 (fun _=>true) true Tryd.f3.params.toList args.toList ds p:=hA0
 rw[Tryd.params3]at hA hval
 obtain⟨v0,vs0,d0,ds0,p0,q0,hargs,rfl,rfl,h0,r0⟩:=trodAll_cons hA
 obtain⟨v1,vs1,d1,ds1,p1,q1,rfl,rfl,rfl,h1,r1⟩:=trodAll_cons r0
 obtain⟨v2,vs2,d2,ds2,p2,q2,rfl,rfl,rfl,h2,r2⟩:=trodAll_cons r1
 obtain⟨v3,vs3,d3,ds3,p3,q3,rfl,rfl,rfl,h3,r3⟩:=trodAll_cons r2
 obtain⟨rfl,rfl,rfl⟩:=trodAll_nil r3
 obtain rfl:args= #[v0,v1,v2,v3]:=by cases args;simp_all
 obtain⟨rfl,rfl⟩:=trodVars_none hV
 clear hA0 hval0
 have hgl:=prime_gl (Qn9 hL)
 have lt0: ∀x∈p0,x.block<W.heap.size:=by obtain⟨m,hm⟩:=h0;exact DataW.trod_lt m _ _ _ hm
 obtain⟨C,ks,fo,M,rv0,ok0⟩:=Qsm (okWide_struct Tryd.underlying25 (hval 0 25 v0 rfl rfl)) h0
 have lt1: ∀x∈p1,x.block<W.heap.size:=by obtain⟨m,hm⟩:=h1;exact DataW.trod_lt m _ _ _ hm
 obtain⟨x0,e1,_,_,w1⟩:=open_int Tryd.underlying5 (hval 1 5 v1 rfl rfl) h1
 subst e1
 obtain⟨x,rfl,ok1⟩:=wf8n w1
 have lt2: ∀x∈p2,x.block<W.heap.size:=by obtain⟨m,hm⟩:=h2;exact DataW.trod_lt m _ _ _ hm
 obtain⟨la,rv2,ok2⟩:=Qpf Tryd.underlying26 Tryd.underlying5 (by kernel_rfl) (by kernel_rfl) (Qi2 Tryd.underlying26 (hval 2 26 v2 rfl rfl)) h2
 have lt3: ∀x∈p3,x.block<W.heap.size:=by obtain⟨m,hm⟩:=h3;exact DataW.trod_lt m _ _ _ hm
 obtain⟨pa,rv3,ok3⟩:=Qpf Tryd.underlying26 Tryd.underlying5 (by kernel_rfl) (by kernel_rfl) (Qi2 Tryd.underlying26 (hval 3 26 v3 rfl rfl)) h3
 have ha:RL (sg (allB W)) W [dfV C ks fo M,.int .u8 (x:Nat),.agg (t8L la),.agg (t8L pa)] (#[v0,.int .u8 ((x:Nat):Int),v2,v3]:Array Value).toList:=⟨_,_,rfl,rv0,_,_,rfl,rfl,_,_,rfl,rv2,_,_,rfl,rv3,rfl⟩
 refine(Que (top_true C ks fo M x la pa Qrw ok0 ok1 ok2 ok3) (by kernel_rfl) ha hgl).mono fun e W'⟨he,bel⟩=>?_
 subst he
 exact⟨_,rfl,_,_,_,[],_,[],hW',trodAll_mk1 (shut_bool Tryd.underlying4 _),(trodAll_cons_mk (Below.trod Qj9 (by kernel_rfl) (of_decide_eq_true (by kernel_rfl)) h0 bel lt0) (trodAll_cons_mk (Below.trod Qj9 (by kernel_rfl) (of_decide_eq_true (by kernel_rfl)) h1 bel lt1) (trodAll_cons_mk (Below.trod Qj9 (by kernel_rfl) (of_decide_eq_true (by kernel_rfl)) h2 bel lt2) (trodAll_cons_mk (Below.trod Qj9 (by kernel_rfl) (of_decide_eq_true (by kernel_rfl)) h3 bel lt3) trodAll_mk0)))),rfl,bel.frame _,fun h=>by cases h⟩
theorem over:Rows.topScoresRow.holds Tryd.pinned (OpenSpec.ofChange Rows.topScoresSpec):=
 OpenClaim.holds_of_wide 3 Tryd.f3 rfl rfl rfl rfl rfl rfl rfl ⟨rfl,rfl,rfl,rfl,rfl⟩ rfl rfl rfl rfl rfl (by kernel_rfl) Tryd.func3 (by kernel_rfl)
  (of_decide_eq_true (by kernel_rfl)) (by unfold Func.isWrapper;first|(rw[if_pos (by decide+kernel)];kernel_rfl)|(rw[if_neg (by decide+kernel)];exact⟨rfl,rfl⟩))
  (fun os started H enc _=>lifted os started H enc)
end Go.Proofs.YtcmeiecgijmdjaaDoor.topScores
