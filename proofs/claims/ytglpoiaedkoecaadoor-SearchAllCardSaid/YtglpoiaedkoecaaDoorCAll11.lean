/- Texts behind the claim, part 11: the abstract machine, and what the functions answer. No condition. -/
import Derived.Test.YtglpoiaedkoecaaDoorCAll10
set_option linter.unusedVariables false
set_option linter.unusedSimpArgs false
set_option linter.unusedSectionVars false
namespace Go.Proofs.YtglpoiaedkoecaaDoor.searchAll
open Go.ChangeShapes Go.WideShapes Go.ChangeAt Go.RowKit Go.Proofs.YtglpoiaedkoecaaDoor.Am
theorem own:ownKnob Tryd.prog.godebug=none:=by kernel_rfl
theorem Qme:laidOutB Tryd.prog=true:=by kernel_rfl
theorem Qd8(os:Os):((Qkw os).forCall (fun _ _=>0) ⟨#[], #[.agg #[.slice none 0 0,.slice none 0 0,.int .u8 0,.slice none 0 0],.agg #[.int .u8 0,.int .u8 0,.int .u8 0,.int .u8 0,.int .u8 0,.int .u8 0,.int .u8 0,.int .u8 0,.int .u8 0,.int .u8 0,.int .u8 0,.int .u8 0,.int .u8 0,.int .u8 0,.int .u8 0,.int .u8 0,.int .u8 0,.int .u8 0,.int .u8 0,.int .u8 0,.int .u8 0,.int .u8 0,.int .u8 0,.int .u8 0,.int .u8 0,.int .u8 0,.int .u8 0,.int .u8 0,.int .u8 0,.int .u8 0,.int .u8 0,.int .u8 0,.int .u8 0,.int .u8 0,.int .u8 0,.int .u8 0,.int .u8 0,.int .u8 0,.int .u8 0,.int .u8 0,.int .u8 0,.int .u8 0,.int .u8 0,.int .u8 0,.int .u8 0,.int .u8 0,.int .u8 0,.int .u8 0,.int .u8 0,.int .u8 0,.int .u8 0,.int .u8 0,.int .u8 0,.int .u8 0,.int .u8 0,.int .u8 0,.int .u8 0,.int .u8 0,.int .u8 0,.int .u8 0,.int .u8 0,.int .u8 0,.int .u8 0,.int .u8 0,.int .u8 0],.int .u8 0],[]⟩).memory.heap[0]? =some (.cells primesA 40 (0,0)):=by kernel_rfl
set_option maxRecDepth 100000 in
theorem lifted(os:Os)(started:os.Started)(H:Type)(enc:TypeId×Value→H):
  ReturnsInHanded {} Tryd.checked os 16 .any (fun w args=>(Rows.searchAllSpec.pre enc Tryd.prog Tryd.f16 Rows.searchAllRow.domain false w args∧laidMet Tryd.prog [("haruspex/score.primes",Rows.laid_haruspex_score_primes)] w)∧sizedMet enc Tryd.prog Tryd.f16 (OpenSpec.ofChange Rows.searchAllSpec) false w args) (Rows.searchAllSpec.post enc Tryd.prog Tryd.f16 false true false false):=by
 refine returnsInHanded_of_change_and (C:=Tryd.checked) (X:=fun w _=>laidMet Tryd.prog [("haruspex/score.primes",Rows.laid_haruspex_score_primes)] w) (fun _ _ _ hh h=>h.of_heap hh) own started (by kernel_rfl) Tryd.func16
  (ChangeSpec.witness_at (enc := enc) (C := Tryd.checked) (os := os) (X := fun w _ => laidMet Tryd.prog [("haruspex/score.primes", Rows.laid_haruspex_score_primes)] w) false (Qkw os) #[.agg #[.slice none 0 0, .slice none 0 0, .int .u8 0, .slice none 0 0], .agg #[.int .u8 0, .int .u8 0, .int .u8 0, .int .u8 0, .int .u8 0, .int .u8 0, .int .u8 0, .int .u8 0, .int .u8 0, .int .u8 0, .int .u8 0, .int .u8 0, .int .u8 0, .int .u8 0, .int .u8 0, .int .u8 0, .int .u8 0, .int .u8 0, .int .u8 0, .int .u8 0, .int .u8 0, .int .u8 0, .int .u8 0, .int .u8 0, .int .u8 0, .int .u8 0, .int .u8 0, .int .u8 0, .int .u8 0, .int .u8 0, .int .u8 0, .int .u8 0, .int .u8 0, .int .u8 0, .int .u8 0, .int .u8 0, .int .u8 0, .int .u8 0, .int .u8 0, .int .u8 0, .int .u8 0, .int .u8 0, .int .u8 0, .int .u8 0, .int .u8 0, .int .u8 0, .int .u8 0, .int .u8 0, .int .u8 0, .int .u8 0, .int .u8 0, .int .u8 0, .int .u8 0, .int .u8 0, .int .u8 0, .int .u8 0, .int .u8 0, .int .u8 0, .int .u8 0, .int .u8 0, .int .u8 0, .int .u8 0, .int .u8 0, .int .u8 0, .int .u8 0], .int .u8 0] 8 rfl (by kernel_rfl) (by kernel_rfl) (by kernel_rfl) (by kernel_rfl) (by kernel_rfl)
   ⟨_, ⟨0, 40, primesA, 8, [], [], by kernel_rfl, by kernel_rfl, by kernel_rfl, by kernel_rfl, rfl, rfl⟩, by decide, fun b off h => by
    have h':MemPlace.cell b off∈[MemPlace.cell 0 0,MemPlace.cell 0 1,MemPlace.cell 0 2,MemPlace.cell 0 3,MemPlace.cell 0 4,MemPlace.cell 0 5,MemPlace.cell 0 6,MemPlace.cell 0 7,MemPlace.cell 0 8,MemPlace.cell 0 9,MemPlace.cell 0 10,MemPlace.cell 0 11,MemPlace.cell 0 12,MemPlace.cell 0 13,MemPlace.cell 0 14,MemPlace.cell 0 15,MemPlace.cell 0 16,MemPlace.cell 0 17]:=h
    have hb:b=0:=by
     simp at h'
     omega
    subst hb
    refine⟨⟨_,_,Qd8 os⟩,fun u v hc=>?_⟩
    simp only[World.cell?,Qd8 os]at hc
    simp at h'
    rcases h' with rfl|rfl|rfl|rfl|rfl|rfl|rfl|rfl|rfl|rfl|rfl|rfl|rfl|rfl|rfl|rfl|rfl|rfl<;>simp[primesA,primesL]at hc⟩) ?_
 intro W base args ds gs before hval0 hW _ _ hL _
 have hval: ∀(j:Nat) t v,Tryd.f16.params[j]? =some t→args[j]? =some v→Value.okWide Tryd.prog W .any base t v:=hval0
 have hW':=hW
 obtain⟨p,q,hA0,hV,rfl,hfz,hnd⟩:=hW
 have hA:DataW.TrodAll enc Tryd.prog W 0 (fun _=>true) true Tryd.f16.params.toList args.toList ds p:=hA0
 rw[Tryd.params16]at hA hval
 obtain⟨v0,vs0,d0,ds0,p0,q0,hargs,rfl,rfl,h0,r0⟩:=trodAll_cons hA
 obtain⟨v1,vs1,d1,ds1,p1,q1,rfl,rfl,rfl,h1,r1⟩:=trodAll_cons r0
 obtain⟨v2,vs2,d2,ds2,p2,q2,rfl,rfl,rfl,h2,r2⟩:=trodAll_cons r1
 obtain⟨rfl,rfl,rfl⟩:=trodAll_nil r2
 obtain rfl:args= #[v0,v1,v2]:=by cases args;simp_all
 obtain⟨rfl,rfl⟩:=trodVars_none hV
 clear hA0 hval0
 have hgl:=prime_gl (Qmp hL)
 have lt0: ∀x∈p0,x.block<W.heap.size:=by obtain⟨m,hm⟩:=h0;exact DataW.trod_lt m _ _ _ hm
 obtain⟨C,ks,fo,M,rv0,ok0⟩:=Qqv (okWide_struct Tryd.underlying25 (hval 0 25 v0 rfl rfl)) h0
 have lt1: ∀x∈p1,x.block<W.heap.size:=by obtain⟨m,hm⟩:=h1;exact DataW.trod_lt m _ _ _ hm
 obtain⟨N,la,pa,rv1,ok1,ok1b,ok1c⟩:=arg_dr29 (okWide_struct Tryd.underlying101 (hval 1 101 v1 rfl rfl)) h1
 have lt2: ∀x∈p2,x.block<W.heap.size:=by obtain⟨m,hm⟩:=h2;exact DataW.trod_lt m _ _ _ hm
 obtain⟨x0,e2,_,_,w2⟩:=open_int Tryd.underlying5 (hval 2 5 v2 rfl rfl) h2
 subst e2
 obtain⟨x,rfl,ok2⟩:=wf8n w2
 have ha:RL (sg (allB W)) W [dfV C ks fo M,drW N la pa,.int .u8 (x:Nat)] (#[v0,v1,.int .u8 ((x:Nat):Int)]:Array Value).toList:=⟨_,_,rfl,rv0,_,_,rfl,rv1,_,_,rfl,rfl,rfl⟩
 refine(Qsn (Qtj C ks fo M N la pa x ok0 ok1b ok1c ok2) (by kernel_rfl) ha hgl).mono fun e W'⟨he,bel⟩=>?_
 subst he
 exact⟨_,rfl,_,_,_,[],_,[],hW',trodAll_mk1 (shut_bool Tryd.underlying4 _),(trodAll_cons_mk (Below.trod Qme (by kernel_rfl) (of_decide_eq_true (by kernel_rfl)) h0 bel lt0) (trodAll_cons_mk (Below.trod Qme (by kernel_rfl) (of_decide_eq_true (by kernel_rfl)) h1 bel lt1) (trodAll_cons_mk (Below.trod Qme (by kernel_rfl) (of_decide_eq_true (by kernel_rfl)) h2 bel lt2) trodAll_mk0))),rfl,bel.frame _,fun h=>by cases h⟩
theorem over:Rows.searchAllRow.holds Tryd.pinned (OpenSpec.ofChange Rows.searchAllSpec):=
 OpenClaim.holds_of_wide 16 Tryd.f16 rfl rfl rfl rfl rfl rfl rfl ⟨rfl,rfl,rfl,rfl,rfl⟩ rfl rfl rfl rfl rfl (by kernel_rfl) Tryd.func16 (by kernel_rfl)
  (of_decide_eq_true (by kernel_rfl)) (by unfold Func.isWrapper;first|(rw[if_pos (by decide+kernel)];kernel_rfl)|(rw[if_neg (by decide+kernel)];exact⟨rfl,rfl⟩))
  (fun os started H enc _=>lifted os started H enc)
end Go.Proofs.YtglpoiaedkoecaaDoor.searchAll
