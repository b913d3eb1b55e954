/- Texts behind the claim, part 10: the abstract machine, and what the functions answer. No condition. -/
import Derived.Test.YtglpoiaedkoecaaDoorCKnown9
set_option linter.unusedVariables false
set_option linter.unusedSimpArgs false
set_option linter.unusedSectionVars false
namespace Go.Proofs.YtglpoiaedkoecaaDoor.searchKnown
open Go.ChangeShapes Go.WideShapes Go.ChangeAt Go.RowKit Go.Proofs.YtglpoiaedkoecaaDoor.Am
theorem own:ownKnob Tryd.prog.godebug=none:=by kernel_rfl
theorem Qdq(os:Os):((Qjg os).forCall (fun _ _=>0) ⟨#[], #[],[]⟩).memory.heap[0]? =some (.cells primesA 40 (0,0)):=by kernel_rfl
set_option maxRecDepth 100000 in
theorem lifted(os:Os)(started:os.Started)(H:Type)(enc:TypeId×Value→H):
  ReturnsInHanded {} Tryd.checked os 14 .any (fun w args=>(Rows.searchKnownSpec.pre enc Tryd.prog Tryd.f14 Rows.searchKnownRow.domain false w args∧laidMet Tryd.prog [("haruspex/score.primes",Rows.laid_haruspex_score_primes)] w)∧sizedMet enc Tryd.prog Tryd.f14 (OpenSpec.ofChange Rows.searchKnownSpec) false w args) (Rows.searchKnownSpec.post enc Tryd.prog Tryd.f14 false true false false):=by
 refine returnsInHanded_of_change_and (C:=Tryd.checked) (X:=fun w _=>laidMet Tryd.prog [("haruspex/score.primes",Rows.laid_haruspex_score_primes)] w) (fun _ _ _ hh h=>h.of_heap hh) own started (by kernel_rfl) Tryd.func14
  (ChangeSpec.witness_at (enc := enc) (C := Tryd.checked) (os := os) (X := fun w _ => laidMet Tryd.prog [("haruspex/score.primes", Rows.laid_haruspex_score_primes)] w) false (Qjg os) #[] 8 rfl (by kernel_rfl) (by kernel_rfl) (by kernel_rfl) (by kernel_rfl) (by kernel_rfl)
   ⟨_, ⟨0, 40, primesA, 8, [], [], by kernel_rfl, by kernel_rfl, by kernel_rfl, by kernel_rfl, rfl, rfl⟩, by decide, fun b off h => by
    have h':MemPlace.cell b off∈[MemPlace.cell 0 0,MemPlace.cell 0 1,MemPlace.cell 0 2,MemPlace.cell 0 3,MemPlace.cell 0 4,MemPlace.cell 0 5,MemPlace.cell 0 6,MemPlace.cell 0 7,MemPlace.cell 0 8,MemPlace.cell 0 9,MemPlace.cell 0 10,MemPlace.cell 0 11,MemPlace.cell 0 12,MemPlace.cell 0 13,MemPlace.cell 0 14,MemPlace.cell 0 15,MemPlace.cell 0 16,MemPlace.cell 0 17]:=h
    have hb:b=0:=by
     simp at h'
     omega
    subst hb
    refine⟨⟨_,_,Qdq os⟩,fun u v hc=>?_⟩
    simp only[World.cell?,Qdq os]at hc
    simp at h'
    rcases h' with rfl|rfl|rfl|rfl|rfl|rfl|rfl|rfl|rfl|rfl|rfl|rfl|rfl|rfl|rfl|rfl|rfl|rfl<;>simp[primesA,primesL]at hc⟩) ?_
 intro W base args ds gs before hval0 hW _ _ hL _
 have hval: ∀(j:Nat) t v,Tryd.f14.params[j]? =some t→args[j]? =some v→Value.okWide Tryd.prog W .any base t v:=hval0
 have hW':=hW
 obtain⟨p,q,hA0,hV,rfl,hfz,hnd⟩:=hW
 have hA:DataW.TrodAll enc Tryd.prog W 0 (fun _=>true) true Tryd.f14.params.toList args.toList ds p:=hA0
 rw[Tryd.params14]at hA hval
 obtain⟨hargs,rfl,rfl⟩:=trodAll_nil hA
 obtain rfl:args= #[]:=by cases args;simp_all
 obtain⟨rfl,rfl⟩:=trodVars_none hV
 clear hA0 hval0
 have hgl:=prime_gl (Qk1 hL)
 have ha:RL (sg (allB W)) W [] (#[]:Array Value).toList:=rfl
 refine(Qpv (known29) (by kernel_rfl) ha hgl).mono fun e W'⟨he,bel⟩=>?_
 subst he
 exact⟨_,rfl,_,_,_,[],_,[],hW',trodAll_mk1 (shut_bool Tryd.underlying4 _),trodAll_mk0,rfl,bel.frame _,fun h=>by cases h⟩
theorem over:Rows.searchKnownRow.holds Tryd.pinned (OpenSpec.ofChange Rows.searchKnownSpec):=
 OpenClaim.holds_of_wide 14 Tryd.f14 rfl rfl rfl rfl rfl rfl rfl ⟨rfl,rfl,rfl,rfl,rfl⟩ rfl rfl rfl rfl rfl (by kernel_rfl) Tryd.func14 (by kernel_rfl)
  (of_decide_eq_true (by kernel_rfl)) (by unfold Func.isWrapper;first|(rw[if_pos (by decide+kernel)];kernel_rfl)|(rw[if_neg (by decide+kernel)];exact⟨rfl,rfl⟩))
  (fun os started H enc _=>lifted os started H enc)
end Go.Proofs.YtglpoiaedkoecaaDoor.searchKnown
