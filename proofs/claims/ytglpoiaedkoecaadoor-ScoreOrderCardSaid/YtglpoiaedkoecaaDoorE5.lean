/- Chapter 28: score.family returns the powers of the score. -/
import Derived.Test.YtglpoiaedkoecaaDoorE4
namespace Go.Proofs.YtglpoiaedkoecaaDoor.Am
open Go.RowKit
set_option linter.unusedVariables false
set_option maxHeartbeats 1000000
set_option maxRecDepth 100000

/-! ### the table as it is -/
def factT : List V := factL.map (V.int .i64)
def facF (c i : Nat) : Int := factL.getD (18 * c + i) 0
theorem lt44 {k : Nat} (h : k < 44) : k = 0 ∨ k = 1 ∨ k = 2 ∨ k = 3 ∨ k = 4 ∨ k = 5 ∨ k = 6 ∨ k = 7 ∨ k = 8 ∨ k = 9 ∨ k = 10 ∨ k = 11 ∨ k = 12 ∨ k = 13 ∨ k = 14 ∨ k = 15 ∨ k = 16 ∨ k = 17 ∨ k = 18 ∨ k = 19 ∨ k = 20 ∨ k = 21 ∨ k = 22 ∨ k = 23 ∨ k = 24 ∨ k = 25 ∨ k = 26 ∨ k = 27 ∨ k = 28 ∨ k = 29 ∨ k = 30 ∨ k = 31 ∨ k = 32 ∨ k = 33 ∨ k = 34 ∨ k = 35 ∨ k = 36 ∨ k = 37 ∨ k = 38 ∨ k = 39 ∨ k = 40 ∨ k = 41 ∨ k = 42 ∨ k = 43 := by omega
theorem fac_ok : TabOk facF factT := by
  refine ⟨fun c hc => ?_, fun c i _ _ => ?_, HfL_ints _⟩
  · rcases lt44 hc with rfl | rfl | rfl | rfl | rfl | rfl | rfl | rfl | rfl | rfl | rfl | rfl | rfl | rfl | rfl | rfl | rfl | rfl | rfl | rfl | rfl | rfl | rfl | rfl | rfl | rfl | rfl | rfl | rfl | rfl | rfl | rfl | rfl | rfl | rfl | rfl | rfl | rfl | rfl | rfl | rfl | rfl | rfl | rfl <;> kernel_rfl
  · have : ∀ x ∈ factL, 0 ≤ x ∧ x ≤ 50 := by decide
    unfold facF
    rw [List.getD_eq_getElem?_getD]
    cases hx : factL[18 * c + i]? with
    | none => simp
    | some x => exact this x (List.mem_of_getElem? hx)
theorem fac_zero (i : Nat) (h : i < 18) : facF 0 i = 0 := by
  rcases lt18 h with rfl | rfl | rfl | rfl | rfl | rfl | rfl | rfl | rfl | rfl | rfl | rfl | rfl | rfl | rfl | rfl | rfl | rfl <;> rfl

/-! ### score.family -/
/-- the powers of the score of the family of v with the parents ps -/
def famF (cards : List Nat) (cs : List (List Nat)) (v ps : Nat) : Nat → Int := famZ facF (pairsN cards v ps cs) (cards.getD v 0) (sizeN cards ps cards.length)
theorem pairs_ok {cards : List Nat} {v ps : Nat} {cs : List (List Nat)} (hc : CardsOk cards) (hcs : ∀ c ∈ cs, CaseOk cards c) (hv : v < cards.length) : ∀ p ∈ pairsN cards v ps cs, p.1 < sizeN cards ps cards.length ∧ p.2 < cards.getD v 0 := by
  intro p hp
  obtain ⟨c, hm, rfl⟩ := List.mem_map.1 hp
  exact ⟨rowN_lt hc (hcs c hm) ps _ (Nat.le_refl _), (hcs c hm).lt v hv⟩
theorem entries_len {r : Nat} {P : List (Nat × Nat)} (h : ∀ p ∈ P, p.2 < r) : (entries r P).length ≤ P.length := by
  have hE := entries_ok P h
  have hk : ∀ k ∈ (entries r P).map (·.1), k ∈ P.map (·.1) := fun k hk => by
    obtain ⟨m, hm⟩ := (hE.keys k).1 hk
    exact List.mem_map.2 ⟨_, hm, rfl⟩
  have key : ∀ (a b : List Nat), a.Nodup → (∀ x ∈ a, x ∈ b) → a.length ≤ b.length := by
    intro a
    induction a with
    | nil => intro b _ _; exact Nat.zero_le _
    | cons x a ih =>
      intro b hn hs
      rw [List.nodup_cons] at hn
      have hx := hs x List.mem_cons_self
      have := ih (b.erase x) hn.2 (fun y hy => (List.mem_erase_of_ne (fun e => hn.1 (by rw [← e]; exact hy))).2 (hs y (List.mem_cons_of_mem _ hy)))
      rw [List.length_erase_of_mem hx] at this
      have := List.length_pos_of_mem hx
      simp only [List.length_cons]; omega
  have := key _ _ hE.nodup hk
  simpa using this
theorem fam_whole (cards : List Nat) (cs : List (List Nat)) (v ps r n : Nat) (E : List (V × V × Nat)) (tb : List V) (hv : v < cards.length) (htl : tb.length = 792) (hta : atoms tb = true) (htf : HfL tb) (hHE : HfE E) (hfact : FnOk Pg g0 103 [] (.agg tb)) (g : Nat → Int) (hld : headF ((nt cards).drop (v * 1)) = some (i6 r))
    (hcount : Sat Pg none 0 (at' 73 [1, 1, 1, 0, 1, 0]) (mkSt g0 113 { sl := fbS cs v ps r 0, os := fbO cards cs }) (outsP g0 113 [(True, .exit 0, fcS r [dO cards cs, .row 41 none (arF zeroF), .map E n])]))
    (hmap : Sat Pg none 0 (at' 73 [1, 1, 1, 1, 1, 1, 0, 1, 0]) (mkSt g0 113 (fmS r E n tb [] zeroF)) (outsP g0 113 [(True, .exit 4, fzS g)])) : FnOk Pg g0 73 [dN cards cs, i6 v, u6 ps] (ar g) := by
  refine FnOk.of_vc vE_ok mixed sp0_ok (n := 1000) (r := [1]) (S := { sl := [(6, .ptr 0 0)], os := [.row 41 none (arF g)] }) (hs := [pl 24, ld 25 (i6 r), (0, .loop [0, 1, 2] { sl := fbS cs v ps r 0, os := fbO cards cs } [(True, .exit 0, fcS r [dO cards cs, .row 41 none (arF zeroF), .map E n])]), (76, .fnP (.agg tb)), (999999, .sw), (0, .loop [0, 1, 2, 3, 4, 5] (fmS r E n tb [] zeroF) [(True, .exit 4, fzS g)])]) ?_
  refine Eq.mp (by kernel_rfl : (V.agg [i6 (g 0), i6 (g 1), i6 (g 2), i6 (g 3), i6 (g 4), i6 (g 5), i6 (g 6), i6 (g 7), i6 (g 8), i6 (g 9), i6 (g 10), i6 (g 11), i6 (g 12), i6 (g 13), i6 (g 14), i6 (g 15), i6 (g 16), i6 (g 17)] = ar g ∧ ((0 : Int) ≤ (↑v : Int) ∧ (↑v : Int) < (↑(List.length cards) : Int)) ∧ headF (List.drop (v * 1) (nt cards)) = some (i6 (↑r : Int)) ∧ (((↑v : Int) = (↑v : Int) ∧ (↑ps : Int) = (↑ps : Int) ∧ 0 = 0 ∧ 0 = 0 ∧ (↑r : Int) = (↑r : Int) ∧ True ∧ (List.length cs = List.length cs ∧ List.map nl cs = List.map nl cs) ∧ (↑(List.length cs) : Int) = (↑(List.length cs) : Int) ∧ (↑(0 : Nat) : Int) = (0 : Int) ∧ True) ∧ ([nl cards, cV cs] = [nl cards, cV cs] ∧ True ∧ True ∧ True) ∧ (arF zeroF = [V.int IntKind.i64 (0 : Int), V.int IntKind.i64 (0 : Int), V.int IntKind.i64 (0 : Int), V.int IntKind.i64 (0 : Int), V.int IntKind.i64 (0 : Int), V.int IntKind.i64 (0 : Int), V.int IntKind.i64 (0 : Int), V.int IntKind.i64 (0 : Int), V.int IntKind.i64 (0 : Int), V.int IntKind.i64 (0 : Int), V.int IntKind.i64 (0 : Int), V.int IntKind.i64 (0 : Int), V.int IntKind.i64 (0 : Int), V.int IntKind.i64 (0 : Int), V.int IntKind.i64 (0 : Int), V.int IntKind.i64 (0 : Int), V.int IntKind.i64 (0 : Int), V.int IntKind.i64 (0 : Int)] ∧ True ∧ True ∧ True ∧ True ∧ True ∧ True ∧ True ∧ True ∧ True ∧ True ∧ True ∧ True ∧ True ∧ True ∧ True ∧ True ∧ True ∧ True ∧ True) ∧ (([] : List (V × V × Nat)) = [] ∧ HfE [] ∧ 0 = 0) ∧ True) ∧ Sat Tryd.prog none 0 (at' 73 [1, 1, 1, 0, 1, 0]) (mkSt g0 113 (SL.mk (fbS cs v ps r 0) (fbO cards cs) [] [])) (outsP g0 113 [(True, Ex.exit 0, fcS r [dO cards cs, O.row 41 none (arF zeroF), O.map E n])]) ∧ (True → True ∧ (Hf (V.agg tb) ∧ FnOk Tryd.prog g0 103 [] (V.agg tb)) ∧ True ∧ (List.length (cellsV (V.agg tb)) = 792 ∧ atoms (cellsV (V.agg tb)) = true ∧ 792 = List.length (cellsV (V.agg tb))) ∧ ((0 = 0 ∧ (↑r : Int) = (↑r : Int) ∧ 0 = 0 ∧ 0 = 0 ∧ 0 = 0 ∧ True) ∧ True ∧ (arF zeroF = arF zeroF ∧ True ∧ True ∧ True ∧ True ∧ True ∧ True ∧ True ∧ True ∧ True ∧ True ∧ True ∧ True ∧ True ∧ True ∧ True ∧ True ∧ True ∧ True ∧ True) ∧ (E = E ∧ HfE E ∧ n = n) ∧ (tb = cellsV (V.agg tb) ∧ HfL tb) ∧ (arF zeroF = [V.int IntKind.i64 (0 : Int), V.int IntKind.i64 (0 : Int), V.int IntKind.i64 (0 : Int), V.int IntKind.i64 (0 : Int), V.int IntKind.i64 (0 : Int), V.int IntKind.i64 (0 : Int), V.int IntKind.i64 (0 : Int), V.int IntKind.i64 (0 : Int), V.int IntKind.i64 (0 : Int), V.int IntKind.i64 (0 : Int), V.int IntKind.i64 (0 : Int), V.int IntKind.i64 (0 : Int), V.int IntKind.i64 (0 : Int), V.int IntKind.i64 (0 : Int), V.int IntKind.i64 (0 : Int), V.int IntKind.i64 (0 : Int), V.int IntKind.i64 (0 : Int), V.int IntKind.i64 (0 : Int)] ∧ True ∧ True ∧ True ∧ True ∧ True ∧ True ∧ True ∧ True ∧ True ∧ True ∧ True ∧ True ∧ True ∧ True ∧ True ∧ True ∧ True ∧ True ∧ True) ∧ (n = n ∧ ([] : List Nat) = [] ∧ n = n) ∧ True) ∧ Sat Tryd.prog none 0 (at' 73 [1, 1, 1, 1, 1, 1, 0, 1, 0]) (mkSt g0 113 (fmS r E n tb [] zeroF)) (outsP g0 113 [(True, Ex.exit 4, fzS g)]) ∧ (True → (0 = 0 ∧ True) ∧ (arF g = [i6 (g 0), i6 (g 1), i6 (g 2), i6 (g 3), i6 (g 4), i6 (g 5), i6 (g 6), i6 (g 7), i6 (g 8), i6 (g 9), i6 (g 10), i6 (g 11), i6 (g 12), i6 (g 13), i6 (g 14), i6 (g 15), i6 (g 16), i6 (g 17)] ∧ True ∧ True ∧ True ∧ True ∧ True ∧ True ∧ True ∧ True ∧ True ∧ True ∧ True ∧ True ∧ True ∧ True ∧ True ∧ True ∧ True ∧ True ∧ True) ∧ True) ∧ True) ∧ True) = _) ?_
  (repeat' (first | (with_reducible apply And.intro) | (refine fun (_ : True) => ?_))) <;> first | exact aq | skip
  all_goals first | rfl | exact htf | exact htl | exact hta | exact htl.symm | exact trivial
theorem family_fn (cards : List Nat) (cs : List (List Nat)) (v ps : Nat) (hc : CardsOk cards) (hcs : ∀ c ∈ cs, CaseOk cards c) (hv : v < cards.length) (hm : cs.length ≤ 40) : FnOk Pg g0 73 [dN cards cs, i6 v, u6 ps] (ar (famF cards cs v ps)) := by
  have hcount := fam_count cards cs v ps _ hc hcs hv rfl hm
  have hpo := pairs_ok (ps := ps) hc hcs hv
  have hr := hc.each v hv
  have hlt := fun p hp => (hpo p hp).2
  have hel := entries_len hlt
  have hpl : (pairsN cards v ps cs).length ≤ 40 := by simpa [pairsN] using hm
  have hE := entries_ok _ hlt
  have hsum := sum_row_le (r := cards.getD v 0) (pairsN cards v ps cs)
  have hz : ar (famF cards cs v ps) = ar (fun i => sumI ((entries (cards.getD v 0) (pairsN cards v ps cs)).map fun e => conF facF (cards.getD v 0) e.2 i)) := by
    refine congrArg V.agg (ar_congr fun i hi => ?_)
    exact (entries_sum (fac_zero i hi) hpo).symm
  have hld := @head_nt cards v hv
  rw [hz]
  generalize entries (cards.getD v 0) (pairsN cards v ps cs) = es at *
  generalize hrr : cards.getD v 0 = r at *
  have hrows : RowsOk r es.length (fun a => (es.getD a (0, [])).2) := by
    have hget : ∀ a, a < es.length → es.getD a (0, []) ∈ es := fun a ha => by
      rw [List.getD_eq_getElem?_getD, List.getElem?_eq_getElem ha]; exact List.getElem_mem ha
    refine ⟨by omega, hr.2, by omega, fun a ha => ?_, fun a ha => ?_⟩
    · show (es.getD a (0, [])).2.length = r
      rw [hE.row _ (hget a ha), rowL_length]
    · show sumN (es.getD a (0, [])).2 ≤ 40
      rw [hE.row _ (hget a ha)]
      have := hsum (es.getD a (0, [])).1 hlt
      omega
  have hmap := fam_map r es.length (fun a => (es.getD a (0, [])).1) (fun a => (es.getD a (0, [])).2) factT facF fac_ok hrows (entF r 0 es) (entF_eq r es)
  have hfin : (fun i => sumI ((List.range es.length).map fun a => conF facF r ((fun a => (es.getD a (0, [])).2) a) i)) = (fun i => sumI (es.map fun e => conF facF r e.2 i)) := by
    funext i
    congr 1
    apply List.ext_getElem?
    intro a
    rw [List.getElem?_map, List.getElem?_map]
    by_cases h : a < es.length
    · rw [List.getElem?_range h, List.getElem?_eq_getElem h]
      simp only [Option.map_some, List.getD_eq_getElem?_getD, List.getElem?_eq_getElem h, Option.getD_some]
    · rw [List.getElem?_eq_none (by simp; omega), List.getElem?_eq_none (by omega)]; rfl
  rw [hfin] at hmap
  generalize (fun i => sumI (es.map fun e => conF facF r e.2 i)) = g at *
  have hHE : HfE (entF r 0 es) := by rw [entF_eq]; exact HfE_view _ _ _ _
  simp only [fcO] at hcount
  generalize entF r 0 es = E at *
  have hfact : FnOk Pg g0 103 [] (.agg factT) := fact_fn
  have htl : factT.length = 792 := by kernel_rfl
  have hta : atoms factT = true := by kernel_rfl
  exact fam_whole cards cs v ps r es.length E factT hv htl hta (HfL_ints _) hHE hfact g hld hcount hmap

end Go.Proofs.YtglpoiaedkoecaaDoor.Am
