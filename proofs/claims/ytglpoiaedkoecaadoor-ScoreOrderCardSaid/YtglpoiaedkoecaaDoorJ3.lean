/- slices.Concat of two parts of a list of lists. -/
import Derived.Test.YtglpoiaedkoecaaDoorJ1
import Derived.Test.YtglpoiaedkoecaaDoorJ2
namespace Go.Proofs.YtglpoiaedkoecaaDoor.Am
open Go.RowKit
set_option linter.unusedVariables false
set_option maxHeartbeats 1000000
set_option maxRecDepth 100000

abbrev aop (d : Nat) (o : O) (n : Nat) (news : List V) : Nat × Hint := (d, .aop o n news)
theorem atoms_sl (l : List (List Int)) : atoms (l.map sl) = true := by
  induction l with
  | nil => rfl
  | cons x l ih => rw [List.map_cons]; unfold atoms; rw [ih]; rfl
theorem src_part {H : T O} {h t : Nat} {sp : Option Nat} {c : List V} {off n : Nat} {room : Option Nat} (hg : gt H h = some (.row t sp c)) (hl : off + n ≤ c.length) : srcV H 1 (.sl h off n room) = some (n, (c.drop off).take n) := by
  unfold srcV
  rw [gt_eq] at hg
  simp only [hg]
  rw [Nat.mul_one, Nat.ble_eq_true_of_le hl]; rfl
abbrev ccO (s1 s2 : V) : O := .row 30 none [s1, s2]
/-- two parts, the second empty -/
theorem concat_one (l : List (List Int)) (k : Nat) (hl : l.length = k + 1) (hk : k ≤ 100) (h hb : Nat) (sp : Option Nat) (H : T O) (nx : Nat) (hh : h < nx) (hhb : hb < nx) (hg : gt H h = some (rO sp l)) (hgb : gt H hb = some (ccO (.sl h 0 (k + 1) none) (.im 0 []))) :
    CallSpec Pg g0 (.fn 52 []) [.sl hb 0 2 (some 0)] H nx ⟨.sl (nx + 1) 0 (0 + (k + 1)) none, pt (pt (pt H nx (.row 29 (some 1) [])) nx .dead) (nx + 1) (.row 29 (some 1) ([] ++ l.map sl)), nx + 1 + 1, [nx]⟩ := by
  have hgr := grow_any (k + 1) (by omega) (by omega) H nx
  have hat := atoms_sl l
  have g1 : gt (pt H nx (.row 29 (some 1) [])) hb = some (ccO (.sl h 0 (k + 1) none) (.im 0 [])) := by rw [gt_pt, if_neg (by omega), hgb]
  have g2 : gt (pt H nx (.row 29 (some 1) [])) nx = some (.row 29 (some 1) []) := by rw [gt_pt, if_pos rfl]
  have g3 : gt (pt (pt (pt H nx (.row 29 (some 1) [])) nx .dead) (nx + 1) (.row 29 (some 1) ([] ++ l.map sl))) hb = some (ccO (.sl h 0 (k + 1) none) (.im 0 [])) := by
    rw [gt_pt, if_neg (by omega), gt_pt, if_neg (by omega), g1]
  have hsrc : srcV (pt H nx (.row 29 (some 1) [])) 1 (.sl h 0 (k + 1) none) = some (k + 1, l.map sl) := by
    have g4 : gt (pt H nx (.row 29 (some 1) [])) h = some (rO sp l) := by rw [gt_pt, if_neg (by omega), hg]
    rw [src_part g4 (by simp; omega), List.drop_zero, List.take_of_length_le (by simp; omega)]
  refine CallSpec.of_vcS vE_ok mixed sp0_ok (n := 1000) (hs := [(0, .unroll 3), lo_ 14 (ccO (.sl h 0 (k + 1) none) (.im 0 [])) (.sl h 0 (k + 1) none), nu 18 (k + 1 : Nat), no 20, lo_ 14 (ccO (.sl h 0 (k + 1) none) (.im 0 [])) (.im 0 []), nu 18 (k + 1 : Nat), no 20, (24, .call ⟨.sl nx 0 0 none, pt H nx (.row 29 (some 1) []), nx + 1, []⟩), (0, .unroll 3), lo_ 30 (ccO (.sl h 0 (k + 1) none) (.im 0 [])) (.sl h 0 (k + 1) none), aop 33 (.row 29 (some 1) []) (k + 1) (l.map sl), lo_ 30 (ccO (.sl h 0 (k + 1) none) (.im 0 [])) (.im 0 [])]) ?_ ?_
  · refine ⟨by dsimp only; omega, fun i hi hn => ?_⟩
    dsimp only at hi hn ⊢
    rw [pt_eq, T.get_put, if_neg (by omega), pt_eq, T.get_put, if_neg (by omega), pt_eq, T.get_put, if_neg (by omega)]
  · refine Eq.mp (by kernel_rfl : (gt H hb = some (ccO (V.sl h 0 (k + 1) none) (V.im 0 [])) ∧ headF (dropF (0 + Int.toNat (0 : Int) * 1) [V.sl h 0 (k + 1) none, V.im 0 []]) = some (V.sl h 0 (k + 1) none) ∧ wr IntKind.i64 ((0 : Int) + (↑(k + 1) : Int)) = (↑(k + 1) : Int) ∧ decide ((↑(k + 1) : Int) < (0 : Int)) = false ∧ gt H hb = some (ccO (V.sl h 0 (k + 1) none) (V.im 0 [])) ∧ headF (dropF (0 + Int.toNat (wr IntKind.i64 ((0 : Int) + (1 : Int))) * 1) [V.sl h 0 (k + 1) none, V.im 0 []]) = some (V.im 0 []) ∧ wr IntKind.i64 ((↑(k + 1) : Int) + (↑(0 : Nat) : Int)) = (↑(k + 1) : Int) ∧ decide ((↑(k + 1) : Int) < (0 : Int)) = false ∧ CallSpec Tryd.prog g0 (V.fn 94 []) [V.nils, V.int IntKind.i64 (↑(k + 1) : Int)] H nx (CR.mk (V.sl nx 0 0 none) (pt H nx (O.row 29 (some 1) [])) (nx + 1) []) ∧ True ∧ gt (pt H nx (O.row 29 (some 1) [])) hb = some (ccO (V.sl h 0 (k + 1) none) (V.im 0 [])) ∧ headF (dropF (0 + Int.toNat (0 : Int) * 1) [V.sl h 0 (k + 1) none, V.im 0 []]) = some (V.sl h 0 (k + 1) none) ∧ srcV (pt H nx (O.row 29 (some 1) [])) 1 (V.sl h 0 (k + 1) none) = some (k + 1, List.map sl l) ∧ (gt (pt H nx (O.row 29 (some 1) [])) nx = some (O.row 29 (some 1) []) ∧ 0 = 0 * 1 ∧ 1 ≤ k + 1 ∧ 0 + (k + 1) ≤ 9223372036854775807 ∧ (0 + (k + 1)) * 24 ≤ 140737488355328 ∧ atoms (List.map sl l) = true) ∧ gt (pt (pt (pt H nx (O.row 29 (some 1) [])) nx O.dead) (nx + 1) (O.row 29 (some 1) ([] ++ List.map sl l))) hb = some (ccO (V.sl h 0 (k + 1) none) (V.im 0 [])) ∧ headF (dropF (0 + Int.toNat (wr IntKind.i64 ((0 : Int) + (1 : Int))) * 1) [V.sl h 0 (k + 1) none, V.im 0 []]) = some (V.im 0 []) ∧ V.sl (nx + 1) 0 (0 + (k + 1)) none = V.sl (nx + 1) 0 (0 + (k + 1)) none ∧ pt (pt (pt H nx (O.row 29 (some 1) [])) nx O.dead) (nx + 1) (O.row 29 (some 1) ([] ++ List.map sl l)) = pt (pt (pt H nx (O.row 29 (some 1) [])) nx O.dead) (nx + 1) (O.row 29 (some 1) ([] ++ List.map sl l)) ∧ nx + 1 + 1 = nx + 1 + 1 ∧ ∀ (g : Nat), List.Mem g ([] ++ ([nx] ++ ([] ++ []))) → List.Mem g [nx]) = _) ?_
    (repeat' (first | (with_reducible apply And.intro) | (refine fun (_ : True) => ?_))) <;> first | exact aq | skip
    all_goals first | exact g1 | exact g2 | exact g3 | exact hgb | exact hgr | exact hsrc | exact rfl | kernel_rfl | (intro g_ hg_; simpa using hg_) | skip
/-- two parts -/
theorem concat_two (l : List (List Int)) (k a : Nat) (hl : l.length = k + 1) (hk : k ≤ 100) (ha : 1 ≤ a ∧ a ≤ k) (h hb : Nat) (sp : Option Nat) (H : T O) (nx : Nat) (hh : h < nx) (hhb : hb < nx) (hg : gt H h = some (rO sp l)) (hgb : gt H hb = some (ccO (.sl h (0 + a * 1) (k + 1 - a) none) (.sl h 0 a none))) (L1 L2 : List (List Int)) (h1 : L1 = l.drop a) (h2 : L2 = l.take a) :
    CallSpec Pg g0 (.fn 52 []) [.sl hb 0 2 (some 0)] H nx ⟨.sl (nx + 1 + 1) 0 (0 + (k + 1 - a) + a) none, pt (pt (pt (pt (pt H nx (.row 29 (some 1) [])) nx .dead) (nx + 1) (.row 29 (some 1) ([] ++ L1.map sl))) (nx + 1) .dead) (nx + 1 + 1) (.row 29 (some 1) ([] ++ L1.map sl ++ L2.map sl)), nx + 1 + 1 + 1, [nx + 1, nx]⟩ := by
  have hgr := grow_any (k + 1) (by omega) (by omega) H nx
  have hat1 := atoms_sl L1
  have hat2 := atoms_sl L2
  have hn1 : L1.length = k + 1 - a := by rw [h1]; simp; omega
  have g1 : gt (pt H nx (.row 29 (some 1) [])) hb = some (ccO (.sl h (0 + a * 1) (k + 1 - a) none) (.sl h 0 a none)) := by rw [gt_pt, if_neg (by omega), hgb]
  have g2 : gt (pt H nx (.row 29 (some 1) [])) nx = some (.row 29 (some 1) []) := by rw [gt_pt, if_pos rfl]
  have g3 : gt (pt (pt (pt H nx (.row 29 (some 1) [])) nx .dead) (nx + 1) (.row 29 (some 1) ([] ++ L1.map sl))) hb = some (ccO (.sl h (0 + a * 1) (k + 1 - a) none) (.sl h 0 a none)) := by
    rw [gt_pt, if_neg (by omega), gt_pt, if_neg (by omega), g1]
  have g5 : gt (pt (pt (pt H nx (.row 29 (some 1) [])) nx .dead) (nx + 1) (.row 29 (some 1) ([] ++ L1.map sl))) (nx + 1) = some (.row 29 (some 1) ([] ++ L1.map sl)) := by rw [gt_pt, if_pos rfl]
  have hsrc1 : srcV (pt H nx (.row 29 (some 1) [])) 1 (.sl h (0 + a * 1) (k + 1 - a) none) = some (k + 1 - a, L1.map sl) := by
    have g4 : gt (pt H nx (.row 29 (some 1) [])) h = some (rO sp l) := by rw [gt_pt, if_neg (by omega), hg]
    rw [src_part g4 (by simp; omega), h1, ← List.map_drop, Nat.zero_add, Nat.mul_one, List.take_of_length_le (by simp; omega)]
  have hsrc2 : srcV (pt (pt (pt H nx (.row 29 (some 1) [])) nx .dead) (nx + 1) (.row 29 (some 1) ([] ++ L1.map sl))) 1 (.sl h 0 a none) = some (a, L2.map sl) := by
    have g4 : gt (pt (pt (pt H nx (.row 29 (some 1) [])) nx .dead) (nx + 1) (.row 29 (some 1) ([] ++ L1.map sl))) h = some (rO sp l) := by
      rw [gt_pt, if_neg (by omega), gt_pt, if_neg (by omega), gt_pt, if_neg (by omega), hg]
    rw [src_part g4 (by simp; omega), h2, List.drop_zero, List.map_take]
  have hml : ([] ++ L1.map sl).length = (0 + (k + 1 - a)) * 1 := by simp; omega
  refine CallSpec.of_vcS vE_ok mixed sp0_ok (n := 1000) (hs := [(0, .unroll 3), lo_ 14 (ccO (.sl h (0 + a * 1) (k + 1 - a) none) (.sl h 0 a none)) (.sl h (0 + a * 1) (k + 1 - a) none), nu 18 (k + 1 - a : Nat), no 20, lo_ 14 (ccO (.sl h (0 + a * 1) (k + 1 - a) none) (.sl h 0 a none)) (.sl h 0 a none), nu 18 (k + 1 : Nat), no 20, (24, .call ⟨.sl nx 0 0 none, pt H nx (.row 29 (some 1) []), nx + 1, []⟩), (0, .unroll 3), lo_ 30 (ccO (.sl h (0 + a * 1) (k + 1 - a) none) (.sl h 0 a none)) (.sl h (0 + a * 1) (k + 1 - a) none), aop 33 (.row 29 (some 1) []) (k + 1 - a) (L1.map sl), lo_ 30 (ccO (.sl h (0 + a * 1) (k + 1 - a) none) (.sl h 0 a none)) (.sl h 0 a none), aop 33 (.row 29 (some 1) ([] ++ L1.map sl)) a (L2.map sl)]) ?_ ?_
  · refine ⟨by dsimp only; omega, fun i hi hn => ?_⟩
    dsimp only at hi hn ⊢
    rw [pt_eq, T.get_put, if_neg (by omega), pt_eq, T.get_put, if_neg (by omega), pt_eq, T.get_put, if_neg (by omega), pt_eq, T.get_put, if_neg (by omega), pt_eq, T.get_put, if_neg (by omega)]
  · refine Eq.mp (by kernel_rfl : (gt H hb = some (ccO (V.sl h (0 + a * 1) (k + 1 - a) none) (V.sl h 0 a none)) ∧ headF (dropF (0 + Int.toNat (0 : Int) * 1) [V.sl h (0 + a * 1) (k + 1 - a) none, V.sl h 0 a none]) = some (V.sl h (0 + a * 1) (k + 1 - a) none) ∧ wr IntKind.i64 ((0 : Int) + (↑(k + 1 - a) : Int)) = (↑(k + 1 - a) : Int) ∧ decide ((↑(k + 1 - a) : Int) < (0 : Int)) = false ∧ gt H hb = some (ccO (V.sl h (0 + a * 1) (k + 1 - a) none) (V.sl h 0 a none)) ∧ headF (dropF (0 + Int.toNat (wr IntKind.i64 ((0 : Int) + (1 : Int))) * 1) [V.sl h (0 + a * 1) (k + 1 - a) none, V.sl h 0 a none]) = some (V.sl h 0 a none) ∧ wr IntKind.i64 ((↑(k + 1 - a) : Int) + (↑a : Int)) = (↑(k + 1) : Int) ∧ decide ((↑(k + 1) : Int) < (0 : Int)) = false ∧ CallSpec Tryd.prog g0 (V.fn 94 []) [V.nils, V.int IntKind.i64 (↑(k + 1) : Int)] H nx (CR.mk (V.sl nx 0 0 none) (pt H nx (O.row 29 (some 1) [])) (nx + 1) []) ∧ True ∧ gt (pt H nx (O.row 29 (some 1) [])) hb = some (ccO (V.sl h (0 + a * 1) (k + 1 - a) none) (V.sl h 0 a none)) ∧ headF (dropF (0 + Int.toNat (0 : Int) * 1) [V.sl h (0 + a * 1) (k + 1 - a) none, V.sl h 0 a none]) = some (V.sl h (0 + a * 1) (k + 1 - a) none) ∧ srcV (pt H nx (O.row 29 (some 1) [])) 1 (V.sl h (0 + a * 1) (k + 1 - a) none) = some (k + 1 - a, List.map sl L1) ∧ (gt (pt H nx (O.row 29 (some 1) [])) nx = some (O.row 29 (some 1) []) ∧ 0 = 0 * 1 ∧ 1 ≤ k + 1 - a ∧ 0 + (k + 1 - a) ≤ 9223372036854775807 ∧ (0 + (k + 1 - a)) * 24 ≤ 140737488355328 ∧ atoms (List.map sl L1) = true) ∧ gt (pt (pt (pt H nx (O.row 29 (some 1) [])) nx O.dead) (nx + 1) (O.row 29 (some 1) ([] ++ List.map sl L1))) hb = some (ccO (V.sl h (0 + a * 1) (k + 1 - a) none) (V.sl h 0 a none)) ∧ headF (dropF (0 + Int.toNat (wr IntKind.i64 ((0 : Int) + (1 : Int))) * 1) [V.sl h (0 + a * 1) (k + 1 - a) none, V.sl h 0 a none]) = some (V.sl h 0 a none) ∧ srcV (pt (pt (pt H nx (O.row 29 (some 1) [])) nx O.dead) (nx + 1) (O.row 29 (some 1) ([] ++ List.map sl L1))) 1 (V.sl h 0 a none) = some (a, List.map sl L2) ∧ (gt (pt (pt (pt H nx (O.row 29 (some 1) [])) nx O.dead) (nx + 1) (O.row 29 (some 1) ([] ++ List.map sl L1))) (nx + 1) = some (O.row 29 (some 1) ([] ++ List.map sl L1)) ∧ List.length ([] ++ List.map sl L1) = (0 + (k + 1 - a)) * 1 ∧ 1 ≤ a ∧ 0 + (k + 1 - a) + a ≤ 9223372036854775807 ∧ (0 + (k + 1 - a) + a) * 24 ≤ 140737488355328 ∧ atoms (List.map sl L2) = true) ∧ V.sl (nx + 1 + 1) 0 (0 + (k + 1 - a) + a) none = V.sl (nx + 1 + 1) 0 (0 + (k + 1 - a) + a) none ∧ pt (pt (pt (pt (pt H nx (O.row 29 (some 1) [])) nx O.dead) (nx + 1) (O.row 29 (some 1) ([] ++ List.map sl L1))) (nx + 1) O.dead) (nx + 1 + 1) (O.row 29 (some 1) ([] ++ List.map sl L1 ++ List.map sl L2)) = pt (pt (pt (pt (pt H nx (O.row 29 (some 1) [])) nx O.dead) (nx + 1) (O.row 29 (some 1) ([] ++ List.map sl L1))) (nx + 1) O.dead) (nx + 1 + 1) (O.row 29 (some 1) ([] ++ List.map sl L1 ++ List.map sl L2)) ∧ nx + 1 + 1 + 1 = nx + 1 + 1 + 1 ∧ ∀ (g : Nat), List.Mem g ([nx + 1] ++ ([nx] ++ ([] ++ []))) → List.Mem g [nx + 1, nx]) = _) ?_
    (repeat' (first | (with_reducible apply And.intro) | (refine fun (_ : True) => ?_))) <;> first | exact aq | skip
    all_goals first | exact g1 | exact g2 | exact g3 | exact g5 | exact hgb | exact hgr | exact hsrc1 | exact hsrc2 | exact hml | exact rfl | kernel_rfl | (intro g_ hg_; simpa using hg_) | skip
end Go.Proofs.YtglpoiaedkoecaaDoor.Am
