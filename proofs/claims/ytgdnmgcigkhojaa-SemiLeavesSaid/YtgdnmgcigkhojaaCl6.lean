/- The texts behind the claim: SemiLeaves: the loop that lists the variables. SemiCombines: the walk, whole. SemiAgrees: the walk, whole. SemiLeaves: the rounds. SemiLeaves: the law. -/
import Derived.Test.YtgdnmgcigkhojaaCl5

namespace Go.Proofs.Ytgdnmgcigkhojaa.Am
open Go.RowKit
set_option linter.unusedVariables false
set_option maxHeartbeats 1000000
set_option maxRecDepth 100000
def ow2 (h q1 : Nat) : Nat → V
  | 0 => .nils
  | n + 1 => .sl (match q1 with | 0 => h | _ + 1 => h + 1) 0 (n + 1) none
section
variable (wa wb wc : Nat) (La Lb Lc : List Nat) (kd : Int) (out n : Nat) (cl c2 c3 : List V) (k : Int) (X Y : List V)
abbrev lvO : List O := [.row 39 none (dtL wa La), .row 39 none (dtL wb Lb), .row 39 none (dtL wc Lc), .row 32 none X, .row 32 none Y]
abbrev lvZ : List (Nat × V) := [(5, .ptr 0 0), (6, .ptr 1 0), (7, .ptr 2 0), (11, i6 kd), (12, i6 out), (13, .ptr 3 0), (14, .ptr 4 0), (17, .im n cl), (67, .agg [.im 2 c2, .im 3 c3]), (68, i6 k)]
abbrev lvS (p : Nat × Nat × List Int × Nat × List Int) : SL := { sl := lvZ kd out n cl c2 c3 k ++ [(18, owV 5 p.2.1), (19, ow2 5 p.2.1 p.2.2.2.1), (71, i6 p.1)], os := lvO wa wb wc La Lb Lc X Y ++ owO p.2.2.1 p.2.1 ++ owO p.2.2.2.2 p.2.2.2.1 }
abbrev lvX (q1 : Nat) (l1 : List Int) (q2 : Nat) (l2 : List Int) : SL := { sl := lvZ kd out n cl c2 c3 k ++ [(18, .im q1 (ints l1)), (19, .im q2 (ints l2))], os := lvO wa wb wc La Lb Lc X Y }
end
theorem hs8 {w v : Nat} (h : v < 5) : binV (ctxOf Pg) .shr 5 (b8 w) (i6 (v : Int)) = some (b8 (w / 2 ^ v)) := shr_8 (by omega)
theorem lv_loop2 (wa wb wc K L : Nat) (La Lb Lc : List Nat) (kd : Int) (out : Nat) (ho : out < 5) (hao : ¬ wa / 2 ^ out % 2 = 1) (hbo : wb / 2 ^ out % 2 = 1)
    (hK : ∀ v, v < 5 → (K / 2 ^ v % 2 = 1 ↔ (wa / 2 ^ v % 2 = 1 ∨ wb / 2 ^ v % 2 = 1) ∧ v ≠ out)) (hL : ∀ v, v < 5 → (L / 2 ^ v % 2 = 1 ↔ wb / 2 ^ v % 2 = 1 ∧ v ≠ out)) (c2 c3 : List V) (h2c : HfL c2) (h3c : HfL c3) (k : Int) (X Y : List V) (hX : HfL X) (hY : HfL Y) :
    Sat Pg none 0 (at' 6 [1, 1, 1, 1, 1, 1, 0, 1, 0, 0, 1, 1, 0, 0, 1, 1, 0, 1, 0]) (mkSt g0 208 (lvS wa wb wc La Lb Lc kd out 2 c2 c2 c3 k X Y (0, 0, [], 0, []))) (outsP g0 208 [(True, .exit 2, lvX wa wb wc La Lb Lc kd out 2 c2 c2 c3 k X Y (dQ K 5) (dV K 5) (dQ L 5) (dV L 5))]) := by
  refine loopC vE_ok mixed sp0_ok (b := at' 6 [1, 1, 1, 1, 1, 1, 0, 1, 0, 0, 1, 1, 0, 0, 1, 1, 0, 1, 0, 0]) (by kernel_rfl) (fun p => p.1 ≤ 5 ∧ p.2.1 = dQ K p.1 ∧ p.2.2.1 = dV K p.1 ∧ p.2.2.2.1 = dQ L p.1 ∧ p.2.2.2.2 = dV L p.1) (lvS wa wb wc La Lb Lc kd out 2 c2 c2 c3 k X Y) (fun p => 5 - p.1) (fun p hp => ?_) (0, 0, [], 0, []) ⟨Nat.zero_le _, rfl, rfl, rfl, rfl⟩
  obtain ⟨v, q1, l1, q2, l2⟩ := p
  obtain ⟨hv, hq1, hl1, hq2, hl2⟩ := hp
  dsimp only at hv hq1 hl1 hq2 hl2
  have n1 := dV_len K v
  rw [← hq1, ← hl1] at n1
  have n2 := dV_len L v
  rw [← hq2, ← hl2] at n2
  have hle1 := dQ_le K v
  rw [← hq1] at hle1
  have hle2 := dQ_le L v
  rw [← hq2] at hle2
  have hB0 := HfL_b8 La
  have hB1 := HfL_b8 Lb
  have hB2 := HfL_b8 Lc
  have hH1 := HfL_ints l1
  have hH2 := HfL_ints l2
  have a1 := ints_app l1 (v : Int)
  have a2 := ints_app l2 (v : Int)
  have hJ1 := HfL_ints (l1 ++ [(v : Int)])
  have hJ2 := HfL_ints (l2 ++ [(v : Int)])
  by_cases hlt : v < 5
  · have hsa := @hs8 wa v hlt
    have hsb := @hs8 wb v hlt
    have hsc := @hs8 wc v hlt
    have haa := @and1_8 (ctxOf Pg) 5 (wa / 2 ^ v)
    have hab := @and1_8 (ctxOf Pg) 5 (wb / 2 ^ v)
    have hac := @and1_8 (ctxOf Pg) 5 (wc / 2 ^ v)
    have kv := hK v hlt
    have lv := hL v hlt
    clear hK hL
    by_cases ha : wa / 2 ^ v % 2 = 1
    · have hvo : v ≠ out := fun e => hao (e ▸ ha)
      rw [ha] at haa
      by_cases hb : wb / 2 ^ v % 2 = 1
      · rw [hb] at hab
        have e1 : dQ K (v + 1) = q1 + 1 := by rw [dQ, if_pos (by rw [kv]; simp [*]), hq1]
        have e2 : dV K (v + 1) = l1 ++ [(v : Int)] := by rw [dV, if_pos (by rw [kv]; simp [*]), hl1]
        have e3 : dQ L (v + 1) = q2 + 1 := by rw [dQ, if_pos (by rw [lv]; simp [*]), hq2]
        have e4 : dV L (v + 1) = l2 ++ [(v : Int)] := by rw [dV, if_pos (by rw [lv]; simp [*]), hl2]
        clear kv lv hq1 hl1 hq2 hl2
        rcases q1 with _ | q1 <;> rcases q2 with _ | q2
        · have z1 : l1 = [] := List.eq_nil_of_length_eq_zero n1
          have z2 : l2 = [] := List.eq_nil_of_length_eq_zero n2
          refine .inl ⟨(v + 1, 1, l1 ++ [(v : Int)], 1, l2 ++ [(v : Int)]), [0, 1, 2, 3, 4, 6, 8], [yes 72, va 77 (b8 (wa / 2 ^ v)), va 78 (b8 1), yes 105, va 114 (b8 (wb / 2 ^ v)), va 115 (b8 1), yes 120, nu 126 (v + 1 : Nat)], 1000, ⟨by dsimp only; omega, e1.symm, e2.symm, e3.symm, e4.symm⟩, by dsimp only; omega, ?_⟩
          subst z1
          subst z2
          clear e1 e2 e3 e4
          refine Eq.mp (by kernel_rfl : (decide ((↑v : Int) < (5 : Int)) = true ∧ binV (ctxOf Try.prog) BinOp.shr 5 (b8 wa) (i6 (↑v : Int)) = some (b8 (wa / 2 ^ v)) ∧ binV (ctxOf Try.prog) BinOp.and 5 (b8 (wa / 2 ^ v)) (V.int IntKind.u8 (1 : Int)) = some (b8 1) ∧ ((↑v : Int) != (↑out : Int)) = true ∧ binV (ctxOf Try.prog) BinOp.shr 5 (b8 wb) (i6 (↑v : Int)) = some (b8 (wb / 2 ^ v)) ∧ binV (ctxOf Try.prog) BinOp.and 5 (b8 (wb / 2 ^ v)) (V.int IntKind.u8 (1 : Int)) = some (b8 1) ∧ ((↑v : Int) != (↑out : Int)) = true ∧ wr IntKind.i64 ((↑v : Int) + (1 : Int)) = (↑(v + 1) : Int) ∧ (0 = 0 ∧ 0 = 0 ∧ 0 = 0 ∧ kd = kd ∧ (↑out : Int) = (↑out : Int) ∧ 0 = 0 ∧ 0 = 0 ∧ (2 = 2 ∧ c2 = c2) ∧ ((2 = 2 ∧ c2 = c2) ∧ (3 = 3 ∧ c3 = c3) ∧ True) ∧ k = k ∧ (0 = 0 ∧ 0 + 1 = 1 ∧ True) ∧ (0 = 0 ∧ 0 + 1 = 1 ∧ True) ∧ (↑(v + 1) : Int) = (↑(v + 1) : Int) ∧ True) ∧ (dtL wa La = dtL wa La ∧ True ∧ True ∧ True) ∧ (dtL wb Lb = dtL wb Lb ∧ True ∧ True ∧ True) ∧ (dtL wc Lc = dtL wc Lc ∧ True ∧ True ∧ True) ∧ (X = X ∧ HfL X) ∧ (Y = Y ∧ HfL Y) ∧ (ints ([] ++ [(↑v : Int)]) = [i6 (↑v : Int)] ∧ True ∧ True) ∧ (ints ([] ++ [(↑v : Int)]) = [i6 (↑v : Int)] ∧ True ∧ True) ∧ True) = _) ?_
          (repeat' (first | (with_reducible apply And.intro) | (refine fun (_ : True) => ?_)))
          all_goals first | (with_reducible exact hsa) | (with_reducible exact hsb) | (with_reducible exact hsc) | (with_reducible exact haa) | (with_reducible exact hab) | (with_reducible exact hac) | exact aq | exact a1 | exact a2 | (rw [ints_length]; omega) | rfl | skip
        · have z1 : l1 = [] := List.eq_nil_of_length_eq_zero n1
          refine .inl ⟨(v + 1, 1, l1 ++ [(v : Int)], q2 + 1 + 1, l2 ++ [(v : Int)]), [0, 1, 2, 3, 4, 7, 9], [yes 72, va 77 (b8 (wa / 2 ^ v)), va 78 (b8 1), yes 105, va 114 (b8 (wb / 2 ^ v)), va 115 (b8 1), yes 120, ap 125, nu 126 (v + 1 : Nat)], 1000, ⟨by dsimp only; omega, e1.symm, e2.symm, e3.symm, e4.symm⟩, by dsimp only; omega, ?_⟩
          subst z1
          clear e1 e2 e3 e4
          refine Eq.mp (by kernel_rfl : (decide ((↑v : Int) < (5 : Int)) = true ∧ binV (ctxOf Try.prog) BinOp.shr 5 (b8 wa) (i6 (↑v : Int)) = some (b8 (wa / 2 ^ v)) ∧ binV (ctxOf Try.prog) BinOp.and 5 (b8 (wa / 2 ^ v)) (V.int IntKind.u8 (1 : Int)) = some (b8 1) ∧ ((↑v : Int) != (↑out : Int)) = true ∧ binV (ctxOf Try.prog) BinOp.shr 5 (b8 wb) (i6 (↑v : Int)) = some (b8 (wb / 2 ^ v)) ∧ binV (ctxOf Try.prog) BinOp.and 5 (b8 (wb / 2 ^ v)) (V.int IntKind.u8 (1 : Int)) = some (b8 1) ∧ ((↑v : Int) != (↑out : Int)) = true ∧ List.length (ints l2) = (q2 + 1) * 1 ∧ q2 + 1 + 1 ≤ 9223372036854775807 ∧ (q2 + 1 + 1) * 8 ≤ 140737488355328 ∧ wr IntKind.i64 ((↑v : Int) + (1 : Int)) = (↑(v + 1) : Int) ∧ (0 = 0 ∧ 0 = 0 ∧ 0 = 0 ∧ kd = kd ∧ (↑out : Int) = (↑out : Int) ∧ 0 = 0 ∧ 0 = 0 ∧ (2 = 2 ∧ c2 = c2) ∧ ((2 = 2 ∧ c2 = c2) ∧ (3 = 3 ∧ c3 = c3) ∧ True) ∧ k = k ∧ (0 = 0 ∧ 0 + 1 = 1 ∧ True) ∧ (0 = 0 ∧ Nat.succ q2 + 1 = q2 + 1 + 1 ∧ True) ∧ (↑(v + 1) : Int) = (↑(v + 1) : Int) ∧ True) ∧ (dtL wa La = dtL wa La ∧ True ∧ True ∧ True) ∧ (dtL wb Lb = dtL wb Lb ∧ True ∧ True ∧ True) ∧ (dtL wc Lc = dtL wc Lc ∧ True ∧ True ∧ True) ∧ (X = X ∧ HfL X) ∧ (Y = Y ∧ HfL Y) ∧ (ints ([] ++ [(↑v : Int)]) = [i6 (↑v : Int)] ∧ True ∧ True) ∧ (ints (l2 ++ [(↑v : Int)]) = ints l2 ++ [i6 (↑v : Int)] ∧ HfL (ints (l2 ++ [(↑v : Int)]))) ∧ True) = _) ?_
          (repeat' (first | (with_reducible apply And.intro) | (refine fun (_ : True) => ?_)))
          all_goals first | (with_reducible exact hsa) | (with_reducible exact hsb) | (with_reducible exact hsc) | (with_reducible exact haa) | (with_reducible exact hab) | (with_reducible exact hac) | exact aq | exact a1 | exact a2 | (rw [ints_length]; omega) | rfl | skip
        · skip
          have z2 : l2 = [] := List.eq_nil_of_length_eq_zero n2
          refine .inl ⟨(v + 1, q1 + 1 + 1, l1 ++ [(v : Int)], 1, l2 ++ [(v : Int)]), [0, 1, 2, 3, 4, 7, 9], [yes 72, va 77 (b8 (wa / 2 ^ v)), va 78 (b8 1), yes 105, ap 110, va 114 (b8 (wb / 2 ^ v)), va 115 (b8 1), yes 120, nu 126 (v + 1 : Nat)], 1000, ⟨by dsimp only; omega, e1.symm, e2.symm, e3.symm, e4.symm⟩, by dsimp only; omega, ?_⟩
          subst z2
          clear e1 e2 e3 e4
          refine Eq.mp (by kernel_rfl : (decide ((↑v : Int) < (5 : Int)) = true ∧ binV (ctxOf Try.prog) BinOp.shr 5 (b8 wa) (i6 (↑v : Int)) = some (b8 (wa / 2 ^ v)) ∧ binV (ctxOf Try.prog) BinOp.and 5 (b8 (wa / 2 ^ v)) (V.int IntKind.u8 (1 : Int)) = some (b8 1) ∧ ((↑v : Int) != (↑out : Int)) = true ∧ List.length (ints l1) = (q1 + 1) * 1 ∧ q1 + 1 + 1 ≤ 9223372036854775807 ∧ (q1 + 1 + 1) * 8 ≤ 140737488355328 ∧ binV (ctxOf Try.prog) BinOp.shr 5 (b8 wb) (i6 (↑v : Int)) = some (b8 (wb / 2 ^ v)) ∧ binV (ctxOf Try.prog) BinOp.and 5 (b8 (wb / 2 ^ v)) (V.int IntKind.u8 (1 : Int)) = some (b8 1) ∧ ((↑v : Int) != (↑out : Int)) = true ∧ wr IntKind.i64 ((↑v : Int) + (1 : Int)) = (↑(v + 1) : Int) ∧ (0 = 0 ∧ 0 = 0 ∧ 0 = 0 ∧ kd = kd ∧ (↑out : Int) = (↑out : Int) ∧ 0 = 0 ∧ 0 = 0 ∧ (2 = 2 ∧ c2 = c2) ∧ ((2 = 2 ∧ c2 = c2) ∧ (3 = 3 ∧ c3 = c3) ∧ True) ∧ k = k ∧ (0 = 0 ∧ Nat.succ q1 + 1 = q1 + 1 + 1 ∧ True) ∧ (0 = 0 ∧ 0 + 1 = 1 ∧ True) ∧ (↑(v + 1) : Int) = (↑(v + 1) : Int) ∧ True) ∧ (dtL wa La = dtL wa La ∧ True ∧ True ∧ True) ∧ (dtL wb Lb = dtL wb Lb ∧ True ∧ True ∧ True) ∧ (dtL wc Lc = dtL wc Lc ∧ True ∧ True ∧ True) ∧ (X = X ∧ HfL X) ∧ (Y = Y ∧ HfL Y) ∧ (ints (l1 ++ [(↑v : Int)]) = ints l1 ++ [i6 (↑v : Int)] ∧ HfL (ints (l1 ++ [(↑v : Int)]))) ∧ (ints ([] ++ [(↑v : Int)]) = [i6 (↑v : Int)] ∧ True ∧ True) ∧ True) = _) ?_
          (repeat' (first | (with_reducible apply And.intro) | (refine fun (_ : True) => ?_)))
          all_goals first | (with_reducible exact hsa) | (with_reducible exact hsb) | (with_reducible exact hsc) | (with_reducible exact haa) | (with_reducible exact hab) | (with_reducible exact hac) | exact aq | exact a1 | exact a2 | (rw [ints_length]; omega) | rfl | skip
        · skip
          refine .inl ⟨(v + 1, q1 + 1 + 1, l1 ++ [(v : Int)], q2 + 1 + 1, l2 ++ [(v : Int)]), [0, 1, 2, 3, 4, 8, 10], [yes 72, va 77 (b8 (wa / 2 ^ v)), va 78 (b8 1), yes 105, ap 110, va 114 (b8 (wb / 2 ^ v)), va 115 (b8 1), yes 120, ap 125, nu 126 (v + 1 : Nat)], 1000, ⟨by dsimp only; omega, e1.symm, e2.symm, e3.symm, e4.symm⟩, by dsimp only; omega, ?_⟩
          clear e1 e2 e3 e4
          refine Eq.mp (by kernel_rfl : (decide ((↑v : Int) < (5 : Int)) = true ∧ binV (ctxOf Try.prog) BinOp.shr 5 (b8 wa) (i6 (↑v : Int)) = some (b8 (wa / 2 ^ v)) ∧ binV (ctxOf Try.prog) BinOp.and 5 (b8 (wa / 2 ^ v)) (V.int IntKind.u8 (1 : Int)) = some (b8 1) ∧ ((↑v : Int) != (↑out : Int)) = true ∧ List.length (ints l1) = (q1 + 1) * 1 ∧ q1 + 1 + 1 ≤ 9223372036854775807 ∧ (q1 + 1 + 1) * 8 ≤ 140737488355328 ∧ binV (ctxOf Try.prog) BinOp.shr 5 (b8 wb) (i6 (↑v : Int)) = some (b8 (wb / 2 ^ v)) ∧ binV (ctxOf Try.prog) BinOp.and 5 (b8 (wb / 2 ^ v)) (V.int IntKind.u8 (1 : Int)) = some (b8 1) ∧ ((↑v : Int) != (↑out : Int)) = true ∧ List.length (ints l2) = (q2 + 1) * 1 ∧ q2 + 1 + 1 ≤ 9223372036854775807 ∧ (q2 + 1 + 1) * 8 ≤ 140737488355328 ∧ wr IntKind.i64 ((↑v : Int) + (1 : Int)) = (↑(v + 1) : Int) ∧ (0 = 0 ∧ 0 = 0 ∧ 0 = 0 ∧ kd = kd ∧ (↑out : Int) = (↑out : Int) ∧ 0 = 0 ∧ 0 = 0 ∧ (2 = 2 ∧ c2 = c2) ∧ ((2 = 2 ∧ c2 = c2) ∧ (3 = 3 ∧ c3 = c3) ∧ True) ∧ k = k ∧ (0 = 0 ∧ Nat.succ q1 + 1 = q1 + 1 + 1 ∧ True) ∧ (0 = 0 ∧ Nat.succ q2 + 1 = q2 + 1 + 1 ∧ True) ∧ (↑(v + 1) : Int) = (↑(v + 1) : Int) ∧ True) ∧ (dtL wa La = dtL wa La ∧ True ∧ True ∧ True) ∧ (dtL wb Lb = dtL wb Lb ∧ True ∧ True ∧ True) ∧ (dtL wc Lc = dtL wc Lc ∧ True ∧ True ∧ True) ∧ (X = X ∧ HfL X) ∧ (Y = Y ∧ HfL Y) ∧ (ints (l1 ++ [(↑v : Int)]) = ints l1 ++ [i6 (↑v : Int)] ∧ HfL (ints (l1 ++ [(↑v : Int)]))) ∧ (ints (l2 ++ [(↑v : Int)]) = ints l2 ++ [i6 (↑v : Int)] ∧ HfL (ints (l2 ++ [(↑v : Int)]))) ∧ True) = _) ?_
          (repeat' (first | (with_reducible apply And.intro) | (refine fun (_ : True) => ?_)))
          all_goals first | (with_reducible exact hsa) | (with_reducible exact hsb) | (with_reducible exact hsc) | (with_reducible exact haa) | (with_reducible exact hab) | (with_reducible exact hac) | exact aq | exact a1 | exact a2 | (rw [ints_length]; omega) | rfl | skip
      · rw [show wb / 2 ^ v % 2 = 0 by omega] at hab
        have e1 : dQ K (v + 1) = q1 + 1 := by rw [dQ, if_pos (by rw [kv]; simp [*]), hq1]
        have e2 : dV K (v + 1) = l1 ++ [(v : Int)] := by rw [dV, if_pos (by rw [kv]; simp [*]), hl1]
        have e3 : dQ L (v + 1) = q2 := by rw [dQ, if_neg (by rw [lv]; simp [*]), hq2]
        have e4 : dV L (v + 1) = l2 := by rw [dV, if_neg (by rw [lv]; simp [*]), hl2]
        clear kv lv hq1 hl1 hq2 hl2
        rcases q1 with _ | q1 <;> rcases q2 with _ | q2
        · have z1 : l1 = [] := List.eq_nil_of_length_eq_zero n1
          have z2 : l2 = [] := List.eq_nil_of_length_eq_zero n2
          refine .inl ⟨(v + 1, 1, l1 ++ [(v : Int)], 0, l2), [0, 1, 2, 3, 4, 6], [yes 72, va 77 (b8 (wa / 2 ^ v)), va 78 (b8 1), yes 105, va 114 (b8 (wb / 2 ^ v)), va 115 (b8 0), nu 126 (v + 1 : Nat)], 1000, ⟨by dsimp only; omega, e1.symm, e2.symm, e3.symm, e4.symm⟩, by dsimp only; omega, ?_⟩
          subst z1
          subst z2
          clear e1 e2 e3 e4
          refine Eq.mp (by kernel_rfl : (decide ((↑v : Int) < (5 : Int)) = true ∧ binV (ctxOf Try.prog) BinOp.shr 5 (b8 wa) (i6 (↑v : Int)) = some (b8 (wa / 2 ^ v)) ∧ binV (ctxOf Try.prog) BinOp.and 5 (b8 (wa / 2 ^ v)) (V.int IntKind.u8 (1 : Int)) = some (b8 1) ∧ ((↑v : Int) != (↑out : Int)) = true ∧ binV (ctxOf Try.prog) BinOp.shr 5 (b8 wb) (i6 (↑v : Int)) = some (b8 (wb / 2 ^ v)) ∧ binV (ctxOf Try.prog) BinOp.and 5 (b8 (wb / 2 ^ v)) (V.int IntKind.u8 (1 : Int)) = some (b8 0) ∧ wr IntKind.i64 ((↑v : Int) + (1 : Int)) = (↑(v + 1) : Int) ∧ (0 = 0 ∧ 0 = 0 ∧ 0 = 0 ∧ kd = kd ∧ (↑out : Int) = (↑out : Int) ∧ 0 = 0 ∧ 0 = 0 ∧ (2 = 2 ∧ c2 = c2) ∧ ((2 = 2 ∧ c2 = c2) ∧ (3 = 3 ∧ c3 = c3) ∧ True) ∧ k = k ∧ (0 = 0 ∧ 0 + 1 = 1 ∧ True) ∧ True ∧ (↑(v + 1) : Int) = (↑(v + 1) : Int) ∧ True) ∧ (dtL wa La = dtL wa La ∧ True ∧ True ∧ True) ∧ (dtL wb Lb = dtL wb Lb ∧ True ∧ True ∧ True) ∧ (dtL wc Lc = dtL wc Lc ∧ True ∧ True ∧ True) ∧ (X = X ∧ HfL X) ∧ (Y = Y ∧ HfL Y) ∧ (ints ([] ++ [(↑v : Int)]) = [i6 (↑v : Int)] ∧ True ∧ True) ∧ True) = _) ?_
          (repeat' (first | (with_reducible apply And.intro) | (refine fun (_ : True) => ?_)))
          all_goals first | (with_reducible exact hsa) | (with_reducible exact hsb) | (with_reducible exact hsc) | (with_reducible exact haa) | (with_reducible exact hab) | (with_reducible exact hac) | exact aq | exact a1 | exact a2 | (rw [ints_length]; omega) | rfl | skip
        · have z1 : l1 = [] := List.eq_nil_of_length_eq_zero n1
          refine .inl ⟨(v + 1, 1, l1 ++ [(v : Int)], q2 + 1, l2), [0, 1, 2, 3, 4, 7, 5], [yes 72, va 77 (b8 (wa / 2 ^ v)), va 78 (b8 1), yes 105, va 114 (b8 (wb / 2 ^ v)), va 115 (b8 0), nu 126 (v + 1 : Nat)], 1000, ⟨by dsimp only; omega, e1.symm, e2.symm, e3.symm, e4.symm⟩, by dsimp only; omega, ?_⟩
          subst z1
          clear e1 e2 e3 e4
          refine Eq.mp (by kernel_rfl : (decide ((↑v : Int) < (5 : Int)) = true ∧ binV (ctxOf Try.prog) BinOp.shr 5 (b8 wa) (i6 (↑v : Int)) = some (b8 (wa / 2 ^ v)) ∧ binV (ctxOf Try.prog) BinOp.and 5 (b8 (wa / 2 ^ v)) (V.int IntKind.u8 (1 : Int)) = some (b8 1) ∧ ((↑v : Int) != (↑out : Int)) = true ∧ binV (ctxOf Try.prog) BinOp.shr 5 (b8 wb) (i6 (↑v : Int)) = some (b8 (wb / 2 ^ v)) ∧ binV (ctxOf Try.prog) BinOp.and 5 (b8 (wb / 2 ^ v)) (V.int IntKind.u8 (1 : Int)) = some (b8 0) ∧ wr IntKind.i64 ((↑v : Int) + (1 : Int)) = (↑(v + 1) : Int) ∧ (0 = 0 ∧ 0 = 0 ∧ 0 = 0 ∧ kd = kd ∧ (↑out : Int) = (↑out : Int) ∧ 0 = 0 ∧ 0 = 0 ∧ (2 = 2 ∧ c2 = c2) ∧ ((2 = 2 ∧ c2 = c2) ∧ (3 = 3 ∧ c3 = c3) ∧ True) ∧ k = k ∧ (0 = 0 ∧ 0 + 1 = 1 ∧ True) ∧ (0 = 0 ∧ q2 + 1 = q2 + 1 ∧ True) ∧ (↑(v + 1) : Int) = (↑(v + 1) : Int) ∧ True) ∧ (dtL wa La = dtL wa La ∧ True ∧ True ∧ True) ∧ (dtL wb Lb = dtL wb Lb ∧ True ∧ True ∧ True) ∧ (dtL wc Lc = dtL wc Lc ∧ True ∧ True ∧ True) ∧ (X = X ∧ HfL X) ∧ (Y = Y ∧ HfL Y) ∧ (ints ([] ++ [(↑v : Int)]) = [i6 (↑v : Int)] ∧ True ∧ True) ∧ (ints l2 = ints l2 ∧ HfL (ints l2)) ∧ True) = _) ?_
          (repeat' (first | (with_reducible apply And.intro) | (refine fun (_ : True) => ?_)))
          all_goals first | (with_reducible exact hsa) | (with_reducible exact hsb) | (with_reducible exact hsc) | (with_reducible exact haa) | (with_reducible exact hab) | (with_reducible exact hac) | exact aq | exact a1 | exact a2 | (rw [ints_length]; omega) | rfl | skip
        · skip
          have z2 : l2 = [] := List.eq_nil_of_length_eq_zero n2
          refine .inl ⟨(v + 1, q1 + 1 + 1, l1 ++ [(v : Int)], 0, l2), [0, 1, 2, 3, 4, 7], [yes 72, va 77 (b8 (wa / 2 ^ v)), va 78 (b8 1), yes 105, ap 110, va 114 (b8 (wb / 2 ^ v)), va 115 (b8 0), nu 126 (v + 1 : Nat)], 1000, ⟨by dsimp only; omega, e1.symm, e2.symm, e3.symm, e4.symm⟩, by dsimp only; omega, ?_⟩
          subst z2
          clear e1 e2 e3 e4
          refine Eq.mp (by kernel_rfl : (decide ((↑v : Int) < (5 : Int)) = true ∧ binV (ctxOf Try.prog) BinOp.shr 5 (b8 wa) (i6 (↑v : Int)) = some (b8 (wa / 2 ^ v)) ∧ binV (ctxOf Try.prog) BinOp.and 5 (b8 (wa / 2 ^ v)) (V.int IntKind.u8 (1 : Int)) = some (b8 1) ∧ ((↑v : Int) != (↑out : Int)) = true ∧ List.length (ints l1) = (q1 + 1) * 1 ∧ q1 + 1 + 1 ≤ 9223372036854775807 ∧ (q1 + 1 + 1) * 8 ≤ 140737488355328 ∧ binV (ctxOf Try.prog) BinOp.shr 5 (b8 wb) (i6 (↑v : Int)) = some (b8 (wb / 2 ^ v)) ∧ binV (ctxOf Try.prog) BinOp.and 5 (b8 (wb / 2 ^ v)) (V.int IntKind.u8 (1 : Int)) = some (b8 0) ∧ wr IntKind.i64 ((↑v : Int) + (1 : Int)) = (↑(v + 1) : Int) ∧ (0 = 0 ∧ 0 = 0 ∧ 0 = 0 ∧ kd = kd ∧ (↑out : Int) = (↑out : Int) ∧ 0 = 0 ∧ 0 = 0 ∧ (2 = 2 ∧ c2 = c2) ∧ ((2 = 2 ∧ c2 = c2) ∧ (3 = 3 ∧ c3 = c3) ∧ True) ∧ k = k ∧ (0 = 0 ∧ Nat.succ q1 + 1 = q1 + 1 + 1 ∧ True) ∧ True ∧ (↑(v + 1) : Int) = (↑(v + 1) : Int) ∧ True) ∧ (dtL wa La = dtL wa La ∧ True ∧ True ∧ True) ∧ (dtL wb Lb = dtL wb Lb ∧ True ∧ True ∧ True) ∧ (dtL wc Lc = dtL wc Lc ∧ True ∧ True ∧ True) ∧ (X = X ∧ HfL X) ∧ (Y = Y ∧ HfL Y) ∧ (ints (l1 ++ [(↑v : Int)]) = ints l1 ++ [i6 (↑v : Int)] ∧ HfL (ints (l1 ++ [(↑v : Int)]))) ∧ True) = _) ?_
          (repeat' (first | (with_reducible apply And.intro) | (refine fun (_ : True) => ?_)))
          all_goals first | (with_reducible exact hsa) | (with_reducible exact hsb) | (with_reducible exact hsc) | (with_reducible exact haa) | (with_reducible exact hab) | (with_reducible exact hac) | exact aq | exact a1 | exact a2 | (rw [ints_length]; omega) | rfl | skip
        · skip
          refine .inl ⟨(v + 1, q1 + 1 + 1, l1 ++ [(v : Int)], q2 + 1, l2), [0, 1, 2, 3, 4, 8, 6], [yes 72, va 77 (b8 (wa / 2 ^ v)), va 78 (b8 1), yes 105, ap 110, va 114 (b8 (wb / 2 ^ v)), va 115 (b8 0), nu 126 (v + 1 : Nat)], 1000, ⟨by dsimp only; omega, e1.symm, e2.symm, e3.symm, e4.symm⟩, by dsimp only; omega, ?_⟩
          clear e1 e2 e3 e4
          refine Eq.mp (by kernel_rfl : (decide ((↑v : Int) < (5 : Int)) = true ∧ binV (ctxOf Try.prog) BinOp.shr 5 (b8 wa) (i6 (↑v : Int)) = some (b8 (wa / 2 ^ v)) ∧ binV (ctxOf Try.prog) BinOp.and 5 (b8 (wa / 2 ^ v)) (V.int IntKind.u8 (1 : Int)) = some (b8 1) ∧ ((↑v : Int) != (↑out : Int)) = true ∧ List.length (ints l1) = (q1 + 1) * 1 ∧ q1 + 1 + 1 ≤ 9223372036854775807 ∧ (q1 + 1 + 1) * 8 ≤ 140737488355328 ∧ binV (ctxOf Try.prog) BinOp.shr 5 (b8 wb) (i6 (↑v : Int)) = some (b8 (wb / 2 ^ v)) ∧ binV (ctxOf Try.prog) BinOp.and 5 (b8 (wb / 2 ^ v)) (V.int IntKind.u8 (1 : Int)) = some (b8 0) ∧ wr IntKind.i64 ((↑v : Int) + (1 : Int)) = (↑(v + 1) : Int) ∧ (0 = 0 ∧ 0 = 0 ∧ 0 = 0 ∧ kd = kd ∧ (↑out : Int) = (↑out : Int) ∧ 0 = 0 ∧ 0 = 0 ∧ (2 = 2 ∧ c2 = c2) ∧ ((2 = 2 ∧ c2 = c2) ∧ (3 = 3 ∧ c3 = c3) ∧ True) ∧ k = k ∧ (0 = 0 ∧ Nat.succ q1 + 1 = q1 + 1 + 1 ∧ True) ∧ (0 = 0 ∧ q2 + 1 = q2 + 1 ∧ True) ∧ (↑(v + 1) : Int) = (↑(v + 1) : Int) ∧ True) ∧ (dtL wa La = dtL wa La ∧ True ∧ True ∧ True) ∧ (dtL wb Lb = dtL wb Lb ∧ True ∧ True ∧ True) ∧ (dtL wc Lc = dtL wc Lc ∧ True ∧ True ∧ True) ∧ (X = X ∧ HfL X) ∧ (Y = Y ∧ HfL Y) ∧ (ints (l1 ++ [(↑v : Int)]) = ints l1 ++ [i6 (↑v : Int)] ∧ HfL (ints (l1 ++ [(↑v : Int)]))) ∧ (ints l2 = ints l2 ∧ HfL (ints l2)) ∧ True) = _) ?_
          (repeat' (first | (with_reducible apply And.intro) | (refine fun (_ : True) => ?_)))
          all_goals first | (with_reducible exact hsa) | (with_reducible exact hsb) | (with_reducible exact hsc) | (with_reducible exact haa) | (with_reducible exact hab) | (with_reducible exact hac) | exact aq | exact a1 | exact a2 | (rw [ints_length]; omega) | rfl | skip
    · rw [show wa / 2 ^ v % 2 = 0 by omega] at haa
      by_cases hb : wb / 2 ^ v % 2 = 1
      · rw [hb] at hab
        by_cases hvo : v = out
        · skip
          have e1 : dQ K (v + 1) = q1 := by rw [dQ, if_neg (by rw [kv]; simp [*]), hq1]
          have e2 : dV K (v + 1) = l1 := by rw [dV, if_neg (by rw [kv]; simp [*]), hl1]
          have e3 : dQ L (v + 1) = q2 := by rw [dQ, if_neg (by rw [lv]; simp [*]), hq2]
          have e4 : dV L (v + 1) = l2 := by rw [dV, if_neg (by rw [lv]; simp [*]), hl2]
          clear kv lv hq1 hl1 hq2 hl2
          rcases q1 with _ | q1 <;> rcases q2 with _ | q2
          · have z1 : l1 = [] := List.eq_nil_of_length_eq_zero n1
            have z2 : l2 = [] := List.eq_nil_of_length_eq_zero n2
            refine .inl ⟨(v + 1, 0, l1, 0, l2), [0, 1, 2, 3, 4], [yes 72, va 77 (b8 (wa / 2 ^ v)), va 78 (b8 0), va 84 (b8 (wb / 2 ^ v)), va 85 (b8 1), no 105, va 114 (b8 (wb / 2 ^ v)), va 115 (b8 1), no 120, nu 126 (v + 1 : Nat)], 1000, ⟨by dsimp only; omega, e1.symm, e2.symm, e3.symm, e4.symm⟩, by dsimp only; omega, ?_⟩
            subst z1
            subst z2
            clear e1 e2 e3 e4
            refine Eq.mp (by kernel_rfl : (decide ((↑v : Int) < (5 : Int)) = true ∧ binV (ctxOf Try.prog) BinOp.shr 5 (b8 wa) (i6 (↑v : Int)) = some (b8 (wa / 2 ^ v)) ∧ binV (ctxOf Try.prog) BinOp.and 5 (b8 (wa / 2 ^ v)) (V.int IntKind.u8 (1 : Int)) = some (b8 0) ∧ binV (ctxOf Try.prog) BinOp.shr 5 (b8 wb) (i6 (↑v : Int)) = some (b8 (wb / 2 ^ v)) ∧ binV (ctxOf Try.prog) BinOp.and 5 (b8 (wb / 2 ^ v)) (V.int IntKind.u8 (1 : Int)) = some (b8 1) ∧ ((↑v : Int) != (↑out : Int)) = false ∧ binV (ctxOf Try.prog) BinOp.shr 5 (b8 wb) (i6 (↑v : Int)) = some (b8 (wb / 2 ^ v)) ∧ binV (ctxOf Try.prog) BinOp.and 5 (b8 (wb / 2 ^ v)) (V.int IntKind.u8 (1 : Int)) = some (b8 1) ∧ ((↑v : Int) != (↑out : Int)) = false ∧ wr IntKind.i64 ((↑v : Int) + (1 : Int)) = (↑(v + 1) : Int) ∧ (0 = 0 ∧ 0 = 0 ∧ 0 = 0 ∧ kd = kd ∧ (↑out : Int) = (↑out : Int) ∧ 0 = 0 ∧ 0 = 0 ∧ (2 = 2 ∧ c2 = c2) ∧ ((2 = 2 ∧ c2 = c2) ∧ (3 = 3 ∧ c3 = c3) ∧ True) ∧ k = k ∧ True ∧ True ∧ (↑(v + 1) : Int) = (↑(v + 1) : Int) ∧ True) ∧ (dtL wa La = dtL wa La ∧ True ∧ True ∧ True) ∧ (dtL wb Lb = dtL wb Lb ∧ True ∧ True ∧ True) ∧ (dtL wc Lc = dtL wc Lc ∧ True ∧ True ∧ True) ∧ (X = X ∧ HfL X) ∧ (Y = Y ∧ HfL Y) ∧ True) = _) ?_
            (repeat' (first | (with_reducible apply And.intro) | (refine fun (_ : True) => ?_)))
            all_goals first | (with_reducible exact hsa) | (with_reducible exact hsb) | (with_reducible exact hsc) | (with_reducible exact haa) | (with_reducible exact hab) | (with_reducible exact hac) | exact aq | exact a1 | exact a2 | (rw [ints_length]; omega) | rfl | skip
          · have z1 : l1 = [] := List.eq_nil_of_length_eq_zero n1
            refine .inl ⟨(v + 1, 0, l1, q2 + 1, l2), [0, 1, 2, 3, 4, 5], [yes 72, va 77 (b8 (wa / 2 ^ v)), va 78 (b8 0), va 84 (b8 (wb / 2 ^ v)), va 85 (b8 1), no 105, va 114 (b8 (wb / 2 ^ v)), va 115 (b8 1), no 120, nu 126 (v + 1 : Nat)], 1000, ⟨by dsimp only; omega, e1.symm, e2.symm, e3.symm, e4.symm⟩, by dsimp only; omega, ?_⟩
            subst z1
            clear e1 e2 e3 e4
            refine Eq.mp (by kernel_rfl : (decide ((↑v : Int) < (5 : Int)) = true ∧ binV (ctxOf Try.prog) BinOp.shr 5 (b8 wa) (i6 (↑v : Int)) = some (b8 (wa / 2 ^ v)) ∧ binV (ctxOf Try.prog) BinOp.and 5 (b8 (wa / 2 ^ v)) (V.int IntKind.u8 (1 : Int)) = some (b8 0) ∧ binV (ctxOf Try.prog) BinOp.shr 5 (b8 wb) (i6 (↑v : Int)) = some (b8 (wb / 2 ^ v)) ∧ binV (ctxOf Try.prog) BinOp.and 5 (b8 (wb / 2 ^ v)) (V.int IntKind.u8 (1 : Int)) = some (b8 1) ∧ ((↑v : Int) != (↑out : Int)) = false ∧ binV (ctxOf Try.prog) BinOp.shr 5 (b8 wb) (i6 (↑v : Int)) = some (b8 (wb / 2 ^ v)) ∧ binV (ctxOf Try.prog) BinOp.and 5 (b8 (wb / 2 ^ v)) (V.int IntKind.u8 (1 : Int)) = some (b8 1) ∧ ((↑v : Int) != (↑out : Int)) = false ∧ wr IntKind.i64 ((↑v : Int) + (1 : Int)) = (↑(v + 1) : Int) ∧ (0 = 0 ∧ 0 = 0 ∧ 0 = 0 ∧ kd = kd ∧ (↑out : Int) = (↑out : Int) ∧ 0 = 0 ∧ 0 = 0 ∧ (2 = 2 ∧ c2 = c2) ∧ ((2 = 2 ∧ c2 = c2) ∧ (3 = 3 ∧ c3 = c3) ∧ True) ∧ k = k ∧ True ∧ (0 = 0 ∧ q2 + 1 = q2 + 1 ∧ True) ∧ (↑(v + 1) : Int) = (↑(v + 1) : Int) ∧ True) ∧ (dtL wa La = dtL wa La ∧ True ∧ True ∧ True) ∧ (dtL wb Lb = dtL wb Lb ∧ True ∧ True ∧ True) ∧ (dtL wc Lc = dtL wc Lc ∧ True ∧ True ∧ True) ∧ (X = X ∧ HfL X) ∧ (Y = Y ∧ HfL Y) ∧ (ints l2 = ints l2 ∧ HfL (ints l2)) ∧ True) = _) ?_
            (repeat' (first | (with_reducible apply And.intro) | (refine fun (_ : True) => ?_)))
            all_goals first | (with_reducible exact hsa) | (with_reducible exact hsb) | (with_reducible exact hsc) | (with_reducible exact haa) | (with_reducible exact hab) | (with_reducible exact hac) | exact aq | exact a1 | exact a2 | (rw [ints_length]; omega) | rfl | skip
          · skip
            have z2 : l2 = [] := List.eq_nil_of_length_eq_zero n2
            refine .inl ⟨(v + 1, q1 + 1, l1, 0, l2), [0, 1, 2, 3, 4, 5], [yes 72, va 77 (b8 (wa / 2 ^ v)), va 78 (b8 0), va 84 (b8 (wb / 2 ^ v)), va 85 (b8 1), no 105, va 114 (b8 (wb / 2 ^ v)), va 115 (b8 1), no 120, nu 126 (v + 1 : Nat)], 1000, ⟨by dsimp only; omega, e1.symm, e2.symm, e3.symm, e4.symm⟩, by dsimp only; omega, ?_⟩
            subst z2
            clear e1 e2 e3 e4
            refine Eq.mp (by kernel_rfl : (decide ((↑v : Int) < (5 : Int)) = true ∧ binV (ctxOf Try.prog) BinOp.shr 5 (b8 wa) (i6 (↑v : Int)) = some (b8 (wa / 2 ^ v)) ∧ binV (ctxOf Try.prog) BinOp.and 5 (b8 (wa / 2 ^ v)) (V.int IntKind.u8 (1 : Int)) = some (b8 0) ∧ binV (ctxOf Try.prog) BinOp.shr 5 (b8 wb) (i6 (↑v : Int)) = some (b8 (wb / 2 ^ v)) ∧ binV (ctxOf Try.prog) BinOp.and 5 (b8 (wb / 2 ^ v)) (V.int IntKind.u8 (1 : Int)) = some (b8 1) ∧ ((↑v : Int) != (↑out : Int)) = false ∧ binV (ctxOf Try.prog) BinOp.shr 5 (b8 wb) (i6 (↑v : Int)) = some (b8 (wb / 2 ^ v)) ∧ binV (ctxOf Try.prog) BinOp.and 5 (b8 (wb / 2 ^ v)) (V.int IntKind.u8 (1 : Int)) = some (b8 1) ∧ ((↑v : Int) != (↑out : Int)) = false ∧ wr IntKind.i64 ((↑v : Int) + (1 : Int)) = (↑(v + 1) : Int) ∧ (0 = 0 ∧ 0 = 0 ∧ 0 = 0 ∧ kd = kd ∧ (↑out : Int) = (↑out : Int) ∧ 0 = 0 ∧ 0 = 0 ∧ (2 = 2 ∧ c2 = c2) ∧ ((2 = 2 ∧ c2 = c2) ∧ (3 = 3 ∧ c3 = c3) ∧ True) ∧ k = k ∧ (0 = 0 ∧ q1 + 1 = q1 + 1 ∧ True) ∧ True ∧ (↑(v + 1) : Int) = (↑(v + 1) : Int) ∧ True) ∧ (dtL wa La = dtL wa La ∧ True ∧ True ∧ True) ∧ (dtL wb Lb = dtL wb Lb ∧ True ∧ True ∧ True) ∧ (dtL wc Lc = dtL wc Lc ∧ True ∧ True ∧ True) ∧ (X = X ∧ HfL X) ∧ (Y = Y ∧ HfL Y) ∧ (ints l1 = ints l1 ∧ HfL (ints l1)) ∧ True) = _) ?_
            (repeat' (first | (with_reducible apply And.intro) | (refine fun (_ : True) => ?_)))
            all_goals first | (with_reducible exact hsa) | (with_reducible exact hsb) | (with_reducible exact hsc) | (with_reducible exact haa) | (with_reducible exact hab) | (with_reducible exact hac) | exact aq | exact a1 | exact a2 | (rw [ints_length]; omega) | rfl | skip
          · skip
            refine .inl ⟨(v + 1, q1 + 1, l1, q2 + 1, l2), [0, 1, 2, 3, 4, 5, 6], [yes 72, va 77 (b8 (wa / 2 ^ v)), va 78 (b8 0), va 84 (b8 (wb / 2 ^ v)), va 85 (b8 1), no 105, va 114 (b8 (wb / 2 ^ v)), va 115 (b8 1), no 120, nu 126 (v + 1 : Nat)], 1000, ⟨by dsimp only; omega, e1.symm, e2.symm, e3.symm, e4.symm⟩, by dsimp only; omega, ?_⟩
            clear e1 e2 e3 e4
            refine Eq.mp (by kernel_rfl : (decide ((↑v : Int) < (5 : Int)) = true ∧ binV (ctxOf Try.prog) BinOp.shr 5 (b8 wa) (i6 (↑v : Int)) = some (b8 (wa / 2 ^ v)) ∧ binV (ctxOf Try.prog) BinOp.and 5 (b8 (wa / 2 ^ v)) (V.int IntKind.u8 (1 : Int)) = some (b8 0) ∧ binV (ctxOf Try.prog) BinOp.shr 5 (b8 wb) (i6 (↑v : Int)) = some (b8 (wb / 2 ^ v)) ∧ binV (ctxOf Try.prog) BinOp.and 5 (b8 (wb / 2 ^ v)) (V.int IntKind.u8 (1 : Int)) = some (b8 1) ∧ ((↑v : Int) != (↑out : Int)) = false ∧ binV (ctxOf Try.prog) BinOp.shr 5 (b8 wb) (i6 (↑v : Int)) = some (b8 (wb / 2 ^ v)) ∧ binV (ctxOf Try.prog) BinOp.and 5 (b8 (wb / 2 ^ v)) (V.int IntKind.u8 (1 : Int)) = some (b8 1) ∧ ((↑v : Int) != (↑out : Int)) = false ∧ wr IntKind.i64 ((↑v : Int) + (1 : Int)) = (↑(v + 1) : Int) ∧ (0 = 0 ∧ 0 = 0 ∧ 0 = 0 ∧ kd = kd ∧ (↑out : Int) = (↑out : Int) ∧ 0 = 0 ∧ 0 = 0 ∧ (2 = 2 ∧ c2 = c2) ∧ ((2 = 2 ∧ c2 = c2) ∧ (3 = 3 ∧ c3 = c3) ∧ True) ∧ k = k ∧ (0 = 0 ∧ q1 + 1 = q1 + 1 ∧ True) ∧ (0 = 0 ∧ q2 + 1 = q2 + 1 ∧ True) ∧ (↑(v + 1) : Int) = (↑(v + 1) : Int) ∧ True) ∧ (dtL wa La = dtL wa La ∧ True ∧ True ∧ True) ∧ (dtL wb Lb = dtL wb Lb ∧ True ∧ True ∧ True) ∧ (dtL wc Lc = dtL wc Lc ∧ True ∧ True ∧ True) ∧ (X = X ∧ HfL X) ∧ (Y = Y ∧ HfL Y) ∧ (ints l1 = ints l1 ∧ HfL (ints l1)) ∧ (ints l2 = ints l2 ∧ HfL (ints l2)) ∧ True) = _) ?_
            (repeat' (first | (with_reducible apply And.intro) | (refine fun (_ : True) => ?_)))
            all_goals first | (with_reducible exact hsa) | (with_reducible exact hsb) | (with_reducible exact hsc) | (with_reducible exact haa) | (with_reducible exact hab) | (with_reducible exact hac) | exact aq | exact a1 | exact a2 | (rw [ints_length]; omega) | rfl | skip
        · skip
          have e1 : dQ K (v + 1) = q1 + 1 := by rw [dQ, if_pos (by rw [kv]; simp [*]), hq1]
          have e2 : dV K (v + 1) = l1 ++ [(v : Int)] := by rw [dV, if_pos (by rw [kv]; simp [*]), hl1]
          have e3 : dQ L (v + 1) = q2 + 1 := by rw [dQ, if_pos (by rw [lv]; simp [*]), hq2]
          have e4 : dV L (v + 1) = l2 ++ [(v : Int)] := by rw [dV, if_pos (by rw [lv]; simp [*]), hl2]
          clear kv lv hq1 hl1 hq2 hl2
          rcases q1 with _ | q1 <;> rcases q2 with _ | q2
          · have z1 : l1 = [] := List.eq_nil_of_length_eq_zero n1
            have z2 : l2 = [] := List.eq_nil_of_length_eq_zero n2
            refine .inl ⟨(v + 1, 1, l1 ++ [(v : Int)], 1, l2 ++ [(v : Int)]), [0, 1, 2, 3, 4, 6, 8], [yes 72, va 77 (b8 (wa / 2 ^ v)), va 78 (b8 0), va 84 (b8 (wb / 2 ^ v)), va 85 (b8 1), yes 105, va 114 (b8 (wb / 2 ^ v)), va 115 (b8 1), yes 120, nu 126 (v + 1 : Nat)], 1000, ⟨by dsimp only; omega, e1.symm, e2.symm, e3.symm, e4.symm⟩, by dsimp only; omega, ?_⟩
            subst z1
            subst z2
            clear e1 e2 e3 e4
            refine Eq.mp (by kernel_rfl : (decide ((↑v : Int) < (5 : Int)) = true ∧ binV (ctxOf Try.prog) BinOp.shr 5 (b8 wa) (i6 (↑v : Int)) = some (b8 (wa / 2 ^ v)) ∧ binV (ctxOf Try.prog) BinOp.and 5 (b8 (wa / 2 ^ v)) (V.int IntKind.u8 (1 : Int)) = some (b8 0) ∧ binV (ctxOf Try.prog) BinOp.shr 5 (b8 wb) (i6 (↑v : Int)) = some (b8 (wb / 2 ^ v)) ∧ binV (ctxOf Try.prog) BinOp.and 5 (b8 (wb / 2 ^ v)) (V.int IntKind.u8 (1 : Int)) = some (b8 1) ∧ ((↑v : Int) != (↑out : Int)) = true ∧ binV (ctxOf Try.prog) BinOp.shr 5 (b8 wb) (i6 (↑v : Int)) = some (b8 (wb / 2 ^ v)) ∧ binV (ctxOf Try.prog) BinOp.and 5 (b8 (wb / 2 ^ v)) (V.int IntKind.u8 (1 : Int)) = some (b8 1) ∧ ((↑v : Int) != (↑out : Int)) = true ∧ wr IntKind.i64 ((↑v : Int) + (1 : Int)) = (↑(v + 1) : Int) ∧ (0 = 0 ∧ 0 = 0 ∧ 0 = 0 ∧ kd = kd ∧ (↑out : Int) = (↑out : Int) ∧ 0 = 0 ∧ 0 = 0 ∧ (2 = 2 ∧ c2 = c2) ∧ ((2 = 2 ∧ c2 = c2) ∧ (3 = 3 ∧ c3 = c3) ∧ True) ∧ k = k ∧ (0 = 0 ∧ 0 + 1 = 1 ∧ True) ∧ (0 = 0 ∧ 0 + 1 = 1 ∧ True) ∧ (↑(v + 1) : Int) = (↑(v + 1) : Int) ∧ True) ∧ (dtL wa La = dtL wa La ∧ True ∧ True ∧ True) ∧ (dtL wb Lb = dtL wb Lb ∧ True ∧ True ∧ True) ∧ (dtL wc Lc = dtL wc Lc ∧ True ∧ True ∧ True) ∧ (X = X ∧ HfL X) ∧ (Y = Y ∧ HfL Y) ∧ (ints ([] ++ [(↑v : Int)]) = [i6 (↑v : Int)] ∧ True ∧ True) ∧ (ints ([] ++ [(↑v : Int)]) = [i6 (↑v : Int)] ∧ True ∧ True) ∧ True) = _) ?_
            (repeat' (first | (with_reducible apply And.intro) | (refine fun (_ : True) => ?_)))
            all_goals first | (with_reducible exact hsa) | (with_reducible exact hsb) | (with_reducible exact hsc) | (with_reducible exact haa) | (with_reducible exact hab) | (with_reducible exact hac) | exact aq | exact a1 | exact a2 | (rw [ints_length]; omega) | rfl | skip
          · have z1 : l1 = [] := List.eq_nil_of_length_eq_zero n1
            refine .inl ⟨(v + 1, 1, l1 ++ [(v : Int)], q2 + 1 + 1, l2 ++ [(v : Int)]), [0, 1, 2, 3, 4, 7, 9], [yes 72, va 77 (b8 (wa / 2 ^ v)), va 78 (b8 0), va 84 (b8 (wb / 2 ^ v)), va 85 (b8 1), yes 105, va 114 (b8 (wb / 2 ^ v)), va 115 (b8 1), yes 120, ap 125, nu 126 (v + 1 : Nat)], 1000, ⟨by dsimp only; omega, e1.symm, e2.symm, e3.symm, e4.symm⟩, by dsimp only; omega, ?_⟩
            subst z1
            clear e1 e2 e3 e4
            refine Eq.mp (by kernel_rfl : (decide ((↑v : Int) < (5 : Int)) = true ∧ binV (ctxOf Try.prog) BinOp.shr 5 (b8 wa) (i6 (↑v : Int)) = some (b8 (wa / 2 ^ v)) ∧ binV (ctxOf Try.prog) BinOp.and 5 (b8 (wa / 2 ^ v)) (V.int IntKind.u8 (1 : Int)) = some (b8 0) ∧ binV (ctxOf Try.prog) BinOp.shr 5 (b8 wb) (i6 (↑v : Int)) = some (b8 (wb / 2 ^ v)) ∧ binV (ctxOf Try.prog) BinOp.and 5 (b8 (wb / 2 ^ v)) (V.int IntKind.u8 (1 : Int)) = some (b8 1) ∧ ((↑v : Int) != (↑out : Int)) = true ∧ binV (ctxOf Try.prog) BinOp.shr 5 (b8 wb) (i6 (↑v : Int)) = some (b8 (wb / 2 ^ v)) ∧ binV (ctxOf Try.prog) BinOp.and 5 (b8 (wb / 2 ^ v)) (V.int IntKind.u8 (1 : Int)) = some (b8 1) ∧ ((↑v : Int) != (↑out : Int)) = true ∧ List.length (ints l2) = (q2 + 1) * 1 ∧ q2 + 1 + 1 ≤ 9223372036854775807 ∧ (q2 + 1 + 1) * 8 ≤ 140737488355328 ∧ wr IntKind.i64 ((↑v : Int) + (1 : Int)) = (↑(v + 1) : Int) ∧ (0 = 0 ∧ 0 = 0 ∧ 0 = 0 ∧ kd = kd ∧ (↑out : Int) = (↑out : Int) ∧ 0 = 0 ∧ 0 = 0 ∧ (2 = 2 ∧ c2 = c2) ∧ ((2 = 2 ∧ c2 = c2) ∧ (3 = 3 ∧ c3 = c3) ∧ True) ∧ k = k ∧ (0 = 0 ∧ 0 + 1 = 1 ∧ True) ∧ (0 = 0 ∧ Nat.succ q2 + 1 = q2 + 1 + 1 ∧ True) ∧ (↑(v + 1) : Int) = (↑(v + 1) : Int) ∧ True) ∧ (dtL wa La = dtL wa La ∧ True ∧ True ∧ True) ∧ (dtL wb Lb = dtL wb Lb ∧ True ∧ True ∧ True) ∧ (dtL wc Lc = dtL wc Lc ∧ True ∧ True ∧ True) ∧ (X = X ∧ HfL X) ∧ (Y = Y ∧ HfL Y) ∧ (ints ([] ++ [(↑v : Int)]) = [i6 (↑v : Int)] ∧ True ∧ True) ∧ (ints (l2 ++ [(↑v : Int)]) = ints l2 ++ [i6 (↑v : Int)] ∧ HfL (ints (l2 ++ [(↑v : Int)]))) ∧ True) = _) ?_
            (repeat' (first | (with_reducible apply And.intro) | (refine fun (_ : True) => ?_)))
            all_goals first | (with_reducible exact hsa) | (with_reducible exact hsb) | (with_reducible exact hsc) | (with_reducible exact haa) | (with_reducible exact hab) | (with_reducible exact hac) | exact aq | exact a1 | exact a2 | (rw [ints_length]; omega) | rfl | skip
          · skip
            have z2 : l2 = [] := List.eq_nil_of_length_eq_zero n2
            refine .inl ⟨(v + 1, q1 + 1 + 1, l1 ++ [(v : Int)], 1, l2 ++ [(v : Int)]), [0, 1, 2, 3, 4, 7, 9], [yes 72, va 77 (b8 (wa / 2 ^ v)), va 78 (b8 0), va 84 (b8 (wb / 2 ^ v)), va 85 (b8 1), yes 105, ap 110, va 114 (b8 (wb / 2 ^ v)), va 115 (b8 1), yes 120, nu 126 (v + 1 : Nat)], 1000, ⟨by dsimp only; omega, e1.symm, e2.symm, e3.symm, e4.symm⟩, by dsimp only; omega, ?_⟩
            subst z2
            clear e1 e2 e3 e4
            refine Eq.mp (by kernel_rfl : (decide ((↑v : Int) < (5 : Int)) = true ∧ binV (ctxOf Try.prog) BinOp.shr 5 (b8 wa) (i6 (↑v : Int)) = some (b8 (wa / 2 ^ v)) ∧ binV (ctxOf Try.prog) BinOp.and 5 (b8 (wa / 2 ^ v)) (V.int IntKind.u8 (1 : Int)) = some (b8 0) ∧ binV (ctxOf Try.prog) BinOp.shr 5 (b8 wb) (i6 (↑v : Int)) = some (b8 (wb / 2 ^ v)) ∧ binV (ctxOf Try.prog) BinOp.and 5 (b8 (wb / 2 ^ v)) (V.int IntKind.u8 (1 : Int)) = some (b8 1) ∧ ((↑v : Int) != (↑out : Int)) = true ∧ List.length (ints l1) = (q1 + 1) * 1 ∧ q1 + 1 + 1 ≤ 9223372036854775807 ∧ (q1 + 1 + 1) * 8 ≤ 140737488355328 ∧ binV (ctxOf Try.prog) BinOp.shr 5 (b8 wb) (i6 (↑v : Int)) = some (b8 (wb / 2 ^ v)) ∧ binV (ctxOf Try.prog) BinOp.and 5 (b8 (wb / 2 ^ v)) (V.int IntKind.u8 (1 : Int)) = some (b8 1) ∧ ((↑v : Int) != (↑out : Int)) = true ∧ wr IntKind.i64 ((↑v : Int) + (1 : Int)) = (↑(v + 1) : Int) ∧ (0 = 0 ∧ 0 = 0 ∧ 0 = 0 ∧ kd = kd ∧ (↑out : Int) = (↑out : Int) ∧ 0 = 0 ∧ 0 = 0 ∧ (2 = 2 ∧ c2 = c2) ∧ ((2 = 2 ∧ c2 = c2) ∧ (3 = 3 ∧ c3 = c3) ∧ True) ∧ k = k ∧ (0 = 0 ∧ Nat.succ q1 + 1 = q1 + 1 + 1 ∧ True) ∧ (0 = 0 ∧ 0 + 1 = 1 ∧ True) ∧ (↑(v + 1) : Int) = (↑(v + 1) : Int) ∧ True) ∧ (dtL wa La = dtL wa La ∧ True ∧ True ∧ True) ∧ (dtL wb Lb = dtL wb Lb ∧ True ∧ True ∧ True) ∧ (dtL wc Lc = dtL wc Lc ∧ True ∧ True ∧ True) ∧ (X = X ∧ HfL X) ∧ (Y = Y ∧ HfL Y) ∧ (ints (l1 ++ [(↑v : Int)]) = ints l1 ++ [i6 (↑v : Int)] ∧ HfL (ints (l1 ++ [(↑v : Int)]))) ∧ (ints ([] ++ [(↑v : Int)]) = [i6 (↑v : Int)] ∧ True ∧ True) ∧ True) = _) ?_
            (repeat' (first | (with_reducible apply And.intro) | (refine fun (_ : True) => ?_)))
            all_goals first | (with_reducible exact hsa) | (with_reducible exact hsb) | (with_reducible exact hsc) | (with_reducible exact haa) | (with_reducible exact hab) | (with_reducible exact hac) | exact aq | exact a1 | exact a2 | (rw [ints_length]; omega) | rfl | skip
          · skip
            refine .inl ⟨(v + 1, q1 + 1 + 1, l1 ++ [(v : Int)], q2 + 1 + 1, l2 ++ [(v : Int)]), [0, 1, 2, 3, 4, 8, 10], [yes 72, va 77 (b8 (wa / 2 ^ v)), va 78 (b8 0), va 84 (b8 (wb / 2 ^ v)), va 85 (b8 1), yes 105, ap 110, va 114 (b8 (wb / 2 ^ v)), va 115 (b8 1), yes 120, ap 125, nu 126 (v + 1 : Nat)], 1000, ⟨by dsimp only; omega, e1.symm, e2.symm, e3.symm, e4.symm⟩, by dsimp only; omega, ?_⟩
            clear e1 e2 e3 e4
            refine Eq.mp (by kernel_rfl : (decide ((↑v : Int) < (5 : Int)) = true ∧ binV (ctxOf Try.prog) BinOp.shr 5 (b8 wa) (i6 (↑v : Int)) = some (b8 (wa / 2 ^ v)) ∧ binV (ctxOf Try.prog) BinOp.and 5 (b8 (wa / 2 ^ v)) (V.int IntKind.u8 (1 : Int)) = some (b8 0) ∧ binV (ctxOf Try.prog) BinOp.shr 5 (b8 wb) (i6 (↑v : Int)) = some (b8 (wb / 2 ^ v)) ∧ binV (ctxOf Try.prog) BinOp.and 5 (b8 (wb / 2 ^ v)) (V.int IntKind.u8 (1 : Int)) = some (b8 1) ∧ ((↑v : Int) != (↑out : Int)) = true ∧ List.length (ints l1) = (q1 + 1) * 1 ∧ q1 + 1 + 1 ≤ 9223372036854775807 ∧ (q1 + 1 + 1) * 8 ≤ 140737488355328 ∧ binV (ctxOf Try.prog) BinOp.shr 5 (b8 wb) (i6 (↑v : Int)) = some (b8 (wb / 2 ^ v)) ∧ binV (ctxOf Try.prog) BinOp.and 5 (b8 (wb / 2 ^ v)) (V.int IntKind.u8 (1 : Int)) = some (b8 1) ∧ ((↑v : Int) != (↑out : Int)) = true ∧ List.length (ints l2) = (q2 + 1) * 1 ∧ q2 + 1 + 1 ≤ 9223372036854775807 ∧ (q2 + 1 + 1) * 8 ≤ 140737488355328 ∧ wr IntKind.i64 ((↑v : Int) + (1 : Int)) = (↑(v + 1) : Int) ∧ (0 = 0 ∧ 0 = 0 ∧ 0 = 0 ∧ kd = kd ∧ (↑out : Int) = (↑out : Int) ∧ 0 = 0 ∧ 0 = 0 ∧ (2 = 2 ∧ c2 = c2) ∧ ((2 = 2 ∧ c2 = c2) ∧ (3 = 3 ∧ c3 = c3) ∧ True) ∧ k = k ∧ (0 = 0 ∧ Nat.succ q1 + 1 = q1 + 1 + 1 ∧ True) ∧ (0 = 0 ∧ Nat.succ q2 + 1 = q2 + 1 + 1 ∧ True) ∧ (↑(v + 1) : Int) = (↑(v + 1) : Int) ∧ True) ∧ (dtL wa La = dtL wa La ∧ True ∧ True ∧ True) ∧ (dtL wb Lb = dtL wb Lb ∧ True ∧ True ∧ True) ∧ (dtL wc Lc = dtL wc Lc ∧ True ∧ True ∧ True) ∧ (X = X ∧ HfL X) ∧ (Y = Y ∧ HfL Y) ∧ (ints (l1 ++ [(↑v : Int)]) = ints l1 ++ [i6 (↑v : Int)] ∧ HfL (ints (l1 ++ [(↑v : Int)]))) ∧ (ints (l2 ++ [(↑v : Int)]) = ints l2 ++ [i6 (↑v : Int)] ∧ HfL (ints (l2 ++ [(↑v : Int)]))) ∧ True) = _) ?_
            (repeat' (first | (with_reducible apply And.intro) | (refine fun (_ : True) => ?_)))
            all_goals first | (with_reducible exact hsa) | (with_reducible exact hsb) | (with_reducible exact hsc) | (with_reducible exact haa) | (with_reducible exact hab) | (with_reducible exact hac) | exact aq | exact a1 | exact a2 | (rw [ints_length]; omega) | rfl | skip
      · have hvo : v ≠ out := fun e => hb (e ▸ hbo)
        rw [show wb / 2 ^ v % 2 = 0 by omega] at hab
        have e1 : dQ K (v + 1) = q1 := by rw [dQ, if_neg (by rw [kv]; simp [*]), hq1]
        have e2 : dV K (v + 1) = l1 := by rw [dV, if_neg (by rw [kv]; simp [*]), hl1]
        have e3 : dQ L (v + 1) = q2 := by rw [dQ, if_neg (by rw [lv]; simp [*]), hq2]
        have e4 : dV L (v + 1) = l2 := by rw [dV, if_neg (by rw [lv]; simp [*]), hl2]
        clear kv lv hq1 hl1 hq2 hl2
        rcases q1 with _ | q1 <;> rcases q2 with _ | q2
        · have z1 : l1 = [] := List.eq_nil_of_length_eq_zero n1
          have z2 : l2 = [] := List.eq_nil_of_length_eq_zero n2
          refine .inl ⟨(v + 1, 0, l1, 0, l2), [0, 1, 2, 3, 4], [yes 72, va 77 (b8 (wa / 2 ^ v)), va 78 (b8 0), va 84 (b8 (wb / 2 ^ v)), va 85 (b8 0), va 114 (b8 (wb / 2 ^ v)), va 115 (b8 0), nu 126 (v + 1 : Nat)], 1000, ⟨by dsimp only; omega, e1.symm, e2.symm, e3.symm, e4.symm⟩, by dsimp only; omega, ?_⟩
          subst z1
          subst z2
          clear e1 e2 e3 e4
          refine Eq.mp (by kernel_rfl : (decide ((↑v : Int) < (5 : Int)) = true ∧ binV (ctxOf Try.prog) BinOp.shr 5 (b8 wa) (i6 (↑v : Int)) = some (b8 (wa / 2 ^ v)) ∧ binV (ctxOf Try.prog) BinOp.and 5 (b8 (wa / 2 ^ v)) (V.int IntKind.u8 (1 : Int)) = some (b8 0) ∧ binV (ctxOf Try.prog) BinOp.shr 5 (b8 wb) (i6 (↑v : Int)) = some (b8 (wb / 2 ^ v)) ∧ binV (ctxOf Try.prog) BinOp.and 5 (b8 (wb / 2 ^ v)) (V.int IntKind.u8 (1 : Int)) = some (b8 0) ∧ binV (ctxOf Try.prog) BinOp.shr 5 (b8 wb) (i6 (↑v : Int)) = some (b8 (wb / 2 ^ v)) ∧ binV (ctxOf Try.prog) BinOp.and 5 (b8 (wb / 2 ^ v)) (V.int IntKind.u8 (1 : Int)) = some (b8 0) ∧ wr IntKind.i64 ((↑v : Int) + (1 : Int)) = (↑(v + 1) : Int) ∧ (0 = 0 ∧ 0 = 0 ∧ 0 = 0 ∧ kd = kd ∧ (↑out : Int) = (↑out : Int) ∧ 0 = 0 ∧ 0 = 0 ∧ (2 = 2 ∧ c2 = c2) ∧ ((2 = 2 ∧ c2 = c2) ∧ (3 = 3 ∧ c3 = c3) ∧ True) ∧ k = k ∧ True ∧ True ∧ (↑(v + 1) : Int) = (↑(v + 1) : Int) ∧ True) ∧ (dtL wa La = dtL wa La ∧ True ∧ True ∧ True) ∧ (dtL wb Lb = dtL wb Lb ∧ True ∧ True ∧ True) ∧ (dtL wc Lc = dtL wc Lc ∧ True ∧ True ∧ True) ∧ (X = X ∧ HfL X) ∧ (Y = Y ∧ HfL Y) ∧ True) = _) ?_
          (repeat' (first | (with_reducible apply And.intro) | (refine fun (_ : True) => ?_)))
          all_goals first | (with_reducible exact hsa) | (with_reducible exact hsb) | (with_reducible exact hsc) | (with_reducible exact haa) | (with_reducible exact hab) | (with_reducible exact hac) | exact aq | exact a1 | exact a2 | (rw [ints_length]; omega) | rfl | skip
        · have z1 : l1 = [] := List.eq_nil_of_length_eq_zero n1
          refine .inl ⟨(v + 1, 0, l1, q2 + 1, l2), [0, 1, 2, 3, 4, 5], [yes 72, va 77 (b8 (wa / 2 ^ v)), va 78 (b8 0), va 84 (b8 (wb / 2 ^ v)), va 85 (b8 0), va 114 (b8 (wb / 2 ^ v)), va 115 (b8 0), nu 126 (v + 1 : Nat)], 1000, ⟨by dsimp only; omega, e1.symm, e2.symm, e3.symm, e4.symm⟩, by dsimp only; omega, ?_⟩
          subst z1
          clear e1 e2 e3 e4
          refine Eq.mp (by kernel_rfl : (decide ((↑v : Int) < (5 : Int)) = true ∧ binV (ctxOf Try.prog) BinOp.shr 5 (b8 wa) (i6 (↑v : Int)) = some (b8 (wa / 2 ^ v)) ∧ binV (ctxOf Try.prog) BinOp.and 5 (b8 (wa / 2 ^ v)) (V.int IntKind.u8 (1 : Int)) = some (b8 0) ∧ binV (ctxOf Try.prog) BinOp.shr 5 (b8 wb) (i6 (↑v : Int)) = some (b8 (wb / 2 ^ v)) ∧ binV (ctxOf Try.prog) BinOp.and 5 (b8 (wb / 2 ^ v)) (V.int IntKind.u8 (1 : Int)) = some (b8 0) ∧ binV (ctxOf Try.prog) BinOp.shr 5 (b8 wb) (i6 (↑v : Int)) = some (b8 (wb / 2 ^ v)) ∧ binV (ctxOf Try.prog) BinOp.and 5 (b8 (wb / 2 ^ v)) (V.int IntKind.u8 (1 : Int)) = some (b8 0) ∧ wr IntKind.i64 ((↑v : Int) + (1 : Int)) = (↑(v + 1) : Int) ∧ (0 = 0 ∧ 0 = 0 ∧ 0 = 0 ∧ kd = kd ∧ (↑out : Int) = (↑out : Int) ∧ 0 = 0 ∧ 0 = 0 ∧ (2 = 2 ∧ c2 = c2) ∧ ((2 = 2 ∧ c2 = c2) ∧ (3 = 3 ∧ c3 = c3) ∧ True) ∧ k = k ∧ True ∧ (0 = 0 ∧ q2 + 1 = q2 + 1 ∧ True) ∧ (↑(v + 1) : Int) = (↑(v + 1) : Int) ∧ True) ∧ (dtL wa La = dtL wa La ∧ True ∧ True ∧ True) ∧ (dtL wb Lb = dtL wb Lb ∧ True ∧ True ∧ True) ∧ (dtL wc Lc = dtL wc Lc ∧ True ∧ True ∧ True) ∧ (X = X ∧ HfL X) ∧ (Y = Y ∧ HfL Y) ∧ (ints l2 = ints l2 ∧ HfL (ints l2)) ∧ True) = _) ?_
          (repeat' (first | (with_reducible apply And.intro) | (refine fun (_ : True) => ?_)))
          all_goals first | (with_reducible exact hsa) | (with_reducible exact hsb) | (with_reducible exact hsc) | (with_reducible exact haa) | (with_reducible exact hab) | (with_reducible exact hac) | exact aq | exact a1 | exact a2 | (rw [ints_length]; omega) | rfl | skip
        · skip
          have z2 : l2 = [] := List.eq_nil_of_length_eq_zero n2
          refine .inl ⟨(v + 1, q1 + 1, l1, 0, l2), [0, 1, 2, 3, 4, 5], [yes 72, va 77 (b8 (wa / 2 ^ v)), va 78 (b8 0), va 84 (b8 (wb / 2 ^ v)), va 85 (b8 0), va 114 (b8 (wb / 2 ^ v)), va 115 (b8 0), nu 126 (v + 1 : Nat)], 1000, ⟨by dsimp only; omega, e1.symm, e2.symm, e3.symm, e4.symm⟩, by dsimp only; omega, ?_⟩
          subst z2
          clear e1 e2 e3 e4
          refine Eq.mp (by kernel_rfl : (decide ((↑v : Int) < (5 : Int)) = true ∧ binV (ctxOf Try.prog) BinOp.shr 5 (b8 wa) (i6 (↑v : Int)) = some (b8 (wa / 2 ^ v)) ∧ binV (ctxOf Try.prog) BinOp.and 5 (b8 (wa / 2 ^ v)) (V.int IntKind.u8 (1 : Int)) = some (b8 0) ∧ binV (ctxOf Try.prog) BinOp.shr 5 (b8 wb) (i6 (↑v : Int)) = some (b8 (wb / 2 ^ v)) ∧ binV (ctxOf Try.prog) BinOp.and 5 (b8 (wb / 2 ^ v)) (V.int IntKind.u8 (1 : Int)) = some (b8 0) ∧ binV (ctxOf Try.prog) BinOp.shr 5 (b8 wb) (i6 (↑v : Int)) = some (b8 (wb / 2 ^ v)) ∧ binV (ctxOf Try.prog) BinOp.and 5 (b8 (wb / 2 ^ v)) (V.int IntKind.u8 (1 : Int)) = some (b8 0) ∧ wr IntKind.i64 ((↑v : Int) + (1 : Int)) = (↑(v + 1) : Int) ∧ (0 = 0 ∧ 0 = 0 ∧ 0 = 0 ∧ kd = kd ∧ (↑out : Int) = (↑out : Int) ∧ 0 = 0 ∧ 0 = 0 ∧ (2 = 2 ∧ c2 = c2) ∧ ((2 = 2 ∧ c2 = c2) ∧ (3 = 3 ∧ c3 = c3) ∧ True) ∧ k = k ∧ (0 = 0 ∧ q1 + 1 = q1 + 1 ∧ True) ∧ True ∧ (↑(v + 1) : Int) = (↑(v + 1) : Int) ∧ True) ∧ (dtL wa La = dtL wa La ∧ True ∧ True ∧ True) ∧ (dtL wb Lb = dtL wb Lb ∧ True ∧ True ∧ True) ∧ (dtL wc Lc = dtL wc Lc ∧ True ∧ True ∧ True) ∧ (X = X ∧ HfL X) ∧ (Y = Y ∧ HfL Y) ∧ (ints l1 = ints l1 ∧ HfL (ints l1)) ∧ True) = _) ?_
          (repeat' (first | (with_reducible apply And.intro) | (refine fun (_ : True) => ?_)))
          all_goals first | (with_reducible exact hsa) | (with_reducible exact hsb) | (with_reducible exact hsc) | (with_reducible exact haa) | (with_reducible exact hab) | (with_reducible exact hac) | exact aq | exact a1 | exact a2 | (rw [ints_length]; omega) | rfl | skip
        · skip
          refine .inl ⟨(v + 1, q1 + 1, l1, q2 + 1, l2), [0, 1, 2, 3, 4, 5, 6], [yes 72, va 77 (b8 (wa / 2 ^ v)), va 78 (b8 0), va 84 (b8 (wb / 2 ^ v)), va 85 (b8 0), va 114 (b8 (wb / 2 ^ v)), va 115 (b8 0), nu 126 (v + 1 : Nat)], 1000, ⟨by dsimp only; omega, e1.symm, e2.symm, e3.symm, e4.symm⟩, by dsimp only; omega, ?_⟩
          clear e1 e2 e3 e4
          refine Eq.mp (by kernel_rfl : (decide ((↑v : Int) < (5 : Int)) = true ∧ binV (ctxOf Try.prog) BinOp.shr 5 (b8 wa) (i6 (↑v : Int)) = some (b8 (wa / 2 ^ v)) ∧ binV (ctxOf Try.prog) BinOp.and 5 (b8 (wa / 2 ^ v)) (V.int IntKind.u8 (1 : Int)) = some (b8 0) ∧ binV (ctxOf Try.prog) BinOp.shr 5 (b8 wb) (i6 (↑v : Int)) = some (b8 (wb / 2 ^ v)) ∧ binV (ctxOf Try.prog) BinOp.and 5 (b8 (wb / 2 ^ v)) (V.int IntKind.u8 (1 : Int)) = some (b8 0) ∧ binV (ctxOf Try.prog) BinOp.shr 5 (b8 wb) (i6 (↑v : Int)) = some (b8 (wb / 2 ^ v)) ∧ binV (ctxOf Try.prog) BinOp.and 5 (b8 (wb / 2 ^ v)) (V.int IntKind.u8 (1 : Int)) = some (b8 0) ∧ wr IntKind.i64 ((↑v : Int) + (1 : Int)) = (↑(v + 1) : Int) ∧ (0 = 0 ∧ 0 = 0 ∧ 0 = 0 ∧ kd = kd ∧ (↑out : Int) = (↑out : Int) ∧ 0 = 0 ∧ 0 = 0 ∧ (2 = 2 ∧ c2 = c2) ∧ ((2 = 2 ∧ c2 = c2) ∧ (3 = 3 ∧ c3 = c3) ∧ True) ∧ k = k ∧ (0 = 0 ∧ q1 + 1 = q1 + 1 ∧ True) ∧ (0 = 0 ∧ q2 + 1 = q2 + 1 ∧ True) ∧ (↑(v + 1) : Int) = (↑(v + 1) : Int) ∧ True) ∧ (dtL wa La = dtL wa La ∧ True ∧ True ∧ True) ∧ (dtL wb Lb = dtL wb Lb ∧ True ∧ True ∧ True) ∧ (dtL wc Lc = dtL wc Lc ∧ True ∧ True ∧ True) ∧ (X = X ∧ HfL X) ∧ (Y = Y ∧ HfL Y) ∧ (ints l1 = ints l1 ∧ HfL (ints l1)) ∧ (ints l2 = ints l2 ∧ HfL (ints l2)) ∧ True) = _) ?_
          (repeat' (first | (with_reducible apply And.intro) | (refine fun (_ : True) => ?_)))
          all_goals first | (with_reducible exact hsa) | (with_reducible exact hsb) | (with_reducible exact hsc) | (with_reducible exact haa) | (with_reducible exact hab) | (with_reducible exact hac) | exact aq | exact a1 | exact a2 | (rw [ints_length]; omega) | rfl | skip
  · have : v = 5 := by omega
    subst this
    rw [← hq1, ← hl1, ← hq2, ← hl2]
    clear hK hL
    rcases q1 with _ | q1 <;> rcases q2 with _ | q2
    · have z1 : l1 = [] := List.eq_nil_of_length_eq_zero n1
      have z2 : l2 = [] := List.eq_nil_of_length_eq_zero n2
      refine .inr ⟨.exit 2, [0, 1, 2, 3, 4], lvX wa wb wc La Lb Lc kd out 2 c2 c2 c3 k X Y 0 l1 0 l2, [], 1000, .inl ⟨trivial, rfl, rfl⟩, ?_⟩
      subst z1
      subst z2
      clear hq1 hl1 hq2 hl2
      refine Eq.mp (by kernel_rfl : ((0 = 0 ∧ 0 = 0 ∧ 0 = 0 ∧ kd = kd ∧ (↑out : Int) = (↑out : Int) ∧ 0 = 0 ∧ 0 = 0 ∧ (2 = 2 ∧ c2 = c2) ∧ ((2 = 2 ∧ c2 = c2) ∧ (3 = 3 ∧ c3 = c3) ∧ True) ∧ k = k ∧ 0 = 0 ∧ 0 = 0 ∧ True) ∧ (dtL wa La = dtL wa La ∧ True ∧ True ∧ True) ∧ (dtL wb Lb = dtL wb Lb ∧ True ∧ True ∧ True) ∧ (dtL wc Lc = dtL wc Lc ∧ True ∧ True ∧ True) ∧ (X = X ∧ HfL X) ∧ (Y = Y ∧ HfL Y) ∧ True) = _) ?_
      (repeat' (first | (with_reducible apply And.intro) | (refine fun (_ : True) => ?_))) <;> first | exact aq | skip
      all_goals first | rfl | skip
    · have z1 : l1 = [] := List.eq_nil_of_length_eq_zero n1
      refine .inr ⟨.exit 2, [0, 1, 2, 3, 4], lvX wa wb wc La Lb Lc kd out 2 c2 c2 c3 k X Y 0 l1 (q2 + 1) l2, [], 1000, .inl ⟨trivial, rfl, rfl⟩, ?_⟩
      subst z1
      clear hq1 hl1 hq2 hl2
      refine Eq.mp (by kernel_rfl : ((0 = 0 ∧ 0 = 0 ∧ 0 = 0 ∧ kd = kd ∧ (↑out : Int) = (↑out : Int) ∧ 0 = 0 ∧ 0 = 0 ∧ (2 = 2 ∧ c2 = c2) ∧ ((2 = 2 ∧ c2 = c2) ∧ (3 = 3 ∧ c3 = c3) ∧ True) ∧ k = k ∧ 0 = 0 ∧ (q2 + 1 = q2 + 1 ∧ ints l2 = ints l2 ∧ HfL (ints l2)) ∧ True) ∧ (dtL wa La = dtL wa La ∧ True ∧ True ∧ True) ∧ (dtL wb Lb = dtL wb Lb ∧ True ∧ True ∧ True) ∧ (dtL wc Lc = dtL wc Lc ∧ True ∧ True ∧ True) ∧ (X = X ∧ HfL X) ∧ (Y = Y ∧ HfL Y) ∧ True) = _) ?_
      (repeat' (first | (with_reducible apply And.intro) | (refine fun (_ : True) => ?_))) <;> first | exact aq | skip
      all_goals first | rfl | skip
    · skip
      have z2 : l2 = [] := List.eq_nil_of_length_eq_zero n2
      refine .inr ⟨.exit 2, [0, 1, 2, 3, 4], lvX wa wb wc La Lb Lc kd out 2 c2 c2 c3 k X Y (q1 + 1) l1 0 l2, [], 1000, .inl ⟨trivial, rfl, rfl⟩, ?_⟩
      subst z2
      clear hq1 hl1 hq2 hl2
      refine Eq.mp (by kernel_rfl : ((0 = 0 ∧ 0 = 0 ∧ 0 = 0 ∧ kd = kd ∧ (↑out : Int) = (↑out : Int) ∧ 0 = 0 ∧ 0 = 0 ∧ (2 = 2 ∧ c2 = c2) ∧ ((2 = 2 ∧ c2 = c2) ∧ (3 = 3 ∧ c3 = c3) ∧ True) ∧ k = k ∧ (q1 + 1 = q1 + 1 ∧ ints l1 = ints l1 ∧ HfL (ints l1)) ∧ 0 = 0 ∧ True) ∧ (dtL wa La = dtL wa La ∧ True ∧ True ∧ True) ∧ (dtL wb Lb = dtL wb Lb ∧ True ∧ True ∧ True) ∧ (dtL wc Lc = dtL wc Lc ∧ True ∧ True ∧ True) ∧ (X = X ∧ HfL X) ∧ (Y = Y ∧ HfL Y) ∧ True) = _) ?_
      (repeat' (first | (with_reducible apply And.intro) | (refine fun (_ : True) => ?_))) <;> first | exact aq | skip
      all_goals first | rfl | skip
    · skip
      refine .inr ⟨.exit 2, [0, 1, 2, 3, 4], lvX wa wb wc La Lb Lc kd out 2 c2 c2 c3 k X Y (q1 + 1) l1 (q2 + 1) l2, [], 1000, .inl ⟨trivial, rfl, rfl⟩, ?_⟩
      clear hq1 hl1 hq2 hl2
      refine Eq.mp (by kernel_rfl : ((0 = 0 ∧ 0 = 0 ∧ 0 = 0 ∧ kd = kd ∧ (↑out : Int) = (↑out : Int) ∧ 0 = 0 ∧ 0 = 0 ∧ (2 = 2 ∧ c2 = c2) ∧ ((2 = 2 ∧ c2 = c2) ∧ (3 = 3 ∧ c3 = c3) ∧ True) ∧ k = k ∧ (q1 + 1 = q1 + 1 ∧ ints l1 = ints l1 ∧ HfL (ints l1)) ∧ (q2 + 1 = q2 + 1 ∧ ints l2 = ints l2 ∧ HfL (ints l2)) ∧ True) ∧ (dtL wa La = dtL wa La ∧ True ∧ True ∧ True) ∧ (dtL wb Lb = dtL wb Lb ∧ True ∧ True ∧ True) ∧ (dtL wc Lc = dtL wc Lc ∧ True ∧ True ∧ True) ∧ (X = X ∧ HfL X) ∧ (Y = Y ∧ HfL Y) ∧ True) = _) ?_
      (repeat' (first | (with_reducible apply And.intro) | (refine fun (_ : True) => ?_))) <;> first | exact aq | skip
      all_goals first | rfl | skip
theorem lv_loop3 (wa wb wc K L : Nat) (La Lb Lc : List Nat) (kd : Int) (out : Nat) (ho : out < 5) (hao : ¬ wa / 2 ^ out % 2 = 1) (hbo : wb / 2 ^ out % 2 = 1)
    (hK : ∀ v, v < 5 → (K / 2 ^ v % 2 = 1 ↔ ((wa / 2 ^ v % 2 = 1 ∨ wb / 2 ^ v % 2 = 1) ∨ wc / 2 ^ v % 2 = 1) ∧ v ≠ out)) (hL : ∀ v, v < 5 → (L / 2 ^ v % 2 = 1 ↔ wb / 2 ^ v % 2 = 1 ∧ v ≠ out)) (c2 c3 : List V) (h2c : HfL c2) (h3c : HfL c3) (k : Int) (X Y : List V) (hX : HfL X) (hY : HfL Y) :
    Sat Pg none 0 (at' 6 [1, 1, 1, 1, 1, 1, 0, 1, 0, 0, 1, 1, 0, 0, 1, 1, 0, 1, 0]) (mkSt g0 208 (lvS wa wb wc La Lb Lc kd out 3 c3 c2 c3 k X Y (0, 0, [], 0, []))) (outsP g0 208 [(True, .exit 2, lvX wa wb wc La Lb Lc kd out 3 c3 c2 c3 k X Y (dQ K 5) (dV K 5) (dQ L 5) (dV L 5))]) := by
  refine loopC vE_ok mixed sp0_ok (b := at' 6 [1, 1, 1, 1, 1, 1, 0, 1, 0, 0, 1, 1, 0, 0, 1, 1, 0, 1, 0, 0]) (by kernel_rfl) (fun p => p.1 ≤ 5 ∧ p.2.1 = dQ K p.1 ∧ p.2.2.1 = dV K p.1 ∧ p.2.2.2.1 = dQ L p.1 ∧ p.2.2.2.2 = dV L p.1) (lvS wa wb wc La Lb Lc kd out 3 c3 c2 c3 k X Y) (fun p => 5 - p.1) (fun p hp => ?_) (0, 0, [], 0, []) ⟨Nat.zero_le _, rfl, rfl, rfl, rfl⟩
  obtain ⟨v, q1, l1, q2, l2⟩ := p
  obtain ⟨hv, hq1, hl1, hq2, hl2⟩ := hp
  dsimp only at hv hq1 hl1 hq2 hl2
  have n1 := dV_len K v
  rw [← hq1, ← hl1] at n1
  have n2 := dV_len L v
  rw [← hq2, ← hl2] at n2
  have hle1 := dQ_le K v
  rw [← hq1] at hle1
  have hle2 := dQ_le L v
  rw [← hq2] at hle2
  have hB0 := HfL_b8 La
  have hB1 := HfL_b8 Lb
  have hB2 := HfL_b8 Lc
  have hH1 := HfL_ints l1
  have hH2 := HfL_ints l2
  have a1 := ints_app l1 (v : Int)
  have a2 := ints_app l2 (v : Int)
  have hJ1 := HfL_ints (l1 ++ [(v : Int)])
  have hJ2 := HfL_ints (l2 ++ [(v : Int)])
  by_cases hlt : v < 5
  · have hsa := @hs8 wa v hlt
    have hsb := @hs8 wb v hlt
    have hsc := @hs8 wc v hlt
    have haa := @and1_8 (ctxOf Pg) 5 (wa / 2 ^ v)
    have hab := @and1_8 (ctxOf Pg) 5 (wb / 2 ^ v)
    have hac := @and1_8 (ctxOf Pg) 5 (wc / 2 ^ v)
    have kv := hK v hlt
    have lv := hL v hlt
    clear hK hL
    by_cases ha : wa / 2 ^ v % 2 = 1
    · have hvo : v ≠ out := fun e => hao (e ▸ ha)
      rw [ha] at haa
      by_cases hb : wb / 2 ^ v % 2 = 1
      · rw [hb] at hab
        have e1 : dQ K (v + 1) = q1 + 1 := by rw [dQ, if_pos (by rw [kv]; simp [*]), hq1]
        have e2 : dV K (v + 1) = l1 ++ [(v : Int)] := by rw [dV, if_pos (by rw [kv]; simp [*]), hl1]
        have e3 : dQ L (v + 1) = q2 + 1 := by rw [dQ, if_pos (by rw [lv]; simp [*]), hq2]
        have e4 : dV L (v + 1) = l2 ++ [(v : Int)] := by rw [dV, if_pos (by rw [lv]; simp [*]), hl2]
        clear kv lv hq1 hl1 hq2 hl2
        rcases q1 with _ | q1 <;> rcases q2 with _ | q2
        · have z1 : l1 = [] := List.eq_nil_of_length_eq_zero n1
          have z2 : l2 = [] := List.eq_nil_of_length_eq_zero n2
          refine .inl ⟨(v + 1, 1, l1 ++ [(v : Int)], 1, l2 ++ [(v : Int)]), [0, 1, 2, 3, 4, 6, 8], [yes 72, va 77 (b8 (wa / 2 ^ v)), va 78 (b8 1), yes 105, va 114 (b8 (wb / 2 ^ v)), va 115 (b8 1), yes 120, nu 126 (v + 1 : Nat)], 1000, ⟨by dsimp only; omega, e1.symm, e2.symm, e3.symm, e4.symm⟩, by dsimp only; omega, ?_⟩
          subst z1
          subst z2
          clear e1 e2 e3 e4
          refine Eq.mp (by kernel_rfl : (decide ((↑v : Int) < (5 : Int)) = true ∧ binV (ctxOf Try.prog) BinOp.shr 5 (b8 wa) (i6 (↑v : Int)) = some (b8 (wa / 2 ^ v)) ∧ binV (ctxOf Try.prog) BinOp.and 5 (b8 (wa / 2 ^ v)) (V.int IntKind.u8 (1 : Int)) = some (b8 1) ∧ ((↑v : Int) != (↑out : Int)) = true ∧ binV (ctxOf Try.prog) BinOp.shr 5 (b8 wb) (i6 (↑v : Int)) = some (b8 (wb / 2 ^ v)) ∧ binV (ctxOf Try.prog) BinOp.and 5 (b8 (wb / 2 ^ v)) (V.int IntKind.u8 (1 : Int)) = some (b8 1) ∧ ((↑v : Int) != (↑out : Int)) = true ∧ wr IntKind.i64 ((↑v : Int) + (1 : Int)) = (↑(v + 1) : Int) ∧ (0 = 0 ∧ 0 = 0 ∧ 0 = 0 ∧ kd = kd ∧ (↑out : Int) = (↑out : Int) ∧ 0 = 0 ∧ 0 = 0 ∧ (3 = 3 ∧ c3 = c3) ∧ ((2 = 2 ∧ c2 = c2) ∧ (3 = 3 ∧ c3 = c3) ∧ True) ∧ k = k ∧ (0 = 0 ∧ 0 + 1 = 1 ∧ True) ∧ (0 = 0 ∧ 0 + 1 = 1 ∧ True) ∧ (↑(v + 1) : Int) = (↑(v + 1) : Int) ∧ True) ∧ (dtL wa La = dtL wa La ∧ True ∧ True ∧ True) ∧ (dtL wb Lb = dtL wb Lb ∧ True ∧ True ∧ True) ∧ (dtL wc Lc = dtL wc Lc ∧ True ∧ True ∧ True) ∧ (X = X ∧ HfL X) ∧ (Y = Y ∧ HfL Y) ∧ (ints ([] ++ [(↑v : Int)]) = [i6 (↑v : Int)] ∧ True ∧ True) ∧ (ints ([] ++ [(↑v : Int)]) = [i6 (↑v : Int)] ∧ True ∧ True) ∧ True) = _) ?_
          (repeat' (first | (with_reducible apply And.intro) | (refine fun (_ : True) => ?_)))
          all_goals first | (with_reducible exact hsa) | (with_reducible exact hsb) | (with_reducible exact hsc) | (with_reducible exact haa) | (with_reducible exact hab) | (with_reducible exact hac) | exact aq | exact a1 | exact a2 | (rw [ints_length]; omega) | rfl | skip
        · have z1 : l1 = [] := List.eq_nil_of_length_eq_zero n1
          refine .inl ⟨(v + 1, 1, l1 ++ [(v : Int)], q2 + 1 + 1, l2 ++ [(v : Int)]), [0, 1, 2, 3, 4, 7, 9], [yes 72, va 77 (b8 (wa / 2 ^ v)), va 78 (b8 1), yes 105, va 114 (b8 (wb / 2 ^ v)), va 115 (b8 1), yes 120, ap 125, nu 126 (v + 1 : Nat)], 1000, ⟨by dsimp only; omega, e1.symm, e2.symm, e3.symm, e4.symm⟩, by dsimp only; omega, ?_⟩
          subst z1
          clear e1 e2 e3 e4
          refine Eq.mp (by kernel_rfl : (decide ((↑v : Int) < (5 : Int)) = true ∧ binV (ctxOf Try.prog) BinOp.shr 5 (b8 wa) (i6 (↑v : Int)) = some (b8 (wa / 2 ^ v)) ∧ binV (ctxOf Try.prog) BinOp.and 5 (b8 (wa / 2 ^ v)) (V.int IntKind.u8 (1 : Int)) = some (b8 1) ∧ ((↑v : Int) != (↑out : Int)) = true ∧ binV (ctxOf Try.prog) BinOp.shr 5 (b8 wb) (i6 (↑v : Int)) = some (b8 (wb / 2 ^ v)) ∧ binV (ctxOf Try.prog) BinOp.and 5 (b8 (wb / 2 ^ v)) (V.int IntKind.u8 (1 : Int)) = some (b8 1) ∧ ((↑v : Int) != (↑out : Int)) = true ∧ List.length (ints l2) = (q2 + 1) * 1 ∧ q2 + 1 + 1 ≤ 9223372036854775807 ∧ (q2 + 1 + 1) * 8 ≤ 140737488355328 ∧ wr IntKind.i64 ((↑v : Int) + (1 : Int)) = (↑(v + 1) : Int) ∧ (0 = 0 ∧ 0 = 0 ∧ 0 = 0 ∧ kd = kd ∧ (↑out : Int) = (↑out : Int) ∧ 0 = 0 ∧ 0 = 0 ∧ (3 = 3 ∧ c3 = c3) ∧ ((2 = 2 ∧ c2 = c2) ∧ (3 = 3 ∧ c3 = c3) ∧ True) ∧ k = k ∧ (0 = 0 ∧ 0 + 1 = 1 ∧ True) ∧ (0 = 0 ∧ Nat.succ q2 + 1 = q2 + 1 + 1 ∧ True) ∧ (↑(v + 1) : Int) = (↑(v + 1) : Int) ∧ True) ∧ (dtL wa La = dtL wa La ∧ True ∧ True ∧ True) ∧ (dtL wb Lb = dtL wb Lb ∧ True ∧ True ∧ True) ∧ (dtL wc Lc = dtL wc Lc ∧ True ∧ True ∧ True) ∧ (X = X ∧ HfL X) ∧ (Y = Y ∧ HfL Y) ∧ (ints ([] ++ [(↑v : Int)]) = [i6 (↑v : Int)] ∧ True ∧ True) ∧ (ints (l2 ++ [(↑v : Int)]) = ints l2 ++ [i6 (↑v : Int)] ∧ HfL (ints (l2 ++ [(↑v : Int)]))) ∧ True) = _) ?_
          (repeat' (first | (with_reducible apply And.intro) | (refine fun (_ : True) => ?_)))
          all_goals first | (with_reducible exact hsa) | (with_reducible exact hsb) | (with_reducible exact hsc) | (with_reducible exact haa) | (with_reducible exact hab) | (with_reducible exact hac) | exact aq | exact a1 | exact a2 | (rw [ints_length]; omega) | rfl | skip
        · skip
          have z2 : l2 = [] := List.eq_nil_of_length_eq_zero n2
          refine .inl ⟨(v + 1, q1 + 1 + 1, l1 ++ [(v : Int)], 1, l2 ++ [(v : Int)]), [0, 1, 2, 3, 4, 7, 9], [yes 72, va 77 (b8 (wa / 2 ^ v)), va 78 (b8 1), yes 105, ap 110, va 114 (b8 (wb / 2 ^ v)), va 115 (b8 1), yes 120, nu 126 (v + 1 : Nat)], 1000, ⟨by dsimp only; omega, e1.symm, e2.symm, e3.symm, e4.symm⟩, by dsimp only; omega, ?_⟩
          subst z2
          clear e1 e2 e3 e4
          refine Eq.mp (by kernel_rfl : (decide ((↑v : Int) < (5 : Int)) = true ∧ binV (ctxOf Try.prog) BinOp.shr 5 (b8 wa) (i6 (↑v : Int)) = some (b8 (wa / 2 ^ v)) ∧ binV (ctxOf Try.prog) BinOp.and 5 (b8 (wa / 2 ^ v)) (V.int IntKind.u8 (1 : Int)) = some (b8 1) ∧ ((↑v : Int) != (↑out : Int)) = true ∧ List.length (ints l1) = (q1 + 1) * 1 ∧ q1 + 1 + 1 ≤ 9223372036854775807 ∧ (q1 + 1 + 1) * 8 ≤ 140737488355328 ∧ binV (ctxOf Try.prog) BinOp.shr 5 (b8 wb) (i6 (↑v : Int)) = some (b8 (wb / 2 ^ v)) ∧ binV (ctxOf Try.prog) BinOp.and 5 (b8 (wb / 2 ^ v)) (V.int IntKind.u8 (1 : Int)) = some (b8 1) ∧ ((↑v : Int) != (↑out : Int)) = true ∧ wr IntKind.i64 ((↑v : Int) + (1 : Int)) = (↑(v + 1) : Int) ∧ (0 = 0 ∧ 0 = 0 ∧ 0 = 0 ∧ kd = kd ∧ (↑out : Int) = (↑out : Int) ∧ 0 = 0 ∧ 0 = 0 ∧ (3 = 3 ∧ c3 = c3) ∧ ((2 = 2 ∧ c2 = c2) ∧ (3 = 3 ∧ c3 = c3) ∧ True) ∧ k = k ∧ (0 = 0 ∧ Nat.succ q1 + 1 = q1 + 1 + 1 ∧ True) ∧ (0 = 0 ∧ 0 + 1 = 1 ∧ True) ∧ (↑(v + 1) : Int) = (↑(v + 1) : Int) ∧ True) ∧ (dtL wa La = dtL wa La ∧ True ∧ True ∧ True) ∧ (dtL wb Lb = dtL wb Lb ∧ True ∧ True ∧ True) ∧ (dtL wc Lc = dtL wc Lc ∧ True ∧ True ∧ True) ∧ (X = X ∧ HfL X) ∧ (Y = Y ∧ HfL Y) ∧ (ints (l1 ++ [(↑v : Int)]) = ints l1 ++ [i6 (↑v : Int)] ∧ HfL (ints (l1 ++ [(↑v : Int)]))) ∧ (ints ([] ++ [(↑v : Int)]) = [i6 (↑v : Int)] ∧ True ∧ True) ∧ True) = _) ?_
          (repeat' (first | (with_reducible apply And.intro) | (refine fun (_ : True) => ?_)))
          all_goals first | (with_reducible exact hsa) | (with_reducible exact hsb) | (with_reducible exact hsc) | (with_reducible exact haa) | (with_reducible exact hab) | (with_reducible exact hac) | exact aq | exact a1 | exact a2 | (rw [ints_length]; omega) | rfl | skip
        · skip
          refine .inl ⟨(v + 1, q1 + 1 + 1, l1 ++ [(v : Int)], q2 + 1 + 1, l2 ++ [(v : Int)]), [0, 1, 2, 3, 4, 8, 10], [yes 72, va 77 (b8 (wa / 2 ^ v)), va 78 (b8 1), yes 105, ap 110, va 114 (b8 (wb / 2 ^ v)), va 115 (b8 1), yes 120, ap 125, nu 126 (v + 1 : Nat)], 1000, ⟨by dsimp only; omega, e1.symm, e2.symm, e3.symm, e4.symm⟩, by dsimp only; omega, ?_⟩
          clear e1 e2 e3 e4
          refine Eq.mp (by kernel_rfl : (decide ((↑v : Int) < (5 : Int)) = true ∧ binV (ctxOf Try.prog) BinOp.shr 5 (b8 wa) (i6 (↑v : Int)) = some (b8 (wa / 2 ^ v)) ∧ binV (ctxOf Try.prog) BinOp.and 5 (b8 (wa / 2 ^ v)) (V.int IntKind.u8 (1 : Int)) = some (b8 1) ∧ ((↑v : Int) != (↑out : Int)) = true ∧ List.length (ints l1) = (q1 + 1) * 1 ∧ q1 + 1 + 1 ≤ 9223372036854775807 ∧ (q1 + 1 + 1) * 8 ≤ 140737488355328 ∧ binV (ctxOf Try.prog) BinOp.shr 5 (b8 wb) (i6 (↑v : Int)) = some (b8 (wb / 2 ^ v)) ∧ binV (ctxOf Try.prog) BinOp.and 5 (b8 (wb / 2 ^ v)) (V.int IntKind.u8 (1 : Int)) = some (b8 1) ∧ ((↑v : Int) != (↑out : Int)) = true ∧ List.length (ints l2) = (q2 + 1) * 1 ∧ q2 + 1 + 1 ≤ 9223372036854775807 ∧ (q2 + 1 + 1) * 8 ≤ 140737488355328 ∧ wr IntKind.i64 ((↑v : Int) + (1 : Int)) = (↑(v + 1) : Int) ∧ (0 = 0 ∧ 0 = 0 ∧ 0 = 0 ∧ kd = kd ∧ (↑out : Int) = (↑out : Int) ∧ 0 = 0 ∧ 0 = 0 ∧ (3 = 3 ∧ c3 = c3) ∧ ((2 = 2 ∧ c2 = c2) ∧ (3 = 3 ∧ c3 = c3) ∧ True) ∧ k = k ∧ (0 = 0 ∧ Nat.succ q1 + 1 = q1 + 1 + 1 ∧ True) ∧ (0 = 0 ∧ Nat.succ q2 + 1 = q2 + 1 + 1 ∧ True) ∧ (↑(v + 1) : Int) = (↑(v + 1) : Int) ∧ True) ∧ (dtL wa La = dtL wa La ∧ True ∧ True ∧ True) ∧ (dtL wb Lb = dtL wb Lb ∧ True ∧ True ∧ True) ∧ (dtL wc Lc = dtL wc Lc ∧ True ∧ True ∧ True) ∧ (X = X ∧ HfL X) ∧ (Y = Y ∧ HfL Y) ∧ (ints (l1 ++ [(↑v : Int)]) = ints l1 ++ [i6 (↑v : Int)] ∧ HfL (ints (l1 ++ [(↑v : Int)]))) ∧ (ints (l2 ++ [(↑v : Int)]) = ints l2 ++ [i6 (↑v : Int)] ∧ HfL (ints (l2 ++ [(↑v : Int)]))) ∧ True) = _) ?_
          (repeat' (first | (with_reducible apply And.intro) | (refine fun (_ : True) => ?_)))
          all_goals first | (with_reducible exact hsa) | (with_reducible exact hsb) | (with_reducible exact hsc) | (with_reducible exact haa) | (with_reducible exact hab) | (with_reducible exact hac) | exact aq | exact a1 | exact a2 | (rw [ints_length]; omega) | rfl | skip
      · rw [show wb / 2 ^ v % 2 = 0 by omega] at hab
        have e1 : dQ K (v + 1) = q1 + 1 := by rw [dQ, if_pos (by rw [kv]; simp [*]), hq1]
        have e2 : dV K (v + 1) = l1 ++ [(v : Int)] := by rw [dV, if_pos (by rw [kv]; simp [*]), hl1]
        have e3 : dQ L (v + 1) = q2 := by rw [dQ, if_neg (by rw [lv]; simp [*]), hq2]
        have e4 : dV L (v + 1) = l2 := by rw [dV, if_neg (by rw [lv]; simp [*]), hl2]
        clear kv lv hq1 hl1 hq2 hl2
        rcases q1 with _ | q1 <;> rcases q2 with _ | q2
        · have z1 : l1 = [] := List.eq_nil_of_length_eq_zero n1
          have z2 : l2 = [] := List.eq_nil_of_length_eq_zero n2
          refine .inl ⟨(v + 1, 1, l1 ++ [(v : Int)], 0, l2), [0, 1, 2, 3, 4, 6], [yes 72, va 77 (b8 (wa / 2 ^ v)), va 78 (b8 1), yes 105, va 114 (b8 (wb / 2 ^ v)), va 115 (b8 0), nu 126 (v + 1 : Nat)], 1000, ⟨by dsimp only; omega, e1.symm, e2.symm, e3.symm, e4.symm⟩, by dsimp only; omega, ?_⟩
          subst z1
          subst z2
          clear e1 e2 e3 e4
          refine Eq.mp (by kernel_rfl : (decide ((↑v : Int) < (5 : Int)) = true ∧ binV (ctxOf Try.prog) BinOp.shr 5 (b8 wa) (i6 (↑v : Int)) = some (b8 (wa / 2 ^ v)) ∧ binV (ctxOf Try.prog) BinOp.and 5 (b8 (wa / 2 ^ v)) (V.int IntKind.u8 (1 : Int)) = some (b8 1) ∧ ((↑v : Int) != (↑out : Int)) = true ∧ binV (ctxOf Try.prog) BinOp.shr 5 (b8 wb) (i6 (↑v : Int)) = some (b8 (wb / 2 ^ v)) ∧ binV (ctxOf Try.prog) BinOp.and 5 (b8 (wb / 2 ^ v)) (V.int IntKind.u8 (1 : Int)) = some (b8 0) ∧ wr IntKind.i64 ((↑v : Int) + (1 : Int)) = (↑(v + 1) : Int) ∧ (0 = 0 ∧ 0 = 0 ∧ 0 = 0 ∧ kd = kd ∧ (↑out : Int) = (↑out : Int) ∧ 0 = 0 ∧ 0 = 0 ∧ (3 = 3 ∧ c3 = c3) ∧ ((2 = 2 ∧ c2 = c2) ∧ (3 = 3 ∧ c3 = c3) ∧ True) ∧ k = k ∧ (0 = 0 ∧ 0 + 1 = 1 ∧ True) ∧ True ∧ (↑(v + 1) : Int) = (↑(v + 1) : Int) ∧ True) ∧ (dtL wa La = dtL wa La ∧ True ∧ True ∧ True) ∧ (dtL wb Lb = dtL wb Lb ∧ True ∧ True ∧ True) ∧ (dtL wc Lc = dtL wc Lc ∧ True ∧ True ∧ True) ∧ (X = X ∧ HfL X) ∧ (Y = Y ∧ HfL Y) ∧ (ints ([] ++ [(↑v : Int)]) = [i6 (↑v : Int)] ∧ True ∧ True) ∧ True) = _) ?_
          (repeat' (first | (with_reducible apply And.intro) | (refine fun (_ : True) => ?_)))
          all_goals first | (with_reducible exact hsa) | (with_reducible exact hsb) | (with_reducible exact hsc) | (with_reducible exact haa) | (with_reducible exact hab) | (with_reducible exact hac) | exact aq | exact a1 | exact a2 | (rw [ints_length]; omega) | rfl | skip
        · have z1 : l1 = [] := List.eq_nil_of_length_eq_zero n1
          refine .inl ⟨(v + 1, 1, l1 ++ [(v : Int)], q2 + 1, l2), [0, 1, 2, 3, 4, 7, 5], [yes 72, va 77 (b8 (wa / 2 ^ v)), va 78 (b8 1), yes 105, va 114 (b8 (wb / 2 ^ v)), va 115 (b8 0), nu 126 (v + 1 : Nat)], 1000, ⟨by dsimp only; omega, e1.symm, e2.symm, e3.symm, e4.symm⟩, by dsimp only; omega, ?_⟩
          subst z1
          clear e1 e2 e3 e4
          refine Eq.mp (by kernel_rfl : (decide ((↑v : Int) < (5 : Int)) = true ∧ binV (ctxOf Try.prog) BinOp.shr 5 (b8 wa) (i6 (↑v : Int)) = some (b8 (wa / 2 ^ v)) ∧ binV (ctxOf Try.prog) BinOp.and 5 (b8 (wa / 2 ^ v)) (V.int IntKind.u8 (1 : Int)) = some (b8 1) ∧ ((↑v : Int) != (↑out : Int)) = true ∧ binV (ctxOf Try.prog) BinOp.shr 5 (b8 wb) (i6 (↑v : Int)) = some (b8 (wb / 2 ^ v)) ∧ binV (ctxOf Try.prog) BinOp.and 5 (b8 (wb / 2 ^ v)) (V.int IntKind.u8 (1 : Int)) = some (b8 0) ∧ wr IntKind.i64 ((↑v : Int) + (1 : Int)) = (↑(v + 1) : Int) ∧ (0 = 0 ∧ 0 = 0 ∧ 0 = 0 ∧ kd = kd ∧ (↑out : Int) = (↑out : Int) ∧ 0 = 0 ∧ 0 = 0 ∧ (3 = 3 ∧ c3 = c3) ∧ ((2 = 2 ∧ c2 = c2) ∧ (3 = 3 ∧ c3 = c3) ∧ True) ∧ k = k ∧ (0 = 0 ∧ 0 + 1 = 1 ∧ True) ∧ (0 = 0 ∧ q2 + 1 = q2 + 1 ∧ True) ∧ (↑(v + 1) : Int) = (↑(v + 1) : Int) ∧ True) ∧ (dtL wa La = dtL wa La ∧ True ∧ True ∧ True) ∧ (dtL wb Lb = dtL wb Lb ∧ True ∧ True ∧ True) ∧ (dtL wc Lc = dtL wc Lc ∧ True ∧ True ∧ True) ∧ (X = X ∧ HfL X) ∧ (Y = Y ∧ HfL Y) ∧ (ints ([] ++ [(↑v : Int)]) = [i6 (↑v : Int)] ∧ True ∧ True) ∧ (ints l2 = ints l2 ∧ HfL (ints l2)) ∧ True) = _) ?_
          (repeat' (first | (with_reducible apply And.intro) | (refine fun (_ : True) => ?_)))
          all_goals first | (with_reducible exact hsa) | (with_reducible exact hsb) | (with_reducible exact hsc) | (with_reducible exact haa) | (with_reducible exact hab) | (with_reducible exact hac) | exact aq | exact a1 | exact a2 | (rw [ints_length]; omega) | rfl | skip
        · skip
          have z2 : l2 = [] := List.eq_nil_of_length_eq_zero n2
          refine .inl ⟨(v + 1, q1 + 1 + 1, l1 ++ [(v : Int)], 0, l2), [0, 1, 2, 3, 4, 7], [yes 72, va 77 (b8 (wa / 2 ^ v)), va 78 (b8 1), yes 105, ap 110, va 114 (b8 (wb / 2 ^ v)), va 115 (b8 0), nu 126 (v + 1 : Nat)], 1000, ⟨by dsimp only; omega, e1.symm, e2.symm, e3.symm, e4.symm⟩, by dsimp only; omega, ?_⟩
          subst z2
          clear e1 e2 e3 e4
          refine Eq.mp (by kernel_rfl : (decide ((↑v : Int) < (5 : Int)) = true ∧ binV (ctxOf Try.prog) BinOp.shr 5 (b8 wa) (i6 (↑v : Int)) = some (b8 (wa / 2 ^ v)) ∧ binV (ctxOf Try.prog) BinOp.and 5 (b8 (wa / 2 ^ v)) (V.int IntKind.u8 (1 : Int)) = some (b8 1) ∧ ((↑v : Int) != (↑out : Int)) = true ∧ List.length (ints l1) = (q1 + 1) * 1 ∧ q1 + 1 + 1 ≤ 9223372036854775807 ∧ (q1 + 1 + 1) * 8 ≤ 140737488355328 ∧ binV (ctxOf Try.prog) BinOp.shr 5 (b8 wb) (i6 (↑v : Int)) = some (b8 (wb / 2 ^ v)) ∧ binV (ctxOf Try.prog) BinOp.and 5 (b8 (wb / 2 ^ v)) (V.int IntKind.u8 (1 : Int)) = some (b8 0) ∧ wr IntKind.i64 ((↑v : Int) + (1 : Int)) = (↑(v + 1) : Int) ∧ (0 = 0 ∧ 0 = 0 ∧ 0 = 0 ∧ kd = kd ∧ (↑out : Int) = (↑out : Int) ∧ 0 = 0 ∧ 0 = 0 ∧ (3 = 3 ∧ c3 = c3) ∧ ((2 = 2 ∧ c2 = c2) ∧ (3 = 3 ∧ c3 = c3) ∧ True) ∧ k = k ∧ (0 = 0 ∧ Nat.succ q1 + 1 = q1 + 1 + 1 ∧ True) ∧ True ∧ (↑(v + 1) : Int) = (↑(v + 1) : Int) ∧ True) ∧ (dtL wa La = dtL wa La ∧ True ∧ True ∧ True) ∧ (dtL wb Lb = dtL wb Lb ∧ True ∧ True ∧ True) ∧ (dtL wc Lc = dtL wc Lc ∧ True ∧ True ∧ True) ∧ (X = X ∧ HfL X) ∧ (Y = Y ∧ HfL Y) ∧ (ints (l1 ++ [(↑v : Int)]) = ints l1 ++ [i6 (↑v : Int)] ∧ HfL (ints (l1 ++ [(↑v : Int)]))) ∧ True) = _) ?_
          (repeat' (first | (with_reducible apply And.intro) | (refine fun (_ : True) => ?_)))
          all_goals first | (with_reducible exact hsa) | (with_reducible exact hsb) | (with_reducible exact hsc) | (with_reducible exact haa) | (with_reducible exact hab) | (with_reducible exact hac) | exact aq | exact a1 | exact a2 | (rw [ints_length]; omega) | rfl | skip
        · skip
          refine .inl ⟨(v + 1, q1 + 1 + 1, l1 ++ [(v : Int)], q2 + 1, l2), [0, 1, 2, 3, 4, 8, 6], [yes 72, va 77 (b8 (wa / 2 ^ v)), va 78 (b8 1), yes 105, ap 110, va 114 (b8 (wb / 2 ^ v)), va 115 (b8 0), nu 126 (v + 1 : Nat)], 1000, ⟨by dsimp only; omega, e1.symm, e2.symm, e3.symm, e4.symm⟩, by dsimp only; omega, ?_⟩
          clear e1 e2 e3 e4
          refine Eq.mp (by kernel_rfl : (decide ((↑v : Int) < (5 : Int)) = true ∧ binV (ctxOf Try.prog) BinOp.shr 5 (b8 wa) (i6 (↑v : Int)) = some (b8 (wa / 2 ^ v)) ∧ binV (ctxOf Try.prog) BinOp.and 5 (b8 (wa / 2 ^ v)) (V.int IntKind.u8 (1 : Int)) = some (b8 1) ∧ ((↑v : Int) != (↑out : Int)) = true ∧ List.length (ints l1) = (q1 + 1) * 1 ∧ q1 + 1 + 1 ≤ 9223372036854775807 ∧ (q1 + 1 + 1) * 8 ≤ 140737488355328 ∧ binV (ctxOf Try.prog) BinOp.shr 5 (b8 wb) (i6 (↑v : Int)) = some (b8 (wb / 2 ^ v)) ∧ binV (ctxOf Try.prog) BinOp.and 5 (b8 (wb / 2 ^ v)) (V.int IntKind.u8 (1 : Int)) = some (b8 0) ∧ wr IntKind.i64 ((↑v : Int) + (1 : Int)) = (↑(v + 1) : Int) ∧ (0 = 0 ∧ 0 = 0 ∧ 0 = 0 ∧ kd = kd ∧ (↑out : Int) = (↑out : Int) ∧ 0 = 0 ∧ 0 = 0 ∧ (3 = 3 ∧ c3 = c3) ∧ ((2 = 2 ∧ c2 = c2) ∧ (3 = 3 ∧ c3 = c3) ∧ True) ∧ k = k ∧ (0 = 0 ∧ Nat.succ q1 + 1 = q1 + 1 + 1 ∧ True) ∧ (0 = 0 ∧ q2 + 1 = q2 + 1 ∧ True) ∧ (↑(v + 1) : Int) = (↑(v + 1) : Int) ∧ True) ∧ (dtL wa La = dtL wa La ∧ True ∧ True ∧ True) ∧ (dtL wb Lb = dtL wb Lb ∧ True ∧ True ∧ True) ∧ (dtL wc Lc = dtL wc Lc ∧ True ∧ True ∧ True) ∧ (X = X ∧ HfL X) ∧ (Y = Y ∧ HfL Y) ∧ (ints (l1 ++ [(↑v : Int)]) = ints l1 ++ [i6 (↑v : Int)] ∧ HfL (ints (l1 ++ [(↑v : Int)]))) ∧ (ints l2 = ints l2 ∧ HfL (ints l2)) ∧ True) = _) ?_
          (repeat' (first | (with_reducible apply And.intro) | (refine fun (_ : True) => ?_)))
          all_goals first | (with_reducible exact hsa) | (with_reducible exact hsb) | (with_reducible exact hsc) | (with_reducible exact haa) | (with_reducible exact hab) | (with_reducible exact hac) | exact aq | exact a1 | exact a2 | (rw [ints_length]; omega) | rfl | skip
    · rw [show wa / 2 ^ v % 2 = 0 by omega] at haa
      by_cases hb : wb / 2 ^ v % 2 = 1
      · rw [hb] at hab
        by_cases hvo : v = out
        · skip
          have e1 : dQ K (v + 1) = q1 := by rw [dQ, if_neg (by rw [kv]; simp [*]), hq1]
          have e2 : dV K (v + 1) = l1 := by rw [dV, if_neg (by rw [kv]; simp [*]), hl1]
          have e3 : dQ L (v + 1) = q2 := by rw [dQ, if_neg (by rw [lv]; simp [*]), hq2]
          have e4 : dV L (v + 1) = l2 := by rw [dV, if_neg (by rw [lv]; simp [*]), hl2]
          clear kv lv hq1 hl1 hq2 hl2
          rcases q1 with _ | q1 <;> rcases q2 with _ | q2
          · have z1 : l1 = [] := List.eq_nil_of_length_eq_zero n1
            have z2 : l2 = [] := List.eq_nil_of_length_eq_zero n2
            refine .inl ⟨(v + 1, 0, l1, 0, l2), [0, 1, 2, 3, 4], [yes 72, va 77 (b8 (wa / 2 ^ v)), va 78 (b8 0), va 84 (b8 (wb / 2 ^ v)), va 85 (b8 1), no 105, va 114 (b8 (wb / 2 ^ v)), va 115 (b8 1), no 120, nu 126 (v + 1 : Nat)], 1000, ⟨by dsimp only; omega, e1.symm, e2.symm, e3.symm, e4.symm⟩, by dsimp only; omega, ?_⟩
            subst z1
            subst z2
            clear e1 e2 e3 e4
            refine Eq.mp (by kernel_rfl : (decide ((↑v : Int) < (5 : Int)) = true ∧ binV (ctxOf Try.prog) BinOp.shr 5 (b8 wa) (i6 (↑v : Int)) = some (b8 (wa / 2 ^ v)) ∧ binV (ctxOf Try.prog) BinOp.and 5 (b8 (wa / 2 ^ v)) (V.int IntKind.u8 (1 : Int)) = some (b8 0) ∧ binV (ctxOf Try.prog) BinOp.shr 5 (b8 wb) (i6 (↑v : Int)) = some (b8 (wb / 2 ^ v)) ∧ binV (ctxOf Try.prog) BinOp.and 5 (b8 (wb / 2 ^ v)) (V.int IntKind.u8 (1 : Int)) = some (b8 1) ∧ ((↑v : Int) != (↑out : Int)) = false ∧ binV (ctxOf Try.prog) BinOp.shr 5 (b8 wb) (i6 (↑v : Int)) = some (b8 (wb / 2 ^ v)) ∧ binV (ctxOf Try.prog) BinOp.and 5 (b8 (wb / 2 ^ v)) (V.int IntKind.u8 (1 : Int)) = some (b8 1) ∧ ((↑v : Int) != (↑out : Int)) = false ∧ wr IntKind.i64 ((↑v : Int) + (1 : Int)) = (↑(v + 1) : Int) ∧ (0 = 0 ∧ 0 = 0 ∧ 0 = 0 ∧ kd = kd ∧ (↑out : Int) = (↑out : Int) ∧ 0 = 0 ∧ 0 = 0 ∧ (3 = 3 ∧ c3 = c3) ∧ ((2 = 2 ∧ c2 = c2) ∧ (3 = 3 ∧ c3 = c3) ∧ True) ∧ k = k ∧ True ∧ True ∧ (↑(v + 1) : Int) = (↑(v + 1) : Int) ∧ True) ∧ (dtL wa La = dtL wa La ∧ True ∧ True ∧ True) ∧ (dtL wb Lb = dtL wb Lb ∧ True ∧ True ∧ True) ∧ (dtL wc Lc = dtL wc Lc ∧ True ∧ True ∧ True) ∧ (X = X ∧ HfL X) ∧ (Y = Y ∧ HfL Y) ∧ True) = _) ?_
            (repeat' (first | (with_reducible apply And.intro) | (refine fun (_ : True) => ?_)))
            all_goals first | (with_reducible exact hsa) | (with_reducible exact hsb) | (with_reducible exact hsc) | (with_reducible exact haa) | (with_reducible exact hab) | (with_reducible exact hac) | exact aq | exact a1 | exact a2 | (rw [ints_length]; omega) | rfl | skip
          · have z1 : l1 = [] := List.eq_nil_of_length_eq_zero n1
            refine .inl ⟨(v + 1, 0, l1, q2 + 1, l2), [0, 1, 2, 3, 4, 5], [yes 72, va 77 (b8 (wa / 2 ^ v)), va 78 (b8 0), va 84 (b8 (wb / 2 ^ v)), va 85 (b8 1), no 105, va 114 (b8 (wb / 2 ^ v)), va 115 (b8 1), no 120, nu 126 (v + 1 : Nat)], 1000, ⟨by dsimp only; omega, e1.symm, e2.symm, e3.symm, e4.symm⟩, by dsimp only; omega, ?_⟩
            subst z1
            clear e1 e2 e3 e4
            refine Eq.mp (by kernel_rfl : (decide ((↑v : Int) < (5 : Int)) = true ∧ binV (ctxOf Try.prog) BinOp.shr 5 (b8 wa) (i6 (↑v : Int)) = some (b8 (wa / 2 ^ v)) ∧ binV (ctxOf Try.prog) BinOp.and 5 (b8 (wa / 2 ^ v)) (V.int IntKind.u8 (1 : Int)) = some (b8 0) ∧ binV (ctxOf Try.prog) BinOp.shr 5 (b8 wb) (i6 (↑v : Int)) = some (b8 (wb / 2 ^ v)) ∧ binV (ctxOf Try.prog) BinOp.and 5 (b8 (wb / 2 ^ v)) (V.int IntKind.u8 (1 : Int)) = some (b8 1) ∧ ((↑v : Int) != (↑out : Int)) = false ∧ binV (ctxOf Try.prog) BinOp.shr 5 (b8 wb) (i6 (↑v : Int)) = some (b8 (wb / 2 ^ v)) ∧ binV (ctxOf Try.prog) BinOp.and 5 (b8 (wb / 2 ^ v)) (V.int IntKind.u8 (1 : Int)) = some (b8 1) ∧ ((↑v : Int) != (↑out : Int)) = false ∧ wr IntKind.i64 ((↑v : Int) + (1 : Int)) = (↑(v + 1) : Int) ∧ (0 = 0 ∧ 0 = 0 ∧ 0 = 0 ∧ kd = kd ∧ (↑out : Int) = (↑out : Int) ∧ 0 = 0 ∧ 0 = 0 ∧ (3 = 3 ∧ c3 = c3) ∧ ((2 = 2 ∧ c2 = c2) ∧ (3 = 3 ∧ c3 = c3) ∧ True) ∧ k = k ∧ True ∧ (0 = 0 ∧ q2 + 1 = q2 + 1 ∧ True) ∧ (↑(v + 1) : Int) = (↑(v + 1) : Int) ∧ True) ∧ (dtL wa La = dtL wa La ∧ True ∧ True ∧ True) ∧ (dtL wb Lb = dtL wb Lb ∧ True ∧ True ∧ True) ∧ (dtL wc Lc = dtL wc Lc ∧ True ∧ True ∧ True) ∧ (X = X ∧ HfL X) ∧ (Y = Y ∧ HfL Y) ∧ (ints l2 = ints l2 ∧ HfL (ints l2)) ∧ True) = _) ?_
            (repeat' (first | (with_reducible apply And.intro) | (refine fun (_ : True) => ?_)))
            all_goals first | (with_reducible exact hsa) | (with_reducible exact hsb) | (with_reducible exact hsc) | (with_reducible exact haa) | (with_reducible exact hab) | (with_reducible exact hac) | exact aq | exact a1 | exact a2 | (rw [ints_length]; omega) | rfl | skip
          · skip
            have z2 : l2 = [] := List.eq_nil_of_length_eq_zero n2
            refine .inl ⟨(v + 1, q1 + 1, l1, 0, l2), [0, 1, 2, 3, 4, 5], [yes 72, va 77 (b8 (wa / 2 ^ v)), va 78 (b8 0), va 84 (b8 (wb / 2 ^ v)), va 85 (b8 1), no 105, va 114 (b8 (wb / 2 ^ v)), va 115 (b8 1), no 120, nu 126 (v + 1 : Nat)], 1000, ⟨by dsimp only; omega, e1.symm, e2.symm, e3.symm, e4.symm⟩, by dsimp only; omega, ?_⟩
            subst z2
            clear e1 e2 e3 e4
            refine Eq.mp (by kernel_rfl : (decide ((↑v : Int) < (5 : Int)) = true ∧ binV (ctxOf Try.prog) BinOp.shr 5 (b8 wa) (i6 (↑v : Int)) = some (b8 (wa / 2 ^ v)) ∧ binV (ctxOf Try.prog) BinOp.and 5 (b8 (wa / 2 ^ v)) (V.int IntKind.u8 (1 : Int)) = some (b8 0) ∧ binV (ctxOf Try.prog) BinOp.shr 5 (b8 wb) (i6 (↑v : Int)) = some (b8 (wb / 2 ^ v)) ∧ binV (ctxOf Try.prog) BinOp.and 5 (b8 (wb / 2 ^ v)) (V.int IntKind.u8 (1 : Int)) = some (b8 1) ∧ ((↑v : Int) != (↑out : Int)) = false ∧ binV (ctxOf Try.prog) BinOp.shr 5 (b8 wb) (i6 (↑v : Int)) = some (b8 (wb / 2 ^ v)) ∧ binV (ctxOf Try.prog) BinOp.and 5 (b8 (wb / 2 ^ v)) (V.int IntKind.u8 (1 : Int)) = some (b8 1) ∧ ((↑v : Int) != (↑out : Int)) = false ∧ wr IntKind.i64 ((↑v : Int) + (1 : Int)) = (↑(v + 1) : Int) ∧ (0 = 0 ∧ 0 = 0 ∧ 0 = 0 ∧ kd = kd ∧ (↑out : Int) = (↑out : Int) ∧ 0 = 0 ∧ 0 = 0 ∧ (3 = 3 ∧ c3 = c3) ∧ ((2 = 2 ∧ c2 = c2) ∧ (3 = 3 ∧ c3 = c3) ∧ True) ∧ k = k ∧ (0 = 0 ∧ q1 + 1 = q1 + 1 ∧ True) ∧ True ∧ (↑(v + 1) : Int) = (↑(v + 1) : Int) ∧ True) ∧ (dtL wa La = dtL wa La ∧ True ∧ True ∧ True) ∧ (dtL wb Lb = dtL wb Lb ∧ True ∧ True ∧ True) ∧ (dtL wc Lc = dtL wc Lc ∧ True ∧ True ∧ True) ∧ (X = X ∧ HfL X) ∧ (Y = Y ∧ HfL Y) ∧ (ints l1 = ints l1 ∧ HfL (ints l1)) ∧ True) = _) ?_
            (repeat' (first | (with_reducible apply And.intro) | (refine fun (_ : True) => ?_)))
            all_goals first | (with_reducible exact hsa) | (with_reducible exact hsb) | (with_reducible exact hsc) | (with_reducible exact haa) | (with_reducible exact hab) | (with_reducible exact hac) | exact aq | exact a1 | exact a2 | (rw [ints_length]; omega) | rfl | skip
          · skip
            refine .inl ⟨(v + 1, q1 + 1, l1, q2 + 1, l2), [0, 1, 2, 3, 4, 5, 6], [yes 72, va 77 (b8 (wa / 2 ^ v)), va 78 (b8 0), va 84 (b8 (wb / 2 ^ v)), va 85 (b8 1), no 105, va 114 (b8 (wb / 2 ^ v)), va 115 (b8 1), no 120, nu 126 (v + 1 : Nat)], 1000, ⟨by dsimp only; omega, e1.symm, e2.symm, e3.symm, e4.symm⟩, by dsimp only; omega, ?_⟩
            clear e1 e2 e3 e4
            refine Eq.mp (by kernel_rfl : (decide ((↑v : Int) < (5 : Int)) = true ∧ binV (ctxOf Try.prog) BinOp.shr 5 (b8 wa) (i6 (↑v : Int)) = some (b8 (wa / 2 ^ v)) ∧ binV (ctxOf Try.prog) BinOp.and 5 (b8 (wa / 2 ^ v)) (V.int IntKind.u8 (1 : Int)) = some (b8 0) ∧ binV (ctxOf Try.prog) BinOp.shr 5 (b8 wb) (i6 (↑v : Int)) = some (b8 (wb / 2 ^ v)) ∧ binV (ctxOf Try.prog) BinOp.and 5 (b8 (wb / 2 ^ v)) (V.int IntKind.u8 (1 : Int)) = some (b8 1) ∧ ((↑v : Int) != (↑out : Int)) = false ∧ binV (ctxOf Try.prog) BinOp.shr 5 (b8 wb) (i6 (↑v : Int)) = some (b8 (wb / 2 ^ v)) ∧ binV (ctxOf Try.prog) BinOp.and 5 (b8 (wb / 2 ^ v)) (V.int IntKind.u8 (1 : Int)) = some (b8 1) ∧ ((↑v : Int) != (↑out : Int)) = false ∧ wr IntKind.i64 ((↑v : Int) + (1 : Int)) = (↑(v + 1) : Int) ∧ (0 = 0 ∧ 0 = 0 ∧ 0 = 0 ∧ kd = kd ∧ (↑out : Int) = (↑out : Int) ∧ 0 = 0 ∧ 0 = 0 ∧ (3 = 3 ∧ c3 = c3) ∧ ((2 = 2 ∧ c2 = c2) ∧ (3 = 3 ∧ c3 = c3) ∧ True) ∧ k = k ∧ (0 = 0 ∧ q1 + 1 = q1 + 1 ∧ True) ∧ (0 = 0 ∧ q2 + 1 = q2 + 1 ∧ True) ∧ (↑(v + 1) : Int) = (↑(v + 1) : Int) ∧ True) ∧ (dtL wa La = dtL wa La ∧ True ∧ True ∧ True) ∧ (dtL wb Lb = dtL wb Lb ∧ True ∧ True ∧ True) ∧ (dtL wc Lc = dtL wc Lc ∧ True ∧ True ∧ True) ∧ (X = X ∧ HfL X) ∧ (Y = Y ∧ HfL Y) ∧ (ints l1 = ints l1 ∧ HfL (ints l1)) ∧ (ints l2 = ints l2 ∧ HfL (ints l2)) ∧ True) = _) ?_
            (repeat' (first | (with_reducible apply And.intro) | (refine fun (_ : True) => ?_)))
            all_goals first | (with_reducible exact hsa) | (with_reducible exact hsb) | (with_reducible exact hsc) | (with_reducible exact haa) | (with_reducible exact hab) | (with_reducible exact hac) | exact aq | exact a1 | exact a2 | (rw [ints_length]; omega) | rfl | skip
        · skip
          have e1 : dQ K (v + 1) = q1 + 1 := by rw [dQ, if_pos (by rw [kv]; simp [*]), hq1]
          have e2 : dV K (v + 1) = l1 ++ [(v : Int)] := by rw [dV, if_pos (by rw [kv]; simp [*]), hl1]
          have e3 : dQ L (v + 1) = q2 + 1 := by rw [dQ, if_pos (by rw [lv]; simp [*]), hq2]
          have e4 : dV L (v + 1) = l2 ++ [(v : Int)] := by rw [dV, if_pos (by rw [lv]; simp [*]), hl2]
          clear kv lv hq1 hl1 hq2 hl2
          rcases q1 with _ | q1 <;> rcases q2 with _ | q2
          · have z1 : l1 = [] := List.eq_nil_of_length_eq_zero n1
            have z2 : l2 = [] := List.eq_nil_of_length_eq_zero n2
            refine .inl ⟨(v + 1, 1, l1 ++ [(v : Int)], 1, l2 ++ [(v : Int)]), [0, 1, 2, 3, 4, 6, 8], [yes 72, va 77 (b8 (wa / 2 ^ v)), va 78 (b8 0), va 84 (b8 (wb / 2 ^ v)), va 85 (b8 1), yes 105, va 114 (b8 (wb / 2 ^ v)), va 115 (b8 1), yes 120, nu 126 (v + 1 : Nat)], 1000, ⟨by dsimp only; omega, e1.symm, e2.symm, e3.symm, e4.symm⟩, by dsimp only; omega, ?_⟩
            subst z1
            subst z2
            clear e1 e2 e3 e4
            refine Eq.mp (by kernel_rfl : (decide ((↑v : Int) < (5 : Int)) = true ∧ binV (ctxOf Try.prog) BinOp.shr 5 (b8 wa) (i6 (↑v : Int)) = some (b8 (wa / 2 ^ v)) ∧ binV (ctxOf Try.prog) BinOp.and 5 (b8 (wa / 2 ^ v)) (V.int IntKind.u8 (1 : Int)) = some (b8 0) ∧ binV (ctxOf Try.prog) BinOp.shr 5 (b8 wb) (i6 (↑v : Int)) = some (b8 (wb / 2 ^ v)) ∧ binV (ctxOf Try.prog) BinOp.and 5 (b8 (wb / 2 ^ v)) (V.int IntKind.u8 (1 : Int)) = some (b8 1) ∧ ((↑v : Int) != (↑out : Int)) = true ∧ binV (ctxOf Try.prog) BinOp.shr 5 (b8 wb) (i6 (↑v : Int)) = some (b8 (wb / 2 ^ v)) ∧ binV (ctxOf Try.prog) BinOp.and 5 (b8 (wb / 2 ^ v)) (V.int IntKind.u8 (1 : Int)) = some (b8 1) ∧ ((↑v : Int) != (↑out : Int)) = true ∧ wr IntKind.i64 ((↑v : Int) + (1 : Int)) = (↑(v + 1) : Int) ∧ (0 = 0 ∧ 0 = 0 ∧ 0 = 0 ∧ kd = kd ∧ (↑out : Int) = (↑out : Int) ∧ 0 = 0 ∧ 0 = 0 ∧ (3 = 3 ∧ c3 = c3) ∧ ((2 = 2 ∧ c2 = c2) ∧ (3 = 3 ∧ c3 = c3) ∧ True) ∧ k = k ∧ (0 = 0 ∧ 0 + 1 = 1 ∧ True) ∧ (0 = 0 ∧ 0 + 1 = 1 ∧ True) ∧ (↑(v + 1) : Int) = (↑(v + 1) : Int) ∧ True) ∧ (dtL wa La = dtL wa La ∧ True ∧ True ∧ True) ∧ (dtL wb Lb = dtL wb Lb ∧ True ∧ True ∧ True) ∧ (dtL wc Lc = dtL wc Lc ∧ True ∧ True ∧ True) ∧ (X = X ∧ HfL X) ∧ (Y = Y ∧ HfL Y) ∧ (ints ([] ++ [(↑v : Int)]) = [i6 (↑v : Int)] ∧ True ∧ True) ∧ (ints ([] ++ [(↑v : Int)]) = [i6 (↑v : Int)] ∧ True ∧ True) ∧ True) = _) ?_
            (repeat' (first | (with_reducible apply And.intro) | (refine fun (_ : True) => ?_)))
            all_goals first | (with_reducible exact hsa) | (with_reducible exact hsb) | (with_reducible exact hsc) | (with_reducible exact haa) | (with_reducible exact hab) | (with_reducible exact hac) | exact aq | exact a1 | exact a2 | (rw [ints_length]; omega) | rfl | skip
          · have z1 : l1 = [] := List.eq_nil_of_length_eq_zero n1
            refine .inl ⟨(v + 1, 1, l1 ++ [(v : Int)], q2 + 1 + 1, l2 ++ [(v : Int)]), [0, 1, 2, 3, 4, 7, 9], [yes 72, va 77 (b8 (wa / 2 ^ v)), va 78 (b8 0), va 84 (b8 (wb / 2 ^ v)), va 85 (b8 1), yes 105, va 114 (b8 (wb / 2 ^ v)), va 115 (b8 1), yes 120, ap 125, nu 126 (v + 1 : Nat)], 1000, ⟨by dsimp only; omega, e1.symm, e2.symm, e3.symm, e4.symm⟩, by dsimp only; omega, ?_⟩
            subst z1
            clear e1 e2 e3 e4
            refine Eq.mp (by kernel_rfl : (decide ((↑v : Int) < (5 : Int)) = true ∧ binV (ctxOf Try.prog) BinOp.shr 5 (b8 wa) (i6 (↑v : Int)) = some (b8 (wa / 2 ^ v)) ∧ binV (ctxOf Try.prog) BinOp.and 5 (b8 (wa / 2 ^ v)) (V.int IntKind.u8 (1 : Int)) = some (b8 0) ∧ binV (ctxOf Try.prog) BinOp.shr 5 (b8 wb) (i6 (↑v : Int)) = some (b8 (wb / 2 ^ v)) ∧ binV (ctxOf Try.prog) BinOp.and 5 (b8 (wb / 2 ^ v)) (V.int IntKind.u8 (1 : Int)) = some (b8 1) ∧ ((↑v : Int) != (↑out : Int)) = true ∧ binV (ctxOf Try.prog) BinOp.shr 5 (b8 wb) (i6 (↑v : Int)) = some (b8 (wb / 2 ^ v)) ∧ binV (ctxOf Try.prog) BinOp.and 5 (b8 (wb / 2 ^ v)) (V.int IntKind.u8 (1 : Int)) = some (b8 1) ∧ ((↑v : Int) != (↑out : Int)) = true ∧ List.length (ints l2) = (q2 + 1) * 1 ∧ q2 + 1 + 1 ≤ 9223372036854775807 ∧ (q2 + 1 + 1) * 8 ≤ 140737488355328 ∧ wr IntKind.i64 ((↑v : Int) + (1 : Int)) = (↑(v + 1) : Int) ∧ (0 = 0 ∧ 0 = 0 ∧ 0 = 0 ∧ kd = kd ∧ (↑out : Int) = (↑out : Int) ∧ 0 = 0 ∧ 0 = 0 ∧ (3 = 3 ∧ c3 = c3) ∧ ((2 = 2 ∧ c2 = c2) ∧ (3 = 3 ∧ c3 = c3) ∧ True) ∧ k = k ∧ (0 = 0 ∧ 0 + 1 = 1 ∧ True) ∧ (0 = 0 ∧ Nat.succ q2 + 1 = q2 + 1 + 1 ∧ True) ∧ (↑(v + 1) : Int) = (↑(v + 1) : Int) ∧ True) ∧ (dtL wa La = dtL wa La ∧ True ∧ True ∧ True) ∧ (dtL wb Lb = dtL wb Lb ∧ True ∧ True ∧ True) ∧ (dtL wc Lc = dtL wc Lc ∧ True ∧ True ∧ True) ∧ (X = X ∧ HfL X) ∧ (Y = Y ∧ HfL Y) ∧ (ints ([] ++ [(↑v : Int)]) = [i6 (↑v : Int)] ∧ True ∧ True) ∧ (ints (l2 ++ [(↑v : Int)]) = ints l2 ++ [i6 (↑v : Int)] ∧ HfL (ints (l2 ++ [(↑v : Int)]))) ∧ True) = _) ?_
            (repeat' (first | (with_reducible apply And.intro) | (refine fun (_ : True) => ?_)))
            all_goals first | (with_reducible exact hsa) | (with_reducible exact hsb) | (with_reducible exact hsc) | (with_reducible exact haa) | (with_reducible exact hab) | (with_reducible exact hac) | exact aq | exact a1 | exact a2 | (rw [ints_length]; omega) | rfl | skip
          · skip
            have z2 : l2 = [] := List.eq_nil_of_length_eq_zero n2
            refine .inl ⟨(v + 1, q1 + 1 + 1, l1 ++ [(v : Int)], 1, l2 ++ [(v : Int)]), [0, 1, 2, 3, 4, 7, 9], [yes 72, va 77 (b8 (wa / 2 ^ v)), va 78 (b8 0), va 84 (b8 (wb / 2 ^ v)), va 85 (b8 1), yes 105, ap 110, va 114 (b8 (wb / 2 ^ v)), va 115 (b8 1), yes 120, nu 126 (v + 1 : Nat)], 1000, ⟨by dsimp only; omega, e1.symm, e2.symm, e3.symm, e4.symm⟩, by dsimp only; omega, ?_⟩
            subst z2
            clear e1 e2 e3 e4
            refine Eq.mp (by kernel_rfl : (decide ((↑v : Int) < (5 : Int)) = true ∧ binV (ctxOf Try.prog) BinOp.shr 5 (b8 wa) (i6 (↑v : Int)) = some (b8 (wa / 2 ^ v)) ∧ binV (ctxOf Try.prog) BinOp.and 5 (b8 (wa / 2 ^ v)) (V.int IntKind.u8 (1 : Int)) = some (b8 0) ∧ binV (ctxOf Try.prog) BinOp.shr 5 (b8 wb) (i6 (↑v : Int)) = some (b8 (wb / 2 ^ v)) ∧ binV (ctxOf Try.prog) BinOp.and 5 (b8 (wb / 2 ^ v)) (V.int IntKind.u8 (1 : Int)) = some (b8 1) ∧ ((↑v : Int) != (↑out : Int)) = true ∧ List.length (ints l1) = (q1 + 1) * 1 ∧ q1 + 1 + 1 ≤ 9223372036854775807 ∧ (q1 + 1 + 1) * 8 ≤ 140737488355328 ∧ binV (ctxOf Try.prog) BinOp.shr 5 (b8 wb) (i6 (↑v : Int)) = some (b8 (wb / 2 ^ v)) ∧ binV (ctxOf Try.prog) BinOp.and 5 (b8 (wb / 2 ^ v)) (V.int IntKind.u8 (1 : Int)) = some (b8 1) ∧ ((↑v : Int) != (↑out : Int)) = true ∧ wr IntKind.i64 ((↑v : Int) + (1 : Int)) = (↑(v + 1) : Int) ∧ (0 = 0 ∧ 0 = 0 ∧ 0 = 0 ∧ kd = kd ∧ (↑out : Int) = (↑out : Int) ∧ 0 = 0 ∧ 0 = 0 ∧ (3 = 3 ∧ c3 = c3) ∧ ((2 = 2 ∧ c2 = c2) ∧ (3 = 3 ∧ c3 = c3) ∧ True) ∧ k = k ∧ (0 = 0 ∧ Nat.succ q1 + 1 = q1 + 1 + 1 ∧ True) ∧ (0 = 0 ∧ 0 + 1 = 1 ∧ True) ∧ (↑(v + 1) : Int) = (↑(v + 1) : Int) ∧ True) ∧ (dtL wa La = dtL wa La ∧ True ∧ True ∧ True) ∧ (dtL wb Lb = dtL wb Lb ∧ True ∧ True ∧ True) ∧ (dtL wc Lc = dtL wc Lc ∧ True ∧ True ∧ True) ∧ (X = X ∧ HfL X) ∧ (Y = Y ∧ HfL Y) ∧ (ints (l1 ++ [(↑v : Int)]) = ints l1 ++ [i6 (↑v : Int)] ∧ HfL (ints (l1 ++ [(↑v : Int)]))) ∧ (ints ([] ++ [(↑v : Int)]) = [i6 (↑v : Int)] ∧ True ∧ True) ∧ True) = _) ?_
            (repeat' (first | (with_reducible apply And.intro) | (refine fun (_ : True) => ?_)))
            all_goals first | (with_reducible exact hsa) | (with_reducible exact hsb) | (with_reducible exact hsc) | (with_reducible exact haa) | (with_reducible exact hab) | (with_reducible exact hac) | exact aq | exact a1 | exact a2 | (rw [ints_length]; omega) | rfl | skip
          · skip
            refine .inl ⟨(v + 1, q1 + 1 + 1, l1 ++ [(v : Int)], q2 + 1 + 1, l2 ++ [(v : Int)]), [0, 1, 2, 3, 4, 8, 10], [yes 72, va 77 (b8 (wa / 2 ^ v)), va 78 (b8 0), va 84 (b8 (wb / 2 ^ v)), va 85 (b8 1), yes 105, ap 110, va 114 (b8 (wb / 2 ^ v)), va 115 (b8 1), yes 120, ap 125, nu 126 (v + 1 : Nat)], 1000, ⟨by dsimp only; omega, e1.symm, e2.symm, e3.symm, e4.symm⟩, by dsimp only; omega, ?_⟩
            clear e1 e2 e3 e4
            refine Eq.mp (by kernel_rfl : (decide ((↑v : Int) < (5 : Int)) = true ∧ binV (ctxOf Try.prog) BinOp.shr 5 (b8 wa) (i6 (↑v : Int)) = some (b8 (wa / 2 ^ v)) ∧ binV (ctxOf Try.prog) BinOp.and 5 (b8 (wa / 2 ^ v)) (V.int IntKind.u8 (1 : Int)) = some (b8 0) ∧ binV (ctxOf Try.prog) BinOp.shr 5 (b8 wb) (i6 (↑v : Int)) = some (b8 (wb / 2 ^ v)) ∧ binV (ctxOf Try.prog) BinOp.and 5 (b8 (wb / 2 ^ v)) (V.int IntKind.u8 (1 : Int)) = some (b8 1) ∧ ((↑v : Int) != (↑out : Int)) = true ∧ List.length (ints l1) = (q1 + 1) * 1 ∧ q1 + 1 + 1 ≤ 9223372036854775807 ∧ (q1 + 1 + 1) * 8 ≤ 140737488355328 ∧ binV (ctxOf Try.prog) BinOp.shr 5 (b8 wb) (i6 (↑v : Int)) = some (b8 (wb / 2 ^ v)) ∧ binV (ctxOf Try.prog) BinOp.and 5 (b8 (wb / 2 ^ v)) (V.int IntKind.u8 (1 : Int)) = some (b8 1) ∧ ((↑v : Int) != (↑out : Int)) = true ∧ List.length (ints l2) = (q2 + 1) * 1 ∧ q2 + 1 + 1 ≤ 9223372036854775807 ∧ (q2 + 1 + 1) * 8 ≤ 140737488355328 ∧ wr IntKind.i64 ((↑v : Int) + (1 : Int)) = (↑(v + 1) : Int) ∧ (0 = 0 ∧ 0 = 0 ∧ 0 = 0 ∧ kd = kd ∧ (↑out : Int) = (↑out : Int) ∧ 0 = 0 ∧ 0 = 0 ∧ (3 = 3 ∧ c3 = c3) ∧ ((2 = 2 ∧ c2 = c2) ∧ (3 = 3 ∧ c3 = c3) ∧ True) ∧ k = k ∧ (0 = 0 ∧ Nat.succ q1 + 1 = q1 + 1 + 1 ∧ True) ∧ (0 = 0 ∧ Nat.succ q2 + 1 = q2 + 1 + 1 ∧ True) ∧ (↑(v + 1) : Int) = (↑(v + 1) : Int) ∧ True) ∧ (dtL wa La = dtL wa La ∧ True ∧ True ∧ True) ∧ (dtL wb Lb = dtL wb Lb ∧ True ∧ True ∧ True) ∧ (dtL wc Lc = dtL wc Lc ∧ True ∧ True ∧ True) ∧ (X = X ∧ HfL X) ∧ (Y = Y ∧ HfL Y) ∧ (ints (l1 ++ [(↑v : Int)]) = ints l1 ++ [i6 (↑v : Int)] ∧ HfL (ints (l1 ++ [(↑v : Int)]))) ∧ (ints (l2 ++ [(↑v : Int)]) = ints l2 ++ [i6 (↑v : Int)] ∧ HfL (ints (l2 ++ [(↑v : Int)]))) ∧ True) = _) ?_
            (repeat' (first | (with_reducible apply And.intro) | (refine fun (_ : True) => ?_)))
            all_goals first | (with_reducible exact hsa) | (with_reducible exact hsb) | (with_reducible exact hsc) | (with_reducible exact haa) | (with_reducible exact hab) | (with_reducible exact hac) | exact aq | exact a1 | exact a2 | (rw [ints_length]; omega) | rfl | skip
      · have hvo : v ≠ out := fun e => hb (e ▸ hbo)
        rw [show wb / 2 ^ v % 2 = 0 by omega] at hab
        by_cases hc : wc / 2 ^ v % 2 = 1
        · rw [hc] at hac
          have e1 : dQ K (v + 1) = q1 + 1 := by rw [dQ, if_pos (by rw [kv]; simp [*]), hq1]
          have e2 : dV K (v + 1) = l1 ++ [(v : Int)] := by rw [dV, if_pos (by rw [kv]; simp [*]), hl1]
          have e3 : dQ L (v + 1) = q2 := by rw [dQ, if_neg (by rw [lv]; simp [*]), hq2]
          have e4 : dV L (v + 1) = l2 := by rw [dV, if_neg (by rw [lv]; simp [*]), hl2]
          clear kv lv hq1 hl1 hq2 hl2
          rcases q1 with _ | q1 <;> rcases q2 with _ | q2
          · have z1 : l1 = [] := List.eq_nil_of_length_eq_zero n1
            have z2 : l2 = [] := List.eq_nil_of_length_eq_zero n2
            refine .inl ⟨(v + 1, 1, l1 ++ [(v : Int)], 0, l2), [0, 1, 2, 3, 4, 6], [yes 72, va 77 (b8 (wa / 2 ^ v)), va 78 (b8 0), va 84 (b8 (wb / 2 ^ v)), va 85 (b8 0), va 96 (b8 (wc / 2 ^ v)), va 97 (b8 1), yes 105, va 114 (b8 (wb / 2 ^ v)), va 115 (b8 0), nu 126 (v + 1 : Nat)], 1000, ⟨by dsimp only; omega, e1.symm, e2.symm, e3.symm, e4.symm⟩, by dsimp only; omega, ?_⟩
            subst z1
            subst z2
            clear e1 e2 e3 e4
            refine Eq.mp (by kernel_rfl : (decide ((↑v : Int) < (5 : Int)) = true ∧ binV (ctxOf Try.prog) BinOp.shr 5 (b8 wa) (i6 (↑v : Int)) = some (b8 (wa / 2 ^ v)) ∧ binV (ctxOf Try.prog) BinOp.and 5 (b8 (wa / 2 ^ v)) (V.int IntKind.u8 (1 : Int)) = some (b8 0) ∧ binV (ctxOf Try.prog) BinOp.shr 5 (b8 wb) (i6 (↑v : Int)) = some (b8 (wb / 2 ^ v)) ∧ binV (ctxOf Try.prog) BinOp.and 5 (b8 (wb / 2 ^ v)) (V.int IntKind.u8 (1 : Int)) = some (b8 0) ∧ binV (ctxOf Try.prog) BinOp.shr 5 (b8 wc) (i6 (↑v : Int)) = some (b8 (wc / 2 ^ v)) ∧ binV (ctxOf Try.prog) BinOp.and 5 (b8 (wc / 2 ^ v)) (V.int IntKind.u8 (1 : Int)) = some (b8 1) ∧ ((↑v : Int) != (↑out : Int)) = true ∧ binV (ctxOf Try.prog) BinOp.shr 5 (b8 wb) (i6 (↑v : Int)) = some (b8 (wb / 2 ^ v)) ∧ binV (ctxOf Try.prog) BinOp.and 5 (b8 (wb / 2 ^ v)) (V.int IntKind.u8 (1 : Int)) = some (b8 0) ∧ wr IntKind.i64 ((↑v : Int) + (1 : Int)) = (↑(v + 1) : Int) ∧ (0 = 0 ∧ 0 = 0 ∧ 0 = 0 ∧ kd = kd ∧ (↑out : Int) = (↑out : Int) ∧ 0 = 0 ∧ 0 = 0 ∧ (3 = 3 ∧ c3 = c3) ∧ ((2 = 2 ∧ c2 = c2) ∧ (3 = 3 ∧ c3 = c3) ∧ True) ∧ k = k ∧ (0 = 0 ∧ 0 + 1 = 1 ∧ True) ∧ True ∧ (↑(v + 1) : Int) = (↑(v + 1) : Int) ∧ True) ∧ (dtL wa La = dtL wa La ∧ True ∧ True ∧ True) ∧ (dtL wb Lb = dtL wb Lb ∧ True ∧ True ∧ True) ∧ (dtL wc Lc = dtL wc Lc ∧ True ∧ True ∧ True) ∧ (X = X ∧ HfL X) ∧ (Y = Y ∧ HfL Y) ∧ (ints ([] ++ [(↑v : Int)]) = [i6 (↑v : Int)] ∧ True ∧ True) ∧ True) = _) ?_
            (repeat' (first | (with_reducible apply And.intro) | (refine fun (_ : True) => ?_)))
            all_goals first | (with_reducible exact hsa) | (with_reducible exact hsb) | (with_reducible exact hsc) | (with_reducible exact haa) | (with_reducible exact hab) | (with_reducible exact hac) | exact aq | exact a1 | exact a2 | (rw [ints_length]; omega) | rfl | skip
          · have z1 : l1 = [] := List.eq_nil_of_length_eq_zero n1
            refine .inl ⟨(v + 1, 1, l1 ++ [(v : Int)], q2 + 1, l2), [0, 1, 2, 3, 4, 7, 5], [yes 72, va 77 (b8 (wa / 2 ^ v)), va 78 (b8 0), va 84 (b8 (wb / 2 ^ v)), va 85 (b8 0), va 96 (b8 (wc / 2 ^ v)), va 97 (b8 1), yes 105, va 114 (b8 (wb / 2 ^ v)), va 115 (b8 0), nu 126 (v + 1 : Nat)], 1000, ⟨by dsimp only; omega, e1.symm, e2.symm, e3.symm, e4.symm⟩, by dsimp only; omega, ?_⟩
            subst z1
            clear e1 e2 e3 e4
            refine Eq.mp (by kernel_rfl : (decide ((↑v : Int) < (5 : Int)) = true ∧ binV (ctxOf Try.prog) BinOp.shr 5 (b8 wa) (i6 (↑v : Int)) = some (b8 (wa / 2 ^ v)) ∧ binV (ctxOf Try.prog) BinOp.and 5 (b8 (wa / 2 ^ v)) (V.int IntKind.u8 (1 : Int)) = some (b8 0) ∧ binV (ctxOf Try.prog) BinOp.shr 5 (b8 wb) (i6 (↑v : Int)) = some (b8 (wb / 2 ^ v)) ∧ binV (ctxOf Try.prog) BinOp.and 5 (b8 (wb / 2 ^ v)) (V.int IntKind.u8 (1 : Int)) = some (b8 0) ∧ binV (ctxOf Try.prog) BinOp.shr 5 (b8 wc) (i6 (↑v : Int)) = some (b8 (wc / 2 ^ v)) ∧ binV (ctxOf Try.prog) BinOp.and 5 (b8 (wc / 2 ^ v)) (V.int IntKind.u8 (1 : Int)) = some (b8 1) ∧ ((↑v : Int) != (↑out : Int)) = true ∧ binV (ctxOf Try.prog) BinOp.shr 5 (b8 wb) (i6 (↑v : Int)) = some (b8 (wb / 2 ^ v)) ∧ binV (ctxOf Try.prog) BinOp.and 5 (b8 (wb / 2 ^ v)) (V.int IntKind.u8 (1 : Int)) = some (b8 0) ∧ wr IntKind.i64 ((↑v : Int) + (1 : Int)) = (↑(v + 1) : Int) ∧ (0 = 0 ∧ 0 = 0 ∧ 0 = 0 ∧ kd = kd ∧ (↑out : Int) = (↑out : Int) ∧ 0 = 0 ∧ 0 = 0 ∧ (3 = 3 ∧ c3 = c3) ∧ ((2 = 2 ∧ c2 = c2) ∧ (3 = 3 ∧ c3 = c3) ∧ True) ∧ k = k ∧ (0 = 0 ∧ 0 + 1 = 1 ∧ True) ∧ (0 = 0 ∧ q2 + 1 = q2 + 1 ∧ True) ∧ (↑(v + 1) : Int) = (↑(v + 1) : Int) ∧ True) ∧ (dtL wa La = dtL wa La ∧ True ∧ True ∧ True) ∧ (dtL wb Lb = dtL wb Lb ∧ True ∧ True ∧ True) ∧ (dtL wc Lc = dtL wc Lc ∧ True ∧ True ∧ True) ∧ (X = X ∧ HfL X) ∧ (Y = Y ∧ HfL Y) ∧ (ints ([] ++ [(↑v : Int)]) = [i6 (↑v : Int)] ∧ True ∧ True) ∧ (ints l2 = ints l2 ∧ HfL (ints l2)) ∧ True) = _) ?_
            (repeat' (first | (with_reducible apply And.intro) | (refine fun (_ : True) => ?_)))
            all_goals first | (with_reducible exact hsa) | (with_reducible exact hsb) | (with_reducible exact hsc) | (with_reducible exact haa) | (with_reducible exact hab) | (with_reducible exact hac) | exact aq | exact a1 | exact a2 | (rw [ints_length]; omega) | rfl | skip
          · skip
            have z2 : l2 = [] := List.eq_nil_of_length_eq_zero n2
            refine .inl ⟨(v + 1, q1 + 1 + 1, l1 ++ [(v : Int)], 0, l2), [0, 1, 2, 3, 4, 7], [yes 72, va 77 (b8 (wa / 2 ^ v)), va 78 (b8 0), va 84 (b8 (wb / 2 ^ v)), va 85 (b8 0), va 96 (b8 (wc / 2 ^ v)), va 97 (b8 1), yes 105, ap 110, va 114 (b8 (wb / 2 ^ v)), va 115 (b8 0), nu 126 (v + 1 : Nat)], 1000, ⟨by dsimp only; omega, e1.symm, e2.symm, e3.symm, e4.symm⟩, by dsimp only; omega, ?_⟩
            subst z2
            clear e1 e2 e3 e4
            refine Eq.mp (by kernel_rfl : (decide ((↑v : Int) < (5 : Int)) = true ∧ binV (ctxOf Try.prog) BinOp.shr 5 (b8 wa) (i6 (↑v : Int)) = some (b8 (wa / 2 ^ v)) ∧ binV (ctxOf Try.prog) BinOp.and 5 (b8 (wa / 2 ^ v)) (V.int IntKind.u8 (1 : Int)) = some (b8 0) ∧ binV (ctxOf Try.prog) BinOp.shr 5 (b8 wb) (i6 (↑v : Int)) = some (b8 (wb / 2 ^ v)) ∧ binV (ctxOf Try.prog) BinOp.and 5 (b8 (wb / 2 ^ v)) (V.int IntKind.u8 (1 : Int)) = some (b8 0) ∧ binV (ctxOf Try.prog) BinOp.shr 5 (b8 wc) (i6 (↑v : Int)) = some (b8 (wc / 2 ^ v)) ∧ binV (ctxOf Try.prog) BinOp.and 5 (b8 (wc / 2 ^ v)) (V.int IntKind.u8 (1 : Int)) = some (b8 1) ∧ ((↑v : Int) != (↑out : Int)) = true ∧ List.length (ints l1) = (q1 + 1) * 1 ∧ q1 + 1 + 1 ≤ 9223372036854775807 ∧ (q1 + 1 + 1) * 8 ≤ 140737488355328 ∧ binV (ctxOf Try.prog) BinOp.shr 5 (b8 wb) (i6 (↑v : Int)) = some (b8 (wb / 2 ^ v)) ∧ binV (ctxOf Try.prog) BinOp.and 5 (b8 (wb / 2 ^ v)) (V.int IntKind.u8 (1 : Int)) = some (b8 0) ∧ wr IntKind.i64 ((↑v : Int) + (1 : Int)) = (↑(v + 1) : Int) ∧ (0 = 0 ∧ 0 = 0 ∧ 0 = 0 ∧ kd = kd ∧ (↑out : Int) = (↑out : Int) ∧ 0 = 0 ∧ 0 = 0 ∧ (3 = 3 ∧ c3 = c3) ∧ ((2 = 2 ∧ c2 = c2) ∧ (3 = 3 ∧ c3 = c3) ∧ True) ∧ k = k ∧ (0 = 0 ∧ Nat.succ q1 + 1 = q1 + 1 + 1 ∧ True) ∧ True ∧ (↑(v + 1) : Int) = (↑(v + 1) : Int) ∧ True) ∧ (dtL wa La = dtL wa La ∧ True ∧ True ∧ True) ∧ (dtL wb Lb = dtL wb Lb ∧ True ∧ True ∧ True) ∧ (dtL wc Lc = dtL wc Lc ∧ True ∧ True ∧ True) ∧ (X = X ∧ HfL X) ∧ (Y = Y ∧ HfL Y) ∧ (ints (l1 ++ [(↑v : Int)]) = ints l1 ++ [i6 (↑v : Int)] ∧ HfL (ints (l1 ++ [(↑v : Int)]))) ∧ True) = _) ?_
            (repeat' (first | (with_reducible apply And.intro) | (refine fun (_ : True) => ?_)))
            all_goals first | (with_reducible exact hsa) | (with_reducible exact hsb) | (with_reducible exact hsc) | (with_reducible exact haa) | (with_reducible exact hab) | (with_reducible exact hac) | exact aq | exact a1 | exact a2 | (rw [ints_length]; omega) | rfl | skip
          · skip
            refine .inl ⟨(v + 1, q1 + 1 + 1, l1 ++ [(v : Int)], q2 + 1, l2), [0, 1, 2, 3, 4, 8, 6], [yes 72, va 77 (b8 (wa / 2 ^ v)), va 78 (b8 0), va 84 (b8 (wb / 2 ^ v)), va 85 (b8 0), va 96 (b8 (wc / 2 ^ v)), va 97 (b8 1), yes 105, ap 110, va 114 (b8 (wb / 2 ^ v)), va 115 (b8 0), nu 126 (v + 1 : Nat)], 1000, ⟨by dsimp only; omega, e1.symm, e2.symm, e3.symm, e4.symm⟩, by dsimp only; omega, ?_⟩
            clear e1 e2 e3 e4
            refine Eq.mp (by kernel_rfl : (decide ((↑v : Int) < (5 : Int)) = true ∧ binV (ctxOf Try.prog) BinOp.shr 5 (b8 wa) (i6 (↑v : Int)) = some (b8 (wa / 2 ^ v)) ∧ binV (ctxOf Try.prog) BinOp.and 5 (b8 (wa / 2 ^ v)) (V.int IntKind.u8 (1 : Int)) = some (b8 0) ∧ binV (ctxOf Try.prog) BinOp.shr 5 (b8 wb) (i6 (↑v : Int)) = some (b8 (wb / 2 ^ v)) ∧ binV (ctxOf Try.prog) BinOp.and 5 (b8 (wb / 2 ^ v)) (V.int IntKind.u8 (1 : Int)) = some (b8 0) ∧ binV (ctxOf Try.prog) BinOp.shr 5 (b8 wc) (i6 (↑v : Int)) = some (b8 (wc / 2 ^ v)) ∧ binV (ctxOf Try.prog) BinOp.and 5 (b8 (wc / 2 ^ v)) (V.int IntKind.u8 (1 : Int)) = some (b8 1) ∧ ((↑v : Int) != (↑out : Int)) = true ∧ List.length (ints l1) = (q1 + 1) * 1 ∧ q1 + 1 + 1 ≤ 9223372036854775807 ∧ (q1 + 1 + 1) * 8 ≤ 140737488355328 ∧ binV (ctxOf Try.prog) BinOp.shr 5 (b8 wb) (i6 (↑v : Int)) = some (b8 (wb / 2 ^ v)) ∧ binV (ctxOf Try.prog) BinOp.and 5 (b8 (wb / 2 ^ v)) (V.int IntKind.u8 (1 : Int)) = some (b8 0) ∧ wr IntKind.i64 ((↑v : Int) + (1 : Int)) = (↑(v + 1) : Int) ∧ (0 = 0 ∧ 0 = 0 ∧ 0 = 0 ∧ kd = kd ∧ (↑out : Int) = (↑out : Int) ∧ 0 = 0 ∧ 0 = 0 ∧ (3 = 3 ∧ c3 = c3) ∧ ((2 = 2 ∧ c2 = c2) ∧ (3 = 3 ∧ c3 = c3) ∧ True) ∧ k = k ∧ (0 = 0 ∧ Nat.succ q1 + 1 = q1 + 1 + 1 ∧ True) ∧ (0 = 0 ∧ q2 + 1 = q2 + 1 ∧ True) ∧ (↑(v + 1) : Int) = (↑(v + 1) : Int) ∧ True) ∧ (dtL wa La = dtL wa La ∧ True ∧ True ∧ True) ∧ (dtL wb Lb = dtL wb Lb ∧ True ∧ True ∧ True) ∧ (dtL wc Lc = dtL wc Lc ∧ True ∧ True ∧ True) ∧ (X = X ∧ HfL X) ∧ (Y = Y ∧ HfL Y) ∧ (ints (l1 ++ [(↑v : Int)]) = ints l1 ++ [i6 (↑v : Int)] ∧ HfL (ints (l1 ++ [(↑v : Int)]))) ∧ (ints l2 = ints l2 ∧ HfL (ints l2)) ∧ True) = _) ?_
            (repeat' (first | (with_reducible apply And.intro) | (refine fun (_ : True) => ?_)))
            all_goals first | (with_reducible exact hsa) | (with_reducible exact hsb) | (with_reducible exact hsc) | (with_reducible exact haa) | (with_reducible exact hab) | (with_reducible exact hac) | exact aq | exact a1 | exact a2 | (rw [ints_length]; omega) | rfl | skip
        · rw [show wc / 2 ^ v % 2 = 0 by omega] at hac
          have e1 : dQ K (v + 1) = q1 := by rw [dQ, if_neg (by rw [kv]; simp [*]), hq1]
          have e2 : dV K (v + 1) = l1 := by rw [dV, if_neg (by rw [kv]; simp [*]), hl1]
          have e3 : dQ L (v + 1) = q2 := by rw [dQ, if_neg (by rw [lv]; simp [*]), hq2]
          have e4 : dV L (v + 1) = l2 := by rw [dV, if_neg (by rw [lv]; simp [*]), hl2]
          clear kv lv hq1 hl1 hq2 hl2
          rcases q1 with _ | q1 <;> rcases q2 with _ | q2
          · have z1 : l1 = [] := List.eq_nil_of_length_eq_zero n1
            have z2 : l2 = [] := List.eq_nil_of_length_eq_zero n2
            refine .inl ⟨(v + 1, 0, l1, 0, l2), [0, 1, 2, 3, 4], [yes 72, va 77 (b8 (wa / 2 ^ v)), va 78 (b8 0), va 84 (b8 (wb / 2 ^ v)), va 85 (b8 0), va 96 (b8 (wc / 2 ^ v)), va 97 (b8 0), va 114 (b8 (wb / 2 ^ v)), va 115 (b8 0), nu 126 (v + 1 : Nat)], 1000, ⟨by dsimp only; omega, e1.symm, e2.symm, e3.symm, e4.symm⟩, by dsimp only; omega, ?_⟩
            subst z1
            subst z2
            clear e1 e2 e3 e4
            refine Eq.mp (by kernel_rfl : (decide ((↑v : Int) < (5 : Int)) = true ∧ binV (ctxOf Try.prog) BinOp.shr 5 (b8 wa) (i6 (↑v : Int)) = some (b8 (wa / 2 ^ v)) ∧ binV (ctxOf Try.prog) BinOp.and 5 (b8 (wa / 2 ^ v)) (V.int IntKind.u8 (1 : Int)) = some (b8 0) ∧ binV (ctxOf Try.prog) BinOp.shr 5 (b8 wb) (i6 (↑v : Int)) = some (b8 (wb / 2 ^ v)) ∧ binV (ctxOf Try.prog) BinOp.and 5 (b8 (wb / 2 ^ v)) (V.int IntKind.u8 (1 : Int)) = some (b8 0) ∧ binV (ctxOf Try.prog) BinOp.shr 5 (b8 wc) (i6 (↑v : Int)) = some (b8 (wc / 2 ^ v)) ∧ binV (ctxOf Try.prog) BinOp.and 5 (b8 (wc / 2 ^ v)) (V.int IntKind.u8 (1 : Int)) = some (b8 0) ∧ binV (ctxOf Try.prog) BinOp.shr 5 (b8 wb) (i6 (↑v : Int)) = some (b8 (wb / 2 ^ v)) ∧ binV (ctxOf Try.prog) BinOp.and 5 (b8 (wb / 2 ^ v)) (V.int IntKind.u8 (1 : Int)) = some (b8 0) ∧ wr IntKind.i64 ((↑v : Int) + (1 : Int)) = (↑(v + 1) : Int) ∧ (0 = 0 ∧ 0 = 0 ∧ 0 = 0 ∧ kd = kd ∧ (↑out : Int) = (↑out : Int) ∧ 0 = 0 ∧ 0 = 0 ∧ (3 = 3 ∧ c3 = c3) ∧ ((2 = 2 ∧ c2 = c2) ∧ (3 = 3 ∧ c3 = c3) ∧ True) ∧ k = k ∧ True ∧ True ∧ (↑(v + 1) : Int) = (↑(v + 1) : Int) ∧ True) ∧ (dtL wa La = dtL wa La ∧ True ∧ True ∧ True) ∧ (dtL wb Lb = dtL wb Lb ∧ True ∧ True ∧ True) ∧ (dtL wc Lc = dtL wc Lc ∧ True ∧ True ∧ True) ∧ (X = X ∧ HfL X) ∧ (Y = Y ∧ HfL Y) ∧ True) = _) ?_
            (repeat' (first | (with_reducible apply And.intro) | (refine fun (_ : True) => ?_)))
            all_goals first | (with_reducible exact hsa) | (with_reducible exact hsb) | (with_reducible exact hsc) | (with_reducible exact haa) | (with_reducible exact hab) | (with_reducible exact hac) | exact aq | exact a1 | exact a2 | (rw [ints_length]; omega) | rfl | skip
          · have z1 : l1 = [] := List.eq_nil_of_length_eq_zero n1
            refine .inl ⟨(v + 1, 0, l1, q2 + 1, l2), [0, 1, 2, 3, 4, 5], [yes 72, va 77 (b8 (wa / 2 ^ v)), va 78 (b8 0), va 84 (b8 (wb / 2 ^ v)), va 85 (b8 0), va 96 (b8 (wc / 2 ^ v)), va 97 (b8 0), va 114 (b8 (wb / 2 ^ v)), va 115 (b8 0), nu 126 (v + 1 : Nat)], 1000, ⟨by dsimp only; omega, e1.symm, e2.symm, e3.symm, e4.symm⟩, by dsimp only; omega, ?_⟩
            subst z1
            clear e1 e2 e3 e4
            refine Eq.mp (by kernel_rfl : (decide ((↑v : Int) < (5 : Int)) = true ∧ binV (ctxOf Try.prog) BinOp.shr 5 (b8 wa) (i6 (↑v : Int)) = some (b8 (wa / 2 ^ v)) ∧ binV (ctxOf Try.prog) BinOp.and 5 (b8 (wa / 2 ^ v)) (V.int IntKind.u8 (1 : Int)) = some (b8 0) ∧ binV (ctxOf Try.prog) BinOp.shr 5 (b8 wb) (i6 (↑v : Int)) = some (b8 (wb / 2 ^ v)) ∧ binV (ctxOf Try.prog) BinOp.and 5 (b8 (wb / 2 ^ v)) (V.int IntKind.u8 (1 : Int)) = some (b8 0) ∧ binV (ctxOf Try.prog) BinOp.shr 5 (b8 wc) (i6 (↑v : Int)) = some (b8 (wc / 2 ^ v)) ∧ binV (ctxOf Try.prog) BinOp.and 5 (b8 (wc / 2 ^ v)) (V.int IntKind.u8 (1 : Int)) = some (b8 0) ∧ binV (ctxOf Try.prog) BinOp.shr 5 (b8 wb) (i6 (↑v : Int)) = some (b8 (wb / 2 ^ v)) ∧ binV (ctxOf Try.prog) BinOp.and 5 (b8 (wb / 2 ^ v)) (V.int IntKind.u8 (1 : Int)) = some (b8 0) ∧ wr IntKind.i64 ((↑v : Int) + (1 : Int)) = (↑(v + 1) : Int) ∧ (0 = 0 ∧ 0 = 0 ∧ 0 = 0 ∧ kd = kd ∧ (↑out : Int) = (↑out : Int) ∧ 0 = 0 ∧ 0 = 0 ∧ (3 = 3 ∧ c3 = c3) ∧ ((2 = 2 ∧ c2 = c2) ∧ (3 = 3 ∧ c3 = c3) ∧ True) ∧ k = k ∧ True ∧ (0 = 0 ∧ q2 + 1 = q2 + 1 ∧ True) ∧ (↑(v + 1) : Int) = (↑(v + 1) : Int) ∧ True) ∧ (dtL wa La = dtL wa La ∧ True ∧ True ∧ True) ∧ (dtL wb Lb = dtL wb Lb ∧ True ∧ True ∧ True) ∧ (dtL wc Lc = dtL wc Lc ∧ True ∧ True ∧ True) ∧ (X = X ∧ HfL X) ∧ (Y = Y ∧ HfL Y) ∧ (ints l2 = ints l2 ∧ HfL (ints l2)) ∧ True) = _) ?_
            (repeat' (first | (with_reducible apply And.intro) | (refine fun (_ : True) => ?_)))
            all_goals first | (with_reducible exact hsa) | (with_reducible exact hsb) | (with_reducible exact hsc) | (with_reducible exact haa) | (with_reducible exact hab) | (with_reducible exact hac) | exact aq | exact a1 | exact a2 | (rw [ints_length]; omega) | rfl | skip
          · skip
            have z2 : l2 = [] := List.eq_nil_of_length_eq_zero n2
            refine .inl ⟨(v + 1, q1 + 1, l1, 0, l2), [0, 1, 2, 3, 4, 5], [yes 72, va 77 (b8 (wa / 2 ^ v)), va 78 (b8 0), va 84 (b8 (wb / 2 ^ v)), va 85 (b8 0), va 96 (b8 (wc / 2 ^ v)), va 97 (b8 0), va 114 (b8 (wb / 2 ^ v)), va 115 (b8 0), nu 126 (v + 1 : Nat)], 1000, ⟨by dsimp only; omega, e1.symm, e2.symm, e3.symm, e4.symm⟩, by dsimp only; omega, ?_⟩
            subst z2
            clear e1 e2 e3 e4
            refine Eq.mp (by kernel_rfl : (decide ((↑v : Int) < (5 : Int)) = true ∧ binV (ctxOf Try.prog) BinOp.shr 5 (b8 wa) (i6 (↑v : Int)) = some (b8 (wa / 2 ^ v)) ∧ binV (ctxOf Try.prog) BinOp.and 5 (b8 (wa / 2 ^ v)) (V.int IntKind.u8 (1 : Int)) = some (b8 0) ∧ binV (ctxOf Try.prog) BinOp.shr 5 (b8 wb) (i6 (↑v : Int)) = some (b8 (wb / 2 ^ v)) ∧ binV (ctxOf Try.prog) BinOp.and 5 (b8 (wb / 2 ^ v)) (V.int IntKind.u8 (1 : Int)) = some (b8 0) ∧ binV (ctxOf Try.prog) BinOp.shr 5 (b8 wc) (i6 (↑v : Int)) = some (b8 (wc / 2 ^ v)) ∧ binV (ctxOf Try.prog) BinOp.and 5 (b8 (wc / 2 ^ v)) (V.int IntKind.u8 (1 : Int)) = some (b8 0) ∧ binV (ctxOf Try.prog) BinOp.shr 5 (b8 wb) (i6 (↑v : Int)) = some (b8 (wb / 2 ^ v)) ∧ binV (ctxOf Try.prog) BinOp.and 5 (b8 (wb / 2 ^ v)) (V.int IntKind.u8 (1 : Int)) = some (b8 0) ∧ wr IntKind.i64 ((↑v : Int) + (1 : Int)) = (↑(v + 1) : Int) ∧ (0 = 0 ∧ 0 = 0 ∧ 0 = 0 ∧ kd = kd ∧ (↑out : Int) = (↑out : Int) ∧ 0 = 0 ∧ 0 = 0 ∧ (3 = 3 ∧ c3 = c3) ∧ ((2 = 2 ∧ c2 = c2) ∧ (3 = 3 ∧ c3 = c3) ∧ True) ∧ k = k ∧ (0 = 0 ∧ q1 + 1 = q1 + 1 ∧ True) ∧ True ∧ (↑(v + 1) : Int) = (↑(v + 1) : Int) ∧ True) ∧ (dtL wa La = dtL wa La ∧ True ∧ True ∧ True) ∧ (dtL wb Lb = dtL wb Lb ∧ True ∧ True ∧ True) ∧ (dtL wc Lc = dtL wc Lc ∧ True ∧ True ∧ True) ∧ (X = X ∧ HfL X) ∧ (Y = Y ∧ HfL Y) ∧ (ints l1 = ints l1 ∧ HfL (ints l1)) ∧ True) = _) ?_
            (repeat' (first | (with_reducible apply And.intro) | (refine fun (_ : True) => ?_)))
            all_goals first | (with_reducible exact hsa) | (with_reducible exact hsb) | (with_reducible exact hsc) | (with_reducible exact haa) | (with_reducible exact hab) | (with_reducible exact hac) | exact aq | exact a1 | exact a2 | (rw [ints_length]; omega) | rfl | skip
          · skip
            refine .inl ⟨(v + 1, q1 + 1, l1, q2 + 1, l2), [0, 1, 2, 3, 4, 5, 6], [yes 72, va 77 (b8 (wa / 2 ^ v)), va 78 (b8 0), va 84 (b8 (wb / 2 ^ v)), va 85 (b8 0), va 96 (b8 (wc / 2 ^ v)), va 97 (b8 0), va 114 (b8 (wb / 2 ^ v)), va 115 (b8 0), nu 126 (v + 1 : Nat)], 1000, ⟨by dsimp only; omega, e1.symm, e2.symm, e3.symm, e4.symm⟩, by dsimp only; omega, ?_⟩
            clear e1 e2 e3 e4
            refine Eq.mp (by kernel_rfl : (decide ((↑v : Int) < (5 : Int)) = true ∧ binV (ctxOf Try.prog) BinOp.shr 5 (b8 wa) (i6 (↑v : Int)) = some (b8 (wa / 2 ^ v)) ∧ binV (ctxOf Try.prog) BinOp.and 5 (b8 (wa / 2 ^ v)) (V.int IntKind.u8 (1 : Int)) = some (b8 0) ∧ binV (ctxOf Try.prog) BinOp.shr 5 (b8 wb) (i6 (↑v : Int)) = some (b8 (wb / 2 ^ v)) ∧ binV (ctxOf Try.prog) BinOp.and 5 (b8 (wb / 2 ^ v)) (V.int IntKind.u8 (1 : Int)) = some (b8 0) ∧ binV (ctxOf Try.prog) BinOp.shr 5 (b8 wc) (i6 (↑v : Int)) = some (b8 (wc / 2 ^ v)) ∧ binV (ctxOf Try.prog) BinOp.and 5 (b8 (wc / 2 ^ v)) (V.int IntKind.u8 (1 : Int)) = some (b8 0) ∧ binV (ctxOf Try.prog) BinOp.shr 5 (b8 wb) (i6 (↑v : Int)) = some (b8 (wb / 2 ^ v)) ∧ binV (ctxOf Try.prog) BinOp.and 5 (b8 (wb / 2 ^ v)) (V.int IntKind.u8 (1 : Int)) = some (b8 0) ∧ wr IntKind.i64 ((↑v : Int) + (1 : Int)) = (↑(v + 1) : Int) ∧ (0 = 0 ∧ 0 = 0 ∧ 0 = 0 ∧ kd = kd ∧ (↑out : Int) = (↑out : Int) ∧ 0 = 0 ∧ 0 = 0 ∧ (3 = 3 ∧ c3 = c3) ∧ ((2 = 2 ∧ c2 = c2) ∧ (3 = 3 ∧ c3 = c3) ∧ True) ∧ k = k ∧ (0 = 0 ∧ q1 + 1 = q1 + 1 ∧ True) ∧ (0 = 0 ∧ q2 + 1 = q2 + 1 ∧ True) ∧ (↑(v + 1) : Int) = (↑(v + 1) : Int) ∧ True) ∧ (dtL wa La = dtL wa La ∧ True ∧ True ∧ True) ∧ (dtL wb Lb = dtL wb Lb ∧ True ∧ True ∧ True) ∧ (dtL wc Lc = dtL wc Lc ∧ True ∧ True ∧ True) ∧ (X = X ∧ HfL X) ∧ (Y = Y ∧ HfL Y) ∧ (ints l1 = ints l1 ∧ HfL (ints l1)) ∧ (ints l2 = ints l2 ∧ HfL (ints l2)) ∧ True) = _) ?_
            (repeat' (first | (with_reducible apply And.intro) | (refine fun (_ : True) => ?_)))
            all_goals first | (with_reducible exact hsa) | (with_reducible exact hsb) | (with_reducible exact hsc) | (with_reducible exact haa) | (with_reducible exact hab) | (with_reducible exact hac) | exact aq | exact a1 | exact a2 | (rw [ints_length]; omega) | rfl | skip
  · have : v = 5 := by omega
    subst this
    rw [← hq1, ← hl1, ← hq2, ← hl2]
    clear hK hL
    rcases q1 with _ | q1 <;> rcases q2 with _ | q2
    · have z1 : l1 = [] := List.eq_nil_of_length_eq_zero n1
      have z2 : l2 = [] := List.eq_nil_of_length_eq_zero n2
      refine .inr ⟨.exit 2, [0, 1, 2, 3, 4], lvX wa wb wc La Lb Lc kd out 3 c3 c2 c3 k X Y 0 l1 0 l2, [], 1000, .inl ⟨trivial, rfl, rfl⟩, ?_⟩
      subst z1
      subst z2
      clear hq1 hl1 hq2 hl2
      refine Eq.mp (by kernel_rfl : ((0 = 0 ∧ 0 = 0 ∧ 0 = 0 ∧ kd = kd ∧ (↑out : Int) = (↑out : Int) ∧ 0 = 0 ∧ 0 = 0 ∧ (3 = 3 ∧ c3 = c3) ∧ ((2 = 2 ∧ c2 = c2) ∧ (3 = 3 ∧ c3 = c3) ∧ True) ∧ k = k ∧ 0 = 0 ∧ 0 = 0 ∧ True) ∧ (dtL wa La = dtL wa La ∧ True ∧ True ∧ True) ∧ (dtL wb Lb = dtL wb Lb ∧ True ∧ True ∧ True) ∧ (dtL wc Lc = dtL wc Lc ∧ True ∧ True ∧ True) ∧ (X = X ∧ HfL X) ∧ (Y = Y ∧ HfL Y) ∧ True) = _) ?_
      (repeat' (first | (with_reducible apply And.intro) | (refine fun (_ : True) => ?_))) <;> first | exact aq | skip
      all_goals first | rfl | skip
    · have z1 : l1 = [] := List.eq_nil_of_length_eq_zero n1
      refine .inr ⟨.exit 2, [0, 1, 2, 3, 4], lvX wa wb wc La Lb Lc kd out 3 c3 c2 c3 k X Y 0 l1 (q2 + 1) l2, [], 1000, .inl ⟨trivial, rfl, rfl⟩, ?_⟩
      subst z1
      clear hq1 hl1 hq2 hl2
      refine Eq.mp (by kernel_rfl : ((0 = 0 ∧ 0 = 0 ∧ 0 = 0 ∧ kd = kd ∧ (↑out : Int) = (↑out : Int) ∧ 0 = 0 ∧ 0 = 0 ∧ (3 = 3 ∧ c3 = c3) ∧ ((2 = 2 ∧ c2 = c2) ∧ (3 = 3 ∧ c3 = c3) ∧ True) ∧ k = k ∧ 0 = 0 ∧ (q2 + 1 = q2 + 1 ∧ ints l2 = ints l2 ∧ HfL (ints l2)) ∧ True) ∧ (dtL wa La = dtL wa La ∧ True ∧ True ∧ True) ∧ (dtL wb Lb = dtL wb Lb ∧ True ∧ True ∧ True) ∧ (dtL wc Lc = dtL wc Lc ∧ True ∧ True ∧ True) ∧ (X = X ∧ HfL X) ∧ (Y = Y ∧ HfL Y) ∧ True) = _) ?_
      (repeat' (first | (with_reducible apply And.intro) | (refine fun (_ : True) => ?_))) <;> first | exact aq | skip
      all_goals first | rfl | skip
    · skip
      have z2 : l2 = [] := List.eq_nil_of_length_eq_zero n2
      refine .inr ⟨.exit 2, [0, 1, 2, 3, 4], lvX wa wb wc La Lb Lc kd out 3 c3 c2 c3 k X Y (q1 + 1) l1 0 l2, [], 1000, .inl ⟨trivial, rfl, rfl⟩, ?_⟩
      subst z2
      clear hq1 hl1 hq2 hl2
      refine Eq.mp (by kernel_rfl : ((0 = 0 ∧ 0 = 0 ∧ 0 = 0 ∧ kd = kd ∧ (↑out : Int) = (↑out : Int) ∧ 0 = 0 ∧ 0 = 0 ∧ (3 = 3 ∧ c3 = c3) ∧ ((2 = 2 ∧ c2 = c2) ∧ (3 = 3 ∧ c3 = c3) ∧ True) ∧ k = k ∧ (q1 + 1 = q1 + 1 ∧ ints l1 = ints l1 ∧ HfL (ints l1)) ∧ 0 = 0 ∧ True) ∧ (dtL wa La = dtL wa La ∧ True ∧ True ∧ True) ∧ (dtL wb Lb = dtL wb Lb ∧ True ∧ True ∧ True) ∧ (dtL wc Lc = dtL wc Lc ∧ True ∧ True ∧ True) ∧ (X = X ∧ HfL X) ∧ (Y = Y ∧ HfL Y) ∧ True) = _) ?_
      (repeat' (first | (with_reducible apply And.intro) | (refine fun (_ : True) => ?_))) <;> first | exact aq | skip
      all_goals first | rfl | skip
    · skip
      refine .inr ⟨.exit 2, [0, 1, 2, 3, 4], lvX wa wb wc La Lb Lc kd out 3 c3 c2 c3 k X Y (q1 + 1) l1 (q2 + 1) l2, [], 1000, .inl ⟨trivial, rfl, rfl⟩, ?_⟩
      clear hq1 hl1 hq2 hl2
      refine Eq.mp (by kernel_rfl : ((0 = 0 ∧ 0 = 0 ∧ 0 = 0 ∧ kd = kd ∧ (↑out : Int) = (↑out : Int) ∧ 0 = 0 ∧ 0 = 0 ∧ (3 = 3 ∧ c3 = c3) ∧ ((2 = 2 ∧ c2 = c2) ∧ (3 = 3 ∧ c3 = c3) ∧ True) ∧ k = k ∧ (q1 + 1 = q1 + 1 ∧ ints l1 = ints l1 ∧ HfL (ints l1)) ∧ (q2 + 1 = q2 + 1 ∧ ints l2 = ints l2 ∧ HfL (ints l2)) ∧ True) ∧ (dtL wa La = dtL wa La ∧ True ∧ True ∧ True) ∧ (dtL wb Lb = dtL wb Lb ∧ True ∧ True ∧ True) ∧ (dtL wc Lc = dtL wc Lc ∧ True ∧ True ∧ True) ∧ (X = X ∧ HfL X) ∧ (Y = Y ∧ HfL Y) ∧ True) = _) ?_
      (repeat' (first | (with_reducible apply And.intro) | (refine fun (_ : True) => ?_))) <;> first | exact aq | skip
      all_goals first | rfl | skip
end Go.Proofs.Ytgdnmgcigkhojaa.Am

namespace Go.Proofs.Ytgdnmgcigkhojaa.Am
open Go.RowKit
set_option linter.unusedVariables false
set_option maxHeartbeats 1000000
set_option maxRecDepth 100000
end Go.Proofs.Ytgdnmgcigkhojaa.Am

namespace Go.Proofs.Ytgdnmgcigkhojaa.Am
open Go.RowKit
set_option linter.unusedVariables false
set_option maxHeartbeats 1000000
set_option maxRecDepth 100000
theorem give_nil {f : Nat} {k : Int} {n h : Nat} {room : Option Nat} {cs : List V} {t : Nat} {sp : Option Nat} {v : V} {H H2 : T O} {nx : Nat} (hf : FnOk Pg g0 f [i6 k, .im n cs, .im 0 []] v) (hv : Hf v) (hc : HfL cs) (ho : gt H h = some (.row t sp cs)) (h2 : H2 = pt H h .dead) : CallSpec Pg g0 (.fn f []) [i6 k, .sl h 0 n room, .nils] H nx ⟨v, H2, nx, [h]⟩ := by
  rw [gt_eq] at ho
  subst h2
  refine frameD [h] hf ⟨_, _, rfl, rfl, _, _, rfl, .inr (.inr ⟨h, 0, room, _, _, _, rfl, List.mem_singleton.2 rfl, ho, ViewP.of_hf _ hc⟩), _, _, rfl, .inr (.inl ⟨rfl, rfl⟩), rfl⟩ hv (fun g hg => ?_) (fun i hi => ?_) (fun i hi => ?_)
  · rw [List.mem_singleton.1 hg]; exact ⟨_, _, _, ho⟩
  · rw [pt_eq, T.get_put, if_neg (fun e => hi (by rw [e]; exact List.mem_singleton.2 rfl))]
  · rw [pt_eq, T.get_put, if_pos (List.mem_singleton.1 hi)]
theorem give_im {f : Nat} {k : Int} {n h : Nat} {room : Option Nat} {cs : List V} {t : Nat} {sp : Option Nat} {v : V} {H H2 : T O} {nx q : Nat} {l : List V} (hf : FnOk Pg g0 f [i6 k, .im n cs, .im q l] v) (hv : Hf v) (hc : HfL cs) (ho : gt H h = some (.row t sp cs)) (h2 : H2 = pt H h .dead) : CallSpec Pg g0 (.fn f []) [i6 k, .sl h 0 n room, .im q l] H nx ⟨v, H2, nx, [h]⟩ := by
  rw [gt_eq] at ho
  subst h2
  refine frameD [h] hf ⟨_, _, rfl, rfl, _, _, rfl, .inr (.inr ⟨h, 0, room, _, _, _, rfl, List.mem_singleton.2 rfl, ho, ViewP.of_hf _ hc⟩), _, _, rfl, .inl rfl, rfl⟩ hv (fun g hg => ?_) (fun i hi => ?_) (fun i hi => ?_)
  · rw [List.mem_singleton.1 hg]; exact ⟨_, _, _, ho⟩
  · rw [pt_eq, T.get_put, if_neg (fun e => hi (by rw [e]; exact List.mem_singleton.2 rfl))]
  · rw [pt_eq, T.get_put, if_pos (List.mem_singleton.1 hi)]
theorem b8_inj {a b : Nat} (h : b8 a = b8 b) : a = b := by injection h with h1 h2; omega
theorem bl8_inj : ∀ {L M : List Nat}, L.map b8 = M.map b8 → L = M
  | [], [], _ => rfl
  | [], _ :: _, h => by cases h
  | _ :: _, [], h => by cases h
  | a :: L, b :: M, h => by
    simp only [List.map_cons, List.cons.injEq] at h
    rw [b8_inj h.1, bl8_inj h.2]
theorem dt_inj {w0 w1 : Nat} {L0 L1 : List Nat} {z : V} (h : [V.agg [b8 w0, bL L0], z] = [V.agg [b8 w1, bL L1], z]) : w0 = w1 ∧ L0 = L1 := by
  have h1 := V.agg.inj (List.cons.inj h).1
  obtain ⟨e1, h2⟩ := List.cons.inj h1
  obtain ⟨e2, _⟩ := List.cons.inj h2
  obtain ⟨_, e3⟩ := V.im.inj e2
  exact ⟨b8_inj e1, bl8_inj e3⟩
theorem elF_con2 {A B C D : Nat → Int} : ∀ {n : Nat}, (∀ i, i < n → A i = C i ∧ B i = D i) → elF A B n = elF C D n
  | 0, _ => rfl
  | n + 1, h => by rw [elF_succ, elF_succ, elF_con2 (fun i hi => h i (by omega)), (h n (by omega)).1, (h n (by omega)).2]
end Go.Proofs.Ytgdnmgcigkhojaa.Am

namespace Go.Proofs.Ytgdnmgcigkhojaa.Am
open Go.RowKit
set_option linter.unusedVariables false
set_option maxHeartbeats 1000000
set_option maxRecDepth 100000
theorem are_fn (q p n : Nat) (l m E : List V) (hl : HfL l) (hm : HfL m) (hE : HfL E) : FnOk Pg g0 25 [.agg [.im q l, .im p m, .im n E]] (.fn 51 [.imp [.im q l, .im p m, .im n E]]) := by
  refine FnOk.of_vc vE_ok mixed sp0_ok (n := 1000) (r := []) (S := { sl := [(2, .fn 51 [.imp [.im q l, .im p m, .im n E]])] }) (hs := []) ?_
  refine Eq.mp (by kernel_rfl : (V.fn 51 [V.imp [V.im q l, V.im p m, V.im n E]] = V.fn 51 [V.imp [V.im q l, V.im p m, V.im n E]] ∧ ((([V.im q l, V.im p m, V.im n E] = [V.im q l, V.im p m, V.im n E] ∧ TT 3) ∧ True) ∧ True) ∧ True) = _) ?_
  (repeat' (first | (with_reducible apply And.intro) | (refine fun (_ : True) => ?_))) <;> first | exact aq | skip
theorem are1_fn (q p n : Nat) (l m E : List V) (hl : HfL l) (hm : HfL m) (hE : HfL E) (hs : FnOk Pg g0 18 [.agg [.im q l, .im p m, .im n E], .agg [.im q l, .im p m, .im n E]] (.bool true)) : FnOk Pg g0 51 [.agg [.im q l, .im p m, .im n E], i6 0, .imp [.im q l, .im p m, .im n E]] (.bool true) := by
  refine FnOk.of_vc vE_ok mixed sp0_ok (n := 1000) (r := []) (S := { sl := [(5, .bool true)] }) (hs := [fn 11 (.bool true)]) ?_
  refine Eq.mp (by kernel_rfl : (V.bool true = V.bool true ∧ ((TT 3) ∧ (TT 3) ∧ True) ∧ FnOk Try.prog g0 18 [V.agg [V.im q l, V.im p m, V.im n E], V.agg [V.im q l, V.im p m, V.im n E]] (V.bool true) ∧ True ∧ (true = true ∧ True) ∧ True) = _) ?_
  (repeat' (first | (with_reducible apply And.intro) | (refine fun (_ : True) => ?_))) <;> first | exact aq | skip
abbrev luS (wa wb wc : Nat) (La Lb Lc : List Nat) (kd : Int) (out : Nat) (c2 c3 : List V) (X Y : List V) (k : Int) : SL := { sl := [(5, .ptr 0 0), (6, .ptr 1 0), (7, .ptr 2 0), (11, i6 kd), (12, i6 out), (13, .ptr 3 0), (14, .ptr 4 0), (67, .agg [.im 2 c2, .im 3 c3]), (68, i6 k)], os := lvO wa wb wc La Lb Lc X Y }
theorem lv_outer (wa wb wc K K3 L : Nat) (La Lb Lc : List Nat) (kd : Int) (out : Nat) (ho : out < 5) (hao : ¬ wa / 2 ^ out % 2 = 1) (hbo : wb / 2 ^ out % 2 = 1)
    (hK : ∀ v, v < 5 → (K / 2 ^ v % 2 = 1 ↔ (wa / 2 ^ v % 2 = 1 ∨ wb / 2 ^ v % 2 = 1) ∧ v ≠ out)) (hK3 : ∀ v, v < 5 → (K3 / 2 ^ v % 2 = 1 ↔ ((wa / 2 ^ v % 2 = 1 ∨ wb / 2 ^ v % 2 = 1) ∨ wc / 2 ^ v % 2 = 1) ∧ v ≠ out)) (hL : ∀ v, v < 5 → (L / 2 ^ v % 2 = 1 ↔ wb / 2 ^ v % 2 = 1 ∧ v ≠ out))
    (x1 x2 x3 y1 y2 y3 z1 z2 z3 : Nat) (a1 a2 a3 b1 b2 b3 d1 d2 d3 : List V)
    (q1 p1 n1 q2 p2 n2 q3 p3 n3 : Nat) (l1 m1 l2 m2 l3 m3 : List Int) (E1 E2 E3 R2 R3 : List V) (hE1 : HfL E1) (hE2 : HfL E2) (hE3 : HfL E3) (hR2 : HfL R2) (hR3 : HfL R3)
    (e1 : q1 = dQ K 5) (e2 : l1 = dV K 5) (e3 : q2 = dQ L 5) (e4 : l2 = dV L 5) (e5 : q3 = dQ K3 5) (e6 : l3 = dV K3 5)
    (f1 : FnOk Pg g0 15 [i6 kd, .im 2 [.im x1 a1, .im x2 a2, .im x3 a3, .im y1 b1, .im y2 b2, .im y3 b3], .im q1 (ints l1)] (.tup [.agg [.im q1 (ints l1), .im p1 (ints m1), .im n1 E1], i6 0]))
    (f2 : FnOk Pg g0 15 [i6 kd, .im 2 [.im y1 b1, .im y2 b2, .im y3 b3, .im x1 a1, .im x2 a2, .im x3 a3], .im 0 []] (.tup [.agg [.im 0 [], .im 0 [], .im 1 R2], i6 0]))
    (f3 : FnOk Pg g0 15 [i6 kd, .im 2 [.im x1 a1, .im x2 a2, .im x3 a3, .im y1 b1, .im y2 b2, .im y3 b3], .im 0 []] (.tup [.agg [.im 0 [], .im 0 [], .im 1 R2], i6 0]))
    (f4 : FnOk Pg g0 15 [i6 kd, .im 1 [.im y1 b1, .im y2 b2, .im y3 b3], .im q2 (ints l2)] (.tup [.agg [.im q2 (ints l2), .im p2 (ints m2), .im n2 E2], i6 0]))
    (f5 : FnOk Pg g0 15 [i6 kd, .im 2 [.im x1 a1, .im x2 a2, .im x3 a3, .im q2 (ints l2), .im p2 (ints m2), .im n2 E2], .im q1 (ints l1)] (.tup [.agg [.im q1 (ints l1), .im p1 (ints m1), .im n1 E1], i6 0]))
    (f6 : FnOk Pg g0 15 [i6 kd, .im 3 [.im x1 a1, .im x2 a2, .im x3 a3, .im y1 b1, .im y2 b2, .im y3 b3, .im z1 d1, .im z2 d2, .im z3 d3], .im q3 (ints l3)] (.tup [.agg [.im q3 (ints l3), .im p3 (ints m3), .im n3 E3], i6 0]))
    (f7 : FnOk Pg g0 15 [i6 kd, .im 2 [.im z1 d1, .im z2 d2, .im z3 d3, .im x1 a1, .im x2 a2, .im x3 a3], .im 0 []] (.tup [.agg [.im 0 [], .im 0 [], .im 1 R3], i6 0]))
    (f8 : FnOk Pg g0 15 [i6 kd, .im 2 [.im x1 a1, .im x2 a2, .im x3 a3, .im z1 d1, .im z2 d2, .im z3 d3], .im 0 []] (.tup [.agg [.im 0 [], .im 0 [], .im 1 R3], i6 0]))
    (s1 : FnOk Pg g0 18 [.agg [.im q1 (ints l1), .im p1 (ints m1), .im n1 E1], .agg [.im q1 (ints l1), .im p1 (ints m1), .im n1 E1]] (.bool true)) (s2 : FnOk Pg g0 18 [.agg [.im 0 [], .im 0 [], .im 1 R2], .agg [.im 0 [], .im 0 [], .im 1 R2]] (.bool true)) (s3 : FnOk Pg g0 18 [.agg [.im 0 [], .im 0 [], .im 1 R3], .agg [.im 0 [], .im 0 [], .im 1 R3]] (.bool true)) :
    Sat Pg none 0 (at' 6 [1, 1, 1, 1, 1, 1, 0, 1, 0]) (mkSt g0 208 (luS wa wb wc La Lb Lc kd out [.im x1 a1, .im x2 a2, .im x3 a3, .im y1 b1, .im y2 b2, .im y3 b3] [.im x1 a1, .im x2 a2, .im x3 a3, .im y1 b1, .im y2 b2, .im y3 b3, .im z1 d1, .im z2 d2, .im z3 d3] [.im x1 a1, .im x2 a2, .im x3 a3] [.im y1 b1, .im y2 b2, .im y3 b3] (0 : Nat))) (outsP g0 208 [(True, .exit 0, { sl := [] })]) := by
  have l2' := fun k => lv_loop2 wa wb wc K L La Lb Lc kd out ho hao hbo hK hL [.im x1 a1, .im x2 a2, .im x3 a3, .im y1 b1, .im y2 b2, .im y3 b3] [.im x1 a1, .im x2 a2, .im x3 a3, .im y1 b1, .im y2 b2, .im y3 b3, .im z1 d1, .im z2 d2, .im z3 d3] ⟨trivial, trivial, trivial, trivial, trivial, trivial, trivial⟩ ⟨trivial, trivial, trivial, trivial, trivial, trivial, trivial, trivial, trivial, trivial⟩ k [.im x1 a1, .im x2 a2, .im x3 a3] [.im y1 b1, .im y2 b2, .im y3 b3] ⟨trivial, trivial, trivial, trivial⟩ ⟨trivial, trivial, trivial, trivial⟩
  have l3' := fun k => lv_loop3 wa wb wc K3 L La Lb Lc kd out ho hao hbo hK3 hL [.im x1 a1, .im x2 a2, .im x3 a3, .im y1 b1, .im y2 b2, .im y3 b3] [.im x1 a1, .im x2 a2, .im x3 a3, .im y1 b1, .im y2 b2, .im y3 b3, .im z1 d1, .im z2 d2, .im z3 d3] ⟨trivial, trivial, trivial, trivial, trivial, trivial, trivial⟩ ⟨trivial, trivial, trivial, trivial, trivial, trivial, trivial, trivial, trivial, trivial⟩ k [.im x1 a1, .im x2 a2, .im x3 a3] [.im y1 b1, .im y2 b2, .im y3 b3] ⟨trivial, trivial, trivial, trivial⟩ ⟨trivial, trivial, trivial, trivial⟩
  rw [← e1, ← e2, ← e3, ← e4] at l2'
  rw [← e5, ← e6, ← e3, ← e4] at l3'
  clear hK hK3 hL e1 e2 e3 e4 e5 e6 hao hbo
  have hB0 := HfL_b8 La
  have hB1 := HfL_b8 Lb
  have hB2 := HfL_b8 Lc
  have hl1 := HfL_ints l1
  have hm1 := HfL_ints m1
  have hl2 := HfL_ints l2
  have hm2 := HfL_ints m2
  have hl3 := HfL_ints l3
  have hm3 := HfL_ints m3
  have ar := are_fn q1 p1 n1 (ints l1) (ints m1) E1 hl1 hm1 hE1
  have ar1 := are1_fn q1 p1 n1 (ints l1) (ints m1) E1 hl1 hm1 hE1 s1
  generalize ints m1 = M1 at *
  generalize ints m2 = M2 at *
  generalize ints m3 = M3 at *
  refine loopC vE_ok mixed sp0_ok (b := at' 6 [1, 1, 1, 1, 1, 1, 0, 1, 0, 0]) (by kernel_rfl) (fun k : Nat => k ≤ 2) (fun k : Nat => luS wa wb wc La Lb Lc kd out [.im x1 a1, .im x2 a2, .im x3 a3, .im y1 b1, .im y2 b2, .im y3 b3] [.im x1 a1, .im x2 a2, .im x3 a3, .im y1 b1, .im y2 b2, .im y3 b3, .im z1 d1, .im z2 d2, .im z3 d3] [.im x1 a1, .im x2 a2, .im x3 a3] [.im y1 b1, .im y2 b2, .im y3 b3] (k : Int)) (fun k => 2 - k) (fun k hk => ?_) 0 (Nat.zero_le _)
  rcases (show k = 0 ∨ k = 1 ∨ k = 2 by omega) with rfl | rfl | rfl
  · refine .inl ⟨1, [0, 1, 2, 3, 4], [(0, .loop [0, 1, 2, 3, 4] (lvS wa wb wc La Lb Lc kd out 2 [.im x1 a1, .im x2 a2, .im x3 a3, .im y1 b1, .im y2 b2, .im y3 b3] [.im x1 a1, .im x2 a2, .im x3 a3, .im y1 b1, .im y2 b2, .im y3 b3] [.im x1 a1, .im x2 a2, .im x3 a3, .im y1 b1, .im y2 b2, .im y3 b3, .im z1 d1, .im z2 d2, .im z3 d3] (0 : Nat) [.im x1 a1, .im x2 a2, .im x3 a3] [.im y1 b1, .im y2 b2, .im y3 b3] (0, 0, [], 0, [])) [(True, .exit 2, lvX wa wb wc La Lb Lc kd out 2 [.im x1 a1, .im x2 a2, .im x3 a3, .im y1 b1, .im y2 b2, .im y3 b3] [.im x1 a1, .im x2 a2, .im x3 a3, .im y1 b1, .im y2 b2, .im y3 b3] [.im x1 a1, .im x2 a2, .im x3 a3, .im y1 b1, .im y2 b2, .im y3 b3, .im z1 d1, .im z2 d2, .im z3 d3] (0 : Nat) [.im x1 a1, .im x2 a2, .im x3 a3] [.im y1 b1, .im y2 b2, .im y3 b3] q1 l1 q2 l2)]), fn 131 (.tup [.agg [.im q1 (ints l1), .im p1 M1, .im n1 E1], i6 0]), (146, .call ⟨.tup [.agg [.im 0 [], .im 0 [], .im 1 R2], i6 0], ofOs .e 0 [.row 39 none (dtL wa La), .row 39 none (dtL wb Lb), .row 39 none (dtL wc Lc), .row 32 none [.im x1 a1, .im x2 a2, .im x3 a3], .row 32 none [.im y1 b1, .im y2 b2, .im y3 b3], .row 32 none [.im q1 (ints l1), .im p1 M1, .im n1 E1], .dead], 7, [6]⟩), (161, .call ⟨.tup [.agg [.im 0 [], .im 0 [], .im 1 R2], i6 0], ofOs .e 0 [.row 39 none (dtL wa La), .row 39 none (dtL wb Lb), .row 39 none (dtL wc Lc), .row 32 none [.im x1 a1, .im x2 a2, .im x3 a3], .row 32 none [.im y1 b1, .im y2 b2, .im y3 b3], .row 32 none [.im q1 (ints l1), .im p1 M1, .im n1 E1], .dead, .row 32 none [.im 0 [], .im 0 [], .im 1 R2], .dead], 9, [8]⟩), fn 177 (.bool true), (188, .call ⟨.tup [.agg [.im q2 (ints l2), .im p2 M2, .im n2 E2], i6 0], ofOs .e 0 [.row 39 none (dtL wa La), .row 39 none (dtL wb Lb), .row 39 none (dtL wc Lc), .row 32 none [.im x1 a1, .im x2 a2, .im x3 a3], .row 32 none [.im y1 b1, .im y2 b2, .im y3 b3], .row 32 none [.im q1 (ints l1), .im p1 M1, .im n1 E1], .dead, .row 32 none [.im 0 [], .im 0 [], .im 1 R2], .dead, .row 32 none [.im 0 [], .im 0 [], .im 1 R2], .dead], 11, [10]⟩), fn 195 (.fn 51 [.imp [.im q1 (ints l1), .im p1 M1, .im n1 E1]]), (201, .call ⟨.tup [.agg [.im q1 (ints l1), .im p1 M1, .im n1 E1], i6 0], ofOs .e 0 [.row 39 none (dtL wa La), .row 39 none (dtL wb Lb), .row 39 none (dtL wc Lc), .row 32 none [.im x1 a1, .im x2 a2, .im x3 a3], .row 32 none [.im y1 b1, .im y2 b2, .im y3 b3], .row 32 none [.im q1 (ints l1), .im p1 M1, .im n1 E1], .dead, .row 32 none [.im 0 [], .im 0 [], .im 1 R2], .dead, .row 32 none [.im 0 [], .im 0 [], .im 1 R2], .dead, .row 32 none [.im q2 (ints l2), .im p2 M2, .im n2 E2], .dead], 13, [12]⟩), fn 204 (.bool true)], 1000, by omega, by omega, ?_⟩
    refine Eq.mp (by kernel_rfl : (((0 = 0 ∧ 0 = 0 ∧ 0 = 0 ∧ kd = kd ∧ (↑out : Int) = (↑out : Int) ∧ 0 = 0 ∧ 0 = 0 ∧ (2 = 2 ∧ [V.im x1 a1, V.im x2 a2, V.im x3 a3, V.im y1 b1, V.im y2 b2, V.im y3 b3] = [V.im x1 a1, V.im x2 a2, V.im x3 a3, V.im y1 b1, V.im y2 b2, V.im y3 b3]) ∧ ((2 = 2 ∧ [V.im x1 a1, V.im x2 a2, V.im x3 a3, V.im y1 b1, V.im y2 b2, V.im y3 b3] = [V.im x1 a1, V.im x2 a2, V.im x3 a3, V.im y1 b1, V.im y2 b2, V.im y3 b3]) ∧ (3 = 3 ∧ [V.im x1 a1, V.im x2 a2, V.im x3 a3, V.im y1 b1, V.im y2 b2, V.im y3 b3, V.im z1 d1, V.im z2 d2, V.im z3 d3] = [V.im x1 a1, V.im x2 a2, V.im x3 a3, V.im y1 b1, V.im y2 b2, V.im y3 b3, V.im z1 d1, V.im z2 d2, V.im z3 d3]) ∧ True) ∧ (↑(0 : Nat) : Int) = (↑(0 : Nat) : Int) ∧ True ∧ True ∧ (↑(0 : Nat) : Int) = (0 : Int) ∧ True) ∧ (dtL wa La = dtL wa La ∧ True ∧ True ∧ True) ∧ (dtL wb Lb = dtL wb Lb ∧ True ∧ True ∧ True) ∧ (dtL wc Lc = dtL wc Lc ∧ True ∧ True ∧ True) ∧ ([V.im x1 a1, V.im x2 a2, V.im x3 a3] = [V.im x1 a1, V.im x2 a2, V.im x3 a3] ∧ TT 3) ∧ ([V.im y1 b1, V.im y2 b2, V.im y3 b3] = [V.im y1 b1, V.im y2 b2, V.im y3 b3] ∧ TT 3) ∧ True) ∧ Sat Try.prog none 0 (at' 6 [1, 1, 1, 1, 1, 1, 0, 1, 0, 0, 1, 1, 0, 0, 1, 1, 0, 1, 0]) (mkSt g0 208 (lvS wa wb wc La Lb Lc kd out 2 [V.im x1 a1, V.im x2 a2, V.im x3 a3, V.im y1 b1, V.im y2 b2, V.im y3 b3] [V.im x1 a1, V.im x2 a2, V.im x3 a3, V.im y1 b1, V.im y2 b2, V.im y3 b3] [V.im x1 a1, V.im x2 a2, V.im x3 a3, V.im y1 b1, V.im y2 b2, V.im y3 b3, V.im z1 d1, V.im z2 d2, V.im z3 d3] (↑(0 : Nat) : Int) [V.im x1 a1, V.im x2 a2, V.im x3 a3] [V.im y1 b1, V.im y2 b2, V.im y3 b3] (0, 0, [], 0, []))) (outsP g0 208 [(True, Ex.exit 2, lvX wa wb wc La Lb Lc kd out 2 [V.im x1 a1, V.im x2 a2, V.im x3 a3, V.im y1 b1, V.im y2 b2, V.im y3 b3] [V.im x1 a1, V.im x2 a2, V.im x3 a3, V.im y1 b1, V.im y2 b2, V.im y3 b3] [V.im x1 a1, V.im x2 a2, V.im x3 a3, V.im y1 b1, V.im y2 b2, V.im y3 b3, V.im z1 d1, V.im z2 d2, V.im z3 d3] (↑(0 : Nat) : Int) [V.im x1 a1, V.im x2 a2, V.im x3 a3] [V.im y1 b1, V.im y2 b2, V.im y3 b3] q1 l1 q2 l2)]) ∧ (True → (TT 3) ∧ FnOk Try.prog g0 15 [i6 kd, V.im 2 [V.im x1 a1, V.im x2 a2, V.im x3 a3, V.im y1 b1, V.im y2 b2, V.im y3 b3], V.im q1 (ints l1)] (V.tup [V.agg [V.im q1 (ints l1), V.im p1 M1, V.im n1 E1], i6 0]) ∧ True ∧ CallSpec Try.prog g0 (V.fn 15 []) [i6 kd, V.sl (5 + 1) 0 2 (some 0), V.nils] (pt (pt (pt (ofOs T.e 0 (lvO wa wb wc La Lb Lc [V.im x1 a1, V.im x2 a2, V.im x3 a3] [V.im y1 b1, V.im y2 b2, V.im y3 b3])) 5 (O.row 32 none [V.nils, V.nils, V.nils])) 5 (O.row 32 none [V.im q1 (ints l1), V.im p1 M1, V.im n1 E1])) (5 + 1) (O.row 32 none [V.im y1 b1, V.im y2 b2, V.im y3 b3, V.im x1 a1, V.im x2 a2, V.im x3 a3])) (5 + 1 + 1) (CR.mk (V.tup [V.agg [V.im 0 [], V.im 0 [], V.im 1 R2], i6 0]) (ofOs T.e 0 [O.row 39 none (dtL wa La), O.row 39 none (dtL wb Lb), O.row 39 none (dtL wc Lc), O.row 32 none [V.im x1 a1, V.im x2 a2, V.im x3 a3], O.row 32 none [V.im y1 b1, V.im y2 b2, V.im y3 b3], O.row 32 none [V.im q1 (ints l1), V.im p1 M1, V.im n1 E1], O.dead]) 7 [6]) ∧ True ∧ CallSpec Try.prog g0 (V.fn 15 []) [i6 kd, V.sl (7 + 1) 0 2 (some 0), V.nils] (pt (pt (pt (ofOs T.e 0 [O.row 39 none (dtL wa La), O.row 39 none (dtL wb Lb), O.row 39 none (dtL wc Lc), O.row 32 none [V.im x1 a1, V.im x2 a2, V.im x3 a3], O.row 32 none [V.im y1 b1, V.im y2 b2, V.im y3 b3], O.row 32 none [V.im q1 (ints l1), V.im p1 M1, V.im n1 E1], O.dead]) 7 (O.row 32 none [V.nils, V.nils, V.nils])) 7 (O.row 32 none [V.im 0 [], V.im 0 [], V.im 1 R2])) (7 + 1) (O.row 32 none [V.im x1 a1, V.im x2 a2, V.im x3 a3, V.im y1 b1, V.im y2 b2, V.im y3 b3])) (7 + 1 + 1) (CR.mk (V.tup [V.agg [V.im 0 [], V.im 0 [], V.im 1 R2], i6 0]) (ofOs T.e 0 [O.row 39 none (dtL wa La), O.row 39 none (dtL wb Lb), O.row 39 none (dtL wc Lc), O.row 32 none [V.im x1 a1, V.im x2 a2, V.im x3 a3], O.row 32 none [V.im y1 b1, V.im y2 b2, V.im y3 b3], O.row 32 none [V.im q1 (ints l1), V.im p1 M1, V.im n1 E1], O.dead, O.row 32 none [V.im 0 [], V.im 0 [], V.im 1 R2], O.dead]) 9 [8]) ∧ True ∧ ((TT 3) ∧ (TT 3) ∧ True) ∧ FnOk Try.prog g0 18 [V.agg [V.im 0 [], V.im 0 [], V.im 1 R2], V.agg [V.im 0 [], V.im 0 [], V.im 1 R2]] (V.bool true) ∧ True ∧ CallSpec Try.prog g0 (V.fn 15 []) [i6 kd, V.sl (9 + 1) 0 1 (some 0), V.im q2 (ints l2)] (pt (pt (pt (ofOs T.e 0 [O.row 39 none (dtL wa La), O.row 39 none (dtL wb Lb), O.row 39 none (dtL wc Lc), O.row 32 none [V.im x1 a1, V.im x2 a2, V.im x3 a3], O.row 32 none [V.im y1 b1, V.im y2 b2, V.im y3 b3], O.row 32 none [V.im q1 (ints l1), V.im p1 M1, V.im n1 E1], O.dead, O.row 32 none [V.im 0 [], V.im 0 [], V.im 1 R2], O.dead]) 9 (O.row 32 none [V.nils, V.nils, V.nils])) 9 (O.row 32 none [V.im 0 [], V.im 0 [], V.im 1 R2])) (9 + 1) (O.row 32 none [V.im y1 b1, V.im y2 b2, V.im y3 b3])) (9 + 1 + 1) (CR.mk (V.tup [V.agg [V.im q2 (ints l2), V.im p2 M2, V.im n2 E2], i6 0]) (ofOs T.e 0 [O.row 39 none (dtL wa La), O.row 39 none (dtL wb Lb), O.row 39 none (dtL wc Lc), O.row 32 none [V.im x1 a1, V.im x2 a2, V.im x3 a3], O.row 32 none [V.im y1 b1, V.im y2 b2, V.im y3 b3], O.row 32 none [V.im q1 (ints l1), V.im p1 M1, V.im n1 E1], O.dead, O.row 32 none [V.im 0 [], V.im 0 [], V.im 1 R2], O.dead, O.row 32 none [V.im 0 [], V.im 0 [], V.im 1 R2], O.dead]) 11 [10]) ∧ True ∧ ((TT 3) ∧ True) ∧ FnOk Try.prog g0 25 [V.agg [V.im q1 (ints l1), V.im p1 M1, V.im n1 E1]] (V.fn 51 [V.imp [V.im q1 (ints l1), V.im p1 M1, V.im n1 E1]]) ∧ True ∧ CallSpec Try.prog g0 (V.fn 15 []) [i6 kd, V.sl (11 + 1) 0 2 (some 0), V.im q1 (ints l1)] (pt (pt (pt (ofOs T.e 0 [O.row 39 none (dtL wa La), O.row 39 none (dtL wb Lb), O.row 39 none (dtL wc Lc), O.row 32 none [V.im x1 a1, V.im x2 a2, V.im x3 a3], O.row 32 none [V.im y1 b1, V.im y2 b2, V.im y3 b3], O.row 32 none [V.im q1 (ints l1), V.im p1 M1, V.im n1 E1], O.dead, O.row 32 none [V.im 0 [], V.im 0 [], V.im 1 R2], O.dead, O.row 32 none [V.im 0 [], V.im 0 [], V.im 1 R2], O.dead]) 11 (O.row 32 none [V.nils, V.nils, V.nils])) 11 (O.row 32 none [V.im q2 (ints l2), V.im p2 M2, V.im n2 E2])) (11 + 1) (O.row 32 none [V.im x1 a1, V.im x2 a2, V.im x3 a3, V.im q2 (ints l2), V.im p2 M2, V.im n2 E2])) (11 + 1 + 1) (CR.mk (V.tup [V.agg [V.im q1 (ints l1), V.im p1 M1, V.im n1 E1], i6 0]) (ofOs T.e 0 [O.row 39 none (dtL wa La), O.row 39 none (dtL wb Lb), O.row 39 none (dtL wc Lc), O.row 32 none [V.im x1 a1, V.im x2 a2, V.im x3 a3], O.row 32 none [V.im y1 b1, V.im y2 b2, V.im y3 b3], O.row 32 none [V.im q1 (ints l1), V.im p1 M1, V.im n1 E1], O.dead, O.row 32 none [V.im 0 [], V.im 0 [], V.im 1 R2], O.dead, O.row 32 none [V.im 0 [], V.im 0 [], V.im 1 R2], O.dead, O.row 32 none [V.im q2 (ints l2), V.im p2 M2, V.im n2 E2], O.dead]) 13 [12]) ∧ ((V.fn 25 [] = V.fn 15 [] → [V.agg [V.im q1 (ints l1), V.im p1 M1, V.im n1 E1]] = [i6 kd, V.sl (11 + 1) 0 2 (some 0), V.im q1 (ints l1)] → pt (pt (ofOs T.e 0 [O.row 39 none (dtL wa La), O.row 39 none (dtL wb Lb), O.row 39 none (dtL wc Lc), O.row 32 none [V.im x1 a1, V.im x2 a2, V.im x3 a3], O.row 32 none [V.im y1 b1, V.im y2 b2, V.im y3 b3], O.row 32 none [V.im q1 (ints l1), V.im p1 M1, V.im n1 E1], O.dead, O.row 32 none [V.im 0 [], V.im 0 [], V.im 1 R2], O.dead, O.row 32 none [V.im 0 [], V.im 0 [], V.im 1 R2], O.dead]) 11 (O.row 32 none [V.nils, V.nils, V.nils])) 11 (O.row 32 none [V.im q2 (ints l2), V.im p2 M2, V.im n2 E2]) = pt (pt (pt (ofOs T.e 0 [O.row 39 none (dtL wa La), O.row 39 none (dtL wb Lb), O.row 39 none (dtL wc Lc), O.row 32 none [V.im x1 a1, V.im x2 a2, V.im x3 a3], O.row 32 none [V.im y1 b1, V.im y2 b2, V.im y3 b3], O.row 32 none [V.im q1 (ints l1), V.im p1 M1, V.im n1 E1], O.dead, O.row 32 none [V.im 0 [], V.im 0 [], V.im 1 R2], O.dead, O.row 32 none [V.im 0 [], V.im 0 [], V.im 1 R2], O.dead]) 11 (O.row 32 none [V.nils, V.nils, V.nils])) 11 (O.row 32 none [V.im q2 (ints l2), V.im p2 M2, V.im n2 E2])) (11 + 1) (O.row 32 none [V.im x1 a1, V.im x2 a2, V.im x3 a3, V.im q2 (ints l2), V.im p2 M2, V.im n2 E2]) → 11 + 1 = 11 + 1 + 1 → CR.mk (V.fn 51 [V.imp [V.im q1 (ints l1), V.im p1 M1, V.im n1 E1]]) (pt (pt (ofOs T.e 0 [O.row 39 none (dtL wa La), O.row 39 none (dtL wb Lb), O.row 39 none (dtL wc Lc), O.row 32 none [V.im x1 a1, V.im x2 a2, V.im x3 a3], O.row 32 none [V.im y1 b1, V.im y2 b2, V.im y3 b3], O.row 32 none [V.im q1 (ints l1), V.im p1 M1, V.im n1 E1], O.dead, O.row 32 none [V.im 0 [], V.im 0 [], V.im 1 R2], O.dead, O.row 32 none [V.im 0 [], V.im 0 [], V.im 1 R2], O.dead]) 11 (O.row 32 none [V.nils, V.nils, V.nils])) 11 (O.row 32 none [V.im q2 (ints l2), V.im p2 M2, V.im n2 E2])) (11 + 1) [] = CR.mk (V.tup [V.agg [V.im q1 (ints l1), V.im p1 M1, V.im n1 E1], i6 0]) (ofOs T.e 0 [O.row 39 none (dtL wa La), O.row 39 none (dtL wb Lb), O.row 39 none (dtL wc Lc), O.row 32 none [V.im x1 a1, V.im x2 a2, V.im x3 a3], O.row 32 none [V.im y1 b1, V.im y2 b2, V.im y3 b3], O.row 32 none [V.im q1 (ints l1), V.im p1 M1, V.im n1 E1], O.dead, O.row 32 none [V.im 0 [], V.im 0 [], V.im 1 R2], O.dead, O.row 32 none [V.im 0 [], V.im 0 [], V.im 1 R2], O.dead, O.row 32 none [V.im q2 (ints l2), V.im p2 M2, V.im n2 E2], O.dead]) 13 [12]) ∧ True) ∧ ((TT 3) ∧ True ∧ True ∧ True) ∧ FnOk Try.prog g0 51 [V.agg [V.im q1 (ints l1), V.im p1 M1, V.im n1 E1], i6 0, V.imp [V.im q1 (ints l1), V.im p1 M1, V.im n1 E1]] (V.bool true) ∧ ((V.fn 15 [] = V.fn 51 [V.imp [V.im q1 (ints l1), V.im p1 M1, V.im n1 E1]] → [i6 kd, V.sl (11 + 1) 0 2 (some 0), V.im q1 (ints l1)] = [V.agg [V.im q1 (ints l1), V.im p1 M1, V.im n1 E1], i6 0] → pt (pt (pt (ofOs T.e 0 [O.row 39 none (dtL wa La), O.row 39 none (dtL wb Lb), O.row 39 none (dtL wc Lc), O.row 32 none [V.im x1 a1, V.im x2 a2, V.im x3 a3], O.row 32 none [V.im y1 b1, V.im y2 b2, V.im y3 b3], O.row 32 none [V.im q1 (ints l1), V.im p1 M1, V.im n1 E1], O.dead, O.row 32 none [V.im 0 [], V.im 0 [], V.im 1 R2], O.dead, O.row 32 none [V.im 0 [], V.im 0 [], V.im 1 R2], O.dead]) 11 (O.row 32 none [V.nils, V.nils, V.nils])) 11 (O.row 32 none [V.im q2 (ints l2), V.im p2 M2, V.im n2 E2])) (11 + 1) (O.row 32 none [V.im x1 a1, V.im x2 a2, V.im x3 a3, V.im q2 (ints l2), V.im p2 M2, V.im n2 E2]) = ofOs T.e 0 [O.row 39 none (dtL wa La), O.row 39 none (dtL wb Lb), O.row 39 none (dtL wc Lc), O.row 32 none [V.im x1 a1, V.im x2 a2, V.im x3 a3], O.row 32 none [V.im y1 b1, V.im y2 b2, V.im y3 b3], O.row 32 none [V.im q1 (ints l1), V.im p1 M1, V.im n1 E1], O.dead, O.row 32 none [V.im 0 [], V.im 0 [], V.im 1 R2], O.dead, O.row 32 none [V.im 0 [], V.im 0 [], V.im 1 R2], O.dead, O.row 32 none [V.im q2 (ints l2), V.im p2 M2, V.im n2 E2], O.dead] → 11 + 1 + 1 = 13 → CR.mk (V.tup [V.agg [V.im q1 (ints l1), V.im p1 M1, V.im n1 E1], i6 0]) (ofOs T.e 0 [O.row 39 none (dtL wa La), O.row 39 none (dtL wb Lb), O.row 39 none (dtL wc Lc), O.row 32 none [V.im x1 a1, V.im x2 a2, V.im x3 a3], O.row 32 none [V.im y1 b1, V.im y2 b2, V.im y3 b3], O.row 32 none [V.im q1 (ints l1), V.im p1 M1, V.im n1 E1], O.dead, O.row 32 none [V.im 0 [], V.im 0 [], V.im 1 R2], O.dead, O.row 32 none [V.im 0 [], V.im 0 [], V.im 1 R2], O.dead, O.row 32 none [V.im q2 (ints l2), V.im p2 M2, V.im n2 E2], O.dead]) 13 [12] = CR.mk (V.bool true) (ofOs T.e 0 [O.row 39 none (dtL wa La), O.row 39 none (dtL wb Lb), O.row 39 none (dtL wc Lc), O.row 32 none [V.im x1 a1, V.im x2 a2, V.im x3 a3], O.row 32 none [V.im y1 b1, V.im y2 b2, V.im y3 b3], O.row 32 none [V.im q1 (ints l1), V.im p1 M1, V.im n1 E1], O.dead, O.row 32 none [V.im 0 [], V.im 0 [], V.im 1 R2], O.dead, O.row 32 none [V.im 0 [], V.im 0 [], V.im 1 R2], O.dead, O.row 32 none [V.im q2 (ints l2), V.im p2 M2, V.im n2 E2], O.dead]) 13 []) ∧ (V.fn 25 [] = V.fn 51 [V.imp [V.im q1 (ints l1), V.im p1 M1, V.im n1 E1]] → [V.agg [V.im q1 (ints l1), V.im p1 M1, V.im n1 E1]] = [V.agg [V.im q1 (ints l1), V.im p1 M1, V.im n1 E1], i6 0] → pt (pt (ofOs T.e 0 [O.row 39 none (dtL wa La), O.row 39 none (dtL wb Lb), O.row 39 none (dtL wc Lc), O.row 32 none [V.im x1 a1, V.im x2 a2, V.im x3 a3], O.row 32 none [V.im y1 b1, V.im y2 b2, V.im y3 b3], O.row 32 none [V.im q1 (ints l1), V.im p1 M1, V.im n1 E1], O.dead, O.row 32 none [V.im 0 [], V.im 0 [], V.im 1 R2], O.dead, O.row 32 none [V.im 0 [], V.im 0 [], V.im 1 R2], O.dead]) 11 (O.row 32 none [V.nils, V.nils, V.nils])) 11 (O.row 32 none [V.im q2 (ints l2), V.im p2 M2, V.im n2 E2]) = ofOs T.e 0 [O.row 39 none (dtL wa La), O.row 39 none (dtL wb Lb), O.row 39 none (dtL wc Lc), O.row 32 none [V.im x1 a1, V.im x2 a2, V.im x3 a3], O.row 32 none [V.im y1 b1, V.im y2 b2, V.im y3 b3], O.row 32 none [V.im q1 (ints l1), V.im p1 M1, V.im n1 E1], O.dead, O.row 32 none [V.im 0 [], V.im 0 [], V.im 1 R2], O.dead, O.row 32 none [V.im 0 [], V.im 0 [], V.im 1 R2], O.dead, O.row 32 none [V.im q2 (ints l2), V.im p2 M2, V.im n2 E2], O.dead] → 11 + 1 = 13 → CR.mk (V.fn 51 [V.imp [V.im q1 (ints l1), V.im p1 M1, V.im n1 E1]]) (pt (pt (ofOs T.e 0 [O.row 39 none (dtL wa La), O.row 39 none (dtL wb Lb), O.row 39 none (dtL wc Lc), O.row 32 none [V.im x1 a1, V.im x2 a2, V.im x3 a3], O.row 32 none [V.im y1 b1, V.im y2 b2, V.im y3 b3], O.row 32 none [V.im q1 (ints l1), V.im p1 M1, V.im n1 E1], O.dead, O.row 32 none [V.im 0 [], V.im 0 [], V.im 1 R2], O.dead, O.row 32 none [V.im 0 [], V.im 0 [], V.im 1 R2], O.dead]) 11 (O.row 32 none [V.nils, V.nils, V.nils])) 11 (O.row 32 none [V.im q2 (ints l2), V.im p2 M2, V.im n2 E2])) (11 + 1) [] = CR.mk (V.bool true) (ofOs T.e 0 [O.row 39 none (dtL wa La), O.row 39 none (dtL wb Lb), O.row 39 none (dtL wc Lc), O.row 32 none [V.im x1 a1, V.im x2 a2, V.im x3 a3], O.row 32 none [V.im y1 b1, V.im y2 b2, V.im y3 b3], O.row 32 none [V.im q1 (ints l1), V.im p1 M1, V.im n1 E1], O.dead, O.row 32 none [V.im 0 [], V.im 0 [], V.im 1 R2], O.dead, O.row 32 none [V.im 0 [], V.im 0 [], V.im 1 R2], O.dead, O.row 32 none [V.im q2 (ints l2), V.im p2 M2, V.im n2 E2], O.dead]) 13 []) ∧ True) ∧ (0 = 0 ∧ 0 = 0 ∧ 0 = 0 ∧ kd = kd ∧ (↑out : Int) = (↑out : Int) ∧ 0 = 0 ∧ 0 = 0 ∧ ((2 = 2 ∧ [V.im x1 a1, V.im x2 a2, V.im x3 a3, V.im y1 b1, V.im y2 b2, V.im y3 b3] = [V.im x1 a1, V.im x2 a2, V.im x3 a3, V.im y1 b1, V.im y2 b2, V.im y3 b3]) ∧ (3 = 3 ∧ [V.im x1 a1, V.im x2 a2, V.im x3 a3, V.im y1 b1, V.im y2 b2, V.im y3 b3, V.im z1 d1, V.im z2 d2, V.im z3 d3] = [V.im x1 a1, V.im x2 a2, V.im x3 a3, V.im y1 b1, V.im y2 b2, V.im y3 b3, V.im z1 d1, V.im z2 d2, V.im z3 d3]) ∧ True) ∧ (↑(1 : Nat) : Int) = wr IntKind.i64 ((↑(0 : Nat) : Int) + (1 : Int)) ∧ True) ∧ (dtL wa La = dtL wa La ∧ True ∧ True ∧ True) ∧ (dtL wb Lb = dtL wb Lb ∧ True ∧ True ∧ True) ∧ (dtL wc Lc = dtL wc Lc ∧ True ∧ True ∧ True) ∧ ([V.im x1 a1, V.im x2 a2, V.im x3 a3] = [V.im x1 a1, V.im x2 a2, V.im x3 a3] ∧ TT 3) ∧ ([V.im y1 b1, V.im y2 b2, V.im y3 b3] = [V.im y1 b1, V.im y2 b2, V.im y3 b3] ∧ TT 3) ∧ True) ∧ True) = _) ?_
    (repeat' (first | (with_reducible apply And.intro) | (refine fun (_ : True) => ?_)))
    all_goals first | exact aq | exact f1 | exact f6 | exact s2 | exact s3 | exact ar | exact ar1 | exact l2' _ | exact l3' _ | rfl | skip
    · exact give_nil (t := 32) (sp := none) f2 ⟨⟨trivial, trivial, trivial, trivial⟩, trivial, trivial⟩ ⟨trivial, trivial, trivial, trivial, trivial, trivial, trivial⟩ (by kernel_rfl) (by kernel_rfl)
    · exact give_nil (t := 32) (sp := none) f3 ⟨⟨trivial, trivial, trivial, trivial⟩, trivial, trivial⟩ ⟨trivial, trivial, trivial, trivial, trivial, trivial, trivial⟩ (by kernel_rfl) (by kernel_rfl)
    · exact give_im (t := 32) (sp := none) f4 ⟨⟨trivial, trivial, trivial, trivial⟩, trivial, trivial⟩ ⟨trivial, trivial, trivial, trivial⟩ (by kernel_rfl) (by kernel_rfl)
    · exact give_im (t := 32) (sp := none) f5 ⟨⟨trivial, trivial, trivial, trivial⟩, trivial, trivial⟩ ⟨trivial, trivial, trivial, trivial, trivial, trivial, trivial⟩ (by kernel_rfl) (by kernel_rfl)
  · refine .inl ⟨2, [0, 1, 2, 3, 4], [(0, .loop [0, 1, 2, 3, 4] (lvS wa wb wc La Lb Lc kd out 3 [.im x1 a1, .im x2 a2, .im x3 a3, .im y1 b1, .im y2 b2, .im y3 b3, .im z1 d1, .im z2 d2, .im z3 d3] [.im x1 a1, .im x2 a2, .im x3 a3, .im y1 b1, .im y2 b2, .im y3 b3] [.im x1 a1, .im x2 a2, .im x3 a3, .im y1 b1, .im y2 b2, .im y3 b3, .im z1 d1, .im z2 d2, .im z3 d3] (1 : Nat) [.im x1 a1, .im x2 a2, .im x3 a3] [.im y1 b1, .im y2 b2, .im y3 b3] (0, 0, [], 0, [])) [(True, .exit 2, lvX wa wb wc La Lb Lc kd out 3 [.im x1 a1, .im x2 a2, .im x3 a3, .im y1 b1, .im y2 b2, .im y3 b3, .im z1 d1, .im z2 d2, .im z3 d3] [.im x1 a1, .im x2 a2, .im x3 a3, .im y1 b1, .im y2 b2, .im y3 b3] [.im x1 a1, .im x2 a2, .im x3 a3, .im y1 b1, .im y2 b2, .im y3 b3, .im z1 d1, .im z2 d2, .im z3 d3] (1 : Nat) [.im x1 a1, .im x2 a2, .im x3 a3] [.im y1 b1, .im y2 b2, .im y3 b3] q3 l3 q2 l2)]), fn 131 (.tup [.agg [.im q3 (ints l3), .im p3 M3, .im n3 E3], i6 0]), (146, .call ⟨.tup [.agg [.im 0 [], .im 0 [], .im 1 R3], i6 0], ofOs .e 0 [.row 39 none (dtL wa La), .row 39 none (dtL wb Lb), .row 39 none (dtL wc Lc), .row 32 none [.im x1 a1, .im x2 a2, .im x3 a3], .row 32 none [.im y1 b1, .im y2 b2, .im y3 b3], .row 32 none [.im q3 (ints l3), .im p3 M3, .im n3 E3], .dead], 7, [6]⟩), (161, .call ⟨.tup [.agg [.im 0 [], .im 0 [], .im 1 R3], i6 0], ofOs .e 0 [.row 39 none (dtL wa La), .row 39 none (dtL wb Lb), .row 39 none (dtL wc Lc), .row 32 none [.im x1 a1, .im x2 a2, .im x3 a3], .row 32 none [.im y1 b1, .im y2 b2, .im y3 b3], .row 32 none [.im q3 (ints l3), .im p3 M3, .im n3 E3], .dead, .row 32 none [.im 0 [], .im 0 [], .im 1 R3], .dead], 9, [8]⟩), fn 177 (.bool true)], 1000, by omega, by omega, ?_⟩
    refine Eq.mp (by kernel_rfl : (((0 = 0 ∧ 0 = 0 ∧ 0 = 0 ∧ kd = kd ∧ (↑out : Int) = (↑out : Int) ∧ 0 = 0 ∧ 0 = 0 ∧ (3 = 3 ∧ [V.im x1 a1, V.im x2 a2, V.im x3 a3, V.im y1 b1, V.im y2 b2, V.im y3 b3, V.im z1 d1, V.im z2 d2, V.im z3 d3] = [V.im x1 a1, V.im x2 a2, V.im x3 a3, V.im y1 b1, V.im y2 b2, V.im y3 b3, V.im z1 d1, V.im z2 d2, V.im z3 d3]) ∧ ((2 = 2 ∧ [V.im x1 a1, V.im x2 a2, V.im x3 a3, V.im y1 b1, V.im y2 b2, V.im y3 b3] = [V.im x1 a1, V.im x2 a2, V.im x3 a3, V.im y1 b1, V.im y2 b2, V.im y3 b3]) ∧ (3 = 3 ∧ [V.im x1 a1, V.im x2 a2, V.im x3 a3, V.im y1 b1, V.im y2 b2, V.im y3 b3, V.im z1 d1, V.im z2 d2, V.im z3 d3] = [V.im x1 a1, V.im x2 a2, V.im x3 a3, V.im y1 b1, V.im y2 b2, V.im y3 b3, V.im z1 d1, V.im z2 d2, V.im z3 d3]) ∧ True) ∧ (↑(1 : Nat) : Int) = (↑(1 : Nat) : Int) ∧ True ∧ True ∧ (↑(0 : Nat) : Int) = (0 : Int) ∧ True) ∧ (dtL wa La = dtL wa La ∧ True ∧ True ∧ True) ∧ (dtL wb Lb = dtL wb Lb ∧ True ∧ True ∧ True) ∧ (dtL wc Lc = dtL wc Lc ∧ True ∧ True ∧ True) ∧ ([V.im x1 a1, V.im x2 a2, V.im x3 a3] = [V.im x1 a1, V.im x2 a2, V.im x3 a3] ∧ TT 3) ∧ ([V.im y1 b1, V.im y2 b2, V.im y3 b3] = [V.im y1 b1, V.im y2 b2, V.im y3 b3] ∧ TT 3) ∧ True) ∧ Sat Try.prog none 0 (at' 6 [1, 1, 1, 1, 1, 1, 0, 1, 0, 0, 1, 1, 0, 0, 1, 1, 0, 1, 0]) (mkSt g0 208 (lvS wa wb wc La Lb Lc kd out 3 [V.im x1 a1, V.im x2 a2, V.im x3 a3, V.im y1 b1, V.im y2 b2, V.im y3 b3, V.im z1 d1, V.im z2 d2, V.im z3 d3] [V.im x1 a1, V.im x2 a2, V.im x3 a3, V.im y1 b1, V.im y2 b2, V.im y3 b3] [V.im x1 a1, V.im x2 a2, V.im x3 a3, V.im y1 b1, V.im y2 b2, V.im y3 b3, V.im z1 d1, V.im z2 d2, V.im z3 d3] (↑(1 : Nat) : Int) [V.im x1 a1, V.im x2 a2, V.im x3 a3] [V.im y1 b1, V.im y2 b2, V.im y3 b3] (0, 0, [], 0, []))) (outsP g0 208 [(True, Ex.exit 2, lvX wa wb wc La Lb Lc kd out 3 [V.im x1 a1, V.im x2 a2, V.im x3 a3, V.im y1 b1, V.im y2 b2, V.im y3 b3, V.im z1 d1, V.im z2 d2, V.im z3 d3] [V.im x1 a1, V.im x2 a2, V.im x3 a3, V.im y1 b1, V.im y2 b2, V.im y3 b3] [V.im x1 a1, V.im x2 a2, V.im x3 a3, V.im y1 b1, V.im y2 b2, V.im y3 b3, V.im z1 d1, V.im z2 d2, V.im z3 d3] (↑(1 : Nat) : Int) [V.im x1 a1, V.im x2 a2, V.im x3 a3] [V.im y1 b1, V.im y2 b2, V.im y3 b3] q3 l3 q2 l2)]) ∧ (True → (TT 3) ∧ FnOk Try.prog g0 15 [i6 kd, V.im 3 [V.im x1 a1, V.im x2 a2, V.im x3 a3, V.im y1 b1, V.im y2 b2, V.im y3 b3, V.im z1 d1, V.im z2 d2, V.im z3 d3], V.im q3 (ints l3)] (V.tup [V.agg [V.im q3 (ints l3), V.im p3 M3, V.im n3 E3], i6 0]) ∧ True ∧ CallSpec Try.prog g0 (V.fn 15 []) [i6 kd, V.sl (5 + 1) 0 2 (some 0), V.nils] (pt (pt (pt (ofOs T.e 0 (lvO wa wb wc La Lb Lc [V.im x1 a1, V.im x2 a2, V.im x3 a3] [V.im y1 b1, V.im y2 b2, V.im y3 b3])) 5 (O.row 32 none [V.nils, V.nils, V.nils])) 5 (O.row 32 none [V.im q3 (ints l3), V.im p3 M3, V.im n3 E3])) (5 + 1) (O.row 32 none [V.im z1 d1, V.im z2 d2, V.im z3 d3, V.im x1 a1, V.im x2 a2, V.im x3 a3])) (5 + 1 + 1) (CR.mk (V.tup [V.agg [V.im 0 [], V.im 0 [], V.im 1 R3], i6 0]) (ofOs T.e 0 [O.row 39 none (dtL wa La), O.row 39 none (dtL wb Lb), O.row 39 none (dtL wc Lc), O.row 32 none [V.im x1 a1, V.im x2 a2, V.im x3 a3], O.row 32 none [V.im y1 b1, V.im y2 b2, V.im y3 b3], O.row 32 none [V.im q3 (ints l3), V.im p3 M3, V.im n3 E3], O.dead]) 7 [6]) ∧ True ∧ CallSpec Try.prog g0 (V.fn 15 []) [i6 kd, V.sl (7 + 1) 0 2 (some 0), V.nils] (pt (pt (pt (ofOs T.e 0 [O.row 39 none (dtL wa La), O.row 39 none (dtL wb Lb), O.row 39 none (dtL wc Lc), O.row 32 none [V.im x1 a1, V.im x2 a2, V.im x3 a3], O.row 32 none [V.im y1 b1, V.im y2 b2, V.im y3 b3], O.row 32 none [V.im q3 (ints l3), V.im p3 M3, V.im n3 E3], O.dead]) 7 (O.row 32 none [V.nils, V.nils, V.nils])) 7 (O.row 32 none [V.im 0 [], V.im 0 [], V.im 1 R3])) (7 + 1) (O.row 32 none [V.im x1 a1, V.im x2 a2, V.im x3 a3, V.im z1 d1, V.im z2 d2, V.im z3 d3])) (7 + 1 + 1) (CR.mk (V.tup [V.agg [V.im 0 [], V.im 0 [], V.im 1 R3], i6 0]) (ofOs T.e 0 [O.row 39 none (dtL wa La), O.row 39 none (dtL wb Lb), O.row 39 none (dtL wc Lc), O.row 32 none [V.im x1 a1, V.im x2 a2, V.im x3 a3], O.row 32 none [V.im y1 b1, V.im y2 b2, V.im y3 b3], O.row 32 none [V.im q3 (ints l3), V.im p3 M3, V.im n3 E3], O.dead, O.row 32 none [V.im 0 [], V.im 0 [], V.im 1 R3], O.dead]) 9 [8]) ∧ True ∧ ((TT 3) ∧ (TT 3) ∧ True) ∧ FnOk Try.prog g0 18 [V.agg [V.im 0 [], V.im 0 [], V.im 1 R3], V.agg [V.im 0 [], V.im 0 [], V.im 1 R3]] (V.bool true) ∧ True ∧ (0 = 0 ∧ 0 = 0 ∧ 0 = 0 ∧ kd = kd ∧ (↑out : Int) = (↑out : Int) ∧ 0 = 0 ∧ 0 = 0 ∧ ((2 = 2 ∧ [V.im x1 a1, V.im x2 a2, V.im x3 a3, V.im y1 b1, V.im y2 b2, V.im y3 b3] = [V.im x1 a1, V.im x2 a2, V.im x3 a3, V.im y1 b1, V.im y2 b2, V.im y3 b3]) ∧ (3 = 3 ∧ [V.im x1 a1, V.im x2 a2, V.im x3 a3, V.im y1 b1, V.im y2 b2, V.im y3 b3, V.im z1 d1, V.im z2 d2, V.im z3 d3] = [V.im x1 a1, V.im x2 a2, V.im x3 a3, V.im y1 b1, V.im y2 b2, V.im y3 b3, V.im z1 d1, V.im z2 d2, V.im z3 d3]) ∧ True) ∧ (↑(2 : Nat) : Int) = wr IntKind.i64 ((↑(1 : Nat) : Int) + (1 : Int)) ∧ True) ∧ (dtL wa La = dtL wa La ∧ True ∧ True ∧ True) ∧ (dtL wb Lb = dtL wb Lb ∧ True ∧ True ∧ True) ∧ (dtL wc Lc = dtL wc Lc ∧ True ∧ True ∧ True) ∧ ([V.im x1 a1, V.im x2 a2, V.im x3 a3] = [V.im x1 a1, V.im x2 a2, V.im x3 a3] ∧ TT 3) ∧ ([V.im y1 b1, V.im y2 b2, V.im y3 b3] = [V.im y1 b1, V.im y2 b2, V.im y3 b3] ∧ TT 3) ∧ True) ∧ True) = _) ?_
    (repeat' (first | (with_reducible apply And.intro) | (refine fun (_ : True) => ?_)))
    all_goals first | exact aq | exact f1 | exact f6 | exact s2 | exact s3 | exact ar | exact ar1 | exact l2' _ | exact l3' _ | rfl | skip
    · exact give_nil (t := 32) (sp := none) f7 ⟨⟨trivial, trivial, trivial, trivial⟩, trivial, trivial⟩ ⟨trivial, trivial, trivial, trivial, trivial, trivial, trivial⟩ (by kernel_rfl) (by kernel_rfl)
    · exact give_nil (t := 32) (sp := none) f8 ⟨⟨trivial, trivial, trivial, trivial⟩, trivial, trivial⟩ ⟨trivial, trivial, trivial, trivial, trivial, trivial, trivial⟩ (by kernel_rfl) (by kernel_rfl)
  · refine .inr ⟨.exit 0, [], { sl := [] }, [], 1000, .inl ⟨trivial, rfl, rfl⟩, ?_⟩
    refine Eq.mp (by kernel_rfl : (True ∧ True) = _) ?_
    (repeat' (first | (with_reducible apply And.intro) | (refine fun (_ : True) => ?_))) <;> first | exact aq | skip
    all_goals first | rfl | skip
end Go.Proofs.Ytgdnmgcigkhojaa.Am

namespace Go.Proofs.Ytgdnmgcigkhojaa.Am
open Go.RowKit
set_option linter.unusedVariables false
set_option maxHeartbeats 1000000
set_option maxRecDepth 100000
def offN (a o : Nat) : Nat := a - 2 ^ o * (a / 2 ^ o % 2)
def onN' (a o : Nat) : Nat := a + 2 ^ o * (1 - a / 2 ^ o % 2)
theorem off_all : ∀ a, a < 256 → ∀ o, o < 5 → offN a o < 256 ∧ (IntKind.u8.wrap ((BitVec.ofInt 8 (a : Int) &&& ~~~ BitVec.ofInt 8 ((2 ^ o : Nat) : Int)).toNat : Int) = (offN a o : Int)) ∧ ∀ v, v < 5 → (offN a o / 2 ^ v % 2 = 1 ↔ a / 2 ^ v % 2 = 1 ∧ v ≠ o) := by decide +kernel
theorem on_all : ∀ a, a < 256 → ∀ o, o < 5 → onN' a o < 256 ∧ (IntKind.u8.wrap ((BitVec.ofInt 8 (a : Int) ||| BitVec.ofInt 8 ((2 ^ o : Nat) : Int)).toNat : Int) = (onN' a o : Int)) ∧ ∀ v, v < 5 → (onN' a o / 2 ^ v % 2 = 1 ↔ a / 2 ^ v % 2 = 1 ∨ v = o) := by decide +kernel
theorem off_u8 {a o : Nat} (ha : a < 256) (ho : o < 5) {G : Ctx} {t : Nat} : binV G .andNot t (b8 a) (b8 (2 ^ o)) = some (b8 (offN a o)) := by
  have e : binV G .andNot t (b8 a) (b8 (2 ^ o)) = some (.int .u8 (IntKind.u8.wrap ((BitVec.ofInt 8 (a : Int) &&& ~~~ BitVec.ofInt 8 ((2 ^ o : Nat) : Int)).toNat : Int))) := rfl
  rw [e, (off_all a ha o ho).2.1]
theorem on_u8 {a o : Nat} (ha : a < 256) (ho : o < 5) {G : Ctx} {t : Nat} : binV G .or t (b8 a) (b8 (2 ^ o)) = some (b8 (onN' a o)) := by
  have e : binV G .or t (b8 a) (b8 (2 ^ o)) = some (.int .u8 (IntKind.u8.wrap ((BitVec.ofInt 8 (a : Int) ||| BitVec.ofInt 8 ((2 ^ o : Nat) : Int)).toNat : Int))) := rfl
  rw [e, (on_all a ha o ho).2.1]
theorem shl_u8 {o : Nat} (ho : o < 5) {G : Ctx} {t : Nat} : binV G .shl t (b8 1) (i6 (o : Int)) = some (b8 (2 ^ o)) := by
  have h : ∀ o, o < 5 → wr .u8 (1 * ((2 ^ min ((o : Nat) : Int).toNat IntKind.u8.bits : Nat) : Int)) = ((2 ^ o : Nat) : Int) := by decide +kernel
  have e : binV G .shl t (b8 1) (i6 (o : Int)) = if ((o : Nat) : Int) < 0 then none else some (.int .u8 (wr .u8 (1 * ((2 ^ min ((o : Nat) : Int).toNat IntKind.u8.bits : Nat) : Int)))) := rfl
  rw [e, if_neg (by omega), h o ho]
theorem d_up {kd : Int} (hk : 1 ≤ kd ∧ kd ≤ 5) (L : List Nat) (x : Nat) : upE 12 kd (dA kd L x) (dB kd L x) := by
  have h1 := Nat.mod_lt (dE L x) (show 0 < 12 by decide)
  have h2 := Nat.mod_lt (dE L x % 12) (show 0 < 2 by decide)
  have h3 := Nat.mod_lt (dE L x / 12) (show 0 < 4 by decide)
  unfold dA dB elemA elemB
  rcases (show kd = 1 ∨ kd = 2 ∨ kd = 3 ∨ kd = 4 ∨ kd = 5 by omega) with rfl | rfl | rfl | rfl | rfl
  · rw [if_neg (by decide), if_neg (by decide), if_neg (fun h => by cases h.1)]
    exact ⟨ok1.2 (by omega), by omega, by omega⟩
  · rw [if_neg (by decide), if_neg (by decide), if_neg (fun h => by cases h.1)]
    exact ⟨ok2.2 (by omega), by omega, by omega⟩
  · rw [if_pos rfl, if_neg (fun h => by cases h.1)]
    exact ⟨ok3.2 (by omega), by omega, by omega⟩
  · rw [if_neg (by decide), if_pos rfl, if_neg (fun h => by cases h.1)]
    exact ⟨ok4.2 (by omega), by omega, by omega⟩
  · rw [if_neg (by decide), if_neg (by decide)]
    by_cases h : 0 < dE L x % 12
    · rw [if_pos ⟨rfl, h⟩]
      exact ⟨ok5.2 (by omega), by omega, by omega⟩
    · rw [if_neg (fun h' => h h'.2)]
      exact ⟨ok5.2 (by omega), by omega, by omega⟩
theorem elF_two (A B : Nat → Int) : elF A B (dN 0) = [i6 (A 0), i6 (B 0)] := rfl
theorem zero_in_all (u : Nat) : Wi 0 u := fun v _ h => by simp at h
theorem dN_le' (w : Nat) : dN w ≤ 4096 := by
  have := goodT_bd (d_good w)
  unfold dN; omega
theorem leaves_true (a b c v k : Nat) (ha : a < 256) (hb : b < 256) (hc : c < 256) (hv : v < 256) (hk : k < 256) (La Lb Lc : List Nat)
    (hLa : ∀ k, k < La.length → La.getD k 0 < 256) (hla : La.length ≤ 9223372036854775807) (hLb : ∀ k, k < Lb.length → Lb.getD k 0 < 256) (hlb : Lb.length ≤ 9223372036854775807) (hLc : ∀ k, k < Lc.length → Lc.getD k 0 < 256) (hlc : Lc.length ≤ 9223372036854775807) :
    FnOk Pg g0 6 [.agg (dtL a La), .agg (dtL b Lb), .agg (dtL c Lc), b8 v, b8 k] (.bool true) := by
  have hwk := works_ok
  have ho : v % 5 < 5 := Nat.mod_lt _ (by decide)
  have hk5 := Nat.mod_lt k (show 0 < 5 by decide)
  have r1 : ∀ G t, binV G .rem t (b8 k) (b8 5) = some (b8 (k % 5)) := fun G t => rem_u8 (by omega)
  have r2 : ∀ G t, binV G .rem t (b8 v) (b8 5) = some (b8 (v % 5)) := fun G t => rem_u8 (by omega)
  obtain ⟨out, hout⟩ : ∃ out, out = v % 5 := ⟨_, rfl⟩
  obtain ⟨kk, hkk⟩ : ∃ kk, kk = k % 5 := ⟨_, rfl⟩
  rw [← hout] at ho r2
  rw [← hkk] at hk5 r1
  clear hout hkk
  obtain ⟨kd, hkd⟩ : ∃ kd : Int, kd = 1 + (kk : Int) := ⟨_, rfl⟩
  have hkd5 : 1 ≤ kd ∧ kd ≤ 5 := by omega
  have b1 := fun G t => @shl_u8 out ho G t
  have b2 := fun G t => @off_u8 a out ha ho G t
  have b3 := fun G t => @on_u8 b out hb ho G t
  obtain ⟨w1, _, w2⟩ := off_all a ha out ho
  obtain ⟨w3, _, w4⟩ := on_all b hb out ho
  obtain ⟨wa, hwa⟩ : ∃ wa, wa = offN a out := ⟨_, rfl⟩
  obtain ⟨wb, hwb⟩ : ∃ wb, wb = onN' b out := ⟨_, rfl⟩
  obtain ⟨po, hpo⟩ : ∃ po, po = 2 ^ out := ⟨_, rfl⟩
  rw [← hwa] at b2 w1 w2
  rw [← hwb] at b3 w3 w4
  rw [← hpo] at b1 b2 b3
  clear hwa hwb hpo
  have hao : ¬ wa / 2 ^ out % 2 = 1 := fun h => ((w2 out ho).1 h).2 rfl
  have hbo : wb / 2 ^ out % 2 = 1 := (w4 out ho).2 (.inr rfl)
  have hab : wa ≠ wb := fun e => hao (e ▸ hbo)
  -- what is kept
  have or256 : ∀ {x y : Nat}, x < 256 → y < 256 → x ||| y < 256 := fun hx hy => Nat.or_lt_two_pow (n := 8) hx hy
  have m1 := (off_all (wa ||| wb) (or256 w1 w3) out ho).2.2
  have m2 := (off_all ((wa ||| wb) ||| c) (or256 (or256 w1 w3) hc) out ho).2.2
  have m3 := (off_all wb w3 out ho).2.2
  generalize offN (wa ||| wb) out = K at *
  generalize offN ((wa ||| wb) ||| c) out = K3 at *
  generalize offN wb out = L at *
  have hK : ∀ v, v < 5 → (K / 2 ^ v % 2 = 1 ↔ (wa / 2 ^ v % 2 = 1 ∨ wb / 2 ^ v % 2 = 1) ∧ v ≠ out) := fun v hv => by rw [m1 v hv, or_bit]
  have hK3 : ∀ v, v < 5 → (K3 / 2 ^ v % 2 = 1 ↔ ((wa / 2 ^ v % 2 = 1 ∨ wb / 2 ^ v % 2 = 1) ∨ c / 2 ^ v % 2 = 1) ∧ v ≠ out) := fun v hv => by rw [m2 v hv, or_bit, or_bit]
  clear m1 m2
  -- the tables
  have ta : FnOk Pg g0 12 [.agg (dtL wa La), i6 kd] (.agg [sl (dV wa 5), sl (dC wa 5), .im (dN wa) (elF (dA kd La) (dB kd La) (dN wa))]) := table_fn kd wa w1 La hLa hla
  have tb : FnOk Pg g0 12 [.agg (dtL wb Lb), i6 kd] (.agg [sl (dV wb 5), sl (dC wb 5), .im (dN wb) (elF (dA kd Lb) (dB kd Lb) (dN wb))]) := table_fn kd wb w3 Lb hLb hlb
  have tc : FnOk Pg g0 12 [.agg (dtL c Lc), i6 kd] (.agg [sl (dV c 5), sl (dC c 5), .im (dN c) (elF (dA kd Lc) (dB kd Lc) (dN c))]) := table_fn kd c hc Lc hLc hlc
  have ua := d_up hkd5 La
  have ub := d_up hkd5 Lb
  have uc := d_up hkd5 Lc
  have N2 : ∀ x y : Nat, ∀ i, i < 2 → agN (conF x (fun _ => y)) i ≤ 1000000 := fun x y i _ => by have := dN_le' (conF x (fun _ => y) i); show dN _ ≤ _; omega
  have kl : ∀ x, (dV x 5).length ≤ 1000 := fun x => by have h1 := dV_len x 5; have h2 := dQ_le x 5; omega
  have cl : ∀ x, (dC x 5).length ≤ 1000 := fun x => by have h1 := dC_len x 5; have h2 := dQ_le x 5; omega
  have hor : ∀ u w : Nat, orW (conF u (fun _ => w)) 2 = u ||| w := fun u w => by show (0 ||| u) ||| w = _; rw [Nat.zero_or]
  have U2 : ∀ {A0 B0 A1 B1 : Nat → Int}, (∀ x, upE 100 kd (A0 x) (B0 x)) → (∀ x, upE 100 kd (A1 x) (B1 x)) → ∀ i x, upE 100 kd (conF A0 (fun _ => A1) i x) (conF B0 (fun _ => B1) i x) := fun h0 h1 i x => by
    cases i with
    | zero => exact h0 x
    | succ i => exact h1 x
  have u1a : ∀ x, upE 100 kd (dA kd La x) (dB kd La x) := fun x => up_mono (ua x) (by decide)
  have u1b : ∀ x, upE 100 kd (dA kd Lb x) (dB kd Lb x) := fun x => up_mono (ub x) (by decide)
  have u1c : ∀ x, upE 100 kd (dA kd Lc x) (dB kd Lc x) := fun x => up_mono (uc x) (by decide)
  -- two tables
  have f1 := combine_fn kd (agV (conF wa (fun _ => wb))) (agC (conF wa (fun _ => wb))) (conF (dA kd La) (fun _ => dA kd Lb)) (conF (dB kd La) (fun _ => dB kd Lb)) (agN (conF wa (fun _ => wb))) 2 (by omega) (N2 wa wb) (dV K 5) (kl K)
  rw [com_part hkd5 (U2 u1a u1b) (by omega) (fun v hv h => by rw [hor, or_bit]; exact ((hK v hv).1 h).1)] at f1
  have f3 := combine_fn kd (agV (conF wa (fun _ => wb))) (agC (conF wa (fun _ => wb))) (conF (dA kd La) (fun _ => dA kd Lb)) (conF (dB kd La) (fun _ => dB kd Lb)) (agN (conF wa (fun _ => wb))) 2 (by omega) (N2 wa wb) (dV 0 5) (kl 0)
  rw [com_part hkd5 (U2 u1a u1b) (by omega) (zero_in_all _), elF_two] at f3
  have f2 := combine_fn kd (agV (conF wb (fun _ => wa))) (agC (conF wb (fun _ => wa))) (conF (dA kd Lb) (fun _ => dA kd La)) (conF (dB kd Lb) (fun _ => dB kd La)) (agN (conF wb (fun _ => wa))) 2 (by omega) (N2 wb wa) (dV 0 5) (kl 0)
  obtain ⟨sA, sB⟩ := swap_two (kd := kd) (W := conF wa (fun _ => wb)) (W' := conF wb (fun _ => wa)) (A := conF (dA kd La) (fun _ => dA kd Lb)) (B := conF (dB kd La) (fun _ => dB kd Lb)) (A' := conF (dA kd Lb) (fun _ => dA kd La)) (B' := conF (dB kd Lb) (fun _ => dB kd La)) (keep := dV 0 5) (U2 u1a u1b) rfl rfl rfl rfl rfl rfl
  rw [com_part hkd5 (U2 u1b u1a) (by omega) (zero_in_all _), elF_two, ← sA, ← sB] at f2
  have f8 := combine_fn kd (agV (conF wa (fun _ => c))) (agC (conF wa (fun _ => c))) (conF (dA kd La) (fun _ => dA kd Lc)) (conF (dB kd La) (fun _ => dB kd Lc)) (agN (conF wa (fun _ => c))) 2 (by omega) (N2 wa c) (dV 0 5) (kl 0)
  rw [com_part hkd5 (U2 u1a u1c) (by omega) (zero_in_all _), elF_two] at f8
  have f7 := combine_fn kd (agV (conF c (fun _ => wa))) (agC (conF c (fun _ => wa))) (conF (dA kd Lc) (fun _ => dA kd La)) (conF (dB kd Lc) (fun _ => dB kd La)) (agN (conF c (fun _ => wa))) 2 (by omega) (N2 c wa) (dV 0 5) (kl 0)
  obtain ⟨sA', sB'⟩ := swap_two (kd := kd) (W := conF wa (fun _ => c)) (W' := conF c (fun _ => wa)) (A := conF (dA kd La) (fun _ => dA kd Lc)) (B := conF (dB kd La) (fun _ => dB kd Lc)) (A' := conF (dA kd Lc) (fun _ => dA kd La)) (B' := conF (dB kd Lc) (fun _ => dB kd La)) (keep := dV 0 5) (U2 u1a u1c) rfl rfl rfl rfl rfl rfl
  rw [com_part hkd5 (U2 u1c u1a) (by omega) (zero_in_all _), elF_two, ← sA', ← sB'] at f7
  -- one is left out ahead
  have hLw : Wi L (orW (fun _ => wb) 1) := fun v hv h => by show (0 ||| wb) / 2 ^ v % 2 = 1; rw [Nat.zero_or]; exact ((m3 v hv).1 h).1
  have f4 := combine_fn kd (agV (fun _ => wb)) (agC (fun _ => wb)) (fun _ => dA kd Lb) (fun _ => dB kd Lb) (agN (fun _ => wb)) 1 (by omega) (fun i _ => by have := dN_le' wb; show dN wb ≤ _; omega) (dV L 5) (kl L)
  rw [com_part hkd5 (fun _ x => u1b x) (by omega) hLw] at f4
  have hLs := fun x hx => less_up hkd5 ho hbo m3 ub (x := x) hx
  obtain ⟨LA, hLA⟩ : ∃ LA : Nat → Int, LA = fun x => if x < dN L then rA kd (agV (fun _ => wb)) (agC (fun _ => wb)) (fun _ => dA kd Lb) (fun _ => dB kd Lb) 1 (dV L 5) x else zeA kd := ⟨_, rfl⟩
  obtain ⟨LB, hLB⟩ : ∃ LB : Nat → Int, LB = fun x => if x < dN L then rB kd (agV (fun _ => wb)) (agC (fun _ => wb)) (fun _ => dA kd Lb) (fun _ => dB kd Lb) 1 (dV L 5) x else 0 := ⟨_, rfl⟩
  have eL : ∀ x, x < dN L → LA x = rA kd (agV (fun _ => wb)) (agC (fun _ => wb)) (fun _ => dA kd Lb) (fun _ => dB kd Lb) 1 (dV L 5) x ∧ LB x = rB kd (agV (fun _ => wb)) (agC (fun _ => wb)) (fun _ => dA kd Lb) (fun _ => dB kd Lb) 1 (dV L 5) x := fun x hx => by rw [hLA, hLB]; exact ⟨if_pos hx, if_pos hx⟩
  have uL : ∀ x, upE 100 kd (LA x) (LB x) := fun x => by
    by_cases hx : x < dN L
    · rw [(eL x hx).1, (eL x hx).2]; exact hLs x hx
    · rw [hLA, hLB]; dsimp only; rw [if_neg hx, if_neg hx]; exact zero_up (u1a 0) (by decide)
  rw [← elF_con2 (A := LA) (B := LB) (fun x hx => eL x hx)] at f4
  have hx : ∀ x, x < dN K → rA kd (agV (conF wa (fun _ => wb))) (agC (conF wa (fun _ => wb))) (conF (dA kd La) (fun _ => dA kd Lb)) (conF (dB kd La) (fun _ => dB kd Lb)) 2 (dV K 5) x = rA kd (agV (conF wa (fun _ => L))) (agC (conF wa (fun _ => L))) (conF (dA kd La) (fun _ => LA)) (conF (dB kd La) (fun _ => LB)) 2 (dV K 5) x ∧ rB kd (agV (conF wa (fun _ => wb))) (agC (conF wa (fun _ => wb))) (conF (dA kd La) (fun _ => dA kd Lb)) (conF (dB kd La) (fun _ => dB kd Lb)) 2 (dV K 5) x = rB kd (agV (conF wa (fun _ => L))) (agC (conF wa (fun _ => L))) (conF (dA kd La) (fun _ => LA)) (conF (dB kd La) (fun _ => LB)) 2 (dV K 5) x := leave_two hkd5 ho hao hbo hK m3 (A := conF (dA kd La) (fun _ => dA kd Lb)) (B := conF (dB kd La) (fun _ => dB kd Lb)) (fun i x => by
    cases i with
    | zero => exact ua x
    | succ i => exact ub x) (LA := LA) (LB := LB) eL (fun x => (uL x).1)
  clear hLA hLB eL hLs
  have f5 := combine_fn kd (agV (conF wa (fun _ => L))) (agC (conF wa (fun _ => L))) (conF (dA kd La) (fun _ => LA)) (conF (dB kd La) (fun _ => LB)) (agN (conF wa (fun _ => L))) 2 (by omega) (N2 wa L) (dV K 5) (kl K)
  rw [com_part hkd5 (U2 u1a uL) (by omega) (fun v hv h => by
    rw [hor, or_bit]
    rcases ((hK v hv).1 h).1 with h1 | h1
    · exact .inl h1
    · exact .inr ((m3 v hv).2 ⟨h1, ((hK v hv).1 h).2⟩)), ← elF_con2 (fun x h => hx x h)] at f5
  -- three tables
  have U3 : ∀ i x, upE 100 kd (conF (dA kd La) (conF (dA kd Lb) (fun _ => dA kd Lc)) i x) (conF (dB kd La) (conF (dB kd Lb) (fun _ => dB kd Lc)) i x) := fun i x => by
    rcases i with _ | _ | i
    · exact u1a x
    · exact u1b x
    · exact u1c x
  have f6 := combine_fn kd (agV (conF wa (conF wb (fun _ => c)))) (agC (conF wa (conF wb (fun _ => c)))) (conF (dA kd La) (conF (dA kd Lb) (fun _ => dA kd Lc))) (conF (dB kd La) (conF (dB kd Lb) (fun _ => dB kd Lc))) (agN (conF wa (conF wb (fun _ => c)))) 3 (by omega) (fun i _ => by have := dN_le' (conF wa (conF wb (fun _ => c)) i); show dN _ ≤ _; omega) (dV K3 5) (kl K3)
  rw [com_part hkd5 U3 (by omega) (fun v hv h => by
    show (((0 ||| wa) ||| wb) ||| c) / 2 ^ v % 2 = 1
    rw [Nat.zero_or, or_bit, or_bit]; exact ((hK3 v hv).1 h).1)] at f6
  have s1 := same4_fn (dV K 5) (dC K 5) (rA kd (agV (conF wa (fun _ => wb))) (agC (conF wa (fun _ => wb))) (conF (dA kd La) (fun _ => dA kd Lb)) (conF (dB kd La) (fun _ => dB kd Lb)) 2 (dV K 5)) (rB kd (agV (conF wa (fun _ => wb))) (agC (conF wa (fun _ => wb))) (conF (dA kd La) (fun _ => dA kd Lb)) (conF (dB kd La) (fun _ => dB kd Lb)) 2 (dV K 5)) (dN K) (by have := kl K; omega) (by have := cl K; omega) (by have := dN_le' K; omega)
  have s2 := fun X Y : Int => same4_fn [] [] (fun _ => X) (fun _ => Y) 1 (by decide) (by decide) (by decide)
  have hlo : Sat Pg none 0 (at' 6 [1, 1, 1, 1, 1, 1, 0, 1, 0]) (mkSt g0 208 (luS wa wb c La Lb Lc kd out [sl (dV wa 5), sl (dC wa 5), .im (dN wa) (elF (dA kd La) (dB kd La) (dN wa)), sl (dV wb 5), sl (dC wb 5), .im (dN wb) (elF (dA kd Lb) (dB kd Lb) (dN wb))] [sl (dV wa 5), sl (dC wa 5), .im (dN wa) (elF (dA kd La) (dB kd La) (dN wa)), sl (dV wb 5), sl (dC wb 5), .im (dN wb) (elF (dA kd Lb) (dB kd Lb) (dN wb)), sl (dV c 5), sl (dC c 5), .im (dN c) (elF (dA kd Lc) (dB kd Lc) (dN c))] [sl (dV wa 5), sl (dC wa 5), .im (dN wa) (elF (dA kd La) (dB kd La) (dN wa))] [sl (dV wb 5), sl (dC wb 5), .im (dN wb) (elF (dA kd Lb) (dB kd Lb) (dN wb))] (0 : Nat))) (outsP g0 208 [(True, .exit 0, { sl := [] })]) := lv_outer wa wb c K K3 L La Lb Lc kd out ho hao hbo hK hK3 m3 _ _ _ _ _ _ _ _ _ _ _ _ _ _ _ _ _ _ _ _ _ _ _ _ _ _ _ (dV K 5) _ (dV L 5) _ (dV K3 5) _ _ _ _ _ _ (HfL_elF _ _ _) (HfL_elF _ _ _) (HfL_elF _ _ _) (show HfL [i6 _, i6 _] from ⟨trivial, trivial, trivial⟩) (show HfL [i6 _, i6 _] from ⟨trivial, trivial, trivial⟩) (dV_len K 5) rfl (dV_len L 5) rfl (dV_len K3 5) rfl f1 f2 f3 f4 f5 f6 f7 f8 s1 (s2 _ _) (s2 _ _)
  clear f1 f2 f3 f4 f5 f6 f7 f8 s1 s2 hx U2 U3 ua ub uc u1a u1b u1c uL sA sB sA' sB' hLw N2 kl cl hor or256 hK hK3 m3 w2 w4
  have hB0 := HfL_b8 La
  have hB1 := HfL_b8 Lb
  have hB2 := HfL_b8 Lc
  have hg1 := HfL_elF (dA kd La) (dB kd La) (dN wa)
  have hg2 := HfL_elF (dA kd Lb) (dB kd Lb) (dN wb)
  have hg3 := HfL_elF (dA kd Lc) (dB kd Lc) (dN c)
  have hv0 := HfL_ints (dV wa 5)
  have hv1 := HfL_ints (dV wb 5)
  have hv2 := HfL_ints (dV c 5)
  have hc0 := HfL_ints (dC wa 5)
  have hc1 := HfL_ints (dC wb 5)
  have hc2 := HfL_ints (dC c 5)
  have q1 : wb = c → Lb = Lc → elF (dA kd Lb) (dB kd Lb) (dN wb) = elF (dA kd Lc) (dB kd Lc) (dN c) := by rintro rfl rfl; rfl
  have q2 : wa = c → La = Lc → elF (dA kd La) (dB kd La) (dN wa) = elF (dA kd Lc) (dB kd Lc) (dN c) := by rintro rfl rfl; rfl
  generalize elF (dA kd La) (dB kd La) (dN wa) = g1 at *
  generalize elF (dA kd Lb) (dB kd Lb) (dN wb) = g2 at *
  generalize elF (dA kd Lc) (dB kd Lc) (dN c) = g3 at *
  refine FnOk.of_vc vE_ok mixed sp0_ok (n := 1000) (r := []) (S := { sl := [(10, .bool true)] }) (hs := [fn 30 (.bool true), va 33 (b8 kk), nu 34 (kk : Int), nu 35 kd, va 37 (b8 out), nu 38 (out : Int), va 42 (b8 po), va 43 (b8 wa), va 48 (b8 po), va 49 (b8 wb),
    fn 53 (.agg [sl (dV wa 5), sl (dC wa 5), .im (dN wa) g1]), fn 56 (.agg [sl (dV wb 5), sl (dC wb 5), .im (dN wb) g2]), fn 59 (.agg [sl (dV c 5), sl (dC c 5), .im (dN c) g3]),
    (0, .loop [0, 1, 2, 3, 4] (luS wa wb c La Lb Lc kd out [sl (dV wa 5), sl (dC wa 5), .im (dN wa) g1, sl (dV wb 5), sl (dC wb 5), .im (dN wb) g2] [sl (dV wa 5), sl (dC wa 5), .im (dN wa) g1, sl (dV wb 5), sl (dC wb 5), .im (dN wb) g2, sl (dV c 5), sl (dC c 5), .im (dN c) g3] [sl (dV wa 5), sl (dC wa 5), .im (dN wa) g1] [sl (dV wb 5), sl (dC wb 5), .im (dN wb) g2] (0 : Nat)) [(True, .exit 0, { sl := [] })])]) ?_
  refine Eq.mp (by kernel_rfl : (V.bool true = V.bool true ∧ True ∧ FnOk Try.prog g0 8 [] (V.bool true) ∧ True ∧ binV (ctxOf Try.prog) BinOp.rem 5 (b8 k) (V.int IntKind.u8 (5 : Int)) = some (b8 kk) ∧ wr IntKind.i64 (↑kk : Int) = (↑kk : Int) ∧ wr IntKind.i64 ((1 : Int) + (↑kk : Int)) = kd ∧ binV (ctxOf Try.prog) BinOp.rem 5 (b8 v) (V.int IntKind.u8 (5 : Int)) = some (b8 out) ∧ wr IntKind.i64 (↑out : Int) = (↑out : Int) ∧ binV (ctxOf Try.prog) BinOp.shl 5 (V.int IntKind.u8 (1 : Int)) (i6 (↑out : Int)) = some (b8 po) ∧ binV (ctxOf Try.prog) BinOp.andNot 5 (b8 a) (b8 po) = some (b8 wa) ∧ binV (ctxOf Try.prog) BinOp.shl 5 (V.int IntKind.u8 (1 : Int)) (i6 (↑out : Int)) = some (b8 po) ∧ binV (ctxOf Try.prog) BinOp.or 5 (b8 b) (b8 po) = some (b8 wb) ∧ ((True ∧ True ∧ True) ∧ True ∧ True) ∧ FnOk Try.prog g0 12 [V.agg [V.int IntKind.u8 (↑wa : Int), V.im (List.length La) (List.map b8 La)], i6 kd] (V.agg [sl (dV wa 5), sl (dC wa 5), V.im (dN wa) g1]) ∧ True ∧ ((True ∧ True ∧ True) ∧ True ∧ True) ∧ FnOk Try.prog g0 12 [V.agg [V.int IntKind.u8 (↑wb : Int), V.im (List.length Lb) (List.map b8 Lb)], i6 kd] (V.agg [sl (dV wb 5), sl (dC wb 5), V.im (dN wb) g2]) ∧ ((V.fn 12 [] = V.fn 12 [] → [V.agg [b8 wa, bL La], i6 kd] = [V.agg [b8 wb, bL Lb], i6 kd] → pt (pt (pt (pt (pt T.e 0 (O.row 39 none [b8 a, bL La])) (0 + 1) (O.row 39 none [b8 b, bL Lb])) (0 + 1 + 1) (O.row 39 none [b8 c, bL Lc])) 0 (O.row 39 none [b8 wa, bL La])) (0 + 1) (O.row 39 none [b8 wb, bL Lb]) = pt (pt (pt (pt (pt T.e 0 (O.row 39 none [b8 a, bL La])) (0 + 1) (O.row 39 none [b8 b, bL Lb])) (0 + 1 + 1) (O.row 39 none [b8 c, bL Lc])) 0 (O.row 39 none [b8 wa, bL La])) (0 + 1) (O.row 39 none [b8 wb, bL Lb]) → 0 + 1 + 1 + 1 = 0 + 1 + 1 + 1 → CR.mk (V.agg [sl (dV wa 5), sl (dC wa 5), V.im (dN wa) g1]) (pt (pt (pt (pt (pt T.e 0 (O.row 39 none [b8 a, bL La])) (0 + 1) (O.row 39 none [b8 b, bL Lb])) (0 + 1 + 1) (O.row 39 none [b8 c, bL Lc])) 0 (O.row 39 none [b8 wa, bL La])) (0 + 1) (O.row 39 none [b8 wb, bL Lb])) (0 + 1 + 1 + 1) [] = CR.mk (V.agg [sl (dV wb 5), sl (dC wb 5), V.im (dN wb) g2]) (pt (pt (pt (pt (pt T.e 0 (O.row 39 none [b8 a, bL La])) (0 + 1) (O.row 39 none [b8 b, bL Lb])) (0 + 1 + 1) (O.row 39 none [b8 c, bL Lc])) 0 (O.row 39 none [b8 wa, bL La])) (0 + 1) (O.row 39 none [b8 wb, bL Lb])) (0 + 1 + 1 + 1) []) ∧ True) ∧ ((True ∧ True ∧ True) ∧ True ∧ True) ∧ FnOk Try.prog g0 12 [V.agg [V.int IntKind.u8 (↑c : Int), V.im (List.length Lc) (List.map b8 Lc)], i6 kd] (V.agg [sl (dV c 5), sl (dC c 5), V.im (dN c) g3]) ∧ ((V.fn 12 [] = V.fn 12 [] → [V.agg [b8 wb, bL Lb], i6 kd] = [V.agg [b8 c, bL Lc], i6 kd] → pt (pt (pt (pt (pt T.e 0 (O.row 39 none [b8 a, bL La])) (0 + 1) (O.row 39 none [b8 b, bL Lb])) (0 + 1 + 1) (O.row 39 none [b8 c, bL Lc])) 0 (O.row 39 none [b8 wa, bL La])) (0 + 1) (O.row 39 none [b8 wb, bL Lb]) = pt (pt (pt (pt (pt T.e 0 (O.row 39 none [b8 a, bL La])) (0 + 1) (O.row 39 none [b8 b, bL Lb])) (0 + 1 + 1) (O.row 39 none [b8 c, bL Lc])) 0 (O.row 39 none [b8 wa, bL La])) (0 + 1) (O.row 39 none [b8 wb, bL Lb]) → 0 + 1 + 1 + 1 = 0 + 1 + 1 + 1 → CR.mk (V.agg [sl (dV wb 5), sl (dC wb 5), V.im (dN wb) g2]) (pt (pt (pt (pt (pt T.e 0 (O.row 39 none [b8 a, bL La])) (0 + 1) (O.row 39 none [b8 b, bL Lb])) (0 + 1 + 1) (O.row 39 none [b8 c, bL Lc])) 0 (O.row 39 none [b8 wa, bL La])) (0 + 1) (O.row 39 none [b8 wb, bL Lb])) (0 + 1 + 1 + 1) [] = CR.mk (V.agg [sl (dV c 5), sl (dC c 5), V.im (dN c) g3]) (pt (pt (pt (pt (pt T.e 0 (O.row 39 none [b8 a, bL La])) (0 + 1) (O.row 39 none [b8 b, bL Lb])) (0 + 1 + 1) (O.row 39 none [b8 c, bL Lc])) 0 (O.row 39 none [b8 wa, bL La])) (0 + 1) (O.row 39 none [b8 wb, bL Lb])) (0 + 1 + 1 + 1) []) ∧ (V.fn 12 [] = V.fn 12 [] → [V.agg [b8 wa, bL La], i6 kd] = [V.agg [b8 c, bL Lc], i6 kd] → pt (pt (pt (pt (pt T.e 0 (O.row 39 none [b8 a, bL La])) (0 + 1) (O.row 39 none [b8 b, bL Lb])) (0 + 1 + 1) (O.row 39 none [b8 c, bL Lc])) 0 (O.row 39 none [b8 wa, bL La])) (0 + 1) (O.row 39 none [b8 wb, bL Lb]) = pt (pt (pt (pt (pt T.e 0 (O.row 39 none [b8 a, bL La])) (0 + 1) (O.row 39 none [b8 b, bL Lb])) (0 + 1 + 1) (O.row 39 none [b8 c, bL Lc])) 0 (O.row 39 none [b8 wa, bL La])) (0 + 1) (O.row 39 none [b8 wb, bL Lb]) → 0 + 1 + 1 + 1 = 0 + 1 + 1 + 1 → CR.mk (V.agg [sl (dV wa 5), sl (dC wa 5), V.im (dN wa) g1]) (pt (pt (pt (pt (pt T.e 0 (O.row 39 none [b8 a, bL La])) (0 + 1) (O.row 39 none [b8 b, bL Lb])) (0 + 1 + 1) (O.row 39 none [b8 c, bL Lc])) 0 (O.row 39 none [b8 wa, bL La])) (0 + 1) (O.row 39 none [b8 wb, bL Lb])) (0 + 1 + 1 + 1) [] = CR.mk (V.agg [sl (dV c 5), sl (dC c 5), V.im (dN c) g3]) (pt (pt (pt (pt (pt T.e 0 (O.row 39 none [b8 a, bL La])) (0 + 1) (O.row 39 none [b8 b, bL Lb])) (0 + 1 + 1) (O.row 39 none [b8 c, bL Lc])) 0 (O.row 39 none [b8 wa, bL La])) (0 + 1) (O.row 39 none [b8 wb, bL Lb])) (0 + 1 + 1 + 1) []) ∧ True) ∧ ((0 = 0 ∧ 0 = 0 ∧ 0 = 0 ∧ kd = kd ∧ (↑out : Int) = (↑out : Int) ∧ 0 = 0 ∧ 0 = 0 ∧ ((2 = 2 ∧ [sl (dV wa 5), sl (dC wa 5), V.im (dN wa) g1, sl (dV wb 5), sl (dC wb 5), V.im (dN wb) g2] = [sl (dV wa 5), sl (dC wa 5), V.im (dN wa) g1, sl (dV wb 5), sl (dC wb 5), V.im (dN wb) g2] ∧ TT 6) ∧ (3 = 3 ∧ [sl (dV wa 5), sl (dC wa 5), V.im (dN wa) g1, sl (dV wb 5), sl (dC wb 5), V.im (dN wb) g2, sl (dV c 5), sl (dC c 5), V.im (dN c) g3] = [sl (dV wa 5), sl (dC wa 5), V.im (dN wa) g1, sl (dV wb 5), sl (dC wb 5), V.im (dN wb) g2, sl (dV c 5), sl (dC c 5), V.im (dN c) g3] ∧ TT 9) ∧ True) ∧ (↑(0 : Nat) : Int) = (0 : Int) ∧ True) ∧ (dtL wa La = [b8 wa, bL La] ∧ True ∧ True ∧ True) ∧ (dtL wb Lb = [b8 wb, bL Lb] ∧ True ∧ True ∧ True) ∧ (dtL c Lc = [b8 c, bL Lc] ∧ True ∧ True ∧ True) ∧ ([sl (dV wa 5), sl (dC wa 5), V.im (dN wa) g1] = [sl (dV wa 5), sl (dC wa 5), V.im (dN wa) g1] ∧ TT 3) ∧ ([sl (dV wb 5), sl (dC wb 5), V.im (dN wb) g2] = [sl (dV wb 5), sl (dC wb 5), V.im (dN wb) g2] ∧ TT 3) ∧ True) ∧ Sat Try.prog none 0 (at' 6 [1, 1, 1, 1, 1, 1, 0, 1, 0]) (mkSt g0 208 (luS wa wb c La Lb Lc kd out [sl (dV wa 5), sl (dC wa 5), V.im (dN wa) g1, sl (dV wb 5), sl (dC wb 5), V.im (dN wb) g2] [sl (dV wa 5), sl (dC wa 5), V.im (dN wa) g1, sl (dV wb 5), sl (dC wb 5), V.im (dN wb) g2, sl (dV c 5), sl (dC c 5), V.im (dN c) g3] [sl (dV wa 5), sl (dC wa 5), V.im (dN wa) g1] [sl (dV wb 5), sl (dC wb 5), V.im (dN wb) g2] (↑(0 : Nat) : Int))) (outsP g0 208 [(True, Ex.exit 0, SL.mk [] [] [] [])]) ∧ (True → (true = true ∧ True) ∧ True) ∧ True) = _) ?_
  (repeat' (first | (with_reducible apply And.intro) | (refine fun (_ : True) => ?_)))
  all_goals first | (with_reducible exact r1 _ _) | (with_reducible exact r2 _ _) | (with_reducible exact b1 _ _) | (with_reducible exact b2 _ _) | (with_reducible exact b3 _ _) | exact aq | exact ta | exact tb | exact tc | exact hlo | exact r1 _ _ | exact r2 _ _ | exact b1 _ _ | exact tb | exact tc | exact hlo | (intro _ h _ _; obtain ⟨e1, e2⟩ := dt_inj h; first | exact absurd e1 hab | exact absurd e1.symm hab | (have h3 := q1 e1 e2; subst e1 e2 h3; rfl) | (have h3 := q2 e1 e2; subst e1 e2 h3; rfl)) | rfl | skip
theorem leaves_law (a b c : Nat) (v k : Int) (ha : a < 256) (hb : b < 256) (hc : c < 256) (hv : (Lit.int .u8 v).wf = true) (hk : (Lit.int .u8 k).wf = true) (La Lb Lc : List Nat)
    (hLa : ∀ k, k < La.length → La.getD k 0 < 256) (hla : La.length ≤ 9223372036854775807) (hLb : ∀ k, k < Lb.length → Lb.getD k 0 < 256) (hlb : Lb.length ≤ 9223372036854775807) (hLc : ∀ k, k < Lc.length → Lc.getD k 0 < 256) (hlc : Lc.length ≤ 9223372036854775807) :
    FnOk Pg g0 6 [.agg (dtL a La), .agg (dtL b Lb), .agg (dtL c Lc), .int .u8 v, .int .u8 k] (.bool true) := by
  have h1 : 0 ≤ v ∧ v ≤ 255 := by simp only [Lit.wf, Bool.and_eq_true, decide_eq_true_eq] at hv; exact hv
  have h2 : 0 ≤ k ∧ k ≤ 255 := by simp only [Lit.wf, Bool.and_eq_true, decide_eq_true_eq] at hk; exact hk
  have := leaves_true a b c v.toNat k.toNat ha hb hc (by omega) (by omega) La Lb Lc hLa hla hLb hlb hLc hlc
  rwa [show b8 v.toNat = .int .u8 v by show V.int .u8 ((v.toNat : Nat) : Int) = _; rw [Int.toNat_of_nonneg h1.1], show b8 k.toNat = .int .u8 k by show V.int .u8 ((k.toNat : Nat) : Int) = _; rw [Int.toNat_of_nonneg h2.1]] at this
end Go.Proofs.Ytgdnmgcigkhojaa.Am
