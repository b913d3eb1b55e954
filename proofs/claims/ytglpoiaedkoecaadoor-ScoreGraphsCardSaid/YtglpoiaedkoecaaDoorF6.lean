/- Chapter 25: a graph with an edge turned. -/
import Derived.Test.YtglpoiaedkoecaaDoorF5
import Derived.Test.YtglpoiaedkoecaaDoorE17
namespace Go.Proofs.YtglpoiaedkoecaaDoor.Am
open Go.RowKit
set_option linter.unusedVariables false
set_option maxHeartbeats 1000000
set_option maxRecDepth 100000

theorem andnot_e {G : Ctx} {t : Nat} {x y : Nat} (hx : x < 18446744073709551616) (hy : y < 18446744073709551616) : ∃ z : Nat, binV G .andNot t (u6 (x : Int)) (u6 (y : Int)) = some (u6 (z : Int)) ∧ z < 18446744073709551616 := by
  obtain ⟨z, h1, h2, _⟩ := @andnot_u G t x y hx hy
  exact ⟨z, h1, h2⟩
theorem src_u {H : T O} {l : List Nat} : srcV H 1 (ul l) = some (l.length, ut l) := by
  unfold srcV
  have h : Nat.ble (l.length * 1) (ut l).length = true := Nat.ble_eq_true_of_le (by rw [ut_length]; omega)
  simp only [h, cond_true]
  rw [Nat.mul_one, List.take_of_length_le (by rw [ut_length]; omega)]
def pairR (l : List Nat) (i : Nat) : Nat → List Nat × List Nat → List Nat × List Nat
  | 0, q => q
  | j + 1, q => match pairR l i j q with
    | (f, t) => if (l.getD i 0).testBit j then (f ++ [j], t ++ [i]) else (f, t)
def pairA (l : List Nat) : Nat → List Nat × List Nat
  | 0 => ([], [])
  | i + 1 => pairR l i l.length (pairA l i)
structure PrOk (n : Nat) (f t : List Nat) : Prop where
  len : t.length = f.length
  f : ∀ x ∈ f, x < n
  t : ∀ x ∈ t, x < n
theorem pairR_ok {l : List Nat} {n i : Nat} (hi : i < n) {f t : List Nat} (h : PrOk n f t) : ∀ j, j ≤ n → ∀ f' t', pairR l i j (f, t) = (f', t') → PrOk n f' t' ∧ f'.length ≤ f.length + j
  | 0, _, f', t', e => by cases e; exact ⟨h, Nat.le_refl _⟩
  | j + 1, hj, f', t', e => by
    rw [pairR] at e
    cases hp : pairR l i j (f, t) with
    | mk a b =>
      obtain ⟨h1, h2⟩ := pairR_ok hi h j (by omega) a b hp
      rw [hp] at e
      dsimp only at e
      split at e
      · cases e
        refine ⟨⟨by simp [h1.len], fun x hx => ?_, fun x hx => ?_⟩, by simp; omega⟩
        · rcases List.mem_append.1 hx with hx | hx
          · exact h1.f x hx
          · rw [List.mem_singleton.1 hx]; omega
        · rcases List.mem_append.1 hx with hx | hx
          · exact h1.t x hx
          · rw [List.mem_singleton.1 hx]; omega
      · cases e; exact ⟨h1, by omega⟩
theorem pairA_ok {l : List Nat} : ∀ i, i ≤ l.length → ∀ f t, pairA l i = (f, t) → PrOk l.length f t ∧ f.length ≤ l.length * i
  | 0, _, f, t, e => by cases e; exact ⟨⟨rfl, fun x h => by simp at h, fun x h => by simp at h⟩, Nat.zero_le _⟩
  | i + 1, hi, f, t, e => by
    rw [pairA] at e
    cases hp : pairA l i with
    | mk a b =>
      obtain ⟨h1, h2⟩ := pairA_ok i (by omega) a b hp
      rw [hp] at e
      obtain ⟨h3, h4⟩ := pairR_ok (by omega) h1 _ (Nat.le_refl _) f t e
      exact ⟨h3, by rw [Nat.mul_add]; omega⟩
/-- two lists of our own -/
def owP (f t : List Nat) : Nat → List O
  | 0 => []
  | _ + 1 => [.row 3 (some 1) (nt f), .row 3 (some 1) (nt t)]

section
variable (l : List Nat) (a : Int)
abbrev tuO : O := .row 28 (some 1) (ut l)
abbrev tuS (q : Nat × Nat × List Nat × List Nat) : SL := { sl := [(0, ul l), (1, w8 a), (4, .nils), (5, .sl 0 0 l.length none), (6, owV 1 q.2.1), (7, owV 2 q.2.1), (8, i6 q.1)], os := tuO l :: owP q.2.2.1 q.2.2.2 q.2.1 }
abbrev tjS (i : Nat) (q : Nat × Nat × List Nat × List Nat) : SL := { sl := [(0, ul l), (1, w8 a), (4, .nils), (5, .sl 0 0 l.length none), (6, owV 1 q.2.1), (7, owV 2 q.2.1), (8, i6 i), (9, i6 q.1)], os := tuO l :: owP q.2.2.1 q.2.2.2 q.2.1 }
abbrev tuX (k : Nat) (f t : List Nat) : SL := { sl := [(1, w8 a), (4, .nils), (5, .sl 0 0 l.length none), (6, owV 1 k), (7, owV 2 k)], os := tuO l :: owP f t k }
end
theorem tu_row (l : List Nat) (a : Int) (hl6 : l.length ≤ 6) (i : Nat) (hi : i < l.length) (k0 : Nat) (f0 t0 : List Nat) (hok : PrOk l.length f0 t0) (hk0 : k0 = f0.length) (k : Nat) (f t : List Nat) (hF : (f, t) = pairR l i l.length (f0, t0)) (hk : k = f.length) (h30 : f0.length ≤ 36) :
    Sat Pg none 0 (at' 27 [1, 1, 1, 0, 1, 0, 0, 1, 0, 0, 1, 0]) (mkSt g0 82 (tjS l a i (0, k0, f0, t0))) (outsP g0 82 [(True, .exit 2, tuS l a (i, k, f, t))]) := by
  refine loopC vE_ok mixed sp0_ok (b := at' 27 [1, 1, 1, 0, 1, 0, 0, 1, 0, 0, 1, 0, 0]) (by kernel_rfl) (fun q : Nat × Nat × List Nat × List Nat => q.1 ≤ l.length ∧ (q.2.2.1, q.2.2.2) = pairR l i q.1 (f0, t0) ∧ q.2.1 = q.2.2.1.length) (tjS l a i) (fun q => l.length - q.1) (fun q hq => ?_) (0, k0, f0, t0) ⟨Nat.zero_le _, rfl, hk0⟩
  obtain ⟨j, u, f1, t1⟩ := q
  obtain ⟨hj, hP, hu⟩ := hq
  dsimp only at hj hP hu
  obtain ⟨hok1, hle⟩ := pairR_ok hi hok j hj f1 t1 hP.symm
  have htl := hok1.len
  by_cases hlt : j < l.length
  · have hld := @head_ut l i hi
    have hin := in_set (l.getD i 0) j (by omega)
    have hnext : pairR l i (j + 1) (f0, t0) = if (l.getD i 0).testBit j then (f1 ++ [j], t1 ++ [i]) else (f1, t1) := by rw [pairR, ← hP]
    generalize l.getD i 0 = s at *
    cases hc : s.testBit j with
    | true =>
      rw [hc, if_pos rfl] at hnext
      rw [hc] at hin
      have hnf := nt_app f1 j
      have hnt := nt_app t1 i
      have hfl := nt_length f1
      have htl2 := nt_length t1
      cases u with
      | zero =>
        have : f1 = [] := List.eq_nil_of_length_eq_zero hu.symm
        subst this
        have : t1 = [] := List.eq_nil_of_length_eq_zero htl
        subst this
        refine .inl ⟨(j + 1, 1, [j], [i]), [0, 2, 4], [yes 24, pl 29, ld 30 (u6 s), fn 32 (.bool true), nu 26 (j + 1 : Nat)], 1000, ⟨hlt, hnext.symm, rfl⟩, by dsimp only; omega, ?_⟩
        clear hnext hP hF hnf hnt hfl htl2 hok hok1 htl
        refine Eq.mp (by kernel_rfl : (decide ((↑j : Int) < (↑(List.length l) : Int)) = true ∧ ((0 : Int) ≤ (↑i : Int) ∧ (↑i : Int) < (↑(List.length l) : Int)) ∧ headF (List.drop (i * 1) (ut l)) = some (u6 (↑s : Int)) ∧ (True ∧ True ∧ True) ∧ FnOk Tryd.prog g0 77 [V.int IntKind.u64 (↑s : Int), V.int IntKind.i64 (↑j : Int)] (V.bool true) ∧ True ∧ wr IntKind.i64 ((↑j : Int) + (1 : Int)) = (↑(j + 1) : Int) ∧ ((List.length l = List.length l ∧ ut l = ut l) ∧ a = a ∧ True ∧ (0 = 0 ∧ List.length l = List.length l ∧ True) ∧ (0 = 0 ∧ 0 + 1 = 1 ∧ True) ∧ (0 = 0 ∧ 0 + 1 = 1 ∧ True) ∧ (↑i : Int) = (↑i : Int) ∧ (↑(j + 1) : Int) = (↑(j + 1) : Int) ∧ True) ∧ (ut l = ut l ∧ HfL (ut l)) ∧ (nt [j] = [i6 (↑j : Int)] ∧ True ∧ True) ∧ (nt [i] = [i6 (↑i : Int)] ∧ True ∧ True) ∧ True) = _) ?_
        (repeat' (first | (with_reducible apply And.intro) | (refine fun (_ : True) => ?_)))
        all_goals first | with_reducible rfl | exact trivial | with_reducible assumption | omega | ((with_reducible show HfL _); exact HfL_ut _) | ((with_reducible show (_ : List V) = _); rfl) | ((with_reducible show decide _ = true); exact decide_eq_true (by omega)) | (refine wr6' ?_ ?_ ?_ <;> omega)
      | succ u =>
        refine .inl ⟨(j + 1, u + 1 + 1, f1 ++ [j], t1 ++ [i]), [0, 4, 6], [yes 24, pl 29, ld 30 (u6 s), fn 32 (.bool true), ap 36, ap 40, nu 26 (j + 1 : Nat)], 1000, ⟨hlt, hnext.symm, by simp [← hu]⟩, by dsimp only; omega, ?_⟩
        clear hnext hP hF
        refine Eq.mp (by kernel_rfl : (decide ((↑j : Int) < (↑(List.length l) : Int)) = true ∧ ((0 : Int) ≤ (↑i : Int) ∧ (↑i : Int) < (↑(List.length l) : Int)) ∧ headF (List.drop (i * 1) (ut l)) = some (u6 (↑s : Int)) ∧ (True ∧ True ∧ True) ∧ FnOk Tryd.prog g0 77 [V.int IntKind.u64 (↑s : Int), V.int IntKind.i64 (↑j : Int)] (V.bool true) ∧ True ∧ List.length (nt f1) = (u + 1) * 1 ∧ u + 1 + 1 ≤ 9223372036854775807 ∧ (u + 1 + 1) * 8 ≤ 140737488355328 ∧ List.length (nt t1) = (u + 1) * 1 ∧ u + 1 + 1 ≤ 9223372036854775807 ∧ (u + 1 + 1) * 8 ≤ 140737488355328 ∧ wr IntKind.i64 ((↑j : Int) + (1 : Int)) = (↑(j + 1) : Int) ∧ ((List.length l = List.length l ∧ ut l = ut l) ∧ a = a ∧ True ∧ (0 = 0 ∧ List.length l = List.length l ∧ True) ∧ (0 = 0 ∧ Nat.succ u + 1 = u + 1 + 1 ∧ True) ∧ (0 = 0 ∧ Nat.succ u + 1 = u + 1 + 1 ∧ True) ∧ (↑i : Int) = (↑i : Int) ∧ (↑(j + 1) : Int) = (↑(j + 1) : Int) ∧ True) ∧ (ut l = ut l ∧ HfL (ut l)) ∧ (nt (f1 ++ [j]) = nt f1 ++ [i6 (↑j : Int)] ∧ HfL (nt (f1 ++ [j]))) ∧ (nt (t1 ++ [i]) = nt t1 ++ [i6 (↑i : Int)] ∧ HfL (nt (t1 ++ [i]))) ∧ True) = _) ?_
        exact au
    | false =>
      rw [hc, if_neg (by simp)] at hnext
      rw [hc] at hin
      cases u with
      | zero =>
        refine .inl ⟨(j + 1, 0, f1, t1), [0], [yes 24, pl 29, ld 30 (u6 s), fn 32 (.bool false), nu 26 (j + 1 : Nat)], 1000, ⟨hlt, hnext.symm, hu⟩, by dsimp only; omega, ?_⟩
        clear hnext hP hF
        refine Eq.mp (by kernel_rfl : (decide ((↑j : Int) < (↑(List.length l) : Int)) = true ∧ ((0 : Int) ≤ (↑i : Int) ∧ (↑i : Int) < (↑(List.length l) : Int)) ∧ headF (List.drop (i * 1) (ut l)) = some (u6 (↑s : Int)) ∧ (True ∧ True ∧ True) ∧ FnOk Tryd.prog g0 77 [V.int IntKind.u64 (↑s : Int), V.int IntKind.i64 (↑j : Int)] (V.bool false) ∧ True ∧ wr IntKind.i64 ((↑j : Int) + (1 : Int)) = (↑(j + 1) : Int) ∧ ((List.length l = List.length l ∧ ut l = ut l) ∧ a = a ∧ True ∧ (0 = 0 ∧ List.length l = List.length l ∧ True) ∧ True ∧ True ∧ (↑i : Int) = (↑i : Int) ∧ (↑(j + 1) : Int) = (↑(j + 1) : Int) ∧ True) ∧ (ut l = ut l ∧ HfL (ut l)) ∧ True) = _) ?_
        exact au
      | succ u =>
        refine .inl ⟨(j + 1, u + 1, f1, t1), [0, 1, 2], [yes 24, pl 29, ld 30 (u6 s), fn 32 (.bool false), nu 26 (j + 1 : Nat)], 1000, ⟨hlt, hnext.symm, hu⟩, by dsimp only; omega, ?_⟩
        clear hnext hP hF
        refine Eq.mp (by kernel_rfl : (decide ((↑j : Int) < (↑(List.length l) : Int)) = true ∧ ((0 : Int) ≤ (↑i : Int) ∧ (↑i : Int) < (↑(List.length l) : Int)) ∧ headF (List.drop (i * 1) (ut l)) = some (u6 (↑s : Int)) ∧ (True ∧ True ∧ True) ∧ FnOk Tryd.prog g0 77 [V.int IntKind.u64 (↑s : Int), V.int IntKind.i64 (↑j : Int)] (V.bool false) ∧ True ∧ wr IntKind.i64 ((↑j : Int) + (1 : Int)) = (↑(j + 1) : Int) ∧ ((List.length l = List.length l ∧ ut l = ut l) ∧ a = a ∧ True ∧ (0 = 0 ∧ List.length l = List.length l ∧ True) ∧ (0 = 0 ∧ u + 1 = u + 1 ∧ True) ∧ (0 = 0 ∧ u + 1 = u + 1 ∧ True) ∧ (↑i : Int) = (↑i : Int) ∧ (↑(j + 1) : Int) = (↑(j + 1) : Int) ∧ True) ∧ (ut l = ut l ∧ HfL (ut l)) ∧ (nt f1 = nt f1 ∧ HfL (nt f1)) ∧ (nt t1 = nt t1 ∧ HfL (nt t1)) ∧ True) = _) ?_
        exact au
  · have : j = l.length := by omega
    subst this
    have hFP := hF.trans hP.symm
    injection hFP with e1 e2
    subst e1 e2
    obtain rfl : k = u := hk.trans hu.symm
    clear hF hP hk
    cases k with
    | zero =>
      refine .inr ⟨.exit 2, [0], tuS l a (i, 0, f, t), [no 24], 1000, .inl ⟨trivial, rfl, rfl⟩, ?_⟩
      refine Eq.mp (by kernel_rfl : (decide ((↑(List.length l) : Int) < (↑(List.length l) : Int)) = false ∧ ((List.length l = List.length l ∧ ut l = ut l) ∧ a = a ∧ True ∧ (0 = 0 ∧ List.length l = List.length l ∧ True) ∧ True ∧ True ∧ (↑i : Int) = (↑i : Int) ∧ True) ∧ (ut l = ut l ∧ HfL (ut l)) ∧ True) = _) ?_
      exact au
    | succ k =>
      refine .inr ⟨.exit 2, [0, 1, 2], tuS l a (i, k + 1, f, t), [no 24], 1000, .inl ⟨trivial, rfl, rfl⟩, ?_⟩
      refine Eq.mp (by kernel_rfl : (decide ((↑(List.length l) : Int) < (↑(List.length l) : Int)) = false ∧ ((List.length l = List.length l ∧ ut l = ut l) ∧ a = a ∧ True ∧ (0 = 0 ∧ List.length l = List.length l ∧ True) ∧ (0 = 0 ∧ k + 1 = k + 1 ∧ True) ∧ (0 = 0 ∧ k + 1 = k + 1 ∧ True) ∧ (↑i : Int) = (↑i : Int) ∧ True) ∧ (ut l = ut l ∧ HfL (ut l)) ∧ (nt f = nt f ∧ HfL (nt f)) ∧ (nt t = nt t ∧ HfL (nt t)) ∧ True) = _) ?_
      exact au
theorem tu_rows (l : List Nat) (a : Int) (hl6 : l.length ≤ 6) (k : Nat) (f t : List Nat) (hF : (f, t) = pairA l l.length) (hk : k = f.length) :
    Sat Pg none 0 (at' 27 [1, 1, 1, 0, 1, 0]) (mkSt g0 82 (tuS l a (0, 0, [], []))) (outsP g0 82 [(True, .exit 0, tuX l a k f t)]) := by
  refine loopC vE_ok mixed sp0_ok (b := at' 27 [1, 1, 1, 0, 1, 0, 0]) (by kernel_rfl) (fun q : Nat × Nat × List Nat × List Nat => q.1 ≤ l.length ∧ (q.2.2.1, q.2.2.2) = pairA l q.1 ∧ q.2.1 = q.2.2.1.length) (tuS l a) (fun q => l.length - q.1) (fun q hq => ?_) (0, 0, [], []) ⟨Nat.zero_le _, rfl, rfl⟩
  obtain ⟨i, u, f1, t1⟩ := q
  obtain ⟨hi, hP, hu⟩ := hq
  dsimp only at hi hP hu
  obtain ⟨hok1, hle⟩ := pairA_ok i hi f1 t1 hP.symm
  have htl := hok1.len
  by_cases hlt : i < l.length
  · have h36 : l.length * i ≤ 6 * 6 := Nat.mul_le_mul hl6 (by omega)
    cases hp : pairR l i l.length (f1, t1) with
    | mk f2 t2 =>
      have hin := tu_row l a hl6 i hlt u f1 t1 hok1 hu _ f2 t2 hp.symm rfl (by omega)
      have hnext : pairA l (i + 1) = (f2, t2) := by rw [pairA, ← hP, hp]
      cases hv : f2.length with
      | zero =>
        rw [hv] at hin
        cases u with
        | zero =>
          refine .inl ⟨(i + 1, 0, f2, t2), [0], [yes 18, (0, .loop [0] (tjS l a i (0, 0, f1, t1)) [(True, .exit 2, tuS l a (i, 0, f2, t2))]), nu 20 (i + 1 : Nat)], 1000, ⟨hlt, hnext.symm, hv.symm⟩, by dsimp only; omega, ?_⟩
          clear hnext hP hF hp
          refine Eq.mp (by kernel_rfl : (decide ((↑i : Int) < (↑(List.length l) : Int)) = true ∧ (((List.length l = List.length l ∧ ut l = ut l) ∧ a = a ∧ True ∧ (0 = 0 ∧ List.length l = List.length l ∧ True) ∧ True ∧ True ∧ (↑i : Int) = (↑i : Int) ∧ (↑(0 : Nat) : Int) = (0 : Int) ∧ True) ∧ (ut l = ut l ∧ HfL (ut l)) ∧ True) ∧ Sat Tryd.prog none 0 (at' 27 [1, 1, 1, 0, 1, 0, 0, 1, 0, 0, 1, 0]) (mkSt g0 82 (tjS l a i (0, 0, f1, t1))) (outsP g0 82 [(True, Ex.exit 2, tuS l a (i, 0, f2, t2))]) ∧ (True → wr IntKind.i64 ((↑i : Int) + (1 : Int)) = (↑(i + 1) : Int) ∧ ((List.length l = List.length l ∧ ut l = ut l) ∧ a = a ∧ True ∧ (0 = 0 ∧ List.length l = List.length l ∧ True) ∧ True ∧ True ∧ (↑(i + 1) : Int) = (↑(i + 1) : Int) ∧ True) ∧ (ut l = ut l ∧ HfL (ut l)) ∧ True) ∧ True) = _) ?_
          exact au
        | succ u =>
          have := hu
          refine .inl ⟨(i + 1, 0, f2, t2), [0], [yes 18, (0, .loop [0, 1, 2] (tjS l a i (0, u + 1, f1, t1)) [(True, .exit 2, tuS l a (i, 0, f2, t2))]), nu 20 (i + 1 : Nat)], 1000, ⟨hlt, hnext.symm, hv.symm⟩, by dsimp only; omega, ?_⟩
          clear hnext hP hF hp
          refine Eq.mp (by kernel_rfl : (decide ((↑i : Int) < (↑(List.length l) : Int)) = true ∧ (((List.length l = List.length l ∧ ut l = ut l) ∧ a = a ∧ True ∧ (0 = 0 ∧ List.length l = List.length l ∧ True) ∧ (0 = 0 ∧ u + 1 = u + 1 ∧ True) ∧ (0 = 0 ∧ u + 1 = u + 1 ∧ True) ∧ (↑i : Int) = (↑i : Int) ∧ (↑(0 : Nat) : Int) = (0 : Int) ∧ True) ∧ (ut l = ut l ∧ HfL (ut l)) ∧ (nt f1 = nt f1 ∧ HfL (nt f1)) ∧ (nt t1 = nt t1 ∧ HfL (nt t1)) ∧ True) ∧ Sat Tryd.prog none 0 (at' 27 [1, 1, 1, 0, 1, 0, 0, 1, 0, 0, 1, 0]) (mkSt g0 82 (tjS l a i (0, u + 1, f1, t1))) (outsP g0 82 [(True, Ex.exit 2, tuS l a (i, 0, f2, t2))]) ∧ (True → wr IntKind.i64 ((↑i : Int) + (1 : Int)) = (↑(i + 1) : Int) ∧ ((List.length l = List.length l ∧ ut l = ut l) ∧ a = a ∧ True ∧ (0 = 0 ∧ List.length l = List.length l ∧ True) ∧ True ∧ True ∧ (↑(i + 1) : Int) = (↑(i + 1) : Int) ∧ True) ∧ (ut l = ut l ∧ HfL (ut l)) ∧ True) ∧ True) = _) ?_
          exact au
      | succ v =>
        rw [hv] at hin
        cases u with
        | zero =>
          refine .inl ⟨(i + 1, v + 1, f2, t2), [0, 1, 2], [yes 18, (0, .loop [0] (tjS l a i (0, 0, f1, t1)) [(True, .exit 2, tuS l a (i, v + 1, f2, t2))]), nu 20 (i + 1 : Nat)], 1000, ⟨hlt, hnext.symm, hv.symm⟩, by dsimp only; omega, ?_⟩
          clear hnext hP hF hp
          refine Eq.mp (by kernel_rfl : (decide ((↑i : Int) < (↑(List.length l) : Int)) = true ∧ (((List.length l = List.length l ∧ ut l = ut l) ∧ a = a ∧ True ∧ (0 = 0 ∧ List.length l = List.length l ∧ True) ∧ True ∧ True ∧ (↑i : Int) = (↑i : Int) ∧ (↑(0 : Nat) : Int) = (0 : Int) ∧ True) ∧ (ut l = ut l ∧ HfL (ut l)) ∧ True) ∧ Sat Tryd.prog none 0 (at' 27 [1, 1, 1, 0, 1, 0, 0, 1, 0, 0, 1, 0]) (mkSt g0 82 (tjS l a i (0, 0, f1, t1))) (outsP g0 82 [(True, Ex.exit 2, tuS l a (i, v + 1, f2, t2))]) ∧ (True → wr IntKind.i64 ((↑i : Int) + (1 : Int)) = (↑(i + 1) : Int) ∧ ((List.length l = List.length l ∧ ut l = ut l) ∧ a = a ∧ True ∧ (0 = 0 ∧ List.length l = List.length l ∧ True) ∧ (0 = 0 ∧ v + 1 = v + 1 ∧ True) ∧ (0 = 0 ∧ v + 1 = v + 1 ∧ True) ∧ (↑(i + 1) : Int) = (↑(i + 1) : Int) ∧ True) ∧ (ut l = ut l ∧ HfL (ut l)) ∧ (nt f2 = nt f2 ∧ HfL (nt f2)) ∧ (nt t2 = nt t2 ∧ HfL (nt t2)) ∧ True) ∧ True) = _) ?_
          exact au
        | succ u =>
          refine .inl ⟨(i + 1, v + 1, f2, t2), [0, 1, 2], [yes 18, (0, .loop [0, 1, 2] (tjS l a i (0, u + 1, f1, t1)) [(True, .exit 2, tuS l a (i, v + 1, f2, t2))]), nu 20 (i + 1 : Nat)], 1000, ⟨hlt, hnext.symm, hv.symm⟩, by dsimp only; omega, ?_⟩
          clear hnext hP hF hp
          refine Eq.mp (by kernel_rfl : (decide ((↑i : Int) < (↑(List.length l) : Int)) = true ∧ (((List.length l = List.length l ∧ ut l = ut l) ∧ a = a ∧ True ∧ (0 = 0 ∧ List.length l = List.length l ∧ True) ∧ (0 = 0 ∧ u + 1 = u + 1 ∧ True) ∧ (0 = 0 ∧ u + 1 = u + 1 ∧ True) ∧ (↑i : Int) = (↑i : Int) ∧ (↑(0 : Nat) : Int) = (0 : Int) ∧ True) ∧ (ut l = ut l ∧ HfL (ut l)) ∧ (nt f1 = nt f1 ∧ HfL (nt f1)) ∧ (nt t1 = nt t1 ∧ HfL (nt t1)) ∧ True) ∧ Sat Tryd.prog none 0 (at' 27 [1, 1, 1, 0, 1, 0, 0, 1, 0, 0, 1, 0]) (mkSt g0 82 (tjS l a i (0, u + 1, f1, t1))) (outsP g0 82 [(True, Ex.exit 2, tuS l a (i, v + 1, f2, t2))]) ∧ (True → wr IntKind.i64 ((↑i : Int) + (1 : Int)) = (↑(i + 1) : Int) ∧ ((List.length l = List.length l ∧ ut l = ut l) ∧ a = a ∧ True ∧ (0 = 0 ∧ List.length l = List.length l ∧ True) ∧ (0 = 0 ∧ v + 1 = v + 1 ∧ True) ∧ (0 = 0 ∧ v + 1 = v + 1 ∧ True) ∧ (↑(i + 1) : Int) = (↑(i + 1) : Int) ∧ True) ∧ (ut l = ut l ∧ HfL (ut l)) ∧ (nt f2 = nt f2 ∧ HfL (nt f2)) ∧ (nt t2 = nt t2 ∧ HfL (nt t2)) ∧ True) ∧ True) = _) ?_
          exact au
  · have : i = l.length := by omega
    subst this
    have hFP := hF.trans hP.symm
    injection hFP with e1 e2
    subst e1 e2
    obtain rfl : k = u := hk.trans hu.symm
    clear hF hP hk
    cases k with
    | zero =>
      refine .inr ⟨.exit 0, [0], tuX l a 0 f t, [no 18], 1000, .inl ⟨trivial, rfl, rfl⟩, ?_⟩
      refine Eq.mp (by kernel_rfl : (decide ((↑(List.length l) : Int) < (↑(List.length l) : Int)) = false ∧ (a = a ∧ True ∧ (0 = 0 ∧ List.length l = List.length l ∧ True) ∧ True ∧ True ∧ True) ∧ (ut l = ut l ∧ HfL (ut l)) ∧ True) = _) ?_
      exact au
    | succ k =>
      refine .inr ⟨.exit 0, [0, 1, 2], tuX l a (k + 1) f t, [no 18], 1000, .inl ⟨trivial, rfl, rfl⟩, ?_⟩
      refine Eq.mp (by kernel_rfl : (decide ((↑(List.length l) : Int) < (↑(List.length l) : Int)) = false ∧ (a = a ∧ True ∧ (0 = 0 ∧ List.length l = List.length l ∧ True) ∧ (0 = 0 ∧ k + 1 = k + 1 ∧ True) ∧ (0 = 0 ∧ k + 1 = k + 1 ∧ True) ∧ True) ∧ (ut l = ut l ∧ HfL (ut l)) ∧ (nt f = nt f ∧ HfL (nt f)) ∧ (nt t = nt t ∧ HfL (nt t)) ∧ True) = _) ?_
      exact au
theorem turned_fn (l : List Nat) (a : Nat) (h1 : 1 ≤ l.length) (hl6 : l.length ≤ 6) (h64 : S64 l) (ha : a < 256) : ∃ l2, GrOk l.length l2 ∧ FnOk Pg g0 27 [ul l, w8 a] (ul l2) := by
  have hul := ut_length l
  cases hp : pairA l l.length with
  | mk f t =>
    obtain ⟨hok, hle⟩ := pairA_ok l.length (Nat.le_refl _) f t hp
    have hin := tu_rows l a hl6 _ f t hp.symm rfl
    cases hv : f.length with
    | zero =>
      rw [hv] at hin
      refine ⟨l, ⟨rfl, h64⟩, ?_⟩
      refine FnOk.of_vc vE_ok mixed sp0_ok (n := 1000) (r := []) (S := { sl := [(4, ul l)] }) (hs := [(14, .cp l.length (ut l)), (0, .loop [1] (tuS l a (0, 0, [], [])) [(True, .exit 0, tuX l a 0 f t)])]) ?_
      clear hp hok h64
      refine Eq.mp (by kernel_rfl : (ul l = ul l ∧ (srcV (pt T.e 0 (O.row 28 none [])) 1 (ul l) = some (List.length l, ut l) ∧ srcV (pt T.e 0 (O.row 28 none [])) 1 (V.sl 0 0 0 (some 0)) = some (0, []) ∧ 1 ≤ List.length l ∧ List.length l ≤ 9223372036854775807 ∧ List.length l * 8 ≤ 140737488355328) ∧ (((List.length l = List.length l ∧ ut l = ut l) ∧ (↑a : Int) = (↑a : Int) ∧ True ∧ (0 = 0 ∧ List.length l = List.length l ∧ True) ∧ True ∧ True ∧ (↑(0 : Nat) : Int) = (0 : Int) ∧ True) ∧ (ut l = ut l ∧ HfL (ut l)) ∧ True) ∧ Sat Tryd.prog none 0 (at' 27 [1, 1, 1, 0, 1, 0]) (mkSt g0 82 (tuS l (↑a : Int) (0, 0, [], []))) (outsP g0 82 [(True, Ex.exit 0, tuX l (↑a : Int) 0 f t)]) ∧ (True → ((List.length l = List.length l ∧ ut l = ut l ∧ HfL (ut l)) ∧ True) ∧ True) ∧ True) = _) ?_
      (repeat' (first | (with_reducible apply And.intro) | (refine fun (_ : True) => ?_))) <;> first | exact aq | skip
      all_goals first | exact HfL_ut _ | exact src_u | exact src_nil (by rw [gt_pt, if_pos rfl])
    | succ v =>
      rw [hv] at hin
      have hrem : binV (ctxOf Pg) .rem 3 (i6 (a : Nat)) (i6 (v + 1 : Nat)) = some (i6 (a % (v + 1) : Nat)) := by
        rw [rem6 (by omega), tmod_nat]
      have hmod : a % (v + 1) < v + 1 := Nat.mod_lt _ (by omega)
      generalize a % (v + 1) = p at *
      have hx := hok.f (f.getD p 0) (by rw [List.getD_eq_getElem?_getD, List.getElem?_eq_getElem (by omega)]; exact List.getElem_mem _)
      have hy := hok.t (t.getD p 0) (by have := hok.len; rw [List.getD_eq_getElem?_getD, List.getElem?_eq_getElem (by omega)]; exact List.getElem_mem _)
      have htl := hok.len
      have g1 := @head_nt0 f p (by omega)
      have g2 := @head_nt0 t p (by omega)
      have hnf := nt_length f
      have hnt := nt_length t
      generalize f.getD p 0 = x at *
      generalize t.getD p 0 = y at *
      have k1 := @head_ut0 l y hy
      obtain ⟨s1, s2⟩ := @shl1_u (ctxOf Pg) 28 x (by omega)
      obtain ⟨z, z1, z2⟩ := @andnot_e (ctxOf Pg) 28 (l.getD y 0) (2 ^ x) (h64.get _) s2
      have k2 := @lay_ut l y z hy
      have e64 := h64.set (j := y) z2
      have e6 : (l.set y z).length = l.length := List.length_set
      have hul2 := ut_length (l.set y z)
      generalize l.getD y 0 = c1 at *
      generalize hl2 : l.set y z = l2 at *
      have k3 := @head_ut0 l2 x (by omega)
      obtain ⟨s3, s4⟩ := @shl1_u (ctxOf Pg) 28 y (by omega)
      obtain ⟨q1, q2⟩ := @or_u (ctxOf Pg) 28 (l2.getD x 0) (2 ^ y) (e64.get _) s4
      have k4 := @lay_ut l2 x (l2.getD x 0 ||| 2 ^ y) (by omega)
      have f64 := e64.set (j := x) q2
      have f6 : (l2.set x (l2.getD x 0 ||| 2 ^ y)).length = l.length := by rw [List.length_set, e6]
      generalize l2.getD x 0 ||| 2 ^ y = w at *
      generalize l2.getD x 0 = c2 at *
      generalize hl3 : l2.set x w = l3 at *
      generalize 2 ^ x = m1 at *
      generalize 2 ^ y = m2 at *
      refine ⟨l3, ⟨f6, f64⟩, ?_⟩
      refine FnOk.of_vc vE_ok mixed sp0_ok (n := 1000) (r := []) (S := { sl := [(4, ul l3)] }) (hs := [(14, .cp l.length (ut l)), (0, .loop [1] (tuS l a (0, 0, [], [])) [(True, .exit 0, tuX l a (v + 1) f t)]), nu 47 (a : Nat), va 50 (i6 p), pl 51, ld 52 (i6 x), nu 55 (a : Nat), va 58 (i6 p), pl 59, ld 60 (i6 y), pl 65, ld 66 (u6 c1), va 68 (u6 m1), va 69 (u6 z), pl 70, st (ut l2), pl 75, ld 76 (u6 c2), va 78 (u6 m2), va 79 (u6 w), pl 80, st (ut l3)]) ?_
      clear hp hok h64 hl2 hl3 e64 f64
      refine Eq.mp (by kernel_rfl : (ul l3 = ul l3 ∧ (srcV (pt T.e 0 (O.row 28 none [])) 1 (ul l) = some (List.length l, ut l) ∧ srcV (pt T.e 0 (O.row 28 none [])) 1 (V.sl 0 0 0 (some 0)) = some (0, []) ∧ 1 ≤ List.length l ∧ List.length l ≤ 9223372036854775807 ∧ List.length l * 8 ≤ 140737488355328) ∧ (((List.length l = List.length l ∧ ut l = ut l) ∧ (↑a : Int) = (↑a : Int) ∧ True ∧ (0 = 0 ∧ List.length l = List.length l ∧ True) ∧ True ∧ True ∧ (↑(0 : Nat) : Int) = (0 : Int) ∧ True) ∧ (ut l = ut l ∧ HfL (ut l)) ∧ True) ∧ Sat Tryd.prog none 0 (at' 27 [1, 1, 1, 0, 1, 0]) (mkSt g0 82 (tuS l (↑a : Int) (0, 0, [], []))) (outsP g0 82 [(True, Ex.exit 0, tuX l (↑a : Int) (v + 1) f t)]) ∧ (True → wr IntKind.i64 (↑a : Int) = (↑a : Int) ∧ binV (ctxOf Tryd.prog) BinOp.rem 3 (V.int IntKind.i64 (↑a : Int)) (V.int IntKind.i64 (↑(v + 1) : Int)) = some (i6 (↑p : Int)) ∧ ((0 : Int) ≤ (↑p : Int) ∧ (↑p : Int) < (↑(v + 1) : Int)) ∧ headF (dropF (0 + p * 1) (nt f)) = some (i6 (↑x : Int)) ∧ wr IntKind.i64 (↑a : Int) = (↑a : Int) ∧ binV (ctxOf Tryd.prog) BinOp.rem 3 (V.int IntKind.i64 (↑a : Int)) (V.int IntKind.i64 (↑(v + 1) : Int)) = some (i6 (↑p : Int)) ∧ ((0 : Int) ≤ (↑p : Int) ∧ (↑p : Int) < (↑(v + 1) : Int)) ∧ headF (dropF (0 + p * 1) (nt t)) = some (i6 (↑y : Int)) ∧ ((0 : Int) ≤ (↑y : Int) ∧ (↑y : Int) < (↑(List.length l) : Int)) ∧ headF (dropF (0 + y * 1) (ut l)) = some (u6 (↑c1 : Int)) ∧ binV (ctxOf Tryd.prog) BinOp.shl 28 (V.int IntKind.u64 (1 : Int)) (i6 (↑x : Int)) = some (u6 (↑m1 : Int)) ∧ binV (ctxOf Tryd.prog) BinOp.andNot 28 (u6 (↑c1 : Int)) (u6 (↑m1 : Int)) = some (u6 (↑z : Int)) ∧ ((0 : Int) ≤ (↑y : Int) ∧ (↑y : Int) < (↑(List.length l) : Int)) ∧ layE (0 + y * 1) (ut l) [u6 (↑z : Int)] = some (ut l2) ∧ ((0 : Int) ≤ (↑x : Int) ∧ (↑x : Int) < (↑(List.length l) : Int)) ∧ headF (dropF (0 + x * 1) (ut l2)) = some (u6 (↑c2 : Int)) ∧ binV (ctxOf Tryd.prog) BinOp.shl 28 (V.int IntKind.u64 (1 : Int)) (i6 (↑y : Int)) = some (u6 (↑m2 : Int)) ∧ binV (ctxOf Tryd.prog) BinOp.or 28 (u6 (↑c2 : Int)) (u6 (↑m2 : Int)) = some (u6 (↑w : Int)) ∧ ((0 : Int) ≤ (↑x : Int) ∧ (↑x : Int) < (↑(List.length l) : Int)) ∧ layE (0 + x * 1) (ut l2) [u6 (↑w : Int)] = some (ut l3) ∧ ((List.length l3 = List.length l ∧ ut l3 = ut l3 ∧ HfL (ut l3)) ∧ True) ∧ True) ∧ True) = _) ?_
      (repeat' (first | (with_reducible apply And.intro) | (refine fun (_ : True) => ?_))) <;> first | exact aq | skip
      all_goals first | exact HfL_ut _ | exact src_u | exact src_nil (by rw [gt_pt, if_pos rfl])

end Go.Proofs.YtglpoiaedkoecaaDoor.Am
