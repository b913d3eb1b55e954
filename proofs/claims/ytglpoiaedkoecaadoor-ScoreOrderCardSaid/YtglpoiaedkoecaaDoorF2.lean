/- Chapter 28: graphs as lists of sets: score.isGraph; the reference's Graph and Fits. -/
import Derived.Test.YtglpoiaedkoecaaDoorF1
namespace Go.Proofs.YtglpoiaedkoecaaDoor.Am
open Go.RowKit
set_option linter.unusedVariables false
set_option maxHeartbeats 1000000
set_option maxRecDepth 100000

theorem bits_uniq {P P' : Nat} {Q : Nat → Bool} (h : Bits P Q) (h' : Bits P' Q) : P = P' := Nat.eq_of_testBit_eq fun i => (h.2 i).trans (h'.2 i).symm
theorem bits_ex0 (Q : Nat → Bool) : ∀ n, ∃ P, P < 2 ^ n ∧ ∀ u, P.testBit u = (decide (u < n) && Q u)
  | 0 => ⟨0, by decide, fun u => by simp⟩
  | n + 1 => by
    obtain ⟨P, h1, h2⟩ := bits_ex0 Q n
    have hlt : 2 ^ n < 2 ^ (n + 1) := Nat.pow_lt_pow_right (by omega) (by omega)
    cases hq : Q n with
    | true =>
      refine ⟨P ||| 2 ^ n, Nat.or_lt_two_pow (by omega) hlt, fun u => ?_⟩
      rw [Nat.testBit_or, h2, Nat.testBit_two_pow]
      by_cases hu : n = u
      · subst hu; simp [hq]
      · by_cases h3 : u < n
        · simp [h3, hu, show u < n + 1 by omega]
        · simp [h3, hu, show ¬ u < n + 1 by omega]
    | false =>
      refine ⟨P, by omega, fun u => ?_⟩
      rw [h2]
      by_cases hu : n = u
      · subst hu; simp [hq]
      · by_cases h3 : u < n
        · simp [h3, show u < n + 1 by omega]
        · simp [h3, show ¬ u < n + 1 by omega]
theorem bits_ex {Q : Nat → Bool} {n : Nat} (hn : n ≤ 64) (h : ∀ u, Q u = true → u < n) : ∃ P, Bits P Q ∧ P < 2 ^ n := by
  obtain ⟨P, h1, h2⟩ := bits_ex0 Q n
  have : 2 ^ n ≤ 2 ^ 64 := Nat.pow_le_pow_right (by omega) hn
  refine ⟨P, ⟨Nat.lt_of_lt_of_le h1 this, fun u => ?_⟩, h1⟩
  rw [h2]
  cases hq : Q u with
  | false => simp
  | true => simp [h u hq]
theorem pass_lt {n : Nat} {g : GG.Rel} {out Q : Nat → Bool} (hQ : ∀ u, Q u = true → u < n) : ∀ v, v ≤ n → ∀ u, GG.pass n g out Q v u = true → u < n
  | 0, _, u, h => hQ u h
  | v + 1, hv, u, h => by
    unfold GG.pass GG.place1 at h
    simp only [Bool.or_eq_true, Bool.and_eq_true, decide_eq_true_eq] at h
    rcases h with h | ⟨rfl, _⟩
    · exact pass_lt hQ v (by omega) u h
    · omega
theorem passes_lt {n : Nat} {g : GG.Rel} {out : Nat → Bool} : ∀ t u, GG.passes n g out t u = true → u < n
  | 0, u, h => by cases h
  | t + 1, u, h => pass_lt (passes_lt t) n (Nat.le_refl _) u h

abbrev igZ (n P : Nat) : SL := { sl := [(1, i6 n), (5, u6 P)] }
theorem ig_out (l : List Nat) (n : Nat) (hl : l.length = n) (hn : n ≤ 6) (h64 : S64 l) (P : Nat) (hP : Bits P (GG.passes n (relL l) (outL l n) n)) :
    Sat Pg none 0 (at' 78 [1, 1, 1, 0, 1, 0]) (mkSt g0 37 (igX l n 0 0)) (outsP g0 37 [(True, .exit 0, igZ n P)]) := by
  refine loopC vE_ok mixed sp0_ok (b := at' 78 [1, 1, 1, 0, 1, 0, 0]) (by kernel_rfl) (fun q : Nat × Nat => q.1 ≤ n ∧ Bits q.2 (GG.passes n (relL l) (outL l n) q.1)) (fun q => igX l n q.1 q.2) (fun q => n - q.1) (fun q hq => ?_) (0, 0) ⟨Nat.zero_le _, by decide, fun u => Nat.zero_testBit u⟩
  obtain ⟨t, p⟩ := q
  obtain ⟨ht, hb⟩ := hq
  dsimp only at ht hb
  by_cases hlt : t < n
  · obtain ⟨p2, hp2, _⟩ := bits_ex (n := n) (Q := GG.passes n (relL l) (outL l n) (t + 1)) (by omega) (passes_lt (t + 1))
    have hin : Sat Pg none 0 (at' 78 [1, 1, 1, 0, 1, 0, 0, 1, 1, 0, 0, 1, 0]) (mkSt g0 37 (igS l n t 0 p)) (outsP g0 37 [(True, .exit 2, igX l n t p2)]) := by
      refine (ig_in l n hl hn h64 t p _ hb (passes_lt t)).mono ?_
      rintro e st ⟨S', rfl, rfl, P', rfl, hP'⟩
      obtain rfl := bits_uniq hP' hp2
      exact .inl ⟨trivial, rfl, rfl⟩
    refine .inl ⟨(t + 1, p2), [], [yes 14, (0, .loop [] (igS l n t 0 p) [(True, .exit 2, igX l n t p2)]), nu 31 (t + 1 : Nat)], 1000, ⟨hlt, hp2⟩, by dsimp only; omega, ?_⟩
    clear hp2 hb hP
    refine Eq.mp (by kernel_rfl : (decide ((↑t : Int) < (↑n : Int)) = true ∧ (((List.length l = List.length l ∧ ut l = ut l) ∧ (↑n : Int) = (↑n : Int) ∧ (↑p : Int) = (↑p : Int) ∧ (↑n : Int) = (↑n : Int) ∧ (↑t : Int) = (↑t : Int) ∧ (List.length l = List.length l ∧ ut l = ut l) ∧ (↑(List.length l) : Int) = (↑(List.length l) : Int) ∧ (↑(0 : Nat) : Int) = (0 : Int) ∧ True) ∧ True) ∧ Sat Tryd.prog none 0 (at' 78 [1, 1, 1, 0, 1, 0, 0, 1, 1, 0, 0, 1, 0]) (mkSt g0 37 (igS l n t 0 p)) (outsP g0 37 [(True, Ex.exit 2, igX l n t p2)]) ∧ (True → wr IntKind.i64 ((↑t : Int) + (1 : Int)) = (↑(t + 1) : Int) ∧ ((List.length l = List.length l ∧ ut l = ut l) ∧ (↑n : Int) = (↑n : Int) ∧ (↑p2 : Int) = (↑p2 : Int) ∧ (↑n : Int) = (↑n : Int) ∧ (↑(t + 1) : Int) = (↑(t + 1) : Int) ∧ True) ∧ True) ∧ True) = _) ?_
    exact au
  · have : t = n := by omega
    subst this
    obtain rfl := bits_uniq hb hP
    refine .inr ⟨.exit 0, [], igZ t p, [no 14], 1000, .inl ⟨trivial, rfl, rfl⟩, ?_⟩
    clear hb hP
    refine Eq.mp (by kernel_rfl : (decide ((↑t : Int) < (↑t : Int)) = false ∧ ((↑t : Int) = (↑t : Int) ∧ (↑p : Int) = (↑p : Int) ∧ True) ∧ True) = _) ?_
    exact au
abbrev bR4 (b : Bool) : SL := { sl := [(4, .bool b)] }
theorem isgraph_fn (l : List Nat) (n : Nat) (hn : n ≤ 6) (h64 : S64 l) : FnOk Pg g0 78 [ul l, i6 n] (.bool (decide (l.length = n) && GG.placedAll n (relL l) (outL l n))) := by
  by_cases hl : l.length = n
  · rw [decide_eq_true hl, Bool.true_and]
    obtain ⟨P, hP, hPn⟩ := bits_ex (n := n) (Q := GG.passes n (relL l) (outL l n) n) (by omega) (passes_lt n)
    have lo_ := ig_out l n hl hn h64 P hP
    obtain ⟨s1, s2⟩ := @shl1_u (ctxOf Pg) 28 n (by omega)
    have hpos := Nat.two_pow_pos n
    have hiff : P = 2 ^ n - 1 ↔ GG.placedAll n (relL l) (outL l n) = true := by
      constructor
      · intro h
        refine GG.all_range.2 fun u hu => ?_
        rw [← hP.2, h, Nat.testBit_two_pow_sub_one]; simpa using hu
      · intro h
        apply Nat.eq_of_testBit_eq
        intro u
        rw [hP.2, Nat.testBit_two_pow_sub_one]
        by_cases hu : u < n
        · rw [GG.all_range.1 h u hu]; simp [hu]
        · cases hq : GG.passes n (relL l) (outL l n) n u with
          | false => simp [hu]
          | true => exact absurd (passes_lt n u hq) hu
    cases hb : GG.placedAll n (relL l) (outL l n) with
    | true =>
      have hPe := hiff.2 hb
      generalize 2 ^ n = w at *
      have hP1 : P = w - 1 := hPe
      clear hiff hb hP hPe
      refine FnOk.of_vc vE_ok mixed sp0_ok (n := 1000) (r := []) (S := bR4 true) (hs := [no 11, (0, .loop [] (igX l n 0 0) [(True, .exit 0, igZ n P)]), va 34 (u6 w), nu 35 (w - 1 : Nat), yes 36]) ?_
      refine Eq.mp (by kernel_rfl : (V.bool true = V.bool true ∧ ((↑(List.length l) : Int) != (↑n : Int)) = false ∧ (((List.length l = List.length l ∧ ut l = ut l) ∧ (↑n : Int) = (↑n : Int) ∧ (↑(0 : Nat) : Int) = (0 : Int) ∧ (↑n : Int) = (↑n : Int) ∧ (↑(0 : Nat) : Int) = (0 : Int) ∧ True) ∧ True) ∧ Sat Tryd.prog none 0 (at' 78 [1, 1, 1, 0, 1, 0]) (mkSt g0 37 (igX l n 0 0)) (outsP g0 37 [(True, Ex.exit 0, igZ n P)]) ∧ (True → binV (ctxOf Tryd.prog) BinOp.shl 28 (V.int IntKind.u64 (1 : Int)) (i6 (↑n : Int)) = some (u6 (↑w : Int)) ∧ wr IntKind.u64 ((↑w : Int) - (1 : Int)) = (↑(w - 1) : Int) ∧ ((↑P : Int) == (↑(w - 1) : Int)) = true ∧ (true = true ∧ True) ∧ True) ∧ True) = _) ?_
      (repeat' (first | (with_reducible apply And.intro) | (refine fun (_ : True) => ?_))) <;> first | exact aq | skip
      all_goals exact wr_in (by simp [lo]; omega) (by simp [hi]; omega) |>.trans (by omega)
    | false =>
      have hPe : P ≠ 2 ^ n - 1 := fun h => by rw [hiff.1 h] at hb; cases hb
      generalize 2 ^ n = w at *
      clear hiff hb hP
      refine FnOk.of_vc vE_ok mixed sp0_ok (n := 1000) (r := []) (S := bR4 false) (hs := [no 11, (0, .loop [] (igX l n 0 0) [(True, .exit 0, igZ n P)]), va 34 (u6 w), nu 35 (w - 1 : Nat), no 36]) ?_
      refine Eq.mp (by kernel_rfl : (V.bool false = V.bool false ∧ ((↑(List.length l) : Int) != (↑n : Int)) = false ∧ (((List.length l = List.length l ∧ ut l = ut l) ∧ (↑n : Int) = (↑n : Int) ∧ (↑(0 : Nat) : Int) = (0 : Int) ∧ (↑n : Int) = (↑n : Int) ∧ (↑(0 : Nat) : Int) = (0 : Int) ∧ True) ∧ True) ∧ Sat Tryd.prog none 0 (at' 78 [1, 1, 1, 0, 1, 0]) (mkSt g0 37 (igX l n 0 0)) (outsP g0 37 [(True, Ex.exit 0, igZ n P)]) ∧ (True → binV (ctxOf Tryd.prog) BinOp.shl 28 (V.int IntKind.u64 (1 : Int)) (i6 (↑n : Int)) = some (u6 (↑w : Int)) ∧ wr IntKind.u64 ((↑w : Int) - (1 : Int)) = (↑(w - 1) : Int) ∧ ((↑P : Int) == (↑(w - 1) : Int)) = false ∧ (false = false ∧ True) ∧ True) ∧ True) = _) ?_
      (repeat' (first | (with_reducible apply And.intro) | (refine fun (_ : True) => ?_))) <;> first | exact aq | skip
      all_goals exact wr_in (by simp [lo]; omega) (by simp [hi]; omega) |>.trans (by omega)
  · rw [decide_eq_false hl, Bool.false_and]
    refine FnOk.of_vc vE_ok mixed sp0_ok (n := 1000) (r := []) (S := bR4 false) (hs := [yes 11]) ?_
    refine Eq.mp (by kernel_rfl : (V.bool false = V.bool false ∧ ((↑(List.length l) : Int) != (↑n : Int)) = true ∧ (false = false ∧ True) ∧ True) = _) ?_
    exact au

/-! ### the reference's Graph -/
theorem rg_first (l : List Nat) (n : Nat) (hl : l.length = n) (hn : n ≤ 6) (h64 : S64 l) :
    Sat Pg none 0 (at' 67 [1, 1, 0, 1, 0]) (mkSt g0 67 { sl := [(0, ul l), (5, i6 (0 : Nat))] }) (outsP g0 67 [((List.range n).all (fun u => !outL l n u) = true, .exit 0, { sl := [(0, ul l)] }), ((List.range n).all (fun u => !outL l n u) = false, .ret, bR4 false)]) := by
  refine loopC vE_ok mixed sp0_ok (b := at' 67 [1, 1, 0, 1, 0, 0]) (by kernel_rfl) (fun k : Nat => k ≤ n ∧ ∀ j, j < k → (!outL l n j) = true) (fun k : Nat => { sl := [(0, ul l), (5, i6 k)] }) (fun k => n - k) (fun k hk => ?_) 0 ⟨Nat.zero_le _, fun j h => absurd h (Nat.not_lt_zero _)⟩
  obtain ⟨hk, hj⟩ := hk
  by_cases hlt : k < n
  · have hld := @head_ut l k (by omega)
    have s1 := @shr_u (ctxOf Pg) 28 (l.getD k 0) n (by omega)
    have hout : outL l n k = !decide (l.getD k 0 / 2 ^ n = 0) := rfl
    generalize l.getD k 0 = s at *
    rw [← hl] at s1
    by_cases h0 : s / 2 ^ n = 0
    · rw [decide_eq_true h0] at hout
      rw [hl, h0, ← hl] at s1
      refine .inl ⟨k + 1, [], [yes 22, pl 27, ld 28 (u6 s), va 31 (u6 (0 : Nat)), no 32, nu 24 (k + 1 : Nat)], 1000, ⟨hlt, fun j hj1 => ?_⟩, by omega, ?_⟩
      · rcases Nat.lt_succ_iff_lt_or_eq.1 hj1 with h2 | h2
        · exact hj j h2
        · subst h2; rw [hout]; rfl
      · refine Eq.mp (by kernel_rfl : (decide ((↑k : Int) < (↑(List.length l) : Int)) = true ∧ ((0 : Int) ≤ (↑k : Int) ∧ (↑k : Int) < (↑(List.length l) : Int)) ∧ headF (List.drop (k * 1) (ut l)) = some (u6 (↑s : Int)) ∧ binV (ctxOf Tryd.prog) BinOp.shr 28 (u6 (↑s : Int)) (V.int IntKind.i64 (↑(List.length l) : Int)) = some (u6 (↑(0 : Nat) : Int)) ∧ ((↑(0 : Nat) : Int) != (0 : Int)) = false ∧ wr IntKind.i64 ((↑k : Int) + (1 : Int)) = (↑(k + 1) : Int) ∧ ((List.length l = List.length l ∧ ut l = ut l) ∧ (↑(k + 1) : Int) = (↑(k + 1) : Int) ∧ True) ∧ True) = _) ?_
        exact au
    · rw [decide_eq_false h0] at hout
      have hall := all_range_f (p := fun u => !outL l n u) hlt (by rw [hout]; rfl)
      rw [hl] at s1
      generalize s / 2 ^ n = z at *
      rw [← hl] at s1
      refine .inr ⟨.ret, [], bR4 false, [yes 22, pl 27, ld 28 (u6 s), va 31 (u6 z), yes 32], 1000, .inr (.inl ⟨hall, rfl, rfl⟩), ?_⟩
      refine Eq.mp (by kernel_rfl : (decide ((↑k : Int) < (↑(List.length l) : Int)) = true ∧ ((0 : Int) ≤ (↑k : Int) ∧ (↑k : Int) < (↑(List.length l) : Int)) ∧ headF (List.drop (k * 1) (ut l)) = some (u6 (↑s : Int)) ∧ binV (ctxOf Tryd.prog) BinOp.shr 28 (u6 (↑s : Int)) (V.int IntKind.i64 (↑(List.length l) : Int)) = some (u6 (↑z : Int)) ∧ ((↑z : Int) != (0 : Int)) = true ∧ (false = false ∧ True) ∧ True) = _) ?_
      exact au
  · have : k = n := by omega
    subst this
    refine .inr ⟨.exit 0, [], { sl := [(0, ul l)] }, [no 22], 1000, .inl ⟨GG.all_range.2 hj, rfl, rfl⟩, ?_⟩
    refine Eq.mp (by kernel_rfl : (decide ((↑k : Int) < (↑(List.length l) : Int)) = false ∧ ((List.length l = List.length l ∧ ut l = ut l) ∧ True) ∧ True) = _) ?_
    exact au
abbrev rgJ (l : List Nat) (i k j A : Nat) : SL := { sl := [(0, ul l), (6, i6 i), (7, u6 A), (8, i6 k), (9, i6 j)] }
abbrev rgK (l : List Nat) (i k A : Nat) : SL := { sl := [(0, ul l), (6, i6 i), (7, u6 A), (8, i6 k)] }
abbrev rgI (l : List Nat) (i A : Nat) : SL := { sl := [(0, ul l), (6, i6 i), (7, u6 A)] }
theorem cloR_lt {n : Nat} {l : List Nat} {Q : Nat → Bool} (h : ∀ u, Q u = true → u < 64) (h64 : S64 l) : ∀ j u, GG.cloR (relL l) Q j u = true → u < 64
  | 0, u, hu => h u hu
  | j + 1, u, hu => by
    unfold GG.cloR GG.clo1 at hu
    simp only [Bool.or_eq_true, Bool.and_eq_true] at hu
    rcases hu with hu | ⟨_, hu⟩
    · exact cloR_lt (n := n) h h64 j u hu
    · rcases Nat.lt_or_ge u 64 with h' | h'
      · exact h'
      · have : (l.getD j 0).testBit u = false := Nat.testBit_lt_two_pow (Nat.lt_of_lt_of_le (show l.getD j 0 < 2 ^ 64 from h64.get j) (Nat.pow_le_pow_right (by omega) h'))
        unfold relL at hu
        rw [this] at hu; cases hu
theorem rg_j (l : List Nat) (n : Nat) (hl : l.length = n) (hn : n ≤ 6) (h64 : S64 l) (i k A : Nat) (Q : Nat → Bool) (hA : Bits A Q) (B : Nat) (hB : Bits B (GG.cloR (relL l) Q n)) :
    Sat Pg none 0 (at' 67 [1, 1, 1, 0, 1, 0, 0, 1, 0, 0, 1, 0, 1, 0, 0, 1, 0, 0, 1, 0]) (mkSt g0 67 (rgJ l i k 0 A)) (outsP g0 67 [(True, .exit 6, rgK l i k B)]) := by
  refine loopC vE_ok mixed sp0_ok (b := at' 67 [1, 1, 1, 0, 1, 0, 0, 1, 0, 0, 1, 0, 1, 0, 0, 1, 0, 0, 1, 0, 0]) (by kernel_rfl) (fun q : Nat × Nat => q.1 ≤ n ∧ Bits q.2 (GG.cloR (relL l) Q q.1)) (fun q => rgJ l i k q.1 q.2) (fun q => n - q.1) (fun q hq => ?_) (0, A) ⟨Nat.zero_le _, hA⟩
  obtain ⟨j, p⟩ := q
  obtain ⟨hj, hp, hb⟩ := hq
  dsimp only at hj hp hb
  by_cases hlt : j < n
  · have hld := @head_ut l j (by omega)
    have hs := h64.get j
    have hin := in_set p j (by omega)
    have hstep : ∀ u, GG.cloR (relL l) Q (j + 1) u = (p.testBit u || (p.testBit j && (l.getD j 0).testBit u)) := fun u => by
      show (GG.cloR (relL l) Q j u || (GG.cloR (relL l) Q j j && relL l j u)) = _
      rw [← hb, ← hb]; rfl
    generalize l.getD j 0 = s at *
    cases hc : p.testBit j with
    | true =>
      rw [hc] at hin
      obtain ⟨o1, o2⟩ := @or_u (ctxOf Pg) 28 p s hp hs
      have hnb : Bits (p ||| s) (GG.cloR (relL l) Q (j + 1)) := ⟨o2, fun u => by rw [hstep, hc, Bool.true_and, Nat.testBit_or]⟩
      generalize p ||| s = p2 at *
      refine .inl ⟨(j + 1, p2), [], [yes 52, fn 57 (.bool true), pl 61, ld 62 (u6 s), va 63 (u6 p2), nu 54 (j + 1 : Nat)], 1000, ⟨hlt, hnb⟩, by dsimp only; omega, ?_⟩
      clear hnb hstep hb hB hA hc
      refine Eq.mp (by kernel_rfl : (decide ((↑j : Int) < (↑(List.length l) : Int)) = true ∧ (True ∧ True ∧ True) ∧ FnOk Tryd.prog g0 77 [V.int IntKind.u64 (↑p : Int), V.int IntKind.i64 (↑j : Int)] (V.bool true) ∧ True ∧ ((0 : Int) ≤ (↑j : Int) ∧ (↑j : Int) < (↑(List.length l) : Int)) ∧ headF (List.drop (j * 1) (ut l)) = some (u6 (↑s : Int)) ∧ binV (ctxOf Tryd.prog) BinOp.or 28 (u6 (↑p : Int)) (u6 (↑s : Int)) = some (u6 (↑p2 : Int)) ∧ wr IntKind.i64 ((↑j : Int) + (1 : Int)) = (↑(j + 1) : Int) ∧ ((List.length l = List.length l ∧ ut l = ut l) ∧ (↑i : Int) = (↑i : Int) ∧ (↑p2 : Int) = (↑p2 : Int) ∧ (↑k : Int) = (↑k : Int) ∧ (↑(j + 1) : Int) = (↑(j + 1) : Int) ∧ True) ∧ True) = _) ?_
      exact au
    | false =>
      rw [hc] at hin
      have hnb : Bits p (GG.cloR (relL l) Q (j + 1)) := ⟨hp, fun u => by rw [hstep, hc, Bool.false_and, Bool.or_false]⟩
      refine .inl ⟨(j + 1, p), [], [yes 52, fn 57 (.bool false), nu 54 (j + 1 : Nat)], 1000, ⟨hlt, hnb⟩, by dsimp only; omega, ?_⟩
      clear hnb hstep hb hB hA hc
      refine Eq.mp (by kernel_rfl : (decide ((↑j : Int) < (↑(List.length l) : Int)) = true ∧ (True ∧ True ∧ True) ∧ FnOk Tryd.prog g0 77 [V.int IntKind.u64 (↑p : Int), V.int IntKind.i64 (↑j : Int)] (V.bool false) ∧ True ∧ wr IntKind.i64 ((↑j : Int) + (1 : Int)) = (↑(j + 1) : Int) ∧ ((List.length l = List.length l ∧ ut l = ut l) ∧ (↑i : Int) = (↑i : Int) ∧ (↑p : Int) = (↑p : Int) ∧ (↑k : Int) = (↑k : Int) ∧ (↑(j + 1) : Int) = (↑(j + 1) : Int) ∧ True) ∧ True) = _) ?_
      exact au
  · have : j = n := by omega
    subst this
    obtain rfl := bits_uniq ⟨hp, hb⟩ hB
    refine .inr ⟨.exit 6, [], rgK l i k p, [no 52], 1000, .inl ⟨trivial, rfl, rfl⟩, ?_⟩
    clear hb hB hA
    refine Eq.mp (by kernel_rfl : (decide ((↑j : Int) < (↑(List.length l) : Int)) = false ∧ ((List.length l = List.length l ∧ ut l = ut l) ∧ (↑i : Int) = (↑i : Int) ∧ (↑p : Int) = (↑p : Int) ∧ (↑k : Int) = (↑k : Int) ∧ True) ∧ True) = _) ?_
    exact au

theorem clo_lt {n : Nat} {l : List Nat} (h64 : S64 l) (i : Nat) : ∀ k u, GG.clo n (relL l) i k u = true → u < 64
  | 0, u, hu => by
    rcases Nat.lt_or_ge u 64 with h' | h'
    · exact h'
    · have : (l.getD i 0).testBit u = false := Nat.testBit_lt_two_pow (Nat.lt_of_lt_of_le (show l.getD i 0 < 2 ^ 64 from h64.get i) (Nat.pow_le_pow_right (by omega) h'))
      have hu' : (l.getD i 0).testBit u = true := hu
      rw [this] at hu'; cases hu'
  | k + 1, u, hu => cloR_lt (n := n) (clo_lt h64 i k) h64 n u hu
theorem rg_k (l : List Nat) (n : Nat) (hl : l.length = n) (hn : n ≤ 6) (h64 : S64 l) (i : Nat) (A B : Nat) (hA : Bits A (GG.clo n (relL l) i 0)) (hB : Bits B (GG.clo n (relL l) i n)) :
    Sat Pg none 0 (at' 67 [1, 1, 1, 0, 1, 0, 0, 1, 0, 0, 1, 0, 1, 0]) (mkSt g0 67 (rgK l i 0 A)) (outsP g0 67 [(True, .exit 4, rgI l i B)]) := by
  refine loopC vE_ok mixed sp0_ok (b := at' 67 [1, 1, 1, 0, 1, 0, 0, 1, 0, 0, 1, 0, 1, 0, 0]) (by kernel_rfl) (fun q : Nat × Nat => q.1 ≤ n ∧ Bits q.2 (GG.clo n (relL l) i q.1)) (fun q => rgK l i q.1 q.2) (fun q => n - q.1) (fun q hq => ?_) (0, A) ⟨Nat.zero_le _, hA⟩
  obtain ⟨k, p⟩ := q
  obtain ⟨hk, hb⟩ := hq
  dsimp only at hk hb
  by_cases hlt : k < n
  · obtain ⟨p2, hp2, _⟩ := bits_ex (n := 64) (Q := GG.clo n (relL l) i (k + 1)) (Nat.le_refl _) (clo_lt h64 i (k + 1))
    have hin := rg_j l n hl hn h64 i k p _ hb p2 hp2
    refine .inl ⟨(k + 1, p2), [], [yes 46, (0, .loop [] (rgJ l i k 0 p) [(True, .exit 6, rgK l i k p2)]), nu 48 (k + 1 : Nat)], 1000, ⟨hlt, hp2⟩, by dsimp only; omega, ?_⟩
    clear hp2 hb hB hA
    refine Eq.mp (by kernel_rfl : (decide ((↑k : Int) < (↑(List.length l) : Int)) = true ∧ (((List.length l = List.length l ∧ ut l = ut l) ∧ (↑i : Int) = (↑i : Int) ∧ (↑p : Int) = (↑p : Int) ∧ (↑k : Int) = (↑k : Int) ∧ (↑(0 : Nat) : Int) = (0 : Int) ∧ True) ∧ True) ∧ Sat Tryd.prog none 0 (at' 67 [1, 1, 1, 0, 1, 0, 0, 1, 0, 0, 1, 0, 1, 0, 0, 1, 0, 0, 1, 0]) (mkSt g0 67 (rgJ l i k 0 p)) (outsP g0 67 [(True, Ex.exit 6, rgK l i k p2)]) ∧ (True → wr IntKind.i64 ((↑k : Int) + (1 : Int)) = (↑(k + 1) : Int) ∧ ((List.length l = List.length l ∧ ut l = ut l) ∧ (↑i : Int) = (↑i : Int) ∧ (↑p2 : Int) = (↑p2 : Int) ∧ (↑(k + 1) : Int) = (↑(k + 1) : Int) ∧ True) ∧ True) ∧ True) = _) ?_
    exact au
  · have : k = n := by omega
    subst this
    obtain rfl := bits_uniq hb hB
    refine .inr ⟨.exit 4, [], rgI l i p, [no 46], 1000, .inl ⟨trivial, rfl, rfl⟩, ?_⟩
    clear hb hB hA
    refine Eq.mp (by kernel_rfl : (decide ((↑k : Int) < (↑(List.length l) : Int)) = false ∧ ((List.length l = List.length l ∧ ut l = ut l) ∧ (↑i : Int) = (↑i : Int) ∧ (↑p : Int) = (↑p : Int) ∧ True) ∧ True) = _) ?_
    exact au
theorem rg_i (l : List Nat) (n : Nat) (hl : l.length = n) (hn : n ≤ 6) (h64 : S64 l) :
    Sat Pg none 0 (at' 67 [1, 1, 1, 0, 1, 0]) (mkSt g0 67 { sl := [(0, ul l), (6, i6 (0 : Nat))] }) (outsP g0 67 [(GG.acyclic n (relL l) = true, .exit 2, { sl := [] }), (GG.acyclic n (relL l) = false, .ret, bR4 false)]) := by
  refine loopC vE_ok mixed sp0_ok (b := at' 67 [1, 1, 1, 0, 1, 0, 0]) (by kernel_rfl) (fun k : Nat => k ≤ n ∧ ∀ j, j < k → (!GG.clo n (relL l) j n j) = true) (fun k : Nat => { sl := [(0, ul l), (6, i6 k)] }) (fun k => n - k) (fun k hk => ?_) 0 ⟨Nat.zero_le _, fun j h => absurd h (Nat.not_lt_zero _)⟩
  obtain ⟨hk, hj⟩ := hk
  by_cases hlt : k < n
  · have hld := @head_ut l k (by omega)
    have hA : Bits (l.getD k 0) (GG.clo n (relL l) k 0) := ⟨h64.get k, fun u => rfl⟩
    obtain ⟨B, hB, _⟩ := bits_ex (n := 64) (Q := GG.clo n (relL l) k n) (Nat.le_refl _) (clo_lt h64 k n)
    have hin := rg_k l n hl hn h64 k _ B hA hB
    have hset := in_set B k (by omega)
    rw [hB.2] at hset
    generalize l.getD k 0 = s at *
    cases hc : GG.clo n (relL l) k n k with
    | true =>
      rw [hc] at hset
      have hall : GG.acyclic n (relL l) = false := all_range_f (p := fun i => !GG.clo n (relL l) i n i) hlt (by rw [hc]; rfl)
      refine .inr ⟨.ret, [], bR4 false, [yes 36, pl 41, ld 42 (u6 s), (0, .loop [] (rgK l k 0 s) [(True, .exit 4, rgI l k B)]), fn 66 (.bool true)], 1000, .inr (.inl ⟨hall, rfl, rfl⟩), ?_⟩
      clear hall hA hB hj hc
      refine Eq.mp (by kernel_rfl : (decide ((↑k : Int) < (↑(List.length l) : Int)) = true ∧ ((0 : Int) ≤ (↑k : Int) ∧ (↑k : Int) < (↑(List.length l) : Int)) ∧ headF (List.drop (k * 1) (ut l)) = some (u6 (↑s : Int)) ∧ (((List.length l = List.length l ∧ ut l = ut l) ∧ (↑k : Int) = (↑k : Int) ∧ (↑s : Int) = (↑s : Int) ∧ (↑(0 : Nat) : Int) = (0 : Int) ∧ True) ∧ True) ∧ Sat Tryd.prog none 0 (at' 67 [1, 1, 1, 0, 1, 0, 0, 1, 0, 0, 1, 0, 1, 0]) (mkSt g0 67 (rgK l k 0 s)) (outsP g0 67 [(True, Ex.exit 4, rgI l k B)]) ∧ (True → (True ∧ True ∧ True) ∧ FnOk Tryd.prog g0 77 [V.int IntKind.u64 (↑B : Int), V.int IntKind.i64 (↑k : Int)] (V.bool true) ∧ True ∧ (false = false ∧ True) ∧ True) ∧ True) = _) ?_
      exact au
    | false =>
      rw [hc] at hset
      refine .inl ⟨k + 1, [], [yes 36, pl 41, ld 42 (u6 s), (0, .loop [] (rgK l k 0 s) [(True, .exit 4, rgI l k B)]), fn 66 (.bool false), nu 38 (k + 1 : Nat)], 1000, ⟨hlt, fun j hj1 => ?_⟩, by omega, ?_⟩
      · rcases Nat.lt_succ_iff_lt_or_eq.1 hj1 with h2 | h2
        · exact hj j h2
        · subst h2; rw [hc]; rfl
      · clear hA hB hj hc
        refine Eq.mp (by kernel_rfl : (decide ((↑k : Int) < (↑(List.length l) : Int)) = true ∧ ((0 : Int) ≤ (↑k : Int) ∧ (↑k : Int) < (↑(List.length l) : Int)) ∧ headF (List.drop (k * 1) (ut l)) = some (u6 (↑s : Int)) ∧ (((List.length l = List.length l ∧ ut l = ut l) ∧ (↑k : Int) = (↑k : Int) ∧ (↑s : Int) = (↑s : Int) ∧ (↑(0 : Nat) : Int) = (0 : Int) ∧ True) ∧ True) ∧ Sat Tryd.prog none 0 (at' 67 [1, 1, 1, 0, 1, 0, 0, 1, 0, 0, 1, 0, 1, 0]) (mkSt g0 67 (rgK l k 0 s)) (outsP g0 67 [(True, Ex.exit 4, rgI l k B)]) ∧ (True → (True ∧ True ∧ True) ∧ FnOk Tryd.prog g0 77 [V.int IntKind.u64 (↑B : Int), V.int IntKind.i64 (↑k : Int)] (V.bool false) ∧ True ∧ wr IntKind.i64 ((↑k : Int) + (1 : Int)) = (↑(k + 1) : Int) ∧ ((List.length l = List.length l ∧ ut l = ut l) ∧ (↑(k + 1) : Int) = (↑(k + 1) : Int) ∧ True) ∧ True) ∧ True) = _) ?_
        exact au
  · have : k = n := by omega
    subst this
    have hall : GG.acyclic k (relL l) = true := GG.all_range.2 hj
    refine .inr ⟨.exit 2, [], { sl := [] }, [no 36], 1000, .inl ⟨hall, rfl, rfl⟩, ?_⟩
    clear hj hall
    refine Eq.mp (by kernel_rfl : (decide ((↑k : Int) < (↑(List.length l) : Int)) = false ∧ True ∧ True) = _) ?_
    exact au
def graphB (l : List Nat) : Bool := decide (1 ≤ l.length) && (decide (l.length ≤ 6) && ((List.range l.length).all (fun u => !outL l l.length u) && GG.acyclic l.length (relL l)))
theorem rgraph_fn (l : List Nat) (h64 : S64 l) : FnOk Pg g0 67 [ul l, i6 6] (.bool (graphB l)) := by
  unfold graphB
  by_cases h1 : 1 ≤ l.length
  · rw [decide_eq_true h1]
    by_cases h2 : l.length ≤ 6
    · rw [decide_eq_true h2]
      have a1 := rg_first l _ rfl h2 h64
      have a2 := rg_i l _ rfl h2 h64
      cases hc1 : (List.range l.length).all (fun u => !outL l l.length u) with
      | false =>
        have a1' := a1.mono (outs2_r (by rw [hc1]; simp) hc1)
        refine FnOk.of_vc vE_ok mixed sp0_ok (n := 1000) (r := []) (S := bR4 false) (hs := [no 12, no 17, (0, .loop [] { sl := [(0, ul l), (5, i6 (0 : Nat))] } [(True, .ret, bR4 false)])]) ?_
        clear a1 a2 hc1
        refine Eq.mp (by kernel_rfl : (V.bool false = V.bool (true && (true && (false && GG.acyclic (List.length l) (relL l)))) ∧ decide ((↑(List.length l) : Int) < (1 : Int)) = false ∧ decide ((↑(List.length l) : Int) > (6 : Int)) = false ∧ (((List.length l = List.length l ∧ ut l = ut l) ∧ (↑(0 : Nat) : Int) = (0 : Int) ∧ True) ∧ True) ∧ Sat Tryd.prog none 0 (at' 67 [1, 1, 0, 1, 0]) (mkSt g0 67 (SL.mk [(0, ul l), (5, i6 (↑(0 : Nat) : Int))] [] [] [])) (outsP g0 67 [(True, Ex.ret, bR4 false)]) ∧ (True → (false = false ∧ True) ∧ True) ∧ True) = _) ?_
        exact au
      | true =>
        have a1' := a1.mono (outs2_l hc1 (by rw [hc1]; simp))
        cases hc2 : GG.acyclic l.length (relL l) with
        | false =>
          have a2' := a2.mono (outs2_r (by rw [hc2]; simp) hc2)
          refine FnOk.of_vc vE_ok mixed sp0_ok (n := 1000) (r := []) (S := bR4 false) (hs := [no 12, no 17, (0, .loop [] { sl := [(0, ul l), (5, i6 (0 : Nat))] } [(True, .exit 0, { sl := [(0, ul l)] })]), (0, .loop [] { sl := [(0, ul l), (6, i6 (0 : Nat))] } [(True, .ret, bR4 false)])]) ?_
          clear a1 a2 hc1 hc2
          refine Eq.mp (by kernel_rfl : (V.bool false = V.bool (true && (true && (true && false))) ∧ decide ((↑(List.length l) : Int) < (1 : Int)) = false ∧ decide ((↑(List.length l) : Int) > (6 : Int)) = false ∧ (((List.length l = List.length l ∧ ut l = ut l) ∧ (↑(0 : Nat) : Int) = (0 : Int) ∧ True) ∧ True) ∧ Sat Tryd.prog none 0 (at' 67 [1, 1, 0, 1, 0]) (mkSt g0 67 (SL.mk [(0, ul l), (5, i6 (↑(0 : Nat) : Int))] [] [] [])) (outsP g0 67 [(True, Ex.exit 0, SL.mk [(0, ul l)] [] [] [])]) ∧ (True → (((List.length l = List.length l ∧ ut l = ut l) ∧ (↑(0 : Nat) : Int) = (0 : Int) ∧ True) ∧ True) ∧ Sat Tryd.prog none 0 (at' 67 [1, 1, 1, 0, 1, 0]) (mkSt g0 67 (SL.mk [(0, ul l), (6, i6 (↑(0 : Nat) : Int))] [] [] [])) (outsP g0 67 [(True, Ex.ret, bR4 false)]) ∧ (True → (false = false ∧ True) ∧ True) ∧ True) ∧ True) = _) ?_
          exact au
        | true =>
          have a2' := a2.mono (outs2_l hc2 (by rw [hc2]; simp))
          refine FnOk.of_vc vE_ok mixed sp0_ok (n := 1000) (r := []) (S := bR4 true) (hs := [no 12, no 17, (0, .loop [] { sl := [(0, ul l), (5, i6 (0 : Nat))] } [(True, .exit 0, { sl := [(0, ul l)] })]), (0, .loop [] { sl := [(0, ul l), (6, i6 (0 : Nat))] } [(True, .exit 2, { sl := [] })])]) ?_
          clear a1 a2 hc1 hc2
          refine Eq.mp (by kernel_rfl : (V.bool true = V.bool (true && (true && (true && true))) ∧ decide ((↑(List.length l) : Int) < (1 : Int)) = false ∧ decide ((↑(List.length l) : Int) > (6 : Int)) = false ∧ (((List.length l = List.length l ∧ ut l = ut l) ∧ (↑(0 : Nat) : Int) = (0 : Int) ∧ True) ∧ True) ∧ Sat Tryd.prog none 0 (at' 67 [1, 1, 0, 1, 0]) (mkSt g0 67 (SL.mk [(0, ul l), (5, i6 (↑(0 : Nat) : Int))] [] [] [])) (outsP g0 67 [(True, Ex.exit 0, SL.mk [(0, ul l)] [] [] [])]) ∧ (True → (((List.length l = List.length l ∧ ut l = ut l) ∧ (↑(0 : Nat) : Int) = (0 : Int) ∧ True) ∧ True) ∧ Sat Tryd.prog none 0 (at' 67 [1, 1, 1, 0, 1, 0]) (mkSt g0 67 (SL.mk [(0, ul l), (6, i6 (↑(0 : Nat) : Int))] [] [] [])) (outsP g0 67 [(True, Ex.exit 2, SL.mk [] [] [] [])]) ∧ (True → (true = true ∧ True) ∧ True) ∧ True) ∧ True) = _) ?_
          exact au
    · rw [decide_eq_false h2]
      refine FnOk.of_vc vE_ok mixed sp0_ok (n := 1000) (r := []) (S := bR4 false) (hs := [no 12, yes 17]) ?_
      refine Eq.mp (by kernel_rfl : (V.bool false = V.bool (true && (false && ((List.all (List.range (List.length l)) fun u => !outL l (List.length l) u) && GG.acyclic (List.length l) (relL l)))) ∧ decide ((↑(List.length l) : Int) < (1 : Int)) = false ∧ decide ((↑(List.length l) : Int) > (6 : Int)) = true ∧ (false = false ∧ True) ∧ True) = _) ?_
      exact au
  · rw [decide_eq_false h1]
    refine FnOk.of_vc vE_ok mixed sp0_ok (n := 1000) (r := []) (S := bR4 false) (hs := [yes 12]) ?_
    refine Eq.mp (by kernel_rfl : (V.bool false = V.bool (false && (decide (List.length l ≤ 6) && ((List.all (List.range (List.length l)) fun u => !outL l (List.length l) u) && GG.acyclic (List.length l) (relL l)))) ∧ decide ((↑(List.length l) : Int) < (1 : Int)) = true ∧ (false = false ∧ True) ∧ True) = _) ?_
    exact au

/-! ### both find the same -/
def fitsB (n : Nat) (l : List Nat) : Bool := decide (l.length = n) && graphB l
theorem fits_fn (n : Nat) (l : List Nat) (h64 : S64 l) : FnOk Pg g0 29 [i6 n, ul l] (.bool (fitsB n l)) := by
  have h := rgraph_fn l h64
  unfold fitsB
  by_cases hl : l.length = n
  · rw [decide_eq_true hl, Bool.true_and]
    generalize graphB l = b at *
    cases b
    · refine FnOk.of_vc vE_ok mixed sp0_ok (n := 1000) (r := []) (S := bR4 false) (hs := [yes 8, fn 11 (.bool false)]) ?_
      refine Eq.mp (by kernel_rfl : (V.bool false = V.bool false ∧ ((↑(List.length l) : Int) == (↑n : Int)) = true ∧ (True ∧ True ∧ True) ∧ FnOk Tryd.prog g0 67 [V.im (List.length l) (ut l), V.int IntKind.i64 (6 : Int)] (V.bool false) ∧ True ∧ (false = false ∧ True) ∧ True) = _) ?_
      exact au
    · refine FnOk.of_vc vE_ok mixed sp0_ok (n := 1000) (r := []) (S := bR4 true) (hs := [yes 8, fn 11 (.bool true)]) ?_
      refine Eq.mp (by kernel_rfl : (V.bool true = V.bool true ∧ ((↑(List.length l) : Int) == (↑n : Int)) = true ∧ (True ∧ True ∧ True) ∧ FnOk Tryd.prog g0 67 [V.im (List.length l) (ut l), V.int IntKind.i64 (6 : Int)] (V.bool true) ∧ True ∧ (true = true ∧ True) ∧ True) = _) ?_
      exact au
  · rw [decide_eq_false hl, Bool.false_and]
    refine FnOk.of_vc vE_ok mixed sp0_ok (n := 1000) (r := []) (S := bR4 false) (hs := [no 8]) ?_
    refine Eq.mp (by kernel_rfl : (V.bool false = V.bool false ∧ ((↑(List.length l) : Int) == (↑n : Int)) = false ∧ (false = false ∧ True) ∧ True) = _) ?_
    exact au
theorem fits_same (n : Nat) (l : List Nat) (h1 : 1 ≤ n) (h6 : n ≤ 6) : (decide (l.length = n) && GG.placedAll n (relL l) (outL l n)) = fitsB n l := by
  unfold fitsB graphB
  by_cases hl : l.length = n
  · rw [decide_eq_true hl, hl, decide_eq_true h1, decide_eq_true h6, Bool.true_and, Bool.true_and, Bool.true_and, Bool.true_and]
    exact GG.graph_same (fun u _ ho p hp => out_in ho p hp)
  · rw [decide_eq_false hl, Bool.false_and, Bool.false_and]

end Go.Proofs.YtglpoiaedkoecaaDoor.Am
