/- IndexNumbers: the law returns true, whatever it is called with: the whole walk. -/
import Derived.Test.YtmnaidemihcfaaaV5
namespace Go.Proofs.Ytmnaidemihcfaaa.Am
open Go.RowKit
set_option linter.unusedVariables false
set_option maxHeartbeats 1000000
set_option maxRecDepth 100000

abbrev noS (M A B : List Int) (i k : Int) (j : Nat) : SL := { sl := [(1, sl M), (2, i6 i), (4, .int .u16 k), (34, .agg [sl A, sl B]), (35, i6 j)] }

theorem outer (M A B : List Int) (i k : Int) (hk0 : 0 ≤ k) (hk1 : k ≤ 65535) (hA : A.length ≤ 14) (hB : B.length ≤ 14) (j : Nat) (hj : j ≤ 2) :
    Sat Pg none 0 (at' 7 [1, 1, 0, 1, 0]) (mkSt .e 147 (noS M A B i k j)) (outsP .e 147 [(True, .exit 0, { sl := [] })]) := by
  refine loopC vE_ok mixed sp0_ok (b := at' 7 [1, 1, 0, 1, 0, 0]) (by kernel_rfl) (fun j => j ≤ 2) (noS M A B i k) (fun j => 2 - j) (fun j hj => ?_) j hj
  by_cases hlt : j < 2
  · obtain ⟨c, hc, hcc⟩ := pick29 A B j hlt
    have hlen : c.length ≤ 14 := by rcases hcc with rfl | rfl <;> assumption
    have hfirst := first_ok c
    have hsize := size_ok (gl := .e) c
    have hcheck := check_ok (gl := .e) c
    have hcut := cut_ok M
    have htl : (M.take 14).length ≤ 14 := by simp; omega
    cases hcount : count c with
    | none =>
      rw [hcount] at hfirst hcheck
      have hfirst' : FnOk Pg .e 19 [sl c] (i6 20) := hfirst
      have hcheck' : FnOk Pg .e 42 [sl c] (i6 20) := hcheck
      have hsize' : FnOk Pg .e 38 [sl c] (.tup [i6 0, i6 20]) := by
        have : sizeG c = (0, 20) := by simp [sizeG, hcount]
        rw [this] at hsize; exact hsize
      have hn := number_20 0
      have hm := made_err c (k.tmod 1)
      have hl1 := inner1 M A B c i k 20 0 j i (k.tmod 1) hlen (.inl ⟨hcount, rfl, rfl⟩) 0 (Nat.zero_le _)
      have hl2 := inner2 M A B c i k 20 0 j (M.take 14) [] hlen htl (by simp) (.inl ⟨hcount, rfl, rfl⟩) 0 (Nat.zero_le _)
      refine .inl ⟨j + 1, [], [yes 36, va 37 (sl c), fn 39 (i6 20), fn 42 (.tup [i6 0, i6 20]), fn 46 (i6 20), fn 57 (.bool true), nu 61 k, nu 63 1, (0, .loop [] (n1S M A B c i k 20 0 j i (k.tmod 1) 0) [(True, .exit 2, nmS M A B c i k 20 0 j [])]), fn 110 (sl (M.take 14)), nu 114 k, nu 116 1, fn 118 (.im 0 []), (0, .loop [] (n2S M A B c i k 20 0 j (M.take 14) [] 0) [(True, .exit 4, nmS M A B c i k 20 0 j [])]), nu 146 (j + 1 : Nat)], 1000, hlt, by omega, ?_⟩
      refine Eq.mp (by kernel_rfl : (decide ((↑j : Int) < (2 : Int)) = true ∧
            idxV (ctxOf Try.prog) (29 : Nat) (V.agg [sl A, sl B]) (↑j : Int) = some (sl c) ∧
              (True ∧ True) ∧
                FnOk Try.prog T.e (19 : Nat) [V.im (List.length c) (ints c)] (i6 (20 : Int)) ∧
                  True ∧
                    (True ∧ True) ∧
                      FnOk Try.prog T.e (38 : Nat) [V.im (List.length c) (ints c)] (V.tup [i6 (0 : Int), i6 (20 : Int)]) ∧
                        True ∧
                          (True ∧ True) ∧
                            FnOk Try.prog T.e (42 : Nat) [V.im (List.length c) (ints c)] (i6 (20 : Int)) ∧
                              True ∧
                                (True ∧ True ∧ True ∧ True ∧ True) ∧
                                  FnOk Try.prog T.e (26 : Nat)
                                      [V.int IntKind.i64 (0 : Int), V.int IntKind.i64 (20 : Int), V.int IntKind.i64 (20 : Int),
                                        V.int IntKind.i64 (0 : Int)]
                                      (V.bool true) ∧
                                    True ∧
                                      wr IntKind.i64 k = k ∧
                                        (if (0 : Int) > (1 : Int) then (0 : Int) else (1 : Int)) = (1 : Int) ∧
                                          (((List.length M = List.length M ∧ ints M = ints M) ∧
                                                i = i ∧
                                                  k = k ∧
                                                    (List.length c = List.length c ∧ ints c = ints c) ∧
                                                      (20 : Int) = (20 : Int) ∧
                                                        (0 : Int) = (0 : Int) ∧
                                                          ((List.length A = List.length A ∧ ints A = ints A) ∧
                                                              (List.length B = List.length B ∧ ints B = ints B) ∧ True) ∧
                                                            (↑j : Int) = (↑j : Int) ∧
                                                              (i = i ∧ Int.tmod k (1 : Int) = Int.tmod k (1 : Int) ∧ True) ∧
                                                                (↑(0 : Nat) : Int) = (0 : Int) ∧ True) ∧
                                              True) ∧
                                            Sat Try.prog none (0 : Nat)
                                                (at' (7 : Nat)
                                                  [(1 : Nat), (1 : Nat), (0 : Nat), (1 : Nat), (0 : Nat), (0 : Nat), (1 : Nat),
                                                    (1 : Nat), (0 : Nat), (0 : Nat), (1 : Nat), (1 : Nat), (1 : Nat), (1 : Nat),
                                                    (1 : Nat), (1 : Nat), (1 : Nat), (0 : Nat), (1 : Nat), (0 : Nat)])
                                                (mkSt T.e (147 : Nat)
                                                  (n1S M A B c i k (20 : Int) (0 : Int) j i (Int.tmod k (1 : Int)) (0 : Nat)))
                                                (outsP T.e (147 : Nat)
                                                  [(True, Ex.exit (2 : Nat), nmS M A B c i k (20 : Int) (0 : Int) j [])]) ∧
                                              (True →
                                                  (True ∧ True) ∧
                                                    FnOk Try.prog T.e (16 : Nat) [V.im (List.length M) (ints M)]
                                                        (sl (List.take (14 : Nat) M)) ∧
                                                      True ∧
                                                        wr IntKind.i64 k = k ∧
                                                          (if (0 : Int) > (1 : Int) then (0 : Int) else (1 : Int)) = (1 : Int) ∧
                                                            (True ∧ True ∧ True ∧ True) ∧
                                                              FnOk Try.prog T.e (43 : Nat)
                                                                  [V.im (List.length c) (ints c), V.int IntKind.i64 (20 : Int),
                                                                    V.int IntKind.i64 (Int.tmod k (1 : Int))]
                                                                  (V.im (0 : Nat) []) ∧
                                                                ((V.fn (16 : Nat) [] = V.fn (43 : Nat) [] →
                                                                      [sl M] =
                                                                          [sl c, i6 (20 : Int),
                                                                            V.int IntKind.i64 (Int.tmod k (1 : Int))] →
                                                                        ofOs T.e (0 : Nat) [] = ofOs T.e (0 : Nat) [] →
                                                                          (0 : Nat) = (0 : Nat) →
                                                                            CR.mk (sl (List.take (14 : Nat) M))
                                                                                (ofOs T.e (0 : Nat) []) (0 : Nat) [] =
                                                                              CR.mk (V.im (0 : Nat) []) (ofOs T.e (0 : Nat) [])
                                                                                (0 : Nat) []) ∧
                                                                    True) ∧
                                                                  (((List.length M = List.length M ∧ ints M = ints M) ∧
                                                                        i = i ∧
                                                                          k = k ∧
                                                                            (List.length c = List.length c ∧ ints c = ints c) ∧
                                                                              (20 : Int) = (20 : Int) ∧
                                                                                (0 : Int) = (0 : Int) ∧
                                                                                  ((List.length A = List.length A ∧
                                                                                        ints A = ints A) ∧
                                                                                      (List.length B = List.length B ∧
                                                                                          ints B = ints B) ∧
                                                                                        True) ∧
                                                                                    (↑j : Int) = (↑j : Int) ∧
                                                                                      ((List.length (List.take (14 : Nat) M) =
                                                                                              List.length
                                                                                                (List.take (14 : Nat) M) ∧
                                                                                            ints (List.take (14 : Nat) M) =
                                                                                              ints (List.take (14 : Nat) M)) ∧
                                                                                          ((0 : Nat) = (0 : Nat) ∧ ints [] = []) ∧
                                                                                            True) ∧
                                                                                        (↑(0 : Nat) : Int) = (0 : Int) ∧ True) ∧
                                                                      True) ∧
                                                                    Sat Try.prog none (0 : Nat)
                                                                        (at' (7 : Nat)
                                                                          [(1 : Nat), (1 : Nat), (0 : Nat), (1 : Nat), (0 : Nat),
                                                                            (0 : Nat), (1 : Nat), (1 : Nat), (0 : Nat), (0 : Nat),
                                                                            (1 : Nat), (1 : Nat), (1 : Nat), (1 : Nat), (1 : Nat),
                                                                            (1 : Nat), (1 : Nat), (1 : Nat), (1 : Nat),
                                                                            (0 : Nat)])
                                                                        (mkSt T.e (147 : Nat)
                                                                          (n2S M A B c i k (20 : Int) (0 : Int) j
                                                                            (List.take (14 : Nat) M) [] (0 : Nat)))
                                                                        (outsP T.e (147 : Nat)
                                                                          [(True, Ex.exit (4 : Nat),
                                                                              nmS M A B c i k (20 : Int) (0 : Int) j [])]) ∧
                                                                      (True →
                                                                          wr IntKind.i64 ((↑j : Int) + (1 : Int)) =
                                                                              (↑(j + (1 : Nat)) : Int) ∧
                                                                            ((List.length M = List.length M ∧ ints M = ints M) ∧
                                                                                i = i ∧
                                                                                  k = k ∧
                                                                                    ((List.length A = List.length A ∧
                                                                                          ints A = ints A) ∧
                                                                                        (List.length B = List.length B ∧
                                                                                            ints B = ints B) ∧
                                                                                          True) ∧
                                                                                      (↑(j + (1 : Nat)) : Int) =
                                                                                          (↑(j + (1 : Nat)) : Int) ∧
                                                                                        True) ∧
                                                                              True) ∧
                                                                        True) ∧
                                                True) = _) ?_
      (repeat' (first | (with_reducible apply And.intro) | (refine fun (_ : True) => ?_))) <;> first | with_reducible (first | rfl | exact trivial | assumption | (refine decide_eq_true ?_ <;> omega) | (refine decide_eq_false ?_ <;> omega) | (refine head_ints1 ?_ <;> omega) | (refine bne_false ?_ <;> omega) | (refine bne_true ?_ <;> omega) | (refine beq_false' ?_ <;> omega) | (refine beq_true' ?_ <;> omega) | (refine wr6' ?_ ?_ ?_ <;> omega) | (refine rem6 ?_ <;> omega) | (refine quo6 ?_ ?_ ?_ <;> omega) | exact HfL_ints _ | omega) | ((with_reducible show (_ : V) = _); rfl) | (intro hk_; exact absurd hk_ (by simp)) | (intros; simp_all; done) | (split <;> omega) | ((with_reducible show decide _ = true); exact decide_eq_true (by omega)) | ((with_reducible show decide _ = false); exact decide_eq_false (by omega)) | skip
      rfl
    | some t =>
      obtain ⟨hg, rfl⟩ := good_of hcount
      rw [hcount] at hfirst hcheck
      have hfirst' : FnOk Pg .e 19 [sl c] (i6 0) := hfirst
      have hcheck' : FnOk Pg .e 42 [sl c] (i6 0) := hcheck
      have hsize' : FnOk Pg .e 38 [sl c] (.tup [i6 (prodL c), i6 0]) := by
        have : sizeG c = (prodL c, 0) := by simp [sizeG, hcount]
        rw [this] at hsize; exact hsize
      have hn := number_ok (prodL c)
      have hp := hg.pos
      have hr0 : 0 ≤ k.tmod (prodL c) := Int.tmod_nonneg _ hk0
      have hr1 : k.tmod (prodL c) < prodL c := Int.tmod_lt_of_pos _ (by omega)
      have hm := made_ok c (k.tmod (prodL c)) hg hr0 hr1
      have href := size_fn c (fits_good hg) (by omega)
      have hl1 := inner1 M A B c i k 0 (prodL c) j i (k.tmod (prodL c)) hlen (.inr ⟨hcount, rfl⟩) 0 (Nat.zero_le _)
      have hl2 := inner2 M A B c i k 0 (prodL c) j (M.take 14) (valL c (k.tmod (prodL c))) hlen htl (by rw [valL_length]; omega) (.inr ⟨hcount, rfl⟩) 0 (Nat.zero_le _)
      refine .inl ⟨j + 1, [], [yes 36, va 37 (sl c), fn 39 (i6 0), fn 42 (.tup [i6 (prodL c), i6 0]), fn 46 (i6 0), fn 52 (i6 (prodL c)), fn 57 (.bool true), nu 61 k, nu 63 (prodL c), va 64 (i6 (k.tmod (prodL c))), (0, .loop [] (n1S M A B c i k 0 (prodL c) j i (k.tmod (prodL c)) 0) [(True, .exit 2, nmS M A B c i k 0 (prodL c) j [])]), fn 110 (sl (M.take 14)), nu 114 k, nu 116 (prodL c), va 117 (i6 (k.tmod (prodL c))), fn 118 (sl (valL c (k.tmod (prodL c)))), (0, .loop [] (n2S M A B c i k 0 (prodL c) j (M.take 14) (valL c (k.tmod (prodL c))) 0) [(True, .exit 4, nmS M A B c i k 0 (prodL c) j [])]), nu 146 (j + 1 : Nat)], 1000, hlt, by omega, ?_⟩
      refine Eq.mp (by kernel_rfl : (decide ((↑j : Int) < (2 : Int)) = true ∧
            idxV (ctxOf Try.prog) (29 : Nat) (V.agg [sl A, sl B]) (↑j : Int) = some (sl c) ∧
              (True ∧ True) ∧
                FnOk Try.prog T.e (19 : Nat) [V.im (List.length c) (ints c)] (i6 (0 : Int)) ∧
                  True ∧
                    (True ∧ True) ∧
                      FnOk Try.prog T.e (38 : Nat) [V.im (List.length c) (ints c)] (V.tup [i6 (prodL c), i6 (0 : Int)]) ∧
                        True ∧
                          (True ∧ True) ∧
                            FnOk Try.prog T.e (42 : Nat) [V.im (List.length c) (ints c)] (i6 (0 : Int)) ∧
                              True ∧
                                (True ∧ True) ∧
                                  FnOk Try.prog T.e (21 : Nat) [V.im (List.length c) (ints c)] (i6 (prodL c)) ∧
                                    True ∧
                                      (True ∧ True ∧ True ∧ True ∧ True) ∧
                                        FnOk Try.prog T.e (26 : Nat)
                                            [V.int IntKind.i64 (prodL c), V.int IntKind.i64 (0 : Int),
                                              V.int IntKind.i64 (0 : Int), V.int IntKind.i64 (prodL c)]
                                            (V.bool true) ∧
                                          True ∧
                                            wr IntKind.i64 k = k ∧
                                              (if prodL c > (1 : Int) then prodL c else (1 : Int)) = prodL c ∧
                                                binV (ctxOf Try.prog) BinOp.rem (3 : Nat) (V.int IntKind.i64 k)
                                                      (V.int IntKind.i64 (prodL c)) =
                                                    some (i6 (Int.tmod k (prodL c))) ∧
                                                  (((List.length M = List.length M ∧ ints M = ints M) ∧
                                                        i = i ∧
                                                          k = k ∧
                                                            (List.length c = List.length c ∧ ints c = ints c) ∧
                                                              (0 : Int) = (0 : Int) ∧
                                                                prodL c = prodL c ∧
                                                                  ((List.length A = List.length A ∧ ints A = ints A) ∧
                                                                      (List.length B = List.length B ∧ ints B = ints B) ∧ True) ∧
                                                                    (↑j : Int) = (↑j : Int) ∧
                                                                      (i = i ∧
                                                                          Int.tmod k (prodL c) = Int.tmod k (prodL c) ∧ True) ∧
                                                                        (↑(0 : Nat) : Int) = (0 : Int) ∧ True) ∧
                                                      True) ∧
                                                    Sat Try.prog none (0 : Nat)
                                                        (at' (7 : Nat)
                                                          [(1 : Nat), (1 : Nat), (0 : Nat), (1 : Nat), (0 : Nat), (0 : Nat),
                                                            (1 : Nat), (1 : Nat), (0 : Nat), (0 : Nat), (1 : Nat), (1 : Nat),
                                                            (1 : Nat), (1 : Nat), (1 : Nat), (1 : Nat), (1 : Nat), (0 : Nat),
                                                            (1 : Nat), (0 : Nat)])
                                                        (mkSt T.e (147 : Nat)
                                                          (n1S M A B c i k (0 : Int) (prodL c) j i (Int.tmod k (prodL c))
                                                            (0 : Nat)))
                                                        (outsP T.e (147 : Nat)
                                                          [(True, Ex.exit (2 : Nat), nmS M A B c i k (0 : Int) (prodL c) j [])]) ∧
                                                      (True →
                                                          (True ∧ True) ∧
                                                            FnOk Try.prog T.e (16 : Nat) [V.im (List.length M) (ints M)]
                                                                (sl (List.take (14 : Nat) M)) ∧
                                                              True ∧
                                                                wr IntKind.i64 k = k ∧
                                                                  (if prodL c > (1 : Int) then prodL c else (1 : Int)) = prodL c ∧
                                                                    binV (ctxOf Try.prog) BinOp.rem (3 : Nat)
                                                                          (V.int IntKind.i64 k) (V.int IntKind.i64 (prodL c)) =
                                                                        some (i6 (Int.tmod k (prodL c))) ∧
                                                                      (True ∧ True ∧ True ∧ True) ∧
                                                                        FnOk Try.prog T.e (43 : Nat)
                                                                            [V.im (List.length c) (ints c),
                                                                              V.int IntKind.i64 (0 : Int),
                                                                              V.int IntKind.i64 (Int.tmod k (prodL c))]
                                                                            (sl (valL c (Int.tmod k (prodL c)))) ∧
                                                                          ((V.fn (16 : Nat) [] = V.fn (43 : Nat) [] →
                                                                                [sl M] =
                                                                                    [sl c, i6 (0 : Int),
                                                                                      i6 (Int.tmod k (prodL c))] →
                                                                                  ofOs T.e (0 : Nat) [] = ofOs T.e (0 : Nat) [] →
                                                                                    (0 : Nat) = (0 : Nat) →
                                                                                      CR.mk (sl (List.take (14 : Nat) M))
                                                                                          (ofOs T.e (0 : Nat) []) (0 : Nat) [] =
                                                                                        CR.mk (sl (valL c (Int.tmod k (prodL c))))
                                                                                          (ofOs T.e (0 : Nat) []) (0 : Nat) []) ∧
                                                                              True) ∧
                                                                            (((List.length M = List.length M ∧ ints M = ints M) ∧
                                                                                  i = i ∧
                                                                                    k = k ∧
                                                                                      (List.length c = List.length c ∧
                                                                                          ints c = ints c) ∧
                                                                                        (0 : Int) = (0 : Int) ∧
                                                                                          prodL c = prodL c ∧
                                                                                            ((List.length A = List.length A ∧
                                                                                                  ints A = ints A) ∧
                                                                                                (List.length B = List.length B ∧
                                                                                                    ints B = ints B) ∧
                                                                                                  True) ∧
                                                                                              (↑j : Int) = (↑j : Int) ∧
                                                                                                ((List.length
                                                                                                          (List.take (14 : Nat)
                                                                                                            M) =
                                                                                                        List.length
                                                                                                          (List.take (14 : Nat)
                                                                                                            M) ∧
                                                                                                      ints
                                                                                                          (List.take (14 : Nat)
                                                                                                            M) =
                                                                                                        ints
                                                                                                          (List.take (14 : Nat)
                                                                                                            M)) ∧
                                                                                                    (List.length
                                                                                                            (valL c
                                                                                                              (Int.tmod k
                                                                                                                (prodL c))) =
                                                                                                          List.length
                                                                                                            (valL c
                                                                                                              (Int.tmod k
                                                                                                                (prodL c))) ∧
                                                                                                        ints
                                                                                                            (valL c
                                                                                                              (Int.tmod k
                                                                                                                (prodL c))) =
                                                                                                          ints
                                                                                                            (valL c
                                                                                                              (Int.tmod k
                                                                                                                (prodL c)))) ∧
                                                                                                      True) ∧
                                                                                                  (↑(0 : Nat) : Int) = (0 : Int) ∧
                                                                                                    True) ∧
                                                                                True) ∧
                                                                              Sat Try.prog none (0 : Nat)
                                                                                  (at' (7 : Nat)
                                                                                    [(1 : Nat), (1 : Nat), (0 : Nat), (1 : Nat),
                                                                                      (0 : Nat), (0 : Nat), (1 : Nat), (1 : Nat),
                                                                                      (0 : Nat), (0 : Nat), (1 : Nat), (1 : Nat),
                                                                                      (1 : Nat), (1 : Nat), (1 : Nat), (1 : Nat),
                                                                                      (1 : Nat), (1 : Nat), (1 : Nat), (0 : Nat)])
                                                                                  (mkSt T.e (147 : Nat)
                                                                                    (n2S M A B c i k (0 : Int) (prodL c) j
                                                                                      (List.take (14 : Nat) M)
                                                                                      (valL c (Int.tmod k (prodL c))) (0 : Nat)))
                                                                                  (outsP T.e (147 : Nat)
                                                                                    [(True, Ex.exit (4 : Nat),
                                                                                        nmS M A B c i k (0 : Int) (prodL c) j
                                                                                          [])]) ∧
                                                                                (True →
                                                                                    wr IntKind.i64 ((↑j : Int) + (1 : Int)) =
                                                                                        (↑(j + (1 : Nat)) : Int) ∧
                                                                                      ((List.length M = List.length M ∧
                                                                                            ints M = ints M) ∧
                                                                                          i = i ∧
                                                                                            k = k ∧
                                                                                              ((List.length A = List.length A ∧
                                                                                                    ints A = ints A) ∧
                                                                                                  (List.length B = List.length B ∧
                                                                                                      ints B = ints B) ∧
                                                                                                    True) ∧
                                                                                                (↑(j + (1 : Nat)) : Int) =
                                                                                                    (↑(j + (1 : Nat)) : Int) ∧
                                                                                                  True) ∧
                                                                                        True) ∧
                                                                                  True) ∧
                                                        True) = _) ?_
      (repeat' (first | (with_reducible apply And.intro) | (refine fun (_ : True) => ?_))) <;> first | with_reducible (first | rfl | exact trivial | assumption | (refine decide_eq_true ?_ <;> omega) | (refine decide_eq_false ?_ <;> omega) | (refine head_ints1 ?_ <;> omega) | (refine bne_false ?_ <;> omega) | (refine bne_true ?_ <;> omega) | (refine beq_false' ?_ <;> omega) | (refine beq_true' ?_ <;> omega) | (refine wr6' ?_ ?_ ?_ <;> omega) | (refine rem6 ?_ <;> omega) | (refine quo6 ?_ ?_ ?_ <;> omega) | exact HfL_ints _ | omega) | ((with_reducible show (_ : V) = _); rfl) | (intro hk_; exact absurd hk_ (by simp)) | (intros; simp_all; done) | (split <;> omega) | ((with_reducible show decide _ = true); exact decide_eq_true (by omega)) | ((with_reducible show decide _ = false); exact decide_eq_false (by omega)) | skip
  · have : j = 2 := by omega
    subst this
    refine .inr ⟨.exit 0, [], { sl := [] }, [no 36], 1000, .inl ⟨trivial, rfl, rfl⟩, ?_⟩
    refine Eq.mp (by kernel_rfl : (decide ((↑(2 : Nat) : Int) < (2 : Int)) = false ∧ True ∧ True) = _) ?_
    (repeat' (first | (with_reducible apply And.intro) | (refine fun (_ : True) => ?_))) <;> first | with_reducible (first | rfl | exact trivial | assumption | (refine decide_eq_true ?_ <;> omega) | (refine decide_eq_false ?_ <;> omega) | (refine head_ints1 ?_ <;> omega) | (refine bne_false ?_ <;> omega) | (refine bne_true ?_ <;> omega) | (refine beq_false' ?_ <;> omega) | (refine beq_true' ?_ <;> omega) | (refine wr6' ?_ ?_ ?_ <;> omega) | (refine rem6 ?_ <;> omega) | (refine quo6 ?_ ?_ ?_ <;> omega) | exact HfL_ints _ | omega) | ((with_reducible show (_ : V) = _); rfl) | (intro hk_; exact absurd hk_ (by simp)) | (intros; simp_all; done) | (split <;> omega) | ((with_reducible show decide _ = true); exact decide_eq_true (by omega)) | ((with_reducible show decide _ = false); exact decide_eq_false (by omega)) | skip

theorem numbers_true (L M C D : List Int) (i w k : Int) (hC : u8s C) (hk0 : 0 ≤ k) (hk1 : k ≤ 65535) : FnOk Pg .e 7 [sl L, sl M, i6 i, drV C D w, .int .u16 k] (.bool true) := by
  have hw := works_ok
  have hcut := cut_ok L
  have hcards := cards_fn C D w hC
  have hl := outer M (L.take 14) (cardsD C) i k hk0 hk1 (by simp; omega) (by simp [cardsD]; omega) 0 (Nat.zero_le _)
  refine FnOk.of_vc vE_ok mixed sp0_ok (n := 1000) (r := []) (S := boE 10 true) (hs := [fn 28 (.bool true), fn 31 (sl (L.take 14)), fn 33 (sl (cardsD C)), (0, .loop [] (noS M (L.take 14) (cardsD C) i k 0) [(True, .exit 0, { sl := [] })])]) ?_
  refine Eq.mp (by kernel_rfl : (V.bool true = V.bool true ∧
        True ∧
          FnOk Try.prog T.e (15 : Nat) [] (V.bool true) ∧
            True ∧
              (True ∧ True) ∧
                FnOk Try.prog T.e (16 : Nat) [V.im (List.length L) (ints L)] (sl (List.take (14 : Nat) L)) ∧
                  True ∧
                    ((True ∧ True ∧ True ∧ True) ∧ True) ∧
                      FnOk Try.prog T.e (17 : Nat)
                          [V.agg
                              [V.im (List.length C) (List.map (V.int IntKind.u8) C), V.int IntKind.u16 w,
                                V.im (List.length D) (List.map (V.int IntKind.u8) D)]]
                          (sl (cardsD C)) ∧
                        ((V.fn (16 : Nat) [] = V.fn (17 : Nat) [] →
                              [sl L] = [V.agg [sl8 C, V.int IntKind.u16 w, sl8 D]] →
                                pt T.e (0 : Nat) (O.row (26 : Nat) none [sl8 C, V.int IntKind.u16 w, sl8 D]) =
                                    pt T.e (0 : Nat) (O.row (26 : Nat) none [sl8 C, V.int IntKind.u16 w, sl8 D]) →
                                  (0 : Nat) + (1 : Nat) = (0 : Nat) + (1 : Nat) →
                                    CR.mk (sl (List.take (14 : Nat) L))
                                        (pt T.e (0 : Nat) (O.row (26 : Nat) none [sl8 C, V.int IntKind.u16 w, sl8 D]))
                                        ((0 : Nat) + (1 : Nat)) [] =
                                      CR.mk (sl (cardsD C))
                                        (pt T.e (0 : Nat) (O.row (26 : Nat) none [sl8 C, V.int IntKind.u16 w, sl8 D]))
                                        ((0 : Nat) + (1 : Nat)) []) ∧
                            True) ∧
                          (((List.length M = List.length M ∧ ints M = ints M) ∧
                                i = i ∧
                                  k = k ∧
                                    ((List.length (List.take (14 : Nat) L) = List.length (List.take (14 : Nat) L) ∧
                                          ints (List.take (14 : Nat) L) = ints (List.take (14 : Nat) L)) ∧
                                        (List.length (cardsD C) = List.length (cardsD C) ∧
                                            ints (cardsD C) = ints (cardsD C)) ∧
                                          True) ∧
                                      (↑(0 : Nat) : Int) = (0 : Int) ∧ True) ∧
                              True) ∧
                            Sat Try.prog none (0 : Nat)
                                (at' (7 : Nat) [(1 : Nat), (1 : Nat), (0 : Nat), (1 : Nat), (0 : Nat)])
                                (mkSt T.e (147 : Nat) (noS M (List.take (14 : Nat) L) (cardsD C) i k (0 : Nat)))
                                (outsP T.e (147 : Nat) [(True, Ex.exit (0 : Nat), SL.mk [] [] [] [])]) ∧
                              (True → (true = true ∧ True) ∧ True) ∧ True) = _) ?_
  (repeat' (first | (with_reducible apply And.intro) | (refine fun (_ : True) => ?_))) <;> first | with_reducible (first | rfl | exact trivial | assumption | (refine decide_eq_true ?_ <;> omega) | (refine decide_eq_false ?_ <;> omega) | (refine head_ints1 ?_ <;> omega) | (refine bne_false ?_ <;> omega) | (refine bne_true ?_ <;> omega) | (refine beq_false' ?_ <;> omega) | (refine beq_true' ?_ <;> omega) | (refine wr6' ?_ ?_ ?_ <;> omega) | (refine rem6 ?_ <;> omega) | (refine quo6 ?_ ?_ ?_ <;> omega) | exact HfL_ints _ | omega) | ((with_reducible show (_ : V) = _); rfl) | (intro hk_; exact absurd hk_ (by simp)) | (intros; simp_all; done) | (split <;> omega) | ((with_reducible show decide _ = true); exact decide_eq_true (by omega)) | ((with_reducible show decide _ = false); exact decide_eq_false (by omega)) | skip

end Go.Proofs.Ytmnaidemihcfaaa.Am
