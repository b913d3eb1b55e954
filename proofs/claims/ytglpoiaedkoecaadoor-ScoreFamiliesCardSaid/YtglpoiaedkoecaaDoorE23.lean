/- ScoreFamilies: the law returns true, whatever it is called with: the walk. -/
import Derived.Test.YtglpoiaedkoecaaDoorE22
import Derived.Test.YtglpoiaedkoecaaDoorE12
import Derived.Test.YtglpoiaedkoecaaDoorD2
namespace Go.Proofs.YtglpoiaedkoecaaDoor.Am
open Go.RowKit
set_option linter.unusedVariables false
set_option maxHeartbeats 1000000
set_option maxRecDepth 100000

/-! ### numbers of 64 bits -/
theorem wr_u64 (n : Int) : wr .u64 n = n % 18446744073709551616 := by
  unfold wr
  split
  · rename_i h
    simp only [lo, hi] at h
    rw [Int.emod_eq_of_lt h.1 (by omega)]
  · show (n - lo .u64) % wid .u64 + lo .u64 = _
    simp only [lo, wid]; omega
theorem wr_u64_nat (n : Int) : ∃ u : Nat, wr .u64 n = (u : Int) := by
  refine ⟨(n % 18446744073709551616).toNat, ?_⟩
  rw [wr_u64, Int.toNat_of_nonneg (Int.emod_nonneg _ (by omega))]
theorem bits_u64 {G : Ctx} {t : Nat} (op : BinOp) (hop : op = .and ∨ op = .andNot ∨ op = .or) (x y : Int) : ∃ z : Nat, binV G op t (u6 x) (u6 y) = some (u6 (z : Int)) := by
  rcases hop with rfl | rfl | rfl
  · obtain ⟨z, hz⟩ := wr_u64_nat ((BitVec.ofInt 64 x &&& BitVec.ofInt 64 y).toNat : Int)
    exact ⟨z, by show some (V.int .u64 (IntKind.u64.wrap _)) = _; rw [← wr_eq]; exact congrArg (fun z => some (V.int .u64 z)) hz⟩
  · obtain ⟨z, hz⟩ := wr_u64_nat ((BitVec.ofInt 64 x &&& ~~~BitVec.ofInt 64 y).toNat : Int)
    exact ⟨z, by show some (V.int .u64 (IntKind.u64.wrap _)) = _; rw [← wr_eq]; exact congrArg (fun z => some (V.int .u64 z)) hz⟩
  · obtain ⟨z, hz⟩ := wr_u64_nat ((BitVec.ofInt 64 x ||| BitVec.ofInt 64 y).toNat : Int)
    exact ⟨z, by show some (V.int .u64 (IntKind.u64.wrap _)) = _; rw [← wr_eq]; exact congrArg (fun z => some (V.int .u64 z)) hz⟩
theorem shl_u64 {G : Ctx} {t : Nat} (x k : Nat) : ∃ z : Nat, binV G .shl t (u6 (x : Int)) (i6 (k : Int)) = some (u6 (z : Int)) := by
  obtain ⟨z, hz⟩ := wr_u64_nat ((x : Int) * ((2 ^ min k 64 : Nat) : Int))
  refine ⟨z, ?_⟩
  have h1 : ((k : Int) < 0) = False := by simp
  have e : binV G .shl t (u6 (x : Int)) (i6 (k : Int)) = if (k : Int) < 0 then none else some (.int .u64 (wr .u64 ((x : Int) * ((2 ^ min ((k : Int).toNat) 64 : Nat) : Int)))) := rfl
  rw [e, if_neg (by omega), Int.toNat_natCast, hz]
theorem rem_u64 {G : Ctx} {t : Nat} (x n : Nat) (h : n ≠ 0) : binV G .rem t (u6 (x : Int)) (u6 (n : Int)) = some (u6 ((x % n : Nat) : Int)) := by
  have e : binV G .rem t (u6 (x : Int)) (u6 (n : Int)) = if (n : Int) = 0 then none else some (.int .u64 ((x : Int).tmod (n : Int))) := rfl
  rw [e, if_neg (by omega), tmod_nat]

/-! ### the reference's family, for data that are right and whole -/
theorem size_prod {cards : List Int} (h : ∀ k, k < cards.length → 2 ≤ cards.getD k 0) (ps : Nat) : ∀ k, k ≤ cards.length → ((sizeN (toN cards) ps k : Nat) : Int) ≤ prodT cards k ∧ 1 ≤ prodT cards k
  | 0, _ => by simp [sizeN, prodT]
  | k + 1, hk => by
    obtain ⟨h1, h2⟩ := size_prod h ps k (by omega)
    have h3 := h k (by omega)
    have h4 : prodT cards (k + 1) = prodT cards k * cards.getD k 0 := rfl
    have h5 : prodT cards k * 1 ≤ prodT cards k * cards.getD k 0 := Int.mul_le_mul_of_nonneg_left (by omega) (by omega)
    refine ⟨?_, by omega⟩
    unfold sizeN
    rw [h4]
    split
    · have h6 : (((toN cards).getD k 0 : Nat) : Int) = cards.getD k 0 := by rw [toN_get]; omega
      rw [Int.natCast_mul, h6]
      exact Int.mul_le_mul_of_nonneg_right h1 (by omega)
    · omega
theorem ref_ok (cards : List Int) (cs : List (List Int)) (v : Int) (ps : Nat) (h : goodE cards cs = 0) (hm : memB cards.length v ps = true) : FnOk Pg g0 24 [gV cards cs, i6 v, u6 ps] (ar (famG cards cs v ps)) := by
  have hw := whole_ok h
  have hlen := hw.cok.six
  rw [toN_length] at hlen
  unfold memB at hm
  simp only [Bool.and_eq_true, decide_eq_true_eq] at hm
  obtain ⟨m1, m2, m3, m4⟩ := hm
  have hps : ps < 2 ^ cards.length := by
    rcases Nat.lt_or_ge ps (2 ^ cards.length) with h' | h'
    · exact h'
    · have := Nat.div_pos h' (Nat.two_pow_pos _)
      omega
  have hp6 : 2 ^ cards.length ≤ 2 ^ 6 := Nat.pow_le_pow_right (by omega) hlen
  have hsz := (size_prod (cards := cards) (fun k hk => by
    have := (hw.cok.each k (by rw [toN_length]; exact hk)).1
    rw [toN_get] at this; omega) ps cards.length (Nat.le_refl _)).1
  have hsz2 := hw.size
  have := rfam_fn (toN cards) (cs.map toN) v.toNat ps hw.cok hw.rok (by rw [toN_length]; omega) (by rw [List.length_map]; exact hw.len) (by omega) (by rw [toN_length]; omega)
  rwa [← hw.eq, Int.toNat_of_nonneg m1] at this

structure DatOk (cards : List Int) (cs : List (List Int)) : Prop where
  c6 : cards.length ≤ 6
  s41 : cs.length ≤ 41
  r6 : ∀ c ∈ cs, c.length ≤ 6
abbrev y3 (c0 : List Int) (s0 : List (List Int)) (c1 : List Int) (s1 : List (List Int)) (c2 : List Int) (s2 : List (List Int)) : V := .agg [sl c0, gC s0, sl c1, gC s1, sl c2, gC s2]
theorem pick35 {c0 c1 c2 : List Int} {s0 s1 s2 : List (List Int)} (h0 : DatOk c0 s0) (h1 : DatOk c1 s1) (h2 : DatOk c2 s2) (m : Nat) (hm : m < 3) : ∃ c s, DatOk c s ∧ idxV (ctxOf Pg) 35 (y3 c0 s0 c1 s1 c2 s2) (m : Int) = some (gV c s) := by
  have : m = 0 ∨ m = 1 ∨ m = 2 := by omega
  rcases this with rfl | rfl | rfl
  · exact ⟨c0, s0, h0, by kernel_rfl⟩
  · exact ⟨c1, s1, h1, by kernel_rfl⟩
  · exact ⟨c2, s2, h2, by kernel_rfl⟩
abbrev f3 (v : Int) (p : Nat) (w : Nat) (q r : Nat) : V := .agg [i6 v, u6 p, i6 w, u6 q, i6 w, u6 r]
theorem pick39 (v : Int) (p w q r : Nat) (m : Nat) (hm : m < 3) : ∃ (x : Int) (y : Nat), idxV (ctxOf Pg) 39 (f3 v p w q r) (m : Int) = some (.agg [i6 x, u6 y]) := by
  have : m = 0 ∨ m = 1 ∨ m = 2 := by omega
  rcases this with rfl | rfl | rfl
  · exact ⟨v, p, by kernel_rfl⟩
  · exact ⟨w, q, by kernel_rfl⟩
  · exact ⟨w, r, by kernel_rfl⟩

abbrev outer (v : Int) (ps : Nat) (c0 : List Int) (s0 : List (List Int)) (c1 : List Int) (s1 : List (List Int)) (c2 : List Int) (s2 : List (List Int)) (i : Nat) : List (Nat × V) := [(2, i6 v), (3, u6 ps), (29, y3 c0 s0 c1 s1 c2 s2), (30, i6 i)]
section
variable (v : Int) (ps : Nat) (c0 : List Int) (s0 : List (List Int)) (c1 : List Int) (s1 : List (List Int)) (c2 : List Int) (s2 : List (List Int)) (i : Nat) (cards : List Int) (cs : List (List Int)) (e : Int) (n w q r j : Nat)
abbrev lfS : SL := { sl := [(2, i6 v), (3, u6 ps), (29, y3 c0 s0 c1 s1 c2 s2), (30, i6 i), (11, .ptr 0 0), (12, i6 e), (13, i6 n), (61, f3 v ps w q r), (62, i6 j)], os := [gO cards cs] }
abbrev lfX : SL := { sl := [(2, i6 v), (3, u6 ps), (29, y3 c0 s0 c1 s1 c2 s2), (30, i6 i)] }
end
theorem fam_in (v : Int) (ps : Nat) (c0 : List Int) (s0 : List (List Int)) (c1 : List Int) (s1 : List (List Int)) (c2 : List Int) (s2 : List (List Int)) (i : Nat) (cards : List Int) (cs : List (List Int)) (hd : DatOk cards cs) (e : Int) (he : goodE cards cs = e) (n : Nat) (hn : n = max cards.length 1) (w q r : Nat) :
    Sat Pg none 0 (at' 3 [1, 1, 0, 1, 0, 0, 1, 1, 0, 0, 1, 1, 1, 1, 1, 0]) (mkSt g0 105 (lfS v ps c0 s0 c1 s1 c2 s2 i cards cs e n w q r 0)) (outsP g0 105 [(True, .exit 2, lfX v ps c0 s0 c1 s1 c2 s2 i)]) := by
  have h6 := hd.c6
  have h41 := hd.s41
  have hr6 : ∀ c ∈ cs, c.length ≤ 1000 := fun c hc => by have := hd.r6 c hc; omega
  refine loopC vE_ok mixed sp0_ok (b := at' 3 [1, 1, 0, 1, 0, 0, 1, 1, 0, 0, 1, 1, 1, 1, 1, 0, 0]) (by kernel_rfl) (fun j => j ≤ 3) (lfS v ps c0 s0 c1 s1 c2 s2 i cards cs e n w q r) (fun j => 3 - j) (fun j hj => ?_) 0 (Nat.zero_le _)
  by_cases hlt : j < 3
  · obtain ⟨x, y, hxy⟩ := pick39 v ps w q r j hlt
    by_cases he0 : e = 0
    · subst he0
      have hne : n = cards.length := by
        have := (whole_ok he).cok.pos
        rw [toN_length] at this; omega
      cases hm : memB cards.length x y with
      | false =>
        have l1 := sfam_arg cards cs x y (by omega) (by omega) hr6 he hm
        have l2 := member_fn n x y (by omega)
        rw [hne, hm, ← hne] at l2
        refine .inl ⟨j + 1, [0], [yes 63, va 64 (.agg [i6 x, u6 y]), fn 71 (.tup [ar zeroF, i6 2]), yes 76, fn 83 (.bool false), no 96, nu 102 (j + 1 : Nat)], 1000, hlt, by omega, ?_⟩
        clear hn hne hm he
        refine Eq.mp (by kernel_rfl : (decide ((↑j : Int) < (3 : Int)) = true ∧ idxV (ctxOf Tryd.prog) 39 (f3 v ps w q r) (↑j : Int) = some (V.agg [i6 x, u6 (↑y : Int)]) ∧ ((True ∧ True ∧ True) ∧ True ∧ True ∧ True) ∧ FnOk Tryd.prog g0 22 [V.agg [V.im (List.length cards) (ints cards), V.im (List.length cs) (List.map sl cs)], V.int IntKind.i64 x, V.int IntKind.u64 (↑y : Int)] (V.tup [ar zeroF, i6 (2 : Int)]) ∧ True ∧ ((0 : Int) == (0 : Int)) = true ∧ (True ∧ True ∧ True ∧ True) ∧ FnOk Tryd.prog g0 23 [V.int IntKind.i64 (↑n : Int), V.int IntKind.i64 x, V.int IntKind.u64 (↑y : Int)] (V.bool false) ∧ True ∧ (!(zeroF 0 == (0 : Int) && (zeroF 1 == (0 : Int) && (zeroF 2 == (0 : Int) && (zeroF 3 == (0 : Int) && (zeroF 4 == (0 : Int) && (zeroF 5 == (0 : Int) && (zeroF 6 == (0 : Int) && (zeroF 7 == (0 : Int) && (zeroF 8 == (0 : Int) && (zeroF 9 == (0 : Int) && (zeroF 10 == (0 : Int) && (zeroF 11 == (0 : Int) && (zeroF 12 == (0 : Int) && (zeroF 13 == (0 : Int) && (zeroF 14 == (0 : Int) && (zeroF 15 == (0 : Int) && (zeroF 16 == (0 : Int) && (zeroF 17 == (0 : Int) && true))))))))))))))))))) = false ∧ wr IntKind.i64 ((↑j : Int) + (1 : Int)) = (↑(j + 1) : Int) ∧ (v = v ∧ (↑ps : Int) = (↑ps : Int) ∧ ((List.length c0 = List.length c0 ∧ ints c0 = ints c0) ∧ (List.length s0 = List.length s0 ∧ List.map sl s0 = List.map sl s0) ∧ (List.length c1 = List.length c1 ∧ ints c1 = ints c1) ∧ (List.length s1 = List.length s1 ∧ List.map sl s1 = List.map sl s1) ∧ (List.length c2 = List.length c2 ∧ ints c2 = ints c2) ∧ (List.length s2 = List.length s2 ∧ List.map sl s2 = List.map sl s2) ∧ True) ∧ (↑i : Int) = (↑i : Int) ∧ 0 = 0 ∧ (0 : Int) = (0 : Int) ∧ (↑n : Int) = (↑n : Int) ∧ (v = v ∧ (↑ps : Int) = (↑ps : Int) ∧ (↑w : Int) = (↑w : Int) ∧ (↑q : Int) = (↑q : Int) ∧ (↑w : Int) = (↑w : Int) ∧ (↑r : Int) = (↑r : Int) ∧ True) ∧ (↑(j + 1) : Int) = (↑(j + 1) : Int) ∧ True) ∧ ([sl cards, gC cs] = [sl cards, gC cs] ∧ True ∧ True ∧ True) ∧ True) = _) ?_
        (repeat' (first | (with_reducible apply And.intro) | (refine fun (_ : True) => ?_))) <;> first | with_reducible (first | rfl | exact trivial | assumption | (refine decide_eq_true ?_ <;> omega) | (refine decide_eq_false ?_ <;> omega) | (refine head_ints1 ?_ <;> omega) | (refine bne_false ?_ <;> omega) | (refine bne_true ?_ <;> omega) | (refine beq_false' ?_ <;> omega) | (refine beq_true' ?_ <;> omega) | (refine wr6' ?_ ?_ ?_ <;> omega) | (refine rem6 ?_ <;> omega) | (refine quo6 ?_ ?_ ?_ <;> omega) | exact HfL_ints _ | omega) | ((with_reducible show (_ : V) = _); rfl) | (intro hk_; exfalso; revert hk_; simp; done) | (intros; simp_all; done) | (split <;> omega) | ((with_reducible show decide _ = true); exact decide_eq_true (by omega)) | ((with_reducible show decide _ = false); exact decide_eq_false (by omega)) | skip
        all_goals first | rfl | exact HfL_sls _
      | true =>
        have l1 := sfam_ok cards cs x y (by omega) (by omega) hr6 he hm
        have l2 := member_fn n x y (by omega)
        have l3 := ref_ok cards cs x y he hm
        rw [hne, hm, ← hne] at l2
        generalize famG cards cs x y = f at *
        refine .inl ⟨j + 1, [0], [yes 63, va 64 (.agg [i6 x, u6 y]), fn 71 (.tup [ar f, i6 0]), yes 76, fn 83 (.bool true), fn 93 (ar f), no 96, nu 102 (j + 1 : Nat)], 1000, hlt, by omega, ?_⟩
        clear hn hne hm he
        refine Eq.mp (by kernel_rfl : (decide ((↑j : Int) < (3 : Int)) = true ∧ idxV (ctxOf Tryd.prog) 39 (f3 v ps w q r) (↑j : Int) = some (V.agg [i6 x, u6 (↑y : Int)]) ∧ ((True ∧ True ∧ True) ∧ True ∧ True ∧ True) ∧ FnOk Tryd.prog g0 22 [V.agg [V.im (List.length cards) (ints cards), V.im (List.length cs) (List.map sl cs)], V.int IntKind.i64 x, V.int IntKind.u64 (↑y : Int)] (V.tup [ar f, i6 (0 : Int)]) ∧ True ∧ ((0 : Int) == (0 : Int)) = true ∧ (True ∧ True ∧ True ∧ True) ∧ FnOk Tryd.prog g0 23 [V.int IntKind.i64 (↑n : Int), V.int IntKind.i64 x, V.int IntKind.u64 (↑y : Int)] (V.bool true) ∧ True ∧ ((True ∧ True ∧ True) ∧ True ∧ True ∧ True) ∧ FnOk Tryd.prog g0 24 [V.agg [V.im (List.length cards) (ints cards), V.im (List.length cs) (List.map sl cs)], V.int IntKind.i64 x, V.int IntKind.u64 (↑y : Int)] (ar f) ∧ True ∧ (!(f 0 == f 0 && (f 1 == f 1 && (f 2 == f 2 && (f 3 == f 3 && (f 4 == f 4 && (f 5 == f 5 && (f 6 == f 6 && (f 7 == f 7 && (f 8 == f 8 && (f 9 == f 9 && (f 10 == f 10 && (f 11 == f 11 && (f 12 == f 12 && (f 13 == f 13 && (f 14 == f 14 && (f 15 == f 15 && (f 16 == f 16 && (f 17 == f 17 && true))))))))))))))))))) = false ∧ wr IntKind.i64 ((↑j : Int) + (1 : Int)) = (↑(j + 1) : Int) ∧ (v = v ∧ (↑ps : Int) = (↑ps : Int) ∧ ((List.length c0 = List.length c0 ∧ ints c0 = ints c0) ∧ (List.length s0 = List.length s0 ∧ List.map sl s0 = List.map sl s0) ∧ (List.length c1 = List.length c1 ∧ ints c1 = ints c1) ∧ (List.length s1 = List.length s1 ∧ List.map sl s1 = List.map sl s1) ∧ (List.length c2 = List.length c2 ∧ ints c2 = ints c2) ∧ (List.length s2 = List.length s2 ∧ List.map sl s2 = List.map sl s2) ∧ True) ∧ (↑i : Int) = (↑i : Int) ∧ 0 = 0 ∧ (0 : Int) = (0 : Int) ∧ (↑n : Int) = (↑n : Int) ∧ (v = v ∧ (↑ps : Int) = (↑ps : Int) ∧ (↑w : Int) = (↑w : Int) ∧ (↑q : Int) = (↑q : Int) ∧ (↑w : Int) = (↑w : Int) ∧ (↑r : Int) = (↑r : Int) ∧ True) ∧ (↑(j + 1) : Int) = (↑(j + 1) : Int) ∧ True) ∧ ([sl cards, gC cs] = [sl cards, gC cs] ∧ True ∧ True ∧ True) ∧ True) = _) ?_
        (repeat' (first | (with_reducible apply And.intro) | (refine fun (_ : True) => ?_))) <;> first | with_reducible (first | rfl | exact trivial | assumption | (refine decide_eq_true ?_ <;> omega) | (refine decide_eq_false ?_ <;> omega) | (refine head_ints1 ?_ <;> omega) | (refine bne_false ?_ <;> omega) | (refine bne_true ?_ <;> omega) | (refine beq_false' ?_ <;> omega) | (refine beq_true' ?_ <;> omega) | (refine wr6' ?_ ?_ ?_ <;> omega) | (refine rem6 ?_ <;> omega) | (refine quo6 ?_ ?_ ?_ <;> omega) | exact HfL_ints _ | omega) | ((with_reducible show (_ : V) = _); rfl) | (intro hk_; exfalso; revert hk_; simp; done) | (intros; simp_all; done) | (split <;> omega) | ((with_reducible show decide _ = true); exact decide_eq_true (by omega)) | ((with_reducible show decide _ = false); exact decide_eq_false (by omega)) | skip
        all_goals first | rfl | exact HfL_sls _ | (simp; done)
    · have l1 := sfam_bad cards cs x y (by omega) (by omega) hr6 (by rw [he]; exact he0)
      rw [he] at l1
      refine .inl ⟨j + 1, [0], [yes 63, va 64 (.agg [i6 x, u6 y]), fn 71 (.tup [ar zeroF, i6 e]), no 76, no 87, no 96, no 100, nu 102 (j + 1 : Nat)], 1000, hlt, by omega, ?_⟩
      clear hn he
      refine Eq.mp (by kernel_rfl : (decide ((↑j : Int) < (3 : Int)) = true ∧ idxV (ctxOf Tryd.prog) 39 (f3 v ps w q r) (↑j : Int) = some (V.agg [i6 x, u6 (↑y : Int)]) ∧ ((True ∧ True ∧ True) ∧ True ∧ True ∧ True) ∧ FnOk Tryd.prog g0 22 [V.agg [V.im (List.length cards) (ints cards), V.im (List.length cs) (List.map sl cs)], V.int IntKind.i64 x, V.int IntKind.u64 (↑y : Int)] (V.tup [ar zeroF, i6 e]) ∧ True ∧ (e == (0 : Int)) = false ∧ (e == (0 : Int)) = false ∧ (!(zeroF 0 == (0 : Int) && (zeroF 1 == (0 : Int) && (zeroF 2 == (0 : Int) && (zeroF 3 == (0 : Int) && (zeroF 4 == (0 : Int) && (zeroF 5 == (0 : Int) && (zeroF 6 == (0 : Int) && (zeroF 7 == (0 : Int) && (zeroF 8 == (0 : Int) && (zeroF 9 == (0 : Int) && (zeroF 10 == (0 : Int) && (zeroF 11 == (0 : Int) && (zeroF 12 == (0 : Int) && (zeroF 13 == (0 : Int) && (zeroF 14 == (0 : Int) && (zeroF 15 == (0 : Int) && (zeroF 16 == (0 : Int) && (zeroF 17 == (0 : Int) && true))))))))))))))))))) = false ∧ (e != e) = false ∧ wr IntKind.i64 ((↑j : Int) + (1 : Int)) = (↑(j + 1) : Int) ∧ (v = v ∧ (↑ps : Int) = (↑ps : Int) ∧ ((List.length c0 = List.length c0 ∧ ints c0 = ints c0) ∧ (List.length s0 = List.length s0 ∧ List.map sl s0 = List.map sl s0) ∧ (List.length c1 = List.length c1 ∧ ints c1 = ints c1) ∧ (List.length s1 = List.length s1 ∧ List.map sl s1 = List.map sl s1) ∧ (List.length c2 = List.length c2 ∧ ints c2 = ints c2) ∧ (List.length s2 = List.length s2 ∧ List.map sl s2 = List.map sl s2) ∧ True) ∧ (↑i : Int) = (↑i : Int) ∧ 0 = 0 ∧ e = e ∧ (↑n : Int) = (↑n : Int) ∧ (v = v ∧ (↑ps : Int) = (↑ps : Int) ∧ (↑w : Int) = (↑w : Int) ∧ (↑q : Int) = (↑q : Int) ∧ (↑w : Int) = (↑w : Int) ∧ (↑r : Int) = (↑r : Int) ∧ True) ∧ (↑(j + 1) : Int) = (↑(j + 1) : Int) ∧ True) ∧ ([sl cards, gC cs] = [sl cards, gC cs] ∧ True ∧ True ∧ True) ∧ True) = _) ?_
      (repeat' (first | (with_reducible apply And.intro) | (refine fun (_ : True) => ?_))) <;> first | with_reducible (first | rfl | exact trivial | assumption | (refine decide_eq_true ?_ <;> omega) | (refine decide_eq_false ?_ <;> omega) | (refine head_ints1 ?_ <;> omega) | (refine bne_false ?_ <;> omega) | (refine bne_true ?_ <;> omega) | (refine beq_false' ?_ <;> omega) | (refine beq_true' ?_ <;> omega) | (refine wr6' ?_ ?_ ?_ <;> omega) | (refine rem6 ?_ <;> omega) | (refine quo6 ?_ ?_ ?_ <;> omega) | exact HfL_ints _ | omega) | ((with_reducible show (_ : V) = _); rfl) | (intro hk_; exfalso; revert hk_; simp; done) | (intros; simp_all; done) | (split <;> omega) | ((with_reducible show decide _ = true); exact decide_eq_true (by omega)) | ((with_reducible show decide _ = false); exact decide_eq_false (by omega)) | skip
      all_goals first | rfl | exact HfL_sls _ | (simp; done)
  · have : j = 3 := by omega
    subst this
    refine .inr ⟨.exit 2, [], lfX v ps c0 s0 c1 s1 c2 s2 i, [], 1000, .inl ⟨trivial, rfl, rfl⟩, ?_⟩
    refine Eq.mp (by kernel_rfl : ((v = v ∧ (↑ps : Int) = (↑ps : Int) ∧ ((List.length c0 = List.length c0 ∧ ints c0 = ints c0) ∧ (List.length s0 = List.length s0 ∧ List.map sl s0 = List.map sl s0) ∧ (List.length c1 = List.length c1 ∧ ints c1 = ints c1) ∧ (List.length s1 = List.length s1 ∧ List.map sl s1 = List.map sl s1) ∧ (List.length c2 = List.length c2 ∧ ints c2 = ints c2) ∧ (List.length s2 = List.length s2 ∧ List.map sl s2 = List.map sl s2) ∧ True) ∧ (↑i : Int) = (↑i : Int) ∧ True) ∧ True) = _) ?_
    (repeat' (first | (with_reducible apply And.intro) | (refine fun (_ : True) => ?_))) <;> first | with_reducible (first | rfl | exact trivial | assumption | (refine decide_eq_true ?_ <;> omega) | (refine decide_eq_false ?_ <;> omega) | (refine head_ints1 ?_ <;> omega) | (refine bne_false ?_ <;> omega) | (refine bne_true ?_ <;> omega) | (refine beq_false' ?_ <;> omega) | (refine beq_true' ?_ <;> omega) | (refine wr6' ?_ ?_ ?_ <;> omega) | (refine rem6 ?_ <;> omega) | (refine quo6 ?_ ?_ ?_ <;> omega) | exact HfL_ints _ | omega) | ((with_reducible show (_ : V) = _); rfl) | (intro hk_; exfalso; revert hk_; simp; done) | (intros; simp_all; done) | (split <;> omega) | ((with_reducible show decide _ = true); exact decide_eq_true (by omega)) | ((with_reducible show decide _ = false); exact decide_eq_false (by omega)) | skip

theorem max_n {k : Nat} {m : Nat} (h : m = max k 1) : (if (1 : Int) > (k : Int) then (1 : Int) else (k : Int)) = (m : Int) := by
  split <;> omega
theorem fam_out (v : Int) (ps : Nat) (c0 : List Int) (s0 : List (List Int)) (c1 : List Int) (s1 : List (List Int)) (c2 : List Int) (s2 : List (List Int)) (h0 : DatOk c0 s0) (h1 : DatOk c1 s1) (h2 : DatOk c2 s2) :
    Sat Pg none 0 (at' 3 [1, 1, 0, 1, 0]) (mkSt g0 105 { sl := outer v ps c0 s0 c1 s1 c2 s2 0 }) (outsP g0 105 [(True, .exit 0, {sl := []})]) := by
  refine loopC vE_ok mixed sp0_ok (b := at' 3 [1, 1, 0, 1, 0, 0]) (by kernel_rfl) (fun i => i ≤ 3) (fun i => { sl := outer v ps c0 s0 c1 s1 c2 s2 i }) (fun i => 3 - i) (fun i hi => ?_) 0 (Nat.zero_le _)
  by_cases hlt : i < 3
  · obtain ⟨cards, cs, hd, hx⟩ := pick35 h0 h1 h2 i hlt
    have hg := good_fn cards cs (by have := hd.c6; omega) (by have := hd.s41; omega) (fun c hc => by have := hd.r6 c hc; omega)
    obtain ⟨n, hn⟩ : ∃ n, n = max cards.length 1 := ⟨_, rfl⟩
    have hmx := max_n hn
    obtain ⟨u, hu⟩ := wr_u64_nat v
    have hrem := @rem_u64 (ctxOf Pg) 28 u n (by omega)
    have hown : u % n < n := Nat.mod_lt _ (by omega)
    have h6 := hd.c6
    generalize u % n = w at *
    obtain ⟨z1, hz1⟩ := @shl_u64 (ctxOf Pg) 28 1 n
    obtain ⟨z2, hz2⟩ := wr_u64_nat ((z1 : Int) - 1)
    obtain ⟨z3, hz3⟩ := @bits_u64 (ctxOf Pg) 28 .and (.inl rfl) ps z2
    obtain ⟨z4, hz4⟩ := @shl_u64 (ctxOf Pg) 28 1 w
    obtain ⟨z5, hz5⟩ := @bits_u64 (ctxOf Pg) 28 .andNot (.inr (.inl rfl)) z3 z4
    have hin := fam_in v ps c0 s0 c1 s1 c2 s2 i cards cs hd _ rfl n hn w ps z5
    generalize goodE cards cs = e at *
    have hwn : wr .u64 (n : Int) = n := by rw [wr_u64]; omega
    refine .inl ⟨i + 1, [], [yes 31, va 32 (gV cards cs), fn 34 (i6 e), nu 38 n, nu 40 u, nu 42 n, va 43 (u6 w), nu 44 w, va 54 (u6 z1), nu 55 z2, va 56 (u6 z3), va 58 (u6 z4), va 59 (u6 z5), (0, .loop [0] (lfS v ps c0 s0 c1 s1 c2 s2 i cards cs e n w ps z5 0) [(True, .exit 2, lfX v ps c0 s0 c1 s1 c2 s2 i)]), nu 103 (i + 1 : Nat)], 1000, hlt, by omega, ?_⟩
    clear hn
    refine Eq.mp (by kernel_rfl : (decide ((↑i : Int) < (3 : Int)) = true ∧ idxV (ctxOf Tryd.prog) 35 (y3 c0 s0 c1 s1 c2 s2) (↑i : Int) = some (gV cards cs) ∧ ((True ∧ True ∧ True) ∧ True) ∧ FnOk Tryd.prog g0 21 [V.agg [V.im (List.length cards) (ints cards), V.im (List.length cs) (List.map sl cs)]] (i6 e) ∧ True ∧ (if (1 : Int) > (↑(List.length cards) : Int) then (1 : Int) else (↑(List.length cards) : Int)) = (↑n : Int) ∧ wr IntKind.u64 v = (↑u : Int) ∧ wr IntKind.u64 (↑n : Int) = (↑n : Int) ∧ binV (ctxOf Tryd.prog) BinOp.rem 28 (V.int IntKind.u64 (↑u : Int)) (V.int IntKind.u64 (↑n : Int)) = some (u6 (↑w : Int)) ∧ wr IntKind.i64 (↑w : Int) = (↑w : Int) ∧ binV (ctxOf Tryd.prog) BinOp.shl 28 (V.int IntKind.u64 (1 : Int)) (V.int IntKind.i64 (↑n : Int)) = some (u6 (↑z1 : Int)) ∧ wr IntKind.u64 ((↑z1 : Int) - (1 : Int)) = (↑z2 : Int) ∧ binV (ctxOf Tryd.prog) BinOp.and 28 (u6 (↑ps : Int)) (V.int IntKind.u64 (↑z2 : Int)) = some (u6 (↑z3 : Int)) ∧ binV (ctxOf Tryd.prog) BinOp.shl 28 (V.int IntKind.u64 (1 : Int)) (V.int IntKind.i64 (↑w : Int)) = some (u6 (↑z4 : Int)) ∧ binV (ctxOf Tryd.prog) BinOp.andNot 28 (u6 (↑z3 : Int)) (u6 (↑z4 : Int)) = some (u6 (↑z5 : Int)) ∧ ((v = v ∧ (↑ps : Int) = (↑ps : Int) ∧ ((List.length c0 = List.length c0 ∧ ints c0 = ints c0) ∧ (List.length s0 = List.length s0 ∧ List.map sl s0 = List.map sl s0) ∧ (List.length c1 = List.length c1 ∧ ints c1 = ints c1) ∧ (List.length s1 = List.length s1 ∧ List.map sl s1 = List.map sl s1) ∧ (List.length c2 = List.length c2 ∧ ints c2 = ints c2) ∧ (List.length s2 = List.length s2 ∧ List.map sl s2 = List.map sl s2) ∧ True) ∧ (↑i : Int) = (↑i : Int) ∧ 0 = 0 ∧ e = e ∧ (↑n : Int) = (↑n : Int) ∧ (v = v ∧ (↑ps : Int) = (↑ps : Int) ∧ (↑w : Int) = (↑w : Int) ∧ (↑ps : Int) = (↑ps : Int) ∧ (↑w : Int) = (↑w : Int) ∧ (↑z5 : Int) = (↑z5 : Int) ∧ True) ∧ (↑(0 : Nat) : Int) = (0 : Int) ∧ True) ∧ ([sl cards, gC cs] = [sl cards, gC cs] ∧ True ∧ True ∧ True) ∧ True) ∧ Sat Tryd.prog none 0 (at' 3 [1, 1, 0, 1, 0, 0, 1, 1, 0, 0, 1, 1, 1, 1, 1, 0]) (mkSt g0 105 (lfS v ps c0 s0 c1 s1 c2 s2 i cards cs e n w ps z5 0)) (outsP g0 105 [(True, Ex.exit 2, lfX v ps c0 s0 c1 s1 c2 s2 i)]) ∧ (True → wr IntKind.i64 ((↑i : Int) + (1 : Int)) = (↑(i + 1) : Int) ∧ (v = v ∧ (↑ps : Int) = (↑ps : Int) ∧ ((List.length c0 = List.length c0 ∧ ints c0 = ints c0) ∧ (List.length s0 = List.length s0 ∧ List.map sl s0 = List.map sl s0) ∧ (List.length c1 = List.length c1 ∧ ints c1 = ints c1) ∧ (List.length s1 = List.length s1 ∧ List.map sl s1 = List.map sl s1) ∧ (List.length c2 = List.length c2 ∧ ints c2 = ints c2) ∧ (List.length s2 = List.length s2 ∧ List.map sl s2 = List.map sl s2) ∧ True) ∧ (↑(i + 1) : Int) = (↑(i + 1) : Int) ∧ True) ∧ True) ∧ True) = _) ?_
    (repeat' (first | (with_reducible apply And.intro) | (refine fun (_ : True) => ?_))) <;> first | with_reducible (first | rfl | exact trivial | assumption | (refine decide_eq_true ?_ <;> omega) | (refine decide_eq_false ?_ <;> omega) | (refine head_ints1 ?_ <;> omega) | (refine bne_false ?_ <;> omega) | (refine bne_true ?_ <;> omega) | (refine beq_false' ?_ <;> omega) | (refine beq_true' ?_ <;> omega) | (refine wr6' ?_ ?_ ?_ <;> omega) | (refine rem6 ?_ <;> omega) | (refine quo6 ?_ ?_ ?_ <;> omega) | exact HfL_ints _ | omega) | ((with_reducible show (_ : V) = _); rfl) | (intro hk_; exfalso; revert hk_; simp; done) | (intros; simp_all; done) | (split <;> omega) | ((with_reducible show decide _ = true); exact decide_eq_true (by omega)) | ((with_reducible show decide _ = false); exact decide_eq_false (by omega)) | skip
    all_goals first | rfl | exact HfL_sls _ | exact hmx | exact hu | exact hwn | exact hz2 | omega
  · have : i = 3 := by omega
    subst this
    refine .inr ⟨.exit 0, [], {sl := []}, [], 1000, .inl ⟨trivial, rfl, rfl⟩, ?_⟩
    refine Eq.mp (by kernel_rfl : (True ∧ True) = _) ?_
    (repeat' (first | (with_reducible apply And.intro) | (refine fun (_ : True) => ?_))) <;> first | with_reducible (first | rfl | exact trivial | assumption | (refine decide_eq_true ?_ <;> omega) | (refine decide_eq_false ?_ <;> omega) | (refine head_ints1 ?_ <;> omega) | (refine bne_false ?_ <;> omega) | (refine bne_true ?_ <;> omega) | (refine beq_false' ?_ <;> omega) | (refine beq_true' ?_ <;> omega) | (refine wr6' ?_ ?_ ?_ <;> omega) | (refine rem6 ?_ <;> omega) | (refine quo6 ?_ ?_ ?_ <;> omega) | exact HfL_ints _ | omega) | ((with_reducible show (_ : V) = _); rfl) | (intro hk_; exfalso; revert hk_; simp; done) | (intros; simp_all; done) | (split <;> omega) | ((with_reducible show decide _ = true); exact decide_eq_true (by omega)) | ((with_reducible show decide _ = false); exact decide_eq_false (by omega)) | skip

theorem families_true (C : List Int) (ks : List (Nat → Int)) (fo : Int) (M : List Int) (b a N v : Int) (ps : Nat) (h : DrOk C ks fo M) (hb : 0 ≤ b ∧ b ≤ 255) (ha : 0 ≤ a ∧ a ≤ 255) : FnOk Pg g0 3 [dfV C ks fo M, beV b a N, i6 v, u6 ps] (.bool true) := by
  have hw := works_ok
  have hwd := whole_draft C ks fo M h
  have hdd := draft_fn C ks fo M h
  have hc := cardsD_ok C
  obtain ⟨x1, x2⟩ := dataD_len C ks fo []
  obtain ⟨y1, y2⟩ := dataD_len C ks fo M
  obtain ⟨cb, sb, hbf, b1, b2, b3⟩ := bend_fn b a N (cardsD C) (dataD C ks fo []) hb ha hc.pos (by have := hc.five; omega) x1 x2
  have l := fam_out v ps (cardsD C) (dataD C ks fo []) (cardsD C) (dataD C ks fo M) cb sb ⟨by have := hc.five; omega, by omega, fun c hc' => by rw [x1 c hc']; have := hc.five; omega⟩ ⟨by have := hc.five; omega, by omega, fun c hc' => by rw [y1 c hc']; have := hc.five; omega⟩ ⟨b1, b2, b3⟩
  generalize cardsD C = cards at *
  generalize dataD C ks fo [] = s0 at *
  generalize dataD C ks fo M = s1 at *
  refine FnOk.of_vc vE_ok mixed sp0_ok (n := 1000) (r := []) (S := { sl := [(8, .bool true)] }) (hs := [fn 22 (gV cards s0), fn 25 (gV cards s1), fn 28 (gV cb sb), (0, .loop [] { sl := outer v ps cards s0 cards s1 cb sb 0 } [(True, .exit 0, {sl := []})]), fn 104 (.bool true)]) ?_
  refine Eq.mp (by kernel_rfl : (V.bool true = V.bool true ∧ ((True ∧ True ∧ True ∧ True ∧ True) ∧ True) ∧ FnOk Tryd.prog g0 18 [V.agg [V.im (List.length C) (List.map w8 C), V.im (List.length ks) (flatK ks), V.int IntKind.u8 fo, V.im (List.length M) (List.map w8 M)]] (gV cards s0) ∧ True ∧ ((True ∧ True ∧ True ∧ True ∧ True) ∧ True) ∧ FnOk Tryd.prog g0 19 [V.agg [V.im (List.length C) (List.map w8 C), V.im (List.length ks) (flatK ks), V.int IntKind.u8 fo, V.im (List.length M) (List.map w8 M)]] (gV cards s1) ∧ True ∧ ((True ∧ True ∧ True ∧ True) ∧ (True ∧ True ∧ True) ∧ True) ∧ FnOk Tryd.prog g0 20 [V.agg [V.int IntKind.u8 b, V.int IntKind.u8 a, V.int IntKind.i64 N], V.agg [V.im (List.length cards) (ints cards), V.im (List.length s0) (List.map sl s0)]] (gV cb sb) ∧ ((V.fn 19 [] = V.fn 20 [] → [V.agg [sl8 C, kV ks, w8 fo, sl8 M]] = [V.agg [w8 b, w8 a, i6 N], V.agg [sl cards, gC s0]] → pt (pt (pt (pt T.e 0 (O.row 25 none [sl8 C, kV ks, w8 fo, sl8 M])) (0 + 1) (O.row 27 none [w8 b, w8 a, i6 N])) (0 + 1 + 1) (O.row 32 none [V.nils, V.nils])) (0 + 1 + 1) (O.row 32 none [sl cards, gC s0]) = pt (pt (pt (pt T.e 0 (O.row 25 none [sl8 C, kV ks, w8 fo, sl8 M])) (0 + 1) (O.row 27 none [w8 b, w8 a, i6 N])) (0 + 1 + 1) (O.row 32 none [V.nils, V.nils])) (0 + 1 + 1) (O.row 32 none [sl cards, gC s0]) → 0 + 1 + 1 + 1 = 0 + 1 + 1 + 1 → CR.mk (gV cards s1) (pt (pt (pt (pt T.e 0 (O.row 25 none [sl8 C, kV ks, w8 fo, sl8 M])) (0 + 1) (O.row 27 none [w8 b, w8 a, i6 N])) (0 + 1 + 1) (O.row 32 none [V.nils, V.nils])) (0 + 1 + 1) (O.row 32 none [sl cards, gC s0])) (0 + 1 + 1 + 1) [] = CR.mk (gV cb sb) (pt (pt (pt (pt T.e 0 (O.row 25 none [sl8 C, kV ks, w8 fo, sl8 M])) (0 + 1) (O.row 27 none [w8 b, w8 a, i6 N])) (0 + 1 + 1) (O.row 32 none [V.nils, V.nils])) (0 + 1 + 1) (O.row 32 none [sl cards, gC s0])) (0 + 1 + 1 + 1) []) ∧ True) ∧ ((v = v ∧ (↑ps : Int) = (↑ps : Int) ∧ ((List.length cards = List.length cards ∧ ints cards = ints cards) ∧ (List.length s0 = List.length s0 ∧ List.map sl s0 = List.map sl s0) ∧ (List.length cards = List.length cards ∧ ints cards = ints cards) ∧ (List.length s1 = List.length s1 ∧ List.map sl s1 = List.map sl s1) ∧ (List.length cb = List.length cb ∧ ints cb = ints cb) ∧ (List.length sb = List.length sb ∧ List.map sl sb = List.map sl sb) ∧ True) ∧ (↑(0 : Nat) : Int) = (0 : Int) ∧ True) ∧ True) ∧ Sat Tryd.prog none 0 (at' 3 [1, 1, 0, 1, 0]) (mkSt g0 105 (SL.mk (outer v ps cards s0 cards s1 cb sb 0) [] [] [])) (outsP g0 105 [(True, Ex.exit 0, SL.mk [] [] [] [])]) ∧ (True → True ∧ FnOk Tryd.prog g0 25 [] (V.bool true) ∧ True ∧ (true = true ∧ True) ∧ True) ∧ True) = _) ?_
  (repeat' (first | (with_reducible apply And.intro) | (refine fun (_ : True) => ?_)))
  all_goals first | with_reducible rfl | exact trivial | with_reducible assumption | rfl | exact HfL_sls _ | (intro hh_; cases hh_; done)

end Go.Proofs.YtglpoiaedkoecaaDoor.Am
