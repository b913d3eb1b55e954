/- IndexCovers: the law returns true, whatever it is called with: the walk. -/
import Derived.Test.YtmnaidemihcfaaaV13
namespace Go.Proofs.Ytmnaidemihcfaaa.Am
open Go.RowKit
set_option linter.unusedVariables false
set_option maxHeartbeats 1000000
set_option maxRecDepth 100000

/-! ### lists of bools -/
def bolF (f : Nat → Bool) (n : Nat) : List V := (List.range n).map fun k => V.bool (f k)
theorem bolF_length (f : Nat → Bool) (n : Nat) : (bolF f n).length = n := by simp [bolF]
theorem HfL_bol (f : Nat → Bool) (n : Nat) : HfL (bolF f n) := HfL_map_bool _ _
theorem head_bol {f : Nat → Bool} {n k : Nat} (h : k < n) : headF ((bolF f n).drop (k * 1)) = some (.bool (f k)) := by
  rw [Nat.mul_one, List.drop_eq_getElem_cons (by rw [bolF_length]; exact h)]
  simp [headF, bolF]
theorem head_bolF {f : Nat → Bool} {n k : Nat} (h : k < n) : headF (dropF (0 + k * 1) (bolF f n)) = some (.bool (f k)) := by
  rw [dropF_eq, Nat.zero_add]; exact head_bol h
theorem rep_bol (n : Nat) : rep n [V.bool false] = bolF (fun _ => false) n := by
  apply List.ext_getElem?
  intro i
  by_cases h : i < n
  · rw [rep_get n _ i (by simpa using h)]
    simp [bolF, Nat.mod_one, List.getElem?_range h]
  · rw [List.getElem?_eq_none (by rw [rep_length]; simp; omega), List.getElem?_eq_none (by rw [bolF_length]; omega)]
theorem bolF_congr {f g : Nat → Bool} {n : Nat} (h : ∀ m, m < n → f m = g m) : bolF f n = bolF g n := by
  unfold bolF
  exact List.map_congr_left fun m hm => by rw [h m (List.mem_range.1 hm)]
theorem lay_bol {f g : Nat → Bool} {n k : Nat} (h : k < n) (hg : ∀ m, m < n → g m = (f m || decide (m = k))) : layE (0 + k * 1) (bolF f n) [V.bool true] = some (bolF g n) := by
  rw [Nat.zero_add, Nat.mul_one, layE_eq', bolF_length]
  have : Nat.ble (k + [V.bool true].length) n = true := Nat.ble_eq_true_of_le (by simp; omega)
  rw [this, cond_true]
  congr 1
  have e : (bolF f n).take k ++ ([V.bool true] ++ (bolF f n).drop (k + [V.bool true].length)) = (bolF f n).set k (.bool true) := by
    rw [List.set_eq_take_append_cons_drop, if_pos (by rw [bolF_length]; exact h)]; rfl
  have key : (bolF f n).set k (.bool true) = bolF g n := by
    apply List.ext_getElem?
    intro i
    by_cases hi : i < n
    · rw [List.getElem?_eq_getElem (by rw [List.length_set, bolF_length]; exact hi), List.getElem?_eq_getElem (by rw [bolF_length]; exact hi), List.getElem_set]
      simp only [bolF, List.getElem_map, List.getElem_range, hg i hi]
      by_cases hk : k = i
      · rw [if_pos hk, decide_eq_true hk.symm]; simp
      · rw [if_neg hk, decide_eq_false (fun e => hk e.symm)]; simp
    · rw [List.getElem?_eq_none (by rw [List.length_set, bolF_length]; omega), List.getElem?_eq_none (by rw [bolF_length]; omega)]
  first | exact e.trans key | (simpa using e.trans key)

/-! ### slices.Contains on a list of true -/
abbrev bolT (n : Nat) : V := .im n (bolF (fun _ => true) n)
abbrev sxS (n k : Nat) : SL := { sl := [(0, bolT n), (1, .bool false), (7, i6 n), (8, i6 k)] }
theorem sindex_loop (n : Nat) (hn : n ≤ 65536) (k : Nat) (hk : k ≤ n) :
    Sat Pg none 0 (at' 78 [1, 0, 1, 0]) (mkSt .e 19 (sxS n k)) (outsP .e 19 [(True, .exit 0, rtE)]) := by
  refine loopC vE_ok mixed sp0_ok (b := at' 78 [1, 0, 1, 0, 0]) (by kernel_rfl) (fun k => k ≤ n) (sxS n) (fun k => n - k) (fun k hk => ?_) k hk
  by_cases hlt : k < n
  · have hd : headF (List.drop (k * 1) (bolF (fun _ => true) n)) = some (.bool true) := head_bol (f := fun _ => true) hlt
    refine .inl ⟨k + 1, [], [yes 9, pl 14, ld 15 (.bool true), nu 18 (k + 1 : Nat)], 1000, hlt, by omega, ?_⟩
    refine Eq.mp (by kernel_rfl : (decide ((↑k : Int) < (↑n : Int)) = true ∧
          ((0 : Int) ≤ (↑k : Int) ∧ (↑k : Int) < (↑n : Int)) ∧
            headF (List.drop (k * (1 : Nat)) (bolF (fun x => true) n)) = some (V.bool true) ∧
              wr IntKind.i64 ((↑k : Int) + (1 : Int)) = (↑(k + (1 : Nat)) : Int) ∧
                ((n = n ∧ bolF (fun x => true) n = bolF (fun x => true) n) ∧
                    false = false ∧ (↑n : Int) = (↑n : Int) ∧ (↑(k + (1 : Nat)) : Int) = (↑(k + (1 : Nat)) : Int) ∧ True) ∧
                  True) = _) ?_
    (repeat' (first | (with_reducible apply And.intro) | (refine fun (_ : True) => ?_))) <;> first | with_reducible (first | rfl | exact trivial | assumption | (refine decide_eq_true ?_ <;> omega) | (refine decide_eq_false ?_ <;> omega) | (refine head_ints1 ?_ <;> omega) | (refine bne_false ?_ <;> omega) | (refine bne_true ?_ <;> omega) | (refine beq_false' ?_ <;> omega) | (refine beq_true' ?_ <;> omega) | (refine wr6' ?_ ?_ ?_ <;> omega) | (refine rem6 ?_ <;> omega) | (refine quo6 ?_ ?_ ?_ <;> omega) | exact HfL_ints _ | omega) | ((with_reducible show (_ : V) = _); rfl) | (intro hk_; exfalso; revert hk_; simp; done) | (intros; simp_all; done) | (split <;> omega) | ((with_reducible show decide _ = true); exact decide_eq_true (by omega)) | ((with_reducible show decide _ = false); exact decide_eq_false (by omega)) | skip
  · have : k = n := by omega
    subst this
    refine .inr ⟨.exit 0, [], rtE, [no 9], 1000, .inl ⟨trivial, rfl, rfl⟩, ?_⟩
    refine Eq.mp (by kernel_rfl : (decide ((↑k : Int) < (↑k : Int)) = false ∧ True ∧ True) = _) ?_
    (repeat' (first | (with_reducible apply And.intro) | (refine fun (_ : True) => ?_))) <;> first | with_reducible (first | rfl | exact trivial | assumption | (refine decide_eq_true ?_ <;> omega) | (refine decide_eq_false ?_ <;> omega) | (refine head_ints1 ?_ <;> omega) | (refine bne_false ?_ <;> omega) | (refine bne_true ?_ <;> omega) | (refine beq_false' ?_ <;> omega) | (refine beq_true' ?_ <;> omega) | (refine wr6' ?_ ?_ ?_ <;> omega) | (refine rem6 ?_ <;> omega) | (refine quo6 ?_ ?_ ?_ <;> omega) | exact HfL_ints _ | omega) | ((with_reducible show (_ : V) = _); rfl) | (intro hk_; exfalso; revert hk_; simp; done) | (intros; simp_all; done) | (split <;> omega) | ((with_reducible show decide _ = true); exact decide_eq_true (by omega)) | ((with_reducible show decide _ = false); exact decide_eq_false (by omega)) | skip
theorem sindex_fn (n : Nat) (hn : n ≤ 65536) : FnOk Pg .e 78 [bolT n, .bool false] (i6 (-1)) := by
  have hlp := sindex_loop n hn 0 (Nat.zero_le _)
  refine FnOk.of_vc vE_ok mixed sp0_ok (n := 1000) (r := []) (S := { sl := [(4, i6 (-1))] }) (hs := [lp (sxS n 0) (.exit 0) rtE]) ?_
  refine Eq.mp (by kernel_rfl : (i6 (-1 : Int) = i6 (-1 : Int) ∧
        (((n = n ∧ bolF (fun x => true) n = bolF (fun x => true) n) ∧
              false = false ∧ (↑n : Int) = (↑n : Int) ∧ (↑(0 : Nat) : Int) = (0 : Int) ∧ True) ∧
            True) ∧
          Sat Try.prog none (0 : Nat) (at' (78 : Nat) [(1 : Nat), (0 : Nat), (1 : Nat), (0 : Nat)])
              (mkSt T.e (19 : Nat) (sxS n (0 : Nat))) (outsP T.e (19 : Nat) [(True, Ex.exit (0 : Nat), rtE)]) ∧
            (True → ((-1 : Int) = (-1 : Int) ∧ True) ∧ True) ∧ True) = _) ?_
  (repeat' (first | (with_reducible apply And.intro) | (refine fun (_ : True) => ?_))) <;> first | with_reducible (first | rfl | exact trivial | assumption | (refine decide_eq_true ?_ <;> omega) | (refine decide_eq_false ?_ <;> omega) | (refine head_ints1 ?_ <;> omega) | (refine bne_false ?_ <;> omega) | (refine bne_true ?_ <;> omega) | (refine beq_false' ?_ <;> omega) | (refine beq_true' ?_ <;> omega) | (refine wr6' ?_ ?_ ?_ <;> omega) | (refine rem6 ?_ <;> omega) | (refine quo6 ?_ ?_ ?_ <;> omega) | exact HfL_ints _ | omega) | ((with_reducible show (_ : V) = _); rfl) | (intro hk_; exfalso; revert hk_; simp; done) | (intros; simp_all; done) | (split <;> omega) | ((with_reducible show decide _ = true); exact decide_eq_true (by omega)) | ((with_reducible show decide _ = false); exact decide_eq_false (by omega)) | skip
theorem contains_fn (n : Nat) (hn : n ≤ 65536) : FnOk Pg .e 45 [bolT n, .bool false] (.bool false) := by
  have h := sindex_fn n hn
  refine FnOk.of_vc vE_ok mixed sp0_ok (n := 1000) (r := []) (S := boE 4 false) (hs := [fn 7 (i6 (-1))]) ?_
  refine Eq.mp (by kernel_rfl : (V.bool false = V.bool false ∧
        (True ∧ True ∧ True) ∧
          FnOk Try.prog T.e (78 : Nat) [V.im n (bolF (fun x => true) n), V.bool false] (i6 (-1 : Int)) ∧
            True ∧ (false = decide ((-1 : Int) ≥ (0 : Int)) ∧ True) ∧ True) = _) ?_
  (repeat' (first | (with_reducible apply And.intro) | (refine fun (_ : True) => ?_))) <;> first | with_reducible (first | rfl | exact trivial | assumption | (refine decide_eq_true ?_ <;> omega) | (refine decide_eq_false ?_ <;> omega) | (refine head_ints1 ?_ <;> omega) | (refine bne_false ?_ <;> omega) | (refine bne_true ?_ <;> omega) | (refine beq_false' ?_ <;> omega) | (refine beq_true' ?_ <;> omega) | (refine wr6' ?_ ?_ ?_ <;> omega) | (refine rem6 ?_ <;> omega) | (refine quo6 ?_ ?_ ?_ <;> omega) | exact HfL_ints _ | omega) | ((with_reducible show (_ : V) = _); rfl) | (intro hk_; exfalso; revert hk_; simp; done) | (intros; simp_all; done) | (split <;> omega) | ((with_reducible show decide _ = true); exact decide_eq_true (by omega)) | ((with_reducible show decide _ = false); exact decide_eq_false (by omega)) | skip

/-! ### plain -/
theorem incr_snoc {n x : Int} : ∀ (l : List Int) (a : Int), incr n a l = true → (∀ y ∈ l, y < x) → a < x → x < n → incr n a (l ++ [x]) = true
  | [], a, _, _, h1, h2 => by rw [List.nil_append, incr_cons]; exact ⟨h1, h2, rfl⟩
  | y :: l, a, h, hy, h1, h2 => by
    rw [incr_cons] at h
    rw [List.cons_append, incr_cons]
    exact ⟨h.1, h.2.1, incr_snoc l y h.2.2 (fun z hz => hy z (List.mem_cons_of_mem _ hz)) (hy y List.mem_cons_self) h2⟩
theorem plD_mem (w : Int) : ∀ k, ∀ y ∈ plD w k, 0 ≤ y ∧ y < k
  | 0, y, h => by simp [plD] at h
  | k + 1, y, h => by
    unfold plD at h
    split at h
    · rcases List.mem_append.1 h with h | h
      · have := plD_mem w k y h; omega
      · rw [List.mem_singleton] at h; omega
    · have := plD_mem w k y h; omega
theorem plD_incr (w n : Int) : ∀ k : Nat, (k : Int) ≤ n → incr n (-1) (plD w k) = true
  | 0, _ => rfl
  | k + 1, h => by
    unfold plD
    split
    · exact incr_snoc _ _ (plD_incr w n k (by omega)) (fun y hy => (plD_mem w k y hy).2) (by omega) (by omega)
    · exact plD_incr w n k (by omega)
theorem partR_bd {c p : List Int} (hg : Good c) (hin : incr c.length (-1) p = true) {i : Int} (h0 : 0 ≤ i) (h1 : i < prodL c) : 0 ≤ partR c p i ∧ partR c p i < prodL (atL c p) :=
  idxR_bd _ _ (by simp [atL]) (fun x hx => ((at_good hg hin).card x hx).1) (at_fit (valL_fit hg h0 h1) (valL_length _ _).symm (incr_inL hin))
theorem hits_mem {c p : List Int} (hin : incr c.length (-1) p = true) {j : Int} {q : Nat} : q ∈ hits c p j ↔ q < (prodL c).toNat ∧ partR c p q = j := by
  unfold hits hitsTo
  rw [List.mem_filter, List.mem_range, hit_iff hin, decide_eq_true_eq]
theorem hits_lt (c p : List Int) (j : Int) : (hits c p j).Pairwise (· < ·) := List.Pairwise.filter _ List.pairwise_lt_range

/-! ### the loops -/
abbrev cvS (c p : List Int) (k : Nat) : SL := { sl := [(3, sl c), (4, sl p), (5, i6 (prodL ((atL c p).take k))), (20, sl p), (21, i6 p.length), (22, i6 k)] }
abbrev cvX (c p : List Int) : SL := { sl := [(3, sl c), (4, sl p), (5, i6 (prodL (atL c p)))] }
theorem covers1 (c p : List Int) (hin : InL c p) (hf : Fits (atL c p)) (hl : p.length ≤ 65536) (k : Nat) (hk : k ≤ p.length) :
    Sat Pg none 0 (at' 8 [1, 1, 1, 1, 0, 1, 0]) (mkSt .e 112 (cvS c p k)) (outsP .e 112 [(True, .exit 0, cvX c p)]) := by
  refine loopC vE_ok mixed sp0_ok (b := at' 8 [1, 1, 1, 1, 0, 1, 0, 0]) (by kernel_rfl) (fun k => k ≤ p.length) (cvS c p) (fun k => p.length - k) (fun k hk => ?_) k hk
  have hal : (atL c p).length = p.length := by simp [atL]
  by_cases hlt : k < p.length
  · have hp := hin p[k] (List.getElem_mem hlt)
    have hd := @head_ints1 p k hlt
    have h1 := hf (k + 1) (by omega)
    have h2 := prodL_take (show k < (atL c p).length by omega)
    have h3 : (atL c p)[k]'(by omega) = atE c p[k] := by simp [atL]
    rw [h3] at h2
    have hc : headF (List.drop (Int.toNat p[k] * 1) (ints c)) = some (i6 (atE c p[k])) := head_intsD (by omega)
    refine .inl ⟨k + 1, [], [yes 23, pl 24, ld 25 (i6 p[k]), pl 29, ld 30 (i6 (atE c p[k])), nu 31 (prodL ((atL c p).take (k + 1))), nu 32 (k + 1 : Nat)], 1000, hlt, by omega, ?_⟩
    refine Eq.mp (by kernel_rfl : (decide ((↑k : Int) < (↑(List.length p) : Int)) = true ∧
          ((0 : Int) ≤ (↑k : Int) ∧ (↑k : Int) < (↑(List.length p) : Int)) ∧
            headF (List.drop (k * (1 : Nat)) (ints p)) = some (i6 p[k]) ∧
              ((0 : Int) ≤ p[k] ∧ p[k] < (↑(List.length c) : Int)) ∧
                headF (List.drop (Int.toNat p[k] * (1 : Nat)) (ints c)) = some (i6 (atE c p[k])) ∧
                  wr IntKind.i64 (prodL (List.take k (atL c p)) * atE c p[k]) = prodL (List.take (k + (1 : Nat)) (atL c p)) ∧
                    wr IntKind.i64 ((↑k : Int) + (1 : Int)) = (↑(k + (1 : Nat)) : Int) ∧
                      ((List.length c = List.length c ∧ ints c = ints c) ∧
                          (List.length p = List.length p ∧ ints p = ints p) ∧
                            prodL (List.take (k + (1 : Nat)) (atL c p)) = prodL (List.take (k + (1 : Nat)) (atL c p)) ∧
                              (List.length p = List.length p ∧ ints p = ints p) ∧
                                (↑(List.length p) : Int) = (↑(List.length p) : Int) ∧
                                  (↑(k + (1 : Nat)) : Int) = (↑(k + (1 : Nat)) : Int) ∧ True) ∧
                        True) = _) ?_
    (repeat' (first | (with_reducible apply And.intro) | (refine fun (_ : True) => ?_))) <;> first | with_reducible (first | rfl | exact trivial | assumption | (refine decide_eq_true ?_ <;> omega) | (refine decide_eq_false ?_ <;> omega) | (refine head_ints1 ?_ <;> omega) | (refine bne_false ?_ <;> omega) | (refine bne_true ?_ <;> omega) | (refine beq_false' ?_ <;> omega) | (refine beq_true' ?_ <;> omega) | (refine wr6' ?_ ?_ ?_ <;> omega) | (refine rem6 ?_ <;> omega) | (refine quo6 ?_ ?_ ?_ <;> omega) | exact HfL_ints _ | omega) | ((with_reducible show (_ : V) = _); rfl) | (intro hk_; exfalso; revert hk_; simp; done) | (intros; simp_all; done) | (split <;> omega) | ((with_reducible show decide _ = true); exact decide_eq_true (by omega)) | ((with_reducible show decide _ = false); exact decide_eq_false (by omega)) | skip
  · have : k = p.length := by omega
    have e : (atL c p).take k = atL c p := List.take_of_length_le (by omega)
    have e2 : prodL ((atL c p).take k) = prodL (atL c p) := by rw [e]
    refine .inr ⟨.exit 0, [], cvX c p, [no 23], 1000, .inl ⟨trivial, rfl, rfl⟩, ?_⟩
    refine Eq.mp (by kernel_rfl : (decide ((↑k : Int) < (↑(List.length p) : Int)) = false ∧
          ((List.length c = List.length c ∧ ints c = ints c) ∧
              (List.length p = List.length p ∧ ints p = ints p) ∧ prodL (atL c p) = prodL (List.take k (atL c p)) ∧ True) ∧
            True) = _) ?_
    (repeat' (first | (with_reducible apply And.intro) | (refine fun (_ : True) => ?_))) <;> first | with_reducible (first | rfl | exact trivial | assumption | (refine decide_eq_true ?_ <;> omega) | (refine decide_eq_false ?_ <;> omega) | (refine head_ints1 ?_ <;> omega) | (refine bne_false ?_ <;> omega) | (refine bne_true ?_ <;> omega) | (refine beq_false' ?_ <;> omega) | (refine beq_true' ?_ <;> omega) | (refine wr6' ?_ ?_ ?_ <;> omega) | (refine rem6 ?_ <;> omega) | (refine quo6 ?_ ?_ ?_ <;> omega) | exact HfL_ints _ | omega) | ((with_reducible show (_ : V) = _); rfl) | (intro hk_; exfalso; revert hk_; simp; done) | (intros; simp_all; done) | (split <;> omega) | ((with_reducible show decide _ = true); exact decide_eq_true (by omega)) | ((with_reducible show decide _ = false); exact decide_eq_false (by omega)) | skip

def seenJ (c p : List Int) (j : Nat) (h : List Nat) (m : Nat) : Bool := decide (partR c p m < j) || decide (m ∈ h)
abbrev cxS (c p : List Int) (pp : Int) (N j : Nat) (more : List (Nat × V)) (h : List Nat) : SL := { sl := [(3, sl c), (4, sl p), (5, i6 pp), (8, .sl 0 0 N (some (N - N))), (36, i6 pp), (37, i6 j)] ++ more, os := [.row 4 none (bolF (seenJ c p j h) N)] }
abbrev cyS (c p : List Int) (pp : Int) (N j : Nat) (k : Nat) : SL := cxS c p pp N j [(9, i6 j), (10, sl (hitL c p j)), (58, sl (hitL c p j)), (59, i6 (hitL c p j).length), (60, i6 k)] ((hits c p j).take k)

theorem covers_in (c p : List Int) (pp : Int) (N j : Nat) (hg : Good c) (hin : incr c.length (-1) p = true) (hN : (N : Int) = prodL c) (k : Nat) (hk : k ≤ (hitL c p j).length) :
    Sat Pg none 0 (at' 8 [1, 1, 1, 1, 1, 1, 0, 1, 0, 0, 1, 1, 0, 0, 1, 1, 1, 1, 0]) (mkSt .e 112 (cyS c p pp N j k)) (outsP .e 112 [(True, .exit 4, cxS c p pp N j [] (hits c p j))]) := by
  refine loopC vE_ok mixed sp0_ok (b := at' 8 [1, 1, 1, 1, 1, 1, 0, 1, 0, 0, 1, 1, 0, 0, 1, 1, 1, 1, 0, 0]) (by kernel_rfl) (fun k => k ≤ (hitL c p j).length) (cyS c p pp N j) (fun k => (hitL c p j).length - k) (fun k hk => ?_) k hk
  have hlen := hitL_length c p j
  have hle := hg.le
  have hcl := hg.len
  have hpl := incr_le hin
  have hcnt := good_count hg
  have hhl : (hitL c p j).length ≤ 4096 := by
    have := hitI_len c p j (prodL c).toNat
    rw [hitI_hitL] at this
    omega
  by_cases hlt : k < (hitL c p j).length
  · have hlt' : k < (hits c p j).length := by omega
    have hd := @head_ints1 (hitL c p j) k hlt
    have hmem := (hits_mem hin).1 (List.getElem_mem hlt')
    have hget : (hitL c p j)[k] = ((hits c p j)[k] : Nat) := by simp [hitL]
    have hpw := List.pairwise_iff_getElem.1 (hits_lt c p j)
    have hnin : (hits c p j)[k] ∉ (hits c p j).take k := by
      intro hm
      obtain ⟨i, hi, he⟩ := List.getElem_of_mem hm
      rw [List.length_take] at hi
      rw [List.getElem_take] at he
      have := hpw i k (by omega) hlt' (by omega)
      omega
    have htake : (hits c p j).take (k + 1) = (hits c p j).take k ++ [(hits c p j)[k]] := List.take_succ_eq_append_getElem hlt'
    obtain ⟨q, hq⟩ : ∃ q, (hits c p j)[k] = q := ⟨_, rfl⟩
    rw [hq] at hmem hget hnin htake
    rw [hget] at hd
    have hqN : q < N := by omega
    have hsq : seenJ c p j ((hits c p j).take k) q = false := by
      unfold seenJ
      rw [decide_eq_false (by omega), decide_eq_false hnin]; rfl
    have hs : headF (dropF (0 + q * 1) (bolF (seenJ c p j ((hits c p j).take k)) N)) = some (.bool false) := by rw [head_bolF hqN, hsq]
    have hst : layE (0 + q * 1) (bolF (seenJ c p j ((hits c p j).take k)) N) [V.bool true] = some (bolF (seenJ c p j ((hits c p j).take (k + 1))) N) := by
      refine lay_bol hqN fun m _ => ?_
      unfold seenJ
      rw [htake, Bool.or_assoc]
      congr 1
      rw [Bool.eq_iff_iff]
      simp
    have hpart := part_ok (gl := .e) c p q (by omega)
    rw [show PartS c p q = ((j : Int), 0) by simp only [PartS, hcnt]; rw [if_neg (by simp [hin]; omega), partR_eq hin, hmem.2]] at hpart
    have hpart' : FnOk Pg .e 23 [sl c, sl p, i6 q] (.tup [i6 j, i6 0]) := hpart
    have g1 := is_fn j
    have g2 := is1_fn j
    have hHf := HfL_bol (seenJ c p j ((hits c p j).take (k + 1))) N
    cases k with
    | zero =>
      refine .inl ⟨1, [0], [yes 61, pl 63, ld 64 (i6 q), no 66, no 71, pl 76, ld 77 (.bool false), fn 94 (.fn 74 [.imp [i6 j]]), fn 98 (.tup [i6 j, i6 0]), fn 101 (.bool true), pl 106, st (bolF (seenJ c p j ((hits c p j).take (0 + 1))) N), nu 107 1], 1000, hlt, by omega, ?_⟩
      refine Eq.mp (by kernel_rfl : (decide ((↑(0 : Nat) : Int) < (↑(List.length (hitL c p (↑j : Int))) : Int)) = true ∧
            ((0 : Int) ≤ (↑(0 : Nat) : Int) ∧ (↑(0 : Nat) : Int) < (↑(List.length (hitL c p (↑j : Int))) : Int)) ∧
              headF (List.drop ((0 : Nat) * (1 : Nat)) (ints (hitL c p (↑j : Int)))) = some (i6 (↑q : Int)) ∧
                decide ((↑q : Int) < (0 : Int)) = false ∧
                  decide ((↑q : Int) ≥ (↑N : Int)) = false ∧
                    ((0 : Int) ≤ (↑q : Int) ∧ (↑q : Int) < (↑N : Int)) ∧
                      headF (dropF ((0 : Nat) + q * (1 : Nat)) (bolF (seenJ c p j []) N)) = some (V.bool false) ∧
                        (True ∧ True) ∧
                          FnOk Try.prog T.e (37 : Nat) [V.int IntKind.i64 (↑j : Int)] (V.fn (74 : Nat) [V.imp [i6 (↑j : Int)]]) ∧
                            True ∧
                              (True ∧ True ∧ True ∧ True) ∧
                                FnOk Try.prog T.e (23 : Nat)
                                    [V.im (List.length c) (ints c), V.im (List.length p) (ints p), V.int IntKind.i64 (↑q : Int)]
                                    (V.tup [i6 (↑j : Int), i6 (0 : Int)]) ∧
                                  ((V.fn (37 : Nat) [] = V.fn (23 : Nat) [] →
                                        [i6 (↑j : Int)] = [sl c, sl p, i6 (↑q : Int)] →
                                          ofOs T.e (0 : Nat) [O.row (4 : Nat) none (bolF (seenJ c p j []) N)] =
                                              ofOs T.e (0 : Nat) [O.row (4 : Nat) none (bolF (seenJ c p j []) N)] →
                                            (1 : Nat) = (1 : Nat) →
                                              CR.mk (V.fn (74 : Nat) [V.imp [i6 (↑j : Int)]])
                                                  (ofOs T.e (0 : Nat) [O.row (4 : Nat) none (bolF (seenJ c p j []) N)]) (1 : Nat)
                                                  [] =
                                                CR.mk (V.tup [i6 (↑j : Int), i6 (0 : Int)])
                                                  (ofOs T.e (0 : Nat) [O.row (4 : Nat) none (bolF (seenJ c p j []) N)]) (1 : Nat)
                                                  []) ∧
                                      True) ∧
                                    (True ∧ True ∧ True ∧ True) ∧
                                      FnOk Try.prog T.e (74 : Nat)
                                          [V.int IntKind.i64 (↑j : Int), V.int IntKind.i64 (0 : Int), V.imp [i6 (↑j : Int)]]
                                          (V.bool true) ∧
                                        ((V.fn (23 : Nat) [] = V.fn (74 : Nat) [V.imp [i6 (↑j : Int)]] →
                                              [sl c, sl p, i6 (↑q : Int)] = [i6 (↑j : Int), i6 (0 : Int)] →
                                                ofOs T.e (0 : Nat) [O.row (4 : Nat) none (bolF (seenJ c p j []) N)] =
                                                    ofOs T.e (0 : Nat) [O.row (4 : Nat) none (bolF (seenJ c p j []) N)] →
                                                  (1 : Nat) = (1 : Nat) →
                                                    CR.mk (V.tup [i6 (↑j : Int), i6 (0 : Int)])
                                                        (ofOs T.e (0 : Nat) [O.row (4 : Nat) none (bolF (seenJ c p j []) N)])
                                                        (1 : Nat) [] =
                                                      CR.mk (V.bool true)
                                                        (ofOs T.e (0 : Nat) [O.row (4 : Nat) none (bolF (seenJ c p j []) N)])
                                                        (1 : Nat) []) ∧
                                            (V.fn (37 : Nat) [] = V.fn (74 : Nat) [V.imp [i6 (↑j : Int)]] →
                                                [i6 (↑j : Int)] = [i6 (↑j : Int), i6 (0 : Int)] →
                                                  ofOs T.e (0 : Nat) [O.row (4 : Nat) none (bolF (seenJ c p j []) N)] =
                                                      ofOs T.e (0 : Nat) [O.row (4 : Nat) none (bolF (seenJ c p j []) N)] →
                                                    (1 : Nat) = (1 : Nat) →
                                                      CR.mk (V.fn (74 : Nat) [V.imp [i6 (↑j : Int)]])
                                                          (ofOs T.e (0 : Nat) [O.row (4 : Nat) none (bolF (seenJ c p j []) N)])
                                                          (1 : Nat) [] =
                                                        CR.mk (V.bool true)
                                                          (ofOs T.e (0 : Nat) [O.row (4 : Nat) none (bolF (seenJ c p j []) N)])
                                                          (1 : Nat) []) ∧
                                              True) ∧
                                          ((0 : Int) ≤ (↑q : Int) ∧ (↑q : Int) < (↑N : Int)) ∧
                                            layE ((0 : Nat) + q * (1 : Nat)) (bolF (seenJ c p j []) N) [V.bool true] =
                                                some
                                                  (bolF (seenJ c p j (List.take ((0 : Nat) + (1 : Nat)) (hits c p (↑j : Int))))
                                                    N) ∧
                                              wr IntKind.i64 ((↑(0 : Nat) : Int) + (1 : Int)) = (1 : Int) ∧
                                                ((List.length c = List.length c ∧ ints c = ints c) ∧
                                                    (List.length p = List.length p ∧ ints p = ints p) ∧
                                                      pp = pp ∧
                                                        ((0 : Nat) = (0 : Nat) ∧ N = N ∧ N - N = N - N) ∧
                                                          pp = pp ∧
                                                            (↑j : Int) = (↑j : Int) ∧
                                                              (↑j : Int) = (↑j : Int) ∧
                                                                (List.length (hitL c p (↑j : Int)) =
                                                                      List.length (hitL c p (↑j : Int)) ∧
                                                                    ints (hitL c p (↑j : Int)) = ints (hitL c p (↑j : Int))) ∧
                                                                  (List.length (hitL c p (↑j : Int)) =
                                                                        List.length (hitL c p (↑j : Int)) ∧
                                                                      ints (hitL c p (↑j : Int)) = ints (hitL c p (↑j : Int))) ∧
                                                                    (↑(List.length (hitL c p (↑j : Int))) : Int) =
                                                                        (↑(List.length (hitL c p (↑j : Int))) : Int) ∧
                                                                      (↑(1 : Nat) : Int) = (1 : Int) ∧ True) ∧
                                                  (bolF (seenJ c p j (List.take (1 : Nat) (hits c p (↑j : Int)))) N =
                                                        bolF
                                                          (seenJ c p j (List.take ((0 : Nat) + (1 : Nat)) (hits c p (↑j : Int))))
                                                          N ∧
                                                      HfL (bolF (seenJ c p j (List.take (1 : Nat) (hits c p (↑j : Int)))) N)) ∧
                                                    True) = _) ?_
      (repeat' (first | (with_reducible apply And.intro) | (refine fun (_ : True) => ?_))) <;> first | with_reducible (first | rfl | exact trivial | assumption | (refine decide_eq_true ?_ <;> omega) | (refine decide_eq_false ?_ <;> omega) | (refine head_ints1 ?_ <;> omega) | (refine bne_false ?_ <;> omega) | (refine bne_true ?_ <;> omega) | (refine beq_false' ?_ <;> omega) | (refine beq_true' ?_ <;> omega) | (refine wr6' ?_ ?_ ?_ <;> omega) | (refine rem6 ?_ <;> omega) | (refine quo6 ?_ ?_ ?_ <;> omega) | exact HfL_ints _ | omega) | ((with_reducible show (_ : V) = _); rfl) | (intro hk_; exfalso; revert hk_; simp; done) | (intros; simp_all; done) | (split <;> omega) | ((with_reducible show decide _ = true); exact decide_eq_true (by omega)) | ((with_reducible show decide _ = false); exact decide_eq_false (by omega)) | skip
    | succ k =>
      have hk1 : k < (hitL c p j).length := by omega
      have hd' := @head_ints1 (hitL c p j) k hk1
      have hget' : (hitL c p j)[k] = ((hits c p j)[k]'(by omega) : Nat) := by simp [hitL]
      have hlt2 := hpw k (k + 1) (by omega) hlt' (by omega)
      rw [hq] at hlt2
      obtain ⟨q', hq'⟩ : ∃ q', (hits c p j)[k]'(by omega) = q' := ⟨_, rfl⟩
      rw [hq'] at hget' hlt2
      rw [hget'] at hd'
      refine .inl ⟨k + 1 + 1, [0], [yes 61, pl 63, ld 64 (i6 q), no 66, no 71, pl 76, ld 77 (.bool false), yes 81, nu 86 k, pl 87, ld 88 (i6 q'), no 89, fn 94 (.fn 74 [.imp [i6 j]]), fn 98 (.tup [i6 j, i6 0]), fn 101 (.bool true), pl 106, st (bolF (seenJ c p j ((hits c p j).take (k + 1 + 1))) N), nu 107 (k + 1 + 1 : Nat)], 1000, hlt, by omega, ?_⟩
      refine Eq.mp (by kernel_rfl : (decide ((↑(k + (1 : Nat)) : Int) < (↑(List.length (hitL c p (↑j : Int))) : Int)) = true ∧
            ((0 : Int) ≤ (↑(k + (1 : Nat)) : Int) ∧ (↑(k + (1 : Nat)) : Int) < (↑(List.length (hitL c p (↑j : Int))) : Int)) ∧
              headF (List.drop ((k + (1 : Nat)) * (1 : Nat)) (ints (hitL c p (↑j : Int)))) = some (i6 (↑q : Int)) ∧
                decide ((↑q : Int) < (0 : Int)) = false ∧
                  decide ((↑q : Int) ≥ (↑N : Int)) = false ∧
                    ((0 : Int) ≤ (↑q : Int) ∧ (↑q : Int) < (↑N : Int)) ∧
                      headF
                            (dropF ((0 : Nat) + q * (1 : Nat))
                              (bolF (seenJ c p j (List.take (k + (1 : Nat)) (hits c p (↑j : Int)))) N)) =
                          some (V.bool false) ∧
                        decide ((↑(k + (1 : Nat)) : Int) > (0 : Int)) = true ∧
                          wr IntKind.i64 ((↑(k + (1 : Nat)) : Int) - (1 : Int)) = (↑k : Int) ∧
                            ((0 : Int) ≤ (↑k : Int) ∧ (↑k : Int) < (↑(List.length (hitL c p (↑j : Int))) : Int)) ∧
                              headF (List.drop (k * (1 : Nat)) (ints (hitL c p (↑j : Int)))) = some (i6 (↑q' : Int)) ∧
                                decide ((↑q : Int) ≤ (↑q' : Int)) = false ∧
                                  (True ∧ True) ∧
                                    FnOk Try.prog T.e (37 : Nat) [V.int IntKind.i64 (↑j : Int)]
                                        (V.fn (74 : Nat) [V.imp [i6 (↑j : Int)]]) ∧
                                      True ∧
                                        (True ∧ True ∧ True ∧ True) ∧
                                          FnOk Try.prog T.e (23 : Nat)
                                              [V.im (List.length c) (ints c), V.im (List.length p) (ints p),
                                                V.int IntKind.i64 (↑q : Int)]
                                              (V.tup [i6 (↑j : Int), i6 (0 : Int)]) ∧
                                            ((V.fn (37 : Nat) [] = V.fn (23 : Nat) [] →
                                                  [i6 (↑j : Int)] = [sl c, sl p, i6 (↑q : Int)] →
                                                    ofOs T.e (0 : Nat)
                                                          [O.row (4 : Nat) none
                                                              (bolF
                                                                (seenJ c p j (List.take (k + (1 : Nat)) (hits c p (↑j : Int))))
                                                                N)] =
                                                        ofOs T.e (0 : Nat)
                                                          [O.row (4 : Nat) none
                                                              (bolF
                                                                (seenJ c p j (List.take (k + (1 : Nat)) (hits c p (↑j : Int))))
                                                                N)] →
                                                      (1 : Nat) = (1 : Nat) →
                                                        CR.mk (V.fn (74 : Nat) [V.imp [i6 (↑j : Int)]])
                                                            (ofOs T.e (0 : Nat)
                                                              [O.row (4 : Nat) none
                                                                  (bolF
                                                                    (seenJ c p j
                                                                      (List.take (k + (1 : Nat)) (hits c p (↑j : Int))))
                                                                    N)])
                                                            (1 : Nat) [] =
                                                          CR.mk (V.tup [i6 (↑j : Int), i6 (0 : Int)])
                                                            (ofOs T.e (0 : Nat)
                                                              [O.row (4 : Nat) none
                                                                  (bolF
                                                                    (seenJ c p j
                                                                      (List.take (k + (1 : Nat)) (hits c p (↑j : Int))))
                                                                    N)])
                                                            (1 : Nat) []) ∧
                                                True) ∧
                                              (True ∧ True ∧ True ∧ True) ∧
                                                FnOk Try.prog T.e (74 : Nat)
                                                    [V.int IntKind.i64 (↑j : Int), V.int IntKind.i64 (0 : Int),
                                                      V.imp [i6 (↑j : Int)]]
                                                    (V.bool true) ∧
                                                  ((V.fn (23 : Nat) [] = V.fn (74 : Nat) [V.imp [i6 (↑j : Int)]] →
                                                        [sl c, sl p, i6 (↑q : Int)] = [i6 (↑j : Int), i6 (0 : Int)] →
                                                          ofOs T.e (0 : Nat)
                                                                [O.row (4 : Nat) none
                                                                    (bolF
                                                                      (seenJ c p j
                                                                        (List.take (k + (1 : Nat)) (hits c p (↑j : Int))))
                                                                      N)] =
                                                              ofOs T.e (0 : Nat)
                                                                [O.row (4 : Nat) none
                                                                    (bolF
                                                                      (seenJ c p j
                                                                        (List.take (k + (1 : Nat)) (hits c p (↑j : Int))))
                                                                      N)] →
                                                            (1 : Nat) = (1 : Nat) →
                                                              CR.mk (V.tup [i6 (↑j : Int), i6 (0 : Int)])
                                                                  (ofOs T.e (0 : Nat)
                                                                    [O.row (4 : Nat) none
                                                                        (bolF
                                                                          (seenJ c p j
                                                                            (List.take (k + (1 : Nat)) (hits c p (↑j : Int))))
                                                                          N)])
                                                                  (1 : Nat) [] =
                                                                CR.mk (V.bool true)
                                                                  (ofOs T.e (0 : Nat)
                                                                    [O.row (4 : Nat) none
                                                                        (bolF
                                                                          (seenJ c p j
                                                                            (List.take (k + (1 : Nat)) (hits c p (↑j : Int))))
                                                                          N)])
                                                                  (1 : Nat) []) ∧
                                                      (V.fn (37 : Nat) [] = V.fn (74 : Nat) [V.imp [i6 (↑j : Int)]] →
                                                          [i6 (↑j : Int)] = [i6 (↑j : Int), i6 (0 : Int)] →
                                                            ofOs T.e (0 : Nat)
                                                                  [O.row (4 : Nat) none
                                                                      (bolF
                                                                        (seenJ c p j
                                                                          (List.take (k + (1 : Nat)) (hits c p (↑j : Int))))
                                                                        N)] =
                                                                ofOs T.e (0 : Nat)
                                                                  [O.row (4 : Nat) none
                                                                      (bolF
                                                                        (seenJ c p j
                                                                          (List.take (k + (1 : Nat)) (hits c p (↑j : Int))))
                                                                        N)] →
                                                              (1 : Nat) = (1 : Nat) →
                                                                CR.mk (V.fn (74 : Nat) [V.imp [i6 (↑j : Int)]])
                                                                    (ofOs T.e (0 : Nat)
                                                                      [O.row (4 : Nat) none
                                                                          (bolF
                                                                            (seenJ c p j
                                                                              (List.take (k + (1 : Nat)) (hits c p (↑j : Int))))
                                                                            N)])
                                                                    (1 : Nat) [] =
                                                                  CR.mk (V.bool true)
                                                                    (ofOs T.e (0 : Nat)
                                                                      [O.row (4 : Nat) none
                                                                          (bolF
                                                                            (seenJ c p j
                                                                              (List.take (k + (1 : Nat)) (hits c p (↑j : Int))))
                                                                            N)])
                                                                    (1 : Nat) []) ∧
                                                        True) ∧
                                                    ((0 : Int) ≤ (↑q : Int) ∧ (↑q : Int) < (↑N : Int)) ∧
                                                      layE ((0 : Nat) + q * (1 : Nat))
                                                            (bolF (seenJ c p j (List.take (k + (1 : Nat)) (hits c p (↑j : Int))))
                                                              N)
                                                            [V.bool true] =
                                                          some
                                                            (bolF
                                                              (seenJ c p j
                                                                (List.take (k + (1 : Nat) + (1 : Nat)) (hits c p (↑j : Int))))
                                                              N) ∧
                                                        wr IntKind.i64 ((↑(k + (1 : Nat)) : Int) + (1 : Int)) =
                                                            (↑(k + (1 : Nat) + (1 : Nat)) : Int) ∧
                                                          ((List.length c = List.length c ∧ ints c = ints c) ∧
                                                              (List.length p = List.length p ∧ ints p = ints p) ∧
                                                                pp = pp ∧
                                                                  ((0 : Nat) = (0 : Nat) ∧ N = N ∧ N - N = N - N) ∧
                                                                    pp = pp ∧
                                                                      (↑j : Int) = (↑j : Int) ∧
                                                                        (↑j : Int) = (↑j : Int) ∧
                                                                          (List.length (hitL c p (↑j : Int)) =
                                                                                List.length (hitL c p (↑j : Int)) ∧
                                                                              ints (hitL c p (↑j : Int)) =
                                                                                ints (hitL c p (↑j : Int))) ∧
                                                                            (List.length (hitL c p (↑j : Int)) =
                                                                                  List.length (hitL c p (↑j : Int)) ∧
                                                                                ints (hitL c p (↑j : Int)) =
                                                                                  ints (hitL c p (↑j : Int))) ∧
                                                                              (↑(List.length (hitL c p (↑j : Int))) : Int) =
                                                                                  (↑(List.length (hitL c p (↑j : Int))) : Int) ∧
                                                                                (↑(k + (1 : Nat) + (1 : Nat)) : Int) =
                                                                                    (↑(k + (1 : Nat) + (1 : Nat)) : Int) ∧
                                                                                  True) ∧
                                                            (bolF
                                                                    (seenJ c p j
                                                                      (List.take (k + (1 : Nat) + (1 : Nat))
                                                                        (hits c p (↑j : Int))))
                                                                    N =
                                                                  bolF
                                                                    (seenJ c p j
                                                                      (List.take (k + (1 : Nat) + (1 : Nat))
                                                                        (hits c p (↑j : Int))))
                                                                    N ∧
                                                                HfL
                                                                  (bolF
                                                                    (seenJ c p j
                                                                      (List.take (k + (1 : Nat) + (1 : Nat))
                                                                        (hits c p (↑j : Int))))
                                                                    N)) ∧
                                                              True) = _) ?_
      (repeat' (first | (with_reducible apply And.intro) | (refine fun (_ : True) => ?_))) <;> first | with_reducible (first | rfl | exact trivial | assumption | (refine decide_eq_true ?_ <;> omega) | (refine decide_eq_false ?_ <;> omega) | (refine head_ints1 ?_ <;> omega) | (refine bne_false ?_ <;> omega) | (refine bne_true ?_ <;> omega) | (refine beq_false' ?_ <;> omega) | (refine beq_true' ?_ <;> omega) | (refine wr6' ?_ ?_ ?_ <;> omega) | (refine rem6 ?_ <;> omega) | (refine quo6 ?_ ?_ ?_ <;> omega) | exact HfL_ints _ | omega) | ((with_reducible show (_ : V) = _); rfl) | (intro hk_; exfalso; revert hk_; simp; done) | (intros; simp_all; done) | (split <;> omega) | ((with_reducible show decide _ = true); exact decide_eq_true (by omega)) | ((with_reducible show decide _ = false); exact decide_eq_false (by omega)) | skip
  · have e : (hits c p j).take k = hits c p j := List.take_of_length_le (by omega)
    have e2 : bolF (seenJ c p j ((hits c p j).take k)) N = bolF (seenJ c p j (hits c p j)) N := by rw [e]
    have hHf := HfL_bol (seenJ c p j (hits c p j)) N
    refine .inr ⟨.exit 4, [0], cxS c p pp N j [] (hits c p j), [no 61], 1000, .inl ⟨trivial, rfl, rfl⟩, ?_⟩
    refine Eq.mp (by kernel_rfl : (decide ((↑k : Int) < (↑(List.length (hitL c p (↑j : Int))) : Int)) = false ∧
          ((List.length c = List.length c ∧ ints c = ints c) ∧
              (List.length p = List.length p ∧ ints p = ints p) ∧
                pp = pp ∧ ((0 : Nat) = (0 : Nat) ∧ N = N ∧ N - N = N - N) ∧ pp = pp ∧ (↑j : Int) = (↑j : Int) ∧ True) ∧
            (bolF (seenJ c p j (hits c p (↑j : Int))) N = bolF (seenJ c p j (List.take k (hits c p (↑j : Int)))) N ∧
                HfL (bolF (seenJ c p j (hits c p (↑j : Int))) N)) ∧
              True) = _) ?_
    (repeat' (first | (with_reducible apply And.intro) | (refine fun (_ : True) => ?_))) <;> first | with_reducible (first | rfl | exact trivial | assumption | (refine decide_eq_true ?_ <;> omega) | (refine decide_eq_false ?_ <;> omega) | (refine head_ints1 ?_ <;> omega) | (refine bne_false ?_ <;> omega) | (refine bne_true ?_ <;> omega) | (refine beq_false' ?_ <;> omega) | (refine beq_true' ?_ <;> omega) | (refine wr6' ?_ ?_ ?_ <;> omega) | (refine rem6 ?_ <;> omega) | (refine quo6 ?_ ?_ ?_ <;> omega) | exact HfL_ints _ | omega) | ((with_reducible show (_ : V) = _); rfl) | (intro hk_; exfalso; revert hk_; simp; done) | (intros; simp_all; done) | (split <;> omega) | ((with_reducible show decide _ = true); exact decide_eq_true (by omega)) | ((with_reducible show decide _ = false); exact decide_eq_false (by omega)) | skip

theorem covers2 (c p : List Int) (N M : Nat) (hg : Good c) (hin : incr c.length (-1) p = true) (hN : (N : Int) = prodL c) (hM : (M : Int) = prodL (atL c p)) (j : Nat) (hj : j ≤ M) :
    Sat Pg none 0 (at' 8 [1, 1, 1, 1, 1, 1, 0, 1, 0]) (mkSt .e 112 (cxS c p M N j [] [])) (outsP .e 112 [(True, .exit 2, { sl := [(8, bolT N)] })]) := by
  refine loopC vE_ok mixed sp0_ok (b := at' 8 [1, 1, 1, 1, 1, 1, 0, 1, 0, 0]) (by kernel_rfl) (fun j => j ≤ M) (fun j => cxS c p M N j [] []) (fun j => M - j) (fun j hj => ?_) j hj
  have hle := hg.le
  have hMle := (at_good hg hin).le
  have hcnt := good_count hg
  have hcl := hg.len
  have hpl := incr_le hin
  have hpz : ppG 0 c p = prodL (atL c p) := ppG_zero hin
  by_cases hlt : j < M
  · have hsp := spread_ok (gl := .e) c p j (by omega)
    rw [show SpreadS c p j = (hitL c p j, 0) by simp only [SpreadS, hcnt]; rw [if_neg (by simp [hin]), if_neg (by omega)]] at hsp
    have hsp' : FnOk Pg .e 27 [sl c, sl p, i6 j] (.tup [sl (hitL c p j), i6 0]) := hsp
    have hcount := hits_count hg (ps := p) (j := j) (by omega) (by omega)
    rw [← hitL_length, hpz, ← hM, ← hN] at hcount
    have l := covers_in c p M N j hg hin hN 0 (Nat.zero_le _)
    have hf : bolF (seenJ c p j (hits c p j)) N = bolF (seenJ c p (j + 1) []) N := by
      refine bolF_congr fun m hm => ?_
      unfold seenJ
      rw [Bool.eq_iff_iff]
      simp only [Bool.or_eq_true, decide_eq_true_eq, List.not_mem_nil, or_false]
      rw [hits_mem hin]
      constructor
      · rintro (h | h) <;> omega
      · intro h
        by_cases h' : partR c p m < j
        · exact .inl h'
        · exact .inr ⟨by omega, by omega⟩
    have hHf := HfL_bol (seenJ c p (j + 1) []) N
    refine .inl ⟨j + 1, [0], [yes 38, fn 44 (.tup [sl (hitL c p j), i6 0]), nu 53 (N : Int), no 56, (0, .loop [0] (cyS c p M N j 0) [(True, .exit 4, cxS c p M N j [] (hits c p j))]), nu 108 (j + 1 : Nat)], 1000, hlt, by omega, ?_⟩
    refine Eq.mp (by kernel_rfl : (decide ((↑j : Int) < (↑M : Int)) = true ∧
          (True ∧ True ∧ True ∧ True) ∧
            FnOk Try.prog T.e (27 : Nat)
                [V.im (List.length c) (ints c), V.im (List.length p) (ints p), V.int IntKind.i64 (↑j : Int)]
                (V.tup [sl (hitL c p (↑j : Int)), i6 (0 : Int)]) ∧
              True ∧
                wr IntKind.i64 ((↑(List.length (hitL c p (↑j : Int))) : Int) * (↑M : Int)) = (↑N : Int) ∧
                  ((↑N : Int) != (↑N : Int)) = false ∧
                    (((List.length c = List.length c ∧ ints c = ints c) ∧
                          (List.length p = List.length p ∧ ints p = ints p) ∧
                            (↑M : Int) = (↑M : Int) ∧
                              ((0 : Nat) = (0 : Nat) ∧ N = N ∧ N - N = N - N) ∧
                                (↑M : Int) = (↑M : Int) ∧
                                  (↑j : Int) = (↑j : Int) ∧
                                    (↑j : Int) = (↑j : Int) ∧
                                      (List.length (hitL c p (↑j : Int)) = List.length (hitL c p (↑j : Int)) ∧
                                          ints (hitL c p (↑j : Int)) = ints (hitL c p (↑j : Int))) ∧
                                        (List.length (hitL c p (↑j : Int)) = List.length (hitL c p (↑j : Int)) ∧
                                            ints (hitL c p (↑j : Int)) = ints (hitL c p (↑j : Int))) ∧
                                          (↑(List.length (hitL c p (↑j : Int))) : Int) =
                                              (↑(List.length (hitL c p (↑j : Int))) : Int) ∧
                                            (↑(0 : Nat) : Int) = (0 : Int) ∧ True) ∧
                        (bolF (seenJ c p j []) N = bolF (seenJ c p j []) N ∧ HfL (bolF (seenJ c p j []) N)) ∧ True) ∧
                      Sat Try.prog none (0 : Nat)
                          (at' (8 : Nat)
                            [(1 : Nat), (1 : Nat), (1 : Nat), (1 : Nat), (1 : Nat), (1 : Nat), (0 : Nat), (1 : Nat), (0 : Nat),
                              (0 : Nat), (1 : Nat), (1 : Nat), (0 : Nat), (0 : Nat), (1 : Nat), (1 : Nat), (1 : Nat), (1 : Nat),
                              (0 : Nat)])
                          (mkSt T.e (112 : Nat) (cyS c p (↑M : Int) N j (0 : Nat)))
                          (outsP T.e (112 : Nat) [(True, Ex.exit (4 : Nat), cxS c p (↑M : Int) N j [] (hits c p (↑j : Int)))]) ∧
                        (True →
                            wr IntKind.i64 ((↑j : Int) + (1 : Int)) = (↑(j + (1 : Nat)) : Int) ∧
                              ((List.length c = List.length c ∧ ints c = ints c) ∧
                                  (List.length p = List.length p ∧ ints p = ints p) ∧
                                    (↑M : Int) = (↑M : Int) ∧
                                      ((0 : Nat) = (0 : Nat) ∧ N = N ∧ N - N = N - N) ∧
                                        (↑M : Int) = (↑M : Int) ∧ (↑(j + (1 : Nat)) : Int) = (↑(j + (1 : Nat)) : Int) ∧ True) ∧
                                (bolF (seenJ c p (j + (1 : Nat)) []) N = bolF (seenJ c p j (hits c p (↑j : Int))) N ∧
                                    HfL (bolF (seenJ c p (j + (1 : Nat)) []) N)) ∧
                                  True) ∧
                          True) = _) ?_
    (repeat' (first | (with_reducible apply And.intro) | (refine fun (_ : True) => ?_))) <;> first | with_reducible (first | rfl | exact trivial | assumption | (refine decide_eq_true ?_ <;> omega) | (refine decide_eq_false ?_ <;> omega) | (refine head_ints1 ?_ <;> omega) | (refine bne_false ?_ <;> omega) | (refine bne_true ?_ <;> omega) | (refine beq_false' ?_ <;> omega) | (refine beq_true' ?_ <;> omega) | (refine wr6' ?_ ?_ ?_ <;> omega) | (refine rem6 ?_ <;> omega) | (refine quo6 ?_ ?_ ?_ <;> omega) | exact HfL_ints _ | omega) | ((with_reducible show (_ : V) = _); rfl) | (intro hk_; exfalso; revert hk_; simp; done) | (intros; simp_all; done) | (split <;> omega) | ((with_reducible show decide _ = true); exact decide_eq_true (by omega)) | ((with_reducible show decide _ = false); exact decide_eq_false (by omega)) | skip
    all_goals exact HfL_bol _ _
  · have : j = M := by omega
    subst this
    have hall : bolF (seenJ c p j []) N = bolF (fun _ => true) N := by
      refine bolF_congr fun m hm => ?_
      unfold seenJ
      have := partR_bd hg hin (i := m) (by omega) (by omega)
      rw [decide_eq_true (by omega)]; rfl
    refine .inr ⟨.exit 2, [], { sl := [(8, bolT N)] }, [no 38], 1000, .inl ⟨trivial, rfl, rfl⟩, ?_⟩
    refine Eq.mp (by kernel_rfl : (decide ((↑j : Int) < (↑j : Int)) = false ∧
          ((N = N ∧ bolF (fun x => true) N = bolF (seenJ c p j []) N ∧ HfL (bolF (seenJ c p j []) N)) ∧ True) ∧ True) = _) ?_
    (repeat' (first | (with_reducible apply And.intro) | (refine fun (_ : True) => ?_))) <;> first | with_reducible (first | rfl | exact trivial | assumption | (refine decide_eq_true ?_ <;> omega) | (refine decide_eq_false ?_ <;> omega) | (refine head_ints1 ?_ <;> omega) | (refine bne_false ?_ <;> omega) | (refine bne_true ?_ <;> omega) | (refine beq_false' ?_ <;> omega) | (refine beq_true' ?_ <;> omega) | (refine wr6' ?_ ?_ ?_ <;> omega) | (refine rem6 ?_ <;> omega) | (refine quo6 ?_ ?_ ?_ <;> omega) | exact HfL_ints _ | omega) | ((with_reducible show (_ : V) = _); rfl) | (intro hk_; exfalso; revert hk_; simp; done) | (intros; simp_all; done) | (split <;> omega) | ((with_reducible show decide _ = true); exact decide_eq_true (by omega)) | ((with_reducible show decide _ = false); exact decide_eq_false (by omega)) | skip
    all_goals exact HfL_bol _ _

theorem covers_true (C D : List Int) (w : Int) (hC : u8s C) : FnOk Pg .e 8 [drV C D w] (.bool true) := by
  have hw := works_ok
  have hcards := cards_fn C D w hC
  have hpl := places2_fn C D w hC
  have hin : incr (cardsD C).length (-1) (placesD C w) = true := plD_incr w _ _ (Int.le_refl _)
  have hg := cardsD_good C
  generalize placesD C w = p at *
  generalize cardsD C = c at *
  have hga := at_good hg hin
  have hle := hg.le
  have hpos := hg.pos
  have hcl := hg.len
  have hple := incr_le hin
  have hsz := size2_fn c (fits_good hg) (by omega)
  obtain ⟨N, hN⟩ : ∃ N : Nat, (N : Int) = prodL c := ⟨(prodL c).toNat, by omega⟩
  have hpa := hga.pos
  obtain ⟨M, hM⟩ : ∃ M : Nat, (M : Int) = prodL (atL c p) := ⟨(prodL (atL c p)).toNat, by omega⟩
  have l1 := covers1 c p (incr_inL hin) (fits_good hga) (by omega) 0 (Nat.zero_le _)
  have l2 := covers2 c p N M hg hin hN hM 0 (Nat.zero_le _)
  have hct := contains_fn N (by omega)
  rw [cvX, ← hM] at l1
  rw [← hN] at hsz
  have hrow : rep N [V.bool false] = bolF (seenJ c p 0 []) N := by
    rw [rep_bol]
    refine bolF_congr fun m hm => ?_
    unfold seenJ
    have := partR_bd hg hin (i := m) (by omega) (by omega)
    rw [decide_eq_false (by simp; omega)]; rfl
  refine FnOk.of_vc vE_ok mixed sp0_ok (n := 1000) (r := []) (S := boE 2 true) (hs := [fn 14 (.bool true), fn 17 (sl c), fn 19 (sl p), (0, .loop [] (cvS c p 0) [(True, .exit 0, { sl := [(3, sl c), (4, sl p), (5, i6 M)] })]), fn 34 (i6 N), mk 35, (0, .loop [0] (cxS c p M N 0 [] []) [(True, .exit 2, { sl := [(8, bolT N)] })]), fn 110 (.bool false)]) ?_
  refine Eq.mp (by kernel_rfl : (V.bool true = V.bool true ∧
        True ∧
          FnOk Try.prog T.e (15 : Nat) [] (V.bool true) ∧
            True ∧
              ((True ∧ True ∧ True ∧ True) ∧ True) ∧
                FnOk Try.prog T.e (17 : Nat)
                    [V.agg
                        [V.im (List.length C) (List.map (V.int IntKind.u8) C), V.int IntKind.u16 w,
                          V.im (List.length D) (List.map (V.int IntKind.u8) D)]]
                    (sl c) ∧
                  True ∧
                    ((True ∧ True ∧ True ∧ True) ∧ True) ∧
                      FnOk Try.prog T.e (18 : Nat)
                          [V.agg
                              [V.im (List.length C) (List.map (V.int IntKind.u8) C), V.int IntKind.u16 w,
                                V.im (List.length D) (List.map (V.int IntKind.u8) D)]]
                          (sl p) ∧
                        ((V.fn (17 : Nat) [] = V.fn (18 : Nat) [] →
                              [V.agg [sl8 C, V.int IntKind.u16 w, sl8 D]] = [V.agg [sl8 C, V.int IntKind.u16 w, sl8 D]] →
                                pt T.e (0 : Nat) (O.row (26 : Nat) none [sl8 C, V.int IntKind.u16 w, sl8 D]) =
                                    pt T.e (0 : Nat) (O.row (26 : Nat) none [sl8 C, V.int IntKind.u16 w, sl8 D]) →
                                  (0 : Nat) + (1 : Nat) = (0 : Nat) + (1 : Nat) →
                                    CR.mk (sl c)
                                        (pt T.e (0 : Nat) (O.row (26 : Nat) none [sl8 C, V.int IntKind.u16 w, sl8 D]))
                                        ((0 : Nat) + (1 : Nat)) [] =
                                      CR.mk (sl p)
                                        (pt T.e (0 : Nat) (O.row (26 : Nat) none [sl8 C, V.int IntKind.u16 w, sl8 D]))
                                        ((0 : Nat) + (1 : Nat)) []) ∧
                            True) ∧
                          (((List.length c = List.length c ∧ ints c = ints c) ∧
                                (List.length p = List.length p ∧ ints p = ints p) ∧
                                  prodL [] = (1 : Int) ∧
                                    (List.length p = List.length p ∧ ints p = ints p) ∧
                                      (↑(List.length p) : Int) = (↑(List.length p) : Int) ∧
                                        (↑(0 : Nat) : Int) = (0 : Int) ∧ True) ∧
                              True) ∧
                            Sat Try.prog none (0 : Nat)
                                (at' (8 : Nat) [(1 : Nat), (1 : Nat), (1 : Nat), (1 : Nat), (0 : Nat), (1 : Nat), (0 : Nat)])
                                (mkSt T.e (112 : Nat) (cvS c p (0 : Nat)))
                                (outsP T.e (112 : Nat)
                                  [(True, Ex.exit (0 : Nat),
                                      SL.mk [((3 : Nat), sl c), ((4 : Nat), sl p), ((5 : Nat), i6 (↑M : Int))] [] [] [])]) ∧
                              (True →
                                  (True ∧ True) ∧
                                    FnOk Try.prog T.e (35 : Nat) [V.im (List.length c) (ints c)] (i6 (↑N : Int)) ∧
                                      True ∧
                                        ((0 : Int) ≤ (↑N : Int) ∧
                                            (↑N : Int) ≤ (↑N : Int) ∧
                                              (↑(1 : Nat) : Int) * (↑N : Int) ≤ (281474976710656 : Int) ∧
                                                (↑N : Int) ≤ (9223372036854775807 : Int)) ∧
                                          (((List.length c = List.length c ∧ ints c = ints c) ∧
                                                (List.length p = List.length p ∧ ints p = ints p) ∧
                                                  (↑M : Int) = (↑M : Int) ∧
                                                    ((0 : Nat) = (0 : Nat) ∧ N = N ∧ N - N = N - N) ∧
                                                      (↑M : Int) = (↑M : Int) ∧ (↑(0 : Nat) : Int) = (0 : Int) ∧ True) ∧
                                              (bolF (seenJ c p (0 : Nat) []) N = rep N [V.bool false] ∧
                                                  HfL (bolF (seenJ c p (0 : Nat) []) N)) ∧
                                                True) ∧
                                            Sat Try.prog none (0 : Nat)
                                                (at' (8 : Nat)
                                                  [(1 : Nat), (1 : Nat), (1 : Nat), (1 : Nat), (1 : Nat), (1 : Nat),
                                                    (0 : Nat), (1 : Nat), (0 : Nat)])
                                                (mkSt T.e (112 : Nat) (cxS c p (↑M : Int) N (0 : Nat) [] []))
                                                (outsP T.e (112 : Nat)
                                                  [(True, Ex.exit (2 : Nat), SL.mk [((8 : Nat), bolT N)] [] [] [])]) ∧
                                              (True →
                                                  (True ∧ True ∧ True) ∧
                                                    FnOk Try.prog T.e (45 : Nat)
                                                        [V.im N (bolF (fun x => true) N), V.bool false] (V.bool false) ∧
                                                      True ∧ (true = !false ∧ True) ∧ True) ∧
                                                True) ∧
                                True) = _) ?_
  (repeat' (first | (with_reducible apply And.intro) | (refine fun (_ : True) => ?_))) <;> first | with_reducible (first | rfl | exact trivial | assumption | (refine decide_eq_true ?_ <;> omega) | (refine decide_eq_false ?_ <;> omega) | (refine head_ints1 ?_ <;> omega) | (refine bne_false ?_ <;> omega) | (refine bne_true ?_ <;> omega) | (refine beq_false' ?_ <;> omega) | (refine beq_true' ?_ <;> omega) | (refine wr6' ?_ ?_ ?_ <;> omega) | (refine rem6 ?_ <;> omega) | (refine quo6 ?_ ?_ ?_ <;> omega) | exact HfL_ints _ | omega) | ((with_reducible show (_ : V) = _); rfl) | (intro hk_; exfalso; revert hk_; simp; done) | (intros; simp_all; done) | (split <;> omega) | ((with_reducible show decide _ = true); exact decide_eq_true (by omega)) | ((with_reducible show decide _ = false); exact decide_eq_false (by omega)) | skip
  all_goals first | rfl | exact HfL_bol _ _
end Go.Proofs.Ytmnaidemihcfaaa.Am
