/- IndexTurns: the law returns true, whatever it is called with: the walk. -/
import Derived.Test.YtmnaidemihcfaaaV11
import Derived.Test.YtmnaidemihcfaaaV5
namespace Go.Proofs.Ytmnaidemihcfaaa.Am
open Go.RowKit
set_option linter.unusedVariables false
set_option maxHeartbeats 1000000
set_option maxRecDepth 100000

/-! ### law02.size, is -/
abbrev s2S (L : List Int) (k : Nat) : SL := { sl := [(3, i6 (prodL (L.take k))), (6, sl L), (7, i6 L.length), (8, i6 k)] }
theorem size2_loop (L : List Int) (hL : Fits L) (hl : L.length ≤ 4096) (k : Nat) (hk : k ≤ L.length) :
    Sat Pg none 0 (at' 35 [1, 1, 0, 1, 0]) (mkSt .e 17 (s2S L k)) (outsP .e 17 [(True, .exit 0, szE L)]) := by
  refine loopC vE_ok mixed sp0_ok (b := at' 35 [1, 1, 0, 1, 0, 0]) (by kernel_rfl) (fun k => k ≤ L.length) (s2S L) (fun k => L.length - k) (fun k hk => ?_) k hk
  by_cases hlt : k < L.length
  · have h1 := hL (k + 1) hlt
    have h2 := prodL_take hlt
    refine .inl ⟨k + 1, [], [yes 9, pl 10, ld 11 (i6 L[k]), nu 14 (prodL (L.take (k + 1))), nu 15 (k + 1 : Nat)], 1000, hlt, by omega, ?_⟩
    refine Eq.mp (by kernel_rfl : (decide ((↑k : Int) < (↑(List.length L) : Int)) = true ∧
          ((0 : Int) ≤ (↑k : Int) ∧ (↑k : Int) < (↑(List.length L) : Int)) ∧
            headF (List.drop (k * (1 : Nat)) (ints L)) = some (i6 L[k]) ∧
              wr IntKind.i64 (prodL (List.take k L) * L[k]) = prodL (List.take (k + (1 : Nat)) L) ∧
                wr IntKind.i64 ((↑k : Int) + (1 : Int)) = (↑(k + (1 : Nat)) : Int) ∧
                  (prodL (List.take (k + (1 : Nat)) L) = prodL (List.take (k + (1 : Nat)) L) ∧
                      (List.length L = List.length L ∧ ints L = ints L) ∧
                        (↑(List.length L) : Int) = (↑(List.length L) : Int) ∧
                          (↑(k + (1 : Nat)) : Int) = (↑(k + (1 : Nat)) : Int) ∧ True) ∧
                    True) = _) ?_
    (repeat' (first | (with_reducible apply And.intro) | (refine fun (_ : True) => ?_))) <;> first | with_reducible (first | rfl | exact trivial | assumption | (refine decide_eq_true ?_ <;> omega) | (refine decide_eq_false ?_ <;> omega) | (refine head_ints1 ?_ <;> omega) | (refine bne_false ?_ <;> omega) | (refine bne_true ?_ <;> omega) | (refine beq_false' ?_ <;> omega) | (refine beq_true' ?_ <;> omega) | (refine wr6' ?_ ?_ ?_ <;> omega) | (refine rem6 ?_ <;> omega) | (refine quo6 ?_ ?_ ?_ <;> omega) | exact HfL_ints _ | omega) | ((with_reducible show (_ : V) = _); rfl) | (intro hk_; exfalso; revert hk_; simp; done) | (intros; simp_all; done) | (split <;> omega) | ((with_reducible show decide _ = true); exact decide_eq_true (by omega)) | ((with_reducible show decide _ = false); exact decide_eq_false (by omega)) | skip
  · have : k = L.length := by omega
    subst this
    refine .inr ⟨.exit 0, [], szE L, [no 9], 1000, .inl ⟨trivial, rfl, rfl⟩, ?_⟩
    refine Eq.mp (by kernel_rfl : (decide ((↑(List.length L) : Int) < (↑(List.length L) : Int)) = false ∧
          (prodL L = prodL (List.take (List.length L) L) ∧ True) ∧ True) = _) ?_
    (repeat' (first | (with_reducible apply And.intro) | (refine fun (_ : True) => ?_))) <;> first | with_reducible (first | rfl | exact trivial | assumption | (refine decide_eq_true ?_ <;> omega) | (refine decide_eq_false ?_ <;> omega) | (refine head_ints1 ?_ <;> omega) | (refine bne_false ?_ <;> omega) | (refine bne_true ?_ <;> omega) | (refine beq_false' ?_ <;> omega) | (refine beq_true' ?_ <;> omega) | (refine wr6' ?_ ?_ ?_ <;> omega) | (refine rem6 ?_ <;> omega) | (refine quo6 ?_ ?_ ?_ <;> omega) | exact HfL_ints _ | omega) | ((with_reducible show (_ : V) = _); rfl) | (intro hk_; exfalso; revert hk_; simp; done) | (intros; simp_all; done) | (split <;> omega) | ((with_reducible show decide _ = true); exact decide_eq_true (by omega)) | ((with_reducible show decide _ = false); exact decide_eq_false (by omega)) | skip
    all_goals rw [List.take_length]
theorem size2_fn (L : List Int) (hL : Fits L) (hl : L.length ≤ 4096) : FnOk Pg .e 35 [sl L] (i6 (prodL L)) := by
  have hlp := size2_loop L hL hl 0 (Nat.zero_le _)
  refine FnOk.of_vc vE_ok mixed sp0_ok (n := 1000) (r := []) (S := { sl := [(2, i6 (prodL L))] }) (hs := [lp (s2S L 0) (.exit 0) (szE L)]) ?_
  refine Eq.mp (by kernel_rfl : (i6 (prodL L) = i6 (prodL L) ∧
        ((prodL [] = (1 : Int) ∧
              (List.length L = List.length L ∧ ints L = ints L) ∧
                (↑(List.length L) : Int) = (↑(List.length L) : Int) ∧ (↑(0 : Nat) : Int) = (0 : Int) ∧ True) ∧
            True) ∧
          Sat Try.prog none (0 : Nat) (at' (35 : Nat) [(1 : Nat), (1 : Nat), (0 : Nat), (1 : Nat), (0 : Nat)])
              (mkSt T.e (17 : Nat) (s2S L (0 : Nat))) (outsP T.e (17 : Nat) [(True, Ex.exit (0 : Nat), szE L)]) ∧
            (True → (prodL L = prodL L ∧ True) ∧ True) ∧ True) = _) ?_
  (repeat' (first | (with_reducible apply And.intro) | (refine fun (_ : True) => ?_))) <;> first | with_reducible (first | rfl | exact trivial | assumption | (refine decide_eq_true ?_ <;> omega) | (refine decide_eq_false ?_ <;> omega) | (refine head_ints1 ?_ <;> omega) | (refine bne_false ?_ <;> omega) | (refine bne_true ?_ <;> omega) | (refine beq_false' ?_ <;> omega) | (refine beq_true' ?_ <;> omega) | (refine wr6' ?_ ?_ ?_ <;> omega) | (refine rem6 ?_ <;> omega) | (refine quo6 ?_ ?_ ?_ <;> omega) | exact HfL_ints _ | omega) | ((with_reducible show (_ : V) = _); rfl) | (intro hk_; exfalso; revert hk_; simp; done) | (intros; simp_all; done) | (split <;> omega) | ((with_reducible show decide _ = true); exact decide_eq_true (by omega)) | ((with_reducible show decide _ = false); exact decide_eq_false (by omega)) | skip
  all_goals rfl

theorem is_fn (n : Int) : FnOk Pg .e 37 [i6 n] (.fn 74 [.imp [i6 n]]) := by
  refine FnOk.of_vc vE_ok mixed sp0_ok (n := 1000) (r := []) (S := { sl := [(2, .fn 74 [.imp [i6 n]])] }) (hs := []) ?_
  refine Eq.mp (by kernel_rfl : (V.fn (74 : Nat) [V.imp [i6 n]] = V.fn (74 : Nat) [V.imp [i6 n]] ∧
        ((([i6 n] = [i6 n] ∧ True ∧ True) ∧ True) ∧ True) ∧ True) = _) ?_
  (repeat' (first | (with_reducible apply And.intro) | (refine fun (_ : True) => ?_))) <;> first | with_reducible (first | rfl | exact trivial | assumption | (refine decide_eq_true ?_ <;> omega) | (refine decide_eq_false ?_ <;> omega) | (refine head_ints1 ?_ <;> omega) | (refine bne_false ?_ <;> omega) | (refine bne_true ?_ <;> omega) | (refine beq_false' ?_ <;> omega) | (refine beq_true' ?_ <;> omega) | (refine wr6' ?_ ?_ ?_ <;> omega) | (refine rem6 ?_ <;> omega) | (refine quo6 ?_ ?_ ?_ <;> omega) | exact HfL_ints _ | omega) | ((with_reducible show (_ : V) = _); rfl) | (intro hk_; exfalso; revert hk_; simp; done) | (intros; simp_all; done) | (split <;> omega) | ((with_reducible show decide _ = true); exact decide_eq_true (by omega)) | ((with_reducible show decide _ = false); exact decide_eq_false (by omega)) | skip
theorem is1_fn (n : Int) : FnOk Pg .e 74 [i6 n, i6 0, .imp [i6 n]] (.bool true) := by
  refine FnOk.of_vc vE_ok mixed sp0_ok (n := 1000) (r := []) (S := boE 5 true) (hs := [yes 8]) ?_
  refine Eq.mp (by kernel_rfl : (V.bool true = V.bool true ∧ (n == n) = true ∧ (true = ((0 : Int) == (0 : Int)) ∧ True) ∧ True) = _) ?_
  (repeat' (first | (with_reducible apply And.intro) | (refine fun (_ : True) => ?_))) <;> first | with_reducible (first | rfl | exact trivial | assumption | (refine decide_eq_true ?_ <;> omega) | (refine decide_eq_false ?_ <;> omega) | (refine head_ints1 ?_ <;> omega) | (refine bne_false ?_ <;> omega) | (refine bne_true ?_ <;> omega) | (refine beq_false' ?_ <;> omega) | (refine beq_true' ?_ <;> omega) | (refine wr6' ?_ ?_ ?_ <;> omega) | (refine rem6 ?_ <;> omega) | (refine quo6 ?_ ?_ ?_ <;> omega) | exact HfL_ints _ | omega) | ((with_reducible show (_ : V) = _); rfl) | (intro hk_; exfalso; revert hk_; simp; done) | (intros; simp_all; done) | (split <;> omega) | ((with_reducible show decide _ = true); exact decide_eq_true (by omega)) | ((with_reducible show decide _ = false); exact decide_eq_false (by omega)) | skip

/-! ### plain -/
theorem cnt_prod : ∀ (l : List Int) (s : Int), (∀ c ∈ l, 1 ≤ c ∧ c ≤ 8) → 1 ≤ s → s * prodL l ≤ 4096 → Go.Proofs.Ytmnaidemihcfaaa.cnt s l = some (s * prodL l) := by
  intro l
  induction l with
  | nil => intro s _ _ _; simp [Go.Proofs.Ytmnaidemihcfaaa.cnt, prodL]
  | cons c cs ih =>
    intro s hc hs hb
    have h1 := hc c List.mem_cons_self
    have hcs : ∀ x ∈ cs, 1 ≤ x ∧ x ≤ 8 := fun x hx => hc x (List.mem_cons_of_mem _ hx)
    have hpp := prodL_pos cs fun x hx => (hcs x hx).1
    simp only [prodL] at hb ⊢
    rw [← Int.mul_assoc] at hb ⊢
    have h2 : s * 1 ≤ s * c := Int.mul_le_mul_of_nonneg_left h1.1 (by omega)
    have h3 : s * c * 1 ≤ s * c * prodL cs := Int.mul_le_mul_of_nonneg_left hpp (by omega)
    unfold Go.Proofs.Ytmnaidemihcfaaa.cnt
    rw [if_neg (by omega)]
    exact ih (s * c) hcs (by omega) hb
theorem good_count {L : List Int} (hg : Good L) : count L = some (prodL L) := by
  unfold count
  rw [if_neg (by have := hg.len; omega), cnt_prod L 1 hg.card (by omega) (by have := hg.le; omega), Int.one_mul]
theorem valL_idxR : ∀ (L M : List Int), L.length = M.length → (∀ c ∈ L, 1 ≤ c) → fitB L M = true → valL L (idxR L M) = M
  | [], [], _, _, _ => rfl
  | c :: cs, v :: vs, hl, hc, hf => by
    unfold fitB at hf
    simp only [Bool.and_eq_true, decide_eq_true_eq] at hf
    have hcs : ∀ x ∈ cs, 1 ≤ x := fun x hx => hc x (List.mem_cons_of_mem _ hx)
    have hb := idxR_bd cs vs (by simpa using hl) hcs hf.2
    rw [valL_cons (hc c List.mem_cons_self)]
    simp only [idxR]
    obtain ⟨e1, e2⟩ := split_div v (idxR cs vs) hb.1 hb.2
    rw [e1, e2, valL_idxR cs vs (by simpa using hl) hcs hf.2]
  | [], _ :: _, hl, _, _ => by simp at hl
  | _ :: _, [], hl, _, _ => by simp at hl
theorem idxR_valL : ∀ (L : List Int), (∀ c ∈ L, 1 ≤ c) → ∀ i : Int, 0 ≤ i → i < prodL L → idxR L (valL L i) = i
  | [], _, i, h0, h1 => by simp [prodL] at h1; simp [idxR]; omega
  | c :: cs, hc, i, h0, h1 => by
    have hcs : ∀ x ∈ cs, 1 ≤ x := fun x hx => hc x (List.mem_cons_of_mem _ hx)
    have hp := prodL_pos cs hcs
    rw [valL_cons (hc c List.mem_cons_self)]
    simp only [idxR]
    rw [idxR_valL cs hcs _ (Int.emod_nonneg _ (by omega)) (Int.emod_lt_of_pos _ (by omega)), Int.mul_comm]
    exact Int.mul_ediv_add_emod i (prodL cs)

def turnR (c p : List Int) : Nat → List Int
  | 0 => List.replicate p.length 0
  | k + 1 => (turnR c p k).set k (atE c (p.getD k 0))
def backR (p : List Int) : Nat → List Int
  | 0 => List.replicate p.length 0
  | k + 1 => (backR p k).set (p.getD k 0).toNat k
theorem turnR_len (c p : List Int) : ∀ k, (turnR c p k).length = p.length
  | 0 => by simp [turnR]
  | k + 1 => by rw [turnR, List.length_set, turnR_len c p k]
theorem backR_len (p : List Int) : ∀ k, (backR p k).length = p.length
  | 0 => by simp [backR]
  | k + 1 => by rw [backR, List.length_set, backR_len p k]
theorem turnR_eq (c p : List Int) : ∀ k, k ≤ p.length → turnR c p k = (atL c p).take k ++ List.replicate (p.length - k) 0
  | 0, _ => by simp [turnR]
  | k + 1, h => by
    rw [turnR, turnR_eq c p k (by omega)]
    have hk : k < (atL c p).length := by simp [atL]; omega
    have e : p.length - k = (p.length - (k + 1)) + 1 := by omega
    rw [e, List.replicate_succ, List.set_append, if_neg (by rw [List.length_take]; omega), List.length_take, Nat.min_eq_left (by omega), Nat.sub_self, List.set_cons_zero, List.take_succ_eq_append_getElem hk, List.append_assoc, List.singleton_append]
    congr 2
    simp [atL, List.getD_eq_getElem?_getD, List.getElem?_eq_getElem (show k < p.length by omega)]
theorem turnR_all (c p : List Int) : turnR c p p.length = atL c p := by
  rw [turnR_eq c p _ (Nat.le_refl _), Nat.sub_self, List.take_of_length_le (by simp [atL])]; simp

def chkP (l : List Int) : Bool := permC l.length 0 l && permC l.length 0 (backR l l.length) && decide (atL l (backR l l.length) = (List.range l.length).map fun k : Nat => (k : Int))
theorem chk1 : chkP (insD 0 0 []) = true := by decide +kernel
theorem chk2 : ∀ b : Fin 2, chkP (insD b 1 (insD 0 0 [])) = true := by decide +kernel
theorem chk3 : ∀ (b : Fin 2) (c : Fin 3), chkP (insD c 2 (insD b 1 (insD 0 0 []))) = true := by decide +kernel
theorem chk4 : ∀ (b : Fin 2) (c : Fin 3) (d : Fin 4), chkP (insD d 3 (insD c 2 (insD b 1 (insD 0 0 [])))) = true := by decide +kernel
theorem chk5 : ∀ (b : Fin 2) (c : Fin 3) (d : Fin 4) (e : Fin 5), chkP (insD e 4 (insD d 3 (insD c 2 (insD b 1 (insD 0 0 []))))) = true := by decide +kernel
theorem posD_nat (D : List Int) (k : Nat) : (posD D k).toNat < k + 1 := by have := @posD_bd D k; omega
theorem permD_chk (D : List Int) (n : Nat) (hn : n ≤ 5) : chkP (permD D n) = true := by
  have z : (posD D 0).toNat = 0 := by have := @posD_bd D 0; omega
  rcases (show n = 0 ∨ n = 1 ∨ n = 2 ∨ n = 3 ∨ n = 4 ∨ n = 5 by omega) with rfl | rfl | rfl | rfl | rfl | rfl
  · show chkP [] = true; decide +kernel
  · simp only [permD, z]; exact chk1
  · simp only [permD, z]; exact chk2 ⟨_, posD_nat D 1⟩
  · simp only [permD, z]; exact chk3 ⟨_, posD_nat D 1⟩ ⟨_, posD_nat D 2⟩
  · simp only [permD, z]; exact chk4 ⟨_, posD_nat D 1⟩ ⟨_, posD_nat D 2⟩ ⟨_, posD_nat D 3⟩
  · simp only [permD, z]; exact chk5 ⟨_, posD_nat D 1⟩ ⟨_, posD_nat D 2⟩ ⟨_, posD_nat D 3⟩ ⟨_, posD_nat D 4⟩
structure PermG (p : List Int) (n : Nat) : Prop where
  len : p.length = n
  perm : permC n 0 p = true
  back : permC n 0 (backR p n) = true
  inv : atL p (backR p n) = (List.range n).map fun k : Nat => (k : Int)
theorem permD_good (D : List Int) (n : Nat) (hn : n ≤ 5) : PermG (permD D n) n := by
  have h := permD_chk D n hn
  have hl := permD_len D n
  unfold chkP at h
  rw [hl] at h
  simp only [Bool.and_eq_true, decide_eq_true_eq] at h
  exact ⟨hl, h.1.1, h.1.2, h.2⟩
theorem atL_inv {p : List Int} {n : Nat} (h : PermG p n) (c : List Int) (hc : c.length = n) : atL (atL c p) (backR p n) = c := by
  have hb := permC_mem h.back
  have e : atL (atL c p) (backR p n) = (atL p (backR p n)).map (atE c) := by
    simp only [atL, List.map_map]
    refine List.map_congr_left fun b hm => ?_
    have := hb b hm
    have hp : b.toNat < p.length := by rw [h.len]; omega
    simp [atE, List.getD_eq_getElem?_getD, List.getElem?_map, List.getElem?_eq_getElem hp]
  rw [e, h.inv, List.map_map]
  refine List.ext_getElem (by simp [hc]) fun k h1 h2 => ?_
  simp [atE, List.getD_eq_getElem?_getD, List.getElem?_eq_getElem h2]

/-! ### the loops -/
abbrev tuS (c p : List Int) (i : Int) (n : Nat) (k : Nat) : SL := { sl := [(5, sl c), (6, sl p), (7, i6 i), (8, .sl 0 0 n (some (n - n))), (9, .sl 1 0 n (some (n - n))), (37, sl p), (38, i6 n), (39, i6 k)], os := [.row 3 none (ints (turnR c p k)), .row 3 none (ints (backR p k))] }
abbrev tuX (c p : List Int) (i : Int) (n : Nat) : SL := { sl := [(5, sl c), (6, sl p), (7, i6 i), (8, .im n (ints (turnR c p n))), (9, .im n (ints (backR p n)))] }
theorem turn_loop (c p : List Int) (i : Int) (n : Nat) (hc : c.length = n) (hp : PermG p n) (hn : n ≤ 5) (k : Nat) (hk : k ≤ n) :
    Sat Pg none 0 (at' 5 [1, 1, 1, 1, 1, 0, 1, 0]) (mkSt .e 125 (tuS c p i n k)) (outsP .e 125 [(True, .exit 0, tuX c p i n)]) := by
  refine loopC vE_ok mixed sp0_ok (b := at' 5 [1, 1, 1, 1, 1, 0, 1, 0, 0]) (by kernel_rfl) (fun k => k ≤ n) (tuS c p i n) (fun k => n - k) (fun k hk => ?_) k hk
  by_cases hlt : k < n
  · have hlp : k < p.length := by rw [hp.len]; exact hlt
    have hin := permC_mem hp.perm p[k] (List.getElem_mem hlp)
    have hd := @head_ints1 p k hlp
    obtain ⟨q, hq⟩ : ∃ q : Nat, p[k] = q := ⟨p[k].toNat, by omega⟩
    have hgd : p.getD k 0 = q := by rw [List.getD_eq_getElem?_getD, List.getElem?_eq_getElem hlp, Option.getD_some, hq]
    rw [hq] at hin hd
    have hqn : q < n := by omega
    have hplen := hp.len
    have hcq : headF (List.drop (q * 1) (ints c)) = some (i6 (atE c q)) := head_intsD (by omega)
    have s1 : layE (0 + k * 1) (ints (turnR c p k)) [i6 (atE c q)] = some (ints (turnR c p (k + 1))) := by
      rw [turnR, hgd]; exact lay_ints (by rw [turnR_len]; omega)
    have s2 : layE (0 + q * 1) (ints (backR p k)) [i6 (k : Int)] = some (ints (backR p (k + 1))) := by
      rw [backR, hgd]; exact lay_ints (by rw [backR_len]; omega)
    refine .inl ⟨k + 1, [0, 1], [yes 40, pl 42, ld 43 (i6 q), pl 50, ld 51 (i6 (atE c q)), pl 53, st (ints (turnR c p (k + 1))), pl 54, st (ints (backR p (k + 1))), nu 55 (k + 1 : Nat)], 1000, hlt, by omega, ?_⟩
    refine Eq.mp (by kernel_rfl : (decide ((↑k : Int) < (↑n : Int)) = true ∧
          ((0 : Int) ≤ (↑k : Int) ∧ (↑k : Int) < (↑(List.length p) : Int)) ∧
            headF (List.drop (k * (1 : Nat)) (ints p)) = some (i6 (↑q : Int)) ∧
              ((0 : Int) ≤ (↑q : Int) ∧ (↑q : Int) < (↑(List.length c) : Int)) ∧
                headF (List.drop (q * (1 : Nat)) (ints c)) = some (i6 (atE c (↑q : Int))) ∧
                  ((0 : Int) ≤ (↑k : Int) ∧ (↑k : Int) < (↑n : Int)) ∧
                    layE ((0 : Nat) + k * (1 : Nat)) (ints (turnR c p k)) [i6 (atE c (↑q : Int))] =
                        some (ints (turnR c p (k + (1 : Nat)))) ∧
                      ((0 : Int) ≤ (↑q : Int) ∧ (↑q : Int) < (↑n : Int)) ∧
                        layE ((0 : Nat) + q * (1 : Nat)) (ints (backR p k)) [i6 (↑k : Int)] =
                            some (ints (backR p (k + (1 : Nat)))) ∧
                          wr IntKind.i64 ((↑k : Int) + (1 : Int)) = (↑(k + (1 : Nat)) : Int) ∧
                            ((List.length c = List.length c ∧ ints c = ints c) ∧
                                (List.length p = List.length p ∧ ints p = ints p) ∧
                                  i = i ∧
                                    ((0 : Nat) = (0 : Nat) ∧ n = n ∧ n - n = n - n) ∧
                                      ((0 : Nat) = (0 : Nat) ∧ n = n ∧ n - n = n - n) ∧
                                        (List.length p = List.length p ∧ ints p = ints p) ∧
                                          (↑n : Int) = (↑n : Int) ∧
                                            (↑(k + (1 : Nat)) : Int) = (↑(k + (1 : Nat)) : Int) ∧ True) ∧
                              (ints (turnR c p (k + (1 : Nat))) = ints (turnR c p (k + (1 : Nat))) ∧
                                  HfL (ints (turnR c p (k + (1 : Nat))))) ∧
                                (ints (backR p (k + (1 : Nat))) = ints (backR p (k + (1 : Nat))) ∧
                                    HfL (ints (backR p (k + (1 : Nat))))) ∧
                                  True) = _) ?_
    (repeat' (first | (with_reducible apply And.intro) | (refine fun (_ : True) => ?_))) <;> first | with_reducible (first | rfl | exact trivial | assumption | (refine decide_eq_true ?_ <;> omega) | (refine decide_eq_false ?_ <;> omega) | (refine head_ints1 ?_ <;> omega) | (refine bne_false ?_ <;> omega) | (refine bne_true ?_ <;> omega) | (refine beq_false' ?_ <;> omega) | (refine beq_true' ?_ <;> omega) | (refine wr6' ?_ ?_ ?_ <;> omega) | (refine rem6 ?_ <;> omega) | (refine quo6 ?_ ?_ ?_ <;> omega) | exact HfL_ints _ | omega) | ((with_reducible show (_ : V) = _); rfl) | (intro hk_; exfalso; revert hk_; simp; done) | (intros; simp_all; done) | (split <;> omega) | ((with_reducible show decide _ = true); exact decide_eq_true (by omega)) | ((with_reducible show decide _ = false); exact decide_eq_false (by omega)) | skip
  · have : k = n := by omega
    subst this
    have e1 : (turnR c p k).length = k := by rw [turnR_len, hp.len]
    have e2 : (backR p k).length = k := by rw [backR_len, hp.len]
    refine .inr ⟨.exit 0, [], tuX c p i k, [no 40], 1000, .inl ⟨trivial, rfl, rfl⟩, ?_⟩
    refine Eq.mp (by kernel_rfl : (decide ((↑k : Int) < (↑k : Int)) = false ∧
          ((List.length c = List.length c ∧ ints c = ints c) ∧
              (List.length p = List.length p ∧ ints p = ints p) ∧
                i = i ∧
                  (k = k ∧ ints (turnR c p k) = ints (turnR c p k) ∧ HfL (ints (turnR c p k))) ∧
                    (k = k ∧ ints (backR p k) = ints (backR p k) ∧ HfL (ints (backR p k))) ∧ True) ∧
            True) = _) ?_
    (repeat' (first | (with_reducible apply And.intro) | (refine fun (_ : True) => ?_))) <;> first | with_reducible (first | rfl | exact trivial | assumption | (refine decide_eq_true ?_ <;> omega) | (refine decide_eq_false ?_ <;> omega) | (refine head_ints1 ?_ <;> omega) | (refine bne_false ?_ <;> omega) | (refine bne_true ?_ <;> omega) | (refine beq_false' ?_ <;> omega) | (refine beq_true' ?_ <;> omega) | (refine wr6' ?_ ?_ ?_ <;> omega) | (refine rem6 ?_ <;> omega) | (refine quo6 ?_ ?_ ?_ <;> omega) | exact HfL_ints _ | omega) | ((with_reducible show (_ : V) = _); rfl) | (intro hk_; exfalso; revert hk_; simp; done) | (intros; simp_all; done) | (split <;> omega) | ((with_reducible show decide _ = true); exact decide_eq_true (by omega)) | ((with_reducible show decide _ = false); exact decide_eq_false (by omega)) | skip

abbrev tvS (u v p t b : List Int) (i x : Int) (n : Nat) (k : Nat) : SL := { sl := [(7, i6 i), (8, sl t), (9, sl b), (12, i6 x), (14, sl v), (16, sl u), (99, sl p), (100, i6 n), (101, i6 k)] }
abbrev tvX (t b : List Int) (i x : Int) : SL := { sl := [(7, i6 i), (8, sl t), (9, sl b), (12, i6 x)] }
theorem turn_loop2 (v p t b : List Int) (i x : Int) (n : Nat) (hv : v.length = n) (hp : PermG p n) (hn : n ≤ 5) (k : Nat) (hk : k ≤ n) :
    Sat Pg none 0 (at' 5 [1, 1, 1, 1, 1, 1, 1, 1, 1, 1, 0, 1, 0]) (mkSt .e 125 (tvS (atL v p) v p t b i x n k)) (outsP .e 125 [(True, .exit 2, tvX t b i x)]) := by
  refine loopC vE_ok mixed sp0_ok (b := at' 5 [1, 1, 1, 1, 1, 1, 1, 1, 1, 1, 0, 1, 0, 0]) (by kernel_rfl) (fun k => k ≤ n) (tvS (atL v p) v p t b i x n) (fun k => n - k) (fun k hk => ?_) k hk
  by_cases hlt : k < n
  · have hlp : k < p.length := by rw [hp.len]; exact hlt
    have hin := permC_mem hp.perm p[k] (List.getElem_mem hlp)
    have hd := @head_ints1 p k hlp
    obtain ⟨q, hq⟩ : ∃ q : Nat, p[k] = q := ⟨p[k].toNat, by omega⟩
    rw [hq] at hin hd
    have hplen := hp.len
    have hal : (atL v p).length = n := by simp [atL, hplen]
    have hu : headF (List.drop (k * 1) (ints (atL v p))) = some (i6 (atE v q)) := by
      rw [head_ints1 (by omega)]
      simp [atL, hq]
    have hvq : headF (List.drop (q * 1) (ints v)) = some (i6 (atE v q)) := head_intsD (by omega)
    refine .inl ⟨k + 1, [], [yes 102, pl 104, ld 105 (i6 q), pl 108, ld 109 (i6 (atE v q)), pl 112, ld 113 (i6 (atE v q)), no 114, nu 115 (k + 1 : Nat)], 1000, hlt, by omega, ?_⟩
    refine Eq.mp (by kernel_rfl : (decide ((↑k : Int) < (↑n : Int)) = true ∧
          ((0 : Int) ≤ (↑k : Int) ∧ (↑k : Int) < (↑(List.length p) : Int)) ∧
            headF (List.drop (k * (1 : Nat)) (ints p)) = some (i6 (↑q : Int)) ∧
              ((0 : Int) ≤ (↑k : Int) ∧ (↑k : Int) < (↑(List.length (atL v p)) : Int)) ∧
                headF (List.drop (k * (1 : Nat)) (ints (atL v p))) = some (i6 (atE v (↑q : Int))) ∧
                  ((0 : Int) ≤ (↑q : Int) ∧ (↑q : Int) < (↑(List.length v) : Int)) ∧
                    headF (List.drop (q * (1 : Nat)) (ints v)) = some (i6 (atE v (↑q : Int))) ∧
                      (atE v (↑q : Int) != atE v (↑q : Int)) = false ∧
                        wr IntKind.i64 ((↑k : Int) + (1 : Int)) = (↑(k + (1 : Nat)) : Int) ∧
                          (i = i ∧
                              (List.length t = List.length t ∧ ints t = ints t) ∧
                                (List.length b = List.length b ∧ ints b = ints b) ∧
                                  x = x ∧
                                    (List.length v = List.length v ∧ ints v = ints v) ∧
                                      (List.length (atL v p) = List.length (atL v p) ∧ ints (atL v p) = ints (atL v p)) ∧
                                        (List.length p = List.length p ∧ ints p = ints p) ∧
                                          (↑n : Int) = (↑n : Int) ∧
                                            (↑(k + (1 : Nat)) : Int) = (↑(k + (1 : Nat)) : Int) ∧ True) ∧
                            True) = _) ?_
    (repeat' (first | (with_reducible apply And.intro) | (refine fun (_ : True) => ?_))) <;> first | with_reducible (first | rfl | exact trivial | assumption | (refine decide_eq_true ?_ <;> omega) | (refine decide_eq_false ?_ <;> omega) | (refine head_ints1 ?_ <;> omega) | (refine bne_false ?_ <;> omega) | (refine bne_true ?_ <;> omega) | (refine beq_false' ?_ <;> omega) | (refine beq_true' ?_ <;> omega) | (refine wr6' ?_ ?_ ?_ <;> omega) | (refine rem6 ?_ <;> omega) | (refine quo6 ?_ ?_ ?_ <;> omega) | exact HfL_ints _ | omega) | ((with_reducible show (_ : V) = _); rfl) | (intro hk_; exfalso; revert hk_; simp; done) | (intros; simp_all; done) | (split <;> omega) | ((with_reducible show decide _ = true); exact decide_eq_true (by omega)) | ((with_reducible show decide _ = false); exact decide_eq_false (by omega)) | skip
  · have : k = n := by omega
    subst this
    refine .inr ⟨.exit 2, [], tvX t b i x, [no 102], 1000, .inl ⟨trivial, rfl, rfl⟩, ?_⟩
    refine Eq.mp (by kernel_rfl : (decide ((↑k : Int) < (↑k : Int)) = false ∧
          (i = i ∧
              (List.length t = List.length t ∧ ints t = ints t) ∧
                (List.length b = List.length b ∧ ints b = ints b) ∧ x = x ∧ True) ∧
            True) = _) ?_
    (repeat' (first | (with_reducible apply And.intro) | (refine fun (_ : True) => ?_))) <;> first | with_reducible (first | rfl | exact trivial | assumption | (refine decide_eq_true ?_ <;> omega) | (refine decide_eq_false ?_ <;> omega) | (refine head_ints1 ?_ <;> omega) | (refine bne_false ?_ <;> omega) | (refine bne_true ?_ <;> omega) | (refine beq_false' ?_ <;> omega) | (refine beq_true' ?_ <;> omega) | (refine wr6' ?_ ?_ ?_ <;> omega) | (refine rem6 ?_ <;> omega) | (refine quo6 ?_ ?_ ?_ <;> omega) | exact HfL_ints _ | omega) | ((with_reducible show (_ : V) = _); rfl) | (intro hk_; exfalso; revert hk_; simp; done) | (intros; simp_all; done) | (split <;> omega) | ((with_reducible show decide _ = true); exact decide_eq_true (by omega)) | ((with_reducible show decide _ = false); exact decide_eq_false (by omega)) | skip

theorem turns_true (C D : List Int) (w k : Int) (hC : u8s C) (hD : u8s D) (hk0 : 0 ≤ k) (hk1 : k ≤ 65535) : FnOk Pg .e 5 [drV C D w, .int .u16 k] (.bool true) := by
  have hw := works_ok
  have hcards := cards_fn C D w hC
  have hpd := permdraft_fn C D w hC hD
  have hcd5 : (cardsD C).length ≤ 5 := by simp [cardsD]; omega
  have hg := cardsD_good C
  generalize cardsD C = c at *
  obtain ⟨n, hn⟩ : ∃ n, c.length = n := ⟨_, rfl⟩
  rw [hn] at hpd hcd5
  have hp := permD_good D n hcd5
  generalize permD D n = p at *
  have hplen := hp.len
  have hsz := size2_fn c (fits_good hg) (by omega)
  have hpos := hg.pos
  have hcnt := good_count hg
  have i0 : 0 ≤ k.tmod (prodL c) := by rw [Int.tmod_eq_emod_of_nonneg hk0]; exact Int.emod_nonneg _ (by omega)
  have i1 : k.tmod (prodL c) < prodL c := by rw [Int.tmod_eq_emod_of_nonneg hk0]; exact Int.emod_lt_of_pos _ (by omega)
  have hkm : binV (ctxOf Pg) .rem 3 (i6 k) (i6 (prodL c)) = some (i6 (k.tmod (prodL c))) := rem6 (by omega)
  generalize k.tmod (prodL c) = i at *
  have hperm : permC c.length 0 p = true := by rw [hn]; exact hp.perm
  have hP := perm_inL hperm
  have hfit := valL_fit hg i0 i1
  have hvl := valL_length c i
  have f1 := permute_ok (gl := .e) c p i (by omega)
  rw [permuteS_ok hg hcnt (by omega) hperm i0 i1] at f1
  have f1' : FnOk Pg .e 31 [sl c, sl p, i6 i] (.tup [i6 (partR c p i), i6 0]) := f1
  have f2 := values_ok (gl := .e) c i
  rw [show ValuesS c i = (valL c i, 0) by simp only [ValuesS, hcnt]; rw [if_neg (by omega)]] at f2
  have f2' : FnOk Pg .e 36 [sl c, i6 i] (.tup [sl (valL c i), i6 0]) := f2
  have hgt := perm_good hg (by omega) hperm
  have hft := at_fit hfit hvl.symm hP
  have hta : (atL c p).length = n := by simp [atL, hplen]
  have htv : (atL (valL c i) p).length = n := by simp [atL, hplen]
  have hxb := idxR_bd (atL c p) (atL (valL c i) p) (by omega) (fun x hx => (hgt.card x hx).1) hft
  have hvx := valL_idxR (atL c p) (atL (valL c i) p) (by omega) (fun x hx => (hgt.card x hx).1) hft
  change 0 ≤ partR c p i ∧ partR c p i < _ at hxb
  change valL _ (partR c p i) = _ at hvx
  have hcntt := good_count hgt
  have f3 := values_ok (gl := .e) (atL c p) (partR c p i)
  rw [show ValuesS (atL c p) (partR c p i) = (valL (atL c p) (partR c p i), 0) by simp only [ValuesS, hcntt]; rw [if_neg (by omega)], hvx] at f3
  have f3' : FnOk Pg .e 36 [sl (atL c p), i6 (partR c p i)] (.tup [sl (atL (valL c i) p), i6 0]) := f3
  have hbl : (backR p n).length = n := by rw [backR_len, hplen]
  have f4 := permute_ok (gl := .e) (atL c p) (backR p n) (partR c p i) (by omega)
  rw [permuteS_ok hgt hcntt (by omega) (by rw [hta]; exact hp.back) hxb.1 hxb.2] at f4
  have hback : partR (atL c p) (backR p n) (partR c p i) = i := by
    unfold partR
    rw [show idxR (atL c p) (atL (valL c i) p) = partR c p i from rfl, hvx, atL_inv hp c hn, atL_inv hp (valL c i) (by omega)]
    exact idxR_valL c (fun x hx => (hg.card x hx).1) i i0 i1
  rw [hback] at f4
  have f4' : FnOk Pg .e 31 [sl (atL c p), sl (backR p n), i6 (partR c p i)] (.tup [i6 i, i6 0]) := f4
  have g1 := is_fn i
  have g2 := is1_fn i
  have hall : turnR c p n = atL c p := by rw [← hplen]; exact turnR_all c p
  have l1 := turn_loop c p i n hn hp hcd5 0 (Nat.zero_le _)
  have l2 := turn_loop2 (valL c i) p (atL c p) (backR p n) i (partR c p i) n (by omega) hp hcd5 0 (Nat.zero_le _)
  have hX : tuX c p i n = { sl := [(5, sl c), (6, sl p), (7, i6 i), (8, sl (atL c p)), (9, sl (backR p n))] } := by
    rw [tuX, hall]; simp only [sl, hta, hbl]
  rw [hX] at l1
  refine FnOk.of_vc vE_ok mixed sp0_ok (n := 1000) (r := []) (S := boE 4 true) (hs := [fn 20 (.bool true), fn 23 (sl c), fn 25 (sl p), nu 27 k, fn 29 (i6 (prodL c)), va 30 (i6 i), mk 33, mk 36, (0, .loop [1, 2] (tuS c p i n 0) [(True, .exit 0, { sl := [(5, sl c), (6, sl p), (7, i6 i), (8, sl (atL c p)), (9, sl (backR p n))] })]), fn 60 (.tup [i6 (partR c p i), i6 0]), fn 66 (.tup [sl (valL c i), i6 0]), fn 72 (.tup [sl (atL (valL c i) p), i6 0]), no 90, no 97, (0, .loop [] (tvS (atL (valL c i) p) (valL c i) p (atL c p) (backR p n) i (partR c p i) n 0) [(True, .exit 2, tvX (atL c p) (backR p n) i (partR c p i))]), fn 117 (.fn 74 [.imp [i6 i]]), fn 121 (.tup [i6 i, i6 0]), fn 124 (.bool true)]) ?_
  refine Eq.mp (by kernel_rfl : (V.bool true = V.bool true ∧
        True ∧
          FnOk Try.prog T.e (15 : Nat) [] (V.bool true) ∧
            True ∧
              ((True ∧ True ∧ True ∧ True) ∧ True) ∧
                FnOk Try.prog T.e (17 : Nat)
                    [V.agg
                        [V.im (List.length C) (List.map (V.int IntKind.u8) C), V.int IntKind.u16 w,
                          V.im (List.length D) (List.map (V.int IntKind.u8) D)]]
                    (sl c) ∧
                  True ∧
                    ((True ∧ True ∧ True ∧ True) ∧ True) ∧
                      FnOk Try.prog T.e (30 : Nat)
                          [V.agg
                              [V.im (List.length C) (List.map (V.int IntKind.u8) C), V.int IntKind.u16 w,
                                V.im (List.length D) (List.map (V.int IntKind.u8) D)]]
                          (sl p) ∧
                        ((V.fn (17 : Nat) [] = V.fn (30 : Nat) [] →
                              [V.agg [sl8 C, V.int IntKind.u16 w, sl8 D]] = [V.agg [sl8 C, V.int IntKind.u16 w, sl8 D]] →
                                pt T.e (0 : Nat) (O.row (26 : Nat) none [sl8 C, V.int IntKind.u16 w, sl8 D]) =
                                    pt T.e (0 : Nat) (O.row (26 : Nat) none [sl8 C, V.int IntKind.u16 w, sl8 D]) →
                                  (0 : Nat) + (1 : Nat) = (0 : Nat) + (1 : Nat) →
                                    CR.mk (sl c)
                                        (pt T.e (0 : Nat) (O.row (26 : Nat) none [sl8 C, V.int IntKind.u16 w, sl8 D]))
                                        ((0 : Nat) + (1 : Nat)) [] =
                                      CR.mk (sl p)
                                        (pt T.e (0 : Nat) (O.row (26 : Nat) none [sl8 C, V.int IntKind.u16 w, sl8 D]))
                                        ((0 : Nat) + (1 : Nat)) []) ∧
                            True) ∧
                          wr IntKind.i64 k = k ∧
                            (True ∧ True) ∧
                              FnOk Try.prog T.e (35 : Nat) [V.im (List.length c) (ints c)] (i6 (prodL c)) ∧
                                True ∧
                                  binV (ctxOf Try.prog) BinOp.rem (3 : Nat) (V.int IntKind.i64 k) (i6 (prodL c)) =
                                      some (i6 i) ∧
                                    ((0 : Int) ≤ (↑(List.length c) : Int) ∧
                                        (↑(List.length c) : Int) ≤ (↑(List.length c) : Int) ∧
                                          (↑(8 : Nat) : Int) * (↑(List.length c) : Int) ≤ (281474976710656 : Int) ∧
                                            (↑(List.length c) : Int) ≤ (9223372036854775807 : Int)) ∧
                                      ((0 : Int) ≤ (↑(List.length c) : Int) ∧
                                          (↑(List.length c) : Int) ≤ (↑(List.length c) : Int) ∧
                                            (↑(8 : Nat) : Int) * (↑(List.length c) : Int) ≤ (281474976710656 : Int) ∧
                                              (↑(List.length c) : Int) ≤ (9223372036854775807 : Int)) ∧
                                        (((List.length c = List.length c ∧ ints c = ints c) ∧
                                              (List.length p = List.length p ∧ ints p = ints p) ∧
                                                i = i ∧
                                                  ((0 : Nat) = (0 : Nat) ∧
                                                      n = List.length c ∧ n - n = List.length c - List.length c) ∧
                                                    ((0 : Nat) = (0 : Nat) ∧
                                                        n = List.length c ∧ n - n = List.length c - List.length c) ∧
                                                      (List.length p = List.length p ∧ ints p = ints p) ∧
                                                        (↑n : Int) = (↑(List.length p) : Int) ∧
                                                          (↑(0 : Nat) : Int) = (0 : Int) ∧ True) ∧
                                            (ints (turnR c p (0 : Nat)) = rep (List.length c) [V.int IntKind.i64 (0 : Int)] ∧
                                                HfL (ints (turnR c p (0 : Nat)))) ∧
                                              (ints (backR p (0 : Nat)) = rep (List.length c) [V.int IntKind.i64 (0 : Int)] ∧
                                                  HfL (ints (backR p (0 : Nat)))) ∧
                                                True) ∧
                                          Sat Try.prog none (0 : Nat)
                                              (at' (5 : Nat)
                                                [(1 : Nat), (1 : Nat), (1 : Nat), (1 : Nat), (1 : Nat), (0 : Nat), (1 : Nat),
                                                  (0 : Nat)])
                                              (mkSt T.e (125 : Nat) (tuS c p i n (0 : Nat)))
                                              (outsP T.e (125 : Nat)
                                                [(True, Ex.exit (0 : Nat),
                                                    SL.mk
                                                      [((5 : Nat), sl c), ((6 : Nat), sl p), ((7 : Nat), i6 i),
                                                        ((8 : Nat), sl (atL c p)), ((9 : Nat), sl (backR p n))]
                                                      [] [] [])]) ∧
                                            (True →
                                                (True ∧ True ∧ True ∧ True) ∧
                                                  FnOk Try.prog T.e (31 : Nat)
                                                      [V.im (List.length c) (ints c), V.im (List.length p) (ints p),
                                                        V.int IntKind.i64 i]
                                                      (V.tup [i6 (partR c p i), i6 (0 : Int)]) ∧
                                                    True ∧
                                                      (True ∧ True ∧ True) ∧
                                                        FnOk Try.prog T.e (36 : Nat)
                                                            [V.im (List.length c) (ints c), V.int IntKind.i64 i]
                                                            (V.tup [sl (valL c i), i6 (0 : Int)]) ∧
                                                          True ∧
                                                            (True ∧ True ∧ True) ∧
                                                              FnOk Try.prog T.e (36 : Nat)
                                                                  [V.im (List.length (atL c p)) (ints (atL c p)),
                                                                    V.int IntKind.i64 (partR c p i)]
                                                                  (V.tup [sl (atL (valL c i) p), i6 (0 : Int)]) ∧
                                                                True ∧
                                                                  ((↑(List.length (valL c i)) : Int) !=
                                                                        (↑(List.length c) : Int)) =
                                                                      false ∧
                                                                    ((↑(List.length (atL (valL c i) p)) : Int) !=
                                                                          (↑(List.length c) : Int)) =
                                                                        false ∧
                                                                      ((i = i ∧
                                                                            (List.length (atL c p) = List.length (atL c p) ∧
                                                                                ints (atL c p) = ints (atL c p)) ∧
                                                                              (List.length (backR p n) =
                                                                                    List.length (backR p n) ∧
                                                                                  ints (backR p n) = ints (backR p n)) ∧
                                                                                partR c p i = partR c p i ∧
                                                                                  (List.length (valL c i) =
                                                                                        List.length (valL c i) ∧
                                                                                      ints (valL c i) = ints (valL c i)) ∧
                                                                                    (List.length (atL (valL c i) p) =
                                                                                          List.length (atL (valL c i) p) ∧
                                                                                        ints (atL (valL c i) p) =
                                                                                          ints (atL (valL c i) p)) ∧
                                                                                      (List.length p = List.length p ∧
                                                                                          ints p = ints p) ∧
                                                                                        (↑n : Int) =
                                                                                            (↑(List.length p) : Int) ∧
                                                                                          (↑(0 : Nat) : Int) = (0 : Int) ∧
                                                                                            True) ∧
                                                                          True) ∧
                                                                        Sat Try.prog none (0 : Nat)
                                                                            (at' (5 : Nat)
                                                                              [(1 : Nat), (1 : Nat), (1 : Nat), (1 : Nat),
                                                                                (1 : Nat), (1 : Nat), (1 : Nat), (1 : Nat),
                                                                                (1 : Nat), (1 : Nat), (0 : Nat), (1 : Nat),
                                                                                (0 : Nat)])
                                                                            (mkSt T.e (125 : Nat)
                                                                              (tvS (atL (valL c i) p) (valL c i) p (atL c p)
                                                                                (backR p n) i (partR c p i) n (0 : Nat)))
                                                                            (outsP T.e (125 : Nat)
                                                                              [(True, Ex.exit (2 : Nat),
                                                                                  tvX (atL c p) (backR p n) i
                                                                                    (partR c p i))]) ∧
                                                                          (True →
                                                                              (True ∧ True) ∧
                                                                                FnOk Try.prog T.e (37 : Nat)
                                                                                    [V.int IntKind.i64 i]
                                                                                    (V.fn (74 : Nat) [V.imp [i6 i]]) ∧
                                                                                  True ∧
                                                                                    (True ∧ True ∧ True ∧ True) ∧
                                                                                      FnOk Try.prog T.e (31 : Nat)
                                                                                          [V.im (List.length (atL c p))
                                                                                              (ints (atL c p)),
                                                                                            V.im (List.length (backR p n))
                                                                                              (ints (backR p n)),
                                                                                            V.int IntKind.i64 (partR c p i)]
                                                                                          (V.tup [i6 i, i6 (0 : Int)]) ∧
                                                                                        ((V.fn (37 : Nat) [] =
                                                                                                V.fn (31 : Nat) [] →
                                                                                              [i6 i] =
                                                                                                  [sl (atL c p),
                                                                                                    sl (backR p n),
                                                                                                    i6 (partR c p i)] →
                                                                                                ofOs T.e (0 : Nat) [] =
                                                                                                    ofOs T.e (0 : Nat) [] →
                                                                                                  (0 : Nat) = (0 : Nat) →
                                                                                                    CR.mk
                                                                                                        (V.fn (74 : Nat)
                                                                                                          [V.imp [i6 i]])
                                                                                                        (ofOs T.e (0 : Nat)
                                                                                                          [])
                                                                                                        (0 : Nat) [] =
                                                                                                      CR.mk
                                                                                                        (V.tup
                                                                                                          [i6 i,
                                                                                                            i6 (0 : Int)])
                                                                                                        (ofOs T.e (0 : Nat)
                                                                                                          [])
                                                                                                        (0 : Nat) []) ∧
                                                                                            True) ∧
                                                                                          (True ∧ True ∧ True ∧ True) ∧
                                                                                            FnOk Try.prog T.e (74 : Nat)
                                                                                                [V.int IntKind.i64 i,
                                                                                                  V.int IntKind.i64 (0 : Int),
                                                                                                  V.imp [i6 i]]
                                                                                                (V.bool true) ∧
                                                                                              ((V.fn (31 : Nat) [] =
                                                                                                      V.fn (74 : Nat)
                                                                                                        [V.imp [i6 i]] →
                                                                                                    [sl (atL c p),
                                                                                                          sl (backR p n),
                                                                                                          i6 (partR c p i)] =
                                                                                                        [i6 i, i6 (0 : Int)] →
                                                                                                      ofOs T.e (0 : Nat) [] =
                                                                                                          ofOs T.e (0 : Nat)
                                                                                                            [] →
                                                                                                        (0 : Nat) =
                                                                                                            (0 : Nat) →
                                                                                                          CR.mk
                                                                                                              (V.tup
                                                                                                                [i6 i,
                                                                                                                  i6
                                                                                                                    (0 :
                                                                                                                      Int)])
                                                                                                              (ofOs T.e
                                                                                                                (0 : Nat) [])
                                                                                                              (0 : Nat) [] =
                                                                                                            CR.mk
                                                                                                              (V.bool true)
                                                                                                              (ofOs T.e
                                                                                                                (0 : Nat) [])
                                                                                                              (0 : Nat) []) ∧
                                                                                                  (V.fn (37 : Nat) [] =
                                                                                                        V.fn (74 : Nat)
                                                                                                          [V.imp [i6 i]] →
                                                                                                      [i6 i] =
                                                                                                          [i6 i,
                                                                                                            i6 (0 : Int)] →
                                                                                                        ofOs T.e (0 : Nat)
                                                                                                              [] =
                                                                                                            ofOs T.e (0 : Nat)
                                                                                                              [] →
                                                                                                          (0 : Nat) =
                                                                                                              (0 : Nat) →
                                                                                                            CR.mk
                                                                                                                (V.fn
                                                                                                                  (74 : Nat)
                                                                                                                  [V.imp
                                                                                                                      [i6 i]])
                                                                                                                (ofOs T.e
                                                                                                                  (0 : Nat)
                                                                                                                  [])
                                                                                                                (0 : Nat) [] =
                                                                                                              CR.mk
                                                                                                                (V.bool true)
                                                                                                                (ofOs T.e
                                                                                                                  (0 : Nat)
                                                                                                                  [])
                                                                                                                (0 : Nat)
                                                                                                                []) ∧
                                                                                                    True) ∧
                                                                                                (true = true ∧ True) ∧ True) ∧
                                                                            True) ∧
                                              True) = _) ?_
  (repeat' (first | (with_reducible apply And.intro) | (refine fun (_ : True) => ?_))) <;> first | with_reducible (first | rfl | exact trivial | assumption | (refine decide_eq_true ?_ <;> omega) | (refine decide_eq_false ?_ <;> omega) | (refine head_ints1 ?_ <;> omega) | (refine bne_false ?_ <;> omega) | (refine bne_true ?_ <;> omega) | (refine beq_false' ?_ <;> omega) | (refine beq_true' ?_ <;> omega) | (refine wr6' ?_ ?_ ?_ <;> omega) | (refine rem6 ?_ <;> omega) | (refine quo6 ?_ ?_ ?_ <;> omega) | exact HfL_ints _ | omega) | ((with_reducible show (_ : V) = _); rfl) | (intro hk_; exfalso; revert hk_; simp; done) | (intros; simp_all; done) | (split <;> omega) | ((with_reducible show decide _ = true); exact decide_eq_true (by omega)) | ((with_reducible show decide _ = false); exact decide_eq_false (by omega)) | skip
  · rw [rep_ints, hn, turnR, hplen]
  · rw [rep_ints, hn, backR, hplen]
end Go.Proofs.Ytmnaidemihcfaaa.Am
