/- Chapter 25: plans of graphs. -/
import Derived.Test.YtglpoiaedkoecaaDoorE13
import Derived.Test.YtglpoiaedkoecaaDoorE10
import Derived.Test.YtglpoiaedkoecaaDoorF1
namespace Go.Proofs.YtglpoiaedkoecaaDoor.Am
open Go.RowKit
set_option linter.unusedVariables false
set_option maxHeartbeats 1000000
set_option maxRecDepth 100000

abbrev v16 (n : Int) : V := .int .u16 n
theorem shr_16 {G : Ctx} {t : Nat} {x k : Nat} (hk : k ≤ 16) : binV G .shr t (v16 (x : Int)) (i6 (k : Int)) = some (v16 ((x / 2 ^ k : Nat) : Int)) := by
  have h1 : ((k : Int) < 0) = False := by simp
  have h2 : min k 16 = k := by omega
  simp only [binV, intV, h1, if_false, Int.toNat_natCast, IntKind.bits, h2]
  rw [Int.fdiv_eq_ediv_of_nonneg _ (Int.natCast_nonneg _)]
  rfl
theorem and1_16 {G : Ctx} {t : Nat} {x : Nat} : binV G .and t (v16 (x : Int)) (v16 1) = some (v16 ((x % 2 : Nat) : Int)) := by
  have h : (BitVec.ofInt 16 (x : Int) &&& BitVec.ofInt 16 1).toNat = x % 2 := by
    rw [BitVec.toNat_and]
    have h1 : (BitVec.ofInt 16 1).toNat = 1 := by decide
    rw [h1, Nat.and_one_is_mod]
    have h2 : (BitVec.ofInt 16 (x : Int)).toNat = x % 2 ^ 16 := by
      rw [BitVec.toNat_ofInt]; omega
    rw [h2]; omega
  have hw : IntKind.u16.wrap ((x % 2 : Nat) : Int) = ((x % 2 : Nat) : Int) := by
    rw [← wr_eq]; exact wr_in (by simp [lo]; omega) (by simp [hi]; omega)
  have e : binV G .and t (v16 (x : Int)) (v16 1) = some (.int .u16 (IntKind.u16.wrap ((BitVec.ofInt 16 (x : Int) &&& BitVec.ofInt 16 1).toNat : Int))) := rfl
  rw [e, h, hw]

/-! ### the order of the variables -/
def shf (a : Nat) : Nat → List Nat → List Nat
  | 0, L => L
  | d + 1, L => shf a d (L.set (a + d + 1) (L.getD (a + d) 0))
theorem shf_len (a : Nat) : ∀ d L, (shf a d L).length = L.length
  | 0, L => rfl
  | d + 1, L => by rw [shf, shf_len a d, List.length_set]
def Bnd (m : Nat) (L : List Nat) : Prop := ∀ k, L.getD k 0 < m
theorem getD_setN {L : List Nat} {j k x : Nat} : (L.set j x).getD k 0 = if j = k ∧ k < L.length then x else L.getD k 0 := by
  rw [List.getD_eq_getElem?_getD, List.getElem?_set]
  by_cases h : j = k
  · subst h
    by_cases h2 : j < L.length
    · rw [if_pos rfl, if_pos h2, if_pos ⟨rfl, h2⟩]; rfl
    · rw [if_pos rfl, if_neg h2, if_neg (by omega), List.getD_eq_getElem?_getD, List.getElem?_eq_none (by omega)]
  · rw [if_neg h, if_neg (by omega), List.getD_eq_getElem?_getD]
theorem Bnd.set {m : Nat} {L : List Nat} (h : Bnd m L) {j x : Nat} (hx : x < m) : Bnd m (L.set j x) := fun k => by
  rw [getD_setN]
  split
  · exact hx
  · exact h k
theorem Bnd.snoc {m : Nat} {L : List Nat} (h : Bnd m L) {x : Nat} (hx : x < m) : Bnd m (L ++ [x]) := fun k => by
  rw [List.getD_eq_getElem?_getD, List.getElem?_append]
  split
  · rw [← List.getD_eq_getElem?_getD]; exact h k
  · rename_i hk
    by_cases h2 : k = L.length
    · subst h2; simpa using hx
    · rw [List.getElem?_eq_none (by simp; omega)]
      have := h 0; simp; omega
theorem Bnd.shf {m a : Nat} : ∀ d {L : List Nat}, Bnd m L → Bnd m (shf a d L)
  | 0, _, h => h
  | d + 1, L, h => Bnd.shf d (h.set (h _))
def ordL (f : Nat → Nat) : Nat → List Nat
  | 0 => []
  | i + 1 => (shf (f i) (i - f i) (ordL f i ++ [0])).set (f i) i
theorem ordL_len (f : Nat → Nat) : ∀ i, (ordL f i).length = i
  | 0 => rfl
  | i + 1 => by rw [ordL, List.length_set, shf_len, List.length_append, ordL_len f i]; rfl
theorem ordL_bnd (f : Nat → Nat) {m : Nat} (hm : 0 < m) : ∀ i, i ≤ m → Bnd m (ordL f i)
  | 0, _ => fun k => by simpa [ordL] using hm
  | i + 1, h => ((Bnd.snoc (ordL_bnd f hm i (by omega)) hm).shf _).set (by omega)

abbrev plL (N : Nat) (o : Nat → Nat) (E : Nat) : List V := [w8 N, w8 (o 0), w8 (o 1), w8 (o 2), w8 (o 3), w8 (o 4), w8 (o 5), v16 E]
theorem lt6 {k : Nat} (h : k < 6) : k = 0 ∨ k = 1 ∨ k = 2 ∨ k = 3 ∨ k = 4 ∨ k = 5 := by omega
theorem place48 {g k : Nat} (h : k < 6) : placeV (ctxOf Pg) 48 (.ptr g 1) (k : Int) = some (.ptr g (1 + k)) := by
  rcases lt6 h with rfl | rfl | rfl | rfl | rfl | rfl <;> kernel_rfl
theorem head_pl {N E : Nat} {o : Nat → Nat} {k : Nat} (h : k < 6) : headF (dropF (1 + k) (plL N o E)) = some (w8 (o k)) := by
  rcases lt6 h with rfl | rfl | rfl | rfl | rfl | rfl <;> rfl
section
variable (N : Nat) (o : Nat → Nat) (E n : Nat)
abbrev poO : O := .row 51 none (plL N o E)
abbrev poS (q : Nat × List Nat) : SL := { sl := [(2, .ptr 0 0), (5, i6 n), (6, owV 1 q.1), (7, i6 q.1)], os := poO N o E :: owL 3 (nt q.2) q.1 }
abbrev poX (L : List Nat) (m : Nat) : SL := { sl := [(2, .ptr 0 0), (5, i6 n), (6, owV 1 m)], os := poO N o E :: owL 3 (nt L) m }
abbrev pjS (i a d : Nat) (L : List Nat) : SL := { sl := [(2, .ptr 0 0), (5, i6 n), (6, .sl 1 0 (i + 1) none), (7, i6 i), (8, i6 a), (9, i6 (a + d : Nat))], os := [poO N o E, .row 3 (some 1) (nt L)] }
abbrev pjX (i a : Nat) (L : List Nat) : SL := { sl := [(2, .ptr 0 0), (5, i6 n), (6, .sl 1 0 (i + 1) none), (7, i6 i), (8, i6 a)], os := [poO N o E, .row 3 (some 1) (nt L)] }
end
theorem pl_shift (N : Nat) (o : Nat → Nat) (E n i a d : Nat) (hi : i < 6) (hd : a + d ≤ i) (L F : List Nat) (hL : L.length = i + 1) (hF : F = shf a d L) :
    Sat Pg none 0 (at' 26 [1, 1, 1, 0, 1, 0, 0, 1, 0, 0, 1, 1, 0, 1, 0]) (mkSt g0 94 (pjS N o E n i a d L)) (outsP g0 94 [(True, .exit 2, pjX N o E n i a F)]) := by
  refine loopC vE_ok mixed sp0_ok (b := at' 26 [1, 1, 1, 0, 1, 0, 0, 1, 0, 0, 1, 1, 0, 1, 0, 0]) (by kernel_rfl) (fun q : Nat × List Nat => a + q.1 ≤ i ∧ q.2.length = i + 1 ∧ F = shf a q.1 q.2) (fun q => pjS N o E n i a q.1 q.2) (fun q => q.1) (fun q hq => ?_) (d, L) ⟨hd, hL, hF⟩
  clear hd hL hF
  obtain ⟨d, L⟩ := q
  obtain ⟨hd, hL, hF⟩ := hq
  dsimp only at hd hL hF
  cases d with
  | zero =>
    obtain rfl : F = L := hF
    refine .inr ⟨.exit 2, [0, 1], pjX N o E n i a F, [no 39], 1000, .inl ⟨trivial, rfl, rfl⟩, ?_⟩
    refine Eq.mp (by kernel_rfl : (decide ((↑(a + 0) : Int) > (↑a : Int)) = false ∧ (0 = 0 ∧ (↑n : Int) = (↑n : Int) ∧ (0 = 0 ∧ i + 1 = i + 1 ∧ True) ∧ (↑i : Int) = (↑i : Int) ∧ (↑a : Int) = (↑a : Int) ∧ True) ∧ (plL N o E = plL N o E ∧ True ∧ True ∧ True ∧ True ∧ True ∧ True ∧ True ∧ True ∧ True) ∧ (nt F = nt F ∧ HfL (nt F)) ∧ True) = _) ?_
    exact au
  | succ d =>
    have h1 : headF (dropF (0 + (a + d) * 1) (nt L)) = some (i6 (L.getD (a + d) 0 : Nat)) := by rw [dropF_eq, Nat.zero_add]; exact head_nt (by omega)
    have hl := @lay_nt L (a + (d + 1)) (L.getD (a + d) 0) (by omega)
    have hn := nt_length L
    have hF' : F = shf a d (L.set (a + (d + 1)) (L.getD (a + d) 0)) := hF
    refine .inl ⟨(d, L.set (a + (d + 1)) (L.getD (a + d) 0)), [0, 1], [yes 39, nu 46 (a + d : Nat), pl 47, ld 48 (i6 (L.getD (a + d) 0 : Nat)), pl 49, st (nt (L.set (a + (d + 1)) (L.getD (a + d) 0))), nu 41 (a + d : Nat)], 1000, ⟨by dsimp only; omega, by rw [List.length_set]; exact hL, hF'⟩, by dsimp only; omega, ?_⟩
    clear hF hF'
    generalize L.getD (a + d) 0 = x at *
    generalize L.set (a + (d + 1)) x = L2 at *
    refine Eq.mp (by kernel_rfl : (decide ((↑(a + (d + 1)) : Int) > (↑a : Int)) = true ∧ wr IntKind.i64 ((↑(a + (d + 1)) : Int) - (1 : Int)) = (↑(a + d) : Int) ∧ ((0 : Int) ≤ (↑(a + d) : Int) ∧ (↑(a + d) : Int) < (↑(i + 1) : Int)) ∧ headF (dropF (0 + (a + d) * 1) (nt L)) = some (i6 (↑x : Int)) ∧ ((0 : Int) ≤ (↑(a + (d + 1)) : Int) ∧ (↑(a + (d + 1)) : Int) < (↑(i + 1) : Int)) ∧ layE (0 + (a + (d + 1)) * 1) (nt L) [i6 (↑x : Int)] = some (nt L2) ∧ wr IntKind.i64 ((↑(a + (d + 1)) : Int) - (1 : Int)) = (↑(a + d) : Int) ∧ (0 = 0 ∧ (↑n : Int) = (↑n : Int) ∧ (0 = 0 ∧ i + 1 = i + 1 ∧ True) ∧ (↑i : Int) = (↑i : Int) ∧ (↑a : Int) = (↑a : Int) ∧ (↑(a + d) : Int) = (↑(a + d) : Int) ∧ True) ∧ (plL N o E = plL N o E ∧ True ∧ True ∧ True ∧ True ∧ True ∧ True ∧ True ∧ True ∧ True) ∧ (nt L2 = nt L2 ∧ HfL (nt L2)) ∧ True) = _) ?_
    exact au
theorem pl_order (N : Nat) (o : Nat → Nat) (E n0 : Nat) (hn : n0 < 6) (ho : ∀ k, k < 6 → o k < 256) (f : Nat → Nat) (hf : f = fun k => o k % (k + 1)) :
    Sat Pg none 0 (at' 26 [1, 1, 1, 0, 1, 0]) (mkSt g0 94 (poS N o E (n0 + 1) (0, []))) (outsP g0 94 [(True, .exit 0, poX N o E (n0 + 1) (ordL f (n0 + 1)) (n0 + 1))]) := by
  refine loopC vE_ok mixed sp0_ok (b := at' 26 [1, 1, 1, 0, 1, 0, 0]) (by kernel_rfl) (fun q : Nat × List Nat => q.1 ≤ n0 + 1 ∧ q.2 = ordL f q.1) (poS N o E (n0 + 1)) (fun q => n0 + 1 - q.1) (fun q hq => ?_) (0, []) ⟨Nat.zero_le _, rfl⟩
  obtain ⟨i, L⟩ := q
  obtain ⟨hi, hL⟩ := hq
  dsimp only at hi hL
  have hLl : L.length = i := by rw [hL]; exact ordL_len f i
  by_cases hlt : i < n0 + 1
  · have hp := @place48 0 i (by omega)
    have hh := @head_pl N E o i (by omega)
    have ho := ho i (by omega)
    have hmod : f i < i + 1 := by rw [hf]; exact Nat.mod_lt _ (by omega)
    have hrem : binV (ctxOf Pg) .rem 3 (i6 (o i : Nat)) (i6 (i + 1 : Nat)) = some (i6 (f i : Nat)) := by
      rw [rem6 (by omega), tmod_nat, hf]
    have hnext : (shf (f i) (i - f i) (L ++ [0])).set (f i) i = ordL f (i + 1) := by rw [hL]; rfl
    have hsl := shf_len (f i) (i - f i) (L ++ [0])
    have hsh := pl_shift N o E (n0 + 1) i (f i) (i - f i) (by omega) (by omega) (L ++ [0]) _ (by simp [hLl]) rfl
    have hnt := nt_app L 0
    have hntl := nt_length L
    generalize f i = a at *
    generalize o i = x at *
    have hlay := @lay_nt (shf a (i - a) (L ++ [0])) a i (by rw [hsl]; simp; omega)
    have hntl2 := nt_length (shf a (i - a) (L ++ [0]))
    rw [hsl] at hntl2
    rw [List.length_append, hLl] at hntl2
    generalize shf a (i - a) (L ++ [0]) = L1 at *
    have hai : a + (i - a) = i := by omega
    generalize i - a = d at *
    clear hL hf hsl
    cases i with
    | zero =>
      have : L = [] := List.eq_nil_of_length_eq_zero hLl
      subst this
      refine .inl ⟨(1, L1.set a 0), [0, 1], [yes 22, va 27 (.ptr 0 (1 + 0)), ld 28 (w8 (x : Nat)), nu 29 (x : Nat), nu 31 (0 + 1 : Nat), va 32 (i6 (a : Nat)), (0, .loop [0, 2] (pjS N o E (n0 + 1) 0 a d [0]) [(True, .exit 2, pjX N o E (n0 + 1) 0 a L1)]), pl 53, st (nt (L1.set a 0)), nu 24 (1 : Nat)], 1000, ⟨hlt, hnext⟩, by dsimp only; omega, ?_⟩
      clear hnext
      refine Eq.mp (by kernel_rfl : (decide ((↑(0 : Nat) : Int) < (↑(n0 + 1) : Int)) = true ∧ placeV (ctxOf Tryd.prog) 48 (V.ptr 0 (0 + 1)) (↑(0 : Nat) : Int) = some (V.ptr 0 (1 + 0)) ∧ headF (dropF (1 + 0) (plL N o E)) = some (w8 (↑x : Int)) ∧ wr IntKind.i64 (↑x : Int) = (↑x : Int) ∧ wr IntKind.i64 ((↑(0 : Nat) : Int) + (1 : Int)) = (↑(0 + 1) : Int) ∧ binV (ctxOf Tryd.prog) BinOp.rem 3 (V.int IntKind.i64 (↑x : Int)) (V.int IntKind.i64 (↑(0 + 1) : Int)) = some (i6 (↑a : Int)) ∧ ((0 = 0 ∧ (↑(n0 + 1) : Int) = (↑(n0 + 1) : Int) ∧ (0 = 0 ∧ 0 + 1 = 1 ∧ True) ∧ (↑(0 : Nat) : Int) = (↑(0 : Nat) : Int) ∧ (↑a : Int) = (↑a : Int) ∧ (↑(a + d) : Int) = (↑(0 : Nat) : Int) ∧ True) ∧ (plL N o E = plL N o E ∧ True ∧ True ∧ True ∧ True ∧ True ∧ True ∧ True ∧ True ∧ True) ∧ (nt [0] = [V.int IntKind.i64 (0 : Int)] ∧ True ∧ True) ∧ True) ∧ Sat Tryd.prog none 0 (at' 26 [1, 1, 1, 0, 1, 0, 0, 1, 0, 0, 1, 1, 0, 1, 0]) (mkSt g0 94 (pjS N o E (n0 + 1) 0 a d [0])) (outsP g0 94 [(True, Ex.exit 2, pjX N o E (n0 + 1) 0 a L1)]) ∧ (True → ((0 : Int) ≤ (↑a : Int) ∧ (↑a : Int) < (↑(0 + 1) : Int)) ∧ layE (0 + a * 1) (nt L1) [i6 (↑(0 : Nat) : Int)] = some (nt (List.set L1 a 0)) ∧ wr IntKind.i64 ((↑(0 : Nat) : Int) + (1 : Int)) = (↑(1 : Nat) : Int) ∧ (0 = 0 ∧ (↑(n0 + 1) : Int) = (↑(n0 + 1) : Int) ∧ (0 = 0 ∧ 0 + 1 = 0 + 1 ∧ True) ∧ (↑(1 : Nat) : Int) = (↑(1 : Nat) : Int) ∧ True) ∧ (plL N o E = plL N o E ∧ True ∧ True ∧ True ∧ True ∧ True ∧ True ∧ True ∧ True ∧ True) ∧ (nt (List.set L1 a 0) = nt (List.set L1 a 0) ∧ HfL (nt (List.set L1 a 0))) ∧ True) ∧ True) = _) ?_
      exact au
    | succ i =>
      refine .inl ⟨(i + 1 + 1, L1.set a (i + 1)), [0, 1], [yes 22, va 27 (.ptr 0 (1 + (i + 1))), ld 28 (w8 (x : Nat)), nu 29 (x : Nat), nu 31 (i + 1 + 1 : Nat), va 32 (i6 (a : Nat)), ap 35, (0, .loop [0, 3] (pjS N o E (n0 + 1) (i + 1) a d (L ++ [0])) [(True, .exit 2, pjX N o E (n0 + 1) (i + 1) a L1)]), pl 53, st (nt (L1.set a (i + 1))), nu 24 (i + 1 + 1 : Nat)], 1000, ⟨hlt, hnext⟩, by dsimp only; omega, ?_⟩
      clear hnext
      refine Eq.mp (by kernel_rfl : (decide ((↑(i + 1) : Int) < (↑(n0 + 1) : Int)) = true ∧ placeV (ctxOf Tryd.prog) 48 (V.ptr 0 (0 + 1)) (↑(i + 1) : Int) = some (V.ptr 0 (1 + (i + 1))) ∧ headF (dropF (1 + (i + 1)) (plL N o E)) = some (w8 (↑x : Int)) ∧ wr IntKind.i64 (↑x : Int) = (↑x : Int) ∧ wr IntKind.i64 ((↑(i + 1) : Int) + (1 : Int)) = (↑(i + 1 + 1) : Int) ∧ binV (ctxOf Tryd.prog) BinOp.rem 3 (V.int IntKind.i64 (↑x : Int)) (V.int IntKind.i64 (↑(i + 1 + 1) : Int)) = some (i6 (↑a : Int)) ∧ List.length (nt L) = (i + 1) * 1 ∧ i + 1 + 1 ≤ 9223372036854775807 ∧ (i + 1 + 1) * 8 ≤ 140737488355328 ∧ ((0 = 0 ∧ (↑(n0 + 1) : Int) = (↑(n0 + 1) : Int) ∧ (0 = 0 ∧ i + 1 + 1 = i + 1 + 1 ∧ True) ∧ (↑(i + 1) : Int) = (↑(i + 1) : Int) ∧ (↑a : Int) = (↑a : Int) ∧ (↑(a + d) : Int) = (↑(i + 1) : Int) ∧ True) ∧ (plL N o E = plL N o E ∧ True ∧ True ∧ True ∧ True ∧ True ∧ True ∧ True ∧ True ∧ True) ∧ (nt (L ++ [0]) = nt L ++ [V.int IntKind.i64 (0 : Int)] ∧ HfL (nt (L ++ [0]))) ∧ True) ∧ Sat Tryd.prog none 0 (at' 26 [1, 1, 1, 0, 1, 0, 0, 1, 0, 0, 1, 1, 0, 1, 0]) (mkSt g0 94 (pjS N o E (n0 + 1) (i + 1) a d (L ++ [0]))) (outsP g0 94 [(True, Ex.exit 2, pjX N o E (n0 + 1) (i + 1) a L1)]) ∧ (True → ((0 : Int) ≤ (↑a : Int) ∧ (↑a : Int) < (↑(i + 1 + 1) : Int)) ∧ layE (0 + a * 1) (nt L1) [i6 (↑(i + 1) : Int)] = some (nt (List.set L1 a (i + 1))) ∧ wr IntKind.i64 ((↑(i + 1) : Int) + (1 : Int)) = (↑(i + 1 + 1) : Int) ∧ (0 = 0 ∧ (↑(n0 + 1) : Int) = (↑(n0 + 1) : Int) ∧ (0 = 0 ∧ Nat.succ i + 1 = i + 1 + 1 ∧ True) ∧ (↑(i + 1 + 1) : Int) = (↑(i + 1 + 1) : Int) ∧ True) ∧ (plL N o E = plL N o E ∧ True ∧ True ∧ True ∧ True ∧ True ∧ True ∧ True ∧ True ∧ True) ∧ (nt (List.set L1 a (i + 1)) = nt (List.set L1 a (i + 1)) ∧ HfL (nt (List.set L1 a (i + 1)))) ∧ True) ∧ True) = _) ?_
      exact au
  · have : i = n0 + 1 := by omega
    subst this
    rw [← hL]
    refine .inr ⟨.exit 0, [0, 1], poX N o E (n0 + 1) L (n0 + 1), [no 22], 1000, .inl ⟨trivial, rfl, rfl⟩, ?_⟩
    clear hL hf
    refine Eq.mp (by kernel_rfl : (decide ((↑(n0 + 1) : Int) < (↑(n0 + 1) : Int)) = false ∧ (0 = 0 ∧ (↑(n0 + 1) : Int) = (↑(n0 + 1) : Int) ∧ (0 = 0 ∧ n0 + 1 = n0 + 1 ∧ True) ∧ True) ∧ (plL N o E = plL N o E ∧ True ∧ True ∧ True ∧ True ∧ True ∧ True ∧ True ∧ True ∧ True) ∧ (nt L = nt L ∧ HfL (nt L)) ∧ True) = _) ?_
    exact au

end Go.Proofs.YtglpoiaedkoecaaDoor.Am
