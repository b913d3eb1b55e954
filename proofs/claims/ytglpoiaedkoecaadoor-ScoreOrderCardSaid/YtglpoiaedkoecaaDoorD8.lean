/- Chapter 28: sums of powers: score.combine. -/
import Derived.Test.YtglpoiaedkoecaaDoorD3
namespace Go.Proofs.YtglpoiaedkoecaaDoor.Am
open Go.RowKit
set_option linter.unusedVariables false
set_option maxHeartbeats 1000000
set_option maxRecDepth 100000

def arE : SL := { sl := [] }
def bE (d : Nat) (b : Bool) : SL := { sl := [(d, .bool b)] }
theorem spI0 {p n : Nat} (hp : 2 ≤ p) (h1 : 1 ≤ n) (h2 : n ≤ 4611686018427387903) : SpI p (strip p 63 n).1 (strip p 63 n).2 63 n 0 :=
  ⟨h1, by have : (2 : Nat) ^ 63 = 9223372036854775808 := by decide
          omega, rfl, rfl⟩

abbrev TrI (n : Nat) (q : Nat × Nat × (Nat → Int)) : Prop := q.1 ≤ 18 ∧ q.2.1 = ofN n q.1 ∧ q.2.2 = ofF n q.1
theorem tr_next {n k : Nat} (h1 : 1 ≤ n) (h2 : n ≤ 4611686018427387903) (hlt : k < 18) {m : Nat} {f : Nat → Int} (hm : m = ofN n k) (hf : f = ofF n k) : ∃ E M : Nat, E ≤ 63 ∧ SpI (primeN k) E M 63 m 0 ∧ m ≤ 4611686018427387903 ∧ TrI n (k + 1, M, upA f k E) ∧ (∀ i, f i = upA f k ((0 : Nat) : Int) i) := by
  subst hm hf
  have hb := ofN_bd h1 k
  have hp := primeN_bd k
  refine ⟨(strip (primeN k) 63 (ofN n k)).1, (strip (primeN k) 63 (ofN n k)).2, (strip_bd hp.1 63 (ofN n k) hb.1).2.2, spI0 hp.1 hb.1 (by omega), by omega, ⟨hlt, rfl, rfl⟩, fun i => ?_⟩
  unfold upA; split
  · rename_i h; rw [ofF_out n k i (by omega)]; rfl
  · rfl
/-! ### ref26.Of -/
abbrev riS (f : Nat → Int) (k : Nat) (q : Nat × Nat × Nat) : SL := { sl := [(0, i6 q.2.1), (2, .ptr 0 0), (4, .ptr 1 0), (5, i6 k)], os := [.row 41 none (arF zeroF), .row 41 none (arF (upA f k q.2.2))] }
abbrev riX (f : Nat → Int) (k : Nat) (n e : Nat) : SL := { sl := [(0, i6 n), (2, .ptr 0 0), (4, .ptr 1 0), (5, i6 k)], os := [.row 41 none (arF zeroF), .row 41 none (arF (upA f k e))] }
theorem refof_in (f : Nat → Int) (k : Nat) (hk : k < 18) (E M : Nat) (q : Nat × Nat × Nat) (hE : E ≤ 63) (hq : SpI (primeN k) E M q.1 q.2.1 q.2.2 ∧ q.2.1 ≤ 4611686018427387903) :
    Sat Pg none 0 (at' 32 [1, 1, 0, 1, 0, 0, 1, 0, 0, 0]) (mkSt g0 28 (riS f k q)) (outsP g0 28 [(True, .exit 2, riX f k M E)]) := by
  refine loopC vE_ok mixed sp0_ok (b := at' 32 [1, 1, 0, 1, 0, 0, 1, 0, 0, 0, 0]) (by kernel_rfl) (fun q => SpI (primeN k) E M q.1 q.2.1 q.2.2 ∧ q.2.1 ≤ 4611686018427387903) (riS f k) (fun q => q.1) (fun q hq => ?_) q hq
  obtain ⟨t, n, e⟩ := q
  obtain ⟨hq, hn⟩ := hq
  dsimp only at hq hn
  have hp := primeN_bd k
  have hpf := prime_fn k hk
  have hrem : binV (ctxOf Pg) .rem 3 (i6 n) (i6 (primeN k)) = some (i6 ((n % primeN k : Nat) : Int)) := by rw [rem6 (by omega), tmod_nat]
  by_cases hm : n % primeN k = 0
  · obtain ⟨t', rfl, hq'⟩ := hq.step hp.1 hm
    have hdl := Nat.div_le_self n (primeN k)
    have htd := tdiv_nat n (primeN k)
    generalize n / primeN k = m at *
    have hquo : binV (ctxOf Pg) .quo 3 (i6 n) (i6 (primeN k)) = some (i6 ((m : Nat) : Int)) := by rw [quo6 (by omega) (by rw [htd]; omega) (by rw [htd]; omega), htd]
    have hpl := @place41 1 k hk
    have hhd : headF (dropF k (arF (upA f k e))) = some (i6 (e : Int)) := by rw [head_ar hk, upd_at]
    have hst : layE k (arF (upA f k e)) [i6 ((e + 1 : Nat) : Int)] = some (arF (upA f k ((e + 1 : Nat) : Int))) := by rw [lay_ar hk, upd_upd]
    have he := hq'.e1
    refine .inl ⟨(t', m, e + 1), [0, 1], [fn 12 (i6 (primeN k)), va 13 (i6 ((n % primeN k : Nat) : Int)), yes 14, fn 17 (i6 (primeN k)), va 18 (i6 ((m : Nat) : Int)), va 21 (.ptr 1 k), ld 22 (i6 e), nu 23 (e + 1 : Nat), va 24 (.ptr 1 k), st (arF (upA f k ((e + 1 : Nat) : Int)))], 1000, ⟨hq', by dsimp only; omega⟩, by dsimp only; omega, ?_⟩
    refine Eq.mp (by kernel_rfl : ((True ∧ True) ∧ FnOk Tryd.prog g0 81 [V.int IntKind.i64 (↑k : Int)] (i6 (↑(primeN k) : Int)) ∧ True ∧ binV (ctxOf Tryd.prog) BinOp.rem 3 (i6 (↑n : Int)) (i6 (↑(primeN k) : Int)) = some (i6 (↑(n % primeN k) : Int)) ∧ ((↑(n % primeN k) : Int) == (0 : Int)) = true ∧ (True ∧ True) ∧ FnOk Tryd.prog g0 81 [V.int IntKind.i64 (↑k : Int)] (i6 (↑(primeN k) : Int)) ∧ True ∧ binV (ctxOf Tryd.prog) BinOp.quo 3 (i6 (↑n : Int)) (i6 (↑(primeN k) : Int)) = some (i6 (↑m : Int)) ∧ placeV (ctxOf Tryd.prog) 41 (V.ptr 1 0) (↑k : Int) = some (V.ptr 1 k) ∧ headF (dropF k (arF (upA f k (↑e : Int)))) = some (i6 (↑e : Int)) ∧ wr IntKind.i64 ((↑e : Int) + (1 : Int)) = (↑(e + 1) : Int) ∧ placeV (ctxOf Tryd.prog) 41 (V.ptr 1 0) (↑k : Int) = some (V.ptr 1 k) ∧ layE k (arF (upA f k (↑e : Int))) [V.int IntKind.i64 (↑(e + 1) : Int)] = some (arF (upA f k (↑(e + 1) : Int))) ∧ ((↑m : Int) = (↑m : Int) ∧ 0 = 0 ∧ 0 = 0 ∧ (↑k : Int) = (↑k : Int) ∧ True) ∧ (arF zeroF = arF zeroF ∧ True ∧ True ∧ True ∧ True ∧ True ∧ True ∧ True ∧ True ∧ True ∧ True ∧ True ∧ True ∧ True ∧ True ∧ True ∧ True ∧ True ∧ True ∧ True) ∧ (arF (upA f k (↑(e + 1) : Int)) = arF (upA f k (↑(e + 1) : Int)) ∧ True ∧ True ∧ True ∧ True ∧ True ∧ True ∧ True ∧ True ∧ True ∧ True ∧ True ∧ True ∧ True ∧ True ∧ True ∧ True ∧ True ∧ True ∧ True) ∧ True) = _) ?_
    exact au
  · obtain ⟨rfl, rfl⟩ := hq.stop hp.1 hm
    refine .inr ⟨.exit 2, [0, 1], riX f k n e, [fn 12 (i6 (primeN k)), va 13 (i6 ((n % primeN k : Nat) : Int)), no 14], 1000, .inl ⟨trivial, rfl, rfl⟩, ?_⟩
    refine Eq.mp (by kernel_rfl : ((True ∧ True) ∧ FnOk Tryd.prog g0 81 [V.int IntKind.i64 (↑k : Int)] (i6 (↑(primeN k) : Int)) ∧ True ∧ binV (ctxOf Tryd.prog) BinOp.rem 3 (i6 (↑n : Int)) (i6 (↑(primeN k) : Int)) = some (i6 (↑(n % primeN k) : Int)) ∧ ((↑(n % primeN k) : Int) == (0 : Int)) = false ∧ ((↑n : Int) = (↑n : Int) ∧ 0 = 0 ∧ 0 = 0 ∧ (↑k : Int) = (↑k : Int) ∧ True) ∧ (arF zeroF = arF zeroF ∧ True ∧ True ∧ True ∧ True ∧ True ∧ True ∧ True ∧ True ∧ True ∧ True ∧ True ∧ True ∧ True ∧ True ∧ True ∧ True ∧ True ∧ True ∧ True) ∧ (arF (upA f k (↑e : Int)) = arF (upA f k (↑e : Int)) ∧ True ∧ True ∧ True ∧ True ∧ True ∧ True ∧ True ∧ True ∧ True ∧ True ∧ True ∧ True ∧ True ∧ True ∧ True ∧ True ∧ True ∧ True ∧ True) ∧ True) = _) ?_
    exact au
abbrev roS (q : Nat × Nat × (Nat → Int)) : SL := { sl := [(0, i6 q.2.1), (2, .ptr 0 0), (4, .ptr 1 0), (5, i6 q.1)], os := [.row 41 none (arF zeroF), .row 41 none (arF q.2.2)] }
abbrev roX (m : Nat) (f : Nat → Int) : SL := { sl := [(0, i6 m), (2, .ptr 0 0), (4, .ptr 1 0)], os := [.row 41 none (arF zeroF), .row 41 none (arF f)] }
theorem refof_loop (n : Nat) (h1 : 1 ≤ n) (h2 : n ≤ 4611686018427387903) (q : Nat × Nat × (Nat → Int)) (hq : TrI n q) :
    Sat Pg none 0 (at' 32 [1, 1, 0, 1, 0]) (mkSt g0 28 (roS q)) (outsP g0 28 [(True, .exit 0, roX (ofN n 18) (ofF n 18))]) := by
  refine loopC vE_ok mixed sp0_ok (b := at' 32 [1, 1, 0, 1, 0, 0]) (by kernel_rfl) (TrI n) roS (fun q => 18 - q.1) (fun q hq => ?_) q hq
  obtain ⟨k, m, f⟩ := q
  obtain ⟨hk, hm, hf⟩ := hq
  dsimp only at hk hm hf
  by_cases hlt : k < 18
  · obtain ⟨E, M, hE, hsp, hm2, hnx, hz⟩ := tr_next h1 h2 hlt hm hf
    have l := refof_in f k hlt E M (63, m, 0) hE ⟨hsp, hm2⟩
    refine .inl ⟨(k + 1, M, upA f k E), [0, 1], [yes 7, (0, .loop [0, 1] (riS f k (63, m, 0)) [(True, .exit 2, riX f k M E)]), nu 9 (k + 1 : Nat)], 1000, hnx, by dsimp only; omega, ?_⟩
    refine Eq.mp (by kernel_rfl : (decide ((↑k : Int) < (18 : Int)) = true ∧ (((↑m : Int) = (↑m : Int) ∧ 0 = 0 ∧ 0 = 0 ∧ (↑k : Int) = (↑k : Int) ∧ True) ∧ (arF zeroF = arF zeroF ∧ True ∧ True ∧ True ∧ True ∧ True ∧ True ∧ True ∧ True ∧ True ∧ True ∧ True ∧ True ∧ True ∧ True ∧ True ∧ True ∧ True ∧ True ∧ True) ∧ (arF (upA f k (↑(0 : Nat) : Int)) = arF f ∧ True ∧ True ∧ True ∧ True ∧ True ∧ True ∧ True ∧ True ∧ True ∧ True ∧ True ∧ True ∧ True ∧ True ∧ True ∧ True ∧ True ∧ True ∧ True) ∧ True) ∧ Sat Tryd.prog none 0 (at' 32 [1, 1, 0, 1, 0, 0, 1, 0, 0, 0]) (mkSt g0 28 (riS f k (63, m, 0))) (outsP g0 28 [(True, Ex.exit 2, riX f k M E)]) ∧ (True → wr IntKind.i64 ((↑k : Int) + (1 : Int)) = (↑(k + 1) : Int) ∧ ((↑M : Int) = (↑M : Int) ∧ 0 = 0 ∧ 0 = 0 ∧ (↑(k + 1) : Int) = (↑(k + 1) : Int) ∧ True) ∧ (arF zeroF = arF zeroF ∧ True ∧ True ∧ True ∧ True ∧ True ∧ True ∧ True ∧ True ∧ True ∧ True ∧ True ∧ True ∧ True ∧ True ∧ True ∧ True ∧ True ∧ True ∧ True) ∧ (arF (upA f k (↑E : Int)) = arF (upA f k (↑E : Int)) ∧ True ∧ True ∧ True ∧ True ∧ True ∧ True ∧ True ∧ True ∧ True ∧ True ∧ True ∧ True ∧ True ∧ True ∧ True ∧ True ∧ True ∧ True ∧ True) ∧ True) ∧ True) = _) ?_
    exact au
  · have : k = 18 := by omega
    subst this
    rw [← hm, ← hf]
    refine .inr ⟨.exit 0, [0, 1], roX m f, [], 1000, .inl ⟨trivial, rfl, rfl⟩, ?_⟩
    refine Eq.mp (by kernel_rfl : (((↑m : Int) = (↑m : Int) ∧ 0 = 0 ∧ 0 = 0 ∧ True) ∧ (arF zeroF = arF zeroF ∧ True ∧ True ∧ True ∧ True ∧ True ∧ True ∧ True ∧ True ∧ True ∧ True ∧ True ∧ True ∧ True ∧ True ∧ True ∧ True ∧ True ∧ True ∧ True) ∧ (arF f = arF f ∧ True ∧ True ∧ True ∧ True ∧ True ∧ True ∧ True ∧ True ∧ True ∧ True ∧ True ∧ True ∧ True ∧ True ∧ True ∧ True ∧ True ∧ True ∧ True) ∧ True) = _) ?_
    exact au
theorem refof_fn (n : Nat) (h1 : 1 ≤ n) (h2 : n ≤ 4611686018427387903) (b : Bool) (hb : decide (ofN n 18 = 1) = b) : FnOk Pg g0 32 [i6 n] (.tup [ar (ofF n 18), .bool b]) := by
  have l := refof_loop n h1 h2 (0, n, zeroF) ⟨Nat.zero_le _, rfl, rfl⟩
  generalize ofN n 18 = m at *
  generalize ofF n 18 = f at *
  cases b with
  | true =>
    have hb := of_decide_eq_true hb
    refine FnOk.of_vc vE_ok mixed sp0_ok (n := 1000) (r := [0]) (S := { sl := [(2, .ptr 0 0), (3, .bool true)], os := [.row 41 none (arF f)] }) (hs := [(0, .loop [0, 1] (roS (0, n, zeroF)) [(True, .exit 0, roX m f)]), yes 27]) ?_
    refine Eq.mp (by kernel_rfl : (V.tup [V.agg [i6 (f 0), i6 (f 1), i6 (f 2), i6 (f 3), i6 (f 4), i6 (f 5), i6 (f 6), i6 (f 7), i6 (f 8), i6 (f 9), i6 (f 10), i6 (f 11), i6 (f 12), i6 (f 13), i6 (f 14), i6 (f 15), i6 (f 16), i6 (f 17)], V.bool true] = V.tup [ar f, V.bool true] ∧ (((↑n : Int) = (↑n : Int) ∧ 0 = 0 ∧ 0 = 0 ∧ (↑(0 : Nat) : Int) = (0 : Int) ∧ True) ∧ (arF zeroF = [V.int IntKind.i64 (0 : Int), V.int IntKind.i64 (0 : Int), V.int IntKind.i64 (0 : Int), V.int IntKind.i64 (0 : Int), V.int IntKind.i64 (0 : Int), V.int IntKind.i64 (0 : Int), V.int IntKind.i64 (0 : Int), V.int IntKind.i64 (0 : Int), V.int IntKind.i64 (0 : Int), V.int IntKind.i64 (0 : Int), V.int IntKind.i64 (0 : Int), V.int IntKind.i64 (0 : Int), V.int IntKind.i64 (0 : Int), V.int IntKind.i64 (0 : Int), V.int IntKind.i64 (0 : Int), V.int IntKind.i64 (0 : Int), V.int IntKind.i64 (0 : Int), V.int IntKind.i64 (0 : Int)] ∧ True ∧ True ∧ True ∧ True ∧ True ∧ True ∧ True ∧ True ∧ True ∧ True ∧ True ∧ True ∧ True ∧ True ∧ True ∧ True ∧ True ∧ True ∧ True) ∧ (arF zeroF = [V.int IntKind.i64 (0 : Int), V.int IntKind.i64 (0 : Int), V.int IntKind.i64 (0 : Int), V.int IntKind.i64 (0 : Int), V.int IntKind.i64 (0 : Int), V.int IntKind.i64 (0 : Int), V.int IntKind.i64 (0 : Int), V.int IntKind.i64 (0 : Int), V.int IntKind.i64 (0 : Int), V.int IntKind.i64 (0 : Int), V.int IntKind.i64 (0 : Int), V.int IntKind.i64 (0 : Int), V.int IntKind.i64 (0 : Int), V.int IntKind.i64 (0 : Int), V.int IntKind.i64 (0 : Int), V.int IntKind.i64 (0 : Int), V.int IntKind.i64 (0 : Int), V.int IntKind.i64 (0 : Int)] ∧ True ∧ True ∧ True ∧ True ∧ True ∧ True ∧ True ∧ True ∧ True ∧ True ∧ True ∧ True ∧ True ∧ True ∧ True ∧ True ∧ True ∧ True ∧ True) ∧ True) ∧ Sat Tryd.prog none 0 (at' 32 [1, 1, 0, 1, 0]) (mkSt g0 28 (roS (0, n, zeroF))) (outsP g0 28 [(True, Ex.exit 0, roX m f)]) ∧ (True → ((↑m : Int) == (1 : Int)) = true ∧ (0 = 0 ∧ true = true ∧ True) ∧ (arF f = [i6 (f 0), i6 (f 1), i6 (f 2), i6 (f 3), i6 (f 4), i6 (f 5), i6 (f 6), i6 (f 7), i6 (f 8), i6 (f 9), i6 (f 10), i6 (f 11), i6 (f 12), i6 (f 13), i6 (f 14), i6 (f 15), i6 (f 16), i6 (f 17)] ∧ True ∧ True ∧ True ∧ True ∧ True ∧ True ∧ True ∧ True ∧ True ∧ True ∧ True ∧ True ∧ True ∧ True ∧ True ∧ True ∧ True ∧ True ∧ True) ∧ True) ∧ True) = _) ?_
    exact au
  | false =>
    have hb := of_decide_eq_false hb
    refine FnOk.of_vc vE_ok mixed sp0_ok (n := 1000) (r := [0]) (S := { sl := [(2, .ptr 0 0), (3, .bool false)], os := [.row 41 none (arF f)] }) (hs := [(0, .loop [0, 1] (roS (0, n, zeroF)) [(True, .exit 0, roX m f)]), no 27]) ?_
    refine Eq.mp (by kernel_rfl : (V.tup [V.agg [i6 (f 0), i6 (f 1), i6 (f 2), i6 (f 3), i6 (f 4), i6 (f 5), i6 (f 6), i6 (f 7), i6 (f 8), i6 (f 9), i6 (f 10), i6 (f 11), i6 (f 12), i6 (f 13), i6 (f 14), i6 (f 15), i6 (f 16), i6 (f 17)], V.bool false] = V.tup [ar f, V.bool false] ∧ (((↑n : Int) = (↑n : Int) ∧ 0 = 0 ∧ 0 = 0 ∧ (↑(0 : Nat) : Int) = (0 : Int) ∧ True) ∧ (arF zeroF = [V.int IntKind.i64 (0 : Int), V.int IntKind.i64 (0 : Int), V.int IntKind.i64 (0 : Int), V.int IntKind.i64 (0 : Int), V.int IntKind.i64 (0 : Int), V.int IntKind.i64 (0 : Int), V.int IntKind.i64 (0 : Int), V.int IntKind.i64 (0 : Int), V.int IntKind.i64 (0 : Int), V.int IntKind.i64 (0 : Int), V.int IntKind.i64 (0 : Int), V.int IntKind.i64 (0 : Int), V.int IntKind.i64 (0 : Int), V.int IntKind.i64 (0 : Int), V.int IntKind.i64 (0 : Int), V.int IntKind.i64 (0 : Int), V.int IntKind.i64 (0 : Int), V.int IntKind.i64 (0 : Int)] ∧ True ∧ True ∧ True ∧ True ∧ True ∧ True ∧ True ∧ True ∧ True ∧ True ∧ True ∧ True ∧ True ∧ True ∧ True ∧ True ∧ True ∧ True ∧ True) ∧ (arF zeroF = [V.int IntKind.i64 (0 : Int), V.int IntKind.i64 (0 : Int), V.int IntKind.i64 (0 : Int), V.int IntKind.i64 (0 : Int), V.int IntKind.i64 (0 : Int), V.int IntKind.i64 (0 : Int), V.int IntKind.i64 (0 : Int), V.int IntKind.i64 (0 : Int), V.int IntKind.i64 (0 : Int), V.int IntKind.i64 (0 : Int), V.int IntKind.i64 (0 : Int), V.int IntKind.i64 (0 : Int), V.int IntKind.i64 (0 : Int), V.int IntKind.i64 (0 : Int), V.int IntKind.i64 (0 : Int), V.int IntKind.i64 (0 : Int), V.int IntKind.i64 (0 : Int), V.int IntKind.i64 (0 : Int)] ∧ True ∧ True ∧ True ∧ True ∧ True ∧ True ∧ True ∧ True ∧ True ∧ True ∧ True ∧ True ∧ True ∧ True ∧ True ∧ True ∧ True ∧ True ∧ True) ∧ True) ∧ Sat Tryd.prog none 0 (at' 32 [1, 1, 0, 1, 0]) (mkSt g0 28 (roS (0, n, zeroF))) (outsP g0 28 [(True, Ex.exit 0, roX m f)]) ∧ (True → ((↑m : Int) == (1 : Int)) = false ∧ (0 = 0 ∧ false = false ∧ True) ∧ (arF f = [i6 (f 0), i6 (f 1), i6 (f 2), i6 (f 3), i6 (f 4), i6 (f 5), i6 (f 6), i6 (f 7), i6 (f 8), i6 (f 9), i6 (f 10), i6 (f 11), i6 (f 12), i6 (f 13), i6 (f 14), i6 (f 15), i6 (f 16), i6 (f 17)] ∧ True ∧ True ∧ True ∧ True ∧ True ∧ True ∧ True ∧ True ∧ True ∧ True ∧ True ∧ True ∧ True ∧ True ∧ True ∧ True ∧ True ∧ True ∧ True) ∧ True) ∧ True) = _) ?_
    exact au

/-! ### sums -/
def mixF (a b : Nat → Int) (s : Int) : Nat → Nat → Int
  | 0 => a
  | k + 1 => upA (mixF a b s k) k (a k + s * b k)
theorem mixF_at (a b : Nat → Int) (s : Int) : ∀ k i, mixF a b s k i = if i < k then a i + s * b i else a i
  | 0, i => by simp [mixF]
  | k + 1, i => by
    unfold mixF upA
    by_cases h : i = k
    · subst h; rw [if_pos rfl, if_pos (by omega)]
    · rw [if_neg h, mixF_at a b s k i]
      by_cases h2 : i < k
      · rw [if_pos h2, if_pos (by omega)]
      · rw [if_neg h2, if_neg (by omega)]
abbrev cbS (a b : Nat → Int) (s : Int) (k : Nat) : SL := { sl := [(2, i6 s), (3, .ptr 0 0), (4, .ptr 1 0), (6, .ptr 2 0), (8, i6 k)], os := [.row 41 none (arF (mixF a b s k)), .row 41 none (arF b), .row 41 none (arF zeroF)] }
abbrev cbX (a b : Nat → Int) (s : Int) : SL := { sl := [(3, .ptr 0 0), (6, .ptr 1 0)], os := [.row 41 none (arF (mixF a b s 18)), .row 41 none (arF zeroF)] }
theorem combine_loop (a b : Nat → Int) (s : Int) (ha : ∀ k, k < 18 → -1000000 ≤ a k ∧ a k ≤ 1000000) (hb : ∀ k, k < 18 → -1000000 ≤ s * b k ∧ s * b k ≤ 1000000) (k : Nat) (hk : k ≤ 18) :
    Sat Pg none 0 (at' 79 [1, 0, 1, 0]) (mkSt g0 23 (cbS a b s k)) (outsP g0 23 [(True, .exit 0, cbX a b s)]) := by
  refine loopC vE_ok mixed sp0_ok (b := at' 79 [1, 0, 1, 0, 0]) (by kernel_rfl) (fun k => k ≤ 18) (cbS a b s) (fun k => 18 - k) (fun k hk => ?_) k hk
  by_cases hlt : k < 18
  · have p0 := @place41 0 k hlt
    have p1 := @place41 1 k hlt
    have h0 : headF (dropF k (arF (mixF a b s k))) = some (i6 (a k)) := by rw [head_ar hlt, mixF_at, if_neg (by omega)]
    have h1 := @head_ar b k hlt
    have hst : layE k (arF (mixF a b s k)) [i6 (a k + s * b k)] = some (arF (mixF a b s (k + 1))) := lay_ar hlt
    have ha := ha k hlt
    have hb := hb k hlt
    refine .inl ⟨k + 1, [0, 1, 2], [yes 9, va 12 (.ptr 0 k), ld 13 (i6 (a k)), va 16 (.ptr 1 k), ld 17 (i6 (b k)), nu 18 (s * b k), nu 19 (a k + s * b k), va 20 (.ptr 0 k), st (arF (mixF a b s (k + 1))), nu 21 (k + 1 : Nat)], 1000, hlt, by omega, ?_⟩
    refine Eq.mp (by kernel_rfl : (decide ((↑k : Int) < (18 : Int)) = true ∧ placeV (ctxOf Tryd.prog) 41 (V.ptr 0 0) (↑k : Int) = some (V.ptr 0 k) ∧ headF (dropF k (arF (mixF a b s k))) = some (i6 (a k)) ∧ placeV (ctxOf Tryd.prog) 41 (V.ptr 1 0) (↑k : Int) = some (V.ptr 1 k) ∧ headF (dropF k (arF b)) = some (i6 (b k)) ∧ wr IntKind.i64 (s * b k) = s * b k ∧ wr IntKind.i64 (a k + s * b k) = a k + s * b k ∧ placeV (ctxOf Tryd.prog) 41 (V.ptr 0 0) (↑k : Int) = some (V.ptr 0 k) ∧ layE k (arF (mixF a b s k)) [V.int IntKind.i64 (a k + s * b k)] = some (arF (mixF a b s (k + 1))) ∧ wr IntKind.i64 ((↑k : Int) + (1 : Int)) = (↑(k + 1) : Int) ∧ (s = s ∧ 0 = 0 ∧ 0 = 0 ∧ 0 = 0 ∧ (↑(k + 1) : Int) = (↑(k + 1) : Int) ∧ True) ∧ (arF (mixF a b s (k + 1)) = arF (mixF a b s (k + 1)) ∧ True ∧ True ∧ True ∧ True ∧ True ∧ True ∧ True ∧ True ∧ True ∧ True ∧ True ∧ True ∧ True ∧ True ∧ True ∧ True ∧ True ∧ True ∧ True) ∧ (arF b = arF b ∧ True ∧ True ∧ True ∧ True ∧ True ∧ True ∧ True ∧ True ∧ True ∧ True ∧ True ∧ True ∧ True ∧ True ∧ True ∧ True ∧ True ∧ True ∧ True) ∧ (arF zeroF = arF zeroF ∧ True ∧ True ∧ True ∧ True ∧ True ∧ True ∧ True ∧ True ∧ True ∧ True ∧ True ∧ True ∧ True ∧ True ∧ True ∧ True ∧ True ∧ True ∧ True) ∧ True) = _) ?_
    exact au
  · have : k = 18 := by omega
    subst this
    refine .inr ⟨.exit 0, [0, 2], cbX a b s, [], 1000, .inl ⟨trivial, rfl, rfl⟩, ?_⟩
    refine Eq.mp (by kernel_rfl : ((0 = 0 ∧ 0 = 0 ∧ True) ∧ (arF (mixF a b s 18) = arF (mixF a b s 18) ∧ True ∧ True ∧ True ∧ True ∧ True ∧ True ∧ True ∧ True ∧ True ∧ True ∧ True ∧ True ∧ True ∧ True ∧ True ∧ True ∧ True ∧ True ∧ True) ∧ (arF zeroF = arF zeroF ∧ True ∧ True ∧ True ∧ True ∧ True ∧ True ∧ True ∧ True ∧ True ∧ True ∧ True ∧ True ∧ True ∧ True ∧ True ∧ True ∧ True ∧ True ∧ True) ∧ True) = _) ?_
    exact au
theorem combine_fn (a b : Nat → Int) (s : Int) (ha : ∀ k, k < 18 → -1000000 ≤ a k ∧ a k ≤ 1000000) (hb : ∀ k, k < 18 → -1000000 ≤ s * b k ∧ s * b k ≤ 1000000) : FnOk Pg g0 79 [ar a, ar b, i6 s] (ar (mixF a b s 18)) := by
  have l := combine_loop a b s ha hb 0 (Nat.zero_le _)
  refine FnOk.of_vc vE_ok mixed sp0_ok (n := 1000) (r := [1]) (S := { sl := [(6, .ptr 0 0)], os := [.row 41 none (arF (mixF a b s 18))] }) (hs := [(0, .loop [0, 1, 2] (cbS a b s 0) [(True, .exit 0, cbX a b s)])]) ?_
  refine Eq.mp (by kernel_rfl : (V.agg [i6 (mixF a b s 18 0), i6 (mixF a b s 18 1), i6 (mixF a b s 18 2), i6 (mixF a b s 18 3), i6 (mixF a b s 18 4), i6 (mixF a b s 18 5), i6 (mixF a b s 18 6), i6 (mixF a b s 18 7), i6 (mixF a b s 18 8), i6 (mixF a b s 18 9), i6 (mixF a b s 18 10), i6 (mixF a b s 18 11), i6 (mixF a b s 18 12), i6 (mixF a b s 18 13), i6 (mixF a b s 18 14), i6 (mixF a b s 18 15), i6 (mixF a b s 18 16), i6 (mixF a b s 18 17)] = ar (mixF a b s 18) ∧ ((s = s ∧ 0 = 0 ∧ 0 = 0 ∧ 0 = 0 ∧ (↑(0 : Nat) : Int) = (0 : Int) ∧ True) ∧ (arF (mixF a b s 0) = [i6 (a 0), i6 (a 1), i6 (a 2), i6 (a 3), i6 (a 4), i6 (a 5), i6 (a 6), i6 (a 7), i6 (a 8), i6 (a 9), i6 (a 10), i6 (a 11), i6 (a 12), i6 (a 13), i6 (a 14), i6 (a 15), i6 (a 16), i6 (a 17)] ∧ True ∧ True ∧ True ∧ True ∧ True ∧ True ∧ True ∧ True ∧ True ∧ True ∧ True ∧ True ∧ True ∧ True ∧ True ∧ True ∧ True ∧ True ∧ True) ∧ (arF b = [i6 (b 0), i6 (b 1), i6 (b 2), i6 (b 3), i6 (b 4), i6 (b 5), i6 (b 6), i6 (b 7), i6 (b 8), i6 (b 9), i6 (b 10), i6 (b 11), i6 (b 12), i6 (b 13), i6 (b 14), i6 (b 15), i6 (b 16), i6 (b 17)] ∧ True ∧ True ∧ True ∧ True ∧ True ∧ True ∧ True ∧ True ∧ True ∧ True ∧ True ∧ True ∧ True ∧ True ∧ True ∧ True ∧ True ∧ True ∧ True) ∧ (arF zeroF = [V.int IntKind.i64 (0 : Int), V.int IntKind.i64 (0 : Int), V.int IntKind.i64 (0 : Int), V.int IntKind.i64 (0 : Int), V.int IntKind.i64 (0 : Int), V.int IntKind.i64 (0 : Int), V.int IntKind.i64 (0 : Int), V.int IntKind.i64 (0 : Int), V.int IntKind.i64 (0 : Int), V.int IntKind.i64 (0 : Int), V.int IntKind.i64 (0 : Int), V.int IntKind.i64 (0 : Int), V.int IntKind.i64 (0 : Int), V.int IntKind.i64 (0 : Int), V.int IntKind.i64 (0 : Int), V.int IntKind.i64 (0 : Int), V.int IntKind.i64 (0 : Int), V.int IntKind.i64 (0 : Int)] ∧ True ∧ True ∧ True ∧ True ∧ True ∧ True ∧ True ∧ True ∧ True ∧ True ∧ True ∧ True ∧ True ∧ True ∧ True ∧ True ∧ True ∧ True ∧ True) ∧ True) ∧ Sat Tryd.prog none 0 (at' 79 [1, 0, 1, 0]) (mkSt g0 23 (cbS a b s 0)) (outsP g0 23 [(True, Ex.exit 0, cbX a b s)]) ∧ (True → (0 = 0 ∧ True) ∧ (arF (mixF a b s 18) = [i6 (mixF a b s 18 0), i6 (mixF a b s 18 1), i6 (mixF a b s 18 2), i6 (mixF a b s 18 3), i6 (mixF a b s 18 4), i6 (mixF a b s 18 5), i6 (mixF a b s 18 6), i6 (mixF a b s 18 7), i6 (mixF a b s 18 8), i6 (mixF a b s 18 9), i6 (mixF a b s 18 10), i6 (mixF a b s 18 11), i6 (mixF a b s 18 12), i6 (mixF a b s 18 13), i6 (mixF a b s 18 14), i6 (mixF a b s 18 15), i6 (mixF a b s 18 16), i6 (mixF a b s 18 17)] ∧ True ∧ True ∧ True ∧ True ∧ True ∧ True ∧ True ∧ True ∧ True ∧ True ∧ True ∧ True ∧ True ∧ True ∧ True ∧ True ∧ True ∧ True ∧ True) ∧ True) ∧ True) = _) ?_
  exact au
end Go.Proofs.YtglpoiaedkoecaaDoor.Am
