/- Numbers of 64 bits; the reference's family for data that are right and whole; the three data of the laws. -/
import Derived.Test.YtglpoiaedkoecaaDoorE22
import Derived.Test.YtglpoiaedkoecaaDoorE12
import Derived.Test.YtglpoiaedkoecaaDoorD2
namespace Go.Proofs.YtglpoiaedkoecaaDoor.Am
open Go.RowKit
set_option linter.unusedVariables false
set_option maxHeartbeats 1000000
set_option maxRecDepth 100000

/-! ### numbers of 64 bits -/
theorem wr_u64 (n : Int) : wr .u64 n = n % 18446744073709551616 := by
  unfold wr
  split
  · rename_i h
    simp only [lo, hi] at h
    rw [Int.emod_eq_of_lt h.1 (by omega)]
  · show (n - lo .u64) % wid .u64 + lo .u64 = _
    simp only [lo, wid]; omega
theorem wr_u64_nat (n : Int) : ∃ u : Nat, wr .u64 n = (u : Int) := by
  refine ⟨(n % 18446744073709551616).toNat, ?_⟩
  rw [wr_u64, Int.toNat_of_nonneg (Int.emod_nonneg _ (by omega))]
theorem bits_u64 {G : Ctx} {t : Nat} (op : BinOp) (hop : op = .and ∨ op = .andNot ∨ op = .or) (x y : Int) : ∃ z : Nat, binV G op t (u6 x) (u6 y) = some (u6 (z : Int)) := by
  rcases hop with rfl | rfl | rfl
  · obtain ⟨z, hz⟩ := wr_u64_nat ((BitVec.ofInt 64 x &&& BitVec.ofInt 64 y).toNat : Int)
    exact ⟨z, by show some (V.int .u64 (IntKind.u64.wrap _)) = _; rw [← wr_eq]; exact congrArg (fun z => some (V.int .u64 z)) hz⟩
  · obtain ⟨z, hz⟩ := wr_u64_nat ((BitVec.ofInt 64 x &&& ~~~BitVec.ofInt 64 y).toNat : Int)
    exact ⟨z, by show some (V.int .u64 (IntKind.u64.wrap _)) = _; rw [← wr_eq]; exact congrArg (fun z => some (V.int .u64 z)) hz⟩
  · obtain ⟨z, hz⟩ := wr_u64_nat ((BitVec.ofInt 64 x ||| BitVec.ofInt 64 y).toNat : Int)
    exact ⟨z, by show some (V.int .u64 (IntKind.u64.wrap _)) = _; rw [← wr_eq]; exact congrArg (fun z => some (V.int .u64 z)) hz⟩
theorem shl_u64 {G : Ctx} {t : Nat} (x k : Nat) : ∃ z : Nat, binV G .shl t (u6 (x : Int)) (i6 (k : Int)) = some (u6 (z : Int)) := by
  obtain ⟨z, hz⟩ := wr_u64_nat ((x : Int) * ((2 ^ min k 64 : Nat) : Int))
  refine ⟨z, ?_⟩
  have h1 : ((k : Int) < 0) = False := by simp
  have e : binV G .shl t (u6 (x : Int)) (i6 (k : Int)) = if (k : Int) < 0 then none else some (.int .u64 (wr .u64 ((x : Int) * ((2 ^ min ((k : Int).toNat) 64 : Nat) : Int)))) := rfl
  rw [e, if_neg (by omega), Int.toNat_natCast, hz]
theorem rem_u64 {G : Ctx} {t : Nat} (x n : Nat) (h : n ≠ 0) : binV G .rem t (u6 (x : Int)) (u6 (n : Int)) = some (u6 ((x % n : Nat) : Int)) := by
  have e : binV G .rem t (u6 (x : Int)) (u6 (n : Int)) = if (n : Int) = 0 then none else some (.int .u64 ((x : Int).tmod (n : Int))) := rfl
  rw [e, if_neg (by omega), tmod_nat]

/-! ### the reference's family, for data that are right and whole -/
theorem size_prod {cards : List Int} (h : ∀ k, k < cards.length → 2 ≤ cards.getD k 0) (ps : Nat) : ∀ k, k ≤ cards.length → ((sizeN (toN cards) ps k : Nat) : Int) ≤ prodT cards k ∧ 1 ≤ prodT cards k
  | 0, _ => by simp [sizeN, prodT]
  | k + 1, hk => by
    obtain ⟨h1, h2⟩ := size_prod h ps k (by omega)
    have h3 := h k (by omega)
    have h4 : prodT cards (k + 1) = prodT cards k * cards.getD k 0 := rfl
    have h5 : prodT cards k * 1 ≤ prodT cards k * cards.getD k 0 := Int.mul_le_mul_of_nonneg_left (by omega) (by omega)
    refine ⟨?_, by omega⟩
    unfold sizeN
    rw [h4]
    split
    · have h6 : (((toN cards).getD k 0 : Nat) : Int) = cards.getD k 0 := by rw [toN_get]; omega
      rw [Int.natCast_mul, h6]
      exact Int.mul_le_mul_of_nonneg_right h1 (by omega)
    · omega
theorem ref_ok (cards : List Int) (cs : List (List Int)) (v : Int) (ps : Nat) (h : goodE cards cs = 0) (hm : memB cards.length v ps = true) : FnOk Pg g0 24 [gV cards cs, i6 v, u6 ps] (ar (famG cards cs v ps)) := by
  have hw := whole_ok h
  have hlen := hw.cok.six
  rw [toN_length] at hlen
  unfold memB at hm
  simp only [Bool.and_eq_true, decide_eq_true_eq] at hm
  obtain ⟨m1, m2, m3, m4⟩ := hm
  have hps : ps < 2 ^ cards.length := by
    rcases Nat.lt_or_ge ps (2 ^ cards.length) with h' | h'
    · exact h'
    · have := Nat.div_pos h' (Nat.two_pow_pos _)
      omega
  have hp6 : 2 ^ cards.length ≤ 2 ^ 6 := Nat.pow_le_pow_right (by omega) hlen
  have hsz := (size_prod (cards := cards) (fun k hk => by
    have := (hw.cok.each k (by rw [toN_length]; exact hk)).1
    rw [toN_get] at this; omega) ps cards.length (Nat.le_refl _)).1
  have hsz2 := hw.size
  have := rfam_fn (toN cards) (cs.map toN) v.toNat ps hw.cok hw.rok (by rw [toN_length]; omega) (by rw [List.length_map]; exact hw.len) (by omega) (by rw [toN_length]; omega)
  rwa [← hw.eq, Int.toNat_of_nonneg m1] at this

structure DatOk (cards : List Int) (cs : List (List Int)) : Prop where
  c6 : cards.length ≤ 6
  s41 : cs.length ≤ 41
  r6 : ∀ c ∈ cs, c.length ≤ 6
abbrev y3 (c0 : List Int) (s0 : List (List Int)) (c1 : List Int) (s1 : List (List Int)) (c2 : List Int) (s2 : List (List Int)) : V := .agg [sl c0, gC s0, sl c1, gC s1, sl c2, gC s2]
theorem pick35 {c0 c1 c2 : List Int} {s0 s1 s2 : List (List Int)} (h0 : DatOk c0 s0) (h1 : DatOk c1 s1) (h2 : DatOk c2 s2) (m : Nat) (hm : m < 3) : ∃ c s, DatOk c s ∧ idxV (ctxOf Pg) 35 (y3 c0 s0 c1 s1 c2 s2) (m : Int) = some (gV c s) := by
  have : m = 0 ∨ m = 1 ∨ m = 2 := by omega
  rcases this with rfl | rfl | rfl
  · exact ⟨c0, s0, h0, by kernel_rfl⟩
  · exact ⟨c1, s1, h1, by kernel_rfl⟩
  · exact ⟨c2, s2, h2, by kernel_rfl⟩

end Go.Proofs.YtglpoiaedkoecaaDoor.Am
