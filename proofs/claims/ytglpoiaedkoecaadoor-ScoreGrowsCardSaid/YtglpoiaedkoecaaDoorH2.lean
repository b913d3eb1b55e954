/- ScoreGrows: sets of variables; the loops of the law. -/
import Derived.Test.YtglpoiaedkoecaaDoorH0
import Derived.Test.YtglpoiaedkoecaaDoorH1
import Derived.Test.YtglpoiaedkoecaaDoorF1
namespace Go.Proofs.YtglpoiaedkoecaaDoor.Am
open Go.RowKit
set_option linter.unusedVariables false
set_option maxHeartbeats 1000000
set_option maxRecDepth 100000

/-! ### sets -/
theorem wrap8 {z : Nat} (h : z < 256) : IntKind.u8.wrap ((z : Nat) : Int) = (z : Int) := by
  rw [← wr_eq]; exact wr_in (by simp [lo]) (by simp [hi]; omega)
theorem ofInt_8 (x : Nat) : BitVec.ofInt 8 (x : Int) = BitVec.ofNat 8 x := by
  apply BitVec.eq_of_toNat_eq
  rw [BitVec.toNat_ofInt, BitVec.toNat_ofNat]; omega
theorem andnot_8 {G : Ctx} {t : Nat} {x y : Nat} (hx : x < 256) (hy : y < 256) : ∃ z : Nat, binV G .andNot t (v8 (x : Int)) (v8 (y : Int)) = some (v8 (z : Int)) ∧ z < 256 ∧ ∀ b, z.testBit b = (x.testBit b && !y.testBit b) := by
  have h : (BitVec.ofInt 8 (x : Int) &&& ~~~BitVec.ofInt 8 (y : Int)).toNat = x &&& (2 ^ 8 - (y + 1)) := by
    rw [ofInt_8, ofInt_8, BitVec.toNat_and, BitVec.toNat_not, BitVec.toNat_ofNat, BitVec.toNat_ofNat, Nat.mod_eq_of_lt hx, Nat.mod_eq_of_lt hy]
    congr 1; omega
  have hz : x &&& (2 ^ 8 - (y + 1)) < 2 ^ 8 := Nat.and_lt_two_pow _ (by omega)
  refine ⟨x &&& (2 ^ 8 - (y + 1)), ?_, hz, fun b => ?_⟩
  · have e : binV G .andNot t (v8 (x : Int)) (v8 (y : Int)) = some (.int .u8 (IntKind.u8.wrap ((BitVec.ofInt 8 (x : Int) &&& ~~~BitVec.ofInt 8 (y : Int)).toNat : Int))) := rfl
    rw [e, h, wrap8 hz]
  · rw [Nat.testBit_and, Nat.testBit_two_pow_sub_succ hy]
    by_cases hb : b < 8
    · simp [hb]
    · have : x.testBit b = false := Nat.testBit_lt_two_pow (Nat.lt_of_lt_of_le (show x < 2 ^ 8 from hx) (Nat.pow_le_pow_right (show 0 < 2 by omega) (show 8 ≤ b by omega)))
      simp [this]
theorem shl1_8 {G : Ctx} {t : Nat} {k : Nat} (hk : k < 8) : binV G .shl t (v8 1) (i6 (k : Int)) = some (v8 ((2 ^ k : Nat) : Int)) ∧ 2 ^ k < 256 := by
  have hp : 2 ^ k < 2 ^ 8 := Nat.pow_lt_pow_right (by omega) hk
  refine ⟨?_, hp⟩
  have e : binV G .shl t (v8 1) (i6 (k : Int)) = if (k : Int) < 0 then none else some (.int .u8 (wr .u8 (1 * ((2 ^ min ((k : Int).toNat) 8 : Nat) : Int)))) := rfl
  rw [e, if_neg (by omega), Int.toNat_natCast, show min k 8 = k by omega, Int.one_mul, wr_eq, wrap8 hp]
/-- the set of a list -/
def orL (l : List Nat) : Nat := l.foldl (fun a k => a ||| 2 ^ k) 0
theorem orL_snoc (l : List Nat) (k : Nat) : orL (l ++ [k]) = orL l ||| 2 ^ k := by simp [orL, List.foldl_append]
theorem orL_bit (l : List Nat) (b : Nat) : (orL l).testBit b = decide (b ∈ l) := by
  have key : ∀ (l : List Nat) (a : Nat), (l.foldl (fun a k => a ||| 2 ^ k) a).testBit b = (a.testBit b || decide (b ∈ l)) := by
    intro l
    induction l with
    | nil => intro a; simp
    | cons k l ih =>
      intro a
      rw [List.foldl_cons, ih, Nat.testBit_or, Nat.testBit_two_pow, Bool.or_assoc]
      congr 1
      by_cases hk : k = b
      · subst hk; simp
      · have : b ≠ k := fun h => hk h.symm
        simp [hk, this]
  unfold orL
  rw [key]; simp
theorem orL_lt {l : List Nat} {n : Nat} (h : ∀ k ∈ l, k < n) : orL l < 2 ^ n := by
  refine Nat.lt_pow_two_of_testBit _ fun b hb => ?_
  rw [orL_bit]
  exact decide_eq_false fun hm => by have := h b hm; omega
theorem set_bits {n z own : Nat} (hz : z.testBit own = false) :
    orL (varsN n z) / 2 ^ n = 0 ∧ orL (varsN n z) / 2 ^ own % 2 = 0 ∧ ∀ k, k < n → (orL (varsN n z) / 2 ^ k % 2 = 1 ↔ k ∈ varsN n z) := by
  have h1 := orL_lt (l := varsN n z) (n := n) (fun k hk => varsN_lt hk)
  have hb := orL_bit (varsN n z)
  refine ⟨Nat.div_eq_of_lt h1, ?_, fun k hk => ?_⟩
  · have := hb own
    rw [bit_div] at this
    have hn : own ∉ varsN n z := fun hm => by
      have := (List.mem_filter.1 hm).2
      rw [← bit_div, hz] at this; cases this
    rw [decide_eq_false hn] at this
    have := of_decide_eq_false this
    omega
  · have := hb k
    rw [bit_div] at this
    rw [decide_eq_decide] at this
    exact this

/-! ### the loops -/
section
variable (C : List Int) (fo : Int) (M : List Int) (ks : List (Nat → Int)) (c : Nat → Int) (cards : List Int) (csV : V) (n own z : Nat) (vars : List Nat)
abbrev gwO : List O := [dfO C ks fo M, .row 92 none (five c), .row 32 none [sl cards, csV]]
/-- the set -/
abbrev g0S (q : Nat × Nat) : SL := { sl := [(4, .ptr 0 0), (7, .ptr 1 0), (9, .ptr 2 0), (10, i6 n), (11, i6 own), (12, nl vars), (13, u6 q.2), (61, nl vars), (62, i6 vars.length), (63, i6 q.1)], os := gwO C fo M ks c cards csV }
abbrev g0X (s : Nat) : SL := { sl := [(4, .ptr 0 0), (7, .ptr 1 0), (9, .ptr 2 0), (10, i6 n), (11, i6 own), (12, nl vars), (13, u6 s)], os := gwO C fo M ks c cards csV }
end
theorem hf_five (c : Nat → Int) : HfL (five c) := ⟨trivial, trivial, trivial, trivial, trivial, trivial⟩
theorem gw_set (C : List Int) (fo : Int) (M : List Int) (ks : List (Nat → Int)) (c : Nat → Int) (cards rows : List Int) (cs : List (List Int)) (csV : V) (hcs : csV = gC cs ∨ csV = .nils) (n own : Nat) (vars : List Nat) (hv : ∀ k ∈ vars, k < 5) (hvl : vars.length ≤ 5) :
    Sat Pg none 0 (at' 9 [1, 1, 1, 1, 1, 1, 1, 1, 0, 1, 0]) (mkSt g0 201 (g0S C fo M ks c cards csV n own vars (0, 0))) (outsP g0 201 [(True, .exit 0, g0X C fo M ks c cards csV n own vars (orL vars))]) := by
  refine loopC vE_ok mixed sp0_ok (b := at' 9 [1, 1, 1, 1, 1, 1, 1, 1, 0, 1, 0, 0]) (by kernel_rfl) (fun q => q.1 ≤ vars.length ∧ q.2 = orL (vars.take q.1)) (g0S C fo M ks c cards csV n own vars) (fun q => vars.length - q.1) (fun q hq => ?_) (0, 0) ⟨Nat.zero_le _, rfl⟩
  obtain ⟨t, s⟩ := q
  obtain ⟨ht, hs⟩ := hq
  dsimp only at ht hs
  have hf5 := hf_five c
  have hd := HfL_nt vars
  by_cases hlt : t < vars.length
  · have h1 := head_nt hlt
    have hm : vars.getD t 0 ∈ vars := by rw [List.getD_eq_getElem?_getD, List.getElem?_eq_getElem hlt]; exact List.getElem_mem hlt
    have h5 := hv _ hm
    have hnx : orL (vars.take (t + 1)) = s ||| 2 ^ vars.getD t 0 := by
      rw [List.take_succ_eq_append_getElem hlt, orL_snoc, ← hs, List.getD_eq_getElem?_getD, List.getElem?_eq_getElem hlt]; rfl
    generalize vars.getD t 0 = p at *
    obtain ⟨e1, b1⟩ := @shl1_u (ctxOf Pg) 28 p (by omega)
    have hsb : s < 18446744073709551616 := by
      have := orL_lt (l := vars.take t) (n := 5) (fun k hk => hv k (List.mem_of_mem_take hk))
      rw [← hs] at this; omega
    obtain ⟨e2, b2⟩ := @or_u (ctxOf Pg) 28 s (2 ^ p) hsb b1
    generalize hpp : 2 ^ p = pp at *
    generalize s ||| pp = s' at *
    rcases hcs with rfl | rfl
    · refine .inl ⟨(t + 1, s'), [0, 1, 2], [yes 64, pl 65, ld 66 (i6 p), va 69 (u6 pp), va 70 (u6 s'), nu 71 (t + 1 : Nat)], 1000, ⟨hlt, hnx.symm⟩, by dsimp only; omega, ?_⟩
      clear hs hnx
      refine Eq.mp (by kernel_rfl : (decide ((↑t : Int) < (↑(List.length vars) : Int)) = true ∧ ((0 : Int) ≤ (↑t : Int) ∧ (↑t : Int) < (↑(List.length vars) : Int)) ∧ headF (List.drop (t * 1) (nt vars)) = some (i6 (↑p : Int)) ∧ binV (ctxOf Tryd.prog) BinOp.shl 28 (V.int IntKind.u64 (1 : Int)) (i6 (↑p : Int)) = some (u6 (↑pp : Int)) ∧ binV (ctxOf Tryd.prog) BinOp.or 28 (u6 (↑s : Int)) (u6 (↑pp : Int)) = some (u6 (↑s' : Int)) ∧ wr IntKind.i64 ((↑t : Int) + (1 : Int)) = (↑(t + 1) : Int) ∧ (0 = 0 ∧ 0 = 0 ∧ 0 = 0 ∧ (↑n : Int) = (↑n : Int) ∧ (↑own : Int) = (↑own : Int) ∧ (List.length vars = List.length vars ∧ nt vars = nt vars) ∧ (↑s' : Int) = (↑s' : Int) ∧ (List.length vars = List.length vars ∧ nt vars = nt vars) ∧ (↑(List.length vars) : Int) = (↑(List.length vars) : Int) ∧ (↑(t + 1) : Int) = (↑(t + 1) : Int) ∧ True) ∧ (dfL C ks fo M = dfL C ks fo M ∧ True ∧ True ∧ True ∧ True ∧ True) ∧ (five c = five c ∧ True ∧ True ∧ True ∧ True ∧ True ∧ True) ∧ ([sl cards, gC cs] = [sl cards, gC cs] ∧ True ∧ True ∧ True) ∧ True) = _) ?_
      (repeat' (first | (with_reducible apply And.intro) | (refine fun (_ : True) => ?_))) <;> first | exact aq | skip
      all_goals skip
    · refine .inl ⟨(t + 1, s'), [0, 1, 2], [yes 64, pl 65, ld 66 (i6 p), va 69 (u6 pp), va 70 (u6 s'), nu 71 (t + 1 : Nat)], 1000, ⟨hlt, hnx.symm⟩, by dsimp only; omega, ?_⟩
      clear hs hnx
      refine Eq.mp (by kernel_rfl : (decide ((↑t : Int) < (↑(List.length vars) : Int)) = true ∧ ((0 : Int) ≤ (↑t : Int) ∧ (↑t : Int) < (↑(List.length vars) : Int)) ∧ headF (List.drop (t * 1) (nt vars)) = some (i6 (↑p : Int)) ∧ binV (ctxOf Tryd.prog) BinOp.shl 28 (V.int IntKind.u64 (1 : Int)) (i6 (↑p : Int)) = some (u6 (↑pp : Int)) ∧ binV (ctxOf Tryd.prog) BinOp.or 28 (u6 (↑s : Int)) (u6 (↑pp : Int)) = some (u6 (↑s' : Int)) ∧ wr IntKind.i64 ((↑t : Int) + (1 : Int)) = (↑(t + 1) : Int) ∧ (0 = 0 ∧ 0 = 0 ∧ 0 = 0 ∧ (↑n : Int) = (↑n : Int) ∧ (↑own : Int) = (↑own : Int) ∧ (List.length vars = List.length vars ∧ nt vars = nt vars) ∧ (↑s' : Int) = (↑s' : Int) ∧ (List.length vars = List.length vars ∧ nt vars = nt vars) ∧ (↑(List.length vars) : Int) = (↑(List.length vars) : Int) ∧ (↑(t + 1) : Int) = (↑(t + 1) : Int) ∧ True) ∧ (dfL C ks fo M = dfL C ks fo M ∧ True ∧ True ∧ True ∧ True ∧ True) ∧ (five c = five c ∧ True ∧ True ∧ True ∧ True ∧ True ∧ True) ∧ ([sl cards, V.nils] = [sl cards, V.nils] ∧ True ∧ True ∧ True) ∧ True) = _) ?_
      (repeat' (first | (with_reducible apply And.intro) | (refine fun (_ : True) => ?_))) <;> first | exact aq | skip
      all_goals skip
  · have : t = vars.length := by omega
    subst this
    rw [List.take_length] at hs
    rw [← hs]
    rcases hcs with rfl | rfl
    · refine .inr ⟨.exit 0, [0, 1, 2], g0X C fo M ks c cards (gC cs) n own vars s, [no 64], 1000, .inl ⟨trivial, rfl, rfl⟩, ?_⟩
      clear hs
      refine Eq.mp (by kernel_rfl : (decide ((↑(List.length vars) : Int) < (↑(List.length vars) : Int)) = false ∧ (0 = 0 ∧ 0 = 0 ∧ 0 = 0 ∧ (↑n : Int) = (↑n : Int) ∧ (↑own : Int) = (↑own : Int) ∧ (List.length vars = List.length vars ∧ nt vars = nt vars) ∧ (↑s : Int) = (↑s : Int) ∧ True) ∧ (dfL C ks fo M = dfL C ks fo M ∧ True ∧ True ∧ True ∧ True ∧ True) ∧ (five c = five c ∧ True ∧ True ∧ True ∧ True ∧ True ∧ True) ∧ ([sl cards, gC cs] = [sl cards, gC cs] ∧ True ∧ True ∧ True) ∧ True) = _) ?_
      (repeat' (first | (with_reducible apply And.intro) | (refine fun (_ : True) => ?_))) <;> first | exact aq | skip
      all_goals skip
    · refine .inr ⟨.exit 0, [0, 1, 2], g0X C fo M ks c cards .nils n own vars s, [no 64], 1000, .inl ⟨trivial, rfl, rfl⟩, ?_⟩
      clear hs
      refine Eq.mp (by kernel_rfl : (decide ((↑(List.length vars) : Int) < (↑(List.length vars) : Int)) = false ∧ (0 = 0 ∧ 0 = 0 ∧ 0 = 0 ∧ (↑n : Int) = (↑n : Int) ∧ (↑own : Int) = (↑own : Int) ∧ (List.length vars = List.length vars ∧ nt vars = nt vars) ∧ (↑s : Int) = (↑s : Int) ∧ True) ∧ (dfL C ks fo M = dfL C ks fo M ∧ True ∧ True ∧ True ∧ True ∧ True) ∧ (five c = five c ∧ True ∧ True ∧ True ∧ True ∧ True ∧ True) ∧ ([sl cards, V.nils] = [sl cards, V.nils] ∧ True ∧ True ∧ True) ∧ True) = _) ?_
      (repeat' (first | (with_reducible apply And.intro) | (refine fun (_ : True) => ?_))) <;> first | exact aq | skip
      all_goals skip
end Go.Proofs.YtglpoiaedkoecaaDoor.Am
