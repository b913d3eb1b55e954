/- Chapter 28: graphs as lists of sets: score.isGraph and the reference's Graph find the same. -/
import Derived.Test.YtglpoiaedkoecaaDoorE9
import Derived.Test.YtglpoiaedkoecaaDoorF0
namespace Go.Proofs.YtglpoiaedkoecaaDoor.Am
open Go.RowKit
set_option linter.unusedVariables false
set_option maxHeartbeats 1000000
set_option maxRecDepth 100000

/-! ### sets of 64 bits -/
theorem ofInt_nat (x : Nat) : BitVec.ofInt 64 (x : Int) = BitVec.ofNat 64 x := by
  apply BitVec.eq_of_toNat_eq
  rw [BitVec.toNat_ofInt, BitVec.toNat_ofNat]; omega
theorem wrapn {z : Nat} (h : z < 18446744073709551616) : IntKind.u64.wrap ((z : Nat) : Int) = (z : Int) := by
  rw [← wr_eq]; exact wr_in (by simp [lo]) (by simp [hi]; omega)
theorem or_u {G : Ctx} {t : Nat} {x y : Nat} (hx : x < 18446744073709551616) (hy : y < 18446744073709551616) : binV G .or t (u6 (x : Int)) (u6 (y : Int)) = some (u6 ((x ||| y : Nat) : Int)) ∧ x ||| y < 18446744073709551616 := by
  have hz : x ||| y < 2 ^ 64 := Nat.or_lt_two_pow hx hy
  refine ⟨?_, hz⟩
  have e : binV G .or t (u6 (x : Int)) (u6 (y : Int)) = some (.int .u64 (IntKind.u64.wrap ((BitVec.ofInt 64 (x : Int) ||| BitVec.ofInt 64 (y : Int)).toNat : Int))) := rfl
  have h : (BitVec.ofInt 64 (x : Int) ||| BitVec.ofInt 64 (y : Int)).toNat = x ||| y := by
    rw [ofInt_nat, ofInt_nat, BitVec.toNat_or, BitVec.toNat_ofNat, BitVec.toNat_ofNat, Nat.mod_eq_of_lt hx, Nat.mod_eq_of_lt hy]
  rw [e, h, wrapn hz]
theorem andnot_u {G : Ctx} {t : Nat} {x y : Nat} (hx : x < 18446744073709551616) (hy : y < 18446744073709551616) : ∃ z : Nat, binV G .andNot t (u6 (x : Int)) (u6 (y : Int)) = some (u6 (z : Int)) ∧ z < 18446744073709551616 ∧ (z = 0 ↔ ∀ b, x.testBit b = true → y.testBit b = true) := by
  have h : (BitVec.ofInt 64 (x : Int) &&& ~~~BitVec.ofInt 64 (y : Int)).toNat = x &&& (2 ^ 64 - (y + 1)) := by
    rw [ofInt_nat, ofInt_nat, BitVec.toNat_and, BitVec.toNat_not, BitVec.toNat_ofNat, BitVec.toNat_ofNat, Nat.mod_eq_of_lt hx, Nat.mod_eq_of_lt hy]
    congr 1; omega
  have hz : x &&& (2 ^ 64 - (y + 1)) < 2 ^ 64 := Nat.and_lt_two_pow _ (by omega)
  refine ⟨x &&& (2 ^ 64 - (y + 1)), ?_, hz, ?_⟩
  · have e : binV G .andNot t (u6 (x : Int)) (u6 (y : Int)) = some (.int .u64 (IntKind.u64.wrap ((BitVec.ofInt 64 (x : Int) &&& ~~~BitVec.ofInt 64 (y : Int)).toNat : Int))) := rfl
    rw [e, h, wrapn hz]
  · have hb : ∀ b, (x &&& (2 ^ 64 - (y + 1))).testBit b = (x.testBit b && !y.testBit b) := fun b => by
      rw [Nat.testBit_and, Nat.testBit_two_pow_sub_succ hy]
      by_cases hb : b < 64
      · simp [hb]
      · have : x.testBit b = false := Nat.testBit_lt_two_pow (Nat.lt_of_lt_of_le (show x < 2 ^ 64 from hx) (Nat.pow_le_pow_right (show 0 < 2 by omega) (show 64 ≤ b by omega)))
        simp [this]
    constructor
    · intro h0 b hxb
      have := hb b
      rw [h0, Nat.zero_testBit, hxb] at this
      simpa using this.symm
    · intro hall
      apply Nat.eq_of_testBit_eq
      intro b
      rw [hb, Nat.zero_testBit]
      cases hxb : x.testBit b with
      | false => rfl
      | true => rw [hall b hxb]; rfl
theorem shl1_u {G : Ctx} {t : Nat} {k : Nat} (hk : k < 64) : binV G .shl t (u6 1) (i6 (k : Int)) = some (u6 ((2 ^ k : Nat) : Int)) ∧ 2 ^ k < 18446744073709551616 := by
  have hp : 2 ^ k < 2 ^ 64 := Nat.pow_lt_pow_right (by omega) hk
  refine ⟨?_, hp⟩
  have e : binV G .shl t (u6 1) (i6 (k : Int)) = if (k : Int) < 0 then none else some (.int .u64 (wr .u64 (1 * ((2 ^ min ((k : Int).toNat) 64 : Nat) : Int)))) := rfl
  rw [e, if_neg (by omega), Int.toNat_natCast, show min k 64 = k by omega, Int.one_mul, wr_eq, wrapn hp]
theorem bit_div (x k : Nat) : x.testBit k = decide (x / 2 ^ k % 2 = 1) := Nat.testBit_eq_decide_div_mod_eq

/-- lists of sets -/
def ut (l : List Nat) : List V := l.map fun (x : Nat) => u6 (x : Int)
abbrev ul (l : List Nat) : V := .im l.length (ut l)
theorem head_ut {l : List Nat} {k : Nat} (h : k < l.length) : headF ((ut l).drop (k * 1)) = some (u6 ((l.getD k 0 : Nat) : Int)) := by
  unfold ut
  rw [List.getD_eq_getElem?_getD, List.getElem?_eq_getElem h]
  exact head_map (List.getElem?_eq_getElem h)
theorem HfL_ut (l : List Nat) : HfL (ut l) := HfL_map _ l (fun _ => trivial)
def S64 (l : List Nat) : Prop := ∀ x ∈ l, x < 18446744073709551616
theorem S64.get {l : List Nat} (h : S64 l) (k : Nat) : l.getD k 0 < 18446744073709551616 := by
  rw [List.getD_eq_getElem?_getD]
  cases hx : l[k]? with
  | none => decide
  | some x => exact h x (List.mem_of_getElem? hx)
def relL (l : List Nat) : GG.Rel := fun v p => (l.getD v 0).testBit p
def outL (l : List Nat) (n : Nat) : Nat → Bool := fun v => !decide (l.getD v 0 / 2 ^ n = 0)
theorem out_in {l : List Nat} {n v : Nat} (h : outL l n v = false) : ∀ p, relL l v p = true → p < n := by
  intro p hp
  unfold outL at h
  have h0 : l.getD v 0 / 2 ^ n = 0 := by simpa using h
  have hlt : l.getD v 0 < 2 ^ n := by
    rcases Nat.lt_or_ge (l.getD v 0) (2 ^ n) with h' | h'
    · exact h'
    · have := Nat.div_pos h' (Nat.two_pow_pos _); omega
  rcases Nat.lt_or_ge p n with h' | h'
  · exact h'
  · have : (l.getD v 0).testBit p = false := Nat.testBit_lt_two_pow (Nat.lt_of_lt_of_le hlt (Nat.pow_le_pow_right (by omega) h'))
    unfold relL at hp
    rw [this] at hp; cases hp
theorem in_out {l : List Nat} {n v : Nat} (h : ∀ p, relL l v p = true → p < n) : outL l n v = false := by
  unfold outL
  have hlt : l.getD v 0 < 2 ^ n := by
    refine Nat.lt_pow_two_of_testBit _ fun i hi => ?_
    cases hb : (l.getD v 0).testBit i with
    | false => rfl
    | true => have := h i hb; omega
  rw [Nat.div_eq_of_lt hlt]; rfl

/-! ### In -/
theorem in_set (s : Nat) (v : Nat) (hv : v < 64) : FnOk Pg g0 77 [u6 s, i6 v] (.bool (s.testBit v)) := by
  have s1 := @shr_u (ctxOf Pg) 28 s v (by omega)
  have s2 := @and1_u (ctxOf Pg) 28 (s / 2 ^ v)
  rw [bit_div]
  generalize s / 2 ^ v = b at *
  by_cases h : b % 2 = 1
  · rw [decide_eq_true h]
    rw [h] at s2
    refine FnOk.of_vc vE_ok mixed sp0_ok (n := 1000) (r := []) (S := { sl := [(4, .bool true)] }) (hs := [va 7 (u6 b), va 8 (u6 (1 : Nat)), yes 9]) ?_
    refine Eq.mp (by kernel_rfl : (V.bool true = V.bool true ∧ binV (ctxOf Tryd.prog) BinOp.shr 28 (u6 (↑s : Int)) (i6 (↑v : Int)) = some (u6 (↑b : Int)) ∧ binV (ctxOf Tryd.prog) BinOp.and 28 (u6 (↑b : Int)) (V.int IntKind.u64 (1 : Int)) = some (u6 (↑(1 : Nat) : Int)) ∧ ((↑(1 : Nat) : Int) == (1 : Int)) = true ∧ (true = true ∧ True) ∧ True) = _) ?_
    exact au
  · rw [decide_eq_false h]
    have h0 : b % 2 = 0 := by omega
    rw [h0] at s2
    refine FnOk.of_vc vE_ok mixed sp0_ok (n := 1000) (r := []) (S := { sl := [(4, .bool false)] }) (hs := [va 7 (u6 b), va 8 (u6 (0 : Nat)), no 9]) ?_
    refine Eq.mp (by kernel_rfl : (V.bool false = V.bool false ∧ binV (ctxOf Tryd.prog) BinOp.shr 28 (u6 (↑s : Int)) (i6 (↑v : Int)) = some (u6 (↑b : Int)) ∧ binV (ctxOf Tryd.prog) BinOp.and 28 (u6 (↑b : Int)) (V.int IntKind.u64 (1 : Int)) = some (u6 (↑(0 : Nat) : Int)) ∧ ((↑(0 : Nat) : Int) == (1 : Int)) = false ∧ (false = false ∧ True) ∧ True) = _) ?_
    exact au

/-! ### isGraph -/
abbrev igS (l : List Nat) (n : Nat) (t v P : Nat) : SL := { sl := [(0, ul l), (1, i6 n), (5, u6 P), (12, i6 n), (13, i6 t), (15, ul l), (16, i6 l.length), (17, i6 v)] }
abbrev igX (l : List Nat) (n : Nat) (t P : Nat) : SL := { sl := [(0, ul l), (1, i6 n), (5, u6 P), (12, i6 n), (13, i6 t)] }
/-- the bits of P are what has been placed -/
def Bits (P : Nat) (Q : Nat → Bool) : Prop := P < 18446744073709551616 ∧ ∀ u, P.testBit u = Q u
theorem ig_in (l : List Nat) (n : Nat) (hl : l.length = n) (hn : n ≤ 6) (h64 : S64 l) (t P : Nat) (Q : Nat → Bool) (hP : Bits P Q) (hQ : ∀ u, Q u = true → u < n) :
    Sat Pg none 0 (at' 78 [1, 1, 1, 0, 1, 0, 0, 1, 1, 0, 0, 1, 0]) (mkSt g0 37 (igS l n t 0 P)) (fun e st => ∃ S', st = mkSt g0 37 S' ∧ e = .exit 2 ∧ ∃ P', S' = igX l n t P' ∧ Bits P' (GG.pass n (relL l) (outL l n) Q n)) := by
  refine loopHG (b := at' 78 [1, 1, 1, 0, 1, 0, 0, 1, 1, 0, 0, 1, 0, 0]) (by kernel_rfl) (fun q : Nat × Nat => q.1 ≤ n ∧ Bits q.2 (GG.pass n (relL l) (outL l n) Q q.1) ∧ ∀ u, GG.pass n (relL l) (outL l n) Q q.1 u = true → u < n) (fun q => igS l n t q.1 q.2) (fun q => n - q.1) (fun e S' => e = .exit 2 ∧ ∃ P', S' = igX l n t P' ∧ Bits P' (GG.pass n (relL l) (outL l n) Q n)) (fun q G hq hN hX _ => ?_) (0, P) ⟨Nat.zero_le _, hP, hQ⟩
  obtain ⟨v, p⟩ := q
  obtain ⟨hv, ⟨hp, hb⟩, hlt⟩ := hq
  dsimp only at hv hp hb hlt hN
  by_cases hvn : v < n
  · have hld := @head_ut l v (by omega)
    have hs := h64.get v
    obtain ⟨z, hz1, hz2, hz3⟩ := @andnot_u (ctxOf Pg) 28 (l.getD v 0) p hs hp
    have hpass : ∀ u, GG.pass n (relL l) (outL l n) Q (v + 1) u = (p.testBit u || (decide (u = v) && (!outL l n v && (List.range n).all fun k => !relL l v k || p.testBit k))) := fun u => by
      show GG.place1 n (relL l) (outL l n) (GG.pass n (relL l) (outL l n) Q v) v u = _
      unfold GG.place1
      simp only [hb]
    have hcond : (∀ b, (l.getD v 0).testBit b = true → p.testBit b = true) ↔ (!outL l n v && (List.range n).all fun k => !relL l v k || p.testBit k) = true := by
      constructor
      · intro h
        have ho : outL l n v = false := in_out fun k hk => hlt k (by rw [← hb]; exact h k hk)
        rw [ho, Bool.not_false, Bool.true_and]
        refine GG.all_range.2 fun k _ => ?_
        cases hk : relL l v k with
        | false => rfl
        | true => rw [h k hk]; rfl
      · intro h b hbit
        rw [Bool.and_eq_true] at h
        have ho : outL l n v = false := by simpa using h.1
        have hbn := out_in ho b hbit
        have := GG.all_range.1 h.2 b hbn
        rw [show relL l v b = true from hbit] at this
        simpa using this
    generalize l.getD v 0 = s at *
    by_cases hz : z = 0
    · have hc := hcond.1 (hz3.1 hz)
      obtain ⟨s1, s2⟩ := @shl1_u (ctxOf Pg) 28 v (by omega)
      obtain ⟨o1, o2⟩ := @or_u (ctxOf Pg) 28 p (2 ^ v) hp s2
      have hnx := hN (v + 1, p ||| 2 ^ v) ⟨hvn, ⟨o2, fun u => by
        dsimp only
        rw [hpass, hc, Bool.and_true, Nat.testBit_or, Nat.testBit_two_pow]
        congr 1
        exact decide_eq_decide.2 eq_comm⟩, fun u hu => by
        dsimp only at hu
        rw [hpass] at hu
        simp only [Bool.or_eq_true, Bool.and_eq_true, decide_eq_true_eq] at hu
        rcases hu with hu | ⟨rfl, _⟩
        · exact hlt u (by rw [← hb]; exact hu)
        · exact hvn⟩ (by dsimp only; omega)
      rw [hz] at hz1
      generalize p ||| 2 ^ v = p2 at *
      generalize 2 ^ v = w at *
      refine ⟨[yes 18, pl 20, ld 21 (u6 s), va 24 (u6 (0 : Nat)), yes 25, va 28 (u6 w), va 29 (u6 p2), nu 30 (v + 1 : Nat), (0, .to [] (igS l n t (v + 1) p2))], 1000, ?_⟩
      clear hN hX hpass hcond hz3 hb hlt
      refine Eq.mp (by kernel_rfl : (decide ((↑v : Int) < (↑(List.length l) : Int)) = true ∧ ((0 : Int) ≤ (↑v : Int) ∧ (↑v : Int) < (↑(List.length l) : Int)) ∧ headF (List.drop (v * 1) (ut l)) = some (u6 (↑s : Int)) ∧ binV (ctxOf Tryd.prog) BinOp.andNot 28 (u6 (↑s : Int)) (u6 (↑p : Int)) = some (u6 (↑(0 : Nat) : Int)) ∧ ((↑(0 : Nat) : Int) == (0 : Int)) = true ∧ binV (ctxOf Tryd.prog) BinOp.shl 28 (V.int IntKind.u64 (1 : Int)) (i6 (↑v : Int)) = some (u6 (↑w : Int)) ∧ binV (ctxOf Tryd.prog) BinOp.or 28 (u6 (↑p : Int)) (u6 (↑w : Int)) = some (u6 (↑p2 : Int)) ∧ wr IntKind.i64 ((↑v : Int) + (1 : Int)) = (↑(v + 1) : Int) ∧ G Ex.normal (igS l n t (v + 1) p2) ∧ ((List.length l = List.length l ∧ ut l = ut l) ∧ (↑n : Int) = (↑n : Int) ∧ (↑p2 : Int) = (↑p2 : Int) ∧ (↑n : Int) = (↑n : Int) ∧ (↑t : Int) = (↑t : Int) ∧ (List.length l = List.length l ∧ ut l = ut l) ∧ (↑(List.length l) : Int) = (↑(List.length l) : Int) ∧ (↑(v + 1) : Int) = (↑(v + 1) : Int) ∧ True) ∧ True) = _) ?_
      exact au
    · have hc : (!outL l n v && (List.range n).all fun k => !relL l v k || p.testBit k) = false := by
        cases hcc : (!outL l n v && (List.range n).all fun k => !relL l v k || p.testBit k) with
        | false => rfl
        | true => exact absurd (hz3.2 (hcond.2 hcc)) hz
      have hnx := hN (v + 1, p) ⟨hvn, ⟨hp, fun u => by dsimp only; rw [hpass, hc, Bool.and_false, Bool.or_false]⟩, fun u hu => by
        dsimp only at hu
        rw [hpass, hc, Bool.and_false, Bool.or_false] at hu
        exact hlt u (by rw [← hb]; exact hu)⟩ (by dsimp only; omega)
      refine ⟨[yes 18, pl 20, ld 21 (u6 s), va 24 (u6 z), no 25, nu 30 (v + 1 : Nat), (0, .to [] (igS l n t (v + 1) p))], 1000, ?_⟩
      clear hN hX hpass hcond hz3 hb hlt hc
      refine Eq.mp (by kernel_rfl : (decide ((↑v : Int) < (↑(List.length l) : Int)) = true ∧ ((0 : Int) ≤ (↑v : Int) ∧ (↑v : Int) < (↑(List.length l) : Int)) ∧ headF (List.drop (v * 1) (ut l)) = some (u6 (↑s : Int)) ∧ binV (ctxOf Tryd.prog) BinOp.andNot 28 (u6 (↑s : Int)) (u6 (↑p : Int)) = some (u6 (↑z : Int)) ∧ ((↑z : Int) == (0 : Int)) = false ∧ wr IntKind.i64 ((↑v : Int) + (1 : Int)) = (↑(v + 1) : Int) ∧ G Ex.normal (igS l n t (v + 1) p) ∧ ((List.length l = List.length l ∧ ut l = ut l) ∧ (↑n : Int) = (↑n : Int) ∧ (↑p : Int) = (↑p : Int) ∧ (↑n : Int) = (↑n : Int) ∧ (↑t : Int) = (↑t : Int) ∧ (List.length l = List.length l ∧ ut l = ut l) ∧ (↑(List.length l) : Int) = (↑(List.length l) : Int) ∧ (↑(v + 1) : Int) = (↑(v + 1) : Int) ∧ True) ∧ True) = _) ?_
      exact au
  · have : v = n := by omega
    subst this
    have hx := hX 2 _ ⟨rfl, p, rfl, hp, hb⟩
    refine ⟨[no 18, (0, .to [] (igX l v t p))], 1000, ?_⟩
    clear hN hX hb hlt
    refine Eq.mp (by kernel_rfl : (decide ((↑v : Int) < (↑(List.length l) : Int)) = false ∧ G (Ex.exit 2) (igX l v t p) ∧ ((List.length l = List.length l ∧ ut l = ut l) ∧ (↑v : Int) = (↑v : Int) ∧ (↑p : Int) = (↑p : Int) ∧ (↑v : Int) = (↑v : Int) ∧ (↑t : Int) = (↑t : Int) ∧ True) ∧ True) = _) ?_
    exact au

end Go.Proofs.YtglpoiaedkoecaaDoor.Am
