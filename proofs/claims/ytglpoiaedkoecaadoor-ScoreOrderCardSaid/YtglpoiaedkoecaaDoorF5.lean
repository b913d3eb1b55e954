/- Chapter 25: the graph of a plan. -/
import Derived.Test.YtglpoiaedkoecaaDoorF4
namespace Go.Proofs.YtglpoiaedkoecaaDoor.Am
open Go.RowKit
set_option linter.unusedVariables false
set_option maxHeartbeats 1000000
set_option maxRecDepth 100000

theorem ut_length (l : List Nat) : (ut l).length = l.length := by simp [ut]
theorem lay_ut {l : List Nat} {j x : Nat} (h : j < l.length) : layE (0 + j * 1) (ut l) [u6 (x : Int)] = some (ut (l.set j x)) := by
  have hl := ut_length l
  rw [Nat.zero_add, Nat.mul_one, layE_eq', hl]
  have : Nat.ble (j + [u6 (x : Int)].length) l.length = true := Nat.ble_eq_true_of_le (by simp; omega)
  rw [this, cond_true]
  congr 1
  rw [List.set_eq_take_append_cons_drop, if_pos h]
  simp [ut, List.map_take, List.map_drop]
theorem rep_ut (n x : Nat) : rep n [u6 (x : Int)] = ut (List.replicate n x) := by
  induction n with
  | zero => rfl
  | succ n ih => rw [rep, ih, List.replicate_succ]; rfl
theorem head_ut0 {l : List Nat} {k : Nat} (h : k < l.length) : headF (dropF (0 + k * 1) (ut l)) = some (u6 ((l.getD k 0 : Nat) : Int)) := by
  rw [dropF_eq, Nat.zero_add]; exact head_ut h
theorem head_nt0 {l : List Nat} {k : Nat} (h : k < l.length) : headF (dropF (0 + k * 1) (nt l)) = some (i6 ((l.getD k 0 : Nat) : Int)) := by
  rw [dropF_eq, Nat.zero_add]; exact head_nt h
theorem S64.set {l : List Nat} (h : S64 l) {j x : Nat} (hx : x < 18446744073709551616) : S64 (l.set j x) := fun y hy => by
  rcases List.mem_or_eq_of_mem_set hy with h1 | h1
  · exact h y h1
  · subst h1; exact hx

/-! ### edges -/
def edge (L : List Nat) (E a b bit : Nat) (G : List Nat) : List Nat := if E / 2 ^ bit % 2 = 1 then G.set (L.getD a 0) (G.getD (L.getD a 0) 0 ||| 2 ^ L.getD b 0) else G
def edgeR (L : List Nat) (E a bit : Nat) : Nat → List Nat → List Nat
  | 0, G => G
  | b + 1, G => edge L E a b (bit + b) (edgeR L E a bit b G)
def bitA : Nat → Nat
  | 0 => 0
  | a + 1 => bitA a + a
def edgeA (L : List Nat) (E n : Nat) : Nat → List Nat
  | 0 => List.replicate n 0
  | a + 1 => edgeR L E a (bitA a) a (edgeA L E n a)
structure GrOk (n : Nat) (G : List Nat) : Prop where
  len : G.length = n
  u : S64 G
theorem edge_ok {L : List Nat} {E a b bit n : Nat} {G : List Nat} (hL : Bnd 6 L) (h : GrOk n G) : GrOk n (edge L E a b bit G) := by
  unfold edge
  split
  · refine ⟨by rw [List.length_set]; exact h.len, h.u.set ?_⟩
    have := hL b
    exact (@or_u (ctxOf Pg) 28 _ _ (h.u.get _) (@shl1_u (ctxOf Pg) 28 (L.getD b 0) (by omega)).2).2
  · exact h
theorem edgeR_ok {L : List Nat} {E a bit n : Nat} {G : List Nat} (hL : Bnd 6 L) (h : GrOk n G) : ∀ b, GrOk n (edgeR L E a bit b G)
  | 0 => h
  | b + 1 => edge_ok hL (edgeR_ok hL h b)
theorem edgeA_ok {L : List Nat} {E n : Nat} (hL : Bnd 6 L) : ∀ a, GrOk n (edgeA L E n a)
  | 0 => ⟨by simp [edgeA], fun x hx => by rw [(List.mem_replicate.1 hx).2]; decide⟩
  | a + 1 => edgeR_ok hL (edgeA_ok hL a) a

section
variable (N : Nat) (o : Nat → Nat) (E n : Nat) (L : List Nat)
abbrev paS (bit a : Nat) (G : List Nat) : SL := { sl := [(2, .ptr 0 0), (5, i6 n), (6, .sl 1 0 n none), (10, .sl 2 0 n (some (n - n))), (11, i6 bit), (12, i6 a)], os := [poO N o E, .row 3 (some 1) (nt L), .row 28 none (ut G)] }
abbrev paX (G : List Nat) : SL := { sl := [(10, .sl 0 0 n (some (n - n)))], os := [.row 28 none (ut G)] }
abbrev pbS (bit a b : Nat) (G : List Nat) : SL := { sl := [(2, .ptr 0 0), (5, i6 n), (6, .sl 1 0 n none), (10, .sl 2 0 n (some (n - n))), (11, i6 bit), (12, i6 a), (13, i6 b)], os := [poO N o E, .row 3 (some 1) (nt L), .row 28 none (ut G)] }
end
theorem pl_row (N : Nat) (o : Nat → Nat) (E n : Nat) (L : List Nat) (hE : E < 65536) (hn : n ≤ 6) (hl : L.length = n) (hL : Bnd n L) (bit a : Nat) (ha : a < n) (hb : bit + a ≤ 16) (G F : List Nat) (hG : GrOk n G) (hF : F = edgeR L E a bit a G) (bit2 : Nat) (hb2 : bit2 = bit + a) :
    Sat Pg none 0 (at' 26 [1, 1, 1, 1, 1, 1, 0, 1, 0, 0, 1, 0, 0, 1, 0]) (mkSt g0 94 (pbS N o E n L bit a 0 G)) (outsP g0 94 [(True, .exit 6, paS N o E n L bit2 a F)]) := by
  refine loopC vE_ok mixed sp0_ok (b := at' 26 [1, 1, 1, 1, 1, 1, 0, 1, 0, 0, 1, 0, 0, 1, 0, 0]) (by kernel_rfl) (fun q : Nat × Nat × List Nat => q.1 ≤ a ∧ q.2.1 = bit + q.1 ∧ q.2.2 = edgeR L E a bit q.1 G) (fun q => pbS N o E n L q.2.1 a q.1 q.2.2) (fun q => a - q.1) (fun q hq => ?_) (0, bit, G) ⟨Nat.zero_le _, rfl, rfl⟩
  obtain ⟨b, t, H⟩ := q
  obtain ⟨hq, ht, hH⟩ := hq
  dsimp only at hq ht hH
  have hok : GrOk n H := by rw [hH]; exact edgeR_ok (fun k => Nat.lt_of_lt_of_le (hL k) hn) hG b
  by_cases hlt : b < a
  · have s1 := @shr_16 (ctxOf Pg) 49 E t (by omega)
    have s2 := @and1_16 (ctxOf Pg) 49 (E / 2 ^ t)
    have hnext : edge L E a b t H = edgeR L E a bit (b + 1) G := by rw [hH, ht]; rfl
    unfold edge at hnext
    by_cases hc : E / 2 ^ t % 2 = 1
    · rw [if_pos hc] at hnext
      rw [hc] at s2
      generalize E / 2 ^ t = z at *
      have hla := hL a
      have hlb := hL b
      have h1 := @head_nt0 L a (by omega)
      have h2 := @head_nt0 L b (by omega)
      generalize L.getD a 0 = x at *
      generalize L.getD b 0 = y at *
      have hHl := hok.len
      have h3 := @head_ut0 H x (by omega)
      obtain ⟨p1, p2⟩ := @shl1_u (ctxOf Pg) 28 y (by omega)
      obtain ⟨p3, p4⟩ := @or_u (ctxOf Pg) 28 (H.getD x 0) (2 ^ y) (hok.u.get _) p2
      have h4 := @lay_ut H x (H.getD x 0 ||| 2 ^ y) (by omega)
      have hul := ut_length H
      have hnl := nt_length L
      generalize H.getD x 0 ||| 2 ^ y = w at *
      generalize H.getD x 0 = c at *
      generalize 2 ^ y = d at *
      refine .inl ⟨(b + 1, t + 1, H.set x w), [0, 1, 2], [yes 63, va 69 (v16 (z : Nat)), va 70 (v16 (1 : Nat)), yes 71, pl 75, ld 76 (i6 x), pl 80, ld 81 (i6 x), pl 82, ld 83 (u6 c), pl 86, ld 87 (i6 y), va 88 (u6 d), va 89 (u6 w), pl 90, st (ut (H.set x w)), nu 92 (t + 1 : Nat), nu 65 (b + 1 : Nat)], 1000, ⟨hlt, by dsimp only; omega, hnext⟩, by dsimp only; omega, ?_⟩
      clear hnext hH hF
      refine Eq.mp (by kernel_rfl : (decide ((↑b : Int) < (↑a : Int)) = true ∧ binV (ctxOf Tryd.prog) BinOp.shr 49 (v16 (↑E : Int)) (i6 (↑t : Int)) = some (v16 (↑z : Int)) ∧ binV (ctxOf Tryd.prog) BinOp.and 49 (v16 (↑z : Int)) (V.int IntKind.u16 (1 : Int)) = some (v16 (↑(1 : Nat) : Int)) ∧ ((↑(1 : Nat) : Int) == (1 : Int)) = true ∧ ((0 : Int) ≤ (↑a : Int) ∧ (↑a : Int) < (↑n : Int)) ∧ headF (dropF (0 + a * 1) (nt L)) = some (i6 (↑x : Int)) ∧ ((0 : Int) ≤ (↑a : Int) ∧ (↑a : Int) < (↑n : Int)) ∧ headF (dropF (0 + a * 1) (nt L)) = some (i6 (↑x : Int)) ∧ ((0 : Int) ≤ (↑x : Int) ∧ (↑x : Int) < (↑n : Int)) ∧ headF (dropF (0 + x * 1) (ut H)) = some (u6 (↑c : Int)) ∧ ((0 : Int) ≤ (↑b : Int) ∧ (↑b : Int) < (↑n : Int)) ∧ headF (dropF (0 + b * 1) (nt L)) = some (i6 (↑y : Int)) ∧ binV (ctxOf Tryd.prog) BinOp.shl 28 (V.int IntKind.u64 (1 : Int)) (i6 (↑y : Int)) = some (u6 (↑d : Int)) ∧ binV (ctxOf Tryd.prog) BinOp.or 28 (u6 (↑c : Int)) (u6 (↑d : Int)) = some (u6 (↑w : Int)) ∧ ((0 : Int) ≤ (↑x : Int) ∧ (↑x : Int) < (↑n : Int)) ∧ layE (0 + x * 1) (ut H) [u6 (↑w : Int)] = some (ut (List.set H x w)) ∧ wr IntKind.i64 ((↑t : Int) + (1 : Int)) = (↑(t + 1) : Int) ∧ wr IntKind.i64 ((↑b : Int) + (1 : Int)) = (↑(b + 1) : Int) ∧ (0 = 0 ∧ (↑n : Int) = (↑n : Int) ∧ (0 = 0 ∧ n = n ∧ True) ∧ (0 = 0 ∧ n = n ∧ n - n = n - n) ∧ (↑(t + 1) : Int) = (↑(t + 1) : Int) ∧ (↑a : Int) = (↑a : Int) ∧ (↑(b + 1) : Int) = (↑(b + 1) : Int) ∧ True) ∧ (plL N o E = plL N o E ∧ True ∧ True ∧ True ∧ True ∧ True ∧ True ∧ True ∧ True ∧ True) ∧ (nt L = nt L ∧ HfL (nt L)) ∧ (ut (List.set H x w) = ut (List.set H x w) ∧ HfL (ut (List.set H x w))) ∧ True) = _) ?_
      exact au
    · rw [if_neg hc] at hnext
      have hc0 : E / 2 ^ t % 2 = 0 := by omega
      rw [hc0] at s2
      generalize E / 2 ^ t = z at *
      refine .inl ⟨(b + 1, t + 1, H), [0, 1, 2], [yes 63, va 69 (v16 (z : Nat)), va 70 (v16 (0 : Nat)), no 71, nu 92 (t + 1 : Nat), nu 65 (b + 1 : Nat)], 1000, ⟨hlt, by dsimp only; omega, hnext⟩, by dsimp only; omega, ?_⟩
      clear hnext hH hF
      refine Eq.mp (by kernel_rfl : (decide ((↑b : Int) < (↑a : Int)) = true ∧ binV (ctxOf Tryd.prog) BinOp.shr 49 (v16 (↑E : Int)) (i6 (↑t : Int)) = some (v16 (↑z : Int)) ∧ binV (ctxOf Tryd.prog) BinOp.and 49 (v16 (↑z : Int)) (V.int IntKind.u16 (1 : Int)) = some (v16 (↑(0 : Nat) : Int)) ∧ ((↑(0 : Nat) : Int) == (1 : Int)) = false ∧ wr IntKind.i64 ((↑t : Int) + (1 : Int)) = (↑(t + 1) : Int) ∧ wr IntKind.i64 ((↑b : Int) + (1 : Int)) = (↑(b + 1) : Int) ∧ (0 = 0 ∧ (↑n : Int) = (↑n : Int) ∧ (0 = 0 ∧ n = n ∧ True) ∧ (0 = 0 ∧ n = n ∧ n - n = n - n) ∧ (↑(t + 1) : Int) = (↑(t + 1) : Int) ∧ (↑a : Int) = (↑a : Int) ∧ (↑(b + 1) : Int) = (↑(b + 1) : Int) ∧ True) ∧ (plL N o E = plL N o E ∧ True ∧ True ∧ True ∧ True ∧ True ∧ True ∧ True ∧ True ∧ True) ∧ (nt L = nt L ∧ HfL (nt L)) ∧ (ut H = ut H ∧ HfL (ut H)) ∧ True) = _) ?_
      exact au
  · have : b = a := by omega
    subst this
    obtain rfl : H = F := hH.trans hF.symm
    obtain rfl : t = bit2 := ht.trans hb2.symm
    refine .inr ⟨.exit 6, [0, 1, 2], paS N o E n L t b H, [no 63], 1000, .inl ⟨trivial, rfl, rfl⟩, ?_⟩
    clear hH hF
    refine Eq.mp (by kernel_rfl : (decide ((↑b : Int) < (↑b : Int)) = false ∧ (0 = 0 ∧ (↑n : Int) = (↑n : Int) ∧ (0 = 0 ∧ n = n ∧ True) ∧ (0 = 0 ∧ n = n ∧ n - n = n - n) ∧ (↑t : Int) = (↑t : Int) ∧ (↑b : Int) = (↑b : Int) ∧ True) ∧ (plL N o E = plL N o E ∧ True ∧ True ∧ True ∧ True ∧ True ∧ True ∧ True ∧ True ∧ True) ∧ (nt L = nt L ∧ HfL (nt L)) ∧ (ut H = ut H ∧ HfL (ut H)) ∧ True) = _) ?_
    exact au
theorem bitA_le : ∀ a, a ≤ 6 → bitA a ≤ 15 := by decide
theorem bitA_add : ∀ a, a < 6 → bitA a + a ≤ 16 := by decide
theorem pl_rows (N : Nat) (o : Nat → Nat) (E n : Nat) (L : List Nat) (hE : E < 65536) (hn : n ≤ 6) (h1 : 1 ≤ n) (hl : L.length = n) (hL : Bnd n L) :
    Sat Pg none 0 (at' 26 [1, 1, 1, 1, 1, 1, 0, 1, 0]) (mkSt g0 94 (paS N o E n L 0 1 (List.replicate n 0))) (outsP g0 94 [(True, .exit 4, paX n (edgeA L E n n))]) := by
  refine loopC vE_ok mixed sp0_ok (b := at' 26 [1, 1, 1, 1, 1, 1, 0, 1, 0, 0]) (by kernel_rfl) (fun q : Nat × Nat × List Nat => q.1 ≤ n ∧ q.2.1 = bitA q.1 ∧ q.2.2 = edgeA L E n q.1) (fun q => paS N o E n L q.2.1 q.1 q.2.2) (fun q => n - q.1) (fun q hq => ?_) (1, 0, List.replicate n 0) ⟨h1, rfl, rfl⟩
  obtain ⟨a, t, G⟩ := q
  obtain ⟨hq, ht, hG⟩ := hq
  dsimp only at hq ht hG
  by_cases hlt : a < n
  · have hok : GrOk n G := by rw [hG]; exact edgeA_ok (fun k => Nat.lt_of_lt_of_le (hL k) hn) a
    have hin := pl_row N o E n L hE hn hl hL t a hlt (by rw [ht]; exact bitA_add a (by omega)) G _ hok rfl _ rfl
    have hnext : edgeR L E a t a G = edgeA L E n (a + 1) := by rw [hG, ht]; rfl
    have ht2 : t + a = bitA (a + 1) := by rw [ht]; rfl
    generalize edgeR L E a t a G = F at *
    generalize t + a = t2 at *
    refine .inl ⟨(a + 1, t2, F), [0, 1, 2], [yes 58, (0, .loop [0, 1, 2] (pbS N o E n L t a 0 G) [(True, .exit 6, paS N o E n L t2 a F)]), nu 60 (a + 1 : Nat)], 1000, ⟨hlt, ht2, hnext⟩, by dsimp only; omega, ?_⟩
    clear hnext ht2 hG ht
    refine Eq.mp (by kernel_rfl : (decide ((↑a : Int) < (↑n : Int)) = true ∧ ((0 = 0 ∧ (↑n : Int) = (↑n : Int) ∧ (0 = 0 ∧ n = n ∧ True) ∧ (0 = 0 ∧ n = n ∧ n - n = n - n) ∧ (↑t : Int) = (↑t : Int) ∧ (↑a : Int) = (↑a : Int) ∧ (↑(0 : Nat) : Int) = (0 : Int) ∧ True) ∧ (plL N o E = plL N o E ∧ True ∧ True ∧ True ∧ True ∧ True ∧ True ∧ True ∧ True ∧ True) ∧ (nt L = nt L ∧ HfL (nt L)) ∧ (ut G = ut G ∧ HfL (ut G)) ∧ True) ∧ Sat Tryd.prog none 0 (at' 26 [1, 1, 1, 1, 1, 1, 0, 1, 0, 0, 1, 0, 0, 1, 0]) (mkSt g0 94 (pbS N o E n L t a 0 G)) (outsP g0 94 [(True, Ex.exit 6, paS N o E n L t2 a F)]) ∧ (True → wr IntKind.i64 ((↑a : Int) + (1 : Int)) = (↑(a + 1) : Int) ∧ (0 = 0 ∧ (↑n : Int) = (↑n : Int) ∧ (0 = 0 ∧ n = n ∧ True) ∧ (0 = 0 ∧ n = n ∧ n - n = n - n) ∧ (↑t2 : Int) = (↑t2 : Int) ∧ (↑(a + 1) : Int) = (↑(a + 1) : Int) ∧ True) ∧ (plL N o E = plL N o E ∧ True ∧ True ∧ True ∧ True ∧ True ∧ True ∧ True ∧ True ∧ True) ∧ (nt L = nt L ∧ HfL (nt L)) ∧ (ut F = ut F ∧ HfL (ut F)) ∧ True) ∧ True) = _) ?_
    exact au
  · have : a = n := by omega
    subst this
    rw [← hG]
    refine .inr ⟨.exit 4, [2], paX a G, [no 58], 1000, .inl ⟨trivial, rfl, rfl⟩, ?_⟩
    clear hG ht
    refine Eq.mp (by kernel_rfl : (decide ((↑a : Int) < (↑a : Int)) = false ∧ ((0 = 0 ∧ a = a ∧ a - a = a - a) ∧ True) ∧ (ut G = ut G ∧ HfL (ut G)) ∧ True) = _) ?_
    exact au
/-- the graph of a plan -/
def graphP (N : Nat) (o : Nat → Nat) (E : Nat) : List Nat := edgeA (ordL (fun k => o k % (k + 1)) (N % 6 + 1)) E (N % 6 + 1) (N % 6 + 1)
theorem plan_fnG (N : Nat) (o : Nat → Nat) (E : Nat) (hN : N < 256) (ho : ∀ k, k < 6 → o k < 256) (hE : E < 65536) : GrOk (N % 6 + 1) (graphP N o E) ∧ FnOk Pg g0 26 [.agg (plL N o E), i6 6] (ul (graphP N o E)) := by
  unfold graphP
  have hn : N % 6 < 6 := Nat.mod_lt _ (by omega)
  have hrem : binV (ctxOf Pg) .rem 3 (i6 (N : Nat)) (i6 6) = some (i6 (N % 6 : Nat)) := by
    rw [rem6 (by omega), show (6 : Int) = ((6 : Nat) : Int) from rfl, tmod_nat]
  generalize hn0 : N % 6 = n0 at *
  have l1 := pl_order N o E n0 hn ho _ rfl
  have hLl := ordL_len (fun k => o k % (k + 1)) (n0 + 1)
  have hLb := ordL_bnd (fun k => o k % (k + 1)) (show 0 < n0 + 1 by omega) (n0 + 1) (Nat.le_refl _)
  generalize ordL (fun k => o k % (k + 1)) (n0 + 1) = L at *
  obtain ⟨m, hm⟩ : ∃ m, m = n0 + 1 := ⟨_, rfl⟩
  have l1' : Sat Pg none 0 (at' 26 [1, 1, 1, 0, 1, 0]) (mkSt g0 94 (poS N o E m (0, []))) (outsP g0 94 [(True, .exit 0, poX N o E m L (n0 + 1))]) := by subst hm; exact l1
  clear l1
  rw [← hm] at hLl hLb ⊢
  have l2 := pl_rows N o E m L hE (by omega) (by omega) hLl hLb
  have hok := edgeA_ok (L := L) (E := E) (n := m) (fun k => Nat.lt_of_lt_of_le (hLb k) (by omega)) m
  have hrep := rep_ut m 0
  refine ⟨hok, ?_⟩
  have hGl := hok.len
  generalize edgeA L E m m = G at *
  generalize List.replicate m 0 = R at *
  refine FnOk.of_vc vE_ok mixed sp0_ok (n := 1000) (r := []) (S := { sl := [(4, ul G)] }) (hs := [nu 16 (N : Nat), va 18 (i6 n0), nu 19 (m : Nat), (0, .loop [0] (poS N o E m (0, [])) [(True, .exit 0, poX N o E m L (n0 + 1))]), mk 55, (0, .loop [0, 1, 2] (paS N o E m L 0 1 R) [(True, .exit 4, paX m G)])]) ?_
  refine Eq.mp (by kernel_rfl : (ul G = ul G ∧ wr IntKind.i64 (↑N : Int) = (↑N : Int) ∧ binV (ctxOf Tryd.prog) BinOp.rem 3 (V.int IntKind.i64 (↑N : Int)) (i6 (6 : Int)) = some (i6 (↑n0 : Int)) ∧ wr IntKind.i64 ((1 : Int) + (↑n0 : Int)) = (↑m : Int) ∧ ((0 = 0 ∧ (↑m : Int) = (↑m : Int) ∧ True ∧ (↑(0 : Nat) : Int) = (0 : Int) ∧ True) ∧ (plL N o E = [w8 (↑N : Int), w8 (↑(o 0) : Int), w8 (↑(o 1) : Int), w8 (↑(o 2) : Int), w8 (↑(o 3) : Int), w8 (↑(o 4) : Int), w8 (↑(o 5) : Int), v16 (↑E : Int)] ∧ True ∧ True ∧ True ∧ True ∧ True ∧ True ∧ True ∧ True ∧ True) ∧ True) ∧ Sat Tryd.prog none 0 (at' 26 [1, 1, 1, 0, 1, 0]) (mkSt g0 94 (poS N o E m (0, []))) (outsP g0 94 [(True, Ex.exit 0, poX N o E m L (n0 + 1))]) ∧ (True → ((0 : Int) ≤ (↑m : Int) ∧ (↑m : Int) ≤ (↑m : Int) ∧ (↑(8 : Nat) : Int) * (↑m : Int) ≤ (281474976710656 : Int) ∧ (↑m : Int) ≤ (9223372036854775807 : Int)) ∧ ((0 = 0 ∧ (↑m : Int) = (↑m : Int) ∧ (0 = 0 ∧ m = n0 + 1 ∧ True) ∧ (0 = 0 ∧ m = m ∧ m - m = m - m) ∧ (↑(0 : Nat) : Int) = (0 : Int) ∧ (↑(1 : Nat) : Int) = (1 : Int) ∧ True) ∧ (plL N o E = plL N o E ∧ True ∧ True ∧ True ∧ True ∧ True ∧ True ∧ True ∧ True ∧ True) ∧ (nt L = nt L ∧ HfL (nt L)) ∧ (ut R = rep m [V.int IntKind.u64 (0 : Int)] ∧ HfL (ut R)) ∧ True) ∧ Sat Tryd.prog none 0 (at' 26 [1, 1, 1, 1, 1, 1, 0, 1, 0]) (mkSt g0 94 (paS N o E m L 0 1 R)) (outsP g0 94 [(True, Ex.exit 4, paX m G)]) ∧ (True → ((List.length G = m ∧ ut G = ut G ∧ HfL (ut G)) ∧ True) ∧ True) ∧ True) ∧ True) = _) ?_
  exact au
theorem plan_fn (N : Nat) (o : Nat → Nat) (E : Nat) (hN : N < 256) (ho : ∀ k, k < 6 → o k < 256) (hE : E < 65536) : ∃ G, GrOk (N % 6 + 1) G ∧ FnOk Pg g0 26 [.agg (plL N o E), i6 6] (ul G) := ⟨_, plan_fnG N o E hN ho hE⟩

end Go.Proofs.YtglpoiaedkoecaaDoor.Am
