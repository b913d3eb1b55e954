/- Chapter 25: drafts of data: their cards, and their rows. -/
import Derived.Test.YtglpoiaedkoecaaDoorE8
namespace Go.Proofs.YtglpoiaedkoecaaDoor.Am
open Go.RowKit
set_option linter.unusedVariables false
set_option maxHeartbeats 1000000
set_option maxRecDepth 100000

abbrev w8 (n : Int) : V := .int .u8 n
abbrev sl8 (l : List Int) : V := .im l.length (l.map w8)
def u8s (l : List Int) : Prop := ∀ c ∈ l, 0 ≤ c ∧ c ≤ 255
theorem head_8 {l : List Int} {k : Nat} (h : k < l.length) : headF ((l.map w8).drop (k * 1)) = some (w8 (l.getD k 0)) := by
  rw [Nat.mul_one, ← List.map_drop, List.drop_eq_getElem_cons h, List.getD_eq_getElem?_getD, List.getElem?_eq_getElem h]; rfl
theorem getD_mem {l : List Int} {k : Nat} (h : k < l.length) : l.getD k 0 ∈ l := by rw [List.getD_eq_getElem?_getD, List.getElem?_eq_getElem h]; exact List.getElem_mem h
/-- cases of five octets -/
def five (f : Nat → Int) : List V := [w8 (f 0), w8 (f 1), w8 (f 2), w8 (f 3), w8 (f 4)]
def flatK : List (Nat → Int) → List V
  | [] => []
  | f :: l => five f ++ flatK l
abbrev kV (ks : List (Nat → Int)) : V := .im ks.length (flatK ks)
theorem flat_drop : ∀ (ks : List (Nat → Int)) (i : Nat) (f : Nat → Int), ks[i]? = some f → ∃ rest, (flatK ks).drop (i * 5) = five f ++ rest
  | [], i, f, h => by simp at h
  | g :: ks, 0, f, h => by
    obtain rfl : g = f := by simpa using h
    exact ⟨flatK ks, by simp [flatK]⟩
  | g :: ks, i + 1, f, h => by
    obtain ⟨rest, hr⟩ := flat_drop ks i f (by simpa using h)
    refine ⟨rest, ?_⟩
    rw [flatK, Nat.add_mul, Nat.one_mul, Nat.add_comm, ← List.drop_drop, List.drop_left' (by rfl), hr]
theorem lt5 {j : Nat} (h : j < 5) : j = 0 ∨ j = 1 ∨ j = 2 ∨ j = 3 ∨ j = 4 := by omega
theorem five_head (f : Nat → Int) (rest : List V) {j : Nat} (h : j < 5) : headF ((five f ++ rest).drop j) = some (w8 (f j)) := by
  rcases lt5 h with rfl | rfl | rfl | rfl | rfl <;> rfl
theorem place92 {l : List V} {j : Nat} (h : j < 5) : placeV (ctxOf Pg) 92 (.imp l) (j : Int) = some (.imp (l.drop j)) := by
  rcases lt5 h with rfl | rfl | rfl | rfl | rfl <;> kernel_rfl
structure KOk (ks : List (Nat → Int)) : Prop where
  bd : ∀ f ∈ ks, ∀ j, j < 5 → 0 ≤ f j ∧ f j ≤ 255

abbrev dfL (C : List Int) (ks : List (Nat → Int)) (fo : Int) (M : List Int) : List V := [sl8 C, kV ks, w8 fo, sl8 M]
abbrev dfV (C : List Int) (ks : List (Nat → Int)) (fo : Int) (M : List Int) : V := .agg (dfL C ks fo M)
abbrev dfO (C : List Int) (ks : List (Nat → Int)) (fo : Int) (M : List Int) : O := .row 25 none (dfL C ks fo M)

/-! ### cards -/
def cardF (c : Int) : Int := 2 + c % 2
theorem take_map_succ {C : List Int} {k : Nat} (h : k < C.length) (f : Int → Int) : (C.take (k + 1)).map f = (C.take k).map f ++ [f (C.getD k 0)] := by
  rw [List.take_succ_eq_append_getElem h, List.map_append, List.getD_eq_getElem?_getD, List.getElem?_eq_getElem h]; rfl
theorem ints_app (l : List Int) (x : Int) : ints (l ++ [x]) = ints l ++ [i6 x] := by simp [ints]
abbrev n2 : O := .row 32 none [.nils, .nils]
abbrev dcS (C : List Int) (ks : List (Nat → Int)) (fo : Int) (M : List Int) (k : Nat) : SL := { sl := [(1, .ptr 0 0), (2, .ptr 1 0), (3, .ptr 2 0), (4, i6 k)], os := dfO C ks fo M :: n2 :: .row 32 none [owV 3 k, .nils] :: owL 3 (ints ((C.take k).map cardF)) k, md := [0, 0, 1] }
abbrev dcX (C : List Int) (ks : List (Nat → Int)) (fo : Int) (M : List Int) (k : Nat) : SL := { sl := [(1, .ptr 0 0), (2, .ptr 1 0), (3, .ptr 2 0)], os := dfO C ks fo M :: n2 :: .row 32 none [owV 3 k, .nils] :: owL 3 (ints ((C.take k).map cardF)) k, md := [0, 0, 1] }
theorem dc_loop (C : List Int) (ks : List (Nat → Int)) (fo : Int) (M : List Int) (hC : u8s C) (n : Nat) (hn : n = min C.length 5) :
    Sat Pg none 0 (at' 19 [1, 1, 0, 1, 0]) (mkSt g0 139 (dcS C ks fo M 0)) (outsP g0 139 [(True, .exit 0, dcX C ks fo M n)]) := by
  refine loopC vE_ok mixed sp0_ok (b := at' 19 [1, 1, 0, 1, 0, 0]) (by kernel_rfl) (fun k => k ≤ n) (dcS C ks fo M) (fun k => n - k) (fun k hk => ?_) 0 (Nat.zero_le _)
  by_cases hlt : k < n
  · have h1 : k < C.length := by omega
    have hc := hC _ (getD_mem h1)
    have hld := head_8 h1
    have e1 : (C.getD k 0).tmod 2 = C.getD k 0 % 2 := Int.tmod_eq_emod_of_nonneg hc.1
    have hts := take_map_succ h1 cardF
    have e2 : cardF (C.getD k 0) = 2 + C.getD k 0 % 2 := rfl
    have hil := ints_length ((C.take k).map cardF)
    have hll : ((C.take k).map cardF).length = k := by rw [List.length_map, List.length_take]; omega
    rw [e2] at hts
    have hap := ints_app ((C.take k).map cardF) (2 + C.getD k 0 % 2)
    rw [← hts] at hap
    generalize C.getD k 0 = c at *
    cases k with
    | zero =>
      refine .inl ⟨1, [0, 1, 2, 4], [yes 15, yes 18, pl 27, ld 28 (w8 c), nu 29 (c % 2), nu 30 (c % 2), nu 31 (2 + c % 2), nu 21 1], 1000, hlt, by omega, ?_⟩
      refine Eq.mp (by kernel_rfl : (decide ((↑(0 : Nat) : Int) < (↑(List.length C) : Int)) = true ∧ decide ((↑(0 : Nat) : Int) < (5 : Int)) = true ∧ ((0 : Int) ≤ (↑(0 : Nat) : Int) ∧ (↑(0 : Nat) : Int) < (↑(List.length C) : Int)) ∧ headF (List.drop (0 * 1) (List.map w8 C)) = some (w8 c) ∧ Int.tmod c (2 : Int) = c % (2 : Int) ∧ wr IntKind.i64 (c % (2 : Int)) = c % (2 : Int) ∧ wr IntKind.i64 ((2 : Int) + c % (2 : Int)) = (2 : Int) + c % (2 : Int) ∧ wr IntKind.i64 ((↑(0 : Nat) : Int) + (1 : Int)) = (1 : Int) ∧ (0 = 0 ∧ 0 = 0 ∧ 0 = 0 ∧ (↑(1 : Nat) : Int) = (1 : Int) ∧ True) ∧ (dfL C ks fo M = dfL C ks fo M ∧ True ∧ True ∧ True ∧ True ∧ True) ∧ ([V.nils, V.nils] = [V.nils, V.nils] ∧ True ∧ True ∧ True) ∧ ((0 = 0 ∧ 0 + 1 = 1 ∧ True) ∧ True ∧ True) ∧ (ints (List.map cardF (List.take 1 C)) = [V.int IntKind.i64 ((2 : Int) + c % (2 : Int))] ∧ HfL (ints (List.map cardF (List.take 1 C)))) ∧ True) = _) ?_
      (repeat' (first | (with_reducible apply And.intro) | (refine fun (_ : True) => ?_))) <;> first | exact aq | skip
      all_goals first | rfl | exact hap | (rw [hap]; rfl)
    | succ k =>
      refine .inl ⟨k + 1 + 1, [0, 1, 2, 5], [yes 15, yes 18, pl 27, ld 28 (w8 c), nu 29 (c % 2), nu 30 (c % 2), nu 31 (2 + c % 2), ap 33, nu 21 (k + 1 + 1 : Nat)], 1000, hlt, by omega, ?_⟩
      refine Eq.mp (by kernel_rfl : (decide ((↑(k + 1) : Int) < (↑(List.length C) : Int)) = true ∧ decide ((↑(k + 1) : Int) < (5 : Int)) = true ∧ ((0 : Int) ≤ (↑(k + 1) : Int) ∧ (↑(k + 1) : Int) < (↑(List.length C) : Int)) ∧ headF (List.drop ((k + 1) * 1) (List.map w8 C)) = some (w8 c) ∧ Int.tmod c (2 : Int) = c % (2 : Int) ∧ wr IntKind.i64 (c % (2 : Int)) = c % (2 : Int) ∧ wr IntKind.i64 ((2 : Int) + c % (2 : Int)) = (2 : Int) + c % (2 : Int) ∧ List.length (ints (List.map cardF (List.take (k + 1) C))) = (k + 1) * 1 ∧ k + 1 + 1 ≤ 9223372036854775807 ∧ (k + 1 + 1) * 8 ≤ 140737488355328 ∧ wr IntKind.i64 ((↑(k + 1) : Int) + (1 : Int)) = (↑(k + 1 + 1) : Int) ∧ (0 = 0 ∧ 0 = 0 ∧ 0 = 0 ∧ (↑(k + 1 + 1) : Int) = (↑(k + 1 + 1) : Int) ∧ True) ∧ (dfL C ks fo M = dfL C ks fo M ∧ True ∧ True ∧ True ∧ True ∧ True) ∧ ([V.nils, V.nils] = [V.nils, V.nils] ∧ True ∧ True ∧ True) ∧ ((0 = 0 ∧ Nat.succ k + 1 = k + 1 + 1 ∧ True) ∧ True ∧ True) ∧ (ints (List.map cardF (List.take (k + 1 + 1) C)) = ints (List.map cardF (List.take (k + 1) C)) ++ [V.int IntKind.i64 ((2 : Int) + c % (2 : Int))] ∧ HfL (ints (List.map cardF (List.take (k + 1 + 1) C)))) ∧ True) = _) ?_
      exact au
  · have : k = n := by omega
    subst this
    by_cases h5 : k < C.length
    · cases k with
      | zero => omega
      | succ k =>
        refine .inr ⟨.exit 0, [0, 1, 2, 3], dcX C ks fo M (k + 1), [yes 15, no 18], 1000, .inl ⟨trivial, rfl, rfl⟩, ?_⟩
        refine Eq.mp (by kernel_rfl : (decide ((↑(k + 1) : Int) < (↑(List.length C) : Int)) = true ∧ decide ((↑(k + 1) : Int) < (5 : Int)) = false ∧ (0 = 0 ∧ 0 = 0 ∧ 0 = 0 ∧ True) ∧ (dfL C ks fo M = dfL C ks fo M ∧ True ∧ True ∧ True ∧ True ∧ True) ∧ ([V.nils, V.nils] = [V.nils, V.nils] ∧ True ∧ True ∧ True) ∧ ((0 = 0 ∧ k + 1 = k + 1 ∧ True) ∧ True ∧ True) ∧ (ints (List.map cardF (List.take (k + 1) C)) = ints (List.map cardF (List.take (k + 1) C)) ∧ HfL (ints (List.map cardF (List.take (k + 1) C)))) ∧ True) = _) ?_
        exact au
    · cases k with
      | zero =>
        refine .inr ⟨.exit 0, [0, 1, 2], dcX C ks fo M 0, [no 15], 1000, .inl ⟨trivial, rfl, rfl⟩, ?_⟩
        refine Eq.mp (by kernel_rfl : (decide ((↑(0 : Nat) : Int) < (↑(List.length C) : Int)) = false ∧ (0 = 0 ∧ 0 = 0 ∧ 0 = 0 ∧ True) ∧ (dfL C ks fo M = dfL C ks fo M ∧ True ∧ True ∧ True ∧ True ∧ True) ∧ ([V.nils, V.nils] = [V.nils, V.nils] ∧ True ∧ True ∧ True) ∧ (True ∧ True ∧ True) ∧ True) = _) ?_
        exact au
      | succ k =>
        refine .inr ⟨.exit 0, [0, 1, 2, 3], dcX C ks fo M (k + 1), [no 15], 1000, .inl ⟨trivial, rfl, rfl⟩, ?_⟩
        refine Eq.mp (by kernel_rfl : (decide ((↑(k + 1) : Int) < (↑(List.length C) : Int)) = false ∧ (0 = 0 ∧ 0 = 0 ∧ 0 = 0 ∧ True) ∧ (dfL C ks fo M = dfL C ks fo M ∧ True ∧ True ∧ True ∧ True ∧ True) ∧ ([V.nils, V.nils] = [V.nils, V.nils] ∧ True ∧ True ∧ True) ∧ ((0 = 0 ∧ k + 1 = k + 1 ∧ True) ∧ True ∧ True) ∧ (ints (List.map cardF (List.take (k + 1) C)) = ints (List.map cardF (List.take (k + 1) C)) ∧ HfL (ints (List.map cardF (List.take (k + 1) C)))) ∧ True) = _) ?_
        exact au

/-! ### one row, in memory that the kernel does not see -/
def stepD (x fo prev card : Int) (j : Nat) : Int := (if 0 < j ∧ x % 8 < fo % 8 then prev else x) % card
def rowD (f : Nat → Int) (fo : Int) (cards : List Int) : Nat → List Int
  | 0 => []
  | j + 1 => rowD f fo cards j ++ [stepD (f j) fo ((rowD f fo cards j).getD (j - 1) 0) (cards.getD j 0) j]
theorem rowD_length (f : Nat → Int) (fo : Int) (cards : List Int) : ∀ j, (rowD f fo cards j).length = j
  | 0 => rfl
  | j + 1 => by rw [rowD, List.length_append, rowD_length f fo cards j]; rfl
structure CdOk (cards : List Int) : Prop where
  pos : 1 ≤ cards.length
  five : cards.length ≤ 5
  each : ∀ k, k < cards.length → 2 ≤ cards.getD k 0 ∧ cards.getD k 0 ≤ 3
theorem getD_app {l : List Int} {x : Int} {t : Nat} : (l ++ [x]).getD t 0 = if t < l.length then l.getD t 0 else if t = l.length then x else 0 := by
  rw [List.getD_eq_getElem?_getD, List.getElem?_append]
  split
  · rw [List.getD_eq_getElem?_getD]
  · split
    · rename_i h; subst h; simp
    · rw [List.getElem?_eq_none (by simp; omega)]; rfl
theorem rowD_bd {f : Nat → Int} {fo : Int} {cards : List Int} (hc : CdOk cards) : ∀ j, j ≤ cards.length → ∀ t, t < j → 0 ≤ (rowD f fo cards j).getD t 0 ∧ (rowD f fo cards j).getD t 0 < cards.getD t 0
  | 0, _, t, h => absurd h (Nat.not_lt_zero _)
  | j + 1, hj, t, h => by
    have h1 := hc.each j (by omega)
    unfold rowD
    rw [getD_app, rowD_length]
    by_cases ht : t < j
    · rw [if_pos ht]; exact rowD_bd hc j (by omega) t ht
    · have : t = j := by omega
      subst this
      rw [if_neg ht, if_pos rfl]
      unfold stepD
      exact ⟨Int.emod_nonneg _ (by omega), Int.emod_lt_of_pos _ (by omega)⟩
abbrev dbS (i : Nat) : List (Nat × V) := [(1, .ptr 0 0), (2, .ptr 1 0), (3, .ptr 2 0), (5, i6 i)]
abbrev diS (i : Nat) (q : Nat × Nat) : List (Nat × V) := [(1, .ptr 0 0), (2, .ptr 1 0), (3, .ptr 2 0), (5, i6 i), (6, owV q.2 q.1), (7, i6 q.1)]
abbrev diX (i n : Nat) (h : Nat) : List (Nat × V) := [(1, .ptr 0 0), (2, .ptr 1 0), (3, .ptr 2 0), (5, i6 i), (6, .sl h 0 n none)]
structure Base (C : List Int) (ks : List (Nat → Int)) (fo : Int) (M : List Int) (cards : List Int) (room : Option Nat) (sp : Option Nat) (lv : V) (H : T O) (nx : Nat) : Prop where
  h0 : gt H 0 = some (dfO C ks fo M)
  h1 : gt H 1 = some n2
  h2 : gt H 2 = some (.row 32 none [.sl 3 0 cards.length room, lv])
  h3 : gt H 3 = some (.row 3 sp (ints cards))
  nx : 4 ≤ nx
theorem Base.mono {C : List Int} {ks : List (Nat → Int)} {fo : Int} {M cards : List Int} {room sp : Option Nat} {lv : V} {H H' : T O} {nx nx' : Nat} (h : Base C ks fo M cards room sp lv H nx) (hg : ∀ g, g < nx → gt H' g = gt H g) (hn : nx ≤ nx') : Base C ks fo M cards room sp lv H' nx' := by
  have := h.nx
  exact ⟨by rw [hg 0 (by omega)]; exact h.h0, by rw [hg 1 (by omega)]; exact h.h1, by rw [hg 2 (by omega)]; exact h.h2, by rw [hg 3 (by omega)]; exact h.h3, by omega⟩
def rowQ (H0 : T O) (nx0 : Nat) (c : List Int) (h : Nat) (H : T O) (nx : Nat) (_ : List Nat) : Prop := (∀ g, g < nx0 → gt H g = gt H0 g) ∧ nx0 ≤ h ∧ h < nx ∧ gt H h = some (.row 3 (some 1) (ints c))
theorem src_at {H : T O} {h : Nat} {t : Nat} {sp : Option Nat} {x : V} {room : Option Nat} (hg : gt H h = some (.row t sp [x])) : srcV H 1 (.sl h 0 1 room) = some (1, [x]) := by
  rw [gt_eq] at hg
  unfold srcV
  dsimp only
  rw [hg]
  rfl
theorem di_loop (C : List Int) (ks : List (Nat → Int)) (fo : Int) (M cards : List Int) (room sp : Option Nat) (lv : V) (i : Nat) (f : Nat → Int) (hf : ks[i]? = some f) (hK : KOk ks) (hfo : 0 ≤ fo ∧ fo ≤ 255) (hc : CdOk cards) (H0 : T O) (nx0 : Nat) (lg0 : List Nat) (hB : Base C ks fo M cards room sp lv H0 nx0) :
    Sat Pg none 0 (at' 19 [1, 1, 1, 1, 0, 1, 0, 0, 1, 0, 0, 1, 0, 1, 0]) (mkSo g0 139 (diS i (0, 0)) H0 nx0 lg0) (outsM g0 139 (.exit 4) (diX i cards.length) (rowQ H0 nx0 (rowD f fo cards cards.length))) := by
  have h5 := hc.five
  have hi : i < ks.length := (List.getElem?_eq_some_iff.1 hf).1
  obtain ⟨rest, hrest⟩ := flat_drop ks i f hf
  have key := loopOG (c := at' 19 [1, 1, 1, 1, 0, 1, 0, 0, 1, 0, 0, 1, 0, 1, 0]) (b := at' 19 [1, 1, 1, 1, 0, 1, 0, 0, 1, 0, 0, 1, 0, 1, 0, 0]) (by kernel_rfl) (k := 139) (gl := g0) (fun (q : Nat × Nat) (M' : Mem) => q.1 ≤ cards.length ∧ nx0 ≤ M'.nx ∧ (∀ g, g < nx0 → gt M'.H g = gt H0 g) ∧ (0 < q.1 → nx0 ≤ q.2 ∧ q.2 < M'.nx ∧ gt M'.H q.2 = some (.row 3 (some 1) (ints (rowD f fo cards q.1))))) (diS i) (fun q => cards.length - q.1) (fun e sl M' => e = .exit 4 ∧ ∃ h, sl = diX i cards.length h ∧ rowQ H0 nx0 (rowD f fo cards cards.length) h M'.H M'.nx M'.lg) (fun q H nx lg G hI hN hE _ => ?_) (0, 0) ⟨H0, nx0, lg0⟩ ⟨Nat.zero_le _, Nat.le_refl _, fun _ _ => rfl, fun h => absurd h (Nat.lt_irrefl _)⟩
  · refine key.mono ?_
    rintro e st ⟨sl, M', rfl, rfl, h, rfl, hQ⟩
    exact ⟨h, M'.H, M'.nx, M'.lg, rfl, rfl, hQ⟩
  · obtain ⟨j, hcr⟩ := q
    obtain ⟨hj, hnx, hg, hrow⟩ := hI
    dsimp only at hj hnx hg hrow hN
    have hB' := hB.mono hg hnx
    obtain ⟨b0, b1, b2, b3, b4⟩ := hB'
    by_cases hlt : j < cards.length
    · have hx := hK.bd f (List.mem_of_getElem? hf) j (by omega)
      have hcd := hc.each j hlt
      have hp92 := @place92 ((flatK ks).drop (i * 5)) j (by omega)
      have hhd : headF (((flatK ks).drop (i * 5)).drop j) = some (w8 (f j)) := by rw [hrest]; exact five_head f rest (by omega)
      have hldc := @head_intsD cards j hlt
      have hnext : rowD f fo cards (j + 1) = rowD f fo cards j ++ [stepD (f j) fo ((rowD f fo cards j).getD (j - 1) 0) (cards.getD j 0) j] := rfl
      have hrl := rowD_length f fo cards j
      have hrb := fun t ht => @rowD_bd f fo cards hc j (by omega) t ht
      have hN1 := fun h' H nx lg h1 h2 h3 h4 h5 => hN (j + 1, h') H nx lg ⟨by dsimp only; omega, h1, h2, fun _ => ⟨h3, h4, h5⟩⟩ (by dsimp only; omega)
      dsimp only at hN1
      rw [hnext] at hN1
      clear hnext hN hE hrest
      generalize rowD f fo cards j = c at *
      generalize hfx : f j = x at *
      generalize cards.getD j 0 = cd at *
      have e1 : x.tmod 8 = x % 8 := Int.tmod_eq_emod_of_nonneg hx.1
      have e2 : fo.tmod 8 = fo % 8 := Int.tmod_eq_emod_of_nonneg hfo.1
      cases j with
      | zero =>
        have hc0 : c = [] := List.eq_nil_of_length_eq_zero hrl
        subst hc0
        have hst : stepD x fo (([] : List Int).getD (0 - 1) 0) cd 0 = x % cd := by unfold stepD; rw [if_neg (by omega)]
        rw [hst] at hN1
        have e3 : binV (ctxOf Pg) .rem 3 (i6 x) (i6 cd) = some (i6 (x % cd)) := by rw [rem6 (by omega), Int.tmod_eq_emod_of_nonneg hx.1]
        refine ⟨[lo_ 54 (.row 32 none [.sl 3 0 cards.length room, lv]) (.sl 3 0 cards.length room), yes 56, lo_ 60 (dfO C ks fo M) (kV ks), pl 63, va 64 (.imp (((flatK ks).drop (i * 5)).drop 0)), ld 65 (w8 x), nu 66 x, lo_ 86 (.row 32 none [.sl 3 0 cards.length room, lv]) (.sl 3 0 cards.length room), pl 88, lo_ 89 (.row 3 sp (ints cards)) (i6 cd), va 90 (i6 (x % cd)), (92, .an 1 [i6 (x % cd)]), nu 58 1, toO (diS i (1, nx + 1))], 1000, ?_⟩
        refine Eq.mp (by kernel_rfl : (gt H 2 = some (O.row 32 none [V.sl 3 0 (List.length cards) room, lv]) ∧ headF (dropF (0 + 0) [V.sl 3 0 (List.length cards) room, lv]) = some (V.sl 3 0 (List.length cards) room) ∧ decide ((↑(0 : Nat) : Int) < (↑(List.length cards) : Int)) = true ∧ gt H 0 = some (dfO C ks fo M) ∧ headF (dropF (0 + 1) (dfL C ks fo M)) = some (kV ks) ∧ ((0 : Int) ≤ (↑i : Int) ∧ (↑i : Int) < (↑(List.length ks) : Int)) ∧ placeV (ctxOf Tryd.prog) 92 (V.imp (List.drop (i * 5) (flatK ks))) (↑(0 : Nat) : Int) = some (V.imp (List.drop 0 (List.drop (i * 5) (flatK ks)))) ∧ headF (List.drop 0 (List.drop (i * 5) (flatK ks))) = some (w8 x) ∧ wr IntKind.i64 x = x ∧ gt H 2 = some (O.row 32 none [V.sl 3 0 (List.length cards) room, lv]) ∧ headF (dropF (0 + 0) [V.sl 3 0 (List.length cards) room, lv]) = some (V.sl 3 0 (List.length cards) room) ∧ ((0 : Int) ≤ (↑(0 : Nat) : Int) ∧ (↑(0 : Nat) : Int) < (↑(List.length cards) : Int)) ∧ gt H 3 = some (O.row 3 sp (ints cards)) ∧ headF (dropF (0 + 0 * 1) (ints cards)) = some (i6 cd) ∧ binV (ctxOf Tryd.prog) BinOp.rem 3 (V.int IntKind.i64 x) (i6 cd) = some (i6 (x % cd)) ∧ (srcV (pt H nx (O.row 3 none [i6 (x % cd)])) 1 (V.sl nx 0 1 (some 0)) = some (1, [i6 (x % cd)]) ∧ 1 ≤ 9223372036854775807 ∧ 1 * 8 ≤ 140737488355328) ∧ wr IntKind.i64 ((↑(0 : Nat) : Int) + (1 : Int)) = (1 : Int) ∧ G Ex.normal (diS i (1, nx + 1)) (pt (pt H nx (O.row 3 none [i6 (x % cd)])) (nx + 1) (O.row 3 (some 1) [i6 (x % cd)])) (nx + 1 + 1) ([] ++ lg) ∧ V.ptr 0 0 = V.ptr 0 0 ∧ V.ptr 1 0 = V.ptr 1 0 ∧ V.ptr 2 0 = V.ptr 2 0 ∧ i6 (↑i : Int) = i6 (↑i : Int) ∧ V.sl (nx + 1) 0 1 none = owV (nx + 1) 1 ∧ V.int IntKind.i64 (1 : Int) = i6 (↑(1 : Nat) : Int) ∧ True) = _) ?_
        (repeat' (first | (with_reducible apply And.intro) | (refine fun (_ : True) => ?_))) <;> first | exact aq | skip
        all_goals first | rfl | (rw [dropF_eq, Nat.zero_add]; exact hldc) | exact src_at (t := 3) (sp := none) ((gt_pt _ _ _ _).trans ((if_pos rfl).trans (by kernel_rfl))) | skip
        refine hN1 (nx + 1) _ _ _ ?_ (fun g hg' => ?_) ?_ ?_ ?_
        · omega
        · rw [gt_pt, if_neg (by omega), gt_pt, if_neg (by omega)]; exact hg g hg'
        · omega
        · omega
        · rw [gt_pt, if_pos rfl]; rfl
      | succ j =>
        obtain ⟨r1, r2, r3⟩ := hrow (by omega)
        have hap := ints_app c
        have hil := ints_length c
        have hjb := hrb j (by omega)
        have hldp := @head_intsD c j (by omega)
        have hsub : j + 1 - 1 = j := by omega
        rw [hsub] at hN1
        by_cases hlt8 : x % 8 < fo % 8
        · have hst : stepD x fo (c.getD j 0) cd (j + 1) = c.getD j 0 % cd := by unfold stepD; rw [if_pos ⟨by omega, hlt8⟩]
          rw [hst] at hN1
          generalize c.getD j 0 = y at *
          have e3 : binV (ctxOf Pg) .rem 3 (i6 y) (i6 cd) = some (i6 (y % cd)) := by rw [rem6 (by omega), Int.tmod_eq_emod_of_nonneg hjb.1]
          have hap := hap (y % cd)
          generalize y % cd = z at *
          refine ⟨[lo_ 54 (.row 32 none [.sl 3 0 cards.length room, lv]) (.sl 3 0 cards.length room), yes 56, lo_ 60 (dfO C ks fo M) (kV ks), pl 63, va 64 (.imp (((flatK ks).drop (i * 5)).drop (j + 1))), ld 65 (w8 x), nu 66 x, yes 68, nu 71 (x % 8), lo_ 73 (dfO C ks fo M) (w8 fo), nu 74 (fo % 8), nu 75 (fo % 8), yes 76, nu 80 j, pl 81, lo_ 82 (.row 3 (some 1) (ints c)) (i6 y), lo_ 86 (.row 32 none [.sl 3 0 cards.length room, lv]) (.sl 3 0 cards.length room), pl 88, lo_ 89 (.row 3 sp (ints cards)) (i6 cd), va 90 (i6 z), (92, .ao (.row 3 (some 1) (ints c)) 1 [i6 z]), nu 58 (j + 1 + 1 : Nat), toO (diS i (j + 1 + 1, nx + 1))], 1000, ?_⟩
          refine Eq.mp (by kernel_rfl : (gt H 2 = some (O.row 32 none [V.sl 3 0 (List.length cards) room, lv]) ∧ headF (dropF (0 + 0) [V.sl 3 0 (List.length cards) room, lv]) = some (V.sl 3 0 (List.length cards) room) ∧ decide ((↑(j + 1) : Int) < (↑(List.length cards) : Int)) = true ∧ gt H 0 = some (dfO C ks fo M) ∧ headF (dropF (0 + 1) (dfL C ks fo M)) = some (kV ks) ∧ ((0 : Int) ≤ (↑i : Int) ∧ (↑i : Int) < (↑(List.length ks) : Int)) ∧ placeV (ctxOf Tryd.prog) 92 (V.imp (List.drop (i * 5) (flatK ks))) (↑(j + 1) : Int) = some (V.imp (List.drop (j + 1) (List.drop (i * 5) (flatK ks)))) ∧ headF (List.drop (j + 1) (List.drop (i * 5) (flatK ks))) = some (w8 x) ∧ wr IntKind.i64 x = x ∧ decide ((↑(j + 1) : Int) > (0 : Int)) = true ∧ Int.tmod x (8 : Int) = x % (8 : Int) ∧ gt H 0 = some (dfO C ks fo M) ∧ headF (dropF (0 + 2) (dfL C ks fo M)) = some (w8 fo) ∧ Int.tmod fo (8 : Int) = fo % (8 : Int) ∧ wr IntKind.i64 (fo % (8 : Int)) = fo % (8 : Int) ∧ decide (x % (8 : Int) < fo % (8 : Int)) = true ∧ wr IntKind.i64 ((↑(j + 1) : Int) - (1 : Int)) = (↑j : Int) ∧ ((0 : Int) ≤ (↑j : Int) ∧ (↑j : Int) < (↑(j + 1) : Int)) ∧ gt H hcr = some (O.row 3 (some 1) (ints c)) ∧ headF (dropF (0 + j * 1) (ints c)) = some (i6 y) ∧ gt H 2 = some (O.row 32 none [V.sl 3 0 (List.length cards) room, lv]) ∧ headF (dropF (0 + 0) [V.sl 3 0 (List.length cards) room, lv]) = some (V.sl 3 0 (List.length cards) room) ∧ ((0 : Int) ≤ (↑(j + 1) : Int) ∧ (↑(j + 1) : Int) < (↑(List.length cards) : Int)) ∧ gt H 3 = some (O.row 3 sp (ints cards)) ∧ headF (dropF (0 + (j + 1) * 1) (ints cards)) = some (i6 cd) ∧ binV (ctxOf Tryd.prog) BinOp.rem 3 (i6 y) (i6 cd) = some (i6 z) ∧ srcV (pt H nx (O.row 3 none [i6 z])) 1 (V.sl nx 0 1 (some 0)) = some (1, [i6 z]) ∧ gt (pt H nx (O.row 3 none [i6 z])) hcr = some (O.row 3 (some 1) (ints c)) ∧ List.length (ints c) = (j + 1) * 1 ∧ j + 1 + 1 ≤ 9223372036854775807 ∧ (j + 1 + 1) * 8 ≤ 140737488355328 ∧ wr IntKind.i64 ((↑(j + 1) : Int) + (1 : Int)) = (↑(j + 1 + 1) : Int) ∧ G Ex.normal (diS i (j + 1 + 1, nx + 1)) (pt (pt (pt H nx (O.row 3 none [i6 z])) hcr O.dead) (nx + 1) (O.row 3 (some 1) (ints c ++ [i6 z]))) (nx + 1 + 1) ([hcr] ++ lg) ∧ V.ptr 0 0 = V.ptr 0 0 ∧ V.ptr 1 0 = V.ptr 1 0 ∧ V.ptr 2 0 = V.ptr 2 0 ∧ i6 (↑i : Int) = i6 (↑i : Int) ∧ V.sl (nx + 1) 0 (j + 1 + 1) none = owV (nx + 1) (j + 1 + 1) ∧ V.int IntKind.i64 (↑(j + 1 + 1) : Int) = i6 (↑(j + 1 + 1) : Int) ∧ True) = _) ?_
          (repeat' (first | (with_reducible apply And.intro) | (refine fun (_ : True) => ?_))) <;> first | exact aq | skip
          all_goals first | rfl | omega | (rw [dropF_eq, Nat.zero_add]; first | exact hldc | exact hldp) | exact src_at (t := 3) (sp := none) ((gt_pt _ _ _ _).trans ((if_pos rfl).trans (by kernel_rfl))) | ((repeat (first | (rw [gt_pt, if_pos (by first | rfl | omega)]) | (rw [gt_pt, if_neg (by omega)]))) <;> first | assumption | rfl) | skip
          refine hN1 (nx + 1) _ _ _ ?_ (fun g hg' => ?_) ?_ ?_ ?_
          · omega
          · rw [gt_pt, if_neg (by omega), gt_pt, if_neg (by omega), gt_pt, if_neg (by omega)]; exact hg g hg'
          · omega
          · omega
          · rw [gt_pt, if_pos rfl, hap]
        · have hst : stepD x fo (c.getD j 0) cd (j + 1) = x % cd := by unfold stepD; rw [if_neg (fun h => hlt8 h.2)]
          rw [hst] at hN1
          have e3 : binV (ctxOf Pg) .rem 3 (i6 x) (i6 cd) = some (i6 (x % cd)) := by rw [rem6 (by omega), Int.tmod_eq_emod_of_nonneg hx.1]
          have hap := hap (x % cd)
          generalize hz : x % cd = z at *
          refine ⟨[lo_ 54 (.row 32 none [.sl 3 0 cards.length room, lv]) (.sl 3 0 cards.length room), yes 56, lo_ 60 (dfO C ks fo M) (kV ks), pl 63, va 64 (.imp (((flatK ks).drop (i * 5)).drop (j + 1))), ld 65 (w8 x), nu 66 x, yes 68, nu 71 (x % 8), lo_ 73 (dfO C ks fo M) (w8 fo), nu 74 (fo % 8), nu 75 (fo % 8), no 76, lo_ 86 (.row 32 none [.sl 3 0 cards.length room, lv]) (.sl 3 0 cards.length room), pl 88, lo_ 89 (.row 3 sp (ints cards)) (i6 cd), va 90 (i6 z), (92, .ao (.row 3 (some 1) (ints c)) 1 [i6 z]), nu 58 (j + 1 + 1 : Nat), toO (diS i (j + 1 + 1, nx + 1))], 1000, ?_⟩
          refine Eq.mp (by kernel_rfl : (gt H 2 = some (O.row 32 none [V.sl 3 0 (List.length cards) room, lv]) ∧ headF (dropF (0 + 0) [V.sl 3 0 (List.length cards) room, lv]) = some (V.sl 3 0 (List.length cards) room) ∧ decide ((↑(j + 1) : Int) < (↑(List.length cards) : Int)) = true ∧ gt H 0 = some (dfO C ks fo M) ∧ headF (dropF (0 + 1) (dfL C ks fo M)) = some (kV ks) ∧ ((0 : Int) ≤ (↑i : Int) ∧ (↑i : Int) < (↑(List.length ks) : Int)) ∧ placeV (ctxOf Tryd.prog) 92 (V.imp (List.drop (i * 5) (flatK ks))) (↑(j + 1) : Int) = some (V.imp (List.drop (j + 1) (List.drop (i * 5) (flatK ks)))) ∧ headF (List.drop (j + 1) (List.drop (i * 5) (flatK ks))) = some (w8 x) ∧ wr IntKind.i64 x = x ∧ decide ((↑(j + 1) : Int) > (0 : Int)) = true ∧ Int.tmod x (8 : Int) = x % (8 : Int) ∧ gt H 0 = some (dfO C ks fo M) ∧ headF (dropF (0 + 2) (dfL C ks fo M)) = some (w8 fo) ∧ Int.tmod fo (8 : Int) = fo % (8 : Int) ∧ wr IntKind.i64 (fo % (8 : Int)) = fo % (8 : Int) ∧ decide (x % (8 : Int) < fo % (8 : Int)) = false ∧ gt H 2 = some (O.row 32 none [V.sl 3 0 (List.length cards) room, lv]) ∧ headF (dropF (0 + 0) [V.sl 3 0 (List.length cards) room, lv]) = some (V.sl 3 0 (List.length cards) room) ∧ ((0 : Int) ≤ (↑(j + 1) : Int) ∧ (↑(j + 1) : Int) < (↑(List.length cards) : Int)) ∧ gt H 3 = some (O.row 3 sp (ints cards)) ∧ headF (dropF (0 + (j + 1) * 1) (ints cards)) = some (i6 cd) ∧ binV (ctxOf Tryd.prog) BinOp.rem 3 (V.int IntKind.i64 x) (i6 cd) = some (i6 z) ∧ srcV (pt H nx (O.row 3 none [i6 z])) 1 (V.sl nx 0 1 (some 0)) = some (1, [i6 z]) ∧ gt (pt H nx (O.row 3 none [i6 z])) hcr = some (O.row 3 (some 1) (ints c)) ∧ List.length (ints c) = (j + 1) * 1 ∧ j + 1 + 1 ≤ 9223372036854775807 ∧ (j + 1 + 1) * 8 ≤ 140737488355328 ∧ wr IntKind.i64 ((↑(j + 1) : Int) + (1 : Int)) = (↑(j + 1 + 1) : Int) ∧ G Ex.normal (diS i (j + 1 + 1, nx + 1)) (pt (pt (pt H nx (O.row 3 none [i6 z])) hcr O.dead) (nx + 1) (O.row 3 (some 1) (ints c ++ [i6 z]))) (nx + 1 + 1) ([hcr] ++ lg) ∧ V.ptr 0 0 = V.ptr 0 0 ∧ V.ptr 1 0 = V.ptr 1 0 ∧ V.ptr 2 0 = V.ptr 2 0 ∧ i6 (↑i : Int) = i6 (↑i : Int) ∧ V.sl (nx + 1) 0 (j + 1 + 1) none = owV (nx + 1) (j + 1 + 1) ∧ V.int IntKind.i64 (↑(j + 1 + 1) : Int) = i6 (↑(j + 1 + 1) : Int) ∧ True) = _) ?_
          (repeat' (first | (with_reducible apply And.intro) | (refine fun (_ : True) => ?_))) <;> first | exact aq | skip
          all_goals first | rfl | omega | (rw [dropF_eq, Nat.zero_add]; first | exact hldc | exact hldp) | exact src_at (t := 3) (sp := none) ((gt_pt _ _ _ _).trans ((if_pos rfl).trans (by kernel_rfl))) | ((repeat (first | (rw [gt_pt, if_pos (by first | rfl | omega)]) | (rw [gt_pt, if_neg (by omega)]))) <;> first | assumption | rfl) | skip
          refine hN1 (nx + 1) _ _ _ ?_ (fun g hg' => ?_) ?_ ?_ ?_
          · omega
          · rw [gt_pt, if_neg (by omega), gt_pt, if_neg (by omega), gt_pt, if_neg (by omega)]; exact hg g hg'
          · omega
          · omega
          · rw [gt_pt, if_pos rfl, hap]
    · have : j = cards.length := by omega
      subst this
      obtain ⟨r1, r2, r3⟩ := hrow hc.pos
      have hX := hE 4 (diX i cards.length hcr) H nx lg ⟨rfl, hcr, rfl, hg, r1, r2, r3⟩
      have hpos := hc.pos
      generalize rowD f fo cards cards.length = c at *
      cases hn : cards.length with
      | zero => omega
      | succ n =>
        rw [hn] at hX b2
        refine ⟨[lo_ 54 (.row 32 none [.sl 3 0 (n + 1) room, lv]) (.sl 3 0 (n + 1) room), no 56, toO (diX i (n + 1) hcr)], 1000, ?_⟩
        clear hn
        refine Eq.mp (by kernel_rfl : (gt H 2 = some (O.row 32 none [V.sl 3 0 (n + 1) room, lv]) ∧ headF (dropF (0 + 0) [V.sl 3 0 (n + 1) room, lv]) = some (V.sl 3 0 (n + 1) room) ∧ decide ((↑(n + 1) : Int) < (↑(n + 1) : Int)) = false ∧ G (Ex.exit 4) (diX i (n + 1) hcr) H nx lg ∧ V.ptr 0 0 = V.ptr 0 0 ∧ V.ptr 1 0 = V.ptr 1 0 ∧ V.ptr 2 0 = V.ptr 2 0 ∧ i6 (↑i : Int) = i6 (↑i : Int) ∧ owV hcr (n + 1) = V.sl hcr 0 (n + 1) none ∧ True) = _) ?_
        exact au

end Go.Proofs.YtglpoiaedkoecaaDoor.Am
