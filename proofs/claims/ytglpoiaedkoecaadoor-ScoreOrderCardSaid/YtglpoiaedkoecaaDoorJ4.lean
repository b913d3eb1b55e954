/- ScoreOrder: the law returns true, whatever it is called with: the walk. -/
import Derived.Test.YtglpoiaedkoecaaDoorJ3
import Derived.Test.YtglpoiaedkoecaaDoorF9
import Derived.Test.YtglpoiaedkoecaaDoorFA
import Derived.Test.YtglpoiaedkoecaaDoorH0
import Derived.Test.YtglpoiaedkoecaaDoorH1
import Derived.Test.YtglpoiaedkoecaaDoorQ0
import Derived.Test.YtglpoiaedkoecaaDoorD2
namespace Go.Proofs.YtglpoiaedkoecaaDoor.Am
open Go.RowKit
set_option linter.unusedVariables false
set_option maxHeartbeats 1000000
set_option maxRecDepth 100000

/-! ### plain -/
theorem self_free {n : Nat} {l : List Nat} (h : fitsB n l = true) {k : Nat} (hk : k < n) : l.getD k 0 / 2 ^ k % 2 = 0 := by
  unfold fitsB graphB at h
  simp only [Bool.and_eq_true, decide_eq_true_eq] at h
  obtain ⟨hl, h1, h2, h3, h4⟩ := h
  subst hl
  have ha := GG.all_range.1 h4 k hk
  cases hb : (l.getD k 0).testBit k with
  | false =>
    rw [bit_div] at hb
    have := of_decide_eq_false hb
    omega
  | true =>
    have h0 : GG.clo l.length (relL l) k 0 k = true := hb
    have := GG.clo_le 0 l.length (Nat.zero_le _) h0
    rw [this] at ha; cases ha
theorem gra_le {cards : List Nat} {cs : List (List Nat)} {l : List Nat} (hc : CardsOk cards) (hcs : ∀ c ∈ cs, CaseOk cards c) (hm : cs.length ≤ 40) {i : Nat} (hi : i < 18) : ∀ k : Nat, k ≤ cards.length → -(160 * (k : Int)) ≤ graF cards cs l k i ∧ graF cards cs l k i ≤ 160 * (k : Int)
  | 0, _ => by simp [graF, zeroF]
  | k + 1, hk => by
    have h1 := gra_le (l := l) hc hcs hm hi k (by omega)
    have h2 := fam_le (ps := l.getD k 0) hc hcs (show k < cards.length by omega) hm hi
    have e : graF cards cs l (k + 1) i = graF cards cs l k i + 1 * famF cards cs k (l.getD k 0) i := rfl
    rw [e]; omega
theorem gra_perm {cards : List Nat} {cs ds : List (List Nat)} (h : cs.Perm ds) (l : List Nat) : ∀ k, graF cards cs l k = graF cards ds l k
  | 0 => rfl
  | k + 1 => by rw [graF, graF, gra_perm h l k, fam_perm h]
theorem order_facts {cards : List Int} {rows T : List (List Int)} (hcd : CdOk cards) (hl : rows.length ≤ 40) (hrow : ∀ r ∈ rows, r.length = cards.length ∧ ∀ k, k < cards.length → 0 ≤ r.getD k 0 ∧ r.getD k 0 < cards.getD k 0) (hp : T.Perm rows) {G : List Nat} (h64 : S64 G) (hf : fitsB cards.length G = true) :
    ∃ F : Nat → Nat → Int, FnOk Pg g0 28 [gV cards rows, ul G] (.tup [ar (F cards.length), i6 0]) ∧ FnOk Pg g0 28 [gV cards T, ul G] (.tup [ar (F cards.length), i6 0]) ∧ F 0 = zeroF ∧
      ∀ k, k < cards.length → ∃ f, FnOk Pg g0 22 [gV cards rows, i6 k, u6 (G.getD k 0 : Nat)] (.tup [ar f, i6 0]) ∧ FnOk Pg g0 34 [ar (F k), ar f] (.tup [ar (F (k + 1)), i6 0]) := by
  have h5 := hcd.five
  obtain ⟨hGl, hGb⟩ := fits_out hf
  have g1 : goodE cards rows = 0 := good_of hcd hl hrow
  have g2 : goodE cards T = 0 := good_of hcd (by rw [hp.length_eq]; exact hl) (fun r hr => hrow r (hp.mem_iff.1 hr))
  have w1 := whole_ok g1
  have hcl : ∀ c ∈ rows, c.length ≤ 1000 := fun c hc => by have := (hrow c hc).1; omega
  have hcl2 : ∀ c ∈ T, c.length ≤ 1000 := fun c hc => by have := (hrow c (hp.mem_iff.1 hc)).1; omega
  have f1 := sgra_ok cards rows G (by omega) (by omega) hcl h64 g1 hf
  have f2 := sgra_ok cards T G (by omega) (by rw [hp.length_eq]; omega) hcl2 h64 g2 hf
  have e2 : graG cards T G = graG cards rows G := gra_perm (hp.map toN) G G.length
  rw [e2] at f2
  rw [show graG cards rows G = graF (toN cards) (rows.map toN) G cards.length by unfold graG; rw [hGl]] at f1 f2
  refine ⟨graF (toN cards) (rows.map toN) G, f1, f2, rfl, fun k hk => ?_⟩
  have hm : memB cards.length (k : Int) (G.getD k 0) = true := by
    unfold memB
    simp only [Bool.and_eq_true, decide_eq_true_eq, Int.toNat_natCast]
    exact ⟨by omega, by omega, Nat.div_eq_of_lt (hGb k), self_free hf hk⟩
  have f3 := sfam_ok cards rows k (G.getD k 0) (by omega) (by omega) hcl g1 hm
  have hk' : k < (toN cards).length := by rw [toN_length]; exact hk
  have b1 := fun i hi => fam_le (ps := G.getD k 0) w1.cok w1.rok hk' (by simpa using hl) (i := i) hi
  have b2 := fun i hi => gra_le (l := G) w1.cok w1.rok (by simpa using hl) (i := i) hi k (by omega)
  have b3 := fun i hi => gra_le (l := G) w1.cok w1.rok (by simpa using hl) (i := i) hi (k + 1) (by omega)
  have e3 : graF (toN cards) (rows.map toN) G (k + 1) = addA (graF (toN cards) (rows.map toN) G k) (famG cards rows k (G.getD k 0)) 1 := rfl
  have b1' : ∀ i, i < 18 → -160 ≤ famG cards rows k (G.getD k 0) i ∧ famG cards rows k (G.getD k 0) i ≤ 160 := b1
  refine ⟨famG cards rows k (G.getD k 0), f3, ?_⟩
  rw [e3] at b3 ⊢
  have i1 : inA (graF (toN cards) (rows.map toN) G k) = true := inA_of fun i hi => by have := b2 i hi; omega
  generalize graF (toN cards) (rows.map toN) G k = a at *
  generalize famG cards rows k (G.getD k 0) = b at *
  have i2 : inA b = true := inA_of fun i hi => by have := b1' i hi; omega
  have i3 : inA (sumF a b) = true := inA_of fun i hi => by
    rw [sumF_at hi]
    have := b3 i hi
    have e : addA a b 1 i = a i + 1 * b i := rfl
    rw [e] at this
    omega
  have := add_ok a b i1 i2 i3
  rw [show ar (sumF a b) = ar (addA a b 1) from sum_add a b] at this
  exact this

/-! ### the walk -/
abbrev bT6 : SL := { sl := [(6, .bool true)] }
section
variable (cards : List Int) (csV : V) (G : List Nat) (n : Nat) (Z : Nat → Int)
abbrev orS (k : Nat) (f : Nat → Int) : SL := { sl := [(7, .ptr 0 0), (12, .ptr 1 0), (13, i6 0), (14, .ptr 2 0), (15, i6 0), (16, .ptr 3 0), (77, ul G), (78, i6 n), (79, i6 k)], os := [.row 32 none [sl cards, csV], .row 41 none (arF Z), .row 41 none (arF Z), .row 41 none (arF f)] }
abbrev orX (f : Nat → Int) : SL := { sl := [(12, .ptr 0 0), (13, i6 0), (14, .ptr 1 0), (15, i6 0), (16, .ptr 2 0)], os := [.row 41 none (arF Z), .row 41 none (arF Z), .row 41 none (arF f)] }
end
theorem order_loop (cards : List Int) (rows : List (List Int)) (csV : V) (hcs : csV = gC rows ∨ (rows = [] ∧ csV = .nils)) (G : List Nat) (n : Nat) (hn : n ≤ 5) (hG : G.length = n) (Z : Nat → Int) (F : Nat → Nat → Int)
    (h : ∀ k, k < n → ∃ f, FnOk Pg g0 22 [gV cards rows, i6 k, u6 (G.getD k 0 : Nat)] (.tup [ar f, i6 0]) ∧ FnOk Pg g0 34 [ar (F k), ar f] (.tup [ar (F (k + 1)), i6 0])) (z : Nat → Int) (hz : F 0 = z) (y : Nat → Int) (hy : F n = y) :
    Sat Pg none 0 (at' 10 [1, 1, 1, 1, 1, 1, 1, 1, 1, 1, 1, 0, 1, 0]) (mkSt g0 121 (orS cards csV G n Z 0 z)) (outsP g0 121 [(True, .exit 0, orX Z y)]) := by
  refine loopC vE_ok mixed sp0_ok (b := at' 10 [1, 1, 1, 1, 1, 1, 1, 1, 1, 1, 1, 0, 1, 0, 0]) (by kernel_rfl) (fun q : Nat × (Nat → Int) => q.1 ≤ n ∧ q.2 = F q.1) (fun q => orS cards csV G n Z q.1 q.2) (fun q => n - q.1) (fun q hq => ?_) (0, z) ⟨Nat.zero_le _, hz.symm⟩
  obtain ⟨k, a⟩ := q
  obtain ⟨hk, ha⟩ := hq
  dsimp only at hk ha
  by_cases hlt : k < n
  · obtain ⟨f, f1, f2⟩ := h k hlt
    have h1 := @head_ut G k (by omega)
    rw [← ha] at f2
    obtain ⟨b, hb⟩ : ∃ b, b = F (k + 1) := ⟨_, rfl⟩
    rw [← hb] at f2
    generalize G.getD k 0 = g at *
    rcases hcs with rfl | ⟨rfl, rfl⟩
    · refine .inl ⟨(k + 1, b), [0, 1, 2, 3], [yes 80, pl 82, ld 83 (u6 (g : Nat)), fn 88 (.tup [ar f, i6 0]), fn 94 (.tup [ar b, i6 0]), nu 104 (k + 1 : Nat)], 1000, ⟨hlt, hb⟩, by dsimp only; omega, ?_⟩
      clear ha hb hz hy h
      refine Eq.mp (by kernel_rfl : (decide ((↑k : Int) < (↑n : Int)) = true ∧ ((0 : Int) ≤ (↑k : Int) ∧ (↑k : Int) < (↑(List.length G) : Int)) ∧ headF (List.drop (k * 1) (ut G)) = some (u6 (↑g : Int)) ∧ ((True ∧ True ∧ True) ∧ True ∧ True ∧ True) ∧ FnOk Tryd.prog g0 22 [V.agg [V.im (List.length cards) (ints cards), V.im (List.length rows) (List.map sl rows)], V.int IntKind.i64 (↑k : Int), V.int IntKind.u64 (↑g : Int)] (V.tup [ar f, i6 (0 : Int)]) ∧ True ∧ ((True ∧ True ∧ True ∧ True ∧ True ∧ True ∧ True ∧ True ∧ True ∧ True ∧ True ∧ True ∧ True ∧ True ∧ True ∧ True ∧ True ∧ True ∧ True) ∧ (True ∧ True ∧ True ∧ True ∧ True ∧ True ∧ True ∧ True ∧ True ∧ True ∧ True ∧ True ∧ True ∧ True ∧ True ∧ True ∧ True ∧ True ∧ True) ∧ True) ∧ FnOk Tryd.prog g0 34 [V.agg [V.int IntKind.i64 (a 0), V.int IntKind.i64 (a 1), V.int IntKind.i64 (a 2), V.int IntKind.i64 (a 3), V.int IntKind.i64 (a 4), V.int IntKind.i64 (a 5), V.int IntKind.i64 (a 6), V.int IntKind.i64 (a 7), V.int IntKind.i64 (a 8), V.int IntKind.i64 (a 9), V.int IntKind.i64 (a 10), V.int IntKind.i64 (a 11), V.int IntKind.i64 (a 12), V.int IntKind.i64 (a 13), V.int IntKind.i64 (a 14), V.int IntKind.i64 (a 15), V.int IntKind.i64 (a 16), V.int IntKind.i64 (a 17)], V.agg [V.int IntKind.i64 (f 0), V.int IntKind.i64 (f 1), V.int IntKind.i64 (f 2), V.int IntKind.i64 (f 3), V.int IntKind.i64 (f 4), V.int IntKind.i64 (f 5), V.int IntKind.i64 (f 6), V.int IntKind.i64 (f 7), V.int IntKind.i64 (f 8), V.int IntKind.i64 (f 9), V.int IntKind.i64 (f 10), V.int IntKind.i64 (f 11), V.int IntKind.i64 (f 12), V.int IntKind.i64 (f 13), V.int IntKind.i64 (f 14), V.int IntKind.i64 (f 15), V.int IntKind.i64 (f 16), V.int IntKind.i64 (f 17)]] (V.tup [ar b, i6 (0 : Int)]) ∧ True ∧ wr IntKind.i64 ((↑k : Int) + (1 : Int)) = (↑(k + 1) : Int) ∧ (0 = 0 ∧ 0 = 0 ∧ (0 : Int) = (0 : Int) ∧ 0 = 0 ∧ (0 : Int) = (0 : Int) ∧ 0 = 0 ∧ (List.length G = List.length G ∧ ut G = ut G) ∧ (↑n : Int) = (↑n : Int) ∧ (↑(k + 1) : Int) = (↑(k + 1) : Int) ∧ True) ∧ ([sl cards, gC rows] = [sl cards, gC rows] ∧ True ∧ True ∧ True) ∧ (arF Z = arF Z ∧ True ∧ True ∧ True ∧ True ∧ True ∧ True ∧ True ∧ True ∧ True ∧ True ∧ True ∧ True ∧ True ∧ True ∧ True ∧ True ∧ True ∧ True ∧ True) ∧ (arF Z = arF Z ∧ True ∧ True ∧ True ∧ True ∧ True ∧ True ∧ True ∧ True ∧ True ∧ True ∧ True ∧ True ∧ True ∧ True ∧ True ∧ True ∧ True ∧ True ∧ True) ∧ (arF b = [i6 (b 0), i6 (b 1), i6 (b 2), i6 (b 3), i6 (b 4), i6 (b 5), i6 (b 6), i6 (b 7), i6 (b 8), i6 (b 9), i6 (b 10), i6 (b 11), i6 (b 12), i6 (b 13), i6 (b 14), i6 (b 15), i6 (b 16), i6 (b 17)] ∧ True ∧ True ∧ True ∧ True ∧ True ∧ True ∧ True ∧ True ∧ True ∧ True ∧ True ∧ True ∧ True ∧ True ∧ True ∧ True ∧ True ∧ True ∧ True) ∧ True) = _) ?_
      (repeat' (first | (with_reducible apply And.intro) | (refine fun (_ : True) => ?_))) <;> first | exact aq | skip
      all_goals skip
    · have f1' : FnOk Pg g0 22 [.agg [sl cards, .im 0 []], i6 k, u6 (g : Nat)] (.tup [ar f, i6 0]) := f1
      refine .inl ⟨(k + 1, b), [0, 1, 2, 3], [yes 80, pl 82, ld 83 (u6 (g : Nat)), fn 88 (.tup [ar f, i6 0]), fn 94 (.tup [ar b, i6 0]), nu 104 (k + 1 : Nat)], 1000, ⟨hlt, hb⟩, by dsimp only; omega, ?_⟩
      clear ha hb hz hy h f1
      refine Eq.mp (by kernel_rfl : (decide ((↑k : Int) < (↑n : Int)) = true ∧ ((0 : Int) ≤ (↑k : Int) ∧ (↑k : Int) < (↑(List.length G) : Int)) ∧ headF (List.drop (k * 1) (ut G)) = some (u6 (↑g : Int)) ∧ ((True ∧ True ∧ True) ∧ True ∧ True ∧ True) ∧ FnOk Tryd.prog g0 22 [V.agg [V.im (List.length cards) (ints cards), V.im 0 []], V.int IntKind.i64 (↑k : Int), V.int IntKind.u64 (↑g : Int)] (V.tup [ar f, i6 (0 : Int)]) ∧ True ∧ ((True ∧ True ∧ True ∧ True ∧ True ∧ True ∧ True ∧ True ∧ True ∧ True ∧ True ∧ True ∧ True ∧ True ∧ True ∧ True ∧ True ∧ True ∧ True) ∧ (True ∧ True ∧ True ∧ True ∧ True ∧ True ∧ True ∧ True ∧ True ∧ True ∧ True ∧ True ∧ True ∧ True ∧ True ∧ True ∧ True ∧ True ∧ True) ∧ True) ∧ FnOk Tryd.prog g0 34 [V.agg [V.int IntKind.i64 (a 0), V.int IntKind.i64 (a 1), V.int IntKind.i64 (a 2), V.int IntKind.i64 (a 3), V.int IntKind.i64 (a 4), V.int IntKind.i64 (a 5), V.int IntKind.i64 (a 6), V.int IntKind.i64 (a 7), V.int IntKind.i64 (a 8), V.int IntKind.i64 (a 9), V.int IntKind.i64 (a 10), V.int IntKind.i64 (a 11), V.int IntKind.i64 (a 12), V.int IntKind.i64 (a 13), V.int IntKind.i64 (a 14), V.int IntKind.i64 (a 15), V.int IntKind.i64 (a 16), V.int IntKind.i64 (a 17)], V.agg [V.int IntKind.i64 (f 0), V.int IntKind.i64 (f 1), V.int IntKind.i64 (f 2), V.int IntKind.i64 (f 3), V.int IntKind.i64 (f 4), V.int IntKind.i64 (f 5), V.int IntKind.i64 (f 6), V.int IntKind.i64 (f 7), V.int IntKind.i64 (f 8), V.int IntKind.i64 (f 9), V.int IntKind.i64 (f 10), V.int IntKind.i64 (f 11), V.int IntKind.i64 (f 12), V.int IntKind.i64 (f 13), V.int IntKind.i64 (f 14), V.int IntKind.i64 (f 15), V.int IntKind.i64 (f 16), V.int IntKind.i64 (f 17)]] (V.tup [ar b, i6 (0 : Int)]) ∧ True ∧ wr IntKind.i64 ((↑k : Int) + (1 : Int)) = (↑(k + 1) : Int) ∧ (0 = 0 ∧ 0 = 0 ∧ (0 : Int) = (0 : Int) ∧ 0 = 0 ∧ (0 : Int) = (0 : Int) ∧ 0 = 0 ∧ (List.length G = List.length G ∧ ut G = ut G) ∧ (↑n : Int) = (↑n : Int) ∧ (↑(k + 1) : Int) = (↑(k + 1) : Int) ∧ True) ∧ ([sl cards, V.nils] = [sl cards, V.nils] ∧ True ∧ True ∧ True) ∧ (arF Z = arF Z ∧ True ∧ True ∧ True ∧ True ∧ True ∧ True ∧ True ∧ True ∧ True ∧ True ∧ True ∧ True ∧ True ∧ True ∧ True ∧ True ∧ True ∧ True ∧ True) ∧ (arF Z = arF Z ∧ True ∧ True ∧ True ∧ True ∧ True ∧ True ∧ True ∧ True ∧ True ∧ True ∧ True ∧ True ∧ True ∧ True ∧ True ∧ True ∧ True ∧ True ∧ True) ∧ (arF b = [i6 (b 0), i6 (b 1), i6 (b 2), i6 (b 3), i6 (b 4), i6 (b 5), i6 (b 6), i6 (b 7), i6 (b 8), i6 (b 9), i6 (b 10), i6 (b 11), i6 (b 12), i6 (b 13), i6 (b 14), i6 (b 15), i6 (b 16), i6 (b 17)] ∧ True ∧ True ∧ True ∧ True ∧ True ∧ True ∧ True ∧ True ∧ True ∧ True ∧ True ∧ True ∧ True ∧ True ∧ True ∧ True ∧ True ∧ True ∧ True) ∧ True) = _) ?_
      (repeat' (first | (with_reducible apply And.intro) | (refine fun (_ : True) => ?_))) <;> first | exact aq | skip
      all_goals skip
  · have : k = n := by omega
    subst this
    rw [← hy, ← ha]
    clear ha hz hy h
    rcases hcs with rfl | ⟨rfl, rfl⟩
    · refine .inr ⟨.exit 0, [1, 2, 3], orX Z a, [no 80], 1000, .inl ⟨trivial, rfl, rfl⟩, ?_⟩
      refine Eq.mp (by kernel_rfl : (decide ((↑k : Int) < (↑k : Int)) = false ∧ (0 = 0 ∧ (0 : Int) = (0 : Int) ∧ 0 = 0 ∧ (0 : Int) = (0 : Int) ∧ 0 = 0 ∧ True) ∧ (arF Z = arF Z ∧ True ∧ True ∧ True ∧ True ∧ True ∧ True ∧ True ∧ True ∧ True ∧ True ∧ True ∧ True ∧ True ∧ True ∧ True ∧ True ∧ True ∧ True ∧ True) ∧ (arF Z = arF Z ∧ True ∧ True ∧ True ∧ True ∧ True ∧ True ∧ True ∧ True ∧ True ∧ True ∧ True ∧ True ∧ True ∧ True ∧ True ∧ True ∧ True ∧ True ∧ True) ∧ (arF a = arF a ∧ True ∧ True ∧ True ∧ True ∧ True ∧ True ∧ True ∧ True ∧ True ∧ True ∧ True ∧ True ∧ True ∧ True ∧ True ∧ True ∧ True ∧ True ∧ True) ∧ True) = _) ?_
      (repeat' (first | (with_reducible apply And.intro) | (refine fun (_ : True) => ?_))) <;> first | exact aq | skip
      all_goals skip
    · refine .inr ⟨.exit 0, [1, 2, 3], orX Z a, [no 80], 1000, .inl ⟨trivial, rfl, rfl⟩, ?_⟩
      refine Eq.mp (by kernel_rfl : (decide ((↑k : Int) < (↑k : Int)) = false ∧ (0 = 0 ∧ (0 : Int) = (0 : Int) ∧ 0 = 0 ∧ (0 : Int) = (0 : Int) ∧ 0 = 0 ∧ True) ∧ (arF Z = arF Z ∧ True ∧ True ∧ True ∧ True ∧ True ∧ True ∧ True ∧ True ∧ True ∧ True ∧ True ∧ True ∧ True ∧ True ∧ True ∧ True ∧ True ∧ True ∧ True) ∧ (arF Z = arF Z ∧ True ∧ True ∧ True ∧ True ∧ True ∧ True ∧ True ∧ True ∧ True ∧ True ∧ True ∧ True ∧ True ∧ True ∧ True ∧ True ∧ True ∧ True ∧ True) ∧ (arF a = arF a ∧ True ∧ True ∧ True ∧ True ∧ True ∧ True ∧ True ∧ True ∧ True ∧ True ∧ True ∧ True ∧ True ∧ True ∧ True ∧ True ∧ True ∧ True ∧ True) ∧ True) = _) ?_
      (repeat' (first | (with_reducible apply And.intro) | (refine fun (_ : True) => ?_))) <;> first | exact aq | skip
      all_goals skip
end Go.Proofs.YtglpoiaedkoecaaDoor.Am
