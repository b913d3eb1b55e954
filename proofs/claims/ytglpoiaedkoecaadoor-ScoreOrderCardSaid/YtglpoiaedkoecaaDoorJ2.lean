/- slices.Reverse of a list of lists, in any memory. -/
import Derived.Test.YtglpoiaedkoecaaDoorJ0
namespace Go.Proofs.YtglpoiaedkoecaaDoor.Am
open Go.RowKit
set_option linter.unusedVariables false
set_option maxHeartbeats 1000000
set_option maxRecDepth 100000

/-! ### plain -/
def revI (l : List (List Int)) : Nat → List (List Int)
  | 0 => l
  | i + 1 => ((revI l i).set i (l.getD (l.length - 1 - i) [])).set (l.length - 1 - i) (l.getD i [])
theorem revI_len (l : List (List Int)) : ∀ i, (revI l i).length = l.length
  | 0 => rfl
  | i + 1 => by rw [revI, List.length_set, List.length_set, revI_len l i]
theorem getD_get {l : List (List Int)} {k : Nat} (h : k < l.length) : l[k]? = some (l.getD k []) := by
  rw [List.getD_eq_getElem?_getD, List.getElem?_eq_getElem h]; rfl
theorem revI_at (l : List (List Int)) : ∀ i, 2 * i ≤ l.length → ∀ p, p < l.length → (revI l i)[p]? = if p < i ∨ l.length - 1 - i < p then some (l.getD (l.length - 1 - p) []) else some (l.getD p [])
  | 0, _, p, hp => by
    rw [revI, getD_get hp, if_neg (by omega)]
  | i + 1, hi, p, hp => by
    have ih := revI_at l i (by omega) p hp
    rw [revI, List.getElem?_set, List.length_set, revI_len]
    by_cases h1 : l.length - 1 - i = p
    · rw [if_pos h1, if_pos (by omega), if_pos (by omega)]
      rw [show l.length - 1 - p = i by omega]
    · rw [if_neg h1, List.getElem?_set, revI_len]
      by_cases h2 : i = p
      · subst h2
        rw [if_pos rfl, if_pos (by omega), if_pos (by omega)]
      · rw [if_neg h2, ih]
        by_cases h3 : p < i ∨ l.length - 1 - i < p
        · rw [if_pos h3, if_pos (by omega)]
        · rw [if_neg h3, if_neg (by omega)]
theorem revI_done {l : List (List Int)} {i : Nat} (h1 : 2 * i ≤ l.length) (h2 : l.length ≤ 2 * i + 1) : revI l i = l.reverse := by
  apply List.ext_getElem?
  intro p
  by_cases hp : p < l.length
  · rw [revI_at l i h1 p hp, List.getElem?_reverse hp, getD_get (by omega)]
    by_cases h3 : p < i ∨ l.length - 1 - i < p
    · rw [if_pos h3]
    · rw [if_neg h3, show l.length - 1 - p = p by omega]
  · rw [List.getElem?_eq_none (by rw [revI_len]; omega), List.getElem?_eq_none (by simp; omega)]
theorem revI_same (l : List (List Int)) {i p : Nat} (hi : 2 * i ≤ l.length) (h1 : i ≤ p) (h2 : p ≤ l.length - 1 - i) (hp : p < l.length) : (revI l i)[p]? = some (l.getD p []) := by
  rw [revI_at l i hi p hp, if_neg (by omega)]

/-! ### calls in any memory, more -/
def SubL (a b : List Nat) : Prop := ∀ g, g ∈ a → g ∈ b
noncomputable def kSub (E : Env) (res : List ResultVar) (r : CR) : KF := fun e _ st => match e with
  | .exit _ => False
  | _ => retP r.v (retV E.G st.tm st.H res) ∧ st.H = r.H ∧ st.nx = r.nx ∧ SubL st.lg r.lg
noncomputable def vcFiS (P : Program) (E : Env) (sp : SpecT) (gl : T (List V)) (n : Nat) (ars : List V) (H : T O) (nx : Nat) (hs : Hs) (r : CR) : Option FI → Prop
  | some fi => bif Nat.ble ars.length fi.ntmps then vc P E sp none nx n fi.body hs ⟨⟨putAllF (blank fi.ntmps) 0 ars, gl, fi.ntmps⟩, H, nx, []⟩ (kSub E fi.res r) else False
  | none => False
theorem CallSpec.of_vcS {P : Program} {E : Env} {sp : SpecT} (hE : E.Ok P) (hm : P.follows .mixedOrders = true) {gl : T (List V)} (hsp : SpecOk P gl sp) {n f : Nat} {ars : List V} {H : T O} {nx : Nat} {hs : Hs} {r : CR} (hlog : Log H.get nx r.H.get r.nx r.lg) (h : vcFiS P E sp gl n ars H nx hs r (E.code f)) : CallSpec P gl (.fn f []) ars H nx r := by
  unfold vcFiS at h
  split at h
  · rename_i fi hfi
    obtain ⟨hb, hv⟩ := bif_false h
    rw [putAllF_eq] at hv
    refine CallSpec.fnC hE hfi (by rw [List.append_nil]; exact hb) hlog (R := fun e st => (e = .normal ∨ e = .ret) ∧ retV E.G st.tm st.H fi.res = some r.v ∧ st.H = r.H ∧ st.nx = r.nx ∧ SubL st.lg r.lg) ?_ ?_
    · rw [List.append_nil]
      refine Sat.of_vc hE hm hsp rfl hv fun e hs' st' hg hk => ?_
      have fin : (retP r.v (retV E.G st'.tm st'.H fi.res) ∧ st'.H = r.H ∧ st'.nx = r.nx ∧ SubL st'.lg r.lg) → retV E.G st'.tm st'.H fi.res = some r.v ∧ st'.H = r.H ∧ st'.nx = r.nx ∧ SubL st'.lg r.lg := by
        rintro ⟨hret, k⟩
        refine ⟨?_, k⟩
        unfold retP at hret
        split at hret
        · rename_i u e; rw [e, hret]
        · exact hret.elim
      unfold kSub at hk
      cases e with
      | exit => exact hk.elim
      | normal => exact ⟨.inl rfl, fin hk⟩
      | ret => exact ⟨.inr rfl, fin hk⟩
    · rintro e st ⟨he, hret, h1, h2, h3⟩
      refine ⟨he, r.v, hret, fun s w ee w' _ _ ⟨u, s', k1, g1, g2, g3, g4, g5⟩ => ?_⟩
      dsimp only at g1 g2 g3 g4 g5
      rw [h1] at g2
      rw [h2] at g4 g5
      exact ⟨u, s', k1, g1, g2, g3.more h3, g4, g5⟩
  · exact h.elim

/-! ### the walk -/
theorem lay_set {c : List V} {j : Nat} {x : V} (h : j < c.length) : layE (0 + j * 1) c [x] = some (c.set j x) := by
  rw [Nat.zero_add, Nat.mul_one, layE_eq']
  have : Nat.ble (j + [x].length) c.length = true := Nat.ble_eq_true_of_le (by simp; omega)
  rw [this, cond_true]
  congr 1
  rw [List.set_eq_take_append_cons_drop, if_pos h]
  simp
theorem head_at {c : List V} {j : Nat} {x : V} (h : c[j]? = some x) : headF (dropF (0 + j * 1) c) = some x := by
  obtain ⟨hj, rfl⟩ := List.getElem?_eq_some_iff.1 h
  rw [Nat.zero_add, Nat.mul_one, dropF_eq, List.drop_eq_getElem_cons hj]; rfl
abbrev rO (sp : Option Nat) (l : List (List Int)) : O := .row 29 sp (l.map sl)
abbrev rvcS (h n : Nat) (room : Option Nat) (k i : Nat) : List (Nat × V) := [(0, .sl h 0 n room), (2, i6 i), (3, i6 (k - i : Nat))]
theorem rev_round (l : List (List Int)) (k : Nat) (hl : l.length = k + 1) (hk : k ≤ 1000) (h : Nat) (room sp : Option Nat) (H : T O) (nx : Nat) (lg1 : List Nat) (hlg : SubL lg1 [h]) (i : Nat) (hi : 2 * i ≤ k + 1) (hlt : i < k - i) (H1 : T O) (hH : H1 = pt H h (rO sp (revI l i))) (G : Ex → List (Nat × V) → T O → Nat → List Nat → Prop)
    (hG : ∀ lg2, SubL lg2 [h] → G .normal (rvcS h (k + 1) room k (i + 1)) (pt H h (rO sp (revI l (i + 1)))) nx lg2) :
    ∃ hs n, vc Pg vE sp0 none nx n (at' 51 [1, 0, 0]) hs (mkSo g0 28 (rvcS h (k + 1) room k i) H1 nx lg1) (kEndO 28 G) := by
  have hlen := revI_len l i
  have a1 := revI_same l (i := i) (p := i) (by omega) (Nat.le_refl _) (by omega) (by omega)
  have a2 := revI_same l (i := i) (p := k - i) (by omega) (by omega) (by omega) (by omega)
  have e1 : revI l (i + 1) = ((revI l i).set i (l.getD (k - i) [])).set (k - i) (l.getD i []) := by rw [revI, show l.length - 1 - i = k - i by omega]
  rw [e1] at hG
  generalize l.getD i [] = x at *
  generalize l.getD (k - i) [] = y at *
  generalize revI l i = c at *
  have b1 : (c.map sl)[i]? = some (sl x) := by rw [List.getElem?_map, a1]; rfl
  have b2 : (c.map sl)[k - i]? = some (sl y) := by rw [List.getElem?_map, a2]; rfl
  have d1 := head_at b1
  have d2 := head_at b2
  have l1 := lay_set (c := c.map sl) (j := i) (x := sl y) (by simp; omega)
  have l2 := lay_set (c := (c.set i y).map sl) (j := k - i) (x := sl x) (by simp; omega)
  rw [← List.map_set] at l1 l2
  have g1 : gt H1 h = some (rO sp c) := by rw [hH, gt_pt, if_pos rfl]
  have g2 : gt (pt H1 h (rO sp (c.set i y))) h = some (rO sp (c.set i y)) := by rw [gt_pt, if_pos rfl]
  have hfin : G .normal (rvcS h (k + 1) room k (i + 1)) (pt (pt H1 h (rO sp (c.set i y))) h (rO sp ((c.set i y).set (k - i) x))) nx ([h] ++ ([h] ++ lg1)) := by
    rw [hH, pt_pt, pt_pt]
    exact hG _ (fun g hg => by
      simp only [List.cons_append, List.nil_append, List.mem_cons] at hg
      rcases hg with rfl | rfl | hg
      · simp
      · simp
      · exact hlg g hg)
  have hki : ((k - i : Nat) : Int) - 1 = ((k - (i + 1) : Nat) : Int) := by omega
  refine ⟨[yes 9, pl 20, lo_ 21 (rO sp c) (sl y), pl 24, lo_ 25 (rO sp c) (sl x), pl 26, so (rO sp c) ((c.set i y).map sl), pl 27, so (rO sp (c.set i y)) (((c.set i y).set (k - i) x).map sl), nu 11 (i + 1 : Nat), nu 13 (k - (i + 1) : Nat), toO (rvcS h (k + 1) room k (i + 1))], 1000, ?_⟩
  clear hH hG e1 a1 a2
  refine Eq.mp (by kernel_rfl : (decide ((↑i : Int) < (↑(k - i) : Int)) = true ∧ ((0 : Int) ≤ (↑(k - i) : Int) ∧ (↑(k - i) : Int) < (↑(k + 1) : Int)) ∧ gt H1 h = some (rO sp c) ∧ headF (dropF (0 + (k - i) * 1) (List.map sl c)) = some (sl y) ∧ ((0 : Int) ≤ (↑i : Int) ∧ (↑i : Int) < (↑(k + 1) : Int)) ∧ gt H1 h = some (rO sp c) ∧ headF (dropF (0 + i * 1) (List.map sl c)) = some (sl x) ∧ ((0 : Int) ≤ (↑i : Int) ∧ (↑i : Int) < (↑(k + 1) : Int)) ∧ (gt H1 h = some (rO sp c) ∧ layE (0 + i * 1) (List.map sl c) [sl y] = some (List.map sl (List.set c i y))) ∧ ((0 : Int) ≤ (↑(k - i) : Int) ∧ (↑(k - i) : Int) < (↑(k + 1) : Int)) ∧ (gt (pt H1 h (O.row 29 sp (List.map sl (List.set c i y)))) h = some (rO sp (List.set c i y)) ∧ layE (0 + (k - i) * 1) (List.map sl (List.set c i y)) [sl x] = some (List.map sl (List.set (List.set c i y) (k - i) x))) ∧ wr IntKind.i64 ((↑i : Int) + (1 : Int)) = (↑(i + 1) : Int) ∧ wr IntKind.i64 ((↑(k - i) : Int) - (1 : Int)) = (↑(k - (i + 1)) : Int) ∧ G Ex.normal (rvcS h (k + 1) room k (i + 1)) (pt (pt H1 h (O.row 29 sp (List.map sl (List.set c i y)))) h (O.row 29 sp (List.map sl (List.set (List.set c i y) (k - i) x)))) nx ([h] ++ ([h] ++ lg1)) ∧ V.sl h 0 (k + 1) room = V.sl h 0 (k + 1) room ∧ V.int IntKind.i64 (↑(i + 1) : Int) = i6 (↑(i + 1) : Int) ∧ V.int IntKind.i64 (↑(k - (i + 1)) : Int) = i6 (↑(k - (i + 1)) : Int) ∧ True) = _) ?_
  (repeat' (first | (with_reducible apply And.intro) | (refine fun (_ : True) => ?_))) <;> first | exact aq | skip
  all_goals first | exact d1 | exact d2 | exact l1 | exact l2 | exact g1 | exact g2 | exact hfin | skip
theorem rev_stop (k i h : Nat) (hk : k ≤ 1000) (room : Option Nat) (hlt : ¬ i < k - i) (hi : 2 * i ≤ k + 1) (H1 : T O) (nx : Nat) (lg1 : List Nat) (G : Ex → List (Nat × V) → T O → Nat → List Nat → Prop) (hG : G (.exit 0) [] H1 nx lg1) :
    ∃ hs n, vc Pg vE sp0 none nx n (at' 51 [1, 0, 0]) hs (mkSo g0 28 (rvcS h (k + 1) room k i) H1 nx lg1) (kEndO 28 G) := by
  refine ⟨[no 9, toO []], 1000, ?_⟩
  refine Eq.mp (by kernel_rfl : (decide ((↑i : Int) < (↑(k - i) : Int)) = false ∧ G (Ex.exit 0) [] H1 nx lg1 ∧ True) = _) ?_
  (repeat' (first | (with_reducible apply And.intro) | (refine fun (_ : True) => ?_))) <;> first | exact aq | skip
theorem rev_loop (l : List (List Int)) (k : Nat) (hl : l.length = k + 1) (hk : k ≤ 1000) (h : Nat) (room sp : Option Nat) (H : T O) (nx : Nat) :
    Sat Pg none nx (at' 51 [1, 0]) (mkSo g0 28 (rvcS h (k + 1) room k 0) (pt H h (rO sp l)) nx []) (outsM g0 28 (.exit 0) (fun _ => []) (fun _ H' nx' lg' => H' = pt H h (rO sp l.reverse) ∧ nx' = nx ∧ SubL lg' [h])) := by
  refine (loopO vE_ok mixed sp0_ok (b := at' 51 [1, 0, 0]) (by kernel_rfl) (fun i M => 2 * i ≤ k + 1 ∧ M.H = pt H h (rO sp (revI l i)) ∧ M.nx = nx ∧ SubL M.lg [h]) (rvcS h (k + 1) room k) (fun i => k + 1 - i) (fun e sl' M => e = .exit 0 ∧ sl' = [] ∧ M.H = pt H h (rO sp l.reverse) ∧ M.nx = nx ∧ SubL M.lg [h]) (fun i H1 nx1 lg1 hI => ?_) 0 ⟨_, nx, []⟩ ⟨by omega, rfl, rfl, fun g hg => by cases hg⟩).mono ?_
  · obtain ⟨hi, hH, hnx, hlg⟩ := hI
    dsimp only at hH hnx hlg
    subst hnx
    by_cases hlt : i < k - i
    · exact rev_round l k hl hk h room sp H nx1 lg1 hlg i hi hlt H1 hH _ (fun lg2 hl2 => ⟨i + 1, ⟨by omega, rfl, rfl, hl2⟩, by dsimp only; omega, rfl⟩)
    · have hdone : revI l i = l.reverse := revI_done (by omega) (by omega)
      exact rev_stop k i h hk room hlt hi H1 nx1 lg1 _ ⟨rfl, rfl, by rw [← hdone]; exact hH, rfl, hlg⟩
  · rintro e st ⟨sl', M', rfl, rfl, rfl, h1, h2, h3⟩
    exact ⟨0, _, _, _, rfl, rfl, h1, h2, h3⟩
theorem reverse_any (l : List (List Int)) (k : Nat) (hl : l.length = k + 1) (hk : k ≤ 1000) (h : Nat) (room sp : Option Nat) (H : T O) (nx : Nat) (hg : gt H h = some (rO sp l)) :
    CallSpec Pg g0 (.fn 51 []) [.sl h 0 (k + 1) room] H nx ⟨.tup [], pt H h (rO sp l.reverse), nx, [h]⟩ := by
  have lp := rev_loop l k hl hk h room sp H nx
  rw [pt_same hg] at lp
  refine CallSpec.of_vcS vE_ok mixed sp0_ok (n := 1000) (hs := [nu 6 (k : Nat), (0, .loopM (rvcS h (k + 1) room k 0) (.exit 0) (fun _ => []) (fun _ H' nx' lg' => H' = pt H h (rO sp l.reverse) ∧ nx' = nx ∧ SubL lg' [h]) (fun _ _ _ _ => []))]) ?_ ?_
  · refine ⟨Nat.le_refl _, fun i hi hn => ?_⟩
    dsimp only at hi ⊢
    rw [pt_eq, T.get_put, if_neg (fun e => hi (by rw [e]; simp))]
  · refine Eq.mp (by kernel_rfl : (wr IntKind.i64 ((↑(k + 1) : Int) - (1 : Int)) = (↑k : Int) ∧ (V.sl h 0 (k + 1) room = V.sl h 0 (k + 1) room ∧ V.int IntKind.i64 (0 : Int) = i6 (↑(0 : Nat) : Int) ∧ V.int IntKind.i64 (↑k : Int) = i6 (↑(k - 0) : Int) ∧ True) ∧ Sat Tryd.prog none nx (at' 51 [1, 0]) (mkSo g0 28 (rvcS h (k + 1) room k 0) H nx []) (outsM g0 28 (Ex.exit 0) (fun x => []) fun x H' nx' lg' => H' = pt H h (rO sp (List.reverse l)) ∧ nx' = nx ∧ SubL lg' [h]) ∧ ∀ (h_1 : Nat) (H_1 : T O) (nx_1 : Nat) (lg : List Nat), (H_1 = pt H h (rO sp (List.reverse l)) ∧ nx_1 = nx ∧ ∀ (g : Nat), List.Mem g lg → List.Mem g [h]) → V.tup [] = V.tup [] ∧ H_1 = pt H h (rO sp (List.reverse l)) ∧ nx_1 = nx ∧ ∀ (g : Nat), List.Mem g lg → List.Mem g [h]) = _) ?_
    (repeat' (first | (with_reducible apply And.intro) | (refine fun (_ : True) => ?_))) <;> first | exact aq | skip
    all_goals skip
end Go.Proofs.YtglpoiaedkoecaaDoor.Am
