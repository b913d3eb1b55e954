/- Chapter 28: score.family, the second half: the rows add up, in whatever order the map hands them out. -/
import Derived.Test.YtglpoiaedkoecaaDoorE2
import Derived.Test.YtglpoiaedkoecaaDoorD8
import Derived.Test.YtglpoiaedkoecaaDoorD1
namespace Go.Proofs.YtglpoiaedkoecaaDoor.Am
open Go.RowKit
set_option linter.unusedVariables false
set_option maxHeartbeats 1000000
set_option maxRecDepth 100000

/-! ### the rows are written no more -/
def entF (r : Nat) : Nat → List (Nat × List Nat) → List (V × V × Nat)
  | _, [] => []
  | t, e :: es => (i6 (e.1 : Nat), .im r (nt e.2), t) :: entF r (t + 1) es
theorem entF_view {H : Nat → Option O} {F : Nat → Prop} {ρ : Nat → Option Nat} {r b : Nat} : ∀ (es : List (Nat × List Nat)) (t : Nat), (∀ a e, es[a]? = some e → F (b + (t + a)) ∧ H (b + (t + a)) = some (.row 3 none (nt e.2))) → ViewE H F ρ (entF r t es) (entR r b t es)
  | [], _, _ => rfl
  | e :: es, t, h => by
    obtain ⟨h1, h2⟩ := h 0 e rfl
    refine ⟨_, _, _, rfl, rfl, .inr (.inr ⟨b + t, 0, some (r - r), 3, none, nt e.2, rfl, h1, h2, ViewP.of_hf _ (HfL_nt _)⟩), entF_view es (t + 1) (fun a e' ha => ?_)⟩
    have := h (a + 1) e' (by simpa using ha)
    rwa [show t + (a + 1) = t + 1 + a by omega] at this
abbrev fcS (r : Nat) (os : List O) : SL := { sl := [(6, .ptr 1 0), (7, i6 r), (8, .mp 2)], os := os }
abbrev fcO (cards : List Nat) (cs : List (List Nat)) (r : Nat) (es : List (Nat × List Nat)) : List O := [dO cards cs, .row 41 none (arF zeroF), .map (entF r 0 es) es.length]
abbrev fbO (cards : List Nat) (cs : List (List Nat)) : List O := [dO cards cs, .row 41 none (arF zeroF), .map [] 0]

theorem HfL_ar (f : Nat → Int) : HfL (arF f) := by repeat' (first | exact trivial | refine And.intro trivial ?_)
theorem HfL_nls (cs : List (List Nat)) : HfL (cs.map nl) := HfL_map nl cs (fun _ => trivial)

theorem fam_count (cards : List Nat) (cs : List (List Nat)) (v ps r : Nat) (hc : CardsOk cards) (hcs : ∀ c ∈ cs, CaseOk cards c) (hv : v < cards.length) (hr : cards.getD v 0 = r) (hm : cs.length ≤ 40) :
    Sat Pg none 0 (at' 73 [1, 1, 1, 0, 1, 0]) (mkSt g0 113 { sl := fbS cs v ps r 0, os := fbO cards cs }) (outsP g0 113 [(True, .exit 0, fcS r (fcO cards cs r (entries r (pairsN cards v ps cs))))]) := by
  have h0 : FamI cards cs v ps r 0 ⟨ofOs .e 0 (fbO cards cs), 3, []⟩ := by
    refine ⟨Nat.zero_le _, ?_⟩
    have : entries r (pairsN cards v ps (cs.take 0)) = [] := rfl
    rw [this]
    exact ⟨rfl, rfl, rfl, rfl, fun a e h => by simp at h⟩
  refine Sat.gc_post ((fam_cases cards cs v ps r hc hcs hv hr hm _ h0).mono ?_)
  rintro e st ⟨sl, M', rfl, rfl, rfl, hH⟩
  generalize entries r (pairsN cards v ps cs) = es at *
  obtain ⟨H, nx, lg⟩ := M'
  have hnx : nx = 3 + es.length := hH.nx
  have h0 := hH.h0
  have h1 := hH.h1
  have h2 := hH.h2
  rw [gt_eq] at h0 h1 h2
  refine ⟨[0, 1, 2], mkSt g0 113 (fcS r (fcO cards cs r es)), ⟨rfl, fun g hg => ?_, by decide, rfl, rfl, fun i x hx => ?_, fun h o ho hl => ?_, fun h _ hlt => absurd hlt (Nat.not_lt_zero _)⟩, .inl ⟨trivial, rfl, rfl⟩⟩
  · refine ⟨Nat.zero_le _, ?_⟩
    show g < nx
    simp at hg; omega
  · have b6 : gt (putL (blank 113) (fbS cs v ps r cs.length)) 6 = some (.ptr 1 0) := by kernel_rfl
    have b7 : gt (putL (blank 113) (fbS cs v ps r cs.length)) 7 = some (i6 r) := by kernel_rfl
    have b8 : gt (putL (blank 113) (fbS cs v ps r cs.length)) 8 = some (.mp 2) := by kernel_rfl
    rw [gt_eq] at b6 b7 b8
    rcases putL_get _ _ _ _ hx with hmem | hmem
    · simp only [List.mem_cons, List.not_mem_nil, or_false] at hmem
      rcases hmem with h | h | h <;> cases h
      · exact ⟨_, b6, 1, rfl, rfl⟩
      · exact ⟨_, b7, rfl⟩
      · exact ⟨_, b8, 2, rfl, rfl⟩
    · rw [blank_get] at hmem; cases hmem
  · rcases ofOs_get _ _ _ _ _ ho with ⟨_, hm⟩ | hm
    · rw [Nat.sub_zero] at hm
      rcases h with _ | _ | _ | h
      · cases hm; exact ⟨0, _, rfl, h0, _, rfl, ViewL.of_hf _ ⟨trivial, trivial, trivial⟩⟩
      · cases hm; exact ⟨1, _, rfl, h1, _, rfl, ViewL.of_hf _ (HfL_ar _)⟩
      · cases hm
        refine ⟨2, _, rfl, h2, _, rfl, entF_view es 0 (fun a e ha => ⟨⟨Nat.zero_le _, ?_, fun _ _ => Nat.zero_le _⟩, ?_⟩)⟩
        · simp; omega
        · have := (hH.row a e ha).1
          rw [gt_eq] at this
          rw [Nat.zero_add]; exact this
      · simp at hm
    · simp at hm

/-! ### the table of factorials -/
theorem place173 {g c : Nat} (h : c < 44) : placeV (ctxOf Pg) 173 (.ptr g 0) (c : Int) = some (.ptr g (c * 18)) := by
  have h1 : (ctxOf Pg).ty 173 = some ⟨.array 44 41, 792, 6336, true, ((ctxOf Pg).ty 173).bind (·.zero)⟩ := by kernel_rfl
  have h2 : (ctxOf Pg).ty 41 = some ⟨.array 18 3, 18, 144, true, ((ctxOf Pg).ty 41).bind (·.zero)⟩ := by kernel_rfl
  unfold placeV
  rw [h1]
  dsimp only
  rw [h2]
  dsimp only
  rw [if_pos ⟨by omega, by omega⟩]
  simp [addOff]
/-- what is asked of the table: its lists, and how great its numbers may be -/
structure TabOk (F : Nat → Nat → Int) (tb : List V) : Prop where
  take : ∀ c, c < 44 → takeE 18 (dropF (c * 18) tb) = some (arF (F c))
  bd : ∀ c i, c < 44 → i < 18 → 0 ≤ F c i ∧ F c i ≤ 50
  hf : HfL tb
def addA (f g : Nat → Int) (s : Int) : Nat → Int := fun i => f i + s * g i
theorem comb (f g : Nat → Int) (s : Int) (ha : ∀ k, k < 18 → -1000000 ≤ f k ∧ f k ≤ 1000000) (hb : ∀ k, k < 18 → -1000000 ≤ s * g k ∧ s * g k ≤ 1000000) : FnOk Pg g0 79 [ar f, ar g, i6 s] (ar (addA f g s)) := by
  have h := combine_fn f g s ha hb
  have e : arF (mixF f g s 18) = arF (addA f g s) := ar_congr fun k hk => by rw [mixF_at, if_pos hk]; rfl
  rw [show ar (mixF f g s 18) = ar (addA f g s) from congrArg V.agg e] at h
  exact h

/-! ### a row's numbers -/
section
variable (r : Nat) (E : List (V × V × Nat)) (n : Nat) (tb : List V) (seen : List Nat)
abbrev fmO (f : Nat → Int) : List O := [.dead, .row 41 none (arF zeroF), .map E n, .row 173 none tb, .row 41 none (arF f), .iter (some 2) n seen n]
abbrev fmB : List (Nat × V) := [(6, .ptr 1 0), (7, i6 r), (14, .ptr 3 0), (15, .ptr 4 0), (78, .ptr 5 0)]
abbrev fmS (f : Nat → Int) : SL := { sl := [(6, .ptr 1 0), (7, i6 r), (14, .ptr 3 0), (15, .ptr 4 0), (78, .ptr 5 0)], os := fmO E n tb seen f }
abbrev flS (l : List Nat) (q : Nat × Nat × (Nat → Int)) : SL := { sl := [(6, .ptr 1 0), (7, i6 r), (14, .ptr 3 0), (15, .ptr 4 0), (78, .ptr 5 0), (18, i6 q.2.1), (83, nl l), (84, i6 l.length), (85, i6 q.1)], os := fmO E n tb seen q.2.2 }
abbrev flX (s : Nat) (f : Nat → Int) : SL := { sl := [(6, .ptr 1 0), (7, i6 r), (14, .ptr 3 0), (15, .ptr 4 0), (78, .ptr 5 0), (18, i6 s)], os := fmO E n tb seen f }
end
def sumA (F : Nat → Nat → Int) (f : Nat → Int) (l : List Nat) : Nat → (Nat → Int)
  | 0 => f
  | k + 1 => addA (sumA F f l k) (F (l.getD k 0)) 1
theorem sumA_at (F : Nat → Nat → Int) (f : Nat → Int) (l : List Nat) (i : Nat) : ∀ k, k ≤ l.length → sumA F f l k i = f i + sumI ((l.take k).map fun c => F c i)
  | 0, _ => by simp [sumA, sumI]
  | k + 1, h => by
    have := sumA_at F f l i k (by omega)
    unfold sumA addA
    rw [this, List.take_add_one, List.map_append, sumI_append, List.getElem?_eq_getElem (by omega), List.getD_eq_getElem?_getD, List.getElem?_eq_getElem (by omega)]
    simp [sumI]; omega
theorem sum_bd {F : Nat → Nat → Int} {tb : List V} (h : TabOk F tb) {i : Nat} (hi : i < 18) : ∀ l : List Nat, (∀ c ∈ l, c < 44) → 0 ≤ sumI (l.map fun c => F c i) ∧ sumI (l.map fun c => F c i) ≤ 50 * l.length
  | [], _ => by simp [sumI]
  | c :: l, hl => by
    have h1 := sum_bd h hi l (fun x hx => hl x (List.mem_cons_of_mem _ hx))
    have h2 := h.bd c i (hl c List.mem_cons_self) hi
    simp only [List.map_cons, sumI, List.length_cons]
    omega
theorem fam_list (r n : Nat) (E : List (V × V × Nat)) (tb : List V) (seen : List Nat) (F : Nat → Nat → Int) (ht : TabOk F tb) (hE : HfE E) (l : List Nat) (hl : ∀ c ∈ l, c < 44) (hl4 : l.length ≤ 4) (hs : sumN l ≤ 43) (f : Nat → Int) (hf : ∀ k, k < 18 → -900000 ≤ f k ∧ f k ≤ 900000) (g : Nat → Int) (hg : g = sumA F f l l.length) (s : Nat) (hsum : s = sumN l) :
    Sat Pg none 0 (at' 73 [1, 1, 1, 1, 1, 1, 0, 1, 0, 0, 1, 1, 0, 1, 1, 0, 1, 0]) (mkSt g0 113 (flS r E n tb seen l (0, 0, f))) (outsP g0 113 [(True, .exit 6, flX r E n tb seen s g)]) := by
  refine loopC vE_ok mixed sp0_ok (b := at' 73 [1, 1, 1, 1, 1, 1, 0, 1, 0, 0, 1, 1, 0, 1, 1, 0, 1, 0, 0]) (by kernel_rfl) (fun q => q.1 ≤ l.length ∧ q.2.1 = sumN (l.take q.1) ∧ q.2.2 = sumA F f l q.1) (flS r E n tb seen l) (fun q => l.length - q.1) (fun q hq => ?_) (0, 0, f) ⟨Nat.zero_le _, rfl, rfl⟩
  obtain ⟨k, u, a⟩ := q
  obtain ⟨hk, hu, ha⟩ := hq
  dsimp only at hk hu ha
  by_cases hlt : k < l.length
  · have hld := @head_nt l k hlt
    have hc : l.getD k 0 < 44 := hl _ (by rw [List.getD_eq_getElem?_getD, List.getElem?_eq_getElem hlt]; exact List.getElem_mem hlt)
    have htk := ht.take _ hc
    have hpl := @place173 3 _ hc
    have hsn : sumN (l.take (k + 1)) = u + l.getD k 0 := by
      rw [List.take_add_one, sumN_append, ← hu, List.getElem?_eq_getElem hlt, List.getD_eq_getElem?_getD, List.getElem?_eq_getElem hlt]; simp [sumN]
    have hle : sumN (l.take (k + 1)) ≤ sumN l := by
      have := sumN_append (l.take (k + 1)) (l.drop (k + 1))
      rw [List.take_append_drop] at this; omega
    have hbd := fun i (hi : i < 18) => sum_bd ht hi (l.take k) (fun c hc => hl c (List.mem_of_mem_take hc))
    have hcb := fun i (hi : i < 18) => ht.bd _ i hc hi
    have hcomb := comb a (F (l.getD k 0)) 1 (fun i hi => by
      have := hbd i hi; have := hf i hi
      rw [ha, sumA_at _ _ _ _ _ hk]
      have : (l.take k).length ≤ 4 := by rw [List.length_take]; omega
      omega) (fun i hi => by have := hcb i hi; omega)
    have hnext : addA a (F (l.getD k 0)) 1 = sumA F f l (k + 1) := by rw [ha]; rfl
    have htf := ht.hf
    generalize l.getD k 0 = c at *
    generalize F c = fc at *
    refine .inl ⟨(k + 1, u + c, addA a fc 1), [0, 1, 2, 3, 4, 5], [yes 86, pl 87, ld 88 (i6 c), nu 91 (u + c : Nat), va 94 (.ptr 3 (c * 18)), ld 95 (ar fc), fn 96 (ar (addA a fc 1)), nu 97 (k + 1 : Nat)], 1000, ⟨hlt, hsn.symm, hnext⟩, by dsimp only; omega, ?_⟩
    generalize addA a fc 1 = a' at *
    refine Eq.mp (by kernel_rfl : (decide ((↑k : Int) < (↑(List.length l) : Int)) = true ∧ ((0 : Int) ≤ (↑k : Int) ∧ (↑k : Int) < (↑(List.length l) : Int)) ∧ headF (List.drop (k * 1) (nt l)) = some (i6 (↑c : Int)) ∧ wr IntKind.i64 ((↑u : Int) + (↑c : Int)) = (↑(u + c) : Int) ∧ placeV (ctxOf Tryd.prog) 173 (V.ptr 3 0) (↑c : Int) = some (V.ptr 3 (c * 18)) ∧ takeE 18 (dropF (c * 18) tb) = some (arF fc) ∧ ((True ∧ True ∧ True ∧ True ∧ True ∧ True ∧ True ∧ True ∧ True ∧ True ∧ True ∧ True ∧ True ∧ True ∧ True ∧ True ∧ True ∧ True ∧ True) ∧ (True ∧ True ∧ True ∧ True ∧ True ∧ True ∧ True ∧ True ∧ True ∧ True ∧ True ∧ True ∧ True ∧ True ∧ True ∧ True ∧ True ∧ True ∧ True) ∧ True ∧ True) ∧ FnOk Tryd.prog g0 79 [V.agg [V.int IntKind.i64 (a 0), V.int IntKind.i64 (a 1), V.int IntKind.i64 (a 2), V.int IntKind.i64 (a 3), V.int IntKind.i64 (a 4), V.int IntKind.i64 (a 5), V.int IntKind.i64 (a 6), V.int IntKind.i64 (a 7), V.int IntKind.i64 (a 8), V.int IntKind.i64 (a 9), V.int IntKind.i64 (a 10), V.int IntKind.i64 (a 11), V.int IntKind.i64 (a 12), V.int IntKind.i64 (a 13), V.int IntKind.i64 (a 14), V.int IntKind.i64 (a 15), V.int IntKind.i64 (a 16), V.int IntKind.i64 (a 17)], V.agg [V.int IntKind.i64 (fc 0), V.int IntKind.i64 (fc 1), V.int IntKind.i64 (fc 2), V.int IntKind.i64 (fc 3), V.int IntKind.i64 (fc 4), V.int IntKind.i64 (fc 5), V.int IntKind.i64 (fc 6), V.int IntKind.i64 (fc 7), V.int IntKind.i64 (fc 8), V.int IntKind.i64 (fc 9), V.int IntKind.i64 (fc 10), V.int IntKind.i64 (fc 11), V.int IntKind.i64 (fc 12), V.int IntKind.i64 (fc 13), V.int IntKind.i64 (fc 14), V.int IntKind.i64 (fc 15), V.int IntKind.i64 (fc 16), V.int IntKind.i64 (fc 17)], V.int IntKind.i64 (1 : Int)] (ar a') ∧ True ∧ wr IntKind.i64 ((↑k : Int) + (1 : Int)) = (↑(k + 1) : Int) ∧ (0 = 0 ∧ (↑r : Int) = (↑r : Int) ∧ 0 = 0 ∧ 0 = 0 ∧ 0 = 0 ∧ (↑(u + c) : Int) = (↑(u + c) : Int) ∧ (List.length l = List.length l ∧ nt l = nt l) ∧ (↑(List.length l) : Int) = (↑(List.length l) : Int) ∧ (↑(k + 1) : Int) = (↑(k + 1) : Int) ∧ True) ∧ True ∧ (arF zeroF = arF zeroF ∧ True ∧ True ∧ True ∧ True ∧ True ∧ True ∧ True ∧ True ∧ True ∧ True ∧ True ∧ True ∧ True ∧ True ∧ True ∧ True ∧ True ∧ True ∧ True) ∧ (E = E ∧ HfE E ∧ n = n) ∧ (tb = tb ∧ HfL tb) ∧ (arF a' = [i6 (a' 0), i6 (a' 1), i6 (a' 2), i6 (a' 3), i6 (a' 4), i6 (a' 5), i6 (a' 6), i6 (a' 7), i6 (a' 8), i6 (a' 9), i6 (a' 10), i6 (a' 11), i6 (a' 12), i6 (a' 13), i6 (a' 14), i6 (a' 15), i6 (a' 16), i6 (a' 17)] ∧ True ∧ True ∧ True ∧ True ∧ True ∧ True ∧ True ∧ True ∧ True ∧ True ∧ True ∧ True ∧ True ∧ True ∧ True ∧ True ∧ True ∧ True ∧ True) ∧ (n = n ∧ seen = seen ∧ n = n) ∧ True) = _) ?_
    exact au
  · have : k = l.length := by omega
    subst this
    rw [List.take_length] at hu
    obtain rfl : u = s := hu.trans hsum.symm
    obtain rfl : a = g := ha.trans hg.symm
    have htf := ht.hf
    refine .inr ⟨.exit 6, [0, 1, 2, 3, 4, 5], flX r E n tb seen u a, [no 86], 1000, .inl ⟨trivial, rfl, rfl⟩, ?_⟩
    refine Eq.mp (by kernel_rfl : (decide ((↑(List.length l) : Int) < (↑(List.length l) : Int)) = false ∧ (0 = 0 ∧ (↑r : Int) = (↑r : Int) ∧ 0 = 0 ∧ 0 = 0 ∧ 0 = 0 ∧ (↑u : Int) = (↑u : Int) ∧ True) ∧ True ∧ (arF zeroF = arF zeroF ∧ True ∧ True ∧ True ∧ True ∧ True ∧ True ∧ True ∧ True ∧ True ∧ True ∧ True ∧ True ∧ True ∧ True ∧ True ∧ True ∧ True ∧ True ∧ True) ∧ (E = E ∧ HfE E ∧ n = n) ∧ (tb = tb ∧ HfL tb) ∧ (arF a = arF a ∧ True ∧ True ∧ True ∧ True ∧ True ∧ True ∧ True ∧ True ∧ True ∧ True ∧ True ∧ True ∧ True ∧ True ∧ True ∧ True ∧ True ∧ True ∧ True) ∧ (n = n ∧ seen = seen ∧ n = n) ∧ True) = _) ?_
    exact au

end Go.Proofs.YtglpoiaedkoecaaDoor.Am
