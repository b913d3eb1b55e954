/- Chapter 28: score.family, the first half: the cases are counted, row by row. -/
import Derived.Test.YtglpoiaedkoecaaDoorE1
namespace Go.Proofs.YtglpoiaedkoecaaDoor.Am
open Go.RowKit
set_option linter.unusedVariables false
set_option maxHeartbeats 1000000
set_option maxRecDepth 100000

/-! ### the map of counts -/
/-- its entries, while the rows are written: row t is block b + t -/
def entR (r b : Nat) : Nat → List (Nat × List Nat) → List (V × V × Nat)
  | _, [] => []
  | t, e :: es => (i6 (e.1 : Nat), .sl (b + t) 0 r (some (r - r)), t) :: entR r b (t + 1) es
def idxOf (q : Nat) : List (Nat × List Nat) → Option Nat
  | [] => none
  | e :: es => if e.1 = q then some 0 else (idxOf q es).map (· + 1)
theorem findV_ent (r b q : Nat) : ∀ (es : List (Nat × List Nat)) (t j : Nat), findV .i64 (q : Int) (entR r b t es) j = some ((idxOf q es).map fun a => (j + a, V.sl (b + t + a) 0 r (some (r - r))))
  | [], _, _ => rfl
  | e :: es, t, j => by
    unfold entR findV idxOf
    rw [if_pos rfl]
    by_cases h : e.1 = q
    · rw [if_pos (by rw [h]), if_pos h]; rfl
    · rw [if_neg (by intro h'; exact h (Int.ofNat.inj h').symm), if_neg h, findV_ent r b q es (t + 1) (j + 1)]
      cases idxOf q es with
      | none => rfl
      | some a =>
        simp only [Option.map_some]
        rw [show j + 1 + a = j + (a + 1) by omega, show b + (t + 1) + a = b + t + (a + 1) by omega]
theorem bump_new {r q k : Nat} : ∀ {es : List (Nat × List Nat)}, idxOf q es = none → bump r q k es = es ++ [(q, (List.replicate r 0).set k 1)]
  | [], _ => rfl
  | (p, l) :: es, h => by
    unfold idxOf at h
    by_cases hp : p = q
    · rw [if_pos hp] at h; cases h
    · rw [if_neg hp] at h
      unfold bump
      rw [if_neg hp, bump_new (by simpa using h)]; rfl
theorem bump_old {r q k a : Nat} : ∀ {es : List (Nat × List Nat)} {a : Nat}, idxOf q es = some a → ∃ l, es[a]? = some (q, l) ∧ bump r q k es = es.set a (q, l.set k (l.getD k 0 + 1))
  | [], _, h => by cases h
  | (p, l) :: es, a, h => by
    unfold idxOf at h
    unfold bump
    by_cases hp : p = q
    · rw [if_pos hp] at h; cases h
      subst hp
      exact ⟨l, rfl, by rw [if_pos rfl]; rfl⟩
    · rw [if_neg hp] at h
      rw [if_neg hp]
      cases hi : idxOf q es with
      | none => rw [hi] at h; cases h
      | some a' =>
        rw [hi] at h; cases h
        obtain ⟨l', h1, h2⟩ := bump_old (a := a) (r := r) (k := k) hi
        exact ⟨l', by simpa using h1, by rw [h2]; rfl⟩
theorem entR_snoc (r b : Nat) (e : Nat × List Nat) : ∀ (es : List (Nat × List Nat)) (t : Nat), entR r b t (es ++ [e]) = entR r b t es ++ [(i6 (e.1 : Nat), .sl (b + (t + es.length)) 0 r (some (r - r)), t + es.length)]
  | [], t => rfl
  | x :: es, t => by
    rw [List.cons_append, entR, entR, entR_snoc r b e es (t + 1), List.cons_append, List.length_cons, show t + 1 + es.length = t + (es.length + 1) by omega]
theorem entR_set (r b q : Nat) (l l' : List Nat) : ∀ (es : List (Nat × List Nat)) (t a : Nat), es[a]? = some (q, l) → entR r b t (es.set a (q, l')) = entR r b t es
  | [], _, _, h => by simp at h
  | x :: es, t, 0, h => by
    obtain rfl : x = (q, l) := by simpa using h
    rfl
  | x :: es, t, a + 1, h => by
    rw [List.set_cons_succ, entR, entR, entR_set r b q l l' es (t + 1) a (by simpa using h)]

/-! ### the row of a case -/
section
variable (cards : List Nat) (cs : List (List Nat)) (v ps r : Nat)
abbrev dO : O := .row 32 none [nl cards, cV cs]
abbrev fbS (i : Nat) : List (Nat × V) := [(1, i6 v), (2, u6 ps), (3, .ptr 0 0), (6, .ptr 1 0), (7, i6 r), (8, .mp 2), (28, cV cs), (29, i6 cs.length), (30, i6 i)]
abbrev frS (vals : List Nat) (i : Nat) (q : Nat × Nat) : List (Nat × V) := [(1, i6 v), (2, u6 ps), (3, .ptr 0 0), (6, .ptr 1 0), (7, i6 r), (8, .mp 2), (28, cV cs), (29, i6 cs.length), (30, i6 i), (10, nl vals), (11, i6 q.2), (35, nl cards), (36, i6 cards.length), (37, i6 q.1)]
abbrev frX (vals : List Nat) (i : Nat) (w : Nat) : List (Nat × V) := [(1, i6 v), (2, u6 ps), (3, .ptr 0 0), (6, .ptr 1 0), (7, i6 r), (8, .mp 2), (28, cV cs), (29, i6 cs.length), (30, i6 i), (10, nl vals), (11, i6 w)]
end
theorem fam_row (cards : List Nat) (cs : List (List Nat)) (v ps r : Nat) (vals : List Nat) (i : Nat) (hc : CardsOk cards) (hv : CaseOk cards vals) (H : T O) (nx : Nat) (lg : List Nat) (w : Nat) (hw : w = rowN cards ps vals cards.length) :
    Sat Pg none 0 (at' 73 [1, 1, 1, 0, 1, 0, 0, 1, 1, 0, 0, 1, 1, 0, 1, 0]) (mkSo g0 113 (frS cards cs v ps r vals i (0, 0)) H nx lg) (outsF g0 113 H nx lg [(True, .exit 2, frX cs v ps r vals i w)]) := by
  refine loopFr (b := at' 73 [1, 1, 1, 0, 1, 0, 0, 1, 1, 0, 0, 1, 1, 0, 1, 0, 0]) (by kernel_rfl) (fun q => q.1 ≤ cards.length ∧ q.2 = rowN cards ps vals q.1) (frS cards cs v ps r vals i) (fun q => cards.length - q.1) _ H nx lg (fun q G hq hN hE => ?_) (0, 0) ⟨Nat.zero_le _, rfl⟩
  obtain ⟨k, u⟩ := q
  obtain ⟨hk, hu⟩ := hq
  dsimp only at hk hu
  have h6 := hc.six
  by_cases hlt : k < cards.length
  · have hcd := hc.each k hlt
    have hvl := hv.lt k hlt
    have hlen := hv.len
    have hb := rowN_bd hc hv ps (k := k) (by omega)
    have hld := @head_nt cards k hlt
    have hld2 := @head_nt vals k (by omega)
    have hshr := @shr_u (ctxOf Pg) 28 ps k (by omega)
    have hand := @and1_u (ctxOf Pg) 28 (ps / 2 ^ k)
    rw [← hu] at hb
    by_cases hbit : ps / 2 ^ k % 2 = 1
    · have hrow : rowN cards ps vals (k + 1) = u * cards.getD k 0 + vals.getD k 0 := by
        show (if _ then _ else _) = _
        rw [if_pos hbit, hu]
      have hmul : u * cards.getD k 0 ≤ 4096 * 4 := Nat.mul_le_mul (by omega) hcd.2
      generalize cards.getD k 0 = c at *
      generalize vals.getD k 0 = x at *
      have hcast : ((u : Int) * (c : Int)) = ((u * c : Nat) : Int) := by simp
      generalize u * c = uc at *
      refine ⟨[yes 38, pl 40, ld 41 (i6 (c : Nat)), va 44 (u6 (ps / 2 ^ k : Nat)), va 45 (u6 (ps / 2 ^ k % 2 : Nat)), yes 46, nu 49 (uc : Nat), pl 52, ld 53 (i6 (x : Nat)), nu 54 (uc + x : Nat), nu 55 (k + 1 : Nat), toO (frS cards cs v ps r vals i (k + 1, uc + x))], 1000, ?_⟩
      refine Eq.mp (by kernel_rfl : (decide ((↑k : Int) < (↑(List.length cards) : Int)) = true ∧ ((0 : Int) ≤ (↑k : Int) ∧ (↑k : Int) < (↑(List.length cards) : Int)) ∧ headF (List.drop (k * 1) (nt cards)) = some (i6 (↑c : Int)) ∧ binV (ctxOf Tryd.prog) BinOp.shr 28 (u6 (↑ps : Int)) (i6 (↑k : Int)) = some (u6 (↑(ps / 2 ^ k) : Int)) ∧ binV (ctxOf Tryd.prog) BinOp.and 28 (u6 (↑(ps / 2 ^ k) : Int)) (V.int IntKind.u64 (1 : Int)) = some (u6 (↑(ps / 2 ^ k % 2) : Int)) ∧ ((↑(ps / 2 ^ k % 2) : Int) == (1 : Int)) = true ∧ wr IntKind.i64 ((↑u : Int) * (↑c : Int)) = (↑uc : Int) ∧ ((0 : Int) ≤ (↑k : Int) ∧ (↑k : Int) < (↑(List.length vals) : Int)) ∧ headF (List.drop (k * 1) (nt vals)) = some (i6 (↑x : Int)) ∧ wr IntKind.i64 ((↑uc : Int) + (↑x : Int)) = (↑(uc + x) : Int) ∧ wr IntKind.i64 ((↑k : Int) + (1 : Int)) = (↑(k + 1) : Int) ∧ G Ex.normal (frS cards cs v ps r vals i (k + 1, uc + x)) H nx lg ∧ i6 (↑v : Int) = i6 (↑v : Int) ∧ u6 (↑ps : Int) = u6 (↑ps : Int) ∧ V.ptr 0 0 = V.ptr 0 0 ∧ V.ptr 1 0 = V.ptr 1 0 ∧ i6 (↑r : Int) = i6 (↑r : Int) ∧ V.mp 2 = V.mp 2 ∧ cV cs = cV cs ∧ i6 (↑(List.length cs) : Int) = i6 (↑(List.length cs) : Int) ∧ i6 (↑i : Int) = i6 (↑i : Int) ∧ nl vals = nl vals ∧ V.int IntKind.i64 (↑(uc + x) : Int) = i6 (↑(uc + x) : Int) ∧ nl cards = nl cards ∧ i6 (↑(List.length cards) : Int) = i6 (↑(List.length cards) : Int) ∧ V.int IntKind.i64 (↑(k + 1) : Int) = i6 (↑(k + 1) : Int) ∧ True) = _) ?_
      (repeat' (first | (with_reducible apply And.intro) | (refine fun (_ : True) => ?_))) <;> first | exact aq | skip
      all_goals exact hN (k + 1, uc + x) ⟨hlt, hrow.symm⟩ (by dsimp only; omega)
    · have hrow : rowN cards ps vals (k + 1) = u := by
        show (if _ then _ else _) = _
        rw [if_neg hbit, hu]
      generalize cards.getD k 0 = c at *
      refine ⟨[yes 38, pl 40, ld 41 (i6 (c : Nat)), va 44 (u6 (ps / 2 ^ k : Nat)), va 45 (u6 (ps / 2 ^ k % 2 : Nat)), no 46, nu 55 (k + 1 : Nat), toO (frS cards cs v ps r vals i (k + 1, u))], 1000, ?_⟩
      refine Eq.mp (by kernel_rfl : (decide ((↑k : Int) < (↑(List.length cards) : Int)) = true ∧ ((0 : Int) ≤ (↑k : Int) ∧ (↑k : Int) < (↑(List.length cards) : Int)) ∧ headF (List.drop (k * 1) (nt cards)) = some (i6 (↑c : Int)) ∧ binV (ctxOf Tryd.prog) BinOp.shr 28 (u6 (↑ps : Int)) (i6 (↑k : Int)) = some (u6 (↑(ps / 2 ^ k) : Int)) ∧ binV (ctxOf Tryd.prog) BinOp.and 28 (u6 (↑(ps / 2 ^ k) : Int)) (V.int IntKind.u64 (1 : Int)) = some (u6 (↑(ps / 2 ^ k % 2) : Int)) ∧ ((↑(ps / 2 ^ k % 2) : Int) == (1 : Int)) = false ∧ wr IntKind.i64 ((↑k : Int) + (1 : Int)) = (↑(k + 1) : Int) ∧ G Ex.normal (frS cards cs v ps r vals i (k + 1, u)) H nx lg ∧ i6 (↑v : Int) = i6 (↑v : Int) ∧ u6 (↑ps : Int) = u6 (↑ps : Int) ∧ V.ptr 0 0 = V.ptr 0 0 ∧ V.ptr 1 0 = V.ptr 1 0 ∧ i6 (↑r : Int) = i6 (↑r : Int) ∧ V.mp 2 = V.mp 2 ∧ cV cs = cV cs ∧ i6 (↑(List.length cs) : Int) = i6 (↑(List.length cs) : Int) ∧ i6 (↑i : Int) = i6 (↑i : Int) ∧ nl vals = nl vals ∧ i6 (↑u : Int) = i6 (↑u : Int) ∧ nl cards = nl cards ∧ i6 (↑(List.length cards) : Int) = i6 (↑(List.length cards) : Int) ∧ V.int IntKind.i64 (↑(k + 1) : Int) = i6 (↑(k + 1) : Int) ∧ True) = _) ?_
      (repeat' (first | (with_reducible apply And.intro) | (refine fun (_ : True) => ?_))) <;> first | exact aq | skip
      all_goals exact hN (k + 1, u) ⟨hlt, hrow.symm⟩ (by dsimp only; omega)
  · have : k = cards.length := by omega
    subst this
    obtain rfl : u = w := hu.trans hw.symm
    refine ⟨[no 38, toO (frX cs v ps r vals i u)], 1000, ?_⟩
    refine Eq.mp (by kernel_rfl : (decide ((↑(List.length cards) : Int) < (↑(List.length cards) : Int)) = false ∧ G (Ex.exit 2) (frX cs v ps r vals i u) H nx lg ∧ i6 (↑v : Int) = i6 (↑v : Int) ∧ u6 (↑ps : Int) = u6 (↑ps : Int) ∧ V.ptr 0 0 = V.ptr 0 0 ∧ V.ptr 1 0 = V.ptr 1 0 ∧ i6 (↑r : Int) = i6 (↑r : Int) ∧ V.mp 2 = V.mp 2 ∧ cV cs = cV cs ∧ i6 (↑(List.length cs) : Int) = i6 (↑(List.length cs) : Int) ∧ i6 (↑i : Int) = i6 (↑i : Int) ∧ nl vals = nl vals ∧ i6 (↑u : Int) = i6 (↑u : Int) ∧ True) = _) ?_
    (repeat' (first | (with_reducible apply And.intro) | (refine fun (_ : True) => ?_))) <;> first | exact aq | skip
    all_goals exact hE _ _ (.inl ⟨trivial, rfl, rfl⟩)

/-! ### all cases -/
/-- the row and the value of each case -/
def pairsN (cards : List Nat) (v ps : Nat) (cs : List (List Nat)) : List (Nat × Nat) := cs.map fun c => (rowN cards ps c cards.length, c.getD v 0)
structure FamH (cards : List Nat) (cs : List (List Nat)) (r : Nat) (es : List (Nat × List Nat)) (M : Mem) : Prop where
  h0 : gt M.H 0 = some (dO cards cs)
  h1 : gt M.H 1 = some (.row 41 none (arF zeroF))
  h2 : gt M.H 2 = some (.map (entR r 3 0 es) es.length)
  nx : M.nx = 3 + es.length
  row : ∀ a e, es[a]? = some e → gt M.H (3 + a) = some (.row 3 none (nt e.2)) ∧ e.2.length = r
abbrev FamI (cards : List Nat) (cs : List (List Nat)) (v ps r : Nat) (i : Nat) (M : Mem) : Prop := i ≤ cs.length ∧ FamH cards cs r (entries r (pairsN cards v ps (cs.take i))) M
theorem pairs_snoc {cards : List Nat} {v ps i : Nat} {cs : List (List Nat)} {c : List Nat} (h : cs[i]? = some c) : pairsN cards v ps (cs.take (i + 1)) = pairsN cards v ps (cs.take i) ++ [(rowN cards ps c cards.length, c.getD v 0)] := by
  rw [List.take_add_one, h]; simp [pairsN]

theorem famH_new {cards : List Nat} {cs : List (List Nat)} {r q k : Nat} {es : List (Nat × List Nat)} {H H' : T O} {nx : Nat} {lg lg' : List Nat} (h : FamH cards cs r es ⟨H, nx, lg⟩) (hi : idxOf q es = none)
    (hg : ∀ j, gt H' j = if j = nx then some (.row 3 none (nt ((List.replicate r 0).set k 1))) else if j = 2 then some (.map (entR r 3 0 es ++ [(i6 (q : Nat), .sl nx 0 r (some (r - r)), es.length)]) (es.length + 1)) else gt H j) : FamH cards cs r (bump r q k es) ⟨H', nx + 1, lg'⟩ := by
  have hnx : nx = 3 + es.length := h.nx
  rw [bump_new hi]
  refine ⟨?_, ?_, ?_, by simp only [List.length_append, List.length_cons, List.length_nil]; omega, fun a e ha => ?_⟩
  · rw [hg, if_neg (by omega), if_neg (by omega)]; exact h.h0
  · rw [hg, if_neg (by omega), if_neg (by omega)]; exact h.h1
  · rw [hg, if_neg (by omega), if_pos rfl, entR_snoc]
    simp only [Nat.zero_add, hnx, List.length_append, List.length_cons, List.length_nil]
  · rw [hg]
    rw [List.getElem?_append] at ha
    split at ha
    · rename_i hlt
      rw [if_neg (by omega), if_neg (by omega)]
      exact h.row a e ha
    · rename_i hge
      have ha0 : a = es.length := by
        have := (List.getElem?_eq_some_iff.1 ha).1
        simp at this; omega
      subst ha0
      rw [Nat.sub_self] at ha
      cases ha
      rw [if_pos hnx.symm]
      exact ⟨rfl, by simp⟩

theorem famH_old {cards : List Nat} {cs : List (List Nat)} {r q k a : Nat} {l : List Nat} {es : List (Nat × List Nat)} {H H' : T O} {nx : Nat} {lg lg' : List Nat} (h : FamH cards cs r es ⟨H, nx, lg⟩) (hl : es[a]? = some (q, l)) (hb : bump r q k es = es.set a (q, l.set k (l.getD k 0 + 1)))
    (hg : ∀ j, gt H' j = if j = 3 + a then some (.row 3 none (nt (l.set k (l.getD k 0 + 1)))) else gt H j) : FamH cards cs r (bump r q k es) ⟨H', nx, lg'⟩ := by
  have hnx : nx = 3 + es.length := h.nx
  rw [hb]
  have hr := (h.row a _ hl).2
  refine ⟨?_, ?_, ?_, by simp only [List.length_set]; omega, fun b e he => ?_⟩
  · rw [hg, if_neg (by omega)]; exact h.h0
  · rw [hg, if_neg (by omega)]; exact h.h1
  · rw [hg, if_neg (by omega), entR_set r 3 q l _ es 0 a hl, List.length_set]; exact h.h2
  · rw [hg]
    rw [List.getElem?_set] at he
    split at he
    · rename_i hab
      subst hab
      split at he
      · cases he
        rw [if_pos rfl]
        exact ⟨rfl, by simpa using hr⟩
      · cases he
    · rename_i hab
      rw [if_neg (by omega)]
      exact h.row b e he

theorem findV_snoc {k : IntKind} {n : Int} {v : V} {b : Nat} : ∀ {es : List (V × V × Nat)} {j : Nat}, findV k n es j = some none → findV k n (es ++ [(.int k n, v, b)]) j = some (some (j + es.length, v))
  | [], j, _ => by simp [findV]
  | (x, y, c) :: es, j, h => by
    cases x <;> try (unfold findV at h; cases h; done)
    rename_i k' m
    unfold findV at h
    rw [List.cons_append]
    unfold findV
    split at h
    · split at h
      · cases h
      · rename_i h1 h2
        rw [if_pos h1, if_neg h2, findV_snoc h, List.length_cons, show j + 1 + es.length = j + (es.length + 1) by omega]
    · cases h
theorem putE_new {k : IntKind} {n : Int} {v : V} {es : List (V × V × Nat)} {ck : Nat} (h : findV k n es 0 = some none) : putE k n v es ck = some (.map (es ++ [(.int k n, v, ck)]) (ck + 1)) := by unfold putE; rw [h]
theorem entR_length (r b : Nat) : ∀ (es : List (Nat × List Nat)) (t : Nat), (entR r b t es).length = es.length
  | [], _ => rfl
  | e :: es, t => by rw [entR, List.length_cons, entR_length r b es (t + 1), List.length_cons]
theorem entries_bd {r : Nat} {P : List (Nat × Nat)} (h : ∀ p ∈ P, p.2 < r) : ∀ e ∈ entries r P, ∀ x, e.2.getD x 0 ≤ P.length := by
  intro e he x
  have hE := entries_ok P h
  rw [hE.row e he]
  have h1 := sum_row_le (r := r) P e.1 h
  rw [List.getD_eq_getElem?_getD]
  cases hx : (rowL P r e.1)[x]? with
  | none => exact Nat.zero_le _
  | some y => exact Nat.le_trans (sumN_mem (List.mem_of_getElem? hx)) h1
theorem pairs_lt {cards : List Nat} {v ps : Nat} {cs : List (List Nat)} (hcs : ∀ c ∈ cs, CaseOk cards c) (hv : v < cards.length) : ∀ p ∈ pairsN cards v ps cs, p.2 < cards.getD v 0 := by
  intro p hp
  obtain ⟨c, hc, rfl⟩ := List.mem_map.1 hp
  exact (hcs c hc).lt v hv

theorem fam_cases (cards : List Nat) (cs : List (List Nat)) (v ps r : Nat) (hc : CardsOk cards) (hcs : ∀ c ∈ cs, CaseOk cards c) (hv : v < cards.length) (hr : cards.getD v 0 = r) (hm : cs.length ≤ 40) (M : Mem) (hM : FamI cards cs v ps r 0 M) :
    Sat Pg none 0 (at' 73 [1, 1, 1, 0, 1, 0]) (mkSo g0 113 (fbS cs v ps r 0) M.H M.nx M.lg) (fun e st => ∃ sl M', st = mkSo g0 113 sl M'.H M'.nx M'.lg ∧ e = .exit 0 ∧ sl = fbS cs v ps r cs.length ∧ FamH cards cs r (entries r (pairsN cards v ps cs)) M') := by
  refine loopOG (b := at' 73 [1, 1, 1, 0, 1, 0, 0]) (by kernel_rfl) (FamI cards cs v ps r) (fbS cs v ps r) (fun i => cs.length - i) (fun e sl M' => e = .exit 0 ∧ sl = fbS cs v ps r cs.length ∧ FamH cards cs r (entries r (pairsN cards v ps cs)) M') (fun i H nx lg G hI hN hE _ => ?_) 0 M hM
  obtain ⟨hi, hH⟩ := hI
  by_cases hlt : i < cs.length
  · have hci : cs[i]? = some cs[i] := List.getElem?_eq_getElem hlt
    have hco := hcs _ (List.getElem_mem hlt)
    have hps := @pairs_snoc cards v ps i cs _ hci
    generalize cs[i] = c at *
    have hN1 := fun H nx lg h => hN (i + 1) H nx lg ⟨by omega, h⟩ (by omega)
    rw [hps, entries_snoc] at hN1
    dsimp only at hN1
    have hbd := entries_bd (P := pairsN cards v ps (cs.take i)) (r := r) (by rw [← hr]; exact pairs_lt (fun c hc => hcs c (List.mem_of_mem_take hc)) hv)
    have hpl : (pairsN cards v ps (cs.take i)).length ≤ 40 := by simp only [pairsN, List.length_map, List.length_take]; omega
    generalize entries r (pairsN cards v ps (cs.take i)) = es at *
    have hw := fam_row cards cs v ps r c i hc hco
    have hxr : c.getD v 0 < r := by have := hco.lt v hv; omega
    have hr4 : r ≤ 4 := by have := hc.each v hv; omega
    have hnx : nx = 3 + es.length := hH.nx
    have h0 : gt H 0 = some (dO cards cs) := hH.h0
    have h2 : gt H 2 = some (.map (entR r 3 0 es) es.length) := hH.h2
    have hld1 : headF ((cs.map nl).drop (i * 1)) = some (nl c) := head_map hci
    have hld2 := @head_nt c v (by have := hco.len; omega)
    have hcl := hco.len
    generalize hq : rowN cards ps c cards.length = q at *
    have hw' := fun H nx lg => hw H nx lg q rfl
    generalize c.getD v 0 = x at *
    cases hidx : idxOf q es with
    | none =>
      have hf1 : findV .i64 (q : Int) (entR r 3 0 es) 0 = some none := by rw [findV_ent, hidx]; rfl
      refine ⟨[yes 31, pl 32, ld 33 (nl c), lo_ 35 (dO cards cs) (nl cards), lpF (frS cards cs v ps r c i (0, 0)) (.exit 2) (frX cs v ps r c i q), lk 58 (entR r 3 0 es) es.length none, mk 63, up (entR r 3 0 es) es.length (.map (entR r 3 0 es ++ [(i6 (q : Nat), .sl nx 0 r (some (r - r)), es.length)]) (es.length + 1)), lk 66 (entR r 3 0 es ++ [(i6 (q : Nat), .sl nx 0 r (some (r - r)), es.length)]) (es.length + 1) (some (es.length, .sl nx 0 r (some (r - r)))), pl 69, ld 70 (i6 x), pl 71, lo_ 72 (.row 3 none (nt (List.replicate r 0))) (i6 0), nu 73 1, pl 74, so (.row 3 none (nt (List.replicate r 0))) (nt ((List.replicate r 0).set x 1)), nu 75 (i + 1 : Nat), toO (fbS cs v ps r (i + 1))], 1000, ?_⟩
      refine Eq.mp (by kernel_rfl : (decide ((↑i : Int) < (↑(List.length cs) : Int)) = true ∧ ((0 : Int) ≤ (↑i : Int) ∧ (↑i : Int) < (↑(List.length cs) : Int)) ∧ headF (List.drop (i * 1) (List.map nl cs)) = some (nl c) ∧ gt H 0 = some (dO cards cs) ∧ headF (dropF (0 + 0) [nl cards, cV cs]) = some (nl cards) ∧ (i6 (↑v : Int) = i6 (↑v : Int) ∧ u6 (↑ps : Int) = u6 (↑ps : Int) ∧ V.ptr 0 0 = V.ptr 0 0 ∧ V.ptr 1 0 = V.ptr 1 0 ∧ i6 (↑r : Int) = i6 (↑r : Int) ∧ V.mp 2 = V.mp 2 ∧ cV cs = cV cs ∧ i6 (↑(List.length cs) : Int) = i6 (↑(List.length cs) : Int) ∧ i6 (↑i : Int) = i6 (↑i : Int) ∧ nl c = nl c ∧ V.int IntKind.i64 (0 : Int) = i6 (↑(0 : Nat) : Int) ∧ nl cards = nl cards ∧ V.int IntKind.i64 (↑(List.length cards) : Int) = i6 (↑(List.length cards) : Int) ∧ V.int IntKind.i64 (0 : Int) = i6 (↑(0 : Nat) : Int) ∧ True) ∧ Sat Pg none 0 (at' 73 [1, 1, 1, 0, 1, 0, 0, 1, 1, 0, 0, 1, 1, 0, 1, 0]) (mkSo g0 113 (frS cards cs v ps r c i (0, 0)) H nx lg) (outsF g0 113 H nx lg [(True, Ex.exit 2, frX cs v ps r c i q)]) ∧ (True → (gt H 2 = some (O.map (entR r 3 0 es) (List.length es)) ∧ findV IntKind.i64 (↑q : Int) (entR r 3 0 es) 0 = some none) ∧ ((0 : Int) ≤ (↑r : Int) ∧ (↑r : Int) ≤ (↑r : Int) ∧ (↑(8 : Nat) : Int) * (↑r : Int) ≤ (281474976710656 : Int) ∧ (↑r : Int) ≤ (9223372036854775807 : Int)) ∧ (gt (pt H nx (O.row 3 none (rep r [V.int IntKind.i64 (0 : Int)]))) 2 = some (O.map (entR r 3 0 es) (List.length es)) ∧ putE IntKind.i64 (↑q : Int) (V.sl nx 0 r (some (r - r))) (entR r 3 0 es) (List.length es) = some (O.map (entR r 3 0 es ++ [(i6 (↑q : Int), V.sl nx 0 r (some (r - r)), List.length es)]) (List.length es + 1))) ∧ (gt (pt (pt H nx (O.row 3 none (rep r [V.int IntKind.i64 (0 : Int)]))) 2 (O.map (entR r 3 0 es ++ [(i6 (↑q : Int), V.sl nx 0 r (some (r - r)), List.length es)]) (List.length es + 1))) 2 = some (O.map (entR r 3 0 es ++ [(i6 (↑q : Int), V.sl nx 0 r (some (r - r)), List.length es)]) (List.length es + 1)) ∧ findV IntKind.i64 (↑q : Int) (entR r 3 0 es ++ [(i6 (↑q : Int), V.sl nx 0 r (some (r - r)), List.length es)]) 0 = some (some (List.length es, V.sl nx 0 r (some (r - r))))) ∧ ((0 : Int) ≤ (↑v : Int) ∧ (↑v : Int) < (↑(List.length c) : Int)) ∧ headF (List.drop (v * 1) (nt c)) = some (i6 (↑x : Int)) ∧ ((0 : Int) ≤ (↑x : Int) ∧ (↑x : Int) < (↑r : Int)) ∧ gt (pt (pt H nx (O.row 3 none (rep r [V.int IntKind.i64 (0 : Int)]))) 2 (O.map (entR r 3 0 es ++ [(i6 (↑q : Int), V.sl nx 0 r (some (r - r)), List.length es)]) (List.length es + 1))) nx = some (O.row 3 none (nt (List.replicate r 0))) ∧ headF (dropF (0 + x * 1) (nt (List.replicate r 0))) = some (i6 (0 : Int)) ∧ wr IntKind.i64 ((0 : Int) + (1 : Int)) = (1 : Int) ∧ ((0 : Int) ≤ (↑x : Int) ∧ (↑x : Int) < (↑r : Int)) ∧ (gt (pt (pt H nx (O.row 3 none (rep r [V.int IntKind.i64 (0 : Int)]))) 2 (O.map (entR r 3 0 es ++ [(i6 (↑q : Int), V.sl nx 0 r (some (r - r)), List.length es)]) (List.length es + 1))) nx = some (O.row 3 none (nt (List.replicate r 0))) ∧ layE (0 + x * 1) (nt (List.replicate r 0)) [V.int IntKind.i64 (1 : Int)] = some (nt (List.set (List.replicate r 0) x 1))) ∧ wr IntKind.i64 ((↑i : Int) + (1 : Int)) = (↑(i + 1) : Int) ∧ G Ex.normal (fbS cs v ps r (i + 1)) (pt (pt (pt H nx (O.row 3 none (rep r [V.int IntKind.i64 (0 : Int)]))) 2 (O.map (entR r 3 0 es ++ [(i6 (↑q : Int), V.sl nx 0 r (some (r - r)), List.length es)]) (List.length es + 1))) nx (O.row 3 none (nt (List.set (List.replicate r 0) x 1)))) (nx + 1) ([nx] ++ ([2] ++ lg)) ∧ i6 (↑v : Int) = i6 (↑v : Int) ∧ u6 (↑ps : Int) = u6 (↑ps : Int) ∧ V.ptr 0 0 = V.ptr 0 0 ∧ V.ptr 1 0 = V.ptr 1 0 ∧ i6 (↑r : Int) = i6 (↑r : Int) ∧ V.mp 2 = V.mp 2 ∧ cV cs = cV cs ∧ i6 (↑(List.length cs) : Int) = i6 (↑(List.length cs) : Int) ∧ V.int IntKind.i64 (↑(i + 1) : Int) = i6 (↑(i + 1) : Int) ∧ True) ∧ True) = _) ?_
      (repeat' (first | (with_reducible apply And.intro) | (refine fun (_ : True) => ?_))) <;> first | exact aq | skip
      · rfl
      · rw [gt_pt, if_neg (by omega)]; exact h2
      · exact putE_new hf1
      · rw [gt_pt, if_pos rfl]
      · have := findV_snoc (v := .sl nx 0 r (some (r - r))) (b := es.length) hf1
        rw [Nat.zero_add, entR_length] at this; exact this
      · rw [gt_pt, if_neg (by omega), gt_pt, if_pos rfl]; exact congrArg (fun z => some (O.row 3 none z)) (rep_nt r 0)
      · rw [dropF_eq, Nat.zero_add, head_nt (by simpa using hxr), List.getD_eq_getElem?_getD, List.getElem?_replicate]; simp [hxr]
      · rw [gt_pt, if_neg (by omega), gt_pt, if_pos rfl]; exact congrArg (fun z => some (O.row 3 none z)) (rep_nt r 0)
      · exact lay_nt (x := 1) (by simpa using hxr)
      · refine hN1 _ _ _ (famH_new hH hidx (fun j => ?_))
        simp only [gt_pt]
        split
        · rfl
        · split
          · rfl
          · rfl
    | some a =>
      obtain ⟨l, hl, hb⟩ := @bump_old r q x 0 es a hidx
      have hf1 : findV .i64 (q : Int) (entR r 3 0 es) 0 = some (some (a, .sl (3 + a) 0 r (some (r - r)))) := by rw [findV_ent, hidx]; simp only [Option.map_some, Nat.zero_add, Nat.add_zero]
      refine ⟨[yes 31, pl 32, ld 33 (nl c), lo_ 35 (dO cards cs) (nl cards), lpF (frS cards cs v ps r c i (0, 0)) (.exit 2) (frX cs v ps r c i q), lk 58 (entR r 3 0 es) es.length (some (a, .sl (3 + a) 0 r (some (r - r)))), lk 66 (entR r 3 0 es) es.length (some (a, .sl (3 + a) 0 r (some (r - r)))), pl 69, ld 70 (i6 x), pl 71, lo_ 72 (.row 3 none (nt l)) (i6 (l.getD x 0 : Nat)), nu 73 (l.getD x 0 + 1 : Nat), pl 74, so (.row 3 none (nt l)) (nt (l.set x (l.getD x 0 + 1))), nu 75 (i + 1 : Nat), toO (fbS cs v ps r (i + 1))], 1000, ?_⟩
      have hrow := hH.row a _ hl
      have hlb := hbd _ (List.mem_of_getElem? hl) x
      obtain ⟨hrow, hrl⟩ := hrow
      dsimp only at hrow hrl hlb
      refine Eq.mp (by kernel_rfl : (decide ((↑i : Int) < (↑(List.length cs) : Int)) = true ∧ ((0 : Int) ≤ (↑i : Int) ∧ (↑i : Int) < (↑(List.length cs) : Int)) ∧ headF (List.drop (i * 1) (List.map nl cs)) = some (nl c) ∧ gt H 0 = some (dO cards cs) ∧ headF (dropF (0 + 0) [nl cards, cV cs]) = some (nl cards) ∧ (i6 (↑v : Int) = i6 (↑v : Int) ∧ u6 (↑ps : Int) = u6 (↑ps : Int) ∧ V.ptr 0 0 = V.ptr 0 0 ∧ V.ptr 1 0 = V.ptr 1 0 ∧ i6 (↑r : Int) = i6 (↑r : Int) ∧ V.mp 2 = V.mp 2 ∧ cV cs = cV cs ∧ i6 (↑(List.length cs) : Int) = i6 (↑(List.length cs) : Int) ∧ i6 (↑i : Int) = i6 (↑i : Int) ∧ nl c = nl c ∧ V.int IntKind.i64 (0 : Int) = i6 (↑(0 : Nat) : Int) ∧ nl cards = nl cards ∧ V.int IntKind.i64 (↑(List.length cards) : Int) = i6 (↑(List.length cards) : Int) ∧ V.int IntKind.i64 (0 : Int) = i6 (↑(0 : Nat) : Int) ∧ True) ∧ Sat Pg none 0 (at' 73 [1, 1, 1, 0, 1, 0, 0, 1, 1, 0, 0, 1, 1, 0, 1, 0]) (mkSo g0 113 (frS cards cs v ps r c i (0, 0)) H nx lg) (outsF g0 113 H nx lg [(True, Ex.exit 2, frX cs v ps r c i q)]) ∧ (True → (gt H 2 = some (O.map (entR r 3 0 es) (List.length es)) ∧ findV IntKind.i64 (↑q : Int) (entR r 3 0 es) 0 = some (some (a, V.sl (3 + a) 0 r (some (r - r))))) ∧ (gt H 2 = some (O.map (entR r 3 0 es) (List.length es)) ∧ findV IntKind.i64 (↑q : Int) (entR r 3 0 es) 0 = some (some (a, V.sl (3 + a) 0 r (some (r - r))))) ∧ ((0 : Int) ≤ (↑v : Int) ∧ (↑v : Int) < (↑(List.length c) : Int)) ∧ headF (List.drop (v * 1) (nt c)) = some (i6 (↑x : Int)) ∧ ((0 : Int) ≤ (↑x : Int) ∧ (↑x : Int) < (↑r : Int)) ∧ gt H (3 + a) = some (O.row 3 none (nt l)) ∧ headF (dropF (0 + x * 1) (nt l)) = some (i6 (↑(List.getD l x 0) : Int)) ∧ wr IntKind.i64 ((↑(List.getD l x 0) : Int) + (1 : Int)) = (↑(List.getD l x 0 + 1) : Int) ∧ ((0 : Int) ≤ (↑x : Int) ∧ (↑x : Int) < (↑r : Int)) ∧ (gt H (3 + a) = some (O.row 3 none (nt l)) ∧ layE (0 + x * 1) (nt l) [V.int IntKind.i64 (↑(List.getD l x 0 + 1) : Int)] = some (nt (List.set l x (List.getD l x 0 + 1)))) ∧ wr IntKind.i64 ((↑i : Int) + (1 : Int)) = (↑(i + 1) : Int) ∧ G Ex.normal (fbS cs v ps r (i + 1)) (pt H (3 + a) (O.row 3 none (nt (List.set l x (List.getD l x 0 + 1))))) nx ([3 + a] ++ lg) ∧ i6 (↑v : Int) = i6 (↑v : Int) ∧ u6 (↑ps : Int) = u6 (↑ps : Int) ∧ V.ptr 0 0 = V.ptr 0 0 ∧ V.ptr 1 0 = V.ptr 1 0 ∧ i6 (↑r : Int) = i6 (↑r : Int) ∧ V.mp 2 = V.mp 2 ∧ cV cs = cV cs ∧ i6 (↑(List.length cs) : Int) = i6 (↑(List.length cs) : Int) ∧ V.int IntKind.i64 (↑(i + 1) : Int) = i6 (↑(i + 1) : Int) ∧ True) ∧ True) = _) ?_
      (repeat' (first | (with_reducible apply And.intro) | (refine fun (_ : True) => ?_))) <;> first | exact aq | skip
      · rfl
      · rw [dropF_eq, Nat.zero_add]; exact head_nt (by omega)
      · exact lay_nt (by omega)
      · exact hN1 _ _ _ (famH_old hH hl hb (fun j => gt_pt _ _ _ _))
  · have : i = cs.length := by omega
    subst this
    rw [List.take_length] at hH
    refine ⟨[no 31, toO (fbS cs v ps r cs.length)], 1000, ?_⟩
    refine Eq.mp (by kernel_rfl : (decide ((↑(List.length cs) : Int) < (↑(List.length cs) : Int)) = false ∧ G (Ex.exit 0) (fbS cs v ps r (List.length cs)) H nx lg ∧ i6 (↑v : Int) = i6 (↑v : Int) ∧ u6 (↑ps : Int) = u6 (↑ps : Int) ∧ V.ptr 0 0 = V.ptr 0 0 ∧ V.ptr 1 0 = V.ptr 1 0 ∧ i6 (↑r : Int) = i6 (↑r : Int) ∧ V.mp 2 = V.mp 2 ∧ cV cs = cV cs ∧ i6 (↑(List.length cs) : Int) = i6 (↑(List.length cs) : Int) ∧ i6 (↑(List.length cs) : Int) = i6 (↑(List.length cs) : Int) ∧ True) = _) ?_
    (repeat' (first | (with_reducible apply And.intro) | (refine fun (_ : True) => ?_))) <;> first | exact aq | skip
    all_goals exact hE _ _ _ _ _ ⟨rfl, rfl, hH⟩

end Go.Proofs.YtglpoiaedkoecaaDoor.Am
