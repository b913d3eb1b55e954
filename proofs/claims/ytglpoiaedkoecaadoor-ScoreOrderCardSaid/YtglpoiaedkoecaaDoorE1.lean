/- Chapter 28: rules for loops over memory that the kernel does not see; rows of cases; data as values. -/
import Derived.Test.YtglpoiaedkoecaaDoorD3
import Derived.Test.YtglpoiaedkoecaaDoorE0
namespace Go.Proofs.YtglpoiaedkoecaaDoor.Am
open Go.RowKit
set_option linter.unusedVariables false
set_option maxHeartbeats 1000000
set_option maxRecDepth 100000

abbrev lk (d : Nat) (es : List (V × V × Nat)) (ck : Nat) (r0 : Option (Nat × V)) : Nat × Hint := (d, .lk es ck r0)
abbrev up (es : List (V × V × Nat)) (ck : Nat) (o' : O) : Nat × Hint := (999999, .up es ck o')
abbrev lo_ (d : Nat) (o : O) (v : V) : Nat × Hint := (d, .lo o v)
abbrev so (o : O) (c : List V) : Nat × Hint := (999999, .so o c)
abbrev toO (sl : List (Nat × V)) : Nat × Hint := (0, .toO sl)
abbrev lpF (sl : List (Nat × V)) (e : Ex) (sl' : List (Nat × V)) : Nat × Hint := (0, .loopF sl [(True, e, sl')])

def outF : List (Prop × Ex × List (Nat × V)) → Ex → List (Nat × V) → Prop
  | [], _, _ => False
  | (p, e', sl') :: l, e, sl => (p ∧ e = e' ∧ sl = sl') ∨ outF l e sl
theorem outF_F {gl : T (List V)} {n : Nat} {M : Mem} : ∀ {l : List (Prop × Ex × List (Nat × V))} {e : Ex} {sl : List (Nat × V)}, outF l e sl → outsF gl n M.H M.nx M.lg l e (mkSo gl n sl M.H M.nx M.lg)
  | (p, e', sl') :: l, e, sl, h => by
    rcases h with ⟨h1, h2, rfl⟩ | h
    · exact .inl ⟨h1, h2, rfl⟩
    · exact .inr (outF_F h)
/-- a loop over memory that the kernel does not see; G is kept dark -/
theorem loopOG {gl : T (List V)} {c b : Code} (hc : c = .loop b) {k : Nat} {α : Type} (I : α → Mem → Prop) (S : α → List (Nat × V)) (m : α → Nat) (out : Ex → List (Nat × V) → Mem → Prop)
    (h : ∀ x (H : T O) (nx : Nat) (lg : List Nat) (G : Ex → List (Nat × V) → T O → Nat → List Nat → Prop), I x ⟨H, nx, lg⟩ → (∀ y H nx lg, I y ⟨H, nx, lg⟩ → m y < m x → G .normal (S y) H nx lg) → (∀ i sl H nx lg, out (.exit i) sl ⟨H, nx, lg⟩ → G (.exit i) sl H nx lg) → (∀ sl H nx lg, out .ret sl ⟨H, nx, lg⟩ → G .ret sl H nx lg) → ∃ hs n, vc Pg vE sp0 none 0 n b hs (mkSo gl k (S x) H nx lg) (kEndO k G))
    (x : α) (M : Mem) (hx : I x M) : Sat Pg none 0 c (mkSo gl k (S x) M.H M.nx M.lg) (fun e st => ∃ sl M', st = mkSo gl k sl M'.H M'.nx M'.lg ∧ out e sl M') :=
  loopO vE_ok mixed sp0_ok hc I S m out (fun x H nx lg hI => h x H nx lg _ hI (fun y H nx lg h1 h2 => ⟨y, h1, h2, rfl⟩) (fun i sl H nx lg h => h) (fun sl H nx lg h => h)) x M hx
/-- a loop that leaves memory alone -/
theorem loopFr {gl : T (List V)} {c b : Code} (hc : c = .loop b) {k : Nat} {α : Type} (I : α → Prop) (S : α → List (Nat × V)) (m : α → Nat) (outs : List (Prop × Ex × List (Nat × V))) (H : T O) (nx : Nat) (lg : List Nat)
    (h : ∀ x (G : Ex → List (Nat × V) → T O → Nat → List Nat → Prop), I x → (∀ y, I y → m y < m x → G .normal (S y) H nx lg) → (∀ i sl, outF outs (.exit i) sl → G (.exit i) sl H nx lg) → ∃ hs n, vc Pg vE sp0 none 0 n b hs (mkSo gl k (S x) H nx lg) (kEndO k G)) (x : α) (hx : I x) : Sat Pg none 0 c (mkSo gl k (S x) H nx lg) (outsF gl k H nx lg outs) := by
  refine (loopOG hc (fun y M' => I y ∧ M' = ⟨H, nx, lg⟩) S m (fun e sl M' => M' = ⟨H, nx, lg⟩ ∧ outF outs e sl) (fun x H' nx' lg' G hI hN hE _ => ?_) x ⟨H, nx, lg⟩ ⟨hx, rfl⟩).mono ?_
  · obtain ⟨hI, e⟩ := hI
    cases e
    exact h x G hI (fun y h1 h2 => hN y _ _ _ ⟨h1, rfl⟩ h2) (fun i sl h => hE i sl _ _ _ ⟨rfl, h⟩)
  · rintro e st ⟨sl, M', rfl, rfl, ho⟩
    exact outF_F (M := ⟨H, nx, lg⟩) ho
/-- a loop whose next state is told by the hints; G is kept dark -/
theorem loopHG {gl : T (List V)} {c b : Code} (hc : c = .loop b) {k nx0 : Nat} {α : Type} (I : α → Prop) (S : α → SL) (m : α → Nat) (out : Ex → SL → Prop)
    (h : ∀ x (G : Ex → SL → Prop), I x → (∀ y, I y → m y < m x → G .normal (S y)) → (∀ i S', out (.exit i) S' → G (.exit i) S') → (∀ S', out .ret S' → G .ret S') → ∃ hs n, vc Pg vE sp0 none nx0 n b hs (mkSt gl k (S x)) (kEnd nx0 k G)) (x : α) (hx : I x) : Sat Pg none nx0 c (mkSt gl k (S x)) (fun e st => ∃ S', st = mkSt gl k S' ∧ out e S') :=
  loopH vE_ok mixed sp0_ok hc I S m out (fun x hI => h x _ hI (fun y h1 h2 => ⟨y, h1, h2, rfl⟩) (fun i S' h => h) (fun S' h => h)) x hx
/-- a call's argument list, as seen from a frame -/
theorem gt_pt {α : Type} (t : T α) (i j : Nat) (x : α) : gt (pt t i x) j = if j = i then some x else gt t j := by rw [gt_eq, pt_eq, T.get_put, gt_eq]

/-! ### lists of numbers from 0 -/
def nt (l : List Nat) : List V := l.map fun (x : Nat) => i6 (x : Int)
abbrev nl (l : List Nat) : V := .im l.length (nt l)
theorem nt_length (l : List Nat) : (nt l).length = l.length := by simp [nt]
theorem nt_ints (l : List Nat) : nt l = ints (l.map fun (x : Nat) => (x : Int)) := by simp [nt, ints, List.map_map, Function.comp]
theorem head_nt {l : List Nat} {k : Nat} (h : k < l.length) : headF ((nt l).drop (k * 1)) = some (i6 ((l.getD k 0 : Nat) : Int)) := by
  rw [nt_ints, head_intsD (by simpa using h)]
  congr 2
  rw [List.getD_eq_getElem?_getD, List.getD_eq_getElem?_getD, List.getElem?_map, List.getElem?_eq_getElem h]; rfl
theorem HfL_nt (l : List Nat) : HfL (nt l) := by rw [nt_ints]; exact HfL_ints _
theorem rep_nt (n x : Nat) : rep n [i6 (x : Int)] = nt (List.replicate n x) := by rw [rep_ints, nt_ints, List.map_replicate]
theorem lay_nt {l : List Nat} {j x : Nat} (h : j < l.length) : layE (0 + j * 1) (nt l) [i6 (x : Int)] = some (nt (l.set j x)) := by
  rw [nt_ints, lay_ints (by simpa using h), nt_ints]
  congr 2
  apply List.ext_getElem
  · simp
  · intro n h1 h2
    simp only [List.getElem_set, List.getElem_map]
    split <;> rfl
theorem HfL_map {α : Type} (f : α → V) (l : List α) (h : ∀ x, Hf (f x)) : HfL (l.map f) := by
  induction l with
  | nil => trivial
  | cons x l ih => exact ⟨h x, ih⟩
theorem head_map {α : Type} {f : α → V} {l : List α} {k : Nat} {x : α} (h : l[k]? = some x) : headF ((l.map f).drop (k * 1)) = some (f x) := by
  obtain ⟨hk, rfl⟩ := List.getElem?_eq_some_iff.1 h
  rw [Nat.mul_one, ← List.map_drop, List.drop_eq_getElem_cons hk]; rfl

/-! ### sets of variables as numbers -/
abbrev u6 (n : Int) : V := .int .u64 n
theorem shr_u {G : Ctx} {t : Nat} {x k : Nat} (hk : k ≤ 64) : binV G .shr t (u6 (x : Int)) (i6 (k : Int)) = some (u6 ((x / 2 ^ k : Nat) : Int)) := by
  have h1 : ((k : Int) < 0) = False := by simp
  have h2 : min k 64 = k := by omega
  simp only [binV, intV, h1, if_false, Int.toNat_natCast, IntKind.bits, h2]
  rw [Int.fdiv_eq_ediv_of_nonneg _ (Int.natCast_nonneg _)]
  rfl
theorem and1_u {G : Ctx} {t : Nat} {x : Nat} : binV G .and t (u6 (x : Int)) (u6 1) = some (u6 ((x % 2 : Nat) : Int)) := by
  have h : (BitVec.ofInt 64 (x : Int) &&& BitVec.ofInt 64 1).toNat = x % 2 := by
    rw [BitVec.toNat_and]
    have h1 : (BitVec.ofInt 64 1).toNat = 1 := by decide
    rw [h1, Nat.and_one_is_mod]
    have h2 : (BitVec.ofInt 64 (x : Int)).toNat = x % 2 ^ 64 := by
      rw [BitVec.toNat_ofInt]; omega
    rw [h2]; omega
  have hw : IntKind.u64.wrap ((x % 2 : Nat) : Int) = ((x % 2 : Nat) : Int) := by
    rw [← wr_eq]; exact wr_in (by simp [lo]; omega) (by simp [hi]; omega)
  have e : binV G .and t (u6 (x : Int)) (u6 1) = some (.int .u64 (IntKind.u64.wrap ((BitVec.ofInt 64 (x : Int) &&& BitVec.ofInt 64 1).toNat : Int))) := rfl
  rw [e, h, hw]

/-! ### rows of cases -/
/-- the index of the values of the variables in the set ps, among the first k -/
def rowN (cards : List Nat) (ps : Nat) (vals : List Nat) : Nat → Nat
  | 0 => 0
  | k + 1 => if ps / 2 ^ k % 2 = 1 then rowN cards ps vals k * cards.getD k 0 + vals.getD k 0 else rowN cards ps vals k
def sizeN (cards : List Nat) (ps : Nat) : Nat → Nat
  | 0 => 1
  | k + 1 => if ps / 2 ^ k % 2 = 1 then sizeN cards ps k * cards.getD k 0 else sizeN cards ps k
structure CardsOk (cards : List Nat) : Prop where
  pos : 1 ≤ cards.length
  six : cards.length ≤ 6
  each : ∀ k, k < cards.length → 2 ≤ cards.getD k 0 ∧ cards.getD k 0 ≤ 4
structure CaseOk (cards vals : List Nat) : Prop where
  len : vals.length = cards.length
  lt : ∀ k, k < cards.length → vals.getD k 0 < cards.getD k 0
theorem sizeN_le {cards : List Nat} (h : CardsOk cards) (ps : Nat) : ∀ k, k ≤ cards.length → 1 ≤ sizeN cards ps k ∧ sizeN cards ps k ≤ 4 ^ k
  | 0, _ => by simp [sizeN]
  | k + 1, hk => by
    have h1 := sizeN_le h ps k (by omega)
    have h2 := h.each k (by omega)
    unfold sizeN
    split
    · constructor
      · exact Nat.mul_pos h1.1 (by omega)
      · rw [Nat.pow_succ]; exact Nat.mul_le_mul h1.2 h2.2
    · rw [Nat.pow_succ]; omega
theorem rowN_lt {cards vals : List Nat} (h : CardsOk cards) (hv : CaseOk cards vals) (ps : Nat) : ∀ k, k ≤ cards.length → rowN cards ps vals k < sizeN cards ps k
  | 0, _ => by simp [rowN, sizeN]
  | k + 1, hk => by
    have h1 := rowN_lt h hv ps k (by omega)
    have h2 := h.each k (by omega)
    have h3 := hv.lt k (by omega)
    unfold rowN sizeN
    split
    · calc _ < rowN cards ps vals k * cards.getD k 0 + cards.getD k 0 := by omega
        _ = (rowN cards ps vals k + 1) * cards.getD k 0 := by rw [Nat.add_mul, Nat.one_mul]
        _ ≤ _ := Nat.mul_le_mul_right _ h1
    · exact h1
theorem pow4 {k : Nat} (h : k ≤ 6) : 4 ^ k ≤ 4096 := by
  calc 4 ^ k ≤ 4 ^ 6 := Nat.pow_le_pow_right (by omega) h
    _ = 4096 := by decide
theorem rowN_bd {cards vals : List Nat} (h : CardsOk cards) (hv : CaseOk cards vals) (ps : Nat) {k : Nat} (hk : k ≤ cards.length) : rowN cards ps vals k < 4096 := by
  have := rowN_lt h hv ps k hk
  have := sizeN_le h ps k hk
  have := pow4 (show k ≤ 6 by have := h.six; omega)
  omega

/-- data without missing values -/
abbrev cV (cs : List (List Nat)) : V := .im cs.length (cs.map nl)
abbrev dN (cards : List Nat) (cs : List (List Nat)) : V := .agg [nl cards, cV cs]

end Go.Proofs.YtglpoiaedkoecaaDoor.Am
