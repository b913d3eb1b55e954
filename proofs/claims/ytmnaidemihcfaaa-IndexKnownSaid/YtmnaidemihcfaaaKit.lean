/- General words for the walks of this seat: slices that read as lists of ints, what a call may change, and a law for ranging over a function. -/
import Derived.Test.YtmnaidemihcfaaaProg
import Derived.WalkKit
import Derived.WalkSpells
import Derived.WalkLawsBesides
import Derived.WalkMore
import Derived.Deep.LoopGhost
import Derived.Deep.Draws
import Derived.Deep.OwnRows
import Derived.Lib.Hide
import Derived.BigQuiet
import Derived.Deep.QuietTactic
import Derived.RangeFuncLeaves
import Derived.RangeFuncBox
import Derived.OwnWalkIn
import Derived.TacticsInMore
import Derived.LoopNIn
import Derived.LoopIn
import Derived.RangeFuncCalls
import Derived.RangeFuncBound
import Derived.RangeFuncNested
import Derived.Shelf.Abstract
namespace Go.Proofs.Ytmnaidemihcfaaa
open Go.RowKit

/-- The slice with the address A reads as the ints xs, below block B. -/
def Ints (w : World) (B : Nat) (A : Option Addr) (xs : List Int) : Prop :=
  ∀ j (h : j < xs.length), ∃ b off, A = some ⟨b, off, none⟩ ∧ b < B ∧ w.cell? ⟨b, off + j, none⟩ = some (.int .i64 xs[j])

theorem Ints.nil (w : World) (B : Nat) (A : Option Addr) : Ints w B A [] := fun j h => absurd h (by simp)

theorem Ints.keep {w w' : World} {B : Nat} {A : Option Addr} {xs : List Int} (h : Ints w B A xs) (hk : ∀ p : Addr, p.block < B → w'.cell? p = w.cell? p) : Ints w' B A xs := fun j hj => by
  obtain ⟨b, off, hA, hb, hc⟩ := h j hj
  exact ⟨b, off, hA, hb, (hk ⟨b, off + j, none⟩ hb).trans hc⟩

theorem Ints.below {w w' : World} {B : Nat} {A : Option Addr} {xs : List Int} (h : Ints w B A xs) (hb : Below B w w') : Ints w' B A xs :=
  h.keep fun _ hp => hb.cell hp

theorem Ints.more {w : World} {B B' : Nat} {A : Option Addr} {xs : List Int} (h : Ints w B A xs) (hB : B ≤ B') : Ints w B' A xs := fun j hj => by
  obtain ⟨b, off, hA, hb, hc⟩ := h j hj
  exact ⟨b, off, hA, by omega, hc⟩

/-- What a call may change: what lies in S, and what is new. -/
structure Mod (S : Nat → Prop) (w w' : World) : Prop where
  os : w'.os = w.os
  tape : w'.tape = w.tape
  output : w'.output = w.output
  size : w.heap.size ≤ w'.heap.size
  block : ∀ k, k < w.heap.size → ¬ S k → w'.heap[k]? = w.heap[k]?

theorem Mod.refl (S : Nat → Prop) (w : World) : Mod S w w := ⟨rfl, rfl, rfl, Nat.le_refl _, fun _ _ _ => rfl⟩
theorem Mod.trans {S : Nat → Prop} {a b c : World} (h : Mod S a b) (k : Mod S b c) : Mod S a c :=
  ⟨k.os.trans h.os, k.tape.trans h.tape, k.output.trans h.output, Nat.le_trans h.size k.size,
    fun i hi hs => (k.block i (Nat.lt_of_lt_of_le hi h.size) hs).trans (h.block i hi hs)⟩
theorem Mod.of_below {S : Nat → Prop} {w w' : World} (h : Below w.heap.size w w') : Mod S w w' :=
  ⟨h.os, h.tape, h.output, h.size, fun k hk _ => h.block k hk⟩
theorem Mod.mono {S T : Nat → Prop} {w w' : World} (h : Mod S w w') (hst : ∀ k, S k → T k) : Mod T w w' :=
  ⟨h.os, h.tape, h.output, h.size, fun k hk ht => h.block k hk (fun hs => ht (hst k hs))⟩
theorem Mod.drew {S : Nat → Prop} {a w : World} (h : Mod S a w) : Mod S a w.drew := ⟨h.os, h.tape, h.output, h.size, h.block⟩
theorem Mod.drewN {S : Nat → Prop} {a w : World} (h : Mod S a w) (n : Nat) : Mod S a (w.drewN n) := ⟨h.os, h.tape, h.output, h.size, h.block⟩
theorem Mod.alloc {S : Nat → Prop} {a w : World} (h : Mod S a w) (o : Obj) : Mod S a (w.alloc o) :=
  h.trans (Mod.of_below ((Below.refl _ w).alloc (Nat.le_refl _) o))
theorem Mod.setCell {S : Nat → Prop} {a w : World} (h : Mod S a w) {p : Addr} (hp : S p.block ∨ a.heap.size ≤ p.block) (u : Value) : Mod S a (w.setCell p u) :=
  ⟨h.os, h.tape, h.output, by simpa [World.setCell] using h.size, fun k hk hs =>
    (Below.heap_setCell w p u k (by rintro rfl; rcases hp with hp | hp
                                    · exact hs hp
                                    · omega)).trans (h.block k hk hs)⟩
theorem Mod.below {S : Nat → Prop} {w w' : World} {B : Nat} (h : Mod S w w') (hB : B ≤ w.heap.size) (hS : ∀ k, S k → B ≤ k) : Below B w w' :=
  ⟨h.os, h.tape, h.output, h.size, fun k hk => h.block k (by omega) (fun hs => by have := hS k hs; omega)⟩
theorem Mod.cell {S : Nat → Prop} {w w' : World} (h : Mod S w w') {p : Addr} {v : Value} (hc : w.cell? p = some v) (hp : ¬ S p.block) : w'.cell? p = some v :=
  (World.cell?_of_block (h.block p.block (World.block_lt_of_cell? w p hc) hp)).trans hc

theorem below_drewN {B : Nat} {a w : World} (h : Below B a w) (n : Nat) : Below B a (w.drewN n) := ⟨h.os, h.tape, h.output, h.size, h.block⟩
theorem below_putObj {B : Nat} {a w : World} (h : Below B a w) {l : Nat} (hl : B ≤ l) (o : Obj) : Below B a (w.putObj l o) :=
  h.trans ⟨rfl, rfl, rfl, by simp, fun k hk => World.putObj_heap_other (by omega)⟩

theorem rowIs_drewN {w : World} {b : Nat} {t : TypeId} {n : Nat} {f : Nat → Value} (h : w.rowIs b t n f) (k : Nat) : (w.drewN k).rowIs b t n f := h

theorem Ints.of_row {w : World} {g : Nat} {t : TypeId} {f : Nat → Value} {n : Nat} {xs : List Int} (h : w.rowIs g t n f) (hn : xs.length ≤ n) (hf : ∀ i (hi : i < xs.length), f i = .int .i64 xs[i]) : Ints w w.heap.size (some ⟨g, 0, none⟩) xs :=
  fun j hj => ⟨g, 0, rfl, h.lt, by rw [Nat.zero_add, h.cell (by omega), hf j hj]⟩

theorem three_cells (w : World) (a b c : Value) (t u v : TypeId) :
    ((((w.alloc (.cells #[a] t)).alloc (.cells #[b] u)).alloc (.cells #[c] v)).cell? ⟨w.heap.size + 2, 0, none⟩ = some c) ∧
    ((((w.alloc (.cells #[a] t)).alloc (.cells #[b] u)).alloc (.cells #[c] v)).cell? ⟨w.heap.size + 1, 0, none⟩ = some b) ∧
    ((((w.alloc (.cells #[a] t)).alloc (.cells #[b] u)).alloc (.cells #[c] v)).cell? ⟨w.heap.size, 0, none⟩ = some a) := by
  refine ⟨?_, ?_, ?_⟩ <;> go_simp

theorem bx_far {W : World} {B : Nat} {t : TypeId} {v : Value} (h : Boxed W B t v) {p : Addr} (hp : B ≠ p.block) (u : Value) : Boxed (W.setCell p u) B t v := (Below.heap_setCell W p u B hp).trans h
theorem bx_drew {W : World} {B : Nat} {t : TypeId} {v : Value} (h : Boxed W B t v) : Boxed W.drew B t v := h
theorem bx_below {W W' : World} {B n : Nat} {t : TypeId} {v : Value} (h : Boxed W B t v) (hb : Below n W W') (hB : B < n) : Boxed W' B t v := (hb.block B hB).trans h

/-- blocks laid one behind the other -/
def allocs : World → List Obj → World
  | w, [] => w
  | w, o :: l => allocs (w.alloc o) l

theorem allocs_size : ∀ (l : List Obj) (w : World), (allocs w l).heap.size = w.heap.size + l.length
  | [], w => rfl
  | o :: l, w => by rw [allocs, allocs_size l, World.size_alloc, List.length_cons]; omega

theorem allocs_below : ∀ (l : List Obj) (w : World), Below w.heap.size w (allocs w l)
  | [], w => Below.refl _ _
  | o :: l, w => ((Below.refl _ w).alloc (Nat.le_refl _) o).trans ((allocs_below l (w.alloc o)).mono (by simp))

theorem allocs_at : ∀ (l : List Obj) (w : World) (i : Nat) (o : Obj), l[i]? = some o → (allocs w l).heap[w.heap.size + i]? = some o
  | [], w, i, o, h => by simp at h
  | o' :: l, w, 0, o, h => by
    obtain rfl : o' = o := by simpa using h
    exact ((allocs_below l (w.alloc o')).block w.heap.size (by simp)).trans (World.alloc_heap_new w o')
  | o' :: l, w, i + 1, o, h => by
    have := allocs_at l (w.alloc o') i o (by simpa using h)
    rw [World.size_alloc] at this
    rw [show w.heap.size + (i + 1) = w.heap.size + 1 + i by omega]
    exact this

/-- The contract of an iterator: it hands out 'encs 0', 'encs 1', .. 'encs (N-1)', in this order, and goes on as long as the round says so. A round keeps what lies below n₀, and what is the iterator's own. -/
def It (P : Program) (gf : Nat) (lb : Array Value) (encs : Nat → Array Value) (N n₀ : Nat) (w : World) : Prop :=
  ∀ (l : Nat) (J : Nat → World → Prop) (Jx : World → Prop) (W : World), Below w.heap.size w W →
    (∀ k A B, J k A → Below W.heap.size A B → J k B) → (∀ A B, Jx A → Below W.heap.size A B → Jx B) →
    (∀ k W1, k < N → W.heap.size ≤ W1.heap.size → J k W1 → YieldAt Fence.wide 3 P l (encs k) W1 fun e W' =>
      (e = .returned (.bool true) ∧ J (k + 1) W' ∧ Mod (fun b => n₀ ≤ b ∧ b < W.heap.size) W1 W') ∨ (e = .returned (.bool false) ∧ Jx W' ∧ Mod (fun b => n₀ ≤ b ∧ b < W.heap.size) W1 W')) →
    J 0 W →
    CallsIn Fence.wide 4 P gf (#[.func (.yield l) #[] #[]] ++ lb) W fun e W' => (∃ v, e = .returned v) ∧ (J N W' ∨ Jx W')

/-- How a round may be left. -/
def rPost (S : Nat → Prop) (I : Nat → World → Prop) (Ix : Code → World → Prop) (k : Nat) (W : World) : Exit → Act → World → Prop
  | .normal, _, W' => Mod S W W' ∧ I (k + 1) W'
  | .ret, _, W' => Mod S W W' ∧ Ix .ret W'
  | .exit id, _, W' => Mod S W W' ∧ Ix (.exit id) W'
  | .goto t, _, W' => Mod S W W' ∧ Ix (.goto t) W'
  | .panic _, _, _ => False
  | .outgrown, _, _ => False

theorem mod_putObj {S : Nat → Prop} {a w : World} (h : Mod S a w) {l : Nat} (hl : S l ∨ a.heap.size ≤ l) (o : Obj) : Mod S a (w.putObj l o) :=
  ⟨h.os, h.tape, h.output, by simpa using h.size, fun k hk hs =>
    (World.putObj_heap_other (by rintro rfl; rcases hl with hl | hl
                                 · exact hs hl
                                 · omega)).trans (h.block k hk hs)⟩

/-- **for .. := range g { body }** -/
theorem wp_range {P : Program} {g : Operand} {ps : Array Tmp} {assign body : Code} {Q : Exit → Act → World → Prop} {a : Act} {w : World}
    {gf : Nat} {lb : Array Value} (hg : a.eval g = .func (.func gf) #[] lb) (eg : ∀ args w, (callFunc gf args).run P w = .ok (.enter gf args) w)
    {encs : Nat → Array Value} {N n₀ : Nat} {w0 : World} (hit : It P gf lb encs N n₀ w0) (hb0 : Below w0.heap.size w0 w) (hn₀ : n₀ ≤ w.heap.size) (hps : ∀ k, (encs k).size = ps.size)
    (S : Nat → Prop) (hS : ∀ k, S k → n₀ ≤ k ∧ k < w.heap.size)
    (I : Nat → World → Prop) (Ix : Code → World → Prop)
    (hI : ∀ k A B, I k A → Below w.heap.size A B → I k B) (hIx : ∀ c A B, Ix c A → Below w.heap.size A B → Ix c B) (h0 : I 0 w) (a₁ : Nat → Act)
    (hassign : ∀ (l k : Nat) (W : World) (K : Act → World → Prop), k < N → K (a₁ k) W →
      assign.wpIn (Fence.wide.inRound l) 3 P (Exit.then K (fun _ _ _ => False)) { tmps := (ps.zip (encs k)).foldl (fun t (p, v) => t.setIfInBounds p v) a.tmps, defers := [] } W)
    (hbody : ∀ (l k : Nat) (W : World), k < N → w.heap.size ≤ W.heap.size → I k W → body.wpIn (Fence.wide.inRound l) 3 P (rPost S I Ix k W) (a₁ k) W)
    (hdone : ∀ (D : Nat) (W : World), w.heap.size ≤ D → I N W → W.heap[D]? = some (.deferred (some [])) → Q .normal { a with defers := { target := .collected D, args := #[] } :: a.defers } W)
    (hstop : ∀ (D : Nat) (c : Code) (W : World), w.heap.size ≤ D → Ix c W → W.heap[D]? = some (.deferred (some [])) → c.wpIn Fence.wide 5 P Q { a with defers := { target := .collected D, args := #[] } :: a.defers } W) :
    (Code.rangeFunc g ps assign body).wpIn Fence.wide 5 P Q a w := by
  refine wpIn_rangeFunc ?_
  intro fn _
  let rec_ : LoopState → Option Code → Loop := fun st pe => { state := st, pending := pe, fn, tmps := a.tmps, params := ps, assign, body, defers := w.heap.size }
  obtain ⟨W1, hW1⟩ : ∃ W1, (w.alloc (.deferred (some []))).alloc (.loop (rec_ .ready none)) = W1 := ⟨_, rfl⟩
  have hs1 : W1.heap.size = w.heap.size + 2 := by rw [← hW1]; simp
  have hL1 : W1.heap[w.heap.size + 1]? = some (.loop (rec_ .ready none)) := by
    rw [← hW1]
    have := World.alloc_heap_new (w.alloc (.deferred (some []))) (.loop (rec_ .ready none))
    rwa [World.size_alloc] at this
  have hK1 : W1.heap[w.heap.size]? = some (.deferred (some [])) := by
    rw [← hW1]; exact (Below.heap_alloc _ _ _ (by simp)).trans (World.alloc_heap_new w _)
  have hbw : Below w.heap.size w W1 := by
    rw [← hW1]; exact ((Below.refl _ w).alloc (Nat.le_refl _) _).alloc (by simp) _
  refine ⟨w.heap.size + 1, [{ target := .collected w.heap.size, args := #[] }], W1, { target := .fn (.func gf) lb, args := #[.func (.yield (w.heap.size + 1)) #[] #[]] }, W1, gf,
    #[.func (.yield (w.heap.size + 1)) #[] #[]] ++ lb, W1, ?_, ?_, fun _ _ => trivial, ?_, fun h => by simp [Fence.wide] at h, ?_⟩
  · rw [← hW1]; exact run_enterLoop_outer _ _ _ _ _
  · simp only [resolve, hg]
    simp [go_sem]
  · simp [invoke, go_sem, eg]
  · refine (hit (w.heap.size + 1)
      (fun k W => I k W ∧ W.heap[w.heap.size + 1]? = some (.loop (rec_ .ready none)) ∧ W.heap[w.heap.size]? = some (.deferred (some [])))
      (fun W => ∃ c, Ix c W ∧ W.heap[w.heap.size + 1]? = some (.loop (rec_ .done (some c))) ∧ W.heap[w.heap.size]? = some (.deferred (some [])))
      W1 (hb0.trans (hbw.mono hb0.size))
      (fun k A B h hAB => ⟨hI k A B h.1 (hAB.mono (by omega)), (hAB.block _ (by omega)).trans h.2.1, (hAB.block _ (by omega)).trans h.2.2⟩)
      (fun A B h hAB => by
        obtain ⟨c, h1, h2, h3⟩ := h
        exact ⟨c, hIx c A B h1 (hAB.mono (by omega)), (hAB.block _ (by omega)).trans h2, (hAB.block _ (by omega)).trans h3⟩)
      ?_ ⟨hI 0 _ _ h0 hbw, hL1, hK1⟩).mono ?_
    · rintro k W hk hWs ⟨hi, hl, hd⟩
      have hy := run_yield (P := P) (args := encs k) hl (hps k)
      refine ⟨fn, _, assign, body, hy, roundIn_of_wpIn trivial (hassign _ k W _ hk ⟨_, run_beginRound hl rfl, ?_⟩)⟩
      obtain ⟨W2, hW2⟩ : ∃ W2, W.putObj (w.heap.size + 1) (.loop { rec_ .ready none with state := .busy }) = W2 := ⟨_, rfl⟩
      have hl2 : W2.heap[w.heap.size + 1]? = some (.loop { rec_ .ready none with state := .busy }) := by rw [← hW2]; exact World.putObj_heap_same (by omega)
      have hd2 : W2.heap[w.heap.size]? = some (.deferred (some [])) := by rw [← hW2]; exact (World.putObj_heap_other (by omega)).trans hd
      have hs2 : W2.heap.size = W.heap.size := by rw [← hW2]; simp
      have hi2 : I k W2 := hI k _ _ hi (by rw [← hW2]; exact below_putObj (Below.refl _ _) (by omega) _)
      have hm2 : Mod (fun b => n₀ ≤ b ∧ b < W1.heap.size) W W2 := by rw [← hW2]; exact mod_putObj (Mod.refl _ _) (.inl ⟨by omega, by omega⟩) _
      have hSS : ∀ b, S b → n₀ ≤ b ∧ b < W1.heap.size := fun b hb => ⟨(hS b hb).1, by have := (hS b hb).2; omega⟩
      show body.wpIn _ _ _ _ _ (W.putObj (w.heap.size + 1) (.loop { rec_ .ready none with state := .busy }))
      rw [hW2]
      refine wpIn_mono (hbody _ k W2 hk (by omega) hi2) ?_
      have fin : ∀ (jump : Option Code) (W3 : World), Mod S W2 W3 →
          (Instr.endRound (w.heap.size + 1) jump).run P W3 = .ok (.bool jump.isNone) (W3.putObj (w.heap.size + 1) (.loop (rec_ (if jump.isNone then .ready else .done) jump))) ∧
          (W3.putObj (w.heap.size + 1) (.loop (rec_ (if jump.isNone then .ready else .done) jump))).heap[w.heap.size + 1]? = some (.loop (rec_ (if jump.isNone then .ready else .done) jump)) ∧
          (W3.putObj (w.heap.size + 1) (.loop (rec_ (if jump.isNone then .ready else .done) jump))).heap[w.heap.size]? = some (.deferred (some [])) ∧
          Below w.heap.size W3 (W3.putObj (w.heap.size + 1) (.loop (rec_ (if jump.isNone then .ready else .done) jump))) ∧
          Mod (fun b => n₀ ≤ b ∧ b < W1.heap.size) W (W3.putObj (w.heap.size + 1) (.loop (rec_ (if jump.isNone then .ready else .done) jump))) := fun jump W3 hk3 => by
        have hl3 : W3.heap[w.heap.size + 1]? = _ := (hk3.block _ (by omega) (fun h => by have := (hS _ h).2; omega)).trans hl2
        have hd3 : W3.heap[w.heap.size]? = _ := (hk3.block _ (by omega) (fun h => by have := (hS _ h).2; omega)).trans hd2
        have he := run_endRound (P := P) jump hl3
        exact ⟨he, World.putObj_heap_same (by have := hk3.size; omega), (World.putObj_heap_other (by omega)).trans hd3, below_putObj (Below.refl _ _) (by omega) _,
          mod_putObj (hm2.trans (hk3.mono hSS)) (.inl ⟨by omega, by omega⟩) _⟩
      rintro e a3 W3 hp
      cases e with
      | normal =>
        obtain ⟨hk3, hi3⟩ := hp
        obtain ⟨hr, hl4, hd4, hb4, hm4⟩ := fin none W3 hk3
        exact ⟨_, _, hr, .inl ⟨rfl, ⟨hI _ _ _ hi3 hb4, hl4, hd4⟩, hm4⟩⟩
      | ret =>
        obtain ⟨hk3, hi3⟩ := hp
        obtain ⟨hr, hl4, hd4, hb4, hm4⟩ := fin (some .ret) W3 hk3
        exact ⟨_, _, hr, .inr ⟨rfl, ⟨.ret, hIx _ _ _ hi3 hb4, hl4, hd4⟩, hm4⟩⟩
      | exit id =>
        obtain ⟨hk3, hi3⟩ := hp
        obtain ⟨hr, hl4, hd4, hb4, hm4⟩ := fin (some (.exit id)) W3 hk3
        exact ⟨_, _, hr, .inr ⟨rfl, ⟨.exit id, hIx _ _ _ hi3 hb4, hl4, hd4⟩, hm4⟩⟩
      | goto t =>
        obtain ⟨hk3, hi3⟩ := hp
        obtain ⟨hr, hl4, hd4, hb4, hm4⟩ := fin (some (.goto t)) W3 hk3
        exact ⟨_, _, hr, .inr ⟨rfl, ⟨.goto t, hIx _ _ _ hi3 hb4, hl4, hd4⟩, hm4⟩⟩
      | panic ch => exact hp.elim
      | outgrown => exact hp.elim
    · rintro e W2 ⟨⟨v, rfl⟩, (⟨hi, hl, hd⟩ | ⟨c, hi, hl, hd⟩)⟩
      · exact ⟨none, _, run_endLoop (P := P) hl (by simp [rec_]), hdone _ _ (Nat.le_refl _) (hI _ _ _ hi (below_putObj (Below.refl _ _) (by omega) _)) ((World.putObj_heap_other (by omega)).trans hd)⟩
      · exact ⟨some c, _, run_endLoop (P := P) hl (by simp [rec_]), hstop _ c _ (Nat.le_refl _) (hIx _ _ _ hi (below_putObj (Below.refl _ _) (by omega) _)) ((World.putObj_heap_other (by omega)).trans hd)⟩

end Go.Proofs.Ytmnaidemihcfaaa
