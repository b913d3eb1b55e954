/- The small helpers of the statements of chapter 02: is, fails, are; slices.Equal; what a literal slice lays. -/
import Derived.Test.YtmnaidemihcfaaaIxZ
namespace Go.Proofs.Ytmnaidemihcfaaa
open Go.RowKit

theorem ints_new (w : World) (xs : List Int) : Ints (w.alloc (.cells (xs.map (Value.int .i64)).toArray 3)) (w.heap.size + 1) (some ⟨w.heap.size, 0, none⟩) xs := fun j hj =>
  ⟨w.heap.size, 0, rfl, by omega, by
    rw [Nat.zero_add]
    have : (w.alloc (.cells (xs.map (Value.int .i64)).toArray 3)).heap[w.heap.size]? = some (.cells (xs.map (Value.int .i64)).toArray 3) := World.alloc_heap_new w _
    unfold World.cell?
    rw [this]
    simp [hj]⟩

/-- the worlds behind a literal slice -/
theorem calls_new {P : Program} {f : FuncId} {args : Array Value} {w : World} {R : Ending → World → Prop} (xs : List Int)
    (h : ∀ W, Below w.heap.size w W → Ints W W.heap.size (some ⟨w.heap.size, 0, none⟩) xs → Calls P f args W R) : Calls P f args (w.alloc (.cells (xs.map (Value.int .i64)).toArray 3)) R :=
  h _ ((Below.refl _ _).alloc (Nat.le_refl _) _) ((ints_new w xs).more (by simp))

theorem calls_new2 {P : Program} {f : FuncId} {args : Array Value} {w : World} {R : Ending → World → Prop} (xs ys : List Int)
    (h : ∀ W, Below w.heap.size w W → Ints W W.heap.size (some ⟨w.heap.size, 0, none⟩) xs → Ints W W.heap.size (some ⟨w.heap.size + 1, 0, none⟩) ys → Calls P f args W R) :
    Calls P f args ((w.alloc (.cells (xs.map (Value.int .i64)).toArray 3)).alloc (.cells (ys.map (Value.int .i64)).toArray 3)) R := by
  refine h _ (((Below.refl _ _).alloc (Nat.le_refl _) _).alloc (by simp) _) ?_ ?_
  · exact ((ints_new w xs).below ((Below.refl _ _).alloc (by simp) _)).more (by simp)
  · have := ints_new (w.alloc (.cells (xs.map (Value.int .i64)).toArray 3)) ys
    rw [World.size_alloc] at this
    exact this.more (by simp)

theorem is_any (n : Int) (w : World) : Calls Try.prog 37 #[.int .i64 n] w fun e w' =>
    e = .returned (.func (.func 74) #[] #[.pointer (some ⟨w.heap.size, 0, none⟩)]) ∧ Boxed w' w.heap.size 3 (.int .i64 n) ∧ Below w.heap.size w w' := by
  go_enter Try.func37, Try.ntmps37
  go_wp2
  go_ret
  exact ⟨rfl, Boxed.new w 3 _, (Below.refl _ _).alloc (Nat.le_refl _) _⟩

theorem is1_true (n : Int) (B : Nat) (w : World) (h : Boxed w B 3 (.int .i64 n)) : Calls Try.prog 74 #[.int .i64 n, .int .i64 0, .pointer (some ⟨B, 0, none⟩)] w fun e w' => e = .returned (.bool true) ∧ Below w.heap.size w w' := by
  have hc := h.cell
  go_enter Try.func74, Try.ntmps74
  go_wp2
  go_ret
  exact ⟨rfl, Below.refl _ _⟩

theorem fails_any (n : Int) (w : World) : Calls Try.prog 39 #[.int .i64 n] w fun e w' =>
    e = .returned (.func (.func 75) #[] #[.pointer (some ⟨w.heap.size, 0, none⟩)]) ∧ Boxed w' w.heap.size 32 (.int .i64 n) ∧ Below w.heap.size w w' := by
  go_enter Try.func39, Try.ntmps39
  go_wp2
  go_ret
  exact ⟨rfl, Boxed.new w 32 _, (Below.refl _ _).alloc (Nat.le_refl _) _⟩

theorem fails1_true (n : Int) (B : Nat) (w : World) (h : Boxed w B 32 (.int .i64 n)) : Calls Try.prog 75 #[.int .i64 0, .int .i64 n, .pointer (some ⟨B, 0, none⟩)] w fun e w' => e = .returned (.bool true) ∧ Below w.heap.size w w' := by
  have hc := h.cell
  go_enter Try.func75, Try.ntmps75
  go_wp2
  go_ret
  exact ⟨rfl, Below.refl _ _⟩

theorem are_any (A : Option Addr) (n c : Nat) (w : World) : Calls Try.prog 40 #[.slice A n c] w fun e w' =>
    e = .returned (.func (.func 76) #[] #[.pointer (some ⟨w.heap.size, 0, none⟩)]) ∧ Boxed w' w.heap.size 22 (.slice A n c) ∧ Below w.heap.size w w' := by
  go_enter Try.func40, Try.ntmps40
  go_wp2
  go_ret
  exact ⟨rfl, Boxed.new w 22 _, (Below.refl _ _).alloc (Nat.le_refl _) _⟩

set_option maxHeartbeats 1000000 in
theorem Equal_true (A A' : Option Addr) (xs : List Int) (c c' B B' : Nat) (w : World) (h : Ints w B A xs) (h' : Ints w B' A' xs) (hl : xs.length ≤ 65536) :
    Calls Try.prog 77 #[.slice A xs.length c, .slice A' xs.length c'] w fun e w' => e = .returned (.bool true) ∧ Below w.heap.size w w' := by
  go_enter Try.func77, Try.ntmps77
  go_wp2
  go_loopw [13] (fun ic wr => ∃ (k d : Nat), k ≤ xs.length ∧ ic = .int .i64 k ∧ wr = w.drewN d) (fun ic _ => xs.length - (intOf ic).toNat)
  case atStart => exact ⟨0, 0, Nat.zero_le _, rfl, rfl⟩
  case round =>
    obtain ⟨k, d, hk, rfl, rfl⟩ := hrel
    by_cases hlt : k < xs.length
    · obtain ⟨b, off, hA, hb, hcell⟩ := h k hlt
      obtain ⟨b', off', hA', hb', hcell'⟩ := h' k hlt
      subst hA hA'
      have hk2 : (k : Int) < (xs.length : Int) := by omega
      clear h h'
      go_wp2
      go_quiet (fail)
      go_wp2
      go_roundw
      case rel => exact ⟨k + 1, d + nq, by omega, by go_num, rfl⟩
      case measure => simp [intOf]; omega
    · clear h h'
      go_wp2
      go_ret
      exact ⟨rfl, below_drewN (Below.refl _ _) d⟩

theorem are1_true (A A' : Option Addr) (xs : List Int) (c c' B : Nat) (w : World) (hb : Boxed w B 22 (.slice A' xs.length c')) (h : Ints w w.heap.size A xs) (h' : Ints w w.heap.size A' xs) (hl : xs.length ≤ 65536) :
    Calls Try.prog 76 #[.slice A xs.length c, .int .i64 0, .pointer (some ⟨B, 0, none⟩)] w fun e w' => e = .returned (.bool true) ∧ Below w.heap.size w w' := by
  have hc := hb.cell
  have HE := Lib.hid (Equal_true A A' xs c c' _ _ w h h' hl)
  clear h h'
  go_enter Try.func76, Try.ntmps76
  go_wp2_with (go_at_call 77; refine (HE.out).mono ?_; rintro e w' ⟨rfl, hb'⟩)
  go_ret
  exact ⟨rfl, hb'⟩

/-- the exported functions at known arguments -/
theorem Size_at {A : Option Addr} {cs : List Int} {c : Nat} {w : World} (hc : Ints w w.heap.size A cs) (a b : Int) (h : sizeG cs = (a, b)) :
    Calls Try.prog 38 #[.slice A cs.length c] w fun e w' => e = .returned (.tuple #[.int .i64 a, .int .i64 b]) ∧ Below w.heap.size w w' :=
  (Size_any A cs c w _ hc).mono fun e w' ⟨h1, h2⟩ => by subst h2; exact ⟨by rw [h1, h]; rfl, Below.refl _ _⟩

theorem Index_at {A A' : Option Addr} {cs vs : List Int} {c c' : Nat} {w : World} (hc : Ints w w.heap.size A cs) (hv : Ints w w.heap.size A' vs) (hl : vs.length ≤ 65536) (a b : Int) (h : indexG cs vs = (a, b)) :
    Calls Try.prog 41 #[.slice A cs.length c, .slice A' vs.length c'] w fun e w' => e = .returned (.tuple #[.int .i64 a, .int .i64 b]) ∧ Below w.heap.size w w' :=
  (Index_any A A' cs vs c c' w (by omega) _ hc hv).mono fun e w' ⟨h1, h2⟩ => by subst h2; exact ⟨by rw [h1, h]; rfl, Below.refl _ _⟩

theorem Part_at {A A' : Option Addr} {cs ps : List Int} {c c' : Nat} {i : Int} {w : World} (hc : Ints w w.heap.size A cs) (hp : Ints w w.heap.size A' ps) (hl : ps.length ≤ 65536) (a b : Int) (h : PartS cs ps i = (a, b)) :
    Calls Try.prog 23 #[.slice A cs.length c, .slice A' ps.length c', .int .i64 i] w fun e w' => e = .returned (.tuple #[.int .i64 a, .int .i64 b]) ∧ Below w.heap.size w w' :=
  (Part_any A A' cs ps c c' i w hc hp hl).mono fun e w' ⟨h1, h2⟩ => ⟨by rw [h1, h]; rfl, h2⟩

theorem Permute_at {A A' : Option Addr} {cs ps : List Int} {c c' : Nat} {i : Int} {w : World} (hc : Ints w w.heap.size A cs) (hp : Ints w w.heap.size A' ps) (hl : ps.length ≤ 65536) (a b : Int) (h : PermuteS cs ps i = (a, b)) :
    Calls Try.prog 31 #[.slice A cs.length c, .slice A' ps.length c', .int .i64 i] w fun e w' => e = .returned (.tuple #[.int .i64 a, .int .i64 b]) ∧ Below w.heap.size w w' :=
  (Permute_any A A' cs ps c c' i w hc hp hl).mono fun e w' ⟨h1, h2⟩ => ⟨by rw [h1, h]; rfl, h2⟩

theorem Values_at {A : Option Addr} {cs : List Int} {c : Nat} {i : Int} {w : World} (hc : Ints w w.heap.size A cs) (xs : List Int) (b : Int) (h : ValuesS cs i = (xs, b)) :
    Calls Try.prog 36 #[.slice A cs.length c, .int .i64 i] w fun e w' => ∃ A c, e = .returned (.tuple #[.slice A xs.length c, .int .i64 b]) ∧ Ints w' w'.heap.size A xs ∧ Below w.heap.size w w' :=
  (Values_any A cs c i w hc).mono fun e w' h' => by rw [h] at h'; exact h'

theorem Spread_at {A A' : Option Addr} {cs ps : List Int} {c c' : Nat} {j : Int} {w : World} (hc : Ints w w.heap.size A cs) (hp : Ints w w.heap.size A' ps) (hl : ps.length ≤ 65536) (xs : List Int) (b : Int) (h : SpreadS cs ps j = (xs, b)) :
    Calls Try.prog 27 #[.slice A cs.length c, .slice A' ps.length c', .int .i64 j] w fun e w' => ∃ A c, e = .returned (.tuple #[.slice A xs.length c, .int .i64 b]) ∧ Ints w' w'.heap.size A xs ∧ Below w.heap.size w w' :=
  (Spread_any A A' cs ps c c' j w hc hp hl).mono fun e w' h' => by rw [h] at h'; exact h'

theorem nil_ints (w : World) : Ints w w.heap.size none [] := Ints.nil _ _ _

end Go.Proofs.Ytmnaidemihcfaaa
