/- append onto a slice of ints that has no room: what comes back. -/
import Derived.Test.YtmnaidemihcfaaaIxW
import Derived.ArgAppend
namespace Go.Proofs.Ytmnaidemihcfaaa
open Go.RowKit

theorem addr_add (b off j : Nat) : (⟨b, off, none⟩ : Addr).add j = ⟨b, off + j, none⟩ := by
  unfold Addr.add; split
  · next h => subst h; rfl
  · rfl

theorem Ints.cells {w : World} {B : Nat} {ad : Addr} {xs : List Int} (h : Ints w B (some ad) xs) : ∀ j u, (xs.map (Value.int .i64))[j]? = some u → w.cell? (ad.add j) = some u := by
  intro j u hu
  rw [List.getElem?_map] at hu
  rcases Nat.lt_or_ge j xs.length with hj | hj
  · obtain ⟨b, off, hA, _, hc⟩ := h j hj
    cases hA
    rw [List.getElem?_eq_getElem hj] at hu
    simp at hu
    rw [addr_add, hc, hu]
  · rw [List.getElem?_eq_none hj] at hu; cases hu

theorem ints_own {w : World} {base n : Nat} {v : Value} {xs : List Int} (h : w.ownsRow base 3 1 v n (xs.map (Value.int .i64))) : ∃ A c, v = .slice A xs.length c ∧ Ints w w.heap.size A xs := by
  obtain ⟨hl, h⟩ := h
  have hn : n = xs.length := by simpa using hl.symm
  subst hn
  rcases h with ⟨rfl, h0⟩ | ⟨g, cap, cur, rfl, _, hg, _, _, _, htake⟩
  · exact ⟨none, 0, by rw [h0], fun j hj => absurd hj (by omega)⟩
  · refine ⟨_, _, rfl, fun j hj => ⟨g, 0, rfl, (Array.getElem?_eq_some_iff.1 hg).1, ?_⟩⟩
    rw [Nat.zero_add, cell_of_row w g j cur 3 (0, 0) hg]
    have : (cur.toList.take (xs.length * 1))[j]? = some (.int .i64 xs[j]) := by rw [htake]; simp [hj]
    rw [List.getElem?_take, if_pos (by omega)] at this
    simpa using this

/-- append(xs, ys...) where there is no room -/
theorem append_full {ops : Array Oper} {rest : List Oper} {o : Oper} {a : Act} {Q : Exit → Act → World → Prop} {w : World} (hw : Region.wanted o (yielded ops a.tmps) = true) (s x : Operand) (hop : o.op = Op.call { callee := Callee.builtin Builtin.append, args := #[s, x], argTypes := #[22, 22] })
    (A : Option Addr) (xs ys : List Int) (c c' : Nat) (ad : Addr) (B B' : Nat) (hs : a.eval s = .slice A xs.length c) (hx : a.eval x = .slice (some ad) ys.length c') (hA : A ≠ none) (h : Ints w B A xs) (h' : Ints w B' (some ad) ys)
    (hfull : c < xs.length + ys.length) (hb : xs.length + ys.length ≤ 65536)
    (hK : ∀ A' c2 w', Ints w' w'.heap.size A' (xs ++ ys) → Below w.heap.size w w' → wpList Try.prog ops Q rest (a.put o.dst (.slice A' (xs ++ ys).length c2)) w') : wpList Try.prog ops Q (o :: rest) a w := by
  obtain ⟨i0, hi, hz0, hz1, hz2⟩ := info_parts info_int
  obtain ⟨b, rfl⟩ : ∃ b, A = some b := by cases A with | none => exact absurd rfl hA | some b => exact ⟨b, rfl⟩
  obtain ⟨v', w', hrun, r1, r2⟩ := run_append_arg_grows (P := Try.prog) w 22 o.type 3 i0 (.int .i64 0) 1 8 Try.underlying22 hi hz0 hz1 hz2 rfl (by decide) b xs.length c (xs.map (Value.int .i64)) (by simp) h.cells ad ys.length c' (ys.map (Value.int .i64)) (by simp) h'.cells
    hfull (by unfold maxLen; omega) (by omega)
  unfold wpList
  rw [if_pos hw]
  left
  unfold Oper.wp
  simp [execOp, hop, resolve, invoke, builtin, hs, hx, hrun, Result.andThen, Oper.upon]
  rw [← List.map_append] at r1
  obtain ⟨A', c2, rfl, hi'⟩ := ints_own r1
  simpa using hK A' c2 w' hi' ⟨r2.os, r2.tape, r2.output, r2.size, fun k hk => r2.block k hk (by simp)⟩

theorem calls_new3 {P : Program} {f : FuncId} {args : Array Value} {w : World} {R : Ending → World → Prop} (xs ys zs : List Int)
    (h : ∀ W, Below w.heap.size w W → Ints W W.heap.size (some ⟨w.heap.size, 0, none⟩) xs → Ints W W.heap.size (some ⟨w.heap.size + 1, 0, none⟩) ys → Ints W W.heap.size (some ⟨w.heap.size + 1 + 1, 0, none⟩) zs → Calls P f args W R) :
    Calls P f args (((w.alloc (.cells (xs.map (Value.int .i64)).toArray 3)).alloc (.cells (ys.map (Value.int .i64)).toArray 3)).alloc (.cells (zs.map (Value.int .i64)).toArray 3)) R := by
  have h3 := ints_new ((w.alloc (.cells (xs.map (Value.int .i64)).toArray 3)).alloc (.cells (ys.map (Value.int .i64)).toArray 3)) zs
  have h2 := ints_new (w.alloc (.cells (xs.map (Value.int .i64)).toArray 3)) ys
  rw [World.size_alloc] at h2
  rw [World.size_alloc, World.size_alloc] at h3
  refine h _ ((((Below.refl _ _).alloc (Nat.le_refl _) _).alloc (by simp) _).alloc (by simp; omega) _) ?_ ?_ (h3.more (by simp))
  · exact ((ints_new w xs).below (((Below.refl _ _).alloc (by simp) _).alloc (by simp) _)).more (by simp)
  · exact (h2.below ((Below.refl _ _).alloc (by simp) _)).more (by simp)

end Go.Proofs.Ytmnaidemihcfaaa
