/- Walks of package index, the second part: values, collect, Values. -/
import Derived.Test.YtmnaidemihcfaaaIxP
namespace Go.Proofs.Ytmnaidemihcfaaa
open Go.RowKit
attribute [local go_sem] Oper.semAt_some

theorem values_any (A : Option Addr) (n c : Nat) (size i : Int) (w : World) :
    Calls Try.prog 73 #[.slice A n c, .int .i64 size, .int .i64 i] w fun e w' =>
      e = .returned (.func (.func 101) #[] #[.pointer (some ⟨w.heap.size + 2, 0, none⟩), .pointer (some ⟨w.heap.size + 1, 0, none⟩), .pointer (some ⟨w.heap.size, 0, none⟩)]) ∧
      w' = ((w.alloc (.cells #[.slice A n c] 22)).alloc (.cells #[.int .i64 size] 3)).alloc (.cells #[.int .i64 i] 3) := by
  go_enter Try.func73, Try.ntmps73
  go_wp2
  go_ret
  exact ⟨rfl, rfl⟩

/-- what 'values' hands out -/
def valEnc (cs : List Int) (i : Int) (k : Nat) : Array Value := #[.int .i64 k, .int .i64 ((valsG cs (prodL cs) i).getD k 0)]

theorem valEnc_eq {cs : List Int} {i : Int} {k : Nat} (h : k < cs.length) {s r : Int} (hs : stG cs k (prodL cs, i) = (s, r)) :
    valEnc cs i k = #[.int .i64 k, .int .i64 (r / (s / cs[k]))] := by
  have := valsG_get cs k h (prodL cs, i)
  rw [hs] at this
  unfold valEnc
  rw [List.getD_eq_getElem?_getD, List.getElem?_eq_getElem (by rw [valsG_length]; exact h)]
  simp only [Option.getD_some, this]

set_option maxRecDepth 100000 in
set_option maxHeartbeats 1000000 in
theorem values_it {cs : List Int} (hg : Good cs) {i' : Int} (hi0 : 0 ≤ i') (hi1 : i' < prodL cs) (A : Option Addr) (c n₀ b1 b2 b3 : Nat) (w : World) (hn₀ : n₀ ≤ w.heap.size) (hc : Ints w n₀ A cs)
    (h1 : w.cell? ⟨b1, 0, none⟩ = some (.int .i64 i')) (h2 : w.cell? ⟨b2, 0, none⟩ = some (.int .i64 (prodL cs))) (h3 : w.cell? ⟨b3, 0, none⟩ = some (.slice A cs.length c)) :
    It Try.prog 101 #[.pointer (some ⟨b1, 0, none⟩), .pointer (some ⟨b2, 0, none⟩), .pointer (some ⟨b3, 0, none⟩)] (valEnc cs i') cs.length n₀ w := by
  intro l J Jx W hW hJ hJx hY h0
  have hc' : Ints W n₀ A cs := hc.below (hW.mono hn₀)
  have g1 := (hW.cell (p := ⟨b1, 0, none⟩) (World.block_lt_of_cell? _ _ h1)).trans h1
  have g2 := (hW.cell (p := ⟨b2, 0, none⟩) (World.block_lt_of_cell? _ _ h2)).trans h2
  have g3 := (hW.cell (p := ⟨b3, 0, none⟩) (World.block_lt_of_cell? _ _ h3)).trans h3
  have hWs := hW.size
  clear h1 h2 h3 hc hW
  refine callsIn_of_wp Try.func101 rfl trivial ?_ rfl
  simp only [Try.ntmps101, List.size_toArray, List.length_cons, List.length_nil, Nat.reduceAdd, Nat.reduceSub, Array.replicate_succ, Array.replicate_zero, List.push_toArray, List.append_toArray, List.nil_append, List.cons_append]
  gi_wp2
  gi_region
  gi_wp2
  gi_loopw [5, 6, 13] (fun r s i wr => ∃ (k : Nat) (s0 r0 : Int), k ≤ cs.length ∧ i = .int .i64 k ∧ s = .int .i64 s0 ∧ r = .int .i64 r0 ∧ Hid (stG cs k (prodL cs, i') = (s0, r0)) ∧ Ints wr n₀ A cs ∧ W.heap.size ≤ wr.heap.size ∧ J k wr)
    (fun _ _ i _ => cs.length - (intOf i).toNat)
  case atStart => exact ⟨0, prodL cs, i', Nat.zero_le _, rfl, rfl, rfl, stG_zero _ _, hc', Nat.le_refl _, hJ _ _ _ h0 ((Below.refl _ _).drew)⟩
  case round =>
    obtain ⟨k, s0, r0, hk, rfl, rfl, rfl, HS, hcr, hwr, hJk⟩ := hrel
    by_cases hlt : k < cs.length
    · have hl12 := hg.len
      obtain ⟨e1, e2, e3⟩ := stG_inv hg i' hi0 hi1 k hk
      have hst := stG_succ cs k hlt (prodL cs, i')
      rw [HS.out] at e1 e2 e3 hst
      simp only at e1 e2 e3 hst
      have hcd := hg.at_ hlt
      have hsp : 1 ≤ s0 := by rw [e1]; exact prodL_drop_pos hg k
      have hs4 : s0 ≤ 4096 := by rw [e1]; exact prodL_drop_le hg k
      have hq : 1 ≤ s0 / cs[k] := by rw [e1, div_card hg hlt]; exact prodL_drop_pos hg (k + 1)
      have hq4 : s0 / cs[k] ≤ 4096 := by rw [e1, div_card hg hlt]; exact prodL_drop_le hg (k + 1)
      have HT := Lib.hid hst
      rw [← e1] at e3
      have hr4 : r0 < 4096 := by omega
      have hy := hY k wr hlt hwr hJk
      rw [valEnc_eq hlt HS.out] at hy
      obtain ⟨fn, tmps, assign, body, hy, hR⟩ := hy
      obtain ⟨b, off, rfl, hb, hcell⟩ := hcr k hlt
      clear hst e1 HS hi0 hi1 hY hc'
      gi_wp2
      refine hR.mono ?_
      rintro e W3 (⟨rfl, hJ3, hm3⟩ | ⟨rfl, hJx3, hm3⟩)
      · have hc3 := hcr.below (hm3.below (B := n₀) (by omega) (fun _ h => h.1))
        have hs3 := hm3.size
        clear hcr hm3
        gi_wp2
        go_roundw
        case rel => exact ⟨k + 1, s0 / cs[k], r0 % (s0 / cs[k]), by omega, by go_num, rfl, rfl, HT.out, hc3, by omega, hJ3⟩
        case measure => simp [intOf]; omega
      · gi_wp2
        refine bodyPost_ret (results_none rfl _ _ _) rfl ?_
        exact ⟨⟨_, rfl⟩, .inr hJx3⟩
    · gi_wp2
      go_end0
      obtain rfl : k = cs.length := by omega
      exact ⟨⟨_, rfl⟩, .inl hJk⟩


theorem info_int : (Try.prog.info? 3).map (fun i => (i.zero, i.size, i.bytes)) = some (some (.int .i64 0), 1, 8) := by kernel_rfl

set_option maxRecDepth 100000 in
set_option maxHeartbeats 1000000 in
theorem collect_it (f : Nat → Int) (n : Nat) (hl : n ≤ 65536) (gf : Nat) (lb : Array Value) (eg : ∀ args w, (callFunc gf args).run Try.prog w = .ok (.enter gf args) w) (n₀ : Nat) (w : World) (hn₀ : n₀ ≤ w.heap.size)
    (hit : It Try.prog gf lb (fun k => #[.int .i64 k, .int .i64 (f k)]) n n₀ w) :
    Calls Try.prog 72 #[.int .i64 n, .func (.func gf) #[] lb] w fun e w' =>
      ∃ g, e = .returned (.slice (some ⟨g, 0, none⟩) n n) ∧ w.heap.size ≤ g ∧ w'.rowIs g 3 n (fun j => .int .i64 (f j)) ∧ Below w.heap.size w w' := by
  have hmk := run_make_row' (P := Try.prog) 22 3 (.int .i64 0) 8 Try.underlying22 info_int rfl .i64 .i64 n (by omega) (by omega)
  refine (callsIn_wide (n := 5)).1 ?_
  refine callsIn_of_wp_marks Try.func72 rfl trivial ?_ rfl
  simp only [Try.ntmps72, List.size_toArray, List.length_cons, List.length_nil, Nat.reduceAdd, Nat.reduceSub, Array.replicate_succ, Array.replicate_zero, List.push_toArray, List.append_toArray, List.nil_append, List.cons_append]
  gi_wp2
  clear hmk
  obtain ⟨W0, hW0⟩ : ∃ W0, (w.alloc (Obj.cells (madeCells #[Value.int IntKind.i64 0] n) 3)).alloc (Obj.cells #[Value.slice (some { block := w.heap.size, off := 0 }) n n] 22) = W0 := ⟨_, rfl⟩
  rw [hW0]
  have hs0 : W0.heap.size = w.heap.size + 2 := by rw [← hW0]; simp
  have hb0 : Below w.heap.size w W0 := by rw [← hW0]; exact ((Below.refl _ w).alloc (Nat.le_refl _) _).alloc (by simp) _
  have hr0 : W0.rowIs w.heap.size 3 n (fun _ => .int .i64 0) := by rw [← hW0]; exact (World.rowIs_made w _ _ _).alloc _
  have hx0 : Boxed W0 (w.heap.size + 1) 22 (.slice (some ⟨w.heap.size, 0, none⟩) n n) := by
    rw [← hW0]; have := Boxed.new (w.alloc (Obj.cells (madeCells #[Value.int IntKind.i64 0] n) 3)) 22 (.slice (some ⟨w.heap.size, 0, none⟩) n n); rwa [World.size_alloc] at this
  clear hW0
  refine wp_range (gf := gf) (lb := lb) rfl eg hit hb0 (by omega) (fun _ => rfl) (fun b => b = w.heap.size) (by rintro k rfl; omega)
    (fun k W => W.rowIs w.heap.size 3 n (fun j => if j < k then .int .i64 (f j) else .int .i64 0) ∧ Boxed W (w.heap.size + 1) 22 (.slice (some ⟨w.heap.size, 0, none⟩) n n) ∧ Below w.heap.size w W)
    (fun _ _ => False)
    (fun k A B h hAB => ⟨h.1.of_block (hAB.block _ (by omega)), (hAB.block _ (by omega)).trans h.2.1, h.2.2.trans (hAB.mono (by omega))⟩)
    (fun _ _ _ h _ => h.elim)
    ⟨hr0.congr (fun i _ => by simp), hx0, hb0⟩
    (fun k => { tmps := #[Value.int IntKind.i64 ↑n, Value.func (Fn.func gf) #[] lb, undef, undef, Value.slice none 0 0,
          Value.pointer (some { block := w.heap.size + 1, off := 0 }), .int .i64 k, .int .i64 (f k), Value.int IntKind.i64 ↑n,
          Value.slice (some { block := w.heap.size, off := 0 }) n n, Value.func (Fn.func gf) #[] lb,
          .int .i64 k, .int .i64 (f k), undef, undef, undef, undef, undef], defers := [] }) ?assign ?body ?done (fun _ _ _ _ h _ => h.elim)
  case assign =>
    intro l k W K hk hK
    gi_wp2
    exact hK
  case body =>
    rintro l k W hk hWs ⟨hr, hx, hb⟩
    have hxc := hx.cell
    have hrc := hr.cell hk
    have hrf := hr.frozen k
    clear hit hr0 hx0 hb0
    gi_wp2
    refine ⟨(Mod.refl (fun b => b = w.heap.size) W).setCell (p := ⟨w.heap.size, k, none⟩) (.inl rfl) _, (hr.set k _).congr (fun j hj => ?_), ?_, hb.setCell (p := ⟨w.heap.size, k, none⟩) (Nat.le_refl _) _⟩
    · by_cases e : j = k
      · subst e; simp
      · by_cases e2 : j < k
        · simp [e, e2, show j < k + 1 by omega]
        · simp [e, e2, show ¬ j < k + 1 by omega]
    · exact (Below.heap_setCell _ _ _ _ (by simp)).trans hx
  case done =>
    rintro D W hD ⟨hr, hx, hb⟩ hd
    have hxc := hx.cell
    gi_wp2
    refine ⟨by simp, .inl ⟨_, _, rfl, run_takeDeferred hd, ?_⟩⟩
    refine ⟨_, results_tmp rfl _ _ _, w.heap.size, rfl, Nat.le_refl _, ?_, below_putObj hb (by omega) _⟩
    refine World.rowIs.congr (World.rowIs.of_block hr (World.putObj_heap_other (by omega))) (fun i hi => by simp [hi])

end Go.Proofs.Ytmnaidemihcfaaa
