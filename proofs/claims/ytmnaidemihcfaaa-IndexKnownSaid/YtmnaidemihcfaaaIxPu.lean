/- Walks of package index: part, Part. -/
import Derived.Test.YtmnaidemihcfaaaIxPt
import Derived.Test.YtmnaidemihcfaaaReg
namespace Go.Proofs.Ytmnaidemihcfaaa
open Go.RowKit
attribute [local go_sem] Oper.semAt_some

def valL (cs : List Int) (i : Int) : List Int := valsG cs (prodL cs) i
theorem valL_length (cs : List Int) (i : Int) : (valL cs i).length = cs.length := valsG_length _ _ _
theorem valL_get {cs : List Int} {i : Int} {k : Nat} (h : k < (valL cs i).length) : (valL cs i)[k] = valF cs i k := by
  have h' : k < cs.length := by rw [valL_length] at h; exact h
  exact valF_get h'

def PartI (cs ps : List Int) (i : Int) (b : Nat) (k : Nat) (W : World) : Prop :=
  ∃ (num : Int) (j : Nat), Boxed W b 3 (.int .i64 num) ∧ Boxed W (b + 1) 3 (.int .i64 j) ∧ j ≤ ps.length ∧ 0 ≤ num ∧ (num + 1) * prodL (cs.drop k) ≤ prodL cs ∧
    partG 0 cs (valL cs i) ps 0 = partG k (cs.drop k) ((valL cs i).drop k) (ps.drop j) num

set_option maxRecDepth 100000 in
set_option maxHeartbeats 2000000 in
theorem part_any (A A' : Option Addr) (cs ps : List Int) (c c' : Nat) (i : Int) (w : World) (hc : Ints w w.heap.size A cs) (hp : Ints w w.heap.size A' ps) (hpl : ps.length ≤ 65536) (hg : Good cs) (hi0 : 0 ≤ i) (hi1 : i < prodL cs) :
    Calls Try.prog 70 #[.slice A cs.length c, .slice A' ps.length c', .int .i64 (prodL cs), .int .i64 i] w fun e w' =>
      e = .returned (.int .i64 (partG 0 cs (valL cs i) ps 0)) ∧ Below w.heap.size w w' := by
  have hl12 := hg.len
  refine (callsIn_wide (n := 5)).1 ?_
  refine callsIn_of_wp_marks Try.func70 rfl trivial ?_ rfl
  simp only [Try.ntmps70, List.size_toArray, List.length_cons, List.length_nil, Nat.reduceAdd, Nat.reduceSub, Array.replicate_succ, Array.replicate_zero, List.push_toArray, List.append_toArray, List.nil_append, List.cons_append]
  gi_wp2_with (refine ⟨trivial, ?_⟩; gi_at_call 73; refine (callsIn_wide.2 (values_any _ _ _ _ _ _)).mono ?_; rintro e w' ⟨rfl, rfl⟩)
  obtain ⟨W0, hW0⟩ : ∃ W0, allocs w [.cells #[.slice A cs.length c] 22, .cells #[.slice A' ps.length c'] 22, .cells #[.int .i64 0] 3, .cells #[.int .i64 0] 3, .cells #[.slice A cs.length c] 22, .cells #[.int .i64 (prodL cs)] 3, .cells #[.int .i64 i] 3] = W0 := ⟨_, rfl⟩
  have hs0 : W0.heap.size = w.heap.size + 7 := by rw [← hW0]; exact allocs_size _ _
  have hb0 : Below w.heap.size w W0 := by rw [← hW0]; exact allocs_below _ _
  have x1 : Boxed W0 w.heap.size 22 (.slice A cs.length c) := by rw [← hW0]; exact allocs_at _ w 0 _ rfl
  have x2 : Boxed W0 (w.heap.size + 1) 22 (.slice A' ps.length c') := by rw [← hW0]; exact allocs_at _ w 1 _ rfl
  have x3 : Boxed W0 (w.heap.size + 2) 3 (.int .i64 0) := by rw [← hW0]; exact allocs_at _ w 2 _ rfl
  have x4 : Boxed W0 (w.heap.size + 3) 3 (.int .i64 0) := by rw [← hW0]; exact allocs_at _ w 3 _ rfl
  have x5 : Boxed W0 (w.heap.size + 4) 22 (.slice A cs.length c) := by rw [← hW0]; exact allocs_at _ w 4 _ rfl
  have x6 : Boxed W0 (w.heap.size + 5) 3 (.int .i64 (prodL cs)) := by rw [← hW0]; exact allocs_at _ w 5 _ rfl
  have x7 : Boxed W0 (w.heap.size + 6) 3 (.int .i64 i) := by rw [← hW0]; exact allocs_at _ w 6 _ rfl
  show Code.wpIn _ _ _ _ _ _ (allocs w [.cells #[.slice A cs.length c] 22, .cells #[.slice A' ps.length c'] 22, .cells #[.int .i64 0] 3, .cells #[.int .i64 0] 3, .cells #[.slice A cs.length c] 22, .cells #[.int .i64 (prodL cs)] 3, .cells #[.int .i64 i] 3])
  rw [hW0]
  clear hW0
  have hit : It Try.prog 101 #[.pointer (some ⟨w.heap.size + 6, 0, none⟩), .pointer (some ⟨w.heap.size + 5, 0, none⟩), .pointer (some ⟨w.heap.size + 4, 0, none⟩)] (fun k => #[.int .i64 k, .int .i64 (valF cs i k)]) cs.length w.heap.size W0 := values_it hg hi0 hi1 A c w.heap.size (w.heap.size + 6) (w.heap.size + 5) (w.heap.size + 4) W0 hb0.size (hc.below hb0) x7.cell x6.cell x5.cell
  refine wp_range (gf := 101) rfl enters_values hit (Below.refl _ _) hb0.size (fun _ => rfl) (fun b => b = w.heap.size + 2 ∨ b = w.heap.size + 3) (by rintro k (rfl | rfl) <;> omega)
    (fun k W => PartI cs ps i (w.heap.size + 2) k W ∧ Boxed W w.heap.size 22 (.slice A cs.length c) ∧ Boxed W (w.heap.size + 1) 22 (.slice A' ps.length c') ∧ Below w.heap.size w W)
    (fun c0 W => c0 = .exit 0 ∧ Boxed W (w.heap.size + 2) 3 (.int .i64 (partG 0 cs (valL cs i) ps 0)) ∧ Below w.heap.size w W)
    ?hI ?hIx ?h0
    (fun k => { tmps := #[Value.slice A cs.length c, Value.slice A' ps.length c', Value.int IntKind.i64 (prodL cs),
          Value.int IntKind.i64 i, Value.pointer (some { block := w.heap.size, off := 0 }),
          Value.pointer (some { block := w.heap.size + 1, off := 0 }), undef, undef, Value.int IntKind.i64 0,
          Value.pointer (some { block := w.heap.size + 1 + 1, off := 0 }),
          Value.pointer (some { block := w.heap.size + 1 + 1 + 1, off := 0 }), .int .i64 k, .int .i64 (valF cs i k), Value.slice A cs.length c,
          Value.int IntKind.i64 (prodL cs), Value.int IntKind.i64 i,
          Value.func (Fn.func 101) #[]
            #[Value.pointer (some { block := w.heap.size + 1 + 1 + 1 + 1 + 2, off := 0 }),
              Value.pointer (some { block := w.heap.size + 1 + 1 + 1 + 1 + 1, off := 0 }),
              Value.pointer (some { block := w.heap.size + 1 + 1 + 1 + 1, off := 0 })],
          .int .i64 k, .int .i64 (valF cs i k), undef, undef, undef, undef, undef, undef, undef, undef, undef, undef, undef, undef, undef,
          undef, undef, undef, undef, undef, undef, undef, undef], defers := [] }) ?assign ?body ?done ?stop
  case hI =>
    rintro k X Y ⟨⟨num, j, h1, h2, h3⟩, h4, h5, h6⟩ hXY
    exact ⟨⟨num, j, (hXY.block _ (by omega)).trans h1, (hXY.block _ (by omega)).trans h2, h3⟩, (hXY.block _ (by omega)).trans h4, (hXY.block _ (by omega)).trans h5, h6.trans (hXY.mono (by omega))⟩
  case hIx =>
    rintro c0 X Y ⟨h0, h4, h6⟩ hXY
    exact ⟨h0, (hXY.block _ (by omega)).trans h4, h6.trans (hXY.mono (by omega))⟩
  case h0 => exact ⟨⟨0, 0, x3, x4, Nat.zero_le _, by omega, by simp, rfl⟩, x1, x2, hb0⟩
  case assign =>
    intro l k W K hk hK
    gi_wp2
    exact hK
  case body =>
    rintro l k W hk hWs ⟨⟨num, j, y3, y4, hj, hn0, hn1, HP⟩, y1, y2, hb⟩
    have c1 := y1.cell
    have c2 := y2.cell
    have c3 := y3.cell
    have c4 := y4.cell
    have f3 := y3.frozen
    have f4 := y4.frozen
    have hcW := hc.below hb
    have hpW := hp.below hb
    clear hit x1 x2 x3 x4 x5 x6 x7 hb0 hc hp
    by_cases hj2 : j = ps.length
    · have t1 : ((j : Int) == (ps.length : Int)) = true := by simp [hj2]
      have HP' : partG 0 cs (valL cs i) ps 0 = num := by rw [HP, hj2, List.drop_length, partG_nil]
      have HH := Lib.hid HP'
      have Hy := Lib.hid y3
      clear HP HP' hj2 y3 hn0 hn1
      gi_wp2
      exact ⟨Mod.refl _ _, rfl, by rw [HH.out]; exact Hy.out, hb⟩
    · have t1 : ((j : Int) == (ps.length : Int)) = false := by simp; omega
      have hlt : j < ps.length := by omega
      have hlv : k < (valL cs i).length := by rw [valL_length]; exact hk
      have HD := Lib.hid (partG_drop num hk hlv hlt)
      have HP := Lib.hid HP
      obtain ⟨pb, poff, hA', hpb, hpc⟩ := hpW j hlt
      obtain ⟨cb, coff, hA, hcb, hcc⟩ := hcW k hk
      subst hA' hA
      have hv := valF_bd hg hi0 hi1 hk
      have hcd := hg.at_ hk
      have h4096 := hg.le
      have hle0 := horner_le hn0 (prodL_drop_pos hg k) hn1
      have hdr := prodL_drop hk
      have hdp := prodL_drop_pos hg (k + 1)
      by_cases ht2 : ps[j] = k
      · have t2 : (ps[j] == (k : Int)) = true := by simp [ht2]
        have hst := horner_step (n := num) (c := cs[k]) (v := valF cs i k) (P := prodL (cs.drop (k + 1))) (M := prodL cs) hn0 hcd.1 hdp hv.1 hv.2 (by rw [← hdr]; exact hn1)
        have hle := horner_le hst.1 hdp hst.2
        have hm := mul_bd (t := num + 1) (c := cs[k]) (by omega) (by omega) hcd.1 hcd.2
        have hexp : (num + 1) * cs[k] = num * cs[k] + cs[k] := by rw [Int.add_mul, Int.one_mul]
        have hm1 : num * cs[k] ≤ 40000 := by omega
        have hm0 : 0 ≤ num * cs[k] := Int.mul_nonneg hn0 (by omega)
        have hk12 : (k : Int) < (cs.length : Int) := by omega
        have HS := Lib.hid hst
        have H2 := Lib.hid ht2
        have hvg := valL_get hlv
        have HV := Lib.hid hvg
        have Y3 := Lib.hid y3
        have Y4 := Lib.hid y4
        clear hcW hpW hdr hdp hn1 ht2 hj2 hst hexp hm hvg y3 y4
        gi_wp2
        refine wp_region_hold (fun w' => w' = W.drew) rfl (fun _ => trivial) (by kernel_rfl) (by kernel_rfl) rfl ?_
        iterate 8
          apply wpH_calm rfl rfl
          · intro w' hS
            subst hS
            go_simp
            rfl
          simp only [Act.put, List.setIfInBounds_toArray, List.set_cons_zero, List.set_cons_succ]
        refine wpH_eff rfl rfl (fun K hK => ?_)
        go_simp
        refine hK _ _ (.inr rfl) (wpH_nil ?_)
        clear hK K
        gi_wp2
        exact ⟨(((Mod.refl (fun b => b = w.heap.size + 2 ∨ b = w.heap.size + 3) W).setCell (p := ⟨w.heap.size + 2, 0, none⟩) (.inl (.inl rfl)) _).setCell (p := ⟨w.heap.size + 3, 0, none⟩) (.inl (.inr rfl)) _).drew,
          ⟨_, j + 1, bx_drew (bx_far (Boxed.set _ Y3.out) (by simp) _), bx_drew (Boxed.set _ (bx_far Y4.out (by simp) _)), by omega, HS.out.1, HS.out.2, by rw [HP.out, HD.out, if_pos H2.out, HV.out]⟩,
          bx_drew (bx_far (bx_far y1 (by simp; omega) _) (by simp; omega) _), bx_drew (bx_far (bx_far y2 (by simp) _) (by simp) _),
          ((hb.setCell (p := ⟨w.heap.size + 2, 0, none⟩) (by simp) _).setCell (p := ⟨w.heap.size + 3, 0, none⟩) (by simp) _).drew⟩
      · have t2 : (ps[j] == (k : Int)) = false := by simp [ht2]
        have HN : Hid ((num + 1) * prodL (cs.drop (k + 1)) ≤ prodL cs) := by
          show _ ≤ _
          refine Int.le_trans (Int.mul_le_mul_of_nonneg_left ?_ (by omega)) hn1
          rw [hdr]
          have : 1 * prodL (cs.drop (k + 1)) ≤ cs[k] * prodL (cs.drop (k + 1)) := Int.mul_le_mul_of_nonneg_right hcd.1 (by omega)
          omega
        have H2 := Lib.hid ht2
        clear hcW hpW hdr hdp hn1 ht2 hj2
        gi_wp2
        exact ⟨Mod.refl _ _, ⟨num, j, y3, y4, by omega, hn0, HN.out, by rw [HP.out, HD.out, if_neg H2.out]⟩, y1, y2, hb⟩
  case done =>
    rintro D W hD ⟨⟨num, j, y3, y4, hj, hn0, hn1, HP⟩, y1, y2, hb⟩ hd
    have c3 := y3.cell
    rw [List.drop_of_length_le (Nat.le_refl _), partG_end] at HP
    have HH := Lib.hid HP
    clear HP hit x1 x2 x3 x4 x5 x6 x7 hb0 hc hp y1 y2 y3 y4
    gi_wp2
    refine ⟨by simp, .inl ⟨_, _, rfl, run_takeDeferred hd, ?_⟩⟩
    exact ⟨_, results_tmp rfl _ _ _, by rw [HH.out]; rfl, below_putObj hb (by omega) _⟩
  case stop =>
    rintro D c0 W hD ⟨rfl, y3, hb⟩ hd
    have c3 := y3.cell
    clear hit x1 x2 x3 x4 x5 x6 x7 hb0 hc hp y3
    gi_wp2
    refine ⟨by simp, .inl ⟨_, _, rfl, run_takeDeferred hd, ?_⟩⟩
    exact ⟨_, results_tmp rfl _ _ _, rfl, below_putObj hb (by omega) _⟩

end Go.Proofs.Ytmnaidemihcfaaa
