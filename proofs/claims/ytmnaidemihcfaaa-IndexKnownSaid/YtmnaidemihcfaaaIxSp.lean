/- Walks of package index: Spread's iterator. -/
import Derived.Test.YtmnaidemihcfaaaIxS
namespace Go.Proofs.Ytmnaidemihcfaaa
open Go.RowKit
attribute [local go_sem] Oper.semAt_some

def hit (cs ps : List Int) (j : Int) (i : Nat) : Bool := decide (partG 0 cs (valL cs i) ps 0 = j)
def hitsTo (cs ps : List Int) (j : Int) (n : Nat) : List Nat := (List.range n).filter (hit cs ps j)
def hits (cs ps : List Int) (j : Int) : List Nat := hitsTo cs ps j (prodL cs).toNat
def hitF (cs ps : List Int) (j : Int) (k : Nat) : Int := ((hits cs ps j).getD k 0 : Nat)

theorem hitsTo_yes {cs ps : List Int} {j : Int} {i : Nat} (h : hit cs ps j i = true) : hitsTo cs ps j (i + 1) = hitsTo cs ps j i ++ [i] := by
  simp [hitsTo, List.range_succ, List.filter_append, h]
theorem hitsTo_no {cs ps : List Int} {j : Int} {i : Nat} (h : hit cs ps j i = false) : hitsTo cs ps j (i + 1) = hitsTo cs ps j i := by
  simp [hitsTo, List.range_succ, List.filter_append, h]
theorem hitsTo_pre (cs ps : List Int) (j : Int) : ∀ (d n : Nat), hitsTo cs ps j n <+: hitsTo cs ps j (n + d)
  | 0, n => List.prefix_refl _
  | d + 1, n => by
    refine (hitsTo_pre cs ps j d n).trans ?_
    rw [← Nat.add_assoc]
    cases h : hit cs ps j (n + d) with
    | true => rw [hitsTo_yes h]; exact List.prefix_append _ _
    | false => rw [hitsTo_no h]; exact List.prefix_refl _
theorem hits_at {cs ps : List Int} {j : Int} {i : Nat} (hi : i < (prodL cs).toNat) (h : hit cs ps j i = true) :
    (hitsTo cs ps j i).length < (hits cs ps j).length ∧ hitF cs ps j (hitsTo cs ps j i).length = i := by
  have hp := hitsTo_pre cs ps j ((prodL cs).toNat - (i + 1)) (i + 1)
  rw [show i + 1 + ((prodL cs).toNat - (i + 1)) = (prodL cs).toNat by omega, hitsTo_yes h] at hp
  obtain ⟨t, ht⟩ := hp
  have e : hits cs ps j = hitsTo cs ps j i ++ [i] ++ t := ht.symm
  refine ⟨by rw [e]; simp, ?_⟩
  unfold hitF
  rw [e]
  simp [List.getD_eq_getElem?_getD]

set_option maxRecDepth 100000 in
set_option maxHeartbeats 2000000 in
theorem spread_it {cs ps : List Int} (hg : Good cs) (j : Int) (A A' : Option Addr) (c c' b1 b2 b3 b4 : Nat) (w : World) (hpl : ps.length ≤ 65536) (hc : Ints w w.heap.size A cs) (hp : Ints w w.heap.size A' ps)
    (h1 : w.cell? ⟨b1, 0, none⟩ = some (.int .i64 (prodL cs))) (h2 : w.cell? ⟨b2, 0, none⟩ = some (.slice A cs.length c)) (h3 : w.cell? ⟨b3, 0, none⟩ = some (.slice A' ps.length c')) (h4 : w.cell? ⟨b4, 0, none⟩ = some (.int .i64 j)) :
    It Try.prog 71 #[.pointer (some ⟨b1, 0, none⟩), .pointer (some ⟨b2, 0, none⟩), .pointer (some ⟨b3, 0, none⟩), .pointer (some ⟨b4, 0, none⟩)] (fun k => #[.int .i64 k, .int .i64 (hitF cs ps j k)]) (hits cs ps j).length w.heap.size w := by
  intro l J Jx W hW hJ hJx hY h0
  have k1 := World.block_lt_of_cell? _ _ h1
  have k2 := World.block_lt_of_cell? _ _ h2
  have k3 := World.block_lt_of_cell? _ _ h3
  have k4 := World.block_lt_of_cell? _ _ h4
  dsimp only at k1 k2 k3 k4
  have hWs := hW.size
  have h4096 := hg.le
  have hpos := hg.pos
  refine callsIn_of_wp Try.func71 rfl trivial ?_ rfl
  simp only [Try.ntmps71, List.size_toArray, List.length_cons, List.length_nil, Nat.reduceAdd, Nat.reduceSub, Array.replicate_succ, Array.replicate_zero, List.push_toArray, List.append_toArray, List.nil_append, List.cons_append]
  have g1 := (hW.cell (p := ⟨b1, 0, none⟩) k1).trans h1
  gi_wp2
  gi_loopw [6, 9] (fun kc ic wr => ∃ (i : Nat), (i : Int) ≤ prodL cs ∧ ic = .int .i64 i ∧ kc = .int .i64 (hitsTo cs ps j i).length ∧ Below w.heap.size w wr ∧ W.heap.size ≤ wr.heap.size ∧ J (hitsTo cs ps j i).length wr)
    (fun _ ic _ => (prodL cs - intOf ic).toNat)
  case atStart => exact ⟨0, by omega, rfl, rfl, hW, Nat.le_refl _, h0⟩
  case round =>
    clear g1 h0 hW
    obtain ⟨i, hi, rfl, rfl, hb, hwr, hJk⟩ := hrel
    obtain ⟨nh, hnh⟩ : ∃ nh, (hitsTo cs ps j i).length = nh := ⟨_, rfl⟩
    rw [hnh] at hJk ⊢
    by_cases hlt : (i : Int) < prodL cs
    · have g1 := (hb.cell (p := ⟨b1, 0, none⟩) k1).trans h1
      have g2 := (hb.cell (p := ⟨b2, 0, none⟩) k2).trans h2
      have g3 := (hb.cell (p := ⟨b3, 0, none⟩) k3).trans h3
      have g4 := (hb.cell (p := ⟨b4, 0, none⟩) k4).trans h4
      have HP := fun W' => Lib.hid (fun hb' : Below w.heap.size w W' => part_any A A' cs ps c c' i W' ((hc.below hb').more hb'.size) ((hp.below hb').more hb'.size) hpl hg (by omega) (by omega))
      obtain ⟨pv, hpv⟩ : ∃ pv, partG 0 cs (valL cs i) ps 0 = pv := ⟨_, rfl⟩
      rw [hpv] at HP
      have g5 : ∀ w', Below wr.heap.size wr w' → w'.cell? ⟨b1, 0, none⟩ = some (.int .i64 (prodL cs)) ∧ w'.cell? ⟨b2, 0, none⟩ = some (.slice A cs.length c) ∧ w'.cell? ⟨b3, 0, none⟩ = some (.slice A' ps.length c') ∧ w'.cell? ⟨b4, 0, none⟩ = some (.int .i64 j) := fun w' h => by
        have hs := hb.size
        exact ⟨(h.cell (p := ⟨b1, 0, none⟩) (by dsimp only; omega)).trans g1, (h.cell (p := ⟨b2, 0, none⟩) (by dsimp only; omega)).trans g2, (h.cell (p := ⟨b3, 0, none⟩) (by dsimp only; omega)).trans g3, (h.cell (p := ⟨b4, 0, none⟩) (by dsimp only; omega)).trans g4⟩
      have G5 := Lib.hid g5
      have HN := Lib.hid hnh
      have HV := Lib.hid hpv
      clear g5 h1 h2 h3 h4 hnh hpv
      by_cases hj : pv = j
      · have tj : (pv != j) = false := by simp [hj]
        have HJ := Lib.hid hj
        clear hj
        gi_wp2
        refine wp_region_hold (fun w' => Below wr.heap.size wr w') rfl (fun _ => trivial) (by kernel_rfl) (by kernel_rfl) ((Below.refl _ _).drew) ?_
        iterate 4
          apply wpH_calm rfl rfl
          · intro w' hS
            obtain ⟨s1, s2, s3, s4⟩ := G5.out w' hS
            go_simp
            rfl
          simp only [Act.put, List.setIfInBounds_toArray, List.set_cons_zero, List.set_cons_succ]
        refine wpH_eff rfl rfl (fun K hK => ?_)
        go_simp
        refine ⟨trivial, (callsIn_wide.2 ((HP wr.drew).out hb.drew)).mono ?_⟩
        rintro e w3 ⟨rfl, hb3⟩
        have hb3' : Below wr.heap.size wr w3 := (Below.refl _ wr).drew.trans hb3
        refine hK _ _ (.inl hb3') ?_
        clear hK K
        iterate 2
          apply wpH_calm rfl rfl
          · intro w' hS
            obtain ⟨s1, s2, s3, s4⟩ := G5.out w' hS
            go_simp
            rfl
          simp only [Act.put, List.setIfInBounds_toArray, List.set_cons_zero, List.set_cons_succ]
        refine wpH_nil ?_
        have hhit : hit cs ps j i = true := by unfold hit; rw [HV.out, HJ.out]; simp
        have hat := hits_at (by omega) hhit
        rw [HN.out] at hat
        have hy := hY nh w3 hat.1 (by have := hb3'.size; omega) (hJ _ _ _ hJk (hb3'.mono (by omega)))
        rw [hat.2] at hy
        obtain ⟨fn, tmps, assign, body, hy, hR⟩ := hy
        have hs3 := hb3'.size
        have hbw3 := hb.trans (hb3'.mono hb.size)
        have HY := Lib.hid (hitsTo_yes hhit)
        have hn4 : nh ≤ 4096 := by
          have h1 : nh ≤ i := by rw [← HN.out]; unfold hitsTo; exact Nat.le_trans (List.length_filter_le _ _) (by simp)
          omega
        clear hhit hat hY g1 g2 g3 g4 HP hJk hb3 hb3'
        gi_wp2
        refine hR.mono ?_
        rintro e W3 (⟨rfl, hJ3, hm3⟩ | ⟨rfl, hJx3, hm3⟩)
        · have hs4 := hm3.size
          have hbW3 := hbw3.trans (hm3.below (B := w.heap.size) (by omega) (fun _ h => h.1))
          clear hm3 hbw3
          gi_wp2
          go_roundw
          case rel => exact ⟨i + 1, by omega, by go_num, by rw [HY.out, List.length_append, HN.out]; go_num, hbW3, by omega, by rw [HY.out, List.length_append, HN.out]; exact hJ3⟩
          case measure => simp [intOf]; omega
        · gi_wp2
          refine bodyPost_ret (results_none rfl _ _ _) rfl ?_
          exact ⟨⟨_, rfl⟩, .inr hJx3⟩
      · have tj : (pv != j) = true := by simp [hj]
        have HJ := Lib.hid hj
        clear hj
        gi_wp2
        refine wp_region_hold (fun w' => Below wr.heap.size wr w') rfl (fun _ => trivial) (by kernel_rfl) (by kernel_rfl) ((Below.refl _ _).drew) ?_
        iterate 4
          apply wpH_calm rfl rfl
          · intro w' hS
            obtain ⟨s1, s2, s3, s4⟩ := G5.out w' hS
            go_simp
            rfl
          simp only [Act.put, List.setIfInBounds_toArray, List.set_cons_zero, List.set_cons_succ]
        refine wpH_eff rfl rfl (fun K hK => ?_)
        go_simp
        refine ⟨trivial, (callsIn_wide.2 ((HP wr.drew).out hb.drew)).mono ?_⟩
        rintro e w3 ⟨rfl, hb3⟩
        have hb3' : Below wr.heap.size wr w3 := (Below.refl _ wr).drew.trans hb3
        refine hK _ _ (.inl hb3') ?_
        clear hK K
        iterate 2
          apply wpH_calm rfl rfl
          · intro w' hS
            obtain ⟨s1, s2, s3, s4⟩ := G5.out w' hS
            go_simp
            rfl
          simp only [Act.put, List.setIfInBounds_toArray, List.set_cons_zero, List.set_cons_succ]
        refine wpH_nil ?_
        have hhit : hit cs ps j i = false := by unfold hit; rw [HV.out]; simpa using HJ.out
        have HY := Lib.hid (hitsTo_no hhit)
        have hJ3 := hJ _ _ _ hJk (hb3'.mono (by omega))
        have hs3 := hb3'.size
        have hbw3 := hb.trans (hb3'.mono hb.size)
        clear hhit hY g1 g2 g3 g4 HP hJk hb3 hb3'
        gi_wp2
        go_roundw
        case rel => exact ⟨i + 1, by omega, by go_num, by rw [HY.out, HN.out], hbw3, by omega, by rw [HY.out, HN.out]; exact hJ3⟩
        case measure => simp [intOf]; omega
    · have hI : i = (prodL cs).toNat := by omega
      have HE := Lib.hid (show (hits cs ps j).length = nh by rw [← hnh, hI]; rfl)
      clear hI hnh h1 h2 h3 h4
      gi_wp2
      go_end0
      exact ⟨⟨_, rfl⟩, .inl (by rw [HE.out]; exact hJk)⟩

end Go.Proofs.Ytmnaidemihcfaaa
