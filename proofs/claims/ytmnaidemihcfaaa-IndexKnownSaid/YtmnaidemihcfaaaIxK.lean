/- IndexKnown returns true. (The walk was printed by wip/genline.py.) -/
import Derived.Test.YtmnaidemihcfaaaIxA
namespace Go.Proofs.Ytmnaidemihcfaaa
open Go.RowKit

set_option maxRecDepth 100000 in
set_option maxHeartbeats 8000000 in
theorem known_true (w : World) : Calls Try.prog 6 #[] w fun e w' => e = .returned (.bool true) ∧ Below w.heap.size w w' := by
  have hb := Below.refl w.heap.size w
  go_enter Try.func6, Try.ntmps6
  go_wp2_with fail
  refine (works_true _).mono ?_
  rintro e W ⟨rfl, b1⟩
  replace hb := hb.trans (b1.mono hb.size)
  clear b1
  go_wp2_with fail
  refine calls_new3 [1, 1, 1, 1, 1, 1, 1, 1, 1, 1, 1, 1] [2, 2, 2, 2, 2, 2, 2, 2, 2, 2, 2, 2] [0] (fun W b2 i3 i4 i5 => ?_)
  replace hb := hb.trans (b2.mono hb.size)
  clear b2
  refine (Values_at i5 [] 20 (by decide)).mono ?_
  rintro e W ⟨A8, c9, rfl, i7, b6⟩
  clear i5
  replace i3 := (i3.below b6).more b6.size
  replace i4 := (i4.below b6).more b6.size
  replace hb := hb.trans (b6.mono hb.size)
  clear b6
  go_wp2_with fail
  refine (Values_at (nil_ints _) [] 2 (by decide)).mono ?_
  rintro e W ⟨A12, c13, rfl, i11, b10⟩
  clear i7
  replace i3 := (i3.below b10).more b10.size
  replace i4 := (i4.below b10).more b10.size
  replace hb := hb.trans (b10.mono hb.size)
  clear b10
  go_wp2_with fail
  refine calls_new2 [2, 2] [1, 1] (fun W b14 i15 i16 => ?_)
  replace i3 := (i3.below b14).more b14.size
  replace i4 := (i4.below b14).more b14.size
  replace hb := hb.trans (b14.mono hb.size)
  clear b14
  refine (Spread_at i15 i16 (by decide) [] 2 (by decide)).mono ?_
  rintro e W ⟨A19, c20, rfl, i18, b17⟩
  clear i11 i16 i15
  replace i3 := (i3.below b17).more b17.size
  replace i4 := (i4.below b17).more b17.size
  replace hb := hb.trans (b17.mono hb.size)
  clear b17
  go_wp2_with fail
  refine calls_new2 [2, 2] [1] (fun W b21 i22 i23 => ?_)
  replace i3 := (i3.below b21).more b21.size
  replace i4 := (i4.below b21).more b21.size
  replace hb := hb.trans (b21.mono hb.size)
  clear b21
  refine (Spread_at i22 i23 (by decide) [] 2 (by decide)).mono ?_
  rintro e W ⟨A26, c27, rfl, i25, b24⟩
  clear i18 i23 i22
  replace i3 := (i3.below b24).more b24.size
  replace i4 := (i4.below b24).more b24.size
  replace hb := hb.trans (b24.mono hb.size)
  clear b24
  go_wp2_with fail
  refine calls_new2 [9] [5] (fun W b28 i29 i30 => ?_)
  replace i3 := (i3.below b28).more b28.size
  replace i4 := (i4.below b28).more b28.size
  replace hb := hb.trans (b28.mono hb.size)
  clear b28
  refine (Spread_at i29 i30 (by decide) [] 20 (by decide)).mono ?_
  rintro e W ⟨A33, c34, rfl, i32, b31⟩
  clear i25 i29 i30
  replace i3 := (i3.below b31).more b31.size
  replace i4 := (i4.below b31).more b31.size
  replace hb := hb.trans (b31.mono hb.size)
  clear b31
  go_wp2_with fail
  refine (is_any _ _).mono ?_
  rintro e W ⟨rfl, x36, b35⟩
  clear i32
  replace i3 := (i3.below b35).more b35.size
  replace i4 := (i4.below b35).more b35.size
  replace hb := hb.trans (b35.mono hb.size)
  clear b35
  go_wp2_with fail
  refine (Size_at i3 1 0 rfl).mono ?_
  rintro e W ⟨rfl, b37⟩
  replace i3 := (i3.below b37).more b37.size
  replace i4 := (i4.below b37).more b37.size
  replace x36 := bx_below x36 b37 x36.lt
  replace hb := hb.trans (b37.mono hb.size)
  clear b37
  go_wp2_with fail
  refine (is1_true _ _ _ x36).mono ?_
  rintro e W ⟨rfl, b38⟩
  clear x36
  replace i3 := (i3.below b38).more b38.size
  replace i4 := (i4.below b38).more b38.size
  replace hb := hb.trans (b38.mono hb.size)
  clear b38
  go_wp2_with fail
  refine (fails_any _ _).mono ?_
  rintro e W ⟨rfl, x40, b39⟩
  replace i3 := (i3.below b39).more b39.size
  replace i4 := (i4.below b39).more b39.size
  replace hb := hb.trans (b39.mono hb.size)
  clear b39
  simp only []
  rename_i HK
  refine HK _ _ ?_
  iterate 2 (refine wpList_step (fun K hK => ?_); go_simp; refine hK _ _ ?_; clear hK K)
  refine append_full (by rfl) _ _ rfl _ [1, 1, 1, 1, 1, 1, 1, 1, 1, 1, 1, 1] [1] 12 1 _ _ _ rfl rfl (by simp) (i3.below ((Below.refl _ _).alloc (Nat.le_refl _) _)) ((ints_new _ [1]).more (Nat.le_refl _)) (by decide) (by decide) ?_
  intro A44 c45 W i42 b41
  replace b41 : Below _ _ _ := ((Below.refl _ _).alloc (Nat.le_refl _) _).trans (b41.mono (by simp))
  replace i3 := (i3.below b41).more b41.size
  replace i4 := (i4.below b41).more b41.size
  replace x40 := bx_below x40 b41 x40.lt
  replace hb := hb.trans (b41.mono hb.size)
  clear b41
  go_wp2_with fail
  refine (Size_at i42 0 20 rfl).mono ?_
  rintro e W ⟨rfl, b46⟩
  clear i42
  replace i3 := (i3.below b46).more b46.size
  replace i4 := (i4.below b46).more b46.size
  replace x40 := bx_below x40 b46 x40.lt
  replace hb := hb.trans (b46.mono hb.size)
  clear b46
  go_wp2_with fail
  refine (fails1_true _ _ _ x40).mono ?_
  rintro e W ⟨rfl, b47⟩
  clear x40
  replace i3 := (i3.below b47).more b47.size
  replace i4 := (i4.below b47).more b47.size
  replace hb := hb.trans (b47.mono hb.size)
  clear b47
  go_wp2_with fail
  refine (is_any _ _).mono ?_
  rintro e W ⟨rfl, x49, b48⟩
  replace i3 := (i3.below b48).more b48.size
  replace i4 := (i4.below b48).more b48.size
  replace hb := hb.trans (b48.mono hb.size)
  clear b48
  go_wp2_with fail
  refine (Size_at i4 4096 0 rfl).mono ?_
  rintro e W ⟨rfl, b50⟩
  replace i3 := (i3.below b50).more b50.size
  replace i4 := (i4.below b50).more b50.size
  replace x49 := bx_below x49 b50 x49.lt
  replace hb := hb.trans (b50.mono hb.size)
  clear b50
  go_wp2_with fail
  refine (is1_true _ _ _ x49).mono ?_
  rintro e W ⟨rfl, b51⟩
  clear x49
  replace i3 := (i3.below b51).more b51.size
  replace i4 := (i4.below b51).more b51.size
  replace hb := hb.trans (b51.mono hb.size)
  clear b51
  go_wp2_with fail
  refine (is_any _ _).mono ?_
  rintro e W ⟨rfl, x53, b52⟩
  replace i3 := (i3.below b52).more b52.size
  replace i4 := (i4.below b52).more b52.size
  replace hb := hb.trans (b52.mono hb.size)
  clear b52
  go_wp2_with fail
  refine calls_new [8, 8, 8, 8] (fun W b54 i55 => ?_)
  replace i3 := (i3.below b54).more b54.size
  replace i4 := (i4.below b54).more b54.size
  replace x53 := bx_below x53 b54 x53.lt
  replace hb := hb.trans (b54.mono hb.size)
  clear b54
  refine (Size_at i55 4096 0 rfl).mono ?_
  rintro e W ⟨rfl, b56⟩
  clear i55
  replace i3 := (i3.below b56).more b56.size
  replace i4 := (i4.below b56).more b56.size
  replace x53 := bx_below x53 b56 x53.lt
  replace hb := hb.trans (b56.mono hb.size)
  clear b56
  go_wp2_with fail
  refine (is1_true _ _ _ x53).mono ?_
  rintro e W ⟨rfl, b57⟩
  clear x53
  replace i3 := (i3.below b57).more b57.size
  replace i4 := (i4.below b57).more b57.size
  replace hb := hb.trans (b57.mono hb.size)
  clear b57
  go_wp2_with fail
  refine (fails_any _ _).mono ?_
  rintro e W ⟨rfl, x59, b58⟩
  replace i3 := (i3.below b58).more b58.size
  replace i4 := (i4.below b58).more b58.size
  replace hb := hb.trans (b58.mono hb.size)
  clear b58
  go_wp2_with fail
  refine calls_new [9] (fun W b60 i61 => ?_)
  replace i3 := (i3.below b60).more b60.size
  replace i4 := (i4.below b60).more b60.size
  replace x59 := bx_below x59 b60 x59.lt
  replace hb := hb.trans (b60.mono hb.size)
  clear b60
  refine (Size_at i61 0 20 rfl).mono ?_
  rintro e W ⟨rfl, b62⟩
  clear i61
  replace i3 := (i3.below b62).more b62.size
  replace i4 := (i4.below b62).more b62.size
  replace x59 := bx_below x59 b62 x59.lt
  replace hb := hb.trans (b62.mono hb.size)
  clear b62
  go_wp2_with fail
  refine (fails1_true _ _ _ x59).mono ?_
  rintro e W ⟨rfl, b63⟩
  clear x59
  replace i3 := (i3.below b63).more b63.size
  replace i4 := (i4.below b63).more b63.size
  replace hb := hb.trans (b63.mono hb.size)
  clear b63
  go_wp2_with fail
  refine (fails_any _ _).mono ?_
  rintro e W ⟨rfl, x65, b64⟩
  replace i3 := (i3.below b64).more b64.size
  replace i4 := (i4.below b64).more b64.size
  replace hb := hb.trans (b64.mono hb.size)
  clear b64
  go_wp2_with fail
  refine calls_new [0] (fun W b66 i67 => ?_)
  replace i3 := (i3.below b66).more b66.size
  replace i4 := (i4.below b66).more b66.size
  replace x65 := bx_below x65 b66 x65.lt
  replace hb := hb.trans (b66.mono hb.size)
  clear b66
  refine (Size_at i67 0 20 rfl).mono ?_
  rintro e W ⟨rfl, b68⟩
  clear i67
  replace i3 := (i3.below b68).more b68.size
  replace i4 := (i4.below b68).more b68.size
  replace x65 := bx_below x65 b68 x65.lt
  replace hb := hb.trans (b68.mono hb.size)
  clear b68
  go_wp2_with fail
  refine (fails1_true _ _ _ x65).mono ?_
  rintro e W ⟨rfl, b69⟩
  clear x65
  replace i3 := (i3.below b69).more b69.size
  replace i4 := (i4.below b69).more b69.size
  replace hb := hb.trans (b69.mono hb.size)
  clear b69
  go_wp2_with fail
  refine (fails_any _ _).mono ?_
  rintro e W ⟨rfl, x71, b70⟩
  replace i3 := (i3.below b70).more b70.size
  replace i4 := (i4.below b70).more b70.size
  replace hb := hb.trans (b70.mono hb.size)
  clear b70
  go_wp2_with fail
  refine calls_new [2, (-1)] (fun W b72 i73 => ?_)
  replace i3 := (i3.below b72).more b72.size
  replace i4 := (i4.below b72).more b72.size
  replace x71 := bx_below x71 b72 x71.lt
  replace hb := hb.trans (b72.mono hb.size)
  clear b72
  refine (Size_at i73 0 20 rfl).mono ?_
  rintro e W ⟨rfl, b74⟩
  clear i73
  replace i3 := (i3.below b74).more b74.size
  replace i4 := (i4.below b74).more b74.size
  replace x71 := bx_below x71 b74 x71.lt
  replace hb := hb.trans (b74.mono hb.size)
  clear b74
  go_wp2_with fail
  refine (fails1_true _ _ _ x71).mono ?_
  rintro e W ⟨rfl, b75⟩
  clear x71
  replace i3 := (i3.below b75).more b75.size
  replace i4 := (i4.below b75).more b75.size
  replace hb := hb.trans (b75.mono hb.size)
  clear b75
  go_wp2_with fail
  refine (fails_any _ _).mono ?_
  rintro e W ⟨rfl, x77, b76⟩
  replace i3 := (i3.below b76).more b76.size
  replace i4 := (i4.below b76).more b76.size
  replace hb := hb.trans (b76.mono hb.size)
  clear b76
  go_wp2_with fail
  refine calls_new [8, 8, 8, 8, 8, 8, 8, 8, 8, 8, 8, 8] (fun W b78 i79 => ?_)
  replace i3 := (i3.below b78).more b78.size
  replace i4 := (i4.below b78).more b78.size
  replace x77 := bx_below x77 b78 x77.lt
  replace hb := hb.trans (b78.mono hb.size)
  clear b78
  refine (Size_at i79 0 20 rfl).mono ?_
  rintro e W ⟨rfl, b80⟩
  clear i79
  replace i3 := (i3.below b80).more b80.size
  replace i4 := (i4.below b80).more b80.size
  replace x77 := bx_below x77 b80 x77.lt
  replace hb := hb.trans (b80.mono hb.size)
  clear b80
  go_wp2_with fail
  refine (fails1_true _ _ _ x77).mono ?_
  rintro e W ⟨rfl, b81⟩
  clear x77
  replace i3 := (i3.below b81).more b81.size
  replace i4 := (i4.below b81).more b81.size
  replace hb := hb.trans (b81.mono hb.size)
  clear b81
  go_wp2_with fail
  refine (are_any _ _ _ _).mono ?_
  rintro e W ⟨rfl, x83, b82⟩
  replace i3 := (i3.below b82).more b82.size
  replace i4 := (i4.below b82).more b82.size
  replace hb := hb.trans (b82.mono hb.size)
  clear b82
  go_wp2_with fail
  refine (Values_at (nil_ints _) [] 0 (by decide)).mono ?_
  rintro e W ⟨A86, c87, rfl, i85, b84⟩
  replace i3 := (i3.below b84).more b84.size
  replace i4 := (i4.below b84).more b84.size
  replace x83 := bx_below x83 b84 x83.lt
  replace hb := hb.trans (b84.mono hb.size)
  clear b84
  go_wp2_with fail
  refine (are1_true _ _ [] _ _ _ _ x83 i85 (nil_ints _) (by decide)).mono ?_
  rintro e W ⟨rfl, b88⟩
  clear x83 i85
  replace i3 := (i3.below b88).more b88.size
  replace i4 := (i4.below b88).more b88.size
  replace hb := hb.trans (b88.mono hb.size)
  clear b88
  go_wp2_with fail
  refine (is_any _ _).mono ?_
  rintro e W ⟨rfl, x90, b89⟩
  replace i3 := (i3.below b89).more b89.size
  replace i4 := (i4.below b89).more b89.size
  replace hb := hb.trans (b89.mono hb.size)
  clear b89
  go_wp2_with fail
  refine (Index_at (nil_ints _) (nil_ints _) (by decide) 0 0 rfl).mono ?_
  rintro e W ⟨rfl, b91⟩
  replace i3 := (i3.below b91).more b91.size
  replace i4 := (i4.below b91).more b91.size
  replace x90 := bx_below x90 b91 x90.lt
  replace hb := hb.trans (b91.mono hb.size)
  clear b91
  go_wp2_with fail
  refine (is1_true _ _ _ x90).mono ?_
  rintro e W ⟨rfl, b92⟩
  clear x90
  replace i3 := (i3.below b92).more b92.size
  replace i4 := (i4.below b92).more b92.size
  replace hb := hb.trans (b92.mono hb.size)
  clear b92
  go_wp2_with fail
  refine (fails_any _ _).mono ?_
  rintro e W ⟨rfl, x94, b93⟩
  replace i3 := (i3.below b93).more b93.size
  replace i4 := (i4.below b93).more b93.size
  replace hb := hb.trans (b93.mono hb.size)
  clear b93
  go_wp2_with fail
  refine calls_new [2] (fun W b95 i96 => ?_)
  replace i3 := (i3.below b95).more b95.size
  replace i4 := (i4.below b95).more b95.size
  replace x94 := bx_below x94 b95 x94.lt
  replace hb := hb.trans (b95.mono hb.size)
  clear b95
  refine (Index_at i96 (nil_ints _) (by decide) 0 2 rfl).mono ?_
  rintro e W ⟨rfl, b97⟩
  clear i96
  replace i3 := (i3.below b97).more b97.size
  replace i4 := (i4.below b97).more b97.size
  replace x94 := bx_below x94 b97 x94.lt
  replace hb := hb.trans (b97.mono hb.size)
  clear b97
  go_wp2_with fail
  refine (fails1_true _ _ _ x94).mono ?_
  rintro e W ⟨rfl, b98⟩
  clear x94
  replace i3 := (i3.below b98).more b98.size
  replace i4 := (i4.below b98).more b98.size
  replace hb := hb.trans (b98.mono hb.size)
  clear b98
  go_wp2_with fail
  refine (fails_any _ _).mono ?_
  rintro e W ⟨rfl, x100, b99⟩
  replace i3 := (i3.below b99).more b99.size
  replace i4 := (i4.below b99).more b99.size
  replace hb := hb.trans (b99.mono hb.size)
  clear b99
  go_wp2_with fail
  refine calls_new2 [2] [(-1)] (fun W b101 i102 i103 => ?_)
  replace i3 := (i3.below b101).more b101.size
  replace i4 := (i4.below b101).more b101.size
  replace x100 := bx_below x100 b101 x100.lt
  replace hb := hb.trans (b101.mono hb.size)
  clear b101
  refine (Index_at i102 i103 (by decide) 0 2 rfl).mono ?_
  rintro e W ⟨rfl, b104⟩
  clear i103 i102
  replace i3 := (i3.below b104).more b104.size
  replace i4 := (i4.below b104).more b104.size
  replace x100 := bx_below x100 b104 x100.lt
  replace hb := hb.trans (b104.mono hb.size)
  clear b104
  go_wp2_with fail
  refine (fails1_true _ _ _ x100).mono ?_
  rintro e W ⟨rfl, b105⟩
  clear x100
  replace i3 := (i3.below b105).more b105.size
  replace i4 := (i4.below b105).more b105.size
  replace hb := hb.trans (b105.mono hb.size)
  clear b105
  go_wp2_with fail
  refine (fails_any _ _).mono ?_
  rintro e W ⟨rfl, x107, b106⟩
  replace i3 := (i3.below b106).more b106.size
  replace i4 := (i4.below b106).more b106.size
  replace hb := hb.trans (b106.mono hb.size)
  clear b106
  go_wp2_with fail
  refine calls_new2 [0] [5] (fun W b108 i109 i110 => ?_)
  replace i3 := (i3.below b108).more b108.size
  replace i4 := (i4.below b108).more b108.size
  replace x107 := bx_below x107 b108 x107.lt
  replace hb := hb.trans (b108.mono hb.size)
  clear b108
  refine (Index_at i109 i110 (by decide) 0 20 rfl).mono ?_
  rintro e W ⟨rfl, b111⟩
  clear i110 i109
  replace i3 := (i3.below b111).more b111.size
  replace i4 := (i4.below b111).more b111.size
  replace x107 := bx_below x107 b111 x107.lt
  replace hb := hb.trans (b111.mono hb.size)
  clear b111
  go_wp2_with fail
  refine (fails1_true _ _ _ x107).mono ?_
  rintro e W ⟨rfl, b112⟩
  clear x107
  replace i3 := (i3.below b112).more b112.size
  replace i4 := (i4.below b112).more b112.size
  replace hb := hb.trans (b112.mono hb.size)
  clear b112
  go_wp2_with fail
  refine (is_any _ _).mono ?_
  rintro e W ⟨rfl, x114, b113⟩
  replace i3 := (i3.below b113).more b113.size
  replace i4 := (i4.below b113).more b113.size
  replace hb := hb.trans (b113.mono hb.size)
  clear b113
  go_wp2_with fail
  refine (Index_at i4 i3 (by decide) 4095 0 rfl).mono ?_
  rintro e W ⟨rfl, b115⟩
  clear i3 i4
  replace x114 := bx_below x114 b115 x114.lt
  replace hb := hb.trans (b115.mono hb.size)
  clear b115
  go_wp2_with fail
  refine (is1_true _ _ _ x114).mono ?_
  rintro e W ⟨rfl, b116⟩
  clear x114
  replace hb := hb.trans (b116.mono hb.size)
  clear b116
  go_wp2_with fail
  refine (is_any _ _).mono ?_
  rintro e W ⟨rfl, x118, b117⟩
  replace hb := hb.trans (b117.mono hb.size)
  clear b117
  go_wp2_with fail
  refine (Permute_at (nil_ints _) (nil_ints _) (by decide) 0 0 (by decide)).mono ?_
  rintro e W ⟨rfl, b119⟩
  replace x118 := bx_below x118 b119 x118.lt
  replace hb := hb.trans (b119.mono hb.size)
  clear b119
  go_wp2_with fail
  refine (is1_true _ _ _ x118).mono ?_
  rintro e W ⟨rfl, b120⟩
  clear x118
  replace hb := hb.trans (b120.mono hb.size)
  clear b120
  go_wp2_with fail
  refine (fails_any _ _).mono ?_
  rintro e W ⟨rfl, x122, b121⟩
  replace hb := hb.trans (b121.mono hb.size)
  clear b121
  go_wp2_with fail
  refine calls_new2 [2, 2] [0, 0] (fun W b123 i124 i125 => ?_)
  replace x122 := bx_below x122 b123 x122.lt
  replace hb := hb.trans (b123.mono hb.size)
  clear b123
  refine (Permute_at i124 i125 (by decide) 0 2 (by decide)).mono ?_
  rintro e W ⟨rfl, b126⟩
  clear i124 i125
  replace x122 := bx_below x122 b126 x122.lt
  replace hb := hb.trans (b126.mono hb.size)
  clear b126
  go_wp2_with fail
  refine (fails1_true _ _ _ x122).mono ?_
  rintro e W ⟨rfl, b127⟩
  clear x122
  replace hb := hb.trans (b127.mono hb.size)
  clear b127
  go_wp2_with fail
  refine (fails_any _ _).mono ?_
  rintro e W ⟨rfl, x129, b128⟩
  replace hb := hb.trans (b128.mono hb.size)
  clear b128
  go_wp2_with fail
  refine calls_new2 [2, 2] [1, 0] (fun W b130 i131 i132 => ?_)
  replace x129 := bx_below x129 b130 x129.lt
  replace hb := hb.trans (b130.mono hb.size)
  clear b130
  refine (Permute_at i131 i132 (by decide) 0 2 (by decide)).mono ?_
  rintro e W ⟨rfl, b133⟩
  clear i132 i131
  replace x129 := bx_below x129 b133 x129.lt
  replace hb := hb.trans (b133.mono hb.size)
  clear b133
  go_wp2_with fail
  refine (fails1_true _ _ _ x129).mono ?_
  rintro e W ⟨rfl, b134⟩
  clear x129
  replace hb := hb.trans (b134.mono hb.size)
  clear b134
  go_wp2_with fail
  refine (fails_any _ _).mono ?_
  rintro e W ⟨rfl, x136, b135⟩
  replace hb := hb.trans (b135.mono hb.size)
  clear b135
  go_wp2_with fail
  refine calls_new2 [2, 2] [0, 2] (fun W b137 i138 i139 => ?_)
  replace x136 := bx_below x136 b137 x136.lt
  replace hb := hb.trans (b137.mono hb.size)
  clear b137
  refine (Part_at i138 i139 (by decide) 0 2 (by decide)).mono ?_
  rintro e W ⟨rfl, b140⟩
  clear i139 i138
  replace x136 := bx_below x136 b140 x136.lt
  replace hb := hb.trans (b140.mono hb.size)
  clear b140
  go_wp2_with fail
  refine (fails1_true _ _ _ x136).mono ?_
  rintro e W ⟨rfl, b141⟩
  clear x136
  replace hb := hb.trans (b141.mono hb.size)
  clear b141
  go_wp2_with fail
  refine (works_true _).mono ?_
  rintro e W ⟨rfl, b142⟩
  replace hb := hb.trans (b142.mono hb.size)
  clear b142
  go_wp2_with fail
  refine (is_any _ _).mono ?_
  rintro e W ⟨rfl, x144, b143⟩
  replace hb := hb.trans (b143.mono hb.size)
  clear b143
  go_wp2_with fail
  refine calls_new2 [2, 2] [1, 0] (fun W b145 i146 i147 => ?_)
  replace x144 := bx_below x144 b145 x144.lt
  replace hb := hb.trans (b145.mono hb.size)
  clear b145
  refine (Permute_at i146 i147 (by decide) 2 0 (by decide)).mono ?_
  rintro e W ⟨rfl, b148⟩
  clear i146 i147
  replace x144 := bx_below x144 b148 x144.lt
  replace hb := hb.trans (b148.mono hb.size)
  clear b148
  go_wp2_with fail
  refine (is1_true _ _ _ x144).mono ?_
  rintro e W ⟨rfl, b149⟩
  clear x144
  replace hb := hb.trans (b149.mono hb.size)
  clear b149
  go_wp2_with fail
  go_ret
  exact ⟨rfl, hb⟩

end Go.Proofs.Ytmnaidemihcfaaa
