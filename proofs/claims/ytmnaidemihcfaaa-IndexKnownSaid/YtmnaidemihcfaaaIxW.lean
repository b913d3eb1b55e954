/- The examples of chapter 02 hold: the helper 'works' returns true. (The walk was printed by wip/genline.py.) -/
import Derived.Test.YtmnaidemihcfaaaIxL0
namespace Go.Proofs.Ytmnaidemihcfaaa
open Go.RowKit

set_option maxRecDepth 100000 in
set_option maxHeartbeats 4000000 in
theorem works_true (w : World) : Calls Try.prog 15 #[] w fun e w' => e = .returned (.bool true) ∧ Below w.heap.size w w' := by
  have hb := Below.refl w.heap.size w
  go_enter Try.func15, Try.ntmps15
  go_wp2_with fail
  refine calls_new [2, 3, 2] (fun W b1 i2 => ?_)
  replace hb := hb.trans (b1.mono hb.size)
  clear b1
  refine (Values_at i2 [] 2 (by decide)).mono ?_
  rintro e W ⟨A5, c6, rfl, i4, b3⟩
  replace i2 := (i2.below b3).more b3.size
  replace hb := hb.trans (b3.mono hb.size)
  clear b3
  go_wp2_with fail
  refine (is_any _ _).mono ?_
  rintro e W ⟨rfl, x8, b7⟩
  replace i2 := (i2.below b7).more b7.size
  replace i4 := (i4.below b7).more b7.size
  replace hb := hb.trans (b7.mono hb.size)
  clear b7
  go_wp2_with fail
  refine (Size_at i2 12 0 rfl).mono ?_
  rintro e W ⟨rfl, b9⟩
  replace i2 := (i2.below b9).more b9.size
  replace i4 := (i4.below b9).more b9.size
  replace x8 := bx_below x8 b9 x8.lt
  replace hb := hb.trans (b9.mono hb.size)
  clear b9
  go_wp2_with fail
  refine (is1_true _ _ _ x8).mono ?_
  rintro e W ⟨rfl, b10⟩
  replace i2 := (i2.below b10).more b10.size
  replace i4 := (i4.below b10).more b10.size
  replace hb := hb.trans (b10.mono hb.size)
  clear b10
  clear x8
  go_wp2_with fail
  refine (is_any _ _).mono ?_
  rintro e W ⟨rfl, x12, b11⟩
  replace i2 := (i2.below b11).more b11.size
  replace i4 := (i4.below b11).more b11.size
  replace hb := hb.trans (b11.mono hb.size)
  clear b11
  go_wp2_with fail
  refine (Size_at (nil_ints _) 1 0 rfl).mono ?_
  rintro e W ⟨rfl, b13⟩
  replace i2 := (i2.below b13).more b13.size
  replace i4 := (i4.below b13).more b13.size
  replace x12 := bx_below x12 b13 x12.lt
  replace hb := hb.trans (b13.mono hb.size)
  clear b13
  go_wp2_with fail
  refine (is1_true _ _ _ x12).mono ?_
  rintro e W ⟨rfl, b14⟩
  replace i2 := (i2.below b14).more b14.size
  replace i4 := (i4.below b14).more b14.size
  replace hb := hb.trans (b14.mono hb.size)
  clear b14
  clear x12
  go_wp2_with fail
  refine (is_any _ _).mono ?_
  rintro e W ⟨rfl, x16, b15⟩
  replace i2 := (i2.below b15).more b15.size
  replace i4 := (i4.below b15).more b15.size
  replace hb := hb.trans (b15.mono hb.size)
  clear b15
  go_wp2_with fail
  refine calls_new [4, 8, 8, 8] (fun W b17 i18 => ?_)
  replace i2 := (i2.below b17).more b17.size
  replace i4 := (i4.below b17).more b17.size
  replace x16 := bx_below x16 b17 x16.lt
  replace hb := hb.trans (b17.mono hb.size)
  clear b17
  refine (Size_at i18 2048 0 rfl).mono ?_
  rintro e W ⟨rfl, b19⟩
  replace i2 := (i2.below b19).more b19.size
  replace i4 := (i4.below b19).more b19.size
  replace i18 := (i18.below b19).more b19.size
  replace x16 := bx_below x16 b19 x16.lt
  replace hb := hb.trans (b19.mono hb.size)
  clear b19
  go_wp2_with fail
  refine (is1_true _ _ _ x16).mono ?_
  rintro e W ⟨rfl, b20⟩
  replace i2 := (i2.below b20).more b20.size
  replace i4 := (i4.below b20).more b20.size
  replace i18 := (i18.below b20).more b20.size
  replace hb := hb.trans (b20.mono hb.size)
  clear b20
  clear x16
  go_wp2_with fail
  refine (fails_any _ _).mono ?_
  rintro e W ⟨rfl, x22, b21⟩
  replace i2 := (i2.below b21).more b21.size
  replace i4 := (i4.below b21).more b21.size
  replace i18 := (i18.below b21).more b21.size
  replace hb := hb.trans (b21.mono hb.size)
  clear b21
  go_wp2_with fail
  refine calls_new [8, 8, 8, 8, 2] (fun W b23 i24 => ?_)
  replace i2 := (i2.below b23).more b23.size
  replace i4 := (i4.below b23).more b23.size
  replace i18 := (i18.below b23).more b23.size
  replace x22 := bx_below x22 b23 x22.lt
  replace hb := hb.trans (b23.mono hb.size)
  clear b23
  refine (Size_at i24 0 20 rfl).mono ?_
  rintro e W ⟨rfl, b25⟩
  replace i2 := (i2.below b25).more b25.size
  replace i4 := (i4.below b25).more b25.size
  replace i18 := (i18.below b25).more b25.size
  replace i24 := (i24.below b25).more b25.size
  replace x22 := bx_below x22 b25 x22.lt
  replace hb := hb.trans (b25.mono hb.size)
  clear b25
  go_wp2_with fail
  refine (fails1_true _ _ _ x22).mono ?_
  rintro e W ⟨rfl, b26⟩
  replace i2 := (i2.below b26).more b26.size
  replace i4 := (i4.below b26).more b26.size
  replace i18 := (i18.below b26).more b26.size
  replace i24 := (i24.below b26).more b26.size
  replace hb := hb.trans (b26.mono hb.size)
  clear b26
  clear x22
  go_wp2_with fail
  refine (is_any _ _).mono ?_
  rintro e W ⟨rfl, x28, b27⟩
  replace i2 := (i2.below b27).more b27.size
  replace i4 := (i4.below b27).more b27.size
  replace i18 := (i18.below b27).more b27.size
  replace i24 := (i24.below b27).more b27.size
  replace hb := hb.trans (b27.mono hb.size)
  clear b27
  go_wp2_with fail
  refine calls_new [1, 2, 0] (fun W b29 i30 => ?_)
  replace i2 := (i2.below b29).more b29.size
  replace i4 := (i4.below b29).more b29.size
  replace i18 := (i18.below b29).more b29.size
  replace i24 := (i24.below b29).more b29.size
  replace x28 := bx_below x28 b29 x28.lt
  replace hb := hb.trans (b29.mono hb.size)
  clear b29
  refine (Index_at i2 i30 (by decide) 10 0 rfl).mono ?_
  rintro e W ⟨rfl, b31⟩
  replace i2 := (i2.below b31).more b31.size
  replace i4 := (i4.below b31).more b31.size
  replace i18 := (i18.below b31).more b31.size
  replace i24 := (i24.below b31).more b31.size
  replace i30 := (i30.below b31).more b31.size
  replace x28 := bx_below x28 b31 x28.lt
  replace hb := hb.trans (b31.mono hb.size)
  clear b31
  go_wp2_with fail
  refine (is1_true _ _ _ x28).mono ?_
  rintro e W ⟨rfl, b32⟩
  replace i2 := (i2.below b32).more b32.size
  replace i4 := (i4.below b32).more b32.size
  replace i18 := (i18.below b32).more b32.size
  replace i24 := (i24.below b32).more b32.size
  replace i30 := (i30.below b32).more b32.size
  replace hb := hb.trans (b32.mono hb.size)
  clear b32
  clear x28
  go_wp2_with fail
  refine calls_new [1, 0, 1] (fun W b33 i34 => ?_)
  replace i2 := (i2.below b33).more b33.size
  replace i4 := (i4.below b33).more b33.size
  replace i18 := (i18.below b33).more b33.size
  replace i24 := (i24.below b33).more b33.size
  replace i30 := (i30.below b33).more b33.size
  replace hb := hb.trans (b33.mono hb.size)
  clear b33
  refine (are_any _ _ _ _).mono ?_
  rintro e W ⟨rfl, x36, b35⟩
  replace i2 := (i2.below b35).more b35.size
  replace i4 := (i4.below b35).more b35.size
  replace i18 := (i18.below b35).more b35.size
  replace i24 := (i24.below b35).more b35.size
  replace i30 := (i30.below b35).more b35.size
  replace i34 := (i34.below b35).more b35.size
  replace hb := hb.trans (b35.mono hb.size)
  clear b35
  go_wp2_with fail
  refine (Values_at i2 [1, 0, 1] 0 (by decide)).mono ?_
  rintro e W ⟨A39, c40, rfl, i38, b37⟩
  replace i2 := (i2.below b37).more b37.size
  replace i4 := (i4.below b37).more b37.size
  replace i18 := (i18.below b37).more b37.size
  replace i24 := (i24.below b37).more b37.size
  replace i30 := (i30.below b37).more b37.size
  replace i34 := (i34.below b37).more b37.size
  replace x36 := bx_below x36 b37 x36.lt
  replace hb := hb.trans (b37.mono hb.size)
  clear b37
  go_wp2_with fail
  refine (are1_true _ _ [1, 0, 1] _ _ _ _ x36 i38 i34 (by decide)).mono ?_
  rintro e W ⟨rfl, b41⟩
  replace i2 := (i2.below b41).more b41.size
  replace i4 := (i4.below b41).more b41.size
  replace i18 := (i18.below b41).more b41.size
  replace i24 := (i24.below b41).more b41.size
  replace i30 := (i30.below b41).more b41.size
  replace i34 := (i34.below b41).more b41.size
  replace i38 := (i38.below b41).more b41.size
  replace hb := hb.trans (b41.mono hb.size)
  clear b41
  clear x36
  go_wp2_with fail
  refine (fails_any _ _).mono ?_
  rintro e W ⟨rfl, x43, b42⟩
  replace i2 := (i2.below b42).more b42.size
  replace i4 := (i4.below b42).more b42.size
  replace i18 := (i18.below b42).more b42.size
  replace i24 := (i24.below b42).more b42.size
  replace i30 := (i30.below b42).more b42.size
  replace i34 := (i34.below b42).more b42.size
  replace i38 := (i38.below b42).more b42.size
  replace hb := hb.trans (b42.mono hb.size)
  clear b42
  go_wp2_with fail
  refine calls_new [0, 3, 0] (fun W b44 i45 => ?_)
  replace i2 := (i2.below b44).more b44.size
  replace i4 := (i4.below b44).more b44.size
  replace i18 := (i18.below b44).more b44.size
  replace i24 := (i24.below b44).more b44.size
  replace i30 := (i30.below b44).more b44.size
  replace i34 := (i34.below b44).more b44.size
  replace i38 := (i38.below b44).more b44.size
  replace x43 := bx_below x43 b44 x43.lt
  replace hb := hb.trans (b44.mono hb.size)
  clear b44
  refine (Index_at i2 i45 (by decide) 0 2 rfl).mono ?_
  rintro e W ⟨rfl, b46⟩
  replace i2 := (i2.below b46).more b46.size
  replace i4 := (i4.below b46).more b46.size
  replace i18 := (i18.below b46).more b46.size
  replace i24 := (i24.below b46).more b46.size
  replace i30 := (i30.below b46).more b46.size
  replace i34 := (i34.below b46).more b46.size
  replace i38 := (i38.below b46).more b46.size
  replace i45 := (i45.below b46).more b46.size
  replace x43 := bx_below x43 b46 x43.lt
  replace hb := hb.trans (b46.mono hb.size)
  clear b46
  go_wp2_with fail
  refine (fails1_true _ _ _ x43).mono ?_
  rintro e W ⟨rfl, b47⟩
  replace i2 := (i2.below b47).more b47.size
  replace i4 := (i4.below b47).more b47.size
  replace i18 := (i18.below b47).more b47.size
  replace i24 := (i24.below b47).more b47.size
  replace i30 := (i30.below b47).more b47.size
  replace i34 := (i34.below b47).more b47.size
  replace i38 := (i38.below b47).more b47.size
  replace i45 := (i45.below b47).more b47.size
  replace hb := hb.trans (b47.mono hb.size)
  clear b47
  clear x43
  go_wp2_with fail
  refine (is_any _ _).mono ?_
  rintro e W ⟨rfl, x49, b48⟩
  replace i2 := (i2.below b48).more b48.size
  replace i4 := (i4.below b48).more b48.size
  replace i18 := (i18.below b48).more b48.size
  replace i24 := (i24.below b48).more b48.size
  replace i30 := (i30.below b48).more b48.size
  replace i34 := (i34.below b48).more b48.size
  replace i38 := (i38.below b48).more b48.size
  replace i45 := (i45.below b48).more b48.size
  replace hb := hb.trans (b48.mono hb.size)
  clear b48
  go_wp2_with fail
  refine calls_new [0, 2] (fun W b50 i51 => ?_)
  replace i2 := (i2.below b50).more b50.size
  replace i4 := (i4.below b50).more b50.size
  replace i18 := (i18.below b50).more b50.size
  replace i24 := (i24.below b50).more b50.size
  replace i30 := (i30.below b50).more b50.size
  replace i34 := (i34.below b50).more b50.size
  replace i38 := (i38.below b50).more b50.size
  replace i45 := (i45.below b50).more b50.size
  replace x49 := bx_below x49 b50 x49.lt
  replace hb := hb.trans (b50.mono hb.size)
  clear b50
  refine (Part_at i2 i51 (by decide) 2 0 (by decide)).mono ?_
  rintro e W ⟨rfl, b52⟩
  replace i2 := (i2.below b52).more b52.size
  replace i4 := (i4.below b52).more b52.size
  replace i18 := (i18.below b52).more b52.size
  replace i24 := (i24.below b52).more b52.size
  replace i30 := (i30.below b52).more b52.size
  replace i34 := (i34.below b52).more b52.size
  replace i38 := (i38.below b52).more b52.size
  replace i45 := (i45.below b52).more b52.size
  replace i51 := (i51.below b52).more b52.size
  replace x49 := bx_below x49 b52 x49.lt
  replace hb := hb.trans (b52.mono hb.size)
  clear b52
  go_wp2_with fail
  refine (is1_true _ _ _ x49).mono ?_
  rintro e W ⟨rfl, b53⟩
  replace i2 := (i2.below b53).more b53.size
  replace i4 := (i4.below b53).more b53.size
  replace i18 := (i18.below b53).more b53.size
  replace i24 := (i24.below b53).more b53.size
  replace i30 := (i30.below b53).more b53.size
  replace i34 := (i34.below b53).more b53.size
  replace i38 := (i38.below b53).more b53.size
  replace i45 := (i45.below b53).more b53.size
  replace i51 := (i51.below b53).more b53.size
  replace hb := hb.trans (b53.mono hb.size)
  clear b53
  clear x49
  go_wp2_with fail
  refine (is_any _ _).mono ?_
  rintro e W ⟨rfl, x55, b54⟩
  replace i2 := (i2.below b54).more b54.size
  replace i4 := (i4.below b54).more b54.size
  replace i18 := (i18.below b54).more b54.size
  replace i24 := (i24.below b54).more b54.size
  replace i30 := (i30.below b54).more b54.size
  replace i34 := (i34.below b54).more b54.size
  replace i38 := (i38.below b54).more b54.size
  replace i45 := (i45.below b54).more b54.size
  replace i51 := (i51.below b54).more b54.size
  replace hb := hb.trans (b54.mono hb.size)
  clear b54
  go_wp2_with fail
  refine calls_new [1] (fun W b56 i57 => ?_)
  replace i2 := (i2.below b56).more b56.size
  replace i4 := (i4.below b56).more b56.size
  replace i18 := (i18.below b56).more b56.size
  replace i24 := (i24.below b56).more b56.size
  replace i30 := (i30.below b56).more b56.size
  replace i34 := (i34.below b56).more b56.size
  replace i38 := (i38.below b56).more b56.size
  replace i45 := (i45.below b56).more b56.size
  replace i51 := (i51.below b56).more b56.size
  replace x55 := bx_below x55 b56 x55.lt
  replace hb := hb.trans (b56.mono hb.size)
  clear b56
  refine (Part_at i2 i57 (by decide) 2 0 (by decide)).mono ?_
  rintro e W ⟨rfl, b58⟩
  replace i2 := (i2.below b58).more b58.size
  replace i4 := (i4.below b58).more b58.size
  replace i18 := (i18.below b58).more b58.size
  replace i24 := (i24.below b58).more b58.size
  replace i30 := (i30.below b58).more b58.size
  replace i34 := (i34.below b58).more b58.size
  replace i38 := (i38.below b58).more b58.size
  replace i45 := (i45.below b58).more b58.size
  replace i51 := (i51.below b58).more b58.size
  replace i57 := (i57.below b58).more b58.size
  replace x55 := bx_below x55 b58 x55.lt
  replace hb := hb.trans (b58.mono hb.size)
  clear b58
  go_wp2_with fail
  refine (is1_true _ _ _ x55).mono ?_
  rintro e W ⟨rfl, b59⟩
  replace i2 := (i2.below b59).more b59.size
  replace i4 := (i4.below b59).more b59.size
  replace i18 := (i18.below b59).more b59.size
  replace i24 := (i24.below b59).more b59.size
  replace i30 := (i30.below b59).more b59.size
  replace i34 := (i34.below b59).more b59.size
  replace i38 := (i38.below b59).more b59.size
  replace i45 := (i45.below b59).more b59.size
  replace i51 := (i51.below b59).more b59.size
  replace i57 := (i57.below b59).more b59.size
  replace hb := hb.trans (b59.mono hb.size)
  clear b59
  clear x55
  go_wp2_with fail
  refine (is_any _ _).mono ?_
  rintro e W ⟨rfl, x61, b60⟩
  replace i2 := (i2.below b60).more b60.size
  replace i4 := (i4.below b60).more b60.size
  replace i18 := (i18.below b60).more b60.size
  replace i24 := (i24.below b60).more b60.size
  replace i30 := (i30.below b60).more b60.size
  replace i34 := (i34.below b60).more b60.size
  replace i38 := (i38.below b60).more b60.size
  replace i45 := (i45.below b60).more b60.size
  replace i51 := (i51.below b60).more b60.size
  replace i57 := (i57.below b60).more b60.size
  replace hb := hb.trans (b60.mono hb.size)
  clear b60
  go_wp2_with fail
  refine (Part_at i2 (nil_ints _) (by decide) 0 0 (by decide)).mono ?_
  rintro e W ⟨rfl, b62⟩
  replace i2 := (i2.below b62).more b62.size
  replace i4 := (i4.below b62).more b62.size
  replace i18 := (i18.below b62).more b62.size
  replace i24 := (i24.below b62).more b62.size
  replace i30 := (i30.below b62).more b62.size
  replace i34 := (i34.below b62).more b62.size
  replace i38 := (i38.below b62).more b62.size
  replace i45 := (i45.below b62).more b62.size
  replace i51 := (i51.below b62).more b62.size
  replace i57 := (i57.below b62).more b62.size
  replace x61 := bx_below x61 b62 x61.lt
  replace hb := hb.trans (b62.mono hb.size)
  clear b62
  go_wp2_with fail
  refine (is1_true _ _ _ x61).mono ?_
  rintro e W ⟨rfl, b63⟩
  replace i2 := (i2.below b63).more b63.size
  replace i4 := (i4.below b63).more b63.size
  replace i18 := (i18.below b63).more b63.size
  replace i24 := (i24.below b63).more b63.size
  replace i30 := (i30.below b63).more b63.size
  replace i34 := (i34.below b63).more b63.size
  replace i38 := (i38.below b63).more b63.size
  replace i45 := (i45.below b63).more b63.size
  replace i51 := (i51.below b63).more b63.size
  replace i57 := (i57.below b63).more b63.size
  replace hb := hb.trans (b63.mono hb.size)
  clear b63
  clear x61
  go_wp2_with fail
  refine (fails_any _ _).mono ?_
  rintro e W ⟨rfl, x65, b64⟩
  replace i2 := (i2.below b64).more b64.size
  replace i4 := (i4.below b64).more b64.size
  replace i18 := (i18.below b64).more b64.size
  replace i24 := (i24.below b64).more b64.size
  replace i30 := (i30.below b64).more b64.size
  replace i34 := (i34.below b64).more b64.size
  replace i38 := (i38.below b64).more b64.size
  replace i45 := (i45.below b64).more b64.size
  replace i51 := (i51.below b64).more b64.size
  replace i57 := (i57.below b64).more b64.size
  replace hb := hb.trans (b64.mono hb.size)
  clear b64
  go_wp2_with fail
  refine calls_new [2, 0] (fun W b66 i67 => ?_)
  replace i2 := (i2.below b66).more b66.size
  replace i4 := (i4.below b66).more b66.size
  replace i18 := (i18.below b66).more b66.size
  replace i24 := (i24.below b66).more b66.size
  replace i30 := (i30.below b66).more b66.size
  replace i34 := (i34.below b66).more b66.size
  replace i38 := (i38.below b66).more b66.size
  replace i45 := (i45.below b66).more b66.size
  replace i51 := (i51.below b66).more b66.size
  replace i57 := (i57.below b66).more b66.size
  replace x65 := bx_below x65 b66 x65.lt
  replace hb := hb.trans (b66.mono hb.size)
  clear b66
  refine (Part_at i2 i67 (by decide) 0 2 (by decide)).mono ?_
  rintro e W ⟨rfl, b68⟩
  replace i2 := (i2.below b68).more b68.size
  replace i4 := (i4.below b68).more b68.size
  replace i18 := (i18.below b68).more b68.size
  replace i24 := (i24.below b68).more b68.size
  replace i30 := (i30.below b68).more b68.size
  replace i34 := (i34.below b68).more b68.size
  replace i38 := (i38.below b68).more b68.size
  replace i45 := (i45.below b68).more b68.size
  replace i51 := (i51.below b68).more b68.size
  replace i57 := (i57.below b68).more b68.size
  replace i67 := (i67.below b68).more b68.size
  replace x65 := bx_below x65 b68 x65.lt
  replace hb := hb.trans (b68.mono hb.size)
  clear b68
  go_wp2_with fail
  refine (fails1_true _ _ _ x65).mono ?_
  rintro e W ⟨rfl, b69⟩
  replace i2 := (i2.below b69).more b69.size
  replace i4 := (i4.below b69).more b69.size
  replace i18 := (i18.below b69).more b69.size
  replace i24 := (i24.below b69).more b69.size
  replace i30 := (i30.below b69).more b69.size
  replace i34 := (i34.below b69).more b69.size
  replace i38 := (i38.below b69).more b69.size
  replace i45 := (i45.below b69).more b69.size
  replace i51 := (i51.below b69).more b69.size
  replace i57 := (i57.below b69).more b69.size
  replace i67 := (i67.below b69).more b69.size
  replace hb := hb.trans (b69.mono hb.size)
  clear b69
  clear x65
  go_wp2_with fail
  refine calls_new [4, 5, 10, 11] (fun W b70 i71 => ?_)
  replace i2 := (i2.below b70).more b70.size
  replace i4 := (i4.below b70).more b70.size
  replace i18 := (i18.below b70).more b70.size
  replace i24 := (i24.below b70).more b70.size
  replace i30 := (i30.below b70).more b70.size
  replace i34 := (i34.below b70).more b70.size
  replace i38 := (i38.below b70).more b70.size
  replace i45 := (i45.below b70).more b70.size
  replace i51 := (i51.below b70).more b70.size
  replace i57 := (i57.below b70).more b70.size
  replace i67 := (i67.below b70).more b70.size
  replace hb := hb.trans (b70.mono hb.size)
  clear b70
  refine (are_any _ _ _ _).mono ?_
  rintro e W ⟨rfl, x73, b72⟩
  replace i2 := (i2.below b72).more b72.size
  replace i4 := (i4.below b72).more b72.size
  replace i18 := (i18.below b72).more b72.size
  replace i24 := (i24.below b72).more b72.size
  replace i30 := (i30.below b72).more b72.size
  replace i34 := (i34.below b72).more b72.size
  replace i38 := (i38.below b72).more b72.size
  replace i45 := (i45.below b72).more b72.size
  replace i51 := (i51.below b72).more b72.size
  replace i57 := (i57.below b72).more b72.size
  replace i67 := (i67.below b72).more b72.size
  replace i71 := (i71.below b72).more b72.size
  replace hb := hb.trans (b72.mono hb.size)
  clear b72
  go_wp2_with fail
  refine calls_new [1] (fun W b74 i75 => ?_)
  replace i2 := (i2.below b74).more b74.size
  replace i4 := (i4.below b74).more b74.size
  replace i18 := (i18.below b74).more b74.size
  replace i24 := (i24.below b74).more b74.size
  replace i30 := (i30.below b74).more b74.size
  replace i34 := (i34.below b74).more b74.size
  replace i38 := (i38.below b74).more b74.size
  replace i45 := (i45.below b74).more b74.size
  replace i51 := (i51.below b74).more b74.size
  replace i57 := (i57.below b74).more b74.size
  replace i67 := (i67.below b74).more b74.size
  replace i71 := (i71.below b74).more b74.size
  replace x73 := bx_below x73 b74 x73.lt
  replace hb := hb.trans (b74.mono hb.size)
  clear b74
  refine (Spread_at i2 i75 (by decide) [4, 5, 10, 11] 0 (by decide)).mono ?_
  rintro e W ⟨A78, c79, rfl, i77, b76⟩
  replace i2 := (i2.below b76).more b76.size
  replace i4 := (i4.below b76).more b76.size
  replace i18 := (i18.below b76).more b76.size
  replace i24 := (i24.below b76).more b76.size
  replace i30 := (i30.below b76).more b76.size
  replace i34 := (i34.below b76).more b76.size
  replace i38 := (i38.below b76).more b76.size
  replace i45 := (i45.below b76).more b76.size
  replace i51 := (i51.below b76).more b76.size
  replace i57 := (i57.below b76).more b76.size
  replace i67 := (i67.below b76).more b76.size
  replace i71 := (i71.below b76).more b76.size
  replace i75 := (i75.below b76).more b76.size
  replace x73 := bx_below x73 b76 x73.lt
  replace hb := hb.trans (b76.mono hb.size)
  clear b76
  go_wp2_with fail
  refine (are1_true _ _ [4, 5, 10, 11] _ _ _ _ x73 i77 i71 (by decide)).mono ?_
  rintro e W ⟨rfl, b80⟩
  replace i2 := (i2.below b80).more b80.size
  replace i4 := (i4.below b80).more b80.size
  replace i18 := (i18.below b80).more b80.size
  replace i24 := (i24.below b80).more b80.size
  replace i30 := (i30.below b80).more b80.size
  replace i34 := (i34.below b80).more b80.size
  replace i38 := (i38.below b80).more b80.size
  replace i45 := (i45.below b80).more b80.size
  replace i51 := (i51.below b80).more b80.size
  replace i57 := (i57.below b80).more b80.size
  replace i67 := (i67.below b80).more b80.size
  replace i71 := (i71.below b80).more b80.size
  replace i75 := (i75.below b80).more b80.size
  replace i77 := (i77.below b80).more b80.size
  replace hb := hb.trans (b80.mono hb.size)
  clear b80
  clear x73
  go_wp2_with fail
  refine calls_new [0, 1] (fun W b81 i82 => ?_)
  replace i2 := (i2.below b81).more b81.size
  replace i4 := (i4.below b81).more b81.size
  replace i18 := (i18.below b81).more b81.size
  replace i24 := (i24.below b81).more b81.size
  replace i30 := (i30.below b81).more b81.size
  replace i34 := (i34.below b81).more b81.size
  replace i38 := (i38.below b81).more b81.size
  replace i45 := (i45.below b81).more b81.size
  replace i51 := (i51.below b81).more b81.size
  replace i57 := (i57.below b81).more b81.size
  replace i67 := (i67.below b81).more b81.size
  replace i71 := (i71.below b81).more b81.size
  replace i75 := (i75.below b81).more b81.size
  replace i77 := (i77.below b81).more b81.size
  replace hb := hb.trans (b81.mono hb.size)
  clear b81
  refine (are_any _ _ _ _).mono ?_
  rintro e W ⟨rfl, x84, b83⟩
  replace i2 := (i2.below b83).more b83.size
  replace i4 := (i4.below b83).more b83.size
  replace i18 := (i18.below b83).more b83.size
  replace i24 := (i24.below b83).more b83.size
  replace i30 := (i30.below b83).more b83.size
  replace i34 := (i34.below b83).more b83.size
  replace i38 := (i38.below b83).more b83.size
  replace i45 := (i45.below b83).more b83.size
  replace i51 := (i51.below b83).more b83.size
  replace i57 := (i57.below b83).more b83.size
  replace i67 := (i67.below b83).more b83.size
  replace i71 := (i71.below b83).more b83.size
  replace i75 := (i75.below b83).more b83.size
  replace i77 := (i77.below b83).more b83.size
  replace i82 := (i82.below b83).more b83.size
  replace hb := hb.trans (b83.mono hb.size)
  clear b83
  go_wp2_with fail
  refine calls_new [0, 1] (fun W b85 i86 => ?_)
  replace i2 := (i2.below b85).more b85.size
  replace i4 := (i4.below b85).more b85.size
  replace i18 := (i18.below b85).more b85.size
  replace i24 := (i24.below b85).more b85.size
  replace i30 := (i30.below b85).more b85.size
  replace i34 := (i34.below b85).more b85.size
  replace i38 := (i38.below b85).more b85.size
  replace i45 := (i45.below b85).more b85.size
  replace i51 := (i51.below b85).more b85.size
  replace i57 := (i57.below b85).more b85.size
  replace i67 := (i67.below b85).more b85.size
  replace i71 := (i71.below b85).more b85.size
  replace i75 := (i75.below b85).more b85.size
  replace i77 := (i77.below b85).more b85.size
  replace i82 := (i82.below b85).more b85.size
  replace x84 := bx_below x84 b85 x84.lt
  replace hb := hb.trans (b85.mono hb.size)
  clear b85
  refine (Spread_at i2 i86 (by decide) [0, 1] 0 (by decide)).mono ?_
  rintro e W ⟨A89, c90, rfl, i88, b87⟩
  replace i2 := (i2.below b87).more b87.size
  replace i4 := (i4.below b87).more b87.size
  replace i18 := (i18.below b87).more b87.size
  replace i24 := (i24.below b87).more b87.size
  replace i30 := (i30.below b87).more b87.size
  replace i34 := (i34.below b87).more b87.size
  replace i38 := (i38.below b87).more b87.size
  replace i45 := (i45.below b87).more b87.size
  replace i51 := (i51.below b87).more b87.size
  replace i57 := (i57.below b87).more b87.size
  replace i67 := (i67.below b87).more b87.size
  replace i71 := (i71.below b87).more b87.size
  replace i75 := (i75.below b87).more b87.size
  replace i77 := (i77.below b87).more b87.size
  replace i82 := (i82.below b87).more b87.size
  replace i86 := (i86.below b87).more b87.size
  replace x84 := bx_below x84 b87 x84.lt
  replace hb := hb.trans (b87.mono hb.size)
  clear b87
  go_wp2_with fail
  refine (are1_true _ _ [0, 1] _ _ _ _ x84 i88 i82 (by decide)).mono ?_
  rintro e W ⟨rfl, b91⟩
  replace i2 := (i2.below b91).more b91.size
  replace i4 := (i4.below b91).more b91.size
  replace i18 := (i18.below b91).more b91.size
  replace i24 := (i24.below b91).more b91.size
  replace i30 := (i30.below b91).more b91.size
  replace i34 := (i34.below b91).more b91.size
  replace i38 := (i38.below b91).more b91.size
  replace i45 := (i45.below b91).more b91.size
  replace i51 := (i51.below b91).more b91.size
  replace i57 := (i57.below b91).more b91.size
  replace i67 := (i67.below b91).more b91.size
  replace i71 := (i71.below b91).more b91.size
  replace i75 := (i75.below b91).more b91.size
  replace i77 := (i77.below b91).more b91.size
  replace i82 := (i82.below b91).more b91.size
  replace i86 := (i86.below b91).more b91.size
  replace i88 := (i88.below b91).more b91.size
  replace hb := hb.trans (b91.mono hb.size)
  clear b91
  clear x84
  go_wp2_with fail
  refine calls_new [0, 1, 2, 3, 4, 5, 6, 7, 8, 9, 10, 11] (fun W b92 i93 => ?_)
  replace i2 := (i2.below b92).more b92.size
  replace i4 := (i4.below b92).more b92.size
  replace i18 := (i18.below b92).more b92.size
  replace i24 := (i24.below b92).more b92.size
  replace i30 := (i30.below b92).more b92.size
  replace i34 := (i34.below b92).more b92.size
  replace i38 := (i38.below b92).more b92.size
  replace i45 := (i45.below b92).more b92.size
  replace i51 := (i51.below b92).more b92.size
  replace i57 := (i57.below b92).more b92.size
  replace i67 := (i67.below b92).more b92.size
  replace i71 := (i71.below b92).more b92.size
  replace i75 := (i75.below b92).more b92.size
  replace i77 := (i77.below b92).more b92.size
  replace i82 := (i82.below b92).more b92.size
  replace i86 := (i86.below b92).more b92.size
  replace i88 := (i88.below b92).more b92.size
  replace hb := hb.trans (b92.mono hb.size)
  clear b92
  refine (are_any _ _ _ _).mono ?_
  rintro e W ⟨rfl, x95, b94⟩
  replace i2 := (i2.below b94).more b94.size
  replace i4 := (i4.below b94).more b94.size
  replace i18 := (i18.below b94).more b94.size
  replace i24 := (i24.below b94).more b94.size
  replace i30 := (i30.below b94).more b94.size
  replace i34 := (i34.below b94).more b94.size
  replace i38 := (i38.below b94).more b94.size
  replace i45 := (i45.below b94).more b94.size
  replace i51 := (i51.below b94).more b94.size
  replace i57 := (i57.below b94).more b94.size
  replace i67 := (i67.below b94).more b94.size
  replace i71 := (i71.below b94).more b94.size
  replace i75 := (i75.below b94).more b94.size
  replace i77 := (i77.below b94).more b94.size
  replace i82 := (i82.below b94).more b94.size
  replace i86 := (i86.below b94).more b94.size
  replace i88 := (i88.below b94).more b94.size
  replace i93 := (i93.below b94).more b94.size
  replace hb := hb.trans (b94.mono hb.size)
  clear b94
  go_wp2_with fail
  refine (Spread_at i2 (nil_ints _) (by decide) [0, 1, 2, 3, 4, 5, 6, 7, 8, 9, 10, 11] 0 (by decide)).mono ?_
  rintro e W ⟨A98, c99, rfl, i97, b96⟩
  replace i2 := (i2.below b96).more b96.size
  replace i4 := (i4.below b96).more b96.size
  replace i18 := (i18.below b96).more b96.size
  replace i24 := (i24.below b96).more b96.size
  replace i30 := (i30.below b96).more b96.size
  replace i34 := (i34.below b96).more b96.size
  replace i38 := (i38.below b96).more b96.size
  replace i45 := (i45.below b96).more b96.size
  replace i51 := (i51.below b96).more b96.size
  replace i57 := (i57.below b96).more b96.size
  replace i67 := (i67.below b96).more b96.size
  replace i71 := (i71.below b96).more b96.size
  replace i75 := (i75.below b96).more b96.size
  replace i77 := (i77.below b96).more b96.size
  replace i82 := (i82.below b96).more b96.size
  replace i86 := (i86.below b96).more b96.size
  replace i88 := (i88.below b96).more b96.size
  replace i93 := (i93.below b96).more b96.size
  replace x95 := bx_below x95 b96 x95.lt
  replace hb := hb.trans (b96.mono hb.size)
  clear b96
  go_wp2_with fail
  refine (are1_true _ _ [0, 1, 2, 3, 4, 5, 6, 7, 8, 9, 10, 11] _ _ _ _ x95 i97 i93 (by decide)).mono ?_
  rintro e W ⟨rfl, b100⟩
  replace i2 := (i2.below b100).more b100.size
  replace i4 := (i4.below b100).more b100.size
  replace i18 := (i18.below b100).more b100.size
  replace i24 := (i24.below b100).more b100.size
  replace i30 := (i30.below b100).more b100.size
  replace i34 := (i34.below b100).more b100.size
  replace i38 := (i38.below b100).more b100.size
  replace i45 := (i45.below b100).more b100.size
  replace i51 := (i51.below b100).more b100.size
  replace i57 := (i57.below b100).more b100.size
  replace i67 := (i67.below b100).more b100.size
  replace i71 := (i71.below b100).more b100.size
  replace i75 := (i75.below b100).more b100.size
  replace i77 := (i77.below b100).more b100.size
  replace i82 := (i82.below b100).more b100.size
  replace i86 := (i86.below b100).more b100.size
  replace i88 := (i88.below b100).more b100.size
  replace i93 := (i93.below b100).more b100.size
  replace i97 := (i97.below b100).more b100.size
  replace hb := hb.trans (b100.mono hb.size)
  clear b100
  clear x95
  go_wp2_with fail
  refine (is_any _ _).mono ?_
  rintro e W ⟨rfl, x102, b101⟩
  replace i2 := (i2.below b101).more b101.size
  replace i4 := (i4.below b101).more b101.size
  replace i18 := (i18.below b101).more b101.size
  replace i24 := (i24.below b101).more b101.size
  replace i30 := (i30.below b101).more b101.size
  replace i34 := (i34.below b101).more b101.size
  replace i38 := (i38.below b101).more b101.size
  replace i45 := (i45.below b101).more b101.size
  replace i51 := (i51.below b101).more b101.size
  replace i57 := (i57.below b101).more b101.size
  replace i67 := (i67.below b101).more b101.size
  replace i71 := (i71.below b101).more b101.size
  replace i75 := (i75.below b101).more b101.size
  replace i77 := (i77.below b101).more b101.size
  replace i82 := (i82.below b101).more b101.size
  replace i86 := (i86.below b101).more b101.size
  replace i88 := (i88.below b101).more b101.size
  replace i93 := (i93.below b101).more b101.size
  replace i97 := (i97.below b101).more b101.size
  replace hb := hb.trans (b101.mono hb.size)
  clear b101
  go_wp2_with fail
  refine calls_new [2, 0, 1] (fun W b103 i104 => ?_)
  replace i2 := (i2.below b103).more b103.size
  replace i4 := (i4.below b103).more b103.size
  replace i18 := (i18.below b103).more b103.size
  replace i24 := (i24.below b103).more b103.size
  replace i30 := (i30.below b103).more b103.size
  replace i34 := (i34.below b103).more b103.size
  replace i38 := (i38.below b103).more b103.size
  replace i45 := (i45.below b103).more b103.size
  replace i51 := (i51.below b103).more b103.size
  replace i57 := (i57.below b103).more b103.size
  replace i67 := (i67.below b103).more b103.size
  replace i71 := (i71.below b103).more b103.size
  replace i75 := (i75.below b103).more b103.size
  replace i77 := (i77.below b103).more b103.size
  replace i82 := (i82.below b103).more b103.size
  replace i86 := (i86.below b103).more b103.size
  replace i88 := (i88.below b103).more b103.size
  replace i93 := (i93.below b103).more b103.size
  replace i97 := (i97.below b103).more b103.size
  replace x102 := bx_below x102 b103 x102.lt
  replace hb := hb.trans (b103.mono hb.size)
  clear b103
  refine (Permute_at i2 i104 (by decide) 5 0 (by decide)).mono ?_
  rintro e W ⟨rfl, b105⟩
  replace i2 := (i2.below b105).more b105.size
  replace i4 := (i4.below b105).more b105.size
  replace i18 := (i18.below b105).more b105.size
  replace i24 := (i24.below b105).more b105.size
  replace i30 := (i30.below b105).more b105.size
  replace i34 := (i34.below b105).more b105.size
  replace i38 := (i38.below b105).more b105.size
  replace i45 := (i45.below b105).more b105.size
  replace i51 := (i51.below b105).more b105.size
  replace i57 := (i57.below b105).more b105.size
  replace i67 := (i67.below b105).more b105.size
  replace i71 := (i71.below b105).more b105.size
  replace i75 := (i75.below b105).more b105.size
  replace i77 := (i77.below b105).more b105.size
  replace i82 := (i82.below b105).more b105.size
  replace i86 := (i86.below b105).more b105.size
  replace i88 := (i88.below b105).more b105.size
  replace i93 := (i93.below b105).more b105.size
  replace i97 := (i97.below b105).more b105.size
  replace i104 := (i104.below b105).more b105.size
  replace x102 := bx_below x102 b105 x102.lt
  replace hb := hb.trans (b105.mono hb.size)
  clear b105
  go_wp2_with fail
  refine (is1_true _ _ _ x102).mono ?_
  rintro e W ⟨rfl, b106⟩
  replace i2 := (i2.below b106).more b106.size
  replace i4 := (i4.below b106).more b106.size
  replace i18 := (i18.below b106).more b106.size
  replace i24 := (i24.below b106).more b106.size
  replace i30 := (i30.below b106).more b106.size
  replace i34 := (i34.below b106).more b106.size
  replace i38 := (i38.below b106).more b106.size
  replace i45 := (i45.below b106).more b106.size
  replace i51 := (i51.below b106).more b106.size
  replace i57 := (i57.below b106).more b106.size
  replace i67 := (i67.below b106).more b106.size
  replace i71 := (i71.below b106).more b106.size
  replace i75 := (i75.below b106).more b106.size
  replace i77 := (i77.below b106).more b106.size
  replace i82 := (i82.below b106).more b106.size
  replace i86 := (i86.below b106).more b106.size
  replace i88 := (i88.below b106).more b106.size
  replace i93 := (i93.below b106).more b106.size
  replace i97 := (i97.below b106).more b106.size
  replace i104 := (i104.below b106).more b106.size
  replace hb := hb.trans (b106.mono hb.size)
  clear b106
  clear x102
  go_wp2_with fail
  refine (fails_any _ _).mono ?_
  rintro e W ⟨rfl, x108, b107⟩
  replace i2 := (i2.below b107).more b107.size
  replace i4 := (i4.below b107).more b107.size
  replace i18 := (i18.below b107).more b107.size
  replace i24 := (i24.below b107).more b107.size
  replace i30 := (i30.below b107).more b107.size
  replace i34 := (i34.below b107).more b107.size
  replace i38 := (i38.below b107).more b107.size
  replace i45 := (i45.below b107).more b107.size
  replace i51 := (i51.below b107).more b107.size
  replace i57 := (i57.below b107).more b107.size
  replace i67 := (i67.below b107).more b107.size
  replace i71 := (i71.below b107).more b107.size
  replace i75 := (i75.below b107).more b107.size
  replace i77 := (i77.below b107).more b107.size
  replace i82 := (i82.below b107).more b107.size
  replace i86 := (i86.below b107).more b107.size
  replace i88 := (i88.below b107).more b107.size
  replace i93 := (i93.below b107).more b107.size
  replace i97 := (i97.below b107).more b107.size
  replace i104 := (i104.below b107).more b107.size
  replace hb := hb.trans (b107.mono hb.size)
  clear b107
  go_wp2_with fail
  refine calls_new [0, 1] (fun W b109 i110 => ?_)
  replace i2 := (i2.below b109).more b109.size
  replace i4 := (i4.below b109).more b109.size
  replace i18 := (i18.below b109).more b109.size
  replace i24 := (i24.below b109).more b109.size
  replace i30 := (i30.below b109).more b109.size
  replace i34 := (i34.below b109).more b109.size
  replace i38 := (i38.below b109).more b109.size
  replace i45 := (i45.below b109).more b109.size
  replace i51 := (i51.below b109).more b109.size
  replace i57 := (i57.below b109).more b109.size
  replace i67 := (i67.below b109).more b109.size
  replace i71 := (i71.below b109).more b109.size
  replace i75 := (i75.below b109).more b109.size
  replace i77 := (i77.below b109).more b109.size
  replace i82 := (i82.below b109).more b109.size
  replace i86 := (i86.below b109).more b109.size
  replace i88 := (i88.below b109).more b109.size
  replace i93 := (i93.below b109).more b109.size
  replace i97 := (i97.below b109).more b109.size
  replace i104 := (i104.below b109).more b109.size
  replace x108 := bx_below x108 b109 x108.lt
  replace hb := hb.trans (b109.mono hb.size)
  clear b109
  refine (Permute_at i2 i110 (by decide) 0 2 (by decide)).mono ?_
  rintro e W ⟨rfl, b111⟩
  replace i2 := (i2.below b111).more b111.size
  replace i4 := (i4.below b111).more b111.size
  replace i18 := (i18.below b111).more b111.size
  replace i24 := (i24.below b111).more b111.size
  replace i30 := (i30.below b111).more b111.size
  replace i34 := (i34.below b111).more b111.size
  replace i38 := (i38.below b111).more b111.size
  replace i45 := (i45.below b111).more b111.size
  replace i51 := (i51.below b111).more b111.size
  replace i57 := (i57.below b111).more b111.size
  replace i67 := (i67.below b111).more b111.size
  replace i71 := (i71.below b111).more b111.size
  replace i75 := (i75.below b111).more b111.size
  replace i77 := (i77.below b111).more b111.size
  replace i82 := (i82.below b111).more b111.size
  replace i86 := (i86.below b111).more b111.size
  replace i88 := (i88.below b111).more b111.size
  replace i93 := (i93.below b111).more b111.size
  replace i97 := (i97.below b111).more b111.size
  replace i104 := (i104.below b111).more b111.size
  replace i110 := (i110.below b111).more b111.size
  replace x108 := bx_below x108 b111 x108.lt
  replace hb := hb.trans (b111.mono hb.size)
  clear b111
  go_wp2_with fail
  refine (fails1_true _ _ _ x108).mono ?_
  rintro e W ⟨rfl, b112⟩
  replace i2 := (i2.below b112).more b112.size
  replace i4 := (i4.below b112).more b112.size
  replace i18 := (i18.below b112).more b112.size
  replace i24 := (i24.below b112).more b112.size
  replace i30 := (i30.below b112).more b112.size
  replace i34 := (i34.below b112).more b112.size
  replace i38 := (i38.below b112).more b112.size
  replace i45 := (i45.below b112).more b112.size
  replace i51 := (i51.below b112).more b112.size
  replace i57 := (i57.below b112).more b112.size
  replace i67 := (i67.below b112).more b112.size
  replace i71 := (i71.below b112).more b112.size
  replace i75 := (i75.below b112).more b112.size
  replace i77 := (i77.below b112).more b112.size
  replace i82 := (i82.below b112).more b112.size
  replace i86 := (i86.below b112).more b112.size
  replace i88 := (i88.below b112).more b112.size
  replace i93 := (i93.below b112).more b112.size
  replace i97 := (i97.below b112).more b112.size
  replace i104 := (i104.below b112).more b112.size
  replace i110 := (i110.below b112).more b112.size
  replace hb := hb.trans (b112.mono hb.size)
  clear b112
  clear x108
  go_wp2_with fail
  go_ret
  exact ⟨rfl, hb⟩

end Go.Proofs.Ytmnaidemihcfaaa
