/- The texts behind the claim: Chapter 04: semi.Combine, whole: the result. Chapter 04: what Combine reckons, plain: numbers of combinations. Chapter 04: what Combine reckons, plain: tables that agree; the whole result. Chapter 04: the reference's Index, Size, Next, All. Chapter 04: the reference's All, Cards. Chapter 04: the reference's Cards, place, Same. Chapter 04: the reference's Combine: its loops. Chapter 04: the reference's Combine: the sums. Chapter 04: the reference's Combine, whole. Chapter 04: the reference's Combine answers what the program's does. Chapter 04: Element; elements. -/
import Derived.Test.YtgdnmgcigkhojaaCm4

namespace Go.Proofs.Ytgdnmgcigkhojaa.Am
open Go.RowKit
set_option linter.unusedVariables false
set_option maxHeartbeats 4000000
set_option maxRecDepth 100000
structure EndOk (kd : Int) (keep : List Int) (n : Nat) (z o u : Int) (fv fp ft : Nat) (VS CS : Nat → List Int) (A B : Nat → Nat → Int) (N : Nat → Nat) (m : Nat) (F : Nat → Int) (q : Nat) (lv ls cl : List Int) (sK : Nat → Int) (sz P : Nat) (at_ : Nat → Nat) (pA pB : Nat → Int) (WA WB : Nat → Nat → Int) (wp wq : Nat → Int) : Prop where
  n5 : n ≤ 1000
  m12 : m ≤ 12
  szb : sz ≤ 4096
  q12 : q ≤ 12
  lsl : ls.length = q
  lsb : ∀ i, i < q → 1 ≤ ls.getD i 0 ∧ ls.getD i 0 ≤ 8
  Pe : (P : Int) = prodT ls q
  P0 : 1 ≤ P
  good : goodA kd VS CS A B N m = true
  W0 : WA 0 = (fun _ => z) ∧ WB 0 = (fun _ => 0)
  rnd : RndOk kd (opL z o u fv fp ft) fp (blF (tab VS CS A B N) m) m lv ls q sK sz P at_ pA pB WA WB wp wq
  ch : FnOk Pg g0 37 [i6 kd] (.tup [opV z o u fv fp ft, i6 0])
  l0 : Sat Pg none 0 (at' 15 [1, 1, 1, 1, 1, 0, 1, 0]) (mkSt g0 209 (c0S keep n z o u fv fp ft (blF (tbF VS CS A B N) m) (fun k => blF (rdF VS CS A B N k) m) m 0)) (outsP g0 209 [(goodA kd VS CS A B N m = true, .exit 0, c0X keep n z o u fv fp ft (blF (tab VS CS A B N) m) m), (goodA kd VS CS A B N m = false, .ret, cBad 41)])
  tg : FnOk Pg g0 39 [.im m (blF (tab VS CS A B N) m)] (.tup [.agg (a64 F), .bool true])
  wi : FnOk Pg g0 40 [.agg (a64 F), .im n (ints keep)] (.bool true)
  l2 : Sat Pg none 0 (at' 15 [1, 1, 1, 1, 1, 1, 1, 1, 1, 0, 1, 0]) (mkSt g0 209 (c2S keep n (opL z o u fv fp ft) (blF (tab VS CS A B N) m) m F (0, 0, [], []))) (outsP g0 209 [(True, .exit 2, c2X keep n (opL z o u fv fp ft) (blF (tab VS CS A B N) m) m F q lv ls)])
  ic : FnOk Pg g0 41 [.im q (ints ls)] (i6 0)
  l4 : Sat Pg none 0 (at' 15 [1, 1, 1, 1, 1, 1, 1, 1, 1, 1, 1, 1, 1, 0, 1, 0]) (mkSt g0 209 (c4S keep n (opL z o u fv fp ft) (blF (tab VS CS A B N) m) m F q lv ls 0)) (outsP g0 209 [(True, .exit 4, c4X keep n (opL z o u fv fp ft) (blF (tab VS CS A B N) m) m F q lv ls (sz : Int) sK)])
  l6 : Sat Pg none 0 (at' 15 [1, 1, 1, 1, 1, 1, 1, 1, 1, 1, 1, 1, 1, 1, 0, 1, 0]) (mkSt g0 209 (c6S keep n (opL z o u fv fp ft) (blF (tab VS CS A B N) m) m F q lv ls (sz : Int) sK (0, []))) (outsP g0 209 [(True, .exit 6, c6X keep n (opL z o u fv fp ft) (blF (tab VS CS A B N) m) m F q lv ls (sz : Int) sK cl)])
section
variable (kd : Int) (keep : List Int) (n : Nat) (z o u : Int) (fv fp ft : Nat) (cT : List V) (cR : Nat → List V) (c : List V) (gd : Bool) (m : Nat) (F : Nat → Int) (q : Nat) (lv ls cl : List Int) (sK : Nat → Int) (sz : Nat) (W0 W1 : List V) (A B : Nat → Int)
abbrev h1 : Hs := [fn 33 (.tup [opV z o u fv fp ft, i6 0]), no 42, mk 46, (0, .loop [0, 1, 2, 3] (c0S keep n z o u fv fp ft cT cR m 0) [(gd = true, .exit 0, c0X keep n z o u fv fp ft c m), (gd = false, .ret, cBad 41)]), fn 70 (.tup [.agg (a64 F), .bool true]), fn 78 (.bool true), (0, .loop [0, 1, 2, 3, 4] (c2S keep n (opL z o u fv fp ft) c m F (0, 0, [], [])) [(True, .exit 2, c2X keep n (opL z o u fv fp ft) c m F q lv ls)]), fn 99 (i6 0)]
abbrev c4M : SL := { c4S keep n (opL z o u fv fp ft) c m F q lv ls 0 with md := [0, 0, 0, 0, 0, 1] }
abbrev h2 (b : Bool) : Hs := [(0, .loop [0, 1, 2, 3, 4, 5] (c6S keep n (opL z o u fv fp ft) c m F q lv ls (sz : Int) sK (0, [])) [(True, .exit 6, c6X keep n (opL z o u fv fp ft) c m F q lv ls (sz : Int) sK cl)]), mk 146, (0, .loop [0, 1, 2, 3, 4, 5, 6] (c8S keep n z o u fv fp ft c m F q lv ls sK cl sz 0) [(True, .exit 8, c8X keep n z o u fv fp ft c m F q lv ls sK cl sz (elF (fun _ => z) (fun _ => 0) sz))]), fn 165 (.fn 72 [.imp [.im q (ints ls)]]), (0, .loop [0, 1, 2, 3, 4, 5, 6] (rgSt keep n z o u fv fp ft c m F q lv ls sK cl sz (elF (fun _ => z) (fun _ => 0) sz)) [(True, .normal, rgX keep n sK cl sz (elF A B sz))]), (0, .loop [0, 1] (seS keep n cl sz A B sK 0) [(b = true, .exit 12, seX keep n cl sz A B sK), (b = false, .ret, cBad 6)])]
end
theorem com_ok1 (kd : Int) (keep : List Int) (n : Nat) (hn : n + 1 = keep.length) (z o u : Int) (fv fp ft : Nat) (VS CS : Nat → List Int) (A B : Nat → Nat → Int) (N : Nat → Nat) (m : Nat) (F : Nat → Int) (q : Nat) (lv ls cl : List Int) (hcl : cl.length = n + 1) (sK : Nat → Int) (sz P : Nat) (at_ : Nat → Nat) (pA pB : Nat → Int) (WA WB : Nat → Nat → Int) (wp wq : Nat → Int)
    (hE : EndOk kd keep (n + 1) z o u fv fp ft VS CS A B N m F q lv ls cl sK sz P at_ pA pB WA WB wp wq) (hf : fitA (WA P) (WB P) sz = true) : FnOk Pg g0 15 [i6 kd, .im m (blF (tbF VS CS A B N) m), .im (n + 1) (ints keep)] (.tup [.agg [.im (n + 1) (ints keep), .im (n + 1) (ints cl), .im sz (elF (WA P) (WB P) sz)], i6 0]) := by
  have hch := hE.ch
  have l0 := hE.l0
  have htg := hE.tg
  have hwi := hE.wi
  have l2 := hE.l2
  have hic := hE.ic
  have l4 := hE.l4
  have l6 := hE.l6
  have hm := hE.m12
  have hn5 := hE.n5
  have hz := hE.szb
  have hL := HfL_blF (HfL_tbF VS CS A B N) m
  have hL2 := HfL_blF (HfL_tab VS CS A B N) m
  have hR := HfL_blF (HfL_rdF VS CS A B N 0) m
  have hr := rdF_rep VS CS A B N m
  have hF := HfL_a64 F
  have hS := HfL_a64 sK
  have hls := HfL_ints ls
  have hlv := HfL_ints lv
  have hkp := HfL_ints keep
  have hcl2 := HfL_ints cl
  have hcb := combs_fn ls q
  have l9 := com_range kd keep (n + 1) z o u fv fp ft (blF (tab VS CS A B N) m) hL2 m F q lv ls sK cl sz P hE.szb at_ pA pB WA WB wp wq hE.lsl hE.q12 hE.lsb hE.Pe hE.P0 hE.rnd
  rw [hE.W0.1, hE.W0.2] at l9
  have l8 := com_zeros keep (n + 1) z o u fv fp ft (blF (tab VS CS A B N) m) hL2 m F q lv ls sK cl sz hE.szb
  have l10 := com_settle keep (n + 1) cl sz (WA P) (WB P) sK hE.szb
  have hz0 := rep_elF sz
  have hz1 : elF (zF z 0) (fun _ => 0) sz = elF (fun _ => 0) (fun _ => 0) sz := rfl
  have hW := HfL_elF (WA P) (WB P) sz
  have hWz := HfL_elF (fun _ => z) (fun _ => 0) sz
  have hW0 := HfL_elF (zF z 0) (fun _ => 0) sz
  have hsrc : ∀ H' : T O, srcV H' 1 (.im keep.length (ints keep)) = some (keep.length, ints keep) := fun H' => by
    unfold srcV
    dsimp only
    rw [ints_length, Nat.mul_one, show Nat.ble keep.length keep.length = true from Nat.ble_eq_true_of_le (Nat.le_refl _), cond_true, List.take_of_length_le (by rw [ints_length]; omega)]
  have hgd := hE.good
  clear hE
  rw [← hn] at hsrc
  rw [hf] at l10
  generalize goodA kd VS CS A B N m = gd at *
  generalize blF (tbF VS CS A B N) m = cT at *
  generalize hcc : blF (tab VS CS A B N) m = c at *
  generalize hcr : (fun k => blF (rdF VS CS A B N k) m) = cR at *
  have hcr0 : cR 0 = blF (rdF VS CS A B N 0) m := by rw [← hcr]
  generalize WA P = wA at *
  generalize WB P = wB at *
  refine FnOk.of_vc vE_ok mixed sp0_ok (n := 1000) (r := [0]) (S := { sl := [(6, .ptr 0 0), (7, i6 0)], os := [.row 32 none [.im (n + 1) (ints keep), .im (n + 1) (ints cl), .im sz (elF wA wB sz)]] }) (hs := h1 keep (n + 1) z o u fv fp ft cT cR c gd m F q lv ls ++ [(103, .an (n + 1) (ints keep)), nu 108 (n : Nat), (0, .loop [0, 1, 2, 3, 4, 6] (c4M keep (n + 1) z o u fv fp ft c m F q lv ls) [(True, .exit 4, c4X keep (n + 1) (opL z o u fv fp ft) c m F q lv ls (sz : Int) sK)])] ++ h2 keep (n + 1) z o u fv fp ft c m F q lv ls cl sK sz wA wB true) ?_
  refine Eq.mp (by kernel_rfl : (V.tup [V.agg [V.im (n + 1) (ints keep), V.im (n + 1) (ints cl), V.im sz (elF wA wB sz)], i6 0] = V.tup [V.agg [V.im (n + 1) (ints keep), V.im (n + 1) (ints cl), V.im sz (elF wA wB sz)], i6 0] ∧ (True ∧ True) ∧ FnOk Try.prog g0 37 [i6 kd] (V.tup [opV z o u fv fp ft, i6 0]) ∧ True ∧ decide ((↑m : Int) > (12 : Int)) = false ∧ ((0 : Int) ≤ (↑m : Int) ∧ (↑m : Int) ≤ (↑m : Int) ∧ (↑(584 : Nat) : Int) * (↑m : Int) ≤ (281474976710656 : Int) ∧ (↑m : Int) ≤ (9223372036854775807 : Int)) ∧ (((n + 1 = n + 1 ∧ ints keep = ints keep) ∧ 0 = 0 ∧ 0 = 0 ∧ 0 = 0 ∧ (m = m ∧ cT = cT) ∧ (↑m : Int) = (↑m : Int) ∧ (↑(0 : Nat) : Int) = (0 : Int) ∧ True) ∧ ([V.nils, V.nils, V.nils] = [V.nils, V.nils, V.nils] ∧ TT 3) ∧ (opL z o u fv fp ft = [i6 z, i6 0, i6 o, i6 u, V.fn fv [], V.fn fp [], V.fn ft []] ∧ TT 7) ∧ (cR 0 = rep m zT ∧ HfL (cR 0)) ∧ ((0 = 0 ∧ m = m ∧ m - m = m - m) ∧ True) ∧ True) ∧ Sat Try.prog none 0 (at' 15 [1, 1, 1, 1, 1, 0, 1, 0]) (mkSt g0 209 (c0S keep (n + 1) z o u fv fp ft cT cR m 0)) (outsP g0 209 [(gd = true, Ex.exit 0, c0X keep (n + 1) z o u fv fp ft c m), (gd = false, Ex.ret, cBad (41 : Int))]) ∧ (gd = true → (True ∧ True) ∧ FnOk Try.prog g0 39 [V.im m c] (V.tup [V.agg (a64 F), V.bool true]) ∧ True ∧ ((TT 64) ∧ True ∧ True) ∧ FnOk Try.prog g0 40 [V.agg (a64 (F)), V.im (n + 1) (ints keep)] (V.bool true) ∧ True ∧ (((n + 1 = n + 1 ∧ ints keep = ints keep) ∧ 0 = 0 ∧ 0 = 0 ∧ 0 = 0 ∧ 0 = 0 ∧ 0 = 0 ∧ True ∧ (EQn (F) 0 64) ∧ (↑(0 : Nat) : Int) = (0 : Int) ∧ True) ∧ ([V.nils, V.nils, V.nils] = [V.nils, V.nils, V.nils] ∧ TT 3) ∧ (opL z o u fv fp ft = opL z o u fv fp ft ∧ TT 7) ∧ ([V.im m c] = [V.im m c] ∧ True ∧ True) ∧ (a64 F = (a64 (F)) ∧ TT 64) ∧ (True ∧ True) ∧ True) ∧ Sat Try.prog none 0 (at' 15 [1, 1, 1, 1, 1, 1, 1, 1, 1, 0, 1, 0]) (mkSt g0 209 (c2S keep (n + 1) (opL z o u fv fp ft) c m F (0, 0, [], []))) (outsP g0 209 [(True, Ex.exit 2, c2X keep (n + 1) (opL z o u fv fp ft) c m F q lv ls)]) ∧ (True → (True ∧ True) ∧ FnOk Try.prog g0 41 [V.im q (ints ls)] (i6 0) ∧ True ∧ (srcV (ofOs T.e 0 [r3, O.row 79 none (opL z o u fv fp ft), O.row 82 none [V.im m c], O.row 83 none (a64 F), O.row 29 none [V.im q (ints lv)]]) 1 (V.im (n + 1) (ints keep)) = some (n + 1, ints keep) ∧ n + 1 ≤ 9223372036854775807 ∧ (n + 1) * 8 ≤ 140737488355328) ∧ wr IntKind.i64 ((↑(n + 1) : Int) - (1 : Int)) = (↑n : Int) ∧ (((n + 1 = n + 1 ∧ ints keep = ints keep) ∧ 0 = 0 ∧ 0 = 0 ∧ 0 = 0 ∧ 0 = 0 ∧ 0 = 0 ∧ (q = q ∧ ints ls = ints ls) ∧ 0 = 0 ∧ sufK F keep (n + 1) 0 = (1 : Int) ∧ (↑(n + 1 - 0) : Int) - (1 : Int) = (↑n : Int) ∧ True) ∧ ([V.nils, V.nils, V.nils] = [V.nils, V.nils, V.nils] ∧ TT 3) ∧ (opL z o u fv fp ft = opL z o u fv fp ft ∧ TT 7) ∧ ([V.im m c] = [V.im m c] ∧ True ∧ True) ∧ (a64 F = a64 F ∧ TT 64) ∧ ([V.im q (ints lv)] = [V.im q (ints lv)] ∧ True ∧ True) ∧ ((n + 1 = n + 1 ∧ ints keep = ints keep ∧ HfL (ints keep)) ∧ True ∧ True ∧ stK F keep (n + 1) 0 0 = (0 : Int) ∧ stK F keep (n + 1) 0 1 = (0 : Int) ∧ stK F keep (n + 1) 0 2 = (0 : Int) ∧ stK F keep (n + 1) 0 3 = (0 : Int) ∧ stK F keep (n + 1) 0 4 = (0 : Int) ∧ stK F keep (n + 1) 0 5 = (0 : Int) ∧ stK F keep (n + 1) 0 6 = (0 : Int) ∧ stK F keep (n + 1) 0 7 = (0 : Int) ∧ stK F keep (n + 1) 0 8 = (0 : Int) ∧ stK F keep (n + 1) 0 9 = (0 : Int) ∧ stK F keep (n + 1) 0 10 = (0 : Int) ∧ stK F keep (n + 1) 0 11 = (0 : Int) ∧ stK F keep (n + 1) 0 12 = (0 : Int) ∧ stK F keep (n + 1) 0 13 = (0 : Int) ∧ stK F keep (n + 1) 0 14 = (0 : Int) ∧ stK F keep (n + 1) 0 15 = (0 : Int) ∧ stK F keep (n + 1) 0 16 = (0 : Int) ∧ stK F keep (n + 1) 0 17 = (0 : Int) ∧ stK F keep (n + 1) 0 18 = (0 : Int) ∧ stK F keep (n + 1) 0 19 = (0 : Int) ∧ stK F keep (n + 1) 0 20 = (0 : Int) ∧ stK F keep (n + 1) 0 21 = (0 : Int) ∧ stK F keep (n + 1) 0 22 = (0 : Int) ∧ stK F keep (n + 1) 0 23 = (0 : Int) ∧ stK F keep (n + 1) 0 24 = (0 : Int) ∧ stK F keep (n + 1) 0 25 = (0 : Int) ∧ stK F keep (n + 1) 0 26 = (0 : Int) ∧ stK F keep (n + 1) 0 27 = (0 : Int) ∧ stK F keep (n + 1) 0 28 = (0 : Int) ∧ stK F keep (n + 1) 0 29 = (0 : Int) ∧ stK F keep (n + 1) 0 30 = (0 : Int) ∧ stK F keep (n + 1) 0 31 = (0 : Int) ∧ stK F keep (n + 1) 0 32 = (0 : Int) ∧ stK F keep (n + 1) 0 33 = (0 : Int) ∧ stK F keep (n + 1) 0 34 = (0 : Int) ∧ stK F keep (n + 1) 0 35 = (0 : Int) ∧ stK F keep (n + 1) 0 36 = (0 : Int) ∧ stK F keep (n + 1) 0 37 = (0 : Int) ∧ stK F keep (n + 1) 0 38 = (0 : Int) ∧ stK F keep (n + 1) 0 39 = (0 : Int) ∧ stK F keep (n + 1) 0 40 = (0 : Int) ∧ stK F keep (n + 1) 0 41 = (0 : Int) ∧ stK F keep (n + 1) 0 42 = (0 : Int) ∧ stK F keep (n + 1) 0 43 = (0 : Int) ∧ stK F keep (n + 1) 0 44 = (0 : Int) ∧ stK F keep (n + 1) 0 45 = (0 : Int) ∧ stK F keep (n + 1) 0 46 = (0 : Int) ∧ stK F keep (n + 1) 0 47 = (0 : Int) ∧ stK F keep (n + 1) 0 48 = (0 : Int) ∧ stK F keep (n + 1) 0 49 = (0 : Int) ∧ stK F keep (n + 1) 0 50 = (0 : Int) ∧ stK F keep (n + 1) 0 51 = (0 : Int) ∧ stK F keep (n + 1) 0 52 = (0 : Int) ∧ stK F keep (n + 1) 0 53 = (0 : Int) ∧ stK F keep (n + 1) 0 54 = (0 : Int) ∧ stK F keep (n + 1) 0 55 = (0 : Int) ∧ stK F keep (n + 1) 0 56 = (0 : Int) ∧ stK F keep (n + 1) 0 57 = (0 : Int) ∧ stK F keep (n + 1) 0 58 = (0 : Int) ∧ stK F keep (n + 1) 0 59 = (0 : Int) ∧ stK F keep (n + 1) 0 60 = (0 : Int) ∧ stK F keep (n + 1) 0 61 = (0 : Int) ∧ stK F keep (n + 1) 0 62 = (0 : Int) ∧ stK F keep (n + 1) 0 63 = (0 : Int) ∧ True) ∧ True) ∧ Sat Try.prog none 0 (at' 15 [1, 1, 1, 1, 1, 1, 1, 1, 1, 1, 1, 1, 1, 0, 1, 0]) (mkSt g0 209 (c4M keep (n + 1) z o u fv fp ft c m F q lv ls)) (outsP g0 209 [(True, Ex.exit 4, c4X keep (n + 1) (opL z o u fv fp ft) c m F q lv ls (↑sz : Int) sK)]) ∧ (True → (((n + 1 = n + 1 ∧ ints keep = ints keep) ∧ 0 = 0 ∧ 0 = 0 ∧ 0 = 0 ∧ 0 = 0 ∧ 0 = 0 ∧ (q = q ∧ ints ls = ints ls) ∧ 0 = 0 ∧ (↑sz : Int) = (↑sz : Int) ∧ (n + 1 = n + 1 ∧ ints keep = ints keep) ∧ (↑(n + 1) : Int) = (↑(n + 1) : Int) ∧ (↑(0 : Nat) : Int) = (0 : Int) ∧ True) ∧ ([V.nils, V.nils, V.nils] = [V.nils, V.nils, V.nils] ∧ TT 3) ∧ (opL z o u fv fp ft = opL z o u fv fp ft ∧ TT 7) ∧ ([V.im m c] = [V.im m c] ∧ True ∧ True) ∧ (a64 F = a64 F ∧ TT 64) ∧ ([V.im q (ints lv)] = [V.im q (ints lv)] ∧ True ∧ True) ∧ ((n + 1 = n + 1 ∧ ints keep = ints keep) ∧ True ∧ True ∧ EQn (sK) 0 64) ∧ True) ∧ Sat Try.prog none 0 (at' 15 [1, 1, 1, 1, 1, 1, 1, 1, 1, 1, 1, 1, 1, 1, 0, 1, 0]) (mkSt g0 209 (c6S keep (n + 1) (opL z o u fv fp ft) c m F q lv ls (↑sz : Int) sK (0, []))) (outsP g0 209 [(True, Ex.exit 6, c6X keep (n + 1) (opL z o u fv fp ft) c m F q lv ls (↑sz : Int) sK cl)]) ∧ (True → ((0 : Int) ≤ (↑sz : Int) ∧ (↑sz : Int) ≤ (↑sz : Int) ∧ (↑(16 : Nat) : Int) * (↑sz : Int) ≤ (281474976710656 : Int) ∧ (↑sz : Int) ≤ (9223372036854775807 : Int)) ∧ ((0 = 0 ∧ 0 = 0 ∧ 0 = 0 ∧ 0 = 0 ∧ (q = q ∧ ints ls = ints ls) ∧ 0 = 0 ∧ (↑sz : Int) = (↑sz : Int) ∧ (↑(0 : Nat) : Int) = (0 : Int) ∧ True) ∧ ([V.nils, V.nils, V.nils] = [V.nils, V.nils, V.nils] ∧ TT 3) ∧ (opL z o u fv fp ft = opL z o u fv fp ft ∧ TT 7) ∧ ([V.im m c] = [V.im m c] ∧ True ∧ True) ∧ (a64 F = a64 F ∧ TT 64) ∧ ([V.im q (ints lv)] = [V.im q (ints lv)] ∧ True ∧ True) ∧ ((n + 1 = n + 1 ∧ ints keep = ints keep) ∧ (n + 1 = n + 1 ∧ ints cl = ints cl) ∧ (0 = 0 ∧ sz = sz ∧ sz - sz = sz - sz) ∧ EQn (sK) 0 64) ∧ (elF (zF z 0) (fun x => (0 : Int)) sz = rep sz [i6 0, i6 0] ∧ HfL (elF (zF z 0) (fun x => (0 : Int)) sz)) ∧ True) ∧ Sat Try.prog none 0 (at' 15 [1, 1, 1, 1, 1, 1, 1, 1, 1, 1, 1, 1, 1, 1, 1, 1, 0, 1, 0]) (mkSt g0 209 (c8S keep (n + 1) z o u fv fp ft c m F q lv ls sK cl sz 0)) (outsP g0 209 [(True, Ex.exit 8, c8X keep (n + 1) z o u fv fp ft c m F q lv ls sK cl sz (elF (fun x => z) (fun x => (0 : Int)) sz))]) ∧ (True → (True ∧ True) ∧ FnOk Try.prog g0 42 [V.im q (ints ls)] (V.fn 72 [V.imp [V.im q (ints ls)]]) ∧ True ∧ ((0 = 0 ∧ 0 = 0 ∧ 0 = 0 ∧ 0 = 0 ∧ 0 = 0 ∧ ([V.im q (ints ls)] = [V.im q (ints ls)] ∧ True) ∧ True) ∧ ([V.nils, V.nils, V.nils] = [V.nils, V.nils, V.nils] ∧ TT 3) ∧ (opL z o u fv fp ft = opL z o u fv fp ft ∧ TT 7) ∧ ([V.im m c] = [V.im m c] ∧ True ∧ True) ∧ (a64 F = a64 F ∧ TT 64) ∧ ([V.im q (ints lv)] = [V.im q (ints lv)] ∧ True ∧ True) ∧ ((n + 1 = n + 1 ∧ ints keep = ints keep) ∧ (n + 1 = n + 1 ∧ ints cl = ints cl) ∧ (0 = 0 ∧ sz = sz ∧ sz - sz = sz - sz) ∧ EQn (sK) 0 64) ∧ (elF (fun x => z) (fun x => (0 : Int)) sz = elF (fun x => z) (fun x => (0 : Int)) sz ∧ HfL (elF (fun x => z) (fun x => (0 : Int)) sz)) ∧ True) ∧ Sat Try.prog none 0 (at' 15 [1, 1, 1, 1, 1, 1, 1, 1, 1, 1, 1, 1, 1, 1, 1, 1, 1, 0, 1, 0]) (mkSt g0 209 (rgSt keep (n + 1) z o u fv fp ft c m F q lv ls sK cl sz (elF (fun x => z) (fun x => (0 : Int)) sz))) (outsP g0 209 [(True, Ex.normal, rgX keep (n + 1) sK cl sz (elF wA wB sz))]) ∧ (True → ((0 = 0 ∧ 0 = 0 ∧ (sz = sz ∧ elF wA wB sz = elF wA wB sz) ∧ (↑sz : Int) = (↑sz : Int) ∧ (↑(0 : Nat) : Int) = (0 : Int) ∧ True) ∧ ([V.nils, V.nils, V.nils] = [V.nils, V.nils, V.nils] ∧ TT 3) ∧ (V.im (n + 1) (ints keep) :: V.im (n + 1) (ints cl) :: V.im sz (elF wA wB sz) :: a64 sK = V.im (n + 1) (ints keep) :: V.im (n + 1) (ints cl) :: V.im sz (elF wA wB sz) :: a64 sK ∧ TT 67) ∧ True) ∧ Sat Try.prog none 0 (at' 15 [1, 1, 1, 1, 1, 1, 1, 1, 1, 1, 1, 1, 1, 1, 1, 1, 1, 1, 0, 1, 0]) (mkSt g0 209 (seS keep (n + 1) cl sz wA wB sK 0)) (outsP g0 209 [(true = true, Ex.exit 12, seX keep (n + 1) cl sz wA wB sK), (true = false, Ex.ret, cBad (6 : Int))]) ∧ (true = true → (0 = 0 ∧ (0 : Int) = (0 : Int) ∧ True) ∧ ([V.im (n + 1) (ints keep), V.im (n + 1) (ints cl), V.im sz (elF wA wB sz)] = [V.im (n + 1) (ints keep), V.im (n + 1) (ints cl), V.im sz (elF wA wB sz)] ∧ TT 3) ∧ True) ∧ (true = false → (0 = 0 ∧ (0 : Int) = (6 : Int) ∧ True) ∧ ([V.im (n + 1) (ints keep), V.im (n + 1) (ints cl), V.im sz (elF wA wB sz)] = [V.nils, V.nils, V.nils] ∧ TT 3) ∧ True) ∧ True) ∧ True) ∧ True) ∧ True) ∧ True) ∧ True) ∧ (gd = false → (0 = 0 ∧ (0 : Int) = (41 : Int) ∧ True) ∧ ([V.im (n + 1) (ints keep), V.im (n + 1) (ints cl), V.im sz (elF wA wB sz)] = [V.nils, V.nils, V.nils] ∧ TT 3) ∧ True) ∧ True) = _) ?_
  (repeat' (first | (with_reducible apply And.intro) | (refine fun (_ : True) => ?_))) <;> first | exact aq | skip
  all_goals first | exact hcr0.trans hr.symm | (intro h9; rw [hgd] at h9; exact absurd h9 (by decide)) | (intro h9; (repeat' (first | (with_reducible apply And.intro) | (refine fun (_ : True) => ?_))); all_goals first | exact aq | exact hwi | exact hsrc _ | exact l4 | exact l6 | exact l8 | exact l9 | exact l10 | exact hz0 | exact hz0.symm | rfl | (intro h8; exact absurd h8 (by decide)) | (intro h8; (repeat' (first | (with_reducible apply And.intro) | (refine fun (_ : True) => ?_))); all_goals first | exact aq | rfl | skip) | skip) | skip
theorem com_ok0 (kd : Int) (keep : List Int) (hn : 0 = keep.length) (z o u : Int) (fv fp ft : Nat) (VS CS : Nat → List Int) (A B : Nat → Nat → Int) (N : Nat → Nat) (m : Nat) (F : Nat → Int) (q : Nat) (lv ls cl : List Int) (hcl : cl.length = 0) (sK : Nat → Int) (sz P : Nat) (at_ : Nat → Nat) (pA pB : Nat → Int) (WA WB : Nat → Nat → Int) (wp wq : Nat → Int)
    (hE : EndOk kd keep 0 z o u fv fp ft VS CS A B N m F q lv ls cl sK sz P at_ pA pB WA WB wp wq) (hf : fitA (WA P) (WB P) sz = true) : FnOk Pg g0 15 [i6 kd, .im m (blF (tbF VS CS A B N) m), .im 0 (ints keep)] (.tup [.agg [.im 0 (ints keep), .im 0 (ints cl), .im sz (elF (WA P) (WB P) sz)], i6 0]) := by
  have hch := hE.ch
  have l0 := hE.l0
  have htg := hE.tg
  have hwi := hE.wi
  have l2 := hE.l2
  have hic := hE.ic
  have l4 := hE.l4
  have l6 := hE.l6
  have hm := hE.m12
  have hn5 := hE.n5
  have hz := hE.szb
  have hL := HfL_blF (HfL_tbF VS CS A B N) m
  have hL2 := HfL_blF (HfL_tab VS CS A B N) m
  have hR := HfL_blF (HfL_rdF VS CS A B N 0) m
  have hr := rdF_rep VS CS A B N m
  have hF := HfL_a64 F
  have hS := HfL_a64 sK
  have hls := HfL_ints ls
  have hlv := HfL_ints lv
  have hkp := HfL_ints keep
  have hcl2 := HfL_ints cl
  have hcb := combs_fn ls q
  have l9 := com_range kd keep 0 z o u fv fp ft (blF (tab VS CS A B N) m) hL2 m F q lv ls sK cl sz P hE.szb at_ pA pB WA WB wp wq hE.lsl hE.q12 hE.lsb hE.Pe hE.P0 hE.rnd
  rw [hE.W0.1, hE.W0.2] at l9
  have l8 := com_zeros keep 0 z o u fv fp ft (blF (tab VS CS A B N) m) hL2 m F q lv ls sK cl sz hE.szb
  have l10 := com_settle keep 0 cl sz (WA P) (WB P) sK hE.szb
  have hz0 := rep_elF sz
  have hz1 : elF (zF z 0) (fun _ => 0) sz = elF (fun _ => 0) (fun _ => 0) sz := rfl
  have hW := HfL_elF (WA P) (WB P) sz
  have hWz := HfL_elF (fun _ => z) (fun _ => 0) sz
  have hW0 := HfL_elF (zF z 0) (fun _ => 0) sz
  have hsrc : ∀ H' : T O, srcV H' 1 (.im keep.length (ints keep)) = some (keep.length, ints keep) := fun H' => by
    unfold srcV
    dsimp only
    rw [ints_length, Nat.mul_one, show Nat.ble keep.length keep.length = true from Nat.ble_eq_true_of_le (Nat.le_refl _), cond_true, List.take_of_length_le (by rw [ints_length]; omega)]
  have hgd := hE.good
  clear hE
  rw [← hn] at hsrc
  rw [hf] at l10
  generalize goodA kd VS CS A B N m = gd at *
  generalize blF (tbF VS CS A B N) m = cT at *
  generalize hcc : blF (tab VS CS A B N) m = c at *
  generalize hcr : (fun k => blF (rdF VS CS A B N k) m) = cR at *
  have hcr0 : cR 0 = blF (rdF VS CS A B N 0) m := by rw [← hcr]
  generalize WA P = wA at *
  generalize WB P = wB at *
  refine FnOk.of_vc vE_ok mixed sp0_ok (n := 1000) (r := [0]) (S := { sl := [(6, .ptr 0 0), (7, i6 0)], os := [.row 32 none [.im 0 (ints keep), .im 0 (ints cl), .im sz (elF wA wB sz)]] }) (hs := h1 keep 0 z o u fv fp ft cT cR c gd m F q lv ls ++ [(0, .loop [0, 1, 2, 3, 4, 5] (c4M keep 0 z o u fv fp ft c m F q lv ls) [(True, .exit 4, c4X keep 0 (opL z o u fv fp ft) c m F q lv ls (sz : Int) sK)])] ++ h2 keep 0 z o u fv fp ft c m F q lv ls cl sK sz wA wB true) ?_
  refine Eq.mp (by kernel_rfl : (V.tup [V.agg [V.im 0 (ints keep), V.im 0 (ints cl), V.im sz (elF wA wB sz)], i6 0] = V.tup [V.agg [V.im 0 (ints keep), V.im 0 (ints cl), V.im sz (elF wA wB sz)], i6 0] ∧ (True ∧ True) ∧ FnOk Try.prog g0 37 [i6 kd] (V.tup [opV z o u fv fp ft, i6 0]) ∧ True ∧ decide ((↑m : Int) > (12 : Int)) = false ∧ ((0 : Int) ≤ (↑m : Int) ∧ (↑m : Int) ≤ (↑m : Int) ∧ (↑(584 : Nat) : Int) * (↑m : Int) ≤ (281474976710656 : Int) ∧ (↑m : Int) ≤ (9223372036854775807 : Int)) ∧ (((0 = 0 ∧ ints keep = ints keep) ∧ 0 = 0 ∧ 0 = 0 ∧ 0 = 0 ∧ (m = m ∧ cT = cT) ∧ (↑m : Int) = (↑m : Int) ∧ (↑(0 : Nat) : Int) = (0 : Int) ∧ True) ∧ ([V.nils, V.nils, V.nils] = [V.nils, V.nils, V.nils] ∧ TT 3) ∧ (opL z o u fv fp ft = [i6 z, i6 0, i6 o, i6 u, V.fn fv [], V.fn fp [], V.fn ft []] ∧ TT 7) ∧ (cR 0 = rep m zT ∧ HfL (cR 0)) ∧ ((0 = 0 ∧ m = m ∧ m - m = m - m) ∧ True) ∧ True) ∧ Sat Try.prog none 0 (at' 15 [1, 1, 1, 1, 1, 0, 1, 0]) (mkSt g0 209 (c0S keep 0 z o u fv fp ft cT cR m 0)) (outsP g0 209 [(gd = true, Ex.exit 0, c0X keep 0 z o u fv fp ft c m), (gd = false, Ex.ret, cBad (41 : Int))]) ∧ (gd = true → (True ∧ True) ∧ FnOk Try.prog g0 39 [V.im m c] (V.tup [V.agg (a64 F), V.bool true]) ∧ True ∧ ((TT 64) ∧ True ∧ True) ∧ FnOk Try.prog g0 40 [V.agg (a64 (F)), V.im 0 (ints keep)] (V.bool true) ∧ True ∧ (((0 = 0 ∧ ints keep = ints keep) ∧ 0 = 0 ∧ 0 = 0 ∧ 0 = 0 ∧ 0 = 0 ∧ 0 = 0 ∧ True ∧ (EQn (F) 0 64) ∧ (↑(0 : Nat) : Int) = (0 : Int) ∧ True) ∧ ([V.nils, V.nils, V.nils] = [V.nils, V.nils, V.nils] ∧ TT 3) ∧ (opL z o u fv fp ft = opL z o u fv fp ft ∧ TT 7) ∧ ([V.im m c] = [V.im m c] ∧ True ∧ True) ∧ (a64 F = (a64 (F)) ∧ TT 64) ∧ (True ∧ True) ∧ True) ∧ Sat Try.prog none 0 (at' 15 [1, 1, 1, 1, 1, 1, 1, 1, 1, 0, 1, 0]) (mkSt g0 209 (c2S keep 0 (opL z o u fv fp ft) c m F (0, 0, [], []))) (outsP g0 209 [(True, Ex.exit 2, c2X keep 0 (opL z o u fv fp ft) c m F q lv ls)]) ∧ (True → (True ∧ True) ∧ FnOk Try.prog g0 41 [V.im q (ints ls)] (i6 0) ∧ True ∧ (((0 = 0 ∧ ints keep = ints keep) ∧ 0 = 0 ∧ 0 = 0 ∧ 0 = 0 ∧ 0 = 0 ∧ 0 = 0 ∧ (q = q ∧ ints ls = ints ls) ∧ 0 = 0 ∧ sufK F keep 0 0 = (1 : Int) ∧ (↑(0 - 0) : Int) - (1 : Int) = wr IntKind.i64 ((↑(0 : Nat) : Int) - (1 : Int)) ∧ True) ∧ ([V.nils, V.nils, V.nils] = [V.nils, V.nils, V.nils] ∧ TT 3) ∧ (opL z o u fv fp ft = opL z o u fv fp ft ∧ TT 7) ∧ ([V.im m c] = [V.im m c] ∧ True ∧ True) ∧ (a64 F = a64 F ∧ TT 64) ∧ ([V.im q (ints lv)] = [V.im q (ints lv)] ∧ True ∧ True) ∧ (0 = 0 ∧ True ∧ True ∧ stK F keep 0 0 0 = (0 : Int) ∧ stK F keep 0 0 1 = (0 : Int) ∧ stK F keep 0 0 2 = (0 : Int) ∧ stK F keep 0 0 3 = (0 : Int) ∧ stK F keep 0 0 4 = (0 : Int) ∧ stK F keep 0 0 5 = (0 : Int) ∧ stK F keep 0 0 6 = (0 : Int) ∧ stK F keep 0 0 7 = (0 : Int) ∧ stK F keep 0 0 8 = (0 : Int) ∧ stK F keep 0 0 9 = (0 : Int) ∧ stK F keep 0 0 10 = (0 : Int) ∧ stK F keep 0 0 11 = (0 : Int) ∧ stK F keep 0 0 12 = (0 : Int) ∧ stK F keep 0 0 13 = (0 : Int) ∧ stK F keep 0 0 14 = (0 : Int) ∧ stK F keep 0 0 15 = (0 : Int) ∧ stK F keep 0 0 16 = (0 : Int) ∧ stK F keep 0 0 17 = (0 : Int) ∧ stK F keep 0 0 18 = (0 : Int) ∧ stK F keep 0 0 19 = (0 : Int) ∧ stK F keep 0 0 20 = (0 : Int) ∧ stK F keep 0 0 21 = (0 : Int) ∧ stK F keep 0 0 22 = (0 : Int) ∧ stK F keep 0 0 23 = (0 : Int) ∧ stK F keep 0 0 24 = (0 : Int) ∧ stK F keep 0 0 25 = (0 : Int) ∧ stK F keep 0 0 26 = (0 : Int) ∧ stK F keep 0 0 27 = (0 : Int) ∧ stK F keep 0 0 28 = (0 : Int) ∧ stK F keep 0 0 29 = (0 : Int) ∧ stK F keep 0 0 30 = (0 : Int) ∧ stK F keep 0 0 31 = (0 : Int) ∧ stK F keep 0 0 32 = (0 : Int) ∧ stK F keep 0 0 33 = (0 : Int) ∧ stK F keep 0 0 34 = (0 : Int) ∧ stK F keep 0 0 35 = (0 : Int) ∧ stK F keep 0 0 36 = (0 : Int) ∧ stK F keep 0 0 37 = (0 : Int) ∧ stK F keep 0 0 38 = (0 : Int) ∧ stK F keep 0 0 39 = (0 : Int) ∧ stK F keep 0 0 40 = (0 : Int) ∧ stK F keep 0 0 41 = (0 : Int) ∧ stK F keep 0 0 42 = (0 : Int) ∧ stK F keep 0 0 43 = (0 : Int) ∧ stK F keep 0 0 44 = (0 : Int) ∧ stK F keep 0 0 45 = (0 : Int) ∧ stK F keep 0 0 46 = (0 : Int) ∧ stK F keep 0 0 47 = (0 : Int) ∧ stK F keep 0 0 48 = (0 : Int) ∧ stK F keep 0 0 49 = (0 : Int) ∧ stK F keep 0 0 50 = (0 : Int) ∧ stK F keep 0 0 51 = (0 : Int) ∧ stK F keep 0 0 52 = (0 : Int) ∧ stK F keep 0 0 53 = (0 : Int) ∧ stK F keep 0 0 54 = (0 : Int) ∧ stK F keep 0 0 55 = (0 : Int) ∧ stK F keep 0 0 56 = (0 : Int) ∧ stK F keep 0 0 57 = (0 : Int) ∧ stK F keep 0 0 58 = (0 : Int) ∧ stK F keep 0 0 59 = (0 : Int) ∧ stK F keep 0 0 60 = (0 : Int) ∧ stK F keep 0 0 61 = (0 : Int) ∧ stK F keep 0 0 62 = (0 : Int) ∧ stK F keep 0 0 63 = (0 : Int) ∧ True) ∧ True) ∧ Sat Try.prog none 0 (at' 15 [1, 1, 1, 1, 1, 1, 1, 1, 1, 1, 1, 1, 1, 0, 1, 0]) (mkSt g0 209 (c4M keep 0 z o u fv fp ft c m F q lv ls)) (outsP g0 209 [(True, Ex.exit 4, c4X keep 0 (opL z o u fv fp ft) c m F q lv ls (↑sz : Int) sK)]) ∧ (True → (((0 = 0 ∧ ints keep = ints keep) ∧ 0 = 0 ∧ 0 = 0 ∧ 0 = 0 ∧ 0 = 0 ∧ 0 = 0 ∧ (q = q ∧ ints ls = ints ls) ∧ 0 = 0 ∧ (↑sz : Int) = (↑sz : Int) ∧ (0 = 0 ∧ ints keep = ints keep) ∧ (↑(0 : Nat) : Int) = (↑(0 : Nat) : Int) ∧ (↑(0 : Nat) : Int) = (0 : Int) ∧ True) ∧ ([V.nils, V.nils, V.nils] = [V.nils, V.nils, V.nils] ∧ TT 3) ∧ (opL z o u fv fp ft = opL z o u fv fp ft ∧ TT 7) ∧ ([V.im m c] = [V.im m c] ∧ True ∧ True) ∧ (a64 F = a64 F ∧ TT 64) ∧ ([V.im q (ints lv)] = [V.im q (ints lv)] ∧ True ∧ True) ∧ ((0 = 0 ∧ ints keep = ints keep) ∧ True ∧ True ∧ EQn (sK) 0 64) ∧ True) ∧ Sat Try.prog none 0 (at' 15 [1, 1, 1, 1, 1, 1, 1, 1, 1, 1, 1, 1, 1, 1, 0, 1, 0]) (mkSt g0 209 (c6S keep 0 (opL z o u fv fp ft) c m F q lv ls (↑sz : Int) sK (0, []))) (outsP g0 209 [(True, Ex.exit 6, c6X keep 0 (opL z o u fv fp ft) c m F q lv ls (↑sz : Int) sK cl)]) ∧ (True → ((0 : Int) ≤ (↑sz : Int) ∧ (↑sz : Int) ≤ (↑sz : Int) ∧ (↑(16 : Nat) : Int) * (↑sz : Int) ≤ (281474976710656 : Int) ∧ (↑sz : Int) ≤ (9223372036854775807 : Int)) ∧ ((0 = 0 ∧ 0 = 0 ∧ 0 = 0 ∧ 0 = 0 ∧ (q = q ∧ ints ls = ints ls) ∧ 0 = 0 ∧ (↑sz : Int) = (↑sz : Int) ∧ (↑(0 : Nat) : Int) = (0 : Int) ∧ True) ∧ ([V.nils, V.nils, V.nils] = [V.nils, V.nils, V.nils] ∧ TT 3) ∧ (opL z o u fv fp ft = opL z o u fv fp ft ∧ TT 7) ∧ ([V.im m c] = [V.im m c] ∧ True ∧ True) ∧ (a64 F = a64 F ∧ TT 64) ∧ ([V.im q (ints lv)] = [V.im q (ints lv)] ∧ True ∧ True) ∧ ((0 = 0 ∧ ints keep = ints keep) ∧ (0 = 0 ∧ ints cl = ints cl) ∧ (0 = 0 ∧ sz = sz ∧ sz - sz = sz - sz) ∧ EQn (sK) 0 64) ∧ (elF (zF z 0) (fun x => (0 : Int)) sz = rep sz [i6 0, i6 0] ∧ HfL (elF (zF z 0) (fun x => (0 : Int)) sz)) ∧ True) ∧ Sat Try.prog none 0 (at' 15 [1, 1, 1, 1, 1, 1, 1, 1, 1, 1, 1, 1, 1, 1, 1, 1, 0, 1, 0]) (mkSt g0 209 (c8S keep 0 z o u fv fp ft c m F q lv ls sK cl sz 0)) (outsP g0 209 [(True, Ex.exit 8, c8X keep 0 z o u fv fp ft c m F q lv ls sK cl sz (elF (fun x => z) (fun x => (0 : Int)) sz))]) ∧ (True → (True ∧ True) ∧ FnOk Try.prog g0 42 [V.im q (ints ls)] (V.fn 72 [V.imp [V.im q (ints ls)]]) ∧ True ∧ ((0 = 0 ∧ 0 = 0 ∧ 0 = 0 ∧ 0 = 0 ∧ 0 = 0 ∧ ([V.im q (ints ls)] = [V.im q (ints ls)] ∧ True) ∧ True) ∧ ([V.nils, V.nils, V.nils] = [V.nils, V.nils, V.nils] ∧ TT 3) ∧ (opL z o u fv fp ft = opL z o u fv fp ft ∧ TT 7) ∧ ([V.im m c] = [V.im m c] ∧ True ∧ True) ∧ (a64 F = a64 F ∧ TT 64) ∧ ([V.im q (ints lv)] = [V.im q (ints lv)] ∧ True ∧ True) ∧ ((0 = 0 ∧ ints keep = ints keep) ∧ (0 = 0 ∧ ints cl = ints cl) ∧ (0 = 0 ∧ sz = sz ∧ sz - sz = sz - sz) ∧ EQn (sK) 0 64) ∧ (elF (fun x => z) (fun x => (0 : Int)) sz = elF (fun x => z) (fun x => (0 : Int)) sz ∧ HfL (elF (fun x => z) (fun x => (0 : Int)) sz)) ∧ True) ∧ Sat Try.prog none 0 (at' 15 [1, 1, 1, 1, 1, 1, 1, 1, 1, 1, 1, 1, 1, 1, 1, 1, 1, 0, 1, 0]) (mkSt g0 209 (rgSt keep 0 z o u fv fp ft c m F q lv ls sK cl sz (elF (fun x => z) (fun x => (0 : Int)) sz))) (outsP g0 209 [(True, Ex.normal, rgX keep 0 sK cl sz (elF wA wB sz))]) ∧ (True → ((0 = 0 ∧ 0 = 0 ∧ (sz = sz ∧ elF wA wB sz = elF wA wB sz) ∧ (↑sz : Int) = (↑sz : Int) ∧ (↑(0 : Nat) : Int) = (0 : Int) ∧ True) ∧ ([V.nils, V.nils, V.nils] = [V.nils, V.nils, V.nils] ∧ TT 3) ∧ (V.im 0 (ints keep) :: V.im 0 (ints cl) :: V.im sz (elF wA wB sz) :: a64 sK = V.im 0 (ints keep) :: V.im 0 (ints cl) :: V.im sz (elF wA wB sz) :: a64 sK ∧ TT 67) ∧ True) ∧ Sat Try.prog none 0 (at' 15 [1, 1, 1, 1, 1, 1, 1, 1, 1, 1, 1, 1, 1, 1, 1, 1, 1, 1, 0, 1, 0]) (mkSt g0 209 (seS keep 0 cl sz wA wB sK 0)) (outsP g0 209 [(true = true, Ex.exit 12, seX keep 0 cl sz wA wB sK), (true = false, Ex.ret, cBad (6 : Int))]) ∧ (true = true → (0 = 0 ∧ (0 : Int) = (0 : Int) ∧ True) ∧ ([V.im 0 (ints keep), V.im 0 (ints cl), V.im sz (elF wA wB sz)] = [V.im 0 (ints keep), V.im 0 (ints cl), V.im sz (elF wA wB sz)] ∧ TT 3) ∧ True) ∧ (true = false → (0 = 0 ∧ (0 : Int) = (6 : Int) ∧ True) ∧ ([V.im 0 (ints keep), V.im 0 (ints cl), V.im sz (elF wA wB sz)] = [V.nils, V.nils, V.nils] ∧ TT 3) ∧ True) ∧ True) ∧ True) ∧ True) ∧ True) ∧ True) ∧ True) ∧ (gd = false → (0 = 0 ∧ (0 : Int) = (41 : Int) ∧ True) ∧ ([V.im 0 (ints keep), V.im 0 (ints cl), V.im sz (elF wA wB sz)] = [V.nils, V.nils, V.nils] ∧ TT 3) ∧ True) ∧ True) = _) ?_
  (repeat' (first | (with_reducible apply And.intro) | (refine fun (_ : True) => ?_))) <;> first | exact aq | skip
  all_goals first | exact hcr0.trans hr.symm | (intro h9; rw [hgd] at h9; exact absurd h9 (by decide)) | (intro h9; (repeat' (first | (with_reducible apply And.intro) | (refine fun (_ : True) => ?_))); all_goals first | exact aq | exact hwi | exact hsrc _ | exact l4 | exact l6 | exact l8 | exact l9 | exact l10 | exact hz0 | exact hz0.symm | rfl | (intro h8; exact absurd h8 (by decide)) | (intro h8; (repeat' (first | (with_reducible apply And.intro) | (refine fun (_ : True) => ?_))); all_goals first | exact aq | rfl | skip) | skip) | skip
theorem com_big1 (kd : Int) (keep : List Int) (n : Nat) (hn : n + 1 = keep.length) (z o u : Int) (fv fp ft : Nat) (VS CS : Nat → List Int) (A B : Nat → Nat → Int) (N : Nat → Nat) (m : Nat) (F : Nat → Int) (q : Nat) (lv ls cl : List Int) (hcl : cl.length = n + 1) (sK : Nat → Int) (sz P : Nat) (at_ : Nat → Nat) (pA pB : Nat → Int) (WA WB : Nat → Nat → Int) (wp wq : Nat → Int)
    (hE : EndOk kd keep (n + 1) z o u fv fp ft VS CS A B N m F q lv ls cl sK sz P at_ pA pB WA WB wp wq) (hf : fitA (WA P) (WB P) sz = false) : FnOk Pg g0 15 [i6 kd, .im m (blF (tbF VS CS A B N) m), .im (n + 1) (ints keep)] (.tup [t0V, i6 6]) := by
  have hch := hE.ch
  have l0 := hE.l0
  have htg := hE.tg
  have hwi := hE.wi
  have l2 := hE.l2
  have hic := hE.ic
  have l4 := hE.l4
  have l6 := hE.l6
  have hm := hE.m12
  have hn5 := hE.n5
  have hz := hE.szb
  have hL := HfL_blF (HfL_tbF VS CS A B N) m
  have hL2 := HfL_blF (HfL_tab VS CS A B N) m
  have hR := HfL_blF (HfL_rdF VS CS A B N 0) m
  have hr := rdF_rep VS CS A B N m
  have hF := HfL_a64 F
  have hS := HfL_a64 sK
  have hls := HfL_ints ls
  have hlv := HfL_ints lv
  have hkp := HfL_ints keep
  have hcl2 := HfL_ints cl
  have hcb := combs_fn ls q
  have l9 := com_range kd keep (n + 1) z o u fv fp ft (blF (tab VS CS A B N) m) hL2 m F q lv ls sK cl sz P hE.szb at_ pA pB WA WB wp wq hE.lsl hE.q12 hE.lsb hE.Pe hE.P0 hE.rnd
  rw [hE.W0.1, hE.W0.2] at l9
  have l8 := com_zeros keep (n + 1) z o u fv fp ft (blF (tab VS CS A B N) m) hL2 m F q lv ls sK cl sz hE.szb
  have l10 := com_settle keep (n + 1) cl sz (WA P) (WB P) sK hE.szb
  have hz0 := rep_elF sz
  have hz1 : elF (zF z 0) (fun _ => 0) sz = elF (fun _ => 0) (fun _ => 0) sz := rfl
  have hW := HfL_elF (WA P) (WB P) sz
  have hWz := HfL_elF (fun _ => z) (fun _ => 0) sz
  have hW0 := HfL_elF (zF z 0) (fun _ => 0) sz
  have hsrc : ∀ H' : T O, srcV H' 1 (.im keep.length (ints keep)) = some (keep.length, ints keep) := fun H' => by
    unfold srcV
    dsimp only
    rw [ints_length, Nat.mul_one, show Nat.ble keep.length keep.length = true from Nat.ble_eq_true_of_le (Nat.le_refl _), cond_true, List.take_of_length_le (by rw [ints_length]; omega)]
  have hgd := hE.good
  clear hE
  rw [← hn] at hsrc
  rw [hf] at l10
  generalize goodA kd VS CS A B N m = gd at *
  generalize blF (tbF VS CS A B N) m = cT at *
  generalize hcc : blF (tab VS CS A B N) m = c at *
  generalize hcr : (fun k => blF (rdF VS CS A B N k) m) = cR at *
  have hcr0 : cR 0 = blF (rdF VS CS A B N 0) m := by rw [← hcr]
  generalize WA P = wA at *
  generalize WB P = wB at *
  refine FnOk.of_vc vE_ok mixed sp0_ok (n := 1000) (r := [0]) (S := S0 6) (hs := h1 keep (n + 1) z o u fv fp ft cT cR c gd m F q lv ls ++ [(103, .an (n + 1) (ints keep)), nu 108 (n : Nat), (0, .loop [0, 1, 2, 3, 4, 6] (c4M keep (n + 1) z o u fv fp ft c m F q lv ls) [(True, .exit 4, c4X keep (n + 1) (opL z o u fv fp ft) c m F q lv ls (sz : Int) sK)])] ++ h2 keep (n + 1) z o u fv fp ft c m F q lv ls cl sK sz wA wB false) ?_
  refine Eq.mp (by kernel_rfl : (V.tup [V.agg [V.im 0 [], V.im 0 [], V.im 0 []], i6 6] = V.tup [t0V, i6 6] ∧ (True ∧ True) ∧ FnOk Try.prog g0 37 [i6 kd] (V.tup [opV z o u fv fp ft, i6 0]) ∧ True ∧ decide ((↑m : Int) > (12 : Int)) = false ∧ ((0 : Int) ≤ (↑m : Int) ∧ (↑m : Int) ≤ (↑m : Int) ∧ (↑(584 : Nat) : Int) * (↑m : Int) ≤ (281474976710656 : Int) ∧ (↑m : Int) ≤ (9223372036854775807 : Int)) ∧ (((n + 1 = n + 1 ∧ ints keep = ints keep) ∧ 0 = 0 ∧ 0 = 0 ∧ 0 = 0 ∧ (m = m ∧ cT = cT) ∧ (↑m : Int) = (↑m : Int) ∧ (↑(0 : Nat) : Int) = (0 : Int) ∧ True) ∧ ([V.nils, V.nils, V.nils] = [V.nils, V.nils, V.nils] ∧ TT 3) ∧ (opL z o u fv fp ft = [i6 z, i6 0, i6 o, i6 u, V.fn fv [], V.fn fp [], V.fn ft []] ∧ TT 7) ∧ (cR 0 = rep m zT ∧ HfL (cR 0)) ∧ ((0 = 0 ∧ m = m ∧ m - m = m - m) ∧ True) ∧ True) ∧ Sat Try.prog none 0 (at' 15 [1, 1, 1, 1, 1, 0, 1, 0]) (mkSt g0 209 (c0S keep (n + 1) z o u fv fp ft cT cR m 0)) (outsP g0 209 [(gd = true, Ex.exit 0, c0X keep (n + 1) z o u fv fp ft c m), (gd = false, Ex.ret, cBad (41 : Int))]) ∧ (gd = true → (True ∧ True) ∧ FnOk Try.prog g0 39 [V.im m c] (V.tup [V.agg (a64 F), V.bool true]) ∧ True ∧ ((TT 64) ∧ True ∧ True) ∧ FnOk Try.prog g0 40 [V.agg (a64 (F)), V.im (n + 1) (ints keep)] (V.bool true) ∧ True ∧ (((n + 1 = n + 1 ∧ ints keep = ints keep) ∧ 0 = 0 ∧ 0 = 0 ∧ 0 = 0 ∧ 0 = 0 ∧ 0 = 0 ∧ True ∧ (EQn (F) 0 64) ∧ (↑(0 : Nat) : Int) = (0 : Int) ∧ True) ∧ ([V.nils, V.nils, V.nils] = [V.nils, V.nils, V.nils] ∧ TT 3) ∧ (opL z o u fv fp ft = opL z o u fv fp ft ∧ TT 7) ∧ ([V.im m c] = [V.im m c] ∧ True ∧ True) ∧ (a64 F = (a64 (F)) ∧ TT 64) ∧ (True ∧ True) ∧ True) ∧ Sat Try.prog none 0 (at' 15 [1, 1, 1, 1, 1, 1, 1, 1, 1, 0, 1, 0]) (mkSt g0 209 (c2S keep (n + 1) (opL z o u fv fp ft) c m F (0, 0, [], []))) (outsP g0 209 [(True, Ex.exit 2, c2X keep (n + 1) (opL z o u fv fp ft) c m F q lv ls)]) ∧ (True → (True ∧ True) ∧ FnOk Try.prog g0 41 [V.im q (ints ls)] (i6 0) ∧ True ∧ (srcV (ofOs T.e 0 [r3, O.row 79 none (opL z o u fv fp ft), O.row 82 none [V.im m c], O.row 83 none (a64 F), O.row 29 none [V.im q (ints lv)]]) 1 (V.im (n + 1) (ints keep)) = some (n + 1, ints keep) ∧ n + 1 ≤ 9223372036854775807 ∧ (n + 1) * 8 ≤ 140737488355328) ∧ wr IntKind.i64 ((↑(n + 1) : Int) - (1 : Int)) = (↑n : Int) ∧ (((n + 1 = n + 1 ∧ ints keep = ints keep) ∧ 0 = 0 ∧ 0 = 0 ∧ 0 = 0 ∧ 0 = 0 ∧ 0 = 0 ∧ (q = q ∧ ints ls = ints ls) ∧ 0 = 0 ∧ sufK F keep (n + 1) 0 = (1 : Int) ∧ (↑(n + 1 - 0) : Int) - (1 : Int) = (↑n : Int) ∧ True) ∧ ([V.nils, V.nils, V.nils] = [V.nils, V.nils, V.nils] ∧ TT 3) ∧ (opL z o u fv fp ft = opL z o u fv fp ft ∧ TT 7) ∧ ([V.im m c] = [V.im m c] ∧ True ∧ True) ∧ (a64 F = a64 F ∧ TT 64) ∧ ([V.im q (ints lv)] = [V.im q (ints lv)] ∧ True ∧ True) ∧ ((n + 1 = n + 1 ∧ ints keep = ints keep ∧ HfL (ints keep)) ∧ True ∧ True ∧ stK F keep (n + 1) 0 0 = (0 : Int) ∧ stK F keep (n + 1) 0 1 = (0 : Int) ∧ stK F keep (n + 1) 0 2 = (0 : Int) ∧ stK F keep (n + 1) 0 3 = (0 : Int) ∧ stK F keep (n + 1) 0 4 = (0 : Int) ∧ stK F keep (n + 1) 0 5 = (0 : Int) ∧ stK F keep (n + 1) 0 6 = (0 : Int) ∧ stK F keep (n + 1) 0 7 = (0 : Int) ∧ stK F keep (n + 1) 0 8 = (0 : Int) ∧ stK F keep (n + 1) 0 9 = (0 : Int) ∧ stK F keep (n + 1) 0 10 = (0 : Int) ∧ stK F keep (n + 1) 0 11 = (0 : Int) ∧ stK F keep (n + 1) 0 12 = (0 : Int) ∧ stK F keep (n + 1) 0 13 = (0 : Int) ∧ stK F keep (n + 1) 0 14 = (0 : Int) ∧ stK F keep (n + 1) 0 15 = (0 : Int) ∧ stK F keep (n + 1) 0 16 = (0 : Int) ∧ stK F keep (n + 1) 0 17 = (0 : Int) ∧ stK F keep (n + 1) 0 18 = (0 : Int) ∧ stK F keep (n + 1) 0 19 = (0 : Int) ∧ stK F keep (n + 1) 0 20 = (0 : Int) ∧ stK F keep (n + 1) 0 21 = (0 : Int) ∧ stK F keep (n + 1) 0 22 = (0 : Int) ∧ stK F keep (n + 1) 0 23 = (0 : Int) ∧ stK F keep (n + 1) 0 24 = (0 : Int) ∧ stK F keep (n + 1) 0 25 = (0 : Int) ∧ stK F keep (n + 1) 0 26 = (0 : Int) ∧ stK F keep (n + 1) 0 27 = (0 : Int) ∧ stK F keep (n + 1) 0 28 = (0 : Int) ∧ stK F keep (n + 1) 0 29 = (0 : Int) ∧ stK F keep (n + 1) 0 30 = (0 : Int) ∧ stK F keep (n + 1) 0 31 = (0 : Int) ∧ stK F keep (n + 1) 0 32 = (0 : Int) ∧ stK F keep (n + 1) 0 33 = (0 : Int) ∧ stK F keep (n + 1) 0 34 = (0 : Int) ∧ stK F keep (n + 1) 0 35 = (0 : Int) ∧ stK F keep (n + 1) 0 36 = (0 : Int) ∧ stK F keep (n + 1) 0 37 = (0 : Int) ∧ stK F keep (n + 1) 0 38 = (0 : Int) ∧ stK F keep (n + 1) 0 39 = (0 : Int) ∧ stK F keep (n + 1) 0 40 = (0 : Int) ∧ stK F keep (n + 1) 0 41 = (0 : Int) ∧ stK F keep (n + 1) 0 42 = (0 : Int) ∧ stK F keep (n + 1) 0 43 = (0 : Int) ∧ stK F keep (n + 1) 0 44 = (0 : Int) ∧ stK F keep (n + 1) 0 45 = (0 : Int) ∧ stK F keep (n + 1) 0 46 = (0 : Int) ∧ stK F keep (n + 1) 0 47 = (0 : Int) ∧ stK F keep (n + 1) 0 48 = (0 : Int) ∧ stK F keep (n + 1) 0 49 = (0 : Int) ∧ stK F keep (n + 1) 0 50 = (0 : Int) ∧ stK F keep (n + 1) 0 51 = (0 : Int) ∧ stK F keep (n + 1) 0 52 = (0 : Int) ∧ stK F keep (n + 1) 0 53 = (0 : Int) ∧ stK F keep (n + 1) 0 54 = (0 : Int) ∧ stK F keep (n + 1) 0 55 = (0 : Int) ∧ stK F keep (n + 1) 0 56 = (0 : Int) ∧ stK F keep (n + 1) 0 57 = (0 : Int) ∧ stK F keep (n + 1) 0 58 = (0 : Int) ∧ stK F keep (n + 1) 0 59 = (0 : Int) ∧ stK F keep (n + 1) 0 60 = (0 : Int) ∧ stK F keep (n + 1) 0 61 = (0 : Int) ∧ stK F keep (n + 1) 0 62 = (0 : Int) ∧ stK F keep (n + 1) 0 63 = (0 : Int) ∧ True) ∧ True) ∧ Sat Try.prog none 0 (at' 15 [1, 1, 1, 1, 1, 1, 1, 1, 1, 1, 1, 1, 1, 0, 1, 0]) (mkSt g0 209 (c4M keep (n + 1) z o u fv fp ft c m F q lv ls)) (outsP g0 209 [(True, Ex.exit 4, c4X keep (n + 1) (opL z o u fv fp ft) c m F q lv ls (↑sz : Int) sK)]) ∧ (True → (((n + 1 = n + 1 ∧ ints keep = ints keep) ∧ 0 = 0 ∧ 0 = 0 ∧ 0 = 0 ∧ 0 = 0 ∧ 0 = 0 ∧ (q = q ∧ ints ls = ints ls) ∧ 0 = 0 ∧ (↑sz : Int) = (↑sz : Int) ∧ (n + 1 = n + 1 ∧ ints keep = ints keep) ∧ (↑(n + 1) : Int) = (↑(n + 1) : Int) ∧ (↑(0 : Nat) : Int) = (0 : Int) ∧ True) ∧ ([V.nils, V.nils, V.nils] = [V.nils, V.nils, V.nils] ∧ TT 3) ∧ (opL z o u fv fp ft = opL z o u fv fp ft ∧ TT 7) ∧ ([V.im m c] = [V.im m c] ∧ True ∧ True) ∧ (a64 F = a64 F ∧ TT 64) ∧ ([V.im q (ints lv)] = [V.im q (ints lv)] ∧ True ∧ True) ∧ ((n + 1 = n + 1 ∧ ints keep = ints keep) ∧ True ∧ True ∧ EQn (sK) 0 64) ∧ True) ∧ Sat Try.prog none 0 (at' 15 [1, 1, 1, 1, 1, 1, 1, 1, 1, 1, 1, 1, 1, 1, 0, 1, 0]) (mkSt g0 209 (c6S keep (n + 1) (opL z o u fv fp ft) c m F q lv ls (↑sz : Int) sK (0, []))) (outsP g0 209 [(True, Ex.exit 6, c6X keep (n + 1) (opL z o u fv fp ft) c m F q lv ls (↑sz : Int) sK cl)]) ∧ (True → ((0 : Int) ≤ (↑sz : Int) ∧ (↑sz : Int) ≤ (↑sz : Int) ∧ (↑(16 : Nat) : Int) * (↑sz : Int) ≤ (281474976710656 : Int) ∧ (↑sz : Int) ≤ (9223372036854775807 : Int)) ∧ ((0 = 0 ∧ 0 = 0 ∧ 0 = 0 ∧ 0 = 0 ∧ (q = q ∧ ints ls = ints ls) ∧ 0 = 0 ∧ (↑sz : Int) = (↑sz : Int) ∧ (↑(0 : Nat) : Int) = (0 : Int) ∧ True) ∧ ([V.nils, V.nils, V.nils] = [V.nils, V.nils, V.nils] ∧ TT 3) ∧ (opL z o u fv fp ft = opL z o u fv fp ft ∧ TT 7) ∧ ([V.im m c] = [V.im m c] ∧ True ∧ True) ∧ (a64 F = a64 F ∧ TT 64) ∧ ([V.im q (ints lv)] = [V.im q (ints lv)] ∧ True ∧ True) ∧ ((n + 1 = n + 1 ∧ ints keep = ints keep) ∧ (n + 1 = n + 1 ∧ ints cl = ints cl) ∧ (0 = 0 ∧ sz = sz ∧ sz - sz = sz - sz) ∧ EQn (sK) 0 64) ∧ (elF (zF z 0) (fun x => (0 : Int)) sz = rep sz [i6 0, i6 0] ∧ HfL (elF (zF z 0) (fun x => (0 : Int)) sz)) ∧ True) ∧ Sat Try.prog none 0 (at' 15 [1, 1, 1, 1, 1, 1, 1, 1, 1, 1, 1, 1, 1, 1, 1, 1, 0, 1, 0]) (mkSt g0 209 (c8S keep (n + 1) z o u fv fp ft c m F q lv ls sK cl sz 0)) (outsP g0 209 [(True, Ex.exit 8, c8X keep (n + 1) z o u fv fp ft c m F q lv ls sK cl sz (elF (fun x => z) (fun x => (0 : Int)) sz))]) ∧ (True → (True ∧ True) ∧ FnOk Try.prog g0 42 [V.im q (ints ls)] (V.fn 72 [V.imp [V.im q (ints ls)]]) ∧ True ∧ ((0 = 0 ∧ 0 = 0 ∧ 0 = 0 ∧ 0 = 0 ∧ 0 = 0 ∧ ([V.im q (ints ls)] = [V.im q (ints ls)] ∧ True) ∧ True) ∧ ([V.nils, V.nils, V.nils] = [V.nils, V.nils, V.nils] ∧ TT 3) ∧ (opL z o u fv fp ft = opL z o u fv fp ft ∧ TT 7) ∧ ([V.im m c] = [V.im m c] ∧ True ∧ True) ∧ (a64 F = a64 F ∧ TT 64) ∧ ([V.im q (ints lv)] = [V.im q (ints lv)] ∧ True ∧ True) ∧ ((n + 1 = n + 1 ∧ ints keep = ints keep) ∧ (n + 1 = n + 1 ∧ ints cl = ints cl) ∧ (0 = 0 ∧ sz = sz ∧ sz - sz = sz - sz) ∧ EQn (sK) 0 64) ∧ (elF (fun x => z) (fun x => (0 : Int)) sz = elF (fun x => z) (fun x => (0 : Int)) sz ∧ HfL (elF (fun x => z) (fun x => (0 : Int)) sz)) ∧ True) ∧ Sat Try.prog none 0 (at' 15 [1, 1, 1, 1, 1, 1, 1, 1, 1, 1, 1, 1, 1, 1, 1, 1, 1, 0, 1, 0]) (mkSt g0 209 (rgSt keep (n + 1) z o u fv fp ft c m F q lv ls sK cl sz (elF (fun x => z) (fun x => (0 : Int)) sz))) (outsP g0 209 [(True, Ex.normal, rgX keep (n + 1) sK cl sz (elF wA wB sz))]) ∧ (True → ((0 = 0 ∧ 0 = 0 ∧ (sz = sz ∧ elF wA wB sz = elF wA wB sz) ∧ (↑sz : Int) = (↑sz : Int) ∧ (↑(0 : Nat) : Int) = (0 : Int) ∧ True) ∧ ([V.nils, V.nils, V.nils] = [V.nils, V.nils, V.nils] ∧ TT 3) ∧ (V.im (n + 1) (ints keep) :: V.im (n + 1) (ints cl) :: V.im sz (elF wA wB sz) :: a64 sK = V.im (n + 1) (ints keep) :: V.im (n + 1) (ints cl) :: V.im sz (elF wA wB sz) :: a64 sK ∧ TT 67) ∧ True) ∧ Sat Try.prog none 0 (at' 15 [1, 1, 1, 1, 1, 1, 1, 1, 1, 1, 1, 1, 1, 1, 1, 1, 1, 1, 0, 1, 0]) (mkSt g0 209 (seS keep (n + 1) cl sz wA wB sK 0)) (outsP g0 209 [(false = true, Ex.exit 12, seX keep (n + 1) cl sz wA wB sK), (false = false, Ex.ret, cBad (6 : Int))]) ∧ (false = true → (0 = 0 ∧ (6 : Int) = (0 : Int) ∧ True) ∧ ((0 = n + 1 ∧ [] = ints keep) ∧ (0 = n + 1 ∧ [] = ints cl) ∧ (0 = sz ∧ [] = elF wA wB sz) ∧ True) ∧ True) ∧ (false = false → (0 = 0 ∧ (6 : Int) = (6 : Int) ∧ True) ∧ (0 = 0 ∧ 0 = 0 ∧ 0 = 0 ∧ True) ∧ True) ∧ True) ∧ True) ∧ True) ∧ True) ∧ True) ∧ True) ∧ (gd = false → (0 = 0 ∧ (6 : Int) = (41 : Int) ∧ True) ∧ (0 = 0 ∧ 0 = 0 ∧ 0 = 0 ∧ True) ∧ True) ∧ True) = _) ?_
  (repeat' (first | (with_reducible apply And.intro) | (refine fun (_ : True) => ?_))) <;> first | exact aq | skip
  all_goals first | exact hcr0.trans hr.symm | (intro h9; rw [hgd] at h9; exact absurd h9 (by decide)) | (intro h9; (repeat' (first | (with_reducible apply And.intro) | (refine fun (_ : True) => ?_))); all_goals first | exact aq | exact hwi | exact hsrc _ | exact l4 | exact l6 | exact l8 | exact l9 | exact l10 | exact hz0 | exact hz0.symm | rfl | (intro h8; exact absurd h8 (by decide)) | (intro h8; (repeat' (first | (with_reducible apply And.intro) | (refine fun (_ : True) => ?_))); all_goals first | exact aq | rfl | skip) | skip) | skip
theorem com_big0 (kd : Int) (keep : List Int) (hn : 0 = keep.length) (z o u : Int) (fv fp ft : Nat) (VS CS : Nat → List Int) (A B : Nat → Nat → Int) (N : Nat → Nat) (m : Nat) (F : Nat → Int) (q : Nat) (lv ls cl : List Int) (hcl : cl.length = 0) (sK : Nat → Int) (sz P : Nat) (at_ : Nat → Nat) (pA pB : Nat → Int) (WA WB : Nat → Nat → Int) (wp wq : Nat → Int)
    (hE : EndOk kd keep 0 z o u fv fp ft VS CS A B N m F q lv ls cl sK sz P at_ pA pB WA WB wp wq) (hf : fitA (WA P) (WB P) sz = false) : FnOk Pg g0 15 [i6 kd, .im m (blF (tbF VS CS A B N) m), .im 0 (ints keep)] (.tup [t0V, i6 6]) := by
  have hch := hE.ch
  have l0 := hE.l0
  have htg := hE.tg
  have hwi := hE.wi
  have l2 := hE.l2
  have hic := hE.ic
  have l4 := hE.l4
  have l6 := hE.l6
  have hm := hE.m12
  have hn5 := hE.n5
  have hz := hE.szb
  have hL := HfL_blF (HfL_tbF VS CS A B N) m
  have hL2 := HfL_blF (HfL_tab VS CS A B N) m
  have hR := HfL_blF (HfL_rdF VS CS A B N 0) m
  have hr := rdF_rep VS CS A B N m
  have hF := HfL_a64 F
  have hS := HfL_a64 sK
  have hls := HfL_ints ls
  have hlv := HfL_ints lv
  have hkp := HfL_ints keep
  have hcl2 := HfL_ints cl
  have hcb := combs_fn ls q
  have l9 := com_range kd keep 0 z o u fv fp ft (blF (tab VS CS A B N) m) hL2 m F q lv ls sK cl sz P hE.szb at_ pA pB WA WB wp wq hE.lsl hE.q12 hE.lsb hE.Pe hE.P0 hE.rnd
  rw [hE.W0.1, hE.W0.2] at l9
  have l8 := com_zeros keep 0 z o u fv fp ft (blF (tab VS CS A B N) m) hL2 m F q lv ls sK cl sz hE.szb
  have l10 := com_settle keep 0 cl sz (WA P) (WB P) sK hE.szb
  have hz0 := rep_elF sz
  have hz1 : elF (zF z 0) (fun _ => 0) sz = elF (fun _ => 0) (fun _ => 0) sz := rfl
  have hW := HfL_elF (WA P) (WB P) sz
  have hWz := HfL_elF (fun _ => z) (fun _ => 0) sz
  have hW0 := HfL_elF (zF z 0) (fun _ => 0) sz
  have hsrc : ∀ H' : T O, srcV H' 1 (.im keep.length (ints keep)) = some (keep.length, ints keep) := fun H' => by
    unfold srcV
    dsimp only
    rw [ints_length, Nat.mul_one, show Nat.ble keep.length keep.length = true from Nat.ble_eq_true_of_le (Nat.le_refl _), cond_true, List.take_of_length_le (by rw [ints_length]; omega)]
  have hgd := hE.good
  clear hE
  rw [← hn] at hsrc
  rw [hf] at l10
  generalize goodA kd VS CS A B N m = gd at *
  generalize blF (tbF VS CS A B N) m = cT at *
  generalize hcc : blF (tab VS CS A B N) m = c at *
  generalize hcr : (fun k => blF (rdF VS CS A B N k) m) = cR at *
  have hcr0 : cR 0 = blF (rdF VS CS A B N 0) m := by rw [← hcr]
  generalize WA P = wA at *
  generalize WB P = wB at *
  refine FnOk.of_vc vE_ok mixed sp0_ok (n := 1000) (r := [0]) (S := S0 6) (hs := h1 keep 0 z o u fv fp ft cT cR c gd m F q lv ls ++ [(0, .loop [0, 1, 2, 3, 4, 5] (c4M keep 0 z o u fv fp ft c m F q lv ls) [(True, .exit 4, c4X keep 0 (opL z o u fv fp ft) c m F q lv ls (sz : Int) sK)])] ++ h2 keep 0 z o u fv fp ft c m F q lv ls cl sK sz wA wB false) ?_
  refine Eq.mp (by kernel_rfl : (V.tup [V.agg [V.im 0 [], V.im 0 [], V.im 0 []], i6 6] = V.tup [t0V, i6 6] ∧ (True ∧ True) ∧ FnOk Try.prog g0 37 [i6 kd] (V.tup [opV z o u fv fp ft, i6 0]) ∧ True ∧ decide ((↑m : Int) > (12 : Int)) = false ∧ ((0 : Int) ≤ (↑m : Int) ∧ (↑m : Int) ≤ (↑m : Int) ∧ (↑(584 : Nat) : Int) * (↑m : Int) ≤ (281474976710656 : Int) ∧ (↑m : Int) ≤ (9223372036854775807 : Int)) ∧ (((0 = 0 ∧ ints keep = ints keep) ∧ 0 = 0 ∧ 0 = 0 ∧ 0 = 0 ∧ (m = m ∧ cT = cT) ∧ (↑m : Int) = (↑m : Int) ∧ (↑(0 : Nat) : Int) = (0 : Int) ∧ True) ∧ ([V.nils, V.nils, V.nils] = [V.nils, V.nils, V.nils] ∧ TT 3) ∧ (opL z o u fv fp ft = [i6 z, i6 0, i6 o, i6 u, V.fn fv [], V.fn fp [], V.fn ft []] ∧ TT 7) ∧ (cR 0 = rep m zT ∧ HfL (cR 0)) ∧ ((0 = 0 ∧ m = m ∧ m - m = m - m) ∧ True) ∧ True) ∧ Sat Try.prog none 0 (at' 15 [1, 1, 1, 1, 1, 0, 1, 0]) (mkSt g0 209 (c0S keep 0 z o u fv fp ft cT cR m 0)) (outsP g0 209 [(gd = true, Ex.exit 0, c0X keep 0 z o u fv fp ft c m), (gd = false, Ex.ret, cBad (41 : Int))]) ∧ (gd = true → (True ∧ True) ∧ FnOk Try.prog g0 39 [V.im m c] (V.tup [V.agg (a64 F), V.bool true]) ∧ True ∧ ((TT 64) ∧ True ∧ True) ∧ FnOk Try.prog g0 40 [V.agg (a64 (F)), V.im 0 (ints keep)] (V.bool true) ∧ True ∧ (((0 = 0 ∧ ints keep = ints keep) ∧ 0 = 0 ∧ 0 = 0 ∧ 0 = 0 ∧ 0 = 0 ∧ 0 = 0 ∧ True ∧ (EQn (F) 0 64) ∧ (↑(0 : Nat) : Int) = (0 : Int) ∧ True) ∧ ([V.nils, V.nils, V.nils] = [V.nils, V.nils, V.nils] ∧ TT 3) ∧ (opL z o u fv fp ft = opL z o u fv fp ft ∧ TT 7) ∧ ([V.im m c] = [V.im m c] ∧ True ∧ True) ∧ (a64 F = (a64 (F)) ∧ TT 64) ∧ (True ∧ True) ∧ True) ∧ Sat Try.prog none 0 (at' 15 [1, 1, 1, 1, 1, 1, 1, 1, 1, 0, 1, 0]) (mkSt g0 209 (c2S keep 0 (opL z o u fv fp ft) c m F (0, 0, [], []))) (outsP g0 209 [(True, Ex.exit 2, c2X keep 0 (opL z o u fv fp ft) c m F q lv ls)]) ∧ (True → (True ∧ True) ∧ FnOk Try.prog g0 41 [V.im q (ints ls)] (i6 0) ∧ True ∧ (((0 = 0 ∧ ints keep = ints keep) ∧ 0 = 0 ∧ 0 = 0 ∧ 0 = 0 ∧ 0 = 0 ∧ 0 = 0 ∧ (q = q ∧ ints ls = ints ls) ∧ 0 = 0 ∧ sufK F keep 0 0 = (1 : Int) ∧ (↑(0 - 0) : Int) - (1 : Int) = wr IntKind.i64 ((↑(0 : Nat) : Int) - (1 : Int)) ∧ True) ∧ ([V.nils, V.nils, V.nils] = [V.nils, V.nils, V.nils] ∧ TT 3) ∧ (opL z o u fv fp ft = opL z o u fv fp ft ∧ TT 7) ∧ ([V.im m c] = [V.im m c] ∧ True ∧ True) ∧ (a64 F = a64 F ∧ TT 64) ∧ ([V.im q (ints lv)] = [V.im q (ints lv)] ∧ True ∧ True) ∧ (0 = 0 ∧ True ∧ True ∧ stK F keep 0 0 0 = (0 : Int) ∧ stK F keep 0 0 1 = (0 : Int) ∧ stK F keep 0 0 2 = (0 : Int) ∧ stK F keep 0 0 3 = (0 : Int) ∧ stK F keep 0 0 4 = (0 : Int) ∧ stK F keep 0 0 5 = (0 : Int) ∧ stK F keep 0 0 6 = (0 : Int) ∧ stK F keep 0 0 7 = (0 : Int) ∧ stK F keep 0 0 8 = (0 : Int) ∧ stK F keep 0 0 9 = (0 : Int) ∧ stK F keep 0 0 10 = (0 : Int) ∧ stK F keep 0 0 11 = (0 : Int) ∧ stK F keep 0 0 12 = (0 : Int) ∧ stK F keep 0 0 13 = (0 : Int) ∧ stK F keep 0 0 14 = (0 : Int) ∧ stK F keep 0 0 15 = (0 : Int) ∧ stK F keep 0 0 16 = (0 : Int) ∧ stK F keep 0 0 17 = (0 : Int) ∧ stK F keep 0 0 18 = (0 : Int) ∧ stK F keep 0 0 19 = (0 : Int) ∧ stK F keep 0 0 20 = (0 : Int) ∧ stK F keep 0 0 21 = (0 : Int) ∧ stK F keep 0 0 22 = (0 : Int) ∧ stK F keep 0 0 23 = (0 : Int) ∧ stK F keep 0 0 24 = (0 : Int) ∧ stK F keep 0 0 25 = (0 : Int) ∧ stK F keep 0 0 26 = (0 : Int) ∧ stK F keep 0 0 27 = (0 : Int) ∧ stK F keep 0 0 28 = (0 : Int) ∧ stK F keep 0 0 29 = (0 : Int) ∧ stK F keep 0 0 30 = (0 : Int) ∧ stK F keep 0 0 31 = (0 : Int) ∧ stK F keep 0 0 32 = (0 : Int) ∧ stK F keep 0 0 33 = (0 : Int) ∧ stK F keep 0 0 34 = (0 : Int) ∧ stK F keep 0 0 35 = (0 : Int) ∧ stK F keep 0 0 36 = (0 : Int) ∧ stK F keep 0 0 37 = (0 : Int) ∧ stK F keep 0 0 38 = (0 : Int) ∧ stK F keep 0 0 39 = (0 : Int) ∧ stK F keep 0 0 40 = (0 : Int) ∧ stK F keep 0 0 41 = (0 : Int) ∧ stK F keep 0 0 42 = (0 : Int) ∧ stK F keep 0 0 43 = (0 : Int) ∧ stK F keep 0 0 44 = (0 : Int) ∧ stK F keep 0 0 45 = (0 : Int) ∧ stK F keep 0 0 46 = (0 : Int) ∧ stK F keep 0 0 47 = (0 : Int) ∧ stK F keep 0 0 48 = (0 : Int) ∧ stK F keep 0 0 49 = (0 : Int) ∧ stK F keep 0 0 50 = (0 : Int) ∧ stK F keep 0 0 51 = (0 : Int) ∧ stK F keep 0 0 52 = (0 : Int) ∧ stK F keep 0 0 53 = (0 : Int) ∧ stK F keep 0 0 54 = (0 : Int) ∧ stK F keep 0 0 55 = (0 : Int) ∧ stK F keep 0 0 56 = (0 : Int) ∧ stK F keep 0 0 57 = (0 : Int) ∧ stK F keep 0 0 58 = (0 : Int) ∧ stK F keep 0 0 59 = (0 : Int) ∧ stK F keep 0 0 60 = (0 : Int) ∧ stK F keep 0 0 61 = (0 : Int) ∧ stK F keep 0 0 62 = (0 : Int) ∧ stK F keep 0 0 63 = (0 : Int) ∧ True) ∧ True) ∧ Sat Try.prog none 0 (at' 15 [1, 1, 1, 1, 1, 1, 1, 1, 1, 1, 1, 1, 1, 0, 1, 0]) (mkSt g0 209 (c4M keep 0 z o u fv fp ft c m F q lv ls)) (outsP g0 209 [(True, Ex.exit 4, c4X keep 0 (opL z o u fv fp ft) c m F q lv ls (↑sz : Int) sK)]) ∧ (True → (((0 = 0 ∧ ints keep = ints keep) ∧ 0 = 0 ∧ 0 = 0 ∧ 0 = 0 ∧ 0 = 0 ∧ 0 = 0 ∧ (q = q ∧ ints ls = ints ls) ∧ 0 = 0 ∧ (↑sz : Int) = (↑sz : Int) ∧ (0 = 0 ∧ ints keep = ints keep) ∧ (↑(0 : Nat) : Int) = (↑(0 : Nat) : Int) ∧ (↑(0 : Nat) : Int) = (0 : Int) ∧ True) ∧ ([V.nils, V.nils, V.nils] = [V.nils, V.nils, V.nils] ∧ TT 3) ∧ (opL z o u fv fp ft = opL z o u fv fp ft ∧ TT 7) ∧ ([V.im m c] = [V.im m c] ∧ True ∧ True) ∧ (a64 F = a64 F ∧ TT 64) ∧ ([V.im q (ints lv)] = [V.im q (ints lv)] ∧ True ∧ True) ∧ ((0 = 0 ∧ ints keep = ints keep) ∧ True ∧ True ∧ EQn (sK) 0 64) ∧ True) ∧ Sat Try.prog none 0 (at' 15 [1, 1, 1, 1, 1, 1, 1, 1, 1, 1, 1, 1, 1, 1, 0, 1, 0]) (mkSt g0 209 (c6S keep 0 (opL z o u fv fp ft) c m F q lv ls (↑sz : Int) sK (0, []))) (outsP g0 209 [(True, Ex.exit 6, c6X keep 0 (opL z o u fv fp ft) c m F q lv ls (↑sz : Int) sK cl)]) ∧ (True → ((0 : Int) ≤ (↑sz : Int) ∧ (↑sz : Int) ≤ (↑sz : Int) ∧ (↑(16 : Nat) : Int) * (↑sz : Int) ≤ (281474976710656 : Int) ∧ (↑sz : Int) ≤ (9223372036854775807 : Int)) ∧ ((0 = 0 ∧ 0 = 0 ∧ 0 = 0 ∧ 0 = 0 ∧ (q = q ∧ ints ls = ints ls) ∧ 0 = 0 ∧ (↑sz : Int) = (↑sz : Int) ∧ (↑(0 : Nat) : Int) = (0 : Int) ∧ True) ∧ ([V.nils, V.nils, V.nils] = [V.nils, V.nils, V.nils] ∧ TT 3) ∧ (opL z o u fv fp ft = opL z o u fv fp ft ∧ TT 7) ∧ ([V.im m c] = [V.im m c] ∧ True ∧ True) ∧ (a64 F = a64 F ∧ TT 64) ∧ ([V.im q (ints lv)] = [V.im q (ints lv)] ∧ True ∧ True) ∧ ((0 = 0 ∧ ints keep = ints keep) ∧ (0 = 0 ∧ ints cl = ints cl) ∧ (0 = 0 ∧ sz = sz ∧ sz - sz = sz - sz) ∧ EQn (sK) 0 64) ∧ (elF (zF z 0) (fun x => (0 : Int)) sz = rep sz [i6 0, i6 0] ∧ HfL (elF (zF z 0) (fun x => (0 : Int)) sz)) ∧ True) ∧ Sat Try.prog none 0 (at' 15 [1, 1, 1, 1, 1, 1, 1, 1, 1, 1, 1, 1, 1, 1, 1, 1, 0, 1, 0]) (mkSt g0 209 (c8S keep 0 z o u fv fp ft c m F q lv ls sK cl sz 0)) (outsP g0 209 [(True, Ex.exit 8, c8X keep 0 z o u fv fp ft c m F q lv ls sK cl sz (elF (fun x => z) (fun x => (0 : Int)) sz))]) ∧ (True → (True ∧ True) ∧ FnOk Try.prog g0 42 [V.im q (ints ls)] (V.fn 72 [V.imp [V.im q (ints ls)]]) ∧ True ∧ ((0 = 0 ∧ 0 = 0 ∧ 0 = 0 ∧ 0 = 0 ∧ 0 = 0 ∧ ([V.im q (ints ls)] = [V.im q (ints ls)] ∧ True) ∧ True) ∧ ([V.nils, V.nils, V.nils] = [V.nils, V.nils, V.nils] ∧ TT 3) ∧ (opL z o u fv fp ft = opL z o u fv fp ft ∧ TT 7) ∧ ([V.im m c] = [V.im m c] ∧ True ∧ True) ∧ (a64 F = a64 F ∧ TT 64) ∧ ([V.im q (ints lv)] = [V.im q (ints lv)] ∧ True ∧ True) ∧ ((0 = 0 ∧ ints keep = ints keep) ∧ (0 = 0 ∧ ints cl = ints cl) ∧ (0 = 0 ∧ sz = sz ∧ sz - sz = sz - sz) ∧ EQn (sK) 0 64) ∧ (elF (fun x => z) (fun x => (0 : Int)) sz = elF (fun x => z) (fun x => (0 : Int)) sz ∧ HfL (elF (fun x => z) (fun x => (0 : Int)) sz)) ∧ True) ∧ Sat Try.prog none 0 (at' 15 [1, 1, 1, 1, 1, 1, 1, 1, 1, 1, 1, 1, 1, 1, 1, 1, 1, 0, 1, 0]) (mkSt g0 209 (rgSt keep 0 z o u fv fp ft c m F q lv ls sK cl sz (elF (fun x => z) (fun x => (0 : Int)) sz))) (outsP g0 209 [(True, Ex.normal, rgX keep 0 sK cl sz (elF wA wB sz))]) ∧ (True → ((0 = 0 ∧ 0 = 0 ∧ (sz = sz ∧ elF wA wB sz = elF wA wB sz) ∧ (↑sz : Int) = (↑sz : Int) ∧ (↑(0 : Nat) : Int) = (0 : Int) ∧ True) ∧ ([V.nils, V.nils, V.nils] = [V.nils, V.nils, V.nils] ∧ TT 3) ∧ (V.im 0 (ints keep) :: V.im 0 (ints cl) :: V.im sz (elF wA wB sz) :: a64 sK = V.im 0 (ints keep) :: V.im 0 (ints cl) :: V.im sz (elF wA wB sz) :: a64 sK ∧ TT 67) ∧ True) ∧ Sat Try.prog none 0 (at' 15 [1, 1, 1, 1, 1, 1, 1, 1, 1, 1, 1, 1, 1, 1, 1, 1, 1, 1, 0, 1, 0]) (mkSt g0 209 (seS keep 0 cl sz wA wB sK 0)) (outsP g0 209 [(false = true, Ex.exit 12, seX keep 0 cl sz wA wB sK), (false = false, Ex.ret, cBad (6 : Int))]) ∧ (false = true → (0 = 0 ∧ (6 : Int) = (0 : Int) ∧ True) ∧ ((0 = 0 ∧ [] = ints keep) ∧ (0 = 0 ∧ [] = ints cl) ∧ (0 = sz ∧ [] = elF wA wB sz) ∧ True) ∧ True) ∧ (false = false → (0 = 0 ∧ (6 : Int) = (6 : Int) ∧ True) ∧ (0 = 0 ∧ 0 = 0 ∧ 0 = 0 ∧ True) ∧ True) ∧ True) ∧ True) ∧ True) ∧ True) ∧ True) ∧ True) ∧ (gd = false → (0 = 0 ∧ (6 : Int) = (41 : Int) ∧ True) ∧ (0 = 0 ∧ 0 = 0 ∧ 0 = 0 ∧ True) ∧ True) ∧ True) = _) ?_
  (repeat' (first | (with_reducible apply And.intro) | (refine fun (_ : True) => ?_))) <;> first | exact aq | skip
  all_goals first | exact hcr0.trans hr.symm | (intro h9; rw [hgd] at h9; exact absurd h9 (by decide)) | (intro h9; (repeat' (first | (with_reducible apply And.intro) | (refine fun (_ : True) => ?_))); all_goals first | exact aq | exact hwi | exact hsrc _ | exact l4 | exact l6 | exact l8 | exact l9 | exact l10 | exact hz0 | exact hz0.symm | rfl | (intro h8; exact absurd h8 (by decide)) | (intro h8; (repeat' (first | (with_reducible apply And.intro) | (refine fun (_ : True) => ?_))); all_goals first | exact aq | rfl | skip) | skip) | skip
end Go.Proofs.Ytgdnmgcigkhojaa.Am

namespace Go.Proofs.Ytgdnmgcigkhojaa.Am
open Go.RowKit
set_option linter.unusedVariables false
set_option maxHeartbeats 1000000
def s64 (g : Nat → Int) : Nat → Int
  | 0 => 0
  | i + 1 => s64 g i + g i
theorem s64_congr {f g : Nat → Int} : ∀ {n : Nat}, (∀ i, i < n → f i = g i) → s64 f n = s64 g n
  | 0, _ => rfl
  | n + 1, h => by rw [s64, s64, s64_congr (fun i hi => h i (by omega)), h n (by omega)]
theorem s64_up {g f : Nat → Int} {k : Nat} {x : Int} (hf : f k = 0) : ∀ {n : Nat}, s64 (fun v => g v * up64 f k x v) n = s64 (fun v => g v * f v) n + if k < n then g k * x else 0
  | 0 => by simp [s64]
  | n + 1 => by
    rw [s64, s64, s64_up hf]
    by_cases h : n = k
    · subst h
      rw [if_neg (by omega), if_pos (by omega)]
      simp only [up64, if_pos]
      rw [hf]; simp
    · have e : up64 f k x n = f n := by unfold up64; rw [if_neg h]
      rw [e]
      by_cases h2 : k < n
      · rw [if_pos h2, if_pos (by omega)]; omega
      · rw [if_neg h2, if_neg (by omega)]; omega
theorem s64_zero (g : Nat → Int) : ∀ n, s64 (fun v => g v * 0) n = 0
  | 0 => rfl
  | n + 1 => by rw [s64, s64_zero g n]; simp
def sufT (cs : List Int) (n : Nat) : Nat → Int
  | 0 => 1
  | j + 1 => sufT cs n j * cs.getD (n - 1 - j) 0
theorem prod_suf {cs : List Int} {n : Nat} : ∀ j, j ≤ n → prodT cs (n - j) * sufT cs n j = prodT cs n
  | 0, _ => by show prodT cs n * 1 = _; rw [Int.mul_one]
  | j + 1, h => by
    have ih := @prod_suf cs n j (by omega)
    rw [show n - j = (n - (j + 1)) + 1 by omega, prodT] at ih
    rw [sufT, show n - 1 - j = n - (j + 1) by omega, Int.mul_comm (sufT cs n j), ← Int.mul_assoc]
    exact ih
theorem suf_all {cs : List Int} {n : Nat} : sufT cs n n = prodT cs n := by
  have := @prod_suf cs n n (Nat.le_refl _)
  rw [Nat.sub_self, prodT, Int.one_mul] at this
  exact this
theorem rem_suf {cs : List Int} {n : Nat} (h : ∀ i, i < n → 1 ≤ cs.getD i 0) : ∀ k, k ≤ n → remT cs n k = sufT cs n (n - k)
  | 0, _ => by rw [remT, Nat.sub_zero, suf_all]
  | k + 1, hk => by
    have ih := rem_suf h k (by omega)
    have hc := h k (by omega)
    rw [remT, ih, show n - k = (n - (k + 1)) + 1 by omega, sufT, show n - 1 - (n - (k + 1)) = k by omega]
    exact Int.mul_tdiv_cancel _ (by omega)
theorem suf_pos {cs : List Int} {n : Nat} (h : ∀ i, i < n → 1 ≤ cs.getD i 0) : ∀ j, j ≤ n → 1 ≤ sufT cs n j
  | 0, _ => Int.le_refl _
  | j + 1, hj => by
    have := Int.mul_le_mul (suf_pos h j (by omega)) (h (n - 1 - j) (by omega)) (by decide) (by have := suf_pos h j (by omega); omega)
    rw [sufT]; omega
def mineF (g : Nat → Int) (ks : List Int) (n : Nat) : List Int := (List.range n).map fun i => g (ks.getD i 0).toNat
theorem mineF_getD {g : Nat → Int} {ks : List Int} {n i : Nat} (h : i < n) : (mineF g ks n).getD i 0 = g (ks.getD i 0).toNat := by
  unfold mineF
  rw [List.getD_eq_getElem?_getD, List.getElem?_map, List.getElem?_range h]; rfl
theorem mineF_len (g : Nat → Int) (ks : List Int) (n : Nat) : (mineF g ks n).length = n := by simp [mineF]
def incT (ks : List Int) (n : Nat) : Prop := (∀ i, i < n → 0 ≤ ks.getD i 0 ∧ ks.getD i 0 ≤ 63) ∧ ∀ i j, i < j → j < n → ks.getD i 0 < ks.getD j 0
theorem stT_off {vs cs : List Int} {n : Nat} : ∀ {k : Nat} {v : Nat}, (∀ i, i < k → (vs.getD i 0).toNat ≠ v) → stT vs cs n k v = 0
  | 0, _, _ => rfl
  | k + 1, v, h => by
    rw [stT, up64, if_neg (fun e => h k (by omega) e.symm)]
    exact stT_off fun i hi => h i (by omega)
theorem sum_stT {g : Nat → Int} {vs cs : List Int} {n : Nat} (hi : incT vs n) (hc : ∀ i, i < n → 1 ≤ cs.getD i 0) : ∀ k, k ≤ n → s64 (fun v => g v * stT vs cs n k v) 64 = idxT cs (mineF g vs n) k * remT cs n k
  | 0, _ => by
    show s64 (fun v => g v * 0) 64 = 0 * _
    rw [s64_zero, Int.zero_mul]
  | k + 1, hk => by
    have hv := hi.1 k (by omega)
    have ih := sum_stT (g := g) hi hc k (by omega)
    have hoff : stT vs cs n k (vs.getD k 0).toNat = 0 := stT_off fun i h => by
      have := hi.2 i k h (by omega)
      have := hi.1 i (by omega)
      omega
    show s64 (fun v => g v * up64 (stT vs cs n k) (vs.getD k 0).toNat (remT cs n (k + 1)) v) 64 = _
    rw [s64_up hoff, ih, if_pos (by omega), idxT, mineF_getD (by omega)]
    have e : remT cs n k = cs.getD k 0 * remT cs n (k + 1) := by
      rw [rem_suf hc k (by omega), rem_suf hc (k + 1) (by omega), show n - k = (n - (k + 1)) + 1 by omega, sufT, show n - 1 - (n - (k + 1)) = k by omega, Int.mul_comm]
    rw [e, Int.add_mul, Int.mul_assoc]
theorem num_stT {g : Nat → Int} {vs cs : List Int} {n : Nat} (hi : incT vs n) (hc : ∀ i, i < n → 1 ≤ cs.getD i 0) : s64 (fun v => g v * stT vs cs n n v) 64 = idxT cs (mineF g vs n) n := by
  rw [sum_stT hi hc n (Nat.le_refl _), rem_suf hc n (Nat.le_refl _), Nat.sub_self, sufT, Int.mul_one]
theorem sufK_suf {F : Nat → Int} {keep cl : List Int} {n : Nat} (h : ∀ i, i < n → cl.getD i 0 = F (keep.getD i 0).toNat) : ∀ j, j ≤ n → sufK F keep n j = sufT cl n j
  | 0, _ => rfl
  | j + 1, hj => by rw [sufK, sufT, sufK_suf h j (by omega), h (n - 1 - j) (by omega)]
theorem stK_off {F : Nat → Int} {keep : List Int} {n : Nat} : ∀ {j : Nat} {v : Nat}, j ≤ n → (∀ i, n - j ≤ i → i < n → (keep.getD i 0).toNat ≠ v) → stK F keep n j v = 0
  | 0, _, _, _ => rfl
  | j + 1, v, hj, h => by
    rw [stK, up64, if_neg (fun e => h (n - 1 - j) (by omega) (by omega) e.symm)]
    exact stK_off (by omega) fun i h1 h2 => h i (by omega) h2
theorem sum_stK {g F : Nat → Int} {keep cl : List Int} {n : Nat} (hi : incT keep n) (hcl : ∀ i, i < n → cl.getD i 0 = F (keep.getD i 0).toNat) : ∀ j, j ≤ n → idxT cl (mineF g keep n) n = idxT cl (mineF g keep n) (n - j) * sufT cl n j + s64 (fun v => g v * stK F keep n j v) 64
  | 0, _ => by
    show _ = idxT cl (mineF g keep n) n * 1 + s64 (fun v => g v * 0) 64
    rw [s64_zero, Int.mul_one, Int.add_zero]
  | j + 1, hj => by
    have ih := sum_stK (g := g) hi hcl j (by omega)
    have hv := hi.1 (n - 1 - j) (by omega)
    have hoff : stK F keep n j (keep.getD (n - 1 - j) 0).toNat = 0 := stK_off (by omega) fun i h1 h2 => by
      have := hi.2 (n - 1 - j) i (by omega) h2
      have := hi.1 i h2
      omega
    rw [ih]
    show _ = _ + s64 (fun v => g v * up64 (stK F keep n j) (keep.getD (n - 1 - j) 0).toNat (sufK F keep n j) v) 64
    rw [s64_up hoff, if_pos (by omega), sufK_suf hcl j (by omega), show n - j = (n - (j + 1)) + 1 by omega, idxT, mineF_getD (by omega), sufT, show n - 1 - j = n - (j + 1) by omega, Int.add_mul, Int.mul_assoc, Int.mul_comm (cl.getD (n - (j + 1)) 0)]
    omega
theorem num_stK {g F : Nat → Int} {keep cl : List Int} {n : Nat} (hi : incT keep n) (hcl : ∀ i, i < n → cl.getD i 0 = F (keep.getD i 0).toNat) : s64 (fun v => g v * stK F keep n n v) 64 = idxT cl (mineF g keep n) n := by
  rw [sum_stK (g := g) hi hcl n (Nat.le_refl _), Nat.sub_self, idxT, Int.zero_mul, Int.zero_add]
def valF (F : Nat → Int) (vals : List Int) (v : Nat) : Int := vals.getD (qF F v) 0
theorem numT_congr {st : Nat → Int} {vars vars' vals : List Int} : ∀ {k : Nat}, (∀ i, i < k → vars.getD i 0 = vars'.getD i 0) → numT st vars vals k = numT st vars' vals k
  | 0, _ => rfl
  | k + 1, h => by rw [numT, numT, numT_congr (fun i hi => h i (by omega)), h k (by omega)]
theorem getD_app {l : List Int} {x : Int} {i : Nat} (h : i < l.length) : (l ++ [x]).getD i 0 = l.getD i 0 := by
  rw [List.getD_eq_getElem?_getD, List.getElem?_append_left h, ← List.getD_eq_getElem?_getD]
theorem getD_last {l : List Int} {x : Int} : (l ++ [x]).getD l.length 0 = x := by
  rw [List.getD_eq_getElem?_getD]; simp
theorem numT_vF {F st : Nat → Int} {vals : List Int} (h : ∀ v, F v ≤ 0 → st v = 0) : ∀ i, numT st (vF F i) vals (qF F i) = s64 (fun v => valF F vals v * st v) i
  | 0 => rfl
  | i + 1 => by
    have ih := numT_vF (vals := vals) h i
    have hl := vF_len F i
    by_cases hp : 0 < F i
    · rw [qF, if_pos hp, vF, if_pos hp, numT, s64, ← ih, ← hl, getD_last]
      rw [numT_congr (vars := vF F i ++ [(i : Int)]) (vars' := vF F i) (fun j hj => getD_app hj)]
      unfold valF
      rw [hl]; rfl
    · rw [qF, if_neg hp, vF, if_neg hp, s64, ← ih, h i (by omega)]; simp
theorem vF_at {F : Nat → Int} : ∀ {i v : Nat}, v < i → 0 < F v → (vF F i).getD (qF F v) 0 = v ∧ (sF F i).getD (qF F v) 0 = F v ∧ qF F v < qF F i
  | 0, _, h, _ => absurd h (Nat.not_lt_zero _)
  | i + 1, v, h, hp => by
    have l1 := vF_len F i
    have l2 := sF_len F i
    by_cases e : v = i
    · subst e
      rw [vF, if_pos hp, sF, if_pos hp, qF, if_pos hp]
      refine ⟨?_, ?_, by omega⟩
      · rw [← l1]; exact getD_last
      · rw [← l2]; exact getD_last
    · obtain ⟨a, b, c⟩ := @vF_at F i v (by omega) hp
      by_cases hi : 0 < F i
      · rw [vF, if_pos hi, sF, if_pos hi, qF, if_pos hi]
        exact ⟨by rw [getD_app (by omega)]; exact a, by rw [getD_app (by omega)]; exact b, by omega⟩
      · rw [vF, if_neg hi, sF, if_neg hi, qF, if_neg hi]
        exact ⟨a, b, c⟩
theorem vF_mem {F : Nat → Int} : ∀ {i k : Nat}, k < qF F i → ∃ v, v < i ∧ 0 < F v ∧ qF F v = k
  | 0, _, h => absurd h (Nat.not_lt_zero _)
  | i + 1, k, h => by
    by_cases hi : 0 < F i
    · rw [qF, if_pos hi] at h
      by_cases e : k = qF F i
      · exact ⟨i, by omega, hi, e.symm⟩
      · obtain ⟨v, a, b, c⟩ := @vF_mem F i k (by omega)
        exact ⟨v, by omega, b, c⟩
    · rw [qF, if_neg hi] at h
      obtain ⟨v, a, b, c⟩ := @vF_mem F i k h
      exact ⟨v, by omega, b, c⟩
theorem vF_bd {F : Nat → Int} {k : Nat} (h : k < qF F 64) : 0 ≤ (vF F 64).getD k 0 ∧ (vF F 64).getD k 0 ≤ 63 := by
  obtain ⟨v, a, b, rfl⟩ := vF_mem h
  have := vF_at a b
  omega
def pF (F : Nat → Int) : Nat → Int
  | 0 => 1
  | i + 1 => if 0 < F i then pF F i * F i else pF F i
theorem prodT_app {l : List Int} {x : Int} : ∀ {k : Nat}, k ≤ l.length → prodT (l ++ [x]) k = prodT l k
  | 0, _ => rfl
  | k + 1, h => by rw [prodT, prodT, prodT_app (by omega), getD_app (by omega)]
theorem prod_sF (F : Nat → Int) : ∀ i, prodT (sF F i) (qF F i) = pF F i
  | 0 => rfl
  | i + 1 => by
    have l := sF_len F i
    by_cases hi : 0 < F i
    · rw [sF, if_pos hi, qF, if_pos hi, pF, if_pos hi, prodT, ← l, prodT_app (Nat.le_refl _), getD_last, l, prod_sF F i]
    · rw [sF, if_neg hi, qF, if_neg hi, pF, if_neg hi, prod_sF F i]
theorem pF_pos (F : Nat → Int) : ∀ i, 1 ≤ pF F i
  | 0 => Int.le_refl _
  | i + 1 => by
    unfold pF; split
    · rename_i h
      have := Int.mul_le_mul (pF_pos F i) (show 1 ≤ F i by omega) (by decide) (by have := pF_pos F i; omega)
      omega
    · exact pF_pos F i
theorem pF_mono (F : Nat → Int) {i : Nat} : ∀ j, pF F i ≤ pF F (i + j)
  | 0 => Int.le_refl _
  | j + 1 => by
    have ih := pF_mono F (i := i) j
    show _ ≤ pF F (i + j + 1)
    rw [pF]; split
    · rename_i h
      have h1 := pF_pos F (i + j)
      have := Int.mul_le_mul_of_nonneg_left (show 1 ≤ F (i + j) by omega) (show 0 ≤ pF F (i + j) by omega)
      omega
    · exact ih
theorem sufK_le {F : Nat → Int} {keep : List Int} {n : Nat} (hi : incT keep n) (hF : ∀ i, i < n → 0 < F (keep.getD i 0).toNat) : ∀ j, j ≤ n → ∀ x : Nat, (n - j < n → x = (keep.getD (n - j) 0).toNat) → x ≤ 64 → 1 ≤ sufK F keep n j ∧ sufK F keep n j * pF F x ≤ pF F 64
  | 0, _, x, _, hx => ⟨Int.le_refl _, by
      show 1 * pF F x ≤ _
      rw [Int.one_mul]
      have := pF_mono F (i := x) (64 - x)
      rwa [show x + (64 - x) = 64 by omega] at this⟩
  | j + 1, hj, x, hxe, hx => by
    have hv := hi.1 (n - 1 - j) (by omega)
    have hp := hF (n - 1 - j) (by omega)
    have ex : x = (keep.getD (n - 1 - j) 0).toNat := by rw [hxe (by omega), show n - (j + 1) = n - 1 - j by omega]
    obtain ⟨y, hy⟩ : ∃ y : Nat, (n - j < n → y = (keep.getD (n - j) 0).toNat) ∧ (¬ n - j < n → y = 64) := by
      by_cases h : n - j < n
      · exact ⟨(keep.getD (n - j) 0).toNat, fun _ => rfl, fun h' => absurd h h'⟩
      · exact ⟨64, fun h' => absurd h' h, fun _ => rfl⟩
    have hxy : x + 1 ≤ y ∧ y ≤ 64 := by
      by_cases h : n - j < n
      · have e := hy.1 h
        have h2 := hi.2 (n - 1 - j) (n - j) (by omega) h
        have h3 := hi.1 (n - j) h
        omega
      · have e := hy.2 h
        omega
    obtain ⟨i1, i2⟩ := sufK_le hi hF j (by omega) y hy.1 hxy.2
    have hm := pF_mono F (i := x + 1) (y - (x + 1))
    rw [show x + 1 + (y - (x + 1)) = y by omega] at hm
    have hpx : pF F (x + 1) = pF F x * F x := by rw [pF, if_pos (by rw [ex]; exact hp)]
    have e1 : sufK F keep n (j + 1) = sufK F keep n j * F x := by rw [sufK, ← ex]
    rw [← ex] at hp
    have p1 := Int.mul_le_mul i1 (show 1 ≤ F x by omega) (by decide) (by omega)
    have p2 := Int.mul_le_mul_of_nonneg_left hm (show 0 ≤ sufK F keep n j by omega)
    rw [e1]
    refine ⟨by omega, ?_⟩
    rw [Int.mul_assoc, Int.mul_comm (F x), ← hpx]
    omega
end Go.Proofs.Ytgdnmgcigkhojaa.Am

namespace Go.Proofs.Ytgdnmgcigkhojaa.Am
open Go.RowKit
set_option linter.unusedVariables false
set_option maxHeartbeats 1000000
theorem varsT_inc {vs : List Int} : ∀ {n : Nat}, varsT vs n = true → incT vs n ∧ ∀ i, i < n → vs.getD i 0 ≤ lastT vs n
  | 0, _ => ⟨⟨fun i h => absurd h (Nat.not_lt_zero _), fun i j _ h => absurd h (Nat.not_lt_zero _)⟩, fun i h => absurd h (Nat.not_lt_zero _)⟩
  | n + 1, h => by
    rw [varsT, Bool.and_eq_true, decide_eq_true_eq] at h
    obtain ⟨ih1, ih2⟩ := varsT_inc h.1
    have hl := varsT_last h.1
    refine ⟨⟨fun i hi => ?_, fun i j h1 h2 => ?_⟩, fun i hi => ?_⟩
    · by_cases e : i = n
      · subst e; omega
      · exact ih1.1 i (by omega)
    · by_cases e : j = n
      · subst e; have := ih2 i h1; omega
      · exact ih1.2 i j h1 (by omega)
    · show _ ≤ vs.getD n 0
      by_cases e : i = n
      · subst e; exact Int.le_refl _
      · have := ih2 i (by omega); omega
theorem withT_inc {f : Nat → Int} {ks : List Int} : ∀ {n : Nat}, withT f ks n = true → incT ks n ∧ (∀ i, i < n → f (ks.getD i 0).toNat ≠ 0) ∧ ∀ i, i < n → ks.getD i 0 ≤ lastT ks n
  | 0, _ => ⟨⟨fun i h => absurd h (Nat.not_lt_zero _), fun i j _ h => absurd h (Nat.not_lt_zero _)⟩, fun i h => absurd h (Nat.not_lt_zero _), fun i h => absurd h (Nat.not_lt_zero _)⟩
  | n + 1, h => by
    rw [withT, Bool.and_eq_true, decide_eq_true_eq] at h
    obtain ⟨ih1, ih3, ih2⟩ := withT_inc h.1
    have hl := lastT_bd h.1
    refine ⟨⟨fun i hi => ?_, fun i j h1 h2 => ?_⟩, fun i hi => ?_, fun i hi => ?_⟩
    · by_cases e : i = n
      · subst e; omega
      · exact ih1.1 i (by omega)
    · by_cases e : j = n
      · subst e; have := ih2 i h1; omega
      · exact ih1.2 i j h1 (by omega)
    · by_cases e : i = n
      · subst e; exact h.2.2.2
      · exact ih3 i (by omega)
    · show _ ≤ ks.getD n 0
      by_cases e : i = n
      · subst e; exact Int.le_refl _
      · have := ih2 i (by omega); omega
theorem cG_pre {f : Nat → Int} {vs cs : List Int} {k : Nat} (h : cG f vs cs (k + 1) = true) : cG f vs cs k = true ∧ okD (cF f vs cs k) vs cs k = true := by
  rw [cG_succ, Bool.and_eq_true] at h; exact h
theorem cF_keep {f : Nat → Int} {vs cs : List Int} {v : Nat} (hv : f v ≠ 0) : ∀ {k : Nat}, cG f vs cs k = true → cF f vs cs k v = f v
  | 0, _ => rfl
  | k + 1, h => by
    obtain ⟨h1, h2⟩ := cG_pre h
    have ih := cF_keep hv h1
    rw [cF_succ, if_pos h, up64]
    split
    · rename_i e
      unfold okD at h2
      rw [← e, ih] at h2
      simp only [Bool.or_eq_true, decide_eq_true_eq] at h2
      rcases h2 with h2 | h2
      · exact absurd h2 hv
      · exact h2.symm
    · exact ih
theorem cF_at {f : Nat → Int} {vs cs : List Int} (hi : ∀ n, incT vs n → True) {n : Nat} (hinc : incT vs n) : ∀ {k : Nat}, k ≤ n → cG f vs cs k = true → ∀ j, j < k → cF f vs cs k (vs.getD j 0).toNat = cs.getD j 0
  | 0, _, _, j, hj => absurd hj (Nat.not_lt_zero _)
  | k + 1, hk, h, j, hj => by
    obtain ⟨h1, h2⟩ := cG_pre h
    rw [cF_succ, if_pos h, up64]
    by_cases e : j = k
    · subst e; rw [if_pos rfl]
    · have a := hinc.2 j k (by omega) (by omega)
      have b := hinc.1 j (by omega)
      rw [if_neg (by omega)]
      exact cF_at hi hinc (by omega) h1 j (by omega)
theorem cF_cases {f : Nat → Int} {vs cs : List Int} {v : Nat} : ∀ k, cF f vs cs k v = f v ∨ ∃ j, j < k ∧ (vs.getD j 0).toNat = v ∧ cF f vs cs k v = cs.getD j 0
  | 0 => .inl rfl
  | k + 1 => by
    rw [cF_succ]
    have ih := cF_cases (f := f) (vs := vs) (cs := cs) (v := v) k
    split
    · rw [up64]
      split
      · rename_i e; exact .inr ⟨k, by omega, e.symm, rfl⟩
      · rcases ih with ih | ⟨j, a, b, c⟩
        · exact .inl ih
        · exact .inr ⟨j, by omega, b, c⟩
    · rcases ih with ih | ⟨j, a, b, c⟩
      · exact .inl ih
      · exact .inr ⟨j, by omega, b, c⟩
theorem aG_pre {VS CS : Nat → List Int} {k : Nat} (h : aG VS CS (k + 1) = true) : aG VS CS k = true := by
  cases h0 : aG VS CS k with
  | true => rfl
  | false => rw [(aG_stop h0 1).1] at h; exact absurd h (by decide)
section
variable {VS CS : Nat → List Int} {m : Nat}
theorem aF_keep {v : Nat} {k : Nat} (hv : aF VS CS k v ≠ 0) : ∀ n, aG VS CS (k + n) = true → aF VS CS (k + n) v = aF VS CS k v
  | 0, _ => rfl
  | n + 1, h => by
    have h0 := aG_pre (k := k + n) h
    have ih := aF_keep hv n h0
    show aF VS CS (k + n + 1) v = _
    rw [aF_succ h0, ← ih]
    refine cF_keep (by rw [ih]; exact hv) ?_
    rw [← aG_succ h0]; exact h
theorem aG_le {k : Nat} (h : aG VS CS m = true) (hk : k ≤ m) : aG VS CS k = true := by
  cases h0 : aG VS CS k with
  | true => rfl
  | false =>
    have := (aG_stop h0 (m - k)).1
    rw [show k + (m - k) = m by omega, h] at this
    exact absurd this (by decide)
theorem aF_at (h : aG VS CS m = true) (hT : ∀ i, i < m → incT (VS i) (CS i).length ∧ ∀ j, j < (CS i).length → 1 ≤ (CS i).getD j 0) {i j : Nat} (hi : i < m) (hj : j < (CS i).length) : aF VS CS m ((VS i).getD j 0).toNat = (CS i).getD j 0 := by
  obtain ⟨t1, t2⟩ := hT i hi
  have hg := aG_le h (show i ≤ m by omega)
  have hg1 := aG_le h (show i + 1 ≤ m by omega)
  have e : aF VS CS (i + 1) ((VS i).getD j 0).toNat = (CS i).getD j 0 := by
    rw [aF_succ hg]
    exact cF_at (fun _ _ => trivial) t1 (Nat.le_refl _) (by rw [← aG_succ hg]; exact hg1) j hj
  have := aF_keep (v := ((VS i).getD j 0).toNat) (k := i + 1) (by rw [e]; have := t2 j hj; omega) (m - (i + 1)) (by rw [show i + 1 + (m - (i + 1)) = m by omega]; exact h)
  rw [show i + 1 + (m - (i + 1)) = m by omega] at this
  rw [this, e]
theorem aF_bd (hT : ∀ i, i < m → ∀ j, j < (CS i).length → 1 ≤ (CS i).getD j 0 ∧ (CS i).getD j 0 ≤ 8) : ∀ k, k ≤ m → ∀ v, aF VS CS k v = 0 ∨ 1 ≤ aF VS CS k v ∧ aF VS CS k v ≤ 8
  | 0, _, v => .inl rfl
  | k + 1, hk, v => by
    have ih := aF_bd hT k (by omega) v
    cases h0 : aG VS CS k with
    | true =>
      rw [aF_succ h0]
      rcases cF_cases (f := aF VS CS k) (vs := VS k) (cs := CS k) (v := v) (CS k).length with e | ⟨j, a, b, c⟩
      · rw [e]; exact ih
      · rw [c]; exact .inr (hT k (by omega) j a)
    | false => rw [(aG_stop h0 1).2]; exact ih
end
theorem stT_bd {vs cs : List Int} {n : Nat} (h : goodT cs n = true) : ∀ k, k ≤ n → ∀ v, 0 ≤ stT vs cs n k v ∧ stT vs cs n k v ≤ 4096
  | 0, _, v => ⟨Int.le_refl _, by show (0 : Int) ≤ 4096; decide⟩
  | k + 1, hk, v => by
    have ih := stT_bd h k (by omega) v (vs := vs)
    have hr := remT_bd h (k + 1) hk
    rw [stT, up64]
    split
    · exact hr
    · exact ih
theorem stK_bd {F : Nat → Int} {keep : List Int} {n : Nat} (h : ∀ j, j ≤ n → 1 ≤ sufK F keep n j ∧ sufK F keep n j ≤ 4096) : ∀ j, j ≤ n → ∀ v, 0 ≤ stK F keep n j v ∧ stK F keep n j v ≤ 4096
  | 0, _, v => ⟨Int.le_refl _, by show (0 : Int) ≤ 4096; decide⟩
  | j + 1, hj, v => by
    have ih := stK_bd h j (by omega) v
    have hr := h j (by omega)
    rw [stK, up64]
    split
    · exact ⟨by omega, hr.2⟩
    · exact ih
section
variable (kd : Int) (VS CS : Nat → List Int) (A B : Nat → Nat → Int) (m : Nat) (keep : List Int)
abbrev rF : Nat → Int := aF VS CS m
abbrev rQ : Nat := qF (aF VS CS m) 64
abbrev rV : List Int := vF (aF VS CS m) 64
abbrev rS : List Int := sF (aF VS CS m) 64
def rI (i j : Nat) : Nat := (numT (stT (VS i) (CS i) (CS i).length (CS i).length) (rV VS CS m) (cmb (rS VS CS m) j) (rQ VS CS m)).toNat
def rAt (j : Nat) : Nat := (numT (stK (aF VS CS m) keep keep.length keep.length) (rV VS CS m) (cmb (rS VS CS m) j) (rQ VS CS m)).toNat
def prE (kd : Int) (a b : Nat → Int) : Nat → Int × Int
  | 0 => (oneA kd, oneB kd)
  | i + 1 => timesE kd (prE kd a b i).1 (prE kd a b i).2 (a i) (b i)
def rPr (j i : Nat) : Int × Int := prE kd (fun i => A i (rI VS CS m i j)) (fun i => B i (rI VS CS m i j)) i
def rW : Nat → (Nat → Int) × (Nat → Int)
  | 0 => (fun _ => zeroA kd, fun _ => 0)
  | j + 1 => (up64 (rW j).1 (rAt VS CS m keep j) (plusE kd ((rW j).1 (rAt VS CS m keep j)) ((rW j).2 (rAt VS CS m keep j)) (rPr kd VS CS A B m j m).1 (rPr kd VS CS A B m j m).2).1,
    up64 (rW j).2 (rAt VS CS m keep j) (plusE kd ((rW j).1 (rAt VS CS m keep j)) ((rW j).2 (rAt VS CS m keep j)) (rPr kd VS CS A B m j m).1 (rPr kd VS CS A B m j m).2).2)
def rSz : Nat := (sufK (aF VS CS m) keep keep.length keep.length).toNat
def rP : Nat := (prodT (rS VS CS m) (rQ VS CS m)).toNat
def rA : Nat → Int := (rW kd VS CS A B m keep (rP VS CS m)).1
def rB : Nat → Int := (rW kd VS CS A B m keep (rP VS CS m)).2
end
theorem rightT_at {kd : Int} {A B : Nat → Int} : ∀ {n : Nat}, rightT kd A B n = true → ∀ i, i < n → okE kd (A i) (B i) = true
  | 0, _, i, hi => absurd hi (Nat.not_lt_zero _)
  | n + 1, hr, i, hi => by
    rw [rightT, Bool.and_eq_true] at hr
    by_cases e : i = n
    · subst e; exact hr.2
    · exact rightT_at hr.1 i (by omega)
structure InOk (kd : Int) (VS CS : Nat → List Int) (A B : Nat → Nat → Int) (N : Nat → Nat) (m : Nat) (keep : List Int) : Prop where
  k : 1 ≤ kd ∧ kd ≤ 5
  m12 : m ≤ 12
  good : goodA kd VS CS A B N m = true
  ag : aG VS CS m = true
  wi : withT (aF VS CS m) keep keep.length = true
  ok : okC (sF (aF VS CS m) 64) = true
section
variable {kd : Int} {VS CS : Nat → List Int} {A B : Nat → Nat → Int} {N : Nat → Nat} {m : Nat} {keep : List Int}
theorem goodA_tab (h : goodA kd VS CS A B N m = true) {i : Nat} (hi : i < m) : TabOk (VS i) (CS i) ∧ incT (VS i) (CS i).length ∧ goodT (CS i) (CS i).length = true ∧ (N i : Int) = prodT (CS i) (CS i).length ∧ rightT kd (A i) (B i) (N i) = true := by
  have hb := goodA_at kd VS CS A B N h i hi
  obtain ⟨h1, h2, h3, h4, h5⟩ := goodB_iff hb
  unfold okC at h1
  rw [Bool.and_eq_true, decide_eq_true_eq] at h1
  rw [h2] at h4
  have hv := (varsT_inc h4).1
  exact ⟨⟨h2, h1.1, hv.1⟩, hv, h1.2, h3, h5⟩
variable (h : InOk kd VS CS A B N m keep)
include h
theorem InOk.sizes : rQ VS CS m ≤ 12 ∧ (rS VS CS m).length = rQ VS CS m ∧ (∀ i, i < rQ VS CS m → 1 ≤ (rS VS CS m).getD i 0 ∧ (rS VS CS m).getD i 0 ≤ 8) ∧ 1 ≤ prodT (rS VS CS m) (rQ VS CS m) ∧ prodT (rS VS CS m) (rQ VS CS m) ≤ 4096 := by
  have ho := h.ok
  unfold okC at ho
  rw [Bool.and_eq_true, decide_eq_true_eq, sF_len] at ho
  exact ⟨ho.1, sF_len _ _, fun i hi => goodT_card ho.2 hi, goodT_bd ho.2⟩
theorem InOk.kept : incT keep keep.length ∧ ∀ i, i < keep.length → 0 < aF VS CS m (keep.getD i 0).toNat := by
  obtain ⟨a, b, _⟩ := withT_inc h.wi
  refine ⟨a, fun i hi => ?_⟩
  rcases aF_bd (VS := VS) (CS := CS) (m := m) (fun i hi j hj => goodT_card (goodA_tab h.good hi).2.2.1 hj) m (Nat.le_refl _) (keep.getD i 0).toNat with e | e
  · exact absurd e (b i hi)
  · omega
theorem InOk.suf : ∀ j, j ≤ keep.length → 1 ≤ sufK (aF VS CS m) keep keep.length j ∧ sufK (aF VS CS m) keep keep.length j ≤ 4096 := by
  intro j hj
  obtain ⟨a, b⟩ := h.kept
  have hs := h.sizes
  rw [prod_sF] at hs
  by_cases hlt : keep.length - j < keep.length
  · have hv := a.1 (keep.length - j) hlt
    obtain ⟨h1, h2⟩ := sufK_le a b j hj (keep.getD (keep.length - j) 0).toNat (fun _ => rfl) (by omega)
    have hp := pF_pos (aF VS CS m) (keep.getD (keep.length - j) 0).toNat
    have := Int.mul_le_mul_of_nonneg_left hp (show 0 ≤ sufK (aF VS CS m) keep keep.length j by omega)
    omega
  · obtain ⟨h1, h2⟩ := sufK_le a b j hj 64 (fun h' => absurd h' hlt) (Nat.le_refl _)
    have hp := pF_pos (aF VS CS m) 64
    have := Int.mul_le_mul_of_nonneg_left hp (show 0 ≤ sufK (aF VS CS m) keep keep.length j by omega)
    omega
theorem InOk.comb {j : Nat} (hj : j < rP VS CS m) : valT (rS VS CS m) (cmb (rS VS CS m) j) (rQ VS CS m) ∧ (cmb (rS VS CS m) j).length = rQ VS CS m ∧ idxT (rS VS CS m) (cmb (rS VS CS m) j) (rQ VS CS m) = j := by
  obtain ⟨h1, h2, h3, h4, h5⟩ := h.sizes
  unfold rP at hj
  have := @cmb_ok (rS VS CS m) (fun i hi => (h3 i (by omega)).1) j (by rw [h2]; omega)
  rw [h2] at this
  exact ⟨this.1, by rw [cmb_len, h2], this.2⟩
theorem InOk.val {j v : Nat} (hj : j < rP VS CS m) (hv : v < 64) (hp : 0 < aF VS CS m v) : 0 ≤ valF (aF VS CS m) (cmb (rS VS CS m) j) v ∧ valF (aF VS CS m) (cmb (rS VS CS m) j) v < aF VS CS m v := by
  obtain ⟨a, b, c⟩ := vF_at (F := aF VS CS m) hv hp
  have := (h.comb hj).1 (qF (aF VS CS m) v) c
  rw [b] at this
  exact this
theorem InOk.numOk {st : Nat → Int} (hs : ∀ v, 0 ≤ st v ∧ st v ≤ 4096) {j : Nat} (hj : j < rP VS CS m) : NumOk st (rV VS CS m) (cmb (rS VS CS m) j) (rQ VS CS m) := by
  obtain ⟨h1, h2, h3, h4, h5⟩ := h.sizes
  obtain ⟨c1, c2, _⟩ := h.comb hj
  exact ⟨h1, (vF_len _ _).symm, c2.symm, fun k hk => vF_bd hk, fun k hk => by have := c1 k hk; have := h3 k hk; omega, hs⟩
theorem InOk.table {i j : Nat} (hi : i < m) (hj : j < rP VS CS m) : NumOk (stT (VS i) (CS i) (CS i).length (CS i).length) (rV VS CS m) (cmb (rS VS CS m) j) (rQ VS CS m) ∧ numT (stT (VS i) (CS i) (CS i).length (CS i).length) (rV VS CS m) (cmb (rS VS CS m) j) (rQ VS CS m) = idxT (CS i) (mineF (valF (aF VS CS m) (cmb (rS VS CS m) j)) (VS i) (CS i).length) (CS i).length ∧ valT (CS i) (mineF (valF (aF VS CS m) (cmb (rS VS CS m) j)) (VS i) (CS i).length) (CS i).length ∧ numT (stT (VS i) (CS i) (CS i).length (CS i).length) (rV VS CS m) (cmb (rS VS CS m) j) (rQ VS CS m) = rI VS CS m i j ∧ rI VS CS m i j < N i := by
  obtain ⟨t1, t2, t3, t4, t5⟩ := goodA_tab h.good hi
  have hc : ∀ k, k < (CS i).length → 1 ≤ (CS i).getD k 0 := fun k hk => (goodT_card t3 hk).1
  have hat := fun k (hk : k < (CS i).length) => aF_at (VS := VS) (CS := CS) h.ag (fun i hi => ⟨(goodA_tab h.good hi).2.1, fun j hj => (goodT_card (goodA_tab h.good hi).2.2.1 hj).1⟩) hi hk
  have hz : ∀ v, aF VS CS m v ≤ 0 → stT (VS i) (CS i) (CS i).length (CS i).length v = 0 := fun v hv => stT_off fun k hk e => by
    have := hat k hk
    rw [e] at this
    have := hc k hk
    omega
  have e1 : numT (stT (VS i) (CS i) (CS i).length (CS i).length) (rV VS CS m) (cmb (rS VS CS m) j) (rQ VS CS m) = idxT (CS i) (mineF (valF (aF VS CS m) (cmb (rS VS CS m) j)) (VS i) (CS i).length) (CS i).length := by
    rw [numT_vF hz, num_stT t2 hc]
  have hval : valT (CS i) (mineF (valF (aF VS CS m) (cmb (rS VS CS m) j)) (VS i) (CS i).length) (CS i).length := fun k hk => by
    rw [mineF_getD hk]
    have := h.val hj (v := ((VS i).getD k 0).toNat) (by have := t2.1 k hk; omega) (by rw [hat k hk]; have := hc k hk; omega)
    rw [hat k hk] at this
    exact this
  have hb := idxT_bd hval
  refine ⟨h.numOk (stT_bd t3 _ (Nat.le_refl _)) hj, e1, hval, ?_, ?_⟩
  · unfold rI; omega
  · unfold rI; omega
theorem InOk.place {j : Nat} (hj : j < rP VS CS m) : NumOk (stK (aF VS CS m) keep keep.length keep.length) (rV VS CS m) (cmb (rS VS CS m) j) (rQ VS CS m) ∧ numT (stK (aF VS CS m) keep keep.length keep.length) (rV VS CS m) (cmb (rS VS CS m) j) (rQ VS CS m) = idxT (clF (aF VS CS m) keep keep.length) (mineF (valF (aF VS CS m) (cmb (rS VS CS m) j)) keep keep.length) keep.length ∧ valT (clF (aF VS CS m) keep keep.length) (mineF (valF (aF VS CS m) (cmb (rS VS CS m) j)) keep keep.length) keep.length ∧ numT (stK (aF VS CS m) keep keep.length keep.length) (rV VS CS m) (cmb (rS VS CS m) j) (rQ VS CS m) = rAt VS CS m keep j ∧ rAt VS CS m keep j < rSz VS CS m keep := by
  obtain ⟨k1, k2⟩ := h.kept
  have hcl : ∀ n i, i < n → (clF (aF VS CS m) keep n).getD i 0 = aF VS CS m (keep.getD i 0).toNat := by
    intro n
    induction n with
    | zero => intro i hi; omega
    | succ n ih =>
      intro i hi
      rw [clF]
      by_cases e : i = n
      · subst e
        have := getD_last (l := clF (aF VS CS m) keep i) (x := aF VS CS m (keep.getD i 0).toNat)
        rwa [clF_len] at this
      · rw [getD_app (by rw [clF_len]; omega)]; exact ih i (by omega)
  have hc2 := hcl keep.length
  have hz : ∀ v, aF VS CS m v ≤ 0 → stK (aF VS CS m) keep keep.length keep.length v = 0 := fun v hv => stK_off (Nat.le_refl _) fun k _ hk e => by
    have := k2 k hk
    rw [e] at this
    omega
  have e1 : numT (stK (aF VS CS m) keep keep.length keep.length) (rV VS CS m) (cmb (rS VS CS m) j) (rQ VS CS m) = idxT (clF (aF VS CS m) keep keep.length) (mineF (valF (aF VS CS m) (cmb (rS VS CS m) j)) keep keep.length) keep.length := by
    rw [numT_vF hz, num_stK k1 hc2]
  have hval : valT (clF (aF VS CS m) keep keep.length) (mineF (valF (aF VS CS m) (cmb (rS VS CS m) j)) keep keep.length) keep.length := fun k hk => by
    rw [mineF_getD hk, hc2 k hk]
    exact h.val hj (v := (keep.getD k 0).toNat) (by have := k1.1 k hk; omega) (k2 k hk)
  have hb := idxT_bd hval
  have hsz : prodT (clF (aF VS CS m) keep keep.length) keep.length = sufK (aF VS CS m) keep keep.length keep.length := by
    rw [← suf_all, sufK_suf hc2 _ (Nat.le_refl _)]
  rw [hsz] at hb
  refine ⟨h.numOk (stK_bd h.suf _ (Nat.le_refl _)) hj, e1, hval, ?_, ?_⟩
  · unfold rAt; omega
  · unfold rAt rSz; omega
theorem InOk.prod {j : Nat} (hj : j < rP VS CS m) : ProdOk kd (fun i => A i (rI VS CS m i j)) (fun i => B i (rI VS CS m i j)) (fun i => (rPr kd VS CS A B m j i).1) (fun i => (rPr kd VS CS A B m j i).2) m :=
  ⟨h.k, rfl, rfl, fun i _ => rfl, fun i hi => wideE_of (rightT_at (goodA_tab h.good hi).2.2.2.2 _ (h.table hi hj).2.2.2.2)⟩
theorem InOk.sums : ∀ j, j ≤ rP VS CS m → ∀ x, wideE kd ((rW kd VS CS A B m keep j).1 x) ((rW kd VS CS A B m keep j).2 x) = true
  | 0, _, x => wide_zero h.k
  | j + 1, hj, x => by
    have ih := InOk.sums j (by omega)
    have hp := (h.prod (show j < rP VS CS m by omega)).wide m (Nat.le_refl _)
    rw [rW]
    dsimp only [up64]
    by_cases e : x = rAt VS CS m keep j
    · rw [if_pos e, if_pos e]
      exact wide_plus h.k (ih _) hp rfl
    · rw [if_neg e, if_neg e]; exact ih x
end
noncomputable def comV (kd : Int) (VS CS : Nat → List Int) (A B : Nat → Nat → Int) (N : Nat → Nat) (m : Nat) (keep : List Int) : V :=
  if ¬ (1 ≤ kd ∧ kd ≤ 5) then .tup [t0V, i6 40]
  else if goodA kd VS CS A B N m = false then .tup [t0V, i6 41]
  else if aG VS CS m = false ∨ withT (aF VS CS m) keep keep.length = false then .tup [t0V, i6 2]
  else if okC (sF (aF VS CS m) 64) = false then .tup [t0V, i6 3]
  else if fitA (rA kd VS CS A B m keep) (rB kd VS CS A B m keep) (rSz VS CS m keep) = false then .tup [t0V, i6 6]
  else .tup [.agg [sl keep, .im keep.length (ints (clF (aF VS CS m) keep keep.length)), .im (rSz VS CS m keep) (elF (rA kd VS CS A B m keep) (rB kd VS CS A B m keep) (rSz VS CS m keep))], i6 0]
theorem end_ok {kd : Int} {VS CS : Nat → List Int} {A B : Nat → Nat → Int} {N : Nat → Nat} {m : Nat} {keep : List Int} (h : InOk kd VS CS A B N m keep) (hN : ∀ i, i < m → N i ≤ 1000000) (hk5 : keep.length ≤ 1000) {fv fp ft : Nat} (ho : OpOk kd fv fp ft) (n : Nat) (hn : n = keep.length) :
    EndOk kd keep n (zeroA kd) (oneA kd) (oneB kd) fv fp ft VS CS A B N m (aF VS CS m) (rQ VS CS m) (rV VS CS m) (rS VS CS m) (clF (aF VS CS m) keep n) (stK (aF VS CS m) keep n n) (rSz VS CS m keep) (rP VS CS m) (rAt VS CS m keep) (fun j => (rPr kd VS CS A B m j m).1) (fun j => (rPr kd VS CS A B m j m).2) (fun j => (rW kd VS CS A B m keep j).1) (fun j => (rW kd VS CS A B m keep j).2)
      (fun j => (plusE kd ((rW kd VS CS A B m keep j).1 (rAt VS CS m keep j)) ((rW kd VS CS A B m keep j).2 (rAt VS CS m keep j)) (rPr kd VS CS A B m j m).1 (rPr kd VS CS A B m j m).2).1)
      (fun j => (plusE kd ((rW kd VS CS A B m keep j).1 (rAt VS CS m keep j)) ((rW kd VS CS A B m keep j).2 (rAt VS CS m keep j)) (rPr kd VS CS A B m j m).1 (rPr kd VS CS A B m j m).2).2) := by
  subst hn
  obtain ⟨s1, s2, s3, s4, s5⟩ := h.sizes
  have hop : HfL (opL (zeroA kd) (oneA kd) (oneB kd) fv fp ft) := ⟨trivial, trivial, trivial, trivial, trivial, trivial, trivial, trivial⟩
  have hL2 := HfL_blF (HfL_tab VS CS A B N) m
  have hT := fun i hi => (goodA_tab h.good (i := i) hi).1
  obtain ⟨k1, k2⟩ := h.kept
  have hsf := h.suf
  have hsz : ((rSz VS CS m keep : Nat) : Int) = sufK (aF VS CS m) keep keep.length keep.length := by
    have := hsf keep.length (Nat.le_refl _)
    unfold rSz; omega
  have htg := together_fn VS CS A B N m h.m12 hT
  rw [h.ag] at htg
  have hwi := within_fn (aF VS CS m) keep (by omega)
  rw [h.wi] at hwi
  have l4 := com_steps keep keep.length rfl hk5 (opL (zeroA kd) (oneA kd) (oneB kd) fv fp ft) hop (blF (tab VS CS A B N) m) hL2 m (aF VS CS m) (rQ VS CS m) (rV VS CS m) (rS VS CS m) k1.1 hsf
  rw [← hsz] at l4
  have hic := icheck_fn (rS VS CS m)
  rw [h.ok, if_pos rfl] at hic
  refine ⟨hk5, h.m12, ?_, s1, s2, s3, ?_, ?_, h.good, ⟨rfl, rfl⟩, ⟨fun j hj => ?_, fun j hj => ?_, fun j hj => ?_, fun j hj => ⟨rfl, rfl⟩⟩, ho.c, com_read kd keep keep.length _ _ _ fv fp ft ho.v VS CS A B N m h.m12 hN, htg, hwi, com_vars keep keep.length _ hop _ hL2 m _, ?_, l4, com_cards keep keep.length rfl hk5 _ hop _ hL2 m _ _ _ _ _ _ k1.1⟩
  · have := hsf keep.length (Nat.le_refl _)
    omega
  · unfold rP; omega
  · unfold rP; omega
  · obtain ⟨a, _, _, b, c⟩ := h.place hj
    exact ⟨a, b, c⟩
  · exact prods_fn kd _ _ _ rfl rfl rfl fv fp ft ho VS CS A B N m h.m12 (rV VS CS m) (cmb (rS VS CS m) j) (rQ VS CS m) (fun i => rI VS CS m i j) _ _ (fun i hi => (h.table hi hj).1) (fun i hi => (h.table hi hj).2.2.2) (h.prod hj)
  · exact ho.p _ _ _ _ _ _ (h.sums j (by omega) _) ((h.prod hj).wide m (Nat.le_refl _)) rfl
  · rw [← s2]; exact hic
theorem combine_fn (kd : Int) (VS CS : Nat → List Int) (A B : Nat → Nat → Int) (N : Nat → Nat) (m : Nat) (hm : m ≤ 12) (hN : ∀ i, i < m → N i ≤ 1000000) (keep : List Int) (hk5 : keep.length ≤ 1000) :
    FnOk Pg g0 15 [i6 kd, .im m (blF (tbF VS CS A B N) m), sl keep] (comV kd VS CS A B N m keep) := by
  unfold comV
  by_cases hkd : 1 ≤ kd ∧ kd ≤ 5
  · rw [if_neg (fun h => h hkd)]
    obtain ⟨fv, fp, ft, ho⟩ := choose_ok kd hkd
    cases hg : goodA kd VS CS A B N m with
    | false => rw [if_pos rfl]; exact com_tables kd keep _ fv fp ft ho VS CS A B N m hm hN hg
    | true =>
      rw [if_neg (by decide)]
      have hT := fun i hi => (goodA_tab hg (i := i) hi).1
      cases ha : aG VS CS m with
      | false => rw [if_pos (.inl rfl)]; exact com_arg1 kd keep _ fv fp ft ho VS CS A B N m hm hN hg hT ha
      | true =>
        cases hw : withT (aF VS CS m) keep keep.length with
        | false => rw [if_pos (.inr rfl)]; exact com_arg2 kd keep _ rfl hk5 fv fp ft ho VS CS A B N m hm hN hg hT ha hw
        | true =>
          rw [if_neg (by simp)]
          cases hC : okC (sF (aF VS CS m) 64) with
          | false => rw [if_pos rfl]; exact com_long kd keep _ rfl hk5 fv fp ft ho VS CS A B N m hm hN hg hT ha hw _ rfl hC
          | true =>
            rw [if_neg (by decide)]
            have hI : InOk kd VS CS A B N m keep := ⟨hkd, hm, hg, ha, hw, hC⟩
            cases hl : keep.length with
            | zero =>
              have e : sl keep = .im 0 (ints keep) := by show V.im keep.length _ = _; rw [hl]
              have hE := end_ok hI hN hk5 ho 0 hl.symm
              cases hf : fitA (rA kd VS CS A B m keep) (rB kd VS CS A B m keep) (rSz VS CS m keep) with
              | false => rw [if_pos rfl]; have := com_big0 kd keep hl.symm _ _ _ fv fp ft VS CS A B N m _ _ _ _ _ (clF_len _ _ _) _ _ _ _ _ _ _ _ _ _ hE hf; rw [e]; exact this
              | true => rw [if_neg (by decide)]; have := com_ok0 kd keep hl.symm _ _ _ fv fp ft VS CS A B N m _ _ _ _ _ (clF_len _ _ _) _ _ _ _ _ _ _ _ _ _ hE hf; rw [e]; exact this
            | succ n =>
              have e : sl keep = .im (n + 1) (ints keep) := by show V.im keep.length _ = _; rw [hl]
              have hE := end_ok hI hN hk5 ho (n + 1) hl.symm
              cases hf : fitA (rA kd VS CS A B m keep) (rB kd VS CS A B m keep) (rSz VS CS m keep) with
              | false => rw [if_pos rfl]; have := com_big1 kd keep n hl.symm _ _ _ fv fp ft VS CS A B N m _ _ _ _ _ (clF_len _ _ _) _ _ _ _ _ _ _ _ _ _ hE hf; rw [e]; exact this
              | true => rw [if_neg (by decide)]; have := com_ok1 kd keep n hl.symm _ _ _ fv fp ft VS CS A B N m _ _ _ _ _ (clF_len _ _ _) _ _ _ _ _ _ _ _ _ _ hE hf; rw [e]; exact this
  · rw [if_pos hkd]
    exact com_none kd hkd _ (HfL_blF (HfL_tbF VS CS A B N) m) m _ keep
end Go.Proofs.Ytgdnmgcigkhojaa.Am

namespace Go.Proofs.Ytgdnmgcigkhojaa.Am
open Go.RowKit
set_option linter.unusedVariables false
set_option maxHeartbeats 1000000
set_option maxRecDepth 100000
def dT (cs vs : List Int) (n : Nat) : Nat → Int
  | 0 => 0
  | j + 1 => dT cs vs n j + vs.getD (n - 1 - j) 0 * sufT cs n j
theorem idx_dT {cs vs : List Int} {n : Nat} : ∀ j, j ≤ n → idxT cs vs n = idxT cs vs (n - j) * sufT cs n j + dT cs vs n j
  | 0, _ => by
    show _ = idxT cs vs n * 1 + 0
    omega
  | j + 1, hj => by
    rw [idx_dT j (by omega), show n - j = (n - (j + 1)) + 1 by omega, idxT, sufT, dT, show n - 1 - j = n - (j + 1) by omega, Int.add_mul, Int.mul_assoc, Int.mul_comm (cs.getD (n - (j + 1)) 0)]
    omega
theorem idx_all {cs vs : List Int} {n : Nat} : idxT cs vs n = dT cs vs n n := by
  rw [idx_dT n (Nat.le_refl _), Nat.sub_self, idxT]; omega
theorem dT_bd {cs vs : List Int} {n : Nat} (h : valT cs vs n) : ∀ j, j ≤ n → 0 ≤ dT cs vs n j ∧ dT cs vs n j < sufT cs n j
  | 0, _ => ⟨Int.le_refl _, by show (0 : Int) < 1; decide⟩
  | j + 1, hj => by
    have ih := dT_bd h j (by omega)
    have hk := h (n - 1 - j) (by omega)
    have h1 := Int.mul_nonneg hk.1 (show 0 ≤ sufT cs n j by omega)
    have h2 := Int.mul_le_mul_of_nonneg_left (show vs.getD (n - 1 - j) 0 + 1 ≤ cs.getD (n - 1 - j) 0 by omega) (show 0 ≤ sufT cs n j by omega)
    rw [Int.mul_add, Int.mul_one, Int.mul_comm (sufT cs n j) (vs.getD _ _)] at h2
    rw [dT, sufT]
    omega
abbrev ixS (cs vs : List Int) (n j : Nat) : SL := { sl := [(0, .im n (ints cs)), (1, .im n (ints vs)), (5, i6 (dT cs vs n j)), (6, i6 (sufT cs n j)), (7, i6 (((n - j : Nat) : Int) - 1))] }
theorem ridx_loop (cs vs : List Int) (n : Nat) (h1 : n = cs.length) (h2 : n = vs.length) (hn : n ≤ 1000) (hv : valT cs vs n) (hs : ∀ j, j ≤ n → 1 ≤ sufT cs n j ∧ sufT cs n j ≤ 4096) (hc : ∀ i, i < n → cs.getD i 0 ≤ 4096) :
    Sat Pg none 0 (at' 74 [1, 1, 0, 1, 0]) (mkSt g0 30 (ixS cs vs n 0)) (outsP g0 30 [(True, .exit 0, { sl := [(5, i6 (idxT cs vs n))] })]) := by
  refine loopC vE_ok mixed sp0_ok (b := at' 74 [1, 1, 0, 1, 0, 0]) (by kernel_rfl) (fun j => j ≤ n) (ixS cs vs n) (fun j => n - j) (fun j hj => ?_) 0 (Nat.zero_le _)
  by_cases hlt : j < n
  · obtain ⟨k, hk1⟩ : ∃ k, n - j = k + 1 := ⟨n - j - 1, by omega⟩
    have hk2 : n - 1 - j = k := by omega
    have hk3 : n - (j + 1) = k := by omega
    have g1 := @head_intsD cs k (by omega)
    have g2 := @head_intsD vs k (by omega)
    have b0 := hs j (by omega)
    have b1 := hs (j + 1) (by omega)
    have d0 := dT_bd hv j (by omega)
    have d1 := dT_bd hv (j + 1) (by omega)
    have hvk := hv k (by omega)
    have hck := hc k (by omega)
    have e1 : dT cs vs n (j + 1) = dT cs vs n j + vs.getD k 0 * sufT cs n j := by rw [dT, hk2]
    have e2 : sufT cs n (j + 1) = sufT cs n j * cs.getD k 0 := by rw [sufT, hk2]
    have m1 := Int.mul_nonneg hvk.1 (show 0 ≤ sufT cs n j by omega)
    have hz : ((k + 1 : Nat) : Int) - 1 = (k : Nat) := by omega
    have w1 : wr .i64 (vs.getD k 0 * sufT cs n j) = vs.getD k 0 * sufT cs n j := wr6 (by omega) (by omega)
    have w2 : wr .i64 (dT cs vs n j + vs.getD k 0 * sufT cs n j) = dT cs vs n (j + 1) := by rw [← e1]; exact wr6 (by omega) (by omega)
    have w3 : wr .i64 (sufT cs n j * cs.getD k 0) = sufT cs n (j + 1) := by rw [← e2]; exact wr6 (by omega) (by omega)
    refine .inl ⟨j + 1, [], [yes 12, pl 18, ld 19 (i6 (vs.getD k 0)), nu 21 (vs.getD k 0 * sufT cs n j), nu 22 (dT cs vs n (j + 1)), pl 26, ld 27 (i6 (cs.getD k 0)), nu 28 (sufT cs n (j + 1)), nu 14 ((k : Int) - 1)], 1000, by omega, by omega, ?_⟩
    show vc _ _ _ _ _ _ _ _ (mkSt g0 30 { sl := [(0, .im n (ints cs)), (1, .im n (ints vs)), (5, i6 (dT cs vs n j)), (6, i6 (sufT cs n j)), (7, i6 (((n - j : Nat) : Int) - 1))] }) (kNext 0 30 _ { sl := [(0, .im n (ints cs)), (1, .im n (ints vs)), (5, i6 (dT cs vs n (j + 1))), (6, i6 (sufT cs n (j + 1))), (7, i6 (((n - (j + 1) : Nat) : Int) - 1))] })
    rw [hk1, hk3, hz]
    clear hv hs hc e1 e2
    refine Eq.mp (by kernel_rfl : (decide ((↑k : Int) ≥ (0 : Int)) = true ∧ ((0 : Int) ≤ (↑k : Int) ∧ (↑k : Int) < (↑n : Int)) ∧ headF (List.drop (k * 1) (ints vs)) = some (i6 (List.getD vs k (0 : Int))) ∧ wr IntKind.i64 (List.getD vs k (0 : Int) * sufT cs n j) = List.getD vs k (0 : Int) * sufT cs n j ∧ wr IntKind.i64 (dT cs vs n j + List.getD vs k (0 : Int) * sufT cs n j) = dT cs vs n (j + 1) ∧ ((0 : Int) ≤ (↑k : Int) ∧ (↑k : Int) < (↑n : Int)) ∧ headF (List.drop (k * 1) (ints cs)) = some (i6 (List.getD cs k (0 : Int))) ∧ wr IntKind.i64 (sufT cs n j * List.getD cs k (0 : Int)) = sufT cs n (j + 1) ∧ wr IntKind.i64 ((↑k : Int) - (1 : Int)) = (↑k : Int) - (1 : Int) ∧ ((n = n ∧ ints cs = ints cs) ∧ (n = n ∧ ints vs = ints vs) ∧ dT cs vs n (j + 1) = dT cs vs n (j + 1) ∧ sufT cs n (j + 1) = sufT cs n (j + 1) ∧ (↑k : Int) - (1 : Int) = (↑k : Int) - (1 : Int) ∧ True) ∧ True) = _) ?_
    (repeat' (first | (with_reducible apply And.intro) | (refine fun (_ : True) => ?_))) <;> first | exact aq | skip
    all_goals first | exact w1 | exact w2 | exact w3 | rfl | skip
  · have : j = n := by omega
    subst this
    have hz : ((j - j : Nat) : Int) - 1 = -1 := by omega
    rw [idx_all]
    refine .inr ⟨.exit 0, [], { sl := [(5, i6 (dT cs vs j j))] }, [], 1000, .inl ⟨trivial, rfl, rfl⟩, ?_⟩
    show vc _ _ _ _ _ _ _ _ (mkSt g0 30 { sl := [(0, .im j (ints cs)), (1, .im j (ints vs)), (5, i6 (dT cs vs j j)), (6, i6 (sufT cs j j)), (7, i6 (((j - j : Nat) : Int) - 1))] }) _
    rw [hz]
    clear hv hs hc
    refine Eq.mp (by kernel_rfl : ((dT cs vs j j = dT cs vs j j ∧ True) ∧ True) = _) ?_
    (repeat' (first | (with_reducible apply And.intro) | (refine fun (_ : True) => ?_))) <;> first | exact aq | skip
theorem ridx_fn (cs vs : List Int) (n : Nat) (h1 : n = cs.length) (h2 : n = vs.length) (hn : n ≤ 1000) (hv : valT cs vs n) (hs : ∀ j, j ≤ n → 1 ≤ sufT cs n j ∧ sufT cs n j ≤ 4096) (hc : ∀ i, i < n → cs.getD i 0 ≤ 4096) : FnOk Pg g0 74 [.im n (ints cs), .im n (ints vs)] (i6 (idxT cs vs n)) := by
  have l := ridx_loop cs vs n h1 h2 hn hv hs hc
  clear hv hs hc
  have e0 : dT cs vs n 0 = 0 := rfl
  have e1 : sufT cs n 0 = 1 := rfl
  refine FnOk.of_vc vE_ok mixed sp0_ok (n := 1000) (r := []) (S := { sl := [(4, i6 (idxT cs vs n))] }) (hs := [nu 10 ((n : Int) - 1), (0, .loop [] (ixS cs vs n 0) [(True, .exit 0, { sl := [(5, i6 (idxT cs vs n))] })])]) ?_
  refine Eq.mp (by kernel_rfl : (i6 (idxT cs vs n) = i6 (idxT cs vs n) ∧ wr IntKind.i64 ((↑n : Int) - (1 : Int)) = (↑n : Int) - (1 : Int) ∧ (((n = n ∧ ints cs = ints cs) ∧ (n = n ∧ ints vs = ints vs) ∧ dT cs vs n 0 = (0 : Int) ∧ sufT cs n 0 = (1 : Int) ∧ (↑(n - 0) : Int) - (1 : Int) = (↑n : Int) - (1 : Int) ∧ True) ∧ True) ∧ Sat Try.prog none 0 (at' 74 [1, 1, 0, 1, 0]) (mkSt g0 30 (ixS cs vs n 0)) (outsP g0 30 [(True, Ex.exit 0, SL.mk [(5, i6 (idxT cs vs n))] [] [] [])]) ∧ (True → (idxT cs vs n = idxT cs vs n ∧ True) ∧ True) ∧ True) = _) ?_
  (repeat' (first | (with_reducible apply And.intro) | (refine fun (_ : True) => ?_))) <;> first | exact aq | skip
  all_goals first | rfl | skip
abbrev rzS (cs : List Int) (n k : Nat) : SL := { sl := [(0, .im n (ints cs)), (3, i6 (prodT cs k)), (4, i6 k)] }
theorem rsize_fn (cs : List Int) (n : Nat) (hn : n = cs.length) (h1000 : n ≤ 1000) (hp : ∀ k, k ≤ n → 0 ≤ prodT cs k ∧ prodT cs k ≤ 4096) : FnOk Pg g0 36 [.im n (ints cs)] (i6 (prodT cs n)) := by
  have l : Sat Pg none 0 (at' 36 [1, 1, 0, 1, 0]) (mkSt g0 18 (rzS cs n 0)) (outsP g0 18 [(True, .exit 0, { sl := [(3, i6 (prodT cs n))] })]) := by
    refine loopC vE_ok mixed sp0_ok (b := at' 36 [1, 1, 0, 1, 0, 0]) (by kernel_rfl) (fun k => k ≤ n) (rzS cs n) (fun k => n - k) (fun k hk => ?_) 0 (Nat.zero_le _)
    by_cases hlt : k < n
    · have g1 := @head_intsD cs k (by omega)
      have b1 := hp (k + 1) (by omega)
      have w1 : wr .i64 (prodT cs k * cs.getD k 0) = prodT cs (k + 1) := wr6 (by show _ ≤ prodT cs (k + 1); omega) (by show prodT cs (k + 1) ≤ _; omega)
      refine .inl ⟨k + 1, [], [yes 8, pl 14, ld 15 (i6 (cs.getD k 0)), nu 16 (prodT cs (k + 1)), nu 10 (k + 1 : Nat)], 1000, by omega, by omega, ?_⟩
      clear hp
      refine Eq.mp (by kernel_rfl : (decide ((↑k : Int) < (↑n : Int)) = true ∧ ((0 : Int) ≤ (↑k : Int) ∧ (↑k : Int) < (↑n : Int)) ∧ headF (List.drop (k * 1) (ints cs)) = some (i6 (List.getD cs k (0 : Int))) ∧ wr IntKind.i64 (prodT cs k * List.getD cs k (0 : Int)) = prodT cs (k + 1) ∧ wr IntKind.i64 ((↑k : Int) + (1 : Int)) = (↑(k + 1) : Int) ∧ ((n = n ∧ ints cs = ints cs) ∧ prodT cs (k + 1) = prodT cs (k + 1) ∧ (↑(k + 1) : Int) = (↑(k + 1) : Int) ∧ True) ∧ True) = _) ?_
      (repeat' (first | (with_reducible apply And.intro) | (refine fun (_ : True) => ?_))) <;> first | exact aq | skip
      all_goals first | exact w1 | skip
    · have : k = n := by omega
      subst this
      refine .inr ⟨.exit 0, [], { sl := [(3, i6 (prodT cs k))] }, [no 8], 1000, .inl ⟨trivial, rfl, rfl⟩, ?_⟩
      clear hp
      refine Eq.mp (by kernel_rfl : (decide ((↑k : Int) < (↑k : Int)) = false ∧ (prodT cs k = prodT cs k ∧ True) ∧ True) = _) ?_
      (repeat' (first | (with_reducible apply And.intro) | (refine fun (_ : True) => ?_))) <;> first | exact aq | skip
  clear hp
  refine FnOk.of_vc vE_ok mixed sp0_ok (n := 1000) (r := []) (S := { sl := [(2, i6 (prodT cs n))] }) (hs := [(0, .loop [] (rzS cs n 0) [(True, .exit 0, { sl := [(3, i6 (prodT cs n))] })])]) ?_
  refine Eq.mp (by kernel_rfl : (i6 (prodT cs n) = i6 (prodT cs n) ∧ (((n = n ∧ ints cs = ints cs) ∧ prodT cs 0 = (1 : Int) ∧ (↑(0 : Nat) : Int) = (0 : Int) ∧ True) ∧ True) ∧ Sat Try.prog none 0 (at' 36 [1, 1, 0, 1, 0]) (mkSt g0 18 (rzS cs n 0)) (outsP g0 18 [(True, Ex.exit 0, SL.mk [(3, i6 (prodT cs n))] [] [] [])]) ∧ (True → (prodT cs n = prodT cs n ∧ True) ∧ True) ∧ True) = _) ?_
  (repeat' (first | (with_reducible apply And.intro) | (refine fun (_ : True) => ?_))) <;> first | exact aq | skip
  all_goals first | rfl | skip
abbrev nrO (l : List Int) : List O := [.row 3 (some 1) (ints l)]
abbrev neS (cs : List Int) (q : Nat) (p : Nat × List Int) : SL := { sl := [(0, .im q (ints cs)), (6, .sl 0 0 q none), (7, i6 ((p.1 : Int) - 1))], os := nrO p.2 }
theorem next_loop (cs vs : List Int) (q : Nat) (h1 : cs.length = q) (h2 : vs.length = q) (h12 : q ≤ 12) (hc : ∀ i, i < q → 1 ≤ cs.getD i 0 ∧ cs.getD i 0 ≤ 8) (hval : valT cs vs q) :
    Sat Pg none 0 (at' 73 [1, 1, 1, 0, 1, 0]) (mkSt g0 40 (neS cs q (q, vs))) (outsP g0 40 [(nxB cs vs q = true, .ret, { sl := [(4, .sl 0 0 q none), (5, .bool true)], os := nrO (nxV cs vs q) }), (nxB cs vs q = false, .exit 0, { sl := [(6, .sl 0 0 q none)], os := nrO (nxV cs vs q) })]) := by
  refine loopC vE_ok mixed sp0_ok (b := at' 73 [1, 1, 1, 0, 1, 0, 0]) (by kernel_rfl) (fun p => p.1 ≤ q ∧ p.2.length = q ∧ valT cs p.2 q ∧ nxV cs p.2 p.1 = nxV cs vs q ∧ nxB cs p.2 p.1 = nxB cs vs q) (neS cs q) (fun p => p.1) (fun p hp => ?_) (q, vs) ⟨Nat.le_refl _, h2, hval, rfl, rfl⟩
  obtain ⟨k, row⟩ := p
  obtain ⟨hk, hl, hvr, e1, e2⟩ := hp
  dsimp only at hk hl hvr e1 e2
  have hH := HfL_ints (nxV cs vs q)
  cases k with
  | zero =>
    have e3 : nxV cs row 0 = row := rfl
    rw [← e1, ← e2, e3]
    have hH1 := HfL_ints row
    refine .inr ⟨.exit 0, [0], { sl := [(6, .sl 0 0 q none)], os := nrO row }, [], 1000, .inr (.inl ⟨rfl, rfl, rfl⟩), ?_⟩
    clear hvr hc e1 e2
    refine Eq.mp (by kernel_rfl : (((0 = 0 ∧ q = q ∧ True) ∧ True) ∧ (ints row = ints row ∧ HfL (ints row)) ∧ True) = _) ?_
    (repeat' (first | (with_reducible apply And.intro) | (refine fun (_ : True) => ?_))) <;> first | exact aq | skip
  | succ k =>
    have hb := hvr k (by omega)
    have hcb := hc k (by omega)
    have g1 := @head_row row k (by omega)
    have g2 := @head_intsD cs k (by omega)
    have g3 := @head_row (row.set k (row.getD k 0 + 1)) k (by simp; omega)
    rw [getD_set_self (by omega)] at g3
    have l1 := @lay_ints row k (row.getD k 0 + 1) (by omega)
    have hz : ((k + 1 : Nat) : Int) - 1 = (k : Nat) := by omega
    by_cases he : row.getD k 0 = cs.getD k 0 - 1
    · have e3 : nxV cs row (k + 1) = nxV cs (row.set k 0) k := by conv => lhs; unfold nxV; rw [if_pos he]
      have e4 : nxB cs row (k + 1) = nxB cs (row.set k 0) k := by conv => lhs; unfold nxB; rw [if_pos he]
      have l2 := @lay_ints (row.set k (row.getD k 0 + 1)) k 0 (by simp; omega)
      rw [List.set_set] at l2
      have hH2 := HfL_ints (row.set k 0)
      refine .inl ⟨(k, row.set k 0), [0], [pl 22, ld 23 (i6 (row.getD k 0)), nu 24 (row.getD k 0 + 1), pl 25, st (ints (row.set k (row.getD k 0 + 1))), pl 28, ld 29 (i6 (row.getD k 0 + 1)), pl 32, ld 33 (i6 (cs.getD k 0)), no 34, pl 38, st (ints (row.set k 0)), nu 17 ((k : Int) - 1)], 1000, ⟨by dsimp only; omega, by simpa using hl, fun i hi => by
        by_cases hik : k = i
        · subst hik; dsimp only; rw [getD_set_self (by omega)]; omega
        · dsimp only; rw [getD_set_ne hik]; exact hvr i hi, by dsimp only; rw [← e3, e1], by dsimp only; rw [← e4, e2]⟩, by dsimp only; omega, ?_⟩
      show vc _ _ _ _ _ _ _ _ (mkSt g0 40 { sl := [(0, .im q (ints cs)), (6, .sl 0 0 q none), (7, i6 (((k + 1 : Nat) : Int) - 1))], os := nrO row }) _
      rw [hz]
      clear hvr hc e1 e2 e3 e4 hval
      refine Eq.mp (by kernel_rfl : (((0 : Int) ≤ (↑k : Int) ∧ (↑k : Int) < (↑q : Int)) ∧ headF (dropF (0 + k * 1) (ints row)) = some (i6 (List.getD row k (0 : Int))) ∧ wr IntKind.i64 (List.getD row k (0 : Int) + (1 : Int)) = List.getD row k (0 : Int) + (1 : Int) ∧ ((0 : Int) ≤ (↑k : Int) ∧ (↑k : Int) < (↑q : Int)) ∧ layE (0 + k * 1) (ints row) [i6 (List.getD row k (0 : Int) + (1 : Int))] = some (ints (List.set row k (List.getD row k (0 : Int) + (1 : Int)))) ∧ ((0 : Int) ≤ (↑k : Int) ∧ (↑k : Int) < (↑q : Int)) ∧ headF (dropF (0 + k * 1) (ints (List.set row k (List.getD row k (0 : Int) + (1 : Int))))) = some (i6 (List.getD row k (0 : Int) + (1 : Int))) ∧ ((0 : Int) ≤ (↑k : Int) ∧ (↑k : Int) < (↑q : Int)) ∧ headF (List.drop (k * 1) (ints cs)) = some (i6 (List.getD cs k (0 : Int))) ∧ decide (List.getD row k (0 : Int) + (1 : Int) < List.getD cs k (0 : Int)) = false ∧ ((0 : Int) ≤ (↑k : Int) ∧ (↑k : Int) < (↑q : Int)) ∧ layE (0 + k * 1) (ints (List.set row k (List.getD row k (0 : Int) + (1 : Int)))) [i6 0] = some (ints (List.set row k (0 : Int))) ∧ wr IntKind.i64 ((↑k : Int) - (1 : Int)) = (↑k : Int) - (1 : Int) ∧ ((q = q ∧ ints cs = ints cs) ∧ (0 = 0 ∧ q = q ∧ True) ∧ (↑k : Int) - (1 : Int) = (↑k : Int) - (1 : Int) ∧ True) ∧ (ints (List.set row k (0 : Int)) = ints (List.set row k (0 : Int)) ∧ HfL (ints (List.set row k (0 : Int)))) ∧ True) = _) ?_
      (repeat' (first | (with_reducible apply And.intro) | (refine fun (_ : True) => ?_))) <;> first | exact aq | skip
      all_goals first | exact l1 | exact l2 | exact g1 | exact g3 | rfl | skip
    · have e3 : nxV cs row (k + 1) = row.set k (row.getD k 0 + 1) := by conv => lhs; unfold nxV; rw [if_neg he]
      have e4 : nxB cs row (k + 1) = true := by conv => lhs; unfold nxB; rw [if_neg he]
      rw [← e1, ← e2, e3, e4]
      have hH2 := HfL_ints (row.set k (row.getD k 0 + 1))
      refine .inr ⟨.ret, [0], { sl := [(4, .sl 0 0 q none), (5, .bool true)], os := nrO (row.set k (row.getD k 0 + 1)) }, [pl 22, ld 23 (i6 (row.getD k 0)), nu 24 (row.getD k 0 + 1), pl 25, st (ints (row.set k (row.getD k 0 + 1))), pl 28, ld 29 (i6 (row.getD k 0 + 1)), pl 32, ld 33 (i6 (cs.getD k 0)), yes 34], 1000, .inl ⟨rfl, rfl, rfl⟩, ?_⟩
      show vc _ _ _ _ _ _ _ _ (mkSt g0 40 { sl := [(0, .im q (ints cs)), (6, .sl 0 0 q none), (7, i6 (((k + 1 : Nat) : Int) - 1))], os := nrO row }) _
      rw [hz]
      clear hvr hc e1 e2 e3 e4 hval
      refine Eq.mp (by kernel_rfl : (((0 : Int) ≤ (↑k : Int) ∧ (↑k : Int) < (↑q : Int)) ∧ headF (dropF (0 + k * 1) (ints row)) = some (i6 (List.getD row k (0 : Int))) ∧ wr IntKind.i64 (List.getD row k (0 : Int) + (1 : Int)) = List.getD row k (0 : Int) + (1 : Int) ∧ ((0 : Int) ≤ (↑k : Int) ∧ (↑k : Int) < (↑q : Int)) ∧ layE (0 + k * 1) (ints row) [i6 (List.getD row k (0 : Int) + (1 : Int))] = some (ints (List.set row k (List.getD row k (0 : Int) + (1 : Int)))) ∧ ((0 : Int) ≤ (↑k : Int) ∧ (↑k : Int) < (↑q : Int)) ∧ headF (dropF (0 + k * 1) (ints (List.set row k (List.getD row k (0 : Int) + (1 : Int))))) = some (i6 (List.getD row k (0 : Int) + (1 : Int))) ∧ ((0 : Int) ≤ (↑k : Int) ∧ (↑k : Int) < (↑q : Int)) ∧ headF (List.drop (k * 1) (ints cs)) = some (i6 (List.getD cs k (0 : Int))) ∧ decide (List.getD row k (0 : Int) + (1 : Int) < List.getD cs k (0 : Int)) = true ∧ ((0 = 0 ∧ q = q ∧ True) ∧ true = true ∧ True) ∧ (ints (List.set row k (List.getD row k (0 : Int) + (1 : Int))) = ints (List.set row k (List.getD row k (0 : Int) + (1 : Int))) ∧ HfL (ints (List.set row k (List.getD row k (0 : Int) + (1 : Int))))) ∧ True) = _) ?_
      (repeat' (first | (with_reducible apply And.intro) | (refine fun (_ : True) => ?_))) <;> first | exact aq | skip
      all_goals first | exact l1 | exact g1 | exact g3 | rfl | skip
theorem next_fn (cs vs : List Int) (q : Nat) (h1 : cs.length = q) (h2 : vs.length = q) (h12 : q ≤ 12) (hc : ∀ i, i < q → 1 ≤ cs.getD i 0 ∧ cs.getD i 0 ≤ 8) (hval : valT cs vs q) : FnOk Pg g0 73 [.im q (ints cs), .im q (ints vs)] (.tup [.im q (ints (nxV cs vs q)), .bool (nxB cs vs q)]) := by
  cases q with
  | zero =>
    have z1 : cs = [] := List.eq_nil_of_length_eq_zero h1
    have z2 : vs = [] := List.eq_nil_of_length_eq_zero h2
    subst z1 z2
    show FnOk Pg g0 73 [.im 0 [], .im 0 []] (.tup [.im 0 [], .bool false])
    refine FnOk.of_vc vE_ok mixed sp0_ok (n := 1000) (r := []) (S := { sl := [(4, .im 0 []), (5, .bool false)] }) (hs := [(0, .unroll 1)]) ?_
    refine Eq.mp (by kernel_rfl : (V.tup [V.im 0 [], V.bool false] = V.tup [V.im 0 [], V.bool false] ∧ (0 = 0 ∧ false = false ∧ True) ∧ True) = _) ?_
    (repeat' (first | (with_reducible apply And.intro) | (refine fun (_ : True) => ?_))) <;> first | exact aq | skip
  | succ k =>
    have l := next_loop cs vs (k + 1) h1 h2 h12 hc hval
    have hsrc : ∀ H' : T O, srcV H' 1 (.im (k + 1) (ints vs)) = some (k + 1, ints vs) := fun H' => by
      unfold srcV
      dsimp only
      rw [ints_length, h2, Nat.mul_one, show Nat.ble (k + 1) (k + 1) = true from Nat.ble_eq_true_of_le (Nat.le_refl _), cond_true, List.take_of_length_le (by rw [ints_length]; omega)]
    have hH := HfL_ints vs
    have hH2 := HfL_ints (nxV cs vs (k + 1))
    clear hc hval
    refine FnOk.of_vc vE_ok mixed sp0_ok (n := 1000) (r := []) (S := { sl := [(4, .im (k + 1) (ints (nxV cs vs (k + 1)))), (5, .bool (nxB cs vs (k + 1)))] }) (hs := [(10, .an (k + 1) (ints vs)), nu 13 (k : Nat), (0, .loop [0] (neS cs (k + 1) (k + 1, vs)) [(nxB cs vs (k + 1) = true, .ret, { sl := [(4, .sl 0 0 (k + 1) none), (5, .bool true)], os := nrO (nxV cs vs (k + 1)) }), (nxB cs vs (k + 1) = false, .exit 0, { sl := [(6, .sl 0 0 (k + 1) none)], os := nrO (nxV cs vs (k + 1)) })])]) ?_
    generalize nxV cs vs (k + 1) = V at *
    refine Eq.mp (by kernel_rfl : (Am.V.tup [Am.V.im (k + 1) (ints V), Am.V.bool (nxB cs vs (k + 1))] = Am.V.tup [Am.V.im (k + 1) (ints V), Am.V.bool (nxB cs vs (k + 1))] ∧ (srcV T.e 1 (Am.V.im (k + 1) (ints vs)) = some (k + 1, ints vs) ∧ k + 1 ≤ 9223372036854775807 ∧ (k + 1) * 8 ≤ 140737488355328) ∧ wr IntKind.i64 ((↑(k + 1) : Int) - (1 : Int)) = (↑k : Int) ∧ (((k + 1 = k + 1 ∧ ints cs = ints cs) ∧ (0 = 0 ∧ k + 1 = k + 1 ∧ True) ∧ (↑(k + 1) : Int) - (1 : Int) = (↑k : Int) ∧ True) ∧ (ints vs = ints vs ∧ HfL (ints vs)) ∧ True) ∧ Sat Try.prog none 0 (at' 73 [1, 1, 1, 0, 1, 0]) (mkSt g0 40 (neS cs (k + 1) (k + 1, vs))) (outsP g0 40 [(nxB cs vs (k + 1) = true, Ex.ret, SL.mk [(4, Am.V.sl 0 0 (k + 1) none), (5, Am.V.bool true)] (nrO V) [] []), (nxB cs vs (k + 1) = false, Ex.exit 0, SL.mk [(6, Am.V.sl 0 0 (k + 1) none)] (nrO V) [] [])]) ∧ (nxB cs vs (k + 1) = true → ((k + 1 = k + 1 ∧ ints V = ints V ∧ HfL (ints V)) ∧ nxB cs vs (k + 1) = true ∧ True) ∧ True) ∧ (nxB cs vs (k + 1) = false → ((k + 1 = k + 1 ∧ ints V = ints V ∧ HfL (ints V)) ∧ nxB cs vs (k + 1) = false ∧ True) ∧ True) ∧ True) = _) ?_
    (repeat' (first | (with_reducible apply And.intro) | (refine fun (_ : True) => ?_))) <;> first | exact aq | skip
    all_goals first | exact hsrc _ | rfl | (intro h9; rw [h9]; (repeat' (first | (with_reducible apply And.intro) | (refine fun (_ : True) => ?_))); all_goals first | exact aq | rfl | skip) | skip
end Go.Proofs.Ytgdnmgcigkhojaa.Am

namespace Go.Proofs.Ytgdnmgcigkhojaa.Am
open Go.RowKit
set_option linter.unusedVariables false
set_option maxHeartbeats 1000000
set_option maxRecDepth 100000
def allF (cs : List Int) (q j : Nat) : List V := [.im q (ints (cmb cs j))]
theorem allF_len (cs : List Int) (q j : Nat) : (allF cs q j).length = 1 := rfl
theorem HfL_allF (cs : List Int) (q j : Nat) : HfL (allF cs q j) := ⟨trivial, trivial⟩
def owL (cs : List Int) (q : Nat) : Nat → List O
  | 0 => []
  | j + 1 => [.row 29 (some 1) (blF (allF cs q) (j + 1))]
abbrev alS (cs : List Int) (q : Nat) (p : Nat × Bool) : SL := { sl := [(0, .im q (ints cs)), (3, owV 0 p.1), (4, .im q (ints (cmb cs p.1))), (5, .bool p.2)], os := owL cs q p.1 }
theorem all_loop (cs : List Int) (q : Nat) (hq : cs.length = q) (h12 : q ≤ 12) (hc : ∀ i, i < q → 1 ≤ cs.getD i 0 ∧ cs.getD i 0 ≤ 8) (P : Nat) (hP : (P : Int) = prodT cs q) (hP0 : 1 ≤ P) (hPb : P ≤ 4096) :
    Sat Pg none 0 (at' 47 [1, 1, 1, 1, 0, 0]) (mkSt g0 21 (alS cs q (0, true))) (outsP g0 21 [(True, .exit 0, { sl := [(3, .im P (blF (allF cs q) P))] })]) := by
  refine loopC vE_ok mixed sp0_ok (b := at' 47 [1, 1, 1, 1, 0, 0, 0]) (by kernel_rfl) (fun p => p.1 ≤ P ∧ p.2 = decide (p.1 < P)) (alS cs q) (fun p => (P - p.1) + (if p.2 then 1 else 0)) (fun p hp => ?_) (0, true) ⟨Nat.zero_le _, by rw [decide_eq_true (by omega)]⟩
  obtain ⟨j, b⟩ := p
  obtain ⟨hj, hb⟩ := hp
  dsimp only at hj hb
  have hH := HfL_blF (HfL_allF cs q) j
  have hH1 := HfL_blF (HfL_allF cs q) (j + 1)
  cases b with
  | true =>
    have hlt : j < P := of_decide_eq_true hb.symm
    obtain ⟨hval, _⟩ := @cmb_ok cs (fun i hi => (hc i (by omega)).1) j (by rw [hq]; omega)
    have hmore := @cmb_more cs (fun i hi => (hc i (by omega)).1) j (by rw [hq]; omega)
    have hl := cmb_len cs j
    rw [hq] at hval hmore hl
    have hn := next_fn cs (cmb cs j) q hq hl h12 hc hval
    rw [show nxV cs (cmb cs j) q = cmb cs (j + 1) by rw [cmb, hq], hmore] at hn
    have hb2 : decide ((j : Int) + 1 < prodT cs q) = decide (j + 1 < P) := by rw [← hP]; congr 1; exact propext ⟨fun h => by omega, fun h => by omega⟩
    rw [hb2] at hn
    have hs := blF_succ (allF cs q) j
    rw [show allF cs q j = [.im q (ints (cmb cs j))] from rfl] at hs
    have hlen := blF_len (allF_len cs q) j
    have hm : P - (j + 1) + (if decide (j + 1 < P) = true then 1 else 0) < P - j + (if true = true then 1 else 0) := by split <;> simp <;> omega
    cases j with
    | zero =>
      refine .inl ⟨(1, decide (0 + 1 < P)), [1], [fn 17 (.tup [.im q (ints (cmb cs (0 + 1))), .bool (decide (0 + 1 < P))])], 1000, ⟨hlt, rfl⟩, hm, ?_⟩
      clear hval hmore hc hb2 hm
      generalize decide (0 + 1 < P) = b' at *
      refine Eq.mp (by kernel_rfl : ((True ∧ True ∧ True) ∧ FnOk Try.prog g0 73 [V.im q (ints cs), V.im q (ints (cmb cs 0))] (V.tup [V.im q (ints (cmb cs (0 + 1))), V.bool b']) ∧ True ∧ ((q = q ∧ ints cs = ints cs) ∧ (0 = 0 ∧ 0 + 1 = 1 ∧ True) ∧ (q = q ∧ ints (cmb cs 1) = ints (cmb cs (0 + 1))) ∧ b' = b' ∧ True) ∧ (blF (allF cs q) (0 + 1) = [V.im q (ints (cmb cs 0))] ∧ True ∧ True) ∧ True) = _) ?_
      (repeat' (first | (with_reducible apply And.intro) | (refine fun (_ : True) => ?_))) <;> first | exact aq | skip
      all_goals first | rfl | skip
    | succ j =>
      refine .inl ⟨(j + 1 + 1, decide (j + 1 + 1 < P)), [2], [ap 13, fn 17 (.tup [.im q (ints (cmb cs (j + 1 + 1))), .bool (decide (j + 1 + 1 < P))])], 1000, ⟨hlt, rfl⟩, hm, ?_⟩
      clear hval hmore hc hb2 hm
      generalize decide (j + 1 + 1 < P) = b' at *
      refine Eq.mp (by kernel_rfl : (List.length (blF (allF cs q) (j + 1)) = (j + 1) * 1 ∧ j + 1 + 1 ≤ 9223372036854775807 ∧ (j + 1 + 1) * 24 ≤ 140737488355328 ∧ (True ∧ True ∧ True) ∧ FnOk Try.prog g0 73 [V.im q (ints cs), V.im q (ints (cmb cs (j + 1)))] (V.tup [V.im q (ints (cmb cs (j + 1 + 1))), V.bool b']) ∧ True ∧ ((q = q ∧ ints cs = ints cs) ∧ (0 = 0 ∧ Nat.succ j + 1 = j + 1 + 1 ∧ True) ∧ (q = q ∧ ints (cmb cs (j + 1 + 1)) = ints (cmb cs (j + 1 + 1))) ∧ b' = b' ∧ True) ∧ (blF (allF cs q) (Nat.succ j + 1) = blF (allF cs q) (j + 1) ++ [V.im q (ints (cmb cs (j + 1)))] ∧ HfL (blF (allF cs q) (Nat.succ j + 1))) ∧ True) = _) ?_
      (repeat' (first | (with_reducible apply And.intro) | (refine fun (_ : True) => ?_))) <;> first | exact aq | skip
      all_goals first | exact hlen | exact hs | exact hs.symm | rfl | omega | skip
  | false =>
    have : j = P := by have := of_decide_eq_false hb.symm; omega
    subst this
    obtain ⟨p, rfl⟩ : ∃ p, j = p + 1 := ⟨j - 1, by omega⟩
    refine .inr ⟨.exit 0, [], { sl := [(3, .im (p + 1) (blF (allF cs q) (p + 1)))] }, [], 1000, .inl ⟨trivial, rfl, rfl⟩, ?_⟩
    clear hc
    refine Eq.mp (by kernel_rfl : (((p + 1 = p + 1 ∧ blF (allF cs q) (p + 1) = blF (allF cs q) (p + 1) ∧ HfL (blF (allF cs q) (p + 1))) ∧ True) ∧ True) = _) ?_
    (repeat' (first | (with_reducible apply And.intro) | (refine fun (_ : True) => ?_))) <;> first | exact aq | skip
    all_goals first | rfl | skip
theorem all_fn (cs : List Int) (q : Nat) (hq : cs.length = q) (h12 : q ≤ 12) (hc : ∀ i, i < q → 1 ≤ cs.getD i 0 ∧ cs.getD i 0 ≤ 8) (P : Nat) (hP : (P : Int) = prodT cs q) (hP0 : 1 ≤ P) (hPb : P ≤ 4096) : FnOk Pg g0 47 [.im q (ints cs)] (.im P (blF (allF cs q) P)) := by
  have l := all_loop cs q hq h12 hc P hP hP0 hPb
  have hz : rep q [i6 0] = ints (cmb cs 0) := by rw [rep_ints, cmb, hq]
  have hH := HfL_blF (HfL_allF cs q) P
  have hH0 := HfL_ints (cmb cs 0)
  clear hc
  refine FnOk.of_vc vE_ok mixed sp0_ok (n := 1000) (r := []) (S := { sl := [(2, .im P (blF (allF cs q) P))] }) (hs := [mk 8, (0, .loop [] (alS cs q (0, true)) [(True, .exit 0, { sl := [(3, .im P (blF (allF cs q) P))] })])]) ?_
  refine Eq.mp (by kernel_rfl : (V.im P (blF (allF cs q) P) = V.im P (blF (allF cs q) P) ∧ ((0 : Int) ≤ (↑q : Int) ∧ (↑q : Int) ≤ (↑q : Int) ∧ (↑(8 : Nat) : Int) * (↑q : Int) ≤ (281474976710656 : Int) ∧ (↑q : Int) ≤ (9223372036854775807 : Int)) ∧ (((q = q ∧ ints cs = ints cs) ∧ True ∧ (q = q ∧ ints (cmb cs 0) = rep q [i6 0] ∧ HfL (rep q [i6 0])) ∧ true = true ∧ True) ∧ True) ∧ Sat Try.prog none 0 (at' 47 [1, 1, 1, 1, 0, 0]) (mkSt g0 21 (alS cs q (0, true))) (outsP g0 21 [(True, Ex.exit 0, SL.mk [(3, V.im P (blF (allF cs q) P))] [] [] [])]) ∧ (True → ((P = P ∧ blF (allF cs q) P = blF (allF cs q) P) ∧ True) ∧ True) ∧ True) = _) ?_
  (repeat' (first | (with_reducible apply And.intro) | (refine fun (_ : True) => ?_))) <;> first | exact aq | skip
  all_goals first | exact hz.symm | exact hz | rfl | skip
def rcF (f : Nat → Int) (vs cs : List Int) : Nat → (Nat → Int)
  | 0 => f
  | j + 1 => if rcF f vs cs j (vs.getD j 0).toNat = 0 then up64 (rcF f vs cs j) (vs.getD j 0).toNat (cs.getD j 0) else rcF f vs cs j
def rcG (f : Nat → Int) (g : Bool) (vs cs : List Int) : Nat → Bool
  | 0 => g
  | j + 1 => rcG f g vs cs j && decide (rcF f vs cs (j + 1) (vs.getD j 0).toNat = cs.getD j 0)
def raF (VS CS : Nat → List Int) : Nat → (Nat → Int)
  | 0 => fun _ => 0
  | k + 1 => rcF (raF VS CS k) (VS k) (CS k) (CS k).length
def raG (VS CS : Nat → List Int) : Nat → Bool
  | 0 => true
  | k + 1 => rcG (raF VS CS k) (raG VS CS k) (VS k) (CS k) (CS k).length
theorem rc_false {f : Nat → Int} {vs cs : List Int} : ∀ j, rcG f false vs cs j = false
  | 0 => rfl
  | j + 1 => by rw [rcG, rc_false j, Bool.false_and]
theorem rc_cF {f : Nat → Int} {vs cs : List Int} : ∀ j, cG f vs cs j = rcG f true vs cs j ∧ (cG f vs cs j = true → rcF f vs cs j = cF f vs cs j)
  | 0 => ⟨rfl, fun _ => rfl⟩
  | j + 1 => by
    obtain ⟨i1, i2⟩ := @rc_cF f vs cs j
    rw [cG_succ, rcG, ← i1]
    cases h : cG f vs cs j with
    | false => exact ⟨by simp, fun h' => by simp at h'⟩
    | true =>
      have e := i2 h
      rw [cF_succ, cG_succ, h, rcF, e]
      unfold okD
      rw [Bool.true_and, Bool.true_and]
      by_cases h0 : cF f vs cs j (vs.getD j 0).toNat = 0
      · rw [if_pos h0, decide_eq_true h0, Bool.true_or, if_pos rfl]
        refine ⟨?_, fun _ => rfl⟩
        simp [up64]
      · rw [if_neg h0, decide_eq_false h0, Bool.false_or]
        refine ⟨rfl, fun h1 => ?_⟩
        rw [if_pos h1]
        funext v
        unfold up64
        split
        · rename_i hv
          rw [hv]; exact of_decide_eq_true h1
        · rfl
theorem ra_aF {VS CS : Nat → List Int} : ∀ k, aG VS CS k = raG VS CS k ∧ (aG VS CS k = true → raF VS CS k = aF VS CS k)
  | 0 => ⟨rfl, fun _ => rfl⟩
  | k + 1 => by
    obtain ⟨i1, i2⟩ := @ra_aF VS CS k
    cases h : aG VS CS k with
    | false =>
      rw [(aG_stop h 1).1, raG, ← i1, h, rc_false]
      exact ⟨rfl, fun h' => by simp at h'⟩
    | true =>
      have e := i2 h
      have hc := @rc_cF (aF VS CS k) (VS k) (CS k) (CS k).length
      rw [aG_succ h, aF_succ h, raG, raF, ← i1, h, e]
      exact ⟨hc.1, hc.2⟩
abbrev riS' (c : List V) (m k : Nat) (f : Nat → Int) (g : Bool) (vs cs : List Int) (p : Nat × Bool) : SL := { sl := [(0, .im m c), (4, .sl 0 0 64 (some 0)), (5, .bool p.2), (6, i6 k), (7, i6 p.1)], os := [.row 3 none (a64 (rcF f vs cs p.1))] }
abbrev riX (c : List V) (m k : Nat) (f : Nat → Int) (g : Bool) : SL := { sl := [(0, .im m c), (4, .sl 0 0 64 (some 0)), (5, .bool g), (6, i6 k)], os := [.row 3 none (a64 f)] }
theorem rc_loop1 (c : List V) (hL : HfL c) (m k : Nat) (hk : k < m) (hm : m ≤ 1000) (f : Nat → Int) (g : Bool) (vs cs : List Int) (q : Nat) (h1 : q = vs.length) (h2 : q = cs.length) (hq : q ≤ 12) (hv : ∀ j, j < q → 0 ≤ vs.getD j 0 ∧ vs.getD j 0 ≤ 63) (W : V) (rest : List V) (hd : c.drop (k * 3) = .im q (ints vs) :: .im q (ints cs) :: W :: rest) :
    Sat Pg none 0 (at' 13 [1, 1, 1, 0, 1, 0, 0, 1, 0, 0, 1, 0]) (mkSt g0 68 (riS' c m k f g vs cs (0, g))) (outsP g0 68 [(True, .exit 2, riX c m k (rcF f vs cs q) (rcG f g vs cs q))]) := by
  refine loopC vE_ok mixed sp0_ok (b := at' 13 [1, 1, 1, 0, 1, 0, 0, 1, 0, 0, 1, 0, 0]) (by kernel_rfl) (fun p => p.1 ≤ q ∧ p.2 = rcG f g vs cs p.1) (riS' c m k f g vs cs) (fun p => q - p.1) (fun p hp => ?_) (0, g) ⟨Nat.zero_le _, rfl⟩
  obtain ⟨j, b⟩ := p
  obtain ⟨hj, hb⟩ := hp
  dsimp only at hj hb
  have hS2 := HfL_a64 (rcF f vs cs j)
  have hS3 := HfL_a64 (rcF f vs cs (j + 1))
  by_cases hlt : j < q
  · have l1 := @head_intsD vs j (by omega)
    have l2 := @head_intsD cs j (by omega)
    obtain ⟨v, hvv⟩ : ∃ v : Nat, vs.getD j 0 = v := ⟨(vs.getD j 0).toNat, by have := hv j hlt; omega⟩
    have hbv := hv j hlt
    have ev : (vs.getD j 0).toNat = v := by omega
    have hh : headF (dropF (0 + (vs.getD j 0).toNat * 1) (a64 (rcF f vs cs j))) = some (i6 (rcF f vs cs j v)) := by rw [ev, Nat.zero_add, Nat.mul_one]; exact head64 (by omega)
    have hh1 : headF (dropF (0 + (vs.getD j 0).toNat * 1) (a64 (rcF f vs cs (j + 1)))) = some (i6 (rcF f vs cs (j + 1) v)) := by rw [ev, Nat.zero_add, Nat.mul_one]; exact head64 (by omega)
    have hl : layE (0 + (vs.getD j 0).toNat * 1) (a64 (rcF f vs cs j)) [i6 (cs.getD j 0)] = some (a64 (up64 (rcF f vs cs j) v (cs.getD j 0))) := by rw [ev, Nat.zero_add, Nat.mul_one]; exact lay64 (by omega)
    have e2 : rcF f vs cs (j + 1) = if rcF f vs cs j v = 0 then up64 (rcF f vs cs j) v (cs.getD j 0) else rcF f vs cs j := by rw [rcF, ev]
    have e1 : rcG f g vs cs (j + 1) = (b && decide (rcF f vs cs (j + 1) v = cs.getD j 0)) := by rw [rcG, ev, hb]
    clear hv
    by_cases g1 : rcF f vs cs j v = 0
    · rw [if_pos g1] at e2
      rw [← e2] at hl
      cases b with
      | true =>
        rw [Bool.true_and] at e1
        by_cases g2 : rcF f vs cs (j + 1) v = cs.getD j 0
        · rw [decide_eq_true g2] at e1
          refine .inl ⟨(j + 1, true), [0], [pl 19, ld 21 (.im q (ints vs)), yes 23, pl 28, ld 30 (.im q (ints vs)), pl 32, ld 33 (i6 (vs.getD j 0)), pl 36, ld 37 (i6 (rcF f vs cs j v)), yes 38, pl 43, ld 45 (.im q (ints cs)), pl 47, ld 48 (i6 (cs.getD j 0)), pl 49, st (a64 (rcF f vs cs (j + 1))), pl 54, ld 55 (i6 (rcF f vs cs (j + 1) v)), pl 58, ld 60 (.im q (ints cs)), pl 62, ld 63 (i6 (cs.getD j 0)), yes 64, nu 25 (j + 1 : Nat)], 1000, ⟨by dsimp only; omega, e1.symm⟩, by dsimp only; omega, ?_⟩
          clear e1 e2 hb
          refine Eq.mp (by kernel_rfl : (((0 : Int) ≤ (↑k : Int) ∧ (↑k : Int) < (↑m : Int)) ∧ headF (List.drop 0 (List.drop (k * 3) c)) = some (V.im q (ints vs)) ∧ decide ((↑j : Int) < (↑q : Int)) = true ∧ ((0 : Int) ≤ (↑k : Int) ∧ (↑k : Int) < (↑m : Int)) ∧ headF (List.drop 0 (List.drop (k * 3) c)) = some (V.im q (ints vs)) ∧ ((0 : Int) ≤ (↑j : Int) ∧ (↑j : Int) < (↑q : Int)) ∧ headF (List.drop (j * 1) (ints vs)) = some (i6 (List.getD vs j (0 : Int))) ∧ ((0 : Int) ≤ List.getD vs j (0 : Int) ∧ List.getD vs j (0 : Int) < (↑(64 : Nat) : Int)) ∧ headF (dropF (0 + Int.toNat (List.getD vs j (0 : Int)) * 1) (a64 (rcF f vs cs j))) = some (i6 (rcF f vs cs j v)) ∧ (rcF f vs cs j v == (0 : Int)) = true ∧ ((0 : Int) ≤ (↑k : Int) ∧ (↑k : Int) < (↑m : Int)) ∧ headF (List.drop 1 (List.drop (k * 3) c)) = some (V.im q (ints cs)) ∧ ((0 : Int) ≤ (↑j : Int) ∧ (↑j : Int) < (↑q : Int)) ∧ headF (List.drop (j * 1) (ints cs)) = some (i6 (List.getD cs j (0 : Int))) ∧ ((0 : Int) ≤ List.getD vs j (0 : Int) ∧ List.getD vs j (0 : Int) < (↑(64 : Nat) : Int)) ∧ layE (0 + Int.toNat (List.getD vs j (0 : Int)) * 1) (a64 (rcF f vs cs j)) [i6 (List.getD cs j (0 : Int))] = some (a64 (rcF f vs cs (j + 1))) ∧ ((0 : Int) ≤ List.getD vs j (0 : Int) ∧ List.getD vs j (0 : Int) < (↑(64 : Nat) : Int)) ∧ headF (dropF (0 + Int.toNat (List.getD vs j (0 : Int)) * 1) (a64 (rcF f vs cs (j + 1)))) = some (i6 (rcF f vs cs (j + 1) v)) ∧ ((0 : Int) ≤ (↑k : Int) ∧ (↑k : Int) < (↑m : Int)) ∧ headF (List.drop 1 (List.drop (k * 3) c)) = some (V.im q (ints cs)) ∧ ((0 : Int) ≤ (↑j : Int) ∧ (↑j : Int) < (↑q : Int)) ∧ headF (List.drop (j * 1) (ints cs)) = some (i6 (List.getD cs j (0 : Int))) ∧ (rcF f vs cs (j + 1) v == List.getD cs j (0 : Int)) = true ∧ wr IntKind.i64 ((↑j : Int) + (1 : Int)) = (↑(j + 1) : Int) ∧ ((m = m ∧ c = c) ∧ (0 = 0 ∧ 64 = 64 ∧ 0 = 0) ∧ true = true ∧ (↑k : Int) = (↑k : Int) ∧ (↑(j + 1) : Int) = (↑(j + 1) : Int) ∧ True) ∧ (a64 (rcF f vs cs (j + 1)) = a64 (rcF f vs cs (j + 1)) ∧ TT 64) ∧ True) = _) ?_
          (repeat' (first | (with_reducible apply And.intro) | (refine fun (_ : True) => ?_))) <;> first | exact aq | skip
          all_goals first | exact hh | exact hh1 | exact hl | (rw [hd]; rfl) | rfl | exact HfL_a64 _ | skip
        · rw [decide_eq_false g2] at e1
          refine .inl ⟨(j + 1, false), [0], [pl 19, ld 21 (.im q (ints vs)), yes 23, pl 28, ld 30 (.im q (ints vs)), pl 32, ld 33 (i6 (vs.getD j 0)), pl 36, ld 37 (i6 (rcF f vs cs j v)), yes 38, pl 43, ld 45 (.im q (ints cs)), pl 47, ld 48 (i6 (cs.getD j 0)), pl 49, st (a64 (rcF f vs cs (j + 1))), pl 54, ld 55 (i6 (rcF f vs cs (j + 1) v)), pl 58, ld 60 (.im q (ints cs)), pl 62, ld 63 (i6 (cs.getD j 0)), no 64, nu 25 (j + 1 : Nat)], 1000, ⟨by dsimp only; omega, e1.symm⟩, by dsimp only; omega, ?_⟩
          clear e1 e2 hb
          refine Eq.mp (by kernel_rfl : (((0 : Int) ≤ (↑k : Int) ∧ (↑k : Int) < (↑m : Int)) ∧ headF (List.drop 0 (List.drop (k * 3) c)) = some (V.im q (ints vs)) ∧ decide ((↑j : Int) < (↑q : Int)) = true ∧ ((0 : Int) ≤ (↑k : Int) ∧ (↑k : Int) < (↑m : Int)) ∧ headF (List.drop 0 (List.drop (k * 3) c)) = some (V.im q (ints vs)) ∧ ((0 : Int) ≤ (↑j : Int) ∧ (↑j : Int) < (↑q : Int)) ∧ headF (List.drop (j * 1) (ints vs)) = some (i6 (List.getD vs j (0 : Int))) ∧ ((0 : Int) ≤ List.getD vs j (0 : Int) ∧ List.getD vs j (0 : Int) < (↑(64 : Nat) : Int)) ∧ headF (dropF (0 + Int.toNat (List.getD vs j (0 : Int)) * 1) (a64 (rcF f vs cs j))) = some (i6 (rcF f vs cs j v)) ∧ (rcF f vs cs j v == (0 : Int)) = true ∧ ((0 : Int) ≤ (↑k : Int) ∧ (↑k : Int) < (↑m : Int)) ∧ headF (List.drop 1 (List.drop (k * 3) c)) = some (V.im q (ints cs)) ∧ ((0 : Int) ≤ (↑j : Int) ∧ (↑j : Int) < (↑q : Int)) ∧ headF (List.drop (j * 1) (ints cs)) = some (i6 (List.getD cs j (0 : Int))) ∧ ((0 : Int) ≤ List.getD vs j (0 : Int) ∧ List.getD vs j (0 : Int) < (↑(64 : Nat) : Int)) ∧ layE (0 + Int.toNat (List.getD vs j (0 : Int)) * 1) (a64 (rcF f vs cs j)) [i6 (List.getD cs j (0 : Int))] = some (a64 (rcF f vs cs (j + 1))) ∧ ((0 : Int) ≤ List.getD vs j (0 : Int) ∧ List.getD vs j (0 : Int) < (↑(64 : Nat) : Int)) ∧ headF (dropF (0 + Int.toNat (List.getD vs j (0 : Int)) * 1) (a64 (rcF f vs cs (j + 1)))) = some (i6 (rcF f vs cs (j + 1) v)) ∧ ((0 : Int) ≤ (↑k : Int) ∧ (↑k : Int) < (↑m : Int)) ∧ headF (List.drop 1 (List.drop (k * 3) c)) = some (V.im q (ints cs)) ∧ ((0 : Int) ≤ (↑j : Int) ∧ (↑j : Int) < (↑q : Int)) ∧ headF (List.drop (j * 1) (ints cs)) = some (i6 (List.getD cs j (0 : Int))) ∧ (rcF f vs cs (j + 1) v == List.getD cs j (0 : Int)) = false ∧ wr IntKind.i64 ((↑j : Int) + (1 : Int)) = (↑(j + 1) : Int) ∧ ((m = m ∧ c = c) ∧ (0 = 0 ∧ 64 = 64 ∧ 0 = 0) ∧ false = false ∧ (↑k : Int) = (↑k : Int) ∧ (↑(j + 1) : Int) = (↑(j + 1) : Int) ∧ True) ∧ (a64 (rcF f vs cs (j + 1)) = a64 (rcF f vs cs (j + 1)) ∧ TT 64) ∧ True) = _) ?_
          (repeat' (first | (with_reducible apply And.intro) | (refine fun (_ : True) => ?_))) <;> first | exact aq | skip
          all_goals first | exact hh | exact hh1 | exact hl | (rw [hd]; rfl) | rfl | exact HfL_a64 _ | skip
      | false =>
        rw [Bool.false_and] at e1
        refine .inl ⟨(j + 1, false), [0], [pl 19, ld 21 (.im q (ints vs)), yes 23, pl 28, ld 30 (.im q (ints vs)), pl 32, ld 33 (i6 (vs.getD j 0)), pl 36, ld 37 (i6 (rcF f vs cs j v)), yes 38, pl 43, ld 45 (.im q (ints cs)), pl 47, ld 48 (i6 (cs.getD j 0)), pl 49, st (a64 (rcF f vs cs (j + 1))), nu 25 (j + 1 : Nat)], 1000, ⟨by dsimp only; omega, e1.symm⟩, by dsimp only; omega, ?_⟩
        clear e1 e2 hb
        refine Eq.mp (by kernel_rfl : (((0 : Int) ≤ (↑k : Int) ∧ (↑k : Int) < (↑m : Int)) ∧ headF (List.drop 0 (List.drop (k * 3) c)) = some (V.im q (ints vs)) ∧ decide ((↑j : Int) < (↑q : Int)) = true ∧ ((0 : Int) ≤ (↑k : Int) ∧ (↑k : Int) < (↑m : Int)) ∧ headF (List.drop 0 (List.drop (k * 3) c)) = some (V.im q (ints vs)) ∧ ((0 : Int) ≤ (↑j : Int) ∧ (↑j : Int) < (↑q : Int)) ∧ headF (List.drop (j * 1) (ints vs)) = some (i6 (List.getD vs j (0 : Int))) ∧ ((0 : Int) ≤ List.getD vs j (0 : Int) ∧ List.getD vs j (0 : Int) < (↑(64 : Nat) : Int)) ∧ headF (dropF (0 + Int.toNat (List.getD vs j (0 : Int)) * 1) (a64 (rcF f vs cs j))) = some (i6 (rcF f vs cs j v)) ∧ (rcF f vs cs j v == (0 : Int)) = true ∧ ((0 : Int) ≤ (↑k : Int) ∧ (↑k : Int) < (↑m : Int)) ∧ headF (List.drop 1 (List.drop (k * 3) c)) = some (V.im q (ints cs)) ∧ ((0 : Int) ≤ (↑j : Int) ∧ (↑j : Int) < (↑q : Int)) ∧ headF (List.drop (j * 1) (ints cs)) = some (i6 (List.getD cs j (0 : Int))) ∧ ((0 : Int) ≤ List.getD vs j (0 : Int) ∧ List.getD vs j (0 : Int) < (↑(64 : Nat) : Int)) ∧ layE (0 + Int.toNat (List.getD vs j (0 : Int)) * 1) (a64 (rcF f vs cs j)) [i6 (List.getD cs j (0 : Int))] = some (a64 (rcF f vs cs (j + 1))) ∧ wr IntKind.i64 ((↑j : Int) + (1 : Int)) = (↑(j + 1) : Int) ∧ ((m = m ∧ c = c) ∧ (0 = 0 ∧ 64 = 64 ∧ 0 = 0) ∧ false = false ∧ (↑k : Int) = (↑k : Int) ∧ (↑(j + 1) : Int) = (↑(j + 1) : Int) ∧ True) ∧ (a64 (rcF f vs cs (j + 1)) = a64 (rcF f vs cs (j + 1)) ∧ TT 64) ∧ True) = _) ?_
        (repeat' (first | (with_reducible apply And.intro) | (refine fun (_ : True) => ?_))) <;> first | exact aq | skip
        all_goals first | exact hh | exact hh1 | exact hl | (rw [hd]; rfl) | rfl | exact HfL_a64 _ | skip
    · rw [if_neg g1] at e2
      rw [e2] at e1 hh1
      cases b with
      | true =>
        rw [Bool.true_and] at e1
        by_cases g2 : rcF f vs cs j v = cs.getD j 0
        · rw [decide_eq_true g2] at e1
          refine .inl ⟨(j + 1, true), [0], [pl 19, ld 21 (.im q (ints vs)), yes 23, pl 28, ld 30 (.im q (ints vs)), pl 32, ld 33 (i6 (vs.getD j 0)), pl 36, ld 37 (i6 (rcF f vs cs j v)), no 38, pl 54, ld 55 (i6 (rcF f vs cs j v)), pl 58, ld 60 (.im q (ints cs)), pl 62, ld 63 (i6 (cs.getD j 0)), yes 64, nu 25 (j + 1 : Nat)], 1000, ⟨by dsimp only; omega, e1.symm⟩, by dsimp only; omega, ?_⟩
          show vc _ _ _ _ _ _ _ _ _ (kNext 0 68 _ { sl := _, os := [.row 3 none (a64 (rcF f vs cs (j + 1)))] })
          rw [e2]
          clear e1 e2 hb
          refine Eq.mp (by kernel_rfl : (((0 : Int) ≤ (↑k : Int) ∧ (↑k : Int) < (↑m : Int)) ∧ headF (List.drop 0 (List.drop (k * 3) c)) = some (V.im q (ints vs)) ∧ decide ((↑j : Int) < (↑q : Int)) = true ∧ ((0 : Int) ≤ (↑k : Int) ∧ (↑k : Int) < (↑m : Int)) ∧ headF (List.drop 0 (List.drop (k * 3) c)) = some (V.im q (ints vs)) ∧ ((0 : Int) ≤ (↑j : Int) ∧ (↑j : Int) < (↑q : Int)) ∧ headF (List.drop (j * 1) (ints vs)) = some (i6 (List.getD vs j (0 : Int))) ∧ ((0 : Int) ≤ List.getD vs j (0 : Int) ∧ List.getD vs j (0 : Int) < (↑(64 : Nat) : Int)) ∧ headF (dropF (0 + Int.toNat (List.getD vs j (0 : Int)) * 1) (a64 (rcF f vs cs j))) = some (i6 (rcF f vs cs j v)) ∧ (rcF f vs cs j v == (0 : Int)) = false ∧ ((0 : Int) ≤ List.getD vs j (0 : Int) ∧ List.getD vs j (0 : Int) < (↑(64 : Nat) : Int)) ∧ headF (dropF (0 + Int.toNat (List.getD vs j (0 : Int)) * 1) (a64 (rcF f vs cs j))) = some (i6 (rcF f vs cs j v)) ∧ ((0 : Int) ≤ (↑k : Int) ∧ (↑k : Int) < (↑m : Int)) ∧ headF (List.drop 1 (List.drop (k * 3) c)) = some (V.im q (ints cs)) ∧ ((0 : Int) ≤ (↑j : Int) ∧ (↑j : Int) < (↑q : Int)) ∧ headF (List.drop (j * 1) (ints cs)) = some (i6 (List.getD cs j (0 : Int))) ∧ (rcF f vs cs j v == List.getD cs j (0 : Int)) = true ∧ wr IntKind.i64 ((↑j : Int) + (1 : Int)) = (↑(j + 1) : Int) ∧ ((m = m ∧ c = c) ∧ (0 = 0 ∧ 64 = 64 ∧ 0 = 0) ∧ true = true ∧ (↑k : Int) = (↑k : Int) ∧ (↑(j + 1) : Int) = (↑(j + 1) : Int) ∧ True) ∧ (a64 (rcF f vs cs j) = a64 (rcF f vs cs j) ∧ TT 64) ∧ True) = _) ?_
          (repeat' (first | (with_reducible apply And.intro) | (refine fun (_ : True) => ?_))) <;> first | exact aq | skip
          all_goals first | exact hh | exact hh1 | exact hl | (rw [hd]; rfl) | rfl | exact HfL_a64 _ | skip
        · rw [decide_eq_false g2] at e1
          refine .inl ⟨(j + 1, false), [0], [pl 19, ld 21 (.im q (ints vs)), yes 23, pl 28, ld 30 (.im q (ints vs)), pl 32, ld 33 (i6 (vs.getD j 0)), pl 36, ld 37 (i6 (rcF f vs cs j v)), no 38, pl 54, ld 55 (i6 (rcF f vs cs j v)), pl 58, ld 60 (.im q (ints cs)), pl 62, ld 63 (i6 (cs.getD j 0)), no 64, nu 25 (j + 1 : Nat)], 1000, ⟨by dsimp only; omega, e1.symm⟩, by dsimp only; omega, ?_⟩
          show vc _ _ _ _ _ _ _ _ _ (kNext 0 68 _ { sl := _, os := [.row 3 none (a64 (rcF f vs cs (j + 1)))] })
          rw [e2]
          clear e1 e2 hb
          refine Eq.mp (by kernel_rfl : (((0 : Int) ≤ (↑k : Int) ∧ (↑k : Int) < (↑m : Int)) ∧ headF (List.drop 0 (List.drop (k * 3) c)) = some (V.im q (ints vs)) ∧ decide ((↑j : Int) < (↑q : Int)) = true ∧ ((0 : Int) ≤ (↑k : Int) ∧ (↑k : Int) < (↑m : Int)) ∧ headF (List.drop 0 (List.drop (k * 3) c)) = some (V.im q (ints vs)) ∧ ((0 : Int) ≤ (↑j : Int) ∧ (↑j : Int) < (↑q : Int)) ∧ headF (List.drop (j * 1) (ints vs)) = some (i6 (List.getD vs j (0 : Int))) ∧ ((0 : Int) ≤ List.getD vs j (0 : Int) ∧ List.getD vs j (0 : Int) < (↑(64 : Nat) : Int)) ∧ headF (dropF (0 + Int.toNat (List.getD vs j (0 : Int)) * 1) (a64 (rcF f vs cs j))) = some (i6 (rcF f vs cs j v)) ∧ (rcF f vs cs j v == (0 : Int)) = false ∧ ((0 : Int) ≤ List.getD vs j (0 : Int) ∧ List.getD vs j (0 : Int) < (↑(64 : Nat) : Int)) ∧ headF (dropF (0 + Int.toNat (List.getD vs j (0 : Int)) * 1) (a64 (rcF f vs cs j))) = some (i6 (rcF f vs cs j v)) ∧ ((0 : Int) ≤ (↑k : Int) ∧ (↑k : Int) < (↑m : Int)) ∧ headF (List.drop 1 (List.drop (k * 3) c)) = some (V.im q (ints cs)) ∧ ((0 : Int) ≤ (↑j : Int) ∧ (↑j : Int) < (↑q : Int)) ∧ headF (List.drop (j * 1) (ints cs)) = some (i6 (List.getD cs j (0 : Int))) ∧ (rcF f vs cs j v == List.getD cs j (0 : Int)) = false ∧ wr IntKind.i64 ((↑j : Int) + (1 : Int)) = (↑(j + 1) : Int) ∧ ((m = m ∧ c = c) ∧ (0 = 0 ∧ 64 = 64 ∧ 0 = 0) ∧ false = false ∧ (↑k : Int) = (↑k : Int) ∧ (↑(j + 1) : Int) = (↑(j + 1) : Int) ∧ True) ∧ (a64 (rcF f vs cs j) = a64 (rcF f vs cs j) ∧ TT 64) ∧ True) = _) ?_
          (repeat' (first | (with_reducible apply And.intro) | (refine fun (_ : True) => ?_))) <;> first | exact aq | skip
          all_goals first | exact hh | exact hh1 | exact hl | (rw [hd]; rfl) | rfl | exact HfL_a64 _ | skip
      | false =>
        rw [Bool.false_and] at e1
        refine .inl ⟨(j + 1, false), [0], [pl 19, ld 21 (.im q (ints vs)), yes 23, pl 28, ld 30 (.im q (ints vs)), pl 32, ld 33 (i6 (vs.getD j 0)), pl 36, ld 37 (i6 (rcF f vs cs j v)), no 38, nu 25 (j + 1 : Nat)], 1000, ⟨by dsimp only; omega, e1.symm⟩, by dsimp only; omega, ?_⟩
        show vc _ _ _ _ _ _ _ _ _ (kNext 0 68 _ { sl := _, os := [.row 3 none (a64 (rcF f vs cs (j + 1)))] })
        rw [e2]
        clear e1 e2 hb
        refine Eq.mp (by kernel_rfl : (((0 : Int) ≤ (↑k : Int) ∧ (↑k : Int) < (↑m : Int)) ∧ headF (List.drop 0 (List.drop (k * 3) c)) = some (V.im q (ints vs)) ∧ decide ((↑j : Int) < (↑q : Int)) = true ∧ ((0 : Int) ≤ (↑k : Int) ∧ (↑k : Int) < (↑m : Int)) ∧ headF (List.drop 0 (List.drop (k * 3) c)) = some (V.im q (ints vs)) ∧ ((0 : Int) ≤ (↑j : Int) ∧ (↑j : Int) < (↑q : Int)) ∧ headF (List.drop (j * 1) (ints vs)) = some (i6 (List.getD vs j (0 : Int))) ∧ ((0 : Int) ≤ List.getD vs j (0 : Int) ∧ List.getD vs j (0 : Int) < (↑(64 : Nat) : Int)) ∧ headF (dropF (0 + Int.toNat (List.getD vs j (0 : Int)) * 1) (a64 (rcF f vs cs j))) = some (i6 (rcF f vs cs j v)) ∧ (rcF f vs cs j v == (0 : Int)) = false ∧ wr IntKind.i64 ((↑j : Int) + (1 : Int)) = (↑(j + 1) : Int) ∧ ((m = m ∧ c = c) ∧ (0 = 0 ∧ 64 = 64 ∧ 0 = 0) ∧ false = false ∧ (↑k : Int) = (↑k : Int) ∧ (↑(j + 1) : Int) = (↑(j + 1) : Int) ∧ True) ∧ (a64 (rcF f vs cs j) = a64 (rcF f vs cs j) ∧ TT 64) ∧ True) = _) ?_
        (repeat' (first | (with_reducible apply And.intro) | (refine fun (_ : True) => ?_))) <;> first | exact aq | skip
        all_goals first | exact hh | exact hh1 | exact hl | (rw [hd]; rfl) | rfl | exact HfL_a64 _ | skip
  · have : j = q := by omega
    rw [← this, ← hb]
    refine .inr ⟨.exit 2, [0], riX c m k (rcF f vs cs j) b, [pl 19, ld 21 (.im q (ints vs)), no 23], 1000, .inl ⟨trivial, rfl, rfl⟩, ?_⟩
    clear hv hb
    refine Eq.mp (by kernel_rfl : (((0 : Int) ≤ (↑k : Int) ∧ (↑k : Int) < (↑m : Int)) ∧ headF (List.drop 0 (List.drop (k * 3) c)) = some (V.im q (ints vs)) ∧ decide ((↑j : Int) < (↑q : Int)) = false ∧ ((m = m ∧ c = c) ∧ (0 = 0 ∧ 64 = 64 ∧ 0 = 0) ∧ b = b ∧ (↑k : Int) = (↑k : Int) ∧ True) ∧ (a64 (rcF f vs cs j) = a64 (rcF f vs cs j) ∧ TT 64) ∧ True) = _) ?_
    (repeat' (first | (with_reducible apply And.intro) | (refine fun (_ : True) => ?_))) <;> first | exact aq | skip
    all_goals first | (rw [hd]; rfl) | rfl | exact HfL_a64 _ | skip
end Go.Proofs.Ytgdnmgcigkhojaa.Am

namespace Go.Proofs.Ytgdnmgcigkhojaa.Am
open Go.RowKit
set_option linter.unusedVariables false
set_option maxHeartbeats 1000000
set_option maxRecDepth 100000
theorem rcards_loop (VS CS : Nat → List Int) (A B : Nat → Nat → Int) (N : Nat → Nat) (m : Nat) (hm : m ≤ 1000) (hT : ∀ i, i < m → TabOk (VS i) (CS i)) :
    Sat Pg none 0 (at' 13 [1, 1, 1, 0, 1, 0]) (mkSt g0 68 (riX (blF (tbF VS CS A B N) m) m 0 (raF VS CS 0) (raG VS CS 0))) (outsP g0 68 [(True, .exit 0, { sl := [(4, .sl 0 0 64 (some 0)), (5, .bool (raG VS CS m))], os := [.row 3 none (a64 (raF VS CS m))] })]) := by
  refine loopC vE_ok mixed sp0_ok (b := at' 13 [1, 1, 1, 0, 1, 0, 0]) (by kernel_rfl) (fun k => k ≤ m) (fun k => riX (blF (tbF VS CS A B N) m) m k (raF VS CS k) (raG VS CS k)) (fun k => m - k) (fun k hk => ?_) 0 (Nat.zero_le _)
  have hL := HfL_blF (HfL_tbF VS CS A B N) m
  have hF := HfL_a64 (raF VS CS k)
  have hF1 := HfL_a64 (raF VS CS (k + 1))
  by_cases hlt : k < m
  · have hd := drop_blF (tbF_len VS CS A B N) hlt
    have hO := hT k hlt
    have h1 := hO.len
    have h2 := hO.m
    have h3 := hO.v
    have e1 : raF VS CS (k + 1) = rcF (raF VS CS k) (VS k) (CS k) (CS k).length := rfl
    have e2 : raG VS CS (k + 1) = rcG (raF VS CS k) (raG VS CS k) (VS k) (CS k) (CS k).length := rfl
    clear hO hT
    have hd' : (blF (tbF VS CS A B N) m).drop (k * 3) = .im (VS k).length (ints (VS k)) :: .im (CS k).length (ints (CS k)) :: .im (N k) (elF (A k) (B k) (N k)) :: blF (fun i => tbF VS CS A B N (k + 1 + i)) (m - (k + 1)) := hd
    clear hd
    generalize blF (fun i => tbF VS CS A B N (k + 1 + i)) (m - (k + 1)) = rest at *
    generalize blF (tbF VS CS A B N) m = c at *
    have l := rc_loop1 c hL m k hlt hm (raF VS CS k) (raG VS CS k) (VS k) (CS k) (CS k).length h1.symm rfl h2 h3 (.im (N k) (elF (A k) (B k) (N k))) rest (by rw [hd', h1])
    rw [← e1, ← e2] at l
    refine .inl ⟨k + 1, [0], [yes 13, (0, .loop [0] (riS' c m k (raF VS CS k) (raG VS CS k) (VS k) (CS k) (0, raG VS CS k)) [(True, .exit 2, riX c m k (raF VS CS (k + 1)) (raG VS CS (k + 1)))]), nu 15 (k + 1 : Nat)], 1000, by omega, by omega, ?_⟩
    clear e1 e2 h3 hd'
    refine Eq.mp (by kernel_rfl : (decide ((↑k : Int) < (↑m : Int)) = true ∧ (((m = m ∧ c = c) ∧ (0 = 0 ∧ 64 = 64 ∧ 0 = 0) ∧ raG VS CS k = raG VS CS k ∧ (↑k : Int) = (↑k : Int) ∧ (↑(0 : Nat) : Int) = (0 : Int) ∧ True) ∧ (a64 (rcF (raF VS CS k) (VS k) (CS k) 0) = a64 (raF VS CS k) ∧ TT 64) ∧ True) ∧ Sat Try.prog none 0 (at' 13 [1, 1, 1, 0, 1, 0, 0, 1, 0, 0, 1, 0]) (mkSt g0 68 (riS' c m k (raF VS CS k) (raG VS CS k) (VS k) (CS k) (0, raG VS CS k))) (outsP g0 68 [(True, Ex.exit 2, riX c m k (raF VS CS (k + 1)) (raG VS CS (k + 1)))]) ∧ (True → wr IntKind.i64 ((↑k : Int) + (1 : Int)) = (↑(k + 1) : Int) ∧ ((m = m ∧ c = c) ∧ (0 = 0 ∧ 64 = 64 ∧ 0 = 0) ∧ raG VS CS (k + 1) = raG VS CS (k + 1) ∧ (↑(k + 1) : Int) = (↑(k + 1) : Int) ∧ True) ∧ (a64 (raF VS CS (k + 1)) = a64 (raF VS CS (k + 1)) ∧ TT 64) ∧ True) ∧ True) = _) ?_
    (repeat' (first | (with_reducible apply And.intro) | (refine fun (_ : True) => ?_))) <;> first | exact aq | skip
    all_goals first | rfl | exact HfL_a64 _ | skip
  · have : k = m := by omega
    subst this
    refine .inr ⟨.exit 0, [0], { sl := [(4, .sl 0 0 64 (some 0)), (5, .bool (raG VS CS k))], os := [.row 3 none (a64 (raF VS CS k))] }, [no 13], 1000, .inl ⟨trivial, rfl, rfl⟩, ?_⟩
    clear hT
    refine Eq.mp (by kernel_rfl : (decide ((↑k : Int) < (↑k : Int)) = false ∧ ((0 = 0 ∧ 64 = 64 ∧ 0 = 0) ∧ raG VS CS k = raG VS CS k ∧ True) ∧ (a64 (raF VS CS k) = a64 (raF VS CS k) ∧ TT 64) ∧ True) = _) ?_
    (repeat' (first | (with_reducible apply And.intro) | (refine fun (_ : True) => ?_))) <;> first | exact aq | skip
    all_goals first | rfl | exact HfL_a64 _ | skip
theorem rcards_fn (VS CS : Nat → List Int) (A B : Nat → Nat → Int) (N : Nat → Nat) (m : Nat) (hm : m ≤ 1000) (hT : ∀ i, i < m → TabOk (VS i) (CS i)) : FnOk Pg g0 13 [.im m (blF (tbF VS CS A B N) m)] (.tup [.im 64 (a64 (raF VS CS m)), .bool (raG VS CS m)]) := by
  have l := rcards_loop VS CS A B N m hm hT
  have hL := HfL_blF (HfL_tbF VS CS A B N) m
  clear hT
  generalize blF (tbF VS CS A B N) m = c at *
  have hF := HfL_a64 (raF VS CS m)
  generalize hf : raF VS CS m = f at *
  generalize hg : raG VS CS m = g at *
  have l' : Sat Pg none 0 (at' 13 [1, 1, 1, 0, 1, 0]) (mkSt g0 68 (riX c m 0 (fun _ => 0) true)) (outsP g0 68 [(True, .exit 0, { sl := [(4, .sl 0 0 64 (some 0)), (5, .bool g)], os := [.row 3 none (a64 f)] })]) := l
  refine FnOk.of_vc vE_ok mixed sp0_ok (n := 1000) (r := []) (S := { sl := [(2, .im 64 (a64 f)), (3, .bool g)] }) (hs := [(0, .loop [0] (riX c m 0 (fun _ => 0) true) [(True, .exit 0, { sl := [(4, .sl 0 0 64 (some 0)), (5, .bool g)], os := [.row 3 none (a64 f)] })])]) ?_
  refine Eq.mp (by kernel_rfl : (V.tup [V.im 64 (a64 f), V.bool g] = V.tup [V.im 64 (a64 f), V.bool g] ∧ (((m = m ∧ c = c) ∧ (0 = 0 ∧ 64 = Int.toNat (64 : Int) ∧ 0 = Int.toNat (64 : Int) - Int.toNat (64 : Int)) ∧ true = true ∧ (↑(0 : Nat) : Int) = (0 : Int) ∧ True) ∧ ((a64 fun x => (0 : Int)) = [i6 0, i6 0, i6 0, i6 0, i6 0, i6 0, i6 0, i6 0, i6 0, i6 0, i6 0, i6 0, i6 0, i6 0, i6 0, i6 0, i6 0, i6 0, i6 0, i6 0, i6 0, i6 0, i6 0, i6 0, i6 0, i6 0, i6 0, i6 0, i6 0, i6 0, i6 0, i6 0, i6 0, i6 0, i6 0, i6 0, i6 0, i6 0, i6 0, i6 0, i6 0, i6 0, i6 0, i6 0, i6 0, i6 0, i6 0, i6 0, i6 0, i6 0, i6 0, i6 0, i6 0, i6 0, i6 0, i6 0, i6 0, i6 0, i6 0, i6 0, i6 0, i6 0, i6 0, i6 0] ∧ TT 64) ∧ True) ∧ Sat Try.prog none 0 (at' 13 [1, 1, 1, 0, 1, 0]) (mkSt g0 68 (riX c m 0 (fun x => (0 : Int)) true)) (outsP g0 68 [(True, Ex.exit 0, SL.mk [(4, V.sl 0 0 64 (some 0)), (5, V.bool g)] [O.row 3 none (a64 f)] [] [])]) ∧ (True → ((64 = 64 ∧ a64 f = a64 f ∧ TT 64) ∧ g = g ∧ True) ∧ True) ∧ True) = _) ?_
  (repeat' (first | (with_reducible apply And.intro) | (refine fun (_ : True) => ?_))) <;> first | exact aq | skip
  all_goals first | exact l' | rfl | exact HfL_a64 _ | skip
theorem mineF_succ (g : Nat → Int) (ks : List Int) (i : Nat) : mineF g ks (i + 1) = mineF g ks i ++ [g (ks.getD i 0).toNat] := by
  unfold mineF; rw [List.range_succ, List.map_append]; rfl
theorem vF_pos {F : Nat → Int} {k v : Nat} (hk : k < qF F 64) (hv : v < 64) (hp : 0 < F v) : (vF F 64).getD k 0 = v ↔ k = qF F v := by
  constructor
  · intro h
    obtain ⟨w, a, b, rfl⟩ := vF_mem hk
    have := (vF_at a b).1
    rw [h] at this
    have : v = w := by omega
    rw [this]
  · rintro rfl; exact (vF_at hv hp).1
section
variable (some_ cs vars vals : List Int) (n q : Nat)
abbrev piS (i : Nat) (p : Nat × Nat × List Int) : SL := { sl := [(0, .im n (ints some_)), (1, .im n (ints cs)), (2, .im q (ints vars)), (3, .im q (ints vals)), (9, owV 0 p.2.1), (10, i6 i), (11, i6 p.1)], os := owO p.2.2 p.2.1 }
abbrev poS (p : Nat × List Int) : SL := { sl := [(0, .im n (ints some_)), (1, .im n (ints cs)), (2, .im q (ints vars)), (3, .im q (ints vals)), (9, owV 0 p.1), (10, i6 p.1)], os := owO p.2 p.1 }
abbrev poT (i cnt : Nat) (l : List Int) : SL := { sl := [(0, .im n (ints some_)), (1, .im n (ints cs)), (2, .im q (ints vars)), (3, .im q (ints vals)), (9, owV 0 cnt), (10, i6 i)], os := owO l cnt }
end
theorem place_in (F : Nat → Int) (some_ cs vals : List Int) (n q : Nat) (hn : n = some_.length) (hn2 : n ≤ 1000) (hq : q = qF F 64) (hq12 : q ≤ 12) (hx : vals.length = q) (hs : ∀ i, i < n → 0 ≤ some_.getD i 0 ∧ some_.getD i 0 ≤ 63 ∧ 0 < F (some_.getD i 0).toNat) (i : Nat) (hi : i < n) :
    Sat Pg none 0 (at' 48 [1, 1, 0, 1, 0, 0, 1, 0, 0, 1, 0]) (mkSt g0 43 (piS some_ cs (vF F 64) vals n q i (0, i, mineF (valF F vals) some_ i))) (outsP g0 43 [(True, .exit 2, poT some_ cs (vF F 64) vals n q i (i + 1) (mineF (valF F vals) some_ (i + 1)))]) := by
  obtain ⟨v, hv⟩ : ∃ v : Nat, some_.getD i 0 = v := ⟨(some_.getD i 0).toNat, by have := hs i hi; omega⟩
  have hsi := hs i hi
  have ev : (some_.getD i 0).toNat = v := by omega
  rw [ev] at hsi
  have hvq := (vF_at (F := F) (i := 64) (v := v) (by omega) hsi.2.2).2.2
  have hms := mineF_succ (valF F vals) some_ i
  rw [ev] at hms
  have hml := mineF_len (valF F vals) some_ i
  have hvl := vF_len F 64
  have gs := @head_intsD some_ i (by omega)
  refine loopC vE_ok mixed sp0_ok (b := at' 48 [1, 1, 0, 1, 0, 0, 1, 0, 0, 1, 0, 0]) (by kernel_rfl) (fun p => p.1 ≤ q ∧ ((p.1 ≤ qF F v ∧ p.2.1 = i ∧ p.2.2 = mineF (valF F vals) some_ i) ∨ (qF F v < p.1 ∧ p.2.1 = i + 1 ∧ p.2.2 = mineF (valF F vals) some_ (i + 1)))) (piS some_ cs (vF F 64) vals n q i) (fun p => q - p.1) (fun p hp => ?_) (0, i, _) ⟨Nat.zero_le _, .inl ⟨Nat.zero_le _, rfl, rfl⟩⟩
  obtain ⟨k, cnt, l⟩ := p
  obtain ⟨hk, hor⟩ := hp
  dsimp only at hk hor
  clear hs
  by_cases hlt : k < q
  · have g1 := @head_intsD (vF F 64) k (by omega)
    have g2 := @head_intsD vals k (by omega)
    have hiff := vF_pos (F := F) (k := k) (v := v) (by omega) (by omega) hsi.2.2
    by_cases he : k = qF F v
    · have hc : cnt = i ∧ l = mineF (valF F vals) some_ i := by
        rcases hor with ⟨a, b, c⟩ | ⟨a, _⟩
        · exact ⟨b, c⟩
        · omega
      have hval : valF F vals v = vals.getD k 0 := by rw [he]; rfl
      have hkv : (vF F 64).getD k 0 = some_.getD i 0 := by rw [hiff.2 he, hv]
      obtain ⟨rfl, rfl⟩ := hc
      have a1 := ints_app (mineF (valF F vals) some_ cnt) (vals.getD k 0)
      rw [hval] at hms
      rw [← hms] at a1
      have hH := HfL_ints (mineF (valF F vals) some_ (cnt + 1))
      have hnx : (k + 1 ≤ qF F v ∧ cnt + 1 = cnt ∧ mineF (valF F vals) some_ (cnt + 1) = mineF (valF F vals) some_ cnt) ∨ (qF F v < k + 1 ∧ cnt + 1 = cnt + 1 ∧ mineF (valF F vals) some_ (cnt + 1) = mineF (valF F vals) some_ (cnt + 1)) := .inr ⟨by omega, rfl, rfl⟩
      cases cnt with
      | zero =>
        refine .inl ⟨(k + 1, 0 + 1, mineF (valF F vals) some_ (0 + 1)), [1], [yes 21, pl 26, ld 27 (i6 ((vF F 64).getD k 0)), pl 30, ld 31 (i6 (some_.getD 0 0)), yes 32, pl 36, ld 37 (i6 (vals.getD k 0)), nu 23 (k + 1 : Nat)], 1000, ⟨by dsimp only; omega, hnx⟩, by dsimp only; omega, ?_⟩
        clear hor hnx hiff hms
        generalize mineF (valF F vals) some_ (0 + 1) = l1 at *
        refine Eq.mp (by kernel_rfl : (decide ((↑k : Int) < (↑q : Int)) = true ∧ ((0 : Int) ≤ (↑k : Int) ∧ (↑k : Int) < (↑q : Int)) ∧ headF (List.drop (k * 1) (ints (vF F 64))) = some (i6 (List.getD (vF F 64) k (0 : Int))) ∧ ((0 : Int) ≤ (↑(0 : Nat) : Int) ∧ (↑(0 : Nat) : Int) < (↑n : Int)) ∧ headF (List.drop (0 * 1) (ints some_)) = some (i6 (List.getD some_ 0 (0 : Int))) ∧ (List.getD (vF F 64) k (0 : Int) == List.getD some_ 0 (0 : Int)) = true ∧ ((0 : Int) ≤ (↑k : Int) ∧ (↑k : Int) < (↑q : Int)) ∧ headF (List.drop (k * 1) (ints vals)) = some (i6 (List.getD vals k (0 : Int))) ∧ wr IntKind.i64 ((↑k : Int) + (1 : Int)) = (↑(k + 1) : Int) ∧ ((n = n ∧ ints some_ = ints some_) ∧ (n = n ∧ ints cs = ints cs) ∧ (q = q ∧ ints (vF F 64) = ints (vF F 64)) ∧ (q = q ∧ ints vals = ints vals) ∧ (0 = 0 ∧ 0 + 1 = 1 ∧ True) ∧ (↑(0 : Nat) : Int) = (↑(0 : Nat) : Int) ∧ (↑(k + 1) : Int) = (↑(k + 1) : Int) ∧ True) ∧ (ints l1 = [i6 (List.getD vals k (0 : Int))] ∧ HfL (ints l1)) ∧ True) = _) ?_
        (repeat' (first | (with_reducible apply And.intro) | (refine fun (_ : True) => ?_))) <;> first | exact aq | skip
        all_goals first | exact a1 | exact a1.symm | rfl | skip
      | succ c =>
        refine .inl ⟨(k + 1, c + 1 + 1, mineF (valF F vals) some_ (c + 1 + 1)), [2], [yes 21, pl 26, ld 27 (i6 ((vF F 64).getD k 0)), pl 30, ld 31 (i6 (some_.getD (c + 1) 0)), yes 32, pl 36, ld 37 (i6 (vals.getD k 0)), ap 39, nu 23 (k + 1 : Nat)], 1000, ⟨by dsimp only; omega, hnx⟩, by dsimp only; omega, ?_⟩
        clear hor hnx hiff hms
        generalize mineF (valF F vals) some_ (c + 1 + 1) = l1 at *
        generalize mineF (valF F vals) some_ (c + 1) = l0 at *
        refine Eq.mp (by kernel_rfl : (decide ((↑k : Int) < (↑q : Int)) = true ∧ ((0 : Int) ≤ (↑k : Int) ∧ (↑k : Int) < (↑q : Int)) ∧ headF (List.drop (k * 1) (ints (vF F 64))) = some (i6 (List.getD (vF F 64) k (0 : Int))) ∧ ((0 : Int) ≤ (↑(c + 1) : Int) ∧ (↑(c + 1) : Int) < (↑n : Int)) ∧ headF (List.drop ((c + 1) * 1) (ints some_)) = some (i6 (List.getD some_ (c + 1) (0 : Int))) ∧ (List.getD (vF F 64) k (0 : Int) == List.getD some_ (c + 1) (0 : Int)) = true ∧ ((0 : Int) ≤ (↑k : Int) ∧ (↑k : Int) < (↑q : Int)) ∧ headF (List.drop (k * 1) (ints vals)) = some (i6 (List.getD vals k (0 : Int))) ∧ List.length (ints l0) = (c + 1) * 1 ∧ c + 1 + 1 ≤ 9223372036854775807 ∧ (c + 1 + 1) * 8 ≤ 140737488355328 ∧ wr IntKind.i64 ((↑k : Int) + (1 : Int)) = (↑(k + 1) : Int) ∧ ((n = n ∧ ints some_ = ints some_) ∧ (n = n ∧ ints cs = ints cs) ∧ (q = q ∧ ints (vF F 64) = ints (vF F 64)) ∧ (q = q ∧ ints vals = ints vals) ∧ (0 = 0 ∧ Nat.succ c + 1 = c + 1 + 1 ∧ True) ∧ (↑(c + 1) : Int) = (↑(c + 1) : Int) ∧ (↑(k + 1) : Int) = (↑(k + 1) : Int) ∧ True) ∧ (ints l1 = ints l0 ++ [i6 (List.getD vals k (0 : Int))] ∧ HfL (ints l1)) ∧ True) = _) ?_
        (repeat' (first | (with_reducible apply And.intro) | (refine fun (_ : True) => ?_))) <;> first | exact aq | skip
        all_goals first | exact a1 | exact a1.symm | (rw [ints_length]; omega) | rfl | skip
    · have hkv : (vF F 64).getD k 0 ≠ some_.getD i 0 := fun h => he (hiff.1 (by rw [h, hv]))
      have hnx : (k + 1 ≤ qF F v ∧ cnt = i ∧ l = mineF (valF F vals) some_ i) ∨ (qF F v < k + 1 ∧ cnt = i + 1 ∧ l = mineF (valF F vals) some_ (i + 1)) := by
        rcases hor with ⟨a, b⟩ | ⟨a, b⟩
        · exact .inl ⟨by omega, b⟩
        · exact .inr ⟨by omega, b⟩
      have hH := HfL_ints l
      clear hor hiff hms hml hsi hvq
      cases cnt with
      | zero =>
        refine .inl ⟨(k + 1, 0, l), [], [yes 21, pl 26, ld 27 (i6 ((vF F 64).getD k 0)), pl 30, ld 31 (i6 (some_.getD i 0)), no 32, nu 23 (k + 1 : Nat)], 1000, ⟨by dsimp only; omega, hnx⟩, by dsimp only; omega, ?_⟩
        clear hnx
        refine Eq.mp (by kernel_rfl : (decide ((↑k : Int) < (↑q : Int)) = true ∧ ((0 : Int) ≤ (↑k : Int) ∧ (↑k : Int) < (↑q : Int)) ∧ headF (List.drop (k * 1) (ints (vF F 64))) = some (i6 (List.getD (vF F 64) k (0 : Int))) ∧ ((0 : Int) ≤ (↑i : Int) ∧ (↑i : Int) < (↑n : Int)) ∧ headF (List.drop (i * 1) (ints some_)) = some (i6 (List.getD some_ i (0 : Int))) ∧ (List.getD (vF F 64) k (0 : Int) == List.getD some_ i (0 : Int)) = false ∧ wr IntKind.i64 ((↑k : Int) + (1 : Int)) = (↑(k + 1) : Int) ∧ ((n = n ∧ ints some_ = ints some_) ∧ (n = n ∧ ints cs = ints cs) ∧ (q = q ∧ ints (vF F 64) = ints (vF F 64)) ∧ (q = q ∧ ints vals = ints vals) ∧ True ∧ (↑i : Int) = (↑i : Int) ∧ (↑(k + 1) : Int) = (↑(k + 1) : Int) ∧ True) ∧ True) = _) ?_
        (repeat' (first | (with_reducible apply And.intro) | (refine fun (_ : True) => ?_))) <;> first | exact aq | skip
        all_goals first | rfl | skip
      | succ c =>
        refine .inl ⟨(k + 1, c + 1, l), [0], [yes 21, pl 26, ld 27 (i6 ((vF F 64).getD k 0)), pl 30, ld 31 (i6 (some_.getD i 0)), no 32, nu 23 (k + 1 : Nat)], 1000, ⟨by dsimp only; omega, hnx⟩, by dsimp only; omega, ?_⟩
        clear hnx
        refine Eq.mp (by kernel_rfl : (decide ((↑k : Int) < (↑q : Int)) = true ∧ ((0 : Int) ≤ (↑k : Int) ∧ (↑k : Int) < (↑q : Int)) ∧ headF (List.drop (k * 1) (ints (vF F 64))) = some (i6 (List.getD (vF F 64) k (0 : Int))) ∧ ((0 : Int) ≤ (↑i : Int) ∧ (↑i : Int) < (↑n : Int)) ∧ headF (List.drop (i * 1) (ints some_)) = some (i6 (List.getD some_ i (0 : Int))) ∧ (List.getD (vF F 64) k (0 : Int) == List.getD some_ i (0 : Int)) = false ∧ wr IntKind.i64 ((↑k : Int) + (1 : Int)) = (↑(k + 1) : Int) ∧ ((n = n ∧ ints some_ = ints some_) ∧ (n = n ∧ ints cs = ints cs) ∧ (q = q ∧ ints (vF F 64) = ints (vF F 64)) ∧ (q = q ∧ ints vals = ints vals) ∧ (0 = 0 ∧ c + 1 = c + 1 ∧ True) ∧ (↑i : Int) = (↑i : Int) ∧ (↑(k + 1) : Int) = (↑(k + 1) : Int) ∧ True) ∧ (ints l = ints l ∧ HfL (ints l)) ∧ True) = _) ?_
        (repeat' (first | (with_reducible apply And.intro) | (refine fun (_ : True) => ?_))) <;> first | exact aq | skip
        all_goals first | rfl | skip
  · have hc : cnt = i + 1 ∧ l = mineF (valF F vals) some_ (i + 1) := by
      rcases hor with ⟨a, _⟩ | ⟨_, b⟩
      · omega
      · exact b
    obtain ⟨rfl, rfl⟩ := hc
    have hH := HfL_ints (mineF (valF F vals) some_ (i + 1))
    refine .inr ⟨.exit 2, [0], poT some_ cs (vF F 64) vals n q i (i + 1) (mineF (valF F vals) some_ (i + 1)), [no 21], 1000, .inl ⟨trivial, rfl, rfl⟩, ?_⟩
    clear hor hms hml
    generalize mineF (valF F vals) some_ (i + 1) = l1 at *
    refine Eq.mp (by kernel_rfl : (decide ((↑k : Int) < (↑q : Int)) = false ∧ ((n = n ∧ ints some_ = ints some_) ∧ (n = n ∧ ints cs = ints cs) ∧ (q = q ∧ ints (vF F 64) = ints (vF F 64)) ∧ (q = q ∧ ints vals = ints vals) ∧ (0 = 0 ∧ i + 1 = i + 1 ∧ True) ∧ (↑i : Int) = (↑i : Int) ∧ True) ∧ (ints l1 = ints l1 ∧ HfL (ints l1)) ∧ True) = _) ?_
    (repeat' (first | (with_reducible apply And.intro) | (refine fun (_ : True) => ?_))) <;> first | exact aq | skip
    all_goals first | rfl | skip
theorem place_loop (F : Nat → Int) (some_ cs vals : List Int) (n q : Nat) (hn : n = some_.length) (hn2 : n ≤ 1000) (hq : q = qF F 64) (hq12 : q ≤ 12) (hx : vals.length = q) (hs : ∀ i, i < n → 0 ≤ some_.getD i 0 ∧ some_.getD i 0 ≤ 63 ∧ 0 < F (some_.getD i 0).toNat) :
    Sat Pg none 0 (at' 48 [1, 1, 0, 1, 0]) (mkSt g0 43 (poS some_ cs (vF F 64) vals n q (0, []))) (outsP g0 43 [(True, .exit 0, { sl := [(1, .im n (ints cs)), (9, .im n (ints (mineF (valF F vals) some_ n)))] })]) := by
  refine loopC vE_ok mixed sp0_ok (b := at' 48 [1, 1, 0, 1, 0, 0]) (by kernel_rfl) (fun p => p.1 ≤ n ∧ p.2 = mineF (valF F vals) some_ p.1) (poS some_ cs (vF F 64) vals n q) (fun p => n - p.1) (fun p hp => ?_) (0, []) ⟨Nat.zero_le _, rfl⟩
  obtain ⟨i, l⟩ := p
  obtain ⟨hi, hl⟩ := hp
  dsimp only at hi hl
  subst hl
  have hH := HfL_ints (mineF (valF F vals) some_ i)
  by_cases hlt : i < n
  · have l1 := place_in F some_ cs vals n q hn hn2 hq hq12 hx hs i hlt
    have hH1 := HfL_ints (mineF (valF F vals) some_ (i + 1))
    clear hs
    generalize hg1 : mineF (valF F vals) some_ (i + 1) = L1 at *
    cases i with
    | zero =>
      refine .inl ⟨(0 + 1, mineF (valF F vals) some_ (0 + 1)), [0], [yes 15, (0, .loop [] (piS some_ cs (vF F 64) vals n q 0 (0, 0, mineF (valF F vals) some_ 0)) [(True, .exit 2, poT some_ cs (vF F 64) vals n q 0 (0 + 1) L1)]), nu 17 (0 + 1 : Nat)], 1000, ⟨by dsimp only; omega, rfl⟩, by dsimp only; omega, ?_⟩
      rw [hg1]
      generalize mineF (valF F vals) some_ 0 = L0 at *
      clear hg1
      refine Eq.mp (by kernel_rfl : (decide ((↑(0 : Nat) : Int) < (↑n : Int)) = true ∧ (((n = n ∧ ints some_ = ints some_) ∧ (n = n ∧ ints cs = ints cs) ∧ (q = q ∧ ints (vF F 64) = ints (vF F 64)) ∧ (q = q ∧ ints vals = ints vals) ∧ True ∧ (↑(0 : Nat) : Int) = (↑(0 : Nat) : Int) ∧ (↑(0 : Nat) : Int) = (0 : Int) ∧ True) ∧ True) ∧ Sat Try.prog none 0 (at' 48 [1, 1, 0, 1, 0, 0, 1, 0, 0, 1, 0]) (mkSt g0 43 (piS some_ cs (vF F 64) vals n q 0 (0, 0, L0))) (outsP g0 43 [(True, Ex.exit 2, poT some_ cs (vF F 64) vals n q 0 (0 + 1) L1)]) ∧ (True → wr IntKind.i64 ((↑(0 : Nat) : Int) + (1 : Int)) = (↑(0 + 1) : Int) ∧ ((n = n ∧ ints some_ = ints some_) ∧ (n = n ∧ ints cs = ints cs) ∧ (q = q ∧ ints (vF F 64) = ints (vF F 64)) ∧ (q = q ∧ ints vals = ints vals) ∧ (0 = 0 ∧ 0 + 1 = 0 + 1 ∧ True) ∧ (↑(0 + 1) : Int) = (↑(0 + 1) : Int) ∧ True) ∧ (ints L1 = ints L1 ∧ HfL (ints L1)) ∧ True) ∧ True) = _) ?_
      (repeat' (first | (with_reducible apply And.intro) | (refine fun (_ : True) => ?_))) <;> first | exact aq | skip
      all_goals first | rfl | skip
    | succ i =>
      refine .inl ⟨(i + 1 + 1, mineF (valF F vals) some_ (i + 1 + 1)), [0], [yes 15, (0, .loop [0] (piS some_ cs (vF F 64) vals n q (i + 1) (0, i + 1, mineF (valF F vals) some_ (i + 1))) [(True, .exit 2, poT some_ cs (vF F 64) vals n q (i + 1) (i + 1 + 1) L1)]), nu 17 (i + 1 + 1 : Nat)], 1000, ⟨by dsimp only; omega, rfl⟩, by dsimp only; omega, ?_⟩
      rw [hg1]
      generalize mineF (valF F vals) some_ (i + 1) = L0 at *
      clear hg1
      refine Eq.mp (by kernel_rfl : (decide ((↑(i + 1) : Int) < (↑n : Int)) = true ∧ (((n = n ∧ ints some_ = ints some_) ∧ (n = n ∧ ints cs = ints cs) ∧ (q = q ∧ ints (vF F 64) = ints (vF F 64)) ∧ (q = q ∧ ints vals = ints vals) ∧ (0 = 0 ∧ i + 1 = i + 1 ∧ True) ∧ (↑(i + 1) : Int) = (↑(i + 1) : Int) ∧ (↑(0 : Nat) : Int) = (0 : Int) ∧ True) ∧ (ints L0 = ints L0 ∧ HfL (ints L0)) ∧ True) ∧ Sat Try.prog none 0 (at' 48 [1, 1, 0, 1, 0, 0, 1, 0, 0, 1, 0]) (mkSt g0 43 (piS some_ cs (vF F 64) vals n q (i + 1) (0, i + 1, L0))) (outsP g0 43 [(True, Ex.exit 2, poT some_ cs (vF F 64) vals n q (i + 1) (i + 1 + 1) L1)]) ∧ (True → wr IntKind.i64 ((↑(i + 1) : Int) + (1 : Int)) = (↑(i + 1 + 1) : Int) ∧ ((n = n ∧ ints some_ = ints some_) ∧ (n = n ∧ ints cs = ints cs) ∧ (q = q ∧ ints (vF F 64) = ints (vF F 64)) ∧ (q = q ∧ ints vals = ints vals) ∧ (0 = 0 ∧ Nat.succ i + 1 = Nat.succ i + 1 ∧ True) ∧ (↑(i + 1 + 1) : Int) = (↑(i + 1 + 1) : Int) ∧ True) ∧ (ints L1 = ints L1 ∧ HfL (ints L1)) ∧ True) ∧ True) = _) ?_
      (repeat' (first | (with_reducible apply And.intro) | (refine fun (_ : True) => ?_))) <;> first | exact aq | skip
      all_goals first | rfl | skip
  · have : i = n := by omega
    subst this
    clear hs
    generalize hL : mineF (valF F vals) some_ i = L at *
    have hll : L.length = i := by rw [← hL, mineF_len]
    cases i with
    | zero =>
      have z : L = [] := List.eq_nil_of_length_eq_zero hll
      refine .inr ⟨.exit 0, [], { sl := [(1, .im 0 (ints cs)), (9, .im 0 (ints L))] }, [no 15], 1000, .inl ⟨trivial, rfl, rfl⟩, ?_⟩
      subst z
      clear hL
      refine Eq.mp (by kernel_rfl : (decide ((↑(0 : Nat) : Int) < (↑(0 : Nat) : Int)) = false ∧ ((0 = 0 ∧ ints cs = ints cs) ∧ 0 = 0 ∧ True) ∧ True) = _) ?_
      (repeat' (first | (with_reducible apply And.intro) | (refine fun (_ : True) => ?_))) <;> first | exact aq | skip
      all_goals first | rfl | skip
    | succ i =>
      refine .inr ⟨.exit 0, [], { sl := [(1, .im (i + 1) (ints cs)), (9, .im (i + 1) (ints L))] }, [no 15], 1000, .inl ⟨trivial, rfl, rfl⟩, ?_⟩
      clear hL
      refine Eq.mp (by kernel_rfl : (decide ((↑(i + 1) : Int) < (↑(i + 1) : Int)) = false ∧ ((i + 1 = i + 1 ∧ ints cs = ints cs) ∧ (i + 1 = i + 1 ∧ ints L = ints L ∧ HfL (ints L)) ∧ True) ∧ True) = _) ?_
      (repeat' (first | (with_reducible apply And.intro) | (refine fun (_ : True) => ?_))) <;> first | exact aq | skip
      all_goals first | rfl | skip
theorem place_fn (F : Nat → Int) (some_ cs vals : List Int) (n q : Nat) (hn : n = some_.length) (hn2 : n ≤ 1000) (hq : q = qF F 64) (hq12 : q ≤ 12) (hx : vals.length = q) (hs : ∀ i, i < n → 0 ≤ some_.getD i 0 ∧ some_.getD i 0 ≤ 63 ∧ 0 < F (some_.getD i 0).toNat)
    (hcl : n = cs.length) (hv : valT cs (mineF (valF F vals) some_ n) n) (hsu : ∀ j, j ≤ n → 1 ≤ sufT cs n j ∧ sufT cs n j ≤ 4096) (hc : ∀ i, i < n → cs.getD i 0 ≤ 4096) :
    FnOk Pg g0 48 [.im n (ints some_), .im n (ints cs), .im q (ints (vF F 64)), .im q (ints vals)] (i6 (idxT cs (mineF (valF F vals) some_ n) n)) := by
  have l := place_loop F some_ cs vals n q hn hn2 hq hq12 hx hs
  have hix := ridx_fn cs (mineF (valF F vals) some_ n) n hcl (mineF_len _ _ _).symm hn2 hv hsu hc
  have hH := HfL_ints (mineF (valF F vals) some_ n)
  clear hs hv hsu hc
  generalize mineF (valF F vals) some_ n = L at *
  generalize vF F 64 = vars at *
  refine FnOk.of_vc vE_ok mixed sp0_ok (n := 1000) (r := []) (S := { sl := [(8, i6 (idxT cs L n))] }) (hs := [(0, .loop [] (poS some_ cs vars vals n q (0, [])) [(True, .exit 0, { sl := [(1, .im n (ints cs)), (9, .im n (ints L))] })]), fn 42 (i6 (idxT cs L n))]) ?_
  refine Eq.mp (by kernel_rfl : (i6 (idxT cs L n) = i6 (idxT cs L n) ∧ (((n = n ∧ ints some_ = ints some_) ∧ (n = n ∧ ints cs = ints cs) ∧ (q = q ∧ ints vars = ints vars) ∧ (q = q ∧ ints vals = ints vals) ∧ True ∧ (↑(0 : Nat) : Int) = (0 : Int) ∧ True) ∧ True) ∧ Sat Try.prog none 0 (at' 48 [1, 1, 0, 1, 0]) (mkSt g0 43 (poS some_ cs vars vals n q (0, []))) (outsP g0 43 [(True, Ex.exit 0, SL.mk [(1, V.im n (ints cs)), (9, V.im n (ints L))] [] [] [])]) ∧ (True → (True ∧ True ∧ True) ∧ FnOk Try.prog g0 74 [V.im n (ints cs), V.im n (ints L)] (i6 (idxT cs L n)) ∧ True ∧ (idxT cs L n = idxT cs L n ∧ True) ∧ True) ∧ True) = _) ?_
  (repeat' (first | (with_reducible apply And.intro) | (refine fun (_ : True) => ?_))) <;> first | exact aq | skip
  all_goals first | rfl | skip
end Go.Proofs.Ytgdnmgcigkhojaa.Am

namespace Go.Proofs.Ytgdnmgcigkhojaa.Am
open Go.RowKit
set_option linter.unusedVariables false
set_option maxHeartbeats 1000000
set_option maxRecDepth 100000
def tkF (keep : List Int) : Nat → List Int
  | 0 => []
  | k + 1 => tkF keep k ++ [keep.getD k 0]
theorem tkF_len (keep : List Int) : ∀ k, (tkF keep k).length = k
  | 0 => rfl
  | k + 1 => by rw [tkF, List.length_append, tkF_len keep k]; rfl
theorem tkF_take (keep : List Int) : ∀ k, k ≤ keep.length → tkF keep k = keep.take k
  | 0, _ => rfl
  | k + 1, h => by
    rw [tkF, tkF_take keep k (by omega), List.take_succ_eq_append_getElem (by omega)]
    congr 2
    rw [List.getD_eq_getElem?_getD, List.getElem?_eq_getElem (by omega)]; rfl
theorem tkF_all (keep : List Int) : tkF keep keep.length = keep := by rw [tkF_take _ _ (Nat.le_refl _), List.take_length]
section
variable (kd : Int) (cT : List V) (m : Nat) (keep : List Int) (n : Nat) (F : Nat → Int) (g : Bool)
abbrev k0S (p : Nat × List Int × List Int) : SL := { sl := [(0, i6 kd), (1, .im m cT), (2, .im n (ints keep)), (6, .ptr 0 0), (8, .im 64 (a64 F)), (9, .bool g), (10, .ptr 1 0), (11, i6 p.1)], os := r3 :: .row 32 none [owV 2 p.1, owV 3 p.1, .nils] :: (owO p.2.1 p.1 ++ owO p.2.2 p.1), md := [0, 1] }
abbrev k0X (lv cl : List Int) : SL := { sl := [(0, i6 kd), (1, .im m cT), (6, .ptr 0 0), (8, .im 64 (a64 F)), (9, .bool g), (10, .ptr 1 0)], os := [r3, .row 32 none [.im n (ints lv), .im n (ints cl), .nils]], md := [0, 1] }
end
theorem rc_keep (kd : Int) (cT : List V) (hL : HfL cT) (m : Nat) (keep : List Int) (n : Nat) (hn : n = keep.length) (hn5 : n ≤ 1000) (F : Nat → Int) (g : Bool) :
    Sat Pg none 0 (at' 17 [1, 1, 1, 0, 1, 0]) (mkSt g0 231 (k0S kd cT m keep n F g (0, [], []))) (outsP g0 231 [(withT F keep n = true, .exit 0, k0X kd cT m n F g (tkF keep n) (clF F keep n)), (withT F keep n = false, .ret, cBad 2)]) := by
  refine loopC vE_ok mixed sp0_ok (b := at' 17 [1, 1, 1, 0, 1, 0, 0]) (by kernel_rfl) (fun p => p.1 ≤ n ∧ withT F keep p.1 = true ∧ p.2.1 = tkF keep p.1 ∧ p.2.2 = clF F keep p.1) (k0S kd cT m keep n F g) (fun p => n - p.1) (fun p hp => ?_) (0, [], []) ⟨Nat.zero_le _, rfl, rfl, rfl⟩
  obtain ⟨k, lv, cl⟩ := p
  obtain ⟨hk, hw, h1, h2⟩ := hp
  dsimp only at hk hw h1 h2
  have hb := lastT_bd hw
  have hF := HfL_a64 F
  have l1 := tkF_len keep k
  have l2 := clF_len F keep k
  rw [← h1] at l1
  rw [← h2] at l2
  have hH1 := HfL_ints lv
  have hH2 := HfL_ints cl
  by_cases hlt : k < n
  · have g1 := @head_intsD keep k (by omega)
    have e1 : withT F keep (k + 1) = decide (lastT keep k < keep.getD k 0 ∧ keep.getD k 0 ≤ 63 ∧ F (keep.getD k 0).toNat ≠ 0) := by rw [withT, hw, Bool.true_and]
    have hstop := fun h => withT_stop (f := F) (ks := keep) (k := k + 1) h n (by omega)
    by_cases c1 : keep.getD k 0 < 0
    · have hf := hstop (by rw [e1, decide_eq_false_iff_not]; omega)
      refine .inr ⟨.ret, [0], cBad 2, [yes 32, pl 37, ld 38 (i6 (keep.getD k 0)), yes 39], 1000, .inr (.inl ⟨hf, rfl, rfl⟩), ?_⟩
      clear hstop e1 h1 h2
      cases k with
      | zero =>
        refine Eq.mp (by kernel_rfl : (decide ((↑(0 : Nat) : Int) < (↑n : Int)) = true ∧ ((0 : Int) ≤ (↑(0 : Nat) : Int) ∧ (↑(0 : Nat) : Int) < (↑n : Int)) ∧ headF (List.drop (0 * 1) (ints keep)) = some (i6 (List.getD keep 0 (0 : Int))) ∧ decide (List.getD keep 0 (0 : Int) < (0 : Int)) = true ∧ (0 = 0 ∧ (2 : Int) = (2 : Int) ∧ True) ∧ ([V.nils, V.nils, V.nils] = [V.nils, V.nils, V.nils] ∧ TT 3) ∧ True) = _) ?_
        (repeat' (first | (with_reducible apply And.intro) | (refine fun (_ : True) => ?_))) <;> first | exact aq | skip
        all_goals first | rfl | skip
      | succ k =>
        refine Eq.mp (by kernel_rfl : (decide ((↑(k + 1) : Int) < (↑n : Int)) = true ∧ ((0 : Int) ≤ (↑(k + 1) : Int) ∧ (↑(k + 1) : Int) < (↑n : Int)) ∧ headF (List.drop ((k + 1) * 1) (ints keep)) = some (i6 (List.getD keep (k + 1) (0 : Int))) ∧ decide (List.getD keep (k + 1) (0 : Int) < (0 : Int)) = true ∧ (0 = 0 ∧ (2 : Int) = (2 : Int) ∧ True) ∧ ([V.nils, V.nils, V.nils] = [V.nils, V.nils, V.nils] ∧ TT 3) ∧ True) = _) ?_
        (repeat' (first | (with_reducible apply And.intro) | (refine fun (_ : True) => ?_))) <;> first | exact aq | skip
        all_goals first | rfl | skip
    · by_cases c2 : 63 < keep.getD k 0
      · have hf := hstop (by rw [e1, decide_eq_false_iff_not]; omega)
        refine .inr ⟨.ret, [0], cBad 2, [yes 32, pl 37, ld 38 (i6 (keep.getD k 0)), no 39, pl 43, ld 44 (i6 (keep.getD k 0)), yes 45], 1000, .inr (.inl ⟨hf, rfl, rfl⟩), ?_⟩
        clear hstop e1 h1 h2
        cases k with
        | zero =>
          refine Eq.mp (by kernel_rfl : (decide ((↑(0 : Nat) : Int) < (↑n : Int)) = true ∧ ((0 : Int) ≤ (↑(0 : Nat) : Int) ∧ (↑(0 : Nat) : Int) < (↑n : Int)) ∧ headF (List.drop (0 * 1) (ints keep)) = some (i6 (List.getD keep 0 (0 : Int))) ∧ decide (List.getD keep 0 (0 : Int) < (0 : Int)) = false ∧ ((0 : Int) ≤ (↑(0 : Nat) : Int) ∧ (↑(0 : Nat) : Int) < (↑n : Int)) ∧ headF (List.drop (0 * 1) (ints keep)) = some (i6 (List.getD keep 0 (0 : Int))) ∧ decide (List.getD keep 0 (0 : Int) > (63 : Int)) = true ∧ (0 = 0 ∧ (2 : Int) = (2 : Int) ∧ True) ∧ ([V.nils, V.nils, V.nils] = [V.nils, V.nils, V.nils] ∧ TT 3) ∧ True) = _) ?_
          (repeat' (first | (with_reducible apply And.intro) | (refine fun (_ : True) => ?_))) <;> first | exact aq | skip
          all_goals first | rfl | skip
        | succ k =>
          refine Eq.mp (by kernel_rfl : (decide ((↑(k + 1) : Int) < (↑n : Int)) = true ∧ ((0 : Int) ≤ (↑(k + 1) : Int) ∧ (↑(k + 1) : Int) < (↑n : Int)) ∧ headF (List.drop ((k + 1) * 1) (ints keep)) = some (i6 (List.getD keep (k + 1) (0 : Int))) ∧ decide (List.getD keep (k + 1) (0 : Int) < (0 : Int)) = false ∧ ((0 : Int) ≤ (↑(k + 1) : Int) ∧ (↑(k + 1) : Int) < (↑n : Int)) ∧ headF (List.drop ((k + 1) * 1) (ints keep)) = some (i6 (List.getD keep (k + 1) (0 : Int))) ∧ decide (List.getD keep (k + 1) (0 : Int) > (63 : Int)) = true ∧ (0 = 0 ∧ (2 : Int) = (2 : Int) ∧ True) ∧ ([V.nils, V.nils, V.nils] = [V.nils, V.nils, V.nils] ∧ TT 3) ∧ True) = _) ?_
          (repeat' (first | (with_reducible apply And.intro) | (refine fun (_ : True) => ?_))) <;> first | exact aq | skip
          all_goals first | rfl | skip
      · obtain ⟨v, hv⟩ : ∃ v : Nat, keep.getD k 0 = v := ⟨(keep.getD k 0).toNat, by omega⟩
        have ev : (keep.getD k 0).toNat = v := by omega
        have hh : headF ((a64 F).drop ((keep.getD k 0).toNat * 1)) = some (i6 (F v)) := by
          have := @head64 F v (by omega)
          rw [dropF_eq] at this
          rw [ev, Nat.mul_one]; exact this
        rw [ev] at e1
        have t1 : tkF keep (k + 1) = lv ++ [keep.getD k 0] := by rw [tkF, h1]
        have t2 : clF F keep (k + 1) = cl ++ [F v] := by rw [clF, h2, ev]
        have a1 := ints_app lv (keep.getD k 0)
        have a2 := ints_app cl (F v)
        have hH3 := HfL_ints (lv ++ [keep.getD k 0])
        have hH4 := HfL_ints (cl ++ [F v])
        cases k with
        | zero =>
          have z1 : lv = [] := List.eq_nil_of_length_eq_zero l1
          have z2 : cl = [] := List.eq_nil_of_length_eq_zero l2
          by_cases c4 : F v = 0
          · have hf := hstop (by rw [e1, decide_eq_false_iff_not]; omega)
            refine .inr ⟨.ret, [0], cBad 2, [yes 32, pl 37, ld 38 (i6 (keep.getD 0 0)), no 39, pl 43, ld 44 (i6 (keep.getD 0 0)), no 45, pl 67, ld 68 (i6 (keep.getD 0 0)), pl 69, ld 70 (i6 (F v)), yes 71], 1000, .inr (.inl ⟨hf, rfl, rfl⟩), ?_⟩
            clear hstop e1 h1 h2 t1 t2
            refine Eq.mp (by kernel_rfl : (decide ((↑(0 : Nat) : Int) < (↑n : Int)) = true ∧ ((0 : Int) ≤ (↑(0 : Nat) : Int) ∧ (↑(0 : Nat) : Int) < (↑n : Int)) ∧ headF (List.drop (0 * 1) (ints keep)) = some (i6 (List.getD keep 0 (0 : Int))) ∧ decide (List.getD keep 0 (0 : Int) < (0 : Int)) = false ∧ ((0 : Int) ≤ (↑(0 : Nat) : Int) ∧ (↑(0 : Nat) : Int) < (↑n : Int)) ∧ headF (List.drop (0 * 1) (ints keep)) = some (i6 (List.getD keep 0 (0 : Int))) ∧ decide (List.getD keep 0 (0 : Int) > (63 : Int)) = false ∧ ((0 : Int) ≤ (↑(0 : Nat) : Int) ∧ (↑(0 : Nat) : Int) < (↑n : Int)) ∧ headF (List.drop (0 * 1) (ints keep)) = some (i6 (List.getD keep 0 (0 : Int))) ∧ ((0 : Int) ≤ List.getD keep 0 (0 : Int) ∧ List.getD keep 0 (0 : Int) < (↑(64 : Nat) : Int)) ∧ headF (List.drop (Int.toNat (List.getD keep 0 (0 : Int)) * 1) (a64 F)) = some (i6 (F v)) ∧ (F v == (0 : Int)) = true ∧ (0 = 0 ∧ (2 : Int) = (2 : Int) ∧ True) ∧ ([V.nils, V.nils, V.nils] = [V.nils, V.nils, V.nils] ∧ TT 3) ∧ True) = _) ?_
            (repeat' (first | (with_reducible apply And.intro) | (refine fun (_ : True) => ?_))) <;> first | exact aq | skip
            all_goals first | exact hh | rfl | skip
          · have ht : withT F keep (0 + 1) = true := by rw [e1, decide_eq_true_eq]; exact ⟨by show -1 < _; omega, by omega, c4⟩
            refine .inl ⟨(0 + 1, lv ++ [keep.getD 0 0], cl ++ [F v]), [0, 1, 3, 5], [yes 32, pl 37, ld 38 (i6 (keep.getD 0 0)), no 39, pl 43, ld 44 (i6 (keep.getD 0 0)), no 45, pl 67, ld 68 (i6 (keep.getD 0 0)), pl 69, ld 70 (i6 (F v)), no 71, pl 78, ld 79 (i6 (keep.getD 0 0)), pl 88, ld 89 (i6 (keep.getD 0 0)), pl 90, ld 91 (i6 (F v)), nu 34 (0 + 1 : Nat)], 1000, ⟨by dsimp only; omega, ht, t1.symm, t2.symm⟩, by dsimp only; omega, ?_⟩
            subst z1 z2
            clear hstop e1 h1 h2 t1 t2 ht
            refine Eq.mp (by kernel_rfl : (decide ((↑(0 : Nat) : Int) < (↑n : Int)) = true ∧ ((0 : Int) ≤ (↑(0 : Nat) : Int) ∧ (↑(0 : Nat) : Int) < (↑n : Int)) ∧ headF (List.drop (0 * 1) (ints keep)) = some (i6 (List.getD keep 0 (0 : Int))) ∧ decide (List.getD keep 0 (0 : Int) < (0 : Int)) = false ∧ ((0 : Int) ≤ (↑(0 : Nat) : Int) ∧ (↑(0 : Nat) : Int) < (↑n : Int)) ∧ headF (List.drop (0 * 1) (ints keep)) = some (i6 (List.getD keep 0 (0 : Int))) ∧ decide (List.getD keep 0 (0 : Int) > (63 : Int)) = false ∧ ((0 : Int) ≤ (↑(0 : Nat) : Int) ∧ (↑(0 : Nat) : Int) < (↑n : Int)) ∧ headF (List.drop (0 * 1) (ints keep)) = some (i6 (List.getD keep 0 (0 : Int))) ∧ ((0 : Int) ≤ List.getD keep 0 (0 : Int) ∧ List.getD keep 0 (0 : Int) < (↑(64 : Nat) : Int)) ∧ headF (List.drop (Int.toNat (List.getD keep 0 (0 : Int)) * 1) (a64 F)) = some (i6 (F v)) ∧ (F v == (0 : Int)) = false ∧ ((0 : Int) ≤ (↑(0 : Nat) : Int) ∧ (↑(0 : Nat) : Int) < (↑n : Int)) ∧ headF (List.drop (0 * 1) (ints keep)) = some (i6 (List.getD keep 0 (0 : Int))) ∧ ((0 : Int) ≤ (↑(0 : Nat) : Int) ∧ (↑(0 : Nat) : Int) < (↑n : Int)) ∧ headF (List.drop (0 * 1) (ints keep)) = some (i6 (List.getD keep 0 (0 : Int))) ∧ ((0 : Int) ≤ List.getD keep 0 (0 : Int) ∧ List.getD keep 0 (0 : Int) < (↑(64 : Nat) : Int)) ∧ headF (List.drop (Int.toNat (List.getD keep 0 (0 : Int)) * 1) (a64 F)) = some (i6 (F v)) ∧ wr IntKind.i64 ((↑(0 : Nat) : Int) + (1 : Int)) = (↑(0 + 1) : Int) ∧ (kd = kd ∧ (m = m ∧ cT = cT) ∧ (n = n ∧ ints keep = ints keep) ∧ 0 = 0 ∧ (64 = 64 ∧ a64 F = a64 F) ∧ g = g ∧ 0 = 0 ∧ (↑(0 + 1) : Int) = (↑(0 + 1) : Int) ∧ True) ∧ ([V.nils, V.nils, V.nils] = [V.nils, V.nils, V.nils] ∧ TT 3) ∧ ((0 = 0 ∧ 0 + 1 = 1 ∧ True) ∧ (0 = 0 ∧ 0 + 1 = 1 ∧ True) ∧ True ∧ True) ∧ (ints ([] ++ [List.getD keep 0 (0 : Int)]) = [i6 (List.getD keep 0 (0 : Int))] ∧ True ∧ True) ∧ (ints ([] ++ [F v]) = [i6 (F v)] ∧ True ∧ True) ∧ True) = _) ?_
            (repeat' (first | (with_reducible apply And.intro) | (refine fun (_ : True) => ?_))) <;> first | exact aq | skip
            all_goals first | exact hh | rfl | skip
        | succ j =>
          have g2 := @head_intsD keep j (by omega)
          have el : lastT keep (j + 1) = keep.getD j 0 := rfl
          rw [el] at e1
          by_cases c3 : keep.getD (j + 1) 0 ≤ keep.getD j 0
          · have hf := hstop (by rw [e1, decide_eq_false_iff_not]; omega)
            refine .inr ⟨.ret, [0], cBad 2, [yes 32, pl 37, ld 38 (i6 (keep.getD (j + 1) 0)), no 39, pl 43, ld 44 (i6 (keep.getD (j + 1) 0)), no 45, yes 49, pl 53, ld 54 (i6 (keep.getD (j + 1) 0)), nu 57 (j : Nat), pl 58, ld 59 (i6 (keep.getD j 0)), yes 60], 1000, .inr (.inl ⟨hf, rfl, rfl⟩), ?_⟩
            clear hstop e1 h1 h2 t1 t2
            refine Eq.mp (by kernel_rfl : (decide ((↑(j + 1) : Int) < (↑n : Int)) = true ∧ ((0 : Int) ≤ (↑(j + 1) : Int) ∧ (↑(j + 1) : Int) < (↑n : Int)) ∧ headF (List.drop ((j + 1) * 1) (ints keep)) = some (i6 (List.getD keep (j + 1) (0 : Int))) ∧ decide (List.getD keep (j + 1) (0 : Int) < (0 : Int)) = false ∧ ((0 : Int) ≤ (↑(j + 1) : Int) ∧ (↑(j + 1) : Int) < (↑n : Int)) ∧ headF (List.drop ((j + 1) * 1) (ints keep)) = some (i6 (List.getD keep (j + 1) (0 : Int))) ∧ decide (List.getD keep (j + 1) (0 : Int) > (63 : Int)) = false ∧ decide ((↑(j + 1) : Int) > (0 : Int)) = true ∧ ((0 : Int) ≤ (↑(j + 1) : Int) ∧ (↑(j + 1) : Int) < (↑n : Int)) ∧ headF (List.drop ((j + 1) * 1) (ints keep)) = some (i6 (List.getD keep (j + 1) (0 : Int))) ∧ wr IntKind.i64 ((↑(j + 1) : Int) - (1 : Int)) = (↑j : Int) ∧ ((0 : Int) ≤ (↑j : Int) ∧ (↑j : Int) < (↑n : Int)) ∧ headF (List.drop (j * 1) (ints keep)) = some (i6 (List.getD keep j (0 : Int))) ∧ decide (List.getD keep (j + 1) (0 : Int) ≤ List.getD keep j (0 : Int)) = true ∧ (0 = 0 ∧ (2 : Int) = (2 : Int) ∧ True) ∧ ([V.nils, V.nils, V.nils] = [V.nils, V.nils, V.nils] ∧ TT 3) ∧ True) = _) ?_
            (repeat' (first | (with_reducible apply And.intro) | (refine fun (_ : True) => ?_))) <;> first | exact aq | skip
            all_goals first | exact hh | rfl | skip
          · by_cases c4 : F v = 0
            · have hf := hstop (by rw [e1, decide_eq_false_iff_not]; omega)
              refine .inr ⟨.ret, [0], cBad 2, [yes 32, pl 37, ld 38 (i6 (keep.getD (j + 1) 0)), no 39, pl 43, ld 44 (i6 (keep.getD (j + 1) 0)), no 45, yes 49, pl 53, ld 54 (i6 (keep.getD (j + 1) 0)), nu 57 (j : Nat), pl 58, ld 59 (i6 (keep.getD j 0)), no 60, pl 67, ld 68 (i6 (keep.getD (j + 1) 0)), pl 69, ld 70 (i6 (F v)), yes 71], 1000, .inr (.inl ⟨hf, rfl, rfl⟩), ?_⟩
              clear hstop e1 h1 h2 t1 t2
              refine Eq.mp (by kernel_rfl : (decide ((↑(j + 1) : Int) < (↑n : Int)) = true ∧ ((0 : Int) ≤ (↑(j + 1) : Int) ∧ (↑(j + 1) : Int) < (↑n : Int)) ∧ headF (List.drop ((j + 1) * 1) (ints keep)) = some (i6 (List.getD keep (j + 1) (0 : Int))) ∧ decide (List.getD keep (j + 1) (0 : Int) < (0 : Int)) = false ∧ ((0 : Int) ≤ (↑(j + 1) : Int) ∧ (↑(j + 1) : Int) < (↑n : Int)) ∧ headF (List.drop ((j + 1) * 1) (ints keep)) = some (i6 (List.getD keep (j + 1) (0 : Int))) ∧ decide (List.getD keep (j + 1) (0 : Int) > (63 : Int)) = false ∧ decide ((↑(j + 1) : Int) > (0 : Int)) = true ∧ ((0 : Int) ≤ (↑(j + 1) : Int) ∧ (↑(j + 1) : Int) < (↑n : Int)) ∧ headF (List.drop ((j + 1) * 1) (ints keep)) = some (i6 (List.getD keep (j + 1) (0 : Int))) ∧ wr IntKind.i64 ((↑(j + 1) : Int) - (1 : Int)) = (↑j : Int) ∧ ((0 : Int) ≤ (↑j : Int) ∧ (↑j : Int) < (↑n : Int)) ∧ headF (List.drop (j * 1) (ints keep)) = some (i6 (List.getD keep j (0 : Int))) ∧ decide (List.getD keep (j + 1) (0 : Int) ≤ List.getD keep j (0 : Int)) = false ∧ ((0 : Int) ≤ (↑(j + 1) : Int) ∧ (↑(j + 1) : Int) < (↑n : Int)) ∧ headF (List.drop ((j + 1) * 1) (ints keep)) = some (i6 (List.getD keep (j + 1) (0 : Int))) ∧ ((0 : Int) ≤ List.getD keep (j + 1) (0 : Int) ∧ List.getD keep (j + 1) (0 : Int) < (↑(64 : Nat) : Int)) ∧ headF (List.drop (Int.toNat (List.getD keep (j + 1) (0 : Int)) * 1) (a64 F)) = some (i6 (F v)) ∧ (F v == (0 : Int)) = true ∧ (0 = 0 ∧ (2 : Int) = (2 : Int) ∧ True) ∧ ([V.nils, V.nils, V.nils] = [V.nils, V.nils, V.nils] ∧ TT 3) ∧ True) = _) ?_
              (repeat' (first | (with_reducible apply And.intro) | (refine fun (_ : True) => ?_))) <;> first | exact aq | skip
              all_goals first | exact hh | rfl | skip
            · have ht : withT F keep (j + 1 + 1) = true := by rw [e1, decide_eq_true_eq]; exact ⟨by omega, by omega, c4⟩
              refine .inl ⟨(j + 1 + 1, lv ++ [keep.getD (j + 1) 0], cl ++ [F v]), [0, 1, 5, 7], [yes 32, pl 37, ld 38 (i6 (keep.getD (j + 1) 0)), no 39, pl 43, ld 44 (i6 (keep.getD (j + 1) 0)), no 45, yes 49, pl 53, ld 54 (i6 (keep.getD (j + 1) 0)), nu 57 (j : Nat), pl 58, ld 59 (i6 (keep.getD j 0)), no 60, pl 67, ld 68 (i6 (keep.getD (j + 1) 0)), pl 69, ld 70 (i6 (F v)), no 71, pl 78, ld 79 (i6 (keep.getD (j + 1) 0)), ap 81, pl 88, ld 89 (i6 (keep.getD (j + 1) 0)), pl 90, ld 91 (i6 (F v)), ap 93, nu 34 (j + 1 + 1 : Nat)], 1000, ⟨by dsimp only; omega, ht, t1.symm, t2.symm⟩, by dsimp only; omega, ?_⟩
              clear hstop e1 h1 h2 t1 t2 ht
              refine Eq.mp (by kernel_rfl : (decide ((↑(j + 1) : Int) < (↑n : Int)) = true ∧ ((0 : Int) ≤ (↑(j + 1) : Int) ∧ (↑(j + 1) : Int) < (↑n : Int)) ∧ headF (List.drop ((j + 1) * 1) (ints keep)) = some (i6 (List.getD keep (j + 1) (0 : Int))) ∧ decide (List.getD keep (j + 1) (0 : Int) < (0 : Int)) = false ∧ ((0 : Int) ≤ (↑(j + 1) : Int) ∧ (↑(j + 1) : Int) < (↑n : Int)) ∧ headF (List.drop ((j + 1) * 1) (ints keep)) = some (i6 (List.getD keep (j + 1) (0 : Int))) ∧ decide (List.getD keep (j + 1) (0 : Int) > (63 : Int)) = false ∧ decide ((↑(j + 1) : Int) > (0 : Int)) = true ∧ ((0 : Int) ≤ (↑(j + 1) : Int) ∧ (↑(j + 1) : Int) < (↑n : Int)) ∧ headF (List.drop ((j + 1) * 1) (ints keep)) = some (i6 (List.getD keep (j + 1) (0 : Int))) ∧ wr IntKind.i64 ((↑(j + 1) : Int) - (1 : Int)) = (↑j : Int) ∧ ((0 : Int) ≤ (↑j : Int) ∧ (↑j : Int) < (↑n : Int)) ∧ headF (List.drop (j * 1) (ints keep)) = some (i6 (List.getD keep j (0 : Int))) ∧ decide (List.getD keep (j + 1) (0 : Int) ≤ List.getD keep j (0 : Int)) = false ∧ ((0 : Int) ≤ (↑(j + 1) : Int) ∧ (↑(j + 1) : Int) < (↑n : Int)) ∧ headF (List.drop ((j + 1) * 1) (ints keep)) = some (i6 (List.getD keep (j + 1) (0 : Int))) ∧ ((0 : Int) ≤ List.getD keep (j + 1) (0 : Int) ∧ List.getD keep (j + 1) (0 : Int) < (↑(64 : Nat) : Int)) ∧ headF (List.drop (Int.toNat (List.getD keep (j + 1) (0 : Int)) * 1) (a64 F)) = some (i6 (F v)) ∧ (F v == (0 : Int)) = false ∧ ((0 : Int) ≤ (↑(j + 1) : Int) ∧ (↑(j + 1) : Int) < (↑n : Int)) ∧ headF (List.drop ((j + 1) * 1) (ints keep)) = some (i6 (List.getD keep (j + 1) (0 : Int))) ∧ List.length (ints lv) = (j + 1) * 1 ∧ j + 1 + 1 ≤ 9223372036854775807 ∧ (j + 1 + 1) * 8 ≤ 140737488355328 ∧ ((0 : Int) ≤ (↑(j + 1) : Int) ∧ (↑(j + 1) : Int) < (↑n : Int)) ∧ headF (List.drop ((j + 1) * 1) (ints keep)) = some (i6 (List.getD keep (j + 1) (0 : Int))) ∧ ((0 : Int) ≤ List.getD keep (j + 1) (0 : Int) ∧ List.getD keep (j + 1) (0 : Int) < (↑(64 : Nat) : Int)) ∧ headF (List.drop (Int.toNat (List.getD keep (j + 1) (0 : Int)) * 1) (a64 F)) = some (i6 (F v)) ∧ List.length (ints cl) = (j + 1) * 1 ∧ j + 1 + 1 ≤ 9223372036854775807 ∧ (j + 1 + 1) * 8 ≤ 140737488355328 ∧ wr IntKind.i64 ((↑(j + 1) : Int) + (1 : Int)) = (↑(j + 1 + 1) : Int) ∧ (kd = kd ∧ (m = m ∧ cT = cT) ∧ (n = n ∧ ints keep = ints keep) ∧ 0 = 0 ∧ (64 = 64 ∧ a64 F = a64 F) ∧ g = g ∧ 0 = 0 ∧ (↑(j + 1 + 1) : Int) = (↑(j + 1 + 1) : Int) ∧ True) ∧ ([V.nils, V.nils, V.nils] = [V.nils, V.nils, V.nils] ∧ TT 3) ∧ ((0 = 0 ∧ Nat.succ j + 1 = j + 1 + 1 ∧ True) ∧ (0 = 0 ∧ Nat.succ j + 1 = j + 1 + 1 ∧ True) ∧ True ∧ True) ∧ (ints (lv ++ [List.getD keep (j + 1) (0 : Int)]) = ints lv ++ [i6 (List.getD keep (j + 1) (0 : Int))] ∧ HfL (ints (lv ++ [List.getD keep (j + 1) (0 : Int)]))) ∧ (ints (cl ++ [F v]) = ints cl ++ [i6 (F v)] ∧ HfL (ints (cl ++ [F v]))) ∧ True) = _) ?_
              (repeat' (first | (with_reducible apply And.intro) | (refine fun (_ : True) => ?_))) <;> first | exact aq | skip
              all_goals first | exact hh | exact a1 | exact a1.symm | exact a2 | exact a2.symm | (rw [ints_length]; omega) | rfl | skip
  · have e : k = n := by omega
    rw [e] at h1 h2 l1 l2 hw
    rw [← h1, ← h2]
    cases k with
    | zero =>
      have z1 : lv = [] := List.eq_nil_of_length_eq_zero (by omega)
      have z2 : cl = [] := List.eq_nil_of_length_eq_zero (by omega)
      refine .inr ⟨.exit 0, [0, 1], k0X kd cT m n F g lv cl, [no 32], 1000, .inl ⟨hw, rfl, rfl⟩, ?_⟩
      subst z1 z2
      clear h1 h2
      refine Eq.mp (by kernel_rfl : (decide ((↑(0 : Nat) : Int) < (↑n : Int)) = false ∧ (kd = kd ∧ (m = m ∧ cT = cT) ∧ 0 = 0 ∧ (64 = 64 ∧ a64 F = a64 F) ∧ g = g ∧ 0 = 0 ∧ True) ∧ ([V.nils, V.nils, V.nils] = [V.nils, V.nils, V.nils] ∧ TT 3) ∧ (n = 0 ∧ n = 0 ∧ True ∧ True) ∧ True) = _) ?_
      (repeat' (first | (with_reducible apply And.intro) | (refine fun (_ : True) => ?_))) <;> first | exact aq | skip
      all_goals first | rfl | omega | skip
    | succ k =>
      refine .inr ⟨.exit 0, [0, 1], k0X kd cT m n F g lv cl, [no 32], 1000, .inl ⟨hw, rfl, rfl⟩, ?_⟩
      clear h1 h2
      refine Eq.mp (by kernel_rfl : (decide ((↑(k + 1) : Int) < (↑n : Int)) = false ∧ (kd = kd ∧ (m = m ∧ cT = cT) ∧ 0 = 0 ∧ (64 = 64 ∧ a64 F = a64 F) ∧ g = g ∧ 0 = 0 ∧ True) ∧ ([V.nils, V.nils, V.nils] = [V.nils, V.nils, V.nils] ∧ TT 3) ∧ ((n = k + 1 ∧ ints lv = ints lv ∧ HfL (ints lv)) ∧ (n = k + 1 ∧ ints cl = ints cl ∧ HfL (ints cl)) ∧ True ∧ True) ∧ True) = _) ?_
      (repeat' (first | (with_reducible apply And.intro) | (refine fun (_ : True) => ?_))) <;> first | exact aq | skip
      all_goals first | rfl | omega | skip
section
variable (kd : Int) (cT : List V) (m : Nat) (F : Nat → Int) (n : Nat) (kl cl : List Int)
abbrev k2S (p : Nat × Nat × List Int × List Int) : SL := { sl := [(0, i6 kd), (1, .im m cT), (6, .ptr 0 0), (8, .im 64 (a64 F)), (10, .ptr 1 0), (12, owV 2 p.2.1), (13, owV 3 p.2.1), (14, i6 p.1)], os := r3 :: .row 32 none [.im n (ints kl), .im n (ints cl), .nils] :: (owO p.2.2.1 p.2.1 ++ owO p.2.2.2 p.2.1) }
abbrev k2X (q : Nat) (lv ls : List Int) : SL := { sl := [(0, i6 kd), (1, .im m cT), (6, .ptr 0 0), (10, .ptr 1 0), (12, .im q (ints lv)), (13, .im q (ints ls))], os := [r3, .row 32 none [.im n (ints kl), .im n (ints cl), .nils]] }
end
theorem rc_vars (kd : Int) (cT : List V) (hL : HfL cT) (m : Nat) (F : Nat → Int) (n : Nat) (kl cl : List Int) :
    Sat Pg none 0 (at' 17 [1, 1, 1, 1, 1, 1, 0, 1, 0]) (mkSt g0 231 (k2S kd cT m F n kl cl (0, 0, [], []))) (outsP g0 231 [(True, .exit 2, k2X kd cT m n kl cl (qF F 64) (vF F 64) (sF F 64))]) := by
  refine loopC vE_ok mixed sp0_ok (b := at' 17 [1, 1, 1, 1, 1, 1, 0, 1, 0, 0]) (by kernel_rfl) (fun p => p.1 ≤ 64 ∧ p.2.1 = qF F p.1 ∧ p.2.2.1 = vF F p.1 ∧ p.2.2.2 = sF F p.1) (k2S kd cT m F n kl cl) (fun p => 64 - p.1) (fun p hp => ?_) (0, 0, [], []) ⟨Nat.zero_le _, rfl, rfl, rfl⟩
  obtain ⟨i, q, lv, ls⟩ := p
  obtain ⟨hi, hq, hv, hs⟩ := hp
  dsimp only at hi hq hv hs
  have hF := HfL_a64 F
  have hkl := HfL_ints kl
  have hcl := HfL_ints cl
  have l1 := vF_len F i
  have l2 := sF_len F i
  rw [← hv, ← hq] at l1
  rw [← hs, ← hq] at l2
  have hle := qF_le F i
  rw [← hq] at hle
  by_cases hlt : i < 64
  · have hx : headF ((a64 F).drop (i * 1)) = some (i6 (F i)) := by
      have := @head64 F i hlt
      rw [dropF_eq] at this
      rw [Nat.mul_one]; exact this
    by_cases hpos : 0 < F i
    · have e1 : qF F (i + 1) = q + 1 := by rw [qF, if_pos hpos, hq]
      have e2 : vF F (i + 1) = lv ++ [(i : Int)] := by rw [vF, if_pos hpos, hv]
      have e3 : sF F (i + 1) = ls ++ [F i] := by rw [sF, if_pos hpos, hs]
      have a1 := ints_app lv (i : Int)
      have a2 := ints_app ls (F i)
      have hH1 := HfL_ints (lv ++ [(i : Int)])
      have hH2 := HfL_ints (ls ++ [F i])
      cases q with
      | zero =>
        have z1 : lv = [] := List.eq_nil_of_length_eq_zero l1
        have z2 : ls = [] := List.eq_nil_of_length_eq_zero l2
        refine .inl ⟨(i + 1, 1, lv ++ [(i : Int)], ls ++ [F i]), [0, 1, 3, 5], [yes 99, pl 104, ld 105 (i6 (F i)), yes 106, pl 114, ld 115 (i6 (F i)), nu 101 (i + 1 : Nat)], 1000, ⟨by dsimp only; omega, e1.symm, e2.symm, e3.symm⟩, by dsimp only; omega, ?_⟩
        subst z1 z2
        clear hv hs hq e1 e2 e3
        refine Eq.mp (by kernel_rfl : (decide ((↑i : Int) < (64 : Int)) = true ∧ ((0 : Int) ≤ (↑i : Int) ∧ (↑i : Int) < (↑(64 : Nat) : Int)) ∧ headF (List.drop (i * 1) (a64 F)) = some (i6 (F i)) ∧ decide (F i > (0 : Int)) = true ∧ ((0 : Int) ≤ (↑i : Int) ∧ (↑i : Int) < (↑(64 : Nat) : Int)) ∧ headF (List.drop (i * 1) (a64 F)) = some (i6 (F i)) ∧ wr IntKind.i64 ((↑i : Int) + (1 : Int)) = (↑(i + 1) : Int) ∧ (kd = kd ∧ (m = m ∧ cT = cT) ∧ 0 = 0 ∧ (64 = 64 ∧ a64 F = a64 F) ∧ 0 = 0 ∧ (0 = 0 ∧ 0 + 1 = 1 ∧ True) ∧ (0 = 0 ∧ 0 + 1 = 1 ∧ True) ∧ (↑(i + 1) : Int) = (↑(i + 1) : Int) ∧ True) ∧ ([V.nils, V.nils, V.nils] = [V.nils, V.nils, V.nils] ∧ TT 3) ∧ ([V.im n (ints kl), V.im n (ints cl), V.nils] = [V.im n (ints kl), V.im n (ints cl), V.nils] ∧ TT 3) ∧ (ints ([] ++ [(↑i : Int)]) = [i6 (↑i : Int)] ∧ True ∧ True) ∧ (ints ([] ++ [F i]) = [i6 (F i)] ∧ True ∧ True) ∧ True) = _) ?_
        (repeat' (first | (with_reducible apply And.intro) | (refine fun (_ : True) => ?_))) <;> first | exact aq | skip
        all_goals first | exact hx | rfl | skip
      | succ q =>
        refine .inl ⟨(i + 1, q + 1 + 1, lv ++ [(i : Int)], ls ++ [F i]), [0, 1, 5, 7], [yes 99, pl 104, ld 105 (i6 (F i)), yes 106, ap 110, pl 114, ld 115 (i6 (F i)), ap 117, nu 101 (i + 1 : Nat)], 1000, ⟨by dsimp only; omega, e1.symm, e2.symm, e3.symm⟩, by dsimp only; omega, ?_⟩
        clear hv hs hq e1 e2 e3
        refine Eq.mp (by kernel_rfl : (decide ((↑i : Int) < (64 : Int)) = true ∧ ((0 : Int) ≤ (↑i : Int) ∧ (↑i : Int) < (↑(64 : Nat) : Int)) ∧ headF (List.drop (i * 1) (a64 F)) = some (i6 (F i)) ∧ decide (F i > (0 : Int)) = true ∧ List.length (ints lv) = (q + 1) * 1 ∧ q + 1 + 1 ≤ 9223372036854775807 ∧ (q + 1 + 1) * 8 ≤ 140737488355328 ∧ ((0 : Int) ≤ (↑i : Int) ∧ (↑i : Int) < (↑(64 : Nat) : Int)) ∧ headF (List.drop (i * 1) (a64 F)) = some (i6 (F i)) ∧ List.length (ints ls) = (q + 1) * 1 ∧ q + 1 + 1 ≤ 9223372036854775807 ∧ (q + 1 + 1) * 8 ≤ 140737488355328 ∧ wr IntKind.i64 ((↑i : Int) + (1 : Int)) = (↑(i + 1) : Int) ∧ (kd = kd ∧ (m = m ∧ cT = cT) ∧ 0 = 0 ∧ (64 = 64 ∧ a64 F = a64 F) ∧ 0 = 0 ∧ (0 = 0 ∧ Nat.succ q + 1 = q + 1 + 1 ∧ True) ∧ (0 = 0 ∧ Nat.succ q + 1 = q + 1 + 1 ∧ True) ∧ (↑(i + 1) : Int) = (↑(i + 1) : Int) ∧ True) ∧ ([V.nils, V.nils, V.nils] = [V.nils, V.nils, V.nils] ∧ TT 3) ∧ ([V.im n (ints kl), V.im n (ints cl), V.nils] = [V.im n (ints kl), V.im n (ints cl), V.nils] ∧ TT 3) ∧ (ints (lv ++ [(↑i : Int)]) = ints lv ++ [i6 (↑i : Int)] ∧ HfL (ints (lv ++ [(↑i : Int)]))) ∧ (ints (ls ++ [F i]) = ints ls ++ [i6 (F i)] ∧ HfL (ints (ls ++ [F i]))) ∧ True) = _) ?_
        (repeat' (first | (with_reducible apply And.intro) | (refine fun (_ : True) => ?_))) <;> first | exact aq | skip
        all_goals first | exact hx | rfl | exact a1 | exact a2 | (rw [ints_length]; omega) | skip
    · have e1 : qF F (i + 1) = q := by rw [qF, if_neg hpos, hq]
      have e2 : vF F (i + 1) = lv := by rw [vF, if_neg hpos, hv]
      have e3 : sF F (i + 1) = ls := by rw [sF, if_neg hpos, hs]
      have hH1 := HfL_ints lv
      have hH2 := HfL_ints ls
      cases q with
      | zero =>
        refine .inl ⟨(i + 1, 0, lv, ls), [0, 1], [yes 99, pl 104, ld 105 (i6 (F i)), no 106, nu 101 (i + 1 : Nat)], 1000, ⟨by dsimp only; omega, e1.symm, e2.symm, e3.symm⟩, by dsimp only; omega, ?_⟩
        clear hv hs hq e1 e2 e3
        refine Eq.mp (by kernel_rfl : (decide ((↑i : Int) < (64 : Int)) = true ∧ ((0 : Int) ≤ (↑i : Int) ∧ (↑i : Int) < (↑(64 : Nat) : Int)) ∧ headF (List.drop (i * 1) (a64 F)) = some (i6 (F i)) ∧ decide (F i > (0 : Int)) = false ∧ wr IntKind.i64 ((↑i : Int) + (1 : Int)) = (↑(i + 1) : Int) ∧ (kd = kd ∧ (m = m ∧ cT = cT) ∧ 0 = 0 ∧ (64 = 64 ∧ a64 F = a64 F) ∧ 0 = 0 ∧ True ∧ True ∧ (↑(i + 1) : Int) = (↑(i + 1) : Int) ∧ True) ∧ ([V.nils, V.nils, V.nils] = [V.nils, V.nils, V.nils] ∧ TT 3) ∧ ([V.im n (ints kl), V.im n (ints cl), V.nils] = [V.im n (ints kl), V.im n (ints cl), V.nils] ∧ TT 3) ∧ True) = _) ?_
        (repeat' (first | (with_reducible apply And.intro) | (refine fun (_ : True) => ?_))) <;> first | exact aq | skip
        all_goals first | exact hx | rfl | skip
      | succ q =>
        refine .inl ⟨(i + 1, q + 1, lv, ls), [0, 1, 2, 3], [yes 99, pl 104, ld 105 (i6 (F i)), no 106, nu 101 (i + 1 : Nat)], 1000, ⟨by dsimp only; omega, e1.symm, e2.symm, e3.symm⟩, by dsimp only; omega, ?_⟩
        clear hv hs hq e1 e2 e3
        refine Eq.mp (by kernel_rfl : (decide ((↑i : Int) < (64 : Int)) = true ∧ ((0 : Int) ≤ (↑i : Int) ∧ (↑i : Int) < (↑(64 : Nat) : Int)) ∧ headF (List.drop (i * 1) (a64 F)) = some (i6 (F i)) ∧ decide (F i > (0 : Int)) = false ∧ wr IntKind.i64 ((↑i : Int) + (1 : Int)) = (↑(i + 1) : Int) ∧ (kd = kd ∧ (m = m ∧ cT = cT) ∧ 0 = 0 ∧ (64 = 64 ∧ a64 F = a64 F) ∧ 0 = 0 ∧ (0 = 0 ∧ q + 1 = q + 1 ∧ True) ∧ (0 = 0 ∧ q + 1 = q + 1 ∧ True) ∧ (↑(i + 1) : Int) = (↑(i + 1) : Int) ∧ True) ∧ ([V.nils, V.nils, V.nils] = [V.nils, V.nils, V.nils] ∧ TT 3) ∧ ([V.im n (ints kl), V.im n (ints cl), V.nils] = [V.im n (ints kl), V.im n (ints cl), V.nils] ∧ TT 3) ∧ (ints lv = ints lv ∧ HfL (ints lv)) ∧ (ints ls = ints ls ∧ HfL (ints ls)) ∧ True) = _) ?_
        (repeat' (first | (with_reducible apply And.intro) | (refine fun (_ : True) => ?_))) <;> first | exact aq | skip
        all_goals first | exact hx | rfl | skip
  · have : i = 64 := by omega
    subst this
    rw [← hq, ← hv, ← hs]
    have hH1 := HfL_ints lv
    have hH2 := HfL_ints ls
    cases q with
    | zero =>
      have z1 : lv = [] := List.eq_nil_of_length_eq_zero l1
      have z2 : ls = [] := List.eq_nil_of_length_eq_zero l2
      refine .inr ⟨.exit 2, [0, 1], k2X kd cT m n kl cl 0 lv ls, [], 1000, .inl ⟨trivial, rfl, rfl⟩, ?_⟩
      subst z1 z2
      refine Eq.mp (by kernel_rfl : ((kd = kd ∧ (m = m ∧ cT = cT) ∧ 0 = 0 ∧ 0 = 0 ∧ 0 = 0 ∧ 0 = 0 ∧ True) ∧ ([V.nils, V.nils, V.nils] = [V.nils, V.nils, V.nils] ∧ TT 3) ∧ ([V.im n (ints kl), V.im n (ints cl), V.nils] = [V.im n (ints kl), V.im n (ints cl), V.nils] ∧ TT 3) ∧ True) = _) ?_
      (repeat' (first | (with_reducible apply And.intro) | (refine fun (_ : True) => ?_))) <;> first | exact aq | skip
      all_goals first | rfl | skip
    | succ q =>
      refine .inr ⟨.exit 2, [0, 1], k2X kd cT m n kl cl (q + 1) lv ls, [], 1000, .inl ⟨trivial, rfl, rfl⟩, ?_⟩
      refine Eq.mp (by kernel_rfl : ((kd = kd ∧ (m = m ∧ cT = cT) ∧ 0 = 0 ∧ 0 = 0 ∧ (q + 1 = q + 1 ∧ ints lv = ints lv ∧ HfL (ints lv)) ∧ (q + 1 = q + 1 ∧ ints ls = ints ls ∧ HfL (ints ls)) ∧ True) ∧ ([V.nils, V.nils, V.nils] = [V.nils, V.nils, V.nils] ∧ TT 3) ∧ ([V.im n (ints kl), V.im n (ints cl), V.nils] = [V.im n (ints kl), V.im n (ints cl), V.nils] ∧ TT 3) ∧ True) = _) ?_
      (repeat' (first | (with_reducible apply And.intro) | (refine fun (_ : True) => ?_))) <;> first | exact aq | skip
      all_goals first | rfl | skip
end Go.Proofs.Ytgdnmgcigkhojaa.Am

namespace Go.Proofs.Ytgdnmgcigkhojaa.Am
open Go.RowKit
set_option linter.unusedVariables false
set_option maxHeartbeats 1000000
set_option maxRecDepth 100000
section
variable (kd : Int) (cT : List V) (m n : Nat) (kl cl : List Int) (q : Nat) (lv ls : List Int) (sz : Nat)
abbrev rO (W : List V) : List O := [r3, .row 32 none [.im n (ints kl), .im n (ints cl), .sl 2 0 sz (some (sz - sz))], .row 23 none W]
abbrev k4S (z : Int) (k : Nat) : SL := { sl := [(0, i6 kd), (1, .im m cT), (6, .ptr 0 0), (10, .ptr 1 0), (12, .im q (ints lv)), (13, .im q (ints ls)), (15, i6 k)], os := rO n kl cl sz (elF (zF z k) (fun _ => 0) sz), md := [0, 1] }
abbrev k4X (W : List V) : SL := { sl := [(0, i6 kd), (1, .im m cT), (6, .ptr 0 0), (10, .ptr 1 0), (12, .im q (ints lv)), (13, .im q (ints ls))], os := rO n kl cl sz W, md := [0, 1] }
end
theorem rc_zeros (kd : Int) (cT : List V) (hL : HfL cT) (m n : Nat) (kl cl : List Int) (q : Nat) (lv ls : List Int) (sz : Nat) (hz : sz ≤ 4096) (z : Int) (hzk : FnOk Pg g0 31 [i6 kd] (el z 0)) :
    Sat Pg none 0 (at' 17 [1, 1, 1, 1, 1, 1, 1, 1, 1, 0, 1, 0]) (mkSt g0 231 (k4S kd cT m n kl cl q lv ls sz z 0)) (outsP g0 231 [(True, .exit 4, k4X kd cT m n kl cl q lv ls sz (elF (fun _ => z) (fun _ => 0) sz))]) := by
  refine loopC vE_ok mixed sp0_ok (b := at' 17 [1, 1, 1, 1, 1, 1, 1, 1, 1, 0, 1, 0, 0]) (by kernel_rfl) (fun k => k ≤ sz) (k4S kd cT m n kl cl q lv ls sz z) (fun k => sz - k) (fun k hk => ?_) 0 (Nat.zero_le _)
  have hlv := HfL_ints lv
  have hcl := HfL_ints cl
  have hE := HfL_elF (zF z k) (fun _ => 0) sz
  have hE1 := HfL_elF (zF z (k + 1)) (fun _ => 0) sz
  by_cases hlt : k < sz
  · have hl := @lay_elF (zF z k) (fun _ => 0) sz k z 0 hlt
    have e1 : elF (up64 (zF z k) k z) (up64 (fun _ => 0) k 0) sz = elF (zF z (k + 1)) (fun _ => 0) sz := elF_congr fun i hi => by
      unfold up64 zF
      refine ⟨?_, by split <;> rfl⟩
      by_cases h : i = k
      · rw [if_pos h, if_pos (by omega)]
      · rw [if_neg h]
        by_cases h2 : i < k
        · rw [if_pos h2, if_pos (by omega)]
        · rw [if_neg h2, if_neg (by omega)]
    rw [e1] at hl
    refine .inl ⟨k + 1, [0, 1, 2], [yes 131, fn 138 (el z 0), pl 139, st (elF (zF z (k + 1)) (fun _ => 0) sz), nu 133 (k + 1 : Nat)], 1000, by omega, by omega, ?_⟩
    clear e1
    refine Eq.mp (by kernel_rfl : (decide ((↑k : Int) < (↑sz : Int)) = true ∧ (True ∧ True) ∧ FnOk Try.prog g0 31 [i6 kd] (el z (0 : Int)) ∧ True ∧ ((0 : Int) ≤ (↑k : Int) ∧ (↑k : Int) < (↑sz : Int)) ∧ layE (0 + k * 2) (elF (zF z k) (fun x => (0 : Int)) sz) [i6 z, i6 0] = some (elF (zF z (k + 1)) (fun x => (0 : Int)) sz) ∧ wr IntKind.i64 ((↑k : Int) + (1 : Int)) = (↑(k + 1) : Int) ∧ (kd = kd ∧ (m = m ∧ cT = cT) ∧ 0 = 0 ∧ 0 = 0 ∧ (q = q ∧ ints lv = ints lv) ∧ (q = q ∧ ints ls = ints ls) ∧ (↑(k + 1) : Int) = (↑(k + 1) : Int) ∧ True) ∧ ([V.nils, V.nils, V.nils] = [V.nils, V.nils, V.nils] ∧ TT 3) ∧ ((n = n ∧ ints kl = ints kl) ∧ (n = n ∧ ints cl = ints cl) ∧ (0 = 0 ∧ sz = sz ∧ sz - sz = sz - sz) ∧ True) ∧ (elF (zF z (k + 1)) (fun x => (0 : Int)) sz = elF (zF z (k + 1)) (fun x => (0 : Int)) sz ∧ HfL (elF (zF z (k + 1)) (fun x => (0 : Int)) sz)) ∧ True) = _) ?_
    (repeat' (first | (with_reducible apply And.intro) | (refine fun (_ : True) => ?_))) <;> first | exact aq | skip
    all_goals first | exact hl | rfl | skip
  · have : k = sz := by omega
    subst this
    have e1 : elF (zF z k) (fun _ => 0) k = elF (fun _ => z) (fun _ => 0) k := elF_congr fun i hi => ⟨by unfold zF; rw [if_pos hi], rfl⟩
    have hE2 := HfL_elF (fun _ => z) (fun _ => 0) k
    refine .inr ⟨.exit 4, [0, 1, 2], k4X kd cT m n kl cl q lv ls k (elF (fun _ => z) (fun _ => 0) k), [no 131], 1000, .inl ⟨trivial, rfl, rfl⟩, ?_⟩
    refine Eq.mp (by kernel_rfl : (decide ((↑k : Int) < (↑k : Int)) = false ∧ (kd = kd ∧ (m = m ∧ cT = cT) ∧ 0 = 0 ∧ 0 = 0 ∧ (q = q ∧ ints lv = ints lv) ∧ (q = q ∧ ints ls = ints ls) ∧ True) ∧ ([V.nils, V.nils, V.nils] = [V.nils, V.nils, V.nils] ∧ TT 3) ∧ ((n = n ∧ ints kl = ints kl) ∧ (n = n ∧ ints cl = ints cl) ∧ (0 = 0 ∧ k = k ∧ k - k = k - k) ∧ True) ∧ (elF (fun x => z) (fun x => (0 : Int)) k = elF (zF z k) (fun x => (0 : Int)) k ∧ HfL (elF (fun x => z) (fun x => (0 : Int)) k)) ∧ True) = _) ?_
    (repeat' (first | (with_reducible apply And.intro) | (refine fun (_ : True) => ?_))) <;> first | exact aq | skip
    all_goals first | rfl | skip
def zeE (z : Int) (a b : Nat → Int) : Nat → Bool
  | 0 => false
  | i + 1 => zeE z a b i || decide (a i = z ∧ b i = 0)
section
variable (kd : Int) (cT : List V) (m n : Nat) (kl cl : List Int) (q : Nat) (lv : List Int) (sz : Nat) (W : List V) (P : Nat) (al : List V) (j : Nat) (PA PB : Nat → Int)
abbrev k8S (p : Nat × Bool) : SL := { sl := [(0, i6 kd), (1, .im m cT), (6, .ptr 0 0), (10, .ptr 1 0), (12, .im q (ints lv)), (16, .im P al), (17, i6 j), (18, .ptr 3 0), (19, .bool p.2), (20, i6 p.1)], os := rO n kl cl sz W ++ [.row 23 none [i6 (PA p.1), i6 (PB p.1)]], md := [0, 1] }
abbrev k8X (z : Bool) (a b : Int) : SL := { sl := [(0, i6 kd), (1, .im m cT), (6, .ptr 0 0), (10, .ptr 1 0), (12, .im q (ints lv)), (16, .im P al), (17, i6 j), (18, .ptr 3 0), (19, .bool z)], os := rO n kl cl sz W ++ [.row 23 none [i6 a, i6 b]], md := [0, 1] }
end
structure OneOk (kd : Int) (c : List V) (q : Nat) (lv vals : List Int) (i : Nat) (x : Nat) (a b : Int) : Prop where
  ex : ∃ (vs cs : List Int) (k : Nat) (nk : Nat) (Ak Bk : Nat → Int) (rest : List V), c.drop (i * 3) = .im k (ints vs) :: .im k (ints cs) :: .im nk (elF Ak Bk nk) :: rest ∧ x < nk ∧ Ak x = a ∧ Bk x = b ∧ FnOk Pg g0 48 [.im k (ints vs), .im k (ints cs), .im q (ints lv), .im q (ints vals)] (i6 (x : Int))
theorem rc_prod (kd z : Int) (cT : List V) (hL : HfL cT) (m : Nat) (hm : m ≤ 1000) (n : Nat) (kl cl : List Int) (q : Nat) (lv vals : List Int) (sz : Nat) (W : List V) (hW : HfL W) (P : Nat) (al : List V) (hal : HfL al) (j : Nat) (hj : j < P) (hP : P ≤ 4096) (PA PB a b : Nat → Int) (ix : Nat → Nat)
    (hzk : FnOk Pg g0 31 [i6 kd] (el z 0)) (hv : headF (al.drop (j * 1)) = some (.im q (ints vals)))
    (hO : ∀ i, i < m → OneOk kd cT q lv vals i (ix i) (a i) (b i))
    (ht : ∀ i, i < m → FnOk Pg g0 35 [i6 kd, el (PA i) (PB i), el (a i) (b i)] (el (PA (i + 1)) (PB (i + 1)))) :
    Sat Pg none 0 (at' 17 [1, 1, 1, 1, 1, 1, 1, 1, 1, 1, 1, 0, 1, 0, 0, 1, 0, 0, 1, 1, 0, 1, 0]) (mkSt g0 231 (k8S kd cT m n kl cl q lv sz W P al j PA PB (0, false))) (outsP g0 231 [(True, .exit 8, k8X kd cT m n kl cl q lv sz W P al j (zeE z a b m) (PA m) (PB m))]) := by
  refine loopC vE_ok mixed sp0_ok (b := at' 17 [1, 1, 1, 1, 1, 1, 1, 1, 1, 1, 1, 0, 1, 0, 0, 1, 0, 0, 1, 1, 0, 1, 0, 0]) (by kernel_rfl) (fun p => p.1 ≤ m ∧ p.2 = zeE z a b p.1) (k8S kd cT m n kl cl q lv sz W P al j PA PB) (fun p => m - p.1) (fun p hp => ?_) (0, false) ⟨Nat.zero_le _, rfl⟩
  obtain ⟨i, ze⟩ := p
  obtain ⟨hi, hze⟩ := hp
  dsimp only at hi hze
  have hlv := HfL_ints lv
  have hkl := HfL_ints kl
  have hcl := HfL_ints cl
  have hvl := HfL_ints vals
  by_cases hlt : i < m
  · obtain ⟨vs, cs, k, nk, Ak, Bk, rest, hd, hx, rfl', rfl'', hpl⟩ := (hO i hlt).ex
    have htm := ht i hlt
    have hel := @head_elF Ak Bk nk (ix i) hx
    rw [rfl', rfl''] at hel
    have e1 : zeE z a b (i + 1) = (ze || decide (a i = z ∧ b i = 0)) := by rw [zeE, hze]
    have hE := HfL_elF Ak Bk nk
    clear hO ht hze
    generalize ix i = x at *
    generalize hai : a i = ai at *
    generalize hbi : b i = bi at *
    cases ze with
    | true =>
      rw [Bool.true_or] at e1
      refine .inl ⟨(i + 1, true), [0, 1, 2, 3], [yes 153, pl 163, ld 165 (.im k (ints vs)), pl 168, ld 170 (.im k (ints cs)), pl 174, ld 175 (.im q (ints vals)), fn 176 (i6 (x : Int)), pl 158, ld 160 (.im nk (elF Ak Bk nk)), pl 177, ld 178 (el ai bi), fn 189 (el (PA (i + 1)) (PB (i + 1))), nu 155 (i + 1 : Nat)], 1000, ⟨by dsimp only; omega, e1.symm⟩, by dsimp only; omega, ?_⟩
      clear e1
      refine Eq.mp (by kernel_rfl : (decide ((↑i : Int) < (↑m : Int)) = true ∧ ((0 : Int) ≤ (↑i : Int) ∧ (↑i : Int) < (↑m : Int)) ∧ headF (List.drop 0 (List.drop (i * 3) cT)) = some (V.im k (ints vs)) ∧ ((0 : Int) ≤ (↑i : Int) ∧ (↑i : Int) < (↑m : Int)) ∧ headF (List.drop 1 (List.drop (i * 3) cT)) = some (V.im k (ints cs)) ∧ ((0 : Int) ≤ (↑j : Int) ∧ (↑j : Int) < (↑P : Int)) ∧ headF (List.drop (j * 1) al) = some (V.im q (ints vals)) ∧ (TT 4) ∧ FnOk Try.prog g0 48 [V.im k (ints vs), V.im k (ints cs), V.im q (ints lv), V.im q (ints vals)] (i6 (↑x : Int)) ∧ True ∧ ((0 : Int) ≤ (↑i : Int) ∧ (↑i : Int) < (↑m : Int)) ∧ headF (List.drop 2 (List.drop (i * 3) cT)) = some (V.im nk (elF Ak Bk nk)) ∧ ((0 : Int) ≤ (↑x : Int) ∧ (↑x : Int) < (↑nk : Int)) ∧ takeE 2 (List.drop (x * 2) (elF Ak Bk nk)) = some [i6 ai, i6 bi] ∧ (True ∧ (True ∧ True ∧ True) ∧ (True ∧ True ∧ True) ∧ True) ∧ FnOk Try.prog g0 35 [i6 kd, V.agg [i6 (PA i), i6 (PB i)], V.agg [i6 ai, i6 bi]] (el (PA (i + 1)) (PB (i + 1))) ∧ True ∧ wr IntKind.i64 ((↑i : Int) + (1 : Int)) = (↑(i + 1) : Int) ∧ (kd = kd ∧ (m = m ∧ cT = cT) ∧ 0 = 0 ∧ 0 = 0 ∧ (q = q ∧ ints lv = ints lv) ∧ (P = P ∧ al = al) ∧ (↑j : Int) = (↑j : Int) ∧ 0 = 0 ∧ true = true ∧ (↑(i + 1) : Int) = (↑(i + 1) : Int) ∧ True) ∧ ([V.nils, V.nils, V.nils] = [V.nils, V.nils, V.nils] ∧ TT 3) ∧ ((n = n ∧ ints kl = ints kl) ∧ (n = n ∧ ints cl = ints cl) ∧ (0 = 0 ∧ sz = sz ∧ sz - sz = sz - sz) ∧ True) ∧ (W = W ∧ HfL W) ∧ ([i6 (PA (i + 1)), i6 (PB (i + 1))] = [i6 (PA (i + 1)), i6 (PB (i + 1))] ∧ True ∧ True ∧ True) ∧ True) = _) ?_
      (repeat' (first | (with_reducible apply And.intro) | (refine fun (_ : True) => ?_))) <;> first | exact aq | skip
      all_goals first | exact hv | (rw [hd]; rfl) | exact hel | rfl | skip
    | false =>
      rw [Bool.false_or] at e1
      by_cases hs : ai = z ∧ bi = 0
      · rw [decide_eq_true hs] at e1
        refine .inl ⟨(i + 1, true), [0, 1, 2, 3], [yes 153, pl 163, ld 165 (.im k (ints vs)), pl 168, ld 170 (.im k (ints cs)), pl 174, ld 175 (.im q (ints vals)), fn 176 (i6 (x : Int)), pl 158, ld 160 (.im nk (elF Ak Bk nk)), pl 177, ld 178 (el ai bi), fn 183 (el z 0), yes 184, fn 189 (el (PA (i + 1)) (PB (i + 1))), nu 155 (i + 1 : Nat)], 1000, ⟨by dsimp only; omega, e1.symm⟩, by dsimp only; omega, ?_⟩
        clear e1
        refine Eq.mp (by kernel_rfl : (decide ((↑i : Int) < (↑m : Int)) = true ∧ ((0 : Int) ≤ (↑i : Int) ∧ (↑i : Int) < (↑m : Int)) ∧ headF (List.drop 0 (List.drop (i * 3) cT)) = some (V.im k (ints vs)) ∧ ((0 : Int) ≤ (↑i : Int) ∧ (↑i : Int) < (↑m : Int)) ∧ headF (List.drop 1 (List.drop (i * 3) cT)) = some (V.im k (ints cs)) ∧ ((0 : Int) ≤ (↑j : Int) ∧ (↑j : Int) < (↑P : Int)) ∧ headF (List.drop (j * 1) al) = some (V.im q (ints vals)) ∧ (TT 4) ∧ FnOk Try.prog g0 48 [V.im k (ints vs), V.im k (ints cs), V.im q (ints lv), V.im q (ints vals)] (i6 (↑x : Int)) ∧ True ∧ ((0 : Int) ≤ (↑i : Int) ∧ (↑i : Int) < (↑m : Int)) ∧ headF (List.drop 2 (List.drop (i * 3) cT)) = some (V.im nk (elF Ak Bk nk)) ∧ ((0 : Int) ≤ (↑x : Int) ∧ (↑x : Int) < (↑nk : Int)) ∧ takeE 2 (List.drop (x * 2) (elF Ak Bk nk)) = some [i6 ai, i6 bi] ∧ (True ∧ True) ∧ FnOk Try.prog g0 31 [i6 kd] (el z (0 : Int)) ∧ True ∧ (ai == z && (bi == (0 : Int) && true)) = true ∧ (True ∧ (True ∧ True ∧ True) ∧ (True ∧ True ∧ True) ∧ True) ∧ FnOk Try.prog g0 35 [i6 kd, V.agg [i6 (PA i), i6 (PB i)], V.agg [i6 ai, i6 bi]] (el (PA (i + 1)) (PB (i + 1))) ∧ True ∧ wr IntKind.i64 ((↑i : Int) + (1 : Int)) = (↑(i + 1) : Int) ∧ (kd = kd ∧ (m = m ∧ cT = cT) ∧ 0 = 0 ∧ 0 = 0 ∧ (q = q ∧ ints lv = ints lv) ∧ (P = P ∧ al = al) ∧ (↑j : Int) = (↑j : Int) ∧ 0 = 0 ∧ true = true ∧ (↑(i + 1) : Int) = (↑(i + 1) : Int) ∧ True) ∧ ([V.nils, V.nils, V.nils] = [V.nils, V.nils, V.nils] ∧ TT 3) ∧ ((n = n ∧ ints kl = ints kl) ∧ (n = n ∧ ints cl = ints cl) ∧ (0 = 0 ∧ sz = sz ∧ sz - sz = sz - sz) ∧ True) ∧ (W = W ∧ HfL W) ∧ ([i6 (PA (i + 1)), i6 (PB (i + 1))] = [i6 (PA (i + 1)), i6 (PB (i + 1))] ∧ True ∧ True ∧ True) ∧ True) = _) ?_
        (repeat' (first | (with_reducible apply And.intro) | (refine fun (_ : True) => ?_))) <;> first | exact aq | skip
        all_goals first | exact hv | (rw [hd]; rfl) | exact hel | rfl | (simp; exact hs) | skip
      · rw [decide_eq_false hs] at e1
        refine .inl ⟨(i + 1, false), [0, 1, 2, 3], [yes 153, pl 163, ld 165 (.im k (ints vs)), pl 168, ld 170 (.im k (ints cs)), pl 174, ld 175 (.im q (ints vals)), fn 176 (i6 (x : Int)), pl 158, ld 160 (.im nk (elF Ak Bk nk)), pl 177, ld 178 (el ai bi), fn 183 (el z 0), no 184, fn 189 (el (PA (i + 1)) (PB (i + 1))), nu 155 (i + 1 : Nat)], 1000, ⟨by dsimp only; omega, e1.symm⟩, by dsimp only; omega, ?_⟩
        clear e1
        refine Eq.mp (by kernel_rfl : (decide ((↑i : Int) < (↑m : Int)) = true ∧ ((0 : Int) ≤ (↑i : Int) ∧ (↑i : Int) < (↑m : Int)) ∧ headF (List.drop 0 (List.drop (i * 3) cT)) = some (V.im k (ints vs)) ∧ ((0 : Int) ≤ (↑i : Int) ∧ (↑i : Int) < (↑m : Int)) ∧ headF (List.drop 1 (List.drop (i * 3) cT)) = some (V.im k (ints cs)) ∧ ((0 : Int) ≤ (↑j : Int) ∧ (↑j : Int) < (↑P : Int)) ∧ headF (List.drop (j * 1) al) = some (V.im q (ints vals)) ∧ (TT 4) ∧ FnOk Try.prog g0 48 [V.im k (ints vs), V.im k (ints cs), V.im q (ints lv), V.im q (ints vals)] (i6 (↑x : Int)) ∧ True ∧ ((0 : Int) ≤ (↑i : Int) ∧ (↑i : Int) < (↑m : Int)) ∧ headF (List.drop 2 (List.drop (i * 3) cT)) = some (V.im nk (elF Ak Bk nk)) ∧ ((0 : Int) ≤ (↑x : Int) ∧ (↑x : Int) < (↑nk : Int)) ∧ takeE 2 (List.drop (x * 2) (elF Ak Bk nk)) = some [i6 ai, i6 bi] ∧ (True ∧ True) ∧ FnOk Try.prog g0 31 [i6 kd] (el z (0 : Int)) ∧ True ∧ (ai == z && (bi == (0 : Int) && true)) = false ∧ (True ∧ (True ∧ True ∧ True) ∧ (True ∧ True ∧ True) ∧ True) ∧ FnOk Try.prog g0 35 [i6 kd, V.agg [i6 (PA i), i6 (PB i)], V.agg [i6 ai, i6 bi]] (el (PA (i + 1)) (PB (i + 1))) ∧ True ∧ wr IntKind.i64 ((↑i : Int) + (1 : Int)) = (↑(i + 1) : Int) ∧ (kd = kd ∧ (m = m ∧ cT = cT) ∧ 0 = 0 ∧ 0 = 0 ∧ (q = q ∧ ints lv = ints lv) ∧ (P = P ∧ al = al) ∧ (↑j : Int) = (↑j : Int) ∧ 0 = 0 ∧ false = false ∧ (↑(i + 1) : Int) = (↑(i + 1) : Int) ∧ True) ∧ ([V.nils, V.nils, V.nils] = [V.nils, V.nils, V.nils] ∧ TT 3) ∧ ((n = n ∧ ints kl = ints kl) ∧ (n = n ∧ ints cl = ints cl) ∧ (0 = 0 ∧ sz = sz ∧ sz - sz = sz - sz) ∧ True) ∧ (W = W ∧ HfL W) ∧ ([i6 (PA (i + 1)), i6 (PB (i + 1))] = [i6 (PA (i + 1)), i6 (PB (i + 1))] ∧ True ∧ True ∧ True) ∧ True) = _) ?_
        (repeat' (first | (with_reducible apply And.intro) | (refine fun (_ : True) => ?_))) <;> first | exact aq | skip
        all_goals first | exact hv | (rw [hd]; rfl) | exact hel | rfl | (simpa using hs) | skip
  · have e : i = m := by omega
    subst e
    rw [← hze]
    refine .inr ⟨.exit 8, [0, 1, 2, 3], k8X kd cT i n kl cl q lv sz W P al j ze (PA i) (PB i), [no 153], 1000, .inl ⟨trivial, rfl, rfl⟩, ?_⟩
    clear hO ht hze
    refine Eq.mp (by kernel_rfl : (decide ((↑i : Int) < (↑i : Int)) = false ∧ (kd = kd ∧ (i = i ∧ cT = cT) ∧ 0 = 0 ∧ 0 = 0 ∧ (q = q ∧ ints lv = ints lv) ∧ (P = P ∧ al = al) ∧ (↑j : Int) = (↑j : Int) ∧ 0 = 0 ∧ ze = ze ∧ True) ∧ ([V.nils, V.nils, V.nils] = [V.nils, V.nils, V.nils] ∧ TT 3) ∧ ((n = n ∧ ints kl = ints kl) ∧ (n = n ∧ ints cl = ints cl) ∧ (0 = 0 ∧ sz = sz ∧ sz - sz = sz - sz) ∧ True) ∧ (W = W ∧ HfL W) ∧ ([i6 (PA i), i6 (PB i)] = [i6 (PA i), i6 (PB i)] ∧ True ∧ True ∧ True) ∧ True) = _) ?_
    (repeat' (first | (with_reducible apply And.intro) | (refine fun (_ : True) => ?_))) <;> first | exact aq | skip
    all_goals first | rfl | skip
section
variable (kd : Int) (cT : List V) (m n : Nat) (kl cl : List Int) (q : Nat) (lv : List Int) (sz : Nat) (P : Nat) (al : List V) (WA WB : Nat → Nat → Int)
abbrev k6S (j : Nat) : SL := { sl := [(0, i6 kd), (1, .im m cT), (6, .ptr 0 0), (10, .ptr 1 0), (12, .im q (ints lv)), (16, .im P al), (17, i6 j)], os := rO n kl cl sz (elF (WA j) (WB j) sz), md := [0, 1] }
end
abbrev k6X (n : Nat) (kl cl : List Int) (sz : Nat) (W : List V) : SL := { sl := [(6, .ptr 0 0), (10, .ptr 1 0)], os := [r3, .row 32 none [.im n (ints kl), .im n (ints cl), .im sz W]], md := [0, 1] }
structure RrOk (kd z o u : Int) (cT : List V) (m n : Nat) (kl cl : List Int) (q : Nat) (lv ls : List Int) (sz P : Nat) (ix : Nat → Nat → Nat) (a b PA PB : Nat → Nat → Int) (at_ : Nat → Nat) (WA WB : Nat → Nat → Int) (wp wq : Nat → Int) : Prop where
  zk : FnOk Pg g0 31 [i6 kd] (el z 0)
  ok : FnOk Pg g0 32 [i6 kd] (el o u)
  one : ∀ j, j < P → PA j 0 = o ∧ PB j 0 = u
  tab : ∀ j, j < P → ∀ i, i < m → OneOk kd cT q lv (cmb ls j) i (ix j i) (a j i) (b j i)
  tim : ∀ j, j < P → ∀ i, i < m → FnOk Pg g0 35 [i6 kd, el (PA j i) (PB j i), el (a j i) (b j i)] (el (PA j (i + 1)) (PB j (i + 1)))
  zer : ∀ j, j < P → zeE z (a j) (b j) m = true → PA j m = z ∧ PB j m = 0
  at' : ∀ j, j < P → FnOk Pg g0 48 [.im n (ints kl), .im n (ints cl), .im q (ints lv), .im q (ints (cmb ls j))] (i6 (at_ j : Int)) ∧ at_ j < sz
  plus : ∀ j, j < P → FnOk Pg g0 34 [i6 kd, el (WA j (at_ j)) (WB j (at_ j)), el (PA j m) (PB j m)] (el (wp j) (wq j))
  next : ∀ j, j < P → WA (j + 1) = up64 (WA j) (at_ j) (wp j) ∧ WB (j + 1) = up64 (WB j) (at_ j) (wq j)
theorem rc_sums (kd z o u : Int) (cT : List V) (hL : HfL cT) (m : Nat) (hm : m ≤ 1000) (n : Nat) (kl cl : List Int) (q : Nat) (lv ls : List Int) (sz P : Nat) (hz : sz ≤ 4096) (hP : P ≤ 4096) (ix : Nat → Nat → Nat) (a b PA PB : Nat → Nat → Int) (at_ : Nat → Nat) (WA WB : Nat → Nat → Int) (wp wq : Nat → Int)
    (hR : RrOk kd z o u cT m n kl cl q lv ls sz P ix a b PA PB at_ WA WB wp wq) :
    Sat Pg none 0 (at' 17 [1, 1, 1, 1, 1, 1, 1, 1, 1, 1, 1, 0, 1, 0]) (mkSt g0 231 (k6S kd cT m n kl cl q lv sz P (blF (allF ls q) P) WA WB 0)) (outsP g0 231 [(True, .exit 6, k6X n kl cl sz (elF (WA P) (WB P) sz))]) := by
  refine loopC vE_ok mixed sp0_ok (b := at' 17 [1, 1, 1, 1, 1, 1, 1, 1, 1, 1, 1, 0, 1, 0, 0]) (by kernel_rfl) (fun j => j ≤ P) (k6S kd cT m n kl cl q lv sz P (blF (allF ls q) P) WA WB) (fun j => P - j) (fun j hj => ?_) 0 (Nat.zero_le _)
  have hlv := HfL_ints lv
  have hkl := HfL_ints kl
  have hcl := HfL_ints cl
  have hal := HfL_blF (HfL_allF ls q) P
  have hW := HfL_elF (WA j) (WB j) sz
  have hW1 := HfL_elF (WA (j + 1)) (WB (j + 1)) sz
  by_cases hlt : j < P
  · have hv : headF ((blF (allF ls q) P).drop (j * 1)) = some (.im q (ints (cmb ls j))) := by rw [drop_blF (allF_len ls q) hlt]; rfl
    have hvl := HfL_ints (cmb ls j)
    have l8 := rc_prod kd z cT hL m hm n kl cl q lv (cmb ls j) sz (elF (WA j) (WB j) sz) hW P (blF (allF ls q) P) hal j hlt hP (PA j) (PB j) (a j) (b j) (ix j) hR.zk hv (hR.tab j hlt) (hR.tim j hlt)
    obtain ⟨o1, o2⟩ := hR.one j hlt
    obtain ⟨t1, t2⟩ := hR.at' j hlt
    obtain ⟨n1, n2⟩ := hR.next j hlt
    have hpl := hR.plus j hlt
    have hel := @head_elF (WA j) (WB j) sz (at_ j) t2
    have hel' : takeE 2 (dropF (0 + at_ j * 2) (elF (WA j) (WB j) sz)) = some [i6 (WA j (at_ j)), i6 (WB j (at_ j))] := by rw [Nat.zero_add, dropF_eq]; exact hel
    have hly := @lay_elF (WA j) (WB j) sz (at_ j) (wp j) (wq j) t2
    rw [← n1, ← n2] at hly
    have hzk := hR.zk
    have hok := hR.ok
    have hzz := hR.zer j hlt
    clear hR hel n1 n2
    generalize blF (allF ls q) P = al at *
    generalize cmb ls j = vals at *
    generalize hzb : zeE z (a j) (b j) m = zb at *
    rw [← o1, ← o2] at hok
    clear o1 o2
    cases zb with
    | true =>
      obtain ⟨y1, y2⟩ := hzz rfl
      rw [y1, y2] at l8 hpl
      refine .inl ⟨j + 1, [0, 1, 2], [yes 145, fn 149 (el (PA j 0) (PB j 0)), (0, .loop [0, 1, 2, 3] (k8S kd cT m n kl cl q lv sz (elF (WA j) (WB j) sz) P al j (PA j) (PB j) (0, false)) [(True, .exit 8, k8X kd cT m n kl cl q lv sz (elF (WA j) (WB j) sz) P al j true z 0)]), fn 192 (el z 0), pl 200, ld 201 (.im q (ints vals)), fn 202 (i6 (at_ j : Int)), pl 210, ld 211 (el (WA j (at_ j)) (WB j (at_ j))), fn 213 (el (wp j) (wq j)), pl 214, st (elF (WA (j + 1)) (WB (j + 1)) sz), nu 147 (j + 1 : Nat)], 1000, by omega, by omega, ?_⟩
      refine Eq.mp (by kernel_rfl : (decide ((↑j : Int) < (↑P : Int)) = true ∧ (True ∧ True) ∧ FnOk Try.prog g0 32 [i6 kd] (el (PA j 0) (PB j 0)) ∧ True ∧ ((kd = kd ∧ (m = m ∧ cT = cT) ∧ 0 = 0 ∧ 0 = 0 ∧ (q = q ∧ ints lv = ints lv) ∧ (P = P ∧ al = al) ∧ (↑j : Int) = (↑j : Int) ∧ 0 = 0 ∧ false = false ∧ (↑(0 : Nat) : Int) = (0 : Int) ∧ True) ∧ ([V.nils, V.nils, V.nils] = [V.nils, V.nils, V.nils] ∧ TT 3) ∧ ((n = n ∧ ints kl = ints kl) ∧ (n = n ∧ ints cl = ints cl) ∧ (0 = 0 ∧ sz = sz ∧ sz - sz = sz - sz) ∧ True) ∧ (elF (WA j) (WB j) sz = elF (WA j) (WB j) sz ∧ HfL (elF (WA j) (WB j) sz)) ∧ ([i6 (PA j 0), i6 (PB j 0)] = [i6 (PA j 0), i6 (PB j 0)] ∧ True ∧ True ∧ True) ∧ True) ∧ Sat Try.prog none 0 (at' 17 [1, 1, 1, 1, 1, 1, 1, 1, 1, 1, 1, 0, 1, 0, 0, 1, 0, 0, 1, 1, 0, 1, 0]) (mkSt g0 231 (k8S kd cT m n kl cl q lv sz (elF (WA j) (WB j) sz) P al j (PA j) (PB j) (0, false))) (outsP g0 231 [(True, Ex.exit 8, k8X kd cT m n kl cl q lv sz (elF (WA j) (WB j) sz) P al j true z (0 : Int))]) ∧ (True → (True ∧ True) ∧ FnOk Try.prog g0 31 [i6 kd] (el z (0 : Int)) ∧ True ∧ ((0 : Int) ≤ (↑j : Int) ∧ (↑j : Int) < (↑P : Int)) ∧ headF (List.drop (j * 1) al) = some (V.im q (ints vals)) ∧ (TT 4) ∧ FnOk Try.prog g0 48 [V.im n (ints kl), V.im n (ints cl), V.im q (ints lv), V.im q (ints vals)] (i6 (↑(at_ j) : Int)) ∧ True ∧ ((0 : Int) ≤ (↑(at_ j) : Int) ∧ (↑(at_ j) : Int) < (↑sz : Int)) ∧ takeE 2 (dropF (0 + at_ j * 2) (elF (WA j) (WB j) sz)) = some [i6 (WA j (at_ j)), i6 (WB j (at_ j))] ∧ (True ∧ (True ∧ True ∧ True) ∧ (True ∧ True ∧ True) ∧ True) ∧ FnOk Try.prog g0 34 [i6 kd, V.agg [i6 (WA j (at_ j)), i6 (WB j (at_ j))], V.agg [i6 z, i6 0]] (el (wp j) (wq j)) ∧ True ∧ ((0 : Int) ≤ (↑(at_ j) : Int) ∧ (↑(at_ j) : Int) < (↑sz : Int)) ∧ layE (0 + at_ j * 2) (elF (WA j) (WB j) sz) [i6 (wp j), i6 (wq j)] = some (elF (WA (j + 1)) (WB (j + 1)) sz) ∧ wr IntKind.i64 ((↑j : Int) + (1 : Int)) = (↑(j + 1) : Int) ∧ (kd = kd ∧ (m = m ∧ cT = cT) ∧ 0 = 0 ∧ 0 = 0 ∧ (q = q ∧ ints lv = ints lv) ∧ (P = P ∧ al = al) ∧ (↑(j + 1) : Int) = (↑(j + 1) : Int) ∧ True) ∧ ([V.nils, V.nils, V.nils] = [V.nils, V.nils, V.nils] ∧ TT 3) ∧ ((n = n ∧ ints kl = ints kl) ∧ (n = n ∧ ints cl = ints cl) ∧ (0 = 0 ∧ sz = sz ∧ sz - sz = sz - sz) ∧ True) ∧ (elF (WA (j + 1)) (WB (j + 1)) sz = elF (WA (j + 1)) (WB (j + 1)) sz ∧ HfL (elF (WA (j + 1)) (WB (j + 1)) sz)) ∧ True) ∧ True) = _) ?_
      (repeat' (first | (with_reducible apply And.intro) | (refine fun (_ : True) => ?_))) <;> first | exact aq | skip
      all_goals first | exact hv | exact hel' | exact hly | rfl | skip
    | false =>
      refine .inl ⟨j + 1, [0, 1, 2], [yes 145, fn 149 (el (PA j 0) (PB j 0)), (0, .loop [0, 1, 2, 3] (k8S kd cT m n kl cl q lv sz (elF (WA j) (WB j) sz) P al j (PA j) (PB j) (0, false)) [(True, .exit 8, k8X kd cT m n kl cl q lv sz (elF (WA j) (WB j) sz) P al j false (PA j m) (PB j m))]), pl 200, ld 201 (.im q (ints vals)), fn 202 (i6 (at_ j : Int)), pl 210, ld 211 (el (WA j (at_ j)) (WB j (at_ j))), fn 213 (el (wp j) (wq j)), pl 214, st (elF (WA (j + 1)) (WB (j + 1)) sz), nu 147 (j + 1 : Nat)], 1000, by omega, by omega, ?_⟩
      refine Eq.mp (by kernel_rfl : (decide ((↑j : Int) < (↑P : Int)) = true ∧ (True ∧ True) ∧ FnOk Try.prog g0 32 [i6 kd] (el (PA j 0) (PB j 0)) ∧ True ∧ ((kd = kd ∧ (m = m ∧ cT = cT) ∧ 0 = 0 ∧ 0 = 0 ∧ (q = q ∧ ints lv = ints lv) ∧ (P = P ∧ al = al) ∧ (↑j : Int) = (↑j : Int) ∧ 0 = 0 ∧ false = false ∧ (↑(0 : Nat) : Int) = (0 : Int) ∧ True) ∧ ([V.nils, V.nils, V.nils] = [V.nils, V.nils, V.nils] ∧ TT 3) ∧ ((n = n ∧ ints kl = ints kl) ∧ (n = n ∧ ints cl = ints cl) ∧ (0 = 0 ∧ sz = sz ∧ sz - sz = sz - sz) ∧ True) ∧ (elF (WA j) (WB j) sz = elF (WA j) (WB j) sz ∧ HfL (elF (WA j) (WB j) sz)) ∧ ([i6 (PA j 0), i6 (PB j 0)] = [i6 (PA j 0), i6 (PB j 0)] ∧ True ∧ True ∧ True) ∧ True) ∧ Sat Try.prog none 0 (at' 17 [1, 1, 1, 1, 1, 1, 1, 1, 1, 1, 1, 0, 1, 0, 0, 1, 0, 0, 1, 1, 0, 1, 0]) (mkSt g0 231 (k8S kd cT m n kl cl q lv sz (elF (WA j) (WB j) sz) P al j (PA j) (PB j) (0, false))) (outsP g0 231 [(True, Ex.exit 8, k8X kd cT m n kl cl q lv sz (elF (WA j) (WB j) sz) P al j false (PA j m) (PB j m))]) ∧ (True → ((0 : Int) ≤ (↑j : Int) ∧ (↑j : Int) < (↑P : Int)) ∧ headF (List.drop (j * 1) al) = some (V.im q (ints vals)) ∧ (TT 4) ∧ FnOk Try.prog g0 48 [V.im n (ints kl), V.im n (ints cl), V.im q (ints lv), V.im q (ints vals)] (i6 (↑(at_ j) : Int)) ∧ True ∧ ((0 : Int) ≤ (↑(at_ j) : Int) ∧ (↑(at_ j) : Int) < (↑sz : Int)) ∧ takeE 2 (dropF (0 + at_ j * 2) (elF (WA j) (WB j) sz)) = some [i6 (WA j (at_ j)), i6 (WB j (at_ j))] ∧ (True ∧ (True ∧ True ∧ True) ∧ (True ∧ True ∧ True) ∧ True) ∧ FnOk Try.prog g0 34 [i6 kd, V.agg [i6 (WA j (at_ j)), i6 (WB j (at_ j))], V.agg [i6 (PA j m), i6 (PB j m)]] (el (wp j) (wq j)) ∧ True ∧ ((0 : Int) ≤ (↑(at_ j) : Int) ∧ (↑(at_ j) : Int) < (↑sz : Int)) ∧ layE (0 + at_ j * 2) (elF (WA j) (WB j) sz) [i6 (wp j), i6 (wq j)] = some (elF (WA (j + 1)) (WB (j + 1)) sz) ∧ wr IntKind.i64 ((↑j : Int) + (1 : Int)) = (↑(j + 1) : Int) ∧ (kd = kd ∧ (m = m ∧ cT = cT) ∧ 0 = 0 ∧ 0 = 0 ∧ (q = q ∧ ints lv = ints lv) ∧ (P = P ∧ al = al) ∧ (↑(j + 1) : Int) = (↑(j + 1) : Int) ∧ True) ∧ ([V.nils, V.nils, V.nils] = [V.nils, V.nils, V.nils] ∧ TT 3) ∧ ((n = n ∧ ints kl = ints kl) ∧ (n = n ∧ ints cl = ints cl) ∧ (0 = 0 ∧ sz = sz ∧ sz - sz = sz - sz) ∧ True) ∧ (elF (WA (j + 1)) (WB (j + 1)) sz = elF (WA (j + 1)) (WB (j + 1)) sz ∧ HfL (elF (WA (j + 1)) (WB (j + 1)) sz)) ∧ True) ∧ True) = _) ?_
      (repeat' (first | (with_reducible apply And.intro) | (refine fun (_ : True) => ?_))) <;> first | exact aq | skip
      all_goals first | exact hv | exact hel' | exact hly | rfl | skip
  · have : j = P := by omega
    subst this
    refine .inr ⟨.exit 6, [0, 1], k6X n kl cl sz (elF (WA j) (WB j) sz), [no 145], 1000, .inl ⟨trivial, rfl, rfl⟩, ?_⟩
    clear hR
    generalize blF (allF ls q) j = al at *
    refine Eq.mp (by kernel_rfl : (decide ((↑j : Int) < (↑j : Int)) = false ∧ (0 = 0 ∧ 0 = 0 ∧ True) ∧ ([V.nils, V.nils, V.nils] = [V.nils, V.nils, V.nils] ∧ TT 3) ∧ ((n = n ∧ ints kl = ints kl) ∧ (n = n ∧ ints cl = ints cl) ∧ (sz = sz ∧ elF (WA j) (WB j) sz = elF (WA j) (WB j) sz ∧ HfL (elF (WA j) (WB j) sz)) ∧ True) ∧ True) = _) ?_
    (repeat' (first | (with_reducible apply And.intro) | (refine fun (_ : True) => ?_))) <;> first | exact aq | skip
    all_goals first | rfl | skip
abbrev k9S (n : Nat) (kl cl : List Int) (sz : Nat) (W : List V) (k : Nat) : SL := { sl := [(6, .ptr 0 0), (10, .ptr 1 0), (23, i6 k)], os := [r3, .row 32 none [.im n (ints kl), .im n (ints cl), .im sz W]] }
theorem rc_fits (n : Nat) (kl cl : List Int) (sz : Nat) (hz : sz ≤ 4096) (A B : Nat → Int) :
    Sat Pg none 0 (at' 17 [1, 1, 1, 1, 1, 1, 1, 1, 1, 1, 1, 1, 0, 1, 0]) (mkSt g0 231 (k9S n kl cl sz (elF A B sz) 0)) (outsP g0 231 [(fitA A B sz = true, .exit 10, k6X n kl cl sz (elF A B sz)), (fitA A B sz = false, .ret, cBad 6)]) := by
  refine loopC vE_ok mixed sp0_ok (b := at' 17 [1, 1, 1, 1, 1, 1, 1, 1, 1, 1, 1, 1, 0, 1, 0, 0]) (by kernel_rfl) (fun k => k ≤ sz ∧ fitA A B k = true) (k9S n kl cl sz (elF A B sz)) (fun k => sz - k) (fun k hk => ?_) 0 ⟨Nat.zero_le _, rfl⟩
  obtain ⟨hk, hg⟩ := hk
  have hkl := HfL_ints kl
  have hcl := HfL_ints cl
  have hE := HfL_elF A B sz
  by_cases hlt : k < sz
  · have hel := @head_elF A B sz k hlt
    have hf := fits_fn (A k) (B k)
    have e1 : fitA A B (k + 1) = fitB (A k) (B k) := by show (_ && _) = _; rw [hg, Bool.true_and]
    have hstop := fun h => fitA_stop (A := A) (B := B) (k := k + 1) h (sz - (k + 1))
    rw [show k + 1 + (sz - (k + 1)) = sz by omega] at hstop
    change FnOk Pg g0 49 [el (A k) (B k)] (.bool (fitB (A k) (B k))) at hf
    rw [← e1] at hf
    cases hb : fitA A B (k + 1) with
    | true =>
      rw [hb] at hf
      refine .inl ⟨k + 1, [0, 1], [yes 219, pl 225, ld 226 (el (A k) (B k)), fn 227 (.bool true), nu 221 (k + 1 : Nat)], 1000, ⟨by omega, hb⟩, by omega, ?_⟩
      clear hstop e1 hb
      refine Eq.mp (by kernel_rfl : (decide ((↑k : Int) < (↑sz : Int)) = true ∧ ((0 : Int) ≤ (↑k : Int) ∧ (↑k : Int) < (↑sz : Int)) ∧ takeE 2 (List.drop (k * 2) (elF A B sz)) = some [i6 (A k), i6 (B k)] ∧ ((True ∧ True ∧ True) ∧ True) ∧ FnOk Try.prog g0 49 [V.agg [i6 (A k), i6 (B k)]] (V.bool true) ∧ True ∧ wr IntKind.i64 ((↑k : Int) + (1 : Int)) = (↑(k + 1) : Int) ∧ (0 = 0 ∧ 0 = 0 ∧ (↑(k + 1) : Int) = (↑(k + 1) : Int) ∧ True) ∧ ([V.nils, V.nils, V.nils] = [V.nils, V.nils, V.nils] ∧ TT 3) ∧ ([V.im n (ints kl), V.im n (ints cl), V.im sz (elF A B sz)] = [V.im n (ints kl), V.im n (ints cl), V.im sz (elF A B sz)] ∧ TT 3) ∧ True) = _) ?_
      (repeat' (first | (with_reducible apply And.intro) | (refine fun (_ : True) => ?_))) <;> first | exact aq | skip
      all_goals first | rfl | skip
    | false =>
      rw [hb] at hf
      have hff := hstop hb
      refine .inr ⟨.ret, [0], cBad 6, [yes 219, pl 225, ld 226 (el (A k) (B k)), fn 227 (.bool false)], 1000, .inr (.inl ⟨hff, rfl, rfl⟩), ?_⟩
      clear hstop e1 hb
      refine Eq.mp (by kernel_rfl : (decide ((↑k : Int) < (↑sz : Int)) = true ∧ ((0 : Int) ≤ (↑k : Int) ∧ (↑k : Int) < (↑sz : Int)) ∧ takeE 2 (List.drop (k * 2) (elF A B sz)) = some [i6 (A k), i6 (B k)] ∧ ((True ∧ True ∧ True) ∧ True) ∧ FnOk Try.prog g0 49 [V.agg [i6 (A k), i6 (B k)]] (V.bool false) ∧ True ∧ (0 = 0 ∧ (6 : Int) = (6 : Int) ∧ True) ∧ ([V.nils, V.nils, V.nils] = [V.nils, V.nils, V.nils] ∧ TT 3) ∧ True) = _) ?_
      (repeat' (first | (with_reducible apply And.intro) | (refine fun (_ : True) => ?_))) <;> first | exact aq | skip
      all_goals first | rfl | skip
  · have : k = sz := by omega
    subst this
    refine .inr ⟨.exit 10, [0, 1], k6X n kl cl k (elF A B k), [no 219], 1000, .inl ⟨hg, rfl, rfl⟩, ?_⟩
    refine Eq.mp (by kernel_rfl : (decide ((↑k : Int) < (↑k : Int)) = false ∧ (0 = 0 ∧ 0 = 0 ∧ True) ∧ ([V.nils, V.nils, V.nils] = [V.nils, V.nils, V.nils] ∧ TT 3) ∧ ((n = n ∧ ints kl = ints kl) ∧ (n = n ∧ ints cl = ints cl) ∧ (k = k ∧ elF A B k = elF A B k) ∧ True) ∧ True) = _) ?_
    (repeat' (first | (with_reducible apply And.intro) | (refine fun (_ : True) => ?_))) <;> first | exact aq | skip
    all_goals first | rfl | skip
end Go.Proofs.Ytgdnmgcigkhojaa.Am

namespace Go.Proofs.Ytgdnmgcigkhojaa.Am
open Go.RowKit
set_option linter.unusedVariables false
set_option maxHeartbeats 1000000
set_option maxRecDepth 100000
section
variable (kd : Int) (cT : List V) (m : Nat) (keep : List Int) (n : Nat) (F : Nat → Int) (g : Bool)
abbrev i0 (w : Bool) (kl cl : List Int) : Hs := [fn 26 (.tup [.im 64 (a64 F), .bool g]), (0, .loop [0, 1] (k0S kd cT m keep n F g (0, [], [])) [(w = true, .exit 0, k0X kd cT m n F g kl cl), (w = false, .ret, cBad 2)])]
end
theorem rcom_arg1 (kd : Int) (cT : List V) (hL : HfL cT) (m : Nat) (keep : List Int) (n : Nat) (hn : n = keep.length) (hn5 : n ≤ 1000) (F : Nat → Int) (g : Bool) (hcd : FnOk Pg g0 13 [.im m cT] (.tup [.im 64 (a64 F), .bool g])) (hw : withT F keep n = false) :
    FnOk Pg g0 17 [i6 kd, .im m cT, .im n (ints keep)] (.tup [t0V, i6 2]) := by
  have l0 := rc_keep kd cT hL m keep n hn hn5 F g
  have hF := HfL_a64 F
  rw [hw] at l0
  generalize tkF keep n = kl at *
  generalize clF F keep n = cl at *
  cases g
  · refine FnOk.of_vc vE_ok mixed sp0_ok (n := 1000) (r := [0]) (S := S0 2) (hs := i0 kd cT m keep n F false false kl cl) ?_
    refine Eq.mp (by kernel_rfl : (V.tup [V.agg [V.im 0 [], V.im 0 [], V.im 0 []], i6 2] = V.tup [t0V, i6 2] ∧ (True ∧ True) ∧ FnOk Try.prog g0 13 [V.im m cT] (V.tup [V.im 64 (a64 F), V.bool false]) ∧ True ∧ ((kd = kd ∧ (m = m ∧ cT = cT) ∧ (n = n ∧ ints keep = ints keep) ∧ 0 = 0 ∧ (64 = 64 ∧ a64 F = a64 F) ∧ false = false ∧ 0 = 0 ∧ (↑(0 : Nat) : Int) = (0 : Int) ∧ True) ∧ ([V.nils, V.nils, V.nils] = [V.nils, V.nils, V.nils] ∧ TT 3) ∧ (TT 3) ∧ True) ∧ Sat Try.prog none 0 (at' 17 [1, 1, 1, 0, 1, 0]) (mkSt g0 231 (k0S kd cT m keep n F false (0, [], []))) (outsP g0 231 [(false = true, Ex.exit 0, k0X kd cT m n F false kl cl), (false = false, Ex.ret, cBad (2 : Int))]) ∧ (false = true → (0 = 0 ∧ (2 : Int) = (2 : Int) ∧ True) ∧ (0 = 0 ∧ 0 = 0 ∧ 0 = 0 ∧ True) ∧ True) ∧ (false = false → (0 = 0 ∧ (2 : Int) = (2 : Int) ∧ True) ∧ (0 = 0 ∧ 0 = 0 ∧ 0 = 0 ∧ True) ∧ True) ∧ True) = _) ?_
    (repeat' (first | (with_reducible apply And.intro) | (refine fun (_ : True) => ?_))) <;> first | exact aq | skip
    all_goals first | rfl | (intro h9; exact absurd h9 (by decide)) | (intro h9; (repeat' (first | (with_reducible apply And.intro) | (refine fun (_ : True) => ?_))); all_goals first | exact aq | rfl | skip) | skip
  · refine FnOk.of_vc vE_ok mixed sp0_ok (n := 1000) (r := [0]) (S := S0 2) (hs := i0 kd cT m keep n F true false kl cl) ?_
    refine Eq.mp (by kernel_rfl : (V.tup [V.agg [V.im 0 [], V.im 0 [], V.im 0 []], i6 2] = V.tup [t0V, i6 2] ∧ (True ∧ True) ∧ FnOk Try.prog g0 13 [V.im m cT] (V.tup [V.im 64 (a64 F), V.bool true]) ∧ True ∧ ((kd = kd ∧ (m = m ∧ cT = cT) ∧ (n = n ∧ ints keep = ints keep) ∧ 0 = 0 ∧ (64 = 64 ∧ a64 F = a64 F) ∧ true = true ∧ 0 = 0 ∧ (↑(0 : Nat) : Int) = (0 : Int) ∧ True) ∧ ([V.nils, V.nils, V.nils] = [V.nils, V.nils, V.nils] ∧ TT 3) ∧ (TT 3) ∧ True) ∧ Sat Try.prog none 0 (at' 17 [1, 1, 1, 0, 1, 0]) (mkSt g0 231 (k0S kd cT m keep n F true (0, [], []))) (outsP g0 231 [(false = true, Ex.exit 0, k0X kd cT m n F true kl cl), (false = false, Ex.ret, cBad (2 : Int))]) ∧ (false = true → False) ∧ (false = false → (0 = 0 ∧ (2 : Int) = (2 : Int) ∧ True) ∧ (0 = 0 ∧ 0 = 0 ∧ 0 = 0 ∧ True) ∧ True) ∧ True) = _) ?_
    (repeat' (first | (with_reducible apply And.intro) | (refine fun (_ : True) => ?_))) <;> first | exact aq | skip
    all_goals first | rfl | (intro h9; exact absurd h9 (by decide)) | (intro h9; (repeat' (first | (with_reducible apply And.intro) | (refine fun (_ : True) => ?_))); all_goals first | exact aq | rfl | skip) | skip
theorem rcom_arg2 (kd : Int) (cT : List V) (hL : HfL cT) (m : Nat) (keep : List Int) (n : Nat) (hn : n = keep.length) (hn5 : n ≤ 1000) (F : Nat → Int) (hcd : FnOk Pg g0 13 [.im m cT] (.tup [.im 64 (a64 F), .bool false])) (hw : withT F keep n = true) :
    FnOk Pg g0 17 [i6 kd, .im m cT, .im n (ints keep)] (.tup [t0V, i6 2]) := by
  have l0 := rc_keep kd cT hL m keep n hn hn5 F false
  have hF := HfL_a64 F
  rw [hw] at l0
  generalize tkF keep n = kl at *
  generalize clF F keep n = cl at *
  refine FnOk.of_vc vE_ok mixed sp0_ok (n := 1000) (r := [0]) (S := S0 2) (hs := i0 kd cT m keep n F false true kl cl) ?_
  refine Eq.mp (by kernel_rfl : (V.tup [V.agg [V.im 0 [], V.im 0 [], V.im 0 []], i6 2] = V.tup [t0V, i6 2] ∧ (True ∧ True) ∧ FnOk Try.prog g0 13 [V.im m cT] (V.tup [V.im 64 (a64 F), V.bool false]) ∧ True ∧ ((kd = kd ∧ (m = m ∧ cT = cT) ∧ (n = n ∧ ints keep = ints keep) ∧ 0 = 0 ∧ (64 = 64 ∧ a64 F = a64 F) ∧ false = false ∧ 0 = 0 ∧ (↑(0 : Nat) : Int) = (0 : Int) ∧ True) ∧ ([V.nils, V.nils, V.nils] = [V.nils, V.nils, V.nils] ∧ TT 3) ∧ (TT 3) ∧ True) ∧ Sat Try.prog none 0 (at' 17 [1, 1, 1, 0, 1, 0]) (mkSt g0 231 (k0S kd cT m keep n F false (0, [], []))) (outsP g0 231 [(true = true, Ex.exit 0, k0X kd cT m n F false kl cl), (true = false, Ex.ret, cBad (2 : Int))]) ∧ (true = true → (0 = 0 ∧ (2 : Int) = (2 : Int) ∧ True) ∧ (0 = 0 ∧ 0 = 0 ∧ 0 = 0 ∧ True) ∧ True) ∧ (true = false → (0 = 0 ∧ (2 : Int) = (2 : Int) ∧ True) ∧ (0 = 0 ∧ 0 = 0 ∧ 0 = 0 ∧ True) ∧ True) ∧ True) = _) ?_
  (repeat' (first | (with_reducible apply And.intro) | (refine fun (_ : True) => ?_))) <;> first | exact aq | skip
  all_goals first | rfl | (intro h9; exact absurd h9 (by decide)) | (intro h9; (repeat' (first | (with_reducible apply And.intro) | (refine fun (_ : True) => ?_))); all_goals first | exact aq | rfl | skip) | skip
section
variable (kd : Int) (cT : List V) (m : Nat) (n : Nat) (F : Nat → Int) (kl cl : List Int) (q : Nat) (lv ls : List Int)
abbrev i2 (ok : Bool) : Hs := [(0, .loop [0, 1] (k2S kd cT m F n kl cl (0, 0, [], [])) [(True, .exit 2, k2X kd cT m n kl cl q lv ls)]), fn 119 (.bool ok)]
end
theorem rcom_long (kd : Int) (cT : List V) (hL : HfL cT) (m : Nat) (keep : List Int) (n : Nat) (hn : n = keep.length) (hn5 : n ≤ 1000) (F : Nat → Int) (hcd : FnOk Pg g0 13 [.im m cT] (.tup [.im 64 (a64 F), .bool true])) (hw : withT F keep n = true) (hC : okC (sF F 64) = false) :
    FnOk Pg g0 17 [i6 kd, .im m cT, .im n (ints keep)] (.tup [t0V, i6 3]) := by
  have l0 := rc_keep kd cT hL m keep n hn hn5 F true
  have hF := HfL_a64 F
  rw [hw] at l0
  generalize tkF keep n = kl at *
  generalize clF F keep n = cl at *
  have l2 := rc_vars kd cT hL m F n kl cl
  have hr : FnOk Pg g0 46 [.im (qF F 64) (ints (sF F 64))] (.bool false) := by
    have := right2_fn (sF F 64)
    rw [hC] at this
    rw [← sF_len F 64]; exact this
  have hls := HfL_ints (sF F 64)
  have hlv := HfL_ints (vF F 64)
  generalize qF F 64 = q at *
  generalize sF F 64 = ls at *
  generalize vF F 64 = lv at *
  refine FnOk.of_vc vE_ok mixed sp0_ok (n := 1000) (r := [0]) (S := S0 3) (hs := i0 kd cT m keep n F true true kl cl ++ i2 kd cT m n F kl cl q lv ls false) ?_
  refine Eq.mp (by kernel_rfl : (V.tup [V.agg [V.im 0 [], V.im 0 [], V.im 0 []], i6 3] = V.tup [t0V, i6 3] ∧ (True ∧ True) ∧ FnOk Try.prog g0 13 [V.im m cT] (V.tup [V.im 64 (a64 F), V.bool true]) ∧ True ∧ ((kd = kd ∧ (m = m ∧ cT = cT) ∧ (n = n ∧ ints keep = ints keep) ∧ 0 = 0 ∧ (64 = 64 ∧ a64 F = a64 F) ∧ true = true ∧ 0 = 0 ∧ (↑(0 : Nat) : Int) = (0 : Int) ∧ True) ∧ ([V.nils, V.nils, V.nils] = [V.nils, V.nils, V.nils] ∧ TT 3) ∧ (TT 3) ∧ True) ∧ Sat Try.prog none 0 (at' 17 [1, 1, 1, 0, 1, 0]) (mkSt g0 231 (k0S kd cT m keep n F true (0, [], []))) (outsP g0 231 [(true = true, Ex.exit 0, k0X kd cT m n F true kl cl), (true = false, Ex.ret, cBad (2 : Int))]) ∧ (true = true → ((kd = kd ∧ (m = m ∧ cT = cT) ∧ 0 = 0 ∧ (64 = 64 ∧ a64 F = a64 F) ∧ 0 = 0 ∧ True ∧ True ∧ (↑(0 : Nat) : Int) = (0 : Int) ∧ True) ∧ ([V.nils, V.nils, V.nils] = [V.nils, V.nils, V.nils] ∧ TT 3) ∧ ([V.im n (ints kl), V.im n (ints cl), V.nils] = [V.im n (ints kl), V.im n (ints cl), V.nils] ∧ TT 3) ∧ True) ∧ Sat Try.prog none 0 (at' 17 [1, 1, 1, 1, 1, 1, 0, 1, 0]) (mkSt g0 231 (k2S kd cT m F n kl cl (0, 0, [], []))) (outsP g0 231 [(True, Ex.exit 2, k2X kd cT m n kl cl q lv ls)]) ∧ (True → (True ∧ True) ∧ FnOk Try.prog g0 46 [V.im q (ints ls)] (V.bool false) ∧ True ∧ (0 = 0 ∧ (3 : Int) = (3 : Int) ∧ True) ∧ (0 = 0 ∧ 0 = 0 ∧ 0 = 0 ∧ True) ∧ True) ∧ True) ∧ (true = false → (0 = 0 ∧ (3 : Int) = (2 : Int) ∧ True) ∧ (0 = 0 ∧ 0 = 0 ∧ 0 = 0 ∧ True) ∧ True) ∧ True) = _) ?_
  (repeat' (first | (with_reducible apply And.intro) | (refine fun (_ : True) => ?_))) <;> first | exact aq | skip
  all_goals first | rfl | (intro h9; exact absurd h9 (by decide)) | (intro h9; (repeat' (first | (with_reducible apply And.intro) | (refine fun (_ : True) => ?_))); all_goals first | exact aq | rfl | skip) | skip
section
variable (kd : Int) (cT : List V) (m : Nat) (n : Nat) (kl cl : List Int) (q : Nat) (lv ls : List Int) (z : Int) (sz P : Nat) (al : List V) (WA WB : Nat → Nat → Int)
abbrev i4 (b : Bool) : Hs := [fn 124 (i6 sz), mk 125, (0, .loop [0, 1, 2] (k4S kd cT m n kl cl q lv ls sz z 0) [(True, .exit 4, k4X kd cT m n kl cl q lv ls sz (elF (fun _ => z) (fun _ => 0) sz))]), fn 141 (.im P al), (0, .loop [0, 1, 2] (k6S kd cT m n kl cl q lv sz P al WA WB 0) [(True, .exit 6, k6X n kl cl sz (elF (WA P) (WB P) sz))]), (0, .loop [0, 1] (k9S n kl cl sz (elF (WA P) (WB P) sz) 0) [(b = true, .exit 10, k6X n kl cl sz (elF (WA P) (WB P) sz)), (b = false, .ret, cBad 6)])]
end
theorem rcom_ok (kd z o u : Int) (cT : List V) (hL : HfL cT) (m : Nat) (hm : m ≤ 1000) (keep : List Int) (n : Nat) (hn : n = keep.length) (hn5 : n ≤ 1000) (F : Nat → Int) (hcd : FnOk Pg g0 13 [.im m cT] (.tup [.im 64 (a64 F), .bool true])) (hw : withT F keep n = true) (hC : okC (sF F 64) = true)
    (sz P : Nat) (hz : sz ≤ 4096) (hP : (P : Int) = prodT (sF F 64) (qF F 64)) (hP0 : 1 ≤ P) (hP2 : P ≤ 4096) (hsz : (sz : Int) = prodT (clF F keep n) n) (hpre : ∀ k, k ≤ n → 0 ≤ prodT (clF F keep n) k ∧ prodT (clF F keep n) k ≤ 4096) (ix : Nat → Nat → Nat) (a b PA PB : Nat → Nat → Int) (at_ : Nat → Nat) (WA WB : Nat → Nat → Int) (wp wq : Nat → Int) (hW0 : WA 0 = (fun _ => z) ∧ WB 0 = (fun _ => 0))
    (hR : RrOk kd z o u cT m n keep (clF F keep n) (qF F 64) (vF F 64) (sF F 64) sz P ix a b PA PB at_ WA WB wp wq) (hf : fitA (WA P) (WB P) sz = true) : FnOk Pg g0 17 [i6 kd, .im m cT, .im n (ints keep)] (.tup [.agg [.im n (ints keep), .im n (ints (clF F keep n)), .im sz (elF (WA P) (WB P) sz)], i6 0]) := by
  have l0 := rc_keep kd cT hL m keep n hn hn5 F true
  have hF := HfL_a64 F
  rw [hw] at l0
  have ek : tkF keep n = keep := by rw [hn]; exact tkF_all keep
  rw [ek] at l0
  have hls := sF_len F 64
  have hll : (sF F 64).length ≤ 12 ∧ ∀ i, i < qF F 64 → 1 ≤ (sF F 64).getD i 0 ∧ (sF F 64).getD i 0 ≤ 8 := by
    unfold okC at hC
    rw [Bool.and_eq_true, decide_eq_true_eq] at hC
    exact ⟨hC.1, fun i hi => goodT_card hC.2 (by omega)⟩
  have hsf := rsize_fn (clF F keep n) n (clF_len _ _ _).symm hn5 hpre
  rw [← hsz] at hsf
  have hal := all_fn (sF F 64) (qF F 64) hls (by omega) hll.2 P hP hP0 hP2
  have hL2 := HfL_blF (HfL_allF (sF F 64) (qF F 64)) P
  have l6 := rc_sums kd z o u cT hL m hm n keep (clF F keep n) (qF F 64) (vF F 64) (sF F 64) sz P hz hP2 ix a b PA PB at_ WA WB wp wq hR
  have hzk := hR.zk
  clear hR hpre
  generalize clF F keep n = cl at *
  have l2 := rc_vars kd cT hL m F n keep cl
  have hr : FnOk Pg g0 46 [.im (qF F 64) (ints (sF F 64))] (.bool true) := by
    have := right2_fn (sF F 64)
    rw [hC] at this
    rw [← hls]; exact this
  have hH1 := HfL_ints (sF F 64)
  have hH2 := HfL_ints (vF F 64)
  have hH3 := HfL_ints keep
  have hH4 := HfL_ints cl
  have l4 := rc_zeros kd cT hL m n keep cl (qF F 64) (vF F 64) (sF F 64) sz hz z hzk
  have l9 := rc_fits n keep cl sz hz (WA P) (WB P)
  rw [hf] at l9
  have hW := HfL_elF (WA P) (WB P) sz
  have hWz := HfL_elF (fun _ => z) (fun _ => 0) sz
  have hW0' := HfL_elF (zF z 0) (fun _ => 0) sz
  have hz0 := rep_elF sz
  have hz1 : elF (WA 0) (WB 0) sz = elF (fun _ => z) (fun _ => 0) sz := by rw [hW0.1, hW0.2]
  generalize blF (allF (sF F 64) (qF F 64)) P = al at *
  generalize qF F 64 = q at *
  generalize sF F 64 = ls at *
  generalize vF F 64 = lv at *
  have hkl : ∃ kl, kl = keep := ⟨_, rfl⟩
  obtain ⟨kl, hkl⟩ := hkl
  rw [← hkl] at l2 l4 l6 l9
  have l0' : Sat Pg none 0 (at' 17 [1, 1, 1, 0, 1, 0]) (mkSt g0 231 (k0S kd cT m keep n F true (0, [], []))) (outsP g0 231 [(true = true, .exit 0, k0X kd cT m n F true kl cl), (true = false, .ret, cBad 2)]) := by rw [hkl]; exact l0
  clear l0
  rw [← hkl] at hH3
  have hH5 : HfL (ints keep) := by rw [← hkl]; exact hH3
  suffices hh : FnOk Pg g0 17 [i6 kd, .im m cT, .im n (ints keep)] (.tup [.agg [.im n (ints kl), .im n (ints cl), .im sz (elF (WA P) (WB P) sz)], i6 0]) by
    first | exact hh | (rw [hkl] at hh; exact hh)
  clear hkl ek hw hn hC hls hll hP
  refine FnOk.of_vc vE_ok mixed sp0_ok (n := 1000) (r := [0]) (S := { sl := [(6, .ptr 0 0), (7, i6 0)], os := [.row 32 none [.im n (ints kl), .im n (ints cl), .im sz (elF (WA P) (WB P) sz)]] }) (hs := i0 kd cT m keep n F true true kl cl ++ i2 kd cT m n F kl cl q lv ls true ++ i4 kd cT m n kl cl q lv ls z sz P al WA WB true) ?_
  refine Eq.mp (by kernel_rfl : (V.tup [V.agg [V.im n (ints kl), V.im n (ints cl), V.im sz (elF (WA P) (WB P) sz)], i6 0] = V.tup [V.agg [V.im n (ints kl), V.im n (ints cl), V.im sz (elF (WA P) (WB P) sz)], i6 0] ∧ (True ∧ True) ∧ FnOk Try.prog g0 13 [V.im m cT] (V.tup [V.im 64 (a64 F), V.bool true]) ∧ True ∧ ((kd = kd ∧ (m = m ∧ cT = cT) ∧ (n = n ∧ ints keep = ints keep) ∧ 0 = 0 ∧ (64 = 64 ∧ a64 F = a64 F) ∧ true = true ∧ 0 = 0 ∧ (↑(0 : Nat) : Int) = (0 : Int) ∧ True) ∧ ([V.nils, V.nils, V.nils] = [V.nils, V.nils, V.nils] ∧ TT 3) ∧ (TT 3) ∧ True) ∧ Sat Try.prog none 0 (at' 17 [1, 1, 1, 0, 1, 0]) (mkSt g0 231 (k0S kd cT m keep n F true (0, [], []))) (outsP g0 231 [(true = true, Ex.exit 0, k0X kd cT m n F true kl cl), (true = false, Ex.ret, cBad (2 : Int))]) ∧ (true = true → ((kd = kd ∧ (m = m ∧ cT = cT) ∧ 0 = 0 ∧ (64 = 64 ∧ a64 F = a64 F) ∧ 0 = 0 ∧ True ∧ True ∧ (↑(0 : Nat) : Int) = (0 : Int) ∧ True) ∧ ([V.nils, V.nils, V.nils] = [V.nils, V.nils, V.nils] ∧ TT 3) ∧ ([V.im n (ints kl), V.im n (ints cl), V.nils] = [V.im n (ints kl), V.im n (ints cl), V.nils] ∧ TT 3) ∧ True) ∧ Sat Try.prog none 0 (at' 17 [1, 1, 1, 1, 1, 1, 0, 1, 0]) (mkSt g0 231 (k2S kd cT m F n kl cl (0, 0, [], []))) (outsP g0 231 [(True, Ex.exit 2, k2X kd cT m n kl cl q lv ls)]) ∧ (True → (True ∧ True) ∧ FnOk Try.prog g0 46 [V.im q (ints ls)] (V.bool true) ∧ True ∧ (True ∧ True) ∧ FnOk Try.prog g0 36 [V.im n (ints cl)] (i6 (↑sz : Int)) ∧ True ∧ ((0 : Int) ≤ (↑sz : Int) ∧ (↑sz : Int) ≤ (↑sz : Int) ∧ (↑(16 : Nat) : Int) * (↑sz : Int) ≤ (281474976710656 : Int) ∧ (↑sz : Int) ≤ (9223372036854775807 : Int)) ∧ ((kd = kd ∧ (m = m ∧ cT = cT) ∧ 0 = 0 ∧ 0 = 0 ∧ (q = q ∧ ints lv = ints lv) ∧ (q = q ∧ ints ls = ints ls) ∧ (↑(0 : Nat) : Int) = (0 : Int) ∧ True) ∧ ([V.nils, V.nils, V.nils] = [V.nils, V.nils, V.nils] ∧ TT 3) ∧ ((n = n ∧ ints kl = ints kl) ∧ (n = n ∧ ints cl = ints cl) ∧ (0 = 0 ∧ sz = sz ∧ sz - sz = sz - sz) ∧ True) ∧ (elF (zF z 0) (fun x => (0 : Int)) sz = rep sz [i6 0, i6 0] ∧ HfL (elF (zF z 0) (fun x => (0 : Int)) sz)) ∧ True) ∧ Sat Try.prog none 0 (at' 17 [1, 1, 1, 1, 1, 1, 1, 1, 1, 0, 1, 0]) (mkSt g0 231 (k4S kd cT m n kl cl q lv ls sz z 0)) (outsP g0 231 [(True, Ex.exit 4, k4X kd cT m n kl cl q lv ls sz (elF (fun x => z) (fun x => (0 : Int)) sz))]) ∧ (True → (True ∧ True) ∧ FnOk Try.prog g0 47 [V.im q (ints ls)] (V.im P al) ∧ True ∧ ((kd = kd ∧ (m = m ∧ cT = cT) ∧ 0 = 0 ∧ 0 = 0 ∧ (q = q ∧ ints lv = ints lv) ∧ (P = P ∧ al = al) ∧ (↑(0 : Nat) : Int) = (0 : Int) ∧ True) ∧ ([V.nils, V.nils, V.nils] = [V.nils, V.nils, V.nils] ∧ TT 3) ∧ ((n = n ∧ ints kl = ints kl) ∧ (n = n ∧ ints cl = ints cl) ∧ (0 = 0 ∧ sz = sz ∧ sz - sz = sz - sz) ∧ True) ∧ (elF (WA 0) (WB 0) sz = elF (fun x => z) (fun x => (0 : Int)) sz ∧ HfL (elF (WA 0) (WB 0) sz)) ∧ True) ∧ Sat Try.prog none 0 (at' 17 [1, 1, 1, 1, 1, 1, 1, 1, 1, 1, 1, 0, 1, 0]) (mkSt g0 231 (k6S kd cT m n kl cl q lv sz P al WA WB 0)) (outsP g0 231 [(True, Ex.exit 6, k6X n kl cl sz (elF (WA P) (WB P) sz))]) ∧ (True → ((0 = 0 ∧ 0 = 0 ∧ (↑(0 : Nat) : Int) = (0 : Int) ∧ True) ∧ ([V.nils, V.nils, V.nils] = [V.nils, V.nils, V.nils] ∧ TT 3) ∧ ([V.im n (ints kl), V.im n (ints cl), V.im sz (elF (WA P) (WB P) sz)] = [V.im n (ints kl), V.im n (ints cl), V.im sz (elF (WA P) (WB P) sz)] ∧ TT 3) ∧ True) ∧ Sat Try.prog none 0 (at' 17 [1, 1, 1, 1, 1, 1, 1, 1, 1, 1, 1, 1, 0, 1, 0]) (mkSt g0 231 (k9S n kl cl sz (elF (WA P) (WB P) sz) 0)) (outsP g0 231 [(true = true, Ex.exit 10, k6X n kl cl sz (elF (WA P) (WB P) sz)), (true = false, Ex.ret, cBad (6 : Int))]) ∧ (true = true → (0 = 0 ∧ (0 : Int) = (0 : Int) ∧ True) ∧ ([V.im n (ints kl), V.im n (ints cl), V.im sz (elF (WA P) (WB P) sz)] = [V.im n (ints kl), V.im n (ints cl), V.im sz (elF (WA P) (WB P) sz)] ∧ TT 3) ∧ True) ∧ (true = false → (0 = 0 ∧ (0 : Int) = (6 : Int) ∧ True) ∧ ([V.im n (ints kl), V.im n (ints cl), V.im sz (elF (WA P) (WB P) sz)] = [V.nils, V.nils, V.nils] ∧ TT 3) ∧ True) ∧ True) ∧ True) ∧ True) ∧ True) ∧ (true = false → (0 = 0 ∧ (0 : Int) = (2 : Int) ∧ True) ∧ ([V.im n (ints kl), V.im n (ints cl), V.im sz (elF (WA P) (WB P) sz)] = [V.nils, V.nils, V.nils] ∧ TT 3) ∧ True) ∧ True) = _) ?_
  (repeat' (first | (with_reducible apply And.intro) | (refine fun (_ : True) => ?_))) <;> first | exact aq | skip
  all_goals first | rfl | (intro h9; exact absurd h9 (by decide)) | (intro h9; (repeat' (first | (with_reducible apply And.intro) | (refine fun (_ : True) => ?_))); all_goals first | exact aq | exact l4 | exact l6 | exact l9 | exact hz0 | exact hz0.symm | exact hz1 | exact hz1.symm | rfl | (intro h8; exact absurd h8 (by decide)) | (intro h8; (repeat' (first | (with_reducible apply And.intro) | (refine fun (_ : True) => ?_))); all_goals first | exact aq | rfl | skip) | skip) | skip
theorem rcom_big (kd z o u : Int) (cT : List V) (hL : HfL cT) (m : Nat) (hm : m ≤ 1000) (keep : List Int) (n : Nat) (hn : n = keep.length) (hn5 : n ≤ 1000) (F : Nat → Int) (hcd : FnOk Pg g0 13 [.im m cT] (.tup [.im 64 (a64 F), .bool true])) (hw : withT F keep n = true) (hC : okC (sF F 64) = true)
    (sz P : Nat) (hz : sz ≤ 4096) (hP : (P : Int) = prodT (sF F 64) (qF F 64)) (hP0 : 1 ≤ P) (hP2 : P ≤ 4096) (hsz : (sz : Int) = prodT (clF F keep n) n) (hpre : ∀ k, k ≤ n → 0 ≤ prodT (clF F keep n) k ∧ prodT (clF F keep n) k ≤ 4096) (ix : Nat → Nat → Nat) (a b PA PB : Nat → Nat → Int) (at_ : Nat → Nat) (WA WB : Nat → Nat → Int) (wp wq : Nat → Int) (hW0 : WA 0 = (fun _ => z) ∧ WB 0 = (fun _ => 0))
    (hR : RrOk kd z o u cT m n keep (clF F keep n) (qF F 64) (vF F 64) (sF F 64) sz P ix a b PA PB at_ WA WB wp wq) (hf : fitA (WA P) (WB P) sz = false) : FnOk Pg g0 17 [i6 kd, .im m cT, .im n (ints keep)] (.tup [t0V, i6 6]) := by
  have l0 := rc_keep kd cT hL m keep n hn hn5 F true
  have hF := HfL_a64 F
  rw [hw] at l0
  have ek : tkF keep n = keep := by rw [hn]; exact tkF_all keep
  rw [ek] at l0
  have hls := sF_len F 64
  have hll : (sF F 64).length ≤ 12 ∧ ∀ i, i < qF F 64 → 1 ≤ (sF F 64).getD i 0 ∧ (sF F 64).getD i 0 ≤ 8 := by
    unfold okC at hC
    rw [Bool.and_eq_true, decide_eq_true_eq] at hC
    exact ⟨hC.1, fun i hi => goodT_card hC.2 (by omega)⟩
  have hsf := rsize_fn (clF F keep n) n (clF_len _ _ _).symm hn5 hpre
  rw [← hsz] at hsf
  have hal := all_fn (sF F 64) (qF F 64) hls (by omega) hll.2 P hP hP0 hP2
  have hL2 := HfL_blF (HfL_allF (sF F 64) (qF F 64)) P
  have l6 := rc_sums kd z o u cT hL m hm n keep (clF F keep n) (qF F 64) (vF F 64) (sF F 64) sz P hz hP2 ix a b PA PB at_ WA WB wp wq hR
  have hzk := hR.zk
  clear hR hpre
  generalize clF F keep n = cl at *
  have l2 := rc_vars kd cT hL m F n keep cl
  have hr : FnOk Pg g0 46 [.im (qF F 64) (ints (sF F 64))] (.bool true) := by
    have := right2_fn (sF F 64)
    rw [hC] at this
    rw [← hls]; exact this
  have hH1 := HfL_ints (sF F 64)
  have hH2 := HfL_ints (vF F 64)
  have hH3 := HfL_ints keep
  have hH4 := HfL_ints cl
  have l4 := rc_zeros kd cT hL m n keep cl (qF F 64) (vF F 64) (sF F 64) sz hz z hzk
  have l9 := rc_fits n keep cl sz hz (WA P) (WB P)
  rw [hf] at l9
  have hW := HfL_elF (WA P) (WB P) sz
  have hWz := HfL_elF (fun _ => z) (fun _ => 0) sz
  have hW0' := HfL_elF (zF z 0) (fun _ => 0) sz
  have hz0 := rep_elF sz
  have hz1 : elF (WA 0) (WB 0) sz = elF (fun _ => z) (fun _ => 0) sz := by rw [hW0.1, hW0.2]
  generalize blF (allF (sF F 64) (qF F 64)) P = al at *
  generalize qF F 64 = q at *
  generalize sF F 64 = ls at *
  generalize vF F 64 = lv at *
  have hkl : ∃ kl, kl = keep := ⟨_, rfl⟩
  obtain ⟨kl, hkl⟩ := hkl
  rw [← hkl] at l2 l4 l6 l9
  have l0' : Sat Pg none 0 (at' 17 [1, 1, 1, 0, 1, 0]) (mkSt g0 231 (k0S kd cT m keep n F true (0, [], []))) (outsP g0 231 [(true = true, .exit 0, k0X kd cT m n F true kl cl), (true = false, .ret, cBad 2)]) := by rw [hkl]; exact l0
  clear l0
  rw [← hkl] at hH3
  have hH5 : HfL (ints keep) := by rw [← hkl]; exact hH3
  suffices hh : FnOk Pg g0 17 [i6 kd, .im m cT, .im n (ints keep)] (.tup [t0V, i6 6]) by
    first | exact hh | (rw [hkl] at hh; exact hh)
  clear hkl ek hw hn hC hls hll hP
  refine FnOk.of_vc vE_ok mixed sp0_ok (n := 1000) (r := [0]) (S := S0 6) (hs := i0 kd cT m keep n F true true kl cl ++ i2 kd cT m n F kl cl q lv ls true ++ i4 kd cT m n kl cl q lv ls z sz P al WA WB false) ?_
  refine Eq.mp (by kernel_rfl : (V.tup [V.agg [V.im 0 [], V.im 0 [], V.im 0 []], i6 6] = V.tup [t0V, i6 6] ∧ (True ∧ True) ∧ FnOk Try.prog g0 13 [V.im m cT] (V.tup [V.im 64 (a64 F), V.bool true]) ∧ True ∧ ((kd = kd ∧ (m = m ∧ cT = cT) ∧ (n = n ∧ ints keep = ints keep) ∧ 0 = 0 ∧ (64 = 64 ∧ a64 F = a64 F) ∧ true = true ∧ 0 = 0 ∧ (↑(0 : Nat) : Int) = (0 : Int) ∧ True) ∧ ([V.nils, V.nils, V.nils] = [V.nils, V.nils, V.nils] ∧ TT 3) ∧ (TT 3) ∧ True) ∧ Sat Try.prog none 0 (at' 17 [1, 1, 1, 0, 1, 0]) (mkSt g0 231 (k0S kd cT m keep n F true (0, [], []))) (outsP g0 231 [(true = true, Ex.exit 0, k0X kd cT m n F true kl cl), (true = false, Ex.ret, cBad (2 : Int))]) ∧ (true = true → ((kd = kd ∧ (m = m ∧ cT = cT) ∧ 0 = 0 ∧ (64 = 64 ∧ a64 F = a64 F) ∧ 0 = 0 ∧ True ∧ True ∧ (↑(0 : Nat) : Int) = (0 : Int) ∧ True) ∧ ([V.nils, V.nils, V.nils] = [V.nils, V.nils, V.nils] ∧ TT 3) ∧ ([V.im n (ints kl), V.im n (ints cl), V.nils] = [V.im n (ints kl), V.im n (ints cl), V.nils] ∧ TT 3) ∧ True) ∧ Sat Try.prog none 0 (at' 17 [1, 1, 1, 1, 1, 1, 0, 1, 0]) (mkSt g0 231 (k2S kd cT m F n kl cl (0, 0, [], []))) (outsP g0 231 [(True, Ex.exit 2, k2X kd cT m n kl cl q lv ls)]) ∧ (True → (True ∧ True) ∧ FnOk Try.prog g0 46 [V.im q (ints ls)] (V.bool true) ∧ True ∧ (True ∧ True) ∧ FnOk Try.prog g0 36 [V.im n (ints cl)] (i6 (↑sz : Int)) ∧ True ∧ ((0 : Int) ≤ (↑sz : Int) ∧ (↑sz : Int) ≤ (↑sz : Int) ∧ (↑(16 : Nat) : Int) * (↑sz : Int) ≤ (281474976710656 : Int) ∧ (↑sz : Int) ≤ (9223372036854775807 : Int)) ∧ ((kd = kd ∧ (m = m ∧ cT = cT) ∧ 0 = 0 ∧ 0 = 0 ∧ (q = q ∧ ints lv = ints lv) ∧ (q = q ∧ ints ls = ints ls) ∧ (↑(0 : Nat) : Int) = (0 : Int) ∧ True) ∧ ([V.nils, V.nils, V.nils] = [V.nils, V.nils, V.nils] ∧ TT 3) ∧ ((n = n ∧ ints kl = ints kl) ∧ (n = n ∧ ints cl = ints cl) ∧ (0 = 0 ∧ sz = sz ∧ sz - sz = sz - sz) ∧ True) ∧ (elF (zF z 0) (fun x => (0 : Int)) sz = rep sz [i6 0, i6 0] ∧ HfL (elF (zF z 0) (fun x => (0 : Int)) sz)) ∧ True) ∧ Sat Try.prog none 0 (at' 17 [1, 1, 1, 1, 1, 1, 1, 1, 1, 0, 1, 0]) (mkSt g0 231 (k4S kd cT m n kl cl q lv ls sz z 0)) (outsP g0 231 [(True, Ex.exit 4, k4X kd cT m n kl cl q lv ls sz (elF (fun x => z) (fun x => (0 : Int)) sz))]) ∧ (True → (True ∧ True) ∧ FnOk Try.prog g0 47 [V.im q (ints ls)] (V.im P al) ∧ True ∧ ((kd = kd ∧ (m = m ∧ cT = cT) ∧ 0 = 0 ∧ 0 = 0 ∧ (q = q ∧ ints lv = ints lv) ∧ (P = P ∧ al = al) ∧ (↑(0 : Nat) : Int) = (0 : Int) ∧ True) ∧ ([V.nils, V.nils, V.nils] = [V.nils, V.nils, V.nils] ∧ TT 3) ∧ ((n = n ∧ ints kl = ints kl) ∧ (n = n ∧ ints cl = ints cl) ∧ (0 = 0 ∧ sz = sz ∧ sz - sz = sz - sz) ∧ True) ∧ (elF (WA 0) (WB 0) sz = elF (fun x => z) (fun x => (0 : Int)) sz ∧ HfL (elF (WA 0) (WB 0) sz)) ∧ True) ∧ Sat Try.prog none 0 (at' 17 [1, 1, 1, 1, 1, 1, 1, 1, 1, 1, 1, 0, 1, 0]) (mkSt g0 231 (k6S kd cT m n kl cl q lv sz P al WA WB 0)) (outsP g0 231 [(True, Ex.exit 6, k6X n kl cl sz (elF (WA P) (WB P) sz))]) ∧ (True → ((0 = 0 ∧ 0 = 0 ∧ (↑(0 : Nat) : Int) = (0 : Int) ∧ True) ∧ ([V.nils, V.nils, V.nils] = [V.nils, V.nils, V.nils] ∧ TT 3) ∧ ([V.im n (ints kl), V.im n (ints cl), V.im sz (elF (WA P) (WB P) sz)] = [V.im n (ints kl), V.im n (ints cl), V.im sz (elF (WA P) (WB P) sz)] ∧ TT 3) ∧ True) ∧ Sat Try.prog none 0 (at' 17 [1, 1, 1, 1, 1, 1, 1, 1, 1, 1, 1, 1, 0, 1, 0]) (mkSt g0 231 (k9S n kl cl sz (elF (WA P) (WB P) sz) 0)) (outsP g0 231 [(false = true, Ex.exit 10, k6X n kl cl sz (elF (WA P) (WB P) sz)), (false = false, Ex.ret, cBad (6 : Int))]) ∧ (false = true → (0 = 0 ∧ (6 : Int) = (0 : Int) ∧ True) ∧ ((0 = n ∧ [] = ints kl) ∧ (0 = n ∧ [] = ints cl) ∧ (0 = sz ∧ [] = elF (WA P) (WB P) sz) ∧ True) ∧ True) ∧ (false = false → (0 = 0 ∧ (6 : Int) = (6 : Int) ∧ True) ∧ (0 = 0 ∧ 0 = 0 ∧ 0 = 0 ∧ True) ∧ True) ∧ True) ∧ True) ∧ True) ∧ True) ∧ (true = false → (0 = 0 ∧ (6 : Int) = (2 : Int) ∧ True) ∧ (0 = 0 ∧ 0 = 0 ∧ 0 = 0 ∧ True) ∧ True) ∧ True) = _) ?_
  (repeat' (first | (with_reducible apply And.intro) | (refine fun (_ : True) => ?_))) <;> first | exact aq | skip
  all_goals first | rfl | (intro h9; exact absurd h9 (by decide)) | (intro h9; (repeat' (first | (with_reducible apply And.intro) | (refine fun (_ : True) => ?_))); all_goals first | exact aq | exact l4 | exact l6 | exact l9 | exact hz0 | exact hz0.symm | exact hz1 | exact hz1.symm | rfl | (intro h8; exact absurd h8 (by decide)) | (intro h8; (repeat' (first | (with_reducible apply And.intro) | (refine fun (_ : True) => ?_))); all_goals first | exact aq | rfl | skip) | skip) | skip
end Go.Proofs.Ytgdnmgcigkhojaa.Am

namespace Go.Proofs.Ytgdnmgcigkhojaa.Am
open Go.RowKit
set_option linter.unusedVariables false
set_option maxHeartbeats 1000000
set_option maxRecDepth 100000
theorem clF_at {F : Nat → Int} {keep : List Int} : ∀ {n i : Nat}, i < n → (clF F keep n).getD i 0 = F (keep.getD i 0).toNat
  | 0, _, h => absurd h (Nat.not_lt_zero _)
  | n + 1, i, hi => by
    rw [clF]
    by_cases e : i = n
    · subst e
      have := getD_last (l := clF F keep i) (x := F (keep.getD i 0).toNat)
      rwa [clF_len] at this
    · rw [getD_app (by rw [clF_len]; omega)]; exact clF_at (by omega)
theorem goodT_suf {cs : List Int} {n : Nat} (h : goodT cs n = true) : ∀ j, j ≤ n → 1 ≤ sufT cs n j ∧ sufT cs n j ≤ 4096 := fun j hj => by
  have h1 := suf_pos (cs := cs) (n := n) (fun i hi => (goodT_card h hi).1) j hj
  have h2 := prod_suf (cs := cs) (n := n) j hj
  have h3 := goodT_bd (goodT_pre h (show n - j ≤ n by omega))
  have h4 := goodT_bd h
  have := Int.mul_le_mul_of_nonneg_right h3.1 (show 0 ≤ sufT cs n j by omega)
  omega
theorem prE_zero {kd : Int} (hk : 1 ≤ kd ∧ kd ≤ 5) {a b : Nat → Int} {m : Nat} (hw : ∀ i, i < m → wideE kd (a i) (b i) = true) : ∀ i, i ≤ m → (wideE kd (prE kd a b i).1 (prE kd a b i).2 = true) ∧ (zeE (zeroA kd) a b i = true → prE kd a b i = (zeroA kd, 0))
  | 0, _ => ⟨wide_one hk, fun h => by cases h⟩
  | i + 1, hi => by
    obtain ⟨h1, h2⟩ := prE_zero hk hw i (by omega)
    have hwi := hw i (by omega)
    refine ⟨wide_times hk h1 hwi rfl, fun h => ?_⟩
    rw [zeE, Bool.or_eq_true, decide_eq_true_eq] at h
    show timesE kd (prE kd a b i).1 (prE kd a b i).2 (a i) (b i) = _
    rcases h with h | ⟨e1, e2⟩
    · rw [h2 h]; exact times_zl hk hwi
    · rw [e1, e2]; exact times_zr hk h1
section
variable {kd : Int} {VS CS : Nat → List Int} {A B : Nat → Nat → Int} {N : Nat → Nat} {m : Nat} {keep : List Int}
theorem rr_ok (h : InOk kd VS CS A B N m keep) (hk5 : keep.length ≤ 1000) :
    RrOk kd (zeroA kd) (oneA kd) (oneB kd) (blF (tbF VS CS A B N) m) m keep.length keep (clF (aF VS CS m) keep keep.length) (rQ VS CS m) (rV VS CS m) (rS VS CS m) (rSz VS CS m keep) (rP VS CS m) (fun j i => rI VS CS m i j) (fun j i => A i (rI VS CS m i j)) (fun j i => B i (rI VS CS m i j)) (fun j i => (rPr kd VS CS A B m j i).1) (fun j i => (rPr kd VS CS A B m j i).2) (rAt VS CS m keep) (fun j => (rW kd VS CS A B m keep j).1) (fun j => (rW kd VS CS A B m keep j).2)
      (fun j => (plusE kd ((rW kd VS CS A B m keep j).1 (rAt VS CS m keep j)) ((rW kd VS CS A B m keep j).2 (rAt VS CS m keep j)) (rPr kd VS CS A B m j m).1 (rPr kd VS CS A B m j m).2).1)
      (fun j => (plusE kd ((rW kd VS CS A B m keep j).1 (rAt VS CS m keep j)) ((rW kd VS CS A B m keep j).2 (rAt VS CS m keep j)) (rPr kd VS CS A B m j m).1 (rPr kd VS CS A B m j m).2).2) := by
  obtain ⟨s1, s2, s3, s4, s5⟩ := h.sizes
  obtain ⟨k1, k2⟩ := h.kept
  have hb8 := fun v => aF_bd (VS := VS) (CS := CS) (m := m) (fun i hi j hj => goodT_card (goodA_tab h.good hi).2.2.1 hj) m (Nat.le_refl _) v
  refine ⟨rzero_fn kd, rone_fn kd, fun j hj => ⟨rfl, rfl⟩, fun j hj i hi => ?_, fun j hj i hi => ?_, fun j hj hz => ?_, fun j hj => ?_, fun j hj => ?_, fun j hj => ⟨rfl, rfl⟩⟩
  · obtain ⟨t1, t2, t3, t4, t5⟩ := goodA_tab h.good hi
    obtain ⟨c1, c2, c3, c4, c5⟩ := h.table hi hj
    have hat := fun k (hk : k < (CS i).length) => aF_at (VS := VS) (CS := CS) h.ag (fun i hi => ⟨(goodA_tab h.good hi).2.1, fun j hj => (goodT_card (goodA_tab h.good hi).2.2.1 hj).1⟩) hi hk
    have hd := drop_blF (tbF_len VS CS A B N) hi
    have hp := place_fn (aF VS CS m) (VS i) (CS i) (cmb (rS VS CS m) j) (CS i).length (rQ VS CS m) t1.len.symm (by have := t1.m; omega) rfl s1 (h.comb hj).2.1 (fun k hk => ⟨(t1.v k hk).1, (t1.v k hk).2, by rw [hat k hk]; have := goodT_card t3 hk; omega⟩) rfl c3 (goodT_suf t3) (fun k hk => by have := goodT_card t3 hk; omega)
    rw [← c2, c4] at hp
    refine ⟨VS i, CS i, (CS i).length, N i, A i, B i, blF (fun k => tbF VS CS A B N (i + 1 + k)) (m - (i + 1)), ?_, c5, rfl, rfl, hp⟩
    rw [hd]
    show V.im (VS i).length (ints (VS i)) :: V.im (CS i).length (ints (CS i)) :: V.im (N i) (elF (A i) (B i) (N i)) :: blF (fun k => tbF VS CS A B N (i + 1 + k)) (m - (i + 1)) = _
    rw [t1.len]
  · exact rtimes_fn kd _ _ _ _ _ _ ((h.prod hj).wide i (by omega)) ((h.prod hj).w i hi) h.k rfl
  · have := (prE_zero h.k (a := fun i => A i (rI VS CS m i j)) (b := fun i => B i (rI VS CS m i j)) (m := m) (h.prod hj).w m (Nat.le_refl _)).2 hz
    exact ⟨congrArg Prod.fst this, congrArg Prod.snd this⟩
  · obtain ⟨c1, c2, c3, c4, c5⟩ := h.place hj
    have hp := place_fn (aF VS CS m) keep (clF (aF VS CS m) keep keep.length) (cmb (rS VS CS m) j) keep.length (rQ VS CS m) rfl hk5 rfl s1 (h.comb hj).2.1 (fun k hk => ⟨(k1.1 k hk).1, (k1.1 k hk).2, k2 k hk⟩) (clF_len _ _ _).symm c3 (fun j hj => by rw [← sufK_suf (fun i hi => clF_at hi) j hj]; exact h.suf j hj) (fun k hk => by rw [clF_at hk]; have := hb8 (keep.getD k 0).toNat; omega)
    rw [← c2, c4] at hp
    exact ⟨hp, c5⟩
  · exact rplus_fn kd _ _ _ _ _ _ (h.sums j (by omega) _) ((h.prod hj).wide m (Nat.le_refl _)) h.k rfl
theorem rcombine_fn (hkd : 1 ≤ kd ∧ kd ≤ 5) (hm : m ≤ 12) (hk5 : keep.length ≤ 1000) (hg : goodA kd VS CS A B N m = true) :
    FnOk Pg g0 17 [i6 kd, .im m (blF (tbF VS CS A B N) m), sl keep] (comV kd VS CS A B N m keep) := by
  have hL := HfL_blF (HfL_tbF VS CS A B N) m
  have hT := fun i hi => (goodA_tab hg (i := i) hi).1
  have hcd := rcards_fn VS CS A B N m (by omega) hT
  obtain ⟨r1, r2⟩ := @ra_aF VS CS m
  unfold comV
  rw [if_neg (fun h => h hkd), hg, if_neg (by decide)]
  cases ha : aG VS CS m with
  | false =>
    rw [if_pos (.inl rfl)]
    rw [ha] at r1
    rw [← r1] at hcd
    cases hw : withT (raF VS CS m) keep keep.length with
    | false => exact rcom_arg1 kd _ hL m keep _ rfl hk5 _ _ hcd hw
    | true => exact rcom_arg2 kd _ hL m keep _ rfl hk5 _ hcd hw
  | true =>
    rw [ha] at r1
    rw [r2 ha, ← r1] at hcd
    cases hw : withT (aF VS CS m) keep keep.length with
    | false => rw [if_pos (.inr rfl)]; exact rcom_arg1 kd _ hL m keep _ rfl hk5 _ _ hcd hw
    | true =>
      rw [if_neg (by simp)]
      cases hC : okC (sF (aF VS CS m) 64) with
      | false => rw [if_pos rfl]; exact rcom_long kd _ hL m keep _ rfl hk5 _ hcd hw hC
      | true =>
        rw [if_neg (by decide)]
        have hI : InOk kd VS CS A B N m keep := ⟨hkd, hm, hg, ha, hw, hC⟩
        obtain ⟨s1, s2, s3, s4, s5⟩ := hI.sizes
        have hsf := hI.suf
        have hR := rr_ok hI hk5
        have hsz0 : prodT (clF (aF VS CS m) keep keep.length) keep.length = sufK (aF VS CS m) keep keep.length keep.length := by
          rw [← suf_all, sufK_suf (fun i hi => clF_at hi) _ (Nat.le_refl _)]
        have hn := hsf keep.length (Nat.le_refl _)
        have hsz : ((rSz VS CS m keep : Nat) : Int) = prodT (clF (aF VS CS m) keep keep.length) keep.length := by
          rw [hsz0]; unfold rSz; omega
        have hP : ((rP VS CS m : Nat) : Int) = prodT (rS VS CS m) (rQ VS CS m) := by unfold rP; omega
        have hpos : ∀ i, i < keep.length → 1 ≤ (clF (aF VS CS m) keep keep.length).getD i 0 := fun i hi => by rw [clF_at hi]; have := hI.kept.2 i hi; omega
        have hpp : ∀ k, k ≤ keep.length → 1 ≤ prodT (clF (aF VS CS m) keep keep.length) k := by
          intro k
          induction k with
          | zero => intro _; exact Int.le_refl _
          | succ k ih =>
            intro hk
            have := Int.mul_le_mul (ih (by omega)) (hpos k (by omega)) (by decide) (by have := ih (by omega); omega)
            rw [prodT]; omega
        have hpre : ∀ k, k ≤ keep.length → 0 ≤ prodT (clF (aF VS CS m) keep keep.length) k ∧ prodT (clF (aF VS CS m) keep keep.length) k ≤ 4096 := fun k hk => by
          have e := prod_suf (cs := clF (aF VS CS m) keep keep.length) (n := keep.length) (keep.length - k) (by omega)
          rw [show keep.length - (keep.length - k) = k by omega, hsz0] at e
          have h1 := suf_pos hpos (keep.length - k) (by omega)
          have h2 := hpp k hk
          have := Int.mul_le_mul_of_nonneg_left h1 (show 0 ≤ prodT (clF (aF VS CS m) keep keep.length) k by omega)
          omega
        cases hf : fitA (rA kd VS CS A B m keep) (rB kd VS CS A B m keep) (rSz VS CS m keep) with
        | false =>
          rw [if_pos rfl]
          exact rcom_big kd _ _ _ _ hL m (by omega) keep _ rfl hk5 _ hcd hw hC _ _ (by omega) hP (by omega) (by omega) hsz hpre _ _ _ _ _ _ _ _ _ _ ⟨rfl, rfl⟩ hR hf
        | true =>
          rw [if_neg (by decide)]
          exact rcom_ok kd _ _ _ _ hL m (by omega) keep _ rfl hk5 _ hcd hw hC _ _ (by omega) hP (by omega) (by omega) hsz hpre _ _ _ _ _ _ _ _ _ _ ⟨rfl, rfl⟩ hR hf
end
end Go.Proofs.Ytgdnmgcigkhojaa.Am

namespace Go.Proofs.Ytgdnmgcigkhojaa.Am
open Go.RowKit
set_option linter.unusedVariables false
set_option maxHeartbeats 1000000
set_option maxRecDepth 100000
abbrev b8 (n : Nat) : V := .int .u8 (n : Int)
def elemA (k : Int) (a : Nat) : Int := if k = 3 then ((a % 12 : Nat) : Int) - 1 else if k = 4 then ((a % 12 % 2 : Nat) : Int) else ((a % 12 : Nat) : Int)
def elemB (k : Int) (a b : Nat) : Int := if k = 5 ∧ 0 < a % 12 then 1 + ((b % 4 : Nat) : Int) else 0
theorem rem_u8 {G : Ctx} {t : Nat} {x : Nat} {m : Nat} (h : 0 < m) : binV G .rem t (b8 x) (b8 m) = some (b8 (x % m)) := by
  have h0 : (m : Int) ≠ 0 := by omega
  have e : (x : Int).tmod (m : Int) = ((x % m : Nat) : Int) := by rw [Int.tmod_eq_emod_of_nonneg (by omega)]; omega
  simp [binV, intV, e]
  omega
theorem elem_fn (k : Int) (a b : Nat) (ha : a < 256) (hb : b < 256) : FnOk Pg g0 10 [i6 k, b8 a, b8 b] (el (elemA k a) (elemB k a b)) := by
  have r1 : ∀ G t, binV G .rem t (b8 a) (b8 12) = some (b8 (a % 12)) := fun G t => rem_u8 (by omega)
  have r2 : ∀ G t, binV G .rem t (b8 b) (b8 4) = some (b8 (b % 4)) := fun G t => rem_u8 (by omega)
  have : a % 12 < 12 := Nat.mod_lt _ (by omega)
  have : b % 4 < 4 := Nat.mod_lt _ (by omega)
  obtain ⟨p, hp⟩ : ∃ p, p = elemA k a := ⟨_, rfl⟩
  obtain ⟨q, hq⟩ : ∃ q, q = elemB k a b := ⟨_, rfl⟩
  rw [← hp, ← hq]
  unfold elemA at hp
  unfold elemB at hq
  generalize a % 12 = x at *
  generalize b % 4 = y at *
  by_cases h1 : k = 3
  · rw [if_pos h1] at hp
    rw [if_neg (by omega)] at hq
    subst hq
    refine FnOk.of_vc vE_ok mixed sp0_ok (n := 1000) (r := [0]) (S := { sl := [(6, .ptr 0 0)], os := [.row 23 none [i6 p, i6 0]] }) (hs := [va 9 (b8 x), nu 10 (x : Int), yes 14, nu 17 p]) ?_
    refine Eq.mp (by kernel_rfl : (V.agg [i6 p, i6 0] = el p (0 : Int) ∧ binV (ctxOf Try.prog) BinOp.rem 5 (b8 a) (V.int IntKind.u8 (12 : Int)) = some (b8 x) ∧ wr IntKind.i64 (↑x : Int) = (↑x : Int) ∧ (k == (3 : Int)) = true ∧ wr IntKind.i64 ((↑x : Int) - (1 : Int)) = p ∧ (0 = 0 ∧ True) ∧ ([i6 p, i6 0] = [i6 p, i6 0] ∧ True ∧ True ∧ True) ∧ True) = _) ?_
    (repeat' (first | (with_reducible apply And.intro) | (refine fun (_ : True) => ?_))) <;> first | exact aq | skip
    all_goals first | exact r1 _ _ | skip
  · rw [if_neg h1] at hp
    by_cases h2 : k = 4
    · rw [if_pos h2] at hp
      rw [if_neg (by omega)] at hq
      subst hq
      have r3 : ∀ G t, binV G .rem t (i6 (x : Int)) (i6 2) = some (i6 p) := fun G t => by
        rw [rem6 (by decide), hp, Int.tmod_eq_emod_of_nonneg (by omega)]; rfl
      refine FnOk.of_vc vE_ok mixed sp0_ok (n := 1000) (r := [0]) (S := { sl := [(6, .ptr 0 0)], os := [.row 23 none [i6 p, i6 0]] }) (hs := [va 9 (b8 x), nu 10 (x : Int), no 14, yes 20, va 23 (i6 p)]) ?_
      refine Eq.mp (by kernel_rfl : (V.agg [i6 p, i6 0] = el p (0 : Int) ∧ binV (ctxOf Try.prog) BinOp.rem 5 (b8 a) (V.int IntKind.u8 (12 : Int)) = some (b8 x) ∧ wr IntKind.i64 (↑x : Int) = (↑x : Int) ∧ (k == (3 : Int)) = false ∧ (k == (4 : Int)) = true ∧ binV (ctxOf Try.prog) BinOp.rem 3 (i6 (↑x : Int)) (i6 2) = some (i6 p) ∧ (0 = 0 ∧ True) ∧ ([i6 p, i6 0] = [i6 p, i6 0] ∧ True ∧ True ∧ True) ∧ True) = _) ?_
      (repeat' (first | (with_reducible apply And.intro) | (refine fun (_ : True) => ?_))) <;> first | exact aq | skip
      all_goals first | exact r1 _ _ | exact r3 _ _ | skip
    · rw [if_neg h2] at hp
      by_cases h3 : k = 5
      · by_cases h4 : 0 < x
        · rw [if_pos ⟨h3, h4⟩] at hq
          refine FnOk.of_vc vE_ok mixed sp0_ok (n := 1000) (r := [0]) (S := { sl := [(6, .ptr 0 0)], os := [.row 23 none [i6 p, i6 q]] }) (hs := [va 9 (b8 x), nu 10 (x : Int), no 14, no 20, yes 26, yes 29, va 31 (b8 y), nu 32 (y : Int), nu 33 q]) ?_
          refine Eq.mp (by kernel_rfl : (V.agg [i6 p, i6 q] = el p q ∧ binV (ctxOf Try.prog) BinOp.rem 5 (b8 a) (V.int IntKind.u8 (12 : Int)) = some (b8 x) ∧ wr IntKind.i64 (↑x : Int) = (↑x : Int) ∧ (k == (3 : Int)) = false ∧ (k == (4 : Int)) = false ∧ (k == (5 : Int)) = true ∧ decide ((↑x : Int) > (0 : Int)) = true ∧ binV (ctxOf Try.prog) BinOp.rem 5 (b8 b) (V.int IntKind.u8 (4 : Int)) = some (b8 y) ∧ wr IntKind.i64 (↑y : Int) = (↑y : Int) ∧ wr IntKind.i64 ((1 : Int) + (↑y : Int)) = q ∧ (0 = 0 ∧ True) ∧ ([i6 p, i6 q] = [i6 (↑x : Int), i6 q] ∧ True ∧ True ∧ True) ∧ True) = _) ?_
          (repeat' (first | (with_reducible apply And.intro) | (refine fun (_ : True) => ?_))) <;> first | exact aq | skip
          all_goals first | exact r1 _ _ | exact r2 _ _ | skip
        · rw [if_neg (by omega)] at hq
          subst hq
          refine FnOk.of_vc vE_ok mixed sp0_ok (n := 1000) (r := [0]) (S := { sl := [(6, .ptr 0 0)], os := [.row 23 none [i6 p, i6 0]] }) (hs := [va 9 (b8 x), nu 10 (x : Int), no 14, no 20, yes 26, no 29]) ?_
          refine Eq.mp (by kernel_rfl : (V.agg [i6 p, i6 0] = el p (0 : Int) ∧ binV (ctxOf Try.prog) BinOp.rem 5 (b8 a) (V.int IntKind.u8 (12 : Int)) = some (b8 x) ∧ wr IntKind.i64 (↑x : Int) = (↑x : Int) ∧ (k == (3 : Int)) = false ∧ (k == (4 : Int)) = false ∧ (k == (5 : Int)) = true ∧ decide ((↑x : Int) > (0 : Int)) = false ∧ (0 = 0 ∧ True) ∧ ([i6 p, i6 0] = [i6 (↑x : Int), i6 0] ∧ True ∧ True ∧ True) ∧ True) = _) ?_
          (repeat' (first | (with_reducible apply And.intro) | (refine fun (_ : True) => ?_))) <;> first | exact aq | skip
          all_goals first | exact r1 _ _ | skip
      · rw [if_neg (by omega)] at hq
        subst hq
        refine FnOk.of_vc vE_ok mixed sp0_ok (n := 1000) (r := [0]) (S := { sl := [(6, .ptr 0 0)], os := [.row 23 none [i6 p, i6 0]] }) (hs := [va 9 (b8 x), nu 10 (x : Int), no 14, no 20, no 26]) ?_
        refine Eq.mp (by kernel_rfl : (V.agg [i6 p, i6 0] = el p (0 : Int) ∧ binV (ctxOf Try.prog) BinOp.rem 5 (b8 a) (V.int IntKind.u8 (12 : Int)) = some (b8 x) ∧ wr IntKind.i64 (↑x : Int) = (↑x : Int) ∧ (k == (3 : Int)) = false ∧ (k == (4 : Int)) = false ∧ (k == (5 : Int)) = false ∧ (0 = 0 ∧ True) ∧ ([i6 p, i6 0] = [i6 (↑x : Int), i6 0] ∧ True ∧ True ∧ True) ∧ True) = _) ?_
        (repeat' (first | (with_reducible apply And.intro) | (refine fun (_ : True) => ?_))) <;> first | exact aq | skip
        all_goals first | exact r1 _ _ | skip
end Go.Proofs.Ytgdnmgcigkhojaa.Am
