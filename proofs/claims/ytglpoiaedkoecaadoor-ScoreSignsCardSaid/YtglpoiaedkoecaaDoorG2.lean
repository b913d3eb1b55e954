/- score.above$1: a long number is multiplied by a word, in the caller's memory. -/
import Derived.Test.YtglpoiaedkoecaaDoorG1
namespace Go.Proofs.YtglpoiaedkoecaaDoor.Am
open Go.RowKit
set_option linter.unusedVariables false
set_option maxHeartbeats 1000000
set_option maxRecDepth 100000

/-- math/bits.Add64 of numbers from 0, without a carry: in a form that the kernel reckons at open numbers -/
def add64N : List V → Option V
  | [.int .u64 (.ofNat x), .int .u64 (.ofNat y), .int .u64 (.ofNat 0)] => some (.tup [.int .u64 (.ofNat ((x + y) % 18446744073709551616)), .int .u64 (.ofNat ((x + y) / 18446744073709551616))])
  | _ => none
def extN (f : Nat) (l : List V) : Option V := bif Nat.beq f 114 then add64N l else none
theorem extN_ok : StandOk Tryd.prog extN := by
  intro f l v h
  refine ext_ok f l v ?_
  unfold extN at h
  obtain ⟨hf, k⟩ := bif_some h
  unfold extF
  rw [hf, cond_true]
  unfold add64N at k
  split at k
  · rename_i x y
    cases k
    unfold add64V
    simp only [Int.ofNat_eq_natCast]
    rw [if_pos (by omega)]
    congr 5 <;> omega
  · cases k
noncomputable def vN : Env := envOf Tryd.prog noHook extN
theorem vN_ok : vN.Ok Tryd.prog := env_ok plain noHook_ok extN_ok

def wt (l : List Nat) : List V := l.map fun (x : Nat) => u6 (x : Int)
theorem wt_len (l : List Nat) : (wt l).length = l.length := by simp [wt]
theorem HfL_wt (l : List Nat) : HfL (wt l) := HfL_map _ l (fun _ => trivial)
theorem wt_app (l : List Nat) (x : Nat) : wt (l ++ [x]) = wt l ++ [u6 (x : Int)] := by simp [wt]
theorem head_wt {l : List Nat} {k : Nat} (h : k < l.length) : headF (dropF (0 + k * 1) (wt l)) = some (u6 ((l.getD k 0 : Nat) : Int)) := by
  rw [Nat.zero_add, Nat.mul_one, dropF_eq, wt, ← List.map_drop, List.drop_eq_getElem_cons h, List.getD_eq_getElem?_getD, List.getElem?_eq_getElem h]; rfl
theorem lay_wt {l : List Nat} {j x : Nat} (h : j < l.length) : layE (0 + j * 1) (wt l) [u6 (x : Int)] = some (wt (l.set j x)) := by
  rw [Nat.zero_add, Nat.mul_one, layE_eq', wt_len]
  have : Nat.ble (j + [u6 (x : Int)].length) l.length = true := Nat.ble_eq_true_of_le (by simp; omega)
  rw [this, cond_true]
  congr 1
  rw [List.set_eq_take_append_cons_drop, if_pos h]
  simp [wt, List.map_take, List.map_drop]

theorem mul_parts {d w c : Nat} (hd : d < 18446744073709551616) (hw : w < 18446744073709551616) (hc : c < 18446744073709551616) :
    (d * w % 18446744073709551616 + c) % 18446744073709551616 = (d * w + c) % 18446744073709551616 ∧ d * w / 18446744073709551616 + (d * w % 18446744073709551616 + c) / 18446744073709551616 = (d * w + c) / 18446744073709551616 ∧ (d * w + c) / 18446744073709551616 < 18446744073709551616 := by
  have := mul_lt_sq hd hw hc
  generalize d * w = p at *
  omega

/-! ### while number is the one word that it began with: full, of one word -/
abbrev n1 (f : Nat → Int) (x : Nat) : List O := [.row 41 none (arF f), .row 162 none [.sl 2 0 1 (some 0)], .row 170 none [u6 (x : Int)]]
abbrev nM (f : Nat → Int) (ws : List Nat) : List O := [.row 41 none (arF f), .row 162 none [.sl 2 0 ws.length none], .row 170 (some 1) (wt ws)]
theorem os3 {i : Nat} {l : List Nat} (hi : i < 3) (hn : i ∉ 2 :: l) : i = 0 ∨ i = 1 := by
  have : i ≠ 2 := fun h => hn (by rw [h]; exact List.mem_cons_self)
  omega
theorem mul_one0 (f : Nat → Int) (x w : Nat) (hx : x < 18446744073709551616) (hw : w < 18446744073709551616) (y : Nat) (hy : y = x * w % 18446744073709551616) (hc : x * w / 18446744073709551616 = 0) :
    CallSpec Pg g0 (.fn 112 [.ptr 1 0]) [u6 (w : Int)] (ofOs .e 0 (n1 f x)) 3 ⟨.tup [], ofOs .e 0 (n1 f y), 3, [2]⟩ := by
  refine CallSpec.caps ?_
  have hm := mul64_fn x w hx hw
  have hy2 : y < 18446744073709551616 := by omega
  rw [show mulV x w = .tup [u6 ((0 : Nat) : Int), u6 (y : Int)] by rw [mulV, hc, ← hy]] at hm
  have hv : (y + 0) % 18446744073709551616 = y := by omega
  refine CallSpec.of_vcH (os0 := n1 f x) vN_ok mixed sp0_ok (n := 1000) (r := []) (S := { sl := [], os := n1 f y, lg := [2], md := [0, 1, 0] }) (hs := [(0, .unroll 3), fn 20 (.tup [u6 ((0 : Nat) : Int), u6 (y : Int)]), nu 34 ((0 : Nat) : Int), no 38]) (by simp) (fun i hi hn => ?_) ?_
  · rcases os3 hi hn with rfl | rfl <;> rfl
  refine Eq.mp (by kernel_rfl : (V.tup [] = V.tup [] ∧ (True ∧ True ∧ True) ∧ FnOk Tryd.prog g0 113 [V.int IntKind.u64 (↑x : Int), V.int IntKind.u64 (↑w : Int)] (V.tup [u6 (↑(0 : Nat) : Int), u6 (↑y : Int)]) ∧ True ∧ wr IntKind.u64 ((↑(0 : Nat) : Int) + (↑((y + 0) / 18446744073709551616) : Int)) = (↑(0 : Nat) : Int) ∧ ((↑(0 : Nat) : Int) != (0 : Int)) = false ∧ True ∧ (arF f = arF f ∧ True ∧ True ∧ True ∧ True ∧ True ∧ True ∧ True ∧ True ∧ True ∧ True ∧ True ∧ True ∧ True ∧ True ∧ True ∧ True ∧ True ∧ True ∧ True) ∧ ((0 = 0 ∧ 1 = 1 ∧ 0 = 0) ∧ True) ∧ ([u6 (↑y : Int)] = [V.int IntKind.u64 (↑((y + 0) % 18446744073709551616) : Int)] ∧ True ∧ True) ∧ True) = _) ?_
  (repeat' (first | (with_reducible apply And.intro) | (refine fun (_ : True) => ?_))) <;> first | exact aq | skip
  all_goals first | (refine wru' ?_ ?_ <;> omega) | skip
theorem mul_one1 (f : Nat → Int) (x w : Nat) (hx : x < 18446744073709551616) (hw : w < 18446744073709551616) (y c : Nat) (hy : y = x * w % 18446744073709551616) (hc : c = x * w / 18446744073709551616) (hc0 : c ≠ 0) :
    CallSpec Pg g0 (.fn 112 [.ptr 1 0]) [u6 (w : Int)] (ofOs .e 0 (n1 f x)) 3 ⟨.tup [], ofOs .e 0 [.row 41 none (arF f), .row 162 none [.sl 3 0 2 none], .dead, .row 170 (some 1) [u6 (y : Int), u6 (c : Int)]], 4, [2, 1]⟩ := by
  refine CallSpec.caps ?_
  have hm := mul64_fn x w hx hw
  have hp := mul_parts hx hw (c := 0) (by omega)
  have hy2 : y < 18446744073709551616 := by omega
  have hc2 : c < 18446744073709551616 := by omega
  rw [show mulV x w = .tup [u6 ((c : Nat) : Int), u6 (y : Int)] by rw [mulV, ← hc, ← hy]] at hm
  have hv : (y + 0) % 18446744073709551616 = y := by omega
  refine CallSpec.of_vcH (os0 := n1 f x) vN_ok mixed sp0_ok (n := 1000) (r := [4]) (S := { sl := [], os := [.row 41 none (arF f), .row 162 none [.sl 3 0 2 none], .dead, .row 170 (some 1) [u6 (y : Int), u6 (c : Int)]], lg := [2, 1], md := [0, 1, 0, 0] }) (hs := [(0, .unroll 3), fn 20 (.tup [u6 ((c : Nat) : Int), u6 (y : Int)]), nu 34 (c : Int), yes 38]) (by simp) (fun i hi hn => ?_) ?_
  · have : i = 0 := by
      rcases os3 hi hn with h | h
      · exact h
      · exact absurd (by rw [h]; simp) hn
    subst this; rfl
  refine Eq.mp (by kernel_rfl : (V.tup [] = V.tup [] ∧ (True ∧ True ∧ True) ∧ FnOk Tryd.prog g0 113 [V.int IntKind.u64 (↑x : Int), V.int IntKind.u64 (↑w : Int)] (V.tup [u6 (↑c : Int), u6 (↑y : Int)]) ∧ True ∧ wr IntKind.u64 ((↑c : Int) + (↑((y + 0) / 18446744073709551616) : Int)) = (↑c : Int) ∧ ((↑c : Int) != (0 : Int)) = true ∧ True ∧ (arF f = arF f ∧ True ∧ True ∧ True ∧ True ∧ True ∧ True ∧ True ∧ True ∧ True ∧ True ∧ True ∧ True ∧ True ∧ True ∧ True ∧ True ∧ True ∧ True ∧ True) ∧ ((0 = 0 ∧ 2 = 1 + 1 ∧ True) ∧ True) ∧ True ∧ ([u6 (↑y : Int), u6 (↑c : Int)] = [V.int IntKind.u64 (↑((y + 0) % 18446744073709551616) : Int)] ++ [V.int IntKind.u64 (↑c : Int)] ∧ True ∧ True ∧ True) ∧ True) = _) ?_
  (repeat' (first | (with_reducible apply And.intro) | (refine fun (_ : True) => ?_))) <;> first | exact aq | skip
  all_goals first | (refine wru' ?_ ?_ <;> omega) | skip

/-! ### number has grown -/
abbrev acS (f : Nat → Int) (w n : Nat) (q : Nat × List Nat × Nat) : SL := { sl := [(0, u6 w), (1, .ptr 1 0), (3, u6 q.2.2), (10, .sl 2 0 n none), (11, i6 n), (12, i6 q.1)], os := [.row 41 none (arF f), .row 162 none [.sl 2 0 n none], .row 170 (some 1) (wt q.2.1)], lg := [2], md := [0, 1, 0] }
abbrev acX (f : Nat → Int) (w n : Nat) (m : List Nat) (c : Nat) : SL := { sl := [(1, .ptr 1 0), (3, u6 c)], os := [.row 41 none (arF f), .row 162 none [.sl 2 0 n none], .row 170 (some 1) (wt m)], lg := [2], md := [0, 1, 0] }
theorem mulM_loop (f : Nat → Int) (ws : List Nat) (w n : Nat) (hn : n = ws.length) (hn2 : n ≤ 100000) (hws : WOk ws) (hw : w < 18446744073709551616) :
    Sat Pg none 3 (at' 112 [1, 0, 1, 0]) (mkSt g0 43 (acS f w n (0, ws, 0))) (outsP g0 43 [(True, .exit 0, acX f w n (mulS w ws n).1 (mulS w ws n).2)]) := by
  refine loopC vN_ok mixed sp0_ok (b := at' 112 [1, 0, 1, 0, 0]) (by kernel_rfl) (fun q => q.1 ≤ n ∧ q.2.1 = (mulS w ws q.1).1 ∧ q.2.2 = (mulS w ws q.1).2) (acS f w n) (fun q => n - q.1) (fun q hq => ?_) (0, ws, 0) ⟨Nat.zero_le _, rfl, rfl⟩
  obtain ⟨i, m, c⟩ := q
  obtain ⟨hi, hmm, hcc⟩ := hq
  dsimp only at hi hmm hcc
  have ho := mulS_ok hws hw i (by omega)
  rw [← hmm, ← hcc] at ho
  have hlen := ho.len
  have hcb := ho.carry
  by_cases hlt : i < n
  · have hat := mulS_at w ws i
    rw [← hmm] at hat
    have hd := hws i
    have h1 := head_wt (l := m) (k := i) (by omega)
    rw [hat] at h1
    have e1 : (mulS w ws (i + 1)).1 = m.set i ((ws.getD i 0 * w + c) % 18446744073709551616) := by rw [mulS, ← hmm, ← hcc]
    have e2 : (mulS w ws (i + 1)).2 = (ws.getD i 0 * w + c) / 18446744073709551616 := by rw [mulS, ← hcc]
    have hp := mul_parts hd hw hcb
    have hml : FnOk Pg g0 113 [u6 (ws.getD i 0 : Nat), u6 w] (.tup [u6 ((ws.getD i 0 * w / 18446744073709551616 : Nat) : Int), u6 ((ws.getD i 0 * w % 18446744073709551616 : Nat) : Int)]) := mul64_fn (ws.getD i 0) w hd hw
    have hlay := lay_wt (l := m) (j := i) (x := (ws.getD i 0 * w + c) % 18446744073709551616) (by omega)
    obtain ⟨m', hm'⟩ : ∃ m', m' = (mulS w ws (i + 1)).1 := ⟨_, rfl⟩
    rw [← e1, ← hm'] at hlay
    generalize ws.getD i 0 = d at *
    generalize hc' : (d * w + c) / 18446744073709551616 = c' at *
    generalize hs' : (d * w + c) % 18446744073709551616 = s' at *
    generalize d * w / 18446744073709551616 = H at *
    generalize d * w % 18446744073709551616 = L at *
    obtain ⟨p1, p2, p3⟩ := hp
    subst p1
    refine .inl ⟨(i + 1, m', c'), [], [yes 13, pl 15, ld 16 (u6 d), fn 20 (.tup [u6 ((H : Nat) : Int), u6 (L : Int)]), nu 34 (c' : Int), pl 35, st (wt m'), nu 36 (i + 1 : Nat)], 1000, ⟨hlt, hm', e2.symm⟩, by dsimp only; omega, ?_⟩
    clear hc' hmm hcc ho e1 e2 hm'
    refine Eq.mp (by kernel_rfl : (decide ((↑i : Int) < (↑n : Int)) = true ∧ ((0 : Int) ≤ (↑i : Int) ∧ (↑i : Int) < (↑n : Int)) ∧ headF (dropF (0 + i * 1) (wt m)) = some (u6 (↑d : Int)) ∧ (True ∧ True ∧ True) ∧ FnOk Tryd.prog g0 113 [V.int IntKind.u64 (↑d : Int), V.int IntKind.u64 (↑w : Int)] (V.tup [u6 (↑H : Int), u6 (↑L : Int)]) ∧ True ∧ wr IntKind.u64 ((↑H : Int) + (↑((L + c) / 18446744073709551616) : Int)) = (↑c' : Int) ∧ ((0 : Int) ≤ (↑i : Int) ∧ (↑i : Int) < (↑n : Int)) ∧ layE (0 + i * 1) (wt m) [V.int IntKind.u64 (↑((L + c) % 18446744073709551616) : Int)] = some (wt m') ∧ wr IntKind.i64 ((↑i : Int) + (1 : Int)) = (↑(i + 1) : Int) ∧ ((↑w : Int) = (↑w : Int) ∧ 0 = 0 ∧ (↑c' : Int) = (↑c' : Int) ∧ (0 = 0 ∧ n = n ∧ True) ∧ (↑n : Int) = (↑n : Int) ∧ (↑(i + 1) : Int) = (↑(i + 1) : Int) ∧ True) ∧ (arF f = arF f ∧ True ∧ True ∧ True ∧ True ∧ True ∧ True ∧ True ∧ True ∧ True ∧ True ∧ True ∧ True ∧ True ∧ True ∧ True ∧ True ∧ True ∧ True ∧ True) ∧ ((0 = 0 ∧ n = n ∧ True) ∧ True) ∧ (wt m' = wt m' ∧ HfL (wt m')) ∧ True) = _) ?_
    (repeat' (first | (with_reducible apply And.intro) | (refine fun (_ : True) => ?_))) <;> first | exact aq | skip
    all_goals first | (refine wru' ?_ ?_ <;> omega) | exact HfL_wt _ | skip
  · have : i = n := by omega
    subst this
    rw [← hmm, ← hcc]
    refine .inr ⟨.exit 0, [], acX f w i m c, [no 13], 1000, .inl ⟨trivial, rfl, rfl⟩, ?_⟩
    clear hmm hcc
    refine Eq.mp (by kernel_rfl : (decide ((↑i : Int) < (↑i : Int)) = false ∧ (0 = 0 ∧ (↑c : Int) = (↑c : Int) ∧ True) ∧ (arF f = arF f ∧ True ∧ True ∧ True ∧ True ∧ True ∧ True ∧ True ∧ True ∧ True ∧ True ∧ True ∧ True ∧ True ∧ True ∧ True ∧ True ∧ True ∧ True ∧ True) ∧ ((0 = 0 ∧ i = i ∧ True) ∧ True) ∧ (wt m = wt m ∧ HfL (wt m)) ∧ True) = _) ?_
    (repeat' (first | (with_reducible apply And.intro) | (refine fun (_ : True) => ?_))) <;> first | exact aq | skip
    all_goals first | exact HfL_wt _ | skip
theorem mul_M0 (f : Nat → Int) (ws : List Nat) (w n : Nat) (hn : n = ws.length) (hn2 : n ≤ 100000) (hws : WOk ws) (hw : w < 18446744073709551616) (m : List Nat) (hm : m = (mulS w ws n).1) (hc : (mulS w ws n).2 = 0) :
    CallSpec Pg g0 (.fn 112 [.ptr 1 0]) [u6 (w : Int)] (ofOs .e 0 [.row 41 none (arF f), .row 162 none [.sl 2 0 n none], .row 170 (some 1) (wt ws)]) 3 ⟨.tup [], ofOs .e 0 [.row 41 none (arF f), .row 162 none [.sl 2 0 n none], .row 170 (some 1) (wt m)], 3, [2]⟩ := by
  refine CallSpec.caps ?_
  have l := mulM_loop f ws w n hn hn2 hws hw
  rw [← hm, hc] at l
  refine CallSpec.of_vcH (os0 := [.row 41 none (arF f), .row 162 none [.sl 2 0 n none], .row 170 (some 1) (wt ws)]) vN_ok mixed sp0_ok (n := 1000) (r := []) (S := { sl := [], os := [.row 41 none (arF f), .row 162 none [.sl 2 0 n none], .row 170 (some 1) (wt m)], lg := [2], md := [0, 1, 0] }) (hs := [(0, .loop [] (acS f w n (0, ws, 0)) [(True, .exit 0, acX f w n m 0)]), no 38]) (by simp) (fun i hi hn => ?_) ?_
  · rcases os3 hi hn with rfl | rfl <;> rfl
  clear hm hc
  refine Eq.mp (by kernel_rfl : (V.tup [] = V.tup [] ∧ (((↑w : Int) = (↑w : Int) ∧ 0 = 0 ∧ (↑(0 : Nat) : Int) = (0 : Int) ∧ (0 = 0 ∧ n = n ∧ True) ∧ (↑n : Int) = (↑n : Int) ∧ (↑(0 : Nat) : Int) = (0 : Int) ∧ True) ∧ (arF f = arF f ∧ True ∧ True ∧ True ∧ True ∧ True ∧ True ∧ True ∧ True ∧ True ∧ True ∧ True ∧ True ∧ True ∧ True ∧ True ∧ True ∧ True ∧ True ∧ True) ∧ ((0 = 0 ∧ n = n ∧ True) ∧ True) ∧ (wt ws = wt ws ∧ HfL (wt ws)) ∧ True) ∧ Sat Tryd.prog none 3 (at' 112 [1, 0, 1, 0]) (mkSt g0 43 (acS f w n (0, ws, 0))) (outsP g0 43 [(True, Ex.exit 0, acX f w n m 0)]) ∧ (True → ((↑(0 : Nat) : Int) != (0 : Int)) = false ∧ True ∧ (arF f = arF f ∧ True ∧ True ∧ True ∧ True ∧ True ∧ True ∧ True ∧ True ∧ True ∧ True ∧ True ∧ True ∧ True ∧ True ∧ True ∧ True ∧ True ∧ True ∧ True) ∧ ((0 = 0 ∧ n = n ∧ True) ∧ True) ∧ (wt m = wt m ∧ HfL (wt m)) ∧ True) ∧ True) = _) ?_
  (repeat' (first | (with_reducible apply And.intro) | (refine fun (_ : True) => ?_))) <;> first | exact aq | skip
  all_goals first | exact HfL_wt _ | skip
theorem mul_M1 (f : Nat → Int) (ws : List Nat) (w n : Nat) (hn : n = ws.length) (hn2 : n ≤ 100000) (hws : WOk ws) (hw : w < 18446744073709551616) (m : List Nat) (c : Nat) (hm : m = (mulS w ws n).1) (hc : c = (mulS w ws n).2) (hc0 : c ≠ 0) :
    CallSpec Pg g0 (.fn 112 [.ptr 1 0]) [u6 (w : Int)] (ofOs .e 0 [.row 41 none (arF f), .row 162 none [.sl 2 0 n none], .row 170 (some 1) (wt ws)]) 3 ⟨.tup [], ofOs .e 0 [.row 41 none (arF f), .row 162 none [.sl 3 0 (n + 1) none], .dead, .row 170 (some 1) (wt m ++ [u6 (c : Int)])], 4, [2, 1]⟩ := by
  refine CallSpec.caps ?_
  have l := mulM_loop f ws w n hn hn2 hws hw
  have hml := mulS_len w ws n
  rw [← hm] at hml
  rw [← hm, ← hc] at l
  have hwl := wt_len m
  refine CallSpec.of_vcH (os0 := [.row 41 none (arF f), .row 162 none [.sl 2 0 n none], .row 170 (some 1) (wt ws)]) vN_ok mixed sp0_ok (n := 1000) (r := [4]) (S := { sl := [], os := [.row 41 none (arF f), .row 162 none [.sl 3 0 (n + 1) none], .dead, .row 170 (some 1) (wt m ++ [u6 (c : Int)])], lg := [2, 1], md := [0, 1, 0, 0] }) (hs := [(0, .loop [] (acS f w n (0, ws, 0)) [(True, .exit 0, acX f w n m c)]), yes 38, ap 42]) (by simp) (fun i hi hn => ?_) ?_
  · have : i = 0 := by
      rcases os3 hi hn with h | h
      · exact h
      · exact absurd (by rw [h]; simp) hn
    subst this; rfl
  clear hm hc
  have hf : HfL (wt m ++ [u6 (c : Int)]) := by have := HfL_wt (m ++ [c]); rwa [wt_app] at this
  refine Eq.mp (by kernel_rfl : (V.tup [] = V.tup [] ∧ (((↑w : Int) = (↑w : Int) ∧ 0 = 0 ∧ (↑(0 : Nat) : Int) = (0 : Int) ∧ (0 = 0 ∧ n = n ∧ True) ∧ (↑n : Int) = (↑n : Int) ∧ (↑(0 : Nat) : Int) = (0 : Int) ∧ True) ∧ (arF f = arF f ∧ True ∧ True ∧ True ∧ True ∧ True ∧ True ∧ True ∧ True ∧ True ∧ True ∧ True ∧ True ∧ True ∧ True ∧ True ∧ True ∧ True ∧ True ∧ True) ∧ ((0 = 0 ∧ n = n ∧ True) ∧ True) ∧ (wt ws = wt ws ∧ HfL (wt ws)) ∧ True) ∧ Sat Tryd.prog none 3 (at' 112 [1, 0, 1, 0]) (mkSt g0 43 (acS f w n (0, ws, 0))) (outsP g0 43 [(True, Ex.exit 0, acX f w n m c)]) ∧ (True → ((↑c : Int) != (0 : Int)) = true ∧ List.length (wt m) = n * 1 ∧ n + 1 ≤ 9223372036854775807 ∧ (n + 1) * 8 ≤ 140737488355328 ∧ True ∧ (arF f = arF f ∧ True ∧ True ∧ True ∧ True ∧ True ∧ True ∧ True ∧ True ∧ True ∧ True ∧ True ∧ True ∧ True ∧ True ∧ True ∧ True ∧ True ∧ True ∧ True) ∧ ((0 = 0 ∧ n + 1 = n + 1 ∧ True) ∧ True) ∧ True ∧ (wt m ++ [u6 (↑c : Int)] = wt m ++ [u6 (↑c : Int)] ∧ HfL (wt m ++ [u6 (↑c : Int)])) ∧ True) ∧ True) = _) ?_
  (repeat' (first | (with_reducible apply And.intro) | (refine fun (_ : True) => ?_))) <;> first | exact aq | skip
  all_goals first | exact HfL_wt _ | skip
end Go.Proofs.YtglpoiaedkoecaaDoor.Am
