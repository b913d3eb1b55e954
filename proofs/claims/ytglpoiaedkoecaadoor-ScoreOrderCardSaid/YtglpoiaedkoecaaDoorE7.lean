/- Chapters 25, 28: whether data are valid and whole: score.checkWhole, and the reference's Right, Complete, Whole, Good. -/
import Derived.Test.YtglpoiaedkoecaaDoorE6
namespace Go.Proofs.YtglpoiaedkoecaaDoor.Am
open Go.RowKit
set_option linter.unusedVariables false
set_option maxHeartbeats 1000000
set_option maxRecDepth 100000

def negB (c : List Int) : Bool := c.any fun x => decide (x < 0)
def goodE (cards : List Int) (cs : List (List Int)) : Int := if okAll cards cs then (if cs.any negB then 260 else 0) else 250
theorem any_take_f {α : Type} {l : List α} {k : Nat} {x : α} {p : α → Bool} (hx : l[k]? = some x) (h : (l.take k).any p = false) (hp : p x = false) : (l.take (k + 1)).any p = false := by
  rw [List.take_add_one, hx, List.any_append, h]; simp [hp]
theorem any_mem_t {α : Type} {l : List α} {k : Nat} {x : α} {p : α → Bool} (hx : l[k]? = some x) (hp : p x = true) : l.any p = true :=
  List.any_eq_true.2 ⟨x, List.mem_of_getElem? hx, hp⟩

/-! ### score.checkWhole -/
abbrev wrS (cs : List (List Int)) (i : Nat) (c : List Int) (j : Nat) : SL := { sl := [(14, gC cs), (15, i6 cs.length), (16, i6 i), (20, sl c), (21, i6 c.length), (22, i6 j)] }
abbrev wrB (cs : List (List Int)) (i : Nat) : SL := { sl := [(14, gC cs), (15, i6 cs.length), (16, i6 i)] }
theorem cw_row (cs : List (List Int)) (i : Nat) (c : List Int) (hl : c.length ≤ 1000) :
    Sat Pg none 0 (at' 72 [1, 1, 0, 1, 0, 0, 1, 1, 0, 0, 1, 1, 0]) (mkSt g0 30 (wrS cs i c 0)) (outsP g0 30 [(negB c = false, .exit 2, wrB cs i), (negB c = true, .ret, ckR 260)]) := by
  refine loopC vE_ok mixed sp0_ok (b := at' 72 [1, 1, 0, 1, 0, 0, 1, 1, 0, 0, 1, 1, 0, 0]) (by kernel_rfl) (fun k => k ≤ c.length ∧ (c.take k).any (fun x => decide (x < 0)) = false) (wrS cs i c) (fun k => c.length - k) (fun k hk => ?_) 0 ⟨Nat.zero_le _, rfl⟩
  obtain ⟨hk, hj⟩ := hk
  by_cases hlt : k < c.length
  · have hld := @head_intsD c k hlt
    have hck : c[k]? = some (c.getD k 0) := by rw [List.getD_eq_getElem?_getD, List.getElem?_eq_getElem hlt]; rfl
    by_cases h1 : c.getD k 0 < 0
    · have hb : negB c = true := any_mem_t hck (decide_eq_true h1)
      refine .inr ⟨.ret, [], ckR 260, [yes 23, pl 24, ld 25 (i6 (c.getD k 0)), yes 27], 1000, .inr (.inl ⟨hb, rfl, rfl⟩), ?_⟩
      refine Eq.mp (by kernel_rfl : (decide ((↑k : Int) < (↑(List.length c) : Int)) = true ∧ ((0 : Int) ≤ (↑k : Int) ∧ (↑k : Int) < (↑(List.length c) : Int)) ∧ headF (List.drop (k * 1) (ints c)) = some (i6 (List.getD c k (0 : Int))) ∧ decide (List.getD c k (0 : Int) < (0 : Int)) = true ∧ ((260 : Int) = (260 : Int) ∧ True) ∧ True) = _) ?_
      exact au
    · have hg := any_take_f hck hj (decide_eq_false h1)
      refine .inl ⟨k + 1, [], [yes 23, pl 24, ld 25 (i6 (c.getD k 0)), no 27, nu 28 (k + 1 : Nat)], 1000, ⟨hlt, hg⟩, by omega, ?_⟩
      refine Eq.mp (by kernel_rfl : (decide ((↑k : Int) < (↑(List.length c) : Int)) = true ∧ ((0 : Int) ≤ (↑k : Int) ∧ (↑k : Int) < (↑(List.length c) : Int)) ∧ headF (List.drop (k * 1) (ints c)) = some (i6 (List.getD c k (0 : Int))) ∧ decide (List.getD c k (0 : Int) < (0 : Int)) = false ∧ wr IntKind.i64 ((↑k : Int) + (1 : Int)) = (↑(k + 1) : Int) ∧ ((List.length cs = List.length cs ∧ List.map sl cs = List.map sl cs) ∧ (↑(List.length cs) : Int) = (↑(List.length cs) : Int) ∧ (↑i : Int) = (↑i : Int) ∧ (List.length c = List.length c ∧ ints c = ints c) ∧ (↑(List.length c) : Int) = (↑(List.length c) : Int) ∧ (↑(k + 1) : Int) = (↑(k + 1) : Int) ∧ True) ∧ True) = _) ?_
      exact au
  · have : k = c.length := by omega
    subst this
    rw [List.take_length] at hj
    refine .inr ⟨.exit 2, [], wrB cs i, [no 23], 1000, .inl ⟨hj, rfl, rfl⟩, ?_⟩
    refine Eq.mp (by kernel_rfl : (decide ((↑(List.length c) : Int) < (↑(List.length c) : Int)) = false ∧ ((List.length cs = List.length cs ∧ List.map sl cs = List.map sl cs) ∧ (↑(List.length cs) : Int) = (↑(List.length cs) : Int) ∧ (↑i : Int) = (↑i : Int) ∧ True) ∧ True) = _) ?_
    exact au
theorem cw_rows (cs : List (List Int)) (h40 : cs.length ≤ 1000) (hcl : ∀ c ∈ cs, c.length ≤ 1000) :
    Sat Pg none 0 (at' 72 [1, 1, 0, 1, 0]) (mkSt g0 30 (wrB cs 0)) (outsP g0 30 [(cs.any negB = false, .exit 0, {sl := []}), (cs.any negB = true, .ret, ckR 260)]) := by
  refine loopC vE_ok mixed sp0_ok (b := at' 72 [1, 1, 0, 1, 0, 0]) (by kernel_rfl) (fun k => k ≤ cs.length ∧ (cs.take k).any negB = false) (wrB cs) (fun k => cs.length - k) (fun k hk => ?_) 0 ⟨Nat.zero_le _, rfl⟩
  obtain ⟨hk, hj⟩ := hk
  by_cases hlt : k < cs.length
  · have hck : cs[k]? = some cs[k] := List.getElem?_eq_getElem hlt
    have hlc := hcl _ (List.getElem_mem hlt)
    generalize cs[k] = c at *
    have hld : headF ((cs.map sl).drop (k * 1)) = some (sl c) := head_map hck
    have hrow := cw_row cs k c hlc
    cases hok : negB c with
    | false =>
      have hr := hrow.mono (outs2_l hok (by rw [hok]; simp))
      refine .inl ⟨k + 1, [], [yes 17, pl 18, ld 19 (sl c), (0, .loop [] (wrS cs k c 0) [(True, .exit 2, wrB cs k)]), nu 29 (k + 1 : Nat)], 1000, ⟨hlt, any_take_f hck hj hok⟩, by omega, ?_⟩
      refine Eq.mp (by kernel_rfl : (decide ((↑k : Int) < (↑(List.length cs) : Int)) = true ∧ ((0 : Int) ≤ (↑k : Int) ∧ (↑k : Int) < (↑(List.length cs) : Int)) ∧ headF (List.drop (k * 1) (List.map sl cs)) = some (sl c) ∧ (((List.length cs = List.length cs ∧ List.map sl cs = List.map sl cs) ∧ (↑(List.length cs) : Int) = (↑(List.length cs) : Int) ∧ (↑k : Int) = (↑k : Int) ∧ (List.length c = List.length c ∧ ints c = ints c) ∧ (↑(List.length c) : Int) = (↑(List.length c) : Int) ∧ (↑(0 : Nat) : Int) = (0 : Int) ∧ True) ∧ True) ∧ Sat Tryd.prog none 0 (at' 72 [1, 1, 0, 1, 0, 0, 1, 1, 0, 0, 1, 1, 0]) (mkSt g0 30 (wrS cs k c 0)) (outsP g0 30 [(True, Ex.exit 2, wrB cs k)]) ∧ (True → wr IntKind.i64 ((↑k : Int) + (1 : Int)) = (↑(k + 1) : Int) ∧ ((List.length cs = List.length cs ∧ List.map sl cs = List.map sl cs) ∧ (↑(List.length cs) : Int) = (↑(List.length cs) : Int) ∧ (↑(k + 1) : Int) = (↑(k + 1) : Int) ∧ True) ∧ True) ∧ True) = _) ?_
      exact au
    | true =>
      have hr := hrow.mono (outs2_r (by rw [hok]; simp) hok)
      refine .inr ⟨.ret, [], ckR 260, [yes 17, pl 18, ld 19 (sl c), (0, .loop [] (wrS cs k c 0) [(True, .ret, ckR 260)])], 1000, .inr (.inl ⟨any_mem_t hck hok, rfl, rfl⟩), ?_⟩
      refine Eq.mp (by kernel_rfl : (decide ((↑k : Int) < (↑(List.length cs) : Int)) = true ∧ ((0 : Int) ≤ (↑k : Int) ∧ (↑k : Int) < (↑(List.length cs) : Int)) ∧ headF (List.drop (k * 1) (List.map sl cs)) = some (sl c) ∧ (((List.length cs = List.length cs ∧ List.map sl cs = List.map sl cs) ∧ (↑(List.length cs) : Int) = (↑(List.length cs) : Int) ∧ (↑k : Int) = (↑k : Int) ∧ (List.length c = List.length c ∧ ints c = ints c) ∧ (↑(List.length c) : Int) = (↑(List.length c) : Int) ∧ (↑(0 : Nat) : Int) = (0 : Int) ∧ True) ∧ True) ∧ Sat Tryd.prog none 0 (at' 72 [1, 1, 0, 1, 0, 0, 1, 1, 0, 0, 1, 1, 0]) (mkSt g0 30 (wrS cs k c 0)) (outsP g0 30 [(True, Ex.ret, ckR (260 : Int))]) ∧ (True → ((260 : Int) = (260 : Int) ∧ True) ∧ True) ∧ True) = _) ?_
      exact au
  · have : k = cs.length := by omega
    subst this
    rw [List.take_length] at hj
    refine .inr ⟨.exit 0, [], {sl := []}, [no 17], 1000, .inl ⟨hj, rfl, rfl⟩, ?_⟩
    refine Eq.mp (by kernel_rfl : (decide ((↑(List.length cs) : Int) < (↑(List.length cs) : Int)) = false ∧ True ∧ True) = _) ?_
    exact au
theorem checkWhole_fn (cards : List Int) (cs : List (List Int)) (hl1 : cards.length ≤ 1000) (hl2 : cs.length ≤ 1000) (hcl : ∀ c ∈ cs, c.length ≤ 1000) : FnOk Pg g0 72 [gV cards cs] (i6 (goodE cards cs)) := by
  have hc := check_fn cards cs hl1 hl2
  have hr := cw_rows cs hl2 hcl
  cases hok : okAll cards cs with
  | false =>
    have e1 : chkE cards cs = 250 := by unfold chkE; rw [hok]; rfl
    have e2 : goodE cards cs = 250 := by unfold goodE; rw [hok]; rfl
    rw [e1] at hc
    rw [e2]
    refine FnOk.of_vc vE_ok mixed sp0_ok (n := 1000) (r := []) (S := ckR 250) (hs := [fn 9 (i6 250)]) ?_
    refine Eq.mp (by kernel_rfl : (i6 (250 : Int) = i6 (250 : Int) ∧ ((True ∧ True ∧ True) ∧ True) ∧ FnOk Tryd.prog g0 84 [V.agg [V.im (List.length cards) (ints cards), V.im (List.length cs) (List.map sl cs)]] (i6 (250 : Int)) ∧ True ∧ ((250 : Int) = (250 : Int) ∧ True) ∧ True) = _) ?_
    exact au
  | true =>
    have e1 : chkE cards cs = 0 := by unfold chkE; rw [hok]; rfl
    rw [e1] at hc
    cases hn : cs.any negB with
    | false =>
      have e2 : goodE cards cs = 0 := by unfold goodE; rw [hok, hn]; rfl
      rw [e2]
      have hr := hr.mono (outs2_l hn (by rw [hn]; simp))
      refine FnOk.of_vc vE_ok mixed sp0_ok (n := 1000) (r := []) (S := ckR 0) (hs := [fn 9 (i6 0), (0, .loop [] (wrB cs 0) [(True, .exit 0, {sl := []})])]) ?_
      refine Eq.mp (by kernel_rfl : (i6 (0 : Int) = i6 (0 : Int) ∧ ((True ∧ True ∧ True) ∧ True) ∧ FnOk Tryd.prog g0 84 [V.agg [V.im (List.length cards) (ints cards), V.im (List.length cs) (List.map sl cs)]] (i6 (0 : Int)) ∧ True ∧ (((List.length cs = List.length cs ∧ List.map sl cs = List.map sl cs) ∧ (↑(List.length cs) : Int) = (↑(List.length cs) : Int) ∧ (↑(0 : Nat) : Int) = (0 : Int) ∧ True) ∧ True) ∧ Sat Tryd.prog none 0 (at' 72 [1, 1, 0, 1, 0]) (mkSt g0 30 (wrB cs 0)) (outsP g0 30 [(True, Ex.exit 0, SL.mk [] [] [] [])]) ∧ (True → ((0 : Int) = (0 : Int) ∧ True) ∧ True) ∧ True) = _) ?_
      exact au
    | true =>
      have e2 : goodE cards cs = 260 := by unfold goodE; rw [hok, hn]; rfl
      rw [e2]
      have hr := hr.mono (outs2_r (by rw [hn]; simp) hn)
      refine FnOk.of_vc vE_ok mixed sp0_ok (n := 1000) (r := []) (S := ckR 260) (hs := [fn 9 (i6 0), (0, .loop [] (wrB cs 0) [(True, .ret, ckR 260)])]) ?_
      refine Eq.mp (by kernel_rfl : (i6 (260 : Int) = i6 (260 : Int) ∧ ((True ∧ True ∧ True) ∧ True) ∧ FnOk Tryd.prog g0 84 [V.agg [V.im (List.length cards) (ints cards), V.im (List.length cs) (List.map sl cs)]] (i6 (0 : Int)) ∧ True ∧ (((List.length cs = List.length cs ∧ List.map sl cs = List.map sl cs) ∧ (↑(List.length cs) : Int) = (↑(List.length cs) : Int) ∧ (↑(0 : Nat) : Int) = (0 : Int) ∧ True) ∧ True) ∧ Sat Tryd.prog none 0 (at' 72 [1, 1, 0, 1, 0]) (mkSt g0 30 (wrB cs 0)) (outsP g0 30 [(True, Ex.ret, ckR (260 : Int))]) ∧ (True → ((260 : Int) = (260 : Int) ∧ True) ∧ True) ∧ True) = _) ?_
      exact au

/-! ### the reference: whole, Complete, Whole -/
abbrev whS (c : List Int) (k : Nat) : SL := { sl := [(0, sl c), (3, i6 k)] }
abbrev bR (b : Bool) : SL := { sl := [(2, .bool b)] }
theorem wh_loop (c : List Int) (hl : c.length ≤ 1000) :
    Sat Pg none 0 (at' 116 [1, 0, 1, 0]) (mkSt g0 15 (whS c 0)) (outsP g0 15 [(negB c = false, .exit 0, {sl := []}), (negB c = true, .ret, bR false)]) := by
  refine loopC vE_ok mixed sp0_ok (b := at' 116 [1, 0, 1, 0, 0]) (by kernel_rfl) (fun k => k ≤ c.length ∧ (c.take k).any (fun x => decide (x < 0)) = false) (whS c) (fun k => c.length - k) (fun k hk => ?_) 0 ⟨Nat.zero_le _, rfl⟩
  obtain ⟨hk, hj⟩ := hk
  by_cases hlt : k < c.length
  · have hld := @head_intsD c k hlt
    have hck : c[k]? = some (c.getD k 0) := by rw [List.getD_eq_getElem?_getD, List.getElem?_eq_getElem hlt]; rfl
    by_cases h1 : c.getD k 0 < 0
    · have hb : negB c = true := any_mem_t hck (decide_eq_true h1)
      refine .inr ⟨.ret, [], bR false, [yes 7, pl 12, ld 13 (i6 (c.getD k 0)), yes 14], 1000, .inr (.inl ⟨hb, rfl, rfl⟩), ?_⟩
      refine Eq.mp (by kernel_rfl : (decide ((↑k : Int) < (↑(List.length c) : Int)) = true ∧ ((0 : Int) ≤ (↑k : Int) ∧ (↑k : Int) < (↑(List.length c) : Int)) ∧ headF (List.drop (k * 1) (ints c)) = some (i6 (List.getD c k (0 : Int))) ∧ decide (List.getD c k (0 : Int) < (0 : Int)) = true ∧ (false = false ∧ True) ∧ True) = _) ?_
      exact au
    · have hg := any_take_f hck hj (decide_eq_false h1)
      refine .inl ⟨k + 1, [], [yes 7, pl 12, ld 13 (i6 (c.getD k 0)), no 14, nu 9 (k + 1 : Nat)], 1000, ⟨hlt, hg⟩, by omega, ?_⟩
      refine Eq.mp (by kernel_rfl : (decide ((↑k : Int) < (↑(List.length c) : Int)) = true ∧ ((0 : Int) ≤ (↑k : Int) ∧ (↑k : Int) < (↑(List.length c) : Int)) ∧ headF (List.drop (k * 1) (ints c)) = some (i6 (List.getD c k (0 : Int))) ∧ decide (List.getD c k (0 : Int) < (0 : Int)) = false ∧ wr IntKind.i64 ((↑k : Int) + (1 : Int)) = (↑(k + 1) : Int) ∧ ((List.length c = List.length c ∧ ints c = ints c) ∧ (↑(k + 1) : Int) = (↑(k + 1) : Int) ∧ True) ∧ True) = _) ?_
      exact au
  · have : k = c.length := by omega
    subst this
    rw [List.take_length] at hj
    refine .inr ⟨.exit 0, [], {sl := []}, [no 7], 1000, .inl ⟨hj, rfl, rfl⟩, ?_⟩
    refine Eq.mp (by kernel_rfl : (decide ((↑(List.length c) : Int) < (↑(List.length c) : Int)) = false ∧ True ∧ True) = _) ?_
    exact au
theorem whole_fn (c : List Int) (hl : c.length ≤ 1000) : FnOk Pg g0 116 [sl c] (.bool (!negB c)) := by
  have hr := wh_loop c hl
  cases hn : negB c with
  | false =>
    have hr := hr.mono (outs2_l hn (by rw [hn]; simp))
    refine FnOk.of_vc vE_ok mixed sp0_ok (n := 1000) (r := []) (S := bR true) (hs := [(0, .loop [] (whS c 0) [(True, .exit 0, {sl := []})])]) ?_
    refine Eq.mp (by kernel_rfl : (V.bool true = V.bool !false ∧ (((List.length c = List.length c ∧ ints c = ints c) ∧ (↑(0 : Nat) : Int) = (0 : Int) ∧ True) ∧ True) ∧ Sat Tryd.prog none 0 (at' 116 [1, 0, 1, 0]) (mkSt g0 15 (whS c 0)) (outsP g0 15 [(True, Ex.exit 0, SL.mk [] [] [] [])]) ∧ (True → (true = true ∧ True) ∧ True) ∧ True) = _) ?_
    exact au
  | true =>
    have hr := hr.mono (outs2_r (by rw [hn]; simp) hn)
    refine FnOk.of_vc vE_ok mixed sp0_ok (n := 1000) (r := []) (S := bR false) (hs := [(0, .loop [] (whS c 0) [(True, .ret, bR false)])]) ?_
    refine Eq.mp (by kernel_rfl : (V.bool false = V.bool !true ∧ (((List.length c = List.length c ∧ ints c = ints c) ∧ (↑(0 : Nat) : Int) = (0 : Int) ∧ True) ∧ True) ∧ Sat Tryd.prog none 0 (at' 116 [1, 0, 1, 0]) (mkSt g0 15 (whS c 0)) (outsP g0 15 [(True, Ex.ret, bR false)]) ∧ (True → (false = false ∧ True) ∧ True) ∧ True) = _) ?_
    exact au

/-- a list of our own that has been appended to -/
def owV (h : Nat) : Nat → V
  | 0 => .nils
  | n + 1 => .sl h 0 (n + 1) none
def owL (t : Nat) (l : List V) : Nat → List O
  | 0 => []
  | _ + 1 => [.row t (some 1) l]
abbrev cpS (cards : List Int) (cs : List (List Int)) (q : Nat × Nat × List (List Int)) : SL := { sl := [(1, .ptr 0 0), (2, .ptr 1 0), (3, .ptr 2 0), (4, i6 q.1)], os := gO cards cs :: .row 32 none [.nils, .nils] :: .row 32 none [sl cards, owV 3 q.2.1] :: owL 29 (q.2.2.map sl) q.2.1, md := [0, 0, 1] }
abbrev cpX (cards : List Int) (m : Nat) (l : List (List Int)) : SL := { sl := [(2, .ptr 0 0), (3, .ptr 1 0)], os := .row 32 none [.nils, .nils] :: .row 32 none [sl cards, owV 2 m] :: owL 29 (l.map sl) m, md := [0, 1] }
def comp (cs : List (List Int)) : List (List Int) := cs.filter fun c => !negB c
theorem comp_next {cs : List (List Int)} {k : Nat} {c : List Int} (h : cs[k]? = some c) : comp (cs.take (k + 1)) = comp (cs.take k) ++ if negB c then [] else [c] := by
  unfold comp
  rw [List.take_add_one, h, List.filter_append]
  cases hn : negB c <;> simp [hn]
theorem cp_loop (cards : List Int) (cs : List (List Int)) (h40 : cs.length ≤ 1000) (hcl : ∀ c ∈ cs, c.length ≤ 1000) (l : List (List Int)) (hl : l = comp cs) (m : Nat) (hm : m = l.length) :
    Sat Pg none 0 (at' 102 [1, 1, 0, 1, 0]) (mkSt g0 32 (cpS cards cs (0, 0, []))) (outsP g0 32 [(True, .exit 0, cpX cards m l)]) := by
  refine loopC vE_ok mixed sp0_ok (b := at' 102 [1, 1, 0, 1, 0, 0]) (by kernel_rfl) (fun q => q.1 ≤ cs.length ∧ q.2.2 = comp (cs.take q.1) ∧ q.2.2.length = q.2.1) (cpS cards cs) (fun q => cs.length - q.1) (fun q hq => ?_) (0, 0, []) ⟨Nat.zero_le _, rfl, rfl⟩
  obtain ⟨k, u, a⟩ := q
  obtain ⟨hk, ha, hu⟩ := hq
  dsimp only at hk ha hu
  have hle : a.length ≤ k := by
    rw [ha]; unfold comp
    exact Nat.le_trans (List.length_filter_le _ _) (by rw [List.length_take]; omega)
  by_cases hlt : k < cs.length
  · have hck : cs[k]? = some cs[k] := List.getElem?_eq_getElem hlt
    have hlc := hcl _ (List.getElem_mem hlt)
    generalize cs[k] = c at *
    have hld : headF ((cs.map sl).drop (k * 1)) = some (sl c) := head_map hck
    have hnx := comp_next hck
    have hwh := whole_fn c hlc
    rw [← ha] at hnx
    cases hn : negB c with
    | true =>
      rw [hn] at hwh
      have hnx2 : a = comp (cs.take (k + 1)) := by rw [hnx, hn]; simp
      cases u with
      | zero =>
        have : a = [] := List.eq_nil_of_length_eq_zero hu
        subst this
        refine .inl ⟨(k + 1, 0, []), [0, 1, 2], [yes 12, pl 18, ld 19 (sl c), fn 20 (.bool false), nu 14 (k + 1 : Nat)], 1000, ⟨hlt, hnx2, rfl⟩, by dsimp only; omega, ?_⟩
        clear ha hnx hnx2
        refine Eq.mp (by kernel_rfl : (decide ((↑k : Int) < (↑(List.length cs) : Int)) = true ∧ ((0 : Int) ≤ (↑k : Int) ∧ (↑k : Int) < (↑(List.length cs) : Int)) ∧ headF (List.drop (k * 1) (List.map sl cs)) = some (sl c) ∧ (True ∧ True) ∧ FnOk Tryd.prog g0 116 [V.im (List.length c) (ints c)] (V.bool false) ∧ True ∧ wr IntKind.i64 ((↑k : Int) + (1 : Int)) = (↑(k + 1) : Int) ∧ (0 = 0 ∧ 0 = 0 ∧ 0 = 0 ∧ (↑(k + 1) : Int) = (↑(k + 1) : Int) ∧ True) ∧ ([sl cards, gC cs] = [sl cards, gC cs] ∧ True ∧ True ∧ True) ∧ ([V.nils, V.nils] = [V.nils, V.nils] ∧ True ∧ True ∧ True) ∧ ((List.length cards = List.length cards ∧ ints cards = ints cards) ∧ True ∧ True) ∧ True) = _) ?_
        exact au
      | succ u =>
        refine .inl ⟨(k + 1, u + 1, a), [0, 1, 2, 3], [yes 12, pl 18, ld 19 (sl c), fn 20 (.bool false), nu 14 (k + 1 : Nat)], 1000, ⟨hlt, hnx2, hu⟩, by dsimp only; omega, ?_⟩
        clear ha hnx hnx2
        refine Eq.mp (by kernel_rfl : (decide ((↑k : Int) < (↑(List.length cs) : Int)) = true ∧ ((0 : Int) ≤ (↑k : Int) ∧ (↑k : Int) < (↑(List.length cs) : Int)) ∧ headF (List.drop (k * 1) (List.map sl cs)) = some (sl c) ∧ (True ∧ True) ∧ FnOk Tryd.prog g0 116 [V.im (List.length c) (ints c)] (V.bool false) ∧ True ∧ wr IntKind.i64 ((↑k : Int) + (1 : Int)) = (↑(k + 1) : Int) ∧ (0 = 0 ∧ 0 = 0 ∧ 0 = 0 ∧ (↑(k + 1) : Int) = (↑(k + 1) : Int) ∧ True) ∧ ([sl cards, gC cs] = [sl cards, gC cs] ∧ True ∧ True ∧ True) ∧ ([V.nils, V.nils] = [V.nils, V.nils] ∧ True ∧ True ∧ True) ∧ ((List.length cards = List.length cards ∧ ints cards = ints cards) ∧ (0 = 0 ∧ u + 1 = u + 1 ∧ True) ∧ True) ∧ (List.map sl a = List.map sl a ∧ HfL (List.map sl a)) ∧ True) = _) ?_
        exact au
    | false =>
      rw [hn] at hwh
      have hnx2 : a ++ [c] = comp (cs.take (k + 1)) := by rw [hnx, hn]; simp
      cases u with
      | zero =>
        have : a = [] := List.eq_nil_of_length_eq_zero hu
        subst this
        refine .inl ⟨(k + 1, 1, [c]), [0, 1, 2, 4], [yes 12, pl 18, ld 19 (sl c), fn 20 (.bool true), pl 26, ld 27 (sl c), nu 14 (k + 1 : Nat)], 1000, ⟨hlt, hnx2, rfl⟩, by dsimp only; omega, ?_⟩
        clear ha hnx hnx2
        refine Eq.mp (by kernel_rfl : (decide ((↑k : Int) < (↑(List.length cs) : Int)) = true ∧ ((0 : Int) ≤ (↑k : Int) ∧ (↑k : Int) < (↑(List.length cs) : Int)) ∧ headF (List.drop (k * 1) (List.map sl cs)) = some (sl c) ∧ (True ∧ True) ∧ FnOk Tryd.prog g0 116 [V.im (List.length c) (ints c)] (V.bool true) ∧ True ∧ ((0 : Int) ≤ (↑k : Int) ∧ (↑k : Int) < (↑(List.length cs) : Int)) ∧ headF (List.drop (k * 1) (List.map sl cs)) = some (sl c) ∧ wr IntKind.i64 ((↑k : Int) + (1 : Int)) = (↑(k + 1) : Int) ∧ (0 = 0 ∧ 0 = 0 ∧ 0 = 0 ∧ (↑(k + 1) : Int) = (↑(k + 1) : Int) ∧ True) ∧ ([sl cards, gC cs] = [sl cards, gC cs] ∧ True ∧ True ∧ True) ∧ ([V.nils, V.nils] = [V.nils, V.nils] ∧ True ∧ True ∧ True) ∧ ((List.length cards = List.length cards ∧ ints cards = ints cards) ∧ (0 = 0 ∧ 0 + 1 = 1 ∧ True) ∧ True) ∧ (List.map sl [c] = [sl c] ∧ True ∧ True) ∧ True) = _) ?_
        exact au
      | succ u =>
        refine .inl ⟨(k + 1, u + 1 + 1, a ++ [c]), [0, 1, 2, 5], [yes 12, pl 18, ld 19 (sl c), fn 20 (.bool true), pl 26, ld 27 (sl c), ap 29, nu 14 (k + 1 : Nat)], 1000, ⟨hlt, hnx2, by simp [hu]⟩, by dsimp only; omega, ?_⟩
        clear ha hnx hnx2
        refine Eq.mp (by kernel_rfl : (decide ((↑k : Int) < (↑(List.length cs) : Int)) = true ∧ ((0 : Int) ≤ (↑k : Int) ∧ (↑k : Int) < (↑(List.length cs) : Int)) ∧ headF (List.drop (k * 1) (List.map sl cs)) = some (sl c) ∧ (True ∧ True) ∧ FnOk Tryd.prog g0 116 [V.im (List.length c) (ints c)] (V.bool true) ∧ True ∧ ((0 : Int) ≤ (↑k : Int) ∧ (↑k : Int) < (↑(List.length cs) : Int)) ∧ headF (List.drop (k * 1) (List.map sl cs)) = some (sl c) ∧ List.length (List.map sl a) = (u + 1) * 1 ∧ u + 1 + 1 ≤ 9223372036854775807 ∧ (u + 1 + 1) * 24 ≤ 140737488355328 ∧ wr IntKind.i64 ((↑k : Int) + (1 : Int)) = (↑(k + 1) : Int) ∧ (0 = 0 ∧ 0 = 0 ∧ 0 = 0 ∧ (↑(k + 1) : Int) = (↑(k + 1) : Int) ∧ True) ∧ ([sl cards, gC cs] = [sl cards, gC cs] ∧ True ∧ True ∧ True) ∧ ([V.nils, V.nils] = [V.nils, V.nils] ∧ True ∧ True ∧ True) ∧ ((List.length cards = List.length cards ∧ ints cards = ints cards) ∧ (0 = 0 ∧ Nat.succ u + 1 = u + 1 + 1 ∧ True) ∧ True) ∧ (List.map sl (a ++ [c]) = List.map sl a ++ [sl c] ∧ HfL (List.map sl (a ++ [c]))) ∧ True) = _) ?_
        exact au
  · have : k = cs.length := by omega
    subst this
    rw [List.take_length] at ha
    obtain rfl : a = l := ha.trans hl.symm
    obtain rfl : u = m := hu.symm.trans hm.symm
    cases u with
    | zero =>
      have : a = [] := List.eq_nil_of_length_eq_zero hu
      subst this
      refine .inr ⟨.exit 0, [1, 2], cpX cards 0 [], [no 12], 1000, .inl ⟨trivial, rfl, rfl⟩, ?_⟩
      refine Eq.mp (by kernel_rfl : (decide ((↑(List.length cs) : Int) < (↑(List.length cs) : Int)) = false ∧ (0 = 0 ∧ 0 = 0 ∧ True) ∧ ([V.nils, V.nils] = [V.nils, V.nils] ∧ True ∧ True ∧ True) ∧ ((List.length cards = List.length cards ∧ ints cards = ints cards) ∧ True ∧ True) ∧ True) = _) ?_
      exact au
    | succ u =>
      refine .inr ⟨.exit 0, [1, 2, 3], cpX cards (u + 1) a, [no 12], 1000, .inl ⟨trivial, rfl, rfl⟩, ?_⟩
      refine Eq.mp (by kernel_rfl : (decide ((↑(List.length cs) : Int) < (↑(List.length cs) : Int)) = false ∧ (0 = 0 ∧ 0 = 0 ∧ True) ∧ ([V.nils, V.nils] = [V.nils, V.nils] ∧ True ∧ True ∧ True) ∧ ((List.length cards = List.length cards ∧ ints cards = ints cards) ∧ (0 = 0 ∧ u + 1 = u + 1 ∧ True) ∧ True) ∧ (List.map sl a = List.map sl a ∧ HfL (List.map sl a)) ∧ True) = _) ?_
      exact au

end Go.Proofs.YtglpoiaedkoecaaDoor.Am
