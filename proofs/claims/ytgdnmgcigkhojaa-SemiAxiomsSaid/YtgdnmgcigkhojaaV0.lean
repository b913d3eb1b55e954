/- The program of this seat as the machine's tables; places in code; lists of numbers as values. -/
import Derived.Test.YtgdnmgcigkhojaaMc
namespace Go.Proofs.Ytgdnmgcigkhojaa.Am
open Go.RowKit

theorem plain : plainFuncs Try.prog = true := by kernel_rfl
theorem mixed : Try.prog.follows .mixedOrders = true := by kernel_rfl
noncomputable def vE : Env := envOf Try.prog noHook noExt
theorem vE_ok : vE.Ok Try.prog := env_ok plain noHook_ok noExt_ok

/-- a place in code -/
def sub : List Nat → Code → Code
  | [], c => c
  | 0 :: p, .seq a _ => sub p a
  | _ :: p, .seq _ b => sub p b
  | 0 :: p, .cond _ a _ => sub p a
  | _ :: p, .cond _ _ b => sub p b
  | _ :: p, .block _ b => sub p b
  | _ :: p, .loop b => sub p b
  | _ :: p, .scope b => sub p b
  | _ :: _, c => c
noncomputable def bodyOf (f : Nat) : Code := match codeOf Try.prog f with | some fi => fi.body | none => .skip
noncomputable def at' (f : Nat) (p : List Nat) : Code := sub p (bodyOf f)

abbrev i6 (n : Int) : V := .int .i64 n
/-- a list of numbers, as values -/
def ints (l : List Int) : List V := l.map (V.int .i64)
/-- a slice of numbers that nobody writes -/
abbrev sl (l : List Int) : V := .im l.length (ints l)

theorem ints_length (l : List Int) : (ints l).length = l.length := by simp [ints]
theorem ints_drop (l : List Int) (k : Nat) : (ints l).drop k = ints (l.drop k) := by simp [ints]
theorem head_ints {l : List Int} {k : Nat} (h : k < l.length) : headF ((ints l).drop k) = some (i6 l[k]) := by
  rw [ints_drop, List.drop_eq_getElem_cons h]; rfl
theorem HfL_ints (l : List Int) : HfL (ints l) := by
  induction l with
  | nil => trivial
  | cons x l ih => exact ⟨trivial, ih⟩
abbrev yes (d : Nat) : Nat × Hint := (d, .bool true)
abbrev no (d : Nat) : Nat × Hint := (d, .bool false)
abbrev pl (d : Nat) : Nat × Hint := (d, .at_)
abbrev ld (d : Nat) (v : V) : Nat × Hint := (d, .ld v)
abbrev nu (d : Nat) (n : Int) : Nat × Hint := (d, .num n)
abbrev va (d : Nat) (v : V) : Nat × Hint := (d, .val v)
abbrev ap (d : Nat) : Nat × Hint := (d, .app)
abbrev mk (d : Nat) : Nat × Hint := (d, .mk)
abbrev st (c : List V) : Nat × Hint := (999999, .st c)
abbrev fn (d : Nat) (v : V) : Nat × Hint := (d, .fn v)
abbrev lp (S : SL) (e : Ex) (S' : SL) : Nat × Hint := (0, .loop [] S [(True, e, S')])
noncomputable def sp0 : SpecT := fun _ _ => none
theorem sp0_ok {gl : T (List V)} : SpecOk Try.prog gl sp0 := fun _ _ _ _ h => by cases h
theorem wr6 {n : Int} (h1 : -9223372036854775808 ≤ n) (h2 : n ≤ 9223372036854775807) : wr .i64 n = n := wr_in h1 h2

theorem wr6' {n m : Int} (h1 : -9223372036854775808 ≤ n) (h2 : n ≤ 9223372036854775807) (h : n = m) : wr .i64 n = m := by rw [wr6 h1 h2, h]
theorem head_ints1 {l : List Int} {k : Nat} (h : k < l.length) : headF ((ints l).drop (k * 1)) = some (i6 l[k]) := by rw [Nat.mul_one]; exact head_ints h

theorem head_intsD {l : List Int} {k : Nat} (h : k < l.length) : headF ((ints l).drop (k * 1)) = some (i6 (l.getD k 0)) := by
  rw [head_ints1 h, List.getD_eq_getElem?_getD, List.getElem?_eq_getElem h]; rfl
theorem rem6 {G : Ctx} {t : Nat} {x y : Int} (h : y ≠ 0) : binV G .rem t (i6 x) (i6 y) = some (i6 (x.tmod y)) := by simp [binV, intV, h]
theorem quo6 {G : Ctx} {t : Nat} {x y : Int} (h : y ≠ 0) (h1 : -9223372036854775808 ≤ x.tdiv y) (h2 : x.tdiv y ≤ 9223372036854775807) : binV G .quo t (i6 x) (i6 y) = some (i6 (x.tdiv y)) := by simp [binV, intV, h, wr6 h1 h2]
theorem rep_ints (n : Nat) (x : Int) : rep n [i6 x] = ints (List.replicate n x) := by
  induction n with
  | zero => rfl
  | succ n ih => rw [rep, ih, List.replicate_succ]; rfl
theorem lay_ints {l : List Int} {j : Nat} {x : Int} (h : j < l.length) : layE (0 + j * 1) (ints l) [i6 x] = some (ints (l.set j x)) := by
  rw [Nat.zero_add, Nat.mul_one, layE_eq', ints_length]
  have : Nat.ble (j + [i6 x].length) l.length = true := Nat.ble_eq_true_of_le (by simp; omega)
  rw [this, cond_true]
  congr 1
  rw [List.set_eq_take_append_cons_drop, if_pos h]
  simp [ints, List.map_take, List.map_drop]
theorem bne_false {x y : Int} (h : x = y) : (x != y) = false := by simp [h]
theorem bne_true {x y : Int} (h : x ≠ y) : (x != y) = true := by simp [h]
theorem beq_false' {x y : Int} (h : x ≠ y) : (x == y) = false := by simp [h]
theorem beq_true' {x y : Int} (h : x = y) : (x == y) = true := by simp [h]

/-- the same for one fact; what it does not close is left -/
theorem aq {P : Prop} (h : P := by
  first | with_reducible (first | rfl | exact trivial | assumption | (refine decide_eq_true ?_ <;> omega) | (refine decide_eq_false ?_ <;> omega) | (refine head_ints1 ?_ <;> omega) | (refine bne_false ?_ <;> omega) | (refine bne_true ?_ <;> omega) | (refine beq_false' ?_ <;> omega) | (refine beq_true' ?_ <;> omega) | (refine wr6' ?_ ?_ ?_ <;> omega) | (refine rem6 ?_ <;> omega) | (refine quo6 ?_ ?_ ?_ <;> omega) | exact HfL_ints _ | omega) | ((with_reducible show (_ : V) = _); rfl) | (intro hk_; exfalso; revert hk_; simp; done) | (intros; simp_all; done) | (split <;> omega) | ((with_reducible show decide _ = true); exact decide_eq_true (by omega)) | ((with_reducible show decide _ = false); exact decide_eq_false (by omega))) : P := h

end Go.Proofs.Ytgdnmgcigkhojaa.Am
