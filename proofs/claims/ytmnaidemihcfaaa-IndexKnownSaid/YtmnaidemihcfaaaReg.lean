/- A region that draws its order: one walk in the order of the text serves every order, if its effects (calls, stores, new blocks) are a chain, and every read yields the same in all worlds that the effects lead to. -/
import Derived.Test.YtmnaidemihcfaaaKit
import Derived.OrdersIn
import Derived.Still
namespace Go.Proofs.Ytmnaidemihcfaaa
open Go.RowKit

/-- does the operation act on the world, or ask it for more than a cell? -/
def effB (o : Oper) : Bool :=
  match o.op with
  | .move _ | .assign _ | .pick .. | .load .. | .nilCheck _ | .binOp .. | .unOp .. | .convert .. | .field .. | .fieldAddr .. | .indexAddr .. | .index .. | .slice .. | .extract .. | .build .. | .makeFunc .. | .makeInterface .. => false
  | .call c => match c.callee with
    | .builtin .len | .builtin .cap | .builtin .min | .builtin .max => false
    | _ => true
  | _ => true

def plainB (ops : Array Oper) : Bool := ops.all fun o => match o.op with | .select .. | .defer _ => false | _ => true

theorem plainB_spec {ops : Array Oper} (h : plainB ops = true) {j : Nat} {o : Oper} (ho : ops[j]? = some o) : (∀ cs b, o.op ≠ .select cs b) ∧ (∀ c, o.op ≠ .defer c) := by
  have := Array.all_eq_true_iff_forall_mem.1 h o (Array.mem_of_getElem? ho)
  exact ⟨fun cs b e => by simp [e] at this, fun c e => by simp [e] at this⟩

/-- every effect waits for the effect ahead of it in the text -/
def chainFrom (md : Region.Mode) : Option Nat → Nat → List Oper → Bool
  | _, _, [] => true
  | p, k, o :: l => if effB o then (match p with | none => true | some q => o.after.any fun e => Region.binds md e && e.on == q) && chainFrom md (some k) (k + 1) l else chainFrom md p (k + 1) l

/-- the last operation, if it is an effect, waits for all others -/
def lastB (md : Region.Mode) (ops : Array Oper) : Bool :=
  match ops[ops.size - 1]? with
  | none => true
  | some o => !effB o || (List.range (ops.size - 1)).all fun i => o.after.any fun e => Region.binds md e && e.on == i

def holdB (md : Region.Mode) (ops : Array Oper) : Bool := lastB md ops && plainB ops && chainFrom md none 0 ops.toList && Region.lexFrom md ops ops.size 0 (Array.replicate ops.size false)

section
variable {F : Fence} {n : Nat} {P : Program} {ops : Array Oper} {md : Region.Mode} {S : World → Prop} {Q : Act → World → Prop}

def yieldR (v : Value) (w : World) : Result Next → Prop
  | .ok (.value u) w' => w' = w ∧ u = v
  | .ok .skip w' => w' = w ∧ v = undef
  | _ => False

attribute [go_sem] yieldR
@[go_sem] theorem wide_round : Fence.wide.round = none := rfl

theorem yieldR_unique {u v : Value} {w : World} {r : Result Next} (h : yieldR u w r) (h' : yieldR v w r) : u = v := by
  cases r with
  | ok x w' => cases x <;> simp only [yieldR] at h h' <;> first | exact h.2.symm.trans h'.2 | exact h.2.trans h'.2.symm
  | halt x w' => exact h.elim

/-- a read: the same value in every world of S; or passed over by its guard -/
def Calm (F : Fence) (P : Program) (ops : Array Oper) (S : World → Prop) (o : Oper) (v : Value) (a : Act) : Prop :=
  (Region.wanted o (yielded ops a.tmps) = true ∧ ∀ w, S w → yieldR v w ((o.semAt F.round a.eval).run P w)) ∨
  (Region.wanted o (yielded ops a.tmps) = false ∧ v = undef)

/-- does operation j wait for all others? -/
def sinkB (md : Region.Mode) (ops : Array Oper) (j : Nat) : Bool :=
  match ops[j]? with
  | none => false
  | some o => (List.range ops.size).all fun i => i == j || o.after.any fun e => Region.binds md e && e.on == i

theorem sinkB_ready {j : Nat} {listed : Array Bool} (hs : sinkB md ops j = true) (hj : j ∈ Region.ready md ops listed) {i : Nat} (hi : i < ops.size) (hij : i ≠ j) : listed.getD i false = true := by
  obtain ⟨_, oj, hoj, hall⟩ := mem_ready.1 hj
  unfold sinkB at hs
  simp only [hoj, List.all_eq_true, List.mem_range, Bool.or_eq_true, beq_iff_eq] at hs
  rcases hs i hi with h | h
  · exact absurd h hij
  · obtain ⟨e, he1, he2⟩ := Array.any_eq_true'.1 h
    simp only [Bool.and_eq_true, beq_iff_eq] at he2
    have := hall e he1 he2.1
    rwa [he2.2] at this

theorem not_both {listed : Array Bool} {i : Nat} (h : listed.getD i true = false) (h' : listed.getD i false = true) : False := by
  rcases Nat.lt_or_ge i listed.size with hl | hl
  · simp [hl] at h h'; rw [h] at h'; cases h'
  · simp [Array.getElem?_eq_none hl] at h

/-- operation i comes up -/
def opS (F : Fence) (n : Nat) (P : Program) (md : Region.Mode) (ops : Array Oper) (S : World → Prop) (i : Nat) (K : Act → World → Prop) (a : Act) (w : World) : Prop :=
  match ops[i]? with
  | none => K a w
  | some o =>
    if effB o = true ∧ Region.wanted o (yielded ops a.tmps) = true then o.wpIn F n P a w (fun a' w' => (S w' ∨ sinkB md ops i = true) ∧ K a' w') (fun _ _ _ => False)
    else ∃ v, Calm F P ops S o v a ∧ K (a.put o.dst v) w

def anyS (F : Fence) (n : Nat) (P : Program) (md : Region.Mode) (ops : Array Oper) (S : World → Prop) (Q : Act → World → Prop) : Nat → Array Bool → Act → World → Prop
  | 0, listed, a, w => Region.ready md ops listed = [] ∧ Q a w
  | fuel + 1, listed, a, w => (Region.ready md ops listed = [] → Q a w) ∧ ∀ i ∈ Region.ready md ops listed, opS F n P md ops S i (anyS F n P md ops S Q fuel (listed.setIfInBounds i true)) a w

theorem wpIn_post {o : Oper} {a : Act} {w : World} {K K' : Act → World → Prop} {Q' : Exit → Act → World → Prop} (h : ∀ a w, K a w → K' a w)
    (hh : o.wpIn F n P a w K (fun _ _ _ => False)) : o.wpIn F n P a w K' Q' := by
  unfold Oper.wpIn at *
  refine ⟨hh.1, ?_⟩
  have hh := hh.2
  generalize (o.semAt F.round a.eval).run P w = r at *
  have hL : ¬ LetsOut (fun (_ : Exit) (_ : Act) (_ : World) => False) := fun ⟨_, _, h⟩ => h
  cases r with
  | ok x w' =>
    cases x <;> simp only [Oper.uponIn] at hh ⊢ <;>
      first
        | exact h _ _ hh
        | exact ⟨hh.1, CallsIn.mono hh.2 (fun e w'' he => by cases e <;> first | exact h _ _ he | exact he.elim | exact (hL he).elim)⟩
        | exact ⟨hh.1, RowsIn.mono hh.2 (fun _ _ he => h _ _ he)⟩
        | exact ⟨hh.1, RoundIn.mono hh.2 (fun e w'' he => by cases e <;> first | exact h _ _ he | exact he.elim | exact (hL he).elim)⟩
  | halt x w' => cases x <;> simp only [Oper.uponIn] at hh ⊢ <;> exact hh.elim

/-- an outcome there is -/
theorem wpIn_some {o : Oper} {a : Act} {w : World} {K : Act → World → Prop} (hd : F.depth = none)
    (hh : o.wpIn F n P a w K (fun _ _ _ => False)) : ∃ a' w', K a' w' := by
  have hL : ¬ LetsOut (fun (_ : Exit) (_ : Act) (_ : World) => False) := fun ⟨_, _, h⟩ => h
  have hr : ∀ k, F.room k := fun k d h => by rw [hd] at h; cases h
  have hh := hh.2
  generalize (o.semAt F.round a.eval).run P w = r at *
  cases r with
  | ok x w' =>
    cases x <;> simp only [Oper.uponIn] at hh
    case enter f args =>
      obtain ⟨e, w'', fr, hR, _⟩ := hh.2.2 [] (hr _)
      cases e <;> first | exact ⟨_, _, hR⟩ | exact hR.elim | exact (hL hR).elim
    case row r args =>
      obtain ⟨v, w'', hR, _⟩ := hh.2 default [] (hr _)
      exact ⟨_, _, hR⟩
    case round l f tmps assign body =>
      obtain ⟨e, w'', hR, _⟩ := hh.2.2 default [] (hr _)
      cases e <;> first | exact ⟨_, _, hR⟩ | exact hR.elim | exact (hL hR).elim
    all_goals exact ⟨_, _, hh⟩
  | halt x w' => cases x <;> simp only [Oper.uponIn] at hh

/-- a slot that the operation neither reads nor writes may be set ahead of it, or behind it -/
theorem wpIn_put {o : Oper} (ho : (∀ cs b, o.op ≠ .select cs b) ∧ (∀ c, o.op ≠ .defer c)) {a : Act} {d : Option Tmp} {v : Value} {w : World} {K : Act → World → Prop} {Q' : Exit → Act → World → Prop}
    (h1 : ∀ t, d = some t → t ∉ o.looksAt ops) (h2 : ∀ t, d = some t → o.dst ≠ some t)
    (hQ : ∀ e a w, ¬ Q' e a w) : o.wpIn F n P (a.put d v) w K Q' ↔ o.wpIn F n P a w (fun a' w' => K (a'.put d v) w') Q' := by
  unfold Oper.wpIn
  rw [Oper.semAt_eq _ _ _ ho.2, Oper.semAt_eq _ _ _ ho.2, execOp_put o ho.1 a d v h1]
  refine and_congr ?_ ?_
  · exact ⟨fun h f hf => h f (by rw [about_put o w a d v h1]; exact hf), fun h f hf => h f (by rw [← about_put (ops := ops) o w a d v h1]; exact hf)⟩
  generalize (execOp a.eval o).run P w = r
  have hL : ¬ LetsOut Q' := fun ⟨a, w, h⟩ => hQ _ a w h
  have hp : ∀ u, (a.put d v).put o.dst u = (a.put o.dst u).put d v := fun u => Act.put_comm a v u h2
  cases r with
  | ok x w' =>
    cases x <;> simp only [Oper.uponIn, hp]
    case defer dd =>
      have : ({ a.put d v with defers := dd :: (a.put d v).defers } : Act).put o.dst undef = (({ a with defers := dd :: a.defers } : Act).put o.dst undef).put d v := by
        have := Act.put_comm ({ a with defers := dd :: a.defers } : Act) v undef h2
        rw [← this]
        cases d <;> rfl
      rw [this]
    case enter f args =>
      refine and_congr Iff.rfl ⟨fun h => CallsIn.mono h (fun e w'' he => ?_), fun h => CallsIn.mono h (fun e w'' he => ?_)⟩ <;> cases e <;> first | exact he | exact (hQ _ _ _ he).elim
    case round l f tmps assign body =>
      refine and_congr Iff.rfl ⟨fun h => RoundIn.mono h (fun e w'' he => ?_), fun h => RoundIn.mono h (fun e w'' he => ?_)⟩ <;> cases e <;> first | exact he | exact (hQ _ _ _ he).elim
  | halt x w' => cases x <;> simp only [Oper.uponIn] <;> exact ⟨fun h => (hQ _ _ _ h).elim, fun h => (hQ _ _ _ h).elim⟩

theorem calm_put {o : Oper} (ho : (∀ cs b, o.op ≠ .select cs b) ∧ (∀ c, o.op ≠ .defer c)) {a : Act} {d : Option Tmp} {u v : Value}
    (h1 : ∀ t, d = some t → t ∉ o.looksAt ops) : Calm F P ops S o v (a.put d u) ↔ Calm F P ops S o v a := by
  unfold Calm
  rw [Oper.semAt_eq _ _ _ ho.2, Oper.semAt_eq _ _ _ ho.2, execOp_put o ho.1 a d u h1, wanted_put o a d u h1]

theorem calm_unique {o : Oper} {a : Act} {u v : Value} {w : World} (hw : S w) (h : Calm F P ops S o u a) (h' : Calm F P ops S o v a) : u = v := by
  rcases h with ⟨e, h⟩ | ⟨e, h⟩ <;> rcases h' with ⟨e', h'⟩ | ⟨e', h'⟩
  · exact yieldR_unique (h w hw) (h' w hw)
  · rw [e] at e'; cases e'
  · rw [e] at e'; cases e'
  · exact h.trans h'.symm

/-- the effects' turn: no later effect has come up -/
def later (ops : Array Oper) (listed : Array Bool) (i : Nat) : Prop := ∀ j o, i < j → ops[j]? = some o → effB o = true → listed.getD j true = false

/-- **an effect whose turn it is may be taken first** -/
theorem anyS_eff (hd : F.depth = none) (hp : plainB ops = true) (hchain : ∀ i j o oi, i < j → ops[i]? = some oi → effB oi = true → ops[j]? = some o → effB o = true → ∃ q oq, i ≤ q ∧ q < j ∧ ops[q]? = some oq ∧ effB oq = true ∧ ∃ e ∈ o.after, Region.binds md e = true ∧ e.on = q)
    {i : Nat} {oi : Oper} (hi : ops[i]? = some oi) (hei : effB oi = true) :
    ∀ (fuel : Nat) (listed : Array Bool) (a : Act) (w : World), S w → listed.size = ops.size → later ops listed i → (∀ j o, j < i → ops[j]? = some o → effB o = true → listed.getD j true = true) →
      (∀ j oj, ops[j]? = some oj → j ≠ i → listed.getD j true = false → (∀ e ∈ oj.after, Region.binds md e = true → e.on ≠ i) → oi.apart ops oj = true) →
      i ∈ Region.ready md ops listed → Region.wanted oi (yielded ops a.tmps) = true →
      oi.wpIn F n P a w (fun a' w' => (S w' ∨ sinkB md ops i = true) ∧ anyS F n P md ops S Q fuel (listed.setIfInBounds i true) a' w') (fun _ _ _ => False) →
      anyS F n P md ops S Q (fuel + 1) listed a w := by
  intro fuel
  induction fuel with
  | zero =>
    intro listed a w hw hsz hlat hearl hfree hr hwant H
    refine ⟨fun h => (by rw [h] at hr; cases hr), fun j hj => ?_⟩
    by_cases hji : j = i
    · subst hji; unfold opS; simp only [hi, hei, hwant, and_self, if_true]; exact H
    · have := ready_mono hj hji
      obtain ⟨a', w', _, h0⟩ := wpIn_some hd H
      rw [h0.1] at this
      cases this
  | succ fuel ih =>
    intro listed a w hw hsz hlat hearl hfree hr hwant H
    refine ⟨fun h => (by rw [h] at hr; cases hr), fun j hj => ?_⟩
    by_cases hji : j = i
    · subst hji; unfold opS; simp only [hi, hei, hwant, and_self, if_true]; exact H
    obtain ⟨hjun, oj, hoj, hall⟩ := mem_ready.1 hj
    have hiun := (mem_ready.1 hr).1
    have hns : ¬ sinkB md ops i = true := fun hs => not_both hjun (sinkB_ready hs hr (Array.getElem?_eq_some_iff.1 hoj).1 hji)
    have hjsz : j < listed.size := by rw [hsz]; exact (Array.getElem?_eq_some_iff.1 hoj).1
    have hun_false : ∀ q, q < ops.size → listed.getD q true = false → listed.getD q false = false := fun q hq h => by
      have hq' : q < listed.size := by rw [hsz]; exact hq
      simp [hq'] at h ⊢; exact h
    have hej : effB oj = false := by
      cases he : effB oj with
      | false => rfl
      | true =>
        exfalso
        rcases Nat.lt_or_ge j i with hlt | hge
        · rw [hearl j oj hlt hoj he] at hjun; cases hjun
        · obtain ⟨q, oq, h1, h2, h3, h4, e, h5, h6, h7⟩ := hchain i j oj oi (by omega) hi hei hoj he
          have hq := hall e h5 h6
          rw [h7] at hq
          have hqs : q < ops.size := (Array.getElem?_eq_some_iff.1 h3).1
          have : listed.getD q true = false := by
            by_cases hqi : q = i
            · rw [hqi]; exact hiun
            · exact hlat q oq (by omega) h3 h4
          rw [hun_false q hqs this] at hq; cases hq
    have hnot : ∀ e ∈ oj.after, Region.binds md e = true → e.on ≠ i := fun e he hb heq => by
      have h1 := hall e he hb
      rw [heq, hun_false i (Array.getElem?_eq_some_iff.1 hi).1 hiun] at h1; cases h1
    have hap := hfree j oj hoj hji hjun hnot
    obtain ⟨g1, g2, g3⟩ := Oper.apart_spec hap
    have hoi := plainB_spec hp hi
    have hojp := plainB_spec hp hoj
    -- the value that j yields, behind i or ahead of it
    have hval : ∀ a' w', (∃ u, a' = a.put oi.dst u ∨ ∃ dd, a' = ({ a with defers := dd :: a.defers } : Act).put oi.dst u) → anyS F n P md ops S Q (fuel + 1) (listed.setIfInBounds i true) a' w' →
        ∃ v, Calm F P ops S oj v a ∧ anyS F n P md ops S Q fuel ((listed.setIfInBounds i true).setIfInBounds j true) (a'.put oj.dst v) w' := by
      rintro a' w' ⟨u, hu⟩ h
      have h1 := h.2 j (ready_mono hj hji)
      unfold opS at h1
      simp only [hoj, hej, Bool.false_eq_true, false_and, if_false] at h1
      obtain ⟨v, hv, hK⟩ := h1
      refine ⟨v, ?_, hK⟩
      rcases hu with rfl | ⟨dd, rfl⟩
      · exact (calm_put hojp g1).1 hv
      · exact (calm_put (a := ({ a with defers := dd :: a.defers } : Act)) hojp g1).1 hv
    have hact : oi.wpIn F n P a w (fun a' w' => ((S w' ∨ sinkB md ops i = true) ∧ anyS F n P md ops S Q (fuel + 1) (listed.setIfInBounds i true) a' w') ∧ (∃ u, a' = a.put oi.dst u ∨ ∃ dd, a' = ({ a with defers := dd :: a.defers } : Act).put oi.dst u)) (fun _ _ _ => False) := by
      unfold Oper.wpIn at H ⊢
      refine ⟨H.1, ?_⟩
      have H := H.2
      generalize (oi.semAt F.round a.eval).run P w = r at *
      have hL : ¬ LetsOut (fun (_ : Exit) (_ : Act) (_ : World) => False) := fun ⟨_, _, h⟩ => h
      cases r with
      | ok x w' =>
        cases x <;> simp only [Oper.uponIn] at H ⊢ <;>
          first
            | exact ⟨H, _, .inl rfl⟩
            | exact ⟨H, _, .inr ⟨_, rfl⟩⟩
            | exact ⟨H.1, CallsIn.mono H.2 (fun e w'' he => by cases e <;> first | exact ⟨he, _, .inl rfl⟩ | exact he)⟩
            | exact ⟨H.1, RowsIn.mono H.2 (fun _ _ he => ⟨he, _, .inl rfl⟩)⟩
            | exact ⟨H.1, RoundIn.mono H.2 (fun e w'' he => by cases e <;> first | exact ⟨he, _, .inl rfl⟩ | exact he)⟩
      | halt x w' => cases x <;> simp only [Oper.uponIn] at H ⊢ <;> exact H.elim
    obtain ⟨a0, w0, ⟨_, h0⟩, hu0⟩ := wpIn_some hd hact
    obtain ⟨v, hv, _⟩ := hval a0 w0 hu0 h0
    unfold opS
    simp only [hoj, hej, Bool.false_eq_true, false_and, if_false]
    refine ⟨v, hv, ih (listed.setIfInBounds j true) (a.put oj.dst v) w hw (by simpa using hsz) ?_ ?_ ?_ (ready_mono hr (Ne.symm hji)) ?_ ?_⟩
    · intro q oq hq hoq heq
      by_cases hqj : j = q
      · subst hqj; rw [hoj] at hoq; cases hoq; rw [hej] at heq; cases heq
      · rw [getD_set_ne true hqj]; exact hlat q oq hq hoq heq
    · intro q oq hq hoq heq
      by_cases hqj : j = q
      · subst hqj; rw [hoj] at hoq; cases hoq; rw [hej] at heq; cases heq
      · rw [getD_set_ne true hqj]; exact hearl q oq hq hoq heq
    · intro k ok hk hki hun hno
      refine hfree k ok hk hki ?_ hno
      by_cases hjk : j = k
      · subst hjk; exact hjun
      · rw [getD_set_ne true hjk] at hun; exact hun
    · rw [wanted_put oi a oj.dst v g3]; exact hwant
    · refine (wpIn_put (ops := ops) hoi g3 (fun t ht h => g2 t h ht) (fun _ _ _ h => h)).2 (wpIn_post ?_ hact)
      rintro a' w' ⟨⟨hS', h'⟩, hu⟩
      obtain ⟨v', hv', hK⟩ := hval a' w' hu h'
      rw [calm_unique hw hv hv']
      refine ⟨hS', ?_⟩
      rw [Array.setIfInBounds_comm _ _ hji]
      exact hK

/-- **a read may be taken first** -/
theorem anyS_calm (hp : plainB ops = true) {i : Nat} {oi : Oper} {v : Value} (hi : ops[i]? = some oi) :
    ∀ (fuel : Nat) (listed : Array Bool) (a : Act) (w : World),
      (∀ j oj, ops[j]? = some oj → j ≠ i → listed.getD j true = false → (∀ e ∈ oj.after, Region.binds md e = true → e.on ≠ i) → oi.apart ops oj = true) →
      i ∈ Region.ready md ops listed → Calm F P ops S oi v a → (effB oi = true → Region.wanted oi (yielded ops a.tmps) = false) →
      anyS F n P md ops S Q fuel (listed.setIfInBounds i true) (a.put oi.dst v) w → anyS F n P md ops S Q (fuel + 1) listed a w := by
  have self : ∀ {a : Act} {w : World} {K : Act → World → Prop}, Calm F P ops S oi v a → (effB oi = true → Region.wanted oi (yielded ops a.tmps) = false) → K (a.put oi.dst v) w → opS F n P md ops S i K a w := by
    intro a w K hv hg h
    unfold opS
    simp only [hi]
    rw [if_neg (fun h => by rw [hg h.1] at h; cases h.2)]
    exact ⟨v, hv, h⟩
  have hoi := plainB_spec hp hi
  intro fuel
  induction fuel with
  | zero =>
    intro listed a w _ hr hv hg H
    refine ⟨fun h => (by rw [h] at hr; cases hr), fun j hj => ?_⟩
    by_cases hji : j = i
    · subst hji; exact self hv hg H
    · have := ready_mono hj hji
      rw [H.1] at this
      cases this
  | succ fuel ih =>
    intro listed a w hfree hr hv hg H
    refine ⟨fun h => (by rw [h] at hr; cases hr), fun j hj => ?_⟩
    by_cases hji : j = i
    · subst hji; exact self hv hg H
    have h1 := H.2 j (ready_mono hj hji)
    obtain ⟨hjun, oj, hoj, hall⟩ := mem_ready.1 hj
    have hnot : ∀ e ∈ oj.after, Region.binds md e = true → e.on ≠ i := fun e he hb heq => by
      have h1 := hall e he hb
      have h0 := (mem_ready.1 hr).1
      rw [heq] at h1
      rcases Nat.lt_or_ge i listed.size with h' | h'
      · simp [h'] at h0 h1; rw [h0] at h1; cases h1
      · simp [Array.getElem?_eq_none h'] at h1
    have hap := hfree j oj hoj hji hjun hnot
    obtain ⟨g1, g2, g3⟩ := Oper.apart_spec hap
    have hojp := plainB_spec hp hoj
    have hfree' : ∀ k ok, ops[k]? = some ok → k ≠ i → (listed.setIfInBounds j true).getD k true = false →
        (∀ e ∈ ok.after, Region.binds md e = true → e.on ≠ i) → oi.apart ops ok = true := fun k ok hk hki hun hno => by
      refine hfree k ok hk hki ?_ hno
      by_cases hjk : j = k
      · subst hjk; exact hjun
      · rw [getD_set_ne true hjk] at hun; exact hun
    have hwp : ∀ (a : Act) (u : Value), Region.wanted oi (yielded ops (a.put oj.dst u).tmps) = Region.wanted oi (yielded ops a.tmps) := fun a u => wanted_put oi a oj.dst u g3
    have next : ∀ (u : Value) (a' : Act) (w' : World), (a' = a.put oj.dst u ∨ ∃ dd, a' = ({ a with defers := dd :: a.defers } : Act).put oj.dst u) → anyS F n P md ops S Q fuel ((listed.setIfInBounds i true).setIfInBounds j true) (a'.put oi.dst v) w' →
        anyS F n P md ops S Q (fuel + 1) (listed.setIfInBounds j true) a' w' := by
      rintro u a' w' hu h
      rcases hu with rfl | ⟨dd, rfl⟩
      · refine ih _ _ _ hfree' (ready_mono hr (Ne.symm hji)) ((calm_put hoi g3).2 hv) (fun h => by rw [hwp]; exact hg h) ?_
        rw [Array.setIfInBounds_comm _ _ hji]
        exact h
      · refine ih _ _ _ hfree' (ready_mono hr (Ne.symm hji)) ((calm_put (a := ({ a with defers := dd :: a.defers } : Act)) hoi g3).2 hv) (fun h => by rw [hwp]; exact hg h) ?_
        rw [Array.setIfInBounds_comm _ _ hji]
        exact h
    unfold opS at h1 ⊢
    simp only [hoj] at h1 ⊢
    rw [wanted_put oj a oi.dst v g1] at h1
    split
    · rename_i hc
      rw [if_pos hc] at h1
      rw [wpIn_put (ops := ops) hojp g1 (fun t ht h => g2 t ht h) (fun _ _ _ h => h)] at h1
      have hns : ¬ sinkB md ops j = true := fun hs => not_both (mem_ready.1 hr).1 (sinkB_ready hs hj (Array.getElem?_eq_some_iff.1 hi).1 (Ne.symm hji))
      have hact : oj.wpIn F n P a w (fun a' w' => ((S w' ∨ sinkB md ops j = true) ∧ anyS F n P md ops S Q fuel ((listed.setIfInBounds i true).setIfInBounds j true) (a'.put oi.dst v) w') ∧ (∃ u, a' = a.put oj.dst u ∨ ∃ dd, a' = ({ a with defers := dd :: a.defers } : Act).put oj.dst u)) (fun _ _ _ => False) := by
        unfold Oper.wpIn at h1 ⊢
        refine ⟨h1.1, ?_⟩
        have h1 := h1.2
        generalize (oj.semAt F.round a.eval).run P w = r at *
        have hL : ¬ LetsOut (fun (_ : Exit) (_ : Act) (_ : World) => False) := fun ⟨_, _, h⟩ => h
        cases r with
        | ok x w' =>
          cases x <;> simp only [Oper.uponIn] at h1 ⊢ <;>
            first
              | exact ⟨h1, _, .inl rfl⟩
              | exact ⟨h1, _, .inr ⟨_, rfl⟩⟩
              | exact ⟨h1.1, CallsIn.mono h1.2 (fun e w'' he => by cases e <;> first | exact ⟨he, _, .inl rfl⟩ | exact he)⟩
              | exact ⟨h1.1, RowsIn.mono h1.2 (fun _ _ he => ⟨he, _, .inl rfl⟩)⟩
              | exact ⟨h1.1, RoundIn.mono h1.2 (fun e w'' he => by cases e <;> first | exact ⟨he, _, .inl rfl⟩ | exact he)⟩
        | halt x w' => cases x <;> simp only [Oper.uponIn] at h1 ⊢ <;> exact h1.elim
      refine wpIn_post ?_ hact
      rintro a' w' ⟨⟨hS', h'⟩, u, hu⟩
      exact ⟨hS', next u a' w' hu h'⟩
    · rename_i hc
      rw [if_neg hc] at h1
      obtain ⟨u, hu, hK⟩ := h1
      refine ⟨u, (calm_put hojp g1).1 hu, next u _ _ (.inl rfl) ?_⟩
      rw [← Act.put_comm a v u g2]
      exact hK

/-- THE WALK IN THE TEXT'S ORDER. -/
def wpH (F : Fence) (n : Nat) (P : Program) (ops : Array Oper) (S : World → Prop) (Q : Act → World → Prop) : List Oper → Act → World → Prop
  | [], a, w => Q a w
  | o :: rest, a, w =>
    if effB o = true ∧ Region.wanted o (yielded ops a.tmps) = true then o.wpIn F n P a w (fun a' w' => (S w' ∨ rest = []) ∧ wpH F n P ops S Q rest a' w') (fun _ _ _ => False)
    else ∃ v, Calm F P ops S o v a ∧ wpH F n P ops S Q rest (a.put o.dst v) w

theorem chain_spec : ∀ (l : List Oper) (k : Nat) (p : Option Nat), (∀ j, l[j]? = ops[k + j]?) → chainFrom md p k l = true →
    (∀ i oi, i < k → ops[i]? = some oi → effB oi = true → ∃ q oq, p = some q ∧ i ≤ q ∧ q < k ∧ ops[q]? = some oq ∧ effB oq = true) →
    ∀ i j o oi, i < j → k ≤ j → ops[i]? = some oi → effB oi = true → ops[j]? = some o → effB o = true → ∃ q oq, i ≤ q ∧ q < j ∧ ops[q]? = some oq ∧ effB oq = true ∧ ∃ e ∈ o.after, Region.binds md e = true ∧ e.on = q
  | [], k, p, hl, _, _, i, j, o, oi, _, hkj, _, _, hj, _ => by
    have := hl (j - k)
    rw [show k + (j - k) = j by omega, hj] at this
    simp at this
  | o' :: l, k, p, hl, hc, hinv, i, j, o, oi, hij, hkj, hi, hei, hj, hej => by
    have h0 : ops[k]? = some o' := by simpa using (hl 0).symm
    have hl' : ∀ j, l[j]? = ops[k + 1 + j]? := fun j => by have := hl (j + 1); simpa [Nat.add_assoc, Nat.add_comm 1 j] using this
    unfold chainFrom at hc
    by_cases he : effB o' = true
    · rw [if_pos he, Bool.and_eq_true] at hc
      by_cases hjk : j = k
      · subst hjk
        rw [h0] at hj; cases hj
        obtain ⟨q, oq, rfl, h1, h2, h3, h4⟩ := hinv i oi hij hi hei
        obtain ⟨e, he1, he2⟩ := Array.any_eq_true'.1 hc.1
        simp only [Bool.and_eq_true, beq_iff_eq] at he2
        exact ⟨q, oq, h1, h2, h3, h4, e, he1, he2.1, he2.2⟩
      · refine chain_spec l (k + 1) (some k) hl' hc.2 ?_ i j o oi hij (by omega) hi hei hj hej
        intro i' oi' hi' _ _
        exact ⟨k, o', rfl, by omega, by omega, h0, he⟩
    · rw [if_neg he] at hc
      have hjk : j ≠ k := by rintro rfl; rw [h0] at hj; cases hj; exact he hej
      refine chain_spec l (k + 1) p hl' hc ?_ i j o oi hij (by omega) hi hei hj hej
      intro i' oi' hi' ho' he'
      by_cases hik : i' = k
      · subst hik; rw [h0] at ho'; cases ho'; exact absurd he' he
      · obtain ⟨q, oq, a1, a2, a3, a4, a5⟩ := hinv i' oi' (by omega) ho' he'
        exact ⟨q, oq, a1, a2, by omega, a4, a5⟩

theorem anyS_lex (hd : F.depth = none) (hlast : ∀ k o, ops[k]? = some o → k + 1 = ops.size → effB o = true → sinkB md ops k = true) (hp : plainB ops = true) (hchain : ∀ i j o oi, i < j → ops[i]? = some oi → effB oi = true → ops[j]? = some o → effB o = true → ∃ q oq, i ≤ q ∧ q < j ∧ ops[q]? = some oq ∧ effB oq = true ∧ ∃ e ∈ o.after, Region.binds md e = true ∧ e.on = q) :
    ∀ (l : List Oper) (k : Nat) (listed : Array Bool) (a : Act) (w : World), (∀ j, l[j]? = ops[k + j]?) → listed.size = ops.size →
    (∀ j, j < k → listed.getD j true = true) → (∀ j, k ≤ j → j < ops.size → listed.getD j true = false) → (S w ∨ l = []) →
    Region.lexFrom md ops l.length k listed = true → wpH F n P ops S Q l a w → anyS F n P md ops S Q l.length listed a w
  | [], _, _, _, _, _, _, _, _, _, hB, h => ⟨by simpa [Region.lexFrom] using hB, h⟩
  | o :: l, k, listed, a, w, hl, hsz, hlo, hhi, hw, hB, h => by
    have h0 : ops[k]? = some o := by simpa using (hl 0).symm
    have hks : k < ops.size := (Array.getElem?_eq_some_iff.1 h0).1
    have hl' : ∀ j, l[j]? = ops[k + 1 + j]? := fun j => by have := hl (j + 1); simpa [Nat.add_assoc, Nat.add_comm 1 j] using this
    simp only [List.length_cons, Region.lexFrom, Bool.and_eq_true] at hB
    obtain ⟨⟨hr, hf⟩, hB'⟩ := hB
    have hr' : k ∈ Region.ready md ops listed := by simpa using hr
    have hlo' : ∀ j, j < k + 1 → (listed.setIfInBounds k true).getD j true = true := fun j hj => by
      by_cases hjk : k = j
      · subst hjk; simp [hsz, hks]
      · rw [getD_set_ne true hjk]; exact hlo j (by omega)
    have hhi' : ∀ j, k + 1 ≤ j → j < ops.size → (listed.setIfInBounds k true).getD j true = false := fun j hj hjs => by
      rw [getD_set_ne true (by omega)]; exact hhi j (by omega) hjs
    unfold wpH at h
    by_cases hc : effB o = true ∧ Region.wanted o (yielded ops a.tmps) = true
    · rw [if_pos hc] at h
      have hw : S w := hw.resolve_right (by simp)
      refine anyS_eff hd hp hchain h0 hc.1 l.length listed a w hw hsz (fun j oj hj hoj _ => hhi j (by omega) (Array.getElem?_eq_some_iff.1 hoj).1) (fun j oj hj _ _ => hlo j hj) (Region.free_spec h0 hf) hr' hc.2 (wpIn_post ?_ h)
      rintro a' w' ⟨hS', h'⟩
      refine ⟨hS'.imp id ?_, anyS_lex hd hlast hp hchain l (k + 1) _ a' w' hl' (by simpa using hsz) hlo' hhi' hS' hB' h'⟩
      rintro rfl
      refine hlast k o h0 ?_ hc.1
      have := hl' 0
      simp at this
      omega
    · rw [if_neg hc] at h
      obtain ⟨v, hv, h'⟩ := h
      refine anyS_calm hp h0 l.length listed a w (Region.free_spec h0 hf) hr' hv (fun he => by simpa using fun hw => hc ⟨he, hw⟩) ?_
      exact anyS_lex hd hlast hp hchain l (k + 1) _ _ w hl' (by simpa using hsz) hlo' hhi' (.inl (hw.resolve_right (by simp))) hB' h'

theorem opIn_of_opS (hF : ∀ f, F.fn f) {i : Nat} {K K' : Act → World → Prop} {Q' : Exit → Act → World → Prop} {a : Act} {w : World} (hw : S w) (hK : ∀ a w, (S w ∨ sinkB md ops i = true) → K a w → K' a w) (h : opS F n P md ops S i K a w) : wpOpIn F n P ops Q' i K' a w := by
  unfold opS at h
  unfold wpOpIn
  split
  · rename_i ho; simp only [ho] at h; exact hK _ _ (.inl hw) h
  · rename_i o ho
    simp only [ho] at h
    split at h
    · rename_i hc
      rw [if_pos hc.2]
      exact wpIn_post (fun a w ⟨hs, h⟩ => hK a w hs h) h
    · obtain ⟨v, hv, h⟩ := h
      rcases hv with ⟨hwt, hy⟩ | ⟨hwt, rfl⟩
      · rw [if_pos hwt]
        refine ⟨fun f _ => hF f, ?_⟩
        have hy := hy w hw
        generalize (o.semAt F.round a.eval).run P w = r at *
        cases r with
        | ok x w' =>
          cases x <;> simp only [yieldR] at hy <;> simp only [Oper.uponIn]
          · obtain ⟨rfl, rfl⟩ := hy; exact hK _ _ (.inl hw) h
          · obtain ⟨rfl, rfl⟩ := hy; exact hK _ _ (.inl hw) h
        | halt x w' => exact hy.elim
      · rw [if_neg (by rw [hwt]; simp)]
        exact ⟨fun f _ => hF f, hK _ _ (.inl hw) h⟩

theorem anyIn_of_anyS (hF : ∀ f, F.fn f) {Q' : Exit → Act → World → Prop} (hQ : ∀ a w, Q a w → Q' .normal a w) : ∀ (fuel : Nat) (listed : Array Bool) (a : Act) (w : World), (S w ∨ Region.ready md ops listed = []) →
    anyS F n P md ops S Q fuel listed a w → wpAnyIn F n P md ops Q' fuel listed a w
  | 0, _, _, _, _, h => ⟨h.1, hQ _ _ h.2⟩
  | fuel + 1, listed, _, _, hw, h => ⟨fun h0 => hQ _ _ (h.1 h0), fun i hi => opIn_of_opS hF (hw.resolve_right (fun h => by rw [h] at hi; cases hi)) (fun a' w' hw' h' =>
      anyIn_of_anyS hF hQ fuel _ a' w' (hw'.imp id (fun hs => by
        refine List.eq_nil_iff_forall_not_mem.2 fun j hj => ?_
        obtain ⟨hjun, oj, hoj, _⟩ := mem_ready.1 hj
        have hjs := (Array.getElem?_eq_some_iff.1 hoj).1
        by_cases hij : i = j
        · subst hij
          rcases Nat.lt_or_ge i listed.size with hl | hl
          · simp [hl] at hjun
          · simp [Array.getElem?_eq_none (show (listed.setIfInBounds i true).size ≤ i by simpa using hl)] at hjun
        · rw [getD_set_ne true hij] at hjun
          exact not_both hjun (sinkB_ready hs hi hjs (Ne.symm hij)))) h') (h.2 i hi)⟩

/-- **A REGION THAT DRAWS ITS ORDER, BY ONE WALK.** -/
theorem wp_region_hold {id : Nat} {Q' : Exit → Act → World → Prop} {a : Act} {w : World} {l : List Oper} (S : World → Prop) (hd : F.depth = none) (hF : ∀ f, F.fn f) (hm : P.follows .mixedOrders = true) (hB : holdB .any l.toArray = true)
    (h0 : S w.drew) (h : wpH F n P l.toArray S (fun a w => Q' .normal a w) l a w.drew) : (Code.region id l.toArray true).wpIn F n P Q' a w := by
  simp only [holdB, Bool.and_eq_true] at hB
  refine wpIn_region_any hm (anyIn_of_anyS hF (Q := fun a w => Q' .normal a w) (fun _ _ h => h) _ _ _ _ (.inl h0) ?_)
  have hch := chain_spec (md := .any) (ops := l.toArray) l 0 none (by simp) hB.1.2 (fun i _ hi => absurd hi (by omega))
  have hlast : ∀ k o, l.toArray[k]? = some o → k + 1 = l.toArray.size → effB o = true → sinkB .any l.toArray k = true := fun k o ho hk he => by
    have h1 := hB.1.1.1
    have hk' : k = l.toArray.size - 1 := by omega
    unfold lastB at h1
    rw [← hk'] at h1
    simp only [ho, he, Bool.not_true, Bool.false_or, List.all_eq_true, List.mem_range] at h1
    unfold sinkB
    simp only [ho, List.all_eq_true, List.mem_range, Bool.or_eq_true, beq_iff_eq]
    intro i hi
    by_cases hik : i = k
    · exact .inl hik
    · exact .inr (h1 i (by omega))
  have := anyS_lex (S := S) (Q := fun a w => Q' .normal a w) (F := F) (n := n) (P := P) hd hlast hB.1.1.2 (fun i j o oi h1 h2 h3 h4 h5 => hch i j o oi h1 (Nat.zero_le _) h2 h3 h4 h5) l 0 (Array.replicate l.toArray.size false) a w.drew (by simp) (by simp) (fun j hj => absurd hj (by omega))
    (fun j _ hj => by simp at hj; simp [hj]) (.inl h0) (by simpa using hB.2) h
  simpa using this

theorem wpH_nil {a : Act} {w : World} (h : Q a w) : wpH F n P ops S Q [] a w := h

/-- a read -/
theorem wpH_calm {o : Oper} {rest : List Oper} {a : Act} {w : World} {v : Value} (he : effB o = false) (hg : Region.wanted o (yielded ops a.tmps) = true)
    (hv : ∀ w', S w' → yieldR v w' ((o.semAt F.round a.eval).run P w')) (h : wpH F n P ops S Q rest (a.put o.dst v) w) : wpH F n P ops S Q (o :: rest) a w := by
  unfold wpH
  rw [if_neg (by rw [he]; simp)]
  exact ⟨v, .inl ⟨hg, hv⟩, h⟩

/-- passed over by its guard -/
theorem wpH_pass {o : Oper} {rest : List Oper} {a : Act} {w : World} (hg : Region.wanted o (yielded ops a.tmps) = false) (h : wpH F n P ops S Q rest (a.put o.dst undef) w) : wpH F n P ops S Q (o :: rest) a w := by
  unfold wpH
  rw [if_neg (by rw [hg]; simp)]
  exact ⟨undef, .inr ⟨hg, rfl⟩, h⟩

/-- an effect -/
theorem wpH_eff {o : Oper} {rest : List Oper} {a : Act} {w : World} (he : effB o = true) (hg : Region.wanted o (yielded ops a.tmps) = true)
    (h : ∀ K : Act → World → Prop, (∀ a' w', (S w' ∨ rest = []) → wpH F n P ops S Q rest a' w' → K a' w') → o.wpIn F n P a w K (fun _ _ _ => False)) : wpH F n P ops S Q (o :: rest) a w := by
  unfold wpH
  rw [if_pos ⟨he, hg⟩]
  exact h _ (fun _ _ hs hr => ⟨hs, hr⟩)

end
#print axioms wp_region_hold
end Go.Proofs.Ytmnaidemihcfaaa
