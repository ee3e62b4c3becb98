/- Proves that the program's BoxDroop returns what the reference's returns, for all arguments. Conditions: none. -/
import Derived.Test.YtpcilhakedhkaaaPFnExactBoxDroopx3
namespace Go.Proofs.Ytpcilhakedhkaaa.Pure
open Go.RowKit Go.Proofs.Ytpcilhakedhkaaa.PFnExactBoxDroop Go.Proofs.YtpcilhakedhkaaaW.PrintWords Go.Proofs.YtpcilhakedhkaaaW.PrintLast
set_option linter.unusedSimpArgs false
set_option linter.unusedVariables false

-- Aid
theorem aid_wr {x : Int} (h0 : -9223372036854775808 ≤ x) (h1 : x ≤ 9223372036854775807) : wrap64 x = x := by unfold wrap64; omega
theorem aid_wf {x : Int} (h : (Lit.int .i64 x).wf = true) : -9223372036854775808 ≤ x ∧ x ≤ 9223372036854775807 := by
  have hmin : IntKind.i64.min = -9223372036854775808 := rfl
  have hmax : IntKind.i64.max = 9223372036854775807 := rfl
  simp only [Lit.wf, Bool.and_eq_true, decide_eq_true_eq, hmin, hmax] at h
  exact h
theorem aid_ev_bind {α β : Type} {g : Nat → Option α} {f : α → Option β} {a : α} {r : β} (h : Ev g a) (k : f a = some r) : Ev (fun n => (g n).bind f) r :=
  Ev.bind (f := fun _ => f) h ⟨0, fun _ _ => k⟩
theorem aid_ev_const {α : Type} {o : Option α} {r : α} (h : o = some r) : Ev (fun _ => o) r := ⟨0, fun _ _ => h⟩
theorem aid_tdiv {a b : Int} (ha : 0 ≤ a) : Int.tdiv a b = a / b := Int.tdiv_eq_ediv_of_nonneg ha
theorem aid_tmod {a b : Int} (ha : 0 ≤ a) : Int.tmod a b = a % b := Int.tmod_eq_emod_of_nonneg ha
theorem aid_next {i : Nat} (h : i ≤ 9223372036854775806) : wrap64 ((i : Int) + 1) = ((i + 1 : Nat) : Int) := by rw [aid_wr (by omega) (by omega)]; rfl
theorem aid_rd (l : List Int) (i : Nat) (h : i < l.length) : rd l (i : Int) = l[i] := by
  unfold rd
  rw [List.getD_eq_getElem?_getD, Int.toNat_natCast, List.getElem?_eq_getElem h]
  rfl
theorem aid_ev_succ {α : Type} {g : Nat → Option α} {r : α} (h : Ev (fun k => g (k + 1)) r) : Ev g r := Ev.step (fun _ => rfl) h

-- Combos
theorem aid_four {s : Int} (h : 1 ≤ s ∧ s ≤ 4) : s ∈ [(1 : Int), 2, 3, 4] := by
  have : s = 1 ∨ s = 2 ∨ s = 3 ∨ s = 4 := by omega
  rcases this with h | h | h | h <;> simp [h]
theorem aid_eight {s : Int} (h : 1 ≤ s ∧ s ≤ 8) : s ∈ [(1 : Int), 2, 3, 4, 5, 6, 7, 8] := by
  have : s = 1 ∨ s = 2 ∨ s = 3 ∨ s = 4 ∨ s = 5 ∨ s = 6 ∨ s = 7 ∨ s = 8 := by omega
  rcases this with h | h | h | h | h | h | h | h <;> simp [h]

-- spec_l1In
theorem spec_l1In.eq (a lo hi : Int) : spec_l1In.f a lo hi = some (decide (lo ≤ a ∧ a ≤ hi)) := by
  unfold spec_l1In.f
  by_cases h : lo ≤ a <;> simp [h]

-- spec_cbAsked
theorem spec_cbAsked.eq (s r : Int) : spec_cbAsked.f s r = some (decide ((1 ≤ s ∧ s ≤ 4) ∧ (1 ≤ r ∧ r ≤ 8))) := by
  unfold spec_cbAsked.f
  rw [spec_l1In.eq, spec_l1In.eq]
  by_cases h : 1 ≤ s ∧ s ≤ 4 <;> simp [h]

-- spec_l1Most
theorem spec_l1Most.eq (a b : Int) : spec_l1Most.f a b = some (max a b) := by
  unfold spec_l1Most.f
  split <;> simp <;> omega

-- spec_l1Abs
theorem spec_l1Abs.eq {x : Int} (h : -9223372036854775807 ≤ x) (h' : x ≤ 9223372036854775807) : spec_l1Abs.f x = some (x.natAbs : Int) := by
  unfold spec_l1Abs.f
  rw [aid_wr (by omega) (by omega), spec_l1Most.eq]
  simp
  omega

-- impl_in
theorem impl_in.eq (a lo hi : Int) : impl_in.f a lo hi = some (decide (lo ≤ a ∧ a ≤ hi)) := by
  unfold impl_in.f
  by_cases h : lo ≤ a <;> simp [h]

-- impl_isComb
theorem impl_isComb.eq (s r : Int) : impl_isComb.f s r = some (decide ((1 ≤ s ∧ s ≤ 4) ∧ (1 ≤ r ∧ r ≤ 8))) := by
  unfold impl_isComb.f
  rw [impl_in.eq, impl_in.eq]
  by_cases h : 1 ≤ s ∧ s ≤ 4 <;> simp [h]

-- Sums
def sumL : List Int → Int → Int
  | [], a => a
  | x :: r, a => sumL r (a + x)
theorem sumL_add : ∀ (l : List Int) (a : Int), sumL l a = a + sumL l 0
  | [], a => by simp [sumL]
  | x :: r, a => by
    rw [sumL, sumL, sumL_add r (a + x), sumL_add r (0 + x)]
    omega
theorem sumL_cons (x : Int) (r : List Int) : sumL (x :: r) 0 = x + sumL r 0 := by
  rw [sumL, sumL_add]
  omega
theorem sumL_bound (B : Nat) : ∀ (l : List Int), (∀ x ∈ l, -(B : Int) ≤ x ∧ x ≤ B) → -((l.length * B : Nat) : Int) ≤ sumL l 0 ∧ sumL l 0 ≤ ((l.length * B : Nat) : Int)
  | [], _ => by simp [sumL]
  | x :: r, h => by
    have h1 := h x (by simp)
    have h2 := sumL_bound B r (fun y hy => h y (by simp [hy]))
    rw [sumL_cons, List.length_cons, Nat.add_mul]
    omega

-- impl_sum
theorem impl_sum.l0_ev (l : List Int) (hl : l.length ≤ 1000000) (hx : ∀ x ∈ l, -1000000000 ≤ x ∧ x ≤ 1000000000) : ∀ (d i : Nat) (a : Int), i + d = l.length → -(1000000000 * (i : Int)) ≤ a → a ≤ 1000000000 * (i : Int) →
    Ev (fun k => impl_sum.l0 k a l (l.length : Int) (i : Int)) (sumL (l.drop i) a) := by
  intro d
  induction d with
  | zero =>
    intro i a hi h0 h1
    rw [List.drop_eq_nil_of_le (by omega)]
    refine Ev.step (f := fun _ => some (sumL [] a)) (fun k => ?_) (Ev.now _)
    simp only [impl_sum.l0]
    rw [if_neg (by omega)]
    rfl
  | succ d ih =>
    intro i a hi h0 h1
    have hi' : i < l.length := by omega
    have hxi := hx l[i] (List.getElem_mem hi')
    rw [List.drop_eq_getElem_cons hi', sumL]
    refine Ev.step (fun k => ?_) (ih (i + 1) (a + l[i]) (by omega) (by omega) (by omega))
    simp only [impl_sum.l0]
    rw [if_pos (by omega), if_pos (by omega), if_pos (by omega), aid_rd l i hi', aid_wr (x := a + l[i]) (by omega) (by omega), aid_next (by omega)]
theorem impl_sum.ev (l : List Int) (hl : l.length ≤ 1000000) (hx : ∀ x ∈ l, -1000000000 ≤ x ∧ x ≤ 1000000000) : Ev (fun k => impl_sum.f k l) (sumL l 0) :=
  impl_sum.l0_ev l hl hx l.length 0 0 (by omega) (by omega) (by omega)

-- impl_size
theorem impl_size.eq {x : Int} (h : -9223372036854775807 ≤ x) (h' : x ≤ 9223372036854775807) : impl_size.f x = some (x.natAbs : Int) := by
  unfold impl_size.f
  rw [aid_wr (by omega) (by omega)]
  unfold mx
  split <;> simp <;> omega

-- impl_gcd
theorem impl_gcd.l0_ev : ∀ (d : Nat) (a b : Nat), b ≤ d → Ev (fun k => impl_gcd.l0 k (a : Int) (b : Int)) ((Nat.gcd a b : Nat) : Int)
  | d, a, 0, _ => Ev.step (f := fun _ => some (a : Int)) (fun k => by simp [impl_gcd.l0]) (by simpa using Ev.now _)
  | 0, a, b + 1, h => absurd h (by omega)
  | d + 1, a, b + 1, h => by
    have ih := impl_gcd.l0_ev d (b + 1) (a % (b + 1)) (by have := Nat.mod_lt a (show 0 < b + 1 by omega); omega)
    have e : Nat.gcd a (b + 1) = Nat.gcd (b + 1) (a % (b + 1)) := by rw [Nat.gcd_comm, Nat.gcd_rec, Nat.gcd_comm]
    rw [e]
    refine Ev.step (fun k => ?_) ih
    have hb : ¬ (((b + 1 : Nat) : Int) = 0) := by omega
    simp only [impl_gcd.l0]
    rw [if_neg hb, aid_tmod (by omega)]
    rfl
theorem impl_gcd.ev {a b : Int} (ha : -9223372036854775807 ≤ a) (ha' : a ≤ 9223372036854775807) (hb : -9223372036854775807 ≤ b) (hb' : b ≤ 9223372036854775807) : Ev (fun k => impl_gcd.f k a b) ((Nat.gcd a.natAbs b.natAbs : Nat) : Int) := by
  unfold impl_gcd.f
  rw [impl_size.eq ha ha', impl_size.eq hb hb']
  exact impl_gcd.l0_ev _ _ _ (Nat.le_refl _)

theorem droop_all : ∀ s ∈ [(1 : Int), 2, 3, 4], ∀ r ∈ [(1 : Int), 2, 3, 4, 5, 6, 7, 8], laws_FnExactBoxDroop.f 1000 s r = some true := by decide +kernel
theorem FnExactBoxDroop : laws_FnExactBoxDroop.Pure := by
  intro s r _ _
  by_cases h : (1 ≤ s ∧ s ≤ 4) ∧ (1 ≤ r ∧ r ≤ 8)
  · exact ⟨1000, droop_all s (aid_four h.1) r (aid_eight h.2)⟩
  · refine ⟨0, ?_⟩
    unfold laws_FnExactBoxDroop.f spec_BoxDroop.f impl_BoxDroop.f
    rw [spec_cbAsked.eq, impl_isComb.eq]
    simp [h]

end Go.Proofs.Ytpcilhakedhkaaa.Pure
