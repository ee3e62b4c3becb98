/- Proves that the program's LengthAfter returns what the reference's returns, for all arguments. Conditions: none. -/
import Derived.Test.YtcijgkefmolbbaaPFnExactLengthAfterx1
namespace Go.Proofs.Ytcijgkefmolbbaa.Pure
open Go.RowKit Go.Proofs.Ytcijgkefmolbbaa.PFnExactLengthAfter Go.Proofs.YtcijgkefmolbbaaW.PrintWords Go.Proofs.YtcijgkefmolbbaaW.PrintLast

-- Aid
theorem aid_wr {x : Int} (h0 : -9223372036854775808 ≤ x) (h1 : x ≤ 9223372036854775807) : wrap64 x = x := by unfold wrap64; omega
theorem aid_wf {x : Int} (h : (Lit.int .i64 x).wf = true) : -9223372036854775808 ≤ x ∧ x ≤ 9223372036854775807 := by
  have hmin : IntKind.i64.min = -9223372036854775808 := rfl
  have hmax : IntKind.i64.max = 9223372036854775807 := rfl
  simp only [Lit.wf, Bool.and_eq_true, decide_eq_true_eq, hmin, hmax] at h
  exact h
theorem aid_ev_bind {α β : Type} {g : Nat → Option α} {f : α → Option β} {a : α} {r : β} (h : Ev g a) (k : f a = some r) : Ev (fun n => (g n).bind f) r :=
  Ev.bind (f := fun _ => f) h ⟨0, fun _ _ => k⟩
theorem aid_ev_const {α : Type} {o : Option α} {r : α} (h : o = some r) : Ev (fun _ => o) r := ⟨0, fun _ _ => h⟩
theorem aid_tdiv {a b : Int} (ha : 0 ≤ a) : Int.tdiv a b = a / b := Int.tdiv_eq_ediv_of_nonneg ha
theorem aid_tmod {a b : Int} (ha : 0 ≤ a) : Int.tmod a b = a % b := Int.tmod_eq_emod_of_nonneg ha
theorem aid_next {i : Nat} (h : i ≤ 9223372036854775806) : wrap64 ((i : Int) + 1) = ((i + 1 : Nat) : Int) := by rw [aid_wr (by omega) (by omega)]; rfl
theorem aid_rd (l : List Int) (i : Nat) (h : i < l.length) : rd l (i : Int) = l[i] := by
  unfold rd
  rw [List.getD_eq_getElem?_getD, Int.toNat_natCast, List.getElem?_eq_getElem h]
  rfl

-- spec_l1In
theorem spec_l1In.eq (a lo hi : Int) : spec_l1In.f a lo hi = some (decide (lo ≤ a ∧ a ≤ hi)) := by
  unfold spec_l1In.f
  by_cases h : lo ≤ a <;> simp [h]

-- spec_rsRatio
theorem spec_rsRatio.eq (p q : Int) : spec_rsRatio.f p q = some (decide ((1 ≤ p ∧ p ≤ 8) ∧ (1 ≤ q ∧ q ≤ 8))) := by
  unfold spec_rsRatio.f
  rw [spec_l1In.eq, spec_l1In.eq]
  by_cases h : 1 ≤ p ∧ p ≤ 8 <;> simp [h]

-- impl_in
theorem impl_in.eq (a lo hi : Int) : impl_in.f a lo hi = some (decide (lo ≤ a ∧ a ≤ hi)) := by
  unfold impl_in.f
  by_cases h : lo ≤ a <;> simp [h]

-- impl_isRatio
theorem impl_isRatio.eq (p q : Int) : impl_isRatio.f p q = some (decide ((1 ≤ p ∧ p ≤ 8) ∧ (1 ≤ q ∧ q ≤ 8))) := by
  unfold impl_isRatio.f
  rw [impl_in.eq, impl_in.eq]
  by_cases h : 1 ≤ p ∧ p ≤ 8 <;> simp [h]

theorem FnExactLengthAfter : laws_FnExactLengthAfter.Pure := by
  intro n p q _ _ _
  unfold laws_FnExactLengthAfter.f spec_LengthAfter.f impl_LengthAfter.f
  rw [spec_l1In.eq, impl_in.eq, spec_rsRatio.eq, impl_isRatio.eq]
  unfold spec_rsLength.f impl_lengthAfter.f
  by_cases h : 0 ≤ n ∧ n ≤ 64
  · by_cases h' : (1 ≤ p ∧ p ≤ 8) ∧ (1 ≤ q ∧ q ≤ 8)
    · have hq : ¬ q = 0 := by omega
      simp [h, h', hq]
    · simp [h, h']
  · simp [h]

end Go.Proofs.Ytcijgkefmolbbaa.Pure
