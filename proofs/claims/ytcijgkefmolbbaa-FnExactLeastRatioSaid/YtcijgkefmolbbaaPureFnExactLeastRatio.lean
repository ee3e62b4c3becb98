/- Proves that the program's LeastRatio returns what the reference's returns, for all arguments. Conditions: none. -/
import Derived.Test.YtcijgkefmolbbaaPFnExactLeastRatiox1
namespace Go.Proofs.Ytcijgkefmolbbaa.Pure
open Go.RowKit Go.Proofs.Ytcijgkefmolbbaa.PFnExactLeastRatio Go.Proofs.YtcijgkefmolbbaaW.PrintWords Go.Proofs.YtcijgkefmolbbaaW.PrintLast

-- Aid
theorem aid_wr {x : Int} (h0 : -9223372036854775808 ≤ x) (h1 : x ≤ 9223372036854775807) : wrap64 x = x := by unfold wrap64; omega
theorem aid_wf {x : Int} (h : (Lit.int .i64 x).wf = true) : -9223372036854775808 ≤ x ∧ x ≤ 9223372036854775807 := by
  have hmin : IntKind.i64.min = -9223372036854775808 := rfl
  have hmax : IntKind.i64.max = 9223372036854775807 := rfl
  simp only [Lit.wf, Bool.and_eq_true, decide_eq_true_eq, hmin, hmax] at h
  exact h
theorem aid_ev_bind {α β : Type} {g : Nat → Option α} {f : α → Option β} {a : α} {r : β} (h : Ev g a) (k : f a = some r) : Ev (fun n => (g n).bind f) r :=
  Ev.bind (f := fun _ => f) h ⟨0, fun _ _ => k⟩
theorem aid_ev_const {α : Type} {o : Option α} {r : α} (h : o = some r) : Ev (fun _ => o) r := ⟨0, fun _ _ => h⟩
theorem aid_tdiv {a b : Int} (ha : 0 ≤ a) : Int.tdiv a b = a / b := Int.tdiv_eq_ediv_of_nonneg ha
theorem aid_tmod {a b : Int} (ha : 0 ≤ a) : Int.tmod a b = a % b := Int.tmod_eq_emod_of_nonneg ha
theorem aid_next {i : Nat} (h : i ≤ 9223372036854775806) : wrap64 ((i : Int) + 1) = ((i + 1 : Nat) : Int) := by rw [aid_wr (by omega) (by omega)]; rfl
theorem aid_rd (l : List Int) (i : Nat) (h : i < l.length) : rd l (i : Int) = l[i] := by
  unfold rd
  rw [List.getD_eq_getElem?_getD, Int.toNat_natCast, List.getElem?_eq_getElem h]
  rfl

-- spec_l1In
theorem spec_l1In.eq (a lo hi : Int) : spec_l1In.f a lo hi = some (decide (lo ≤ a ∧ a ≤ hi)) := by
  unfold spec_l1In.f
  by_cases h : lo ≤ a <;> simp [h]

-- spec_rsRatio
theorem spec_rsRatio.eq (p q : Int) : spec_rsRatio.f p q = some (decide ((1 ≤ p ∧ p ≤ 8) ∧ (1 ≤ q ∧ q ≤ 8))) := by
  unfold spec_rsRatio.f
  rw [spec_l1In.eq, spec_l1In.eq]
  by_cases h : 1 ≤ p ∧ p ≤ 8 <;> simp [h]

-- spec_LeastRatio
theorem spec_LeastRatio.l0_ev (p q : Int) : ∀ (d : Nat) (a b : Nat), b ≤ d → 0 < a + b → Ev (fun k => spec_LeastRatio.l0 k p q (a : Int) (b : Int)) (wrap64 (Int.tdiv p ((Nat.gcd a b : Nat) : Int)), wrap64 (Int.tdiv q ((Nat.gcd a b : Nat) : Int)), true)
  | d, a, 0, _, h => by
    have ha : ¬ ((a : Int) = 0) := by omega
    refine Ev.step (f := fun _ => some (wrap64 (Int.tdiv p (a : Int)), wrap64 (Int.tdiv q (a : Int)), true)) (fun k => by simp only [spec_LeastRatio.l0]; rw [if_neg (by omega), if_neg ha]) (by simpa using Ev.now _)
  | 0, a, b + 1, h, _ => absurd h (by omega)
  | d + 1, a, b + 1, h, _ => by
    have ih := spec_LeastRatio.l0_ev p q d (b + 1) (a % (b + 1)) (by have := Nat.mod_lt a (show 0 < b + 1 by omega); omega) (by omega)
    have e : Nat.gcd a (b + 1) = Nat.gcd (b + 1) (a % (b + 1)) := by rw [Nat.gcd_comm, Nat.gcd_rec, Nat.gcd_comm]
    rw [e]
    refine Ev.step (fun k => ?_) ih
    have hb : ¬ (((b + 1 : Nat) : Int) = 0) := by omega
    have hb' : ((b + 1 : Nat) : Int) > 0 := by omega
    simp only [spec_LeastRatio.l0]
    rw [if_pos hb', if_neg hb, aid_tmod (by omega)]
    rfl

-- impl_in
theorem impl_in.eq (a lo hi : Int) : impl_in.f a lo hi = some (decide (lo ≤ a ∧ a ≤ hi)) := by
  unfold impl_in.f
  by_cases h : lo ≤ a <;> simp [h]

-- impl_isRatio
theorem impl_isRatio.eq (p q : Int) : impl_isRatio.f p q = some (decide ((1 ≤ p ∧ p ≤ 8) ∧ (1 ≤ q ∧ q ≤ 8))) := by
  unfold impl_isRatio.f
  rw [impl_in.eq, impl_in.eq]
  by_cases h : 1 ≤ p ∧ p ≤ 8 <;> simp [h]

-- impl_size
theorem impl_size.eq {x : Int} (h : -9223372036854775807 ≤ x) (h' : x ≤ 9223372036854775807) : impl_size.f x = some (x.natAbs : Int) := by
  unfold impl_size.f
  rw [aid_wr (by omega) (by omega)]
  unfold mx
  split <;> simp <;> omega

-- impl_gcd
theorem impl_gcd.l0_ev : ∀ (d : Nat) (a b : Nat), b ≤ d → Ev (fun k => impl_gcd.l0 k (a : Int) (b : Int)) ((Nat.gcd a b : Nat) : Int)
  | d, a, 0, _ => Ev.step (f := fun _ => some (a : Int)) (fun k => by simp [impl_gcd.l0]) (by simpa using Ev.now _)
  | 0, a, b + 1, h => absurd h (by omega)
  | d + 1, a, b + 1, h => by
    have ih := impl_gcd.l0_ev d (b + 1) (a % (b + 1)) (by have := Nat.mod_lt a (show 0 < b + 1 by omega); omega)
    have e : Nat.gcd a (b + 1) = Nat.gcd (b + 1) (a % (b + 1)) := by rw [Nat.gcd_comm, Nat.gcd_rec, Nat.gcd_comm]
    rw [e]
    refine Ev.step (fun k => ?_) ih
    have hb : ¬ (((b + 1 : Nat) : Int) = 0) := by omega
    simp only [impl_gcd.l0]
    rw [if_neg hb, aid_tmod (by omega)]
    rfl
theorem impl_gcd.ev {a b : Int} (ha : -9223372036854775807 ≤ a) (ha' : a ≤ 9223372036854775807) (hb : -9223372036854775807 ≤ b) (hb' : b ≤ 9223372036854775807) : Ev (fun k => impl_gcd.f k a b) ((Nat.gcd a.natAbs b.natAbs : Nat) : Int) := by
  unfold impl_gcd.f
  rw [impl_size.eq ha ha', impl_size.eq hb hb']
  exact impl_gcd.l0_ev _ _ _ (Nat.le_refl _)

theorem FnExactLeastRatio : laws_FnExactLeastRatio.Pure := by
  intro p q _ _
  refine Ev.rounds ?_
  unfold laws_FnExactLeastRatio.f spec_LeastRatio.f impl_LeastRatio.f
  rw [spec_rsRatio.eq, impl_isRatio.eq]
  by_cases h : (1 ≤ p ∧ p ≤ 8) ∧ (1 ≤ q ∧ q ≤ 8)
  · simp only [h, decide_true, Option.bind_some, if_true, and_self]
    obtain ⟨a, rfl⟩ := Int.eq_ofNat_of_zero_le (show 0 ≤ p by omega)
    obtain ⟨b, rfl⟩ := Int.eq_ofNat_of_zero_le (show 0 ≤ q by omega)
    have h1 := spec_LeastRatio.l0_ev (a : Int) (b : Int) b a b (Nat.le_refl _) (by omega)
    have h2 := impl_gcd.ev (a := (a : Int)) (b := (b : Int)) (by omega) (by omega) (by omega) (by omega)
    have hg : ¬ (((Nat.gcd a b : Nat) : Int) = 0) := by
      have := Nat.gcd_pos_of_pos_left b (show 0 < a by omega)
      omega
    refine Ev.bind h1 (Ev.bind (f := fun _ _ => _) (Ev.bind (f := fun _ _ => _) h2 (aid_ev_const (by simp only [Int.natAbs_natCast]; rw [if_neg hg]))) (aid_ev_const ?_))
    simp
  · simp only [h, decide_false, Option.bind_some]
    simp
    exact Ev.now _

end Go.Proofs.Ytcijgkefmolbbaa.Pure
