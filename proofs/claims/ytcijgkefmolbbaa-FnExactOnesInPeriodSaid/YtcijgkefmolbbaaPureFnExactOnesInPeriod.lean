/- Proves that the program's OnesInPeriod returns what the reference's returns, for all arguments. Conditions: none. -/
import Derived.Test.YtcijgkefmolbbaaPFnExactOnesInPeriodx1
namespace Go.Proofs.Ytcijgkefmolbbaa.Pure
open Go.RowKit Go.Proofs.Ytcijgkefmolbbaa.PFnExactOnesInPeriod Go.Proofs.YtcijgkefmolbbaaW.PrintWords Go.Proofs.YtcijgkefmolbbaaW.PrintLast

-- Aid
theorem aid_wr {x : Int} (h0 : -9223372036854775808 ≤ x) (h1 : x ≤ 9223372036854775807) : wrap64 x = x := by unfold wrap64; omega
theorem aid_wf {x : Int} (h : (Lit.int .i64 x).wf = true) : -9223372036854775808 ≤ x ∧ x ≤ 9223372036854775807 := by
  have hmin : IntKind.i64.min = -9223372036854775808 := rfl
  have hmax : IntKind.i64.max = 9223372036854775807 := rfl
  simp only [Lit.wf, Bool.and_eq_true, decide_eq_true_eq, hmin, hmax] at h
  exact h
theorem aid_ev_bind {α β : Type} {g : Nat → Option α} {f : α → Option β} {a : α} {r : β} (h : Ev g a) (k : f a = some r) : Ev (fun n => (g n).bind f) r :=
  Ev.bind (f := fun _ => f) h ⟨0, fun _ _ => k⟩
theorem aid_ev_const {α : Type} {o : Option α} {r : α} (h : o = some r) : Ev (fun _ => o) r := ⟨0, fun _ _ => h⟩
theorem aid_tdiv {a b : Int} (ha : 0 ≤ a) : Int.tdiv a b = a / b := Int.tdiv_eq_ediv_of_nonneg ha
theorem aid_tmod {a b : Int} (ha : 0 ≤ a) : Int.tmod a b = a % b := Int.tmod_eq_emod_of_nonneg ha
theorem aid_next {i : Nat} (h : i ≤ 9223372036854775806) : wrap64 ((i : Int) + 1) = ((i + 1 : Nat) : Int) := by rw [aid_wr (by omega) (by omega)]; rfl
theorem aid_rd (l : List Int) (i : Nat) (h : i < l.length) : rd l (i : Int) = l[i] := by
  unfold rd
  rw [List.getD_eq_getElem?_getD, Int.toNat_natCast, List.getElem?_eq_getElem h]
  rfl

-- spec_l1In
theorem spec_l1In.eq (a lo hi : Int) : spec_l1In.f a lo hi = some (decide (lo ≤ a ∧ a ≤ hi)) := by
  unfold spec_l1In.f
  by_cases h : lo ≤ a <;> simp [h]

-- spec_dmScale
theorem spec_dmScale.eq (m : Int) : spec_dmScale.f m = some (decide (1 ≤ m ∧ m ≤ 1000)) := by
  unfold spec_dmScale.f
  rw [spec_l1In.eq]
  rfl

-- spec_dmNumber
theorem spec_dmNumber.eq (m x : Int) : spec_dmNumber.f m x = some (decide ((1 ≤ m ∧ m ≤ 1000) ∧ (-m ≤ x ∧ x ≤ m))) := by
  unfold spec_dmNumber.f
  rw [spec_dmScale.eq]
  by_cases h : 1 ≤ m ∧ m ≤ 1000
  · rw [aid_wr (by omega) (by omega), spec_l1In.eq]
    simp [h]
  · simp [h]

-- Period
theorem aid_period {A B : Nat} (hA : 0 < A) (j : Nat) : A ∣ j * B ↔ A / Nat.gcd A B ∣ j := by
  have hg : 0 < Nat.gcd A B := Nat.gcd_pos_of_pos_left _ hA
  have h1 : A / Nat.gcd A B * Nat.gcd A B = A := Nat.div_mul_cancel (Nat.gcd_dvd_left A B)
  have h2 : B / Nat.gcd A B * Nat.gcd A B = B := Nat.div_mul_cancel (Nat.gcd_dvd_right A B)
  have hc := Nat.coprime_div_gcd_div_gcd hg
  generalize Nat.gcd A B = g at hg h1 h2 hc ⊢
  generalize A / g = a at h1 hc ⊢
  generalize B / g = b at h2 hc
  constructor
  · rintro ⟨c, h⟩
    apply hc.dvd_of_dvd_mul_right
    refine ⟨c, ?_⟩
    apply Nat.eq_of_mul_eq_mul_right hg
    rw [Nat.mul_assoc, h2, h, ← h1, Nat.mul_assoc, Nat.mul_comm g c, ← Nat.mul_assoc]
  · rintro ⟨c, rfl⟩
    refine ⟨c * b, ?_⟩
    rw [← h1, ← h2, Nat.mul_assoc a c, Nat.mul_assoc a g, ← Nat.mul_assoc c b g, Nat.mul_comm (c * b) g]
theorem aid_small_mult {A s : Int} {q : Int} (hA : 0 < A) (h : s = A * q) (h1 : -A < s) (h2 : s < A) : s = 0 := by
  have hq : q = 0 := by
    rcases Int.lt_trichotomy q 0 with hq | hq | hq
    · have := Int.mul_le_mul_of_nonneg_left (show q ≤ -1 by omega) (Int.le_of_lt hA)
      omega
    · exact hq
    · have := Int.mul_le_mul_of_nonneg_left (show 1 ≤ q by omega) (Int.le_of_lt hA)
      omega
  rw [h, hq, Int.mul_zero]

-- spec_dmPeriod
set_option maxHeartbeats 4000000 in
theorem spec_dmPeriod.l0_ev (m x : Int) (hm : 1 ≤ m) (hm' : m ≤ 1000) (hx : -m ≤ x) (hx' : x ≤ m) (P : Nat) (hP : P = (2 * m).toNat / Nat.gcd (2 * m).toNat (x + m).toNat) :
    ∀ (d : Nat) (s ones : Int) (n : Nat), n + d + 1 = P → s = (n : Int) * (x + m) - 2 * m * ones → -m ≤ s → s < m → 0 ≤ ones → ones ≤ n →
      Ev (fun k => spec_dmPeriod.l0 k m x s ones (n : Int)) ((P : Int), (P : Int) * (x + m) / (2 * m)) := by
  have hP2 : P ≤ (2 * m).toNat := by rw [hP]; exact Nat.div_le_self _ _
  have hdiv : ∀ j : Nat, (∃ q : Int, (j : Int) * (x + m) = 2 * m * q) ↔ P ∣ j := by
    intro j
    rw [hP, ← aid_period (show 0 < (2 * m).toNat by omega), ← Int.natCast_dvd_natCast, Int.natCast_mul, Int.toNat_of_nonneg (by omega), Int.toNat_of_nonneg (by omega)]
    rfl
  have goOn : ∀ (n : Nat) (s' ones' : Int), s' = ((n + 1 : Nat) : Int) * (x + m) - 2 * m * ones' → -m ≤ s' → s' < m → (s' = 0 ↔ P ∣ n + 1) := by
    intro n s' ones' h h1 h2
    rw [← hdiv]
    constructor
    · intro h0
      exact ⟨ones', by omega⟩
    · rintro ⟨q, hq⟩
      refine aid_small_mult (A := 2 * m) (q := q - ones') (by omega) ?_ (by omega) (by omega)
      rw [Int.mul_sub, ← hq]
      exact h
  intro d
  induction d with
  | zero =>
    intro s ones n hn hs h1 h2 h3 h4
    have hPn : P = n + 1 := by omega
    have hA : 2 * m * (ones + 1) = 2 * m * ones + 2 * m := by rw [Int.mul_add, Int.mul_one]
    have hmul : ((n + 1 : Nat) : Int) * (x + m) = (n : Int) * (x + m) + (x + m) := by rw [Int.natCast_add, Int.add_mul]; simp
    by_cases hy : s + x ≥ 0
    · have hz : s + x - m = 0 := (goOn n (s + x - m) (ones + 1) (by rw [hmul, hA]; omega) (by omega) (by omega)).2 (by rw [hPn]; exact Nat.dvd_refl _)
      have hq : (P : Int) * (x + m) / (2 * m) = ones + 1 := by
        have : (P : Int) * (x + m) = 2 * m * (ones + 1) := by rw [hPn, hmul, hA]; omega
        rw [this]
        exact Int.mul_ediv_cancel_left _ (by omega)
      refine Ev.step (fun k => ?_) (Ev.now _)
      simp only [spec_dmPeriod.l0]
      rw [if_pos (by omega), aid_wr (x := s + x) (by omega) (by omega), if_pos hy, aid_wr (x := s + x - m) (by omega) (by omega), if_pos hz, aid_next (i := n) (by omega), aid_wr (by omega) (by omega), hq, hPn]
    · have hz : s + x + m = 0 := (goOn n (s + x + m) ones (by rw [hmul]; omega) (by omega) (by omega)).2 (by rw [hPn]; exact Nat.dvd_refl _)
      have hq : (P : Int) * (x + m) / (2 * m) = ones := by
        have : (P : Int) * (x + m) = 2 * m * ones := by rw [hPn, hmul]; omega
        rw [this]
        exact Int.mul_ediv_cancel_left _ (by omega)
      refine Ev.step (fun k => ?_) (Ev.now _)
      simp only [spec_dmPeriod.l0]
      rw [if_pos (by omega), aid_wr (x := s + x) (by omega) (by omega), if_neg hy, aid_wr (x := s + x + m) (by omega) (by omega), if_pos hz, aid_next (i := n) (by omega), hq, hPn]
  | succ d ih =>
    intro s ones n hn hs h1 h2 h3 h4
    have hA : 2 * m * (ones + 1) = 2 * m * ones + 2 * m := by rw [Int.mul_add, Int.mul_one]
    have hmul : ((n + 1 : Nat) : Int) * (x + m) = (n : Int) * (x + m) + (x + m) := by rw [Int.natCast_add, Int.add_mul]; simp
    have hnd : ¬ P ∣ n + 1 := fun h => by have := Nat.le_of_dvd (by omega) h; omega
    by_cases hy : s + x ≥ 0
    · have e1 : s + x - m = ((n + 1 : Nat) : Int) * (x + m) - 2 * m * (ones + 1) := by rw [hmul, hA]; omega
      have hz : ¬ s + x - m = 0 := fun h => hnd ((goOn n (s + x - m) (ones + 1) e1 (by omega) (by omega)).1 h)
      refine Ev.step (fun k => ?_) (ih (s + x - m) (ones + 1) (n + 1) (by omega) e1 (by omega) (by omega) (by omega) (by omega))
      simp only [spec_dmPeriod.l0]
      rw [if_pos (by omega), aid_wr (x := s + x) (by omega) (by omega), if_pos hy, aid_wr (x := s + x - m) (by omega) (by omega), if_neg hz, aid_next (i := n) (by omega), aid_wr (x := ones + 1) (by omega) (by omega)]
    · have e1 : s + x + m = ((n + 1 : Nat) : Int) * (x + m) - 2 * m * ones := by rw [hmul]; omega
      have hz : ¬ s + x + m = 0 := fun h => hnd ((goOn n (s + x + m) ones e1 (by omega) (by omega)).1 h)
      refine Ev.step (fun k => ?_) (ih (s + x + m) ones (n + 1) (by omega) e1 (by omega) (by omega) (by omega) (by omega))
      simp only [spec_dmPeriod.l0]
      rw [if_pos (by omega), aid_wr (x := s + x) (by omega) (by omega), if_neg hy, aid_wr (x := s + x + m) (by omega) (by omega), if_neg hz, aid_next (i := n) (by omega)]
theorem spec_dmPeriod.ev (m x : Int) (hm : 1 ≤ m) (hm' : m ≤ 1000) (hx : -m ≤ x) (hx' : x ≤ m) :
    Ev (fun k => spec_dmPeriod.f k m x) ((((2 * m).toNat / Nat.gcd (2 * m).toNat (x + m).toNat : Nat) : Int), (((2 * m).toNat / Nat.gcd (2 * m).toNat (x + m).toNat : Nat) : Int) * (x + m) / (2 * m)) := by
  have hpos : 0 < (2 * m).toNat / Nat.gcd (2 * m).toNat (x + m).toNat :=
    Nat.div_pos (Nat.le_of_dvd (by omega) (Nat.gcd_dvd_left _ _)) (Nat.gcd_pos_of_pos_left _ (by omega))
  exact spec_dmPeriod.l0_ev m x hm hm' hx hx' _ rfl ((2 * m).toNat / Nat.gcd (2 * m).toNat (x + m).toNat - 1) 0 0 0 (by omega) (by simp) (by omega) (by omega) (by omega) (by omega)

-- impl_size
theorem impl_size.eq {x : Int} (h : -9223372036854775807 ≤ x) (h' : x ≤ 9223372036854775807) : impl_size.f x = some (x.natAbs : Int) := by
  unfold impl_size.f
  rw [aid_wr (by omega) (by omega)]
  unfold mx
  split <;> simp <;> omega

-- impl_gcd
theorem impl_gcd.l0_ev : ∀ (d : Nat) (a b : Nat), b ≤ d → Ev (fun k => impl_gcd.l0 k (a : Int) (b : Int)) ((Nat.gcd a b : Nat) : Int)
  | d, a, 0, _ => Ev.step (f := fun _ => some (a : Int)) (fun k => by simp [impl_gcd.l0]) (by simpa using Ev.now _)
  | 0, a, b + 1, h => absurd h (by omega)
  | d + 1, a, b + 1, h => by
    have ih := impl_gcd.l0_ev d (b + 1) (a % (b + 1)) (by have := Nat.mod_lt a (show 0 < b + 1 by omega); omega)
    have e : Nat.gcd a (b + 1) = Nat.gcd (b + 1) (a % (b + 1)) := by rw [Nat.gcd_comm, Nat.gcd_rec, Nat.gcd_comm]
    rw [e]
    refine Ev.step (fun k => ?_) ih
    have hb : ¬ (((b + 1 : Nat) : Int) = 0) := by omega
    simp only [impl_gcd.l0]
    rw [if_neg hb, aid_tmod (by omega)]
    rfl
theorem impl_gcd.ev {a b : Int} (ha : -9223372036854775807 ≤ a) (ha' : a ≤ 9223372036854775807) (hb : -9223372036854775807 ≤ b) (hb' : b ≤ 9223372036854775807) : Ev (fun k => impl_gcd.f k a b) ((Nat.gcd a.natAbs b.natAbs : Nat) : Int) := by
  unfold impl_gcd.f
  rw [impl_size.eq ha ha', impl_size.eq hb hb']
  exact impl_gcd.l0_ev _ _ _ (Nat.le_refl _)

-- impl_in
theorem impl_in.eq (a lo hi : Int) : impl_in.f a lo hi = some (decide (lo ≤ a ∧ a ≤ hi)) := by
  unfold impl_in.f
  by_cases h : lo ≤ a <;> simp [h]

-- impl_isConstant
theorem impl_isConstant.eq (m x : Int) : impl_isConstant.f m x = some (decide ((1 ≤ m ∧ m ≤ 1000) ∧ (-m ≤ x ∧ x ≤ m))) := by
  unfold impl_isConstant.f
  rw [impl_in.eq]
  by_cases h : 1 ≤ m ∧ m ≤ 1000
  · rw [aid_wr (by omega) (by omega), impl_in.eq]
    simp [h]
  · simp [h]

-- impl_PeriodOfConstant
theorem impl_PeriodOfConstant.ev (m x : Int) (h : (1 ≤ m ∧ m ≤ 1000) ∧ (-m ≤ x ∧ x ≤ m)) :
    Ev (fun k => impl_PeriodOfConstant.f k m x) ((((2 * m).toNat / Nat.gcd (2 * m).toNat (x + m).toNat : Nat) : Int), true) := by
  unfold impl_PeriodOfConstant.f
  rw [impl_isConstant.eq]
  simp only [h, decide_true, Option.bind_some, if_true, and_self]
  rw [aid_wr (x := 2 * m) (by omega) (by omega), aid_wr (x := x + m) (by omega) (by omega)]
  have hg := impl_gcd.ev (a := 2 * m) (b := x + m) (by omega) (by omega) (by omega) (by omega)
  have e1 : (2 * m).natAbs = (2 * m).toNat := by omega
  have e2 : (x + m).natAbs = (x + m).toNat := by omega
  rw [e1, e2] at hg
  have hpos : 0 < Nat.gcd (2 * m).toNat (x + m).toNat := Nat.gcd_pos_of_pos_left _ (by omega)
  refine aid_ev_bind hg ?_
  rw [if_neg (by omega), aid_tdiv (by omega)]
  have e3 : 2 * m / ((Nat.gcd (2 * m).toNat (x + m).toNat : Nat) : Int) = (((2 * m).toNat / Nat.gcd (2 * m).toNat (x + m).toNat : Nat) : Int) := by
    rw [Int.natCast_ediv, Int.toNat_of_nonneg (by omega)]
  rw [e3]
  have hle : (2 * m).toNat / Nat.gcd (2 * m).toNat (x + m).toNat ≤ (2 * m).toNat := Nat.div_le_self _ _
  generalize (2 * m).toNat / Nat.gcd (2 * m).toNat (x + m).toNat = P at hle ⊢
  rw [aid_wr (by omega) (by omega)]
theorem impl_PeriodOfConstant.ev_not (m x : Int) (h : ¬ ((1 ≤ m ∧ m ≤ 1000) ∧ (-m ≤ x ∧ x ≤ m))) :
    Ev (fun k => impl_PeriodOfConstant.f k m x) (0, false) := by
  unfold impl_PeriodOfConstant.f
  rw [impl_isConstant.eq]
  simp only [h, decide_false, Option.bind_some]
  simp
  exact Ev.now _

theorem FnExactOnesInPeriod : laws_FnExactOnesInPeriod.Pure := by
  intro m x _ _
  refine Ev.rounds ?_
  unfold laws_FnExactOnesInPeriod.f
  by_cases h : (1 ≤ m ∧ m ≤ 1000) ∧ (-m ≤ x ∧ x ≤ m)
  · have h1 := spec_dmPeriod.ev m x h.1.1 h.1.2 h.2.1 h.2.2
    have hle : (2 * m).toNat / Nat.gcd (2 * m).toNat (x + m).toNat ≤ (2 * m).toNat := Nat.div_le_self _ _
    have h2 := impl_PeriodOfConstant.ev m x h
    generalize (2 * m).toNat / Nat.gcd (2 * m).toNat (x + m).toNat = P at h1 h2 hle
    refine Ev.bind (a := ((P : Int) * (x + m) / (2 * m), true)) ?_ (Ev.bind (f := fun _ _ => _) (a := ((P : Int) * (x + m) / (2 * m), true)) ?_ (aid_ev_const (by simp)))
    · unfold spec_OnesInPeriod.f
      rw [spec_dmNumber.eq]
      simp only [h, decide_true, Option.bind_some, if_true, and_self]
      exact aid_ev_bind h1 rfl
    · unfold impl_OnesInPeriod.f
      refine aid_ev_bind h2 ?_
      have hb : (P : Int) * (x + m) ≤ 2000 * 2000 := Int.mul_le_mul (by omega) (by omega) (by omega) (by omega)
      have hb0 : 0 ≤ (P : Int) * (x + m) := Int.mul_nonneg (by omega) (by omega)
      have hd := Int.ediv_le_self (2 * m) hb0
      have hd0 : 0 ≤ (P : Int) * (x + m) / (2 * m) := Int.ediv_nonneg hb0 (by omega)
      simp only [if_true]
      rw [aid_wr (x := 2 * m) (by omega) (by omega), if_neg (by omega), aid_wr (x := x + m) (by omega) (by omega), aid_wr (x := (P : Int) * (x + m)) (by omega) (by omega), aid_tdiv hb0, aid_wr (by omega) (by omega)]
  · refine Ev.bind (a := ((0 : Int), false)) ?_ (Ev.bind (f := fun _ _ => _) (a := ((0 : Int), false)) ?_ (aid_ev_const (by simp)))
    · unfold spec_OnesInPeriod.f
      rw [spec_dmNumber.eq]
      simp only [h, decide_false, Option.bind_some]
      simp
      exact Ev.now _
    · unfold impl_OnesInPeriod.f
      refine aid_ev_bind (impl_PeriodOfConstant.ev_not m x h) ?_
      simp

end Go.Proofs.Ytcijgkefmolbbaa.Pure
