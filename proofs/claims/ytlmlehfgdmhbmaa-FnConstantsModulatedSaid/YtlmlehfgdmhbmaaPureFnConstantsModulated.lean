/- Proves that the program's FnConstantsModulated returns what the reference's returns, for all arguments. Conditions: none. -/
import Derived.Test.YtlmlehfgdmhbmaaPFnConstantsModulatedx9
namespace Go.Proofs.Ytlmlehfgdmhbmaa.Pure
open Go.RowKit Go.Proofs.Ytlmlehfgdmhbmaa.PFnConstantsModulated Go.Proofs.YtlmlehfgdmhbmaaW.PrintWords Go.Proofs.YtlmlehfgdmhbmaaW.PrintLast
set_option linter.unusedSimpArgs false
set_option linter.unusedVariables false

-- Aid
theorem aid_wr {x : Int} (h0 : -9223372036854775808 ≤ x) (h1 : x ≤ 9223372036854775807) : wrap64 x = x := by unfold wrap64; omega
theorem aid_wf {x : Int} (h : (Lit.int .i64 x).wf = true) : -9223372036854775808 ≤ x ∧ x ≤ 9223372036854775807 := by
  have hmin : IntKind.i64.min = -9223372036854775808 := rfl
  have hmax : IntKind.i64.max = 9223372036854775807 := rfl
  simp only [Lit.wf, Bool.and_eq_true, decide_eq_true_eq, hmin, hmax] at h
  exact h
theorem aid_ev_bind {α β : Type} {g : Nat → Option α} {f : α → Option β} {a : α} {r : β} (h : Ev g a) (k : f a = some r) : Ev (fun n => (g n).bind f) r :=
  Ev.bind (f := fun _ => f) h ⟨0, fun _ _ => k⟩
theorem aid_ev_const {α : Type} {o : Option α} {r : α} (h : o = some r) : Ev (fun _ => o) r := ⟨0, fun _ _ => h⟩
theorem aid_tdiv {a b : Int} (ha : 0 ≤ a) : Int.tdiv a b = a / b := Int.tdiv_eq_ediv_of_nonneg ha
theorem aid_tmod {a b : Int} (ha : 0 ≤ a) : Int.tmod a b = a % b := Int.tmod_eq_emod_of_nonneg ha
theorem aid_next {i : Nat} (h : i ≤ 9223372036854775806) : wrap64 ((i : Int) + 1) = ((i + 1 : Nat) : Int) := by rw [aid_wr (by omega) (by omega)]; rfl
theorem aid_rd (l : List Int) (i : Nat) (h : i < l.length) : rd l (i : Int) = l[i] := by
  unfold rd
  rw [List.getD_eq_getElem?_getD, Int.toNat_natCast, List.getElem?_eq_getElem h]
  rfl
theorem aid_ev_succ {α : Type} {g : Nat → Option α} {r : α} (h : Ev (fun k => g (k + 1)) r) : Ev g r := Ev.step (fun _ => rfl) h

-- Modu
def bitI (y : Int) : Int := if y ≥ 0 then 1 else -1
def modB (m : Int) : List Int → Int → List Int
  | [], _ => []
  | x :: r, s => bitI (s + x) :: modB m r (s + x - m * bitI (s + x))
def modS (m : Int) : List Int → Int → List Int
  | [], _ => []
  | x :: r, s => (s + x - m * bitI (s + x)) :: modS m r (s + x - m * bitI (s + x))
theorem modB_length (m : Int) : ∀ (l : List Int) (s : Int), (modB m l s).length = l.length
  | [], _ => rfl
  | x :: r, s => by simp [modB, modB_length m r]
theorem modS_length (m : Int) : ∀ (l : List Int) (s : Int), (modS m l s).length = l.length
  | [], _ => rfl
  | x :: r, s => by simp [modS, modS_length m r]
theorem modB_bits (m : Int) : ∀ (l : List Int) (s : Int), ∀ b ∈ modB m l s, b = 1 ∨ b = -1
  | x :: r, s, b, h => by
    rcases List.mem_cons.1 h with h | h
    · rw [h]
      unfold bitI
      split <;> simp
    · exact modB_bits m r _ b h
theorem mod_state {m s x : Int} (hm : 1 ≤ m) (hx : -m ≤ x ∧ x ≤ m) (hs : -m ≤ s ∧ s < m) : -m ≤ s + x - m * bitI (s + x) ∧ s + x - m * bitI (s + x) < m := by
  unfold bitI
  split <;> omega

-- ConstQ
/-- The ones among the first j bits of a constant: A = x + m. -/
def cQ (m A : Int) (j : Nat) : Int := ((j : Int) * A + m) / (2 * m)
theorem cQ_spec {m : Int} (hm : 1 ≤ m) (A : Int) (j : Nat) : 2 * m * cQ m A j ≤ (j : Int) * A + m ∧ (j : Int) * A + m < 2 * m * cQ m A j + 2 * m :=
  ⟨Int.mul_ediv_self_le (by omega), Int.lt_mul_ediv_self_add (by omega)⟩
theorem cQ_le {m a b T : Int} (hm : 1 ≤ m) (h1 : 2 * m * a ≤ T) (h2 : T < 2 * m * b + 2 * m) : a ≤ b := by
  apply Int.not_lt.1
  intro h
  have h3 : 2 * m * (b + 1) ≤ 2 * m * a := Int.mul_le_mul_of_nonneg_left (by omega) (by omega)
  rw [Int.mul_add, Int.mul_one] at h3
  omega
theorem cQ_uniq {m : Int} (hm : 1 ≤ m) (A : Int) (j : Nat) (a : Int) (h1 : 2 * m * a ≤ (j : Int) * A + m) (h2 : (j : Int) * A + m < 2 * m * a + 2 * m) : cQ m A j = a := by
  obtain ⟨h3, h4⟩ := cQ_spec hm A j
  exact Int.le_antisymm (cQ_le hm h3 h2) (cQ_le hm h1 h4)
theorem cQ_zero {m : Int} (hm : 1 ≤ m) (A : Int) : cQ m A 0 = 0 := cQ_uniq hm A 0 0 (by simp; omega) (by simp; omega)
/-- The j-th bit. -/
def cB (m A : Int) (j : Nat) : Int := 2 * (cQ m A (j + 1) - cQ m A j) - 1
theorem cQ_next {m x : Int} (hm : 1 ≤ m) (hx : -m ≤ x ∧ x ≤ m) (j : Nat) : cB m (x + m) j = bitI ((j : Int) * (x + m) - 2 * m * cQ m (x + m) j + x) := by
  obtain ⟨h3, h4⟩ := cQ_spec hm (x + m) j
  have e : ((j + 1 : Nat) : Int) * (x + m) = (j : Int) * (x + m) + (x + m) := by rw [Int.natCast_succ, Int.add_mul, Int.one_mul]
  unfold cB bitI
  by_cases h : (j : Int) * (x + m) - 2 * m * cQ m (x + m) j + x ≥ 0
  · rw [if_pos h, cQ_uniq hm (x + m) (j + 1) (cQ m (x + m) j + 1) (by rw [e, Int.mul_add (2 * m), Int.mul_one]; omega) (by rw [e, Int.mul_add (2 * m), Int.mul_one]; omega)]
    omega
  · rw [if_neg h, cQ_uniq hm (x + m) (j + 1) (cQ m (x + m) j) (by rw [e]; omega) (by rw [e]; omega)]
    omega
def cL (m A : Int) : Nat → Nat → List Int
  | 0, _ => []
  | n + 1, j => cB m A j :: cL m A n (j + 1)
theorem cL_length (m A : Int) : ∀ n j, (cL m A n j).length = n
  | 0, _ => rfl
  | n + 1, j => by rw [cL, List.length_cons, cL_length m A n]
theorem cL_get (m A : Int) : ∀ (n j i : Nat) (h : i < (cL m A n j).length), (cL m A n j)[i] = cB m A (j + i)
  | n + 1, j, 0, _ => rfl
  | n + 1, j, i + 1, h => by
    show (cL m A n (j + 1))[i]'_ = _
    rw [cL_get m A n (j + 1) i]
    congr 1
    omega
theorem modB_cL {m x : Int} (hm : 1 ≤ m) (hx : -m ≤ x ∧ x ≤ m) : ∀ (n j : Nat), modB m (List.replicate n x) ((j : Int) * (x + m) - 2 * m * cQ m (x + m) j) = cL m (x + m) n j
  | 0, _ => rfl
  | n + 1, j => by
    have h := modB_cL hm hx n (j + 1)
    have hb := cQ_next hm hx j
    rw [List.replicate_succ, modB, cL, ← hb]
    congr 1
    rw [← h]
    congr 1
    have e : ((j + 1 : Nat) : Int) * (x + m) = (j : Int) * (x + m) + (x + m) := by rw [Int.natCast_succ, Int.add_mul, Int.one_mul]
    have e2 : m * cB m (x + m) j = 2 * m * cQ m (x + m) (j + 1) - 2 * m * cQ m (x + m) j - m := by
      unfold cB
      rw [Int.mul_sub, Int.mul_one, ← Int.mul_assoc, Int.mul_comm m 2, Int.mul_sub]
    rw [e, e2]
    omega
theorem modB_const {m x : Int} (hm : 1 ≤ m) (hx : -m ≤ x ∧ x ≤ m) (n : Nat) : modB m (List.replicate n x) 0 = cL m (x + m) n 0 := by
  have h := modB_cL hm hx n 0
  rw [cQ_zero hm] at h
  simpa using h
/-- Windows of one length have nearly as many ones. -/
theorem cQ_near {m : Int} (hm : 1 ≤ m) (A : Int) (w i j : Nat) : (cQ m A (i + w) - cQ m A i) - (cQ m A (j + w) - cQ m A j) ≤ 1 := by
  obtain ⟨a1, a2⟩ := cQ_spec hm A (i + w)
  obtain ⟨b1, b2⟩ := cQ_spec hm A i
  obtain ⟨c1, c2⟩ := cQ_spec hm A (j + w)
  obtain ⟨d1, d2⟩ := cQ_spec hm A j
  rw [Int.natCast_add, Int.add_mul] at a1 a2 c1 c2
  have h : 2 * m * ((cQ m A (i + w) - cQ m A i) - (cQ m A (j + w) - cQ m A j)) < 2 * m * 2 := by
    rw [Int.mul_sub, Int.mul_sub, Int.mul_sub]
    omega
  have := Int.lt_of_mul_lt_mul_left h (by omega)
  omega
/-- A time of which the sum is whole: the ones come again. -/
theorem cQ_period {m A : Int} (hm : 1 ≤ m) (P : Nat) (K : Int) (hP : (P : Int) * A = 2 * m * K) (j : Nat) : cQ m A (j + P) = cQ m A j + K := by
  obtain ⟨b1, b2⟩ := cQ_spec hm A j
  apply cQ_uniq hm A (j + P)
  · rw [Int.natCast_add, Int.add_mul, hP, Int.mul_add]; omega
  · rw [Int.natCast_add, Int.add_mul, hP, Int.mul_add]; omega
theorem cB_period {m A : Int} (hm : 1 ≤ m) (P : Nat) (K : Int) (hP : (P : Int) * A = 2 * m * K) (j : Nat) : cB m A (j + P) = cB m A j := by
  unfold cB
  rw [show j + P + 1 = (j + 1) + P by omega, cQ_period hm P K hP, cQ_period hm P K hP]
  omega
/-- More is no fewer ones. -/
theorem cQ_mono {m A B : Int} (hm : 1 ≤ m) (h : A ≤ B) (j : Nat) : cQ m A j ≤ cQ m B j := by
  obtain ⟨a1, a2⟩ := cQ_spec hm A j
  obtain ⟨b1, b2⟩ := cQ_spec hm B j
  have h2 : (j : Int) * A ≤ (j : Int) * B := Int.mul_le_mul_of_nonneg_left h (by omega)
  exact cQ_le hm (a := cQ m A j) (T := (j : Int) * B + m) (by omega) b2
theorem cL_cQ {m A B : Int} (hm : 1 ≤ m) (n : Nat) (h : cL m A n 0 = cL m B n 0) : ∀ j, j ≤ n → cQ m A j = cQ m B j := by
  intro j
  induction j with
  | zero => intro _; rw [cQ_zero hm, cQ_zero hm]
  | succ j ih =>
    intro hj
    have h1 := ih (by omega)
    have hA := cL_get m A n 0 j (by rw [cL_length]; omega)
    have hB := cL_get m B n 0 j (by rw [cL_length]; omega)
    simp only [h] at hA
    rw [hB] at hA
    rw [Nat.zero_add] at hA
    unfold cB at hA
    omega
theorem cL_between {m A B C : Int} (hm : 1 ≤ m) (n : Nat) (h : cL m A n 0 = cL m C n 0) (h1 : A ≤ B) (h2 : B ≤ C) : cL m B n 0 = cL m A n 0 := by
  have hq := cL_cQ hm n h
  have hB : ∀ j, j ≤ n → cQ m B j = cQ m A j := fun j hj => by
    have a := cQ_mono hm h1 j
    have b := cQ_mono hm h2 j
    have c := hq j hj
    omega
  apply List.ext_getElem
  · rw [cL_length, cL_length]
  · intro i h3 h4
    rw [cL_get, cL_get]
    rw [cL_length] at h3
    unfold cB
    rw [Nat.zero_add, hB (i + 1) (by omega), hB i (by omega)]

-- Bits
def bitsB (l : List Int) : Bool := decide (l.length ≤ 200) && l.all fun x => decide (x = 1 ∨ x = -1)
theorem bitsB_iff (l : List Int) : bitsB l = true ↔ l.length ≤ 200 ∧ ∀ x ∈ l, x = 1 ∨ x = -1 := by
  simp [bitsB]

-- spec_dmBits
theorem spec_dmBits.l0_ev (l : List Int) (hl : l.length ≤ 200) : ∀ (d i : Nat), i + d = l.length → Ev (fun k => spec_dmBits.l0 k l (l.length : Int) (i : Int)) ((l.drop i).all fun x => decide (x = 1 ∨ x = -1)) := by
  intro d
  induction d with
  | zero =>
    intro i h
    rw [List.drop_eq_nil_of_le (by omega)]
    refine Ev.step (fun k => ?_) (Ev.now _)
    simp only [spec_dmBits.l0]
    rw [if_neg (by omega)]
    rfl
  | succ d ih =>
    intro i h
    have hi' : i < l.length := by omega
    rw [List.drop_eq_getElem_cons hi', List.all_cons, ← aid_rd l i hi']
    by_cases hc : rd l i = 1
    · refine Ev.step (fun k => ?_) (by simpa [hc] using ih (i + 1) (by omega))
      simp only [spec_dmBits.l0]
      rw [if_pos (by omega), if_pos (by omega), if_pos (by omega), if_pos hc, aid_next (by omega)]
      rfl
    · by_cases hc' : rd l i = -1
      · refine Ev.step (fun k => ?_) (by simpa [hc'] using ih (i + 1) (by omega))
        simp only [spec_dmBits.l0]
        rw [if_pos (by omega), if_pos (by omega), if_pos (by omega), if_neg hc, if_pos hc', aid_next (by omega)]
        rfl
      · refine Ev.step (f := fun _ => some false) (fun k => ?_) (by simpa [hc, hc'] using Ev.now false)
        simp only [spec_dmBits.l0]
        rw [if_pos (by omega), if_pos (by omega), if_pos (by omega), if_neg hc, if_neg hc']
theorem spec_dmBits.ev (l : List Int) : Ev (fun k => spec_dmBits.f k l) (bitsB l) := by
  unfold spec_dmBits.f bitsB
  by_cases h : l.length ≤ 200
  · simp only [h, decide_true, Bool.true_and]
    exact Ev.congr (fun k => if_neg (by omega)) (spec_dmBits.l0_ev l h l.length 0 (by omega))
  · simp only [h, decide_false, Bool.false_and]
    exact Ev.congr (fun k => if_pos (by omega)) (Ev.now _)

-- Sums
def sumL : List Int → Int → Int
  | [], a => a
  | x :: r, a => sumL r (a + x)
theorem sumL_add : ∀ (l : List Int) (a : Int), sumL l a = a + sumL l 0
  | [], a => by simp [sumL]
  | x :: r, a => by
    rw [sumL, sumL, sumL_add r (a + x), sumL_add r (0 + x)]
    omega
theorem sumL_cons (x : Int) (r : List Int) : sumL (x :: r) 0 = x + sumL r 0 := by
  rw [sumL, sumL_add]
  omega
theorem sumL_bound (B : Nat) : ∀ (l : List Int), (∀ x ∈ l, -(B : Int) ≤ x ∧ x ≤ B) → -((l.length * B : Nat) : Int) ≤ sumL l 0 ∧ sumL l 0 ≤ ((l.length * B : Nat) : Int)
  | [], _ => by simp [sumL]
  | x :: r, h => by
    have h1 := h x (by simp)
    have h2 := sumL_bound B r (fun y hy => h y (by simp [hy]))
    rw [sumL_cons, List.length_cons, Nat.add_mul]
    omega

-- Combos
theorem aid_four {s : Int} (h : 1 ≤ s ∧ s ≤ 4) : s ∈ [(1 : Int), 2, 3, 4] := by
  have : s = 1 ∨ s = 2 ∨ s = 3 ∨ s = 4 := by omega
  rcases this with h | h | h | h <;> simp [h]
theorem aid_eight {s : Int} (h : 1 ≤ s ∧ s ≤ 8) : s ∈ [(1 : Int), 2, 3, 4, 5, 6, 7, 8] := by
  have : s = 1 ∨ s = 2 ∨ s = 3 ∨ s = 4 ∨ s = 5 ∨ s = 6 ∨ s = 7 ∨ s = 8 := by omega
  rcases this with h | h | h | h | h | h | h | h <;> simp [h]

-- spec_dmOnes
theorem sumL_append (a b : List Int) (z : Int) : sumL (a ++ b) z = sumL b (sumL a z) := by
  induction a generalizing z with
  | nil => rfl
  | cons x r ih => exact ih (z + x)
theorem sumL_take (l : List Int) (i : Nat) (h : i < l.length) : sumL (l.take (i + 1)) 0 = sumL (l.take i) 0 + l[i] := by
  rw [List.take_succ_eq_append_getElem h, sumL_append]
  rfl
theorem bits_sum (l : List Int) (hx : ∀ x ∈ l, x = 1 ∨ x = -1) : -(l.length : Int) ≤ sumL l 0 ∧ sumL l 0 ≤ (l.length : Int) := by
  have := sumL_bound 1 l (fun x h => by have := hx x h; omega)
  omega
theorem spec_dmOnes.l0_ev (l : List Int) (hl : l.length ≤ 200) (hx : ∀ x ∈ l, x = 1 ∨ x = -1) : ∀ (d i : Nat) (p : List Int), i + d = l.length → p.length = i + 1 → (∀ j (hj : j < p.length), 2 * p[j] = sumL (l.take j) 0 + (j : Int)) →
    ∃ q : List Int, Ev (fun k => spec_dmOnes.l0 k p l (l.length : Int) (i : Int)) q ∧ q.length = l.length + 1 ∧ (∀ j (hj : j < q.length), 2 * q[j] = sumL (l.take j) 0 + (j : Int)) := by
  intro d
  induction d with
  | zero =>
    intro i p hi hp hq
    refine ⟨p, Ev.step (f := fun _ => some p) (fun k => ?_) (Ev.now _), by omega, hq⟩
    simp only [spec_dmOnes.l0]
    rw [if_neg (by omega)]
  | succ d ih =>
    intro i p hi hp hq
    have hi' : i < l.length := by omega
    have hxi := hx l[i] (List.getElem_mem hi')
    have hpi := hq i (by omega)
    have hb := bits_sum (l.take i) (fun x h => hx x (List.mem_of_mem_take h))
    rw [List.length_take] at hb
    obtain ⟨v, hv⟩ : ∃ v : Int, v = p[i] + (l[i] + 1) / 2 := ⟨_, rfl⟩
    have hv2 : 2 * v = sumL (l.take (i + 1)) 0 + ((i + 1 : Nat) : Int) := by
      rw [sumL_take l i hi', hv]
      omega
    have hq' : ∀ j (hj : j < (p ++ [v]).length), 2 * (p ++ [v])[j] = sumL (l.take j) 0 + (j : Int) := by
      intro j hj
      rw [List.length_append, List.length_singleton] at hj
      by_cases hj' : j < p.length
      · rw [List.getElem_append_left hj']
        exact hq j hj'
      · have e : j = i + 1 := by omega
        subst e
        rw [List.getElem_append_right (by omega)]
        simpa using hv2
    obtain ⟨q, hq1, hq2, hq3⟩ := ih (i + 1) (p ++ [v]) (by omega) (by rw [List.length_append, List.length_singleton]; omega) hq'
    refine ⟨q, Ev.step (fun k => ?_) hq1, hq2, hq3⟩
    simp only [spec_dmOnes.l0]
    rw [if_pos (by omega), if_pos (by omega), if_pos (by omega), if_pos (by omega), if_pos (by omega), aid_rd l i hi', aid_rd p i (by omega), aid_wr (x := l[i] + 1) (by omega) (by omega), Int.tdiv_eq_ediv_of_nonneg (by omega), aid_wr (x := (l[i] + 1) / 2) (by omega) (by omega), ← hv, aid_wr (x := v) (by omega) (by omega), aid_next (by omega)]
theorem spec_dmOnes.ev (l : List Int) (hl : l.length ≤ 200) (hx : ∀ x ∈ l, x = 1 ∨ x = -1) : ∃ q : List Int, Ev (fun k => spec_dmOnes.f k l) q ∧ q.length = l.length + 1 ∧ (∀ j (hj : j < q.length), 2 * q[j] = sumL (l.take j) 0 + (j : Int)) :=
  spec_dmOnes.l0_ev l hl hx l.length 0 [0] (by omega) rfl (fun j hj => by
    have e : j = 0 := by simp at hj; omega
    subst e
    simp [sumL])

-- spec_l1Least
theorem spec_l1Least.eq (a b : Int) : spec_l1Least.f a b = some (min a b) := by
  unfold spec_l1Least.f
  split <;> simp <;> omega

-- spec_l1Most
theorem spec_l1Most.eq (a b : Int) : spec_l1Most.f a b = some (max a b) := by
  unfold spec_l1Most.f
  split <;> simp <;> omega

-- impl_areBits
theorem impl_areBits.eq (l : List Int) : impl_areBits.f l = some (bitsB l) := by
  unfold impl_areBits.f bitsB
  have e1 : decide ((l.length : Int) ≤ 200) = decide (l.length ≤ 200) := by
    rw [Bool.eq_iff_iff]; simp; omega
  have e2 : (!(l.any fun x => decide (¬ x = 1) && decide (¬ x = -1))) = l.all fun x => decide (x = 1 ∨ x = -1) := by
    rw [List.not_any_eq_all_not]
    congr 1
    funext x
    rw [Bool.eq_iff_iff]
    simp
  rw [e1, e2]

-- impl_sum
theorem impl_sum.l0_ev (l : List Int) (hl : l.length ≤ 1000000) (hx : ∀ x ∈ l, -1000000000 ≤ x ∧ x ≤ 1000000000) : ∀ (d i : Nat) (a : Int), i + d = l.length → -(1000000000 * (i : Int)) ≤ a → a ≤ 1000000000 * (i : Int) →
    Ev (fun k => impl_sum.l0 k a l (l.length : Int) (i : Int)) (sumL (l.drop i) a) := by
  intro d
  induction d with
  | zero =>
    intro i a hi h0 h1
    rw [List.drop_eq_nil_of_le (by omega)]
    refine Ev.step (f := fun _ => some (sumL [] a)) (fun k => ?_) (Ev.now _)
    simp only [impl_sum.l0]
    rw [if_neg (by omega)]
    rfl
  | succ d ih =>
    intro i a hi h0 h1
    have hi' : i < l.length := by omega
    have hxi := hx l[i] (List.getElem_mem hi')
    rw [List.drop_eq_getElem_cons hi', sumL]
    refine Ev.step (fun k => ?_) (ih (i + 1) (a + l[i]) (by omega) (by omega) (by omega))
    simp only [impl_sum.l0]
    rw [if_pos (by omega), if_pos (by omega), if_pos (by omega), aid_rd l i hi', aid_wr (x := a + l[i]) (by omega) (by omega), aid_next (by omega)]
theorem impl_sum.ev (l : List Int) (hl : l.length ≤ 1000000) (hx : ∀ x ∈ l, -1000000000 ≤ x ∧ x ≤ 1000000000) : Ev (fun k => impl_sum.f k l) (sumL l 0) :=
  impl_sum.l0_ev l hl hx l.length 0 0 (by omega) (by omega) (by omega)

-- impl_in
theorem impl_in.eq (a lo hi : Int) : impl_in.f a lo hi = some (decide (lo ≤ a ∧ a ≤ hi)) := by
  unfold impl_in.f
  by_cases h : lo ≤ a <;> simp [h]

-- impl_isConstant
theorem impl_isConstant.eq (m x : Int) : impl_isConstant.f m x = some (decide ((1 ≤ m ∧ m ≤ 1000) ∧ (-m ≤ x ∧ x ≤ m))) := by
  unfold impl_isConstant.f
  rw [impl_in.eq]
  by_cases h : 1 ≤ m ∧ m ≤ 1000
  · rw [aid_wr (by omega) (by omega), impl_in.eq]
    simp [h]
  · simp [h]

-- impl_bitOf
theorem impl_bitOf.eq (y : Int) : impl_bitOf.f y = some (bitI y) := by
  unfold impl_bitOf.f bitI
  split <;> rfl

-- impl_modulate
theorem impl_modulate.l0_ev (m : Int) (hm : 1 ≤ m) (hm' : m ≤ 1000) (l : List Int) (hl : l.length ≤ 1000000) (hx : ∀ x ∈ l, -m ≤ x ∧ x ≤ m) : ∀ (d i : Nat) (bs ss : List Int) (s : Int), i + d = l.length → bs.length = i → ss.length = i → -m ≤ s ∧ s < m →
    Ev (fun k => impl_modulate.l0 k m bs ss s l (l.length : Int) (i : Int)) (bs ++ modB m (l.drop i) s, ss ++ modS m (l.drop i) s) := by
  intro d
  induction d with
  | zero =>
    intro i bs ss s hi hb hs hst
    rw [List.drop_eq_nil_of_le (by omega)]
    refine Ev.step (f := fun _ => some (bs ++ modB m [] s, ss ++ modS m [] s)) (fun k => ?_) (Ev.now _)
    simp only [impl_modulate.l0]
    rw [if_neg (by omega)]
    simp [modB, modS]
  | succ d ih =>
    intro i bs ss s hi hb hs hst
    have hi' : i < l.length := by omega
    have hxi := hx l[i] (List.getElem_mem hi')
    have hst' := mod_state hm hxi hst
    have hz := ih (i + 1) (bs ++ [bitI (s + l[i])]) (ss ++ [s + l[i] - m * bitI (s + l[i])]) (s + l[i] - m * bitI (s + l[i])) (by omega) (by simp [hb]) (by simp [hs]) hst'
    rw [List.drop_eq_getElem_cons hi', modB, modS]
    rw [List.append_assoc, List.append_assoc] at hz
    refine Ev.step (fun k => ?_) hz
    simp only [impl_modulate.l0]
    rw [if_pos (by omega), if_pos (by omega), if_pos (by omega), aid_rd l i hi', aid_wr (x := s + l[i]) (by omega) (by omega), aid_next (by omega)]
    have hw : wrap64 (m * bitI (s + l[i])) = m * bitI (s + l[i]) := by
      unfold bitI
      split
      · rw [Int.mul_one]
        exact aid_wr (by omega) (by omega)
      · rw [show m * -1 = -m by omega]
        exact aid_wr (by omega) (by omega)
    rw [impl_bitOf.eq]
    simp only [Option.bind_some]
    rw [hw]
    clear hw
    rw [if_pos (by omega), if_pos (by omega), aid_wr (x := s + l[i] - m * bitI (s + l[i])) (by omega) (by omega)]
theorem impl_modulate.ev (m : Int) (hm : 1 ≤ m) (hm' : m ≤ 1000) (l : List Int) (hl : l.length ≤ 1000000) (hx : ∀ x ∈ l, -m ≤ x ∧ x ≤ m) : Ev (fun k => impl_modulate.f k m l) (modB m l 0, modS m l 0) :=
  impl_modulate.l0_ev m hm hm' l hl hx l.length 0 [] [] 0 (by omega) rfl rfl (by omega)

-- impl_constantBits
theorem impl_constantBits.ev (m x : Int) (hm : 1 ≤ m) (hm' : m ≤ 1000) (hx : -m ≤ x ∧ x ≤ m) (n : Nat) (hn : n ≤ 1000) : Ev (fun k => impl_constantBits.f k m x (n : Int)) (modB m (List.replicate n x) 0) := by
  unfold impl_constantBits.f slices_Repeat_int_int.f
  rw [if_pos (show [x].length = 1 from rfl), if_pos (by omega), if_pos (by omega), Int.toNat_natCast]
  have e : rd [x] 0 = x := aid_rd [x] 0 (by simp)
  rw [e]
  simp only [Option.bind_some]
  exact aid_ev_bind (impl_modulate.ev m hm hm' (List.replicate n x) (by rw [List.length_replicate]; omega) (fun y hy => by rw [List.eq_of_mem_replicate hy]; exact hx)) rfl

-- spec_l1In
theorem spec_l1In.eq (a lo hi : Int) : spec_l1In.f a lo hi = some (decide (lo ≤ a ∧ a ≤ hi)) := by
  unfold spec_l1In.f
  by_cases h : lo ≤ a <;> simp [h]

-- spec_dmScale
theorem spec_dmScale.eq (m : Int) : spec_dmScale.f m = some (decide (1 ≤ m ∧ m ≤ 1000)) := by
  unfold spec_dmScale.f
  rw [spec_l1In.eq]
  rfl

-- spec_dmNumber
theorem spec_dmNumber.eq (m x : Int) : spec_dmNumber.f m x = some (decide ((1 ≤ m ∧ m ≤ 1000) ∧ (-m ≤ x ∧ x ≤ m))) := by
  unfold spec_dmNumber.f
  rw [spec_dmScale.eq]
  by_cases h : 1 ≤ m ∧ m ≤ 1000
  · rw [aid_wr (by omega) (by omega), spec_l1In.eq]
    simp [h]
  · simp [h]

-- spec_dmOne
theorem spec_dmOne.l0_ev (m : Int) (hm : 1 ≤ m) (hm' : m ≤ 1000) (l : List Int) (hl : l.length ≤ 1000000) (hx : ∀ x ∈ l, -m ≤ x ∧ x ≤ m) : ∀ (d i : Nat) (bs ss : List Int) (s : Int), i + d = l.length → bs.length = i → ss.length = i → -m ≤ s ∧ s < m →
    Ev (fun k => spec_dmOne.l0 k m bs ss s l (l.length : Int) (i : Int)) (bs ++ modB m (l.drop i) s, ss ++ modS m (l.drop i) s) := by
  intro d
  induction d with
  | zero =>
    intro i bs ss s hi hb hs hst
    rw [List.drop_eq_nil_of_le (by omega)]
    refine Ev.step (f := fun _ => some (bs ++ modB m [] s, ss ++ modS m [] s)) (fun k => ?_) (Ev.now _)
    simp only [spec_dmOne.l0]
    rw [if_neg (by omega)]
    simp [modB, modS]
  | succ d ih =>
    intro i bs ss s hi hb hs hst
    have hi' : i < l.length := by omega
    have hxi := hx l[i] (List.getElem_mem hi')
    have hst' := mod_state hm hxi hst
    have hz := ih (i + 1) (bs ++ [bitI (s + l[i])]) (ss ++ [s + l[i] - m * bitI (s + l[i])]) (s + l[i] - m * bitI (s + l[i])) (by omega) (by simp [hb]) (by simp [hs]) hst'
    rw [List.drop_eq_getElem_cons hi', modB, modS]
    rw [List.append_assoc, List.append_assoc] at hz
    refine Ev.step (fun k => ?_) hz
    simp only [spec_dmOne.l0]
    rw [if_pos (by omega), if_pos (by omega), if_pos (by omega), aid_rd l i hi', aid_wr (x := s + l[i]) (by omega) (by omega), aid_next (by omega)]
    by_cases hc : s + l[i] ≥ 0
    · have e : bitI (s + l[i]) = 1 := if_pos hc
      rw [e, Int.mul_one] at hst' ⊢
      rw [if_pos hc, if_pos (by omega), if_pos (by omega), aid_wr (x := m) (by omega) (by omega), aid_wr (x := s + l[i] - m) (by omega) (by omega)]
    · have e : bitI (s + l[i]) = -1 := if_neg hc
      have em : m * -1 = -m := by omega
      rw [e, em] at hst' ⊢
      rw [if_neg hc, if_pos (by omega), if_pos (by omega), aid_wr (x := -m) (by omega) (by omega), aid_wr (x := s + l[i] - -m) (by omega) (by omega)]
theorem spec_dmOne.ev (m : Int) (hm : 1 ≤ m) (hm' : m ≤ 1000) (l : List Int) (hl : l.length ≤ 1000000) (hx : ∀ x ∈ l, -m ≤ x ∧ x ≤ m) : Ev (fun k => spec_dmOne.f k m l) (modB m l 0, modS m l 0) :=
  spec_dmOne.l0_ev m hm hm' l hl hx l.length 0 [] [] 0 (by omega) rfl rfl (by omega)

-- spec_dmConstant
theorem spec_dmConstant.l0_ev (m x : Int) (hm : 1 ≤ m) (hm' : m ≤ 1000) (hx : -m ≤ x ∧ x ≤ m) (n : Nat) (hn : n ≤ 1000) : ∀ (d i : Nat), i + d = n →
    Ev (fun k => spec_dmConstant.l0 k m x (List.replicate i x ++ List.replicate d 0) (n : Int) (i : Int)) (modB m (List.replicate n x) 0) := by
  intro d
  induction d with
  | zero =>
    intro i hi
    have e : i = n := by omega
    subst e
    rw [List.replicate_zero, List.append_nil]
    have h := spec_dmOne.ev m hm hm' (List.replicate i x) (by rw [List.length_replicate]; omega) (fun y hy => by rw [List.eq_of_mem_replicate hy]; exact hx)
    refine Ev.step (f := fun k => (spec_dmOne.f k m (List.replicate i x)).bind fun bt125 => some bt125.1) (fun k => ?_) (aid_ev_bind h rfl)
    simp only [spec_dmConstant.l0]
    rw [if_neg (by omega)]
  | succ d ih =>
    intro i hi
    refine Ev.step (fun k => ?_) (ih (i + 1) (by omega))
    have hl : ((List.replicate i x ++ List.replicate (d + 1) 0).length : Int) = (n : Int) := by
      rw [List.length_append, List.length_replicate, List.length_replicate]
      omega
    simp only [spec_dmConstant.l0]
    rw [if_pos (by omega), if_pos (by omega), if_pos (by omega), aid_next (by omega), Int.toNat_natCast]
    have e : (List.replicate i x ++ List.replicate (d + 1) 0).set i x = List.replicate (i + 1) x ++ List.replicate d 0 := by
      rw [List.set_append_right _ _ (by rw [List.length_replicate]; omega), List.length_replicate, Nat.sub_self, List.replicate_succ, List.set_cons_zero, List.replicate_succ', List.append_assoc]
      rfl
    rw [e]
theorem spec_dmConstant.ev (m x : Int) (hm : 1 ≤ m) (hm' : m ≤ 1000) (hx : -m ≤ x ∧ x ≤ m) (n : Nat) (hn : n ≤ 1000) : Ev (fun k => spec_dmConstant.f k m x (n : Int)) (modB m (List.replicate n x) 0) := by
  unfold spec_dmConstant.f
  refine Ev.congr (fun k => if_pos (by omega)) ?_
  refine Ev.congr (fun k => if_pos (by omega)) ?_
  rw [Int.toNat_natCast]
  have h := spec_dmConstant.l0_ev m x hm hm' hx n hn n 0 (by omega)
  rw [List.replicate_zero, List.nil_append] at h
  simpa using h

-- impl_size
theorem impl_size.eq {x : Int} (h : -9223372036854775807 ≤ x) (h' : x ≤ 9223372036854775807) : impl_size.f x = some (x.natAbs : Int) := by
  unfold impl_size.f
  rw [aid_wr (by omega) (by omega)]
  unfold mx
  split <;> simp <;> omega

-- impl_gcd
theorem impl_gcd.l0_ev : ∀ (d : Nat) (a b : Nat), b ≤ d → Ev (fun k => impl_gcd.l0 k (a : Int) (b : Int)) ((Nat.gcd a b : Nat) : Int)
  | d, a, 0, _ => Ev.step (f := fun _ => some (a : Int)) (fun k => by simp [impl_gcd.l0]) (by simpa using Ev.now _)
  | 0, a, b + 1, h => absurd h (by omega)
  | d + 1, a, b + 1, h => by
    have ih := impl_gcd.l0_ev d (b + 1) (a % (b + 1)) (by have := Nat.mod_lt a (show 0 < b + 1 by omega); omega)
    have e : Nat.gcd a (b + 1) = Nat.gcd (b + 1) (a % (b + 1)) := by rw [Nat.gcd_comm, Nat.gcd_rec, Nat.gcd_comm]
    rw [e]
    refine Ev.step (fun k => ?_) ih
    have hb : ¬ (((b + 1 : Nat) : Int) = 0) := by omega
    simp only [impl_gcd.l0]
    rw [if_neg hb, aid_tmod (by omega)]
    rfl
theorem impl_gcd.ev {a b : Int} (ha : -9223372036854775807 ≤ a) (ha' : a ≤ 9223372036854775807) (hb : -9223372036854775807 ≤ b) (hb' : b ≤ 9223372036854775807) : Ev (fun k => impl_gcd.f k a b) ((Nat.gcd a.natAbs b.natAbs : Nat) : Int) := by
  unfold impl_gcd.f
  rw [impl_size.eq ha ha', impl_size.eq hb hb']
  exact impl_gcd.l0_ev _ _ _ (Nat.le_refl _)

-- impl_PeriodOfConstant
theorem impl_PeriodOfConstant.ev (m x : Int) (h : (1 ≤ m ∧ m ≤ 1000) ∧ (-m ≤ x ∧ x ≤ m)) :
    Ev (fun k => impl_PeriodOfConstant.f k m x) ((((2 * m).toNat / Nat.gcd (2 * m).toNat (x + m).toNat : Nat) : Int), true) := by
  unfold impl_PeriodOfConstant.f
  rw [impl_isConstant.eq]
  simp only [h, decide_true, Option.bind_some, if_true, and_self]
  rw [aid_wr (x := 2 * m) (by omega) (by omega), aid_wr (x := x + m) (by omega) (by omega)]
  have hg := impl_gcd.ev (a := 2 * m) (b := x + m) (by omega) (by omega) (by omega) (by omega)
  have e1 : (2 * m).natAbs = (2 * m).toNat := by omega
  have e2 : (x + m).natAbs = (x + m).toNat := by omega
  rw [e1, e2] at hg
  have hpos : 0 < Nat.gcd (2 * m).toNat (x + m).toNat := Nat.gcd_pos_of_pos_left _ (by omega)
  refine aid_ev_bind hg ?_
  rw [if_neg (by omega), aid_tdiv (by omega)]
  have e3 : 2 * m / ((Nat.gcd (2 * m).toNat (x + m).toNat : Nat) : Int) = (((2 * m).toNat / Nat.gcd (2 * m).toNat (x + m).toNat : Nat) : Int) := by
    rw [Int.natCast_ediv, Int.toNat_of_nonneg (by omega)]
  rw [e3]
  have hle : (2 * m).toNat / Nat.gcd (2 * m).toNat (x + m).toNat ≤ (2 * m).toNat := Nat.div_le_self _ _
  generalize (2 * m).toNat / Nat.gcd (2 * m).toNat (x + m).toNat = P at hle ⊢
  rw [aid_wr (by omega) (by omega)]
theorem impl_PeriodOfConstant.ev_not (m x : Int) (h : ¬ ((1 ≤ m ∧ m ≤ 1000) ∧ (-m ≤ x ∧ x ≤ m))) :
    Ev (fun k => impl_PeriodOfConstant.f k m x) (0, false) := by
  unfold impl_PeriodOfConstant.f
  rw [impl_isConstant.eq]
  simp only [h, decide_false, Option.bind_some]
  simp
  exact Ev.now _

-- slices_Equal_int_int
theorem slices_Equal_int_int.l0_ev (l m : List Int) (he : l.length = m.length) (hl : l.length ≤ 1000000) : ∀ (d i : Nat), i + d = l.length → Ev (fun k => slices_Equal_int_int.l0 k l m (l.length : Int) (i : Int)) (decide (l.drop i = m.drop i)) := by
  intro d
  induction d with
  | zero =>
    intro i h
    rw [List.drop_eq_nil_of_le (by omega), List.drop_eq_nil_of_le (by omega)]
    refine Ev.step (fun k => ?_) (Ev.now _)
    simp only [slices_Equal_int_int.l0]
    rw [if_neg (by omega)]
    rfl
  | succ d ih =>
    intro i h
    have hi : i < l.length := by omega
    have hm : i < m.length := by omega
    have hdl := List.drop_eq_getElem_cons hi
    have hdm := List.drop_eq_getElem_cons hm
    by_cases hc : l[i] = m[i]
    · refine Ev.step (fun k => ?_) (r := decide (l.drop i = m.drop i)) (by
        have e : decide (l.drop i = m.drop i) = decide (l.drop (i + 1) = m.drop (i + 1)) := by
          rw [Bool.eq_iff_iff, decide_eq_true_eq, decide_eq_true_eq, hdl, hdm, hc]
          exact ⟨fun h => (List.cons.inj h).2, fun h => by rw [h]⟩
        rw [e]
        exact ih (i + 1) (by omega))
      simp only [slices_Equal_int_int.l0]
      rw [if_pos (by omega), if_pos (by omega), if_pos (by omega), if_pos (by omega), aid_rd l i hi, aid_rd m i hm, if_pos hc, aid_next (by omega)]
    · refine Ev.step (f := fun _ => some false) (fun k => ?_) (r := decide (l.drop i = m.drop i)) (by
        have e : decide (l.drop i = m.drop i) = false := by
          rw [decide_eq_false_iff_not, hdl, hdm]
          exact fun h => hc (List.cons.inj h).1
        rw [e]
        exact Ev.now _)
      simp only [slices_Equal_int_int.l0]
      rw [if_pos (by omega), if_pos (by omega), if_pos (by omega), if_pos (by omega), aid_rd l i hi, aid_rd m i hm, if_neg hc]
theorem slices_Equal_int_int.ev (l m : List Int) (hl : l.length ≤ 1000000) : Ev (fun k => slices_Equal_int_int.f k l m) (decide (l = m)) := by
  unfold slices_Equal_int_int.f
  by_cases h : l.length = m.length
  · refine Ev.congr (fun k => if_pos (by omega)) ?_
    exact slices_Equal_int_int.l0_ev l m h hl l.length 0 (by omega)
  · have e : decide (l = m) = false := decide_eq_false (fun e => h (by rw [e]))
    rw [e]
    exact Ev.congr (fun k => if_neg (by omega)) (Ev.now _)

-- spec_weSame
theorem spec_weSame.l0_ev (l m : List Int) (he : l.length = m.length) (hl : l.length ≤ 1000000) : ∀ (d i : Nat), i + d = l.length → Ev (fun k => spec_weSame.l0 k l m (l.length : Int) (i : Int)) (decide (l.drop i = m.drop i)) := by
  intro d
  induction d with
  | zero =>
    intro i h
    rw [List.drop_eq_nil_of_le (by omega), List.drop_eq_nil_of_le (by omega)]
    refine Ev.step (fun k => ?_) (Ev.now _)
    simp only [spec_weSame.l0]
    rw [if_neg (by omega)]
    rfl
  | succ d ih =>
    intro i h
    have hi : i < l.length := by omega
    have hm : i < m.length := by omega
    have hdl := List.drop_eq_getElem_cons hi
    have hdm := List.drop_eq_getElem_cons hm
    by_cases hc : l[i] = m[i]
    · refine Ev.step (fun k => ?_) (r := decide (l.drop i = m.drop i)) (by
        have e : decide (l.drop i = m.drop i) = decide (l.drop (i + 1) = m.drop (i + 1)) := by
          rw [Bool.eq_iff_iff, decide_eq_true_eq, decide_eq_true_eq, hdl, hdm, hc]
          exact ⟨fun h => (List.cons.inj h).2, fun h => by rw [h]⟩
        rw [e]
        exact ih (i + 1) (by omega))
      simp only [spec_weSame.l0]
      rw [if_pos (by omega), if_pos (by omega), if_pos (by omega), if_pos (by omega), aid_rd l i hi, aid_rd m i hm, if_pos hc, aid_next (by omega)]
    · refine Ev.step (f := fun _ => some false) (fun k => ?_) (r := decide (l.drop i = m.drop i)) (by
        have e : decide (l.drop i = m.drop i) = false := by
          rw [decide_eq_false_iff_not, hdl, hdm]
          exact fun h => hc (List.cons.inj h).1
        rw [e]
        exact Ev.now _)
      simp only [spec_weSame.l0]
      rw [if_pos (by omega), if_pos (by omega), if_pos (by omega), if_pos (by omega), aid_rd l i hi, aid_rd m i hm, if_neg hc]
theorem spec_weSame.ev (l m : List Int) (hl : l.length ≤ 1000000) : Ev (fun k => spec_weSame.f k l m) (decide (l = m)) := by
  unfold spec_weSame.f
  by_cases h : l.length = m.length
  · refine Ev.congr (fun k => if_pos (by omega)) ?_
    exact spec_weSame.l0_ev l m h hl l.length 0 (by omega)
  · have e : decide (l = m) = false := decide_eq_false (fun e => h (by rw [e]))
    rw [e]
    exact Ev.congr (fun k => if_neg (by omega)) (Ev.now _)

-- Period
theorem aid_period {A B : Nat} (hA : 0 < A) (j : Nat) : A ∣ j * B ↔ A / Nat.gcd A B ∣ j := by
  have hg : 0 < Nat.gcd A B := Nat.gcd_pos_of_pos_left _ hA
  have h1 : A / Nat.gcd A B * Nat.gcd A B = A := Nat.div_mul_cancel (Nat.gcd_dvd_left A B)
  have h2 : B / Nat.gcd A B * Nat.gcd A B = B := Nat.div_mul_cancel (Nat.gcd_dvd_right A B)
  have hc := Nat.coprime_div_gcd_div_gcd hg
  generalize Nat.gcd A B = g at hg h1 h2 hc ⊢
  generalize A / g = a at h1 hc ⊢
  generalize B / g = b at h2 hc
  constructor
  · rintro ⟨c, h⟩
    apply hc.dvd_of_dvd_mul_right
    refine ⟨c, ?_⟩
    apply Nat.eq_of_mul_eq_mul_right hg
    rw [Nat.mul_assoc, h2, h, ← h1, Nat.mul_assoc, Nat.mul_comm g c, ← Nat.mul_assoc]
  · rintro ⟨c, rfl⟩
    refine ⟨c * b, ?_⟩
    rw [← h1, ← h2, Nat.mul_assoc a c, Nat.mul_assoc a g, ← Nat.mul_assoc c b g, Nat.mul_comm (c * b) g]
theorem aid_small_mult {A s : Int} {q : Int} (hA : 0 < A) (h : s = A * q) (h1 : -A < s) (h2 : s < A) : s = 0 := by
  have hq : q = 0 := by
    rcases Int.lt_trichotomy q 0 with hq | hq | hq
    · have := Int.mul_le_mul_of_nonneg_left (show q ≤ -1 by omega) (Int.le_of_lt hA)
      omega
    · exact hq
    · have := Int.mul_le_mul_of_nonneg_left (show 1 ≤ q by omega) (Int.le_of_lt hA)
      omega
  rw [h, hq, Int.mul_zero]

-- spec_dmPeriod
set_option maxHeartbeats 4000000 in
theorem spec_dmPeriod.l0_ev (m x : Int) (hm : 1 ≤ m) (hm' : m ≤ 1000) (hx : -m ≤ x) (hx' : x ≤ m) (P : Nat) (hP : P = (2 * m).toNat / Nat.gcd (2 * m).toNat (x + m).toNat) :
    ∀ (d : Nat) (s ones : Int) (n : Nat), n + d + 1 = P → s = (n : Int) * (x + m) - 2 * m * ones → -m ≤ s → s < m → 0 ≤ ones → ones ≤ n →
      Ev (fun k => spec_dmPeriod.l0 k m x s ones (n : Int)) ((P : Int), (P : Int) * (x + m) / (2 * m)) := by
  have hP2 : P ≤ (2 * m).toNat := by rw [hP]; exact Nat.div_le_self _ _
  have hdiv : ∀ j : Nat, (∃ q : Int, (j : Int) * (x + m) = 2 * m * q) ↔ P ∣ j := by
    intro j
    rw [hP, ← aid_period (show 0 < (2 * m).toNat by omega), ← Int.natCast_dvd_natCast, Int.natCast_mul, Int.toNat_of_nonneg (by omega), Int.toNat_of_nonneg (by omega)]
    rfl
  have goOn : ∀ (n : Nat) (s' ones' : Int), s' = ((n + 1 : Nat) : Int) * (x + m) - 2 * m * ones' → -m ≤ s' → s' < m → (s' = 0 ↔ P ∣ n + 1) := by
    intro n s' ones' h h1 h2
    rw [← hdiv]
    constructor
    · intro h0
      exact ⟨ones', by omega⟩
    · rintro ⟨q, hq⟩
      refine aid_small_mult (A := 2 * m) (q := q - ones') (by omega) ?_ (by omega) (by omega)
      rw [Int.mul_sub, ← hq]
      exact h
  intro d
  induction d with
  | zero =>
    intro s ones n hn hs h1 h2 h3 h4
    have hPn : P = n + 1 := by omega
    have hA : 2 * m * (ones + 1) = 2 * m * ones + 2 * m := by rw [Int.mul_add, Int.mul_one]
    have hmul : ((n + 1 : Nat) : Int) * (x + m) = (n : Int) * (x + m) + (x + m) := by rw [Int.natCast_add, Int.add_mul]; simp
    by_cases hy : s + x ≥ 0
    · have hz : s + x - m = 0 := (goOn n (s + x - m) (ones + 1) (by rw [hmul, hA]; omega) (by omega) (by omega)).2 (by rw [hPn]; exact Nat.dvd_refl _)
      have hq : (P : Int) * (x + m) / (2 * m) = ones + 1 := by
        have : (P : Int) * (x + m) = 2 * m * (ones + 1) := by rw [hPn, hmul, hA]; omega
        rw [this]
        exact Int.mul_ediv_cancel_left _ (by omega)
      refine Ev.step (fun k => ?_) (Ev.now _)
      simp only [spec_dmPeriod.l0]
      rw [if_pos (by omega), aid_wr (x := s + x) (by omega) (by omega), if_pos hy, aid_wr (x := s + x - m) (by omega) (by omega), if_pos hz, aid_next (i := n) (by omega), aid_wr (by omega) (by omega), hq, hPn]
    · have hz : s + x + m = 0 := (goOn n (s + x + m) ones (by rw [hmul]; omega) (by omega) (by omega)).2 (by rw [hPn]; exact Nat.dvd_refl _)
      have hq : (P : Int) * (x + m) / (2 * m) = ones := by
        have : (P : Int) * (x + m) = 2 * m * ones := by rw [hPn, hmul]; omega
        rw [this]
        exact Int.mul_ediv_cancel_left _ (by omega)
      refine Ev.step (fun k => ?_) (Ev.now _)
      simp only [spec_dmPeriod.l0]
      rw [if_pos (by omega), aid_wr (x := s + x) (by omega) (by omega), if_neg hy, aid_wr (x := s + x + m) (by omega) (by omega), if_pos hz, aid_next (i := n) (by omega), hq, hPn]
  | succ d ih =>
    intro s ones n hn hs h1 h2 h3 h4
    have hA : 2 * m * (ones + 1) = 2 * m * ones + 2 * m := by rw [Int.mul_add, Int.mul_one]
    have hmul : ((n + 1 : Nat) : Int) * (x + m) = (n : Int) * (x + m) + (x + m) := by rw [Int.natCast_add, Int.add_mul]; simp
    have hnd : ¬ P ∣ n + 1 := fun h => by have := Nat.le_of_dvd (by omega) h; omega
    by_cases hy : s + x ≥ 0
    · have e1 : s + x - m = ((n + 1 : Nat) : Int) * (x + m) - 2 * m * (ones + 1) := by rw [hmul, hA]; omega
      have hz : ¬ s + x - m = 0 := fun h => hnd ((goOn n (s + x - m) (ones + 1) e1 (by omega) (by omega)).1 h)
      refine Ev.step (fun k => ?_) (ih (s + x - m) (ones + 1) (n + 1) (by omega) e1 (by omega) (by omega) (by omega) (by omega))
      simp only [spec_dmPeriod.l0]
      rw [if_pos (by omega), aid_wr (x := s + x) (by omega) (by omega), if_pos hy, aid_wr (x := s + x - m) (by omega) (by omega), if_neg hz, aid_next (i := n) (by omega), aid_wr (x := ones + 1) (by omega) (by omega)]
    · have e1 : s + x + m = ((n + 1 : Nat) : Int) * (x + m) - 2 * m * ones := by rw [hmul]; omega
      have hz : ¬ s + x + m = 0 := fun h => hnd ((goOn n (s + x + m) ones e1 (by omega) (by omega)).1 h)
      refine Ev.step (fun k => ?_) (ih (s + x + m) ones (n + 1) (by omega) e1 (by omega) (by omega) (by omega) (by omega))
      simp only [spec_dmPeriod.l0]
      rw [if_pos (by omega), aid_wr (x := s + x) (by omega) (by omega), if_neg hy, aid_wr (x := s + x + m) (by omega) (by omega), if_neg hz, aid_next (i := n) (by omega)]
theorem spec_dmPeriod.ev (m x : Int) (hm : 1 ≤ m) (hm' : m ≤ 1000) (hx : -m ≤ x) (hx' : x ≤ m) :
    Ev (fun k => spec_dmPeriod.f k m x) ((((2 * m).toNat / Nat.gcd (2 * m).toNat (x + m).toNat : Nat) : Int), (((2 * m).toNat / Nat.gcd (2 * m).toNat (x + m).toNat : Nat) : Int) * (x + m) / (2 * m)) := by
  have hpos : 0 < (2 * m).toNat / Nat.gcd (2 * m).toNat (x + m).toNat :=
    Nat.div_pos (Nat.le_of_dvd (by omega) (Nat.gcd_dvd_left _ _)) (Nat.gcd_pos_of_pos_left _ (by omega))
  exact spec_dmPeriod.l0_ev m x hm hm' hx hx' _ rfl ((2 * m).toNat / Nat.gcd (2 * m).toNat (x + m).toNat - 1) 0 0 0 (by omega) (by simp) (by omega) (by omega) (by omega) (by omega)

-- law:FnExactIsBalancedList
def dI (q : List Int) (w i : Nat) : Int := rd q ((i + w : Nat) : Int) - rd q (i : Int)
def mvL (q : List Int) (w : Nat) : Nat → Nat → List Int
  | 0, _ => []
  | d + 1, i => (2 * dI q w i - (w : Int)) :: mvL q w d (i + 1)
def mxD (q : List Int) (w : Nat) : Nat → Nat → Int → Int
  | 0, _, a => a
  | d + 1, i, a => mxD q w d (i + 1) (max a (dI q w i))
def mnD (q : List Int) (w : Nat) : Nat → Nat → Int → Int
  | 0, _, a => a
  | d + 1, i, a => mnD q w d (i + 1) (min a (dI q w i))
theorem maxG_mv (q : List Int) (w : Nat) : ∀ (d i : Nat) (a : Int), maxG (mvL q w d i) (2 * a - (w : Int)) = 2 * mxD q w d i a - (w : Int)
  | 0, _, _ => rfl
  | d + 1, i, a => by
    rw [mvL, maxG, mxD, ← maxG_mv q w d (i + 1)]
    congr 1
    unfold mx
    split <;> omega
theorem minG_mv (q : List Int) (w : Nat) : ∀ (d i : Nat) (a : Int), minG (mvL q w d i) (2 * a - (w : Int)) = 2 * mnD q w d i a - (w : Int)
  | 0, _, _ => rfl
  | d + 1, i, a => by
    rw [mvL, minG, mnD, ← minG_mv q w d (i + 1)]
    congr 1
    unfold mn
    split <;> omega
theorem mxD_bound (q : List Int) (w : Nat) : ∀ (d i : Nat) (a : Int), (∀ j, i ≤ j → j < i + d → 0 ≤ dI q w j ∧ dI q w j ≤ (w : Int)) → 0 ≤ a → a ≤ (w : Int) → 0 ≤ mxD q w d i a ∧ mxD q w d i a ≤ (w : Int)
  | 0, _, _, _, h0, h1 => ⟨h0, h1⟩
  | d + 1, i, a, h, h0, h1 => by
    have := h i (by omega) (by omega)
    exact mxD_bound q w d (i + 1) _ (fun j hj hj' => h j (by omega) (by omega)) (by omega) (by omega)
theorem mnD_bound (q : List Int) (w : Nat) : ∀ (d i : Nat) (a : Int), (∀ j, i ≤ j → j < i + d → 0 ≤ dI q w j ∧ dI q w j ≤ (w : Int)) → 0 ≤ a → a ≤ (w : Int) → 0 ≤ mnD q w d i a ∧ mnD q w d i a ≤ (w : Int)
  | 0, _, _, _, h0, h1 => ⟨h0, h1⟩
  | d + 1, i, a, h, h0, h1 => by
    have := h i (by omega) (by omega)
    exact mnD_bound q w d (i + 1) _ (fun j hj hj' => h j (by omega) (by omega)) (by omega) (by omega)
theorem mvL_length (q : List Int) (w : Nat) : ∀ (d i : Nat), (mvL q w d i).length = d
  | 0, _ => rfl
  | d + 1, i => by rw [mvL, List.length_cons, mvL_length q w d (i + 1)]
theorem bal_seg (l : List Int) (hl : l.length ≤ 200) (hx : ∀ x ∈ l, x = 1 ∨ x = -1) (q : List Int) (hq1 : q.length = l.length + 1) (hq2 : ∀ j (hj : j < q.length), 2 * q[j] = sumL (l.take j) 0 + (j : Int)) (w i : Nat) (h : i + w ≤ l.length) : sumL ((l.take (i + w)).drop i) 0 = 2 * dI q w i - (w : Int) ∧ 0 ≤ dI q w i ∧ dI q w i ≤ (w : Int) ∧ 0 ≤ q[i + w]'(by omega) ∧ q[i + w]'(by omega) ≤ 200 ∧ 0 ≤ q[i]'(by omega) ∧ q[i]'(by omega) ≤ 200 := by
  have hP := hq2 (i + w) (by omega)
  have hQ := hq2 i (by omega)
  have hT : l.take (i + w) = l.take i ++ (l.take (i + w)).drop i := by
    have := List.take_append_drop i (l.take (i + w))
    rw [List.take_take, Nat.min_eq_left (by omega)] at this
    exact this.symm
  have hS : sumL (l.take (i + w)) 0 = sumL (l.take i) 0 + sumL ((l.take (i + w)).drop i) 0 := by
    rw [hT, sumL_append, sumL_add, ← hT]
  have hb := bits_sum ((l.take (i + w)).drop i) (fun x h => hx x (List.mem_of_mem_take (List.mem_of_mem_drop h)))
  have hb1 := bits_sum (l.take i) (fun x h => hx x (List.mem_of_mem_take h))
  have hb2 := bits_sum (l.take (i + w)) (fun x h => hx x (List.mem_of_mem_take h))
  rw [List.length_drop, List.length_take] at hb
  rw [List.length_take] at hb1 hb2
  unfold dI
  rw [aid_rd q (i + w) (by omega), aid_rd q i (by omega)]
  omega
theorem bal_impl (l : List Int) (hl : l.length ≤ 200) (hx : ∀ x ∈ l, x = 1 ∨ x = -1) (q : List Int) (hq1 : q.length = l.length + 1) (hq2 : ∀ j (hj : j < q.length), 2 * q[j] = sumL (l.take j) 0 + (j : Int)) (w : Nat) (hw : 1 ≤ w) : ∀ (d i : Nat) (o : List Int), i + w + d = l.length + 1 → o.length = i → Ev (fun k => impl_movingSums.l0 k l (w : Int) o (i : Int)) (o ++ mvL q w d i) := by
  intro d
  induction d with
  | zero =>
    intro i o hi ho
    rw [mvL, List.append_nil]
    refine Ev.step (f := fun _ => some o) (fun k => ?_) (Ev.now _)
    simp only [impl_movingSums.l0]
    rw [aid_wr (x := (i : Int) + (w : Int)) (by omega) (by omega), if_neg (by omega)]
  | succ d ih =>
    intro i o hi ho
    have hseg := bal_seg l hl hx q hq1 hq2 w i (by omega)
    have hsl : ((l.take (i + w)).drop i).length ≤ 200 := by
      rw [List.length_drop, List.length_take]
      omega
    have hsum := impl_sum.ev ((l.take (i + w)).drop i) (by omega) (fun x h => by have := hx x (List.mem_of_mem_take (List.mem_of_mem_drop h)); omega)
    rw [hseg.1] at hsum
    have h := ih (i + 1) (o ++ [2 * dI q w i - (w : Int)]) (by omega) (by simp [ho])
    rw [List.append_assoc] at h
    rw [mvL]
    refine aid_ev_succ ?_
    simp only [impl_movingSums.l0]
    have e : (i : Int) + (w : Int) = ((i + w : Nat) : Int) := by omega
    rw [aid_wr (x := (i : Int) + (w : Int)) (by omega) (by omega), e, aid_next (by omega), Int.toNat_natCast, Int.toNat_natCast]
    refine Ev.congr (fun k => if_pos (by omega)) ?_
    refine Ev.congr (fun k => if_pos (by omega)) ?_
    refine Ev.congr (fun k => if_pos (by omega)) ?_
    exact Ev.bind hsum (Ev.congr (fun k => if_pos (by omega)) h)
theorem bal_spec (l : List Int) (hl : l.length ≤ 200) (hx : ∀ x ∈ l, x = 1 ∨ x = -1) (q : List Int) (hq1 : q.length = l.length + 1) (hq2 : ∀ j (hj : j < q.length), 2 * q[j] = sumL (l.take j) 0 + (j : Int)) (w : Nat) (hw : 1 ≤ w) (v : Bool × Bool) : ∀ (d i : Nat) (a b : Int), i + w + d = l.length + 1 → 0 ≤ a → a ≤ (w : Int) → 0 ≤ b → b ≤ (w : Int) →
    Ev (fun k => if wrap64 (mxD q w d i b - mnD q w d i a) > 1 then (some (false, true)) else (spec_IsBalancedList.l0 k l q (wrap64 ((w : Int) + 1)))) v → Ev (fun k => spec_IsBalancedList.l1 k l q (w : Int) a b (i : Int)) v := by
  intro d
  induction d with
  | zero =>
    intro i a b hi h0 h1 h2 h3 hv
    refine aid_ev_succ ?_
    simp only [spec_IsBalancedList.l1]
    rw [aid_wr (x := (i : Int) + (w : Int)) (by omega) (by omega)]
    exact Ev.congr (fun k => if_neg (by omega)) hv
  | succ d ih =>
    intro i a b hi h0 h1 h2 h3 hv
    obtain ⟨_, hd0, hd1, hqa, hqb, hqc, hqd⟩ := bal_seg l hl hx q hq1 hq2 w i (by omega)
    have hdI : wrap64 (rd q ((i + w : Nat) : Int) - rd q (i : Int)) = dI q w i := by
      unfold dI
      rw [aid_rd q (i + w) (by omega), aid_rd q i (by omega), aid_wr (by omega) (by omega)]
    rw [mxD, mnD] at hv
    have h := ih (i + 1) (min a (dI q w i)) (max b (dI q w i)) (by omega) (by omega) (by omega) (by omega) (by omega) hv
    refine aid_ev_succ ?_
    simp only [spec_IsBalancedList.l1]
    have e : (i : Int) + (w : Int) = ((i + w : Nat) : Int) := by omega
    rw [aid_wr (x := (i : Int) + (w : Int)) (by omega) (by omega), e, aid_next (by omega), hdI, spec_l1Least.eq, spec_l1Most.eq]
    refine Ev.congr (fun k => if_pos (by omega)) ?_
    refine Ev.congr (fun k => if_pos (by omega)) ?_
    refine Ev.congr (fun k => if_pos (by omega)) ?_
    refine Ev.congr (fun k => if_pos (by omega)) ?_
    refine Ev.congr (fun k => if_pos (by omega)) ?_
    simp only [Option.bind_some]
    exact h
theorem bal_l0 (l : List Int) (hl : l.length ≤ 200) (hx : ∀ x ∈ l, x = 1 ∨ x = -1) (q : List Int) (hq1 : q.length = l.length + 1) (hq2 : ∀ j (hj : j < q.length), 2 * q[j] = sumL (l.take j) 0 + (j : Int)) : ∀ (d w : Nat), w + d = l.length + 1 → 1 ≤ w → ∃ v : Bool × Bool, Ev (fun k => spec_IsBalancedList.l0 k l q (w : Int)) v ∧ Ev (fun k => impl_IsBalancedList.l0 k l (w : Int)) v ∧ v.2 = true := by
  intro d
  induction d with
  | zero =>
    intro w hw h1
    refine ⟨(true, true), aid_ev_succ ?_, aid_ev_succ ?_, rfl⟩
    · simp only [spec_IsBalancedList.l0]
      exact Ev.congr (fun k => if_neg (by omega)) (Ev.now _)
    · simp only [impl_IsBalancedList.l0]
      exact Ev.congr (fun k => if_neg (by omega)) (Ev.now _)
  | succ d ih =>
    intro w hw h1
    obtain ⟨v, hv1, hv2, hv3⟩ := ih (w + 1) (by omega) (by omega)
    have hD : ∀ j, j < d + 1 → 0 ≤ dI q w j ∧ dI q w j ≤ (w : Int) := fun j hj => by
      have := bal_seg l hl hx q hq1 hq2 w j (by omega)
      exact ⟨this.2.1, this.2.2.1⟩
    have hd0 := hD 0 (by omega)
    have hI := bal_impl l hl hx q hq1 hq2 w h1 (d + 1) 0 [] (by omega) rfl
    have bx := mxD_bound q w d 1 (dI q w 0) (fun j hj hj' => hD j (by omega)) hd0.1 hd0.2
    have bn := mnD_bound q w d 1 (dI q w 0) (fun j hj hj' => hD j (by omega)) hd0.1 hd0.2
    have hmv : mvL q w (d + 1) 0 = (2 * dI q w 0 - (w : Int)) :: mvL q w d 1 := rfl
    have hrd : rd (mvL q w (d + 1) 0) 0 = 2 * dI q w 0 - (w : Int) := by rw [hmv]; rfl
    have hmx : slices_Max_int_int.f (mvL q w (d + 1) 0) = some (2 * mxD q w d 1 (dI q w 0) - (w : Int)) := by
      unfold slices_Max_int_int.f
      rw [if_neg (by rw [mvL_length]; omega), if_pos (by rw [mvL_length]; omega), hrd, hmv, List.drop_succ_cons, List.drop_zero, maxG_mv]
    have hmn : slices_Min_int_int.f (mvL q w (d + 1) 0) = some (2 * mnD q w d 1 (dI q w 0) - (w : Int)) := by
      unfold slices_Min_int_int.f
      rw [if_neg (by rw [mvL_length]; omega), if_pos (by rw [mvL_length]; omega), hrd, hmv, List.drop_succ_cons, List.drop_zero, minG_mv]
    have hx0 : mxD q w (d + 1) 0 0 = mxD q w d 1 (dI q w 0) := by rw [mxD, show max 0 (dI q w 0) = dI q w 0 by omega]
    have hn0 : mnD q w (d + 1) 0 (w : Int) = mnD q w d 1 (dI q w 0) := by rw [mnD, show min (w : Int) (dI q w 0) = dI q w 0 by omega]
    generalize mxD q w d 1 (dI q w 0) = X at *
    generalize mnD q w d 1 (dI q w 0) = Y at *
    have hS : ∀ v : Bool × Bool, Ev (fun k => if wrap64 (X - Y) > 1 then (some (false, true)) else (spec_IsBalancedList.l0 k l q (wrap64 ((w : Int) + 1)))) v → Ev (fun k => spec_IsBalancedList.l0 k l q (w : Int)) v := by
      intro v h
      refine aid_ev_succ ?_
      simp only [spec_IsBalancedList.l0]
      refine Ev.congr (fun k => if_pos (by omega)) ?_
      refine bal_spec l hl hx q hq1 hq2 w h1 v (d + 1) 0 (w : Int) 0 (by omega) (by omega) (by omega) (by omega) (by omega) ?_
      rw [hx0, hn0]
      exact h
    have hJ : ∀ v : Bool × Bool, Ev (fun k => if wrap64 (2 * X - (w : Int) - (2 * Y - (w : Int))) > 2 then (some (false, true)) else (impl_IsBalancedList.l0 k l (wrap64 ((w : Int) + 1)))) v → Ev (fun k => impl_IsBalancedList.l0 k l (w : Int)) v := by
      intro v h
      refine aid_ev_succ ?_
      simp only [impl_IsBalancedList.l0]
      refine Ev.congr (fun k => if_pos (by omega)) ?_
      refine Ev.bind hI ?_
      rw [List.nil_append, hmx, hmn]
      exact h
    rw [aid_wr (x := X - Y) (by omega) (by omega), aid_next (by omega)] at hS
    rw [aid_wr (x := 2 * X - (w : Int) - (2 * Y - (w : Int))) (by omega) (by omega), aid_next (by omega)] at hJ
    by_cases hc : X - Y > 1
    · exact ⟨(false, true), hS _ (Ev.congr (fun k => if_pos hc) (Ev.now _)), hJ _ (Ev.congr (fun k => if_pos (by omega)) (Ev.now _)), rfl⟩
    · exact ⟨v, hS _ (Ev.congr (fun k => if_neg hc) hv1), hJ _ (Ev.congr (fun k => if_neg (by omega)) hv2), hv3⟩
theorem bal_both2 (l : List Int) : ∃ r : Bool, Ev (fun k => spec_IsBalancedList.f k l) (r, bitsB l) ∧ Ev (fun k => impl_IsBalancedList.f k l) (r, bitsB l) := by
  unfold spec_IsBalancedList.f impl_IsBalancedList.f
  rw [impl_areBits.eq]
  have hb := spec_dmBits.ev l
  cases hB : bitsB l with
  | false =>
    rw [hB] at hb
    exact ⟨false, Ev.bind hb (Ev.now _), Ev.now _⟩
  | true =>
    rw [hB] at hb
    obtain ⟨hl, hx⟩ := (bitsB_iff l).1 hB
    obtain ⟨q, hq0, hq1, hq2⟩ := spec_dmOnes.ev l hl hx
    obtain ⟨⟨r, v⟩, h1, h2, rfl⟩ := bal_l0 l hl hx q hq1 hq2 l.length 1 (by omega) (by omega)
    exact ⟨r, Ev.bind hb (Ev.congr (fun k => if_pos rfl) (Ev.bind hq0 h1)), h2⟩
theorem bal_both (l : List Int) : ∃ v : Bool × Bool, Ev (fun k => spec_IsBalancedList.f k l) v ∧ Ev (fun k => impl_IsBalancedList.f k l) v := by
  obtain ⟨r, h1, h2⟩ := bal_both2 l
  exact ⟨_, h1, h2⟩

-- law:FnExactConstantBits
theorem cbits_both (m x z : Int) : ∃ (w : List Int) (b : Bool), Ev (fun k => spec_ConstantBits.f k m x z) (w, b) ∧ Ev (fun k => impl_ConstantBits.f k m x z) (w, b) ∧ w.length ≤ 200 := by
  unfold spec_ConstantBits.f impl_ConstantBits.f
  rw [spec_dmNumber.eq, impl_isConstant.eq, impl_in.eq, spec_l1In.eq]
  by_cases h : (1 ≤ m ∧ m ≤ 1000) ∧ (-m ≤ x ∧ x ≤ m)
  · by_cases hz : 0 ≤ z ∧ z ≤ 200
    · obtain ⟨n, rfl⟩ : ∃ n : Nat, z = (n : Int) := ⟨z.toNat, by omega⟩
      rw [decide_eq_true h, decide_eq_true hz]
      simp only [Option.bind_some, if_true]
      refine ⟨modB m (List.replicate n x) 0, true, aid_ev_bind (spec_dmConstant.ev m x h.1.1 h.1.2 h.2 n (by omega)) rfl, aid_ev_bind (impl_constantBits.ev m x h.1.1 h.1.2 h.2 n (by omega)) rfl, ?_⟩
      rw [modB_length, List.length_replicate]
      omega
    · rw [decide_eq_true h, decide_eq_false hz]
      exact ⟨[], false, Ev.now _, Ev.now _, by simp⟩
  · rw [decide_eq_false h]
    exact ⟨[], false, Ev.now _, Ev.now _, by simp⟩

-- law:FnExactConstantsOf
theorem cof_l0 (m : Int) (hm : 1 ≤ m ∧ m ≤ 1000) (l : List Int) (hl : l.length ≤ 200) : ∀ (d : Nat) (x : Int) (o : List Int), x + (d : Int) = m + 1 → -m ≤ x → (o.length : Int) ≤ x + m →
    ∃ r : List Int, Ev (fun k => spec_ConstantsOf.l0 k m l o x) (r, true) ∧ Ev (fun k => impl_ConstantsOf.l0 k m l o x) (r, true) ∧ r.length ≤ 2001 := by
  intro d
  induction d with
  | zero =>
    intro x o hx hx0 ho
    refine ⟨o, Ev.step (f := fun _ => some (o, true)) (fun k => ?_) (Ev.now _), Ev.step (f := fun _ => some (o, true)) (fun k => ?_) (Ev.now _), by omega⟩
    · simp only [spec_ConstantsOf.l0]
      rw [if_neg (by omega)]
    · simp only [impl_ConstantsOf.l0]
      rw [if_neg (by omega)]
  | succ d ih =>
    intro x o hx hx0 ho
    have hs := spec_dmConstant.ev m x hm.1 hm.2 ⟨hx0, by omega⟩ l.length (by omega)
    have hi := impl_constantBits.ev m x hm.1 hm.2 ⟨hx0, by omega⟩ l.length (by omega)
    have hlen : (modB m (List.replicate l.length x) 0).length ≤ 1000000 := by
      rw [modB_length, List.length_replicate]
      omega
    have hw : wrap64 (x + 1) = x + 1 := aid_wr (by omega) (by omega)
    have HW := Aside0.mk hw
    clear hw
    have hss := spec_weSame.ev (modB m (List.replicate l.length x) 0) l hlen
    have his := slices_Equal_int_int.ev (modB m (List.replicate l.length x) 0) l hlen
    by_cases hc : modB m (List.replicate l.length x) 0 = l
    · rw [decide_eq_true hc] at hss his
      obtain ⟨r, h1, h2, h3⟩ := ih (x + 1) (o ++ [x]) (by omega) (by omega) (by rw [List.length_append, List.length_singleton]; omega)
      refine ⟨r, aid_ev_succ ?_, aid_ev_succ ?_, h3⟩
      · simp only [spec_ConstantsOf.l0, HW.out]
        refine Ev.congr (fun k => if_pos (by omega)) ?_
        refine Ev.bind hs ?_
        refine Ev.bind hss ?_
        refine Ev.congr (fun k => if_pos rfl) ?_
        exact Ev.congr (fun k => if_pos (by omega)) h1
      · simp only [impl_ConstantsOf.l0, HW.out]
        refine Ev.congr (fun k => if_pos (by omega)) ?_
        refine Ev.bind hi ?_
        refine Ev.bind his ?_
        refine Ev.congr (fun k => if_pos rfl) ?_
        exact Ev.congr (fun k => if_pos (by omega)) h2
    · rw [decide_eq_false hc] at hss his
      obtain ⟨r, h1, h2, h3⟩ := ih (x + 1) o (by omega) (by omega) (by omega)
      refine ⟨r, aid_ev_succ ?_, aid_ev_succ ?_, h3⟩
      · simp only [spec_ConstantsOf.l0, HW.out]
        refine Ev.congr (fun k => if_pos (by omega)) ?_
        refine Ev.bind hs ?_
        refine Ev.bind hss ?_
        exact Ev.congr (fun k => if_neg (by decide)) h1
      · simp only [impl_ConstantsOf.l0, HW.out]
        refine Ev.congr (fun k => if_pos (by omega)) ?_
        refine Ev.bind hi ?_
        refine Ev.bind his ?_
        exact Ev.congr (fun k => if_neg (by decide)) h2
theorem cof_both (m : Int) (l : List Int) : ∃ (w : List Int) (b : Bool), Ev (fun k => spec_ConstantsOf.f k m l) (w, b) ∧ Ev (fun k => impl_ConstantsOf.f k m l) (w, b) ∧ w.length ≤ 2001 := by
  unfold spec_ConstantsOf.f impl_ConstantsOf.f
  rw [spec_dmScale.eq, impl_in.eq, impl_areBits.eq]
  have hb := spec_dmBits.ev l
  have hs : Ev (fun k => spec_ConstantsOf.j0 k m l true) (([] : List Int), false) := by
    refine aid_ev_succ ?_
    simp only [spec_ConstantsOf.j0]
    exact Ev.now _
  have hi : Ev (fun k => impl_ConstantsOf.j0 k m l true) (([] : List Int), false) := by
    refine aid_ev_succ ?_
    simp only [impl_ConstantsOf.j0]
    exact Ev.now _
  by_cases h : 1 ≤ m ∧ m ≤ 1000
  · rw [decide_eq_true h]
    simp only [Option.bind_some, if_true]
    cases hB : bitsB l with
    | false =>
      rw [hB] at hb
      exact ⟨[], false, Ev.bind hb hs, hi, by simp⟩
    | true =>
      rw [hB] at hb
      obtain ⟨hl, hx⟩ := (bitsB_iff l).1 hB
      obtain ⟨r, h1, h2, h3⟩ := cof_l0 m h l hl (2 * m + 1).toNat (-m) [] (by omega) (by omega) (by simp; omega)
      have hw : wrap64 (-m) = -m := aid_wr (by omega) (by omega)
      refine ⟨r, true, Ev.bind hb ?_, ?_, h3⟩
      · refine aid_ev_succ ?_
        simp only [spec_ConstantsOf.j0, hw]
        exact h1
      · refine aid_ev_succ ?_
        simp only [impl_ConstantsOf.j0, hw]
        exact h2
  · rw [decide_eq_false h]
    exact ⟨[], false, hs, hi, by simp⟩

-- law:FnExactRunsOf
theorem rd_last (x : List Int) (v : Int) : rd (x ++ [v]) (x.length : Int) = v := by
  rw [aid_rd _ x.length (by simp)]
  simp
theorem set_last (x : List Int) (v u : Int) : (x ++ [v]).set x.length u = x ++ [u] := by
  rw [List.set_append_right _ _ (by omega), Nat.sub_self]
  rfl
theorem len_snoc (x : List Int) (v : Int) : ((x ++ [v]).length : Int) = (x.length : Int) + 1 := by simp
theorem runs_same (l : List Int) (hl : l.length ≤ 200) : ∀ (d i : Nat) (o : List Int), i + d = l.length → o.length ≤ i → (0 < i → 0 < o.length) → (∀ v ∈ o, 0 ≤ v ∧ v ≤ (i : Int)) →
    ∃ r : List Int, Ev (fun k => spec_RunsOf.l0 k l o l (l.length : Int) (i : Int)) (r, true) ∧ Ev (fun k => impl_RunsOf.l0 k l o l (l.length : Int) (i : Int)) (r, true) ∧ r.length ≤ l.length := by
  intro d
  induction d with
  | zero =>
    intro i o h h1 h2 h3
    refine ⟨o, Ev.step (f := fun _ => some (o, true)) (fun k => ?_) (Ev.now _), Ev.step (f := fun _ => some (o, true)) (fun k => ?_) (Ev.now _), by omega⟩
    · simp only [spec_RunsOf.l0]
      rw [if_neg (by omega)]
    · simp only [impl_RunsOf.l0]
      rw [if_neg (by omega)]
  | succ d ih =>
    intro i o h h1 h2 h3
    have happ : ∀ v ∈ o ++ [1], 0 ≤ v ∧ v ≤ ((i + 1 : Nat) : Int) := by
      intro v hv
      rcases List.mem_append.1 hv with hv | hv
      · have := h3 v hv
        omega
      · simp at hv
        omega
    have hset : (o ++ [0]).set (wrap64 (((o ++ [0]).length : Int) - 1)).toNat (wrap64 (rd (o ++ [0]) (wrap64 (((o ++ [0]).length : Int) - 1)) + 1)) = o ++ [1] := by
      have e1 : wrap64 (((o ++ [0]).length : Int) - 1) = (o.length : Int) := by
        rw [len_snoc, aid_wr (by omega) (by omega)]
        omega
      rw [e1, rd_last, Int.toNat_natCast, set_last, aid_wr (by omega) (by omega)]
      rfl
    have hw1 : 0 ≤ wrap64 (((o ++ [0]).length : Int) - 1) ∧ wrap64 (((o ++ [0]).length : Int) - 1) < ((o ++ [0]).length : Int) := by
      rw [len_snoc, aid_wr (by omega) (by omega)]
      omega
    have HW := Aside0.mk hw1
    have HSET := Aside0.mk hset
    clear hw1 hset
    by_cases hi0 : i = 0
    · subst hi0
      obtain ⟨r, hr1, hr2, hr3⟩ := ih 1 (o ++ [1]) (by omega) (by rw [List.length_append, List.length_singleton]; omega) (by simp) happ
      refine ⟨r, Ev.step (fun k => ?_) hr1, Ev.step (fun k => ?_) hr2, hr3⟩
      · simp only [spec_RunsOf.l0]
        rw [if_pos (by omega), if_pos (by omega), if_pos (by omega), if_neg (by omega), if_pos (by omega), aid_next (by omega)]
      · simp only [impl_RunsOf.l0]
        rw [if_pos (by omega), if_pos (by omega), if_pos (by omega), if_pos (by omega), if_pos (by omega)]
        simp only [Option.bind_some]
        rw [if_pos HW.out.1, if_pos HW.out.2, HSET.out, aid_next (by omega)]
    · have e1 : ∀ z : Nat, z + 1 = i → wrap64 ((i : Int) - 1) = ((z : Nat) : Int) := by
        intro z hz
        rw [aid_wr (by omega) (by omega)]
        omega
      obtain ⟨z, hz⟩ : ∃ z, z + 1 = i := ⟨i - 1, by omega⟩
      have HE := Aside0.mk (e1 z hz)
      clear e1
      by_cases hc : rd l (z : Int) = rd l (i : Int)
      · obtain ⟨o', v, rfl⟩ : ∃ o' v, o = o' ++ [v] := by
          have hne : o ≠ [] := by intro e; rw [e] at h2; simp at h2; omega
          exact ⟨o.dropLast, o.getLast hne, (List.dropLast_concat_getLast hne).symm⟩
        have hv := h3 v (by simp)
        have hlen : ((o' ++ [v]).length : Int) - 1 = (o'.length : Int) := by simp
        have hlo : o'.length < i := by simp at h1; omega
        have hup : ∀ u ∈ o' ++ [v + 1], 0 ≤ u ∧ u ≤ ((i + 1 : Nat) : Int) := by
          intro u hu
          rcases List.mem_append.1 hu with hu | hu
          · have := h3 u (List.mem_append_left _ hu)
            omega
          · simp at hu
            omega
        obtain ⟨r, hr1, hr2, hr3⟩ := ih (i + 1) (o' ++ [v + 1]) (by omega) (by rw [List.length_append, List.length_singleton] at *; omega) (by simp) hup
        refine ⟨r, Ev.step (fun k => ?_) hr1, Ev.step (fun k => ?_) hr2, hr3⟩
        · simp only [spec_RunsOf.l0]
          rw [if_pos (by omega), if_pos (by omega), if_pos (by omega), if_pos (by omega), HE.out, if_pos (by omega), if_pos (by omega), if_pos hc, hlen, aid_wr (x := (o'.length : Int)) (by omega) (by omega), if_pos (by omega), if_pos (by rw [len_snoc]; omega), rd_last, Int.toNat_natCast, set_last, aid_wr (x := v + 1) (by omega) (by omega), aid_next (by omega)]
        · simp only [impl_RunsOf.l0]
          rw [if_pos (by omega), if_pos (by omega), if_pos (by omega), if_neg (by omega), HE.out, if_pos (by omega), if_pos (by omega), if_pos hc, hlen, aid_wr (x := (o'.length : Int)) (by omega) (by omega), if_pos (by omega), if_pos (by rw [len_snoc]; omega), rd_last, Int.toNat_natCast, set_last, aid_wr (x := v + 1) (by omega) (by omega), aid_next (by omega)]
      · obtain ⟨r, hr1, hr2, hr3⟩ := ih (i + 1) (o ++ [1]) (by omega) (by rw [List.length_append, List.length_singleton]; omega) (by simp) happ
        refine ⟨r, Ev.step (fun k => ?_) hr1, Ev.step (fun k => ?_) hr2, hr3⟩
        · simp only [spec_RunsOf.l0]
          rw [if_pos (by omega), if_pos (by omega), if_pos (by omega), if_pos (by omega), HE.out, if_pos (by omega), if_pos (by omega), if_neg hc, if_pos (by omega), aid_next (by omega)]
        · simp only [impl_RunsOf.l0]
          rw [if_pos (by omega), if_pos (by omega), if_pos (by omega), if_neg (by omega), HE.out, if_pos (by omega), if_pos (by omega), if_neg hc, if_pos (by omega)]
          simp only [Option.bind_some]
          rw [if_pos HW.out.1, if_pos HW.out.2, HSET.out, aid_next (by omega)]
theorem runs_both (l : List Int) : ∃ (w : List Int) (b : Bool), Ev (fun k => spec_RunsOf.f k l) (w, b) ∧ Ev (fun k => impl_RunsOf.f k l) (w, b) ∧ w.length ≤ 200 := by
  unfold spec_RunsOf.f impl_RunsOf.f
  rw [impl_areBits.eq]
  have hb := spec_dmBits.ev l
  cases hB : bitsB l with
  | false =>
    rw [hB] at hb
    exact ⟨[], false, Ev.bind hb (Ev.now _), Ev.now _, by simp⟩
  | true =>
    rw [hB] at hb
    obtain ⟨hl, _⟩ := (bitsB_iff l).1 hB
    obtain ⟨r, h1, h2, h3⟩ := runs_same l hl l.length 0 [] (by omega) (by simp) (by omega) (by simp)
    exact ⟨r, true, Ev.bind hb h1, h2, by omega⟩

-- law:FnExactMovingSums
theorem mov_l0 (l : List Int) (hl : l.length ≤ 200) (hx : ∀ x ∈ l, x = 1 ∨ x = -1) (w : Nat) (hw : 1 ≤ w ∧ w ≤ l.length) (q : List Int) (hq1 : q.length = l.length + 1) (hq2 : ∀ j (hj : j < q.length), 2 * q[j] = sumL (l.take j) 0 + (j : Int)) :
    ∀ (d i : Nat) (o : List Int), i + w + d = l.length + 1 → o.length = i → ∃ r : List Int, Ev (fun k => spec_MovingSums.l0 k l (w : Int) q o (i : Int)) (r, true) ∧ Ev (fun k => impl_movingSums.l0 k l (w : Int) o (i : Int)) r ∧ r.length ≤ 200 := by
  intro d
  induction d with
  | zero =>
    intro i o hi ho
    refine ⟨o, Ev.step (f := fun _ => some (o, true)) (fun k => ?_) (Ev.now _), Ev.step (f := fun _ => some o) (fun k => ?_) (Ev.now _), by omega⟩
    · simp only [spec_MovingSums.l0]
      rw [aid_wr (x := (i : Int) + (w : Int)) (by omega) (by omega), if_neg (by omega)]
    · simp only [impl_movingSums.l0]
      rw [aid_wr (x := (i : Int) + (w : Int)) (by omega) (by omega), if_neg (by omega)]
  | succ d ih =>
    intro i o hi ho
    have hP := hq2 (i + w) (by omega)
    have hQ := hq2 i (by omega)
    have hT : l.take (i + w) = l.take i ++ (l.take (i + w)).drop i := by
      have := List.take_append_drop i (l.take (i + w))
      rw [List.take_take, Nat.min_eq_left (by omega)] at this
      exact this.symm
    have hS : sumL (l.take (i + w)) 0 = sumL (l.take i) 0 + sumL ((l.take (i + w)).drop i) 0 := by
      rw [hT, sumL_append, sumL_add, ← hT]
    have hb := bits_sum ((l.take (i + w)).drop i) (fun x h => hx x (List.mem_of_mem_take (List.mem_of_mem_drop h)))
    have hb1 := bits_sum (l.take i) (fun x h => hx x (List.mem_of_mem_take h))
    have hsl : ((l.take (i + w)).drop i).length ≤ 200 := by
      rw [List.length_drop, List.length_take]
      omega
    rw [List.length_take] at hb1
    have hsum := impl_sum.ev ((l.take (i + w)).drop i) (by omega) (fun x h => by have := hx x (List.mem_of_mem_take (List.mem_of_mem_drop h)); omega)
    generalize hs : sumL ((l.take (i + w)).drop i) 0 = s at *
    obtain ⟨r, hr1, hr2, hr3⟩ := ih (i + 1) (o ++ [s]) (by omega) (by simp [ho])
    refine ⟨r, Ev.step (fun k => ?_) hr1, ?_, hr3⟩
    · simp only [spec_MovingSums.l0]
      have e : (i : Int) + (w : Int) = ((i + w : Nat) : Int) := by omega
      rw [aid_wr (x := (i : Int) + (w : Int)) (by omega) (by omega), e, if_pos (by omega), if_pos (by omega), if_pos (by omega), if_pos (by omega), if_pos (by omega), if_pos (by omega), aid_rd q (i + w) (by omega), aid_rd q i (by omega), aid_wr (x := q[i + w] - q[i]) (by omega) (by omega), aid_wr (x := 2 * (q[i + w] - q[i])) (by omega) (by omega), aid_wr (x := 2 * (q[i + w] - q[i]) - (w : Int)) (by omega) (by omega), aid_next (by omega)]
      rw [show 2 * (q[i + w] - q[i]) - (w : Int) = s by omega]
    · refine Ev.step (f := fun k => (impl_sum.f k ((l.take (i + w)).drop i)).bind fun t134 => (if o.length < 17592186044416 then (impl_movingSums.l0 k l (w : Int) (o ++ [t134]) ((i + 1 : Nat) : Int)) else none)) (fun k => ?_) ?_
      · simp only [impl_movingSums.l0]
        have e : (i : Int) + (w : Int) = ((i + w : Nat) : Int) := by omega
        rw [aid_wr (x := (i : Int) + (w : Int)) (by omega) (by omega), e, if_pos (by omega), if_pos (by omega), if_pos (by omega), aid_next (by omega), Int.toNat_natCast, Int.toNat_natCast]
      · exact Ev.bind hsum (Ev.congr (fun k => if_pos (by omega)) hr2)
theorem mov_both (l : List Int) (w : Int) : ∃ (r : List Int) (b : Bool), Ev (fun k => spec_MovingSums.f k l w) (r, b) ∧ Ev (fun k => impl_MovingSums.f k l w) (r, b) ∧ r.length ≤ 200 := by
  unfold spec_MovingSums.f impl_MovingSums.f
  rw [impl_areBits.eq]
  have hb := spec_dmBits.ev l
  have hno : Ev (fun k => spec_MovingSums.j0 k l w true) (([] : List Int), false) := by
    refine aid_ev_succ ?_
    simp only [spec_MovingSums.j0]
    exact Ev.now _
  cases hB : bitsB l with
  | false =>
    rw [hB] at hb
    exact ⟨[], false, Ev.bind hb hno, Ev.now _, by simp⟩
  | true =>
    rw [hB] at hb
    obtain ⟨hl, hx⟩ := (bitsB_iff l).1 hB
    by_cases hw : 1 ≤ w ∧ w ≤ (l.length : Int)
    · obtain ⟨n, rfl⟩ : ∃ n : Nat, w = (n : Int) := ⟨w.toNat, by omega⟩
      obtain ⟨q, hq0, hq1, hq2⟩ := spec_dmOnes.ev l hl hx
      obtain ⟨r, h1, h2, h3⟩ := mov_l0 l hl hx n (by omega) q hq1 hq2 (l.length + 1 - n) 0 [] (by omega) rfl
      refine ⟨r, true, Ev.bind hb ?_, ?_, h3⟩
      · refine Ev.congr (fun k => if_pos rfl) ?_
        have e : spec_l1In.f (n : Int) 1 (l.length : Int) = some true := by
          unfold spec_l1In.f
          rw [if_pos (by omega), decide_eq_true (by omega)]
        rw [e]
        simp only [Option.bind_some, Bool.not_true]
        refine aid_ev_succ ?_
        simp only [spec_MovingSums.j0]
        exact Ev.bind hq0 h1
      · simp only [Option.bind_some, if_true]
        have e : impl_in.f (n : Int) 1 (l.length : Int) = some true := by
          unfold impl_in.f
          rw [if_pos (by omega), decide_eq_true (by omega)]
        rw [e]
        simp only [Option.bind_some, if_true]
        exact aid_ev_bind h2 rfl
    · refine ⟨[], false, Ev.bind hb ?_, ?_, by simp⟩
      · refine Ev.congr (fun k => if_pos rfl) ?_
        have e : spec_l1In.f w 1 (l.length : Int) = some false := by
          unfold spec_l1In.f
          by_cases h1 : w ≥ 1
          · rw [if_pos h1, decide_eq_false (by omega)]
          · rw [if_neg h1]
        rw [e]
        exact hno
      · simp only [Option.bind_some, if_true]
        have e : impl_in.f w 1 (l.length : Int) = some false := by
          unfold impl_in.f
          by_cases h1 : 1 ≤ w
          · rw [if_pos h1, decide_eq_false (by omega)]
          · rw [if_neg h1]
        rw [e]
        exact Ev.now _

theorem mxD_mem (q : List Int) (w : Nat) : ∀ (d i : Nat) (a : Int), (∃ j, i ≤ j ∧ j < i + d ∧ mxD q w d i a = dI q w j) ∨ mxD q w d i a = a
  | 0, _, _ => .inr rfl
  | d + 1, i, a => by
    rcases mxD_mem q w d (i + 1) (max a (dI q w i)) with ⟨j, h1, h2, h3⟩ | h
    · exact .inl ⟨j, by omega, by omega, h3⟩
    · by_cases hc : a ≤ dI q w i
      · exact .inl ⟨i, by omega, by omega, by rw [mxD, h]; omega⟩
      · exact .inr (by rw [mxD, h]; omega)
theorem mnD_mem (q : List Int) (w : Nat) : ∀ (d i : Nat) (a : Int), (∃ j, i ≤ j ∧ j < i + d ∧ mnD q w d i a = dI q w j) ∨ mnD q w d i a = a
  | 0, _, _ => .inr rfl
  | d + 1, i, a => by
    rcases mnD_mem q w d (i + 1) (min a (dI q w i)) with ⟨j, h1, h2, h3⟩ | h
    · exact .inl ⟨j, by omega, by omega, h3⟩
    · by_cases hc : dI q w i ≤ a
      · exact .inl ⟨i, by omega, by omega, by rw [mnD, h]; omega⟩
      · exact .inr (by rw [mnD, h]; omega)
theorem bal_true (l : List Int) (hl : l.length ≤ 200) (hx : ∀ x ∈ l, x = 1 ∨ x = -1) (q : List Int) (hq1 : q.length = l.length + 1) (hq2 : ∀ j (hj : j < q.length), 2 * q[j] = sumL (l.take j) 0 + (j : Int)) (hbal : ∀ w i j, i + w ≤ l.length → j + w ≤ l.length → dI q w i - dI q w j ≤ 1) :
    ∀ (d w : Nat), w + d = l.length + 1 → 1 ≤ w → Ev (fun k => impl_IsBalancedList.l0 k l (w : Int)) (true, true) := by
  intro d
  induction d with
  | zero =>
    intro w hw h1
    refine aid_ev_succ ?_
    simp only [impl_IsBalancedList.l0]
    exact Ev.congr (fun k => if_neg (by omega)) (Ev.now _)
  | succ d ih =>
    intro w hw h1
    have hv := ih (w + 1) (by omega) (by omega)
    have hD : ∀ j, j < d + 1 → 0 ≤ dI q w j ∧ dI q w j ≤ (w : Int) := fun j hj => by
      have := bal_seg l hl hx q hq1 hq2 w j (by omega)
      exact ⟨this.2.1, this.2.2.1⟩
    have hd0 := hD 0 (by omega)
    have hI := bal_impl l hl hx q hq1 hq2 w h1 (d + 1) 0 [] (by omega) rfl
    have bx := mxD_bound q w d 1 (dI q w 0) (fun j hj hj' => hD j (by omega)) hd0.1 hd0.2
    have bn := mnD_bound q w d 1 (dI q w 0) (fun j hj hj' => hD j (by omega)) hd0.1 hd0.2
    obtain ⟨jx, hjx, ex⟩ : ∃ j, j < d + 1 ∧ mxD q w d 1 (dI q w 0) = dI q w j := by
      rcases mxD_mem q w d 1 (dI q w 0) with ⟨j, h1, h2, h3⟩ | h
      · exact ⟨j, by omega, h3⟩
      · exact ⟨0, by omega, h⟩
    obtain ⟨jn, hjn, en⟩ : ∃ j, j < d + 1 ∧ mnD q w d 1 (dI q w 0) = dI q w j := by
      rcases mnD_mem q w d 1 (dI q w 0) with ⟨j, h1, h2, h3⟩ | h
      · exact ⟨j, by omega, h3⟩
      · exact ⟨0, by omega, h⟩
    have hXY := hbal w jx jn (by omega) (by omega)
    rw [← ex, ← en] at hXY
    have hmv : mvL q w (d + 1) 0 = (2 * dI q w 0 - (w : Int)) :: mvL q w d 1 := rfl
    have hrd : rd (mvL q w (d + 1) 0) 0 = 2 * dI q w 0 - (w : Int) := by rw [hmv]; rfl
    have hmx : slices_Max_int_int.f (mvL q w (d + 1) 0) = some (2 * mxD q w d 1 (dI q w 0) - (w : Int)) := by
      unfold slices_Max_int_int.f
      rw [if_neg (by rw [mvL_length]; omega), if_pos (by rw [mvL_length]; omega), hrd, hmv, List.drop_succ_cons, List.drop_zero, maxG_mv]
    have hmn : slices_Min_int_int.f (mvL q w (d + 1) 0) = some (2 * mnD q w d 1 (dI q w 0) - (w : Int)) := by
      unfold slices_Min_int_int.f
      rw [if_neg (by rw [mvL_length]; omega), if_pos (by rw [mvL_length]; omega), hrd, hmv, List.drop_succ_cons, List.drop_zero, minG_mv]
    generalize mxD q w d 1 (dI q w 0) = X at *
    generalize mnD q w d 1 (dI q w 0) = Y at *
    refine aid_ev_succ ?_
    simp only [impl_IsBalancedList.l0]
    refine Ev.congr (fun k => if_pos (by omega)) ?_
    refine Ev.bind hI ?_
    rw [List.nil_append, hmx, hmn]
    simp only [Option.bind_some]
    rw [aid_wr (x := 2 * X - (w : Int) - (2 * Y - (w : Int))) (by omega) (by omega), aid_next (by omega)]
    exact Ev.congr (fun k => if_neg (by omega)) hv
theorem cL_take (m A : Int) : ∀ (n j t : Nat), t ≤ n → sumL ((cL m A n j).take t) 0 = 2 * (cQ m A (j + t) - cQ m A j) - (t : Int)
  | _, j, 0, _ => by simp [sumL]
  | n + 1, j, t + 1, h => by
    have ih := cL_take m A n (j + 1) t (by omega)
    rw [cL, List.take_succ_cons, sumL, sumL_add, ih, show j + 1 + t = j + (t + 1) by omega]
    unfold cB
    omega
theorem cbits_true {m x : Int} (hm : 1 ≤ m) (hx : -m ≤ x ∧ x ≤ m) (n : Nat) (hn : n ≤ 200) : Ev (fun k => impl_IsBalancedList.f k (modB m (List.replicate n x) 0)) (true, true) := by
  have hbit := modB_bits m (List.replicate n x) 0
  have hlen : (modB m (List.replicate n x) 0).length = n := by rw [modB_length, List.length_replicate]
  have hc := modB_const hm hx n
  unfold impl_IsBalancedList.f
  rw [impl_areBits.eq, (bitsB_iff _).2 ⟨by omega, hbit⟩]
  obtain ⟨q, _, hq1, hq2⟩ := spec_dmOnes.ev _ (by omega) hbit
  refine bal_true _ (by omega) hbit q hq1 hq2 ?_ n 1 (by omega) (by omega)
  have hQ : ∀ j (hj : j < q.length), q[j] = cQ m (x + m) j := fun j hj => by
    have h := hq2 j hj
    rw [hc, cL_take m (x + m) n 0 j (by omega), Nat.zero_add, cQ_zero hm] at h
    omega
  intro w i j hi hj
  rw [hlen] at hi hj hq1
  unfold dI
  rw [aid_rd q (i + w) (by omega), aid_rd q i (by omega), aid_rd q (j + w) (by omega), aid_rd q j (by omega), hQ, hQ, hQ, hQ]
  exact cQ_near hm (x + m) w i j
theorem sumL_cons' (x : Int) (r : List Int) : sumL (x :: r) 0 = x + sumL r 0 := by rw [sumL, sumL_add]; omega
def mvS (l : List Int) (w : Nat) : Nat → Nat → List Int
  | 0, _ => []
  | d + 1, i => sumL ((l.take (i + w)).drop i) 0 :: mvS l w d (i + 1)
theorem mvS_length (l : List Int) (w : Nat) : ∀ d i, (mvS l w d i).length = d
  | 0, _ => rfl
  | d + 1, i => by rw [mvS, List.length_cons, mvS_length l w d]
theorem mvS_get (l : List Int) (w : Nat) : ∀ (d i j : Nat) (h : j < (mvS l w d i).length), (mvS l w d i)[j] = sumL ((l.take (i + j + w)).drop (i + j)) 0
  | d + 1, i, 0, _ => rfl
  | d + 1, i, j + 1, h => by
    show (mvS l w d (i + 1))[j]'_ = _
    rw [mvS_get l w d (i + 1) j, show i + 1 + j = i + (j + 1) by omega]
theorem mov_l0' (l : List Int) (hl : l.length ≤ 200) (hx : ∀ x ∈ l, x = 1 ∨ x = -1) (w : Nat) (hw : 1 ≤ w ∧ w ≤ l.length) (q : List Int) (hq1 : q.length = l.length + 1) (hq2 : ∀ j (hj : j < q.length), 2 * q[j] = sumL (l.take j) 0 + (j : Int)) :
    ∀ (d i : Nat) (o : List Int), i + w + d = l.length + 1 → o.length = i → Ev (fun k => spec_MovingSums.l0 k l (w : Int) q o (i : Int)) (o ++ mvS l w d i, true) ∧ Ev (fun k => impl_movingSums.l0 k l (w : Int) o (i : Int)) (o ++ mvS l w d i) := by
  intro d
  induction d with
  | zero =>
    intro i o hi ho
    rw [mvS, List.append_nil]
    refine ⟨Ev.step (f := fun _ => some (o, true)) (fun k => ?_) (Ev.now _), Ev.step (f := fun _ => some o) (fun k => ?_) (Ev.now _)⟩
    · simp only [spec_MovingSums.l0]
      rw [aid_wr (x := (i : Int) + (w : Int)) (by omega) (by omega), if_neg (by omega)]
    · simp only [impl_movingSums.l0]
      rw [aid_wr (x := (i : Int) + (w : Int)) (by omega) (by omega), if_neg (by omega)]
  | succ d ih =>
    intro i o hi ho
    have hP := hq2 (i + w) (by omega)
    have hQ := hq2 i (by omega)
    have hT : l.take (i + w) = l.take i ++ (l.take (i + w)).drop i := by
      have := List.take_append_drop i (l.take (i + w))
      rw [List.take_take, Nat.min_eq_left (by omega)] at this
      exact this.symm
    have hS : sumL (l.take (i + w)) 0 = sumL (l.take i) 0 + sumL ((l.take (i + w)).drop i) 0 := by
      rw [hT, sumL_append, sumL_add, ← hT]
    have hb := bits_sum ((l.take (i + w)).drop i) (fun x h => hx x (List.mem_of_mem_take (List.mem_of_mem_drop h)))
    have hb1 := bits_sum (l.take i) (fun x h => hx x (List.mem_of_mem_take h))
    have hsl : ((l.take (i + w)).drop i).length ≤ 200 := by
      rw [List.length_drop, List.length_take]
      omega
    rw [List.length_take] at hb1
    have hsum := impl_sum.ev ((l.take (i + w)).drop i) (by omega) (fun x h => by have := hx x (List.mem_of_mem_take (List.mem_of_mem_drop h)); omega)
    rw [mvS]
    generalize hs : sumL ((l.take (i + w)).drop i) 0 = s at *
    obtain ⟨hr1, hr2⟩ := ih (i + 1) (o ++ [s]) (by omega) (by simp [ho])
    rw [List.append_assoc] at hr1 hr2
    refine ⟨Ev.step (fun k => ?_) hr1, ?_⟩
    · simp only [spec_MovingSums.l0]
      have e : (i : Int) + (w : Int) = ((i + w : Nat) : Int) := by omega
      rw [aid_wr (x := (i : Int) + (w : Int)) (by omega) (by omega), e, if_pos (by omega), if_pos (by omega), if_pos (by omega), if_pos (by omega), if_pos (by omega), if_pos (by omega), aid_rd q (i + w) (by omega), aid_rd q i (by omega), aid_wr (x := q[i + w] - q[i]) (by omega) (by omega), aid_wr (x := 2 * (q[i + w] - q[i])) (by omega) (by omega), aid_wr (x := 2 * (q[i + w] - q[i]) - (w : Int)) (by omega) (by omega), aid_next (by omega)]
      rw [show 2 * (q[i + w] - q[i]) - (w : Int) = s by omega]
    · refine Ev.step (f := fun k => (impl_sum.f k ((l.take (i + w)).drop i)).bind fun t134 => (if o.length < 17592186044416 then (impl_movingSums.l0 k l (w : Int) (o ++ [t134]) ((i + 1 : Nat) : Int)) else none)) (fun k => ?_) ?_
      · simp only [impl_movingSums.l0]
        have e : (i : Int) + (w : Int) = ((i + w : Nat) : Int) := by omega
        rw [aid_wr (x := (i : Int) + (w : Int)) (by omega) (by omega), e, if_pos (by omega), if_pos (by omega), if_pos (by omega), aid_next (by omega), Int.toNat_natCast, Int.toNat_natCast]
      · exact Ev.bind hsum (Ev.congr (fun k => if_pos (by omega)) hr2)
theorem mov_both' (l : List Int) (w : Int) : ∃ (r : List Int) (b : Bool), Ev (fun k => spec_MovingSums.f k l w) (r, b) ∧ Ev (fun k => impl_MovingSums.f k l w) (r, b) ∧ r.length ≤ 200 ∧ (b = true → ∃ n : Nat, w = (n : Int) ∧ 1 ≤ n ∧ n ≤ l.length ∧ l.length ≤ 200 ∧ (∀ x ∈ l, x = 1 ∨ x = -1) ∧ r = mvS l n (l.length + 1 - n) 0) := by
  unfold spec_MovingSums.f impl_MovingSums.f
  rw [impl_areBits.eq]
  have hb := spec_dmBits.ev l
  have hno : Ev (fun k => spec_MovingSums.j0 k l w true) (([] : List Int), false) := by
    refine aid_ev_succ ?_
    simp only [spec_MovingSums.j0]
    exact Ev.now _
  cases hB : bitsB l with
  | false =>
    rw [hB] at hb
    exact ⟨[], false, Ev.bind hb hno, Ev.now _, by simp, by simp⟩
  | true =>
    rw [hB] at hb
    obtain ⟨hl, hx⟩ := (bitsB_iff l).1 hB
    by_cases hw : 1 ≤ w ∧ w ≤ (l.length : Int)
    · obtain ⟨n, rfl⟩ : ∃ n : Nat, w = (n : Int) := ⟨w.toNat, by omega⟩
      obtain ⟨q, hq0, hq1, hq2⟩ := spec_dmOnes.ev l hl hx
      obtain ⟨h1, h2⟩ := mov_l0' l hl hx n (by omega) q hq1 hq2 (l.length + 1 - n) 0 [] (by omega) rfl
      rw [List.nil_append] at h1 h2
      refine ⟨_, true, Ev.bind hb ?_, ?_, by rw [mvS_length]; omega, fun _ => ⟨n, rfl, by omega, by omega, hl, hx, rfl⟩⟩
      · refine Ev.congr (fun k => if_pos rfl) ?_
        have e : spec_l1In.f (n : Int) 1 (l.length : Int) = some true := by
          unfold spec_l1In.f
          rw [if_pos (by omega), decide_eq_true (by omega)]
        rw [e]
        simp only [Option.bind_some, Bool.not_true]
        refine aid_ev_succ ?_
        simp only [spec_MovingSums.j0]
        exact Ev.bind hq0 h1
      · simp only [Option.bind_some, if_true]
        have e : impl_in.f (n : Int) 1 (l.length : Int) = some true := by
          unfold impl_in.f
          rw [if_pos (by omega), decide_eq_true (by omega)]
        rw [e]
        simp only [Option.bind_some, if_true]
        exact aid_ev_bind h2 rfl
    · refine ⟨[], false, Ev.bind hb ?_, ?_, by simp, by simp⟩
      · refine Ev.congr (fun k => if_pos rfl) ?_
        have e : spec_l1In.f w 1 (l.length : Int) = some false := by
          unfold spec_l1In.f
          by_cases h1 : w ≥ 1
          · rw [if_pos h1, decide_eq_false (by omega)]
          · rw [if_neg h1]
        rw [e]
        exact hno
      · simp only [Option.bind_some, if_true]
        have e : impl_in.f w 1 (l.length : Int) = some false := by
          unfold impl_in.f
          by_cases h1 : 1 ≤ w
          · rw [if_pos h1, decide_eq_false (by omega)]
          · rw [if_neg h1]
        rw [e]
        exact Ev.now _
theorem runs_both2 (l : List Int) : ∃ (w : List Int), Ev (fun k => spec_RunsOf.f k l) (w, bitsB l) ∧ Ev (fun k => impl_RunsOf.f k l) (w, bitsB l) ∧ w.length ≤ 200 := by
  unfold spec_RunsOf.f impl_RunsOf.f
  rw [impl_areBits.eq]
  have hb := spec_dmBits.ev l
  cases hB : bitsB l with
  | false =>
    rw [hB] at hb
    exact ⟨[], Ev.bind hb (Ev.now _), Ev.now _, by simp⟩
  | true =>
    rw [hB] at hb
    obtain ⟨hl, _⟩ := (bitsB_iff l).1 hB
    obtain ⟨r, h1, h2, h3⟩ := runs_same l hl l.length 0 [] (by omega) (by simp) (by omega) (by simp)
    exact ⟨r, Ev.bind hb h1, h2, by omega⟩
/-- The constants of which l are the bits, from x on. -/
def cfL (m : Int) (l : List Int) : Nat → Int → List Int
  | 0, _ => []
  | d + 1, x => if modB m (List.replicate l.length x) 0 = l then x :: cfL m l d (x + 1) else cfL m l d (x + 1)
theorem cfL_length (m : Int) (l : List Int) : ∀ d x, (cfL m l d x).length ≤ d
  | 0, _ => by simp [cfL]
  | d + 1, x => by
    have := cfL_length m l d (x + 1)
    rw [cfL]
    split
    · rw [List.length_cons]; omega
    · omega
theorem cfL_mem (m : Int) (l : List Int) : ∀ d x, ∀ y ∈ cfL m l d x, x ≤ y ∧ y < x + (d : Int) ∧ modB m (List.replicate l.length y) 0 = l
  | 0, _, _, h => by simp [cfL] at h
  | d + 1, x, y, h => by
    rw [cfL] at h
    split at h
    · rename_i hc
      rcases List.mem_cons.1 h with rfl | h
      · exact ⟨by omega, by omega, hc⟩
      · have := cfL_mem m l d (x + 1) y h
        exact ⟨by omega, by omega, this.2.2⟩
    · have := cfL_mem m l d (x + 1) y h
      exact ⟨by omega, by omega, this.2.2⟩
def cons1 : List Int → Prop
  | [] => True
  | [_] => True
  | a :: b :: r => b = a + 1 ∧ cons1 (b :: r)
theorem cons1_get : ∀ (r : List Int), cons1 r → ∀ i (h : i + 1 < r.length), r[i] = r[i + 1] - 1
  | [], _, i, h => by simp at h
  | [a], _, i, h => by simp at h
  | a :: b :: r, hc, 0, h => by
    have := hc.1
    simp only [List.getElem_cons_zero, List.getElem_cons_succ]
    omega
  | a :: b :: r, hc, i + 1, h => by
    have := cons1_get (b :: r) hc.2 i (by simpa using h)
    simpa using this
theorem cfL_cons {m : Int} (hm : 1 ≤ m) (l : List Int) : ∀ (d : Nat) (x : Int), -m ≤ x → x + (d : Int) ≤ m + 1 → cons1 (cfL m l d x)
  | 0, _, _, _ => trivial
  | d + 1, x, h0, h1 => by
    have ih := cfL_cons hm l d (x + 1) (by omega) (by omega)
    rw [cfL]
    split
    · rename_i hc
      cases d with
      | zero => exact trivial
      | succ d =>
        rw [cfL] at ih ⊢
        split
        · rename_i hc2
          rw [if_pos hc2] at ih
          exact ⟨rfl, ih⟩
        · rename_i hc2
          have hn : cfL m l d (x + 1 + 1) = [] := by
            rw [List.eq_nil_iff_forall_not_mem]
            intro y hy
            obtain ⟨y1, y2, y3⟩ := cfL_mem m l d (x + 1 + 1) y hy
            apply hc2
            rw [modB_const hm (by omega)] at hc y3 ⊢
            rw [cL_between hm l.length (A := x + m) (C := y + m) (hc.trans y3.symm) (by omega) (by omega)]
            exact hc
          rw [hn]
          exact trivial
    · exact ih
theorem cof_l0' (m : Int) (hm : 1 ≤ m ∧ m ≤ 1000) (l : List Int) (hl : l.length ≤ 200) : ∀ (d : Nat) (x : Int) (o : List Int), x + (d : Int) = m + 1 → -m ≤ x → (o.length : Int) ≤ x + m →
    Ev (fun k => spec_ConstantsOf.l0 k m l o x) (o ++ cfL m l d x, true) ∧ Ev (fun k => impl_ConstantsOf.l0 k m l o x) (o ++ cfL m l d x, true) := by
  intro d
  induction d with
  | zero =>
    intro x o hx hx0 ho
    rw [cfL, List.append_nil]
    refine ⟨Ev.step (f := fun _ => some (o, true)) (fun k => ?_) (Ev.now _), Ev.step (f := fun _ => some (o, true)) (fun k => ?_) (Ev.now _)⟩
    · simp only [spec_ConstantsOf.l0]
      rw [if_neg (by omega)]
    · simp only [impl_ConstantsOf.l0]
      rw [if_neg (by omega)]
  | succ d ih =>
    intro x o hx hx0 ho
    have hs := spec_dmConstant.ev m x hm.1 hm.2 ⟨hx0, by omega⟩ l.length (by omega)
    have hi := impl_constantBits.ev m x hm.1 hm.2 ⟨hx0, by omega⟩ l.length (by omega)
    have hlen : (modB m (List.replicate l.length x) 0).length ≤ 1000000 := by
      rw [modB_length, List.length_replicate]
      omega
    have hw : wrap64 (x + 1) = x + 1 := aid_wr (by omega) (by omega)
    have HW := Aside0.mk hw
    clear hw
    have hss := spec_weSame.ev (modB m (List.replicate l.length x) 0) l hlen
    have his := slices_Equal_int_int.ev (modB m (List.replicate l.length x) 0) l hlen
    rw [cfL]
    by_cases hc : modB m (List.replicate l.length x) 0 = l
    · rw [decide_eq_true hc] at hss his
      rw [if_pos hc]
      obtain ⟨h1, h2⟩ := ih (x + 1) (o ++ [x]) (by omega) (by omega) (by rw [List.length_append, List.length_singleton]; omega)
      rw [List.append_assoc] at h1 h2
      refine ⟨aid_ev_succ ?_, aid_ev_succ ?_⟩
      · simp only [spec_ConstantsOf.l0, HW.out]
        refine Ev.congr (fun k => if_pos (by omega)) ?_
        refine Ev.bind hs ?_
        refine Ev.bind hss ?_
        refine Ev.congr (fun k => if_pos rfl) ?_
        exact Ev.congr (fun k => if_pos (by omega)) h1
      · simp only [impl_ConstantsOf.l0, HW.out]
        refine Ev.congr (fun k => if_pos (by omega)) ?_
        refine Ev.bind hi ?_
        refine Ev.bind his ?_
        refine Ev.congr (fun k => if_pos rfl) ?_
        exact Ev.congr (fun k => if_pos (by omega)) h2
    · rw [decide_eq_false hc] at hss his
      rw [if_neg hc]
      obtain ⟨h1, h2⟩ := ih (x + 1) o (by omega) (by omega) (by omega)
      refine ⟨aid_ev_succ ?_, aid_ev_succ ?_⟩
      · simp only [spec_ConstantsOf.l0, HW.out]
        refine Ev.congr (fun k => if_pos (by omega)) ?_
        refine Ev.bind hs ?_
        refine Ev.bind hss ?_
        exact Ev.congr (fun k => if_neg (by decide)) h1
      · simp only [impl_ConstantsOf.l0, HW.out]
        refine Ev.congr (fun k => if_pos (by omega)) ?_
        refine Ev.bind hi ?_
        refine Ev.bind his ?_
        exact Ev.congr (fun k => if_neg (by decide)) h2
theorem cof_both' (m : Int) (l : List Int) : ∃ (w : List Int) (b : Bool), Ev (fun k => spec_ConstantsOf.f k m l) (w, b) ∧ Ev (fun k => impl_ConstantsOf.f k m l) (w, b) ∧ w.length ≤ 2001 ∧ cons1 w ∧ (∀ y ∈ w, (1 ≤ m ∧ m ≤ 1000) ∧ (-m ≤ y ∧ y ≤ m) ∧ l.length ≤ 200 ∧ modB m (List.replicate l.length y) 0 = l) := by
  unfold spec_ConstantsOf.f impl_ConstantsOf.f
  rw [spec_dmScale.eq, impl_in.eq, impl_areBits.eq]
  have hb := spec_dmBits.ev l
  have hs : Ev (fun k => spec_ConstantsOf.j0 k m l true) (([] : List Int), false) := by
    refine aid_ev_succ ?_
    simp only [spec_ConstantsOf.j0]
    exact Ev.now _
  have hi : Ev (fun k => impl_ConstantsOf.j0 k m l true) (([] : List Int), false) := by
    refine aid_ev_succ ?_
    simp only [impl_ConstantsOf.j0]
    exact Ev.now _
  by_cases h : 1 ≤ m ∧ m ≤ 1000
  · rw [decide_eq_true h]
    simp only [Option.bind_some, if_true]
    cases hB : bitsB l with
    | false =>
      rw [hB] at hb
      exact ⟨[], false, Ev.bind hb hs, hi, by simp, trivial, by simp⟩
    | true =>
      rw [hB] at hb
      obtain ⟨hl, hx⟩ := (bitsB_iff l).1 hB
      obtain ⟨h1, h2⟩ := cof_l0' m h l hl (2 * m + 1).toNat (-m) [] (by omega) (by omega) (by simp; omega)
      rw [List.nil_append] at h1 h2
      have hw : wrap64 (-m) = -m := aid_wr (by omega) (by omega)
      refine ⟨cfL m l (2 * m + 1).toNat (-m), true, Ev.bind hb ?_, ?_, ?_, cfL_cons h.1 l _ _ (by omega) (by omega), fun y hy => ?_⟩
      · refine aid_ev_succ ?_
        simp only [spec_ConstantsOf.j0, hw]
        exact h1
      · refine aid_ev_succ ?_
        simp only [impl_ConstantsOf.j0, hw]
        exact h2
      · have := cfL_length m l (2 * m + 1).toNat (-m)
        omega
      · obtain ⟨y1, y2, y3⟩ := cfL_mem m l _ _ y hy
        exact ⟨h, ⟨by omega, by omega⟩, hl, y3⟩
  · rw [decide_eq_false h]
    exact ⟨[], false, hs, hi, by simp, trivial, by simp⟩
theorem cbits_both' (m x z : Int) : ∃ (w : List Int) (b : Bool), Ev (fun k => spec_ConstantBits.f k m x z) (w, b) ∧ Ev (fun k => impl_ConstantBits.f k m x z) (w, b) ∧ w.length ≤ 200 ∧ (b = true → ((1 ≤ m ∧ m ≤ 1000) ∧ (-m ≤ x ∧ x ≤ m)) ∧ ∃ n : Nat, n ≤ 200 ∧ z = (n : Int) ∧ w = modB m (List.replicate n x) 0) := by
  unfold spec_ConstantBits.f impl_ConstantBits.f
  rw [spec_dmNumber.eq, impl_isConstant.eq, impl_in.eq, spec_l1In.eq]
  by_cases h : (1 ≤ m ∧ m ≤ 1000) ∧ (-m ≤ x ∧ x ≤ m)
  · by_cases hz : 0 ≤ z ∧ z ≤ 200
    · obtain ⟨n, rfl⟩ : ∃ n : Nat, z = (n : Int) := ⟨z.toNat, by omega⟩
      rw [decide_eq_true h, decide_eq_true hz]
      simp only [Option.bind_some, if_true]
      refine ⟨modB m (List.replicate n x) 0, true, aid_ev_bind (spec_dmConstant.ev m x h.1.1 h.1.2 h.2 n (by omega)) rfl, aid_ev_bind (impl_constantBits.ev m x h.1.1 h.1.2 h.2 n (by omega)) rfl, ?_, fun _ => ⟨h, n, by omega, rfl, rfl⟩⟩
      rw [modB_length, List.length_replicate]
      omega
    · rw [decide_eq_true h, decide_eq_false hz]
      exact ⟨[], false, Ev.now _, Ev.now _, by simp, by simp⟩
  · rw [decide_eq_false h]
    exact ⟨[], false, Ev.now _, Ev.now _, by simp, by simp⟩
theorem per_both (m x : Int) : ∃ v : Int × Bool, Ev (fun k => spec_PeriodOfConstant.f k m x) v ∧ Ev (fun k => impl_PeriodOfConstant.f k m x) v := by
  by_cases h : (1 ≤ m ∧ m ≤ 1000) ∧ (-m ≤ x ∧ x ≤ m)
  · have h1 := spec_dmPeriod.ev m x h.1.1 h.1.2 h.2.1 h.2.2
    refine ⟨_, ?_, impl_PeriodOfConstant.ev m x h⟩
    unfold spec_PeriodOfConstant.f
    rw [spec_dmNumber.eq]
    simp only [h, decide_true, Option.bind_some, if_true, and_self]
    exact aid_ev_bind h1 rfl
  · refine ⟨_, ?_, impl_PeriodOfConstant.ev_not m x h⟩
    unfold spec_PeriodOfConstant.f
    rw [spec_dmNumber.eq]
    simp only [h, decide_false, Option.bind_some]
    simp
    exact Ev.now _
theorem ones_val (m x : Int) (h : (1 ≤ m ∧ m ≤ 1000) ∧ (-m ≤ x ∧ x ≤ m)) : Ev (fun k => spec_OnesInPeriod.f k m x) ((((2 * m).toNat / Nat.gcd (2 * m).toNat (x + m).toNat : Nat) : Int) * (x + m) / (2 * m), true) ∧ Ev (fun k => impl_OnesInPeriod.f k m x) ((((2 * m).toNat / Nat.gcd (2 * m).toNat (x + m).toNat : Nat) : Int) * (x + m) / (2 * m), true) := by
  have h1 := spec_dmPeriod.ev m x h.1.1 h.1.2 h.2.1 h.2.2
  have hle : (2 * m).toNat / Nat.gcd (2 * m).toNat (x + m).toNat ≤ (2 * m).toNat := Nat.div_le_self _ _
  have h2 := impl_PeriodOfConstant.ev m x h
  generalize (2 * m).toNat / Nat.gcd (2 * m).toNat (x + m).toNat = P at h1 h2 hle
  constructor
  · unfold spec_OnesInPeriod.f
    rw [spec_dmNumber.eq]
    simp only [h, decide_true, Option.bind_some, if_true, and_self]
    exact aid_ev_bind h1 rfl
  · unfold impl_OnesInPeriod.f
    refine aid_ev_bind h2 ?_
    have hb : (P : Int) * (x + m) ≤ 2000 * 2000 := Int.mul_le_mul (by omega) (by omega) (by omega) (by omega)
    have hb0 : 0 ≤ (P : Int) * (x + m) := Int.mul_nonneg (by omega) (by omega)
    have hd := Int.ediv_le_self (2 * m) hb0
    have hd0 : 0 ≤ (P : Int) * (x + m) / (2 * m) := Int.ediv_nonneg hb0 (by omega)
    simp only [if_true]
    rw [aid_wr (x := 2 * m) (by omega) (by omega), if_neg (by omega), aid_wr (x := x + m) (by omega) (by omega), aid_wr (x := (P : Int) * (x + m)) (by omega) (by omega), aid_tdiv hb0, aid_wr (by omega) (by omega)]
theorem ones_both (m x : Int) : ∃ v : Int × Bool, Ev (fun k => spec_OnesInPeriod.f k m x) v ∧ Ev (fun k => impl_OnesInPeriod.f k m x) v := by
  by_cases h : (1 ≤ m ∧ m ≤ 1000) ∧ (-m ≤ x ∧ x ≤ m)
  · exact ⟨_, ones_val m x h⟩
  · refine ⟨(0, false), ?_, ?_⟩
    · unfold spec_OnesInPeriod.f
      rw [spec_dmNumber.eq]
      simp only [h, decide_false, Option.bind_some]
      simp
      exact Ev.now _
    · unfold impl_OnesInPeriod.f
      refine aid_ev_bind (impl_PeriodOfConstant.ev_not m x h) ?_
      simp
theorem laws_iSame.l0_refl (l : List Int) (hl : l.length ≤ 1000000000000000) : ∀ (d i : Nat), i + d = l.length → Ev (fun k => laws_iSame.l0 k l l (l.length : Int) (i : Int)) true := by
  intro d
  induction d with
  | zero =>
    intro i h
    refine Ev.step (fun k => ?_) (Ev.now _)
    simp only [laws_iSame.l0]
    rw [if_neg (by omega)]
  | succ d ih =>
    intro i h
    refine Ev.step (fun k => ?_) (ih (i + 1) (by omega))
    simp only [laws_iSame.l0]
    rw [if_pos (by omega), if_pos (by omega), if_pos (by omega), if_pos (by omega), if_pos trivial, aid_next (by omega)]
theorem laws_iSame.refl (l : List Int) (hl : l.length ≤ 1000000000000000) : Ev (fun k => laws_iSame.f k l l) true := by
  unfold laws_iSame.f
  exact Ev.congr (fun k => if_pos rfl) (laws_iSame.l0_refl l hl l.length 0 (by omega))
theorem laws_iSum.l0_ev (l : List Int) (hl : l.length ≤ 200) (hx : ∀ x ∈ l, x = 1 ∨ x = -1) : ∀ (d i : Nat), i + d = l.length → Ev (fun k => laws_iSum.l0 k (sumL (l.take i) 0) l (l.length : Int) (i : Int)) (sumL l 0) := by
  intro d
  induction d with
  | zero =>
    intro i h
    refine Ev.step (f := fun _ => some (sumL l 0)) (fun k => ?_) (Ev.now _)
    simp only [laws_iSum.l0]
    rw [if_neg (by omega), List.take_of_length_le (by omega)]
  | succ d ih =>
    intro i h
    have hi : i < l.length := by omega
    have h1 := bits_sum (l.take i) (fun x h => hx x (List.mem_of_mem_take h))
    rw [List.length_take] at h1
    have h2 := hx _ (List.getElem_mem hi)
    refine Ev.step (fun k => ?_) (ih (i + 1) (by omega))
    simp only [laws_iSum.l0]
    rw [if_pos (by omega), if_pos (by omega), if_pos (by omega), aid_rd l i hi, aid_next (by omega), sumL_take l i hi, aid_wr (by omega) (by omega)]
theorem laws_iSum.ev (l : List Int) (hl : l.length ≤ 200) (hx : ∀ x ∈ l, x = 1 ∨ x = -1) : Ev (fun k => laws_iSum.f k l) (sumL l 0) := by
  unfold laws_iSum.f
  exact laws_iSum.l0_ev l hl hx l.length 0 (by omega)
theorem laws_iCommon.ev : ∀ (b a : Nat), a ≤ 1000000 → b ≤ 1000000 → Ev (fun k => laws_iCommon.f k (a : Int) (b : Int)) ((Nat.gcd a b : Nat) : Int) := by
  intro b
  induction b using Nat.strongRecOn with
  | _ b ih =>
    intro a ha hb
    unfold laws_iCommon.f
    refine aid_ev_succ ?_
    simp only [laws_iCommon.l0]
    by_cases h : b = 0
    · subst h
      exact Ev.congr (fun k => if_neg (by omega)) (by rw [Nat.gcd_zero_right]; exact Ev.now _)
    · have h2 := ih (a % b) (Nat.mod_lt _ (by omega)) b hb (by have := Nat.mod_lt a (show 0 < b by omega); omega)
      unfold laws_iCommon.f at h2
      refine Ev.congr (fun k => if_pos (by omega)) (Ev.congr (fun k => if_neg (by omega)) ?_)
      rw [aid_tmod (by omega), ← Int.natCast_emod, Nat.gcd_comm a b, Nat.gcd_rec b a, Nat.gcd_comm]
      exact h2
theorem and255 (y : Int) : 0 ≤ wrap64 (Go.bits .and .u64 (IntKind.u64.wrap y / 1099511627776) 255) ∧ wrap64 (Go.bits .and .u64 (IntKind.u64.wrap y / 1099511627776) 255) ≤ 255 := by
  have hw : IntKind.u64.wrap y = y % 18446744073709551616 := IntKind.wrap_u64 y
  have h0 : 0 ≤ y % 18446744073709551616 := Int.emod_nonneg _ (by decide)
  have h1 : y % 18446744073709551616 < 18446744073709551616 := Int.emod_lt_of_pos _ (by decide)
  rw [hw]
  generalize y % 18446744073709551616 = z at *
  have h := bits_mask .u64 63 (by decide) (fun n h₀ h₁ => by rw [IntKind.wrap_u64]; omega) 8 (by decide) (z / 1099511627776) (by omega) (by omega)
  rw [show ((2 : Int) ^ 8 - 1) = 255 by decide, show ((2 : Int) ^ 8) = 256 by decide] at h
  rw [h, aid_wr (by omega) (by omega)]
  omega
theorem next_ev (l : List Int) (hl : ∀ x ∈ l, 0 ≤ x ∧ x ≤ 255) (hn : l.length ≤ 1048576) (a s : Int) (h0 : 0 ≤ a) (h1 : a ≤ 1000000000000) : ∃ v s', spec_l1Cur_next.f l a s = some (v, a + 1, s') ∧ 0 ≤ v ∧ v ≤ 255 := by
  unfold spec_l1Cur_next.f
  rw [aid_wr (x := a + 1) (by omega) (by omega)]
  by_cases c1 : a < (l.length : Int)
  · rw [if_pos c1, if_pos h0, if_pos (by omega)]
    obtain ⟨i, rfl⟩ : ∃ i : Nat, a = (i : Int) := ⟨a.toNat, by omega⟩
    have := hl _ (List.getElem_mem (show i < l.length by omega))
    rw [aid_rd l i (by omega), aid_wr (x := l[i]) (by omega) (by omega)]
    exact ⟨_, _, rfl, this.1, this.2⟩
  · rw [if_neg c1]
    split
    · exact ⟨_, _, rfl, by omega, by omega⟩
    · exact ⟨_, _, rfl, and255 _⟩
theorem pick_ev (l : List Int) (hl : ∀ x ∈ l, 0 ≤ x ∧ x ≤ 255) (hn : l.length ≤ 1048576) (a s n : Int) (h0 : 0 ≤ a) (h1 : a ≤ 1000000000000) (hn2 : n ≤ 200) : ∃ v a' s', spec_l1Cur_pick.f l a s n = some (v, a', s') ∧ 0 ≤ v ∧ (1 ≤ n → v < n) ∧ 0 ≤ a' ∧ a' ≤ a + 1 := by
  unfold spec_l1Cur_pick.f
  by_cases c1 : n ≤ 1
  · rw [if_pos c1]
    exact ⟨0, a, s, rfl, by omega, by omega, by omega, by omega⟩
  · obtain ⟨v, s', h, v0, v1⟩ := next_ev l hl hn a s h0 h1
    rw [if_neg c1, h]
    simp only [Option.bind_some]
    rw [if_neg (by omega), if_neg (by omega), aid_tmod v0]
    exact ⟨_, _, _, rfl, Int.emod_nonneg _ (by omega), fun _ => Int.emod_lt_of_pos _ (by omega), by omega, by omega⟩
theorem one_ev (l : List Int) (hl : ∀ x ∈ l, 0 ≤ x ∧ x ≤ 255) (hn : l.length ≤ 1048576) (a s n : Int) (h0 : 0 ≤ a) (h1 : a ≤ 1000000000000) (hn2 : n ≤ 200) : ∃ b a' s', spec_l1Cur_one.f l a s n = some (b, a', s') ∧ 0 ≤ a' ∧ a' ≤ a + 1 := by
  obtain ⟨v, a', s', h, _, _, h2, h3⟩ := pick_ev l hl hn a s n h0 h1 hn2
  unfold spec_l1Cur_one.f
  rw [h]
  exact ⟨_, _, _, rfl, h2, h3⟩
theorem among_ev (l : List Int) (hl : ∀ x ∈ l, 0 ≤ x ∧ x ≤ 255) (hn : l.length ≤ 1048576) (a s : Int) (q : List Int) (h0 : 0 ≤ a) (h1 : a ≤ 1000000000000) (hq : 1 ≤ q.length ∧ q.length ≤ 200) : ∃ v a' s', spec_l1Cur_among.f l a s q = some (v, a', s') ∧ 0 ≤ a' ∧ a' ≤ a + 1 := by
  obtain ⟨v, a', s', h, v0, v1, h2, h3⟩ := pick_ev l hl hn a s (q.length : Int) h0 h1 (by omega)
  unfold spec_l1Cur_among.f
  rw [h]
  simp only [Option.bind_some]
  rw [if_pos v0, if_pos (v1 (by omega))]
  exact ⟨_, _, _, rfl, h2, h3⟩
theorem constj_ev (l : List Int) (hl : ∀ x ∈ l, 0 ≤ x ∧ x ≤ 255) (hn : l.length ≤ 1048576) (m a s : Int) (h0 : 0 ≤ a) (h1 : a ≤ 900000000000) : ∃ m' x a' s', Ev (fun k => spec_l1Cur_constant.j0 k m l a s) (m', x, a', s') ∧ 0 ≤ a' ∧ a' ≤ a + 4 := by
  obtain ⟨v, a1, s1, e1, v0, v1, h2, h3⟩ := pick_ev l hl hn a s 10 h0 (by omega) (by omega)
  by_cases c1 : v = 0
  · obtain ⟨u, a2, s2, e2, h4, h5⟩ := among_ev l hl hn a1 s1 [m, wrap64 (-m), wrap64 (m + 1), wrap64 (wrap64 (-m) - 1), 4611686018427387904] h2 (by omega) (by simp)
    refine ⟨m, u, a2, s2, aid_ev_succ ?_, h4, by omega⟩
    simp only [spec_l1Cur_constant.j0, e1, Option.bind_some]
    refine Ev.congr (fun k => if_pos c1) ?_
    simp only [e2, Option.bind_some]
    exact Ev.now _
  · by_cases c2 : v = 1
    · refine ⟨m, 0, a1, s1, aid_ev_succ ?_, h2, by omega⟩
      simp only [spec_l1Cur_constant.j0, e1, Option.bind_some]
      exact Ev.congr (fun k => if_neg c1) (Ev.congr (fun k => if_pos c2) (Ev.now _))
    · obtain ⟨u, a2, s2, e2, _, _, h4, h5⟩ := pick_ev l hl hn a1 s1 41 h2 (by omega) (by omega)
      refine ⟨m, wrap64 (Int.tmod u (wrap64 (wrap64 (2 * min 20 (max 1 m)) + 1)) - min 20 (max 1 m)), a2, s2, aid_ev_succ ?_, h4, by omega⟩
      simp only [spec_l1Cur_constant.j0, e1, Option.bind_some]
      refine Ev.congr (fun k => if_neg c1) (Ev.congr (fun k => if_neg c2) ?_)
      simp only [e2, spec_l1Most.eq, spec_l1Least.eq, Option.bind_some]
      refine Ev.congr (fun k => if_neg ?_) (Ev.now _)
      rw [aid_wr (x := 2 * min 20 (max 1 m)) (by omega) (by omega), aid_wr (by omega) (by omega)]
      omega
theorem const_ev (l : List Int) (hl : ∀ x ∈ l, 0 ≤ x ∧ x ≤ 255) (hn : l.length ≤ 1048576) (a s : Int) (h0 : 0 ≤ a) (h1 : a ≤ 800000000000) : ∃ m x a' s', Ev (fun k => spec_l1Cur_constant.f k l a s) (m, x, a', s') ∧ 0 ≤ a' ∧ a' ≤ a + 10 := by
  obtain ⟨v, a1, s1, e1, v0, v1, h2, h3⟩ := pick_ev l hl hn a s 20 h0 (by omega) (by omega)
  obtain ⟨b, a2, s2, e2, h4, h5⟩ := one_ev l hl hn a1 s1 12 h2 (by omega) (by omega)
  unfold spec_l1Cur_constant.f
  simp only [e1, e2, Option.bind_some]
  cases b with
  | true =>
    obtain ⟨u, a3, s3, e3, h6, h7⟩ := among_ev l hl hn a2 s2 [0, 1, 1000, 1001] h4 (by omega) (by simp)
    obtain ⟨m', x, a', s', h, h8, h9⟩ := constj_ev l hl hn u a3 s3 h6 (by omega)
    refine ⟨m', x, a', s', ?_, h8, by omega⟩
    simp only [if_true, e3, Option.bind_some]
    exact h
  | false =>
    obtain ⟨m', x, a', s', h, h8, h9⟩ := constj_ev l hl hn (wrap64 (1 + v)) a2 s2 h4 (by omega)
    refine ⟨m', x, a', s', ?_, h8, by omega⟩
    simp only [Bool.false_eq_true, if_false]
    exact h
theorem bitsl1_ev (l : List Int) (hl : ∀ x ∈ l, 0 ≤ x ∧ x ≤ 255) (hn : l.length ≤ 1048576) : ∀ (d : Nat) (q : List Int) (a s : Int), q.length + d = 300 → 0 ≤ a → a + (d : Int) ≤ 700000000000 → ∃ r a' s', Ev (fun k => spec_l1Cur_bits.l1 k q l a s) (r, a', s') ∧ 0 ≤ a' ∧ a' ≤ a + (d : Int) + 1 := by
  intro d
  induction d with
  | zero =>
    intro q a s hq h0 h1
    obtain ⟨v, a1, s1, e1, v0, v1, h2, h3⟩ := pick_ev l hl hn a s 2 h0 (by omega) (by omega)
    have := v1 (by omega)
    refine ⟨q, a1, s1, aid_ev_succ ?_, h2, by omega⟩
    simp only [spec_l1Cur_bits.l1, e1, Option.bind_some]
    rw [aid_wr (x := 200 + v) (by omega) (by omega)]
    exact Ev.congr (fun k => if_neg (by omega)) (Ev.now _)
  | succ d ih =>
    intro q a s hq h0 h1
    obtain ⟨v, a1, s1, e1, v0, v1, h2, h3⟩ := pick_ev l hl hn a s 2 h0 (by omega) (by omega)
    have := v1 (by omega)
    by_cases c : (q.length : Int) < 200 + v
    · obtain ⟨r, a', s', h, h4, h5⟩ := ih (q ++ [1]) a1 s1 (by rw [List.length_append, List.length_singleton]; omega) h2 (by omega)
      refine ⟨r, a', s', aid_ev_succ ?_, h4, by omega⟩
      simp only [spec_l1Cur_bits.l1, e1, Option.bind_some]
      rw [aid_wr (x := 200 + v) (by omega) (by omega)]
      exact Ev.congr (fun k => if_pos c) (Ev.congr (fun k => if_pos (by omega)) h)
    · refine ⟨q, a1, s1, aid_ev_succ ?_, h2, by omega⟩
      simp only [spec_l1Cur_bits.l1, e1, Option.bind_some]
      rw [aid_wr (x := 200 + v) (by omega) (by omega)]
      exact Ev.congr (fun k => if_neg c) (Ev.now _)
theorem bitsj1_ev (l : List Int) (hl : ∀ x ∈ l, 0 ≤ x ∧ x ≤ 255) (hn : l.length ≤ 1048576) (q : List Int) (a s : Int) (hq : q.length ≤ 100) (h0 : 0 ≤ a) (h1 : a ≤ 600000000000) : ∃ r a' s', Ev (fun k => spec_l1Cur_bits.j1 k q l a s) (r, a', s') ∧ 0 ≤ a' ∧ a' ≤ a + 400 := by
  obtain ⟨v, a1, s1, e1, v0, v1, h2, h3⟩ := pick_ev l hl hn a s 14 h0 (by omega) (by omega)
  by_cases c1 : v = 0
  · obtain ⟨u, a2, s2, e2, h4, h5⟩ := among_ev l hl hn a1 s1 [0, 2, -1] h2 (by omega) (by simp)
    refine ⟨q ++ [u], a2, s2, aid_ev_succ ?_, h4, by omega⟩
    simp only [spec_l1Cur_bits.j1, e1, Option.bind_some]
    refine Ev.congr (fun k => if_pos c1) ?_
    simp only [e2, Option.bind_some]
    exact Ev.congr (fun k => if_pos (by omega)) (Ev.now _)
  · by_cases c2 : v = 1
    · obtain ⟨r, a', s', h, h4, h5⟩ := bitsl1_ev l hl hn (300 - q.length) q a1 s1 (by omega) h2 (by omega)
      refine ⟨r, a', s', aid_ev_succ ?_, h4, by omega⟩
      simp only [spec_l1Cur_bits.j1, e1, Option.bind_some]
      exact Ev.congr (fun k => if_neg c1) (Ev.congr (fun k => if_pos c2) h)
    · refine ⟨q, a1, s1, aid_ev_succ ?_, h2, by omega⟩
      simp only [spec_l1Cur_bits.j1, e1, Option.bind_some]
      exact Ev.congr (fun k => if_neg c1) (Ev.congr (fun k => if_neg c2) (Ev.now _))
theorem bitsl0_ev (l : List Int) (hl : ∀ x ∈ l, 0 ≤ x ∧ x ≤ 255) (hn : l.length ≤ 1048576) : ∀ (d : Nat) (q : List Int) (a s : Int), q.length + d ≤ 50 → 0 ≤ a → a + (d : Int) ≤ 500000000000 → ∃ r a' s', Ev (fun k => spec_l1Cur_bits.l0 k q (d : Int) l a s) (r, a', s') ∧ 0 ≤ a' ∧ a' ≤ a + (d : Int) + 400 := by
  intro d
  induction d with
  | zero =>
    intro q a s hq h0 h1
    obtain ⟨r, a', s', h, h4, h5⟩ := bitsj1_ev l hl hn q a s (by omega) h0 (by omega)
    refine ⟨r, a', s', aid_ev_succ ?_, h4, by omega⟩
    simp only [spec_l1Cur_bits.l0]
    exact Ev.congr (fun k => if_neg (by omega)) h
  | succ d ih =>
    intro q a s hq h0 h1
    obtain ⟨v, a1, s1, e1, v0, v1, h2, h3⟩ := pick_ev l hl hn a s 2 h0 (by omega) (by omega)
    obtain ⟨r, a', s', h, h4, h5⟩ := ih (q ++ [wrap64 (1 - wrap64 (2 * v))]) a1 s1 (by rw [List.length_append, List.length_singleton]; omega) h2 (by omega)
    refine ⟨r, a', s', aid_ev_succ ?_, h4, by omega⟩
    simp only [spec_l1Cur_bits.l0]
    refine Ev.congr (fun k => if_pos (by omega)) ?_
    simp only [e1, Option.bind_some]
    rw [show wrap64 (((d + 1 : Nat) : Int) - 1) = (d : Int) by rw [aid_wr (by omega) (by omega)]; omega]
    exact Ev.congr (fun k => if_pos (by omega)) h
theorem bits_ev (l : List Int) (hl : ∀ x ∈ l, 0 ≤ x ∧ x ≤ 255) (hn : l.length ≤ 1048576) (a s : Int) (h0 : 0 ≤ a) (h1 : a ≤ 400000000000) : ∃ r a' s', Ev (fun k => spec_l1Cur_bits.f k l a s) (r, a', s') ∧ 0 ≤ a' ∧ a' ≤ a + 600 := by
  obtain ⟨b, a1, s1, e1, h2, h3⟩ := one_ev l hl hn a s 2 h0 (by omega) (by omega)
  unfold spec_l1Cur_bits.f
  simp only [e1, Option.bind_some]
  cases b with
  | true =>
    obtain ⟨m, x, a2, s2, e2, h4, h5⟩ := const_ev l hl hn a1 s1 h2 (by omega)
    simp only [if_true]
    by_cases hc : (1 ≤ m ∧ m ≤ 1000) ∧ (-m ≤ x ∧ x ≤ m)
    · obtain ⟨v, a3, s3, e3, v0, v1, h6, h7⟩ := pick_ev l hl hn a2 s2 20 h4 (by omega) (by omega)
      have := v1 (by omega)
      obtain ⟨n, rfl⟩ : ∃ n : Nat, v = (n : Int) := ⟨v.toNat, by omega⟩
      have hC := spec_dmConstant.ev m x hc.1.1 hc.1.2 hc.2 n (by omega)
      obtain ⟨r, a', s', h, h8, h9⟩ := bitsj1_ev l hl hn (modB m (List.replicate n x) 0) a3 s3 (by rw [modB_length, List.length_replicate]; omega) h6 (by omega)
      refine ⟨r, a', s', Ev.bind e2 ?_, h8, by omega⟩
      simp only [spec_dmNumber.eq, decide_eq_true hc, Option.bind_some, if_true, e3]
      exact Ev.bind hC h
    · obtain ⟨r, a', s', h, h8, h9⟩ := bitsj1_ev l hl hn [] a2 s2 (by simp) h4 (by omega)
      refine ⟨r, a', s', Ev.bind e2 ?_, h8, by omega⟩
      simp only [spec_dmNumber.eq, decide_eq_false hc, Option.bind_some, Bool.false_eq_true, if_false]
      exact h
  | false =>
    obtain ⟨v, a2, s2, e2, v0, v1, h4, h5⟩ := pick_ev l hl hn a1 s1 12 h2 (by omega) (by omega)
    have := v1 (by omega)
    obtain ⟨n, rfl⟩ : ∃ n : Nat, v = (n : Int) := ⟨v.toNat, by omega⟩
    obtain ⟨r, a', s', h, h8, h9⟩ := bitsl0_ev l hl hn n [] a2 s2 (by simp; omega) h4 (by omega)
    refine ⟨r, a', s', ?_, h8, by omega⟩
    simp only [Bool.false_eq_true, if_false, e2, Option.bind_some]
    exact h
theorem draw_per (l : List Int) (hl : ∀ x ∈ l, 0 ≤ x ∧ x ≤ 255) (hn : l.length ≤ 1048576) : ∃ v : Int × Int, Ev (fun k => spec_DrawPeriodOfConstant.f k l) v := by
  obtain ⟨m, x, a2, s2, e2, _⟩ := const_ev l hl hn 0 0 (by omega) (by omega)
  exact ⟨(m, x), aid_ev_bind e2 rfl⟩
theorem draw_bal (l : List Int) (hl : ∀ x ∈ l, 0 ≤ x ∧ x ≤ 255) (hn : l.length ≤ 1048576) : ∃ v : List Int, Ev (fun k => spec_DrawIsBalancedList.f k l) v := by
  obtain ⟨r, a2, s2, e2, _⟩ := bits_ev l hl hn 0 0 (by omega) (by omega)
  exact ⟨r, aid_ev_bind e2 rfl⟩
theorem draw_mov (l : List Int) (hl : ∀ x ∈ l, 0 ≤ x ∧ x ≤ 255) (hn : l.length ≤ 1048576) : ∃ v : List Int × Int, Ev (fun k => spec_DrawMovingSums.f k l) v := by
  obtain ⟨r, a2, s2, e2, h2, h3⟩ := bits_ev l hl hn 0 0 (by omega) (by omega)
  obtain ⟨v, a3, s3, e3, _⟩ := pick_ev l hl hn a2 s2 9 h2 (by omega) (by omega)
  refine ⟨(r, v), aid_ev_bind e2 ?_⟩
  simp only [e3, Option.bind_some]
theorem draw_cbits (l : List Int) (hl : ∀ x ∈ l, 0 ≤ x ∧ x ≤ 255) (hn : l.length ≤ 1048576) : ∃ v : Int × Int × Int, Ev (fun k => spec_DrawConstantBits.f k l) v := by
  obtain ⟨m, x, a1, s1, e1, h2, h3⟩ := const_ev l hl hn 0 0 (by omega) (by omega)
  obtain ⟨b, a2, s2, e2, h4, h5⟩ := one_ev l hl hn a1 s1 10 h2 (by omega) (by omega)
  obtain ⟨u, a3, s3, e3, h6, h7⟩ := among_ev l hl hn a2 s2 [-1, 0, 200, 201] h4 (by omega) (by simp)
  obtain ⟨v, a4, s4, e4, _⟩ := pick_ev l hl hn a2 s2 40 h4 (by omega) (by omega)
  cases b with
  | true =>
    refine ⟨(m, x, u), aid_ev_bind e1 ?_⟩
    simp only [e2, Option.bind_some, if_true, e3]
  | false =>
    refine ⟨(m, x, v), aid_ev_bind e1 ?_⟩
    simp only [e2, Option.bind_some, Bool.false_eq_true, if_false, e4]
theorem draw_cof (l : List Int) (hl : ∀ x ∈ l, 0 ≤ x ∧ x ≤ 255) (hn : l.length ≤ 1048576) : ∃ v : Int × List Int, Ev (fun k => spec_DrawConstantsOf.f k l) v := by
  obtain ⟨m, x, a1, s1, e1, h2, h3⟩ := const_ev l hl hn 0 0 (by omega) (by omega)
  by_cases hc : (1 ≤ m ∧ m ≤ 1000) ∧ (-m ≤ x ∧ x ≤ m)
  · obtain ⟨b, a2, s2, e2, h4, h5⟩ := one_ev l hl hn a1 s1 4 h2 (by omega) (by omega)
    cases b with
    | true =>
      obtain ⟨r, a3, s3, e3, _⟩ := bits_ev l hl hn a2 s2 h4 (by omega)
      refine ⟨(m, r), Ev.bind e1 ?_⟩
      simp only [spec_dmNumber.eq, decide_eq_true hc, Option.bind_some, if_true, e2]
      exact aid_ev_bind e3 rfl
    | false =>
      obtain ⟨v, a3, s3, e3, v0, v1, _⟩ := pick_ev l hl hn a2 s2 10 h4 (by omega) (by omega)
      have := v1 (by omega)
      obtain ⟨n, rfl⟩ : ∃ n : Nat, v = (n : Int) := ⟨v.toNat, by omega⟩
      have hC := spec_dmConstant.ev m x hc.1.1 hc.1.2 hc.2 n (by omega)
      refine ⟨(m, modB m (List.replicate n x) 0), Ev.bind e1 ?_⟩
      simp only [spec_dmNumber.eq, decide_eq_true hc, Option.bind_some, if_true, e2, Bool.false_eq_true, if_false, e3]
      exact aid_ev_bind hC rfl
  · obtain ⟨r, a3, s3, e3, _⟩ := bits_ev l hl hn a1 s1 h2 (by omega)
    refine ⟨(m, r), Ev.bind e1 ?_⟩
    simp only [spec_dmNumber.eq, decide_eq_false hc, Option.bind_some, Bool.false_eq_true, if_false]
    exact aid_ev_bind e3 rfl
theorem aid_wf8 {x : Int} (h : (Lit.int .u8 x).wf = true) : 0 ≤ x ∧ x ≤ 255 := by
  have hmin : IntKind.u8.min = 0 := rfl
  have hmax : IntKind.u8.max = 255 := rfl
  simp only [Lit.wf, Bool.and_eq_true, decide_eq_true_eq, hmin, hmax] at h
  exact h
theorem cm_l2 (l : List Int) (n : Nat) (h1 : 1 ≤ n) (h2 : n ≤ l.length) (hl : l.length ≤ 200) (hx : ∀ x ∈ l, x = 1 ∨ x = -1) (r : List Int) (hr : r = mvS l n (l.length + 1 - n) 0) : ∀ (d i : Nat), i + d = r.length → Ev (fun k => laws_FnConstantsModulated.l2 k l (n : Int) r (r.length : Int) (i : Int)) true := by
  have hlen : r.length = l.length + 1 - n := by rw [hr, mvS_length]
  intro d
  induction d with
  | zero =>
    intro i hi
    refine aid_ev_succ ?_
    simp only [laws_FnConstantsModulated.l2]
    refine Ev.congr (fun k => if_neg (by omega)) ?_
    rw [aid_wr (x := (l.length : Int) - (n : Int)) (by omega) (by omega), aid_wr (by omega) (by omega)]
    rw [show ((r.length : Int) == (l.length : Int) - (n : Int) + 1) = true by rw [beq_iff_eq]; omega]
    exact Ev.now _
  | succ d ih =>
    intro i hi
    have hs := laws_iSum.ev ((l.take (i + n)).drop i) (by rw [List.length_drop, List.length_take]; omega) (fun x h => hx x (List.mem_of_mem_take (List.mem_of_mem_drop h)))
    have e : rd r (i : Int) = sumL ((l.take (i + n)).drop i) 0 := by
      rw [aid_rd r i (by omega)]
      subst hr
      rw [mvS_get, Nat.zero_add]
    refine aid_ev_succ ?_
    simp only [laws_FnConstantsModulated.l2]
    have e2 : (i : Int) + (n : Int) = ((i + n : Nat) : Int) := by omega
    rw [aid_wr (x := (i : Int) + (n : Int)) (by omega) (by omega), e2, aid_next (by omega), Int.toNat_natCast, Int.toNat_natCast]
    refine Ev.congr (fun k => if_pos (by omega)) (Ev.congr (fun k => if_pos (by omega)) (Ev.congr (fun k => if_pos (by omega)) (Ev.congr (fun k => if_pos (by omega)) (Ev.congr (fun k => if_pos (by omega)) ?_))))
    refine Ev.bind hs ?_
    exact Ev.congr (fun k => if_pos e) (ih (i + 1) (by omega))
theorem cm_j6 (l : List Int) (w : Int) (r : List Int) (b : Bool) (h : b = true → ∃ n : Nat, w = (n : Int) ∧ 1 ≤ n ∧ n ≤ l.length ∧ l.length ≤ 200 ∧ (∀ x ∈ l, x = 1 ∨ x = -1) ∧ r = mvS l n (l.length + 1 - n) 0) : Ev (fun k => laws_FnConstantsModulated.j6 k l w r b false) true := by
  refine aid_ev_succ ?_
  simp only [laws_FnConstantsModulated.j6]
  refine Ev.congr (fun k => if_neg (by decide)) ?_
  cases b with
  | false => exact Ev.congr (fun k => if_neg (by decide)) (Ev.now _)
  | true =>
    obtain ⟨n, rfl, h1, h2, h3, h4, h5⟩ := h rfl
    exact Ev.congr (fun k => if_pos rfl) (cm_l2 l n h1 h2 h3 h4 r h5 r.length 0 (by omega))
theorem cm_l1 (l : List Int) (hl : ∀ x ∈ l, 0 ≤ x ∧ x ≤ 255) (hn : l.length ≤ 1048576) (m : Int) (q all : List Int) (hc : cons1 all) (ha : all.length ≤ 2001) (hg : ∀ y ∈ all, (1 ≤ m ∧ m ≤ 1000) ∧ (-m ≤ y ∧ y ≤ m) ∧ q.length ≤ 200 ∧ modB m (List.replicate q.length y) 0 = q) : ∀ (d i : Nat), i + d = all.length → Ev (fun k => laws_FnConstantsModulated.l1 k l m q all (all.length : Int) (i : Int)) true := by
  intro d
  induction d with
  | zero =>
    intro i hi
    obtain ⟨⟨a, b⟩, hD1⟩ := draw_per l hl hn
    obtain ⟨⟨p1, p2⟩, hP1, hP2⟩ := per_both a b
    obtain ⟨⟨o1, o2⟩, hO1, hO2⟩ := ones_both a b
    obtain ⟨c, hD2⟩ := draw_bal l hl hn
    obtain ⟨u, hU1, hU2⟩ := bal_both2 c
    obtain ⟨r, hR1, hR2, hR3⟩ := runs_both2 c
    obtain ⟨⟨d, w⟩, hD3⟩ := draw_mov l hl hn
    obtain ⟨s, b3, hS1, hS2, hS3, hS4⟩ := mov_both' d w
    have hI1 := laws_iSame.refl r (by omega)
    have hI2 := laws_iSame.refl s (by omega)
    have hN : ∀ b : Bool, ¬ ((b != b) = true) := by intro b; cases b <;> decide
    have hJ := cm_j6 d w s b3 hS4
    refine aid_ev_succ ?_
    simp only [laws_FnConstantsModulated.l1]
    refine Ev.congr (fun k => if_neg (by omega)) ?_
    refine Ev.bind hD1 ?_
    dsimp only
    refine Ev.bind hP2 (Ev.bind hP1 (Ev.bind hO2 (Ev.bind hO1 (Ev.bind hD2 (Ev.bind hU2 (Ev.bind hU1 (Ev.bind hR2 (Ev.bind hR1 (Ev.bind hD3 ?_)))))))))
    dsimp only
    refine Ev.bind hS2 (Ev.bind hS1 ?_)
    dsimp only
    refine Ev.congr (fun k => if_neg (hN _)) (Ev.congr (fun k => if_pos rfl) (Ev.congr (fun k => if_neg (hN _)) (Ev.congr (fun k => if_pos rfl) (Ev.congr (fun k => if_neg (hN _)) (Ev.congr (fun k => if_neg (hN _)) (Ev.congr (fun k => if_neg (hN _)) (Ev.bind hI1 (Ev.congr (fun k => if_pos rfl) (Ev.congr (fun k => if_neg (hN _)) (Ev.bind hI2 (Ev.congr (fun k => if_pos rfl) ?_)))))))))))
    rw [show (bitsB c != bitsB c) = false by cases bitsB c <;> rfl]
    exact hJ
  | succ d ih =>
    intro i hi
    have hi' : i < all.length := by omega
    obtain ⟨g1, g2, g3, g4⟩ := hg _ (List.getElem_mem hi')
    have hB : Ev (fun k => impl_ConstantBits.f k m all[i] (q.length : Int)) (q, true) := by
      unfold impl_ConstantBits.f
      rw [impl_isConstant.eq, impl_in.eq, decide_eq_true ⟨g1, g2⟩, decide_eq_true (by omega)]
      simp only [Option.bind_some, if_true]
      have := impl_constantBits.ev m all[i] g1.1 g1.2 g2 q.length (by omega)
      rw [g4] at this
      exact aid_ev_bind this rfl
    have hI := laws_iSame.refl q (by omega)
    have h := ih (i + 1) (by omega)
    refine aid_ev_succ ?_
    simp only [laws_FnConstantsModulated.l1]
    refine Ev.congr (fun k => if_pos (by omega)) (Ev.congr (fun k => if_pos (by omega)) (Ev.congr (fun k => if_pos (by omega)) ?_))
    rw [aid_rd all i hi']
    refine Ev.bind hB ?_
    dsimp only
    refine Ev.congr (fun k => if_pos rfl) (Ev.bind hI (Ev.congr (fun k => if_pos rfl) ?_))
    rw [aid_next (by omega)]
    by_cases h0 : (i : Int) > 0
    · refine Ev.congr (fun k => if_pos h0) ?_
      obtain ⟨j, rfl⟩ : ∃ j, i = j + 1 := ⟨i - 1, by omega⟩
      have hg2 := cons1_get all hc j hi'
      have e : wrap64 (((j + 1 : Nat) : Int) - 1) = (j : Int) := by rw [aid_wr (by omega) (by omega)]; omega
      rw [e, aid_rd all j (by omega), aid_wr (x := all[j + 1] - 1) (by omega) (by omega)]
      exact Ev.congr (fun k => if_pos (by omega)) (Ev.congr (fun k => if_pos (by omega)) (Ev.congr (fun k => if_pos hg2) h))
    · exact Ev.congr (fun k => if_neg h0) h
theorem cm_j3 (l : List Int) (hl : ∀ x ∈ l, 0 ≤ x ∧ x ≤ 255) (hn : l.length ≤ 1048576) : Ev (fun k => laws_FnConstantsModulated.j3 k l) true := by
  obtain ⟨⟨m, q⟩, hD⟩ := draw_cof l hl hn
  obtain ⟨w, b, h1, h2, h3, h4, h5⟩ := cof_both' m q
  have hI := laws_iSame.refl w (by omega)
  have hN : ¬ ((b != b) = true) := by cases b <;> decide
  have hL := cm_l1 l hl hn m q w h4 h3 h5 w.length 0 (by omega)
  refine aid_ev_succ ?_
  simp only [laws_FnConstantsModulated.j3]
  refine Ev.bind hD ?_
  dsimp only
  refine Ev.bind h2 (Ev.bind h1 ?_)
  dsimp only
  refine Ev.congr (fun k => if_neg hN) (Ev.bind hI ?_)
  refine aid_ev_succ ?_
  simp only [laws_FnConstantsModulated.j4]
  exact Ev.congr (fun k => if_neg (by decide)) hL
theorem cm_l0 (l : List Int) (hl : ∀ x ∈ l, 0 ≤ x ∧ x ≤ 255) (hn : l.length ≤ 1048576) (bits : List Int) (hb : bits.length ≤ 200) (P : Nat) (hP : P ≤ 100000) (hper : ∀ j (h : j + P < bits.length), bits[j + P] = bits[j]) : ∀ (d i : Nat), i + d = bits.length → Ev (fun k => laws_FnConstantsModulated.l0 k l bits (P : Int) (bits.length : Int) (i : Int)) true := by
  intro d
  induction d with
  | zero =>
    intro i hi
    refine aid_ev_succ ?_
    simp only [laws_FnConstantsModulated.l0]
    exact Ev.congr (fun k => if_neg (by omega)) (cm_j3 l hl hn)
  | succ d ih =>
    intro i hi
    have h := ih (i + 1) (by omega)
    refine aid_ev_succ ?_
    simp only [laws_FnConstantsModulated.l0]
    rw [aid_next (by omega)]
    refine Ev.congr (fun k => if_pos (by omega)) ?_
    by_cases c : (i : Int) ≥ (P : Int)
    · obtain ⟨j, rfl⟩ : ∃ j, i = j + P := ⟨i - P, by omega⟩
      have e : wrap64 (((j + P : Nat) : Int) - (P : Int)) = (j : Int) := by rw [aid_wr (by omega) (by omega)]; omega
      have e2 : rd bits ((j + P : Nat) : Int) = rd bits (j : Int) := by rw [aid_rd bits (j + P) (by omega), aid_rd bits j (by omega), hper j (by omega)]
      rw [e]
      exact Ev.congr (fun k => if_pos c) (Ev.congr (fun k => if_pos (by omega)) (Ev.congr (fun k => if_pos (by omega)) (Ev.congr (fun k => if_pos (by omega)) (Ev.congr (fun k => if_pos (by omega)) (Ev.congr (fun k => if_pos e2) h)))))
    · exact Ev.congr (fun k => if_neg c) h
theorem cm_j1 (l : List Int) (hl : ∀ x ∈ l, 0 ≤ x ∧ x ≤ 255) (hn : l.length ≤ 1048576) (m x : Int) (h : (1 ≤ m ∧ m ≤ 1000) ∧ (-m ≤ x ∧ x ≤ m)) (n : Nat) (hn2 : n ≤ 200) : Ev (fun k => laws_FnConstantsModulated.j0 k l m x (n : Int) (modB m (List.replicate n x) 0) true false) true := by
  have hlen : (modB m (List.replicate n x) 0).length = n := by rw [modB_length, List.length_replicate]
  have hB := cbits_true h.1.1 h.2 n hn2
  have hP := impl_PeriodOfConstant.ev m x h
  have hO := (ones_val m x h).2
  have hle : (2 * m).toNat / Nat.gcd (2 * m).toNat (x + m).toNat ≤ (2 * m).toNat := Nat.div_le_self _ _
  have hG := laws_iCommon.ev (x + m).toNat (2 * m).toNat (by omega) (by omega)
  have hg : 0 < Nat.gcd (2 * m).toNat (x + m).toNat := Nat.gcd_pos_of_pos_left _ (by omega)
  have hd1 : (2 * m).toNat / Nat.gcd (2 * m).toNat (x + m).toNat * Nat.gcd (2 * m).toNat (x + m).toNat = (2 * m).toNat := Nat.div_mul_cancel (Nat.gcd_dvd_left _ _)
  have hd2 : (x + m).toNat / Nat.gcd (2 * m).toNat (x + m).toNat * Nat.gcd (2 * m).toNat (x + m).toNat = (x + m).toNat := Nat.div_mul_cancel (Nat.gcd_dvd_right _ _)
  have hdv : ((2 * m).toNat : Int) / ((Nat.gcd (2 * m).toNat (x + m).toNat : Nat) : Int) = (((2 * m).toNat / Nat.gcd (2 * m).toNat (x + m).toNat : Nat) : Int) := by rw [Int.natCast_ediv]
  have hgl : Nat.gcd (2 * m).toNat (x + m).toNat ≤ (2 * m).toNat := Nat.gcd_le_left _ (by omega)
  generalize hK : (x + m).toNat / Nat.gcd (2 * m).toNat (x + m).toNat = K at *
  generalize (2 * m).toNat / Nat.gcd (2 * m).toNat (x + m).toNat = P at *
  generalize Nat.gcd (2 * m).toNat (x + m).toNat = g at *
  have hPA : (P : Int) * (x + m) = 2 * m * (K : Int) := by
    have e1 : ((x + m).toNat : Int) = x + m := Int.toNat_of_nonneg (by omega)
    have e2 : ((2 * m).toNat : Int) = 2 * m := Int.toNat_of_nonneg (by omega)
    rw [← e1, ← e2, ← hd1, ← hd2]
    simp only [Int.natCast_mul]
    rw [Int.mul_assoc, Int.mul_comm (g : Int) (K : Int)]
  have hKv : (P : Int) * (x + m) / (2 * m) = (K : Int) := by
    rw [hPA]
    exact Int.mul_ediv_cancel_left _ (by omega)
  rw [hKv] at hO
  have hb : (P : Int) * (x + m) ≤ 2000 * 2000 := Int.mul_le_mul (by omega) (by omega) (by omega) (by omega)
  have hb0 : 0 ≤ (P : Int) * (x + m) := Int.mul_nonneg (by omega) (by omega)
  have hK0 : (K : Int) * 2 * m = (P : Int) * (x + m) := by rw [hPA, Int.mul_assoc, Int.mul_comm]
  have hKl : (K : Int) ≤ 1000000 := by
    have h1 : K * g ≤ 2000 := by omega
    have h2 : K * 1 ≤ K * g := Nat.mul_le_mul_left _ hg
    omega
  have hL := cm_l0 l hl hn (modB m (List.replicate n x) 0) (by omega) P (by omega) (by
    intro j hj
    have hc := modB_const h.1.1 h.2 n
    simp only [hc]
    rw [cL_get, cL_get, Nat.zero_add, Nat.zero_add]
    exact cB_period h.1.1 P K hPA j) n 0 (by omega)
  refine aid_ev_succ ?_
  simp only [laws_FnConstantsModulated.j0]
  refine Ev.congr (fun k => if_neg (by decide)) (Ev.congr (fun k => if_pos trivial) ?_)
  refine Ev.bind hB (Ev.bind hP (Ev.bind hO ?_))
  dsimp only
  refine Ev.congr (fun k => if_pos rfl) (Ev.congr (fun k => if_pos rfl) (Ev.congr (fun k => if_pos rfl) (Ev.congr (fun k => if_pos rfl) (Ev.congr (fun k => if_pos (by omega)) ?_))))
  rw [aid_wr (x := 2 * m) (by omega) (by omega), aid_wr (x := x + m) (by omega) (by omega)]
  have e1 : ((2 * m).toNat : Int) = 2 * m := Int.toNat_of_nonneg (by omega)
  have e2 : ((x + m).toNat : Int) = x + m := Int.toNat_of_nonneg (by omega)
  rw [e1, e2] at hG
  rw [e1] at hdv
  refine Ev.bind hG ?_
  rw [aid_tdiv (by omega), hdv, aid_wr (x := (P : Int)) (by omega) (by omega), aid_wr (x := (K : Int) * 2) (by omega) (by omega), hK0, aid_wr (x := (P : Int) * (x + m)) (by omega) (by omega)]
  refine Ev.congr (fun k => if_neg (by omega)) (Ev.congr (fun k => if_pos rfl) ?_)
  rw [show ((P : Int) * (x + m) != (P : Int) * (x + m)) = false by simp]
  refine aid_ev_succ ?_
  simp only [laws_FnConstantsModulated.j1]
  refine Ev.congr (fun k => if_neg (by decide)) ?_
  rw [hlen] at hL ⊢
  exact hL
theorem FnConstantsModulated : laws_FnConstantsModulated.Pure := by
  intro l0 l1 _ _ hx0 _ _ hx1
  refine Ev.rounds ?_
  unfold laws_FnConstantsModulated.f laws_big.f
  by_cases c0 : (l0.length : Int) > 1048576
  · rw [if_pos c0]
    exact Ev.now _
  rw [if_neg c0, aid_wr (x := 1048576 - (l0.length : Int)) (by omega) (by omega)]
  by_cases c1 : (l1.length : Int) > 1048576 - (l0.length : Int)
  · rw [decide_eq_true c1]
    exact Ev.now _
  rw [decide_eq_false c1]
  simp only [Option.bind_some, Bool.false_eq_true, if_false]
  have hl0 : ∀ x ∈ l0, 0 ≤ x ∧ x ≤ 255 := fun x h => aid_wf8 (hx0 x h)
  have hl1 : ∀ x ∈ l1, 0 ≤ x ∧ x ≤ 255 := fun x h => aid_wf8 (hx1 x h)
  obtain ⟨⟨m, x, z⟩, hD⟩ := draw_cbits l0 hl0 (by omega)
  obtain ⟨w, b, h1, h2, h3, h4⟩ := cbits_both' m x z
  have hI := laws_iSame.refl w (by omega)
  have hN : ¬ ((b != b) = true) := by cases b <;> decide
  have hJ : Ev (fun k => laws_FnConstantsModulated.j0 k l1 m x z w b false) true := by
    cases b with
    | false =>
      refine aid_ev_succ ?_
      simp only [laws_FnConstantsModulated.j0]
      exact Ev.congr (fun k => if_neg (by decide)) (Ev.congr (fun k => if_neg (by decide)) (cm_j3 l1 hl1 (by omega)))
    | true =>
      obtain ⟨hv, n, hn, rfl, rfl⟩ := h4 rfl
      exact cm_j1 l1 hl1 (by omega) m x hv n hn
  refine Ev.bind hD ?_
  dsimp only
  refine Ev.bind h2 (Ev.bind h1 ?_)
  dsimp only
  exact Ev.congr (fun k => if_neg hN) (Ev.bind hI hJ)

end Go.Proofs.Ytlmlehfgdmhbmaa.Pure
