/- Proves that the program's IsBalancedList returns what the reference's returns, for all arguments. Conditions: none. -/
import Derived.Test.YtlmlehfgdmhbmaaPFnExactIsBalancedListx2
namespace Go.Proofs.Ytlmlehfgdmhbmaa.Pure
open Go.RowKit Go.Proofs.Ytlmlehfgdmhbmaa.PFnExactIsBalancedList Go.Proofs.YtlmlehfgdmhbmaaW.PrintWords Go.Proofs.YtlmlehfgdmhbmaaW.PrintLast
set_option linter.unusedSimpArgs false
set_option linter.unusedVariables false

-- Aid
theorem aid_wr {x : Int} (h0 : -9223372036854775808 ≤ x) (h1 : x ≤ 9223372036854775807) : wrap64 x = x := by unfold wrap64; omega
theorem aid_wf {x : Int} (h : (Lit.int .i64 x).wf = true) : -9223372036854775808 ≤ x ∧ x ≤ 9223372036854775807 := by
  have hmin : IntKind.i64.min = -9223372036854775808 := rfl
  have hmax : IntKind.i64.max = 9223372036854775807 := rfl
  simp only [Lit.wf, Bool.and_eq_true, decide_eq_true_eq, hmin, hmax] at h
  exact h
theorem aid_ev_bind {α β : Type} {g : Nat → Option α} {f : α → Option β} {a : α} {r : β} (h : Ev g a) (k : f a = some r) : Ev (fun n => (g n).bind f) r :=
  Ev.bind (f := fun _ => f) h ⟨0, fun _ _ => k⟩
theorem aid_ev_const {α : Type} {o : Option α} {r : α} (h : o = some r) : Ev (fun _ => o) r := ⟨0, fun _ _ => h⟩
theorem aid_tdiv {a b : Int} (ha : 0 ≤ a) : Int.tdiv a b = a / b := Int.tdiv_eq_ediv_of_nonneg ha
theorem aid_tmod {a b : Int} (ha : 0 ≤ a) : Int.tmod a b = a % b := Int.tmod_eq_emod_of_nonneg ha
theorem aid_next {i : Nat} (h : i ≤ 9223372036854775806) : wrap64 ((i : Int) + 1) = ((i + 1 : Nat) : Int) := by rw [aid_wr (by omega) (by omega)]; rfl
theorem aid_rd (l : List Int) (i : Nat) (h : i < l.length) : rd l (i : Int) = l[i] := by
  unfold rd
  rw [List.getD_eq_getElem?_getD, Int.toNat_natCast, List.getElem?_eq_getElem h]
  rfl
theorem aid_ev_succ {α : Type} {g : Nat → Option α} {r : α} (h : Ev (fun k => g (k + 1)) r) : Ev g r := Ev.step (fun _ => rfl) h

-- laws_toIntS
theorem aid_fill (l : List Int) (i d : Nat) (h : i + (d + 1) = l.length) : (l.take i ++ List.replicate (d + 1) 0).set i (rd l i) = l.take (i + 1) ++ List.replicate d 0 := by
  have hi' : i < l.length := by omega
  have hlen : (l.take i).length = i := by rw [List.length_take]; omega
  rw [List.set_append_right _ _ (by omega), hlen, Nat.sub_self, aid_rd l i hi', List.take_succ_eq_append_getElem hi', List.append_assoc]
  rfl
theorem laws_toIntS.l0_ev (l : List Int) (hl : l.length ≤ 1000000000000000) : ∀ (d i : Nat), i + d = l.length → Ev (fun k => laws_toIntS.l0 k l (l.take i ++ List.replicate d 0) (i : Int)) l := by
  intro d
  induction d with
  | zero =>
    intro i h
    refine Ev.step (fun k => ?_) (Ev.now _)
    simp only [laws_toIntS.l0]
    rw [if_neg (by omega), List.take_of_length_le (by omega)]
    simp
  | succ d ih =>
    intro i h
    refine Ev.step (fun k => ?_) (ih (i + 1) (by omega))
    have hlen : (l.take i ++ List.replicate (d + 1) 0).length = l.length := by
      rw [List.length_append, List.length_take, List.length_replicate]; omega
    simp only [laws_toIntS.l0]
    rw [if_pos (by omega), if_pos (by omega), if_pos (by rw [hlen]; omega), aid_next (by omega), Int.toNat_natCast, aid_fill l i d h]
theorem laws_toIntS.ev (l : List Int) (hl : l.length * 8 ≤ 140737488351232) : Ev (fun k => laws_toIntS.f k l) l := by
  unfold laws_toIntS.f
  have h := laws_toIntS.l0_ev l (by omega) l.length 0 (by omega)
  refine Ev.congr (fun k => ?_) h
  rw [if_pos (by omega), if_pos (by omega)]
  simp

-- laws_eqIntS
theorem laws_eqIntS.l0_refl (l : List Int) (hl : l.length ≤ 1000000000000000) : ∀ (d i : Nat), i + d = l.length → Ev (fun k => laws_eqIntS.l0 k l l (i : Int)) true := by
  intro d
  induction d with
  | zero =>
    intro i h
    refine Ev.step (fun k => ?_) (Ev.now _)
    simp only [laws_eqIntS.l0]
    rw [if_neg (by omega)]
  | succ d ih =>
    intro i h
    refine Ev.step (fun k => ?_) (ih (i + 1) (by omega))
    simp only [laws_eqIntS.l0]
    rw [if_pos (by omega), if_pos (by omega), if_pos (by omega), if_pos trivial, aid_next (by omega)]
theorem laws_eqIntS.refl (l : List Int) (hl : l.length ≤ 1000000000000000) : Ev (fun k => laws_eqIntS.f k l l) true := by
  unfold laws_eqIntS.f
  exact Ev.congr (fun k => if_pos rfl) (laws_eqIntS.l0_refl l hl l.length 0 (by omega))

-- Bits
def bitsB (l : List Int) : Bool := decide (l.length ≤ 200) && l.all fun x => decide (x = 1 ∨ x = -1)
theorem bitsB_iff (l : List Int) : bitsB l = true ↔ l.length ≤ 200 ∧ ∀ x ∈ l, x = 1 ∨ x = -1 := by
  simp [bitsB]

-- spec_dmBits
theorem spec_dmBits.l0_ev (l : List Int) (hl : l.length ≤ 200) : ∀ (d i : Nat), i + d = l.length → Ev (fun k => spec_dmBits.l0 k l (l.length : Int) (i : Int)) ((l.drop i).all fun x => decide (x = 1 ∨ x = -1)) := by
  intro d
  induction d with
  | zero =>
    intro i h
    rw [List.drop_eq_nil_of_le (by omega)]
    refine Ev.step (fun k => ?_) (Ev.now _)
    simp only [spec_dmBits.l0]
    rw [if_neg (by omega)]
    rfl
  | succ d ih =>
    intro i h
    have hi' : i < l.length := by omega
    rw [List.drop_eq_getElem_cons hi', List.all_cons, ← aid_rd l i hi']
    by_cases hc : rd l i = 1
    · refine Ev.step (fun k => ?_) (by simpa [hc] using ih (i + 1) (by omega))
      simp only [spec_dmBits.l0]
      rw [if_pos (by omega), if_pos (by omega), if_pos (by omega), if_pos hc, aid_next (by omega)]
      rfl
    · by_cases hc' : rd l i = -1
      · refine Ev.step (fun k => ?_) (by simpa [hc'] using ih (i + 1) (by omega))
        simp only [spec_dmBits.l0]
        rw [if_pos (by omega), if_pos (by omega), if_pos (by omega), if_neg hc, if_pos hc', aid_next (by omega)]
        rfl
      · refine Ev.step (f := fun _ => some false) (fun k => ?_) (by simpa [hc, hc'] using Ev.now false)
        simp only [spec_dmBits.l0]
        rw [if_pos (by omega), if_pos (by omega), if_pos (by omega), if_neg hc, if_neg hc']
theorem spec_dmBits.ev (l : List Int) : Ev (fun k => spec_dmBits.f k l) (bitsB l) := by
  unfold spec_dmBits.f bitsB
  by_cases h : l.length ≤ 200
  · simp only [h, decide_true, Bool.true_and]
    exact Ev.congr (fun k => if_neg (by omega)) (spec_dmBits.l0_ev l h l.length 0 (by omega))
  · simp only [h, decide_false, Bool.false_and]
    exact Ev.congr (fun k => if_pos (by omega)) (Ev.now _)

-- Sums
def sumL : List Int → Int → Int
  | [], a => a
  | x :: r, a => sumL r (a + x)
theorem sumL_add : ∀ (l : List Int) (a : Int), sumL l a = a + sumL l 0
  | [], a => by simp [sumL]
  | x :: r, a => by
    rw [sumL, sumL, sumL_add r (a + x), sumL_add r (0 + x)]
    omega
theorem sumL_cons (x : Int) (r : List Int) : sumL (x :: r) 0 = x + sumL r 0 := by
  rw [sumL, sumL_add]
  omega
theorem sumL_bound (B : Nat) : ∀ (l : List Int), (∀ x ∈ l, -(B : Int) ≤ x ∧ x ≤ B) → -((l.length * B : Nat) : Int) ≤ sumL l 0 ∧ sumL l 0 ≤ ((l.length * B : Nat) : Int)
  | [], _ => by simp [sumL]
  | x :: r, h => by
    have h1 := h x (by simp)
    have h2 := sumL_bound B r (fun y hy => h y (by simp [hy]))
    rw [sumL_cons, List.length_cons, Nat.add_mul]
    omega

-- Combos
theorem aid_four {s : Int} (h : 1 ≤ s ∧ s ≤ 4) : s ∈ [(1 : Int), 2, 3, 4] := by
  have : s = 1 ∨ s = 2 ∨ s = 3 ∨ s = 4 := by omega
  rcases this with h | h | h | h <;> simp [h]
theorem aid_eight {s : Int} (h : 1 ≤ s ∧ s ≤ 8) : s ∈ [(1 : Int), 2, 3, 4, 5, 6, 7, 8] := by
  have : s = 1 ∨ s = 2 ∨ s = 3 ∨ s = 4 ∨ s = 5 ∨ s = 6 ∨ s = 7 ∨ s = 8 := by omega
  rcases this with h | h | h | h | h | h | h | h <;> simp [h]

-- spec_dmOnes
theorem sumL_append (a b : List Int) (z : Int) : sumL (a ++ b) z = sumL b (sumL a z) := by
  induction a generalizing z with
  | nil => rfl
  | cons x r ih => exact ih (z + x)
theorem sumL_take (l : List Int) (i : Nat) (h : i < l.length) : sumL (l.take (i + 1)) 0 = sumL (l.take i) 0 + l[i] := by
  rw [List.take_succ_eq_append_getElem h, sumL_append]
  rfl
theorem bits_sum (l : List Int) (hx : ∀ x ∈ l, x = 1 ∨ x = -1) : -(l.length : Int) ≤ sumL l 0 ∧ sumL l 0 ≤ (l.length : Int) := by
  have := sumL_bound 1 l (fun x h => by have := hx x h; omega)
  omega
theorem spec_dmOnes.l0_ev (l : List Int) (hl : l.length ≤ 200) (hx : ∀ x ∈ l, x = 1 ∨ x = -1) : ∀ (d i : Nat) (p : List Int), i + d = l.length → p.length = i + 1 → (∀ j (hj : j < p.length), 2 * p[j] = sumL (l.take j) 0 + (j : Int)) →
    ∃ q : List Int, Ev (fun k => spec_dmOnes.l0 k p l (l.length : Int) (i : Int)) q ∧ q.length = l.length + 1 ∧ (∀ j (hj : j < q.length), 2 * q[j] = sumL (l.take j) 0 + (j : Int)) := by
  intro d
  induction d with
  | zero =>
    intro i p hi hp hq
    refine ⟨p, Ev.step (f := fun _ => some p) (fun k => ?_) (Ev.now _), by omega, hq⟩
    simp only [spec_dmOnes.l0]
    rw [if_neg (by omega)]
  | succ d ih =>
    intro i p hi hp hq
    have hi' : i < l.length := by omega
    have hxi := hx l[i] (List.getElem_mem hi')
    have hpi := hq i (by omega)
    have hb := bits_sum (l.take i) (fun x h => hx x (List.mem_of_mem_take h))
    rw [List.length_take] at hb
    obtain ⟨v, hv⟩ : ∃ v : Int, v = p[i] + (l[i] + 1) / 2 := ⟨_, rfl⟩
    have hv2 : 2 * v = sumL (l.take (i + 1)) 0 + ((i + 1 : Nat) : Int) := by
      rw [sumL_take l i hi', hv]
      omega
    have hq' : ∀ j (hj : j < (p ++ [v]).length), 2 * (p ++ [v])[j] = sumL (l.take j) 0 + (j : Int) := by
      intro j hj
      rw [List.length_append, List.length_singleton] at hj
      by_cases hj' : j < p.length
      · rw [List.getElem_append_left hj']
        exact hq j hj'
      · have e : j = i + 1 := by omega
        subst e
        rw [List.getElem_append_right (by omega)]
        simpa using hv2
    obtain ⟨q, hq1, hq2, hq3⟩ := ih (i + 1) (p ++ [v]) (by omega) (by rw [List.length_append, List.length_singleton]; omega) hq'
    refine ⟨q, Ev.step (fun k => ?_) hq1, hq2, hq3⟩
    simp only [spec_dmOnes.l0]
    rw [if_pos (by omega), if_pos (by omega), if_pos (by omega), if_pos (by omega), if_pos (by omega), aid_rd l i hi', aid_rd p i (by omega), aid_wr (x := l[i] + 1) (by omega) (by omega), Int.tdiv_eq_ediv_of_nonneg (by omega), aid_wr (x := (l[i] + 1) / 2) (by omega) (by omega), ← hv, aid_wr (x := v) (by omega) (by omega), aid_next (by omega)]
theorem spec_dmOnes.ev (l : List Int) (hl : l.length ≤ 200) (hx : ∀ x ∈ l, x = 1 ∨ x = -1) : ∃ q : List Int, Ev (fun k => spec_dmOnes.f k l) q ∧ q.length = l.length + 1 ∧ (∀ j (hj : j < q.length), 2 * q[j] = sumL (l.take j) 0 + (j : Int)) :=
  spec_dmOnes.l0_ev l hl hx l.length 0 [0] (by omega) rfl (fun j hj => by
    have e : j = 0 := by simp at hj; omega
    subst e
    simp [sumL])

-- spec_l1Least
theorem spec_l1Least.eq (a b : Int) : spec_l1Least.f a b = some (min a b) := by
  unfold spec_l1Least.f
  split <;> simp <;> omega

-- spec_l1Most
theorem spec_l1Most.eq (a b : Int) : spec_l1Most.f a b = some (max a b) := by
  unfold spec_l1Most.f
  split <;> simp <;> omega

-- impl_areBits
theorem impl_areBits.eq (l : List Int) : impl_areBits.f l = some (bitsB l) := by
  unfold impl_areBits.f bitsB
  have e1 : decide ((l.length : Int) ≤ 200) = decide (l.length ≤ 200) := by
    rw [Bool.eq_iff_iff]; simp; omega
  have e2 : (!(l.any fun x => decide (¬ x = 1) && decide (¬ x = -1))) = l.all fun x => decide (x = 1 ∨ x = -1) := by
    rw [List.not_any_eq_all_not]
    congr 1
    funext x
    rw [Bool.eq_iff_iff]
    simp
  rw [e1, e2]

-- impl_sum
theorem impl_sum.l0_ev (l : List Int) (hl : l.length ≤ 1000000) (hx : ∀ x ∈ l, -1000000000 ≤ x ∧ x ≤ 1000000000) : ∀ (d i : Nat) (a : Int), i + d = l.length → -(1000000000 * (i : Int)) ≤ a → a ≤ 1000000000 * (i : Int) →
    Ev (fun k => impl_sum.l0 k a l (l.length : Int) (i : Int)) (sumL (l.drop i) a) := by
  intro d
  induction d with
  | zero =>
    intro i a hi h0 h1
    rw [List.drop_eq_nil_of_le (by omega)]
    refine Ev.step (f := fun _ => some (sumL [] a)) (fun k => ?_) (Ev.now _)
    simp only [impl_sum.l0]
    rw [if_neg (by omega)]
    rfl
  | succ d ih =>
    intro i a hi h0 h1
    have hi' : i < l.length := by omega
    have hxi := hx l[i] (List.getElem_mem hi')
    rw [List.drop_eq_getElem_cons hi', sumL]
    refine Ev.step (fun k => ?_) (ih (i + 1) (a + l[i]) (by omega) (by omega) (by omega))
    simp only [impl_sum.l0]
    rw [if_pos (by omega), if_pos (by omega), if_pos (by omega), aid_rd l i hi', aid_wr (x := a + l[i]) (by omega) (by omega), aid_next (by omega)]
theorem impl_sum.ev (l : List Int) (hl : l.length ≤ 1000000) (hx : ∀ x ∈ l, -1000000000 ≤ x ∧ x ≤ 1000000000) : Ev (fun k => impl_sum.f k l) (sumL l 0) :=
  impl_sum.l0_ev l hl hx l.length 0 0 (by omega) (by omega) (by omega)

def dI (q : List Int) (w i : Nat) : Int := rd q ((i + w : Nat) : Int) - rd q (i : Int)
def mvL (q : List Int) (w : Nat) : Nat → Nat → List Int
  | 0, _ => []
  | d + 1, i => (2 * dI q w i - (w : Int)) :: mvL q w d (i + 1)
def mxD (q : List Int) (w : Nat) : Nat → Nat → Int → Int
  | 0, _, a => a
  | d + 1, i, a => mxD q w d (i + 1) (max a (dI q w i))
def mnD (q : List Int) (w : Nat) : Nat → Nat → Int → Int
  | 0, _, a => a
  | d + 1, i, a => mnD q w d (i + 1) (min a (dI q w i))
theorem maxG_mv (q : List Int) (w : Nat) : ∀ (d i : Nat) (a : Int), maxG (mvL q w d i) (2 * a - (w : Int)) = 2 * mxD q w d i a - (w : Int)
  | 0, _, _ => rfl
  | d + 1, i, a => by
    rw [mvL, maxG, mxD, ← maxG_mv q w d (i + 1)]
    congr 1
    unfold mx
    split <;> omega
theorem minG_mv (q : List Int) (w : Nat) : ∀ (d i : Nat) (a : Int), minG (mvL q w d i) (2 * a - (w : Int)) = 2 * mnD q w d i a - (w : Int)
  | 0, _, _ => rfl
  | d + 1, i, a => by
    rw [mvL, minG, mnD, ← minG_mv q w d (i + 1)]
    congr 1
    unfold mn
    split <;> omega
theorem mxD_bound (q : List Int) (w : Nat) : ∀ (d i : Nat) (a : Int), (∀ j, i ≤ j → j < i + d → 0 ≤ dI q w j ∧ dI q w j ≤ (w : Int)) → 0 ≤ a → a ≤ (w : Int) → 0 ≤ mxD q w d i a ∧ mxD q w d i a ≤ (w : Int)
  | 0, _, _, _, h0, h1 => ⟨h0, h1⟩
  | d + 1, i, a, h, h0, h1 => by
    have := h i (by omega) (by omega)
    exact mxD_bound q w d (i + 1) _ (fun j hj hj' => h j (by omega) (by omega)) (by omega) (by omega)
theorem mnD_bound (q : List Int) (w : Nat) : ∀ (d i : Nat) (a : Int), (∀ j, i ≤ j → j < i + d → 0 ≤ dI q w j ∧ dI q w j ≤ (w : Int)) → 0 ≤ a → a ≤ (w : Int) → 0 ≤ mnD q w d i a ∧ mnD q w d i a ≤ (w : Int)
  | 0, _, _, _, h0, h1 => ⟨h0, h1⟩
  | d + 1, i, a, h, h0, h1 => by
    have := h i (by omega) (by omega)
    exact mnD_bound q w d (i + 1) _ (fun j hj hj' => h j (by omega) (by omega)) (by omega) (by omega)
theorem mvL_length (q : List Int) (w : Nat) : ∀ (d i : Nat), (mvL q w d i).length = d
  | 0, _ => rfl
  | d + 1, i => by rw [mvL, List.length_cons, mvL_length q w d (i + 1)]
section
variable (l : List Int) (hl : l.length ≤ 200) (hx : ∀ x ∈ l, x = 1 ∨ x = -1) (q : List Int) (hq1 : q.length = l.length + 1) (hq2 : ∀ j (hj : j < q.length), 2 * q[j] = sumL (l.take j) 0 + (j : Int))
include hl hx hq1 hq2
theorem bal_seg (w i : Nat) (h : i + w ≤ l.length) : sumL ((l.take (i + w)).drop i) 0 = 2 * dI q w i - (w : Int) ∧ 0 ≤ dI q w i ∧ dI q w i ≤ (w : Int) ∧ 0 ≤ q[i + w]'(by omega) ∧ q[i + w]'(by omega) ≤ 200 ∧ 0 ≤ q[i]'(by omega) ∧ q[i]'(by omega) ≤ 200 := by
  have hP := hq2 (i + w) (by omega)
  have hQ := hq2 i (by omega)
  have hT : l.take (i + w) = l.take i ++ (l.take (i + w)).drop i := by
    have := List.take_append_drop i (l.take (i + w))
    rw [List.take_take, Nat.min_eq_left (by omega)] at this
    exact this.symm
  have hS : sumL (l.take (i + w)) 0 = sumL (l.take i) 0 + sumL ((l.take (i + w)).drop i) 0 := by
    rw [hT, sumL_append, sumL_add, ← hT]
  have hb := bits_sum ((l.take (i + w)).drop i) (fun x h => hx x (List.mem_of_mem_take (List.mem_of_mem_drop h)))
  have hb1 := bits_sum (l.take i) (fun x h => hx x (List.mem_of_mem_take h))
  have hb2 := bits_sum (l.take (i + w)) (fun x h => hx x (List.mem_of_mem_take h))
  rw [List.length_drop, List.length_take] at hb
  rw [List.length_take] at hb1 hb2
  unfold dI
  rw [aid_rd q (i + w) (by omega), aid_rd q i (by omega)]
  omega
theorem bal_impl (w : Nat) (hw : 1 ≤ w) : ∀ (d i : Nat) (o : List Int), i + w + d = l.length + 1 → o.length = i → Ev (fun k => impl_movingSums.l0 k l (w : Int) o (i : Int)) (o ++ mvL q w d i) := by
  intro d
  induction d with
  | zero =>
    intro i o hi ho
    rw [mvL, List.append_nil]
    refine Ev.step (f := fun _ => some o) (fun k => ?_) (Ev.now _)
    simp only [impl_movingSums.l0]
    rw [aid_wr (x := (i : Int) + (w : Int)) (by omega) (by omega), if_neg (by omega)]
  | succ d ih =>
    intro i o hi ho
    have hseg := bal_seg l hl hx q hq1 hq2 w i (by omega)
    have hsl : ((l.take (i + w)).drop i).length ≤ 200 := by
      rw [List.length_drop, List.length_take]
      omega
    have hsum := impl_sum.ev ((l.take (i + w)).drop i) (by omega) (fun x h => by have := hx x (List.mem_of_mem_take (List.mem_of_mem_drop h)); omega)
    rw [hseg.1] at hsum
    have h := ih (i + 1) (o ++ [2 * dI q w i - (w : Int)]) (by omega) (by simp [ho])
    rw [List.append_assoc] at h
    rw [mvL]
    refine aid_ev_succ ?_
    simp only [impl_movingSums.l0]
    have e : (i : Int) + (w : Int) = ((i + w : Nat) : Int) := by omega
    rw [aid_wr (x := (i : Int) + (w : Int)) (by omega) (by omega), e, aid_next (by omega), Int.toNat_natCast, Int.toNat_natCast]
    refine Ev.congr (fun k => if_pos (by omega)) ?_
    refine Ev.congr (fun k => if_pos (by omega)) ?_
    refine Ev.congr (fun k => if_pos (by omega)) ?_
    exact Ev.bind hsum (Ev.congr (fun k => if_pos (by omega)) h)
theorem bal_spec (w : Nat) (hw : 1 ≤ w) (v : Bool × Bool) : ∀ (d i : Nat) (a b : Int), i + w + d = l.length + 1 → 0 ≤ a → a ≤ (w : Int) → 0 ≤ b → b ≤ (w : Int) →
    Ev (fun k => if wrap64 (mxD q w d i b - mnD q w d i a) > 1 then (some (false, true)) else (spec_IsBalancedList.l0 k l q (wrap64 ((w : Int) + 1)))) v → Ev (fun k => spec_IsBalancedList.l1 k l q (w : Int) a b (i : Int)) v := by
  intro d
  induction d with
  | zero =>
    intro i a b hi h0 h1 h2 h3 hv
    refine aid_ev_succ ?_
    simp only [spec_IsBalancedList.l1]
    rw [aid_wr (x := (i : Int) + (w : Int)) (by omega) (by omega)]
    exact Ev.congr (fun k => if_neg (by omega)) hv
  | succ d ih =>
    intro i a b hi h0 h1 h2 h3 hv
    obtain ⟨_, hd0, hd1, hqa, hqb, hqc, hqd⟩ := bal_seg l hl hx q hq1 hq2 w i (by omega)
    have hdI : wrap64 (rd q ((i + w : Nat) : Int) - rd q (i : Int)) = dI q w i := by
      unfold dI
      rw [aid_rd q (i + w) (by omega), aid_rd q i (by omega), aid_wr (by omega) (by omega)]
    rw [mxD, mnD] at hv
    have h := ih (i + 1) (min a (dI q w i)) (max b (dI q w i)) (by omega) (by omega) (by omega) (by omega) (by omega) hv
    refine aid_ev_succ ?_
    simp only [spec_IsBalancedList.l1]
    have e : (i : Int) + (w : Int) = ((i + w : Nat) : Int) := by omega
    rw [aid_wr (x := (i : Int) + (w : Int)) (by omega) (by omega), e, aid_next (by omega), hdI, spec_l1Least.eq, spec_l1Most.eq]
    refine Ev.congr (fun k => if_pos (by omega)) ?_
    refine Ev.congr (fun k => if_pos (by omega)) ?_
    refine Ev.congr (fun k => if_pos (by omega)) ?_
    refine Ev.congr (fun k => if_pos (by omega)) ?_
    refine Ev.congr (fun k => if_pos (by omega)) ?_
    simp only [Option.bind_some]
    exact h
theorem bal_l0 : ∀ (d w : Nat), w + d = l.length + 1 → 1 ≤ w → ∃ v : Bool × Bool, Ev (fun k => spec_IsBalancedList.l0 k l q (w : Int)) v ∧ Ev (fun k => impl_IsBalancedList.l0 k l (w : Int)) v := by
  intro d
  induction d with
  | zero =>
    intro w hw h1
    refine ⟨(true, true), aid_ev_succ ?_, aid_ev_succ ?_⟩
    · simp only [spec_IsBalancedList.l0]
      exact Ev.congr (fun k => if_neg (by omega)) (Ev.now _)
    · simp only [impl_IsBalancedList.l0]
      exact Ev.congr (fun k => if_neg (by omega)) (Ev.now _)
  | succ d ih =>
    intro w hw h1
    obtain ⟨v, hv1, hv2⟩ := ih (w + 1) (by omega) (by omega)
    have hD : ∀ j, j < d + 1 → 0 ≤ dI q w j ∧ dI q w j ≤ (w : Int) := fun j hj => by
      have := bal_seg l hl hx q hq1 hq2 w j (by omega)
      exact ⟨this.2.1, this.2.2.1⟩
    have hd0 := hD 0 (by omega)
    have hI := bal_impl l hl hx q hq1 hq2 w h1 (d + 1) 0 [] (by omega) rfl
    have bx := mxD_bound q w d 1 (dI q w 0) (fun j hj hj' => hD j (by omega)) hd0.1 hd0.2
    have bn := mnD_bound q w d 1 (dI q w 0) (fun j hj hj' => hD j (by omega)) hd0.1 hd0.2
    have hmv : mvL q w (d + 1) 0 = (2 * dI q w 0 - (w : Int)) :: mvL q w d 1 := rfl
    have hrd : rd (mvL q w (d + 1) 0) 0 = 2 * dI q w 0 - (w : Int) := by rw [hmv]; rfl
    have hmx : slices_Max_int_int.f (mvL q w (d + 1) 0) = some (2 * mxD q w d 1 (dI q w 0) - (w : Int)) := by
      unfold slices_Max_int_int.f
      rw [if_neg (by rw [mvL_length]; omega), if_pos (by rw [mvL_length]; omega), hrd, hmv, List.drop_succ_cons, List.drop_zero, maxG_mv]
    have hmn : slices_Min_int_int.f (mvL q w (d + 1) 0) = some (2 * mnD q w d 1 (dI q w 0) - (w : Int)) := by
      unfold slices_Min_int_int.f
      rw [if_neg (by rw [mvL_length]; omega), if_pos (by rw [mvL_length]; omega), hrd, hmv, List.drop_succ_cons, List.drop_zero, minG_mv]
    have hx0 : mxD q w (d + 1) 0 0 = mxD q w d 1 (dI q w 0) := by rw [mxD, show max 0 (dI q w 0) = dI q w 0 by omega]
    have hn0 : mnD q w (d + 1) 0 (w : Int) = mnD q w d 1 (dI q w 0) := by rw [mnD, show min (w : Int) (dI q w 0) = dI q w 0 by omega]
    generalize mxD q w d 1 (dI q w 0) = X at *
    generalize mnD q w d 1 (dI q w 0) = Y at *
    have hS : ∀ v : Bool × Bool, Ev (fun k => if wrap64 (X - Y) > 1 then (some (false, true)) else (spec_IsBalancedList.l0 k l q (wrap64 ((w : Int) + 1)))) v → Ev (fun k => spec_IsBalancedList.l0 k l q (w : Int)) v := by
      intro v h
      refine aid_ev_succ ?_
      simp only [spec_IsBalancedList.l0]
      refine Ev.congr (fun k => if_pos (by omega)) ?_
      refine bal_spec l hl hx q hq1 hq2 w h1 v (d + 1) 0 (w : Int) 0 (by omega) (by omega) (by omega) (by omega) (by omega) ?_
      rw [hx0, hn0]
      exact h
    have hJ : ∀ v : Bool × Bool, Ev (fun k => if wrap64 (2 * X - (w : Int) - (2 * Y - (w : Int))) > 2 then (some (false, true)) else (impl_IsBalancedList.l0 k l (wrap64 ((w : Int) + 1)))) v → Ev (fun k => impl_IsBalancedList.l0 k l (w : Int)) v := by
      intro v h
      refine aid_ev_succ ?_
      simp only [impl_IsBalancedList.l0]
      refine Ev.congr (fun k => if_pos (by omega)) ?_
      refine Ev.bind hI ?_
      rw [List.nil_append, hmx, hmn]
      exact h
    rw [aid_wr (x := X - Y) (by omega) (by omega), aid_next (by omega)] at hS
    rw [aid_wr (x := 2 * X - (w : Int) - (2 * Y - (w : Int))) (by omega) (by omega), aid_next (by omega)] at hJ
    by_cases hc : X - Y > 1
    · exact ⟨(false, true), hS _ (Ev.congr (fun k => if_pos hc) (Ev.now _)), hJ _ (Ev.congr (fun k => if_pos (by omega)) (Ev.now _))⟩
    · exact ⟨v, hS _ (Ev.congr (fun k => if_neg hc) hv1), hJ _ (Ev.congr (fun k => if_neg (by omega)) hv2)⟩
end
theorem bal_both (l : List Int) : ∃ v : Bool × Bool, Ev (fun k => spec_IsBalancedList.f k l) v ∧ Ev (fun k => impl_IsBalancedList.f k l) v := by
  unfold spec_IsBalancedList.f impl_IsBalancedList.f
  rw [impl_areBits.eq]
  have hb := spec_dmBits.ev l
  cases hB : bitsB l with
  | false =>
    rw [hB] at hb
    exact ⟨(false, false), Ev.bind hb (Ev.now _), Ev.now _⟩
  | true =>
    rw [hB] at hb
    obtain ⟨hl, hx⟩ := (bitsB_iff l).1 hB
    obtain ⟨q, hq0, hq1, hq2⟩ := spec_dmOnes.ev l hl hx
    obtain ⟨v, h1, h2⟩ := bal_l0 l hl hx q hq1 hq2 l.length 1 (by omega) (by omega)
    refine ⟨v, Ev.bind hb (Ev.congr (fun k => if_pos rfl) (Ev.bind hq0 h1)), h2⟩
theorem FnExactIsBalancedList : laws_FnExactIsBalancedList.Pure := by
  intro l _ h8 _
  refine Ev.rounds ?_
  unfold laws_FnExactIsBalancedList.f
  by_cases hb : (l.length : Int) > 1048576
  · exact Ev.congr (fun k => if_pos hb) (Ev.now _)
  refine Ev.congr (fun k => if_neg hb) ?_
  have hT := laws_toIntS.ev l h8
  obtain ⟨⟨r, b⟩, hs, hi⟩ := bal_both l
  have hNr : ¬ ((r != r) = true) := by cases r <;> decide
  have hE := laws_eqIntS.refl l (by omega)
  have hEl := hE
  have hM := hE
  have hMl := hE
  have hH := hE
  have hNb : ¬ ((b != b) = true) := by cases b <;> decide
  have hN1 := hNb
  have hN2 := hNb
  repeat (first
    | exact Ev.now _
    | ((with_reducible refine Ev.bind hT ?_); try dsimp only)
    | ((with_reducible refine Ev.bind hs ?_); try dsimp only)
    | ((with_reducible refine Ev.bind hi ?_); try dsimp only)
    | ((with_reducible refine Ev.bind hE ?_); try dsimp only)
    | ((with_reducible refine Ev.bind hEl ?_); try dsimp only)
    | ((with_reducible refine Ev.bind hM ?_); try dsimp only)
    | ((with_reducible refine Ev.bind hMl ?_); try dsimp only)
    | ((with_reducible refine Ev.bind hH ?_); try dsimp only)
    | (with_reducible refine Ev.congr (fun k => if_neg hNr) ?_)
    | (with_reducible refine Ev.congr (fun k => if_pos rfl) ?_)
    | (with_reducible refine Ev.congr (fun k => if_neg hNb) ?_)
    | (with_reducible refine Ev.congr (fun k => if_neg hN1) ?_)
    | (with_reducible refine Ev.congr (fun k => if_neg hN2) ?_)
    | (refine aid_ev_succ ?_; simp only [laws_FnExactIsBalancedList.j0]; try dsimp only))

end Go.Proofs.Ytlmlehfgdmhbmaa.Pure
