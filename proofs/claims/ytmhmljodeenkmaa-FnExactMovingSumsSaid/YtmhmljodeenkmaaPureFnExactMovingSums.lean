/- Proves that the program's MovingSums returns what the reference's returns, for all arguments. Conditions: none. -/
import Derived.Test.YtmhmljodeenkmaaPFnExactMovingSumsx3
namespace Go.Proofs.Ytmhmljodeenkmaa.Pure
open Go.RowKit Go.Proofs.Ytmhmljodeenkmaa.PFnExactMovingSums Go.Proofs.YtmhmljodeenkmaaW.PrintWords Go.Proofs.YtmhmljodeenkmaaW.PrintLast
set_option linter.unusedSimpArgs false
set_option linter.unusedVariables false

-- Aid
theorem aid_wr {x : Int} (h0 : -9223372036854775808 ≤ x) (h1 : x ≤ 9223372036854775807) : wrap64 x = x := by unfold wrap64; omega
theorem aid_wf {x : Int} (h : (Lit.int .i64 x).wf = true) : -9223372036854775808 ≤ x ∧ x ≤ 9223372036854775807 := by
  have hmin : IntKind.i64.min = -9223372036854775808 := rfl
  have hmax : IntKind.i64.max = 9223372036854775807 := rfl
  simp only [Lit.wf, Bool.and_eq_true, decide_eq_true_eq, hmin, hmax] at h
  exact h
theorem aid_ev_bind {α β : Type} {g : Nat → Option α} {f : α → Option β} {a : α} {r : β} (h : Ev g a) (k : f a = some r) : Ev (fun n => (g n).bind f) r :=
  Ev.bind (f := fun _ => f) h ⟨0, fun _ _ => k⟩
theorem aid_ev_const {α : Type} {o : Option α} {r : α} (h : o = some r) : Ev (fun _ => o) r := ⟨0, fun _ _ => h⟩
theorem aid_tdiv {a b : Int} (ha : 0 ≤ a) : Int.tdiv a b = a / b := Int.tdiv_eq_ediv_of_nonneg ha
theorem aid_tmod {a b : Int} (ha : 0 ≤ a) : Int.tmod a b = a % b := Int.tmod_eq_emod_of_nonneg ha
theorem aid_next {i : Nat} (h : i ≤ 9223372036854775806) : wrap64 ((i : Int) + 1) = ((i + 1 : Nat) : Int) := by rw [aid_wr (by omega) (by omega)]; rfl
theorem aid_rd (l : List Int) (i : Nat) (h : i < l.length) : rd l (i : Int) = l[i] := by
  unfold rd
  rw [List.getD_eq_getElem?_getD, Int.toNat_natCast, List.getElem?_eq_getElem h]
  rfl
theorem aid_ev_succ {α : Type} {g : Nat → Option α} {r : α} (h : Ev (fun k => g (k + 1)) r) : Ev g r := Ev.step (fun _ => rfl) h

-- laws_toIntS
theorem aid_fill (l : List Int) (i d : Nat) (h : i + (d + 1) = l.length) : (l.take i ++ List.replicate (d + 1) 0).set i (rd l i) = l.take (i + 1) ++ List.replicate d 0 := by
  have hi' : i < l.length := by omega
  have hlen : (l.take i).length = i := by rw [List.length_take]; omega
  rw [List.set_append_right _ _ (by omega), hlen, Nat.sub_self, aid_rd l i hi', List.take_succ_eq_append_getElem hi', List.append_assoc]
  rfl
theorem laws_toIntS.l0_ev (l : List Int) (hl : l.length ≤ 1000000000000000) : ∀ (d i : Nat), i + d = l.length → Ev (fun k => laws_toIntS.l0 k l (l.take i ++ List.replicate d 0) (i : Int)) l := by
  intro d
  induction d with
  | zero =>
    intro i h
    refine Ev.step (fun k => ?_) (Ev.now _)
    simp only [laws_toIntS.l0]
    rw [if_neg (by omega), List.take_of_length_le (by omega)]
    simp
  | succ d ih =>
    intro i h
    refine Ev.step (fun k => ?_) (ih (i + 1) (by omega))
    have hlen : (l.take i ++ List.replicate (d + 1) 0).length = l.length := by
      rw [List.length_append, List.length_take, List.length_replicate]; omega
    simp only [laws_toIntS.l0]
    rw [if_pos (by omega), if_pos (by omega), if_pos (by rw [hlen]; omega), aid_next (by omega), Int.toNat_natCast, aid_fill l i d h]
theorem laws_toIntS.ev (l : List Int) (hl : l.length * 8 ≤ 140737488351232) : Ev (fun k => laws_toIntS.f k l) l := by
  unfold laws_toIntS.f
  have h := laws_toIntS.l0_ev l (by omega) l.length 0 (by omega)
  refine Ev.congr (fun k => ?_) h
  rw [if_pos (by omega), if_pos (by omega)]
  simp

-- laws_eqIntS
theorem laws_eqIntS.l0_refl (l : List Int) (hl : l.length ≤ 1000000000000000) : ∀ (d i : Nat), i + d = l.length → Ev (fun k => laws_eqIntS.l0 k l l (i : Int)) true := by
  intro d
  induction d with
  | zero =>
    intro i h
    refine Ev.step (fun k => ?_) (Ev.now _)
    simp only [laws_eqIntS.l0]
    rw [if_neg (by omega)]
  | succ d ih =>
    intro i h
    refine Ev.step (fun k => ?_) (ih (i + 1) (by omega))
    simp only [laws_eqIntS.l0]
    rw [if_pos (by omega), if_pos (by omega), if_pos (by omega), if_pos trivial, aid_next (by omega)]
theorem laws_eqIntS.refl (l : List Int) (hl : l.length ≤ 1000000000000000) : Ev (fun k => laws_eqIntS.f k l l) true := by
  unfold laws_eqIntS.f
  exact Ev.congr (fun k => if_pos rfl) (laws_eqIntS.l0_refl l hl l.length 0 (by omega))

-- Mark
def marksL : Nat → Int → List Int
  | 0, _ => []
  | n + 1, a => marksL n a ++ [a + (n : Int)]
theorem marksL_length (a : Int) : ∀ n, (marksL n a).length = n
  | 0 => rfl
  | n + 1 => by rw [marksL, List.length_append, marksL_length a n]; rfl
theorem marksL_get (a : Int) : ∀ (n i : Nat) (h : i < (marksL n a).length), (marksL n a)[i] = a + (i : Int)
  | n + 1, i, h => by
    have hl := marksL_length a n
    have hl' := marksL_length a (n + 1)
    simp only [marksL]
    by_cases hi : i < n
    · rw [List.getElem_append_left (by omega)]
      exact marksL_get a n i (by omega)
    · have e : i = n := by omega
      subst e
      rw [List.getElem_append_right (by omega)]
      simp

-- laws_markIntS
theorem laws_markIntS.l0_ev (l : List Int) (a : Int) (hl : l.length ≤ 1000000000000000) (h0 : 0 ≤ a) (h1 : a ≤ 1000000000000000) : ∀ (d i : Nat), i + d = l.length → Ev (fun k => laws_markIntS.l0 k (marksL i a ++ l.drop i) (a + (i : Int)) (i : Int)) (a + (l.length : Int), marksL l.length a) := by
  intro d
  induction d with
  | zero =>
    intro i h
    have hlen : (marksL i a ++ l.drop i).length = l.length := by rw [List.length_append, marksL_length, List.length_drop]; omega
    refine Ev.step (f := fun _ => some (a + (l.length : Int), marksL l.length a)) (fun k => ?_) (Ev.now _)
    simp only [laws_markIntS.l0]
    rw [if_neg (by rw [hlen]; omega), List.drop_eq_nil_of_le (by omega), List.append_nil]
    obtain rfl : i = l.length := by omega
    rfl
  | succ d ih =>
    intro i h
    have hi' : i < l.length := by omega
    have hlen : (marksL i a ++ l.drop i).length = l.length := by rw [List.length_append, marksL_length, List.length_drop]; omega
    refine Ev.step (fun k => ?_) (ih (i + 1) (by omega))
    simp only [laws_markIntS.l0]
    have hset : (marksL i a ++ l.drop i).set i (a + (i : Int)) = marksL (i + 1) a ++ l.drop (i + 1) := by
      rw [List.set_append_right _ _ (by rw [marksL_length]; omega), marksL_length, Nat.sub_self, List.drop_eq_getElem_cons hi', marksL, List.append_assoc]
      rfl
    rw [if_pos (by rw [hlen]; omega), if_pos (by omega), Int.toNat_natCast, hset, aid_next (by omega), aid_wr (x := a + (i : Int) + 1) (by omega) (by omega)]
    rw [show a + (i : Int) + 1 = a + ((i + 1 : Nat) : Int) by omega]
theorem laws_markIntS.ev (l : List Int) (a : Int) (hl : l.length ≤ 1000000000000000) (h0 : 0 ≤ a) (h1 : a ≤ 1000000000000000) : Ev (fun k => laws_markIntS.f k l a) (a + (l.length : Int), marksL l.length a) := by
  have h := laws_markIntS.l0_ev l a hl h0 h1 l.length 0 (by omega)
  simp only [marksL, List.nil_append, List.drop_zero] at h
  unfold laws_markIntS.f
  simpa using h

-- laws_heldIntS
theorem laws_heldIntS.l0_ev (n : Nat) (a : Int) (hl : n ≤ 1000000000000000) (h0 : 0 ≤ a) (h1 : a ≤ 1000000000000000) : ∀ (d i : Nat), i + d = n → Ev (fun k => laws_heldIntS.l0 k (marksL n a) (a + (i : Int)) (i : Int)) (a + (n : Int)) := by
  have hlen := marksL_length a n
  intro d
  induction d with
  | zero =>
    intro i h
    refine Ev.step (f := fun _ => some (a + (n : Int))) (fun k => ?_) (Ev.now _)
    simp only [laws_heldIntS.l0]
    rw [if_neg (by rw [hlen]; omega)]
    obtain rfl : i = n := by omega
    rfl
  | succ d ih =>
    intro i h
    refine Ev.step (fun k => ?_) (ih (i + 1) (by omega))
    simp only [laws_heldIntS.l0]
    rw [if_pos (by rw [hlen]; omega), if_pos (by omega), aid_rd _ i (by omega), marksL_get, if_pos rfl, aid_next (by omega), aid_wr (x := a + (i : Int) + 1) (by omega) (by omega)]
    rw [show a + (i : Int) + 1 = a + ((i + 1 : Nat) : Int) by omega]
theorem laws_heldIntS.ev (n : Nat) (a : Int) (hl : n ≤ 1000000000000000) (h0 : 0 ≤ a) (h1 : a ≤ 1000000000000000) : Ev (fun k => laws_heldIntS.f k (marksL n a) a) (a + (n : Int)) := by
  have h := laws_heldIntS.l0_ev n a hl h0 h1 n 0 (by omega)
  unfold laws_heldIntS.f
  simpa using h

-- Bits
def bitsB (l : List Int) : Bool := decide (l.length ≤ 200) && l.all fun x => decide (x = 1 ∨ x = -1)
theorem bitsB_iff (l : List Int) : bitsB l = true ↔ l.length ≤ 200 ∧ ∀ x ∈ l, x = 1 ∨ x = -1 := by
  simp [bitsB]

-- spec_dmBits
theorem spec_dmBits.l0_ev (l : List Int) (hl : l.length ≤ 200) : ∀ (d i : Nat), i + d = l.length → Ev (fun k => spec_dmBits.l0 k l (l.length : Int) (i : Int)) ((l.drop i).all fun x => decide (x = 1 ∨ x = -1)) := by
  intro d
  induction d with
  | zero =>
    intro i h
    rw [List.drop_eq_nil_of_le (by omega)]
    refine Ev.step (fun k => ?_) (Ev.now _)
    simp only [spec_dmBits.l0]
    rw [if_neg (by omega)]
    rfl
  | succ d ih =>
    intro i h
    have hi' : i < l.length := by omega
    rw [List.drop_eq_getElem_cons hi', List.all_cons, ← aid_rd l i hi']
    by_cases hc : rd l i = 1
    · refine Ev.step (fun k => ?_) (by simpa [hc] using ih (i + 1) (by omega))
      simp only [spec_dmBits.l0]
      rw [if_pos (by omega), if_pos (by omega), if_pos (by omega), if_pos hc, aid_next (by omega)]
      rfl
    · by_cases hc' : rd l i = -1
      · refine Ev.step (fun k => ?_) (by simpa [hc'] using ih (i + 1) (by omega))
        simp only [spec_dmBits.l0]
        rw [if_pos (by omega), if_pos (by omega), if_pos (by omega), if_neg hc, if_pos hc', aid_next (by omega)]
        rfl
      · refine Ev.step (f := fun _ => some false) (fun k => ?_) (by simpa [hc, hc'] using Ev.now false)
        simp only [spec_dmBits.l0]
        rw [if_pos (by omega), if_pos (by omega), if_pos (by omega), if_neg hc, if_neg hc']
theorem spec_dmBits.ev (l : List Int) : Ev (fun k => spec_dmBits.f k l) (bitsB l) := by
  unfold spec_dmBits.f bitsB
  by_cases h : l.length ≤ 200
  · simp only [h, decide_true, Bool.true_and]
    exact Ev.congr (fun k => if_neg (by omega)) (spec_dmBits.l0_ev l h l.length 0 (by omega))
  · simp only [h, decide_false, Bool.false_and]
    exact Ev.congr (fun k => if_pos (by omega)) (Ev.now _)

-- spec_l1In
theorem spec_l1In.eq (a lo hi : Int) : spec_l1In.f a lo hi = some (decide (lo ≤ a ∧ a ≤ hi)) := by
  unfold spec_l1In.f
  by_cases h : lo ≤ a <;> simp [h]

-- Sums
def sumL : List Int → Int → Int
  | [], a => a
  | x :: r, a => sumL r (a + x)
theorem sumL_add : ∀ (l : List Int) (a : Int), sumL l a = a + sumL l 0
  | [], a => by simp [sumL]
  | x :: r, a => by
    rw [sumL, sumL, sumL_add r (a + x), sumL_add r (0 + x)]
    omega
theorem sumL_cons (x : Int) (r : List Int) : sumL (x :: r) 0 = x + sumL r 0 := by
  rw [sumL, sumL_add]
  omega
theorem sumL_bound (B : Nat) : ∀ (l : List Int), (∀ x ∈ l, -(B : Int) ≤ x ∧ x ≤ B) → -((l.length * B : Nat) : Int) ≤ sumL l 0 ∧ sumL l 0 ≤ ((l.length * B : Nat) : Int)
  | [], _ => by simp [sumL]
  | x :: r, h => by
    have h1 := h x (by simp)
    have h2 := sumL_bound B r (fun y hy => h y (by simp [hy]))
    rw [sumL_cons, List.length_cons, Nat.add_mul]
    omega

-- Combos
theorem aid_four {s : Int} (h : 1 ≤ s ∧ s ≤ 4) : s ∈ [(1 : Int), 2, 3, 4] := by
  have : s = 1 ∨ s = 2 ∨ s = 3 ∨ s = 4 := by omega
  rcases this with h | h | h | h <;> simp [h]
theorem aid_eight {s : Int} (h : 1 ≤ s ∧ s ≤ 8) : s ∈ [(1 : Int), 2, 3, 4, 5, 6, 7, 8] := by
  have : s = 1 ∨ s = 2 ∨ s = 3 ∨ s = 4 ∨ s = 5 ∨ s = 6 ∨ s = 7 ∨ s = 8 := by omega
  rcases this with h | h | h | h | h | h | h | h <;> simp [h]

-- spec_dmOnes
theorem sumL_append (a b : List Int) (z : Int) : sumL (a ++ b) z = sumL b (sumL a z) := by
  induction a generalizing z with
  | nil => rfl
  | cons x r ih => exact ih (z + x)
theorem sumL_take (l : List Int) (i : Nat) (h : i < l.length) : sumL (l.take (i + 1)) 0 = sumL (l.take i) 0 + l[i] := by
  rw [List.take_succ_eq_append_getElem h, sumL_append]
  rfl
theorem bits_sum (l : List Int) (hx : ∀ x ∈ l, x = 1 ∨ x = -1) : -(l.length : Int) ≤ sumL l 0 ∧ sumL l 0 ≤ (l.length : Int) := by
  have := sumL_bound 1 l (fun x h => by have := hx x h; omega)
  omega
theorem spec_dmOnes.l0_ev (l : List Int) (hl : l.length ≤ 200) (hx : ∀ x ∈ l, x = 1 ∨ x = -1) : ∀ (d i : Nat) (p : List Int), i + d = l.length → p.length = i + 1 → (∀ j (hj : j < p.length), 2 * p[j] = sumL (l.take j) 0 + (j : Int)) →
    ∃ q : List Int, Ev (fun k => spec_dmOnes.l0 k p l (l.length : Int) (i : Int)) q ∧ q.length = l.length + 1 ∧ (∀ j (hj : j < q.length), 2 * q[j] = sumL (l.take j) 0 + (j : Int)) := by
  intro d
  induction d with
  | zero =>
    intro i p hi hp hq
    refine ⟨p, Ev.step (f := fun _ => some p) (fun k => ?_) (Ev.now _), by omega, hq⟩
    simp only [spec_dmOnes.l0]
    rw [if_neg (by omega)]
  | succ d ih =>
    intro i p hi hp hq
    have hi' : i < l.length := by omega
    have hxi := hx l[i] (List.getElem_mem hi')
    have hpi := hq i (by omega)
    have hb := bits_sum (l.take i) (fun x h => hx x (List.mem_of_mem_take h))
    rw [List.length_take] at hb
    obtain ⟨v, hv⟩ : ∃ v : Int, v = p[i] + (l[i] + 1) / 2 := ⟨_, rfl⟩
    have hv2 : 2 * v = sumL (l.take (i + 1)) 0 + ((i + 1 : Nat) : Int) := by
      rw [sumL_take l i hi', hv]
      omega
    have hq' : ∀ j (hj : j < (p ++ [v]).length), 2 * (p ++ [v])[j] = sumL (l.take j) 0 + (j : Int) := by
      intro j hj
      rw [List.length_append, List.length_singleton] at hj
      by_cases hj' : j < p.length
      · rw [List.getElem_append_left hj']
        exact hq j hj'
      · have e : j = i + 1 := by omega
        subst e
        rw [List.getElem_append_right (by omega)]
        simpa using hv2
    obtain ⟨q, hq1, hq2, hq3⟩ := ih (i + 1) (p ++ [v]) (by omega) (by rw [List.length_append, List.length_singleton]; omega) hq'
    refine ⟨q, Ev.step (fun k => ?_) hq1, hq2, hq3⟩
    simp only [spec_dmOnes.l0]
    rw [if_pos (by omega), if_pos (by omega), if_pos (by omega), if_pos (by omega), if_pos (by omega), aid_rd l i hi', aid_rd p i (by omega), aid_wr (x := l[i] + 1) (by omega) (by omega), Int.tdiv_eq_ediv_of_nonneg (by omega), aid_wr (x := (l[i] + 1) / 2) (by omega) (by omega), ← hv, aid_wr (x := v) (by omega) (by omega), aid_next (by omega)]
theorem spec_dmOnes.ev (l : List Int) (hl : l.length ≤ 200) (hx : ∀ x ∈ l, x = 1 ∨ x = -1) : ∃ q : List Int, Ev (fun k => spec_dmOnes.f k l) q ∧ q.length = l.length + 1 ∧ (∀ j (hj : j < q.length), 2 * q[j] = sumL (l.take j) 0 + (j : Int)) :=
  spec_dmOnes.l0_ev l hl hx l.length 0 [0] (by omega) rfl (fun j hj => by
    have e : j = 0 := by simp at hj; omega
    subst e
    simp [sumL])

-- impl_areBits
theorem impl_areBits.eq (l : List Int) : impl_areBits.f l = some (bitsB l) := by
  unfold impl_areBits.f bitsB
  have e1 : decide ((l.length : Int) ≤ 200) = decide (l.length ≤ 200) := by
    rw [Bool.eq_iff_iff]; simp; omega
  have e2 : (!(l.any fun x => decide (¬ x = 1) && decide (¬ x = -1))) = l.all fun x => decide (x = 1 ∨ x = -1) := by
    rw [List.not_any_eq_all_not]
    congr 1
    funext x
    rw [Bool.eq_iff_iff]
    simp
  rw [e1, e2]

-- impl_in
theorem impl_in.eq (a lo hi : Int) : impl_in.f a lo hi = some (decide (lo ≤ a ∧ a ≤ hi)) := by
  unfold impl_in.f
  by_cases h : lo ≤ a <;> simp [h]

-- impl_sum
theorem impl_sum.l0_ev (l : List Int) (hl : l.length ≤ 1000000) (hx : ∀ x ∈ l, -1000000000 ≤ x ∧ x ≤ 1000000000) : ∀ (d i : Nat) (a : Int), i + d = l.length → -(1000000000 * (i : Int)) ≤ a → a ≤ 1000000000 * (i : Int) →
    Ev (fun k => impl_sum.l0 k a l (l.length : Int) (i : Int)) (sumL (l.drop i) a) := by
  intro d
  induction d with
  | zero =>
    intro i a hi h0 h1
    rw [List.drop_eq_nil_of_le (by omega)]
    refine Ev.step (f := fun _ => some (sumL [] a)) (fun k => ?_) (Ev.now _)
    simp only [impl_sum.l0]
    rw [if_neg (by omega)]
    rfl
  | succ d ih =>
    intro i a hi h0 h1
    have hi' : i < l.length := by omega
    have hxi := hx l[i] (List.getElem_mem hi')
    rw [List.drop_eq_getElem_cons hi', sumL]
    refine Ev.step (fun k => ?_) (ih (i + 1) (a + l[i]) (by omega) (by omega) (by omega))
    simp only [impl_sum.l0]
    rw [if_pos (by omega), if_pos (by omega), if_pos (by omega), aid_rd l i hi', aid_wr (x := a + l[i]) (by omega) (by omega), aid_next (by omega)]
theorem impl_sum.ev (l : List Int) (hl : l.length ≤ 1000000) (hx : ∀ x ∈ l, -1000000000 ≤ x ∧ x ≤ 1000000000) : Ev (fun k => impl_sum.f k l) (sumL l 0) :=
  impl_sum.l0_ev l hl hx l.length 0 0 (by omega) (by omega) (by omega)

theorem mov_l0 (l : List Int) (hl : l.length ≤ 200) (hx : ∀ x ∈ l, x = 1 ∨ x = -1) (w : Nat) (hw : 1 ≤ w ∧ w ≤ l.length) (q : List Int) (hq1 : q.length = l.length + 1) (hq2 : ∀ j (hj : j < q.length), 2 * q[j] = sumL (l.take j) 0 + (j : Int)) :
    ∀ (d i : Nat) (o : List Int), i + w + d = l.length + 1 → o.length = i → ∃ r : List Int, Ev (fun k => spec_MovingSums.l0 k l (w : Int) q o (i : Int)) (r, true) ∧ Ev (fun k => impl_movingSums.l0 k l (w : Int) o (i : Int)) r ∧ r.length ≤ 200 := by
  intro d
  induction d with
  | zero =>
    intro i o hi ho
    refine ⟨o, Ev.step (f := fun _ => some (o, true)) (fun k => ?_) (Ev.now _), Ev.step (f := fun _ => some o) (fun k => ?_) (Ev.now _), by omega⟩
    · simp only [spec_MovingSums.l0]
      rw [aid_wr (x := (i : Int) + (w : Int)) (by omega) (by omega), if_neg (by omega)]
    · simp only [impl_movingSums.l0]
      rw [aid_wr (x := (i : Int) + (w : Int)) (by omega) (by omega), if_neg (by omega)]
  | succ d ih =>
    intro i o hi ho
    have hP := hq2 (i + w) (by omega)
    have hQ := hq2 i (by omega)
    have hT : l.take (i + w) = l.take i ++ (l.take (i + w)).drop i := by
      have := List.take_append_drop i (l.take (i + w))
      rw [List.take_take, Nat.min_eq_left (by omega)] at this
      exact this.symm
    have hS : sumL (l.take (i + w)) 0 = sumL (l.take i) 0 + sumL ((l.take (i + w)).drop i) 0 := by
      rw [hT, sumL_append, sumL_add, ← hT]
    have hb := bits_sum ((l.take (i + w)).drop i) (fun x h => hx x (List.mem_of_mem_take (List.mem_of_mem_drop h)))
    have hb1 := bits_sum (l.take i) (fun x h => hx x (List.mem_of_mem_take h))
    have hsl : ((l.take (i + w)).drop i).length ≤ 200 := by
      rw [List.length_drop, List.length_take]
      omega
    rw [List.length_take] at hb1
    have hsum := impl_sum.ev ((l.take (i + w)).drop i) (by omega) (fun x h => by have := hx x (List.mem_of_mem_take (List.mem_of_mem_drop h)); omega)
    generalize hs : sumL ((l.take (i + w)).drop i) 0 = s at *
    obtain ⟨r, hr1, hr2, hr3⟩ := ih (i + 1) (o ++ [s]) (by omega) (by simp [ho])
    refine ⟨r, Ev.step (fun k => ?_) hr1, ?_, hr3⟩
    · simp only [spec_MovingSums.l0]
      have e : (i : Int) + (w : Int) = ((i + w : Nat) : Int) := by omega
      rw [aid_wr (x := (i : Int) + (w : Int)) (by omega) (by omega), e, if_pos (by omega), if_pos (by omega), if_pos (by omega), if_pos (by omega), if_pos (by omega), if_pos (by omega), aid_rd q (i + w) (by omega), aid_rd q i (by omega), aid_wr (x := q[i + w] - q[i]) (by omega) (by omega), aid_wr (x := 2 * (q[i + w] - q[i])) (by omega) (by omega), aid_wr (x := 2 * (q[i + w] - q[i]) - (w : Int)) (by omega) (by omega), aid_next (by omega)]
      rw [show 2 * (q[i + w] - q[i]) - (w : Int) = s by omega]
    · refine Ev.step (f := fun k => (impl_sum.f k ((l.take (i + w)).drop i)).bind fun t134 => (if o.length < 17592186044416 then (impl_movingSums.l0 k l (w : Int) (o ++ [t134]) ((i + 1 : Nat) : Int)) else none)) (fun k => ?_) ?_
      · simp only [impl_movingSums.l0]
        have e : (i : Int) + (w : Int) = ((i + w : Nat) : Int) := by omega
        rw [aid_wr (x := (i : Int) + (w : Int)) (by omega) (by omega), e, if_pos (by omega), if_pos (by omega), if_pos (by omega), aid_next (by omega), Int.toNat_natCast, Int.toNat_natCast]
      · exact Ev.bind hsum (Ev.congr (fun k => if_pos (by omega)) hr2)
theorem mov_both (l : List Int) (w : Int) : ∃ (r : List Int) (b : Bool), Ev (fun k => spec_MovingSums.f k l w) (r, b) ∧ Ev (fun k => impl_MovingSums.f k l w) (r, b) ∧ r.length ≤ 200 := by
  unfold spec_MovingSums.f impl_MovingSums.f
  rw [impl_areBits.eq]
  have hb := spec_dmBits.ev l
  have hno : Ev (fun k => spec_MovingSums.j0 k l w true) (([] : List Int), false) := by
    refine aid_ev_succ ?_
    simp only [spec_MovingSums.j0]
    exact Ev.now _
  cases hB : bitsB l with
  | false =>
    rw [hB] at hb
    exact ⟨[], false, Ev.bind hb hno, Ev.now _, by simp⟩
  | true =>
    rw [hB] at hb
    obtain ⟨hl, hx⟩ := (bitsB_iff l).1 hB
    by_cases hw : 1 ≤ w ∧ w ≤ (l.length : Int)
    · obtain ⟨n, rfl⟩ : ∃ n : Nat, w = (n : Int) := ⟨w.toNat, by omega⟩
      obtain ⟨q, hq0, hq1, hq2⟩ := spec_dmOnes.ev l hl hx
      obtain ⟨r, h1, h2, h3⟩ := mov_l0 l hl hx n (by omega) q hq1 hq2 (l.length + 1 - n) 0 [] (by omega) rfl
      refine ⟨r, true, Ev.bind hb ?_, ?_, h3⟩
      · refine Ev.congr (fun k => if_pos rfl) ?_
        have e : spec_l1In.f (n : Int) 1 (l.length : Int) = some true := by
          unfold spec_l1In.f
          rw [if_pos (by omega), decide_eq_true (by omega)]
        rw [e]
        simp only [Option.bind_some, Bool.not_true]
        refine aid_ev_succ ?_
        simp only [spec_MovingSums.j0]
        exact Ev.bind hq0 h1
      · simp only [Option.bind_some, if_true]
        have e : impl_in.f (n : Int) 1 (l.length : Int) = some true := by
          unfold impl_in.f
          rw [if_pos (by omega), decide_eq_true (by omega)]
        rw [e]
        simp only [Option.bind_some, if_true]
        exact aid_ev_bind h2 rfl
    · refine ⟨[], false, Ev.bind hb ?_, ?_, by simp⟩
      · refine Ev.congr (fun k => if_pos rfl) ?_
        have e : spec_l1In.f w 1 (l.length : Int) = some false := by
          unfold spec_l1In.f
          by_cases h1 : w ≥ 1
          · rw [if_pos h1, decide_eq_false (by omega)]
          · rw [if_neg h1]
        rw [e]
        exact hno
      · simp only [Option.bind_some, if_true]
        have e : impl_in.f w 1 (l.length : Int) = some false := by
          unfold impl_in.f
          by_cases h1 : 1 ≤ w
          · rw [if_pos h1, decide_eq_false (by omega)]
          · rw [if_neg h1]
        rw [e]
        exact Ev.now _
theorem FnExactMovingSums : laws_FnExactMovingSums.Pure := by
  intro l z _ h8 _ _
  refine Ev.rounds ?_
  unfold laws_FnExactMovingSums.f
  by_cases hb : (l.length : Int) > 1048576
  · exact Ev.congr (fun k => if_pos hb) (Ev.now _)
  refine Ev.congr (fun k => if_neg hb) ?_
  have hT := laws_toIntS.ev l h8
  obtain ⟨w, b, hs, hi, hw⟩ := mov_both l z
  try dsimp only at hw
  have hE := laws_eqIntS.refl w (by omega)
  have hEl := laws_eqIntS.refl l (by omega)
  have hM := laws_markIntS.ev w 1 (by omega) (by omega) (by omega)
  have hMl := laws_markIntS.ev l 1 (by omega) (by omega) (by omega)
  have hH := laws_heldIntS.ev w.length 1 (by omega) (by omega) (by omega)
  have hNb : ¬ ((b != b) = true) := by cases b <;> decide
  have hN1 : ¬ (1 + (w.length : Int) < 0) := by omega
  have hN2 : ¬ (1 + (l.length : Int) < 0) := by omega
  repeat (first
    | exact Ev.now _
    | ((with_reducible refine Ev.bind hT ?_); try dsimp only)
    | ((with_reducible refine Ev.bind hs ?_); try dsimp only)
    | ((with_reducible refine Ev.bind hi ?_); try dsimp only)
    | ((with_reducible refine Ev.bind hE ?_); try dsimp only)
    | ((with_reducible refine Ev.bind hEl ?_); try dsimp only)
    | ((with_reducible refine Ev.bind hM ?_); try dsimp only)
    | ((with_reducible refine Ev.bind hMl ?_); try dsimp only)
    | ((with_reducible refine Ev.bind hH ?_); try dsimp only)
    | (with_reducible refine Ev.congr (fun k => if_pos rfl) ?_)
    | (with_reducible refine Ev.congr (fun k => if_neg hNb) ?_)
    | (with_reducible refine Ev.congr (fun k => if_neg hN1) ?_)
    | (with_reducible refine Ev.congr (fun k => if_neg hN2) ?_)
    | (refine aid_ev_succ ?_; simp only [laws_FnExactMovingSums.j0, laws_FnExactMovingSums.j1, laws_FnExactMovingSums.j2]; try dsimp only))

end Go.Proofs.Ytmhmljodeenkmaa.Pure
