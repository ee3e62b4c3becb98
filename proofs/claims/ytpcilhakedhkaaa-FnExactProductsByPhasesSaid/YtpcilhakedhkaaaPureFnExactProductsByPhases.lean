/- Proves that the program's ProductsByPhases returns what the reference's returns, for all arguments. Conditions: none. -/
import Derived.Test.YtpcilhakedhkaaaPFnExactProductsByPhasesx3
namespace Go.Proofs.Ytpcilhakedhkaaa.Pure
open Go.RowKit Go.Proofs.Ytpcilhakedhkaaa.PFnExactProductsByPhases Go.Proofs.YtpcilhakedhkaaaW.PrintWords Go.Proofs.YtpcilhakedhkaaaW.PrintLast
set_option linter.unusedSimpArgs false
set_option linter.unusedVariables false

-- Aid
theorem aid_wr {x : Int} (h0 : -9223372036854775808 ≤ x) (h1 : x ≤ 9223372036854775807) : wrap64 x = x := by unfold wrap64; omega
theorem aid_wf {x : Int} (h : (Lit.int .i64 x).wf = true) : -9223372036854775808 ≤ x ∧ x ≤ 9223372036854775807 := by
  have hmin : IntKind.i64.min = -9223372036854775808 := rfl
  have hmax : IntKind.i64.max = 9223372036854775807 := rfl
  simp only [Lit.wf, Bool.and_eq_true, decide_eq_true_eq, hmin, hmax] at h
  exact h
theorem aid_ev_bind {α β : Type} {g : Nat → Option α} {f : α → Option β} {a : α} {r : β} (h : Ev g a) (k : f a = some r) : Ev (fun n => (g n).bind f) r :=
  Ev.bind (f := fun _ => f) h ⟨0, fun _ _ => k⟩
theorem aid_ev_const {α : Type} {o : Option α} {r : α} (h : o = some r) : Ev (fun _ => o) r := ⟨0, fun _ _ => h⟩
theorem aid_tdiv {a b : Int} (ha : 0 ≤ a) : Int.tdiv a b = a / b := Int.tdiv_eq_ediv_of_nonneg ha
theorem aid_tmod {a b : Int} (ha : 0 ≤ a) : Int.tmod a b = a % b := Int.tmod_eq_emod_of_nonneg ha
theorem aid_next {i : Nat} (h : i ≤ 9223372036854775806) : wrap64 ((i : Int) + 1) = ((i + 1 : Nat) : Int) := by rw [aid_wr (by omega) (by omega)]; rfl
theorem aid_rd (l : List Int) (i : Nat) (h : i < l.length) : rd l (i : Int) = l[i] := by
  unfold rd
  rw [List.getD_eq_getElem?_getD, Int.toNat_natCast, List.getElem?_eq_getElem h]
  rfl
theorem aid_ev_succ {α : Type} {g : Nat → Option α} {r : α} (h : Ev (fun k => g (k + 1)) r) : Ev g r := Ev.step (fun _ => rfl) h

-- laws_toIntS
theorem aid_fill (l : List Int) (i d : Nat) (h : i + (d + 1) = l.length) : (l.take i ++ List.replicate (d + 1) 0).set i (rd l i) = l.take (i + 1) ++ List.replicate d 0 := by
  have hi' : i < l.length := by omega
  have hlen : (l.take i).length = i := by rw [List.length_take]; omega
  rw [List.set_append_right _ _ (by omega), hlen, Nat.sub_self, aid_rd l i hi', List.take_succ_eq_append_getElem hi', List.append_assoc]
  rfl
theorem laws_toIntS.l0_ev (l : List Int) (hl : l.length ≤ 1000000000000000) : ∀ (d i : Nat), i + d = l.length → Ev (fun k => laws_toIntS.l0 k l (l.take i ++ List.replicate d 0) (i : Int)) l := by
  intro d
  induction d with
  | zero =>
    intro i h
    refine Ev.step (fun k => ?_) (Ev.now _)
    simp only [laws_toIntS.l0]
    rw [if_neg (by omega), List.take_of_length_le (by omega)]
    simp
  | succ d ih =>
    intro i h
    refine Ev.step (fun k => ?_) (ih (i + 1) (by omega))
    have hlen : (l.take i ++ List.replicate (d + 1) 0).length = l.length := by
      rw [List.length_append, List.length_take, List.length_replicate]; omega
    simp only [laws_toIntS.l0]
    rw [if_pos (by omega), if_pos (by omega), if_pos (by rw [hlen]; omega), aid_next (by omega), Int.toNat_natCast, aid_fill l i d h]
theorem laws_toIntS.ev (l : List Int) (hl : l.length * 8 ≤ 140737488351232) : Ev (fun k => laws_toIntS.f k l) l := by
  unfold laws_toIntS.f
  have h := laws_toIntS.l0_ev l (by omega) l.length 0 (by omega)
  refine Ev.congr (fun k => ?_) h
  rw [if_pos (by omega), if_pos (by omega)]
  simp

-- laws_eqIntS
theorem laws_eqIntS.l0_refl (l : List Int) (hl : l.length ≤ 1000000000000000) : ∀ (d i : Nat), i + d = l.length → Ev (fun k => laws_eqIntS.l0 k l l (i : Int)) true := by
  intro d
  induction d with
  | zero =>
    intro i h
    refine Ev.step (fun k => ?_) (Ev.now _)
    simp only [laws_eqIntS.l0]
    rw [if_neg (by omega)]
  | succ d ih =>
    intro i h
    refine Ev.step (fun k => ?_) (ih (i + 1) (by omega))
    simp only [laws_eqIntS.l0]
    rw [if_pos (by omega), if_pos (by omega), if_pos (by omega), if_pos trivial, aid_next (by omega)]
theorem laws_eqIntS.refl (l : List Int) (hl : l.length ≤ 1000000000000000) : Ev (fun k => laws_eqIntS.f k l l) true := by
  unfold laws_eqIntS.f
  exact Ev.congr (fun k => if_pos rfl) (laws_eqIntS.l0_refl l hl l.length 0 (by omega))

-- spec_l1In
theorem spec_l1In.eq (a lo hi : Int) : spec_l1In.f a lo hi = some (decide (lo ≤ a ∧ a ≤ hi)) := by
  unfold spec_l1In.f
  by_cases h : lo ≤ a <;> simp [h]

-- spec_rsRatio
theorem spec_rsRatio.eq (p q : Int) : spec_rsRatio.f p q = some (decide ((1 ≤ p ∧ p ≤ 8) ∧ (1 ≤ q ∧ q ≤ 8))) := by
  unfold spec_rsRatio.f
  rw [spec_l1In.eq, spec_l1In.eq]
  by_cases h : 1 ≤ p ∧ p ≤ 8 <;> simp [h]

-- spec_l1All
theorem spec_l1All.l0_ev (lo hi : Int) (l : List Int) (hl : l.length ≤ 1000000000000000) : ∀ (d i : Nat), i + d = l.length → Ev (fun k => spec_l1All.l0 k lo hi l (l.length : Int) (i : Int)) ((l.drop i).all fun x => decide (lo ≤ x ∧ x ≤ hi)) := by
  intro d
  induction d with
  | zero =>
    intro i h
    rw [List.drop_eq_nil_of_le (by omega)]
    refine Ev.step (fun k => ?_) (Ev.now _)
    simp only [spec_l1All.l0]
    rw [if_neg (by omega)]
    rfl
  | succ d ih =>
    intro i h
    have hi' : i < l.length := by omega
    rw [List.drop_eq_getElem_cons hi', List.all_cons, ← aid_rd l i hi']
    by_cases hc : lo ≤ rd l i ∧ rd l i ≤ hi
    · refine Ev.step (fun k => ?_) (by simpa [hc] using ih (i + 1) (by omega))
      simp only [spec_l1All.l0]
      rw [if_pos (by omega), if_pos (by omega), if_pos (by omega), spec_l1In.eq, aid_next (by omega)]
      simp [hc]
    · refine Ev.step (f := fun _ => some false) (fun k => ?_) (by simpa [hc] using Ev.now false)
      simp only [spec_l1All.l0]
      rw [if_pos (by omega), if_pos (by omega), if_pos (by omega), spec_l1In.eq]
      simp [hc]
theorem spec_l1All.ev (lo hi : Int) (l : List Int) (hl : l.length ≤ 1000000000000000) : Ev (fun k => spec_l1All.f k l lo hi) (l.all fun x => decide (lo ≤ x ∧ x ≤ hi)) :=
  spec_l1All.l0_ev lo hi l hl l.length 0 (by omega)

-- Wts
def wtsB (l : List Int) : Bool := decide (1 ≤ l.length ∧ l.length ≤ 9) && l.all fun x => decide (-1000 ≤ x ∧ x ≤ 1000)
theorem wtsB_iff (l : List Int) : wtsB l = true ↔ (1 ≤ l.length ∧ l.length ≤ 9) ∧ ∀ x ∈ l, -1000 ≤ x ∧ x ≤ 1000 := by
  simp [wtsB]

-- spec_weGood
theorem spec_weGood.ev (l : List Int) : Ev (fun k => spec_weGood.f k l) (wtsB l) := by
  unfold spec_weGood.f wtsB
  rw [spec_l1In.eq]
  by_cases h : 1 ≤ l.length ∧ l.length ≤ 9
  · have e := spec_l1All.ev (-1000) 1000 l (by omega)
    have h' : (1 : Int) ≤ (l.length : Int) ∧ (l.length : Int) ≤ 9 := by omega
    simp only [h, h', and_self, decide_true, Option.bind_some, if_true, Bool.true_and]
    exact aid_ev_bind e rfl
  · have h' : ¬ ((1 : Int) ≤ (l.length : Int) ∧ (l.length : Int) ≤ 9) := by omega
    simp only [h, h', decide_false, Option.bind_some, Bool.false_and]
    simp
    exact Ev.now _

-- impl_in
theorem impl_in.eq (a lo hi : Int) : impl_in.f a lo hi = some (decide (lo ≤ a ∧ a ≤ hi)) := by
  unfold impl_in.f
  by_cases h : lo ≤ a <;> simp [h]

-- impl_isRatio
theorem impl_isRatio.eq (p q : Int) : impl_isRatio.f p q = some (decide ((1 ≤ p ∧ p ≤ 8) ∧ (1 ≤ q ∧ q ≤ 8))) := by
  unfold impl_isRatio.f
  rw [impl_in.eq, impl_in.eq]
  by_cases h : 1 ≤ p ∧ p ≤ 8 <;> simp [h]

-- impl_isWeights
theorem impl_isWeights.eq (l : List Int) : impl_isWeights.f l = some (wtsB l) := by
  unfold impl_isWeights.f wtsB
  have e1 : (decide (1 ≤ (l.length : Int)) && decide ((l.length : Int) ≤ 9)) = decide (1 ≤ l.length ∧ l.length ≤ 9) := by
    rw [Bool.eq_iff_iff]; simp; omega
  have e2 : (!(l.any fun x => !(decide (-1000 ≤ x) && decide (x ≤ 1000)))) = l.all fun x => decide (-1000 ≤ x ∧ x ≤ 1000) := by
    rw [List.not_any_eq_all_not]
    congr 1
    funext x
    rw [Bool.eq_iff_iff]
    simp
  rw [e1, e2]

-- impl_isProducts
def prodB (h : List Int) (n p q : Int) : Bool := wtsB h && (decide (0 ≤ n ∧ n ≤ 64) && (decide ((1 ≤ p ∧ p ≤ 8) ∧ (1 ≤ q ∧ q ≤ 8)) && decide (n * p ≤ 64)))
theorem prod_bd {n p : Int} (h0 : 0 ≤ n) (h1 : n ≤ 64) (h2 : 1 ≤ p) (h3 : p ≤ 8) : 0 ≤ n * p ∧ n * p ≤ 512 :=
  ⟨Int.mul_nonneg h0 (by omega), Int.le_trans (Int.mul_le_mul h1 h3 (by omega) (by omega)) (by omega)⟩
theorem spec_rsCount.ev (h : List Int) (n p q : Int) : Ev (fun k => spec_rsCount.f k h n p q) (prodB h n p q) := by
  unfold spec_rsCount.f prodB
  refine Ev.bind (spec_weGood.ev h) ?_
  cases wtsB h with
  | false => exact Ev.now _
  | true =>
    simp only [if_true, Bool.true_and]
    rw [spec_l1In.eq, spec_rsRatio.eq]
    by_cases h1 : 0 ≤ n ∧ n ≤ 64
    · by_cases h2 : (1 ≤ p ∧ p ≤ 8) ∧ (1 ≤ q ∧ q ≤ 8)
      · have hb := prod_bd h1.1 h1.2 h2.1.1 h2.1.2
        rw [aid_wr (by omega) (by omega)]
        simp only [h1, h2, and_self, decide_true, Option.bind_some, if_true, Bool.true_and]
        exact Ev.now _
      · simp only [h1, h2, and_self, decide_true, decide_false, Option.bind_some, if_true, Bool.true_and, Bool.false_and]
        simp
        exact Ev.now _
    · simp only [h1, decide_false, Option.bind_some, Bool.false_and]
      simp
      exact Ev.now _
theorem impl_isProducts.eq (h : List Int) (n p q : Int) : impl_isProducts.f h n p q = some (prodB h n p q) := by
  unfold impl_isProducts.f prodB
  rw [impl_isWeights.eq, impl_in.eq, impl_isRatio.eq]
  cases wtsB h with
  | false => simp
  | true =>
    simp only [if_true, Bool.true_and, Option.bind_some]
    by_cases h1 : 0 ≤ n ∧ n ≤ 64
    · by_cases h2 : (1 ≤ p ∧ p ≤ 8) ∧ (1 ≤ q ∧ q ≤ 8)
      · have hb := prod_bd h1.1 h1.2 h2.1.1 h2.1.2
        rw [aid_wr (by omega) (by omega)]
        simp only [h1, h2, and_self, decide_true, Option.bind_some, if_true, Bool.true_and]
      · simp only [h1, h2, and_self, decide_true, decide_false, Option.bind_some, if_true, Bool.true_and, Bool.false_and]
        simp
    · simp only [h1, decide_false, Option.bind_some, Bool.false_and]
      simp

-- impl_drop
theorem drop_l0 (l : List Int) (rate : Int) (hl : l.length ≤ 1000000) (h1 : 1 ≤ rate) (h2 : rate ≤ 8) : ∀ (d : Nat) (i : Int) (o : List Int), (l.length : Int) - i ≤ d → 0 ≤ i → i ≤ 2000000 → (o.length : Int) ≤ i → (∀ x ∈ o, x ∈ l) → o.length ≤ l.length →
    ∃ w, Ev (fun k => impl_drop.l0 k l rate o i) w ∧ (∀ x ∈ w, x ∈ l) ∧ w.length ≤ l.length ∧ (w.length : Int) = o.length + (max 0 ((l.length : Int) - i) + rate - 1) / rate := by
  have hrate : rate = 1 ∨ rate = 2 ∨ rate = 3 ∨ rate = 4 ∨ rate = 5 ∨ rate = 6 ∨ rate = 7 ∨ rate = 8 := by omega
  intro d
  induction d with
  | zero =>
    intro i o hd h0 hm hlen ho hol
    refine ⟨o, Ev.step (f := fun _ => some o) (fun k => ?_) (Ev.now _), ho, hol, ?_⟩
    · simp only [impl_drop.l0]
      rw [if_neg (by omega)]
    · rw [show max 0 ((l.length : Int) - i) = 0 by omega, Int.ediv_eq_zero_of_lt (by omega) (by omega)]
      omega
  | succ d ih =>
    intro i o hd h0 hm hlen ho hol
    by_cases hi : i < (l.length : Int)
    · obtain ⟨n, rfl⟩ := Int.eq_ofNat_of_zero_le h0
      have hn : n < l.length := by omega
      have hmem : ∀ x ∈ o ++ [rd l (n : Int)], x ∈ l := by
        intro x hx
        rcases List.mem_append.1 hx with hx | hx
        · exact ho x hx
        · rw [List.mem_singleton.1 hx, aid_rd l n hn]
          exact List.getElem_mem hn
      obtain ⟨w, hw1, hw2, hw3, hw4⟩ := ih ((n : Int) + rate) (o ++ [rd l (n : Int)]) (by omega) (by omega) (by omega) (by rw [List.length_append, List.length_singleton]; omega) hmem (by rw [List.length_append, List.length_singleton]; omega)
      refine ⟨w, Ev.step (fun k => ?_) hw1, hw2, hw3, ?_⟩
      · simp only [impl_drop.l0]
        rw [if_pos hi, if_pos (by omega), if_pos (by omega), aid_wr (by omega) (by omega)]
      · rw [hw4, List.length_append, List.length_singleton]
        clear hw1 hw2 ih hmem ho hw4
        rcases hrate with h | h | h | h | h | h | h | h <;> subst h <;> omega
    · refine ⟨o, Ev.step (f := fun _ => some o) (fun k => ?_) (Ev.now _), ho, hol, ?_⟩
      · simp only [impl_drop.l0]
        rw [if_neg (by omega)]
      · rw [show max 0 ((l.length : Int) - i) = 0 by omega, Int.ediv_eq_zero_of_lt (by omega) (by omega)]
        omega
theorem drop_impl (l : List Int) (rate first : Int) (hl : l.length ≤ 1000000) (h1 : 1 ≤ rate) (h2 : rate ≤ 8) (h3 : 0 ≤ first) (h4 : first ≤ 8) :
    ∃ w, Ev (fun k => impl_drop.f k l rate first) w ∧ (∀ x ∈ w, x ∈ l) ∧ w.length ≤ l.length ∧ (w.length : Int) = (max 0 ((l.length : Int) - first) + rate - 1) / rate := by
  obtain ⟨w, hw1, hw2, hw3, hw4⟩ := drop_l0 l rate hl h1 h2 l.length first [] (by omega) h3 (by omega) (by simpa using h3) (by simp) (by simp)
  exact ⟨w, hw1, hw2, hw3, by simpa using hw4⟩

theorem rdll_nat (x : List (List Int)) (i : Nat) (h : i < x.length) : rd_L1 x (i : Int) = x[i] := by
  unfold rd_L1
  rw [List.getD_eq_getElem?_getD, Int.toNat_natCast, List.getElem?_eq_getElem h]
  rfl
def phLen (n p t : Nat) : Nat := (n + p - 1 - t) / p
theorem spec_ph_l0 (h : List Int) (hh : h.length ≤ 9) (p : Nat) (hp1 : 1 ≤ p) (hp : p ≤ 8) : ∀ (d i : Nat) (x : List (List Int)), i + d = h.length → x.length = p → (∀ t (ht : t < x.length), x[t].length = phLen i p t) →
    ∃ y : List (List Int), Ev (fun k => spec_rsPhases.l0 k (p : Int) x h (h.length : Int) (i : Int)) y ∧ y.length = p ∧ ∀ t (ht : t < y.length), y[t].length = phLen h.length p t := by
  intro d
  induction d with
  | zero =>
    intro i x hi hx hl
    refine ⟨x, Ev.step (f := fun _ => some x) (fun k => ?_) (Ev.now _), hx, fun t ht => ?_⟩
    · simp only [spec_rsPhases.l0]
      rw [if_neg (by omega)]
    · rw [hl t ht, show i = h.length by omega]
  | succ d ih =>
    intro i x hi hx hl
    have hi' : i < h.length := by omega
    have hm : i % p < p := Nat.mod_lt i (by omega)
    have hxi : i % p < x.length := by omega
    have hle : phLen i p (i % p) ≤ 100 := by
      unfold phLen
      exact Nat.le_trans (Nat.div_le_self _ _) (by omega)
    have hstep : ∀ t (ht : t < (x.set (i % p) (x[i % p] ++ [rd h (i : Int)])).length), (x.set (i % p) (x[i % p] ++ [rd h (i : Int)]))[t].length = phLen (i + 1) p t := by
      intro t ht
      rw [List.length_set] at ht
      rw [List.getElem_set]
      have hpc : p = 1 ∨ p = 2 ∨ p = 3 ∨ p = 4 ∨ p = 5 ∨ p = 6 ∨ p = 7 ∨ p = 8 := by omega
      split
      · rename_i e
        subst e
        rw [List.length_append, hl _ hxi, List.length_singleton]
        unfold phLen
        clear hle hl ih hi hi' ht
        rcases hpc with e | e | e | e | e | e | e | e <;> subst e <;> omega
      · rename_i e
        rw [hl _ ht]
        unfold phLen
        have ht' : t < p := by omega
        clear hle hl ih hi hi' ht
        rcases hpc with e' | e' | e' | e' | e' | e' | e' | e' <;> subst e' <;> omega
    obtain ⟨y, hy, hy2⟩ := ih (i + 1) _ (by omega) (by rw [List.length_set]; exact hx) hstep
    refine ⟨y, Ev.step (fun k => ?_) hy, hy2⟩
    simp only [spec_rsPhases.l0]
    have e1 : Int.tmod (i : Int) (p : Int) = ((i % p : Nat) : Int) := by rw [aid_tmod (by omega)]; rfl
    rw [if_pos (by omega), if_pos (by omega), if_pos (by omega), if_neg (by omega), e1, if_pos (by omega), if_pos (by omega), rdll_nat x _ hxi, if_pos (by rw [hl _ hxi]; omega), Int.toNat_natCast, aid_next (by omega)]
theorem spec_ph (h : List Int) (hh : h.length ≤ 9) (p : Nat) (hp1 : 1 ≤ p) (hp : p ≤ 8) : ∃ y : List (List Int), Ev (fun k => spec_rsPhases.f k h (p : Int)) y ∧ y.length = p ∧ ∀ t (ht : t < y.length), y[t].length = phLen h.length p t := by
  obtain ⟨y, h1, h2⟩ := spec_ph_l0 h hh p hp1 hp h.length 0 (List.replicate p []) (by omega) (by simp) (fun t ht => by
    rw [List.length_replicate] at ht
    rw [List.getElem_replicate]
    unfold phLen
    rw [Nat.div_eq_of_lt (by omega)]
    rfl)
  refine ⟨y, ?_, h2⟩
  unfold spec_rsPhases.f
  refine Ev.congr (fun k => ?_) h1
  rw [if_pos (by omega), if_pos (by omega), Int.toNat_natCast]
  rfl
theorem impl_ph_l0 (h : List Int) (hh : h.length ≤ 9) (p : Nat) (hp1 : 1 ≤ p) (hp : p ≤ 8) : ∀ (d i : Nat) (x : List (List Int)), i + d = p → x.length = i → (∀ t (ht : t < x.length), x[t].length = phLen h.length p t) →
    ∃ y : List (List Int), Ev (fun k => impl_phasesOf.l0 k h (p : Int) x (p : Int) (i : Int)) y ∧ y.length = p ∧ ∀ t (ht : t < y.length), y[t].length = phLen h.length p t := by
  intro d
  induction d with
  | zero =>
    intro i x hi hx hl
    refine ⟨x, Ev.step (f := fun _ => some x) (fun k => ?_) (Ev.now _), by omega, hl⟩
    simp only [impl_phasesOf.l0]
    rw [if_neg (by omega)]
  | succ d ih =>
    intro i x hi hx hl
    obtain ⟨w, hw, _, _, hlen⟩ := drop_impl h (p : Int) (i : Int) (by omega) (by omega) (by omega) (by omega) (by omega)
    have hw2 : w.length = phLen h.length p i := by
      have hpc : p = 1 ∨ p = 2 ∨ p = 3 ∨ p = 4 ∨ p = 5 ∨ p = 6 ∨ p = 7 ∨ p = 8 := by omega
      unfold phLen
      clear hl ih hw
      rcases hpc with e' | e' | e' | e' | e' | e' | e' | e' <;> subst e' <;> omega
    obtain ⟨y, hy, hy2⟩ := ih (i + 1) (x ++ [w]) (by omega) (by simp [hx]) (fun t ht => by
      rw [List.length_append, List.length_singleton] at ht
      by_cases e : t < x.length
      · rw [List.getElem_append_left e]
        exact hl t e
      · obtain rfl : t = x.length := by omega
        rw [List.getElem_append_right (by omega)]
        simp [hw2, hx])
    refine ⟨y, aid_ev_succ ?_, hy2⟩
    simp only [impl_phasesOf.l0]
    refine Ev.congr (fun k => if_pos (by omega)) ?_
    refine Ev.bind hw ?_
    exact Ev.congr (fun k => by rw [if_pos (by omega), aid_next (by omega)]) hy
theorem impl_ph (h : List Int) (hh : h.length ≤ 9) (p : Nat) (hp1 : 1 ≤ p) (hp : p ≤ 8) : ∃ y : List (List Int), Ev (fun k => impl_phasesOf.f k h (p : Int)) y ∧ y.length = p ∧ ∀ t (ht : t < y.length), y[t].length = phLen h.length p t := by
  exact impl_ph_l0 h hh p hp1 hp p 0 [] (by omega) rfl (fun t ht => absurd ht (by simp))
theorem zeros_rd (n : Nat) (i : Int) : rd (List.replicate n 0) i = 0 := by
  unfold rd
  rw [List.getD_eq_getElem?_getD, List.getElem?_replicate]
  split <;> rfl
theorem spec_by_l1 (n : Nat) (hn : n ≤ 64) (p q j : Int) (ph : List (List Int)) (o : List Int) (s : Nat) (hs : s < n) (row : List Int) (hrow : row.length ≤ 9) (ho : o.length ≤ 100000) (v : List Int × Int) (c : Nat) :
    ∀ (d t : Nat), t + d = min row.length (s + 1) → c + d ≤ 100000 →
      Ev (fun k => spec_rsByPhases.l0 k (List.replicate n 0) p q ph (o ++ [0]) ((c + d : Nat) : Int) (wrap64 (j + 1))) v →
      Ev (fun k => spec_rsByPhases.l1 k (List.replicate n 0) p q ph o (c : Int) j (s : Int) 0 row (row.length : Int) (t : Int)) v := by
  intro d
  induction d generalizing c with
  | zero =>
    intro t ht hc h
    refine Ev.step (fun k => ?_) h
    simp only [spec_rsByPhases.l1]
    by_cases h1 : t < row.length
    · rw [if_pos (by omega), if_pos (by omega), if_pos (by omega), if_pos (by omega), if_pos (by omega)]
      rfl
    · rw [if_neg (by omega), if_pos (by omega)]
      rfl
  | succ d ih =>
    intro t ht hc h
    refine Ev.step (fun k => ?_) (ih (c + 1) (t + 1) (by omega) (by omega) (by rw [show c + 1 + d = c + (d + 1) by omega]; exact h))
    simp only [spec_rsByPhases.l1]
    have e1 : wrap64 ((s : Int) - (t : Int)) = ((s - t : Nat) : Int) := by rw [aid_wr (by omega) (by omega)]; omega
    have E1 := Aside0.mk e1
    clear e1
    rw [if_pos (by omega), if_pos (by omega), if_pos (by omega), if_neg (by omega), E1.out, if_pos (by omega), if_pos (by rw [List.length_replicate]; omega), zeros_rd, Int.mul_zero, show wrap64 (0 + wrap64 0) = 0 from by rw [aid_wr (x := 0) (by omega) (by omega), aid_wr (by omega) (by omega)]; rfl, aid_next (by omega), aid_next (by omega)]
theorem by_main (h : List Int) (n : Nat) (hn : n ≤ 64) (p q : Nat) (hp1 : 1 ≤ p) (hp : p ≤ 8) (hq1 : 1 ≤ q) (hq : q ≤ 8) (hnp : (n : Int) * p ≤ 512) (hh : h.length ≤ 9)
    (x y : List (List Int)) (hx : x.length = p) (hy : y.length = p) (hxl : ∀ t (ht : t < x.length), x[t].length = phLen h.length p t) (hyl : ∀ t (ht : t < y.length), y[t].length = phLen h.length p t) :
    ∀ (d j : Nat) (m : Nat) (o : List Int) (c : Nat), (m : Int) = (j : Int) * q → (n : Int) * p - m ≤ d → (m : Int) ≤ (n : Int) * p + 8 → j ≤ m → o.length = j → c ≤ 9 * j →
      ∃ (r : Int) (w : List Int), Ev (fun k => spec_rsByPhases.l0 k (List.replicate n 0) (p : Int) (q : Int) x o (c : Int) (j : Int)) (w, r) ∧ Ev (fun k => impl_ProductsByPhases.l0 k (n : Int) (p : Int) (q : Int) y (c : Int) (m : Int)) (r, true) := by
  have hnp0 : 0 ≤ (n : Int) * p := Int.mul_nonneg (by omega) (by omega)
  have hlen : spec_rsLength.f ((List.replicate n (0 : Int)).length : Int) (p : Int) (q : Int) = some (((n : Int) * p + q - 1) / q) := by
    unfold spec_rsLength.f
    have hd0 : 0 ≤ ((n : Int) * p + q - 1) / q := Int.ediv_nonneg (by omega) (by omega)
    have hd1 : ((n : Int) * p + q - 1) / q ≤ (n : Int) * p + q - 1 := Int.ediv_le_self _ (by omega)
    rw [List.length_replicate, aid_wr (x := (n : Int) * p) (by omega) (by omega), aid_wr (x := (n : Int) * p + q) (by omega) (by omega), aid_wr (x := (n : Int) * p + q - 1) (by omega) (by omega), if_neg (by omega), aid_tdiv (by omega), aid_wr (by omega) (by omega)]
  have hcond : ∀ (j : Nat) (m : Nat), (m : Int) = (j : Int) * q → ((j : Int) < ((n : Int) * p + q - 1) / q ↔ (m : Int) < (n : Int) * p) := by
    intro j m hm
    rw [← Int.add_one_le_iff, Int.le_ediv_iff_mul_le (by omega), Int.add_mul, ← hm]
    omega
  have HL := Aside0.mk hlen
  clear hlen
  intro d
  induction d with
  | zero =>
    intro j m o c hm hd hm2 hjm ho hc
    have hge : ¬ (m : Int) < (n : Int) * p := by omega
    refine ⟨c, o, aid_ev_succ ?_, Ev.step (f := fun _ => some ((c : Int), true)) (fun k => ?_) (Ev.now _)⟩
    · simp only [spec_rsByPhases.l0, HL.out, Option.bind_some]
      exact Ev.congr (fun k => if_neg (fun h => hge ((hcond j m hm).1 h))) (Ev.now _)
    · simp only [impl_ProductsByPhases.l0]
      rw [aid_wr (x := (n : Int) * p) (by omega) (by omega), if_neg hge]
  | succ d ih =>
    intro j m o c hm hd hm2 hjm ho hc
    by_cases hge : (m : Int) < (n : Int) * p
    · have hs : m / p < n := by
        have : (m : Int) < (n : Int) * p := hge
        rw [Nat.div_lt_iff_lt_mul (by omega)]
        exact_mod_cast this
      have ht : m % p < p := Nat.mod_lt _ (by omega)
      have htx : m % p < x.length := by omega
      have hty : m % p < y.length := by omega
      have hrow : x[m % p].length ≤ 9 := by
        rw [hxl _ htx]
        unfold phLen
        have hpc : p = 1 ∨ p = 2 ∨ p = 3 ∨ p = 4 ∨ p = 5 ∨ p = 6 ∨ p = 7 ∨ p = 8 := by omega
        generalize m % p = t at ht
        clear ih hxl hyl hcond HL htx hty hx hy hs hge hm hd hm2 hnp hnp0
        rcases hpc with e' | e' | e' | e' | e' | e' | e' | e' <;> subst e' <;> omega
      have hrow2 : y[m % p].length = x[m % p].length := by rw [hxl _ htx, hyl _ hty]
      obtain ⟨r, w, h1, h2⟩ := ih (j + 1) (m + q) (o ++ [0]) (c + min x[m % p].length (m / p + 1)) (by rw [Int.natCast_add, Int.natCast_add, Int.add_mul, hm]; simp) (by omega) (by omega) (by omega) (by simp [ho]) (by omega)
      have hdl : m / p ≤ m := Nat.div_le_self _ _
      have hm600 : m ≤ 520 := by omega
      have hc5000 : c ≤ 5000 := by omega
      have E1 : Aside0 (wrap64 ((j : Int) * q) = (m : Int)) := ⟨by rw [← hm]; exact aid_wr (by omega) (by omega)⟩
      have E2 : Aside0 (Int.tmod (m : Int) (p : Int) = ((m % p : Nat) : Int)) := ⟨by rw [aid_tmod (by omega)]; rfl⟩
      have E3 : Aside0 (Int.tdiv (m : Int) (p : Int) = ((m / p : Nat) : Int)) := ⟨by rw [aid_tdiv (by omega)]; rfl⟩
      have E4 : Aside0 (wrap64 ((m / p : Nat) : Int) = ((m / p : Nat) : Int)) := ⟨by generalize m / p = u at hdl; exact aid_wr (by omega) (by omega)⟩
      have E5 : Aside0 (mn (x[m % p].length : Int) (wrap64 (((m / p : Nat) : Int) + 1)) = ((min x[m % p].length (m / p + 1) : Nat) : Int)) := ⟨by
        generalize m / p = u at hdl
        generalize x[m % p].length = z at hrow
        rw [aid_next (by omega)]
        unfold mn
        split <;> omega⟩
      have E6 : Aside0 (wrap64 ((c : Int) + ((min x[m % p].length (m / p + 1) : Nat) : Int)) = ((c + min x[m % p].length (m / p + 1) : Nat) : Int)) := ⟨by
        generalize m / p = u at hdl
        generalize x[m % p].length = z at hrow
        clear ih hxl hyl hcond HL
        rw [aid_wr (by omega) (by omega)]
        rfl⟩
      have E7 : Aside0 (wrap64 ((m : Int) + (q : Int)) = ((m + q : Nat) : Int)) := ⟨by
        clear ih hxl hyl hcond HL
        rw [aid_wr (by omega) (by omega)]
        rfl⟩
      refine ⟨r, w, aid_ev_succ ?_, Ev.step (fun k => ?_) h2⟩
      · simp only [spec_rsByPhases.l0, HL.out, Option.bind_some]
        refine Ev.congr (fun k => by rw [if_pos ((hcond j m hm).2 hge), if_neg (by omega), E1.out, E2.out, if_pos (by omega), if_pos (by omega), rdll_nat x _ htx, E3.out, E4.out]) ?_
        refine spec_by_l1 n hn (p : Int) (q : Int) (j : Int) x o (m / p) hs x[m % p] hrow (by omega) (w, r) c (min x[m % p].length (m / p + 1)) 0 (by omega) (by omega) ?_
        rw [aid_next (by omega)]
        exact h1
      · simp only [impl_ProductsByPhases.l0]
        rw [aid_wr (x := (n : Int) * p) (by omega) (by omega), if_pos hge, if_neg (by omega), E2.out, if_pos (by omega), if_pos (by omega), rdll_nat y _ hty, E3.out, E4.out, hrow2, E5.out, E6.out, E7.out]
    · refine ⟨c, o, aid_ev_succ ?_, Ev.step (f := fun _ => some ((c : Int), true)) (fun k => ?_) (Ev.now _)⟩
      · simp only [spec_rsByPhases.l0, HL.out, Option.bind_some]
        exact Ev.congr (fun k => if_neg (fun h => hge ((hcond j m hm).1 h))) (Ev.now _)
      · simp only [impl_ProductsByPhases.l0]
        rw [aid_wr (x := (n : Int) * p) (by omega) (by omega), if_neg hge]
theorem by_both (h : List Int) (n p q : Int) : ∃ r : Int × Bool, Ev (fun k => spec_ProductsByPhases.f k h n p q) r ∧ Ev (fun k => impl_ProductsByPhases.f k h n p q) r := by
  unfold spec_ProductsByPhases.f impl_ProductsByPhases.f
  rw [impl_isProducts.eq]
  have hc := spec_rsCount.ev h n p q
  cases hB : prodB h n p q with
  | false =>
    rw [hB] at hc
    exact ⟨(0, false), Ev.bind hc (Ev.now _), Ev.now _⟩
  | true =>
    rw [hB] at hc
    simp only [prodB, Bool.and_eq_true, decide_eq_true_eq, wtsB_iff] at hB
    obtain ⟨⟨hl, _⟩, hn, hp, hm⟩ := hB
    obtain ⟨n', rfl⟩ := Int.eq_ofNat_of_zero_le (show 0 ≤ n by omega)
    obtain ⟨p', rfl⟩ := Int.eq_ofNat_of_zero_le (show 0 ≤ p by omega)
    obtain ⟨q', rfl⟩ := Int.eq_ofNat_of_zero_le (show 0 ≤ q by omega)
    have hb := prod_bd hn.1 hn.2 hp.1.1 hp.1.2
    obtain ⟨x, hx1, hx2, hx3⟩ := spec_ph h hl.2 p' (by omega) (by omega)
    obtain ⟨y, hy1, hy2, hy3⟩ := impl_ph h hl.2 p' (by omega) (by omega)
    obtain ⟨r, w, h1, h2⟩ := by_main h n' (by omega) p' q' (by omega) (by omega) (by omega) (by omega) hb.2 hl.2 x y hx2 hy2 hx3 hy3 512 0 0 [] 0 (by simp) (by omega) (by omega) (by omega) rfl (by omega)
    refine ⟨(r, true), Ev.bind hc ?_, ?_⟩
    · refine Ev.congr (fun k => by rw [if_pos rfl, if_pos (by omega), if_pos (by omega), Int.toNat_natCast]) ?_
      refine Ev.bind (a := (w, r)) ?_ (Ev.now _)
      unfold spec_rsByPhases.f
      exact Ev.bind hx1 h1
    · simp only [Option.bind_some, if_true]
      exact Ev.bind hy1 h2
theorem FnExactProductsByPhases : laws_FnExactProductsByPhases.Pure := by
  intro l n p q _ h8 _ _ _ _
  refine Ev.rounds ?_
  unfold laws_FnExactProductsByPhases.f
  by_cases hb : (l.length : Int) > 1048576
  · exact Ev.congr (fun k => if_pos hb) (Ev.now _)
  refine Ev.congr (fun k => if_neg hb) ?_
  have hT := laws_toIntS.ev l h8
  obtain ⟨⟨r, b⟩, hs, hi⟩ := by_both l n p q
  have hE := laws_eqIntS.refl l (by omega)
  have hEl := hE
  have hM := hE
  have hMl := hE
  have hH := hE
  have hNb : ¬ ((b != b) = true) := by cases b <;> decide
  have hN1 := hNb
  have hN2 := hNb
  repeat (first
    | exact Ev.now _
    | ((with_reducible refine Ev.bind hT ?_); try dsimp only)
    | ((with_reducible refine Ev.bind hs ?_); try dsimp only)
    | ((with_reducible refine Ev.bind hi ?_); try dsimp only)
    | ((with_reducible refine Ev.bind hE ?_); try dsimp only)
    | ((with_reducible refine Ev.bind hEl ?_); try dsimp only)
    | ((with_reducible refine Ev.bind hM ?_); try dsimp only)
    | ((with_reducible refine Ev.bind hMl ?_); try dsimp only)
    | ((with_reducible refine Ev.bind hH ?_); try dsimp only)
    | (with_reducible refine Ev.congr (fun k => if_pos rfl) ?_)
    | (with_reducible refine Ev.congr (fun k => if_neg hNb) ?_)
    | (with_reducible refine Ev.congr (fun k => if_neg hN1) ?_)
    | (with_reducible refine Ev.congr (fun k => if_neg hN2) ?_)
    | (refine aid_ev_succ ?_; simp only [laws_FnExactProductsByPhases.j0]; try dsimp only))

end Go.Proofs.Ytpcilhakedhkaaa.Pure
