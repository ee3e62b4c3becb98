/- Proves that the program's ProductsDirect returns what the reference's returns, for all arguments. Conditions: none. -/
import Derived.Test.YtcijgkefmolbbaaPFnExactProductsDirectx2
namespace Go.Proofs.Ytcijgkefmolbbaa.Pure
open Go.RowKit Go.Proofs.Ytcijgkefmolbbaa.PFnExactProductsDirect Go.Proofs.YtcijgkefmolbbaaW.PrintWords Go.Proofs.YtcijgkefmolbbaaW.PrintLast
set_option linter.unusedSimpArgs false
set_option linter.unusedVariables false

-- Aid
theorem aid_wr {x : Int} (h0 : -9223372036854775808 ≤ x) (h1 : x ≤ 9223372036854775807) : wrap64 x = x := by unfold wrap64; omega
theorem aid_wf {x : Int} (h : (Lit.int .i64 x).wf = true) : -9223372036854775808 ≤ x ∧ x ≤ 9223372036854775807 := by
  have hmin : IntKind.i64.min = -9223372036854775808 := rfl
  have hmax : IntKind.i64.max = 9223372036854775807 := rfl
  simp only [Lit.wf, Bool.and_eq_true, decide_eq_true_eq, hmin, hmax] at h
  exact h
theorem aid_ev_bind {α β : Type} {g : Nat → Option α} {f : α → Option β} {a : α} {r : β} (h : Ev g a) (k : f a = some r) : Ev (fun n => (g n).bind f) r :=
  Ev.bind (f := fun _ => f) h ⟨0, fun _ _ => k⟩
theorem aid_ev_const {α : Type} {o : Option α} {r : α} (h : o = some r) : Ev (fun _ => o) r := ⟨0, fun _ _ => h⟩
theorem aid_tdiv {a b : Int} (ha : 0 ≤ a) : Int.tdiv a b = a / b := Int.tdiv_eq_ediv_of_nonneg ha
theorem aid_tmod {a b : Int} (ha : 0 ≤ a) : Int.tmod a b = a % b := Int.tmod_eq_emod_of_nonneg ha
theorem aid_next {i : Nat} (h : i ≤ 9223372036854775806) : wrap64 ((i : Int) + 1) = ((i + 1 : Nat) : Int) := by rw [aid_wr (by omega) (by omega)]; rfl
theorem aid_rd (l : List Int) (i : Nat) (h : i < l.length) : rd l (i : Int) = l[i] := by
  unfold rd
  rw [List.getD_eq_getElem?_getD, Int.toNat_natCast, List.getElem?_eq_getElem h]
  rfl

-- laws_toIntS
theorem aid_fill (l : List Int) (i d : Nat) (h : i + (d + 1) = l.length) : (l.take i ++ List.replicate (d + 1) 0).set i (rd l i) = l.take (i + 1) ++ List.replicate d 0 := by
  have hi' : i < l.length := by omega
  have hlen : (l.take i).length = i := by rw [List.length_take]; omega
  rw [List.set_append_right _ _ (by omega), hlen, Nat.sub_self, aid_rd l i hi', List.take_succ_eq_append_getElem hi', List.append_assoc]
  rfl
theorem laws_toIntS.l0_ev (l : List Int) (hl : l.length ≤ 1000000000000000) : ∀ (d i : Nat), i + d = l.length → Ev (fun k => laws_toIntS.l0 k l (l.take i ++ List.replicate d 0) (i : Int)) l := by
  intro d
  induction d with
  | zero =>
    intro i h
    refine Ev.step (fun k => ?_) (Ev.now _)
    simp only [laws_toIntS.l0]
    rw [if_neg (by omega), List.take_of_length_le (by omega)]
    simp
  | succ d ih =>
    intro i h
    refine Ev.step (fun k => ?_) (ih (i + 1) (by omega))
    have hlen : (l.take i ++ List.replicate (d + 1) 0).length = l.length := by
      rw [List.length_append, List.length_take, List.length_replicate]; omega
    simp only [laws_toIntS.l0]
    rw [if_pos (by omega), if_pos (by omega), if_pos (by rw [hlen]; omega), aid_next (by omega), Int.toNat_natCast, aid_fill l i d h]
theorem laws_toIntS.ev (l : List Int) (hl : l.length * 8 ≤ 140737488351232) : Ev (fun k => laws_toIntS.f k l) l := by
  unfold laws_toIntS.f
  have h := laws_toIntS.l0_ev l (by omega) l.length 0 (by omega)
  refine Ev.congr (fun k => ?_) h
  rw [if_pos (by omega), if_pos (by omega)]
  simp

-- laws_eqIntS
theorem laws_eqIntS.l0_refl (l : List Int) (hl : l.length ≤ 1000000000000000) : ∀ (d i : Nat), i + d = l.length → Ev (fun k => laws_eqIntS.l0 k l l (i : Int)) true := by
  intro d
  induction d with
  | zero =>
    intro i h
    refine Ev.step (fun k => ?_) (Ev.now _)
    simp only [laws_eqIntS.l0]
    rw [if_neg (by omega)]
  | succ d ih =>
    intro i h
    refine Ev.step (fun k => ?_) (ih (i + 1) (by omega))
    simp only [laws_eqIntS.l0]
    rw [if_pos (by omega), if_pos (by omega), if_pos (by omega), if_pos trivial, aid_next (by omega)]
theorem laws_eqIntS.refl (l : List Int) (hl : l.length ≤ 1000000000000000) : Ev (fun k => laws_eqIntS.f k l l) true := by
  unfold laws_eqIntS.f
  exact Ev.congr (fun k => if_pos rfl) (laws_eqIntS.l0_refl l hl l.length 0 (by omega))

-- spec_l1In
theorem spec_l1In.eq (a lo hi : Int) : spec_l1In.f a lo hi = some (decide (lo ≤ a ∧ a ≤ hi)) := by
  unfold spec_l1In.f
  by_cases h : lo ≤ a <;> simp [h]

-- spec_rsRatio
theorem spec_rsRatio.eq (p q : Int) : spec_rsRatio.f p q = some (decide ((1 ≤ p ∧ p ≤ 8) ∧ (1 ≤ q ∧ q ≤ 8))) := by
  unfold spec_rsRatio.f
  rw [spec_l1In.eq, spec_l1In.eq]
  by_cases h : 1 ≤ p ∧ p ≤ 8 <;> simp [h]

-- spec_l1All
theorem spec_l1All.l0_ev (lo hi : Int) (l : List Int) (hl : l.length ≤ 1000000000000000) : ∀ (d i : Nat), i + d = l.length → Ev (fun k => spec_l1All.l0 k lo hi l (l.length : Int) (i : Int)) ((l.drop i).all fun x => decide (lo ≤ x ∧ x ≤ hi)) := by
  intro d
  induction d with
  | zero =>
    intro i h
    rw [List.drop_eq_nil_of_le (by omega)]
    refine Ev.step (fun k => ?_) (Ev.now _)
    simp only [spec_l1All.l0]
    rw [if_neg (by omega)]
    rfl
  | succ d ih =>
    intro i h
    have hi' : i < l.length := by omega
    rw [List.drop_eq_getElem_cons hi', List.all_cons, ← aid_rd l i hi']
    by_cases hc : lo ≤ rd l i ∧ rd l i ≤ hi
    · refine Ev.step (fun k => ?_) (by simpa [hc] using ih (i + 1) (by omega))
      simp only [spec_l1All.l0]
      rw [if_pos (by omega), if_pos (by omega), if_pos (by omega), spec_l1In.eq, aid_next (by omega)]
      simp [hc]
    · refine Ev.step (f := fun _ => some false) (fun k => ?_) (by simpa [hc] using Ev.now false)
      simp only [spec_l1All.l0]
      rw [if_pos (by omega), if_pos (by omega), if_pos (by omega), spec_l1In.eq]
      simp [hc]
theorem spec_l1All.ev (lo hi : Int) (l : List Int) (hl : l.length ≤ 1000000000000000) : Ev (fun k => spec_l1All.f k l lo hi) (l.all fun x => decide (lo ≤ x ∧ x ≤ hi)) :=
  spec_l1All.l0_ev lo hi l hl l.length 0 (by omega)

-- Wts
def wtsB (l : List Int) : Bool := decide (1 ≤ l.length ∧ l.length ≤ 9) && l.all fun x => decide (-1000 ≤ x ∧ x ≤ 1000)
theorem wtsB_iff (l : List Int) : wtsB l = true ↔ (1 ≤ l.length ∧ l.length ≤ 9) ∧ ∀ x ∈ l, -1000 ≤ x ∧ x ≤ 1000 := by
  simp [wtsB]

-- spec_weGood
theorem spec_weGood.ev (l : List Int) : Ev (fun k => spec_weGood.f k l) (wtsB l) := by
  unfold spec_weGood.f wtsB
  rw [spec_l1In.eq]
  by_cases h : 1 ≤ l.length ∧ l.length ≤ 9
  · have e := spec_l1All.ev (-1000) 1000 l (by omega)
    have h' : (1 : Int) ≤ (l.length : Int) ∧ (l.length : Int) ≤ 9 := by omega
    simp only [h, h', and_self, decide_true, Option.bind_some, if_true, Bool.true_and]
    exact aid_ev_bind e rfl
  · have h' : ¬ ((1 : Int) ≤ (l.length : Int) ∧ (l.length : Int) ≤ 9) := by omega
    simp only [h, h', decide_false, Option.bind_some, Bool.false_and]
    simp
    exact Ev.now _

-- spec_l1Least
theorem spec_l1Least.eq (a b : Int) : spec_l1Least.f a b = some (min a b) := by
  unfold spec_l1Least.f
  split <;> simp <;> omega

-- impl_in
theorem impl_in.eq (a lo hi : Int) : impl_in.f a lo hi = some (decide (lo ≤ a ∧ a ≤ hi)) := by
  unfold impl_in.f
  by_cases h : lo ≤ a <;> simp [h]

-- impl_isRatio
theorem impl_isRatio.eq (p q : Int) : impl_isRatio.f p q = some (decide ((1 ≤ p ∧ p ≤ 8) ∧ (1 ≤ q ∧ q ≤ 8))) := by
  unfold impl_isRatio.f
  rw [impl_in.eq, impl_in.eq]
  by_cases h : 1 ≤ p ∧ p ≤ 8 <;> simp [h]

-- impl_isWeights
theorem impl_isWeights.eq (l : List Int) : impl_isWeights.f l = some (wtsB l) := by
  unfold impl_isWeights.f wtsB
  have e1 : (decide (1 ≤ (l.length : Int)) && decide ((l.length : Int) ≤ 9)) = decide (1 ≤ l.length ∧ l.length ≤ 9) := by
    rw [Bool.eq_iff_iff]; simp; omega
  have e2 : (!(l.any fun x => !(decide (-1000 ≤ x) && decide (x ≤ 1000)))) = l.all fun x => decide (-1000 ≤ x ∧ x ≤ 1000) := by
    rw [List.not_any_eq_all_not]
    congr 1
    funext x
    rw [Bool.eq_iff_iff]
    simp
  rw [e1, e2]

def prodB (h : List Int) (n p q : Int) : Bool := wtsB h && (decide (0 ≤ n ∧ n ≤ 64) && (decide ((1 ≤ p ∧ p ≤ 8) ∧ (1 ≤ q ∧ q ≤ 8)) && decide (n * p ≤ 64)))
theorem prod_bd {n p : Int} (h0 : 0 ≤ n) (h1 : n ≤ 64) (h2 : 1 ≤ p) (h3 : p ≤ 8) : 0 ≤ n * p ∧ n * p ≤ 512 :=
  ⟨Int.mul_nonneg h0 (by omega), Int.le_trans (Int.mul_le_mul h1 h3 (by omega) (by omega)) (by omega)⟩
theorem spec_rsCount.ev (h : List Int) (n p q : Int) : Ev (fun k => spec_rsCount.f k h n p q) (prodB h n p q) := by
  unfold spec_rsCount.f prodB
  refine Ev.bind (spec_weGood.ev h) ?_
  cases wtsB h with
  | false => exact Ev.now _
  | true =>
    simp only [if_true, Bool.true_and]
    rw [spec_l1In.eq, spec_rsRatio.eq]
    by_cases h1 : 0 ≤ n ∧ n ≤ 64
    · by_cases h2 : (1 ≤ p ∧ p ≤ 8) ∧ (1 ≤ q ∧ q ≤ 8)
      · have hb := prod_bd h1.1 h1.2 h2.1.1 h2.1.2
        rw [aid_wr (by omega) (by omega)]
        simp only [h1, h2, and_self, decide_true, Option.bind_some, if_true, Bool.true_and]
        exact Ev.now _
      · simp only [h1, h2, and_self, decide_true, decide_false, Option.bind_some, if_true, Bool.true_and, Bool.false_and]
        simp
        exact Ev.now _
    · simp only [h1, decide_false, Option.bind_some, Bool.false_and]
      simp
      exact Ev.now _
theorem impl_isProducts.eq (h : List Int) (n p q : Int) : impl_isProducts.f h n p q = some (prodB h n p q) := by
  unfold impl_isProducts.f prodB
  rw [impl_isWeights.eq, impl_in.eq, impl_isRatio.eq]
  cases wtsB h with
  | false => simp
  | true =>
    simp only [if_true, Bool.true_and, Option.bind_some]
    by_cases h1 : 0 ≤ n ∧ n ≤ 64
    · by_cases h2 : (1 ≤ p ∧ p ≤ 8) ∧ (1 ≤ q ∧ q ≤ 8)
      · have hb := prod_bd h1.1 h1.2 h2.1.1 h2.1.2
        rw [aid_wr (by omega) (by omega)]
        simp only [h1, h2, and_self, decide_true, Option.bind_some, if_true, Bool.true_and]
      · simp only [h1, h2, and_self, decide_true, decide_false, Option.bind_some, if_true, Bool.true_and, Bool.false_and]
        simp
    · simp only [h1, decide_false, Option.bind_some, Bool.false_and]
      simp
theorem prod_some (h : List Int) (hh : h.length ≤ 9) (n p : Int) (hb : 0 ≤ n * p ∧ n * p ≤ 512) : ∀ (d : Nat) (i : Nat) (a : Int), (i : Int) + d = n * p → 0 ≤ a → a ≤ 9 * i → ∃ r, Ev (fun k => spec_ProductsDirect.l0 k h n p a (i : Int)) (r, true) ∧ Ev (fun k => impl_ProductsDirect.l0 k h a (wrap64 (n * p)) (i : Int)) (r, true) := by
  have hw : wrap64 (n * p) = n * p := aid_wr (by omega) (by omega)
  have HW := Aside0.mk hw
  clear hw
  intro d
  induction d with
  | zero =>
    intro i a hi h0 h1
    refine ⟨a, Ev.step (f := fun _ => some (a, true)) (fun k => ?_) (Ev.now _), Ev.step (f := fun _ => some (a, true)) (fun k => ?_) (Ev.now _)⟩
    · simp only [spec_ProductsDirect.l0]
      rw [HW.out, if_neg (by omega)]
    · simp only [impl_ProductsDirect.l0]
      rw [HW.out, if_neg (by omega)]
  | succ d ih =>
    intro i a hi h0 h1
    have hmn : mn (h.length : Int) (wrap64 ((i : Int) + 1)) = min (h.length : Int) ((i + 1 : Nat) : Int) := by
      rw [aid_next (by omega)]
      unfold mn
      split <;> omega
    obtain ⟨r, hr1, hr2⟩ := ih (i + 1) (a + min (h.length : Int) ((i + 1 : Nat) : Int)) (by omega) (by omega) (by omega)
    refine ⟨r, Ev.step (fun k => ?_) hr1, Ev.step (fun k => ?_) hr2⟩
    · simp only [spec_ProductsDirect.l0]
      rw [HW.out, if_pos (by omega), aid_next (by omega), spec_l1Least.eq]
      simp only [Option.bind_some]
      rw [aid_wr (x := a + _) (by omega) (by omega)]
    · simp only [impl_ProductsDirect.l0]
      rw [HW.out, if_pos (by omega), hmn, aid_next (by omega), aid_wr (x := a + _) (by omega) (by omega)]
theorem FnExactProductsDirect : laws_FnExactProductsDirect.Pure := by
  intro h n p q _ h8 _ _ _ _
  refine Ev.rounds ?_
  unfold laws_FnExactProductsDirect.f
  by_cases hb : (h.length : Int) > 1048576
  · exact Ev.congr (fun k => if_pos hb) (Ev.now _)
  · refine Ev.congr (fun k => if_neg hb) ?_
    refine Ev.bind (laws_toIntS.ev h h8) ?_
    obtain ⟨r, h1, h2⟩ : ∃ r : Int × Bool, Ev (fun k => spec_ProductsDirect.f k h n p q) r ∧ Ev (fun k => impl_ProductsDirect.f k h n p q) r := by
      unfold spec_ProductsDirect.f impl_ProductsDirect.f
      rw [impl_isProducts.eq]
      have hc := spec_rsCount.ev h n p q
      cases hB : prodB h n p q with
      | false =>
        rw [hB] at hc
        exact ⟨(0, false), Ev.bind hc (Ev.now _), Ev.now _⟩
      | true =>
        rw [hB] at hc
        simp only [prodB, Bool.and_eq_true, decide_eq_true_eq, wtsB_iff] at hB
        obtain ⟨⟨hl, _⟩, hn, hp, hm⟩ := hB
        obtain ⟨r, h1, h2⟩ := prod_some h hl.2 n p (prod_bd hn.1 hn.2 hp.1.1 hp.1.2) (n * p).toNat 0 0 (by have := prod_bd hn.1 hn.2 hp.1.1 hp.1.2; omega) (by omega) (by omega)
        exact ⟨(r, true), Ev.bind hc h1, h2⟩
    refine Ev.bind h1 ?_
    refine Ev.bind (laws_toIntS.ev h h8) ?_
    refine Ev.bind h2 ?_
    refine Ev.congr (fun k => if_pos rfl) ?_
    refine Ev.step (fun k => ?_) (f := fun k => (laws_toIntS.f k h).bind fun t135 => ((laws_eqIntS.f k h t135).bind fun t138 => (if t138 = true then (some true) else (some false)))) ?_
    · simp [laws_FnExactProductsDirect.j0]
    refine Ev.bind (laws_toIntS.ev h h8) ?_
    refine Ev.bind (laws_eqIntS.refl h (by omega)) ?_
    exact Ev.now _

end Go.Proofs.Ytcijgkefmolbbaa.Pure
