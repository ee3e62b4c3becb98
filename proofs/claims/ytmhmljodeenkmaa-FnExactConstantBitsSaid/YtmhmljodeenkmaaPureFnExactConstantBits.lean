/- Proves that the program's ConstantBits returns what the reference's returns, for all arguments. Conditions: none. -/
import Derived.Test.YtmhmljodeenkmaaPFnExactConstantBitsx2
namespace Go.Proofs.Ytmhmljodeenkmaa.Pure
open Go.RowKit Go.Proofs.Ytmhmljodeenkmaa.PFnExactConstantBits Go.Proofs.YtmhmljodeenkmaaW.PrintWords Go.Proofs.YtmhmljodeenkmaaW.PrintLast
set_option linter.unusedSimpArgs false
set_option linter.unusedVariables false

-- Aid
theorem aid_wr {x : Int} (h0 : -9223372036854775808 ≤ x) (h1 : x ≤ 9223372036854775807) : wrap64 x = x := by unfold wrap64; omega
theorem aid_wf {x : Int} (h : (Lit.int .i64 x).wf = true) : -9223372036854775808 ≤ x ∧ x ≤ 9223372036854775807 := by
  have hmin : IntKind.i64.min = -9223372036854775808 := rfl
  have hmax : IntKind.i64.max = 9223372036854775807 := rfl
  simp only [Lit.wf, Bool.and_eq_true, decide_eq_true_eq, hmin, hmax] at h
  exact h
theorem aid_ev_bind {α β : Type} {g : Nat → Option α} {f : α → Option β} {a : α} {r : β} (h : Ev g a) (k : f a = some r) : Ev (fun n => (g n).bind f) r :=
  Ev.bind (f := fun _ => f) h ⟨0, fun _ _ => k⟩
theorem aid_ev_const {α : Type} {o : Option α} {r : α} (h : o = some r) : Ev (fun _ => o) r := ⟨0, fun _ _ => h⟩
theorem aid_tdiv {a b : Int} (ha : 0 ≤ a) : Int.tdiv a b = a / b := Int.tdiv_eq_ediv_of_nonneg ha
theorem aid_tmod {a b : Int} (ha : 0 ≤ a) : Int.tmod a b = a % b := Int.tmod_eq_emod_of_nonneg ha
theorem aid_next {i : Nat} (h : i ≤ 9223372036854775806) : wrap64 ((i : Int) + 1) = ((i + 1 : Nat) : Int) := by rw [aid_wr (by omega) (by omega)]; rfl
theorem aid_rd (l : List Int) (i : Nat) (h : i < l.length) : rd l (i : Int) = l[i] := by
  unfold rd
  rw [List.getD_eq_getElem?_getD, Int.toNat_natCast, List.getElem?_eq_getElem h]
  rfl
theorem aid_ev_succ {α : Type} {g : Nat → Option α} {r : α} (h : Ev (fun k => g (k + 1)) r) : Ev g r := Ev.step (fun _ => rfl) h

-- laws_eqIntS
theorem laws_eqIntS.l0_refl (l : List Int) (hl : l.length ≤ 1000000000000000) : ∀ (d i : Nat), i + d = l.length → Ev (fun k => laws_eqIntS.l0 k l l (i : Int)) true := by
  intro d
  induction d with
  | zero =>
    intro i h
    refine Ev.step (fun k => ?_) (Ev.now _)
    simp only [laws_eqIntS.l0]
    rw [if_neg (by omega)]
  | succ d ih =>
    intro i h
    refine Ev.step (fun k => ?_) (ih (i + 1) (by omega))
    simp only [laws_eqIntS.l0]
    rw [if_pos (by omega), if_pos (by omega), if_pos (by omega), if_pos trivial, aid_next (by omega)]
theorem laws_eqIntS.refl (l : List Int) (hl : l.length ≤ 1000000000000000) : Ev (fun k => laws_eqIntS.f k l l) true := by
  unfold laws_eqIntS.f
  exact Ev.congr (fun k => if_pos rfl) (laws_eqIntS.l0_refl l hl l.length 0 (by omega))

-- Mark
def marksL : Nat → Int → List Int
  | 0, _ => []
  | n + 1, a => marksL n a ++ [a + (n : Int)]
theorem marksL_length (a : Int) : ∀ n, (marksL n a).length = n
  | 0 => rfl
  | n + 1 => by rw [marksL, List.length_append, marksL_length a n]; rfl
theorem marksL_get (a : Int) : ∀ (n i : Nat) (h : i < (marksL n a).length), (marksL n a)[i] = a + (i : Int)
  | n + 1, i, h => by
    have hl := marksL_length a n
    have hl' := marksL_length a (n + 1)
    simp only [marksL]
    by_cases hi : i < n
    · rw [List.getElem_append_left (by omega)]
      exact marksL_get a n i (by omega)
    · have e : i = n := by omega
      subst e
      rw [List.getElem_append_right (by omega)]
      simp

-- laws_markIntS
theorem laws_markIntS.l0_ev (l : List Int) (a : Int) (hl : l.length ≤ 1000000000000000) (h0 : 0 ≤ a) (h1 : a ≤ 1000000000000000) : ∀ (d i : Nat), i + d = l.length → Ev (fun k => laws_markIntS.l0 k (marksL i a ++ l.drop i) (a + (i : Int)) (i : Int)) (a + (l.length : Int), marksL l.length a) := by
  intro d
  induction d with
  | zero =>
    intro i h
    have hlen : (marksL i a ++ l.drop i).length = l.length := by rw [List.length_append, marksL_length, List.length_drop]; omega
    refine Ev.step (f := fun _ => some (a + (l.length : Int), marksL l.length a)) (fun k => ?_) (Ev.now _)
    simp only [laws_markIntS.l0]
    rw [if_neg (by rw [hlen]; omega), List.drop_eq_nil_of_le (by omega), List.append_nil]
    obtain rfl : i = l.length := by omega
    rfl
  | succ d ih =>
    intro i h
    have hi' : i < l.length := by omega
    have hlen : (marksL i a ++ l.drop i).length = l.length := by rw [List.length_append, marksL_length, List.length_drop]; omega
    refine Ev.step (fun k => ?_) (ih (i + 1) (by omega))
    simp only [laws_markIntS.l0]
    have hset : (marksL i a ++ l.drop i).set i (a + (i : Int)) = marksL (i + 1) a ++ l.drop (i + 1) := by
      rw [List.set_append_right _ _ (by rw [marksL_length]; omega), marksL_length, Nat.sub_self, List.drop_eq_getElem_cons hi', marksL, List.append_assoc]
      rfl
    rw [if_pos (by rw [hlen]; omega), if_pos (by omega), Int.toNat_natCast, hset, aid_next (by omega), aid_wr (x := a + (i : Int) + 1) (by omega) (by omega)]
    rw [show a + (i : Int) + 1 = a + ((i + 1 : Nat) : Int) by omega]
theorem laws_markIntS.ev (l : List Int) (a : Int) (hl : l.length ≤ 1000000000000000) (h0 : 0 ≤ a) (h1 : a ≤ 1000000000000000) : Ev (fun k => laws_markIntS.f k l a) (a + (l.length : Int), marksL l.length a) := by
  have h := laws_markIntS.l0_ev l a hl h0 h1 l.length 0 (by omega)
  simp only [marksL, List.nil_append, List.drop_zero] at h
  unfold laws_markIntS.f
  simpa using h

-- laws_heldIntS
theorem laws_heldIntS.l0_ev (n : Nat) (a : Int) (hl : n ≤ 1000000000000000) (h0 : 0 ≤ a) (h1 : a ≤ 1000000000000000) : ∀ (d i : Nat), i + d = n → Ev (fun k => laws_heldIntS.l0 k (marksL n a) (a + (i : Int)) (i : Int)) (a + (n : Int)) := by
  have hlen := marksL_length a n
  intro d
  induction d with
  | zero =>
    intro i h
    refine Ev.step (f := fun _ => some (a + (n : Int))) (fun k => ?_) (Ev.now _)
    simp only [laws_heldIntS.l0]
    rw [if_neg (by rw [hlen]; omega)]
    obtain rfl : i = n := by omega
    rfl
  | succ d ih =>
    intro i h
    refine Ev.step (fun k => ?_) (ih (i + 1) (by omega))
    simp only [laws_heldIntS.l0]
    rw [if_pos (by rw [hlen]; omega), if_pos (by omega), aid_rd _ i (by omega), marksL_get, if_pos rfl, aid_next (by omega), aid_wr (x := a + (i : Int) + 1) (by omega) (by omega)]
    rw [show a + (i : Int) + 1 = a + ((i + 1 : Nat) : Int) by omega]
theorem laws_heldIntS.ev (n : Nat) (a : Int) (hl : n ≤ 1000000000000000) (h0 : 0 ≤ a) (h1 : a ≤ 1000000000000000) : Ev (fun k => laws_heldIntS.f k (marksL n a) a) (a + (n : Int)) := by
  have h := laws_heldIntS.l0_ev n a hl h0 h1 n 0 (by omega)
  unfold laws_heldIntS.f
  simpa using h

-- spec_l1In
theorem spec_l1In.eq (a lo hi : Int) : spec_l1In.f a lo hi = some (decide (lo ≤ a ∧ a ≤ hi)) := by
  unfold spec_l1In.f
  by_cases h : lo ≤ a <;> simp [h]

-- spec_dmScale
theorem spec_dmScale.eq (m : Int) : spec_dmScale.f m = some (decide (1 ≤ m ∧ m ≤ 1000)) := by
  unfold spec_dmScale.f
  rw [spec_l1In.eq]
  rfl

-- spec_dmNumber
theorem spec_dmNumber.eq (m x : Int) : spec_dmNumber.f m x = some (decide ((1 ≤ m ∧ m ≤ 1000) ∧ (-m ≤ x ∧ x ≤ m))) := by
  unfold spec_dmNumber.f
  rw [spec_dmScale.eq]
  by_cases h : 1 ≤ m ∧ m ≤ 1000
  · rw [aid_wr (by omega) (by omega), spec_l1In.eq]
    simp [h]
  · simp [h]

-- Modu
def bitI (y : Int) : Int := if y ≥ 0 then 1 else -1
def modB (m : Int) : List Int → Int → List Int
  | [], _ => []
  | x :: r, s => bitI (s + x) :: modB m r (s + x - m * bitI (s + x))
def modS (m : Int) : List Int → Int → List Int
  | [], _ => []
  | x :: r, s => (s + x - m * bitI (s + x)) :: modS m r (s + x - m * bitI (s + x))
theorem modB_length (m : Int) : ∀ (l : List Int) (s : Int), (modB m l s).length = l.length
  | [], _ => rfl
  | x :: r, s => by simp [modB, modB_length m r]
theorem modS_length (m : Int) : ∀ (l : List Int) (s : Int), (modS m l s).length = l.length
  | [], _ => rfl
  | x :: r, s => by simp [modS, modS_length m r]
theorem modB_bits (m : Int) : ∀ (l : List Int) (s : Int), ∀ b ∈ modB m l s, b = 1 ∨ b = -1
  | x :: r, s, b, h => by
    rcases List.mem_cons.1 h with h | h
    · rw [h]
      unfold bitI
      split <;> simp
    · exact modB_bits m r _ b h
theorem mod_state {m s x : Int} (hm : 1 ≤ m) (hx : -m ≤ x ∧ x ≤ m) (hs : -m ≤ s ∧ s < m) : -m ≤ s + x - m * bitI (s + x) ∧ s + x - m * bitI (s + x) < m := by
  unfold bitI
  split <;> omega

-- spec_dmOne
theorem spec_dmOne.l0_ev (m : Int) (hm : 1 ≤ m) (hm' : m ≤ 1000) (l : List Int) (hl : l.length ≤ 1000000) (hx : ∀ x ∈ l, -m ≤ x ∧ x ≤ m) : ∀ (d i : Nat) (bs ss : List Int) (s : Int), i + d = l.length → bs.length = i → ss.length = i → -m ≤ s ∧ s < m →
    Ev (fun k => spec_dmOne.l0 k m bs ss s l (l.length : Int) (i : Int)) (bs ++ modB m (l.drop i) s, ss ++ modS m (l.drop i) s) := by
  intro d
  induction d with
  | zero =>
    intro i bs ss s hi hb hs hst
    rw [List.drop_eq_nil_of_le (by omega)]
    refine Ev.step (f := fun _ => some (bs ++ modB m [] s, ss ++ modS m [] s)) (fun k => ?_) (Ev.now _)
    simp only [spec_dmOne.l0]
    rw [if_neg (by omega)]
    simp [modB, modS]
  | succ d ih =>
    intro i bs ss s hi hb hs hst
    have hi' : i < l.length := by omega
    have hxi := hx l[i] (List.getElem_mem hi')
    have hst' := mod_state hm hxi hst
    have hz := ih (i + 1) (bs ++ [bitI (s + l[i])]) (ss ++ [s + l[i] - m * bitI (s + l[i])]) (s + l[i] - m * bitI (s + l[i])) (by omega) (by simp [hb]) (by simp [hs]) hst'
    rw [List.drop_eq_getElem_cons hi', modB, modS]
    rw [List.append_assoc, List.append_assoc] at hz
    refine Ev.step (fun k => ?_) hz
    simp only [spec_dmOne.l0]
    rw [if_pos (by omega), if_pos (by omega), if_pos (by omega), aid_rd l i hi', aid_wr (x := s + l[i]) (by omega) (by omega), aid_next (by omega)]
    by_cases hc : s + l[i] ≥ 0
    · have e : bitI (s + l[i]) = 1 := if_pos hc
      rw [e, Int.mul_one] at hst' ⊢
      rw [if_pos hc, if_pos (by omega), if_pos (by omega), aid_wr (x := m) (by omega) (by omega), aid_wr (x := s + l[i] - m) (by omega) (by omega)]
    · have e : bitI (s + l[i]) = -1 := if_neg hc
      have em : m * -1 = -m := by omega
      rw [e, em] at hst' ⊢
      rw [if_neg hc, if_pos (by omega), if_pos (by omega), aid_wr (x := -m) (by omega) (by omega), aid_wr (x := s + l[i] - -m) (by omega) (by omega)]
theorem spec_dmOne.ev (m : Int) (hm : 1 ≤ m) (hm' : m ≤ 1000) (l : List Int) (hl : l.length ≤ 1000000) (hx : ∀ x ∈ l, -m ≤ x ∧ x ≤ m) : Ev (fun k => spec_dmOne.f k m l) (modB m l 0, modS m l 0) :=
  spec_dmOne.l0_ev m hm hm' l hl hx l.length 0 [] [] 0 (by omega) rfl rfl (by omega)

-- spec_dmConstant
theorem spec_dmConstant.l0_ev (m x : Int) (hm : 1 ≤ m) (hm' : m ≤ 1000) (hx : -m ≤ x ∧ x ≤ m) (n : Nat) (hn : n ≤ 1000) : ∀ (d i : Nat), i + d = n →
    Ev (fun k => spec_dmConstant.l0 k m x (List.replicate i x ++ List.replicate d 0) (n : Int) (i : Int)) (modB m (List.replicate n x) 0) := by
  intro d
  induction d with
  | zero =>
    intro i hi
    have e : i = n := by omega
    subst e
    rw [List.replicate_zero, List.append_nil]
    have h := spec_dmOne.ev m hm hm' (List.replicate i x) (by rw [List.length_replicate]; omega) (fun y hy => by rw [List.eq_of_mem_replicate hy]; exact hx)
    refine Ev.step (f := fun k => (spec_dmOne.f k m (List.replicate i x)).bind fun bt125 => some bt125.1) (fun k => ?_) (aid_ev_bind h rfl)
    simp only [spec_dmConstant.l0]
    rw [if_neg (by omega)]
  | succ d ih =>
    intro i hi
    refine Ev.step (fun k => ?_) (ih (i + 1) (by omega))
    have hl : ((List.replicate i x ++ List.replicate (d + 1) 0).length : Int) = (n : Int) := by
      rw [List.length_append, List.length_replicate, List.length_replicate]
      omega
    simp only [spec_dmConstant.l0]
    rw [if_pos (by omega), if_pos (by omega), if_pos (by omega), aid_next (by omega), Int.toNat_natCast]
    have e : (List.replicate i x ++ List.replicate (d + 1) 0).set i x = List.replicate (i + 1) x ++ List.replicate d 0 := by
      rw [List.set_append_right _ _ (by rw [List.length_replicate]; omega), List.length_replicate, Nat.sub_self, List.replicate_succ, List.set_cons_zero, List.replicate_succ', List.append_assoc]
      rfl
    rw [e]
theorem spec_dmConstant.ev (m x : Int) (hm : 1 ≤ m) (hm' : m ≤ 1000) (hx : -m ≤ x ∧ x ≤ m) (n : Nat) (hn : n ≤ 1000) : Ev (fun k => spec_dmConstant.f k m x (n : Int)) (modB m (List.replicate n x) 0) := by
  unfold spec_dmConstant.f
  refine Ev.congr (fun k => if_pos (by omega)) ?_
  refine Ev.congr (fun k => if_pos (by omega)) ?_
  rw [Int.toNat_natCast]
  have h := spec_dmConstant.l0_ev m x hm hm' hx n hn n 0 (by omega)
  rw [List.replicate_zero, List.nil_append] at h
  simpa using h

-- impl_in
theorem impl_in.eq (a lo hi : Int) : impl_in.f a lo hi = some (decide (lo ≤ a ∧ a ≤ hi)) := by
  unfold impl_in.f
  by_cases h : lo ≤ a <;> simp [h]

-- impl_isConstant
theorem impl_isConstant.eq (m x : Int) : impl_isConstant.f m x = some (decide ((1 ≤ m ∧ m ≤ 1000) ∧ (-m ≤ x ∧ x ≤ m))) := by
  unfold impl_isConstant.f
  rw [impl_in.eq]
  by_cases h : 1 ≤ m ∧ m ≤ 1000
  · rw [aid_wr (by omega) (by omega), impl_in.eq]
    simp [h]
  · simp [h]

-- impl_bitOf
theorem impl_bitOf.eq (y : Int) : impl_bitOf.f y = some (bitI y) := by
  unfold impl_bitOf.f bitI
  split <;> rfl

-- impl_modulate
theorem impl_modulate.l0_ev (m : Int) (hm : 1 ≤ m) (hm' : m ≤ 1000) (l : List Int) (hl : l.length ≤ 1000000) (hx : ∀ x ∈ l, -m ≤ x ∧ x ≤ m) : ∀ (d i : Nat) (bs ss : List Int) (s : Int), i + d = l.length → bs.length = i → ss.length = i → -m ≤ s ∧ s < m →
    Ev (fun k => impl_modulate.l0 k m bs ss s l (l.length : Int) (i : Int)) (bs ++ modB m (l.drop i) s, ss ++ modS m (l.drop i) s) := by
  intro d
  induction d with
  | zero =>
    intro i bs ss s hi hb hs hst
    rw [List.drop_eq_nil_of_le (by omega)]
    refine Ev.step (f := fun _ => some (bs ++ modB m [] s, ss ++ modS m [] s)) (fun k => ?_) (Ev.now _)
    simp only [impl_modulate.l0]
    rw [if_neg (by omega)]
    simp [modB, modS]
  | succ d ih =>
    intro i bs ss s hi hb hs hst
    have hi' : i < l.length := by omega
    have hxi := hx l[i] (List.getElem_mem hi')
    have hst' := mod_state hm hxi hst
    have hz := ih (i + 1) (bs ++ [bitI (s + l[i])]) (ss ++ [s + l[i] - m * bitI (s + l[i])]) (s + l[i] - m * bitI (s + l[i])) (by omega) (by simp [hb]) (by simp [hs]) hst'
    rw [List.drop_eq_getElem_cons hi', modB, modS]
    rw [List.append_assoc, List.append_assoc] at hz
    refine Ev.step (fun k => ?_) hz
    simp only [impl_modulate.l0]
    rw [if_pos (by omega), if_pos (by omega), if_pos (by omega), aid_rd l i hi', aid_wr (x := s + l[i]) (by omega) (by omega), aid_next (by omega)]
    have hw : wrap64 (m * bitI (s + l[i])) = m * bitI (s + l[i]) := by
      unfold bitI
      split
      · rw [Int.mul_one]
        exact aid_wr (by omega) (by omega)
      · rw [show m * -1 = -m by omega]
        exact aid_wr (by omega) (by omega)
    rw [impl_bitOf.eq]
    simp only [Option.bind_some]
    rw [hw]
    clear hw
    rw [if_pos (by omega), if_pos (by omega), aid_wr (x := s + l[i] - m * bitI (s + l[i])) (by omega) (by omega)]
theorem impl_modulate.ev (m : Int) (hm : 1 ≤ m) (hm' : m ≤ 1000) (l : List Int) (hl : l.length ≤ 1000000) (hx : ∀ x ∈ l, -m ≤ x ∧ x ≤ m) : Ev (fun k => impl_modulate.f k m l) (modB m l 0, modS m l 0) :=
  impl_modulate.l0_ev m hm hm' l hl hx l.length 0 [] [] 0 (by omega) rfl rfl (by omega)

-- impl_constantBits
theorem impl_constantBits.ev (m x : Int) (hm : 1 ≤ m) (hm' : m ≤ 1000) (hx : -m ≤ x ∧ x ≤ m) (n : Nat) (hn : n ≤ 1000) : Ev (fun k => impl_constantBits.f k m x (n : Int)) (modB m (List.replicate n x) 0) := by
  unfold impl_constantBits.f slices_Repeat_int_int.f
  rw [if_pos (show [x].length = 1 from rfl), if_pos (by omega), if_pos (by omega), Int.toNat_natCast]
  have e : rd [x] 0 = x := aid_rd [x] 0 (by simp)
  rw [e]
  simp only [Option.bind_some]
  exact aid_ev_bind (impl_modulate.ev m hm hm' (List.replicate n x) (by rw [List.length_replicate]; omega) (fun y hy => by rw [List.eq_of_mem_replicate hy]; exact hx)) rfl

theorem cbits_both (m x z : Int) : ∃ (w : List Int) (b : Bool), Ev (fun k => spec_ConstantBits.f k m x z) (w, b) ∧ Ev (fun k => impl_ConstantBits.f k m x z) (w, b) ∧ w.length ≤ 200 := by
  unfold spec_ConstantBits.f impl_ConstantBits.f
  rw [spec_dmNumber.eq, impl_isConstant.eq, impl_in.eq, spec_l1In.eq]
  by_cases h : (1 ≤ m ∧ m ≤ 1000) ∧ (-m ≤ x ∧ x ≤ m)
  · by_cases hz : 0 ≤ z ∧ z ≤ 200
    · obtain ⟨n, rfl⟩ : ∃ n : Nat, z = (n : Int) := ⟨z.toNat, by omega⟩
      rw [decide_eq_true h, decide_eq_true hz]
      simp only [Option.bind_some, if_true]
      refine ⟨modB m (List.replicate n x) 0, true, aid_ev_bind (spec_dmConstant.ev m x h.1.1 h.1.2 h.2 n (by omega)) rfl, aid_ev_bind (impl_constantBits.ev m x h.1.1 h.1.2 h.2 n (by omega)) rfl, ?_⟩
      rw [modB_length, List.length_replicate]
      omega
    · rw [decide_eq_true h, decide_eq_false hz]
      exact ⟨[], false, Ev.now _, Ev.now _, by simp⟩
  · rw [decide_eq_false h]
    exact ⟨[], false, Ev.now _, Ev.now _, by simp⟩
theorem FnExactConstantBits : laws_FnExactConstantBits.Pure := by
  intro m x z _ _ _
  refine Ev.rounds ?_
  unfold laws_FnExactConstantBits.f
  obtain ⟨w, b, hs, hi, hw⟩ := cbits_both m x z
  have hE := laws_eqIntS.refl w (by omega)
  have hM := laws_markIntS.ev w 1 (by omega) (by omega) (by omega)
  have hH := laws_heldIntS.ev w.length 1 (by omega) (by omega) (by omega)
  have hNb : ¬ ((b != b) = true) := by cases b <;> decide
  have hN1 : ¬ (1 + (w.length : Int) < 0) := by omega
  repeat (first
    | exact Ev.now _
    | ((with_reducible refine Ev.bind hs ?_); try dsimp only)
    | ((with_reducible refine Ev.bind hi ?_); try dsimp only)
    | ((with_reducible refine Ev.bind hE ?_); try dsimp only)
    | ((with_reducible refine Ev.bind hM ?_); try dsimp only)
    | ((with_reducible refine Ev.bind hH ?_); try dsimp only)
    | (with_reducible refine Ev.congr (fun k => if_pos rfl) ?_)
    | (with_reducible refine Ev.congr (fun k => if_neg hNb) ?_)
    | (with_reducible refine Ev.congr (fun k => if_neg hN1) ?_)
    | (refine aid_ev_succ ?_; simp only [laws_FnExactConstantBits.j0, laws_FnExactConstantBits.j1]; try dsimp only))

end Go.Proofs.Ytmhmljodeenkmaa.Pure
