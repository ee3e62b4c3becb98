/- Proves that the program's ConstantsOf returns what the reference's returns, for all arguments. Conditions: none. -/
import Derived.Test.YtmhmljodeenkmaaPFnExactConstantsOfx4
namespace Go.Proofs.Ytmhmljodeenkmaa.Pure
open Go.RowKit Go.Proofs.Ytmhmljodeenkmaa.PFnExactConstantsOf Go.Proofs.YtmhmljodeenkmaaW.PrintWords Go.Proofs.YtmhmljodeenkmaaW.PrintLast
set_option linter.unusedSimpArgs false
set_option linter.unusedVariables false

-- Aid
theorem aid_wr {x : Int} (h0 : -9223372036854775808 ≤ x) (h1 : x ≤ 9223372036854775807) : wrap64 x = x := by unfold wrap64; omega
theorem aid_wf {x : Int} (h : (Lit.int .i64 x).wf = true) : -9223372036854775808 ≤ x ∧ x ≤ 9223372036854775807 := by
  have hmin : IntKind.i64.min = -9223372036854775808 := rfl
  have hmax : IntKind.i64.max = 9223372036854775807 := rfl
  simp only [Lit.wf, Bool.and_eq_true, decide_eq_true_eq, hmin, hmax] at h
  exact h
theorem aid_ev_bind {α β : Type} {g : Nat → Option α} {f : α → Option β} {a : α} {r : β} (h : Ev g a) (k : f a = some r) : Ev (fun n => (g n).bind f) r :=
  Ev.bind (f := fun _ => f) h ⟨0, fun _ _ => k⟩
theorem aid_ev_const {α : Type} {o : Option α} {r : α} (h : o = some r) : Ev (fun _ => o) r := ⟨0, fun _ _ => h⟩
theorem aid_tdiv {a b : Int} (ha : 0 ≤ a) : Int.tdiv a b = a / b := Int.tdiv_eq_ediv_of_nonneg ha
theorem aid_tmod {a b : Int} (ha : 0 ≤ a) : Int.tmod a b = a % b := Int.tmod_eq_emod_of_nonneg ha
theorem aid_next {i : Nat} (h : i ≤ 9223372036854775806) : wrap64 ((i : Int) + 1) = ((i + 1 : Nat) : Int) := by rw [aid_wr (by omega) (by omega)]; rfl
theorem aid_rd (l : List Int) (i : Nat) (h : i < l.length) : rd l (i : Int) = l[i] := by
  unfold rd
  rw [List.getD_eq_getElem?_getD, Int.toNat_natCast, List.getElem?_eq_getElem h]
  rfl
theorem aid_ev_succ {α : Type} {g : Nat → Option α} {r : α} (h : Ev (fun k => g (k + 1)) r) : Ev g r := Ev.step (fun _ => rfl) h

-- laws_toIntS
theorem aid_fill (l : List Int) (i d : Nat) (h : i + (d + 1) = l.length) : (l.take i ++ List.replicate (d + 1) 0).set i (rd l i) = l.take (i + 1) ++ List.replicate d 0 := by
  have hi' : i < l.length := by omega
  have hlen : (l.take i).length = i := by rw [List.length_take]; omega
  rw [List.set_append_right _ _ (by omega), hlen, Nat.sub_self, aid_rd l i hi', List.take_succ_eq_append_getElem hi', List.append_assoc]
  rfl
theorem laws_toIntS.l0_ev (l : List Int) (hl : l.length ≤ 1000000000000000) : ∀ (d i : Nat), i + d = l.length → Ev (fun k => laws_toIntS.l0 k l (l.take i ++ List.replicate d 0) (i : Int)) l := by
  intro d
  induction d with
  | zero =>
    intro i h
    refine Ev.step (fun k => ?_) (Ev.now _)
    simp only [laws_toIntS.l0]
    rw [if_neg (by omega), List.take_of_length_le (by omega)]
    simp
  | succ d ih =>
    intro i h
    refine Ev.step (fun k => ?_) (ih (i + 1) (by omega))
    have hlen : (l.take i ++ List.replicate (d + 1) 0).length = l.length := by
      rw [List.length_append, List.length_take, List.length_replicate]; omega
    simp only [laws_toIntS.l0]
    rw [if_pos (by omega), if_pos (by omega), if_pos (by rw [hlen]; omega), aid_next (by omega), Int.toNat_natCast, aid_fill l i d h]
theorem laws_toIntS.ev (l : List Int) (hl : l.length * 8 ≤ 140737488351232) : Ev (fun k => laws_toIntS.f k l) l := by
  unfold laws_toIntS.f
  have h := laws_toIntS.l0_ev l (by omega) l.length 0 (by omega)
  refine Ev.congr (fun k => ?_) h
  rw [if_pos (by omega), if_pos (by omega)]
  simp

-- laws_eqIntS
theorem laws_eqIntS.l0_refl (l : List Int) (hl : l.length ≤ 1000000000000000) : ∀ (d i : Nat), i + d = l.length → Ev (fun k => laws_eqIntS.l0 k l l (i : Int)) true := by
  intro d
  induction d with
  | zero =>
    intro i h
    refine Ev.step (fun k => ?_) (Ev.now _)
    simp only [laws_eqIntS.l0]
    rw [if_neg (by omega)]
  | succ d ih =>
    intro i h
    refine Ev.step (fun k => ?_) (ih (i + 1) (by omega))
    simp only [laws_eqIntS.l0]
    rw [if_pos (by omega), if_pos (by omega), if_pos (by omega), if_pos trivial, aid_next (by omega)]
theorem laws_eqIntS.refl (l : List Int) (hl : l.length ≤ 1000000000000000) : Ev (fun k => laws_eqIntS.f k l l) true := by
  unfold laws_eqIntS.f
  exact Ev.congr (fun k => if_pos rfl) (laws_eqIntS.l0_refl l hl l.length 0 (by omega))

-- Mark
def marksL : Nat → Int → List Int
  | 0, _ => []
  | n + 1, a => marksL n a ++ [a + (n : Int)]
theorem marksL_length (a : Int) : ∀ n, (marksL n a).length = n
  | 0 => rfl
  | n + 1 => by rw [marksL, List.length_append, marksL_length a n]; rfl
theorem marksL_get (a : Int) : ∀ (n i : Nat) (h : i < (marksL n a).length), (marksL n a)[i] = a + (i : Int)
  | n + 1, i, h => by
    have hl := marksL_length a n
    have hl' := marksL_length a (n + 1)
    simp only [marksL]
    by_cases hi : i < n
    · rw [List.getElem_append_left (by omega)]
      exact marksL_get a n i (by omega)
    · have e : i = n := by omega
      subst e
      rw [List.getElem_append_right (by omega)]
      simp

-- laws_markIntS
theorem laws_markIntS.l0_ev (l : List Int) (a : Int) (hl : l.length ≤ 1000000000000000) (h0 : 0 ≤ a) (h1 : a ≤ 1000000000000000) : ∀ (d i : Nat), i + d = l.length → Ev (fun k => laws_markIntS.l0 k (marksL i a ++ l.drop i) (a + (i : Int)) (i : Int)) (a + (l.length : Int), marksL l.length a) := by
  intro d
  induction d with
  | zero =>
    intro i h
    have hlen : (marksL i a ++ l.drop i).length = l.length := by rw [List.length_append, marksL_length, List.length_drop]; omega
    refine Ev.step (f := fun _ => some (a + (l.length : Int), marksL l.length a)) (fun k => ?_) (Ev.now _)
    simp only [laws_markIntS.l0]
    rw [if_neg (by rw [hlen]; omega), List.drop_eq_nil_of_le (by omega), List.append_nil]
    obtain rfl : i = l.length := by omega
    rfl
  | succ d ih =>
    intro i h
    have hi' : i < l.length := by omega
    have hlen : (marksL i a ++ l.drop i).length = l.length := by rw [List.length_append, marksL_length, List.length_drop]; omega
    refine Ev.step (fun k => ?_) (ih (i + 1) (by omega))
    simp only [laws_markIntS.l0]
    have hset : (marksL i a ++ l.drop i).set i (a + (i : Int)) = marksL (i + 1) a ++ l.drop (i + 1) := by
      rw [List.set_append_right _ _ (by rw [marksL_length]; omega), marksL_length, Nat.sub_self, List.drop_eq_getElem_cons hi', marksL, List.append_assoc]
      rfl
    rw [if_pos (by rw [hlen]; omega), if_pos (by omega), Int.toNat_natCast, hset, aid_next (by omega), aid_wr (x := a + (i : Int) + 1) (by omega) (by omega)]
    rw [show a + (i : Int) + 1 = a + ((i + 1 : Nat) : Int) by omega]
theorem laws_markIntS.ev (l : List Int) (a : Int) (hl : l.length ≤ 1000000000000000) (h0 : 0 ≤ a) (h1 : a ≤ 1000000000000000) : Ev (fun k => laws_markIntS.f k l a) (a + (l.length : Int), marksL l.length a) := by
  have h := laws_markIntS.l0_ev l a hl h0 h1 l.length 0 (by omega)
  simp only [marksL, List.nil_append, List.drop_zero] at h
  unfold laws_markIntS.f
  simpa using h

-- laws_heldIntS
theorem laws_heldIntS.l0_ev (n : Nat) (a : Int) (hl : n ≤ 1000000000000000) (h0 : 0 ≤ a) (h1 : a ≤ 1000000000000000) : ∀ (d i : Nat), i + d = n → Ev (fun k => laws_heldIntS.l0 k (marksL n a) (a + (i : Int)) (i : Int)) (a + (n : Int)) := by
  have hlen := marksL_length a n
  intro d
  induction d with
  | zero =>
    intro i h
    refine Ev.step (f := fun _ => some (a + (n : Int))) (fun k => ?_) (Ev.now _)
    simp only [laws_heldIntS.l0]
    rw [if_neg (by rw [hlen]; omega)]
    obtain rfl : i = n := by omega
    rfl
  | succ d ih =>
    intro i h
    refine Ev.step (fun k => ?_) (ih (i + 1) (by omega))
    simp only [laws_heldIntS.l0]
    rw [if_pos (by rw [hlen]; omega), if_pos (by omega), aid_rd _ i (by omega), marksL_get, if_pos rfl, aid_next (by omega), aid_wr (x := a + (i : Int) + 1) (by omega) (by omega)]
    rw [show a + (i : Int) + 1 = a + ((i + 1 : Nat) : Int) by omega]
theorem laws_heldIntS.ev (n : Nat) (a : Int) (hl : n ≤ 1000000000000000) (h0 : 0 ≤ a) (h1 : a ≤ 1000000000000000) : Ev (fun k => laws_heldIntS.f k (marksL n a) a) (a + (n : Int)) := by
  have h := laws_heldIntS.l0_ev n a hl h0 h1 n 0 (by omega)
  unfold laws_heldIntS.f
  simpa using h

-- Bits
def bitsB (l : List Int) : Bool := decide (l.length ≤ 200) && l.all fun x => decide (x = 1 ∨ x = -1)
theorem bitsB_iff (l : List Int) : bitsB l = true ↔ l.length ≤ 200 ∧ ∀ x ∈ l, x = 1 ∨ x = -1 := by
  simp [bitsB]

-- spec_dmBits
theorem spec_dmBits.l0_ev (l : List Int) (hl : l.length ≤ 200) : ∀ (d i : Nat), i + d = l.length → Ev (fun k => spec_dmBits.l0 k l (l.length : Int) (i : Int)) ((l.drop i).all fun x => decide (x = 1 ∨ x = -1)) := by
  intro d
  induction d with
  | zero =>
    intro i h
    rw [List.drop_eq_nil_of_le (by omega)]
    refine Ev.step (fun k => ?_) (Ev.now _)
    simp only [spec_dmBits.l0]
    rw [if_neg (by omega)]
    rfl
  | succ d ih =>
    intro i h
    have hi' : i < l.length := by omega
    rw [List.drop_eq_getElem_cons hi', List.all_cons, ← aid_rd l i hi']
    by_cases hc : rd l i = 1
    · refine Ev.step (fun k => ?_) (by simpa [hc] using ih (i + 1) (by omega))
      simp only [spec_dmBits.l0]
      rw [if_pos (by omega), if_pos (by omega), if_pos (by omega), if_pos hc, aid_next (by omega)]
      rfl
    · by_cases hc' : rd l i = -1
      · refine Ev.step (fun k => ?_) (by simpa [hc'] using ih (i + 1) (by omega))
        simp only [spec_dmBits.l0]
        rw [if_pos (by omega), if_pos (by omega), if_pos (by omega), if_neg hc, if_pos hc', aid_next (by omega)]
        rfl
      · refine Ev.step (f := fun _ => some false) (fun k => ?_) (by simpa [hc, hc'] using Ev.now false)
        simp only [spec_dmBits.l0]
        rw [if_pos (by omega), if_pos (by omega), if_pos (by omega), if_neg hc, if_neg hc']
theorem spec_dmBits.ev (l : List Int) : Ev (fun k => spec_dmBits.f k l) (bitsB l) := by
  unfold spec_dmBits.f bitsB
  by_cases h : l.length ≤ 200
  · simp only [h, decide_true, Bool.true_and]
    exact Ev.congr (fun k => if_neg (by omega)) (spec_dmBits.l0_ev l h l.length 0 (by omega))
  · simp only [h, decide_false, Bool.false_and]
    exact Ev.congr (fun k => if_pos (by omega)) (Ev.now _)

-- Modu
def bitI (y : Int) : Int := if y ≥ 0 then 1 else -1
def modB (m : Int) : List Int → Int → List Int
  | [], _ => []
  | x :: r, s => bitI (s + x) :: modB m r (s + x - m * bitI (s + x))
def modS (m : Int) : List Int → Int → List Int
  | [], _ => []
  | x :: r, s => (s + x - m * bitI (s + x)) :: modS m r (s + x - m * bitI (s + x))
theorem modB_length (m : Int) : ∀ (l : List Int) (s : Int), (modB m l s).length = l.length
  | [], _ => rfl
  | x :: r, s => by simp [modB, modB_length m r]
theorem modS_length (m : Int) : ∀ (l : List Int) (s : Int), (modS m l s).length = l.length
  | [], _ => rfl
  | x :: r, s => by simp [modS, modS_length m r]
theorem modB_bits (m : Int) : ∀ (l : List Int) (s : Int), ∀ b ∈ modB m l s, b = 1 ∨ b = -1
  | x :: r, s, b, h => by
    rcases List.mem_cons.1 h with h | h
    · rw [h]
      unfold bitI
      split <;> simp
    · exact modB_bits m r _ b h
theorem mod_state {m s x : Int} (hm : 1 ≤ m) (hx : -m ≤ x ∧ x ≤ m) (hs : -m ≤ s ∧ s < m) : -m ≤ s + x - m * bitI (s + x) ∧ s + x - m * bitI (s + x) < m := by
  unfold bitI
  split <;> omega

-- spec_dmOne
theorem spec_dmOne.l0_ev (m : Int) (hm : 1 ≤ m) (hm' : m ≤ 1000) (l : List Int) (hl : l.length ≤ 1000000) (hx : ∀ x ∈ l, -m ≤ x ∧ x ≤ m) : ∀ (d i : Nat) (bs ss : List Int) (s : Int), i + d = l.length → bs.length = i → ss.length = i → -m ≤ s ∧ s < m →
    Ev (fun k => spec_dmOne.l0 k m bs ss s l (l.length : Int) (i : Int)) (bs ++ modB m (l.drop i) s, ss ++ modS m (l.drop i) s) := by
  intro d
  induction d with
  | zero =>
    intro i bs ss s hi hb hs hst
    rw [List.drop_eq_nil_of_le (by omega)]
    refine Ev.step (f := fun _ => some (bs ++ modB m [] s, ss ++ modS m [] s)) (fun k => ?_) (Ev.now _)
    simp only [spec_dmOne.l0]
    rw [if_neg (by omega)]
    simp [modB, modS]
  | succ d ih =>
    intro i bs ss s hi hb hs hst
    have hi' : i < l.length := by omega
    have hxi := hx l[i] (List.getElem_mem hi')
    have hst' := mod_state hm hxi hst
    have hz := ih (i + 1) (bs ++ [bitI (s + l[i])]) (ss ++ [s + l[i] - m * bitI (s + l[i])]) (s + l[i] - m * bitI (s + l[i])) (by omega) (by simp [hb]) (by simp [hs]) hst'
    rw [List.drop_eq_getElem_cons hi', modB, modS]
    rw [List.append_assoc, List.append_assoc] at hz
    refine Ev.step (fun k => ?_) hz
    simp only [spec_dmOne.l0]
    rw [if_pos (by omega), if_pos (by omega), if_pos (by omega), aid_rd l i hi', aid_wr (x := s + l[i]) (by omega) (by omega), aid_next (by omega)]
    by_cases hc : s + l[i] ≥ 0
    · have e : bitI (s + l[i]) = 1 := if_pos hc
      rw [e, Int.mul_one] at hst' ⊢
      rw [if_pos hc, if_pos (by omega), if_pos (by omega), aid_wr (x := m) (by omega) (by omega), aid_wr (x := s + l[i] - m) (by omega) (by omega)]
    · have e : bitI (s + l[i]) = -1 := if_neg hc
      have em : m * -1 = -m := by omega
      rw [e, em] at hst' ⊢
      rw [if_neg hc, if_pos (by omega), if_pos (by omega), aid_wr (x := -m) (by omega) (by omega), aid_wr (x := s + l[i] - -m) (by omega) (by omega)]
theorem spec_dmOne.ev (m : Int) (hm : 1 ≤ m) (hm' : m ≤ 1000) (l : List Int) (hl : l.length ≤ 1000000) (hx : ∀ x ∈ l, -m ≤ x ∧ x ≤ m) : Ev (fun k => spec_dmOne.f k m l) (modB m l 0, modS m l 0) :=
  spec_dmOne.l0_ev m hm hm' l hl hx l.length 0 [] [] 0 (by omega) rfl rfl (by omega)

-- spec_dmConstant
theorem spec_dmConstant.l0_ev (m x : Int) (hm : 1 ≤ m) (hm' : m ≤ 1000) (hx : -m ≤ x ∧ x ≤ m) (n : Nat) (hn : n ≤ 1000) : ∀ (d i : Nat), i + d = n →
    Ev (fun k => spec_dmConstant.l0 k m x (List.replicate i x ++ List.replicate d 0) (n : Int) (i : Int)) (modB m (List.replicate n x) 0) := by
  intro d
  induction d with
  | zero =>
    intro i hi
    have e : i = n := by omega
    subst e
    rw [List.replicate_zero, List.append_nil]
    have h := spec_dmOne.ev m hm hm' (List.replicate i x) (by rw [List.length_replicate]; omega) (fun y hy => by rw [List.eq_of_mem_replicate hy]; exact hx)
    refine Ev.step (f := fun k => (spec_dmOne.f k m (List.replicate i x)).bind fun bt125 => some bt125.1) (fun k => ?_) (aid_ev_bind h rfl)
    simp only [spec_dmConstant.l0]
    rw [if_neg (by omega)]
  | succ d ih =>
    intro i hi
    refine Ev.step (fun k => ?_) (ih (i + 1) (by omega))
    have hl : ((List.replicate i x ++ List.replicate (d + 1) 0).length : Int) = (n : Int) := by
      rw [List.length_append, List.length_replicate, List.length_replicate]
      omega
    simp only [spec_dmConstant.l0]
    rw [if_pos (by omega), if_pos (by omega), if_pos (by omega), aid_next (by omega), Int.toNat_natCast]
    have e : (List.replicate i x ++ List.replicate (d + 1) 0).set i x = List.replicate (i + 1) x ++ List.replicate d 0 := by
      rw [List.set_append_right _ _ (by rw [List.length_replicate]; omega), List.length_replicate, Nat.sub_self, List.replicate_succ, List.set_cons_zero, List.replicate_succ', List.append_assoc]
      rfl
    rw [e]
theorem spec_dmConstant.ev (m x : Int) (hm : 1 ≤ m) (hm' : m ≤ 1000) (hx : -m ≤ x ∧ x ≤ m) (n : Nat) (hn : n ≤ 1000) : Ev (fun k => spec_dmConstant.f k m x (n : Int)) (modB m (List.replicate n x) 0) := by
  unfold spec_dmConstant.f
  refine Ev.congr (fun k => if_pos (by omega)) ?_
  refine Ev.congr (fun k => if_pos (by omega)) ?_
  rw [Int.toNat_natCast]
  have h := spec_dmConstant.l0_ev m x hm hm' hx n hn n 0 (by omega)
  rw [List.replicate_zero, List.nil_append] at h
  simpa using h

-- spec_l1In
theorem spec_l1In.eq (a lo hi : Int) : spec_l1In.f a lo hi = some (decide (lo ≤ a ∧ a ≤ hi)) := by
  unfold spec_l1In.f
  by_cases h : lo ≤ a <;> simp [h]

-- spec_dmScale
theorem spec_dmScale.eq (m : Int) : spec_dmScale.f m = some (decide (1 ≤ m ∧ m ≤ 1000)) := by
  unfold spec_dmScale.f
  rw [spec_l1In.eq]
  rfl

-- spec_weSame
theorem spec_weSame.l0_ev (l m : List Int) (he : l.length = m.length) (hl : l.length ≤ 1000000) : ∀ (d i : Nat), i + d = l.length → Ev (fun k => spec_weSame.l0 k l m (l.length : Int) (i : Int)) (decide (l.drop i = m.drop i)) := by
  intro d
  induction d with
  | zero =>
    intro i h
    rw [List.drop_eq_nil_of_le (by omega), List.drop_eq_nil_of_le (by omega)]
    refine Ev.step (fun k => ?_) (Ev.now _)
    simp only [spec_weSame.l0]
    rw [if_neg (by omega)]
    rfl
  | succ d ih =>
    intro i h
    have hi : i < l.length := by omega
    have hm : i < m.length := by omega
    have hdl := List.drop_eq_getElem_cons hi
    have hdm := List.drop_eq_getElem_cons hm
    by_cases hc : l[i] = m[i]
    · refine Ev.step (fun k => ?_) (r := decide (l.drop i = m.drop i)) (by
        have e : decide (l.drop i = m.drop i) = decide (l.drop (i + 1) = m.drop (i + 1)) := by
          rw [Bool.eq_iff_iff, decide_eq_true_eq, decide_eq_true_eq, hdl, hdm, hc]
          exact ⟨fun h => (List.cons.inj h).2, fun h => by rw [h]⟩
        rw [e]
        exact ih (i + 1) (by omega))
      simp only [spec_weSame.l0]
      rw [if_pos (by omega), if_pos (by omega), if_pos (by omega), if_pos (by omega), aid_rd l i hi, aid_rd m i hm, if_pos hc, aid_next (by omega)]
    · refine Ev.step (f := fun _ => some false) (fun k => ?_) (r := decide (l.drop i = m.drop i)) (by
        have e : decide (l.drop i = m.drop i) = false := by
          rw [decide_eq_false_iff_not, hdl, hdm]
          exact fun h => hc (List.cons.inj h).1
        rw [e]
        exact Ev.now _)
      simp only [spec_weSame.l0]
      rw [if_pos (by omega), if_pos (by omega), if_pos (by omega), if_pos (by omega), aid_rd l i hi, aid_rd m i hm, if_neg hc]
theorem spec_weSame.ev (l m : List Int) (hl : l.length ≤ 1000000) : Ev (fun k => spec_weSame.f k l m) (decide (l = m)) := by
  unfold spec_weSame.f
  by_cases h : l.length = m.length
  · refine Ev.congr (fun k => if_pos (by omega)) ?_
    exact spec_weSame.l0_ev l m h hl l.length 0 (by omega)
  · have e : decide (l = m) = false := decide_eq_false (fun e => h (by rw [e]))
    rw [e]
    exact Ev.congr (fun k => if_neg (by omega)) (Ev.now _)

-- impl_areBits
theorem impl_areBits.eq (l : List Int) : impl_areBits.f l = some (bitsB l) := by
  unfold impl_areBits.f bitsB
  have e1 : decide ((l.length : Int) ≤ 200) = decide (l.length ≤ 200) := by
    rw [Bool.eq_iff_iff]; simp; omega
  have e2 : (!(l.any fun x => decide (¬ x = 1) && decide (¬ x = -1))) = l.all fun x => decide (x = 1 ∨ x = -1) := by
    rw [List.not_any_eq_all_not]
    congr 1
    funext x
    rw [Bool.eq_iff_iff]
    simp
  rw [e1, e2]

-- impl_in
theorem impl_in.eq (a lo hi : Int) : impl_in.f a lo hi = some (decide (lo ≤ a ∧ a ≤ hi)) := by
  unfold impl_in.f
  by_cases h : lo ≤ a <;> simp [h]

-- impl_bitOf
theorem impl_bitOf.eq (y : Int) : impl_bitOf.f y = some (bitI y) := by
  unfold impl_bitOf.f bitI
  split <;> rfl

-- impl_modulate
theorem impl_modulate.l0_ev (m : Int) (hm : 1 ≤ m) (hm' : m ≤ 1000) (l : List Int) (hl : l.length ≤ 1000000) (hx : ∀ x ∈ l, -m ≤ x ∧ x ≤ m) : ∀ (d i : Nat) (bs ss : List Int) (s : Int), i + d = l.length → bs.length = i → ss.length = i → -m ≤ s ∧ s < m →
    Ev (fun k => impl_modulate.l0 k m bs ss s l (l.length : Int) (i : Int)) (bs ++ modB m (l.drop i) s, ss ++ modS m (l.drop i) s) := by
  intro d
  induction d with
  | zero =>
    intro i bs ss s hi hb hs hst
    rw [List.drop_eq_nil_of_le (by omega)]
    refine Ev.step (f := fun _ => some (bs ++ modB m [] s, ss ++ modS m [] s)) (fun k => ?_) (Ev.now _)
    simp only [impl_modulate.l0]
    rw [if_neg (by omega)]
    simp [modB, modS]
  | succ d ih =>
    intro i bs ss s hi hb hs hst
    have hi' : i < l.length := by omega
    have hxi := hx l[i] (List.getElem_mem hi')
    have hst' := mod_state hm hxi hst
    have hz := ih (i + 1) (bs ++ [bitI (s + l[i])]) (ss ++ [s + l[i] - m * bitI (s + l[i])]) (s + l[i] - m * bitI (s + l[i])) (by omega) (by simp [hb]) (by simp [hs]) hst'
    rw [List.drop_eq_getElem_cons hi', modB, modS]
    rw [List.append_assoc, List.append_assoc] at hz
    refine Ev.step (fun k => ?_) hz
    simp only [impl_modulate.l0]
    rw [if_pos (by omega), if_pos (by omega), if_pos (by omega), aid_rd l i hi', aid_wr (x := s + l[i]) (by omega) (by omega), aid_next (by omega)]
    have hw : wrap64 (m * bitI (s + l[i])) = m * bitI (s + l[i]) := by
      unfold bitI
      split
      · rw [Int.mul_one]
        exact aid_wr (by omega) (by omega)
      · rw [show m * -1 = -m by omega]
        exact aid_wr (by omega) (by omega)
    rw [impl_bitOf.eq]
    simp only [Option.bind_some]
    rw [hw]
    clear hw
    rw [if_pos (by omega), if_pos (by omega), aid_wr (x := s + l[i] - m * bitI (s + l[i])) (by omega) (by omega)]
theorem impl_modulate.ev (m : Int) (hm : 1 ≤ m) (hm' : m ≤ 1000) (l : List Int) (hl : l.length ≤ 1000000) (hx : ∀ x ∈ l, -m ≤ x ∧ x ≤ m) : Ev (fun k => impl_modulate.f k m l) (modB m l 0, modS m l 0) :=
  impl_modulate.l0_ev m hm hm' l hl hx l.length 0 [] [] 0 (by omega) rfl rfl (by omega)

-- impl_constantBits
theorem impl_constantBits.ev (m x : Int) (hm : 1 ≤ m) (hm' : m ≤ 1000) (hx : -m ≤ x ∧ x ≤ m) (n : Nat) (hn : n ≤ 1000) : Ev (fun k => impl_constantBits.f k m x (n : Int)) (modB m (List.replicate n x) 0) := by
  unfold impl_constantBits.f slices_Repeat_int_int.f
  rw [if_pos (show [x].length = 1 from rfl), if_pos (by omega), if_pos (by omega), Int.toNat_natCast]
  have e : rd [x] 0 = x := aid_rd [x] 0 (by simp)
  rw [e]
  simp only [Option.bind_some]
  exact aid_ev_bind (impl_modulate.ev m hm hm' (List.replicate n x) (by rw [List.length_replicate]; omega) (fun y hy => by rw [List.eq_of_mem_replicate hy]; exact hx)) rfl

-- slices_Equal_int_int
theorem slices_Equal_int_int.l0_ev (l m : List Int) (he : l.length = m.length) (hl : l.length ≤ 1000000) : ∀ (d i : Nat), i + d = l.length → Ev (fun k => slices_Equal_int_int.l0 k l m (l.length : Int) (i : Int)) (decide (l.drop i = m.drop i)) := by
  intro d
  induction d with
  | zero =>
    intro i h
    rw [List.drop_eq_nil_of_le (by omega), List.drop_eq_nil_of_le (by omega)]
    refine Ev.step (fun k => ?_) (Ev.now _)
    simp only [slices_Equal_int_int.l0]
    rw [if_neg (by omega)]
    rfl
  | succ d ih =>
    intro i h
    have hi : i < l.length := by omega
    have hm : i < m.length := by omega
    have hdl := List.drop_eq_getElem_cons hi
    have hdm := List.drop_eq_getElem_cons hm
    by_cases hc : l[i] = m[i]
    · refine Ev.step (fun k => ?_) (r := decide (l.drop i = m.drop i)) (by
        have e : decide (l.drop i = m.drop i) = decide (l.drop (i + 1) = m.drop (i + 1)) := by
          rw [Bool.eq_iff_iff, decide_eq_true_eq, decide_eq_true_eq, hdl, hdm, hc]
          exact ⟨fun h => (List.cons.inj h).2, fun h => by rw [h]⟩
        rw [e]
        exact ih (i + 1) (by omega))
      simp only [slices_Equal_int_int.l0]
      rw [if_pos (by omega), if_pos (by omega), if_pos (by omega), if_pos (by omega), aid_rd l i hi, aid_rd m i hm, if_pos hc, aid_next (by omega)]
    · refine Ev.step (f := fun _ => some false) (fun k => ?_) (r := decide (l.drop i = m.drop i)) (by
        have e : decide (l.drop i = m.drop i) = false := by
          rw [decide_eq_false_iff_not, hdl, hdm]
          exact fun h => hc (List.cons.inj h).1
        rw [e]
        exact Ev.now _)
      simp only [slices_Equal_int_int.l0]
      rw [if_pos (by omega), if_pos (by omega), if_pos (by omega), if_pos (by omega), aid_rd l i hi, aid_rd m i hm, if_neg hc]
theorem slices_Equal_int_int.ev (l m : List Int) (hl : l.length ≤ 1000000) : Ev (fun k => slices_Equal_int_int.f k l m) (decide (l = m)) := by
  unfold slices_Equal_int_int.f
  by_cases h : l.length = m.length
  · refine Ev.congr (fun k => if_pos (by omega)) ?_
    exact slices_Equal_int_int.l0_ev l m h hl l.length 0 (by omega)
  · have e : decide (l = m) = false := decide_eq_false (fun e => h (by rw [e]))
    rw [e]
    exact Ev.congr (fun k => if_neg (by omega)) (Ev.now _)

theorem cof_l0 (m : Int) (hm : 1 ≤ m ∧ m ≤ 1000) (l : List Int) (hl : l.length ≤ 200) : ∀ (d : Nat) (x : Int) (o : List Int), x + (d : Int) = m + 1 → -m ≤ x → (o.length : Int) ≤ x + m →
    ∃ r : List Int, Ev (fun k => spec_ConstantsOf.l0 k m l o x) (r, true) ∧ Ev (fun k => impl_ConstantsOf.l0 k m l o x) (r, true) ∧ r.length ≤ 2001 := by
  intro d
  induction d with
  | zero =>
    intro x o hx hx0 ho
    refine ⟨o, Ev.step (f := fun _ => some (o, true)) (fun k => ?_) (Ev.now _), Ev.step (f := fun _ => some (o, true)) (fun k => ?_) (Ev.now _), by omega⟩
    · simp only [spec_ConstantsOf.l0]
      rw [if_neg (by omega)]
    · simp only [impl_ConstantsOf.l0]
      rw [if_neg (by omega)]
  | succ d ih =>
    intro x o hx hx0 ho
    have hs := spec_dmConstant.ev m x hm.1 hm.2 ⟨hx0, by omega⟩ l.length (by omega)
    have hi := impl_constantBits.ev m x hm.1 hm.2 ⟨hx0, by omega⟩ l.length (by omega)
    have hlen : (modB m (List.replicate l.length x) 0).length ≤ 1000000 := by
      rw [modB_length, List.length_replicate]
      omega
    have hw : wrap64 (x + 1) = x + 1 := aid_wr (by omega) (by omega)
    have HW := Aside0.mk hw
    clear hw
    have hss := spec_weSame.ev (modB m (List.replicate l.length x) 0) l hlen
    have his := slices_Equal_int_int.ev (modB m (List.replicate l.length x) 0) l hlen
    by_cases hc : modB m (List.replicate l.length x) 0 = l
    · rw [decide_eq_true hc] at hss his
      obtain ⟨r, h1, h2, h3⟩ := ih (x + 1) (o ++ [x]) (by omega) (by omega) (by rw [List.length_append, List.length_singleton]; omega)
      refine ⟨r, aid_ev_succ ?_, aid_ev_succ ?_, h3⟩
      · simp only [spec_ConstantsOf.l0, HW.out]
        refine Ev.congr (fun k => if_pos (by omega)) ?_
        refine Ev.bind hs ?_
        refine Ev.bind hss ?_
        refine Ev.congr (fun k => if_pos rfl) ?_
        exact Ev.congr (fun k => if_pos (by omega)) h1
      · simp only [impl_ConstantsOf.l0, HW.out]
        refine Ev.congr (fun k => if_pos (by omega)) ?_
        refine Ev.bind hi ?_
        refine Ev.bind his ?_
        refine Ev.congr (fun k => if_pos rfl) ?_
        exact Ev.congr (fun k => if_pos (by omega)) h2
    · rw [decide_eq_false hc] at hss his
      obtain ⟨r, h1, h2, h3⟩ := ih (x + 1) o (by omega) (by omega) (by omega)
      refine ⟨r, aid_ev_succ ?_, aid_ev_succ ?_, h3⟩
      · simp only [spec_ConstantsOf.l0, HW.out]
        refine Ev.congr (fun k => if_pos (by omega)) ?_
        refine Ev.bind hs ?_
        refine Ev.bind hss ?_
        exact Ev.congr (fun k => if_neg (by decide)) h1
      · simp only [impl_ConstantsOf.l0, HW.out]
        refine Ev.congr (fun k => if_pos (by omega)) ?_
        refine Ev.bind hi ?_
        refine Ev.bind his ?_
        exact Ev.congr (fun k => if_neg (by decide)) h2
theorem cof_both (m : Int) (l : List Int) : ∃ (w : List Int) (b : Bool), Ev (fun k => spec_ConstantsOf.f k m l) (w, b) ∧ Ev (fun k => impl_ConstantsOf.f k m l) (w, b) ∧ w.length ≤ 2001 := by
  unfold spec_ConstantsOf.f impl_ConstantsOf.f
  rw [spec_dmScale.eq, impl_in.eq, impl_areBits.eq]
  have hb := spec_dmBits.ev l
  have hs : Ev (fun k => spec_ConstantsOf.j0 k m l true) (([] : List Int), false) := by
    refine aid_ev_succ ?_
    simp only [spec_ConstantsOf.j0]
    exact Ev.now _
  have hi : Ev (fun k => impl_ConstantsOf.j0 k m l true) (([] : List Int), false) := by
    refine aid_ev_succ ?_
    simp only [impl_ConstantsOf.j0]
    exact Ev.now _
  by_cases h : 1 ≤ m ∧ m ≤ 1000
  · rw [decide_eq_true h]
    simp only [Option.bind_some, if_true]
    cases hB : bitsB l with
    | false =>
      rw [hB] at hb
      exact ⟨[], false, Ev.bind hb hs, hi, by simp⟩
    | true =>
      rw [hB] at hb
      obtain ⟨hl, hx⟩ := (bitsB_iff l).1 hB
      obtain ⟨r, h1, h2, h3⟩ := cof_l0 m h l hl (2 * m + 1).toNat (-m) [] (by omega) (by omega) (by simp; omega)
      have hw : wrap64 (-m) = -m := aid_wr (by omega) (by omega)
      refine ⟨r, true, Ev.bind hb ?_, ?_, h3⟩
      · refine aid_ev_succ ?_
        simp only [spec_ConstantsOf.j0, hw]
        exact h1
      · refine aid_ev_succ ?_
        simp only [impl_ConstantsOf.j0, hw]
        exact h2
  · rw [decide_eq_false h]
    exact ⟨[], false, hs, hi, by simp⟩
theorem FnExactConstantsOf : laws_FnExactConstantsOf.Pure := by
  intro m l _ _ h8 _
  refine Ev.rounds ?_
  unfold laws_FnExactConstantsOf.f
  by_cases hb : (l.length : Int) > 1048576
  · exact Ev.congr (fun k => if_pos hb) (Ev.now _)
  refine Ev.congr (fun k => if_neg hb) ?_
  have hT := laws_toIntS.ev l h8
  obtain ⟨w, b, hs, hi, hw⟩ := cof_both m l
  try dsimp only at hw
  have hE := laws_eqIntS.refl w (by omega)
  have hEl := laws_eqIntS.refl l (by omega)
  have hM := laws_markIntS.ev w 1 (by omega) (by omega) (by omega)
  have hMl := laws_markIntS.ev l 1 (by omega) (by omega) (by omega)
  have hH := laws_heldIntS.ev w.length 1 (by omega) (by omega) (by omega)
  have hNb : ¬ ((b != b) = true) := by cases b <;> decide
  have hN1 : ¬ (1 + (w.length : Int) < 0) := by omega
  have hN2 : ¬ (1 + (l.length : Int) < 0) := by omega
  repeat (first
    | exact Ev.now _
    | ((with_reducible refine Ev.bind hT ?_); try dsimp only)
    | ((with_reducible refine Ev.bind hs ?_); try dsimp only)
    | ((with_reducible refine Ev.bind hi ?_); try dsimp only)
    | ((with_reducible refine Ev.bind hE ?_); try dsimp only)
    | ((with_reducible refine Ev.bind hEl ?_); try dsimp only)
    | ((with_reducible refine Ev.bind hM ?_); try dsimp only)
    | ((with_reducible refine Ev.bind hMl ?_); try dsimp only)
    | ((with_reducible refine Ev.bind hH ?_); try dsimp only)
    | (with_reducible refine Ev.congr (fun k => if_pos rfl) ?_)
    | (with_reducible refine Ev.congr (fun k => if_neg hNb) ?_)
    | (with_reducible refine Ev.congr (fun k => if_neg hN1) ?_)
    | (with_reducible refine Ev.congr (fun k => if_neg hN2) ?_)
    | (refine aid_ev_succ ?_; simp only [laws_FnExactConstantsOf.j0, laws_FnExactConstantsOf.j1, laws_FnExactConstantsOf.j2]; try dsimp only))

end Go.Proofs.Ytmhmljodeenkmaa.Pure
