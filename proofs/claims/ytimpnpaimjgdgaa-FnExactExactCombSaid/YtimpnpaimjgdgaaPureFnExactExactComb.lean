/- Proves that the program's ExactComb returns what the reference's returns, for all arguments. Conditions: none. -/
import Derived.Test.YtimpnpaimjgdgaaPFnExactExactCombx4
namespace Go.Proofs.Ytimpnpaimjgdgaa.Pure
open Go.RowKit Go.Proofs.Ytimpnpaimjgdgaa.PFnExactExactComb Go.Proofs.YtimpnpaimjgdgaaW.PrintWords Go.Proofs.YtimpnpaimjgdgaaW.PrintLast
set_option linter.unusedSimpArgs false
set_option linter.unusedVariables false

-- Aid
theorem aid_wr {x : Int} (h0 : -9223372036854775808 ≤ x) (h1 : x ≤ 9223372036854775807) : wrap64 x = x := by unfold wrap64; omega
theorem aid_wf {x : Int} (h : (Lit.int .i64 x).wf = true) : -9223372036854775808 ≤ x ∧ x ≤ 9223372036854775807 := by
  have hmin : IntKind.i64.min = -9223372036854775808 := rfl
  have hmax : IntKind.i64.max = 9223372036854775807 := rfl
  simp only [Lit.wf, Bool.and_eq_true, decide_eq_true_eq, hmin, hmax] at h
  exact h
theorem aid_ev_bind {α β : Type} {g : Nat → Option α} {f : α → Option β} {a : α} {r : β} (h : Ev g a) (k : f a = some r) : Ev (fun n => (g n).bind f) r :=
  Ev.bind (f := fun _ => f) h ⟨0, fun _ _ => k⟩
theorem aid_ev_const {α : Type} {o : Option α} {r : α} (h : o = some r) : Ev (fun _ => o) r := ⟨0, fun _ _ => h⟩
theorem aid_tdiv {a b : Int} (ha : 0 ≤ a) : Int.tdiv a b = a / b := Int.tdiv_eq_ediv_of_nonneg ha
theorem aid_tmod {a b : Int} (ha : 0 ≤ a) : Int.tmod a b = a % b := Int.tmod_eq_emod_of_nonneg ha
theorem aid_next {i : Nat} (h : i ≤ 9223372036854775806) : wrap64 ((i : Int) + 1) = ((i + 1 : Nat) : Int) := by rw [aid_wr (by omega) (by omega)]; rfl
theorem aid_rd (l : List Int) (i : Nat) (h : i < l.length) : rd l (i : Int) = l[i] := by
  unfold rd
  rw [List.getD_eq_getElem?_getD, Int.toNat_natCast, List.getElem?_eq_getElem h]
  rfl
theorem aid_ev_succ {α : Type} {g : Nat → Option α} {r : α} (h : Ev (fun k => g (k + 1)) r) : Ev g r := Ev.step (fun _ => rfl) h

-- laws_toIntS
theorem aid_fill (l : List Int) (i d : Nat) (h : i + (d + 1) = l.length) : (l.take i ++ List.replicate (d + 1) 0).set i (rd l i) = l.take (i + 1) ++ List.replicate d 0 := by
  have hi' : i < l.length := by omega
  have hlen : (l.take i).length = i := by rw [List.length_take]; omega
  rw [List.set_append_right _ _ (by omega), hlen, Nat.sub_self, aid_rd l i hi', List.take_succ_eq_append_getElem hi', List.append_assoc]
  rfl
theorem laws_toIntS.l0_ev (l : List Int) (hl : l.length ≤ 1000000000000000) : ∀ (d i : Nat), i + d = l.length → Ev (fun k => laws_toIntS.l0 k l (l.take i ++ List.replicate d 0) (i : Int)) l := by
  intro d
  induction d with
  | zero =>
    intro i h
    refine Ev.step (fun k => ?_) (Ev.now _)
    simp only [laws_toIntS.l0]
    rw [if_neg (by omega), List.take_of_length_le (by omega)]
    simp
  | succ d ih =>
    intro i h
    refine Ev.step (fun k => ?_) (ih (i + 1) (by omega))
    have hlen : (l.take i ++ List.replicate (d + 1) 0).length = l.length := by
      rw [List.length_append, List.length_take, List.length_replicate]; omega
    simp only [laws_toIntS.l0]
    rw [if_pos (by omega), if_pos (by omega), if_pos (by rw [hlen]; omega), aid_next (by omega), Int.toNat_natCast, aid_fill l i d h]
theorem laws_toIntS.ev (l : List Int) (hl : l.length * 8 ≤ 140737488351232) : Ev (fun k => laws_toIntS.f k l) l := by
  unfold laws_toIntS.f
  have h := laws_toIntS.l0_ev l (by omega) l.length 0 (by omega)
  refine Ev.congr (fun k => ?_) h
  rw [if_pos (by omega), if_pos (by omega)]
  simp

-- laws_eqIntS
theorem laws_eqIntS.l0_refl (l : List Int) (hl : l.length ≤ 1000000000000000) : ∀ (d i : Nat), i + d = l.length → Ev (fun k => laws_eqIntS.l0 k l l (i : Int)) true := by
  intro d
  induction d with
  | zero =>
    intro i h
    refine Ev.step (fun k => ?_) (Ev.now _)
    simp only [laws_eqIntS.l0]
    rw [if_neg (by omega)]
  | succ d ih =>
    intro i h
    refine Ev.step (fun k => ?_) (ih (i + 1) (by omega))
    simp only [laws_eqIntS.l0]
    rw [if_pos (by omega), if_pos (by omega), if_pos (by omega), if_pos trivial, aid_next (by omega)]
theorem laws_eqIntS.refl (l : List Int) (hl : l.length ≤ 1000000000000000) : Ev (fun k => laws_eqIntS.f k l l) true := by
  unfold laws_eqIntS.f
  exact Ev.congr (fun k => if_pos rfl) (laws_eqIntS.l0_refl l hl l.length 0 (by omega))

-- Mark
def marksL : Nat → Int → List Int
  | 0, _ => []
  | n + 1, a => marksL n a ++ [a + (n : Int)]
theorem marksL_length (a : Int) : ∀ n, (marksL n a).length = n
  | 0 => rfl
  | n + 1 => by rw [marksL, List.length_append, marksL_length a n]; rfl
theorem marksL_get (a : Int) : ∀ (n i : Nat) (h : i < (marksL n a).length), (marksL n a)[i] = a + (i : Int)
  | n + 1, i, h => by
    have hl := marksL_length a n
    have hl' := marksL_length a (n + 1)
    simp only [marksL]
    by_cases hi : i < n
    · rw [List.getElem_append_left (by omega)]
      exact marksL_get a n i (by omega)
    · have e : i = n := by omega
      subst e
      rw [List.getElem_append_right (by omega)]
      simp

-- laws_markIntS
theorem laws_markIntS.l0_ev (l : List Int) (a : Int) (hl : l.length ≤ 1000000000000000) (h0 : 0 ≤ a) (h1 : a ≤ 1000000000000000) : ∀ (d i : Nat), i + d = l.length → Ev (fun k => laws_markIntS.l0 k (marksL i a ++ l.drop i) (a + (i : Int)) (i : Int)) (a + (l.length : Int), marksL l.length a) := by
  intro d
  induction d with
  | zero =>
    intro i h
    have hlen : (marksL i a ++ l.drop i).length = l.length := by rw [List.length_append, marksL_length, List.length_drop]; omega
    refine Ev.step (f := fun _ => some (a + (l.length : Int), marksL l.length a)) (fun k => ?_) (Ev.now _)
    simp only [laws_markIntS.l0]
    rw [if_neg (by rw [hlen]; omega), List.drop_eq_nil_of_le (by omega), List.append_nil]
    obtain rfl : i = l.length := by omega
    rfl
  | succ d ih =>
    intro i h
    have hi' : i < l.length := by omega
    have hlen : (marksL i a ++ l.drop i).length = l.length := by rw [List.length_append, marksL_length, List.length_drop]; omega
    refine Ev.step (fun k => ?_) (ih (i + 1) (by omega))
    simp only [laws_markIntS.l0]
    have hset : (marksL i a ++ l.drop i).set i (a + (i : Int)) = marksL (i + 1) a ++ l.drop (i + 1) := by
      rw [List.set_append_right _ _ (by rw [marksL_length]; omega), marksL_length, Nat.sub_self, List.drop_eq_getElem_cons hi', marksL, List.append_assoc]
      rfl
    rw [if_pos (by rw [hlen]; omega), if_pos (by omega), Int.toNat_natCast, hset, aid_next (by omega), aid_wr (x := a + (i : Int) + 1) (by omega) (by omega)]
    rw [show a + (i : Int) + 1 = a + ((i + 1 : Nat) : Int) by omega]
theorem laws_markIntS.ev (l : List Int) (a : Int) (hl : l.length ≤ 1000000000000000) (h0 : 0 ≤ a) (h1 : a ≤ 1000000000000000) : Ev (fun k => laws_markIntS.f k l a) (a + (l.length : Int), marksL l.length a) := by
  have h := laws_markIntS.l0_ev l a hl h0 h1 l.length 0 (by omega)
  simp only [marksL, List.nil_append, List.drop_zero] at h
  unfold laws_markIntS.f
  simpa using h

-- laws_heldIntS
theorem laws_heldIntS.l0_ev (n : Nat) (a : Int) (hl : n ≤ 1000000000000000) (h0 : 0 ≤ a) (h1 : a ≤ 1000000000000000) : ∀ (d i : Nat), i + d = n → Ev (fun k => laws_heldIntS.l0 k (marksL n a) (a + (i : Int)) (i : Int)) (a + (n : Int)) := by
  have hlen := marksL_length a n
  intro d
  induction d with
  | zero =>
    intro i h
    refine Ev.step (f := fun _ => some (a + (n : Int))) (fun k => ?_) (Ev.now _)
    simp only [laws_heldIntS.l0]
    rw [if_neg (by rw [hlen]; omega)]
    obtain rfl : i = n := by omega
    rfl
  | succ d ih =>
    intro i h
    refine Ev.step (fun k => ?_) (ih (i + 1) (by omega))
    simp only [laws_heldIntS.l0]
    rw [if_pos (by rw [hlen]; omega), if_pos (by omega), aid_rd _ i (by omega), marksL_get, if_pos rfl, aid_next (by omega), aid_wr (x := a + (i : Int) + 1) (by omega) (by omega)]
    rw [show a + (i : Int) + 1 = a + ((i + 1 : Nat) : Int) by omega]
theorem laws_heldIntS.ev (n : Nat) (a : Int) (hl : n ≤ 1000000000000000) (h0 : 0 ≤ a) (h1 : a ≤ 1000000000000000) : Ev (fun k => laws_heldIntS.f k (marksL n a) a) (a + (n : Int)) := by
  have h := laws_heldIntS.l0_ev n a hl h0 h1 n 0 (by omega)
  unfold laws_heldIntS.f
  simpa using h

-- spec_l1In
theorem spec_l1In.eq (a lo hi : Int) : spec_l1In.f a lo hi = some (decide (lo ≤ a ∧ a ≤ hi)) := by
  unfold spec_l1In.f
  by_cases h : lo ≤ a <;> simp [h]

-- spec_l1All
theorem spec_l1All.l0_ev (lo hi : Int) (l : List Int) (hl : l.length ≤ 1000000000000000) : ∀ (d i : Nat), i + d = l.length → Ev (fun k => spec_l1All.l0 k lo hi l (l.length : Int) (i : Int)) ((l.drop i).all fun x => decide (lo ≤ x ∧ x ≤ hi)) := by
  intro d
  induction d with
  | zero =>
    intro i h
    rw [List.drop_eq_nil_of_le (by omega)]
    refine Ev.step (fun k => ?_) (Ev.now _)
    simp only [spec_l1All.l0]
    rw [if_neg (by omega)]
    rfl
  | succ d ih =>
    intro i h
    have hi' : i < l.length := by omega
    rw [List.drop_eq_getElem_cons hi', List.all_cons, ← aid_rd l i hi']
    by_cases hc : lo ≤ rd l i ∧ rd l i ≤ hi
    · refine Ev.step (fun k => ?_) (by simpa [hc] using ih (i + 1) (by omega))
      simp only [spec_l1All.l0]
      rw [if_pos (by omega), if_pos (by omega), if_pos (by omega), spec_l1In.eq, aid_next (by omega)]
      simp [hc]
    · refine Ev.step (f := fun _ => some false) (fun k => ?_) (by simpa [hc] using Ev.now false)
      simp only [spec_l1All.l0]
      rw [if_pos (by omega), if_pos (by omega), if_pos (by omega), spec_l1In.eq]
      simp [hc]
theorem spec_l1All.ev (lo hi : Int) (l : List Int) (hl : l.length ≤ 1000000000000000) : Ev (fun k => spec_l1All.f k l lo hi) (l.all fun x => decide (lo ≤ x ∧ x ≤ hi)) :=
  spec_l1All.l0_ev lo hi l hl l.length 0 (by omega)

-- Sig
def sigB (l : List Int) : Bool := decide (l.length ≤ 64) && l.all fun x => decide (-100000 ≤ x ∧ x ≤ 100000)
theorem sigB_iff (l : List Int) : sigB l = true ↔ l.length ≤ 64 ∧ ∀ x ∈ l, -100000 ≤ x ∧ x ≤ 100000 := by
  simp [sigB]
def toldP (l : List Int) : List Int × Bool := if sigB l then (l, true) else ([], false)
theorem toldP_len (l : List Int) : (toldP l).1.length ≤ 64 := by
  unfold toldP
  cases h : sigB l with
  | true => simpa using ((sigB_iff l).1 h).1
  | false => simp

-- spec_wdSignal
theorem spec_wdSignal.ev (l : List Int) : Ev (fun k => spec_wdSignal.f k l) (sigB l) := by
  unfold spec_wdSignal.f sigB
  by_cases h : l.length ≤ 64
  · have e := spec_l1All.ev (-100000) 100000 l (by omega)
    simp only [h, decide_true, Bool.true_and]
    refine Ev.congr (fun k => if_pos (by omega)) (aid_ev_bind e rfl)
  · simp only [h, decide_false, Bool.false_and]
    refine Ev.congr (fun k => if_neg (by omega)) (Ev.now _)

-- spec_cbAsked
theorem spec_cbAsked.eq (s r : Int) : spec_cbAsked.f s r = some (decide ((1 ≤ s ∧ s ≤ 4) ∧ (1 ≤ r ∧ r ≤ 8))) := by
  unfold spec_cbAsked.f
  rw [spec_l1In.eq, spec_l1In.eq]
  by_cases h : 1 ≤ s ∧ s ≤ 4 <;> simp [h]

-- spec_wdIf
theorem spec_wdIf.ev (l : List Int) : Ev (fun k => spec_wdIf.f k l) (toldP l) := by
  unfold spec_wdIf.f toldP
  refine Ev.bind (spec_wdSignal.ev l) ?_
  cases sigB l <;> exact Ev.now _

-- impl_in
theorem impl_in.eq (a lo hi : Int) : impl_in.f a lo hi = some (decide (lo ≤ a ∧ a ≤ hi)) := by
  unfold impl_in.f
  by_cases h : lo ≤ a <;> simp [h]

-- impl_isSignal
theorem impl_isSignal.eq (l : List Int) : impl_isSignal.f l = some (sigB l) := by
  unfold impl_isSignal.f sigB
  have e1 : decide ((l.length : Int) ≤ 64) = decide (l.length ≤ 64) := by
    rw [Bool.eq_iff_iff]; simp; omega
  have e2 : (!(l.any fun x => !(decide (-100000 ≤ x) && decide (x ≤ 100000)))) = l.all fun x => decide (-100000 ≤ x ∧ x ≤ 100000) := by
    rw [List.not_any_eq_all_not]
    congr 1
    funext x
    rw [Bool.eq_iff_iff]
    simp
  rw [e1, e2]

-- impl_told
theorem impl_told.eq (l : List Int) : impl_told.f l = some (toldP l) := by
  unfold impl_told.f toldP
  rw [impl_isSignal.eq]
  cases sigB l <;> rfl

-- impl_isComb
theorem impl_isComb.eq (s r : Int) : impl_isComb.f s r = some (decide ((1 ≤ s ∧ s ≤ 4) ∧ (1 ≤ r ∧ r ≤ 8))) := by
  unfold impl_isComb.f
  rw [impl_in.eq, impl_in.eq]
  by_cases h : 1 ≤ s ∧ s ≤ 4 <;> simp [h]

-- impl_drop
theorem drop_l0 (l : List Int) (rate : Int) (hl : l.length ≤ 1000000) (h1 : 1 ≤ rate) (h2 : rate ≤ 8) : ∀ (d : Nat) (i : Int) (o : List Int), (l.length : Int) - i ≤ d → 0 ≤ i → i ≤ 2000000 → (o.length : Int) ≤ i → (∀ x ∈ o, x ∈ l) → o.length ≤ l.length →
    ∃ w, Ev (fun k => impl_drop.l0 k l rate o i) w ∧ (∀ x ∈ w, x ∈ l) ∧ w.length ≤ l.length ∧ (w.length : Int) = o.length + (max 0 ((l.length : Int) - i) + rate - 1) / rate := by
  have hrate : rate = 1 ∨ rate = 2 ∨ rate = 3 ∨ rate = 4 ∨ rate = 5 ∨ rate = 6 ∨ rate = 7 ∨ rate = 8 := by omega
  intro d
  induction d with
  | zero =>
    intro i o hd h0 hm hlen ho hol
    refine ⟨o, Ev.step (f := fun _ => some o) (fun k => ?_) (Ev.now _), ho, hol, ?_⟩
    · simp only [impl_drop.l0]
      rw [if_neg (by omega)]
    · rw [show max 0 ((l.length : Int) - i) = 0 by omega, Int.ediv_eq_zero_of_lt (by omega) (by omega)]
      omega
  | succ d ih =>
    intro i o hd h0 hm hlen ho hol
    by_cases hi : i < (l.length : Int)
    · obtain ⟨n, rfl⟩ := Int.eq_ofNat_of_zero_le h0
      have hn : n < l.length := by omega
      have hmem : ∀ x ∈ o ++ [rd l (n : Int)], x ∈ l := by
        intro x hx
        rcases List.mem_append.1 hx with hx | hx
        · exact ho x hx
        · rw [List.mem_singleton.1 hx, aid_rd l n hn]
          exact List.getElem_mem hn
      obtain ⟨w, hw1, hw2, hw3, hw4⟩ := ih ((n : Int) + rate) (o ++ [rd l (n : Int)]) (by omega) (by omega) (by omega) (by rw [List.length_append, List.length_singleton]; omega) hmem (by rw [List.length_append, List.length_singleton]; omega)
      refine ⟨w, Ev.step (fun k => ?_) hw1, hw2, hw3, ?_⟩
      · simp only [impl_drop.l0]
        rw [if_pos hi, if_pos (by omega), if_pos (by omega), aid_wr (by omega) (by omega)]
      · rw [hw4, List.length_append, List.length_singleton]
        clear hw1 hw2 ih hmem ho hw4
        rcases hrate with h | h | h | h | h | h | h | h <;> subst h <;> omega
    · refine ⟨o, Ev.step (f := fun _ => some o) (fun k => ?_) (Ev.now _), ho, hol, ?_⟩
      · simp only [impl_drop.l0]
        rw [if_neg (by omega)]
      · rw [show max 0 ((l.length : Int) - i) = 0 by omega, Int.ediv_eq_zero_of_lt (by omega) (by omega)]
        omega
theorem drop_impl (l : List Int) (rate first : Int) (hl : l.length ≤ 1000000) (h1 : 1 ≤ rate) (h2 : rate ≤ 8) (h3 : 0 ≤ first) (h4 : first ≤ 8) :
    ∃ w, Ev (fun k => impl_drop.f k l rate first) w ∧ (∀ x ∈ w, x ∈ l) ∧ w.length ≤ l.length ∧ (w.length : Int) = (max 0 ((l.length : Int) - first) + rate - 1) / rate := by
  obtain ⟨w, hw1, hw2, hw3, hw4⟩ := drop_l0 l rate hl h1 h2 l.length first [] (by omega) h3 (by omega) (by simpa using h3) (by simp) (by simp)
  exact ⟨w, hw1, hw2, hw3, by simpa using hw4⟩

-- AnswerBoth
theorem answer_same : ∀ k : Nat, (∀ a b c d e, impl_answer.l0 k a b c d e = spec_weAnswer.l0 k a b c d e) ∧ (∀ a b i v c d e f g h, impl_answer.l1 k a b i v c d e f g h = spec_weAnswer.l1 k a b i v c d e f g h) := by
  intro k
  induction k with
  | zero => exact ⟨fun _ _ _ _ _ => rfl, fun _ _ _ _ _ _ _ _ _ _ => rfl⟩
  | succ k ih =>
    refine ⟨?_, ?_⟩
    · intros
      simp only [impl_answer.l0, spec_weAnswer.l0, ih.2]
    · intro a b i v c d e f g h
      simp only [impl_answer.l1, spec_weAnswer.l1, ih.1, ih.2, Int.add_comm h i]
theorem answer_l1 (a c : List Int) (ha : a.length ≤ 1000000) (hc : c.length ≤ 1000000) (i : Nat) (v : Int) (hi : i < c.length) (r : List Int → Prop) : ∀ (d j : Nat) (b : List Int), j + d = a.length → b.length + 1 = c.length + a.length →
    ∃ b' : List Int, b'.length + 1 = c.length + a.length ∧ ∀ w, Ev (fun k => spec_weAnswer.l0 k a b' c (c.length : Int) ((i + 1 : Nat) : Int)) w → Ev (fun k => spec_weAnswer.l1 k a b (i : Int) v c (c.length : Int) (i : Int) a (a.length : Int) (j : Int)) w := by
  intro d
  induction d with
  | zero =>
    intro j b hj hb
    refine ⟨b, hb, fun w hw => aid_ev_succ ?_⟩
    simp only [spec_weAnswer.l1]
    refine Ev.congr (fun k => if_neg (by omega)) ?_
    rw [aid_next (by omega)]
    exact hw
  | succ d ih =>
    intro j b hj hb
    obtain ⟨b', h1, h2⟩ := ih (j + 1) (b.set (i + j) (wrap64 (rd b ((i + j : Nat) : Int) + wrap64 (v * rd a (j : Int))))) (by omega) (by rw [List.length_set]; exact hb)
    refine ⟨b', h1, fun w hw => aid_ev_succ ?_⟩
    have e : wrap64 ((i : Int) + (j : Int)) = ((i + j : Nat) : Int) := by
      rw [aid_wr (by omega) (by omega)]
      omega
    simp only [spec_weAnswer.l1, e, Int.toNat_natCast]
    refine Ev.congr (fun k => if_pos (by omega)) ?_
    refine Ev.congr (fun k => if_pos (by omega)) ?_
    refine Ev.congr (fun k => if_pos (by omega)) ?_
    refine Ev.congr (fun k => if_pos (by omega)) ?_
    refine Ev.congr (fun k => if_pos (by omega)) ?_
    rw [aid_next (by omega)]
    exact h2 w hw
theorem answer_l0 (a c : List Int) (ha : a.length ≤ 1000000) (hc : c.length ≤ 1000000) : ∀ (d i : Nat) (b : List Int), i + d = c.length → b.length + 1 = c.length + a.length →
    ∃ w : List Int, w.length + 1 = c.length + a.length ∧ Ev (fun k => spec_weAnswer.l0 k a b c (c.length : Int) (i : Int)) w := by
  intro d
  induction d with
  | zero =>
    intro i b hi hb
    refine ⟨b, hb, aid_ev_succ ?_⟩
    simp only [spec_weAnswer.l0]
    exact Ev.congr (fun k => if_neg (by omega)) (Ev.now _)
  | succ d ih =>
    intro i b hi hb
    obtain ⟨b', h1, h2⟩ := answer_l1 a c ha hc i (rd c (i : Int)) (by omega) (fun _ => True) a.length 0 b (by omega) hb
    obtain ⟨w, hw1, hw2⟩ := ih (i + 1) b' (by omega) h1
    refine ⟨w, hw1, aid_ev_succ ?_⟩
    simp only [spec_weAnswer.l0]
    refine Ev.congr (fun k => if_pos (by omega)) ?_
    refine Ev.congr (fun k => if_pos (by omega)) ?_
    refine Ev.congr (fun k => if_pos (by omega)) ?_
    exact h2 w hw2
theorem answer_both (c a : List Int) (hc : c.length ≤ 1000000) (ha : a.length ≤ 1000000) (hc0 : 1 ≤ c.length) :
    ∃ w : List Int, Ev (fun k => spec_weAnswer.f k c a) w ∧ Ev (fun k => impl_answer.f k c a) w ∧ a.length ≤ w.length ∧ w.length ≤ 2000000 := by
  by_cases h0 : a.length = 0
  · refine ⟨[], ?_, ?_, by omega, by simp⟩
    · unfold spec_weAnswer.f
      exact Ev.congr (fun k => if_pos (by omega)) (Ev.now _)
    · unfold impl_answer.f
      exact Ev.congr (fun k => if_pos (by omega)) (Ev.now _)
  · have e : wrap64 (wrap64 ((c.length : Int) + (a.length : Int)) - 1) = ((c.length + a.length - 1 : Nat) : Int) := by
      rw [aid_wr (x := (c.length : Int) + (a.length : Int)) (by omega) (by omega), aid_wr (by omega) (by omega)]
      omega
    obtain ⟨w, h1, h2⟩ := answer_l0 a c ha hc c.length 0 (List.replicate (c.length + a.length - 1) 0) (by omega) (by rw [List.length_replicate]; omega)
    have E := Aside0.mk e
    clear e
    refine ⟨w, ?_, ?_, by omega, by omega⟩
    · unfold spec_weAnswer.f
      rw [E.out]
      refine Ev.congr (fun k => if_neg (by omega)) ?_
      refine Ev.congr (fun k => if_pos (by omega)) ?_
      refine Ev.congr (fun k => if_pos (by omega)) ?_
      rw [Int.toNat_natCast]
      exact h2
    · unfold impl_answer.f
      rw [E.out]
      refine Ev.congr (fun k => if_neg (by omega)) ?_
      refine Ev.congr (fun k => if_pos (by omega)) ?_
      refine Ev.congr (fun k => if_pos (by omega)) ?_
      rw [Int.toNat_natCast]
      exact Ev.congr (fun k => (answer_same k).1 _ _ _ _ _) h2

-- Combos
theorem aid_four {s : Int} (h : 1 ≤ s ∧ s ≤ 4) : s ∈ [(1 : Int), 2, 3, 4] := by
  have : s = 1 ∨ s = 2 ∨ s = 3 ∨ s = 4 := by omega
  rcases this with h | h | h | h <;> simp [h]
theorem aid_eight {s : Int} (h : 1 ≤ s ∧ s ≤ 8) : s ∈ [(1 : Int), 2, 3, 4, 5, 6, 7, 8] := by
  have : s = 1 ∨ s = 2 ∨ s = 3 ∨ s = 4 ∨ s = 5 ∨ s = 6 ∨ s = 7 ∨ s = 8 := by omega
  rcases this with h | h | h | h | h | h | h | h <;> simp [h]

-- CombBoth
theorem comb_all : ∀ s ∈ [(1 : Int), 2, 3, 4], ∀ r ∈ [(1 : Int), 2, 3, 4, 5, 6, 7, 8], (spec_cbBox.f 1000 s r).isSome = true ∧ impl_comb.f 1000 s r = spec_cbBox.f 1000 s r ∧ 1 ≤ ((spec_cbBox.f 1000 s r).getD []).length ∧ ((spec_cbBox.f 1000 s r).getD []).length ≤ 29 := by decide +kernel
theorem comb_both (s r : Int) (hs : 1 ≤ s ∧ s ≤ 4) (hr : 1 ≤ r ∧ r ≤ 8) : ∃ c : List Int, Ev (fun k => spec_cbBox.f k s r) c ∧ Ev (fun k => impl_comb.f k s r) c ∧ 1 ≤ c.length ∧ c.length ≤ 29 := by
  obtain ⟨h1, h2, h3, h4⟩ := comb_all s (aid_four hs) r (aid_eight hr)
  cases hc : spec_cbBox.f 1000 s r with
  | none => rw [hc] at h1; cases h1
  | some c =>
    rw [hc] at h2 h3 h4
    exact ⟨c, Ev.of (spec_cbBox.mono s r) hc, Ev.of (impl_comb.mono s r) h2, h3, h4⟩

-- DropBoth
theorem drop_same : ∀ (k : Nat) (a : List Int) (b : Int) (c : List Int) (d : Int), impl_drop.l0 k a b c d = spec_cbDrop.l0 k a b c d := by
  intro k
  induction k with
  | zero => intros; rfl
  | succ k ih => intros; simp only [impl_drop.l0, spec_cbDrop.l0, ih]
theorem drop_both (l : List Int) (rate first : Int) (hl : l.length ≤ 1000000) (h1 : 1 ≤ rate) (h2 : rate ≤ 8) (h3 : 0 ≤ first) (h4 : first ≤ 8) :
    ∃ w, Ev (fun k => spec_cbDrop.f k l rate first) w ∧ Ev (fun k => impl_drop.f k l rate first) w ∧ (∀ x ∈ w, x ∈ l) ∧ w.length ≤ l.length := by
  obtain ⟨w, h⟩ := drop_impl l rate first hl h1 h2 h3 h4
  exact ⟨w, Ev.congr (fun k => (drop_same k _ _ _ _).symm) h.1, h.1, h.2.1, h.2.2.1⟩

theorem ecomb_both (l : List Int) (s r : Int) : ∃ (w : List Int) (b : Bool), Ev (fun k => spec_ExactComb.f k l s r) (w, b) ∧ Ev (fun k => impl_ExactComb.f k l s r) (w, b) ∧ w.length ≤ 64 := by
  unfold spec_ExactComb.f impl_ExactComb.f spec_cbGood.f
  have hsig := spec_wdSignal.ev l
  rw [impl_isSignal.eq, impl_isComb.eq, spec_cbAsked.eq]
  have hiN : Ev (fun k => impl_ExactComb.j0 k l s r true) (([] : List Int), false) := by
    refine aid_ev_succ ?_
    simp only [impl_ExactComb.j0]
    exact Ev.now _
  cases hB : sigB l with
  | false =>
    rw [hB] at hsig
    exact ⟨[], false, Ev.bind (a := false) (aid_ev_bind hsig rfl) (Ev.now _), hiN, by simp⟩
  | true =>
    rw [hB] at hsig
    obtain ⟨hl, hx⟩ := (sigB_iff l).1 hB
    by_cases h : (1 ≤ s ∧ s ≤ 4) ∧ (1 ≤ r ∧ r ≤ 8)
    · rw [decide_eq_true h]
      obtain ⟨c, hc1, hc2, hc3, hc4⟩ := comb_both s r h.1 h.2
      obtain ⟨z, hz1, hz2, hz3, hz4⟩ := answer_both c l (by omega) (by omega) hc3
      obtain ⟨w, hw1, hw2, hw3, hw4⟩ := drop_both (z.take l.length) r (r - 1) (by rw [List.length_take]; omega) h.2.1 h.2.2 (by omega) (by omega)
      have hwr : wrap64 (r - 1) = r - 1 := aid_wr (by omega) (by omega)
      refine ⟨(toldP w).1, (toldP w).2, Ev.bind (a := true) (aid_ev_bind hsig rfl) ?_, ?_, toldP_len w⟩
      · refine Ev.congr (fun k => if_pos rfl) ?_
        refine Ev.bind (a := w) ?_ ?_
        · unfold spec_cbExact.f
          refine Ev.bind hc1 ?_
          refine Ev.bind hz1 ?_
          refine Ev.congr (fun k => if_pos (by omega)) ?_
          refine Ev.congr (fun k => if_pos (by omega)) ?_
          rw [Int.toNat_natCast, hwr]
          exact aid_ev_bind hw1 rfl
        · exact aid_ev_bind (spec_wdIf.ev w) rfl
      · refine Ev.congr (fun k => rfl) (f := fun k => impl_ExactComb.j0 k l s r false) ?_
        refine aid_ev_succ ?_
        simp only [impl_ExactComb.j0]
        refine Ev.congr (fun k => if_neg (by decide)) ?_
        refine Ev.bind hc2 ?_
        refine Ev.bind hz2 ?_
        refine Ev.congr (fun k => if_pos (by omega)) ?_
        refine Ev.congr (fun k => if_pos (by omega)) ?_
        rw [Int.toNat_natCast, hwr]
        refine Ev.bind hw2 ?_
        rw [impl_told.eq]
        exact Ev.now _
    · rw [decide_eq_false h]
      exact ⟨[], false, Ev.bind (a := false) (aid_ev_bind hsig rfl) (Ev.now _), hiN, by simp⟩
theorem FnExactExactComb : laws_FnExactExactComb.Pure := by
  intro l s r _ h8 _ _ _
  refine Ev.rounds ?_
  unfold laws_FnExactExactComb.f
  by_cases hb : (l.length : Int) > 1048576
  · exact Ev.congr (fun k => if_pos hb) (Ev.now _)
  refine Ev.congr (fun k => if_neg hb) ?_
  have hT := laws_toIntS.ev l h8
  obtain ⟨w, b, hs, hi, hw⟩ := ecomb_both l s r
  try dsimp only at hw
  have hE := laws_eqIntS.refl w (by omega)
  have hEl := laws_eqIntS.refl l (by omega)
  have hM := laws_markIntS.ev w 1 (by omega) (by omega) (by omega)
  have hMl := laws_markIntS.ev l 1 (by omega) (by omega) (by omega)
  have hH := laws_heldIntS.ev w.length 1 (by omega) (by omega) (by omega)
  have hNb : ¬ ((b != b) = true) := by cases b <;> decide
  have hN1 : ¬ (1 + (w.length : Int) < 0) := by omega
  have hN2 : ¬ (1 + (l.length : Int) < 0) := by omega
  repeat (first
    | exact Ev.now _
    | ((with_reducible refine Ev.bind hT ?_); try dsimp only)
    | ((with_reducible refine Ev.bind hs ?_); try dsimp only)
    | ((with_reducible refine Ev.bind hi ?_); try dsimp only)
    | ((with_reducible refine Ev.bind hE ?_); try dsimp only)
    | ((with_reducible refine Ev.bind hEl ?_); try dsimp only)
    | ((with_reducible refine Ev.bind hM ?_); try dsimp only)
    | ((with_reducible refine Ev.bind hMl ?_); try dsimp only)
    | ((with_reducible refine Ev.bind hH ?_); try dsimp only)
    | (with_reducible refine Ev.congr (fun k => if_pos rfl) ?_)
    | (with_reducible refine Ev.congr (fun k => if_neg hNb) ?_)
    | (with_reducible refine Ev.congr (fun k => if_neg hN1) ?_)
    | (with_reducible refine Ev.congr (fun k => if_neg hN2) ?_)
    | (refine aid_ev_succ ?_; simp only [laws_FnExactExactComb.j0, laws_FnExactExactComb.j1, laws_FnExactExactComb.j2]; try dsimp only))

end Go.Proofs.Ytimpnpaimjgdgaa.Pure
