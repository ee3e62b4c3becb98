/- Proves that the program's StuffZeros returns what the reference's returns, for all arguments. Conditions: none. -/
import Derived.Test.YtpcilhakedhkaaaPFnExactStuffZerosx3
namespace Go.Proofs.Ytpcilhakedhkaaa.Pure
open Go.RowKit Go.Proofs.Ytpcilhakedhkaaa.PFnExactStuffZeros Go.Proofs.YtpcilhakedhkaaaW.PrintWords Go.Proofs.YtpcilhakedhkaaaW.PrintLast
set_option linter.unusedSimpArgs false
set_option linter.unusedVariables false

-- Aid
theorem aid_wr {x : Int} (h0 : -9223372036854775808 ≤ x) (h1 : x ≤ 9223372036854775807) : wrap64 x = x := by unfold wrap64; omega
theorem aid_wf {x : Int} (h : (Lit.int .i64 x).wf = true) : -9223372036854775808 ≤ x ∧ x ≤ 9223372036854775807 := by
  have hmin : IntKind.i64.min = -9223372036854775808 := rfl
  have hmax : IntKind.i64.max = 9223372036854775807 := rfl
  simp only [Lit.wf, Bool.and_eq_true, decide_eq_true_eq, hmin, hmax] at h
  exact h
theorem aid_ev_bind {α β : Type} {g : Nat → Option α} {f : α → Option β} {a : α} {r : β} (h : Ev g a) (k : f a = some r) : Ev (fun n => (g n).bind f) r :=
  Ev.bind (f := fun _ => f) h ⟨0, fun _ _ => k⟩
theorem aid_ev_const {α : Type} {o : Option α} {r : α} (h : o = some r) : Ev (fun _ => o) r := ⟨0, fun _ _ => h⟩
theorem aid_tdiv {a b : Int} (ha : 0 ≤ a) : Int.tdiv a b = a / b := Int.tdiv_eq_ediv_of_nonneg ha
theorem aid_tmod {a b : Int} (ha : 0 ≤ a) : Int.tmod a b = a % b := Int.tmod_eq_emod_of_nonneg ha
theorem aid_next {i : Nat} (h : i ≤ 9223372036854775806) : wrap64 ((i : Int) + 1) = ((i + 1 : Nat) : Int) := by rw [aid_wr (by omega) (by omega)]; rfl
theorem aid_rd (l : List Int) (i : Nat) (h : i < l.length) : rd l (i : Int) = l[i] := by
  unfold rd
  rw [List.getD_eq_getElem?_getD, Int.toNat_natCast, List.getElem?_eq_getElem h]
  rfl
theorem aid_ev_succ {α : Type} {g : Nat → Option α} {r : α} (h : Ev (fun k => g (k + 1)) r) : Ev g r := Ev.step (fun _ => rfl) h

-- laws_toIntS
theorem aid_fill (l : List Int) (i d : Nat) (h : i + (d + 1) = l.length) : (l.take i ++ List.replicate (d + 1) 0).set i (rd l i) = l.take (i + 1) ++ List.replicate d 0 := by
  have hi' : i < l.length := by omega
  have hlen : (l.take i).length = i := by rw [List.length_take]; omega
  rw [List.set_append_right _ _ (by omega), hlen, Nat.sub_self, aid_rd l i hi', List.take_succ_eq_append_getElem hi', List.append_assoc]
  rfl
theorem laws_toIntS.l0_ev (l : List Int) (hl : l.length ≤ 1000000000000000) : ∀ (d i : Nat), i + d = l.length → Ev (fun k => laws_toIntS.l0 k l (l.take i ++ List.replicate d 0) (i : Int)) l := by
  intro d
  induction d with
  | zero =>
    intro i h
    refine Ev.step (fun k => ?_) (Ev.now _)
    simp only [laws_toIntS.l0]
    rw [if_neg (by omega), List.take_of_length_le (by omega)]
    simp
  | succ d ih =>
    intro i h
    refine Ev.step (fun k => ?_) (ih (i + 1) (by omega))
    have hlen : (l.take i ++ List.replicate (d + 1) 0).length = l.length := by
      rw [List.length_append, List.length_take, List.length_replicate]; omega
    simp only [laws_toIntS.l0]
    rw [if_pos (by omega), if_pos (by omega), if_pos (by rw [hlen]; omega), aid_next (by omega), Int.toNat_natCast, aid_fill l i d h]
theorem laws_toIntS.ev (l : List Int) (hl : l.length * 8 ≤ 140737488351232) : Ev (fun k => laws_toIntS.f k l) l := by
  unfold laws_toIntS.f
  have h := laws_toIntS.l0_ev l (by omega) l.length 0 (by omega)
  refine Ev.congr (fun k => ?_) h
  rw [if_pos (by omega), if_pos (by omega)]
  simp

-- laws_eqIntS
theorem laws_eqIntS.l0_refl (l : List Int) (hl : l.length ≤ 1000000000000000) : ∀ (d i : Nat), i + d = l.length → Ev (fun k => laws_eqIntS.l0 k l l (i : Int)) true := by
  intro d
  induction d with
  | zero =>
    intro i h
    refine Ev.step (fun k => ?_) (Ev.now _)
    simp only [laws_eqIntS.l0]
    rw [if_neg (by omega)]
  | succ d ih =>
    intro i h
    refine Ev.step (fun k => ?_) (ih (i + 1) (by omega))
    simp only [laws_eqIntS.l0]
    rw [if_pos (by omega), if_pos (by omega), if_pos (by omega), if_pos trivial, aid_next (by omega)]
theorem laws_eqIntS.refl (l : List Int) (hl : l.length ≤ 1000000000000000) : Ev (fun k => laws_eqIntS.f k l l) true := by
  unfold laws_eqIntS.f
  exact Ev.congr (fun k => if_pos rfl) (laws_eqIntS.l0_refl l hl l.length 0 (by omega))

-- Mark
def marksL : Nat → Int → List Int
  | 0, _ => []
  | n + 1, a => marksL n a ++ [a + (n : Int)]
theorem marksL_length (a : Int) : ∀ n, (marksL n a).length = n
  | 0 => rfl
  | n + 1 => by rw [marksL, List.length_append, marksL_length a n]; rfl
theorem marksL_get (a : Int) : ∀ (n i : Nat) (h : i < (marksL n a).length), (marksL n a)[i] = a + (i : Int)
  | n + 1, i, h => by
    have hl := marksL_length a n
    have hl' := marksL_length a (n + 1)
    simp only [marksL]
    by_cases hi : i < n
    · rw [List.getElem_append_left (by omega)]
      exact marksL_get a n i (by omega)
    · have e : i = n := by omega
      subst e
      rw [List.getElem_append_right (by omega)]
      simp

-- laws_markIntS
theorem laws_markIntS.l0_ev (l : List Int) (a : Int) (hl : l.length ≤ 1000000000000000) (h0 : 0 ≤ a) (h1 : a ≤ 1000000000000000) : ∀ (d i : Nat), i + d = l.length → Ev (fun k => laws_markIntS.l0 k (marksL i a ++ l.drop i) (a + (i : Int)) (i : Int)) (a + (l.length : Int), marksL l.length a) := by
  intro d
  induction d with
  | zero =>
    intro i h
    have hlen : (marksL i a ++ l.drop i).length = l.length := by rw [List.length_append, marksL_length, List.length_drop]; omega
    refine Ev.step (f := fun _ => some (a + (l.length : Int), marksL l.length a)) (fun k => ?_) (Ev.now _)
    simp only [laws_markIntS.l0]
    rw [if_neg (by rw [hlen]; omega), List.drop_eq_nil_of_le (by omega), List.append_nil]
    obtain rfl : i = l.length := by omega
    rfl
  | succ d ih =>
    intro i h
    have hi' : i < l.length := by omega
    have hlen : (marksL i a ++ l.drop i).length = l.length := by rw [List.length_append, marksL_length, List.length_drop]; omega
    refine Ev.step (fun k => ?_) (ih (i + 1) (by omega))
    simp only [laws_markIntS.l0]
    have hset : (marksL i a ++ l.drop i).set i (a + (i : Int)) = marksL (i + 1) a ++ l.drop (i + 1) := by
      rw [List.set_append_right _ _ (by rw [marksL_length]; omega), marksL_length, Nat.sub_self, List.drop_eq_getElem_cons hi', marksL, List.append_assoc]
      rfl
    rw [if_pos (by rw [hlen]; omega), if_pos (by omega), Int.toNat_natCast, hset, aid_next (by omega), aid_wr (x := a + (i : Int) + 1) (by omega) (by omega)]
    rw [show a + (i : Int) + 1 = a + ((i + 1 : Nat) : Int) by omega]
theorem laws_markIntS.ev (l : List Int) (a : Int) (hl : l.length ≤ 1000000000000000) (h0 : 0 ≤ a) (h1 : a ≤ 1000000000000000) : Ev (fun k => laws_markIntS.f k l a) (a + (l.length : Int), marksL l.length a) := by
  have h := laws_markIntS.l0_ev l a hl h0 h1 l.length 0 (by omega)
  simp only [marksL, List.nil_append, List.drop_zero] at h
  unfold laws_markIntS.f
  simpa using h

-- laws_heldIntS
theorem laws_heldIntS.l0_ev (n : Nat) (a : Int) (hl : n ≤ 1000000000000000) (h0 : 0 ≤ a) (h1 : a ≤ 1000000000000000) : ∀ (d i : Nat), i + d = n → Ev (fun k => laws_heldIntS.l0 k (marksL n a) (a + (i : Int)) (i : Int)) (a + (n : Int)) := by
  have hlen := marksL_length a n
  intro d
  induction d with
  | zero =>
    intro i h
    refine Ev.step (f := fun _ => some (a + (n : Int))) (fun k => ?_) (Ev.now _)
    simp only [laws_heldIntS.l0]
    rw [if_neg (by rw [hlen]; omega)]
    obtain rfl : i = n := by omega
    rfl
  | succ d ih =>
    intro i h
    refine Ev.step (fun k => ?_) (ih (i + 1) (by omega))
    simp only [laws_heldIntS.l0]
    rw [if_pos (by rw [hlen]; omega), if_pos (by omega), aid_rd _ i (by omega), marksL_get, if_pos rfl, aid_next (by omega), aid_wr (x := a + (i : Int) + 1) (by omega) (by omega)]
    rw [show a + (i : Int) + 1 = a + ((i + 1 : Nat) : Int) by omega]
theorem laws_heldIntS.ev (n : Nat) (a : Int) (hl : n ≤ 1000000000000000) (h0 : 0 ≤ a) (h1 : a ≤ 1000000000000000) : Ev (fun k => laws_heldIntS.f k (marksL n a) a) (a + (n : Int)) := by
  have h := laws_heldIntS.l0_ev n a hl h0 h1 n 0 (by omega)
  unfold laws_heldIntS.f
  simpa using h

-- spec_l1In
theorem spec_l1In.eq (a lo hi : Int) : spec_l1In.f a lo hi = some (decide (lo ≤ a ∧ a ≤ hi)) := by
  unfold spec_l1In.f
  by_cases h : lo ≤ a <;> simp [h]

-- spec_l1All
theorem spec_l1All.l0_ev (lo hi : Int) (l : List Int) (hl : l.length ≤ 1000000000000000) : ∀ (d i : Nat), i + d = l.length → Ev (fun k => spec_l1All.l0 k lo hi l (l.length : Int) (i : Int)) ((l.drop i).all fun x => decide (lo ≤ x ∧ x ≤ hi)) := by
  intro d
  induction d with
  | zero =>
    intro i h
    rw [List.drop_eq_nil_of_le (by omega)]
    refine Ev.step (fun k => ?_) (Ev.now _)
    simp only [spec_l1All.l0]
    rw [if_neg (by omega)]
    rfl
  | succ d ih =>
    intro i h
    have hi' : i < l.length := by omega
    rw [List.drop_eq_getElem_cons hi', List.all_cons, ← aid_rd l i hi']
    by_cases hc : lo ≤ rd l i ∧ rd l i ≤ hi
    · refine Ev.step (fun k => ?_) (by simpa [hc] using ih (i + 1) (by omega))
      simp only [spec_l1All.l0]
      rw [if_pos (by omega), if_pos (by omega), if_pos (by omega), spec_l1In.eq, aid_next (by omega)]
      simp [hc]
    · refine Ev.step (f := fun _ => some false) (fun k => ?_) (by simpa [hc] using Ev.now false)
      simp only [spec_l1All.l0]
      rw [if_pos (by omega), if_pos (by omega), if_pos (by omega), spec_l1In.eq]
      simp [hc]
theorem spec_l1All.ev (lo hi : Int) (l : List Int) (hl : l.length ≤ 1000000000000000) : Ev (fun k => spec_l1All.f k l lo hi) (l.all fun x => decide (lo ≤ x ∧ x ≤ hi)) :=
  spec_l1All.l0_ev lo hi l hl l.length 0 (by omega)

-- Sig
def sigB (l : List Int) : Bool := decide (l.length ≤ 64) && l.all fun x => decide (-100000 ≤ x ∧ x ≤ 100000)
theorem sigB_iff (l : List Int) : sigB l = true ↔ l.length ≤ 64 ∧ ∀ x ∈ l, -100000 ≤ x ∧ x ≤ 100000 := by
  simp [sigB]
def toldP (l : List Int) : List Int × Bool := if sigB l then (l, true) else ([], false)
theorem toldP_len (l : List Int) : (toldP l).1.length ≤ 64 := by
  unfold toldP
  cases h : sigB l with
  | true => simpa using ((sigB_iff l).1 h).1
  | false => simp

-- spec_wdSignal
theorem spec_wdSignal.ev (l : List Int) : Ev (fun k => spec_wdSignal.f k l) (sigB l) := by
  unfold spec_wdSignal.f sigB
  by_cases h : l.length ≤ 64
  · have e := spec_l1All.ev (-100000) 100000 l (by omega)
    simp only [h, decide_true, Bool.true_and]
    refine Ev.congr (fun k => if_pos (by omega)) (aid_ev_bind e rfl)
  · simp only [h, decide_false, Bool.false_and]
    refine Ev.congr (fun k => if_neg (by omega)) (Ev.now _)

-- spec_wdIf
theorem spec_wdIf.ev (l : List Int) : Ev (fun k => spec_wdIf.f k l) (toldP l) := by
  unfold spec_wdIf.f toldP
  refine Ev.bind (spec_wdSignal.ev l) ?_
  cases sigB l <;> exact Ev.now _

-- Stuff
def stuffL (r : Nat) : List Int → List Int
  | [] => []
  | x :: t => x :: (List.replicate (r - 1) 0 ++ stuffL r t)
theorem stuffL_length (r : Nat) (hr : 1 ≤ r) : ∀ l : List Int, (stuffL r l).length = l.length * r
  | [] => by simp [stuffL]
  | x :: t => by
    rw [stuffL, List.length_cons, List.length_append, List.length_replicate, stuffL_length r hr t, List.length_cons, Nat.add_mul]
    omega
theorem stuffL_mem (r : Nat) : ∀ (l : List Int) (y : Int), y ∈ stuffL r l → y = 0 ∨ y ∈ l
  | x :: t, y, h => by
    simp only [stuffL, List.mem_cons, List.mem_append, List.mem_replicate] at h
    rcases h with h | h | h
    · exact .inr (by simp [h])
    · exact .inl h.2
    · rcases stuffL_mem r t y h with h | h
      · exact .inl h
      · exact .inr (by simp [h])

-- spec_cbStuff
theorem spec_cbStuff.l1_ev (l : List Int) (r : Nat) (hr : r ≤ 8) (n i : Int) (v : List Int) : ∀ (d j : Nat) (o : List Int), j + d = r → o.length + d ≤ 1000000 →
    Ev (fun k => spec_cbStuff.l0 k (r : Int) (o ++ List.replicate d 0) l n (wrap64 (i + 1))) v → Ev (fun k => spec_cbStuff.l1 k (r : Int) o (j : Int) l n i) v := by
  intro d
  induction d with
  | zero =>
    intro j o hj ho h
    refine Ev.step (fun k => ?_) h
    simp only [spec_cbStuff.l1]
    rw [if_neg (by omega)]
    simp
  | succ d ih =>
    intro j o hj ho h
    refine Ev.step (fun k => ?_) (ih (j + 1) (o ++ [0]) (by omega) (by rw [List.length_append, List.length_singleton]; omega) (by rw [List.append_assoc]; exact h))
    simp only [spec_cbStuff.l1]
    rw [if_pos (by omega), if_pos (by omega), aid_next (by omega)]
theorem spec_cbStuff.l0_ev (l : List Int) (r : Nat) (h1 : 1 ≤ r) (hr : r ≤ 8) (hl : l.length ≤ 100000) : ∀ (d i : Nat) (o : List Int), i + d = l.length → o.length ≤ 8 * i →
    Ev (fun k => spec_cbStuff.l0 k (r : Int) o l (l.length : Int) (i : Int)) (o ++ stuffL r (l.drop i)) := by
  intro d
  induction d with
  | zero =>
    intro i o hi ho
    refine Ev.step (f := fun _ => some o) (fun k => ?_) (by rw [List.drop_eq_nil_of_le (by omega)]; simpa [stuffL] using Ev.now o)
    simp only [spec_cbStuff.l0]
    rw [if_neg (by omega)]
  | succ d ih =>
    intro i o hi ho
    have hi' : i < l.length := by omega
    have hz := ih (i + 1) ((o ++ [l[i]]) ++ List.replicate (r - 1) 0) (by omega) (by rw [List.length_append, List.length_append, List.length_singleton, List.length_replicate]; omega)
    have e : o ++ stuffL r (l.drop i) = ((o ++ [l[i]]) ++ List.replicate (r - 1) 0) ++ stuffL r (l.drop (i + 1)) := by
      rw [List.drop_eq_getElem_cons hi', stuffL]
      simp
    rw [e]
    refine Ev.step (fun k => ?_) (spec_cbStuff.l1_ev l r hr (l.length : Int) (i : Int) _ (r - 1) 1 (o ++ [l[i]]) (by omega) (by rw [List.length_append, List.length_singleton]; omega) (by rw [aid_next (by omega)]; exact hz))
    simp only [spec_cbStuff.l0]
    rw [if_pos (by omega), if_pos (by omega), if_pos (by omega), if_pos (by omega), aid_rd l i hi']
    rfl
theorem spec_cbStuff.ev (l : List Int) (r : Nat) (h1 : 1 ≤ r) (hr : r ≤ 8) (hl : l.length ≤ 100000) : Ev (fun k => spec_cbStuff.f k l (r : Int)) (stuffL r l) := by
  have h := spec_cbStuff.l0_ev l r h1 hr hl l.length 0 [] (by omega) (by simp)
  unfold spec_cbStuff.f
  simpa using h

-- impl_isSignal
theorem impl_isSignal.eq (l : List Int) : impl_isSignal.f l = some (sigB l) := by
  unfold impl_isSignal.f sigB
  have e1 : decide ((l.length : Int) ≤ 64) = decide (l.length ≤ 64) := by
    rw [Bool.eq_iff_iff]; simp; omega
  have e2 : (!(l.any fun x => !(decide (-100000 ≤ x) && decide (x ≤ 100000)))) = l.all fun x => decide (-100000 ≤ x ∧ x ≤ 100000) := by
    rw [List.not_any_eq_all_not]
    congr 1
    funext x
    rw [Bool.eq_iff_iff]
    simp
  rw [e1, e2]

-- impl_told
theorem impl_told.eq (l : List Int) : impl_told.f l = some (toldP l) := by
  unfold impl_told.f toldP
  rw [impl_isSignal.eq]
  cases sigB l <;> rfl

-- impl_in
theorem impl_in.eq (a lo hi : Int) : impl_in.f a lo hi = some (decide (lo ≤ a ∧ a ≤ hi)) := by
  unfold impl_in.f
  by_cases h : lo ≤ a <;> simp [h]

-- impl_isRate
theorem impl_isRate.eq (x : Int) : impl_isRate.f x = some (decide (1 ≤ x ∧ x ≤ 8)) := by
  unfold impl_isRate.f
  rw [impl_in.eq]
  rfl

-- impl_stuff
theorem impl_stuff.l0_ev (l : List Int) (r : Nat) (h1 : 1 ≤ r) (hr : r ≤ 8) (hl : l.length ≤ 100000) : ∀ (d i : Nat) (o : List Int), i + d = l.length → o.length = i * r →
    Ev (fun k => impl_stuff.l0 k (r : Int) (o ++ List.replicate (d * r) 0) l (l.length : Int) (i : Int)) (o ++ stuffL r (l.drop i)) := by
  intro d
  induction d with
  | zero =>
    intro i o hi ho
    rw [List.drop_eq_nil_of_le (by omega)]
    refine Ev.step (f := fun _ => some (o ++ stuffL r [])) (fun k => ?_) (Ev.now _)
    simp only [impl_stuff.l0]
    rw [if_neg (by omega)]
    simp [stuffL]
  | succ d ih =>
    intro i o hi ho
    have hi' : i < l.length := by omega
    have hb : i * r ≤ 100000 * 8 := Nat.mul_le_mul (by omega) hr
    have e1 : (d + 1) * r = r + d * r := by rw [Nat.add_mul]; omega
    have e2 : List.replicate ((d + 1) * r) (0 : Int) = 0 :: (List.replicate (r - 1) 0 ++ List.replicate (d * r) 0) := by
      rw [e1, show r + d * r = (r - 1 + d * r) + 1 by omega, List.replicate_succ, List.replicate_append_replicate]
    have hset : (o ++ List.replicate ((d + 1) * r) 0).set (i * r) l[i] = ((o ++ [l[i]]) ++ List.replicate (r - 1) 0) ++ List.replicate (d * r) 0 := by
      rw [List.set_append_right _ _ (by omega), ho, Nat.sub_self, e2]
      simp
    have hz := ih (i + 1) ((o ++ [l[i]]) ++ List.replicate (r - 1) 0) (by omega) (by rw [List.length_append, List.length_append, List.length_singleton, List.length_replicate, ho, Nat.add_mul]; omega)
    have e : o ++ stuffL r (l.drop i) = ((o ++ [l[i]]) ++ List.replicate (r - 1) 0) ++ stuffL r (l.drop (i + 1)) := by
      rw [List.drop_eq_getElem_cons hi', stuffL]
      simp
    have hlen : (o ++ List.replicate ((d + 1) * r) 0).length = i * r + (r + d * r) := by rw [List.length_append, List.length_replicate, ho, e1]
    rw [e]
    refine Ev.step (fun k => ?_) hz
    simp only [impl_stuff.l0]
    rw [if_pos (by omega), if_pos (by omega), if_pos (by omega), ← Int.natCast_mul, aid_wr (by omega) (by omega), if_pos (by omega), if_pos (by rw [hlen]; omega), Int.toNat_natCast, aid_rd l i hi', hset, aid_next (by omega)]
theorem impl_stuff.ev (l : List Int) (r : Nat) (h1 : 1 ≤ r) (hr : r ≤ 8) (hl : l.length ≤ 100000) : Ev (fun k => impl_stuff.f k l (r : Int)) (stuffL r l) := by
  have h := impl_stuff.l0_ev l r h1 hr hl l.length 0 [] (by omega) (by simp)
  have hb : l.length * r ≤ 100000 * 8 := Nat.mul_le_mul hl hr
  unfold impl_stuff.f
  refine Ev.congr (fun k => ?_) (by simpa using h)
  rw [← Int.natCast_mul, aid_wr (by omega) (by omega), if_pos (by omega), if_pos (by omega), Int.toNat_natCast]

-- impl_StuffZeros
theorem stuffs_both (l : List Int) (r : Int) : ∃ w : List Int × Bool, Ev (fun k => spec_StuffZeros.f k l r) w ∧ Ev (fun k => impl_StuffZeros.f k l r) w ∧ w.1.length ≤ 64 := by
  unfold spec_StuffZeros.f impl_StuffZeros.f
  rw [impl_isSignal.eq, impl_isRate.eq, spec_l1In.eq]
  have hb := spec_wdSignal.ev l
  have z1 : ∀ x, Ev (fun k => spec_StuffZeros.j0 k l x true) ([], false) := fun x => aid_ev_succ (by simp only [spec_StuffZeros.j0, if_true]; exact Ev.now _)
  have z2 : ∀ x, Ev (fun k => impl_StuffZeros.j0 k l x true) ([], false) := fun x => aid_ev_succ (by simp only [impl_StuffZeros.j0, if_true]; exact Ev.now _)
  cases hB : sigB l with
  | false =>
    rw [hB] at hb
    exact ⟨([], false), Ev.bind hb (z1 r), z2 r, by simp⟩
  | true =>
    rw [hB] at hb
    have hl := ((sigB_iff l).1 hB).1
    by_cases h1 : 1 ≤ r ∧ r ≤ 8
    · obtain ⟨q, rfl⟩ := Int.eq_ofNat_of_zero_le (show 0 ≤ r by omega)
      refine ⟨toldP (stuffL q l), Ev.bind hb ?_, ?_, toldP_len _⟩
      · simp only [h1, and_self, decide_true, Option.bind_some, if_true, Bool.not_true]
        refine aid_ev_succ ?_
        simp only [spec_StuffZeros.j0, Bool.false_eq_true, if_false]
        refine Ev.bind (spec_cbStuff.ev l q (by omega) (by omega) (by omega)) ?_
        exact aid_ev_bind (spec_wdIf.ev _) rfl
      · simp only [h1, and_self, decide_true, Option.bind_some, if_true, Bool.not_true]
        refine aid_ev_succ ?_
        simp only [impl_StuffZeros.j0, Bool.false_eq_true, if_false]
        refine Ev.bind (impl_stuff.ev l q (by omega) (by omega) (by omega)) ?_
        rw [impl_told.eq]
        exact Ev.now _
    · refine ⟨([], false), Ev.bind hb ?_, ?_, by simp⟩
      · simp only [h1, decide_false, Option.bind_some, if_true, Bool.not_false]
        exact z1 r
      · simp only [h1, decide_false, Option.bind_some, if_true, Bool.not_false]
        exact z2 r

theorem FnExactStuffZeros : laws_FnExactStuffZeros.Pure := by
  intro l r _ h8 _ _
  refine Ev.rounds ?_
  unfold laws_FnExactStuffZeros.f
  by_cases hb : (l.length : Int) > 1048576
  · exact Ev.congr (fun k => if_pos hb) (Ev.now _)
  refine Ev.congr (fun k => if_neg hb) ?_
  have hT := laws_toIntS.ev l h8
  obtain ⟨⟨w, b⟩, hs, hi, hw⟩ := stuffs_both l r
  try dsimp only at hw
  have hE := laws_eqIntS.refl w (by omega)
  have hEl := laws_eqIntS.refl l (by omega)
  have hM := laws_markIntS.ev w 1 (by omega) (by omega) (by omega)
  have hMl := laws_markIntS.ev l 1 (by omega) (by omega) (by omega)
  have hH := laws_heldIntS.ev w.length 1 (by omega) (by omega) (by omega)
  have hNb : ¬ ((b != b) = true) := by cases b <;> decide
  have hN1 : ¬ (1 + (w.length : Int) < 0) := by omega
  have hN2 : ¬ (1 + (l.length : Int) < 0) := by omega
  repeat (first
    | exact Ev.now _
    | ((with_reducible refine Ev.bind hT ?_); try dsimp only)
    | ((with_reducible refine Ev.bind hs ?_); try dsimp only)
    | ((with_reducible refine Ev.bind hi ?_); try dsimp only)
    | ((with_reducible refine Ev.bind hE ?_); try dsimp only)
    | ((with_reducible refine Ev.bind hEl ?_); try dsimp only)
    | ((with_reducible refine Ev.bind hM ?_); try dsimp only)
    | ((with_reducible refine Ev.bind hMl ?_); try dsimp only)
    | ((with_reducible refine Ev.bind hH ?_); try dsimp only)
    | (with_reducible refine Ev.congr (fun k => if_pos rfl) ?_)
    | (with_reducible refine Ev.congr (fun k => if_neg hNb) ?_)
    | (with_reducible refine Ev.congr (fun k => if_neg hN1) ?_)
    | (with_reducible refine Ev.congr (fun k => if_neg hN2) ?_)
    | (refine aid_ev_succ ?_; simp only [laws_FnExactStuffZeros.j0, laws_FnExactStuffZeros.j1, laws_FnExactStuffZeros.j2]; try dsimp only))

end Go.Proofs.Ytpcilhakedhkaaa.Pure
