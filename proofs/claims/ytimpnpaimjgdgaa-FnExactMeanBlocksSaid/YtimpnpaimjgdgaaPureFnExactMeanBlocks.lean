/- Proves that the program's MeanBlocks returns what the reference's returns, for all arguments. Conditions: none. -/
import Derived.Test.YtimpnpaimjgdgaaPFnExactMeanBlocksx5
namespace Go.Proofs.Ytimpnpaimjgdgaa.Pure
open Go.RowKit Go.Proofs.Ytimpnpaimjgdgaa.PFnExactMeanBlocks Go.Proofs.YtimpnpaimjgdgaaW.PrintWords Go.Proofs.YtimpnpaimjgdgaaW.PrintLast
set_option linter.unusedSimpArgs false
set_option linter.unusedVariables false

-- Aid
theorem aid_wr {x : Int} (h0 : -9223372036854775808 ≤ x) (h1 : x ≤ 9223372036854775807) : wrap64 x = x := by unfold wrap64; omega
theorem aid_wf {x : Int} (h : (Lit.int .i64 x).wf = true) : -9223372036854775808 ≤ x ∧ x ≤ 9223372036854775807 := by
  have hmin : IntKind.i64.min = -9223372036854775808 := rfl
  have hmax : IntKind.i64.max = 9223372036854775807 := rfl
  simp only [Lit.wf, Bool.and_eq_true, decide_eq_true_eq, hmin, hmax] at h
  exact h
theorem aid_ev_bind {α β : Type} {g : Nat → Option α} {f : α → Option β} {a : α} {r : β} (h : Ev g a) (k : f a = some r) : Ev (fun n => (g n).bind f) r :=
  Ev.bind (f := fun _ => f) h ⟨0, fun _ _ => k⟩
theorem aid_ev_const {α : Type} {o : Option α} {r : α} (h : o = some r) : Ev (fun _ => o) r := ⟨0, fun _ _ => h⟩
theorem aid_tdiv {a b : Int} (ha : 0 ≤ a) : Int.tdiv a b = a / b := Int.tdiv_eq_ediv_of_nonneg ha
theorem aid_tmod {a b : Int} (ha : 0 ≤ a) : Int.tmod a b = a % b := Int.tmod_eq_emod_of_nonneg ha
theorem aid_next {i : Nat} (h : i ≤ 9223372036854775806) : wrap64 ((i : Int) + 1) = ((i + 1 : Nat) : Int) := by rw [aid_wr (by omega) (by omega)]; rfl
theorem aid_rd (l : List Int) (i : Nat) (h : i < l.length) : rd l (i : Int) = l[i] := by
  unfold rd
  rw [List.getD_eq_getElem?_getD, Int.toNat_natCast, List.getElem?_eq_getElem h]
  rfl
theorem aid_ev_succ {α : Type} {g : Nat → Option α} {r : α} (h : Ev (fun k => g (k + 1)) r) : Ev g r := Ev.step (fun _ => rfl) h

-- Combos
theorem aid_four {s : Int} (h : 1 ≤ s ∧ s ≤ 4) : s ∈ [(1 : Int), 2, 3, 4] := by
  have : s = 1 ∨ s = 2 ∨ s = 3 ∨ s = 4 := by omega
  rcases this with h | h | h | h <;> simp [h]
theorem aid_eight {s : Int} (h : 1 ≤ s ∧ s ≤ 8) : s ∈ [(1 : Int), 2, 3, 4, 5, 6, 7, 8] := by
  have : s = 1 ∨ s = 2 ∨ s = 3 ∨ s = 4 ∨ s = 5 ∨ s = 6 ∨ s = 7 ∨ s = 8 := by omega
  rcases this with h | h | h | h | h | h | h | h <;> simp [h]

-- laws_toIntS
theorem aid_fill (l : List Int) (i d : Nat) (h : i + (d + 1) = l.length) : (l.take i ++ List.replicate (d + 1) 0).set i (rd l i) = l.take (i + 1) ++ List.replicate d 0 := by
  have hi' : i < l.length := by omega
  have hlen : (l.take i).length = i := by rw [List.length_take]; omega
  rw [List.set_append_right _ _ (by omega), hlen, Nat.sub_self, aid_rd l i hi', List.take_succ_eq_append_getElem hi', List.append_assoc]
  rfl
theorem laws_toIntS.l0_ev (l : List Int) (hl : l.length ≤ 1000000000000000) : ∀ (d i : Nat), i + d = l.length → Ev (fun k => laws_toIntS.l0 k l (l.take i ++ List.replicate d 0) (i : Int)) l := by
  intro d
  induction d with
  | zero =>
    intro i h
    refine Ev.step (fun k => ?_) (Ev.now _)
    simp only [laws_toIntS.l0]
    rw [if_neg (by omega), List.take_of_length_le (by omega)]
    simp
  | succ d ih =>
    intro i h
    refine Ev.step (fun k => ?_) (ih (i + 1) (by omega))
    have hlen : (l.take i ++ List.replicate (d + 1) 0).length = l.length := by
      rw [List.length_append, List.length_take, List.length_replicate]; omega
    simp only [laws_toIntS.l0]
    rw [if_pos (by omega), if_pos (by omega), if_pos (by rw [hlen]; omega), aid_next (by omega), Int.toNat_natCast, aid_fill l i d h]
theorem laws_toIntS.ev (l : List Int) (hl : l.length * 8 ≤ 140737488351232) : Ev (fun k => laws_toIntS.f k l) l := by
  unfold laws_toIntS.f
  have h := laws_toIntS.l0_ev l (by omega) l.length 0 (by omega)
  refine Ev.congr (fun k => ?_) h
  rw [if_pos (by omega), if_pos (by omega)]
  simp

-- laws_eqIntS
theorem laws_eqIntS.l0_refl (l : List Int) (hl : l.length ≤ 1000000000000000) : ∀ (d i : Nat), i + d = l.length → Ev (fun k => laws_eqIntS.l0 k l l (i : Int)) true := by
  intro d
  induction d with
  | zero =>
    intro i h
    refine Ev.step (fun k => ?_) (Ev.now _)
    simp only [laws_eqIntS.l0]
    rw [if_neg (by omega)]
  | succ d ih =>
    intro i h
    refine Ev.step (fun k => ?_) (ih (i + 1) (by omega))
    simp only [laws_eqIntS.l0]
    rw [if_pos (by omega), if_pos (by omega), if_pos (by omega), if_pos trivial, aid_next (by omega)]
theorem laws_eqIntS.refl (l : List Int) (hl : l.length ≤ 1000000000000000) : Ev (fun k => laws_eqIntS.f k l l) true := by
  unfold laws_eqIntS.f
  exact Ev.congr (fun k => if_pos rfl) (laws_eqIntS.l0_refl l hl l.length 0 (by omega))

-- Mark
def marksL : Nat → Int → List Int
  | 0, _ => []
  | n + 1, a => marksL n a ++ [a + (n : Int)]
theorem marksL_length (a : Int) : ∀ n, (marksL n a).length = n
  | 0 => rfl
  | n + 1 => by rw [marksL, List.length_append, marksL_length a n]; rfl
theorem marksL_get (a : Int) : ∀ (n i : Nat) (h : i < (marksL n a).length), (marksL n a)[i] = a + (i : Int)
  | n + 1, i, h => by
    have hl := marksL_length a n
    have hl' := marksL_length a (n + 1)
    simp only [marksL]
    by_cases hi : i < n
    · rw [List.getElem_append_left (by omega)]
      exact marksL_get a n i (by omega)
    · have e : i = n := by omega
      subst e
      rw [List.getElem_append_right (by omega)]
      simp

-- laws_markIntS
theorem laws_markIntS.l0_ev (l : List Int) (a : Int) (hl : l.length ≤ 1000000000000000) (h0 : 0 ≤ a) (h1 : a ≤ 1000000000000000) : ∀ (d i : Nat), i + d = l.length → Ev (fun k => laws_markIntS.l0 k (marksL i a ++ l.drop i) (a + (i : Int)) (i : Int)) (a + (l.length : Int), marksL l.length a) := by
  intro d
  induction d with
  | zero =>
    intro i h
    have hlen : (marksL i a ++ l.drop i).length = l.length := by rw [List.length_append, marksL_length, List.length_drop]; omega
    refine Ev.step (f := fun _ => some (a + (l.length : Int), marksL l.length a)) (fun k => ?_) (Ev.now _)
    simp only [laws_markIntS.l0]
    rw [if_neg (by rw [hlen]; omega), List.drop_eq_nil_of_le (by omega), List.append_nil]
    obtain rfl : i = l.length := by omega
    rfl
  | succ d ih =>
    intro i h
    have hi' : i < l.length := by omega
    have hlen : (marksL i a ++ l.drop i).length = l.length := by rw [List.length_append, marksL_length, List.length_drop]; omega
    refine Ev.step (fun k => ?_) (ih (i + 1) (by omega))
    simp only [laws_markIntS.l0]
    have hset : (marksL i a ++ l.drop i).set i (a + (i : Int)) = marksL (i + 1) a ++ l.drop (i + 1) := by
      rw [List.set_append_right _ _ (by rw [marksL_length]; omega), marksL_length, Nat.sub_self, List.drop_eq_getElem_cons hi', marksL, List.append_assoc]
      rfl
    rw [if_pos (by rw [hlen]; omega), if_pos (by omega), Int.toNat_natCast, hset, aid_next (by omega), aid_wr (x := a + (i : Int) + 1) (by omega) (by omega)]
    rw [show a + (i : Int) + 1 = a + ((i + 1 : Nat) : Int) by omega]
theorem laws_markIntS.ev (l : List Int) (a : Int) (hl : l.length ≤ 1000000000000000) (h0 : 0 ≤ a) (h1 : a ≤ 1000000000000000) : Ev (fun k => laws_markIntS.f k l a) (a + (l.length : Int), marksL l.length a) := by
  have h := laws_markIntS.l0_ev l a hl h0 h1 l.length 0 (by omega)
  simp only [marksL, List.nil_append, List.drop_zero] at h
  unfold laws_markIntS.f
  simpa using h

-- laws_heldIntS
theorem laws_heldIntS.l0_ev (n : Nat) (a : Int) (hl : n ≤ 1000000000000000) (h0 : 0 ≤ a) (h1 : a ≤ 1000000000000000) : ∀ (d i : Nat), i + d = n → Ev (fun k => laws_heldIntS.l0 k (marksL n a) (a + (i : Int)) (i : Int)) (a + (n : Int)) := by
  have hlen := marksL_length a n
  intro d
  induction d with
  | zero =>
    intro i h
    refine Ev.step (f := fun _ => some (a + (n : Int))) (fun k => ?_) (Ev.now _)
    simp only [laws_heldIntS.l0]
    rw [if_neg (by rw [hlen]; omega)]
    obtain rfl : i = n := by omega
    rfl
  | succ d ih =>
    intro i h
    refine Ev.step (fun k => ?_) (ih (i + 1) (by omega))
    simp only [laws_heldIntS.l0]
    rw [if_pos (by rw [hlen]; omega), if_pos (by omega), aid_rd _ i (by omega), marksL_get, if_pos rfl, aid_next (by omega), aid_wr (x := a + (i : Int) + 1) (by omega) (by omega)]
    rw [show a + (i : Int) + 1 = a + ((i + 1 : Nat) : Int) by omega]
theorem laws_heldIntS.ev (n : Nat) (a : Int) (hl : n ≤ 1000000000000000) (h0 : 0 ≤ a) (h1 : a ≤ 1000000000000000) : Ev (fun k => laws_heldIntS.f k (marksL n a) a) (a + (n : Int)) := by
  have h := laws_heldIntS.l0_ev n a hl h0 h1 n 0 (by omega)
  unfold laws_heldIntS.f
  simpa using h

-- spec_l1In
theorem spec_l1In.eq (a lo hi : Int) : spec_l1In.f a lo hi = some (decide (lo ≤ a ∧ a ≤ hi)) := by
  unfold spec_l1In.f
  by_cases h : lo ≤ a <;> simp [h]

-- spec_l1All
theorem spec_l1All.l0_ev (lo hi : Int) (l : List Int) (hl : l.length ≤ 1000000000000000) : ∀ (d i : Nat), i + d = l.length → Ev (fun k => spec_l1All.l0 k lo hi l (l.length : Int) (i : Int)) ((l.drop i).all fun x => decide (lo ≤ x ∧ x ≤ hi)) := by
  intro d
  induction d with
  | zero =>
    intro i h
    rw [List.drop_eq_nil_of_le (by omega)]
    refine Ev.step (fun k => ?_) (Ev.now _)
    simp only [spec_l1All.l0]
    rw [if_neg (by omega)]
    rfl
  | succ d ih =>
    intro i h
    have hi' : i < l.length := by omega
    rw [List.drop_eq_getElem_cons hi', List.all_cons, ← aid_rd l i hi']
    by_cases hc : lo ≤ rd l i ∧ rd l i ≤ hi
    · refine Ev.step (fun k => ?_) (by simpa [hc] using ih (i + 1) (by omega))
      simp only [spec_l1All.l0]
      rw [if_pos (by omega), if_pos (by omega), if_pos (by omega), spec_l1In.eq, aid_next (by omega)]
      simp [hc]
    · refine Ev.step (f := fun _ => some false) (fun k => ?_) (by simpa [hc] using Ev.now false)
      simp only [spec_l1All.l0]
      rw [if_pos (by omega), if_pos (by omega), if_pos (by omega), spec_l1In.eq]
      simp [hc]
theorem spec_l1All.ev (lo hi : Int) (l : List Int) (hl : l.length ≤ 1000000000000000) : Ev (fun k => spec_l1All.f k l lo hi) (l.all fun x => decide (lo ≤ x ∧ x ≤ hi)) :=
  spec_l1All.l0_ev lo hi l hl l.length 0 (by omega)

-- Sig
def sigB (l : List Int) : Bool := decide (l.length ≤ 64) && l.all fun x => decide (-100000 ≤ x ∧ x ≤ 100000)
theorem sigB_iff (l : List Int) : sigB l = true ↔ l.length ≤ 64 ∧ ∀ x ∈ l, -100000 ≤ x ∧ x ≤ 100000 := by
  simp [sigB]
def toldP (l : List Int) : List Int × Bool := if sigB l then (l, true) else ([], false)
theorem toldP_len (l : List Int) : (toldP l).1.length ≤ 64 := by
  unfold toldP
  cases h : sigB l with
  | true => simpa using ((sigB_iff l).1 h).1
  | false => simp

-- spec_wdSignal
theorem spec_wdSignal.ev (l : List Int) : Ev (fun k => spec_wdSignal.f k l) (sigB l) := by
  unfold spec_wdSignal.f sigB
  by_cases h : l.length ≤ 64
  · have e := spec_l1All.ev (-100000) 100000 l (by omega)
    simp only [h, decide_true, Bool.true_and]
    refine Ev.congr (fun k => if_pos (by omega)) (aid_ev_bind e rfl)
  · simp only [h, decide_false, Bool.false_and]
    refine Ev.congr (fun k => if_neg (by omega)) (Ev.now _)

-- spec_wdShift
theorem spec_wdShift.one (x : Int) (h0 : -1000000000000 ≤ x) (h1 : x ≤ 1000000000000) : Ev (fun k => spec_wdShift.f k x 1 0) (x / 2) := by
  have hs : shl .i64 1 1 = 2 := rfl
  unfold spec_wdShift.f
  have hj : ∀ (y : Int) , y = x / 2 → Ev (fun k => spec_wdShift.j0 k x 0 2 y) (x / 2) := by
    intro y hy
    refine aid_ev_succ ?_
    simp only [spec_wdShift.j0]
    refine Ev.congr (fun k => if_neg (by decide)) ?_
    refine aid_ev_succ ?_
    simp only [spec_wdShift.j1]
    subst hy
    simp
    exact Ev.now _
  rw [hs]
  have e : Int.tmod x 2 = if x < 0 ∧ x % 2 = 1 then -1 else x % 2 := by
    rw [Int.tmod_eq_emod]
    split <;> split <;> omega
  have e2 : Int.tdiv x 2 = if x < 0 ∧ x % 2 = 1 then x / 2 + 1 else x / 2 := by
    rw [Int.tdiv_eq_ediv, show Int.sign 2 = 1 from rfl]
    split <;> split <;> omega
  rw [e, e2]
  by_cases hc : x < 0 ∧ x % 2 = 1
  · simp only [hc, and_self, if_true]
    rw [aid_wr (x := x / 2 + 1) (by omega) (by omega), aid_wr (x := x / 2 + 1 - 1) (by omega) (by omega)]
    exact hj _ (by omega)
  · rw [if_neg hc, if_neg hc, aid_wr (x := x / 2) (by omega) (by omega)]
    have : ¬ x % 2 < 0 := by omega
    simp only [this, if_false]
    exact hj _ rfl

-- Sums
def sumL : List Int → Int → Int
  | [], a => a
  | x :: r, a => sumL r (a + x)
theorem sumL_add : ∀ (l : List Int) (a : Int), sumL l a = a + sumL l 0
  | [], a => by simp [sumL]
  | x :: r, a => by
    rw [sumL, sumL, sumL_add r (a + x), sumL_add r (0 + x)]
    omega
theorem sumL_cons (x : Int) (r : List Int) : sumL (x :: r) 0 = x + sumL r 0 := by
  rw [sumL, sumL_add]
  omega
theorem sumL_bound (B : Nat) : ∀ (l : List Int), (∀ x ∈ l, -(B : Int) ≤ x ∧ x ≤ B) → -((l.length * B : Nat) : Int) ≤ sumL l 0 ∧ sumL l 0 ≤ ((l.length * B : Nat) : Int)
  | [], _ => by simp [sumL]
  | x :: r, h => by
    have h1 := h x (by simp)
    have h2 := sumL_bound B r (fun y hy => h y (by simp [hy]))
    rw [sumL_cons, List.length_cons, Nat.add_mul]
    omega

-- spec_wdSum
theorem spec_wdSum.l0_ev (l : List Int) (hl : l.length ≤ 1000000) (hx : ∀ x ∈ l, -1000000000 ≤ x ∧ x ≤ 1000000000) : ∀ (d i : Nat) (a : Int), i + d = l.length → -(1000000000 * (i : Int)) ≤ a → a ≤ 1000000000 * (i : Int) →
    Ev (fun k => spec_wdSum.l0 k a l (l.length : Int) (i : Int)) (sumL (l.drop i) a) := by
  intro d
  induction d with
  | zero =>
    intro i a hi h0 h1
    rw [List.drop_eq_nil_of_le (by omega)]
    refine Ev.step (f := fun _ => some (sumL [] a)) (fun k => ?_) (Ev.now _)
    simp only [spec_wdSum.l0]
    rw [if_neg (by omega)]
    rfl
  | succ d ih =>
    intro i a hi h0 h1
    have hi' : i < l.length := by omega
    have hxi := hx l[i] (List.getElem_mem hi')
    rw [List.drop_eq_getElem_cons hi', sumL]
    refine Ev.step (fun k => ?_) (ih (i + 1) (a + l[i]) (by omega) (by omega) (by omega))
    simp only [spec_wdSum.l0]
    rw [if_pos (by omega), if_pos (by omega), if_pos (by omega), aid_rd l i hi', aid_wr (x := a + l[i]) (by omega) (by omega), aid_next (by omega)]
theorem spec_wdSum.ev (l : List Int) (hl : l.length ≤ 1000000) (hx : ∀ x ∈ l, -1000000000 ≤ x ∧ x ≤ 1000000000) : Ev (fun k => spec_wdSum.f k l) (sumL l 0) :=
  spec_wdSum.l0_ev l hl hx l.length 0 0 (by omega) (by omega) (by omega)

-- impl_isSignal
theorem impl_isSignal.eq (l : List Int) : impl_isSignal.f l = some (sigB l) := by
  unfold impl_isSignal.f sigB
  have e1 : decide ((l.length : Int) ≤ 64) = decide (l.length ≤ 64) := by
    rw [Bool.eq_iff_iff]; simp; omega
  have e2 : (!(l.any fun x => !(decide (-100000 ≤ x) && decide (x ≤ 100000)))) = l.all fun x => decide (-100000 ≤ x ∧ x ≤ 100000) := by
    rw [List.not_any_eq_all_not]
    congr 1
    funext x
    rw [Bool.eq_iff_iff]
    simp
  rw [e1, e2]

-- impl_in
theorem impl_in.eq (a lo hi : Int) : impl_in.f a lo hi = some (decide (lo ≤ a ∧ a ≤ hi)) := by
  unfold impl_in.f
  by_cases h : lo ≤ a <;> simp [h]

-- impl_isRate
theorem impl_isRate.eq (x : Int) : impl_isRate.f x = some (decide (1 ≤ x ∧ x ≤ 8)) := by
  unfold impl_isRate.f
  rw [impl_in.eq]
  rfl

-- Shift
def shI (P mode x : Int) : Int := if (mode = 1 ∧ 2 * (x % P) ≥ P ∧ x % P > 0) ∨ (mode = 2 ∧ x < 0 ∧ x % P > 0) then x / P + 1 else x / P
theorem aid_div {x P y : Int} (hP : 0 < P) (h0 : 0 ≤ x - P * y) (h1 : x - P * y < P) : x / P = y :=
  ((Int.ediv_emod_unique hP (a := x) (r := x - P * y) (q := y)).2 ⟨by omega, h0, h1⟩).1
theorem shift_shl (s : Nat) (hs : s ≤ 20) : shl .i64 1 (s : Int) = 2 ^ s := by
  have h : ∀ s : Fin 21, shl .i64 1 ((s.val : Nat) : Int) = 2 ^ s.val := by decide +kernel
  exact h ⟨s, by omega⟩
theorem shift_shr (s : Nat) (hs : s ≤ 20) (x : Int) : shr .i64 x (s : Int) = x / 2 ^ s := by
  unfold shr
  have e : min ((s : Int)).toNat IntKind.i64.bits = s := by
    rw [Int.toNat_natCast, show IntKind.i64.bits = 64 from rfl]
    omega
  rw [e]
theorem shift_pow (s : Nat) (hs : s ≤ 20) : (1 : Int) ≤ 2 ^ s ∧ (2 : Int) ^ s ≤ 1048576 := by
  have h : ∀ s : Fin 21, (1 : Int) ≤ 2 ^ s.val ∧ (2 : Int) ^ s.val ≤ 1048576 := by decide +kernel
  exact h ⟨s, by omega⟩
theorem shift_mul {P u : Int} (hP : 1 ≤ P) (hu : 0 ≤ u) : u ≤ P * u := by
  have := Int.mul_le_mul_of_nonneg_right hP hu
  omega
theorem shift_div (x P : Int) (hP : 1 ≤ P) : x = P * (x / P) + x % P ∧ 0 ≤ x % P ∧ x % P < P ∧ (0 ≤ x → 0 ≤ x / P ∧ x / P ≤ x) ∧ (x < 0 → x ≤ x / P ∧ x / P < 0) := by
  have h1 := Int.mul_ediv_add_emod x P
  have h2 := Int.emod_nonneg x (show P ≠ 0 by omega)
  have h3 := Int.emod_lt_of_pos x (show 0 < P by omega)
  refine ⟨by omega, h2, h3, fun h => ?_, fun h => ?_⟩
  · have h4 := Int.ediv_nonneg h (show 0 ≤ P by omega)
    have h5 := shift_mul hP h4
    omega
  · have h4 : x / P < 0 := Int.ediv_neg_of_neg_of_pos h (by omega)
    have h5 := shift_mul hP (show 0 ≤ -(x / P) - 1 by omega)
    have h6 : P * (-(x / P) - 1) = -(P * (x / P)) - P := by rw [Int.mul_sub, Int.mul_neg, Int.mul_one]
    omega
theorem shI_bound (P mode x B : Int) (hP : 1 ≤ P) (hB : 0 ≤ B) (h0 : -(P * B) ≤ x) (h1 : x ≤ P * B) : -B ≤ shI P mode x ∧ shI P mode x ≤ B := by
  obtain ⟨e, r0, r1, _, _⟩ := shift_div x P hP
  have hlo : -B ≤ x / P := by
    apply Int.le_ediv_of_mul_le (by omega)
    rw [Int.neg_mul, Int.mul_comm B P]
    exact h0
  have hhi : x / P ≤ B := by
    apply Int.ediv_le_of_le_mul (by omega)
    rw [Int.mul_comm B P]
    exact h1
  have hhi2 : x % P > 0 → x / P + 1 ≤ B := by
    intro hr
    apply Classical.byContradiction
    intro hc
    have e2 : x / P = B := by omega
    rw [e2] at e
    omega
  unfold shI
  split
  · rename_i h
    rcases h with h | h
    · have := hhi2 h.2.2
      omega
    · have := hhi2 h.2.2
      omega
  · omega

-- impl_shifted
theorem impl_shifted.ev (s : Nat) (hs : s ≤ 20) (x mode : Int) (hx0 : -1000000000000 ≤ x) (hx1 : x ≤ 1000000000000) : Ev (fun k => impl_shifted.f k x (s : Int) mode) (shI (2 ^ s) mode x) := by
  have hN : mode ≠ 1 ∨ s = 0 → Ev (fun k => impl_shifted.j0 k x (s : Int) mode false) (shI (2 ^ s) mode x) := by
    intro hm
    refine aid_ev_succ ?_
    simp only [impl_shifted.j0, shift_shr s hs, Bool.false_eq_true, if_false]
    have hz : s = 0 → x % 2 ^ s = 0 := fun h => by rw [h, Int.pow_zero, Int.emod_one]
    obtain ⟨hP0, hP1⟩ := shift_pow s hs
    generalize (2 : Int) ^ s = P at hP0 hP1 hz ⊢
    obtain ⟨e, r0, r1, d0, d1⟩ := shift_div x P hP0
    unfold shI
    by_cases hm2 : mode = 2
    · by_cases hx : x < 0
      · rw [if_pos hm2, if_pos hx, if_pos (by omega), aid_wr (x := -x) (by omega) (by omega)]
        obtain ⟨f, s0, s1, b0, b1⟩ := shift_div (-x) P hP0
        have hb := b0 (by omega)
        rw [aid_wr (x := -(-x / P)) (by omega) (by omega)]
        by_cases hr : x % P > 0
        · rw [if_pos (Or.inr ⟨hm2, hx, hr⟩)]
          have : -x / P = -(x / P + 1) := aid_div (by omega) (by rw [Int.mul_neg, Int.mul_add, Int.mul_one]; omega) (by rw [Int.mul_neg, Int.mul_add, Int.mul_one]; omega)
          rw [this, Int.neg_neg]
          exact Ev.now _
        · rw [if_neg (by omega)]
          have : -x / P = -(x / P) := aid_div (by omega) (by rw [Int.mul_neg]; omega) (by rw [Int.mul_neg]; omega)
          rw [this, Int.neg_neg]
          exact Ev.now _
      · rw [if_pos hm2, if_neg hx, if_pos (by omega), if_neg (by omega)]
        exact Ev.now _
    · rw [if_neg hm2, if_pos (by omega), if_neg (by omega)]
      exact Ev.now _
  unfold impl_shifted.f
  by_cases hm : mode = 1
  · refine Ev.congr (fun k => if_pos hm) ?_
    by_cases hs0 : s = 0
    · rw [decide_eq_false (by omega)]
      exact hN (.inr hs0)
    · rw [decide_eq_true (by omega)]
      refine aid_ev_succ ?_
      obtain ⟨t, rfl⟩ : ∃ t, s = t + 1 := ⟨s - 1, by omega⟩
      have et : wrap64 (((t + 1 : Nat) : Int) - 1) = (t : Int) := by
        rw [aid_wr (by omega) (by omega)]
        omega
      simp only [impl_shifted.j0, shift_shr (t + 1) hs, if_true, et, shift_shl t (by omega)]
      clear et
      have hpw : (2 : Int) ^ (t + 1) = 2 * 2 ^ t := by rw [Int.pow_succ, Int.mul_comm]
      obtain ⟨hP0, hP1⟩ := shift_pow t (by omega)
      rw [hpw]
      generalize (2 : Int) ^ t = H at hP0 hP1 ⊢
      obtain ⟨e, r0, r1, d0, d1⟩ := shift_div x (2 * H) (by omega)
      rw [if_pos (by omega), if_pos (by omega), aid_wr (x := x + H) (by omega) (by omega)]
      unfold shI
      by_cases hr : 2 * (x % (2 * H)) ≥ 2 * H
      · rw [if_pos (Or.inl ⟨hm, hr, by omega⟩)]
        have : (x + H) / (2 * H) = x / (2 * H) + 1 := aid_div (by omega) (by rw [Int.mul_add, Int.mul_one]; omega) (by rw [Int.mul_add, Int.mul_one]; omega)
        rw [this]
        exact Ev.now _
      · rw [if_neg (by omega)]
        have : (x + H) / (2 * H) = x / (2 * H) := aid_div (by omega) (by omega) (by omega)
        rw [this]
        exact Ev.now _
  · refine Ev.congr (fun k => if_neg hm) ?_
    exact hN (.inl hm)

-- impl_sum
theorem impl_sum.l0_ev (l : List Int) (hl : l.length ≤ 1000000) (hx : ∀ x ∈ l, -1000000000 ≤ x ∧ x ≤ 1000000000) : ∀ (d i : Nat) (a : Int), i + d = l.length → -(1000000000 * (i : Int)) ≤ a → a ≤ 1000000000 * (i : Int) →
    Ev (fun k => impl_sum.l0 k a l (l.length : Int) (i : Int)) (sumL (l.drop i) a) := by
  intro d
  induction d with
  | zero =>
    intro i a hi h0 h1
    rw [List.drop_eq_nil_of_le (by omega)]
    refine Ev.step (f := fun _ => some (sumL [] a)) (fun k => ?_) (Ev.now _)
    simp only [impl_sum.l0]
    rw [if_neg (by omega)]
    rfl
  | succ d ih =>
    intro i a hi h0 h1
    have hi' : i < l.length := by omega
    have hxi := hx l[i] (List.getElem_mem hi')
    rw [List.drop_eq_getElem_cons hi', sumL]
    refine Ev.step (fun k => ?_) (ih (i + 1) (a + l[i]) (by omega) (by omega) (by omega))
    simp only [impl_sum.l0]
    rw [if_pos (by omega), if_pos (by omega), if_pos (by omega), aid_rd l i hi', aid_wr (x := a + l[i]) (by omega) (by omega), aid_next (by omega)]
theorem impl_sum.ev (l : List Int) (hl : l.length ≤ 1000000) (hx : ∀ x ∈ l, -1000000000 ≤ x ∧ x ≤ 1000000000) : Ev (fun k => impl_sum.f k l) (sumL l 0) :=
  impl_sum.l0_ev l hl hx l.length 0 0 (by omega) (by omega) (by omega)

-- impl_told
theorem impl_told.eq (l : List Int) : impl_told.f l = some (toldP l) := by
  unfold impl_told.f toldP
  rw [impl_isSignal.eq]
  cases sigB l <;> rfl

-- spec_wdShift.gen
theorem spec_wdShift.gen (s : Nat) (hs : s ≤ 20) (x mode : Int) (hx0 : -1000000000000 ≤ x) (hx1 : x ≤ 1000000000000) : Ev (fun k => spec_wdShift.f k x (s : Int) mode) (shI (2 ^ s) mode x) := by
  unfold spec_wdShift.f
  obtain ⟨hP0, hP1⟩ := shift_pow s hs
  rw [shift_shl s hs]
  generalize (2 : Int) ^ s = P at hP0 hP1 ⊢
  obtain ⟨e, r0, r1, d0, d1⟩ := shift_div x P hP0
  have hj : ∀ y : Int, y = x / P → Ev (fun k => spec_wdShift.j0 k x mode P y) (shI P mode x) := by
    intro y hy
    subst hy
    refine aid_ev_succ ?_
    have eq1 : wrap64 (x - wrap64 (x / P * P)) = x % P := by
      rw [Int.mul_comm]
      rw [aid_wr (x := P * (x / P)) (by omega) (by omega), aid_wr (by omega) (by omega)]
      omega
    have eq2 : wrap64 (2 * (x % P)) = 2 * (x % P) := aid_wr (by omega) (by omega)
    have eq3 : wrap64 (x / P + 1) = x / P + 1 := by
      apply aid_wr <;> by_cases hx : 0 ≤ x
      · have := d0 hx; omega
      · have := d1 (by omega); omega
      · have := d0 hx; omega
      · have := d1 (by omega); omega
    simp only [spec_wdShift.j0, eq1, eq2]
    clear eq1 eq2
    have EQ3 := Aside0.mk eq3
    clear eq3
    have hT : ∀ c : Bool, (c = true → shI P mode x = x / P + 1) → (c = false → mode = 1 → shI P mode x = x / P) → (c = true → mode = 1) → Ev (fun k => spec_wdShift.j1 k x mode (x / P) (x % P) c) (shI P mode x) := by
      intro c h1 h2 h3
      refine aid_ev_succ ?_
      simp only [spec_wdShift.j1, EQ3.out]
      cases c with
      | true =>
        rw [h1 rfl]
        simp only [if_true]
        exact Ev.now _
      | false =>
        simp only [if_false, Bool.false_eq_true]
        by_cases hm : mode = 1
        · rw [h2 rfl hm]
          rw [if_neg (by omega)]
          exact Ev.now _
        · unfold shI
          by_cases hm2 : mode = 2
          · by_cases hx : x < 0
            · by_cases hr : x % P > 0
              · rw [if_pos hm2, if_pos hx, if_pos hr, if_pos (Or.inr ⟨hm2, hx, hr⟩)]
                exact Ev.now _
              · rw [if_pos hm2, if_pos hx, if_neg hr, if_neg (by omega)]
                exact Ev.now _
            · rw [if_pos hm2, if_neg hx, if_neg (by omega)]
              exact Ev.now _
          · rw [if_neg hm2, if_neg (by omega)]
            exact Ev.now _
    by_cases hm : mode = 1
    · by_cases h2 : 2 * (x % P) ≥ P
      · simp only [if_pos hm, if_pos h2]
        refine hT _ (fun hc => ?_) (fun hc _ => ?_) (fun _ => hm)
        · exact if_pos (Or.inl ⟨hm, h2, of_decide_eq_true hc⟩)
        · have := of_decide_eq_false hc
          exact if_neg (by omega)
      · simp only [if_pos hm, if_neg h2]
        refine hT _ (fun hc => absurd hc (by decide)) (fun hc _ => if_neg (by omega)) (fun _ => hm)
    · simp only [if_neg hm]
      exact hT _ (fun hc => absurd hc (by decide)) (fun _ h => absurd h hm) (fun hc => absurd hc (by decide))
  refine Ev.congr (fun k => if_pos (by omega)) ?_
  refine Ev.congr (fun k => if_neg (by omega)) ?_
  by_cases hx : 0 ≤ x
  · have e1 : Int.tmod x P = x % P := aid_tmod hx
    have e2 : Int.tdiv x P = x / P := aid_tdiv hx
    have := d0 hx
    rw [e1, e2]
    refine Ev.congr (fun k => if_neg (by omega)) ?_
    rw [aid_wr (x := x / P) (by omega) (by omega)]
    exact hj _ rfl
  · obtain ⟨z, rfl⟩ : ∃ z, x = -z := ⟨-x, by omega⟩
    obtain ⟨f, s0, s1, b0, b1⟩ := shift_div z P hP0
    have e1 : Int.tmod (-z) P = -(z % P) := by rw [Int.neg_tmod, aid_tmod (by omega)]
    have e2 : Int.tdiv (-z) P = -(z / P) := by rw [Int.neg_tdiv, aid_tdiv (by omega)]
    have := b0 (by omega)
    rw [e1, e2, aid_wr (x := -(z / P)) (by omega) (by omega)]
    by_cases hr : -(z % P) < 0
    · refine Ev.congr (fun k => if_pos hr) ?_
      rw [aid_wr (x := -(z / P) - 1) (by omega) (by omega)]
      refine hj _ (aid_div (by omega) ?_ ?_).symm
      · rw [Int.mul_sub, Int.mul_neg, Int.mul_one]
        omega
      · rw [Int.mul_sub, Int.mul_neg, Int.mul_one]
        omega
    · refine Ev.congr (fun k => if_neg hr) ?_
      refine hj _ (aid_div (by omega) ?_ ?_).symm
      · rw [Int.mul_neg]
        omega
      · rw [Int.mul_neg]
        omega

theorem sumL_take_bound (l : List Int) (hx : ∀ x ∈ l, -100000 ≤ x ∧ x ≤ 100000) (i j : Nat) (n : Nat) (h : j ≤ i + n) : -((n : Int) * 100000) ≤ sumL ((l.take j).drop i) 0 ∧ sumL ((l.take j).drop i) 0 ≤ (n : Int) * 100000 := by
  have h1 := sumL_bound 100000 ((l.take j).drop i) (fun x hh => by have := hx x (List.mem_of_mem_take (List.mem_of_mem_drop hh)); omega)
  have h2 : ((l.take j).drop i).length ≤ n := by
    rw [List.length_drop, List.length_take]
    omega
  generalize ((l.take j).drop i).length = z at *
  omega
theorem mean_l1 (l : List Int) (hl : l.length ≤ 64) (hx : ∀ x ∈ l, -100000 ≤ x ∧ x ≤ 100000) (s p : Nat) (hs : s ≤ 20) (hp : (2 : Int) ^ s = p) (hp1 : 1 ≤ p) (hp8 : p ≤ 8) (mode : Int) : ∀ (d i : Nat) (o : List Int), i + d = l.length → o.length ≤ i → (∀ x ∈ o, -100000 ≤ x ∧ x ≤ 100000) →
    ∃ r : List Int, Ev (fun k => spec_MeanBlocks.l1 k l (p : Int) mode (s : Int) o (i : Int)) (r, true) ∧ Ev (fun k => impl_MeanBlocks.l1 k l (p : Int) mode (s : Int) o (i : Int)) (r, true) ∧ r.length ≤ 64 := by
  intro d
  induction d using Nat.strongRecOn with
  | ind d ih =>
    intro i o hi ho hox
    by_cases hc : i + p ≤ l.length
    · have hsl : ((l.take (i + p)).drop i).length ≤ 1000000 := by
        rw [List.length_drop, List.length_take]
        omega
      have hxx : ∀ x ∈ (l.take (i + p)).drop i, -1000000000 ≤ x ∧ x ≤ 1000000000 := fun x h => by have := hx x (List.mem_of_mem_take (List.mem_of_mem_drop h)); omega
      have h1 := spec_wdSum.ev _ hsl hxx
      have h2 := impl_sum.ev _ hsl hxx
      have hbd := sumL_take_bound l hx i (i + p) p (by omega)
      generalize sumL ((l.take (i + p)).drop i) 0 = y at h1 h2 hbd
      have h3 := spec_wdShift.gen s hs y mode (by omega) (by omega)
      have h4 := impl_shifted.ev s hs y mode (by omega) (by omega)
      have hb := shI_bound (2 ^ s) mode y 100000 (by omega) (by omega) (by rw [hp]; omega) (by rw [hp]; omega)
      generalize shI (2 ^ s) mode y = q at h3 h4 hb
      obtain ⟨r, hr1, hr2, hr3⟩ := ih (d - p) (by omega) (i + p) (o ++ [q]) (by omega) (by rw [List.length_append, List.length_singleton]; omega) (by
        intro x h
        rcases List.mem_append.1 h with h | h
        · exact hox x h
        · rw [List.mem_singleton.1 h]
          exact hb)
      have hw : wrap64 ((i : Int) + (p : Int)) = ((i + p : Nat) : Int) := by
        rw [aid_wr (by omega) (by omega)]
        omega
      have HW := Aside0.mk hw
      clear hw
      refine ⟨r, aid_ev_succ ?_, aid_ev_succ ?_, hr3⟩
      · simp only [spec_MeanBlocks.l1, HW.out, Int.toNat_natCast]
        refine Ev.congr (fun k => if_pos (by omega)) ?_
        refine Ev.congr (fun k => if_pos (by omega)) ?_
        refine Ev.congr (fun k => if_pos (by omega)) ?_
        refine Ev.bind h1 ?_
        refine Ev.bind h3 ?_
        exact Ev.congr (fun k => if_pos (by omega)) hr1
      · simp only [impl_MeanBlocks.l1, HW.out, Int.toNat_natCast]
        refine Ev.congr (fun k => if_pos (by omega)) ?_
        refine Ev.congr (fun k => if_pos (by omega)) ?_
        refine Ev.congr (fun k => if_pos (by omega)) ?_
        refine Ev.bind h2 ?_
        refine Ev.bind h4 ?_
        exact Ev.congr (fun k => if_pos (by omega)) hr2
    · have ht : toldP o = (o, true) := by
        unfold toldP
        rw [if_pos ((sigB_iff o).2 ⟨by omega, hox⟩)]
      have hw : wrap64 ((i : Int) + (p : Int)) = ((i + p : Nat) : Int) := by
        rw [aid_wr (by omega) (by omega)]
        omega
      refine ⟨o, aid_ev_succ ?_, aid_ev_succ ?_, by omega⟩
      · simp only [spec_MeanBlocks.l1, hw]
        exact Ev.congr (fun k => if_neg (by omega)) (Ev.now _)
      · simp only [impl_MeanBlocks.l1, hw, impl_told.eq, ht]
        exact Ev.congr (fun k => if_neg (by omega)) (Ev.now _)
theorem mean_and (a : Int) (h : 1 ≤ a ∧ a ≤ 8) : ((Go.bits .and .i64 a (wrap64 (a - 1))) != 0) = decide (a ≠ 1 ∧ a ≠ 2 ∧ a ≠ 4 ∧ a ≠ 8) := by
  have hh : ∀ a ∈ [(1 : Int), 2, 3, 4, 5, 6, 7, 8], ((Go.bits .and .i64 a (wrap64 (a - 1))) != 0) = decide (a ≠ 1 ∧ a ≠ 2 ∧ a ≠ 4 ∧ a ≠ 8) := by decide +kernel
  exact hh a (aid_eight h)
theorem mean_exp (l : List Int) (p mode : Int) : ∃ e : Nat, e ≤ 10 ∧ (1 ≤ p ∧ p ≤ 8 → e ≤ 3 ∧ (p ∈ [(1 : Int), 2, 4, 8] ↔ (2 : Int) ^ e = p)) ∧
    (∀ r : List Int × Bool, Ev (fun k => spec_MeanBlocks.j1 k l p mode (e : Int)) r → Ev (fun k => spec_MeanBlocks.l0 k l p mode 0) r) ∧
    (1 ≤ p ∧ p ≤ 8 → ∀ r : List Int × Bool, Ev (fun k => impl_MeanBlocks.l1 k l p mode (e : Int) [] 0) r → Ev (fun k => impl_MeanBlocks.l0 k l p mode 0) r) := by
  have hstep : ∀ (d e : Nat), e + d = 10 → ∃ z : Nat, e ≤ z ∧ z ≤ 10 ∧ (∀ y : Nat, e ≤ y → y < z → (2 : Int) ^ y < p) ∧ (z < 10 → p ≤ 2 ^ z) ∧ (∀ r : List Int × Bool, Ev (fun k => spec_MeanBlocks.j1 k l p mode (z : Int)) r → Ev (fun k => spec_MeanBlocks.l0 k l p mode (e : Int)) r) := by
    intro d
    induction d with
    | zero =>
      intro e he
      refine ⟨e, by omega, by omega, fun y h1 h2 => by omega, fun h => by omega, fun r hr => aid_ev_succ ?_⟩
      simp only [spec_MeanBlocks.l0]
      by_cases hc : shl .i64 1 (e : Int) < p
      · refine Ev.congr (fun k => if_pos (by omega)) ?_
        refine Ev.congr (fun k => if_pos hc) ?_
        exact Ev.congr (fun k => if_neg (by omega)) hr
      · refine Ev.congr (fun k => if_pos (by omega)) ?_
        exact Ev.congr (fun k => if_neg hc) hr
    | succ d ih =>
      intro e he
      by_cases hc : shl .i64 1 (e : Int) < p
      · obtain ⟨z, h1, h2, h3, h4, h5⟩ := ih (e + 1) (by omega)
        rw [shift_shl e (by omega)] at hc
        refine ⟨z, by omega, h2, fun y hy1 hy2 => ?_, h4, fun r hr => aid_ev_succ ?_⟩
        · by_cases hy : y = e
          · rw [hy]
            exact hc
          · exact h3 y (by omega) hy2
        · simp only [spec_MeanBlocks.l0, shift_shl e (by omega)]
          refine Ev.congr (fun k => if_pos (by omega)) ?_
          refine Ev.congr (fun k => if_pos hc) ?_
          refine Ev.congr (fun k => if_pos (by omega)) ?_
          rw [aid_next (by omega)]
          exact h5 r hr
      · refine ⟨e, by omega, by omega, fun y h1 h2 => by omega, fun h => ?_, fun r hr => aid_ev_succ ?_⟩
        · rw [shift_shl e (by omega)] at hc
          omega
        · simp only [spec_MeanBlocks.l0]
          refine Ev.congr (fun k => if_pos (by omega)) ?_
          exact Ev.congr (fun k => if_neg hc) hr
  obtain ⟨z, h1, h2, h3, h4, h5⟩ := hstep 10 0 (by omega)
  have hz3 : 1 ≤ p ∧ p ≤ 8 → z ≤ 3 := by
    intro hp
    apply Classical.byContradiction
    intro hc
    have := h3 3 (by omega) (by omega)
    omega
  refine ⟨z, h2, fun hp => ⟨hz3 hp, ?_⟩, h5, fun hp r hr => ?_⟩
  · have hz := hz3 hp
    have h4' := h4 (by omega)
    have : z = 0 ∨ z = 1 ∨ z = 2 ∨ z = 3 := by omega
    simp only [List.mem_cons, List.not_mem_nil, or_false]
    rcases this with e | e | e | e <;> subst e
    · simp at h4' ⊢; omega
    · have := h3 0 (by omega) (by omega); simp at h4' this ⊢; omega
    · have := h3 1 (by omega) (by omega); simp at h4' this ⊢; omega
    · have := h3 2 (by omega) (by omega); simp at h4' this ⊢; omega
  · have hz := hz3 hp
    have h4' := h4 (by omega)
    have hgo : ∀ (d e : Nat), e + d = z → Ev (fun k => impl_MeanBlocks.l0 k l p mode (e : Int)) r := by
      intro d
      induction d with
      | zero =>
        intro e he
        have e1 : e = z := by omega
        subst e1
        refine aid_ev_succ ?_
        simp only [impl_MeanBlocks.l0, shift_shl e (by omega)]
        refine Ev.congr (fun k => if_pos (by omega)) ?_
        exact Ev.congr (fun k => if_neg (by omega)) hr
      | succ d ih =>
        intro e he
        have := h3 e (by omega) (by omega)
        refine aid_ev_succ ?_
        simp only [impl_MeanBlocks.l0, shift_shl e (by omega)]
        refine Ev.congr (fun k => if_pos (by omega)) ?_
        refine Ev.congr (fun k => if_pos this) ?_
        rw [aid_next (by omega)]
        exact ih (e + 1) (by omega)
    exact hgo z 0 (by omega)
theorem mean_both (l : List Int) (p mode : Int) : ∃ (w : List Int) (b : Bool), Ev (fun k => spec_MeanBlocks.f k l p mode) (w, b) ∧ Ev (fun k => impl_MeanBlocks.f k l p mode) (w, b) ∧ w.length ≤ 64 := by
  obtain ⟨e, he, hpe, hS, hI⟩ := mean_exp l p mode
  have hsN : Ev (fun k => spec_MeanBlocks.j2 k l p mode (e : Int) true) (([] : List Int), false) := by
    refine aid_ev_succ ?_
    simp only [spec_MeanBlocks.j2]
    exact Ev.now _
  have hiN : Ev (fun k => impl_MeanBlocks.j0 k l p mode true) (([] : List Int), false) := by
    refine aid_ev_succ ?_
    simp only [impl_MeanBlocks.j0]
    exact Ev.now _
  have hsig := spec_wdSignal.ev l
  unfold spec_MeanBlocks.f impl_MeanBlocks.f
  rw [impl_isSignal.eq]
  have hno : Ev (fun k => spec_MeanBlocks.j1 k l p mode (e : Int)) (([] : List Int), false) → Ev (fun k => spec_MeanBlocks.l0 k l p mode 0) (([] : List Int), false) := hS _
  cases hB : sigB l with
  | false =>
    rw [hB] at hsig
    refine ⟨[], false, hno ?_, hiN, by simp⟩
    refine aid_ev_succ ?_
    simp only [spec_MeanBlocks.j1]
    exact Ev.bind hsig hsN
  | true =>
    rw [hB] at hsig
    obtain ⟨hl, hx⟩ := (sigB_iff l).1 hB
    simp only [Option.bind_some, if_true, impl_isRate.eq]
    by_cases hp : 1 ≤ p ∧ p ≤ 8
    · obtain ⟨he3, hpow⟩ := hpe hp
      have hsh : impl_isShift.f 0 mode = some (decide (0 ≤ mode ∧ mode ≤ 2)) := by
        unfold impl_isShift.f
        rw [impl_in.eq, impl_in.eq]
        rfl
      have hmd : spec_wdMode.f (e : Int) mode = some (decide (0 ≤ mode ∧ mode ≤ 2)) := by
        unfold spec_wdMode.f
        rw [spec_l1In.eq, spec_l1In.eq, decide_eq_true (by omega)]
        rfl
      rw [decide_eq_true hp, hsh]
      simp only [Option.bind_some, if_true]
      by_cases hmm : 0 ≤ mode ∧ mode ≤ 2
      · rw [decide_eq_true hmm]
        simp only [if_true, mean_and p hp]
        by_cases hpp : p ∈ [(1 : Int), 2, 4, 8]
        · have hpp' := hpp
          simp only [List.mem_cons, List.not_mem_nil, or_false] at hpp'
          rw [decide_eq_false (by omega)]
          have hpw := hpow.1 hpp
          obtain ⟨n, rfl⟩ : ∃ n : Nat, p = (n : Int) := ⟨p.toNat, by omega⟩
          obtain ⟨r, h1, h2, h3⟩ := mean_l1 l hl hx e n (by omega) hpw (by omega) (by omega) mode l.length 0 [] (by omega) (by simp) (by simp)
          refine ⟨r, true, hS _ ?_, ?_, h3⟩
          · refine aid_ev_succ ?_
            simp only [spec_MeanBlocks.j1]
            refine Ev.bind hsig ?_
            refine Ev.congr (fun k => if_pos rfl) ?_
            simp only [spec_l1In.eq, decide_eq_true hp, Option.bind_some, if_true, shift_shl e (by omega), hpw, hmd, decide_eq_true hmm, Bool.not_true]
            refine Ev.congr (fun k => if_pos (by omega)) ?_
            refine aid_ev_succ ?_
            simp only [spec_MeanBlocks.j2]
            exact h1
          · refine aid_ev_succ ?_
            simp only [impl_MeanBlocks.j0]
            exact hI hp _ h2
        · have hpp' := hpp
          simp only [List.mem_cons, List.not_mem_nil, or_false] at hpp'
          rw [decide_eq_true (by omega)]
          refine ⟨[], false, hno ?_, hiN, by simp⟩
          refine aid_ev_succ ?_
          simp only [spec_MeanBlocks.j1]
          refine Ev.bind hsig ?_
          refine Ev.congr (fun k => if_pos rfl) ?_
          simp only [spec_l1In.eq, decide_eq_true hp, Option.bind_some, if_true, shift_shl e (by omega)]
          refine Ev.congr (fun k => if_pos (by omega)) ?_
          exact Ev.congr (fun k => if_neg (fun h => hpp (hpow.2 h))) hsN
      · rw [decide_eq_false hmm]
        refine ⟨[], false, hno ?_, hiN, by simp⟩
        refine aid_ev_succ ?_
        simp only [spec_MeanBlocks.j1]
        refine Ev.bind hsig ?_
        refine Ev.congr (fun k => if_pos rfl) ?_
        simp only [spec_l1In.eq, decide_eq_true hp, Option.bind_some, if_true, shift_shl e (by omega), hmd, decide_eq_false hmm, Bool.not_false]
        refine Ev.congr (fun k => if_pos (by omega)) ?_
        by_cases hpw : (2 : Int) ^ e = p
        · exact Ev.congr (fun k => if_pos hpw) hsN
        · exact Ev.congr (fun k => if_neg hpw) hsN
    · rw [decide_eq_false hp]
      refine ⟨[], false, hno ?_, hiN, by simp⟩
      refine aid_ev_succ ?_
      simp only [spec_MeanBlocks.j1]
      refine Ev.bind hsig ?_
      refine Ev.congr (fun k => if_pos rfl) ?_
      simp only [spec_l1In.eq, decide_eq_false hp, Option.bind_some]
      exact hsN
theorem FnExactMeanBlocks : laws_FnExactMeanBlocks.Pure := by
  intro l p mode _ h8 _ _ _
  refine Ev.rounds ?_
  unfold laws_FnExactMeanBlocks.f
  by_cases hb : (l.length : Int) > 1048576
  · exact Ev.congr (fun k => if_pos hb) (Ev.now _)
  refine Ev.congr (fun k => if_neg hb) ?_
  have hT := laws_toIntS.ev l h8
  obtain ⟨w, b, hs, hi, hw⟩ := mean_both l p mode
  try dsimp only at hw
  have hE := laws_eqIntS.refl w (by omega)
  have hEl := laws_eqIntS.refl l (by omega)
  have hM := laws_markIntS.ev w 1 (by omega) (by omega) (by omega)
  have hMl := laws_markIntS.ev l 1 (by omega) (by omega) (by omega)
  have hH := laws_heldIntS.ev w.length 1 (by omega) (by omega) (by omega)
  have hNb : ¬ ((b != b) = true) := by cases b <;> decide
  have hN1 : ¬ (1 + (w.length : Int) < 0) := by omega
  have hN2 : ¬ (1 + (l.length : Int) < 0) := by omega
  repeat (first
    | exact Ev.now _
    | ((with_reducible refine Ev.bind hT ?_); try dsimp only)
    | ((with_reducible refine Ev.bind hs ?_); try dsimp only)
    | ((with_reducible refine Ev.bind hi ?_); try dsimp only)
    | ((with_reducible refine Ev.bind hE ?_); try dsimp only)
    | ((with_reducible refine Ev.bind hEl ?_); try dsimp only)
    | ((with_reducible refine Ev.bind hM ?_); try dsimp only)
    | ((with_reducible refine Ev.bind hMl ?_); try dsimp only)
    | ((with_reducible refine Ev.bind hH ?_); try dsimp only)
    | (with_reducible refine Ev.congr (fun k => if_pos rfl) ?_)
    | (with_reducible refine Ev.congr (fun k => if_neg hNb) ?_)
    | (with_reducible refine Ev.congr (fun k => if_neg hN1) ?_)
    | (with_reducible refine Ev.congr (fun k => if_neg hN2) ?_)
    | (refine aid_ev_succ ?_; simp only [laws_FnExactMeanBlocks.j0, laws_FnExactMeanBlocks.j1, laws_FnExactMeanBlocks.j2]; try dsimp only))

end Go.Proofs.Ytimpnpaimjgdgaa.Pure
