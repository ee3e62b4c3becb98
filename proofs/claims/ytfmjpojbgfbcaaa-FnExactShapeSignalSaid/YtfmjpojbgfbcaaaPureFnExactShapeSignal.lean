/- Proves that the program's ShapeSignal returns what the reference's returns, for all arguments. Conditions: none. -/
import Derived.Test.YtfmjpojbgfbcaaaPFnExactShapeSignalx5
namespace Go.Proofs.Ytfmjpojbgfbcaaa.Pure
open Go.RowKit Go.Proofs.Ytfmjpojbgfbcaaa.PFnExactShapeSignal Go.Proofs.YtfmjpojbgfbcaaaW.PrintWords Go.Proofs.YtfmjpojbgfbcaaaW.PrintLast
set_option linter.unusedSimpArgs false
set_option linter.unusedVariables false

-- Aid
theorem aid_wr {x : Int} (h0 : -9223372036854775808 ≤ x) (h1 : x ≤ 9223372036854775807) : wrap64 x = x := by unfold wrap64; omega
theorem aid_wf {x : Int} (h : (Lit.int .i64 x).wf = true) : -9223372036854775808 ≤ x ∧ x ≤ 9223372036854775807 := by
  have hmin : IntKind.i64.min = -9223372036854775808 := rfl
  have hmax : IntKind.i64.max = 9223372036854775807 := rfl
  simp only [Lit.wf, Bool.and_eq_true, decide_eq_true_eq, hmin, hmax] at h
  exact h
theorem aid_ev_bind {α β : Type} {g : Nat → Option α} {f : α → Option β} {a : α} {r : β} (h : Ev g a) (k : f a = some r) : Ev (fun n => (g n).bind f) r :=
  Ev.bind (f := fun _ => f) h ⟨0, fun _ _ => k⟩
theorem aid_ev_const {α : Type} {o : Option α} {r : α} (h : o = some r) : Ev (fun _ => o) r := ⟨0, fun _ _ => h⟩
theorem aid_tdiv {a b : Int} (ha : 0 ≤ a) : Int.tdiv a b = a / b := Int.tdiv_eq_ediv_of_nonneg ha
theorem aid_tmod {a b : Int} (ha : 0 ≤ a) : Int.tmod a b = a % b := Int.tmod_eq_emod_of_nonneg ha
theorem aid_next {i : Nat} (h : i ≤ 9223372036854775806) : wrap64 ((i : Int) + 1) = ((i + 1 : Nat) : Int) := by rw [aid_wr (by omega) (by omega)]; rfl
theorem aid_rd (l : List Int) (i : Nat) (h : i < l.length) : rd l (i : Int) = l[i] := by
  unfold rd
  rw [List.getD_eq_getElem?_getD, Int.toNat_natCast, List.getElem?_eq_getElem h]
  rfl
theorem aid_ev_succ {α : Type} {g : Nat → Option α} {r : α} (h : Ev (fun k => g (k + 1)) r) : Ev g r := Ev.step (fun _ => rfl) h

-- laws_toIntS
theorem aid_fill (l : List Int) (i d : Nat) (h : i + (d + 1) = l.length) : (l.take i ++ List.replicate (d + 1) 0).set i (rd l i) = l.take (i + 1) ++ List.replicate d 0 := by
  have hi' : i < l.length := by omega
  have hlen : (l.take i).length = i := by rw [List.length_take]; omega
  rw [List.set_append_right _ _ (by omega), hlen, Nat.sub_self, aid_rd l i hi', List.take_succ_eq_append_getElem hi', List.append_assoc]
  rfl
theorem laws_toIntS.l0_ev (l : List Int) (hl : l.length ≤ 1000000000000000) : ∀ (d i : Nat), i + d = l.length → Ev (fun k => laws_toIntS.l0 k l (l.take i ++ List.replicate d 0) (i : Int)) l := by
  intro d
  induction d with
  | zero =>
    intro i h
    refine Ev.step (fun k => ?_) (Ev.now _)
    simp only [laws_toIntS.l0]
    rw [if_neg (by omega), List.take_of_length_le (by omega)]
    simp
  | succ d ih =>
    intro i h
    refine Ev.step (fun k => ?_) (ih (i + 1) (by omega))
    have hlen : (l.take i ++ List.replicate (d + 1) 0).length = l.length := by
      rw [List.length_append, List.length_take, List.length_replicate]; omega
    simp only [laws_toIntS.l0]
    rw [if_pos (by omega), if_pos (by omega), if_pos (by rw [hlen]; omega), aid_next (by omega), Int.toNat_natCast, aid_fill l i d h]
theorem laws_toIntS.ev (l : List Int) (hl : l.length * 8 ≤ 140737488351232) : Ev (fun k => laws_toIntS.f k l) l := by
  unfold laws_toIntS.f
  have h := laws_toIntS.l0_ev l (by omega) l.length 0 (by omega)
  refine Ev.congr (fun k => ?_) h
  rw [if_pos (by omega), if_pos (by omega)]
  simp

-- laws_eqIntS
theorem laws_eqIntS.l0_refl (l : List Int) (hl : l.length ≤ 1000000000000000) : ∀ (d i : Nat), i + d = l.length → Ev (fun k => laws_eqIntS.l0 k l l (i : Int)) true := by
  intro d
  induction d with
  | zero =>
    intro i h
    refine Ev.step (fun k => ?_) (Ev.now _)
    simp only [laws_eqIntS.l0]
    rw [if_neg (by omega)]
  | succ d ih =>
    intro i h
    refine Ev.step (fun k => ?_) (ih (i + 1) (by omega))
    simp only [laws_eqIntS.l0]
    rw [if_pos (by omega), if_pos (by omega), if_pos (by omega), if_pos trivial, aid_next (by omega)]
theorem laws_eqIntS.refl (l : List Int) (hl : l.length ≤ 1000000000000000) : Ev (fun k => laws_eqIntS.f k l l) true := by
  unfold laws_eqIntS.f
  exact Ev.congr (fun k => if_pos rfl) (laws_eqIntS.l0_refl l hl l.length 0 (by omega))

-- Mark
def marksL : Nat → Int → List Int
  | 0, _ => []
  | n + 1, a => marksL n a ++ [a + (n : Int)]
theorem marksL_length (a : Int) : ∀ n, (marksL n a).length = n
  | 0 => rfl
  | n + 1 => by rw [marksL, List.length_append, marksL_length a n]; rfl
theorem marksL_get (a : Int) : ∀ (n i : Nat) (h : i < (marksL n a).length), (marksL n a)[i] = a + (i : Int)
  | n + 1, i, h => by
    have hl := marksL_length a n
    have hl' := marksL_length a (n + 1)
    simp only [marksL]
    by_cases hi : i < n
    · rw [List.getElem_append_left (by omega)]
      exact marksL_get a n i (by omega)
    · have e : i = n := by omega
      subst e
      rw [List.getElem_append_right (by omega)]
      simp

-- laws_markIntS
theorem laws_markIntS.l0_ev (l : List Int) (a : Int) (hl : l.length ≤ 1000000000000000) (h0 : 0 ≤ a) (h1 : a ≤ 1000000000000000) : ∀ (d i : Nat), i + d = l.length → Ev (fun k => laws_markIntS.l0 k (marksL i a ++ l.drop i) (a + (i : Int)) (i : Int)) (a + (l.length : Int), marksL l.length a) := by
  intro d
  induction d with
  | zero =>
    intro i h
    have hlen : (marksL i a ++ l.drop i).length = l.length := by rw [List.length_append, marksL_length, List.length_drop]; omega
    refine Ev.step (f := fun _ => some (a + (l.length : Int), marksL l.length a)) (fun k => ?_) (Ev.now _)
    simp only [laws_markIntS.l0]
    rw [if_neg (by rw [hlen]; omega), List.drop_eq_nil_of_le (by omega), List.append_nil]
    obtain rfl : i = l.length := by omega
    rfl
  | succ d ih =>
    intro i h
    have hi' : i < l.length := by omega
    have hlen : (marksL i a ++ l.drop i).length = l.length := by rw [List.length_append, marksL_length, List.length_drop]; omega
    refine Ev.step (fun k => ?_) (ih (i + 1) (by omega))
    simp only [laws_markIntS.l0]
    have hset : (marksL i a ++ l.drop i).set i (a + (i : Int)) = marksL (i + 1) a ++ l.drop (i + 1) := by
      rw [List.set_append_right _ _ (by rw [marksL_length]; omega), marksL_length, Nat.sub_self, List.drop_eq_getElem_cons hi', marksL, List.append_assoc]
      rfl
    rw [if_pos (by rw [hlen]; omega), if_pos (by omega), Int.toNat_natCast, hset, aid_next (by omega), aid_wr (x := a + (i : Int) + 1) (by omega) (by omega)]
    rw [show a + (i : Int) + 1 = a + ((i + 1 : Nat) : Int) by omega]
theorem laws_markIntS.ev (l : List Int) (a : Int) (hl : l.length ≤ 1000000000000000) (h0 : 0 ≤ a) (h1 : a ≤ 1000000000000000) : Ev (fun k => laws_markIntS.f k l a) (a + (l.length : Int), marksL l.length a) := by
  have h := laws_markIntS.l0_ev l a hl h0 h1 l.length 0 (by omega)
  simp only [marksL, List.nil_append, List.drop_zero] at h
  unfold laws_markIntS.f
  simpa using h

-- laws_heldIntS
theorem laws_heldIntS.l0_ev (n : Nat) (a : Int) (hl : n ≤ 1000000000000000) (h0 : 0 ≤ a) (h1 : a ≤ 1000000000000000) : ∀ (d i : Nat), i + d = n → Ev (fun k => laws_heldIntS.l0 k (marksL n a) (a + (i : Int)) (i : Int)) (a + (n : Int)) := by
  have hlen := marksL_length a n
  intro d
  induction d with
  | zero =>
    intro i h
    refine Ev.step (f := fun _ => some (a + (n : Int))) (fun k => ?_) (Ev.now _)
    simp only [laws_heldIntS.l0]
    rw [if_neg (by rw [hlen]; omega)]
    obtain rfl : i = n := by omega
    rfl
  | succ d ih =>
    intro i h
    refine Ev.step (fun k => ?_) (ih (i + 1) (by omega))
    simp only [laws_heldIntS.l0]
    rw [if_pos (by rw [hlen]; omega), if_pos (by omega), aid_rd _ i (by omega), marksL_get, if_pos rfl, aid_next (by omega), aid_wr (x := a + (i : Int) + 1) (by omega) (by omega)]
    rw [show a + (i : Int) + 1 = a + ((i + 1 : Nat) : Int) by omega]
theorem laws_heldIntS.ev (n : Nat) (a : Int) (hl : n ≤ 1000000000000000) (h0 : 0 ≤ a) (h1 : a ≤ 1000000000000000) : Ev (fun k => laws_heldIntS.f k (marksL n a) a) (a + (n : Int)) := by
  have h := laws_heldIntS.l0_ev n a hl h0 h1 n 0 (by omega)
  unfold laws_heldIntS.f
  simpa using h

-- spec_l1In
theorem spec_l1In.eq (a lo hi : Int) : spec_l1In.f a lo hi = some (decide (lo ≤ a ∧ a ≤ hi)) := by
  unfold spec_l1In.f
  by_cases h : lo ≤ a <;> simp [h]

-- spec_l1All
theorem spec_l1All.l0_ev (lo hi : Int) (l : List Int) (hl : l.length ≤ 1000000000000000) : ∀ (d i : Nat), i + d = l.length → Ev (fun k => spec_l1All.l0 k lo hi l (l.length : Int) (i : Int)) ((l.drop i).all fun x => decide (lo ≤ x ∧ x ≤ hi)) := by
  intro d
  induction d with
  | zero =>
    intro i h
    rw [List.drop_eq_nil_of_le (by omega)]
    refine Ev.step (fun k => ?_) (Ev.now _)
    simp only [spec_l1All.l0]
    rw [if_neg (by omega)]
    rfl
  | succ d ih =>
    intro i h
    have hi' : i < l.length := by omega
    rw [List.drop_eq_getElem_cons hi', List.all_cons, ← aid_rd l i hi']
    by_cases hc : lo ≤ rd l i ∧ rd l i ≤ hi
    · refine Ev.step (fun k => ?_) (by simpa [hc] using ih (i + 1) (by omega))
      simp only [spec_l1All.l0]
      rw [if_pos (by omega), if_pos (by omega), if_pos (by omega), spec_l1In.eq, aid_next (by omega)]
      simp [hc]
    · refine Ev.step (f := fun _ => some false) (fun k => ?_) (by simpa [hc] using Ev.now false)
      simp only [spec_l1All.l0]
      rw [if_pos (by omega), if_pos (by omega), if_pos (by omega), spec_l1In.eq]
      simp [hc]
theorem spec_l1All.ev (lo hi : Int) (l : List Int) (hl : l.length ≤ 1000000000000000) : Ev (fun k => spec_l1All.f k l lo hi) (l.all fun x => decide (lo ≤ x ∧ x ≤ hi)) :=
  spec_l1All.l0_ev lo hi l hl l.length 0 (by omega)

-- Sig
def sigB (l : List Int) : Bool := decide (l.length ≤ 64) && l.all fun x => decide (-100000 ≤ x ∧ x ≤ 100000)
theorem sigB_iff (l : List Int) : sigB l = true ↔ l.length ≤ 64 ∧ ∀ x ∈ l, -100000 ≤ x ∧ x ≤ 100000 := by
  simp [sigB]
def toldP (l : List Int) : List Int × Bool := if sigB l then (l, true) else ([], false)
theorem toldP_len (l : List Int) : (toldP l).1.length ≤ 64 := by
  unfold toldP
  cases h : sigB l with
  | true => simpa using ((sigB_iff l).1 h).1
  | false => simp

-- spec_wdSignal
theorem spec_wdSignal.ev (l : List Int) : Ev (fun k => spec_wdSignal.f k l) (sigB l) := by
  unfold spec_wdSignal.f sigB
  by_cases h : l.length ≤ 64
  · have e := spec_l1All.ev (-100000) 100000 l (by omega)
    simp only [h, decide_true, Bool.true_and]
    refine Ev.congr (fun k => if_pos (by omega)) (aid_ev_bind e rfl)
  · simp only [h, decide_false, Bool.false_and]
    refine Ev.congr (fun k => if_neg (by omega)) (Ev.now _)

-- spec_wdMode
theorem spec_wdMode.eq (s m : Int) : spec_wdMode.f s m = some (decide (0 ≤ s ∧ s ≤ 20) && decide (0 ≤ m ∧ m ≤ 2)) := by
  unfold spec_wdMode.f
  rw [spec_l1In.eq, spec_l1In.eq]
  cases decide (0 ≤ s ∧ s ≤ 20) <;> rfl

-- Shift
def shI (P mode x : Int) : Int := if (mode = 1 ∧ 2 * (x % P) ≥ P ∧ x % P > 0) ∨ (mode = 2 ∧ x < 0 ∧ x % P > 0) then x / P + 1 else x / P
theorem aid_div {x P y : Int} (hP : 0 < P) (h0 : 0 ≤ x - P * y) (h1 : x - P * y < P) : x / P = y :=
  ((Int.ediv_emod_unique hP (a := x) (r := x - P * y) (q := y)).2 ⟨by omega, h0, h1⟩).1
theorem shift_shl (s : Nat) (hs : s ≤ 20) : shl .i64 1 (s : Int) = 2 ^ s := by
  have h : ∀ s : Fin 21, shl .i64 1 ((s.val : Nat) : Int) = 2 ^ s.val := by decide +kernel
  exact h ⟨s, by omega⟩
theorem shift_shr (s : Nat) (hs : s ≤ 20) (x : Int) : shr .i64 x (s : Int) = x / 2 ^ s := by
  unfold shr
  have e : min ((s : Int)).toNat IntKind.i64.bits = s := by
    rw [Int.toNat_natCast, show IntKind.i64.bits = 64 from rfl]
    omega
  rw [e]
theorem shift_pow (s : Nat) (hs : s ≤ 20) : (1 : Int) ≤ 2 ^ s ∧ (2 : Int) ^ s ≤ 1048576 := by
  have h : ∀ s : Fin 21, (1 : Int) ≤ 2 ^ s.val ∧ (2 : Int) ^ s.val ≤ 1048576 := by decide +kernel
  exact h ⟨s, by omega⟩
theorem shift_mul {P u : Int} (hP : 1 ≤ P) (hu : 0 ≤ u) : u ≤ P * u := by
  have := Int.mul_le_mul_of_nonneg_right hP hu
  omega
theorem shift_div (x P : Int) (hP : 1 ≤ P) : x = P * (x / P) + x % P ∧ 0 ≤ x % P ∧ x % P < P ∧ (0 ≤ x → 0 ≤ x / P ∧ x / P ≤ x) ∧ (x < 0 → x ≤ x / P ∧ x / P < 0) := by
  have h1 := Int.mul_ediv_add_emod x P
  have h2 := Int.emod_nonneg x (show P ≠ 0 by omega)
  have h3 := Int.emod_lt_of_pos x (show 0 < P by omega)
  refine ⟨by omega, h2, h3, fun h => ?_, fun h => ?_⟩
  · have h4 := Int.ediv_nonneg h (show 0 ≤ P by omega)
    have h5 := shift_mul hP h4
    omega
  · have h4 : x / P < 0 := Int.ediv_neg_of_neg_of_pos h (by omega)
    have h5 := shift_mul hP (show 0 ≤ -(x / P) - 1 by omega)
    have h6 : P * (-(x / P) - 1) = -(P * (x / P)) - P := by rw [Int.mul_sub, Int.mul_neg, Int.mul_one]
    omega
theorem shI_bound (P mode x B : Int) (hP : 1 ≤ P) (hB : 0 ≤ B) (h0 : -(P * B) ≤ x) (h1 : x ≤ P * B) : -B ≤ shI P mode x ∧ shI P mode x ≤ B := by
  obtain ⟨e, r0, r1, _, _⟩ := shift_div x P hP
  have hlo : -B ≤ x / P := by
    apply Int.le_ediv_of_mul_le (by omega)
    rw [Int.neg_mul, Int.mul_comm B P]
    exact h0
  have hhi : x / P ≤ B := by
    apply Int.ediv_le_of_le_mul (by omega)
    rw [Int.mul_comm B P]
    exact h1
  have hhi2 : x % P > 0 → x / P + 1 ≤ B := by
    intro hr
    apply Classical.byContradiction
    intro hc
    have e2 : x / P = B := by omega
    rw [e2] at e
    omega
  unfold shI
  split
  · rename_i h
    rcases h with h | h
    · have := hhi2 h.2.2
      omega
    · have := hhi2 h.2.2
      omega
  · omega

-- At
def atL (l : List Int) (i : Int) : Int := if 0 ≤ i ∧ i < (l.length : Int) then rd l i else 0
theorem atL_rd (l : List Int) (i : Nat) (h : i < l.length) : atL l (i : Int) = l[i] := by
  unfold atL
  rw [if_pos (by omega), aid_rd l i h]
theorem atL_bound {l : List Int} {B : Int} (hB : 0 ≤ B) (hx : ∀ x ∈ l, -B ≤ x ∧ x ≤ B) (i : Int) : -B ≤ atL l i ∧ atL l i ≤ B := by
  by_cases h : 0 ≤ i ∧ i < (l.length : Int)
  · obtain ⟨n, rfl⟩ := Int.eq_ofNat_of_zero_le h.1
    rw [atL_rd l n (by omega)]
    exact hx _ (List.getElem_mem _)
  · unfold atL
    rw [if_neg h]
    omega
theorem atL_last (o : List Int) (e : Int) : atL (o ++ [e]) (o.length : Int) = e := by
  rw [atL_rd _ _ (by simp)]
  simp
theorem atL_app (o : List Int) (e i : Int) (h : i < (o.length : Int)) : atL (o ++ [e]) i = atL o i := by
  by_cases h0 : 0 ≤ i
  · obtain ⟨n, rfl⟩ := Int.eq_ofNat_of_zero_le h0
    have hn : n < o.length := by omega
    rw [atL_rd o n hn, atL_rd _ n (by simp; omega), List.getElem_append_left hn]
  · unfold atL
    rw [if_neg (by omega), if_neg (by omega)]

-- Wrap
def wI (H x : Int) : Int := (x + H) % (2 * H) - H
theorem aid_emod {x P y : Int} (hP : 0 < P) (h0 : 0 ≤ x - P * y) (h1 : x - P * y < P) : x % P = x - P * y :=
  ((Int.ediv_emod_unique hP (a := x) (r := x - P * y) (q := y)).2 ⟨by omega, h0, h1⟩).2
theorem wI_bound {H : Int} (hH : 1 ≤ H) (x : Int) : -H ≤ wI H x ∧ wI H x < H := by
  unfold wI
  have h1 := Int.emod_nonneg (x + H) (show 2 * H ≠ 0 by omega)
  have h2 := Int.emod_lt_of_pos (x + H) (show 0 < 2 * H by omega)
  omega
theorem wI_zero {H : Int} (hH : 1 ≤ H) : wI H 0 = 0 := by
  unfold wI
  rw [Int.zero_add, Int.emod_eq_of_lt (by omega) (by omega)]
  omega
theorem wI_add (H a x : Int) : wI H (wI H a + x) = wI H (a + x) := by
  unfold wI
  have e : (a + H) % (2 * H) - H + x + H = (a + H) % (2 * H) + x := by omega
  rw [e, Int.emod_add_emod]
  have e2 : a + H + x = a + x + H := by omega
  rw [e2]
theorem wrap_shl (t : Nat) (h : t ≤ 40) : shl .i64 1 (t : Int) = 2 ^ t := by
  have h' : ∀ s : Fin 41, shl .i64 1 ((s.val : Nat) : Int) = 2 ^ s.val := by decide +kernel
  exact h' ⟨t, by omega⟩
theorem wrap_pow (t : Nat) (h : t ≤ 39) : (1 : Int) ≤ 2 ^ t ∧ (2 : Int) ^ t ≤ 549755813888 := by
  have h' : ∀ s : Fin 40, (1 : Int) ≤ 2 ^ s.val ∧ (2 : Int) ^ s.val ≤ 549755813888 := by decide +kernel
  exact h' ⟨t, by omega⟩
theorem wrap_tmod (x M : Int) : (Int.tmod x M + M) % M = x % M := by
  have h : x % M = (Int.tmod x M) % M := by
    conv => lhs; rw [← Int.mul_tdiv_add_tmod x M, Int.add_comm, Int.add_mul_emod_self_left]
  rw [h, Int.add_emod_right]
theorem wrap_tmod_bound (x M : Int) (hM : 0 < M) : 0 < Int.tmod x M + M ∧ Int.tmod x M + M < 2 * M := by
  have h1 := Int.tmod_lt_of_pos x hM
  have h2 := Int.lt_tmod_of_pos x hM
  omega
theorem bits_split (b : Int) (h : 2 ≤ b ∧ b ≤ 40) : ∃ t : Nat, b = ((t + 1 : Nat) : Int) ∧ 1 ≤ t ∧ t ≤ 39 := ⟨(b - 1).toNat, by omega, by omega, by omega⟩
def sumsL : List Int → Int → List Int
  | [], _ => []
  | x :: r, a => (a + x) :: sumsL r (a + x)
def wsumL (H : Int) : List Int → Int → List Int
  | [], _ => []
  | x :: r, t => wI H (t + x) :: wsumL H r (wI H (t + x))
theorem wsumL_eq (H : Int) : ∀ (l : List Int) (a : Int), wsumL H l (wI H a) = (sumsL l a).map (wI H)
  | [], _ => rfl
  | x :: r, a => by rw [wsumL, sumsL, List.map_cons, wI_add, wsumL_eq H r (a + x)]
theorem sumsL_length : ∀ (l : List Int) (a : Int), (sumsL l a).length = l.length
  | [], _ => rfl
  | x :: r, a => by rw [sumsL, List.length_cons, sumsL_length r, List.length_cons]
theorem sumsL_bound (B : Nat) : ∀ (l : List Int) (a : Int) (c : Nat), (∀ x ∈ l, -(B : Int) ≤ x ∧ x ≤ B) → -((c * B : Nat) : Int) ≤ a → a ≤ ((c * B : Nat) : Int) → ∀ y ∈ sumsL l a, -(((c + l.length) * B : Nat) : Int) ≤ y ∧ y ≤ (((c + l.length) * B : Nat) : Int)
  | x :: r, a, c, hx, h0, h1, y, hy => by
    have hxx := hx x (by simp)
    have hc : ((c + 1) * B : Nat) = c * B + B := by rw [Nat.add_mul, Nat.one_mul]
    have hle : (c + 1) * B ≤ (c + (x :: r).length) * B := Nat.mul_le_mul_right B (by rw [List.length_cons]; omega)
    rw [sumsL] at hy
    rcases List.mem_cons.1 hy with hy | hy
    · omega
    · have h := sumsL_bound B r (a + x) (c + 1) (fun z hz => hx z (by simp [hz])) (by omega) (by omega) y hy
      have e : c + 1 + r.length = c + (x :: r).length := by rw [List.length_cons]; omega
      rw [e] at h
      exact h
def diffL : List Int → Int → List Int
  | [], _ => []
  | x :: r, a => (x - a) :: diffL r x
theorem diffL_length : ∀ (l : List Int) (a : Int), (diffL l a).length = l.length
  | [], _ => rfl
  | x :: r, a => by rw [diffL, List.length_cons, diffL_length r, List.length_cons]
theorem diffL_bound (B : Int) : ∀ (l : List Int) (a : Int), (∀ x ∈ l, -B ≤ x ∧ x ≤ B) → -B ≤ a → a ≤ B → ∀ y ∈ diffL l a, -(2 * B) ≤ y ∧ y ≤ 2 * B
  | x :: r, a, hx, h0, h1, y, hy => by
    have hxx := hx x (by simp)
    rw [diffL] at hy
    rcases List.mem_cons.1 hy with hy | hy
    · omega
    · exact diffL_bound B r x (fun z hz => hx z (by simp [hz])) hxx.1 hxx.2 y hy
def sumsN (H : Int) : Nat → List Int → List Int
  | 0, l => l
  | n + 1, l => sumsN H n ((sumsL l 0).map (wI H))
def combsN (H : Int) : Nat → List Int → List Int
  | 0, l => l
  | n + 1, l => combsN H n ((diffL l 0).map (wI H))
def okL (l : List Int) : Prop := l.length ≤ 1000 ∧ ∀ x ∈ l, -549755813888 ≤ x ∧ x ≤ 549755813888
theorem okL_map {H : Int} (hH : 1 ≤ H) (hH' : H ≤ 549755813888) (l : List Int) (h : l.length ≤ 1000) : okL (l.map (wI H)) := by
  refine ⟨by rw [List.length_map]; exact h, fun x hx => ?_⟩
  obtain ⟨y, _, rfl⟩ := List.mem_map.1 hx
  have := wI_bound hH y
  omega
theorem sumsN_ok {H : Int} (hH : 1 ≤ H) (hH' : H ≤ 549755813888) : ∀ (n : Nat) (l : List Int), okL l → okL (sumsN H n l) ∧ (sumsN H n l).length = l.length
  | 0, l, h => ⟨h, rfl⟩
  | n + 1, l, h => by
    obtain ⟨h1, h2⟩ := sumsN_ok hH hH' n ((sumsL l 0).map (wI H)) (okL_map hH hH' _ (by rw [sumsL_length]; exact h.1))
    rw [List.length_map, sumsL_length] at h2
    exact ⟨h1, h2⟩
theorem combsN_ok {H : Int} (hH : 1 ≤ H) (hH' : H ≤ 549755813888) : ∀ (n : Nat) (l : List Int), okL l → okL (combsN H n l) ∧ (combsN H n l).length = l.length
  | 0, l, h => ⟨h, rfl⟩
  | n + 1, l, h => by
    obtain ⟨h1, h2⟩ := combsN_ok hH hH' n ((diffL l 0).map (wI H)) (okL_map hH hH' _ (by rw [diffL_length]; exact h.1))
    rw [List.length_map, diffL_length] at h2
    exact ⟨h1, h2⟩

-- Shape
theorem shl_mul (s : Nat) (hs : s ≤ 20) (y : Int) (h0 : -9223372036854775808 ≤ y * 2 ^ s) (h1 : y * 2 ^ s ≤ 9223372036854775807) : shl .i64 y (s : Int) = y * 2 ^ s := by
  unfold shl
  have e : min ((s : Int)).toNat IntKind.i64.bits = s := by
    rw [Int.toNat_natCast, show IntKind.i64.bits = 64 from rfl]
    omega
  rw [e]
  exact (i64_w _).trans (aid_wr h0 h1)
theorem shI_err (P m x : Int) (hP : 1 ≤ P) : -P ≤ x - shI P m x * P ∧ x - shI P m x * P ≤ P := by
  obtain ⟨e, r0, r1, _, _⟩ := shift_div x P hP
  unfold shI
  split
  · rw [Int.add_mul, Int.one_mul, Int.mul_comm (x / P) P]
    omega
  · rw [Int.mul_comm (x / P) P]
    omega
def shT (ord e1 e2 x : Int) : Int := if ord = 1 then x + e1 else if ord = 2 then x + (2 * e1 - e2) else x
theorem shT_bound {P ord e1 e2 x : Int} (hP : 1 ≤ P ∧ P ≤ 1024) (h1 : -P ≤ e1 ∧ e1 ≤ P) (h2 : -P ≤ e2 ∧ e2 ≤ P) : x - 3072 ≤ shT ord e1 e2 x ∧ shT ord e1 e2 x ≤ x + 3072 := by
  unfold shT
  split
  · omega
  · split <;> omega
def shN (P m ord : Int) : List Int → Int → Int → List Int
  | [], _, _ => []
  | x :: r, e1, e2 => shI P m (shT ord e1 e2 x) :: shN P m ord r (shT ord e1 e2 x - shI P m (shT ord e1 e2 x) * P) e1
def shE (P m ord : Int) : List Int → Int → Int → List Int
  | [], _, _ => []
  | x :: r, e1, e2 => (shT ord e1 e2 x - shI P m (shT ord e1 e2 x) * P) :: shE P m ord r (shT ord e1 e2 x - shI P m (shT ord e1 e2 x) * P) e1
def shD (P m ord : Int) : List Int → Int → Int → List Int
  | [], _, _ => []
  | x :: r, e1, e2 => (x - shI P m (shT ord e1 e2 x) * P) :: shD P m ord r (shT ord e1 e2 x - shI P m (shT ord e1 e2 x) * P) e1
theorem shN_length (P m ord : Int) : ∀ (l : List Int) (e1 e2 : Int), (shN P m ord l e1 e2).length = l.length
  | [], _, _ => rfl
  | x :: r, e1, e2 => by rw [shN, List.length_cons, shN_length P m ord r, List.length_cons]
theorem shE_length (P m ord : Int) : ∀ (l : List Int) (e1 e2 : Int), (shE P m ord l e1 e2).length = l.length
  | [], _, _ => rfl
  | x :: r, e1, e2 => by rw [shE, List.length_cons, shE_length P m ord r, List.length_cons]
theorem shD_length (P m ord : Int) : ∀ (l : List Int) (e1 e2 : Int), (shD P m ord l e1 e2).length = l.length
  | [], _, _ => rfl
  | x :: r, e1, e2 => by rw [shD, List.length_cons, shD_length P m ord r, List.length_cons]
theorem shD_zip (P m ord : Int) : ∀ (l : List Int) (e1 e2 : Int), shD P m ord l e1 e2 = List.zipWith (fun x y => x - y * P) l (shN P m ord l e1 e2)
  | [], _, _ => rfl
  | x :: r, e1, e2 => by rw [shD, shN, List.zipWith_cons_cons, shD_zip P m ord r]
theorem shD_bound {P : Int} (m ord : Int) (hP : 1 ≤ P ∧ P ≤ 1024) : ∀ (l : List Int) (e1 e2 : Int), -P ≤ e1 ∧ e1 ≤ P → -P ≤ e2 ∧ e2 ≤ P → ∀ y ∈ shD P m ord l e1 e2, -5000 ≤ y ∧ y ≤ 5000
  | x :: r, e1, e2, h1, h2, y, hy => by
    have hT := shT_bound (ord := ord) (x := x) hP h1 h2
    have hE := shI_err P m (shT ord e1 e2 x) hP.1
    rw [shD] at hy
    rcases List.mem_cons.1 hy with hy | hy
    · omega
    · exact shD_bound m ord hP r _ _ hE h1 y hy
theorem shN_bound {P : Int} (m ord : Int) (hP : 1 ≤ P ∧ P ≤ 1024) : ∀ (l : List Int) (e1 e2 : Int), (∀ x ∈ l, -100000 ≤ x ∧ x ≤ 100000) → -P ≤ e1 ∧ e1 ≤ P → -P ≤ e2 ∧ e2 ≤ P → ∀ y ∈ shN P m ord l e1 e2, -200000 ≤ y * P ∧ y * P ≤ 200000
  | x :: r, e1, e2, hx, h1, h2, y, hy => by
    have hxx := hx x (by simp)
    have hT := shT_bound (ord := ord) (x := x) hP h1 h2
    have hE := shI_err P m (shT ord e1 e2 x) hP.1
    rw [shN] at hy
    rcases List.mem_cons.1 hy with hy | hy
    · rw [hy]
      omega
    · exact shN_bound m ord hP r _ _ (fun z hz => hx z (by simp [hz])) hE h1 y hy
def shB (l : List Int) (a b c : Int) : Bool := sigB l && decide ((0 ≤ a ∧ a ≤ 10) ∧ (0 ≤ b ∧ b ≤ 2) ∧ (0 ≤ c ∧ c ≤ 2))
theorem shB_iff (l : List Int) (a b c : Int) : shB l a b c = true ↔ sigB l = true ∧ ((0 ≤ a ∧ a ≤ 10) ∧ (0 ≤ b ∧ b ≤ 2) ∧ (0 ≤ c ∧ c ≤ 2)) := by
  unfold shB
  rw [Bool.and_eq_true, decide_eq_true_eq]
theorem shift_pow10 (s : Nat) (hs : s ≤ 10) : (1 : Int) ≤ 2 ^ s ∧ (2 : Int) ^ s ≤ 1024 := by
  have h : ∀ s : Fin 11, (1 : Int) ≤ 2 ^ s.val ∧ (2 : Int) ^ s.val ≤ 1024 := by decide +kernel
  exact h ⟨s, by omega⟩
theorem zipW_bound {P : Int} {l q : List Int} (hl : ∀ x ∈ l, -100000 ≤ x ∧ x ≤ 100000) (hq : ∀ y ∈ q, -200000 ≤ y * P ∧ y * P ≤ 200000) (i : Nat) (h1 : i < l.length) (h2 : i < q.length) : -300000 ≤ l[i] - q[i] * P ∧ l[i] - q[i] * P ≤ 300000 := by
  have a := hl l[i] (List.getElem_mem h1)
  have b := hq q[i] (List.getElem_mem h2)
  omega

-- spec_dmShaped
theorem spec_dmShaped.ev (l : List Int) (a b c : Int) : Ev (fun k => spec_dmShaped.f k l a b c) (shB l a b c) := by
  unfold spec_dmShaped.f shB
  have h := spec_wdSignal.ev l
  rw [spec_l1In.eq, spec_l1In.eq, spec_wdMode.eq]
  cases hB : sigB l with
  | false =>
    rw [hB] at h
    exact Ev.bind h (Ev.now _)
  | true =>
    rw [hB] at h
    refine Ev.bind h ?_
    have e : (((some (decide (0 ≤ a ∧ a ≤ 10))).bind fun t114 => (if t114 = true then ((some (decide (0 ≤ a ∧ a ≤ 20) && decide (0 ≤ b ∧ b ≤ 2))).bind fun t115 => (if t115 = true then ((some (decide (0 ≤ c ∧ c ≤ 2))).bind fun t116 => (some t116)) else (some false))) else (some false))) : Option Bool) = some (true && decide ((0 ≤ a ∧ a ≤ 10) ∧ (0 ≤ b ∧ b ≤ 2) ∧ (0 ≤ c ∧ c ≤ 2))) := by
      by_cases h1 : 0 ≤ a ∧ a ≤ 10
      · by_cases h2 : 0 ≤ b ∧ b ≤ 2
        · by_cases h3 : 0 ≤ c ∧ c ≤ 2
          · simp [h1, h2, h3, show a ≤ 20 by omega]
          · simp [h1, h2, h3, show a ≤ 20 by omega]
        · simp [h1, h2]
      · simp [h1]
    exact aid_ev_const e

-- spec_wdShift
theorem spec_wdShift.one (x : Int) (h0 : -1000000000000 ≤ x) (h1 : x ≤ 1000000000000) : Ev (fun k => spec_wdShift.f k x 1 0) (x / 2) := by
  have hs : shl .i64 1 1 = 2 := rfl
  unfold spec_wdShift.f
  have hj : ∀ (y : Int) , y = x / 2 → Ev (fun k => spec_wdShift.j0 k x 0 2 y) (x / 2) := by
    intro y hy
    refine aid_ev_succ ?_
    simp only [spec_wdShift.j0]
    refine Ev.congr (fun k => if_neg (by decide)) ?_
    refine aid_ev_succ ?_
    simp only [spec_wdShift.j1]
    subst hy
    simp
    exact Ev.now _
  rw [hs]
  have e : Int.tmod x 2 = if x < 0 ∧ x % 2 = 1 then -1 else x % 2 := by
    rw [Int.tmod_eq_emod]
    split <;> split <;> omega
  have e2 : Int.tdiv x 2 = if x < 0 ∧ x % 2 = 1 then x / 2 + 1 else x / 2 := by
    rw [Int.tdiv_eq_ediv, show Int.sign 2 = 1 from rfl]
    split <;> split <;> omega
  rw [e, e2]
  by_cases hc : x < 0 ∧ x % 2 = 1
  · simp only [hc, and_self, if_true]
    rw [aid_wr (x := x / 2 + 1) (by omega) (by omega), aid_wr (x := x / 2 + 1 - 1) (by omega) (by omega)]
    exact hj _ (by omega)
  · rw [if_neg hc, if_neg hc, aid_wr (x := x / 2) (by omega) (by omega)]
    have : ¬ x % 2 < 0 := by omega
    simp only [this, if_false]
    exact hj _ rfl

-- spec_wdShift.gen
theorem spec_wdShift.gen (s : Nat) (hs : s ≤ 20) (x mode : Int) (hx0 : -1000000000000 ≤ x) (hx1 : x ≤ 1000000000000) : Ev (fun k => spec_wdShift.f k x (s : Int) mode) (shI (2 ^ s) mode x) := by
  unfold spec_wdShift.f
  obtain ⟨hP0, hP1⟩ := shift_pow s hs
  rw [shift_shl s hs]
  generalize (2 : Int) ^ s = P at hP0 hP1 ⊢
  obtain ⟨e, r0, r1, d0, d1⟩ := shift_div x P hP0
  have hj : ∀ y : Int, y = x / P → Ev (fun k => spec_wdShift.j0 k x mode P y) (shI P mode x) := by
    intro y hy
    subst hy
    refine aid_ev_succ ?_
    have eq1 : wrap64 (x - wrap64 (x / P * P)) = x % P := by
      rw [Int.mul_comm]
      rw [aid_wr (x := P * (x / P)) (by omega) (by omega), aid_wr (by omega) (by omega)]
      omega
    have eq2 : wrap64 (2 * (x % P)) = 2 * (x % P) := aid_wr (by omega) (by omega)
    have eq3 : wrap64 (x / P + 1) = x / P + 1 := by
      apply aid_wr <;> by_cases hx : 0 ≤ x
      · have := d0 hx; omega
      · have := d1 (by omega); omega
      · have := d0 hx; omega
      · have := d1 (by omega); omega
    simp only [spec_wdShift.j0, eq1, eq2]
    clear eq1 eq2
    have EQ3 := Aside0.mk eq3
    clear eq3
    have hT : ∀ c : Bool, (c = true → shI P mode x = x / P + 1) → (c = false → mode = 1 → shI P mode x = x / P) → (c = true → mode = 1) → Ev (fun k => spec_wdShift.j1 k x mode (x / P) (x % P) c) (shI P mode x) := by
      intro c h1 h2 h3
      refine aid_ev_succ ?_
      simp only [spec_wdShift.j1, EQ3.out]
      cases c with
      | true =>
        rw [h1 rfl]
        simp only [if_true]
        exact Ev.now _
      | false =>
        simp only [if_false, Bool.false_eq_true]
        by_cases hm : mode = 1
        · rw [h2 rfl hm]
          rw [if_neg (by omega)]
          exact Ev.now _
        · unfold shI
          by_cases hm2 : mode = 2
          · by_cases hx : x < 0
            · by_cases hr : x % P > 0
              · rw [if_pos hm2, if_pos hx, if_pos hr, if_pos (Or.inr ⟨hm2, hx, hr⟩)]
                exact Ev.now _
              · rw [if_pos hm2, if_pos hx, if_neg hr, if_neg (by omega)]
                exact Ev.now _
            · rw [if_pos hm2, if_neg hx, if_neg (by omega)]
              exact Ev.now _
          · rw [if_neg hm2, if_neg (by omega)]
            exact Ev.now _
    by_cases hm : mode = 1
    · by_cases h2 : 2 * (x % P) ≥ P
      · simp only [if_pos hm, if_pos h2]
        refine hT _ (fun hc => ?_) (fun hc _ => ?_) (fun _ => hm)
        · exact if_pos (Or.inl ⟨hm, h2, of_decide_eq_true hc⟩)
        · have := of_decide_eq_false hc
          exact if_neg (by omega)
      · simp only [if_pos hm, if_neg h2]
        refine hT _ (fun hc => absurd hc (by decide)) (fun hc _ => if_neg (by omega)) (fun _ => hm)
    · simp only [if_neg hm]
      exact hT _ (fun hc => absurd hc (by decide)) (fun _ h => absurd h hm) (fun hc => absurd hc (by decide))
  refine Ev.congr (fun k => if_pos (by omega)) ?_
  refine Ev.congr (fun k => if_neg (by omega)) ?_
  by_cases hx : 0 ≤ x
  · have e1 : Int.tmod x P = x % P := aid_tmod hx
    have e2 : Int.tdiv x P = x / P := aid_tdiv hx
    have := d0 hx
    rw [e1, e2]
    refine Ev.congr (fun k => if_neg (by omega)) ?_
    rw [aid_wr (x := x / P) (by omega) (by omega)]
    exact hj _ rfl
  · obtain ⟨z, rfl⟩ : ∃ z, x = -z := ⟨-x, by omega⟩
    obtain ⟨f, s0, s1, b0, b1⟩ := shift_div z P hP0
    have e1 : Int.tmod (-z) P = -(z % P) := by rw [Int.neg_tmod, aid_tmod (by omega)]
    have e2 : Int.tdiv (-z) P = -(z / P) := by rw [Int.neg_tdiv, aid_tdiv (by omega)]
    have := b0 (by omega)
    rw [e1, e2, aid_wr (x := -(z / P)) (by omega) (by omega)]
    by_cases hr : -(z % P) < 0
    · refine Ev.congr (fun k => if_pos hr) ?_
      rw [aid_wr (x := -(z / P) - 1) (by omega) (by omega)]
      refine hj _ (aid_div (by omega) ?_ ?_).symm
      · rw [Int.mul_sub, Int.mul_neg, Int.mul_one]
        omega
      · rw [Int.mul_sub, Int.mul_neg, Int.mul_one]
        omega
    · refine Ev.congr (fun k => if_neg hr) ?_
      refine hj _ (aid_div (by omega) ?_ ?_).symm
      · rw [Int.mul_neg]
        omega
      · rw [Int.mul_neg]
        omega

-- spec_dmShape
theorem spec_dmShape.l0_ev (s : Nat) (hs : s ≤ 10) (m ord : Int) (l : List Int) (hl : l.length ≤ 64) (hx : ∀ x ∈ l, -100000 ≤ x ∧ x ≤ 100000) : ∀ (d i : Nat) (o1 o2 : List Int) (e1 e2 : Int), i + d = l.length → o1.length = i → o2.length = i → -(2 ^ s) ≤ e1 ∧ e1 ≤ 2 ^ s → -(2 ^ s) ≤ e2 ∧ e2 ≤ 2 ^ s →
    Ev (fun k => spec_dmShape.l0 k (s : Int) m ord o1 o2 e1 e2 l (l.length : Int) (i : Int)) (o1 ++ shN (2 ^ s) m ord (l.drop i) e1 e2, o2 ++ shE (2 ^ s) m ord (l.drop i) e1 e2) := by
  obtain ⟨hP0, hP1⟩ := shift_pow10 s hs
  intro d
  induction d with
  | zero =>
    intro i o1 o2 e1 e2 hi h1 h2 he1 he2
    rw [List.drop_eq_nil_of_le (by omega), shN, shE, List.append_nil, List.append_nil]
    refine aid_ev_succ ?_
    simp only [spec_dmShape.l0]
    exact Ev.congr (fun k => if_neg (by omega)) (Ev.now _)
  | succ d ih =>
    intro i o1 o2 e1 e2 hi h1 h2 he1 he2
    have hi' : i < l.length := by omega
    have hxi := hx l[i] (List.getElem_mem hi')
    have hT := shT_bound (ord := ord) (x := l[i]) ⟨hP0, hP1⟩ he1 he2
    have hsh := spec_wdShift.gen s (by omega) (shT ord e1 e2 l[i]) m (by omega) (by omega)
    have hE := shI_err (2 ^ s) m (shT ord e1 e2 l[i]) hP0
    rw [List.drop_eq_getElem_cons hi', shN, shE]
    have hj : Ev (fun k => spec_dmShape.j1 k (s : Int) m ord o1 o2 e1 (shT ord e1 e2 l[i]) l (l.length : Int) (i : Int)) (o1 ++ shI (2 ^ s) m (shT ord e1 e2 l[i]) :: shN (2 ^ s) m ord (l.drop (i + 1)) (shT ord e1 e2 l[i] - shI (2 ^ s) m (shT ord e1 e2 l[i]) * 2 ^ s) e1, o2 ++ (shT ord e1 e2 l[i] - shI (2 ^ s) m (shT ord e1 e2 l[i]) * 2 ^ s) :: shE (2 ^ s) m ord (l.drop (i + 1)) (shT ord e1 e2 l[i] - shI (2 ^ s) m (shT ord e1 e2 l[i]) * 2 ^ s) e1) := by
      have hA := shl_mul s (by omega) (shI (2 ^ s) m (shT ord e1 e2 l[i])) (by omega) (by omega)
      generalize shT ord e1 e2 l[i] = T at *
      generalize shI (2 ^ s) m T = y at *
      have h := ih (i + 1) (o1 ++ [y]) (o2 ++ [T - y * 2 ^ s]) (T - y * 2 ^ s) e1 (by omega) (by simp [h1]) (by simp [h2]) hE he1
      rw [List.append_assoc, List.append_assoc] at h
      refine aid_ev_succ ?_
      simp only [spec_dmShape.j1]
      refine Ev.bind hsh ?_
      refine Ev.congr (fun k => if_pos (by omega)) ?_
      refine Ev.congr (fun k => if_pos (by omega)) ?_
      refine Ev.congr (fun k => if_pos (by omega)) ?_
      rw [hA, aid_wr (x := T - y * 2 ^ s) (by omega) (by omega), aid_next (by omega)]
      exact h
    refine aid_ev_succ ?_
    simp only [spec_dmShape.l0]
    refine Ev.congr (fun k => if_pos (by omega)) ?_
    refine Ev.congr (fun k => if_pos (by omega)) ?_
    refine Ev.congr (fun k => if_pos (by omega)) ?_
    rw [aid_rd l i hi']
    by_cases ho1 : ord = 1
    · refine Ev.congr (fun k => if_pos ho1) ?_
      rw [aid_wr (x := l[i] + e1) (by omega) (by omega)]
      rwa [show shT ord e1 e2 l[i] = l[i] + e1 by unfold shT; rw [if_pos ho1]] at hj ⊢
    · refine Ev.congr (fun k => if_neg ho1) ?_
      by_cases ho2 : ord = 2
      · refine Ev.congr (fun k => if_pos ho2) ?_
        rw [aid_wr (x := 2 * e1) (by omega) (by omega), aid_wr (x := 2 * e1 - e2) (by omega) (by omega), aid_wr (x := l[i] + (2 * e1 - e2)) (by omega) (by omega)]
        rwa [show shT ord e1 e2 l[i] = l[i] + (2 * e1 - e2) by unfold shT; rw [if_neg ho1, if_pos ho2]] at hj ⊢
      · refine Ev.congr (fun k => if_neg ho2) ?_
        rwa [show shT ord e1 e2 l[i] = l[i] by unfold shT; rw [if_neg ho1, if_neg ho2]] at hj ⊢
theorem spec_dmShape.ev (s : Nat) (hs : s ≤ 10) (m ord : Int) (l : List Int) (hl : l.length ≤ 64) (hx : ∀ x ∈ l, -100000 ≤ x ∧ x ≤ 100000) : Ev (fun k => spec_dmShape.f k l (s : Int) m ord) (shN (2 ^ s) m ord l 0 0, shE (2 ^ s) m ord l 0 0) := by
  obtain ⟨hP0, hP1⟩ := shift_pow10 s hs
  exact spec_dmShape.l0_ev s hs m ord l hl hx l.length 0 [] [] 0 0 (by omega) rfl rfl (by omega) (by omega)

-- impl_in
theorem impl_in.eq (a lo hi : Int) : impl_in.f a lo hi = some (decide (lo ≤ a ∧ a ≤ hi)) := by
  unfold impl_in.f
  by_cases h : lo ≤ a <;> simp [h]

-- impl_isSignal
theorem impl_isSignal.eq (l : List Int) : impl_isSignal.f l = some (sigB l) := by
  unfold impl_isSignal.f sigB
  have e1 : decide ((l.length : Int) ≤ 64) = decide (l.length ≤ 64) := by
    rw [Bool.eq_iff_iff]; simp; omega
  have e2 : (!(l.any fun x => !(decide (-100000 ≤ x) && decide (x ≤ 100000)))) = l.all fun x => decide (-100000 ≤ x ∧ x ≤ 100000) := by
    rw [List.not_any_eq_all_not]
    congr 1
    funext x
    rw [Bool.eq_iff_iff]
    simp
  rw [e1, e2]

-- impl_isScale
theorem impl_isScale.eq (s m : Int) : impl_isScale.f s m = some (decide (0 ≤ s ∧ s ≤ 10) && decide (0 ≤ m ∧ m ≤ 2)) := by
  unfold impl_isScale.f
  rw [impl_in.eq, impl_in.eq]
  cases decide (0 ≤ s ∧ s ≤ 10) <;> rfl

-- impl_at
theorem impl_at.eq (l : List Int) (hl : l.length ≤ 1000000) (i : Int) : impl_at.f l i = some (atL l i) := by
  unfold impl_at.f atL
  rw [aid_wr (x := (l.length : Int) - 1) (by omega) (by omega), impl_in.eq]
  by_cases h : 0 ≤ i ∧ i < (l.length : Int)
  · rw [decide_eq_true (by omega), if_pos h]
    simp only [Option.bind_some, if_true]
    rw [if_pos h.1, if_pos h.2]
  · rw [decide_eq_false (by omega), if_neg h]
    rfl

-- impl_shifted
theorem impl_shifted.ev (s : Nat) (hs : s ≤ 20) (x mode : Int) (hx0 : -1000000000000 ≤ x) (hx1 : x ≤ 1000000000000) : Ev (fun k => impl_shifted.f k x (s : Int) mode) (shI (2 ^ s) mode x) := by
  have hN : mode ≠ 1 ∨ s = 0 → Ev (fun k => impl_shifted.j0 k x (s : Int) mode false) (shI (2 ^ s) mode x) := by
    intro hm
    refine aid_ev_succ ?_
    simp only [impl_shifted.j0, shift_shr s hs, Bool.false_eq_true, if_false]
    have hz : s = 0 → x % 2 ^ s = 0 := fun h => by rw [h, Int.pow_zero, Int.emod_one]
    obtain ⟨hP0, hP1⟩ := shift_pow s hs
    generalize (2 : Int) ^ s = P at hP0 hP1 hz ⊢
    obtain ⟨e, r0, r1, d0, d1⟩ := shift_div x P hP0
    unfold shI
    by_cases hm2 : mode = 2
    · by_cases hx : x < 0
      · rw [if_pos hm2, if_pos hx, if_pos (by omega), aid_wr (x := -x) (by omega) (by omega)]
        obtain ⟨f, s0, s1, b0, b1⟩ := shift_div (-x) P hP0
        have hb := b0 (by omega)
        rw [aid_wr (x := -(-x / P)) (by omega) (by omega)]
        by_cases hr : x % P > 0
        · rw [if_pos (Or.inr ⟨hm2, hx, hr⟩)]
          have : -x / P = -(x / P + 1) := aid_div (by omega) (by rw [Int.mul_neg, Int.mul_add, Int.mul_one]; omega) (by rw [Int.mul_neg, Int.mul_add, Int.mul_one]; omega)
          rw [this, Int.neg_neg]
          exact Ev.now _
        · rw [if_neg (by omega)]
          have : -x / P = -(x / P) := aid_div (by omega) (by rw [Int.mul_neg]; omega) (by rw [Int.mul_neg]; omega)
          rw [this, Int.neg_neg]
          exact Ev.now _
      · rw [if_pos hm2, if_neg hx, if_pos (by omega), if_neg (by omega)]
        exact Ev.now _
    · rw [if_neg hm2, if_pos (by omega), if_neg (by omega)]
      exact Ev.now _
  unfold impl_shifted.f
  by_cases hm : mode = 1
  · refine Ev.congr (fun k => if_pos hm) ?_
    by_cases hs0 : s = 0
    · rw [decide_eq_false (by omega)]
      exact hN (.inr hs0)
    · rw [decide_eq_true (by omega)]
      refine aid_ev_succ ?_
      obtain ⟨t, rfl⟩ : ∃ t, s = t + 1 := ⟨s - 1, by omega⟩
      have et : wrap64 (((t + 1 : Nat) : Int) - 1) = (t : Int) := by
        rw [aid_wr (by omega) (by omega)]
        omega
      simp only [impl_shifted.j0, shift_shr (t + 1) hs, if_true, et, shift_shl t (by omega)]
      clear et
      have hpw : (2 : Int) ^ (t + 1) = 2 * 2 ^ t := by rw [Int.pow_succ, Int.mul_comm]
      obtain ⟨hP0, hP1⟩ := shift_pow t (by omega)
      rw [hpw]
      generalize (2 : Int) ^ t = H at hP0 hP1 ⊢
      obtain ⟨e, r0, r1, d0, d1⟩ := shift_div x (2 * H) (by omega)
      rw [if_pos (by omega), if_pos (by omega), aid_wr (x := x + H) (by omega) (by omega)]
      unfold shI
      by_cases hr : 2 * (x % (2 * H)) ≥ 2 * H
      · rw [if_pos (Or.inl ⟨hm, hr, by omega⟩)]
        have : (x + H) / (2 * H) = x / (2 * H) + 1 := aid_div (by omega) (by rw [Int.mul_add, Int.mul_one]; omega) (by rw [Int.mul_add, Int.mul_one]; omega)
        rw [this]
        exact Ev.now _
      · rw [if_neg (by omega)]
        have : (x + H) / (2 * H) = x / (2 * H) := aid_div (by omega) (by omega) (by omega)
        rw [this]
        exact Ev.now _
  · refine Ev.congr (fun k => if_neg hm) ?_
    exact hN (.inl hm)

-- impl_shape
theorem impl_shape.l0_ev (s : Nat) (hs : s ≤ 10) (m ord : Int) (l : List Int) (hl : l.length ≤ 64) (hx : ∀ x ∈ l, -100000 ≤ x ∧ x ≤ 100000) : ∀ (d i : Nat) (o1 o2 o3 : List Int) (e1 e2 g : Int), i + d = l.length → o1.length = i → o2.length = i → o3.length = i → atL o2 ((i : Int) - 1) = e1 → atL o2 ((i : Int) - 2) = e2 → -(2 ^ s) ≤ e1 ∧ e1 ≤ 2 ^ s → -(2 ^ s) ≤ e2 ∧ e2 ≤ 2 ^ s → -(5000 * (i : Int)) ≤ g → g ≤ 5000 * (i : Int) →
    Ev (fun k => impl_shape.l0 k (s : Int) m ord o1 o2 o3 g l (l.length : Int) (i : Int)) (o1 ++ shN (2 ^ s) m ord (l.drop i) e1 e2, o2 ++ shE (2 ^ s) m ord (l.drop i) e1 e2, o3 ++ sumsL (shD (2 ^ s) m ord (l.drop i) e1 e2) g, true) := by
  obtain ⟨hP0, hP1⟩ := shift_pow10 s hs
  intro d
  induction d with
  | zero =>
    intro i o1 o2 o3 e1 e2 g hi h1 h2 h3 ha1 ha2 he1 he2 hg0 hg1
    rw [List.drop_eq_nil_of_le (by omega), shN, shE, shD, sumsL, List.append_nil, List.append_nil, List.append_nil]
    refine aid_ev_succ ?_
    simp only [impl_shape.l0]
    exact Ev.congr (fun k => if_neg (by omega)) (Ev.now _)
  | succ d ih =>
    intro i o1 o2 o3 e1 e2 g hi h1 h2 h3 ha1 ha2 he1 he2 hg0 hg1
    have hi' : i < l.length := by omega
    have hxi := hx l[i] (List.getElem_mem hi')
    have hT := shT_bound (ord := ord) (x := l[i]) ⟨hP0, hP1⟩ he1 he2
    have hsh := impl_shifted.ev s (by omega) (shT ord e1 e2 l[i]) m (by omega) (by omega)
    have hE := shI_err (2 ^ s) m (shT ord e1 e2 l[i]) hP0
    rw [List.drop_eq_getElem_cons hi', shN, shE, shD, sumsL]
    have hj : Ev (fun k => impl_shape.j2 k (s : Int) m ord o1 o2 o3 g l[i] (shT ord e1 e2 l[i]) l (l.length : Int) (i : Int)) (o1 ++ shI (2 ^ s) m (shT ord e1 e2 l[i]) :: shN (2 ^ s) m ord (l.drop (i + 1)) (shT ord e1 e2 l[i] - shI (2 ^ s) m (shT ord e1 e2 l[i]) * 2 ^ s) e1, o2 ++ (shT ord e1 e2 l[i] - shI (2 ^ s) m (shT ord e1 e2 l[i]) * 2 ^ s) :: shE (2 ^ s) m ord (l.drop (i + 1)) (shT ord e1 e2 l[i] - shI (2 ^ s) m (shT ord e1 e2 l[i]) * 2 ^ s) e1, o3 ++ (g + (l[i] - shI (2 ^ s) m (shT ord e1 e2 l[i]) * 2 ^ s)) :: sumsL (shD (2 ^ s) m ord (l.drop (i + 1)) (shT ord e1 e2 l[i] - shI (2 ^ s) m (shT ord e1 e2 l[i]) * 2 ^ s) e1) (g + (l[i] - shI (2 ^ s) m (shT ord e1 e2 l[i]) * 2 ^ s)), true) := by
      have hA := shl_mul s (by omega) (shI (2 ^ s) m (shT ord e1 e2 l[i])) (by omega) (by omega)
      generalize shT ord e1 e2 l[i] = T at *
      generalize shI (2 ^ s) m T = y at *
      have b1 : atL (o2 ++ [T - y * 2 ^ s]) (((i + 1 : Nat) : Int) - 1) = T - y * 2 ^ s := by
        rw [show ((i + 1 : Nat) : Int) - 1 = (o2.length : Int) by omega, atL_last]
      have b2 : atL (o2 ++ [T - y * 2 ^ s]) (((i + 1 : Nat) : Int) - 2) = e1 := by
        rw [show ((i + 1 : Nat) : Int) - 2 = (i : Int) - 1 by omega, atL_app _ _ _ (by omega), ha1]
      have h := ih (i + 1) (o1 ++ [y]) (o2 ++ [T - y * 2 ^ s]) (o3 ++ [g + (l[i] - y * 2 ^ s)]) (T - y * 2 ^ s) e1 (g + (l[i] - y * 2 ^ s)) (by omega) (by simp [h1]) (by simp [h2]) (by simp [h3]) b1 b2 hE he1 (by omega) (by omega)
      rw [List.append_assoc, List.append_assoc, List.append_assoc] at h
      refine aid_ev_succ ?_
      simp only [impl_shape.j2, Option.bind_some]
      refine Ev.bind hsh ?_
      refine Ev.congr (fun k => if_pos (by omega)) ?_
      refine Ev.congr (fun k => if_pos (by simp; omega)) ?_
      refine Ev.congr (fun k => if_pos (by simp; omega)) ?_
      refine Ev.congr (fun k => if_pos (by simp; omega)) ?_
      rw [hA, aid_wr (x := T - y * 2 ^ s) (by omega) (by omega), aid_wr (x := l[i] - y * 2 ^ s) (by omega) (by omega), aid_wr (x := g + (l[i] - y * 2 ^ s)) (by omega) (by omega), aid_next (by omega)]
      exact h
    refine aid_ev_succ ?_
    simp only [impl_shape.l0]
    refine Ev.congr (fun k => if_pos (by omega)) ?_
    refine Ev.congr (fun k => if_pos (by omega)) ?_
    refine Ev.congr (fun k => if_pos (by omega)) ?_
    rw [aid_rd l i hi', aid_wr (x := (i : Int) - 1) (by omega) (by omega), aid_wr (x := (i : Int) - 2) (by omega) (by omega), impl_at.eq o2 (by omega), impl_at.eq o2 (by omega), ha1, ha2]
    simp only [Option.bind_some]
    by_cases ho1 : ord = 1
    · refine Ev.congr (fun k => if_pos ho1) ?_
      rw [aid_wr (x := l[i] + e1) (by omega) (by omega)]
      rwa [show shT ord e1 e2 l[i] = l[i] + e1 by unfold shT; rw [if_pos ho1]] at hj ⊢
    · refine Ev.congr (fun k => if_neg ho1) ?_
      by_cases ho2 : ord = 2
      · refine Ev.congr (fun k => if_pos ho2) ?_
        rw [aid_wr (x := 2 * e1) (by omega) (by omega), aid_wr (x := 2 * e1 - e2) (by omega) (by omega), aid_wr (x := l[i] + (2 * e1 - e2)) (by omega) (by omega)]
        rwa [show shT ord e1 e2 l[i] = l[i] + (2 * e1 - e2) by unfold shT; rw [if_neg ho1, if_pos ho2]] at hj ⊢
      · refine Ev.congr (fun k => if_neg ho2) ?_
        rwa [show shT ord e1 e2 l[i] = l[i] by unfold shT; rw [if_neg ho1, if_neg ho2]] at hj ⊢
theorem impl_shape.good (s : Nat) (hs : s ≤ 10) (m ord : Int) (l : List Int) (hB : shB l (s : Int) m ord = true) : Ev (fun k => impl_shape.f k l (s : Int) m ord) (shN (2 ^ s) m ord l 0 0, shE (2 ^ s) m ord l 0 0, sumsL (shD (2 ^ s) m ord l 0 0) 0, true) := by
  obtain ⟨hB1, h1, h2, h3⟩ := (shB_iff l s m ord).1 hB
  obtain ⟨hl, hx⟩ := (sigB_iff l).1 hB1
  obtain ⟨hP0, hP1⟩ := shift_pow10 s hs
  have h := impl_shape.l0_ev s hs m ord l hl hx l.length 0 [] [] [] 0 0 0 (by omega) rfl rfl rfl rfl rfl (by omega) (by omega) (by omega) (by omega)
  unfold impl_shape.f
  rw [impl_isSignal.eq, impl_isScale.eq, impl_in.eq, hB1, decide_eq_true h1, decide_eq_true h2, decide_eq_true h3]
  refine Ev.congr (fun k => rfl) (f := fun k => impl_shape.j0 k l (s : Int) m ord false) ?_
  refine aid_ev_succ ?_
  simp only [impl_shape.j0]
  exact Ev.congr (fun k => if_neg (by decide)) h
theorem impl_shape.bad (a m ord : Int) (l : List Int) (hB : shB l a m ord = false) : Ev (fun k => impl_shape.f k l a m ord) (([] : List Int), ([] : List Int), ([] : List Int), false) := by
  have hN : Ev (fun k => impl_shape.j0 k l a m ord true) (([] : List Int), ([] : List Int), ([] : List Int), false) := by
    refine aid_ev_succ ?_
    simp only [impl_shape.j0]
    exact Ev.now _
  unfold shB at hB
  unfold impl_shape.f
  rw [impl_isSignal.eq, impl_isScale.eq, impl_in.eq]
  cases hS : sigB l with
  | false => exact hN
  | true =>
    rw [hS, Bool.true_and] at hB
    have hB := of_decide_eq_false hB
    by_cases h1 : 0 ≤ a ∧ a ≤ 10
    · by_cases h2 : 0 ≤ m ∧ m ≤ 2
      · rw [decide_eq_true h1, decide_eq_true h2, decide_eq_false (by omega)]
        exact hN
      · rw [decide_eq_true h1, decide_eq_false h2]
        exact hN
    · rw [decide_eq_false h1]
      exact hN

theorem shsig_both (l : List Int) (a m c : Int) : ∃ (w : List Int) (z : Bool), Ev (fun k => spec_ShapeSignal.f k l a m c) (w, z) ∧ Ev (fun k => impl_ShapeSignal.f k l a m c) (w, z) ∧ w.length ≤ 64 := by
  unfold spec_ShapeSignal.f impl_ShapeSignal.f
  have hG := spec_dmShaped.ev l a m c
  cases hB : shB l a m c with
  | false =>
    rw [hB] at hG
    exact ⟨[], false, Ev.bind hG (Ev.now _), Ev.bind (impl_shape.bad a m c l hB) (Ev.now _), by simp⟩
  | true =>
    rw [hB] at hG
    obtain ⟨hS, h1, h2, h3⟩ := (shB_iff l a m c).1 hB
    obtain ⟨hl, hx⟩ := (sigB_iff l).1 hS
    obtain ⟨s, rfl⟩ := Int.eq_ofNat_of_zero_le h1.1
    refine ⟨shN (2 ^ s) m c l 0 0, true, Ev.bind hG ?_, Ev.bind (impl_shape.good s (by omega) m c l hB) (Ev.now _), by rw [shN_length]; omega⟩
    exact aid_ev_bind (spec_dmShape.ev s (by omega) m c l hl hx) rfl
theorem FnExactShapeSignal : laws_FnExactShapeSignal.Pure := by
  intro l a m c _ h8 _ _ _ _
  refine Ev.rounds ?_
  unfold laws_FnExactShapeSignal.f
  by_cases hb : (l.length : Int) > 1048576
  · exact Ev.congr (fun k => if_pos hb) (Ev.now _)
  refine Ev.congr (fun k => if_neg hb) ?_
  have hT := laws_toIntS.ev l h8
  obtain ⟨w, b, hs, hi, hw⟩ := shsig_both l a m c
  try dsimp only at hw
  have hE := laws_eqIntS.refl w (by omega)
  have hEl := laws_eqIntS.refl l (by omega)
  have hM := laws_markIntS.ev w 1 (by omega) (by omega) (by omega)
  have hMl := laws_markIntS.ev l 1 (by omega) (by omega) (by omega)
  have hH := laws_heldIntS.ev w.length 1 (by omega) (by omega) (by omega)
  have hNb : ¬ ((b != b) = true) := by cases b <;> decide
  have hN1 : ¬ (1 + (w.length : Int) < 0) := by omega
  have hN2 : ¬ (1 + (l.length : Int) < 0) := by omega
  repeat (first
    | exact Ev.now _
    | ((with_reducible refine Ev.bind hT ?_); try dsimp only)
    | ((with_reducible refine Ev.bind hs ?_); try dsimp only)
    | ((with_reducible refine Ev.bind hi ?_); try dsimp only)
    | ((with_reducible refine Ev.bind hE ?_); try dsimp only)
    | ((with_reducible refine Ev.bind hEl ?_); try dsimp only)
    | ((with_reducible refine Ev.bind hM ?_); try dsimp only)
    | ((with_reducible refine Ev.bind hMl ?_); try dsimp only)
    | ((with_reducible refine Ev.bind hH ?_); try dsimp only)
    | (with_reducible refine Ev.congr (fun k => if_pos rfl) ?_)
    | (with_reducible refine Ev.congr (fun k => if_neg hNb) ?_)
    | (with_reducible refine Ev.congr (fun k => if_neg hN1) ?_)
    | (with_reducible refine Ev.congr (fun k => if_neg hN2) ?_)
    | (refine aid_ev_succ ?_; simp only [laws_FnExactShapeSignal.j0, laws_FnExactShapeSignal.j1, laws_FnExactShapeSignal.j2]; try dsimp only))

end Go.Proofs.Ytfmjpojbgfbcaaa.Pure
