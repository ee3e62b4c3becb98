/- Proves that the program's LineSamples returns what the reference's returns, for all arguments. Conditions: none. -/
import Derived.Test.YtlmlehfgdmhbmaaPFnExactLineSamplesx4
namespace Go.Proofs.Ytlmlehfgdmhbmaa.Pure
open Go.RowKit Go.Proofs.Ytlmlehfgdmhbmaa.PFnExactLineSamples Go.Proofs.YtlmlehfgdmhbmaaW.PrintWords Go.Proofs.YtlmlehfgdmhbmaaW.PrintLast
set_option linter.unusedSimpArgs false
set_option linter.unusedVariables false

-- Aid
theorem aid_wr {x : Int} (h0 : -9223372036854775808 ≤ x) (h1 : x ≤ 9223372036854775807) : wrap64 x = x := by unfold wrap64; omega
theorem aid_wf {x : Int} (h : (Lit.int .i64 x).wf = true) : -9223372036854775808 ≤ x ∧ x ≤ 9223372036854775807 := by
  have hmin : IntKind.i64.min = -9223372036854775808 := rfl
  have hmax : IntKind.i64.max = 9223372036854775807 := rfl
  simp only [Lit.wf, Bool.and_eq_true, decide_eq_true_eq, hmin, hmax] at h
  exact h
theorem aid_ev_bind {α β : Type} {g : Nat → Option α} {f : α → Option β} {a : α} {r : β} (h : Ev g a) (k : f a = some r) : Ev (fun n => (g n).bind f) r :=
  Ev.bind (f := fun _ => f) h ⟨0, fun _ _ => k⟩
theorem aid_ev_const {α : Type} {o : Option α} {r : α} (h : o = some r) : Ev (fun _ => o) r := ⟨0, fun _ _ => h⟩
theorem aid_tdiv {a b : Int} (ha : 0 ≤ a) : Int.tdiv a b = a / b := Int.tdiv_eq_ediv_of_nonneg ha
theorem aid_tmod {a b : Int} (ha : 0 ≤ a) : Int.tmod a b = a % b := Int.tmod_eq_emod_of_nonneg ha
theorem aid_next {i : Nat} (h : i ≤ 9223372036854775806) : wrap64 ((i : Int) + 1) = ((i + 1 : Nat) : Int) := by rw [aid_wr (by omega) (by omega)]; rfl
theorem aid_rd (l : List Int) (i : Nat) (h : i < l.length) : rd l (i : Int) = l[i] := by
  unfold rd
  rw [List.getD_eq_getElem?_getD, Int.toNat_natCast, List.getElem?_eq_getElem h]
  rfl
theorem aid_ev_succ {α : Type} {g : Nat → Option α} {r : α} (h : Ev (fun k => g (k + 1)) r) : Ev g r := Ev.step (fun _ => rfl) h

-- laws_toIntS
theorem aid_fill (l : List Int) (i d : Nat) (h : i + (d + 1) = l.length) : (l.take i ++ List.replicate (d + 1) 0).set i (rd l i) = l.take (i + 1) ++ List.replicate d 0 := by
  have hi' : i < l.length := by omega
  have hlen : (l.take i).length = i := by rw [List.length_take]; omega
  rw [List.set_append_right _ _ (by omega), hlen, Nat.sub_self, aid_rd l i hi', List.take_succ_eq_append_getElem hi', List.append_assoc]
  rfl
theorem laws_toIntS.l0_ev (l : List Int) (hl : l.length ≤ 1000000000000000) : ∀ (d i : Nat), i + d = l.length → Ev (fun k => laws_toIntS.l0 k l (l.take i ++ List.replicate d 0) (i : Int)) l := by
  intro d
  induction d with
  | zero =>
    intro i h
    refine Ev.step (fun k => ?_) (Ev.now _)
    simp only [laws_toIntS.l0]
    rw [if_neg (by omega), List.take_of_length_le (by omega)]
    simp
  | succ d ih =>
    intro i h
    refine Ev.step (fun k => ?_) (ih (i + 1) (by omega))
    have hlen : (l.take i ++ List.replicate (d + 1) 0).length = l.length := by
      rw [List.length_append, List.length_take, List.length_replicate]; omega
    simp only [laws_toIntS.l0]
    rw [if_pos (by omega), if_pos (by omega), if_pos (by rw [hlen]; omega), aid_next (by omega), Int.toNat_natCast, aid_fill l i d h]
theorem laws_toIntS.ev (l : List Int) (hl : l.length * 8 ≤ 140737488351232) : Ev (fun k => laws_toIntS.f k l) l := by
  unfold laws_toIntS.f
  have h := laws_toIntS.l0_ev l (by omega) l.length 0 (by omega)
  refine Ev.congr (fun k => ?_) h
  rw [if_pos (by omega), if_pos (by omega)]
  simp

-- laws_eqIntS
theorem laws_eqIntS.l0_refl (l : List Int) (hl : l.length ≤ 1000000000000000) : ∀ (d i : Nat), i + d = l.length → Ev (fun k => laws_eqIntS.l0 k l l (i : Int)) true := by
  intro d
  induction d with
  | zero =>
    intro i h
    refine Ev.step (fun k => ?_) (Ev.now _)
    simp only [laws_eqIntS.l0]
    rw [if_neg (by omega)]
  | succ d ih =>
    intro i h
    refine Ev.step (fun k => ?_) (ih (i + 1) (by omega))
    simp only [laws_eqIntS.l0]
    rw [if_pos (by omega), if_pos (by omega), if_pos (by omega), if_pos trivial, aid_next (by omega)]
theorem laws_eqIntS.refl (l : List Int) (hl : l.length ≤ 1000000000000000) : Ev (fun k => laws_eqIntS.f k l l) true := by
  unfold laws_eqIntS.f
  exact Ev.congr (fun k => if_pos rfl) (laws_eqIntS.l0_refl l hl l.length 0 (by omega))

-- Mark
def marksL : Nat → Int → List Int
  | 0, _ => []
  | n + 1, a => marksL n a ++ [a + (n : Int)]
theorem marksL_length (a : Int) : ∀ n, (marksL n a).length = n
  | 0 => rfl
  | n + 1 => by rw [marksL, List.length_append, marksL_length a n]; rfl
theorem marksL_get (a : Int) : ∀ (n i : Nat) (h : i < (marksL n a).length), (marksL n a)[i] = a + (i : Int)
  | n + 1, i, h => by
    have hl := marksL_length a n
    have hl' := marksL_length a (n + 1)
    simp only [marksL]
    by_cases hi : i < n
    · rw [List.getElem_append_left (by omega)]
      exact marksL_get a n i (by omega)
    · have e : i = n := by omega
      subst e
      rw [List.getElem_append_right (by omega)]
      simp

-- laws_markIntS
theorem laws_markIntS.l0_ev (l : List Int) (a : Int) (hl : l.length ≤ 1000000000000000) (h0 : 0 ≤ a) (h1 : a ≤ 1000000000000000) : ∀ (d i : Nat), i + d = l.length → Ev (fun k => laws_markIntS.l0 k (marksL i a ++ l.drop i) (a + (i : Int)) (i : Int)) (a + (l.length : Int), marksL l.length a) := by
  intro d
  induction d with
  | zero =>
    intro i h
    have hlen : (marksL i a ++ l.drop i).length = l.length := by rw [List.length_append, marksL_length, List.length_drop]; omega
    refine Ev.step (f := fun _ => some (a + (l.length : Int), marksL l.length a)) (fun k => ?_) (Ev.now _)
    simp only [laws_markIntS.l0]
    rw [if_neg (by rw [hlen]; omega), List.drop_eq_nil_of_le (by omega), List.append_nil]
    obtain rfl : i = l.length := by omega
    rfl
  | succ d ih =>
    intro i h
    have hi' : i < l.length := by omega
    have hlen : (marksL i a ++ l.drop i).length = l.length := by rw [List.length_append, marksL_length, List.length_drop]; omega
    refine Ev.step (fun k => ?_) (ih (i + 1) (by omega))
    simp only [laws_markIntS.l0]
    have hset : (marksL i a ++ l.drop i).set i (a + (i : Int)) = marksL (i + 1) a ++ l.drop (i + 1) := by
      rw [List.set_append_right _ _ (by rw [marksL_length]; omega), marksL_length, Nat.sub_self, List.drop_eq_getElem_cons hi', marksL, List.append_assoc]
      rfl
    rw [if_pos (by rw [hlen]; omega), if_pos (by omega), Int.toNat_natCast, hset, aid_next (by omega), aid_wr (x := a + (i : Int) + 1) (by omega) (by omega)]
    rw [show a + (i : Int) + 1 = a + ((i + 1 : Nat) : Int) by omega]
theorem laws_markIntS.ev (l : List Int) (a : Int) (hl : l.length ≤ 1000000000000000) (h0 : 0 ≤ a) (h1 : a ≤ 1000000000000000) : Ev (fun k => laws_markIntS.f k l a) (a + (l.length : Int), marksL l.length a) := by
  have h := laws_markIntS.l0_ev l a hl h0 h1 l.length 0 (by omega)
  simp only [marksL, List.nil_append, List.drop_zero] at h
  unfold laws_markIntS.f
  simpa using h

-- laws_heldIntS
theorem laws_heldIntS.l0_ev (n : Nat) (a : Int) (hl : n ≤ 1000000000000000) (h0 : 0 ≤ a) (h1 : a ≤ 1000000000000000) : ∀ (d i : Nat), i + d = n → Ev (fun k => laws_heldIntS.l0 k (marksL n a) (a + (i : Int)) (i : Int)) (a + (n : Int)) := by
  have hlen := marksL_length a n
  intro d
  induction d with
  | zero =>
    intro i h
    refine Ev.step (f := fun _ => some (a + (n : Int))) (fun k => ?_) (Ev.now _)
    simp only [laws_heldIntS.l0]
    rw [if_neg (by rw [hlen]; omega)]
    obtain rfl : i = n := by omega
    rfl
  | succ d ih =>
    intro i h
    refine Ev.step (fun k => ?_) (ih (i + 1) (by omega))
    simp only [laws_heldIntS.l0]
    rw [if_pos (by rw [hlen]; omega), if_pos (by omega), aid_rd _ i (by omega), marksL_get, if_pos rfl, aid_next (by omega), aid_wr (x := a + (i : Int) + 1) (by omega) (by omega)]
    rw [show a + (i : Int) + 1 = a + ((i + 1 : Nat) : Int) by omega]
theorem laws_heldIntS.ev (n : Nat) (a : Int) (hl : n ≤ 1000000000000000) (h0 : 0 ≤ a) (h1 : a ≤ 1000000000000000) : Ev (fun k => laws_heldIntS.f k (marksL n a) a) (a + (n : Int)) := by
  have h := laws_heldIntS.l0_ev n a hl h0 h1 n 0 (by omega)
  unfold laws_heldIntS.f
  simpa using h

-- spec_l1In
theorem spec_l1In.eq (a lo hi : Int) : spec_l1In.f a lo hi = some (decide (lo ≤ a ∧ a ≤ hi)) := by
  unfold spec_l1In.f
  by_cases h : lo ≤ a <;> simp [h]

-- spec_l1All
theorem spec_l1All.l0_ev (lo hi : Int) (l : List Int) (hl : l.length ≤ 1000000000000000) : ∀ (d i : Nat), i + d = l.length → Ev (fun k => spec_l1All.l0 k lo hi l (l.length : Int) (i : Int)) ((l.drop i).all fun x => decide (lo ≤ x ∧ x ≤ hi)) := by
  intro d
  induction d with
  | zero =>
    intro i h
    rw [List.drop_eq_nil_of_le (by omega)]
    refine Ev.step (fun k => ?_) (Ev.now _)
    simp only [spec_l1All.l0]
    rw [if_neg (by omega)]
    rfl
  | succ d ih =>
    intro i h
    have hi' : i < l.length := by omega
    rw [List.drop_eq_getElem_cons hi', List.all_cons, ← aid_rd l i hi']
    by_cases hc : lo ≤ rd l i ∧ rd l i ≤ hi
    · refine Ev.step (fun k => ?_) (by simpa [hc] using ih (i + 1) (by omega))
      simp only [spec_l1All.l0]
      rw [if_pos (by omega), if_pos (by omega), if_pos (by omega), spec_l1In.eq, aid_next (by omega)]
      simp [hc]
    · refine Ev.step (f := fun _ => some false) (fun k => ?_) (by simpa [hc] using Ev.now false)
      simp only [spec_l1All.l0]
      rw [if_pos (by omega), if_pos (by omega), if_pos (by omega), spec_l1In.eq]
      simp [hc]
theorem spec_l1All.ev (lo hi : Int) (l : List Int) (hl : l.length ≤ 1000000000000000) : Ev (fun k => spec_l1All.f k l lo hi) (l.all fun x => decide (lo ≤ x ∧ x ≤ hi)) :=
  spec_l1All.l0_ev lo hi l hl l.length 0 (by omega)

-- Sig
def sigB (l : List Int) : Bool := decide (l.length ≤ 64) && l.all fun x => decide (-100000 ≤ x ∧ x ≤ 100000)
theorem sigB_iff (l : List Int) : sigB l = true ↔ l.length ≤ 64 ∧ ∀ x ∈ l, -100000 ≤ x ∧ x ≤ 100000 := by
  simp [sigB]
def toldP (l : List Int) : List Int × Bool := if sigB l then (l, true) else ([], false)
theorem toldP_len (l : List Int) : (toldP l).1.length ≤ 64 := by
  unfold toldP
  cases h : sigB l with
  | true => simpa using ((sigB_iff l).1 h).1
  | false => simp

-- spec_wdSignal
theorem spec_wdSignal.ev (l : List Int) : Ev (fun k => spec_wdSignal.f k l) (sigB l) := by
  unfold spec_wdSignal.f sigB
  by_cases h : l.length ≤ 64
  · have e := spec_l1All.ev (-100000) 100000 l (by omega)
    simp only [h, decide_true, Bool.true_and]
    refine Ev.congr (fun k => if_pos (by omega)) (aid_ev_bind e rfl)
  · simp only [h, decide_false, Bool.false_and]
    refine Ev.congr (fun k => if_neg (by omega)) (Ev.now _)

-- spec_wdIf
theorem spec_wdIf.ev (l : List Int) : Ev (fun k => spec_wdIf.f k l) (toldP l) := by
  unfold spec_wdIf.f toldP
  refine Ev.bind (spec_wdSignal.ev l) ?_
  cases sigB l <;> exact Ev.now _

-- spec_rsRatio
theorem spec_rsRatio.eq (p q : Int) : spec_rsRatio.f p q = some (decide ((1 ≤ p ∧ p ≤ 8) ∧ (1 ≤ q ∧ q ≤ 8))) := by
  unfold spec_rsRatio.f
  rw [spec_l1In.eq, spec_l1In.eq]
  by_cases h : 1 ≤ p ∧ p ≤ 8 <;> simp [h]

-- spec_rsGood
theorem spec_rsGood.ev (l : List Int) (p q : Int) : Ev (fun k => spec_rsGood.f k l p q) (sigB l && decide ((1 ≤ p ∧ p ≤ 8) ∧ (1 ≤ q ∧ q ≤ 8))) := by
  unfold spec_rsGood.f
  have h := spec_wdSignal.ev l
  rw [spec_rsRatio.eq]
  cases hB : sigB l with
  | false =>
    rw [hB] at h
    exact Ev.bind h (Ev.now _)
  | true =>
    rw [hB] at h
    exact Ev.bind h (Ev.now _)

-- impl_in
theorem impl_in.eq (a lo hi : Int) : impl_in.f a lo hi = some (decide (lo ≤ a ∧ a ≤ hi)) := by
  unfold impl_in.f
  by_cases h : lo ≤ a <;> simp [h]

-- impl_isSignal
theorem impl_isSignal.eq (l : List Int) : impl_isSignal.f l = some (sigB l) := by
  unfold impl_isSignal.f sigB
  have e1 : decide ((l.length : Int) ≤ 64) = decide (l.length ≤ 64) := by
    rw [Bool.eq_iff_iff]; simp; omega
  have e2 : (!(l.any fun x => !(decide (-100000 ≤ x) && decide (x ≤ 100000)))) = l.all fun x => decide (-100000 ≤ x ∧ x ≤ 100000) := by
    rw [List.not_any_eq_all_not]
    congr 1
    funext x
    rw [Bool.eq_iff_iff]
    simp
  rw [e1, e2]

-- impl_told
theorem impl_told.eq (l : List Int) : impl_told.f l = some (toldP l) := by
  unfold impl_told.f toldP
  rw [impl_isSignal.eq]
  cases sigB l <;> rfl

-- impl_isRatio
theorem impl_isRatio.eq (p q : Int) : impl_isRatio.f p q = some (decide ((1 ≤ p ∧ p ≤ 8) ∧ (1 ≤ q ∧ q ≤ 8))) := by
  unfold impl_isRatio.f
  rw [impl_in.eq, impl_in.eq]
  by_cases h : 1 ≤ p ∧ p ≤ 8 <;> simp [h]

-- Wrap
def wI (H x : Int) : Int := (x + H) % (2 * H) - H
theorem aid_emod {x P y : Int} (hP : 0 < P) (h0 : 0 ≤ x - P * y) (h1 : x - P * y < P) : x % P = x - P * y :=
  ((Int.ediv_emod_unique hP (a := x) (r := x - P * y) (q := y)).2 ⟨by omega, h0, h1⟩).2
theorem wI_bound {H : Int} (hH : 1 ≤ H) (x : Int) : -H ≤ wI H x ∧ wI H x < H := by
  unfold wI
  have h1 := Int.emod_nonneg (x + H) (show 2 * H ≠ 0 by omega)
  have h2 := Int.emod_lt_of_pos (x + H) (show 0 < 2 * H by omega)
  omega
theorem wI_zero {H : Int} (hH : 1 ≤ H) : wI H 0 = 0 := by
  unfold wI
  rw [Int.zero_add, Int.emod_eq_of_lt (by omega) (by omega)]
  omega
theorem wI_add (H a x : Int) : wI H (wI H a + x) = wI H (a + x) := by
  unfold wI
  have e : (a + H) % (2 * H) - H + x + H = (a + H) % (2 * H) + x := by omega
  rw [e, Int.emod_add_emod]
  have e2 : a + H + x = a + x + H := by omega
  rw [e2]
theorem wrap_shl (t : Nat) (h : t ≤ 40) : shl .i64 1 (t : Int) = 2 ^ t := by
  have h' : ∀ s : Fin 41, shl .i64 1 ((s.val : Nat) : Int) = 2 ^ s.val := by decide +kernel
  exact h' ⟨t, by omega⟩
theorem wrap_pow (t : Nat) (h : t ≤ 39) : (1 : Int) ≤ 2 ^ t ∧ (2 : Int) ^ t ≤ 549755813888 := by
  have h' : ∀ s : Fin 40, (1 : Int) ≤ 2 ^ s.val ∧ (2 : Int) ^ s.val ≤ 549755813888 := by decide +kernel
  exact h' ⟨t, by omega⟩
theorem wrap_tmod (x M : Int) : (Int.tmod x M + M) % M = x % M := by
  have h : x % M = (Int.tmod x M) % M := by
    conv => lhs; rw [← Int.mul_tdiv_add_tmod x M, Int.add_comm, Int.add_mul_emod_self_left]
  rw [h, Int.add_emod_right]
theorem wrap_tmod_bound (x M : Int) (hM : 0 < M) : 0 < Int.tmod x M + M ∧ Int.tmod x M + M < 2 * M := by
  have h1 := Int.tmod_lt_of_pos x hM
  have h2 := Int.lt_tmod_of_pos x hM
  omega
theorem bits_split (b : Int) (h : 2 ≤ b ∧ b ≤ 40) : ∃ t : Nat, b = ((t + 1 : Nat) : Int) ∧ 1 ≤ t ∧ t ≤ 39 := ⟨(b - 1).toNat, by omega, by omega, by omega⟩
def sumsL : List Int → Int → List Int
  | [], _ => []
  | x :: r, a => (a + x) :: sumsL r (a + x)
def wsumL (H : Int) : List Int → Int → List Int
  | [], _ => []
  | x :: r, t => wI H (t + x) :: wsumL H r (wI H (t + x))
theorem wsumL_eq (H : Int) : ∀ (l : List Int) (a : Int), wsumL H l (wI H a) = (sumsL l a).map (wI H)
  | [], _ => rfl
  | x :: r, a => by rw [wsumL, sumsL, List.map_cons, wI_add, wsumL_eq H r (a + x)]
theorem sumsL_length : ∀ (l : List Int) (a : Int), (sumsL l a).length = l.length
  | [], _ => rfl
  | x :: r, a => by rw [sumsL, List.length_cons, sumsL_length r, List.length_cons]
theorem sumsL_bound (B : Nat) : ∀ (l : List Int) (a : Int) (c : Nat), (∀ x ∈ l, -(B : Int) ≤ x ∧ x ≤ B) → -((c * B : Nat) : Int) ≤ a → a ≤ ((c * B : Nat) : Int) → ∀ y ∈ sumsL l a, -(((c + l.length) * B : Nat) : Int) ≤ y ∧ y ≤ (((c + l.length) * B : Nat) : Int)
  | x :: r, a, c, hx, h0, h1, y, hy => by
    have hxx := hx x (by simp)
    have hc : ((c + 1) * B : Nat) = c * B + B := by rw [Nat.add_mul, Nat.one_mul]
    have hle : (c + 1) * B ≤ (c + (x :: r).length) * B := Nat.mul_le_mul_right B (by rw [List.length_cons]; omega)
    rw [sumsL] at hy
    rcases List.mem_cons.1 hy with hy | hy
    · omega
    · have h := sumsL_bound B r (a + x) (c + 1) (fun z hz => hx z (by simp [hz])) (by omega) (by omega) y hy
      have e : c + 1 + r.length = c + (x :: r).length := by rw [List.length_cons]; omega
      rw [e] at h
      exact h
def diffL : List Int → Int → List Int
  | [], _ => []
  | x :: r, a => (x - a) :: diffL r x
theorem diffL_length : ∀ (l : List Int) (a : Int), (diffL l a).length = l.length
  | [], _ => rfl
  | x :: r, a => by rw [diffL, List.length_cons, diffL_length r, List.length_cons]
theorem diffL_bound (B : Int) : ∀ (l : List Int) (a : Int), (∀ x ∈ l, -B ≤ x ∧ x ≤ B) → -B ≤ a → a ≤ B → ∀ y ∈ diffL l a, -(2 * B) ≤ y ∧ y ≤ 2 * B
  | x :: r, a, hx, h0, h1, y, hy => by
    have hxx := hx x (by simp)
    rw [diffL] at hy
    rcases List.mem_cons.1 hy with hy | hy
    · omega
    · exact diffL_bound B r x (fun z hz => hx z (by simp [hz])) hxx.1 hxx.2 y hy
def sumsN (H : Int) : Nat → List Int → List Int
  | 0, l => l
  | n + 1, l => sumsN H n ((sumsL l 0).map (wI H))
def combsN (H : Int) : Nat → List Int → List Int
  | 0, l => l
  | n + 1, l => combsN H n ((diffL l 0).map (wI H))
def okL (l : List Int) : Prop := l.length ≤ 1000 ∧ ∀ x ∈ l, -549755813888 ≤ x ∧ x ≤ 549755813888
theorem okL_map {H : Int} (hH : 1 ≤ H) (hH' : H ≤ 549755813888) (l : List Int) (h : l.length ≤ 1000) : okL (l.map (wI H)) := by
  refine ⟨by rw [List.length_map]; exact h, fun x hx => ?_⟩
  obtain ⟨y, _, rfl⟩ := List.mem_map.1 hx
  have := wI_bound hH y
  omega
theorem sumsN_ok {H : Int} (hH : 1 ≤ H) (hH' : H ≤ 549755813888) : ∀ (n : Nat) (l : List Int), okL l → okL (sumsN H n l) ∧ (sumsN H n l).length = l.length
  | 0, l, h => ⟨h, rfl⟩
  | n + 1, l, h => by
    obtain ⟨h1, h2⟩ := sumsN_ok hH hH' n ((sumsL l 0).map (wI H)) (okL_map hH hH' _ (by rw [sumsL_length]; exact h.1))
    rw [List.length_map, sumsL_length] at h2
    exact ⟨h1, h2⟩
theorem combsN_ok {H : Int} (hH : 1 ≤ H) (hH' : H ≤ 549755813888) : ∀ (n : Nat) (l : List Int), okL l → okL (combsN H n l) ∧ (combsN H n l).length = l.length
  | 0, l, h => ⟨h, rfl⟩
  | n + 1, l, h => by
    obtain ⟨h1, h2⟩ := combsN_ok hH hH' n ((diffL l 0).map (wI H)) (okL_map hH hH' _ (by rw [diffL_length]; exact h.1))
    rw [List.length_map, diffL_length] at h2
    exact ⟨h1, h2⟩

-- Shift
def shI (P mode x : Int) : Int := if (mode = 1 ∧ 2 * (x % P) ≥ P ∧ x % P > 0) ∨ (mode = 2 ∧ x < 0 ∧ x % P > 0) then x / P + 1 else x / P
theorem aid_div {x P y : Int} (hP : 0 < P) (h0 : 0 ≤ x - P * y) (h1 : x - P * y < P) : x / P = y :=
  ((Int.ediv_emod_unique hP (a := x) (r := x - P * y) (q := y)).2 ⟨by omega, h0, h1⟩).1
theorem shift_shl (s : Nat) (hs : s ≤ 20) : shl .i64 1 (s : Int) = 2 ^ s := by
  have h : ∀ s : Fin 21, shl .i64 1 ((s.val : Nat) : Int) = 2 ^ s.val := by decide +kernel
  exact h ⟨s, by omega⟩
theorem shift_shr (s : Nat) (hs : s ≤ 20) (x : Int) : shr .i64 x (s : Int) = x / 2 ^ s := by
  unfold shr
  have e : min ((s : Int)).toNat IntKind.i64.bits = s := by
    rw [Int.toNat_natCast, show IntKind.i64.bits = 64 from rfl]
    omega
  rw [e]
theorem shift_pow (s : Nat) (hs : s ≤ 20) : (1 : Int) ≤ 2 ^ s ∧ (2 : Int) ^ s ≤ 1048576 := by
  have h : ∀ s : Fin 21, (1 : Int) ≤ 2 ^ s.val ∧ (2 : Int) ^ s.val ≤ 1048576 := by decide +kernel
  exact h ⟨s, by omega⟩
theorem shift_mul {P u : Int} (hP : 1 ≤ P) (hu : 0 ≤ u) : u ≤ P * u := by
  have := Int.mul_le_mul_of_nonneg_right hP hu
  omega
theorem shift_div (x P : Int) (hP : 1 ≤ P) : x = P * (x / P) + x % P ∧ 0 ≤ x % P ∧ x % P < P ∧ (0 ≤ x → 0 ≤ x / P ∧ x / P ≤ x) ∧ (x < 0 → x ≤ x / P ∧ x / P < 0) := by
  have h1 := Int.mul_ediv_add_emod x P
  have h2 := Int.emod_nonneg x (show P ≠ 0 by omega)
  have h3 := Int.emod_lt_of_pos x (show 0 < P by omega)
  refine ⟨by omega, h2, h3, fun h => ?_, fun h => ?_⟩
  · have h4 := Int.ediv_nonneg h (show 0 ≤ P by omega)
    have h5 := shift_mul hP h4
    omega
  · have h4 : x / P < 0 := Int.ediv_neg_of_neg_of_pos h (by omega)
    have h5 := shift_mul hP (show 0 ≤ -(x / P) - 1 by omega)
    have h6 : P * (-(x / P) - 1) = -(P * (x / P)) - P := by rw [Int.mul_sub, Int.mul_neg, Int.mul_one]
    omega
theorem shI_bound (P mode x B : Int) (hP : 1 ≤ P) (hB : 0 ≤ B) (h0 : -(P * B) ≤ x) (h1 : x ≤ P * B) : -B ≤ shI P mode x ∧ shI P mode x ≤ B := by
  obtain ⟨e, r0, r1, _, _⟩ := shift_div x P hP
  have hlo : -B ≤ x / P := by
    apply Int.le_ediv_of_mul_le (by omega)
    rw [Int.neg_mul, Int.mul_comm B P]
    exact h0
  have hhi : x / P ≤ B := by
    apply Int.ediv_le_of_le_mul (by omega)
    rw [Int.mul_comm B P]
    exact h1
  have hhi2 : x % P > 0 → x / P + 1 ≤ B := by
    intro hr
    apply Classical.byContradiction
    intro hc
    have e2 : x / P = B := by omega
    rw [e2] at e
    omega
  unfold shI
  split
  · rename_i h
    rcases h with h | h
    · have := hhi2 h.2.2
      omega
    · have := hhi2 h.2.2
      omega
  · omega

-- Fit
def fitI (b : Bool) (H x : Int) : Int := if b = true then wI H x else min (max x (-H)) (H - 1)
theorem fitI_bound {H : Int} (hH : 1 ≤ H) (b : Bool) (x : Int) : -H ≤ fitI b H x ∧ fitI b H x ≤ H - 1 := by
  unfold fitI
  split
  · have := wI_bound hH x
    omega
  · omega
theorem wI_self {H x : Int} (h0 : -H ≤ x) (h1 : x ≤ H - 1) : wI H x = x := by
  unfold wI
  rw [Int.emod_eq_of_lt (by omega) (by omega)]
  omega
theorem fitI_self {H : Int} (hH : 1 ≤ H) (b : Bool) (x : Int) : fitI b H x = x ↔ -H ≤ x ∧ x ≤ H - 1 := by
  refine ⟨fun h => ?_, fun h => ?_⟩
  · have := fitI_bound hH b x
    omega
  · unfold fitI
    split
    · exact wI_self h.1 h.2
    · omega
theorem word_split (b : Int) (h : 2 ≤ b ∧ b ≤ 16) : ∃ t : Nat, b = ((t + 1 : Nat) : Int) ∧ 1 ≤ t ∧ t ≤ 15 := ⟨(b - 1).toNat, by omega, by omega, by omega⟩
theorem word_pow (t : Nat) (h1 : 1 ≤ t) (h : t ≤ 15) : (2 : Int) ≤ 2 ^ t ∧ (2 : Int) ^ t ≤ 32768 := by
  have h' : ∀ s : Fin 16, 1 ≤ s.val → (2 : Int) ≤ 2 ^ s.val ∧ (2 : Int) ^ s.val ≤ 32768 := by decide +kernel
  exact h' ⟨t, by omega⟩ h1
theorem mul_bound {a y B C : Int} (ha : -B ≤ a ∧ a ≤ B) (hy : -C ≤ y ∧ y ≤ C) : -(B * C) ≤ a * y ∧ a * y ≤ B * C := by
  have h1 : (a * y).natAbs = a.natAbs * y.natAbs := Int.natAbs_mul a y
  have h2 : a.natAbs * y.natAbs ≤ B.toNat * C.toNat := Nat.mul_le_mul (by omega) (by omega)
  have h3 : ((B.toNat * C.toNat : Nat) : Int) = B * C := by rw [Int.natCast_mul, Int.toNat_of_nonneg (by omega), Int.toNat_of_nonneg (by omega)]
  generalize a * y = p at *
  generalize B * C = q at *
  omega
theorem shI_small {P m x B : Int} (hP : 1 ≤ P) (h0 : -B ≤ x) (h1 : x ≤ B) : -B ≤ shI P m x ∧ shI P m x ≤ B := by
  have h := shift_mul hP (show 0 ≤ B by omega)
  exact shI_bound P m x B hP (by omega) (by omega) (by omega)
def hB (b : Int) : Int := 2 ^ (b.toNat - 1)
theorem hB_eq (t : Nat) : hB ((t + 1 : Nat) : Int) = 2 ^ t := by
  unfold hB
  rw [Int.toNat_natCast]
  rfl
def wordInB (b x : Int) : Bool := decide (2 ≤ b ∧ b ≤ 16) && decide (-hB b ≤ x ∧ x ≤ hB b - 1)

-- Resample
def mapN (v : Nat → Int) : Nat → Nat → List Int
  | 0, _ => []
  | d + 1, i => v i :: mapN v d (i + 1)
theorem mapN_length (v : Nat → Int) : ∀ (d i : Nat), (mapN v d i).length = d
  | 0, _ => rfl
  | d + 1, i => by rw [mapN, List.length_cons, mapN_length v d (i + 1)]
theorem rs_len (l : List Int) (hl : l.length ≤ 64) (p q : Nat) (hp : p ≤ 8) (hq : 1 ≤ q) (hq8 : q ≤ 8) : wrap64 (Int.tdiv (wrap64 (wrap64 (wrap64 ((l.length : Int) * (p : Int)) + (q : Int)) - 1)) (q : Int)) = (((l.length * p + q - 1) / q : Nat) : Int) ∧ (l.length * p + q - 1) / q ≤ 600 := by
  have hb : l.length * p ≤ 64 * 8 := Nat.mul_le_mul hl hp
  have e : wrap64 (wrap64 (wrap64 ((l.length : Int) * (p : Int)) + (q : Int)) - 1) = ((l.length * p + q - 1 : Nat) : Int) := by
    rw [← Int.natCast_mul, aid_wr (x := ((l.length * p : Nat) : Int)) (by omega) (by omega), aid_wr (x := ((l.length * p : Nat) : Int) + (q : Int)) (by omega) (by omega), aid_wr (by omega) (by omega)]
    omega
  have hd : (l.length * p + q - 1) / q ≤ l.length * p + q - 1 := Nat.div_le_self _ _
  refine ⟨?_, by omega⟩
  rw [e, aid_tdiv (by omega), ← Int.natCast_ediv]
  generalize (l.length * p + q - 1) / q = D at *
  rw [aid_wr (by omega) (by omega)]
theorem rs_src (n p q i : Nat) (hp : 1 ≤ p) (hq : 1 ≤ q) (h : i < (n * p + q - 1) / q) : i * q / p < n ∧ i * q < n * p := by
  have h1 : i + 1 ≤ (n * p + q - 1) / q := h
  have h2 := (Nat.le_div_iff_mul_le (show 0 < q by omega)).1 h1
  rw [Nat.add_mul, Nat.one_mul] at h2
  have h3 : i * q < n * p := by omega
  exact ⟨(Nat.div_lt_iff_lt_mul (show 0 < p by omega)).2 h3, h3⟩
theorem rs_idx (p q i : Nat) (hp : 1 ≤ p) (hq8 : q ≤ 8) (hi : i ≤ 600) : wrap64 ((i : Int) * (q : Int)) = ((i * q : Nat) : Int) ∧ wrap64 (Int.tdiv ((i * q : Nat) : Int) (p : Int)) = ((i * q / p : Nat) : Int) ∧ Int.tmod ((i * q : Nat) : Int) (p : Int) = ((i * q % p : Nat) : Int) ∧ i * q / p ≤ 4800 ∧ i * q % p < p := by
  have hb : i * q ≤ 600 * 8 := Nat.mul_le_mul hi hq8
  have hd : i * q / p ≤ i * q := Nat.div_le_self _ _
  refine ⟨by rw [← Int.natCast_mul, aid_wr (by omega) (by omega)], ?_, ?_, by omega, Nat.mod_lt _ (by omega)⟩
  · rw [aid_tdiv (by omega), ← Int.natCast_ediv]
    generalize i * q / p = D at *
    rw [aid_wr (by omega) (by omega)]
  · rw [aid_tmod (by omega), ← Int.natCast_emod]

-- impl_resample
theorem impl_resample.l0_ev (of : Int → Int → Option Int) (p q n : Nat) (hp : 1 ≤ p) (hq8 : q ≤ 8) (hn : n ≤ 600) (v : Nat → Int) (hof : ∀ i, i < n → of ((i * q / p : Nat) : Int) ((i * q % p : Nat) : Int) = some (v i)) : ∀ (d i : Nat) (o : List Int), i + d = n → o.length = i →
    Ev (fun k => impl_resample.l0 of (p : Int) (q : Int) (n : Int) k o (i : Int)) (toldP (o ++ mapN v d i)) := by
  intro d
  induction d with
  | zero =>
    intro i o hi ho
    rw [mapN, List.append_nil]
    refine aid_ev_succ ?_
    simp only [impl_resample.l0]
    refine Ev.congr (fun k => if_neg (by omega)) ?_
    rw [impl_told.eq]
    exact Ev.now _
  | succ d ih =>
    intro i o hi ho
    obtain ⟨e1, e2, e3, _, _⟩ := rs_idx p q i hp hq8 (by omega)
    have h := ih (i + 1) (o ++ [v i]) (by omega) (by simp [ho])
    rw [List.append_assoc] at h
    rw [mapN]
    refine aid_ev_succ ?_
    simp only [impl_resample.l0]
    refine Ev.congr (fun k => if_pos (by omega)) ?_
    refine Ev.congr (fun k => if_neg (by omega)) ?_
    rw [e1, e2, e3, hof i (by omega), aid_next (by omega)]
    simp only [Option.bind_some]
    exact Ev.congr (fun k => if_pos (by omega)) h
theorem impl_resample.good (of : Int → Int → Option Int) (l : List Int) (hB : sigB l = true) (p q : Nat) (hp : 1 ≤ p ∧ p ≤ 8) (hq : 1 ≤ q ∧ q ≤ 8) (v : Nat → Int) (hof : ∀ i, i < (l.length * p + q - 1) / q → of ((i * q / p : Nat) : Int) ((i * q % p : Nat) : Int) = some (v i)) :
    Ev (fun k => impl_resample.f of k l (p : Int) (q : Int)) (toldP (mapN v ((l.length * p + q - 1) / q) 0)) := by
  obtain ⟨hl, _⟩ := (sigB_iff l).1 hB
  obtain ⟨e, he⟩ := rs_len l hl p q hp.2 hq.1 hq.2
  have h := impl_resample.l0_ev of p q _ hp.1 hq.2 he v hof ((l.length * p + q - 1) / q) 0 [] (by omega) rfl
  unfold impl_resample.f
  rw [impl_isSignal.eq, impl_isRatio.eq, hB, decide_eq_true (by omega)]
  simp only [Option.bind_some, if_true]
  unfold impl_lengthAfter.f
  rw [if_neg (by omega), e]
  exact h
theorem impl_resample.bad (of : Int → Int → Option Int) (l : List Int) (p q : Int) (h : ¬ (sigB l = true ∧ (1 ≤ p ∧ p ≤ 8) ∧ (1 ≤ q ∧ q ≤ 8))) : Ev (fun k => impl_resample.f of k l p q) (([] : List Int), false) := by
  unfold impl_resample.f
  rw [impl_isSignal.eq, impl_isRatio.eq]
  cases hB : sigB l with
  | false => exact Ev.now _
  | true =>
    rw [hB] at h
    rw [decide_eq_false (by intro hc; exact h ⟨rfl, hc⟩)]
    exact Ev.now _

def line_v (l : List Int) (p q : Nat) (i : Nat) : Int := ((p : Int) - ((i * q % p : Nat) : Int)) * rd l ((i * q / p : Nat) : Int) + ((i * q % p : Nat) : Int) * rd l (((if i * q / p + 1 < l.length then i * q / p + 1 else i * q / p) : Nat) : Int)
theorem line_rd (l : List Int) (hx : ∀ x ∈ l, -100000 ≤ x ∧ x ≤ 100000) (k : Nat) (h : k < l.length) : -100000 ≤ rd l (k : Int) ∧ rd l (k : Int) ≤ 100000 := by
  rw [aid_rd l k h]
  exact hx _ (List.getElem_mem h)
theorem line_mn (n k : Nat) (h1 : k < n) (hn : n ≤ 64) : mn (wrap64 ((k : Int) + 1)) (wrap64 ((n : Int) - 1)) = ((if k + 1 < n then k + 1 else k : Nat) : Int) := by
  rw [aid_wr (x := (n : Int) - 1) (by omega) (by omega), aid_next (by omega)]
  unfold mn
  split <;> split <;> omega
set_option maxHeartbeats 4000000 in
theorem line_of (l : List Int) (hl : l.length ≤ 64) (hx : ∀ x ∈ l, -100000 ≤ x ∧ x ≤ 100000) (p q : Nat) (hp : 1 ≤ p ∧ p ≤ 8) (hq : 1 ≤ q ∧ q ≤ 8) : ∀ i, i < (l.length * p + q - 1) / q → impl_LineSamples.of l (p : Int) ((i * q / p : Nat) : Int) ((i * q % p : Nat) : Int) = some (line_v l p q i) := by
  intro i hi
  obtain ⟨h1, _⟩ := rs_src l.length p q i hp.1 hq.1 hi
  have hm : i * q % p < p := Nat.mod_lt _ (by omega)
  clear hi
  unfold impl_LineSamples.of line_v
  generalize i * q / p = k at *
  generalize i * q % p = m at *
  obtain ⟨j, hj⟩ : ∃ j : Nat, j = if k + 1 < l.length then k + 1 else k := ⟨_, rfl⟩
  have hjl : j < l.length := by
    rw [hj]
    split <;> omega
  have hmn : mn (wrap64 ((k : Int) + 1)) (wrap64 ((l.length : Int) - 1)) = (j : Int) := by
    rw [hj]
    exact line_mn _ _ h1 hl
  have z1 : (0 : Int) ≤ (k : Int) := Int.natCast_nonneg _
  have z2 : (k : Int) < (l.length : Int) := Int.ofNat_lt.2 h1
  have z3 : (0 : Int) ≤ (j : Int) := Int.natCast_nonneg _
  have z4 : (j : Int) < (l.length : Int) := Int.ofNat_lt.2 hjl
  rw [hmn, ← hj, if_pos z1, if_pos z2, if_pos z3, if_pos z4]
  clear z1 z2 z3 z4 hmn
  have hk := line_rd l hx k h1
  have hjj := line_rd l hx j hjl
  generalize rd l (k : Int) = a at *
  generalize rd l (j : Int) = b at *
  have b1 := mul_bound (a := (p : Int)) (y := a) (B := 8) (C := 100000) (by omega) hk
  have b2 := mul_bound (a := (m : Int)) (y := b - a) (B := 8) (C := 200000) (by omega) (by omega)
  rw [aid_wr (x := b - a) (by omega) (by omega), aid_wr (x := (p : Int) * a) (by omega) (by omega), aid_wr (x := (m : Int) * (b - a)) (by omega) (by omega), aid_wr (by omega) (by omega)]
  congr 1
  rw [Int.mul_sub, Int.sub_mul]
  omega
theorem line_spec0 (l : List Int) (hl : l.length ≤ 64) (hx : ∀ x ∈ l, -100000 ≤ x ∧ x ≤ 100000) (p q : Nat) (hp : 1 ≤ p ∧ p ≤ 8) (hq : 1 ≤ q ∧ q ≤ 8) : Ev (fun k => spec_rsLine.f k l (p : Int) (q : Int)) (mapN (line_v l p q) ((l.length * p + q - 1) / q) 0) := by
  obtain ⟨e, he⟩ := rs_len l hl p q hp.2 hq.1 hq.2
  have hL : spec_rsLength.f (l.length : Int) (p : Int) (q : Int) = some (((l.length * p + q - 1) / q : Nat) : Int) := by
    unfold spec_rsLength.f
    rw [if_neg (by omega), e]
  have h : ∀ (d i : Nat) (o : List Int), i + d = (l.length * p + q - 1) / q → o.length = i → Ev (fun k => spec_rsLine.l0 k l (p : Int) (q : Int) o (i : Int)) (o ++ mapN (line_v l p q) d i) := by
    intro d
    induction d with
    | zero =>
      intro i o hi ho
      rw [mapN, List.append_nil]
      refine aid_ev_succ ?_
      simp only [spec_rsLine.l0, hL, Option.bind_some]
      exact Ev.congr (fun k => if_neg (by omega)) (Ev.now _)
    | succ d ih =>
      intro i o hi ho
      obtain ⟨e1, e2, e3, e4, e5⟩ := rs_idx p q i hp.1 hq.2 (by omega)
      obtain ⟨h1, _⟩ := rs_src l.length p q i hp.1 hq.1 (by omega)
      have h := ih (i + 1) (o ++ [line_v l p q i]) (by omega) (by simp [ho])
      rw [List.append_assoc] at h
      rw [mapN]
      refine aid_ev_succ ?_
      simp only [spec_rsLine.l0, hL, Option.bind_some]
      rw [e1, e2, e3, aid_next (by omega)]
      refine Ev.congr (fun k => if_pos (by omega)) ?_
      refine Ev.congr (fun k => if_neg (by omega)) ?_
      unfold line_v at h ⊢
      generalize i * q / p = k at *
      generalize i * q % p = m at *
      rw [aid_next (by omega), aid_wr (x := (p : Int) - (m : Int)) (by omega) (by omega)]
      have hk := line_rd l hx k h1
      have b1 := mul_bound (a := (p : Int) - (m : Int)) (y := rd l (k : Int)) (B := 8) (C := 100000) (by omega) hk
      by_cases hc : ((k + 1 : Nat) : Int) < (l.length : Int)
      · refine Ev.congr (fun k => if_pos hc) ?_
        refine Ev.congr (fun k => if_pos (by omega)) ?_
        refine Ev.congr (fun k => if_pos (by omega)) ?_
        refine Ev.congr (fun k => if_pos (by omega)) ?_
        refine Ev.congr (fun k => if_pos (by omega)) ?_
        rw [if_pos (by omega)] at h ⊢
        have hk2 := line_rd l hx (k + 1) (by omega)
        have b2 := mul_bound (a := (m : Int)) (y := rd l ((k + 1 : Nat) : Int)) (B := 8) (C := 100000) (by omega) hk2
        rw [aid_wr (x := ((p : Int) - (m : Int)) * rd l (k : Int)) (by omega) (by omega), aid_wr (x := (m : Int) * rd l ((k + 1 : Nat) : Int)) (by omega) (by omega), aid_wr (x := ((p : Int) - (m : Int)) * rd l (k : Int) + (m : Int) * rd l ((k + 1 : Nat) : Int)) (by omega) (by omega)]
        exact h
      · refine Ev.congr (fun k => if_neg hc) ?_
        refine Ev.congr (fun k => if_pos (by omega)) ?_
        refine Ev.congr (fun k => if_pos (by omega)) ?_
        refine Ev.congr (fun k => if_pos (by omega)) ?_
        rw [if_neg (by omega)] at h ⊢
        have b2 := mul_bound (a := (m : Int)) (y := rd l (k : Int)) (B := 8) (C := 100000) (by omega) hk
        rw [aid_wr (x := ((p : Int) - (m : Int)) * rd l (k : Int)) (by omega) (by omega), aid_wr (x := (m : Int) * rd l (k : Int)) (by omega) (by omega), aid_wr (x := ((p : Int) - (m : Int)) * rd l (k : Int) + (m : Int) * rd l (k : Int)) (by omega) (by omega)]
        exact h
  exact h _ 0 [] (by omega) rfl
theorem line_spec (l : List Int) (hl : l.length ≤ 64) (hx : ∀ x ∈ l, -100000 ≤ x ∧ x ≤ 100000) (p q : Nat) (hp : 1 ≤ p ∧ p ≤ 8) (hq : 1 ≤ q ∧ q ≤ 8) : Ev (fun k => (spec_rsLine.f k l (p : Int) (q : Int)).bind fun t130 => ((spec_wdIf.f k t130).bind fun bt133 => (some (bt133.1, bt133.2)))) (toldP (mapN (line_v l p q) ((l.length * p + q - 1) / q) 0)) :=
  Ev.bind (line_spec0 l hl hx p q hp hq) (aid_ev_bind (spec_wdIf.ev _) rfl)
theorem line_both (l : List Int) (p q : Int) : ∃ (w : List Int) (b : Bool), Ev (fun k => spec_LineSamples.f k l p q) (w, b) ∧ Ev (fun k => impl_LineSamples.f k l p q) (w, b) ∧ w.length ≤ 64 := by
  unfold spec_LineSamples.f impl_LineSamples.f
  have hG := spec_rsGood.ev l p q
  by_cases h : sigB l = true ∧ (1 ≤ p ∧ p ≤ 8) ∧ (1 ≤ q ∧ q ≤ 8)
  · obtain ⟨hB, hp, hq⟩ := h
    rw [hB, decide_eq_true ⟨hp, hq⟩] at hG
    obtain ⟨a, rfl⟩ := Int.eq_ofNat_of_zero_le (show 0 ≤ p by omega)
    obtain ⟨b, rfl⟩ := Int.eq_ofNat_of_zero_le (show 0 ≤ q by omega)
    obtain ⟨hl, hx⟩ := (sigB_iff l).1 hB
    have hI := impl_resample.good (impl_LineSamples.of l (a : Int)) l hB a b (by omega) (by omega) (line_v l a b) (line_of l hl hx a b (by omega) (by omega))
    have hS := line_spec l hl hx a b (by omega) (by omega)
    refine ⟨_, _, Ev.bind hG (Ev.congr (fun k => if_pos rfl) hS), hI, toldP_len _⟩
  · have hb : (sigB l && decide ((1 ≤ p ∧ p ≤ 8) ∧ (1 ≤ q ∧ q ≤ 8))) = false := by
      cases hB : sigB l with
      | false => rfl
      | true =>
        rw [hB] at h
        rw [Bool.true_and]
        exact decide_eq_false (fun hc => h ⟨rfl, hc⟩)
    rw [hb] at hG
    exact ⟨[], false, Ev.bind hG (Ev.now _), impl_resample.bad _ l p q h, by simp⟩
theorem FnExactLineSamples : laws_FnExactLineSamples.Pure := by
  intro l p q _ h8 _ _ _
  refine Ev.rounds ?_
  unfold laws_FnExactLineSamples.f
  by_cases hb : (l.length : Int) > 1048576
  · exact Ev.congr (fun k => if_pos hb) (Ev.now _)
  refine Ev.congr (fun k => if_neg hb) ?_
  have hT := laws_toIntS.ev l h8
  obtain ⟨w, b, hs, hi, hw⟩ := line_both l p q
  try dsimp only at hw
  have hE := laws_eqIntS.refl w (by omega)
  have hEl := laws_eqIntS.refl l (by omega)
  have hM := laws_markIntS.ev w 1 (by omega) (by omega) (by omega)
  have hMl := laws_markIntS.ev l 1 (by omega) (by omega) (by omega)
  have hH := laws_heldIntS.ev w.length 1 (by omega) (by omega) (by omega)
  have hNb : ¬ ((b != b) = true) := by cases b <;> decide
  have hN1 : ¬ (1 + (w.length : Int) < 0) := by omega
  have hN2 : ¬ (1 + (l.length : Int) < 0) := by omega
  repeat (first
    | exact Ev.now _
    | ((with_reducible refine Ev.bind hT ?_); try dsimp only)
    | ((with_reducible refine Ev.bind hs ?_); try dsimp only)
    | ((with_reducible refine Ev.bind hi ?_); try dsimp only)
    | ((with_reducible refine Ev.bind hE ?_); try dsimp only)
    | ((with_reducible refine Ev.bind hEl ?_); try dsimp only)
    | ((with_reducible refine Ev.bind hM ?_); try dsimp only)
    | ((with_reducible refine Ev.bind hMl ?_); try dsimp only)
    | ((with_reducible refine Ev.bind hH ?_); try dsimp only)
    | (with_reducible refine Ev.congr (fun k => if_pos rfl) ?_)
    | (with_reducible refine Ev.congr (fun k => if_neg hNb) ?_)
    | (with_reducible refine Ev.congr (fun k => if_neg hN1) ?_)
    | (with_reducible refine Ev.congr (fun k => if_neg hN2) ?_)
    | (refine aid_ev_succ ?_; simp only [laws_FnExactLineSamples.j0, laws_FnExactLineSamples.j1, laws_FnExactLineSamples.j2]; try dsimp only))

end Go.Proofs.Ytlmlehfgdmhbmaa.Pure
