/- Proves that the program's CountPairFits returns what the reference's returns, for all arguments. Conditions: none. -/
import Derived.Test.YtjknlfgphlopnaaPFnExactCountPairFitsx5
namespace Go.Proofs.Ytjknlfgphlopnaa.Pure
open Go.RowKit Go.Proofs.Ytjknlfgphlopnaa.PFnExactCountPairFits Go.Proofs.YtjknlfgphlopnaaW.PrintWords Go.Proofs.YtjknlfgphlopnaaW.PrintLast
set_option linter.unusedSimpArgs false
set_option linter.unusedVariables false

-- Aid
theorem aid_wr {x : Int} (h0 : -9223372036854775808 ≤ x) (h1 : x ≤ 9223372036854775807) : wrap64 x = x := by unfold wrap64; omega
theorem aid_wf {x : Int} (h : (Lit.int .i64 x).wf = true) : -9223372036854775808 ≤ x ∧ x ≤ 9223372036854775807 := by
  have hmin : IntKind.i64.min = -9223372036854775808 := rfl
  have hmax : IntKind.i64.max = 9223372036854775807 := rfl
  simp only [Lit.wf, Bool.and_eq_true, decide_eq_true_eq, hmin, hmax] at h
  exact h
theorem aid_ev_bind {α β : Type} {g : Nat → Option α} {f : α → Option β} {a : α} {r : β} (h : Ev g a) (k : f a = some r) : Ev (fun n => (g n).bind f) r :=
  Ev.bind (f := fun _ => f) h ⟨0, fun _ _ => k⟩
theorem aid_ev_const {α : Type} {o : Option α} {r : α} (h : o = some r) : Ev (fun _ => o) r := ⟨0, fun _ _ => h⟩
theorem aid_tdiv {a b : Int} (ha : 0 ≤ a) : Int.tdiv a b = a / b := Int.tdiv_eq_ediv_of_nonneg ha
theorem aid_tmod {a b : Int} (ha : 0 ≤ a) : Int.tmod a b = a % b := Int.tmod_eq_emod_of_nonneg ha
theorem aid_next {i : Nat} (h : i ≤ 9223372036854775806) : wrap64 ((i : Int) + 1) = ((i + 1 : Nat) : Int) := by rw [aid_wr (by omega) (by omega)]; rfl
theorem aid_rd (l : List Int) (i : Nat) (h : i < l.length) : rd l (i : Int) = l[i] := by
  unfold rd
  rw [List.getD_eq_getElem?_getD, Int.toNat_natCast, List.getElem?_eq_getElem h]
  rfl
theorem aid_ev_succ {α : Type} {g : Nat → Option α} {r : α} (h : Ev (fun k => g (k + 1)) r) : Ev g r := Ev.step (fun _ => rfl) h

-- laws_toIntS
theorem aid_fill (l : List Int) (i d : Nat) (h : i + (d + 1) = l.length) : (l.take i ++ List.replicate (d + 1) 0).set i (rd l i) = l.take (i + 1) ++ List.replicate d 0 := by
  have hi' : i < l.length := by omega
  have hlen : (l.take i).length = i := by rw [List.length_take]; omega
  rw [List.set_append_right _ _ (by omega), hlen, Nat.sub_self, aid_rd l i hi', List.take_succ_eq_append_getElem hi', List.append_assoc]
  rfl
theorem laws_toIntS.l0_ev (l : List Int) (hl : l.length ≤ 1000000000000000) : ∀ (d i : Nat), i + d = l.length → Ev (fun k => laws_toIntS.l0 k l (l.take i ++ List.replicate d 0) (i : Int)) l := by
  intro d
  induction d with
  | zero =>
    intro i h
    refine Ev.step (fun k => ?_) (Ev.now _)
    simp only [laws_toIntS.l0]
    rw [if_neg (by omega), List.take_of_length_le (by omega)]
    simp
  | succ d ih =>
    intro i h
    refine Ev.step (fun k => ?_) (ih (i + 1) (by omega))
    have hlen : (l.take i ++ List.replicate (d + 1) 0).length = l.length := by
      rw [List.length_append, List.length_take, List.length_replicate]; omega
    simp only [laws_toIntS.l0]
    rw [if_pos (by omega), if_pos (by omega), if_pos (by rw [hlen]; omega), aid_next (by omega), Int.toNat_natCast, aid_fill l i d h]
theorem laws_toIntS.ev (l : List Int) (hl : l.length * 8 ≤ 140737488351232) : Ev (fun k => laws_toIntS.f k l) l := by
  unfold laws_toIntS.f
  have h := laws_toIntS.l0_ev l (by omega) l.length 0 (by omega)
  refine Ev.congr (fun k => ?_) h
  rw [if_pos (by omega), if_pos (by omega)]
  simp

-- laws_eqIntS
theorem laws_eqIntS.l0_refl (l : List Int) (hl : l.length ≤ 1000000000000000) : ∀ (d i : Nat), i + d = l.length → Ev (fun k => laws_eqIntS.l0 k l l (i : Int)) true := by
  intro d
  induction d with
  | zero =>
    intro i h
    refine Ev.step (fun k => ?_) (Ev.now _)
    simp only [laws_eqIntS.l0]
    rw [if_neg (by omega)]
  | succ d ih =>
    intro i h
    refine Ev.step (fun k => ?_) (ih (i + 1) (by omega))
    simp only [laws_eqIntS.l0]
    rw [if_pos (by omega), if_pos (by omega), if_pos (by omega), if_pos trivial, aid_next (by omega)]
theorem laws_eqIntS.refl (l : List Int) (hl : l.length ≤ 1000000000000000) : Ev (fun k => laws_eqIntS.f k l l) true := by
  unfold laws_eqIntS.f
  exact Ev.congr (fun k => if_pos rfl) (laws_eqIntS.l0_refl l hl l.length 0 (by omega))

-- spec_l1In
theorem spec_l1In.eq (a lo hi : Int) : spec_l1In.f a lo hi = some (decide (lo ≤ a ∧ a ≤ hi)) := by
  unfold spec_l1In.f
  by_cases h : lo ≤ a <;> simp [h]

-- spec_l1All
theorem spec_l1All.l0_ev (lo hi : Int) (l : List Int) (hl : l.length ≤ 1000000000000000) : ∀ (d i : Nat), i + d = l.length → Ev (fun k => spec_l1All.l0 k lo hi l (l.length : Int) (i : Int)) ((l.drop i).all fun x => decide (lo ≤ x ∧ x ≤ hi)) := by
  intro d
  induction d with
  | zero =>
    intro i h
    rw [List.drop_eq_nil_of_le (by omega)]
    refine Ev.step (fun k => ?_) (Ev.now _)
    simp only [spec_l1All.l0]
    rw [if_neg (by omega)]
    rfl
  | succ d ih =>
    intro i h
    have hi' : i < l.length := by omega
    rw [List.drop_eq_getElem_cons hi', List.all_cons, ← aid_rd l i hi']
    by_cases hc : lo ≤ rd l i ∧ rd l i ≤ hi
    · refine Ev.step (fun k => ?_) (by simpa [hc] using ih (i + 1) (by omega))
      simp only [spec_l1All.l0]
      rw [if_pos (by omega), if_pos (by omega), if_pos (by omega), spec_l1In.eq, aid_next (by omega)]
      simp [hc]
    · refine Ev.step (f := fun _ => some false) (fun k => ?_) (by simpa [hc] using Ev.now false)
      simp only [spec_l1All.l0]
      rw [if_pos (by omega), if_pos (by omega), if_pos (by omega), spec_l1In.eq]
      simp [hc]
theorem spec_l1All.ev (lo hi : Int) (l : List Int) (hl : l.length ≤ 1000000000000000) : Ev (fun k => spec_l1All.f k l lo hi) (l.all fun x => decide (lo ≤ x ∧ x ≤ hi)) :=
  spec_l1All.l0_ev lo hi l hl l.length 0 (by omega)

-- Sig
def sigB (l : List Int) : Bool := decide (l.length ≤ 64) && l.all fun x => decide (-100000 ≤ x ∧ x ≤ 100000)
theorem sigB_iff (l : List Int) : sigB l = true ↔ l.length ≤ 64 ∧ ∀ x ∈ l, -100000 ≤ x ∧ x ≤ 100000 := by
  simp [sigB]
def toldP (l : List Int) : List Int × Bool := if sigB l then (l, true) else ([], false)
theorem toldP_len (l : List Int) : (toldP l).1.length ≤ 64 := by
  unfold toldP
  cases h : sigB l with
  | true => simpa using ((sigB_iff l).1 h).1
  | false => simp

-- spec_wdSignal
theorem spec_wdSignal.ev (l : List Int) : Ev (fun k => spec_wdSignal.f k l) (sigB l) := by
  unfold spec_wdSignal.f sigB
  by_cases h : l.length ≤ 64
  · have e := spec_l1All.ev (-100000) 100000 l (by omega)
    simp only [h, decide_true, Bool.true_and]
    refine Ev.congr (fun k => if_pos (by omega)) (aid_ev_bind e rfl)
  · simp only [h, decide_false, Bool.false_and]
    refine Ev.congr (fun k => if_neg (by omega)) (Ev.now _)

-- Wrap
def wI (H x : Int) : Int := (x + H) % (2 * H) - H
theorem aid_emod {x P y : Int} (hP : 0 < P) (h0 : 0 ≤ x - P * y) (h1 : x - P * y < P) : x % P = x - P * y :=
  ((Int.ediv_emod_unique hP (a := x) (r := x - P * y) (q := y)).2 ⟨by omega, h0, h1⟩).2
theorem wI_bound {H : Int} (hH : 1 ≤ H) (x : Int) : -H ≤ wI H x ∧ wI H x < H := by
  unfold wI
  have h1 := Int.emod_nonneg (x + H) (show 2 * H ≠ 0 by omega)
  have h2 := Int.emod_lt_of_pos (x + H) (show 0 < 2 * H by omega)
  omega
theorem wI_zero {H : Int} (hH : 1 ≤ H) : wI H 0 = 0 := by
  unfold wI
  rw [Int.zero_add, Int.emod_eq_of_lt (by omega) (by omega)]
  omega
theorem wI_add (H a x : Int) : wI H (wI H a + x) = wI H (a + x) := by
  unfold wI
  have e : (a + H) % (2 * H) - H + x + H = (a + H) % (2 * H) + x := by omega
  rw [e, Int.emod_add_emod]
  have e2 : a + H + x = a + x + H := by omega
  rw [e2]
theorem wrap_shl (t : Nat) (h : t ≤ 40) : shl .i64 1 (t : Int) = 2 ^ t := by
  have h' : ∀ s : Fin 41, shl .i64 1 ((s.val : Nat) : Int) = 2 ^ s.val := by decide +kernel
  exact h' ⟨t, by omega⟩
theorem wrap_pow (t : Nat) (h : t ≤ 39) : (1 : Int) ≤ 2 ^ t ∧ (2 : Int) ^ t ≤ 549755813888 := by
  have h' : ∀ s : Fin 40, (1 : Int) ≤ 2 ^ s.val ∧ (2 : Int) ^ s.val ≤ 549755813888 := by decide +kernel
  exact h' ⟨t, by omega⟩
theorem wrap_tmod (x M : Int) : (Int.tmod x M + M) % M = x % M := by
  have h : x % M = (Int.tmod x M) % M := by
    conv => lhs; rw [← Int.mul_tdiv_add_tmod x M, Int.add_comm, Int.add_mul_emod_self_left]
  rw [h, Int.add_emod_right]
theorem wrap_tmod_bound (x M : Int) (hM : 0 < M) : 0 < Int.tmod x M + M ∧ Int.tmod x M + M < 2 * M := by
  have h1 := Int.tmod_lt_of_pos x hM
  have h2 := Int.lt_tmod_of_pos x hM
  omega
theorem bits_split (b : Int) (h : 2 ≤ b ∧ b ≤ 40) : ∃ t : Nat, b = ((t + 1 : Nat) : Int) ∧ 1 ≤ t ∧ t ≤ 39 := ⟨(b - 1).toNat, by omega, by omega, by omega⟩
def sumsL : List Int → Int → List Int
  | [], _ => []
  | x :: r, a => (a + x) :: sumsL r (a + x)
def wsumL (H : Int) : List Int → Int → List Int
  | [], _ => []
  | x :: r, t => wI H (t + x) :: wsumL H r (wI H (t + x))
theorem wsumL_eq (H : Int) : ∀ (l : List Int) (a : Int), wsumL H l (wI H a) = (sumsL l a).map (wI H)
  | [], _ => rfl
  | x :: r, a => by rw [wsumL, sumsL, List.map_cons, wI_add, wsumL_eq H r (a + x)]
theorem sumsL_length : ∀ (l : List Int) (a : Int), (sumsL l a).length = l.length
  | [], _ => rfl
  | x :: r, a => by rw [sumsL, List.length_cons, sumsL_length r, List.length_cons]
theorem sumsL_bound (B : Nat) : ∀ (l : List Int) (a : Int) (c : Nat), (∀ x ∈ l, -(B : Int) ≤ x ∧ x ≤ B) → -((c * B : Nat) : Int) ≤ a → a ≤ ((c * B : Nat) : Int) → ∀ y ∈ sumsL l a, -(((c + l.length) * B : Nat) : Int) ≤ y ∧ y ≤ (((c + l.length) * B : Nat) : Int)
  | x :: r, a, c, hx, h0, h1, y, hy => by
    have hxx := hx x (by simp)
    have hc : ((c + 1) * B : Nat) = c * B + B := by rw [Nat.add_mul, Nat.one_mul]
    have hle : (c + 1) * B ≤ (c + (x :: r).length) * B := Nat.mul_le_mul_right B (by rw [List.length_cons]; omega)
    rw [sumsL] at hy
    rcases List.mem_cons.1 hy with hy | hy
    · omega
    · have h := sumsL_bound B r (a + x) (c + 1) (fun z hz => hx z (by simp [hz])) (by omega) (by omega) y hy
      have e : c + 1 + r.length = c + (x :: r).length := by rw [List.length_cons]; omega
      rw [e] at h
      exact h
def diffL : List Int → Int → List Int
  | [], _ => []
  | x :: r, a => (x - a) :: diffL r x
theorem diffL_length : ∀ (l : List Int) (a : Int), (diffL l a).length = l.length
  | [], _ => rfl
  | x :: r, a => by rw [diffL, List.length_cons, diffL_length r, List.length_cons]
theorem diffL_bound (B : Int) : ∀ (l : List Int) (a : Int), (∀ x ∈ l, -B ≤ x ∧ x ≤ B) → -B ≤ a → a ≤ B → ∀ y ∈ diffL l a, -(2 * B) ≤ y ∧ y ≤ 2 * B
  | x :: r, a, hx, h0, h1, y, hy => by
    have hxx := hx x (by simp)
    rw [diffL] at hy
    rcases List.mem_cons.1 hy with hy | hy
    · omega
    · exact diffL_bound B r x (fun z hz => hx z (by simp [hz])) hxx.1 hxx.2 y hy
def sumsN (H : Int) : Nat → List Int → List Int
  | 0, l => l
  | n + 1, l => sumsN H n ((sumsL l 0).map (wI H))
def combsN (H : Int) : Nat → List Int → List Int
  | 0, l => l
  | n + 1, l => combsN H n ((diffL l 0).map (wI H))
def okL (l : List Int) : Prop := l.length ≤ 1000 ∧ ∀ x ∈ l, -549755813888 ≤ x ∧ x ≤ 549755813888
theorem okL_map {H : Int} (hH : 1 ≤ H) (hH' : H ≤ 549755813888) (l : List Int) (h : l.length ≤ 1000) : okL (l.map (wI H)) := by
  refine ⟨by rw [List.length_map]; exact h, fun x hx => ?_⟩
  obtain ⟨y, _, rfl⟩ := List.mem_map.1 hx
  have := wI_bound hH y
  omega
theorem sumsN_ok {H : Int} (hH : 1 ≤ H) (hH' : H ≤ 549755813888) : ∀ (n : Nat) (l : List Int), okL l → okL (sumsN H n l) ∧ (sumsN H n l).length = l.length
  | 0, l, h => ⟨h, rfl⟩
  | n + 1, l, h => by
    obtain ⟨h1, h2⟩ := sumsN_ok hH hH' n ((sumsL l 0).map (wI H)) (okL_map hH hH' _ (by rw [sumsL_length]; exact h.1))
    rw [List.length_map, sumsL_length] at h2
    exact ⟨h1, h2⟩
theorem combsN_ok {H : Int} (hH : 1 ≤ H) (hH' : H ≤ 549755813888) : ∀ (n : Nat) (l : List Int), okL l → okL (combsN H n l) ∧ (combsN H n l).length = l.length
  | 0, l, h => ⟨h, rfl⟩
  | n + 1, l, h => by
    obtain ⟨h1, h2⟩ := combsN_ok hH hH' n ((diffL l 0).map (wI H)) (okL_map hH hH' _ (by rw [diffL_length]; exact h.1))
    rw [List.length_map, diffL_length] at h2
    exact ⟨h1, h2⟩

-- Shift
def shI (P mode x : Int) : Int := if (mode = 1 ∧ 2 * (x % P) ≥ P ∧ x % P > 0) ∨ (mode = 2 ∧ x < 0 ∧ x % P > 0) then x / P + 1 else x / P
theorem aid_div {x P y : Int} (hP : 0 < P) (h0 : 0 ≤ x - P * y) (h1 : x - P * y < P) : x / P = y :=
  ((Int.ediv_emod_unique hP (a := x) (r := x - P * y) (q := y)).2 ⟨by omega, h0, h1⟩).1
theorem shift_shl (s : Nat) (hs : s ≤ 20) : shl .i64 1 (s : Int) = 2 ^ s := by
  have h : ∀ s : Fin 21, shl .i64 1 ((s.val : Nat) : Int) = 2 ^ s.val := by decide +kernel
  exact h ⟨s, by omega⟩
theorem shift_shr (s : Nat) (hs : s ≤ 20) (x : Int) : shr .i64 x (s : Int) = x / 2 ^ s := by
  unfold shr
  have e : min ((s : Int)).toNat IntKind.i64.bits = s := by
    rw [Int.toNat_natCast, show IntKind.i64.bits = 64 from rfl]
    omega
  rw [e]
theorem shift_pow (s : Nat) (hs : s ≤ 20) : (1 : Int) ≤ 2 ^ s ∧ (2 : Int) ^ s ≤ 1048576 := by
  have h : ∀ s : Fin 21, (1 : Int) ≤ 2 ^ s.val ∧ (2 : Int) ^ s.val ≤ 1048576 := by decide +kernel
  exact h ⟨s, by omega⟩
theorem shift_mul {P u : Int} (hP : 1 ≤ P) (hu : 0 ≤ u) : u ≤ P * u := by
  have := Int.mul_le_mul_of_nonneg_right hP hu
  omega
theorem shift_div (x P : Int) (hP : 1 ≤ P) : x = P * (x / P) + x % P ∧ 0 ≤ x % P ∧ x % P < P ∧ (0 ≤ x → 0 ≤ x / P ∧ x / P ≤ x) ∧ (x < 0 → x ≤ x / P ∧ x / P < 0) := by
  have h1 := Int.mul_ediv_add_emod x P
  have h2 := Int.emod_nonneg x (show P ≠ 0 by omega)
  have h3 := Int.emod_lt_of_pos x (show 0 < P by omega)
  refine ⟨by omega, h2, h3, fun h => ?_, fun h => ?_⟩
  · have h4 := Int.ediv_nonneg h (show 0 ≤ P by omega)
    have h5 := shift_mul hP h4
    omega
  · have h4 : x / P < 0 := Int.ediv_neg_of_neg_of_pos h (by omega)
    have h5 := shift_mul hP (show 0 ≤ -(x / P) - 1 by omega)
    have h6 : P * (-(x / P) - 1) = -(P * (x / P)) - P := by rw [Int.mul_sub, Int.mul_neg, Int.mul_one]
    omega
theorem shI_bound (P mode x B : Int) (hP : 1 ≤ P) (hB : 0 ≤ B) (h0 : -(P * B) ≤ x) (h1 : x ≤ P * B) : -B ≤ shI P mode x ∧ shI P mode x ≤ B := by
  obtain ⟨e, r0, r1, _, _⟩ := shift_div x P hP
  have hlo : -B ≤ x / P := by
    apply Int.le_ediv_of_mul_le (by omega)
    rw [Int.neg_mul, Int.mul_comm B P]
    exact h0
  have hhi : x / P ≤ B := by
    apply Int.ediv_le_of_le_mul (by omega)
    rw [Int.mul_comm B P]
    exact h1
  have hhi2 : x % P > 0 → x / P + 1 ≤ B := by
    intro hr
    apply Classical.byContradiction
    intro hc
    have e2 : x / P = B := by omega
    rw [e2] at e
    omega
  unfold shI
  split
  · rename_i h
    rcases h with h | h
    · have := hhi2 h.2.2
      omega
    · have := hhi2 h.2.2
      omega
  · omega

-- Fit
def fitI (b : Bool) (H x : Int) : Int := if b = true then wI H x else min (max x (-H)) (H - 1)
theorem fitI_bound {H : Int} (hH : 1 ≤ H) (b : Bool) (x : Int) : -H ≤ fitI b H x ∧ fitI b H x ≤ H - 1 := by
  unfold fitI
  split
  · have := wI_bound hH x
    omega
  · omega
theorem wI_self {H x : Int} (h0 : -H ≤ x) (h1 : x ≤ H - 1) : wI H x = x := by
  unfold wI
  rw [Int.emod_eq_of_lt (by omega) (by omega)]
  omega
theorem fitI_self {H : Int} (hH : 1 ≤ H) (b : Bool) (x : Int) : fitI b H x = x ↔ -H ≤ x ∧ x ≤ H - 1 := by
  refine ⟨fun h => ?_, fun h => ?_⟩
  · have := fitI_bound hH b x
    omega
  · unfold fitI
    split
    · exact wI_self h.1 h.2
    · omega
theorem word_split (b : Int) (h : 2 ≤ b ∧ b ≤ 16) : ∃ t : Nat, b = ((t + 1 : Nat) : Int) ∧ 1 ≤ t ∧ t ≤ 15 := ⟨(b - 1).toNat, by omega, by omega, by omega⟩
theorem word_pow (t : Nat) (h1 : 1 ≤ t) (h : t ≤ 15) : (2 : Int) ≤ 2 ^ t ∧ (2 : Int) ^ t ≤ 32768 := by
  have h' : ∀ s : Fin 16, 1 ≤ s.val → (2 : Int) ≤ 2 ^ s.val ∧ (2 : Int) ^ s.val ≤ 32768 := by decide +kernel
  exact h' ⟨t, by omega⟩ h1
theorem mul_bound {a y B C : Int} (ha : -B ≤ a ∧ a ≤ B) (hy : -C ≤ y ∧ y ≤ C) : -(B * C) ≤ a * y ∧ a * y ≤ B * C := by
  have h1 : (a * y).natAbs = a.natAbs * y.natAbs := Int.natAbs_mul a y
  have h2 : a.natAbs * y.natAbs ≤ B.toNat * C.toNat := Nat.mul_le_mul (by omega) (by omega)
  have h3 : ((B.toNat * C.toNat : Nat) : Int) = B * C := by rw [Int.natCast_mul, Int.toNat_of_nonneg (by omega), Int.toNat_of_nonneg (by omega)]
  generalize a * y = p at *
  generalize B * C = q at *
  omega
theorem shI_small {P m x B : Int} (hP : 1 ≤ P) (h0 : -B ≤ x) (h1 : x ≤ B) : -B ≤ shI P m x ∧ shI P m x ≤ B := by
  have h := shift_mul hP (show 0 ≤ B by omega)
  exact shI_bound P m x B hP (by omega) (by omega) (by omega)
def hB (b : Int) : Int := 2 ^ (b.toNat - 1)
theorem hB_eq (t : Nat) : hB ((t + 1 : Nat) : Int) = 2 ^ t := by
  unfold hB
  rw [Int.toNat_natCast]
  rfl
def wordInB (b x : Int) : Bool := decide (2 ≤ b ∧ b ≤ 16) && decide (-hB b ≤ x ∧ x ≤ hB b - 1)

-- spec_wdLow
theorem spec_wdLow.eq (t : Nat) (h1 : 1 ≤ t) (h2 : t ≤ 15) (b : Bool) : spec_wdLow.f ((t + 1 : Nat) : Int) b = some (-(2 ^ t)) := by
  obtain ⟨hH, hH'⟩ := word_pow t h1 h2
  unfold spec_wdLow.f
  rw [show wrap64 (((t + 1 : Nat) : Int) - 1) = (t : Int) by rw [aid_wr (by omega) (by omega)]; omega, if_pos (by omega), wrap_shl t (by omega), aid_wr (x := -(2 ^ t)) (by omega) (by omega)]

-- spec_wdHigh
theorem spec_wdHigh.eq (t : Nat) (h1 : 1 ≤ t) (h2 : t ≤ 15) (b : Bool) : spec_wdHigh.f ((t + 1 : Nat) : Int) b = some (2 ^ t - 1) := by
  obtain ⟨hH, hH'⟩ := word_pow t h1 h2
  unfold spec_wdHigh.f
  rw [show wrap64 (((t + 1 : Nat) : Int) - 1) = (t : Int) by rw [aid_wr (by omega) (by omega)]; omega, if_pos (by omega), wrap_shl t (by omega), aid_wr (x := 2 ^ t - 1) (by omega) (by omega)]

-- spec_wdGood
theorem spec_wdGood.eq (b : Int) (c : Bool) : spec_wdGood.f b c = some (decide (2 ≤ b ∧ b ≤ 16)) := by
  unfold spec_wdGood.f
  rw [spec_l1In.eq]
  rfl

-- spec_wdIn
theorem spec_wdIn.eq (b : Int) (c : Bool) (x : Int) : spec_wdIn.f b c x = some (wordInB b x) := by
  unfold spec_wdIn.f wordInB
  rw [spec_wdGood.eq]
  by_cases h : 2 ≤ b ∧ b ≤ 16
  · obtain ⟨t, rfl, h1, h2⟩ := word_split b h
    rw [decide_eq_true h, hB_eq, spec_wdLow.eq t h1 h2, spec_wdHigh.eq t h1 h2]
    simp only [Option.bind_some, if_true, spec_l1In.eq, Bool.true_and]
  · rw [decide_eq_false h]
    rfl

-- spec_wdMode
theorem spec_wdMode.eq (s m : Int) : spec_wdMode.f s m = some (decide (0 ≤ s ∧ s ≤ 20) && decide (0 ≤ m ∧ m ≤ 2)) := by
  unfold spec_wdMode.f
  rw [spec_l1In.eq, spec_l1In.eq]
  cases decide (0 ≤ s ∧ s ≤ 20) <;> rfl

-- First
def firstB (a s m b : Int) : Bool := decide ((-1024 ≤ a ∧ a ≤ 1024) ∧ (0 ≤ s ∧ s ≤ 10) ∧ (0 ≤ m ∧ m ≤ 2) ∧ (2 ≤ b ∧ b ≤ 16))
theorem firstB_iff (a s m b : Int) : firstB a s m b = true ↔ (-1024 ≤ a ∧ a ≤ 1024) ∧ (0 ≤ s ∧ s ≤ 10) ∧ (0 ≤ m ∧ m ≤ 2) ∧ (2 ≤ b ∧ b ≤ 16) := by
  unfold firstB
  rw [decide_eq_true_eq]
def rawI (P m a y x : Int) : Int := shI P m (a * y) + x
theorem rawI_bound {P m a y x : Int} (hP : 1 ≤ P) (ha : -1024 ≤ a ∧ a ≤ 1024) (hy : -32768 ≤ y ∧ y ≤ 32768) (hx : -1000000 ≤ x ∧ x ≤ 1000000) : -40000000 ≤ rawI P m a y x ∧ rawI P m a y x ≤ 40000000 := by
  have h1 := mul_bound ha hy
  have h2 := shI_small (m := m) hP h1.1 h1.2
  unfold rawI
  omega
def runI (b : Bool) (H P m a : Int) : List Int → Int → List Int
  | [], _ => []
  | x :: r, y => fitI b H (rawI P m a y x) :: runI b H P m a r (fitI b H (rawI P m a y x))
def runC (b : Bool) (H P m a : Int) : List Int → Int → Nat
  | [], _ => 0
  | x :: r, y => (if -H ≤ rawI P m a y x ∧ rawI P m a y x ≤ H - 1 then 0 else 1) + runC b H P m a r (fitI b H (rawI P m a y x))
theorem runI_length (b : Bool) (H P m a : Int) : ∀ (l : List Int) (y : Int), (runI b H P m a l y).length = l.length
  | [], _ => rfl
  | x :: r, y => by rw [runI, List.length_cons, runI_length b H P m a r, List.length_cons]
theorem first_shift (s : Int) (h : 0 ≤ s ∧ s ≤ 10) : ∃ n : Nat, s = (n : Int) ∧ n ≤ 10 := ⟨s.toNat, by omega, by omega⟩

-- Second
def secondB (a b0 s m b : Int) : Bool := decide ((-1024 ≤ a ∧ a ≤ 1024) ∧ (-1024 ≤ b0 ∧ b0 ≤ 1024) ∧ (0 ≤ s ∧ s ≤ 10) ∧ (0 ≤ m ∧ m ≤ 2) ∧ (2 ≤ b ∧ b ≤ 16))
theorem secondB_iff (a b0 s m b : Int) : secondB a b0 s m b = true ↔ (-1024 ≤ a ∧ a ≤ 1024) ∧ (-1024 ≤ b0 ∧ b0 ≤ 1024) ∧ (0 ≤ s ∧ s ≤ 10) ∧ (0 ≤ m ∧ m ≤ 2) ∧ (2 ≤ b ∧ b ≤ 16) := by
  unfold secondB
  rw [decide_eq_true_eq]
def raw2 (P m a b y z x : Int) : Int := shI P m (a * y + b * z) + x
theorem raw2_bound {P m a b y z x : Int} (hP : 1 ≤ P) (ha : -1024 ≤ a ∧ a ≤ 1024) (hb : -1024 ≤ b ∧ b ≤ 1024) (hy : -32768 ≤ y ∧ y ≤ 32768) (hz : -32768 ≤ z ∧ z ≤ 32768) (hx : -1000000 ≤ x ∧ x ≤ 1000000) : -80000000 ≤ raw2 P m a b y z x ∧ raw2 P m a b y z x ≤ 80000000 := by
  have h1 := mul_bound ha hy
  have h3 := mul_bound hb hz
  have h2 := shI_small (B := 67108864) (m := m) (x := a * y + b * z) hP (by omega) (by omega)
  unfold raw2
  omega
def run2I (c : Bool) (H P m a b : Int) : List Int → Int → Int → List Int
  | [], _, _ => []
  | x :: r, y, z => fitI c H (raw2 P m a b y z x) :: run2I c H P m a b r (fitI c H (raw2 P m a b y z x)) y
def run2C (c : Bool) (H P m a b : Int) : List Int → Int → Int → Nat
  | [], _, _ => 0
  | x :: r, y, z => (if -H ≤ raw2 P m a b y z x ∧ raw2 P m a b y z x ≤ H - 1 then 0 else 1) + run2C c H P m a b r (fitI c H (raw2 P m a b y z x)) y
theorem run2I_length (c : Bool) (H P m a b : Int) : ∀ (l : List Int) (y z : Int), (run2I c H P m a b l y z).length = l.length
  | [], _, _ => rfl
  | x :: r, y, z => by rw [run2I, List.length_cons, run2I_length c H P m a b r, List.length_cons]

-- spec_sdGood
theorem spec_sdGood.eq (a b0 s m b : Int) (c : Bool) : spec_sdGood.f a b0 s m b c = some (secondB a b0 s m b) := by
  unfold spec_sdGood.f secondB
  rw [spec_l1In.eq, spec_l1In.eq, spec_l1In.eq, spec_wdMode.eq, spec_wdGood.eq]
  by_cases h1 : -1024 ≤ a ∧ a ≤ 1024
  · by_cases h0 : -1024 ≤ b0 ∧ b0 ≤ 1024
    · by_cases h2 : 0 ≤ s ∧ s ≤ 10
      · by_cases h3 : 0 ≤ m ∧ m ≤ 2
        · simp [h1, h0, h2, h3, show s ≤ 20 by omega]
        · simp [h1, h0, h2, h3, show s ≤ 20 by omega]
      · simp [h1, h0, h2]
    · simp [h1, h0]
  · simp [h1]

-- spec_sdAsked
theorem spec_sdAsked.eq (a b0 s m b : Int) (c : Bool) (y z x : Int) : spec_sdAsked.f a b0 s m b c y z x = some (secondB a b0 s m b && (wordInB b y && (wordInB b z && decide (-100000 ≤ x ∧ x ≤ 100000)))) := by
  unfold spec_sdAsked.f
  rw [spec_sdGood.eq, spec_wdIn.eq, spec_wdIn.eq, spec_l1In.eq]
  cases secondB a b0 s m b with
  | false => rfl
  | true =>
    cases wordInB b y with
    | false => rfl
    | true => cases wordInB b z <;> rfl

-- spec_l1Most
theorem spec_l1Most.eq (a b : Int) : spec_l1Most.f a b = some (max a b) := by
  unfold spec_l1Most.f
  split <;> simp <;> omega

-- spec_l1Least
theorem spec_l1Least.eq (a b : Int) : spec_l1Least.f a b = some (min a b) := by
  unfold spec_l1Least.f
  split <;> simp <;> omega

-- spec_wdFit
theorem spec_wdFit.eq (t : Nat) (h1 : 1 ≤ t) (h2 : t ≤ 15) (b : Bool) (x : Int) (hx0 : -4611686018427387904 ≤ x) (hx1 : x ≤ 4611686018427387904) : spec_wdFit.f ((t + 1 : Nat) : Int) b x = some (fitI b (2 ^ t) x) := by
  unfold spec_wdFit.f
  rw [spec_wdHigh.eq t h1 h2, spec_wdLow.eq t h1 h2, wrap_shl (t + 1) (by omega)]
  have hp : (2 : Int) ^ (t + 1) = 2 * 2 ^ t := by rw [Int.pow_succ, Int.mul_comm]
  obtain ⟨hH, hH'⟩ := word_pow t h1 h2
  rw [hp]
  generalize (2 : Int) ^ t = H at hH hH' ⊢
  simp only [Option.bind_some, spec_l1Most.eq, spec_l1Least.eq]
  unfold fitI
  by_cases hb : b = true
  · rw [if_pos hb, if_pos hb, if_pos (by omega), if_neg (by omega)]
    obtain ⟨b0, b1⟩ := wrap_tmod_bound x (2 * H) (by omega)
    have hz : Int.tmod (wrap64 (Int.tmod x (2 * H) + 2 * H)) (2 * H) = x % (2 * H) := by
      rw [aid_wr (by omega) (by omega), aid_tmod (by omega), wrap_tmod]
    rw [hz]
    clear hz b0 b1
    have e := Int.mul_ediv_add_emod x (2 * H)
    have r0 := Int.emod_nonneg x (show 2 * H ≠ 0 by omega)
    have r1 := Int.emod_lt_of_pos x (show 0 < 2 * H by omega)
    unfold wI
    by_cases hc : x % (2 * H) > H - 1
    · rw [if_pos hc, aid_wr (by omega) (by omega), aid_emod (x := x + H) (y := x / (2 * H) + 1) (by omega) (by rw [Int.mul_add, Int.mul_one]; omega) (by rw [Int.mul_add, Int.mul_one]; omega), Int.mul_add, Int.mul_one]
      congr 1
      omega
    · rw [if_neg hc, aid_emod (x := x + H) (y := x / (2 * H)) (by omega) (by omega) (by omega)]
      congr 1
      omega
  · rw [if_neg hb, if_neg hb]
    congr 1
    omega

-- spec_wdShift
theorem spec_wdShift.one (x : Int) (h0 : -1000000000000 ≤ x) (h1 : x ≤ 1000000000000) : Ev (fun k => spec_wdShift.f k x 1 0) (x / 2) := by
  have hs : shl .i64 1 1 = 2 := rfl
  unfold spec_wdShift.f
  have hj : ∀ (y : Int) , y = x / 2 → Ev (fun k => spec_wdShift.j0 k x 0 2 y) (x / 2) := by
    intro y hy
    refine aid_ev_succ ?_
    simp only [spec_wdShift.j0]
    refine Ev.congr (fun k => if_neg (by decide)) ?_
    refine aid_ev_succ ?_
    simp only [spec_wdShift.j1]
    subst hy
    simp
    exact Ev.now _
  rw [hs]
  have e : Int.tmod x 2 = if x < 0 ∧ x % 2 = 1 then -1 else x % 2 := by
    rw [Int.tmod_eq_emod]
    split <;> split <;> omega
  have e2 : Int.tdiv x 2 = if x < 0 ∧ x % 2 = 1 then x / 2 + 1 else x / 2 := by
    rw [Int.tdiv_eq_ediv, show Int.sign 2 = 1 from rfl]
    split <;> split <;> omega
  rw [e, e2]
  by_cases hc : x < 0 ∧ x % 2 = 1
  · simp only [hc, and_self, if_true]
    rw [aid_wr (x := x / 2 + 1) (by omega) (by omega), aid_wr (x := x / 2 + 1 - 1) (by omega) (by omega)]
    exact hj _ (by omega)
  · rw [if_neg hc, if_neg hc, aid_wr (x := x / 2) (by omega) (by omega)]
    have : ¬ x % 2 < 0 := by omega
    simp only [this, if_false]
    exact hj _ rfl

-- spec_wdShift.gen
theorem spec_wdShift.gen (s : Nat) (hs : s ≤ 20) (x mode : Int) (hx0 : -1000000000000 ≤ x) (hx1 : x ≤ 1000000000000) : Ev (fun k => spec_wdShift.f k x (s : Int) mode) (shI (2 ^ s) mode x) := by
  unfold spec_wdShift.f
  obtain ⟨hP0, hP1⟩ := shift_pow s hs
  rw [shift_shl s hs]
  generalize (2 : Int) ^ s = P at hP0 hP1 ⊢
  obtain ⟨e, r0, r1, d0, d1⟩ := shift_div x P hP0
  have hj : ∀ y : Int, y = x / P → Ev (fun k => spec_wdShift.j0 k x mode P y) (shI P mode x) := by
    intro y hy
    subst hy
    refine aid_ev_succ ?_
    have eq1 : wrap64 (x - wrap64 (x / P * P)) = x % P := by
      rw [Int.mul_comm]
      rw [aid_wr (x := P * (x / P)) (by omega) (by omega), aid_wr (by omega) (by omega)]
      omega
    have eq2 : wrap64 (2 * (x % P)) = 2 * (x % P) := aid_wr (by omega) (by omega)
    have eq3 : wrap64 (x / P + 1) = x / P + 1 := by
      apply aid_wr <;> by_cases hx : 0 ≤ x
      · have := d0 hx; omega
      · have := d1 (by omega); omega
      · have := d0 hx; omega
      · have := d1 (by omega); omega
    simp only [spec_wdShift.j0, eq1, eq2]
    clear eq1 eq2
    have EQ3 := Aside0.mk eq3
    clear eq3
    have hT : ∀ c : Bool, (c = true → shI P mode x = x / P + 1) → (c = false → mode = 1 → shI P mode x = x / P) → (c = true → mode = 1) → Ev (fun k => spec_wdShift.j1 k x mode (x / P) (x % P) c) (shI P mode x) := by
      intro c h1 h2 h3
      refine aid_ev_succ ?_
      simp only [spec_wdShift.j1, EQ3.out]
      cases c with
      | true =>
        rw [h1 rfl]
        simp only [if_true]
        exact Ev.now _
      | false =>
        simp only [if_false, Bool.false_eq_true]
        by_cases hm : mode = 1
        · rw [h2 rfl hm]
          rw [if_neg (by omega)]
          exact Ev.now _
        · unfold shI
          by_cases hm2 : mode = 2
          · by_cases hx : x < 0
            · by_cases hr : x % P > 0
              · rw [if_pos hm2, if_pos hx, if_pos hr, if_pos (Or.inr ⟨hm2, hx, hr⟩)]
                exact Ev.now _
              · rw [if_pos hm2, if_pos hx, if_neg hr, if_neg (by omega)]
                exact Ev.now _
            · rw [if_pos hm2, if_neg hx, if_neg (by omega)]
              exact Ev.now _
          · rw [if_neg hm2, if_neg (by omega)]
            exact Ev.now _
    by_cases hm : mode = 1
    · by_cases h2 : 2 * (x % P) ≥ P
      · simp only [if_pos hm, if_pos h2]
        refine hT _ (fun hc => ?_) (fun hc _ => ?_) (fun _ => hm)
        · exact if_pos (Or.inl ⟨hm, h2, of_decide_eq_true hc⟩)
        · have := of_decide_eq_false hc
          exact if_neg (by omega)
      · simp only [if_pos hm, if_neg h2]
        refine hT _ (fun hc => absurd hc (by decide)) (fun hc _ => if_neg (by omega)) (fun _ => hm)
    · simp only [if_neg hm]
      exact hT _ (fun hc => absurd hc (by decide)) (fun _ h => absurd h hm) (fun hc => absurd hc (by decide))
  refine Ev.congr (fun k => if_pos (by omega)) ?_
  refine Ev.congr (fun k => if_neg (by omega)) ?_
  by_cases hx : 0 ≤ x
  · have e1 : Int.tmod x P = x % P := aid_tmod hx
    have e2 : Int.tdiv x P = x / P := aid_tdiv hx
    have := d0 hx
    rw [e1, e2]
    refine Ev.congr (fun k => if_neg (by omega)) ?_
    rw [aid_wr (x := x / P) (by omega) (by omega)]
    exact hj _ rfl
  · obtain ⟨z, rfl⟩ : ∃ z, x = -z := ⟨-x, by omega⟩
    obtain ⟨f, s0, s1, b0, b1⟩ := shift_div z P hP0
    have e1 : Int.tmod (-z) P = -(z % P) := by rw [Int.neg_tmod, aid_tmod (by omega)]
    have e2 : Int.tdiv (-z) P = -(z / P) := by rw [Int.neg_tdiv, aid_tdiv (by omega)]
    have := b0 (by omega)
    rw [e1, e2, aid_wr (x := -(z / P)) (by omega) (by omega)]
    by_cases hr : -(z % P) < 0
    · refine Ev.congr (fun k => if_pos hr) ?_
      rw [aid_wr (x := -(z / P) - 1) (by omega) (by omega)]
      refine hj _ (aid_div (by omega) ?_ ?_).symm
      · rw [Int.mul_sub, Int.mul_neg, Int.mul_one]
        omega
      · rw [Int.mul_sub, Int.mul_neg, Int.mul_one]
        omega
    · refine Ev.congr (fun k => if_neg hr) ?_
      refine hj _ (aid_div (by omega) ?_ ?_).symm
      · rw [Int.mul_neg]
        omega
      · rw [Int.mul_neg]
        omega

-- spec_sdRaw
theorem spec_sdRaw.ev (a b m : Int) (ha : -1024 ≤ a ∧ a ≤ 1024) (hb : -1024 ≤ b ∧ b ≤ 1024) (s : Nat) (hs : s ≤ 10) (b1 : Int) (c : Bool) (y z x : Int) (hy : -32768 ≤ y ∧ y ≤ 32768) (hz : -32768 ≤ z ∧ z ≤ 32768) (hx : -1000000 ≤ x ∧ x ≤ 1000000) : Ev (fun k => spec_sdRaw.f k a b (s : Int) m b1 c y z x) (raw2 (2 ^ s) m a b y z x) := by
  obtain ⟨hP, _⟩ := shift_pow s (by omega)
  have h1 := mul_bound ha hy
  have h3 := mul_bound hb hz
  have h2 := shI_small (B := 67108864) (m := m) (x := a * y + b * z) hP (by omega) (by omega)
  unfold spec_sdRaw.f
  rw [aid_wr (x := a * y) (by omega) (by omega), aid_wr (x := b * z) (by omega) (by omega), aid_wr (x := a * y + b * z) (by omega) (by omega)]
  refine Ev.bind (spec_wdShift.gen s (by omega) (a * y + b * z) m (by omega) (by omega)) ?_
  rw [aid_wr (x := shI (2 ^ s) m (a * y + b * z) + x) (by omega) (by omega)]
  exact Ev.now _

-- spec_sdRun
theorem spec_sdRun.l0_ev (a b m : Int) (ha : -1024 ≤ a ∧ a ≤ 1024) (hb : -1024 ≤ b ∧ b ≤ 1024) (s : Nat) (hs : s ≤ 10) (t : Nat) (ht1 : 1 ≤ t) (ht2 : t ≤ 15) (c : Bool) (l : List Int) (hl : l.length ≤ 1000) (hx : ∀ x ∈ l, -1000000 ≤ x ∧ x ≤ 1000000) : ∀ (d i n : Nat) (y z : Int) (o : List Int), i + d = l.length → o.length = i → n ≤ i → -(2 ^ t) ≤ y ∧ y ≤ 2 ^ t → -(2 ^ t) ≤ z ∧ z ≤ 2 ^ t →
    Ev (fun k => spec_sdRun.l0 k y z o (n : Int) l (l.length : Int) (i : Int) a b (s : Int) m ((t + 1 : Nat) : Int) c) (o ++ run2I c (2 ^ t) (2 ^ s) m a b (l.drop i) y z, ((n + run2C c (2 ^ t) (2 ^ s) m a b (l.drop i) y z : Nat) : Int)) := by
  obtain ⟨hP, _⟩ := shift_pow s (by omega)
  obtain ⟨hH, hH'⟩ := word_pow t ht1 ht2
  intro d
  induction d with
  | zero =>
    intro i n y z o hi ho hn hy hz
    rw [List.drop_eq_nil_of_le (by omega), run2I, run2C, List.append_nil]
    refine aid_ev_succ ?_
    simp only [spec_sdRun.l0]
    exact Ev.congr (fun k => if_neg (by omega)) (Ev.now _)
  | succ d ih =>
    intro i n y z o hi ho hn hy hz
    have hi' : i < l.length := by omega
    have hxi := hx l[i] (List.getElem_mem hi')
    have hraw := spec_sdRaw.ev a b m ha hb s hs ((t + 1 : Nat) : Int) c y z l[i] (by omega) (by omega) hxi
    have hrb := raw2_bound (m := m) (y := y) (z := z) hP ha hb (by omega) (by omega) hxi
    rw [List.drop_eq_getElem_cons hi', run2I, run2C]
    generalize raw2 (2 ^ s) m a b y z l[i] = R at *
    have hfb := fitI_bound (show 1 ≤ (2 : Int) ^ t by omega) c R
    have hfs := fitI_self (show 1 ≤ (2 : Int) ^ t by omega) c R
    have hih := fun n' => ih (i + 1) n' (fitI c (2 ^ t) R) y (o ++ [fitI c (2 ^ t) R]) (by omega) (by simp [ho])
    refine aid_ev_succ ?_
    simp only [spec_sdRun.l0]
    refine Ev.congr (fun k => if_pos (by omega)) ?_
    refine Ev.congr (fun k => if_pos (by omega)) ?_
    refine Ev.congr (fun k => if_pos (by omega)) ?_
    rw [aid_rd l i hi']
    refine Ev.bind hraw ?_
    rw [spec_wdFit.eq t ht1 ht2 c R (by omega) (by omega)]
    simp only [Option.bind_some]
    rw [aid_next (by omega)]
    by_cases hc : -(2 ^ t) ≤ R ∧ R ≤ 2 ^ t - 1
    · have h := hih n (by omega) (by omega) hy
      rw [if_pos hc, Nat.zero_add]
      rw [List.append_assoc] at h
      refine Ev.congr (fun k => if_pos (hfs.2 hc)) ?_
      exact Ev.congr (fun k => if_pos (by omega)) h
    · have h := hih (n + 1) (by omega) (by omega) hy
      rw [if_neg hc, ← Nat.add_assoc]
      rw [List.append_assoc] at h
      refine Ev.congr (fun k => if_neg (fun he => hc (hfs.1 he))) ?_
      refine Ev.congr (fun k => if_pos (by omega)) ?_
      rw [aid_next (by omega)]
      exact h
theorem spec_sdRun.ev (a b m : Int) (ha : -1024 ≤ a ∧ a ≤ 1024) (hb : -1024 ≤ b ∧ b ≤ 1024) (s : Nat) (hs : s ≤ 10) (t : Nat) (ht1 : 1 ≤ t) (ht2 : t ≤ 15) (c : Bool) (l : List Int) (hl : l.length ≤ 1000) (hx : ∀ x ∈ l, -1000000 ≤ x ∧ x ≤ 1000000) (y z : Int) (hy : -(2 ^ t) ≤ y ∧ y ≤ 2 ^ t) (hz : -(2 ^ t) ≤ z ∧ z ≤ 2 ^ t) :
    Ev (fun k => spec_sdRun.f k a b (s : Int) m ((t + 1 : Nat) : Int) c y z l) (run2I c (2 ^ t) (2 ^ s) m a b l y z, (run2C c (2 ^ t) (2 ^ s) m a b l y z : Int)) := by
  have h := spec_sdRun.l0_ev a b m ha hb s hs t ht1 ht2 c l hl hx l.length 0 0 y z [] (by omega) rfl (by omega) hy hz
  rw [Nat.zero_add] at h
  exact h

-- impl_in
theorem impl_in.eq (a lo hi : Int) : impl_in.f a lo hi = some (decide (lo ≤ a ∧ a ≤ hi)) := by
  unfold impl_in.f
  by_cases h : lo ≤ a <;> simp [h]

-- impl_isSignal
theorem impl_isSignal.eq (l : List Int) : impl_isSignal.f l = some (sigB l) := by
  unfold impl_isSignal.f sigB
  have e1 : decide ((l.length : Int) ≤ 64) = decide (l.length ≤ 64) := by
    rw [Bool.eq_iff_iff]; simp; omega
  have e2 : (!(l.any fun x => !(decide (-100000 ≤ x) && decide (x ≤ 100000)))) = l.all fun x => decide (-100000 ≤ x ∧ x ≤ 100000) := by
    rw [List.not_any_eq_all_not]
    congr 1
    funext x
    rw [Bool.eq_iff_iff]
    simp
  rw [e1, e2]

-- impl_Word_ends
theorem impl_Word_ends.eq (t : Nat) (h1 : 1 ≤ t) (h2 : t ≤ 15) (b : Bool) : impl_Word_ends.f ((t + 1 : Nat) : Int) b = some (-(2 ^ t), 2 ^ t - 1) := by
  obtain ⟨hH, hH'⟩ := word_pow t h1 h2
  unfold impl_Word_ends.f
  rw [show wrap64 (((t + 1 : Nat) : Int) - 1) = (t : Int) by rw [aid_wr (by omega) (by omega)]; omega, if_pos (by omega), wrap_shl t (by omega), aid_wr (x := -(2 ^ t)) (by omega) (by omega), aid_wr (x := 2 ^ t - 1) (by omega) (by omega)]

-- impl_Word_has
theorem impl_Word_has.eq (t : Nat) (h1 : 1 ≤ t) (h2 : t ≤ 15) (b : Bool) (x : Int) : impl_Word_has.f ((t + 1 : Nat) : Int) b x = some (decide (-(2 ^ t) ≤ x ∧ x ≤ 2 ^ t - 1)) := by
  unfold impl_Word_has.f
  rw [impl_Word_ends.eq t h1 h2]
  simp only [Option.bind_some]
  rw [impl_in.eq]
  rfl

-- impl_isFactor
theorem impl_isFactor.eq (a : Int) : impl_isFactor.f a = some (decide (-1024 ≤ a ∧ a ≤ 1024)) := by
  unfold impl_isFactor.f
  rw [impl_in.eq]
  rfl

-- impl_isScale
theorem impl_isScale.eq (s m : Int) : impl_isScale.f s m = some (decide (0 ≤ s ∧ s ≤ 10) && decide (0 ≤ m ∧ m ≤ 2)) := by
  unfold impl_isScale.f
  rw [impl_in.eq, impl_in.eq]
  cases decide (0 ≤ s ∧ s ≤ 10) <;> rfl

-- impl_isWord
theorem impl_isWord.eq (n : Int) (b : Bool) : impl_isWord.f n b = some (decide (2 ≤ n ∧ n ≤ 16)) := by
  unfold impl_isWord.f
  rw [impl_in.eq]
  rfl

-- impl_isSecond
theorem impl_isSecond.eq (a b0 s m b : Int) (c : Bool) : impl_isSecond.f a b0 s m b c = some (secondB a b0 s m b) := by
  unfold impl_isSecond.f secondB
  rw [impl_isFactor.eq, impl_isFactor.eq, impl_isScale.eq, impl_isWord.eq]
  by_cases h1 : -1024 ≤ a ∧ a ≤ 1024
  · by_cases h0 : -1024 ≤ b0 ∧ b0 ≤ 1024
    · by_cases h2 : 0 ≤ s ∧ s ≤ 10
      · by_cases h3 : 0 ≤ m ∧ m ≤ 2
        · simp [h1, h0, h2, h3]
        · simp [h1, h0, h2, h3]
      · simp [h1, h0, h2]
    · simp [h1, h0]
  · simp [h1]

-- impl_Second_isAt
theorem impl_Second_isAt.eq (a b0 s m b : Int) (c : Bool) (y z : Int) : impl_Second_isAt.f a b0 s m b c y z = some (secondB a b0 s m b && (wordInB b y && wordInB b z)) := by
  unfold impl_Second_isAt.f
  rw [impl_isSecond.eq]
  cases h : secondB a b0 s m b with
  | false => rfl
  | true =>
    have hb := ((secondB_iff a b0 s m b).1 h).2.2.2.2
    obtain ⟨t, rfl, h1, h2⟩ := word_split b hb
    unfold wordInB
    rw [impl_Word_has.eq t h1 h2, impl_Word_has.eq t h1 h2, decide_eq_true hb, hB_eq]
    by_cases hy : -(2 ^ t) ≤ y ∧ y ≤ 2 ^ t - 1
    · rw [decide_eq_true hy]
      rfl
    · rw [decide_eq_false hy]
      rfl

-- impl_shifted
theorem impl_shifted.ev (s : Nat) (hs : s ≤ 20) (x mode : Int) (hx0 : -1000000000000 ≤ x) (hx1 : x ≤ 1000000000000) : Ev (fun k => impl_shifted.f k x (s : Int) mode) (shI (2 ^ s) mode x) := by
  have hN : mode ≠ 1 ∨ s = 0 → Ev (fun k => impl_shifted.j0 k x (s : Int) mode false) (shI (2 ^ s) mode x) := by
    intro hm
    refine aid_ev_succ ?_
    simp only [impl_shifted.j0, shift_shr s hs, Bool.false_eq_true, if_false]
    have hz : s = 0 → x % 2 ^ s = 0 := fun h => by rw [h, Int.pow_zero, Int.emod_one]
    obtain ⟨hP0, hP1⟩ := shift_pow s hs
    generalize (2 : Int) ^ s = P at hP0 hP1 hz ⊢
    obtain ⟨e, r0, r1, d0, d1⟩ := shift_div x P hP0
    unfold shI
    by_cases hm2 : mode = 2
    · by_cases hx : x < 0
      · rw [if_pos hm2, if_pos hx, if_pos (by omega), aid_wr (x := -x) (by omega) (by omega)]
        obtain ⟨f, s0, s1, b0, b1⟩ := shift_div (-x) P hP0
        have hb := b0 (by omega)
        rw [aid_wr (x := -(-x / P)) (by omega) (by omega)]
        by_cases hr : x % P > 0
        · rw [if_pos (Or.inr ⟨hm2, hx, hr⟩)]
          have : -x / P = -(x / P + 1) := aid_div (by omega) (by rw [Int.mul_neg, Int.mul_add, Int.mul_one]; omega) (by rw [Int.mul_neg, Int.mul_add, Int.mul_one]; omega)
          rw [this, Int.neg_neg]
          exact Ev.now _
        · rw [if_neg (by omega)]
          have : -x / P = -(x / P) := aid_div (by omega) (by rw [Int.mul_neg]; omega) (by rw [Int.mul_neg]; omega)
          rw [this, Int.neg_neg]
          exact Ev.now _
      · rw [if_pos hm2, if_neg hx, if_pos (by omega), if_neg (by omega)]
        exact Ev.now _
    · rw [if_neg hm2, if_pos (by omega), if_neg (by omega)]
      exact Ev.now _
  unfold impl_shifted.f
  by_cases hm : mode = 1
  · refine Ev.congr (fun k => if_pos hm) ?_
    by_cases hs0 : s = 0
    · rw [decide_eq_false (by omega)]
      exact hN (.inr hs0)
    · rw [decide_eq_true (by omega)]
      refine aid_ev_succ ?_
      obtain ⟨t, rfl⟩ : ∃ t, s = t + 1 := ⟨s - 1, by omega⟩
      have et : wrap64 (((t + 1 : Nat) : Int) - 1) = (t : Int) := by
        rw [aid_wr (by omega) (by omega)]
        omega
      simp only [impl_shifted.j0, shift_shr (t + 1) hs, if_true, et, shift_shl t (by omega)]
      clear et
      have hpw : (2 : Int) ^ (t + 1) = 2 * 2 ^ t := by rw [Int.pow_succ, Int.mul_comm]
      obtain ⟨hP0, hP1⟩ := shift_pow t (by omega)
      rw [hpw]
      generalize (2 : Int) ^ t = H at hP0 hP1 ⊢
      obtain ⟨e, r0, r1, d0, d1⟩ := shift_div x (2 * H) (by omega)
      rw [if_pos (by omega), if_pos (by omega), aid_wr (x := x + H) (by omega) (by omega)]
      unfold shI
      by_cases hr : 2 * (x % (2 * H)) ≥ 2 * H
      · rw [if_pos (Or.inl ⟨hm, hr, by omega⟩)]
        have : (x + H) / (2 * H) = x / (2 * H) + 1 := aid_div (by omega) (by rw [Int.mul_add, Int.mul_one]; omega) (by rw [Int.mul_add, Int.mul_one]; omega)
        rw [this]
        exact Ev.now _
      · rw [if_neg (by omega)]
        have : (x + H) / (2 * H) = x / (2 * H) := aid_div (by omega) (by omega) (by omega)
        rw [this]
        exact Ev.now _
  · refine Ev.congr (fun k => if_neg hm) ?_
    exact hN (.inl hm)

-- impl_Second_raw
theorem impl_Second_raw.ev (a b m : Int) (ha : -1024 ≤ a ∧ a ≤ 1024) (hb : -1024 ≤ b ∧ b ≤ 1024) (s : Nat) (hs : s ≤ 10) (b1 : Int) (c : Bool) (y z x : Int) (hy : -32768 ≤ y ∧ y ≤ 32768) (hz : -32768 ≤ z ∧ z ≤ 32768) (hx : -1000000 ≤ x ∧ x ≤ 1000000) : Ev (fun k => impl_Second_raw.f k a b (s : Int) m b1 c y z x) (raw2 (2 ^ s) m a b y z x) := by
  obtain ⟨hP, _⟩ := shift_pow s (by omega)
  have h1 := mul_bound ha hy
  have h3 := mul_bound hb hz
  have h2 := shI_small (B := 67108864) (m := m) (x := a * y + b * z) hP (by omega) (by omega)
  unfold impl_Second_raw.f
  rw [aid_wr (x := a * y) (by omega) (by omega), aid_wr (x := b * z) (by omega) (by omega), aid_wr (x := a * y + b * z) (by omega) (by omega)]
  refine Ev.bind (impl_shifted.ev s (by omega) (a * y + b * z) m (by omega) (by omega)) ?_
  rw [aid_wr (x := shI (2 ^ s) m (a * y + b * z) + x) (by omega) (by omega)]
  exact Ev.now _

-- impl_mod
theorem impl_mod.eq (a M : Int) (hM : 0 < M) (hM' : M ≤ 4611686018427387904) : impl_mod.f a M = some (a % M) := by
  obtain ⟨b0, b1⟩ := wrap_tmod_bound a M hM
  unfold impl_mod.f
  rw [if_neg (by omega), aid_wr (x := Int.tmod a M + M) (by omega) (by omega), aid_tmod (by omega), wrap_tmod]

-- impl_Word_fit
theorem impl_Word_fit.eq (t : Nat) (h1 : 1 ≤ t) (h2 : t ≤ 15) (b : Bool) (x : Int) (hx0 : -4611686018427387904 ≤ x) (hx1 : x ≤ 4611686018427387904) : impl_Word_fit.f ((t + 1 : Nat) : Int) b x = some (fitI b (2 ^ t) x) := by
  unfold impl_Word_fit.f
  rw [impl_Word_ends.eq t h1 h2]
  obtain ⟨hH, hH'⟩ := word_pow t h1 h2
  generalize (2 : Int) ^ t = H at hH hH' ⊢
  simp only [Option.bind_some]
  unfold fitI
  by_cases hb : b = true
  · rw [if_pos hb, if_pos hb, aid_wr (x := x - -H) (by omega) (by omega), aid_wr (x := H - 1 - -H) (by omega) (by omega), aid_wr (x := H - 1 - -H + 1) (by omega) (by omega), impl_mod.eq _ _ (by omega) (by omega)]
    simp only [Option.bind_some]
    rw [show x - -H = x + H by omega, show H - 1 - -H + 1 = 2 * H by omega]
    have r0 := Int.emod_nonneg (x + H) (show 2 * H ≠ 0 by omega)
    have r1 := Int.emod_lt_of_pos (x + H) (show 0 < 2 * H by omega)
    rw [aid_wr (x := (x + H) % (2 * H) + -H) (by omega) (by omega)]
    rfl
  · rw [if_neg hb, if_neg hb]
    congr 1
    unfold mn mx
    split <;> split <;> omega

-- impl_Second_step
theorem impl_Second_step.ev (a b m : Int) (ha : -1024 ≤ a ∧ a ≤ 1024) (hb : -1024 ≤ b ∧ b ≤ 1024) (s : Nat) (hs : s ≤ 10) (t : Nat) (ht1 : 1 ≤ t) (ht2 : t ≤ 15) (c : Bool) (y z x : Int) (hy : -32768 ≤ y ∧ y ≤ 32768) (hz : -32768 ≤ z ∧ z ≤ 32768) (hx : -1000000 ≤ x ∧ x ≤ 1000000) : Ev (fun k => impl_Second_step.f k a b (s : Int) m ((t + 1 : Nat) : Int) c y z x) (fitI c (2 ^ t) (raw2 (2 ^ s) m a b y z x), y) := by
  obtain ⟨hP, _⟩ := shift_pow s (by omega)
  have hr := raw2_bound (m := m) hP ha hb hy hz hx
  unfold impl_Second_step.f
  refine Ev.bind (impl_Second_raw.ev a b m ha hb s hs _ c y z x hy hz hx) ?_
  rw [impl_Word_fit.eq t ht1 ht2 c _ (by omega) (by omega)]
  exact Ev.now _

theorem cpf_l0 (a b m : Int) (ha : -1024 ≤ a ∧ a ≤ 1024) (hb : -1024 ≤ b ∧ b ≤ 1024) (s : Nat) (hs : s ≤ 10) (t : Nat) (ht1 : 1 ≤ t) (ht2 : t ≤ 15) (c : Bool) (l : List Int) (hl : l.length ≤ 1000) (hx : ∀ x ∈ l, -1000000 ≤ x ∧ x ≤ 1000000) : ∀ (d i n : Nat) (y z : Int), i + d = l.length → n ≤ i → -(2 ^ t) ≤ y ∧ y ≤ 2 ^ t → -(2 ^ t) ≤ z ∧ z ≤ 2 ^ t →
    Ev (fun k => impl_CountPairFits.l0 k (n : Int) l (l.length : Int) (i : Int) a b (s : Int) m ((t + 1 : Nat) : Int) c y z) (((n + run2C c (2 ^ t) (2 ^ s) m a b (l.drop i) y z : Nat) : Int), true) := by
  obtain ⟨hP, _⟩ := shift_pow s (by omega)
  obtain ⟨hH, hH'⟩ := word_pow t ht1 ht2
  intro d
  induction d with
  | zero =>
    intro i n y z hi hn hy hz
    rw [List.drop_eq_nil_of_le (by omega), run2C]
    refine aid_ev_succ ?_
    simp only [impl_CountPairFits.l0]
    exact Ev.congr (fun k => if_neg (by omega)) (Ev.now _)
  | succ d ih =>
    intro i n y z hi hn hy hz
    have hi' : i < l.length := by omega
    have hxi := hx l[i] (List.getElem_mem hi')
    have hraw := impl_Second_raw.ev a b m ha hb s hs ((t + 1 : Nat) : Int) c y z l[i] (by omega) (by omega) hxi
    have hst := impl_Second_step.ev a b m ha hb s hs t ht1 ht2 c y z l[i] (by omega) (by omega) hxi
    have hrb := raw2_bound (m := m) (y := y) (z := z) hP ha hb (by omega) (by omega) hxi
    rw [List.drop_eq_getElem_cons hi', run2C]
    generalize raw2 (2 ^ s) m a b y z l[i] = R at *
    have hfb := fitI_bound (show 1 ≤ (2 : Int) ^ t by omega) c R
    have hih := fun n' => ih (i + 1) n' (fitI c (2 ^ t) R) y (by omega)
    refine aid_ev_succ ?_
    simp only [impl_CountPairFits.l0]
    refine Ev.congr (fun k => if_pos (by omega)) ?_
    refine Ev.congr (fun k => if_pos (by omega)) ?_
    refine Ev.congr (fun k => if_pos (by omega)) ?_
    rw [aid_rd l i hi']
    refine Ev.bind hraw ?_
    rw [impl_Word_has.eq t ht1 ht2]
    simp only [Option.bind_some, decide_eq_true_eq]
    rw [aid_next (by omega)]
    by_cases hc : -(2 ^ t) ≤ R ∧ R ≤ 2 ^ t - 1
    · have h := hih n (by omega) (by omega) hy
      rw [if_pos hc, Nat.zero_add]
      refine Ev.congr (fun k => if_pos hc) ?_
      exact Ev.bind hst h
    · have h := hih (n + 1) (by omega) (by omega) hy
      rw [if_neg hc, ← Nat.add_assoc]
      refine Ev.congr (fun k => if_neg hc) ?_
      rw [aid_next (by omega)]
      exact Ev.bind hst h
theorem cpf_both (a b0 s m b : Int) (c : Bool) (y z : Int) (l : List Int) : ∃ r : Int × Bool, Ev (fun k => spec_CountPairFits.f k a b0 s m b c y z l) r ∧ Ev (fun k => impl_CountPairFits.f k a b0 s m b c y z l) r := by
  unfold spec_CountPairFits.f impl_CountPairFits.f
  rw [spec_sdAsked.eq, impl_Second_isAt.eq, impl_isSignal.eq, decide_eq_true (show -100000 ≤ (0 : Int) ∧ (0 : Int) ≤ 100000 by omega), Bool.and_true]
  have hsig := spec_wdSignal.ev l
  have hiN : Ev (fun k => impl_CountPairFits.j0 k y z l true a b0 s m b c) ((0 : Int), false) := by
    refine aid_ev_succ ?_
    simp only [impl_CountPairFits.j0]
    exact Ev.now _
  cases hg : secondB a b0 s m b && (wordInB b y && wordInB b z) with
  | false => exact ⟨(0, false), Ev.now _, hiN⟩
  | true =>
    cases hB : sigB l with
    | false =>
      rw [hB] at hsig
      exact ⟨(0, false), Ev.bind (a := true) (Ev.now _) (Ev.congr (fun k => if_pos rfl) (Ev.bind hsig (Ev.now _))), hiN⟩
    | true =>
      rw [hB] at hsig
      rw [Bool.and_eq_true, Bool.and_eq_true] at hg
      obtain ⟨ha, hb0, hs, hm, hb⟩ := (secondB_iff a b0 s m b).1 hg.1
      obtain ⟨n, rfl, hn⟩ := first_shift s hs
      obtain ⟨t, rfl, ht1, ht2⟩ := word_split b hb
      have hy := hg.2
      unfold wordInB at hy
      simp only [hB_eq, Bool.and_eq_true, decide_eq_true_eq] at hy
      obtain ⟨hl, hx⟩ := (sigB_iff l).1 hB
      have hx' : ∀ x ∈ l, -1000000 ≤ x ∧ x ≤ 1000000 := fun x h => by have := hx x h; omega
      have h1 := spec_sdRun.ev a b0 m ha hb0 n hn t ht1 ht2 c l (by omega) hx' y z (by omega) (by omega)
      have h2 := cpf_l0 a b0 m ha hb0 n hn t ht1 ht2 c l (by omega) hx' l.length 0 0 y z (by omega) (by omega) (by omega) (by omega)
      rw [Nat.zero_add, List.drop_zero] at h2
      refine ⟨((run2C c (2 ^ t) (2 ^ n) m a b0 l y z : Int), true), Ev.bind (a := true) (Ev.now _) (Ev.congr (fun k => if_pos rfl) (Ev.bind hsig ?_)), ?_⟩
      · exact aid_ev_bind h1 rfl
      · refine Ev.congr (fun k => rfl) (f := fun k => impl_CountPairFits.j0 k y z l false a b0 (n : Int) m ((t + 1 : Nat) : Int) c) ?_
        refine aid_ev_succ ?_
        simp only [impl_CountPairFits.j0]
        exact Ev.congr (fun k => if_neg (by decide)) h2
theorem FnExactCountPairFits : laws_FnExactCountPairFits.Pure := by
  intro a b1 s m b0 c y z l _ _ _ _ _ _ _ _ h8 _
  refine Ev.rounds ?_
  unfold laws_FnExactCountPairFits.f
  by_cases hb : (l.length : Int) > 1048576
  · exact Ev.congr (fun k => if_pos hb) (Ev.now _)
  refine Ev.congr (fun k => if_neg hb) ?_
  have hT := laws_toIntS.ev l h8
  have hF : laws_toSecond.f a b1 s m b0 c = some (a, b1, s, m, b0, c) := rfl
  simp only [hF, Option.bind_some]
  obtain ⟨⟨r, b⟩, hs, hi⟩ := cpf_both a b1 s m b0 c y z l
  have hE := laws_eqIntS.refl l (by omega)
  have hEl := hE
  have hM := hE
  have hMl := hE
  have hH := hE
  have hNb : ¬ ((b != b) = true) := by cases b <;> decide
  have hN1 := hNb
  have hN2 := hNb
  repeat (first
    | exact Ev.now _
    | ((with_reducible refine Ev.bind hT ?_); try dsimp only)
    | ((with_reducible refine Ev.bind hs ?_); try dsimp only)
    | ((with_reducible refine Ev.bind hi ?_); try dsimp only)
    | ((with_reducible refine Ev.bind hE ?_); try dsimp only)
    | ((with_reducible refine Ev.bind hEl ?_); try dsimp only)
    | ((with_reducible refine Ev.bind hM ?_); try dsimp only)
    | ((with_reducible refine Ev.bind hMl ?_); try dsimp only)
    | ((with_reducible refine Ev.bind hH ?_); try dsimp only)
    | (with_reducible refine Ev.congr (fun k => if_pos rfl) ?_)
    | (with_reducible refine Ev.congr (fun k => if_neg hNb) ?_)
    | (with_reducible refine Ev.congr (fun k => if_neg hN1) ?_)
    | (with_reducible refine Ev.congr (fun k => if_neg hN2) ?_)
    | (refine aid_ev_succ ?_; simp only [laws_FnExactCountPairFits.j0]; try dsimp only))

end Go.Proofs.Ytjknlfgphlopnaa.Pure
