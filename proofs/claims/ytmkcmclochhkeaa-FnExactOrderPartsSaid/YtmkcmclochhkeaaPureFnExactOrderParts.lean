/- Proves that the program's OrderParts returns what the reference's returns, for all arguments. Conditions: none. -/
import Derived.Test.YtmkcmclochhkeaaPFnExactOrderPartsx6
namespace Go.Proofs.Ytmkcmclochhkeaa.Pure
open Go.RowKit Go.Proofs.Ytmkcmclochhkeaa.PFnExactOrderParts Go.Proofs.YtmkcmclochhkeaaW.PrintWords Go.Proofs.YtmkcmclochhkeaaW.PrintLast
set_option linter.unusedSimpArgs false
set_option linter.unusedVariables false

-- Aid
theorem aid_wr {x : Int} (h0 : -9223372036854775808 ≤ x) (h1 : x ≤ 9223372036854775807) : wrap64 x = x := by unfold wrap64; omega
theorem aid_wf {x : Int} (h : (Lit.int .i64 x).wf = true) : -9223372036854775808 ≤ x ∧ x ≤ 9223372036854775807 := by
  have hmin : IntKind.i64.min = -9223372036854775808 := rfl
  have hmax : IntKind.i64.max = 9223372036854775807 := rfl
  simp only [Lit.wf, Bool.and_eq_true, decide_eq_true_eq, hmin, hmax] at h
  exact h
theorem aid_ev_bind {α β : Type} {g : Nat → Option α} {f : α → Option β} {a : α} {r : β} (h : Ev g a) (k : f a = some r) : Ev (fun n => (g n).bind f) r :=
  Ev.bind (f := fun _ => f) h ⟨0, fun _ _ => k⟩
theorem aid_ev_const {α : Type} {o : Option α} {r : α} (h : o = some r) : Ev (fun _ => o) r := ⟨0, fun _ _ => h⟩
theorem aid_tdiv {a b : Int} (ha : 0 ≤ a) : Int.tdiv a b = a / b := Int.tdiv_eq_ediv_of_nonneg ha
theorem aid_tmod {a b : Int} (ha : 0 ≤ a) : Int.tmod a b = a % b := Int.tmod_eq_emod_of_nonneg ha
theorem aid_next {i : Nat} (h : i ≤ 9223372036854775806) : wrap64 ((i : Int) + 1) = ((i + 1 : Nat) : Int) := by rw [aid_wr (by omega) (by omega)]; rfl
theorem aid_rd (l : List Int) (i : Nat) (h : i < l.length) : rd l (i : Int) = l[i] := by
  unfold rd
  rw [List.getD_eq_getElem?_getD, Int.toNat_natCast, List.getElem?_eq_getElem h]
  rfl
theorem aid_ev_succ {α : Type} {g : Nat → Option α} {r : α} (h : Ev (fun k => g (k + 1)) r) : Ev g r := Ev.step (fun _ => rfl) h

-- Sig
def sigB (l : List Int) : Bool := decide (l.length ≤ 64) && l.all fun x => decide (-100000 ≤ x ∧ x ≤ 100000)
theorem sigB_iff (l : List Int) : sigB l = true ↔ l.length ≤ 64 ∧ ∀ x ∈ l, -100000 ≤ x ∧ x ≤ 100000 := by
  simp [sigB]
def toldP (l : List Int) : List Int × Bool := if sigB l then (l, true) else ([], false)
theorem toldP_len (l : List Int) : (toldP l).1.length ≤ 64 := by
  unfold toldP
  cases h : sigB l with
  | true => simpa using ((sigB_iff l).1 h).1
  | false => simp

-- Wrap
def wI (H x : Int) : Int := (x + H) % (2 * H) - H
theorem aid_emod {x P y : Int} (hP : 0 < P) (h0 : 0 ≤ x - P * y) (h1 : x - P * y < P) : x % P = x - P * y :=
  ((Int.ediv_emod_unique hP (a := x) (r := x - P * y) (q := y)).2 ⟨by omega, h0, h1⟩).2
theorem wI_bound {H : Int} (hH : 1 ≤ H) (x : Int) : -H ≤ wI H x ∧ wI H x < H := by
  unfold wI
  have h1 := Int.emod_nonneg (x + H) (show 2 * H ≠ 0 by omega)
  have h2 := Int.emod_lt_of_pos (x + H) (show 0 < 2 * H by omega)
  omega
theorem wI_zero {H : Int} (hH : 1 ≤ H) : wI H 0 = 0 := by
  unfold wI
  rw [Int.zero_add, Int.emod_eq_of_lt (by omega) (by omega)]
  omega
theorem wI_add (H a x : Int) : wI H (wI H a + x) = wI H (a + x) := by
  unfold wI
  have e : (a + H) % (2 * H) - H + x + H = (a + H) % (2 * H) + x := by omega
  rw [e, Int.emod_add_emod]
  have e2 : a + H + x = a + x + H := by omega
  rw [e2]
theorem wrap_shl (t : Nat) (h : t ≤ 40) : shl .i64 1 (t : Int) = 2 ^ t := by
  have h' : ∀ s : Fin 41, shl .i64 1 ((s.val : Nat) : Int) = 2 ^ s.val := by decide +kernel
  exact h' ⟨t, by omega⟩
theorem wrap_pow (t : Nat) (h : t ≤ 39) : (1 : Int) ≤ 2 ^ t ∧ (2 : Int) ^ t ≤ 549755813888 := by
  have h' : ∀ s : Fin 40, (1 : Int) ≤ 2 ^ s.val ∧ (2 : Int) ^ s.val ≤ 549755813888 := by decide +kernel
  exact h' ⟨t, by omega⟩
theorem wrap_tmod (x M : Int) : (Int.tmod x M + M) % M = x % M := by
  have h : x % M = (Int.tmod x M) % M := by
    conv => lhs; rw [← Int.mul_tdiv_add_tmod x M, Int.add_comm, Int.add_mul_emod_self_left]
  rw [h, Int.add_emod_right]
theorem wrap_tmod_bound (x M : Int) (hM : 0 < M) : 0 < Int.tmod x M + M ∧ Int.tmod x M + M < 2 * M := by
  have h1 := Int.tmod_lt_of_pos x hM
  have h2 := Int.lt_tmod_of_pos x hM
  omega
theorem bits_split (b : Int) (h : 2 ≤ b ∧ b ≤ 40) : ∃ t : Nat, b = ((t + 1 : Nat) : Int) ∧ 1 ≤ t ∧ t ≤ 39 := ⟨(b - 1).toNat, by omega, by omega, by omega⟩
def sumsL : List Int → Int → List Int
  | [], _ => []
  | x :: r, a => (a + x) :: sumsL r (a + x)
def wsumL (H : Int) : List Int → Int → List Int
  | [], _ => []
  | x :: r, t => wI H (t + x) :: wsumL H r (wI H (t + x))
theorem wsumL_eq (H : Int) : ∀ (l : List Int) (a : Int), wsumL H l (wI H a) = (sumsL l a).map (wI H)
  | [], _ => rfl
  | x :: r, a => by rw [wsumL, sumsL, List.map_cons, wI_add, wsumL_eq H r (a + x)]
theorem sumsL_length : ∀ (l : List Int) (a : Int), (sumsL l a).length = l.length
  | [], _ => rfl
  | x :: r, a => by rw [sumsL, List.length_cons, sumsL_length r, List.length_cons]
theorem sumsL_bound (B : Nat) : ∀ (l : List Int) (a : Int) (c : Nat), (∀ x ∈ l, -(B : Int) ≤ x ∧ x ≤ B) → -((c * B : Nat) : Int) ≤ a → a ≤ ((c * B : Nat) : Int) → ∀ y ∈ sumsL l a, -(((c + l.length) * B : Nat) : Int) ≤ y ∧ y ≤ (((c + l.length) * B : Nat) : Int)
  | x :: r, a, c, hx, h0, h1, y, hy => by
    have hxx := hx x (by simp)
    have hc : ((c + 1) * B : Nat) = c * B + B := by rw [Nat.add_mul, Nat.one_mul]
    have hle : (c + 1) * B ≤ (c + (x :: r).length) * B := Nat.mul_le_mul_right B (by rw [List.length_cons]; omega)
    rw [sumsL] at hy
    rcases List.mem_cons.1 hy with hy | hy
    · omega
    · have h := sumsL_bound B r (a + x) (c + 1) (fun z hz => hx z (by simp [hz])) (by omega) (by omega) y hy
      have e : c + 1 + r.length = c + (x :: r).length := by rw [List.length_cons]; omega
      rw [e] at h
      exact h
def diffL : List Int → Int → List Int
  | [], _ => []
  | x :: r, a => (x - a) :: diffL r x
theorem diffL_length : ∀ (l : List Int) (a : Int), (diffL l a).length = l.length
  | [], _ => rfl
  | x :: r, a => by rw [diffL, List.length_cons, diffL_length r, List.length_cons]
theorem diffL_bound (B : Int) : ∀ (l : List Int) (a : Int), (∀ x ∈ l, -B ≤ x ∧ x ≤ B) → -B ≤ a → a ≤ B → ∀ y ∈ diffL l a, -(2 * B) ≤ y ∧ y ≤ 2 * B
  | x :: r, a, hx, h0, h1, y, hy => by
    have hxx := hx x (by simp)
    rw [diffL] at hy
    rcases List.mem_cons.1 hy with hy | hy
    · omega
    · exact diffL_bound B r x (fun z hz => hx z (by simp [hz])) hxx.1 hxx.2 y hy
def sumsN (H : Int) : Nat → List Int → List Int
  | 0, l => l
  | n + 1, l => sumsN H n ((sumsL l 0).map (wI H))
def combsN (H : Int) : Nat → List Int → List Int
  | 0, l => l
  | n + 1, l => combsN H n ((diffL l 0).map (wI H))
def okL (l : List Int) : Prop := l.length ≤ 1000 ∧ ∀ x ∈ l, -549755813888 ≤ x ∧ x ≤ 549755813888
theorem okL_map {H : Int} (hH : 1 ≤ H) (hH' : H ≤ 549755813888) (l : List Int) (h : l.length ≤ 1000) : okL (l.map (wI H)) := by
  refine ⟨by rw [List.length_map]; exact h, fun x hx => ?_⟩
  obtain ⟨y, _, rfl⟩ := List.mem_map.1 hx
  have := wI_bound hH y
  omega
theorem sumsN_ok {H : Int} (hH : 1 ≤ H) (hH' : H ≤ 549755813888) : ∀ (n : Nat) (l : List Int), okL l → okL (sumsN H n l) ∧ (sumsN H n l).length = l.length
  | 0, l, h => ⟨h, rfl⟩
  | n + 1, l, h => by
    obtain ⟨h1, h2⟩ := sumsN_ok hH hH' n ((sumsL l 0).map (wI H)) (okL_map hH hH' _ (by rw [sumsL_length]; exact h.1))
    rw [List.length_map, sumsL_length] at h2
    exact ⟨h1, h2⟩
theorem combsN_ok {H : Int} (hH : 1 ≤ H) (hH' : H ≤ 549755813888) : ∀ (n : Nat) (l : List Int), okL l → okL (combsN H n l) ∧ (combsN H n l).length = l.length
  | 0, l, h => ⟨h, rfl⟩
  | n + 1, l, h => by
    obtain ⟨h1, h2⟩ := combsN_ok hH hH' n ((diffL l 0).map (wI H)) (okL_map hH hH' _ (by rw [diffL_length]; exact h.1))
    rw [List.length_map, diffL_length] at h2
    exact ⟨h1, h2⟩

-- Shift
def shI (P mode x : Int) : Int := if (mode = 1 ∧ 2 * (x % P) ≥ P ∧ x % P > 0) ∨ (mode = 2 ∧ x < 0 ∧ x % P > 0) then x / P + 1 else x / P
theorem aid_div {x P y : Int} (hP : 0 < P) (h0 : 0 ≤ x - P * y) (h1 : x - P * y < P) : x / P = y :=
  ((Int.ediv_emod_unique hP (a := x) (r := x - P * y) (q := y)).2 ⟨by omega, h0, h1⟩).1
theorem shift_shl (s : Nat) (hs : s ≤ 20) : shl .i64 1 (s : Int) = 2 ^ s := by
  have h : ∀ s : Fin 21, shl .i64 1 ((s.val : Nat) : Int) = 2 ^ s.val := by decide +kernel
  exact h ⟨s, by omega⟩
theorem shift_shr (s : Nat) (hs : s ≤ 20) (x : Int) : shr .i64 x (s : Int) = x / 2 ^ s := by
  unfold shr
  have e : min ((s : Int)).toNat IntKind.i64.bits = s := by
    rw [Int.toNat_natCast, show IntKind.i64.bits = 64 from rfl]
    omega
  rw [e]
theorem shift_pow (s : Nat) (hs : s ≤ 20) : (1 : Int) ≤ 2 ^ s ∧ (2 : Int) ^ s ≤ 1048576 := by
  have h : ∀ s : Fin 21, (1 : Int) ≤ 2 ^ s.val ∧ (2 : Int) ^ s.val ≤ 1048576 := by decide +kernel
  exact h ⟨s, by omega⟩
theorem shift_mul {P u : Int} (hP : 1 ≤ P) (hu : 0 ≤ u) : u ≤ P * u := by
  have := Int.mul_le_mul_of_nonneg_right hP hu
  omega
theorem shift_div (x P : Int) (hP : 1 ≤ P) : x = P * (x / P) + x % P ∧ 0 ≤ x % P ∧ x % P < P ∧ (0 ≤ x → 0 ≤ x / P ∧ x / P ≤ x) ∧ (x < 0 → x ≤ x / P ∧ x / P < 0) := by
  have h1 := Int.mul_ediv_add_emod x P
  have h2 := Int.emod_nonneg x (show P ≠ 0 by omega)
  have h3 := Int.emod_lt_of_pos x (show 0 < P by omega)
  refine ⟨by omega, h2, h3, fun h => ?_, fun h => ?_⟩
  · have h4 := Int.ediv_nonneg h (show 0 ≤ P by omega)
    have h5 := shift_mul hP h4
    omega
  · have h4 : x / P < 0 := Int.ediv_neg_of_neg_of_pos h (by omega)
    have h5 := shift_mul hP (show 0 ≤ -(x / P) - 1 by omega)
    have h6 : P * (-(x / P) - 1) = -(P * (x / P)) - P := by rw [Int.mul_sub, Int.mul_neg, Int.mul_one]
    omega
theorem shI_bound (P mode x B : Int) (hP : 1 ≤ P) (hB : 0 ≤ B) (h0 : -(P * B) ≤ x) (h1 : x ≤ P * B) : -B ≤ shI P mode x ∧ shI P mode x ≤ B := by
  obtain ⟨e, r0, r1, _, _⟩ := shift_div x P hP
  have hlo : -B ≤ x / P := by
    apply Int.le_ediv_of_mul_le (by omega)
    rw [Int.neg_mul, Int.mul_comm B P]
    exact h0
  have hhi : x / P ≤ B := by
    apply Int.ediv_le_of_le_mul (by omega)
    rw [Int.mul_comm B P]
    exact h1
  have hhi2 : x % P > 0 → x / P + 1 ≤ B := by
    intro hr
    apply Classical.byContradiction
    intro hc
    have e2 : x / P = B := by omega
    rw [e2] at e
    omega
  unfold shI
  split
  · rename_i h
    rcases h with h | h
    · have := hhi2 h.2.2
      omega
    · have := hhi2 h.2.2
      omega
  · omega

-- Fit
def fitI (b : Bool) (H x : Int) : Int := if b = true then wI H x else min (max x (-H)) (H - 1)
theorem fitI_bound {H : Int} (hH : 1 ≤ H) (b : Bool) (x : Int) : -H ≤ fitI b H x ∧ fitI b H x ≤ H - 1 := by
  unfold fitI
  split
  · have := wI_bound hH x
    omega
  · omega
theorem wI_self {H x : Int} (h0 : -H ≤ x) (h1 : x ≤ H - 1) : wI H x = x := by
  unfold wI
  rw [Int.emod_eq_of_lt (by omega) (by omega)]
  omega
theorem fitI_self {H : Int} (hH : 1 ≤ H) (b : Bool) (x : Int) : fitI b H x = x ↔ -H ≤ x ∧ x ≤ H - 1 := by
  refine ⟨fun h => ?_, fun h => ?_⟩
  · have := fitI_bound hH b x
    omega
  · unfold fitI
    split
    · exact wI_self h.1 h.2
    · omega
theorem word_split (b : Int) (h : 2 ≤ b ∧ b ≤ 16) : ∃ t : Nat, b = ((t + 1 : Nat) : Int) ∧ 1 ≤ t ∧ t ≤ 15 := ⟨(b - 1).toNat, by omega, by omega, by omega⟩
theorem word_pow (t : Nat) (h1 : 1 ≤ t) (h : t ≤ 15) : (2 : Int) ≤ 2 ^ t ∧ (2 : Int) ^ t ≤ 32768 := by
  have h' : ∀ s : Fin 16, 1 ≤ s.val → (2 : Int) ≤ 2 ^ s.val ∧ (2 : Int) ^ s.val ≤ 32768 := by decide +kernel
  exact h' ⟨t, by omega⟩ h1
theorem mul_bound {a y B C : Int} (ha : -B ≤ a ∧ a ≤ B) (hy : -C ≤ y ∧ y ≤ C) : -(B * C) ≤ a * y ∧ a * y ≤ B * C := by
  have h1 : (a * y).natAbs = a.natAbs * y.natAbs := Int.natAbs_mul a y
  have h2 : a.natAbs * y.natAbs ≤ B.toNat * C.toNat := Nat.mul_le_mul (by omega) (by omega)
  have h3 : ((B.toNat * C.toNat : Nat) : Int) = B * C := by rw [Int.natCast_mul, Int.toNat_of_nonneg (by omega), Int.toNat_of_nonneg (by omega)]
  generalize a * y = p at *
  generalize B * C = q at *
  omega
theorem shI_small {P m x B : Int} (hP : 1 ≤ P) (h0 : -B ≤ x) (h1 : x ≤ B) : -B ≤ shI P m x ∧ shI P m x ≤ B := by
  have h := shift_mul hP (show 0 ≤ B by omega)
  exact shI_bound P m x B hP (by omega) (by omega) (by omega)
def hB (b : Int) : Int := 2 ^ (b.toNat - 1)
theorem hB_eq (t : Nat) : hB ((t + 1 : Nat) : Int) = 2 ^ t := by
  unfold hB
  rw [Int.toNat_natCast]
  rfl
def wordInB (b x : Int) : Bool := decide (2 ≤ b ∧ b ≤ 16) && decide (-hB b ≤ x ∧ x ≤ hB b - 1)

-- First
def firstB (a s m b : Int) : Bool := decide ((-1024 ≤ a ∧ a ≤ 1024) ∧ (0 ≤ s ∧ s ≤ 10) ∧ (0 ≤ m ∧ m ≤ 2) ∧ (2 ≤ b ∧ b ≤ 16))
theorem firstB_iff (a s m b : Int) : firstB a s m b = true ↔ (-1024 ≤ a ∧ a ≤ 1024) ∧ (0 ≤ s ∧ s ≤ 10) ∧ (0 ≤ m ∧ m ≤ 2) ∧ (2 ≤ b ∧ b ≤ 16) := by
  unfold firstB
  rw [decide_eq_true_eq]
def rawI (P m a y x : Int) : Int := shI P m (a * y) + x
theorem rawI_bound {P m a y x : Int} (hP : 1 ≤ P) (ha : -1024 ≤ a ∧ a ≤ 1024) (hy : -32768 ≤ y ∧ y ≤ 32768) (hx : -1000000 ≤ x ∧ x ≤ 1000000) : -40000000 ≤ rawI P m a y x ∧ rawI P m a y x ≤ 40000000 := by
  have h1 := mul_bound ha hy
  have h2 := shI_small (m := m) hP h1.1 h1.2
  unfold rawI
  omega
def runI (b : Bool) (H P m a : Int) : List Int → Int → List Int
  | [], _ => []
  | x :: r, y => fitI b H (rawI P m a y x) :: runI b H P m a r (fitI b H (rawI P m a y x))
def runC (b : Bool) (H P m a : Int) : List Int → Int → Nat
  | [], _ => 0
  | x :: r, y => (if -H ≤ rawI P m a y x ∧ rawI P m a y x ≤ H - 1 then 0 else 1) + runC b H P m a r (fitI b H (rawI P m a y x))
theorem runI_length (b : Bool) (H P m a : Int) : ∀ (l : List Int) (y : Int), (runI b H P m a l y).length = l.length
  | [], _ => rfl
  | x :: r, y => by rw [runI, List.length_cons, runI_length b H P m a r, List.length_cons]
theorem first_shift (s : Int) (h : 0 ≤ s ∧ s ≤ 10) : ∃ n : Nat, s = (n : Int) ∧ n ≤ 10 := ⟨s.toNat, by omega, by omega⟩

-- Parts
def cvF (x : S56) : S53 := ⟨x.f0, x.f1, x.f2, ⟨x.f3.f0, x.f3.f1⟩⟩
theorem rd_partL (l : List S56) (i : Nat) (h : i < l.length) : rd_T56 l (i : Int) = l[i] := by
  unfold rd_T56
  rw [List.getD_eq_getElem?_getD, Int.toNat_natCast, List.getElem?_eq_getElem h]
  rfl
theorem rd_part (l : List S53) (i : Nat) (h : i < l.length) : rd_T53 l (i : Int) = l[i] := by
  unfold rd_T53
  rw [List.getD_eq_getElem?_getD, Int.toNat_natCast, List.getElem?_eq_getElem h]
  rfl
def partB (x : S53) : Bool := firstB x.f0 x.f1 x.f2 x.f3.f0
def partsB (l : List S53) : Bool := decide (1 ≤ (l.length : Int) ∧ (l.length : Int) ≤ 4) && l.all partB
theorem partsB_len {l : List S53} (h : partsB l = true) : 1 ≤ l.length ∧ l.length ≤ 4 := by
  unfold partsB at h
  rw [Bool.and_eq_true, decide_eq_true_eq] at h
  omega

-- laws_szFirstS
theorem laws_szFirstS.eq (l : List S56) (h : l.length * 40 ≤ 140737488351232) : laws_szFirstS.f l 1048576 = some (if (l.length : Int) > 1048576 then -1 else 1048576 - (l.length : Int)) := by
  unfold laws_szFirstS.f
  rw [aid_wr (by omega) (by omega)]
  by_cases hb : (l.length : Int) > 1048576
  · rw [if_pos (by omega), if_pos hb]
  · rw [if_neg (by omega), if_neg hb]

-- spec_l1In
theorem spec_l1In.eq (a lo hi : Int) : spec_l1In.f a lo hi = some (decide (lo ≤ a ∧ a ≤ hi)) := by
  unfold spec_l1In.f
  by_cases h : lo ≤ a <;> simp [h]

-- spec_wdMode
theorem spec_wdMode.eq (s m : Int) : spec_wdMode.f s m = some (decide (0 ≤ s ∧ s ≤ 20) && decide (0 ≤ m ∧ m ≤ 2)) := by
  unfold spec_wdMode.f
  rw [spec_l1In.eq, spec_l1In.eq]
  cases decide (0 ≤ s ∧ s ≤ 20) <;> rfl

-- spec_wdGood
theorem spec_wdGood.eq (b : Int) (c : Bool) : spec_wdGood.f b c = some (decide (2 ≤ b ∧ b ≤ 16)) := by
  unfold spec_wdGood.f
  rw [spec_l1In.eq]
  rfl

-- spec_foGood
theorem spec_foGood.eq (a s m b : Int) (c : Bool) : spec_foGood.f a s m b c = some (firstB a s m b) := by
  unfold spec_foGood.f firstB
  rw [spec_l1In.eq, spec_l1In.eq, spec_wdMode.eq, spec_wdGood.eq]
  by_cases h1 : -1024 ≤ a ∧ a ≤ 1024
  · by_cases h2 : 0 ≤ s ∧ s ≤ 10
    · by_cases h3 : 0 ≤ m ∧ m ≤ 2
      · simp [h1, h2, h3, show s ≤ 20 by omega]
      · simp [h1, h2, h3, show s ≤ 20 by omega]
    · simp [h1, h2]
  · simp [h1]

-- spec_chGood
theorem spec_chGood.ev (l : List S53) : Ev (fun k => spec_chGood.f k l) (partsB l) := by
  unfold spec_chGood.f partsB
  rw [spec_l1In.eq]
  by_cases hl : 1 ≤ (l.length : Int) ∧ (l.length : Int) ≤ 4
  · rw [decide_eq_true hl, Bool.true_and]
    have h : ∀ (d i : Nat), i + d = l.length → Ev (fun k => spec_chGood.l0 k l (l.length : Int) (i : Int)) ((l.drop i).all partB) := by
      intro d
      induction d with
      | zero =>
        intro i hi
        rw [List.drop_eq_nil_of_le (by omega)]
        refine aid_ev_succ ?_
        simp only [spec_chGood.l0]
        exact Ev.congr (fun k => if_neg (by omega)) (Ev.now _)
      | succ d ih =>
        intro i hi
        have hi' : i < l.length := by omega
        rw [List.drop_eq_getElem_cons hi', List.all_cons]
        refine aid_ev_succ ?_
        simp only [spec_chGood.l0]
        refine Ev.congr (fun k => if_pos (by omega)) ?_
        refine Ev.congr (fun k => if_pos (by omega)) ?_
        refine Ev.congr (fun k => if_pos (by omega)) ?_
        rw [rd_part l i hi', spec_foGood.eq]
        show Ev (fun k => (some (partB l[i])).bind _) _
        cases partB l[i] with
        | true =>
          rw [aid_next (by omega)]
          exact ih (i + 1) (by omega)
        | false => exact Ev.now _
    exact h l.length 0 (by omega)
  · rw [decide_eq_false hl]
    exact Ev.now _

-- laws_toFirstS
theorem laws_toFirstS.l0_ev (l : List S56) (hl : l.length ≤ 10000000) : ∀ (d i : Nat) (o rest : List S53), i + d = l.length → o.length = i → rest.length = d → Ev (fun k => laws_toFirstS.l0 k l (o ++ rest) (i : Int)) (o ++ (l.drop i).map cvF) := by
  intro d
  induction d with
  | zero =>
    intro i o rest hi ho hr
    rw [List.drop_eq_nil_of_le (by omega), List.length_eq_zero_iff.1 hr]
    refine aid_ev_succ ?_
    simp only [laws_toFirstS.l0]
    exact Ev.congr (fun k => if_neg (by omega)) (Ev.now _)
  | succ d ih =>
    intro i o rest hi ho hr
    have hi' : i < l.length := by omega
    obtain ⟨y, t, rfl⟩ : ∃ y t, rest = y :: t := by
      cases rest with
      | nil => simp at hr
      | cons y t => exact ⟨y, t, rfl⟩
    have hset : (o ++ y :: t).set i (cvF l[i]) = (o ++ [cvF l[i]]) ++ t := by
      rw [List.set_append_right _ _ (by omega), ho, Nat.sub_self, List.set_cons_zero, List.append_assoc]
      rfl
    have h := ih (i + 1) (o ++ [cvF l[i]]) t (by omega) (by simp [ho]) (by simpa using hr)
    rw [List.drop_eq_getElem_cons hi', List.map_cons, show ∀ z : List S53, o ++ cvF l[i] :: z = (o ++ [cvF l[i]]) ++ z from fun z => by simp]
    refine aid_ev_succ ?_
    simp only [laws_toFirstS.l0]
    refine Ev.congr (fun k => if_pos (by omega)) ?_
    refine Ev.congr (fun k => if_pos (by omega)) ?_
    rw [rd_partL l i hi']
    refine Ev.bind (a := (l[i].f0, l[i].f1, l[i].f2, l[i].f3.f0, l[i].f3.f1)) (aid_ev_const rfl) ?_
    refine Ev.congr (fun k => if_pos (by rw [List.length_append, List.length_cons]; omega)) ?_
    rw [Int.toNat_natCast, aid_next (by omega)]
    show Ev (fun k => laws_toFirstS.l0 k l ((o ++ y :: t).set i (cvF l[i])) ((i + 1 : Nat) : Int)) _
    rw [hset]
    exact h
theorem laws_toFirstS.ev (l : List S56) (hl : l.length ≤ 10000000) : Ev (fun k => laws_toFirstS.f k l) (l.map cvF) := by
  unfold laws_toFirstS.f
  refine Ev.congr (fun k => if_pos (by omega)) ?_
  refine Ev.congr (fun k => if_pos (by omega)) ?_
  have h := laws_toFirstS.l0_ev l hl l.length 0 [] (List.replicate l.length z53) (by omega) rfl (by simp)
  rw [Int.toNat_natCast]
  exact h

-- laws_toIntS
theorem aid_fill (l : List Int) (i d : Nat) (h : i + (d + 1) = l.length) : (l.take i ++ List.replicate (d + 1) 0).set i (rd l i) = l.take (i + 1) ++ List.replicate d 0 := by
  have hi' : i < l.length := by omega
  have hlen : (l.take i).length = i := by rw [List.length_take]; omega
  rw [List.set_append_right _ _ (by omega), hlen, Nat.sub_self, aid_rd l i hi', List.take_succ_eq_append_getElem hi', List.append_assoc]
  rfl
theorem laws_toIntS.l0_ev (l : List Int) (hl : l.length ≤ 1000000000000000) : ∀ (d i : Nat), i + d = l.length → Ev (fun k => laws_toIntS.l0 k l (l.take i ++ List.replicate d 0) (i : Int)) l := by
  intro d
  induction d with
  | zero =>
    intro i h
    refine Ev.step (fun k => ?_) (Ev.now _)
    simp only [laws_toIntS.l0]
    rw [if_neg (by omega), List.take_of_length_le (by omega)]
    simp
  | succ d ih =>
    intro i h
    refine Ev.step (fun k => ?_) (ih (i + 1) (by omega))
    have hlen : (l.take i ++ List.replicate (d + 1) 0).length = l.length := by
      rw [List.length_append, List.length_take, List.length_replicate]; omega
    simp only [laws_toIntS.l0]
    rw [if_pos (by omega), if_pos (by omega), if_pos (by rw [hlen]; omega), aid_next (by omega), Int.toNat_natCast, aid_fill l i d h]
theorem laws_toIntS.ev (l : List Int) (hl : l.length * 8 ≤ 140737488351232) : Ev (fun k => laws_toIntS.f k l) l := by
  unfold laws_toIntS.f
  have h := laws_toIntS.l0_ev l (by omega) l.length 0 (by omega)
  refine Ev.congr (fun k => ?_) h
  rw [if_pos (by omega), if_pos (by omega)]
  simp

-- impl_in
theorem impl_in.eq (a lo hi : Int) : impl_in.f a lo hi = some (decide (lo ≤ a ∧ a ≤ hi)) := by
  unfold impl_in.f
  by_cases h : lo ≤ a <;> simp [h]

-- impl_isFactor
theorem impl_isFactor.eq (a : Int) : impl_isFactor.f a = some (decide (-1024 ≤ a ∧ a ≤ 1024)) := by
  unfold impl_isFactor.f
  rw [impl_in.eq]
  rfl

-- impl_isScale
theorem impl_isScale.eq (s m : Int) : impl_isScale.f s m = some (decide (0 ≤ s ∧ s ≤ 10) && decide (0 ≤ m ∧ m ≤ 2)) := by
  unfold impl_isScale.f
  rw [impl_in.eq, impl_in.eq]
  cases decide (0 ≤ s ∧ s ≤ 10) <;> rfl

-- impl_isWord
theorem impl_isWord.eq (n : Int) (b : Bool) : impl_isWord.f n b = some (decide (2 ≤ n ∧ n ≤ 16)) := by
  unfold impl_isWord.f
  rw [impl_in.eq]
  rfl

-- impl_isFirst
theorem impl_isFirst.eq (a s m b : Int) (c : Bool) : impl_isFirst.f a s m b c = some (firstB a s m b) := by
  unfold impl_isFirst.f firstB
  rw [impl_isFactor.eq, impl_isScale.eq, impl_isWord.eq]
  by_cases h1 : -1024 ≤ a ∧ a ≤ 1024
  · by_cases h2 : 0 ≤ s ∧ s ≤ 10
    · by_cases h3 : 0 ≤ m ∧ m ≤ 2
      · simp [h1, h2, h3]
      · simp [h1, h2, h3]
    · simp [h1, h2]
  · simp [h1]

-- impl_areParts
theorem impl_areParts.eq (l : List S53) : impl_areParts.f l = some (partsB l) := by
  unfold impl_areParts.f partsB
  rw [impl_in.eq]
  have e : (!(l.any impl_areParts.p)) = l.all partB := by
    rw [List.not_any_eq_all_not]
    congr 1
    funext x
    unfold impl_areParts.p partB
    rw [impl_isFirst.eq]
    cases firstB x.f0 x.f1 x.f2 x.f3.f0 <;> rfl
  rw [e]
  by_cases hl : 1 ≤ (l.length : Int) ∧ (l.length : Int) ≤ 4
  · rw [decide_eq_true hl, Bool.true_and]
    rfl
  · rw [decide_eq_false hl]
    rfl

-- laws_eqFirstS
theorem laws_eqFirst.self (a b c d : Int) (e : Bool) : laws_eqFirst.f a b c d e a b c d e = some true := by
  unfold laws_eqFirst.f laws_eqWord.f
  cases e <;> simp
theorem laws_eqFirstS.refl (l : List S53) (hl : l.length ≤ 10000000) : Ev (fun k => laws_eqFirstS.f k l l) true := by
  have h : ∀ (d i : Nat), i + d = l.length → Ev (fun k => laws_eqFirstS.l0 k l l (i : Int)) true := by
    intro d
    induction d with
    | zero =>
      intro i hi
      refine aid_ev_succ ?_
      simp only [laws_eqFirstS.l0]
      exact Ev.congr (fun k => if_neg (by omega)) (Ev.now _)
    | succ d ih =>
      intro i hi
      refine aid_ev_succ ?_
      simp only [laws_eqFirstS.l0]
      refine Ev.congr (fun k => if_pos (by omega)) ?_
      refine Ev.congr (fun k => if_pos (by omega)) ?_
      refine Ev.congr (fun k => if_pos (by omega)) ?_
      rw [laws_eqFirst.self, aid_next (by omega)]
      exact ih (i + 1) (by omega)
  unfold laws_eqFirstS.f
  exact Ev.congr (fun k => if_pos rfl) (h l.length 0 (by omega))

-- laws_eqIntS
theorem laws_eqIntS.l0_refl (l : List Int) (hl : l.length ≤ 1000000000000000) : ∀ (d i : Nat), i + d = l.length → Ev (fun k => laws_eqIntS.l0 k l l (i : Int)) true := by
  intro d
  induction d with
  | zero =>
    intro i h
    refine Ev.step (fun k => ?_) (Ev.now _)
    simp only [laws_eqIntS.l0]
    rw [if_neg (by omega)]
  | succ d ih =>
    intro i h
    refine Ev.step (fun k => ?_) (ih (i + 1) (by omega))
    simp only [laws_eqIntS.l0]
    rw [if_pos (by omega), if_pos (by omega), if_pos (by omega), if_pos trivial, aid_next (by omega)]
theorem laws_eqIntS.refl (l : List Int) (hl : l.length ≤ 1000000000000000) : Ev (fun k => laws_eqIntS.f k l l) true := by
  unfold laws_eqIntS.f
  exact Ev.congr (fun k => if_pos rfl) (laws_eqIntS.l0_refl l hl l.length 0 (by omega))

-- Mark
def marksL : Nat → Int → List Int
  | 0, _ => []
  | n + 1, a => marksL n a ++ [a + (n : Int)]
theorem marksL_length (a : Int) : ∀ n, (marksL n a).length = n
  | 0 => rfl
  | n + 1 => by rw [marksL, List.length_append, marksL_length a n]; rfl
theorem marksL_get (a : Int) : ∀ (n i : Nat) (h : i < (marksL n a).length), (marksL n a)[i] = a + (i : Int)
  | n + 1, i, h => by
    have hl := marksL_length a n
    have hl' := marksL_length a (n + 1)
    simp only [marksL]
    by_cases hi : i < n
    · rw [List.getElem_append_left (by omega)]
      exact marksL_get a n i (by omega)
    · have e : i = n := by omega
      subst e
      rw [List.getElem_append_right (by omega)]
      simp

-- laws_markIntS
theorem laws_markIntS.l0_ev (l : List Int) (a : Int) (hl : l.length ≤ 1000000000000000) (h0 : 0 ≤ a) (h1 : a ≤ 1000000000000000) : ∀ (d i : Nat), i + d = l.length → Ev (fun k => laws_markIntS.l0 k (marksL i a ++ l.drop i) (a + (i : Int)) (i : Int)) (a + (l.length : Int), marksL l.length a) := by
  intro d
  induction d with
  | zero =>
    intro i h
    have hlen : (marksL i a ++ l.drop i).length = l.length := by rw [List.length_append, marksL_length, List.length_drop]; omega
    refine Ev.step (f := fun _ => some (a + (l.length : Int), marksL l.length a)) (fun k => ?_) (Ev.now _)
    simp only [laws_markIntS.l0]
    rw [if_neg (by rw [hlen]; omega), List.drop_eq_nil_of_le (by omega), List.append_nil]
    obtain rfl : i = l.length := by omega
    rfl
  | succ d ih =>
    intro i h
    have hi' : i < l.length := by omega
    have hlen : (marksL i a ++ l.drop i).length = l.length := by rw [List.length_append, marksL_length, List.length_drop]; omega
    refine Ev.step (fun k => ?_) (ih (i + 1) (by omega))
    simp only [laws_markIntS.l0]
    have hset : (marksL i a ++ l.drop i).set i (a + (i : Int)) = marksL (i + 1) a ++ l.drop (i + 1) := by
      rw [List.set_append_right _ _ (by rw [marksL_length]; omega), marksL_length, Nat.sub_self, List.drop_eq_getElem_cons hi', marksL, List.append_assoc]
      rfl
    rw [if_pos (by rw [hlen]; omega), if_pos (by omega), Int.toNat_natCast, hset, aid_next (by omega), aid_wr (x := a + (i : Int) + 1) (by omega) (by omega)]
    rw [show a + (i : Int) + 1 = a + ((i + 1 : Nat) : Int) by omega]
theorem laws_markIntS.ev (l : List Int) (a : Int) (hl : l.length ≤ 1000000000000000) (h0 : 0 ≤ a) (h1 : a ≤ 1000000000000000) : Ev (fun k => laws_markIntS.f k l a) (a + (l.length : Int), marksL l.length a) := by
  have h := laws_markIntS.l0_ev l a hl h0 h1 l.length 0 (by omega)
  simp only [marksL, List.nil_append, List.drop_zero] at h
  unfold laws_markIntS.f
  simpa using h

-- Order
theorem ord_uniq : ∀ l l' : List Int, l.Perm l' → l.Pairwise (fun u v => u ≤ v) → l'.Pairwise (fun u v => u ≤ v) → l = l'
  | [], l', h, _, _ => by rw [List.nil_perm.1 h]
  | x :: l, [], h, _, _ => by cases List.perm_nil.1 h
  | x :: l, y :: l', h, h1, h2 => by
    rw [List.pairwise_cons] at h1 h2
    have e : x = y := by
      apply Classical.byContradiction
      intro hne
      have m1 : x ∈ y :: l' := h.mem_iff.1 (List.mem_cons_self ..)
      have m2 : y ∈ x :: l := h.mem_iff.2 (List.mem_cons_self ..)
      have m3 : x ∈ l' := (List.mem_cons.1 m1).resolve_left hne
      have m4 : y ∈ l := (List.mem_cons.1 m2).resolve_left (fun e => hne e.symm)
      have c1 := h1.1 y m4
      have c2 := h2.1 x m3
      omega
    subst e
    rw [ord_uniq l l' (List.Perm.cons_inv h) h1.2 h2.2]
def upZ (n : Nat) : List Int := (List.range n).map fun i : Nat => (i : Int)
theorem upZ_mem {n : Nat} {x : Int} : x ∈ upZ n ↔ 0 ≤ x ∧ x < (n : Int) := by
  unfold upZ
  rw [List.mem_map]
  constructor
  · rintro ⟨i, hi, rfl⟩
    have := List.mem_range.1 hi
    omega
  · rintro ⟨h0, h1⟩
    exact ⟨x.toNat, List.mem_range.2 (by omega), by omega⟩
theorem upZ_perm : ∀ (n : Nat) (l : List Int), l.length = n → (∀ k : Nat, k < n → (k : Int) ∈ l) → l.Perm (upZ n)
  | 0, l, hl, _ => by rw [List.eq_nil_of_length_eq_zero hl]; exact .nil
  | n + 1, l, hl, h => by
    have hn := h n (by omega)
    have h1 := List.perm_cons_erase hn
    have h2 := upZ_perm n (l.erase (n : Int)) (by rw [List.length_erase_of_mem hn]; omega) (fun k hk => (List.mem_erase_of_ne (by omega)).2 (h k (by omega)))
    have e : upZ (n + 1) = upZ n ++ [(n : Int)] := by
      unfold upZ
      rw [List.range_succ, List.map_append]
      rfl
    rw [e]
    exact h1.trans ((h2.cons _).trans (List.perm_append_comm (l₁ := [(n : Int)]) (l₂ := upZ n)))
theorem upZ_sorted (n : Nat) : (upZ n).Pairwise fun u v => u ≤ v := by
  unfold upZ
  rw [List.pairwise_map]
  exact List.pairwise_lt_range.imp fun h => by omega
theorem ord_srt (l : List Int) : (impl_isOrder.srt l).Perm l ∧ (impl_isOrder.srt l).Pairwise fun u v => u ≤ v := by
  unfold impl_isOrder.srt
  refine ⟨List.mergeSort_perm _ _, ?_⟩
  have h2 := List.pairwise_mergeSort (le := fun u v : Int => decide (u ≤ v)) (fun a b c h1 h2 => by
    simp only [decide_eq_true_eq] at *
    omega) (fun a b => by
    rcases Int.le_total a b with h | h
    · rw [decide_eq_true h]; rfl
    · rw [Bool.or_eq_true]
      exact .inr (decide_eq_true h)) l
  exact h2.imp fun h => of_decide_eq_true h
/-- All places below the length, each once. -/
def isOrd (l : List Int) : Bool := decide (∀ k : Nat, k < l.length → (k : Int) ∈ l)
theorem isOrd_srt (l : List Int) : decide (impl_isOrder.srt l = (List.range l.length).map fun i : Nat => (i : Int)) = isOrd l := by
  unfold isOrd
  obtain ⟨h1, h2⟩ := ord_srt l
  apply decide_eq_decide.2
  constructor
  · intro e k hk
    have h3 : (k : Int) ∈ upZ l.length := upZ_mem.2 (by omega)
    have h4 : impl_isOrder.srt l = upZ l.length := e
    rw [← h4] at h3
    exact h1.mem_iff.1 h3
  · intro h
    exact ord_uniq _ _ (h1.trans (upZ_perm l.length l rfl h)) h2 (upZ_sorted _)
theorem isOrd_in {l : List Int} (h : isOrd l = true) : ∀ x ∈ l, 0 ≤ x ∧ x < (l.length : Int) := by
  intro x hx
  exact upZ_mem.1 ((upZ_perm l.length l rfl (of_decide_eq_true h)).mem_iff.1 hx)
theorem spec_l1Has.ev (l : List Int) (a : Int) (hl : l.length ≤ 100000000) : Ev (fun k => spec_l1Has.f k l a) (decide (a ∈ l)) := by
  have h : ∀ (d i : Nat), i + d = l.length → Ev (fun k => spec_l1Has.l0 k a l (l.length : Int) (i : Int)) (decide (a ∈ l.drop i)) := by
    intro d
    induction d with
    | zero =>
      intro i hi
      rw [List.drop_eq_nil_of_le (by omega), decide_eq_false (by simp)]
      refine aid_ev_succ ?_
      simp only [spec_l1Has.l0]
      exact Ev.congr (fun k => if_neg (by omega)) (Ev.now _)
    | succ d ih =>
      intro i hi
      have hi' : i < l.length := by omega
      have h2 := ih (i + 1) (by omega)
      rw [List.drop_eq_getElem_cons hi']
      refine aid_ev_succ ?_
      simp only [spec_l1Has.l0]
      rw [aid_rd l i hi', aid_next (by omega)]
      refine Ev.congr (fun k => if_pos (by omega)) (Ev.congr (fun k => if_pos (by omega)) (Ev.congr (fun k => if_pos (by omega)) ?_))
      by_cases e : l[i] = a
      · rw [decide_eq_true (show a ∈ l[i] :: l.drop (i + 1) by rw [e]; exact List.mem_cons_self ..)]
        exact Ev.congr (fun k => if_pos e) (Ev.now _)
      · have e2 : decide (a ∈ l[i] :: l.drop (i + 1)) = decide (a ∈ l.drop (i + 1)) := by
          apply decide_eq_decide.2
          rw [List.mem_cons]
          exact ⟨fun h => h.resolve_left (fun h => e h.symm), .inr⟩
        rw [e2]
        exact Ev.congr (fun k => if_neg e) h2
  unfold spec_l1Has.f
  exact h l.length 0 (by omega)
theorem spec_chOrder.ev (p : List S53) (l : List Int) (hl : l.length ≤ 100000000) : Ev (fun k => spec_chOrder.f k p l) (decide (l.length = p.length) && isOrd l) := by
  unfold spec_chOrder.f
  by_cases hp : l.length = p.length
  · rw [decide_eq_true hp, Bool.true_and, ← hp]
    have h : ∀ (d i : Nat), i + d = l.length → Ev (fun k => spec_chOrder.l0 k l (l.length : Int) (i : Int)) (decide (∀ k : Nat, k < l.length → i ≤ k → (k : Int) ∈ l)) := by
      intro d
      induction d with
      | zero =>
        intro i hi
        rw [decide_eq_true (fun k h1 h2 => by omega)]
        refine aid_ev_succ ?_
        simp only [spec_chOrder.l0]
        exact Ev.congr (fun k => if_neg (by omega)) (Ev.now _)
      | succ d ih =>
        intro i hi
        have h2 := ih (i + 1) (by omega)
        have h3 := spec_l1Has.ev l (i : Int) hl
        refine aid_ev_succ ?_
        simp only [spec_chOrder.l0]
        rw [aid_next (by omega)]
        refine Ev.congr (fun k => if_pos (by omega)) (Ev.bind h3 ?_)
        by_cases e : (i : Int) ∈ l
        · rw [decide_eq_true e]
          have e2 : decide (∀ k : Nat, k < l.length → i ≤ k → (k : Int) ∈ l) = decide (∀ k : Nat, k < l.length → i + 1 ≤ k → (k : Int) ∈ l) := by
            apply decide_eq_decide.2
            constructor
            · intro h k h1 h2
              exact h k h1 (by omega)
            · intro h k h1 h2
              by_cases e3 : k = i
              · rw [e3]; exact e
              · exact h k h1 (by omega)
          rw [e2]
          exact Ev.congr (fun k => if_pos rfl) h2
        · rw [decide_eq_false e, decide_eq_false (fun h => e (h i (by omega) (Nat.le_refl _)))]
          exact Ev.congr (fun k => if_neg (by decide)) (Ev.now _)
    have h0 := h l.length 0 (by omega)
    have e : decide (∀ k : Nat, k < l.length → 0 ≤ k → (k : Int) ∈ l) = isOrd l := by
      unfold isOrd
      apply decide_eq_decide.2
      exact ⟨fun h k hk => h k hk (Nat.zero_le _), fun h k hk _ => h k hk⟩
    rw [e] at h0
    exact Ev.congr (fun k => if_pos rfl) h0
  · rw [decide_eq_false hp, Bool.false_and]
    exact Ev.congr (fun k => if_neg (by omega)) (Ev.now _)
/-- The parts in an order. -/
def takeP (p : List S53) (l : List Int) : List S53 := l.map fun x => p.getD x.toNat z53
theorem takeP_rd (p : List S53) (x : Int) : (⟨(rd_T53 p x).f0, (rd_T53 p x).f1, (rd_T53 p x).f2, ⟨(rd_T53 p x).f3.f0, (rd_T53 p x).f3.f1⟩⟩ : S53) = p.getD x.toNat z53 := rfl
theorem spec_chTake.ev (p : List S53) (l : List Int) (hl : l.length ≤ 100000) (hin : ∀ x ∈ l, 0 ≤ x ∧ x < (p.length : Int)) : Ev (fun k => spec_chTake.f k p l) (takeP p l) := by
  have h : ∀ (d i : Nat) (o : List S53), i + d = l.length → o.length = i → Ev (fun k => spec_chTake.l0 k p o l (l.length : Int) (i : Int)) (o ++ takeP p (l.drop i)) := by
    intro d
    induction d with
    | zero =>
      intro i o hi ho
      rw [List.drop_eq_nil_of_le (by omega)]
      refine aid_ev_succ ?_
      simp only [spec_chTake.l0]
      refine Ev.congr (fun k => if_neg (by omega)) ?_
      rw [show o ++ takeP p [] = o from List.append_nil o]
      exact Ev.now _
    | succ d ih =>
      intro i o hi ho
      have hi' : i < l.length := by omega
      have hx := hin l[i] (List.getElem_mem hi')
      have h2 := ih (i + 1) (o ++ [p.getD l[i].toNat z53]) (by omega) (by rw [List.length_append, List.length_singleton, ho])
      rw [List.drop_eq_getElem_cons hi']
      have e : o ++ takeP p (l[i] :: l.drop (i + 1)) = o ++ [p.getD l[i].toNat z53] ++ takeP p (l.drop (i + 1)) := by
        rw [List.append_assoc]
        rfl
      rw [e]
      refine aid_ev_succ ?_
      simp only [spec_chTake.l0]
      rw [aid_rd l i hi', aid_next (by omega)]
      exact Ev.congr (fun k => if_pos (by omega)) (Ev.congr (fun k => if_pos (by omega)) (Ev.congr (fun k => if_pos (by omega)) (Ev.congr (fun k => if_pos hx.1) (Ev.congr (fun k => if_pos hx.2) (Ev.congr (fun k => if_pos (by omega)) h2)))))
  unfold spec_chTake.f
  exact h l.length 0 [] (by omega) rfl
theorem impl_inOrder.ev (p : List S53) (l : List Int) (hl : l.length ≤ 100000) (hin : ∀ x ∈ l, 0 ≤ x ∧ x < (p.length : Int)) : Ev (fun k => impl_inOrder.f k p l) (takeP p l) := by
  have h : ∀ (d i : Nat) (o : List S53), i + d = l.length → o.length = i → Ev (fun k => impl_inOrder.l0 k p o l (l.length : Int) (i : Int)) (o ++ takeP p (l.drop i)) := by
    intro d
    induction d with
    | zero =>
      intro i o hi ho
      rw [List.drop_eq_nil_of_le (by omega)]
      refine aid_ev_succ ?_
      simp only [impl_inOrder.l0]
      refine Ev.congr (fun k => if_neg (by omega)) ?_
      rw [show o ++ takeP p [] = o from List.append_nil o]
      exact Ev.now _
    | succ d ih =>
      intro i o hi ho
      have hi' : i < l.length := by omega
      have hx := hin l[i] (List.getElem_mem hi')
      have h2 := ih (i + 1) (o ++ [p.getD l[i].toNat z53]) (by omega) (by rw [List.length_append, List.length_singleton, ho])
      rw [List.drop_eq_getElem_cons hi']
      have e : o ++ takeP p (l[i] :: l.drop (i + 1)) = o ++ [p.getD l[i].toNat z53] ++ takeP p (l.drop (i + 1)) := by
        rw [List.append_assoc]
        rfl
      rw [e]
      refine aid_ev_succ ?_
      simp only [impl_inOrder.l0]
      rw [aid_rd l i hi', aid_next (by omega)]
      exact Ev.congr (fun k => if_pos (by omega)) (Ev.congr (fun k => if_pos (by omega)) (Ev.congr (fun k => if_pos (by omega)) (Ev.congr (fun k => if_pos hx.1) (Ev.congr (fun k => if_pos hx.2) (Ev.congr (fun k => if_pos (by omega)) h2)))))
  unfold impl_inOrder.f
  exact h l.length 0 [] (by omega) rfl
def marksF (n : Nat) (a : Int) : List S53 := (List.range n).map fun i : Nat => laws_markFirstS.mk (a + 5 * (i : Int))
theorem marksF_len (n : Nat) (a : Int) : (marksF n a).length = n := by simp [marksF]
theorem marksF_get (n : Nat) (a : Int) (i : Nat) (hi : i < (marksF n a).length) : (marksF n a)[i] = laws_markFirstS.mk (a + 5 * (i : Int)) := by simp [marksF]
theorem laws_markFirstS.ev (l : List S53) (a : Int) (hl : l.length ≤ 10000000) (h0 : 0 ≤ a) (h1 : a ≤ 100000000000000) : Ev (fun k => laws_markFirstS.f k l a) (a + 5 * (l.length : Int), marksF l.length a) := by
  have h : ∀ (d i : Nat) (o r : List S53), i + d = l.length → o = marksF i a → r.length = d → Ev (fun k => laws_markFirstS.l0 k (o ++ r) (a + 5 * (i : Int)) (i : Int)) (a + 5 * (l.length : Int), marksF l.length a) := by
    intro d
    induction d with
    | zero =>
      intro i o r hi ho hr
      obtain rfl : i = l.length := by omega
      rw [List.eq_nil_of_length_eq_zero hr, List.append_nil, ho]
      refine aid_ev_succ ?_
      simp only [laws_markFirstS.l0]
      exact Ev.congr (fun k => if_neg (by rw [marksF_len]; omega)) (Ev.now _)
    | succ d ih =>
      intro i o r hi ho hr
      obtain ⟨y, t, rfl⟩ : ∃ y t, r = y :: t := by
        cases r with
        | nil => simp at hr
        | cons y t => exact ⟨y, t, rfl⟩
      have hol : o.length = i := by rw [ho, marksF_len]
      rw [List.length_cons] at hr
      have hset : (o ++ y :: t).set i (laws_markFirstS.mk (a + 5 * (i : Int))) = (o ++ [laws_markFirstS.mk (a + 5 * (i : Int))]) ++ t := by
        rw [List.set_append_right _ _ (by omega), hol, Nat.sub_self, List.set_cons_zero, List.append_assoc]
        rfl
      have h2 := ih (i + 1) (o ++ [laws_markFirstS.mk (a + 5 * (i : Int))]) t (by omega) (by rw [ho]; unfold marksF; rw [List.range_succ, List.map_append]; rfl) (by omega)
      refine aid_ev_succ ?_
      simp only [laws_markFirstS.l0]
      have hlen : (o ++ y :: t).length = l.length := by rw [List.length_append, List.length_cons]; omega
      refine Ev.congr (fun k => if_pos (by rw [hlen]; omega)) (Ev.congr (fun k => if_pos ⟨by omega, by omega, by omega, by rw [hlen]; omega⟩) ?_)
      rw [Int.toNat_natCast, hset, show a + 5 * (i : Int) + 5 = a + 5 * ((i + 1 : Nat) : Int) by omega, show (i : Int) + 1 = ((i + 1 : Nat) : Int) by omega]
      exact h2
  unfold laws_markFirstS.f
  have h2 := h l.length 0 [] l (by omega) (by simp [marksF]) rfl
  rw [show a + 5 * ((0 : Nat) : Int) = a by omega] at h2
  exact h2
theorem laws_heldFirstS.ev (n : Nat) (a : Int) (hl : n ≤ 10000000) (h0 : 0 ≤ a) (h1 : a ≤ 100000000000000) : Ev (fun k => laws_heldFirstS.f k (marksF n a) a) (a + 5 * (n : Int)) := by
  have hn := marksF_len n a
  have h : ∀ (d i : Nat), i + d = n → Ev (fun k => laws_heldFirstS.l0 k (marksF n a) (a + 5 * (i : Int)) (i : Int)) (a + 5 * (n : Int)) := by
    intro d
    induction d with
    | zero =>
      intro i hi
      obtain rfl : i = n := by omega
      refine aid_ev_succ ?_
      simp only [laws_heldFirstS.l0]
      exact Ev.congr (fun k => if_neg (by omega)) (Ev.now _)
    | succ d ih =>
      intro i hi
      have h2 := ih (i + 1) (by omega)
      refine aid_ev_succ ?_
      simp only [laws_heldFirstS.l0]
      rw [rd_part _ i (by omega), marksF_get, aid_next (by omega)]
      generalize hm : a + 5 * (i : Int) = m
      have e5 : m + 5 = a + 5 * ((i + 1 : Nat) : Int) := by omega
      rw [aid_wr (x := m + 1) (by omega) (by omega), aid_wr (x := m + 1 + 1) (by omega) (by omega), aid_wr (x := m + 1 + 1 + 1) (by omega) (by omega), aid_wr (x := m + 1 + 1 + 1 + 1) (by omega) (by omega), aid_wr (x := m + 1 + 1 + 1 + 1 + 1) (by omega) (by omega)]
      have e4 : m + 1 + 1 + 1 + 1 = m + 4 := by omega
      rw [e4, show m + 4 + 1 = a + 5 * ((i + 1 : Nat) : Int) by omega]
      refine Ev.congr (fun k => if_pos (by omega)) (Ev.congr (fun k => if_pos (by omega)) (Ev.congr (fun k => if_pos rfl) (Ev.congr (fun k => if_pos rfl) (Ev.congr (fun k => if_pos ?_) (Ev.congr (fun k => if_pos ?_) (Ev.congr (fun k => if_neg ?_) h2))))))
      · show m + 2 = m + 1 + 1
        omega
      · show m + 3 = m + 1 + 1 + 1
        omega
      · show ¬ ((decide (Int.tmod (m + 4) 3 = 0) != (Int.tmod (m + 4) 3 == 0)) = true)
        by_cases e : Int.tmod (m + 4) 3 = 0
        · rw [decide_eq_true e, beq_iff_eq.2 e]; decide
        · rw [decide_eq_false e, beq_eq_false_iff_ne.2 e]; decide
  unfold laws_heldFirstS.f
  have h2 := h n 0 (by omega)
  rw [show a + 5 * ((0 : Nat) : Int) = a by omega] at h2
  exact h2

theorem op_both (p : List S53) (l : List Int) (hl : l.length ≤ 1048576) : ∃ (w : List S53) (b : Bool), Ev (fun k => spec_OrderParts.f k p l) (w, b) ∧ Ev (fun k => impl_OrderParts.f k p l) (w, b) ∧ w.length ≤ 4 := by
  unfold spec_OrderParts.f impl_OrderParts.f
  have h1 := spec_chGood.ev p
  rw [impl_areParts.eq]
  cases hp : partsB p with
  | false =>
    rw [hp] at h1
    exact ⟨[], false, Ev.bind h1 (Ev.congr (fun k => if_neg (by decide)) (Ev.now _)), Ev.now _, by simp⟩
  | true =>
    rw [hp] at h1
    have hn := partsB_len hp
    have h2 := spec_chOrder.ev p l (by omega)
    have hi : impl_isOrder.f p l = some (decide (l.length = p.length) && isOrd l) := by
      unfold impl_isOrder.f
      by_cases he : l.length = p.length
      · rw [if_pos he, if_pos (by omega), isOrd_srt, decide_eq_true he, Bool.true_and]
      · rw [if_neg he, decide_eq_false he, Bool.false_and]
    rw [hi]
    cases hc : decide (l.length = p.length) && isOrd l with
    | false =>
      rw [hc] at h2
      exact ⟨[], false, Ev.bind h1 (Ev.congr (fun k => if_pos rfl) (Ev.bind h2 (Ev.congr (fun k => if_neg (by decide)) (Ev.now _)))), Ev.now _, by simp⟩
    | true =>
      rw [hc] at h2
      rw [Bool.and_eq_true, decide_eq_true_eq] at hc
      have hin : ∀ x ∈ l, 0 ≤ x ∧ x < (p.length : Int) := fun x hx => by
        have := isOrd_in hc.2 x hx
        omega
      refine ⟨takeP p l, true, Ev.bind h1 (Ev.congr (fun k => if_pos rfl) (Ev.bind h2 (Ev.congr (fun k => if_pos rfl) (aid_ev_bind (spec_chTake.ev p l (by omega) hin) rfl)))), ?_, by unfold takeP; rw [List.length_map]; omega⟩
      simp only [Option.bind_some, if_true]
      exact aid_ev_bind (impl_inOrder.ev p l (by omega) hin) rfl
theorem FnExactOrderParts : laws_FnExactOrderParts.Pure := by
  intro p l _ h8 _ hl8 _
  refine Ev.rounds ?_
  unfold laws_FnExactOrderParts.f
  by_cases hb0 : (l.length : Int) > 1048576
  · exact Ev.congr (fun k => if_pos hb0) (Ev.now _)
  refine Ev.congr (fun k => if_neg hb0) ?_
  rw [laws_szFirstS.eq p h8]
  simp only [Option.bind_some]
  by_cases hb : (p.length : Int) > 1048576
  · rw [if_pos hb]
    exact Ev.congr (fun k => if_pos (by decide)) (Ev.now _)
  rw [if_neg hb]
  refine Ev.congr (fun k => if_neg (by omega)) ?_
  have hT := laws_toFirstS.ev p (by omega)
  have hI := laws_toIntS.ev l hl8
  have hEI := laws_eqIntS.refl l (by omega)
  obtain ⟨w, b, hs, hi, hw⟩ := op_both (p.map cvF) l (by omega)
  have hP := laws_eqFirstS.refl (p.map cvF) (by rw [List.length_map]; omega)
  have hW := laws_eqFirstS.refl w (by omega)
  have hM := laws_markFirstS.ev (p.map cvF) 1 (by rw [List.length_map]; omega) (by omega) (by omega)
  rw [List.length_map] at hM
  have hMI := laws_markIntS.ev l (1 + 5 * (p.length : Int)) (by omega) (by omega) (by omega)
  have hMW := laws_markFirstS.ev w 1 (by omega) (by omega) (by omega)
  have hH := laws_heldFirstS.ev w.length 1 (by omega) (by omega) (by omega)
  have hN : ¬ ((b != b) = true) := by cases b <;> decide
  have g2 : Ev (fun k => laws_FnExactOrderParts.j2 k (marksF w.length 1) (1 + 5 * (w.length : Int)) (b != b)) true := by
    refine aid_ev_succ ?_
    simp only [laws_FnExactOrderParts.j2]
    exact Ev.congr (fun k => if_neg hN) (Ev.bind hH (Ev.congr (fun k => if_neg (by omega)) (Ev.congr (fun k => if_pos rfl) (Ev.now _))))
  have g1 : Ev (fun k => laws_FnExactOrderParts.j1 k p l w b w (b != b)) true := by
    refine aid_ev_succ ?_
    simp only [laws_FnExactOrderParts.j1]
    refine Ev.congr (fun k => if_neg hN) (Ev.bind hMW ?_)
    dsimp only
    refine Ev.bind hH (Ev.congr (fun k => if_neg (by omega)) (Ev.congr (fun k => if_pos rfl) (Ev.bind hT (Ev.bind hI (Ev.bind hi ?_)))))
    dsimp only
    exact Ev.bind hW (Ev.congr (fun k => if_pos rfl) g2)
  have g0 : Ev (fun k => laws_FnExactOrderParts.j0 k p l w b (p.map cvF) l w b (b != b)) true := by
    refine aid_ev_succ ?_
    simp only [laws_FnExactOrderParts.j0]
    refine Ev.congr (fun k => if_neg hN) (Ev.bind hT (Ev.bind hP (Ev.congr (fun k => if_pos rfl) (Ev.bind hI (Ev.bind hEI (Ev.congr (fun k => if_pos rfl) (Ev.bind hM ?_)))))))
    dsimp only
    refine Ev.bind hMI ?_
    dsimp only
    exact Ev.congr (fun k => if_neg (by omega)) (Ev.bind hW (Ev.congr (fun k => if_pos rfl) g1))
  refine Ev.bind hT (Ev.bind hI (Ev.bind hs (Ev.bind hT (Ev.bind hI (Ev.bind hi ?_)))))
  dsimp only
  exact Ev.bind hW (Ev.congr (fun k => if_pos rfl) g0)

end Go.Proofs.Ytmkcmclochhkeaa.Pure
