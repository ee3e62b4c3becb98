/- Proves that the program's CycleOfPair returns what the reference's returns, for all arguments. Conditions: none. -/
import Derived.Test.YtjknlfgphlopnaaPFnExactCycleOfPairx10
namespace Go.Proofs.Ytjknlfgphlopnaa.Pure
open Go.RowKit Go.Proofs.Ytjknlfgphlopnaa.PFnExactCycleOfPair Go.Proofs.YtjknlfgphlopnaaW.PrintWords Go.Proofs.YtjknlfgphlopnaaW.PrintLast
set_option linter.unusedSimpArgs false
set_option linter.unusedVariables false

-- Aid
theorem aid_wr {x : Int} (h0 : -9223372036854775808 ≤ x) (h1 : x ≤ 9223372036854775807) : wrap64 x = x := by unfold wrap64; omega
theorem aid_wf {x : Int} (h : (Lit.int .i64 x).wf = true) : -9223372036854775808 ≤ x ∧ x ≤ 9223372036854775807 := by
  have hmin : IntKind.i64.min = -9223372036854775808 := rfl
  have hmax : IntKind.i64.max = 9223372036854775807 := rfl
  simp only [Lit.wf, Bool.and_eq_true, decide_eq_true_eq, hmin, hmax] at h
  exact h
theorem aid_ev_bind {α β : Type} {g : Nat → Option α} {f : α → Option β} {a : α} {r : β} (h : Ev g a) (k : f a = some r) : Ev (fun n => (g n).bind f) r :=
  Ev.bind (f := fun _ => f) h ⟨0, fun _ _ => k⟩
theorem aid_ev_const {α : Type} {o : Option α} {r : α} (h : o = some r) : Ev (fun _ => o) r := ⟨0, fun _ _ => h⟩
theorem aid_tdiv {a b : Int} (ha : 0 ≤ a) : Int.tdiv a b = a / b := Int.tdiv_eq_ediv_of_nonneg ha
theorem aid_tmod {a b : Int} (ha : 0 ≤ a) : Int.tmod a b = a % b := Int.tmod_eq_emod_of_nonneg ha
theorem aid_next {i : Nat} (h : i ≤ 9223372036854775806) : wrap64 ((i : Int) + 1) = ((i + 1 : Nat) : Int) := by rw [aid_wr (by omega) (by omega)]; rfl
theorem aid_rd (l : List Int) (i : Nat) (h : i < l.length) : rd l (i : Int) = l[i] := by
  unfold rd
  rw [List.getD_eq_getElem?_getD, Int.toNat_natCast, List.getElem?_eq_getElem h]
  rfl
theorem aid_ev_succ {α : Type} {g : Nat → Option α} {r : α} (h : Ev (fun k => g (k + 1)) r) : Ev g r := Ev.step (fun _ => rfl) h

-- Sig
def sigB (l : List Int) : Bool := decide (l.length ≤ 64) && l.all fun x => decide (-100000 ≤ x ∧ x ≤ 100000)
theorem sigB_iff (l : List Int) : sigB l = true ↔ l.length ≤ 64 ∧ ∀ x ∈ l, -100000 ≤ x ∧ x ≤ 100000 := by
  simp [sigB]
def toldP (l : List Int) : List Int × Bool := if sigB l then (l, true) else ([], false)
theorem toldP_len (l : List Int) : (toldP l).1.length ≤ 64 := by
  unfold toldP
  cases h : sigB l with
  | true => simpa using ((sigB_iff l).1 h).1
  | false => simp

-- Wrap
def wI (H x : Int) : Int := (x + H) % (2 * H) - H
theorem aid_emod {x P y : Int} (hP : 0 < P) (h0 : 0 ≤ x - P * y) (h1 : x - P * y < P) : x % P = x - P * y :=
  ((Int.ediv_emod_unique hP (a := x) (r := x - P * y) (q := y)).2 ⟨by omega, h0, h1⟩).2
theorem wI_bound {H : Int} (hH : 1 ≤ H) (x : Int) : -H ≤ wI H x ∧ wI H x < H := by
  unfold wI
  have h1 := Int.emod_nonneg (x + H) (show 2 * H ≠ 0 by omega)
  have h2 := Int.emod_lt_of_pos (x + H) (show 0 < 2 * H by omega)
  omega
theorem wI_zero {H : Int} (hH : 1 ≤ H) : wI H 0 = 0 := by
  unfold wI
  rw [Int.zero_add, Int.emod_eq_of_lt (by omega) (by omega)]
  omega
theorem wI_add (H a x : Int) : wI H (wI H a + x) = wI H (a + x) := by
  unfold wI
  have e : (a + H) % (2 * H) - H + x + H = (a + H) % (2 * H) + x := by omega
  rw [e, Int.emod_add_emod]
  have e2 : a + H + x = a + x + H := by omega
  rw [e2]
theorem wrap_shl (t : Nat) (h : t ≤ 40) : shl .i64 1 (t : Int) = 2 ^ t := by
  have h' : ∀ s : Fin 41, shl .i64 1 ((s.val : Nat) : Int) = 2 ^ s.val := by decide +kernel
  exact h' ⟨t, by omega⟩
theorem wrap_pow (t : Nat) (h : t ≤ 39) : (1 : Int) ≤ 2 ^ t ∧ (2 : Int) ^ t ≤ 549755813888 := by
  have h' : ∀ s : Fin 40, (1 : Int) ≤ 2 ^ s.val ∧ (2 : Int) ^ s.val ≤ 549755813888 := by decide +kernel
  exact h' ⟨t, by omega⟩
theorem wrap_tmod (x M : Int) : (Int.tmod x M + M) % M = x % M := by
  have h : x % M = (Int.tmod x M) % M := by
    conv => lhs; rw [← Int.mul_tdiv_add_tmod x M, Int.add_comm, Int.add_mul_emod_self_left]
  rw [h, Int.add_emod_right]
theorem wrap_tmod_bound (x M : Int) (hM : 0 < M) : 0 < Int.tmod x M + M ∧ Int.tmod x M + M < 2 * M := by
  have h1 := Int.tmod_lt_of_pos x hM
  have h2 := Int.lt_tmod_of_pos x hM
  omega
theorem bits_split (b : Int) (h : 2 ≤ b ∧ b ≤ 40) : ∃ t : Nat, b = ((t + 1 : Nat) : Int) ∧ 1 ≤ t ∧ t ≤ 39 := ⟨(b - 1).toNat, by omega, by omega, by omega⟩
def sumsL : List Int → Int → List Int
  | [], _ => []
  | x :: r, a => (a + x) :: sumsL r (a + x)
def wsumL (H : Int) : List Int → Int → List Int
  | [], _ => []
  | x :: r, t => wI H (t + x) :: wsumL H r (wI H (t + x))
theorem wsumL_eq (H : Int) : ∀ (l : List Int) (a : Int), wsumL H l (wI H a) = (sumsL l a).map (wI H)
  | [], _ => rfl
  | x :: r, a => by rw [wsumL, sumsL, List.map_cons, wI_add, wsumL_eq H r (a + x)]
theorem sumsL_length : ∀ (l : List Int) (a : Int), (sumsL l a).length = l.length
  | [], _ => rfl
  | x :: r, a => by rw [sumsL, List.length_cons, sumsL_length r, List.length_cons]
theorem sumsL_bound (B : Nat) : ∀ (l : List Int) (a : Int) (c : Nat), (∀ x ∈ l, -(B : Int) ≤ x ∧ x ≤ B) → -((c * B : Nat) : Int) ≤ a → a ≤ ((c * B : Nat) : Int) → ∀ y ∈ sumsL l a, -(((c + l.length) * B : Nat) : Int) ≤ y ∧ y ≤ (((c + l.length) * B : Nat) : Int)
  | x :: r, a, c, hx, h0, h1, y, hy => by
    have hxx := hx x (by simp)
    have hc : ((c + 1) * B : Nat) = c * B + B := by rw [Nat.add_mul, Nat.one_mul]
    have hle : (c + 1) * B ≤ (c + (x :: r).length) * B := Nat.mul_le_mul_right B (by rw [List.length_cons]; omega)
    rw [sumsL] at hy
    rcases List.mem_cons.1 hy with hy | hy
    · omega
    · have h := sumsL_bound B r (a + x) (c + 1) (fun z hz => hx z (by simp [hz])) (by omega) (by omega) y hy
      have e : c + 1 + r.length = c + (x :: r).length := by rw [List.length_cons]; omega
      rw [e] at h
      exact h
def diffL : List Int → Int → List Int
  | [], _ => []
  | x :: r, a => (x - a) :: diffL r x
theorem diffL_length : ∀ (l : List Int) (a : Int), (diffL l a).length = l.length
  | [], _ => rfl
  | x :: r, a => by rw [diffL, List.length_cons, diffL_length r, List.length_cons]
theorem diffL_bound (B : Int) : ∀ (l : List Int) (a : Int), (∀ x ∈ l, -B ≤ x ∧ x ≤ B) → -B ≤ a → a ≤ B → ∀ y ∈ diffL l a, -(2 * B) ≤ y ∧ y ≤ 2 * B
  | x :: r, a, hx, h0, h1, y, hy => by
    have hxx := hx x (by simp)
    rw [diffL] at hy
    rcases List.mem_cons.1 hy with hy | hy
    · omega
    · exact diffL_bound B r x (fun z hz => hx z (by simp [hz])) hxx.1 hxx.2 y hy
def sumsN (H : Int) : Nat → List Int → List Int
  | 0, l => l
  | n + 1, l => sumsN H n ((sumsL l 0).map (wI H))
def combsN (H : Int) : Nat → List Int → List Int
  | 0, l => l
  | n + 1, l => combsN H n ((diffL l 0).map (wI H))
def okL (l : List Int) : Prop := l.length ≤ 1000 ∧ ∀ x ∈ l, -549755813888 ≤ x ∧ x ≤ 549755813888
theorem okL_map {H : Int} (hH : 1 ≤ H) (hH' : H ≤ 549755813888) (l : List Int) (h : l.length ≤ 1000) : okL (l.map (wI H)) := by
  refine ⟨by rw [List.length_map]; exact h, fun x hx => ?_⟩
  obtain ⟨y, _, rfl⟩ := List.mem_map.1 hx
  have := wI_bound hH y
  omega
theorem sumsN_ok {H : Int} (hH : 1 ≤ H) (hH' : H ≤ 549755813888) : ∀ (n : Nat) (l : List Int), okL l → okL (sumsN H n l) ∧ (sumsN H n l).length = l.length
  | 0, l, h => ⟨h, rfl⟩
  | n + 1, l, h => by
    obtain ⟨h1, h2⟩ := sumsN_ok hH hH' n ((sumsL l 0).map (wI H)) (okL_map hH hH' _ (by rw [sumsL_length]; exact h.1))
    rw [List.length_map, sumsL_length] at h2
    exact ⟨h1, h2⟩
theorem combsN_ok {H : Int} (hH : 1 ≤ H) (hH' : H ≤ 549755813888) : ∀ (n : Nat) (l : List Int), okL l → okL (combsN H n l) ∧ (combsN H n l).length = l.length
  | 0, l, h => ⟨h, rfl⟩
  | n + 1, l, h => by
    obtain ⟨h1, h2⟩ := combsN_ok hH hH' n ((diffL l 0).map (wI H)) (okL_map hH hH' _ (by rw [diffL_length]; exact h.1))
    rw [List.length_map, diffL_length] at h2
    exact ⟨h1, h2⟩

-- Shift
def shI (P mode x : Int) : Int := if (mode = 1 ∧ 2 * (x % P) ≥ P ∧ x % P > 0) ∨ (mode = 2 ∧ x < 0 ∧ x % P > 0) then x / P + 1 else x / P
theorem aid_div {x P y : Int} (hP : 0 < P) (h0 : 0 ≤ x - P * y) (h1 : x - P * y < P) : x / P = y :=
  ((Int.ediv_emod_unique hP (a := x) (r := x - P * y) (q := y)).2 ⟨by omega, h0, h1⟩).1
theorem shift_shl (s : Nat) (hs : s ≤ 20) : shl .i64 1 (s : Int) = 2 ^ s := by
  have h : ∀ s : Fin 21, shl .i64 1 ((s.val : Nat) : Int) = 2 ^ s.val := by decide +kernel
  exact h ⟨s, by omega⟩
theorem shift_shr (s : Nat) (hs : s ≤ 20) (x : Int) : shr .i64 x (s : Int) = x / 2 ^ s := by
  unfold shr
  have e : min ((s : Int)).toNat IntKind.i64.bits = s := by
    rw [Int.toNat_natCast, show IntKind.i64.bits = 64 from rfl]
    omega
  rw [e]
theorem shift_pow (s : Nat) (hs : s ≤ 20) : (1 : Int) ≤ 2 ^ s ∧ (2 : Int) ^ s ≤ 1048576 := by
  have h : ∀ s : Fin 21, (1 : Int) ≤ 2 ^ s.val ∧ (2 : Int) ^ s.val ≤ 1048576 := by decide +kernel
  exact h ⟨s, by omega⟩
theorem shift_mul {P u : Int} (hP : 1 ≤ P) (hu : 0 ≤ u) : u ≤ P * u := by
  have := Int.mul_le_mul_of_nonneg_right hP hu
  omega
theorem shift_div (x P : Int) (hP : 1 ≤ P) : x = P * (x / P) + x % P ∧ 0 ≤ x % P ∧ x % P < P ∧ (0 ≤ x → 0 ≤ x / P ∧ x / P ≤ x) ∧ (x < 0 → x ≤ x / P ∧ x / P < 0) := by
  have h1 := Int.mul_ediv_add_emod x P
  have h2 := Int.emod_nonneg x (show P ≠ 0 by omega)
  have h3 := Int.emod_lt_of_pos x (show 0 < P by omega)
  refine ⟨by omega, h2, h3, fun h => ?_, fun h => ?_⟩
  · have h4 := Int.ediv_nonneg h (show 0 ≤ P by omega)
    have h5 := shift_mul hP h4
    omega
  · have h4 : x / P < 0 := Int.ediv_neg_of_neg_of_pos h (by omega)
    have h5 := shift_mul hP (show 0 ≤ -(x / P) - 1 by omega)
    have h6 : P * (-(x / P) - 1) = -(P * (x / P)) - P := by rw [Int.mul_sub, Int.mul_neg, Int.mul_one]
    omega
theorem shI_bound (P mode x B : Int) (hP : 1 ≤ P) (hB : 0 ≤ B) (h0 : -(P * B) ≤ x) (h1 : x ≤ P * B) : -B ≤ shI P mode x ∧ shI P mode x ≤ B := by
  obtain ⟨e, r0, r1, _, _⟩ := shift_div x P hP
  have hlo : -B ≤ x / P := by
    apply Int.le_ediv_of_mul_le (by omega)
    rw [Int.neg_mul, Int.mul_comm B P]
    exact h0
  have hhi : x / P ≤ B := by
    apply Int.ediv_le_of_le_mul (by omega)
    rw [Int.mul_comm B P]
    exact h1
  have hhi2 : x % P > 0 → x / P + 1 ≤ B := by
    intro hr
    apply Classical.byContradiction
    intro hc
    have e2 : x / P = B := by omega
    rw [e2] at e
    omega
  unfold shI
  split
  · rename_i h
    rcases h with h | h
    · have := hhi2 h.2.2
      omega
    · have := hhi2 h.2.2
      omega
  · omega

-- Fit
def fitI (b : Bool) (H x : Int) : Int := if b = true then wI H x else min (max x (-H)) (H - 1)
theorem fitI_bound {H : Int} (hH : 1 ≤ H) (b : Bool) (x : Int) : -H ≤ fitI b H x ∧ fitI b H x ≤ H - 1 := by
  unfold fitI
  split
  · have := wI_bound hH x
    omega
  · omega
theorem wI_self {H x : Int} (h0 : -H ≤ x) (h1 : x ≤ H - 1) : wI H x = x := by
  unfold wI
  rw [Int.emod_eq_of_lt (by omega) (by omega)]
  omega
theorem fitI_self {H : Int} (hH : 1 ≤ H) (b : Bool) (x : Int) : fitI b H x = x ↔ -H ≤ x ∧ x ≤ H - 1 := by
  refine ⟨fun h => ?_, fun h => ?_⟩
  · have := fitI_bound hH b x
    omega
  · unfold fitI
    split
    · exact wI_self h.1 h.2
    · omega
theorem word_split (b : Int) (h : 2 ≤ b ∧ b ≤ 16) : ∃ t : Nat, b = ((t + 1 : Nat) : Int) ∧ 1 ≤ t ∧ t ≤ 15 := ⟨(b - 1).toNat, by omega, by omega, by omega⟩
theorem word_pow (t : Nat) (h1 : 1 ≤ t) (h : t ≤ 15) : (2 : Int) ≤ 2 ^ t ∧ (2 : Int) ^ t ≤ 32768 := by
  have h' : ∀ s : Fin 16, 1 ≤ s.val → (2 : Int) ≤ 2 ^ s.val ∧ (2 : Int) ^ s.val ≤ 32768 := by decide +kernel
  exact h' ⟨t, by omega⟩ h1
theorem mul_bound {a y B C : Int} (ha : -B ≤ a ∧ a ≤ B) (hy : -C ≤ y ∧ y ≤ C) : -(B * C) ≤ a * y ∧ a * y ≤ B * C := by
  have h1 : (a * y).natAbs = a.natAbs * y.natAbs := Int.natAbs_mul a y
  have h2 : a.natAbs * y.natAbs ≤ B.toNat * C.toNat := Nat.mul_le_mul (by omega) (by omega)
  have h3 : ((B.toNat * C.toNat : Nat) : Int) = B * C := by rw [Int.natCast_mul, Int.toNat_of_nonneg (by omega), Int.toNat_of_nonneg (by omega)]
  generalize a * y = p at *
  generalize B * C = q at *
  omega
theorem shI_small {P m x B : Int} (hP : 1 ≤ P) (h0 : -B ≤ x) (h1 : x ≤ B) : -B ≤ shI P m x ∧ shI P m x ≤ B := by
  have h := shift_mul hP (show 0 ≤ B by omega)
  exact shI_bound P m x B hP (by omega) (by omega) (by omega)
def hB (b : Int) : Int := 2 ^ (b.toNat - 1)
theorem hB_eq (t : Nat) : hB ((t + 1 : Nat) : Int) = 2 ^ t := by
  unfold hB
  rw [Int.toNat_natCast]
  rfl
def wordInB (b x : Int) : Bool := decide (2 ≤ b ∧ b ≤ 16) && decide (-hB b ≤ x ∧ x ≤ hB b - 1)

-- First
def firstB (a s m b : Int) : Bool := decide ((-1024 ≤ a ∧ a ≤ 1024) ∧ (0 ≤ s ∧ s ≤ 10) ∧ (0 ≤ m ∧ m ≤ 2) ∧ (2 ≤ b ∧ b ≤ 16))
theorem firstB_iff (a s m b : Int) : firstB a s m b = true ↔ (-1024 ≤ a ∧ a ≤ 1024) ∧ (0 ≤ s ∧ s ≤ 10) ∧ (0 ≤ m ∧ m ≤ 2) ∧ (2 ≤ b ∧ b ≤ 16) := by
  unfold firstB
  rw [decide_eq_true_eq]
def rawI (P m a y x : Int) : Int := shI P m (a * y) + x
theorem rawI_bound {P m a y x : Int} (hP : 1 ≤ P) (ha : -1024 ≤ a ∧ a ≤ 1024) (hy : -32768 ≤ y ∧ y ≤ 32768) (hx : -1000000 ≤ x ∧ x ≤ 1000000) : -40000000 ≤ rawI P m a y x ∧ rawI P m a y x ≤ 40000000 := by
  have h1 := mul_bound ha hy
  have h2 := shI_small (m := m) hP h1.1 h1.2
  unfold rawI
  omega
def runI (b : Bool) (H P m a : Int) : List Int → Int → List Int
  | [], _ => []
  | x :: r, y => fitI b H (rawI P m a y x) :: runI b H P m a r (fitI b H (rawI P m a y x))
def runC (b : Bool) (H P m a : Int) : List Int → Int → Nat
  | [], _ => 0
  | x :: r, y => (if -H ≤ rawI P m a y x ∧ rawI P m a y x ≤ H - 1 then 0 else 1) + runC b H P m a r (fitI b H (rawI P m a y x))
theorem runI_length (b : Bool) (H P m a : Int) : ∀ (l : List Int) (y : Int), (runI b H P m a l y).length = l.length
  | [], _ => rfl
  | x :: r, y => by rw [runI, List.length_cons, runI_length b H P m a r, List.length_cons]
theorem first_shift (s : Int) (h : 0 ≤ s ∧ s ≤ 10) : ∃ n : Nat, s = (n : Int) ∧ n ≤ 10 := ⟨s.toNat, by omega, by omega⟩

-- Second
def secondB (a b0 s m b : Int) : Bool := decide ((-1024 ≤ a ∧ a ≤ 1024) ∧ (-1024 ≤ b0 ∧ b0 ≤ 1024) ∧ (0 ≤ s ∧ s ≤ 10) ∧ (0 ≤ m ∧ m ≤ 2) ∧ (2 ≤ b ∧ b ≤ 16))
theorem secondB_iff (a b0 s m b : Int) : secondB a b0 s m b = true ↔ (-1024 ≤ a ∧ a ≤ 1024) ∧ (-1024 ≤ b0 ∧ b0 ≤ 1024) ∧ (0 ≤ s ∧ s ≤ 10) ∧ (0 ≤ m ∧ m ≤ 2) ∧ (2 ≤ b ∧ b ≤ 16) := by
  unfold secondB
  rw [decide_eq_true_eq]
def raw2 (P m a b y z x : Int) : Int := shI P m (a * y + b * z) + x
theorem raw2_bound {P m a b y z x : Int} (hP : 1 ≤ P) (ha : -1024 ≤ a ∧ a ≤ 1024) (hb : -1024 ≤ b ∧ b ≤ 1024) (hy : -32768 ≤ y ∧ y ≤ 32768) (hz : -32768 ≤ z ∧ z ≤ 32768) (hx : -1000000 ≤ x ∧ x ≤ 1000000) : -80000000 ≤ raw2 P m a b y z x ∧ raw2 P m a b y z x ≤ 80000000 := by
  have h1 := mul_bound ha hy
  have h3 := mul_bound hb hz
  have h2 := shI_small (B := 67108864) (m := m) (x := a * y + b * z) hP (by omega) (by omega)
  unfold raw2
  omega
def run2I (c : Bool) (H P m a b : Int) : List Int → Int → Int → List Int
  | [], _, _ => []
  | x :: r, y, z => fitI c H (raw2 P m a b y z x) :: run2I c H P m a b r (fitI c H (raw2 P m a b y z x)) y
def run2C (c : Bool) (H P m a b : Int) : List Int → Int → Int → Nat
  | [], _, _ => 0
  | x :: r, y, z => (if -H ≤ raw2 P m a b y z x ∧ raw2 P m a b y z x ≤ H - 1 then 0 else 1) + run2C c H P m a b r (fitI c H (raw2 P m a b y z x)) y
theorem run2I_length (c : Bool) (H P m a b : Int) : ∀ (l : List Int) (y z : Int), (run2I c H P m a b l y z).length = l.length
  | [], _, _ => rfl
  | x :: r, y, z => by rw [run2I, List.length_cons, run2I_length c H P m a b r, List.length_cons]

-- Cyc
/-- n steps of a map of the numbers below N. -/
def itN (T : Nat → Nat) : Nat → Nat → Nat
  | 0, i => i
  | n + 1, i => itN T n (T i)
theorem itN_add (T : Nat → Nat) : ∀ m n i, itN T (m + n) i = itN T n (itN T m i)
  | 0, n, i => by rw [Nat.zero_add]; rfl
  | m + 1, n, i => by rw [show m + 1 + n = (m + n) + 1 by omega]; exact itN_add T m n (T i)
theorem itN_succ (T : Nat → Nat) (n i : Nat) : itN T (n + 1) i = T (itN T n i) := itN_add T n 1 i
theorem itN_lt {T : Nat → Nat} {N : Nat} (hT : ∀ i, i < N → T i < N) : ∀ n i, i < N → itN T n i < N
  | 0, i, h => h
  | n + 1, i, h => itN_lt hT n (T i) (hT i h)
theorem itN_mul {T : Nat → Nat} {p i : Nat} (hp : itN T p i = i) : ∀ k, itN T (k * p) i = i
  | 0 => by rw [Nat.zero_mul]; rfl
  | k + 1 => by rw [Nat.add_mul, Nat.one_mul, itN_add, itN_mul hp k, hp]
theorem itN_mod {T : Nat → Nat} {p i : Nat} (hp : itN T p i = i) (n : Nat) : itN T n i = itN T (n % p) i := by
  have e : n = n / p * p + n % p := by rw [Nat.mul_comm]; exact (Nat.div_add_mod n p).symm
  conv => lhs; rw [e, itN_add, itN_mul hp]
/-- i comes again, first behind p steps. -/
structure OnC (T : Nat → Nat) (i p : Nat) : Prop where
  pos : 0 < p
  ret : itN T p i = i
  first : ∀ q, 0 < q → q < p → itN T q i ≠ i
theorem onC_of {T : Nat → Nat} {i : Nat} : ∀ p, 0 < p → itN T p i = i → ∃ q, OnC T i q := by
  intro p
  induction p using Nat.strongRecOn with
  | ind p ih =>
    intro h0 h1
    by_cases h : ∃ q, 0 < q ∧ q < p ∧ itN T q i = i
    · obtain ⟨q, a, b, c⟩ := h
      exact ih q b a c
    · exact ⟨p, h0, h1, fun q a b c => h ⟨q, a, b, c⟩⟩
theorem OnC.inj {T : Nat → Nat} {i p : Nat} (h : OnC T i p) {a b : Nat} (ha : a < p) (hb : b < p) (e : itN T a i = itN T b i) : a = b := by
  have key : ∀ a b, a < b → b < p → itN T a i = itN T b i → False := by
    intro a b hab hb e
    have h1 : itN T (p - b) (itN T a i) = i := by rw [e, ← itN_add, show b + (p - b) = p by omega, h.ret]
    rw [← itN_add] at h1
    exact h.first (a + (p - b)) (by omega) (by omega) h1
  rcases Nat.lt_trichotomy a b with h1 | h1 | h1
  · exact (key a b h1 hb e).elim
  · exact h1
  · exact (key b a h1 ha e.symm).elim
/-- The cycle from i on. -/
def cycL (T : Nat → Nat) (i p : Nat) : List Nat := (List.range p).map fun t => itN T t i
theorem cycL_length (T : Nat → Nat) (i p : Nat) : (cycL T i p).length = p := by simp [cycL]
theorem cycL_get (T : Nat → Nat) (i p j : Nat) (h : j < (cycL T i p).length) : (cycL T i p)[j] = itN T j i := by simp [cycL]
theorem cycL_mem {T : Nat → Nat} {i p : Nat} {a : Nat} : a ∈ cycL T i p ↔ ∃ t, t < p ∧ itN T t i = a := by simp [cycL]
theorem cycL_succ (T : Nat → Nat) (i p : Nat) : cycL T i (p + 1) = cycL T i p ++ [itN T p i] := by simp [cycL, List.range_succ]
theorem OnC.nodup {T : Nat → Nat} {i p : Nat} (h : OnC T i p) : (cycL T i p).Nodup := by
  unfold cycL
  rw [List.Nodup, List.pairwise_map]
  refine List.Pairwise.imp_of_mem ?_ (List.nodup_range (n := p))
  intro a b ha hb hab e
  exact hab (h.inj (List.mem_range.1 ha) (List.mem_range.1 hb) e)
theorem OnC.le {T : Nat → Nat} {i p N : Nat} (h : OnC T i p) (hT : ∀ i, i < N → T i < N) (hi : i < N) : p ≤ N := by
  have h1 := h.nodup.length_le_of_subset (l₂ := List.range N) (fun a ha => by
    obtain ⟨t, _, rfl⟩ := cycL_mem.1 ha
    exact List.mem_range.2 (itN_lt hT t i hi))
  rwa [cycL_length, List.length_range] at h1
/-- The cycle from another of its places. -/
theorem OnC.at_ {T : Nat → Nat} {i p : Nat} (h : OnC T i p) (l : Nat) : OnC T (itN T l i) p := by
  refine ⟨h.pos, by rw [← itN_add, Nat.add_comm, itN_add, h.ret], fun q h0 h1 e => ?_⟩
  rw [← itN_add] at e
  have e2 : itN T (l % p) i = itN T ((l + q) % p) i := by rw [← itN_mod h.ret, ← itN_mod h.ret, e]
  have e3 := h.inj (Nat.mod_lt _ h.pos) (Nat.mod_lt _ h.pos) e2
  have e4 : (l + q) % p = (l % p + q) % p := by rw [Nat.add_mod, Nat.mod_eq_of_lt h1]
  rw [e4] at e3
  have hl := Nat.mod_lt l h.pos
  generalize l % p = x at *
  by_cases hc : x + q < p
  · rw [Nat.mod_eq_of_lt hc] at e3; omega
  · rw [Nat.mod_eq_sub_mod (by omega), Nat.mod_eq_of_lt (by omega)] at e3; omega
theorem OnC.uniq {T : Nat → Nat} {i p q : Nat} (h : OnC T i p) (h' : OnC T i q) : p = q := by
  rcases Nat.lt_trichotomy p q with h1 | h1 | h1
  · exact (h'.first p h.pos h1 h.ret).elim
  · exact h1
  · exact (h.first q h'.pos h1 h'.ret).elim
/-- Turned. -/
theorem OnC.turn {T : Nat → Nat} {i p : Nat} (h : OnC T i p) {l : Nat} (hl : l ≤ p) : (cycL T i p).drop l ++ (cycL T i p).take l = cycL T (itN T l i) p := by
  apply List.ext_getElem
  · simp [cycL_length]; omega
  · intro j h1 h2
    rw [cycL_length] at h2
    rw [cycL_get]
    by_cases hj : j < p - l
    · rw [List.getElem_append_left (by simp [cycL_length]; omega), List.getElem_drop, cycL_get, itN_add]
    · rw [List.getElem_append_right (by simp [cycL_length]; omega), List.getElem_take, cycL_get]
      simp only [List.length_drop, cycL_length]
      rw [← itN_add, show l + j = p + (j - (p - l)) by omega, itN_add, h.ret]
/-- A walk from i on marks with s what bears no mark, and stops at j. -/
inductive Wk (T : Nat → Nat) (s : Int) : List Int → Nat → Nat → List Int → Prop
  | stop {mk : List Int} {i : Nat} : mk.getD i 0 ≠ 0 → Wk T s mk i i mk
  | go {mk mk' : List Int} {i j : Nat} : mk.getD i 0 = 0 → Wk T s (mk.set i s) (T i) j mk' → Wk T s mk i j mk'
theorem getD_at (mk : List Int) (i : Nat) (h : i < mk.length) : mk.getD i 0 = mk[i] := by simp [List.getD_eq_getElem?_getD, h]
theorem getD_set (mk : List Int) (i a : Nat) (s : Int) (hi : i < mk.length) : (mk.set i s).getD a 0 = if a = i then s else mk.getD a 0 := by
  rw [List.getD_eq_getElem?_getD, List.getElem?_set]
  by_cases h : i = a
  · subst h; simp [hi]
  · rw [if_neg h, if_neg (fun e => h e.symm), List.getD_eq_getElem?_getD]
theorem wk_ex {T : Nat → Nat} {N : Nat} (hT : ∀ i, i < N → T i < N) {s : Int} (hs : s ≠ 0) : ∀ (z : Nat) (mk : List Int) (i : Nat), mk.count 0 = z → mk.length = N → i < N → ∃ j mk', Wk T s mk i j mk' := by
  intro z
  induction z with
  | zero =>
    intro mk i hz hN hi
    have h0 : mk.getD i 0 ≠ 0 := fun e => by
      rw [getD_at _ _ (by omega)] at e
      have := List.count_pos_iff.2 (e ▸ List.getElem_mem (l := mk) (n := i) (by omega))
      omega
    exact ⟨i, mk, .stop h0⟩
  | succ z ih =>
    intro mk i hz hN hi
    by_cases h0 : mk.getD i 0 = 0
    · have hc : (mk.set i s).count 0 = z := by
        rw [List.count_set (by omega : i < mk.length)]
        rw [getD_at _ _ (by omega)] at h0
        simp [h0, hs, hz]
      obtain ⟨j, mk', h⟩ := ih (mk.set i s) (T i) hc (by simpa using hN) (hT i hi)
      exact ⟨j, mk', .go h0 h⟩
    · exact ⟨i, mk, .stop h0⟩
structure WkF (T : Nat → Nat) (N : Nat) (s : Int) (mk : List Int) (i j : Nat) (mk' : List Int) : Prop where
  len : mk'.length = N
  lt : j < N
  end_ : mk'.getD j 0 ≠ 0
  old : ∀ a, a < N → mk.getD a 0 ≠ 0 → mk'.getD a 0 = mk.getD a 0
  new : ∀ a, a < N → mk'.getD a 0 ≠ 0 → mk.getD a 0 ≠ 0 ∨ (mk'.getD a 0 = s ∧ (∃ n, itN T n a = j) ∧ ∃ m, itN T m i = a)
  beg : mk'.getD i 0 ≠ 0
  path : ∃ m, itN T m i = j
theorem Wk.facts {T : Nat → Nat} {N : Nat} (hT : ∀ i, i < N → T i < N) {s : Int} (hs : s ≠ 0) {mk mk' : List Int} {i j : Nat} (h : Wk T s mk i j mk') : mk.length = N → i < N → WkF T N s mk i j mk' := by
  induction h with
  | stop h0 => intro hN hi; exact ⟨hN, hi, h0, fun _ _ _ => rfl, fun a _ h => .inl h, h0, 0, rfl⟩
  | @go mk mk' i j h0 h ih =>
    intro hN hi
    have F := ih (by simpa using hN) (hT i hi)
    have hb : mk'.getD i 0 = s := by
      rw [F.old i hi (by rw [getD_set _ _ _ _ (by omega), if_pos rfl]; exact hs), getD_set _ _ _ _ (by omega), if_pos rfl]
    obtain ⟨m, hm⟩ := F.path
    refine ⟨F.len, F.lt, F.end_, fun a ha h1 => ?_, fun a ha h1 => ?_, by rw [hb]; exact hs, m + 1, hm⟩
    · have hai : a ≠ i := fun e => h1 (e ▸ h0)
      rw [F.old a ha (by rw [getD_set _ _ _ _ (by omega), if_neg hai]; exact h1), getD_set _ _ _ _ (by omega), if_neg hai]
    · rcases F.new a ha h1 with h2 | ⟨h2, h3, m2, h4⟩
      · rw [getD_set _ _ _ _ (by omega)] at h2
        by_cases hai : a = i
        · subst hai
          exact .inr ⟨hb, ⟨m + 1, hm⟩, 0, rfl⟩
        · rw [if_neg hai] at h2; exact .inl h2
      · exact .inr ⟨h2, h3, m2 + 1, h4⟩
/-- What is marked leads to what is marked. -/
theorem Wk.shut {T : Nat → Nat} {N : Nat} (hT : ∀ i, i < N → T i < N) {s : Int} (hs : s ≠ 0) {mk mk' : List Int} {i j : Nat} (h : Wk T s mk i j mk') : mk.length = N → i < N → (∀ a, a < N → mk.getD a 0 ≠ 0 → mk.getD (T a) 0 ≠ 0 ∨ T a = i) → ∀ a, a < N → mk'.getD a 0 ≠ 0 → mk'.getD (T a) 0 ≠ 0 := by
  induction h with
  | stop h0 => intro hN hi hc a ha h1; rcases hc a ha h1 with h2 | h2; exact h2; rw [h2]; exact h0
  | @go mk mk' i j h0 h ih =>
    intro hN hi hc
    refine ih (by simpa using hN) (hT i hi) (fun a ha h1 => ?_)
    by_cases hai : a = i
    · subst hai; exact .inr rfl
    · rw [getD_set _ _ _ _ (by omega), if_neg hai] at h1
      refine .inl ?_
      rw [getD_set _ _ _ _ (by omega)]
      rcases hc a ha h1 with h2 | h2
      · by_cases e : T a = i
        · rw [if_pos e]; exact hs
        · rw [if_neg e]; exact h2
      · rw [if_pos h2]; exact hs
/-- Where a walk ends at its own mark there is a cycle. -/
theorem Wk.ring {T : Nat → Nat} {N : Nat} (hT : ∀ i, i < N → T i < N) {s : Int} {mk mk' : List Int} {i j : Nat} (h : Wk T s mk i j mk') : mk.length = N → i < N → (∀ a, a < N → mk.getD a 0 = s → ∃ n, 0 < n ∧ itN T n a = i) → mk'.getD j 0 = s → ∃ p, 0 < p ∧ itN T p j = j := by
  induction h with
  | stop h0 => intro hN hi hc h1; exact hc _ hi h1
  | @go mk mk' i j h0 h ih =>
    intro hN hi hc
    refine ih (by simpa using hN) (hT i hi) (fun a ha h1 => ?_)
    by_cases hai : a = i
    · subst hai; exact ⟨1, by omega, rfl⟩
    · rw [getD_set _ _ _ _ (by omega), if_neg hai] at h1
      obtain ⟨n, h2, h3⟩ := hc a ha h1
      exact ⟨n + 1, by omega, by rw [itN_succ, h3]⟩
/-- All walks, from start s on. -/
inductive Dfs (T : Nat → Nat) (N : Nat) : Nat → List Int → List Nat → List Int → List Nat → Prop
  | done {mk : List Int} {hs : List Nat} : Dfs T N N mk hs mk hs
  | step {s : Nat} {mk mk' mkF : List Int} {j : Nat} {hs hsF : List Nat} : s < N → Wk T ((s : Int) + 1) mk s j mk' → Dfs T N (s + 1) mk' (if mk'.getD j 0 = (s : Int) + 1 then hs ++ [j] else hs) mkF hsF → Dfs T N s mk hs mkF hsF
theorem dfs_ex {T : Nat → Nat} {N : Nat} (hT : ∀ i, i < N → T i < N) : ∀ (d s : Nat) (mk : List Int) (hs : List Nat), s + d = N → mk.length = N → ∃ mkF hsF, Dfs T N s mk hs mkF hsF
  | 0, s, mk, hs, h, hN => by obtain rfl : s = N := by omega
                              exact ⟨mk, hs, .done⟩
  | d + 1, s, mk, hs, h, hN => by
    obtain ⟨j, mk', hw⟩ := wk_ex hT (s := (s : Int) + 1) (by omega) _ mk s rfl hN (by omega)
    have F := hw.facts hT (by omega) hN (by omega)
    obtain ⟨mkF, hsF, h2⟩ := dfs_ex hT d (s + 1) mk' (if mk'.getD j 0 = (s : Int) + 1 then hs ++ [j] else hs) (by omega) F.len
    exact ⟨mkF, hsF, .step (by omega) hw h2⟩
structure DfsI (T : Nat → Nat) (N s : Nat) (mk : List Int) (hs : List Nat) : Prop where
  len : mk.length = N
  fresh : ∀ a, a < N → mk.getD a 0 ≤ (s : Int)
  beg : ∀ a, a < s → mk.getD a 0 ≠ 0
  shut : ∀ a, a < N → mk.getD a 0 ≠ 0 → mk.getD (T a) 0 ≠ 0
  head : ∀ h ∈ hs, h < N ∧ mk.getD h 0 ≠ 0 ∧ ∃ p, 0 < p ∧ itN T p h = h
  each : ∀ a, a < N → mk.getD a 0 ≠ 0 → (∃ p, 0 < p ∧ itN T p a = a) → ∃ h ∈ hs, ∃ n, itN T n h = a
  apart : hs.Pairwise fun h h' => ∀ n, itN T n h ≠ h'
theorem DfsI.shutN {T : Nat → Nat} {N s : Nat} (hT : ∀ i, i < N → T i < N) {mk : List Int} {hs : List Nat} (I : DfsI T N s mk hs) : ∀ n a, a < N → mk.getD a 0 ≠ 0 → mk.getD (itN T n a) 0 ≠ 0
  | 0, a, _, h => h
  | n + 1, a, ha, h => DfsI.shutN hT I n (T a) (hT a ha) (I.shut a ha h)
theorem DfsI.start (T : Nat → Nat) (N : Nat) : DfsI T N 0 (List.replicate N 0) [] := by
  have h0 : ∀ a, (List.replicate N (0 : Int)).getD a 0 = 0 := fun a => by simp [List.getD_eq_getElem?_getD, List.getElem?_replicate]; split <;> rfl
  exact ⟨by simp, fun a _ => by rw [h0]; omega, fun a h => by omega, fun a _ h => (h (h0 a)).elim, fun _ h => by simp at h, fun a _ h => (h (h0 a)).elim, .nil⟩
theorem DfsI.next {T : Nat → Nat} {N s : Nat} (hT : ∀ i, i < N → T i < N) {mk mk' : List Int} {hs : List Nat} {j : Nat} (I : DfsI T N s mk hs) (hsN : s < N) (hw : Wk T ((s : Int) + 1) mk s j mk') : DfsI T N (s + 1) mk' (if mk'.getD j 0 = (s : Int) + 1 then hs ++ [j] else hs) := by
  have F := hw.facts hT (by omega) I.len hsN
  have hsh := hw.shut hT (by omega) I.len hsN (fun a ha h => .inl (I.shut a ha h))
  have hr := hw.ring hT I.len hsN (fun a ha h => by have := I.fresh a ha; omega)
  have hfr : ∀ a, a < N → mk'.getD a 0 ≤ ((s + 1 : Nat) : Int) := fun a ha => by
    by_cases h0 : mk'.getD a 0 = 0
    · rw [h0]; omega
    · rcases F.new a ha h0 with h1 | ⟨h1, _⟩
      · rw [F.old a ha h1]; have := I.fresh a ha; omega
      · rw [h1]; omega
  have hbeg : ∀ a, a < s + 1 → mk'.getD a 0 ≠ 0 := fun a ha => by
    by_cases e : a = s
    · subst e; exact F.beg
    · rw [F.old a (by omega) (I.beg a (by omega))]; exact I.beg a (by omega)
  have hmk : ∀ a, a < N → mk.getD a 0 ≠ 0 → mk'.getD a 0 ≠ 0 := fun a ha h => by rw [F.old a ha h]; exact h
  by_cases hj : mk'.getD j 0 = (s : Int) + 1
  · rw [if_pos hj]
    have hj0 : mk.getD j 0 = 0 := by
      apply Classical.byContradiction
      intro h
      have := F.old j F.lt h
      have := I.fresh j F.lt
      omega
    refine ⟨F.len, hfr, hbeg, hsh, fun h hh => ?_, fun a ha h1 h2 => ?_, ?_⟩
    · rcases List.mem_append.1 hh with hh | hh
      · obtain ⟨a, b, c⟩ := I.head h hh
        exact ⟨a, hmk h a b, c⟩
      · rw [List.mem_singleton] at hh; subst hh
        exact ⟨F.lt, F.end_, hr hj⟩
    · rcases F.new a ha h1 with h3 | ⟨_, ⟨n, hn⟩, _⟩
      · obtain ⟨h, hh, n, hn⟩ := I.each a ha h3 h2
        exact ⟨h, List.mem_append_left _ hh, n, hn⟩
      · refine ⟨j, by simp, ?_⟩
        obtain ⟨p, hp, hpa⟩ := h2
        have e : n * p = n + n * (p - 1) := by
          obtain ⟨q, rfl⟩ : ∃ q, p = q + 1 := ⟨p - 1, by omega⟩
          rw [Nat.add_sub_cancel, Nat.mul_add, Nat.mul_one]; omega
        refine ⟨n * (p - 1), ?_⟩
        rw [← hn, ← itN_add, ← e, itN_mul hpa n]
    · rw [List.pairwise_append]
      refine ⟨I.apart, by simp, fun h hh h' hh' n e => ?_⟩
      rw [List.mem_singleton] at hh'; subst hh'
      obtain ⟨a, b, _⟩ := I.head h hh
      exact I.shutN hT n h a b (e ▸ hj0)
  · rw [if_neg hj]
    have hj0 : mk.getD j 0 ≠ 0 := by
      rcases F.new j F.lt F.end_ with h | ⟨h, _⟩
      · exact h
      · exact (hj h).elim
    refine ⟨F.len, hfr, hbeg, hsh, fun h hh => ?_, fun a ha h1 h2 => ?_, I.apart⟩
    · obtain ⟨a, b, c⟩ := I.head h hh
      exact ⟨a, hmk h a b, c⟩
    · refine I.each a ha ?_ h2
      rcases F.new a ha h1 with h3 | ⟨_, ⟨n, hn⟩, _⟩
      · exact h3
      · obtain ⟨p, hp, hpa⟩ := h2
        have e : n * p = n + n * (p - 1) := by
          obtain ⟨q, rfl⟩ : ∃ q, p = q + 1 := ⟨p - 1, by omega⟩
          rw [Nat.add_sub_cancel, Nat.mul_add, Nat.mul_one]; omega
        have h4 := I.shutN hT (n * (p - 1)) j F.lt hj0
        rwa [← hn, ← itN_add, ← e, itN_mul hpa n] at h4
theorem Dfs.inv {T : Nat → Nat} {N : Nat} (hT : ∀ i, i < N → T i < N) {s : Nat} {mk mkF : List Int} {hs hsF : List Nat} (h : Dfs T N s mk hs mkF hsF) : DfsI T N s mk hs → DfsI T N N mkF hsF := by
  induction h with
  | done => exact id
  | step h1 h2 _ ih => exact fun I => ih (I.next hT h1 h2)
/-- The heads: one of each cycle. -/
structure Heads (T : Nat → Nat) (N : Nat) (hs : List Nat) : Prop where
  head : ∀ h ∈ hs, h < N ∧ ∃ p, OnC T h p
  each : ∀ a p, a < N → OnC T a p → ∃ h ∈ hs, ∃ n, itN T n h = a
  apart : hs.Pairwise fun h h' => ∀ n, itN T n h ≠ h'
theorem dfs_heads {T : Nat → Nat} {N : Nat} (hT : ∀ i, i < N → T i < N) {mkF : List Int} {hsF : List Nat} (h : Dfs T N 0 (List.replicate N 0) [] mkF hsF) : Heads T N hsF := by
  have I := h.inv hT (DfsI.start T N)
  refine ⟨fun h hh => ?_, fun a p ha hp => I.each a ha (I.beg a ha) ⟨p, hp.pos, hp.ret⟩, I.apart⟩
  obtain ⟨a, _, p, hp, hr⟩ := I.head h hh
  exact ⟨a, onC_of p hp hr⟩

-- Rot
/-- The order of lists: -1, 0 or 1. -/
def cmpL : List Int → List Int → Int
  | [], [] => 0
  | [], _ :: _ => -1
  | _ :: _, [] => 1
  | x :: a, y :: b => if x < y then -1 else if y < x then 1 else cmpL a b
theorem cmpL_self : ∀ a, cmpL a a = 0
  | [] => rfl
  | x :: a => by rw [cmpL, if_neg (by omega), if_neg (by omega), cmpL_self a]
theorem cmpL_swap : ∀ a b, cmpL a b = -cmpL b a
  | [], [] => rfl
  | [], _ :: _ => rfl
  | _ :: _, [] => rfl
  | x :: a, y :: b => by
    rw [cmpL, cmpL]
    rcases Int.lt_trichotomy x y with h | h | h
    · rw [if_pos h, if_neg (by omega), if_pos h]
    · rw [if_neg (by omega), if_neg (by omega), if_neg (by omega), if_neg (by omega)]; exact cmpL_swap a b
    · rw [if_neg (by omega), if_pos h, if_pos h]; rfl
theorem cmpL_eq : ∀ a b, cmpL a b = 0 → a = b
  | [], [], _ => rfl
  | [], _ :: _, h => by simp [cmpL] at h
  | _ :: _, [], h => by simp [cmpL] at h
  | x :: a, y :: b, h => by
    rw [cmpL] at h
    by_cases h1 : x < y
    · rw [if_pos h1] at h; omega
    · rw [if_neg h1] at h
      by_cases h2 : y < x
      · rw [if_pos h2] at h; omega
      · rw [if_neg h2] at h
        rw [cmpL_eq a b h, show x = y by omega]
theorem cmpL_range : ∀ a b, cmpL a b = -1 ∨ cmpL a b = 0 ∨ cmpL a b = 1
  | [], [] => by simp [cmpL]
  | [], _ :: _ => by simp [cmpL]
  | _ :: _, [] => by simp [cmpL]
  | x :: a, y :: b => by
    rw [cmpL]
    split
    · simp
    · split
      · simp
      · exact cmpL_range a b
theorem cmpL_trans : ∀ a b c, cmpL a b ≤ 0 → cmpL b c ≤ 0 → cmpL a c ≤ 0
  | [], _, [], _, _ => by simp [cmpL]
  | [], _, _ :: _, _, _ => by simp [cmpL]
  | _ :: _, [], _, h, _ => by simp [cmpL] at h
  | _ :: _, _ :: _, [], _, h => by simp [cmpL] at h
  | x :: a, y :: b, z :: c, h1, h2 => by
    rw [cmpL] at h1 h2 ⊢
    by_cases a1 : x < y
    · by_cases a2 : y < z
      · rw [if_pos (by omega)]; decide
      · rw [if_neg a2] at h2
        by_cases a3 : z < y
        · rw [if_pos a3] at h2; omega
        · rw [if_pos (by omega)]; decide
    · rw [if_neg a1] at h1
      by_cases a2 : y < x
      · rw [if_pos a2] at h1; omega
      · rw [if_neg a2] at h1
        by_cases a3 : y < z
        · rw [if_pos (by omega)]; decide
        · rw [if_neg a3] at h2
          by_cases a4 : z < y
          · rw [if_pos a4] at h2; omega
          · rw [if_neg a4] at h2
            rw [if_neg (by omega), if_neg (by omega)]
            exact cmpL_trans a b c h1 h2
theorem cmpL_first : ∀ (a b : List Int) (k : Nat), (∀ t, t < k → a[t]? = b[t]?) → (∃ x y, a[k]? = some x ∧ b[k]? = some y ∧ x < y) → cmpL a b = -1
  | [], _, k, _, h => by obtain ⟨x, y, h, _⟩ := h; simp at h
  | _ :: _, [], k, _, h => by obtain ⟨x, y, _, h, _⟩ := h; simp at h
  | x :: a, y :: b, 0, _, h => by
    obtain ⟨u, v, h1, h2, h3⟩ := h
    simp at h1 h2
    subst h1; subst h2
    rw [cmpL, if_pos h3]
  | x :: a, y :: b, k + 1, h0, h => by
    have e : x = y := by simpa using h0 0 (by omega)
    subst e
    rw [cmpL, if_neg (by omega), if_neg (by omega)]
    exact cmpL_first a b k (fun t ht => by simpa using h0 (t + 1) (by omega)) (by simpa using h)
/-- A list turned. -/
def rotL (l : List Int) (r : Nat) : List Int := l.drop r ++ l.take r
theorem rotL_length (l : List Int) (r : Nat) (h : r ≤ l.length) : (rotL l r).length = l.length := by simp [rotL]; omega
/-- The list, over and over. -/
def roll (l : List Int) (t : Nat) : Int := l.getD (t % l.length) 0
theorem rotL_get (l : List Int) (r t : Nat) (hr : r < l.length) (ht : t < l.length) : (rotL l r)[t]? = some (roll l (r + t)) := by
  unfold rotL roll
  by_cases h : t < l.length - r
  · rw [List.getElem?_append_left (by simp; omega), List.getElem?_drop, Nat.mod_eq_of_lt (by omega), List.getElem?_eq_getElem (by omega)]
    simp [List.getD_eq_getElem?_getD, List.getElem?_eq_getElem (show r + t < l.length by omega)]
  · rw [List.getElem?_append_right (by simp; omega), Nat.mod_eq_sub_mod (by omega), Nat.mod_eq_of_lt (by omega)]
    simp only [List.length_drop]
    rw [List.getElem?_take, if_pos (by omega), show t - (l.length - r) = r + t - l.length by omega]
    simp [List.getD_eq_getElem?_getD, List.getElem?_eq_getElem (show r + t - l.length < l.length by omega)]
theorem roll_mod (l : List Int) (t : Nat) : roll l (t % l.length) = roll l t := by unfold roll; rw [Nat.mod_mod]
theorem roll_add (l : List Int) (a t : Nat) : roll l (a % l.length + t) = roll l (a + t) := by unfold roll; rw [Nat.mod_add_mod]
/-- Some other turn comes ahead of this one. -/
def Beaten (l : List Int) (r : Nat) : Prop := ∃ s, s < l.length ∧ cmpL (rotL l s) (rotL l r) < 0
theorem beaten_of (l : List Int) (i j k : Nat) (hk : k < l.length) (hi : i < l.length) (hs : ∀ t, t < k → roll l (i + t) = roll l (j + t)) (hgt : roll l (j + k) < roll l (i + k)) : Beaten l i := by
  have hp : 0 < l.length := by omega
  refine ⟨j % l.length, Nat.mod_lt _ hp, ?_⟩
  rw [cmpL_first (rotL l (j % l.length)) (rotL l i) k]
  · decide
  · intro t ht
    rw [rotL_get l _ t (Nat.mod_lt _ hp) (by omega), rotL_get l i t hi (by omega), roll_add, hs t ht]
  · exact ⟨_, _, rotL_get l _ k (Nat.mod_lt _ hp) hk, rotL_get l i k hi hk, by rw [roll_add]; exact hgt⟩
theorem unbeaten_ex (l : List Int) (hp : 0 < l.length) : ∃ r, r < l.length ∧ ¬ Beaten l r := by
  have key : ∀ n, 0 < n → n ≤ l.length → ∃ r, r < n ∧ ∀ s, s < n → 0 ≤ cmpL (rotL l s) (rotL l r) := by
    intro n
    induction n with
    | zero => intro h; omega
    | succ n ih =>
      intro _ hn
      by_cases h0 : n = 0
      · subst h0; exact ⟨0, by omega, fun s hs => by rw [show s = 0 by omega, cmpL_self]; decide⟩
      · obtain ⟨r, hr, h⟩ := ih (by omega) (by omega)
        by_cases hc : cmpL (rotL l n) (rotL l r) < 0
        · refine ⟨n, by omega, fun s hs => ?_⟩
          by_cases e : s = n
          · rw [e, cmpL_self]; decide
          · have h1 := h s (by omega)
            have h2 := cmpL_swap (rotL l s) (rotL l n)
            have h3 := cmpL_swap (rotL l s) (rotL l r)
            have h4 := cmpL_trans (rotL l r) (rotL l s) (rotL l n) (by omega)
            by_cases h5 : cmpL (rotL l s) (rotL l n) ≤ 0
            · have := h4 h5
              have h6 := cmpL_swap (rotL l n) (rotL l r)
              omega
            · omega
        · refine ⟨r, by omega, fun s hs => ?_⟩
          by_cases e : s = n
          · rw [e]; omega
          · exact h s (by omega)
  obtain ⟨r, hr, h⟩ := key l.length hp (by omega)
  exact ⟨r, hr, fun ⟨s, hs, hc⟩ => by have := h s hs; omega⟩
structure RI (l : List Int) (i j k : Nat) : Prop where
  ne : i ≠ j
  same : ∀ t, t < k → roll l (i + t) = roll l (j + t)
  beat : ∀ r, r < l.length → r < max i j → r ≠ i → r ≠ j → Beaten l r
theorem RI.swap {l : List Int} {i j k : Nat} (h : RI l i j k) : RI l j i k := ⟨fun e => h.ne e.symm, fun t ht => (h.same t ht).symm, fun r h1 h2 h3 h4 => h.beat r h1 (by omega) h4 h3⟩
theorem RI.start (l : List Int) : RI l 0 1 0 := ⟨by omega, fun t ht => by omega, fun r _ h2 h3 _ => by omega⟩
theorem RI.next {l : List Int} {i j k : Nat} (h : RI l i j k) (e : roll l (i + k) = roll l (j + k)) : RI l i j (k + 1) :=
  ⟨h.ne, fun t ht => by
    by_cases ht' : t = k
    · rw [ht']; exact e
    · exact h.same t (by omega), h.beat⟩
theorem RI.gt {l : List Int} {i j k : Nat} (h : RI l i j k) (hk : k < l.length) (e : roll l (j + k) < roll l (i + k)) : RI l (i + k + 1) (if i + k + 1 = j then j + 1 else j) 0 := by
  have hb : ∀ r, r < l.length → i ≤ r → r ≤ i + k → Beaten l r := by
    intro r hr h1 h2
    refine beaten_of l r (j + (r - i)) (k - (r - i)) (by omega) hr (fun t ht => ?_) ?_
    · have := h.same (r - i + t) (by omega)
      rw [show i + (r - i + t) = r + t by omega, show j + (r - i + t) = j + (r - i) + t by omega] at this
      exact this
    · rw [show r + (k - (r - i)) = i + k by omega, show j + (r - i) + (k - (r - i)) = j + k by omega]
      exact e
  refine ⟨?_, fun t ht => by omega, fun r hr h1 h2 h3 => ?_⟩
  · split <;> omega
  · by_cases c : i ≤ r ∧ r ≤ i + k
    · exact hb r hr c.1 c.2
    · by_cases c2 : i + k + 1 = j
      · rw [if_pos c2] at h1 h3
        exact h.beat r hr (by omega) (by omega) (by omega)
      · rw [if_neg c2] at h1 h3
        exact h.beat r hr (by omega) (by omega) h3
theorem RI.lt {l : List Int} {i j k : Nat} (h : RI l i j k) (hk : k < l.length) (e : roll l (i + k) < roll l (j + k)) : RI l i (if j + k + 1 = i then j + k + 2 else j + k + 1) 0 := by
  have h1 := h.swap.gt hk e
  by_cases c : j + k + 1 = i
  · rw [if_pos c] at h1
    rw [if_pos c]
    refine ⟨by omega, fun t ht => by omega, fun r hr h2 h3 h4 => ?_⟩
    exact h1.beat r hr (by omega) (by omega) (by omega)
  · rw [if_neg c] at h1
    rw [if_neg c]
    exact h1.swap
theorem RI.stop {l : List Int} {i j k : Nat} (h : RI l i j k) (hp : 0 < l.length) (hs : ¬ (j < l.length ∧ i < l.length ∧ k < l.length)) : min i j < l.length ∧ ¬ Beaten l (min i j) := by
  obtain ⟨r, hr, hu⟩ := unbeaten_ex l hp
  by_cases c : i < l.length ∧ j < l.length
  · have hk : l.length ≤ k := by omega
    have key : ∀ i j, i < j → j < l.length → (∀ t, t < l.length → roll l (i + t) = roll l (j + t)) → (∀ r, r < l.length → r < j → r ≠ i → Beaten l r) → ¬ Beaten l i := by
      intro i j hij hj hsame hbeat
      have hper : ∀ x, roll l (x + (j - i)) = roll l x := by
        intro x
        have hm := Nat.mod_lt (x + (l.length - i)) hp
        have h1 := hsame ((x + (l.length - i)) % l.length) hm
        have e1 : roll l (i + (x + (l.length - i)) % l.length) = roll l x := by
          unfold roll
          rw [Nat.add_mod_mod, show i + (x + (l.length - i)) = x + l.length by omega, Nat.add_mod_right]
        have e2 : roll l (j + (x + (l.length - i)) % l.length) = roll l (x + (j - i)) := by
          unfold roll
          rw [Nat.add_mod_mod, show j + (x + (l.length - i)) = x + (j - i) + l.length by omega, Nat.add_mod_right]
        rw [← e1, ← e2, h1]
      have hrot : ∀ r, j ≤ r → r < l.length → rotL l (r - (j - i)) = rotL l r := by
        intro r h1 h2
        apply List.ext_getElem?
        intro t
        by_cases ht : t < l.length
        · rw [rotL_get l _ t (by omega) ht, rotL_get l _ t h2 ht, ← hper (r - (j - i) + t), show r - (j - i) + t + (j - i) = r + t by omega]
        · rw [List.getElem?_eq_none (by rw [rotL_length _ _ (by omega)]; omega), List.getElem?_eq_none (by rw [rotL_length _ _ (by omega)]; omega)]
      have hdown : ∀ r, r < l.length → ¬ Beaten l r → ¬ Beaten l i := by
        intro r
        induction r using Nat.strongRecOn with
        | ind r ih =>
          intro hr hu
          by_cases h1 : r < j
          · by_cases h2 : r = i
            · exact h2 ▸ hu
            · exact (hu (hbeat r hr h1 h2)).elim
          · refine ih (r - (j - i)) (by omega) (by omega) ?_
            rintro ⟨s, h3, h4⟩
            exact hu ⟨s, h3, by rw [hrot r (by omega) hr] at h4; exact h4⟩
      exact hdown r hr hu
    refine ⟨by omega, ?_⟩
    rcases Nat.lt_or_ge i j with hij | hij
    · rw [Nat.min_eq_left (by omega)]
      exact key i j hij c.2 (fun t ht => h.same t (by omega)) (fun r hr h1 h2 => h.beat r hr (by omega) h2 (by omega))
    · have := h.ne
      rw [Nat.min_eq_right (by omega)]
      exact key j i (by omega) c.1 (fun t ht => (h.same t (by omega)).symm) (fun r hr h1 h2 => h.beat r hr (by omega) (by omega) h2)
  · by_cases e : r = min i j
    · exact e ▸ ⟨hr, hu⟩
    · exfalso
      have := h.ne
      exact hu (h.beat r hr (by omega) (by omega) (by omega))
/-- The first of all turns is one list. -/
theorem least_uniq (l : List Int) (a b : Nat) (ha : a < l.length) (hb : b < l.length) (ua : ¬ Beaten l a) (ub : ¬ Beaten l b) : rotL l a = rotL l b := by
  apply cmpL_eq
  have h1 := cmpL_swap (rotL l a) (rotL l b)
  have h2 : ¬ cmpL (rotL l a) (rotL l b) < 0 := fun h => ub ⟨a, ha, h⟩
  have h3 : ¬ cmpL (rotL l b) (rotL l a) < 0 := fun h => ua ⟨b, hb, h⟩
  omega

-- BothIns
/-- Two lists, place by place. -/
inductive Both {α β : Type} (R : α → β → Prop) : List α → List β → Prop
  | nil : Both R [] []
  | cons {a : α} {b : β} {l : List α} {r : List β} : R a b → Both R l r → Both R (a :: l) (b :: r)
theorem Both.left {α β : Type} {R : α → β → Prop} {l : List α} {r : List β} (h : Both R l r) : ∀ b ∈ r, ∃ a ∈ l, R a b := by
  induction h with
  | nil => intro b hb; simp at hb
  | @cons a b l r h1 _ ih =>
    intro b' hb
    rcases List.mem_cons.1 hb with rfl | hb
    · exact ⟨a, List.mem_cons_self .., h1⟩
    · obtain ⟨a', h2, h3⟩ := ih b' hb
      exact ⟨a', List.mem_cons_of_mem _ h2, h3⟩
theorem Both.right {α β : Type} {R : α → β → Prop} {l : List α} {r : List β} (h : Both R l r) : ∀ a ∈ l, ∃ b ∈ r, R a b := by
  induction h with
  | nil => intro b hb; simp at hb
  | @cons a b l r h1 _ ih =>
    intro a' ha
    rcases List.mem_cons.1 ha with rfl | ha
    · exact ⟨b, List.mem_cons_self .., h1⟩
    · obtain ⟨b', h2, h3⟩ := ih a' ha
      exact ⟨b', List.mem_cons_of_mem _ h2, h3⟩
theorem Both.apart {α β : Type} {R : α → β → Prop} {P : α → α → Prop} {l : List α} {r : List β} (h : Both R l r) : l.Pairwise P → (∀ a a' b, P a a' → R a b → R a' b → False) → r.Nodup := by
  induction h with
  | nil => intro _ _; exact .nil
  | @cons a b l r h1 h2 ih =>
    intro hp hR
    rw [List.pairwise_cons] at hp
    refine List.nodup_cons.2 ⟨fun hb => ?_, ih hp.2 hR⟩
    obtain ⟨a', h3, h4⟩ := h2.left b hb
    exact hR a a' b (hp.1 a' h3) h1 h4
theorem Both.length {α β : Type} {R : α → β → Prop} {l : List α} {r : List β} (h : Both R l r) : l.length = r.length := by
  induction h with
  | nil => rfl
  | cons _ _ ih => rw [List.length_cons, List.length_cons, ih]
/-- A place for c, found from the end. -/
theorem ins_ok {α : Type} (le : α → α → Prop) (ht : ∀ a b, le a b ∨ le b a) (htr : ∀ a b c, le a b → le b c → le a c) (o : List α) (c : α) (k : Nat) (hk : k ≤ o.length) (h1 : ∀ j (hj : j < o.length), k ≤ j → ¬ le o[j] c) (h2 : k = 0 ∨ ∃ h : k - 1 < o.length, le o[k - 1] c) (ho : o.Pairwise le) : (o.take k ++ [c] ++ o.drop k).Pairwise le ∧ (o.take k ++ [c] ++ o.drop k).Perm (o ++ [c]) := by
  constructor
  · have hlo : ∀ y ∈ o.take k, le y c := by
      intro y hy
      obtain ⟨j, hj, rfl⟩ := List.mem_iff_getElem.1 hy
      rw [List.length_take] at hj
      rw [List.getElem_take]
      rcases h2 with h2 | ⟨h2, h3⟩
      · omega
      · by_cases e : j = k - 1
        · subst e; exact h3
        · exact htr _ _ _ (List.pairwise_iff_getElem.1 ho j (k - 1) (by omega) h2 (by omega)) h3
    have hhi : ∀ y ∈ o.drop k, le c y := by
      intro y hy
      obtain ⟨j, hj, rfl⟩ := List.mem_iff_getElem.1 hy
      rw [List.length_drop] at hj
      rw [List.getElem_drop]
      rcases ht o[k + j] c with h | h
      · exact (h1 (k + j) (by omega) (by omega) h).elim
      · exact h
    rw [List.append_assoc, List.pairwise_append]
    refine ⟨ho.sublist (List.take_sublist _ _), ?_, ?_⟩
    · rw [List.singleton_append, List.pairwise_cons]
      exact ⟨hhi, ho.sublist (List.drop_sublist _ _)⟩
    · intro y hy z hz
      rw [List.singleton_append] at hz
      rcases List.mem_cons.1 hz with rfl | hz
      · exact hlo y hy
      · exact htr _ _ _ (hlo y hy) (hhi z hz)
  · have h := (List.perm_append_comm (l₁ := [c]) (l₂ := o.drop k)).append_left (o.take k)
    rw [← List.append_assoc, ← List.append_assoc, List.take_append_drop] at h
    exact h

-- Pair
/-- The pair of number i, its last number and the one before. -/
def yv (M : Nat) (H : Int) (i : Nat) : Int := ((i / M : Nat) : Int) - H
def zv (M : Nat) (H : Int) (i : Nat) : Int := ((i % M : Nat) : Int) - H
theorem yz_inj {M : Nat} {H : Int} {i j : Nat} (h1 : yv M H i = yv M H j) (h2 : zv M H i = zv M H j) : i = j := by
  unfold yv at h1
  unfold zv at h2
  have a := Nat.div_add_mod i M
  have b := Nat.div_add_mod j M
  have e1 : i / M = j / M := by omega
  have e2 : i % M = j % M := by omega
  rw [e1, e2] at a
  omega
theorem yz_bound {M : Nat} {H : Int} (hM : (M : Int) = 2 * H) {i : Nat} (hi : i < M * M) : -H ≤ yv M H i ∧ yv M H i < H ∧ -H ≤ zv M H i ∧ zv M H i < H := by
  have hq : i / M < M := Nat.div_lt_of_lt_mul hi
  have hr : i % M < M := Nat.mod_lt _ (Nat.lt_of_le_of_lt (Nat.zero_le _) hq)
  unfold yv zv
  generalize i / M = q at *
  generalize i % M = r at *
  omega
theorem yz_idx {M : Nat} {H : Int} (hM : (M : Int) = 2 * H) (hM2 : M ≤ 64) {i : Nat} (hi : i < M * M) : wrap64 (wrap64 (wrap64 (wrap64 (yv M H i - -H) * (M : Int)) + zv M H i) - -H) = (i : Int) := by
  have hq : i / M < M := Nat.div_lt_of_lt_mul hi
  have hr : i % M < M := Nat.mod_lt _ (Nat.lt_of_le_of_lt (Nat.zero_le _) hq)
  have e := Nat.div_add_mod i M
  have hN : M * M ≤ 64 * 64 := Nat.mul_le_mul hM2 hM2
  unfold yv zv
  generalize i / M = q at *
  generalize i % M = r at *
  have e1 : (q : Int) - H - -H = (q : Int) := by omega
  rw [e1, aid_wr (x := (q : Int)) (by omega) (by omega)]
  have e2 : (q : Int) * (M : Int) = ((M * q : Nat) : Int) := by rw [Nat.mul_comm, Int.natCast_mul]
  rw [e2]
  generalize M * q = p at *
  generalize M * M = n at *
  rw [aid_wr (x := (p : Int)) (by omega) (by omega), aid_wr (x := (p : Int) + _) (by omega) (by omega), aid_wr (by omega) (by omega)]
  omega
/-- The step on the numbers of the pairs. -/
def pT (c : Bool) (H P m a b x : Int) (M i : Nat) : Nat := (fitI c H (raw2 P m a b (yv M H i) (zv M H i) x) + H).toNat * M + i / M
theorem pT_yz {H : Int} (hH : 1 ≤ H) (c : Bool) (P m a b x : Int) {M i : Nat} (hM : (M : Int) = 2 * H) (hi : i < M * M) : pT c H P m a b x M i < M * M ∧ yv M H (pT c H P m a b x M i) = fitI c H (raw2 P m a b (yv M H i) (zv M H i) x) ∧ zv M H (pT c H P m a b x M i) = yv M H i := by
  have h1 := fitI_bound hH c (raw2 P m a b (yv M H i) (zv M H i) x)
  have hq : i / M < M := Nat.div_lt_of_lt_mul hi
  have hM0 : 0 < M := by omega
  have e : yv M H i = ((i / M : Nat) : Int) - H := rfl
  unfold pT
  generalize fitI c H (raw2 P m a b (yv M H i) (zv M H i) x) = F at *
  obtain ⟨f, hf⟩ : ∃ f : Nat, F + H = (f : Int) := ⟨(F + H).toNat, by omega⟩
  rw [e, hf, Int.toNat_natCast]
  have hfM : f < M := by omega
  have d1 : (f * M + i / M) / M = f := by rw [Nat.mul_comm, Nat.mul_add_div hM0, Nat.div_eq_of_lt hq, Nat.add_zero]
  have d2 : (f * M + i / M) % M = i / M := by rw [Nat.mul_comm, Nat.mul_add_mod, Nat.mod_eq_of_lt hq]
  refine ⟨?_, ?_, ?_⟩
  · have : f * M + i / M < (f + 1) * M := by rw [Nat.add_mul, Nat.one_mul]; omega
    exact Nat.lt_of_lt_of_le this (Nat.mul_le_mul_right M hfM)
  · unfold yv
    rw [d1]
    omega
  · unfold zv
    rw [d2]
/-- The last numbers along a cycle. -/
def lapL (M : Nat) (H : Int) (T : Nat → Nat) (h p : Nat) : List Int := (cycL T h p).map (yv M H)
theorem lapL_length (M : Nat) (H : Int) (T : Nat → Nat) (h p : Nat) : (lapL M H T h p).length = p := by simp [lapL, cycL_length]
theorem lapL_snoc (M : Nat) (H : Int) (T : Nat → Nat) (h n : Nat) : lapL M H T h n ++ [yv M H (itN T n h)] = lapL M H T h (n + 1) := by simp [lapL, cycL_succ]
/-- c: the last numbers along the cycle of h, the first of all turns. -/
def TurnOf (M : Nat) (H : Int) (T : Nat → Nat) (h : Nat) (c : List Int) : Prop := ∃ p r, OnC T h p ∧ r < p ∧ ¬ Beaten (lapL M H T h p) r ∧ c = rotL (lapL M H T h p) r
theorem TurnOf.len {M : Nat} {H : Int} {T : Nat → Nat} {h : Nat} {c : List Int} (hc : TurnOf M H T h c) : ∃ p, OnC T h p ∧ c.length = p ∧ ∀ z, z ∈ c ↔ z ∈ lapL M H T h p := by
  obtain ⟨p, r, h1, h2, h3, rfl⟩ := hc
  refine ⟨p, h1, by rw [rotL_length _ _ (by rw [lapL_length]; omega), lapL_length], fun z => ?_⟩
  unfold rotL
  rw [List.mem_append, or_comm, ← List.mem_append, List.take_append_drop]

-- Rho
/-- From i on a walk comes again: first at place a + p, at the place a. -/
structure Rho (T : Nat → Nat) (i a p : Nat) : Prop where
  cyc : OnC T (itN T a i) p
  nd : (cycL T i (a + p)).Nodup
theorem nd_at {T : Nat → Nat} {i n : Nat} (h : (cycL T i n).Nodup) {u v : Nat} (hu : u < n) (hv : v < n) (e : itN T u i = itN T v i) : u = v := by
  have h5 := List.getElem_inj (h₀ := by rw [cycL_length]; exact hu) (h₁ := by rw [cycL_length]; exact hv) h (i := u) (j := v)
  rw [cycL_get, cycL_get] at h5
  exact h5.1 e
theorem nd_of {T : Nat → Nat} {i n : Nat} (h : ∀ u v, u < v → v < n → itN T u i ≠ itN T v i) : (cycL T i n).Nodup := by
  unfold cycL
  rw [List.Nodup, List.pairwise_map]
  refine List.Pairwise.imp_of_mem ?_ (List.nodup_range (n := n))
  intro u v hu hv huv e
  rcases Nat.lt_trichotomy u v with h1 | h1 | h1
  · exact h u v h1 (List.mem_range.1 hv) e
  · exact huv h1
  · exact h v u h1 (List.mem_range.1 hu) e.symm
/-- The least place from which n more steps lead back. -/
theorem rho_of {T : Nat → Nat} {i a n : Nat} (hn : 0 < n) (ha : itN T a i = itN T (a + n) i) (hmin : ∀ b, b < a → itN T b i ≠ itN T (b + n) i) : ∃ p, Rho T i a p ∧ p ≤ n := by
  have hs : itN T n (itN T a i) = itN T a i := by rw [← itN_add, ha]
  obtain ⟨p, hp⟩ := onC_of n hn hs
  have hdiv : n % p = 0 := by
    have h1 := itN_mod hp.ret n
    rw [hs] at h1
    have h2 := hp.inj (a := n % p) (b := 0) (Nat.mod_lt _ hp.pos) hp.pos h1.symm
    exact h2
  have hpn : p ≤ n := Nat.le_of_dvd hn (Nat.dvd_of_mod_eq_zero hdiv)
  refine ⟨p, ⟨hp, nd_of (fun u v huv hv e => ?_)⟩, hpn⟩
  by_cases hu : a ≤ u
  · have h1 : itN T (u - a) (itN T a i) = itN T (v - a) (itN T a i) := by
      rw [← itN_add, ← itN_add, show a + (u - a) = u by omega, show a + (v - a) = v by omega, e]
    have := hp.inj (a := u - a) (b := v - a) (by omega) (by omega) h1
    omega
  · have hx : itN T (v - u) (itN T u i) = itN T u i := by rw [← itN_add, show u + (v - u) = v by omega, e]
    obtain ⟨q, hq⟩ := onC_of (v - u) (by omega) hx
    have h2 := hq.at_ (a - u)
    rw [← itN_add, show u + (a - u) = a by omega] at h2
    have h3 := h2.uniq hp
    subst h3
    have h4 : itN T n (itN T u i) = itN T u i := by rw [itN_mod hq.ret n, hdiv]; rfl
    rw [← itN_add] at h4
    exact hmin u (by omega) h4.symm
/-- Where a walk comes again within n steps, it meets itself at some step up to n. -/
theorem meet_of {T : Nat → Nat} {i u v : Nat} (huv : u < v) (e : itN T u i = itN T v i) : ∃ n, 0 < n ∧ n ≤ v ∧ itN T n i = itN T (n + n) i := by
  have hp : 0 < v - u := by omega
  have hx : itN T (v - u) (itN T u i) = itN T u i := by rw [← itN_add, show u + (v - u) = v by omega, e]
  have h1 := Nat.div_add_mod u (v - u)
  have h2 := Nat.mod_lt u hp
  obtain ⟨d, hd⟩ : ∃ d, u / (v - u) = d := ⟨_, rfl⟩
  rw [hd] at h1
  have h5 : (v - u) * (d + 1) = (v - u) * d + (v - u) := by rw [Nat.mul_add, Nat.mul_one]
  generalize u % (v - u) = r at h1 h2
  generalize hP : (v - u) * d = P at h1 h5
  clear hd
  obtain ⟨w, hw⟩ : ∃ w, (v - u) * (d + 1) = u + w := ⟨(v - u) * (d + 1) - u, by omega⟩
  refine ⟨(v - u) * (d + 1), Nat.mul_pos hp (by omega), by omega, ?_⟩
  have h3 : itN T ((d + 1) * (v - u)) (itN T u i) = itN T u i := itN_mul hx _
  rw [Nat.mul_comm, hw] at h3
  rw [hw]
  have h4 : itN T (u + w) (itN T w (itN T u i)) = itN T w (itN T u i) := by
    rw [← itN_add, Nat.add_comm, itN_add, h3]
  have e1 : itN T (u + w) i = itN T w (itN T u i) := itN_add T u w i
  rw [itN_add T (u + w) (u + w) i, e1]
  exact h4.symm

-- laws_eqIntS
theorem laws_eqIntS.l0_refl (l : List Int) (hl : l.length ≤ 1000000000000000) : ∀ (d i : Nat), i + d = l.length → Ev (fun k => laws_eqIntS.l0 k l l (i : Int)) true := by
  intro d
  induction d with
  | zero =>
    intro i h
    refine Ev.step (fun k => ?_) (Ev.now _)
    simp only [laws_eqIntS.l0]
    rw [if_neg (by omega)]
  | succ d ih =>
    intro i h
    refine Ev.step (fun k => ?_) (ih (i + 1) (by omega))
    simp only [laws_eqIntS.l0]
    rw [if_pos (by omega), if_pos (by omega), if_pos (by omega), if_pos trivial, aid_next (by omega)]
theorem laws_eqIntS.refl (l : List Int) (hl : l.length ≤ 1000000000000000) : Ev (fun k => laws_eqIntS.f k l l) true := by
  unfold laws_eqIntS.f
  exact Ev.congr (fun k => if_pos rfl) (laws_eqIntS.l0_refl l hl l.length 0 (by omega))

-- Mark
def marksL : Nat → Int → List Int
  | 0, _ => []
  | n + 1, a => marksL n a ++ [a + (n : Int)]
theorem marksL_length (a : Int) : ∀ n, (marksL n a).length = n
  | 0 => rfl
  | n + 1 => by rw [marksL, List.length_append, marksL_length a n]; rfl
theorem marksL_get (a : Int) : ∀ (n i : Nat) (h : i < (marksL n a).length), (marksL n a)[i] = a + (i : Int)
  | n + 1, i, h => by
    have hl := marksL_length a n
    have hl' := marksL_length a (n + 1)
    simp only [marksL]
    by_cases hi : i < n
    · rw [List.getElem_append_left (by omega)]
      exact marksL_get a n i (by omega)
    · have e : i = n := by omega
      subst e
      rw [List.getElem_append_right (by omega)]
      simp

-- laws_markIntS
theorem laws_markIntS.l0_ev (l : List Int) (a : Int) (hl : l.length ≤ 1000000000000000) (h0 : 0 ≤ a) (h1 : a ≤ 1000000000000000) : ∀ (d i : Nat), i + d = l.length → Ev (fun k => laws_markIntS.l0 k (marksL i a ++ l.drop i) (a + (i : Int)) (i : Int)) (a + (l.length : Int), marksL l.length a) := by
  intro d
  induction d with
  | zero =>
    intro i h
    have hlen : (marksL i a ++ l.drop i).length = l.length := by rw [List.length_append, marksL_length, List.length_drop]; omega
    refine Ev.step (f := fun _ => some (a + (l.length : Int), marksL l.length a)) (fun k => ?_) (Ev.now _)
    simp only [laws_markIntS.l0]
    rw [if_neg (by rw [hlen]; omega), List.drop_eq_nil_of_le (by omega), List.append_nil]
    obtain rfl : i = l.length := by omega
    rfl
  | succ d ih =>
    intro i h
    have hi' : i < l.length := by omega
    have hlen : (marksL i a ++ l.drop i).length = l.length := by rw [List.length_append, marksL_length, List.length_drop]; omega
    refine Ev.step (fun k => ?_) (ih (i + 1) (by omega))
    simp only [laws_markIntS.l0]
    have hset : (marksL i a ++ l.drop i).set i (a + (i : Int)) = marksL (i + 1) a ++ l.drop (i + 1) := by
      rw [List.set_append_right _ _ (by rw [marksL_length]; omega), marksL_length, Nat.sub_self, List.drop_eq_getElem_cons hi', marksL, List.append_assoc]
      rfl
    rw [if_pos (by rw [hlen]; omega), if_pos (by omega), Int.toNat_natCast, hset, aid_next (by omega), aid_wr (x := a + (i : Int) + 1) (by omega) (by omega)]
    rw [show a + (i : Int) + 1 = a + ((i + 1 : Nat) : Int) by omega]
theorem laws_markIntS.ev (l : List Int) (a : Int) (hl : l.length ≤ 1000000000000000) (h0 : 0 ≤ a) (h1 : a ≤ 1000000000000000) : Ev (fun k => laws_markIntS.f k l a) (a + (l.length : Int), marksL l.length a) := by
  have h := laws_markIntS.l0_ev l a hl h0 h1 l.length 0 (by omega)
  simp only [marksL, List.nil_append, List.drop_zero] at h
  unfold laws_markIntS.f
  simpa using h

-- laws_heldIntS
theorem laws_heldIntS.l0_ev (n : Nat) (a : Int) (hl : n ≤ 1000000000000000) (h0 : 0 ≤ a) (h1 : a ≤ 1000000000000000) : ∀ (d i : Nat), i + d = n → Ev (fun k => laws_heldIntS.l0 k (marksL n a) (a + (i : Int)) (i : Int)) (a + (n : Int)) := by
  have hlen := marksL_length a n
  intro d
  induction d with
  | zero =>
    intro i h
    refine Ev.step (f := fun _ => some (a + (n : Int))) (fun k => ?_) (Ev.now _)
    simp only [laws_heldIntS.l0]
    rw [if_neg (by rw [hlen]; omega)]
    obtain rfl : i = n := by omega
    rfl
  | succ d ih =>
    intro i h
    refine Ev.step (fun k => ?_) (ih (i + 1) (by omega))
    simp only [laws_heldIntS.l0]
    rw [if_pos (by rw [hlen]; omega), if_pos (by omega), aid_rd _ i (by omega), marksL_get, if_pos rfl, aid_next (by omega), aid_wr (x := a + (i : Int) + 1) (by omega) (by omega)]
    rw [show a + (i : Int) + 1 = a + ((i + 1 : Nat) : Int) by omega]
theorem laws_heldIntS.ev (n : Nat) (a : Int) (hl : n ≤ 1000000000000000) (h0 : 0 ≤ a) (h1 : a ≤ 1000000000000000) : Ev (fun k => laws_heldIntS.f k (marksL n a) a) (a + (n : Int)) := by
  have h := laws_heldIntS.l0_ev n a hl h0 h1 n 0 (by omega)
  unfold laws_heldIntS.f
  simpa using h

-- spec_l1In
theorem spec_l1In.eq (a lo hi : Int) : spec_l1In.f a lo hi = some (decide (lo ≤ a ∧ a ≤ hi)) := by
  unfold spec_l1In.f
  by_cases h : lo ≤ a <;> simp [h]

-- spec_wdLow
theorem spec_wdLow.eq (t : Nat) (h1 : 1 ≤ t) (h2 : t ≤ 15) (b : Bool) : spec_wdLow.f ((t + 1 : Nat) : Int) b = some (-(2 ^ t)) := by
  obtain ⟨hH, hH'⟩ := word_pow t h1 h2
  unfold spec_wdLow.f
  rw [show wrap64 (((t + 1 : Nat) : Int) - 1) = (t : Int) by rw [aid_wr (by omega) (by omega)]; omega, if_pos (by omega), wrap_shl t (by omega), aid_wr (x := -(2 ^ t)) (by omega) (by omega)]

-- spec_wdHigh
theorem spec_wdHigh.eq (t : Nat) (h1 : 1 ≤ t) (h2 : t ≤ 15) (b : Bool) : spec_wdHigh.f ((t + 1 : Nat) : Int) b = some (2 ^ t - 1) := by
  obtain ⟨hH, hH'⟩ := word_pow t h1 h2
  unfold spec_wdHigh.f
  rw [show wrap64 (((t + 1 : Nat) : Int) - 1) = (t : Int) by rw [aid_wr (by omega) (by omega)]; omega, if_pos (by omega), wrap_shl t (by omega), aid_wr (x := 2 ^ t - 1) (by omega) (by omega)]

-- spec_wdGood
theorem spec_wdGood.eq (b : Int) (c : Bool) : spec_wdGood.f b c = some (decide (2 ≤ b ∧ b ≤ 16)) := by
  unfold spec_wdGood.f
  rw [spec_l1In.eq]
  rfl

-- spec_wdIn
theorem spec_wdIn.eq (b : Int) (c : Bool) (x : Int) : spec_wdIn.f b c x = some (wordInB b x) := by
  unfold spec_wdIn.f wordInB
  rw [spec_wdGood.eq]
  by_cases h : 2 ≤ b ∧ b ≤ 16
  · obtain ⟨t, rfl, h1, h2⟩ := word_split b h
    rw [decide_eq_true h, hB_eq, spec_wdLow.eq t h1 h2, spec_wdHigh.eq t h1 h2]
    simp only [Option.bind_some, if_true, spec_l1In.eq, Bool.true_and]
  · rw [decide_eq_false h]
    rfl

-- spec_wdMode
theorem spec_wdMode.eq (s m : Int) : spec_wdMode.f s m = some (decide (0 ≤ s ∧ s ≤ 20) && decide (0 ≤ m ∧ m ≤ 2)) := by
  unfold spec_wdMode.f
  rw [spec_l1In.eq, spec_l1In.eq]
  cases decide (0 ≤ s ∧ s ≤ 20) <;> rfl

-- spec_sdGood
theorem spec_sdGood.eq (a b0 s m b : Int) (c : Bool) : spec_sdGood.f a b0 s m b c = some (secondB a b0 s m b) := by
  unfold spec_sdGood.f secondB
  rw [spec_l1In.eq, spec_l1In.eq, spec_l1In.eq, spec_wdMode.eq, spec_wdGood.eq]
  by_cases h1 : -1024 ≤ a ∧ a ≤ 1024
  · by_cases h0 : -1024 ≤ b0 ∧ b0 ≤ 1024
    · by_cases h2 : 0 ≤ s ∧ s ≤ 10
      · by_cases h3 : 0 ≤ m ∧ m ≤ 2
        · simp [h1, h0, h2, h3, show s ≤ 20 by omega]
        · simp [h1, h0, h2, h3, show s ≤ 20 by omega]
      · simp [h1, h0, h2]
    · simp [h1, h0]
  · simp [h1]

-- spec_sdAsked
theorem spec_sdAsked.eq (a b0 s m b : Int) (c : Bool) (y z x : Int) : spec_sdAsked.f a b0 s m b c y z x = some (secondB a b0 s m b && (wordInB b y && (wordInB b z && decide (-100000 ≤ x ∧ x ≤ 100000)))) := by
  unfold spec_sdAsked.f
  rw [spec_sdGood.eq, spec_wdIn.eq, spec_wdIn.eq, spec_l1In.eq]
  cases secondB a b0 s m b with
  | false => rfl
  | true =>
    cases wordInB b y with
    | false => rfl
    | true => cases wordInB b z <;> rfl

-- spec_l1Most
theorem spec_l1Most.eq (a b : Int) : spec_l1Most.f a b = some (max a b) := by
  unfold spec_l1Most.f
  split <;> simp <;> omega

-- spec_l1Least
theorem spec_l1Least.eq (a b : Int) : spec_l1Least.f a b = some (min a b) := by
  unfold spec_l1Least.f
  split <;> simp <;> omega

-- spec_wdFit
theorem spec_wdFit.eq (t : Nat) (h1 : 1 ≤ t) (h2 : t ≤ 15) (b : Bool) (x : Int) (hx0 : -4611686018427387904 ≤ x) (hx1 : x ≤ 4611686018427387904) : spec_wdFit.f ((t + 1 : Nat) : Int) b x = some (fitI b (2 ^ t) x) := by
  unfold spec_wdFit.f
  rw [spec_wdHigh.eq t h1 h2, spec_wdLow.eq t h1 h2, wrap_shl (t + 1) (by omega)]
  have hp : (2 : Int) ^ (t + 1) = 2 * 2 ^ t := by rw [Int.pow_succ, Int.mul_comm]
  obtain ⟨hH, hH'⟩ := word_pow t h1 h2
  rw [hp]
  generalize (2 : Int) ^ t = H at hH hH' ⊢
  simp only [Option.bind_some, spec_l1Most.eq, spec_l1Least.eq]
  unfold fitI
  by_cases hb : b = true
  · rw [if_pos hb, if_pos hb, if_pos (by omega), if_neg (by omega)]
    obtain ⟨b0, b1⟩ := wrap_tmod_bound x (2 * H) (by omega)
    have hz : Int.tmod (wrap64 (Int.tmod x (2 * H) + 2 * H)) (2 * H) = x % (2 * H) := by
      rw [aid_wr (by omega) (by omega), aid_tmod (by omega), wrap_tmod]
    rw [hz]
    clear hz b0 b1
    have e := Int.mul_ediv_add_emod x (2 * H)
    have r0 := Int.emod_nonneg x (show 2 * H ≠ 0 by omega)
    have r1 := Int.emod_lt_of_pos x (show 0 < 2 * H by omega)
    unfold wI
    by_cases hc : x % (2 * H) > H - 1
    · rw [if_pos hc, aid_wr (by omega) (by omega), aid_emod (x := x + H) (y := x / (2 * H) + 1) (by omega) (by rw [Int.mul_add, Int.mul_one]; omega) (by rw [Int.mul_add, Int.mul_one]; omega), Int.mul_add, Int.mul_one]
      congr 1
      omega
    · rw [if_neg hc, aid_emod (x := x + H) (y := x / (2 * H)) (by omega) (by omega) (by omega)]
      congr 1
      omega
  · rw [if_neg hb, if_neg hb]
    congr 1
    omega

-- spec_wdShift
theorem spec_wdShift.one (x : Int) (h0 : -1000000000000 ≤ x) (h1 : x ≤ 1000000000000) : Ev (fun k => spec_wdShift.f k x 1 0) (x / 2) := by
  have hs : shl .i64 1 1 = 2 := rfl
  unfold spec_wdShift.f
  have hj : ∀ (y : Int) , y = x / 2 → Ev (fun k => spec_wdShift.j0 k x 0 2 y) (x / 2) := by
    intro y hy
    refine aid_ev_succ ?_
    simp only [spec_wdShift.j0]
    refine Ev.congr (fun k => if_neg (by decide)) ?_
    refine aid_ev_succ ?_
    simp only [spec_wdShift.j1]
    subst hy
    simp
    exact Ev.now _
  rw [hs]
  have e : Int.tmod x 2 = if x < 0 ∧ x % 2 = 1 then -1 else x % 2 := by
    rw [Int.tmod_eq_emod]
    split <;> split <;> omega
  have e2 : Int.tdiv x 2 = if x < 0 ∧ x % 2 = 1 then x / 2 + 1 else x / 2 := by
    rw [Int.tdiv_eq_ediv, show Int.sign 2 = 1 from rfl]
    split <;> split <;> omega
  rw [e, e2]
  by_cases hc : x < 0 ∧ x % 2 = 1
  · simp only [hc, and_self, if_true]
    rw [aid_wr (x := x / 2 + 1) (by omega) (by omega), aid_wr (x := x / 2 + 1 - 1) (by omega) (by omega)]
    exact hj _ (by omega)
  · rw [if_neg hc, if_neg hc, aid_wr (x := x / 2) (by omega) (by omega)]
    have : ¬ x % 2 < 0 := by omega
    simp only [this, if_false]
    exact hj _ rfl

-- spec_wdShift.gen
theorem spec_wdShift.gen (s : Nat) (hs : s ≤ 20) (x mode : Int) (hx0 : -1000000000000 ≤ x) (hx1 : x ≤ 1000000000000) : Ev (fun k => spec_wdShift.f k x (s : Int) mode) (shI (2 ^ s) mode x) := by
  unfold spec_wdShift.f
  obtain ⟨hP0, hP1⟩ := shift_pow s hs
  rw [shift_shl s hs]
  generalize (2 : Int) ^ s = P at hP0 hP1 ⊢
  obtain ⟨e, r0, r1, d0, d1⟩ := shift_div x P hP0
  have hj : ∀ y : Int, y = x / P → Ev (fun k => spec_wdShift.j0 k x mode P y) (shI P mode x) := by
    intro y hy
    subst hy
    refine aid_ev_succ ?_
    have eq1 : wrap64 (x - wrap64 (x / P * P)) = x % P := by
      rw [Int.mul_comm]
      rw [aid_wr (x := P * (x / P)) (by omega) (by omega), aid_wr (by omega) (by omega)]
      omega
    have eq2 : wrap64 (2 * (x % P)) = 2 * (x % P) := aid_wr (by omega) (by omega)
    have eq3 : wrap64 (x / P + 1) = x / P + 1 := by
      apply aid_wr <;> by_cases hx : 0 ≤ x
      · have := d0 hx; omega
      · have := d1 (by omega); omega
      · have := d0 hx; omega
      · have := d1 (by omega); omega
    simp only [spec_wdShift.j0, eq1, eq2]
    clear eq1 eq2
    have EQ3 := Aside0.mk eq3
    clear eq3
    have hT : ∀ c : Bool, (c = true → shI P mode x = x / P + 1) → (c = false → mode = 1 → shI P mode x = x / P) → (c = true → mode = 1) → Ev (fun k => spec_wdShift.j1 k x mode (x / P) (x % P) c) (shI P mode x) := by
      intro c h1 h2 h3
      refine aid_ev_succ ?_
      simp only [spec_wdShift.j1, EQ3.out]
      cases c with
      | true =>
        rw [h1 rfl]
        simp only [if_true]
        exact Ev.now _
      | false =>
        simp only [if_false, Bool.false_eq_true]
        by_cases hm : mode = 1
        · rw [h2 rfl hm]
          rw [if_neg (by omega)]
          exact Ev.now _
        · unfold shI
          by_cases hm2 : mode = 2
          · by_cases hx : x < 0
            · by_cases hr : x % P > 0
              · rw [if_pos hm2, if_pos hx, if_pos hr, if_pos (Or.inr ⟨hm2, hx, hr⟩)]
                exact Ev.now _
              · rw [if_pos hm2, if_pos hx, if_neg hr, if_neg (by omega)]
                exact Ev.now _
            · rw [if_pos hm2, if_neg hx, if_neg (by omega)]
              exact Ev.now _
          · rw [if_neg hm2, if_neg (by omega)]
            exact Ev.now _
    by_cases hm : mode = 1
    · by_cases h2 : 2 * (x % P) ≥ P
      · simp only [if_pos hm, if_pos h2]
        refine hT _ (fun hc => ?_) (fun hc _ => ?_) (fun _ => hm)
        · exact if_pos (Or.inl ⟨hm, h2, of_decide_eq_true hc⟩)
        · have := of_decide_eq_false hc
          exact if_neg (by omega)
      · simp only [if_pos hm, if_neg h2]
        refine hT _ (fun hc => absurd hc (by decide)) (fun hc _ => if_neg (by omega)) (fun _ => hm)
    · simp only [if_neg hm]
      exact hT _ (fun hc => absurd hc (by decide)) (fun _ h => absurd h hm) (fun hc => absurd hc (by decide))
  refine Ev.congr (fun k => if_pos (by omega)) ?_
  refine Ev.congr (fun k => if_neg (by omega)) ?_
  by_cases hx : 0 ≤ x
  · have e1 : Int.tmod x P = x % P := aid_tmod hx
    have e2 : Int.tdiv x P = x / P := aid_tdiv hx
    have := d0 hx
    rw [e1, e2]
    refine Ev.congr (fun k => if_neg (by omega)) ?_
    rw [aid_wr (x := x / P) (by omega) (by omega)]
    exact hj _ rfl
  · obtain ⟨z, rfl⟩ : ∃ z, x = -z := ⟨-x, by omega⟩
    obtain ⟨f, s0, s1, b0, b1⟩ := shift_div z P hP0
    have e1 : Int.tmod (-z) P = -(z % P) := by rw [Int.neg_tmod, aid_tmod (by omega)]
    have e2 : Int.tdiv (-z) P = -(z / P) := by rw [Int.neg_tdiv, aid_tdiv (by omega)]
    have := b0 (by omega)
    rw [e1, e2, aid_wr (x := -(z / P)) (by omega) (by omega)]
    by_cases hr : -(z % P) < 0
    · refine Ev.congr (fun k => if_pos hr) ?_
      rw [aid_wr (x := -(z / P) - 1) (by omega) (by omega)]
      refine hj _ (aid_div (by omega) ?_ ?_).symm
      · rw [Int.mul_sub, Int.mul_neg, Int.mul_one]
        omega
      · rw [Int.mul_sub, Int.mul_neg, Int.mul_one]
        omega
    · refine Ev.congr (fun k => if_neg hr) ?_
      refine hj _ (aid_div (by omega) ?_ ?_).symm
      · rw [Int.mul_neg]
        omega
      · rw [Int.mul_neg]
        omega

-- spec_sdRaw
theorem spec_sdRaw.ev (a b m : Int) (ha : -1024 ≤ a ∧ a ≤ 1024) (hb : -1024 ≤ b ∧ b ≤ 1024) (s : Nat) (hs : s ≤ 10) (b1 : Int) (c : Bool) (y z x : Int) (hy : -32768 ≤ y ∧ y ≤ 32768) (hz : -32768 ≤ z ∧ z ≤ 32768) (hx : -1000000 ≤ x ∧ x ≤ 1000000) : Ev (fun k => spec_sdRaw.f k a b (s : Int) m b1 c y z x) (raw2 (2 ^ s) m a b y z x) := by
  obtain ⟨hP, _⟩ := shift_pow s (by omega)
  have h1 := mul_bound ha hy
  have h3 := mul_bound hb hz
  have h2 := shI_small (B := 67108864) (m := m) (x := a * y + b * z) hP (by omega) (by omega)
  unfold spec_sdRaw.f
  rw [aid_wr (x := a * y) (by omega) (by omega), aid_wr (x := b * z) (by omega) (by omega), aid_wr (x := a * y + b * z) (by omega) (by omega)]
  refine Ev.bind (spec_wdShift.gen s (by omega) (a * y + b * z) m (by omega) (by omega)) ?_
  rw [aid_wr (x := shI (2 ^ s) m (a * y + b * z) + x) (by omega) (by omega)]
  exact Ev.now _

-- spec_sdStep
theorem spec_sdStep.ev (a b m : Int) (ha : -1024 ≤ a ∧ a ≤ 1024) (hb : -1024 ≤ b ∧ b ≤ 1024) (s : Nat) (hs : s ≤ 10) (t : Nat) (ht1 : 1 ≤ t) (ht2 : t ≤ 15) (c : Bool) (y z x : Int) (hy : -32768 ≤ y ∧ y ≤ 32768) (hz : -32768 ≤ z ∧ z ≤ 32768) (hx : -1000000 ≤ x ∧ x ≤ 1000000) : Ev (fun k => spec_sdStep.f k a b (s : Int) m ((t + 1 : Nat) : Int) c y z x) (fitI c (2 ^ t) (raw2 (2 ^ s) m a b y z x)) := by
  obtain ⟨hP, _⟩ := shift_pow s (by omega)
  have hr := raw2_bound (m := m) hP ha hb hy hz hx
  unfold spec_sdStep.f
  refine Ev.bind (spec_sdRaw.ev a b m ha hb s hs _ c y z x hy hz hx) ?_
  rw [spec_wdFit.eq t ht1 ht2 c _ (by omega) (by omega)]
  exact Ev.now _

-- spec_sdNext
theorem spec_sdNext.ev (a b m : Int) (ha : -1024 ≤ a ∧ a ≤ 1024) (hb : -1024 ≤ b ∧ b ≤ 1024) (s : Nat) (hs : s ≤ 10) (t : Nat) (ht1 : 1 ≤ t) (ht2 : t ≤ 15) (c : Bool) (y z x : Int) (hy : -32768 ≤ y ∧ y ≤ 32768) (hz : -32768 ≤ z ∧ z ≤ 32768) (hx : -1000000 ≤ x ∧ x ≤ 1000000) : Ev (fun k => spec_sdNext.f k a b (s : Int) m ((t + 1 : Nat) : Int) c y z x) (fitI c (2 ^ t) (raw2 (2 ^ s) m a b y z x), y) := by
  unfold spec_sdNext.f
  exact aid_ev_bind (spec_sdStep.ev a b m ha hb s hs t ht1 ht2 c y z x hy hz hx) rfl

-- spec_sdMeet
theorem pair_ne {M : Nat} {H : Int} {u v : Nat} (h : u ≠ v) : (!(yv M H u == yv M H v) || (!(zv M H u == zv M H v))) = true := by
  by_cases e1 : yv M H u = yv M H v
  · have e2 : ¬ zv M H u = zv M H v := fun e2 => h (yz_inj e1 e2)
    simp [e1, e2]
  · simp [e1]
theorem pair_eq {M : Nat} {H : Int} {u v : Nat} (h : u = v) : ¬ (!(yv M H u == yv M H v) || (!(zv M H u == zv M H v))) = true := by
  subst h
  simp
theorem sdm_l2 (a a2 s m b : Int) (c : Bool) (x H : Int) (M N : Nat) (T : Nat → Nat) (hT : ∀ i, i < N → T i < N) (hS : ∀ i, i < N → Ev (fun k => spec_sdNext.f k a a2 s m b c (yv M H i) (zv M H i) x) (yv M H (T i), zv M H (T i))) {i : Nat} (hi : i < N) (q p : Nat) (hq : q ≤ 50000) (hc : OnC T (itN T q i) p) : ∀ (d n : Nat), n + d = min p 20000 → 1 ≤ n → Ev (fun k => spec_sdMeet.l2 k x (q : Int) (n : Int) a a2 s m b c (yv M H i) (zv M H i) (yv M H (itN T q i)) (zv M H (itN T q i)) (yv M H (itN T (q + n) i)) (zv M H (itN T (q + n) i))) (if q + p ≤ 20000 then ((q : Int), yv M H (itN T q i), zv M H (itN T q i), (p : Int)) else (0, yv M H i, zv M H i, 0)) := by
  intro d
  induction d with
  | zero =>
    intro n hn h1
    refine aid_ev_succ ?_
    simp only [spec_sdMeet.l2]
    by_cases hp : p ≤ 20000
    · obtain rfl : n = p := by omega
      have e : itN T (q + n) i = itN T q i := by rw [itN_add, hc.ret]
      have hw : wrap64 ((q : Int) + (n : Int)) = ((q + n : Nat) : Int) := by rw [aid_wr (by omega) (by omega)]; rfl
      rw [hw]
      refine Ev.congr (fun k => if_neg (pair_eq e)) ?_
      by_cases h2 : q + n ≤ 20000
      · rw [if_pos h2]
        exact Ev.congr (fun k => if_neg (by omega)) (Ev.now _)
      · rw [if_neg h2]
        exact Ev.congr (fun k => if_pos (by omega)) (Ev.now _)
    · have hn2 : n = 20000 := by omega
      have hne := hc.first n (by omega) (by omega)
      rw [← itN_add] at hne
      have e2 : ¬ (q + p ≤ 20000) := by omega
      rw [if_neg e2, aid_next (by omega)]
      exact Ev.congr (fun k => if_pos (pair_ne hne)) (Ev.congr (fun k => if_pos (by omega)) (Ev.now _))
  | succ d ih =>
    intro n hn h1
    have h2 := ih (n + 1) (by omega) (by omega)
    have hne := hc.first n (by omega) (by omega)
    rw [← itN_add] at hne
    rw [show q + (n + 1) = (q + n) + 1 by omega, itN_succ] at h2
    refine aid_ev_succ ?_
    simp only [spec_sdMeet.l2]
    rw [aid_next (by omega)]
    exact Ev.congr (fun k => if_pos (pair_ne hne)) (Ev.congr (fun k => if_neg (by omega)) (Ev.bind (hS _ (itN_lt hT _ i hi)) h2))
theorem sdm_l1 (a a2 s m b : Int) (c : Bool) (x H : Int) (M N : Nat) (T : Nat → Nat) (hT : ∀ i, i < N → T i < N) (hS : ∀ i, i < N → Ev (fun k => spec_sdNext.f k a a2 s m b c (yv M H i) (zv M H i) x) (yv M H (T i), zv M H (T i))) {i : Nat} (hi : i < N) (n0 : Nat) (hn0 : 0 < n0) (hn1 : n0 ≤ 50000) (hmeet : itN T n0 i = itN T (n0 + n0) i) : ∀ (d q : Nat), q + d = n0 → (∀ b, b < q → itN T b i ≠ itN T (b + n0) i) → ∃ q' p, Rho T i q' p ∧ Ev (fun k => spec_sdMeet.l1 k x (q : Int) a a2 s m b c (yv M H i) (zv M H i) (yv M H (itN T q i)) (zv M H (itN T q i)) (yv M H (itN T (q + n0) i)) (zv M H (itN T (q + n0) i))) (if q' + p ≤ 20000 then ((q' : Int), yv M H (itN T q' i), zv M H (itN T q' i), (p : Int)) else (0, yv M H i, zv M H i, 0)) := by
  have stop : ∀ q, q ≤ n0 → (∀ b, b < q → itN T b i ≠ itN T (b + n0) i) → itN T q i = itN T (q + n0) i → ∃ q' p, Rho T i q' p ∧ Ev (fun k => spec_sdMeet.l1 k x (q : Int) a a2 s m b c (yv M H i) (zv M H i) (yv M H (itN T q i)) (zv M H (itN T q i)) (yv M H (itN T (q + n0) i)) (zv M H (itN T (q + n0) i))) (if q' + p ≤ 20000 then ((q' : Int), yv M H (itN T q' i), zv M H (itN T q' i), (p : Int)) else (0, yv M H i, zv M H i, 0)) := by
    intro q hq hmin he
    obtain ⟨p, hR, _⟩ := rho_of hn0 he hmin
    have h2 := sdm_l2 a a2 s m b c x H M N T hT hS hi q p (by omega) hR.cyc (min p 20000 - 1) 1 (by have := hR.cyc.pos; omega) (by omega)
    rw [itN_succ] at h2
    refine ⟨q, p, hR, ?_⟩
    refine aid_ev_succ ?_
    simp only [spec_sdMeet.l1]
    exact Ev.congr (fun k => if_neg (pair_eq he)) (Ev.bind (hS _ (itN_lt hT _ i hi)) h2)
  intro d
  induction d with
  | zero =>
    intro q hq hmin
    obtain rfl : q = n0 := by omega
    exact stop q (by omega) hmin hmeet
  | succ d ih =>
    intro q hq hmin
    by_cases he : itN T q i = itN T (q + n0) i
    · exact stop q (by omega) hmin he
    · obtain ⟨q', p, hR, h2⟩ := ih (q + 1) (by omega) (fun b hb => by
        by_cases e : b = q
        · subst e; exact he
        · exact hmin b (by omega))
      rw [show q + 1 + n0 = (q + n0) + 1 by omega, itN_succ, itN_succ] at h2
      refine ⟨q', p, hR, ?_⟩
      refine aid_ev_succ ?_
      simp only [spec_sdMeet.l1]
      rw [aid_next (by omega)]
      exact Ev.congr (fun k => if_pos (pair_ne he)) (Ev.bind (hS _ (itN_lt hT _ i hi)) (Ev.bind (hS _ (itN_lt hT _ i hi)) h2))
theorem sdm_l0 (a a2 s m b : Int) (c : Bool) (x H : Int) (M N : Nat) (T : Nat → Nat) (hT : ∀ i, i < N → T i < N) (hS : ∀ i, i < N → Ev (fun k => spec_sdNext.f k a a2 s m b c (yv M H i) (zv M H i) x) (yv M H (T i), zv M H (T i))) {i : Nat} (hi : i < N) : ∀ (d n : Nat), n + d = 40001 → 1 ≤ n → (∀ b, 0 < b → b < n → itN T b i ≠ itN T (b + b) i) → (∃ q p, Rho T i q p ∧ Ev (fun k => spec_sdMeet.l0 k x (n : Int) a a2 s m b c (yv M H i) (zv M H i) (yv M H (itN T n i)) (zv M H (itN T n i)) (yv M H (itN T (n + n) i)) (zv M H (itN T (n + n) i))) (if q + p ≤ 20000 then ((q : Int), yv M H (itN T q i), zv M H (itN T q i), (p : Int)) else (0, yv M H i, zv M H i, 0))) ∨ ((∀ b, 0 < b → b < 40001 → itN T b i ≠ itN T (b + b) i) ∧ Ev (fun k => spec_sdMeet.l0 k x (n : Int) a a2 s m b c (yv M H i) (zv M H i) (yv M H (itN T n i)) (zv M H (itN T n i)) (yv M H (itN T (n + n) i)) (zv M H (itN T (n + n) i))) (0, yv M H i, zv M H i, 0)) := by
  have stop : ∀ n, n ≤ 40001 → 1 ≤ n → itN T n i = itN T (n + n) i → ∃ q p, Rho T i q p ∧ Ev (fun k => spec_sdMeet.l0 k x (n : Int) a a2 s m b c (yv M H i) (zv M H i) (yv M H (itN T n i)) (zv M H (itN T n i)) (yv M H (itN T (n + n) i)) (zv M H (itN T (n + n) i))) (if q + p ≤ 20000 then ((q : Int), yv M H (itN T q i), zv M H (itN T q i), (p : Int)) else (0, yv M H i, zv M H i, 0)) := by
    intro n hn h1 he
    obtain ⟨q, p, hR, h2⟩ := sdm_l1 a a2 s m b c x H M N T hT hS hi n (by omega) (by omega) he n 0 (by omega) (fun b hb => by omega)
    refine ⟨q, p, hR, ?_⟩
    rw [Nat.zero_add, he] at h2
    refine aid_ev_succ ?_
    simp only [spec_sdMeet.l0]
    exact Ev.congr (fun k => if_neg (pair_eq he)) h2
  intro d
  induction d with
  | zero =>
    intro n hn h1 hmin
    obtain rfl : n = 40001 := by omega
    by_cases he : itN T 40001 i = itN T (40001 + 40001) i
    · exact .inl (stop 40001 (by omega) h1 he)
    · refine .inr ⟨hmin, ?_⟩
      refine aid_ev_succ ?_
      simp only [spec_sdMeet.l0]
      exact Ev.congr (fun k => if_pos (pair_ne he)) (Ev.congr (fun k => if_pos (by omega)) (Ev.now _))
  | succ d ih =>
    intro n hn h1 hmin
    by_cases he : itN T n i = itN T (n + n) i
    · exact .inl (stop n (by omega) h1 he)
    · have go : ∀ r : Int × Int × Int × Int, Ev (fun k => spec_sdMeet.l0 k x ((n + 1 : Nat) : Int) a a2 s m b c (yv M H i) (zv M H i) (yv M H (itN T (n + 1) i)) (zv M H (itN T (n + 1) i)) (yv M H (itN T (n + 1 + (n + 1)) i)) (zv M H (itN T (n + 1 + (n + 1)) i))) r → Ev (fun k => spec_sdMeet.l0 k x (n : Int) a a2 s m b c (yv M H i) (zv M H i) (yv M H (itN T n i)) (zv M H (itN T n i)) (yv M H (itN T (n + n) i)) (zv M H (itN T (n + n) i))) r := by
        intro r h2
        rw [show n + 1 + (n + 1) = (n + n) + 1 + 1 by omega, itN_succ, itN_succ, itN_succ] at h2
        refine aid_ev_succ ?_
        simp only [spec_sdMeet.l0]
        rw [aid_next (by omega)]
        exact Ev.congr (fun k => if_pos (pair_ne he)) (Ev.congr (fun k => if_neg (by omega)) (Ev.bind (hS _ (itN_lt hT _ i hi)) (Ev.bind (hS _ (itN_lt hT _ i hi)) (Ev.bind (hS _ (hT _ (itN_lt hT _ i hi))) h2))))
      rcases ih (n + 1) (by omega) (by omega) (fun b hb hb2 => by
        by_cases e : b = n
        · subst e; exact he
        · exact hmin b hb (by omega)) with ⟨q, p, hR, h2⟩ | ⟨h2, h3⟩
      · exact .inl ⟨q, p, hR, go _ h2⟩
      · exact .inr ⟨h2, go _ h3⟩
/-- The reference's search: found within 20000 steps, or the walk does not come again within them. -/
theorem sdm_ev (a a2 s m b : Int) (c : Bool) (x H : Int) (M N : Nat) (T : Nat → Nat) (hT : ∀ i, i < N → T i < N) (hS : ∀ i, i < N → Ev (fun k => spec_sdNext.f k a a2 s m b c (yv M H i) (zv M H i) x) (yv M H (T i), zv M H (T i))) {i : Nat} (hi : i < N) : (∃ q p, Rho T i q p ∧ q + p ≤ 20000 ∧ Ev (fun k => spec_sdMeet.f k a a2 s m b c (yv M H i) (zv M H i) x) ((q : Int), yv M H (itN T q i), zv M H (itN T q i), (p : Int))) ∨ ((∀ u v, u < v → v ≤ 20000 → itN T u i ≠ itN T v i) ∧ Ev (fun k => spec_sdMeet.f k a a2 s m b c (yv M H i) (zv M H i) x) (0, yv M H i, zv M H i, 0)) := by
  have h0 := hS i hi
  have h1 := hS (T i) (hT i hi)
  have go : ∀ r : Int × Int × Int × Int, Ev (fun k => spec_sdMeet.l0 k x ((1 : Nat) : Int) a a2 s m b c (yv M H i) (zv M H i) (yv M H (itN T 1 i)) (zv M H (itN T 1 i)) (yv M H (itN T (1 + 1) i)) (zv M H (itN T (1 + 1) i))) r → Ev (fun k => spec_sdMeet.f k a a2 s m b c (yv M H i) (zv M H i) x) r := by
    intro r hr
    unfold spec_sdMeet.f
    exact Ev.bind h0 (Ev.bind h0 (Ev.bind h1 hr))
  rcases sdm_l0 a a2 s m b c x H M N T hT hS hi 40000 1 (by omega) (by omega) (fun b hb hb2 => by omega) with ⟨q, p, hR, h2⟩ | ⟨h2, h3⟩
  · by_cases hqp : q + p ≤ 20000
    · rw [if_pos hqp] at h2
      exact .inl ⟨q, p, hR, hqp, go _ h2⟩
    · rw [if_neg hqp] at h2
      refine .inr ⟨fun u v huv hv e => ?_, go _ h2⟩
      have := nd_at hR.nd (u := u) (v := v) (by omega) (by omega) e
      omega
  · refine .inr ⟨fun u v huv hv e => ?_, go _ h3⟩
    obtain ⟨n, n1, n2, n3⟩ := meet_of huv e
    exact h2 n n1 (by omega) n3

-- spec_sdCycle
theorem w_add (a b : Nat) (h : a + b ≤ 10000000) : wrap64 ((a : Int) + (b : Int)) = ((a + b : Nat) : Int) := by rw [aid_wr (by omega) (by omega)]; rfl
theorem tmod_idx (i q p : Nat) (h : i + q ≤ 10000000) : Int.tmod (wrap64 ((i : Int) + (q : Int))) (p : Int) = (((i + q) % p : Nat) : Int) := by
  rw [w_add i q h, aid_tmod (Int.natCast_nonneg _), Int.natCast_emod]
theorem roll_rd (l : List Int) (t : Nat) : rd l ((t % l.length : Nat) : Int) = roll l t := rfl
theorem sdc_red (p : Nat) (l : List Int) (hl : l.length = p) (hp : 0 < p) (i j q : Nat) (hi : i + q + 2 ≤ 10000000) (hj : j + q + 2 ≤ 10000000) (k : Nat) : spec_sdCycle.j2 (k + 1) (p : Int) l (i : Int) (j : Int) (q : Int) true = if roll l (i + q) = roll l (j + q) then spec_sdCycle.l1 k (p : Int) l (i : Int) (j : Int) ((q + 1 : Nat) : Int) else if roll l (i + q) > roll l (j + q) then (if ((i + (q + 1) : Nat) : Int) = (j : Int) then spec_sdCycle.l1 k (p : Int) l ((i + (q + 1) : Nat) : Int) ((j + 1 : Nat) : Int) 0 else spec_sdCycle.l1 k (p : Int) l ((i + (q + 1) : Nat) : Int) (j : Int) 0) else (if (i : Int) = ((j + (q + 1) : Nat) : Int) then spec_sdCycle.l1 k (p : Int) l (i : Int) ((j + (q + 1) + 1 : Nat) : Int) 0 else spec_sdCycle.l1 k (p : Int) l (i : Int) ((j + (q + 1) : Nat) : Int) 0) := by
  subst hl
  simp only [spec_sdCycle.j2]
  have hq : q ≤ 9223372036854775806 := by omega
  have hjj : j ≤ 9223372036854775806 := by omega
  have hjq : j + (q + 1) ≤ 9223372036854775806 := by omega
  have a1 : i + q ≤ 10000000 := by omega
  have a2 : j + q ≤ 10000000 := by omega
  have a3 : i + (q + 1) ≤ 10000000 := by omega
  have a4 : j + (q + 1) ≤ 10000000 := by omega
  have hp0 : ¬ (l.length : Int) = 0 := by omega
  rw [tmod_idx i q _ a1, tmod_idx j q _ a2, aid_next hq, w_add i (q + 1) a3, w_add j (q + 1) a4, aid_next hjj, aid_next hjq, roll_rd, roll_rd, if_pos trivial, if_neg hp0, if_pos (Int.natCast_nonneg _), if_pos (Int.ofNat_lt.2 (Nat.mod_lt _ hp)), if_pos (Int.natCast_nonneg _), if_pos (Int.ofNat_lt.2 (Nat.mod_lt _ hp))]
theorem sdc_l1 (p : Nat) (l : List Int) (hl : l.length = p) (hp : 0 < p) (hp2 : p ≤ 100000) : ∀ (d i j q : Nat), 3 * p ≤ i + j + q + d → RI l i j q → i ≤ 1000000 → j ≤ 1000000 → q ≤ p → ∃ r, r < p ∧ ¬ Beaten l r ∧ Ev (fun k => spec_sdCycle.l1 k (p : Int) l (i : Int) (j : Int) (q : Int)) (rotL l r) := by
  have stop : ∀ (i j q : Nat), RI l i j q → i ≤ 1000000 → j ≤ 1000000 → ¬ (j < p ∧ i < p ∧ q < p) → ∃ r, r < p ∧ ¬ Beaten l r ∧ Ev (fun k => spec_sdCycle.l1 k (p : Int) l (i : Int) (j : Int) (q : Int)) (rotL l r) := by
    intro i j q h hi hj hs
    obtain ⟨h1, h2⟩ := h.stop (by omega) (by rw [hl]; exact hs)
    rw [hl] at h1
    refine ⟨min i j, h1, h2, ?_⟩
    have hm : spec_l1Least.f (i : Int) (j : Int) = some ((min i j : Nat) : Int) := by
      unfold spec_l1Least.f
      by_cases h : (i : Int) < (j : Int)
      · rw [if_pos h, show min i j = i by omega]
      · rw [if_neg h, show min i j = j by omega]
    have fin : Ev (fun k => spec_sdCycle.j2 k (p : Int) l (i : Int) (j : Int) (q : Int) false) (rotL l (min i j)) := by
      refine aid_ev_succ ?_
      simp only [spec_sdCycle.j2, hm, Option.bind_some, Int.toNat_natCast, List.nil_append, List.length_nil, Nat.zero_add]
      refine Ev.congr (fun k => if_neg (by decide)) (Ev.congr (fun k => if_pos (by omega)) (Ev.congr (fun k => if_pos (by omega)) (Ev.congr (fun k => if_pos (by rw [List.length_drop]; omega)) (Ev.congr (fun k => if_pos (by rw [List.length_drop, List.length_take]; omega)) (Ev.now _)))))
    refine aid_ev_succ ?_
    simp only [spec_sdCycle.l1]
    by_cases c1 : (j : Int) < (p : Int)
    · by_cases c2 : (i : Int) < (p : Int)
      · refine Ev.congr (fun k => if_pos c1) (Ev.congr (fun k => if_pos c2) ?_)
        rw [decide_eq_false (by omega)]
        exact fin
      · exact Ev.congr (fun k => if_pos c1) (Ev.congr (fun k => if_neg c2) fin)
    · exact Ev.congr (fun k => if_neg c1) fin
  intro d
  induction d with
  | zero =>
    intro i j q hd h hi hj hq
    exact stop i j q h hi hj (by omega)
  | succ d ih =>
    intro i j q hd h hi hj hq
    by_cases hs : j < p ∧ i < p ∧ q < p
    · have hk : q < l.length := by omega
      have key : ∀ {r : List Int} {g : Nat → Option (List Int)}, Ev g r → (∀ k, spec_sdCycle.j2 (k + 1) (p : Int) l (i : Int) (j : Int) (q : Int) true = g k) → Ev (fun k => spec_sdCycle.l1 k (p : Int) l (i : Int) (j : Int) (q : Int)) r := by
        intro r g hg hk
        refine aid_ev_succ ?_
        simp only [spec_sdCycle.l1]
        refine Ev.congr (fun k => if_pos (by omega)) (Ev.congr (fun k => if_pos (by omega)) ?_)
        rw [decide_eq_true (by omega : (q : Int) < (p : Int))]
        exact aid_ev_succ (Ev.congr hk hg)
      have red := fun k => sdc_red p l hl hp i j q (by omega) (by omega) k
      by_cases c1 : roll l (i + q) = roll l (j + q)
      · obtain ⟨r, g1, g2, g3⟩ := ih i j (q + 1) (by omega) (h.next c1) hi hj (by omega)
        exact ⟨r, g1, g2, key g3 (fun k => (red k).trans (if_pos c1))⟩
      · by_cases c2 : roll l (i + q) > roll l (j + q)
        · have hn := h.gt hk c2
          by_cases c3 : i + q + 1 = j
          · rw [if_pos c3] at hn
            obtain ⟨r, g1, g2, g3⟩ := ih (i + q + 1) (j + 1) 0 (by omega) hn (by omega) (by omega) (by omega)
            exact ⟨r, g1, g2, key g3 (fun k => (red k).trans ((if_neg c1).trans ((if_pos c2).trans (if_pos (by omega)))))⟩
          · rw [if_neg c3] at hn
            obtain ⟨r, g1, g2, g3⟩ := ih (i + q + 1) j 0 (by omega) hn (by omega) (by omega) (by omega)
            exact ⟨r, g1, g2, key g3 (fun k => (red k).trans ((if_neg c1).trans ((if_pos c2).trans (if_neg (by omega)))))⟩
        · have hn := h.lt hk (by omega)
          by_cases c3 : j + q + 1 = i
          · rw [if_pos c3] at hn
            obtain ⟨r, g1, g2, g3⟩ := ih i (j + q + 2) 0 (by omega) hn (by omega) (by omega) (by omega)
            exact ⟨r, g1, g2, key g3 (fun k => (red k).trans ((if_neg c1).trans ((if_neg c2).trans (if_pos (by omega)))))⟩
          · rw [if_neg c3] at hn
            obtain ⟨r, g1, g2, g3⟩ := ih i (j + q + 1) 0 (by omega) hn (by omega) (by omega) (by omega)
            exact ⟨r, g1, g2, key g3 (fun k => (red k).trans ((if_neg c1).trans ((if_neg c2).trans (if_neg (by omega)))))⟩
    · exact stop i j q h hi hj hs
theorem sdc_l0 (a a2 s m b : Int) (c : Bool) (x H : Int) (M N : Nat) (T : Nat → Nat) (hM : (M : Int) = 2 * H) (hT : ∀ i, i < N → T i < N) (hS : ∀ i, i < N → Ev (fun k => spec_sdNext.f k a a2 s m b c (yv M H i) (zv M H i) x) (yv M H (T i), zv M H (T i))) (h p : Nat) (hh : h < N) (hp2 : p ≤ 100000) (r : List Int) (hr : Ev (fun k => spec_sdCycle.l1 k (p : Int) (lapL M H T h p) 0 1 0) r) : ∀ (d n : Nat), n + d = p → Ev (fun k => spec_sdCycle.l0 k x (p : Int) (lapL M H T h n) (n : Int) a a2 s m b c (yv M H (itN T n h)) (zv M H (itN T n h))) r := by
  intro d
  induction d with
  | zero =>
    intro n hn
    obtain rfl : n = p := by omega
    refine aid_ev_succ ?_
    simp only [spec_sdCycle.l0]
    exact Ev.congr (fun k => if_neg (by omega)) hr
  | succ d ih =>
    intro n hn
    have h1 := ih (n + 1) (by omega)
    rw [itN_succ] at h1
    refine aid_ev_succ ?_
    simp only [spec_sdCycle.l0]
    rw [lapL_snoc, aid_next (by omega)]
    refine Ev.congr (fun k => if_pos (by omega)) (Ev.congr (fun k => if_pos (by rw [lapL_length]; omega)) (Ev.bind (hS _ (itN_lt hT n h hh)) h1))
theorem sdc_ev (a a2 s m b : Int) (c : Bool) (x H : Int) (M N : Nat) (T : Nat → Nat) (hM : (M : Int) = 2 * H) (hT : ∀ i, i < N → T i < N) (hS : ∀ i, i < N → Ev (fun k => spec_sdNext.f k a a2 s m b c (yv M H i) (zv M H i) x) (yv M H (T i), zv M H (T i))) (h p : Nat) (hh : h < N) (hc : OnC T h p) (hp2 : p ≤ 100000) : ∃ q : List Int, TurnOf M H T h q ∧ Ev (fun k => spec_sdCycle.f k a a2 s m b c (yv M H h) (zv M H h) x (p : Int)) q := by
  obtain ⟨r, h1, h2, h3⟩ := sdc_l1 p (lapL M H T h p) (lapL_length ..) hc.pos hp2 (3 * p) 0 1 0 (by omega) (RI.start _) (by omega) (by omega) (by omega)
  refine ⟨_, ⟨p, r, hc, h1, h2, rfl⟩, ?_⟩
  unfold spec_sdCycle.f
  exact sdc_l0 a a2 s m b c x H M N T hM hT hS h p hh hp2 _ h3 p 0 (by omega)

-- impl_in
theorem impl_in.eq (a lo hi : Int) : impl_in.f a lo hi = some (decide (lo ≤ a ∧ a ≤ hi)) := by
  unfold impl_in.f
  by_cases h : lo ≤ a <;> simp [h]

-- impl_Word_ends
theorem impl_Word_ends.eq (t : Nat) (h1 : 1 ≤ t) (h2 : t ≤ 15) (b : Bool) : impl_Word_ends.f ((t + 1 : Nat) : Int) b = some (-(2 ^ t), 2 ^ t - 1) := by
  obtain ⟨hH, hH'⟩ := word_pow t h1 h2
  unfold impl_Word_ends.f
  rw [show wrap64 (((t + 1 : Nat) : Int) - 1) = (t : Int) by rw [aid_wr (by omega) (by omega)]; omega, if_pos (by omega), wrap_shl t (by omega), aid_wr (x := -(2 ^ t)) (by omega) (by omega), aid_wr (x := 2 ^ t - 1) (by omega) (by omega)]

-- impl_Word_has
theorem impl_Word_has.eq (t : Nat) (h1 : 1 ≤ t) (h2 : t ≤ 15) (b : Bool) (x : Int) : impl_Word_has.f ((t + 1 : Nat) : Int) b x = some (decide (-(2 ^ t) ≤ x ∧ x ≤ 2 ^ t - 1)) := by
  unfold impl_Word_has.f
  rw [impl_Word_ends.eq t h1 h2]
  simp only [Option.bind_some]
  rw [impl_in.eq]
  rfl

-- impl_isFactor
theorem impl_isFactor.eq (a : Int) : impl_isFactor.f a = some (decide (-1024 ≤ a ∧ a ≤ 1024)) := by
  unfold impl_isFactor.f
  rw [impl_in.eq]
  rfl

-- impl_isScale
theorem impl_isScale.eq (s m : Int) : impl_isScale.f s m = some (decide (0 ≤ s ∧ s ≤ 10) && decide (0 ≤ m ∧ m ≤ 2)) := by
  unfold impl_isScale.f
  rw [impl_in.eq, impl_in.eq]
  cases decide (0 ≤ s ∧ s ≤ 10) <;> rfl

-- impl_isWord
theorem impl_isWord.eq (n : Int) (b : Bool) : impl_isWord.f n b = some (decide (2 ≤ n ∧ n ≤ 16)) := by
  unfold impl_isWord.f
  rw [impl_in.eq]
  rfl

-- impl_isSecond
theorem impl_isSecond.eq (a b0 s m b : Int) (c : Bool) : impl_isSecond.f a b0 s m b c = some (secondB a b0 s m b) := by
  unfold impl_isSecond.f secondB
  rw [impl_isFactor.eq, impl_isFactor.eq, impl_isScale.eq, impl_isWord.eq]
  by_cases h1 : -1024 ≤ a ∧ a ≤ 1024
  · by_cases h0 : -1024 ≤ b0 ∧ b0 ≤ 1024
    · by_cases h2 : 0 ≤ s ∧ s ≤ 10
      · by_cases h3 : 0 ≤ m ∧ m ≤ 2
        · simp [h1, h0, h2, h3]
        · simp [h1, h0, h2, h3]
      · simp [h1, h0, h2]
    · simp [h1, h0]
  · simp [h1]

-- impl_Second_isAt
theorem impl_Second_isAt.eq (a b0 s m b : Int) (c : Bool) (y z : Int) : impl_Second_isAt.f a b0 s m b c y z = some (secondB a b0 s m b && (wordInB b y && wordInB b z)) := by
  unfold impl_Second_isAt.f
  rw [impl_isSecond.eq]
  cases h : secondB a b0 s m b with
  | false => rfl
  | true =>
    have hb := ((secondB_iff a b0 s m b).1 h).2.2.2.2
    obtain ⟨t, rfl, h1, h2⟩ := word_split b hb
    unfold wordInB
    rw [impl_Word_has.eq t h1 h2, impl_Word_has.eq t h1 h2, decide_eq_true hb, hB_eq]
    by_cases hy : -(2 ^ t) ≤ y ∧ y ≤ 2 ^ t - 1
    · rw [decide_eq_true hy]
      rfl
    · rw [decide_eq_false hy]
      rfl

-- impl_shifted
theorem impl_shifted.ev (s : Nat) (hs : s ≤ 20) (x mode : Int) (hx0 : -1000000000000 ≤ x) (hx1 : x ≤ 1000000000000) : Ev (fun k => impl_shifted.f k x (s : Int) mode) (shI (2 ^ s) mode x) := by
  have hN : mode ≠ 1 ∨ s = 0 → Ev (fun k => impl_shifted.j0 k x (s : Int) mode false) (shI (2 ^ s) mode x) := by
    intro hm
    refine aid_ev_succ ?_
    simp only [impl_shifted.j0, shift_shr s hs, Bool.false_eq_true, if_false]
    have hz : s = 0 → x % 2 ^ s = 0 := fun h => by rw [h, Int.pow_zero, Int.emod_one]
    obtain ⟨hP0, hP1⟩ := shift_pow s hs
    generalize (2 : Int) ^ s = P at hP0 hP1 hz ⊢
    obtain ⟨e, r0, r1, d0, d1⟩ := shift_div x P hP0
    unfold shI
    by_cases hm2 : mode = 2
    · by_cases hx : x < 0
      · rw [if_pos hm2, if_pos hx, if_pos (by omega), aid_wr (x := -x) (by omega) (by omega)]
        obtain ⟨f, s0, s1, b0, b1⟩ := shift_div (-x) P hP0
        have hb := b0 (by omega)
        rw [aid_wr (x := -(-x / P)) (by omega) (by omega)]
        by_cases hr : x % P > 0
        · rw [if_pos (Or.inr ⟨hm2, hx, hr⟩)]
          have : -x / P = -(x / P + 1) := aid_div (by omega) (by rw [Int.mul_neg, Int.mul_add, Int.mul_one]; omega) (by rw [Int.mul_neg, Int.mul_add, Int.mul_one]; omega)
          rw [this, Int.neg_neg]
          exact Ev.now _
        · rw [if_neg (by omega)]
          have : -x / P = -(x / P) := aid_div (by omega) (by rw [Int.mul_neg]; omega) (by rw [Int.mul_neg]; omega)
          rw [this, Int.neg_neg]
          exact Ev.now _
      · rw [if_pos hm2, if_neg hx, if_pos (by omega), if_neg (by omega)]
        exact Ev.now _
    · rw [if_neg hm2, if_pos (by omega), if_neg (by omega)]
      exact Ev.now _
  unfold impl_shifted.f
  by_cases hm : mode = 1
  · refine Ev.congr (fun k => if_pos hm) ?_
    by_cases hs0 : s = 0
    · rw [decide_eq_false (by omega)]
      exact hN (.inr hs0)
    · rw [decide_eq_true (by omega)]
      refine aid_ev_succ ?_
      obtain ⟨t, rfl⟩ : ∃ t, s = t + 1 := ⟨s - 1, by omega⟩
      have et : wrap64 (((t + 1 : Nat) : Int) - 1) = (t : Int) := by
        rw [aid_wr (by omega) (by omega)]
        omega
      simp only [impl_shifted.j0, shift_shr (t + 1) hs, if_true, et, shift_shl t (by omega)]
      clear et
      have hpw : (2 : Int) ^ (t + 1) = 2 * 2 ^ t := by rw [Int.pow_succ, Int.mul_comm]
      obtain ⟨hP0, hP1⟩ := shift_pow t (by omega)
      rw [hpw]
      generalize (2 : Int) ^ t = H at hP0 hP1 ⊢
      obtain ⟨e, r0, r1, d0, d1⟩ := shift_div x (2 * H) (by omega)
      rw [if_pos (by omega), if_pos (by omega), aid_wr (x := x + H) (by omega) (by omega)]
      unfold shI
      by_cases hr : 2 * (x % (2 * H)) ≥ 2 * H
      · rw [if_pos (Or.inl ⟨hm, hr, by omega⟩)]
        have : (x + H) / (2 * H) = x / (2 * H) + 1 := aid_div (by omega) (by rw [Int.mul_add, Int.mul_one]; omega) (by rw [Int.mul_add, Int.mul_one]; omega)
        rw [this]
        exact Ev.now _
      · rw [if_neg (by omega)]
        have : (x + H) / (2 * H) = x / (2 * H) := aid_div (by omega) (by omega) (by omega)
        rw [this]
        exact Ev.now _
  · refine Ev.congr (fun k => if_neg hm) ?_
    exact hN (.inl hm)

-- impl_Second_raw
theorem impl_Second_raw.ev (a b m : Int) (ha : -1024 ≤ a ∧ a ≤ 1024) (hb : -1024 ≤ b ∧ b ≤ 1024) (s : Nat) (hs : s ≤ 10) (b1 : Int) (c : Bool) (y z x : Int) (hy : -32768 ≤ y ∧ y ≤ 32768) (hz : -32768 ≤ z ∧ z ≤ 32768) (hx : -1000000 ≤ x ∧ x ≤ 1000000) : Ev (fun k => impl_Second_raw.f k a b (s : Int) m b1 c y z x) (raw2 (2 ^ s) m a b y z x) := by
  obtain ⟨hP, _⟩ := shift_pow s (by omega)
  have h1 := mul_bound ha hy
  have h3 := mul_bound hb hz
  have h2 := shI_small (B := 67108864) (m := m) (x := a * y + b * z) hP (by omega) (by omega)
  unfold impl_Second_raw.f
  rw [aid_wr (x := a * y) (by omega) (by omega), aid_wr (x := b * z) (by omega) (by omega), aid_wr (x := a * y + b * z) (by omega) (by omega)]
  refine Ev.bind (impl_shifted.ev s (by omega) (a * y + b * z) m (by omega) (by omega)) ?_
  rw [aid_wr (x := shI (2 ^ s) m (a * y + b * z) + x) (by omega) (by omega)]
  exact Ev.now _

-- impl_mod
theorem impl_mod.eq (a M : Int) (hM : 0 < M) (hM' : M ≤ 4611686018427387904) : impl_mod.f a M = some (a % M) := by
  obtain ⟨b0, b1⟩ := wrap_tmod_bound a M hM
  unfold impl_mod.f
  rw [if_neg (by omega), aid_wr (x := Int.tmod a M + M) (by omega) (by omega), aid_tmod (by omega), wrap_tmod]

-- impl_Word_fit
theorem impl_Word_fit.eq (t : Nat) (h1 : 1 ≤ t) (h2 : t ≤ 15) (b : Bool) (x : Int) (hx0 : -4611686018427387904 ≤ x) (hx1 : x ≤ 4611686018427387904) : impl_Word_fit.f ((t + 1 : Nat) : Int) b x = some (fitI b (2 ^ t) x) := by
  unfold impl_Word_fit.f
  rw [impl_Word_ends.eq t h1 h2]
  obtain ⟨hH, hH'⟩ := word_pow t h1 h2
  generalize (2 : Int) ^ t = H at hH hH' ⊢
  simp only [Option.bind_some]
  unfold fitI
  by_cases hb : b = true
  · rw [if_pos hb, if_pos hb, aid_wr (x := x - -H) (by omega) (by omega), aid_wr (x := H - 1 - -H) (by omega) (by omega), aid_wr (x := H - 1 - -H + 1) (by omega) (by omega), impl_mod.eq _ _ (by omega) (by omega)]
    simp only [Option.bind_some]
    rw [show x - -H = x + H by omega, show H - 1 - -H + 1 = 2 * H by omega]
    have r0 := Int.emod_nonneg (x + H) (show 2 * H ≠ 0 by omega)
    have r1 := Int.emod_lt_of_pos (x + H) (show 0 < 2 * H by omega)
    rw [aid_wr (x := (x + H) % (2 * H) + -H) (by omega) (by omega)]
    rfl
  · rw [if_neg hb, if_neg hb]
    congr 1
    unfold mn mx
    split <;> split <;> omega

-- impl_Second_step
theorem impl_Second_step.ev (a b m : Int) (ha : -1024 ≤ a ∧ a ≤ 1024) (hb : -1024 ≤ b ∧ b ≤ 1024) (s : Nat) (hs : s ≤ 10) (t : Nat) (ht1 : 1 ≤ t) (ht2 : t ≤ 15) (c : Bool) (y z x : Int) (hy : -32768 ≤ y ∧ y ≤ 32768) (hz : -32768 ≤ z ∧ z ≤ 32768) (hx : -1000000 ≤ x ∧ x ≤ 1000000) : Ev (fun k => impl_Second_step.f k a b (s : Int) m ((t + 1 : Nat) : Int) c y z x) (fitI c (2 ^ t) (raw2 (2 ^ s) m a b y z x), y) := by
  obtain ⟨hP, _⟩ := shift_pow s (by omega)
  have hr := raw2_bound (m := m) hP ha hb hy hz hx
  unfold impl_Second_step.f
  refine Ev.bind (impl_Second_raw.ev a b m ha hb s hs _ c y z x hy hz hx) ?_
  rw [impl_Word_fit.eq t ht1 ht2 c _ (by omega) (by omega)]
  exact Ev.now _

-- impl_Second_history
def pv (M : Nat) (H : Int) (i : Nat) : Int × Int := (yv M H i, zv M H i)
theorem pv_inj {M : Nat} {H : Int} {i j : Nat} (h : pv M H i = pv M H j) : i = j := by
  injection h with h1 h2
  exact yz_inj h1 h2
theorem pv_mem {M : Nat} {H : Int} {i : Nat} {l : List Nat} : (yv M H i, zv M H i) ∈ l.map (pv M H) ↔ i ∈ l := by
  rw [List.mem_map]
  constructor
  · rintro ⟨j, h1, h2⟩
    exact pv_inj h2 ▸ h1
  · intro h
    exact ⟨i, h, rfl⟩
theorem pv_idx {M : Nat} {H : Int} (i : Nat) : ∀ l : List Nat, (l.map (pv M H)).idxOf (yv M H i, zv M H i) = l.idxOf i
  | [] => rfl
  | x :: l => by
    rw [List.map_cons, List.idxOf_cons, List.idxOf_cons]
    by_cases e : x = i
    · subst e
      have h1 : (pv M H x == (yv M H x, zv M H x)) = true := beq_self_eq_true (pv M H x)
      rw [h1, beq_self_eq_true]
      rfl
    · have h1 : (pv M H x == (yv M H i, zv M H i)) = false := beq_eq_false_iff_ne.2 (fun h => e (pv_inj (j := i) h))
      have h2 : (x == i) = false := beq_eq_false_iff_ne.2 e
      rw [h1, h2, pv_idx i l]
theorem pv_gd2 {M : Nat} {H : Int} (hM : (M : Int) = 2 * H) (hM2 : M ≤ 65536) {i : Nat} (hi : i < M * M) : pm.gd (yv M H i, zv M H i) = true := by
  have hb := yz_bound hM hi
  have hmin : IntKind.i64.min = -9223372036854775808 := rfl
  have hmax : IntKind.i64.max = 9223372036854775807 := rfl
  unfold pm.gd
  simp only [Lit.wf, Bool.and_eq_true, decide_eq_true_eq, hmin, hmax]
  omega
theorem his_go (a a2 s m b : Int) (c : Bool) (x H : Int) (M N : Nat) (T : Nat → Nat) (hM : (M : Int) = 2 * H) (hM2 : M ≤ 65536) (hN : N = M * M) (hT : ∀ i, i < N → T i < N) (hS : ∀ i, i < N → Ev (fun k => impl_Second_step.f k a a2 s m b c (yv M H i) (zv M H i) x) (yv M H (T i), zv M H (T i))) {i : Nat} (hi : i < N) : ∀ (d n : Nat), n + d = 20001 → (cycL T i n).Nodup → (∃ v u, v ≤ 20000 ∧ u < v ∧ itN T u i = itN T v i ∧ (cycL T i v).Nodup ∧ Ev (fun k => impl_Second_history.go k a a2 s m b c x ((cycL T i n).map (pv M H)) (yv M H (itN T n i)) (zv M H (itN T n i))) ((cycL T i v).map (pv M H), (u : Int), true)) ∨ ((cycL T i 20001).Nodup ∧ Ev (fun k => impl_Second_history.go k a a2 s m b c x ((cycL T i n).map (pv M H)) (yv M H (itN T n i)) (zv M H (itN T n i))) ([], 0, false)) := by
  intro d
  induction d with
  | zero =>
    intro n hn hnd
    obtain rfl : n = 20001 := by omega
    refine .inr ⟨hnd, ?_⟩
    have hl : ¬ ((((cycL T i 20001).map (pv M H)).length : Int) ≤ 20000) := by rw [List.length_map, cycL_length]; omega
    refine aid_ev_succ ?_
    simp only [impl_Second_history.go]
    exact Ev.congr (fun k => if_neg hl) (Ev.now _)
  | succ d ih =>
    intro n hn hnd
    have hlt := itN_lt hT n i hi
    have hl : (((cycL T i n).map (pv M H)).length : Int) ≤ 20000 := by rw [List.length_map, cycL_length]; omega
    have hgd := pv_gd2 hM hM2 (hN ▸ hlt)
    by_cases hm : itN T n i ∈ cycL T i n
    · have hidx := List.idxOf_lt_length_of_mem hm
      have hge := List.getElem_idxOf hidx
      rw [cycL_get] at hge
      rw [cycL_length] at hidx
      refine .inl ⟨n, (cycL T i n).idxOf (itN T n i), by omega, hidx, hge, hnd, ?_⟩
      refine aid_ev_succ ?_
      simp only [impl_Second_history.go]
      rw [pv_idx]
      exact Ev.congr (fun k => if_pos hl) (Ev.congr (fun k => if_pos hgd) (Ev.congr (fun k => if_pos (pv_mem.2 hm)) (Ev.now _)))
    · have hnd2 : (cycL T i (n + 1)).Nodup := by
        rw [cycL_succ, List.nodup_append]
        exact ⟨hnd, by simp, fun a ha b hb => by rw [List.mem_singleton.1 hb]; rintro rfl; exact hm ha⟩
      have e1 : (cycL T i n).map (pv M H) ++ [(yv M H (itN T n i), zv M H (itN T n i))] = (cycL T i (n + 1)).map (pv M H) := by
        rw [cycL_succ, List.map_append]
        rfl
      have go : ∀ r : List (Int × Int) × Int × Bool, Ev (fun k => impl_Second_history.go k a a2 s m b c x ((cycL T i (n + 1)).map (pv M H)) (yv M H (itN T (n + 1) i)) (zv M H (itN T (n + 1) i))) r → Ev (fun k => impl_Second_history.go k a a2 s m b c x ((cycL T i n).map (pv M H)) (yv M H (itN T n i)) (zv M H (itN T n i))) r := by
        intro r h2
        rw [itN_succ] at h2
        refine aid_ev_succ ?_
        simp only [impl_Second_history.go]
        rw [e1]
        exact Ev.congr (fun k => if_pos hl) (Ev.congr (fun k => if_pos hgd) (Ev.congr (fun k => if_neg (fun h => hm (pv_mem.1 h))) (Ev.bind (hS _ hlt) h2)))
      rcases ih (n + 1) (by omega) hnd2 with ⟨v, u, h1, h2, h3, h4, h5⟩ | ⟨h1, h2⟩
      · exact .inl ⟨v, u, h1, h2, h3, h4, go _ h5⟩
      · exact .inr ⟨h1, go _ h2⟩

-- slices_Compare_int_int
theorem cmp_int (a b : Int) : cmp_Compare_int.f a b = some (if a < b then -1 else if b < a then 1 else 0) := by
  unfold cmp_Compare_int.f cmp_isNaN_int.f
  simp only [bne_self_eq_false, Option.bind_some, Bool.false_eq_true, if_false, gt_iff_lt]
  by_cases h1 : a < b
  · rw [if_pos h1, if_pos h1]
  · rw [if_neg h1, if_neg h1]
    by_cases h2 : b < a
    · rw [if_pos h2, if_pos h2]
    · rw [if_neg h2, if_neg h2]
theorem slices_Compare_int_int.l0_ev (a b : List Int) (ha : a.length ≤ 1000000) : ∀ (d i : Nat), i + d = a.length → i ≤ b.length → Ev (fun k => slices_Compare_int_int.l0 k a b a (a.length : Int) (i : Int)) (cmpL (a.drop i) (b.drop i)) := by
  intro d
  induction d with
  | zero =>
    intro i hi hb
    rw [List.drop_eq_nil_of_le (show a.length ≤ i by omega)]
    refine aid_ev_succ ?_
    simp only [slices_Compare_int_int.l0]
    refine Ev.congr (fun k => if_neg (by omega)) ?_
    by_cases h : i < b.length
    · rw [List.drop_eq_getElem_cons h, cmpL]
      exact Ev.congr (fun k => if_pos (by omega)) (Ev.now _)
    · rw [List.drop_eq_nil_of_le (show b.length ≤ i by omega), cmpL]
      exact Ev.congr (fun k => if_neg (by omega)) (Ev.now _)
  | succ d ih =>
    intro i hi hb
    rw [List.drop_eq_getElem_cons (show i < a.length by omega)]
    refine aid_ev_succ ?_
    simp only [slices_Compare_int_int.l0]
    refine Ev.congr (fun k => if_pos (by omega)) (Ev.congr (fun k => if_pos (by omega)) (Ev.congr (fun k => if_pos (by omega)) ?_))
    by_cases h : i < b.length
    · have h2 := ih (i + 1) (by omega) (by omega)
      rw [List.drop_eq_getElem_cons h, cmpL]
      refine Ev.congr (fun k => if_neg (by omega)) (Ev.congr (fun k => if_pos (by omega)) ?_)
      rw [aid_rd a i (by omega), aid_rd b i h, cmp_int, aid_next (by omega)]
      by_cases h3 : a[i] < b[i]
      · rw [if_pos h3, if_pos h3]
        exact Ev.now _
      · rw [if_neg h3, if_neg h3]
        by_cases h4 : b[i] < a[i]
        · rw [if_pos h4, if_pos h4]
          exact Ev.now _
        · rw [if_neg h4, if_neg h4]
          exact h2
    · rw [List.drop_eq_nil_of_le (show b.length ≤ i by omega), cmpL]
      exact Ev.congr (fun k => if_pos (by omega)) (Ev.now _)
theorem slices_Compare_int_int.ev (a b : List Int) (ha : a.length ≤ 1000000) : Ev (fun k => slices_Compare_int_int.f k a b) (cmpL a b) := by
  have h := slices_Compare_int_int.l0_ev a b ha a.length 0 (by omega) (by omega)
  rw [List.drop_zero, List.drop_zero] at h
  exact h

-- impl_turnedFirst
theorem tf_go (l : List Int) (hl : l.length ≤ 100000) (hp : 0 < l.length) : ∀ (d i q : Nat), i + d = l.length → q < l.length → (∀ s, s < i → 0 ≤ cmpL (rotL l s) (rotL l q)) → ∃ r, r < l.length ∧ ¬ Beaten l r ∧ Ev (fun k => impl_turnedFirst.go k l (rotL l q) i) (rotL l r) := by
  intro d
  induction d with
  | zero =>
    intro i q hi hq hmin
    refine ⟨q, hq, fun ⟨s, hs, hc⟩ => by have := hmin s (by omega); omega, ?_⟩
    refine aid_ev_succ ?_
    simp only [impl_turnedFirst.go]
    exact Ev.congr (fun k => if_neg (by omega)) (Ev.now _)
  | succ d ih =>
    intro i q hi hq hmin
    have hi' : i < l.length := by omega
    have hcat : slices_Concat_int_int.f [l.drop i, l.take i] = some (rotL l i) := by
      unfold slices_Concat_int_int.f
      rw [if_pos (by simp only [slices_Concat_int_int.tot, List.length_drop, List.length_take, List.length_cons, List.length_nil]; omega)]
      simp [rotL]
    have hcmp := slices_Compare_int_int.ev (rotL l i) (rotL l q) (by rw [rotL_length _ _ (by omega)]; omega)
    have go : ∀ (q' : Nat) (r : List Int), (if cmpL (rotL l i) (rotL l q) < 0 then i else q) = q' → Ev (fun k => impl_turnedFirst.go k l (rotL l q') (i + 1)) r → Ev (fun k => impl_turnedFirst.go k l (rotL l q) i) r := by
      intro q' r hq' hr
      refine aid_ev_succ ?_
      simp only [impl_turnedFirst.go]
      refine Ev.congr (fun k => if_pos hi') ?_
      rw [hcat]
      simp only [Option.bind_some]
      refine Ev.bind hcmp ?_
      by_cases hc : cmpL (rotL l i) (rotL l q) < 0
      · rw [if_pos hc] at hq'
        subst hq'
        exact Ev.congr (fun k => if_pos hc) hr
      · rw [if_neg hc] at hq'
        subst hq'
        exact Ev.congr (fun k => if_neg hc) hr
    by_cases hc : cmpL (rotL l i) (rotL l q) < 0
    · obtain ⟨r, r1, r2, r3⟩ := ih (i + 1) i (by omega) hi' (fun s hs => by
        by_cases e : s = i
        · rw [e, cmpL_self]; decide
        · have h1 := hmin s (by omega)
          have h2 := cmpL_swap (rotL l s) (rotL l i)
          have h3 := cmpL_swap (rotL l s) (rotL l q)
          have h4 := cmpL_trans (rotL l q) (rotL l s) (rotL l i) (by omega)
          have h6 := cmpL_swap (rotL l i) (rotL l q)
          by_cases h5 : cmpL (rotL l s) (rotL l i) ≤ 0
          · have := h4 h5
            omega
          · omega)
      exact ⟨r, r1, r2, go i _ (if_pos hc) r3⟩
    · obtain ⟨r, r1, r2, r3⟩ := ih (i + 1) q (by omega) hq (fun s hs => by
        by_cases e : s = i
        · rw [e]; omega
        · exact hmin s (by omega))
      exact ⟨r, r1, r2, go q _ (if_neg hc) r3⟩
theorem tf_ev (l0 : List (Int × Int)) (hl : l0.length ≤ 100000) (hp : 0 < l0.length) : ∃ r, r < (l0.map Prod.fst).length ∧ ¬ Beaten (l0.map Prod.fst) r ∧ Ev (fun k => impl_turnedFirst.f k l0) (rotL (l0.map Prod.fst) r) := by
  obtain ⟨r, r1, r2, r3⟩ := tf_go (l0.map Prod.fst) (by rw [List.length_map]; exact hl) (by rw [List.length_map]; exact hp) (l0.map Prod.fst).length 0 0 (by omega) (by rw [List.length_map]; exact hp) (fun s hs => by omega)
  refine ⟨r, r1, r2, ?_⟩
  have e0 : rotL (l0.map Prod.fst) 0 = l0.map Prod.fst := by simp [rotL]
  rw [e0] at r3
  unfold impl_turnedFirst.f
  refine Ev.congr (fun k => if_pos hl) (Ev.bind r3 ?_)
  unfold slices_Clone_int_int.f
  have hlen : (rotL (l0.map Prod.fst) r).length ≤ 100000 := by rw [rotL_length _ _ (by omega), List.length_map]; exact hl
  exact Ev.congr (fun k => if_pos hlen) (Ev.now _)

theorem cop_main (a b0 : Int) (n : Nat) (m : Int) (t : Nat) (ha : -1024 ≤ a ∧ a ≤ 1024) (hb0 : -1024 ≤ b0 ∧ b0 ≤ 1024) (hn : n ≤ 10) (ht1 : 1 ≤ t) (ht2 : t ≤ 15) (c : Bool) (y z x : Int) (hy : -(2 ^ t) ≤ y ∧ y ≤ 2 ^ t - 1) (hz : -(2 ^ t) ≤ z ∧ z ≤ 2 ^ t - 1) (hx : -100000 ≤ x ∧ x ≤ 100000) : (∃ (L : List (Int × Int)) (q p : Nat) (u v : Int) (w : List Int), 0 < p ∧ q + p ≤ 20000 ∧ L.length = q + p ∧ w.length = p ∧ Ev (fun k => spec_sdMeet.f k a b0 (n : Int) m ((t + 1 : Nat) : Int) c y z x) ((q : Int), u, v, (p : Int)) ∧ Ev (fun k => spec_sdCycle.f k a b0 (n : Int) m ((t + 1 : Nat) : Int) c u v x (p : Int)) w ∧ Ev (fun k => impl_Second_history.f k a b0 (n : Int) m ((t + 1 : Nat) : Int) c y z x) (L, (q : Int), true) ∧ Ev (fun k => impl_turnedFirst.f k (L.drop q)) w) ∨ (∃ u v : Int, Ev (fun k => spec_sdMeet.f k a b0 (n : Int) m ((t + 1 : Nat) : Int) c y z x) (0, u, v, 0) ∧ Ev (fun k => impl_Second_history.f k a b0 (n : Int) m ((t + 1 : Nat) : Int) c y z x) ([], 0, false)) := by
  obtain ⟨hH, hH'⟩ := word_pow t ht1 ht2
  obtain ⟨M, hM⟩ : ∃ M : Nat, (M : Int) = 2 * 2 ^ t := ⟨(2 * 2 ^ t : Int).toNat, by omega⟩
  have hpT := fun i (hi : i < M * M) => pT_yz (show 1 ≤ (2 : Int) ^ t by omega) c (2 ^ n) m a b0 x hM hi
  have hT : ∀ i, i < M * M → pT c (2 ^ t) (2 ^ n) m a b0 x M i < M * M := fun i hi => (hpT i hi).1
  have hSs : ∀ i, i < M * M → Ev (fun k => spec_sdNext.f k a b0 (n : Int) m ((t + 1 : Nat) : Int) c (yv M (2 ^ t) i) (zv M (2 ^ t) i) x) (yv M (2 ^ t) (pT c (2 ^ t) (2 ^ n) m a b0 x M i), zv M (2 ^ t) (pT c (2 ^ t) (2 ^ n) m a b0 x M i)) := fun i hi => by
    obtain ⟨_, h1, h2⟩ := hpT i hi
    have hb := yz_bound hM hi
    rw [h1, h2]
    exact spec_sdNext.ev a b0 m ha hb0 n hn t ht1 ht2 c _ _ x (by omega) (by omega) (by omega)
  have hSi : ∀ i, i < M * M → Ev (fun k => impl_Second_step.f k a b0 (n : Int) m ((t + 1 : Nat) : Int) c (yv M (2 ^ t) i) (zv M (2 ^ t) i) x) (yv M (2 ^ t) (pT c (2 ^ t) (2 ^ n) m a b0 x M i), zv M (2 ^ t) (pT c (2 ^ t) (2 ^ n) m a b0 x M i)) := fun i hi => by
    obtain ⟨_, h1, h2⟩ := hpT i hi
    have hb := yz_bound hM hi
    rw [h1, h2]
    exact impl_Second_step.ev a b0 m ha hb0 n hn t ht1 ht2 c _ _ x (by omega) (by omega) (by omega)
  generalize pT c (2 ^ t) (2 ^ n) m a b0 x M = T at *
  generalize (2 : Int) ^ t = H at *
  obtain ⟨Y, hY⟩ : ∃ Y : Nat, (Y : Int) = y + H := ⟨(y + H).toNat, by omega⟩
  obtain ⟨Z, hZ⟩ : ∃ Z : Nat, (Z : Int) = z + H := ⟨(z + H).toNat, by omega⟩
  have hM0 : 0 < M := by omega
  have hYM : Y < M := by omega
  have hZM : Z < M := by omega
  have hi : Y * M + Z < M * M := by
    have h1 : Y * M + Z < (Y + 1) * M := by rw [Nat.add_mul, Nat.one_mul]; omega
    exact Nat.lt_of_lt_of_le h1 (Nat.mul_le_mul_right M hYM)
  have ey : yv M H (Y * M + Z) = y := by
    unfold yv
    rw [Nat.mul_comm, Nat.mul_add_div hM0, Nat.div_eq_of_lt hZM, Nat.add_zero]
    omega
  have ez : zv M H (Y * M + Z) = z := by
    unfold zv
    rw [Nat.mul_comm, Nat.mul_add_mod, Nat.mod_eq_of_lt hZM]
    omega
  have hM2 : M ≤ 65536 := by omega
  generalize Y * M + Z = i at *
  have h1 := sdm_ev a b0 (n : Int) m ((t + 1 : Nat) : Int) c x H M (M * M) T hT hSs hi
  have h2 := his_go a b0 (n : Int) m ((t + 1 : Nat) : Int) c x H M (M * M) T hM hM2 rfl hT hSi hi 20001 0 (by omega) (by simp [cycL])
  have e0 : cycL T i 0 = [] := rfl
  have e1 : itN T 0 i = i := rfl
  rw [e0, e1, List.map_nil, ey, ez] at h2
  rw [ey, ez] at h1
  rcases h1 with ⟨q, p, hR, hqp, h1⟩ | ⟨hno, h1⟩
  · rcases h2 with ⟨v, u, hv, huv, he, hnd, h2⟩ | ⟨hnd, h2⟩
    · have hret : itN T (q + p) i = itN T q i := by rw [itN_add, hR.cyc.ret]
      have hvp : v = q + p := by
        rcases Nat.lt_trichotomy v (q + p) with h | h | h
        · have := nd_at hR.nd (u := u) (v := v) (by omega) h he
          omega
        · exact h
        · have := nd_at hnd (u := q + p) (v := q) h (by omega) hret
          have := hR.cyc.pos
          omega
      subst hvp
      have huq : u = q := nd_at hR.nd huv (by have := hR.cyc.pos; omega) (he.trans hret)
      subst huq
      obtain ⟨w, w1, w2⟩ := sdc_ev a b0 (n : Int) m ((t + 1 : Nat) : Int) c x H M (M * M) T hM hT hSs (itN T u i) p (itN_lt hT _ _ hi) hR.cyc (by omega)
      have hdr : ((cycL T i (u + p)).map (pv M H)).drop u = (cycL T (itN T u i) p).map (pv M H) := by
        rw [← List.map_drop]
        congr 1
        apply List.ext_getElem
        · simp [cycL_length]
        · intro j j1 j2
          rw [List.getElem_drop, cycL_get, cycL_get, itN_add]
      have hfst : ((cycL T (itN T u i) p).map (pv M H)).map Prod.fst = lapL M H T (itN T u i) p := by
        rw [List.map_map]
        rfl
      obtain ⟨r, r1, r2, r3⟩ := tf_ev ((cycL T (itN T u i) p).map (pv M H)) (by rw [List.length_map, cycL_length]; omega) (by rw [List.length_map, cycL_length]; exact hR.cyc.pos)
      rw [hfst] at r1 r2 r3
      obtain ⟨p', r', g1, g2, g3, g4⟩ := w1
      have e2 := g1.uniq hR.cyc
      subst e2
      have e3 := least_uniq _ r r' r1 (by rw [lapL_length]; exact g2) r2 g3
      rw [e3, ← g4] at r3
      refine .inl ⟨(cycL T i (u + p')).map (pv M H), u, p', _, _, w, hR.cyc.pos, hqp, by rw [List.length_map, cycL_length], ?_, h1, w2, h2, by rw [hdr]; exact r3⟩
      rw [g4, rotL_length _ _ (by rw [lapL_length]; omega), lapL_length]
    · have := nd_at hnd (u := q + p) (v := q) (by omega) (by omega) (by rw [itN_add, hR.cyc.ret])
      have := hR.cyc.pos
      omega
  · rcases h2 with ⟨v, u, hv, huv, he, hnd, h2⟩ | ⟨hnd, h2⟩
    · exact (hno u v huv hv he).elim
    · exact .inr ⟨_, _, h1, h2⟩
theorem cop_both (a b0 s m b : Int) (c : Bool) (y z x : Int) : ∃ (w : List Int) (q : Bool), Ev (fun k => spec_CycleOfPair.f k a b0 s m b c y z x) (w, q) ∧ Ev (fun k => impl_CycleOfPair.f k a b0 s m b c y z x) (w, q) ∧ w.length ≤ 20000 := by
  have hS : impl_isSample.f x = some (decide (-100000 ≤ x ∧ x ≤ 100000)) := by
    unfold impl_isSample.f
    rw [impl_in.eq]
    rfl
  have hiN : Ev (fun k => impl_CycleOfPair.j0 k y z x true a b0 s m b c) (([] : List Int), false) := by
    refine aid_ev_succ ?_
    simp only [impl_CycleOfPair.j0]
    exact Ev.now _
  have key : ∀ A B C D : Bool, (A && (B && (C && D))) = ((A && (B && C)) && D) := by decide
  unfold spec_CycleOfPair.f impl_CycleOfPair.f
  rw [spec_sdAsked.eq, impl_Second_isAt.eq, hS]
  cases hg : secondB a b0 s m b && (wordInB b y && wordInB b z) with
  | false =>
    have e : (secondB a b0 s m b && (wordInB b y && (wordInB b z && decide (-100000 ≤ x ∧ x ≤ 100000)))) = false := by rw [key, hg, Bool.false_and]
    rw [e]
    exact ⟨[], false, Ev.now _, hiN, by simp⟩
  | true =>
    have e : (secondB a b0 s m b && (wordInB b y && (wordInB b z && decide (-100000 ≤ x ∧ x ≤ 100000)))) = decide (-100000 ≤ x ∧ x ≤ 100000) := by rw [key, hg, Bool.true_and]
    rw [e]
    by_cases hx : -100000 ≤ x ∧ x ≤ 100000
    · rw [decide_eq_true hx]
      rw [Bool.and_eq_true, Bool.and_eq_true] at hg
      obtain ⟨ha, hb0, hs, hm, hb⟩ := (secondB_iff a b0 s m b).1 hg.1
      obtain ⟨n, rfl, hn⟩ := first_shift s hs
      obtain ⟨t, rfl, ht1, ht2⟩ := word_split b hb
      have hyz := hg.2
      unfold wordInB at hyz
      simp only [hB_eq, Bool.and_eq_true, decide_eq_true_eq] at hyz
      have hy : -(2 ^ t) ≤ y ∧ y ≤ 2 ^ t - 1 := by omega
      have hz : -(2 ^ t) ≤ z ∧ z ≤ 2 ^ t - 1 := by omega
      have go : ∀ r : List Int × Bool, Ev (fun k => impl_CycleOfPair.j0 (k + 1) y z x false a b0 (n : Int) m ((t + 1 : Nat) : Int) c) r → Ev (fun k => impl_CycleOfPair.j0 k y z x (!true) a b0 (n : Int) m ((t + 1 : Nat) : Int) c) r := fun r h => aid_ev_succ h
      rcases cop_main a b0 n m t ha hb0 hn ht1 ht2 c y z x hy hz hx with ⟨L, q, p, u, v, w, hp, hqp, hL, hw, h1, h2, h3, h4⟩ | ⟨u, v, h1, h3⟩
      · refine ⟨w, true, ?_, ?_, by omega⟩
        · simp only [Option.bind_some, if_true]
          refine Ev.bind h1 ?_
          exact Ev.congr (fun k => if_neg (by show ¬ (p : Int) = 0; omega)) (aid_ev_bind h2 rfl)
        · simp only [Option.bind_some, if_true]
          refine go _ ?_
          simp only [impl_CycleOfPair.j0]
          refine Ev.congr (fun k => if_neg (by decide)) (Ev.bind h3 ?_)
          refine Ev.congr (fun k => if_pos rfl) (Ev.congr (fun k => if_pos (by show (0 : Int) ≤ (q : Int); omega)) (Ev.congr (fun k => if_pos (by show (q : Int) ≤ (L.length : Int); omega)) ?_))
          exact aid_ev_bind h4 rfl
      · refine ⟨[], false, ?_, ?_, by simp⟩
        · simp only [Option.bind_some, if_true]
          refine Ev.bind h1 ?_
          exact Ev.congr (fun k => if_pos rfl) (Ev.now _)
        · simp only [Option.bind_some, if_true]
          refine go _ ?_
          simp only [impl_CycleOfPair.j0]
          refine Ev.congr (fun k => if_neg (by decide)) (Ev.bind h3 ?_)
          exact Ev.congr (fun k => if_neg (by decide)) (Ev.now _)
    · rw [decide_eq_false hx]
      exact ⟨[], false, Ev.now _, hiN, by simp⟩
theorem FnExactCycleOfPair : laws_FnExactCycleOfPair.Pure := by
  intro a b1 s m b0 c y z x _ _ _ _ _ _ _ _
  refine Ev.rounds ?_
  unfold laws_FnExactCycleOfPair.f
  have hF : laws_toSecond.f a b1 s m b0 c = some (a, b1, s, m, b0, c) := rfl
  simp only [hF, Option.bind_some]
  have hFe : Ev (fun _ => laws_toSecond.f a b1 s m b0 c) (a, b1, s, m, b0, c) := aid_ev_const hF
  obtain ⟨w, b, hs, hi, hw⟩ := cop_both a b1 s m b0 c y z x
  obtain ⟨l, hl0⟩ : ∃ l : List Int, l.length = 0 := ⟨[], rfl⟩
  try dsimp only at hw
  have hE := laws_eqIntS.refl w (by omega)
  have hEl := laws_eqIntS.refl l (by omega)
  have hM := laws_markIntS.ev w 1 (by omega) (by omega) (by omega)
  have hMl := laws_markIntS.ev l 1 (by omega) (by omega) (by omega)
  have hH := laws_heldIntS.ev w.length 1 (by omega) (by omega) (by omega)
  have hNb : ¬ ((b != b) = true) := by cases b <;> decide
  have hN1 : ¬ (1 + (w.length : Int) < 0) := by omega
  have hN2 : ¬ (1 + (l.length : Int) < 0) := by omega
  repeat (first
    | exact Ev.now _
    | ((with_reducible refine Ev.bind hT ?_); try dsimp only)
    | ((with_reducible refine Ev.bind hs ?_); try dsimp only)
    | ((with_reducible refine Ev.bind hi ?_); try dsimp only)
    | ((with_reducible refine Ev.bind hE ?_); try dsimp only)
    | ((with_reducible refine Ev.bind hEl ?_); try dsimp only)
    | ((with_reducible refine Ev.bind hM ?_); try dsimp only)
    | ((with_reducible refine Ev.bind hMl ?_); try dsimp only)
    | ((with_reducible refine Ev.bind hH ?_); try dsimp only)
    | ((with_reducible refine Ev.bind hFe ?_); try dsimp only)
    | (with_reducible refine Ev.congr (fun k => if_pos rfl) ?_)
    | (with_reducible refine Ev.congr (fun k => if_neg hNb) ?_)
    | (with_reducible refine Ev.congr (fun k => if_neg hN1) ?_)
    | (with_reducible refine Ev.congr (fun k => if_neg hN2) ?_)
    | (refine aid_ev_succ ?_; simp only [laws_FnExactCycleOfPair.j0, laws_FnExactCycleOfPair.j1]; try dsimp only))

end Go.Proofs.Ytjknlfgphlopnaa.Pure
