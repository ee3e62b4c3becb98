/- Proves that the program's DeadBand returns what the reference's returns, for all arguments. Conditions: none. -/
import Derived.Test.YtjknlfgphlopnaaPFnExactDeadBandx5
namespace Go.Proofs.Ytjknlfgphlopnaa.Pure
open Go.RowKit Go.Proofs.Ytjknlfgphlopnaa.PFnExactDeadBand Go.Proofs.YtjknlfgphlopnaaW.PrintWords Go.Proofs.YtjknlfgphlopnaaW.PrintLast
set_option linter.unusedSimpArgs false
set_option linter.unusedVariables false

-- Aid
theorem aid_wr {x : Int} (h0 : -9223372036854775808 ≤ x) (h1 : x ≤ 9223372036854775807) : wrap64 x = x := by unfold wrap64; omega
theorem aid_wf {x : Int} (h : (Lit.int .i64 x).wf = true) : -9223372036854775808 ≤ x ∧ x ≤ 9223372036854775807 := by
  have hmin : IntKind.i64.min = -9223372036854775808 := rfl
  have hmax : IntKind.i64.max = 9223372036854775807 := rfl
  simp only [Lit.wf, Bool.and_eq_true, decide_eq_true_eq, hmin, hmax] at h
  exact h
theorem aid_ev_bind {α β : Type} {g : Nat → Option α} {f : α → Option β} {a : α} {r : β} (h : Ev g a) (k : f a = some r) : Ev (fun n => (g n).bind f) r :=
  Ev.bind (f := fun _ => f) h ⟨0, fun _ _ => k⟩
theorem aid_ev_const {α : Type} {o : Option α} {r : α} (h : o = some r) : Ev (fun _ => o) r := ⟨0, fun _ _ => h⟩
theorem aid_tdiv {a b : Int} (ha : 0 ≤ a) : Int.tdiv a b = a / b := Int.tdiv_eq_ediv_of_nonneg ha
theorem aid_tmod {a b : Int} (ha : 0 ≤ a) : Int.tmod a b = a % b := Int.tmod_eq_emod_of_nonneg ha
theorem aid_next {i : Nat} (h : i ≤ 9223372036854775806) : wrap64 ((i : Int) + 1) = ((i + 1 : Nat) : Int) := by rw [aid_wr (by omega) (by omega)]; rfl
theorem aid_rd (l : List Int) (i : Nat) (h : i < l.length) : rd l (i : Int) = l[i] := by
  unfold rd
  rw [List.getD_eq_getElem?_getD, Int.toNat_natCast, List.getElem?_eq_getElem h]
  rfl
theorem aid_ev_succ {α : Type} {g : Nat → Option α} {r : α} (h : Ev (fun k => g (k + 1)) r) : Ev g r := Ev.step (fun _ => rfl) h

-- Sig
def sigB (l : List Int) : Bool := decide (l.length ≤ 64) && l.all fun x => decide (-100000 ≤ x ∧ x ≤ 100000)
theorem sigB_iff (l : List Int) : sigB l = true ↔ l.length ≤ 64 ∧ ∀ x ∈ l, -100000 ≤ x ∧ x ≤ 100000 := by
  simp [sigB]
def toldP (l : List Int) : List Int × Bool := if sigB l then (l, true) else ([], false)
theorem toldP_len (l : List Int) : (toldP l).1.length ≤ 64 := by
  unfold toldP
  cases h : sigB l with
  | true => simpa using ((sigB_iff l).1 h).1
  | false => simp

-- Wrap
def wI (H x : Int) : Int := (x + H) % (2 * H) - H
theorem aid_emod {x P y : Int} (hP : 0 < P) (h0 : 0 ≤ x - P * y) (h1 : x - P * y < P) : x % P = x - P * y :=
  ((Int.ediv_emod_unique hP (a := x) (r := x - P * y) (q := y)).2 ⟨by omega, h0, h1⟩).2
theorem wI_bound {H : Int} (hH : 1 ≤ H) (x : Int) : -H ≤ wI H x ∧ wI H x < H := by
  unfold wI
  have h1 := Int.emod_nonneg (x + H) (show 2 * H ≠ 0 by omega)
  have h2 := Int.emod_lt_of_pos (x + H) (show 0 < 2 * H by omega)
  omega
theorem wI_zero {H : Int} (hH : 1 ≤ H) : wI H 0 = 0 := by
  unfold wI
  rw [Int.zero_add, Int.emod_eq_of_lt (by omega) (by omega)]
  omega
theorem wI_add (H a x : Int) : wI H (wI H a + x) = wI H (a + x) := by
  unfold wI
  have e : (a + H) % (2 * H) - H + x + H = (a + H) % (2 * H) + x := by omega
  rw [e, Int.emod_add_emod]
  have e2 : a + H + x = a + x + H := by omega
  rw [e2]
theorem wrap_shl (t : Nat) (h : t ≤ 40) : shl .i64 1 (t : Int) = 2 ^ t := by
  have h' : ∀ s : Fin 41, shl .i64 1 ((s.val : Nat) : Int) = 2 ^ s.val := by decide +kernel
  exact h' ⟨t, by omega⟩
theorem wrap_pow (t : Nat) (h : t ≤ 39) : (1 : Int) ≤ 2 ^ t ∧ (2 : Int) ^ t ≤ 549755813888 := by
  have h' : ∀ s : Fin 40, (1 : Int) ≤ 2 ^ s.val ∧ (2 : Int) ^ s.val ≤ 549755813888 := by decide +kernel
  exact h' ⟨t, by omega⟩
theorem wrap_tmod (x M : Int) : (Int.tmod x M + M) % M = x % M := by
  have h : x % M = (Int.tmod x M) % M := by
    conv => lhs; rw [← Int.mul_tdiv_add_tmod x M, Int.add_comm, Int.add_mul_emod_self_left]
  rw [h, Int.add_emod_right]
theorem wrap_tmod_bound (x M : Int) (hM : 0 < M) : 0 < Int.tmod x M + M ∧ Int.tmod x M + M < 2 * M := by
  have h1 := Int.tmod_lt_of_pos x hM
  have h2 := Int.lt_tmod_of_pos x hM
  omega
theorem bits_split (b : Int) (h : 2 ≤ b ∧ b ≤ 40) : ∃ t : Nat, b = ((t + 1 : Nat) : Int) ∧ 1 ≤ t ∧ t ≤ 39 := ⟨(b - 1).toNat, by omega, by omega, by omega⟩
def sumsL : List Int → Int → List Int
  | [], _ => []
  | x :: r, a => (a + x) :: sumsL r (a + x)
def wsumL (H : Int) : List Int → Int → List Int
  | [], _ => []
  | x :: r, t => wI H (t + x) :: wsumL H r (wI H (t + x))
theorem wsumL_eq (H : Int) : ∀ (l : List Int) (a : Int), wsumL H l (wI H a) = (sumsL l a).map (wI H)
  | [], _ => rfl
  | x :: r, a => by rw [wsumL, sumsL, List.map_cons, wI_add, wsumL_eq H r (a + x)]
theorem sumsL_length : ∀ (l : List Int) (a : Int), (sumsL l a).length = l.length
  | [], _ => rfl
  | x :: r, a => by rw [sumsL, List.length_cons, sumsL_length r, List.length_cons]
theorem sumsL_bound (B : Nat) : ∀ (l : List Int) (a : Int) (c : Nat), (∀ x ∈ l, -(B : Int) ≤ x ∧ x ≤ B) → -((c * B : Nat) : Int) ≤ a → a ≤ ((c * B : Nat) : Int) → ∀ y ∈ sumsL l a, -(((c + l.length) * B : Nat) : Int) ≤ y ∧ y ≤ (((c + l.length) * B : Nat) : Int)
  | x :: r, a, c, hx, h0, h1, y, hy => by
    have hxx := hx x (by simp)
    have hc : ((c + 1) * B : Nat) = c * B + B := by rw [Nat.add_mul, Nat.one_mul]
    have hle : (c + 1) * B ≤ (c + (x :: r).length) * B := Nat.mul_le_mul_right B (by rw [List.length_cons]; omega)
    rw [sumsL] at hy
    rcases List.mem_cons.1 hy with hy | hy
    · omega
    · have h := sumsL_bound B r (a + x) (c + 1) (fun z hz => hx z (by simp [hz])) (by omega) (by omega) y hy
      have e : c + 1 + r.length = c + (x :: r).length := by rw [List.length_cons]; omega
      rw [e] at h
      exact h
def diffL : List Int → Int → List Int
  | [], _ => []
  | x :: r, a => (x - a) :: diffL r x
theorem diffL_length : ∀ (l : List Int) (a : Int), (diffL l a).length = l.length
  | [], _ => rfl
  | x :: r, a => by rw [diffL, List.length_cons, diffL_length r, List.length_cons]
theorem diffL_bound (B : Int) : ∀ (l : List Int) (a : Int), (∀ x ∈ l, -B ≤ x ∧ x ≤ B) → -B ≤ a → a ≤ B → ∀ y ∈ diffL l a, -(2 * B) ≤ y ∧ y ≤ 2 * B
  | x :: r, a, hx, h0, h1, y, hy => by
    have hxx := hx x (by simp)
    rw [diffL] at hy
    rcases List.mem_cons.1 hy with hy | hy
    · omega
    · exact diffL_bound B r x (fun z hz => hx z (by simp [hz])) hxx.1 hxx.2 y hy
def sumsN (H : Int) : Nat → List Int → List Int
  | 0, l => l
  | n + 1, l => sumsN H n ((sumsL l 0).map (wI H))
def combsN (H : Int) : Nat → List Int → List Int
  | 0, l => l
  | n + 1, l => combsN H n ((diffL l 0).map (wI H))
def okL (l : List Int) : Prop := l.length ≤ 1000 ∧ ∀ x ∈ l, -549755813888 ≤ x ∧ x ≤ 549755813888
theorem okL_map {H : Int} (hH : 1 ≤ H) (hH' : H ≤ 549755813888) (l : List Int) (h : l.length ≤ 1000) : okL (l.map (wI H)) := by
  refine ⟨by rw [List.length_map]; exact h, fun x hx => ?_⟩
  obtain ⟨y, _, rfl⟩ := List.mem_map.1 hx
  have := wI_bound hH y
  omega
theorem sumsN_ok {H : Int} (hH : 1 ≤ H) (hH' : H ≤ 549755813888) : ∀ (n : Nat) (l : List Int), okL l → okL (sumsN H n l) ∧ (sumsN H n l).length = l.length
  | 0, l, h => ⟨h, rfl⟩
  | n + 1, l, h => by
    obtain ⟨h1, h2⟩ := sumsN_ok hH hH' n ((sumsL l 0).map (wI H)) (okL_map hH hH' _ (by rw [sumsL_length]; exact h.1))
    rw [List.length_map, sumsL_length] at h2
    exact ⟨h1, h2⟩
theorem combsN_ok {H : Int} (hH : 1 ≤ H) (hH' : H ≤ 549755813888) : ∀ (n : Nat) (l : List Int), okL l → okL (combsN H n l) ∧ (combsN H n l).length = l.length
  | 0, l, h => ⟨h, rfl⟩
  | n + 1, l, h => by
    obtain ⟨h1, h2⟩ := combsN_ok hH hH' n ((diffL l 0).map (wI H)) (okL_map hH hH' _ (by rw [diffL_length]; exact h.1))
    rw [List.length_map, diffL_length] at h2
    exact ⟨h1, h2⟩

-- Shift
def shI (P mode x : Int) : Int := if (mode = 1 ∧ 2 * (x % P) ≥ P ∧ x % P > 0) ∨ (mode = 2 ∧ x < 0 ∧ x % P > 0) then x / P + 1 else x / P
theorem aid_div {x P y : Int} (hP : 0 < P) (h0 : 0 ≤ x - P * y) (h1 : x - P * y < P) : x / P = y :=
  ((Int.ediv_emod_unique hP (a := x) (r := x - P * y) (q := y)).2 ⟨by omega, h0, h1⟩).1
theorem shift_shl (s : Nat) (hs : s ≤ 20) : shl .i64 1 (s : Int) = 2 ^ s := by
  have h : ∀ s : Fin 21, shl .i64 1 ((s.val : Nat) : Int) = 2 ^ s.val := by decide +kernel
  exact h ⟨s, by omega⟩
theorem shift_shr (s : Nat) (hs : s ≤ 20) (x : Int) : shr .i64 x (s : Int) = x / 2 ^ s := by
  unfold shr
  have e : min ((s : Int)).toNat IntKind.i64.bits = s := by
    rw [Int.toNat_natCast, show IntKind.i64.bits = 64 from rfl]
    omega
  rw [e]
theorem shift_pow (s : Nat) (hs : s ≤ 20) : (1 : Int) ≤ 2 ^ s ∧ (2 : Int) ^ s ≤ 1048576 := by
  have h : ∀ s : Fin 21, (1 : Int) ≤ 2 ^ s.val ∧ (2 : Int) ^ s.val ≤ 1048576 := by decide +kernel
  exact h ⟨s, by omega⟩
theorem shift_mul {P u : Int} (hP : 1 ≤ P) (hu : 0 ≤ u) : u ≤ P * u := by
  have := Int.mul_le_mul_of_nonneg_right hP hu
  omega
theorem shift_div (x P : Int) (hP : 1 ≤ P) : x = P * (x / P) + x % P ∧ 0 ≤ x % P ∧ x % P < P ∧ (0 ≤ x → 0 ≤ x / P ∧ x / P ≤ x) ∧ (x < 0 → x ≤ x / P ∧ x / P < 0) := by
  have h1 := Int.mul_ediv_add_emod x P
  have h2 := Int.emod_nonneg x (show P ≠ 0 by omega)
  have h3 := Int.emod_lt_of_pos x (show 0 < P by omega)
  refine ⟨by omega, h2, h3, fun h => ?_, fun h => ?_⟩
  · have h4 := Int.ediv_nonneg h (show 0 ≤ P by omega)
    have h5 := shift_mul hP h4
    omega
  · have h4 : x / P < 0 := Int.ediv_neg_of_neg_of_pos h (by omega)
    have h5 := shift_mul hP (show 0 ≤ -(x / P) - 1 by omega)
    have h6 : P * (-(x / P) - 1) = -(P * (x / P)) - P := by rw [Int.mul_sub, Int.mul_neg, Int.mul_one]
    omega
theorem shI_bound (P mode x B : Int) (hP : 1 ≤ P) (hB : 0 ≤ B) (h0 : -(P * B) ≤ x) (h1 : x ≤ P * B) : -B ≤ shI P mode x ∧ shI P mode x ≤ B := by
  obtain ⟨e, r0, r1, _, _⟩ := shift_div x P hP
  have hlo : -B ≤ x / P := by
    apply Int.le_ediv_of_mul_le (by omega)
    rw [Int.neg_mul, Int.mul_comm B P]
    exact h0
  have hhi : x / P ≤ B := by
    apply Int.ediv_le_of_le_mul (by omega)
    rw [Int.mul_comm B P]
    exact h1
  have hhi2 : x % P > 0 → x / P + 1 ≤ B := by
    intro hr
    apply Classical.byContradiction
    intro hc
    have e2 : x / P = B := by omega
    rw [e2] at e
    omega
  unfold shI
  split
  · rename_i h
    rcases h with h | h
    · have := hhi2 h.2.2
      omega
    · have := hhi2 h.2.2
      omega
  · omega

-- Fit
def fitI (b : Bool) (H x : Int) : Int := if b = true then wI H x else min (max x (-H)) (H - 1)
theorem fitI_bound {H : Int} (hH : 1 ≤ H) (b : Bool) (x : Int) : -H ≤ fitI b H x ∧ fitI b H x ≤ H - 1 := by
  unfold fitI
  split
  · have := wI_bound hH x
    omega
  · omega
theorem wI_self {H x : Int} (h0 : -H ≤ x) (h1 : x ≤ H - 1) : wI H x = x := by
  unfold wI
  rw [Int.emod_eq_of_lt (by omega) (by omega)]
  omega
theorem fitI_self {H : Int} (hH : 1 ≤ H) (b : Bool) (x : Int) : fitI b H x = x ↔ -H ≤ x ∧ x ≤ H - 1 := by
  refine ⟨fun h => ?_, fun h => ?_⟩
  · have := fitI_bound hH b x
    omega
  · unfold fitI
    split
    · exact wI_self h.1 h.2
    · omega
theorem word_split (b : Int) (h : 2 ≤ b ∧ b ≤ 16) : ∃ t : Nat, b = ((t + 1 : Nat) : Int) ∧ 1 ≤ t ∧ t ≤ 15 := ⟨(b - 1).toNat, by omega, by omega, by omega⟩
theorem word_pow (t : Nat) (h1 : 1 ≤ t) (h : t ≤ 15) : (2 : Int) ≤ 2 ^ t ∧ (2 : Int) ^ t ≤ 32768 := by
  have h' : ∀ s : Fin 16, 1 ≤ s.val → (2 : Int) ≤ 2 ^ s.val ∧ (2 : Int) ^ s.val ≤ 32768 := by decide +kernel
  exact h' ⟨t, by omega⟩ h1
theorem mul_bound {a y B C : Int} (ha : -B ≤ a ∧ a ≤ B) (hy : -C ≤ y ∧ y ≤ C) : -(B * C) ≤ a * y ∧ a * y ≤ B * C := by
  have h1 : (a * y).natAbs = a.natAbs * y.natAbs := Int.natAbs_mul a y
  have h2 : a.natAbs * y.natAbs ≤ B.toNat * C.toNat := Nat.mul_le_mul (by omega) (by omega)
  have h3 : ((B.toNat * C.toNat : Nat) : Int) = B * C := by rw [Int.natCast_mul, Int.toNat_of_nonneg (by omega), Int.toNat_of_nonneg (by omega)]
  generalize a * y = p at *
  generalize B * C = q at *
  omega
theorem shI_small {P m x B : Int} (hP : 1 ≤ P) (h0 : -B ≤ x) (h1 : x ≤ B) : -B ≤ shI P m x ∧ shI P m x ≤ B := by
  have h := shift_mul hP (show 0 ≤ B by omega)
  exact shI_bound P m x B hP (by omega) (by omega) (by omega)
def hB (b : Int) : Int := 2 ^ (b.toNat - 1)
theorem hB_eq (t : Nat) : hB ((t + 1 : Nat) : Int) = 2 ^ t := by
  unfold hB
  rw [Int.toNat_natCast]
  rfl
def wordInB (b x : Int) : Bool := decide (2 ≤ b ∧ b ≤ 16) && decide (-hB b ≤ x ∧ x ≤ hB b - 1)

-- First
def firstB (a s m b : Int) : Bool := decide ((-1024 ≤ a ∧ a ≤ 1024) ∧ (0 ≤ s ∧ s ≤ 10) ∧ (0 ≤ m ∧ m ≤ 2) ∧ (2 ≤ b ∧ b ≤ 16))
theorem firstB_iff (a s m b : Int) : firstB a s m b = true ↔ (-1024 ≤ a ∧ a ≤ 1024) ∧ (0 ≤ s ∧ s ≤ 10) ∧ (0 ≤ m ∧ m ≤ 2) ∧ (2 ≤ b ∧ b ≤ 16) := by
  unfold firstB
  rw [decide_eq_true_eq]
def rawI (P m a y x : Int) : Int := shI P m (a * y) + x
theorem rawI_bound {P m a y x : Int} (hP : 1 ≤ P) (ha : -1024 ≤ a ∧ a ≤ 1024) (hy : -32768 ≤ y ∧ y ≤ 32768) (hx : -1000000 ≤ x ∧ x ≤ 1000000) : -40000000 ≤ rawI P m a y x ∧ rawI P m a y x ≤ 40000000 := by
  have h1 := mul_bound ha hy
  have h2 := shI_small (m := m) hP h1.1 h1.2
  unfold rawI
  omega
def runI (b : Bool) (H P m a : Int) : List Int → Int → List Int
  | [], _ => []
  | x :: r, y => fitI b H (rawI P m a y x) :: runI b H P m a r (fitI b H (rawI P m a y x))
def runC (b : Bool) (H P m a : Int) : List Int → Int → Nat
  | [], _ => 0
  | x :: r, y => (if -H ≤ rawI P m a y x ∧ rawI P m a y x ≤ H - 1 then 0 else 1) + runC b H P m a r (fitI b H (rawI P m a y x))
theorem runI_length (b : Bool) (H P m a : Int) : ∀ (l : List Int) (y : Int), (runI b H P m a l y).length = l.length
  | [], _ => rfl
  | x :: r, y => by rw [runI, List.length_cons, runI_length b H P m a r, List.length_cons]
theorem first_shift (s : Int) (h : 0 ≤ s ∧ s ≤ 10) : ∃ n : Nat, s = (n : Int) ∧ n ≤ 10 := ⟨s.toNat, by omega, by omega⟩

-- Cyc
/-- n steps of a map of the numbers below N. -/
def itN (T : Nat → Nat) : Nat → Nat → Nat
  | 0, i => i
  | n + 1, i => itN T n (T i)
theorem itN_add (T : Nat → Nat) : ∀ m n i, itN T (m + n) i = itN T n (itN T m i)
  | 0, n, i => by rw [Nat.zero_add]; rfl
  | m + 1, n, i => by rw [show m + 1 + n = (m + n) + 1 by omega]; exact itN_add T m n (T i)
theorem itN_succ (T : Nat → Nat) (n i : Nat) : itN T (n + 1) i = T (itN T n i) := itN_add T n 1 i
theorem itN_lt {T : Nat → Nat} {N : Nat} (hT : ∀ i, i < N → T i < N) : ∀ n i, i < N → itN T n i < N
  | 0, i, h => h
  | n + 1, i, h => itN_lt hT n (T i) (hT i h)
theorem itN_mul {T : Nat → Nat} {p i : Nat} (hp : itN T p i = i) : ∀ k, itN T (k * p) i = i
  | 0 => by rw [Nat.zero_mul]; rfl
  | k + 1 => by rw [Nat.add_mul, Nat.one_mul, itN_add, itN_mul hp k, hp]
theorem itN_mod {T : Nat → Nat} {p i : Nat} (hp : itN T p i = i) (n : Nat) : itN T n i = itN T (n % p) i := by
  have e : n = n / p * p + n % p := by rw [Nat.mul_comm]; exact (Nat.div_add_mod n p).symm
  conv => lhs; rw [e, itN_add, itN_mul hp]
/-- i comes again, first behind p steps. -/
structure OnC (T : Nat → Nat) (i p : Nat) : Prop where
  pos : 0 < p
  ret : itN T p i = i
  first : ∀ q, 0 < q → q < p → itN T q i ≠ i
theorem onC_of {T : Nat → Nat} {i : Nat} : ∀ p, 0 < p → itN T p i = i → ∃ q, OnC T i q := by
  intro p
  induction p using Nat.strongRecOn with
  | ind p ih =>
    intro h0 h1
    by_cases h : ∃ q, 0 < q ∧ q < p ∧ itN T q i = i
    · obtain ⟨q, a, b, c⟩ := h
      exact ih q b a c
    · exact ⟨p, h0, h1, fun q a b c => h ⟨q, a, b, c⟩⟩
theorem OnC.inj {T : Nat → Nat} {i p : Nat} (h : OnC T i p) {a b : Nat} (ha : a < p) (hb : b < p) (e : itN T a i = itN T b i) : a = b := by
  have key : ∀ a b, a < b → b < p → itN T a i = itN T b i → False := by
    intro a b hab hb e
    have h1 : itN T (p - b) (itN T a i) = i := by rw [e, ← itN_add, show b + (p - b) = p by omega, h.ret]
    rw [← itN_add] at h1
    exact h.first (a + (p - b)) (by omega) (by omega) h1
  rcases Nat.lt_trichotomy a b with h1 | h1 | h1
  · exact (key a b h1 hb e).elim
  · exact h1
  · exact (key b a h1 ha e.symm).elim
/-- The cycle from i on. -/
def cycL (T : Nat → Nat) (i p : Nat) : List Nat := (List.range p).map fun t => itN T t i
theorem cycL_length (T : Nat → Nat) (i p : Nat) : (cycL T i p).length = p := by simp [cycL]
theorem cycL_get (T : Nat → Nat) (i p j : Nat) (h : j < (cycL T i p).length) : (cycL T i p)[j] = itN T j i := by simp [cycL]
theorem cycL_mem {T : Nat → Nat} {i p : Nat} {a : Nat} : a ∈ cycL T i p ↔ ∃ t, t < p ∧ itN T t i = a := by simp [cycL]
theorem cycL_succ (T : Nat → Nat) (i p : Nat) : cycL T i (p + 1) = cycL T i p ++ [itN T p i] := by simp [cycL, List.range_succ]
theorem OnC.nodup {T : Nat → Nat} {i p : Nat} (h : OnC T i p) : (cycL T i p).Nodup := by
  unfold cycL
  rw [List.Nodup, List.pairwise_map]
  refine List.Pairwise.imp_of_mem ?_ (List.nodup_range (n := p))
  intro a b ha hb hab e
  exact hab (h.inj (List.mem_range.1 ha) (List.mem_range.1 hb) e)
theorem OnC.le {T : Nat → Nat} {i p N : Nat} (h : OnC T i p) (hT : ∀ i, i < N → T i < N) (hi : i < N) : p ≤ N := by
  have h1 := h.nodup.length_le_of_subset (l₂ := List.range N) (fun a ha => by
    obtain ⟨t, _, rfl⟩ := cycL_mem.1 ha
    exact List.mem_range.2 (itN_lt hT t i hi))
  rwa [cycL_length, List.length_range] at h1
/-- The cycle from another of its places. -/
theorem OnC.at_ {T : Nat → Nat} {i p : Nat} (h : OnC T i p) (l : Nat) : OnC T (itN T l i) p := by
  refine ⟨h.pos, by rw [← itN_add, Nat.add_comm, itN_add, h.ret], fun q h0 h1 e => ?_⟩
  rw [← itN_add] at e
  have e2 : itN T (l % p) i = itN T ((l + q) % p) i := by rw [← itN_mod h.ret, ← itN_mod h.ret, e]
  have e3 := h.inj (Nat.mod_lt _ h.pos) (Nat.mod_lt _ h.pos) e2
  have e4 : (l + q) % p = (l % p + q) % p := by rw [Nat.add_mod, Nat.mod_eq_of_lt h1]
  rw [e4] at e3
  have hl := Nat.mod_lt l h.pos
  generalize l % p = x at *
  by_cases hc : x + q < p
  · rw [Nat.mod_eq_of_lt hc] at e3; omega
  · rw [Nat.mod_eq_sub_mod (by omega), Nat.mod_eq_of_lt (by omega)] at e3; omega
theorem OnC.uniq {T : Nat → Nat} {i p q : Nat} (h : OnC T i p) (h' : OnC T i q) : p = q := by
  rcases Nat.lt_trichotomy p q with h1 | h1 | h1
  · exact (h'.first p h.pos h1 h.ret).elim
  · exact h1
  · exact (h.first q h'.pos h1 h'.ret).elim
/-- Turned. -/
theorem OnC.turn {T : Nat → Nat} {i p : Nat} (h : OnC T i p) {l : Nat} (hl : l ≤ p) : (cycL T i p).drop l ++ (cycL T i p).take l = cycL T (itN T l i) p := by
  apply List.ext_getElem
  · simp [cycL_length]; omega
  · intro j h1 h2
    rw [cycL_length] at h2
    rw [cycL_get]
    by_cases hj : j < p - l
    · rw [List.getElem_append_left (by simp [cycL_length]; omega), List.getElem_drop, cycL_get, itN_add]
    · rw [List.getElem_append_right (by simp [cycL_length]; omega), List.getElem_take, cycL_get]
      simp only [List.length_drop, cycL_length]
      rw [← itN_add, show l + j = p + (j - (p - l)) by omega, itN_add, h.ret]
/-- A walk from i on marks with s what bears no mark, and stops at j. -/
inductive Wk (T : Nat → Nat) (s : Int) : List Int → Nat → Nat → List Int → Prop
  | stop {mk : List Int} {i : Nat} : mk.getD i 0 ≠ 0 → Wk T s mk i i mk
  | go {mk mk' : List Int} {i j : Nat} : mk.getD i 0 = 0 → Wk T s (mk.set i s) (T i) j mk' → Wk T s mk i j mk'
theorem getD_at (mk : List Int) (i : Nat) (h : i < mk.length) : mk.getD i 0 = mk[i] := by simp [List.getD_eq_getElem?_getD, h]
theorem getD_set (mk : List Int) (i a : Nat) (s : Int) (hi : i < mk.length) : (mk.set i s).getD a 0 = if a = i then s else mk.getD a 0 := by
  rw [List.getD_eq_getElem?_getD, List.getElem?_set]
  by_cases h : i = a
  · subst h; simp [hi]
  · rw [if_neg h, if_neg (fun e => h e.symm), List.getD_eq_getElem?_getD]
theorem wk_ex {T : Nat → Nat} {N : Nat} (hT : ∀ i, i < N → T i < N) {s : Int} (hs : s ≠ 0) : ∀ (z : Nat) (mk : List Int) (i : Nat), mk.count 0 = z → mk.length = N → i < N → ∃ j mk', Wk T s mk i j mk' := by
  intro z
  induction z with
  | zero =>
    intro mk i hz hN hi
    have h0 : mk.getD i 0 ≠ 0 := fun e => by
      rw [getD_at _ _ (by omega)] at e
      have := List.count_pos_iff.2 (e ▸ List.getElem_mem (l := mk) (n := i) (by omega))
      omega
    exact ⟨i, mk, .stop h0⟩
  | succ z ih =>
    intro mk i hz hN hi
    by_cases h0 : mk.getD i 0 = 0
    · have hc : (mk.set i s).count 0 = z := by
        rw [List.count_set (by omega : i < mk.length)]
        rw [getD_at _ _ (by omega)] at h0
        simp [h0, hs, hz]
      obtain ⟨j, mk', h⟩ := ih (mk.set i s) (T i) hc (by simpa using hN) (hT i hi)
      exact ⟨j, mk', .go h0 h⟩
    · exact ⟨i, mk, .stop h0⟩
structure WkF (T : Nat → Nat) (N : Nat) (s : Int) (mk : List Int) (i j : Nat) (mk' : List Int) : Prop where
  len : mk'.length = N
  lt : j < N
  end_ : mk'.getD j 0 ≠ 0
  old : ∀ a, a < N → mk.getD a 0 ≠ 0 → mk'.getD a 0 = mk.getD a 0
  new : ∀ a, a < N → mk'.getD a 0 ≠ 0 → mk.getD a 0 ≠ 0 ∨ (mk'.getD a 0 = s ∧ (∃ n, itN T n a = j) ∧ ∃ m, itN T m i = a)
  beg : mk'.getD i 0 ≠ 0
  path : ∃ m, itN T m i = j
theorem Wk.facts {T : Nat → Nat} {N : Nat} (hT : ∀ i, i < N → T i < N) {s : Int} (hs : s ≠ 0) {mk mk' : List Int} {i j : Nat} (h : Wk T s mk i j mk') : mk.length = N → i < N → WkF T N s mk i j mk' := by
  induction h with
  | stop h0 => intro hN hi; exact ⟨hN, hi, h0, fun _ _ _ => rfl, fun a _ h => .inl h, h0, 0, rfl⟩
  | @go mk mk' i j h0 h ih =>
    intro hN hi
    have F := ih (by simpa using hN) (hT i hi)
    have hb : mk'.getD i 0 = s := by
      rw [F.old i hi (by rw [getD_set _ _ _ _ (by omega), if_pos rfl]; exact hs), getD_set _ _ _ _ (by omega), if_pos rfl]
    obtain ⟨m, hm⟩ := F.path
    refine ⟨F.len, F.lt, F.end_, fun a ha h1 => ?_, fun a ha h1 => ?_, by rw [hb]; exact hs, m + 1, hm⟩
    · have hai : a ≠ i := fun e => h1 (e ▸ h0)
      rw [F.old a ha (by rw [getD_set _ _ _ _ (by omega), if_neg hai]; exact h1), getD_set _ _ _ _ (by omega), if_neg hai]
    · rcases F.new a ha h1 with h2 | ⟨h2, h3, m2, h4⟩
      · rw [getD_set _ _ _ _ (by omega)] at h2
        by_cases hai : a = i
        · subst hai
          exact .inr ⟨hb, ⟨m + 1, hm⟩, 0, rfl⟩
        · rw [if_neg hai] at h2; exact .inl h2
      · exact .inr ⟨h2, h3, m2 + 1, h4⟩
/-- What is marked leads to what is marked. -/
theorem Wk.shut {T : Nat → Nat} {N : Nat} (hT : ∀ i, i < N → T i < N) {s : Int} (hs : s ≠ 0) {mk mk' : List Int} {i j : Nat} (h : Wk T s mk i j mk') : mk.length = N → i < N → (∀ a, a < N → mk.getD a 0 ≠ 0 → mk.getD (T a) 0 ≠ 0 ∨ T a = i) → ∀ a, a < N → mk'.getD a 0 ≠ 0 → mk'.getD (T a) 0 ≠ 0 := by
  induction h with
  | stop h0 => intro hN hi hc a ha h1; rcases hc a ha h1 with h2 | h2; exact h2; rw [h2]; exact h0
  | @go mk mk' i j h0 h ih =>
    intro hN hi hc
    refine ih (by simpa using hN) (hT i hi) (fun a ha h1 => ?_)
    by_cases hai : a = i
    · subst hai; exact .inr rfl
    · rw [getD_set _ _ _ _ (by omega), if_neg hai] at h1
      refine .inl ?_
      rw [getD_set _ _ _ _ (by omega)]
      rcases hc a ha h1 with h2 | h2
      · by_cases e : T a = i
        · rw [if_pos e]; exact hs
        · rw [if_neg e]; exact h2
      · rw [if_pos h2]; exact hs
/-- Where a walk ends at its own mark there is a cycle. -/
theorem Wk.ring {T : Nat → Nat} {N : Nat} (hT : ∀ i, i < N → T i < N) {s : Int} {mk mk' : List Int} {i j : Nat} (h : Wk T s mk i j mk') : mk.length = N → i < N → (∀ a, a < N → mk.getD a 0 = s → ∃ n, 0 < n ∧ itN T n a = i) → mk'.getD j 0 = s → ∃ p, 0 < p ∧ itN T p j = j := by
  induction h with
  | stop h0 => intro hN hi hc h1; exact hc _ hi h1
  | @go mk mk' i j h0 h ih =>
    intro hN hi hc
    refine ih (by simpa using hN) (hT i hi) (fun a ha h1 => ?_)
    by_cases hai : a = i
    · subst hai; exact ⟨1, by omega, rfl⟩
    · rw [getD_set _ _ _ _ (by omega), if_neg hai] at h1
      obtain ⟨n, h2, h3⟩ := hc a ha h1
      exact ⟨n + 1, by omega, by rw [itN_succ, h3]⟩
/-- All walks, from start s on. -/
inductive Dfs (T : Nat → Nat) (N : Nat) : Nat → List Int → List Nat → List Int → List Nat → Prop
  | done {mk : List Int} {hs : List Nat} : Dfs T N N mk hs mk hs
  | step {s : Nat} {mk mk' mkF : List Int} {j : Nat} {hs hsF : List Nat} : s < N → Wk T ((s : Int) + 1) mk s j mk' → Dfs T N (s + 1) mk' (if mk'.getD j 0 = (s : Int) + 1 then hs ++ [j] else hs) mkF hsF → Dfs T N s mk hs mkF hsF
theorem dfs_ex {T : Nat → Nat} {N : Nat} (hT : ∀ i, i < N → T i < N) : ∀ (d s : Nat) (mk : List Int) (hs : List Nat), s + d = N → mk.length = N → ∃ mkF hsF, Dfs T N s mk hs mkF hsF
  | 0, s, mk, hs, h, hN => by obtain rfl : s = N := by omega
                              exact ⟨mk, hs, .done⟩
  | d + 1, s, mk, hs, h, hN => by
    obtain ⟨j, mk', hw⟩ := wk_ex hT (s := (s : Int) + 1) (by omega) _ mk s rfl hN (by omega)
    have F := hw.facts hT (by omega) hN (by omega)
    obtain ⟨mkF, hsF, h2⟩ := dfs_ex hT d (s + 1) mk' (if mk'.getD j 0 = (s : Int) + 1 then hs ++ [j] else hs) (by omega) F.len
    exact ⟨mkF, hsF, .step (by omega) hw h2⟩
structure DfsI (T : Nat → Nat) (N s : Nat) (mk : List Int) (hs : List Nat) : Prop where
  len : mk.length = N
  fresh : ∀ a, a < N → mk.getD a 0 ≤ (s : Int)
  beg : ∀ a, a < s → mk.getD a 0 ≠ 0
  shut : ∀ a, a < N → mk.getD a 0 ≠ 0 → mk.getD (T a) 0 ≠ 0
  head : ∀ h ∈ hs, h < N ∧ mk.getD h 0 ≠ 0 ∧ ∃ p, 0 < p ∧ itN T p h = h
  each : ∀ a, a < N → mk.getD a 0 ≠ 0 → (∃ p, 0 < p ∧ itN T p a = a) → ∃ h ∈ hs, ∃ n, itN T n h = a
  apart : hs.Pairwise fun h h' => ∀ n, itN T n h ≠ h'
theorem DfsI.shutN {T : Nat → Nat} {N s : Nat} (hT : ∀ i, i < N → T i < N) {mk : List Int} {hs : List Nat} (I : DfsI T N s mk hs) : ∀ n a, a < N → mk.getD a 0 ≠ 0 → mk.getD (itN T n a) 0 ≠ 0
  | 0, a, _, h => h
  | n + 1, a, ha, h => DfsI.shutN hT I n (T a) (hT a ha) (I.shut a ha h)
theorem DfsI.start (T : Nat → Nat) (N : Nat) : DfsI T N 0 (List.replicate N 0) [] := by
  have h0 : ∀ a, (List.replicate N (0 : Int)).getD a 0 = 0 := fun a => by simp [List.getD_eq_getElem?_getD, List.getElem?_replicate]; split <;> rfl
  exact ⟨by simp, fun a _ => by rw [h0]; omega, fun a h => by omega, fun a _ h => (h (h0 a)).elim, fun _ h => by simp at h, fun a _ h => (h (h0 a)).elim, .nil⟩
theorem DfsI.next {T : Nat → Nat} {N s : Nat} (hT : ∀ i, i < N → T i < N) {mk mk' : List Int} {hs : List Nat} {j : Nat} (I : DfsI T N s mk hs) (hsN : s < N) (hw : Wk T ((s : Int) + 1) mk s j mk') : DfsI T N (s + 1) mk' (if mk'.getD j 0 = (s : Int) + 1 then hs ++ [j] else hs) := by
  have F := hw.facts hT (by omega) I.len hsN
  have hsh := hw.shut hT (by omega) I.len hsN (fun a ha h => .inl (I.shut a ha h))
  have hr := hw.ring hT I.len hsN (fun a ha h => by have := I.fresh a ha; omega)
  have hfr : ∀ a, a < N → mk'.getD a 0 ≤ ((s + 1 : Nat) : Int) := fun a ha => by
    by_cases h0 : mk'.getD a 0 = 0
    · rw [h0]; omega
    · rcases F.new a ha h0 with h1 | ⟨h1, _⟩
      · rw [F.old a ha h1]; have := I.fresh a ha; omega
      · rw [h1]; omega
  have hbeg : ∀ a, a < s + 1 → mk'.getD a 0 ≠ 0 := fun a ha => by
    by_cases e : a = s
    · subst e; exact F.beg
    · rw [F.old a (by omega) (I.beg a (by omega))]; exact I.beg a (by omega)
  have hmk : ∀ a, a < N → mk.getD a 0 ≠ 0 → mk'.getD a 0 ≠ 0 := fun a ha h => by rw [F.old a ha h]; exact h
  by_cases hj : mk'.getD j 0 = (s : Int) + 1
  · rw [if_pos hj]
    have hj0 : mk.getD j 0 = 0 := by
      apply Classical.byContradiction
      intro h
      have := F.old j F.lt h
      have := I.fresh j F.lt
      omega
    refine ⟨F.len, hfr, hbeg, hsh, fun h hh => ?_, fun a ha h1 h2 => ?_, ?_⟩
    · rcases List.mem_append.1 hh with hh | hh
      · obtain ⟨a, b, c⟩ := I.head h hh
        exact ⟨a, hmk h a b, c⟩
      · rw [List.mem_singleton] at hh; subst hh
        exact ⟨F.lt, F.end_, hr hj⟩
    · rcases F.new a ha h1 with h3 | ⟨_, ⟨n, hn⟩, _⟩
      · obtain ⟨h, hh, n, hn⟩ := I.each a ha h3 h2
        exact ⟨h, List.mem_append_left _ hh, n, hn⟩
      · refine ⟨j, by simp, ?_⟩
        obtain ⟨p, hp, hpa⟩ := h2
        have e : n * p = n + n * (p - 1) := by
          obtain ⟨q, rfl⟩ : ∃ q, p = q + 1 := ⟨p - 1, by omega⟩
          rw [Nat.add_sub_cancel, Nat.mul_add, Nat.mul_one]; omega
        refine ⟨n * (p - 1), ?_⟩
        rw [← hn, ← itN_add, ← e, itN_mul hpa n]
    · rw [List.pairwise_append]
      refine ⟨I.apart, by simp, fun h hh h' hh' n e => ?_⟩
      rw [List.mem_singleton] at hh'; subst hh'
      obtain ⟨a, b, _⟩ := I.head h hh
      exact I.shutN hT n h a b (e ▸ hj0)
  · rw [if_neg hj]
    have hj0 : mk.getD j 0 ≠ 0 := by
      rcases F.new j F.lt F.end_ with h | ⟨h, _⟩
      · exact h
      · exact (hj h).elim
    refine ⟨F.len, hfr, hbeg, hsh, fun h hh => ?_, fun a ha h1 h2 => ?_, I.apart⟩
    · obtain ⟨a, b, c⟩ := I.head h hh
      exact ⟨a, hmk h a b, c⟩
    · refine I.each a ha ?_ h2
      rcases F.new a ha h1 with h3 | ⟨_, ⟨n, hn⟩, _⟩
      · exact h3
      · obtain ⟨p, hp, hpa⟩ := h2
        have e : n * p = n + n * (p - 1) := by
          obtain ⟨q, rfl⟩ : ∃ q, p = q + 1 := ⟨p - 1, by omega⟩
          rw [Nat.add_sub_cancel, Nat.mul_add, Nat.mul_one]; omega
        have h4 := I.shutN hT (n * (p - 1)) j F.lt hj0
        rwa [← hn, ← itN_add, ← e, itN_mul hpa n] at h4
theorem Dfs.inv {T : Nat → Nat} {N : Nat} (hT : ∀ i, i < N → T i < N) {s : Nat} {mk mkF : List Int} {hs hsF : List Nat} (h : Dfs T N s mk hs mkF hsF) : DfsI T N s mk hs → DfsI T N N mkF hsF := by
  induction h with
  | done => exact id
  | step h1 h2 _ ih => exact fun I => ih (I.next hT h1 h2)
/-- The heads: one of each cycle. -/
structure Heads (T : Nat → Nat) (N : Nat) (hs : List Nat) : Prop where
  head : ∀ h ∈ hs, h < N ∧ ∃ p, OnC T h p
  each : ∀ a p, a < N → OnC T a p → ∃ h ∈ hs, ∃ n, itN T n h = a
  apart : hs.Pairwise fun h h' => ∀ n, itN T n h ≠ h'
theorem dfs_heads {T : Nat → Nat} {N : Nat} (hT : ∀ i, i < N → T i < N) {mkF : List Int} {hsF : List Nat} (h : Dfs T N 0 (List.replicate N 0) [] mkF hsF) : Heads T N hsF := by
  have I := h.inv hT (DfsI.start T N)
  refine ⟨fun h hh => ?_, fun a p ha hp => I.each a ha (I.beg a ha) ⟨p, hp.pos, hp.ret⟩, I.apart⟩
  obtain ⟨a, _, p, hp, hr⟩ := I.head h hh
  exact ⟨a, onC_of p hp hr⟩

-- FirstCyc
/-- The step on the numbers of a word, counted from 0. -/
def fT (c : Bool) (H P m a x : Int) (i : Nat) : Nat := (fitI c H (rawI P m a ((i : Int) - H) x) + H).toNat
theorem fT_val {H : Int} (hH : 1 ≤ H) (c : Bool) (P m a x : Int) (i : Nat) : ((fT c H P m a x i : Nat) : Int) - H = fitI c H (rawI P m a ((i : Int) - H) x) := by
  have := fitI_bound hH c (rawI P m a ((i : Int) - H) x)
  unfold fT
  omega
theorem fT_lt {H : Int} (hH : 1 ≤ H) (c : Bool) (P m a x : Int) (i : Nat) {N : Nat} (hN : (N : Int) = 2 * H) : fT c H P m a x i < N := by
  have := fitI_bound hH c (rawI P m a ((i : Int) - H) x)
  have := fT_val hH c P m a x i
  omega
def valL (H : Int) (l : List Nat) : List Int := l.map fun (i : Nat) => (i : Int) - H
theorem valL_length (H : Int) (l : List Nat) : (valL H l).length = l.length := by simp [valL]
theorem valL_append (H : Int) (l r : List Nat) : valL H (l ++ r) = valL H l ++ valL H r := by simp [valL]
theorem valL_one (H : Int) (i : Nat) : valL H [i] = [(i : Int) - H] := rfl
theorem valL_inj {H : Int} {l r : List Nat} (h : valL H l = valL H r) : l = r := by
  unfold valL at h
  exact (List.map_inj_right (fun a b e => by omega)).1 h
theorem valL_rd (H : Int) (T : Nat → Nat) (i p j : Nat) (hj : j < p) : rd (valL H (cycL T i p)) (j : Int) = ((itN T j i : Nat) : Int) - H := by
  rw [aid_rd _ j (by rw [valL_length, cycL_length]; exact hj)]
  simp [valL, cycL]
theorem valL_rd0 (H : Int) (T : Nat → Nat) (i p : Nat) (hp : 0 < p) : rd (valL H (cycL T i p)) 0 = (i : Int) - H := valL_rd H T i p 0 hp
theorem valL_snoc (H : Int) (T : Nat → Nat) (i n : Nat) : valL H (cycL T i n) ++ [((itN T n i : Nat) : Int) - H] = valL H (cycL T i (n + 1)) := by rw [cycL_succ, valL_append, valL_one]
/-- The least place of a cycle. -/
def LeastC (T : Nat → Nat) (i : Nat) : Prop := (∃ p, OnC T i p) ∧ ∀ t, i ≤ itN T t i
/-- The cycle of h, turned to its least place. -/
def CycOf (T : Nat → Nat) (H : Int) (h : Nat) (c : List Int) : Prop := ∃ p l, OnC T h p ∧ l < p ∧ (∀ t, t < p → itN T l h ≤ itN T t h) ∧ c = valL H (cycL T (itN T l h) p)
theorem CycOf.least {T : Nat → Nat} {H : Int} {h : Nat} {c : List Int} (hc : CycOf T H h c) : ∃ a p n, LeastC T a ∧ OnC T a p ∧ itN T n h = a ∧ c = valL H (cycL T a p) := by
  obtain ⟨p, l, h1, h2, h3, rfl⟩ := hc
  refine ⟨itN T l h, p, l, ⟨⟨p, h1.at_ l⟩, fun t => ?_⟩, h1.at_ l, rfl, rfl⟩
  rw [← itN_add, itN_mod h1.ret (l + t)]
  exact h3 _ (Nat.mod_lt _ h1.pos)
/-- Back along a cycle. -/
theorem OnC.back {T : Nat → Nat} {h p : Nat} (hc : OnC T h p) (n : Nat) : ∃ m, itN T m (itN T n h) = h := by
  refine ⟨p - n % p, ?_⟩
  have hl := Nat.mod_lt n hc.pos
  rw [itN_mod hc.ret n, ← itN_add, show n % p + (p - n % p) = p by omega, hc.ret]
theorem CycOf.uniq {T : Nat → Nat} {H : Int} {h : Nat} {c : List Int} (hc : CycOf T H h c) {a p n : Nat} (ha : LeastC T a) (hp : OnC T a p) (hn : itN T n h = a) : c = valL H (cycL T a p) := by
  obtain ⟨q, l, h1, h2, h3, rfl⟩ := hc
  have e : itN T l h = a := by
    apply Nat.le_antisymm
    · rw [← hn, itN_mod h1.ret n]
      exact h3 _ (Nat.mod_lt _ h1.pos)
    · obtain ⟨m, hm⟩ := h1.back n
      rw [hn] at hm
      have := ha.2 (m + l)
      rwa [itN_add, hm] at this
  rw [e]
  have := h1.at_ l
  rw [e] at this
  rw [this.uniq hp]
theorem CycOf.len {T : Nat → Nat} {H : Int} {h N : Nat} {c : List Int} (hc : CycOf T H h c) (hT : ∀ i, i < N → T i < N) (hh : h < N) : 0 < c.length ∧ c.length ≤ N := by
  obtain ⟨q, l, h1, h2, h3, rfl⟩ := hc
  rw [valL_length, cycL_length]
  exact ⟨h1.pos, h1.le hT hh⟩
/-- Two lists, place by place. -/
inductive Both {α β : Type} (R : α → β → Prop) : List α → List β → Prop
  | nil : Both R [] []
  | cons {a : α} {b : β} {l : List α} {r : List β} : R a b → Both R l r → Both R (a :: l) (b :: r)
theorem Both.left {α β : Type} {R : α → β → Prop} {l : List α} {r : List β} (h : Both R l r) : ∀ b ∈ r, ∃ a ∈ l, R a b := by
  induction h with
  | nil => intro b hb; simp at hb
  | @cons a b l r h1 _ ih =>
    intro b' hb
    rcases List.mem_cons.1 hb with rfl | hb
    · exact ⟨a, List.mem_cons_self .., h1⟩
    · obtain ⟨a', h2, h3⟩ := ih b' hb
      exact ⟨a', List.mem_cons_of_mem _ h2, h3⟩
theorem Both.right {α β : Type} {R : α → β → Prop} {l : List α} {r : List β} (h : Both R l r) : ∀ a ∈ l, ∃ b ∈ r, R a b := by
  induction h with
  | nil => intro b hb; simp at hb
  | @cons a b l r h1 _ ih =>
    intro a' ha
    rcases List.mem_cons.1 ha with rfl | ha
    · exact ⟨b, List.mem_cons_self .., h1⟩
    · obtain ⟨b', h2, h3⟩ := ih a' ha
      exact ⟨b', List.mem_cons_of_mem _ h2, h3⟩
theorem Both.apart {α β : Type} {R : α → β → Prop} {P : α → α → Prop} {l : List α} {r : List β} (h : Both R l r) : l.Pairwise P → (∀ a a' b, P a a' → R a b → R a' b → False) → r.Nodup := by
  induction h with
  | nil => intro _ _; exact .nil
  | @cons a b l r h1 h2 ih =>
    intro hp hR
    rw [List.pairwise_cons] at hp
    refine List.nodup_cons.2 ⟨fun hb => ?_, ih hp.2 hR⟩
    obtain ⟨a', h3, h4⟩ := h2.left b hb
    exact hR a a' b (hp.1 a' h3) h1 h4
theorem Both.length {α β : Type} {R : α → β → Prop} {l : List α} {r : List β} (h : Both R l r) : l.length = r.length := by
  induction h with
  | nil => rfl
  | cons _ _ ih => rw [List.length_cons, List.length_cons, ih]
/-- All least cycles, rising: what both sides hold. -/
theorem cycles_eq {T : Nat → Nat} {N : Nat} {H : Int} {hs : List Nat} (hH : Heads T N hs) {cs S R : List (List Int)} (hb : Both (CycOf T H) hs cs) (hp : S.Perm cs) (hS : S.Pairwise fun u v => rd u 0 ≤ rd v 0) (hR : R.Pairwise fun u v => rd u 0 < rd v 0) (hm : ∀ c, c ∈ R ↔ ∃ a p, a < N ∧ LeastC T a ∧ OnC T a p ∧ c = valL H (cycL T a p)) (hT : ∀ i, i < N → T i < N) : S = R := by
  have hcs : cs.Nodup := hb.apart hH.apart (fun h h' c h1 h2 h3 => by
    obtain ⟨a, p, n, ha, hp, hn, rfl⟩ := h2.least
    obtain ⟨a', p', n', ha', hp', hn', e⟩ := h3.least
    have e2 := valL_rd0 H T a p hp.pos
    rw [e, valL_rd0 H T a' p' hp'.pos] at e2
    have e3 : a' = a := by omega
    subst e3
    obtain ⟨q, l, h4, _⟩ := h3
    obtain ⟨m, hm⟩ := h4.back n'
    rw [hn', ← hn, ← itN_add] at hm
    exact h1 _ hm)
  have hRn : R.Nodup := hR.imp (fun {u v} h e => by rw [e] at h; omega)
  have hperm : S.Perm R := hp.trans ((List.perm_ext_iff_of_nodup hcs hRn).2 (fun c => by
    rw [hm]
    constructor
    · intro hc
      obtain ⟨h, hh, h1⟩ := hb.left c hc
      obtain ⟨a, p, n, ha, hp, hn, rfl⟩ := h1.least
      exact ⟨a, p, hn ▸ itN_lt hT n h (hH.head h hh).1, ha, hp, rfl⟩
    · rintro ⟨a, p, h0, ha, hp, rfl⟩
      obtain ⟨h, hh, n, hn⟩ := hH.each a p h0 hp
      obtain ⟨c, hc, h1⟩ := hb.right h hh
      rw [← h1.uniq ha hp hn]
      exact hc))
  refine hperm.eq_of_pairwise (le := fun u v => rd u 0 ≤ rd v 0) ?_ hS (hR.imp (fun h => by omega))
  intro u v hu hv h1 h2
  have hu' := hperm.mem_iff.1 hu
  obtain ⟨a, p, _, ha, hp, rfl⟩ := (hm u).1 hu'
  obtain ⟨a', p', _, ha', hp', rfl⟩ := (hm v).1 hv
  rw [valL_rd0 H T a p hp.pos, valL_rd0 H T a' p' hp'.pos] at h1 h2
  have e3 : a' = a := by omega
  subst e3
  rw [hp.uniq hp']
/-- A place for c, found from the end. -/
theorem ins_ok {α : Type} (le : α → α → Prop) (ht : ∀ a b, le a b ∨ le b a) (htr : ∀ a b c, le a b → le b c → le a c) (o : List α) (c : α) (k : Nat) (hk : k ≤ o.length) (h1 : ∀ j (hj : j < o.length), k ≤ j → ¬ le o[j] c) (h2 : k = 0 ∨ ∃ h : k - 1 < o.length, le o[k - 1] c) (ho : o.Pairwise le) : (o.take k ++ [c] ++ o.drop k).Pairwise le ∧ (o.take k ++ [c] ++ o.drop k).Perm (o ++ [c]) := by
  constructor
  · have hlo : ∀ y ∈ o.take k, le y c := by
      intro y hy
      obtain ⟨j, hj, rfl⟩ := List.mem_iff_getElem.1 hy
      rw [List.length_take] at hj
      rw [List.getElem_take]
      rcases h2 with h2 | ⟨h2, h3⟩
      · omega
      · by_cases e : j = k - 1
        · subst e; exact h3
        · exact htr _ _ _ (List.pairwise_iff_getElem.1 ho j (k - 1) (by omega) h2 (by omega)) h3
    have hhi : ∀ y ∈ o.drop k, le c y := by
      intro y hy
      obtain ⟨j, hj, rfl⟩ := List.mem_iff_getElem.1 hy
      rw [List.length_drop] at hj
      rw [List.getElem_drop]
      rcases ht o[k + j] c with h | h
      · exact (h1 (k + j) (by omega) (by omega) h).elim
      · exact h
    rw [List.append_assoc, List.pairwise_append]
    refine ⟨ho.sublist (List.take_sublist _ _), ?_, ?_⟩
    · rw [List.singleton_append, List.pairwise_cons]
      exact ⟨hhi, ho.sublist (List.drop_sublist _ _)⟩
    · intro y hy z hz
      rw [List.singleton_append] at hz
      rcases List.mem_cons.1 hz with rfl | hz
      · exact hlo y hy
      · exact htr _ _ _ (hlo y hy) (hhi z hz)
  · have h := (List.perm_append_comm (l₁ := [c]) (l₂ := o.drop k)).append_left (o.take k)
    rw [← List.append_assoc, ← List.append_assoc, List.take_append_drop] at h
    exact h

-- Peak
def peakL : List Int → Int → Int
  | [], a => a
  | x :: r, a => peakL r (max a (x.natAbs : Int))
theorem peakL_le : ∀ (l : List Int) (a b : Int), a ≤ b → (∀ x ∈ l, (x.natAbs : Int) ≤ b) → peakL l a ≤ b
  | [], _, _, h, _ => h
  | x :: r, a, b, h, hl => peakL_le r _ b (by have := hl x (by simp); omega) (fun y hy => hl y (by simp [hy]))
theorem peakL_ge : ∀ (l : List Int) (a : Int), a ≤ peakL l a
  | [], _ => Int.le_refl _
  | x :: r, a => Int.le_trans (by omega) (peakL_ge r (max a (x.natAbs : Int)))
theorem peakL_all : ∀ (l : List Int) (a : Int), ∀ x ∈ l, (x.natAbs : Int) ≤ peakL l a
  | y :: r, a, x, h => by
    rcases List.mem_cons.1 h with h | h
    · subst h
      exact Int.le_trans (by omega) (peakL_ge r (max a (x.natAbs : Int)))
    · exact peakL_all r _ x h

-- spec_l1In
theorem spec_l1In.eq (a lo hi : Int) : spec_l1In.f a lo hi = some (decide (lo ≤ a ∧ a ≤ hi)) := by
  unfold spec_l1In.f
  by_cases h : lo ≤ a <;> simp [h]

-- spec_wdMode
theorem spec_wdMode.eq (s m : Int) : spec_wdMode.f s m = some (decide (0 ≤ s ∧ s ≤ 20) && decide (0 ≤ m ∧ m ≤ 2)) := by
  unfold spec_wdMode.f
  rw [spec_l1In.eq, spec_l1In.eq]
  cases decide (0 ≤ s ∧ s ≤ 20) <;> rfl

-- spec_wdGood
theorem spec_wdGood.eq (b : Int) (c : Bool) : spec_wdGood.f b c = some (decide (2 ≤ b ∧ b ≤ 16)) := by
  unfold spec_wdGood.f
  rw [spec_l1In.eq]
  rfl

-- spec_foGood
theorem spec_foGood.eq (a s m b : Int) (c : Bool) : spec_foGood.f a s m b c = some (firstB a s m b) := by
  unfold spec_foGood.f firstB
  rw [spec_l1In.eq, spec_l1In.eq, spec_wdMode.eq, spec_wdGood.eq]
  by_cases h1 : -1024 ≤ a ∧ a ≤ 1024
  · by_cases h2 : 0 ≤ s ∧ s ≤ 10
    · by_cases h3 : 0 ≤ m ∧ m ≤ 2
      · simp [h1, h2, h3, show s ≤ 20 by omega]
      · simp [h1, h2, h3, show s ≤ 20 by omega]
    · simp [h1, h2]
  · simp [h1]

-- spec_wdLow
theorem spec_wdLow.eq (t : Nat) (h1 : 1 ≤ t) (h2 : t ≤ 15) (b : Bool) : spec_wdLow.f ((t + 1 : Nat) : Int) b = some (-(2 ^ t)) := by
  obtain ⟨hH, hH'⟩ := word_pow t h1 h2
  unfold spec_wdLow.f
  rw [show wrap64 (((t + 1 : Nat) : Int) - 1) = (t : Int) by rw [aid_wr (by omega) (by omega)]; omega, if_pos (by omega), wrap_shl t (by omega), aid_wr (x := -(2 ^ t)) (by omega) (by omega)]

-- spec_wdHigh
theorem spec_wdHigh.eq (t : Nat) (h1 : 1 ≤ t) (h2 : t ≤ 15) (b : Bool) : spec_wdHigh.f ((t + 1 : Nat) : Int) b = some (2 ^ t - 1) := by
  obtain ⟨hH, hH'⟩ := word_pow t h1 h2
  unfold spec_wdHigh.f
  rw [show wrap64 (((t + 1 : Nat) : Int) - 1) = (t : Int) by rw [aid_wr (by omega) (by omega)]; omega, if_pos (by omega), wrap_shl t (by omega), aid_wr (x := 2 ^ t - 1) (by omega) (by omega)]

-- spec_wdIn
theorem spec_wdIn.eq (b : Int) (c : Bool) (x : Int) : spec_wdIn.f b c x = some (wordInB b x) := by
  unfold spec_wdIn.f wordInB
  rw [spec_wdGood.eq]
  by_cases h : 2 ≤ b ∧ b ≤ 16
  · obtain ⟨t, rfl, h1, h2⟩ := word_split b h
    rw [decide_eq_true h, hB_eq, spec_wdLow.eq t h1 h2, spec_wdHigh.eq t h1 h2]
    simp only [Option.bind_some, if_true, spec_l1In.eq, Bool.true_and]
  · rw [decide_eq_false h]
    rfl

-- spec_foAsked
theorem spec_foAsked.eq (a s m b : Int) (c : Bool) (y x : Int) : spec_foAsked.f a s m b c y x = some (firstB a s m b && (wordInB b y && decide (-100000 ≤ x ∧ x ≤ 100000))) := by
  unfold spec_foAsked.f
  rw [spec_foGood.eq, spec_wdIn.eq, spec_l1In.eq]
  cases firstB a s m b with
  | false => rfl
  | true => cases wordInB b y <;> rfl

-- spec_foScan
theorem wordInB_zero {a s m b : Int} (h : firstB a s m b = true) : wordInB b 0 = true := by
  have hb := ((firstB_iff a s m b).1 h).2.2.2
  obtain ⟨t, rfl, h1, h2⟩ := word_split b hb
  have := word_pow t h1 h2
  unfold wordInB
  rw [decide_eq_true hb, hB_eq, Bool.true_and, decide_eq_true_eq]
  omega
def scanB (a s m b x : Int) : Bool := firstB a s m b && decide (b ≤ 10) && decide (-100000 ≤ x ∧ x ≤ 100000)
theorem spec_foScan.eq (a s m b : Int) (c : Bool) (x : Int) : spec_foScan.f a s m b c x = some (scanB a s m b x) := by
  unfold spec_foScan.f scanB
  rw [spec_foAsked.eq]
  cases h : firstB a s m b with
  | false => rfl
  | true =>
    rw [wordInB_zero h]
    by_cases h1 : -100000 ≤ x ∧ x ≤ 100000
    · by_cases h2 : b ≤ 10
      · simp [h1, h2]
      · simp [h1, h2]
    · by_cases h2 : b ≤ 10
      · simp [h1, h2]
      · simp [h1, h2]

-- spec_wdShift
theorem spec_wdShift.one (x : Int) (h0 : -1000000000000 ≤ x) (h1 : x ≤ 1000000000000) : Ev (fun k => spec_wdShift.f k x 1 0) (x / 2) := by
  have hs : shl .i64 1 1 = 2 := rfl
  unfold spec_wdShift.f
  have hj : ∀ (y : Int) , y = x / 2 → Ev (fun k => spec_wdShift.j0 k x 0 2 y) (x / 2) := by
    intro y hy
    refine aid_ev_succ ?_
    simp only [spec_wdShift.j0]
    refine Ev.congr (fun k => if_neg (by decide)) ?_
    refine aid_ev_succ ?_
    simp only [spec_wdShift.j1]
    subst hy
    simp
    exact Ev.now _
  rw [hs]
  have e : Int.tmod x 2 = if x < 0 ∧ x % 2 = 1 then -1 else x % 2 := by
    rw [Int.tmod_eq_emod]
    split <;> split <;> omega
  have e2 : Int.tdiv x 2 = if x < 0 ∧ x % 2 = 1 then x / 2 + 1 else x / 2 := by
    rw [Int.tdiv_eq_ediv, show Int.sign 2 = 1 from rfl]
    split <;> split <;> omega
  rw [e, e2]
  by_cases hc : x < 0 ∧ x % 2 = 1
  · simp only [hc, and_self, if_true]
    rw [aid_wr (x := x / 2 + 1) (by omega) (by omega), aid_wr (x := x / 2 + 1 - 1) (by omega) (by omega)]
    exact hj _ (by omega)
  · rw [if_neg hc, if_neg hc, aid_wr (x := x / 2) (by omega) (by omega)]
    have : ¬ x % 2 < 0 := by omega
    simp only [this, if_false]
    exact hj _ rfl

-- spec_wdShift.gen
theorem spec_wdShift.gen (s : Nat) (hs : s ≤ 20) (x mode : Int) (hx0 : -1000000000000 ≤ x) (hx1 : x ≤ 1000000000000) : Ev (fun k => spec_wdShift.f k x (s : Int) mode) (shI (2 ^ s) mode x) := by
  unfold spec_wdShift.f
  obtain ⟨hP0, hP1⟩ := shift_pow s hs
  rw [shift_shl s hs]
  generalize (2 : Int) ^ s = P at hP0 hP1 ⊢
  obtain ⟨e, r0, r1, d0, d1⟩ := shift_div x P hP0
  have hj : ∀ y : Int, y = x / P → Ev (fun k => spec_wdShift.j0 k x mode P y) (shI P mode x) := by
    intro y hy
    subst hy
    refine aid_ev_succ ?_
    have eq1 : wrap64 (x - wrap64 (x / P * P)) = x % P := by
      rw [Int.mul_comm]
      rw [aid_wr (x := P * (x / P)) (by omega) (by omega), aid_wr (by omega) (by omega)]
      omega
    have eq2 : wrap64 (2 * (x % P)) = 2 * (x % P) := aid_wr (by omega) (by omega)
    have eq3 : wrap64 (x / P + 1) = x / P + 1 := by
      apply aid_wr <;> by_cases hx : 0 ≤ x
      · have := d0 hx; omega
      · have := d1 (by omega); omega
      · have := d0 hx; omega
      · have := d1 (by omega); omega
    simp only [spec_wdShift.j0, eq1, eq2]
    clear eq1 eq2
    have EQ3 := Aside0.mk eq3
    clear eq3
    have hT : ∀ c : Bool, (c = true → shI P mode x = x / P + 1) → (c = false → mode = 1 → shI P mode x = x / P) → (c = true → mode = 1) → Ev (fun k => spec_wdShift.j1 k x mode (x / P) (x % P) c) (shI P mode x) := by
      intro c h1 h2 h3
      refine aid_ev_succ ?_
      simp only [spec_wdShift.j1, EQ3.out]
      cases c with
      | true =>
        rw [h1 rfl]
        simp only [if_true]
        exact Ev.now _
      | false =>
        simp only [if_false, Bool.false_eq_true]
        by_cases hm : mode = 1
        · rw [h2 rfl hm]
          rw [if_neg (by omega)]
          exact Ev.now _
        · unfold shI
          by_cases hm2 : mode = 2
          · by_cases hx : x < 0
            · by_cases hr : x % P > 0
              · rw [if_pos hm2, if_pos hx, if_pos hr, if_pos (Or.inr ⟨hm2, hx, hr⟩)]
                exact Ev.now _
              · rw [if_pos hm2, if_pos hx, if_neg hr, if_neg (by omega)]
                exact Ev.now _
            · rw [if_pos hm2, if_neg hx, if_neg (by omega)]
              exact Ev.now _
          · rw [if_neg hm2, if_neg (by omega)]
            exact Ev.now _
    by_cases hm : mode = 1
    · by_cases h2 : 2 * (x % P) ≥ P
      · simp only [if_pos hm, if_pos h2]
        refine hT _ (fun hc => ?_) (fun hc _ => ?_) (fun _ => hm)
        · exact if_pos (Or.inl ⟨hm, h2, of_decide_eq_true hc⟩)
        · have := of_decide_eq_false hc
          exact if_neg (by omega)
      · simp only [if_pos hm, if_neg h2]
        refine hT _ (fun hc => absurd hc (by decide)) (fun hc _ => if_neg (by omega)) (fun _ => hm)
    · simp only [if_neg hm]
      exact hT _ (fun hc => absurd hc (by decide)) (fun _ h => absurd h hm) (fun hc => absurd hc (by decide))
  refine Ev.congr (fun k => if_pos (by omega)) ?_
  refine Ev.congr (fun k => if_neg (by omega)) ?_
  by_cases hx : 0 ≤ x
  · have e1 : Int.tmod x P = x % P := aid_tmod hx
    have e2 : Int.tdiv x P = x / P := aid_tdiv hx
    have := d0 hx
    rw [e1, e2]
    refine Ev.congr (fun k => if_neg (by omega)) ?_
    rw [aid_wr (x := x / P) (by omega) (by omega)]
    exact hj _ rfl
  · obtain ⟨z, rfl⟩ : ∃ z, x = -z := ⟨-x, by omega⟩
    obtain ⟨f, s0, s1, b0, b1⟩ := shift_div z P hP0
    have e1 : Int.tmod (-z) P = -(z % P) := by rw [Int.neg_tmod, aid_tmod (by omega)]
    have e2 : Int.tdiv (-z) P = -(z / P) := by rw [Int.neg_tdiv, aid_tdiv (by omega)]
    have := b0 (by omega)
    rw [e1, e2, aid_wr (x := -(z / P)) (by omega) (by omega)]
    by_cases hr : -(z % P) < 0
    · refine Ev.congr (fun k => if_pos hr) ?_
      rw [aid_wr (x := -(z / P) - 1) (by omega) (by omega)]
      refine hj _ (aid_div (by omega) ?_ ?_).symm
      · rw [Int.mul_sub, Int.mul_neg, Int.mul_one]
        omega
      · rw [Int.mul_sub, Int.mul_neg, Int.mul_one]
        omega
    · refine Ev.congr (fun k => if_neg hr) ?_
      refine hj _ (aid_div (by omega) ?_ ?_).symm
      · rw [Int.mul_neg]
        omega
      · rw [Int.mul_neg]
        omega

-- spec_foRaw
theorem spec_foRaw.ev (a m : Int) (ha : -1024 ≤ a ∧ a ≤ 1024) (s : Nat) (hs : s ≤ 10) (b : Int) (c : Bool) (y x : Int) (hy : -32768 ≤ y ∧ y ≤ 32768) (hx : -1000000 ≤ x ∧ x ≤ 1000000) : Ev (fun k => spec_foRaw.f k a (s : Int) m b c y x) (rawI (2 ^ s) m a y x) := by
  obtain ⟨hP, _⟩ := shift_pow s (by omega)
  have h1 := mul_bound ha hy
  have h2 := shI_small (m := m) hP h1.1 h1.2
  unfold spec_foRaw.f
  rw [aid_wr (x := a * y) (by omega) (by omega)]
  refine Ev.bind (spec_wdShift.gen s (by omega) (a * y) m (by omega) (by omega)) ?_
  rw [aid_wr (x := shI (2 ^ s) m (a * y) + x) (by omega) (by omega)]
  exact Ev.now _

-- spec_l1Most
theorem spec_l1Most.eq (a b : Int) : spec_l1Most.f a b = some (max a b) := by
  unfold spec_l1Most.f
  split <;> simp <;> omega

-- spec_l1Least
theorem spec_l1Least.eq (a b : Int) : spec_l1Least.f a b = some (min a b) := by
  unfold spec_l1Least.f
  split <;> simp <;> omega

-- spec_wdFit
theorem spec_wdFit.eq (t : Nat) (h1 : 1 ≤ t) (h2 : t ≤ 15) (b : Bool) (x : Int) (hx0 : -4611686018427387904 ≤ x) (hx1 : x ≤ 4611686018427387904) : spec_wdFit.f ((t + 1 : Nat) : Int) b x = some (fitI b (2 ^ t) x) := by
  unfold spec_wdFit.f
  rw [spec_wdHigh.eq t h1 h2, spec_wdLow.eq t h1 h2, wrap_shl (t + 1) (by omega)]
  have hp : (2 : Int) ^ (t + 1) = 2 * 2 ^ t := by rw [Int.pow_succ, Int.mul_comm]
  obtain ⟨hH, hH'⟩ := word_pow t h1 h2
  rw [hp]
  generalize (2 : Int) ^ t = H at hH hH' ⊢
  simp only [Option.bind_some, spec_l1Most.eq, spec_l1Least.eq]
  unfold fitI
  by_cases hb : b = true
  · rw [if_pos hb, if_pos hb, if_pos (by omega), if_neg (by omega)]
    obtain ⟨b0, b1⟩ := wrap_tmod_bound x (2 * H) (by omega)
    have hz : Int.tmod (wrap64 (Int.tmod x (2 * H) + 2 * H)) (2 * H) = x % (2 * H) := by
      rw [aid_wr (by omega) (by omega), aid_tmod (by omega), wrap_tmod]
    rw [hz]
    clear hz b0 b1
    have e := Int.mul_ediv_add_emod x (2 * H)
    have r0 := Int.emod_nonneg x (show 2 * H ≠ 0 by omega)
    have r1 := Int.emod_lt_of_pos x (show 0 < 2 * H by omega)
    unfold wI
    by_cases hc : x % (2 * H) > H - 1
    · rw [if_pos hc, aid_wr (by omega) (by omega), aid_emod (x := x + H) (y := x / (2 * H) + 1) (by omega) (by rw [Int.mul_add, Int.mul_one]; omega) (by rw [Int.mul_add, Int.mul_one]; omega), Int.mul_add, Int.mul_one]
      congr 1
      omega
    · rw [if_neg hc, aid_emod (x := x + H) (y := x / (2 * H)) (by omega) (by omega) (by omega)]
      congr 1
      omega
  · rw [if_neg hb, if_neg hb]
    congr 1
    omega

-- spec_foStep
theorem spec_foStep.ev (a m : Int) (ha : -1024 ≤ a ∧ a ≤ 1024) (s : Nat) (hs : s ≤ 10) (t : Nat) (ht1 : 1 ≤ t) (ht2 : t ≤ 15) (c : Bool) (y x : Int) (hy : -32768 ≤ y ∧ y ≤ 32768) (hx : -1000000 ≤ x ∧ x ≤ 1000000) : Ev (fun k => spec_foStep.f k a (s : Int) m ((t + 1 : Nat) : Int) c y x) (fitI c (2 ^ t) (rawI (2 ^ s) m a y x)) := by
  obtain ⟨hP, _⟩ := shift_pow s (by omega)
  have hb := rawI_bound (m := m) hP ha hy hx
  unfold spec_foStep.f
  refine Ev.bind (spec_foRaw.ev a m ha s hs _ c y x hy hx) ?_
  rw [spec_wdFit.eq t ht1 ht2 c _ (by omega) (by omega)]
  exact Ev.now _

-- spec_foCycles
theorem Dfs.hlen {T : Nat → Nat} {N : Nat} {s : Nat} {mk mkF : List Int} {hs hsF : List Nat} (h : Dfs T N s mk hs mkF hsF) : hsF.length + s ≤ hs.length + N ∧ s ≤ N := by
  induction h with
  | done => exact ⟨Nat.le_refl _, Nat.le_refl _⟩
  | @step s mk mk' mkF j hs hsF h1 h2 _ ih =>
    obtain ⟨ih, _⟩ := ih
    split at ih
    · rw [List.length_append, List.length_singleton] at ih
      exact ⟨by omega, by omega⟩
    · exact ⟨by omega, by omega⟩
theorem foc_l1 (a s m b : Int) (c : Bool) (x H : Int) (N : Nat) (T : Nat → Nat) (hN : (N : Int) = 2 * H) (hN2 : N ≤ 100000) (hT : ∀ i, i < N → T i < N) (hS : ∀ i, i < N → Ev (fun k => spec_foStep.f k a s m b c ((i : Int) - H) x) (((T i : Nat) : Int) - H)) {u : Nat} (hu : u < N) {mk mk' : List Int} {i j : Nat} (h : Wk T ((u : Int) + 1) mk i j mk') : mk.length = N → i < N → ∀ (hs : List Nat) (r : List (List Int)), hs.length ≤ N → Ev (fun k => spec_foCycles.l0 k x (-H) mk' (valL H (if mk'.getD j 0 = (u : Int) + 1 then hs ++ [j] else hs)) (((u + 1 : Nat) : Int) - H) a s m b c) r → Ev (fun k => spec_foCycles.l1 k x (-H) mk (valL H hs) ((u : Int) - H) ((i : Int) - H) a s m b c) r := by
  induction h with
  | @stop mk i h0 =>
    intro hl hi hs r hh hr
    have e1 : wrap64 ((i : Int) - H - -H) = (i : Int) := by rw [aid_wr (by omega) (by omega)]; omega
    have e2 : wrap64 ((u : Int) - H - -H) = (u : Int) := by rw [aid_wr (by omega) (by omega)]; omega
    have e3 : wrap64 ((u : Int) + 1) = (u : Int) + 1 := aid_wr (by omega) (by omega)
    have e4 : wrap64 ((u : Int) - H + 1) = ((u + 1 : Nat) : Int) - H := by rw [aid_wr (by omega) (by omega)]; omega
    have e5 : rd mk (i : Int) = mk.getD i 0 := rfl
    refine aid_ev_succ ?_
    simp only [spec_foCycles.l1]
    rw [e1, e2, e3, e4, e5]
    refine Ev.congr (fun k => if_pos (by omega)) (Ev.congr (fun k => if_pos (by omega)) (Ev.congr (fun k => if_neg h0) ?_))
    by_cases hc : mk.getD i 0 = (u : Int) + 1
    · rw [if_pos hc, valL_append, valL_one] at hr
      exact Ev.congr (fun k => if_pos hc) (Ev.congr (fun k => if_pos (by rw [valL_length]; omega)) hr)
    · rw [if_neg hc] at hr
      exact Ev.congr (fun k => if_neg hc) hr
  | @go mk mk' i j h0 h ih =>
    intro hl hi hs r hh hr
    have e1 : wrap64 ((i : Int) - H - -H) = (i : Int) := by rw [aid_wr (by omega) (by omega)]; omega
    have e2 : wrap64 ((u : Int) - H - -H) = (u : Int) := by rw [aid_wr (by omega) (by omega)]; omega
    have e3 : wrap64 ((u : Int) + 1) = (u : Int) + 1 := aid_wr (by omega) (by omega)
    have e5 : rd mk (i : Int) = mk.getD i 0 := rfl
    have h2 := ih (by simpa using hl) (hT i hi) hs r hh hr
    refine aid_ev_succ ?_
    simp only [spec_foCycles.l1]
    rw [e1, e2, e3, e5, Int.toNat_natCast]
    exact Ev.congr (fun k => if_pos (by omega)) (Ev.congr (fun k => if_pos (by omega)) (Ev.congr (fun k => if_pos h0) (Ev.bind (hS i hi) h2)))
theorem foc_l0 (a s m b : Int) (c : Bool) (x H : Int) (N : Nat) (T : Nat → Nat) (hN : (N : Int) = 2 * H) (hN2 : N ≤ 100000) (hT : ∀ i, i < N → T i < N) (hHi : spec_wdHigh.f b c = some (H - 1)) (hS : ∀ i, i < N → Ev (fun k => spec_foStep.f k a s m b c ((i : Int) - H) x) (((T i : Nat) : Int) - H)) {u : Nat} {mk mkF : List Int} {hs hsF : List Nat} (h : Dfs T N u mk hs mkF hsF) : mk.length = N → hs.length ≤ u → ∀ r : List (List Int), Ev (fun k => spec_foCycles.l2 k x (valL H hsF) [] (hsF.length : Int) 0 a s m b c) r → Ev (fun k => spec_foCycles.l0 k x (-H) mk (valL H hs) ((u : Int) - H) a s m b c) r := by
  induction h with
  | @done mk hs =>
    intro hl hh r hr
    refine aid_ev_succ ?_
    simp only [spec_foCycles.l0, hHi, Option.bind_some]
    refine Ev.congr (fun k => if_neg (by omega)) ?_
    rw [valL_length]
    exact hr
  | @step u mk mk' mkF j hs hsF h1 h2 h3 ih =>
    intro hl hh r hr
    have F := h2.facts hT (by omega) hl h1
    have h4 := foc_l1 a s m b c x H N T hN hN2 hT hS h1 h2 hl h1 hs r (by omega) (ih F.len (by
      split
      · rw [List.length_append, List.length_singleton]; omega
      · omega) r hr)
    refine aid_ev_succ ?_
    simp only [spec_foCycles.l0, hHi, Option.bind_some]
    exact Ev.congr (fun k => if_pos (by omega)) h4
theorem foc_l3 (a s m b : Int) (c : Bool) (x H : Int) (N : Nat) (T : Nat → Nat) (hN : (N : Int) = 2 * H) (hN2 : N ≤ 100000) (hT : ∀ i, i < N → T i < N) (hS : ∀ i, i < N → Ev (fun k => spec_foStep.f k a s m b c ((i : Int) - H) x) (((T i : Nat) : Int) - H)) (x7 : List Int) (o : List (List Int)) (x71 x72 : Int) {h p : Nat} (hc : OnC T h p) (hh : h < N) : ∀ d n l, n + d = p → 1 ≤ n → l < n → (∀ t, t < n → itN T l h ≤ itN T t h) → ∃ l', l' < p ∧ (∀ t, t < p → itN T l' h ≤ itN T t h) ∧ ∀ r : List (List Int), Ev (fun k => spec_foCycles.l4 k x x7 o (valL H (cycL T (itN T l' h) p)) (o.length : Int) x71 x72 a s m b c) r → Ev (fun k => spec_foCycles.l3 k x x7 o ((h : Int) - H) (valL H (cycL T h n)) (l : Int) (((itN T n h : Nat) : Int) - H) x71 x72 a s m b c) r := by
  have hp := hc.le hT hh
  intro d
  induction d with
  | zero =>
    intro n l hn h1 hl hm
    obtain rfl : n = p := by omega
    refine ⟨l, hl, hm, fun r hr => ?_⟩
    refine aid_ev_succ ?_
    simp only [spec_foCycles.l3, Option.bind_some, List.nil_append, List.length_nil]
    have e1 : (valL H (cycL T h n)).drop (l : Int).toNat ++ (valL H (cycL T h n)).take (l : Int).toNat = valL H (cycL T (itN T l h) n) := by
      rw [Int.toNat_natCast, ← hc.turn (by omega : l ≤ n)]
      simp [valL]
    refine Ev.congr (fun k => if_pos (by rw [hc.ret])) (Ev.congr (fun k => if_pos (by omega)) (Ev.congr (fun k => if_pos (by rw [valL_length, cycL_length]; omega)) (Ev.congr (fun k => if_pos (by rw [List.length_drop, valL_length, cycL_length]; omega)) (Ev.congr (fun k => if_pos (by rw [List.length_drop, List.length_take, valL_length, cycL_length]; omega)) ?_))))
    rw [e1]
    exact hr
  | succ d ih =>
    intro n l hn h1 hl hm
    have hne : itN T n h ≠ h := hc.first n (by omega) (by omega)
    have hst := hS (itN T n h) (itN_lt hT n h hh)
    by_cases hcc : itN T n h < itN T l h
    · obtain ⟨l', h2, h3, h4⟩ := ih (n + 1) n (by omega) (by omega) (by omega) (fun t ht => by
        by_cases e : t = n
        · subst e; exact Nat.le_refl _
        · have := hm t (by omega); omega)
      refine ⟨l', h2, h3, fun r hr => ?_⟩
      have h5 := h4 r hr
      rw [← valL_snoc, itN_succ] at h5
      refine aid_ev_succ ?_
      simp only [spec_foCycles.l3]
      refine Ev.congr (fun k => if_neg (by omega)) (Ev.congr (fun k => if_pos (by omega)) (Ev.congr (fun k => if_pos (by rw [valL_length, cycL_length]; omega)) (Ev.congr (fun k => if_pos (by rw [valL_rd H T h n l hl]; omega)) (Ev.congr (fun k => if_pos (by rw [valL_length, cycL_length]; omega)) ?_))))
      rw [valL_length, cycL_length]
      exact Ev.bind hst h5
    · obtain ⟨l', h2, h3, h4⟩ := ih (n + 1) l (by omega) (by omega) (by omega) (fun t ht => by
        by_cases e : t = n
        · subst e; omega
        · exact hm t (by omega))
      refine ⟨l', h2, h3, fun r hr => ?_⟩
      have h5 := h4 r hr
      rw [← valL_snoc, itN_succ] at h5
      refine aid_ev_succ ?_
      simp only [spec_foCycles.l3]
      exact Ev.congr (fun k => if_neg (by omega)) (Ev.congr (fun k => if_pos (by omega)) (Ev.congr (fun k => if_pos (by rw [valL_length, cycL_length]; omega)) (Ev.congr (fun k => if_neg (by rw [valL_rd H T h n l hl]; omega)) (Ev.congr (fun k => if_pos (by rw [valL_length, cycL_length]; omega)) (Ev.bind hst h5)))))
theorem foc_l4 (a s m b : Int) (c : Bool) (x : Int) (x7 : List Int) (o : List (List Int)) (x71 : Int) (u : Nat) (hu : u ≤ 1000000) (q : List Int) (hq : 0 < q.length) (ho : ∀ z ∈ o, 0 < z.length) (hol : o.length ≤ 1000000) : ∀ k, k ≤ o.length → (∀ j (hj : j < o.length), k ≤ j → ¬ rd o[j] 0 ≤ rd q 0) → ∃ k', k' ≤ o.length ∧ (∀ j (hj : j < o.length), k' ≤ j → ¬ rd o[j] 0 ≤ rd q 0) ∧ (k' = 0 ∨ ∃ h : k' - 1 < o.length, rd o[k' - 1] 0 ≤ rd q 0) ∧ ∀ r : List (List Int), Ev (fun n => spec_foCycles.l2 n x x7 (o.take k' ++ [q] ++ o.drop k') x71 ((u + 1 : Nat) : Int) a s m b c) r → Ev (fun n => spec_foCycles.l4 n x x7 o q (k : Int) x71 (u : Int) a s m b c) r := by
  have fin : ∀ k, k ≤ o.length → (o.take k ++ [q]).length + (o.drop k).length < 5864062014805 ∧ (o.take k).length < 5864062014805 := by
    intro k hk
    rw [List.length_append, List.length_take, List.length_drop, List.length_singleton]
    omega
  intro k
  induction k with
  | zero =>
    intro _ hj
    obtain ⟨f1, f2⟩ := fin 0 (by omega)
    refine ⟨0, by omega, hj, .inl rfl, fun r hr => ?_⟩
    refine aid_ev_succ ?_
    simp only [spec_foCycles.l4, Option.bind_some, List.nil_append, List.length_nil, Nat.zero_add]
    rw [aid_next (by omega)]
    exact Ev.congr (fun k => if_neg (by omega)) (Ev.congr (fun k => if_pos (by omega)) (Ev.congr (fun k => if_pos (by omega)) (Ev.congr (fun k => if_pos f2) (Ev.congr (fun k => if_pos f2) (Ev.congr (fun k => if_pos f1) hr)))))
  | succ k ih =>
    intro hk hj
    have e1 : wrap64 (((k + 1 : Nat) : Int) - 1) = (k : Int) := by rw [aid_wr (by omega) (by omega)]; omega
    have e2 : rd_L1 o (k : Int) = o[k] := by
      unfold rd_L1
      rw [List.getD_eq_getElem?_getD, Int.toNat_natCast, List.getElem?_eq_getElem (by omega)]
      rfl
    have hz := ho o[k] (List.getElem_mem (by omega))
    by_cases hc : rd o[k] 0 ≤ rd q 0
    · obtain ⟨f1, f2⟩ := fin (k + 1) (by omega)
      refine ⟨k + 1, hk, hj, .inr ⟨by omega, hc⟩, fun r hr => ?_⟩
      refine aid_ev_succ ?_
      simp only [spec_foCycles.l4, Option.bind_some, List.nil_append, List.length_nil, Nat.zero_add]
      rw [aid_next (by omega), e1, e2]
      exact Ev.congr (fun k => if_pos (by omega)) (Ev.congr (fun k => if_pos (by omega)) (Ev.congr (fun k => if_pos (by omega)) (Ev.congr (fun k => if_pos (by omega)) (Ev.congr (fun k => if_pos (by omega)) (Ev.congr (fun k => if_neg (by omega)) (Ev.congr (fun k => if_pos (by omega)) (Ev.congr (fun k => if_pos (by omega)) (Ev.congr (fun k => if_pos f2) (Ev.congr (fun k => if_pos f2) (Ev.congr (fun k => if_pos f1) hr))))))))))
    · obtain ⟨k', h1, h2, h3, h4⟩ := ih (by omega) (fun j hj' hkj => by
        by_cases e : j = k
        · subst e; exact hc
        · exact hj j hj' (by omega))
      refine ⟨k', h1, h2, h3, fun r hr => ?_⟩
      have h5 := h4 r hr
      refine aid_ev_succ ?_
      simp only [spec_foCycles.l4]
      rw [e1, e2]
      exact Ev.congr (fun k => if_pos (by omega)) (Ev.congr (fun k => if_pos (by omega)) (Ev.congr (fun k => if_pos (by omega)) (Ev.congr (fun k => if_pos (by omega)) (Ev.congr (fun k => if_pos (by omega)) (Ev.congr (fun k => if_pos (by omega)) h5)))))
theorem foc_l2 (a s m b : Int) (c : Bool) (x H : Int) (N : Nat) (T : Nat → Nat) (hN : (N : Int) = 2 * H) (hN2 : N ≤ 100000) (hT : ∀ i, i < N → T i < N) (hS : ∀ i, i < N → Ev (fun k => spec_foStep.f k a s m b c ((i : Int) - H) x) (((T i : Nat) : Int) - H)) (hs : List Nat) (hsl : hs.length ≤ N) (hall : ∀ h ∈ hs, h < N ∧ ∃ p, OnC T h p) : ∀ d u (o : List (List Int)), u + d = hs.length → o.length = u → (∀ z ∈ o, 0 < z.length) → o.Pairwise (fun u v => rd u 0 ≤ rd v 0) → ∃ S cs : List (List Int), Ev (fun k => spec_foCycles.l2 k x (valL H hs) o (hs.length : Int) (u : Int) a s m b c) S ∧ Both (CycOf T H) (hs.drop u) cs ∧ S.Perm (o ++ cs) ∧ S.Pairwise (fun u v => rd u 0 ≤ rd v 0) := by
  intro d
  induction d with
  | zero =>
    intro u o hu ho hz hp
    refine ⟨o, [], ?_, ?_, by simp, hp⟩
    · refine aid_ev_succ ?_
      simp only [spec_foCycles.l2]
      exact Ev.congr (fun k => if_neg (by omega)) (Ev.now _)
    · rw [List.drop_eq_nil_of_le (by omega)]
      exact .nil
  | succ d ih =>
    intro u o hu ho hz hp
    have hu' : u < hs.length := by omega
    obtain ⟨hh, p, hc⟩ := hall _ (List.getElem_mem hu')
    obtain ⟨l, l1, l2, l3⟩ := foc_l3 a s m b c x H N T hN hN2 hT hS (valL H hs) o (hs.length : Int) (u : Int) hc hh (p - 1) 1 0 (by have := hc.pos; omega) (by omega) (by omega) (fun t ht => by rw [show t = 0 by omega]; exact Nat.le_refl _)
    have hq : 0 < (valL H (cycL T (itN T l hs[u]) p)).length := by rw [valL_length, cycL_length]; exact hc.pos
    obtain ⟨k, k1, k2, k3, k4⟩ := foc_l4 a s m b c x (valL H hs) o (hs.length : Int) u (by omega) _ hq hz (by omega) o.length (Nat.le_refl _) (fun j hj h => by omega)
    obtain ⟨i1, i2⟩ := ins_ok (fun u v : List Int => rd u 0 ≤ rd v 0) (fun a b => by omega) (fun a b c h1 h2 => by omega) o _ k k1 k2 k3 hp
    obtain ⟨S, cs, s1, s2, s3, s4⟩ := ih (u + 1) _ (by omega) (by rw [i2.length_eq]; simp; omega) (fun z hz' => by
      rcases List.mem_append.1 (i2.mem_iff.1 hz') with h | h
      · exact hz z h
      · rw [List.mem_singleton.1 h]; exact hq) i1
    refine ⟨S, valL H (cycL T (itN T l hs[u]) p) :: cs, ?_, ?_, ?_, s4⟩
    · have h5 := l3 S (k4 S s1)
      have e1 : valL H (cycL T hs[u] 1) = [(hs[u] : Int) - H] := rfl
      rw [e1] at h5
      have hrd : rd (valL H hs) (u : Int) = (hs[u] : Int) - H := by
        rw [aid_rd _ u (by rw [valL_length]; omega)]
        simp [valL]
      refine aid_ev_succ ?_
      simp only [spec_foCycles.l2]
      rw [hrd]
      exact Ev.congr (fun k => if_pos (by omega)) (Ev.congr (fun k => if_pos (by omega)) (Ev.congr (fun k => if_pos (by rw [valL_length]; omega)) (Ev.bind (hS _ hh) h5)))
    · rw [List.drop_eq_getElem_cons hu']
      exact .cons ⟨p, l, hc, l1, l2, rfl⟩ s2
    · refine s3.trans ?_
      have h6 := i2.append_right cs
      rwa [List.append_assoc o, List.singleton_append] at h6
theorem foc_all (a s m b : Int) (c : Bool) (x H : Int) (N : Nat) (T : Nat → Nat) (hN : (N : Int) = 2 * H) (hN2 : N ≤ 100000) (hT : ∀ i, i < N → T i < N) (hHi : spec_wdHigh.f b c = some (H - 1)) (hS : ∀ i, i < N → Ev (fun k => spec_foStep.f k a s m b c ((i : Int) - H) x) (((T i : Nat) : Int) - H)) : ∃ (S cs : List (List Int)) (hs : List Nat), Ev (fun k => spec_foCycles.l0 k x (-H) (List.replicate N 0) [] (-H) a s m b c) S ∧ Heads T N hs ∧ Both (CycOf T H) hs cs ∧ S.Perm cs ∧ S.Pairwise (fun u v => rd u 0 ≤ rd v 0) := by
  obtain ⟨mkF, hsF, hD⟩ := dfs_ex hT N 0 (List.replicate N 0) [] (by omega) (by simp)
  have hH := dfs_heads hT hD
  have hl := hD.hlen.1
  rw [List.length_nil] at hl
  obtain ⟨S, cs, s1, s2, s3, s4⟩ := foc_l2 a s m b c x H N T hN hN2 hT hS hsF (by omega) hH.head hsF.length 0 [] (by omega) rfl (by simp) .nil
  rw [List.drop_zero] at s2
  rw [List.nil_append] at s3
  have h := foc_l0 a s m b c x H N T hN hN2 hT hHi hS hD (by simp) (by simp) S s1
  rw [show ((0 : Nat) : Int) - H = -H by omega] at h
  exact ⟨S, cs, hsF, h, hH, s2, s3, s4⟩

-- spec_l1Abs
theorem spec_l1Abs.eq {x : Int} (h : -9223372036854775807 ≤ x) (h' : x ≤ 9223372036854775807) : spec_l1Abs.f x = some (x.natAbs : Int) := by
  unfold spec_l1Abs.f
  rw [aid_wr (by omega) (by omega), spec_l1Most.eq]
  simp
  omega

-- spec_wdPeak
theorem spec_wdPeak.l0_ev (l : List Int) (hl : l.length ≤ 1000000000000000) (hb : ∀ x ∈ l, -9223372036854775807 ≤ x ∧ x ≤ 9223372036854775807) : ∀ (d i : Nat) (a : Int), i + d = l.length → Ev (fun k => spec_wdPeak.l0 k a l (l.length : Int) (i : Int)) (peakL (l.drop i) a) := by
  intro d
  induction d with
  | zero =>
    intro i a h
    rw [List.drop_eq_nil_of_le (by omega)]
    refine Ev.step (fun k => ?_) (Ev.now _)
    simp only [spec_wdPeak.l0]
    rw [if_neg (by omega)]
    rfl
  | succ d ih =>
    intro i a h
    have hi' : i < l.length := by omega
    have hm := hb l[i] (List.getElem_mem hi')
    rw [List.drop_eq_getElem_cons hi']
    refine Ev.step (fun k => ?_) (ih (i + 1) _ (by omega))
    simp only [spec_wdPeak.l0]
    rw [if_pos (by omega), if_pos (by omega), if_pos (by omega), aid_rd l i hi', spec_l1Abs.eq hm.1 hm.2, aid_next (by omega)]
    simp only [Option.bind_some, spec_l1Most.eq]
theorem spec_wdPeak.ev (l : List Int) (hl : l.length ≤ 1000000000000000) (hb : ∀ x ∈ l, -9223372036854775807 ≤ x ∧ x ≤ 9223372036854775807) : Ev (fun k => spec_wdPeak.f k l) (peakL l 0) :=
  spec_wdPeak.l0_ev l hl hb l.length 0 0 (by omega)

-- impl_in
theorem impl_in.eq (a lo hi : Int) : impl_in.f a lo hi = some (decide (lo ≤ a ∧ a ≤ hi)) := by
  unfold impl_in.f
  by_cases h : lo ≤ a <;> simp [h]

-- impl_isFactor
theorem impl_isFactor.eq (a : Int) : impl_isFactor.f a = some (decide (-1024 ≤ a ∧ a ≤ 1024)) := by
  unfold impl_isFactor.f
  rw [impl_in.eq]
  rfl

-- impl_isScale
theorem impl_isScale.eq (s m : Int) : impl_isScale.f s m = some (decide (0 ≤ s ∧ s ≤ 10) && decide (0 ≤ m ∧ m ≤ 2)) := by
  unfold impl_isScale.f
  rw [impl_in.eq, impl_in.eq]
  cases decide (0 ≤ s ∧ s ≤ 10) <;> rfl

-- impl_isWord
theorem impl_isWord.eq (n : Int) (b : Bool) : impl_isWord.f n b = some (decide (2 ≤ n ∧ n ≤ 16)) := by
  unfold impl_isWord.f
  rw [impl_in.eq]
  rfl

-- impl_isFirst
theorem impl_isFirst.eq (a s m b : Int) (c : Bool) : impl_isFirst.f a s m b c = some (firstB a s m b) := by
  unfold impl_isFirst.f firstB
  rw [impl_isFactor.eq, impl_isScale.eq, impl_isWord.eq]
  by_cases h1 : -1024 ≤ a ∧ a ≤ 1024
  · by_cases h2 : 0 ≤ s ∧ s ≤ 10
    · by_cases h3 : 0 ≤ m ∧ m ≤ 2
      · simp [h1, h2, h3]
      · simp [h1, h2, h3]
    · simp [h1, h2]
  · simp [h1]

-- impl_First_isScanned
theorem impl_First_isScanned.eq (a s m b : Int) (c : Bool) (x : Int) : impl_First_isScanned.f a s m b c x = some (scanB a s m b x) := by
  unfold impl_First_isScanned.f scanB
  have hS : impl_isSample.f x = some (decide (-100000 ≤ x ∧ x ≤ 100000)) := by
    unfold impl_isSample.f
    rw [impl_in.eq]
    rfl
  rw [impl_isFirst.eq, hS]
  cases h : firstB a s m b with
  | false => rfl
  | true =>
    by_cases h2 : b ≤ 10
    · simp [h2]
    · simp [h2]

-- impl_shifted
theorem impl_shifted.ev (s : Nat) (hs : s ≤ 20) (x mode : Int) (hx0 : -1000000000000 ≤ x) (hx1 : x ≤ 1000000000000) : Ev (fun k => impl_shifted.f k x (s : Int) mode) (shI (2 ^ s) mode x) := by
  have hN : mode ≠ 1 ∨ s = 0 → Ev (fun k => impl_shifted.j0 k x (s : Int) mode false) (shI (2 ^ s) mode x) := by
    intro hm
    refine aid_ev_succ ?_
    simp only [impl_shifted.j0, shift_shr s hs, Bool.false_eq_true, if_false]
    have hz : s = 0 → x % 2 ^ s = 0 := fun h => by rw [h, Int.pow_zero, Int.emod_one]
    obtain ⟨hP0, hP1⟩ := shift_pow s hs
    generalize (2 : Int) ^ s = P at hP0 hP1 hz ⊢
    obtain ⟨e, r0, r1, d0, d1⟩ := shift_div x P hP0
    unfold shI
    by_cases hm2 : mode = 2
    · by_cases hx : x < 0
      · rw [if_pos hm2, if_pos hx, if_pos (by omega), aid_wr (x := -x) (by omega) (by omega)]
        obtain ⟨f, s0, s1, b0, b1⟩ := shift_div (-x) P hP0
        have hb := b0 (by omega)
        rw [aid_wr (x := -(-x / P)) (by omega) (by omega)]
        by_cases hr : x % P > 0
        · rw [if_pos (Or.inr ⟨hm2, hx, hr⟩)]
          have : -x / P = -(x / P + 1) := aid_div (by omega) (by rw [Int.mul_neg, Int.mul_add, Int.mul_one]; omega) (by rw [Int.mul_neg, Int.mul_add, Int.mul_one]; omega)
          rw [this, Int.neg_neg]
          exact Ev.now _
        · rw [if_neg (by omega)]
          have : -x / P = -(x / P) := aid_div (by omega) (by rw [Int.mul_neg]; omega) (by rw [Int.mul_neg]; omega)
          rw [this, Int.neg_neg]
          exact Ev.now _
      · rw [if_pos hm2, if_neg hx, if_pos (by omega), if_neg (by omega)]
        exact Ev.now _
    · rw [if_neg hm2, if_pos (by omega), if_neg (by omega)]
      exact Ev.now _
  unfold impl_shifted.f
  by_cases hm : mode = 1
  · refine Ev.congr (fun k => if_pos hm) ?_
    by_cases hs0 : s = 0
    · rw [decide_eq_false (by omega)]
      exact hN (.inr hs0)
    · rw [decide_eq_true (by omega)]
      refine aid_ev_succ ?_
      obtain ⟨t, rfl⟩ : ∃ t, s = t + 1 := ⟨s - 1, by omega⟩
      have et : wrap64 (((t + 1 : Nat) : Int) - 1) = (t : Int) := by
        rw [aid_wr (by omega) (by omega)]
        omega
      simp only [impl_shifted.j0, shift_shr (t + 1) hs, if_true, et, shift_shl t (by omega)]
      clear et
      have hpw : (2 : Int) ^ (t + 1) = 2 * 2 ^ t := by rw [Int.pow_succ, Int.mul_comm]
      obtain ⟨hP0, hP1⟩ := shift_pow t (by omega)
      rw [hpw]
      generalize (2 : Int) ^ t = H at hP0 hP1 ⊢
      obtain ⟨e, r0, r1, d0, d1⟩ := shift_div x (2 * H) (by omega)
      rw [if_pos (by omega), if_pos (by omega), aid_wr (x := x + H) (by omega) (by omega)]
      unfold shI
      by_cases hr : 2 * (x % (2 * H)) ≥ 2 * H
      · rw [if_pos (Or.inl ⟨hm, hr, by omega⟩)]
        have : (x + H) / (2 * H) = x / (2 * H) + 1 := aid_div (by omega) (by rw [Int.mul_add, Int.mul_one]; omega) (by rw [Int.mul_add, Int.mul_one]; omega)
        rw [this]
        exact Ev.now _
      · rw [if_neg (by omega)]
        have : (x + H) / (2 * H) = x / (2 * H) := aid_div (by omega) (by omega) (by omega)
        rw [this]
        exact Ev.now _
  · refine Ev.congr (fun k => if_neg hm) ?_
    exact hN (.inl hm)

-- impl_First_raw
theorem impl_First_raw.ev (a m : Int) (ha : -1024 ≤ a ∧ a ≤ 1024) (s : Nat) (hs : s ≤ 10) (b : Int) (c : Bool) (y x : Int) (hy : -32768 ≤ y ∧ y ≤ 32768) (hx : -1000000 ≤ x ∧ x ≤ 1000000) : Ev (fun k => impl_First_raw.f k a (s : Int) m b c y x) (rawI (2 ^ s) m a y x) := by
  obtain ⟨hP, _⟩ := shift_pow s (by omega)
  have h1 := mul_bound ha hy
  have h2 := shI_small (m := m) hP h1.1 h1.2
  unfold impl_First_raw.f
  rw [aid_wr (x := a * y) (by omega) (by omega)]
  refine Ev.bind (impl_shifted.ev s (by omega) (a * y) m (by omega) (by omega)) ?_
  rw [aid_wr (x := shI (2 ^ s) m (a * y) + x) (by omega) (by omega)]
  exact Ev.now _

-- impl_Word_ends
theorem impl_Word_ends.eq (t : Nat) (h1 : 1 ≤ t) (h2 : t ≤ 15) (b : Bool) : impl_Word_ends.f ((t + 1 : Nat) : Int) b = some (-(2 ^ t), 2 ^ t - 1) := by
  obtain ⟨hH, hH'⟩ := word_pow t h1 h2
  unfold impl_Word_ends.f
  rw [show wrap64 (((t + 1 : Nat) : Int) - 1) = (t : Int) by rw [aid_wr (by omega) (by omega)]; omega, if_pos (by omega), wrap_shl t (by omega), aid_wr (x := -(2 ^ t)) (by omega) (by omega), aid_wr (x := 2 ^ t - 1) (by omega) (by omega)]

-- impl_mod
theorem impl_mod.eq (a M : Int) (hM : 0 < M) (hM' : M ≤ 4611686018427387904) : impl_mod.f a M = some (a % M) := by
  obtain ⟨b0, b1⟩ := wrap_tmod_bound a M hM
  unfold impl_mod.f
  rw [if_neg (by omega), aid_wr (x := Int.tmod a M + M) (by omega) (by omega), aid_tmod (by omega), wrap_tmod]

-- impl_Word_fit
theorem impl_Word_fit.eq (t : Nat) (h1 : 1 ≤ t) (h2 : t ≤ 15) (b : Bool) (x : Int) (hx0 : -4611686018427387904 ≤ x) (hx1 : x ≤ 4611686018427387904) : impl_Word_fit.f ((t + 1 : Nat) : Int) b x = some (fitI b (2 ^ t) x) := by
  unfold impl_Word_fit.f
  rw [impl_Word_ends.eq t h1 h2]
  obtain ⟨hH, hH'⟩ := word_pow t h1 h2
  generalize (2 : Int) ^ t = H at hH hH' ⊢
  simp only [Option.bind_some]
  unfold fitI
  by_cases hb : b = true
  · rw [if_pos hb, if_pos hb, aid_wr (x := x - -H) (by omega) (by omega), aid_wr (x := H - 1 - -H) (by omega) (by omega), aid_wr (x := H - 1 - -H + 1) (by omega) (by omega), impl_mod.eq _ _ (by omega) (by omega)]
    simp only [Option.bind_some]
    rw [show x - -H = x + H by omega, show H - 1 - -H + 1 = 2 * H by omega]
    have r0 := Int.emod_nonneg (x + H) (show 2 * H ≠ 0 by omega)
    have r1 := Int.emod_lt_of_pos (x + H) (show 0 < 2 * H by omega)
    rw [aid_wr (x := (x + H) % (2 * H) + -H) (by omega) (by omega)]
    rfl
  · rw [if_neg hb, if_neg hb]
    congr 1
    unfold mn mx
    split <;> split <;> omega

-- impl_First_step
theorem impl_First_step.ev (a m : Int) (ha : -1024 ≤ a ∧ a ≤ 1024) (s : Nat) (hs : s ≤ 10) (t : Nat) (ht1 : 1 ≤ t) (ht2 : t ≤ 15) (c : Bool) (y x : Int) (hy : -32768 ≤ y ∧ y ≤ 32768) (hx : -1000000 ≤ x ∧ x ≤ 1000000) : Ev (fun k => impl_First_step.f k a (s : Int) m ((t + 1 : Nat) : Int) c y x) (fitI c (2 ^ t) (rawI (2 ^ s) m a y x)) := by
  obtain ⟨hP, _⟩ := shift_pow s (by omega)
  have hb := rawI_bound (m := m) hP ha hy hx
  unfold impl_First_step.f
  refine Ev.bind (impl_First_raw.ev a m ha s hs _ c y x hy hx) ?_
  rw [impl_Word_fit.eq t ht1 ht2 c _ (by omega) (by omega)]
  exact Ev.now _

-- impl_First_cycles
theorem cyc_walk (a s m b : Int) (c : Bool) (x H : Int) (N : Nat) (T : Nat → Nat) (hN : (N : Int) = 2 * H) (hN2 : N ≤ 100000) (hT : ∀ i, i < N → T i < N) (hS : ∀ i, i < N → Ev (fun k => impl_First_step.f k a s m b c ((i : Int) - H) x) (((T i : Nat) : Int) - H)) (i : Nat) (hi : i < N) : ∀ d n, n + d = N + 1 → 0 < n → (∀ t, 0 < t → t < n → i < itN T t i) → ∃ n', Ev (fun k => impl_First_cycles.walk k a s m b c x ((i : Int) - H) (N : Int) (valL H (cycL T i n)) (((itN T n i : Nat) : Int) - H)) (valL H (cycL T i n'), ((itN T n' i : Nat) : Int) - H) ∧ n' ≤ N + 1 ∧ (itN T n' i = i → OnC T i n' ∧ LeastC T i) ∧ (LeastC T i → itN T n' i = i) := by
  have stop : ∀ n, n ≤ N + 1 → 0 < n → (∀ t, 0 < t → t < n → i < itN T t i) → itN T n i ≤ i → ∃ n', Ev (fun k => impl_First_cycles.walk k a s m b c x ((i : Int) - H) (N : Int) (valL H (cycL T i n)) (((itN T n i : Nat) : Int) - H)) (valL H (cycL T i n'), ((itN T n' i : Nat) : Int) - H) ∧ n' ≤ N + 1 ∧ (itN T n' i = i → OnC T i n' ∧ LeastC T i) ∧ (LeastC T i → itN T n' i = i) := by
    intro n hn h0 hp hle
    refine ⟨n, ?_, hn, fun e => ?_, fun h => Nat.le_antisymm hle (h.2 n)⟩
    · refine aid_ev_succ ?_
      simp only [impl_First_cycles.walk]
      exact Ev.congr (fun k => if_neg (by omega)) (Ev.now _)
    · have hc : OnC T i n := ⟨h0, e, fun q h1 h2 e2 => by have := hp q h1 h2; omega⟩
      refine ⟨hc, ⟨n, hc⟩, fun t => ?_⟩
      rw [itN_mod e t]
      have hl := Nat.mod_lt t h0
      by_cases h1 : t % n = 0
      · rw [h1]; exact Nat.le_refl _
      · exact Nat.le_of_lt (hp _ (by omega) hl)
  intro d
  induction d with
  | zero =>
    intro n hn h0 hp
    by_cases hle : itN T n i ≤ i
    · exact stop n (by omega) h0 hp hle
    · refine ⟨n, ?_, by omega, fun e => by omega, fun h => ?_⟩
      · refine aid_ev_succ ?_
        simp only [impl_First_cycles.walk]
        refine Ev.congr (fun k => if_pos (by omega)) (Ev.congr (fun k => if_neg ?_) (Ev.now _))
        rw [valL_length, cycL_length]
        omega
      · obtain ⟨p, hc⟩ := h.1
        have h1 := hc.le hT hi
        have h2 := hp p hc.pos (by omega)
        rw [hc.ret] at h2
        omega
  | succ d ih =>
    intro n hn h0 hp
    by_cases hle : itN T n i ≤ i
    · exact stop n (by omega) h0 hp hle
    · obtain ⟨n', h1, h2⟩ := ih (n + 1) (by omega) (by omega) (fun t h1 h2 => by
        by_cases e : t = n
        · subst e; omega
        · exact hp t h1 (by omega))
      refine ⟨n', ?_, h2⟩
      have hst := hS (itN T n i) (itN_lt hT n i hi)
      refine aid_ev_succ ?_
      simp only [impl_First_cycles.walk]
      refine Ev.congr (fun k => if_pos (by omega)) (Ev.congr (fun k => if_pos ?_) (Ev.congr (fun k => if_pos ?_) ?_))
      · rw [valL_length, cycL_length]; omega
      · rw [valL_length, cycL_length]; omega
      · rw [valL_snoc]
        rw [itN_succ] at h1
        exact Ev.bind hst h1
theorem cyc_one (a s m b : Int) (c : Bool) (x H : Int) (N : Nat) (T : Nat → Nat) (hN : (N : Int) = 2 * H) (hN2 : N ≤ 100000) (hT : ∀ i, i < N → T i < N) (hS : ∀ i, i < N → Ev (fun k => impl_First_step.f k a s m b c ((i : Int) - H) x) (((T i : Nat) : Int) - H)) (i : Nat) (hi : i < N) : ∃ n', Ev (fun k => impl_First_cycles.one k a s m b c x ((i : Int) - H) (N : Int)) (valL H (cycL T i n'), ((itN T n' i : Nat) : Int) - H) ∧ n' ≤ N + 1 ∧ (itN T n' i = i → OnC T i n' ∧ LeastC T i) ∧ (LeastC T i → itN T n' i = i) := by
  obtain ⟨n', h1, h2⟩ := cyc_walk a s m b c x H N T hN hN2 hT hS i hi N 1 (by omega) (by omega) (fun t h1 h2 => by omega)
  refine ⟨n', ?_, h2⟩
  unfold impl_First_cycles.one
  refine Ev.bind (hS i hi) ?_
  have e : valL H (cycL T i 1) = [(i : Int) - H] := rfl
  rw [e] at h1
  exact h1
theorem cyc_l0 (a s m b : Int) (c : Bool) (x H : Int) (N : Nat) (T : Nat → Nat) (hN : (N : Int) = 2 * H) (hN2 : N ≤ 100000) (hT : ∀ i, i < N → T i < N) (hS : ∀ i, i < N → Ev (fun k => impl_First_step.f k a s m b c ((i : Int) - H) x) (((T i : Nat) : Int) - H)) : ∀ (d i : Nat) (o : List (List Int)), i + d = N → o.length ≤ i → ∃ R : List (List Int), Ev (fun k => impl_First_cycles.l0 k a s m b c x (N : Int) (H - 1) o ((i : Int) - H)) (o ++ R) ∧ R.length ≤ d ∧ (∀ q ∈ R, q.length ≤ N + 1) ∧ R.Pairwise (fun u v => rd u 0 < rd v 0) ∧ ∀ q, q ∈ R ↔ ∃ j p, i ≤ j ∧ j < N ∧ LeastC T j ∧ OnC T j p ∧ q = valL H (cycL T j p) := by
  intro d
  induction d with
  | zero =>
    intro i o hi ho
    refine ⟨[], ?_, by simp, by simp, .nil, fun q => ⟨fun h => by simp at h, fun ⟨j, p, h1, h2, _⟩ => by omega⟩⟩
    refine aid_ev_succ ?_
    simp only [impl_First_cycles.l0, List.append_nil]
    exact Ev.congr (fun k => if_neg (by omega)) (Ev.now _)
  | succ d ih =>
    intro i o hi ho
    obtain ⟨n, h1, hn, h2, h3⟩ := cyc_one a s m b c x H N T hN hN2 hT hS i (by omega)
    have hw : wrap64 ((i : Int) - H + 1) = ((i + 1 : Nat) : Int) - H := by rw [aid_wr (by omega) (by omega)]; omega
    by_cases hc : itN T n i = i
    · obtain ⟨hC, hL⟩ := h2 hc
      obtain ⟨R, r1, r2, r3, r4, r5⟩ := ih (i + 1) (o ++ [valL H (cycL T i n)]) (by omega) (by simp; omega)
      refine ⟨valL H (cycL T i n) :: R, ?_, by simp; omega, fun q hq => ?_, ?_, fun q => ?_⟩
      · rw [List.append_assoc] at r1
        refine aid_ev_succ ?_
        simp only [impl_First_cycles.l0]
        refine Ev.congr (fun k => if_pos (by omega)) (Ev.bind h1 ?_)
        dsimp only
        rw [hw]
        exact Ev.congr (fun k => if_pos (by rw [hc])) (Ev.congr (fun k => if_pos (by omega)) r1)
      · rcases List.mem_cons.1 hq with rfl | hq
        · rw [valL_length, cycL_length]; exact hn
        · exact r3 q hq
      · refine List.pairwise_cons.2 ⟨fun q hq => ?_, r4⟩
        obtain ⟨j, p, g1, g2, g3, g4, rfl⟩ := (r5 q).1 hq
        rw [valL_rd0 H T i n hC.pos, valL_rd0 H T j p g4.pos]
        omega
      · rw [List.mem_cons, r5]
        constructor
        · rintro (rfl | ⟨j, p, g1, g2, g3⟩)
          · exact ⟨i, n, Nat.le_refl _, by omega, hL, hC, rfl⟩
          · exact ⟨j, p, by omega, g2, g3⟩
        · rintro ⟨j, p, g1, g2, g3, g4, rfl⟩
          by_cases e : j = i
          · subst e; exact .inl (by rw [g4.uniq hC])
          · exact .inr ⟨j, p, by omega, g2, g3, g4, rfl⟩
    · obtain ⟨R, r1, r2, r3, r4, r5⟩ := ih (i + 1) o (by omega) (by omega)
      refine ⟨R, ?_, by omega, r3, r4, fun q => ?_⟩
      · refine aid_ev_succ ?_
        simp only [impl_First_cycles.l0]
        refine Ev.congr (fun k => if_pos (by omega)) (Ev.bind h1 ?_)
        dsimp only
        rw [hw]
        exact Ev.congr (fun k => if_neg (by omega)) r1
      · rw [r5]
        constructor
        · rintro ⟨j, p, g1, g2, g3⟩
          exact ⟨j, p, by omega, g2, g3⟩
        · rintro ⟨j, p, g1, g2, g3, g4⟩
          by_cases e : j = i
          · subst e; exact (hc (h3 g3)).elim
          · exact ⟨j, p, by omega, g2, g3, g4⟩

-- impl_size
theorem impl_size.eq {x : Int} (h : -9223372036854775807 ≤ x) (h' : x ≤ 9223372036854775807) : impl_size.f x = some (x.natAbs : Int) := by
  unfold impl_size.f
  rw [aid_wr (by omega) (by omega)]
  unfold mx
  split <;> simp <;> omega

-- impl_peak
theorem impl_peak.l0_ev (l : List Int) (hl : l.length ≤ 1000000000000000) (hb : ∀ x ∈ l, -9223372036854775807 ≤ x ∧ x ≤ 9223372036854775807) : ∀ (d i : Nat) (a : Int), i + d = l.length → Ev (fun k => impl_peak.l0 k a l (l.length : Int) (i : Int)) (peakL (l.drop i) a) := by
  intro d
  induction d with
  | zero =>
    intro i a h
    rw [List.drop_eq_nil_of_le (by omega)]
    refine Ev.step (fun k => ?_) (Ev.now _)
    simp only [impl_peak.l0]
    rw [if_neg (by omega)]
    rfl
  | succ d ih =>
    intro i a h
    have hi' : i < l.length := by omega
    have hm := hb l[i] (List.getElem_mem hi')
    rw [List.drop_eq_getElem_cons hi']
    refine Ev.step (fun k => ?_) (ih (i + 1) _ (by omega))
    simp only [impl_peak.l0]
    rw [if_pos (by omega), if_pos (by omega), if_pos (by omega), aid_rd l i hi', impl_size.eq hm.1 hm.2, aid_next (by omega)]
    simp only [Option.bind_some]
    congr 1
    unfold mx
    split <;> omega
theorem impl_peak.ev (l : List Int) (hl : l.length ≤ 1000000000000000) (hb : ∀ x ∈ l, -9223372036854775807 ≤ x ∧ x ≤ 9223372036854775807) : Ev (fun k => impl_peak.f k l) (peakL l 0) :=
  impl_peak.l0_ev l hl hb l.length 0 0 (by omega)

-- Mark
def marksL : Nat → Int → List Int
  | 0, _ => []
  | n + 1, a => marksL n a ++ [a + (n : Int)]
theorem marksL_length (a : Int) : ∀ n, (marksL n a).length = n
  | 0 => rfl
  | n + 1 => by rw [marksL, List.length_append, marksL_length a n]; rfl
theorem marksL_get (a : Int) : ∀ (n i : Nat) (h : i < (marksL n a).length), (marksL n a)[i] = a + (i : Int)
  | n + 1, i, h => by
    have hl := marksL_length a n
    have hl' := marksL_length a (n + 1)
    simp only [marksL]
    by_cases hi : i < n
    · rw [List.getElem_append_left (by omega)]
      exact marksL_get a n i (by omega)
    · have e : i = n := by omega
      subst e
      rw [List.getElem_append_right (by omega)]
      simp

-- MarkSS
def sizeSS : List (List Int) → Nat
  | [] => 0
  | x :: r => x.length + sizeSS r
def marksSS : List (List Int) → Int → List (List Int)
  | [], _ => []
  | x :: r, a => marksL x.length a :: marksSS r (a + (x.length : Int))
theorem marksSS_length : ∀ (ss : List (List Int)) (a : Int), (marksSS ss a).length = ss.length
  | [], _ => rfl
  | x :: r, a => by rw [marksSS, List.length_cons, List.length_cons, marksSS_length r]
theorem ss_at {d r : List (List Int)} {x : List Int} : (d ++ x :: r).getD d.length [] = x := by
  rw [List.getD_eq_getElem?_getD, List.getElem?_append_right (Nat.le_refl _), Nat.sub_self]
  rfl
theorem ss_set {d r : List (List Int)} {x y : List Int} : (d ++ x :: r).set d.length y = (d ++ [y]) ++ r := by
  rw [List.set_append_right _ _ (Nat.le_refl _), Nat.sub_self, List.append_assoc]
  rfl

-- FirstBoth
theorem sizeSS_le (B : Nat) : ∀ S : List (List Int), (∀ q ∈ S, q.length ≤ B) → sizeSS S ≤ S.length * B
  | [], _ => by simp [sizeSS]
  | q :: S, h => by
    have h1 := h q (List.mem_cons_self ..)
    have h2 := sizeSS_le B S (fun z hz => h z (List.mem_cons_of_mem _ hz))
    rw [sizeSS, List.length_cons, Nat.add_mul, Nat.one_mul]
    omega
/-- The cycles of a filter, on both sides. -/
theorem first_cycles (a s m b : Int) (c : Bool) (x : Int) (h : scanB a s m b x = true) : ∃ S : List (List Int), Ev (fun k => spec_foCycles.f k a s m b c x) S ∧ Ev (fun k => impl_First_cycles.f k a s m b c x) S ∧ S.length ≤ 1024 ∧ ∀ q ∈ S, q.length ≤ 1025 ∧ ∀ z ∈ q, -100000 ≤ z ∧ z ≤ 100000 := by
  unfold scanB at h
  rw [Bool.and_eq_true, Bool.and_eq_true, decide_eq_true_eq, decide_eq_true_eq] at h
  obtain ⟨⟨h1, h2⟩, h3⟩ := h
  obtain ⟨ha, hs, hm, hb⟩ := (firstB_iff a s m b).1 h1
  obtain ⟨n, rfl, hn⟩ := first_shift s hs
  obtain ⟨t, rfl, ht1, ht2⟩ := word_split b hb
  obtain ⟨hH, hH'⟩ := word_pow t ht1 ht2
  have hpow : (2 : Int) ^ (t + 1) = 2 * 2 ^ t := by rw [Int.pow_succ, Int.mul_comm]
  have ht3 : t ≤ 9 := by omega
  have hH9 : (2 : Int) ^ t ≤ 512 := by
    have h' : ∀ s : Fin 10, (2 : Int) ^ s.val ≤ 512 := by decide +kernel
    exact h' ⟨t, by omega⟩
  obtain ⟨N, hN⟩ : ∃ N : Nat, (N : Int) = 2 * 2 ^ t := ⟨(2 * 2 ^ t : Int).toNat, by omega⟩
  have hT : ∀ i, i < N → fT c (2 ^ t) (2 ^ n) m a x i < N := fun i _ => fT_lt (by omega) c _ m a x i hN
  have hx' : -1000000 ≤ x ∧ x ≤ 1000000 := by omega
  have hSs : ∀ i, i < N → Ev (fun k => spec_foStep.f k a (n : Int) m ((t + 1 : Nat) : Int) c ((i : Int) - 2 ^ t) x) (((fT c (2 ^ t) (2 ^ n) m a x i : Nat) : Int) - 2 ^ t) := fun i hi => by
    rw [fT_val (by omega)]
    exact spec_foStep.ev a m ha n hn t ht1 ht2 c _ x (by omega) hx'
  have hSi : ∀ i, i < N → Ev (fun k => impl_First_step.f k a (n : Int) m ((t + 1 : Nat) : Int) c ((i : Int) - 2 ^ t) x) (((fT c (2 ^ t) (2 ^ n) m a x i : Nat) : Int) - 2 ^ t) := fun i hi => by
    rw [fT_val (by omega)]
    exact impl_First_step.ev a m ha n hn t ht1 ht2 c _ x (by omega) hx'
  have hlow := spec_wdLow.eq t ht1 ht2 c
  have hhi := spec_wdHigh.eq t ht1 ht2 c
  have hends := impl_Word_ends.eq t ht1 ht2 c
  have hshl := wrap_shl (t + 1) (by omega)
  rw [hpow] at hshl
  generalize (2 : Int) ^ t = H at *
  generalize fT c H (2 ^ n) m a x = T at *
  obtain ⟨S, cs, hs, s1, s2, s3, s4, s5⟩ := foc_all a (n : Int) m ((t + 1 : Nat) : Int) c x H N T hN (by omega) hT hhi hSs
  obtain ⟨R, r1, r2, r3, r4, r5⟩ := cyc_l0 a (n : Int) m ((t + 1 : Nat) : Int) c x H N T hN (by omega) hT hSi N 0 [] (by omega) (by simp)
  rw [List.nil_append, show ((0 : Nat) : Int) - H = -H by omega] at r1
  have e := cycles_eq s2 s3 s4 s5 r4 (fun q => by
    rw [r5]
    constructor
    · rintro ⟨j, p, _, g⟩
      exact ⟨j, p, g⟩
    · rintro ⟨j, p, g⟩
      exact ⟨j, p, Nat.zero_le _, g⟩) hT
  subst e
  refine ⟨S, ?_, ?_, by omega, fun q hq => ?_⟩
  · unfold spec_foCycles.f
    rw [hlow, hshl, ← hN, Int.toNat_natCast]
    simp only [Option.bind_some]
    exact Ev.congr (fun k => if_pos (by omega)) (Ev.congr (fun k => if_pos (by omega)) (Ev.congr (fun k => if_pos (by omega)) s1))
  · unfold impl_First_cycles.f
    rw [hends, hshl, ← hN]
    simp only [Option.bind_some]
    exact Ev.congr (fun k => if_pos (by omega)) (Ev.congr (fun k => if_pos (by omega)) r1)
  · refine ⟨by have := r3 q hq; omega, fun z hz => ?_⟩
    obtain ⟨j, p, _, hj, _, _, rfl⟩ := (r5 q).1 hq
    unfold valL at hz
    obtain ⟨i, hi, rfl⟩ := List.mem_map.1 hz
    obtain ⟨t', _, rfl⟩ := cycL_mem.1 hi
    have := itN_lt hT t' j hj
    omega

theorem peakL_app : ∀ (l r : List Int) (a : Int), peakL (l ++ r) a = peakL r (peakL l a)
  | [], _, _ => rfl
  | x :: l, r, a => by rw [List.cons_append, peakL, peakL, peakL_app l r]
theorem peakL_from : ∀ (l : List Int) (a : Int), 0 ≤ a → peakL l a = max a (peakL l 0)
  | [], a, h => by rw [peakL, peakL]; omega
  | x :: l, a, h => by
    rw [peakL, peakL, peakL_from l (max a (x.natAbs : Int)) (by omega), peakL_from l (max 0 (x.natAbs : Int)) (by omega)]
    omega
def peakSS : List (List Int) → Int → Int
  | [], a => a
  | x :: r, a => peakSS r (max a (peakL x 0))
theorem peakSS_flat : ∀ (S : List (List Int)) (a : Int), 0 ≤ a → peakL S.flatten a = peakSS S a
  | [], a, _ => rfl
  | x :: S, a, h => by
    rw [List.flatten_cons, peakL_app, peakSS, peakL_from x a h, peakSS_flat S _ (by omega)]
theorem cat_flat : ∀ (l : List (List Int)), l.flatten.length = slices_Concat_int_int.tot l
  | [] => rfl
  | x :: l => by rw [List.flatten_cons, List.length_append, cat_flat l, slices_Concat_int_int.tot]
theorem tot_le (B : Nat) : ∀ S : List (List Int), (∀ q ∈ S, q.length ≤ B) → slices_Concat_int_int.tot S ≤ S.length * B
  | [], _ => by simp [slices_Concat_int_int.tot]
  | q :: S, h => by
    have h1 := h q (List.mem_cons_self ..)
    have h2 := tot_le B S (fun z hz => h z (List.mem_cons_of_mem _ hz))
    rw [slices_Concat_int_int.tot, List.length_cons, Nat.add_mul, Nat.one_mul]
    omega
theorem db_l0 (S : List (List Int)) (hS : S.length ≤ 1024) (hq : ∀ q ∈ S, q.length ≤ 1025 ∧ ∀ z ∈ q, -100000 ≤ z ∧ z ≤ 100000) : ∀ (d i : Nat) (a : Int), i + d = S.length → Ev (fun k => spec_DeadBand.l0 k a S (S.length : Int) (i : Int)) (peakSS (S.drop i) a, true) := by
  intro d
  induction d with
  | zero =>
    intro i a hi
    rw [List.drop_eq_nil_of_le (by omega)]
    refine aid_ev_succ ?_
    simp only [spec_DeadBand.l0]
    exact Ev.congr (fun k => if_neg (by omega)) (Ev.now _)
  | succ d ih =>
    intro i a hi
    have hi' : i < S.length := by omega
    obtain ⟨h1, h2⟩ := hq _ (List.getElem_mem hi')
    have hp := spec_wdPeak.ev S[i] (by omega) (fun x hx => by have := h2 x hx; omega)
    have e2 : rd_L1 S (i : Int) = S[i] := by
      unfold rd_L1
      rw [List.getD_eq_getElem?_getD, Int.toNat_natCast, List.getElem?_eq_getElem hi']
      rfl
    have h := ih (i + 1) (max a (peakL S[i] 0)) (by omega)
    rw [List.drop_eq_getElem_cons hi', peakSS]
    refine aid_ev_succ ?_
    simp only [spec_DeadBand.l0]
    rw [e2, aid_next (by omega)]
    refine Ev.congr (fun k => if_pos (by omega)) (Ev.congr (fun k => if_pos (by omega)) (Ev.congr (fun k => if_pos (by omega)) (Ev.bind hp ?_)))
    simp only [spec_l1Most.eq, Option.bind_some]
    exact h
theorem db_both (a s m b : Int) (c : Bool) : ∃ w : Int × Bool, Ev (fun k => spec_DeadBand.f k a s m b c) w ∧ Ev (fun k => impl_DeadBand.f k a s m b c) w := by
  unfold spec_DeadBand.f impl_DeadBand.f
  rw [spec_foScan.eq, impl_First_isScanned.eq]
  cases h : scanB a s m b 0 with
  | false => exact ⟨(0, false), Ev.now _, Ev.now _⟩
  | true =>
    obtain ⟨S, h1, h2, h3, h4⟩ := first_cycles a s m b c 0 h
    have ht := tot_le 1025 S (fun q hq => (h4 q hq).1)
    have ht2 : S.length * 1025 ≤ 1024 * 1025 := Nat.mul_le_mul_right _ h3
    have hC : slices_Concat_int_int.f S = some S.flatten := if_pos ⟨by omega, by omega⟩
    have hfl := cat_flat S
    have hp := impl_peak.ev S.flatten (by omega) (fun x hx => by
      obtain ⟨q, hq, hx⟩ := List.mem_flatten.1 hx
      have := (h4 q hq).2 x hx
      omega)
    rw [peakSS_flat S 0 (by omega)] at hp
    refine ⟨(peakSS S 0, true), ?_, ?_⟩
    · simp only [Option.bind_some, if_true]
      have h5 := db_l0 S h3 h4 S.length 0 0 (by omega)
      exact Ev.bind h1 h5
    · simp only [Option.bind_some, if_true]
      refine Ev.bind h2 ?_
      rw [hC]
      simp only [Option.bind_some]
      exact aid_ev_bind hp rfl
theorem FnExactDeadBand : laws_FnExactDeadBand.Pure := by
  intro a s m b c _ _ _ _
  refine Ev.rounds ?_
  unfold laws_FnExactDeadBand.f
  have hF : laws_toFirst.f a s m b c = some (a, s, m, b, c) := rfl
  simp only [hF, Option.bind_some]
  obtain ⟨⟨w, b2⟩, hs, hi⟩ := db_both a s m b c
  have hN : ¬ ((b2 != b2) = true) := by cases b2 <;> decide
  refine Ev.bind hs (Ev.bind hi ?_)
  dsimp only
  exact Ev.congr (fun k => if_pos rfl) (Ev.congr (fun k => if_neg hN) (Ev.now _))

end Go.Proofs.Ytjknlfgphlopnaa.Pure
