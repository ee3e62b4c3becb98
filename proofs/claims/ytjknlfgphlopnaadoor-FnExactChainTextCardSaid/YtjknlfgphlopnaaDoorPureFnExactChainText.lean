/- Proves that the program's ChainText returns what the reference's returns, for all arguments. Conditions: the three listed tables of Go's library hold what their initialisers lay, which the card ties to the program's text. -/
import Derived.Test.YtjknlfgphlopnaaDoorPFnExactChainTextx4
namespace Go.Proofs.YtjknlfgphlopnaaDoor.Pure
open Go.RowKit Go.Proofs.YtjknlfgphlopnaaDoor.PFnExactChainText Go.Proofs.YtjknlfgphlopnaaDoorW.PrintWords Go.Proofs.YtjknlfgphlopnaaDoorW.PrintLast
set_option linter.unusedSimpArgs false
set_option linter.unusedVariables false

-- Aid
theorem aid_wr {x : Int} (h0 : -9223372036854775808 ≤ x) (h1 : x ≤ 9223372036854775807) : wrap64 x = x := by unfold wrap64; omega
theorem aid_wf {x : Int} (h : (Lit.int .i64 x).wf = true) : -9223372036854775808 ≤ x ∧ x ≤ 9223372036854775807 := by
  have hmin : IntKind.i64.min = -9223372036854775808 := rfl
  have hmax : IntKind.i64.max = 9223372036854775807 := rfl
  simp only [Lit.wf, Bool.and_eq_true, decide_eq_true_eq, hmin, hmax] at h
  exact h
theorem aid_ev_bind {α β : Type} {g : Nat → Option α} {f : α → Option β} {a : α} {r : β} (h : Ev g a) (k : f a = some r) : Ev (fun n => (g n).bind f) r :=
  Ev.bind (f := fun _ => f) h ⟨0, fun _ _ => k⟩
theorem aid_ev_const {α : Type} {o : Option α} {r : α} (h : o = some r) : Ev (fun _ => o) r := ⟨0, fun _ _ => h⟩
theorem aid_tdiv {a b : Int} (ha : 0 ≤ a) : Int.tdiv a b = a / b := Int.tdiv_eq_ediv_of_nonneg ha
theorem aid_tmod {a b : Int} (ha : 0 ≤ a) : Int.tmod a b = a % b := Int.tmod_eq_emod_of_nonneg ha
theorem aid_next {i : Nat} (h : i ≤ 9223372036854775806) : wrap64 ((i : Int) + 1) = ((i + 1 : Nat) : Int) := by rw [aid_wr (by omega) (by omega)]; rfl
theorem aid_rd (l : List Int) (i : Nat) (h : i < l.length) : rd l (i : Int) = l[i] := by
  unfold rd
  rw [List.getD_eq_getElem?_getD, Int.toNat_natCast, List.getElem?_eq_getElem h]
  rfl
theorem aid_ev_succ {α : Type} {g : Nat → Option α} {r : α} (h : Ev (fun k => g (k + 1)) r) : Ev g r := Ev.step (fun _ => rfl) h

-- Sig
def sigB (l : List Int) : Bool := decide (l.length ≤ 64) && l.all fun x => decide (-100000 ≤ x ∧ x ≤ 100000)
theorem sigB_iff (l : List Int) : sigB l = true ↔ l.length ≤ 64 ∧ ∀ x ∈ l, -100000 ≤ x ∧ x ≤ 100000 := by
  simp [sigB]
def toldP (l : List Int) : List Int × Bool := if sigB l then (l, true) else ([], false)
theorem toldP_len (l : List Int) : (toldP l).1.length ≤ 64 := by
  unfold toldP
  cases h : sigB l with
  | true => simpa using ((sigB_iff l).1 h).1
  | false => simp

-- Wrap
def wI (H x : Int) : Int := (x + H) % (2 * H) - H
theorem aid_emod {x P y : Int} (hP : 0 < P) (h0 : 0 ≤ x - P * y) (h1 : x - P * y < P) : x % P = x - P * y :=
  ((Int.ediv_emod_unique hP (a := x) (r := x - P * y) (q := y)).2 ⟨by omega, h0, h1⟩).2
theorem wI_bound {H : Int} (hH : 1 ≤ H) (x : Int) : -H ≤ wI H x ∧ wI H x < H := by
  unfold wI
  have h1 := Int.emod_nonneg (x + H) (show 2 * H ≠ 0 by omega)
  have h2 := Int.emod_lt_of_pos (x + H) (show 0 < 2 * H by omega)
  omega
theorem wI_zero {H : Int} (hH : 1 ≤ H) : wI H 0 = 0 := by
  unfold wI
  rw [Int.zero_add, Int.emod_eq_of_lt (by omega) (by omega)]
  omega
theorem wI_add (H a x : Int) : wI H (wI H a + x) = wI H (a + x) := by
  unfold wI
  have e : (a + H) % (2 * H) - H + x + H = (a + H) % (2 * H) + x := by omega
  rw [e, Int.emod_add_emod]
  have e2 : a + H + x = a + x + H := by omega
  rw [e2]
theorem wrap_shl (t : Nat) (h : t ≤ 40) : shl .i64 1 (t : Int) = 2 ^ t := by
  have h' : ∀ s : Fin 41, shl .i64 1 ((s.val : Nat) : Int) = 2 ^ s.val := by decide +kernel
  exact h' ⟨t, by omega⟩
theorem wrap_pow (t : Nat) (h : t ≤ 39) : (1 : Int) ≤ 2 ^ t ∧ (2 : Int) ^ t ≤ 549755813888 := by
  have h' : ∀ s : Fin 40, (1 : Int) ≤ 2 ^ s.val ∧ (2 : Int) ^ s.val ≤ 549755813888 := by decide +kernel
  exact h' ⟨t, by omega⟩
theorem wrap_tmod (x M : Int) : (Int.tmod x M + M) % M = x % M := by
  have h : x % M = (Int.tmod x M) % M := by
    conv => lhs; rw [← Int.mul_tdiv_add_tmod x M, Int.add_comm, Int.add_mul_emod_self_left]
  rw [h, Int.add_emod_right]
theorem wrap_tmod_bound (x M : Int) (hM : 0 < M) : 0 < Int.tmod x M + M ∧ Int.tmod x M + M < 2 * M := by
  have h1 := Int.tmod_lt_of_pos x hM
  have h2 := Int.lt_tmod_of_pos x hM
  omega
theorem bits_split (b : Int) (h : 2 ≤ b ∧ b ≤ 40) : ∃ t : Nat, b = ((t + 1 : Nat) : Int) ∧ 1 ≤ t ∧ t ≤ 39 := ⟨(b - 1).toNat, by omega, by omega, by omega⟩
def sumsL : List Int → Int → List Int
  | [], _ => []
  | x :: r, a => (a + x) :: sumsL r (a + x)
def wsumL (H : Int) : List Int → Int → List Int
  | [], _ => []
  | x :: r, t => wI H (t + x) :: wsumL H r (wI H (t + x))
theorem wsumL_eq (H : Int) : ∀ (l : List Int) (a : Int), wsumL H l (wI H a) = (sumsL l a).map (wI H)
  | [], _ => rfl
  | x :: r, a => by rw [wsumL, sumsL, List.map_cons, wI_add, wsumL_eq H r (a + x)]
theorem sumsL_length : ∀ (l : List Int) (a : Int), (sumsL l a).length = l.length
  | [], _ => rfl
  | x :: r, a => by rw [sumsL, List.length_cons, sumsL_length r, List.length_cons]
theorem sumsL_bound (B : Nat) : ∀ (l : List Int) (a : Int) (c : Nat), (∀ x ∈ l, -(B : Int) ≤ x ∧ x ≤ B) → -((c * B : Nat) : Int) ≤ a → a ≤ ((c * B : Nat) : Int) → ∀ y ∈ sumsL l a, -(((c + l.length) * B : Nat) : Int) ≤ y ∧ y ≤ (((c + l.length) * B : Nat) : Int)
  | x :: r, a, c, hx, h0, h1, y, hy => by
    have hxx := hx x (by simp)
    have hc : ((c + 1) * B : Nat) = c * B + B := by rw [Nat.add_mul, Nat.one_mul]
    have hle : (c + 1) * B ≤ (c + (x :: r).length) * B := Nat.mul_le_mul_right B (by rw [List.length_cons]; omega)
    rw [sumsL] at hy
    rcases List.mem_cons.1 hy with hy | hy
    · omega
    · have h := sumsL_bound B r (a + x) (c + 1) (fun z hz => hx z (by simp [hz])) (by omega) (by omega) y hy
      have e : c + 1 + r.length = c + (x :: r).length := by rw [List.length_cons]; omega
      rw [e] at h
      exact h
def diffL : List Int → Int → List Int
  | [], _ => []
  | x :: r, a => (x - a) :: diffL r x
theorem diffL_length : ∀ (l : List Int) (a : Int), (diffL l a).length = l.length
  | [], _ => rfl
  | x :: r, a => by rw [diffL, List.length_cons, diffL_length r, List.length_cons]
theorem diffL_bound (B : Int) : ∀ (l : List Int) (a : Int), (∀ x ∈ l, -B ≤ x ∧ x ≤ B) → -B ≤ a → a ≤ B → ∀ y ∈ diffL l a, -(2 * B) ≤ y ∧ y ≤ 2 * B
  | x :: r, a, hx, h0, h1, y, hy => by
    have hxx := hx x (by simp)
    rw [diffL] at hy
    rcases List.mem_cons.1 hy with hy | hy
    · omega
    · exact diffL_bound B r x (fun z hz => hx z (by simp [hz])) hxx.1 hxx.2 y hy
def sumsN (H : Int) : Nat → List Int → List Int
  | 0, l => l
  | n + 1, l => sumsN H n ((sumsL l 0).map (wI H))
def combsN (H : Int) : Nat → List Int → List Int
  | 0, l => l
  | n + 1, l => combsN H n ((diffL l 0).map (wI H))
def okL (l : List Int) : Prop := l.length ≤ 1000 ∧ ∀ x ∈ l, -549755813888 ≤ x ∧ x ≤ 549755813888
theorem okL_map {H : Int} (hH : 1 ≤ H) (hH' : H ≤ 549755813888) (l : List Int) (h : l.length ≤ 1000) : okL (l.map (wI H)) := by
  refine ⟨by rw [List.length_map]; exact h, fun x hx => ?_⟩
  obtain ⟨y, _, rfl⟩ := List.mem_map.1 hx
  have := wI_bound hH y
  omega
theorem sumsN_ok {H : Int} (hH : 1 ≤ H) (hH' : H ≤ 549755813888) : ∀ (n : Nat) (l : List Int), okL l → okL (sumsN H n l) ∧ (sumsN H n l).length = l.length
  | 0, l, h => ⟨h, rfl⟩
  | n + 1, l, h => by
    obtain ⟨h1, h2⟩ := sumsN_ok hH hH' n ((sumsL l 0).map (wI H)) (okL_map hH hH' _ (by rw [sumsL_length]; exact h.1))
    rw [List.length_map, sumsL_length] at h2
    exact ⟨h1, h2⟩
theorem combsN_ok {H : Int} (hH : 1 ≤ H) (hH' : H ≤ 549755813888) : ∀ (n : Nat) (l : List Int), okL l → okL (combsN H n l) ∧ (combsN H n l).length = l.length
  | 0, l, h => ⟨h, rfl⟩
  | n + 1, l, h => by
    obtain ⟨h1, h2⟩ := combsN_ok hH hH' n ((diffL l 0).map (wI H)) (okL_map hH hH' _ (by rw [diffL_length]; exact h.1))
    rw [List.length_map, diffL_length] at h2
    exact ⟨h1, h2⟩

-- Shift
def shI (P mode x : Int) : Int := if (mode = 1 ∧ 2 * (x % P) ≥ P ∧ x % P > 0) ∨ (mode = 2 ∧ x < 0 ∧ x % P > 0) then x / P + 1 else x / P
theorem aid_div {x P y : Int} (hP : 0 < P) (h0 : 0 ≤ x - P * y) (h1 : x - P * y < P) : x / P = y :=
  ((Int.ediv_emod_unique hP (a := x) (r := x - P * y) (q := y)).2 ⟨by omega, h0, h1⟩).1
theorem shift_shl (s : Nat) (hs : s ≤ 20) : shl .i64 1 (s : Int) = 2 ^ s := by
  have h : ∀ s : Fin 21, shl .i64 1 ((s.val : Nat) : Int) = 2 ^ s.val := by decide +kernel
  exact h ⟨s, by omega⟩
theorem shift_shr (s : Nat) (hs : s ≤ 20) (x : Int) : shr .i64 x (s : Int) = x / 2 ^ s := by
  unfold shr
  have e : min ((s : Int)).toNat IntKind.i64.bits = s := by
    rw [Int.toNat_natCast, show IntKind.i64.bits = 64 from rfl]
    omega
  rw [e]
theorem shift_pow (s : Nat) (hs : s ≤ 20) : (1 : Int) ≤ 2 ^ s ∧ (2 : Int) ^ s ≤ 1048576 := by
  have h : ∀ s : Fin 21, (1 : Int) ≤ 2 ^ s.val ∧ (2 : Int) ^ s.val ≤ 1048576 := by decide +kernel
  exact h ⟨s, by omega⟩
theorem shift_mul {P u : Int} (hP : 1 ≤ P) (hu : 0 ≤ u) : u ≤ P * u := by
  have := Int.mul_le_mul_of_nonneg_right hP hu
  omega
theorem shift_div (x P : Int) (hP : 1 ≤ P) : x = P * (x / P) + x % P ∧ 0 ≤ x % P ∧ x % P < P ∧ (0 ≤ x → 0 ≤ x / P ∧ x / P ≤ x) ∧ (x < 0 → x ≤ x / P ∧ x / P < 0) := by
  have h1 := Int.mul_ediv_add_emod x P
  have h2 := Int.emod_nonneg x (show P ≠ 0 by omega)
  have h3 := Int.emod_lt_of_pos x (show 0 < P by omega)
  refine ⟨by omega, h2, h3, fun h => ?_, fun h => ?_⟩
  · have h4 := Int.ediv_nonneg h (show 0 ≤ P by omega)
    have h5 := shift_mul hP h4
    omega
  · have h4 : x / P < 0 := Int.ediv_neg_of_neg_of_pos h (by omega)
    have h5 := shift_mul hP (show 0 ≤ -(x / P) - 1 by omega)
    have h6 : P * (-(x / P) - 1) = -(P * (x / P)) - P := by rw [Int.mul_sub, Int.mul_neg, Int.mul_one]
    omega
theorem shI_bound (P mode x B : Int) (hP : 1 ≤ P) (hB : 0 ≤ B) (h0 : -(P * B) ≤ x) (h1 : x ≤ P * B) : -B ≤ shI P mode x ∧ shI P mode x ≤ B := by
  obtain ⟨e, r0, r1, _, _⟩ := shift_div x P hP
  have hlo : -B ≤ x / P := by
    apply Int.le_ediv_of_mul_le (by omega)
    rw [Int.neg_mul, Int.mul_comm B P]
    exact h0
  have hhi : x / P ≤ B := by
    apply Int.ediv_le_of_le_mul (by omega)
    rw [Int.mul_comm B P]
    exact h1
  have hhi2 : x % P > 0 → x / P + 1 ≤ B := by
    intro hr
    apply Classical.byContradiction
    intro hc
    have e2 : x / P = B := by omega
    rw [e2] at e
    omega
  unfold shI
  split
  · rename_i h
    rcases h with h | h
    · have := hhi2 h.2.2
      omega
    · have := hhi2 h.2.2
      omega
  · omega

-- Fit
def fitI (b : Bool) (H x : Int) : Int := if b = true then wI H x else min (max x (-H)) (H - 1)
theorem fitI_bound {H : Int} (hH : 1 ≤ H) (b : Bool) (x : Int) : -H ≤ fitI b H x ∧ fitI b H x ≤ H - 1 := by
  unfold fitI
  split
  · have := wI_bound hH x
    omega
  · omega
theorem wI_self {H x : Int} (h0 : -H ≤ x) (h1 : x ≤ H - 1) : wI H x = x := by
  unfold wI
  rw [Int.emod_eq_of_lt (by omega) (by omega)]
  omega
theorem fitI_self {H : Int} (hH : 1 ≤ H) (b : Bool) (x : Int) : fitI b H x = x ↔ -H ≤ x ∧ x ≤ H - 1 := by
  refine ⟨fun h => ?_, fun h => ?_⟩
  · have := fitI_bound hH b x
    omega
  · unfold fitI
    split
    · exact wI_self h.1 h.2
    · omega
theorem word_split (b : Int) (h : 2 ≤ b ∧ b ≤ 16) : ∃ t : Nat, b = ((t + 1 : Nat) : Int) ∧ 1 ≤ t ∧ t ≤ 15 := ⟨(b - 1).toNat, by omega, by omega, by omega⟩
theorem word_pow (t : Nat) (h1 : 1 ≤ t) (h : t ≤ 15) : (2 : Int) ≤ 2 ^ t ∧ (2 : Int) ^ t ≤ 32768 := by
  have h' : ∀ s : Fin 16, 1 ≤ s.val → (2 : Int) ≤ 2 ^ s.val ∧ (2 : Int) ^ s.val ≤ 32768 := by decide +kernel
  exact h' ⟨t, by omega⟩ h1
theorem mul_bound {a y B C : Int} (ha : -B ≤ a ∧ a ≤ B) (hy : -C ≤ y ∧ y ≤ C) : -(B * C) ≤ a * y ∧ a * y ≤ B * C := by
  have h1 : (a * y).natAbs = a.natAbs * y.natAbs := Int.natAbs_mul a y
  have h2 : a.natAbs * y.natAbs ≤ B.toNat * C.toNat := Nat.mul_le_mul (by omega) (by omega)
  have h3 : ((B.toNat * C.toNat : Nat) : Int) = B * C := by rw [Int.natCast_mul, Int.toNat_of_nonneg (by omega), Int.toNat_of_nonneg (by omega)]
  generalize a * y = p at *
  generalize B * C = q at *
  omega
theorem shI_small {P m x B : Int} (hP : 1 ≤ P) (h0 : -B ≤ x) (h1 : x ≤ B) : -B ≤ shI P m x ∧ shI P m x ≤ B := by
  have h := shift_mul hP (show 0 ≤ B by omega)
  exact shI_bound P m x B hP (by omega) (by omega) (by omega)
def hB (b : Int) : Int := 2 ^ (b.toNat - 1)
theorem hB_eq (t : Nat) : hB ((t + 1 : Nat) : Int) = 2 ^ t := by
  unfold hB
  rw [Int.toNat_natCast]
  rfl
def wordInB (b x : Int) : Bool := decide (2 ≤ b ∧ b ≤ 16) && decide (-hB b ≤ x ∧ x ≤ hB b - 1)

-- First
def firstB (a s m b : Int) : Bool := decide ((-1024 ≤ a ∧ a ≤ 1024) ∧ (0 ≤ s ∧ s ≤ 10) ∧ (0 ≤ m ∧ m ≤ 2) ∧ (2 ≤ b ∧ b ≤ 16))
theorem firstB_iff (a s m b : Int) : firstB a s m b = true ↔ (-1024 ≤ a ∧ a ≤ 1024) ∧ (0 ≤ s ∧ s ≤ 10) ∧ (0 ≤ m ∧ m ≤ 2) ∧ (2 ≤ b ∧ b ≤ 16) := by
  unfold firstB
  rw [decide_eq_true_eq]
def rawI (P m a y x : Int) : Int := shI P m (a * y) + x
theorem rawI_bound {P m a y x : Int} (hP : 1 ≤ P) (ha : -1024 ≤ a ∧ a ≤ 1024) (hy : -32768 ≤ y ∧ y ≤ 32768) (hx : -1000000 ≤ x ∧ x ≤ 1000000) : -40000000 ≤ rawI P m a y x ∧ rawI P m a y x ≤ 40000000 := by
  have h1 := mul_bound ha hy
  have h2 := shI_small (m := m) hP h1.1 h1.2
  unfold rawI
  omega
def runI (b : Bool) (H P m a : Int) : List Int → Int → List Int
  | [], _ => []
  | x :: r, y => fitI b H (rawI P m a y x) :: runI b H P m a r (fitI b H (rawI P m a y x))
def runC (b : Bool) (H P m a : Int) : List Int → Int → Nat
  | [], _ => 0
  | x :: r, y => (if -H ≤ rawI P m a y x ∧ rawI P m a y x ≤ H - 1 then 0 else 1) + runC b H P m a r (fitI b H (rawI P m a y x))
theorem runI_length (b : Bool) (H P m a : Int) : ∀ (l : List Int) (y : Int), (runI b H P m a l y).length = l.length
  | [], _ => rfl
  | x :: r, y => by rw [runI, List.length_cons, runI_length b H P m a r, List.length_cons]
theorem first_shift (s : Int) (h : 0 ≤ s ∧ s ≤ 10) : ∃ n : Nat, s = (n : Int) ∧ n ≤ 10 := ⟨s.toNat, by omega, by omega⟩

-- Parts
def cvF (x : S39) : S34 := ⟨x.f0, x.f1, x.f2, ⟨x.f3.f0, x.f3.f1⟩⟩
theorem rd_partL (l : List S39) (i : Nat) (h : i < l.length) : rd_T39 l (i : Int) = l[i] := by
  unfold rd_T39
  rw [List.getD_eq_getElem?_getD, Int.toNat_natCast, List.getElem?_eq_getElem h]
  rfl
theorem rd_part (l : List S34) (i : Nat) (h : i < l.length) : rd_T34 l (i : Int) = l[i] := by
  unfold rd_T34
  rw [List.getD_eq_getElem?_getD, Int.toNat_natCast, List.getElem?_eq_getElem h]
  rfl
def partB (x : S34) : Bool := firstB x.f0 x.f1 x.f2 x.f3.f0
def partsB (l : List S34) : Bool := decide (1 ≤ (l.length : Int) ∧ (l.length : Int) ≤ 4) && l.all partB
theorem partsB_len {l : List S34} (h : partsB l = true) : 1 ≤ l.length ∧ l.length ≤ 4 := by
  unfold partsB at h
  rw [Bool.and_eq_true, decide_eq_true_eq] at h
  omega

-- laws_szFirstS
theorem laws_szFirstS.eq (l : List S39) (h : l.length * 40 ≤ 140737488351232) : laws_szFirstS.f l 1048576 = some (if (l.length : Int) > 1048576 then -1 else 1048576 - (l.length : Int)) := by
  unfold laws_szFirstS.f
  rw [aid_wr (by omega) (by omega)]
  by_cases hb : (l.length : Int) > 1048576
  · rw [if_pos (by omega), if_pos hb]
  · rw [if_neg (by omega), if_neg hb]

-- spec_l1In
theorem spec_l1In.eq (a lo hi : Int) : spec_l1In.f a lo hi = some (decide (lo ≤ a ∧ a ≤ hi)) := by
  unfold spec_l1In.f
  by_cases h : lo ≤ a <;> simp [h]

-- spec_wdMode
theorem spec_wdMode.eq (s m : Int) : spec_wdMode.f s m = some (decide (0 ≤ s ∧ s ≤ 20) && decide (0 ≤ m ∧ m ≤ 2)) := by
  unfold spec_wdMode.f
  rw [spec_l1In.eq, spec_l1In.eq]
  cases decide (0 ≤ s ∧ s ≤ 20) <;> rfl

-- spec_wdGood
theorem spec_wdGood.eq (b : Int) (c : Bool) : spec_wdGood.f b c = some (decide (2 ≤ b ∧ b ≤ 16)) := by
  unfold spec_wdGood.f
  rw [spec_l1In.eq]
  rfl

-- spec_foGood
theorem spec_foGood.eq (a s m b : Int) (c : Bool) : spec_foGood.f a s m b c = some (firstB a s m b) := by
  unfold spec_foGood.f firstB
  rw [spec_l1In.eq, spec_l1In.eq, spec_wdMode.eq, spec_wdGood.eq]
  by_cases h1 : -1024 ≤ a ∧ a ≤ 1024
  · by_cases h2 : 0 ≤ s ∧ s ≤ 10
    · by_cases h3 : 0 ≤ m ∧ m ≤ 2
      · simp [h1, h2, h3, show s ≤ 20 by omega]
      · simp [h1, h2, h3, show s ≤ 20 by omega]
    · simp [h1, h2]
  · simp [h1]

-- spec_chGood
theorem spec_chGood.ev (l : List S34) : Ev (fun k => spec_chGood.f k l) (partsB l) := by
  unfold spec_chGood.f partsB
  rw [spec_l1In.eq]
  by_cases hl : 1 ≤ (l.length : Int) ∧ (l.length : Int) ≤ 4
  · rw [decide_eq_true hl, Bool.true_and]
    have h : ∀ (d i : Nat), i + d = l.length → Ev (fun k => spec_chGood.l0 k l (l.length : Int) (i : Int)) ((l.drop i).all partB) := by
      intro d
      induction d with
      | zero =>
        intro i hi
        rw [List.drop_eq_nil_of_le (by omega)]
        refine aid_ev_succ ?_
        simp only [spec_chGood.l0]
        exact Ev.congr (fun k => if_neg (by omega)) (Ev.now _)
      | succ d ih =>
        intro i hi
        have hi' : i < l.length := by omega
        rw [List.drop_eq_getElem_cons hi', List.all_cons]
        refine aid_ev_succ ?_
        simp only [spec_chGood.l0]
        refine Ev.congr (fun k => if_pos (by omega)) ?_
        refine Ev.congr (fun k => if_pos (by omega)) ?_
        refine Ev.congr (fun k => if_pos (by omega)) ?_
        rw [rd_part l i hi', spec_foGood.eq]
        show Ev (fun k => (some (partB l[i])).bind _) _
        cases partB l[i] with
        | true =>
          rw [aid_next (by omega)]
          exact ih (i + 1) (by omega)
        | false => exact Ev.now _
    exact h l.length 0 (by omega)
  · rw [decide_eq_false hl]
    exact Ev.now _

-- laws_toFirstS
theorem laws_toFirstS.l0_ev (l : List S39) (hl : l.length ≤ 10000000) : ∀ (d i : Nat) (o rest : List S34), i + d = l.length → o.length = i → rest.length = d → Ev (fun k => laws_toFirstS.l0 k l (o ++ rest) (i : Int)) (o ++ (l.drop i).map cvF) := by
  intro d
  induction d with
  | zero =>
    intro i o rest hi ho hr
    rw [List.drop_eq_nil_of_le (by omega), List.length_eq_zero_iff.1 hr]
    refine aid_ev_succ ?_
    simp only [laws_toFirstS.l0]
    exact Ev.congr (fun k => if_neg (by omega)) (Ev.now _)
  | succ d ih =>
    intro i o rest hi ho hr
    have hi' : i < l.length := by omega
    obtain ⟨y, t, rfl⟩ : ∃ y t, rest = y :: t := by
      cases rest with
      | nil => simp at hr
      | cons y t => exact ⟨y, t, rfl⟩
    have hset : (o ++ y :: t).set i (cvF l[i]) = (o ++ [cvF l[i]]) ++ t := by
      rw [List.set_append_right _ _ (by omega), ho, Nat.sub_self, List.set_cons_zero, List.append_assoc]
      rfl
    have h := ih (i + 1) (o ++ [cvF l[i]]) t (by omega) (by simp [ho]) (by simpa using hr)
    rw [List.drop_eq_getElem_cons hi', List.map_cons, show ∀ z : List S34, o ++ cvF l[i] :: z = (o ++ [cvF l[i]]) ++ z from fun z => by simp]
    refine aid_ev_succ ?_
    simp only [laws_toFirstS.l0]
    refine Ev.congr (fun k => if_pos (by omega)) ?_
    refine Ev.congr (fun k => if_pos (by omega)) ?_
    rw [rd_partL l i hi']
    refine Ev.bind (a := (l[i].f0, l[i].f1, l[i].f2, l[i].f3.f0, l[i].f3.f1)) (aid_ev_const rfl) ?_
    refine Ev.congr (fun k => if_pos (by rw [List.length_append, List.length_cons]; omega)) ?_
    rw [Int.toNat_natCast, aid_next (by omega)]
    show Ev (fun k => laws_toFirstS.l0 k l ((o ++ y :: t).set i (cvF l[i])) ((i + 1 : Nat) : Int)) _
    rw [hset]
    exact h
theorem laws_toFirstS.ev (l : List S39) (hl : l.length ≤ 10000000) : Ev (fun k => laws_toFirstS.f k l) (l.map cvF) := by
  unfold laws_toFirstS.f
  refine Ev.congr (fun k => if_pos (by omega)) ?_
  refine Ev.congr (fun k => if_pos (by omega)) ?_
  have h := laws_toFirstS.l0_ev l hl l.length 0 [] (List.replicate l.length z34) (by omega) rfl (by simp)
  rw [Int.toNat_natCast]
  exact h

-- impl_in
theorem impl_in.eq (a lo hi : Int) : impl_in.f a lo hi = some (decide (lo ≤ a ∧ a ≤ hi)) := by
  unfold impl_in.f
  by_cases h : lo ≤ a <;> simp [h]

-- impl_isFactor
theorem impl_isFactor.eq (a : Int) : impl_isFactor.f a = some (decide (-1024 ≤ a ∧ a ≤ 1024)) := by
  unfold impl_isFactor.f
  rw [impl_in.eq]
  rfl

-- impl_isScale
theorem impl_isScale.eq (s m : Int) : impl_isScale.f s m = some (decide (0 ≤ s ∧ s ≤ 10) && decide (0 ≤ m ∧ m ≤ 2)) := by
  unfold impl_isScale.f
  rw [impl_in.eq, impl_in.eq]
  cases decide (0 ≤ s ∧ s ≤ 10) <;> rfl

-- impl_isWord
theorem impl_isWord.eq (n : Int) (b : Bool) : impl_isWord.f n b = some (decide (2 ≤ n ∧ n ≤ 16)) := by
  unfold impl_isWord.f
  rw [impl_in.eq]
  rfl

-- impl_isFirst
theorem impl_isFirst.eq (a s m b : Int) (c : Bool) : impl_isFirst.f a s m b c = some (firstB a s m b) := by
  unfold impl_isFirst.f firstB
  rw [impl_isFactor.eq, impl_isScale.eq, impl_isWord.eq]
  by_cases h1 : -1024 ≤ a ∧ a ≤ 1024
  · by_cases h2 : 0 ≤ s ∧ s ≤ 10
    · by_cases h3 : 0 ≤ m ∧ m ≤ 2
      · simp [h1, h2, h3]
      · simp [h1, h2, h3]
    · simp [h1, h2]
  · simp [h1]

-- impl_areParts
theorem impl_areParts.eq (l : List S34) : impl_areParts.f l = some (partsB l) := by
  unfold impl_areParts.f partsB
  rw [impl_in.eq]
  have e : (!(l.any impl_areParts.p)) = l.all partB := by
    rw [List.not_any_eq_all_not]
    congr 1
    funext x
    unfold impl_areParts.p partB
    rw [impl_isFirst.eq]
    cases firstB x.f0 x.f1 x.f2 x.f3.f0 <;> rfl
  rw [e]
  by_cases hl : 1 ≤ (l.length : Int) ∧ (l.length : Int) ≤ 4
  · rw [decide_eq_true hl, Bool.true_and]
    rfl
  · rw [decide_eq_false hl]
    rfl

-- laws_eqFirstS
theorem laws_eqFirst.self (a b c d : Int) (e : Bool) : laws_eqFirst.f a b c d e a b c d e = some true := by
  unfold laws_eqFirst.f laws_eqWord.f
  cases e <;> simp
theorem laws_eqFirstS.refl (l : List S34) (hl : l.length ≤ 10000000) : Ev (fun k => laws_eqFirstS.f k l l) true := by
  have h : ∀ (d i : Nat), i + d = l.length → Ev (fun k => laws_eqFirstS.l0 k l l (i : Int)) true := by
    intro d
    induction d with
    | zero =>
      intro i hi
      refine aid_ev_succ ?_
      simp only [laws_eqFirstS.l0]
      exact Ev.congr (fun k => if_neg (by omega)) (Ev.now _)
    | succ d ih =>
      intro i hi
      refine aid_ev_succ ?_
      simp only [laws_eqFirstS.l0]
      refine Ev.congr (fun k => if_pos (by omega)) ?_
      refine Ev.congr (fun k => if_pos (by omega)) ?_
      refine Ev.congr (fun k => if_pos (by omega)) ?_
      rw [laws_eqFirst.self, aid_next (by omega)]
      exact ih (i + 1) (by omega)
  unfold laws_eqFirstS.f
  exact Ev.congr (fun k => if_pos rfl) (h l.length 0 (by omega))

-- ChainTx
theorem ct_app (a b : List UInt8) : (⟨(a ++ b).toArray⟩ : ByteArray) = (⟨a.toArray⟩ : ByteArray) ++ (⟨b.toArray⟩ : ByteArray) := by
  apply ByteArray.ext
  rw [ByteArray.data_append]
  simp
theorem ct_one (n : Nat) (h : n < 10) : strOfNums [wrap64 (48 + (n : Int)) % 256] = (⟨#[UInt8.ofNat (48 + n)]⟩ : ByteArray) := by
  have h' : ∀ i : Fin 10, strOfNums [wrap64 (48 + (i.val : Int)) % 256] = (⟨#[UInt8.ofNat (48 + i.val)]⟩ : ByteArray) := by decide +kernel
  exact h' ⟨n, h⟩
theorem spec_l1Num.ev : ∀ (b n : Nat), n < 10 ^ b → n ≤ 1000000 → Ev (fun k => spec_l1Num.f k (n : Int)) (⟨(Go.Lib.decDigits n).toArray⟩ : ByteArray) ∧ (Go.Lib.decDigits n).length ≤ b + 1 := by
  intro b
  induction b with
  | zero =>
    intro n hn _
    obtain rfl : n = 0 := by omega
    refine ⟨aid_ev_succ ?_, ?_⟩
    · simp only [spec_l1Num.f]
      refine Ev.congr (fun k => if_pos (by omega)) ?_
      rw [show ((0 : Nat) : Int) = 0 from rfl]
      have e := ct_one 0 (by omega)
      rw [Go.Lib.decDigits_one (by omega)]
      exact aid_ev_const (congrArg some e)
    · rw [Go.Lib.decDigits_one (by omega)]
      simp
  | succ b ih =>
    intro n hn hn2
    by_cases h10 : n < 10
    · refine ⟨aid_ev_succ ?_, ?_⟩
      · simp only [spec_l1Num.f]
        refine Ev.congr (fun k => if_pos (by omega)) ?_
        have e := ct_one n h10
        rw [Go.Lib.decDigits_one h10]
        exact aid_ev_const (congrArg some e)
      · rw [Go.Lib.decDigits_one h10]
        simp
    · have hq : n / 10 < 10 ^ b := by
        rw [Nat.pow_succ] at hn
        exact Nat.div_lt_of_lt_mul (by rw [Nat.mul_comm]; exact hn)
      obtain ⟨i1, i2⟩ := ih (n / 10) hq (by omega)
      have ed : Go.Lib.decDigits n = Go.Lib.decDigits (n / 10) ++ [UInt8.ofNat (48 + n % 10)] := by rw [Go.Lib.decDigits, dif_neg h10]
      have e1 : wrap64 (Int.tdiv (n : Int) 10) = ((n / 10 : Nat) : Int) := by
        rw [aid_tdiv (Int.natCast_nonneg _), aid_wr (by omega) (by omega)]
        omega
      have e2 : Int.tmod (n : Int) 10 = ((n % 10 : Nat) : Int) := by
        rw [aid_tmod (Int.natCast_nonneg _)]
        omega
      have e3 := ct_one (n % 10) (by omega)
      have b1 : b + 1 ≤ 10000000 ∨ 10000000 < b + 1 := by omega
      refine ⟨aid_ev_succ ?_, by rw [ed, List.length_append, List.length_singleton]; omega⟩
      simp only [spec_l1Num.f]
      rw [e1, e2, ed, ct_app]
      refine Ev.congr (fun k => if_neg (by omega)) (Ev.bind i1 ?_)
      have hs : (⟨(Go.Lib.decDigits (n / 10)).toArray⟩ : ByteArray).size ≤ 21 := by
        show (Go.Lib.decDigits (n / 10)).toArray.size ≤ 21
        rw [List.size_toArray]
        have := Go.Lib.itoa_length_le ((n / 10 : Nat) : Int) (by omega) (by omega)
        rwa [Go.Lib.itoa_nonneg] at this
      refine Ev.congr (fun k => rfl) ?_
      show Ev (fun k => if (⟨(Go.Lib.decDigits (n / 10)).toArray⟩ : ByteArray).size + (strOfNums [wrap64 (48 + ((n % 10 : Nat) : Int)) % 256]).size ≤ 9223372036854775807 then some ((⟨(Go.Lib.decDigits (n / 10)).toArray⟩ : ByteArray) ++ strOfNums [wrap64 (48 + ((n % 10 : Nat) : Int)) % 256]) else none) _
      rw [e3]
      exact Ev.congr (fun k => if_pos (by show _ + 1 ≤ _; omega)) (Ev.now _)
theorem spec_wdInt.ev (n : Int) (h0 : -1000000 ≤ n) (h1 : n ≤ 1000000) : Ev (fun k => spec_wdInt.f k n) (impl_ChainText.dig n) := by
  unfold spec_wdInt.f impl_ChainText.dig
  by_cases h : n < 0
  · obtain ⟨u, hu, hu1⟩ : ∃ u : Nat, n = -(u : Int) ∧ 1 ≤ u := ⟨n.natAbs, by omega, by omega⟩
    have hd := (spec_l1Num.ev 7 u (by omega) (by omega)).1
    rw [hu, Go.Lib.itoa_neg u hu1]
    have e : wrap64 (- -(u : Int)) = (u : Int) := by rw [Int.neg_neg, aid_wr (by omega) (by omega)]
    have hs : (⟨(Go.Lib.decDigits u).toArray⟩ : ByteArray).size ≤ 21 := by
      show (Go.Lib.decDigits u).toArray.size ≤ 21
      rw [List.size_toArray]
      have := Go.Lib.itoa_length_le (u : Int) (by omega) (by omega)
      rwa [Go.Lib.itoa_nonneg] at this
    rw [e]
    refine Ev.congr (fun k => if_pos (by omega)) (Ev.bind hd (Ev.congr (fun k => if_pos (by omega)) ?_))
    rw [show (45 :: Go.Lib.decDigits u) = [45] ++ Go.Lib.decDigits u from rfl, ct_app]
    exact Ev.now _
  · obtain ⟨u, hu⟩ : ∃ u : Nat, n = (u : Int) := ⟨n.toNat, by omega⟩
    have hd := (spec_l1Num.ev 7 u (by omega) (by omega)).1
    rw [hu, Go.Lib.itoa_nonneg]
    exact Ev.congr (fun k => if_neg (by omega)) (aid_ev_bind hd rfl)
theorem ct_snoc (xs : List (List UInt8)) (y sep : List UInt8) : Go.Lib.join (xs ++ [y]) sep = if xs = [] then y else Go.Lib.join xs sep ++ (sep ++ y) := by
  cases xs with
  | nil => rw [if_pos rfl]; exact Go.Lib.join_one y sep
  | cons x r =>
    rw [if_neg (by simp), List.cons_append, Go.Lib.join_cons, Go.Lib.join_cons, List.append_assoc]
    congr 1
    unfold Go.Lib.joinTail
    rw [List.map_append, List.flatten_append]
    simp
theorem ct_step (l : List S34) (i : Nat) (hi : i < l.length) : impl_ChainText.text (l.take (i + 1)) = if i = 0 then impl_ChainText.word l[i] else impl_ChainText.text (l.take i) ++ ((⟨#[59]⟩ : ByteArray) ++ impl_ChainText.word l[i]) := by
  unfold impl_ChainText.text
  rw [List.take_succ_eq_append_getElem hi, List.map_append, List.map_append]
  show (⟨(Go.Lib.join (_ ++ [(impl_ChainText.word l[i]).data.toList]) [59]).toArray⟩ : ByteArray) = _
  rw [ct_snoc]
  by_cases h0 : i = 0
  · subst h0
    rw [if_pos rfl, if_pos (by simp)]
  · rw [if_neg h0, if_neg (by
      intro e
      have := congrArg List.length e
      rw [List.length_map, List.length_map, List.length_take, List.length_nil] at this
      omega), ct_app, ct_app]
theorem ct_word_app (o : ByteArray) (x : S34) : o ++ ((impl_ChainText.dig x.f0 ++ (⟨#[47]⟩ : ByteArray)) ++ impl_ChainText.dig x.f1) = o ++ impl_ChainText.word x := rfl
theorem ct_assoc (a b c : ByteArray) : (a ++ b) ++ c = a ++ (b ++ c) := ByteArray.append_assoc
theorem ct_text_len (l : List S34) (hl : l.length ≤ 100) (h : ∀ x ∈ l, -1000000 ≤ x.f0 ∧ x.f0 ≤ 1000000 ∧ -1000000 ≤ x.f1 ∧ x.f1 ≤ 1000000) : (impl_ChainText.text l).size ≤ 10000 := by
  have h1 := impl_ChainText.join_len l hl h
  show (Go.Lib.join ((l.map impl_ChainText.word).map (·.data.toList)) [59]).toArray.size ≤ 10000
  rw [List.size_toArray]
  exact h1
theorem spec_ChainText.l0_ev (l : List S34) (hl : l.length ≤ 100) (h : ∀ x ∈ l, -1000000 ≤ x.f0 ∧ x.f0 ≤ 1000000 ∧ -1000000 ≤ x.f1 ∧ x.f1 ≤ 1000000) : ∀ (d i : Nat), i + d = l.length → Ev (fun k => spec_ChainText.l0 k (impl_ChainText.text (l.take i)) l (l.length : Int) (i : Int)) (impl_ChainText.text l, true) := by
  intro d
  induction d with
  | zero =>
    intro i hi
    rw [List.take_of_length_le (by omega)]
    refine aid_ev_succ ?_
    simp only [spec_ChainText.l0]
    exact Ev.congr (fun k => if_neg (by omega)) (Ev.now _)
  | succ d ih =>
    intro i hi
    have hi' : i < l.length := by omega
    have h2 := ih (i + 1) (by omega)
    have hx := h l[i] (List.getElem_mem hi')
    have hT := ct_text_len (l.take i) (by rw [List.length_take]; omega) (fun x hx => h x (List.mem_of_mem_take hx))
    have hW := impl_ChainText.word_len l[i] hx
    have d1 := impl_ChainText.dig_len l[i].f0 hx.1 hx.2.1
    have d2 := impl_ChainText.dig_len l[i].f1 hx.2.2.1 hx.2.2.2
    have e1 := spec_wdInt.ev l[i].f0 hx.1 hx.2.1
    have e2 := spec_wdInt.ev l[i].f1 hx.2.2.1 hx.2.2.2
    have s1 : (impl_ChainText.dig l[i].f0).size + 1 ≤ 9223372036854775807 := by omega
    have s2 : (impl_ChainText.dig l[i].f0 ++ (⟨#[47]⟩ : ByteArray)).size + (impl_ChainText.dig l[i].f1).size ≤ 9223372036854775807 := by
      rw [ByteArray.size_append]
      show _ + 1 + _ ≤ _
      omega
    have hst := ct_step l i hi'
    refine aid_ev_succ ?_
    simp only [spec_ChainText.l0]
    rw [rd_part l i hi', aid_next (by omega)]
    refine Ev.congr (fun k => if_pos (by omega)) (Ev.congr (fun k => if_pos (by omega)) (Ev.congr (fun k => if_pos (by omega)) ?_))
    by_cases h0 : i = 0
    · rw [if_pos h0] at hst
      have s3 : (impl_ChainText.text (l.take i)).size + ((impl_ChainText.dig l[i].f0 ++ (⟨#[47]⟩ : ByteArray)) ++ impl_ChainText.dig l[i].f1).size ≤ 9223372036854775807 := by
        have hW' : ((impl_ChainText.dig l[i].f0 ++ (⟨#[47]⟩ : ByteArray)) ++ impl_ChainText.dig l[i].f1).size ≤ 43 := hW
        omega
      refine Ev.congr (fun k => if_neg (by omega)) (Ev.bind e1 (Ev.congr (fun k => if_pos s1) (Ev.bind e2 (Ev.congr (fun k => if_pos s2) (Ev.congr (fun k => if_pos s3) ?_)))))
      rw [ct_word_app]
      have e0 : impl_ChainText.text (l.take i) ++ impl_ChainText.word l[i] = impl_ChainText.text (l.take (i + 1)) := by
        rw [hst]
        have hz : impl_ChainText.text (l.take i) = (⟨#[]⟩ : ByteArray) := by
          have ez : l.take i = [] := by rw [h0]; rfl
          rw [ez]
          rfl
        rw [hz]
        apply ByteArray.ext
        rw [ByteArray.data_append]
        simp
      rw [e0]
      exact h2
    · rw [if_neg h0] at hst
      have s0 : (impl_ChainText.text (l.take i)).size + 1 ≤ 9223372036854775807 := by omega
      have s3 : (impl_ChainText.text (l.take i) ++ (⟨#[59]⟩ : ByteArray)).size + ((impl_ChainText.dig l[i].f0 ++ (⟨#[47]⟩ : ByteArray)) ++ impl_ChainText.dig l[i].f1).size ≤ 9223372036854775807 := by
        have hW' : ((impl_ChainText.dig l[i].f0 ++ (⟨#[47]⟩ : ByteArray)) ++ impl_ChainText.dig l[i].f1).size ≤ 43 := hW
        rw [ByteArray.size_append (a := impl_ChainText.text (l.take i))]
        show _ + 1 + _ ≤ _
        omega
      refine Ev.congr (fun k => if_pos (by omega)) (Ev.congr (fun k => if_pos s0) (Ev.bind e1 (Ev.congr (fun k => if_pos s1) (Ev.bind e2 (Ev.congr (fun k => if_pos s2) (Ev.congr (fun k => if_pos s3) ?_))))))
      rw [ct_word_app, ct_assoc, ← hst]
      exact h2
theorem partsB_in {p : List S34} (h : partsB p = true) : p.length ≤ 100 ∧ ∀ x ∈ p, -1000000 ≤ x.f0 ∧ x.f0 ≤ 1000000 ∧ -1000000 ≤ x.f1 ∧ x.f1 ≤ 1000000 := by
  have hl := partsB_len h
  refine ⟨by omega, fun x hx => ?_⟩
  unfold partsB at h
  rw [Bool.and_eq_true, List.all_eq_true] at h
  have h1 := h.2 x hx
  unfold partB at h1
  have h2 := (firstB_iff _ _ _ _).1 h1
  omega

theorem ct_both (p : List S34) : ∃ (w : ByteArray) (b : Bool), Ev (fun k => spec_ChainText.f k p) (w, b) ∧ impl_ChainText.f p = some (w, b) := by
  unfold spec_ChainText.f impl_ChainText.f
  have h1 := spec_chGood.ev p
  rw [impl_areParts.eq]
  cases hp : partsB p with
  | false =>
    rw [hp] at h1
    exact ⟨⟨#[]⟩, false, Ev.bind h1 (Ev.congr (fun k => if_neg (by decide)) (Ev.now _)), rfl⟩
  | true =>
    rw [hp] at h1
    have hb := partsB_in hp
    have h2 := spec_ChainText.l0_ev p hb.1 hb.2 p.length 0 (by omega)
    refine ⟨impl_ChainText.text p, true, Ev.bind h1 (Ev.congr (fun k => if_pos rfl) ?_), ?_⟩
    · have e : impl_ChainText.text (p.take 0) = (⟨#[]⟩ : ByteArray) := rfl
      rw [e] at h2
      exact h2
    · simp only [Option.bind_some, if_true]
      exact if_pos hb
theorem FnExactChainText : laws_FnExactChainText.Pure := by
  intro p _ h8
  refine Ev.rounds ?_
  unfold laws_FnExactChainText.f
  rw [laws_szFirstS.eq p h8]
  simp only [Option.bind_some]
  by_cases hb : (p.length : Int) > 1048576
  · rw [if_pos hb]
    exact Ev.congr (fun k => if_pos (by decide)) (Ev.now _)
  rw [if_neg hb]
  refine Ev.congr (fun k => if_neg (by omega)) ?_
  have hT := laws_toFirstS.ev p (by omega)
  obtain ⟨w, b, hs, hi⟩ := ct_both (p.map cvF)
  have hP := laws_eqFirstS.refl (p.map cvF) (by rw [List.length_map]; omega)
  have hN : ¬ ((b != b) = true) := by cases b <;> decide
  have g0 : Ev (fun k => laws_FnExactChainText.j0 k p (p.map cvF) (b != b)) true := by
    refine aid_ev_succ ?_
    simp only [laws_FnExactChainText.j0]
    exact Ev.congr (fun k => if_neg hN) (Ev.bind hT (Ev.bind hP (Ev.congr (fun k => if_pos rfl) (Ev.now _))))
  refine Ev.bind hT (Ev.bind hs (Ev.bind hT ?_))
  rw [hi]
  exact Ev.congr (fun k => if_pos rfl) g0

end Go.Proofs.YtjknlfgphlopnaaDoor.Pure
