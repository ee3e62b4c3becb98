/- Proves that the program's CountWraps returns what the reference's returns, for all arguments. Conditions: none. -/
import Derived.Test.YtlmlehfgdmhbmaaPFnExactCountWrapsx3
namespace Go.Proofs.Ytlmlehfgdmhbmaa.Pure
open Go.RowKit Go.Proofs.Ytlmlehfgdmhbmaa.PFnExactCountWraps Go.Proofs.YtlmlehfgdmhbmaaW.PrintWords Go.Proofs.YtlmlehfgdmhbmaaW.PrintLast
set_option linter.unusedSimpArgs false
set_option linter.unusedVariables false

-- Aid
theorem aid_wr {x : Int} (h0 : -9223372036854775808 ≤ x) (h1 : x ≤ 9223372036854775807) : wrap64 x = x := by unfold wrap64; omega
theorem aid_wf {x : Int} (h : (Lit.int .i64 x).wf = true) : -9223372036854775808 ≤ x ∧ x ≤ 9223372036854775807 := by
  have hmin : IntKind.i64.min = -9223372036854775808 := rfl
  have hmax : IntKind.i64.max = 9223372036854775807 := rfl
  simp only [Lit.wf, Bool.and_eq_true, decide_eq_true_eq, hmin, hmax] at h
  exact h
theorem aid_ev_bind {α β : Type} {g : Nat → Option α} {f : α → Option β} {a : α} {r : β} (h : Ev g a) (k : f a = some r) : Ev (fun n => (g n).bind f) r :=
  Ev.bind (f := fun _ => f) h ⟨0, fun _ _ => k⟩
theorem aid_ev_const {α : Type} {o : Option α} {r : α} (h : o = some r) : Ev (fun _ => o) r := ⟨0, fun _ _ => h⟩
theorem aid_tdiv {a b : Int} (ha : 0 ≤ a) : Int.tdiv a b = a / b := Int.tdiv_eq_ediv_of_nonneg ha
theorem aid_tmod {a b : Int} (ha : 0 ≤ a) : Int.tmod a b = a % b := Int.tmod_eq_emod_of_nonneg ha
theorem aid_next {i : Nat} (h : i ≤ 9223372036854775806) : wrap64 ((i : Int) + 1) = ((i + 1 : Nat) : Int) := by rw [aid_wr (by omega) (by omega)]; rfl
theorem aid_rd (l : List Int) (i : Nat) (h : i < l.length) : rd l (i : Int) = l[i] := by
  unfold rd
  rw [List.getD_eq_getElem?_getD, Int.toNat_natCast, List.getElem?_eq_getElem h]
  rfl
theorem aid_ev_succ {α : Type} {g : Nat → Option α} {r : α} (h : Ev (fun k => g (k + 1)) r) : Ev g r := Ev.step (fun _ => rfl) h

-- Sig
def sigB (l : List Int) : Bool := decide (l.length ≤ 64) && l.all fun x => decide (-100000 ≤ x ∧ x ≤ 100000)
theorem sigB_iff (l : List Int) : sigB l = true ↔ l.length ≤ 64 ∧ ∀ x ∈ l, -100000 ≤ x ∧ x ≤ 100000 := by
  simp [sigB]
def toldP (l : List Int) : List Int × Bool := if sigB l then (l, true) else ([], false)
theorem toldP_len (l : List Int) : (toldP l).1.length ≤ 64 := by
  unfold toldP
  cases h : sigB l with
  | true => simpa using ((sigB_iff l).1 h).1
  | false => simp

-- Wrap
def wI (H x : Int) : Int := (x + H) % (2 * H) - H
theorem aid_emod {x P y : Int} (hP : 0 < P) (h0 : 0 ≤ x - P * y) (h1 : x - P * y < P) : x % P = x - P * y :=
  ((Int.ediv_emod_unique hP (a := x) (r := x - P * y) (q := y)).2 ⟨by omega, h0, h1⟩).2
theorem wI_bound {H : Int} (hH : 1 ≤ H) (x : Int) : -H ≤ wI H x ∧ wI H x < H := by
  unfold wI
  have h1 := Int.emod_nonneg (x + H) (show 2 * H ≠ 0 by omega)
  have h2 := Int.emod_lt_of_pos (x + H) (show 0 < 2 * H by omega)
  omega
theorem wI_zero {H : Int} (hH : 1 ≤ H) : wI H 0 = 0 := by
  unfold wI
  rw [Int.zero_add, Int.emod_eq_of_lt (by omega) (by omega)]
  omega
theorem wI_add (H a x : Int) : wI H (wI H a + x) = wI H (a + x) := by
  unfold wI
  have e : (a + H) % (2 * H) - H + x + H = (a + H) % (2 * H) + x := by omega
  rw [e, Int.emod_add_emod]
  have e2 : a + H + x = a + x + H := by omega
  rw [e2]
theorem wrap_shl (t : Nat) (h : t ≤ 40) : shl .i64 1 (t : Int) = 2 ^ t := by
  have h' : ∀ s : Fin 41, shl .i64 1 ((s.val : Nat) : Int) = 2 ^ s.val := by decide +kernel
  exact h' ⟨t, by omega⟩
theorem wrap_pow (t : Nat) (h : t ≤ 39) : (1 : Int) ≤ 2 ^ t ∧ (2 : Int) ^ t ≤ 549755813888 := by
  have h' : ∀ s : Fin 40, (1 : Int) ≤ 2 ^ s.val ∧ (2 : Int) ^ s.val ≤ 549755813888 := by decide +kernel
  exact h' ⟨t, by omega⟩
theorem wrap_tmod (x M : Int) : (Int.tmod x M + M) % M = x % M := by
  have h : x % M = (Int.tmod x M) % M := by
    conv => lhs; rw [← Int.mul_tdiv_add_tmod x M, Int.add_comm, Int.add_mul_emod_self_left]
  rw [h, Int.add_emod_right]
theorem wrap_tmod_bound (x M : Int) (hM : 0 < M) : 0 < Int.tmod x M + M ∧ Int.tmod x M + M < 2 * M := by
  have h1 := Int.tmod_lt_of_pos x hM
  have h2 := Int.lt_tmod_of_pos x hM
  omega
theorem bits_split (b : Int) (h : 2 ≤ b ∧ b ≤ 40) : ∃ t : Nat, b = ((t + 1 : Nat) : Int) ∧ 1 ≤ t ∧ t ≤ 39 := ⟨(b - 1).toNat, by omega, by omega, by omega⟩
def sumsL : List Int → Int → List Int
  | [], _ => []
  | x :: r, a => (a + x) :: sumsL r (a + x)
def wsumL (H : Int) : List Int → Int → List Int
  | [], _ => []
  | x :: r, t => wI H (t + x) :: wsumL H r (wI H (t + x))
theorem wsumL_eq (H : Int) : ∀ (l : List Int) (a : Int), wsumL H l (wI H a) = (sumsL l a).map (wI H)
  | [], _ => rfl
  | x :: r, a => by rw [wsumL, sumsL, List.map_cons, wI_add, wsumL_eq H r (a + x)]
theorem sumsL_length : ∀ (l : List Int) (a : Int), (sumsL l a).length = l.length
  | [], _ => rfl
  | x :: r, a => by rw [sumsL, List.length_cons, sumsL_length r, List.length_cons]
theorem sumsL_bound (B : Nat) : ∀ (l : List Int) (a : Int) (c : Nat), (∀ x ∈ l, -(B : Int) ≤ x ∧ x ≤ B) → -((c * B : Nat) : Int) ≤ a → a ≤ ((c * B : Nat) : Int) → ∀ y ∈ sumsL l a, -(((c + l.length) * B : Nat) : Int) ≤ y ∧ y ≤ (((c + l.length) * B : Nat) : Int)
  | x :: r, a, c, hx, h0, h1, y, hy => by
    have hxx := hx x (by simp)
    have hc : ((c + 1) * B : Nat) = c * B + B := by rw [Nat.add_mul, Nat.one_mul]
    have hle : (c + 1) * B ≤ (c + (x :: r).length) * B := Nat.mul_le_mul_right B (by rw [List.length_cons]; omega)
    rw [sumsL] at hy
    rcases List.mem_cons.1 hy with hy | hy
    · omega
    · have h := sumsL_bound B r (a + x) (c + 1) (fun z hz => hx z (by simp [hz])) (by omega) (by omega) y hy
      have e : c + 1 + r.length = c + (x :: r).length := by rw [List.length_cons]; omega
      rw [e] at h
      exact h
def diffL : List Int → Int → List Int
  | [], _ => []
  | x :: r, a => (x - a) :: diffL r x
theorem diffL_length : ∀ (l : List Int) (a : Int), (diffL l a).length = l.length
  | [], _ => rfl
  | x :: r, a => by rw [diffL, List.length_cons, diffL_length r, List.length_cons]
theorem diffL_bound (B : Int) : ∀ (l : List Int) (a : Int), (∀ x ∈ l, -B ≤ x ∧ x ≤ B) → -B ≤ a → a ≤ B → ∀ y ∈ diffL l a, -(2 * B) ≤ y ∧ y ≤ 2 * B
  | x :: r, a, hx, h0, h1, y, hy => by
    have hxx := hx x (by simp)
    rw [diffL] at hy
    rcases List.mem_cons.1 hy with hy | hy
    · omega
    · exact diffL_bound B r x (fun z hz => hx z (by simp [hz])) hxx.1 hxx.2 y hy
def sumsN (H : Int) : Nat → List Int → List Int
  | 0, l => l
  | n + 1, l => sumsN H n ((sumsL l 0).map (wI H))
def combsN (H : Int) : Nat → List Int → List Int
  | 0, l => l
  | n + 1, l => combsN H n ((diffL l 0).map (wI H))
def okL (l : List Int) : Prop := l.length ≤ 1000 ∧ ∀ x ∈ l, -549755813888 ≤ x ∧ x ≤ 549755813888
theorem okL_map {H : Int} (hH : 1 ≤ H) (hH' : H ≤ 549755813888) (l : List Int) (h : l.length ≤ 1000) : okL (l.map (wI H)) := by
  refine ⟨by rw [List.length_map]; exact h, fun x hx => ?_⟩
  obtain ⟨y, _, rfl⟩ := List.mem_map.1 hx
  have := wI_bound hH y
  omega
theorem sumsN_ok {H : Int} (hH : 1 ≤ H) (hH' : H ≤ 549755813888) : ∀ (n : Nat) (l : List Int), okL l → okL (sumsN H n l) ∧ (sumsN H n l).length = l.length
  | 0, l, h => ⟨h, rfl⟩
  | n + 1, l, h => by
    obtain ⟨h1, h2⟩ := sumsN_ok hH hH' n ((sumsL l 0).map (wI H)) (okL_map hH hH' _ (by rw [sumsL_length]; exact h.1))
    rw [List.length_map, sumsL_length] at h2
    exact ⟨h1, h2⟩
theorem combsN_ok {H : Int} (hH : 1 ≤ H) (hH' : H ≤ 549755813888) : ∀ (n : Nat) (l : List Int), okL l → okL (combsN H n l) ∧ (combsN H n l).length = l.length
  | 0, l, h => ⟨h, rfl⟩
  | n + 1, l, h => by
    obtain ⟨h1, h2⟩ := combsN_ok hH hH' n ((diffL l 0).map (wI H)) (okL_map hH hH' _ (by rw [diffL_length]; exact h.1))
    rw [List.length_map, diffL_length] at h2
    exact ⟨h1, h2⟩

-- SigOk
theorem sig_okL {l : List Int} (h : sigB l = true) : okL l := by
  obtain ⟨h1, h2⟩ := (sigB_iff l).1 h
  exact ⟨by omega, fun x hx => by have := h2 x hx; omega⟩

-- laws_toIntS
theorem aid_fill (l : List Int) (i d : Nat) (h : i + (d + 1) = l.length) : (l.take i ++ List.replicate (d + 1) 0).set i (rd l i) = l.take (i + 1) ++ List.replicate d 0 := by
  have hi' : i < l.length := by omega
  have hlen : (l.take i).length = i := by rw [List.length_take]; omega
  rw [List.set_append_right _ _ (by omega), hlen, Nat.sub_self, aid_rd l i hi', List.take_succ_eq_append_getElem hi', List.append_assoc]
  rfl
theorem laws_toIntS.l0_ev (l : List Int) (hl : l.length ≤ 1000000000000000) : ∀ (d i : Nat), i + d = l.length → Ev (fun k => laws_toIntS.l0 k l (l.take i ++ List.replicate d 0) (i : Int)) l := by
  intro d
  induction d with
  | zero =>
    intro i h
    refine Ev.step (fun k => ?_) (Ev.now _)
    simp only [laws_toIntS.l0]
    rw [if_neg (by omega), List.take_of_length_le (by omega)]
    simp
  | succ d ih =>
    intro i h
    refine Ev.step (fun k => ?_) (ih (i + 1) (by omega))
    have hlen : (l.take i ++ List.replicate (d + 1) 0).length = l.length := by
      rw [List.length_append, List.length_take, List.length_replicate]; omega
    simp only [laws_toIntS.l0]
    rw [if_pos (by omega), if_pos (by omega), if_pos (by rw [hlen]; omega), aid_next (by omega), Int.toNat_natCast, aid_fill l i d h]
theorem laws_toIntS.ev (l : List Int) (hl : l.length * 8 ≤ 140737488351232) : Ev (fun k => laws_toIntS.f k l) l := by
  unfold laws_toIntS.f
  have h := laws_toIntS.l0_ev l (by omega) l.length 0 (by omega)
  refine Ev.congr (fun k => ?_) h
  rw [if_pos (by omega), if_pos (by omega)]
  simp

-- laws_eqIntS
theorem laws_eqIntS.l0_refl (l : List Int) (hl : l.length ≤ 1000000000000000) : ∀ (d i : Nat), i + d = l.length → Ev (fun k => laws_eqIntS.l0 k l l (i : Int)) true := by
  intro d
  induction d with
  | zero =>
    intro i h
    refine Ev.step (fun k => ?_) (Ev.now _)
    simp only [laws_eqIntS.l0]
    rw [if_neg (by omega)]
  | succ d ih =>
    intro i h
    refine Ev.step (fun k => ?_) (ih (i + 1) (by omega))
    simp only [laws_eqIntS.l0]
    rw [if_pos (by omega), if_pos (by omega), if_pos (by omega), if_pos trivial, aid_next (by omega)]
theorem laws_eqIntS.refl (l : List Int) (hl : l.length ≤ 1000000000000000) : Ev (fun k => laws_eqIntS.f k l l) true := by
  unfold laws_eqIntS.f
  exact Ev.congr (fun k => if_pos rfl) (laws_eqIntS.l0_refl l hl l.length 0 (by omega))

-- spec_l1In
theorem spec_l1In.eq (a lo hi : Int) : spec_l1In.f a lo hi = some (decide (lo ≤ a ∧ a ≤ hi)) := by
  unfold spec_l1In.f
  by_cases h : lo ≤ a <;> simp [h]

-- spec_l1All
theorem spec_l1All.l0_ev (lo hi : Int) (l : List Int) (hl : l.length ≤ 1000000000000000) : ∀ (d i : Nat), i + d = l.length → Ev (fun k => spec_l1All.l0 k lo hi l (l.length : Int) (i : Int)) ((l.drop i).all fun x => decide (lo ≤ x ∧ x ≤ hi)) := by
  intro d
  induction d with
  | zero =>
    intro i h
    rw [List.drop_eq_nil_of_le (by omega)]
    refine Ev.step (fun k => ?_) (Ev.now _)
    simp only [spec_l1All.l0]
    rw [if_neg (by omega)]
    rfl
  | succ d ih =>
    intro i h
    have hi' : i < l.length := by omega
    rw [List.drop_eq_getElem_cons hi', List.all_cons, ← aid_rd l i hi']
    by_cases hc : lo ≤ rd l i ∧ rd l i ≤ hi
    · refine Ev.step (fun k => ?_) (by simpa [hc] using ih (i + 1) (by omega))
      simp only [spec_l1All.l0]
      rw [if_pos (by omega), if_pos (by omega), if_pos (by omega), spec_l1In.eq, aid_next (by omega)]
      simp [hc]
    · refine Ev.step (f := fun _ => some false) (fun k => ?_) (by simpa [hc] using Ev.now false)
      simp only [spec_l1All.l0]
      rw [if_pos (by omega), if_pos (by omega), if_pos (by omega), spec_l1In.eq]
      simp [hc]
theorem spec_l1All.ev (lo hi : Int) (l : List Int) (hl : l.length ≤ 1000000000000000) : Ev (fun k => spec_l1All.f k l lo hi) (l.all fun x => decide (lo ≤ x ∧ x ≤ hi)) :=
  spec_l1All.l0_ev lo hi l hl l.length 0 (by omega)

-- spec_wdSignal
theorem spec_wdSignal.ev (l : List Int) : Ev (fun k => spec_wdSignal.f k l) (sigB l) := by
  unfold spec_wdSignal.f sigB
  by_cases h : l.length ≤ 64
  · have e := spec_l1All.ev (-100000) 100000 l (by omega)
    simp only [h, decide_true, Bool.true_and]
    refine Ev.congr (fun k => if_pos (by omega)) (aid_ev_bind e rfl)
  · simp only [h, decide_false, Bool.false_and]
    refine Ev.congr (fun k => if_neg (by omega)) (Ev.now _)

-- spec_cbAsked
theorem spec_cbAsked.eq (s r : Int) : spec_cbAsked.f s r = some (decide ((1 ≤ s ∧ s ≤ 4) ∧ (1 ≤ r ∧ r ≤ 8))) := by
  unfold spec_cbAsked.f
  rw [spec_l1In.eq, spec_l1In.eq]
  by_cases h : 1 ≤ s ∧ s ≤ 4 <;> simp [h]

-- spec_cbGood
theorem spec_cbGood.ev (l : List Int) (s r : Int) : Ev (fun k => spec_cbGood.f k l s r) (sigB l && decide ((1 ≤ s ∧ s ≤ 4) ∧ (1 ≤ r ∧ r ≤ 8))) := by
  unfold spec_cbGood.f
  have h := spec_wdSignal.ev l
  rw [spec_cbAsked.eq]
  cases hB : sigB l with
  | false =>
    rw [hB] at h
    exact Ev.bind h (Ev.now _)
  | true =>
    rw [hB] at h
    exact Ev.bind h (Ev.now _)

-- spec_cbBits
theorem spec_cbBits.eq (b : Int) : spec_cbBits.f b = some (decide (2 ≤ b ∧ b ≤ 40)) := by
  unfold spec_cbBits.f
  rw [spec_l1In.eq]
  rfl

-- spec_cbWrap
theorem spec_cbWrap.eq (t : Nat) (h1 : 1 ≤ t) (h2 : t ≤ 39) (x : Int) (hx0 : -4611686018427387904 ≤ x) (hx1 : x ≤ 4611686018427387904) : spec_cbWrap.f x ((t + 1 : Nat) : Int) = some (wI (2 ^ t) x) := by
  unfold spec_cbWrap.f
  rw [if_pos (by omega), wrap_shl (t + 1) (by omega)]
  have hp : (2 : Int) ^ (t + 1) = 2 * 2 ^ t := by rw [Int.pow_succ, Int.mul_comm]
  obtain ⟨hH, hH'⟩ := wrap_pow t h2
  rw [hp]
  generalize (2 : Int) ^ t = H at hH hH' ⊢
  obtain ⟨b0, b1⟩ := wrap_tmod_bound x (2 * H) (by omega)
  have hz : Int.tmod (wrap64 (Int.tmod x (2 * H) + 2 * H)) (2 * H) = x % (2 * H) := by
    rw [aid_wr (by omega) (by omega), aid_tmod (by omega), wrap_tmod]
  have hd : wrap64 (Int.tdiv (2 * H) 2) = H := by
    rw [aid_tdiv (by omega), aid_wr (by omega) (by omega)]
    exact Int.mul_ediv_cancel_left H (by omega)
  rw [if_neg (by omega), hz, hd]
  clear hz hd b0 b1
  have e := Int.mul_ediv_add_emod x (2 * H)
  have r0 := Int.emod_nonneg x (show 2 * H ≠ 0 by omega)
  have r1 := Int.emod_lt_of_pos x (show 0 < 2 * H by omega)
  unfold wI
  by_cases hc : x % (2 * H) ≥ H
  · rw [if_pos hc, aid_wr (by omega) (by omega), aid_emod (x := x + H) (y := x / (2 * H) + 1) (by omega) (by rw [Int.mul_add, Int.mul_one]; omega) (by rw [Int.mul_add, Int.mul_one]; omega), Int.mul_add, Int.mul_one]
    congr 1
    omega
  · rw [if_neg hc, aid_emod (x := x + H) (y := x / (2 * H)) (by omega) (by omega) (by omega)]
    congr 1
    omega

-- impl_in
theorem impl_in.eq (a lo hi : Int) : impl_in.f a lo hi = some (decide (lo ≤ a ∧ a ≤ hi)) := by
  unfold impl_in.f
  by_cases h : lo ≤ a <;> simp [h]

-- impl_isSignal
theorem impl_isSignal.eq (l : List Int) : impl_isSignal.f l = some (sigB l) := by
  unfold impl_isSignal.f sigB
  have e1 : decide ((l.length : Int) ≤ 64) = decide (l.length ≤ 64) := by
    rw [Bool.eq_iff_iff]; simp; omega
  have e2 : (!(l.any fun x => !(decide (-100000 ≤ x) && decide (x ≤ 100000)))) = l.all fun x => decide (-100000 ≤ x ∧ x ≤ 100000) := by
    rw [List.not_any_eq_all_not]
    congr 1
    funext x
    rw [Bool.eq_iff_iff]
    simp
  rw [e1, e2]

-- impl_isLong
theorem impl_isLong.eq (b : Int) : impl_isLong.f b = some (decide (2 ≤ b ∧ b ≤ 40)) := by
  unfold impl_isLong.f
  rw [impl_in.eq]
  rfl

-- impl_isComb
theorem impl_isComb.eq (s r : Int) : impl_isComb.f s r = some (decide ((1 ≤ s ∧ s ≤ 4) ∧ (1 ≤ r ∧ r ≤ 8))) := by
  unfold impl_isComb.f
  rw [impl_in.eq, impl_in.eq]
  by_cases h : 1 ≤ s ∧ s ≤ 4 <;> simp [h]

-- impl_wrap
theorem impl_wrap.eq (t : Nat) (h1 : 1 ≤ t) (h2 : t ≤ 39) (x : Int) (hx0 : -4611686018427387904 ≤ x) (hx1 : x ≤ 4611686018427387904) : impl_wrap.f x ((t + 1 : Nat) : Int) = some (wI (2 ^ t) x) := by
  unfold impl_wrap.f impl_mod.f
  have et : wrap64 (((t + 1 : Nat) : Int) - 1) = (t : Int) := by
    rw [aid_wr (by omega) (by omega)]
    omega
  rw [et, wrap_shl t (by omega)]
  clear et
  obtain ⟨hH, hH'⟩ := wrap_pow t h2
  generalize (2 : Int) ^ t = H at hH hH' ⊢
  rw [if_pos (by omega), aid_wr (x := x + H) (by omega) (by omega), aid_wr (x := 2 * H) (by omega) (by omega), if_neg (by omega)]
  obtain ⟨b0, b1⟩ := wrap_tmod_bound (x + H) (2 * H) (by omega)
  rw [aid_wr (x := Int.tmod (x + H) (2 * H) + 2 * H) (by omega) (by omega), aid_tmod (by omega), wrap_tmod]
  have r0 := Int.emod_nonneg (x + H) (show 2 * H ≠ 0 by omega)
  have r1 := Int.emod_lt_of_pos (x + H) (show 0 < 2 * H by omega)
  simp only [Option.bind_some]
  rw [aid_wr (by omega) (by omega)]
  rfl

def colN (H : Int) : List Int → Int → List Int
  | [], _ => []
  | h :: hs, x => wI H (h + x) :: colN H hs (wI H (h + x))
def colC (H : Int) : List Int → Int → Nat
  | [], _ => 0
  | h :: hs, x => (if wI H (h + x) = h + x then 0 else 1) + colC H hs (wI H (h + x))
def rowC (H : Int) : List Int → Int → Nat
  | [], _ => 0
  | x :: r, h => (if wI H (h + x) = h + x then 0 else 1) + rowC H r (wI H (h + x))
def colsC (H : Int) : List Int → List Int → Nat
  | _, [] => 0
  | hs, x :: r => colC H hs x + colsC H (colN H hs x) r
def rowsC (H : Int) : List Int → List Int → Nat
  | [], _ => 0
  | h :: hs, l => rowC H l h + rowsC H hs (wsumL H l h)
theorem rowsC_cons (H : Int) : ∀ (hs : List Int) (x : Int) (r : List Int), rowsC H hs (x :: r) = colC H hs x + rowsC H (colN H hs x) r
  | [], _, _ => rfl
  | h :: hs, x, r => by
    rw [rowsC, rowC, wsumL, colC, colN, rowsC, rowsC_cons H hs]
    omega
theorem rowsC_nil (H : Int) : ∀ hs : List Int, rowsC H hs [] = 0
  | [] => rfl
  | h :: hs => by rw [rowsC, rowC, wsumL, rowsC_nil H hs]
theorem cols_rows (H : Int) : ∀ (l hs : List Int), colsC H hs l = rowsC H hs l
  | [], hs => by rw [rowsC_nil, colsC]
  | x :: r, hs => by rw [colsC, rowsC_cons, cols_rows H r]
theorem colN_length (H : Int) : ∀ (hs : List Int) (x : Int), (colN H hs x).length = hs.length
  | [], _ => rfl
  | h :: hs, x => by rw [colN, List.length_cons, colN_length H hs, List.length_cons]
theorem colC_le (H : Int) : ∀ (hs : List Int) (x : Int), colC H hs x ≤ hs.length
  | [], _ => Nat.le_refl _
  | h :: hs, x => by
    have := colC_le H hs (wI H (h + x))
    rw [colC, List.length_cons]
    split <;> omega
theorem colN_bound {H : Int} (hH : 1 ≤ H) : ∀ (hs : List Int) (x : Int), ∀ y ∈ colN H hs x, -H ≤ y ∧ y < H
  | h :: hs, x, y, hy => by
    rw [colN] at hy
    rcases List.mem_cons.1 hy with hy | hy
    · rw [hy]
      exact wI_bound hH _
    · exact colN_bound hH hs _ y hy
theorem rowC_le (H : Int) : ∀ (l : List Int) (h : Int), rowC H l h ≤ l.length
  | [], _ => Nat.le_refl _
  | x :: r, h => by
    have := rowC_le H r (wI H (h + x))
    rw [rowC, List.length_cons]
    split <;> omega
theorem wsumL_length (H : Int) : ∀ (l : List Int) (a : Int), (wsumL H l a).length = l.length
  | [], _ => rfl
  | x :: r, a => by rw [wsumL, List.length_cons, wsumL_length H r, List.length_cons]
theorem wsumL_bound {H : Int} (hH : 1 ≤ H) : ∀ (l : List Int) (a : Int), ∀ y ∈ wsumL H l a, -H ≤ y ∧ y < H
  | x :: r, a, y, hy => by
    rw [wsumL] at hy
    rcases List.mem_cons.1 hy with hy | hy
    · rw [hy]
      exact wI_bound hH _
    · exact wsumL_bound hH r _ y hy
theorem cw_spec1 (t : Nat) (h1 : 1 ≤ t) (h2 : t ≤ 39) (l : List Int) (hl : l.length ≤ 64) (hx : ∀ x ∈ l, -549755813888 ≤ x ∧ x ≤ 549755813888) (n s : Int) (v : Int × Bool) : ∀ (d i : Nat) (c : Nat) (a : Int) (o : List Int), i + d = l.length → o.length = i → c + d ≤ 1000000 → -549755813888 ≤ a → a ≤ 549755813888 →
    Ev (fun k => spec_CountWraps.l0 k (o ++ wsumL (2 ^ t) (l.drop i) a) ((t + 1 : Nat) : Int) n ((c + rowC (2 ^ t) (l.drop i) a : Nat) : Int) (wrap64 (s + 1))) v →
    Ev (fun k => spec_CountWraps.l1 k l ((t + 1 : Nat) : Int) n (c : Int) s a o (l.length : Int) (i : Int)) v := by
  obtain ⟨hH, hH'⟩ := wrap_pow t h2
  intro d
  induction d with
  | zero =>
    intro i c a o hi ho hc h0 h3 hv
    rw [List.drop_eq_nil_of_le (by omega), wsumL, rowC, List.append_nil, Nat.add_zero] at hv
    refine aid_ev_succ ?_
    simp only [spec_CountWraps.l1]
    exact Ev.congr (fun k => if_neg (by omega)) hv
  | succ d ih =>
    intro i c a o hi ho hc h0 h3 hv
    have hi' : i < l.length := by omega
    have hxi := hx l[i] (List.getElem_mem hi')
    have hwb := wI_bound hH (a + l[i])
    rw [List.drop_eq_getElem_cons hi', wsumL, rowC] at hv
    refine aid_ev_succ ?_
    simp only [spec_CountWraps.l1]
    refine Ev.congr (fun k => if_pos (by omega)) ?_
    refine Ev.congr (fun k => if_pos (by omega)) ?_
    refine Ev.congr (fun k => if_pos (by omega)) ?_
    rw [aid_rd l i hi', aid_wr (x := a + l[i]) (by omega) (by omega), spec_cbWrap.eq t h1 h2 _ (by omega) (by omega), aid_next (by omega)]
    simp only [Option.bind_some]
    by_cases hq : wI (2 ^ t) (a + l[i]) = a + l[i]
    · rw [if_pos hq, Nat.zero_add] at hv
      refine Ev.congr (fun k => if_pos hq) ?_
      refine Ev.congr (fun k => if_pos (by omega)) ?_
      exact ih (i + 1) c _ (o ++ [wI (2 ^ t) (a + l[i])]) (by omega) (by simp [ho]) (by omega) (by omega) (by omega) (by rw [List.append_assoc]; exact hv)
    · rw [if_neg hq] at hv
      refine Ev.congr (fun k => if_neg hq) ?_
      refine Ev.congr (fun k => if_pos (by omega)) ?_
      rw [aid_next (by omega)]
      exact ih (i + 1) (c + 1) _ (o ++ [wI (2 ^ t) (a + l[i])]) (by omega) (by simp [ho]) (by omega) (by omega) (by omega) (by rw [List.append_assoc, Nat.add_assoc]; exact hv)
theorem cw_spec0 (t : Nat) (h1 : 1 ≤ t) (h2 : t ≤ 39) (n : Nat) (hn : n ≤ 4) : ∀ (d i c : Nat) (l : List Int), i + d = n → l.length ≤ 64 → (∀ x ∈ l, -549755813888 ≤ x ∧ x ≤ 549755813888) → c ≤ 64 * i →
    Ev (fun k => spec_CountWraps.l0 k l ((t + 1 : Nat) : Int) (n : Int) (c : Int) (i : Int)) (((c + rowsC (2 ^ t) (List.replicate d 0) l : Nat) : Int), true) := by
  obtain ⟨hH, hH'⟩ := wrap_pow t h2
  intro d
  induction d with
  | zero =>
    intro i c l hi hl hx hc
    refine aid_ev_succ ?_
    simp only [spec_CountWraps.l0]
    exact Ev.congr (fun k => if_neg (by omega)) (Ev.now _)
  | succ d ih =>
    intro i c l hi hl hx hc
    have hrc := rowC_le (2 ^ t) l 0
    have h := ih (i + 1) (c + rowC (2 ^ t) l 0) (wsumL (2 ^ t) l 0) (by omega) (by rw [wsumL_length]; exact hl) (fun x hm => by have := wsumL_bound hH l 0 x hm; omega) (by omega)
    rw [List.replicate_succ, rowsC, ← Nat.add_assoc]
    refine aid_ev_succ ?_
    simp only [spec_CountWraps.l0]
    refine Ev.congr (fun k => if_pos (by omega)) ?_
    refine cw_spec1 t h1 h2 l hl hx (n : Int) (i : Int) _ l.length 0 c 0 [] (by omega) rfl (by omega) (by omega) (by omega) ?_
    rw [List.nil_append, aid_next (by omega)]
    exact h
theorem cw_impl1 (t : Nat) (h1 : 1 ≤ t) (h2 : t ≤ 39) (l : List Int) (n i : Int) (v : Int × Bool) (q : Nat) (hq : q ≤ 100) : ∀ (rest done : List Int) (c : Nat) (x : Int), done.length + rest.length = q → (∀ h ∈ rest, -549755813888 ≤ h ∧ h ≤ 549755813888) → c + rest.length ≤ 1000000 → -549755813888 ≤ x → x ≤ 549755813888 →
    Ev (fun k => impl_CountWraps.l0 k ((t + 1 : Nat) : Int) ((c + colC (2 ^ t) rest x : Nat) : Int) (done ++ colN (2 ^ t) rest x) l n (wrap64 (i + 1))) v →
    Ev (fun k => impl_CountWraps.l1 k ((t + 1 : Nat) : Int) (c : Int) (done ++ rest) x l n i (q : Int) (done.length : Int)) v := by
  obtain ⟨hH, hH'⟩ := wrap_pow t h2
  intro rest
  induction rest with
  | nil =>
    intro done c x hl hb hc h0 h3 hv
    rw [List.length_nil] at hl
    refine aid_ev_succ ?_
    simp only [impl_CountWraps.l1]
    exact Ev.congr (fun k => if_neg (by omega)) hv
  | cons y rest ih =>
    intro done c x hl hb hc h0 h3 hv
    rw [List.length_cons] at hl hc
    have hyb := hb y (by simp)
    have hwb := wI_bound hH (y + x)
    have hli : done.length < (done ++ y :: rest).length := by rw [List.length_append, List.length_cons]; omega
    have hg : (done ++ y :: rest)[done.length]'hli = y := by simp
    have hset : (done ++ y :: rest).set done.length (wI (2 ^ t) (y + x)) = (done ++ [wI (2 ^ t) (y + x)]) ++ rest := by
      rw [List.set_append_right _ _ (Nat.le_refl _), Nat.sub_self, List.set_cons_zero, List.append_assoc]
      rfl
    have hli2 : done.length < ((done ++ [wI (2 ^ t) (y + x)]) ++ rest).length := by rw [List.length_append, List.length_append, List.length_singleton]; omega
    have hg2 : ((done ++ [wI (2 ^ t) (y + x)]) ++ rest)[done.length]'hli2 = wI (2 ^ t) (y + x) := by simp
    have hlen2 : (done ++ [wI (2 ^ t) (y + x)]).length = done.length + 1 := by simp
    have ih' := fun c' => ih (done ++ [wI (2 ^ t) (y + x)]) c' (wI (2 ^ t) (y + x)) (by omega) (fun h hh => hb h (by simp [hh]))
    rw [hlen2] at ih'
    rw [colC, colN] at hv
    refine aid_ev_succ ?_
    simp only [impl_CountWraps.l1]
    refine Ev.congr (fun k => if_pos (by omega)) ?_
    refine Ev.congr (fun k => if_pos (by omega)) ?_
    refine Ev.congr (fun k => if_pos (by omega)) ?_
    rw [aid_rd _ _ hli, hg, Int.add_comm x y, aid_wr (x := y + x) (by omega) (by omega), impl_wrap.eq t h1 h2 _ (by omega) (by omega)]
    simp only [Option.bind_some]
    rw [Int.toNat_natCast, hset, aid_rd _ _ hli2, hg2, aid_next (by omega)]
    by_cases hc2 : wI (2 ^ t) (y + x) = y + x
    · rw [if_pos hc2, Nat.zero_add] at hv
      refine Ev.congr (fun k => if_pos hc2) ?_
      exact ih' c (by omega) (by omega) (by omega) (by rw [List.append_assoc]; exact hv)
    · rw [if_neg hc2] at hv
      refine Ev.congr (fun k => if_neg hc2) ?_
      rw [aid_next (by omega)]
      exact ih' (c + 1) (by omega) (by omega) (by omega) (by rw [List.append_assoc, Nat.add_assoc]; exact hv)
theorem cw_impl0 (t : Nat) (h1 : 1 ≤ t) (h2 : t ≤ 39) (l : List Int) (hl : l.length ≤ 64) (hx : ∀ x ∈ l, -549755813888 ≤ x ∧ x ≤ 549755813888) : ∀ (d i c : Nat) (hs : List Int), i + d = l.length → hs.length ≤ 4 → (∀ h ∈ hs, -549755813888 ≤ h ∧ h ≤ 549755813888) → c ≤ 4 * i →
    Ev (fun k => impl_CountWraps.l0 k ((t + 1 : Nat) : Int) (c : Int) hs l (l.length : Int) (i : Int)) (((c + colsC (2 ^ t) hs (l.drop i) : Nat) : Int), true) := by
  obtain ⟨hH, hH'⟩ := wrap_pow t h2
  intro d
  induction d with
  | zero =>
    intro i c hs hi hq hb hc
    rw [List.drop_eq_nil_of_le (by omega), colsC]
    refine aid_ev_succ ?_
    simp only [impl_CountWraps.l0]
    exact Ev.congr (fun k => if_neg (by omega)) (Ev.now _)
  | succ d ih =>
    intro i c hs hi hq hb hc
    have hi' : i < l.length := by omega
    have hxi := hx l[i] (List.getElem_mem hi')
    have hcc := colC_le (2 ^ t) hs l[i]
    have h := ih (i + 1) (c + colC (2 ^ t) hs l[i]) (colN (2 ^ t) hs l[i]) (by omega) (by rw [colN_length]; exact hq) (fun y hy => by have := colN_bound hH hs l[i] y hy; omega) (by omega)
    rw [List.drop_eq_getElem_cons hi', colsC, ← Nat.add_assoc]
    refine aid_ev_succ ?_
    simp only [impl_CountWraps.l0]
    refine Ev.congr (fun k => if_pos (by omega)) ?_
    refine Ev.congr (fun k => if_pos (by omega)) ?_
    refine Ev.congr (fun k => if_pos (by omega)) ?_
    rw [aid_rd l i hi']
    refine cw_impl1 t h1 h2 l (l.length : Int) (i : Int) _ hs.length (by omega) hs [] c l[i] (by simp) hb (by omega) (by omega) (by omega) ?_
    rw [List.nil_append, aid_next (by omega)]
    exact h
theorem cwraps_both (l : List Int) (b s : Int) : ∃ r : Int × Bool, Ev (fun k => spec_CountWraps.f k l b s) r ∧ Ev (fun k => impl_CountWraps.f k l b s) r := by
  unfold spec_CountWraps.f impl_CountWraps.f
  rw [impl_isSignal.eq, impl_isLong.eq, impl_isComb.eq, spec_cbBits.eq]
  have hG := spec_cbGood.ev l s 1
  have hsN : Ev (fun k => spec_CountWraps.j0 k l b s true) ((0 : Int), false) := by
    refine aid_ev_succ ?_
    simp only [spec_CountWraps.j0]
    exact Ev.now _
  have hiN : Ev (fun k => impl_CountWraps.j0 k l b s true) ((0 : Int), false) := by
    refine aid_ev_succ ?_
    simp only [impl_CountWraps.j0]
    exact Ev.now _
  cases hB : sigB l with
  | false =>
    rw [hB, Bool.false_and] at hG
    exact ⟨(0, false), Ev.bind hG hsN, hiN⟩
  | true =>
    rw [hB, Bool.true_and] at hG
    by_cases hb : 2 ≤ b ∧ b ≤ 40
    · rw [decide_eq_true hb]
      by_cases hs : (1 ≤ s ∧ s ≤ 4) ∧ (1 ≤ (1 : Int) ∧ (1 : Int) ≤ 8)
      · rw [decide_eq_true hs] at hG ⊢
        obtain ⟨t, rfl, ht1, ht2⟩ := bits_split b hb
        obtain ⟨n, rfl⟩ := Int.eq_ofNat_of_zero_le (show 0 ≤ s by omega)
        obtain ⟨hl, hx⟩ := (sigB_iff l).1 hB
        have hx' : ∀ x ∈ l, -549755813888 ≤ x ∧ x ≤ 549755813888 := fun x hm => by have := hx x hm; omega
        have hS := cw_spec0 t ht1 ht2 n (by omega) n 0 0 l (by omega) hl hx' (by omega)
        have hI := cw_impl0 t ht1 ht2 l hl hx' l.length 0 0 (List.replicate n 0) (by omega) (by rw [List.length_replicate]; omega) (fun h hh => by rw [(List.mem_replicate.1 hh).2]; omega) (by omega)
        rw [List.drop_zero, cols_rows] at hI
        refine ⟨(((0 + rowsC (2 ^ t) (List.replicate n 0) l : Nat) : Int), true), Ev.bind hG ?_, ?_⟩
        · refine Ev.congr (fun k => if_pos rfl) (f := fun k => spec_CountWraps.j0 k l ((t + 1 : Nat) : Int) (n : Int) false) ?_
          refine aid_ev_succ ?_
          simp only [spec_CountWraps.j0]
          exact Ev.congr (fun k => if_neg (by decide)) hS
        · refine Ev.congr (fun k => rfl) (f := fun k => impl_CountWraps.j0 k l ((t + 1 : Nat) : Int) (n : Int) false) ?_
          refine aid_ev_succ ?_
          simp only [impl_CountWraps.j0]
          refine Ev.congr (fun k => if_neg (by decide)) ?_
          refine Ev.congr (fun k => if_pos (by omega)) ?_
          refine Ev.congr (fun k => if_pos (by omega)) ?_
          rw [Int.toNat_natCast]
          exact hI
      · rw [decide_eq_false hs] at hG ⊢
        exact ⟨(0, false), Ev.bind hG hsN, hiN⟩
    · rw [decide_eq_false hb]
      refine ⟨(0, false), Ev.bind hG ?_, hiN⟩
      cases decide ((1 ≤ s ∧ s ≤ 4) ∧ (1 ≤ (1 : Int) ∧ (1 : Int) ≤ 8)) with
      | false => exact hsN
      | true => exact hsN
theorem FnExactCountWraps : laws_FnExactCountWraps.Pure := by
  intro l c s _ h8 _ _ _
  refine Ev.rounds ?_
  unfold laws_FnExactCountWraps.f
  by_cases hb : (l.length : Int) > 1048576
  · exact Ev.congr (fun k => if_pos hb) (Ev.now _)
  refine Ev.congr (fun k => if_neg hb) ?_
  have hT := laws_toIntS.ev l h8
  obtain ⟨⟨r, b⟩, hs, hi⟩ := cwraps_both l c s
  have hE := laws_eqIntS.refl l (by omega)
  have hEl := hE
  have hM := hE
  have hMl := hE
  have hH := hE
  have hNb : ¬ ((b != b) = true) := by cases b <;> decide
  have hN1 := hNb
  have hN2 := hNb
  repeat (first
    | exact Ev.now _
    | ((with_reducible refine Ev.bind hT ?_); try dsimp only)
    | ((with_reducible refine Ev.bind hs ?_); try dsimp only)
    | ((with_reducible refine Ev.bind hi ?_); try dsimp only)
    | ((with_reducible refine Ev.bind hE ?_); try dsimp only)
    | ((with_reducible refine Ev.bind hEl ?_); try dsimp only)
    | ((with_reducible refine Ev.bind hM ?_); try dsimp only)
    | ((with_reducible refine Ev.bind hMl ?_); try dsimp only)
    | ((with_reducible refine Ev.bind hH ?_); try dsimp only)
    | (with_reducible refine Ev.congr (fun k => if_pos rfl) ?_)
    | (with_reducible refine Ev.congr (fun k => if_neg hNb) ?_)
    | (with_reducible refine Ev.congr (fun k => if_neg hN1) ?_)
    | (with_reducible refine Ev.congr (fun k => if_neg hN2) ?_)
    | (refine aid_ev_succ ?_; simp only [laws_FnExactCountWraps.j0]; try dsimp only))

end Go.Proofs.Ytlmlehfgdmhbmaa.Pure
