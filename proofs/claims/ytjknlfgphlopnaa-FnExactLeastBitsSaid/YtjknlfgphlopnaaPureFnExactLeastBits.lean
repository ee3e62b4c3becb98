/- Proves that the program's LeastBits returns what the reference's returns, for all arguments. Conditions: none. -/
import Derived.Test.YtjknlfgphlopnaaPFnExactLeastBitsx6
namespace Go.Proofs.Ytjknlfgphlopnaa.Pure
open Go.RowKit Go.Proofs.Ytjknlfgphlopnaa.PFnExactLeastBits Go.Proofs.YtjknlfgphlopnaaW.PrintWords Go.Proofs.YtjknlfgphlopnaaW.PrintLast
set_option linter.unusedSimpArgs false
set_option linter.unusedVariables false

-- Aid
theorem aid_wr {x : Int} (h0 : -9223372036854775808 ≤ x) (h1 : x ≤ 9223372036854775807) : wrap64 x = x := by unfold wrap64; omega
theorem aid_wf {x : Int} (h : (Lit.int .i64 x).wf = true) : -9223372036854775808 ≤ x ∧ x ≤ 9223372036854775807 := by
  have hmin : IntKind.i64.min = -9223372036854775808 := rfl
  have hmax : IntKind.i64.max = 9223372036854775807 := rfl
  simp only [Lit.wf, Bool.and_eq_true, decide_eq_true_eq, hmin, hmax] at h
  exact h
theorem aid_ev_bind {α β : Type} {g : Nat → Option α} {f : α → Option β} {a : α} {r : β} (h : Ev g a) (k : f a = some r) : Ev (fun n => (g n).bind f) r :=
  Ev.bind (f := fun _ => f) h ⟨0, fun _ _ => k⟩
theorem aid_ev_const {α : Type} {o : Option α} {r : α} (h : o = some r) : Ev (fun _ => o) r := ⟨0, fun _ _ => h⟩
theorem aid_tdiv {a b : Int} (ha : 0 ≤ a) : Int.tdiv a b = a / b := Int.tdiv_eq_ediv_of_nonneg ha
theorem aid_tmod {a b : Int} (ha : 0 ≤ a) : Int.tmod a b = a % b := Int.tmod_eq_emod_of_nonneg ha
theorem aid_next {i : Nat} (h : i ≤ 9223372036854775806) : wrap64 ((i : Int) + 1) = ((i + 1 : Nat) : Int) := by rw [aid_wr (by omega) (by omega)]; rfl
theorem aid_rd (l : List Int) (i : Nat) (h : i < l.length) : rd l (i : Int) = l[i] := by
  unfold rd
  rw [List.getD_eq_getElem?_getD, Int.toNat_natCast, List.getElem?_eq_getElem h]
  rfl
theorem aid_ev_succ {α : Type} {g : Nat → Option α} {r : α} (h : Ev (fun k => g (k + 1)) r) : Ev g r := Ev.step (fun _ => rfl) h

-- Sig
def sigB (l : List Int) : Bool := decide (l.length ≤ 64) && l.all fun x => decide (-100000 ≤ x ∧ x ≤ 100000)
theorem sigB_iff (l : List Int) : sigB l = true ↔ l.length ≤ 64 ∧ ∀ x ∈ l, -100000 ≤ x ∧ x ≤ 100000 := by
  simp [sigB]
def toldP (l : List Int) : List Int × Bool := if sigB l then (l, true) else ([], false)
theorem toldP_len (l : List Int) : (toldP l).1.length ≤ 64 := by
  unfold toldP
  cases h : sigB l with
  | true => simpa using ((sigB_iff l).1 h).1
  | false => simp

-- Wrap
def wI (H x : Int) : Int := (x + H) % (2 * H) - H
theorem aid_emod {x P y : Int} (hP : 0 < P) (h0 : 0 ≤ x - P * y) (h1 : x - P * y < P) : x % P = x - P * y :=
  ((Int.ediv_emod_unique hP (a := x) (r := x - P * y) (q := y)).2 ⟨by omega, h0, h1⟩).2
theorem wI_bound {H : Int} (hH : 1 ≤ H) (x : Int) : -H ≤ wI H x ∧ wI H x < H := by
  unfold wI
  have h1 := Int.emod_nonneg (x + H) (show 2 * H ≠ 0 by omega)
  have h2 := Int.emod_lt_of_pos (x + H) (show 0 < 2 * H by omega)
  omega
theorem wI_zero {H : Int} (hH : 1 ≤ H) : wI H 0 = 0 := by
  unfold wI
  rw [Int.zero_add, Int.emod_eq_of_lt (by omega) (by omega)]
  omega
theorem wI_add (H a x : Int) : wI H (wI H a + x) = wI H (a + x) := by
  unfold wI
  have e : (a + H) % (2 * H) - H + x + H = (a + H) % (2 * H) + x := by omega
  rw [e, Int.emod_add_emod]
  have e2 : a + H + x = a + x + H := by omega
  rw [e2]
theorem wrap_shl (t : Nat) (h : t ≤ 40) : shl .i64 1 (t : Int) = 2 ^ t := by
  have h' : ∀ s : Fin 41, shl .i64 1 ((s.val : Nat) : Int) = 2 ^ s.val := by decide +kernel
  exact h' ⟨t, by omega⟩
theorem wrap_pow (t : Nat) (h : t ≤ 39) : (1 : Int) ≤ 2 ^ t ∧ (2 : Int) ^ t ≤ 549755813888 := by
  have h' : ∀ s : Fin 40, (1 : Int) ≤ 2 ^ s.val ∧ (2 : Int) ^ s.val ≤ 549755813888 := by decide +kernel
  exact h' ⟨t, by omega⟩
theorem wrap_tmod (x M : Int) : (Int.tmod x M + M) % M = x % M := by
  have h : x % M = (Int.tmod x M) % M := by
    conv => lhs; rw [← Int.mul_tdiv_add_tmod x M, Int.add_comm, Int.add_mul_emod_self_left]
  rw [h, Int.add_emod_right]
theorem wrap_tmod_bound (x M : Int) (hM : 0 < M) : 0 < Int.tmod x M + M ∧ Int.tmod x M + M < 2 * M := by
  have h1 := Int.tmod_lt_of_pos x hM
  have h2 := Int.lt_tmod_of_pos x hM
  omega
theorem bits_split (b : Int) (h : 2 ≤ b ∧ b ≤ 40) : ∃ t : Nat, b = ((t + 1 : Nat) : Int) ∧ 1 ≤ t ∧ t ≤ 39 := ⟨(b - 1).toNat, by omega, by omega, by omega⟩
def sumsL : List Int → Int → List Int
  | [], _ => []
  | x :: r, a => (a + x) :: sumsL r (a + x)
def wsumL (H : Int) : List Int → Int → List Int
  | [], _ => []
  | x :: r, t => wI H (t + x) :: wsumL H r (wI H (t + x))
theorem wsumL_eq (H : Int) : ∀ (l : List Int) (a : Int), wsumL H l (wI H a) = (sumsL l a).map (wI H)
  | [], _ => rfl
  | x :: r, a => by rw [wsumL, sumsL, List.map_cons, wI_add, wsumL_eq H r (a + x)]
theorem sumsL_length : ∀ (l : List Int) (a : Int), (sumsL l a).length = l.length
  | [], _ => rfl
  | x :: r, a => by rw [sumsL, List.length_cons, sumsL_length r, List.length_cons]
theorem sumsL_bound (B : Nat) : ∀ (l : List Int) (a : Int) (c : Nat), (∀ x ∈ l, -(B : Int) ≤ x ∧ x ≤ B) → -((c * B : Nat) : Int) ≤ a → a ≤ ((c * B : Nat) : Int) → ∀ y ∈ sumsL l a, -(((c + l.length) * B : Nat) : Int) ≤ y ∧ y ≤ (((c + l.length) * B : Nat) : Int)
  | x :: r, a, c, hx, h0, h1, y, hy => by
    have hxx := hx x (by simp)
    have hc : ((c + 1) * B : Nat) = c * B + B := by rw [Nat.add_mul, Nat.one_mul]
    have hle : (c + 1) * B ≤ (c + (x :: r).length) * B := Nat.mul_le_mul_right B (by rw [List.length_cons]; omega)
    rw [sumsL] at hy
    rcases List.mem_cons.1 hy with hy | hy
    · omega
    · have h := sumsL_bound B r (a + x) (c + 1) (fun z hz => hx z (by simp [hz])) (by omega) (by omega) y hy
      have e : c + 1 + r.length = c + (x :: r).length := by rw [List.length_cons]; omega
      rw [e] at h
      exact h
def diffL : List Int → Int → List Int
  | [], _ => []
  | x :: r, a => (x - a) :: diffL r x
theorem diffL_length : ∀ (l : List Int) (a : Int), (diffL l a).length = l.length
  | [], _ => rfl
  | x :: r, a => by rw [diffL, List.length_cons, diffL_length r, List.length_cons]
theorem diffL_bound (B : Int) : ∀ (l : List Int) (a : Int), (∀ x ∈ l, -B ≤ x ∧ x ≤ B) → -B ≤ a → a ≤ B → ∀ y ∈ diffL l a, -(2 * B) ≤ y ∧ y ≤ 2 * B
  | x :: r, a, hx, h0, h1, y, hy => by
    have hxx := hx x (by simp)
    rw [diffL] at hy
    rcases List.mem_cons.1 hy with hy | hy
    · omega
    · exact diffL_bound B r x (fun z hz => hx z (by simp [hz])) hxx.1 hxx.2 y hy
def sumsN (H : Int) : Nat → List Int → List Int
  | 0, l => l
  | n + 1, l => sumsN H n ((sumsL l 0).map (wI H))
def combsN (H : Int) : Nat → List Int → List Int
  | 0, l => l
  | n + 1, l => combsN H n ((diffL l 0).map (wI H))
def okL (l : List Int) : Prop := l.length ≤ 1000 ∧ ∀ x ∈ l, -549755813888 ≤ x ∧ x ≤ 549755813888
theorem okL_map {H : Int} (hH : 1 ≤ H) (hH' : H ≤ 549755813888) (l : List Int) (h : l.length ≤ 1000) : okL (l.map (wI H)) := by
  refine ⟨by rw [List.length_map]; exact h, fun x hx => ?_⟩
  obtain ⟨y, _, rfl⟩ := List.mem_map.1 hx
  have := wI_bound hH y
  omega
theorem sumsN_ok {H : Int} (hH : 1 ≤ H) (hH' : H ≤ 549755813888) : ∀ (n : Nat) (l : List Int), okL l → okL (sumsN H n l) ∧ (sumsN H n l).length = l.length
  | 0, l, h => ⟨h, rfl⟩
  | n + 1, l, h => by
    obtain ⟨h1, h2⟩ := sumsN_ok hH hH' n ((sumsL l 0).map (wI H)) (okL_map hH hH' _ (by rw [sumsL_length]; exact h.1))
    rw [List.length_map, sumsL_length] at h2
    exact ⟨h1, h2⟩
theorem combsN_ok {H : Int} (hH : 1 ≤ H) (hH' : H ≤ 549755813888) : ∀ (n : Nat) (l : List Int), okL l → okL (combsN H n l) ∧ (combsN H n l).length = l.length
  | 0, l, h => ⟨h, rfl⟩
  | n + 1, l, h => by
    obtain ⟨h1, h2⟩ := combsN_ok hH hH' n ((diffL l 0).map (wI H)) (okL_map hH hH' _ (by rw [diffL_length]; exact h.1))
    rw [List.length_map, diffL_length] at h2
    exact ⟨h1, h2⟩

-- SigOk
theorem sig_okL {l : List Int} (h : sigB l = true) : okL l := by
  obtain ⟨h1, h2⟩ := (sigB_iff l).1 h
  exact ⟨by omega, fun x hx => by have := h2 x hx; omega⟩

-- laws_toIntS
theorem aid_fill (l : List Int) (i d : Nat) (h : i + (d + 1) = l.length) : (l.take i ++ List.replicate (d + 1) 0).set i (rd l i) = l.take (i + 1) ++ List.replicate d 0 := by
  have hi' : i < l.length := by omega
  have hlen : (l.take i).length = i := by rw [List.length_take]; omega
  rw [List.set_append_right _ _ (by omega), hlen, Nat.sub_self, aid_rd l i hi', List.take_succ_eq_append_getElem hi', List.append_assoc]
  rfl
theorem laws_toIntS.l0_ev (l : List Int) (hl : l.length ≤ 1000000000000000) : ∀ (d i : Nat), i + d = l.length → Ev (fun k => laws_toIntS.l0 k l (l.take i ++ List.replicate d 0) (i : Int)) l := by
  intro d
  induction d with
  | zero =>
    intro i h
    refine Ev.step (fun k => ?_) (Ev.now _)
    simp only [laws_toIntS.l0]
    rw [if_neg (by omega), List.take_of_length_le (by omega)]
    simp
  | succ d ih =>
    intro i h
    refine Ev.step (fun k => ?_) (ih (i + 1) (by omega))
    have hlen : (l.take i ++ List.replicate (d + 1) 0).length = l.length := by
      rw [List.length_append, List.length_take, List.length_replicate]; omega
    simp only [laws_toIntS.l0]
    rw [if_pos (by omega), if_pos (by omega), if_pos (by rw [hlen]; omega), aid_next (by omega), Int.toNat_natCast, aid_fill l i d h]
theorem laws_toIntS.ev (l : List Int) (hl : l.length * 8 ≤ 140737488351232) : Ev (fun k => laws_toIntS.f k l) l := by
  unfold laws_toIntS.f
  have h := laws_toIntS.l0_ev l (by omega) l.length 0 (by omega)
  refine Ev.congr (fun k => ?_) h
  rw [if_pos (by omega), if_pos (by omega)]
  simp

-- laws_eqIntS
theorem laws_eqIntS.l0_refl (l : List Int) (hl : l.length ≤ 1000000000000000) : ∀ (d i : Nat), i + d = l.length → Ev (fun k => laws_eqIntS.l0 k l l (i : Int)) true := by
  intro d
  induction d with
  | zero =>
    intro i h
    refine Ev.step (fun k => ?_) (Ev.now _)
    simp only [laws_eqIntS.l0]
    rw [if_neg (by omega)]
  | succ d ih =>
    intro i h
    refine Ev.step (fun k => ?_) (ih (i + 1) (by omega))
    simp only [laws_eqIntS.l0]
    rw [if_pos (by omega), if_pos (by omega), if_pos (by omega), if_pos trivial, aid_next (by omega)]
theorem laws_eqIntS.refl (l : List Int) (hl : l.length ≤ 1000000000000000) : Ev (fun k => laws_eqIntS.f k l l) true := by
  unfold laws_eqIntS.f
  exact Ev.congr (fun k => if_pos rfl) (laws_eqIntS.l0_refl l hl l.length 0 (by omega))

-- spec_l1In
theorem spec_l1In.eq (a lo hi : Int) : spec_l1In.f a lo hi = some (decide (lo ≤ a ∧ a ≤ hi)) := by
  unfold spec_l1In.f
  by_cases h : lo ≤ a <;> simp [h]

-- spec_l1All
theorem spec_l1All.l0_ev (lo hi : Int) (l : List Int) (hl : l.length ≤ 1000000000000000) : ∀ (d i : Nat), i + d = l.length → Ev (fun k => spec_l1All.l0 k lo hi l (l.length : Int) (i : Int)) ((l.drop i).all fun x => decide (lo ≤ x ∧ x ≤ hi)) := by
  intro d
  induction d with
  | zero =>
    intro i h
    rw [List.drop_eq_nil_of_le (by omega)]
    refine Ev.step (fun k => ?_) (Ev.now _)
    simp only [spec_l1All.l0]
    rw [if_neg (by omega)]
    rfl
  | succ d ih =>
    intro i h
    have hi' : i < l.length := by omega
    rw [List.drop_eq_getElem_cons hi', List.all_cons, ← aid_rd l i hi']
    by_cases hc : lo ≤ rd l i ∧ rd l i ≤ hi
    · refine Ev.step (fun k => ?_) (by simpa [hc] using ih (i + 1) (by omega))
      simp only [spec_l1All.l0]
      rw [if_pos (by omega), if_pos (by omega), if_pos (by omega), spec_l1In.eq, aid_next (by omega)]
      simp [hc]
    · refine Ev.step (f := fun _ => some false) (fun k => ?_) (by simpa [hc] using Ev.now false)
      simp only [spec_l1All.l0]
      rw [if_pos (by omega), if_pos (by omega), if_pos (by omega), spec_l1In.eq]
      simp [hc]
theorem spec_l1All.ev (lo hi : Int) (l : List Int) (hl : l.length ≤ 1000000000000000) : Ev (fun k => spec_l1All.f k l lo hi) (l.all fun x => decide (lo ≤ x ∧ x ≤ hi)) :=
  spec_l1All.l0_ev lo hi l hl l.length 0 (by omega)

-- spec_wdSignal
theorem spec_wdSignal.ev (l : List Int) : Ev (fun k => spec_wdSignal.f k l) (sigB l) := by
  unfold spec_wdSignal.f sigB
  by_cases h : l.length ≤ 64
  · have e := spec_l1All.ev (-100000) 100000 l (by omega)
    simp only [h, decide_true, Bool.true_and]
    refine Ev.congr (fun k => if_pos (by omega)) (aid_ev_bind e rfl)
  · simp only [h, decide_false, Bool.false_and]
    refine Ev.congr (fun k => if_neg (by omega)) (Ev.now _)

-- spec_cbAsked
theorem spec_cbAsked.eq (s r : Int) : spec_cbAsked.f s r = some (decide ((1 ≤ s ∧ s ≤ 4) ∧ (1 ≤ r ∧ r ≤ 8))) := by
  unfold spec_cbAsked.f
  rw [spec_l1In.eq, spec_l1In.eq]
  by_cases h : 1 ≤ s ∧ s ≤ 4 <;> simp [h]

-- spec_cbGood
theorem spec_cbGood.ev (l : List Int) (s r : Int) : Ev (fun k => spec_cbGood.f k l s r) (sigB l && decide ((1 ≤ s ∧ s ≤ 4) ∧ (1 ≤ r ∧ r ≤ 8))) := by
  unfold spec_cbGood.f
  have h := spec_wdSignal.ev l
  rw [spec_cbAsked.eq]
  cases hB : sigB l with
  | false =>
    rw [hB] at h
    exact Ev.bind h (Ev.now _)
  | true =>
    rw [hB] at h
    exact Ev.bind h (Ev.now _)

-- spec_wdIf
theorem spec_wdIf.ev (l : List Int) : Ev (fun k => spec_wdIf.f k l) (toldP l) := by
  unfold spec_wdIf.f toldP
  refine Ev.bind (spec_wdSignal.ev l) ?_
  cases sigB l <;> exact Ev.now _

-- spec_weSame
theorem spec_weSame.l0_ev (l m : List Int) (he : l.length = m.length) (hl : l.length ≤ 1000000) : ∀ (d i : Nat), i + d = l.length → Ev (fun k => spec_weSame.l0 k l m (l.length : Int) (i : Int)) (decide (l.drop i = m.drop i)) := by
  intro d
  induction d with
  | zero =>
    intro i h
    rw [List.drop_eq_nil_of_le (by omega), List.drop_eq_nil_of_le (by omega)]
    refine Ev.step (fun k => ?_) (Ev.now _)
    simp only [spec_weSame.l0]
    rw [if_neg (by omega)]
    rfl
  | succ d ih =>
    intro i h
    have hi : i < l.length := by omega
    have hm : i < m.length := by omega
    have hdl := List.drop_eq_getElem_cons hi
    have hdm := List.drop_eq_getElem_cons hm
    by_cases hc : l[i] = m[i]
    · refine Ev.step (fun k => ?_) (r := decide (l.drop i = m.drop i)) (by
        have e : decide (l.drop i = m.drop i) = decide (l.drop (i + 1) = m.drop (i + 1)) := by
          rw [Bool.eq_iff_iff, decide_eq_true_eq, decide_eq_true_eq, hdl, hdm, hc]
          exact ⟨fun h => (List.cons.inj h).2, fun h => by rw [h]⟩
        rw [e]
        exact ih (i + 1) (by omega))
      simp only [spec_weSame.l0]
      rw [if_pos (by omega), if_pos (by omega), if_pos (by omega), if_pos (by omega), aid_rd l i hi, aid_rd m i hm, if_pos hc, aid_next (by omega)]
    · refine Ev.step (f := fun _ => some false) (fun k => ?_) (r := decide (l.drop i = m.drop i)) (by
        have e : decide (l.drop i = m.drop i) = false := by
          rw [decide_eq_false_iff_not, hdl, hdm]
          exact fun h => hc (List.cons.inj h).1
        rw [e]
        exact Ev.now _)
      simp only [spec_weSame.l0]
      rw [if_pos (by omega), if_pos (by omega), if_pos (by omega), if_pos (by omega), aid_rd l i hi, aid_rd m i hm, if_neg hc]
theorem spec_weSame.ev (l m : List Int) (hl : l.length ≤ 1000000) : Ev (fun k => spec_weSame.f k l m) (decide (l = m)) := by
  unfold spec_weSame.f
  by_cases h : l.length = m.length
  · refine Ev.congr (fun k => if_pos (by omega)) ?_
    exact spec_weSame.l0_ev l m h hl l.length 0 (by omega)
  · have e : decide (l = m) = false := decide_eq_false (fun e => h (by rw [e]))
    rw [e]
    exact Ev.congr (fun k => if_neg (by omega)) (Ev.now _)

-- spec_cbWrap
theorem spec_cbWrap.eq (t : Nat) (h1 : 1 ≤ t) (h2 : t ≤ 39) (x : Int) (hx0 : -4611686018427387904 ≤ x) (hx1 : x ≤ 4611686018427387904) : spec_cbWrap.f x ((t + 1 : Nat) : Int) = some (wI (2 ^ t) x) := by
  unfold spec_cbWrap.f
  rw [if_pos (by omega), wrap_shl (t + 1) (by omega)]
  have hp : (2 : Int) ^ (t + 1) = 2 * 2 ^ t := by rw [Int.pow_succ, Int.mul_comm]
  obtain ⟨hH, hH'⟩ := wrap_pow t h2
  rw [hp]
  generalize (2 : Int) ^ t = H at hH hH' ⊢
  obtain ⟨b0, b1⟩ := wrap_tmod_bound x (2 * H) (by omega)
  have hz : Int.tmod (wrap64 (Int.tmod x (2 * H) + 2 * H)) (2 * H) = x % (2 * H) := by
    rw [aid_wr (by omega) (by omega), aid_tmod (by omega), wrap_tmod]
  have hd : wrap64 (Int.tdiv (2 * H) 2) = H := by
    rw [aid_tdiv (by omega), aid_wr (by omega) (by omega)]
    exact Int.mul_ediv_cancel_left H (by omega)
  rw [if_neg (by omega), hz, hd]
  clear hz hd b0 b1
  have e := Int.mul_ediv_add_emod x (2 * H)
  have r0 := Int.emod_nonneg x (show 2 * H ≠ 0 by omega)
  have r1 := Int.emod_lt_of_pos x (show 0 < 2 * H by omega)
  unfold wI
  by_cases hc : x % (2 * H) ≥ H
  · rw [if_pos hc, aid_wr (by omega) (by omega), aid_emod (x := x + H) (y := x / (2 * H) + 1) (by omega) (by rw [Int.mul_add, Int.mul_one]; omega) (by rw [Int.mul_add, Int.mul_one]; omega), Int.mul_add, Int.mul_one]
    congr 1
    omega
  · rw [if_neg hc, aid_emod (x := x + H) (y := x / (2 * H)) (by omega) (by omega) (by omega)]
    congr 1
    omega

-- spec_cbWrapAll
theorem spec_cbWrapAll.l0_ev (t : Nat) (h1 : 1 ≤ t) (h2 : t ≤ 39) (l : List Int) (hl : l.length ≤ 1000) (hx : ∀ x ∈ l, -4611686018427387904 ≤ x ∧ x ≤ 4611686018427387904) : ∀ (d i : Nat) (o : List Int), i + d = l.length → o.length = i →
    Ev (fun k => spec_cbWrapAll.l0 k ((t + 1 : Nat) : Int) o l (l.length : Int) (i : Int)) (o ++ (l.drop i).map (wI (2 ^ t))) := by
  intro d
  induction d with
  | zero =>
    intro i o hi ho
    rw [List.drop_eq_nil_of_le (by omega), List.map_nil, List.append_nil]
    refine aid_ev_succ ?_
    simp only [spec_cbWrapAll.l0]
    exact Ev.congr (fun k => if_neg (by omega)) (Ev.now _)
  | succ d ih =>
    intro i o hi ho
    have hi' : i < l.length := by omega
    have hxi := hx l[i] (List.getElem_mem hi')
    have h := ih (i + 1) (o ++ [wI (2 ^ t) l[i]]) (by omega) (by simp [ho])
    rw [List.append_assoc] at h
    rw [List.drop_eq_getElem_cons hi', List.map_cons]
    refine Ev.step (fun k => ?_) h
    simp only [spec_cbWrapAll.l0]
    rw [if_pos (by omega), if_pos (by omega), if_pos (by omega), aid_rd l i hi', spec_cbWrap.eq t h1 h2 _ hxi.1 hxi.2]
    simp only [Option.bind_some]
    rw [if_pos (by omega), aid_next (by omega)]
theorem spec_cbWrapAll.ev (t : Nat) (h1 : 1 ≤ t) (h2 : t ≤ 39) (l : List Int) (hl : l.length ≤ 1000) (hx : ∀ x ∈ l, -4611686018427387904 ≤ x ∧ x ≤ 4611686018427387904) : Ev (fun k => spec_cbWrapAll.f k l ((t + 1 : Nat) : Int)) (l.map (wI (2 ^ t))) :=
  spec_cbWrapAll.l0_ev t h1 h2 l hl hx l.length 0 [] (by omega) rfl

-- spec_wdDiff
theorem spec_wdDiff.l0_ev (l : List Int) (hl : l.length ≤ 1000) (hx : ∀ x ∈ l, -549755813888 ≤ x ∧ x ≤ 549755813888) : ∀ (d i : Nat) (o : List Int) (a : Int), i + d = l.length → o.length = i → -549755813888 ≤ a → a ≤ 549755813888 →
    Ev (fun k => spec_wdDiff.l0 k o a l (l.length : Int) (i : Int)) (o ++ diffL (l.drop i) a) := by
  intro d
  induction d with
  | zero =>
    intro i o a hi ho h0 h1
    rw [List.drop_eq_nil_of_le (by omega), diffL, List.append_nil]
    refine aid_ev_succ ?_
    simp only [spec_wdDiff.l0]
    exact Ev.congr (fun k => if_neg (by omega)) (Ev.now _)
  | succ d ih =>
    intro i o a hi ho h0 h1
    have hi' : i < l.length := by omega
    have hxi := hx l[i] (List.getElem_mem hi')
    have h := ih (i + 1) (o ++ [l[i] - a]) l[i] (by omega) (by simp [ho]) hxi.1 hxi.2
    rw [List.append_assoc] at h
    rw [List.drop_eq_getElem_cons hi', diffL]
    refine Ev.step (fun k => ?_) h
    simp only [spec_wdDiff.l0]
    rw [if_pos (by omega), if_pos (by omega), if_pos (by omega), if_pos (by omega), aid_rd l i hi', aid_wr (x := l[i] - a) (by omega) (by omega), aid_next (by omega)]
theorem spec_wdDiff.ev (l : List Int) (h : okL l) : Ev (fun k => spec_wdDiff.f k l) (diffL l 0) :=
  spec_wdDiff.l0_ev l h.1 h.2 l.length 0 [] 0 (by omega) rfl (by omega) (by omega)

-- spec_cbCombs
theorem spec_cbCombs.l0_ev (t : Nat) (h1 : 1 ≤ t) (h2 : t ≤ 39) (n : Nat) (hn : n ≤ 100) : ∀ (d i : Nat) (l : List Int), i + d = n → okL l →
    Ev (fun k => spec_cbCombs.l0 k l ((t + 1 : Nat) : Int) (n : Int) (i : Int)) (combsN (2 ^ t) d l) := by
  obtain ⟨hH, hH'⟩ := wrap_pow t h2
  intro d
  induction d with
  | zero =>
    intro i l hi hl
    refine aid_ev_succ ?_
    simp only [spec_cbCombs.l0]
    exact Ev.congr (fun k => if_neg (by omega)) (Ev.now _)
  | succ d ih =>
    intro i l hi hl
    have hs := spec_wdDiff.ev l hl
    have hb := diffL_bound 549755813888 l 0 hl.2 (by omega) (by omega)
    have hw := spec_cbWrapAll.ev t h1 h2 (diffL l 0) (by rw [diffL_length]; exact hl.1) (fun y hy => by have := hb y hy; omega)
    refine aid_ev_succ ?_
    simp only [spec_cbCombs.l0]
    refine Ev.congr (fun k => if_pos (by omega)) ?_
    refine Ev.bind hs ?_
    refine Ev.bind hw ?_
    rw [aid_next (by omega)]
    exact ih (i + 1) _ (by omega) (okL_map hH hH' _ (by rw [diffL_length]; exact hl.1))
theorem spec_cbCombs.ev (t : Nat) (h1 : 1 ≤ t) (h2 : t ≤ 39) (n : Nat) (hn : n ≤ 100) (l : List Int) (hl : okL l) : Ev (fun k => spec_cbCombs.f k l ((t + 1 : Nat) : Int) (n : Int)) (combsN (2 ^ t) n l) :=
  spec_cbCombs.l0_ev t h1 h2 n hn n 0 l (by omega) hl

-- spec_wdSums
theorem spec_wdSums.l0_ev (l : List Int) (hl : l.length ≤ 1000) (hx : ∀ x ∈ l, -549755813888 ≤ x ∧ x ≤ 549755813888) : ∀ (d i : Nat) (o : List Int) (a : Int), i + d = l.length → o.length = i → -(549755813888 * (i : Int)) ≤ a → a ≤ 549755813888 * (i : Int) →
    Ev (fun k => spec_wdSums.l0 k o a l (l.length : Int) (i : Int)) (o ++ sumsL (l.drop i) a) := by
  intro d
  induction d with
  | zero =>
    intro i o a hi ho h0 h1
    rw [List.drop_eq_nil_of_le (by omega), sumsL, List.append_nil]
    refine aid_ev_succ ?_
    simp only [spec_wdSums.l0]
    exact Ev.congr (fun k => if_neg (by omega)) (Ev.now _)
  | succ d ih =>
    intro i o a hi ho h0 h1
    have hi' : i < l.length := by omega
    have hxi := hx l[i] (List.getElem_mem hi')
    have h := ih (i + 1) (o ++ [a + l[i]]) (a + l[i]) (by omega) (by simp [ho]) (by omega) (by omega)
    rw [List.append_assoc] at h
    rw [List.drop_eq_getElem_cons hi', sumsL]
    refine Ev.step (fun k => ?_) h
    simp only [spec_wdSums.l0]
    rw [if_pos (by omega), if_pos (by omega), if_pos (by omega), if_pos (by omega), aid_rd l i hi', aid_wr (x := a + l[i]) (by omega) (by omega), aid_next (by omega)]
theorem spec_wdSums.ev (l : List Int) (h : okL l) : Ev (fun k => spec_wdSums.f k l) (sumsL l 0) :=
  spec_wdSums.l0_ev l h.1 h.2 l.length 0 [] 0 (by omega) rfl (by omega) (by omega)

-- spec_cbSums
theorem spec_cbSums.l0_ev (t : Nat) (h1 : 1 ≤ t) (h2 : t ≤ 39) (n : Nat) (hn : n ≤ 100) : ∀ (d i : Nat) (l : List Int), i + d = n → okL l →
    Ev (fun k => spec_cbSums.l0 k l ((t + 1 : Nat) : Int) (n : Int) (i : Int)) (sumsN (2 ^ t) d l) := by
  obtain ⟨hH, hH'⟩ := wrap_pow t h2
  intro d
  induction d with
  | zero =>
    intro i l hi hl
    refine aid_ev_succ ?_
    simp only [spec_cbSums.l0]
    exact Ev.congr (fun k => if_neg (by omega)) (Ev.now _)
  | succ d ih =>
    intro i l hi hl
    have hs := spec_wdSums.ev l hl
    have hb := sumsL_bound 549755813888 l 0 0 hl.2 (by omega) (by omega)
    have hl1 := hl.1
    have hw := spec_cbWrapAll.ev t h1 h2 (sumsL l 0) (by rw [sumsL_length]; exact hl.1) (fun y hy => by have := hb y hy; omega)
    refine aid_ev_succ ?_
    simp only [spec_cbSums.l0]
    refine Ev.congr (fun k => if_pos (by omega)) ?_
    refine Ev.bind hs ?_
    refine Ev.bind hw ?_
    rw [aid_next (by omega)]
    exact ih (i + 1) _ (by omega) (okL_map hH hH' _ (by rw [sumsL_length]; exact hl.1))
theorem spec_cbSums.ev (t : Nat) (h1 : 1 ≤ t) (h2 : t ≤ 39) (n : Nat) (hn : n ≤ 100) (l : List Int) (hl : okL l) : Ev (fun k => spec_cbSums.f k l ((t + 1 : Nat) : Int) (n : Int)) (sumsN (2 ^ t) n l) :=
  spec_cbSums.l0_ev t h1 h2 n hn n 0 l (by omega) hl

-- impl_in
theorem impl_in.eq (a lo hi : Int) : impl_in.f a lo hi = some (decide (lo ≤ a ∧ a ≤ hi)) := by
  unfold impl_in.f
  by_cases h : lo ≤ a <;> simp [h]

-- impl_isSignal
theorem impl_isSignal.eq (l : List Int) : impl_isSignal.f l = some (sigB l) := by
  unfold impl_isSignal.f sigB
  have e1 : decide ((l.length : Int) ≤ 64) = decide (l.length ≤ 64) := by
    rw [Bool.eq_iff_iff]; simp; omega
  have e2 : (!(l.any fun x => !(decide (-100000 ≤ x) && decide (x ≤ 100000)))) = l.all fun x => decide (-100000 ≤ x ∧ x ≤ 100000) := by
    rw [List.not_any_eq_all_not]
    congr 1
    funext x
    rw [Bool.eq_iff_iff]
    simp
  rw [e1, e2]

-- impl_isComb
theorem impl_isComb.eq (s r : Int) : impl_isComb.f s r = some (decide ((1 ≤ s ∧ s ≤ 4) ∧ (1 ≤ r ∧ r ≤ 8))) := by
  unfold impl_isComb.f
  rw [impl_in.eq, impl_in.eq]
  by_cases h : 1 ≤ s ∧ s ≤ 4 <;> simp [h]

-- impl_told
theorem impl_told.eq (l : List Int) : impl_told.f l = some (toldP l) := by
  unfold impl_told.f toldP
  rw [impl_isSignal.eq]
  cases sigB l <;> rfl

-- impl_drop
theorem drop_l0 (l : List Int) (rate : Int) (hl : l.length ≤ 1000000) (h1 : 1 ≤ rate) (h2 : rate ≤ 8) : ∀ (d : Nat) (i : Int) (o : List Int), (l.length : Int) - i ≤ d → 0 ≤ i → i ≤ 2000000 → (o.length : Int) ≤ i → (∀ x ∈ o, x ∈ l) → o.length ≤ l.length →
    ∃ w, Ev (fun k => impl_drop.l0 k l rate o i) w ∧ (∀ x ∈ w, x ∈ l) ∧ w.length ≤ l.length ∧ (w.length : Int) = o.length + (max 0 ((l.length : Int) - i) + rate - 1) / rate := by
  have hrate : rate = 1 ∨ rate = 2 ∨ rate = 3 ∨ rate = 4 ∨ rate = 5 ∨ rate = 6 ∨ rate = 7 ∨ rate = 8 := by omega
  intro d
  induction d with
  | zero =>
    intro i o hd h0 hm hlen ho hol
    refine ⟨o, Ev.step (f := fun _ => some o) (fun k => ?_) (Ev.now _), ho, hol, ?_⟩
    · simp only [impl_drop.l0]
      rw [if_neg (by omega)]
    · rw [show max 0 ((l.length : Int) - i) = 0 by omega, Int.ediv_eq_zero_of_lt (by omega) (by omega)]
      omega
  | succ d ih =>
    intro i o hd h0 hm hlen ho hol
    by_cases hi : i < (l.length : Int)
    · obtain ⟨n, rfl⟩ := Int.eq_ofNat_of_zero_le h0
      have hn : n < l.length := by omega
      have hmem : ∀ x ∈ o ++ [rd l (n : Int)], x ∈ l := by
        intro x hx
        rcases List.mem_append.1 hx with hx | hx
        · exact ho x hx
        · rw [List.mem_singleton.1 hx, aid_rd l n hn]
          exact List.getElem_mem hn
      obtain ⟨w, hw1, hw2, hw3, hw4⟩ := ih ((n : Int) + rate) (o ++ [rd l (n : Int)]) (by omega) (by omega) (by omega) (by rw [List.length_append, List.length_singleton]; omega) hmem (by rw [List.length_append, List.length_singleton]; omega)
      refine ⟨w, Ev.step (fun k => ?_) hw1, hw2, hw3, ?_⟩
      · simp only [impl_drop.l0]
        rw [if_pos hi, if_pos (by omega), if_pos (by omega), aid_wr (by omega) (by omega)]
      · rw [hw4, List.length_append, List.length_singleton]
        clear hw1 hw2 ih hmem ho hw4
        rcases hrate with h | h | h | h | h | h | h | h <;> subst h <;> omega
    · refine ⟨o, Ev.step (f := fun _ => some o) (fun k => ?_) (Ev.now _), ho, hol, ?_⟩
      · simp only [impl_drop.l0]
        rw [if_neg (by omega)]
      · rw [show max 0 ((l.length : Int) - i) = 0 by omega, Int.ediv_eq_zero_of_lt (by omega) (by omega)]
        omega
theorem drop_impl (l : List Int) (rate first : Int) (hl : l.length ≤ 1000000) (h1 : 1 ≤ rate) (h2 : rate ≤ 8) (h3 : 0 ≤ first) (h4 : first ≤ 8) :
    ∃ w, Ev (fun k => impl_drop.f k l rate first) w ∧ (∀ x ∈ w, x ∈ l) ∧ w.length ≤ l.length ∧ (w.length : Int) = (max 0 ((l.length : Int) - first) + rate - 1) / rate := by
  obtain ⟨w, hw1, hw2, hw3, hw4⟩ := drop_l0 l rate hl h1 h2 l.length first [] (by omega) h3 (by omega) (by simpa using h3) (by simp) (by simp)
  exact ⟨w, hw1, hw2, hw3, by simpa using hw4⟩

-- slices_Equal_int_int
theorem slices_Equal_int_int.l0_ev (l m : List Int) (he : l.length = m.length) (hl : l.length ≤ 1000000) : ∀ (d i : Nat), i + d = l.length → Ev (fun k => slices_Equal_int_int.l0 k l m (l.length : Int) (i : Int)) (decide (l.drop i = m.drop i)) := by
  intro d
  induction d with
  | zero =>
    intro i h
    rw [List.drop_eq_nil_of_le (by omega), List.drop_eq_nil_of_le (by omega)]
    refine Ev.step (fun k => ?_) (Ev.now _)
    simp only [slices_Equal_int_int.l0]
    rw [if_neg (by omega)]
    rfl
  | succ d ih =>
    intro i h
    have hi : i < l.length := by omega
    have hm : i < m.length := by omega
    have hdl := List.drop_eq_getElem_cons hi
    have hdm := List.drop_eq_getElem_cons hm
    by_cases hc : l[i] = m[i]
    · refine Ev.step (fun k => ?_) (r := decide (l.drop i = m.drop i)) (by
        have e : decide (l.drop i = m.drop i) = decide (l.drop (i + 1) = m.drop (i + 1)) := by
          rw [Bool.eq_iff_iff, decide_eq_true_eq, decide_eq_true_eq, hdl, hdm, hc]
          exact ⟨fun h => (List.cons.inj h).2, fun h => by rw [h]⟩
        rw [e]
        exact ih (i + 1) (by omega))
      simp only [slices_Equal_int_int.l0]
      rw [if_pos (by omega), if_pos (by omega), if_pos (by omega), if_pos (by omega), aid_rd l i hi, aid_rd m i hm, if_pos hc, aid_next (by omega)]
    · refine Ev.step (f := fun _ => some false) (fun k => ?_) (r := decide (l.drop i = m.drop i)) (by
        have e : decide (l.drop i = m.drop i) = false := by
          rw [decide_eq_false_iff_not, hdl, hdm]
          exact fun h => hc (List.cons.inj h).1
        rw [e]
        exact Ev.now _)
      simp only [slices_Equal_int_int.l0]
      rw [if_pos (by omega), if_pos (by omega), if_pos (by omega), if_pos (by omega), aid_rd l i hi, aid_rd m i hm, if_neg hc]
theorem slices_Equal_int_int.ev (l m : List Int) (hl : l.length ≤ 1000000) : Ev (fun k => slices_Equal_int_int.f k l m) (decide (l = m)) := by
  unfold slices_Equal_int_int.f
  by_cases h : l.length = m.length
  · refine Ev.congr (fun k => if_pos (by omega)) ?_
    exact slices_Equal_int_int.l0_ev l m h hl l.length 0 (by omega)
  · have e : decide (l = m) = false := decide_eq_false (fun e => h (by rw [e]))
    rw [e]
    exact Ev.congr (fun k => if_neg (by omega)) (Ev.now _)

-- At
def atL (l : List Int) (i : Int) : Int := if 0 ≤ i ∧ i < (l.length : Int) then rd l i else 0
theorem atL_rd (l : List Int) (i : Nat) (h : i < l.length) : atL l (i : Int) = l[i] := by
  unfold atL
  rw [if_pos (by omega), aid_rd l i h]
theorem atL_bound {l : List Int} {B : Int} (hB : 0 ≤ B) (hx : ∀ x ∈ l, -B ≤ x ∧ x ≤ B) (i : Int) : -B ≤ atL l i ∧ atL l i ≤ B := by
  by_cases h : 0 ≤ i ∧ i < (l.length : Int)
  · obtain ⟨n, rfl⟩ := Int.eq_ofNat_of_zero_le h.1
    rw [atL_rd l n (by omega)]
    exact hx _ (List.getElem_mem _)
  · unfold atL
    rw [if_neg h]
    omega
theorem atL_last (o : List Int) (e : Int) : atL (o ++ [e]) (o.length : Int) = e := by
  rw [atL_rd _ _ (by simp)]
  simp
theorem atL_app (o : List Int) (e i : Int) (h : i < (o.length : Int)) : atL (o ++ [e]) i = atL o i := by
  by_cases h0 : 0 ≤ i
  · obtain ⟨n, rfl⟩ := Int.eq_ofNat_of_zero_le h0
    have hn : n < o.length := by omega
    rw [atL_rd o n hn, atL_rd _ n (by simp; omega), List.getElem_append_left hn]
  · unfold atL
    rw [if_neg (by omega), if_neg (by omega)]

-- impl_at
theorem impl_at.eq (l : List Int) (hl : l.length ≤ 1000000) (i : Int) : impl_at.f l i = some (atL l i) := by
  unfold impl_at.f atL
  rw [aid_wr (x := (l.length : Int) - 1) (by omega) (by omega), impl_in.eq]
  by_cases h : 0 ≤ i ∧ i < (l.length : Int)
  · rw [decide_eq_true (by omega), if_pos h]
    simp only [Option.bind_some, if_true]
    rw [if_pos h.1, if_pos h.2]
  · rw [decide_eq_false (by omega), if_neg h]
    rfl

-- impl_differences
theorem impl_differences.l0_ev (l : List Int) (hl : l.length ≤ 1000) (hx : ∀ x ∈ l, -549755813888 ≤ x ∧ x ≤ 549755813888) : ∀ (d i : Nat) (o : List Int), i + d = l.length → o.length = i →
    Ev (fun k => impl_differences.l0 k l o l (l.length : Int) (i : Int)) (o ++ diffL (l.drop i) (atL l ((i : Int) - 1))) := by
  intro d
  induction d with
  | zero =>
    intro i o hi ho
    rw [List.drop_eq_nil_of_le (by omega), diffL, List.append_nil]
    refine aid_ev_succ ?_
    simp only [impl_differences.l0]
    exact Ev.congr (fun k => if_neg (by omega)) (Ev.now _)
  | succ d ih =>
    intro i o hi ho
    have hi' : i < l.length := by omega
    have hxi := hx l[i] (List.getElem_mem hi')
    have ha : atL l (((i + 1 : Nat) : Int) - 1) = l[i] := by
      rw [show ((i + 1 : Nat) : Int) - 1 = (i : Int) by omega, atL_rd l i hi']
    have hb := atL_bound (by omega) hx ((i : Int) - 1)
    have h := ih (i + 1) (o ++ [l[i] - atL l ((i : Int) - 1)]) (by omega) (by simp [ho])
    rw [ha, List.append_assoc] at h
    rw [List.drop_eq_getElem_cons hi', diffL]
    refine Ev.step (fun k => ?_) h
    simp only [impl_differences.l0]
    rw [if_pos (by omega), if_pos (by omega), if_pos (by omega), aid_wr (x := (i : Int) - 1) (by omega) (by omega), impl_at.eq l (by omega)]
    simp only [Option.bind_some]
    rw [if_pos (by omega), aid_rd l i hi', aid_wr (x := l[i] - atL l ((i : Int) - 1)) (by omega) (by omega), aid_next (by omega)]
theorem impl_differences.ev (l : List Int) (h : okL l) : Ev (fun k => impl_differences.f k l) (diffL l 0) :=
  impl_differences.l0_ev l h.1 h.2 l.length 0 [] (by omega) rfl

-- impl_mod
theorem impl_mod.eq (a M : Int) (hM : 0 < M) (hM' : M ≤ 4611686018427387904) : impl_mod.f a M = some (a % M) := by
  obtain ⟨b0, b1⟩ := wrap_tmod_bound a M hM
  unfold impl_mod.f
  rw [if_neg (by omega), aid_wr (x := Int.tmod a M + M) (by omega) (by omega), aid_tmod (by omega), wrap_tmod]

-- impl_wrap
theorem impl_wrap.eq (t : Nat) (h1 : 1 ≤ t) (h2 : t ≤ 39) (x : Int) (hx0 : -4611686018427387904 ≤ x) (hx1 : x ≤ 4611686018427387904) : impl_wrap.f x ((t + 1 : Nat) : Int) = some (wI (2 ^ t) x) := by
  unfold impl_wrap.f impl_mod.f
  have et : wrap64 (((t + 1 : Nat) : Int) - 1) = (t : Int) := by
    rw [aid_wr (by omega) (by omega)]
    omega
  rw [et, wrap_shl t (by omega)]
  clear et
  obtain ⟨hH, hH'⟩ := wrap_pow t h2
  generalize (2 : Int) ^ t = H at hH hH' ⊢
  rw [if_pos (by omega), aid_wr (x := x + H) (by omega) (by omega), aid_wr (x := 2 * H) (by omega) (by omega), if_neg (by omega)]
  obtain ⟨b0, b1⟩ := wrap_tmod_bound (x + H) (2 * H) (by omega)
  rw [aid_wr (x := Int.tmod (x + H) (2 * H) + 2 * H) (by omega) (by omega), aid_tmod (by omega), wrap_tmod]
  have r0 := Int.emod_nonneg (x + H) (show 2 * H ≠ 0 by omega)
  have r1 := Int.emod_lt_of_pos (x + H) (show 0 < 2 * H by omega)
  simp only [Option.bind_some]
  rw [aid_wr (by omega) (by omega)]
  rfl

-- impl_wrappedCombs
theorem impl_wrappedCombs.l1_ev (t : Nat) (h1 : 1 ≤ t) (h2 : t ≤ 39) (n : Int) (s : Int) (r : List Int) : ∀ (rest done : List Int), done.length + rest.length ≤ 1000 → (∀ x ∈ rest, -1099511627776 ≤ x ∧ x ≤ 1099511627776) →
    Ev (fun k => impl_wrappedCombs.l0 k ((t + 1 : Nat) : Int) (done ++ rest.map (wI (2 ^ t))) n (wrap64 (s + 1))) r →
    Ev (fun k => impl_wrappedCombs.l1 k ((t + 1 : Nat) : Int) (done ++ rest) n s (((done ++ rest).length : Nat) : Int) (done.length : Int)) r := by
  intro rest
  induction rest with
  | nil =>
    intro done hl hx hr
    refine aid_ev_succ ?_
    simp only [impl_wrappedCombs.l1]
    refine Ev.congr (fun k => if_neg (by simp)) ?_
    exact hr
  | cons x rest ih =>
    intro done hl hx hr
    have hxi := hx x (by simp)
    rw [List.map_cons] at hr
    have hli : done.length < (done ++ x :: rest).length := by rw [List.length_append, List.length_cons]; omega
    have hg : (done ++ x :: rest)[done.length]'hli = x := by simp
    have hset : (done ++ x :: rest).set done.length (wI (2 ^ t) x) = (done ++ [wI (2 ^ t) x]) ++ rest := by
      rw [List.set_append_right _ _ (Nat.le_refl _), Nat.sub_self, List.set_cons_zero, List.append_assoc]
      rfl
    have h := ih (done ++ [wI (2 ^ t) x]) (by rw [List.length_append, List.length_singleton]; rw [List.length_cons] at hl; omega) (fun z hz => hx z (by simp [hz])) (by rw [List.append_assoc]; exact hr)
    rw [List.length_cons] at hl
    have hlen : (done ++ [wI (2 ^ t) x] ++ rest).length = (done ++ x :: rest).length := by simp
    have hlen2 : (done ++ [wI (2 ^ t) x]).length = done.length + 1 := by simp
    rw [hlen, hlen2] at h
    refine aid_ev_succ ?_
    simp only [impl_wrappedCombs.l1]
    refine Ev.congr (fun k => if_pos (by omega)) ?_
    refine Ev.congr (fun k => if_pos (by omega)) ?_
    refine Ev.congr (fun k => if_pos (by omega)) ?_
    rw [aid_rd _ _ hli, hg, impl_wrap.eq t h1 h2 _ (by omega) (by omega)]
    simp only [Option.bind_some]
    rw [Int.toNat_natCast, hset, aid_next (by omega)]
    exact h
theorem impl_wrappedCombs.l0_ev (t : Nat) (h1 : 1 ≤ t) (h2 : t ≤ 39) (n : Nat) (hn : n ≤ 100) : ∀ (d i : Nat) (l : List Int), i + d = n → okL l →
    Ev (fun k => impl_wrappedCombs.l0 k ((t + 1 : Nat) : Int) l (n : Int) (i : Int)) (combsN (2 ^ t) d l) := by
  obtain ⟨hH, hH'⟩ := wrap_pow t h2
  intro d
  induction d with
  | zero =>
    intro i l hi hl
    refine aid_ev_succ ?_
    simp only [impl_wrappedCombs.l0]
    exact Ev.congr (fun k => if_neg (by omega)) (Ev.now _)
  | succ d ih =>
    intro i l hi hl
    have hb := diffL_bound 549755813888 l 0 hl.2 (by omega) (by omega)
    refine aid_ev_succ ?_
    simp only [impl_wrappedCombs.l0]
    refine Ev.congr (fun k => if_pos (by omega)) ?_
    refine Ev.bind (impl_differences.ev l hl) ?_
    refine impl_wrappedCombs.l1_ev t h1 h2 (n : Int) (i : Int) _ (diffL l 0) [] (by have := hl.1; rw [diffL_length]; simp; omega) (fun x hx => by have := hb x hx; omega) ?_
    rw [List.nil_append, aid_next (by omega)]
    exact ih (i + 1) _ (by omega) (okL_map hH hH' _ (by rw [diffL_length]; exact hl.1))
theorem impl_wrappedCombs.ev (t : Nat) (h1 : 1 ≤ t) (h2 : t ≤ 39) (n : Nat) (hn : n ≤ 100) (l : List Int) (hl : okL l) : Ev (fun k => impl_wrappedCombs.f k l ((t + 1 : Nat) : Int) (n : Int)) (combsN (2 ^ t) n l) := by
  unfold impl_wrappedCombs.f slices_Clone_int_int.f
  rw [if_pos (by have := hl.1; omega)]
  exact impl_wrappedCombs.l0_ev t h1 h2 n hn n 0 l (by omega) hl

-- impl_wrappedSums
theorem impl_wrappedSums.l1_ev (t : Nat) (h1 : 1 ≤ t) (h2 : t ≤ 39) (n : Int) (s : Int) (r : List Int) : ∀ (rest done : List Int) (a : Int), done.length + rest.length ≤ 1000 → (∀ x ∈ rest, -549755813888 ≤ x ∧ x ≤ 549755813888) → -549755813888 ≤ a → a ≤ 549755813888 →
    Ev (fun k => impl_wrappedSums.l0 k ((t + 1 : Nat) : Int) (done ++ wsumL (2 ^ t) rest a) n (wrap64 (s + 1))) r →
    Ev (fun k => impl_wrappedSums.l1 k ((t + 1 : Nat) : Int) (done ++ rest) a n s (((done ++ rest).length : Nat) : Int) (done.length : Int)) r := by
  obtain ⟨hH, hH'⟩ := wrap_pow t h2
  intro rest
  induction rest with
  | nil =>
    intro done a hl hx h0 h3 hr
    refine aid_ev_succ ?_
    simp only [impl_wrappedSums.l1]
    refine Ev.congr (fun k => if_neg (by simp)) ?_
    exact hr
  | cons x rest ih =>
    intro done a hl hx h0 h3 hr
    have hxi := hx x (by simp)
    have hwb := wI_bound hH (a + x)
    rw [wsumL] at hr
    have hli : done.length < (done ++ x :: rest).length := by rw [List.length_append, List.length_cons]; omega
    have hg : (done ++ x :: rest)[done.length]'hli = x := by simp
    have hset : (done ++ x :: rest).set done.length (wI (2 ^ t) (a + x)) = (done ++ [wI (2 ^ t) (a + x)]) ++ rest := by
      rw [List.set_append_right _ _ (Nat.le_refl _), Nat.sub_self, List.set_cons_zero, List.append_assoc]
      rfl
    have h := ih (done ++ [wI (2 ^ t) (a + x)]) (wI (2 ^ t) (a + x)) (by rw [List.length_append, List.length_singleton]; rw [List.length_cons] at hl; omega) (fun z hz => hx z (by simp [hz])) (by omega) (by omega) (by rw [List.append_assoc]; exact hr)
    rw [List.length_cons] at hl
    have hlen : (done ++ [wI (2 ^ t) (a + x)] ++ rest).length = (done ++ x :: rest).length := by simp
    have hlen2 : (done ++ [wI (2 ^ t) (a + x)]).length = done.length + 1 := by simp
    rw [hlen, hlen2] at h
    refine aid_ev_succ ?_
    simp only [impl_wrappedSums.l1]
    refine Ev.congr (fun k => if_pos (by omega)) ?_
    refine Ev.congr (fun k => if_pos (by omega)) ?_
    refine Ev.congr (fun k => if_pos (by omega)) ?_
    rw [aid_rd _ _ hli, hg, aid_wr (x := a + x) (by omega) (by omega), impl_wrap.eq t h1 h2 _ (by omega) (by omega)]
    simp only [Option.bind_some]
    rw [Int.toNat_natCast, hset, aid_next (by omega)]
    exact h
theorem impl_wrappedSums.l0_ev (t : Nat) (h1 : 1 ≤ t) (h2 : t ≤ 39) (n : Nat) (hn : n ≤ 100) : ∀ (d i : Nat) (l : List Int), i + d = n → okL l →
    Ev (fun k => impl_wrappedSums.l0 k ((t + 1 : Nat) : Int) l (n : Int) (i : Int)) (sumsN (2 ^ t) d l) := by
  obtain ⟨hH, hH'⟩ := wrap_pow t h2
  intro d
  induction d with
  | zero =>
    intro i l hi hl
    refine aid_ev_succ ?_
    simp only [impl_wrappedSums.l0]
    exact Ev.congr (fun k => if_neg (by omega)) (Ev.now _)
  | succ d ih =>
    intro i l hi hl
    refine aid_ev_succ ?_
    simp only [impl_wrappedSums.l0]
    refine Ev.congr (fun k => if_pos (by omega)) ?_
    refine impl_wrappedSums.l1_ev t h1 h2 (n : Int) (i : Int) _ l [] 0 (by have := hl.1; simp; omega) hl.2 (by omega) (by omega) ?_
    rw [List.nil_append, aid_next (by omega)]
    have e := wsumL_eq (2 ^ t) l 0
    rw [wI_zero hH] at e
    rw [e]
    exact ih (i + 1) _ (by omega) (okL_map hH hH' _ (by rw [sumsL_length]; exact hl.1))
theorem impl_wrappedSums.ev (t : Nat) (h1 : 1 ≤ t) (h2 : t ≤ 39) (n : Nat) (hn : n ≤ 100) (l : List Int) (hl : okL l) : Ev (fun k => impl_wrappedSums.f k l ((t + 1 : Nat) : Int) (n : Int)) (sumsN (2 ^ t) n l) := by
  unfold impl_wrappedSums.f slices_Clone_int_int.f
  rw [if_pos (by have := hl.1; omega)]
  exact impl_wrappedSums.l0_ev t h1 h2 n hn n 0 l (by omega) hl

-- AnswerBoth
theorem answer_same : ∀ k : Nat, (∀ a b c d e, impl_answer.l0 k a b c d e = spec_weAnswer.l0 k a b c d e) ∧ (∀ a b i v c d e f g h, impl_answer.l1 k a b i v c d e f g h = spec_weAnswer.l1 k a b i v c d e f g h) := by
  intro k
  induction k with
  | zero => exact ⟨fun _ _ _ _ _ => rfl, fun _ _ _ _ _ _ _ _ _ _ => rfl⟩
  | succ k ih =>
    refine ⟨?_, ?_⟩
    · intros
      simp only [impl_answer.l0, spec_weAnswer.l0, ih.2]
    · intro a b i v c d e f g h
      simp only [impl_answer.l1, spec_weAnswer.l1, ih.1, ih.2, Int.add_comm h i]
theorem answer_l1 (a c : List Int) (ha : a.length ≤ 1000000) (hc : c.length ≤ 1000000) (i : Nat) (v : Int) (hi : i < c.length) (r : List Int → Prop) : ∀ (d j : Nat) (b : List Int), j + d = a.length → b.length + 1 = c.length + a.length →
    ∃ b' : List Int, b'.length + 1 = c.length + a.length ∧ ∀ w, Ev (fun k => spec_weAnswer.l0 k a b' c (c.length : Int) ((i + 1 : Nat) : Int)) w → Ev (fun k => spec_weAnswer.l1 k a b (i : Int) v c (c.length : Int) (i : Int) a (a.length : Int) (j : Int)) w := by
  intro d
  induction d with
  | zero =>
    intro j b hj hb
    refine ⟨b, hb, fun w hw => aid_ev_succ ?_⟩
    simp only [spec_weAnswer.l1]
    refine Ev.congr (fun k => if_neg (by omega)) ?_
    rw [aid_next (by omega)]
    exact hw
  | succ d ih =>
    intro j b hj hb
    obtain ⟨b', h1, h2⟩ := ih (j + 1) (b.set (i + j) (wrap64 (rd b ((i + j : Nat) : Int) + wrap64 (v * rd a (j : Int))))) (by omega) (by rw [List.length_set]; exact hb)
    refine ⟨b', h1, fun w hw => aid_ev_succ ?_⟩
    have e : wrap64 ((i : Int) + (j : Int)) = ((i + j : Nat) : Int) := by
      rw [aid_wr (by omega) (by omega)]
      omega
    simp only [spec_weAnswer.l1, e, Int.toNat_natCast]
    refine Ev.congr (fun k => if_pos (by omega)) ?_
    refine Ev.congr (fun k => if_pos (by omega)) ?_
    refine Ev.congr (fun k => if_pos (by omega)) ?_
    refine Ev.congr (fun k => if_pos (by omega)) ?_
    refine Ev.congr (fun k => if_pos (by omega)) ?_
    rw [aid_next (by omega)]
    exact h2 w hw
theorem answer_l0 (a c : List Int) (ha : a.length ≤ 1000000) (hc : c.length ≤ 1000000) : ∀ (d i : Nat) (b : List Int), i + d = c.length → b.length + 1 = c.length + a.length →
    ∃ w : List Int, w.length + 1 = c.length + a.length ∧ Ev (fun k => spec_weAnswer.l0 k a b c (c.length : Int) (i : Int)) w := by
  intro d
  induction d with
  | zero =>
    intro i b hi hb
    refine ⟨b, hb, aid_ev_succ ?_⟩
    simp only [spec_weAnswer.l0]
    exact Ev.congr (fun k => if_neg (by omega)) (Ev.now _)
  | succ d ih =>
    intro i b hi hb
    obtain ⟨b', h1, h2⟩ := answer_l1 a c ha hc i (rd c (i : Int)) (by omega) (fun _ => True) a.length 0 b (by omega) hb
    obtain ⟨w, hw1, hw2⟩ := ih (i + 1) b' (by omega) h1
    refine ⟨w, hw1, aid_ev_succ ?_⟩
    simp only [spec_weAnswer.l0]
    refine Ev.congr (fun k => if_pos (by omega)) ?_
    refine Ev.congr (fun k => if_pos (by omega)) ?_
    refine Ev.congr (fun k => if_pos (by omega)) ?_
    exact h2 w hw2
theorem answer_both (c a : List Int) (hc : c.length ≤ 1000000) (ha : a.length ≤ 1000000) (hc0 : 1 ≤ c.length) :
    ∃ w : List Int, Ev (fun k => spec_weAnswer.f k c a) w ∧ Ev (fun k => impl_answer.f k c a) w ∧ a.length ≤ w.length ∧ w.length ≤ 2000000 := by
  by_cases h0 : a.length = 0
  · refine ⟨[], ?_, ?_, by omega, by simp⟩
    · unfold spec_weAnswer.f
      exact Ev.congr (fun k => if_pos (by omega)) (Ev.now _)
    · unfold impl_answer.f
      exact Ev.congr (fun k => if_pos (by omega)) (Ev.now _)
  · have e : wrap64 (wrap64 ((c.length : Int) + (a.length : Int)) - 1) = ((c.length + a.length - 1 : Nat) : Int) := by
      rw [aid_wr (x := (c.length : Int) + (a.length : Int)) (by omega) (by omega), aid_wr (by omega) (by omega)]
      omega
    obtain ⟨w, h1, h2⟩ := answer_l0 a c ha hc c.length 0 (List.replicate (c.length + a.length - 1) 0) (by omega) (by rw [List.length_replicate]; omega)
    have E := Aside0.mk e
    clear e
    refine ⟨w, ?_, ?_, by omega, by omega⟩
    · unfold spec_weAnswer.f
      rw [E.out]
      refine Ev.congr (fun k => if_neg (by omega)) ?_
      refine Ev.congr (fun k => if_pos (by omega)) ?_
      refine Ev.congr (fun k => if_pos (by omega)) ?_
      rw [Int.toNat_natCast]
      exact h2
    · unfold impl_answer.f
      rw [E.out]
      refine Ev.congr (fun k => if_neg (by omega)) ?_
      refine Ev.congr (fun k => if_pos (by omega)) ?_
      refine Ev.congr (fun k => if_pos (by omega)) ?_
      rw [Int.toNat_natCast]
      exact Ev.congr (fun k => (answer_same k).1 _ _ _ _ _) h2

-- Combos
theorem aid_four {s : Int} (h : 1 ≤ s ∧ s ≤ 4) : s ∈ [(1 : Int), 2, 3, 4] := by
  have : s = 1 ∨ s = 2 ∨ s = 3 ∨ s = 4 := by omega
  rcases this with h | h | h | h <;> simp [h]
theorem aid_eight {s : Int} (h : 1 ≤ s ∧ s ≤ 8) : s ∈ [(1 : Int), 2, 3, 4, 5, 6, 7, 8] := by
  have : s = 1 ∨ s = 2 ∨ s = 3 ∨ s = 4 ∨ s = 5 ∨ s = 6 ∨ s = 7 ∨ s = 8 := by omega
  rcases this with h | h | h | h | h | h | h | h <;> simp [h]

-- CombBoth
theorem comb_all : ∀ s ∈ [(1 : Int), 2, 3, 4], ∀ r ∈ [(1 : Int), 2, 3, 4, 5, 6, 7, 8], (spec_cbBox.f 1000 s r).isSome = true ∧ impl_comb.f 1000 s r = spec_cbBox.f 1000 s r ∧ 1 ≤ ((spec_cbBox.f 1000 s r).getD []).length ∧ ((spec_cbBox.f 1000 s r).getD []).length ≤ 29 := by decide +kernel
theorem comb_both (s r : Int) (hs : 1 ≤ s ∧ s ≤ 4) (hr : 1 ≤ r ∧ r ≤ 8) : ∃ c : List Int, Ev (fun k => spec_cbBox.f k s r) c ∧ Ev (fun k => impl_comb.f k s r) c ∧ 1 ≤ c.length ∧ c.length ≤ 29 := by
  obtain ⟨h1, h2, h3, h4⟩ := comb_all s (aid_four hs) r (aid_eight hr)
  cases hc : spec_cbBox.f 1000 s r with
  | none => rw [hc] at h1; cases h1
  | some c =>
    rw [hc] at h2 h3 h4
    exact ⟨c, Ev.of (spec_cbBox.mono s r) hc, Ev.of (impl_comb.mono s r) h2, h3, h4⟩

-- DropBoth
theorem drop_same : ∀ (k : Nat) (a : List Int) (b : Int) (c : List Int) (d : Int), impl_drop.l0 k a b c d = spec_cbDrop.l0 k a b c d := by
  intro k
  induction k with
  | zero => intros; rfl
  | succ k ih => intros; simp only [impl_drop.l0, spec_cbDrop.l0, ih]
theorem drop_both (l : List Int) (rate first : Int) (hl : l.length ≤ 1000000) (h1 : 1 ≤ rate) (h2 : rate ≤ 8) (h3 : 0 ≤ first) (h4 : first ≤ 8) :
    ∃ w, Ev (fun k => spec_cbDrop.f k l rate first) w ∧ Ev (fun k => impl_drop.f k l rate first) w ∧ (∀ x ∈ w, x ∈ l) ∧ w.length ≤ l.length := by
  obtain ⟨w, h⟩ := drop_impl l rate first hl h1 h2 h3 h4
  exact ⟨w, Ev.congr (fun k => (drop_same k _ _ _ _).symm) h.1, h.1, h.2.1, h.2.2.1⟩

-- WcombCore
theorem wcomb_core (t : Nat) (ht1 : 1 ≤ t) (ht2 : t ≤ 39) (n : Nat) (hn : n ≤ 100) (r : Int) (hr : 1 ≤ r ∧ r ≤ 8) (l : List Int) (hl : okL l) :
    ∃ w : List Int, Ev (fun k => spec_cbWrapped.f k l ((t + 1 : Nat) : Int) (n : Int) r) w ∧ Ev (fun k => impl_wrappedComb.f k l ((t + 1 : Nat) : Int) (n : Int) r) w ∧ w.length ≤ l.length := by
  obtain ⟨hH, hH'⟩ := wrap_pow t ht2
  obtain ⟨hok, hlen⟩ := sumsN_ok hH hH' n l hl
  obtain ⟨d, hd1, hd2, hd3, hd4⟩ := drop_both (sumsN (2 ^ t) n l) r (r - 1) (by have := hok.1; omega) hr.1 hr.2 (by omega) (by omega)
  have hdk : okL d := ⟨by have := hok.1; omega, fun x hx => hok.2 x (hd3 x hx)⟩
  obtain ⟨hok2, hlen2⟩ := combsN_ok hH hH' n d hdk
  have hwr : wrap64 (r - 1) = r - 1 := aid_wr (by omega) (by omega)
  refine ⟨combsN (2 ^ t) n d, ?_, ?_, by omega⟩
  · unfold spec_cbWrapped.f
    rw [hwr]
    refine Ev.bind (spec_cbSums.ev t ht1 ht2 n hn l hl) ?_
    refine Ev.bind hd1 ?_
    exact aid_ev_bind (spec_cbCombs.ev t ht1 ht2 n hn d hdk) rfl
  · unfold impl_wrappedComb.f
    rw [hwr]
    refine Ev.bind (impl_wrappedSums.ev t ht1 ht2 n hn l hl) ?_
    refine Ev.bind hd2 ?_
    exact aid_ev_bind (impl_wrappedCombs.ev t ht1 ht2 n hn d hdk) rfl

theorem lb_l0 (n : Nat) (hn : n ≤ 100) (r : Int) (hr : 1 ≤ r ∧ r ≤ 8) (l w : List Int) (hl : okL l) : ∀ (d b : Nat), b + d = 41 → 2 ≤ b → ∃ v : Int × Bool, Ev (fun k => spec_LeastBits.l0 k l (n : Int) r w (b : Int)) v ∧ Ev (fun k => impl_LeastBits.l0 k l (n : Int) r w (b : Int)) v := by
  intro d
  induction d with
  | zero =>
    intro b hb h2
    refine ⟨(0, false), aid_ev_succ ?_, aid_ev_succ ?_⟩
    · simp only [spec_LeastBits.l0]
      exact Ev.congr (fun k => if_neg (by omega)) (Ev.now _)
    · simp only [impl_LeastBits.l0]
      exact Ev.congr (fun k => if_neg (by omega)) (Ev.now _)
  | succ d ih =>
    intro b hb h2
    obtain ⟨v, hv1, hv2⟩ := ih (b + 1) (by omega) (by omega)
    obtain ⟨t, rfl⟩ : ∃ t : Nat, b = t + 1 := ⟨b - 1, by omega⟩
    obtain ⟨c, hc1, hc2, hc3⟩ := wcomb_core t (by omega) (by omega) n hn r hr l hl
    have hl1 := hl.1
    have hs := spec_weSame.ev c w (by omega)
    have hi := slices_Equal_int_int.ev c w (by omega)
    have hnx : wrap64 (((t + 1 : Nat) : Int) + 1) = ((t + 1 + 1 : Nat) : Int) := aid_next (by omega)
    by_cases h : c = w
    · rw [decide_eq_true h] at hs hi
      refine ⟨(((t + 1 : Nat) : Int), true), aid_ev_succ ?_, aid_ev_succ ?_⟩
      · simp only [spec_LeastBits.l0]
        refine Ev.congr (fun k => if_pos (by omega)) ?_
        refine Ev.bind hc1 ?_
        refine Ev.bind hs ?_
        exact Ev.now _
      · simp only [impl_LeastBits.l0]
        refine Ev.congr (fun k => if_pos (by omega)) ?_
        refine Ev.bind hc2 ?_
        refine Ev.bind hi ?_
        exact Ev.now _
    · rw [decide_eq_false h] at hs hi
      refine ⟨v, aid_ev_succ ?_, aid_ev_succ ?_⟩
      · simp only [spec_LeastBits.l0]
        refine Ev.congr (fun k => if_pos (by omega)) ?_
        refine Ev.bind hc1 ?_
        refine Ev.bind hs ?_
        refine Ev.congr (fun k => if_neg (by decide)) ?_
        rw [hnx]
        exact hv1
      · simp only [impl_LeastBits.l0]
        refine Ev.congr (fun k => if_pos (by omega)) ?_
        refine Ev.bind hc2 ?_
        refine Ev.bind hi ?_
        refine Ev.congr (fun k => if_neg (by decide)) ?_
        rw [hnx]
        exact hv2
theorem lbits_both (l : List Int) (s r : Int) : ∃ v : Int × Bool, Ev (fun k => spec_LeastBits.f k l s r) v ∧ Ev (fun k => impl_LeastBits.f k l s r) v := by
  unfold spec_LeastBits.f impl_LeastBits.f impl_ExactComb.f
  have hG := spec_cbGood.ev l s r
  rw [impl_isSignal.eq, impl_isComb.eq]
  have hiN : Ev (fun k => impl_ExactComb.j0 k l s r true) (([] : List Int), false) := by
    refine aid_ev_succ ?_
    simp only [impl_ExactComb.j0]
    exact Ev.now _
  cases hB : sigB l with
  | false =>
    rw [hB, Bool.false_and] at hG
    exact ⟨(0, false), Ev.bind hG (Ev.now _), Ev.bind hiN (Ev.now _)⟩
  | true =>
    rw [hB, Bool.true_and] at hG
    obtain ⟨hl, hx⟩ := (sigB_iff l).1 hB
    by_cases h : (1 ≤ s ∧ s ≤ 4) ∧ (1 ≤ r ∧ r ≤ 8)
    · rw [decide_eq_true h] at hG ⊢
      obtain ⟨c, hc1, hc2, hc3, hc4⟩ := comb_both s r h.1 h.2
      obtain ⟨z, hz1, hz2, hz3, hz4⟩ := answer_both c l (by omega) (by omega) hc3
      obtain ⟨w, hw1, hw2, hw3, hw4⟩ := drop_both (z.take l.length) r (r - 1) (by rw [List.length_take]; omega) h.2.1 h.2.2 (by omega) (by omega)
      have hwr : wrap64 (r - 1) = r - 1 := aid_wr (by omega) (by omega)
      have hE : Ev (fun k => spec_cbExact.f k l s r) w := by
        unfold spec_cbExact.f
        refine Ev.bind hc1 ?_
        refine Ev.bind hz1 ?_
        refine Ev.congr (fun k => if_pos (by omega)) ?_
        refine Ev.congr (fun k => if_pos (by omega)) ?_
        rw [Int.toNat_natCast, hwr]
        exact aid_ev_bind hw1 rfl
      have hI : Ev (fun k => impl_ExactComb.j0 k l s r false) (toldP w) := by
        refine aid_ev_succ ?_
        simp only [impl_ExactComb.j0]
        refine Ev.congr (fun k => if_neg (by decide)) ?_
        refine Ev.bind hc2 ?_
        refine Ev.bind hz2 ?_
        refine Ev.congr (fun k => if_pos (by omega)) ?_
        refine Ev.congr (fun k => if_pos (by omega)) ?_
        rw [Int.toNat_natCast, hwr]
        refine Ev.bind hw2 ?_
        rw [impl_told.eq]
        exact Ev.now _
      have hT := spec_wdIf.ev w
      obtain ⟨n, rfl⟩ := Int.eq_ofNat_of_zero_le (show 0 ≤ s by omega)
      have hgo : ∀ v : Int × Bool, Ev (fun k => if (toldP w).2 = true then (spec_LeastBits.l0 k l (n : Int) r (toldP w).1 2) else (some (0, false))) v → Ev (fun k => if (toldP w).2 = true then (impl_LeastBits.l0 k l (n : Int) r (toldP w).1 2) else (some (0, false))) v → ∃ v : Int × Bool, Ev (fun k => (spec_cbGood.f k l (n : Int) r).bind fun t186 => (if t186 = true then ((spec_cbExact.f k l (n : Int) r).bind fun t187 => ((spec_wdIf.f k t187).bind fun bt190 => (if bt190.2 = true then (spec_LeastBits.l0 k l (n : Int) r bt190.1 2) else (some (0, false))))) else (some (0, false)))) v ∧ Ev (fun k => (impl_ExactComb.j0 k l (n : Int) r false).bind fun bt288 => (if bt288.2 = true then (impl_LeastBits.l0 k l (n : Int) r bt288.1 2) else (some (0, false)))) v := by
        intro v h1 h2
        refine ⟨v, Ev.bind hG (Ev.congr (fun k => if_pos rfl) (Ev.bind hE (Ev.bind hT h1))), Ev.bind hI h2⟩
      obtain ⟨v, hv1, hv2⟩ := lb_l0 n (by omega) r h.2 l (toldP w).1 (sig_okL hB) 39 2 (by omega) (by omega)
      cases hq : (toldP w).2 with
      | true => exact hgo v (Ev.congr (fun k => if_pos hq) hv1) (Ev.congr (fun k => if_pos hq) hv2)
      | false => exact hgo (0, false) (Ev.congr (fun k => if_neg (by rw [hq]; decide)) (Ev.now _)) (Ev.congr (fun k => if_neg (by rw [hq]; decide)) (Ev.now _))
    · rw [decide_eq_false h] at hG ⊢
      exact ⟨(0, false), Ev.bind hG (Ev.now _), Ev.bind hiN (Ev.now _)⟩
theorem FnExactLeastBits : laws_FnExactLeastBits.Pure := by
  intro l s r _ h8 _ _ _
  refine Ev.rounds ?_
  unfold laws_FnExactLeastBits.f
  by_cases hb : (l.length : Int) > 1048576
  · exact Ev.congr (fun k => if_pos hb) (Ev.now _)
  refine Ev.congr (fun k => if_neg hb) ?_
  have hT := laws_toIntS.ev l h8
  obtain ⟨⟨r, b⟩, hs, hi⟩ := lbits_both l s r
  have hE := laws_eqIntS.refl l (by omega)
  have hEl := hE
  have hM := hE
  have hMl := hE
  have hH := hE
  have hNb : ¬ ((b != b) = true) := by cases b <;> decide
  have hN1 := hNb
  have hN2 := hNb
  repeat (first
    | exact Ev.now _
    | ((with_reducible refine Ev.bind hT ?_); try dsimp only)
    | ((with_reducible refine Ev.bind hs ?_); try dsimp only)
    | ((with_reducible refine Ev.bind hi ?_); try dsimp only)
    | ((with_reducible refine Ev.bind hE ?_); try dsimp only)
    | ((with_reducible refine Ev.bind hEl ?_); try dsimp only)
    | ((with_reducible refine Ev.bind hM ?_); try dsimp only)
    | ((with_reducible refine Ev.bind hMl ?_); try dsimp only)
    | ((with_reducible refine Ev.bind hH ?_); try dsimp only)
    | (with_reducible refine Ev.congr (fun k => if_pos rfl) ?_)
    | (with_reducible refine Ev.congr (fun k => if_neg hNb) ?_)
    | (with_reducible refine Ev.congr (fun k => if_neg hN1) ?_)
    | (with_reducible refine Ev.congr (fun k => if_neg hN2) ?_)
    | (refine aid_ev_succ ?_; simp only [laws_FnExactLeastBits.j0]; try dsimp only))

end Go.Proofs.Ytjknlfgphlopnaa.Pure
