/- Proves that the program's ExactRise returns what the reference's returns, for all arguments. Conditions: none. -/
import Derived.Test.YtlmlehfgdmhbmaaPFnExactExactRisex5
namespace Go.Proofs.Ytlmlehfgdmhbmaa.Pure
open Go.RowKit Go.Proofs.Ytlmlehfgdmhbmaa.PFnExactExactRise Go.Proofs.YtlmlehfgdmhbmaaW.PrintWords Go.Proofs.YtlmlehfgdmhbmaaW.PrintLast
set_option linter.unusedSimpArgs false
set_option linter.unusedVariables false

-- Aid
theorem aid_wr {x : Int} (h0 : -9223372036854775808 ≤ x) (h1 : x ≤ 9223372036854775807) : wrap64 x = x := by unfold wrap64; omega
theorem aid_wf {x : Int} (h : (Lit.int .i64 x).wf = true) : -9223372036854775808 ≤ x ∧ x ≤ 9223372036854775807 := by
  have hmin : IntKind.i64.min = -9223372036854775808 := rfl
  have hmax : IntKind.i64.max = 9223372036854775807 := rfl
  simp only [Lit.wf, Bool.and_eq_true, decide_eq_true_eq, hmin, hmax] at h
  exact h
theorem aid_ev_bind {α β : Type} {g : Nat → Option α} {f : α → Option β} {a : α} {r : β} (h : Ev g a) (k : f a = some r) : Ev (fun n => (g n).bind f) r :=
  Ev.bind (f := fun _ => f) h ⟨0, fun _ _ => k⟩
theorem aid_ev_const {α : Type} {o : Option α} {r : α} (h : o = some r) : Ev (fun _ => o) r := ⟨0, fun _ _ => h⟩
theorem aid_tdiv {a b : Int} (ha : 0 ≤ a) : Int.tdiv a b = a / b := Int.tdiv_eq_ediv_of_nonneg ha
theorem aid_tmod {a b : Int} (ha : 0 ≤ a) : Int.tmod a b = a % b := Int.tmod_eq_emod_of_nonneg ha
theorem aid_next {i : Nat} (h : i ≤ 9223372036854775806) : wrap64 ((i : Int) + 1) = ((i + 1 : Nat) : Int) := by rw [aid_wr (by omega) (by omega)]; rfl
theorem aid_rd (l : List Int) (i : Nat) (h : i < l.length) : rd l (i : Int) = l[i] := by
  unfold rd
  rw [List.getD_eq_getElem?_getD, Int.toNat_natCast, List.getElem?_eq_getElem h]
  rfl
theorem aid_ev_succ {α : Type} {g : Nat → Option α} {r : α} (h : Ev (fun k => g (k + 1)) r) : Ev g r := Ev.step (fun _ => rfl) h

-- Sig
def sigB (l : List Int) : Bool := decide (l.length ≤ 64) && l.all fun x => decide (-100000 ≤ x ∧ x ≤ 100000)
theorem sigB_iff (l : List Int) : sigB l = true ↔ l.length ≤ 64 ∧ ∀ x ∈ l, -100000 ≤ x ∧ x ≤ 100000 := by
  simp [sigB]
def toldP (l : List Int) : List Int × Bool := if sigB l then (l, true) else ([], false)
theorem toldP_len (l : List Int) : (toldP l).1.length ≤ 64 := by
  unfold toldP
  cases h : sigB l with
  | true => simpa using ((sigB_iff l).1 h).1
  | false => simp

-- Wrap
def wI (H x : Int) : Int := (x + H) % (2 * H) - H
theorem aid_emod {x P y : Int} (hP : 0 < P) (h0 : 0 ≤ x - P * y) (h1 : x - P * y < P) : x % P = x - P * y :=
  ((Int.ediv_emod_unique hP (a := x) (r := x - P * y) (q := y)).2 ⟨by omega, h0, h1⟩).2
theorem wI_bound {H : Int} (hH : 1 ≤ H) (x : Int) : -H ≤ wI H x ∧ wI H x < H := by
  unfold wI
  have h1 := Int.emod_nonneg (x + H) (show 2 * H ≠ 0 by omega)
  have h2 := Int.emod_lt_of_pos (x + H) (show 0 < 2 * H by omega)
  omega
theorem wI_zero {H : Int} (hH : 1 ≤ H) : wI H 0 = 0 := by
  unfold wI
  rw [Int.zero_add, Int.emod_eq_of_lt (by omega) (by omega)]
  omega
theorem wI_add (H a x : Int) : wI H (wI H a + x) = wI H (a + x) := by
  unfold wI
  have e : (a + H) % (2 * H) - H + x + H = (a + H) % (2 * H) + x := by omega
  rw [e, Int.emod_add_emod]
  have e2 : a + H + x = a + x + H := by omega
  rw [e2]
theorem wrap_shl (t : Nat) (h : t ≤ 40) : shl .i64 1 (t : Int) = 2 ^ t := by
  have h' : ∀ s : Fin 41, shl .i64 1 ((s.val : Nat) : Int) = 2 ^ s.val := by decide +kernel
  exact h' ⟨t, by omega⟩
theorem wrap_pow (t : Nat) (h : t ≤ 39) : (1 : Int) ≤ 2 ^ t ∧ (2 : Int) ^ t ≤ 549755813888 := by
  have h' : ∀ s : Fin 40, (1 : Int) ≤ 2 ^ s.val ∧ (2 : Int) ^ s.val ≤ 549755813888 := by decide +kernel
  exact h' ⟨t, by omega⟩
theorem wrap_tmod (x M : Int) : (Int.tmod x M + M) % M = x % M := by
  have h : x % M = (Int.tmod x M) % M := by
    conv => lhs; rw [← Int.mul_tdiv_add_tmod x M, Int.add_comm, Int.add_mul_emod_self_left]
  rw [h, Int.add_emod_right]
theorem wrap_tmod_bound (x M : Int) (hM : 0 < M) : 0 < Int.tmod x M + M ∧ Int.tmod x M + M < 2 * M := by
  have h1 := Int.tmod_lt_of_pos x hM
  have h2 := Int.lt_tmod_of_pos x hM
  omega
theorem bits_split (b : Int) (h : 2 ≤ b ∧ b ≤ 40) : ∃ t : Nat, b = ((t + 1 : Nat) : Int) ∧ 1 ≤ t ∧ t ≤ 39 := ⟨(b - 1).toNat, by omega, by omega, by omega⟩
def sumsL : List Int → Int → List Int
  | [], _ => []
  | x :: r, a => (a + x) :: sumsL r (a + x)
def wsumL (H : Int) : List Int → Int → List Int
  | [], _ => []
  | x :: r, t => wI H (t + x) :: wsumL H r (wI H (t + x))
theorem wsumL_eq (H : Int) : ∀ (l : List Int) (a : Int), wsumL H l (wI H a) = (sumsL l a).map (wI H)
  | [], _ => rfl
  | x :: r, a => by rw [wsumL, sumsL, List.map_cons, wI_add, wsumL_eq H r (a + x)]
theorem sumsL_length : ∀ (l : List Int) (a : Int), (sumsL l a).length = l.length
  | [], _ => rfl
  | x :: r, a => by rw [sumsL, List.length_cons, sumsL_length r, List.length_cons]
theorem sumsL_bound (B : Nat) : ∀ (l : List Int) (a : Int) (c : Nat), (∀ x ∈ l, -(B : Int) ≤ x ∧ x ≤ B) → -((c * B : Nat) : Int) ≤ a → a ≤ ((c * B : Nat) : Int) → ∀ y ∈ sumsL l a, -(((c + l.length) * B : Nat) : Int) ≤ y ∧ y ≤ (((c + l.length) * B : Nat) : Int)
  | x :: r, a, c, hx, h0, h1, y, hy => by
    have hxx := hx x (by simp)
    have hc : ((c + 1) * B : Nat) = c * B + B := by rw [Nat.add_mul, Nat.one_mul]
    have hle : (c + 1) * B ≤ (c + (x :: r).length) * B := Nat.mul_le_mul_right B (by rw [List.length_cons]; omega)
    rw [sumsL] at hy
    rcases List.mem_cons.1 hy with hy | hy
    · omega
    · have h := sumsL_bound B r (a + x) (c + 1) (fun z hz => hx z (by simp [hz])) (by omega) (by omega) y hy
      have e : c + 1 + r.length = c + (x :: r).length := by rw [List.length_cons]; omega
      rw [e] at h
      exact h
def diffL : List Int → Int → List Int
  | [], _ => []
  | x :: r, a => (x - a) :: diffL r x
theorem diffL_length : ∀ (l : List Int) (a : Int), (diffL l a).length = l.length
  | [], _ => rfl
  | x :: r, a => by rw [diffL, List.length_cons, diffL_length r, List.length_cons]
theorem diffL_bound (B : Int) : ∀ (l : List Int) (a : Int), (∀ x ∈ l, -B ≤ x ∧ x ≤ B) → -B ≤ a → a ≤ B → ∀ y ∈ diffL l a, -(2 * B) ≤ y ∧ y ≤ 2 * B
  | x :: r, a, hx, h0, h1, y, hy => by
    have hxx := hx x (by simp)
    rw [diffL] at hy
    rcases List.mem_cons.1 hy with hy | hy
    · omega
    · exact diffL_bound B r x (fun z hz => hx z (by simp [hz])) hxx.1 hxx.2 y hy
def sumsN (H : Int) : Nat → List Int → List Int
  | 0, l => l
  | n + 1, l => sumsN H n ((sumsL l 0).map (wI H))
def combsN (H : Int) : Nat → List Int → List Int
  | 0, l => l
  | n + 1, l => combsN H n ((diffL l 0).map (wI H))
def okL (l : List Int) : Prop := l.length ≤ 1000 ∧ ∀ x ∈ l, -549755813888 ≤ x ∧ x ≤ 549755813888
theorem okL_map {H : Int} (hH : 1 ≤ H) (hH' : H ≤ 549755813888) (l : List Int) (h : l.length ≤ 1000) : okL (l.map (wI H)) := by
  refine ⟨by rw [List.length_map]; exact h, fun x hx => ?_⟩
  obtain ⟨y, _, rfl⟩ := List.mem_map.1 hx
  have := wI_bound hH y
  omega
theorem sumsN_ok {H : Int} (hH : 1 ≤ H) (hH' : H ≤ 549755813888) : ∀ (n : Nat) (l : List Int), okL l → okL (sumsN H n l) ∧ (sumsN H n l).length = l.length
  | 0, l, h => ⟨h, rfl⟩
  | n + 1, l, h => by
    obtain ⟨h1, h2⟩ := sumsN_ok hH hH' n ((sumsL l 0).map (wI H)) (okL_map hH hH' _ (by rw [sumsL_length]; exact h.1))
    rw [List.length_map, sumsL_length] at h2
    exact ⟨h1, h2⟩
theorem combsN_ok {H : Int} (hH : 1 ≤ H) (hH' : H ≤ 549755813888) : ∀ (n : Nat) (l : List Int), okL l → okL (combsN H n l) ∧ (combsN H n l).length = l.length
  | 0, l, h => ⟨h, rfl⟩
  | n + 1, l, h => by
    obtain ⟨h1, h2⟩ := combsN_ok hH hH' n ((diffL l 0).map (wI H)) (okL_map hH hH' _ (by rw [diffL_length]; exact h.1))
    rw [List.length_map, diffL_length] at h2
    exact ⟨h1, h2⟩

-- SigOk
theorem sig_okL {l : List Int} (h : sigB l = true) : okL l := by
  obtain ⟨h1, h2⟩ := (sigB_iff l).1 h
  exact ⟨by omega, fun x hx => by have := h2 x hx; omega⟩

-- laws_toIntS
theorem aid_fill (l : List Int) (i d : Nat) (h : i + (d + 1) = l.length) : (l.take i ++ List.replicate (d + 1) 0).set i (rd l i) = l.take (i + 1) ++ List.replicate d 0 := by
  have hi' : i < l.length := by omega
  have hlen : (l.take i).length = i := by rw [List.length_take]; omega
  rw [List.set_append_right _ _ (by omega), hlen, Nat.sub_self, aid_rd l i hi', List.take_succ_eq_append_getElem hi', List.append_assoc]
  rfl
theorem laws_toIntS.l0_ev (l : List Int) (hl : l.length ≤ 1000000000000000) : ∀ (d i : Nat), i + d = l.length → Ev (fun k => laws_toIntS.l0 k l (l.take i ++ List.replicate d 0) (i : Int)) l := by
  intro d
  induction d with
  | zero =>
    intro i h
    refine Ev.step (fun k => ?_) (Ev.now _)
    simp only [laws_toIntS.l0]
    rw [if_neg (by omega), List.take_of_length_le (by omega)]
    simp
  | succ d ih =>
    intro i h
    refine Ev.step (fun k => ?_) (ih (i + 1) (by omega))
    have hlen : (l.take i ++ List.replicate (d + 1) 0).length = l.length := by
      rw [List.length_append, List.length_take, List.length_replicate]; omega
    simp only [laws_toIntS.l0]
    rw [if_pos (by omega), if_pos (by omega), if_pos (by rw [hlen]; omega), aid_next (by omega), Int.toNat_natCast, aid_fill l i d h]
theorem laws_toIntS.ev (l : List Int) (hl : l.length * 8 ≤ 140737488351232) : Ev (fun k => laws_toIntS.f k l) l := by
  unfold laws_toIntS.f
  have h := laws_toIntS.l0_ev l (by omega) l.length 0 (by omega)
  refine Ev.congr (fun k => ?_) h
  rw [if_pos (by omega), if_pos (by omega)]
  simp

-- laws_eqIntS
theorem laws_eqIntS.l0_refl (l : List Int) (hl : l.length ≤ 1000000000000000) : ∀ (d i : Nat), i + d = l.length → Ev (fun k => laws_eqIntS.l0 k l l (i : Int)) true := by
  intro d
  induction d with
  | zero =>
    intro i h
    refine Ev.step (fun k => ?_) (Ev.now _)
    simp only [laws_eqIntS.l0]
    rw [if_neg (by omega)]
  | succ d ih =>
    intro i h
    refine Ev.step (fun k => ?_) (ih (i + 1) (by omega))
    simp only [laws_eqIntS.l0]
    rw [if_pos (by omega), if_pos (by omega), if_pos (by omega), if_pos trivial, aid_next (by omega)]
theorem laws_eqIntS.refl (l : List Int) (hl : l.length ≤ 1000000000000000) : Ev (fun k => laws_eqIntS.f k l l) true := by
  unfold laws_eqIntS.f
  exact Ev.congr (fun k => if_pos rfl) (laws_eqIntS.l0_refl l hl l.length 0 (by omega))

-- Mark
def marksL : Nat → Int → List Int
  | 0, _ => []
  | n + 1, a => marksL n a ++ [a + (n : Int)]
theorem marksL_length (a : Int) : ∀ n, (marksL n a).length = n
  | 0 => rfl
  | n + 1 => by rw [marksL, List.length_append, marksL_length a n]; rfl
theorem marksL_get (a : Int) : ∀ (n i : Nat) (h : i < (marksL n a).length), (marksL n a)[i] = a + (i : Int)
  | n + 1, i, h => by
    have hl := marksL_length a n
    have hl' := marksL_length a (n + 1)
    simp only [marksL]
    by_cases hi : i < n
    · rw [List.getElem_append_left (by omega)]
      exact marksL_get a n i (by omega)
    · have e : i = n := by omega
      subst e
      rw [List.getElem_append_right (by omega)]
      simp

-- laws_markIntS
theorem laws_markIntS.l0_ev (l : List Int) (a : Int) (hl : l.length ≤ 1000000000000000) (h0 : 0 ≤ a) (h1 : a ≤ 1000000000000000) : ∀ (d i : Nat), i + d = l.length → Ev (fun k => laws_markIntS.l0 k (marksL i a ++ l.drop i) (a + (i : Int)) (i : Int)) (a + (l.length : Int), marksL l.length a) := by
  intro d
  induction d with
  | zero =>
    intro i h
    have hlen : (marksL i a ++ l.drop i).length = l.length := by rw [List.length_append, marksL_length, List.length_drop]; omega
    refine Ev.step (f := fun _ => some (a + (l.length : Int), marksL l.length a)) (fun k => ?_) (Ev.now _)
    simp only [laws_markIntS.l0]
    rw [if_neg (by rw [hlen]; omega), List.drop_eq_nil_of_le (by omega), List.append_nil]
    obtain rfl : i = l.length := by omega
    rfl
  | succ d ih =>
    intro i h
    have hi' : i < l.length := by omega
    have hlen : (marksL i a ++ l.drop i).length = l.length := by rw [List.length_append, marksL_length, List.length_drop]; omega
    refine Ev.step (fun k => ?_) (ih (i + 1) (by omega))
    simp only [laws_markIntS.l0]
    have hset : (marksL i a ++ l.drop i).set i (a + (i : Int)) = marksL (i + 1) a ++ l.drop (i + 1) := by
      rw [List.set_append_right _ _ (by rw [marksL_length]; omega), marksL_length, Nat.sub_self, List.drop_eq_getElem_cons hi', marksL, List.append_assoc]
      rfl
    rw [if_pos (by rw [hlen]; omega), if_pos (by omega), Int.toNat_natCast, hset, aid_next (by omega), aid_wr (x := a + (i : Int) + 1) (by omega) (by omega)]
    rw [show a + (i : Int) + 1 = a + ((i + 1 : Nat) : Int) by omega]
theorem laws_markIntS.ev (l : List Int) (a : Int) (hl : l.length ≤ 1000000000000000) (h0 : 0 ≤ a) (h1 : a ≤ 1000000000000000) : Ev (fun k => laws_markIntS.f k l a) (a + (l.length : Int), marksL l.length a) := by
  have h := laws_markIntS.l0_ev l a hl h0 h1 l.length 0 (by omega)
  simp only [marksL, List.nil_append, List.drop_zero] at h
  unfold laws_markIntS.f
  simpa using h

-- laws_heldIntS
theorem laws_heldIntS.l0_ev (n : Nat) (a : Int) (hl : n ≤ 1000000000000000) (h0 : 0 ≤ a) (h1 : a ≤ 1000000000000000) : ∀ (d i : Nat), i + d = n → Ev (fun k => laws_heldIntS.l0 k (marksL n a) (a + (i : Int)) (i : Int)) (a + (n : Int)) := by
  have hlen := marksL_length a n
  intro d
  induction d with
  | zero =>
    intro i h
    refine Ev.step (f := fun _ => some (a + (n : Int))) (fun k => ?_) (Ev.now _)
    simp only [laws_heldIntS.l0]
    rw [if_neg (by rw [hlen]; omega)]
    obtain rfl : i = n := by omega
    rfl
  | succ d ih =>
    intro i h
    refine Ev.step (fun k => ?_) (ih (i + 1) (by omega))
    simp only [laws_heldIntS.l0]
    rw [if_pos (by rw [hlen]; omega), if_pos (by omega), aid_rd _ i (by omega), marksL_get, if_pos rfl, aid_next (by omega), aid_wr (x := a + (i : Int) + 1) (by omega) (by omega)]
    rw [show a + (i : Int) + 1 = a + ((i + 1 : Nat) : Int) by omega]
theorem laws_heldIntS.ev (n : Nat) (a : Int) (hl : n ≤ 1000000000000000) (h0 : 0 ≤ a) (h1 : a ≤ 1000000000000000) : Ev (fun k => laws_heldIntS.f k (marksL n a) a) (a + (n : Int)) := by
  have h := laws_heldIntS.l0_ev n a hl h0 h1 n 0 (by omega)
  unfold laws_heldIntS.f
  simpa using h

-- spec_l1In
theorem spec_l1In.eq (a lo hi : Int) : spec_l1In.f a lo hi = some (decide (lo ≤ a ∧ a ≤ hi)) := by
  unfold spec_l1In.f
  by_cases h : lo ≤ a <;> simp [h]

-- spec_l1All
theorem spec_l1All.l0_ev (lo hi : Int) (l : List Int) (hl : l.length ≤ 1000000000000000) : ∀ (d i : Nat), i + d = l.length → Ev (fun k => spec_l1All.l0 k lo hi l (l.length : Int) (i : Int)) ((l.drop i).all fun x => decide (lo ≤ x ∧ x ≤ hi)) := by
  intro d
  induction d with
  | zero =>
    intro i h
    rw [List.drop_eq_nil_of_le (by omega)]
    refine Ev.step (fun k => ?_) (Ev.now _)
    simp only [spec_l1All.l0]
    rw [if_neg (by omega)]
    rfl
  | succ d ih =>
    intro i h
    have hi' : i < l.length := by omega
    rw [List.drop_eq_getElem_cons hi', List.all_cons, ← aid_rd l i hi']
    by_cases hc : lo ≤ rd l i ∧ rd l i ≤ hi
    · refine Ev.step (fun k => ?_) (by simpa [hc] using ih (i + 1) (by omega))
      simp only [spec_l1All.l0]
      rw [if_pos (by omega), if_pos (by omega), if_pos (by omega), spec_l1In.eq, aid_next (by omega)]
      simp [hc]
    · refine Ev.step (f := fun _ => some false) (fun k => ?_) (by simpa [hc] using Ev.now false)
      simp only [spec_l1All.l0]
      rw [if_pos (by omega), if_pos (by omega), if_pos (by omega), spec_l1In.eq]
      simp [hc]
theorem spec_l1All.ev (lo hi : Int) (l : List Int) (hl : l.length ≤ 1000000000000000) : Ev (fun k => spec_l1All.f k l lo hi) (l.all fun x => decide (lo ≤ x ∧ x ≤ hi)) :=
  spec_l1All.l0_ev lo hi l hl l.length 0 (by omega)

-- spec_wdSignal
theorem spec_wdSignal.ev (l : List Int) : Ev (fun k => spec_wdSignal.f k l) (sigB l) := by
  unfold spec_wdSignal.f sigB
  by_cases h : l.length ≤ 64
  · have e := spec_l1All.ev (-100000) 100000 l (by omega)
    simp only [h, decide_true, Bool.true_and]
    refine Ev.congr (fun k => if_pos (by omega)) (aid_ev_bind e rfl)
  · simp only [h, decide_false, Bool.false_and]
    refine Ev.congr (fun k => if_neg (by omega)) (Ev.now _)

-- spec_cbAsked
theorem spec_cbAsked.eq (s r : Int) : spec_cbAsked.f s r = some (decide ((1 ≤ s ∧ s ≤ 4) ∧ (1 ≤ r ∧ r ≤ 8))) := by
  unfold spec_cbAsked.f
  rw [spec_l1In.eq, spec_l1In.eq]
  by_cases h : 1 ≤ s ∧ s ≤ 4 <;> simp [h]

-- spec_cbGood
theorem spec_cbGood.ev (l : List Int) (s r : Int) : Ev (fun k => spec_cbGood.f k l s r) (sigB l && decide ((1 ≤ s ∧ s ≤ 4) ∧ (1 ≤ r ∧ r ≤ 8))) := by
  unfold spec_cbGood.f
  have h := spec_wdSignal.ev l
  rw [spec_cbAsked.eq]
  cases hB : sigB l with
  | false =>
    rw [hB] at h
    exact Ev.bind h (Ev.now _)
  | true =>
    rw [hB] at h
    exact Ev.bind h (Ev.now _)

-- spec_l1Own
theorem spec_l1Own.eq (l : List Int) (h : l.length ≤ 1000000) : spec_l1Own.f l = some l := by
  unfold spec_l1Own.f
  simp only [Option.bind_some]
  rw [if_pos (by simp; omega), List.nil_append]

-- Stuff
def stuffL (r : Nat) : List Int → List Int
  | [] => []
  | x :: t => x :: (List.replicate (r - 1) 0 ++ stuffL r t)
theorem stuffL_length (r : Nat) (hr : 1 ≤ r) : ∀ l : List Int, (stuffL r l).length = l.length * r
  | [] => by simp [stuffL]
  | x :: t => by
    rw [stuffL, List.length_cons, List.length_append, List.length_replicate, stuffL_length r hr t, List.length_cons, Nat.add_mul]
    omega
theorem stuffL_mem (r : Nat) : ∀ (l : List Int) (y : Int), y ∈ stuffL r l → y = 0 ∨ y ∈ l
  | x :: t, y, h => by
    simp only [stuffL, List.mem_cons, List.mem_append, List.mem_replicate] at h
    rcases h with h | h | h
    · exact .inr (by simp [h])
    · exact .inl h.2
    · rcases stuffL_mem r t y h with h | h
      · exact .inl h
      · exact .inr (by simp [h])

-- spec_cbStuff
theorem spec_cbStuff.l1_ev (l : List Int) (r : Nat) (hr : r ≤ 8) (n i : Int) (v : List Int) : ∀ (d j : Nat) (o : List Int), j + d = r → o.length + d ≤ 1000000 →
    Ev (fun k => spec_cbStuff.l0 k (r : Int) (o ++ List.replicate d 0) l n (wrap64 (i + 1))) v → Ev (fun k => spec_cbStuff.l1 k (r : Int) o (j : Int) l n i) v := by
  intro d
  induction d with
  | zero =>
    intro j o hj ho h
    refine Ev.step (fun k => ?_) h
    simp only [spec_cbStuff.l1]
    rw [if_neg (by omega)]
    simp
  | succ d ih =>
    intro j o hj ho h
    refine Ev.step (fun k => ?_) (ih (j + 1) (o ++ [0]) (by omega) (by rw [List.length_append, List.length_singleton]; omega) (by rw [List.append_assoc]; exact h))
    simp only [spec_cbStuff.l1]
    rw [if_pos (by omega), if_pos (by omega), aid_next (by omega)]
theorem spec_cbStuff.l0_ev (l : List Int) (r : Nat) (h1 : 1 ≤ r) (hr : r ≤ 8) (hl : l.length ≤ 100000) : ∀ (d i : Nat) (o : List Int), i + d = l.length → o.length ≤ 8 * i →
    Ev (fun k => spec_cbStuff.l0 k (r : Int) o l (l.length : Int) (i : Int)) (o ++ stuffL r (l.drop i)) := by
  intro d
  induction d with
  | zero =>
    intro i o hi ho
    refine Ev.step (f := fun _ => some o) (fun k => ?_) (by rw [List.drop_eq_nil_of_le (by omega)]; simpa [stuffL] using Ev.now o)
    simp only [spec_cbStuff.l0]
    rw [if_neg (by omega)]
  | succ d ih =>
    intro i o hi ho
    have hi' : i < l.length := by omega
    have hz := ih (i + 1) ((o ++ [l[i]]) ++ List.replicate (r - 1) 0) (by omega) (by rw [List.length_append, List.length_append, List.length_singleton, List.length_replicate]; omega)
    have e : o ++ stuffL r (l.drop i) = ((o ++ [l[i]]) ++ List.replicate (r - 1) 0) ++ stuffL r (l.drop (i + 1)) := by
      rw [List.drop_eq_getElem_cons hi', stuffL]
      simp
    rw [e]
    refine Ev.step (fun k => ?_) (spec_cbStuff.l1_ev l r hr (l.length : Int) (i : Int) _ (r - 1) 1 (o ++ [l[i]]) (by omega) (by rw [List.length_append, List.length_singleton]; omega) (by rw [aid_next (by omega)]; exact hz))
    simp only [spec_cbStuff.l0]
    rw [if_pos (by omega), if_pos (by omega), if_pos (by omega), if_pos (by omega), aid_rd l i hi']
    rfl
theorem spec_cbStuff.ev (l : List Int) (r : Nat) (h1 : 1 ≤ r) (hr : r ≤ 8) (hl : l.length ≤ 100000) : Ev (fun k => spec_cbStuff.f k l (r : Int)) (stuffL r l) := by
  have h := spec_cbStuff.l0_ev l r h1 hr hl l.length 0 [] (by omega) (by simp)
  unfold spec_cbStuff.f
  simpa using h

-- spec_wdIf
theorem spec_wdIf.ev (l : List Int) : Ev (fun k => spec_wdIf.f k l) (toldP l) := by
  unfold spec_wdIf.f toldP
  refine Ev.bind (spec_wdSignal.ev l) ?_
  cases sigB l <;> exact Ev.now _

-- impl_in
theorem impl_in.eq (a lo hi : Int) : impl_in.f a lo hi = some (decide (lo ≤ a ∧ a ≤ hi)) := by
  unfold impl_in.f
  by_cases h : lo ≤ a <;> simp [h]

-- impl_isComb
theorem impl_isComb.eq (s r : Int) : impl_isComb.f s r = some (decide ((1 ≤ s ∧ s ≤ 4) ∧ (1 ≤ r ∧ r ≤ 8))) := by
  unfold impl_isComb.f
  rw [impl_in.eq, impl_in.eq]
  by_cases h : 1 ≤ s ∧ s ≤ 4 <;> simp [h]

-- impl_isSignal
theorem impl_isSignal.eq (l : List Int) : impl_isSignal.f l = some (sigB l) := by
  unfold impl_isSignal.f sigB
  have e1 : decide ((l.length : Int) ≤ 64) = decide (l.length ≤ 64) := by
    rw [Bool.eq_iff_iff]; simp; omega
  have e2 : (!(l.any fun x => !(decide (-100000 ≤ x) && decide (x ≤ 100000)))) = l.all fun x => decide (-100000 ≤ x ∧ x ≤ 100000) := by
    rw [List.not_any_eq_all_not]
    congr 1
    funext x
    rw [Bool.eq_iff_iff]
    simp
  rw [e1, e2]

-- impl_stuff
theorem impl_stuff.l0_ev (l : List Int) (r : Nat) (h1 : 1 ≤ r) (hr : r ≤ 8) (hl : l.length ≤ 100000) : ∀ (d i : Nat) (o : List Int), i + d = l.length → o.length = i * r →
    Ev (fun k => impl_stuff.l0 k (r : Int) (o ++ List.replicate (d * r) 0) l (l.length : Int) (i : Int)) (o ++ stuffL r (l.drop i)) := by
  intro d
  induction d with
  | zero =>
    intro i o hi ho
    rw [List.drop_eq_nil_of_le (by omega)]
    refine Ev.step (f := fun _ => some (o ++ stuffL r [])) (fun k => ?_) (Ev.now _)
    simp only [impl_stuff.l0]
    rw [if_neg (by omega)]
    simp [stuffL]
  | succ d ih =>
    intro i o hi ho
    have hi' : i < l.length := by omega
    have hb : i * r ≤ 100000 * 8 := Nat.mul_le_mul (by omega) hr
    have e1 : (d + 1) * r = r + d * r := by rw [Nat.add_mul]; omega
    have e2 : List.replicate ((d + 1) * r) (0 : Int) = 0 :: (List.replicate (r - 1) 0 ++ List.replicate (d * r) 0) := by
      rw [e1, show r + d * r = (r - 1 + d * r) + 1 by omega, List.replicate_succ, List.replicate_append_replicate]
    have hset : (o ++ List.replicate ((d + 1) * r) 0).set (i * r) l[i] = ((o ++ [l[i]]) ++ List.replicate (r - 1) 0) ++ List.replicate (d * r) 0 := by
      rw [List.set_append_right _ _ (by omega), ho, Nat.sub_self, e2]
      simp
    have hz := ih (i + 1) ((o ++ [l[i]]) ++ List.replicate (r - 1) 0) (by omega) (by rw [List.length_append, List.length_append, List.length_singleton, List.length_replicate, ho, Nat.add_mul]; omega)
    have e : o ++ stuffL r (l.drop i) = ((o ++ [l[i]]) ++ List.replicate (r - 1) 0) ++ stuffL r (l.drop (i + 1)) := by
      rw [List.drop_eq_getElem_cons hi', stuffL]
      simp
    have hlen : (o ++ List.replicate ((d + 1) * r) 0).length = i * r + (r + d * r) := by rw [List.length_append, List.length_replicate, ho, e1]
    rw [e]
    refine Ev.step (fun k => ?_) hz
    simp only [impl_stuff.l0]
    rw [if_pos (by omega), if_pos (by omega), if_pos (by omega), ← Int.natCast_mul, aid_wr (by omega) (by omega), if_pos (by omega), if_pos (by rw [hlen]; omega), Int.toNat_natCast, aid_rd l i hi', hset, aid_next (by omega)]
theorem impl_stuff.ev (l : List Int) (r : Nat) (h1 : 1 ≤ r) (hr : r ≤ 8) (hl : l.length ≤ 100000) : Ev (fun k => impl_stuff.f k l (r : Int)) (stuffL r l) := by
  have h := impl_stuff.l0_ev l r h1 hr hl l.length 0 [] (by omega) (by simp)
  have hb : l.length * r ≤ 100000 * 8 := Nat.mul_le_mul hl hr
  unfold impl_stuff.f
  refine Ev.congr (fun k => ?_) (by simpa using h)
  rw [← Int.natCast_mul, aid_wr (by omega) (by omega), if_pos (by omega), if_pos (by omega), Int.toNat_natCast]

-- impl_told
theorem impl_told.eq (l : List Int) : impl_told.f l = some (toldP l) := by
  unfold impl_told.f toldP
  rw [impl_isSignal.eq]
  cases sigB l <;> rfl

-- impl_isRate
theorem impl_isRate.eq (x : Int) : impl_isRate.f x = some (decide (1 ≤ x ∧ x ≤ 8)) := by
  unfold impl_isRate.f
  rw [impl_in.eq]
  rfl

-- AnswerBoth
theorem answer_same : ∀ k : Nat, (∀ a b c d e, impl_answer.l0 k a b c d e = spec_weAnswer.l0 k a b c d e) ∧ (∀ a b i v c d e f g h, impl_answer.l1 k a b i v c d e f g h = spec_weAnswer.l1 k a b i v c d e f g h) := by
  intro k
  induction k with
  | zero => exact ⟨fun _ _ _ _ _ => rfl, fun _ _ _ _ _ _ _ _ _ _ => rfl⟩
  | succ k ih =>
    refine ⟨?_, ?_⟩
    · intros
      simp only [impl_answer.l0, spec_weAnswer.l0, ih.2]
    · intro a b i v c d e f g h
      simp only [impl_answer.l1, spec_weAnswer.l1, ih.1, ih.2, Int.add_comm h i]
theorem answer_l1 (a c : List Int) (ha : a.length ≤ 1000000) (hc : c.length ≤ 1000000) (i : Nat) (v : Int) (hi : i < c.length) (r : List Int → Prop) : ∀ (d j : Nat) (b : List Int), j + d = a.length → b.length + 1 = c.length + a.length →
    ∃ b' : List Int, b'.length + 1 = c.length + a.length ∧ ∀ w, Ev (fun k => spec_weAnswer.l0 k a b' c (c.length : Int) ((i + 1 : Nat) : Int)) w → Ev (fun k => spec_weAnswer.l1 k a b (i : Int) v c (c.length : Int) (i : Int) a (a.length : Int) (j : Int)) w := by
  intro d
  induction d with
  | zero =>
    intro j b hj hb
    refine ⟨b, hb, fun w hw => aid_ev_succ ?_⟩
    simp only [spec_weAnswer.l1]
    refine Ev.congr (fun k => if_neg (by omega)) ?_
    rw [aid_next (by omega)]
    exact hw
  | succ d ih =>
    intro j b hj hb
    obtain ⟨b', h1, h2⟩ := ih (j + 1) (b.set (i + j) (wrap64 (rd b ((i + j : Nat) : Int) + wrap64 (v * rd a (j : Int))))) (by omega) (by rw [List.length_set]; exact hb)
    refine ⟨b', h1, fun w hw => aid_ev_succ ?_⟩
    have e : wrap64 ((i : Int) + (j : Int)) = ((i + j : Nat) : Int) := by
      rw [aid_wr (by omega) (by omega)]
      omega
    simp only [spec_weAnswer.l1, e, Int.toNat_natCast]
    refine Ev.congr (fun k => if_pos (by omega)) ?_
    refine Ev.congr (fun k => if_pos (by omega)) ?_
    refine Ev.congr (fun k => if_pos (by omega)) ?_
    refine Ev.congr (fun k => if_pos (by omega)) ?_
    refine Ev.congr (fun k => if_pos (by omega)) ?_
    rw [aid_next (by omega)]
    exact h2 w hw
theorem answer_l0 (a c : List Int) (ha : a.length ≤ 1000000) (hc : c.length ≤ 1000000) : ∀ (d i : Nat) (b : List Int), i + d = c.length → b.length + 1 = c.length + a.length →
    ∃ w : List Int, w.length + 1 = c.length + a.length ∧ Ev (fun k => spec_weAnswer.l0 k a b c (c.length : Int) (i : Int)) w := by
  intro d
  induction d with
  | zero =>
    intro i b hi hb
    refine ⟨b, hb, aid_ev_succ ?_⟩
    simp only [spec_weAnswer.l0]
    exact Ev.congr (fun k => if_neg (by omega)) (Ev.now _)
  | succ d ih =>
    intro i b hi hb
    obtain ⟨b', h1, h2⟩ := answer_l1 a c ha hc i (rd c (i : Int)) (by omega) (fun _ => True) a.length 0 b (by omega) hb
    obtain ⟨w, hw1, hw2⟩ := ih (i + 1) b' (by omega) h1
    refine ⟨w, hw1, aid_ev_succ ?_⟩
    simp only [spec_weAnswer.l0]
    refine Ev.congr (fun k => if_pos (by omega)) ?_
    refine Ev.congr (fun k => if_pos (by omega)) ?_
    refine Ev.congr (fun k => if_pos (by omega)) ?_
    exact h2 w hw2
theorem answer_both (c a : List Int) (hc : c.length ≤ 1000000) (ha : a.length ≤ 1000000) (hc0 : 1 ≤ c.length) :
    ∃ w : List Int, Ev (fun k => spec_weAnswer.f k c a) w ∧ Ev (fun k => impl_answer.f k c a) w ∧ a.length ≤ w.length ∧ w.length ≤ 2000000 := by
  by_cases h0 : a.length = 0
  · refine ⟨[], ?_, ?_, by omega, by simp⟩
    · unfold spec_weAnswer.f
      exact Ev.congr (fun k => if_pos (by omega)) (Ev.now _)
    · unfold impl_answer.f
      exact Ev.congr (fun k => if_pos (by omega)) (Ev.now _)
  · have e : wrap64 (wrap64 ((c.length : Int) + (a.length : Int)) - 1) = ((c.length + a.length - 1 : Nat) : Int) := by
      rw [aid_wr (x := (c.length : Int) + (a.length : Int)) (by omega) (by omega), aid_wr (by omega) (by omega)]
      omega
    obtain ⟨w, h1, h2⟩ := answer_l0 a c ha hc c.length 0 (List.replicate (c.length + a.length - 1) 0) (by omega) (by rw [List.length_replicate]; omega)
    have E := Aside0.mk e
    clear e
    refine ⟨w, ?_, ?_, by omega, by omega⟩
    · unfold spec_weAnswer.f
      rw [E.out]
      refine Ev.congr (fun k => if_neg (by omega)) ?_
      refine Ev.congr (fun k => if_pos (by omega)) ?_
      refine Ev.congr (fun k => if_pos (by omega)) ?_
      rw [Int.toNat_natCast]
      exact h2
    · unfold impl_answer.f
      rw [E.out]
      refine Ev.congr (fun k => if_neg (by omega)) ?_
      refine Ev.congr (fun k => if_pos (by omega)) ?_
      refine Ev.congr (fun k => if_pos (by omega)) ?_
      rw [Int.toNat_natCast]
      exact Ev.congr (fun k => (answer_same k).1 _ _ _ _ _) h2

-- Combos
theorem aid_four {s : Int} (h : 1 ≤ s ∧ s ≤ 4) : s ∈ [(1 : Int), 2, 3, 4] := by
  have : s = 1 ∨ s = 2 ∨ s = 3 ∨ s = 4 := by omega
  rcases this with h | h | h | h <;> simp [h]
theorem aid_eight {s : Int} (h : 1 ≤ s ∧ s ≤ 8) : s ∈ [(1 : Int), 2, 3, 4, 5, 6, 7, 8] := by
  have : s = 1 ∨ s = 2 ∨ s = 3 ∨ s = 4 ∨ s = 5 ∨ s = 6 ∨ s = 7 ∨ s = 8 := by omega
  rcases this with h | h | h | h | h | h | h | h <;> simp [h]

-- CombBoth
theorem comb_all : ∀ s ∈ [(1 : Int), 2, 3, 4], ∀ r ∈ [(1 : Int), 2, 3, 4, 5, 6, 7, 8], (spec_cbBox.f 1000 s r).isSome = true ∧ impl_comb.f 1000 s r = spec_cbBox.f 1000 s r ∧ 1 ≤ ((spec_cbBox.f 1000 s r).getD []).length ∧ ((spec_cbBox.f 1000 s r).getD []).length ≤ 29 := by decide +kernel
theorem comb_both (s r : Int) (hs : 1 ≤ s ∧ s ≤ 4) (hr : 1 ≤ r ∧ r ≤ 8) : ∃ c : List Int, Ev (fun k => spec_cbBox.f k s r) c ∧ Ev (fun k => impl_comb.f k s r) c ∧ 1 ≤ c.length ∧ c.length ≤ 29 := by
  obtain ⟨h1, h2, h3, h4⟩ := comb_all s (aid_four hs) r (aid_eight hr)
  cases hc : spec_cbBox.f 1000 s r with
  | none => rw [hc] at h1; cases h1
  | some c =>
    rw [hc] at h2 h3 h4
    exact ⟨c, Ev.of (spec_cbBox.mono s r) hc, Ev.of (impl_comb.mono s r) h2, h3, h4⟩

theorem erise_stuff (l : List Int) (r : Int) (hr : 1 ≤ r ∧ r ≤ 8) : Ev (fun k => impl_StuffZeros.f k l r) (if sigB l = true then toldP (stuffL r.toNat l) else ([], false)) := by
  unfold impl_StuffZeros.f
  rw [impl_isSignal.eq, impl_isRate.eq]
  cases hB : sigB l with
  | false =>
    rw [if_neg (by decide)]
    refine Ev.congr (fun k => rfl) (f := fun k => impl_StuffZeros.j0 k l r true) (aid_ev_succ ?_)
    simp only [impl_StuffZeros.j0, if_true]
    exact Ev.now _
  | true =>
    rw [if_pos rfl]
    have hl := ((sigB_iff l).1 hB).1
    obtain ⟨q, rfl⟩ := Int.eq_ofNat_of_zero_le (show 0 ≤ r by omega)
    simp only [hr, and_self, decide_true, Option.bind_some, if_true, Bool.not_true, Int.toNat_natCast]
    refine aid_ev_succ ?_
    simp only [impl_StuffZeros.j0, Bool.false_eq_true, if_false]
    refine Ev.bind (impl_stuff.ev l q (by omega) (by omega) (by omega)) ?_
    rw [impl_told.eq]
    exact Ev.now _
theorem erise_both (l : List Int) (s r : Int) : ∃ (w : List Int) (b : Bool), Ev (fun k => spec_ExactRise.f k l s r) (w, b) ∧ Ev (fun k => impl_ExactRise.f k l s r) (w, b) ∧ w.length ≤ 64 := by
  unfold spec_ExactRise.f impl_ExactRise.f
  rw [impl_isComb.eq]
  have hG := spec_cbGood.ev l s r
  by_cases h : (1 ≤ s ∧ s ≤ 4) ∧ (1 ≤ r ∧ r ≤ 8)
  · rw [decide_eq_true h] at hG ⊢
    rw [Bool.and_true] at hG
    have hz := erise_stuff l r h.2
    obtain ⟨c, hc1, hc2, hc3, hc4⟩ := comb_both s r h.1 h.2
    cases hB : sigB l with
    | false =>
      rw [hB] at hG hz
      rw [if_neg (by decide)] at hz
      exact ⟨[], false, Ev.bind hG (Ev.now _), Ev.bind (a := true) (Ev.now _) (Ev.congr (fun k => if_pos rfl) (Ev.bind hz (Ev.now _))), by simp⟩
    | true =>
      rw [hB] at hG hz
      rw [if_pos rfl] at hz
      obtain ⟨q, rfl⟩ := Int.eq_ofNat_of_zero_le (show 0 ≤ r by omega)
      rw [Int.toNat_natCast] at hz
      have hl := ((sigB_iff l).1 hB).1
      have hS := spec_cbStuff.ev l q (by omega) (by omega) (by omega)
      have hW := spec_wdIf.ev (stuffL q l)
      generalize stuffL q l = z at hz hS hW
      cases hq : sigB z with
      | false =>
        have ht : toldP z = ([], false) := by
          unfold toldP
          rw [hq]
          rfl
        rw [ht] at hz hW
        refine ⟨[], false, Ev.bind hG (Ev.congr (fun k => if_pos rfl) (Ev.bind hS (Ev.bind hW (Ev.now _)))), Ev.bind (a := true) (Ev.now _) (Ev.congr (fun k => if_pos rfl) (Ev.bind hz (Ev.now _))), by simp⟩
      | true =>
        have ht : toldP z = (z, true) := by
          unfold toldP
          rw [hq]
          rfl
        rw [ht] at hz hW
        have hzl := ((sigB_iff z).1 hq).1
        obtain ⟨w, hw1, hw2, hw3, hw4⟩ := answer_both c z (by omega) (by omega) hc3
        have htl : (w.take z.length).length ≤ 64 := by
          rw [List.length_take]
          omega
        refine ⟨(toldP (w.take z.length)).1, (toldP (w.take z.length)).2, Ev.bind hG (Ev.congr (fun k => if_pos rfl) (Ev.bind hS (Ev.bind hW (Ev.congr (fun k => if_pos rfl) ?_)))), Ev.bind (a := true) (Ev.now _) (Ev.congr (fun k => if_pos rfl) (Ev.bind hz (Ev.congr (fun k => if_pos rfl) ?_))), toldP_len _⟩
        · refine Ev.bind hc1 ?_
          refine Ev.bind hw1 ?_
          dsimp only
          refine Ev.congr (fun k => if_pos (by omega)) ?_
          refine Ev.congr (fun k => if_pos (by omega)) ?_
          rw [Int.toNat_natCast, spec_l1Own.eq _ (by omega)]
          exact aid_ev_bind (spec_wdIf.ev _) rfl
        · refine Ev.bind hc2 ?_
          refine Ev.bind hw2 ?_
          dsimp only
          refine Ev.congr (fun k => if_pos (by omega)) ?_
          refine Ev.congr (fun k => if_pos (by omega)) ?_
          rw [Int.toNat_natCast, impl_told.eq]
          exact Ev.now _
  · rw [decide_eq_false h] at hG ⊢
    rw [Bool.and_false] at hG
    exact ⟨[], false, Ev.bind hG (Ev.now _), Ev.now _, by simp⟩
theorem FnExactExactRise : laws_FnExactExactRise.Pure := by
  intro l s r _ h8 _ _ _
  refine Ev.rounds ?_
  unfold laws_FnExactExactRise.f
  by_cases hb : (l.length : Int) > 1048576
  · exact Ev.congr (fun k => if_pos hb) (Ev.now _)
  refine Ev.congr (fun k => if_neg hb) ?_
  have hT := laws_toIntS.ev l h8
  obtain ⟨w, b, hs, hi, hw⟩ := erise_both l s r
  try dsimp only at hw
  have hE := laws_eqIntS.refl w (by omega)
  have hEl := laws_eqIntS.refl l (by omega)
  have hM := laws_markIntS.ev w 1 (by omega) (by omega) (by omega)
  have hMl := laws_markIntS.ev l 1 (by omega) (by omega) (by omega)
  have hH := laws_heldIntS.ev w.length 1 (by omega) (by omega) (by omega)
  have hNb : ¬ ((b != b) = true) := by cases b <;> decide
  have hN1 : ¬ (1 + (w.length : Int) < 0) := by omega
  have hN2 : ¬ (1 + (l.length : Int) < 0) := by omega
  repeat (first
    | exact Ev.now _
    | ((with_reducible refine Ev.bind hT ?_); try dsimp only)
    | ((with_reducible refine Ev.bind hs ?_); try dsimp only)
    | ((with_reducible refine Ev.bind hi ?_); try dsimp only)
    | ((with_reducible refine Ev.bind hE ?_); try dsimp only)
    | ((with_reducible refine Ev.bind hEl ?_); try dsimp only)
    | ((with_reducible refine Ev.bind hM ?_); try dsimp only)
    | ((with_reducible refine Ev.bind hMl ?_); try dsimp only)
    | ((with_reducible refine Ev.bind hH ?_); try dsimp only)
    | (with_reducible refine Ev.congr (fun k => if_pos rfl) ?_)
    | (with_reducible refine Ev.congr (fun k => if_neg hNb) ?_)
    | (with_reducible refine Ev.congr (fun k => if_neg hN1) ?_)
    | (with_reducible refine Ev.congr (fun k => if_neg hN2) ?_)
    | (refine aid_ev_succ ?_; simp only [laws_FnExactExactRise.j0, laws_FnExactExactRise.j1, laws_FnExactExactRise.j2]; try dsimp only))

end Go.Proofs.Ytlmlehfgdmhbmaa.Pure
