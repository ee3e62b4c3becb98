/- Proves that the program's TwoStates returns what the reference's returns, for all arguments. Conditions: none. -/
import Derived.Test.YtlmlehfgdmhbmaaPFnExactTwoStatesx3
namespace Go.Proofs.Ytlmlehfgdmhbmaa.Pure
open Go.RowKit Go.Proofs.Ytlmlehfgdmhbmaa.PFnExactTwoStates Go.Proofs.YtlmlehfgdmhbmaaW.PrintWords Go.Proofs.YtlmlehfgdmhbmaaW.PrintLast
set_option linter.unusedSimpArgs false
set_option linter.unusedVariables false

-- Aid
theorem aid_wr {x : Int} (h0 : -9223372036854775808 ≤ x) (h1 : x ≤ 9223372036854775807) : wrap64 x = x := by unfold wrap64; omega
theorem aid_wf {x : Int} (h : (Lit.int .i64 x).wf = true) : -9223372036854775808 ≤ x ∧ x ≤ 9223372036854775807 := by
  have hmin : IntKind.i64.min = -9223372036854775808 := rfl
  have hmax : IntKind.i64.max = 9223372036854775807 := rfl
  simp only [Lit.wf, Bool.and_eq_true, decide_eq_true_eq, hmin, hmax] at h
  exact h
theorem aid_ev_bind {α β : Type} {g : Nat → Option α} {f : α → Option β} {a : α} {r : β} (h : Ev g a) (k : f a = some r) : Ev (fun n => (g n).bind f) r :=
  Ev.bind (f := fun _ => f) h ⟨0, fun _ _ => k⟩
theorem aid_ev_const {α : Type} {o : Option α} {r : α} (h : o = some r) : Ev (fun _ => o) r := ⟨0, fun _ _ => h⟩
theorem aid_tdiv {a b : Int} (ha : 0 ≤ a) : Int.tdiv a b = a / b := Int.tdiv_eq_ediv_of_nonneg ha
theorem aid_tmod {a b : Int} (ha : 0 ≤ a) : Int.tmod a b = a % b := Int.tmod_eq_emod_of_nonneg ha
theorem aid_next {i : Nat} (h : i ≤ 9223372036854775806) : wrap64 ((i : Int) + 1) = ((i + 1 : Nat) : Int) := by rw [aid_wr (by omega) (by omega)]; rfl
theorem aid_rd (l : List Int) (i : Nat) (h : i < l.length) : rd l (i : Int) = l[i] := by
  unfold rd
  rw [List.getD_eq_getElem?_getD, Int.toNat_natCast, List.getElem?_eq_getElem h]
  rfl
theorem aid_ev_succ {α : Type} {g : Nat → Option α} {r : α} (h : Ev (fun k => g (k + 1)) r) : Ev g r := Ev.step (fun _ => rfl) h

-- laws_toIntS
theorem aid_fill (l : List Int) (i d : Nat) (h : i + (d + 1) = l.length) : (l.take i ++ List.replicate (d + 1) 0).set i (rd l i) = l.take (i + 1) ++ List.replicate d 0 := by
  have hi' : i < l.length := by omega
  have hlen : (l.take i).length = i := by rw [List.length_take]; omega
  rw [List.set_append_right _ _ (by omega), hlen, Nat.sub_self, aid_rd l i hi', List.take_succ_eq_append_getElem hi', List.append_assoc]
  rfl
theorem laws_toIntS.l0_ev (l : List Int) (hl : l.length ≤ 1000000000000000) : ∀ (d i : Nat), i + d = l.length → Ev (fun k => laws_toIntS.l0 k l (l.take i ++ List.replicate d 0) (i : Int)) l := by
  intro d
  induction d with
  | zero =>
    intro i h
    refine Ev.step (fun k => ?_) (Ev.now _)
    simp only [laws_toIntS.l0]
    rw [if_neg (by omega), List.take_of_length_le (by omega)]
    simp
  | succ d ih =>
    intro i h
    refine Ev.step (fun k => ?_) (ih (i + 1) (by omega))
    have hlen : (l.take i ++ List.replicate (d + 1) 0).length = l.length := by
      rw [List.length_append, List.length_take, List.length_replicate]; omega
    simp only [laws_toIntS.l0]
    rw [if_pos (by omega), if_pos (by omega), if_pos (by rw [hlen]; omega), aid_next (by omega), Int.toNat_natCast, aid_fill l i d h]
theorem laws_toIntS.ev (l : List Int) (hl : l.length * 8 ≤ 140737488351232) : Ev (fun k => laws_toIntS.f k l) l := by
  unfold laws_toIntS.f
  have h := laws_toIntS.l0_ev l (by omega) l.length 0 (by omega)
  refine Ev.congr (fun k => ?_) h
  rw [if_pos (by omega), if_pos (by omega)]
  simp

-- laws_eqIntS
theorem laws_eqIntS.l0_refl (l : List Int) (hl : l.length ≤ 1000000000000000) : ∀ (d i : Nat), i + d = l.length → Ev (fun k => laws_eqIntS.l0 k l l (i : Int)) true := by
  intro d
  induction d with
  | zero =>
    intro i h
    refine Ev.step (fun k => ?_) (Ev.now _)
    simp only [laws_eqIntS.l0]
    rw [if_neg (by omega)]
  | succ d ih =>
    intro i h
    refine Ev.step (fun k => ?_) (ih (i + 1) (by omega))
    simp only [laws_eqIntS.l0]
    rw [if_pos (by omega), if_pos (by omega), if_pos (by omega), if_pos trivial, aid_next (by omega)]
theorem laws_eqIntS.refl (l : List Int) (hl : l.length ≤ 1000000000000000) : Ev (fun k => laws_eqIntS.f k l l) true := by
  unfold laws_eqIntS.f
  exact Ev.congr (fun k => if_pos rfl) (laws_eqIntS.l0_refl l hl l.length 0 (by omega))

-- Mark
def marksL : Nat → Int → List Int
  | 0, _ => []
  | n + 1, a => marksL n a ++ [a + (n : Int)]
theorem marksL_length (a : Int) : ∀ n, (marksL n a).length = n
  | 0 => rfl
  | n + 1 => by rw [marksL, List.length_append, marksL_length a n]; rfl
theorem marksL_get (a : Int) : ∀ (n i : Nat) (h : i < (marksL n a).length), (marksL n a)[i] = a + (i : Int)
  | n + 1, i, h => by
    have hl := marksL_length a n
    have hl' := marksL_length a (n + 1)
    simp only [marksL]
    by_cases hi : i < n
    · rw [List.getElem_append_left (by omega)]
      exact marksL_get a n i (by omega)
    · have e : i = n := by omega
      subst e
      rw [List.getElem_append_right (by omega)]
      simp

-- laws_markIntS
theorem laws_markIntS.l0_ev (l : List Int) (a : Int) (hl : l.length ≤ 1000000000000000) (h0 : 0 ≤ a) (h1 : a ≤ 1000000000000000) : ∀ (d i : Nat), i + d = l.length → Ev (fun k => laws_markIntS.l0 k (marksL i a ++ l.drop i) (a + (i : Int)) (i : Int)) (a + (l.length : Int), marksL l.length a) := by
  intro d
  induction d with
  | zero =>
    intro i h
    have hlen : (marksL i a ++ l.drop i).length = l.length := by rw [List.length_append, marksL_length, List.length_drop]; omega
    refine Ev.step (f := fun _ => some (a + (l.length : Int), marksL l.length a)) (fun k => ?_) (Ev.now _)
    simp only [laws_markIntS.l0]
    rw [if_neg (by rw [hlen]; omega), List.drop_eq_nil_of_le (by omega), List.append_nil]
    obtain rfl : i = l.length := by omega
    rfl
  | succ d ih =>
    intro i h
    have hi' : i < l.length := by omega
    have hlen : (marksL i a ++ l.drop i).length = l.length := by rw [List.length_append, marksL_length, List.length_drop]; omega
    refine Ev.step (fun k => ?_) (ih (i + 1) (by omega))
    simp only [laws_markIntS.l0]
    have hset : (marksL i a ++ l.drop i).set i (a + (i : Int)) = marksL (i + 1) a ++ l.drop (i + 1) := by
      rw [List.set_append_right _ _ (by rw [marksL_length]; omega), marksL_length, Nat.sub_self, List.drop_eq_getElem_cons hi', marksL, List.append_assoc]
      rfl
    rw [if_pos (by rw [hlen]; omega), if_pos (by omega), Int.toNat_natCast, hset, aid_next (by omega), aid_wr (x := a + (i : Int) + 1) (by omega) (by omega)]
    rw [show a + (i : Int) + 1 = a + ((i + 1 : Nat) : Int) by omega]
theorem laws_markIntS.ev (l : List Int) (a : Int) (hl : l.length ≤ 1000000000000000) (h0 : 0 ≤ a) (h1 : a ≤ 1000000000000000) : Ev (fun k => laws_markIntS.f k l a) (a + (l.length : Int), marksL l.length a) := by
  have h := laws_markIntS.l0_ev l a hl h0 h1 l.length 0 (by omega)
  simp only [marksL, List.nil_append, List.drop_zero] at h
  unfold laws_markIntS.f
  simpa using h

-- spec_l1In
theorem spec_l1In.eq (a lo hi : Int) : spec_l1In.f a lo hi = some (decide (lo ≤ a ∧ a ≤ hi)) := by
  unfold spec_l1In.f
  by_cases h : lo ≤ a <;> simp [h]

-- spec_dmScale
theorem spec_dmScale.eq (m : Int) : spec_dmScale.f m = some (decide (1 ≤ m ∧ m ≤ 1000)) := by
  unfold spec_dmScale.f
  rw [spec_l1In.eq]
  rfl

-- spec_l1All
theorem spec_l1All.l0_ev (lo hi : Int) (l : List Int) (hl : l.length ≤ 1000000000000000) : ∀ (d i : Nat), i + d = l.length → Ev (fun k => spec_l1All.l0 k lo hi l (l.length : Int) (i : Int)) ((l.drop i).all fun x => decide (lo ≤ x ∧ x ≤ hi)) := by
  intro d
  induction d with
  | zero =>
    intro i h
    rw [List.drop_eq_nil_of_le (by omega)]
    refine Ev.step (fun k => ?_) (Ev.now _)
    simp only [spec_l1All.l0]
    rw [if_neg (by omega)]
    rfl
  | succ d ih =>
    intro i h
    have hi' : i < l.length := by omega
    rw [List.drop_eq_getElem_cons hi', List.all_cons, ← aid_rd l i hi']
    by_cases hc : lo ≤ rd l i ∧ rd l i ≤ hi
    · refine Ev.step (fun k => ?_) (by simpa [hc] using ih (i + 1) (by omega))
      simp only [spec_l1All.l0]
      rw [if_pos (by omega), if_pos (by omega), if_pos (by omega), spec_l1In.eq, aid_next (by omega)]
      simp [hc]
    · refine Ev.step (f := fun _ => some false) (fun k => ?_) (by simpa [hc] using Ev.now false)
      simp only [spec_l1All.l0]
      rw [if_pos (by omega), if_pos (by omega), if_pos (by omega), spec_l1In.eq]
      simp [hc]
theorem spec_l1All.ev (lo hi : Int) (l : List Int) (hl : l.length ≤ 1000000000000000) : Ev (fun k => spec_l1All.f k l lo hi) (l.all fun x => decide (lo ≤ x ∧ x ≤ hi)) :=
  spec_l1All.l0_ev lo hi l hl l.length 0 (by omega)

-- Sig
def sigB (l : List Int) : Bool := decide (l.length ≤ 64) && l.all fun x => decide (-100000 ≤ x ∧ x ≤ 100000)
theorem sigB_iff (l : List Int) : sigB l = true ↔ l.length ≤ 64 ∧ ∀ x ∈ l, -100000 ≤ x ∧ x ≤ 100000 := by
  simp [sigB]
def toldP (l : List Int) : List Int × Bool := if sigB l then (l, true) else ([], false)
theorem toldP_len (l : List Int) : (toldP l).1.length ≤ 64 := by
  unfold toldP
  cases h : sigB l with
  | true => simpa using ((sigB_iff l).1 h).1
  | false => simp

-- spec_wdSignal
theorem spec_wdSignal.ev (l : List Int) : Ev (fun k => spec_wdSignal.f k l) (sigB l) := by
  unfold spec_wdSignal.f sigB
  by_cases h : l.length ≤ 64
  · have e := spec_l1All.ev (-100000) 100000 l (by omega)
    simp only [h, decide_true, Bool.true_and]
    refine Ev.congr (fun k => if_pos (by omega)) (aid_ev_bind e rfl)
  · simp only [h, decide_false, Bool.false_and]
    refine Ev.congr (fun k => if_neg (by omega)) (Ev.now _)

-- spec_l1Most
theorem spec_l1Most.eq (a b : Int) : spec_l1Most.f a b = some (max a b) := by
  unfold spec_l1Most.f
  split <;> simp <;> omega

-- spec_l1Abs
theorem spec_l1Abs.eq {x : Int} (h : -9223372036854775807 ≤ x) (h' : x ≤ 9223372036854775807) : spec_l1Abs.f x = some (x.natAbs : Int) := by
  unfold spec_l1Abs.f
  rw [aid_wr (by omega) (by omega), spec_l1Most.eq]
  simp
  omega

-- Peak
def peakL : List Int → Int → Int
  | [], a => a
  | x :: r, a => peakL r (max a (x.natAbs : Int))
theorem peakL_le : ∀ (l : List Int) (a b : Int), a ≤ b → (∀ x ∈ l, (x.natAbs : Int) ≤ b) → peakL l a ≤ b
  | [], _, _, h, _ => h
  | x :: r, a, b, h, hl => peakL_le r _ b (by have := hl x (by simp); omega) (fun y hy => hl y (by simp [hy]))
theorem peakL_ge : ∀ (l : List Int) (a : Int), a ≤ peakL l a
  | [], _ => Int.le_refl _
  | x :: r, a => Int.le_trans (by omega) (peakL_ge r (max a (x.natAbs : Int)))
theorem peakL_all : ∀ (l : List Int) (a : Int), ∀ x ∈ l, (x.natAbs : Int) ≤ peakL l a
  | y :: r, a, x, h => by
    rcases List.mem_cons.1 h with h | h
    · subst h
      exact Int.le_trans (by omega) (peakL_ge r (max a (x.natAbs : Int)))
    · exact peakL_all r _ x h

-- spec_wdPeak
theorem spec_wdPeak.l0_ev (l : List Int) (hl : l.length ≤ 1000000000000000) (hb : ∀ x ∈ l, -9223372036854775807 ≤ x ∧ x ≤ 9223372036854775807) : ∀ (d i : Nat) (a : Int), i + d = l.length → Ev (fun k => spec_wdPeak.l0 k a l (l.length : Int) (i : Int)) (peakL (l.drop i) a) := by
  intro d
  induction d with
  | zero =>
    intro i a h
    rw [List.drop_eq_nil_of_le (by omega)]
    refine Ev.step (fun k => ?_) (Ev.now _)
    simp only [spec_wdPeak.l0]
    rw [if_neg (by omega)]
    rfl
  | succ d ih =>
    intro i a h
    have hi' : i < l.length := by omega
    have hm := hb l[i] (List.getElem_mem hi')
    rw [List.drop_eq_getElem_cons hi']
    refine Ev.step (fun k => ?_) (ih (i + 1) _ (by omega))
    simp only [spec_wdPeak.l0]
    rw [if_pos (by omega), if_pos (by omega), if_pos (by omega), aid_rd l i hi', spec_l1Abs.eq hm.1 hm.2, aid_next (by omega)]
    simp only [Option.bind_some, spec_l1Most.eq]
theorem spec_wdPeak.ev (l : List Int) (hl : l.length ≤ 1000000000000000) (hb : ∀ x ∈ l, -9223372036854775807 ≤ x ∧ x ≤ 9223372036854775807) : Ev (fun k => spec_wdPeak.f k l) (peakL l 0) :=
  spec_wdPeak.l0_ev l hl hb l.length 0 0 (by omega)

-- spec_dmScaled
def scaledB (m : Int) (l : List Int) : Bool := decide (1 ≤ m ∧ m ≤ 1000) && (sigB l && decide (peakL l 0 ≤ m))
theorem scaledB_iff (m : Int) (l : List Int) : scaledB m l = true ↔ (1 ≤ m ∧ m ≤ 1000) ∧ l.length ≤ 64 ∧ ∀ x ∈ l, -m ≤ x ∧ x ≤ m := by
  unfold scaledB
  simp only [Bool.and_eq_true, decide_eq_true_eq, sigB_iff]
  constructor
  · rintro ⟨h, ⟨h1, _⟩, h3⟩
    refine ⟨h, h1, fun x hx => ?_⟩
    have := peakL_all l 0 x hx
    omega
  · rintro ⟨h, h1, h2⟩
    refine ⟨h, ⟨h1, fun x hx => ?_⟩, peakL_le l 0 m (by omega) (fun x hx => ?_)⟩
    · have := h2 x hx
      omega
    · have := h2 x hx
      omega
theorem spec_dmScaled.ev (m : Int) (l : List Int) : Ev (fun k => spec_dmScaled.f k m l) (scaledB m l) := by
  unfold spec_dmScaled.f scaledB
  rw [spec_dmScale.eq]
  by_cases h : 1 ≤ m ∧ m ≤ 1000
  · simp only [h, and_self, decide_true, Option.bind_some, if_true, Bool.true_and]
    refine Ev.bind (f := fun _ _ => _) (spec_wdSignal.ev l) ?_
    cases hs : sigB l with
    | false => exact Ev.now _
    | true =>
      have hs' := (sigB_iff l).1 hs
      simp only [if_true, Bool.true_and]
      exact aid_ev_bind (spec_wdPeak.ev l (by omega) (fun x hx => by have := hs'.2 x hx; omega)) rfl
  · simp only [h, decide_false, Option.bind_some, Bool.false_and]
    simp
    exact Ev.now _

-- impl_in
theorem impl_in.eq (a lo hi : Int) : impl_in.f a lo hi = some (decide (lo ≤ a ∧ a ≤ hi)) := by
  unfold impl_in.f
  by_cases h : lo ≤ a <;> simp [h]

-- impl_isSignal
theorem impl_isSignal.eq (l : List Int) : impl_isSignal.f l = some (sigB l) := by
  unfold impl_isSignal.f sigB
  have e1 : decide ((l.length : Int) ≤ 64) = decide (l.length ≤ 64) := by
    rw [Bool.eq_iff_iff]; simp; omega
  have e2 : (!(l.any fun x => !(decide (-100000 ≤ x) && decide (x ≤ 100000)))) = l.all fun x => decide (-100000 ≤ x ∧ x ≤ 100000) := by
    rw [List.not_any_eq_all_not]
    congr 1
    funext x
    rw [Bool.eq_iff_iff]
    simp
  rw [e1, e2]

-- impl_size
theorem impl_size.eq {x : Int} (h : -9223372036854775807 ≤ x) (h' : x ≤ 9223372036854775807) : impl_size.f x = some (x.natAbs : Int) := by
  unfold impl_size.f
  rw [aid_wr (by omega) (by omega)]
  unfold mx
  split <;> simp <;> omega

-- impl_peak
theorem impl_peak.l0_ev (l : List Int) (hl : l.length ≤ 1000000000000000) (hb : ∀ x ∈ l, -9223372036854775807 ≤ x ∧ x ≤ 9223372036854775807) : ∀ (d i : Nat) (a : Int), i + d = l.length → Ev (fun k => impl_peak.l0 k a l (l.length : Int) (i : Int)) (peakL (l.drop i) a) := by
  intro d
  induction d with
  | zero =>
    intro i a h
    rw [List.drop_eq_nil_of_le (by omega)]
    refine Ev.step (fun k => ?_) (Ev.now _)
    simp only [impl_peak.l0]
    rw [if_neg (by omega)]
    rfl
  | succ d ih =>
    intro i a h
    have hi' : i < l.length := by omega
    have hm := hb l[i] (List.getElem_mem hi')
    rw [List.drop_eq_getElem_cons hi']
    refine Ev.step (fun k => ?_) (ih (i + 1) _ (by omega))
    simp only [impl_peak.l0]
    rw [if_pos (by omega), if_pos (by omega), if_pos (by omega), aid_rd l i hi', impl_size.eq hm.1 hm.2, aid_next (by omega)]
    simp only [Option.bind_some]
    congr 1
    unfold mx
    split <;> omega
theorem impl_peak.ev (l : List Int) (hl : l.length ≤ 1000000000000000) (hb : ∀ x ∈ l, -9223372036854775807 ≤ x ∧ x ≤ 9223372036854775807) : Ev (fun k => impl_peak.f k l) (peakL l 0) :=
  impl_peak.l0_ev l hl hb l.length 0 0 (by omega)

-- impl_isScaled
theorem impl_isScaled.ev (m : Int) (l : List Int) : Ev (fun k => impl_isScaled.f k m l) (scaledB m l) := by
  unfold impl_isScaled.f scaledB
  rw [impl_in.eq, impl_isSignal.eq]
  by_cases h : 1 ≤ m ∧ m ≤ 1000
  · simp only [h, and_self, decide_true, Option.bind_some, if_true, Bool.true_and]
    cases hs : sigB l with
    | false => exact Ev.now _
    | true =>
      have hs' := (sigB_iff l).1 hs
      simp only [if_true, Bool.true_and]
      exact aid_ev_bind (impl_peak.ev l (by omega) (fun x hx => by have := hs'.2 x hx; omega)) rfl
  · simp only [h, decide_false, Option.bind_some, Bool.false_and]
    simp
    exact Ev.now _

-- Modu
def bitI (y : Int) : Int := if y ≥ 0 then 1 else -1
def modB (m : Int) : List Int → Int → List Int
  | [], _ => []
  | x :: r, s => bitI (s + x) :: modB m r (s + x - m * bitI (s + x))
def modS (m : Int) : List Int → Int → List Int
  | [], _ => []
  | x :: r, s => (s + x - m * bitI (s + x)) :: modS m r (s + x - m * bitI (s + x))
theorem modB_length (m : Int) : ∀ (l : List Int) (s : Int), (modB m l s).length = l.length
  | [], _ => rfl
  | x :: r, s => by simp [modB, modB_length m r]
theorem modS_length (m : Int) : ∀ (l : List Int) (s : Int), (modS m l s).length = l.length
  | [], _ => rfl
  | x :: r, s => by simp [modS, modS_length m r]
theorem modB_bits (m : Int) : ∀ (l : List Int) (s : Int), ∀ b ∈ modB m l s, b = 1 ∨ b = -1
  | x :: r, s, b, h => by
    rcases List.mem_cons.1 h with h | h
    · rw [h]
      unfold bitI
      split <;> simp
    · exact modB_bits m r _ b h
theorem mod_state {m s x : Int} (hm : 1 ≤ m) (hx : -m ≤ x ∧ x ≤ m) (hs : -m ≤ s ∧ s < m) : -m ≤ s + x - m * bitI (s + x) ∧ s + x - m * bitI (s + x) < m := by
  unfold bitI
  split <;> omega

-- impl_bitOf
theorem impl_bitOf.eq (y : Int) : impl_bitOf.f y = some (bitI y) := by
  unfold impl_bitOf.f bitI
  split <;> rfl

-- MarkSS
def sizeSS : List (List Int) → Nat
  | [] => 0
  | x :: r => x.length + sizeSS r
def marksSS : List (List Int) → Int → List (List Int)
  | [], _ => []
  | x :: r, a => marksL x.length a :: marksSS r (a + (x.length : Int))
theorem marksSS_length : ∀ (ss : List (List Int)) (a : Int), (marksSS ss a).length = ss.length
  | [], _ => rfl
  | x :: r, a => by rw [marksSS, List.length_cons, List.length_cons, marksSS_length r]
theorem ss_at {d r : List (List Int)} {x : List Int} : (d ++ x :: r).getD d.length [] = x := by
  rw [List.getD_eq_getElem?_getD, List.getElem?_append_right (Nat.le_refl _), Nat.sub_self]
  rfl
theorem ss_set {d r : List (List Int)} {x y : List Int} : (d ++ x :: r).set d.length y = (d ++ [y]) ++ r := by
  rw [List.set_append_right _ _ (Nat.le_refl _), Nat.sub_self, List.append_assoc]
  rfl

-- laws_eqIntSS
theorem laws_eqIntSS.l0_refl : ∀ (rest done : List (List Int)), sizeSS rest ≤ 100000000000000 → done.length + rest.length ≤ 100000000000000 → Ev (fun k => laws_eqIntSS.l0 k (done ++ rest) (done ++ rest) (done.length : Int)) true := by
  intro rest
  induction rest with
  | nil =>
    intro done _ _
    refine Ev.step (f := fun _ => some true) (fun k => ?_) (Ev.now _)
    simp only [laws_eqIntSS.l0, List.append_nil]
    rw [if_neg (by omega)]
  | cons x r ih =>
    intro done h1 h2
    have hs : sizeSS (x :: r) = x.length + sizeSS r := rfl
    rw [List.length_cons] at h2
    have h := ih (done ++ [x]) (by omega) (by simp; omega)
    have hM := laws_eqIntS.refl x (by omega)
    refine aid_ev_succ ?_
    simp only [laws_eqIntSS.l0]
    refine Ev.congr (fun k => if_pos (by rw [List.length_append, List.length_cons]; omega)) ?_
    refine Ev.congr (fun k => if_pos (by omega)) ?_
    refine Ev.congr (fun k => if_pos (by rw [List.length_append, List.length_cons]; omega)) ?_
    unfold rd_L1
    rw [Int.toNat_natCast, ss_at]
    refine Ev.bind hM ?_
    refine Ev.congr (fun k => if_pos rfl) ?_
    rw [aid_next (by omega), show ((done.length + 1 : Nat) : Int) = (((done ++ [x]).length : Nat) : Int) by simp]
    rw [List.append_assoc] at h
    exact h
theorem laws_eqIntSS.refl (ss : List (List Int)) (h1 : sizeSS ss ≤ 100000000000000) (h2 : ss.length ≤ 100000000000000) : Ev (fun k => laws_eqIntSS.f k ss ss) true := by
  have h := laws_eqIntSS.l0_refl ss [] h1 (by simpa using h2)
  unfold laws_eqIntSS.f
  exact Ev.congr (fun k => if_pos rfl) h

-- laws_markIntSS
theorem laws_markIntSS.l0_ev : ∀ (rest done : List (List Int)) (a : Int), 0 ≤ a → a + (sizeSS rest : Int) ≤ 100000000000000 → done.length + rest.length ≤ 100000000000000 → Ev (fun k => laws_markIntSS.l0 k (done ++ rest) a (done.length : Int)) (a + (sizeSS rest : Int), done ++ marksSS rest a) := by
  intro rest
  induction rest with
  | nil =>
    intro done a _ _ _
    refine Ev.step (f := fun _ => some (a + (sizeSS [] : Int), done ++ marksSS [] a)) (fun k => ?_) (Ev.now _)
    simp only [laws_markIntSS.l0, List.append_nil]
    rw [if_neg (by omega)]
    simp [sizeSS, marksSS]
  | cons x r ih =>
    intro done a h0 h1 h2
    have hs : sizeSS (x :: r) = x.length + sizeSS r := rfl
    rw [List.length_cons] at h2
    have h := ih (done ++ [marksL x.length a]) (a + (x.length : Int)) (by omega) (by omega) (by simp; omega)
    have hM := laws_markIntS.ev x a (by omega) h0 (by omega)
    refine aid_ev_succ ?_
    simp only [laws_markIntSS.l0]
    refine Ev.congr (fun k => if_pos (by rw [List.length_append, List.length_cons]; omega)) ?_
    refine Ev.congr (fun k => if_pos (by omega)) ?_
    rw [Int.toNat_natCast, ss_at]
    refine Ev.bind hM ?_
    dsimp only
    rw [ss_set, aid_next (by omega), show ((done.length + 1 : Nat) : Int) = (((done ++ [marksL x.length a]).length : Nat) : Int) by simp, hs, show a + ((x.length + sizeSS r : Nat) : Int) = a + (x.length : Int) + (sizeSS r : Int) by omega, marksSS]
    rw [List.append_assoc, List.append_assoc] at h
    rw [List.append_assoc]
    exact h
theorem laws_markIntSS.ev (ss : List (List Int)) (a : Int) (h0 : 0 ≤ a) (h1 : a + (sizeSS ss : Int) ≤ 100000000000000) (h2 : ss.length ≤ 100000000000000) : Ev (fun k => laws_markIntSS.f k ss a) (a + (sizeSS ss : Int), marksSS ss a) := by
  have h := laws_markIntSS.l0_ev ss [] a h0 h1 (by simpa using h2)
  exact h

-- laws_heldIntS
theorem laws_heldIntS.l0_ev (n : Nat) (a : Int) (hl : n ≤ 1000000000000000) (h0 : 0 ≤ a) (h1 : a ≤ 1000000000000000) : ∀ (d i : Nat), i + d = n → Ev (fun k => laws_heldIntS.l0 k (marksL n a) (a + (i : Int)) (i : Int)) (a + (n : Int)) := by
  have hlen := marksL_length a n
  intro d
  induction d with
  | zero =>
    intro i h
    refine Ev.step (f := fun _ => some (a + (n : Int))) (fun k => ?_) (Ev.now _)
    simp only [laws_heldIntS.l0]
    rw [if_neg (by rw [hlen]; omega)]
    obtain rfl : i = n := by omega
    rfl
  | succ d ih =>
    intro i h
    refine Ev.step (fun k => ?_) (ih (i + 1) (by omega))
    simp only [laws_heldIntS.l0]
    rw [if_pos (by rw [hlen]; omega), if_pos (by omega), aid_rd _ i (by omega), marksL_get, if_pos rfl, aid_next (by omega), aid_wr (x := a + (i : Int) + 1) (by omega) (by omega)]
    rw [show a + (i : Int) + 1 = a + ((i + 1 : Nat) : Int) by omega]
theorem laws_heldIntS.ev (n : Nat) (a : Int) (hl : n ≤ 1000000000000000) (h0 : 0 ≤ a) (h1 : a ≤ 1000000000000000) : Ev (fun k => laws_heldIntS.f k (marksL n a) a) (a + (n : Int)) := by
  have h := laws_heldIntS.l0_ev n a hl h0 h1 n 0 (by omega)
  unfold laws_heldIntS.f
  simpa using h

-- laws_heldIntSS
theorem laws_heldIntSS.l0_ev : ∀ (rest done : List (List Int)) (a : Int), 0 ≤ a → a + (sizeSS rest : Int) ≤ 100000000000000 → done.length + rest.length ≤ 100000000000000 → Ev (fun k => laws_heldIntSS.l0 k (done ++ marksSS rest a) a (done.length : Int)) (a + (sizeSS rest : Int)) := by
  intro rest
  induction rest with
  | nil =>
    intro done a _ _ _
    refine Ev.step (f := fun _ => some (a + (sizeSS [] : Int))) (fun k => ?_) (Ev.now _)
    simp only [laws_heldIntSS.l0, marksSS, List.append_nil]
    rw [if_neg (by omega)]
    simp [sizeSS]
  | cons x r ih =>
    intro done a h0 h1 h2
    have hs : sizeSS (x :: r) = x.length + sizeSS r := rfl
    rw [List.length_cons] at h2
    have h := ih (done ++ [marksL x.length a]) (a + (x.length : Int)) (by omega) (by omega) (by simp; omega)
    have hM := laws_heldIntS.ev x.length a (by omega) h0 (by omega)
    refine aid_ev_succ ?_
    simp only [laws_heldIntSS.l0, marksSS]
    refine Ev.congr (fun k => if_pos (by rw [List.length_append, List.length_cons]; omega)) ?_
    refine Ev.congr (fun k => if_pos (by omega)) ?_
    unfold rd_L1
    rw [Int.toNat_natCast, ss_at]
    refine Ev.bind hM ?_
    refine Ev.congr (fun k => if_neg (by omega)) ?_
    rw [aid_next (by omega), show ((done.length + 1 : Nat) : Int) = (((done ++ [marksL x.length a]).length : Nat) : Int) by simp, hs, show a + ((x.length + sizeSS r : Nat) : Int) = a + (x.length : Int) + (sizeSS r : Int) by omega]
    rw [List.append_assoc] at h
    exact h
theorem laws_heldIntSS.ev (ss : List (List Int)) (a : Int) (h0 : 0 ≤ a) (h1 : a + (sizeSS ss : Int) ≤ 100000000000000) (h2 : ss.length ≤ 100000000000000) : Ev (fun k => laws_heldIntSS.f k (marksSS ss a) a) (a + (sizeSS ss : Int)) := by
  have h := laws_heldIntSS.l0_ev ss [] a h0 h1 (by simpa using h2)
  exact h

theorem two_l0 (m : Int) (l : List Int) (hl : l.length ≤ 64) : ∀ (d i : Nat) (bs : List Int) (ss : List (List Int)) (a b : Int), i + d = l.length → bs.length = i → ss.length = i → (∀ s ∈ ss, s.length = 2) →
    ∃ w : List Int × List (List Int), Ev (fun k => spec_dmTwo.l0 k m bs ss a b l (l.length : Int) (i : Int)) w ∧ Ev (fun k => impl_modulateTwo.l0 k m bs ss a b l (l.length : Int) (i : Int)) w ∧ w.1.length = l.length ∧ w.2.length = l.length ∧ (∀ s ∈ w.2, s.length = 2) := by
  intro d
  induction d with
  | zero =>
    intro i bs ss a b hi h1 h2 h3
    refine ⟨(bs, ss), Ev.step (f := fun _ => some (bs, ss)) (fun k => ?_) (Ev.now _), Ev.step (f := fun _ => some (bs, ss)) (fun k => ?_) (Ev.now _), by dsimp only; omega, by dsimp only; omega, h3⟩
    · simp only [spec_dmTwo.l0]
      rw [if_neg (by omega)]
    · simp only [impl_modulateTwo.l0]
      rw [if_neg (by omega)]
  | succ d ih =>
    intro i bs ss a b hi h1 h2 h3
    have hi' : i < l.length := by omega
    have hss : ∀ p q : Int, ∀ s ∈ ss ++ [[p, q]], s.length = 2 := by
      intro p q s hs
      rcases List.mem_append.1 hs with hs | hs
      · exact h3 s hs
      · rw [List.mem_singleton.1 hs]
        rfl
    have hmz : ∀ bit : Int, ∃ w : List Int × List (List Int), Ev (fun k => spec_dmTwo.l0 k m (bs ++ [bit]) (ss ++ [[wrap64 (a + wrap64 (l[i] - wrap64 (m * bit))), wrap64 (b + wrap64 (wrap64 (a + wrap64 (l[i] - wrap64 (m * bit))) - wrap64 (m * bit)))]]) (wrap64 (a + wrap64 (l[i] - wrap64 (m * bit)))) (wrap64 (b + wrap64 (wrap64 (a + wrap64 (l[i] - wrap64 (m * bit))) - wrap64 (m * bit)))) l (l.length : Int) ((i + 1 : Nat) : Int)) w ∧ Ev (fun k => impl_modulateTwo.l0 k m (bs ++ [bit]) (ss ++ [[wrap64 (a + wrap64 (l[i] - wrap64 (m * bit))), wrap64 (b + wrap64 (wrap64 (a + wrap64 (l[i] - wrap64 (m * bit))) - wrap64 (m * bit)))]]) (wrap64 (a + wrap64 (l[i] - wrap64 (m * bit)))) (wrap64 (b + wrap64 (wrap64 (a + wrap64 (l[i] - wrap64 (m * bit))) - wrap64 (m * bit)))) l (l.length : Int) ((i + 1 : Nat) : Int)) w ∧ w.1.length = l.length ∧ w.2.length = l.length ∧ (∀ s ∈ w.2, s.length = 2) :=
      fun bit => ih (i + 1) _ _ _ _ (by omega) (by simp [h1]) (by simp [h2]) (hss _ _)
    by_cases hc : b ≥ 0
    · obtain ⟨w, hw1, hw2, hw3⟩ := hmz 1
      refine ⟨w, Ev.step (fun k => ?_) hw1, Ev.step (fun k => ?_) hw2, hw3⟩
      · simp only [spec_dmTwo.l0, Int.mul_one]
        rw [if_pos (by omega), if_pos (by omega), if_pos (by omega), aid_rd l i hi', if_pos hc, if_pos (by omega), if_pos (by omega), aid_next (by omega)]
      · simp only [impl_modulateTwo.l0]
        rw [if_pos (by omega), if_pos (by omega), if_pos (by omega), aid_rd l i hi', impl_bitOf.eq, show bitI b = 1 from if_pos hc]
        simp only [Option.bind_some]
        rw [if_pos (by omega), if_pos (by omega), aid_next (by omega)]
    · obtain ⟨w, hw1, hw2, hw3⟩ := hmz (-1)
      refine ⟨w, Ev.step (fun k => ?_) hw1, Ev.step (fun k => ?_) hw2, hw3⟩
      · simp only [spec_dmTwo.l0, Int.mul_neg, Int.mul_one]
        rw [if_pos (by omega), if_pos (by omega), if_pos (by omega), aid_rd l i hi', if_neg hc, if_pos (by omega), if_pos (by omega), aid_next (by omega)]
      · simp only [impl_modulateTwo.l0]
        rw [if_pos (by omega), if_pos (by omega), if_pos (by omega), aid_rd l i hi', impl_bitOf.eq, show bitI b = -1 from if_neg hc]
        simp only [Option.bind_some]
        rw [if_pos (by omega), if_pos (by omega), aid_next (by omega)]
theorem size_twos : ∀ ss : List (List Int), (∀ s ∈ ss, s.length = 2) → sizeSS ss = 2 * ss.length
  | [], _ => rfl
  | x :: r, h => by
    have h1 := h x (List.mem_cons_self ..)
    have h2 := size_twos r (fun s hs => h s (List.mem_cons_of_mem _ hs))
    rw [sizeSS, List.length_cons]
    omega
theorem twost_both (m : Int) (l : List Int) : ∃ w : List (List Int) × Bool, Ev (fun k => spec_TwoStates.f k m l) w ∧ Ev (fun k => impl_TwoStates.f k m l) w ∧ w.1.length ≤ 64 ∧ sizeSS w.1 = 2 * w.1.length := by
  unfold spec_TwoStates.f impl_TwoStates.f
  have h1 := spec_dmScaled.ev m l
  have h2 := impl_isScaled.ev m l
  cases hB : scaledB m l with
  | false =>
    rw [hB] at h1 h2
    exact ⟨([], false), Ev.bind h1 (Ev.now _), Ev.bind h2 (Ev.now _), by simp, rfl⟩
  | true =>
    rw [hB] at h1 h2
    obtain ⟨hm, hl, hx⟩ := (scaledB_iff m l).1 hB
    obtain ⟨w, hw1, hw2, _, hw3, hw4⟩ := two_l0 m l hl l.length 0 [] [] 0 0 (by omega) rfl rfl (by simp)
    refine ⟨(w.2, true), Ev.bind h1 ?_, Ev.bind h2 ?_, by dsimp only; omega, size_twos _ hw4⟩
    · exact aid_ev_bind hw1 rfl
    · exact aid_ev_bind hw2 rfl
theorem FnExactTwoStates : laws_FnExactTwoStates.Pure := by
  intro m l _ _ h8 _
  refine Ev.rounds ?_
  unfold laws_FnExactTwoStates.f
  by_cases hb : (l.length : Int) > 1048576
  · exact Ev.congr (fun k => if_pos hb) (Ev.now _)
  refine Ev.congr (fun k => if_neg hb) ?_
  have hT := laws_toIntS.ev l h8
  obtain ⟨⟨w, b⟩, hs, hi, hw, hz⟩ := twost_both m l
  dsimp only at hw hz
  have hE := laws_eqIntSS.refl w (by omega) (by omega)
  have hE2 := laws_eqIntS.refl l (by omega)
  have hM := laws_markIntS.ev l 1 (by omega) (by omega) (by omega)
  have hM2 := laws_markIntSS.ev w 1 (by omega) (by omega) (by omega)
  have hH := laws_heldIntSS.ev w 1 (by omega) (by omega) (by omega)
  unfold laws_FnExactTwoStates.g
  refine Ev.bind hT (Ev.bind hs (Ev.bind hi (Ev.bind hE ?_)))
  dsimp only
  refine Ev.congr (fun k => if_pos ⟨rfl, rfl⟩) (Ev.bind hE2 (Ev.congr (fun k => if_pos rfl) (Ev.bind hM ?_)))
  dsimp only
  refine Ev.congr (fun k => if_pos (by omega)) (Ev.bind hM2 ?_)
  dsimp only
  exact Ev.bind hH (Ev.congr (fun k => if_pos ⟨by omega, rfl⟩) (Ev.now _))

end Go.Proofs.Ytlmlehfgdmhbmaa.Pure
