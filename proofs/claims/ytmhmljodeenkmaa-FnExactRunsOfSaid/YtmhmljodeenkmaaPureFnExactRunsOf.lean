/- Proves that the program's RunsOf returns what the reference's returns, for all arguments. Conditions: none. -/
import Derived.Test.YtmhmljodeenkmaaPFnExactRunsOfx3
namespace Go.Proofs.Ytmhmljodeenkmaa.Pure
open Go.RowKit Go.Proofs.Ytmhmljodeenkmaa.PFnExactRunsOf Go.Proofs.YtmhmljodeenkmaaW.PrintWords Go.Proofs.YtmhmljodeenkmaaW.PrintLast
set_option linter.unusedSimpArgs false
set_option linter.unusedVariables false

-- Aid
theorem aid_wr {x : Int} (h0 : -9223372036854775808 ≤ x) (h1 : x ≤ 9223372036854775807) : wrap64 x = x := by unfold wrap64; omega
theorem aid_wf {x : Int} (h : (Lit.int .i64 x).wf = true) : -9223372036854775808 ≤ x ∧ x ≤ 9223372036854775807 := by
  have hmin : IntKind.i64.min = -9223372036854775808 := rfl
  have hmax : IntKind.i64.max = 9223372036854775807 := rfl
  simp only [Lit.wf, Bool.and_eq_true, decide_eq_true_eq, hmin, hmax] at h
  exact h
theorem aid_ev_bind {α β : Type} {g : Nat → Option α} {f : α → Option β} {a : α} {r : β} (h : Ev g a) (k : f a = some r) : Ev (fun n => (g n).bind f) r :=
  Ev.bind (f := fun _ => f) h ⟨0, fun _ _ => k⟩
theorem aid_ev_const {α : Type} {o : Option α} {r : α} (h : o = some r) : Ev (fun _ => o) r := ⟨0, fun _ _ => h⟩
theorem aid_tdiv {a b : Int} (ha : 0 ≤ a) : Int.tdiv a b = a / b := Int.tdiv_eq_ediv_of_nonneg ha
theorem aid_tmod {a b : Int} (ha : 0 ≤ a) : Int.tmod a b = a % b := Int.tmod_eq_emod_of_nonneg ha
theorem aid_next {i : Nat} (h : i ≤ 9223372036854775806) : wrap64 ((i : Int) + 1) = ((i + 1 : Nat) : Int) := by rw [aid_wr (by omega) (by omega)]; rfl
theorem aid_rd (l : List Int) (i : Nat) (h : i < l.length) : rd l (i : Int) = l[i] := by
  unfold rd
  rw [List.getD_eq_getElem?_getD, Int.toNat_natCast, List.getElem?_eq_getElem h]
  rfl
theorem aid_ev_succ {α : Type} {g : Nat → Option α} {r : α} (h : Ev (fun k => g (k + 1)) r) : Ev g r := Ev.step (fun _ => rfl) h

-- Bits
def bitsB (l : List Int) : Bool := decide (l.length ≤ 200) && l.all fun x => decide (x = 1 ∨ x = -1)
theorem bitsB_iff (l : List Int) : bitsB l = true ↔ l.length ≤ 200 ∧ ∀ x ∈ l, x = 1 ∨ x = -1 := by
  simp [bitsB]

-- spec_dmBits
theorem spec_dmBits.l0_ev (l : List Int) (hl : l.length ≤ 200) : ∀ (d i : Nat), i + d = l.length → Ev (fun k => spec_dmBits.l0 k l (l.length : Int) (i : Int)) ((l.drop i).all fun x => decide (x = 1 ∨ x = -1)) := by
  intro d
  induction d with
  | zero =>
    intro i h
    rw [List.drop_eq_nil_of_le (by omega)]
    refine Ev.step (fun k => ?_) (Ev.now _)
    simp only [spec_dmBits.l0]
    rw [if_neg (by omega)]
    rfl
  | succ d ih =>
    intro i h
    have hi' : i < l.length := by omega
    rw [List.drop_eq_getElem_cons hi', List.all_cons, ← aid_rd l i hi']
    by_cases hc : rd l i = 1
    · refine Ev.step (fun k => ?_) (by simpa [hc] using ih (i + 1) (by omega))
      simp only [spec_dmBits.l0]
      rw [if_pos (by omega), if_pos (by omega), if_pos (by omega), if_pos hc, aid_next (by omega)]
      rfl
    · by_cases hc' : rd l i = -1
      · refine Ev.step (fun k => ?_) (by simpa [hc'] using ih (i + 1) (by omega))
        simp only [spec_dmBits.l0]
        rw [if_pos (by omega), if_pos (by omega), if_pos (by omega), if_neg hc, if_pos hc', aid_next (by omega)]
        rfl
      · refine Ev.step (f := fun _ => some false) (fun k => ?_) (by simpa [hc, hc'] using Ev.now false)
        simp only [spec_dmBits.l0]
        rw [if_pos (by omega), if_pos (by omega), if_pos (by omega), if_neg hc, if_neg hc']
theorem spec_dmBits.ev (l : List Int) : Ev (fun k => spec_dmBits.f k l) (bitsB l) := by
  unfold spec_dmBits.f bitsB
  by_cases h : l.length ≤ 200
  · simp only [h, decide_true, Bool.true_and]
    exact Ev.congr (fun k => if_neg (by omega)) (spec_dmBits.l0_ev l h l.length 0 (by omega))
  · simp only [h, decide_false, Bool.false_and]
    exact Ev.congr (fun k => if_pos (by omega)) (Ev.now _)

-- laws_toIntS
theorem aid_fill (l : List Int) (i d : Nat) (h : i + (d + 1) = l.length) : (l.take i ++ List.replicate (d + 1) 0).set i (rd l i) = l.take (i + 1) ++ List.replicate d 0 := by
  have hi' : i < l.length := by omega
  have hlen : (l.take i).length = i := by rw [List.length_take]; omega
  rw [List.set_append_right _ _ (by omega), hlen, Nat.sub_self, aid_rd l i hi', List.take_succ_eq_append_getElem hi', List.append_assoc]
  rfl
theorem laws_toIntS.l0_ev (l : List Int) (hl : l.length ≤ 1000000000000000) : ∀ (d i : Nat), i + d = l.length → Ev (fun k => laws_toIntS.l0 k l (l.take i ++ List.replicate d 0) (i : Int)) l := by
  intro d
  induction d with
  | zero =>
    intro i h
    refine Ev.step (fun k => ?_) (Ev.now _)
    simp only [laws_toIntS.l0]
    rw [if_neg (by omega), List.take_of_length_le (by omega)]
    simp
  | succ d ih =>
    intro i h
    refine Ev.step (fun k => ?_) (ih (i + 1) (by omega))
    have hlen : (l.take i ++ List.replicate (d + 1) 0).length = l.length := by
      rw [List.length_append, List.length_take, List.length_replicate]; omega
    simp only [laws_toIntS.l0]
    rw [if_pos (by omega), if_pos (by omega), if_pos (by rw [hlen]; omega), aid_next (by omega), Int.toNat_natCast, aid_fill l i d h]
theorem laws_toIntS.ev (l : List Int) (hl : l.length * 8 ≤ 140737488351232) : Ev (fun k => laws_toIntS.f k l) l := by
  unfold laws_toIntS.f
  have h := laws_toIntS.l0_ev l (by omega) l.length 0 (by omega)
  refine Ev.congr (fun k => ?_) h
  rw [if_pos (by omega), if_pos (by omega)]
  simp

-- impl_areBits
theorem impl_areBits.eq (l : List Int) : impl_areBits.f l = some (bitsB l) := by
  unfold impl_areBits.f bitsB
  have e1 : decide ((l.length : Int) ≤ 200) = decide (l.length ≤ 200) := by
    rw [Bool.eq_iff_iff]; simp; omega
  have e2 : (!(l.any fun x => decide (¬ x = 1) && decide (¬ x = -1))) = l.all fun x => decide (x = 1 ∨ x = -1) := by
    rw [List.not_any_eq_all_not]
    congr 1
    funext x
    rw [Bool.eq_iff_iff]
    simp
  rw [e1, e2]

-- laws_eqIntS
theorem laws_eqIntS.l0_refl (l : List Int) (hl : l.length ≤ 1000000000000000) : ∀ (d i : Nat), i + d = l.length → Ev (fun k => laws_eqIntS.l0 k l l (i : Int)) true := by
  intro d
  induction d with
  | zero =>
    intro i h
    refine Ev.step (fun k => ?_) (Ev.now _)
    simp only [laws_eqIntS.l0]
    rw [if_neg (by omega)]
  | succ d ih =>
    intro i h
    refine Ev.step (fun k => ?_) (ih (i + 1) (by omega))
    simp only [laws_eqIntS.l0]
    rw [if_pos (by omega), if_pos (by omega), if_pos (by omega), if_pos trivial, aid_next (by omega)]
theorem laws_eqIntS.refl (l : List Int) (hl : l.length ≤ 1000000000000000) : Ev (fun k => laws_eqIntS.f k l l) true := by
  unfold laws_eqIntS.f
  exact Ev.congr (fun k => if_pos rfl) (laws_eqIntS.l0_refl l hl l.length 0 (by omega))

-- Mark
def marksL : Nat → Int → List Int
  | 0, _ => []
  | n + 1, a => marksL n a ++ [a + (n : Int)]
theorem marksL_length (a : Int) : ∀ n, (marksL n a).length = n
  | 0 => rfl
  | n + 1 => by rw [marksL, List.length_append, marksL_length a n]; rfl
theorem marksL_get (a : Int) : ∀ (n i : Nat) (h : i < (marksL n a).length), (marksL n a)[i] = a + (i : Int)
  | n + 1, i, h => by
    have hl := marksL_length a n
    have hl' := marksL_length a (n + 1)
    simp only [marksL]
    by_cases hi : i < n
    · rw [List.getElem_append_left (by omega)]
      exact marksL_get a n i (by omega)
    · have e : i = n := by omega
      subst e
      rw [List.getElem_append_right (by omega)]
      simp

-- laws_markIntS
theorem laws_markIntS.l0_ev (l : List Int) (a : Int) (hl : l.length ≤ 1000000000000000) (h0 : 0 ≤ a) (h1 : a ≤ 1000000000000000) : ∀ (d i : Nat), i + d = l.length → Ev (fun k => laws_markIntS.l0 k (marksL i a ++ l.drop i) (a + (i : Int)) (i : Int)) (a + (l.length : Int), marksL l.length a) := by
  intro d
  induction d with
  | zero =>
    intro i h
    have hlen : (marksL i a ++ l.drop i).length = l.length := by rw [List.length_append, marksL_length, List.length_drop]; omega
    refine Ev.step (f := fun _ => some (a + (l.length : Int), marksL l.length a)) (fun k => ?_) (Ev.now _)
    simp only [laws_markIntS.l0]
    rw [if_neg (by rw [hlen]; omega), List.drop_eq_nil_of_le (by omega), List.append_nil]
    obtain rfl : i = l.length := by omega
    rfl
  | succ d ih =>
    intro i h
    have hi' : i < l.length := by omega
    have hlen : (marksL i a ++ l.drop i).length = l.length := by rw [List.length_append, marksL_length, List.length_drop]; omega
    refine Ev.step (fun k => ?_) (ih (i + 1) (by omega))
    simp only [laws_markIntS.l0]
    have hset : (marksL i a ++ l.drop i).set i (a + (i : Int)) = marksL (i + 1) a ++ l.drop (i + 1) := by
      rw [List.set_append_right _ _ (by rw [marksL_length]; omega), marksL_length, Nat.sub_self, List.drop_eq_getElem_cons hi', marksL, List.append_assoc]
      rfl
    rw [if_pos (by rw [hlen]; omega), if_pos (by omega), Int.toNat_natCast, hset, aid_next (by omega), aid_wr (x := a + (i : Int) + 1) (by omega) (by omega)]
    rw [show a + (i : Int) + 1 = a + ((i + 1 : Nat) : Int) by omega]
theorem laws_markIntS.ev (l : List Int) (a : Int) (hl : l.length ≤ 1000000000000000) (h0 : 0 ≤ a) (h1 : a ≤ 1000000000000000) : Ev (fun k => laws_markIntS.f k l a) (a + (l.length : Int), marksL l.length a) := by
  have h := laws_markIntS.l0_ev l a hl h0 h1 l.length 0 (by omega)
  simp only [marksL, List.nil_append, List.drop_zero] at h
  unfold laws_markIntS.f
  simpa using h

-- laws_heldIntS
theorem laws_heldIntS.l0_ev (n : Nat) (a : Int) (hl : n ≤ 1000000000000000) (h0 : 0 ≤ a) (h1 : a ≤ 1000000000000000) : ∀ (d i : Nat), i + d = n → Ev (fun k => laws_heldIntS.l0 k (marksL n a) (a + (i : Int)) (i : Int)) (a + (n : Int)) := by
  have hlen := marksL_length a n
  intro d
  induction d with
  | zero =>
    intro i h
    refine Ev.step (f := fun _ => some (a + (n : Int))) (fun k => ?_) (Ev.now _)
    simp only [laws_heldIntS.l0]
    rw [if_neg (by rw [hlen]; omega)]
    obtain rfl : i = n := by omega
    rfl
  | succ d ih =>
    intro i h
    refine Ev.step (fun k => ?_) (ih (i + 1) (by omega))
    simp only [laws_heldIntS.l0]
    rw [if_pos (by rw [hlen]; omega), if_pos (by omega), aid_rd _ i (by omega), marksL_get, if_pos rfl, aid_next (by omega), aid_wr (x := a + (i : Int) + 1) (by omega) (by omega)]
    rw [show a + (i : Int) + 1 = a + ((i + 1 : Nat) : Int) by omega]
theorem laws_heldIntS.ev (n : Nat) (a : Int) (hl : n ≤ 1000000000000000) (h0 : 0 ≤ a) (h1 : a ≤ 1000000000000000) : Ev (fun k => laws_heldIntS.f k (marksL n a) a) (a + (n : Int)) := by
  have h := laws_heldIntS.l0_ev n a hl h0 h1 n 0 (by omega)
  unfold laws_heldIntS.f
  simpa using h

theorem rd_last (x : List Int) (v : Int) : rd (x ++ [v]) (x.length : Int) = v := by
  rw [aid_rd _ x.length (by simp)]
  simp
theorem set_last (x : List Int) (v u : Int) : (x ++ [v]).set x.length u = x ++ [u] := by
  rw [List.set_append_right _ _ (by omega), Nat.sub_self]
  rfl
theorem len_snoc (x : List Int) (v : Int) : ((x ++ [v]).length : Int) = (x.length : Int) + 1 := by simp
theorem runs_same (l : List Int) (hl : l.length ≤ 200) : ∀ (d i : Nat) (o : List Int), i + d = l.length → o.length ≤ i → (0 < i → 0 < o.length) → (∀ v ∈ o, 0 ≤ v ∧ v ≤ (i : Int)) →
    ∃ r : List Int, Ev (fun k => spec_RunsOf.l0 k l o l (l.length : Int) (i : Int)) (r, true) ∧ Ev (fun k => impl_RunsOf.l0 k l o l (l.length : Int) (i : Int)) (r, true) ∧ r.length ≤ l.length := by
  intro d
  induction d with
  | zero =>
    intro i o h h1 h2 h3
    refine ⟨o, Ev.step (f := fun _ => some (o, true)) (fun k => ?_) (Ev.now _), Ev.step (f := fun _ => some (o, true)) (fun k => ?_) (Ev.now _), by omega⟩
    · simp only [spec_RunsOf.l0]
      rw [if_neg (by omega)]
    · simp only [impl_RunsOf.l0]
      rw [if_neg (by omega)]
  | succ d ih =>
    intro i o h h1 h2 h3
    have happ : ∀ v ∈ o ++ [1], 0 ≤ v ∧ v ≤ ((i + 1 : Nat) : Int) := by
      intro v hv
      rcases List.mem_append.1 hv with hv | hv
      · have := h3 v hv
        omega
      · simp at hv
        omega
    have hset : (o ++ [0]).set (wrap64 (((o ++ [0]).length : Int) - 1)).toNat (wrap64 (rd (o ++ [0]) (wrap64 (((o ++ [0]).length : Int) - 1)) + 1)) = o ++ [1] := by
      have e1 : wrap64 (((o ++ [0]).length : Int) - 1) = (o.length : Int) := by
        rw [len_snoc, aid_wr (by omega) (by omega)]
        omega
      rw [e1, rd_last, Int.toNat_natCast, set_last, aid_wr (by omega) (by omega)]
      rfl
    have hw1 : 0 ≤ wrap64 (((o ++ [0]).length : Int) - 1) ∧ wrap64 (((o ++ [0]).length : Int) - 1) < ((o ++ [0]).length : Int) := by
      rw [len_snoc, aid_wr (by omega) (by omega)]
      omega
    have HW := Aside0.mk hw1
    have HSET := Aside0.mk hset
    clear hw1 hset
    by_cases hi0 : i = 0
    · subst hi0
      obtain ⟨r, hr1, hr2, hr3⟩ := ih 1 (o ++ [1]) (by omega) (by rw [List.length_append, List.length_singleton]; omega) (by simp) happ
      refine ⟨r, Ev.step (fun k => ?_) hr1, Ev.step (fun k => ?_) hr2, hr3⟩
      · simp only [spec_RunsOf.l0]
        rw [if_pos (by omega), if_pos (by omega), if_pos (by omega), if_neg (by omega), if_pos (by omega), aid_next (by omega)]
      · simp only [impl_RunsOf.l0]
        rw [if_pos (by omega), if_pos (by omega), if_pos (by omega), if_pos (by omega), if_pos (by omega)]
        simp only [Option.bind_some]
        rw [if_pos HW.out.1, if_pos HW.out.2, HSET.out, aid_next (by omega)]
    · have e1 : ∀ z : Nat, z + 1 = i → wrap64 ((i : Int) - 1) = ((z : Nat) : Int) := by
        intro z hz
        rw [aid_wr (by omega) (by omega)]
        omega
      obtain ⟨z, hz⟩ : ∃ z, z + 1 = i := ⟨i - 1, by omega⟩
      have HE := Aside0.mk (e1 z hz)
      clear e1
      by_cases hc : rd l (z : Int) = rd l (i : Int)
      · obtain ⟨o', v, rfl⟩ : ∃ o' v, o = o' ++ [v] := by
          have hne : o ≠ [] := by intro e; rw [e] at h2; simp at h2; omega
          exact ⟨o.dropLast, o.getLast hne, (List.dropLast_concat_getLast hne).symm⟩
        have hv := h3 v (by simp)
        have hlen : ((o' ++ [v]).length : Int) - 1 = (o'.length : Int) := by simp
        have hlo : o'.length < i := by simp at h1; omega
        have hup : ∀ u ∈ o' ++ [v + 1], 0 ≤ u ∧ u ≤ ((i + 1 : Nat) : Int) := by
          intro u hu
          rcases List.mem_append.1 hu with hu | hu
          · have := h3 u (List.mem_append_left _ hu)
            omega
          · simp at hu
            omega
        obtain ⟨r, hr1, hr2, hr3⟩ := ih (i + 1) (o' ++ [v + 1]) (by omega) (by rw [List.length_append, List.length_singleton] at *; omega) (by simp) hup
        refine ⟨r, Ev.step (fun k => ?_) hr1, Ev.step (fun k => ?_) hr2, hr3⟩
        · simp only [spec_RunsOf.l0]
          rw [if_pos (by omega), if_pos (by omega), if_pos (by omega), if_pos (by omega), HE.out, if_pos (by omega), if_pos (by omega), if_pos hc, hlen, aid_wr (x := (o'.length : Int)) (by omega) (by omega), if_pos (by omega), if_pos (by rw [len_snoc]; omega), rd_last, Int.toNat_natCast, set_last, aid_wr (x := v + 1) (by omega) (by omega), aid_next (by omega)]
        · simp only [impl_RunsOf.l0]
          rw [if_pos (by omega), if_pos (by omega), if_pos (by omega), if_neg (by omega), HE.out, if_pos (by omega), if_pos (by omega), if_pos hc, hlen, aid_wr (x := (o'.length : Int)) (by omega) (by omega), if_pos (by omega), if_pos (by rw [len_snoc]; omega), rd_last, Int.toNat_natCast, set_last, aid_wr (x := v + 1) (by omega) (by omega), aid_next (by omega)]
      · obtain ⟨r, hr1, hr2, hr3⟩ := ih (i + 1) (o ++ [1]) (by omega) (by rw [List.length_append, List.length_singleton]; omega) (by simp) happ
        refine ⟨r, Ev.step (fun k => ?_) hr1, Ev.step (fun k => ?_) hr2, hr3⟩
        · simp only [spec_RunsOf.l0]
          rw [if_pos (by omega), if_pos (by omega), if_pos (by omega), if_pos (by omega), HE.out, if_pos (by omega), if_pos (by omega), if_neg hc, if_pos (by omega), aid_next (by omega)]
        · simp only [impl_RunsOf.l0]
          rw [if_pos (by omega), if_pos (by omega), if_pos (by omega), if_neg (by omega), HE.out, if_pos (by omega), if_pos (by omega), if_neg hc, if_pos (by omega)]
          simp only [Option.bind_some]
          rw [if_pos HW.out.1, if_pos HW.out.2, HSET.out, aid_next (by omega)]
theorem runs_both (l : List Int) : ∃ (w : List Int) (b : Bool), Ev (fun k => spec_RunsOf.f k l) (w, b) ∧ Ev (fun k => impl_RunsOf.f k l) (w, b) ∧ w.length ≤ 200 := by
  unfold spec_RunsOf.f impl_RunsOf.f
  rw [impl_areBits.eq]
  have hb := spec_dmBits.ev l
  cases hB : bitsB l with
  | false =>
    rw [hB] at hb
    exact ⟨[], false, Ev.bind hb (Ev.now _), Ev.now _, by simp⟩
  | true =>
    rw [hB] at hb
    obtain ⟨hl, _⟩ := (bitsB_iff l).1 hB
    obtain ⟨r, h1, h2, h3⟩ := runs_same l hl l.length 0 [] (by omega) (by simp) (by omega) (by simp)
    exact ⟨r, true, Ev.bind hb h1, h2, by omega⟩
theorem FnExactRunsOf : laws_FnExactRunsOf.Pure := by
  intro l _ h8 _
  refine Ev.rounds ?_
  unfold laws_FnExactRunsOf.f
  by_cases hb : (l.length : Int) > 1048576
  · exact Ev.congr (fun k => if_pos hb) (Ev.now _)
  refine Ev.congr (fun k => if_neg hb) ?_
  have hT := laws_toIntS.ev l h8
  obtain ⟨w, b, hs, hi, hw⟩ := runs_both l
  have hE := laws_eqIntS.refl w (by omega)
  have hEl := laws_eqIntS.refl l (by omega)
  have hM := laws_markIntS.ev w 1 (by omega) (by omega) (by omega)
  have hMl := laws_markIntS.ev l 1 (by omega) (by omega) (by omega)
  have hH := laws_heldIntS.ev w.length 1 (by omega) (by omega) (by omega)
  have hNb : ¬ ((b != b) = true) := by cases b <;> decide
  have hN1 : ¬ (1 + (w.length : Int) < 0) := by omega
  have hN2 : ¬ (1 + (l.length : Int) < 0) := by omega
  repeat (first
    | exact Ev.now _
    | ((with_reducible refine Ev.bind hT ?_); try dsimp only)
    | ((with_reducible refine Ev.bind hs ?_); try dsimp only)
    | ((with_reducible refine Ev.bind hi ?_); try dsimp only)
    | ((with_reducible refine Ev.bind hE ?_); try dsimp only)
    | ((with_reducible refine Ev.bind hEl ?_); try dsimp only)
    | ((with_reducible refine Ev.bind hM ?_); try dsimp only)
    | ((with_reducible refine Ev.bind hMl ?_); try dsimp only)
    | ((with_reducible refine Ev.bind hH ?_); try dsimp only)
    | (with_reducible refine Ev.congr (fun k => if_pos rfl) ?_)
    | (with_reducible refine Ev.congr (fun k => if_neg hNb) ?_)
    | (with_reducible refine Ev.congr (fun k => if_neg hN1) ?_)
    | (with_reducible refine Ev.congr (fun k => if_neg hN2) ?_)
    | (refine aid_ev_succ ?_; simp only [laws_FnExactRunsOf.j0, laws_FnExactRunsOf.j1, laws_FnExactRunsOf.j2]; try dsimp only))

end Go.Proofs.Ytmhmljodeenkmaa.Pure
