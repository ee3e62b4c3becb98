-- Written by this session's pp.py over the kit's print.
import Derived.Test.YtmkcmclochhkeaaPFnExactOrderPartsx0
import Derived.Test.YtmkcmclochhkeaaPFnExactOrderPartsx3
namespace Go.Proofs.Ytmkcmclochhkeaa.PFnExactOrderParts
open Go.RowKit Go.Proofs.YtmkcmclochhkeaaW.PrintWords Go.Proofs.YtmkcmclochhkeaaW.PrintLast Go.Proofs.YtmkcmclochhkeaaW.PrintMore
attribute [local go_sem] max2_int min2_int max_two min_two max_three min_three max_four min_four   -- for this text's walks alone
set_option linter.unusedVariables false
set_option linter.unusedSimpArgs false

/-! ### laws_eqFirstS: function 10 -/
def laws_eqFirstS.l0 : Nat → List (S53) → List (S53) → Int → Option (Bool)
  | 0, _, _, _ => none
  | k + 1, x0, x1, x5 => if x5 < (x0.length : Int) then (if 0 ≤ x5 then (if x5 < (x1.length : Int) then ((laws_eqFirst.f ((rd_T53 x0 x5).f0) ((rd_T53 x0 x5).f1) ((rd_T53 x0 x5).f2) ((rd_T53 x0 x5).f3.f0) ((rd_T53 x0 x5).f3.f1) ((rd_T53 x1 x5).f0) ((rd_T53 x1 x5).f1) ((rd_T53 x1 x5).f2) ((rd_T53 x1 x5).f3.f0) ((rd_T53 x1 x5).f3.f1)).bind fun t178 => (if t178 = true then (laws_eqFirstS.l0 k x0 x1 (wrap64 (x5 + 1))) else (some false))) else (none)) else (none)) else (some true)
def laws_eqFirstS.f (k : Nat) (l0 : List (S53)) (l1 : List (S53)) : Option (Bool) := if (l0.length : Int) = (l1.length : Int) then (laws_eqFirstS.l0 k l0 l1 0) else (some false)
theorem laws_eqFirstS.mono_l : ∀ k, (∀ y0 y1 y2, LeO (laws_eqFirstS.l0 k y0 y1 y2) (laws_eqFirstS.l0 (k + 1) y0 y1 y2))
  | 0 => fun _ _ _ r h => by simp [laws_eqFirstS.l0] at h
  | k + 1 => by
    have ih0 := laws_eqFirstS.mono_l k
    · intro y0 y1 y2
      unfold laws_eqFirstS.l0
      repeat' first
      | (with_reducible exact ih0 _ _ _)
      | (with_reducible exact LeO.refl _)
      | (with_reducible exact LeO.none _)
      | (with_reducible refine LeO.ite ?_ ?_)
      | (with_reducible refine LeO.bind ?_ (fun _ => ?_))
      | exact ih0 _ _ _
      | exact LeO.none _
      | refine LeO.ite ?_ ?_
      | refine LeO.bind ?_ (fun _ => ?_)
theorem laws_eqFirstS.mono : ∀ a0 a1 k, LeO (laws_eqFirstS.f k a0 a1) (laws_eqFirstS.f (k + 1) a0 a1) := by
  intro a0 a1 k
  have ih0 := laws_eqFirstS.mono_l k
  unfold laws_eqFirstS.f
  repeat' first
      | (with_reducible exact ih0 _ _ _)
      | (with_reducible exact LeO.refl _)
      | (with_reducible exact LeO.none _)
      | (with_reducible refine LeO.ite ?_ ?_)
      | (with_reducible refine LeO.bind ?_ (fun _ => ?_))
      | exact ih0 _ _ _
      | exact LeO.none _
      | refine LeO.ite ?_ ?_
      | refine LeO.bind ?_ (fun _ => ?_)
def laws_eqFirstS.T6 : Bool × List (List Nat × List Nat) := (true, [([], []), ([], []), ([0, 1], [0, 1]), ([2], [2]), ([], []), ([], []), ([4, 5], [4, 5]), ([6], [6]), ([3, 7], [3, 7]), ([8], [8])])
def laws_eqFirstS.B6 : List Nat := [0, 0, 3, 7, 0, 0, 48, 112, 255, 511]
theorem laws_eqFirstS.tab6 : rtab .any (opsOf Try.f10 6) = laws_eqFirstS.T6 := by kernel_rfl
theorem laws_eqFirstS.bits6 : waitsOk laws_eqFirstS.T6.2 laws_eqFirstS.B6 = true := by kernel_rfl
set_option maxHeartbeats 8000000 in
set_option maxRecDepth 100000 in
theorem laws_eqFirstS.calls (k : Nat) (A0 : Option Addr) (c0 : Nat) (l0 : List (S53)) (A1 : Option Addr) (c1 : Nat) (l1 : List (S53)) (r : Bool) (w : World) (hr0 : Kd.C k53 w A0 l0.length l0) (hc0 : l0.length ≤ c0) (hr1 : Kd.C k53 w A1 l1.length l1) (hc1 : l1.length ≤ c1) (h : laws_eqFirstS.f k l0 l1 = some r) :
    Calls Try.prog 10 #[.slice A0 l0.length c0, .slice A1 l1.length c1] w fun e w' => e = .returned (.bool r) ∧ Below w.heap.size w w' := by
  have hu53 := Try.underlying53
  have HR0 := Aside0.mk hr0
  have HC0 := Aside0.mk hc0
  clear hr0 hc0
  have HR1 := Aside0.mk hr1
  have HC1 := Aside0.mk hc1
  clear hr1 hc1
  have HB := Aside0.mk (Below.refl w.heap.size w)
  have H : (if (l0.length : Int) = (l1.length : Int) then (laws_eqFirstS.l0 k l0 l1 0) else (some false)) = some r := h
  clear h
  by_cases c3 : (l0.length : Int) = (l1.length : Int)
  · rw [if_pos c3] at H
    have c3b0 : ((l0.length : Int) == (l1.length : Int)) = true := beq_iff_eq.mpr c3
    have c3b1 : ((l0.length : Int) != (l1.length : Int)) = false := bne_eq_false_iff_eq.mpr c3
    have c3b2 : (l0.length == l1.length) = true := by first | simpa using c3 | (simp at c3 ⊢; omega)
    clear c3
    have H' := Aside0.mk H
    clear H
    go_enter Try.func10, Try.ntmps10
    go_wp2
    go_loopg [5] k (fun kq v5 w' => ∃ (x5_1 : Int), v5 = .int .i64 x5_1 ∧ Aside0 (laws_eqFirstS.l0 kq l0 l1 x5_1 = some r) ∧ Aside0 (kq ≤ k) ∧ Aside0 (Below w.heap.size w w'))
    case atStart => exact ⟨(0), (by first | rfl | (simp; done) | (simp [*]; done)), H', ⟨Nat.le_refl _⟩, ⟨by repeat (first | (with_reducible first | exact HB.out | apply below_alloc | apply pw_below_drewN | apply below_drew1) | exact HB.out)⟩⟩
    case round =>
      clear H'
      try clear c1
      try clear p2
      try clear c3
      try clear c3b0
      try clear c3b1
      try clear c3b2
      obtain ⟨x5_1, rfl, HA, HK1, HB⟩ := hrel
      cases gk with
      | zero => exact absurd HA.out (by simp [laws_eqFirstS.l0])
      | succ k1 =>
        have H := HA.out
        clear HA
        simp only [laws_eqFirstS.l0] at H
        by_cases c4 : x5_1 < (l0.length : Int)
        · rw [if_pos c4] at H
          have c4b0 : decide (x5_1 < (l0.length : Int)) = true := decide_eq_true c4
          clear c4
          by_cases c5 : 0 ≤ x5_1
          · rw [if_pos c5] at H
            have c5b0 : decide (0 ≤ x5_1) = true := decide_eq_true c5
            clear c5
            by_cases c6 : x5_1 < (l1.length : Int)
            · rw [if_pos c6] at H
              have c6b0 : decide (x5_1 < (l1.length : Int)) = true := decide_eq_true c6
              clear c6
              replace H := Option.bind_eq_some_iff.mp H
              obtain ⟨t178, A70, H⟩ := H
              replace H : (if t178 = true then (laws_eqFirstS.l0 k1 l0 l1 (wrap64 (x5_1 + 1))) else (some false)) = some r := H
              have A7 := Aside0.mk A70
              clear A70
              by_cases c8 : t178 = true
              · subst c8
                have H1 : (laws_eqFirstS.l0 k1 l0 l1 (wrap64 (x5_1 + 1))) = some r := by rw [if_pos rfl] at H; exact H
                clear H
                have H := H1
                clear H1
                have H' := Aside0.mk H
                clear H
                try go_wp2
                have n0_ := Aside0.mk (below_drew1 HB.out)
                clear HB
                have HB := n0_
                clear n0_
                have p176 : 0 ≤ (x5_1 : Int) := of_decide_eq_true (by first | (with_reducible assumption) | assumption)
                have q176 : x5_1 < (l0.length : Int) := of_decide_eq_true (by first | (with_reducible assumption) | assumption)
                obtain ⟨ad176, e176, hx176_0, hx176_1, hx176_2, hx176_3, hx176_4⟩ := at_T53 HR0.out x5_1 p176 q176
                have hw176_4 := hx176_4
                have hw176_3 := hx176_3
                have hw176_2 := hx176_2
                have hw176_1 := hx176_1
                have hw176_0 := hx176_0
                cases e176
                try replace hx176_0 := (HB.out.cell (World.block_lt_of_cell? w _ hx176_0)).trans hx176_0
                try replace hx176_1 := (HB.out.cell (World.block_lt_of_cell? w _ hx176_1)).trans hx176_1
                try replace hx176_2 := (HB.out.cell (World.block_lt_of_cell? w _ hx176_2)).trans hx176_2
                try replace hx176_3 := (HB.out.cell (World.block_lt_of_cell? w _ hx176_3)).trans hx176_3
                try replace hx176_4 := (HB.out.cell (World.block_lt_of_cell? w _ hx176_4)).trans hx176_4
                replace p176 := eq_true p176
                replace q176 := eq_true q176
                have p177 : 0 ≤ (x5_1 : Int) := of_decide_eq_true (by first | (with_reducible assumption) | assumption)
                have q177 : x5_1 < (l1.length : Int) := of_decide_eq_true (by first | (with_reducible assumption) | assumption)
                obtain ⟨ad177, e177, hx177_0, hx177_1, hx177_2, hx177_3, hx177_4⟩ := at_T53 HR1.out x5_1 p177 q177
                have hw177_4 := hx177_4
                have hw177_3 := hx177_3
                have hw177_2 := hx177_2
                have hw177_1 := hx177_1
                have hw177_0 := hx177_0
                cases e177
                try replace hx177_0 := (HB.out.cell (World.block_lt_of_cell? w _ hx177_0)).trans hx177_0
                try replace hx177_1 := (HB.out.cell (World.block_lt_of_cell? w _ hx177_1)).trans hx177_1
                try replace hx177_2 := (HB.out.cell (World.block_lt_of_cell? w _ hx177_2)).trans hx177_2
                try replace hx177_3 := (HB.out.cell (World.block_lt_of_cell? w _ hx177_3)).trans hx177_3
                try replace hx177_4 := (HB.out.cell (World.block_lt_of_cell? w _ hx177_4)).trans hx177_4
                replace p177 := eq_true p177
                replace q177 := eq_true q177
                refine start_ (n := 10) (S := fun w' => w'.cell? (ad176.add ((x5_1).toNat * 5)) = some (.int .i64 ((rd_T53 l0 x5_1).f0)) ∧ w'.cell? ⟨(ad176.add ((x5_1).toNat * 5)).block, (ad176.add ((x5_1).toNat * 5)).off + 1, none⟩ = some (.int .i64 ((rd_T53 l0 x5_1).f1)) ∧ w'.cell? ⟨(ad176.add ((x5_1).toNat * 5)).block, (ad176.add ((x5_1).toNat * 5)).off + 2, none⟩ = some (.int .i64 ((rd_T53 l0 x5_1).f2)) ∧ w'.cell? ⟨(ad176.add ((x5_1).toNat * 5)).block, (ad176.add ((x5_1).toNat * 5)).off + 3, none⟩ = some (.int .i64 ((rd_T53 l0 x5_1).f3.f0)) ∧ w'.cell? ⟨(ad176.add ((x5_1).toNat * 5)).block, (ad176.add ((x5_1).toNat * 5)).off + 4, none⟩ = some (.bool ((rd_T53 l0 x5_1).f3.f1)) ∧ w'.cell? (ad177.add ((x5_1).toNat * 5)) = some (.int .i64 ((rd_T53 l1 x5_1).f0)) ∧ w'.cell? ⟨(ad177.add ((x5_1).toNat * 5)).block, (ad177.add ((x5_1).toNat * 5)).off + 1, none⟩ = some (.int .i64 ((rd_T53 l1 x5_1).f1)) ∧ w'.cell? ⟨(ad177.add ((x5_1).toNat * 5)).block, (ad177.add ((x5_1).toNat * 5)).off + 2, none⟩ = some (.int .i64 ((rd_T53 l1 x5_1).f2)) ∧ w'.cell? ⟨(ad177.add ((x5_1).toNat * 5)).block, (ad177.add ((x5_1).toNat * 5)).off + 3, none⟩ = some (.int .i64 ((rd_T53 l1 x5_1).f3.f0)) ∧ w'.cell? ⟨(ad177.add ((x5_1).toNat * 5)).block, (ad177.add ((x5_1).toNat * 5)).off + 4, none⟩ = some (.bool ((rd_T53 l1 x5_1).f3.f1))) (ds := []) #[false, false, false, false, false, false, false, false, false, false] (by kernel_rfl) rfl rfl ⟨((HB.out.cell (World.block_lt_of_cell? w _ hw176_0)).trans hw176_0), ((HB.out.cell (World.block_lt_of_cell? w _ hw176_1)).trans hw176_1), ((HB.out.cell (World.block_lt_of_cell? w _ hw176_2)).trans hw176_2), ((HB.out.cell (World.block_lt_of_cell? w _ hw176_3)).trans hw176_3), ((HB.out.cell (World.block_lt_of_cell? w _ hw176_4)).trans hw176_4), ((HB.out.cell (World.block_lt_of_cell? w _ hw177_0)).trans hw177_0), ((HB.out.cell (World.block_lt_of_cell? w _ hw177_1)).trans hw177_1), ((HB.out.cell (World.block_lt_of_cell? w _ hw177_2)).trans hw177_2), ((HB.out.cell (World.block_lt_of_cell? w _ hw177_3)).trans hw177_3), ((HB.out.cell (World.block_lt_of_cell? w _ hw177_4)).trans hw177_4)⟩ (fun hHeld => ?_); refine with_tabW laws_eqFirstS.tab6 laws_eqFirstS.bits6 (fun HT_ HW_ => ?_)
                generalize wr.drew = w9 at HB hx176_0 hx176_1 hx176_2 hx176_3 hx176_4 hx177_0 hx177_1 hx177_2 hx177_3 hx177_4 hHeld ⊢
                refine pure_ (i := 0) (N := some 17) (v := ?_) (a' := ?_) #[true, false, false, false, false, false, false, false, false, false] rfl rfl (any_of HT_.out (by kernel_rfl)) (fun _ _ _ h => h) (Or.inl ⟨by rfl, ?_⟩) ?_ ?_
                rotate_left
                · intro w'
                  go_simp
                  with_reducible rfl
                rotate_left
                · simp only [Act.put, List.setIfInBounds_toArray, List.set_cons_zero, List.set_cons_succ, i64_w, i32_w]
                  rfl
                refine pure_ (i := 1) (N := some 18) (v := ?_) (a' := ?_) #[true, true, false, false, false, false, false, false, false, false] rfl rfl (any_of HT_.out (by kernel_rfl)) (fun _ _ _ h => h) (Or.inl ⟨by rfl, ?_⟩) ?_ ?_
                rotate_left
                · intro w'
                  go_simp
                  with_reducible rfl
                rotate_left
                · simp only [Act.put, List.setIfInBounds_toArray, List.set_cons_zero, List.set_cons_succ, i64_w, i32_w]
                  rfl
                refine pure_ (i := 2) (N := some 19) (v := ?_) (a' := ?_) #[true, true, true, false, false, false, false, false, false, false] rfl rfl (any_of HT_.out (by kernel_rfl)) (fun _ _ _ h => h) (Or.inl ⟨by rfl, ?_⟩) ?_ ?_
                rotate_left
                · intro w'
                  go_simp
                  with_reducible rfl
                rotate_left
                · simp only [Act.put, List.setIfInBounds_toArray, List.set_cons_zero, List.set_cons_succ, i64_w, i32_w]
                  rfl
                refine pure_ (i := 4) (N := some 21) (v := ?_) (a' := ?_) #[true, true, true, false, true, false, false, false, false, false] rfl rfl (any_of HT_.out (by kernel_rfl)) (fun _ _ _ h => h) (Or.inl ⟨by rfl, ?_⟩) ?_ ?_
                rotate_left
                · intro w'
                  go_simp
                  with_reducible rfl
                rotate_left
                · simp only [Act.put, List.setIfInBounds_toArray, List.set_cons_zero, List.set_cons_succ, i64_w, i32_w]
                  rfl
                refine pure_ (i := 5) (N := some 22) (v := ?_) (a' := ?_) #[true, true, true, false, true, true, false, false, false, false] rfl rfl (any_of HT_.out (by kernel_rfl)) (fun _ _ _ h => h) (Or.inl ⟨by rfl, ?_⟩) ?_ ?_
                rotate_left
                · intro w'
                  go_simp
                  with_reducible rfl
                rotate_left
                · simp only [Act.put, List.setIfInBounds_toArray, List.set_cons_zero, List.set_cons_succ, i64_w, i32_w]
                  rfl
                refine pure_ (i := 6) (N := some 23) (v := ?_) (a' := ?_) #[true, true, true, false, true, true, true, false, false, false] rfl rfl (any_of HT_.out (by kernel_rfl)) (fun _ _ _ h => h) (Or.inl ⟨by rfl, ?_⟩) ?_ ?_
                rotate_left
                · intro w'
                  go_simp
                  with_reducible rfl
                rotate_left
                · simp only [Act.put, List.setIfInBounds_toArray, List.set_cons_zero, List.set_cons_succ, i64_w, i32_w]
                  rfl
                refine take_ (i := 3) (N := some 20) (v := ?_) (a' := ?_) #[true, true, true, true, true, true, true, false, false, false] rfl rfl (take_ofW HT_.out HW_.out (by kernel_rfl)) (fun _ _ _ h => h) (Or.inl ⟨by rfl, ?_⟩) hHeld ?_ ?_
                rotate_left
                · rintro w' ⟨s0, s1, s2, s3, s4, s5, s6, s7, s8, s9⟩
                  go_simp
                  with_reducible rfl
                rotate_left
                · simp only [Act.put, List.setIfInBounds_toArray, List.set_cons_zero, List.set_cons_succ, i64_w, i32_w]
                  rfl
                refine take_ (i := 7) (N := some 24) (v := ?_) (a' := ?_) #[true, true, true, true, true, true, true, true, false, false] rfl rfl (take_ofW HT_.out HW_.out (by kernel_rfl)) (fun _ _ _ h => h) (Or.inl ⟨by rfl, ?_⟩) hHeld ?_ ?_
                rotate_left
                · rintro w' ⟨s0, s1, s2, s3, s4, s5, s6, s7, s8, s9⟩
                  go_simp
                  with_reducible rfl
                rotate_left
                · simp only [Act.put, List.setIfInBounds_toArray, List.set_cons_zero, List.set_cons_succ, i64_w, i32_w]
                  rfl
                refine one_ (i := 8) (N := some 25) #[true, true, true, true, true, true, true, true, true, false] rfl rfl (one_of HT_.out (by kernel_rfl)) (by decide) (fun K hK => ?_)
                refine goes_ Try.func28 (by kernel_rfl) rfl #[.agg #[.int .i64 ((rd_T53 l0 x5_1).f0), .int .i64 ((rd_T53 l0 x5_1).f1), .int .i64 ((rd_T53 l0 x5_1).f2), .int .i64 ((rd_T53 l0 x5_1).f3.f0), .bool ((rd_T53 l0 x5_1).f3.f1)], .agg #[.int .i64 ((rd_T53 l1 x5_1).f0), .int .i64 ((rd_T53 l1 x5_1).f1), .int .i64 ((rd_T53 l1 x5_1).f2), .int .i64 ((rd_T53 l1 x5_1).f3.f0), .bool ((rd_T53 l1 x5_1).f3.f1)]] (by rfl) rfl rfl (by (try simp only [List.map_toArray, List.map_cons, List.map_nil]); first | done | rfl | (simp only [List.length_drop, List.length_take]; rfl)) ?_
                with_reducible refine (laws_eqFirst.calls ((rd_T53 l0 x5_1).f0) ((rd_T53 l0 x5_1).f1) ((rd_T53 l0 x5_1).f2) ((rd_T53 l0 x5_1).f3.f0) ((rd_T53 l0 x5_1).f3.f1) ((rd_T53 l1 x5_1).f0) ((rd_T53 l1 x5_1).f1) ((rd_T53 l1 x5_1).f2) ((rd_T53 l1 x5_1).f3.f0) ((rd_T53 l1 x5_1).f3.f1) true _ A7.out).mono ?_
                rintro e w10 ⟨rfl, hb⟩
                refine ⟨_, rfl, ?_⟩
                have n0_ := Aside0.mk (below_step (by repeat (first | (with_reducible first | exact HB.out | apply below_alloc | apply pw_below_drewN | apply below_drew1) | exact HB.out)) hb)
                clear HB
                have HB := n0_
                clear n0_
                (try clear hb)
                (try clear hb2)
                (try clear hk)
                (try clear hi)
                refine hK.out _ _ ⟨((HB.out.cell (World.block_lt_of_cell? w _ hw176_0)).trans hw176_0), ((HB.out.cell (World.block_lt_of_cell? w _ hw176_1)).trans hw176_1), ((HB.out.cell (World.block_lt_of_cell? w _ hw176_2)).trans hw176_2), ((HB.out.cell (World.block_lt_of_cell? w _ hw176_3)).trans hw176_3), ((HB.out.cell (World.block_lt_of_cell? w _ hw176_4)).trans hw176_4), ((HB.out.cell (World.block_lt_of_cell? w _ hw177_0)).trans hw177_0), ((HB.out.cell (World.block_lt_of_cell? w _ hw177_1)).trans hw177_1), ((HB.out.cell (World.block_lt_of_cell? w _ hw177_2)).trans hw177_2), ((HB.out.cell (World.block_lt_of_cell? w _ hw177_3)).trans hw177_3), ((HB.out.cell (World.block_lt_of_cell? w _ hw177_4)).trans hw177_4)⟩ (fun hHeld => ?_)
                clear hK K
                refine norm_ (a' := ?_) ?_ ?_
                rotate_left
                · show Act.put _ (some 25) _ = _
                  simp only [Act.put, List.setIfInBounds_toArray, List.set_cons_zero, List.set_cons_succ, i64_w, i32_w]
                  rfl
                refine pure_ (i := 9) (N := some 26) (v := ?_) (a' := ?_) #[true, true, true, true, true, true, true, true, true, true] rfl rfl (any_of HT_.out (by kernel_rfl)) (fun _ _ _ h => h) (Or.inl ⟨by rfl, ?_⟩) ?_ ?_
                rotate_left
                · intro w'
                  go_simp
                  with_reducible rfl
                rotate_left
                · simp only [Act.put, List.setIfInBounds_toArray, List.set_cons_zero, List.set_cons_succ, i64_w, i32_w]
                  rfl
                refine done_ (done_of HT_.out (by kernel_rfl)) ?_
                try go_wp2
                go_roundg k1
                case measure => have := HK1.out; omega
                case rel => exact ⟨(wrap64 (x5_1 + 1)), (by first | rfl | (simp; done) | (simp [*]; done)), H', ⟨by have := HK1.out; omega⟩, ⟨by repeat (first | (with_reducible first | exact HB.out | apply below_alloc | apply pw_below_drewN | apply below_drew1) | exact HB.out)⟩⟩
              · replace c8 := Bool.eq_false_iff.mpr c8
                subst c8
                have H1 : (some false) = some r := by rw [if_neg (show ¬ (false = true) by decide)] at H; exact H
                clear H
                have H := H1
                clear H1
                obtain rfl := Option.some.inj H
                try go_wp2
                have n0_ := Aside0.mk (below_drew1 HB.out)
                clear HB
                have HB := n0_
                clear n0_
                have p176 : 0 ≤ (x5_1 : Int) := of_decide_eq_true (by first | (with_reducible assumption) | assumption)
                have q176 : x5_1 < (l0.length : Int) := of_decide_eq_true (by first | (with_reducible assumption) | assumption)
                obtain ⟨ad176, e176, hx176_0, hx176_1, hx176_2, hx176_3, hx176_4⟩ := at_T53 HR0.out x5_1 p176 q176
                have hw176_4 := hx176_4
                have hw176_3 := hx176_3
                have hw176_2 := hx176_2
                have hw176_1 := hx176_1
                have hw176_0 := hx176_0
                cases e176
                try replace hx176_0 := (HB.out.cell (World.block_lt_of_cell? w _ hx176_0)).trans hx176_0
                try replace hx176_1 := (HB.out.cell (World.block_lt_of_cell? w _ hx176_1)).trans hx176_1
                try replace hx176_2 := (HB.out.cell (World.block_lt_of_cell? w _ hx176_2)).trans hx176_2
                try replace hx176_3 := (HB.out.cell (World.block_lt_of_cell? w _ hx176_3)).trans hx176_3
                try replace hx176_4 := (HB.out.cell (World.block_lt_of_cell? w _ hx176_4)).trans hx176_4
                replace p176 := eq_true p176
                replace q176 := eq_true q176
                have p177 : 0 ≤ (x5_1 : Int) := of_decide_eq_true (by first | (with_reducible assumption) | assumption)
                have q177 : x5_1 < (l1.length : Int) := of_decide_eq_true (by first | (with_reducible assumption) | assumption)
                obtain ⟨ad177, e177, hx177_0, hx177_1, hx177_2, hx177_3, hx177_4⟩ := at_T53 HR1.out x5_1 p177 q177
                have hw177_4 := hx177_4
                have hw177_3 := hx177_3
                have hw177_2 := hx177_2
                have hw177_1 := hx177_1
                have hw177_0 := hx177_0
                cases e177
                try replace hx177_0 := (HB.out.cell (World.block_lt_of_cell? w _ hx177_0)).trans hx177_0
                try replace hx177_1 := (HB.out.cell (World.block_lt_of_cell? w _ hx177_1)).trans hx177_1
                try replace hx177_2 := (HB.out.cell (World.block_lt_of_cell? w _ hx177_2)).trans hx177_2
                try replace hx177_3 := (HB.out.cell (World.block_lt_of_cell? w _ hx177_3)).trans hx177_3
                try replace hx177_4 := (HB.out.cell (World.block_lt_of_cell? w _ hx177_4)).trans hx177_4
                replace p177 := eq_true p177
                replace q177 := eq_true q177
                refine start_ (n := 10) (S := fun w' => w'.cell? (ad176.add ((x5_1).toNat * 5)) = some (.int .i64 ((rd_T53 l0 x5_1).f0)) ∧ w'.cell? ⟨(ad176.add ((x5_1).toNat * 5)).block, (ad176.add ((x5_1).toNat * 5)).off + 1, none⟩ = some (.int .i64 ((rd_T53 l0 x5_1).f1)) ∧ w'.cell? ⟨(ad176.add ((x5_1).toNat * 5)).block, (ad176.add ((x5_1).toNat * 5)).off + 2, none⟩ = some (.int .i64 ((rd_T53 l0 x5_1).f2)) ∧ w'.cell? ⟨(ad176.add ((x5_1).toNat * 5)).block, (ad176.add ((x5_1).toNat * 5)).off + 3, none⟩ = some (.int .i64 ((rd_T53 l0 x5_1).f3.f0)) ∧ w'.cell? ⟨(ad176.add ((x5_1).toNat * 5)).block, (ad176.add ((x5_1).toNat * 5)).off + 4, none⟩ = some (.bool ((rd_T53 l0 x5_1).f3.f1)) ∧ w'.cell? (ad177.add ((x5_1).toNat * 5)) = some (.int .i64 ((rd_T53 l1 x5_1).f0)) ∧ w'.cell? ⟨(ad177.add ((x5_1).toNat * 5)).block, (ad177.add ((x5_1).toNat * 5)).off + 1, none⟩ = some (.int .i64 ((rd_T53 l1 x5_1).f1)) ∧ w'.cell? ⟨(ad177.add ((x5_1).toNat * 5)).block, (ad177.add ((x5_1).toNat * 5)).off + 2, none⟩ = some (.int .i64 ((rd_T53 l1 x5_1).f2)) ∧ w'.cell? ⟨(ad177.add ((x5_1).toNat * 5)).block, (ad177.add ((x5_1).toNat * 5)).off + 3, none⟩ = some (.int .i64 ((rd_T53 l1 x5_1).f3.f0)) ∧ w'.cell? ⟨(ad177.add ((x5_1).toNat * 5)).block, (ad177.add ((x5_1).toNat * 5)).off + 4, none⟩ = some (.bool ((rd_T53 l1 x5_1).f3.f1))) (ds := []) #[false, false, false, false, false, false, false, false, false, false] (by kernel_rfl) rfl rfl ⟨((HB.out.cell (World.block_lt_of_cell? w _ hw176_0)).trans hw176_0), ((HB.out.cell (World.block_lt_of_cell? w _ hw176_1)).trans hw176_1), ((HB.out.cell (World.block_lt_of_cell? w _ hw176_2)).trans hw176_2), ((HB.out.cell (World.block_lt_of_cell? w _ hw176_3)).trans hw176_3), ((HB.out.cell (World.block_lt_of_cell? w _ hw176_4)).trans hw176_4), ((HB.out.cell (World.block_lt_of_cell? w _ hw177_0)).trans hw177_0), ((HB.out.cell (World.block_lt_of_cell? w _ hw177_1)).trans hw177_1), ((HB.out.cell (World.block_lt_of_cell? w _ hw177_2)).trans hw177_2), ((HB.out.cell (World.block_lt_of_cell? w _ hw177_3)).trans hw177_3), ((HB.out.cell (World.block_lt_of_cell? w _ hw177_4)).trans hw177_4)⟩ (fun hHeld => ?_); refine with_tabW laws_eqFirstS.tab6 laws_eqFirstS.bits6 (fun HT_ HW_ => ?_)
                generalize wr.drew = w11 at HB hx176_0 hx176_1 hx176_2 hx176_3 hx176_4 hx177_0 hx177_1 hx177_2 hx177_3 hx177_4 hHeld ⊢
                refine pure_ (i := 0) (N := some 17) (v := ?_) (a' := ?_) #[true, false, false, false, false, false, false, false, false, false] rfl rfl (any_of HT_.out (by kernel_rfl)) (fun _ _ _ h => h) (Or.inl ⟨by rfl, ?_⟩) ?_ ?_
                rotate_left
                · intro w'
                  go_simp
                  with_reducible rfl
                rotate_left
                · simp only [Act.put, List.setIfInBounds_toArray, List.set_cons_zero, List.set_cons_succ, i64_w, i32_w]
                  rfl
                refine pure_ (i := 1) (N := some 18) (v := ?_) (a' := ?_) #[true, true, false, false, false, false, false, false, false, false] rfl rfl (any_of HT_.out (by kernel_rfl)) (fun _ _ _ h => h) (Or.inl ⟨by rfl, ?_⟩) ?_ ?_
                rotate_left
                · intro w'
                  go_simp
                  with_reducible rfl
                rotate_left
                · simp only [Act.put, List.setIfInBounds_toArray, List.set_cons_zero, List.set_cons_succ, i64_w, i32_w]
                  rfl
                refine pure_ (i := 2) (N := some 19) (v := ?_) (a' := ?_) #[true, true, true, false, false, false, false, false, false, false] rfl rfl (any_of HT_.out (by kernel_rfl)) (fun _ _ _ h => h) (Or.inl ⟨by rfl, ?_⟩) ?_ ?_
                rotate_left
                · intro w'
                  go_simp
                  with_reducible rfl
                rotate_left
                · simp only [Act.put, List.setIfInBounds_toArray, List.set_cons_zero, List.set_cons_succ, i64_w, i32_w]
                  rfl
                refine pure_ (i := 4) (N := some 21) (v := ?_) (a' := ?_) #[true, true, true, false, true, false, false, false, false, false] rfl rfl (any_of HT_.out (by kernel_rfl)) (fun _ _ _ h => h) (Or.inl ⟨by rfl, ?_⟩) ?_ ?_
                rotate_left
                · intro w'
                  go_simp
                  with_reducible rfl
                rotate_left
                · simp only [Act.put, List.setIfInBounds_toArray, List.set_cons_zero, List.set_cons_succ, i64_w, i32_w]
                  rfl
                refine pure_ (i := 5) (N := some 22) (v := ?_) (a' := ?_) #[true, true, true, false, true, true, false, false, false, false] rfl rfl (any_of HT_.out (by kernel_rfl)) (fun _ _ _ h => h) (Or.inl ⟨by rfl, ?_⟩) ?_ ?_
                rotate_left
                · intro w'
                  go_simp
                  with_reducible rfl
                rotate_left
                · simp only [Act.put, List.setIfInBounds_toArray, List.set_cons_zero, List.set_cons_succ, i64_w, i32_w]
                  rfl
                refine pure_ (i := 6) (N := some 23) (v := ?_) (a' := ?_) #[true, true, true, false, true, true, true, false, false, false] rfl rfl (any_of HT_.out (by kernel_rfl)) (fun _ _ _ h => h) (Or.inl ⟨by rfl, ?_⟩) ?_ ?_
                rotate_left
                · intro w'
                  go_simp
                  with_reducible rfl
                rotate_left
                · simp only [Act.put, List.setIfInBounds_toArray, List.set_cons_zero, List.set_cons_succ, i64_w, i32_w]
                  rfl
                refine take_ (i := 3) (N := some 20) (v := ?_) (a' := ?_) #[true, true, true, true, true, true, true, false, false, false] rfl rfl (take_ofW HT_.out HW_.out (by kernel_rfl)) (fun _ _ _ h => h) (Or.inl ⟨by rfl, ?_⟩) hHeld ?_ ?_
                rotate_left
                · rintro w' ⟨s0, s1, s2, s3, s4, s5, s6, s7, s8, s9⟩
                  go_simp
                  with_reducible rfl
                rotate_left
                · simp only [Act.put, List.setIfInBounds_toArray, List.set_cons_zero, List.set_cons_succ, i64_w, i32_w]
                  rfl
                refine take_ (i := 7) (N := some 24) (v := ?_) (a' := ?_) #[true, true, true, true, true, true, true, true, false, false] rfl rfl (take_ofW HT_.out HW_.out (by kernel_rfl)) (fun _ _ _ h => h) (Or.inl ⟨by rfl, ?_⟩) hHeld ?_ ?_
                rotate_left
                · rintro w' ⟨s0, s1, s2, s3, s4, s5, s6, s7, s8, s9⟩
                  go_simp
                  with_reducible rfl
                rotate_left
                · simp only [Act.put, List.setIfInBounds_toArray, List.set_cons_zero, List.set_cons_succ, i64_w, i32_w]
                  rfl
                refine one_ (i := 8) (N := some 25) #[true, true, true, true, true, true, true, true, true, false] rfl rfl (one_of HT_.out (by kernel_rfl)) (by decide) (fun K hK => ?_)
                refine goes_ Try.func28 (by kernel_rfl) rfl #[.agg #[.int .i64 ((rd_T53 l0 x5_1).f0), .int .i64 ((rd_T53 l0 x5_1).f1), .int .i64 ((rd_T53 l0 x5_1).f2), .int .i64 ((rd_T53 l0 x5_1).f3.f0), .bool ((rd_T53 l0 x5_1).f3.f1)], .agg #[.int .i64 ((rd_T53 l1 x5_1).f0), .int .i64 ((rd_T53 l1 x5_1).f1), .int .i64 ((rd_T53 l1 x5_1).f2), .int .i64 ((rd_T53 l1 x5_1).f3.f0), .bool ((rd_T53 l1 x5_1).f3.f1)]] (by rfl) rfl rfl (by (try simp only [List.map_toArray, List.map_cons, List.map_nil]); first | done | rfl | (simp only [List.length_drop, List.length_take]; rfl)) ?_
                with_reducible refine (laws_eqFirst.calls ((rd_T53 l0 x5_1).f0) ((rd_T53 l0 x5_1).f1) ((rd_T53 l0 x5_1).f2) ((rd_T53 l0 x5_1).f3.f0) ((rd_T53 l0 x5_1).f3.f1) ((rd_T53 l1 x5_1).f0) ((rd_T53 l1 x5_1).f1) ((rd_T53 l1 x5_1).f2) ((rd_T53 l1 x5_1).f3.f0) ((rd_T53 l1 x5_1).f3.f1) false _ A7.out).mono ?_
                rintro e w12 ⟨rfl, hb⟩
                refine ⟨_, rfl, ?_⟩
                have n0_ := Aside0.mk (below_step (by repeat (first | (with_reducible first | exact HB.out | apply below_alloc | apply pw_below_drewN | apply below_drew1) | exact HB.out)) hb)
                clear HB
                have HB := n0_
                clear n0_
                (try clear hb)
                (try clear hb2)
                (try clear hk)
                (try clear hi)
                refine hK.out _ _ ⟨((HB.out.cell (World.block_lt_of_cell? w _ hw176_0)).trans hw176_0), ((HB.out.cell (World.block_lt_of_cell? w _ hw176_1)).trans hw176_1), ((HB.out.cell (World.block_lt_of_cell? w _ hw176_2)).trans hw176_2), ((HB.out.cell (World.block_lt_of_cell? w _ hw176_3)).trans hw176_3), ((HB.out.cell (World.block_lt_of_cell? w _ hw176_4)).trans hw176_4), ((HB.out.cell (World.block_lt_of_cell? w _ hw177_0)).trans hw177_0), ((HB.out.cell (World.block_lt_of_cell? w _ hw177_1)).trans hw177_1), ((HB.out.cell (World.block_lt_of_cell? w _ hw177_2)).trans hw177_2), ((HB.out.cell (World.block_lt_of_cell? w _ hw177_3)).trans hw177_3), ((HB.out.cell (World.block_lt_of_cell? w _ hw177_4)).trans hw177_4)⟩ (fun hHeld => ?_)
                clear hK K
                refine norm_ (a' := ?_) ?_ ?_
                rotate_left
                · show Act.put _ (some 25) _ = _
                  simp only [Act.put, List.setIfInBounds_toArray, List.set_cons_zero, List.set_cons_succ, i64_w, i32_w]
                  rfl
                refine pure_ (i := 9) (N := some 26) (v := ?_) (a' := ?_) #[true, true, true, true, true, true, true, true, true, true] rfl rfl (any_of HT_.out (by kernel_rfl)) (fun _ _ _ h => h) (Or.inl ⟨by rfl, ?_⟩) ?_ ?_
                rotate_left
                · intro w'
                  go_simp
                  with_reducible rfl
                rotate_left
                · simp only [Act.put, List.setIfInBounds_toArray, List.set_cons_zero, List.set_cons_succ, i64_w, i32_w]
                  rfl
                refine done_ (done_of HT_.out (by kernel_rfl)) ?_
                try go_wp2
                go_ret
                exact ⟨by first | rfl | (simp [errW_none, errW_some] <;> rfl) | (simp [*, errW_none, errW_some] <;> rfl), by repeat (first | (with_reducible first | exact HB.out | apply below_alloc | apply pw_below_drewN | apply below_drew1) | exact HB.out)⟩
            · rw [if_neg c6] at H
              exact absurd H (by simp)
          · rw [if_neg c5] at H
            exact absurd H (by simp)
        · rw [if_neg c4] at H
          have c4b0 : decide (x5_1 < (l0.length : Int)) = false := decide_eq_false c4
          clear c4
          obtain rfl := Option.some.inj H
          go_wp2
          go_ret
          exact ⟨by first | rfl | (simp [errW_none, errW_some] <;> rfl) | (simp [*, errW_none, errW_some] <;> rfl), by repeat (first | (with_reducible first | exact HB.out | apply below_alloc | apply pw_below_drewN | apply below_drew1) | exact HB.out)⟩
  · rw [if_neg c3] at H
    have c3b0 : ((l0.length : Int) == (l1.length : Int)) = false := beq_eq_false_iff_ne.mpr c3
    have c3b1 : ((l0.length : Int) != (l1.length : Int)) = true := bne_iff_ne.mpr c3
    have c3b2 : (l0.length == l1.length) = false := by first | simpa using c3 | (simp at c3 ⊢; omega)
    obtain rfl := Option.some.inj H
    go_enter Try.func10, Try.ntmps10
    go_wp2
    go_ret
    exact ⟨by first | rfl | (simp [errW_none, errW_some] <;> rfl) | (simp [*, errW_none, errW_some] <;> rfl), by repeat (first | (with_reducible first | exact HB.out | apply below_alloc | apply pw_below_drewN | apply below_drew1) | exact HB.out)⟩

/-! ### laws_eqIntS: function 11 -/
def laws_eqIntS.l0 : Nat → List Int → List Int → Int → Option (Bool)
  | 0, _, _, _ => none
  | k + 1, x0, x1, x5 => if x5 < (x0.length : Int) then (if 0 ≤ x5 then (if x5 < (x1.length : Int) then (if (rd x0 x5) = (rd x1 x5) then (laws_eqIntS.l0 k x0 x1 (wrap64 (x5 + 1))) else (some false)) else (none)) else (none)) else (some true)
def laws_eqIntS.f (k : Nat) (l0 : List Int) (l1 : List Int) : Option (Bool) := if (l0.length : Int) = (l1.length : Int) then (laws_eqIntS.l0 k l0 l1 0) else (some false)
theorem laws_eqIntS.mono_l : ∀ k, (∀ y0 y1 y2, LeO (laws_eqIntS.l0 k y0 y1 y2) (laws_eqIntS.l0 (k + 1) y0 y1 y2))
  | 0 => fun _ _ _ r h => by simp [laws_eqIntS.l0] at h
  | k + 1 => by
    have ih0 := laws_eqIntS.mono_l k
    · intro y0 y1 y2
      unfold laws_eqIntS.l0
      repeat' first
      | (with_reducible exact ih0 _ _ _)
      | (with_reducible exact LeO.refl _)
      | (with_reducible exact LeO.none _)
      | (with_reducible refine LeO.ite ?_ ?_)
      | (with_reducible refine LeO.bind ?_ (fun _ => ?_))
      | exact ih0 _ _ _
      | exact LeO.none _
      | refine LeO.ite ?_ ?_
      | refine LeO.bind ?_ (fun _ => ?_)
theorem laws_eqIntS.mono : ∀ a0 a1 k, LeO (laws_eqIntS.f k a0 a1) (laws_eqIntS.f (k + 1) a0 a1) := by
  intro a0 a1 k
  have ih0 := laws_eqIntS.mono_l k
  unfold laws_eqIntS.f
  repeat' first
      | (with_reducible exact ih0 _ _ _)
      | (with_reducible exact LeO.refl _)
      | (with_reducible exact LeO.none _)
      | (with_reducible refine LeO.ite ?_ ?_)
      | (with_reducible refine LeO.bind ?_ (fun _ => ?_))
      | exact ih0 _ _ _
      | exact LeO.none _
      | refine LeO.ite ?_ ?_
      | refine LeO.bind ?_ (fun _ => ?_)
set_option maxHeartbeats 8000000 in
set_option maxRecDepth 100000 in
theorem laws_eqIntS.calls (k : Nat) (A0 : Option Addr) (c0 : Nat) (l0 : List Int) (A1 : Option Addr) (c1 : Nat) (l1 : List Int) (r : Bool) (w : World) (hr0 : Kd.C (Kd.int .i64) w A0 l0.length l0) (hc0 : l0.length ≤ c0) (hr1 : Kd.C (Kd.int .i64) w A1 l1.length l1) (hc1 : l1.length ≤ c1) (h : laws_eqIntS.f k l0 l1 = some r) :
    Calls Try.prog 11 #[.slice A0 l0.length c0, .slice A1 l1.length c1] w fun e w' => e = .returned (.bool r) ∧ Drawn0 w w' := by
  have HR0 := Aside0.mk hr0
  have HC0 := Aside0.mk hc0
  clear hr0 hc0
  have HR1 := Aside0.mk hr1
  have HC1 := Aside0.mk hc1
  clear hr1 hc1
  have H : (if (l0.length : Int) = (l1.length : Int) then (laws_eqIntS.l0 k l0 l1 0) else (some false)) = some r := h
  clear h
  by_cases c3 : (l0.length : Int) = (l1.length : Int)
  · rw [if_pos c3] at H
    have c3b0 : ((l0.length : Int) == (l1.length : Int)) = true := beq_iff_eq.mpr c3
    have c3b1 : ((l0.length : Int) != (l1.length : Int)) = false := bne_eq_false_iff_eq.mpr c3
    have c3b2 : (l0.length == l1.length) = true := by first | simpa using c3 | (simp at c3 ⊢; omega)
    clear c3
    have H' := Aside0.mk H
    clear H
    go_enter Try.func11, Try.ntmps11
    go_wp2
    repeat (go_quiet (fail); try go_wp2)
    go_loopg [5] k (fun kq v5 w' => ∃ (x5_1 : Int), v5 = .int .i64 x5_1 ∧ Aside0 (laws_eqIntS.l0 kq l0 l1 x5_1 = some r) ∧ Aside0 (kq ≤ k) ∧ Drawn0 w w')
    case atStart => exact ⟨(0), (by first | rfl | (simp; done) | (simp [*]; done)), H', ⟨Nat.le_refl _⟩, by repeat (first | exact Drawn0.refl _ | apply Drawn0.step)⟩
    case round =>
      clear H'
      try clear c1
      try clear p2
      try clear c3
      try clear c3b0
      try clear c3b1
      try clear c3b2
      obtain ⟨x5_1, rfl, HA, HK1, ⟨m1, rfl⟩⟩ := hrel
      cases gk with
      | zero => exact absurd HA.out (by simp [laws_eqIntS.l0])
      | succ k1 =>
        have H := HA.out
        clear HA
        simp only [laws_eqIntS.l0] at H
        by_cases c4 : x5_1 < (l0.length : Int)
        · rw [if_pos c4] at H
          have c4b0 : decide (x5_1 < (l0.length : Int)) = true := decide_eq_true c4
          clear c4
          by_cases c5 : 0 ≤ x5_1
          · rw [if_pos c5] at H
            have c5b0 : decide (0 ≤ x5_1) = true := decide_eq_true c5
            clear c5
            by_cases c6 : x5_1 < (l1.length : Int)
            · rw [if_pos c6] at H
              have c6b0 : decide (x5_1 < (l1.length : Int)) = true := decide_eq_true c6
              clear c6
              by_cases c7 : (rd l0 x5_1) = (rd l1 x5_1)
              · rw [if_pos c7] at H
                have c7b0 : ((rd l0 x5_1) == (rd l1 x5_1)) = true := beq_iff_eq.mpr c7
                have c7b1 : ((rd l0 x5_1) != (rd l1 x5_1)) = false := bne_eq_false_iff_eq.mpr c7
                clear c7
                have H' := Aside0.mk H
                clear H
                have p179 : 0 ≤ (x5_1 : Int) := of_decide_eq_true (by first | (with_reducible assumption) | assumption)
                have q179 : x5_1 < (l0.length : Int) := of_decide_eq_true (by first | (with_reducible assumption) | assumption)
                obtain ⟨ad179, e179, hx179_0⟩ := Kd.at_int HR0.out x5_1 p179 q179
                cases e179
                replace p179 := eq_true p179
                replace q179 := eq_true q179
                have p180 : 0 ≤ (x5_1 : Int) := of_decide_eq_true (by first | (with_reducible assumption) | assumption)
                have q180 : x5_1 < (l1.length : Int) := of_decide_eq_true (by first | (with_reducible assumption) | assumption)
                obtain ⟨ad180, e180, hx180_0⟩ := Kd.at_int HR1.out x5_1 p180 q180
                cases e180
                replace p180 := eq_true p180
                replace q180 := eq_true q180
                go_wp2
                repeat (go_quiet (fail); try go_wp2)
                go_roundg k1
                case measure => have := HK1.out; omega
                case rel => exact ⟨(wrap64 (x5_1 + 1)), (by first | rfl | (simp; done) | (simp [*]; done)), H', ⟨by have := HK1.out; omega⟩, by repeat (first | exact Drawn0.refl _ | apply Drawn0.step)⟩
              · rw [if_neg c7] at H
                have c7b0 : ((rd l0 x5_1) == (rd l1 x5_1)) = false := beq_eq_false_iff_ne.mpr c7
                have c7b1 : ((rd l0 x5_1) != (rd l1 x5_1)) = true := bne_iff_ne.mpr c7
                obtain rfl := Option.some.inj H
                have p179 : 0 ≤ (x5_1 : Int) := of_decide_eq_true (by first | (with_reducible assumption) | assumption)
                have q179 : x5_1 < (l0.length : Int) := of_decide_eq_true (by first | (with_reducible assumption) | assumption)
                obtain ⟨ad179, e179, hx179_0⟩ := Kd.at_int HR0.out x5_1 p179 q179
                cases e179
                replace p179 := eq_true p179
                replace q179 := eq_true q179
                have p180 : 0 ≤ (x5_1 : Int) := of_decide_eq_true (by first | (with_reducible assumption) | assumption)
                have q180 : x5_1 < (l1.length : Int) := of_decide_eq_true (by first | (with_reducible assumption) | assumption)
                obtain ⟨ad180, e180, hx180_0⟩ := Kd.at_int HR1.out x5_1 p180 q180
                cases e180
                replace p180 := eq_true p180
                replace q180 := eq_true q180
                go_wp2
                repeat (go_quiet (fail); try go_wp2)
                go_ret
                exact ⟨by first | rfl | (simp; done) | (simp [*]; done), by repeat (first | exact Drawn0.refl _ | apply Drawn0.step)⟩
            · rw [if_neg c6] at H
              exact absurd H (by simp)
          · rw [if_neg c5] at H
            exact absurd H (by simp)
        · rw [if_neg c4] at H
          have c4b0 : decide (x5_1 < (l0.length : Int)) = false := decide_eq_false c4
          clear c4
          obtain rfl := Option.some.inj H
          go_wp2
          repeat (go_quiet (fail); try go_wp2)
          go_ret
          exact ⟨by first | rfl | (simp; done) | (simp [*]; done), by repeat (first | exact Drawn0.refl _ | apply Drawn0.step)⟩
  · rw [if_neg c3] at H
    have c3b0 : ((l0.length : Int) == (l1.length : Int)) = false := beq_eq_false_iff_ne.mpr c3
    have c3b1 : ((l0.length : Int) != (l1.length : Int)) = true := bne_iff_ne.mpr c3
    have c3b2 : (l0.length == l1.length) = false := by first | simpa using c3 | (simp at c3 ⊢; omega)
    obtain rfl := Option.some.inj H
    go_enter Try.func11, Try.ntmps11
    go_wp2
    repeat (go_quiet (fail); try go_wp2)
    go_ret
    exact ⟨by first | rfl | (simp; done) | (simp [*]; done), by repeat (first | exact Drawn0.refl _ | apply Drawn0.step)⟩

/-! ### laws_markFirstS: function 12 -/
def laws_markFirstS.mk (m : Int) : S53 := ⟨m, m + 1, m + 2, ⟨m + 3, decide (Int.tmod (m + 4) 3 = 0)⟩⟩
def laws_markFirstS.l0 : Nat → List (S53) → Int → Int → Option (Int × List (S53))
  | 0, _, _, _ => none
  | k + 1, x0, x1, x5 => if x5 < (x0.length : Int) then (if 0 ≤ x5 ∧ 0 ≤ x1 ∧ x1 ≤ 1000000000000000 ∧ x0.length ≤ 1000000000000 then (laws_markFirstS.l0 k (x0.set (x5 : Int).toNat (laws_markFirstS.mk x1)) (x1 + 5) (x5 + 1)) else none) else some (x1, x0)
def laws_markFirstS.f (k : Nat) (l0 : List (S53)) (a1 : Int) : Option (Int × List (S53)) := laws_markFirstS.l0 k l0 a1 0
theorem laws_markFirstS.mono_l : ∀ k x0 x1 x5, LeO (laws_markFirstS.l0 k x0 x1 x5) (laws_markFirstS.l0 (k + 1) x0 x1 x5)
  | 0, _, _, _ => fun r h => by simp [laws_markFirstS.l0] at h
  | k + 1, x0, x1, x5 => by
    rw [laws_markFirstS.l0, laws_markFirstS.l0]
    exact LeO.ite (LeO.ite (laws_markFirstS.mono_l k _ _ _) (LeO.none _)) (LeO.refl _)
theorem laws_markFirstS.mono : ∀ a0 a1 k, LeO (laws_markFirstS.f k a0 a1) (laws_markFirstS.f (k + 1) a0 a1) := fun a0 a1 k => laws_markFirstS.mono_l k a0 a1 0
def laws_markFirstS.enc (x : S53) : List Value := [.int .i64 x.f0, .int .i64 x.f1, .int .i64 x.f2, .int .i64 x.f3.f0, .bool x.f3.f1]
def laws_markFirstS.flat : List (S53) → List Value
  | [] => []
  | x :: xs => laws_markFirstS.enc x ++ laws_markFirstS.flat xs
theorem laws_markFirstS.flat_len : ∀ xs, (laws_markFirstS.flat xs).length = xs.length * 5
  | [] => rfl
  | x :: xs => by
    rw [laws_markFirstS.flat, List.length_append, laws_markFirstS.flat_len xs, List.length_cons]
    show 5 + _ = _
    omega
theorem laws_markFirstS.flat_seg : ∀ (xs : List (S53)) (j : Nat) (p : S53), xs[j]? = some p → ((laws_markFirstS.flat xs).drop (j * 5)).take 5 = laws_markFirstS.enc p
  | [], j, p, h => by simp at h
  | x :: xs, 0, p, h => by
    simp at h
    subst h
    rfl
  | x :: xs, j + 1, p, h => by
    rw [List.getElem?_cons_succ] at h
    rw [laws_markFirstS.flat, show (j + 1) * 5 = (laws_markFirstS.enc x).length + j * 5 by show _ = 5 + _; omega, List.drop_append]
    have e : (laws_markFirstS.enc x).drop ((laws_markFirstS.enc x).length + j * 5) = [] := List.drop_eq_nil_of_le (by omega)
    rw [e, List.nil_append, Nat.add_sub_cancel_left]
    exact laws_markFirstS.flat_seg xs j p h
theorem laws_markFirstS.flat_of : ∀ (xs : List (S53)) (inner : List Value), inner.length = xs.length * 5 → (∀ j p, xs[j]? = some p → (inner.drop (j * 5)).take 5 = laws_markFirstS.enc p) → inner = laws_markFirstS.flat xs
  | [], inner, h, _ => List.eq_nil_of_length_eq_zero (by simpa using h)
  | x :: xs, inner, h, hs => by
    rw [List.length_cons] at h
    have h0 := hs 0 x rfl
    rw [Nat.zero_mul, List.drop_zero] at h0
    have h1 := laws_markFirstS.flat_of xs (inner.drop 5) (by rw [List.length_drop]; omega) (fun j p hj => by
      have := hs (j + 1) p (by rw [List.getElem?_cons_succ]; exact hj)
      rw [List.drop_drop]
      rwa [show (j + 1) * 5 = 5 + j * 5 by omega] at this)
    rw [laws_markFirstS.flat, ← h0, ← h1, List.take_append_drop]
def laws_markFirstS.set5 (E : List Value) (i : Nat) (x : S53) : List Value := ((((E.set (i * 5) (.int .i64 x.f0)).set (i * 5 + 1) (.int .i64 x.f1)).set (i * 5 + 2) (.int .i64 x.f2)).set (i * 5 + 3) (.int .i64 x.f3.f0)).set (i * 5 + 4) (.bool x.f3.f1)
theorem laws_markFirstS.flat_set : ∀ (xs : List (S53)) (i : Nat) (y : S53), i < xs.length → laws_markFirstS.flat (xs.set i y) = laws_markFirstS.set5 (laws_markFirstS.flat xs) i y
  | [], i, y, h => by simp at h
  | x :: xs, 0, y, h => by
    rw [List.set_cons_zero]
    rfl
  | x :: xs, i + 1, y, h => by
    have ih := laws_markFirstS.flat_set xs i y (by simpa using h)
    rw [List.set_cons_succ, laws_markFirstS.flat, ih, laws_markFirstS.flat]
    have e : ∀ t, (i + 1) * 5 + t = i * 5 + t + 1 + 1 + 1 + 1 + 1 := fun t => by omega
    unfold laws_markFirstS.set5 laws_markFirstS.enc
    rw [e 1, e 2, e 3, e 4, show (i + 1) * 5 = i * 5 + 1 + 1 + 1 + 1 + 1 by omega]
    rfl
theorem laws_markFirstS.openR {W : World} {base : Nat} {ok : Nat → Prop} {v : Value} {xs : List (S53)} (h : Kd.R k53 53 W base ok v xs) : (∀ k, v.ownBlock = some k → ok k) ∧ W.ownsRow base 53 5 v xs.length (laws_markFirstS.flat xs) := by
  obtain ⟨h0, inner, ho, hr⟩ := h
  refine ⟨h0, ?_⟩
  have e := laws_markFirstS.flat_of xs inner (by have := hr.1; exact this) (fun j p hj => k53_openM (hr.2 j p hj))
  rw [← e]
  exact ho
theorem laws_markFirstS.shutR {W : World} {base : Nat} {ok : Nat → Prop} {v : Value} {xs : List (S53)} (h0 : ∀ k, v.ownBlock = some k → ok k) (ho : W.ownsRow base 53 5 v xs.length (laws_markFirstS.flat xs)) : Kd.R k53 53 W base ok v xs :=
  ⟨h0, laws_markFirstS.flat xs, ho, laws_markFirstS.flat_len xs, fun j p hj => by
    have e := laws_markFirstS.flat_seg xs j p hj
    show k53.M W base _ p (((laws_markFirstS.flat xs).drop (j * 5)).take 5)
    rw [e]
    exact k53_mkM W base _ p⟩
theorem laws_markFirstS.at5 {cu : Array Value} {n i : Nat} {xs : List (S53)} {x : S53} (h : cu.toList.take (n * 5) = laws_markFirstS.flat xs) (hn : xs.length = n) (hx : xs[i]? = some x) (j : Nat) (hj : j < 5) : cu[i * 5 + j]? = (laws_markFirstS.enc x)[j]? := by
  have hi : i < xs.length := (List.getElem?_eq_some_iff.1 hx).1
  have e := laws_markFirstS.flat_seg xs i x hx
  rw [← e, List.getElem?_take_of_lt hj, List.getElem?_drop, ← h, List.getElem?_take_of_lt (by omega), Array.getElem?_toList]
theorem laws_markFirstS.oth {cu : Array Value} {a b : Nat} {v : Value} {o : Option Value} (h : cu[b]? = o) (hne : a ≠ b) : (cu.setIfInBounds a v)[b]? = o := by
  rw [Array.getElem?_setIfInBounds_ne hne]
  exact h
theorem laws_markFirstS.done {cu : Array Value} {n i : Nat} {xs : List (S53)} (h : cu.toList.take (n * 5) = laws_markFirstS.flat xs) (hn : xs.length = n) (hi : i < n) (y : S53) : (((((cu.setIfInBounds (i * 5) (.int .i64 y.f0)).setIfInBounds (i * 5 + 1) (.int .i64 y.f1)).setIfInBounds (i * 5 + 2) (.int .i64 y.f2)).setIfInBounds (i * 5 + 3) (.int .i64 y.f3.f0)).setIfInBounds (i * 5 + 4) (.bool y.f3.f1)).toList.take (n * 5) = laws_markFirstS.flat (xs.set i y) := by
  rw [laws_markFirstS.flat_set xs i y (by omega), ← h]
  unfold laws_markFirstS.set5
  simp only [Array.toList_setIfInBounds, List.take_set]
/-- The row's block, written on. -/
structure laws_markFirstS.St (w0 w : World) (P : Nat → Prop) (g : Nat) (W : World) (cur : Array Value) : Prop where
  b : W.heap[g]? = some (.cells cur 53 (0, 0))
  below : Below w0.heap.size w0 W
  kept : Kept w W P
  hg : w0.heap.size ≤ g
  pg : P g
theorem laws_markFirstS.St.put {w0 w W : World} {P : Nat → Prop} {g : Nat} {cur : Array Value} (h : laws_markFirstS.St w0 w P g W cur) (k : Nat) (v : Value) : laws_markFirstS.St w0 w P g (W.setCell ⟨g, k, none⟩ v) (cur.setIfInBounds k v) :=
  ⟨blk_set h.b k v, below_set h.below h.hg, h.kept.setCell (.inl h.pg) v, h.hg, h.pg⟩
theorem laws_markFirstS.St.at_ {w0 w W : World} {P : Nat → Prop} {g : Nat} {cur : Array Value} (h : laws_markFirstS.St w0 w P g W cur) {k : Nat} (hk : k < cur.size) : ∃ u, W.cell? ⟨g, k, none⟩ = some u ∧ W.frozen? ⟨g, k, none⟩ = false :=
  ⟨cur[k], (blk_cell h.b k).trans (Array.getElem?_eq_getElem hk), blk_frozen h.b k⟩
set_option maxHeartbeats 8000000 in
set_option maxRecDepth 100000 in
theorem laws_markFirstS.calls (k : Nat) (P0_ : Nat → Prop) (u9000_ : Value) (l0 : List (S53)) (a1 : Int) (r1 : Int) (r2 : List (S53)) (w0 w : World) (hB : Below w0.heap.size w0 w) (ho0 : Kd.R k53 53 w w0.heap.size P0_ u9000_ l0) (h : laws_markFirstS.f k l0 a1 = some (r1, r2)) :
    Calls Try.prog 12 #[u9000_, .int .i64 a1] w fun e w' => e = .returned (.int .i64 r1) ∧ Kd.R k53 53 w' w0.heap.size (fun k_ => (P0_ k_ ∨ w.heap.size ≤ k_)) u9000_ r2 ∧ Below w0.heap.size w0 w' ∧ Kept w w' (fun k_ => P0_ k_) := by
  unfold laws_markFirstS.f at h
  have hu53 := Try.underlying53
  have hu42 := Try.underlying42
  obtain ⟨hok, ho⟩ := laws_markFirstS.openR ho0
  rcases ho.2 with ⟨rfl, hz⟩ | ⟨g, cap, cur, rfl, hg, hh, h1, h2, h3, h4⟩
  · have e : l0 = [] := List.eq_nil_of_length_eq_zero hz
    subst e
    cases k with
    | zero => simp [laws_markFirstS.l0] at h
    | succ k =>
      rw [laws_markFirstS.l0, if_neg (by simp)] at h
      have h := Option.some.inj h
      injection h with e1 e2
      subst e1
      subst e2
      clear ho hz hok
      go_enter Try.func12, Try.ntmps12
      go_wp2
      go_loopg [1, 5] 1 (fun kq v1 v5 w' => v1 = .int .i64 a1 ∧ v5 = .int .i64 0 ∧ Drawn0 w w')
      case atStart => exact ⟨rfl, rfl, by repeat (first | exact Drawn0.refl _ | apply Drawn0.step)⟩
      case round =>
        obtain ⟨rfl, rfl, ⟨m, rfl⟩⟩ := hrel
        go_wp2
        go_ret
        exact ⟨by first | rfl | (simp; done), Kd.R_nil _ _ _ _ _, pw_below_drewN hB m, (Kept.refl w _).drewN m⟩
  · have ST := Aside0.mk (laws_markFirstS.St.mk (w0 := w0) (w := w) (P := P0_) hh hB (Kept.refl w P0_) hg (hok g rfl))
    have HE := Aside0.mk (show cur.toList.take (l0.length * 5) = laws_markFirstS.flat l0 ∧ cur.size = cap * 5 ∧ l0.length ≤ cap ∧ cap ≤ maxLen from ⟨h4, h3, h1, h2⟩)
    have HR := Aside0.mk h
    obtain ⟨n, hn⟩ : ∃ n, l0.length = n := ⟨_, rfl⟩
    have HN := Aside0.mk hn
    rw [hn]
    clear ho0 ho hok hh hB hg h1 h2 h3 h4 h hn
    go_enter Try.func12, Try.ntmps12
    go_wp2
    go_loopg [1, 5] k (fun kq v1 v5 w' => ∃ (xs : List (S53)) (x1 : Int) (i : Nat) (cur : Array Value), v1 = .int .i64 x1 ∧ v5 = .int .i64 (i : Int) ∧ Aside0 (laws_markFirstS.l0 kq xs x1 (i : Int) = some (r1, r2)) ∧ Aside0 (xs.length = n) ∧ Aside0 (laws_markFirstS.St w0 w P0_ g w' cur) ∧ Aside0 (cur.toList.take (n * 5) = laws_markFirstS.flat xs ∧ cur.size = cap * 5 ∧ n ≤ cap ∧ cap ≤ maxLen))
    case atStart => exact ⟨l0, a1, 0, cur, rfl, rfl, HR, HN, ST, ⟨by rw [← HN.out]; exact HE.out.1, by rw [← HN.out]; exact HE.out.2⟩⟩
    case round =>
      clear HR HN ST HE
      obtain ⟨xs, x1, i, cu, rfl, rfl, HR, HN, ST, HE⟩ := hrel
      cases gk with
      | zero => exact absurd HR.out (by simp [laws_markFirstS.l0])
      | succ k1 =>
        have H := HR.out
        clear HR
        simp only [laws_markFirstS.l0] at H
        by_cases c1 : i < n
        · rw [if_pos (by rw [HN.out]; omega)] at H
          by_cases c2 : 0 ≤ (i : Int) ∧ 0 ≤ x1 ∧ x1 ≤ 1000000000000000 ∧ xs.length ≤ 1000000000000
          case neg => rw [if_neg c2] at H; cases H
          rw [if_pos c2, Int.toNat_natCast] at H
          have HR := Aside0.mk H
          have HX := Aside0.mk c2
          have C1 := Aside0.mk c1
          have c1b0 : decide ((i : Int) < (n : Int)) = true := decide_eq_true (by omega)
          have c1b1 : decide (i < n) = true := decide_eq_true c1
          have hw1 : wrap64 (x1 + 1) = x1 + 1 := by unfold wrap64; omega
          have hw2 : wrap64 (x1 + 1 + 1) = x1 + 2 := by unfold wrap64; omega
          have hw3 : wrap64 (x1 + 2 + 1) = x1 + 3 := by unfold wrap64; omega
          have hw4 : wrap64 (x1 + 3 + 1) = x1 + 4 := by unfold wrap64; omega
          have hw5 : wrap64 (x1 + 4 + 1) = x1 + 5 := by unfold wrap64; omega
          have hw6 : wrap64 ((i : Int) + 1) = ((i + 1 : Nat) : Int) := by have := HN.out; unfold wrap64; omega
          have p0 : (0 : Int) ≤ (i : Int) := by omega
          have p1 : (i : Int) < (n : Int) := by omega
          obtain ⟨x, hx⟩ : ∃ x, xs[i]? = some x := ⟨_, List.getElem?_eq_getElem (by rw [HN.out]; exact c1)⟩
          have E0 := Aside0.mk (show cu[i * 5]? = some (.int .i64 x.f0) from laws_markFirstS.at5 HE.out.1 HN.out hx 0 (by omega))
          have E1 := Aside0.mk (show cu[i * 5 + 1]? = some (.int .i64 x.f1) from laws_markFirstS.at5 HE.out.1 HN.out hx 1 (by omega))
          have E2 := Aside0.mk (show cu[i * 5 + 2]? = some (.int .i64 x.f2) from laws_markFirstS.at5 HE.out.1 HN.out hx 2 (by omega))
          have E3 := Aside0.mk (show cu[i * 5 + 3]? = some (.int .i64 x.f3.f0) from laws_markFirstS.at5 HE.out.1 HN.out hx 3 (by omega))
          have E4 := Aside0.mk (show cu[i * 5 + 4]? = some (.bool x.f3.f1) from laws_markFirstS.at5 HE.out.1 HN.out hx 4 (by omega))
          have q0 := (blk_cell ST.out.b (i * 5)).trans E0.out
          have f0 := blk_frozen ST.out.b (i * 5)
          clear H c1 c2 hx
          replace p0 := eq_true p0
          replace p1 := eq_true p1
          go_upto_region 5 with (first | fail)
          have S2 := Aside0.mk (ST.out.put (i * 5) (.int .i64 x1))
          have E1_ := Aside0.mk (laws_markFirstS.oth (a := i * 5) (v := .int .i64 x1) E1.out (by omega))
          have E2_ := Aside0.mk (laws_markFirstS.oth (a := i * 5) (v := .int .i64 x1) E2.out (by omega))
          have E3_ := Aside0.mk (laws_markFirstS.oth (a := i * 5) (v := .int .i64 x1) E3.out (by omega))
          have E4_ := Aside0.mk (laws_markFirstS.oth (a := i * 5) (v := .int .i64 x1) E4.out (by omega))
          clear q0 f0 ST E0 E1 E2 E3 E4
          have ST := S2
          clear S2
          have E1 := E1_
          clear E1_
          have E2 := E2_
          clear E2_
          have E3 := E3_
          clear E3_
          have E4 := E4_
          clear E4_
          generalize wr.setCell ⟨g, i * 5, none⟩ (.int .i64 x1) = wm1 at ST ⊢
          have q1 := (blk_cell ST.out.b (i * 5 + 1)).trans E1.out
          have f1 := blk_frozen ST.out.b (i * 5 + 1)
          go_upto_region 7 with (first | fail)
          have S2 := Aside0.mk (ST.out.put (i * 5 + 1) (.int .i64 (x1 + 1)))
          have E2_ := Aside0.mk (laws_markFirstS.oth (a := i * 5 + 1) (v := .int .i64 (x1 + 1)) E2.out (by omega))
          have E3_ := Aside0.mk (laws_markFirstS.oth (a := i * 5 + 1) (v := .int .i64 (x1 + 1)) E3.out (by omega))
          have E4_ := Aside0.mk (laws_markFirstS.oth (a := i * 5 + 1) (v := .int .i64 (x1 + 1)) E4.out (by omega))
          clear q1 f1 ST E1 E2 E3 E4
          have ST := S2
          clear S2
          have E2 := E2_
          clear E2_
          have E3 := E3_
          clear E3_
          have E4 := E4_
          clear E4_
          generalize wm1.setCell ⟨g, i * 5 + 1, none⟩ (.int .i64 (x1 + 1)) = wm2 at ST ⊢
          have q2 := (blk_cell ST.out.b (i * 5 + 2)).trans E2.out
          have f2 := blk_frozen ST.out.b (i * 5 + 2)
          go_upto_region 9 with (first | fail)
          have S2 := Aside0.mk (ST.out.put (i * 5 + 2) (.int .i64 (x1 + 2)))
          have E3_ := Aside0.mk (laws_markFirstS.oth (a := i * 5 + 2) (v := .int .i64 (x1 + 2)) E3.out (by omega))
          have E4_ := Aside0.mk (laws_markFirstS.oth (a := i * 5 + 2) (v := .int .i64 (x1 + 2)) E4.out (by omega))
          clear q2 f2 ST E2 E3 E4
          have ST := S2
          clear S2
          have E3 := E3_
          clear E3_
          have E4 := E4_
          clear E4_
          generalize wm2.setCell ⟨g, i * 5 + 2, none⟩ (.int .i64 (x1 + 2)) = wm3 at ST ⊢
          have q3 := (blk_cell ST.out.b (i * 5 + 3)).trans E3.out
          have f3 := blk_frozen ST.out.b (i * 5 + 3)
          go_upto_region 11 with (first | fail)
          have S2 := Aside0.mk (ST.out.put (i * 5 + 3) (.int .i64 (x1 + 3)))
          have E4_ := Aside0.mk (laws_markFirstS.oth (a := i * 5 + 3) (v := .int .i64 (x1 + 3)) E4.out (by omega))
          clear q3 f3 ST E3 E4
          have ST := S2
          clear S2
          have E4 := E4_
          clear E4_
          generalize wm3.setCell ⟨g, i * 5 + 3, none⟩ (.int .i64 (x1 + 3)) = wm4 at ST ⊢
          have q4 := (blk_cell ST.out.b (i * 5 + 4)).trans E4.out
          have f4 := blk_frozen ST.out.b (i * 5 + 4)
          go_upto_region 13 with (first | fail)
          have S2 := Aside0.mk (ST.out.put (i * 5 + 4) (.bool (decide (Int.tmod (x1 + 4) 3 = 0))))
          clear q4 f4 ST E4
          have ST := S2
          clear S2
          generalize wm4.setCell ⟨g, i * 5 + 4, none⟩ (.bool (decide (Int.tmod (x1 + 4) 3 = 0))) = wm5 at ST ⊢
          go_wp2
          go_roundg k1
          case measure => omega
          case rel => exact ⟨xs.set i (laws_markFirstS.mk x1), x1 + 5, i + 1, _, by first | rfl | (simp only [hw5]; done) | rw [hw5], by first | rfl | rw [hw6], HR, ⟨by rw [List.length_set]; exact HN.out⟩, ST, ⟨laws_markFirstS.done HE.out.1 HN.out C1.out (laws_markFirstS.mk x1), by simp only [Array.size_setIfInBounds]; exact HE.out.2.1, HE.out.2.2⟩⟩
        · rw [if_neg (by rw [HN.out]; omega)] at H
          have c1b0 : decide ((i : Int) < (n : Int)) = false := decide_eq_false (by omega)
          have c1b1 : decide (i < n) = false := decide_eq_false c1
          have H := Option.some.inj H
          injection H with e1 e2
          subst e1
          subst e2
          clear c1
          go_wp2
          go_ret
          exact ⟨by first | rfl | (simp; done), Kd.R_mono (laws_markFirstS.shutR (ok := P0_) (fun k_ hk_ => by have e : g = k_ := (by simpa [Value.ownBlock] using hk_); subst e; exact ST.out.pg) ⟨by rw [laws_markFirstS.flat_len], .inr ⟨g, cap, cu, by rw [HN.out], ST.out.hg, ST.out.b, by rw [HN.out]; exact HE.out.2.2.1, HE.out.2.2.2, HE.out.2.1, by rw [HN.out]; exact HE.out.1⟩⟩) (fun _ hk => .inl hk), ST.out.below, ST.out.kept⟩

end Go.Proofs.Ytmkcmclochhkeaa.PFnExactOrderParts
