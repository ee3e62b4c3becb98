-- Written by this session's pp.py over the kit's print.
import Derived.Test.YtmkcmclochhkeaaPFnExactPairCyclesx0
import Derived.Test.YtmkcmclochhkeaaPFnExactPairCyclesx7
namespace Go.Proofs.Ytmkcmclochhkeaa.PFnExactPairCycles
open Go.RowKit Go.Proofs.YtmkcmclochhkeaaW.PrintWords Go.Proofs.YtmkcmclochhkeaaW.PrintLast Go.Proofs.YtmkcmclochhkeaaW.PrintMore
attribute [local go_sem] max2_int min2_int max_two min_two max_three min_three max_four min_four   -- for this text's walks alone
set_option linter.unusedVariables false
set_option linter.unusedSimpArgs false

/-! ### impl_Second_step: function 57 -/
def impl_Second_step.f (k : Nat) (a0_0 : Int) (a0_1 : Int) (a0_2 : Int) (a0_3 : Int) (a0_4 : Int) (a0_5 : Bool) (a1_0 : Int) (a1_1 : Int) (a2 : Int) : Option (Int × Int) := (impl_Second_raw.f k a0_0 a0_1 a0_2 a0_3 a0_4 a0_5 a1_0 a1_1 a2).bind fun t277 => ((impl_Word_fit.f a0_4 a0_5 t277).bind fun t278 => (some (t278, a1_0)))
theorem impl_Second_step.mono : ∀ a0 a1 a2 a3 a4 a5 a6 a7 a8 k, LeO (impl_Second_step.f k a0 a1 a2 a3 a4 a5 a6 a7 a8) (impl_Second_step.f (k + 1) a0 a1 a2 a3 a4 a5 a6 a7 a8) := by
 intro a0 a1 a2 a3 a4 a5 a6 a7 a8 k
 unfold impl_Second_step.f
 repeat' first
   | (with_reducible exact impl_Second_raw.mono _ _ _ _ _ _ _ _ _ _)
   | (with_reducible exact LeO.refl _)
   | (with_reducible exact LeO.none _)
   | (with_reducible refine LeO.ite ?_ ?_)
   | (with_reducible refine LeO.bind ?_ (fun _ => ?_))
   | exact impl_Second_raw.mono _ _ _ _ _ _ _ _ _ _
   | exact LeO.none _
   | refine LeO.ite ?_ ?_
   | refine LeO.bind ?_ (fun _ => ?_)
def impl_Second_step.T1 : Bool × List (List Nat × List Nat) := (true, [([], []), ([0], [0]), ([], []), ([], []), ([], []), ([2, 3, 4], [2, 3, 4]), ([1, 5, 5], [1, 5]), ([], []), ([7], [7]), ([6, 8], [6, 8]), ([9, 6, 0, 1, 2, 3, 4, 5, 6, 7, 8, 9], [9])])
def impl_Second_step.B1 : List Nat := [0, 1, 0, 0, 0, 28, 63, 0, 128, 511, 1023]
theorem impl_Second_step.tab1 : rtab .any (opsOf Try.f57 1) = impl_Second_step.T1 := by kernel_rfl
theorem impl_Second_step.bits1 : waitsOk impl_Second_step.T1.2 impl_Second_step.B1 = true := by kernel_rfl
set_option maxHeartbeats 8000000 in
set_option maxRecDepth 100000 in
theorem impl_Second_step.calls (k : Nat) (a0_0 : Int) (a0_1 : Int) (a0_2 : Int) (a0_3 : Int) (a0_4 : Int) (a0_5 : Bool) (a1_0 : Int) (a1_1 : Int) (a2 : Int) (r1 : Int) (r2 : Int) (w : World) (h : impl_Second_step.f k a0_0 a0_1 a0_2 a0_3 a0_4 a0_5 a1_0 a1_1 a2 = some (r1, r2)) :
  Calls Try.prog 57 #[.agg #[.int .i64 a0_0, .int .i64 a0_1, .int .i64 a0_2, .int .i64 a0_3, .int .i64 a0_4, .bool a0_5], .agg #[.int .i64 a1_0, .int .i64 a1_1], .int .i64 a2] w fun e w' => e = .returned (.agg #[.int .i64 r1, .int .i64 r2]) ∧ Below w.heap.size w w' := by
 have hu44 := Try.underlying44
 have hu87 := Try.underlying87
 have hu42 := Try.underlying42
 have HB := Aside0.mk (Below.refl w.heap.size w)
 have H : ((impl_Second_raw.f k a0_0 a0_1 a0_2 a0_3 a0_4 a0_5 a1_0 a1_1 a2).bind fun t277 => ((impl_Word_fit.f a0_4 a0_5 t277).bind fun t278 => (some (t278, a1_0)))) = some (r1, r2) := h
 clear h
 replace H := Option.bind_eq_some_iff.mp H
 obtain ⟨t277, A40, H⟩ := H
 replace H : ((impl_Word_fit.f a0_4 a0_5 t277).bind fun t278 => (some (t278, a1_0))) = some (r1, r2) := H
 have A4 := Aside0.mk A40
 clear A40
 replace H := Option.bind_eq_some_iff.mp H
 obtain ⟨t278, A50, H⟩ := H
 replace H : (some (t278, a1_0)) = some (r1, r2) := H
 have A5 := Aside0.mk A50
 clear A50
 simp only [Option.some.injEq, Prod.mk.injEq] at H
 obtain ⟨rfl, rfl⟩ := H
 go_enter Try.func57, Try.ntmps57
 try go_wp2_with (first | ((with_reducible refine gate_dst (N := 3) rfl ?_); refine box_event ?hg (N := 3) ?hd (cs := #[.int .i64 a0_0, .int .i64 a0_1, .int .i64 a0_2, .int .i64 a0_3, .int .i64 a0_4, .bool a0_5]) (t := 44) ?hr ?_; (case hd => rfl); (case hg => rfl); (case hr => first | (go_simp; done) | (go_simp; rfl)); intro gb274 hg w6 hbox hb; have n0_ := Aside0.mk (below_step (by repeat (first | exact HB.out | apply below_alloc | apply pw_below_drewN | apply below_drew1)) hb); have n1_ := Aside0.mk (hbox); have n2_ := Aside0.mk ((by rw [hg]; exact (below_size (by repeat (first | exact HB.out | apply below_alloc | apply pw_below_drewN | apply below_drew1))) : w.heap.size ≤ gb274)); have n3_ := Aside0.mk ((by rw [hg]; exact (below_size (by repeat (first | exact HB.out | apply below_alloc | apply pw_below_drewN | apply below_drew1))) : w.heap.size ≤ gb274)); clear HB; have HB := n0_; have BK274 := n1_; have GW274 := n2_; have GE274 := n3_; clear n0_ n1_ n2_ n3_; clear hb hbox hg) | ((with_reducible refine gate_dst (N := 4) rfl ?_); refine box_event ?hg (N := 4) ?hd (cs := #[.int .i64 a1_0, .int .i64 a1_1]) (t := 87) ?hr ?_; (case hd => rfl); (case hg => rfl); (case hr => first | (go_simp; done) | (go_simp; rfl)); intro gb275 hg w7 hbox hb; have n0_ := Aside0.mk (blk_below (g := gb274) (o := .cells #[.int .i64 a0_0, .int .i64 a0_1, .int .i64 a0_2, .int .i64 a0_3, .int .i64 a0_4, .bool a0_5] 44 (0, 0)) (by (with_reducible repeat (first | refine blk_drewN ?_ _ | refine blk_drew ?_ | refine blk_alloc ?_ _)); exact BK274.out) hb); have n1_ := Aside0.mk (below_step (by repeat (first | (with_reducible first | exact HB.out | apply below_alloc | apply pw_below_drewN | apply below_drew1 | refine below_set ?_ GE274.out) | exact HB.out)) hb); have n2_ := Aside0.mk (hbox); have n3_ := Aside0.mk ((by rw [hg]; exact (below_size (by repeat (first | (with_reducible first | exact HB.out | apply below_alloc | apply pw_below_drewN | apply below_drew1 | refine below_set ?_ GE274.out) | exact HB.out))) : w.heap.size ≤ gb275)); have n4_ := Aside0.mk ((by rw [hg]; exact (below_size (by repeat (first | (with_reducible first | exact HB.out | apply below_alloc | apply pw_below_drewN | apply below_drew1 | refine below_set ?_ GE274.out) | exact HB.out))) : w.heap.size ≤ gb275)); have n5_ := Aside0.mk ((by rw [hg]; exact Nat.ne_of_lt (blk_lt (g := gb274) (o := .cells #[.int .i64 a0_0, .int .i64 a0_1, .int .i64 a0_2, .int .i64 a0_3, .int .i64 a0_4, .bool a0_5] 44 (0, 0)) (by (with_reducible repeat (first | refine blk_drewN ?_ _ | refine blk_drew ?_ | refine blk_alloc ?_ _)); exact BK274.out)) : gb274 ≠ gb275)); have n6_ := Aside0.mk ((by rw [hg]; exact Nat.ne_of_gt (blk_lt (g := gb274) (o := .cells #[.int .i64 a0_0, .int .i64 a0_1, .int .i64 a0_2, .int .i64 a0_3, .int .i64 a0_4, .bool a0_5] 44 (0, 0)) (by (with_reducible repeat (first | refine blk_drewN ?_ _ | refine blk_drew ?_ | refine blk_alloc ?_ _)); exact BK274.out)) : gb275 ≠ gb274)); clear BK274; clear HB; have BK274 := n0_; have HB := n1_; have BK275 := n2_; have GW275 := n3_; have GE275 := n4_; have NB274_275 := n5_; have NB275_274 := n6_; clear n0_ n1_ n2_ n3_ n4_ n5_ n6_; clear hb hbox hg) | ((with_reducible refine gate_dst (N := 6) rfl ?_); refine box_event ?hg (N := 6) ?hd (cs := #[.int .i64 0, .int .i64 0]) (t := 87) ?hr ?_; (case hd => rfl); (case hg => rfl); (case hr => first | (go_simp; done) | (go_simp; rfl)); intro gb276 hg w8 hbox hb; have n0_ := Aside0.mk (blk_below (g := gb274) (o := .cells #[.int .i64 a0_0, .int .i64 a0_1, .int .i64 a0_2, .int .i64 a0_3, .int .i64 a0_4, .bool a0_5] 44 (0, 0)) (by (with_reducible repeat (first | refine blk_drewN ?_ _ | refine blk_drew ?_ | refine blk_alloc ?_ _)); exact BK274.out) hb); have n1_ := Aside0.mk (blk_below (g := gb275) (o := .cells #[.int .i64 a1_0, .int .i64 a1_1] 87 (0, 0)) (by (with_reducible repeat (first | refine blk_drewN ?_ _ | refine blk_drew ?_ | refine blk_alloc ?_ _)); exact BK275.out) hb); have n2_ := Aside0.mk (below_step (by repeat (first | (with_reducible first | exact HB.out | apply below_alloc | apply pw_below_drewN | apply below_drew1 | refine below_set ?_ GE274.out | refine below_set ?_ GE275.out) | exact HB.out)) hb); have n3_ := Aside0.mk (hbox); have n4_ := Aside0.mk ((by rw [hg]; exact (below_size (by repeat (first | (with_reducible first | exact HB.out | apply below_alloc | apply pw_below_drewN | apply below_drew1 | refine below_set ?_ GE274.out | refine below_set ?_ GE275.out) | exact HB.out))) : w.heap.size ≤ gb276)); have n5_ := Aside0.mk ((by rw [hg]; exact (below_size (by repeat (first | (with_reducible first | exact HB.out | apply below_alloc | apply pw_below_drewN | apply below_drew1 | refine below_set ?_ GE274.out | refine below_set ?_ GE275.out) | exact HB.out))) : w.heap.size ≤ gb276)); have n6_ := Aside0.mk ((by rw [hg]; exact Nat.ne_of_lt (blk_lt (g := gb274) (o := .cells #[.int .i64 a0_0, .int .i64 a0_1, .int .i64 a0_2, .int .i64 a0_3, .int .i64 a0_4, .bool a0_5] 44 (0, 0)) (by (with_reducible repeat (first | refine blk_drewN ?_ _ | refine blk_drew ?_ | refine blk_alloc ?_ _)); exact BK274.out)) : gb274 ≠ gb276)); have n7_ := Aside0.mk ((by rw [hg]; exact Nat.ne_of_gt (blk_lt (g := gb274) (o := .cells #[.int .i64 a0_0, .int .i64 a0_1, .int .i64 a0_2, .int .i64 a0_3, .int .i64 a0_4, .bool a0_5] 44 (0, 0)) (by (with_reducible repeat (first | refine blk_drewN ?_ _ | refine blk_drew ?_ | refine blk_alloc ?_ _)); exact BK274.out)) : gb276 ≠ gb274)); have n8_ := Aside0.mk ((by rw [hg]; exact Nat.ne_of_lt (blk_lt (g := gb275) (o := .cells #[.int .i64 a1_0, .int .i64 a1_1] 87 (0, 0)) (by (with_reducible repeat (first | refine blk_drewN ?_ _ | refine blk_drew ?_ | refine blk_alloc ?_ _)); exact BK275.out)) : gb275 ≠ gb276)); have n9_ := Aside0.mk ((by rw [hg]; exact Nat.ne_of_gt (blk_lt (g := gb275) (o := .cells #[.int .i64 a1_0, .int .i64 a1_1] 87 (0, 0)) (by (with_reducible repeat (first | refine blk_drewN ?_ _ | refine blk_drew ?_ | refine blk_alloc ?_ _)); exact BK275.out)) : gb276 ≠ gb275)); clear BK274; clear BK275; clear HB; have BK274 := n0_; have BK275 := n1_; have HB := n2_; have BK276 := n3_; have GW276 := n4_; have GE276 := n5_; have NB274_276 := n6_; have NB276_274 := n7_; have NB275_276 := n8_; have NB276_275 := n9_; clear n0_ n1_ n2_ n3_ n4_ n5_ n6_ n7_ n8_ n9_; clear hb hbox hg))
 have n0_ := Aside0.mk (blk_drew BK274.out)
 have n1_ := Aside0.mk (blk_drew BK275.out)
 have n2_ := Aside0.mk (blk_drew BK276.out)
 have n3_ := Aside0.mk (below_drew1 HB.out)
 clear BK274
 clear BK275
 clear BK276
 clear HB
 have BK274 := n0_
 have BK275 := n1_
 have BK276 := n2_
 have HB := n3_
 clear n0_ n1_ n2_ n3_
 refine start_ (n := 11) (S := fun w' => w'.cell? ⟨gb274, 0, none⟩ = some (.int .i64 a0_0) ∧ w'.cell? ⟨gb274, 1, none⟩ = some (.int .i64 a0_1) ∧ w'.cell? ⟨gb274, 2, none⟩ = some (.int .i64 a0_2) ∧ w'.cell? ⟨gb274, 3, none⟩ = some (.int .i64 a0_3) ∧ w'.cell? ⟨gb274, 4, none⟩ = some (.int .i64 a0_4) ∧ w'.cell? ⟨gb274, 5, none⟩ = some (.bool a0_5) ∧ w'.cell? ⟨gb275, 0, none⟩ = some (.int .i64 a1_0) ∧ w'.cell? ⟨gb275, 1, none⟩ = some (.int .i64 a1_1)) (ds := []) #[false, false, false, false, false, false, false, false, false, false, false] (by kernel_rfl) rfl rfl ⟨(blk_cell BK274.out 0).trans rfl, (blk_cell BK274.out 1).trans rfl, (blk_cell BK274.out 2).trans rfl, (blk_cell BK274.out 3).trans rfl, (blk_cell BK274.out 4).trans rfl, (blk_cell BK274.out 5).trans rfl, (blk_cell BK275.out 0).trans rfl, (blk_cell BK275.out 1).trans rfl⟩ (fun hHeld => ?_); refine with_tabW impl_Second_step.tab1 impl_Second_step.bits1 (fun HT_ HW_ => ?_)
 generalize w8.drew = w9 at BK274 BK275 BK276 HB hHeld ⊢
 refine pure_ (i := 0) (N := some 7) (v := ?_) (a' := ?_) #[true, false, false, false, false, false, false, false, false, false, false] rfl rfl (any_of HT_.out (by kernel_rfl)) (fun _ _ _ h => h) (Or.inl ⟨by rfl, ?_⟩) ?_ ?_
 rotate_left
 ·intro w'
  go_simp
  with_reducible rfl
 rotate_left
 ·simp only [Act.put, List.setIfInBounds_toArray, List.set_cons_zero, List.set_cons_succ, i64_w, i32_w]
  rfl
 refine pure_ (i := 4) (N := some 11) (v := ?_) (a' := ?_) #[true, false, false, false, true, false, false, false, false, false, false] rfl rfl (any_of HT_.out (by kernel_rfl)) (fun _ _ _ h => h) (Or.inl ⟨by rfl, ?_⟩) ?_ ?_
 rotate_left
 ·intro w'
  go_simp
  with_reducible rfl
 rotate_left
 ·simp only [Act.put, List.setIfInBounds_toArray, List.set_cons_zero, List.set_cons_succ, i64_w, i32_w]
  rfl
 refine pure_ (i := 7) (N := some 14) (v := ?_) (a' := ?_) #[true, false, false, false, true, false, false, true, false, false, false] rfl rfl (any_of HT_.out (by kernel_rfl)) (fun _ _ _ h => h) (Or.inl ⟨by rfl, ?_⟩) ?_ ?_
 rotate_left
 ·intro w'
  go_simp
  with_reducible rfl
 rotate_left
 ·simp only [Act.put, List.setIfInBounds_toArray, List.set_cons_zero, List.set_cons_succ, i64_w, i32_w]
  rfl
 refine take_ (i := 1) (N := some 8) (v := ?_) (a' := ?_) #[true, true, false, false, true, false, false, true, false, false, false] rfl rfl (take_ofW HT_.out HW_.out (by kernel_rfl)) (fun _ _ _ h => h) (Or.inl ⟨by rfl, ?_⟩) hHeld ?_ ?_
 rotate_left
 ·rintro w' ⟨s0, s1, s2, s3, s4, s5, s6, s7⟩
  go_simp
  with_reducible rfl
 rotate_left
 ·simp only [Act.put, List.setIfInBounds_toArray, List.set_cons_zero, List.set_cons_succ, i64_w, i32_w]
  rfl
 refine take_ (i := 2) (N := some 9) (v := ?_) (a' := ?_) #[true, true, true, false, true, false, false, true, false, false, false] rfl rfl (take_ofW HT_.out HW_.out (by kernel_rfl)) (fun _ _ _ h => h) (Or.inl ⟨by rfl, ?_⟩) hHeld ?_ ?_
 rotate_left
 ·rintro w' ⟨s0, s1, s2, s3, s4, s5, s6, s7⟩
  go_simp
  with_reducible rfl
 rotate_left
 ·simp only [Act.put, List.setIfInBounds_toArray, List.set_cons_zero, List.set_cons_succ, i64_w, i32_w]
  rfl
 refine take_ (i := 3) (N := some 10) (v := ?_) (a' := ?_) #[true, true, true, true, true, false, false, true, false, false, false] rfl rfl (take_ofW HT_.out HW_.out (by kernel_rfl)) (fun _ _ _ h => h) (Or.inl ⟨by rfl, ?_⟩) hHeld ?_ ?_
 rotate_left
 ·rintro w' ⟨s0, s1, s2, s3, s4, s5, s6, s7⟩
  go_simp
  with_reducible rfl
 rotate_left
 ·simp only [Act.put, List.setIfInBounds_toArray, List.set_cons_zero, List.set_cons_succ, i64_w, i32_w]
  rfl
 refine take_ (i := 8) (N := some 15) (v := ?_) (a' := ?_) #[true, true, true, true, true, false, false, true, true, false, false] rfl rfl (take_ofW HT_.out HW_.out (by kernel_rfl)) (fun _ _ _ h => h) (Or.inl ⟨by rfl, ?_⟩) hHeld ?_ ?_
 rotate_left
 ·rintro w' ⟨s0, s1, s2, s3, s4, s5, s6, s7⟩
  go_simp
  with_reducible rfl
 rotate_left
 ·simp only [Act.put, List.setIfInBounds_toArray, List.set_cons_zero, List.set_cons_succ, i64_w, i32_w]
  rfl
 refine one_ (i := 5) (N := some 12) #[true, true, true, true, true, true, false, true, true, false, false] rfl rfl (one_of HT_.out (by kernel_rfl)) (by decide) (fun K hK => ?_)
 refine goes_ Try.func82 (by kernel_rfl) rfl #[.agg #[.int .i64 a0_0, .int .i64 a0_1, .int .i64 a0_2, .int .i64 a0_3, .int .i64 a0_4, .bool a0_5], .agg #[.int .i64 a1_0, .int .i64 a1_1], .int .i64 a2] (by rfl) rfl rfl (by (try simp only [List.map_toArray, List.map_cons, List.map_nil]); first | done | rfl) ?_
 with_reducible refine (impl_Second_raw.calls k a0_0 a0_1 a0_2 a0_3 a0_4 a0_5 a1_0 a1_1 a2 t277 _ A4.out).mono ?_
 rintro e w10 ⟨rfl, hb⟩
 refine ⟨_, rfl, ?_⟩
 have n0_ := Aside0.mk (blk_below (g := gb274) (o := .cells #[.int .i64 a0_0, .int .i64 a0_1, .int .i64 a0_2, .int .i64 a0_3, .int .i64 a0_4, .bool a0_5] 44 (0, 0)) (by (with_reducible repeat (first | refine blk_drewN ?_ _ | refine blk_drew ?_ | refine blk_alloc ?_ _)); exact BK274.out) hb)
 have n1_ := Aside0.mk (blk_below (g := gb275) (o := .cells #[.int .i64 a1_0, .int .i64 a1_1] 87 (0, 0)) (by (with_reducible repeat (first | refine blk_drewN ?_ _ | refine blk_drew ?_ | refine blk_alloc ?_ _)); exact BK275.out) hb)
 have n2_ := Aside0.mk (blk_below (g := gb276) (o := .cells #[.int .i64 0, .int .i64 0] 87 (0, 0)) (by (with_reducible repeat (first | refine blk_drewN ?_ _ | refine blk_drew ?_ | refine blk_alloc ?_ _)); exact BK276.out) hb)
 have n3_ := Aside0.mk (below_step (by repeat (first | (with_reducible first | exact HB.out | apply below_alloc | apply pw_below_drewN | apply below_drew1 | refine below_set ?_ GE274.out | refine below_set ?_ GE275.out | refine below_set ?_ GE276.out) | exact HB.out)) hb)
 clear BK274
 clear BK275
 clear BK276
 clear HB
 have BK274 := n0_
 have BK275 := n1_
 have BK276 := n2_
 have HB := n3_
 clear n0_ n1_ n2_ n3_
 (try clear hb)
 (try clear hb2)
 (try clear hk)
 (try clear hi)
 refine hK.out _ _ ⟨(blk_cell BK274.out 0).trans rfl, (blk_cell BK274.out 1).trans rfl, (blk_cell BK274.out 2).trans rfl, (blk_cell BK274.out 3).trans rfl, (blk_cell BK274.out 4).trans rfl, (blk_cell BK274.out 5).trans rfl, (blk_cell BK275.out 0).trans rfl, (blk_cell BK275.out 1).trans rfl⟩ (fun hHeld => ?_)
 clear hK K
 refine norm_ (a' := ?_) ?_ ?_
 rotate_left
 ·show Act.put _ (some 12) _ = _
  simp only [Act.put, List.setIfInBounds_toArray, List.set_cons_zero, List.set_cons_succ, i64_w, i32_w]
  rfl
 refine one_ (i := 6) (N := some 13) #[true, true, true, true, true, true, true, true, true, false, false] rfl rfl (one_of HT_.out (by kernel_rfl)) (by decide) (fun K hK => ?_)
 refine goes_ Try.func81 (by kernel_rfl) rfl #[.agg #[.int .i64 a0_4, .bool a0_5], .int .i64 t277] (by rfl) rfl rfl (by (try simp only [List.map_toArray, List.map_cons, List.map_nil]); first | done | rfl) ?_
 with_reducible refine (impl_Word_fit.calls a0_4 a0_5 t277 t278 _ A5.out).mono ?_
 rintro e w11 ⟨rfl, hb⟩
 refine ⟨_, rfl, ?_⟩
 have n0_ := Aside0.mk (blk_below (g := gb274) (o := .cells #[.int .i64 a0_0, .int .i64 a0_1, .int .i64 a0_2, .int .i64 a0_3, .int .i64 a0_4, .bool a0_5] 44 (0, 0)) (by (with_reducible repeat (first | refine blk_drewN ?_ _ | refine blk_drew ?_ | refine blk_alloc ?_ _)); exact BK274.out) hb)
 have n1_ := Aside0.mk (blk_below (g := gb275) (o := .cells #[.int .i64 a1_0, .int .i64 a1_1] 87 (0, 0)) (by (with_reducible repeat (first | refine blk_drewN ?_ _ | refine blk_drew ?_ | refine blk_alloc ?_ _)); exact BK275.out) hb)
 have n2_ := Aside0.mk (blk_below (g := gb276) (o := .cells #[.int .i64 0, .int .i64 0] 87 (0, 0)) (by (with_reducible repeat (first | refine blk_drewN ?_ _ | refine blk_drew ?_ | refine blk_alloc ?_ _)); exact BK276.out) hb)
 have n3_ := Aside0.mk (below_step (by repeat (first | (with_reducible first | exact HB.out | apply below_alloc | apply pw_below_drewN | apply below_drew1 | refine below_set ?_ GE274.out | refine below_set ?_ GE275.out | refine below_set ?_ GE276.out) | exact HB.out)) hb)
 clear BK274
 clear BK275
 clear BK276
 clear HB
 have BK274 := n0_
 have BK275 := n1_
 have BK276 := n2_
 have HB := n3_
 clear n0_ n1_ n2_ n3_
 (try clear hb)
 (try clear hb2)
 (try clear hk)
 (try clear hi)
 refine hK.out _ _ ⟨(blk_cell BK274.out 0).trans rfl, (blk_cell BK274.out 1).trans rfl, (blk_cell BK274.out 2).trans rfl, (blk_cell BK274.out 3).trans rfl, (blk_cell BK274.out 4).trans rfl, (blk_cell BK274.out 5).trans rfl, (blk_cell BK275.out 0).trans rfl, (blk_cell BK275.out 1).trans rfl⟩ (fun hHeld => ?_)
 clear hK K
 refine norm_ (a' := ?_) ?_ ?_
 rotate_left
 ·show Act.put _ (some 13) _ = _
  simp only [Act.put, List.setIfInBounds_toArray, List.set_cons_zero, List.set_cons_succ, i64_w, i32_w]
  rfl
 refine pure_ (i := 9) (N := some 16) (v := ?_) (a' := ?_) #[true, true, true, true, true, true, true, true, true, true, false] rfl rfl (any_of HT_.out (by kernel_rfl)) (fun _ _ _ h => h) (Or.inl ⟨by rfl, ?_⟩) ?_ ?_
 rotate_left
 ·intro w'
  go_simp
  with_reducible rfl
 rotate_left
 ·simp only [Act.put, List.setIfInBounds_toArray, List.set_cons_zero, List.set_cons_succ, i64_w, i32_w]
  rfl
 refine one_ (i := 10) (N := none) #[true, true, true, true, true, true, true, true, true, true, true] rfl rfl (one_of HT_.out (by kernel_rfl)) (by decide) (fun K hK => ?_)
 have hs12 : w11.cell? ⟨gb276, 0, none⟩ = some (.int .i64 0) := (blk_cell BK276.out 0).trans rfl
 have hfs12 := blk_frozen BK276.out 0
 have hns12_0 := NB274_276.out
 have hns12_1 := NB275_276.out
 have hms12_0 := NB276_274.out
 have hms12_1 := NB276_275.out
 have hs13 : w11.cell? ⟨gb276, 1, none⟩ = some (.int .i64 0) := (blk_cell BK276.out 1).trans rfl
 have hfs13 := blk_frozen BK276.out 1
 have hns13_0 := NB274_276.out
 have hns13_1 := NB275_276.out
 have hms13_0 := NB276_274.out
 have hms13_1 := NB276_275.out
 refine skip_ (w1 := ?_) (by rfl) rfl ?_ ?_
 rotate_left
 ·go_simp
  rfl
 refine hK.out _ _ ⟨((cell_far (p := ⟨gb276, _, none⟩) NB274_276.out _).trans (((cell_far (p := ⟨gb276, _, none⟩) NB274_276.out _).trans (hHeld.1)))), ((cell_far (p := ⟨gb276, _, none⟩) NB274_276.out _).trans (((cell_far (p := ⟨gb276, _, none⟩) NB274_276.out _).trans (hHeld.2.1)))), ((cell_far (p := ⟨gb276, _, none⟩) NB274_276.out _).trans (((cell_far (p := ⟨gb276, _, none⟩) NB274_276.out _).trans (hHeld.2.2.1)))), ((cell_far (p := ⟨gb276, _, none⟩) NB274_276.out _).trans (((cell_far (p := ⟨gb276, _, none⟩) NB274_276.out _).trans (hHeld.2.2.2.1)))), ((cell_far (p := ⟨gb276, _, none⟩) NB274_276.out _).trans (((cell_far (p := ⟨gb276, _, none⟩) NB274_276.out _).trans (hHeld.2.2.2.2.1)))), ((cell_far (p := ⟨gb276, _, none⟩) NB274_276.out _).trans (((cell_far (p := ⟨gb276, _, none⟩) NB274_276.out _).trans (hHeld.2.2.2.2.2.1)))), ((cell_far (p := ⟨gb276, _, none⟩) NB275_276.out _).trans (((cell_far (p := ⟨gb276, _, none⟩) NB275_276.out _).trans (hHeld.2.2.2.2.2.2.1)))), ((cell_far (p := ⟨gb276, _, none⟩) NB275_276.out _).trans (((cell_far (p := ⟨gb276, _, none⟩) NB275_276.out _).trans (hHeld.2.2.2.2.2.2.2))))⟩ (fun hHeld => ?_)
 clear hK K
 refine done_ (done_of HT_.out (by kernel_rfl)) ?_
 try go_wp2
 refine bodyPost_ret (results_cell_row rfl _ _ gb276 87 #[.int .i64 t278, .int .i64 a1_0] (0, 0) _ rfl (by (with_reducible repeat (first | refine blk_drewN ?_ _ | refine blk_drew ?_ | refine blk_alloc ?_ _)); refine blk_put (cs := #[.int .i64 t278, .int .i64 0]) ?_ 1 _ rfl; (with_reducible repeat (first | refine blk_drewN ?_ _ | refine blk_drew ?_ | refine blk_alloc ?_ _)); refine blk_put (cs := #[.int .i64 0, .int .i64 0]) ?_ 0 _ rfl; (with_reducible repeat (first | refine blk_drewN ?_ _ | refine blk_drew ?_ | refine blk_alloc ?_ _)); exact BK276.out) Try.underlying87 rfl (by kernel_rfl)) rfl ?_
 exact ⟨by first | rfl | (simp [*] <;> rfl), by repeat (first | (with_reducible first | exact HB.out | apply below_alloc | apply pw_below_drewN | apply below_drew1 | refine below_set ?_ GE274.out | refine below_set ?_ GE275.out | refine below_set ?_ GE276.out) | exact HB.out)⟩

/-! ### impl_Second_cycles: function 33 -/
theorem pm.law : Maps.Keyed Try.prog 87 := Maps.Keyed.of_law (deep_law_laid (show laidOutB Try.prog = true by kernel_rfl) (m := 3) (by omega) (of_decide_eq_true (by kernel_rfl)) (by kernel_rfl) (by rw [Try.underlying87]))
def pm.gd (p : Int × Int) : Bool := (Lit.int .i64 p.1).wf && (Lit.int .i64 p.2).wf
def pm.val (p : Int × Int) : Value := .agg #[.int .i64 p.1, .int .i64 p.2]
noncomputable def pm.kl (p : Int × Int) : Lit := (keyOf Try.prog 87 (pm.val p)).getD (.bool false)
theorem pm.kl_eq (p : Int × Int) (h : pm.gd p = true) : keyOf Try.prog 87 (pm.val p) = some (pm.kl p) := by
 unfold pm.gd at h
 rw [Bool.and_eq_true] at h
 have hs : (keyOf Try.prog 87 (pm.val p)).isSome = true := by
  have hkt : Try.prog.keyType 87 = true := by kernel_rfl
  have c75 : Try.prog.cellsOf 87 = 2 := by kernel_rfl
  have c3 : Try.prog.cellsOf 3 = 1 := by kernel_rfl
  have hf : (pm.val p).formed Try.prog 87 = true := by simp [pm.val, Value.formed, Try.underlying87, c75]
  have hsz : 1 ≤ Try.prog.types.size := of_decide_eq_true (by kernel_rfl)
  obtain ⟨n, hn⟩ : ∃ n, Try.prog.types.size + 1 = n + 2 := ⟨Try.prog.types.size - 1, by omega⟩
  have hk : Try.prog.keyLits (n + 2) 87 (pm.val p).cells.toList = some [.int .i64 p.1, .int .i64 p.2] := by
   simp [Program.keyLits, pm.val, Value.cells, Try.underlying87, Try.underlying3, c75, c3, h.1, h.2]
  simp only [keyOf, Try.underlying87, hkt, hf, hn, hk]
  rfl
 unfold pm.kl
 obtain ⟨l, hl⟩ := Option.isSome_iff_exists.1 hs
 rw [hl]
 rfl
set_option maxRecDepth 100000 in
theorem pm.kl_inj {p q : Int × Int} (hp : pm.gd p = true) (hq : pm.gd q = true) (e : pm.kl p = pm.kl q) : p = q := by
 have h1 := pm.kl_eq q hq
 rw [← e] at h1
 have h := pm.law.inj (pm.kl_eq p hp) h1
 obtain ⟨p1, p2⟩ := p
 obtain ⟨q1, q2⟩ := q
 simp only [pm.val] at h
 injection h with h
 injection h with h
 injection h with h2 h3
 injection h3 with h3 _
 injection h2 with _ h2
 injection h3 with _ h3
 rw [h2, h3]
theorem pm.tight {w : World} {k : TypeId} {R : Value → Option (DataW Unit × List MemPlace)} {b n : Nat} {D : DataW Unit} (h : w.ownsMap Try.prog k R b n D) : w.ownsMap Try.prog k R b (Maps.size D) D := by
 obtain ⟨es, clock, h1, h2, h3, rfl⟩ := h
 refine ⟨es, clock, h1, h2, ?_, rfl⟩
 simp [Maps.size, length_sorted]
theorem pm.move {w w' : World} {k : TypeId} {R : Value → Option (DataW Unit × List MemPlace)} {b n : Nat} {D : DataW Unit} (h : w.ownsMap Try.prog k R b n D) (e : w'.heap[b]? = w.heap[b]?) : w'.ownsMap Try.prog k R b n D := by
 obtain ⟨es, clock, h1, r⟩ := h
 exact ⟨es, clock, e.trans h1, r⟩
structure pm.IsSet (w : World) (b : Nat) (L : List (Int × Int)) : Prop where
 nd : L.Nodup
 good : ∀ p ∈ L, pm.gd p = true
 own : ∃ D : DataW Unit, w.ownsMap Try.prog 87 (plainElem Try.prog 4) b L.length D ∧ Maps.size D = L.length ∧ ∀ p, pm.gd p = true → Maps.has D (pm.kl p) = decide (p ∈ L) ∧ D.atKey (pm.kl p) (.lit (.bool false)) = .lit (.bool (decide (p ∈ L)))
def pm.add (L : List (Int × Int)) (p : Int × Int) : List (Int × Int) := if p ∈ L then L else L ++ [p]
theorem pm.IsSet.made (w : World) : pm.IsSet (w.alloc (.map #[] 0)) w.heap.size [] :=
 ⟨.nil, by simp, .map [], World.ownsMap_made w _ _ _, rfl, fun p _ => ⟨by simp [Maps.has], by simp [DataW.atKey]⟩⟩
theorem pm.IsSet.move {w w' : World} {b : Nat} {L : List (Int × Int)} (h : pm.IsSet w b L) (e : w'.heap[b]? = w.heap[b]?) : pm.IsSet w' b L := by
 obtain ⟨h1, h2, D, h3, h4⟩ := h
 exact ⟨h1, h2, D, pm.move h3 e, h4⟩
theorem pm.IsSet.lt {w : World} {b : Nat} {L : List (Int × Int)} (h : pm.IsSet w b L) : b < w.heap.size := by
 obtain ⟨_, _, D, h3, _⟩ := h
 exact h3.lt
theorem pm.IsSet.below {w w' : World} {b : Nat} {L : List (Int × Int)} (h : pm.IsSet w b L) (hb : Below w.heap.size w w') : pm.IsSet w' b L := h.move (hb.block b h.lt)
theorem pm.IsSet.ne {w : World} {b g : Nat} {L : List (Int × Int)} (h : pm.IsSet w b L) {cs : Array Value} {t : TypeId} {fr : Nat × Nat} (hg : w.heap[g]? = some (.cells cs t fr)) : g ≠ b := by
 obtain ⟨_, _, D, ⟨es, clock, h1, _⟩, _⟩ := h
 rintro rfl
 rw [hg] at h1
 cases h1
set_option maxRecDepth 100000 in
theorem pm.IsSet.look {w : World} {b : Nat} {L : List (Int × Int)} (h : pm.IsSet w b L) {p : Int × Int} (hp : pm.gd p = true) : (Instr.lookup 84 (.map (some b)) (pm.val p) false).run Try.prog w = .ok (.bool (decide (p ∈ L))) w := by
 obtain ⟨_, _, D, h3, _, h5⟩ := h
 obtain ⟨v, ps, hrun, hv⟩ := h3.lookup pm.law Try.underlying84 (z := .bool false) (by kernel_rfl) (plainElem_bool Try.underlying4 false) (pm.kl_eq p hp)
 rw [(h5 p hp).2] at hv
 have e : v = .bool (decide (p ∈ L)) := by
  unfold plainElem at hv
  rw [Try.underlying4] at hv
  cases v <;> simp at hv
  rw [hv.1]
 rw [hrun, e]
set_option maxRecDepth 100000 in
theorem pm.IsSet.store {w : World} {b : Nat} {L : List (Int × Int)} (h : pm.IsSet w b L) (hl : L.length < maxLen) {p : Int × Int} (hp : pm.gd p = true) : ∃ w', (Instr.mapUpdate 84 (.map (some b)) (pm.val p) (.bool true)).run Try.prog w = .ok () w' ∧ pm.IsSet w' b (pm.add L p) ∧ w.grownBy w' (some b) := by
 obtain ⟨h1, h2, D, h3, h4, h5⟩ := h
 obtain ⟨w', hrun, hown, hg⟩ := h3.store pm.law Try.underlying84 hl (pm.kl_eq p hp) (plainElem_bool Try.underlying4 true)
 have hkey := pm.law.key (pm.kl_eq p hp)
 have hsz := Maps.size_put (k := pm.kl p) (h3.tidy pm.law) (.lit (.bool true))
 rw [(h5 p hp).1] at hsz
 have hfacts : ∀ q, pm.gd q = true → Maps.has (D.put (pm.kl p) (.lit (.bool true))) (pm.kl q) = decide (q ∈ pm.add L p) ∧ (D.put (pm.kl p) (.lit (.bool true))).atKey (pm.kl q) (.lit (.bool false)) = .lit (.bool (decide (q ∈ pm.add L p))) := by
  intro q hq
  by_cases e : q = p
  ·subst e
   have hm : q ∈ pm.add L q := by
    unfold pm.add
    split
    ·assumption
    ·simp
   rw [decide_eq_true hm]
   exact ⟨Maps.has_put_same h3.isMap hkey _, Maps.atKey_put_same h3.isMap hkey _ _⟩
  ·have hne : pm.kl q ≠ pm.kl p := fun e2 => e (pm.kl_inj hq hp e2)
   have hm : (q ∈ pm.add L p) ↔ q ∈ L := by
    unfold pm.add
    split
    ·rfl
    ·simp [e]
   rw [show decide (q ∈ pm.add L p) = decide (q ∈ L) from decide_eq_decide.2 hm]
   exact ⟨(Maps.has_put_other hne _).trans (h5 q hq).1, (Maps.atKey_put_other hne _ _).trans (h5 q hq).2⟩
 have hlen : Maps.size (D.put (pm.kl p) (.lit (.bool true))) = (pm.add L p).length := by
  rw [hsz]
  unfold pm.add
  by_cases hm : p ∈ L
  ·simp [hm, h4]
  ·simp [hm, h4]
 refine ⟨w', hrun, ⟨?_, ?_, D.put (pm.kl p) (.lit (.bool true)), hlen ▸ pm.tight hown, hlen, hfacts⟩, hg.grown⟩
 ·unfold pm.add
  by_cases hm : p ∈ L
  ·rw [if_pos hm]; exact h1
  ·rw [if_neg hm, List.nodup_append]
   exact ⟨h1, by simp, fun x hx y hy => by rw [List.mem_singleton.1 hy]; rintro rfl; exact hm hx⟩
 ·unfold pm.add
  by_cases hm : p ∈ L
  ·rw [if_pos hm]; exact h2
  ·rw [if_neg hm]
   intro q hq
   rcases List.mem_append.1 hq with hq | hq
   ·exact h2 q hq
   ·rw [List.mem_singleton.1 hq]; exact hp
theorem pm.IsSet.len {w : World} {b : Nat} {L : List (Int × Int)} (h : pm.IsSet w b L) (ty : TypeId) : (Builtin.len_ #[84] ty #[.map (some b)]).run Try.prog w = .ok (.int .i64 (L.length : Int)) w := by
 obtain ⟨_, _, D, h3, h4, _⟩ := h
 rw [h3.len Try.underlying84 ty, h4]
section
variable (w : World) {ops : Array Oper} {rest : List Oper} {o : Oper} {a : Act} {Q : Exit → Act → World → Prop}
theorem pm.look_op (hg : o.guard = none) (m x : Operand) (hop : o.op = Op.lookup 84 m x false) (b : Nat) (L : List (Int × Int)) (hm : a.eval m = .map (some b)) (hS : pm.IsSet w b L) (p : Int × Int) (hx : a.eval x = .agg #[.int .i64 p.1, .int .i64 p.2]) (hp : pm.gd p = true) (hK : wpList Try.prog ops Q rest (a.put o.dst (.bool (decide (p ∈ L)))) w) : wpList Try.prog ops Q (o :: rest) a w := by
 refine wpList_plain hg fun K' hK' => ?_
 have hrun := hS.look hp
 unfold pm.val at hrun
 unfold Oper.wp
 simp [execOp, hop, hm, hx, hrun, Result.andThen]
 exact hK' _ _ hK
theorem pm.store_op (hg : o.guard = none) (m x v : Operand) (hop : o.op = Op.mapUpdate 84 m x v) (b : Nat) (L : List (Int × Int)) (hm : a.eval m = .map (some b)) (hS : pm.IsSet w b L) (hl : L.length < maxLen) (p : Int × Int) (hx : a.eval x = .agg #[.int .i64 p.1, .int .i64 p.2]) (hv : a.eval v = .bool true) (hp : pm.gd p = true) (hK : ∀ w', pm.IsSet w' b (pm.add L p) → w.grownBy w' (some b) → wpList Try.prog ops Q rest (a.put o.dst undef) w') : wpList Try.prog ops Q (o :: rest) a w := by
 refine wpList_plain hg fun K' hK' => ?_
 obtain ⟨w', hrun, r1, r2⟩ := hS.store hl hp
 unfold pm.val at hrun
 unfold Oper.wp
 simp [execOp, hop, hm, hx, hv, hrun, Result.andThen]
 exact hK' _ _ (hK w' r1 r2)
end
structure pm.IsIdx (w : World) (b : Nat) (L : List (Int × Int)) : Prop where
 nd : L.Nodup
 good : ∀ p ∈ L, pm.gd p = true
 own : ∃ D : DataW Unit, w.ownsMap Try.prog 87 (plainElem Try.prog 3) b L.length D ∧ (∀ p, pm.gd p = true → Maps.has D (pm.kl p) = decide (p ∈ L)) ∧ ∀ (i : Nat) (h : i < L.length), D.atKey (pm.kl L[i]) (.lit (.int .i64 0)) = .lit (.int .i64 (i : Int))
theorem pm.IsIdx.made (w : World) : pm.IsIdx (w.alloc (.map #[] 0)) w.heap.size [] :=
 ⟨.nil, by simp, .map [], World.ownsMap_made w _ _ _, fun p _ => by simp [Maps.has], fun i h => by simp at h⟩
theorem pm.IsIdx.move {w w' : World} {b : Nat} {L : List (Int × Int)} (h : pm.IsIdx w b L) (e : w'.heap[b]? = w.heap[b]?) : pm.IsIdx w' b L := by
 obtain ⟨h1, h2, D, h3, h4⟩ := h
 exact ⟨h1, h2, D, pm.move h3 e, h4⟩
theorem pm.IsIdx.lt {w : World} {b : Nat} {L : List (Int × Int)} (h : pm.IsIdx w b L) : b < w.heap.size := by
 obtain ⟨_, _, D, h3, _⟩ := h
 exact h3.lt
theorem pm.IsIdx.below {w w' : World} {b : Nat} {L : List (Int × Int)} (h : pm.IsIdx w b L) (hb : Below w.heap.size w w') : pm.IsIdx w' b L := h.move (hb.block b h.lt)
theorem pm.IsIdx.ne {w : World} {b g : Nat} {L : List (Int × Int)} (h : pm.IsIdx w b L) {cs : Array Value} {t : TypeId} {fr : Nat × Nat} (hg : w.heap[g]? = some (.cells cs t fr)) : g ≠ b := by
 obtain ⟨_, _, D, ⟨es, clock, h1, _⟩, _⟩ := h
 rintro rfl
 rw [hg] at h1
 cases h1
set_option maxRecDepth 100000 in
theorem pm.IsIdx.look {w : World} {b : Nat} {L : List (Int × Int)} (h : pm.IsIdx w b L) {p : Int × Int} (hp : pm.gd p = true) : ∃ c : Int, (Instr.lookup 88 (.map (some b)) (pm.val p) true).run Try.prog w = .ok (.tuple #[.int .i64 c, .bool (decide (p ∈ L))]) w ∧ ∀ (i : Nat) (h : i < L.length), L[i] = p → c = (i : Int) := by
 obtain ⟨_, _, D, h3, h4, h5⟩ := h
 obtain ⟨v, ps, hrun, hv⟩ := h3.look_ok pm.law Try.underlying88 (z := .int .i64 0) (by kernel_rfl) (plainElem_int Try.underlying3 (by decide)) (pm.kl_eq p hp)
 obtain ⟨c, rfl, hc, _⟩ := plainElem_int_inv Try.underlying3 hv
 refine ⟨c, by rw [hrun, h4 p hp], fun i hi e => ?_⟩
 have h6 := h5 i hi
 rw [e] at h6
 have h7 := congrArg Prod.fst hc
 simp only [h6] at h7
 injection h7 with h7
 injection h7 with _ h7
 exact h7.symm
set_option maxRecDepth 100000 in
theorem pm.IsIdx.store {w : World} {b : Nat} {L : List (Int × Int)} (h : pm.IsIdx w b L) (hl : L.length < maxLen) {p : Int × Int} (hp : pm.gd p = true) (hm : p ∉ L) : ∃ w', (Instr.mapUpdate 88 (.map (some b)) (pm.val p) (.int .i64 (L.length : Int))).run Try.prog w = .ok () w' ∧ pm.IsIdx w' b (L ++ [p]) ∧ w.grownBy w' (some b) := by
 obtain ⟨h1, h2, D, h3, h4, h5⟩ := h
 have hwf : (Lit.int .i64 (L.length : Int)).wf = true := by
  have hmin : IntKind.i64.min = -9223372036854775808 := rfl
  have hmax : IntKind.i64.max = 9223372036854775807 := rfl
  simp only [Lit.wf, Bool.and_eq_true, decide_eq_true_eq, hmin, hmax]
  unfold maxLen at hl
  omega
 obtain ⟨w', hrun, hown, hg⟩ := h3.store pm.law Try.underlying88 hl (pm.kl_eq p hp) (plainElem_int Try.underlying3 hwf)
 have hkey := pm.law.key (pm.kl_eq p hp)
 refine ⟨w', hrun, ⟨?_, ?_, D.put (pm.kl p) (.lit (.int .i64 (L.length : Int))), by simpa using hown, fun q hq => ?_, fun i hi => ?_⟩, hg.grown⟩
 ·rw [List.nodup_append]
  exact ⟨h1, by simp, fun x hx y hy => by rw [List.mem_singleton.1 hy]; rintro rfl; exact hm hx⟩
 ·intro q hq
  rcases List.mem_append.1 hq with hq | hq
  ·exact h2 q hq
  ·rw [List.mem_singleton.1 hq]; exact hp
 ·by_cases e : q = p
  ·subst e
   rw [decide_eq_true (by simp)]
   exact Maps.has_put_same h3.isMap hkey _
  ·have hne : pm.kl q ≠ pm.kl p := fun e2 => e (pm.kl_inj hq hp e2)
   rw [show decide (q ∈ L ++ [p]) = decide (q ∈ L) from decide_eq_decide.2 (by simp [e])]
   exact (Maps.has_put_other hne _).trans (h4 q hq)
 ·by_cases hi' : i < L.length
  ·rw [List.getElem_append_left hi']
   have hne : pm.kl L[i] ≠ pm.kl p := fun e2 => hm ((pm.kl_inj (h2 _ (List.getElem_mem hi')) hp e2) ▸ List.getElem_mem hi')
   exact (Maps.atKey_put_other hne _ _).trans (h5 i hi')
  ·have e : i = L.length := by rw [List.length_append, List.length_singleton] at hi; omega
   subst e
   rw [List.getElem_append_right (Nat.le_refl _)]
   simp only [Nat.sub_self, List.getElem_cons_zero]
   exact Maps.atKey_put_same h3.isMap hkey _ _
section
variable (w : World) {ops : Array Oper} {rest : List Oper} {o : Oper} {a : Act} {Q : Exit → Act → World → Prop}
theorem pm.find_op (hg : o.guard = none) (m x : Operand) (hop : o.op = Op.lookup 88 m x true) (b : Nat) (L : List (Int × Int)) (hm : a.eval m = .map (some b)) (hS : pm.IsIdx w b L) (p : Int × Int) (hx : a.eval x = .agg #[.int .i64 p.1, .int .i64 p.2]) (hp : pm.gd p = true) (hK : ∀ c : Int, (∀ (i : Nat) (h : i < L.length), L[i] = p → c = (i : Int)) → wpList Try.prog ops Q rest (a.put o.dst (.tuple #[.int .i64 c, .bool (decide (p ∈ L))])) w) : wpList Try.prog ops Q (o :: rest) a w := by
 refine wpList_plain hg fun K' hK' => ?_
 obtain ⟨c, hrun, hc⟩ := hS.look hp
 unfold pm.val at hrun
 unfold Oper.wp
 simp [execOp, hop, hm, hx, hrun, Result.andThen]
 exact hK' _ _ (hK c hc)
theorem pm.mark_op (hg : o.guard = none) (m x v : Operand) (hop : o.op = Op.mapUpdate 88 m x v) (b : Nat) (L : List (Int × Int)) (hm : a.eval m = .map (some b)) (hS : pm.IsIdx w b L) (hl : L.length < maxLen) (p : Int × Int) (hx : a.eval x = .agg #[.int .i64 p.1, .int .i64 p.2]) (hv : a.eval v = .int .i64 (L.length : Int)) (hp : pm.gd p = true) (hn : p ∉ L) (hK : ∀ w', pm.IsIdx w' b (L ++ [p]) → w.grownBy w' (some b) → wpList Try.prog ops Q rest (a.put o.dst undef) w') : wpList Try.prog ops Q (o :: rest) a w := by
 refine wpList_plain hg fun K' hK' => ?_
 obtain ⟨w', hrun, r1, r2⟩ := hS.store hl hp hn
 unfold pm.val at hrun
 unfold Oper.wp
 simp [execOp, hop, hm, hx, hv, hrun, Result.andThen]
 exact hK' _ _ (hK w' r1 r2)
end
structure cy.S (W0 : World) (bm gp bo : Nat) (DN LI L : List (Int × Int)) (y z : Int) (v : Value) (w : World) : Prop where
 og : W0.grownBy w (some bm)
 pb : w.heap[gp]? = some (.cells #[.int .i64 y, .int .i64 z] 87 (0, 0))
 ss : pm.IsSet w bm DN
 ii : pm.IsIdx w bo LI
 hl : Kd.R (Kd.pair (Kd.int .i64) (Kd.int .i64)) 87 w W0.heap.size (fun k => W0.heap.size ≤ k ∧ k ≠ gp ∧ k ≠ bo) v L
 hp : W0.heap.size ≤ gp
 ho : W0.heap.size ≤ bo
 hm : bm < W0.heap.size
theorem cy.grown_below {a w w' : World} {row : Option Nat} (h : a.grownBy w row) (hb : Below w.heap.size w w') : a.grownBy w' row :=
 h.trans ⟨hb.os, hb.tape, hb.output, hb.size, fun i hi _ => hb.block i hi⟩
theorem cy.S.gpbo {W0 : World} {bm gp bo : Nat} {DN LI L : List (Int × Int)} {y z : Int} {v : Value} {w : World} (h : cy.S W0 bm gp bo DN LI L y z v w) : gp ≠ bo := h.ii.ne h.pb
theorem cy.S.later {W0 : World} {bm gp bo : Nat} {DN LI L : List (Int × Int)} {y z : Int} {v : Value} {w w' : World} (h : cy.S W0 bm gp bo DN LI L y z v w) (hb : Below w.heap.size w w') : cy.S W0 bm gp bo DN LI L y z v w' :=
 ⟨cy.grown_below h.og hb, blk_below h.pb hb, h.ss.below hb, h.ii.below hb, Kd.R_below h.hl hb, h.hp, h.ho, h.hm⟩
theorem cy.S.stored {W0 : World} {bm gp bo : Nat} {DN DN' LI L : List (Int × Int)} {y z : Int} {v : Value} {w w' : World} (h : cy.S W0 bm gp bo DN LI L y z v w) (hs : pm.IsSet w' bm DN') (hg : w.grownBy w' (some bm)) : cy.S W0 bm gp bo DN' LI L y z v w' := by
 have h1 := h.hp
 have h2 := h.ho
 have h3 := h.hm
 exact ⟨h.og.trans hg, blk_grown h.pb hg (fun e => by injection e with e; omega), hs, h.ii.move (hg.block _ h.ii.lt (fun e => by injection e with e; omega)), Kd.R_grown h.hl hg (fun k hk e => by injection e with e; have := hk.1; omega), h.hp, h.ho, h.hm⟩
theorem cy.S.marked {W0 : World} {bm gp bo : Nat} {DN LI LI' L : List (Int × Int)} {y z : Int} {v : Value} {w w' : World} (h : cy.S W0 bm gp bo DN LI L y z v w) (hs : pm.IsIdx w' bo LI') (hg : w.grownBy w' (some bo)) : cy.S W0 bm gp bo DN LI' L y z v w' := by
 have h1 := h.hp
 have h2 := h.ho
 have h3 := h.hm
 have h4 := h.gpbo
 exact ⟨⟨hg.os.trans h.og.os, hg.tape.trans h.og.tape, hg.output.trans h.og.output, Nat.le_trans h.og.size hg.size, fun i hi e => (hg.block i (Nat.lt_of_lt_of_le hi h.og.size) (fun e2 => by injection e2 with e2; omega)).trans (h.og.block i hi e)⟩, blk_grown h.pb hg (fun e => by injection e with e; exact h4 e), h.ss.move (hg.block _ h.ss.lt (fun e => by injection e with e; omega)), hs, Kd.R_grown h.hl hg (fun k hk e => by injection e with e; exact hk.2.2 e), h.hp, h.ho, h.hm⟩
theorem cy.S.added {W0 : World} {bm gp bo : Nat} {DN LI L L' : List (Int × Int)} {y z : Int} {v v' : Value} {w w' : World} (h : cy.S W0 bm gp bo DN LI L y z v w) (hs : Kd.R (Kd.pair (Kd.int .i64) (Kd.int .i64)) 87 w' W0.heap.size (fun k => W0.heap.size ≤ k ∧ k ≠ gp ∧ k ≠ bo) v' L') (hg : w.grownBy w' v.ownBlock) : cy.S W0 bm gp bo DN LI L' y z v' w' := by
 have h1 := h.hp
 have h2 := h.ho
 have h3 := h.hm
 have hv : ∀ i, some i = v.ownBlock → W0.heap.size ≤ i ∧ i ≠ gp ∧ i ≠ bo := fun i e => h.hl.1 i e.symm
 exact ⟨⟨hg.os.trans h.og.os, hg.tape.trans h.og.tape, hg.output.trans h.og.output, Nat.le_trans h.og.size hg.size, fun i hi e => (hg.block i (Nat.lt_of_lt_of_le hi h.og.size) (fun e2 => by have := (hv i e2).1; omega)).trans (h.og.block i hi e)⟩, blk_grown h.pb hg (fun e => (hv _ e).2.1 rfl), h.ss.move (hg.block _ h.ss.lt (fun e => by have := (hv _ e).1; omega)), h.ii.move (hg.block _ h.ii.lt (fun e => (hv _ e).2.2 rfl)), hs, h.hp, h.ho, h.hm⟩
theorem cy.put_grown (w : World) (g : Nat) (y z : Value) : w.grownBy ((w.setCell ⟨g, 0, none⟩ y).setCell ⟨g, 1, none⟩ z) (some g) :=
 ⟨rfl, rfl, rfl, by simp, fun i hi e => (Below.heap_setCell _ _ _ _ (fun e2 => e (by rw [e2]))).trans (Below.heap_setCell _ _ _ _ (fun e2 => e (by rw [e2])))⟩
theorem cy.S.put {W0 : World} {bm gp bo : Nat} {DN LI L : List (Int × Int)} {y z : Int} {v : Value} {w : World} (h : cy.S W0 bm gp bo DN LI L y z v w) (y' z' : Int) : cy.S W0 bm gp bo DN LI L y' z' v ((w.setCell ⟨gp, 0, none⟩ (.int .i64 y')).setCell ⟨gp, 1, none⟩ (.int .i64 z')) := by
 have h1 := h.hp
 have h2 := h.ho
 have h3 := h.hm
 have hg := cy.put_grown w gp (.int .i64 y') (.int .i64 z')
 have h4 := h.gpbo
 exact ⟨⟨hg.os.trans h.og.os, hg.tape.trans h.og.tape, hg.output.trans h.og.output, Nat.le_trans h.og.size hg.size, fun i hi e => (hg.block i (Nat.lt_of_lt_of_le hi h.og.size) (fun e2 => by injection e2 with e2; omega)).trans (h.og.block i hi e)⟩, (blk_set (blk_set h.pb 0 _) 1 _).trans rfl, h.ss.move (hg.block _ h.ss.lt (fun e => by injection e with e; omega)), h.ii.move (hg.block _ h.ii.lt (fun e => by injection e with e; omega)), Kd.R_grown h.hl hg (fun k hk e => by injection e with e; exact hk.2.1 e), h.hp, h.ho, h.hm⟩
theorem cy.S.old {W0 : World} {bm gp bo : Nat} {DN LI L : List (Int × Int)} {y z : Int} {v : Value} {w : World} (h : cy.S W0 bm gp bo DN LI L y z v w) {g : Nat} {cs : Array Value} {t : TypeId} (hg : W0.heap[g]? = some (.cells cs t (0, 0))) {DN0 : List (Int × Int)} (h0 : pm.IsSet W0 bm DN0) : w.heap[g]? = some (.cells cs t (0, 0)) :=
 blk_grown hg h.og (fun e => by injection e with e; exact h0.ne hg e)
theorem cy.S.start {W w1 w' : World} {bm gp : Nat} {D : List (Int × Int)} {y z : Int} {v : Value} (h0 : pm.IsSet W bm D) (hb : Below W.heap.size W w1) (hgp : W.heap.size ≤ gp) (hp : w1.heap[gp]? = some (.cells #[.int .i64 y, .int .i64 z] 87 (0, 0)))
  (hr : Kd.R (Kd.pair (Kd.int .i64) (Kd.int .i64)) 87 w' (w1.alloc (.map #[] 0)).heap.size (fun _ => True) v []) (hb2 : Below (w1.alloc (.map #[] 0)).heap.size (w1.alloc (.map #[] 0)) w') : cy.S W bm gp w1.heap.size D [] [] y z v w' := by
 have h1 := below_size hb
 have h2 := blk_lt hp
 have h3 := h0.lt
 have h4 : (w1.alloc (.map #[] 0)).heap.size = w1.heap.size + 1 := by rw [World.size_alloc]
 have hb3 : Below W.heap.size W w' := below_step (below_alloc hb _) hb2
 exact ⟨⟨hb3.os, hb3.tape, hb3.output, hb3.size, fun i hi _ => hb3.block i hi⟩, blk_below (blk_alloc hp _) hb2, h0.below hb3, (pm.IsIdx.made w1).below hb2, Kd.R_lower (Kd.R_mono (Kd.R_newM hr (Nat.le_refl _) (M := fun k => w1.heap.size < k) (fun k hk => by omega)) (fun k hk => ⟨by have := hk.1; omega, by have := hk.1; omega, by have := hk.1; omega⟩)) (by omega), hgp, by omega, h3⟩
theorem cy.S.cells {W0 : World} {bm gp bo : Nat} {DN LI L : List (Int × Int)} {y z : Int} {v : Value} {w : World} (h : cy.S W0 bm gp bo DN LI L y z v w) {DN0 : List (Int × Int)} (h0 : pm.IsSet W0 bm DN0) {gm gf gx : Nat} {a a2 s m b : Int} {bw : Bool} {x : Int} (hm : W0.heap[gm]? = some (.cells #[.map (some bm)] 84 (0, 0))) (hf : W0.heap[gf]? = some (.cells #[.int .i64 a, .int .i64 a2, .int .i64 s, .int .i64 m, .int .i64 b, .bool bw] 44 (0, 0))) (hx : W0.heap[gx]? = some (.cells #[.int .i64 x] 3 (0, 0))) :
  w.cell? ⟨gm, 0, none⟩ = some (.map (some bm)) ∧ w.cell? ⟨gf, 0, none⟩ = some (.int .i64 a) ∧ w.cell? ⟨gf, 1, none⟩ = some (.int .i64 a2) ∧ w.cell? ⟨gf, 2, none⟩ = some (.int .i64 s) ∧ w.cell? ⟨gf, 3, none⟩ = some (.int .i64 m) ∧ w.cell? ⟨gf, 4, none⟩ = some (.int .i64 b) ∧ w.cell? ⟨gf, 5, none⟩ = some (.bool bw) ∧ w.cell? ⟨gx, 0, none⟩ = some (.int .i64 x) ∧ w.cell? ⟨gp, 0, none⟩ = some (.int .i64 y) ∧ w.cell? ⟨gp, 1, none⟩ = some (.int .i64 z) ∧ w.frozen? ⟨gp, 0, none⟩ = false ∧ w.frozen? ⟨gp, 1, none⟩ = false := by
 have k1 := h.old hm h0
 have k2 := h.old hf h0
 have k3 := h.old hx h0
 exact ⟨(blk_cell k1 0).trans rfl, (blk_cell k2 0).trans rfl, (blk_cell k2 1).trans rfl, (blk_cell k2 2).trans rfl, (blk_cell k2 3).trans rfl, (blk_cell k2 4).trans rfl, (blk_cell k2 5).trans rfl, (blk_cell k3 0).trans rfl, (blk_cell h.pb 0).trans rfl, (blk_cell h.pb 1).trans rfl, blk_frozen h.pb 0, blk_frozen h.pb 1⟩
def impl_Second_cycles.walk : Nat → Int → Int → Int → Int → Int → Bool → Int → List (Int × Int) → List (Int × Int) → Int → Int → Option (List (Int × Int) × List (Int × Int) × (Int × Int))
 | 0, _, _, _, _, _, _, _, _, _, _, _ => none
 | k + 1, a, a2, s, m, b, bw, x, D, q, y, z => if pm.gd (y, z) = true then (if (y, z) ∈ D then some (D, q, (y, z)) else (if D.length < 1000000 ∧ q.length < 1000000 ∧ (y, z) ∉ q then ((impl_Second_step.f k a a2 s m b bw y z x).bind fun p => impl_Second_cycles.walk k a a2 s m b bw x (D ++ [(y, z)]) (q ++ [(y, z)]) p.1 p.2) else none)) else none
def impl_Second_cycles.one (k : Nat) (a a2 s m b : Int) (bw : Bool) (x : Int) (D : List (Int × Int)) (O : List (List (Int × Int))) (y z : Int) : Option (List (Int × Int) × List (List (Int × Int))) := if pm.gd (y, z) = true ∧ O.length < 1000000 then (if (y, z) ∈ D then some (D, O) else ((impl_Second_cycles.walk k a a2 s m b bw x D [] y z).bind fun r => if r.2.2 ∈ r.2.1 then some (r.1, O ++ [r.2.1.drop (r.2.1.idxOf r.2.2)]) else some (r.1, O))) else none
def impl_Second_cycles.row : Nat → Int → Int → Int → Int → Int → Bool → Int → Int → List (Int × Int) → List (List (Int × Int)) → Int → Int → Option (List (Int × Int) × List (List (Int × Int)))
 | 0, _, _, _, _, _, _, _, _, _, _, _, _ => none
 | k + 1, a, a2, s, m, b, bw, x, hi, D, O, y, z => if z ≤ hi then ((impl_Second_cycles.one k a a2 s m b bw x D O y z).bind fun r => impl_Second_cycles.row k a a2 s m b bw x hi r.1 r.2 y (z + 1)) else some (D, O)
def impl_Second_cycles.all : Nat → Int → Int → Int → Int → Int → Bool → Int → Int → Int → List (Int × Int) → List (List (Int × Int)) → Int → Option (List (List (Int × Int)))
 | 0, _, _, _, _, _, _, _, _, _, _, _, _ => none
 | k + 1, a, a2, s, m, b, bw, x, lo, hi, D, O, y => if y ≤ hi then ((impl_Second_cycles.row k a a2 s m b bw x hi D O y lo).bind fun r => impl_Second_cycles.all k a a2 s m b bw x lo hi r.1 r.2 (y + 1)) else some O
def impl_Second_cycles.f (k : Nat) (a a2 s m b : Int) (bw : Bool) (x : Int) : Option (List (List (Int × Int))) := (impl_Word_ends.f b bw).bind fun e => if -9223372036854775808 ≤ e.1 ∧ e.1 ≤ e.2 + 1 ∧ e.2 < 9223372036854775807 then impl_Second_cycles.all k a a2 s m b bw x e.1 e.2 [] [] e.1 else none
theorem impl_Second_cycles.mono_w : ∀ k a a2 s m b bw x D q y z, LeO (impl_Second_cycles.walk k a a2 s m b bw x D q y z) (impl_Second_cycles.walk (k + 1) a a2 s m b bw x D q y z)
 | 0, a, a2, s, m, b, bw, x, D, q, y, z => fun r h => by simp [impl_Second_cycles.walk] at h
 | k + 1, a, a2, s, m, b, bw, x, D, q, y, z => by
  rw [impl_Second_cycles.walk, impl_Second_cycles.walk]
  exact LeO.ite (LeO.ite (LeO.refl _) (LeO.ite (LeO.bind (impl_Second_step.mono _ _ _ _ _ _ _ _ _ _) (fun p => impl_Second_cycles.mono_w k a a2 s m b bw x _ _ _ _)) (LeO.none _))) (LeO.none _)
theorem impl_Second_cycles.mono_o (k : Nat) (a a2 s m b : Int) (bw : Bool) (x : Int) (D : List (Int × Int)) (O : List (List (Int × Int))) (y z : Int) : LeO (impl_Second_cycles.one k a a2 s m b bw x D O y z) (impl_Second_cycles.one (k + 1) a a2 s m b bw x D O y z) := by
 unfold impl_Second_cycles.one
 exact LeO.ite (LeO.ite (LeO.refl _) (LeO.bind (impl_Second_cycles.mono_w k a a2 s m b bw x _ _ _ _) (fun r => LeO.refl _))) (LeO.none _)
theorem impl_Second_cycles.mono_r : ∀ k a a2 s m b bw x hi D O y z, LeO (impl_Second_cycles.row k a a2 s m b bw x hi D O y z) (impl_Second_cycles.row (k + 1) a a2 s m b bw x hi D O y z)
 | 0, a, a2, s, m, b, bw, x, hi, D, O, y, z => fun r h => by simp [impl_Second_cycles.row] at h
 | k + 1, a, a2, s, m, b, bw, x, hi, D, O, y, z => by
  rw [impl_Second_cycles.row, impl_Second_cycles.row]
  exact LeO.ite (LeO.bind (impl_Second_cycles.mono_o k a a2 s m b bw x D O y z) (fun r => impl_Second_cycles.mono_r k a a2 s m b bw x hi _ _ y _)) (LeO.refl _)
theorem impl_Second_cycles.mono_a : ∀ k a a2 s m b bw x lo hi D O y, LeO (impl_Second_cycles.all k a a2 s m b bw x lo hi D O y) (impl_Second_cycles.all (k + 1) a a2 s m b bw x lo hi D O y)
 | 0, a, a2, s, m, b, bw, x, lo, hi, D, O, y => fun r h => by simp [impl_Second_cycles.all] at h
 | k + 1, a, a2, s, m, b, bw, x, lo, hi, D, O, y => by
  rw [impl_Second_cycles.all, impl_Second_cycles.all]
  exact LeO.ite (LeO.bind (impl_Second_cycles.mono_r k a a2 s m b bw x hi D O y lo) (fun r => impl_Second_cycles.mono_a k a a2 s m b bw x lo hi _ _ _)) (LeO.refl _)
theorem impl_Second_cycles.mono : ∀ a a2 s m b bw x k, LeO (impl_Second_cycles.f k a a2 s m b bw x) (impl_Second_cycles.f (k + 1) a a2 s m b bw x) := by
 intro a a2 s m b bw x k
 unfold impl_Second_cycles.f
 exact LeO.bind (LeO.refl _) (fun e => LeO.ite (impl_Second_cycles.mono_a _ _ _ _ _ _ _ _ _ _ _ _ _) (LeO.none _))
set_option maxHeartbeats 4000000 in
set_option maxRecDepth 100000 in
theorem impl_Second_cycles.lit (k gm bm gf gx go : Nat) (a a2 s m b : Int) (bw : Bool) (x y z : Int) (v : Value) (D : List (Int × Int)) (O : List (List (Int × Int))) (q : List (Int × Int) × List (List (Int × Int))) (w0 W : World)
  (hbm : W.heap[gm]? = some (.cells #[.map (some bm)] 84 (0, 0))) (hbf : W.heap[gf]? = some (.cells #[.int .i64 a, .int .i64 a2, .int .i64 s, .int .i64 m, .int .i64 b, .bool bw] 44 (0, 0))) (hbx : W.heap[gx]? = some (.cells #[.int .i64 x] 3 (0, 0))) (hbo : W.heap[go]? = some (.cells #[v] 62 (0, 0)))
  (hS : pm.IsSet W bm D) (HN : Kd.N (Kd.slice 87 (Kd.pair (Kd.int .i64) (Kd.int .i64))) 64 W w0.heap.size (fun k_ => k_ ≠ go ∧ k_ ≠ bm ∧ w0.heap.size ≤ k_) v O) (hB : Below w0.heap.size w0 W) (hgo : w0.heap.size ≤ go) (hm : w0.heap.size ≤ bm) (h : impl_Second_cycles.one k a a2 s m b bw x D O y z = some q) :
  Calls Try.prog 56 #[.agg #[.int .i64 y, .int .i64 z], .pointer (some ⟨gm, 0, none⟩), .pointer (some ⟨gf, 0, none⟩), .pointer (some ⟨gx, 0, none⟩), .pointer (some ⟨go, 0, none⟩)] W fun e W' => e = .returned (.tuple #[]) ∧ Below w0.heap.size w0 W' ∧ pr.Kept W W' ∧
   W'.heap[gm]? = some (.cells #[.map (some bm)] 84 (0, 0)) ∧ pm.IsSet W' bm q.1 ∧ ∃ v', W'.heap[go]? = some (.cells #[v'] 62 (0, 0)) ∧ Kd.N (Kd.slice 87 (Kd.pair (Kd.int .i64) (Kd.int .i64))) 64 W' w0.heap.size (fun k_ => k_ ≠ go ∧ k_ ≠ bm ∧ w0.heap.size ≤ k_) v' q.2 := by
 unfold impl_Second_cycles.one at h
 by_cases c0 : pm.gd (y, z) = true ∧ O.length < 1000000
 case neg => rw [if_neg c0] at h; cases h
 rw [if_pos c0] at h
 have G0 := Aside0.mk c0
 clear c0
 have MB := Aside0.mk hbm
 have FB := Aside0.mk hbf
 have XB := Aside0.mk hbx
 have OB := Aside0.mk hbo
 have S0 := Aside0.mk hS
 have HNA := Aside0.mk HN
 have HBA := Aside0.mk hB
 have HGO := Aside0.mk hgo
 have HGM := Aside0.mk hm
 have cm := (blk_cell hbm 0).trans rfl
 clear hbm hbf hbx hbo hS HN hB hgo hm
 go_enter Try.func56, Try.ntmps56
 by_cases c1 : (y, z) ∈ D
 ·rw [if_pos c1] at h
  cases h
  have c1b : decide ((y, z) ∈ D) = true := decide_eq_true c1
  clear c1
  go_wp2_with (first
   | ((with_reducible refine gate_dst (N := 5) rfl ?_); refine box_event ?hg (N := 5) ?hd (cs := #[.int .i64 y, .int .i64 z]) (t := 87) ?hr ?_; (case hd => rfl); (case hg => rfl); (case hr => first | (go_simp; done) | (go_simp; rfl)); intro gp hgp w1 hbp hb; have HB1 := Aside0.mk hb; clear cm hb hgp; have cm := (blk_cell (blk_below MB.out HB1.out) 0).trans (show (#[Value.map (some bm)])[0]? = some (.map (some bm)) from rfl); have cp0 := (blk_cell hbp 0).trans (show (#[.int .i64 y, .int .i64 z] : Array Value)[0]? = some (.int .i64 y) from rfl); have cp1 := (blk_cell hbp 1).trans (show (#[.int .i64 y, .int .i64 z] : Array Value)[1]? = some (.int .i64 z) from rfl); clear hbp)
   | ((with_reducible refine gate_dst (N := 12) rfl ?_); refine pm.look_op _ rfl (.tmp 10) (.tmp 11) rfl bm D rfl (S0.out.below HB1.out) (y, z) rfl G0.out.1 ?_; rw [c1b]))
  ((try simp only [Exit.inBlock, Exit.then]); refine bodyPost_ret (results_none rfl _ _ _) rfl ?_)
  exact ⟨rfl, below_step HBA.out HB1.out, pr.Kept.below HB1.out, blk_below MB.out HB1.out, S0.out.below HB1.out, v, blk_below OB.out HB1.out, Kd.N_below HNA.out HB1.out⟩
 ·rw [if_neg c1] at h
  obtain ⟨⟨D1, q1, y1, z1⟩, A_, h1⟩ := Option.bind_eq_some_iff.mp h
  have HW := Aside0.mk A_
  have HR := Aside0.mk h1
  have c1b : decide ((y, z) ∈ D) = false := decide_eq_false c1
  clear c1 h A_ h1
  go_wp2_with (first
   | ((with_reducible refine gate_dst (N := 5) rfl ?_); refine box_event ?hg (N := 5) ?hd (cs := #[.int .i64 y, .int .i64 z]) (t := 87) ?hr ?_; (case hd => rfl); (case hg => rfl); (case hr => first | (go_simp; done) | (go_simp; rfl)); intro gp hgp w1 hbp hb; have HGP := Aside0.mk (Nat.le_of_eq hgp.symm); have HB1 := Aside0.mk hb; have PB := Aside0.mk hbp; clear cm hb hgp; have cm := (blk_cell (blk_below MB.out HB1.out) 0).trans (show (#[Value.map (some bm)])[0]? = some (.map (some bm)) from rfl); have cp0 := (blk_cell hbp 0).trans (show (#[.int .i64 y, .int .i64 z] : Array Value)[0]? = some (.int .i64 y) from rfl); have cp1 := (blk_cell hbp 1).trans (show (#[.int .i64 y, .int .i64 z] : Array Value)[1]? = some (.int .i64 z) from rfl); clear hbp)
   | ((with_reducible refine gate_dst (N := 12) rfl ?_); refine pm.look_op _ rfl (.tmp 10) (.tmp 11) rfl bm D rfl (S0.out.below HB1.out) (y, z) rfl G0.out.1 ?_; rw [c1b]; clear cm cp0 cp1)
   | ((with_reducible refine gate_dst (N := 13) rfl ?_); refine Kd.event_run rfl (v := .map (some w1.heap.size)) (w1 := w1.alloc (.map #[] 0)) rfl ?_)
   | ((with_reducible refine gate_dst (N := 14) rfl ?_); refine Kd.R_lit (Kd.pair (Kd.int .i64) (Kd.int .i64)) (w0 := w1.alloc (.map #[] 0)) (w1.alloc (.map #[] 0)).heap.size 87 ?hg (N := 14) ?hd (xs := ([] : List (Int × Int))) (inner := []) (ok := fun _ => True) (okp := fun _ => True) ?hr ?hp (fun _ hk => hk) trivial (Below.refl _ _) (Nat.le_refl _) (by simp) ?_; (case hd => rfl); (case hg => rfl); (case hr => first | (go_simp; done) | (go_simp; rfl)); (case hp => exact Reps.none _ _); intro v14 w9 ho hb hg_ hnew_; have SS := Aside0.mk (cy.S.start S0.out HB1.out HGP.out PB.out ho hb); clear ho hb hg_ hnew_))
  go_loopg [7] k (fun kq v7 w' => ∃ (DN L : List (Int × Int)) (y2 z2 : Int), Aside0 (cy.S W bm gp w1.heap.size DN L L y2 z2 v7 w') ∧ Aside0 (impl_Second_cycles.walk kq a a2 s m b bw x DN L y2 z2 = some (D1, q1, (y1, z1))))
  case atStart => exact ⟨D, [], y, z, SS, HW⟩
  case round =>
   clear SS HW
   obtain ⟨DN, L, y2, z2, SS, HWK⟩ := hrel
   cases gk with
   | zero => exact absurd HWK.out (by simp [impl_Second_cycles.walk])
   | succ k1 =>
    have H := HWK.out
    clear HWK
    simp only [impl_Second_cycles.walk] at H
    obtain ⟨Aq, cq, eq_⟩ := Kd.R_slice SS.out.hl
    subst eq_
    by_cases c3 : pm.gd (y2, z2) = true
    case neg => rw [if_neg c3] at H; cases H
    rw [if_pos c3] at H
    have G2 := Aside0.mk c3
    clear c3
    obtain ⟨cm, cf0, cf1, cf2, cf3, cf4, cf5, cx, cp0, cp1, fp0, fp1⟩ := SS.out.cells S0.out MB.out FB.out XB.out
    by_cases c4 : (y2, z2) ∈ DN
    ·rw [if_pos c4] at H
     have c4b : decide ((y2, z2) ∈ DN) = true := decide_eq_true c4
     clear c4
     obtain ⟨rfl, rfl, rfl, rfl⟩ : D1 = DN ∧ q1 = L ∧ y1 = y2 ∧ z1 = z2 := by injection H with H; injection H with e1 H; injection H with e2 H; injection H with e3 e4; exact ⟨e1.symm, e2.symm, e3.symm, e4.symm⟩
     clear H
     have hri := HR.out
     try dsimp only at hri
     clear HR
     by_cases c6 : (y1, z1) ∈ q1
     ·rw [if_pos c6] at hri
      have c6b : decide ((y1, z1) ∈ q1) = true := decide_eq_true c6
      have hidx := List.idxOf_lt_length_of_mem c6
      obtain ⟨i, hi⟩ : ∃ i, q1.idxOf (y1, z1) = i := ⟨_, rfl⟩
      have hgi : q1[q1.idxOf (y1, z1)] = (y1, z1) := List.getElem_idxOf hidx
      rw [hi] at hri hidx
      have hgi2 : q1[i]? = some (y1, z1) := by rw [← hi, List.getElem?_eq_getElem (List.idxOf_lt_length_of_mem c6), hgi]
      clear hgi
      injection hri with hri
      subst hri
      have HI := Aside0.mk hidx
      have HGI := Aside0.mk hgi2
      have GL := Aside0.mk (show (q1.drop i).length = q1.length - i by simp)
      clear c6 hidx hi hgi2
      have hci : (0:Int) ≤ (i : Int) := by omega
      have hcl : ((i : Int) ≤ (q1.length : Int)) := by have := HI.out; omega
      go_upto_region 10 with (first
       | ((with_reducible refine gate_dst (N := 17) rfl ?_); refine pm.look_op _ rfl (.tmp 15) (.tmp 16) rfl bm D1 rfl SS.out.ss (y1, z1) rfl G2.out ?_; rw [c4b])
       | ((with_reducible refine gate_dst (N := 36) rfl ?_); refine pm.find_op _ rfl (.tmp 34) (.tmp 35) rfl w1.heap.size q1 rfl SS.out.ii (y1, z1) rfl G2.out ?_; intro c hc; obtain rfl := hc i HI.out (List.getElem?_eq_some_iff.1 HGI.out).2; clear hc; rw [c6b]))
      refine start_ (n := 7) (S := fun w' => w'.cell? ⟨go, 0, none⟩ = some v) (ds := [6]) #[false, false, false, false, false, false, false] (by kernel_rfl) rfl rfl ((blk_cell (blk_drew (SS.out.old OB.out S0.out)) 0).trans rfl) (fun hHeld => ?_)
      refine pure_ (i := 1) (N := some 41) (v := ?_) (a' := ?_) #[false, true, false, false, false, false, false] rfl rfl (by kernel_rfl) (fun _ _ _ h => h) (Or.inl ⟨by rfl, ?_⟩) ?_ ?_
      rotate_left
      ·intro w'
       go_simp
       with_reducible rfl
      rotate_left
      ·simp only [Act.put, List.setIfInBounds_toArray, List.set_cons_zero, List.set_cons_succ, i64_w, i32_w]
       rfl
      refine pure_ (i := 2) (N := some 42) (v := ?_) (a' := ?_) #[false, true, true, false, false, false, false] rfl rfl (by kernel_rfl) (fun _ _ _ h => h) (Or.inl ⟨by rfl, ?_⟩) ?_ ?_
      rotate_left
      ·intro w'
       go_simp
       with_reducible rfl
      rotate_left
      ·simp only [Act.put, List.setIfInBounds_toArray, List.set_cons_zero, List.set_cons_succ, i64_w, i32_w]
       rfl
      refine pure_ (i := 3) (N := some 43) (v := ?_) (a' := ?_) #[false, true, true, true, false, false, false] rfl rfl (by kernel_rfl) (fun _ _ _ h => h) (Or.inl ⟨by rfl, ?_⟩) ?_ ?_
      rotate_left
      ·intro w'
       go_simp
       with_reducible rfl
      rotate_left
      ·simp only [Act.put, List.setIfInBounds_toArray, List.set_cons_zero, List.set_cons_succ, i64_w, i32_w]
       rfl
      refine take_ (i := 0) (N := some 40) (v := ?_) (a' := ?_) #[true, true, true, true, false, false, false] rfl rfl (by kernel_rfl) (fun _ _ _ h => h) (Or.inl ⟨by rfl, ?_⟩) hHeld ?_ ?_
      rotate_left
      ·intro w' s0
       go_simp
       with_reducible rfl
      rotate_left
      ·simp only [Act.put, List.setIfInBounds_toArray, List.set_cons_zero, List.set_cons_succ, i64_w, i32_w]
       rfl
      refine one_ (i := 4) (N := some 44) #[true, true, true, true, true, false, false] rfl rfl (by kernel_rfl) (by decide) (fun K hK => ?_)
      refine value_ (w1 := ?_) (v := ?_) (by rfl) rfl ?_ ?_
      rotate_left 2
      ·go_simp
       constructor
       ·rfl
       ·rfl
      refine hK.out _ _ ((blk_cell (blk_alloc (blk_drew (SS.out.old OB.out S0.out)) _) 0).trans rfl) (fun hHeld => ?_)
      clear hK K
      refine norm_ (a' := ?_) ?_ ?_
      rotate_left
      ·show Act.put _ (some 44) _ = _
       simp only [Act.put, List.setIfInBounds_toArray, List.set_cons_zero, List.set_cons_succ, i64_w, i32_w]
       rfl
      refine one_ (i := 5) (N := some 45) #[true, true, true, true, true, true, false] rfl rfl (by kernel_rfl) (by decide) (fun K hK => ?_)
      have HND := Aside0.mk (Kd.N_drew (Kd.N_grown HNA.out SS.out.og (fun k hk e_ => by injection e_ with e_; exact hk.2.1 e_)))
      have HBD := Aside0.mk (below_drew (HBA.out.grown SS.out.og (below_size HBA.out) (fun k e_ => by injection e_ with e_; have := HGM.out; omega)))
      refine Kd.N_append_step (Kd.slice 87 (Kd.pair (Kd.int .i64) (Kd.int .i64))) (w0 := w0) (W := wr.drew) w0.heap.size (by rfl) (.tmp 40) (.tmp 44) 62 64 (.slice none 0 0) 24 rfl Try.underlying62 info64 rfl (by decide) (by omega) v O (q1.drop i) [(.slice (if cq = i then Aq else Option.map (fun x => x.add (i * 2)) Aq) (q1.length - i) (cq - i))] (fun k_ => k_ ≠ go ∧ k_ ≠ bm ∧ w0.heap.size ≤ k_) (fun k_ => W.heap.size ≤ k_ ∧ k_ ≠ gp ∧ k_ ≠ w1.heap.size) rfl rfl ?aP ?aK ?aF ?aO ?aB ?aS ?aL ?_
      (case aP => have hc_ := (Kd.R_reads' SS.out.hl).2.1; have hi_ := HI.out; have h_ := Kd.FK_slice_mk (e := 87) (d := (Kd.pair (Kd.int .i64) (Kd.int .i64))) (c := cq - i) (by rw [GL.out]; omega) (Kd.F_cut (Kd.R_F SS.out.hl) (Nat.le_of_lt HI.out) hc_); rw [GL.out] at h_; exact Kd.FK_below h_ (below_drew (Below.refl _ _)))
      (case aK => exact fun k_ hk_ => have h1_ := blk_lt OB.out; have h2_ := S0.out.lt; ⟨⟨fun e_ => by have := hk_.1; omega, fun e_ => by have := hk_.1; omega, by have := hk_.1; have := below_size HBA.out; omega⟩, fun e_ => by have := Kd.N_lt HNA.out k_ e_.symm; have := hk_.1; omega⟩)
      (case aF => exact fun k_ hk_ => have h1_ := blk_lt OB.out; have h2_ := S0.out.lt; have h3_ := SS.out.og.size; have h4_ : wr.heap.size ≤ k_ := hk_; ⟨fun e_ => by omega, fun e_ => by omega, by have := below_size HBA.out; omega⟩)
      (case aO => exact HND.out)
      (case aB => exact HBD.out)
      (case aS => exact below_size HBD.out)
      (case aL => have := G0.out.2; omega)
      intro v45 w12 ho_ hb_ hg_ hat_
      obtain ⟨A45, n45, c45, e45_⟩ : ∃ A n c, v45 = Value.slice A n c := by obtain ⟨A, c, e⟩ := Kd.N_slice ho_; exact ⟨A, _, c, e⟩
      subst e45_
      have OB2 := Aside0.mk (blk_grown (blk_drew (SS.out.old OB.out S0.out)) hg_ (Kd.N_ne HND.out (blk_drew (SS.out.old OB.out S0.out)) (by decide)))
      have HO2 := Aside0.mk ho_
      have HB2 := Aside0.mk hb_
      have HG2 := Aside0.mk hg_
      clear ho_ hb_ hg_ hat_
      have cof := blk_frozen OB2.out 0
      refine hK.out _ _ ((blk_cell OB2.out 0).trans rfl) (fun hHeld => ?_)
      clear hK K
      refine norm_ (a' := ?_) ?_ ?_
      rotate_left
      ·show Act.put _ (some 45) _ = _
       simp only [Act.put, List.setIfInBounds_toArray, List.set_cons_zero, List.set_cons_succ, i64_w, i32_w]
       rfl
      refine last_ (i := 6) (N := none) #[true, true, true, true, true, true, true] rfl rfl (by kernel_rfl) (by decide) (fun K hK => ?_)
      refine skip_ (w1 := ?_) (by rfl) rfl ?_ ?_
      rotate_left
      ·go_simp
       rfl
      refine hK.out _ _ ?_
      clear hK K
      refine done_ (by kernel_rfl) ?_
      go_end0
      have hK_ : ∀ (k_ : Nat) (cs : Array Value) (t : TypeId), 64 ≠ t → t ≠ 62 → W.heap[k_]? = some (.cells cs t (0, 0)) → (w12.setCell ⟨go, 0, none⟩ (.slice A45 n45 c45)).heap[k_]? = some (.cells cs t (0, 0)) := fun k_ cs t h1_ h2_ hk_ => by
       have h3_ := blk_grown (blk_drew (SS.out.old hk_ S0.out)) HG2.out (Kd.N_ne HND.out (blk_drew (SS.out.old hk_ S0.out)) h1_)
       exact blk_far h3_ (blk_ne h3_ OB2.out h2_) _
      have hs2 : pm.IsSet w12 bm D1 := (SS.out.ss.below (below_drew (Below.refl _ _))).move (HG2.out.block _ SS.out.ss.lt (fun e_ => (HND.out.1 bm e_.symm).2.1 rfl))
      exact ⟨rfl, below_set HB2.out HGO.out, fun k_ cs t ht hk_ => hK_ k_ cs t (by rcases ht with rfl | rfl | rfl <;> decide) (by rcases ht with rfl | rfl | rfl <;> decide) hk_, hK_ _ _ _ (by decide) (by decide) MB.out, hs2.move (Below.heap_setCell _ _ _ _ (fun e_ => hs2.ne OB2.out e_.symm)), .slice A45 n45 c45, (blk_set OB2.out 0 _).trans rfl, Kd.N_far HO2.out (fun k_ hk_ => hk_.1) _⟩
     ·rw [if_neg c6] at hri
      have c6b : decide ((y1, z1) ∈ q1) = false := decide_eq_false c6
      clear c6
      injection hri with hri
      subst hri
      go_wp2_with (first
       | ((with_reducible refine gate_dst (N := 17) rfl ?_); refine pm.look_op _ rfl (.tmp 15) (.tmp 16) rfl bm D1 rfl SS.out.ss (y1, z1) rfl G2.out ?_; rw [c4b])
       | ((with_reducible refine gate_dst (N := 36) rfl ?_); refine pm.find_op _ rfl (.tmp 34) (.tmp 35) rfl w1.heap.size q1 rfl SS.out.ii (y1, z1) rfl G2.out ?_; intro c hc; clear hc; rw [c6b]))
      go_end0
      exact ⟨rfl, HBA.out.grown SS.out.og (below_size HBA.out) (fun k e_ => by injection e_ with e_; have := HGM.out; omega), fun k cs t _ hk => SS.out.old hk S0.out, SS.out.old MB.out S0.out, SS.out.ss, v, SS.out.old OB.out S0.out, Kd.N_grown HNA.out SS.out.og (fun k hk e_ => by injection e_ with e_; exact hk.2.1 e_)⟩
    ·rw [if_neg c4] at H
     by_cases c5 : DN.length < 1000000 ∧ L.length < 1000000 ∧ (y2, z2) ∉ L
     case neg => rw [if_neg c5] at H; cases H
     rw [if_pos c5] at H
     have c4b : decide ((y2, z2) ∈ DN) = false := decide_eq_false c4
     obtain ⟨⟨y3, z3⟩, A1_, H1⟩ := Option.bind_eq_some_iff.mp H
     have A1 := Aside0.mk A1_
     have HWK := Aside0.mk H1
     have LM := Aside0.mk c5
     have EA := Aside0.mk (show pm.add DN (y2, z2) = DN ++ [(y2, z2)] by unfold pm.add; rw [if_neg c4])
     clear c4 c5 H A1_ H1
     go_wp2_with (first
      | ((with_reducible refine gate_dst (N := 17) rfl ?_); refine pm.look_op _ rfl (.tmp 15) (.tmp 16) rfl bm DN rfl SS.out.ss (y2, z2) rfl G2.out ?_; rw [c4b])
      | ((with_reducible refine gate_ (.mapUpdate 84 (.tmp 19) (.tmp 20) (.const (.bool true))) rfl ?_); refine pm.store_op _ rfl (.tmp 19) (.tmp 20) (.const (.bool true)) rfl bm DN rfl SS.out.ss (by have := LM.out.1; unfold maxLen; omega) (y2, z2) rfl rfl G2.out ?_; intro w9 hs_ hg_; rw [EA.out] at hs_; have SS2 := Aside0.mk (SS.out.stored hs_ hg_); clear SS hs_ hg_ cm cf0 cf1 cf2 cf3 cf4 cf5 cx cp0 cp1 fp0 fp1; have SS := SS2; clear SS2; obtain ⟨cm, cf0, cf1, cf2, cf3, cf4, cf5, cx, cp0, cp1, fp0, fp1⟩ := SS.out.cells S0.out MB.out FB.out XB.out)
      | ((with_reducible refine gate_ (.mapUpdate 88 (.tmp 21) (.tmp 22) (.tmp 24)) rfl ?_); refine pm.mark_op _ rfl (.tmp 21) (.tmp 22) (.tmp 24) rfl w1.heap.size L rfl SS.out.ii (by have := LM.out.2.1; unfold maxLen; omega) (y2, z2) rfl rfl G2.out LM.out.2.2 ?_; intro w10 hs_ hg_; have SS2 := Aside0.mk (SS.out.marked hs_ hg_); clear SS hs_ hg_ cm cf0 cf1 cf2 cf3 cf4 cf5 cx cp0 cp1 fp0 fp1; have SS := SS2; clear SS2; obtain ⟨cm, cf0, cf1, cf2, cf3, cf4, cf5, cx, cp0, cp1, fp0, fp1⟩ := SS.out.cells S0.out MB.out FB.out XB.out)
      | ((with_reducible refine gate_builtin (b := .append) (xs := #[.tmp 25, .tmp 27]) rfl ?_); at_builtin; refine Kd.R_append (Kd.pair (Kd.int .i64) (Kd.int .i64)) (W := w10) (w0 := w10) W.heap.size rfl (.tmp 25) (.tmp 27) 64 87 (.agg #[.int .i64 0, .int .i64 0]) 16 rfl Try.underlying64 info87 rfl (by decide) (by omega) (.slice Aq L.length cq) L (y2, z2) [.int .i64 y2, .int .i64 z2] (fun k_ => W.heap.size ≤ k_ ∧ k_ ≠ gp ∧ k_ ≠ w1.heap.size) (fun _ => False) rfl rfl ?aP (fun _ hk => hk.elim) ?aF ?aO ?aB ?aS ?aL ?_; (case aP => exact ⟨[_], [_], rfl, rfl, rfl⟩); (case aB => exact Below.refl _ _); (case aF => exact fun k_ hk_ => by have h1_ := blk_lt SS.out.pb; have h2_ := SS.out.ii.lt; have h3_ := SS.out.og.size; omega); (case aO => exact SS.out.hl); (case aS => exact SS.out.og.size); (case aL => have := LM.out.2.1; omega); intro v28 w11 ho_ hb_ hg_ hat_; have SS2 := Aside0.mk (SS.out.added ho_ hg_); clear SS ho_ hb_ hg_ hat_ cm cf0 cf1 cf2 cf3 cf4 cf5 cx cp0 cp1 fp0 fp1; have SS := SS2; clear SS2; obtain ⟨cm, cf0, cf1, cf2, cf3, cf4, cf5, cx, cp0, cp1, fp0, fp1⟩ := SS.out.cells S0.out MB.out FB.out XB.out)
      | (go_at_call 57; ((with_reducible refine (impl_Second_step.calls k1 a a2 s m b bw y2 z2 x y3 z3 _ A1.out).mono ?_); rintro e w5 ⟨rfl, hb⟩; have SS2 := Aside0.mk (SS.out.later hb); clear SS hb cm cf0 cf1 cf2 cf3 cf4 cf5 cx cp0 cp1 fp0 fp1; have SS := SS2; clear SS2; obtain ⟨cm, cf0, cf1, cf2, cf3, cf4, cf5, cx, cp0, cp1, fp0, fp1⟩ := SS.out.cells S0.out MB.out FB.out XB.out)))
     have SS2 := Aside0.mk (SS.out.put y3 z3)
     go_roundg k1
     case measure => omega
     case rel => exact ⟨_, _, y3, z3, SS2, HWK⟩
def impl_Second_cycles.St (R : List (List (Int × Int))) (a a2 s m b : Int) (bw : Bool) (x lo hi y z : Int) (D : List (Int × Int)) (O : List (List (Int × Int))) : Prop :=
 (y ≤ hi ∧ ∃ (kr ka : Nat) (r : List (Int × Int) × List (List (Int × Int))), impl_Second_cycles.row kr a a2 s m b bw x hi D O y z = some r ∧ impl_Second_cycles.all ka a a2 s m b bw x lo hi r.1 r.2 (y + 1) = some R) ∨ (hi < y ∧ O = R)
theorem impl_Second_cycles.St.start {R : List (List (Int × Int))} {a a2 s m b : Int} {bw : Bool} {x lo hi : Int} {ka : Nat} {D : List (Int × Int)} {O : List (List (Int × Int))} {y : Int} (h : impl_Second_cycles.all ka a a2 s m b bw x lo hi D O y = some R) : impl_Second_cycles.St R a a2 s m b bw x lo hi y lo D O := by
 cases ka with
 | zero => simp [impl_Second_cycles.all] at h
 | succ ka =>
  simp only [impl_Second_cycles.all] at h
  by_cases c : y ≤ hi
  ·rw [if_pos c] at h
   obtain ⟨r, h1, h2⟩ := Option.bind_eq_some_iff.mp h
   exact .inl ⟨c, ka, ka, r, h1, h2⟩
  ·rw [if_neg c] at h
   exact .inr ⟨by omega, Option.some.inj h⟩
theorem impl_Second_cycles.St.turn {R : List (List (Int × Int))} {a a2 s m b : Int} {bw : Bool} {x lo hi : Int} {D : List (Int × Int)} {O : List (List (Int × Int))} {y : Int} (hy : y ≤ hi) (h : impl_Second_cycles.St R a a2 s m b bw x lo hi y (hi + 1) D O) : impl_Second_cycles.St R a a2 s m b bw x lo hi (y + 1) lo D O := by
 rcases h with ⟨_, kr, ka, r, h1, h2⟩ | ⟨h, _⟩
 ·cases kr with
  | zero => simp [impl_Second_cycles.row] at h1
  | succ kr =>
   simp only [impl_Second_cycles.row] at h1
   rw [if_neg (by omega)] at h1
   obtain rfl := Option.some.inj h1
   exact impl_Second_cycles.St.start h2
 ·omega
theorem impl_Second_cycles.St.step {R : List (List (Int × Int))} {a a2 s m b : Int} {bw : Bool} {x lo hi : Int} {D : List (Int × Int)} {O : List (List (Int × Int))} {y z : Int} (hy : y ≤ hi) (hz : z ≤ hi) (h : impl_Second_cycles.St R a a2 s m b bw x lo hi y z D O) : ∃ (k : Nat) (q : List (Int × Int) × List (List (Int × Int))), impl_Second_cycles.one k a a2 s m b bw x D O y z = some q ∧ impl_Second_cycles.St R a a2 s m b bw x lo hi y (z + 1) q.1 q.2 := by
 rcases h with ⟨_, kr, ka, r, h1, h2⟩ | ⟨h, _⟩
 ·cases kr with
  | zero => simp [impl_Second_cycles.row] at h1
  | succ kr =>
   simp only [impl_Second_cycles.row] at h1
   rw [if_pos hz] at h1
   obtain ⟨q, h3, h4⟩ := Option.bind_eq_some_iff.mp h1
   exact ⟨kr, q, h3, .inl ⟨hy, kr, ka, r, h4, h2⟩⟩
 ·omega
structure impl_Second_cycles.J (R : List (List (Int × Int))) (a a2 s m b : Int) (bw : Bool) (x lo hi : Int) (w : World) (gm gf gx go bm : Nat) (y z : Int) (W : World) : Prop where
 below : Below w.heap.size w W
 hm : W.heap[gm]? = some (.cells #[.map (some bm)] 84 (0, 0))
 hf : W.heap[gf]? = some (.cells #[.int .i64 a, .int .i64 a2, .int .i64 s, .int .i64 m, .int .i64 b, .bool bw] 44 (0, 0))
 hx : W.heap[gx]? = some (.cells #[.int .i64 x] 3 (0, 0))
 out : ∃ v D O, W.heap[go]? = some (.cells #[v] 62 (0, 0)) ∧ pm.IsSet W bm D ∧ Kd.N (Kd.slice 87 (Kd.pair (Kd.int .i64) (Kd.int .i64))) 64 W w.heap.size (fun k_ => k_ ≠ go ∧ k_ ≠ bm ∧ w.heap.size ≤ k_) v O ∧ impl_Second_cycles.St R a a2 s m b bw x lo hi y z D O
theorem impl_Second_cycles.J.later {R : List (List (Int × Int))} {a a2 s m b : Int} {bw : Bool} {x lo hi : Int} {w : World} {gm gf gx go bm : Nat} {y z : Int} {W W' : World} (hb : Below W.heap.size W W') (h : impl_Second_cycles.J R a a2 s m b bw x lo hi w gm gf gx go bm y z W) : impl_Second_cycles.J R a a2 s m b bw x lo hi w gm gf gx go bm y z W' := by
 obtain ⟨h1, h2, h3, h4, v, D, O, h5, h6, h7, h8⟩ := h
 exact ⟨below_step h1 hb, blk_below h2 hb, blk_below h3 hb, blk_below h4 hb, v, D, O, blk_below h5 hb, h6.below hb, Kd.N_below h7 hb, h8⟩
theorem impl_Second_cycles.J.turn {R : List (List (Int × Int))} {a a2 s m b : Int} {bw : Bool} {x lo hi : Int} {w : World} {gm gf gx go bm : Nat} {y : Int} {W : World} (hy : y ≤ hi) (h : impl_Second_cycles.J R a a2 s m b bw x lo hi w gm gf gx go bm y (hi + 1) W) : impl_Second_cycles.J R a a2 s m b bw x lo hi w gm gf gx go bm (y + 1) lo W := by
 obtain ⟨h1, h2, h3, h4, v, D, O, h5, h6, h7, h8⟩ := h
 exact ⟨h1, h2, h3, h4, v, D, O, h5, h6, h7, h8.turn hy⟩
theorem impl_Second_cycles.J.round {R : List (List (Int × Int))} {a a2 s m b : Int} {bw : Bool} {x lo hi : Int} {w : World} {gm gf gx go bm : Nat} {y z : Int} {W : World} (hgo : w.heap.size ≤ go) (hbm : w.heap.size ≤ bm) (hy : y ≤ hi) (hz : z ≤ hi) (h : impl_Second_cycles.J R a a2 s m b bw x lo hi w gm gf gx go bm y z W) :
  Calls Try.prog 56 (#[.agg #[.int .i64 y, .int .i64 z]] ++ #[.pointer (some ⟨gm, 0, none⟩), .pointer (some ⟨gf, 0, none⟩), .pointer (some ⟨gx, 0, none⟩), .pointer (some ⟨go, 0, none⟩)]) W fun e W' => e = .returned (.tuple #[]) ∧ impl_Second_cycles.J R a a2 s m b bw x lo hi w gm gf gx go bm y (z + 1) W' ∧ pr.Kept W W' := by
 obtain ⟨h1, h2, h3, h4, v, D, O, h5, h6, h7, h8⟩ := h
 obtain ⟨k, q, h9, h10⟩ := h8.step hy hz
 refine (impl_Second_cycles.lit k gm bm gf gx go a a2 s m b bw x y z v D O q w W h2 h3 h4 h5 h6 h7 h1 hgo hbm h9).mono ?_
 rintro e W' ⟨rfl, j1, j2, j3, j4, v', j5, j6⟩
 exact ⟨rfl, ⟨j1, j3, j2 _ _ _ (.inl rfl) h3, j2 _ _ _ (.inr (.inr rfl)) h4, v', q.1, q.2, j5, j4, j6, h10⟩, j2⟩
theorem impl_Second_cycles.J.last {R : List (List (Int × Int))} {a a2 s m b : Int} {bw : Bool} {x lo hi : Int} {w : World} {gm gf gx go bm : Nat} {z : Int} {W : World} (h : impl_Second_cycles.J R a a2 s m b bw x lo hi w gm gf gx go bm (hi + 1) z W) : ∃ v, W.cell? ⟨go, 0, none⟩ = some v ∧ Kd.N (Kd.slice 87 (Kd.pair (Kd.int .i64) (Kd.int .i64))) 64 W w.heap.size (fun k_ => w.heap.size ≤ k_) v R ∧ Below w.heap.size w W := by
 obtain ⟨h1, h2, h3, h4, v, D, O, h5, h6, h7, h8⟩ := h
 rcases h8 with ⟨h, _⟩ | ⟨_, rfl⟩
 ·omega
 ·exact ⟨v, (blk_cell h5 0).trans rfl, Kd.N_mono h7 (fun _ hk => hk.2.2), h1⟩
theorem impl_Second_cycles.J.begin_ {R : List (List (Int × Int))} {a a2 s m b : Int} {bw : Bool} {x lo hi : Int} {w w0 w1 w2 : World} {gf gx go gm : Nat} {v cv cw : Value} {k : Nat} (hb : Below w.heap.size w w0) (hf : w0.heap[gf]? = some (.cells #[.int .i64 a, .int .i64 a2, .int .i64 s, .int .i64 m, .int .i64 b, .bool bw] 44 (0, 0))) (hx : w0.heap[gx]? = some (.cells #[.int .i64 x] 3 (0, 0))) (hr : Kd.R (Kd.slice 87 (Kd.pair (Kd.int .i64) (Kd.int .i64))) 64 w1 w0.heap.size (fun _ => True) v []) (hb1 : Below w0.heap.size w0 w1)
  (hb2 : Below (w1.alloc (.map #[] 0)).heap.size (w1.alloc (.map #[] 0)) w2) (ho : w2.heap[go]? = some (.cells #[cv] 62 (0, 0))) (hm : w2.heap[gm]? = some (.cells #[cw] 84 (0, 0))) (hgo : w1.heap.size < go) (hgm : w1.heap.size < gm) (h : impl_Second_cycles.all k a a2 s m b bw x lo hi [] [] lo = some R) :
  impl_Second_cycles.J R a a2 s m b bw x lo hi w gm gf gx go w1.heap.size lo lo ((w2.setCell ⟨go, 0, none⟩ v).setCell ⟨gm, 0, none⟩ (.map (some w1.heap.size))) := by
 have e1 : (w1.alloc (.map #[] 0)).heap.size = w1.heap.size + 1 := by rw [World.size_alloc]
 have s1 := below_size hb
 have s2 := below_size hb1
 have hne : go ≠ gm := blk_ne ho hm (by decide)
 have b5 : Below (w1.alloc (.map #[] 0)).heap.size (w1.alloc (.map #[] 0)) ((w2.setCell ⟨go, 0, none⟩ v).setCell ⟨gm, 0, none⟩ (.map (some w1.heap.size))) := below_set (below_set hb2 (by omega)) (by omega)
 have b6 : Below w1.heap.size w1 ((w2.setCell ⟨go, 0, none⟩ v).setCell ⟨gm, 0, none⟩ (.map (some w1.heap.size))) := below_step (below_alloc (Below.refl _ _) _) b5
 have b7 := below_step hb1 b6
 refine ⟨below_step hb b7, (blk_set (blk_far hm (p := ⟨go, 0, none⟩) hne.symm _) 0 _).trans rfl, blk_below hf b7, blk_below hx b7, v, [], [], blk_far ((blk_set ho 0 _).trans rfl) (p := ⟨gm, 0, none⟩) hne _, (pm.IsSet.made w1).below b5, Kd.N_mono (Kd.N_below (Kd.N_bound (Kd.N_lower (Kd.R_N (Kd.R_mono (Kd.R_bound hr) (fun _ hk => hk.2.1))) s1)) b6) (fun k_ hk_ => ⟨by have := hk_.2; omega, by have := hk_.2; omega, by have := hk_.1; omega⟩), impl_Second_cycles.St.start h⟩
set_option maxHeartbeats 8000000 in
set_option maxRecDepth 100000 in
theorem impl_Second_cycles.calls (k : Nat) (a a2 s m b : Int) (bw : Bool) (x : Int) (r : List (List (Int × Int))) (w : World) (h : impl_Second_cycles.f k a a2 s m b bw x = some r) :
  Calls Try.prog 33 #[.agg #[.int .i64 a, .int .i64 a2, .int .i64 s, .int .i64 m, .int .i64 b, .bool bw], .int .i64 x] w fun e w' => ∃ v0_ : Value, e = .returned (v0_) ∧ Kd.N (Kd.slice 87 (Kd.pair (Kd.int .i64) (Kd.int .i64))) 64 w' w.heap.size (fun k_ => w.heap.size ≤ k_) v0_ r ∧ Below w.heap.size w w' := by
 unfold impl_Second_cycles.f at h
 obtain ⟨⟨lo, hi⟩, A1_, h1⟩ := Option.bind_eq_some_iff.mp h
 clear h
 try dsimp only at h1
 by_cases c2 : -9223372036854775808 ≤ lo ∧ lo ≤ hi + 1 ∧ hi < 9223372036854775807
 case neg => rw [if_neg c2] at h1; cases h1
 rw [if_pos c2] at h1
 have A1 := Aside0.mk A1_
 have HR := Aside0.mk h1
 have HL := Aside0.mk c2
 clear A1_ h1 c2
 have HB := Aside0.mk (Below.refl w.heap.size w)
 have EG := Aside0.mk (show ∀ (args : Array Value) (W : World), (callFunc 56 args).run Try.prog W = .ok (.enter 56 args) W from enters_of Try.func56 (by kernel_rfl) rfl)
 go_enter Try.func33, Try.ntmps33
 go_wp2_with (first
  | ((with_reducible refine gate_dst (N := 2) rfl ?_); refine box_event ?hg (N := 2) ?hd (cs := #[.int .i64 a, .int .i64 a2, .int .i64 s, .int .i64 m, .int .i64 b, .bool bw]) (t := 44) ?hr ?_; (case hd => rfl); (case hg => rfl); (case hr => first | (go_simp; done) | (go_simp; rfl)); intro gf hgf w1 hbf hb; have m0_ := Aside0.mk (below_step HB.out hb); clear HB hb; have HB := m0_; clear m0_; have BF := Aside0.mk hbf; clear hbf hgf)
  | ((with_reducible refine gate_dst (N := 3) rfl ?_); refine box_event ?hg (N := 3) ?hd (cs := #[.int .i64 x]) (t := 3) ?hr ?_; (case hd => rfl); (case hg => rfl); (case hr => first | (go_simp; done) | (go_simp; rfl)); intro gx hgx w2 hbx hb; have m0_ := Aside0.mk (below_step HB.out hb); have m1_ := Aside0.mk (blk_below BF.out hb); clear HB hb BF; have HB := m0_; have BF := m1_; clear m0_ m1_; have BX := Aside0.mk hbx; clear hbx hgx)
  | ((with_reducible refine gate_dst (N := 7) rfl ?_); refine Kd.R_lit (Kd.slice 87 (Kd.pair (Kd.int .i64) (Kd.int .i64))) (w0 := w2) w2.heap.size 64 ?hg (N := 7) ?hd (xs := ([] : List (List (Int × Int)))) (inner := []) (ok := fun _ => True) (okp := fun _ => True) ?hr ?hp (fun _ hk => hk) trivial (Below.refl _ _) (Nat.le_refl _) (by simp) ?_; (case hd => rfl); (case hg => rfl); (case hr => first | (go_simp; done) | (go_simp; rfl)); (case hp => exact Reps.none _ _); intro v7 w3 ho hb hg_ hnew_; obtain ⟨A7, c7, e7_⟩ := Kd.R_slice ho; subst e7_; have B3 := Aside0.mk hb; have HO3 := Aside0.mk ho; clear ho hb hg_ hnew_)
  | ((with_reducible refine gate_dst (N := 8) rfl ?_); refine Kd.event_run rfl (v := .map (some w3.heap.size)) (w1 := w3.alloc (.map #[] 0)) rfl ?_; have B4 := Aside0.mk (Below.refl (w3.alloc (.map #[] 0)).heap.size (w3.alloc (.map #[] 0))))
  | ((with_reducible refine gate_dst (N := 5) rfl ?_); refine box_event ?hg (N := 5) ?hd (cs := #[.slice none 0 0]) (t := 62) ?hr ?_; (case hd => rfl); (case hg => rfl); (case hr => first | (go_simp; done) | (go_simp; rfl)); intro go hgo w5 hbo hb; have GO := Aside0.mk (show w3.heap.size < go by rw [hgo, World.size_alloc]; omega); have OB := Aside0.mk hbo; have B5 := Aside0.mk (below_step B4.out hb); clear hbo hb hgo)
  | ((with_reducible refine gate_dst (N := 6) rfl ?_); refine box_event ?hg (N := 6) ?hd (cs := #[.map none]) (t := 84) ?hr ?_; (case hd => rfl); (case hg => rfl); (case hr => first | (go_simp; done) | (go_simp; rfl)); intro gm hgm w6 hbm hb; have GM := Aside0.mk (show w3.heap.size < gm by rw [hgm]; have := below_size B5.out; rw [World.size_alloc] at this; omega); have MB := Aside0.mk hbm; have B6 := Aside0.mk (below_step B5.out hb); have m1_ := Aside0.mk (blk_below OB.out hb); clear OB; have OB := m1_; clear m1_ hbm hb hgm; have HJ := Aside0.mk (impl_Second_cycles.J.begin_ HB.out BF.out BX.out HO3.out B3.out B6.out OB.out MB.out GO.out GM.out HR.out); have fo := blk_frozen OB.out 0; have fm := blk_frozen MB.out 0; have co := (blk_cell OB.out 0).trans (show (#[Value.slice none 0 0] : Array Value)[0]? = some (.slice none 0 0) from rfl); have cm := (blk_cell MB.out 0).trans (show (#[Value.map none] : Array Value)[0]? = some (.map none) from rfl); have cm2 : (w6.setCell ⟨go, 0, none⟩ (.slice A7 0 c7)).cell? ⟨gm, 0, none⟩ = some (.map none) := (blk_cell (blk_far MB.out (p := ⟨go, 0, none⟩) (blk_ne MB.out OB.out (by decide)) _) 0).trans rfl; have fm2 : (w6.setCell ⟨go, 0, none⟩ (.slice A7 0 c7)).frozen? ⟨gm, 0, none⟩ = false := blk_frozen (blk_far MB.out (p := ⟨go, 0, none⟩) (blk_ne MB.out OB.out (by decide)) _) 0)
  | ((with_reducible refine gate_dst (N := 9) rfl ?_); clear fo fm co cm cm2 fm2; generalize ((w6.setCell ⟨go, 0, none⟩ (.slice A7 0 c7)).setCell ⟨gm, 0, none⟩ (.map (some w3.heap.size))) = w8 at HJ ⊢; have cf0 := (blk_cell HJ.out.hf 0).trans (show (#[.int .i64 a, .int .i64 a2, .int .i64 s, .int .i64 m, .int .i64 b, .bool bw] : Array Value)[0]? = some (.int .i64 a) from rfl); have cf1 := (blk_cell HJ.out.hf 1).trans (show (#[.int .i64 a, .int .i64 a2, .int .i64 s, .int .i64 m, .int .i64 b, .bool bw] : Array Value)[1]? = some (.int .i64 a2) from rfl); have cf2 := (blk_cell HJ.out.hf 2).trans (show (#[.int .i64 a, .int .i64 a2, .int .i64 s, .int .i64 m, .int .i64 b, .bool bw] : Array Value)[2]? = some (.int .i64 s) from rfl); have cf3 := (blk_cell HJ.out.hf 3).trans (show (#[.int .i64 a, .int .i64 a2, .int .i64 s, .int .i64 m, .int .i64 b, .bool bw] : Array Value)[3]? = some (.int .i64 m) from rfl); have cf4 := (blk_cell HJ.out.hf 4).trans (show (#[.int .i64 a, .int .i64 a2, .int .i64 s, .int .i64 m, .int .i64 b, .bool bw] : Array Value)[4]? = some (.int .i64 b) from rfl); have cf5 := (blk_cell HJ.out.hf 5).trans (show (#[.int .i64 a, .int .i64 a2, .int .i64 s, .int .i64 m, .int .i64 b, .bool bw] : Array Value)[5]? = some (.bool bw) from rfl); have HGO := Aside0.mk (show w.heap.size ≤ go by have h1_ := GO.out; have h2_ := below_size B3.out; have h3_ := below_size HB.out; omega); have HGM := Aside0.mk (show w.heap.size ≤ w3.heap.size by have h2_ := below_size B3.out; have h3_ := below_size HB.out; omega))
  | (go_at_call 55; ((with_reducible refine (impl_Second_pairs.callsG 56 EG.out _ a a2 s m b bw lo hi (impl_Second_cycles.J r a a2 s m b bw x lo hi w gm gf gx go w3.heap.size) _ A1.out ?s1 ?s2 ?s3 ?s4 ?s5 ?s6).mono ?_); (case s1 => exact ⟨HL.out.1, HL.out.2.1⟩); (case s2 => exact HL.out.2.2); (case s3 => exact fun y z W W' hb_ hj_ => hj_.later hb_); (case s4 => exact fun y W h1_ h2_ hj_ => hj_.turn h2_); (case s5 => exact fun y z W h1_ h2_ h3_ h4_ hj_ => hj_.round HGO.out HGM.out h2_ h4_); (case s6 => exact HJ.out); rintro e w7 ⟨rfl, hj⟩; clear cf0 cf1 cf2 cf3 cf4 cf5 HJ; obtain ⟨v, hcv, hsv, hbv⟩ := hj.last; clear hj; have SV := Aside0.mk hsv; have BV := Aside0.mk hbv; clear hsv hbv)))
 go_ret
 exact ⟨v, rfl, SV.out, BV.out⟩

/-! ### cmp_isNaN_int: function 94 -/
def cmp_isNaN_int.f (a0 : Int) : Option (Bool) := some (a0 != a0)
set_option maxHeartbeats 8000000 in
set_option maxRecDepth 100000 in
theorem cmp_isNaN_int.calls (a0 : Int) (r : Bool) (w : World) (h : cmp_isNaN_int.f a0 = some r) :
  Calls Try.prog 94 #[.int .i64 a0] w fun e w' => e = .returned (.bool r) ∧ Drawn0 w w' := by
 have H : (some (a0 != a0)) = some r := h
 clear h
 obtain rfl := Option.some.inj H
 go_enter Try.func94, Try.ntmps94
 go_wp2
 go_ret
 exact ⟨by first | rfl | (simp; done) | (simp [*]; done), by repeat (first | exact Drawn0.refl _ | apply Drawn0.step)⟩

end Go.Proofs.Ytmkcmclochhkeaa.PFnExactPairCycles
