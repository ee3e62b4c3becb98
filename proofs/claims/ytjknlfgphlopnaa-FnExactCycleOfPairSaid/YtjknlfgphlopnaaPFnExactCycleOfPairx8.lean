-- Written by this session's pp.py over the kit's print.
import Derived.Test.YtjknlfgphlopnaaPFnExactCycleOfPairx0
import Derived.Test.YtjknlfgphlopnaaPFnExactCycleOfPairx7
namespace Go.Proofs.Ytjknlfgphlopnaa.PFnExactCycleOfPair
open Go.RowKit Go.Proofs.YtjknlfgphlopnaaW.PrintWords Go.Proofs.YtjknlfgphlopnaaW.PrintLast Go.Proofs.YtjknlfgphlopnaaW.PrintMore
attribute [local go_sem] max2_int min2_int max_two min_two max_three min_three max_four min_four   -- for this text's walks alone
set_option linter.unusedVariables false
set_option linter.unusedSimpArgs false

/-! ### impl_Second_step: function 55 -/
def impl_Second_step.f (k : Nat) (a0_0 : Int) (a0_1 : Int) (a0_2 : Int) (a0_3 : Int) (a0_4 : Int) (a0_5 : Bool) (a1_0 : Int) (a1_1 : Int) (a2 : Int) : Option (Int × Int) := (impl_Second_raw.f k a0_0 a0_1 a0_2 a0_3 a0_4 a0_5 a1_0 a1_1 a2).bind fun t242 => ((impl_Word_fit.f a0_4 a0_5 t242).bind fun t243 => (some (t243, a1_0)))
theorem impl_Second_step.mono : ∀ a0 a1 a2 a3 a4 a5 a6 a7 a8 k, LeO (impl_Second_step.f k a0 a1 a2 a3 a4 a5 a6 a7 a8) (impl_Second_step.f (k + 1) a0 a1 a2 a3 a4 a5 a6 a7 a8) := by
 intro a0 a1 a2 a3 a4 a5 a6 a7 a8 k
 unfold impl_Second_step.f
 repeat' first
   | (with_reducible exact impl_Second_raw.mono _ _ _ _ _ _ _ _ _ _)
   | (with_reducible exact LeO.refl _)
   | (with_reducible exact LeO.none _)
   | (with_reducible refine LeO.ite ?_ ?_)
   | (with_reducible refine LeO.bind ?_ (fun _ => ?_))
   | exact impl_Second_raw.mono _ _ _ _ _ _ _ _ _ _
   | exact LeO.none _
   | refine LeO.ite ?_ ?_
   | refine LeO.bind ?_ (fun _ => ?_)
def impl_Second_step.T1 : Bool × List (List Nat × List Nat) := (true, [([], []), ([0], [0]), ([], []), ([], []), ([], []), ([2, 3, 4], [2, 3, 4]), ([1, 5, 5], [1, 5]), ([], []), ([7], [7]), ([6, 8], [6, 8]), ([9, 6, 0, 1, 2, 3, 4, 5, 6, 7, 8, 9], [9])])
def impl_Second_step.B1 : List Nat := [0, 1, 0, 0, 0, 28, 63, 0, 128, 511, 1023]
theorem impl_Second_step.tab1 : rtab .any (opsOf Try.f55 1) = impl_Second_step.T1 := by kernel_rfl
theorem impl_Second_step.bits1 : waitsOk impl_Second_step.T1.2 impl_Second_step.B1 = true := by kernel_rfl
set_option maxHeartbeats 8000000 in
set_option maxRecDepth 100000 in
theorem impl_Second_step.calls (k : Nat) (a0_0 : Int) (a0_1 : Int) (a0_2 : Int) (a0_3 : Int) (a0_4 : Int) (a0_5 : Bool) (a1_0 : Int) (a1_1 : Int) (a2 : Int) (r1 : Int) (r2 : Int) (w : World) (h : impl_Second_step.f k a0_0 a0_1 a0_2 a0_3 a0_4 a0_5 a1_0 a1_1 a2 = some (r1, r2)) :
  Calls Try.prog 55 #[.agg #[.int .i64 a0_0, .int .i64 a0_1, .int .i64 a0_2, .int .i64 a0_3, .int .i64 a0_4, .bool a0_5], .agg #[.int .i64 a1_0, .int .i64 a1_1], .int .i64 a2] w fun e w' => e = .returned (.agg #[.int .i64 r1, .int .i64 r2]) ∧ Below w.heap.size w w' := by
 have hu40 := Try.underlying40
 have hu75 := Try.underlying75
 have hu29 := Try.underlying29
 have HB := Aside0.mk (Below.refl w.heap.size w)
 have H : ((impl_Second_raw.f k a0_0 a0_1 a0_2 a0_3 a0_4 a0_5 a1_0 a1_1 a2).bind fun t242 => ((impl_Word_fit.f a0_4 a0_5 t242).bind fun t243 => (some (t243, a1_0)))) = some (r1, r2) := h
 clear h
 replace H := Option.bind_eq_some_iff.mp H
 obtain ⟨t242, A40, H⟩ := H
 replace H : ((impl_Word_fit.f a0_4 a0_5 t242).bind fun t243 => (some (t243, a1_0))) = some (r1, r2) := H
 have A4 := Aside0.mk A40
 clear A40
 replace H := Option.bind_eq_some_iff.mp H
 obtain ⟨t243, A50, H⟩ := H
 replace H : (some (t243, a1_0)) = some (r1, r2) := H
 have A5 := Aside0.mk A50
 clear A50
 simp only [Option.some.injEq, Prod.mk.injEq] at H
 obtain ⟨rfl, rfl⟩ := H
 go_enter Try.func55, Try.ntmps55
 try go_wp2_with (first | ((with_reducible refine gate_dst (N := 3) rfl ?_); refine box_event ?hg (N := 3) ?hd (cs := #[.int .i64 a0_0, .int .i64 a0_1, .int .i64 a0_2, .int .i64 a0_3, .int .i64 a0_4, .bool a0_5]) (t := 40) ?hr ?_; (case hd => rfl); (case hg => rfl); (case hr => first | (go_simp; done) | (go_simp; rfl)); intro gb239 hg w6 hbox hb; have n0_ := Aside0.mk (below_step (by repeat (first | exact HB.out | apply below_alloc | apply pw_below_drewN | apply below_drew1)) hb); have n1_ := Aside0.mk (hbox); have n2_ := Aside0.mk ((by rw [hg]; exact (below_size (by repeat (first | exact HB.out | apply below_alloc | apply pw_below_drewN | apply below_drew1))) : w.heap.size ≤ gb239)); have n3_ := Aside0.mk ((by rw [hg]; exact (below_size (by repeat (first | exact HB.out | apply below_alloc | apply pw_below_drewN | apply below_drew1))) : w.heap.size ≤ gb239)); clear HB; have HB := n0_; have BK239 := n1_; have GW239 := n2_; have GE239 := n3_; clear n0_ n1_ n2_ n3_; clear hb hbox hg) | ((with_reducible refine gate_dst (N := 4) rfl ?_); refine box_event ?hg (N := 4) ?hd (cs := #[.int .i64 a1_0, .int .i64 a1_1]) (t := 75) ?hr ?_; (case hd => rfl); (case hg => rfl); (case hr => first | (go_simp; done) | (go_simp; rfl)); intro gb240 hg w7 hbox hb; have n0_ := Aside0.mk (blk_below (g := gb239) (o := .cells #[.int .i64 a0_0, .int .i64 a0_1, .int .i64 a0_2, .int .i64 a0_3, .int .i64 a0_4, .bool a0_5] 40 (0, 0)) (by (with_reducible repeat (first | refine blk_drewN ?_ _ | refine blk_drew ?_ | refine blk_alloc ?_ _)); exact BK239.out) hb); have n1_ := Aside0.mk (below_step (by repeat (first | (with_reducible first | exact HB.out | apply below_alloc | apply pw_below_drewN | apply below_drew1 | refine below_set ?_ GE239.out) | exact HB.out)) hb); have n2_ := Aside0.mk (hbox); have n3_ := Aside0.mk ((by rw [hg]; exact (below_size (by repeat (first | (with_reducible first | exact HB.out | apply below_alloc | apply pw_below_drewN | apply below_drew1 | refine below_set ?_ GE239.out) | exact HB.out))) : w.heap.size ≤ gb240)); have n4_ := Aside0.mk ((by rw [hg]; exact (below_size (by repeat (first | (with_reducible first | exact HB.out | apply below_alloc | apply pw_below_drewN | apply below_drew1 | refine below_set ?_ GE239.out) | exact HB.out))) : w.heap.size ≤ gb240)); have n5_ := Aside0.mk ((by rw [hg]; exact Nat.ne_of_lt (blk_lt (g := gb239) (o := .cells #[.int .i64 a0_0, .int .i64 a0_1, .int .i64 a0_2, .int .i64 a0_3, .int .i64 a0_4, .bool a0_5] 40 (0, 0)) (by (with_reducible repeat (first | refine blk_drewN ?_ _ | refine blk_drew ?_ | refine blk_alloc ?_ _)); exact BK239.out)) : gb239 ≠ gb240)); have n6_ := Aside0.mk ((by rw [hg]; exact Nat.ne_of_gt (blk_lt (g := gb239) (o := .cells #[.int .i64 a0_0, .int .i64 a0_1, .int .i64 a0_2, .int .i64 a0_3, .int .i64 a0_4, .bool a0_5] 40 (0, 0)) (by (with_reducible repeat (first | refine blk_drewN ?_ _ | refine blk_drew ?_ | refine blk_alloc ?_ _)); exact BK239.out)) : gb240 ≠ gb239)); clear BK239; clear HB; have BK239 := n0_; have HB := n1_; have BK240 := n2_; have GW240 := n3_; have GE240 := n4_; have NB239_240 := n5_; have NB240_239 := n6_; clear n0_ n1_ n2_ n3_ n4_ n5_ n6_; clear hb hbox hg) | ((with_reducible refine gate_dst (N := 6) rfl ?_); refine box_event ?hg (N := 6) ?hd (cs := #[.int .i64 0, .int .i64 0]) (t := 75) ?hr ?_; (case hd => rfl); (case hg => rfl); (case hr => first | (go_simp; done) | (go_simp; rfl)); intro gb241 hg w8 hbox hb; have n0_ := Aside0.mk (blk_below (g := gb239) (o := .cells #[.int .i64 a0_0, .int .i64 a0_1, .int .i64 a0_2, .int .i64 a0_3, .int .i64 a0_4, .bool a0_5] 40 (0, 0)) (by (with_reducible repeat (first | refine blk_drewN ?_ _ | refine blk_drew ?_ | refine blk_alloc ?_ _)); exact BK239.out) hb); have n1_ := Aside0.mk (blk_below (g := gb240) (o := .cells #[.int .i64 a1_0, .int .i64 a1_1] 75 (0, 0)) (by (with_reducible repeat (first | refine blk_drewN ?_ _ | refine blk_drew ?_ | refine blk_alloc ?_ _)); exact BK240.out) hb); have n2_ := Aside0.mk (below_step (by repeat (first | (with_reducible first | exact HB.out | apply below_alloc | apply pw_below_drewN | apply below_drew1 | refine below_set ?_ GE239.out | refine below_set ?_ GE240.out) | exact HB.out)) hb); have n3_ := Aside0.mk (hbox); have n4_ := Aside0.mk ((by rw [hg]; exact (below_size (by repeat (first | (with_reducible first | exact HB.out | apply below_alloc | apply pw_below_drewN | apply below_drew1 | refine below_set ?_ GE239.out | refine below_set ?_ GE240.out) | exact HB.out))) : w.heap.size ≤ gb241)); have n5_ := Aside0.mk ((by rw [hg]; exact (below_size (by repeat (first | (with_reducible first | exact HB.out | apply below_alloc | apply pw_below_drewN | apply below_drew1 | refine below_set ?_ GE239.out | refine below_set ?_ GE240.out) | exact HB.out))) : w.heap.size ≤ gb241)); have n6_ := Aside0.mk ((by rw [hg]; exact Nat.ne_of_lt (blk_lt (g := gb239) (o := .cells #[.int .i64 a0_0, .int .i64 a0_1, .int .i64 a0_2, .int .i64 a0_3, .int .i64 a0_4, .bool a0_5] 40 (0, 0)) (by (with_reducible repeat (first | refine blk_drewN ?_ _ | refine blk_drew ?_ | refine blk_alloc ?_ _)); exact BK239.out)) : gb239 ≠ gb241)); have n7_ := Aside0.mk ((by rw [hg]; exact Nat.ne_of_gt (blk_lt (g := gb239) (o := .cells #[.int .i64 a0_0, .int .i64 a0_1, .int .i64 a0_2, .int .i64 a0_3, .int .i64 a0_4, .bool a0_5] 40 (0, 0)) (by (with_reducible repeat (first | refine blk_drewN ?_ _ | refine blk_drew ?_ | refine blk_alloc ?_ _)); exact BK239.out)) : gb241 ≠ gb239)); have n8_ := Aside0.mk ((by rw [hg]; exact Nat.ne_of_lt (blk_lt (g := gb240) (o := .cells #[.int .i64 a1_0, .int .i64 a1_1] 75 (0, 0)) (by (with_reducible repeat (first | refine blk_drewN ?_ _ | refine blk_drew ?_ | refine blk_alloc ?_ _)); exact BK240.out)) : gb240 ≠ gb241)); have n9_ := Aside0.mk ((by rw [hg]; exact Nat.ne_of_gt (blk_lt (g := gb240) (o := .cells #[.int .i64 a1_0, .int .i64 a1_1] 75 (0, 0)) (by (with_reducible repeat (first | refine blk_drewN ?_ _ | refine blk_drew ?_ | refine blk_alloc ?_ _)); exact BK240.out)) : gb241 ≠ gb240)); clear BK239; clear BK240; clear HB; have BK239 := n0_; have BK240 := n1_; have HB := n2_; have BK241 := n3_; have GW241 := n4_; have GE241 := n5_; have NB239_241 := n6_; have NB241_239 := n7_; have NB240_241 := n8_; have NB241_240 := n9_; clear n0_ n1_ n2_ n3_ n4_ n5_ n6_ n7_ n8_ n9_; clear hb hbox hg))
 have n0_ := Aside0.mk (blk_drew BK239.out)
 have n1_ := Aside0.mk (blk_drew BK240.out)
 have n2_ := Aside0.mk (blk_drew BK241.out)
 have n3_ := Aside0.mk (below_drew1 HB.out)
 clear BK239
 clear BK240
 clear BK241
 clear HB
 have BK239 := n0_
 have BK240 := n1_
 have BK241 := n2_
 have HB := n3_
 clear n0_ n1_ n2_ n3_
 refine start_ (n := 11) (S := fun w' => w'.cell? ⟨gb239, 0, none⟩ = some (.int .i64 a0_0) ∧ w'.cell? ⟨gb239, 1, none⟩ = some (.int .i64 a0_1) ∧ w'.cell? ⟨gb239, 2, none⟩ = some (.int .i64 a0_2) ∧ w'.cell? ⟨gb239, 3, none⟩ = some (.int .i64 a0_3) ∧ w'.cell? ⟨gb239, 4, none⟩ = some (.int .i64 a0_4) ∧ w'.cell? ⟨gb239, 5, none⟩ = some (.bool a0_5) ∧ w'.cell? ⟨gb240, 0, none⟩ = some (.int .i64 a1_0) ∧ w'.cell? ⟨gb240, 1, none⟩ = some (.int .i64 a1_1)) (ds := []) #[false, false, false, false, false, false, false, false, false, false, false] (by kernel_rfl) rfl rfl ⟨(blk_cell BK239.out 0).trans rfl, (blk_cell BK239.out 1).trans rfl, (blk_cell BK239.out 2).trans rfl, (blk_cell BK239.out 3).trans rfl, (blk_cell BK239.out 4).trans rfl, (blk_cell BK239.out 5).trans rfl, (blk_cell BK240.out 0).trans rfl, (blk_cell BK240.out 1).trans rfl⟩ (fun hHeld => ?_); refine with_tabW impl_Second_step.tab1 impl_Second_step.bits1 (fun HT_ HW_ => ?_)
 generalize w8.drew = w9 at BK239 BK240 BK241 HB hHeld ⊢
 refine pure_ (i := 0) (N := some 7) (v := ?_) (a' := ?_) #[true, false, false, false, false, false, false, false, false, false, false] rfl rfl (any_of HT_.out (by kernel_rfl)) (fun _ _ _ h => h) (Or.inl ⟨by rfl, ?_⟩) ?_ ?_
 rotate_left
 ·intro w'
  go_simp
  with_reducible rfl
 rotate_left
 ·simp only [Act.put, List.setIfInBounds_toArray, List.set_cons_zero, List.set_cons_succ, i64_w, i32_w]
  rfl
 refine pure_ (i := 4) (N := some 11) (v := ?_) (a' := ?_) #[true, false, false, false, true, false, false, false, false, false, false] rfl rfl (any_of HT_.out (by kernel_rfl)) (fun _ _ _ h => h) (Or.inl ⟨by rfl, ?_⟩) ?_ ?_
 rotate_left
 ·intro w'
  go_simp
  with_reducible rfl
 rotate_left
 ·simp only [Act.put, List.setIfInBounds_toArray, List.set_cons_zero, List.set_cons_succ, i64_w, i32_w]
  rfl
 refine pure_ (i := 7) (N := some 14) (v := ?_) (a' := ?_) #[true, false, false, false, true, false, false, true, false, false, false] rfl rfl (any_of HT_.out (by kernel_rfl)) (fun _ _ _ h => h) (Or.inl ⟨by rfl, ?_⟩) ?_ ?_
 rotate_left
 ·intro w'
  go_simp
  with_reducible rfl
 rotate_left
 ·simp only [Act.put, List.setIfInBounds_toArray, List.set_cons_zero, List.set_cons_succ, i64_w, i32_w]
  rfl
 refine take_ (i := 1) (N := some 8) (v := ?_) (a' := ?_) #[true, true, false, false, true, false, false, true, false, false, false] rfl rfl (take_ofW HT_.out HW_.out (by kernel_rfl)) (fun _ _ _ h => h) (Or.inl ⟨by rfl, ?_⟩) hHeld ?_ ?_
 rotate_left
 ·rintro w' ⟨s0, s1, s2, s3, s4, s5, s6, s7⟩
  go_simp
  with_reducible rfl
 rotate_left
 ·simp only [Act.put, List.setIfInBounds_toArray, List.set_cons_zero, List.set_cons_succ, i64_w, i32_w]
  rfl
 refine take_ (i := 2) (N := some 9) (v := ?_) (a' := ?_) #[true, true, true, false, true, false, false, true, false, false, false] rfl rfl (take_ofW HT_.out HW_.out (by kernel_rfl)) (fun _ _ _ h => h) (Or.inl ⟨by rfl, ?_⟩) hHeld ?_ ?_
 rotate_left
 ·rintro w' ⟨s0, s1, s2, s3, s4, s5, s6, s7⟩
  go_simp
  with_reducible rfl
 rotate_left
 ·simp only [Act.put, List.setIfInBounds_toArray, List.set_cons_zero, List.set_cons_succ, i64_w, i32_w]
  rfl
 refine take_ (i := 3) (N := some 10) (v := ?_) (a' := ?_) #[true, true, true, true, true, false, false, true, false, false, false] rfl rfl (take_ofW HT_.out HW_.out (by kernel_rfl)) (fun _ _ _ h => h) (Or.inl ⟨by rfl, ?_⟩) hHeld ?_ ?_
 rotate_left
 ·rintro w' ⟨s0, s1, s2, s3, s4, s5, s6, s7⟩
  go_simp
  with_reducible rfl
 rotate_left
 ·simp only [Act.put, List.setIfInBounds_toArray, List.set_cons_zero, List.set_cons_succ, i64_w, i32_w]
  rfl
 refine take_ (i := 8) (N := some 15) (v := ?_) (a' := ?_) #[true, true, true, true, true, false, false, true, true, false, false] rfl rfl (take_ofW HT_.out HW_.out (by kernel_rfl)) (fun _ _ _ h => h) (Or.inl ⟨by rfl, ?_⟩) hHeld ?_ ?_
 rotate_left
 ·rintro w' ⟨s0, s1, s2, s3, s4, s5, s6, s7⟩
  go_simp
  with_reducible rfl
 rotate_left
 ·simp only [Act.put, List.setIfInBounds_toArray, List.set_cons_zero, List.set_cons_succ, i64_w, i32_w]
  rfl
 refine one_ (i := 5) (N := some 12) #[true, true, true, true, true, true, false, true, true, false, false] rfl rfl (one_of HT_.out (by kernel_rfl)) (by decide) (fun K hK => ?_)
 refine goes_ Try.func54 (by kernel_rfl) rfl #[.agg #[.int .i64 a0_0, .int .i64 a0_1, .int .i64 a0_2, .int .i64 a0_3, .int .i64 a0_4, .bool a0_5], .agg #[.int .i64 a1_0, .int .i64 a1_1], .int .i64 a2] (by rfl) rfl rfl (by (try simp only [List.map_toArray, List.map_cons, List.map_nil]); first | done | rfl) ?_
 with_reducible refine (impl_Second_raw.calls k a0_0 a0_1 a0_2 a0_3 a0_4 a0_5 a1_0 a1_1 a2 t242 _ A4.out).mono ?_
 rintro e w10 ⟨rfl, hb⟩
 refine ⟨_, rfl, ?_⟩
 have n0_ := Aside0.mk (blk_below (g := gb239) (o := .cells #[.int .i64 a0_0, .int .i64 a0_1, .int .i64 a0_2, .int .i64 a0_3, .int .i64 a0_4, .bool a0_5] 40 (0, 0)) (by (with_reducible repeat (first | refine blk_drewN ?_ _ | refine blk_drew ?_ | refine blk_alloc ?_ _)); exact BK239.out) hb)
 have n1_ := Aside0.mk (blk_below (g := gb240) (o := .cells #[.int .i64 a1_0, .int .i64 a1_1] 75 (0, 0)) (by (with_reducible repeat (first | refine blk_drewN ?_ _ | refine blk_drew ?_ | refine blk_alloc ?_ _)); exact BK240.out) hb)
 have n2_ := Aside0.mk (blk_below (g := gb241) (o := .cells #[.int .i64 0, .int .i64 0] 75 (0, 0)) (by (with_reducible repeat (first | refine blk_drewN ?_ _ | refine blk_drew ?_ | refine blk_alloc ?_ _)); exact BK241.out) hb)
 have n3_ := Aside0.mk (below_step (by repeat (first | (with_reducible first | exact HB.out | apply below_alloc | apply pw_below_drewN | apply below_drew1 | refine below_set ?_ GE239.out | refine below_set ?_ GE240.out | refine below_set ?_ GE241.out) | exact HB.out)) hb)
 clear BK239
 clear BK240
 clear BK241
 clear HB
 have BK239 := n0_
 have BK240 := n1_
 have BK241 := n2_
 have HB := n3_
 clear n0_ n1_ n2_ n3_
 (try clear hb)
 (try clear hb2)
 (try clear hk)
 (try clear hi)
 refine hK.out _ _ ⟨(blk_cell BK239.out 0).trans rfl, (blk_cell BK239.out 1).trans rfl, (blk_cell BK239.out 2).trans rfl, (blk_cell BK239.out 3).trans rfl, (blk_cell BK239.out 4).trans rfl, (blk_cell BK239.out 5).trans rfl, (blk_cell BK240.out 0).trans rfl, (blk_cell BK240.out 1).trans rfl⟩ (fun hHeld => ?_)
 clear hK K
 refine norm_ (a' := ?_) ?_ ?_
 rotate_left
 ·show Act.put _ (some 12) _ = _
  simp only [Act.put, List.setIfInBounds_toArray, List.set_cons_zero, List.set_cons_succ, i64_w, i32_w]
  rfl
 refine one_ (i := 6) (N := some 13) #[true, true, true, true, true, true, true, true, true, false, false] rfl rfl (one_of HT_.out (by kernel_rfl)) (by decide) (fun K hK => ?_)
 refine goes_ Try.func97 (by kernel_rfl) rfl #[.agg #[.int .i64 a0_4, .bool a0_5], .int .i64 t242] (by rfl) rfl rfl (by (try simp only [List.map_toArray, List.map_cons, List.map_nil]); first | done | rfl) ?_
 with_reducible refine (impl_Word_fit.calls a0_4 a0_5 t242 t243 _ A5.out).mono ?_
 rintro e w11 ⟨rfl, hb⟩
 refine ⟨_, rfl, ?_⟩
 have n0_ := Aside0.mk (blk_below (g := gb239) (o := .cells #[.int .i64 a0_0, .int .i64 a0_1, .int .i64 a0_2, .int .i64 a0_3, .int .i64 a0_4, .bool a0_5] 40 (0, 0)) (by (with_reducible repeat (first | refine blk_drewN ?_ _ | refine blk_drew ?_ | refine blk_alloc ?_ _)); exact BK239.out) hb)
 have n1_ := Aside0.mk (blk_below (g := gb240) (o := .cells #[.int .i64 a1_0, .int .i64 a1_1] 75 (0, 0)) (by (with_reducible repeat (first | refine blk_drewN ?_ _ | refine blk_drew ?_ | refine blk_alloc ?_ _)); exact BK240.out) hb)
 have n2_ := Aside0.mk (blk_below (g := gb241) (o := .cells #[.int .i64 0, .int .i64 0] 75 (0, 0)) (by (with_reducible repeat (first | refine blk_drewN ?_ _ | refine blk_drew ?_ | refine blk_alloc ?_ _)); exact BK241.out) hb)
 have n3_ := Aside0.mk (below_step (by repeat (first | (with_reducible first | exact HB.out | apply below_alloc | apply pw_below_drewN | apply below_drew1 | refine below_set ?_ GE239.out | refine below_set ?_ GE240.out | refine below_set ?_ GE241.out) | exact HB.out)) hb)
 clear BK239
 clear BK240
 clear BK241
 clear HB
 have BK239 := n0_
 have BK240 := n1_
 have BK241 := n2_
 have HB := n3_
 clear n0_ n1_ n2_ n3_
 (try clear hb)
 (try clear hb2)
 (try clear hk)
 (try clear hi)
 refine hK.out _ _ ⟨(blk_cell BK239.out 0).trans rfl, (blk_cell BK239.out 1).trans rfl, (blk_cell BK239.out 2).trans rfl, (blk_cell BK239.out 3).trans rfl, (blk_cell BK239.out 4).trans rfl, (blk_cell BK239.out 5).trans rfl, (blk_cell BK240.out 0).trans rfl, (blk_cell BK240.out 1).trans rfl⟩ (fun hHeld => ?_)
 clear hK K
 refine norm_ (a' := ?_) ?_ ?_
 rotate_left
 ·show Act.put _ (some 13) _ = _
  simp only [Act.put, List.setIfInBounds_toArray, List.set_cons_zero, List.set_cons_succ, i64_w, i32_w]
  rfl
 refine pure_ (i := 9) (N := some 16) (v := ?_) (a' := ?_) #[true, true, true, true, true, true, true, true, true, true, false] rfl rfl (any_of HT_.out (by kernel_rfl)) (fun _ _ _ h => h) (Or.inl ⟨by rfl, ?_⟩) ?_ ?_
 rotate_left
 ·intro w'
  go_simp
  with_reducible rfl
 rotate_left
 ·simp only [Act.put, List.setIfInBounds_toArray, List.set_cons_zero, List.set_cons_succ, i64_w, i32_w]
  rfl
 refine one_ (i := 10) (N := none) #[true, true, true, true, true, true, true, true, true, true, true] rfl rfl (one_of HT_.out (by kernel_rfl)) (by decide) (fun K hK => ?_)
 have hs12 : w11.cell? ⟨gb241, 0, none⟩ = some (.int .i64 0) := (blk_cell BK241.out 0).trans rfl
 have hfs12 := blk_frozen BK241.out 0
 have hns12_0 := NB239_241.out
 have hns12_1 := NB240_241.out
 have hms12_0 := NB241_239.out
 have hms12_1 := NB241_240.out
 have hs13 : w11.cell? ⟨gb241, 1, none⟩ = some (.int .i64 0) := (blk_cell BK241.out 1).trans rfl
 have hfs13 := blk_frozen BK241.out 1
 have hns13_0 := NB239_241.out
 have hns13_1 := NB240_241.out
 have hms13_0 := NB241_239.out
 have hms13_1 := NB241_240.out
 refine skip_ (w1 := ?_) (by rfl) rfl ?_ ?_
 rotate_left
 ·go_simp
  rfl
 refine hK.out _ _ ⟨((cell_far (p := ⟨gb241, _, none⟩) NB239_241.out _).trans (((cell_far (p := ⟨gb241, _, none⟩) NB239_241.out _).trans (hHeld.1)))), ((cell_far (p := ⟨gb241, _, none⟩) NB239_241.out _).trans (((cell_far (p := ⟨gb241, _, none⟩) NB239_241.out _).trans (hHeld.2.1)))), ((cell_far (p := ⟨gb241, _, none⟩) NB239_241.out _).trans (((cell_far (p := ⟨gb241, _, none⟩) NB239_241.out _).trans (hHeld.2.2.1)))), ((cell_far (p := ⟨gb241, _, none⟩) NB239_241.out _).trans (((cell_far (p := ⟨gb241, _, none⟩) NB239_241.out _).trans (hHeld.2.2.2.1)))), ((cell_far (p := ⟨gb241, _, none⟩) NB239_241.out _).trans (((cell_far (p := ⟨gb241, _, none⟩) NB239_241.out _).trans (hHeld.2.2.2.2.1)))), ((cell_far (p := ⟨gb241, _, none⟩) NB239_241.out _).trans (((cell_far (p := ⟨gb241, _, none⟩) NB239_241.out _).trans (hHeld.2.2.2.2.2.1)))), ((cell_far (p := ⟨gb241, _, none⟩) NB240_241.out _).trans (((cell_far (p := ⟨gb241, _, none⟩) NB240_241.out _).trans (hHeld.2.2.2.2.2.2.1)))), ((cell_far (p := ⟨gb241, _, none⟩) NB240_241.out _).trans (((cell_far (p := ⟨gb241, _, none⟩) NB240_241.out _).trans (hHeld.2.2.2.2.2.2.2))))⟩ (fun hHeld => ?_)
 clear hK K
 refine done_ (done_of HT_.out (by kernel_rfl)) ?_
 try go_wp2
 refine bodyPost_ret (results_cell_row rfl _ _ gb241 75 #[.int .i64 t243, .int .i64 a1_0] (0, 0) _ rfl (by (with_reducible repeat (first | refine blk_drewN ?_ _ | refine blk_drew ?_ | refine blk_alloc ?_ _)); refine blk_put (cs := #[.int .i64 t243, .int .i64 0]) ?_ 1 _ rfl; (with_reducible repeat (first | refine blk_drewN ?_ _ | refine blk_drew ?_ | refine blk_alloc ?_ _)); refine blk_put (cs := #[.int .i64 0, .int .i64 0]) ?_ 0 _ rfl; (with_reducible repeat (first | refine blk_drewN ?_ _ | refine blk_drew ?_ | refine blk_alloc ?_ _)); exact BK241.out) Try.underlying75 rfl (by kernel_rfl)) rfl ?_
 exact ⟨by first | rfl | (simp [*] <;> rfl), by repeat (first | (with_reducible first | exact HB.out | apply below_alloc | apply pw_below_drewN | apply below_drew1 | refine below_set ?_ GE239.out | refine below_set ?_ GE240.out | refine below_set ?_ GE241.out) | exact HB.out)⟩

/-! ### impl_Second_history: function 80 -/
theorem pm.law : Maps.Keyed Try.prog 75 := Maps.Keyed.of_law (deep_law_laid (show laidOutB Try.prog = true by kernel_rfl) (m := 3) (by omega) (of_decide_eq_true (by kernel_rfl)) (by kernel_rfl) (by rw [Try.underlying75]))
def pm.gd (p : Int × Int) : Bool := (Lit.int .i64 p.1).wf && (Lit.int .i64 p.2).wf
def pm.val (p : Int × Int) : Value := .agg #[.int .i64 p.1, .int .i64 p.2]
noncomputable def pm.kl (p : Int × Int) : Lit := (keyOf Try.prog 75 (pm.val p)).getD (.bool false)
theorem pm.kl_eq (p : Int × Int) (h : pm.gd p = true) : keyOf Try.prog 75 (pm.val p) = some (pm.kl p) := by
 unfold pm.gd at h
 rw [Bool.and_eq_true] at h
 have hs : (keyOf Try.prog 75 (pm.val p)).isSome = true := by
  have hkt : Try.prog.keyType 75 = true := by kernel_rfl
  have c75 : Try.prog.cellsOf 75 = 2 := by kernel_rfl
  have c3 : Try.prog.cellsOf 3 = 1 := by kernel_rfl
  have hf : (pm.val p).formed Try.prog 75 = true := by simp [pm.val, Value.formed, Try.underlying75, c75]
  have hsz : 1 ≤ Try.prog.types.size := of_decide_eq_true (by kernel_rfl)
  obtain ⟨n, hn⟩ : ∃ n, Try.prog.types.size + 1 = n + 2 := ⟨Try.prog.types.size - 1, by omega⟩
  have hk : Try.prog.keyLits (n + 2) 75 (pm.val p).cells.toList = some [.int .i64 p.1, .int .i64 p.2] := by
   simp [Program.keyLits, pm.val, Value.cells, Try.underlying75, Try.underlying3, c75, c3, h.1, h.2]
  simp only [keyOf, Try.underlying75, hkt, hf, hn, hk]
  rfl
 unfold pm.kl
 obtain ⟨l, hl⟩ := Option.isSome_iff_exists.1 hs
 rw [hl]
 rfl
set_option maxRecDepth 100000 in
theorem pm.kl_inj {p q : Int × Int} (hp : pm.gd p = true) (hq : pm.gd q = true) (e : pm.kl p = pm.kl q) : p = q := by
 have h1 := pm.kl_eq q hq
 rw [← e] at h1
 have h := pm.law.inj (pm.kl_eq p hp) h1
 obtain ⟨p1, p2⟩ := p
 obtain ⟨q1, q2⟩ := q
 simp only [pm.val] at h
 injection h with h
 injection h with h
 injection h with h2 h3
 injection h3 with h3 _
 injection h2 with _ h2
 injection h3 with _ h3
 rw [h2, h3]
theorem pm.tight {w : World} {k : TypeId} {R : Value → Option (DataW Unit × List MemPlace)} {b n : Nat} {D : DataW Unit} (h : w.ownsMap Try.prog k R b n D) : w.ownsMap Try.prog k R b (Maps.size D) D := by
 obtain ⟨es, clock, h1, h2, h3, rfl⟩ := h
 refine ⟨es, clock, h1, h2, ?_, rfl⟩
 simp [Maps.size, length_sorted]
theorem pm.move {w w' : World} {k : TypeId} {R : Value → Option (DataW Unit × List MemPlace)} {b n : Nat} {D : DataW Unit} (h : w.ownsMap Try.prog k R b n D) (e : w'.heap[b]? = w.heap[b]?) : w'.ownsMap Try.prog k R b n D := by
 obtain ⟨es, clock, h1, r⟩ := h
 exact ⟨es, clock, e.trans h1, r⟩
structure pm.IsIdx (w : World) (b : Nat) (L : List (Int × Int)) : Prop where
 nd : L.Nodup
 good : ∀ p ∈ L, pm.gd p = true
 own : ∃ D : DataW Unit, w.ownsMap Try.prog 75 (plainElem Try.prog 3) b L.length D ∧ (∀ p, pm.gd p = true → Maps.has D (pm.kl p) = decide (p ∈ L)) ∧ ∀ (i : Nat) (h : i < L.length), D.atKey (pm.kl L[i]) (.lit (.int .i64 0)) = .lit (.int .i64 (i : Int))
theorem pm.IsIdx.made (w : World) : pm.IsIdx (w.alloc (.map #[] 0)) w.heap.size [] :=
 ⟨.nil, by simp, .map [], World.ownsMap_made w _ _ _, fun p _ => by simp [Maps.has], fun i h => by simp at h⟩
theorem pm.IsIdx.move {w w' : World} {b : Nat} {L : List (Int × Int)} (h : pm.IsIdx w b L) (e : w'.heap[b]? = w.heap[b]?) : pm.IsIdx w' b L := by
 obtain ⟨h1, h2, D, h3, h4⟩ := h
 exact ⟨h1, h2, D, pm.move h3 e, h4⟩
theorem pm.IsIdx.lt {w : World} {b : Nat} {L : List (Int × Int)} (h : pm.IsIdx w b L) : b < w.heap.size := by
 obtain ⟨_, _, D, h3, _⟩ := h
 exact h3.lt
theorem pm.IsIdx.below {w w' : World} {b : Nat} {L : List (Int × Int)} (h : pm.IsIdx w b L) (hb : Below w.heap.size w w') : pm.IsIdx w' b L := h.move (hb.block b h.lt)
theorem pm.IsIdx.ne {w : World} {b g : Nat} {L : List (Int × Int)} (h : pm.IsIdx w b L) {cs : Array Value} {t : TypeId} {fr : Nat × Nat} (hg : w.heap[g]? = some (.cells cs t fr)) : g ≠ b := by
 obtain ⟨_, _, D, ⟨es, clock, h1, _⟩, _⟩ := h
 rintro rfl
 rw [hg] at h1
 cases h1
set_option maxRecDepth 100000 in
theorem pm.IsIdx.look {w : World} {b : Nat} {L : List (Int × Int)} (h : pm.IsIdx w b L) {p : Int × Int} (hp : pm.gd p = true) : ∃ c : Int, (Instr.lookup 123 (.map (some b)) (pm.val p) true).run Try.prog w = .ok (.tuple #[.int .i64 c, .bool (decide (p ∈ L))]) w ∧ ∀ (i : Nat) (h : i < L.length), L[i] = p → c = (i : Int) := by
 obtain ⟨_, _, D, h3, h4, h5⟩ := h
 obtain ⟨v, ps, hrun, hv⟩ := h3.look_ok pm.law Try.underlying123 (z := .int .i64 0) (by kernel_rfl) (plainElem_int Try.underlying3 (by decide)) (pm.kl_eq p hp)
 obtain ⟨c, rfl, hc, _⟩ := plainElem_int_inv Try.underlying3 hv
 refine ⟨c, by rw [hrun, h4 p hp], fun i hi e => ?_⟩
 have h6 := h5 i hi
 rw [e] at h6
 have h7 := congrArg Prod.fst hc
 simp only [h6] at h7
 injection h7 with h7
 injection h7 with _ h7
 exact h7.symm
set_option maxRecDepth 100000 in
theorem pm.IsIdx.store {w : World} {b : Nat} {L : List (Int × Int)} (h : pm.IsIdx w b L) (hl : L.length < maxLen) {p : Int × Int} (hp : pm.gd p = true) (hm : p ∉ L) : ∃ w', (Instr.mapUpdate 123 (.map (some b)) (pm.val p) (.int .i64 (L.length : Int))).run Try.prog w = .ok () w' ∧ pm.IsIdx w' b (L ++ [p]) ∧ w.grownBy w' (some b) := by
 obtain ⟨h1, h2, D, h3, h4, h5⟩ := h
 have hwf : (Lit.int .i64 (L.length : Int)).wf = true := by
  have hmin : IntKind.i64.min = -9223372036854775808 := rfl
  have hmax : IntKind.i64.max = 9223372036854775807 := rfl
  simp only [Lit.wf, Bool.and_eq_true, decide_eq_true_eq, hmin, hmax]
  unfold maxLen at hl
  omega
 obtain ⟨w', hrun, hown, hg⟩ := h3.store pm.law Try.underlying123 hl (pm.kl_eq p hp) (plainElem_int Try.underlying3 hwf)
 have hkey := pm.law.key (pm.kl_eq p hp)
 refine ⟨w', hrun, ⟨?_, ?_, D.put (pm.kl p) (.lit (.int .i64 (L.length : Int))), by simpa using hown, fun q hq => ?_, fun i hi => ?_⟩, hg.grown⟩
 ·rw [List.nodup_append]
  exact ⟨h1, by simp, fun x hx y hy => by rw [List.mem_singleton.1 hy]; rintro rfl; exact hm hx⟩
 ·intro q hq
  rcases List.mem_append.1 hq with hq | hq
  ·exact h2 q hq
  ·rw [List.mem_singleton.1 hq]; exact hp
 ·by_cases e : q = p
  ·subst e
   rw [decide_eq_true (by simp)]
   exact Maps.has_put_same h3.isMap hkey _
  ·have hne : pm.kl q ≠ pm.kl p := fun e2 => e (pm.kl_inj hq hp e2)
   rw [show decide (q ∈ L ++ [p]) = decide (q ∈ L) from decide_eq_decide.2 (by simp [e])]
   exact (Maps.has_put_other hne _).trans (h4 q hq)
 ·by_cases hi' : i < L.length
  ·rw [List.getElem_append_left hi']
   have hne : pm.kl L[i] ≠ pm.kl p := fun e2 => hm ((pm.kl_inj (h2 _ (List.getElem_mem hi')) hp e2) ▸ List.getElem_mem hi')
   exact (Maps.atKey_put_other hne _ _).trans (h5 i hi')
  ·have e : i = L.length := by rw [List.length_append, List.length_singleton] at hi; omega
   subst e
   rw [List.getElem_append_right (Nat.le_refl _)]
   simp only [Nat.sub_self, List.getElem_cons_zero]
   exact Maps.atKey_put_same h3.isMap hkey _ _
section
variable (w : World) {ops : Array Oper} {rest : List Oper} {o : Oper} {a : Act} {Q : Exit → Act → World → Prop}
theorem pm.find_op (hg : o.guard = none) (m x : Operand) (hop : o.op = Op.lookup 123 m x true) (b : Nat) (L : List (Int × Int)) (hm : a.eval m = .map (some b)) (hS : pm.IsIdx w b L) (p : Int × Int) (hx : a.eval x = .agg #[.int .i64 p.1, .int .i64 p.2]) (hp : pm.gd p = true) (hK : ∀ c : Int, (∀ (i : Nat) (h : i < L.length), L[i] = p → c = (i : Int)) → wpList Try.prog ops Q rest (a.put o.dst (.tuple #[.int .i64 c, .bool (decide (p ∈ L))])) w) : wpList Try.prog ops Q (o :: rest) a w := by
 refine wpList_plain hg fun K' hK' => ?_
 obtain ⟨c, hrun, hc⟩ := hS.look hp
 unfold pm.val at hrun
 unfold Oper.wp
 simp [execOp, hop, hm, hx, hrun, Result.andThen]
 exact hK' _ _ (hK c hc)
theorem pm.mark_op (hg : o.guard = none) (m x v : Operand) (hop : o.op = Op.mapUpdate 123 m x v) (b : Nat) (L : List (Int × Int)) (hm : a.eval m = .map (some b)) (hS : pm.IsIdx w b L) (hl : L.length < maxLen) (p : Int × Int) (hx : a.eval x = .agg #[.int .i64 p.1, .int .i64 p.2]) (hv : a.eval v = .int .i64 (L.length : Int)) (hp : pm.gd p = true) (hn : p ∉ L) (hK : ∀ w', pm.IsIdx w' b (L ++ [p]) → w.grownBy w' (some b) → wpList Try.prog ops Q rest (a.put o.dst undef) w') : wpList Try.prog ops Q (o :: rest) a w := by
 refine wpList_plain hg fun K' hK' => ?_
 obtain ⟨w', hrun, r1, r2⟩ := hS.store hl hp hn
 unfold pm.val at hrun
 unfold Oper.wp
 simp [execOp, hop, hm, hx, hv, hrun, Result.andThen]
 exact hK' _ _ (hK w' r1 r2)
end
structure hi.S (w0 : World) (gf gp bo : Nat) (a a2 s m b : Int) (bw : Bool) (LI L : List (Int × Int)) (y z : Int) (v : Value) (w : World) : Prop where
 og : Below w0.heap.size w0 w
 fb : w.heap[gf]? = some (.cells #[.int .i64 a, .int .i64 a2, .int .i64 s, .int .i64 m, .int .i64 b, .bool bw] 40 (0, 0))
 pb : w.heap[gp]? = some (.cells #[.int .i64 y, .int .i64 z] 75 (0, 0))
 ii : pm.IsIdx w bo LI
 hl : Kd.R (Kd.pair (Kd.int .i64) (Kd.int .i64)) 75 w w0.heap.size (fun k => k ≠ gf ∧ k ≠ gp ∧ k ≠ bo) v L
 hp : w0.heap.size ≤ gp
 ho : w0.heap.size ≤ bo
theorem hi.S.later {w0 : World} {gf gp bo : Nat} {a a2 s m b : Int} {bw : Bool} {LI L : List (Int × Int)} {y z : Int} {v : Value} {w : World} {w' : World} (h : hi.S w0 gf gp bo a a2 s m b bw LI L y z v w) (hb : Below w.heap.size w w') : hi.S w0 gf gp bo a a2 s m b bw LI L y z v w' :=
 ⟨below_step h.og hb, blk_below h.fb hb, blk_below h.pb hb, h.ii.below hb, Kd.R_below h.hl hb, h.hp, h.ho⟩
theorem hi.S.marked {w0 : World} {gf gp bo : Nat} {a a2 s m b : Int} {bw : Bool} {LI L : List (Int × Int)} {y z : Int} {v : Value} {w : World} {LI' : List (Int × Int)} {w' : World} (h : hi.S w0 gf gp bo a a2 s m b bw LI L y z v w) (hs : pm.IsIdx w' bo LI') (hg : w.grownBy w' (some bo)) : hi.S w0 gf gp bo a a2 s m b bw LI' L y z v w' := by
 have h1 := h.ho
 exact ⟨h.og.grown hg (below_size h.og) (fun k e => by injection e with e; omega), blk_grown h.fb hg (fun e => by injection e with e; exact h.ii.ne h.fb e), blk_grown h.pb hg (fun e => by injection e with e; exact h.ii.ne h.pb e), hs, Kd.R_grown h.hl hg (fun k hk e => by injection e with e; exact hk.2.2 e), h.hp, h.ho⟩
theorem hi.S.added {w0 : World} {gf gp bo : Nat} {a a2 s m b : Int} {bw : Bool} {LI L : List (Int × Int)} {y z : Int} {v : Value} {w : World} {L' : List (Int × Int)} {v' : Value} {w' : World} (h : hi.S w0 gf gp bo a a2 s m b bw LI L y z v w) (hs : Kd.R (Kd.pair (Kd.int .i64) (Kd.int .i64)) 75 w' w0.heap.size (fun k => k ≠ gf ∧ k ≠ gp ∧ k ≠ bo) v' L') (hg : w.grownBy w' v.ownBlock) : hi.S w0 gf gp bo a a2 s m b bw LI L' y z v' w' := by
 have hv : ∀ i, some i = v.ownBlock → i ≠ gf ∧ i ≠ gp ∧ i ≠ bo := fun i e => h.hl.1 i e.symm
 exact ⟨h.og.grown hg (below_size h.og) (fun k e => Kd.R_base h.hl k e), blk_grown h.fb hg (fun e => (hv _ e).1 rfl), blk_grown h.pb hg (fun e => (hv _ e).2.1 rfl), h.ii.move (hg.block _ h.ii.lt (fun e => (hv _ e).2.2 rfl)), hs, h.hp, h.ho⟩
theorem hi.put_grown (w : World) (g : Nat) (y z : Value) : w.grownBy ((w.setCell ⟨g, 0, none⟩ y).setCell ⟨g, 1, none⟩ z) (some g) :=
 ⟨rfl, rfl, rfl, by simp, fun i hi e => (Below.heap_setCell _ _ _ _ (fun e2 => e (by rw [e2]))).trans (Below.heap_setCell _ _ _ _ (fun e2 => e (by rw [e2])))⟩
theorem hi.S.put {w0 : World} {gf gp bo : Nat} {a a2 s m b : Int} {bw : Bool} {LI L : List (Int × Int)} {y z : Int} {v : Value} {w : World} (h : hi.S w0 gf gp bo a a2 s m b bw LI L y z v w) (y' z' : Int) : hi.S w0 gf gp bo a a2 s m b bw LI L y' z' v ((w.setCell ⟨gp, 0, none⟩ (.int .i64 y')).setCell ⟨gp, 1, none⟩ (.int .i64 z')) := by
 have h1 := h.hp
 have hg := hi.put_grown w gp (.int .i64 y') (.int .i64 z')
 have h4 : gp ≠ bo := h.ii.ne h.pb
 exact ⟨h.og.grown hg (below_size h.og) (fun k e => by injection e with e; omega), blk_grown h.fb hg (fun e => by injection e with e; exact blk_ne h.fb h.pb (by decide) e), (blk_set (blk_set h.pb 0 _) 1 _).trans rfl, h.ii.move (hg.block _ h.ii.lt (fun e => by injection e with e; exact h4 e.symm)), Kd.R_grown h.hl hg (fun k hk e => by injection e with e; exact hk.2.1 e), h.hp, h.ho⟩
theorem hi.S.start {w0 w1 w' : World} {gf gp : Nat} {a a2 s m b : Int} {bw : Bool} {y z : Int} {v : Value} (hb : Below w0.heap.size w0 w1) (hf : w1.heap[gf]? = some (.cells #[.int .i64 a, .int .i64 a2, .int .i64 s, .int .i64 m, .int .i64 b, .bool bw] 40 (0, 0))) (hp : w1.heap[gp]? = some (.cells #[.int .i64 y, .int .i64 z] 75 (0, 0))) (hgp : w0.heap.size ≤ gp)
  (hr : Kd.R (Kd.pair (Kd.int .i64) (Kd.int .i64)) 75 w' (w1.alloc (.map #[] 0)).heap.size (fun _ => True) v []) (hb2 : Below (w1.alloc (.map #[] 0)).heap.size (w1.alloc (.map #[] 0)) w') : hi.S w0 gf gp w1.heap.size a a2 s m b bw [] [] y z v w' := by
 have h1 := below_size hb
 have h2 := blk_lt hp
 have h3 := blk_lt hf
 have h4 : (w1.alloc (.map #[] 0)).heap.size = w1.heap.size + 1 := by rw [World.size_alloc]
 have hb3 : Below w1.heap.size w1 w' := below_step (below_alloc (Below.refl _ _) _) hb2
 exact ⟨below_step hb hb3, blk_below hf hb3, blk_below hp hb3, (pm.IsIdx.made w1).below hb2, Kd.R_lower (Kd.R_mono (Kd.R_newM hr (Nat.le_refl _) (M := fun k => w1.heap.size < k) (fun k hk => by omega)) (fun k hk => ⟨by have := hk.1; omega, by have := hk.1; omega, by have := hk.1; omega⟩)) (by omega), hgp, h1⟩
theorem hi.S.cells {w0 : World} {gf gp bo : Nat} {a a2 s m b : Int} {bw : Bool} {LI L : List (Int × Int)} {y z : Int} {v : Value} {w : World} (h : hi.S w0 gf gp bo a a2 s m b bw LI L y z v w) : w.cell? ⟨gf, 0, none⟩ = some (.int .i64 a) ∧ w.cell? ⟨gf, 1, none⟩ = some (.int .i64 a2) ∧ w.cell? ⟨gf, 2, none⟩ = some (.int .i64 s) ∧ w.cell? ⟨gf, 3, none⟩ = some (.int .i64 m) ∧ w.cell? ⟨gf, 4, none⟩ = some (.int .i64 b) ∧ w.cell? ⟨gf, 5, none⟩ = some (.bool bw) ∧ w.cell? ⟨gp, 0, none⟩ = some (.int .i64 y) ∧ w.cell? ⟨gp, 1, none⟩ = some (.int .i64 z) ∧ w.frozen? ⟨gp, 0, none⟩ = false ∧ w.frozen? ⟨gp, 1, none⟩ = false :=
 ⟨(blk_cell h.fb 0).trans rfl, (blk_cell h.fb 1).trans rfl, (blk_cell h.fb 2).trans rfl, (blk_cell h.fb 3).trans rfl, (blk_cell h.fb 4).trans rfl, (blk_cell h.fb 5).trans rfl, (blk_cell h.pb 0).trans rfl, (blk_cell h.pb 1).trans rfl, blk_frozen h.pb 0, blk_frozen h.pb 1⟩
def impl_Second_history.go : Nat → Int → Int → Int → Int → Int → Bool → Int → List (Int × Int) → Int → Int → Option (List (Int × Int) × Int × Bool)
 | 0, _, _, _, _, _, _, _, _, _, _ => none
 | k + 1, a, a2, s, m, b, bw, x, q, y, z => if (q.length : Int) ≤ 20000 then (if pm.gd (y, z) = true then (if (y, z) ∈ q then some (q, (q.idxOf (y, z) : Int), true) else ((impl_Second_step.f k a a2 s m b bw y z x).bind fun p => impl_Second_history.go k a a2 s m b bw x (q ++ [(y, z)]) p.1 p.2)) else none) else some ([], 0, false)
def impl_Second_history.f (k : Nat) (a a2 s m b : Int) (bw : Bool) (y z x : Int) : Option (List (Int × Int) × Int × Bool) := impl_Second_history.go k a a2 s m b bw x [] y z
theorem impl_Second_history.mono_g : ∀ k a a2 s m b bw x q y z, LeO (impl_Second_history.go k a a2 s m b bw x q y z) (impl_Second_history.go (k + 1) a a2 s m b bw x q y z)
 | 0, a, a2, s, m, b, bw, x, q, y, z => fun r h => by simp [impl_Second_history.go] at h
 | k + 1, a, a2, s, m, b, bw, x, q, y, z => by
  rw [impl_Second_history.go, impl_Second_history.go]
  exact LeO.ite (LeO.ite (LeO.ite (LeO.refl _) (LeO.bind (impl_Second_step.mono _ _ _ _ _ _ _ _ _ _) (fun p => impl_Second_history.mono_g k a a2 s m b bw x _ _ _))) (LeO.none _)) (LeO.refl _)
theorem impl_Second_history.mono : ∀ a a2 s m b bw y z x k, LeO (impl_Second_history.f k a a2 s m b bw y z x) (impl_Second_history.f (k + 1) a a2 s m b bw y z x) := fun a a2 s m b bw y z x k => impl_Second_history.mono_g k a a2 s m b bw x [] y z
set_option maxHeartbeats 4000000 in
set_option maxRecDepth 100000 in
theorem impl_Second_history.calls (k : Nat) (a a2 s m b : Int) (bw : Bool) (y z x : Int) (r0 : List (Int × Int)) (r1 : Int) (r2 : Bool) (w : World) (h : impl_Second_history.f k a a2 s m b bw y z x = some (r0, r1, r2)) :
  Calls Try.prog 80 #[.agg #[.int .i64 a, .int .i64 a2, .int .i64 s, .int .i64 m, .int .i64 b, .bool bw], .agg #[.int .i64 y, .int .i64 z], .int .i64 x] w fun e w' => ∃ v0_ : Value, e = .returned (.tuple #[v0_, .int .i64 r1, .bool r2]) ∧ Kd.R (Kd.pair (Kd.int .i64) (Kd.int .i64)) 75 w' w.heap.size (fun _ => True) v0_ r0 ∧ Below w.heap.size w w' := by
 unfold impl_Second_history.f at h
 have HW := Aside0.mk h
 have HB := Aside0.mk (Below.refl w.heap.size w)
 clear h
 go_enter Try.func80, Try.ntmps80
 go_wp2_with (first
  | ((with_reducible refine gate_dst (N := 3) rfl ?_); refine box_event ?hg (N := 3) ?hd (cs := #[.int .i64 a, .int .i64 a2, .int .i64 s, .int .i64 m, .int .i64 b, .bool bw]) (t := 40) ?hr ?_; (case hd => rfl); (case hg => rfl); (case hr => first | (go_simp; done) | (go_simp; rfl)); intro gf hgf w1 hbf hb; have m0_ := Aside0.mk (below_step HB.out hb); clear HB hb; have HB := m0_; clear m0_; have BF := Aside0.mk hbf; clear hbf hgf)
  | ((with_reducible refine gate_dst (N := 4) rfl ?_); refine box_event ?hg (N := 4) ?hd (cs := #[.int .i64 y, .int .i64 z]) (t := 75) ?hr ?_; (case hd => rfl); (case hg => rfl); (case hr => first | (go_simp; done) | (go_simp; rfl)); intro gp hgp w2 hbp hb; have GP := Aside0.mk (show w.heap.size ≤ gp by rw [hgp]; exact below_size HB.out); have m0_ := Aside0.mk (below_step HB.out hb); have m1_ := Aside0.mk (blk_below BF.out hb); clear HB hb BF; have HB := m0_; have BF := m1_; clear m0_ m1_; have BP := Aside0.mk hbp; clear hbp hgp)
  | ((with_reducible refine gate_dst (N := 13) rfl ?_); refine Kd.event_run rfl (v := .map (some w2.heap.size)) (w1 := w2.alloc (.map #[] 0)) rfl ?_)
  | ((with_reducible refine gate_dst (N := 14) rfl ?_); refine Kd.R_lit (Kd.pair (Kd.int .i64) (Kd.int .i64)) (w0 := w2.alloc (.map #[] 0)) (w2.alloc (.map #[] 0)).heap.size 75 ?hg (N := 14) ?hd (xs := ([] : List (Int × Int))) (inner := []) (ok := fun _ => True) (okp := fun _ => True) ?hr ?hp (fun _ hk => hk) trivial (Below.refl _ _) (Nat.le_refl _) (by simp) ?_; (case hd => rfl); (case hg => rfl); (case hr => first | (go_simp; done) | (go_simp; rfl)); (case hp => exact Reps.none _ _); intro v14 w9 ho hb hg_ hnew_; have SS := Aside0.mk (hi.S.start HB.out BF.out BP.out GP.out ho hb); clear ho hb hg_ hnew_))
 go_loopg [10] k (fun kq v10 w' => ∃ (q : List (Int × Int)) (y2 z2 : Int), Aside0 (hi.S w gf gp w2.heap.size a a2 s m b bw q q y2 z2 v10 w') ∧ Aside0 (impl_Second_history.go kq a a2 s m b bw x q y2 z2 = some (r0, r1, r2)))
 case atStart => exact ⟨[], y, z, SS, HW⟩
 case round =>
  clear SS HW
  obtain ⟨q, y2, z2, SS, HWK⟩ := hrel
  cases gk with
  | zero => exact absurd HWK.out (by simp [impl_Second_history.go])
  | succ k1 =>
   have H := HWK.out
   clear HWK
   simp only [impl_Second_history.go] at H
   obtain ⟨Aq, cq, eq_⟩ := Kd.R_slice SS.out.hl
   subst eq_
   obtain ⟨cf0, cf1, cf2, cf3, cf4, cf5, cp0, cp1, fp0, fp1⟩ := SS.out.cells
   by_cases c3 : (q.length : Int) ≤ 20000
   ·rw [if_pos c3] at H
    have c3b : decide ((q.length : Int) ≤ 20000) = true := decide_eq_true c3
    have LM := Aside0.mk c3
    clear c3
    by_cases c4 : pm.gd (y2, z2) = true
    case neg => rw [if_neg c4] at H; cases H
    rw [if_pos c4] at H
    have G2 := Aside0.mk c4
    clear c4
    by_cases c5 : (y2, z2) ∈ q
    ·rw [if_pos c5] at H
     have c5b : decide ((y2, z2) ∈ q) = true := decide_eq_true c5
     have hidx := List.idxOf_lt_length_of_mem c5
     have hgi : q[q.idxOf (y2, z2)] = (y2, z2) := List.getElem_idxOf hidx
     obtain ⟨i, hi⟩ : ∃ i, q.idxOf (y2, z2) = i := ⟨_, rfl⟩
     have hgi2 : q[i]? = some (y2, z2) := by rw [← hi, List.getElem?_eq_getElem hidx, hgi]
     rw [hi] at H
     clear hgi hidx hi c5
     have HGI := Aside0.mk hgi2
     clear hgi2
     obtain ⟨rfl, rfl, rfl⟩ : r0 = q ∧ r1 = (i : Int) ∧ r2 = true := by injection H with H; injection H with e1 H; injection H with e2 e3; exact ⟨e1.symm, e2.symm, e3.symm⟩
     clear H
     go_wp2_with (first | ((with_reducible refine gate_dst (N := 21) rfl ?_); refine pm.find_op _ rfl (.tmp 19) (.tmp 20) rfl w2.heap.size r0 rfl SS.out.ii (y2, z2) rfl G2.out ?_; intro c hc; obtain rfl := hc i (List.getElem?_eq_some_iff.1 HGI.out).1 (List.getElem?_eq_some_iff.1 HGI.out).2; clear hc; rw [c5b]))
     go_ret3
     exact ⟨_, rfl, Kd.R_mono SS.out.hl (fun _ _ => trivial), SS.out.og⟩
    ·rw [if_neg c5] at H
     have c5b : decide ((y2, z2) ∈ q) = false := decide_eq_false c5
     obtain ⟨⟨y3, z3⟩, A1_, H1⟩ := Option.bind_eq_some_iff.mp H
     have A1 := Aside0.mk A1_
     have HWK := Aside0.mk H1
     have NM := Aside0.mk c5
     clear H A1_ H1 c5
     go_wp2_with (first
      | ((with_reducible refine gate_dst (N := 21) rfl ?_); refine pm.find_op _ rfl (.tmp 19) (.tmp 20) rfl w2.heap.size q rfl SS.out.ii (y2, z2) rfl G2.out ?_; intro c hc; clear hc; rw [c5b])
      | ((with_reducible refine gate_ (.mapUpdate 123 (.tmp 27) (.tmp 28) (.tmp 30)) rfl ?_); refine pm.mark_op _ rfl (.tmp 27) (.tmp 28) (.tmp 30) rfl w2.heap.size q rfl SS.out.ii (by have := LM.out; unfold maxLen; omega) (y2, z2) rfl rfl G2.out NM.out ?_; intro w10 hs_ hg_; have SS2 := Aside0.mk (SS.out.marked hs_ hg_); clear SS cf0 cf1 cf2 cf3 cf4 cf5 cp0 cp1 fp0 fp1; have SS := SS2; clear SS2; obtain ⟨cf0, cf1, cf2, cf3, cf4, cf5, cp0, cp1, fp0, fp1⟩ := SS.out.cells; clear hs_ hg_)
      | ((with_reducible refine gate_builtin (b := .append) (xs := #[.tmp 31, .tmp 33]) rfl ?_); at_builtin; refine Kd.R_append (Kd.pair (Kd.int .i64) (Kd.int .i64)) (W := w10) (w0 := w10) w.heap.size rfl (.tmp 31) (.tmp 33) 97 75 (.agg #[.int .i64 0, .int .i64 0]) 16 rfl Try.underlying97 info75 rfl (by decide) (by omega) (.slice Aq q.length cq) q (y2, z2) [.int .i64 y2, .int .i64 z2] (fun k_ => k_ ≠ gf ∧ k_ ≠ gp ∧ k_ ≠ w2.heap.size) (fun _ => False) rfl rfl ?aP (fun _ hk => hk.elim) ?aF ?aO ?aB ?aS ?aL ?_; (case aP => exact ⟨[_], [_], rfl, rfl, rfl⟩); (case aB => exact Below.refl _ _); (case aF => exact fun k_ hk_ => by have h1_ := blk_lt SS.out.pb; have h2_ := SS.out.ii.lt; have h3_ := blk_lt SS.out.fb; omega); (case aO => exact SS.out.hl); (case aS => exact below_size SS.out.og); (case aL => have := LM.out; omega); intro v34 w11 ho_ hb_ hg_ hat_; have SS2 := Aside0.mk (SS.out.added ho_ hg_); clear SS cf0 cf1 cf2 cf3 cf4 cf5 cp0 cp1 fp0 fp1; have SS := SS2; clear SS2; obtain ⟨cf0, cf1, cf2, cf3, cf4, cf5, cp0, cp1, fp0, fp1⟩ := SS.out.cells; clear ho_ hb_ hg_ hat_)
      | (go_at_call 55; ((with_reducible refine (impl_Second_step.calls k1 a a2 s m b bw y2 z2 x y3 z3 _ A1.out).mono ?_); rintro e w5 ⟨rfl, hb⟩; have SS2 := Aside0.mk (SS.out.later hb); clear SS cf0 cf1 cf2 cf3 cf4 cf5 cp0 cp1 fp0 fp1; have SS := SS2; clear SS2; obtain ⟨cf0, cf1, cf2, cf3, cf4, cf5, cp0, cp1, fp0, fp1⟩ := SS.out.cells; clear hb)))
     have SS2 := Aside0.mk (SS.out.put y3 z3)
     go_roundg k1
     case measure => omega
     case rel => exact ⟨_, y3, z3, SS2, HWK⟩
   ·rw [if_neg c3] at H
    have c3b : decide ((q.length : Int) ≤ 20000) = false := decide_eq_false c3
    obtain ⟨rfl, rfl, rfl⟩ : r0 = [] ∧ r1 = 0 ∧ r2 = false := by injection H with H; injection H with e1 H; injection H with e2 e3; exact ⟨e1.symm, e2.symm, e3.symm⟩
    clear H c3
    go_wp2
    go_ret3
    exact ⟨_, rfl, Kd.R_nil _ _ _ _ _, SS.out.og⟩

/-! ### slices_Grow_int_int: function 120 -/
set_option maxHeartbeats 4000000 in
set_option maxRecDepth 100000 in
theorem slices_Grow_int_int.nil (n : Int) (w : World) (h0 : 0 ≤ n) (hn : n ≤ 1000000000) :
  Calls Try.prog 120 #[.slice none 0 0, .int .i64 n] w fun e w' => ∃ v0_ : Value, e = .returned (v0_) ∧ Kd.R (Kd.int .i64) 3 w' w.heap.size (fun _ => True) v0_ [] ∧ Below w.heap.size w w' := by
 have c1 : decide (n < 0) = false := decide_eq_false (by omega)
 have hw : wrap64 n = n := by unfold wrap64; omega
 have hw2 : IntKind.i64.wrap n = n := (i64_w n).trans hw
 by_cases c : 0 < n
 ·have c2 : decide (0 < n) = true := decide_eq_true c
  have H0 := Aside0.mk h0
  have HN := Aside0.mk hn
  clear h0 hn c
  go_enter Try.func120, Try.ntmps120
  go_wp2_with (first
   | ((with_reducible refine gate_builtin (b := .append) (xs := #[.tmp 20, .tmp 21]) rfl ?_); at_builtin; refine Kd.R_append_zeros (Kd.int .i64) (w0 := w) w.heap.size rfl (.tmp 20) (.tmp 21) 26 3 3 (.int .i64 0) 8 rfl Try.underlying26 Try.underlying3 info3 rfl (by decide) (by decide) (.slice none 0 0) [] (0 : Int) n (fun _ => True) rfl rfl ?zero (fun _ _ => trivial) (Kd.R_nil _ _ _ _ _) H0.out (Below.refl _ _) (Nat.le_refl _) ?lim ?_; (case zero => exact rfl); (case lim => have := H0.out; have := HN.out; simp only [List.length_nil, Nat.zero_add]; omega); intro v1 w1 ho hb hg hat; obtain ⟨A1, q1, e1⟩ := Kd.R_slice ho; subst e1; have HO := Aside0.mk (Kd.R_take ho (Nat.zero_le _)); have HB := Aside0.mk hb; clear ho hb hg hat))
  go_ret
  exact ⟨_, rfl, HO.out, HB.out⟩
 ·have c2 : decide (0 < n) = false := decide_eq_false c
  clear c
  go_enter Try.func120, Try.ntmps120
  go_wp2
  go_ret
  exact ⟨_, rfl, Kd.R_nil _ _ _ _ _, Below.refl _ _⟩

/-! ### slices_Concat_int_int: function 71 -/
def slices_Concat_int_int.tot : List (List Int) → Nat
 | [] => 0
 | x :: r => x.length + slices_Concat_int_int.tot r
def slices_Concat_int_int.f (l0 : List (List Int)) : Option (List Int) := if slices_Concat_int_int.tot l0 ≤ 1000000000 ∧ l0.length ≤ 1000000000 then some l0.flatten else none
theorem slices_Concat_int_int.tot_app : ∀ (l r : List (List Int)), slices_Concat_int_int.tot (l ++ r) = slices_Concat_int_int.tot l + slices_Concat_int_int.tot r
 | [], r => by rw [List.nil_append, slices_Concat_int_int.tot, Nat.zero_add]
 | x :: l, r => by rw [List.cons_append, slices_Concat_int_int.tot, slices_Concat_int_int.tot, slices_Concat_int_int.tot_app l r, Nat.add_assoc]
theorem slices_Concat_int_int.flat : ∀ (l : List (List Int)), l.flatten.length = slices_Concat_int_int.tot l
 | [] => rfl
 | x :: l => by rw [List.flatten_cons, List.length_append, slices_Concat_int_int.flat l, slices_Concat_int_int.tot]
theorem slices_Concat_int_int.at_ {w : World} {A : Option Addr} {n : Nat} {xs : List (List Int)} (h : Kd.C (Kd.slice 3 (Kd.int .i64)) w A n xs) (i : Int) (h0 : 0 ≤ i) (h1 : i < n) : ∃ ad A0 c0, A = some ad ∧ w.cell? (ad.add i.toNat) = some (.slice A0 (xs.getD i.toNat []).length c0) ∧ (xs.getD i.toNat []).length ≤ c0 ∧ (Kd.int .i64).C w A0 (xs.getD i.toNat []).length (xs.getD i.toNat []) := by
 obtain ⟨ad, c, e, _, hK, hc0⟩ := Kd.C_get h ([] : List Int) i h0 h1
 have hc : ∀ j u, c[j]? = some u → w.cell? (ad.add (i.toNat * 1 + j)) = some u := hc0
 obtain ⟨A0, c0, rfl, l0, g0⟩ := hK
 exact ⟨ad, A0, c0, e, by have hq := hc 0 _ rfl; rwa [Nat.mul_one, Nat.add_zero] at hq, l0, g0⟩
theorem slices_Concat_int_int.step (l : List (List Int)) (x : Int) (h0 : 0 ≤ x) (h1 : x < (l.length : Int)) : l.take (x + 1).toNat = l.take x.toNat ++ [l.getD x.toNat []] := by
 have hx : x.toNat < l.length := by omega
 rw [show (x + 1).toNat = x.toNat + 1 by omega, List.take_succ_eq_append_getElem hx, List.getD_eq_getElem?_getD, List.getElem?_eq_getElem hx]
 rfl
theorem slices_Concat_int_int.le (l : List (List Int)) (n : Nat) : slices_Concat_int_int.tot (l.take n) ≤ slices_Concat_int_int.tot l := by
 have h := slices_Concat_int_int.tot_app (l.take n) (l.drop n)
 rw [List.take_append_drop] at h
 omega
theorem slices_Concat_int_int.next (l : List (List Int)) (x : Int) (h0 : 0 ≤ x) (h1 : x < (l.length : Int)) : slices_Concat_int_int.tot (l.take (x + 1).toNat) = slices_Concat_int_int.tot (l.take x.toNat) + (l.getD x.toNat []).length ∧ (l.take (x + 1).toNat).flatten = (l.take x.toNat).flatten ++ l.getD x.toNat [] := by
 rw [slices_Concat_int_int.step l x h0 h1, slices_Concat_int_int.tot_app, List.flatten_append]
 simp [slices_Concat_int_int.tot]
set_option maxHeartbeats 8000000 in
set_option maxRecDepth 100000 in
theorem slices_Concat_int_int.calls (A0 : Option Addr) (c0 : Nat) (l0 : List (List Int)) (r : List Int) (w : World) (hr0 : Kd.C (Kd.slice 3 (Kd.int .i64)) w A0 l0.length l0) (hc0 : l0.length ≤ c0) (h : slices_Concat_int_int.f l0 = some r) :
  Calls Try.prog 71 #[.slice A0 l0.length c0] w fun e w' => ∃ v0_ : Value, e = .returned (v0_) ∧ Kd.R (Kd.int .i64) 3 w' w.heap.size (fun _ => True) v0_ r ∧ Below w.heap.size w w' := by
 unfold slices_Concat_int_int.f at h
 by_cases hl : slices_Concat_int_int.tot l0 ≤ 1000000000 ∧ l0.length ≤ 1000000000
 case neg => rw [if_neg hl] at h; cases h
 rw [if_pos hl] at h
 have h := Option.some.inj h
 have HH := Aside0.mk h
 have HR0 := Aside0.mk hr0
 have HL := Aside0.mk hl
 clear hr0 hl h
 go_enter Try.func71, Try.ntmps71
 go_wp2
 go_loopg [3, 11] l0.length (fun gg v3 v11 w' => ∃ (m x : Int), v3 = .int .i64 m ∧ v11 = .int .i64 x ∧ Aside0 (0 ≤ x ∧ x ≤ (l0.length : Int) ∧ (l0.length : Int) - x ≤ gg ∧ m = (slices_Concat_int_int.tot (l0.take x.toNat) : Int)) ∧ Drawn0 w w')
 case atStart => exact ⟨0, 0, rfl, rfl, ⟨by omega, by omega, by omega, rfl⟩, by repeat (first | exact Drawn0.refl _ | apply Drawn0.step)⟩
 case round =>
  obtain ⟨m, x, rfl, rfl, HX, ⟨m1, rfl⟩⟩ := hrel
  by_cases c4 : x < (l0.length : Int)
  ·have c4b0 : decide (x < (l0.length : Int)) = true := decide_eq_true c4
   have p102 : 0 ≤ x := HX.out.1
   have hst := slices_Concat_int_int.next l0 x p102 c4
   have hle := slices_Concat_int_int.le l0 (x + 1).toNat
   have hlo := HL.out
   have hxo := HX.out
   have hmm : m = (slices_Concat_int_int.tot (l0.take x.toNat) : Int) := hxo.2.2.2
   obtain ⟨ad102, A1, q1, e102, hx102_0, hq102, hC102⟩ := slices_Concat_int_int.at_ HR0.out x p102 c4
   cases e102
   have hw1 : wrap64 (x + 1) = x + 1 := by unfold wrap64; omega
   have hw2 : wrap64 (m + ((l0.getD x.toNat []).length : Int)) = m + ((l0.getD x.toNat []).length : Int) := by unfold wrap64; omega
   have c5b0 : decide (m + ((l0.getD x.toNat []).length : Int) < 0) = false := decide_eq_false (by omega)
   have HST := Aside0.mk hst
   have HMM := Aside0.mk hmm
   replace p102 := eq_true p102
   replace c4 := eq_true c4
   have HW := Aside0.mk hw1
   have HW2 := Aside0.mk hw2
   clear hw1 hst hle hlo hxo hq102 hC102 hw2 hmm
   obtain ⟨L, hL⟩ : ∃ L : Nat, (l0.getD x.toNat []).length = L := ⟨_, rfl⟩
   rw [hL] at hx102_0 c5b0
   have HLL := Aside0.mk hL
   clear hL
   have hw3 : wrap64 (m + (L : Int)) = m + (L : Int) := by have := HW2.out; rw [HLL.out] at this; exact this
   have hw4 : IntKind.i64.wrap (m + (L : Int)) = m + (L : Int) := (i64_w _).trans hw3
   go_wp2
   have HXo := HX.out
   have hx0 := of_eq_true p102
   have hx1 := of_eq_true c4
   go_roundg (gk - 1)
   case measure => omega
   case rel => exact ⟨m + (L : Int), x + 1, by first | rfl | (simp only [hw3]; done) | (rw [hw3]; done), by first | rfl | rw [HW.out], ⟨by omega, by omega, by omega, by rw [HST.out.1, HMM.out, ← HLL.out]; omega⟩, by repeat (first | exact Drawn0.refl _ | apply Drawn0.step)⟩
  ·have c4b0 : decide (x < (l0.length : Int)) = false := decide_eq_false c4
   have hm0 : m = (slices_Concat_int_int.tot l0 : Int) := by
    have h1 := HX.out
    rw [h1.2.2.2, List.take_of_length_le (by omega)]
   subst hm0
   have HN := Aside0.mk (show (0 : Int) ≤ (slices_Concat_int_int.tot l0 : Int) ∧ (slices_Concat_int_int.tot l0 : Int) ≤ 1000000000 by have := HL.out; omega)
   clear HX
   have HB := Aside0.mk (pw_below_drewN (Below.refl w.heap.size w) m1)
   go_wp2_with (first
    | (go_at_call 120; ((with_reducible refine (slices_Grow_int_int.nil _ _ HN.out.1 HN.out.2).mono ?_); rintro e w5 ⟨v5, rfl, ho0, hb⟩; have HO := Aside0.mk (Kd.R_lower ho0 (below_size (by repeat (first | exact HB.out | apply below_alloc | apply pw_below_drewN | apply below_drew1)))); have m0_ := Aside0.mk (below_step (by repeat (first | exact HB.out | apply below_alloc | apply pw_below_drewN | apply below_drew1)) hb); clear HB hb ho0; have HB := m0_; clear m0_)))
   go_loopg [6, 27] l0.length (fun gg v6 v27 w' => ∃ (x : Int), v27 = .int .i64 x ∧ Aside0 (0 ≤ x ∧ x ≤ (l0.length : Int) ∧ (l0.length : Int) - x ≤ gg) ∧ Aside0 (Kd.R (Kd.int .i64) 3 w' w.heap.size (fun _ => True) v6 (l0.take x.toNat).flatten) ∧ Aside0 (Below w.heap.size w w'))
   case atStart => exact ⟨0, rfl, ⟨by omega, by omega, by omega⟩, ⟨(by (with_reducible repeat (first | apply Kd.R_alloc | apply Kd.R_drewN | apply Kd.R_drew)); exact HO.out)⟩, ⟨(by repeat (first | exact HB.out | apply below_alloc | apply pw_below_drewN | apply below_drew1))⟩⟩
   case round =>
    clear HO HB
    obtain ⟨x2, rfl, HX, HO, HB⟩ := hrel
    by_cases c7 : x2 < (l0.length : Int)
    ·have c7b0 : decide (x2 < (l0.length : Int)) = true := decide_eq_true c7
     have p102 : 0 ≤ x2 := HX.out.1
     have HST := Aside0.mk (slices_Concat_int_int.next l0 x2 p102 c7)
     have HLE := Aside0.mk (slices_Concat_int_int.le l0 (x2 + 1).toNat)
     obtain ⟨ad102, A1, q1, e102, hx102_0, hq102, hC102⟩ := slices_Concat_int_int.at_ (Kd.C_below HR0.out HB.out) x2 p102 c7
     cases e102
     have HC := Aside0.mk hC102
     have hw1 : wrap64 (x2 + 1) = x2 + 1 := by have := HL.out; unfold wrap64; omega
     replace p102 := eq_true p102
     replace c7 := eq_true c7
     have HW := Aside0.mk hw1
     clear hw1 hq102 hC102
     obtain ⟨Y, hY⟩ : ∃ Y : List Int, l0.getD x2.toNat [] = Y := ⟨_, rfl⟩
     rw [hY] at hx102_0
     obtain ⟨F, hF⟩ : ∃ F : List Int, (l0.take x2.toNat).flatten = F := ⟨_, rfl⟩
     have HC := Aside0.mk (show (Kd.int .i64).C _ A1 Y.length Y from hY ▸ HC.out)
     have HO := Aside0.mk (show Kd.R (Kd.int .i64) 3 _ w.heap.size (fun _ => True) _ F from hF ▸ HO.out)
     have HLIM := Aside0.mk (show F.length + Y.length ≤ 1000000000 by
      have h1 := HST.out.1
      have h2 := HLE.out
      have h3 := HL.out
      have h4 := slices_Concat_int_int.flat (l0.take x2.toNat)
      rw [hF] at h4
      rw [hY] at h1
      omega)
     have HFY := Aside0.mk (show (l0.take (x2 + 1).toNat).flatten = F ++ Y by rw [HST.out.2, hF, hY])
     clear hY hF
     obtain ⟨Aq, cq, eq_⟩ := Kd.R_slice HO.out
     subst eq_
     go_wp2_with (first
      | ((with_reducible refine gate_builtin (b := .append) (xs := #[.tmp 31, .tmp 32]) rfl ?_); at_builtin; refine Kd.R_append_rows (Kd.int .i64) (Rr := (Kd.int .i64).K wr) (w0 := w) w.heap.size rfl (.tmp 31) (.tmp 32) 26 3 (.int .i64 0) 8 rfl Try.underlying26 info3 rfl (by decide) (by decide) (.slice Aq F.length cq) F Y A1 Y.length q1 (fun _ => True) (fun _ => False) rfl rfl ?aO ?aR ?aK (fun _ hk => hk.elim) (fun _ _ => trivial) ?aB ?aS ?aL ?_; (case aO => exact (by (with_reducible repeat (first | apply Kd.R_alloc | apply Kd.R_drewN | apply Kd.R_drew)); exact HO.out)); (case aR => repeat (first | exact HC.out | (with_reducible refine Kd.C_alloc ?_ _) | (with_reducible refine Kd.C_drewN ?_ _) | (with_reducible refine Kd.C_drew ?_))); (case aK => exact fun _ _ h_ => h_); (case aB => exact (by repeat (first | exact HB.out | apply below_alloc | apply pw_below_drewN | apply below_drew1))); (case aS => exact below_size (by repeat (first | exact HB.out | apply below_alloc | apply pw_below_drewN | apply below_drew1))); (case aL => have := HLIM.out; omega); intro v122 w9 ho hb hg hat; clear HO HB; have HO := Aside0.mk ho; have HB := Aside0.mk hb; clear ho hb hg hat))
     have hx0 := of_eq_true p102
     have hx1 := of_eq_true c7
     have HXo := HX.out
     go_roundg (gk - 1)
     case measure => omega
     case rel => exact ⟨x2 + 1, by first | rfl | rw [HW.out], ⟨by omega, by omega, by omega⟩, ⟨by rw [HFY.out]; exact (by (with_reducible repeat (first | apply Kd.R_alloc | apply Kd.R_drewN | apply Kd.R_drew)); exact HO.out)⟩, ⟨(by repeat (first | exact HB.out | apply below_alloc | apply pw_below_drewN | apply below_drew1))⟩⟩
    ·have c7b0 : decide (x2 < (l0.length : Int)) = false := decide_eq_false c7
     have HO2 := Aside0.mk (show Kd.R (Kd.int .i64) 3 _ w.heap.size (fun _ => True) _ r by
      have h1 := HO.out
      have h2 := HX.out
      rw [List.take_of_length_le (by omega), HH.out] at h1
      exact h1)
     go_wp2
     go_ret
     exact ⟨_, rfl, (by (with_reducible repeat (first | apply Kd.R_alloc | apply Kd.R_drewN | apply Kd.R_drew)); exact HO2.out), (by repeat (first | exact HB.out | apply below_alloc | apply pw_below_drewN | apply below_drew1))⟩

/-! ### cmp_isNaN_int: function 151 -/
def cmp_isNaN_int.f (a0 : Int) : Option (Bool) := some (a0 != a0)
set_option maxHeartbeats 8000000 in
set_option maxRecDepth 100000 in
theorem cmp_isNaN_int.calls (a0 : Int) (r : Bool) (w : World) (h : cmp_isNaN_int.f a0 = some r) :
  Calls Try.prog 151 #[.int .i64 a0] w fun e w' => e = .returned (.bool r) ∧ Drawn0 w w' := by
 have H : (some (a0 != a0)) = some r := h
 clear h
 obtain rfl := Option.some.inj H
 go_enter Try.func151, Try.ntmps151
 go_wp2
 go_ret
 exact ⟨by first | rfl | (simp; done) | (simp [*]; done), by repeat (first | exact Drawn0.refl _ | apply Drawn0.step)⟩

/-! ### cmp_Compare_int: function 147 -/
def cmp_Compare_int.f (a0 : Int) (a1 : Int) : Option (Int) := (cmp_isNaN_int.f a0).bind fun t244 => ((cmp_isNaN_int.f a1).bind fun t245 => (if t244 = true then (if t245 = true then (some 0) else (some (-1))) else (if t245 = true then (some 1) else (if a0 < a1 then (some (-1)) else (if a0 > a1 then (some 1) else (some 0))))))
set_option maxHeartbeats 8000000 in
set_option maxRecDepth 100000 in
theorem cmp_Compare_int.calls (a0 : Int) (a1 : Int) (r : Int) (w : World) (h : cmp_Compare_int.f a0 a1 = some r) :
  Calls Try.prog 147 #[.int .i64 a0, .int .i64 a1] w fun e w' => e = .returned (.int .i64 r) ∧ Drawn0 w w' := by
 have H : ((cmp_isNaN_int.f a0).bind fun t244 => ((cmp_isNaN_int.f a1).bind fun t245 => (if t244 = true then (if t245 = true then (some 0) else (some (-1))) else (if t245 = true then (some 1) else (if a0 < a1 then (some (-1)) else (if a0 > a1 then (some 1) else (some 0))))))) = some r := h
 clear h
 replace H := Option.bind_eq_some_iff.mp H
 obtain ⟨t244, A30, H⟩ := H
 replace H : ((cmp_isNaN_int.f a1).bind fun t245 => (if t244 = true then (if t245 = true then (some 0) else (some (-1))) else (if t245 = true then (some 1) else (if a0 < a1 then (some (-1)) else (if a0 > a1 then (some 1) else (some 0)))))) = some r := H
 have A3 := Aside0.mk A30
 clear A30
 replace H := Option.bind_eq_some_iff.mp H
 obtain ⟨t245, A40, H⟩ := H
 replace H : (if t244 = true then (if t245 = true then (some 0) else (some (-1))) else (if t245 = true then (some 1) else (if a0 < a1 then (some (-1)) else (if a0 > a1 then (some 1) else (some 0))))) = some r := H
 have A4 := Aside0.mk A40
 clear A40
 by_cases c5 : t244 = true
 ·subst c5
  have H1 : (if t245 = true then (some 0) else (some (-1))) = some r := by rw [if_pos rfl] at H; exact H
  clear H
  have H := H1
  clear H1
  by_cases c6 : t245 = true
  ·subst c6
   have H1 : (some 0) = some r := by rw [if_pos rfl] at H; exact H
   clear H
   have H := H1
   clear H1
   obtain rfl := Option.some.inj H
   go_enter Try.func147, Try.ntmps147
   go_wp2_with (first | ((with_reducible refine gate_callee (f := 151) rfl ?_); refine goesL_ (some 8) rfl rfl Try.func151 (by kernel_rfl) rfl #[.int .i64 a0] rfl (by (try simp only [List.map_toArray, List.map_cons, List.map_nil]); first | done | rfl) ?_; (with_reducible refine (cmp_isNaN_int.calls a0 true _ A3.out).mono ?_); rintro e w' ⟨rfl, ⟨nd, rfl⟩⟩; refine ⟨_, rfl, ?_⟩) | ((with_reducible refine gate_callee (f := 151) rfl ?_); refine goesL_ (some 10) rfl rfl Try.func151 (by kernel_rfl) rfl #[.int .i64 a1] rfl (by (try simp only [List.map_toArray, List.map_cons, List.map_nil]); first | done | rfl) ?_; (with_reducible refine (cmp_isNaN_int.calls a1 true _ A4.out).mono ?_); rintro e w' ⟨rfl, ⟨nd, rfl⟩⟩; refine ⟨_, rfl, ?_⟩))
   go_ret
   exact ⟨by first | rfl | (simp; done) | (simp [*]; done), by repeat (first | exact Drawn0.refl _ | apply Drawn0.step)⟩
  ·replace c6 := Bool.eq_false_iff.mpr c6
   subst c6
   have H1 : (some (-1)) = some r := by rw [if_neg (show ¬ (false = true) by decide)] at H; exact H
   clear H
   have H := H1
   clear H1
   obtain rfl := Option.some.inj H
   go_enter Try.func147, Try.ntmps147
   go_wp2_with (first | ((with_reducible refine gate_callee (f := 151) rfl ?_); refine goesL_ (some 8) rfl rfl Try.func151 (by kernel_rfl) rfl #[.int .i64 a0] rfl (by (try simp only [List.map_toArray, List.map_cons, List.map_nil]); first | done | rfl) ?_; (with_reducible refine (cmp_isNaN_int.calls a0 true _ A3.out).mono ?_); rintro e w' ⟨rfl, ⟨nd, rfl⟩⟩; refine ⟨_, rfl, ?_⟩) | ((with_reducible refine gate_callee (f := 151) rfl ?_); refine goesL_ (some 10) rfl rfl Try.func151 (by kernel_rfl) rfl #[.int .i64 a1] rfl (by (try simp only [List.map_toArray, List.map_cons, List.map_nil]); first | done | rfl) ?_; (with_reducible refine (cmp_isNaN_int.calls a1 false _ A4.out).mono ?_); rintro e w' ⟨rfl, ⟨nd, rfl⟩⟩; refine ⟨_, rfl, ?_⟩))
   go_ret
   exact ⟨by first | rfl | (simp; done) | (simp [*]; done), by repeat (first | exact Drawn0.refl _ | apply Drawn0.step)⟩
 ·replace c5 := Bool.eq_false_iff.mpr c5
  subst c5
  have H1 : (if t245 = true then (some 1) else (if a0 < a1 then (some (-1)) else (if a0 > a1 then (some 1) else (some 0)))) = some r := by rw [if_neg (show ¬ (false = true) by decide)] at H; exact H
  clear H
  have H := H1
  clear H1
  by_cases c7 : t245 = true
  ·subst c7
   have H1 : (some 1) = some r := by rw [if_pos rfl] at H; exact H
   clear H
   have H := H1
   clear H1
   obtain rfl := Option.some.inj H
   go_enter Try.func147, Try.ntmps147
   go_wp2_with (first | ((with_reducible refine gate_callee (f := 151) rfl ?_); refine goesL_ (some 8) rfl rfl Try.func151 (by kernel_rfl) rfl #[.int .i64 a0] rfl (by (try simp only [List.map_toArray, List.map_cons, List.map_nil]); first | done | rfl) ?_; (with_reducible refine (cmp_isNaN_int.calls a0 false _ A3.out).mono ?_); rintro e w' ⟨rfl, ⟨nd, rfl⟩⟩; refine ⟨_, rfl, ?_⟩) | ((with_reducible refine gate_callee (f := 151) rfl ?_); refine goesL_ (some 10) rfl rfl Try.func151 (by kernel_rfl) rfl #[.int .i64 a1] rfl (by (try simp only [List.map_toArray, List.map_cons, List.map_nil]); first | done | rfl) ?_; (with_reducible refine (cmp_isNaN_int.calls a1 true _ A4.out).mono ?_); rintro e w' ⟨rfl, ⟨nd, rfl⟩⟩; refine ⟨_, rfl, ?_⟩))
   go_ret
   exact ⟨by first | rfl | (simp; done) | (simp [*]; done), by repeat (first | exact Drawn0.refl _ | apply Drawn0.step)⟩
  ·replace c7 := Bool.eq_false_iff.mpr c7
   subst c7
   have H1 : (if a0 < a1 then (some (-1)) else (if a0 > a1 then (some 1) else (some 0))) = some r := by rw [if_neg (show ¬ (false = true) by decide)] at H; exact H
   clear H
   have H := H1
   clear H1
   by_cases c8 : a0 < a1
   ·rw [if_pos c8] at H
    have c8b0 : decide (a0 < a1) = true := decide_eq_true c8
    clear c8
    obtain rfl := Option.some.inj H
    go_enter Try.func147, Try.ntmps147
    go_wp2_with (first | ((with_reducible refine gate_callee (f := 151) rfl ?_); refine goesL_ (some 8) rfl rfl Try.func151 (by kernel_rfl) rfl #[.int .i64 a0] rfl (by (try simp only [List.map_toArray, List.map_cons, List.map_nil]); first | done | rfl) ?_; (with_reducible refine (cmp_isNaN_int.calls a0 false _ A3.out).mono ?_); rintro e w' ⟨rfl, ⟨nd, rfl⟩⟩; refine ⟨_, rfl, ?_⟩) | ((with_reducible refine gate_callee (f := 151) rfl ?_); refine goesL_ (some 10) rfl rfl Try.func151 (by kernel_rfl) rfl #[.int .i64 a1] rfl (by (try simp only [List.map_toArray, List.map_cons, List.map_nil]); first | done | rfl) ?_; (with_reducible refine (cmp_isNaN_int.calls a1 false _ A4.out).mono ?_); rintro e w' ⟨rfl, ⟨nd, rfl⟩⟩; refine ⟨_, rfl, ?_⟩))
    go_ret
    exact ⟨by first | rfl | (simp; done) | (simp [*]; done), by repeat (first | exact Drawn0.refl _ | apply Drawn0.step)⟩
   ·rw [if_neg c8] at H
    have c8b0 : decide (a0 < a1) = false := decide_eq_false c8
    clear c8
    by_cases c9 : a0 > a1
    ·rw [if_pos c9] at H
     have c9b0 : decide (a1 < a0) = true := decide_eq_true c9
     clear c9
     obtain rfl := Option.some.inj H
     go_enter Try.func147, Try.ntmps147
     go_wp2_with (first | ((with_reducible refine gate_callee (f := 151) rfl ?_); refine goesL_ (some 8) rfl rfl Try.func151 (by kernel_rfl) rfl #[.int .i64 a0] rfl (by (try simp only [List.map_toArray, List.map_cons, List.map_nil]); first | done | rfl) ?_; (with_reducible refine (cmp_isNaN_int.calls a0 false _ A3.out).mono ?_); rintro e w' ⟨rfl, ⟨nd, rfl⟩⟩; refine ⟨_, rfl, ?_⟩) | ((with_reducible refine gate_callee (f := 151) rfl ?_); refine goesL_ (some 10) rfl rfl Try.func151 (by kernel_rfl) rfl #[.int .i64 a1] rfl (by (try simp only [List.map_toArray, List.map_cons, List.map_nil]); first | done | rfl) ?_; (with_reducible refine (cmp_isNaN_int.calls a1 false _ A4.out).mono ?_); rintro e w' ⟨rfl, ⟨nd, rfl⟩⟩; refine ⟨_, rfl, ?_⟩))
     go_ret
     exact ⟨by first | rfl | (simp; done) | (simp [*]; done), by repeat (first | exact Drawn0.refl _ | apply Drawn0.step)⟩
    ·rw [if_neg c9] at H
     have c9b0 : decide (a1 < a0) = false := decide_eq_false c9
     clear c9
     obtain rfl := Option.some.inj H
     go_enter Try.func147, Try.ntmps147
     go_wp2_with (first | ((with_reducible refine gate_callee (f := 151) rfl ?_); refine goesL_ (some 8) rfl rfl Try.func151 (by kernel_rfl) rfl #[.int .i64 a0] rfl (by (try simp only [List.map_toArray, List.map_cons, List.map_nil]); first | done | rfl) ?_; (with_reducible refine (cmp_isNaN_int.calls a0 false _ A3.out).mono ?_); rintro e w' ⟨rfl, ⟨nd, rfl⟩⟩; refine ⟨_, rfl, ?_⟩) | ((with_reducible refine gate_callee (f := 151) rfl ?_); refine goesL_ (some 10) rfl rfl Try.func151 (by kernel_rfl) rfl #[.int .i64 a1] rfl (by (try simp only [List.map_toArray, List.map_cons, List.map_nil]); first | done | rfl) ?_; (with_reducible refine (cmp_isNaN_int.calls a1 false _ A4.out).mono ?_); rintro e w' ⟨rfl, ⟨nd, rfl⟩⟩; refine ⟨_, rfl, ?_⟩))
     go_ret
     exact ⟨by first | rfl | (simp; done) | (simp [*]; done), by repeat (first | exact Drawn0.refl _ | apply Drawn0.step)⟩

/-! ### slices_Compare_int_int: function 126 -/
def slices_Compare_int_int.l0 : Nat → List Int → List Int → List Int → Int → Int → Option (Int)
 | 0, _, _, _, _, _ => none
 | k + 1, x0, x1, x9, x10, x11 => if x11 < x10 then (if 0 ≤ x11 then (if x11 < (x9.length : Int) then (if x11 ≥ (x1.length : Int) then (some 1) else (if x11 < (x1.length : Int) then ((cmp_Compare_int.f (rd x9 x11) (rd x1 x11)).bind fun t248 => (if t248 = 0 then (slices_Compare_int_int.l0 k x0 x1 x9 x10 (wrap64 (x11 + 1))) else (some t248))) else (none))) else (none)) else (none)) else (if (x0.length : Int) < (x1.length : Int) then (some (-1)) else (some 0))
def slices_Compare_int_int.f (k : Nat) (l0 : List Int) (l1 : List Int) : Option (Int) := slices_Compare_int_int.l0 k l0 l1 l0 (l0.length : Int) 0
theorem slices_Compare_int_int.mono_l : ∀ k, (∀ y0 y1 y2 y3 y4, LeO (slices_Compare_int_int.l0 k y0 y1 y2 y3 y4) (slices_Compare_int_int.l0 (k + 1) y0 y1 y2 y3 y4))
 | 0 => fun _ _ _ _ _ r h => by simp [slices_Compare_int_int.l0] at h
 | k + 1 => by
  have ih0 := slices_Compare_int_int.mono_l k
  ·intro y0 y1 y2 y3 y4
   unfold slices_Compare_int_int.l0
   repeat' first
   | (with_reducible exact ih0 _ _ _ _ _)
   | (with_reducible exact LeO.refl _)
   | (with_reducible exact LeO.none _)
   | (with_reducible refine LeO.ite ?_ ?_)
   | (with_reducible refine LeO.bind ?_ (fun _ => ?_))
   | exact ih0 _ _ _ _ _
   | exact LeO.none _
   | refine LeO.ite ?_ ?_
   | refine LeO.bind ?_ (fun _ => ?_)
theorem slices_Compare_int_int.mono : ∀ a0 a1 k, LeO (slices_Compare_int_int.f k a0 a1) (slices_Compare_int_int.f (k + 1) a0 a1) := by
 intro a0 a1 k
 have ih0 := slices_Compare_int_int.mono_l k
 unfold slices_Compare_int_int.f
 repeat' first
   | (with_reducible exact ih0 _ _ _ _ _)
   | (with_reducible exact LeO.refl _)
   | (with_reducible exact LeO.none _)
   | (with_reducible refine LeO.ite ?_ ?_)
   | (with_reducible refine LeO.bind ?_ (fun _ => ?_))
   | exact ih0 _ _ _ _ _
   | exact LeO.none _
   | refine LeO.ite ?_ ?_
   | refine LeO.bind ?_ (fun _ => ?_)
set_option maxHeartbeats 8000000 in
set_option maxRecDepth 100000 in
theorem slices_Compare_int_int.calls (k : Nat) (A0 : Option Addr) (c0 : Nat) (l0 : List Int) (A1 : Option Addr) (c1 : Nat) (l1 : List Int) (r : Int) (w : World) (hr0 : Kd.C (Kd.int .i64) w A0 l0.length l0) (hc0 : l0.length ≤ c0) (hr1 : Kd.C (Kd.int .i64) w A1 l1.length l1) (hc1 : l1.length ≤ c1) (h : slices_Compare_int_int.f k l0 l1 = some r) :
  Calls Try.prog 126 #[.slice A0 l0.length c0, .slice A1 l1.length c1] w fun e w' => e = .returned (.int .i64 r) ∧ Drawn0 w w' := by
 have HR0 := Aside0.mk hr0
 have HC0 := Aside0.mk hc0
 clear hr0 hc0
 have HR1 := Aside0.mk hr1
 have HC1 := Aside0.mk hc1
 clear hr1 hc1
 have H : (slices_Compare_int_int.l0 k l0 l1 l0 (l0.length : Int) 0) = some r := h
 clear h
 have H' := Aside0.mk H
 clear H
 go_enter Try.func126, Try.ntmps126
 go_wp2
 go_loopg [11] k (fun kq v11 w' => ∃ (x11_1 : Int), v11 = .int .i64 x11_1 ∧ Aside0 (slices_Compare_int_int.l0 kq l0 l1 l0 (l0.length : Int) x11_1 = some r) ∧ Aside0 (kq ≤ k) ∧ Drawn0 w w')
 case atStart => exact ⟨(0), (by first | rfl | (simp [*]; done)), H', ⟨Nat.le_refl _⟩, by repeat (first | exact Drawn0.refl _ | apply Drawn0.step)⟩
 case round =>
  clear H'
  try clear c1
  try clear p2
  obtain ⟨x11_1, rfl, HA, HK1, ⟨m1, rfl⟩⟩ := hrel
  cases gk with
  | zero => exact absurd HA.out (by simp [slices_Compare_int_int.l0])
  | succ k1 =>
   have H := HA.out
   clear HA
   simp only [slices_Compare_int_int.l0] at H
   by_cases c3 : x11_1 < (l0.length : Int)
   ·rw [if_pos c3] at H
    have c3b0 : decide (x11_1 < (l0.length : Int)) = true := decide_eq_true c3
    clear c3
    by_cases c4 : 0 ≤ x11_1
    ·rw [if_pos c4] at H
     have c4b0 : decide (0 ≤ x11_1) = true := decide_eq_true c4
     clear c4
     by_cases c5 : x11_1 < (l0.length : Int)
     ·rw [if_pos c5] at H
      have c5b0 : decide (x11_1 < (l0.length : Int)) = true := decide_eq_true c5
      clear c5
      by_cases c6 : x11_1 ≥ (l1.length : Int)
      ·rw [if_pos c6] at H
       have c6b0 : decide ((l1.length : Int) ≤ x11_1) = true := decide_eq_true c6
       clear c6
       obtain rfl := Option.some.inj H
       have p246 : 0 ≤ (x11_1 : Int) := of_decide_eq_true (by first | (with_reducible assumption) | assumption)
       have q246 : x11_1 < (l0.length : Int) := of_decide_eq_true (by first | (with_reducible assumption) | assumption)
       obtain ⟨ad246, e246, hx246_0⟩ := Kd.at_int HR0.out x11_1 p246 q246
       cases e246
       replace p246 := eq_true p246
       replace q246 := eq_true q246
       go_wp2
       go_ret
       exact ⟨by first | rfl | (simp; done) | (simp [*]; done), by repeat (first | exact Drawn0.refl _ | apply Drawn0.step)⟩
      ·rw [if_neg c6] at H
       have c6b0 : decide ((l1.length : Int) ≤ x11_1) = false := decide_eq_false c6
       clear c6
       by_cases c7 : x11_1 < (l1.length : Int)
       ·rw [if_pos c7] at H
        have c7b0 : decide (x11_1 < (l1.length : Int)) = true := decide_eq_true c7
        clear c7
        replace H := Option.bind_eq_some_iff.mp H
        obtain ⟨t248, A80, H⟩ := H
        replace H : (if t248 = 0 then (slices_Compare_int_int.l0 k1 l0 l1 l0 (l0.length : Int) (wrap64 (x11_1 + 1))) else (some t248)) = some r := H
        have A8 := Aside0.mk A80
        clear A80
        by_cases c9 : t248 = 0
        ·rw [if_pos c9] at H
         have c9b0 : (t248 == 0) = true := beq_iff_eq.mpr c9
         have c9b1 : (t248 != 0) = false := bne_eq_false_iff_eq.mpr c9
         clear c9
         have H' := Aside0.mk H
         clear H
         have p246 : 0 ≤ (x11_1 : Int) := of_decide_eq_true (by first | (with_reducible assumption) | assumption)
         have q246 : x11_1 < (l0.length : Int) := of_decide_eq_true (by first | (with_reducible assumption) | assumption)
         obtain ⟨ad246, e246, hx246_0⟩ := Kd.at_int HR0.out x11_1 p246 q246
         cases e246
         replace p246 := eq_true p246
         replace q246 := eq_true q246
         have p247 : 0 ≤ (x11_1 : Int) := of_decide_eq_true (by first | (with_reducible assumption) | assumption)
         have q247 : x11_1 < (l1.length : Int) := of_decide_eq_true (by first | (with_reducible assumption) | assumption)
         obtain ⟨ad247, e247, hx247_0⟩ := Kd.at_int HR1.out x11_1 p247 q247
         cases e247
         replace p247 := eq_true p247
         replace q247 := eq_true q247
         go_wp2_with (first | ((with_reducible refine gate_callee (f := 147) rfl ?_); refine goesL_ (some 26) rfl rfl Try.func147 (by kernel_rfl) rfl #[.int .i64 (rd l0 x11_1), .int .i64 (rd l1 x11_1)] rfl (by (try simp only [List.map_toArray, List.map_cons, List.map_nil]); first | done | rfl) ?_; (with_reducible refine (cmp_Compare_int.calls (rd l0 x11_1) (rd l1 x11_1) t248 _ A8.out).mono ?_); rintro e w' ⟨rfl, ⟨nd, rfl⟩⟩; refine ⟨_, rfl, ?_⟩))
         go_roundg k1
         case measure => have := HK1.out; omega
         case rel => exact ⟨(wrap64 (x11_1 + 1)), (by first | rfl | (simp [*]; done)), H', ⟨by have := HK1.out; omega⟩, by repeat (first | exact Drawn0.refl _ | apply Drawn0.step)⟩
        ·rw [if_neg c9] at H
         have c9b0 : (t248 == 0) = false := beq_eq_false_iff_ne.mpr c9
         have c9b1 : (t248 != 0) = true := bne_iff_ne.mpr c9
         obtain rfl := Option.some.inj H
         have p246 : 0 ≤ (x11_1 : Int) := of_decide_eq_true (by first | (with_reducible assumption) | assumption)
         have q246 : x11_1 < (l0.length : Int) := of_decide_eq_true (by first | (with_reducible assumption) | assumption)
         obtain ⟨ad246, e246, hx246_0⟩ := Kd.at_int HR0.out x11_1 p246 q246
         cases e246
         replace p246 := eq_true p246
         replace q246 := eq_true q246
         have p247 : 0 ≤ (x11_1 : Int) := of_decide_eq_true (by first | (with_reducible assumption) | assumption)
         have q247 : x11_1 < (l1.length : Int) := of_decide_eq_true (by first | (with_reducible assumption) | assumption)
         obtain ⟨ad247, e247, hx247_0⟩ := Kd.at_int HR1.out x11_1 p247 q247
         cases e247
         replace p247 := eq_true p247
         replace q247 := eq_true q247
         go_wp2_with (first | ((with_reducible refine gate_callee (f := 147) rfl ?_); refine goesL_ (some 26) rfl rfl Try.func147 (by kernel_rfl) rfl #[.int .i64 (rd l0 x11_1), .int .i64 (rd l1 x11_1)] rfl (by (try simp only [List.map_toArray, List.map_cons, List.map_nil]); first | done | rfl) ?_; (with_reducible refine (cmp_Compare_int.calls (rd l0 x11_1) (rd l1 x11_1) t248 _ A8.out).mono ?_); rintro e w' ⟨rfl, ⟨nd, rfl⟩⟩; refine ⟨_, rfl, ?_⟩))
         go_ret
         exact ⟨by first | rfl | (simp; done) | (simp [*]; done), by repeat (first | exact Drawn0.refl _ | apply Drawn0.step)⟩
       ·rw [if_neg c7] at H
        exact absurd H (by simp)
     ·rw [if_neg c5] at H
      exact absurd H (by simp)
    ·rw [if_neg c4] at H
     exact absurd H (by simp)
   ·rw [if_neg c3] at H
    have c3b0 : decide (x11_1 < (l0.length : Int)) = false := decide_eq_false c3
    clear c3
    by_cases c10 : (l0.length : Int) < (l1.length : Int)
    ·rw [if_pos c10] at H
     have c10b0 : decide ((l0.length : Int) < (l1.length : Int)) = true := decide_eq_true c10
     have c10b1 : decide (l0.length < l1.length) = true := decide_eq_true (Int.ofNat_lt.mp c10)
     clear c10
     obtain rfl := Option.some.inj H
     go_wp2
     go_ret
     exact ⟨by first | rfl | (simp; done) | (simp [*]; done), by repeat (first | exact Drawn0.refl _ | apply Drawn0.step)⟩
    ·rw [if_neg c10] at H
     have c10b0 : decide ((l0.length : Int) < (l1.length : Int)) = false := decide_eq_false c10
     have c10b1 : decide (l0.length < l1.length) = false := decide_eq_false (fun h => c10 (Int.ofNat_lt.mpr h))
     clear c10
     obtain rfl := Option.some.inj H
     go_wp2
     go_ret
     exact ⟨by first | rfl | (simp; done) | (simp [*]; done), by repeat (first | exact Drawn0.refl _ | apply Drawn0.step)⟩

end Go.Proofs.Ytjknlfgphlopnaa.PFnExactCycleOfPair
