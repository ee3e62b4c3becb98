-- Written by this session's pp.py over the kit's print.
import Derived.Test.YtjknlfgphlopnaaPFnExactCountLastingx0
import Derived.Test.YtjknlfgphlopnaaPFnExactCountLastingx7
namespace Go.Proofs.Ytjknlfgphlopnaa.PFnExactCountLasting
open Go.RowKit Go.Proofs.YtjknlfgphlopnaaW.PrintWords Go.Proofs.YtjknlfgphlopnaaW.PrintLast Go.Proofs.YtjknlfgphlopnaaW.PrintMore
attribute [local go_sem] max2_int min2_int max_two min_two max_three min_three max_four min_four   -- for this text's walks alone
set_option linter.unusedVariables false
set_option linter.unusedSimpArgs false

/-! ### impl_Word_fit: function 97 -/
def impl_Word_fit.f (a0_0 : Int) (a0_1 : Bool) (a1 : Int) : Option (Int) := (impl_Word_ends.f a0_0 a0_1).bind fun bt272 => (if a0_1 = true then ((impl_mod.f (wrap64 (a1 - bt272.1)) (wrap64 ((wrap64 (bt272.2 - bt272.1)) + 1))).bind fun t274 => (some (wrap64 (t274 + bt272.1)))) else (some (mn (mx a1 bt272.1) bt272.2)))
set_option maxHeartbeats 8000000 in
set_option maxRecDepth 100000 in
theorem impl_Word_fit.calls (a0_0 : Int) (a0_1 : Bool) (a1 : Int) (r : Int) (w : World) (h : impl_Word_fit.f a0_0 a0_1 a1 = some r) :
  Calls Try.prog 97 #[.agg #[.int .i64 a0_0, .bool a0_1], .int .i64 a1] w fun e w' => e = .returned (.int .i64 r) ∧ Below w.heap.size w w' := by
 have hu29 := Try.underlying29
 have HB := Aside0.mk (Below.refl w.heap.size w)
 have H : ((impl_Word_ends.f a0_0 a0_1).bind fun bt272 => (if a0_1 = true then ((impl_mod.f (wrap64 (a1 - bt272.1)) (wrap64 ((wrap64 (bt272.2 - bt272.1)) + 1))).bind fun t274 => (some (wrap64 (t274 + bt272.1)))) else (some (mn (mx a1 bt272.1) bt272.2)))) = some r := h
 clear h
 replace H := Option.bind_eq_some_iff.mp H
 obtain ⟨⟨t272, t273⟩, A30, H⟩ := H
 replace H : (if a0_1 = true then ((impl_mod.f (wrap64 (a1 - t272)) (wrap64 ((wrap64 (t273 - t272)) + 1))).bind fun t274 => (some (wrap64 (t274 + t272)))) else (some (mn (mx a1 t272) t273))) = some r := H
 have A3 := Aside0.mk A30
 clear A30
 by_cases c4 : a0_1 = true
 ·subst c4
  have H1 : ((impl_mod.f (wrap64 (a1 - t272)) (wrap64 ((wrap64 (t273 - t272)) + 1))).bind fun t274 => (some (wrap64 (t274 + t272)))) = some r := by rw [if_pos rfl] at H; exact H
  clear H
  have H := H1
  clear H1
  replace H := Option.bind_eq_some_iff.mp H
  obtain ⟨t274, A50, H⟩ := H
  replace H : (some (wrap64 (t274 + t272))) = some r := H
  have A5 := Aside0.mk A50
  clear A50
  obtain rfl := Option.some.inj H
  go_enter Try.func97, Try.ntmps97
  go_wp2_with (first | ((with_reducible refine gate_dst (N := 2) rfl ?_); refine box_event ?hg (N := 2) ?hd (cs := #[.int .i64 a0_0, .bool true]) (t := 29) ?hr ?_; (case hd => rfl); (case hg => rfl); (case hr => first | (go_simp; done) | (go_simp; rfl)); intro gb271 hg w6 hbox hb; have n0_ := Aside0.mk (below_step (by repeat (first | exact HB.out | apply below_alloc | apply pw_below_drewN | apply below_drew1)) hb); have n1_ := Aside0.mk (hbox); have n2_ := Aside0.mk ((by rw [hg]; exact (below_size (by repeat (first | exact HB.out | apply below_alloc | apply pw_below_drewN | apply below_drew1))) : w.heap.size ≤ gb271)); have n3_ := Aside0.mk ((by rw [hg]; exact (below_size (by repeat (first | exact HB.out | apply below_alloc | apply pw_below_drewN | apply below_drew1))) : w.heap.size ≤ gb271)); clear HB; have HB := n0_; have BK271 := n1_; have GW271 := n2_; have GE271 := n3_; clear n0_ n1_ n2_ n3_; clear hb hbox hg; have hcz7_0 : w6.cell? ⟨gb271, 0, none⟩ = some (.int .i64 a0_0) := (blk_cell BK271.out 0).trans rfl; have hcz7_1 : w6.cell? ⟨gb271, 1, none⟩ = some (.bool true) := (blk_cell BK271.out 1).trans rfl; have hfz7_0 := blk_frozen BK271.out 0; have hfz7_1 := blk_frozen BK271.out 1) | ((with_reducible refine gate_callee (f := 95) rfl ?_); refine goesL_ (some 9) rfl rfl Try.func95 (by kernel_rfl) rfl #[.agg #[.int .i64 a0_0, .bool true]] rfl (by (try simp only [List.map_toArray, List.map_cons, List.map_nil]); first | done | rfl) ?_; (with_reducible refine (impl_Word_ends.calls a0_0 true t272 t273 _ A3.out).mono ?_); rintro e w8 ⟨rfl, hb⟩; refine ⟨_, rfl, ?_⟩; have n0_ := Aside0.mk (blk_below (g := gb271) (o := .cells #[.int .i64 a0_0, .bool true] 29 (0, 0)) (by (with_reducible repeat (first | refine blk_drewN ?_ _ | refine blk_drew ?_ | refine blk_alloc ?_ _)); exact BK271.out) hb); have n1_ := Aside0.mk (below_step (by repeat (first | (with_reducible first | exact HB.out | apply below_alloc | apply pw_below_drewN | apply below_drew1 | refine below_set ?_ GE271.out) | exact HB.out)) hb); clear BK271; clear HB; have BK271 := n0_; have HB := n1_; clear n0_ n1_; (try clear hb); (try clear hb2); (try clear hk); (try clear hi); have hcz9_0 : w8.cell? ⟨gb271, 0, none⟩ = some (.int .i64 a0_0) := (blk_cell BK271.out 0).trans rfl; have hcz9_1 : w8.cell? ⟨gb271, 1, none⟩ = some (.bool true) := (blk_cell BK271.out 1).trans rfl; have hfz9_0 := blk_frozen BK271.out 0; have hfz9_1 := blk_frozen BK271.out 1) | ((with_reducible refine gate_callee (f := 137) rfl ?_); refine goesL_ (some 21) rfl rfl Try.func137 (by kernel_rfl) rfl #[.int .i64 (wrap64 (a1 - t272)), .int .i64 (wrap64 ((wrap64 (t273 - t272)) + 1))] rfl (by (try simp only [List.map_toArray, List.map_cons, List.map_nil]); first | done | rfl) ?_; (with_reducible refine (impl_mod.calls (wrap64 (a1 - t272)) (wrap64 ((wrap64 (t273 - t272)) + 1)) t274 _ A5.out).mono ?_); rintro e w' ⟨rfl, ⟨nd, rfl⟩⟩; refine ⟨_, rfl, ?_⟩))
  go_ret
  exact ⟨by first | rfl | (simp [*] <;> rfl), by repeat (first | (with_reducible first | exact HB.out | apply below_alloc | apply pw_below_drewN | apply below_drew1 | refine below_set ?_ GE271.out) | exact HB.out)⟩
 ·replace c4 := Bool.eq_false_iff.mpr c4
  subst c4
  have H1 : (some (mn (mx a1 t272) t273)) = some r := by rw [if_neg (show ¬ (false = true) by decide)] at H; exact H
  clear H
  have H := H1
  clear H1
  obtain ⟨ji10, hji10⟩ : ∃ j_ : Int, (mx a1 t272) = j_ := ⟨_, rfl⟩
  replace H : (some (mn (ji10) t273)) = some r := by first | (rw [hji10] at H; exact H) | (simp only [hji10] at H ⊢; exact H)
  (try rw [hji10] at A3)
  have hji10_ : (if a1 < t272 then t272 else a1) = ji10 := hji10
  obtain ⟨ji11, hji11⟩ : ∃ j_ : Int, (mn (ji10) t273) = j_ := ⟨_, rfl⟩
  replace H : (some ji11) = some r := by first | (rw [hji11] at H; exact H) | (simp only [hji11] at H ⊢; exact H)
  (try rw [hji11] at A3)
  have hji11_ : (if t273 < (ji10) then t273 else (ji10)) = ji11 := hji11
  obtain rfl := Option.some.inj H
  go_enter Try.func97, Try.ntmps97
  go_wp2_with (first | ((with_reducible refine gate_dst (N := 2) rfl ?_); refine box_event ?hg (N := 2) ?hd (cs := #[.int .i64 a0_0, .bool false]) (t := 29) ?hr ?_; (case hd => rfl); (case hg => rfl); (case hr => first | (go_simp; done) | (go_simp; rfl)); intro gb271 hg w12 hbox hb; have n0_ := Aside0.mk (below_step (by repeat (first | exact HB.out | apply below_alloc | apply pw_below_drewN | apply below_drew1)) hb); have n1_ := Aside0.mk (hbox); have n2_ := Aside0.mk ((by rw [hg]; exact (below_size (by repeat (first | exact HB.out | apply below_alloc | apply pw_below_drewN | apply below_drew1))) : w.heap.size ≤ gb271)); have n3_ := Aside0.mk ((by rw [hg]; exact (below_size (by repeat (first | exact HB.out | apply below_alloc | apply pw_below_drewN | apply below_drew1))) : w.heap.size ≤ gb271)); clear HB; have HB := n0_; have BK271 := n1_; have GW271 := n2_; have GE271 := n3_; clear n0_ n1_ n2_ n3_; clear hb hbox hg; have hcz13_0 : w12.cell? ⟨gb271, 0, none⟩ = some (.int .i64 a0_0) := (blk_cell BK271.out 0).trans rfl; have hcz13_1 : w12.cell? ⟨gb271, 1, none⟩ = some (.bool false) := (blk_cell BK271.out 1).trans rfl; have hfz13_0 := blk_frozen BK271.out 0; have hfz13_1 := blk_frozen BK271.out 1) | ((with_reducible refine gate_callee (f := 95) rfl ?_); refine goesL_ (some 9) rfl rfl Try.func95 (by kernel_rfl) rfl #[.agg #[.int .i64 a0_0, .bool false]] rfl (by (try simp only [List.map_toArray, List.map_cons, List.map_nil]); first | done | rfl) ?_; (with_reducible refine (impl_Word_ends.calls a0_0 false t272 t273 _ A3.out).mono ?_); rintro e w14 ⟨rfl, hb⟩; refine ⟨_, rfl, ?_⟩; have n0_ := Aside0.mk (blk_below (g := gb271) (o := .cells #[.int .i64 a0_0, .bool false] 29 (0, 0)) (by (with_reducible repeat (first | refine blk_drewN ?_ _ | refine blk_drew ?_ | refine blk_alloc ?_ _)); exact BK271.out) hb); have n1_ := Aside0.mk (below_step (by repeat (first | (with_reducible first | exact HB.out | apply below_alloc | apply pw_below_drewN | apply below_drew1 | refine below_set ?_ GE271.out) | exact HB.out)) hb); clear BK271; clear HB; have BK271 := n0_; have HB := n1_; clear n0_ n1_; (try clear hb); (try clear hb2); (try clear hk); (try clear hi); have hcz15_0 : w14.cell? ⟨gb271, 0, none⟩ = some (.int .i64 a0_0) := (blk_cell BK271.out 0).trans rfl; have hcz15_1 : w14.cell? ⟨gb271, 1, none⟩ = some (.bool false) := (blk_cell BK271.out 1).trans rfl; have hfz15_0 := blk_frozen BK271.out 0; have hfz15_1 := blk_frozen BK271.out 1))
  go_ret
  exact ⟨by first | rfl | (simp [errW_none, errW_some] <;> rfl) | (simp only [← hji10, ← hji11]; first | rfl | (simp [errW_none, errW_some] <;> rfl)) | (simp [*, errW_none, errW_some] <;> rfl), by repeat (first | (with_reducible first | exact HB.out | apply below_alloc | apply pw_below_drewN | apply below_drew1 | refine below_set ?_ GE271.out) | exact HB.out)⟩

/-! ### impl_Second_step: function 55 -/
def impl_Second_step.f (k : Nat) (a0_0 : Int) (a0_1 : Int) (a0_2 : Int) (a0_3 : Int) (a0_4 : Int) (a0_5 : Bool) (a1_0 : Int) (a1_1 : Int) (a2 : Int) : Option (Int × Int) := (impl_Second_raw.f k a0_0 a0_1 a0_2 a0_3 a0_4 a0_5 a1_0 a1_1 a2).bind fun t278 => ((impl_Word_fit.f a0_4 a0_5 t278).bind fun t279 => (some (t279, a1_0)))
theorem impl_Second_step.mono : ∀ a0 a1 a2 a3 a4 a5 a6 a7 a8 k, LeO (impl_Second_step.f k a0 a1 a2 a3 a4 a5 a6 a7 a8) (impl_Second_step.f (k + 1) a0 a1 a2 a3 a4 a5 a6 a7 a8) := by
 intro a0 a1 a2 a3 a4 a5 a6 a7 a8 k
 unfold impl_Second_step.f
 repeat' first
   | (with_reducible exact impl_Second_raw.mono _ _ _ _ _ _ _ _ _ _)
   | (with_reducible exact LeO.refl _)
   | (with_reducible exact LeO.none _)
   | (with_reducible refine LeO.ite ?_ ?_)
   | (with_reducible refine LeO.bind ?_ (fun _ => ?_))
   | exact impl_Second_raw.mono _ _ _ _ _ _ _ _ _ _
   | exact LeO.none _
   | refine LeO.ite ?_ ?_
   | refine LeO.bind ?_ (fun _ => ?_)
def impl_Second_step.T1 : Bool × List (List Nat × List Nat) := (true, [([], []), ([0], [0]), ([], []), ([], []), ([], []), ([2, 3, 4], [2, 3, 4]), ([1, 5, 5], [1, 5]), ([], []), ([7], [7]), ([6, 8], [6, 8]), ([9, 6, 0, 1, 2, 3, 4, 5, 6, 7, 8, 9], [9])])
def impl_Second_step.B1 : List Nat := [0, 1, 0, 0, 0, 28, 63, 0, 128, 511, 1023]
theorem impl_Second_step.tab1 : rtab .any (opsOf Try.f55 1) = impl_Second_step.T1 := by kernel_rfl
theorem impl_Second_step.bits1 : waitsOk impl_Second_step.T1.2 impl_Second_step.B1 = true := by kernel_rfl
set_option maxHeartbeats 8000000 in
set_option maxRecDepth 100000 in
theorem impl_Second_step.calls (k : Nat) (a0_0 : Int) (a0_1 : Int) (a0_2 : Int) (a0_3 : Int) (a0_4 : Int) (a0_5 : Bool) (a1_0 : Int) (a1_1 : Int) (a2 : Int) (r1 : Int) (r2 : Int) (w : World) (h : impl_Second_step.f k a0_0 a0_1 a0_2 a0_3 a0_4 a0_5 a1_0 a1_1 a2 = some (r1, r2)) :
  Calls Try.prog 55 #[.agg #[.int .i64 a0_0, .int .i64 a0_1, .int .i64 a0_2, .int .i64 a0_3, .int .i64 a0_4, .bool a0_5], .agg #[.int .i64 a1_0, .int .i64 a1_1], .int .i64 a2] w fun e w' => e = .returned (.agg #[.int .i64 r1, .int .i64 r2]) ∧ Below w.heap.size w w' := by
 have hu40 := Try.underlying40
 have hu75 := Try.underlying75
 have hu29 := Try.underlying29
 have HB := Aside0.mk (Below.refl w.heap.size w)
 have H : ((impl_Second_raw.f k a0_0 a0_1 a0_2 a0_3 a0_4 a0_5 a1_0 a1_1 a2).bind fun t278 => ((impl_Word_fit.f a0_4 a0_5 t278).bind fun t279 => (some (t279, a1_0)))) = some (r1, r2) := h
 clear h
 replace H := Option.bind_eq_some_iff.mp H
 obtain ⟨t278, A40, H⟩ := H
 replace H : ((impl_Word_fit.f a0_4 a0_5 t278).bind fun t279 => (some (t279, a1_0))) = some (r1, r2) := H
 have A4 := Aside0.mk A40
 clear A40
 replace H := Option.bind_eq_some_iff.mp H
 obtain ⟨t279, A50, H⟩ := H
 replace H : (some (t279, a1_0)) = some (r1, r2) := H
 have A5 := Aside0.mk A50
 clear A50
 simp only [Option.some.injEq, Prod.mk.injEq] at H
 obtain ⟨rfl, rfl⟩ := H
 go_enter Try.func55, Try.ntmps55
 try go_wp2_with (first | ((with_reducible refine gate_dst (N := 3) rfl ?_); refine box_event ?hg (N := 3) ?hd (cs := #[.int .i64 a0_0, .int .i64 a0_1, .int .i64 a0_2, .int .i64 a0_3, .int .i64 a0_4, .bool a0_5]) (t := 40) ?hr ?_; (case hd => rfl); (case hg => rfl); (case hr => first | (go_simp; done) | (go_simp; rfl)); intro gb275 hg w6 hbox hb; have n0_ := Aside0.mk (below_step (by repeat (first | exact HB.out | apply below_alloc | apply pw_below_drewN | apply below_drew1)) hb); have n1_ := Aside0.mk (hbox); have n2_ := Aside0.mk ((by rw [hg]; exact (below_size (by repeat (first | exact HB.out | apply below_alloc | apply pw_below_drewN | apply below_drew1))) : w.heap.size ≤ gb275)); have n3_ := Aside0.mk ((by rw [hg]; exact (below_size (by repeat (first | exact HB.out | apply below_alloc | apply pw_below_drewN | apply below_drew1))) : w.heap.size ≤ gb275)); clear HB; have HB := n0_; have BK275 := n1_; have GW275 := n2_; have GE275 := n3_; clear n0_ n1_ n2_ n3_; clear hb hbox hg) | ((with_reducible refine gate_dst (N := 4) rfl ?_); refine box_event ?hg (N := 4) ?hd (cs := #[.int .i64 a1_0, .int .i64 a1_1]) (t := 75) ?hr ?_; (case hd => rfl); (case hg => rfl); (case hr => first | (go_simp; done) | (go_simp; rfl)); intro gb276 hg w7 hbox hb; have n0_ := Aside0.mk (blk_below (g := gb275) (o := .cells #[.int .i64 a0_0, .int .i64 a0_1, .int .i64 a0_2, .int .i64 a0_3, .int .i64 a0_4, .bool a0_5] 40 (0, 0)) (by (with_reducible repeat (first | refine blk_drewN ?_ _ | refine blk_drew ?_ | refine blk_alloc ?_ _)); exact BK275.out) hb); have n1_ := Aside0.mk (below_step (by repeat (first | (with_reducible first | exact HB.out | apply below_alloc | apply pw_below_drewN | apply below_drew1 | refine below_set ?_ GE275.out) | exact HB.out)) hb); have n2_ := Aside0.mk (hbox); have n3_ := Aside0.mk ((by rw [hg]; exact (below_size (by repeat (first | (with_reducible first | exact HB.out | apply below_alloc | apply pw_below_drewN | apply below_drew1 | refine below_set ?_ GE275.out) | exact HB.out))) : w.heap.size ≤ gb276)); have n4_ := Aside0.mk ((by rw [hg]; exact (below_size (by repeat (first | (with_reducible first | exact HB.out | apply below_alloc | apply pw_below_drewN | apply below_drew1 | refine below_set ?_ GE275.out) | exact HB.out))) : w.heap.size ≤ gb276)); have n5_ := Aside0.mk ((by rw [hg]; exact Nat.ne_of_lt (blk_lt (g := gb275) (o := .cells #[.int .i64 a0_0, .int .i64 a0_1, .int .i64 a0_2, .int .i64 a0_3, .int .i64 a0_4, .bool a0_5] 40 (0, 0)) (by (with_reducible repeat (first | refine blk_drewN ?_ _ | refine blk_drew ?_ | refine blk_alloc ?_ _)); exact BK275.out)) : gb275 ≠ gb276)); have n6_ := Aside0.mk ((by rw [hg]; exact Nat.ne_of_gt (blk_lt (g := gb275) (o := .cells #[.int .i64 a0_0, .int .i64 a0_1, .int .i64 a0_2, .int .i64 a0_3, .int .i64 a0_4, .bool a0_5] 40 (0, 0)) (by (with_reducible repeat (first | refine blk_drewN ?_ _ | refine blk_drew ?_ | refine blk_alloc ?_ _)); exact BK275.out)) : gb276 ≠ gb275)); clear BK275; clear HB; have BK275 := n0_; have HB := n1_; have BK276 := n2_; have GW276 := n3_; have GE276 := n4_; have NB275_276 := n5_; have NB276_275 := n6_; clear n0_ n1_ n2_ n3_ n4_ n5_ n6_; clear hb hbox hg) | ((with_reducible refine gate_dst (N := 6) rfl ?_); refine box_event ?hg (N := 6) ?hd (cs := #[.int .i64 0, .int .i64 0]) (t := 75) ?hr ?_; (case hd => rfl); (case hg => rfl); (case hr => first | (go_simp; done) | (go_simp; rfl)); intro gb277 hg w8 hbox hb; have n0_ := Aside0.mk (blk_below (g := gb275) (o := .cells #[.int .i64 a0_0, .int .i64 a0_1, .int .i64 a0_2, .int .i64 a0_3, .int .i64 a0_4, .bool a0_5] 40 (0, 0)) (by (with_reducible repeat (first | refine blk_drewN ?_ _ | refine blk_drew ?_ | refine blk_alloc ?_ _)); exact BK275.out) hb); have n1_ := Aside0.mk (blk_below (g := gb276) (o := .cells #[.int .i64 a1_0, .int .i64 a1_1] 75 (0, 0)) (by (with_reducible repeat (first | refine blk_drewN ?_ _ | refine blk_drew ?_ | refine blk_alloc ?_ _)); exact BK276.out) hb); have n2_ := Aside0.mk (below_step (by repeat (first | (with_reducible first | exact HB.out | apply below_alloc | apply pw_below_drewN | apply below_drew1 | refine below_set ?_ GE275.out | refine below_set ?_ GE276.out) | exact HB.out)) hb); have n3_ := Aside0.mk (hbox); have n4_ := Aside0.mk ((by rw [hg]; exact (below_size (by repeat (first | (with_reducible first | exact HB.out | apply below_alloc | apply pw_below_drewN | apply below_drew1 | refine below_set ?_ GE275.out | refine below_set ?_ GE276.out) | exact HB.out))) : w.heap.size ≤ gb277)); have n5_ := Aside0.mk ((by rw [hg]; exact (below_size (by repeat (first | (with_reducible first | exact HB.out | apply below_alloc | apply pw_below_drewN | apply below_drew1 | refine below_set ?_ GE275.out | refine below_set ?_ GE276.out) | exact HB.out))) : w.heap.size ≤ gb277)); have n6_ := Aside0.mk ((by rw [hg]; exact Nat.ne_of_lt (blk_lt (g := gb275) (o := .cells #[.int .i64 a0_0, .int .i64 a0_1, .int .i64 a0_2, .int .i64 a0_3, .int .i64 a0_4, .bool a0_5] 40 (0, 0)) (by (with_reducible repeat (first | refine blk_drewN ?_ _ | refine blk_drew ?_ | refine blk_alloc ?_ _)); exact BK275.out)) : gb275 ≠ gb277)); have n7_ := Aside0.mk ((by rw [hg]; exact Nat.ne_of_gt (blk_lt (g := gb275) (o := .cells #[.int .i64 a0_0, .int .i64 a0_1, .int .i64 a0_2, .int .i64 a0_3, .int .i64 a0_4, .bool a0_5] 40 (0, 0)) (by (with_reducible repeat (first | refine blk_drewN ?_ _ | refine blk_drew ?_ | refine blk_alloc ?_ _)); exact BK275.out)) : gb277 ≠ gb275)); have n8_ := Aside0.mk ((by rw [hg]; exact Nat.ne_of_lt (blk_lt (g := gb276) (o := .cells #[.int .i64 a1_0, .int .i64 a1_1] 75 (0, 0)) (by (with_reducible repeat (first | refine blk_drewN ?_ _ | refine blk_drew ?_ | refine blk_alloc ?_ _)); exact BK276.out)) : gb276 ≠ gb277)); have n9_ := Aside0.mk ((by rw [hg]; exact Nat.ne_of_gt (blk_lt (g := gb276) (o := .cells #[.int .i64 a1_0, .int .i64 a1_1] 75 (0, 0)) (by (with_reducible repeat (first | refine blk_drewN ?_ _ | refine blk_drew ?_ | refine blk_alloc ?_ _)); exact BK276.out)) : gb277 ≠ gb276)); clear BK275; clear BK276; clear HB; have BK275 := n0_; have BK276 := n1_; have HB := n2_; have BK277 := n3_; have GW277 := n4_; have GE277 := n5_; have NB275_277 := n6_; have NB277_275 := n7_; have NB276_277 := n8_; have NB277_276 := n9_; clear n0_ n1_ n2_ n3_ n4_ n5_ n6_ n7_ n8_ n9_; clear hb hbox hg))
 have n0_ := Aside0.mk (blk_drew BK275.out)
 have n1_ := Aside0.mk (blk_drew BK276.out)
 have n2_ := Aside0.mk (blk_drew BK277.out)
 have n3_ := Aside0.mk (below_drew1 HB.out)
 clear BK275
 clear BK276
 clear BK277
 clear HB
 have BK275 := n0_
 have BK276 := n1_
 have BK277 := n2_
 have HB := n3_
 clear n0_ n1_ n2_ n3_
 refine start_ (n := 11) (S := fun w' => w'.cell? ⟨gb275, 0, none⟩ = some (.int .i64 a0_0) ∧ w'.cell? ⟨gb275, 1, none⟩ = some (.int .i64 a0_1) ∧ w'.cell? ⟨gb275, 2, none⟩ = some (.int .i64 a0_2) ∧ w'.cell? ⟨gb275, 3, none⟩ = some (.int .i64 a0_3) ∧ w'.cell? ⟨gb275, 4, none⟩ = some (.int .i64 a0_4) ∧ w'.cell? ⟨gb275, 5, none⟩ = some (.bool a0_5) ∧ w'.cell? ⟨gb276, 0, none⟩ = some (.int .i64 a1_0) ∧ w'.cell? ⟨gb276, 1, none⟩ = some (.int .i64 a1_1)) (ds := []) #[false, false, false, false, false, false, false, false, false, false, false] (by kernel_rfl) rfl rfl ⟨(blk_cell BK275.out 0).trans rfl, (blk_cell BK275.out 1).trans rfl, (blk_cell BK275.out 2).trans rfl, (blk_cell BK275.out 3).trans rfl, (blk_cell BK275.out 4).trans rfl, (blk_cell BK275.out 5).trans rfl, (blk_cell BK276.out 0).trans rfl, (blk_cell BK276.out 1).trans rfl⟩ (fun hHeld => ?_); refine with_tabW impl_Second_step.tab1 impl_Second_step.bits1 (fun HT_ HW_ => ?_)
 generalize w8.drew = w9 at BK275 BK276 BK277 HB hHeld ⊢
 refine pure_ (i := 0) (N := some 7) (v := ?_) (a' := ?_) #[true, false, false, false, false, false, false, false, false, false, false] rfl rfl (any_of HT_.out (by kernel_rfl)) (fun _ _ _ h => h) (Or.inl ⟨by rfl, ?_⟩) ?_ ?_
 rotate_left
 ·intro w'
  go_simp
  with_reducible rfl
 rotate_left
 ·simp only [Act.put, List.setIfInBounds_toArray, List.set_cons_zero, List.set_cons_succ, i64_w, i32_w]
  rfl
 refine pure_ (i := 4) (N := some 11) (v := ?_) (a' := ?_) #[true, false, false, false, true, false, false, false, false, false, false] rfl rfl (any_of HT_.out (by kernel_rfl)) (fun _ _ _ h => h) (Or.inl ⟨by rfl, ?_⟩) ?_ ?_
 rotate_left
 ·intro w'
  go_simp
  with_reducible rfl
 rotate_left
 ·simp only [Act.put, List.setIfInBounds_toArray, List.set_cons_zero, List.set_cons_succ, i64_w, i32_w]
  rfl
 refine pure_ (i := 7) (N := some 14) (v := ?_) (a' := ?_) #[true, false, false, false, true, false, false, true, false, false, false] rfl rfl (any_of HT_.out (by kernel_rfl)) (fun _ _ _ h => h) (Or.inl ⟨by rfl, ?_⟩) ?_ ?_
 rotate_left
 ·intro w'
  go_simp
  with_reducible rfl
 rotate_left
 ·simp only [Act.put, List.setIfInBounds_toArray, List.set_cons_zero, List.set_cons_succ, i64_w, i32_w]
  rfl
 refine take_ (i := 1) (N := some 8) (v := ?_) (a' := ?_) #[true, true, false, false, true, false, false, true, false, false, false] rfl rfl (take_ofW HT_.out HW_.out (by kernel_rfl)) (fun _ _ _ h => h) (Or.inl ⟨by rfl, ?_⟩) hHeld ?_ ?_
 rotate_left
 ·rintro w' ⟨s0, s1, s2, s3, s4, s5, s6, s7⟩
  go_simp
  with_reducible rfl
 rotate_left
 ·simp only [Act.put, List.setIfInBounds_toArray, List.set_cons_zero, List.set_cons_succ, i64_w, i32_w]
  rfl
 refine take_ (i := 2) (N := some 9) (v := ?_) (a' := ?_) #[true, true, true, false, true, false, false, true, false, false, false] rfl rfl (take_ofW HT_.out HW_.out (by kernel_rfl)) (fun _ _ _ h => h) (Or.inl ⟨by rfl, ?_⟩) hHeld ?_ ?_
 rotate_left
 ·rintro w' ⟨s0, s1, s2, s3, s4, s5, s6, s7⟩
  go_simp
  with_reducible rfl
 rotate_left
 ·simp only [Act.put, List.setIfInBounds_toArray, List.set_cons_zero, List.set_cons_succ, i64_w, i32_w]
  rfl
 refine take_ (i := 3) (N := some 10) (v := ?_) (a' := ?_) #[true, true, true, true, true, false, false, true, false, false, false] rfl rfl (take_ofW HT_.out HW_.out (by kernel_rfl)) (fun _ _ _ h => h) (Or.inl ⟨by rfl, ?_⟩) hHeld ?_ ?_
 rotate_left
 ·rintro w' ⟨s0, s1, s2, s3, s4, s5, s6, s7⟩
  go_simp
  with_reducible rfl
 rotate_left
 ·simp only [Act.put, List.setIfInBounds_toArray, List.set_cons_zero, List.set_cons_succ, i64_w, i32_w]
  rfl
 refine take_ (i := 8) (N := some 15) (v := ?_) (a' := ?_) #[true, true, true, true, true, false, false, true, true, false, false] rfl rfl (take_ofW HT_.out HW_.out (by kernel_rfl)) (fun _ _ _ h => h) (Or.inl ⟨by rfl, ?_⟩) hHeld ?_ ?_
 rotate_left
 ·rintro w' ⟨s0, s1, s2, s3, s4, s5, s6, s7⟩
  go_simp
  with_reducible rfl
 rotate_left
 ·simp only [Act.put, List.setIfInBounds_toArray, List.set_cons_zero, List.set_cons_succ, i64_w, i32_w]
  rfl
 refine one_ (i := 5) (N := some 12) #[true, true, true, true, true, true, false, true, true, false, false] rfl rfl (one_of HT_.out (by kernel_rfl)) (by decide) (fun K hK => ?_)
 refine goes_ Try.func54 (by kernel_rfl) rfl #[.agg #[.int .i64 a0_0, .int .i64 a0_1, .int .i64 a0_2, .int .i64 a0_3, .int .i64 a0_4, .bool a0_5], .agg #[.int .i64 a1_0, .int .i64 a1_1], .int .i64 a2] (by rfl) rfl rfl (by (try simp only [List.map_toArray, List.map_cons, List.map_nil]); first | done | rfl) ?_
 with_reducible refine (impl_Second_raw.calls k a0_0 a0_1 a0_2 a0_3 a0_4 a0_5 a1_0 a1_1 a2 t278 _ A4.out).mono ?_
 rintro e w10 ⟨rfl, hb⟩
 refine ⟨_, rfl, ?_⟩
 have n0_ := Aside0.mk (blk_below (g := gb275) (o := .cells #[.int .i64 a0_0, .int .i64 a0_1, .int .i64 a0_2, .int .i64 a0_3, .int .i64 a0_4, .bool a0_5] 40 (0, 0)) (by (with_reducible repeat (first | refine blk_drewN ?_ _ | refine blk_drew ?_ | refine blk_alloc ?_ _)); exact BK275.out) hb)
 have n1_ := Aside0.mk (blk_below (g := gb276) (o := .cells #[.int .i64 a1_0, .int .i64 a1_1] 75 (0, 0)) (by (with_reducible repeat (first | refine blk_drewN ?_ _ | refine blk_drew ?_ | refine blk_alloc ?_ _)); exact BK276.out) hb)
 have n2_ := Aside0.mk (blk_below (g := gb277) (o := .cells #[.int .i64 0, .int .i64 0] 75 (0, 0)) (by (with_reducible repeat (first | refine blk_drewN ?_ _ | refine blk_drew ?_ | refine blk_alloc ?_ _)); exact BK277.out) hb)
 have n3_ := Aside0.mk (below_step (by repeat (first | (with_reducible first | exact HB.out | apply below_alloc | apply pw_below_drewN | apply below_drew1 | refine below_set ?_ GE275.out | refine below_set ?_ GE276.out | refine below_set ?_ GE277.out) | exact HB.out)) hb)
 clear BK275
 clear BK276
 clear BK277
 clear HB
 have BK275 := n0_
 have BK276 := n1_
 have BK277 := n2_
 have HB := n3_
 clear n0_ n1_ n2_ n3_
 (try clear hb)
 (try clear hb2)
 (try clear hk)
 (try clear hi)
 refine hK.out _ _ ⟨(blk_cell BK275.out 0).trans rfl, (blk_cell BK275.out 1).trans rfl, (blk_cell BK275.out 2).trans rfl, (blk_cell BK275.out 3).trans rfl, (blk_cell BK275.out 4).trans rfl, (blk_cell BK275.out 5).trans rfl, (blk_cell BK276.out 0).trans rfl, (blk_cell BK276.out 1).trans rfl⟩ (fun hHeld => ?_)
 clear hK K
 refine norm_ (a' := ?_) ?_ ?_
 rotate_left
 ·show Act.put _ (some 12) _ = _
  simp only [Act.put, List.setIfInBounds_toArray, List.set_cons_zero, List.set_cons_succ, i64_w, i32_w]
  rfl
 refine one_ (i := 6) (N := some 13) #[true, true, true, true, true, true, true, true, true, false, false] rfl rfl (one_of HT_.out (by kernel_rfl)) (by decide) (fun K hK => ?_)
 refine goes_ Try.func97 (by kernel_rfl) rfl #[.agg #[.int .i64 a0_4, .bool a0_5], .int .i64 t278] (by rfl) rfl rfl (by (try simp only [List.map_toArray, List.map_cons, List.map_nil]); first | done | rfl) ?_
 with_reducible refine (impl_Word_fit.calls a0_4 a0_5 t278 t279 _ A5.out).mono ?_
 rintro e w11 ⟨rfl, hb⟩
 refine ⟨_, rfl, ?_⟩
 have n0_ := Aside0.mk (blk_below (g := gb275) (o := .cells #[.int .i64 a0_0, .int .i64 a0_1, .int .i64 a0_2, .int .i64 a0_3, .int .i64 a0_4, .bool a0_5] 40 (0, 0)) (by (with_reducible repeat (first | refine blk_drewN ?_ _ | refine blk_drew ?_ | refine blk_alloc ?_ _)); exact BK275.out) hb)
 have n1_ := Aside0.mk (blk_below (g := gb276) (o := .cells #[.int .i64 a1_0, .int .i64 a1_1] 75 (0, 0)) (by (with_reducible repeat (first | refine blk_drewN ?_ _ | refine blk_drew ?_ | refine blk_alloc ?_ _)); exact BK276.out) hb)
 have n2_ := Aside0.mk (blk_below (g := gb277) (o := .cells #[.int .i64 0, .int .i64 0] 75 (0, 0)) (by (with_reducible repeat (first | refine blk_drewN ?_ _ | refine blk_drew ?_ | refine blk_alloc ?_ _)); exact BK277.out) hb)
 have n3_ := Aside0.mk (below_step (by repeat (first | (with_reducible first | exact HB.out | apply below_alloc | apply pw_below_drewN | apply below_drew1 | refine below_set ?_ GE275.out | refine below_set ?_ GE276.out | refine below_set ?_ GE277.out) | exact HB.out)) hb)
 clear BK275
 clear BK276
 clear BK277
 clear HB
 have BK275 := n0_
 have BK276 := n1_
 have BK277 := n2_
 have HB := n3_
 clear n0_ n1_ n2_ n3_
 (try clear hb)
 (try clear hb2)
 (try clear hk)
 (try clear hi)
 refine hK.out _ _ ⟨(blk_cell BK275.out 0).trans rfl, (blk_cell BK275.out 1).trans rfl, (blk_cell BK275.out 2).trans rfl, (blk_cell BK275.out 3).trans rfl, (blk_cell BK275.out 4).trans rfl, (blk_cell BK275.out 5).trans rfl, (blk_cell BK276.out 0).trans rfl, (blk_cell BK276.out 1).trans rfl⟩ (fun hHeld => ?_)
 clear hK K
 refine norm_ (a' := ?_) ?_ ?_
 rotate_left
 ·show Act.put _ (some 13) _ = _
  simp only [Act.put, List.setIfInBounds_toArray, List.set_cons_zero, List.set_cons_succ, i64_w, i32_w]
  rfl
 refine pure_ (i := 9) (N := some 16) (v := ?_) (a' := ?_) #[true, true, true, true, true, true, true, true, true, true, false] rfl rfl (any_of HT_.out (by kernel_rfl)) (fun _ _ _ h => h) (Or.inl ⟨by rfl, ?_⟩) ?_ ?_
 rotate_left
 ·intro w'
  go_simp
  with_reducible rfl
 rotate_left
 ·simp only [Act.put, List.setIfInBounds_toArray, List.set_cons_zero, List.set_cons_succ, i64_w, i32_w]
  rfl
 refine one_ (i := 10) (N := none) #[true, true, true, true, true, true, true, true, true, true, true] rfl rfl (one_of HT_.out (by kernel_rfl)) (by decide) (fun K hK => ?_)
 have hs12 : w11.cell? ⟨gb277, 0, none⟩ = some (.int .i64 0) := (blk_cell BK277.out 0).trans rfl
 have hfs12 := blk_frozen BK277.out 0
 have hns12_0 := NB275_277.out
 have hns12_1 := NB276_277.out
 have hms12_0 := NB277_275.out
 have hms12_1 := NB277_276.out
 have hs13 : w11.cell? ⟨gb277, 1, none⟩ = some (.int .i64 0) := (blk_cell BK277.out 1).trans rfl
 have hfs13 := blk_frozen BK277.out 1
 have hns13_0 := NB275_277.out
 have hns13_1 := NB276_277.out
 have hms13_0 := NB277_275.out
 have hms13_1 := NB277_276.out
 refine skip_ (w1 := ?_) (by rfl) rfl ?_ ?_
 rotate_left
 ·go_simp
  rfl
 refine hK.out _ _ ⟨((cell_far (p := ⟨gb277, _, none⟩) NB275_277.out _).trans (((cell_far (p := ⟨gb277, _, none⟩) NB275_277.out _).trans (hHeld.1)))), ((cell_far (p := ⟨gb277, _, none⟩) NB275_277.out _).trans (((cell_far (p := ⟨gb277, _, none⟩) NB275_277.out _).trans (hHeld.2.1)))), ((cell_far (p := ⟨gb277, _, none⟩) NB275_277.out _).trans (((cell_far (p := ⟨gb277, _, none⟩) NB275_277.out _).trans (hHeld.2.2.1)))), ((cell_far (p := ⟨gb277, _, none⟩) NB275_277.out _).trans (((cell_far (p := ⟨gb277, _, none⟩) NB275_277.out _).trans (hHeld.2.2.2.1)))), ((cell_far (p := ⟨gb277, _, none⟩) NB275_277.out _).trans (((cell_far (p := ⟨gb277, _, none⟩) NB275_277.out _).trans (hHeld.2.2.2.2.1)))), ((cell_far (p := ⟨gb277, _, none⟩) NB275_277.out _).trans (((cell_far (p := ⟨gb277, _, none⟩) NB275_277.out _).trans (hHeld.2.2.2.2.2.1)))), ((cell_far (p := ⟨gb277, _, none⟩) NB276_277.out _).trans (((cell_far (p := ⟨gb277, _, none⟩) NB276_277.out _).trans (hHeld.2.2.2.2.2.2.1)))), ((cell_far (p := ⟨gb277, _, none⟩) NB276_277.out _).trans (((cell_far (p := ⟨gb277, _, none⟩) NB276_277.out _).trans (hHeld.2.2.2.2.2.2.2))))⟩ (fun hHeld => ?_)
 clear hK K
 refine done_ (done_of HT_.out (by kernel_rfl)) ?_
 try go_wp2
 refine bodyPost_ret (results_cell_row rfl _ _ gb277 75 #[.int .i64 t279, .int .i64 a1_0] (0, 0) _ rfl (by (with_reducible repeat (first | refine blk_drewN ?_ _ | refine blk_drew ?_ | refine blk_alloc ?_ _)); refine blk_put (cs := #[.int .i64 t279, .int .i64 0]) ?_ 1 _ rfl; (with_reducible repeat (first | refine blk_drewN ?_ _ | refine blk_drew ?_ | refine blk_alloc ?_ _)); refine blk_put (cs := #[.int .i64 0, .int .i64 0]) ?_ 0 _ rfl; (with_reducible repeat (first | refine blk_drewN ?_ _ | refine blk_drew ?_ | refine blk_alloc ?_ _)); exact BK277.out) Try.underlying75 rfl (by kernel_rfl)) rfl ?_
 exact ⟨by first | rfl | (simp [*] <;> rfl), by repeat (first | (with_reducible first | exact HB.out | apply below_alloc | apply pw_below_drewN | apply below_drew1 | refine below_set ?_ GE275.out | refine below_set ?_ GE276.out | refine below_set ?_ GE277.out) | exact HB.out)⟩

/-! ### impl_Word_all: function 117 -/
set_option maxHeartbeats 4000000 in
set_option maxRecDepth 100000 in
theorem impl_Word_all.callsG (g : Nat) (eg : ∀ args w, (callFunc g args).run Try.prog w = .ok (.enter g args) w) (cap : Array Value) (b : Int) (bw : Bool) (lo hi : Int) (J : Int → World → Prop) (w : World) (hE : impl_Word_ends.f b bw = some (lo, hi)) (hlo : -9223372036854775808 ≤ lo ∧ lo ≤ hi + 1) (hhi : hi < 9223372036854775807) (hJ0 : ∀ W, Below w.heap.size w W → J lo W) (hd : ∀ y W n, J y W → J y (W.drewN n))
  (hs : ∀ y W, lo ≤ y → y ≤ hi → J y W → Calls Try.prog g (#[.int .i64 y] ++ cap) W fun e W' => e = .returned (.tuple #[]) ∧ J (y + 1) W') :
  Calls Try.prog 117 #[.agg #[.int .i64 b, .bool bw], .func (.func g) #[] cap] w fun e w' => e = .returned (.tuple #[]) ∧ J (hi + 1) w' := by
 have HE := Aside0.mk hE
 have HJ0 := Aside0.mk hJ0
 have HS := Aside0.mk hs
 have HD := Aside0.mk hd
 have HL := Aside0.mk hlo
 have HH := Aside0.mk hhi
 have HB := Aside0.mk (Below.refl w.heap.size w)
 clear hE hJ0 hs hd hlo hhi
 have cb0 : (w.alloc (Obj.cells #[.int .i64 b, .bool bw] 29)).cell? ⟨w.heap.size, 0, none⟩ = some (.int .i64 b) := (blk_cell (blk_new w _) 0).trans rfl
 have cb1 : (w.alloc (Obj.cells #[.int .i64 b, .bool bw] 29)).cell? ⟨w.heap.size, 1, none⟩ = some (.bool bw) := (blk_cell (blk_new w _) 1).trans rfl
 go_enter Try.func117, Try.ntmps117
 go_wp2_with (first
  | (go_at_call 95; ((with_reducible refine (impl_Word_ends.calls b bw lo hi _ HE.out).mono ?_); rintro e w5 ⟨rfl, hb⟩; have m1_ := Aside0.mk (below_step (by repeat (first | exact HB.out | apply below_alloc | apply pw_below_drewN | apply below_drew1)) hb); clear HB hb cb0 cb1; have HB := m1_; clear m1_)))
 go_loopg [6] (hi + 1 - lo).toNat (fun kq v6 w' => ∃ (y : Int), v6 = .int .i64 y ∧ Aside0 (lo ≤ y ∧ y ≤ hi + 1 ∧ hi + 1 - y ≤ (kq : Int)) ∧ Aside0 (J y w'))
 case atStart => exact ⟨lo, rfl, ⟨by have := HL.out; omega⟩, ⟨HJ0.out _ (by repeat (first | exact HB.out | apply below_alloc | apply pw_below_drewN | apply below_drew1))⟩⟩
 case round =>
  clear HB
  obtain ⟨y, rfl, HY, HJ⟩ := hrel
  by_cases c3 : y ≤ hi
  ·have c3b0 : decide (y ≤ hi) = true := decide_eq_true c3
   have hw1 : wrap64 (y + 1) = y + 1 := by
    have := HY.out; have := HH.out; have := HL.out
    unfold wrap64
    omega
   have c3 := Aside0.mk c3
   go_wp2_with (first | ((with_reducible refine (HS.out y _ HY.out.1 c3.out (by first | exact HJ.out | exact HD.out _ _ _ HJ.out)).mono ?_); rintro e w5 ⟨rfl, hj⟩; clear HJ; have HJ := Aside0.mk hj; clear hj))
   cases gk with
   | zero => exact absurd HY.out (by have := c3.out; omega)
   | succ k1 =>
    go_roundg k1
    case measure => omega
    case rel => exact ⟨y + 1, by first | rfl | (simp; done) | (simp [*]; done), ⟨by have := HY.out; have := c3.out; omega⟩, ⟨by first | exact HJ.out | exact HD.out _ _ _ HJ.out⟩⟩
  ·have c3b0 : decide (y ≤ hi) = false := decide_eq_false c3
   have e : y = hi + 1 := by have := HY.out; omega
   subst e
   go_wp2
   go_end0
   exact ⟨rfl, by first | exact HJ.out | exact HD.out _ _ _ HJ.out⟩

/-! ### impl_Second_pairs: function 75 -/
/-- The boxes of what walks the pairs (a filter, a function, a number) stay. -/
def pr.Kept (W W' : World) : Prop := ∀ (k : Nat) (cs : Array Value) (t : TypeId), (t = 40 ∨ t = 91 ∨ t = 3) → W.heap[k]? = some (.cells cs t (0, 0)) → W'.heap[k]? = some (.cells cs t (0, 0))
theorem pr.Kept.below {W W' : World} (h : Below W.heap.size W W') : pr.Kept W W' := fun k cs t _ hk => blk_below hk h
theorem pr.Kept.trans {W W1 W2 : World} (h : pr.Kept W W1) (h' : pr.Kept W1 W2) : pr.Kept W W2 := fun k cs t ht hk => h' k cs t ht (h k cs t ht hk)
set_option maxHeartbeats 4000000 in
set_option maxRecDepth 100000 in
theorem pr.zz (g : Nat) (eg : ∀ args w, (callFunc g args).run Try.prog w = .ok (.enter g args) w) (cap : Array Value) (y z : Int) (bh b_y : Nat) (P : World → Prop) (W : World) (hbh : W.heap[bh]? = some (.cells #[.func (.func g) #[] cap] 91 (0, 0))) (hby : W.heap[b_y]? = some (.cells #[.int .i64 y] 3 (0, 0))) (hd : ∀ W n, P W → P (W.drewN n))
  (hc : Calls Try.prog g (#[.agg #[.int .i64 y, .int .i64 z]] ++ cap) W fun e W' => e = .returned (.tuple #[]) ∧ P W') :
  Calls Try.prog 124 #[.int .i64 z, .pointer (some ⟨bh, 0, none⟩), .pointer (some ⟨b_y, 0, none⟩)] W fun e W' => e = .returned (.tuple #[]) ∧ P W' := by
 have HC := Aside0.mk hc
 have HD := Aside0.mk hd
 have ch : W.cell? ⟨bh, 0, none⟩ = some (.func (.func g) #[] cap) := (blk_cell hbh 0).trans rfl
 have cy : W.cell? ⟨b_y, 0, none⟩ = some (.int .i64 y) := (blk_cell hby 0).trans rfl
 clear hc hbh hby hd
 go_enter Try.func124, Try.ntmps124
 go_wp2_with (first | ((with_reducible refine HC.out.mono ?_); rintro e w5 ⟨rfl, hj⟩; clear ch cy; have HJ := Aside0.mk hj; clear hj))
 go_end0
 exact ⟨rfl, by first | exact HJ.out | exact HD.out _ _ HJ.out⟩
structure pr.B (a a2 s m b : Int) (bw : Bool) (bf bh g : Nat) (cap : Array Value) (W : World) : Prop where
 f : W.heap[bf]? = some (.cells #[.int .i64 a, .int .i64 a2, .int .i64 s, .int .i64 m, .int .i64 b, .bool bw] 40 (0, 0))
 h : W.heap[bh]? = some (.cells #[.func (.func g) #[] cap] 91 (0, 0))
theorem pr.B.kept {a a2 s m b : Int} {bw : Bool} {bf bh g : Nat} {cap : Array Value} {W W' : World} (h : pr.B a a2 s m b bw bf bh g cap W) (hk : pr.Kept W W') : pr.B a a2 s m b bw bf bh g cap W' := ⟨hk _ _ _ (.inl rfl) h.f, hk _ _ _ (.inr (.inl rfl)) h.h⟩
structure pr.J2 (J : Int → Int → World → Prop) (a a2 s m b : Int) (bw : Bool) (bf bh g : Nat) (cap : Array Value) (y : Int) (b_y : Nat) (z : Int) (W : World) : Prop where
 j : J y z W
 b_ : pr.B a a2 s m b bw bf bh g cap W
 y_ : W.heap[b_y]? = some (.cells #[.int .i64 y] 3 (0, 0))
set_option maxHeartbeats 4000000 in
set_option maxRecDepth 100000 in
theorem pr.yy (g : Nat) (eg : ∀ args w, (callFunc g args).run Try.prog w = .ok (.enter g args) w) (cap : Array Value) (a a2 s m b : Int) (bw : Bool) (lo hi : Int) (J : Int → Int → World → Prop) (bf bh : Nat) (y : Int) (W : World) (hE : impl_Word_ends.f b bw = some (lo, hi)) (hlo : -9223372036854775808 ≤ lo ∧ lo ≤ hi + 1) (hhi : hi < 9223372036854775807) (hb : ∀ z W W', Below W.heap.size W W' → J y z W → J y z W')
  (hs : ∀ z W, lo ≤ z → z ≤ hi → J y z W → Calls Try.prog g (#[.agg #[.int .i64 y, .int .i64 z]] ++ cap) W fun e W' => e = .returned (.tuple #[]) ∧ J y (z + 1) W' ∧ pr.Kept W W') (hB : pr.B a a2 s m b bw bf bh g cap W) (hJ : J y lo W) :
  Calls Try.prog 123 #[.int .i64 y, .pointer (some ⟨bf, 0, none⟩), .pointer (some ⟨bh, 0, none⟩)] W fun e W' => e = .returned (.tuple #[]) ∧ J y (hi + 1) W' ∧ pr.B a a2 s m b bw bf bh g cap W' := by
 have HE := Aside0.mk hE
 have HL := Aside0.mk hlo
 have HH := Aside0.mk hhi
 have HBE := Aside0.mk hb
 have HS := Aside0.mk hs
 have HBB := Aside0.mk hB
 have HJ := Aside0.mk hJ
 have EG1 := Aside0.mk eg
 have EG := Aside0.mk (show ∀ (args : Array Value) (W : World), (callFunc 124 args).run Try.prog W = .ok (.enter 124 args) W from enters_of Try.func124 (by kernel_rfl) rfl)
 clear hE hlo hhi hb hs hB hJ eg
 go_enter Try.func123, Try.ntmps123
 go_wp2_with (first
  | ((with_reducible refine gate_dst (N := 3) rfl ?_); refine box_event ?hg (N := 3) ?hd (cs := #[.int .i64 y]) (t := 3) ?hr ?_; (case hd => rfl); (case hg => rfl); (case hr => first | (go_simp; done) | (go_simp; rfl)); intro b_y hgy w1 hby hb; have HJ1 := Aside0.mk (pr.J2.mk (HBE.out _ _ _ hb HJ.out) (HBB.out.kept (pr.Kept.below hb)) hby : pr.J2 J a a2 s m b bw bf bh g cap y b_y lo w1); clear HJ HBB hb hby hgy; have c4 : w1.cell? ⟨bf, 4, none⟩ = some (.int .i64 b) := (blk_cell HJ1.out.b_.f 4).trans rfl; have c5 : w1.cell? ⟨bf, 5, none⟩ = some (.bool bw) := (blk_cell HJ1.out.b_.f 5).trans rfl)
  | (go_at_call 117; ((with_reducible refine (impl_Word_all.callsG 124 EG.out _ b bw lo hi (pr.J2 J a a2 s m b bw bf bh g cap y b_y) _ HE.out ?s1 ?s2 ?s3 ?s4 ?s5).mono ?_); (case s1 => exact HL.out); (case s2 => exact HH.out); (case s3 => exact fun W hb_ => ⟨HBE.out _ _ _ hb_ HJ1.out.j, HJ1.out.b_.kept (pr.Kept.below hb_), blk_below HJ1.out.y_ hb_⟩); (case s4 => exact fun z W n hj_ => ⟨HBE.out _ _ _ (pw_below_drewN (Below.refl _ _) n) hj_.j, hj_.b_.kept (pr.Kept.below (pw_below_drewN (Below.refl _ _) n)), blk_below hj_.y_ (pw_below_drewN (Below.refl _ _) n)⟩); (case s5 => exact fun z W h1_ h2_ hj_ => pr.zz g EG1.out cap y z bh b_y (pr.J2 J a a2 s m b bw bf bh g cap y b_y (z + 1)) W hj_.b_.h hj_.y_ (fun W n hj_ => ⟨HBE.out _ _ _ (pw_below_drewN (Below.refl _ _) n) hj_.j, hj_.b_.kept (pr.Kept.below (pw_below_drewN (Below.refl _ _) n)), blk_below hj_.y_ (pw_below_drewN (Below.refl _ _) n)⟩) ((HS.out z W h1_ h2_ hj_.j).mono (fun e W' he => ⟨he.1, he.2.1, hj_.b_.kept he.2.2, he.2.2 _ _ _ (.inr (.inr rfl)) hj_.y_⟩))); rintro e w5 ⟨rfl, hj⟩; clear c4 c5 HJ1; have HJ2 := Aside0.mk hj; clear hj)))
 go_end0
 exact ⟨rfl, HJ2.out.j, HJ2.out.b_⟩
structure pr.J1 (J : Int → Int → World → Prop) (lo a a2 s m b : Int) (bw : Bool) (bf bh g : Nat) (cap : Array Value) (y : Int) (W : World) : Prop where
 j : J y lo W
 b_ : pr.B a a2 s m b bw bf bh g cap W
set_option maxHeartbeats 4000000 in
set_option maxRecDepth 100000 in
theorem impl_Second_pairs.callsG (g : Nat) (eg : ∀ args w, (callFunc g args).run Try.prog w = .ok (.enter g args) w) (cap : Array Value) (a a2 s m b : Int) (bw : Bool) (lo hi : Int) (J : Int → Int → World → Prop) (W : World) (hE : impl_Word_ends.f b bw = some (lo, hi)) (hlo : -9223372036854775808 ≤ lo ∧ lo ≤ hi + 1) (hhi : hi < 9223372036854775807) (hb : ∀ y z W W', Below W.heap.size W W' → J y z W → J y z W') (hrow : ∀ y W, lo ≤ y → y ≤ hi → J y (hi + 1) W → J (y + 1) lo W)
  (hs : ∀ y z W, lo ≤ y → y ≤ hi → lo ≤ z → z ≤ hi → J y z W → Calls Try.prog g (#[.agg #[.int .i64 y, .int .i64 z]] ++ cap) W fun e W' => e = .returned (.tuple #[]) ∧ J y (z + 1) W' ∧ pr.Kept W W') (hJ : J lo lo W) :
  Calls Try.prog 75 #[.agg #[.int .i64 a, .int .i64 a2, .int .i64 s, .int .i64 m, .int .i64 b, .bool bw], .func (.func g) #[] cap] W fun e W' => e = .returned (.tuple #[]) ∧ J (hi + 1) lo W' := by
 have HE := Aside0.mk hE
 have HL := Aside0.mk hlo
 have HH := Aside0.mk hhi
 have HBE := Aside0.mk hb
 have HS := Aside0.mk hs
 have HRW := Aside0.mk hrow
 have HJ := Aside0.mk hJ
 have EG1 := Aside0.mk eg
 have EG := Aside0.mk (show ∀ (args : Array Value) (W : World), (callFunc 123 args).run Try.prog W = .ok (.enter 123 args) W from enters_of Try.func123 (by kernel_rfl) rfl)
 clear hE hlo hhi hb hs hrow hJ eg
 go_enter Try.func75, Try.ntmps75
 go_wp2_with (first
  | ((with_reducible refine gate_dst (N := 2) rfl ?_); refine box_event ?hg (N := 2) ?hd (cs := #[.int .i64 a, .int .i64 a2, .int .i64 s, .int .i64 m, .int .i64 b, .bool bw]) (t := 40) ?hr ?_; (case hd => rfl); (case hg => rfl); (case hr => first | (go_simp; done) | (go_simp; rfl)); intro bf hgf w1 hbf hb; have HJ1 := Aside0.mk (HBE.out _ _ _ _ hb HJ.out); have HF := Aside0.mk hbf; clear HJ hb hbf hgf)
  | ((with_reducible refine gate_dst (N := 3) rfl ?_); refine box_event ?hg (N := 3) ?hd (cs := #[.func (.func g) #[] cap]) (t := 91) ?hr ?_; (case hd => rfl); (case hg => rfl); (case hr => first | (go_simp; done) | (go_simp; rfl)); intro bh hgh w2 hbh hb; have HJ2 := Aside0.mk (pr.J1.mk (HBE.out _ _ _ _ hb HJ1.out) ⟨blk_below HF.out hb, hbh⟩ : pr.J1 J lo a a2 s m b bw bf bh g cap lo w2); clear HJ1 HF hb hbh hgh; have c4 : w2.cell? ⟨bf, 4, none⟩ = some (.int .i64 b) := (blk_cell HJ2.out.b_.f 4).trans rfl; have c5 : w2.cell? ⟨bf, 5, none⟩ = some (.bool bw) := (blk_cell HJ2.out.b_.f 5).trans rfl)
  | (go_at_call 117; ((with_reducible refine (impl_Word_all.callsG 123 EG.out _ b bw lo hi (pr.J1 J lo a a2 s m b bw bf bh g cap) _ HE.out ?s1 ?s2 ?s3 ?s4 ?s5).mono ?_); (case s1 => exact HL.out); (case s2 => exact HH.out); (case s3 => exact fun W hb_ => ⟨HBE.out _ _ _ _ hb_ HJ2.out.j, HJ2.out.b_.kept (pr.Kept.below hb_)⟩); (case s4 => exact fun y W n hj_ => ⟨HBE.out _ _ _ _ (pw_below_drewN (Below.refl _ _) n) hj_.j, hj_.b_.kept (pr.Kept.below (pw_below_drewN (Below.refl _ _) n))⟩); (case s5 => exact fun y W h1_ h2_ hj_ => (pr.yy g EG1.out cap a a2 s m b bw lo hi J bf bh y W HE.out HL.out HH.out (HBE.out y) (fun z W q1 q2 => HS.out y z W h1_ h2_ q1 q2) hj_.b_ hj_.j).mono (fun e W' he => ⟨he.1, HRW.out y _ h1_ h2_ he.2.1, he.2.2⟩)); rintro e w5 ⟨rfl, hj⟩; clear c4 c5 HJ2; have HJ3 := Aside0.mk hj.j; clear hj)))
 go_end0
 exact ⟨rfl, HJ3.out⟩

end Go.Proofs.Ytjknlfgphlopnaa.PFnExactCountLasting
