-- Written by this session's pp.py over the kit's print.
import Derived.Test.YtjknlfgphlopnaaPFnExactIsTurnablex0
import Derived.Test.YtjknlfgphlopnaaPFnExactIsTurnablex2
import Derived.Test.YtjknlfgphlopnaaPFnExactIsTurnablex7
namespace Go.Proofs.Ytjknlfgphlopnaa.PFnExactIsTurnable
open Go.RowKit Go.Proofs.YtjknlfgphlopnaaW.PrintWords Go.Proofs.YtjknlfgphlopnaaW.PrintLast Go.Proofs.YtjknlfgphlopnaaW.PrintMore
attribute [local go_sem] max2_int min2_int max_two min_two max_three min_three max_four min_four   -- for this text's walks alone
set_option linter.unusedVariables false
set_option linter.unusedSimpArgs false

/-! ### impl_isSecond: function 100 -/
def impl_isSecond.f (a0_0 : Int) (a0_1 : Int) (a0_2 : Int) (a0_3 : Int) (a0_4 : Int) (a0_5 : Bool) : Option (Bool) := (impl_isFactor.f a0_0).bind fun t273 => (if t273 = true then ((impl_isFactor.f a0_1).bind fun t274 => (if t274 = true then ((impl_isScale.f a0_2 a0_3).bind fun t275 => (if t275 = true then ((impl_isWord.f a0_4 a0_5).bind fun t276 => (some t276)) else (some false))) else (some false))) else (some false))
set_option maxHeartbeats 8000000 in
set_option maxRecDepth 100000 in
theorem impl_isSecond.calls (a0_0 : Int) (a0_1 : Int) (a0_2 : Int) (a0_3 : Int) (a0_4 : Int) (a0_5 : Bool) (r : Bool) (w : World) (h : impl_isSecond.f a0_0 a0_1 a0_2 a0_3 a0_4 a0_5 = some r) :
    Calls Try.prog 100 #[.agg #[.int .i64 a0_0, .int .i64 a0_1, .int .i64 a0_2, .int .i64 a0_3, .int .i64 a0_4, .bool a0_5]] w fun e w' => e = .returned (.bool r) ∧ Below w.heap.size w w' := by
  have hu40 := Try.underlying40
  have hu29 := Try.underlying29
  have HB := Aside0.mk (Below.refl w.heap.size w)
  have H : ((impl_isFactor.f a0_0).bind fun t273 => (if t273 = true then ((impl_isFactor.f a0_1).bind fun t274 => (if t274 = true then ((impl_isScale.f a0_2 a0_3).bind fun t275 => (if t275 = true then ((impl_isWord.f a0_4 a0_5).bind fun t276 => (some t276)) else (some false))) else (some false))) else (some false))) = some r := h
  clear h
  replace H := Option.bind_eq_some_iff.mp H
  obtain ⟨t273, A20, H⟩ := H
  replace H : (if t273 = true then ((impl_isFactor.f a0_1).bind fun t274 => (if t274 = true then ((impl_isScale.f a0_2 a0_3).bind fun t275 => (if t275 = true then ((impl_isWord.f a0_4 a0_5).bind fun t276 => (some t276)) else (some false))) else (some false))) else (some false)) = some r := H
  have A2 := Aside0.mk A20
  clear A20
  by_cases c3 : t273 = true
  · subst c3
    have H1 : ((impl_isFactor.f a0_1).bind fun t274 => (if t274 = true then ((impl_isScale.f a0_2 a0_3).bind fun t275 => (if t275 = true then ((impl_isWord.f a0_4 a0_5).bind fun t276 => (some t276)) else (some false))) else (some false))) = some r := by rw [if_pos rfl] at H; exact H
    clear H
    have H := H1
    clear H1
    replace H := Option.bind_eq_some_iff.mp H
    obtain ⟨t274, A40, H⟩ := H
    replace H : (if t274 = true then ((impl_isScale.f a0_2 a0_3).bind fun t275 => (if t275 = true then ((impl_isWord.f a0_4 a0_5).bind fun t276 => (some t276)) else (some false))) else (some false)) = some r := H
    have A4 := Aside0.mk A40
    clear A40
    by_cases c5 : t274 = true
    · subst c5
      have H1 : ((impl_isScale.f a0_2 a0_3).bind fun t275 => (if t275 = true then ((impl_isWord.f a0_4 a0_5).bind fun t276 => (some t276)) else (some false))) = some r := by rw [if_pos rfl] at H; exact H
      clear H
      have H := H1
      clear H1
      replace H := Option.bind_eq_some_iff.mp H
      obtain ⟨t275, A60, H⟩ := H
      replace H : (if t275 = true then ((impl_isWord.f a0_4 a0_5).bind fun t276 => (some t276)) else (some false)) = some r := H
      have A6 := Aside0.mk A60
      clear A60
      by_cases c7 : t275 = true
      · subst c7
        have H1 : ((impl_isWord.f a0_4 a0_5).bind fun t276 => (some t276)) = some r := by rw [if_pos rfl] at H; exact H
        clear H
        have H := H1
        clear H1
        replace H := Option.bind_eq_some_iff.mp H
        obtain ⟨t276, A80, H⟩ := H
        replace H : (some t276) = some r := H
        have A8 := Aside0.mk A80
        clear A80
        obtain rfl := Option.some.inj H
        go_enter Try.func100, Try.ntmps100
        go_wp2_with (first | ((with_reducible refine gate_dst (N := 1) rfl ?_); refine box_event ?hg (N := 1) ?hd (cs := #[.int .i64 a0_0, .int .i64 a0_1, .int .i64 a0_2, .int .i64 a0_3, .int .i64 a0_4, .bool a0_5]) (t := 40) ?hr ?_; (case hd => rfl); (case hg => rfl); (case hr => first | (go_simp; done) | (go_simp; rfl)); intro gb272 hg w9 hbox hb; have n0_ := Aside0.mk (below_step (by repeat (first | (with_reducible first | exact HB.out | apply below_alloc | apply pw_below_drewN | apply below_drew1) | exact HB.out)) hb); have n1_ := Aside0.mk (hbox); have n2_ := Aside0.mk ((by rw [hg]; exact (below_size (by repeat (first | (with_reducible first | exact HB.out | apply below_alloc | apply pw_below_drewN | apply below_drew1) | exact HB.out))) : w.heap.size ≤ gb272)); have n3_ := Aside0.mk ((by rw [hg]; exact (below_size (by repeat (first | (with_reducible first | exact HB.out | apply below_alloc | apply pw_below_drewN | apply below_drew1) | exact HB.out))) : w.heap.size ≤ gb272)); clear HB; have HB := n0_; have BK272 := n1_; have GW272 := n2_; have GE272 := n3_; clear n0_ n1_ n2_ n3_; clear hb hbox hg; have hcz10_0 : w9.cell? ⟨gb272, 0, none⟩ = some (.int .i64 a0_0) := (blk_cell BK272.out 0).trans rfl; have hcz10_1 : w9.cell? ⟨gb272, 1, none⟩ = some (.int .i64 a0_1) := (blk_cell BK272.out 1).trans rfl; have hcz10_2 : w9.cell? ⟨gb272, 2, none⟩ = some (.int .i64 a0_2) := (blk_cell BK272.out 2).trans rfl; have hcz10_3 : w9.cell? ⟨gb272, 3, none⟩ = some (.int .i64 a0_3) := (blk_cell BK272.out 3).trans rfl; have hcz10_4 : w9.cell? ⟨gb272, 4, none⟩ = some (.int .i64 a0_4) := (blk_cell BK272.out 4).trans rfl; have hcz10_5 : w9.cell? ⟨gb272, 5, none⟩ = some (.bool a0_5) := (blk_cell BK272.out 5).trans rfl; have hfz10_0 := blk_frozen BK272.out 0; have hfz10_1 := blk_frozen BK272.out 1; have hfz10_2 := blk_frozen BK272.out 2; have hfz10_3 := blk_frozen BK272.out 3; have hfz10_4 := blk_frozen BK272.out 4; have hfz10_5 := blk_frozen BK272.out 5) | ((with_reducible refine gate_callee (f := 133) rfl ?_); refine goesL_ (some 5) rfl rfl Try.func133 (by kernel_rfl) rfl #[.int .i64 a0_0] rfl (by (try simp only [List.map_toArray, List.map_cons, List.map_nil]); first | done | rfl | (simp only [List.length_drop, List.length_take]; rfl)) ?_; (with_reducible refine (impl_isFactor.calls a0_0 true _ A2.out).mono ?_); rintro e w' ⟨rfl, ⟨nd, rfl⟩⟩; refine ⟨_, rfl, ?_⟩) | (go_at_call 133; (with_reducible refine (impl_isFactor.calls a0_1 true _ A4.out).mono ?_); rintro e w' ⟨rfl, ⟨nd, rfl⟩⟩) | (go_at_call 134; (with_reducible refine (impl_isScale.calls a0_2 a0_3 true _ A6.out).mono ?_); rintro e w' ⟨rfl, ⟨nd, rfl⟩⟩) | (go_at_call 135; (with_reducible refine (impl_isWord.calls a0_4 a0_5 t276 _ A8.out).mono ?_); rintro e w11 ⟨rfl, hb⟩; have n0_ := Aside0.mk (blk_below (g := gb272) (o := .cells #[.int .i64 a0_0, .int .i64 a0_1, .int .i64 a0_2, .int .i64 a0_3, .int .i64 a0_4, .bool a0_5] 40 (0, 0)) (by (with_reducible repeat (first | refine blk_drewN ?_ _ | refine blk_drew ?_ | refine blk_alloc ?_ _)); exact BK272.out) hb); have n1_ := Aside0.mk (below_step (by repeat (first | (with_reducible first | exact HB.out | apply below_alloc | apply pw_below_drewN | apply below_drew1 | refine below_set ?_ GE272.out) | exact HB.out)) hb); clear BK272; clear HB; have BK272 := n0_; have HB := n1_; clear n0_ n1_; (try clear hb); (try clear hb2); (try clear hk); (try clear hi)))
        go_ret
        exact ⟨by first | rfl | (simp [errW_none, errW_some] <;> rfl) | (simp [*, errW_none, errW_some] <;> rfl), by repeat (first | (with_reducible first | exact HB.out | apply below_alloc | apply pw_below_drewN | apply below_drew1 | refine below_set ?_ GE272.out) | exact HB.out)⟩
      · replace c7 := Bool.eq_false_iff.mpr c7
        subst c7
        have H1 : (some false) = some r := by rw [if_neg (show ¬ (false = true) by decide)] at H; exact H
        clear H
        have H := H1
        clear H1
        obtain rfl := Option.some.inj H
        go_enter Try.func100, Try.ntmps100
        go_wp2_with (first | ((with_reducible refine gate_dst (N := 1) rfl ?_); refine box_event ?hg (N := 1) ?hd (cs := #[.int .i64 a0_0, .int .i64 a0_1, .int .i64 a0_2, .int .i64 a0_3, .int .i64 a0_4, .bool a0_5]) (t := 40) ?hr ?_; (case hd => rfl); (case hg => rfl); (case hr => first | (go_simp; done) | (go_simp; rfl)); intro gb272 hg w12 hbox hb; have n0_ := Aside0.mk (below_step (by repeat (first | (with_reducible first | exact HB.out | apply below_alloc | apply pw_below_drewN | apply below_drew1) | exact HB.out)) hb); have n1_ := Aside0.mk (hbox); have n2_ := Aside0.mk ((by rw [hg]; exact (below_size (by repeat (first | (with_reducible first | exact HB.out | apply below_alloc | apply pw_below_drewN | apply below_drew1) | exact HB.out))) : w.heap.size ≤ gb272)); have n3_ := Aside0.mk ((by rw [hg]; exact (below_size (by repeat (first | (with_reducible first | exact HB.out | apply below_alloc | apply pw_below_drewN | apply below_drew1) | exact HB.out))) : w.heap.size ≤ gb272)); clear HB; have HB := n0_; have BK272 := n1_; have GW272 := n2_; have GE272 := n3_; clear n0_ n1_ n2_ n3_; clear hb hbox hg; have hcz13_0 : w12.cell? ⟨gb272, 0, none⟩ = some (.int .i64 a0_0) := (blk_cell BK272.out 0).trans rfl; have hcz13_1 : w12.cell? ⟨gb272, 1, none⟩ = some (.int .i64 a0_1) := (blk_cell BK272.out 1).trans rfl; have hcz13_2 : w12.cell? ⟨gb272, 2, none⟩ = some (.int .i64 a0_2) := (blk_cell BK272.out 2).trans rfl; have hcz13_3 : w12.cell? ⟨gb272, 3, none⟩ = some (.int .i64 a0_3) := (blk_cell BK272.out 3).trans rfl; have hcz13_4 : w12.cell? ⟨gb272, 4, none⟩ = some (.int .i64 a0_4) := (blk_cell BK272.out 4).trans rfl; have hcz13_5 : w12.cell? ⟨gb272, 5, none⟩ = some (.bool a0_5) := (blk_cell BK272.out 5).trans rfl; have hfz13_0 := blk_frozen BK272.out 0; have hfz13_1 := blk_frozen BK272.out 1; have hfz13_2 := blk_frozen BK272.out 2; have hfz13_3 := blk_frozen BK272.out 3; have hfz13_4 := blk_frozen BK272.out 4; have hfz13_5 := blk_frozen BK272.out 5) | ((with_reducible refine gate_callee (f := 133) rfl ?_); refine goesL_ (some 5) rfl rfl Try.func133 (by kernel_rfl) rfl #[.int .i64 a0_0] rfl (by (try simp only [List.map_toArray, List.map_cons, List.map_nil]); first | done | rfl | (simp only [List.length_drop, List.length_take]; rfl)) ?_; (with_reducible refine (impl_isFactor.calls a0_0 true _ A2.out).mono ?_); rintro e w' ⟨rfl, ⟨nd, rfl⟩⟩; refine ⟨_, rfl, ?_⟩) | (go_at_call 133; (with_reducible refine (impl_isFactor.calls a0_1 true _ A4.out).mono ?_); rintro e w' ⟨rfl, ⟨nd, rfl⟩⟩) | (go_at_call 134; (with_reducible refine (impl_isScale.calls a0_2 a0_3 false _ A6.out).mono ?_); rintro e w' ⟨rfl, ⟨nd, rfl⟩⟩))
        go_ret
        exact ⟨by first | rfl | (simp [errW_none, errW_some] <;> rfl) | (simp [*, errW_none, errW_some] <;> rfl), by repeat (first | (with_reducible first | exact HB.out | apply below_alloc | apply pw_below_drewN | apply below_drew1 | refine below_set ?_ GE272.out) | exact HB.out)⟩
    · replace c5 := Bool.eq_false_iff.mpr c5
      subst c5
      have H1 : (some false) = some r := by rw [if_neg (show ¬ (false = true) by decide)] at H; exact H
      clear H
      have H := H1
      clear H1
      obtain rfl := Option.some.inj H
      go_enter Try.func100, Try.ntmps100
      go_wp2_with (first | ((with_reducible refine gate_dst (N := 1) rfl ?_); refine box_event ?hg (N := 1) ?hd (cs := #[.int .i64 a0_0, .int .i64 a0_1, .int .i64 a0_2, .int .i64 a0_3, .int .i64 a0_4, .bool a0_5]) (t := 40) ?hr ?_; (case hd => rfl); (case hg => rfl); (case hr => first | (go_simp; done) | (go_simp; rfl)); intro gb272 hg w14 hbox hb; have n0_ := Aside0.mk (below_step (by repeat (first | (with_reducible first | exact HB.out | apply below_alloc | apply pw_below_drewN | apply below_drew1) | exact HB.out)) hb); have n1_ := Aside0.mk (hbox); have n2_ := Aside0.mk ((by rw [hg]; exact (below_size (by repeat (first | (with_reducible first | exact HB.out | apply below_alloc | apply pw_below_drewN | apply below_drew1) | exact HB.out))) : w.heap.size ≤ gb272)); have n3_ := Aside0.mk ((by rw [hg]; exact (below_size (by repeat (first | (with_reducible first | exact HB.out | apply below_alloc | apply pw_below_drewN | apply below_drew1) | exact HB.out))) : w.heap.size ≤ gb272)); clear HB; have HB := n0_; have BK272 := n1_; have GW272 := n2_; have GE272 := n3_; clear n0_ n1_ n2_ n3_; clear hb hbox hg; have hcz15_0 : w14.cell? ⟨gb272, 0, none⟩ = some (.int .i64 a0_0) := (blk_cell BK272.out 0).trans rfl; have hcz15_1 : w14.cell? ⟨gb272, 1, none⟩ = some (.int .i64 a0_1) := (blk_cell BK272.out 1).trans rfl; have hcz15_2 : w14.cell? ⟨gb272, 2, none⟩ = some (.int .i64 a0_2) := (blk_cell BK272.out 2).trans rfl; have hcz15_3 : w14.cell? ⟨gb272, 3, none⟩ = some (.int .i64 a0_3) := (blk_cell BK272.out 3).trans rfl; have hcz15_4 : w14.cell? ⟨gb272, 4, none⟩ = some (.int .i64 a0_4) := (blk_cell BK272.out 4).trans rfl; have hcz15_5 : w14.cell? ⟨gb272, 5, none⟩ = some (.bool a0_5) := (blk_cell BK272.out 5).trans rfl; have hfz15_0 := blk_frozen BK272.out 0; have hfz15_1 := blk_frozen BK272.out 1; have hfz15_2 := blk_frozen BK272.out 2; have hfz15_3 := blk_frozen BK272.out 3; have hfz15_4 := blk_frozen BK272.out 4; have hfz15_5 := blk_frozen BK272.out 5) | ((with_reducible refine gate_callee (f := 133) rfl ?_); refine goesL_ (some 5) rfl rfl Try.func133 (by kernel_rfl) rfl #[.int .i64 a0_0] rfl (by (try simp only [List.map_toArray, List.map_cons, List.map_nil]); first | done | rfl | (simp only [List.length_drop, List.length_take]; rfl)) ?_; (with_reducible refine (impl_isFactor.calls a0_0 true _ A2.out).mono ?_); rintro e w' ⟨rfl, ⟨nd, rfl⟩⟩; refine ⟨_, rfl, ?_⟩) | (go_at_call 133; (with_reducible refine (impl_isFactor.calls a0_1 false _ A4.out).mono ?_); rintro e w' ⟨rfl, ⟨nd, rfl⟩⟩))
      go_ret
      exact ⟨by first | rfl | (simp [errW_none, errW_some] <;> rfl) | (simp [*, errW_none, errW_some] <;> rfl), by repeat (first | (with_reducible first | exact HB.out | apply below_alloc | apply pw_below_drewN | apply below_drew1 | refine below_set ?_ GE272.out) | exact HB.out)⟩
  · replace c3 := Bool.eq_false_iff.mpr c3
    subst c3
    have H1 : (some false) = some r := by rw [if_neg (show ¬ (false = true) by decide)] at H; exact H
    clear H
    have H := H1
    clear H1
    obtain rfl := Option.some.inj H
    go_enter Try.func100, Try.ntmps100
    go_wp2_with (first | ((with_reducible refine gate_dst (N := 1) rfl ?_); refine box_event ?hg (N := 1) ?hd (cs := #[.int .i64 a0_0, .int .i64 a0_1, .int .i64 a0_2, .int .i64 a0_3, .int .i64 a0_4, .bool a0_5]) (t := 40) ?hr ?_; (case hd => rfl); (case hg => rfl); (case hr => first | (go_simp; done) | (go_simp; rfl)); intro gb272 hg w16 hbox hb; have n0_ := Aside0.mk (below_step (by repeat (first | (with_reducible first | exact HB.out | apply below_alloc | apply pw_below_drewN | apply below_drew1) | exact HB.out)) hb); have n1_ := Aside0.mk (hbox); have n2_ := Aside0.mk ((by rw [hg]; exact (below_size (by repeat (first | (with_reducible first | exact HB.out | apply below_alloc | apply pw_below_drewN | apply below_drew1) | exact HB.out))) : w.heap.size ≤ gb272)); have n3_ := Aside0.mk ((by rw [hg]; exact (below_size (by repeat (first | (with_reducible first | exact HB.out | apply below_alloc | apply pw_below_drewN | apply below_drew1) | exact HB.out))) : w.heap.size ≤ gb272)); clear HB; have HB := n0_; have BK272 := n1_; have GW272 := n2_; have GE272 := n3_; clear n0_ n1_ n2_ n3_; clear hb hbox hg; have hcz17_0 : w16.cell? ⟨gb272, 0, none⟩ = some (.int .i64 a0_0) := (blk_cell BK272.out 0).trans rfl; have hcz17_1 : w16.cell? ⟨gb272, 1, none⟩ = some (.int .i64 a0_1) := (blk_cell BK272.out 1).trans rfl; have hcz17_2 : w16.cell? ⟨gb272, 2, none⟩ = some (.int .i64 a0_2) := (blk_cell BK272.out 2).trans rfl; have hcz17_3 : w16.cell? ⟨gb272, 3, none⟩ = some (.int .i64 a0_3) := (blk_cell BK272.out 3).trans rfl; have hcz17_4 : w16.cell? ⟨gb272, 4, none⟩ = some (.int .i64 a0_4) := (blk_cell BK272.out 4).trans rfl; have hcz17_5 : w16.cell? ⟨gb272, 5, none⟩ = some (.bool a0_5) := (blk_cell BK272.out 5).trans rfl; have hfz17_0 := blk_frozen BK272.out 0; have hfz17_1 := blk_frozen BK272.out 1; have hfz17_2 := blk_frozen BK272.out 2; have hfz17_3 := blk_frozen BK272.out 3; have hfz17_4 := blk_frozen BK272.out 4; have hfz17_5 := blk_frozen BK272.out 5) | ((with_reducible refine gate_callee (f := 133) rfl ?_); refine goesL_ (some 5) rfl rfl Try.func133 (by kernel_rfl) rfl #[.int .i64 a0_0] rfl (by (try simp only [List.map_toArray, List.map_cons, List.map_nil]); first | done | rfl | (simp only [List.length_drop, List.length_take]; rfl)) ?_; (with_reducible refine (impl_isFactor.calls a0_0 false _ A2.out).mono ?_); rintro e w' ⟨rfl, ⟨nd, rfl⟩⟩; refine ⟨_, rfl, ?_⟩))
    go_ret
    exact ⟨by first | rfl | (simp [errW_none, errW_some] <;> rfl) | (simp [*, errW_none, errW_some] <;> rfl), by repeat (first | (with_reducible first | exact HB.out | apply below_alloc | apply pw_below_drewN | apply below_drew1 | refine below_set ?_ GE272.out) | exact HB.out)⟩

/-! ### impl_Second_isScanned: function 74 -/
def impl_Second_isScanned.f (a0_0 : Int) (a0_1 : Int) (a0_2 : Int) (a0_3 : Int) (a0_4 : Int) (a0_5 : Bool) (a1 : Int) : Option (Bool) := (impl_isSecond.f a0_0 a0_1 a0_2 a0_3 a0_4 a0_5).bind fun t278 => (if t278 = true then (if a0_4 ≤ 6 then ((impl_isSample.f a1).bind fun t279 => (some t279)) else (some false)) else (some false))
set_option maxHeartbeats 8000000 in
set_option maxRecDepth 100000 in
theorem impl_Second_isScanned.calls (a0_0 : Int) (a0_1 : Int) (a0_2 : Int) (a0_3 : Int) (a0_4 : Int) (a0_5 : Bool) (a1 : Int) (r : Bool) (w : World) (h : impl_Second_isScanned.f a0_0 a0_1 a0_2 a0_3 a0_4 a0_5 a1 = some r) :
    Calls Try.prog 74 #[.agg #[.int .i64 a0_0, .int .i64 a0_1, .int .i64 a0_2, .int .i64 a0_3, .int .i64 a0_4, .bool a0_5], .int .i64 a1] w fun e w' => e = .returned (.bool r) ∧ Below w.heap.size w w' := by
  have hu40 := Try.underlying40
  have HB := Aside0.mk (Below.refl w.heap.size w)
  have H : ((impl_isSecond.f a0_0 a0_1 a0_2 a0_3 a0_4 a0_5).bind fun t278 => (if t278 = true then (if a0_4 ≤ 6 then ((impl_isSample.f a1).bind fun t279 => (some t279)) else (some false)) else (some false))) = some r := h
  clear h
  replace H := Option.bind_eq_some_iff.mp H
  obtain ⟨t278, A30, H⟩ := H
  replace H : (if t278 = true then (if a0_4 ≤ 6 then ((impl_isSample.f a1).bind fun t279 => (some t279)) else (some false)) else (some false)) = some r := H
  have A3 := Aside0.mk A30
  clear A30
  by_cases c4 : t278 = true
  · subst c4
    have H1 : (if a0_4 ≤ 6 then ((impl_isSample.f a1).bind fun t279 => (some t279)) else (some false)) = some r := by rw [if_pos rfl] at H; exact H
    clear H
    have H := H1
    clear H1
    by_cases c5 : a0_4 ≤ 6
    · rw [if_pos c5] at H
      have c5b0 : decide (a0_4 ≤ 6) = true := decide_eq_true c5
      clear c5
      replace H := Option.bind_eq_some_iff.mp H
      obtain ⟨t279, A60, H⟩ := H
      replace H : (some t279) = some r := H
      have A6 := Aside0.mk A60
      clear A60
      obtain rfl := Option.some.inj H
      go_enter Try.func74, Try.ntmps74
      go_wp2_with (first | ((with_reducible refine gate_dst (N := 2) rfl ?_); refine box_event ?hg (N := 2) ?hd (cs := #[.int .i64 a0_0, .int .i64 a0_1, .int .i64 a0_2, .int .i64 a0_3, .int .i64 a0_4, .bool a0_5]) (t := 40) ?hr ?_; (case hd => rfl); (case hg => rfl); (case hr => first | (go_simp; done) | (go_simp; rfl)); intro gb277 hg w7 hbox hb; have n0_ := Aside0.mk (below_step (by repeat (first | (with_reducible first | exact HB.out | apply below_alloc | apply pw_below_drewN | apply below_drew1) | exact HB.out)) hb); have n1_ := Aside0.mk (hbox); have n2_ := Aside0.mk ((by rw [hg]; exact (below_size (by repeat (first | (with_reducible first | exact HB.out | apply below_alloc | apply pw_below_drewN | apply below_drew1) | exact HB.out))) : w.heap.size ≤ gb277)); have n3_ := Aside0.mk ((by rw [hg]; exact (below_size (by repeat (first | (with_reducible first | exact HB.out | apply below_alloc | apply pw_below_drewN | apply below_drew1) | exact HB.out))) : w.heap.size ≤ gb277)); clear HB; have HB := n0_; have BK277 := n1_; have GW277 := n2_; have GE277 := n3_; clear n0_ n1_ n2_ n3_; clear hb hbox hg; have hcz8_0 : w7.cell? ⟨gb277, 0, none⟩ = some (.int .i64 a0_0) := (blk_cell BK277.out 0).trans rfl; have hcz8_1 : w7.cell? ⟨gb277, 1, none⟩ = some (.int .i64 a0_1) := (blk_cell BK277.out 1).trans rfl; have hcz8_2 : w7.cell? ⟨gb277, 2, none⟩ = some (.int .i64 a0_2) := (blk_cell BK277.out 2).trans rfl; have hcz8_3 : w7.cell? ⟨gb277, 3, none⟩ = some (.int .i64 a0_3) := (blk_cell BK277.out 3).trans rfl; have hcz8_4 : w7.cell? ⟨gb277, 4, none⟩ = some (.int .i64 a0_4) := (blk_cell BK277.out 4).trans rfl; have hcz8_5 : w7.cell? ⟨gb277, 5, none⟩ = some (.bool a0_5) := (blk_cell BK277.out 5).trans rfl; have hfz8_0 := blk_frozen BK277.out 0; have hfz8_1 := blk_frozen BK277.out 1; have hfz8_2 := blk_frozen BK277.out 2; have hfz8_3 := blk_frozen BK277.out 3; have hfz8_4 := blk_frozen BK277.out 4; have hfz8_5 := blk_frozen BK277.out 5) | ((with_reducible refine gate_callee (f := 100) rfl ?_); refine goesL_ (some 6) rfl rfl Try.func100 (by kernel_rfl) rfl #[.agg #[.int .i64 a0_0, .int .i64 a0_1, .int .i64 a0_2, .int .i64 a0_3, .int .i64 a0_4, .bool a0_5]] rfl (by (try simp only [List.map_toArray, List.map_cons, List.map_nil]); first | done | rfl | (simp only [List.length_drop, List.length_take]; rfl)) ?_; (with_reducible refine (impl_isSecond.calls a0_0 a0_1 a0_2 a0_3 a0_4 a0_5 true _ A3.out).mono ?_); rintro e w9 ⟨rfl, hb⟩; refine ⟨_, rfl, ?_⟩; have n0_ := Aside0.mk (blk_below (g := gb277) (o := .cells #[.int .i64 a0_0, .int .i64 a0_1, .int .i64 a0_2, .int .i64 a0_3, .int .i64 a0_4, .bool a0_5] 40 (0, 0)) (by (with_reducible repeat (first | refine blk_drewN ?_ _ | refine blk_drew ?_ | refine blk_alloc ?_ _)); exact BK277.out) hb); have n1_ := Aside0.mk (below_step (by repeat (first | (with_reducible first | exact HB.out | apply below_alloc | apply pw_below_drewN | apply below_drew1 | refine below_set ?_ GE277.out) | exact HB.out)) hb); clear BK277; clear HB; have BK277 := n0_; have HB := n1_; clear n0_ n1_; (try clear hb); (try clear hb2); (try clear hk); (try clear hi); have hcz10_0 : w9.cell? ⟨gb277, 0, none⟩ = some (.int .i64 a0_0) := (blk_cell BK277.out 0).trans rfl; have hcz10_1 : w9.cell? ⟨gb277, 1, none⟩ = some (.int .i64 a0_1) := (blk_cell BK277.out 1).trans rfl; have hcz10_2 : w9.cell? ⟨gb277, 2, none⟩ = some (.int .i64 a0_2) := (blk_cell BK277.out 2).trans rfl; have hcz10_3 : w9.cell? ⟨gb277, 3, none⟩ = some (.int .i64 a0_3) := (blk_cell BK277.out 3).trans rfl; have hcz10_4 : w9.cell? ⟨gb277, 4, none⟩ = some (.int .i64 a0_4) := (blk_cell BK277.out 4).trans rfl; have hcz10_5 : w9.cell? ⟨gb277, 5, none⟩ = some (.bool a0_5) := (blk_cell BK277.out 5).trans rfl; have hfz10_0 := blk_frozen BK277.out 0; have hfz10_1 := blk_frozen BK277.out 1; have hfz10_2 := blk_frozen BK277.out 2; have hfz10_3 := blk_frozen BK277.out 3; have hfz10_4 := blk_frozen BK277.out 4; have hfz10_5 := blk_frozen BK277.out 5) | (go_at_call 79; (with_reducible refine (impl_isSample.calls a1 t279 _ A6.out).mono ?_); rintro e w' ⟨rfl, ⟨nd, rfl⟩⟩))
      go_ret
      exact ⟨by first | rfl | (simp [errW_none, errW_some] <;> rfl) | (simp [*, errW_none, errW_some] <;> rfl), by repeat (first | (with_reducible first | exact HB.out | apply below_alloc | apply pw_below_drewN | apply below_drew1 | refine below_set ?_ GE277.out) | exact HB.out)⟩
    · rw [if_neg c5] at H
      have c5b0 : decide (a0_4 ≤ 6) = false := decide_eq_false c5
      clear c5
      obtain rfl := Option.some.inj H
      go_enter Try.func74, Try.ntmps74
      go_wp2_with (first | ((with_reducible refine gate_dst (N := 2) rfl ?_); refine box_event ?hg (N := 2) ?hd (cs := #[.int .i64 a0_0, .int .i64 a0_1, .int .i64 a0_2, .int .i64 a0_3, .int .i64 a0_4, .bool a0_5]) (t := 40) ?hr ?_; (case hd => rfl); (case hg => rfl); (case hr => first | (go_simp; done) | (go_simp; rfl)); intro gb277 hg w11 hbox hb; have n0_ := Aside0.mk (below_step (by repeat (first | (with_reducible first | exact HB.out | apply below_alloc | apply pw_below_drewN | apply below_drew1) | exact HB.out)) hb); have n1_ := Aside0.mk (hbox); have n2_ := Aside0.mk ((by rw [hg]; exact (below_size (by repeat (first | (with_reducible first | exact HB.out | apply below_alloc | apply pw_below_drewN | apply below_drew1) | exact HB.out))) : w.heap.size ≤ gb277)); have n3_ := Aside0.mk ((by rw [hg]; exact (below_size (by repeat (first | (with_reducible first | exact HB.out | apply below_alloc | apply pw_below_drewN | apply below_drew1) | exact HB.out))) : w.heap.size ≤ gb277)); clear HB; have HB := n0_; have BK277 := n1_; have GW277 := n2_; have GE277 := n3_; clear n0_ n1_ n2_ n3_; clear hb hbox hg; have hcz12_0 : w11.cell? ⟨gb277, 0, none⟩ = some (.int .i64 a0_0) := (blk_cell BK277.out 0).trans rfl; have hcz12_1 : w11.cell? ⟨gb277, 1, none⟩ = some (.int .i64 a0_1) := (blk_cell BK277.out 1).trans rfl; have hcz12_2 : w11.cell? ⟨gb277, 2, none⟩ = some (.int .i64 a0_2) := (blk_cell BK277.out 2).trans rfl; have hcz12_3 : w11.cell? ⟨gb277, 3, none⟩ = some (.int .i64 a0_3) := (blk_cell BK277.out 3).trans rfl; have hcz12_4 : w11.cell? ⟨gb277, 4, none⟩ = some (.int .i64 a0_4) := (blk_cell BK277.out 4).trans rfl; have hcz12_5 : w11.cell? ⟨gb277, 5, none⟩ = some (.bool a0_5) := (blk_cell BK277.out 5).trans rfl; have hfz12_0 := blk_frozen BK277.out 0; have hfz12_1 := blk_frozen BK277.out 1; have hfz12_2 := blk_frozen BK277.out 2; have hfz12_3 := blk_frozen BK277.out 3; have hfz12_4 := blk_frozen BK277.out 4; have hfz12_5 := blk_frozen BK277.out 5) | ((with_reducible refine gate_callee (f := 100) rfl ?_); refine goesL_ (some 6) rfl rfl Try.func100 (by kernel_rfl) rfl #[.agg #[.int .i64 a0_0, .int .i64 a0_1, .int .i64 a0_2, .int .i64 a0_3, .int .i64 a0_4, .bool a0_5]] rfl (by (try simp only [List.map_toArray, List.map_cons, List.map_nil]); first | done | rfl | (simp only [List.length_drop, List.length_take]; rfl)) ?_; (with_reducible refine (impl_isSecond.calls a0_0 a0_1 a0_2 a0_3 a0_4 a0_5 true _ A3.out).mono ?_); rintro e w13 ⟨rfl, hb⟩; refine ⟨_, rfl, ?_⟩; have n0_ := Aside0.mk (blk_below (g := gb277) (o := .cells #[.int .i64 a0_0, .int .i64 a0_1, .int .i64 a0_2, .int .i64 a0_3, .int .i64 a0_4, .bool a0_5] 40 (0, 0)) (by (with_reducible repeat (first | refine blk_drewN ?_ _ | refine blk_drew ?_ | refine blk_alloc ?_ _)); exact BK277.out) hb); have n1_ := Aside0.mk (below_step (by repeat (first | (with_reducible first | exact HB.out | apply below_alloc | apply pw_below_drewN | apply below_drew1 | refine below_set ?_ GE277.out) | exact HB.out)) hb); clear BK277; clear HB; have BK277 := n0_; have HB := n1_; clear n0_ n1_; (try clear hb); (try clear hb2); (try clear hk); (try clear hi); have hcz14_0 : w13.cell? ⟨gb277, 0, none⟩ = some (.int .i64 a0_0) := (blk_cell BK277.out 0).trans rfl; have hcz14_1 : w13.cell? ⟨gb277, 1, none⟩ = some (.int .i64 a0_1) := (blk_cell BK277.out 1).trans rfl; have hcz14_2 : w13.cell? ⟨gb277, 2, none⟩ = some (.int .i64 a0_2) := (blk_cell BK277.out 2).trans rfl; have hcz14_3 : w13.cell? ⟨gb277, 3, none⟩ = some (.int .i64 a0_3) := (blk_cell BK277.out 3).trans rfl; have hcz14_4 : w13.cell? ⟨gb277, 4, none⟩ = some (.int .i64 a0_4) := (blk_cell BK277.out 4).trans rfl; have hcz14_5 : w13.cell? ⟨gb277, 5, none⟩ = some (.bool a0_5) := (blk_cell BK277.out 5).trans rfl; have hfz14_0 := blk_frozen BK277.out 0; have hfz14_1 := blk_frozen BK277.out 1; have hfz14_2 := blk_frozen BK277.out 2; have hfz14_3 := blk_frozen BK277.out 3; have hfz14_4 := blk_frozen BK277.out 4; have hfz14_5 := blk_frozen BK277.out 5))
      go_ret
      exact ⟨by first | rfl | (simp [errW_none, errW_some] <;> rfl) | (simp [*, errW_none, errW_some] <;> rfl), by repeat (first | (with_reducible first | exact HB.out | apply below_alloc | apply pw_below_drewN | apply below_drew1 | refine below_set ?_ GE277.out) | exact HB.out)⟩
  · replace c4 := Bool.eq_false_iff.mpr c4
    subst c4
    have H1 : (some false) = some r := by rw [if_neg (show ¬ (false = true) by decide)] at H; exact H
    clear H
    have H := H1
    clear H1
    obtain rfl := Option.some.inj H
    go_enter Try.func74, Try.ntmps74
    go_wp2_with (first | ((with_reducible refine gate_dst (N := 2) rfl ?_); refine box_event ?hg (N := 2) ?hd (cs := #[.int .i64 a0_0, .int .i64 a0_1, .int .i64 a0_2, .int .i64 a0_3, .int .i64 a0_4, .bool a0_5]) (t := 40) ?hr ?_; (case hd => rfl); (case hg => rfl); (case hr => first | (go_simp; done) | (go_simp; rfl)); intro gb277 hg w15 hbox hb; have n0_ := Aside0.mk (below_step (by repeat (first | (with_reducible first | exact HB.out | apply below_alloc | apply pw_below_drewN | apply below_drew1) | exact HB.out)) hb); have n1_ := Aside0.mk (hbox); have n2_ := Aside0.mk ((by rw [hg]; exact (below_size (by repeat (first | (with_reducible first | exact HB.out | apply below_alloc | apply pw_below_drewN | apply below_drew1) | exact HB.out))) : w.heap.size ≤ gb277)); have n3_ := Aside0.mk ((by rw [hg]; exact (below_size (by repeat (first | (with_reducible first | exact HB.out | apply below_alloc | apply pw_below_drewN | apply below_drew1) | exact HB.out))) : w.heap.size ≤ gb277)); clear HB; have HB := n0_; have BK277 := n1_; have GW277 := n2_; have GE277 := n3_; clear n0_ n1_ n2_ n3_; clear hb hbox hg; have hcz16_0 : w15.cell? ⟨gb277, 0, none⟩ = some (.int .i64 a0_0) := (blk_cell BK277.out 0).trans rfl; have hcz16_1 : w15.cell? ⟨gb277, 1, none⟩ = some (.int .i64 a0_1) := (blk_cell BK277.out 1).trans rfl; have hcz16_2 : w15.cell? ⟨gb277, 2, none⟩ = some (.int .i64 a0_2) := (blk_cell BK277.out 2).trans rfl; have hcz16_3 : w15.cell? ⟨gb277, 3, none⟩ = some (.int .i64 a0_3) := (blk_cell BK277.out 3).trans rfl; have hcz16_4 : w15.cell? ⟨gb277, 4, none⟩ = some (.int .i64 a0_4) := (blk_cell BK277.out 4).trans rfl; have hcz16_5 : w15.cell? ⟨gb277, 5, none⟩ = some (.bool a0_5) := (blk_cell BK277.out 5).trans rfl; have hfz16_0 := blk_frozen BK277.out 0; have hfz16_1 := blk_frozen BK277.out 1; have hfz16_2 := blk_frozen BK277.out 2; have hfz16_3 := blk_frozen BK277.out 3; have hfz16_4 := blk_frozen BK277.out 4; have hfz16_5 := blk_frozen BK277.out 5) | ((with_reducible refine gate_callee (f := 100) rfl ?_); refine goesL_ (some 6) rfl rfl Try.func100 (by kernel_rfl) rfl #[.agg #[.int .i64 a0_0, .int .i64 a0_1, .int .i64 a0_2, .int .i64 a0_3, .int .i64 a0_4, .bool a0_5]] rfl (by (try simp only [List.map_toArray, List.map_cons, List.map_nil]); first | done | rfl | (simp only [List.length_drop, List.length_take]; rfl)) ?_; (with_reducible refine (impl_isSecond.calls a0_0 a0_1 a0_2 a0_3 a0_4 a0_5 false _ A3.out).mono ?_); rintro e w17 ⟨rfl, hb⟩; refine ⟨_, rfl, ?_⟩; have n0_ := Aside0.mk (blk_below (g := gb277) (o := .cells #[.int .i64 a0_0, .int .i64 a0_1, .int .i64 a0_2, .int .i64 a0_3, .int .i64 a0_4, .bool a0_5] 40 (0, 0)) (by (with_reducible repeat (first | refine blk_drewN ?_ _ | refine blk_drew ?_ | refine blk_alloc ?_ _)); exact BK277.out) hb); have n1_ := Aside0.mk (below_step (by repeat (first | (with_reducible first | exact HB.out | apply below_alloc | apply pw_below_drewN | apply below_drew1 | refine below_set ?_ GE277.out) | exact HB.out)) hb); clear BK277; clear HB; have BK277 := n0_; have HB := n1_; clear n0_ n1_; (try clear hb); (try clear hb2); (try clear hk); (try clear hi)))
    go_ret
    exact ⟨by first | rfl | (simp [errW_none, errW_some] <;> rfl) | (simp [*, errW_none, errW_some] <;> rfl), by repeat (first | (with_reducible first | exact HB.out | apply below_alloc | apply pw_below_drewN | apply below_drew1 | refine below_set ?_ GE277.out) | exact HB.out)⟩

/-! ### impl_Word_all: function 117 -/
set_option maxHeartbeats 4000000 in
set_option maxRecDepth 100000 in
theorem impl_Word_all.callsG (g : Nat) (eg : ∀ args w, (callFunc g args).run Try.prog w = .ok (.enter g args) w) (cap : Array Value) (b : Int) (bw : Bool) (lo hi : Int) (J : Int → World → Prop) (w : World) (hE : impl_Word_ends.f b bw = some (lo, hi)) (hlo : -9223372036854775808 ≤ lo ∧ lo ≤ hi + 1) (hhi : hi < 9223372036854775807) (hJ0 : ∀ W, Below w.heap.size w W → J lo W) (hd : ∀ y W n, J y W → J y (W.drewN n))
    (hs : ∀ y W, lo ≤ y → y ≤ hi → J y W → Calls Try.prog g (#[.int .i64 y] ++ cap) W fun e W' => e = .returned (.tuple #[]) ∧ J (y + 1) W') :
    Calls Try.prog 117 #[.agg #[.int .i64 b, .bool bw], .func (.func g) #[] cap] w fun e w' => e = .returned (.tuple #[]) ∧ J (hi + 1) w' := by
  have HE := Aside0.mk hE
  have HJ0 := Aside0.mk hJ0
  have HS := Aside0.mk hs
  have HD := Aside0.mk hd
  have HL := Aside0.mk hlo
  have HH := Aside0.mk hhi
  have HB := Aside0.mk (Below.refl w.heap.size w)
  clear hE hJ0 hs hd hlo hhi
  have cb0 : (w.alloc (Obj.cells #[.int .i64 b, .bool bw] 29)).cell? ⟨w.heap.size, 0, none⟩ = some (.int .i64 b) := (blk_cell (blk_new w _) 0).trans rfl
  have cb1 : (w.alloc (Obj.cells #[.int .i64 b, .bool bw] 29)).cell? ⟨w.heap.size, 1, none⟩ = some (.bool bw) := (blk_cell (blk_new w _) 1).trans rfl
  go_enter Try.func117, Try.ntmps117
  go_wp2_with (first
    | (go_at_call 95; ((with_reducible refine (impl_Word_ends.calls b bw lo hi _ HE.out).mono ?_); rintro e w5 ⟨rfl, hb⟩; have m1_ := Aside0.mk (below_step (by repeat (first | (with_reducible first | exact HB.out | apply below_alloc | apply pw_below_drewN | apply below_drew1) | exact HB.out)) hb); clear HB hb cb0 cb1; have HB := m1_; clear m1_)))
  go_loopg [6] (hi + 1 - lo).toNat (fun kq v6 w' => ∃ (y : Int), v6 = .int .i64 y ∧ Aside0 (lo ≤ y ∧ y ≤ hi + 1 ∧ hi + 1 - y ≤ (kq : Int)) ∧ Aside0 (J y w'))
  case atStart => exact ⟨lo, rfl, ⟨by have := HL.out; omega⟩, ⟨HJ0.out _ (by repeat (first | (with_reducible first | exact HB.out | apply below_alloc | apply pw_below_drewN | apply below_drew1) | exact HB.out))⟩⟩
  case round =>
    clear HB
    obtain ⟨y, rfl, HY, HJ⟩ := hrel
    by_cases c3 : y ≤ hi
    · have c3b0 : decide (y ≤ hi) = true := decide_eq_true c3
      have hw1 : wrap64 (y + 1) = y + 1 := by
        have := HY.out; have := HH.out; have := HL.out
        unfold wrap64
        omega
      have c3 := Aside0.mk c3
      go_wp2_with (first | ((with_reducible refine (HS.out y _ HY.out.1 c3.out (by first | exact HJ.out | exact HD.out _ _ _ HJ.out)).mono ?_); rintro e w5 ⟨rfl, hj⟩; clear HJ; have HJ := Aside0.mk hj; clear hj))
      cases gk with
      | zero => exact absurd HY.out (by have := c3.out; omega)
      | succ k1 =>
        go_roundg k1
        case measure => omega
        case rel => exact ⟨y + 1, by first | rfl | (simp; done) | (simp [*]; done), ⟨by have := HY.out; have := c3.out; omega⟩, ⟨by first | exact HJ.out | exact HD.out _ _ _ HJ.out⟩⟩
    · have c3b0 : decide (y ≤ hi) = false := decide_eq_false c3
      have e : y = hi + 1 := by have := HY.out; omega
      subst e
      go_wp2
      go_end0
      exact ⟨rfl, by first | exact HJ.out | exact HD.out _ _ _ HJ.out⟩

/-! ### impl_Second_pairs: function 75 -/
/-- The boxes of what walks the pairs (a filter, a function, a number) stay. -/
def pr.Kept (W W' : World) : Prop := ∀ (k : Nat) (cs : Array Value) (t : TypeId), (t = 40 ∨ t = 91 ∨ t = 3) → W.heap[k]? = some (.cells cs t (0, 0)) → W'.heap[k]? = some (.cells cs t (0, 0))
theorem pr.Kept.below {W W' : World} (h : Below W.heap.size W W') : pr.Kept W W' := fun k cs t _ hk => blk_below hk h
theorem pr.Kept.trans {W W1 W2 : World} (h : pr.Kept W W1) (h' : pr.Kept W1 W2) : pr.Kept W W2 := fun k cs t ht hk => h' k cs t ht (h k cs t ht hk)
set_option maxHeartbeats 4000000 in
set_option maxRecDepth 100000 in
theorem pr.zz (g : Nat) (eg : ∀ args w, (callFunc g args).run Try.prog w = .ok (.enter g args) w) (cap : Array Value) (y z : Int) (bh b_y : Nat) (P : World → Prop) (W : World) (hbh : W.heap[bh]? = some (.cells #[.func (.func g) #[] cap] 91 (0, 0))) (hby : W.heap[b_y]? = some (.cells #[.int .i64 y] 3 (0, 0))) (hd : ∀ W n, P W → P (W.drewN n))
    (hc : Calls Try.prog g (#[.agg #[.int .i64 y, .int .i64 z]] ++ cap) W fun e W' => e = .returned (.tuple #[]) ∧ P W') :
    Calls Try.prog 124 #[.int .i64 z, .pointer (some ⟨bh, 0, none⟩), .pointer (some ⟨b_y, 0, none⟩)] W fun e W' => e = .returned (.tuple #[]) ∧ P W' := by
  have HC := Aside0.mk hc
  have HD := Aside0.mk hd
  have ch : W.cell? ⟨bh, 0, none⟩ = some (.func (.func g) #[] cap) := (blk_cell hbh 0).trans rfl
  have cy : W.cell? ⟨b_y, 0, none⟩ = some (.int .i64 y) := (blk_cell hby 0).trans rfl
  clear hc hbh hby hd
  go_enter Try.func124, Try.ntmps124
  go_wp2_with (first | ((with_reducible refine HC.out.mono ?_); rintro e w5 ⟨rfl, hj⟩; clear ch cy; have HJ := Aside0.mk hj; clear hj))
  go_end0
  exact ⟨rfl, by first | exact HJ.out | exact HD.out _ _ HJ.out⟩
structure pr.B (a a2 s m b : Int) (bw : Bool) (bf bh g : Nat) (cap : Array Value) (W : World) : Prop where
  f : W.heap[bf]? = some (.cells #[.int .i64 a, .int .i64 a2, .int .i64 s, .int .i64 m, .int .i64 b, .bool bw] 40 (0, 0))
  h : W.heap[bh]? = some (.cells #[.func (.func g) #[] cap] 91 (0, 0))
theorem pr.B.kept {a a2 s m b : Int} {bw : Bool} {bf bh g : Nat} {cap : Array Value} {W W' : World} (h : pr.B a a2 s m b bw bf bh g cap W) (hk : pr.Kept W W') : pr.B a a2 s m b bw bf bh g cap W' := ⟨hk _ _ _ (.inl rfl) h.f, hk _ _ _ (.inr (.inl rfl)) h.h⟩
structure pr.J2 (J : Int → Int → World → Prop) (a a2 s m b : Int) (bw : Bool) (bf bh g : Nat) (cap : Array Value) (y : Int) (b_y : Nat) (z : Int) (W : World) : Prop where
  j : J y z W
  b_ : pr.B a a2 s m b bw bf bh g cap W
  y_ : W.heap[b_y]? = some (.cells #[.int .i64 y] 3 (0, 0))
set_option maxHeartbeats 4000000 in
set_option maxRecDepth 100000 in
theorem pr.yy (g : Nat) (eg : ∀ args w, (callFunc g args).run Try.prog w = .ok (.enter g args) w) (cap : Array Value) (a a2 s m b : Int) (bw : Bool) (lo hi : Int) (J : Int → Int → World → Prop) (bf bh : Nat) (y : Int) (W : World) (hE : impl_Word_ends.f b bw = some (lo, hi)) (hlo : -9223372036854775808 ≤ lo ∧ lo ≤ hi + 1) (hhi : hi < 9223372036854775807) (hb : ∀ z W W', Below W.heap.size W W' → J y z W → J y z W')
    (hs : ∀ z W, lo ≤ z → z ≤ hi → J y z W → Calls Try.prog g (#[.agg #[.int .i64 y, .int .i64 z]] ++ cap) W fun e W' => e = .returned (.tuple #[]) ∧ J y (z + 1) W' ∧ pr.Kept W W') (hB : pr.B a a2 s m b bw bf bh g cap W) (hJ : J y lo W) :
    Calls Try.prog 123 #[.int .i64 y, .pointer (some ⟨bf, 0, none⟩), .pointer (some ⟨bh, 0, none⟩)] W fun e W' => e = .returned (.tuple #[]) ∧ J y (hi + 1) W' ∧ pr.B a a2 s m b bw bf bh g cap W' := by
  have HE := Aside0.mk hE
  have HL := Aside0.mk hlo
  have HH := Aside0.mk hhi
  have HBE := Aside0.mk hb
  have HS := Aside0.mk hs
  have HBB := Aside0.mk hB
  have HJ := Aside0.mk hJ
  have EG1 := Aside0.mk eg
  have EG := Aside0.mk (show ∀ (args : Array Value) (W : World), (callFunc 124 args).run Try.prog W = .ok (.enter 124 args) W from enters_of Try.func124 (by kernel_rfl) rfl)
  clear hE hlo hhi hb hs hB hJ eg
  go_enter Try.func123, Try.ntmps123
  go_wp2_with (first
    | ((with_reducible refine gate_dst (N := 3) rfl ?_); refine box_event ?hg (N := 3) ?hd (cs := #[.int .i64 y]) (t := 3) ?hr ?_; (case hd => rfl); (case hg => rfl); (case hr => first | (go_simp; done) | (go_simp; rfl)); intro b_y hgy w1 hby hb; have HJ1 := Aside0.mk (pr.J2.mk (HBE.out _ _ _ hb HJ.out) (HBB.out.kept (pr.Kept.below hb)) hby : pr.J2 J a a2 s m b bw bf bh g cap y b_y lo w1); clear HJ HBB hb hby hgy; have c4 : w1.cell? ⟨bf, 4, none⟩ = some (.int .i64 b) := (blk_cell HJ1.out.b_.f 4).trans rfl; have c5 : w1.cell? ⟨bf, 5, none⟩ = some (.bool bw) := (blk_cell HJ1.out.b_.f 5).trans rfl)
    | (go_at_call 117; ((with_reducible refine (impl_Word_all.callsG 124 EG.out _ b bw lo hi (pr.J2 J a a2 s m b bw bf bh g cap y b_y) _ HE.out ?s1 ?s2 ?s3 ?s4 ?s5).mono ?_); (case s1 => exact HL.out); (case s2 => exact HH.out); (case s3 => exact fun W hb_ => ⟨HBE.out _ _ _ hb_ HJ1.out.j, HJ1.out.b_.kept (pr.Kept.below hb_), blk_below HJ1.out.y_ hb_⟩); (case s4 => exact fun z W n hj_ => ⟨HBE.out _ _ _ (pw_below_drewN (Below.refl _ _) n) hj_.j, hj_.b_.kept (pr.Kept.below (pw_below_drewN (Below.refl _ _) n)), blk_below hj_.y_ (pw_below_drewN (Below.refl _ _) n)⟩); (case s5 => exact fun z W h1_ h2_ hj_ => pr.zz g EG1.out cap y z bh b_y (pr.J2 J a a2 s m b bw bf bh g cap y b_y (z + 1)) W hj_.b_.h hj_.y_ (fun W n hj_ => ⟨HBE.out _ _ _ (pw_below_drewN (Below.refl _ _) n) hj_.j, hj_.b_.kept (pr.Kept.below (pw_below_drewN (Below.refl _ _) n)), blk_below hj_.y_ (pw_below_drewN (Below.refl _ _) n)⟩) ((HS.out z W h1_ h2_ hj_.j).mono (fun e W' he => ⟨he.1, he.2.1, hj_.b_.kept he.2.2, he.2.2 _ _ _ (.inr (.inr rfl)) hj_.y_⟩))); rintro e w5 ⟨rfl, hj⟩; clear c4 c5 HJ1; have HJ2 := Aside0.mk hj; clear hj)))
  go_end0
  exact ⟨rfl, HJ2.out.j, HJ2.out.b_⟩
structure pr.J1 (J : Int → Int → World → Prop) (lo a a2 s m b : Int) (bw : Bool) (bf bh g : Nat) (cap : Array Value) (y : Int) (W : World) : Prop where
  j : J y lo W
  b_ : pr.B a a2 s m b bw bf bh g cap W
set_option maxHeartbeats 4000000 in
set_option maxRecDepth 100000 in
theorem impl_Second_pairs.callsG (g : Nat) (eg : ∀ args w, (callFunc g args).run Try.prog w = .ok (.enter g args) w) (cap : Array Value) (a a2 s m b : Int) (bw : Bool) (lo hi : Int) (J : Int → Int → World → Prop) (W : World) (hE : impl_Word_ends.f b bw = some (lo, hi)) (hlo : -9223372036854775808 ≤ lo ∧ lo ≤ hi + 1) (hhi : hi < 9223372036854775807) (hb : ∀ y z W W', Below W.heap.size W W' → J y z W → J y z W') (hrow : ∀ y W, lo ≤ y → y ≤ hi → J y (hi + 1) W → J (y + 1) lo W)
    (hs : ∀ y z W, lo ≤ y → y ≤ hi → lo ≤ z → z ≤ hi → J y z W → Calls Try.prog g (#[.agg #[.int .i64 y, .int .i64 z]] ++ cap) W fun e W' => e = .returned (.tuple #[]) ∧ J y (z + 1) W' ∧ pr.Kept W W') (hJ : J lo lo W) :
    Calls Try.prog 75 #[.agg #[.int .i64 a, .int .i64 a2, .int .i64 s, .int .i64 m, .int .i64 b, .bool bw], .func (.func g) #[] cap] W fun e W' => e = .returned (.tuple #[]) ∧ J (hi + 1) lo W' := by
  have HE := Aside0.mk hE
  have HL := Aside0.mk hlo
  have HH := Aside0.mk hhi
  have HBE := Aside0.mk hb
  have HS := Aside0.mk hs
  have HRW := Aside0.mk hrow
  have HJ := Aside0.mk hJ
  have EG1 := Aside0.mk eg
  have EG := Aside0.mk (show ∀ (args : Array Value) (W : World), (callFunc 123 args).run Try.prog W = .ok (.enter 123 args) W from enters_of Try.func123 (by kernel_rfl) rfl)
  clear hE hlo hhi hb hs hrow hJ eg
  go_enter Try.func75, Try.ntmps75
  go_wp2_with (first
    | ((with_reducible refine gate_dst (N := 2) rfl ?_); refine box_event ?hg (N := 2) ?hd (cs := #[.int .i64 a, .int .i64 a2, .int .i64 s, .int .i64 m, .int .i64 b, .bool bw]) (t := 40) ?hr ?_; (case hd => rfl); (case hg => rfl); (case hr => first | (go_simp; done) | (go_simp; rfl)); intro bf hgf w1 hbf hb; have HJ1 := Aside0.mk (HBE.out _ _ _ _ hb HJ.out); have HF := Aside0.mk hbf; clear HJ hb hbf hgf)
    | ((with_reducible refine gate_dst (N := 3) rfl ?_); refine box_event ?hg (N := 3) ?hd (cs := #[.func (.func g) #[] cap]) (t := 91) ?hr ?_; (case hd => rfl); (case hg => rfl); (case hr => first | (go_simp; done) | (go_simp; rfl)); intro bh hgh w2 hbh hb; have HJ2 := Aside0.mk (pr.J1.mk (HBE.out _ _ _ _ hb HJ1.out) ⟨blk_below HF.out hb, hbh⟩ : pr.J1 J lo a a2 s m b bw bf bh g cap lo w2); clear HJ1 HF hb hbh hgh; have c4 : w2.cell? ⟨bf, 4, none⟩ = some (.int .i64 b) := (blk_cell HJ2.out.b_.f 4).trans rfl; have c5 : w2.cell? ⟨bf, 5, none⟩ = some (.bool bw) := (blk_cell HJ2.out.b_.f 5).trans rfl)
    | (go_at_call 117; ((with_reducible refine (impl_Word_all.callsG 123 EG.out _ b bw lo hi (pr.J1 J lo a a2 s m b bw bf bh g cap) _ HE.out ?s1 ?s2 ?s3 ?s4 ?s5).mono ?_); (case s1 => exact HL.out); (case s2 => exact HH.out); (case s3 => exact fun W hb_ => ⟨HBE.out _ _ _ _ hb_ HJ2.out.j, HJ2.out.b_.kept (pr.Kept.below hb_)⟩); (case s4 => exact fun y W n hj_ => ⟨HBE.out _ _ _ _ (pw_below_drewN (Below.refl _ _) n) hj_.j, hj_.b_.kept (pr.Kept.below (pw_below_drewN (Below.refl _ _) n))⟩); (case s5 => exact fun y W h1_ h2_ hj_ => (pr.yy g EG1.out cap a a2 s m b bw lo hi J bf bh y W HE.out HL.out HH.out (HBE.out y) (fun z W q1 q2 => HS.out y z W h1_ h2_ q1 q2) hj_.b_ hj_.j).mono (fun e W' he => ⟨he.1, HRW.out y _ h1_ h2_ he.2.1, he.2.2⟩)); rintro e w5 ⟨rfl, hj⟩; clear c4 c5 HJ2; have HJ3 := Aside0.mk hj.j; clear hj)))
  go_end0
  exact ⟨rfl, HJ3.out⟩

/-! ### impl_IsTurnable: function 35 -/
theorem pm.law : Maps.Keyed Try.prog 75 := Maps.Keyed.of_law (deep_law_laid (show laidOutB Try.prog = true by kernel_rfl) (m := 3) (by omega) (of_decide_eq_true (by kernel_rfl)) (by kernel_rfl) (by rw [Try.underlying75]))
def pm.gd (p : Int × Int) : Bool := (Lit.int .i64 p.1).wf && (Lit.int .i64 p.2).wf
def pm.val (p : Int × Int) : Value := .agg #[.int .i64 p.1, .int .i64 p.2]
noncomputable def pm.kl (p : Int × Int) : Lit := (keyOf Try.prog 75 (pm.val p)).getD (.bool false)
theorem pm.kl_eq (p : Int × Int) (h : pm.gd p = true) : keyOf Try.prog 75 (pm.val p) = some (pm.kl p) := by
  unfold pm.gd at h
  rw [Bool.and_eq_true] at h
  have hs : (keyOf Try.prog 75 (pm.val p)).isSome = true := by
    have hkt : Try.prog.keyType 75 = true := by kernel_rfl
    have c75 : Try.prog.cellsOf 75 = 2 := by kernel_rfl
    have c3 : Try.prog.cellsOf 3 = 1 := by kernel_rfl
    have hf : (pm.val p).formed Try.prog 75 = true := by simp [pm.val, Value.formed, Try.underlying75, c75]
    have hsz : 1 ≤ Try.prog.types.size := of_decide_eq_true (by kernel_rfl)
    obtain ⟨n, hn⟩ : ∃ n, Try.prog.types.size + 1 = n + 2 := ⟨Try.prog.types.size - 1, by omega⟩
    have hk : Try.prog.keyLits (n + 2) 75 (pm.val p).cells.toList = some [.int .i64 p.1, .int .i64 p.2] := by
      simp [Program.keyLits, pm.val, Value.cells, Try.underlying75, Try.underlying3, c75, c3, h.1, h.2]
    simp only [keyOf, Try.underlying75, hkt, hf, hn, hk]
    rfl
  unfold pm.kl
  obtain ⟨l, hl⟩ := Option.isSome_iff_exists.1 hs
  rw [hl]
  rfl
set_option maxRecDepth 100000 in
theorem pm.kl_inj {p q : Int × Int} (hp : pm.gd p = true) (hq : pm.gd q = true) (e : pm.kl p = pm.kl q) : p = q := by
  have h1 := pm.kl_eq q hq
  rw [← e] at h1
  have h := pm.law.inj (pm.kl_eq p hp) h1
  obtain ⟨p1, p2⟩ := p
  obtain ⟨q1, q2⟩ := q
  simp only [pm.val] at h
  injection h with h
  injection h with h
  injection h with h2 h3
  injection h3 with h3 _
  injection h2 with _ h2
  injection h3 with _ h3
  rw [h2, h3]
theorem pm.tight {w : World} {k : TypeId} {R : Value → Option (DataW Unit × List MemPlace)} {b n : Nat} {D : DataW Unit} (h : w.ownsMap Try.prog k R b n D) : w.ownsMap Try.prog k R b (Maps.size D) D := by
  obtain ⟨es, clock, h1, h2, h3, rfl⟩ := h
  refine ⟨es, clock, h1, h2, ?_, rfl⟩
  simp [Maps.size, length_sorted]
theorem pm.move {w w' : World} {k : TypeId} {R : Value → Option (DataW Unit × List MemPlace)} {b n : Nat} {D : DataW Unit} (h : w.ownsMap Try.prog k R b n D) (e : w'.heap[b]? = w.heap[b]?) : w'.ownsMap Try.prog k R b n D := by
  obtain ⟨es, clock, h1, r⟩ := h
  exact ⟨es, clock, e.trans h1, r⟩
structure pm.IsSet (w : World) (b : Nat) (L : List (Int × Int)) : Prop where
  nd : L.Nodup
  good : ∀ p ∈ L, pm.gd p = true
  own : ∃ D : DataW Unit, w.ownsMap Try.prog 75 (plainElem Try.prog 4) b L.length D ∧ Maps.size D = L.length ∧ ∀ p, pm.gd p = true → Maps.has D (pm.kl p) = decide (p ∈ L) ∧ D.atKey (pm.kl p) (.lit (.bool false)) = .lit (.bool (decide (p ∈ L)))
def pm.add (L : List (Int × Int)) (p : Int × Int) : List (Int × Int) := if p ∈ L then L else L ++ [p]
theorem pm.IsSet.made (w : World) : pm.IsSet (w.alloc (.map #[] 0)) w.heap.size [] :=
  ⟨.nil, by simp, .map [], World.ownsMap_made w _ _ _, rfl, fun p _ => ⟨by simp [Maps.has], by simp [DataW.atKey]⟩⟩
theorem pm.IsSet.move {w w' : World} {b : Nat} {L : List (Int × Int)} (h : pm.IsSet w b L) (e : w'.heap[b]? = w.heap[b]?) : pm.IsSet w' b L := by
  obtain ⟨h1, h2, D, h3, h4⟩ := h
  exact ⟨h1, h2, D, pm.move h3 e, h4⟩
theorem pm.IsSet.lt {w : World} {b : Nat} {L : List (Int × Int)} (h : pm.IsSet w b L) : b < w.heap.size := by
  obtain ⟨_, _, D, h3, _⟩ := h
  exact h3.lt
theorem pm.IsSet.below {w w' : World} {b : Nat} {L : List (Int × Int)} (h : pm.IsSet w b L) (hb : Below w.heap.size w w') : pm.IsSet w' b L := h.move (hb.block b h.lt)
theorem pm.IsSet.ne {w : World} {b g : Nat} {L : List (Int × Int)} (h : pm.IsSet w b L) {cs : Array Value} {t : TypeId} {fr : Nat × Nat} (hg : w.heap[g]? = some (.cells cs t fr)) : g ≠ b := by
  obtain ⟨_, _, D, ⟨es, clock, h1, _⟩, _⟩ := h
  rintro rfl
  rw [hg] at h1
  cases h1
set_option maxRecDepth 100000 in
theorem pm.IsSet.look {w : World} {b : Nat} {L : List (Int × Int)} (h : pm.IsSet w b L) {p : Int × Int} (hp : pm.gd p = true) : (Instr.lookup 89 (.map (some b)) (pm.val p) false).run Try.prog w = .ok (.bool (decide (p ∈ L))) w := by
  obtain ⟨_, _, D, h3, _, h5⟩ := h
  obtain ⟨v, ps, hrun, hv⟩ := h3.lookup pm.law Try.underlying89 (z := .bool false) (by kernel_rfl) (plainElem_bool Try.underlying4 false) (pm.kl_eq p hp)
  rw [(h5 p hp).2] at hv
  have e : v = .bool (decide (p ∈ L)) := by
    unfold plainElem at hv
    rw [Try.underlying4] at hv
    cases v <;> simp at hv
    rw [hv.1]
  rw [hrun, e]
set_option maxRecDepth 100000 in
theorem pm.IsSet.store {w : World} {b : Nat} {L : List (Int × Int)} (h : pm.IsSet w b L) (hl : L.length < maxLen) {p : Int × Int} (hp : pm.gd p = true) : ∃ w', (Instr.mapUpdate 89 (.map (some b)) (pm.val p) (.bool true)).run Try.prog w = .ok () w' ∧ pm.IsSet w' b (pm.add L p) ∧ w.grownBy w' (some b) := by
  obtain ⟨h1, h2, D, h3, h4, h5⟩ := h
  obtain ⟨w', hrun, hown, hg⟩ := h3.store pm.law Try.underlying89 hl (pm.kl_eq p hp) (plainElem_bool Try.underlying4 true)
  have hkey := pm.law.key (pm.kl_eq p hp)
  have hsz := Maps.size_put (k := pm.kl p) (h3.tidy pm.law) (.lit (.bool true))
  rw [(h5 p hp).1] at hsz
  have hfacts : ∀ q, pm.gd q = true → Maps.has (D.put (pm.kl p) (.lit (.bool true))) (pm.kl q) = decide (q ∈ pm.add L p) ∧ (D.put (pm.kl p) (.lit (.bool true))).atKey (pm.kl q) (.lit (.bool false)) = .lit (.bool (decide (q ∈ pm.add L p))) := by
    intro q hq
    by_cases e : q = p
    · subst e
      have hm : q ∈ pm.add L q := by
        unfold pm.add
        split
        · assumption
        · simp
      rw [decide_eq_true hm]
      exact ⟨Maps.has_put_same h3.isMap hkey _, Maps.atKey_put_same h3.isMap hkey _ _⟩
    · have hne : pm.kl q ≠ pm.kl p := fun e2 => e (pm.kl_inj hq hp e2)
      have hm : (q ∈ pm.add L p) ↔ q ∈ L := by
        unfold pm.add
        split
        · rfl
        · simp [e]
      rw [show decide (q ∈ pm.add L p) = decide (q ∈ L) from decide_eq_decide.2 hm]
      exact ⟨(Maps.has_put_other hne _).trans (h5 q hq).1, (Maps.atKey_put_other hne _ _).trans (h5 q hq).2⟩
  have hlen : Maps.size (D.put (pm.kl p) (.lit (.bool true))) = (pm.add L p).length := by
    rw [hsz]
    unfold pm.add
    by_cases hm : p ∈ L
    · simp [hm, h4]
    · simp [hm, h4]
  refine ⟨w', hrun, ⟨?_, ?_, D.put (pm.kl p) (.lit (.bool true)), hlen ▸ pm.tight hown, hlen, hfacts⟩, hg.grown⟩
  · unfold pm.add
    by_cases hm : p ∈ L
    · rw [if_pos hm]; exact h1
    · rw [if_neg hm, List.nodup_append]
      exact ⟨h1, by simp, fun x hx y hy => by rw [List.mem_singleton.1 hy]; rintro rfl; exact hm hx⟩
  · unfold pm.add
    by_cases hm : p ∈ L
    · rw [if_pos hm]; exact h2
    · rw [if_neg hm]
      intro q hq
      rcases List.mem_append.1 hq with hq | hq
      · exact h2 q hq
      · rw [List.mem_singleton.1 hq]; exact hp
theorem pm.IsSet.len {w : World} {b : Nat} {L : List (Int × Int)} (h : pm.IsSet w b L) (ty : TypeId) : (Builtin.len_ #[89] ty #[.map (some b)]).run Try.prog w = .ok (.int .i64 (L.length : Int)) w := by
  obtain ⟨_, _, D, h3, h4, _⟩ := h
  rw [h3.len Try.underlying89 ty, h4]
section
variable (w : World) {ops : Array Oper} {rest : List Oper} {o : Oper} {a : Act} {Q : Exit → Act → World → Prop}
theorem pm.look_op (hg : o.guard = none) (m x : Operand) (hop : o.op = Op.lookup 89 m x false) (b : Nat) (L : List (Int × Int)) (hm : a.eval m = .map (some b)) (hS : pm.IsSet w b L) (p : Int × Int) (hx : a.eval x = .agg #[.int .i64 p.1, .int .i64 p.2]) (hp : pm.gd p = true) (hK : wpList Try.prog ops Q rest (a.put o.dst (.bool (decide (p ∈ L)))) w) : wpList Try.prog ops Q (o :: rest) a w := by
  refine wpList_plain hg fun K' hK' => ?_
  have hrun := hS.look hp
  unfold pm.val at hrun
  unfold Oper.wp
  simp [execOp, hop, hm, hx, hrun, Result.andThen]
  exact hK' _ _ hK
theorem pm.store_op (hg : o.guard = none) (m x v : Operand) (hop : o.op = Op.mapUpdate 89 m x v) (b : Nat) (L : List (Int × Int)) (hm : a.eval m = .map (some b)) (hS : pm.IsSet w b L) (hl : L.length < maxLen) (p : Int × Int) (hx : a.eval x = .agg #[.int .i64 p.1, .int .i64 p.2]) (hv : a.eval v = .bool true) (hp : pm.gd p = true) (hK : ∀ w', pm.IsSet w' b (pm.add L p) → w.grownBy w' (some b) → wpList Try.prog ops Q rest (a.put o.dst undef) w') : wpList Try.prog ops Q (o :: rest) a w := by
  refine wpList_plain hg fun K' hK' => ?_
  obtain ⟨w', hrun, r1, r2⟩ := hS.store hl hp
  unfold pm.val at hrun
  unfold Oper.wp
  simp [execOp, hop, hm, hx, hv, hrun, Result.andThen]
  exact hK' _ _ (hK w' r1 r2)
end
def impl_IsTurnable.row : Nat → Nat → Int → Int → Int → Int → Int → Bool → Int → Int → List (Int × Int) → Int → Int → Option (List (Int × Int))
  | 0, _, _, _, _, _, _, _, _, _, _, _, _ => none
  | n + 1, k, a, a2, s, m, b, bw, x, hi, D, y, z => if z ≤ hi then ((impl_Second_step.f k a a2 s m b bw y z x).bind fun p => if pm.gd p = true ∧ D.length < 1000000 then impl_IsTurnable.row n k a a2 s m b bw x hi (pm.add D p) y (z + 1) else none) else some D
def impl_IsTurnable.all : Nat → Nat → Int → Int → Int → Int → Int → Bool → Int → Int → Int → List (Int × Int) → Int → Option (List (Int × Int))
  | 0, _, _, _, _, _, _, _, _, _, _, _, _ => none
  | n + 1, k, a, a2, s, m, b, bw, x, lo, hi, D, y => if y ≤ hi then ((impl_IsTurnable.row n k a a2 s m b bw x hi D y lo).bind fun r => impl_IsTurnable.all n k a a2 s m b bw x lo hi r (y + 1)) else some D
def impl_IsTurnable.f (k : Nat) (a a2 s m b : Int) (bw : Bool) (x : Int) : Option (Bool × Bool) := (impl_Second_isScanned.f a a2 s m b bw x).bind fun t => if t = true then (if 0 ≤ wrap64 (2 * b) then ((impl_Word_ends.f b bw).bind fun e => if -9223372036854775808 ≤ e.1 ∧ e.1 ≤ e.2 + 1 ∧ e.2 < 9223372036854775807 then ((impl_IsTurnable.all k k a a2 s m b bw x e.1 e.2 [] e.1).bind fun r => some (decide ((r.length : Int) = shl .i64 1 (wrap64 (2 * b))), true)) else none) else none) else some (false, false)
theorem impl_IsTurnable.mono_r : ∀ n k a a2 s m b bw x hi D y z, LeO (impl_IsTurnable.row n k a a2 s m b bw x hi D y z) (impl_IsTurnable.row (n + 1) (k + 1) a a2 s m b bw x hi D y z)
  | 0, k, a, a2, s, m, b, bw, x, hi, D, y, z => fun r h => by simp [impl_IsTurnable.row] at h
  | n + 1, k, a, a2, s, m, b, bw, x, hi, D, y, z => by
    rw [impl_IsTurnable.row, impl_IsTurnable.row]
    exact LeO.ite (LeO.bind (impl_Second_step.mono _ _ _ _ _ _ _ _ _ _) (fun p => LeO.ite (impl_IsTurnable.mono_r n k a a2 s m b bw x hi _ y _) (LeO.none _))) (LeO.refl _)
theorem impl_IsTurnable.mono_a : ∀ n k a a2 s m b bw x lo hi D y, LeO (impl_IsTurnable.all n k a a2 s m b bw x lo hi D y) (impl_IsTurnable.all (n + 1) (k + 1) a a2 s m b bw x lo hi D y)
  | 0, k, a, a2, s, m, b, bw, x, lo, hi, D, y => fun r h => by simp [impl_IsTurnable.all] at h
  | n + 1, k, a, a2, s, m, b, bw, x, lo, hi, D, y => by
    rw [impl_IsTurnable.all, impl_IsTurnable.all]
    exact LeO.ite (LeO.bind (impl_IsTurnable.mono_r n k a a2 s m b bw x hi D y lo) (fun r => impl_IsTurnable.mono_a n k a a2 s m b bw x lo hi _ _)) (LeO.refl _)
theorem impl_IsTurnable.mono : ∀ a a2 s m b bw x k, LeO (impl_IsTurnable.f k a a2 s m b bw x) (impl_IsTurnable.f (k + 1) a a2 s m b bw x) := by
  intro a a2 s m b bw x k
  unfold impl_IsTurnable.f
  exact LeO.bind (LeO.refl _) (fun t => LeO.ite (LeO.ite (LeO.bind (LeO.refl _) (fun e => LeO.ite (LeO.bind (impl_IsTurnable.mono_a _ _ _ _ _ _ _ _ _ _ _ _ _) (fun r => LeO.refl _)) (LeO.none _))) (LeO.none _)) (LeO.refl _))
theorem it.grown {W w3 w4 : World} {row : Option Nat} (hb : Below W.heap.size W w3) (hg : w3.grownBy w4 row) : W.grownBy w4 row := (⟨hb.os, hb.tape, hb.output, hb.size, fun i hi _ => hb.block i hi⟩ : W.grownBy w3 row).trans hg
set_option maxHeartbeats 4000000 in
set_option maxRecDepth 100000 in
theorem impl_IsTurnable.lit (k gm bm gf gx : Nat) (a a2 s m b : Int) (bw : Bool) (x y z : Int) (D : List (Int × Int)) (q : Int × Int) (W : World)
    (hbm : W.heap[gm]? = some (.cells #[.map (some bm)] 89 (0, 0))) (hbf : W.heap[gf]? = some (.cells #[.int .i64 a, .int .i64 a2, .int .i64 s, .int .i64 m, .int .i64 b, .bool bw] 40 (0, 0))) (hbx : W.heap[gx]? = some (.cells #[.int .i64 x] 3 (0, 0))) (hS : pm.IsSet W bm D) (h : impl_Second_step.f k a a2 s m b bw y z x = some q) (hg : pm.gd q = true ∧ D.length < 1000000) :
    Calls Try.prog 76 #[.agg #[.int .i64 y, .int .i64 z], .pointer (some ⟨gm, 0, none⟩), .pointer (some ⟨gf, 0, none⟩), .pointer (some ⟨gx, 0, none⟩)] W fun e W' => e = .returned (.tuple #[]) ∧ pm.IsSet W' bm (pm.add D q) ∧ W.grownBy W' (some bm) := by
  obtain ⟨q1, q2⟩ := q
  have A := Aside0.mk h
  have GD := Aside0.mk hg
  have MB0 := Aside0.mk hbm
  have FB0 := Aside0.mk hbf
  have XB0 := Aside0.mk hbx
  have S0 := Aside0.mk hS
  clear hbm hbf hbx hS h hg
  go_enter Try.func76, Try.ntmps76
  go_upto_region 1 with (first
    | ((with_reducible refine gate_dst (N := 4) rfl ?_); refine box_event ?hg (N := 4) ?hd (cs := #[.int .i64 y, .int .i64 z]) (t := 75) ?hr ?_; (case hd => rfl); (case hg => rfl); (case hr => first | (go_simp; done) | (go_simp; rfl)); intro gp hgp w1 hbp hb; have B1 := Aside0.mk hb; have PB := Aside0.mk hbp; have MB := Aside0.mk (blk_below MB0.out hb); have FB := Aside0.mk (blk_below FB0.out hb); have XB := Aside0.mk (blk_below XB0.out hb); have SS := Aside0.mk (S0.out.below hb); clear hgp hbp hb))
  refine start_ (n := 6) (S := fun w' => w'.cell? ⟨gm, 0, none⟩ = some (.map (some bm)) ∧ w'.cell? ⟨gf, 0, none⟩ = some (.int .i64 a) ∧ w'.cell? ⟨gf, 1, none⟩ = some (.int .i64 a2) ∧ w'.cell? ⟨gf, 2, none⟩ = some (.int .i64 s) ∧ w'.cell? ⟨gf, 3, none⟩ = some (.int .i64 m) ∧ w'.cell? ⟨gf, 4, none⟩ = some (.int .i64 b) ∧ w'.cell? ⟨gf, 5, none⟩ = some (.bool bw) ∧ w'.cell? ⟨gx, 0, none⟩ = some (.int .i64 x) ∧ w'.cell? ⟨gp, 0, none⟩ = some (.int .i64 y) ∧ w'.cell? ⟨gp, 1, none⟩ = some (.int .i64 z)) (ds := [5]) #[false, false, false, false, false, false] (by kernel_rfl) rfl rfl ⟨(blk_cell (blk_drew MB.out) 0).trans (show (#[.map (some bm)] : Array Value)[0]? = some (.map (some bm)) from rfl), (blk_cell (blk_drew FB.out) 0).trans (show (#[.int .i64 a, .int .i64 a2, .int .i64 s, .int .i64 m, .int .i64 b, .bool bw] : Array Value)[0]? = some (.int .i64 a) from rfl), (blk_cell (blk_drew FB.out) 1).trans (show (#[.int .i64 a, .int .i64 a2, .int .i64 s, .int .i64 m, .int .i64 b, .bool bw] : Array Value)[1]? = some (.int .i64 a2) from rfl), (blk_cell (blk_drew FB.out) 2).trans (show (#[.int .i64 a, .int .i64 a2, .int .i64 s, .int .i64 m, .int .i64 b, .bool bw] : Array Value)[2]? = some (.int .i64 s) from rfl), (blk_cell (blk_drew FB.out) 3).trans (show (#[.int .i64 a, .int .i64 a2, .int .i64 s, .int .i64 m, .int .i64 b, .bool bw] : Array Value)[3]? = some (.int .i64 m) from rfl), (blk_cell (blk_drew FB.out) 4).trans (show (#[.int .i64 a, .int .i64 a2, .int .i64 s, .int .i64 m, .int .i64 b, .bool bw] : Array Value)[4]? = some (.int .i64 b) from rfl), (blk_cell (blk_drew FB.out) 5).trans (show (#[.int .i64 a, .int .i64 a2, .int .i64 s, .int .i64 m, .int .i64 b, .bool bw] : Array Value)[5]? = some (.bool bw) from rfl), (blk_cell (blk_drew XB.out) 0).trans (show (#[.int .i64 x] : Array Value)[0]? = some (.int .i64 x) from rfl), (blk_cell (blk_drew PB.out) 0).trans (show (#[.int .i64 y, .int .i64 z] : Array Value)[0]? = some (.int .i64 y) from rfl), (blk_cell (blk_drew PB.out) 1).trans (show (#[.int .i64 y, .int .i64 z] : Array Value)[1]? = some (.int .i64 z) from rfl)⟩ (fun hHeld => ?_)
  refine take_ (i := 0) (N := some 5) (v := ?_) (a' := ?_) #[true, false, false, false, false, false] rfl rfl (by kernel_rfl) (fun _ _ _ h => h) (Or.inl ⟨by rfl, ?_⟩) hHeld ?_ ?_
  rotate_left
  · rintro w' ⟨s0, s1, s2, s3, s4, s5, s6, s7, s8, s9⟩
    go_simp
    with_reducible rfl
  rotate_left
  · simp only [Act.put, List.setIfInBounds_toArray, List.set_cons_zero, List.set_cons_succ, i64_w, i32_w]
    rfl
  refine take_ (i := 1) (N := some 6) (v := ?_) (a' := ?_) #[true, true, false, false, false, false] rfl rfl (by kernel_rfl) (fun _ _ _ h => h) (Or.inl ⟨by rfl, ?_⟩) hHeld ?_ ?_
  rotate_left
  · rintro w' ⟨s0, s1, s2, s3, s4, s5, s6, s7, s8, s9⟩
    go_simp
    with_reducible rfl
  rotate_left
  · simp only [Act.put, List.setIfInBounds_toArray, List.set_cons_zero, List.set_cons_succ, i64_w, i32_w]
    rfl
  refine take_ (i := 2) (N := some 7) (v := ?_) (a' := ?_) #[true, true, true, false, false, false] rfl rfl (by kernel_rfl) (fun _ _ _ h => h) (Or.inl ⟨by rfl, ?_⟩) hHeld ?_ ?_
  rotate_left
  · rintro w' ⟨s0, s1, s2, s3, s4, s5, s6, s7, s8, s9⟩
    go_simp
    with_reducible rfl
  rotate_left
  · simp only [Act.put, List.setIfInBounds_toArray, List.set_cons_zero, List.set_cons_succ, i64_w, i32_w]
    rfl
  refine take_ (i := 3) (N := some 8) (v := ?_) (a' := ?_) #[true, true, true, true, false, false] rfl rfl (by kernel_rfl) (fun _ _ _ h => h) (Or.inl ⟨by rfl, ?_⟩) hHeld ?_ ?_
  rotate_left
  · rintro w' ⟨s0, s1, s2, s3, s4, s5, s6, s7, s8, s9⟩
    go_simp
    with_reducible rfl
  rotate_left
  · simp only [Act.put, List.setIfInBounds_toArray, List.set_cons_zero, List.set_cons_succ, i64_w, i32_w]
    rfl
  refine one_ (i := 4) (N := some 9) #[true, true, true, true, true, false] rfl rfl (by kernel_rfl) (by decide) (fun K hK => ?_)
  refine goes_ Try.func55 (by kernel_rfl) rfl #[.agg #[.int .i64 a, .int .i64 a2, .int .i64 s, .int .i64 m, .int .i64 b, .bool bw], .agg #[.int .i64 y, .int .i64 z], .int .i64 x] (by rfl) rfl rfl (by simp only [List.map_toArray, List.map_cons, List.map_nil]; rfl) ?_
  with_reducible refine (impl_Second_step.calls k a a2 s m b bw y z x q1 q2 _ A.out).mono ?_
  rintro e w3 ⟨rfl, hb⟩
  refine ⟨_, rfl, ?_⟩
  have S3 := Aside0.mk ((SS.out.below (below_drew (Below.refl _ _))).below hb)
  have B3 := Aside0.mk (below_step (below_drew (Below.refl _ _)) hb : Below w1.heap.size w1 w3)
  have m0_ := Aside0.mk (blk_below (blk_drew MB.out) hb)
  have m1_ := Aside0.mk (blk_below (blk_drew FB.out) hb)
  have m2_ := Aside0.mk (blk_below (blk_drew XB.out) hb)
  have m3_ := Aside0.mk (blk_below (blk_drew PB.out) hb)
  clear MB FB XB PB hb
  have MB := m0_
  have FB := m1_
  have XB := m2_
  have PB := m3_
  refine hK.out _ _ ⟨(blk_cell MB.out 0).trans (show (#[.map (some bm)] : Array Value)[0]? = some (.map (some bm)) from rfl), (blk_cell FB.out 0).trans (show (#[.int .i64 a, .int .i64 a2, .int .i64 s, .int .i64 m, .int .i64 b, .bool bw] : Array Value)[0]? = some (.int .i64 a) from rfl), (blk_cell FB.out 1).trans (show (#[.int .i64 a, .int .i64 a2, .int .i64 s, .int .i64 m, .int .i64 b, .bool bw] : Array Value)[1]? = some (.int .i64 a2) from rfl), (blk_cell FB.out 2).trans (show (#[.int .i64 a, .int .i64 a2, .int .i64 s, .int .i64 m, .int .i64 b, .bool bw] : Array Value)[2]? = some (.int .i64 s) from rfl), (blk_cell FB.out 3).trans (show (#[.int .i64 a, .int .i64 a2, .int .i64 s, .int .i64 m, .int .i64 b, .bool bw] : Array Value)[3]? = some (.int .i64 m) from rfl), (blk_cell FB.out 4).trans (show (#[.int .i64 a, .int .i64 a2, .int .i64 s, .int .i64 m, .int .i64 b, .bool bw] : Array Value)[4]? = some (.int .i64 b) from rfl), (blk_cell FB.out 5).trans (show (#[.int .i64 a, .int .i64 a2, .int .i64 s, .int .i64 m, .int .i64 b, .bool bw] : Array Value)[5]? = some (.bool bw) from rfl), (blk_cell XB.out 0).trans (show (#[.int .i64 x] : Array Value)[0]? = some (.int .i64 x) from rfl), (blk_cell PB.out 0).trans (show (#[.int .i64 y, .int .i64 z] : Array Value)[0]? = some (.int .i64 y) from rfl), (blk_cell PB.out 1).trans (show (#[.int .i64 y, .int .i64 z] : Array Value)[1]? = some (.int .i64 z) from rfl)⟩ (fun hHeld => ?_)
  clear hK K
  refine norm_ (a' := ?_) ?_ ?_
  rotate_left
  · show Act.put _ (some 9) _ = _
    simp only [Act.put, List.setIfInBounds_toArray, List.set_cons_zero, List.set_cons_succ, i64_w, i32_w]
    rfl
  refine last_ (i := 5) (N := none) #[true, true, true, true, true, true] rfl rfl (by kernel_rfl) (by decide) (fun K hK => ?_)
  obtain ⟨w4, hrun_, hs4_, hg4_⟩ := S3.out.store (by have := GD.out.2; unfold maxLen; omega) GD.out.1
  unfold pm.val at hrun_
  refine skip_ (w1 := w4) (by rfl) rfl ?_ ?_
  · go_simp
  refine hK.out _ _ ?_
  clear hK K
  refine done_ (by kernel_rfl) ?_
  go_end0
  exact ⟨rfl, hs4_, it.grown (below_step B1.out B3.out) hg4_⟩
def impl_IsTurnable.St (R : List (Int × Int)) (a a2 s m b : Int) (bw : Bool) (x lo hi y z : Int) (D : List (Int × Int)) : Prop :=
  (y ≤ hi ∧ ∃ (nr kr na ka : Nat) (r : List (Int × Int)), impl_IsTurnable.row nr kr a a2 s m b bw x hi D y z = some r ∧ impl_IsTurnable.all na ka a a2 s m b bw x lo hi r (y + 1) = some R) ∨ (hi < y ∧ D = R)
theorem impl_IsTurnable.St.start {R : List (Int × Int)} {a a2 s m b : Int} {bw : Bool} {x lo hi : Int} {n k : Nat} {D : List (Int × Int)} {y : Int} (h : impl_IsTurnable.all n k a a2 s m b bw x lo hi D y = some R) : impl_IsTurnable.St R a a2 s m b bw x lo hi y lo D := by
  cases n with
  | zero => simp [impl_IsTurnable.all] at h
  | succ n =>
    simp only [impl_IsTurnable.all] at h
    by_cases c : y ≤ hi
    · rw [if_pos c] at h
      obtain ⟨r, h1, h2⟩ := Option.bind_eq_some_iff.mp h
      exact .inl ⟨c, n, k, n, k, r, h1, h2⟩
    · rw [if_neg c] at h
      exact .inr ⟨by omega, Option.some.inj h⟩
theorem impl_IsTurnable.St.turn {R : List (Int × Int)} {a a2 s m b : Int} {bw : Bool} {x lo hi : Int} {D : List (Int × Int)} {y : Int} (hy : y ≤ hi) (h : impl_IsTurnable.St R a a2 s m b bw x lo hi y (hi + 1) D) : impl_IsTurnable.St R a a2 s m b bw x lo hi (y + 1) lo D := by
  rcases h with ⟨_, nr, kr, na, ka, r, h1, h2⟩ | ⟨h, _⟩
  · cases nr with
    | zero => simp [impl_IsTurnable.row] at h1
    | succ nr =>
      simp only [impl_IsTurnable.row] at h1
      rw [if_neg (by omega)] at h1
      obtain rfl := Option.some.inj h1
      exact impl_IsTurnable.St.start h2
  · omega
theorem impl_IsTurnable.St.step {R : List (Int × Int)} {a a2 s m b : Int} {bw : Bool} {x lo hi : Int} {D : List (Int × Int)} {y z : Int} (hy : y ≤ hi) (hz : z ≤ hi) (h : impl_IsTurnable.St R a a2 s m b bw x lo hi y z D) : ∃ (k : Nat) (q : Int × Int), impl_Second_step.f k a a2 s m b bw y z x = some q ∧ (pm.gd q = true ∧ D.length < 1000000) ∧ impl_IsTurnable.St R a a2 s m b bw x lo hi y (z + 1) (pm.add D q) := by
  rcases h with ⟨_, nr, kr, na, ka, r, h1, h2⟩ | ⟨h, _⟩
  · cases nr with
    | zero => simp [impl_IsTurnable.row] at h1
    | succ nr =>
      simp only [impl_IsTurnable.row] at h1
      rw [if_pos hz] at h1
      obtain ⟨q, h3, h4⟩ := Option.bind_eq_some_iff.mp h1
      by_cases c : pm.gd q = true ∧ D.length < 1000000
      · rw [if_pos c] at h4
        exact ⟨kr, q, h3, c, .inl ⟨hy, nr, kr, na, ka, r, h4, h2⟩⟩
      · rw [if_neg c] at h4
        cases h4
  · omega
structure impl_IsTurnable.J (R : List (Int × Int)) (a a2 s m b : Int) (bw : Bool) (x lo hi : Int) (w : World) (gm gf gx bm : Nat) (y z : Int) (W : World) : Prop where
  below : Below w.heap.size w W
  hm : W.heap[gm]? = some (.cells #[.map (some bm)] 89 (0, 0))
  hf : W.heap[gf]? = some (.cells #[.int .i64 a, .int .i64 a2, .int .i64 s, .int .i64 m, .int .i64 b, .bool bw] 40 (0, 0))
  hx : W.heap[gx]? = some (.cells #[.int .i64 x] 3 (0, 0))
  out : ∃ D, pm.IsSet W bm D ∧ impl_IsTurnable.St R a a2 s m b bw x lo hi y z D
theorem impl_IsTurnable.J.later {R : List (Int × Int)} {a a2 s m b : Int} {bw : Bool} {x lo hi : Int} {w : World} {gm gf gx bm : Nat} {y z : Int} {W W' : World} (hb : Below W.heap.size W W') (h : impl_IsTurnable.J R a a2 s m b bw x lo hi w gm gf gx bm y z W) : impl_IsTurnable.J R a a2 s m b bw x lo hi w gm gf gx bm y z W' := by
  obtain ⟨h1, h2, h3, h4, D, h6, h8⟩ := h
  exact ⟨below_step h1 hb, blk_below h2 hb, blk_below h3 hb, blk_below h4 hb, D, h6.below hb, h8⟩
theorem impl_IsTurnable.J.turn {R : List (Int × Int)} {a a2 s m b : Int} {bw : Bool} {x lo hi : Int} {w : World} {gm gf gx bm : Nat} {y : Int} {W : World} (hy : y ≤ hi) (h : impl_IsTurnable.J R a a2 s m b bw x lo hi w gm gf gx bm y (hi + 1) W) : impl_IsTurnable.J R a a2 s m b bw x lo hi w gm gf gx bm (y + 1) lo W := by
  obtain ⟨h1, h2, h3, h4, D, h6, h8⟩ := h
  exact ⟨h1, h2, h3, h4, D, h6, h8.turn hy⟩
theorem impl_IsTurnable.J.round {R : List (Int × Int)} {a a2 s m b : Int} {bw : Bool} {x lo hi : Int} {w : World} {gm gf gx bm : Nat} {y z : Int} {W : World} (hbm : w.heap.size ≤ bm) (hy : y ≤ hi) (hz : z ≤ hi) (h : impl_IsTurnable.J R a a2 s m b bw x lo hi w gm gf gx bm y z W) :
    Calls Try.prog 76 (#[.agg #[.int .i64 y, .int .i64 z]] ++ #[.pointer (some ⟨gm, 0, none⟩), .pointer (some ⟨gf, 0, none⟩), .pointer (some ⟨gx, 0, none⟩)]) W fun e W' => e = .returned (.tuple #[]) ∧ impl_IsTurnable.J R a a2 s m b bw x lo hi w gm gf gx bm y (z + 1) W' ∧ pr.Kept W W' := by
  obtain ⟨h1, h2, h3, h4, D, h6, h8⟩ := h
  obtain ⟨k, q, h9, h10, h11⟩ := h8.step hy hz
  refine (impl_IsTurnable.lit k gm bm gf gx a a2 s m b bw x y z D q W h2 h3 h4 h6 h9 h10).mono ?_
  rintro e W' ⟨rfl, j1, j2⟩
  have hk : ∀ (g : Nat) (cs : Array Value) (t : TypeId), W.heap[g]? = some (.cells cs t (0, 0)) → W'.heap[g]? = some (.cells cs t (0, 0)) := fun g cs t hg => blk_grown hg j2 (fun e => by injection e with e; exact h6.ne hg e)
  exact ⟨rfl, ⟨h1.grown j2 (below_size h1) (fun k e => by injection e with e; omega), hk _ _ _ h2, hk _ _ _ h3, hk _ _ _ h4, _, j1, h11⟩, fun g cs t _ hg => hk g cs t hg⟩
theorem impl_IsTurnable.J.last {R : List (Int × Int)} {a a2 s m b : Int} {bw : Bool} {x lo hi : Int} {w : World} {gm gf gx bm : Nat} {z : Int} {W : World} (h : impl_IsTurnable.J R a a2 s m b bw x lo hi w gm gf gx bm (hi + 1) z W) : pm.IsSet W bm R := by
  obtain ⟨h1, h2, h3, h4, D, h6, h8⟩ := h
  rcases h8 with ⟨h, _⟩ | ⟨_, rfl⟩
  · omega
  · exact h6
theorem impl_IsTurnable.J.begin_ {R : List (Int × Int)} {a a2 s m b : Int} {bw : Bool} {x lo hi : Int} {w w0 w1 : World} {gf gx gm : Nat} {cw : Value} {n k : Nat} (hb : Below w.heap.size w w0) (hf : w0.heap[gf]? = some (.cells #[.int .i64 a, .int .i64 a2, .int .i64 s, .int .i64 m, .int .i64 b, .bool bw] 40 (0, 0))) (hx : w0.heap[gx]? = some (.cells #[.int .i64 x] 3 (0, 0)))
    (hb2 : Below (w0.alloc (.map #[] 0)).heap.size (w0.alloc (.map #[] 0)) w1) (hm : w1.heap[gm]? = some (.cells #[cw] 89 (0, 0))) (hgm : w0.heap.size < gm) (h : impl_IsTurnable.all n k a a2 s m b bw x lo hi [] lo = some R) :
    impl_IsTurnable.J R a a2 s m b bw x lo hi w gm gf gx w0.heap.size lo lo (w1.setCell ⟨gm, 0, none⟩ (.map (some w0.heap.size))) := by
  have e1 : (w0.alloc (.map #[] 0)).heap.size = w0.heap.size + 1 := by rw [World.size_alloc]
  have b5 : Below (w0.alloc (.map #[] 0)).heap.size (w0.alloc (.map #[] 0)) (w1.setCell ⟨gm, 0, none⟩ (.map (some w0.heap.size))) := below_set hb2 (by omega)
  have b6 : Below w0.heap.size w0 (w1.setCell ⟨gm, 0, none⟩ (.map (some w0.heap.size))) := below_step (below_alloc (Below.refl _ _) _) b5
  exact ⟨below_step hb b6, (blk_set hm 0 _).trans rfl, blk_below hf b6, blk_below hx b6, [], (pm.IsSet.made w0).below b5, impl_IsTurnable.St.start h⟩
set_option maxHeartbeats 8000000 in
set_option maxRecDepth 100000 in
theorem impl_IsTurnable.calls (k : Nat) (a a2 s m b : Int) (bw : Bool) (x : Int) (r1 r2 : Bool) (w : World) (h : impl_IsTurnable.f k a a2 s m b bw x = some (r1, r2)) :
    Calls Try.prog 35 #[.agg #[.int .i64 a, .int .i64 a2, .int .i64 s, .int .i64 m, .int .i64 b, .bool bw], .int .i64 x] w fun e w' => e = .returned (.tuple #[.bool r1, .bool r2]) ∧ Below w.heap.size w w' := by
  unfold impl_IsTurnable.f at h
  obtain ⟨t, A0_, h1⟩ := Option.bind_eq_some_iff.mp h
  have A0 := Aside0.mk A0_
  have HB := Aside0.mk (Below.refl w.heap.size w)
  clear h A0_
  go_enter Try.func35, Try.ntmps35
  cases t with
  | false =>
    rw [if_neg (by decide)] at h1
    injection h1 with h1
    injection h1 with e1 e2
    subst e1
    subst e2
    go_wp2_with (first
      | ((with_reducible refine gate_dst (N := 2) rfl ?_); refine box_event ?hg (N := 2) ?hd (cs := #[.int .i64 a, .int .i64 a2, .int .i64 s, .int .i64 m, .int .i64 b, .bool bw]) (t := 40) ?hr ?_; (case hd => rfl); (case hg => rfl); (case hr => first | (go_simp; done) | (go_simp; rfl)); intro gf hgf w1 hbf hb; have m0_ := Aside0.mk (below_step HB.out hb); clear HB hb; have HB := m0_; clear m0_; have BF := Aside0.mk hbf; clear hbf hgf)
      | ((with_reducible refine gate_dst (N := 3) rfl ?_); refine box_event ?hg (N := 3) ?hd (cs := #[.int .i64 x]) (t := 3) ?hr ?_; (case hd => rfl); (case hg => rfl); (case hr => first | (go_simp; done) | (go_simp; rfl)); intro gx hgx w1' hbx hb; have m0_ := Aside0.mk (below_step HB.out hb); have m1_ := Aside0.mk (blk_below BF.out hb); clear HB hb BF; have HB := m0_; have BF := m1_; clear m0_ m1_; have BX := Aside0.mk hbx; clear hbx hgx; have cf0 := (blk_cell BF.out 0).trans (show (#[.int .i64 a, .int .i64 a2, .int .i64 s, .int .i64 m, .int .i64 b, .bool bw] : Array Value)[0]? = some (.int .i64 a) from rfl); have cf1 := (blk_cell BF.out 1).trans (show (#[.int .i64 a, .int .i64 a2, .int .i64 s, .int .i64 m, .int .i64 b, .bool bw] : Array Value)[1]? = some (.int .i64 a2) from rfl); have cf2 := (blk_cell BF.out 2).trans (show (#[.int .i64 a, .int .i64 a2, .int .i64 s, .int .i64 m, .int .i64 b, .bool bw] : Array Value)[2]? = some (.int .i64 s) from rfl); have cf3 := (blk_cell BF.out 3).trans (show (#[.int .i64 a, .int .i64 a2, .int .i64 s, .int .i64 m, .int .i64 b, .bool bw] : Array Value)[3]? = some (.int .i64 m) from rfl); have cf4 := (blk_cell BF.out 4).trans (show (#[.int .i64 a, .int .i64 a2, .int .i64 s, .int .i64 m, .int .i64 b, .bool bw] : Array Value)[4]? = some (.int .i64 b) from rfl); have cf5 := (blk_cell BF.out 5).trans (show (#[.int .i64 a, .int .i64 a2, .int .i64 s, .int .i64 m, .int .i64 b, .bool bw] : Array Value)[5]? = some (.bool bw) from rfl); have cx := (blk_cell BX.out 0).trans (show (#[.int .i64 x] : Array Value)[0]? = some (.int .i64 x) from rfl))
      | (go_at_call 74; ((with_reducible refine (impl_Second_isScanned.calls a a2 s m b bw x _ _ A0.out).mono ?_); rintro e w2 ⟨rfl, hb⟩; have m0_ := Aside0.mk (below_step HB.out hb); have m1_ := Aside0.mk (blk_below BF.out hb); have m2_ := Aside0.mk (blk_below BX.out hb); clear HB BF BX hb cf0 cf1 cf2 cf3 cf4 cf5 cx; have HB := m0_; have BF := m1_; have BX := m2_; clear m0_ m1_ m2_)))
    go_ret2
    exact ⟨rfl, HB.out⟩
  | true =>
    rw [if_pos rfl] at h1
    by_cases c1 : 0 ≤ wrap64 (2 * b)
    case neg => rw [if_neg c1] at h1; cases h1
    rw [if_pos c1] at h1
    obtain ⟨wh, hwh⟩ : ∃ j_ : Int, (shl .i64 1 (wrap64 (2 * b))) = j_ := ⟨_, rfl⟩
    rw [hwh] at h1
    have HWH := Aside0.mk hwh
    clear hwh
    obtain ⟨⟨lo, hi⟩, A1_, h2⟩ := Option.bind_eq_some_iff.mp h1
    try dsimp only at h2
    by_cases c2 : -9223372036854775808 ≤ lo ∧ lo ≤ hi + 1 ∧ hi < 9223372036854775807
    case neg => rw [if_neg c2] at h2; cases h2
    rw [if_pos c2] at h2
    obtain ⟨r0, A2_, h3⟩ := Option.bind_eq_some_iff.mp h2
    have A1 := Aside0.mk A1_
    have A2 := Aside0.mk A2_
    have HL := Aside0.mk c2
    have C1 := Aside0.mk c1
    injection h3 with h3
    injection h3 with e1 e2
    subst e1
    subst e2
    clear h1 h2 A1_ A2_ c2 c1
    have EG := Aside0.mk (show ∀ (args : Array Value) (W : World), (callFunc 76 args).run Try.prog W = .ok (.enter 76 args) W from enters_of Try.func76 (by kernel_rfl) rfl)
    go_upto_region 5 with (first
      | ((with_reducible refine gate_dst (N := 2) rfl ?_); refine box_event ?hg (N := 2) ?hd (cs := #[.int .i64 a, .int .i64 a2, .int .i64 s, .int .i64 m, .int .i64 b, .bool bw]) (t := 40) ?hr ?_; (case hd => rfl); (case hg => rfl); (case hr => first | (go_simp; done) | (go_simp; rfl)); intro gf hgf w1 hbf hb; have m0_ := Aside0.mk (below_step HB.out hb); clear HB hb; have HB := m0_; clear m0_; have BF := Aside0.mk hbf; clear hbf hgf)
      | ((with_reducible refine gate_dst (N := 3) rfl ?_); refine box_event ?hg (N := 3) ?hd (cs := #[.int .i64 x]) (t := 3) ?hr ?_; (case hd => rfl); (case hg => rfl); (case hr => first | (go_simp; done) | (go_simp; rfl)); intro gx hgx w1' hbx hb; have m0_ := Aside0.mk (below_step HB.out hb); have m1_ := Aside0.mk (blk_below BF.out hb); clear HB hb BF; have HB := m0_; have BF := m1_; clear m0_ m1_; have BX := Aside0.mk hbx; clear hbx hgx; have cf0 := (blk_cell BF.out 0).trans (show (#[.int .i64 a, .int .i64 a2, .int .i64 s, .int .i64 m, .int .i64 b, .bool bw] : Array Value)[0]? = some (.int .i64 a) from rfl); have cf1 := (blk_cell BF.out 1).trans (show (#[.int .i64 a, .int .i64 a2, .int .i64 s, .int .i64 m, .int .i64 b, .bool bw] : Array Value)[1]? = some (.int .i64 a2) from rfl); have cf2 := (blk_cell BF.out 2).trans (show (#[.int .i64 a, .int .i64 a2, .int .i64 s, .int .i64 m, .int .i64 b, .bool bw] : Array Value)[2]? = some (.int .i64 s) from rfl); have cf3 := (blk_cell BF.out 3).trans (show (#[.int .i64 a, .int .i64 a2, .int .i64 s, .int .i64 m, .int .i64 b, .bool bw] : Array Value)[3]? = some (.int .i64 m) from rfl); have cf4 := (blk_cell BF.out 4).trans (show (#[.int .i64 a, .int .i64 a2, .int .i64 s, .int .i64 m, .int .i64 b, .bool bw] : Array Value)[4]? = some (.int .i64 b) from rfl); have cf5 := (blk_cell BF.out 5).trans (show (#[.int .i64 a, .int .i64 a2, .int .i64 s, .int .i64 m, .int .i64 b, .bool bw] : Array Value)[5]? = some (.bool bw) from rfl); have cx := (blk_cell BX.out 0).trans (show (#[.int .i64 x] : Array Value)[0]? = some (.int .i64 x) from rfl))
      | (go_at_call 74; ((with_reducible refine (impl_Second_isScanned.calls a a2 s m b bw x _ _ A0.out).mono ?_); rintro e w2 ⟨rfl, hb⟩; have m0_ := Aside0.mk (below_step HB.out hb); have m1_ := Aside0.mk (blk_below BF.out hb); have m2_ := Aside0.mk (blk_below BX.out hb); clear HB BF BX hb cf0 cf1 cf2 cf3 cf4 cf5 cx; have HB := m0_; have BF := m1_; have BX := m2_; clear m0_ m1_ m2_))
      | ((with_reducible refine gate_dst (N := 11) rfl ?_); refine Kd.event_run rfl (v := .map (some w2.heap.size)) (w1 := w2.alloc (.map #[] 0)) rfl ?_; have B4 := Aside0.mk (Below.refl (w2.alloc (.map #[] 0)).heap.size (w2.alloc (.map #[] 0))))
      | ((with_reducible refine gate_dst (N := 6) rfl ?_); refine box_event ?hg (N := 6) ?hd (cs := #[.map none]) (t := 89) ?hr ?_; (case hd => rfl); (case hg => rfl); (case hr => first | (go_simp; done) | (go_simp; rfl)); intro gm hgm w6 hbm hb; have GM := Aside0.mk (show w2.heap.size < gm by rw [hgm, World.size_alloc]; omega); have MB := Aside0.mk hbm; have B6 := Aside0.mk (below_step B4.out hb); clear hbm hb hgm; have HJ := Aside0.mk (impl_IsTurnable.J.begin_ HB.out BF.out BX.out B6.out MB.out GM.out A2.out); have fm := blk_frozen MB.out 0; have cm := (blk_cell MB.out 0).trans (show (#[Value.map none] : Array Value)[0]? = some (.map none) from rfl))
      | ((with_reducible refine gate_dst (N := 12) rfl ?_); clear fm cm; generalize (w6.setCell ⟨gm, 0, none⟩ (.map (some w2.heap.size))) = w8 at HJ ⊢; have cf0 := (blk_cell HJ.out.hf 0).trans (show (#[.int .i64 a, .int .i64 a2, .int .i64 s, .int .i64 m, .int .i64 b, .bool bw] : Array Value)[0]? = some (.int .i64 a) from rfl); have cf1 := (blk_cell HJ.out.hf 1).trans (show (#[.int .i64 a, .int .i64 a2, .int .i64 s, .int .i64 m, .int .i64 b, .bool bw] : Array Value)[1]? = some (.int .i64 a2) from rfl); have cf2 := (blk_cell HJ.out.hf 2).trans (show (#[.int .i64 a, .int .i64 a2, .int .i64 s, .int .i64 m, .int .i64 b, .bool bw] : Array Value)[2]? = some (.int .i64 s) from rfl); have cf3 := (blk_cell HJ.out.hf 3).trans (show (#[.int .i64 a, .int .i64 a2, .int .i64 s, .int .i64 m, .int .i64 b, .bool bw] : Array Value)[3]? = some (.int .i64 m) from rfl); have cf4 := (blk_cell HJ.out.hf 4).trans (show (#[.int .i64 a, .int .i64 a2, .int .i64 s, .int .i64 m, .int .i64 b, .bool bw] : Array Value)[4]? = some (.int .i64 b) from rfl); have cf5 := (blk_cell HJ.out.hf 5).trans (show (#[.int .i64 a, .int .i64 a2, .int .i64 s, .int .i64 m, .int .i64 b, .bool bw] : Array Value)[5]? = some (.bool bw) from rfl))
      | (go_at_call 75; ((with_reducible refine (impl_Second_pairs.callsG 76 EG.out _ a a2 s m b bw lo hi (impl_IsTurnable.J r0 a a2 s m b bw x lo hi w gm gf gx w2.heap.size) _ A1.out ?s1 ?s2 ?s3 ?s4 ?s5 ?s6).mono ?_); (case s1 => exact ⟨HL.out.1, HL.out.2.1⟩); (case s2 => exact HL.out.2.2); (case s3 => exact fun y z W W' hb_ hj_ => hj_.later hb_); (case s4 => exact fun y W h1_ h2_ hj_ => hj_.turn h2_); (case s5 => exact fun y z W h1_ h2_ h3_ h4_ hj_ => hj_.round (below_size HB.out) h2_ h4_); (case s6 => exact HJ.out); rintro e w7 ⟨rfl, hj⟩; clear cf0 cf1 cf2 cf3 cf4 cf5 HJ; have HJ := Aside0.mk hj; clear hj)))
    have hLEN := fun ty => (HJ.out.last.below (below_drew (Below.refl _ _))).len ty
    have c1b0 := eq_true C1.out
    have c1b1 : decide (0 ≤ wrap64 (2 * b)) = true := decide_eq_true C1.out
    have hwh := HWH.out
    have hji4_ : (IntKind.i64.wrap (1 * 2 ^ min (wrap64 (2 * b)).toNat 64)) = wh := hwh
    have hji4z : (wrap64 (2 * b)) ≤ 64 → (IntKind.i64.wrap (1 * 2 ^ (wrap64 (2 * b)).toNat)) = wh := shl_small hwh
    have hji4u : (IntKind.i64.wrap (2 ^ min (wrap64 (2 * b)).toNat 64)) = wh := by have h_ := hji4_; rw [Int.one_mul] at h_; exact h_
    have hji4v : (wrap64 (2 * b)) ≤ 64 → (IntKind.i64.wrap (2 ^ (wrap64 (2 * b)).toNat)) = wh := fun hle_ => by have h_ := hji4z hle_; rw [Int.one_mul] at h_; exact h_
    have hji4y : (wrap64 (1 * 2 ^ min (wrap64 (2 * b)).toNat 64)) = wh := (i64_w _).symm.trans hji4_
    have hji4x : (wrap64 (2 * b)) ≤ 64 → (wrap64 (1 * 2 ^ (wrap64 (2 * b)).toNat)) = wh := fun h_ => (i64_w _).symm.trans (hji4z h_)
    refine start_ (n := 10) (S := fun w' => w'.cell? ⟨gm, 0, none⟩ = some (.map (some w2.heap.size)) ∧ w'.cell? ⟨gf, 4, none⟩ = some (.int .i64 b)) (ds := []) #[false, false, false, false, false, false, false, false, false, false] (by kernel_rfl) rfl rfl ⟨(blk_cell (blk_drew HJ.out.hm) 0).trans rfl, (blk_cell (blk_drew HJ.out.hf) 4).trans rfl⟩ (fun hHeld => ?_)
    refine pure_ (i := 2) (N := some 17) (v := ?_) (a' := ?_) #[false, false, true, false, false, false, false, false, false, false] rfl rfl (by kernel_rfl) (fun _ _ _ h => h) (Or.inl ⟨by rfl, ?_⟩) ?_ ?_
    rotate_left
    · intro w'
      go_simp
      with_reducible rfl
    rotate_left
    · simp only [Act.put, List.setIfInBounds_toArray, List.set_cons_zero, List.set_cons_succ, i64_w, i32_w]
      rfl
    refine pure_ (i := 3) (N := some 18) (v := ?_) (a' := ?_) #[false, false, true, true, false, false, false, false, false, false] rfl rfl (by kernel_rfl) (fun _ _ _ h => h) (Or.inl ⟨by rfl, ?_⟩) ?_ ?_
    rotate_left
    · intro w'
      go_simp
      with_reducible rfl
    rotate_left
    · simp only [Act.put, List.setIfInBounds_toArray, List.set_cons_zero, List.set_cons_succ, i64_w, i32_w]
      rfl
    refine take_ (i := 0) (N := some 15) (v := ?_) (a' := ?_) #[true, false, true, true, false, false, false, false, false, false] rfl rfl (by kernel_rfl) (fun _ _ _ h => h) (Or.inl ⟨by rfl, ?_⟩) hHeld ?_ ?_
    rotate_left
    · rintro w' ⟨s0, s1⟩
      go_simp
      with_reducible rfl
    rotate_left
    · simp only [Act.put, List.setIfInBounds_toArray, List.set_cons_zero, List.set_cons_succ, i64_w, i32_w]
      rfl
    refine take_ (i := 4) (N := some 19) (v := ?_) (a' := ?_) #[true, false, true, true, true, false, false, false, false, false] rfl rfl (by kernel_rfl) (fun _ _ _ h => h) (Or.inl ⟨by rfl, ?_⟩) hHeld ?_ ?_
    rotate_left
    · rintro w' ⟨s0, s1⟩
      go_simp
      with_reducible rfl
    rotate_left
    · simp only [Act.put, List.setIfInBounds_toArray, List.set_cons_zero, List.set_cons_succ, i64_w, i32_w]
      rfl
    refine pure_ (i := 5) (N := some 20) (v := ?_) (a' := ?_) #[true, false, true, true, true, true, false, false, false, false] rfl rfl (by kernel_rfl) (fun _ _ _ h => h) (Or.inl ⟨by rfl, ?_⟩) ?_ ?_
    rotate_left
    · intro w'
      go_simp
      with_reducible rfl
    rotate_left
    · simp only [Act.put, List.setIfInBounds_toArray, List.set_cons_zero, List.set_cons_succ, i64_w, i32_w]
      rfl
    refine pure_ (i := 6) (N := some 21) (v := ?_) (a' := ?_) #[true, false, true, true, true, true, true, false, false, false] rfl rfl (by kernel_rfl) (fun _ _ _ h => h) (Or.inl ⟨by rfl, ?_⟩) ?_ ?_
    rotate_left
    · intro w'
      go_simp
      with_reducible rfl
    rotate_left
    · simp only [Act.put, List.setIfInBounds_toArray, List.set_cons_zero, List.set_cons_succ, i64_w, i32_w]
      rfl
    refine one_ (i := 1) (N := some 16) #[true, true, true, true, true, true, true, false, false, false] rfl rfl (by kernel_rfl) (by decide) (fun K hK => ?_)
    refine value_ (w1 := w7.drew) (v := .int .i64 (r0.length : Int)) (by rfl) rfl ?_ ?_
    · go_simp
    refine hK.out _ _ ⟨(blk_cell (blk_drew HJ.out.hm) 0).trans rfl, (blk_cell (blk_drew HJ.out.hf) 4).trans rfl⟩ (fun hHeld => ?_)
    clear hK K
    refine norm_ (a' := ?_) ?_ ?_
    rotate_left
    · show Act.put _ (some 16) _ = _
      simp only [Act.put, List.setIfInBounds_toArray, List.set_cons_zero, List.set_cons_succ, i64_w, i32_w]
      rfl
    refine pure_ (i := 7) (N := some 22) (v := ?_) (a' := ?_) #[true, true, true, true, true, true, true, true, false, false] rfl rfl (by kernel_rfl) (fun _ _ _ h => h) (Or.inl ⟨by rfl, ?_⟩) ?_ ?_
    rotate_left
    · intro w'
      go_simp
      with_reducible rfl
    rotate_left
    · simp only [Act.put, List.setIfInBounds_toArray, List.set_cons_zero, List.set_cons_succ, i64_w, i32_w]
      rfl
    refine pure_ (i := 8) (N := some 4) (v := ?_) (a' := ?_) #[true, true, true, true, true, true, true, true, true, false] rfl rfl (by kernel_rfl) (fun _ _ _ h => h) (Or.inl ⟨by rfl, ?_⟩) ?_ ?_
    rotate_left
    · intro w'
      go_simp
      with_reducible rfl
    rotate_left
    · simp only [Act.put, List.setIfInBounds_toArray, List.set_cons_zero, List.set_cons_succ, i64_w, i32_w]
      rfl
    refine pure_ (i := 9) (N := some 5) (v := ?_) (a' := ?_) #[true, true, true, true, true, true, true, true, true, true] rfl rfl (by kernel_rfl) (fun _ _ _ h => h) (Or.inl ⟨by rfl, ?_⟩) ?_ ?_
    rotate_left
    · intro w'
      go_simp
      with_reducible rfl
    rotate_left
    · simp only [Act.put, List.setIfInBounds_toArray, List.set_cons_zero, List.set_cons_succ, i64_w, i32_w]
      rfl
    refine done_ (by kernel_rfl) ?_
    go_wp2
    go_ret2
    exact ⟨by first | rfl | (simp; done), below_drew HJ.out.below⟩

/-! ### laws_FnExactIsTurnable: function 9 -/
def laws_FnExactIsTurnable.f (k : Nat) (a0_0 : Int) (a0_1 : Int) (a0_2 : Int) (a0_3 : Int) (a0_4 : Int) (a0_5 : Bool) (a1 : Int) : Option (Bool) := (laws_toSecond.f a0_0 a0_1 a0_2 a0_3 a0_4 a0_5).bind fun bt281 => ((spec_IsTurnable.f k bt281.1 bt281.2.1 bt281.2.2.1 bt281.2.2.2.1 bt281.2.2.2.2.1 bt281.2.2.2.2.2 a1).bind fun bt287 => ((laws_toSecond.f a0_0 a0_1 a0_2 a0_3 a0_4 a0_5).bind fun bt289 => ((impl_IsTurnable.f k bt289.1 bt289.2.1 bt289.2.2.1 bt289.2.2.2.1 bt289.2.2.2.2.1 bt289.2.2.2.2.2 a1).bind fun bt295 => (if (bt295.1 != bt287.1) = true then (some false) else (if (bt295.2 != bt287.2) = true then (some false) else (some true))))))
theorem laws_FnExactIsTurnable.mono : ∀ a0 a1 a2 a3 a4 a5 a6 k, LeO (laws_FnExactIsTurnable.f k a0 a1 a2 a3 a4 a5 a6) (laws_FnExactIsTurnable.f (k + 1) a0 a1 a2 a3 a4 a5 a6) := by
  intro a0 a1 a2 a3 a4 a5 a6 k
  unfold laws_FnExactIsTurnable.f
  repeat' first
      | (with_reducible exact impl_IsTurnable.mono _ _ _ _ _ _ _ _)
      | (with_reducible exact spec_IsTurnable.mono _ _ _ _ _ _ _ _)
      | (with_reducible exact LeO.refl _)
      | (with_reducible exact LeO.none _)
      | (with_reducible refine LeO.ite ?_ ?_)
      | (with_reducible refine LeO.bind ?_ (fun _ => ?_))
      | exact impl_IsTurnable.mono _ _ _ _ _ _ _ _
      | exact spec_IsTurnable.mono _ _ _ _ _ _ _ _
      | exact LeO.none _
      | refine LeO.ite ?_ ?_
      | refine LeO.bind ?_ (fun _ => ?_)
set_option maxHeartbeats 8000000 in
set_option maxRecDepth 100000 in
theorem laws_FnExactIsTurnable.calls (k : Nat) (a0_0 : Int) (a0_1 : Int) (a0_2 : Int) (a0_3 : Int) (a0_4 : Int) (a0_5 : Bool) (a1 : Int) (r : Bool) (w : World) (h : laws_FnExactIsTurnable.f k a0_0 a0_1 a0_2 a0_3 a0_4 a0_5 a1 = some r) :
    Calls Try.prog 9 #[.agg #[.int .i64 a0_0, .int .i64 a0_1, .int .i64 a0_2, .int .i64 a0_3, .int .i64 a0_4, .bool a0_5], .int .i64 a1] w fun e w' => e = .returned (.bool r) ∧ Below w.heap.size w w' := by
  have hu37 := Try.underlying37
  have HB := Aside0.mk (Below.refl w.heap.size w)
  have H : ((laws_toSecond.f a0_0 a0_1 a0_2 a0_3 a0_4 a0_5).bind fun bt281 => ((spec_IsTurnable.f k bt281.1 bt281.2.1 bt281.2.2.1 bt281.2.2.2.1 bt281.2.2.2.2.1 bt281.2.2.2.2.2 a1).bind fun bt287 => ((laws_toSecond.f a0_0 a0_1 a0_2 a0_3 a0_4 a0_5).bind fun bt289 => ((impl_IsTurnable.f k bt289.1 bt289.2.1 bt289.2.2.1 bt289.2.2.2.1 bt289.2.2.2.2.1 bt289.2.2.2.2.2 a1).bind fun bt295 => (if (bt295.1 != bt287.1) = true then (some false) else (if (bt295.2 != bt287.2) = true then (some false) else (some true))))))) = some r := h
  clear h
  replace H := Option.bind_eq_some_iff.mp H
  obtain ⟨⟨t281, t282, t283, t284, t285, t286⟩, A30, H⟩ := H
  replace H : ((spec_IsTurnable.f k t281 t282 t283 t284 t285 t286 a1).bind fun bt287 => ((laws_toSecond.f a0_0 a0_1 a0_2 a0_3 a0_4 a0_5).bind fun bt289 => ((impl_IsTurnable.f k bt289.1 bt289.2.1 bt289.2.2.1 bt289.2.2.2.1 bt289.2.2.2.2.1 bt289.2.2.2.2.2 a1).bind fun bt295 => (if (bt295.1 != bt287.1) = true then (some false) else (if (bt295.2 != bt287.2) = true then (some false) else (some true)))))) = some r := H
  have A3 := Aside0.mk A30
  clear A30
  replace H := Option.bind_eq_some_iff.mp H
  obtain ⟨⟨t287, t288⟩, A40, H⟩ := H
  replace H : ((laws_toSecond.f a0_0 a0_1 a0_2 a0_3 a0_4 a0_5).bind fun bt289 => ((impl_IsTurnable.f k bt289.1 bt289.2.1 bt289.2.2.1 bt289.2.2.2.1 bt289.2.2.2.2.1 bt289.2.2.2.2.2 a1).bind fun bt295 => (if (bt295.1 != t287) = true then (some false) else (if (bt295.2 != t288) = true then (some false) else (some true))))) = some r := H
  have A4 := Aside0.mk A40
  clear A40
  replace H := Option.bind_eq_some_iff.mp H
  obtain ⟨⟨t289, t290, t291, t292, t293, t294⟩, A50, H⟩ := H
  replace H : ((impl_IsTurnable.f k t289 t290 t291 t292 t293 t294 a1).bind fun bt295 => (if (bt295.1 != t287) = true then (some false) else (if (bt295.2 != t288) = true then (some false) else (some true)))) = some r := H
  have A5 := Aside0.mk A50
  clear A50
  replace H := Option.bind_eq_some_iff.mp H
  obtain ⟨⟨t295, t296⟩, A60, H⟩ := H
  replace H : (if (t295 != t287) = true then (some false) else (if (t296 != t288) = true then (some false) else (some true))) = some r := H
  have A6 := Aside0.mk A60
  clear A60
  by_cases c7 : (t295 != t287) = true
  · rw [if_pos c7] at H
    have c7b0 : (t295 != t287) = true := c7
    (try (have c7b1 : decide (t295 = t287) = false := by simpa using c7))
    (try (have c7b2 : (t295 == t287) = false := by simpa using c7))
    (try (have c7b3 : ¬ (t295 = t287) := by simpa using c7))
    clear c7
    obtain rfl := Option.some.inj H
    go_enter Try.func9, Try.ntmps9
    go_wp2_with (first | ((with_reducible refine gate_dst (N := 2) rfl ?_); refine box_event ?hg (N := 2) ?hd (cs := #[.int .i64 a0_0, .int .i64 a0_1, .int .i64 a0_2, .int .i64 a0_3, .int .i64 a0_4, .bool a0_5]) (t := 37) ?hr ?_; (case hd => rfl); (case hg => rfl); (case hr => first | (go_simp; done) | (go_simp; rfl)); intro gb280 hg w8 hbox hb; have n0_ := Aside0.mk (below_step (by repeat (first | (with_reducible first | exact HB.out | apply below_alloc | apply pw_below_drewN | apply below_drew1) | exact HB.out)) hb); have n1_ := Aside0.mk (hbox); have n2_ := Aside0.mk ((by rw [hg]; exact (below_size (by repeat (first | (with_reducible first | exact HB.out | apply below_alloc | apply pw_below_drewN | apply below_drew1) | exact HB.out))) : w.heap.size ≤ gb280)); have n3_ := Aside0.mk ((by rw [hg]; exact (below_size (by repeat (first | (with_reducible first | exact HB.out | apply below_alloc | apply pw_below_drewN | apply below_drew1) | exact HB.out))) : w.heap.size ≤ gb280)); clear HB; have HB := n0_; have BK280 := n1_; have GW280 := n2_; have GE280 := n3_; clear n0_ n1_ n2_ n3_; clear hb hbox hg; have hcz9_0 : w8.cell? ⟨gb280, 0, none⟩ = some (.int .i64 a0_0) := (blk_cell BK280.out 0).trans rfl; have hcz9_1 : w8.cell? ⟨gb280, 1, none⟩ = some (.int .i64 a0_1) := (blk_cell BK280.out 1).trans rfl; have hcz9_2 : w8.cell? ⟨gb280, 2, none⟩ = some (.int .i64 a0_2) := (blk_cell BK280.out 2).trans rfl; have hcz9_3 : w8.cell? ⟨gb280, 3, none⟩ = some (.int .i64 a0_3) := (blk_cell BK280.out 3).trans rfl; have hcz9_4 : w8.cell? ⟨gb280, 4, none⟩ = some (.int .i64 a0_4) := (blk_cell BK280.out 4).trans rfl; have hcz9_5 : w8.cell? ⟨gb280, 5, none⟩ = some (.bool a0_5) := (blk_cell BK280.out 5).trans rfl; have hfz9_0 := blk_frozen BK280.out 0; have hfz9_1 := blk_frozen BK280.out 1; have hfz9_2 := blk_frozen BK280.out 2; have hfz9_3 := blk_frozen BK280.out 3; have hfz9_4 := blk_frozen BK280.out 4; have hfz9_5 := blk_frozen BK280.out 5) | ((with_reducible refine gate_callee (f := 19) rfl ?_); refine goesL_ (some 11) rfl rfl Try.func19 (by kernel_rfl) rfl #[.agg #[.int .i64 a0_0, .int .i64 a0_1, .int .i64 a0_2, .int .i64 a0_3, .int .i64 a0_4, .bool a0_5]] rfl (by (try simp only [List.map_toArray, List.map_cons, List.map_nil]); first | done | rfl | (simp only [List.length_drop, List.length_take]; rfl)) ?_; (with_reducible refine (laws_toSecond.calls a0_0 a0_1 a0_2 a0_3 a0_4 a0_5 t281 t282 t283 t284 t285 t286 _ A3.out).mono ?_); rintro e w10 ⟨rfl, hb⟩; refine ⟨_, rfl, ?_⟩; have n0_ := Aside0.mk (blk_below (g := gb280) (o := .cells #[.int .i64 a0_0, .int .i64 a0_1, .int .i64 a0_2, .int .i64 a0_3, .int .i64 a0_4, .bool a0_5] 37 (0, 0)) (by (with_reducible repeat (first | refine blk_drewN ?_ _ | refine blk_drew ?_ | refine blk_alloc ?_ _)); exact BK280.out) hb); have n1_ := Aside0.mk (below_step (by repeat (first | (with_reducible first | exact HB.out | apply below_alloc | apply pw_below_drewN | apply below_drew1 | refine below_set ?_ GE280.out) | exact HB.out)) hb); clear BK280; clear HB; have BK280 := n0_; have HB := n1_; clear n0_ n1_; (try clear hb); (try clear hb2); (try clear hk); (try clear hi)) | ((with_reducible refine gate_callee (f := 34) rfl ?_); refine goesL_ (some 13) rfl rfl Try.func34 (by kernel_rfl) rfl #[.agg #[.int .i64 t281, .int .i64 t282, .int .i64 t283, .int .i64 t284, .int .i64 t285, .bool t286], .int .i64 a1] rfl (by (try simp only [List.map_toArray, List.map_cons, List.map_nil]); first | done | rfl | (simp only [List.length_drop, List.length_take]; rfl)) ?_; (with_reducible refine (spec_IsTurnable.calls k t281 t282 t283 t284 t285 t286 a1 t287 t288 _ A4.out).mono ?_); rintro e w11 ⟨rfl, hb⟩; refine ⟨_, rfl, ?_⟩; have n0_ := Aside0.mk (blk_below (g := gb280) (o := .cells #[.int .i64 a0_0, .int .i64 a0_1, .int .i64 a0_2, .int .i64 a0_3, .int .i64 a0_4, .bool a0_5] 37 (0, 0)) (by (with_reducible repeat (first | refine blk_drewN ?_ _ | refine blk_drew ?_ | refine blk_alloc ?_ _)); exact BK280.out) hb); have n1_ := Aside0.mk (below_step (by repeat (first | (with_reducible first | exact HB.out | apply below_alloc | apply pw_below_drewN | apply below_drew1 | refine below_set ?_ GE280.out) | exact HB.out)) hb); clear BK280; clear HB; have BK280 := n0_; have HB := n1_; clear n0_ n1_; (try clear hb); (try clear hb2); (try clear hk); (try clear hi); have hcz12_0 : w11.cell? ⟨gb280, 0, none⟩ = some (.int .i64 a0_0) := (blk_cell BK280.out 0).trans rfl; have hcz12_1 : w11.cell? ⟨gb280, 1, none⟩ = some (.int .i64 a0_1) := (blk_cell BK280.out 1).trans rfl; have hcz12_2 : w11.cell? ⟨gb280, 2, none⟩ = some (.int .i64 a0_2) := (blk_cell BK280.out 2).trans rfl; have hcz12_3 : w11.cell? ⟨gb280, 3, none⟩ = some (.int .i64 a0_3) := (blk_cell BK280.out 3).trans rfl; have hcz12_4 : w11.cell? ⟨gb280, 4, none⟩ = some (.int .i64 a0_4) := (blk_cell BK280.out 4).trans rfl; have hcz12_5 : w11.cell? ⟨gb280, 5, none⟩ = some (.bool a0_5) := (blk_cell BK280.out 5).trans rfl; have hfz12_0 := blk_frozen BK280.out 0; have hfz12_1 := blk_frozen BK280.out 1; have hfz12_2 := blk_frozen BK280.out 2; have hfz12_3 := blk_frozen BK280.out 3; have hfz12_4 := blk_frozen BK280.out 4; have hfz12_5 := blk_frozen BK280.out 5) | ((with_reducible refine gate_callee (f := 19) rfl ?_); refine goesL_ (some 18) rfl rfl Try.func19 (by kernel_rfl) rfl #[.agg #[.int .i64 a0_0, .int .i64 a0_1, .int .i64 a0_2, .int .i64 a0_3, .int .i64 a0_4, .bool a0_5]] rfl (by (try simp only [List.map_toArray, List.map_cons, List.map_nil]); first | done | rfl | (simp only [List.length_drop, List.length_take]; rfl)) ?_; (with_reducible refine (laws_toSecond.calls a0_0 a0_1 a0_2 a0_3 a0_4 a0_5 t289 t290 t291 t292 t293 t294 _ A5.out).mono ?_); rintro e w13 ⟨rfl, hb⟩; refine ⟨_, rfl, ?_⟩; have n0_ := Aside0.mk (blk_below (g := gb280) (o := .cells #[.int .i64 a0_0, .int .i64 a0_1, .int .i64 a0_2, .int .i64 a0_3, .int .i64 a0_4, .bool a0_5] 37 (0, 0)) (by (with_reducible repeat (first | refine blk_drewN ?_ _ | refine blk_drew ?_ | refine blk_alloc ?_ _)); exact BK280.out) hb); have n1_ := Aside0.mk (below_step (by repeat (first | (with_reducible first | exact HB.out | apply below_alloc | apply pw_below_drewN | apply below_drew1 | refine below_set ?_ GE280.out) | exact HB.out)) hb); clear BK280; clear HB; have BK280 := n0_; have HB := n1_; clear n0_ n1_; (try clear hb); (try clear hb2); (try clear hk); (try clear hi)) | ((with_reducible refine gate_callee (f := 35) rfl ?_); refine goesL_ (some 20) rfl rfl Try.func35 (by kernel_rfl) rfl #[.agg #[.int .i64 t289, .int .i64 t290, .int .i64 t291, .int .i64 t292, .int .i64 t293, .bool t294], .int .i64 a1] rfl (by (try simp only [List.map_toArray, List.map_cons, List.map_nil]); first | done | rfl | (simp only [List.length_drop, List.length_take]; rfl)) ?_; (with_reducible refine (impl_IsTurnable.calls k t289 t290 t291 t292 t293 t294 a1 t295 t296 _ A6.out).mono ?_); rintro e w14 ⟨rfl, hb⟩; refine ⟨_, rfl, ?_⟩; have n0_ := Aside0.mk (blk_below (g := gb280) (o := .cells #[.int .i64 a0_0, .int .i64 a0_1, .int .i64 a0_2, .int .i64 a0_3, .int .i64 a0_4, .bool a0_5] 37 (0, 0)) (by (with_reducible repeat (first | refine blk_drewN ?_ _ | refine blk_drew ?_ | refine blk_alloc ?_ _)); exact BK280.out) hb); have n1_ := Aside0.mk (below_step (by repeat (first | (with_reducible first | exact HB.out | apply below_alloc | apply pw_below_drewN | apply below_drew1 | refine below_set ?_ GE280.out) | exact HB.out)) hb); clear BK280; clear HB; have BK280 := n0_; have HB := n1_; clear n0_ n1_; (try clear hb); (try clear hb2); (try clear hk); (try clear hi)))
    go_ret
    exact ⟨by first | rfl | (simp [errW_none, errW_some] <;> rfl) | (simp [*, errW_none, errW_some] <;> rfl), by repeat (first | (with_reducible first | exact HB.out | apply below_alloc | apply pw_below_drewN | apply below_drew1 | refine below_set ?_ GE280.out) | exact HB.out)⟩
  · rw [if_neg c7] at H
    have c7b0 : (t295 != t287) = false := by simpa using c7
    (try (have c7b1 : decide (t295 = t287) = true := by simpa using c7))
    (try (have c7b2 : (t295 == t287) = true := by simpa using c7))
    clear c7
    by_cases c15 : (t296 != t288) = true
    · rw [if_pos c15] at H
      have c15b0 : (t296 != t288) = true := c15
      (try (have c15b1 : decide (t296 = t288) = false := by simpa using c15))
      (try (have c15b2 : (t296 == t288) = false := by simpa using c15))
      (try (have c15b3 : ¬ (t296 = t288) := by simpa using c15))
      clear c15
      obtain rfl := Option.some.inj H
      go_enter Try.func9, Try.ntmps9
      go_wp2_with (first | ((with_reducible refine gate_dst (N := 2) rfl ?_); refine box_event ?hg (N := 2) ?hd (cs := #[.int .i64 a0_0, .int .i64 a0_1, .int .i64 a0_2, .int .i64 a0_3, .int .i64 a0_4, .bool a0_5]) (t := 37) ?hr ?_; (case hd => rfl); (case hg => rfl); (case hr => first | (go_simp; done) | (go_simp; rfl)); intro gb280 hg w16 hbox hb; have n0_ := Aside0.mk (below_step (by repeat (first | (with_reducible first | exact HB.out | apply below_alloc | apply pw_below_drewN | apply below_drew1) | exact HB.out)) hb); have n1_ := Aside0.mk (hbox); have n2_ := Aside0.mk ((by rw [hg]; exact (below_size (by repeat (first | (with_reducible first | exact HB.out | apply below_alloc | apply pw_below_drewN | apply below_drew1) | exact HB.out))) : w.heap.size ≤ gb280)); have n3_ := Aside0.mk ((by rw [hg]; exact (below_size (by repeat (first | (with_reducible first | exact HB.out | apply below_alloc | apply pw_below_drewN | apply below_drew1) | exact HB.out))) : w.heap.size ≤ gb280)); clear HB; have HB := n0_; have BK280 := n1_; have GW280 := n2_; have GE280 := n3_; clear n0_ n1_ n2_ n3_; clear hb hbox hg; have hcz17_0 : w16.cell? ⟨gb280, 0, none⟩ = some (.int .i64 a0_0) := (blk_cell BK280.out 0).trans rfl; have hcz17_1 : w16.cell? ⟨gb280, 1, none⟩ = some (.int .i64 a0_1) := (blk_cell BK280.out 1).trans rfl; have hcz17_2 : w16.cell? ⟨gb280, 2, none⟩ = some (.int .i64 a0_2) := (blk_cell BK280.out 2).trans rfl; have hcz17_3 : w16.cell? ⟨gb280, 3, none⟩ = some (.int .i64 a0_3) := (blk_cell BK280.out 3).trans rfl; have hcz17_4 : w16.cell? ⟨gb280, 4, none⟩ = some (.int .i64 a0_4) := (blk_cell BK280.out 4).trans rfl; have hcz17_5 : w16.cell? ⟨gb280, 5, none⟩ = some (.bool a0_5) := (blk_cell BK280.out 5).trans rfl; have hfz17_0 := blk_frozen BK280.out 0; have hfz17_1 := blk_frozen BK280.out 1; have hfz17_2 := blk_frozen BK280.out 2; have hfz17_3 := blk_frozen BK280.out 3; have hfz17_4 := blk_frozen BK280.out 4; have hfz17_5 := blk_frozen BK280.out 5) | ((with_reducible refine gate_callee (f := 19) rfl ?_); refine goesL_ (some 11) rfl rfl Try.func19 (by kernel_rfl) rfl #[.agg #[.int .i64 a0_0, .int .i64 a0_1, .int .i64 a0_2, .int .i64 a0_3, .int .i64 a0_4, .bool a0_5]] rfl (by (try simp only [List.map_toArray, List.map_cons, List.map_nil]); first | done | rfl | (simp only [List.length_drop, List.length_take]; rfl)) ?_; (with_reducible refine (laws_toSecond.calls a0_0 a0_1 a0_2 a0_3 a0_4 a0_5 t281 t282 t283 t284 t285 t286 _ A3.out).mono ?_); rintro e w18 ⟨rfl, hb⟩; refine ⟨_, rfl, ?_⟩; have n0_ := Aside0.mk (blk_below (g := gb280) (o := .cells #[.int .i64 a0_0, .int .i64 a0_1, .int .i64 a0_2, .int .i64 a0_3, .int .i64 a0_4, .bool a0_5] 37 (0, 0)) (by (with_reducible repeat (first | refine blk_drewN ?_ _ | refine blk_drew ?_ | refine blk_alloc ?_ _)); exact BK280.out) hb); have n1_ := Aside0.mk (below_step (by repeat (first | (with_reducible first | exact HB.out | apply below_alloc | apply pw_below_drewN | apply below_drew1 | refine below_set ?_ GE280.out) | exact HB.out)) hb); clear BK280; clear HB; have BK280 := n0_; have HB := n1_; clear n0_ n1_; (try clear hb); (try clear hb2); (try clear hk); (try clear hi)) | ((with_reducible refine gate_callee (f := 34) rfl ?_); refine goesL_ (some 13) rfl rfl Try.func34 (by kernel_rfl) rfl #[.agg #[.int .i64 t281, .int .i64 t282, .int .i64 t283, .int .i64 t284, .int .i64 t285, .bool t286], .int .i64 a1] rfl (by (try simp only [List.map_toArray, List.map_cons, List.map_nil]); first | done | rfl | (simp only [List.length_drop, List.length_take]; rfl)) ?_; (with_reducible refine (spec_IsTurnable.calls k t281 t282 t283 t284 t285 t286 a1 t287 t288 _ A4.out).mono ?_); rintro e w19 ⟨rfl, hb⟩; refine ⟨_, rfl, ?_⟩; have n0_ := Aside0.mk (blk_below (g := gb280) (o := .cells #[.int .i64 a0_0, .int .i64 a0_1, .int .i64 a0_2, .int .i64 a0_3, .int .i64 a0_4, .bool a0_5] 37 (0, 0)) (by (with_reducible repeat (first | refine blk_drewN ?_ _ | refine blk_drew ?_ | refine blk_alloc ?_ _)); exact BK280.out) hb); have n1_ := Aside0.mk (below_step (by repeat (first | (with_reducible first | exact HB.out | apply below_alloc | apply pw_below_drewN | apply below_drew1 | refine below_set ?_ GE280.out) | exact HB.out)) hb); clear BK280; clear HB; have BK280 := n0_; have HB := n1_; clear n0_ n1_; (try clear hb); (try clear hb2); (try clear hk); (try clear hi); have hcz20_0 : w19.cell? ⟨gb280, 0, none⟩ = some (.int .i64 a0_0) := (blk_cell BK280.out 0).trans rfl; have hcz20_1 : w19.cell? ⟨gb280, 1, none⟩ = some (.int .i64 a0_1) := (blk_cell BK280.out 1).trans rfl; have hcz20_2 : w19.cell? ⟨gb280, 2, none⟩ = some (.int .i64 a0_2) := (blk_cell BK280.out 2).trans rfl; have hcz20_3 : w19.cell? ⟨gb280, 3, none⟩ = some (.int .i64 a0_3) := (blk_cell BK280.out 3).trans rfl; have hcz20_4 : w19.cell? ⟨gb280, 4, none⟩ = some (.int .i64 a0_4) := (blk_cell BK280.out 4).trans rfl; have hcz20_5 : w19.cell? ⟨gb280, 5, none⟩ = some (.bool a0_5) := (blk_cell BK280.out 5).trans rfl; have hfz20_0 := blk_frozen BK280.out 0; have hfz20_1 := blk_frozen BK280.out 1; have hfz20_2 := blk_frozen BK280.out 2; have hfz20_3 := blk_frozen BK280.out 3; have hfz20_4 := blk_frozen BK280.out 4; have hfz20_5 := blk_frozen BK280.out 5) | ((with_reducible refine gate_callee (f := 19) rfl ?_); refine goesL_ (some 18) rfl rfl Try.func19 (by kernel_rfl) rfl #[.agg #[.int .i64 a0_0, .int .i64 a0_1, .int .i64 a0_2, .int .i64 a0_3, .int .i64 a0_4, .bool a0_5]] rfl (by (try simp only [List.map_toArray, List.map_cons, List.map_nil]); first | done | rfl | (simp only [List.length_drop, List.length_take]; rfl)) ?_; (with_reducible refine (laws_toSecond.calls a0_0 a0_1 a0_2 a0_3 a0_4 a0_5 t289 t290 t291 t292 t293 t294 _ A5.out).mono ?_); rintro e w21 ⟨rfl, hb⟩; refine ⟨_, rfl, ?_⟩; have n0_ := Aside0.mk (blk_below (g := gb280) (o := .cells #[.int .i64 a0_0, .int .i64 a0_1, .int .i64 a0_2, .int .i64 a0_3, .int .i64 a0_4, .bool a0_5] 37 (0, 0)) (by (with_reducible repeat (first | refine blk_drewN ?_ _ | refine blk_drew ?_ | refine blk_alloc ?_ _)); exact BK280.out) hb); have n1_ := Aside0.mk (below_step (by repeat (first | (with_reducible first | exact HB.out | apply below_alloc | apply pw_below_drewN | apply below_drew1 | refine below_set ?_ GE280.out) | exact HB.out)) hb); clear BK280; clear HB; have BK280 := n0_; have HB := n1_; clear n0_ n1_; (try clear hb); (try clear hb2); (try clear hk); (try clear hi)) | ((with_reducible refine gate_callee (f := 35) rfl ?_); refine goesL_ (some 20) rfl rfl Try.func35 (by kernel_rfl) rfl #[.agg #[.int .i64 t289, .int .i64 t290, .int .i64 t291, .int .i64 t292, .int .i64 t293, .bool t294], .int .i64 a1] rfl (by (try simp only [List.map_toArray, List.map_cons, List.map_nil]); first | done | rfl | (simp only [List.length_drop, List.length_take]; rfl)) ?_; (with_reducible refine (impl_IsTurnable.calls k t289 t290 t291 t292 t293 t294 a1 t295 t296 _ A6.out).mono ?_); rintro e w22 ⟨rfl, hb⟩; refine ⟨_, rfl, ?_⟩; have n0_ := Aside0.mk (blk_below (g := gb280) (o := .cells #[.int .i64 a0_0, .int .i64 a0_1, .int .i64 a0_2, .int .i64 a0_3, .int .i64 a0_4, .bool a0_5] 37 (0, 0)) (by (with_reducible repeat (first | refine blk_drewN ?_ _ | refine blk_drew ?_ | refine blk_alloc ?_ _)); exact BK280.out) hb); have n1_ := Aside0.mk (below_step (by repeat (first | (with_reducible first | exact HB.out | apply below_alloc | apply pw_below_drewN | apply below_drew1 | refine below_set ?_ GE280.out) | exact HB.out)) hb); clear BK280; clear HB; have BK280 := n0_; have HB := n1_; clear n0_ n1_; (try clear hb); (try clear hb2); (try clear hk); (try clear hi)))
      go_ret
      exact ⟨by first | rfl | (simp [errW_none, errW_some] <;> rfl) | (simp [*, errW_none, errW_some] <;> rfl), by repeat (first | (with_reducible first | exact HB.out | apply below_alloc | apply pw_below_drewN | apply below_drew1 | refine below_set ?_ GE280.out) | exact HB.out)⟩
    · rw [if_neg c15] at H
      have c15b0 : (t296 != t288) = false := by simpa using c15
      (try (have c15b1 : decide (t296 = t288) = true := by simpa using c15))
      (try (have c15b2 : (t296 == t288) = true := by simpa using c15))
      clear c15
      obtain rfl := Option.some.inj H
      go_enter Try.func9, Try.ntmps9
      go_wp2_with (first | ((with_reducible refine gate_dst (N := 2) rfl ?_); refine box_event ?hg (N := 2) ?hd (cs := #[.int .i64 a0_0, .int .i64 a0_1, .int .i64 a0_2, .int .i64 a0_3, .int .i64 a0_4, .bool a0_5]) (t := 37) ?hr ?_; (case hd => rfl); (case hg => rfl); (case hr => first | (go_simp; done) | (go_simp; rfl)); intro gb280 hg w23 hbox hb; have n0_ := Aside0.mk (below_step (by repeat (first | (with_reducible first | exact HB.out | apply below_alloc | apply pw_below_drewN | apply below_drew1) | exact HB.out)) hb); have n1_ := Aside0.mk (hbox); have n2_ := Aside0.mk ((by rw [hg]; exact (below_size (by repeat (first | (with_reducible first | exact HB.out | apply below_alloc | apply pw_below_drewN | apply below_drew1) | exact HB.out))) : w.heap.size ≤ gb280)); have n3_ := Aside0.mk ((by rw [hg]; exact (below_size (by repeat (first | (with_reducible first | exact HB.out | apply below_alloc | apply pw_below_drewN | apply below_drew1) | exact HB.out))) : w.heap.size ≤ gb280)); clear HB; have HB := n0_; have BK280 := n1_; have GW280 := n2_; have GE280 := n3_; clear n0_ n1_ n2_ n3_; clear hb hbox hg; have hcz24_0 : w23.cell? ⟨gb280, 0, none⟩ = some (.int .i64 a0_0) := (blk_cell BK280.out 0).trans rfl; have hcz24_1 : w23.cell? ⟨gb280, 1, none⟩ = some (.int .i64 a0_1) := (blk_cell BK280.out 1).trans rfl; have hcz24_2 : w23.cell? ⟨gb280, 2, none⟩ = some (.int .i64 a0_2) := (blk_cell BK280.out 2).trans rfl; have hcz24_3 : w23.cell? ⟨gb280, 3, none⟩ = some (.int .i64 a0_3) := (blk_cell BK280.out 3).trans rfl; have hcz24_4 : w23.cell? ⟨gb280, 4, none⟩ = some (.int .i64 a0_4) := (blk_cell BK280.out 4).trans rfl; have hcz24_5 : w23.cell? ⟨gb280, 5, none⟩ = some (.bool a0_5) := (blk_cell BK280.out 5).trans rfl; have hfz24_0 := blk_frozen BK280.out 0; have hfz24_1 := blk_frozen BK280.out 1; have hfz24_2 := blk_frozen BK280.out 2; have hfz24_3 := blk_frozen BK280.out 3; have hfz24_4 := blk_frozen BK280.out 4; have hfz24_5 := blk_frozen BK280.out 5) | ((with_reducible refine gate_callee (f := 19) rfl ?_); refine goesL_ (some 11) rfl rfl Try.func19 (by kernel_rfl) rfl #[.agg #[.int .i64 a0_0, .int .i64 a0_1, .int .i64 a0_2, .int .i64 a0_3, .int .i64 a0_4, .bool a0_5]] rfl (by (try simp only [List.map_toArray, List.map_cons, List.map_nil]); first | done | rfl | (simp only [List.length_drop, List.length_take]; rfl)) ?_; (with_reducible refine (laws_toSecond.calls a0_0 a0_1 a0_2 a0_3 a0_4 a0_5 t281 t282 t283 t284 t285 t286 _ A3.out).mono ?_); rintro e w25 ⟨rfl, hb⟩; refine ⟨_, rfl, ?_⟩; have n0_ := Aside0.mk (blk_below (g := gb280) (o := .cells #[.int .i64 a0_0, .int .i64 a0_1, .int .i64 a0_2, .int .i64 a0_3, .int .i64 a0_4, .bool a0_5] 37 (0, 0)) (by (with_reducible repeat (first | refine blk_drewN ?_ _ | refine blk_drew ?_ | refine blk_alloc ?_ _)); exact BK280.out) hb); have n1_ := Aside0.mk (below_step (by repeat (first | (with_reducible first | exact HB.out | apply below_alloc | apply pw_below_drewN | apply below_drew1 | refine below_set ?_ GE280.out) | exact HB.out)) hb); clear BK280; clear HB; have BK280 := n0_; have HB := n1_; clear n0_ n1_; (try clear hb); (try clear hb2); (try clear hk); (try clear hi)) | ((with_reducible refine gate_callee (f := 34) rfl ?_); refine goesL_ (some 13) rfl rfl Try.func34 (by kernel_rfl) rfl #[.agg #[.int .i64 t281, .int .i64 t282, .int .i64 t283, .int .i64 t284, .int .i64 t285, .bool t286], .int .i64 a1] rfl (by (try simp only [List.map_toArray, List.map_cons, List.map_nil]); first | done | rfl | (simp only [List.length_drop, List.length_take]; rfl)) ?_; (with_reducible refine (spec_IsTurnable.calls k t281 t282 t283 t284 t285 t286 a1 t287 t288 _ A4.out).mono ?_); rintro e w26 ⟨rfl, hb⟩; refine ⟨_, rfl, ?_⟩; have n0_ := Aside0.mk (blk_below (g := gb280) (o := .cells #[.int .i64 a0_0, .int .i64 a0_1, .int .i64 a0_2, .int .i64 a0_3, .int .i64 a0_4, .bool a0_5] 37 (0, 0)) (by (with_reducible repeat (first | refine blk_drewN ?_ _ | refine blk_drew ?_ | refine blk_alloc ?_ _)); exact BK280.out) hb); have n1_ := Aside0.mk (below_step (by repeat (first | (with_reducible first | exact HB.out | apply below_alloc | apply pw_below_drewN | apply below_drew1 | refine below_set ?_ GE280.out) | exact HB.out)) hb); clear BK280; clear HB; have BK280 := n0_; have HB := n1_; clear n0_ n1_; (try clear hb); (try clear hb2); (try clear hk); (try clear hi); have hcz27_0 : w26.cell? ⟨gb280, 0, none⟩ = some (.int .i64 a0_0) := (blk_cell BK280.out 0).trans rfl; have hcz27_1 : w26.cell? ⟨gb280, 1, none⟩ = some (.int .i64 a0_1) := (blk_cell BK280.out 1).trans rfl; have hcz27_2 : w26.cell? ⟨gb280, 2, none⟩ = some (.int .i64 a0_2) := (blk_cell BK280.out 2).trans rfl; have hcz27_3 : w26.cell? ⟨gb280, 3, none⟩ = some (.int .i64 a0_3) := (blk_cell BK280.out 3).trans rfl; have hcz27_4 : w26.cell? ⟨gb280, 4, none⟩ = some (.int .i64 a0_4) := (blk_cell BK280.out 4).trans rfl; have hcz27_5 : w26.cell? ⟨gb280, 5, none⟩ = some (.bool a0_5) := (blk_cell BK280.out 5).trans rfl; have hfz27_0 := blk_frozen BK280.out 0; have hfz27_1 := blk_frozen BK280.out 1; have hfz27_2 := blk_frozen BK280.out 2; have hfz27_3 := blk_frozen BK280.out 3; have hfz27_4 := blk_frozen BK280.out 4; have hfz27_5 := blk_frozen BK280.out 5) | ((with_reducible refine gate_callee (f := 19) rfl ?_); refine goesL_ (some 18) rfl rfl Try.func19 (by kernel_rfl) rfl #[.agg #[.int .i64 a0_0, .int .i64 a0_1, .int .i64 a0_2, .int .i64 a0_3, .int .i64 a0_4, .bool a0_5]] rfl (by (try simp only [List.map_toArray, List.map_cons, List.map_nil]); first | done | rfl | (simp only [List.length_drop, List.length_take]; rfl)) ?_; (with_reducible refine (laws_toSecond.calls a0_0 a0_1 a0_2 a0_3 a0_4 a0_5 t289 t290 t291 t292 t293 t294 _ A5.out).mono ?_); rintro e w28 ⟨rfl, hb⟩; refine ⟨_, rfl, ?_⟩; have n0_ := Aside0.mk (blk_below (g := gb280) (o := .cells #[.int .i64 a0_0, .int .i64 a0_1, .int .i64 a0_2, .int .i64 a0_3, .int .i64 a0_4, .bool a0_5] 37 (0, 0)) (by (with_reducible repeat (first | refine blk_drewN ?_ _ | refine blk_drew ?_ | refine blk_alloc ?_ _)); exact BK280.out) hb); have n1_ := Aside0.mk (below_step (by repeat (first | (with_reducible first | exact HB.out | apply below_alloc | apply pw_below_drewN | apply below_drew1 | refine below_set ?_ GE280.out) | exact HB.out)) hb); clear BK280; clear HB; have BK280 := n0_; have HB := n1_; clear n0_ n1_; (try clear hb); (try clear hb2); (try clear hk); (try clear hi)) | ((with_reducible refine gate_callee (f := 35) rfl ?_); refine goesL_ (some 20) rfl rfl Try.func35 (by kernel_rfl) rfl #[.agg #[.int .i64 t289, .int .i64 t290, .int .i64 t291, .int .i64 t292, .int .i64 t293, .bool t294], .int .i64 a1] rfl (by (try simp only [List.map_toArray, List.map_cons, List.map_nil]); first | done | rfl | (simp only [List.length_drop, List.length_take]; rfl)) ?_; (with_reducible refine (impl_IsTurnable.calls k t289 t290 t291 t292 t293 t294 a1 t295 t296 _ A6.out).mono ?_); rintro e w29 ⟨rfl, hb⟩; refine ⟨_, rfl, ?_⟩; have n0_ := Aside0.mk (blk_below (g := gb280) (o := .cells #[.int .i64 a0_0, .int .i64 a0_1, .int .i64 a0_2, .int .i64 a0_3, .int .i64 a0_4, .bool a0_5] 37 (0, 0)) (by (with_reducible repeat (first | refine blk_drewN ?_ _ | refine blk_drew ?_ | refine blk_alloc ?_ _)); exact BK280.out) hb); have n1_ := Aside0.mk (below_step (by repeat (first | (with_reducible first | exact HB.out | apply below_alloc | apply pw_below_drewN | apply below_drew1 | refine below_set ?_ GE280.out) | exact HB.out)) hb); clear BK280; clear HB; have BK280 := n0_; have HB := n1_; clear n0_ n1_; (try clear hb); (try clear hb2); (try clear hk); (try clear hi)))
      go_ret
      exact ⟨by first | rfl | (simp [errW_none, errW_some] <;> rfl) | (simp [*, errW_none, errW_some] <;> rfl), by repeat (first | (with_reducible first | exact HB.out | apply below_alloc | apply pw_below_drewN | apply below_drew1 | refine below_set ?_ GE280.out) | exact HB.out)⟩

/-- THE ONE PURE STATEMENT of laws_FnExactIsTurnable: yours. -/
def laws_FnExactIsTurnable.Pure : Prop := ∀ (a0_0 : Int) (a0_1 : Int) (a0_2 : Int) (a0_3 : Int) (a0_4 : Int) (a0_5 : Bool) (a1 : Int), (Lit.int .i64 a0_0).wf = true → (Lit.int .i64 a0_1).wf = true → (Lit.int .i64 a0_2).wf = true → (Lit.int .i64 a0_3).wf = true → (Lit.int .i64 a0_4).wf = true → (Lit.int .i64 a1).wf = true → ∃ k, laws_FnExactIsTurnable.f k a0_0 a0_1 a0_2 a0_3 a0_4 a0_5 a1 = some true
theorem laws_FnExactIsTurnable.walk (P : laws_FnExactIsTurnable.Pure) (a0_0 : Int) (a0_1 : Int) (a0_2 : Int) (a0_3 : Int) (a0_4 : Int) (a0_5 : Bool) (a1 : Int) (w : World) (w0_0 : (Lit.int .i64 a0_0).wf = true) (w0_1 : (Lit.int .i64 a0_1).wf = true) (w0_2 : (Lit.int .i64 a0_2).wf = true) (w0_3 : (Lit.int .i64 a0_3).wf = true) (w0_4 : (Lit.int .i64 a0_4).wf = true) (w1 : (Lit.int .i64 a1).wf = true) :
    Calls Try.prog 9 #[.agg #[.int .i64 a0_0, .int .i64 a0_1, .int .i64 a0_2, .int .i64 a0_3, .int .i64 a0_4, .bool a0_5], .int .i64 a1] w fun e w' => e = .returned (.bool true) ∧ Below w.heap.size w w' := by
  obtain ⟨k, h⟩ := P a0_0 a0_1 a0_2 a0_3 a0_4 a0_5 a1 w0_0 w0_1 w0_2 w0_3 w0_4 w1
  refine (laws_FnExactIsTurnable.calls k a0_0 a0_1 a0_2 a0_3 a0_4 a0_5 a1 true w h).mono ?_
  rintro e w' ⟨rfl, hd⟩
  exact ⟨rfl, hd⟩

end Go.Proofs.Ytjknlfgphlopnaa.PFnExactIsTurnable
