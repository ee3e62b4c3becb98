-- Written by this session's pp.py over the kit's print.
import Derived.Test.YtjknlfgphlopnaaPFnExactDeadBandx0
import Derived.Test.YtjknlfgphlopnaaPFnExactDeadBandx1
import Derived.Test.YtjknlfgphlopnaaPFnExactDeadBandx4
namespace Go.Proofs.Ytjknlfgphlopnaa.PFnExactDeadBand
open Go.RowKit Go.Proofs.YtjknlfgphlopnaaW.PrintWords Go.Proofs.YtjknlfgphlopnaaW.PrintLast Go.Proofs.YtjknlfgphlopnaaW.PrintMore
attribute [local go_sem] max2_int min2_int max_two min_two max_three min_three max_four min_four   -- for this text's walks alone
set_option linter.unusedVariables false
set_option linter.unusedSimpArgs false

/-! ### impl_First_step: function 50 -/
def impl_First_step.f (k : Nat) (a0_0 : Int) (a0_1 : Int) (a0_2 : Int) (a0_3 : Int) (a0_4 : Bool) (a1 : Int) (a2 : Int) : Option (Int) := (impl_First_raw.f k a0_0 a0_1 a0_2 a0_3 a0_4 a1 a2).bind fun t268 => ((impl_Word_fit.f a0_3 a0_4 t268).bind fun t269 => (some t269))
theorem impl_First_step.mono : ∀ a0 a1 a2 a3 a4 a5 a6 k, LeO (impl_First_step.f k a0 a1 a2 a3 a4 a5 a6) (impl_First_step.f (k + 1) a0 a1 a2 a3 a4 a5 a6) := by
  intro a0 a1 a2 a3 a4 a5 a6 k
  unfold impl_First_step.f
  repeat' first
      | (with_reducible exact impl_First_raw.mono _ _ _ _ _ _ _ _)
      | (with_reducible exact LeO.refl _)
      | (with_reducible exact LeO.none _)
      | (with_reducible refine LeO.ite ?_ ?_)
      | (with_reducible refine LeO.bind ?_ (fun _ => ?_))
      | exact impl_First_raw.mono _ _ _ _ _ _ _ _
      | exact LeO.none _
      | refine LeO.ite ?_ ?_
      | refine LeO.bind ?_ (fun _ => ?_)
def impl_First_step.T1 : Bool × List (List Nat × List Nat) := (true, [([], []), ([0], [0]), ([], []), ([], []), ([], []), ([2, 3, 4], [2, 3, 4]), ([1, 5, 5], [1, 5]), ([6, 6, 0, 1, 2, 3, 4, 5, 6], [6])])
def impl_First_step.B1 : List Nat := [0, 1, 0, 0, 0, 28, 63, 127]
theorem impl_First_step.tab1 : rtab .any (opsOf Try.f50 1) = impl_First_step.T1 := by kernel_rfl
theorem impl_First_step.bits1 : waitsOk impl_First_step.T1.2 impl_First_step.B1 = true := by kernel_rfl
set_option maxHeartbeats 8000000 in
set_option maxRecDepth 100000 in
theorem impl_First_step.calls (k : Nat) (a0_0 : Int) (a0_1 : Int) (a0_2 : Int) (a0_3 : Int) (a0_4 : Bool) (a1 : Int) (a2 : Int) (r : Int) (w : World) (h : impl_First_step.f k a0_0 a0_1 a0_2 a0_3 a0_4 a1 a2 = some r) :
    Calls Try.prog 50 #[.agg #[.int .i64 a0_0, .int .i64 a0_1, .int .i64 a0_2, .int .i64 a0_3, .bool a0_4], .int .i64 a1, .int .i64 a2] w fun e w' => e = .returned (.int .i64 r) ∧ Below w.heap.size w w' := by
  have hu31 := Try.underlying31
  have hu29 := Try.underlying29
  have HB := Aside0.mk (Below.refl w.heap.size w)
  have H : ((impl_First_raw.f k a0_0 a0_1 a0_2 a0_3 a0_4 a1 a2).bind fun t268 => ((impl_Word_fit.f a0_3 a0_4 t268).bind fun t269 => (some t269))) = some r := h
  clear h
  replace H := Option.bind_eq_some_iff.mp H
  obtain ⟨t268, A40, H⟩ := H
  replace H : ((impl_Word_fit.f a0_3 a0_4 t268).bind fun t269 => (some t269)) = some r := H
  have A4 := Aside0.mk A40
  clear A40
  replace H := Option.bind_eq_some_iff.mp H
  obtain ⟨t269, A50, H⟩ := H
  replace H : (some t269) = some r := H
  have A5 := Aside0.mk A50
  clear A50
  obtain rfl := Option.some.inj H
  go_enter Try.func50, Try.ntmps50
  try go_wp2_with (first | ((with_reducible refine gate_dst (N := 3) rfl ?_); refine box_event ?hg (N := 3) ?hd (cs := #[.int .i64 a0_0, .int .i64 a0_1, .int .i64 a0_2, .int .i64 a0_3, .bool a0_4]) (t := 31) ?hr ?_; (case hd => rfl); (case hg => rfl); (case hr => first | (go_simp; done) | (go_simp; rfl)); intro gb267 hg w6 hbox hb; have n0_ := Aside0.mk (below_step (by repeat (first | (with_reducible first | exact HB.out | apply below_alloc | apply pw_below_drewN | apply below_drew1) | exact HB.out)) hb); have n1_ := Aside0.mk (hbox); have n2_ := Aside0.mk ((by rw [hg]; exact (below_size (by repeat (first | (with_reducible first | exact HB.out | apply below_alloc | apply pw_below_drewN | apply below_drew1) | exact HB.out))) : w.heap.size ≤ gb267)); have n3_ := Aside0.mk ((by rw [hg]; exact (below_size (by repeat (first | (with_reducible first | exact HB.out | apply below_alloc | apply pw_below_drewN | apply below_drew1) | exact HB.out))) : w.heap.size ≤ gb267)); clear HB; have HB := n0_; have BK267 := n1_; have GW267 := n2_; have GE267 := n3_; clear n0_ n1_ n2_ n3_; clear hb hbox hg))
  have n0_ := Aside0.mk (blk_drew BK267.out)
  have n1_ := Aside0.mk (below_drew1 HB.out)
  clear BK267
  clear HB
  have BK267 := n0_
  have HB := n1_
  clear n0_ n1_
  refine start_ (n := 8) (S := fun w' => w'.cell? ⟨gb267, 0, none⟩ = some (.int .i64 a0_0) ∧ w'.cell? ⟨gb267, 1, none⟩ = some (.int .i64 a0_1) ∧ w'.cell? ⟨gb267, 2, none⟩ = some (.int .i64 a0_2) ∧ w'.cell? ⟨gb267, 3, none⟩ = some (.int .i64 a0_3) ∧ w'.cell? ⟨gb267, 4, none⟩ = some (.bool a0_4)) (ds := []) #[false, false, false, false, false, false, false, false] (by kernel_rfl) rfl rfl ⟨(blk_cell BK267.out 0).trans rfl, (blk_cell BK267.out 1).trans rfl, (blk_cell BK267.out 2).trans rfl, (blk_cell BK267.out 3).trans rfl, (blk_cell BK267.out 4).trans rfl⟩ (fun hHeld => ?_); refine with_tabW impl_First_step.tab1 impl_First_step.bits1 (fun HT_ HW_ => ?_)
  generalize w6.drew = w7 at BK267 HB hHeld ⊢
  refine pure_ (i := 0) (N := some 7) (v := ?_) (a' := ?_) #[true, false, false, false, false, false, false, false] rfl rfl (any_of HT_.out (by kernel_rfl)) (fun _ _ _ h => h) (Or.inl ⟨by rfl, ?_⟩) ?_ ?_
  rotate_left
  · intro w'
    go_simp
    with_reducible rfl
  rotate_left
  · simp only [Act.put, List.setIfInBounds_toArray, List.set_cons_zero, List.set_cons_succ, i64_w, i32_w]
    rfl
  refine pure_ (i := 3) (N := some 10) (v := ?_) (a' := ?_) #[true, false, false, true, false, false, false, false] rfl rfl (any_of HT_.out (by kernel_rfl)) (fun _ _ _ h => h) (Or.inl ⟨by rfl, ?_⟩) ?_ ?_
  rotate_left
  · intro w'
    go_simp
    with_reducible rfl
  rotate_left
  · simp only [Act.put, List.setIfInBounds_toArray, List.set_cons_zero, List.set_cons_succ, i64_w, i32_w]
    rfl
  refine pure_ (i := 4) (N := some 11) (v := ?_) (a' := ?_) #[true, false, false, true, true, false, false, false] rfl rfl (any_of HT_.out (by kernel_rfl)) (fun _ _ _ h => h) (Or.inl ⟨by rfl, ?_⟩) ?_ ?_
  rotate_left
  · intro w'
    go_simp
    with_reducible rfl
  rotate_left
  · simp only [Act.put, List.setIfInBounds_toArray, List.set_cons_zero, List.set_cons_succ, i64_w, i32_w]
    rfl
  refine take_ (i := 1) (N := some 8) (v := ?_) (a' := ?_) #[true, true, false, true, true, false, false, false] rfl rfl (take_ofW HT_.out HW_.out (by kernel_rfl)) (fun _ _ _ h => h) (Or.inl ⟨by rfl, ?_⟩) hHeld ?_ ?_
  rotate_left
  · rintro w' ⟨s0, s1, s2, s3, s4⟩
    go_simp
    with_reducible rfl
  rotate_left
  · simp only [Act.put, List.setIfInBounds_toArray, List.set_cons_zero, List.set_cons_succ, i64_w, i32_w]
    rfl
  refine take_ (i := 2) (N := some 9) (v := ?_) (a' := ?_) #[true, true, true, true, true, false, false, false] rfl rfl (take_ofW HT_.out HW_.out (by kernel_rfl)) (fun _ _ _ h => h) (Or.inl ⟨by rfl, ?_⟩) hHeld ?_ ?_
  rotate_left
  · rintro w' ⟨s0, s1, s2, s3, s4⟩
    go_simp
    with_reducible rfl
  rotate_left
  · simp only [Act.put, List.setIfInBounds_toArray, List.set_cons_zero, List.set_cons_succ, i64_w, i32_w]
    rfl
  refine one_ (i := 5) (N := some 12) #[true, true, true, true, true, true, false, false] rfl rfl (one_of HT_.out (by kernel_rfl)) (by decide) (fun K hK => ?_)
  refine goes_ Try.func49 (by kernel_rfl) rfl #[.agg #[.int .i64 a0_0, .int .i64 a0_1, .int .i64 a0_2, .int .i64 a0_3, .bool a0_4], .int .i64 a1, .int .i64 a2] (by rfl) rfl rfl (by (try simp only [List.map_toArray, List.map_cons, List.map_nil]); first | done | rfl | (simp only [List.length_drop, List.length_take]; rfl)) ?_
  with_reducible refine (impl_First_raw.calls k a0_0 a0_1 a0_2 a0_3 a0_4 a1 a2 t268 _ A4.out).mono ?_
  rintro e w8 ⟨rfl, hb⟩
  refine ⟨_, rfl, ?_⟩
  have n0_ := Aside0.mk (blk_below (g := gb267) (o := .cells #[.int .i64 a0_0, .int .i64 a0_1, .int .i64 a0_2, .int .i64 a0_3, .bool a0_4] 31 (0, 0)) (by (with_reducible repeat (first | refine blk_drewN ?_ _ | refine blk_drew ?_ | refine blk_alloc ?_ _)); exact BK267.out) hb)
  have n1_ := Aside0.mk (below_step (by repeat (first | (with_reducible first | exact HB.out | apply below_alloc | apply pw_below_drewN | apply below_drew1 | refine below_set ?_ GE267.out) | exact HB.out)) hb)
  clear BK267
  clear HB
  have BK267 := n0_
  have HB := n1_
  clear n0_ n1_
  (try clear hb)
  (try clear hb2)
  (try clear hk)
  (try clear hi)
  refine hK.out _ _ ⟨(blk_cell BK267.out 0).trans rfl, (blk_cell BK267.out 1).trans rfl, (blk_cell BK267.out 2).trans rfl, (blk_cell BK267.out 3).trans rfl, (blk_cell BK267.out 4).trans rfl⟩ (fun hHeld => ?_)
  clear hK K
  refine norm_ (a' := ?_) ?_ ?_
  rotate_left
  · show Act.put _ (some 12) _ = _
    simp only [Act.put, List.setIfInBounds_toArray, List.set_cons_zero, List.set_cons_succ, i64_w, i32_w]
    rfl
  refine one_ (i := 6) (N := some 13) #[true, true, true, true, true, true, true, false] rfl rfl (one_of HT_.out (by kernel_rfl)) (by decide) (fun K hK => ?_)
  refine goes_ Try.func97 (by kernel_rfl) rfl #[.agg #[.int .i64 a0_3, .bool a0_4], .int .i64 t268] (by rfl) rfl rfl (by (try simp only [List.map_toArray, List.map_cons, List.map_nil]); first | done | rfl | (simp only [List.length_drop, List.length_take]; rfl)) ?_
  with_reducible refine (impl_Word_fit.calls a0_3 a0_4 t268 t269 _ A5.out).mono ?_
  rintro e w9 ⟨rfl, hb⟩
  refine ⟨_, rfl, ?_⟩
  have n0_ := Aside0.mk (blk_below (g := gb267) (o := .cells #[.int .i64 a0_0, .int .i64 a0_1, .int .i64 a0_2, .int .i64 a0_3, .bool a0_4] 31 (0, 0)) (by (with_reducible repeat (first | refine blk_drewN ?_ _ | refine blk_drew ?_ | refine blk_alloc ?_ _)); exact BK267.out) hb)
  have n1_ := Aside0.mk (below_step (by repeat (first | (with_reducible first | exact HB.out | apply below_alloc | apply pw_below_drewN | apply below_drew1 | refine below_set ?_ GE267.out) | exact HB.out)) hb)
  clear BK267
  clear HB
  have BK267 := n0_
  have HB := n1_
  clear n0_ n1_
  (try clear hb)
  (try clear hb2)
  (try clear hk)
  (try clear hi)
  refine hK.out _ _ ⟨(blk_cell BK267.out 0).trans rfl, (blk_cell BK267.out 1).trans rfl, (blk_cell BK267.out 2).trans rfl, (blk_cell BK267.out 3).trans rfl, (blk_cell BK267.out 4).trans rfl⟩ (fun hHeld => ?_)
  clear hK K
  refine norm_ (a' := ?_) ?_ ?_
  rotate_left
  · show Act.put _ (some 13) _ = _
    simp only [Act.put, List.setIfInBounds_toArray, List.set_cons_zero, List.set_cons_succ, i64_w, i32_w]
    rfl
  refine pure_ (i := 7) (N := some 6) (v := ?_) (a' := ?_) #[true, true, true, true, true, true, true, true] rfl rfl (any_of HT_.out (by kernel_rfl)) (fun _ _ _ h => h) (Or.inl ⟨by rfl, ?_⟩) ?_ ?_
  rotate_left
  · intro w'
    go_simp
    with_reducible rfl
  rotate_left
  · simp only [Act.put, List.setIfInBounds_toArray, List.set_cons_zero, List.set_cons_succ, i64_w, i32_w]
    rfl
  refine done_ (done_of HT_.out (by kernel_rfl)) ?_
  try go_wp2
  go_ret
  exact ⟨by first | rfl | (simp [errW_none, errW_some] <;> rfl) | (simp [*, errW_none, errW_some] <;> rfl), by repeat (first | (with_reducible first | exact HB.out | apply below_alloc | apply pw_below_drewN | apply below_drew1 | refine below_set ?_ GE267.out) | exact HB.out)⟩

/-! ### impl_Word_all: function 117 -/
set_option maxHeartbeats 4000000 in
set_option maxRecDepth 100000 in
theorem impl_Word_all.callsG (g : Nat) (eg : ∀ args w, (callFunc g args).run Try.prog w = .ok (.enter g args) w) (cap : Array Value) (b : Int) (bw : Bool) (lo hi : Int) (J : Int → World → Prop) (w : World) (hE : impl_Word_ends.f b bw = some (lo, hi)) (hlo : -9223372036854775808 ≤ lo ∧ lo ≤ hi + 1) (hhi : hi < 9223372036854775807) (hJ0 : ∀ W, Below w.heap.size w W → J lo W) (hd : ∀ y W n, J y W → J y (W.drewN n))
    (hs : ∀ y W, lo ≤ y → y ≤ hi → J y W → Calls Try.prog g (#[.int .i64 y] ++ cap) W fun e W' => e = .returned (.tuple #[]) ∧ J (y + 1) W') :
    Calls Try.prog 117 #[.agg #[.int .i64 b, .bool bw], .func (.func g) #[] cap] w fun e w' => e = .returned (.tuple #[]) ∧ J (hi + 1) w' := by
  have HE := Aside0.mk hE
  have HJ0 := Aside0.mk hJ0
  have HS := Aside0.mk hs
  have HD := Aside0.mk hd
  have HL := Aside0.mk hlo
  have HH := Aside0.mk hhi
  have HB := Aside0.mk (Below.refl w.heap.size w)
  clear hE hJ0 hs hd hlo hhi
  have cb0 : (w.alloc (Obj.cells #[.int .i64 b, .bool bw] 29)).cell? ⟨w.heap.size, 0, none⟩ = some (.int .i64 b) := (blk_cell (blk_new w _) 0).trans rfl
  have cb1 : (w.alloc (Obj.cells #[.int .i64 b, .bool bw] 29)).cell? ⟨w.heap.size, 1, none⟩ = some (.bool bw) := (blk_cell (blk_new w _) 1).trans rfl
  go_enter Try.func117, Try.ntmps117
  go_wp2_with (first
    | (go_at_call 95; ((with_reducible refine (impl_Word_ends.calls b bw lo hi _ HE.out).mono ?_); rintro e w5 ⟨rfl, hb⟩; have m1_ := Aside0.mk (below_step (by repeat (first | (with_reducible first | exact HB.out | apply below_alloc | apply pw_below_drewN | apply below_drew1) | exact HB.out)) hb); clear HB hb cb0 cb1; have HB := m1_; clear m1_)))
  go_loopg [6] (hi + 1 - lo).toNat (fun kq v6 w' => ∃ (y : Int), v6 = .int .i64 y ∧ Aside0 (lo ≤ y ∧ y ≤ hi + 1 ∧ hi + 1 - y ≤ (kq : Int)) ∧ Aside0 (J y w'))
  case atStart => exact ⟨lo, rfl, ⟨by have := HL.out; omega⟩, ⟨HJ0.out _ (by repeat (first | (with_reducible first | exact HB.out | apply below_alloc | apply pw_below_drewN | apply below_drew1) | exact HB.out))⟩⟩
  case round =>
    clear HB
    obtain ⟨y, rfl, HY, HJ⟩ := hrel
    by_cases c3 : y ≤ hi
    · have c3b0 : decide (y ≤ hi) = true := decide_eq_true c3
      have hw1 : wrap64 (y + 1) = y + 1 := by
        have := HY.out; have := HH.out; have := HL.out
        unfold wrap64
        omega
      have c3 := Aside0.mk c3
      go_wp2_with (first | ((with_reducible refine (HS.out y _ HY.out.1 c3.out (by first | exact HJ.out | exact HD.out _ _ _ HJ.out)).mono ?_); rintro e w5 ⟨rfl, hj⟩; clear HJ; have HJ := Aside0.mk hj; clear hj))
      cases gk with
      | zero => exact absurd HY.out (by have := c3.out; omega)
      | succ k1 =>
        go_roundg k1
        case measure => omega
        case rel => exact ⟨y + 1, by first | rfl | (simp; done) | (simp [*]; done), ⟨by have := HY.out; have := c3.out; omega⟩, ⟨by first | exact HJ.out | exact HD.out _ _ _ HJ.out⟩⟩
    · have c3b0 : decide (y ≤ hi) = false := decide_eq_false c3
      have e : y = hi + 1 := by have := HY.out; omega
      subst e
      go_wp2
      go_end0
      exact ⟨rfl, by first | exact HJ.out | exact HD.out _ _ _ HJ.out⟩

/-! ### impl_First_cycles: function 67 -/
def impl_First_cycles.walk : Nat → Int → Int → Int → Int → Bool → Int → Int → Int → List Int → Int → Option (List Int × Int)
  | 0, _, _, _, _, _, _, _, _, _, _ => none
  | k + 1, a, s, m, b, bw, x, y, wh, q, z => if z > y then (if (q.length : Int) ≤ wh then (if q.length < 17592186044416 then ((impl_First_step.f k a s m b bw z x).bind fun z' => impl_First_cycles.walk k a s m b bw x y wh (q ++ [z]) z') else none) else some (q, z)) else some (q, z)
def impl_First_cycles.one (k : Nat) (a s m b : Int) (bw : Bool) (x y wh : Int) : Option (List Int × Int) := (impl_First_step.f k a s m b bw y x).bind fun z => impl_First_cycles.walk k a s m b bw x y wh [y] z
def impl_First_cycles.l0 : Nat → Int → Int → Int → Int → Bool → Int → Int → Int → List (List Int) → Int → Option (List (List Int))
  | 0, _, _, _, _, _, _, _, _, _, _ => none
  | k + 1, a, s, m, b, bw, x, wh, hi, o, y => if y ≤ hi then ((impl_First_cycles.one k a s m b bw x y wh).bind fun p => if p.2 = y then (if o.length < 5864062014805 then impl_First_cycles.l0 k a s m b bw x wh hi (o ++ [p.1]) (wrap64 (y + 1)) else none) else impl_First_cycles.l0 k a s m b bw x wh hi o (wrap64 (y + 1))) else some o
def impl_First_cycles.f (k : Nat) (a s m b : Int) (bw : Bool) (x : Int) : Option (List (List Int)) := if 0 ≤ b then ((impl_Word_ends.f b bw).bind fun e => if -9223372036854775808 ≤ e.1 ∧ e.1 ≤ e.2 + 1 ∧ e.2 < 9223372036854775807 then impl_First_cycles.l0 k a s m b bw x (shl .i64 1 b) e.2 [] e.1 else none) else none
theorem impl_First_cycles.mono_w : ∀ k a s m b bw x y wh q z, LeO (impl_First_cycles.walk k a s m b bw x y wh q z) (impl_First_cycles.walk (k + 1) a s m b bw x y wh q z)
  | 0, a, s, m, b, bw, x, y, wh, q, z => fun r h => by simp [impl_First_cycles.walk] at h
  | k + 1, a, s, m, b, bw, x, y, wh, q, z => by
    rw [impl_First_cycles.walk, impl_First_cycles.walk]
    exact LeO.ite (LeO.ite (LeO.ite (LeO.bind (impl_First_step.mono _ _ _ _ _ _ _ _) (fun z' => impl_First_cycles.mono_w k a s m b bw x y wh _ z')) (LeO.none _)) (LeO.refl _)) (LeO.refl _)
theorem impl_First_cycles.mono_o (k : Nat) (a s m b : Int) (bw : Bool) (x y wh : Int) : LeO (impl_First_cycles.one k a s m b bw x y wh) (impl_First_cycles.one (k + 1) a s m b bw x y wh) := by
  unfold impl_First_cycles.one
  exact LeO.bind (impl_First_step.mono _ _ _ _ _ _ _ _) (fun z => impl_First_cycles.mono_w k a s m b bw x y wh _ z)
theorem impl_First_cycles.mono_l : ∀ k a s m b bw x wh hi o y, LeO (impl_First_cycles.l0 k a s m b bw x wh hi o y) (impl_First_cycles.l0 (k + 1) a s m b bw x wh hi o y)
  | 0, a, s, m, b, bw, x, wh, hi, o, y => fun r h => by simp [impl_First_cycles.l0] at h
  | k + 1, a, s, m, b, bw, x, wh, hi, o, y => by
    rw [impl_First_cycles.l0, impl_First_cycles.l0]
    exact LeO.ite (LeO.bind (impl_First_cycles.mono_o k a s m b bw x y wh) (fun p => LeO.ite (LeO.ite (impl_First_cycles.mono_l k a s m b bw x wh hi _ _) (LeO.none _)) (impl_First_cycles.mono_l k a s m b bw x wh hi _ _))) (LeO.refl _)
theorem impl_First_cycles.mono : ∀ a s m b bw x k, LeO (impl_First_cycles.f k a s m b bw x) (impl_First_cycles.f (k + 1) a s m b bw x) := by
  intro a s m b bw x k
  unfold impl_First_cycles.f
  exact LeO.ite (LeO.bind (LeO.refl _) (fun e => LeO.ite (impl_First_cycles.mono_l _ _ _ _ _ _ _ _ _ _ _) (LeO.none _))) (LeO.none _)
set_option maxHeartbeats 4000000 in
set_option maxRecDepth 100000 in
theorem impl_First_cycles.lit (k gf gx gw go : Nat) (a s m b : Int) (bw : Bool) (x y wh : Int) (v : Value) (o : List (List Int)) (p : List Int × Int) (w0 W : World)
    (hbf : W.heap[gf]? = some (.cells #[.int .i64 a, .int .i64 s, .int .i64 m, .int .i64 b, .bool bw] 31 (0, 0))) (hbx : W.heap[gx]? = some (.cells #[.int .i64 x] 3 (0, 0))) (hbw : W.heap[gw]? = some (.cells #[.int .i64 wh] 3 (0, 0))) (hbo : W.heap[go]? = some (.cells #[v] 48 (0, 0)))
    (HS : Kd.S (Kd.slice 3 (Kd.int .i64)) 26 W w0.heap.size (fun k_ => k_ ≠ gx ∧ k_ ≠ gw) v o) (hB : Below w0.heap.size w0 W) (hgo : w0.heap.size ≤ go) (h : impl_First_cycles.one k a s m b bw x y wh = some p) (hlim : p.2 = y → o.length < 5864062014805) :
    Calls Try.prog 118 #[.int .i64 y, .pointer (some ⟨gf, 0, none⟩), .pointer (some ⟨gx, 0, none⟩), .pointer (some ⟨gw, 0, none⟩), .pointer (some ⟨go, 0, none⟩)] W fun e W' => e = .returned (.tuple #[]) ∧ Below w0.heap.size w0 W' ∧
      W'.heap[gf]? = some (.cells #[.int .i64 a, .int .i64 s, .int .i64 m, .int .i64 b, .bool bw] 31 (0, 0)) ∧ W'.heap[gx]? = some (.cells #[.int .i64 x] 3 (0, 0)) ∧ W'.heap[gw]? = some (.cells #[.int .i64 wh] 3 (0, 0)) ∧
      ∃ v', W'.heap[go]? = some (.cells #[v'] 48 (0, 0)) ∧ Kd.S (Kd.slice 3 (Kd.int .i64)) 26 W' w0.heap.size (fun k_ => k_ ≠ gx ∧ k_ ≠ gw) v' (if p.2 = y then o ++ [p.1] else o) := by
  unfold impl_First_cycles.one at h
  obtain ⟨z0, A0_, h1⟩ := Option.bind_eq_some_iff.mp h
  have A0 := Aside0.mk A0_
  have H' := Aside0.mk h1
  clear h A0_ h1
  have cf0 : W.cell? ⟨gf, 0, none⟩ = some (.int .i64 a) := (blk_cell hbf 0).trans rfl
  have cf1 : W.cell? ⟨gf, 1, none⟩ = some (.int .i64 s) := (blk_cell hbf 1).trans rfl
  have cf2 : W.cell? ⟨gf, 2, none⟩ = some (.int .i64 m) := (blk_cell hbf 2).trans rfl
  have cf3 : W.cell? ⟨gf, 3, none⟩ = some (.int .i64 b) := (blk_cell hbf 3).trans rfl
  have cf4 : W.cell? ⟨gf, 4, none⟩ = some (.bool bw) := (blk_cell hbf 4).trans rfl
  have cx : W.cell? ⟨gx, 0, none⟩ = some (.int .i64 x) := (blk_cell hbx 0).trans rfl
  have cw : W.cell? ⟨gw, 0, none⟩ = some (.int .i64 wh) := (blk_cell hbw 0).trans rfl
  have co : W.cell? ⟨go, 0, none⟩ = some v := (blk_cell hbo 0).trans rfl
  obtain ⟨q0, hq0⟩ : ∃ q : List Int, q = [y] := ⟨_, rfl⟩
  rw [← hq0] at H'
  have Nq := Aside0.mk hq0
  clear hq0
  have HB0 := Aside0.mk (Below.refl W.heap.size W)
  have CF0 := Aside0.mk cf0
  have CF1 := Aside0.mk cf1
  have CF2 := Aside0.mk cf2
  have CF3 := Aside0.mk cf3
  have CF4 := Aside0.mk cf4
  have CX := Aside0.mk cx
  have CW := Aside0.mk cw
  have CO := Aside0.mk co
  have FB := Aside0.mk hbf
  have XB := Aside0.mk hbx
  have WB := Aside0.mk hbw
  have OB := Aside0.mk hbo
  have HSA := Aside0.mk HS
  have HBA := Aside0.mk hB
  have HGO := Aside0.mk hgo
  have HLIM := Aside0.mk hlim
  clear hbf hbx hbw hbo HS hB hgo hlim
  go_enter Try.func118, Try.ntmps118
  go_wp2_with (first
    | ((with_reducible refine gate_dst (N := 9) rfl ?_); refine Kd.R_lit (Kd.int .i64) _ 3 ?hg (N := 9) ?hd (xs := ([y] : List Int)) (inner := [.int .i64 y]) (ok := fun _ => True) (okp := fun _ => True) ?hr ?hp (fun _ hk => hk) trivial (Below.refl _ _) (Nat.le_refl _) (by simp) ?_; (case hd => rfl); (case hg => rfl); (case hr => first | (go_simp; done) | (go_simp; rfl)); (case hp => exact (Reps.one (show Kd.M (Kd.int .i64) _ _ _ y [.int .i64 y] from rfl) (Reps.none _ _))); intro v156 w9 ho hb hg_ hnew_; clear hg_ hnew_; rw [← Nq.out] at ho; have HL := Aside0.mk (Kd.R_lower ho (below_size (by repeat (first | (with_reducible first | exact HB0.out | apply below_alloc | apply pw_below_drewN | apply below_drew1) | exact HB0.out)))); have m1_ := Aside0.mk (below_step (by repeat (first | (with_reducible first | exact HB0.out | apply below_alloc | apply pw_below_drewN | apply below_drew1) | exact HB0.out)) hb); clear HB0 ho hb; have HB0 := m1_; clear m1_; clear cf0 cf1 cf2 cf3 cf4 cx cw co; have cf0 := (HB0.out.cell (World.block_lt_of_cell? _ _ CF0.out)).trans CF0.out; have cf1 := (HB0.out.cell (World.block_lt_of_cell? _ _ CF1.out)).trans CF1.out; have cf2 := (HB0.out.cell (World.block_lt_of_cell? _ _ CF2.out)).trans CF2.out; have cf3 := (HB0.out.cell (World.block_lt_of_cell? _ _ CF3.out)).trans CF3.out; have cf4 := (HB0.out.cell (World.block_lt_of_cell? _ _ CF4.out)).trans CF4.out; have cx := (HB0.out.cell (World.block_lt_of_cell? _ _ CX.out)).trans CX.out; have cw := (HB0.out.cell (World.block_lt_of_cell? _ _ CW.out)).trans CW.out; have co := (HB0.out.cell (World.block_lt_of_cell? _ _ CO.out)).trans CO.out)
    | (go_at_call 50; ((with_reducible refine (impl_First_step.calls k a s m b bw y x z0 _ A0.out).mono ?_); rintro e w5 ⟨rfl, hb⟩; have m0_ := Aside0.mk (Kd.R_below (by (with_reducible repeat (first | apply Kd.R_alloc | apply Kd.R_drewN | apply Kd.R_drew)); exact HL.out) hb); have m1_ := Aside0.mk (below_step (by repeat (first | (with_reducible first | exact HB0.out | apply below_alloc | apply pw_below_drewN | apply below_drew1) | exact HB0.out)) hb); clear HL HB0 hb; have HL := m0_; have HB0 := m1_; clear m0_ m1_; clear cf0 cf1 cf2 cf3 cf4 cx cw co; have cf0 := (HB0.out.cell (World.block_lt_of_cell? _ _ CF0.out)).trans CF0.out; have cf1 := (HB0.out.cell (World.block_lt_of_cell? _ _ CF1.out)).trans CF1.out; have cf2 := (HB0.out.cell (World.block_lt_of_cell? _ _ CF2.out)).trans CF2.out; have cf3 := (HB0.out.cell (World.block_lt_of_cell? _ _ CF3.out)).trans CF3.out; have cf4 := (HB0.out.cell (World.block_lt_of_cell? _ _ CF4.out)).trans CF4.out; have cx := (HB0.out.cell (World.block_lt_of_cell? _ _ CX.out)).trans CX.out; have cw := (HB0.out.cell (World.block_lt_of_cell? _ _ CW.out)).trans CW.out; have co := (HB0.out.cell (World.block_lt_of_cell? _ _ CO.out)).trans CO.out)))
  go_loopg [6, 7] k (fun kq v6 v7 w' => ∃ (q : List Int) (z : Int), v7 = .int .i64 z ∧ Aside0 (impl_First_cycles.walk kq a s m b bw x y wh q z = some p) ∧ Aside0 (kq ≤ k) ∧ Aside0 (Kd.R (Kd.int .i64) 3 w' W.heap.size (fun _ => True) v6 q) ∧ Aside0 (Below W.heap.size W w'))
  case atStart => exact ⟨q0, z0, rfl, H', ⟨Nat.le_refl _⟩, ⟨(by (with_reducible repeat (first | apply Kd.R_alloc | apply Kd.R_drewN | apply Kd.R_drew)); exact HL.out)⟩, ⟨(by repeat (first | (with_reducible first | exact HB0.out | apply below_alloc | apply pw_below_drewN | apply below_drew1) | exact HB0.out))⟩⟩
  case round =>
    clear H' HL HB0 cf0 cf1 cf2 cf3 cf4 cx cw co
    try clear c1
    try clear p2
    obtain ⟨q, z, rfl, HA, HK1, HL, HB0⟩ := hrel
    have cf0 := (HB0.out.cell (World.block_lt_of_cell? _ _ CF0.out)).trans CF0.out; have cf1 := (HB0.out.cell (World.block_lt_of_cell? _ _ CF1.out)).trans CF1.out; have cf2 := (HB0.out.cell (World.block_lt_of_cell? _ _ CF2.out)).trans CF2.out; have cf3 := (HB0.out.cell (World.block_lt_of_cell? _ _ CF3.out)).trans CF3.out; have cf4 := (HB0.out.cell (World.block_lt_of_cell? _ _ CF4.out)).trans CF4.out; have cx := (HB0.out.cell (World.block_lt_of_cell? _ _ CX.out)).trans CX.out; have cw := (HB0.out.cell (World.block_lt_of_cell? _ _ CW.out)).trans CW.out; have co := (HB0.out.cell (World.block_lt_of_cell? _ _ CO.out)).trans CO.out
    cases gk with
    | zero => exact absurd HA.out (by simp [impl_First_cycles.walk])
    | succ k1 =>
      have H := HA.out
      clear HA
      simp only [impl_First_cycles.walk] at H
      obtain ⟨Aq, cq, eq_⟩ := Kd.R_slice HL.out
      subst eq_
      by_cases c3 : z > y
      · rw [if_pos c3] at H
        have c3b0 : decide (y < z) = true := decide_eq_true c3
        by_cases c4 : (q.length : Int) ≤ wh
        · rw [if_pos c4] at H
          have c4b0 : decide ((q.length : Int) ≤ wh) = true := decide_eq_true c4
          by_cases c5 : q.length < 17592186044416
          · rw [if_pos c5] at H
            obtain ⟨z1, A1_, H1⟩ := Option.bind_eq_some_iff.mp H
            have A1 := Aside0.mk A1_
            have H' := Aside0.mk H1
            have LM := Aside0.mk c5
            clear H A1_ H1 c5 c3 c4
            obtain ⟨q1, hq1⟩ : ∃ q1 : List Int, q1 = q ++ [z] := ⟨_, rfl⟩
            rw [← hq1] at H'
            have Nq1 := Aside0.mk hq1
            clear hq1
            go_wp2_with (first
              | ((with_reducible refine gate_builtin (b := .append) (xs := #[.tmp 23, .tmp 25]) rfl ?_); at_builtin; refine Kd.R_append (Kd.int .i64) (w0 := W) W.heap.size rfl (.tmp 23) (.tmp 25) 26 3 (.int .i64 0) 8 rfl Try.underlying26 info3 rfl (by decide) (by omega) (.slice Aq q.length cq) q z [.int .i64 z] (fun _ => True) (fun _ => False) rfl rfl ?aP (fun _ hk => hk.elim) ?aF ?aO ?aB ?aS ?aL ?_; (case aP => exact rfl); (case aB => exact (by repeat (first | (with_reducible first | exact HB0.out | apply below_alloc | apply pw_below_drewN | apply below_drew1) | exact HB0.out))); (case aF => exact (fun _ _ => trivial)); (case aO => exact (by (with_reducible repeat (first | apply Kd.R_alloc | apply Kd.R_drewN | apply Kd.R_drew)); exact HL.out)); (case aS => exact (below_size (by repeat (first | (with_reducible first | exact HB0.out | apply below_alloc | apply pw_below_drewN | apply below_drew1) | exact HB0.out)))); (case aL => have := LM.out; omega); intro v122 w9 ho hb hg hat; rw [← Nq1.out] at ho; clear HL HB0; have HL := Aside0.mk ho; have HB0 := Aside0.mk hb; clear ho hb hg hat; clear cf0 cf1 cf2 cf3 cf4 cx cw co; have cf0 := (HB0.out.cell (World.block_lt_of_cell? _ _ CF0.out)).trans CF0.out; have cf1 := (HB0.out.cell (World.block_lt_of_cell? _ _ CF1.out)).trans CF1.out; have cf2 := (HB0.out.cell (World.block_lt_of_cell? _ _ CF2.out)).trans CF2.out; have cf3 := (HB0.out.cell (World.block_lt_of_cell? _ _ CF3.out)).trans CF3.out; have cf4 := (HB0.out.cell (World.block_lt_of_cell? _ _ CF4.out)).trans CF4.out; have cx := (HB0.out.cell (World.block_lt_of_cell? _ _ CX.out)).trans CX.out; have cw := (HB0.out.cell (World.block_lt_of_cell? _ _ CW.out)).trans CW.out; have co := (HB0.out.cell (World.block_lt_of_cell? _ _ CO.out)).trans CO.out)
              | (go_at_call 50; ((with_reducible refine (impl_First_step.calls k1 a s m b bw z x z1 _ A1.out).mono ?_); rintro e w5 ⟨rfl, hb⟩; have m0_ := Aside0.mk (Kd.R_below (by (with_reducible repeat (first | apply Kd.R_alloc | apply Kd.R_drewN | apply Kd.R_drew)); exact HL.out) hb); have m1_ := Aside0.mk (below_step (by repeat (first | (with_reducible first | exact HB0.out | apply below_alloc | apply pw_below_drewN | apply below_drew1) | exact HB0.out)) hb); clear HL HB0 hb; have HL := m0_; have HB0 := m1_; clear m0_ m1_; clear cf0 cf1 cf2 cf3 cf4 cx cw co; have cf0 := (HB0.out.cell (World.block_lt_of_cell? _ _ CF0.out)).trans CF0.out; have cf1 := (HB0.out.cell (World.block_lt_of_cell? _ _ CF1.out)).trans CF1.out; have cf2 := (HB0.out.cell (World.block_lt_of_cell? _ _ CF2.out)).trans CF2.out; have cf3 := (HB0.out.cell (World.block_lt_of_cell? _ _ CF3.out)).trans CF3.out; have cf4 := (HB0.out.cell (World.block_lt_of_cell? _ _ CF4.out)).trans CF4.out; have cx := (HB0.out.cell (World.block_lt_of_cell? _ _ CX.out)).trans CX.out; have cw := (HB0.out.cell (World.block_lt_of_cell? _ _ CW.out)).trans CW.out; have co := (HB0.out.cell (World.block_lt_of_cell? _ _ CO.out)).trans CO.out)))
            go_roundg k1
            case measure => have := HK1.out; omega
            case rel => exact ⟨q1, z1, rfl, H', ⟨by have := HK1.out; omega⟩, ⟨(by (with_reducible repeat (first | apply Kd.R_alloc | apply Kd.R_drewN | apply Kd.R_drew)); exact HL.out)⟩, ⟨(by repeat (first | (with_reducible first | exact HB0.out | apply below_alloc | apply pw_below_drewN | apply below_drew1) | exact HB0.out))⟩⟩
          · rw [if_neg c5] at H
            cases H
        · rw [if_neg c4] at H
          have c4b0 : decide ((q.length : Int) ≤ wh) = false := decide_eq_false c4
          have hp := Option.some.inj H
          clear H
          subst hp
          have c6 : ¬ z = y := by omega
          have c6b0 : decide (z = y) = false := decide_eq_false c6
          go_wp2
          go_end0
          refine ⟨rfl, below_step HBA.out (by repeat (first | (with_reducible first | exact HB0.out | apply below_alloc | apply pw_below_drewN | apply below_drew1) | exact HB0.out)), blk_below FB.out (by repeat (first | (with_reducible first | exact HB0.out | apply below_alloc | apply pw_below_drewN | apply below_drew1) | exact HB0.out)), blk_below XB.out (by repeat (first | (with_reducible first | exact HB0.out | apply below_alloc | apply pw_below_drewN | apply below_drew1) | exact HB0.out)), blk_below WB.out (by repeat (first | (with_reducible first | exact HB0.out | apply below_alloc | apply pw_below_drewN | apply below_drew1) | exact HB0.out)), v, blk_below OB.out (by repeat (first | (with_reducible first | exact HB0.out | apply below_alloc | apply pw_below_drewN | apply below_drew1) | exact HB0.out)), ?_⟩
          try rw [if_neg c6]
          exact Kd.S_below HSA.out (by repeat (first | (with_reducible first | exact HB0.out | apply below_alloc | apply pw_below_drewN | apply below_drew1) | exact HB0.out))
      · rw [if_neg c3] at H
        have c3b0 : decide (y < z) = false := decide_eq_false c3
        have hp := Option.some.inj H
        clear H
        subst hp
        by_cases c6 : z = y
        · have c6b0 : decide (z = y) = true := decide_eq_true c6
          subst c6
          go_wp2_with (first | ((with_reducible refine gate_builtin (b := .append) (xs := #[.tmp 34, .tmp 36]) rfl ?_); at_builtin; refine Kd.S_append (Kd.slice 3 (Kd.int .i64)) (w0 := w0) w0.heap.size rfl (.tmp 34) (.tmp 36) 48 26 (.slice none 0 0) 24 rfl Try.underlying48 info26 rfl (by decide) (by omega) v o q [.slice Aq q.length cq] (fun k_ => k_ ≠ gx ∧ k_ ≠ gw) (fun k_ => some k_ = (.slice Aq q.length cq : Value).ownBlock) rfl rfl ?aP ?aK ?aF ?aO ?aB ?aS ?aL ?_; (case aP => exact Kd.M_row (Kd.R_tight rfl (Kd.R_lower (by (with_reducible repeat (first | apply Kd.R_alloc | apply Kd.R_drewN | apply Kd.R_drew)); exact HL.out) (below_size HBA.out)))); (case aK => exact fun k_ hk_ => have h1_ := Kd.R_base HL.out k_ hk_.symm; ⟨⟨fun e_ => by have := blk_lt XB.out; omega, fun e_ => by have := blk_lt WB.out; omega⟩, fun e_ => by have := Kd.S_lt HSA.out k_ e_.symm; omega⟩); (case aF => exact fun k_ hk_ => have h1_ := below_size (by repeat (first | (with_reducible first | exact HB0.out | apply below_alloc | apply pw_below_drewN | apply below_drew1) | exact HB0.out)); ⟨fun e_ => by have := blk_lt XB.out; omega, fun e_ => by have := blk_lt WB.out; omega⟩); (case aO => exact Kd.S_mono (Kd.S_below (Kd.S_bound HSA.out) (by repeat (first | (with_reducible first | exact HB0.out | apply below_alloc | apply pw_below_drewN | apply below_drew1) | exact HB0.out))) (fun k_ hk_ => ⟨hk_.1, fun e_ => by have := Kd.R_base HL.out k_ e_.symm; have := hk_.2.2.1; omega⟩)); (case aB => exact below_step HBA.out (by repeat (first | (with_reducible first | exact HB0.out | apply below_alloc | apply pw_below_drewN | apply below_drew1) | exact HB0.out))); (case aS => exact Nat.le_trans (below_size HBA.out) (below_size (by repeat (first | (with_reducible first | exact HB0.out | apply below_alloc | apply pw_below_drewN | apply below_drew1) | exact HB0.out)))); (case aL => have := HLIM.out rfl; omega); intro v1 w12 ho hb hg hat; have FB2 := Aside0.mk (blk_grown (blk_below FB.out (by repeat (first | (with_reducible first | exact HB0.out | apply below_alloc | apply pw_below_drewN | apply below_drew1) | exact HB0.out))) hg (Kd.S_ne HSA.out FB.out (by decide))); have XB2 := Aside0.mk (blk_grown (blk_below XB.out (by repeat (first | (with_reducible first | exact HB0.out | apply below_alloc | apply pw_below_drewN | apply below_drew1) | exact HB0.out))) hg (Kd.S_ne HSA.out XB.out (by decide))); have WB2 := Aside0.mk (blk_grown (blk_below WB.out (by repeat (first | (with_reducible first | exact HB0.out | apply below_alloc | apply pw_below_drewN | apply below_drew1) | exact HB0.out))) hg (Kd.S_ne HSA.out WB.out (by decide))); have OB2 := Aside0.mk (blk_grown (blk_below OB.out (by repeat (first | (with_reducible first | exact HB0.out | apply below_alloc | apply pw_below_drewN | apply below_drew1) | exact HB0.out))) hg (Kd.S_ne HSA.out OB.out (by decide))); have HS2 := Aside0.mk ho; have HB2 := Aside0.mk hb; clear ho hb hg hat cf0 cf1 cf2 cf3 cf4 cx cw co; have co := (blk_cell OB2.out 0).trans rfl; have cof := blk_frozen OB2.out 0; obtain ⟨Ar, cr, er_⟩ := Kd.S_slice HS2.out; subst er_))
          go_end0
          refine ⟨rfl, below_set HB2.out HGO.out, blk_far FB2.out (blk_ne FB2.out OB2.out (by decide)) _, blk_far XB2.out (blk_ne XB2.out OB2.out (by decide)) _, blk_far WB2.out (blk_ne WB2.out OB2.out (by decide)) _, _, (blk_set OB2.out 0 _).trans rfl, ?_⟩
          try rw [if_pos rfl]
          exact (by have h_ := Kd.S_set HS2.out OB2.out (by decide) 0 (.slice Ar (o ++ [q]).length cr); rw [show (o ++ [q]).length = o.length + 1 by simp] at h_; exact h_)
        · have c6b0 : decide (z = y) = false := decide_eq_false c6
          go_wp2
          go_end0
          refine ⟨rfl, below_step HBA.out (by repeat (first | (with_reducible first | exact HB0.out | apply below_alloc | apply pw_below_drewN | apply below_drew1) | exact HB0.out)), blk_below FB.out (by repeat (first | (with_reducible first | exact HB0.out | apply below_alloc | apply pw_below_drewN | apply below_drew1) | exact HB0.out)), blk_below XB.out (by repeat (first | (with_reducible first | exact HB0.out | apply below_alloc | apply pw_below_drewN | apply below_drew1) | exact HB0.out)), blk_below WB.out (by repeat (first | (with_reducible first | exact HB0.out | apply below_alloc | apply pw_below_drewN | apply below_drew1) | exact HB0.out)), v, blk_below OB.out (by repeat (first | (with_reducible first | exact HB0.out | apply below_alloc | apply pw_below_drewN | apply below_drew1) | exact HB0.out)), ?_⟩
          try rw [if_neg c6]
          exact Kd.S_below HSA.out (by repeat (first | (with_reducible first | exact HB0.out | apply below_alloc | apply pw_below_drewN | apply below_drew1) | exact HB0.out))
theorem impl_First_cycles.empty {α : Type} (d : Kd α) {e : Nat} {w : World} {base g : Nat} {ok : Nat → Prop} (hb : base ≤ g) (hok : ok g) (h : w.heap[g]? = some (.cells #[] e (0, 0))) : Kd.S d e w base ok (.slice (some ⟨g, 0, none⟩) 0 0) [] :=
  ⟨fun _ => 0, fun k hk => by
    have : g = k := by simpa [Value.ownBlock] using hk
    exact this ▸ hok, [], ⟨by simp, .inr ⟨g, 0, #[], rfl, hb, h, by simp, by simp [maxLen], by simp, by simp⟩⟩, Reps.none _ _⟩
theorem impl_First_cycles.al3 (W : World) (o1 o2 o3 : Obj) : (((W.alloc o1).alloc o2).alloc o3).heap[W.heap.size]? = some o1 ∧ (((W.alloc o1).alloc o2).alloc o3).heap[W.heap.size + 1]? = some o2 ∧ (((W.alloc o1).alloc o2).alloc o3).heap[W.heap.size + 1 + 1]? = some o3 := by
  have e1 : (W.alloc o1).heap.size = W.heap.size + 1 := by rw [World.size_alloc]
  have e2 : ((W.alloc o1).alloc o2).heap.size = W.heap.size + 1 + 1 := by rw [World.size_alloc, World.size_alloc]
  exact ⟨blk_alloc (blk_alloc (blk_new W o1) o2) o3, e1 ▸ blk_alloc (blk_new (W.alloc o1) o2) o3, e2 ▸ blk_new ((W.alloc o1).alloc o2) o3⟩
structure impl_First_cycles.J (k : Nat) (a s m b : Int) (bw : Bool) (x wh hi : Int) (r : List (List Int)) (w : World) (gf gx g6 g5 : Nat) (y : Int) (W : World) : Prop where
  below : Below w.heap.size w W
  bf : W.heap[gf]? = some (.cells #[.int .i64 a, .int .i64 s, .int .i64 m, .int .i64 b, .bool bw] 31 (0, 0))
  bx : W.heap[gx]? = some (.cells #[.int .i64 x] 3 (0, 0))
  bw_ : W.heap[g6]? = some (.cells #[.int .i64 wh] 3 (0, 0))
  out : ∃ v o, W.heap[g5]? = some (.cells #[v] 48 (0, 0)) ∧ Kd.S (Kd.slice 3 (Kd.int .i64)) 26 W w.heap.size (fun k_ => k_ ≠ gx ∧ k_ ≠ g6) v o ∧ ∃ kq, kq ≤ k ∧ impl_First_cycles.l0 kq a s m b bw x wh hi o y = some r
theorem impl_First_cycles.J.later {k : Nat} {a s m b : Int} {bw : Bool} {x wh hi : Int} {r : List (List Int)} {w : World} {gf gx g6 g5 : Nat} {y : Int} {W W' : World} (h : impl_First_cycles.J k a s m b bw x wh hi r w gf gx g6 g5 y W) (hb : Below W.heap.size W W') : impl_First_cycles.J k a s m b bw x wh hi r w gf gx g6 g5 y W' := by
  obtain ⟨h1, h2, h3, h4, v, o, h5, h6, h7⟩ := h
  exact ⟨below_step h1 hb, blk_below h2 hb, blk_below h3 hb, blk_below h4 hb, v, o, blk_below h5 hb, Kd.S_below h6 hb, h7⟩
theorem impl_First_cycles.J.round {k : Nat} {a s m b : Int} {bw : Bool} {x wh hi : Int} {r : List (List Int)} {w : World} {gf gx g6 g5 : Nat} {y : Int} {W : World} (hg : w.heap.size ≤ g5) (hhi : hi < 9223372036854775807) (h1 : -9223372036854775808 ≤ y) (h2 : y ≤ hi) (h : impl_First_cycles.J k a s m b bw x wh hi r w gf gx g6 g5 y W) :
    Calls Try.prog 118 (#[.int .i64 y] ++ #[.pointer (some ⟨gf, 0, none⟩), .pointer (some ⟨gx, 0, none⟩), .pointer (some ⟨g6, 0, none⟩), .pointer (some ⟨g5, 0, none⟩)]) W fun e W' => e = .returned (.tuple #[]) ∧ impl_First_cycles.J k a s m b bw x wh hi r w gf gx g6 g5 (y + 1) W' := by
  obtain ⟨i1, i2, i3, i4, v, o, i5, i6, kq, hk, i7⟩ := h
  cases kq with
  | zero => simp [impl_First_cycles.l0] at i7
  | succ k1 =>
    simp only [impl_First_cycles.l0] at i7
    rw [if_pos h2, show wrap64 (y + 1) = y + 1 by unfold wrap64; omega] at i7
    obtain ⟨p, A, i8⟩ := Option.bind_eq_some_iff.mp i7
    have hlim : p.2 = y → o.length < 5864062014805 := fun e => by
      rw [if_pos e] at i8
      apply Classical.byContradiction
      intro hn
      rw [if_neg hn] at i8
      cases i8
    refine (impl_First_cycles.lit k1 gf gx g6 g5 a s m b bw x y wh v o p w W i2 i3 i4 i5 i6 i1 hg A hlim).mono ?_
    rintro e W' ⟨rfl, j1, j2, j3, j4, v', j5, j6⟩
    refine ⟨rfl, j1, j2, j3, j4, v', _, j5, j6, k1, by omega, ?_⟩
    by_cases c : p.2 = y
    · rw [if_pos c, if_pos (hlim c)] at i8
      rw [if_pos c]
      exact i8
    · rw [if_neg c] at i8
      rw [if_neg c]
      exact i8
theorem impl_First_cycles.J.last {k : Nat} {a s m b : Int} {bw : Bool} {x wh hi : Int} {r : List (List Int)} {w : World} {gf gx g6 g5 : Nat} {W : World} (h : impl_First_cycles.J k a s m b bw x wh hi r w gf gx g6 g5 (hi + 1) W) : ∃ v, W.cell? ⟨g5, 0, none⟩ = some v ∧ Kd.S (Kd.slice 3 (Kd.int .i64)) 26 W w.heap.size (fun _ => True) v r ∧ Below w.heap.size w W := by
  obtain ⟨i1, i2, i3, i4, v, o, i5, i6, kq, hk, i7⟩ := h
  cases kq with
  | zero => simp [impl_First_cycles.l0] at i7
  | succ k1 =>
    simp only [impl_First_cycles.l0] at i7
    rw [if_neg (by omega)] at i7
    obtain rfl := Option.some.inj i7
    exact ⟨v, (blk_cell i5 0).trans rfl, Kd.S_mono i6 (fun _ _ => trivial), i1⟩
set_option maxHeartbeats 8000000 in
set_option maxRecDepth 100000 in
theorem impl_First_cycles.calls (k : Nat) (a s m b : Int) (bw : Bool) (x : Int) (r : List (List Int)) (w : World) (h : impl_First_cycles.f k a s m b bw x = some r) :
    Calls Try.prog 67 #[.agg #[.int .i64 a, .int .i64 s, .int .i64 m, .int .i64 b, .bool bw], .int .i64 x] w fun e w' => ∃ v0_ : Value, e = .returned (v0_) ∧ Kd.S (Kd.slice 3 (Kd.int .i64)) 26 w' w.heap.size (fun _ => True) v0_ r ∧ Below w.heap.size w w' := by
  unfold impl_First_cycles.f at h
  by_cases c1 : 0 ≤ b
  case neg => rw [if_neg c1] at h; cases h
  rw [if_pos c1] at h
  obtain ⟨⟨lo, hi⟩, A1_, h1⟩ := Option.bind_eq_some_iff.mp h
  clear h
  dsimp only at h1
  by_cases c2 : -9223372036854775808 ≤ lo ∧ lo ≤ hi + 1 ∧ hi < 9223372036854775807
  case neg => rw [if_neg c2] at h1; cases h1
  rw [if_pos c2] at h1
  obtain ⟨wh, hwh⟩ : ∃ j_ : Int, (shl .i64 1 b) = j_ := ⟨_, rfl⟩
  rw [hwh] at h1
  have A1 := Aside0.mk A1_
  have HR := Aside0.mk h1
  have HL := Aside0.mk c2
  clear A1_ h1 c2
  have c1b0 := eq_true c1
  have c1b1 : decide (0 ≤ b) = true := decide_eq_true c1
  clear c1
  have hji4_ : (IntKind.i64.wrap (1 * 2 ^ min b.toNat 64)) = wh := hwh
  have hji4z : b ≤ 64 → (IntKind.i64.wrap (1 * 2 ^ b.toNat)) = wh := shl_small hwh
  have hji4u : (IntKind.i64.wrap (2 ^ min b.toNat 64)) = wh := by have h_ := hji4_; rw [Int.one_mul] at h_; exact h_
  have hji4v : b ≤ 64 → (IntKind.i64.wrap (2 ^ b.toNat)) = wh := fun hle_ => by have h_ := hji4z hle_; rw [Int.one_mul] at h_; exact h_
  have hji4y : (wrap64 (1 * 2 ^ min b.toNat 64)) = wh := (i64_w _).symm.trans hji4_
  have hji4x : b ≤ 64 → (wrap64 (1 * 2 ^ b.toNat)) = wh := fun h_ => (i64_w _).symm.trans (hji4z h_)
  have HB := Aside0.mk (Below.refl w.heap.size w)
  go_enter Try.func67, Try.ntmps67
  go_upto_region 1 with (first
    | ((with_reducible refine gate_dst (N := 2) rfl ?_); refine box_event ?hg (N := 2) ?hd (cs := #[.int .i64 a, .int .i64 s, .int .i64 m, .int .i64 b, .bool bw]) (t := 31) ?hr ?_; (case hd => rfl); (case hg => rfl); (case hr => first | (go_simp; done) | (go_simp; rfl)); intro gf hgf w1 hbf hb; have m0_ := Aside0.mk (below_step (by repeat (first | (with_reducible first | exact HB.out | apply below_alloc | apply pw_below_drewN | apply below_drew1) | exact HB.out)) hb); clear HB hb; have HB := m0_; clear m0_; have BF := Aside0.mk hbf; clear hbf hgf)
    | ((with_reducible refine gate_dst (N := 3) rfl ?_); refine box_event ?hg (N := 3) ?hd (cs := #[.int .i64 x]) (t := 3) ?hr ?_; (case hd => rfl); (case hg => rfl); (case hr => first | (go_simp; done) | (go_simp; rfl)); intro gx hgx w2 hbx hb; have m0_ := Aside0.mk (below_step (by repeat (first | (with_reducible first | exact HB.out | apply below_alloc | apply pw_below_drewN | apply below_drew1) | exact HB.out)) hb); have m1_ := Aside0.mk (blk_below BF.out hb); clear HB hb BF; have HB := m0_; have BF := m1_; clear m0_ m1_; have BX := Aside0.mk hbx; clear hbx hgx))
  go_cut [5, 6] (fun v5 v6 wc => ∃ (g5 g6 : Nat), v5 = .pointer (some ⟨g5, 0, none⟩) ∧ v6 = .pointer (some ⟨g6, 0, none⟩) ∧ Aside0 (w.heap.size ≤ g5) ∧ Aside0 (impl_First_cycles.J k a s m b bw x wh hi r w gf gx g6 g5 lo wc))
  case first =>
    have cf3 : w2.cell? ⟨gf, 3, none⟩ = some (.int .i64 b) := (blk_cell BF.out 3).trans rfl
    have al1 : ∀ (W : World) (o : Obj), W.cell? ⟨gf, 3, none⟩ = some (.int .i64 b) → (W.alloc o).cell? ⟨gf, 3, none⟩ = some (.int .i64 b) := fun W o h_ => ((below_alloc (Below.refl _ _) o).cell (World.block_lt_of_cell? _ _ h_)).trans h_
    have cf3a : ∀ o1, (w2.alloc o1).cell? ⟨gf, 3, none⟩ = some (.int .i64 b) := fun o1 => al1 _ _ cf3
    have cf3b : ∀ o1 o2, ((w2.alloc o1).alloc o2).cell? ⟨gf, 3, none⟩ = some (.int .i64 b) := fun o1 o2 => al1 _ _ (cf3a o1)
    have cf3c : ∀ o1 o2 o3, (((w2.alloc o1).alloc o2).alloc o3).cell? ⟨gf, 3, none⟩ = some (.int .i64 b) := fun o1 o2 o3 => al1 _ _ (cf3b o1 o2)
    clear al1
    go_region
    all_goals
      clear cf3 cf3a cf3b cf3c
      go_wp2
      go_meet
      case rel => have hs_ := below_size HB.out; have hx_ := blk_lt BX.out; exact ⟨_, _, rfl, rfl, ⟨by omega⟩, ⟨⟨(by repeat (first | (with_reducible first | exact HB.out | apply below_alloc | apply pw_below_drewN | apply below_drew1) | exact HB.out)), blk_drew (blk_alloc (blk_alloc (blk_alloc BF.out _) _) _), blk_drew (blk_alloc (blk_alloc (blk_alloc BX.out _) _) _), (by first | exact blk_drew (impl_First_cycles.al3 _ _ _ _).1 | exact blk_drew (impl_First_cycles.al3 _ _ _ _).2.1 | exact blk_drew (impl_First_cycles.al3 _ _ _ _).2.2), _, [], (by first | exact blk_drew (impl_First_cycles.al3 _ _ _ _).1 | exact blk_drew (impl_First_cycles.al3 _ _ _ _).2.1 | exact blk_drew (impl_First_cycles.al3 _ _ _ _).2.2), impl_First_cycles.empty _ (by omega) ⟨by omega, by omega⟩ (by first | exact blk_drew (impl_First_cycles.al3 _ _ _ _).1 | exact blk_drew (impl_First_cycles.al3 _ _ _ _).2.1 | exact blk_drew (impl_First_cycles.al3 _ _ _ _).2.2), k, Nat.le_refl _, HR.out⟩⟩⟩
  case rest =>
    clear HB BF BX
    obtain ⟨g5, g6, rfl, rfl, HG, HJ⟩ := hcut
    have hcz_3 : wc.cell? ⟨gf, 3, none⟩ = some (.int .i64 b) := (blk_cell HJ.out.bf 3).trans rfl
    have hcz_4 : wc.cell? ⟨gf, 4, none⟩ = some (.bool bw) := (blk_cell HJ.out.bf 4).trans rfl
    have EG := Aside0.mk (show ∀ (args : Array Value) (W : World), (callFunc 118 args).run Try.prog W = .ok (.enter 118 args) W from enters_of Try.func118 (by kernel_rfl) rfl)
    go_wp2_with (first
      | (go_at_call 117; ((with_reducible refine (impl_Word_all.callsG 118 EG.out _ b bw lo hi (impl_First_cycles.J k a s m b bw x wh hi r w gf gx g6 g5) _ A1.out ?s1 ?s2 ?s3 ?s4 ?s5).mono ?_); (case s1 => exact ⟨HL.out.1, HL.out.2.1⟩); (case s2 => exact HL.out.2.2); (case s3 => exact fun W hb_ => HJ.out.later hb_); (case s4 => exact fun y W n hj_ => hj_.later (pw_below_drewN (Below.refl _ _) n)); (case s5 => exact fun y W h1_ h2_ hj_ => hj_.round HG.out HL.out.2.2 (by have := HL.out.1; omega) h2_); rintro e w5 ⟨rfl, hj⟩; clear hcz_3 hcz_4 HJ; obtain ⟨v, hcv, hsv, hbv⟩ := hj.last; clear hj; have SV := Aside0.mk hsv; have BV := Aside0.mk hbv; clear hsv hbv)))
    go_ret
    exact ⟨v, rfl, SV.out, BV.out⟩

/-! ### impl_size: function 84 -/
def impl_size.f (a0 : Int) : Option (Int) := some (mx a0 (wrap64 (-a0)))
set_option maxHeartbeats 8000000 in
set_option maxRecDepth 100000 in
theorem impl_size.calls (a0 : Int) (r : Int) (w : World) (h : impl_size.f a0 = some r) :
    Calls Try.prog 84 #[.int .i64 a0] w fun e w' => e = .returned (.int .i64 r) ∧ Below w.heap.size w w' := by
  have HB := Aside0.mk (Below.refl w.heap.size w)
  have H : (some (mx a0 (wrap64 (-a0)))) = some r := h
  clear h
  obtain ⟨ji2, hji2⟩ : ∃ j_ : Int, (mx a0 (wrap64 (-a0))) = j_ := ⟨_, rfl⟩
  replace H : (some ji2) = some r := by first | (rw [hji2] at H; exact H) | (simp only [hji2] at H ⊢; exact H)
  have hji2_ : (if a0 < (wrap64 (-a0)) then (wrap64 (-a0)) else a0) = ji2 := hji2
  obtain rfl := Option.some.inj H
  go_enter Try.func84, Try.ntmps84
  go_wp2
  go_ret
  exact ⟨by first | rfl | (simp [errW_none, errW_some] <;> rfl) | (simp only [← hji2]; first | rfl | (simp [errW_none, errW_some] <;> rfl)) | (simp [*, errW_none, errW_some] <;> rfl), by repeat (first | (with_reducible first | exact HB.out | apply below_alloc | apply pw_below_drewN | apply below_drew1) | exact HB.out)⟩

/-! ### impl_peak: function 70 -/
def impl_peak.l0 : Nat → Int → List Int → Int → Int → Option (Int)
  | 0, _, _, _, _ => none
  | k + 1, x3, x6, x7, x8 => if x8 < x7 then (if 0 ≤ x8 then (if x8 < (x6.length : Int) then ((impl_size.f (rd x6 x8)).bind fun t271 => (impl_peak.l0 k (mx x3 t271) x6 x7 (wrap64 (x8 + 1)))) else (none)) else (none)) else (some x3)
def impl_peak.f (k : Nat) (l0 : List Int) : Option (Int) := impl_peak.l0 k 0 l0 (l0.length : Int) 0
theorem impl_peak.mono_l : ∀ k, (∀ y0 y1 y2 y3, LeO (impl_peak.l0 k y0 y1 y2 y3) (impl_peak.l0 (k + 1) y0 y1 y2 y3))
  | 0 => fun _ _ _ _ r h => by simp [impl_peak.l0] at h
  | k + 1 => by
    have ih0 := impl_peak.mono_l k
    · intro y0 y1 y2 y3
      unfold impl_peak.l0
      repeat' first
      | (with_reducible exact ih0 _ _ _ _)
      | (with_reducible exact LeO.refl _)
      | (with_reducible exact LeO.none _)
      | (with_reducible refine LeO.ite ?_ ?_)
      | (with_reducible refine LeO.bind ?_ (fun _ => ?_))
      | exact ih0 _ _ _ _
      | exact LeO.none _
      | refine LeO.ite ?_ ?_
      | refine LeO.bind ?_ (fun _ => ?_)
theorem impl_peak.mono : ∀ a0 k, LeO (impl_peak.f k a0) (impl_peak.f (k + 1) a0) := by
  intro a0 k
  have ih0 := impl_peak.mono_l k
  unfold impl_peak.f
  repeat' first
      | (with_reducible exact ih0 _ _ _ _)
      | (with_reducible exact LeO.refl _)
      | (with_reducible exact LeO.none _)
      | (with_reducible refine LeO.ite ?_ ?_)
      | (with_reducible refine LeO.bind ?_ (fun _ => ?_))
      | exact ih0 _ _ _ _
      | exact LeO.none _
      | refine LeO.ite ?_ ?_
      | refine LeO.bind ?_ (fun _ => ?_)
set_option maxHeartbeats 8000000 in
set_option maxRecDepth 100000 in
theorem impl_peak.calls (k : Nat) (A0 : Option Addr) (c0 : Nat) (l0 : List Int) (r : Int) (w : World) (hr0 : Kd.C (Kd.int .i64) w A0 l0.length l0) (hc0 : l0.length ≤ c0) (h : impl_peak.f k l0 = some r) :
    Calls Try.prog 70 #[.slice A0 l0.length c0] w fun e w' => e = .returned (.int .i64 r) ∧ Below w.heap.size w w' := by
  have HR0 := Aside0.mk hr0
  have HC0 := Aside0.mk hc0
  clear hr0 hc0
  have HB := Aside0.mk (Below.refl w.heap.size w)
  have H : (impl_peak.l0 k 0 l0 (l0.length : Int) 0) = some r := h
  clear h
  have H' := Aside0.mk H
  clear H
  go_enter Try.func70, Try.ntmps70
  go_wp2
  go_loopg [3, 8] k (fun kq v3 v8 w' => ∃ (x3_1 : Int) (x8_1 : Int), v3 = .int .i64 x3_1 ∧ v8 = .int .i64 x8_1 ∧ Aside0 (impl_peak.l0 kq x3_1 l0 (l0.length : Int) x8_1 = some r) ∧ Aside0 (kq ≤ k) ∧ Aside0 (Below w.heap.size w w'))
  case atStart => exact ⟨(0), (0), (by first | rfl | (simp; done) | (simp [*]; done)), (by first | rfl | (simp; done) | (simp [*]; done)), H', ⟨Nat.le_refl _⟩, ⟨by repeat (first | (with_reducible first | exact HB.out | apply below_alloc | apply pw_below_drewN | apply below_drew1) | exact HB.out)⟩⟩
  case round =>
    clear H'
    obtain ⟨x3_1, x8_1, rfl, rfl, HA, HK1, HB⟩ := hrel
    cases gk with
    | zero => exact absurd HA.out (by simp [impl_peak.l0])
    | succ k1 =>
      have H := HA.out
      clear HA
      simp only [impl_peak.l0] at H
      by_cases c2 : x8_1 < (l0.length : Int)
      · rw [if_pos c2] at H
        have c2b0 : decide (x8_1 < (l0.length : Int)) = true := decide_eq_true c2
        clear c2
        by_cases c3 : 0 ≤ x8_1
        · rw [if_pos c3] at H
          have c3b0 : decide (0 ≤ x8_1) = true := decide_eq_true c3
          clear c3
          by_cases c4 : x8_1 < (l0.length : Int)
          · rw [if_pos c4] at H
            have c4b0 : decide (x8_1 < (l0.length : Int)) = true := decide_eq_true c4
            clear c4
            replace H := Option.bind_eq_some_iff.mp H
            obtain ⟨t271, A50, H⟩ := H
            replace H : (impl_peak.l0 k1 (mx x3_1 t271) l0 (l0.length : Int) (wrap64 (x8_1 + 1))) = some r := H
            have A5 := Aside0.mk A50
            clear A50
            obtain ⟨ji6, hji6⟩ : ∃ j_ : Int, (mx x3_1 t271) = j_ := ⟨_, rfl⟩
            replace H : (impl_peak.l0 k1 ji6 l0 (l0.length : Int) (wrap64 (x8_1 + 1))) = some r := by first | (rw [hji6] at H; exact H) | (simp only [hji6] at H ⊢; exact H)
            (try rw [hji6] at A5)
            have hji6_ : (if x3_1 < t271 then t271 else x3_1) = ji6 := hji6
            have H' := Aside0.mk H
            clear H
            have p270 : 0 ≤ (x8_1 : Int) := of_decide_eq_true (by first | (with_reducible assumption) | assumption)
            have q270 : x8_1 < (l0.length : Int) := of_decide_eq_true (by first | (with_reducible assumption) | assumption)
            obtain ⟨ad270, e270, hx270_0⟩ := Kd.at_int HR0.out x8_1 p270 q270
            cases e270
            try replace hx270_0 := (HB.out.cell (World.block_lt_of_cell? w _ hx270_0)).trans hx270_0
            replace p270 := eq_true p270
            replace q270 := eq_true q270
            go_wp2_with (first | ((with_reducible refine gate_callee (f := 84) rfl ?_); refine goesL_ (some 14) rfl rfl Try.func84 (by kernel_rfl) rfl #[.int .i64 (rd l0 x8_1)] rfl (by (try simp only [List.map_toArray, List.map_cons, List.map_nil]); first | done | rfl | (simp only [List.length_drop, List.length_take]; rfl)) ?_; (with_reducible refine (impl_size.calls (rd l0 x8_1) t271 _ A5.out).mono ?_); rintro e w7 ⟨rfl, hb⟩; refine ⟨_, rfl, ?_⟩; have n0_ := Aside0.mk (below_step (by repeat (first | (with_reducible first | exact HB.out | apply below_alloc | apply pw_below_drewN | apply below_drew1) | exact HB.out)) hb); clear HB; have HB := n0_; clear n0_; (try clear hb); (try clear hb2); (try clear hk); (try clear hi)))
            go_roundg k1
            case measure => have := HK1.out; omega
            case rel => exact ⟨(ji6), (wrap64 (x8_1 + 1)), (by first | rfl | (simp; done) | (simp only [← hji6] <;> (first | rfl | simp)) | (simp [*]; done)), (by first | rfl | (simp; done) | (simp [*]; done)), H', ⟨by have := HK1.out; omega⟩, ⟨by repeat (first | (with_reducible first | exact HB.out | apply below_alloc | apply pw_below_drewN | apply below_drew1) | exact HB.out)⟩⟩
          · rw [if_neg c4] at H
            exact absurd H (by simp)
        · rw [if_neg c3] at H
          exact absurd H (by simp)
      · rw [if_neg c2] at H
        have c2b0 : decide (x8_1 < (l0.length : Int)) = false := decide_eq_false c2
        clear c2
        obtain rfl := Option.some.inj H
        go_wp2
        go_ret
        exact ⟨by first | rfl | (simp [errW_none, errW_some] <;> rfl) | (simp [*, errW_none, errW_some] <;> rfl), by repeat (first | (with_reducible first | exact HB.out | apply below_alloc | apply pw_below_drewN | apply below_drew1) | exact HB.out)⟩

/-! ### slices_Grow_int_int: function 120 -/
set_option maxHeartbeats 4000000 in
set_option maxRecDepth 100000 in
theorem slices_Grow_int_int.nil (n : Int) (w : World) (h0 : 0 ≤ n) (hn : n ≤ 1000000000) :
    Calls Try.prog 120 #[.slice none 0 0, .int .i64 n] w fun e w' => ∃ v0_ : Value, e = .returned (v0_) ∧ Kd.R (Kd.int .i64) 3 w' w.heap.size (fun _ => True) v0_ [] ∧ Below w.heap.size w w' := by
  have c1 : decide (n < 0) = false := decide_eq_false (by omega)
  have hw : wrap64 n = n := by unfold wrap64; omega
  have hw2 : IntKind.i64.wrap n = n := (i64_w n).trans hw
  by_cases c : 0 < n
  · have c2 : decide (0 < n) = true := decide_eq_true c
    have H0 := Aside0.mk h0
    have HN := Aside0.mk hn
    clear h0 hn c
    go_enter Try.func120, Try.ntmps120
    go_wp2_with (first
      | ((with_reducible refine gate_builtin (b := .append) (xs := #[.tmp 20, .tmp 21]) rfl ?_); at_builtin; refine Kd.R_append_zeros (Kd.int .i64) (w0 := w) w.heap.size rfl (.tmp 20) (.tmp 21) 26 3 3 (.int .i64 0) 8 rfl Try.underlying26 Try.underlying3 info3 rfl (by decide) (by decide) (.slice none 0 0) [] (0 : Int) n (fun _ => True) rfl rfl ?zero (fun _ _ => trivial) (Kd.R_nil _ _ _ _ _) H0.out (Below.refl _ _) (Nat.le_refl _) ?lim ?_; (case zero => exact rfl); (case lim => have := H0.out; have := HN.out; simp only [List.length_nil, Nat.zero_add]; omega); intro v1 w1 ho hb hg hat; obtain ⟨A1, q1, e1⟩ := Kd.R_slice ho; subst e1; have HO := Aside0.mk (Kd.R_take ho (Nat.zero_le _)); have HB := Aside0.mk hb; clear ho hb hg hat))
    go_ret
    exact ⟨_, rfl, HO.out, HB.out⟩
  · have c2 : decide (0 < n) = false := decide_eq_false c
    clear c
    go_enter Try.func120, Try.ntmps120
    go_wp2
    go_ret
    exact ⟨_, rfl, Kd.R_nil _ _ _ _ _, Below.refl _ _⟩

/-! ### slices_Concat_int_int: function 71 -/
def slices_Concat_int_int.tot : List (List Int) → Nat
  | [] => 0
  | x :: r => x.length + slices_Concat_int_int.tot r
def slices_Concat_int_int.f (l0 : List (List Int)) : Option (List Int) := if slices_Concat_int_int.tot l0 ≤ 1000000000 ∧ l0.length ≤ 1000000000 then some l0.flatten else none
theorem slices_Concat_int_int.tot_app : ∀ (l r : List (List Int)), slices_Concat_int_int.tot (l ++ r) = slices_Concat_int_int.tot l + slices_Concat_int_int.tot r
  | [], r => by rw [List.nil_append, slices_Concat_int_int.tot, Nat.zero_add]
  | x :: l, r => by rw [List.cons_append, slices_Concat_int_int.tot, slices_Concat_int_int.tot, slices_Concat_int_int.tot_app l r, Nat.add_assoc]
theorem slices_Concat_int_int.flat : ∀ (l : List (List Int)), l.flatten.length = slices_Concat_int_int.tot l
  | [] => rfl
  | x :: l => by rw [List.flatten_cons, List.length_append, slices_Concat_int_int.flat l, slices_Concat_int_int.tot]
theorem slices_Concat_int_int.at_ {w : World} {A : Option Addr} {n : Nat} {xs : List (List Int)} (h : Kd.C (Kd.slice 3 (Kd.int .i64)) w A n xs) (i : Int) (h0 : 0 ≤ i) (h1 : i < n) : ∃ ad A0 c0, A = some ad ∧ w.cell? (ad.add i.toNat) = some (.slice A0 (xs.getD i.toNat []).length c0) ∧ (xs.getD i.toNat []).length ≤ c0 ∧ (Kd.int .i64).C w A0 (xs.getD i.toNat []).length (xs.getD i.toNat []) := by
  obtain ⟨ad, c, e, _, hK, hc0⟩ := Kd.C_get h ([] : List Int) i h0 h1
  have hc : ∀ j u, c[j]? = some u → w.cell? (ad.add (i.toNat * 1 + j)) = some u := hc0
  obtain ⟨A0, c0, rfl, l0, g0⟩ := hK
  exact ⟨ad, A0, c0, e, by have hq := hc 0 _ rfl; rwa [Nat.mul_one, Nat.add_zero] at hq, l0, g0⟩
theorem slices_Concat_int_int.step (l : List (List Int)) (x : Int) (h0 : 0 ≤ x) (h1 : x < (l.length : Int)) : l.take (x + 1).toNat = l.take x.toNat ++ [l.getD x.toNat []] := by
  have hx : x.toNat < l.length := by omega
  rw [show (x + 1).toNat = x.toNat + 1 by omega, List.take_succ_eq_append_getElem hx, List.getD_eq_getElem?_getD, List.getElem?_eq_getElem hx]
  rfl
theorem slices_Concat_int_int.le (l : List (List Int)) (n : Nat) : slices_Concat_int_int.tot (l.take n) ≤ slices_Concat_int_int.tot l := by
  have h := slices_Concat_int_int.tot_app (l.take n) (l.drop n)
  rw [List.take_append_drop] at h
  omega
theorem slices_Concat_int_int.next (l : List (List Int)) (x : Int) (h0 : 0 ≤ x) (h1 : x < (l.length : Int)) : slices_Concat_int_int.tot (l.take (x + 1).toNat) = slices_Concat_int_int.tot (l.take x.toNat) + (l.getD x.toNat []).length ∧ (l.take (x + 1).toNat).flatten = (l.take x.toNat).flatten ++ l.getD x.toNat [] := by
  rw [slices_Concat_int_int.step l x h0 h1, slices_Concat_int_int.tot_app, List.flatten_append]
  simp [slices_Concat_int_int.tot]
set_option maxHeartbeats 8000000 in
set_option maxRecDepth 100000 in
theorem slices_Concat_int_int.calls (A0 : Option Addr) (c0 : Nat) (l0 : List (List Int)) (r : List Int) (w : World) (hr0 : Kd.C (Kd.slice 3 (Kd.int .i64)) w A0 l0.length l0) (hc0 : l0.length ≤ c0) (h : slices_Concat_int_int.f l0 = some r) :
    Calls Try.prog 71 #[.slice A0 l0.length c0] w fun e w' => ∃ v0_ : Value, e = .returned (v0_) ∧ Kd.R (Kd.int .i64) 3 w' w.heap.size (fun _ => True) v0_ r ∧ Below w.heap.size w w' := by
  unfold slices_Concat_int_int.f at h
  by_cases hl : slices_Concat_int_int.tot l0 ≤ 1000000000 ∧ l0.length ≤ 1000000000
  case neg => rw [if_neg hl] at h; cases h
  rw [if_pos hl] at h
  have h := Option.some.inj h
  have HH := Aside0.mk h
  have HR0 := Aside0.mk hr0
  have HL := Aside0.mk hl
  clear hr0 hl h
  go_enter Try.func71, Try.ntmps71
  go_wp2
  go_loopg [3, 11] l0.length (fun gg v3 v11 w' => ∃ (m x : Int), v3 = .int .i64 m ∧ v11 = .int .i64 x ∧ Aside0 (0 ≤ x ∧ x ≤ (l0.length : Int) ∧ (l0.length : Int) - x ≤ gg ∧ m = (slices_Concat_int_int.tot (l0.take x.toNat) : Int)) ∧ Drawn0 w w')
  case atStart => exact ⟨0, 0, rfl, rfl, ⟨by omega, by omega, by omega, rfl⟩, by repeat (first | exact Drawn0.refl _ | apply Drawn0.step)⟩
  case round =>
    obtain ⟨m, x, rfl, rfl, HX, ⟨m1, rfl⟩⟩ := hrel
    by_cases c4 : x < (l0.length : Int)
    · have c4b0 : decide (x < (l0.length : Int)) = true := decide_eq_true c4
      have p102 : 0 ≤ x := HX.out.1
      have hst := slices_Concat_int_int.next l0 x p102 c4
      have hle := slices_Concat_int_int.le l0 (x + 1).toNat
      have hlo := HL.out
      have hxo := HX.out
      have hmm : m = (slices_Concat_int_int.tot (l0.take x.toNat) : Int) := hxo.2.2.2
      obtain ⟨ad102, A1, q1, e102, hx102_0, hq102, hC102⟩ := slices_Concat_int_int.at_ HR0.out x p102 c4
      cases e102
      have hw1 : wrap64 (x + 1) = x + 1 := by unfold wrap64; omega
      have hw2 : wrap64 (m + ((l0.getD x.toNat []).length : Int)) = m + ((l0.getD x.toNat []).length : Int) := by unfold wrap64; omega
      have c5b0 : decide (m + ((l0.getD x.toNat []).length : Int) < 0) = false := decide_eq_false (by omega)
      have HST := Aside0.mk hst
      have HMM := Aside0.mk hmm
      replace p102 := eq_true p102
      replace c4 := eq_true c4
      have HW := Aside0.mk hw1
      have HW2 := Aside0.mk hw2
      clear hw1 hst hle hlo hxo hq102 hC102 hw2 hmm
      obtain ⟨L, hL⟩ : ∃ L : Nat, (l0.getD x.toNat []).length = L := ⟨_, rfl⟩
      rw [hL] at hx102_0 c5b0
      have HLL := Aside0.mk hL
      clear hL
      have hw3 : wrap64 (m + (L : Int)) = m + (L : Int) := by have := HW2.out; rw [HLL.out] at this; exact this
      have hw4 : IntKind.i64.wrap (m + (L : Int)) = m + (L : Int) := (i64_w _).trans hw3
      go_wp2
      have HXo := HX.out
      have hx0 := of_eq_true p102
      have hx1 := of_eq_true c4
      go_roundg (gk - 1)
      case measure => omega
      case rel => exact ⟨m + (L : Int), x + 1, by first | rfl | (simp only [hw3]; done) | (rw [hw3]; done), by first | rfl | rw [HW.out], ⟨by omega, by omega, by omega, by rw [HST.out.1, HMM.out, ← HLL.out]; omega⟩, by repeat (first | exact Drawn0.refl _ | apply Drawn0.step)⟩
    · have c4b0 : decide (x < (l0.length : Int)) = false := decide_eq_false c4
      have hm0 : m = (slices_Concat_int_int.tot l0 : Int) := by
        have h1 := HX.out
        rw [h1.2.2.2, List.take_of_length_le (by omega)]
      subst hm0
      have HN := Aside0.mk (show (0 : Int) ≤ (slices_Concat_int_int.tot l0 : Int) ∧ (slices_Concat_int_int.tot l0 : Int) ≤ 1000000000 by have := HL.out; omega)
      clear HX
      have HB := Aside0.mk (pw_below_drewN (Below.refl w.heap.size w) m1)
      go_wp2_with (first
        | (go_at_call 120; ((with_reducible refine (slices_Grow_int_int.nil _ _ HN.out.1 HN.out.2).mono ?_); rintro e w5 ⟨v5, rfl, ho0, hb⟩; have HO := Aside0.mk (Kd.R_lower ho0 (below_size (by repeat (first | (with_reducible first | exact HB.out | apply below_alloc | apply pw_below_drewN | apply below_drew1) | exact HB.out)))); have m0_ := Aside0.mk (below_step (by repeat (first | (with_reducible first | exact HB.out | apply below_alloc | apply pw_below_drewN | apply below_drew1) | exact HB.out)) hb); clear HB hb ho0; have HB := m0_; clear m0_)))
      go_loopg [6, 27] l0.length (fun gg v6 v27 w' => ∃ (x : Int), v27 = .int .i64 x ∧ Aside0 (0 ≤ x ∧ x ≤ (l0.length : Int) ∧ (l0.length : Int) - x ≤ gg) ∧ Aside0 (Kd.R (Kd.int .i64) 3 w' w.heap.size (fun _ => True) v6 (l0.take x.toNat).flatten) ∧ Aside0 (Below w.heap.size w w'))
      case atStart => exact ⟨0, rfl, ⟨by omega, by omega, by omega⟩, ⟨(by (with_reducible repeat (first | apply Kd.R_alloc | apply Kd.R_drewN | apply Kd.R_drew)); exact HO.out)⟩, ⟨(by repeat (first | (with_reducible first | exact HB.out | apply below_alloc | apply pw_below_drewN | apply below_drew1) | exact HB.out))⟩⟩
      case round =>
        clear HO HB
        obtain ⟨x2, rfl, HX, HO, HB⟩ := hrel
        by_cases c7 : x2 < (l0.length : Int)
        · have c7b0 : decide (x2 < (l0.length : Int)) = true := decide_eq_true c7
          have p102 : 0 ≤ x2 := HX.out.1
          have HST := Aside0.mk (slices_Concat_int_int.next l0 x2 p102 c7)
          have HLE := Aside0.mk (slices_Concat_int_int.le l0 (x2 + 1).toNat)
          obtain ⟨ad102, A1, q1, e102, hx102_0, hq102, hC102⟩ := slices_Concat_int_int.at_ (Kd.C_below HR0.out HB.out) x2 p102 c7
          cases e102
          have HC := Aside0.mk hC102
          have hw1 : wrap64 (x2 + 1) = x2 + 1 := by have := HL.out; unfold wrap64; omega
          replace p102 := eq_true p102
          replace c7 := eq_true c7
          have HW := Aside0.mk hw1
          clear hw1 hq102 hC102
          obtain ⟨Y, hY⟩ : ∃ Y : List Int, l0.getD x2.toNat [] = Y := ⟨_, rfl⟩
          rw [hY] at hx102_0
          obtain ⟨F, hF⟩ : ∃ F : List Int, (l0.take x2.toNat).flatten = F := ⟨_, rfl⟩
          have HC := Aside0.mk (show (Kd.int .i64).C _ A1 Y.length Y from hY ▸ HC.out)
          have HO := Aside0.mk (show Kd.R (Kd.int .i64) 3 _ w.heap.size (fun _ => True) _ F from hF ▸ HO.out)
          have HLIM := Aside0.mk (show F.length + Y.length ≤ 1000000000 by
            have h1 := HST.out.1
            have h2 := HLE.out
            have h3 := HL.out
            have h4 := slices_Concat_int_int.flat (l0.take x2.toNat)
            rw [hF] at h4
            rw [hY] at h1
            omega)
          have HFY := Aside0.mk (show (l0.take (x2 + 1).toNat).flatten = F ++ Y by rw [HST.out.2, hF, hY])
          clear hY hF
          obtain ⟨Aq, cq, eq_⟩ := Kd.R_slice HO.out
          subst eq_
          go_wp2_with (first
            | ((with_reducible refine gate_builtin (b := .append) (xs := #[.tmp 31, .tmp 32]) rfl ?_); at_builtin; refine Kd.R_append_rows (Kd.int .i64) (Rr := (Kd.int .i64).K wr) (w0 := w) w.heap.size rfl (.tmp 31) (.tmp 32) 26 3 (.int .i64 0) 8 rfl Try.underlying26 info3 rfl (by decide) (by decide) (.slice Aq F.length cq) F Y A1 Y.length q1 (fun _ => True) (fun _ => False) rfl rfl ?aO ?aR ?aK (fun _ hk => hk.elim) (fun _ _ => trivial) ?aB ?aS ?aL ?_; (case aO => exact (by (with_reducible repeat (first | apply Kd.R_alloc | apply Kd.R_drewN | apply Kd.R_drew)); exact HO.out)); (case aR => repeat (first | exact HC.out | (with_reducible refine Kd.C_alloc ?_ _) | (with_reducible refine Kd.C_drewN ?_ _) | (with_reducible refine Kd.C_drew ?_))); (case aK => exact fun _ _ h_ => h_); (case aB => exact (by repeat (first | (with_reducible first | exact HB.out | apply below_alloc | apply pw_below_drewN | apply below_drew1) | exact HB.out))); (case aS => exact below_size (by repeat (first | (with_reducible first | exact HB.out | apply below_alloc | apply pw_below_drewN | apply below_drew1) | exact HB.out))); (case aL => have := HLIM.out; omega); intro v122 w9 ho hb hg hat; clear HO HB; have HO := Aside0.mk ho; have HB := Aside0.mk hb; clear ho hb hg hat))
          have hx0 := of_eq_true p102
          have hx1 := of_eq_true c7
          have HXo := HX.out
          go_roundg (gk - 1)
          case measure => omega
          case rel => exact ⟨x2 + 1, by first | rfl | rw [HW.out], ⟨by omega, by omega, by omega⟩, ⟨by rw [HFY.out]; exact (by (with_reducible repeat (first | apply Kd.R_alloc | apply Kd.R_drewN | apply Kd.R_drew)); exact HO.out)⟩, ⟨(by repeat (first | (with_reducible first | exact HB.out | apply below_alloc | apply pw_below_drewN | apply below_drew1) | exact HB.out))⟩⟩
        · have c7b0 : decide (x2 < (l0.length : Int)) = false := decide_eq_false c7
          have HO2 := Aside0.mk (show Kd.R (Kd.int .i64) 3 _ w.heap.size (fun _ => True) _ r by
            have h1 := HO.out
            have h2 := HX.out
            rw [List.take_of_length_le (by omega), HH.out] at h1
            exact h1)
          go_wp2
          go_ret
          exact ⟨_, rfl, (by (with_reducible repeat (first | apply Kd.R_alloc | apply Kd.R_drewN | apply Kd.R_drew)); exact HO2.out), (by repeat (first | (with_reducible first | exact HB.out | apply below_alloc | apply pw_below_drewN | apply below_drew1) | exact HB.out))⟩

/-! ### impl_DeadBand: function 33 -/
def impl_DeadBand.f (k : Nat) (a0_0 : Int) (a0_1 : Int) (a0_2 : Int) (a0_3 : Int) (a0_4 : Bool) : Option (Int × Bool) := (impl_First_isScanned.f a0_0 a0_1 a0_2 a0_3 a0_4 0).bind fun t273 => (if t273 = true then ((impl_First_cycles.f k a0_0 a0_1 a0_2 a0_3 a0_4 0).bind fun t274 => ((slices_Concat_int_int.f t274).bind fun t277 => ((impl_peak.f k t277).bind fun t280 => (some (t280, true))))) else (some (0, false)))
theorem impl_DeadBand.mono : ∀ a0 a1 a2 a3 a4 k, LeO (impl_DeadBand.f k a0 a1 a2 a3 a4) (impl_DeadBand.f (k + 1) a0 a1 a2 a3 a4) := by
  intro a0 a1 a2 a3 a4 k
  unfold impl_DeadBand.f
  repeat' first
      | (with_reducible exact impl_First_cycles.mono _ _ _ _ _ _ _)
      | (with_reducible exact impl_peak.mono _ _)
      | (with_reducible exact LeO.refl _)
      | (with_reducible exact LeO.none _)
      | (with_reducible refine LeO.ite ?_ ?_)
      | (with_reducible refine LeO.bind ?_ (fun _ => ?_))
      | exact impl_First_cycles.mono _ _ _ _ _ _ _
      | exact impl_peak.mono _ _
      | exact LeO.none _
      | refine LeO.ite ?_ ?_
      | refine LeO.bind ?_ (fun _ => ?_)
set_option maxHeartbeats 8000000 in
set_option maxRecDepth 100000 in
theorem impl_DeadBand.calls (k : Nat) (a0_0 : Int) (a0_1 : Int) (a0_2 : Int) (a0_3 : Int) (a0_4 : Bool) (r1 : Int) (r2 : Bool) (w : World) (h : impl_DeadBand.f k a0_0 a0_1 a0_2 a0_3 a0_4 = some (r1, r2)) :
    Calls Try.prog 33 #[.agg #[.int .i64 a0_0, .int .i64 a0_1, .int .i64 a0_2, .int .i64 a0_3, .bool a0_4]] w fun e w' => e = .returned (.tuple #[.int .i64 r1, .bool r2]) ∧ Below w.heap.size w w' := by
  have hu31 := Try.underlying31
  have HB := Aside0.mk (Below.refl w.heap.size w)
  have H : ((impl_First_isScanned.f a0_0 a0_1 a0_2 a0_3 a0_4 0).bind fun t273 => (if t273 = true then ((impl_First_cycles.f k a0_0 a0_1 a0_2 a0_3 a0_4 0).bind fun t274 => ((slices_Concat_int_int.f t274).bind fun t277 => ((impl_peak.f k t277).bind fun t280 => (some (t280, true))))) else (some (0, false)))) = some (r1, r2) := h
  clear h
  replace H := Option.bind_eq_some_iff.mp H
  obtain ⟨t273, A20, H⟩ := H
  replace H : (if t273 = true then ((impl_First_cycles.f k a0_0 a0_1 a0_2 a0_3 a0_4 0).bind fun t274 => ((slices_Concat_int_int.f t274).bind fun t277 => ((impl_peak.f k t277).bind fun t280 => (some (t280, true))))) else (some (0, false))) = some (r1, r2) := H
  have A2 := Aside0.mk A20
  clear A20
  by_cases c3 : t273 = true
  · subst c3
    have H1 : ((impl_First_cycles.f k a0_0 a0_1 a0_2 a0_3 a0_4 0).bind fun t274 => ((slices_Concat_int_int.f t274).bind fun t277 => ((impl_peak.f k t277).bind fun t280 => (some (t280, true))))) = some (r1, r2) := by rw [if_pos rfl] at H; exact H
    clear H
    have H := H1
    clear H1
    replace H := Option.bind_eq_some_iff.mp H
    obtain ⟨t274, A40, H⟩ := H
    replace H : ((slices_Concat_int_int.f t274).bind fun t277 => ((impl_peak.f k t277).bind fun t280 => (some (t280, true)))) = some (r1, r2) := H
    have A4 := Aside0.mk A40
    clear A40
    replace H := Option.bind_eq_some_iff.mp H
    obtain ⟨t277, A50, H⟩ := H
    replace H : ((impl_peak.f k t277).bind fun t280 => (some (t280, true))) = some (r1, r2) := H
    have A5 := Aside0.mk A50
    clear A50
    replace H := Option.bind_eq_some_iff.mp H
    obtain ⟨t280, A60, H⟩ := H
    replace H : (some (t280, true)) = some (r1, r2) := H
    have A6 := Aside0.mk A60
    clear A60
    simp only [Option.some.injEq, Prod.mk.injEq] at H
    obtain ⟨rfl, rfl⟩ := H
    go_enter Try.func33, Try.ntmps33
    go_wp2_with (first | ((with_reducible refine gate_dst (N := 1) rfl ?_); refine box_event ?hg (N := 1) ?hd (cs := #[.int .i64 a0_0, .int .i64 a0_1, .int .i64 a0_2, .int .i64 a0_3, .bool a0_4]) (t := 31) ?hr ?_; (case hd => rfl); (case hg => rfl); (case hr => first | (go_simp; done) | (go_simp; rfl)); intro gb272 hg w7 hbox hb; have n0_ := Aside0.mk (below_step (by repeat (first | (with_reducible first | exact HB.out | apply below_alloc | apply pw_below_drewN | apply below_drew1) | exact HB.out)) hb); have n1_ := Aside0.mk (hbox); have n2_ := Aside0.mk ((by rw [hg]; exact (below_size (by repeat (first | (with_reducible first | exact HB.out | apply below_alloc | apply pw_below_drewN | apply below_drew1) | exact HB.out))) : w.heap.size ≤ gb272)); have n3_ := Aside0.mk ((by rw [hg]; exact (below_size (by repeat (first | (with_reducible first | exact HB.out | apply below_alloc | apply pw_below_drewN | apply below_drew1) | exact HB.out))) : w.heap.size ≤ gb272)); clear HB; have HB := n0_; have BK272 := n1_; have GW272 := n2_; have GE272 := n3_; clear n0_ n1_ n2_ n3_; clear hb hbox hg; have hcz8_0 : w7.cell? ⟨gb272, 0, none⟩ = some (.int .i64 a0_0) := (blk_cell BK272.out 0).trans rfl; have hcz8_1 : w7.cell? ⟨gb272, 1, none⟩ = some (.int .i64 a0_1) := (blk_cell BK272.out 1).trans rfl; have hcz8_2 : w7.cell? ⟨gb272, 2, none⟩ = some (.int .i64 a0_2) := (blk_cell BK272.out 2).trans rfl; have hcz8_3 : w7.cell? ⟨gb272, 3, none⟩ = some (.int .i64 a0_3) := (blk_cell BK272.out 3).trans rfl; have hcz8_4 : w7.cell? ⟨gb272, 4, none⟩ = some (.bool a0_4) := (blk_cell BK272.out 4).trans rfl; have hfz8_0 := blk_frozen BK272.out 0; have hfz8_1 := blk_frozen BK272.out 1; have hfz8_2 := blk_frozen BK272.out 2; have hfz8_3 := blk_frozen BK272.out 3; have hfz8_4 := blk_frozen BK272.out 4) | ((with_reducible refine gate_callee (f := 66) rfl ?_); refine goesL_ (some 5) rfl rfl Try.func66 (by kernel_rfl) rfl #[.agg #[.int .i64 a0_0, .int .i64 a0_1, .int .i64 a0_2, .int .i64 a0_3, .bool a0_4], .int .i64 0] rfl (by (try simp only [List.map_toArray, List.map_cons, List.map_nil]); first | done | rfl | (simp only [List.length_drop, List.length_take]; rfl)) ?_; (with_reducible refine (impl_First_isScanned.calls a0_0 a0_1 a0_2 a0_3 a0_4 0 true _ A2.out).mono ?_); rintro e w9 ⟨rfl, hb⟩; refine ⟨_, rfl, ?_⟩; have n0_ := Aside0.mk (blk_below (g := gb272) (o := .cells #[.int .i64 a0_0, .int .i64 a0_1, .int .i64 a0_2, .int .i64 a0_3, .bool a0_4] 31 (0, 0)) (by (with_reducible repeat (first | refine blk_drewN ?_ _ | refine blk_drew ?_ | refine blk_alloc ?_ _)); exact BK272.out) hb); have n1_ := Aside0.mk (below_step (by repeat (first | (with_reducible first | exact HB.out | apply below_alloc | apply pw_below_drewN | apply below_drew1 | refine below_set ?_ GE272.out) | exact HB.out)) hb); clear BK272; clear HB; have BK272 := n0_; have HB := n1_; clear n0_ n1_; (try clear hb); (try clear hb2); (try clear hk); (try clear hi); have hcz10_0 : w9.cell? ⟨gb272, 0, none⟩ = some (.int .i64 a0_0) := (blk_cell BK272.out 0).trans rfl; have hcz10_1 : w9.cell? ⟨gb272, 1, none⟩ = some (.int .i64 a0_1) := (blk_cell BK272.out 1).trans rfl; have hcz10_2 : w9.cell? ⟨gb272, 2, none⟩ = some (.int .i64 a0_2) := (blk_cell BK272.out 2).trans rfl; have hcz10_3 : w9.cell? ⟨gb272, 3, none⟩ = some (.int .i64 a0_3) := (blk_cell BK272.out 3).trans rfl; have hcz10_4 : w9.cell? ⟨gb272, 4, none⟩ = some (.bool a0_4) := (blk_cell BK272.out 4).trans rfl; have hfz10_0 := blk_frozen BK272.out 0; have hfz10_1 := blk_frozen BK272.out 1; have hfz10_2 := blk_frozen BK272.out 2; have hfz10_3 := blk_frozen BK272.out 3; have hfz10_4 := blk_frozen BK272.out 4) | ((with_reducible refine gate_callee (f := 67) rfl ?_); refine goesL_ (some 8) rfl rfl Try.func67 (by kernel_rfl) rfl #[.agg #[.int .i64 a0_0, .int .i64 a0_1, .int .i64 a0_2, .int .i64 a0_3, .bool a0_4], .int .i64 0] rfl (by (try simp only [List.map_toArray, List.map_cons, List.map_nil]); first | done | rfl | (simp only [List.length_drop, List.length_take]; rfl)) ?_; (with_reducible refine (impl_First_cycles.calls k a0_0 a0_1 a0_2 a0_3 a0_4 0 t274 _ A4.out).mono ?_); rintro e w11 ⟨v275, rfl, ho0, hb⟩; refine ⟨_, rfl, ?_⟩; have n0_ := Aside0.mk (Kd.S_lower ho0 (below_size (by repeat (first | (with_reducible first | exact HB.out | apply below_alloc | apply pw_below_drewN | apply below_drew1 | refine below_set ?_ GE272.out) | exact HB.out)))); have n1_ := Aside0.mk (blk_below (g := gb272) (o := .cells #[.int .i64 a0_0, .int .i64 a0_1, .int .i64 a0_2, .int .i64 a0_3, .bool a0_4] 31 (0, 0)) (by (with_reducible repeat (first | refine blk_drewN ?_ _ | refine blk_drew ?_ | refine blk_alloc ?_ _)); exact BK272.out) hb); have n2_ := Aside0.mk (below_step (by repeat (first | (with_reducible first | exact HB.out | apply below_alloc | apply pw_below_drewN | apply below_drew1 | refine below_set ?_ GE272.out) | exact HB.out)) hb); clear BK272; clear HB; have HO276 := n0_; have BK272 := n1_; have HB := n2_; clear n0_ n1_ n2_; (try clear hb); (try clear hb2); (try clear hk); (try clear hi); (try clear ho0); obtain ⟨Ao12, co12, eo12⟩ := Kd.S_slice HO276.out; subst eo12) | ((with_reducible refine gate_callee (f := 71) rfl ?_); refine goesL_ (some 9) rfl rfl Try.func71 (by kernel_rfl) rfl #[.slice Ao12 t274.length co12] rfl (by (try simp only [List.map_toArray, List.map_cons, List.map_nil]); first | done | rfl | (simp only [List.length_drop, List.length_take]; rfl)) ?_; (with_reducible refine (slices_Concat_int_int.calls _ _ t274 t277 _ ?side1 ?side2 A5.out).mono ?_); (case side1 => repeat (first | exact (Kd.S_reads' HO276.out).2.2 | (with_reducible refine Kd.C_alloc ?_ _) | (with_reducible refine Kd.C_drewN ?_ _) | (with_reducible refine Kd.C_drew ?_))); (case side2 => exact (Kd.S_reads' HO276.out).2.1); rintro e w13 ⟨v278, rfl, ho0, hb⟩; refine ⟨_, rfl, ?_⟩; have n0_ := Aside0.mk (Kd.S_elder' (by (with_reducible repeat (first | apply Kd.S_alloc | apply Kd.S_drewN | apply Kd.S_drew)); exact HO276.out) (Kd.R_base ho0) hb); have n1_ := Aside0.mk (Kd.R_lower ho0 (below_size (by repeat (first | (with_reducible first | exact HB.out | apply below_alloc | apply pw_below_drewN | apply below_drew1 | refine below_set ?_ GE272.out) | exact HB.out)))); have n2_ := Aside0.mk (blk_below (g := gb272) (o := .cells #[.int .i64 a0_0, .int .i64 a0_1, .int .i64 a0_2, .int .i64 a0_3, .bool a0_4] 31 (0, 0)) (by (with_reducible repeat (first | refine blk_drewN ?_ _ | refine blk_drew ?_ | refine blk_alloc ?_ _)); exact BK272.out) hb); have n3_ := Aside0.mk (below_step (by repeat (first | (with_reducible first | exact HB.out | apply below_alloc | apply pw_below_drewN | apply below_drew1 | refine below_set ?_ GE272.out) | exact HB.out)) hb); clear HO276; clear BK272; clear HB; have HO276 := n0_; have HO279 := n1_; have BK272 := n2_; have HB := n3_; clear n0_ n1_ n2_ n3_; (try clear hb); (try clear hb2); (try clear hk); (try clear hi); (try clear ho0); obtain ⟨Ao14, co14, eo14⟩ := Kd.R_slice HO279.out; subst eo14) | ((with_reducible refine gate_callee (f := 70) rfl ?_); refine goesL_ (some 10) rfl rfl Try.func70 (by kernel_rfl) rfl #[.slice Ao14 t277.length co14] rfl (by (try simp only [List.map_toArray, List.map_cons, List.map_nil]); first | done | rfl | (simp only [List.length_drop, List.length_take]; rfl)) ?_; (with_reducible refine (impl_peak.calls k _ _ t277 t280 _ ?side1 ?side2 A6.out).mono ?_); (case side1 => repeat (first | exact (Kd.R_reads' HO279.out).2.2 | (with_reducible refine Kd.C_alloc ?_ _) | (with_reducible refine Kd.C_drewN ?_ _) | (with_reducible refine Kd.C_drew ?_))); (case side2 => exact (Kd.R_reads' HO279.out).2.1); rintro e w15 ⟨rfl, hb⟩; refine ⟨_, rfl, ?_⟩; have n0_ := Aside0.mk (Kd.S_below (by (with_reducible repeat (first | apply Kd.S_alloc | apply Kd.S_drewN | apply Kd.S_drew)); exact HO276.out) hb); have n1_ := Aside0.mk (Kd.R_below (by (with_reducible repeat (first | apply Kd.R_alloc | apply Kd.R_drewN | apply Kd.R_drew)); exact HO279.out) hb); have n2_ := Aside0.mk (blk_below (g := gb272) (o := .cells #[.int .i64 a0_0, .int .i64 a0_1, .int .i64 a0_2, .int .i64 a0_3, .bool a0_4] 31 (0, 0)) (by (with_reducible repeat (first | refine blk_drewN ?_ _ | refine blk_drew ?_ | refine blk_alloc ?_ _)); exact BK272.out) hb); have n3_ := Aside0.mk (below_step (by repeat (first | (with_reducible first | exact HB.out | apply below_alloc | apply pw_below_drewN | apply below_drew1 | refine below_set ?_ GE272.out) | exact HB.out)) hb); clear HO276; clear HO279; clear BK272; clear HB; have HO276 := n0_; have HO279 := n1_; have BK272 := n2_; have HB := n3_; clear n0_ n1_ n2_ n3_; (try clear hb); (try clear hb2); (try clear hk); (try clear hi)))
    go_ret2
    exact ⟨by first | rfl | (simp [errW_none, errW_some] <;> rfl) | (simp [*, errW_none, errW_some] <;> rfl), by repeat (first | (with_reducible first | exact HB.out | apply below_alloc | apply pw_below_drewN | apply below_drew1 | refine below_set ?_ GE272.out) | exact HB.out)⟩
  · replace c3 := Bool.eq_false_iff.mpr c3
    subst c3
    have H1 : (some (0, false)) = some (r1, r2) := by rw [if_neg (show ¬ (false = true) by decide)] at H; exact H
    clear H
    have H := H1
    clear H1
    simp only [Option.some.injEq, Prod.mk.injEq] at H
    obtain ⟨rfl, rfl⟩ := H
    go_enter Try.func33, Try.ntmps33
    go_wp2_with (first | ((with_reducible refine gate_dst (N := 1) rfl ?_); refine box_event ?hg (N := 1) ?hd (cs := #[.int .i64 a0_0, .int .i64 a0_1, .int .i64 a0_2, .int .i64 a0_3, .bool a0_4]) (t := 31) ?hr ?_; (case hd => rfl); (case hg => rfl); (case hr => first | (go_simp; done) | (go_simp; rfl)); intro gb272 hg w16 hbox hb; have n0_ := Aside0.mk (below_step (by repeat (first | (with_reducible first | exact HB.out | apply below_alloc | apply pw_below_drewN | apply below_drew1) | exact HB.out)) hb); have n1_ := Aside0.mk (hbox); have n2_ := Aside0.mk ((by rw [hg]; exact (below_size (by repeat (first | (with_reducible first | exact HB.out | apply below_alloc | apply pw_below_drewN | apply below_drew1) | exact HB.out))) : w.heap.size ≤ gb272)); have n3_ := Aside0.mk ((by rw [hg]; exact (below_size (by repeat (first | (with_reducible first | exact HB.out | apply below_alloc | apply pw_below_drewN | apply below_drew1) | exact HB.out))) : w.heap.size ≤ gb272)); clear HB; have HB := n0_; have BK272 := n1_; have GW272 := n2_; have GE272 := n3_; clear n0_ n1_ n2_ n3_; clear hb hbox hg; have hcz17_0 : w16.cell? ⟨gb272, 0, none⟩ = some (.int .i64 a0_0) := (blk_cell BK272.out 0).trans rfl; have hcz17_1 : w16.cell? ⟨gb272, 1, none⟩ = some (.int .i64 a0_1) := (blk_cell BK272.out 1).trans rfl; have hcz17_2 : w16.cell? ⟨gb272, 2, none⟩ = some (.int .i64 a0_2) := (blk_cell BK272.out 2).trans rfl; have hcz17_3 : w16.cell? ⟨gb272, 3, none⟩ = some (.int .i64 a0_3) := (blk_cell BK272.out 3).trans rfl; have hcz17_4 : w16.cell? ⟨gb272, 4, none⟩ = some (.bool a0_4) := (blk_cell BK272.out 4).trans rfl; have hfz17_0 := blk_frozen BK272.out 0; have hfz17_1 := blk_frozen BK272.out 1; have hfz17_2 := blk_frozen BK272.out 2; have hfz17_3 := blk_frozen BK272.out 3; have hfz17_4 := blk_frozen BK272.out 4) | ((with_reducible refine gate_callee (f := 66) rfl ?_); refine goesL_ (some 5) rfl rfl Try.func66 (by kernel_rfl) rfl #[.agg #[.int .i64 a0_0, .int .i64 a0_1, .int .i64 a0_2, .int .i64 a0_3, .bool a0_4], .int .i64 0] rfl (by (try simp only [List.map_toArray, List.map_cons, List.map_nil]); first | done | rfl | (simp only [List.length_drop, List.length_take]; rfl)) ?_; (with_reducible refine (impl_First_isScanned.calls a0_0 a0_1 a0_2 a0_3 a0_4 0 false _ A2.out).mono ?_); rintro e w18 ⟨rfl, hb⟩; refine ⟨_, rfl, ?_⟩; have n0_ := Aside0.mk (blk_below (g := gb272) (o := .cells #[.int .i64 a0_0, .int .i64 a0_1, .int .i64 a0_2, .int .i64 a0_3, .bool a0_4] 31 (0, 0)) (by (with_reducible repeat (first | refine blk_drewN ?_ _ | refine blk_drew ?_ | refine blk_alloc ?_ _)); exact BK272.out) hb); have n1_ := Aside0.mk (below_step (by repeat (first | (with_reducible first | exact HB.out | apply below_alloc | apply pw_below_drewN | apply below_drew1 | refine below_set ?_ GE272.out) | exact HB.out)) hb); clear BK272; clear HB; have BK272 := n0_; have HB := n1_; clear n0_ n1_; (try clear hb); (try clear hb2); (try clear hk); (try clear hi)))
    go_ret2
    exact ⟨by first | rfl | (simp [errW_none, errW_some] <;> rfl) | (simp [*, errW_none, errW_some] <;> rfl), by repeat (first | (with_reducible first | exact HB.out | apply below_alloc | apply pw_below_drewN | apply below_drew1 | refine below_set ?_ GE272.out) | exact HB.out)⟩

/-! ### laws_FnExactDeadBand: function 8 -/
def laws_FnExactDeadBand.f (k : Nat) (a0_0 : Int) (a0_1 : Int) (a0_2 : Int) (a0_3 : Int) (a0_4 : Bool) : Option (Bool) := (laws_toFirst.f a0_0 a0_1 a0_2 a0_3 a0_4).bind fun bt282 => ((spec_DeadBand.f k bt282.1 bt282.2.1 bt282.2.2.1 bt282.2.2.2.1 bt282.2.2.2.2).bind fun bt287 => ((laws_toFirst.f a0_0 a0_1 a0_2 a0_3 a0_4).bind fun bt289 => ((impl_DeadBand.f k bt289.1 bt289.2.1 bt289.2.2.1 bt289.2.2.2.1 bt289.2.2.2.2).bind fun bt294 => (if bt294.1 = bt287.1 then (if (bt294.2 != bt287.2) = true then (some false) else (some true)) else (some false)))))
theorem laws_FnExactDeadBand.mono : ∀ a0 a1 a2 a3 a4 k, LeO (laws_FnExactDeadBand.f k a0 a1 a2 a3 a4) (laws_FnExactDeadBand.f (k + 1) a0 a1 a2 a3 a4) := by
  intro a0 a1 a2 a3 a4 k
  unfold laws_FnExactDeadBand.f
  repeat' first
      | (with_reducible exact impl_DeadBand.mono _ _ _ _ _ _)
      | (with_reducible exact spec_DeadBand.mono _ _ _ _ _ _)
      | (with_reducible exact LeO.refl _)
      | (with_reducible exact LeO.none _)
      | (with_reducible refine LeO.ite ?_ ?_)
      | (with_reducible refine LeO.bind ?_ (fun _ => ?_))
      | exact impl_DeadBand.mono _ _ _ _ _ _
      | exact spec_DeadBand.mono _ _ _ _ _ _
      | exact LeO.none _
      | refine LeO.ite ?_ ?_
      | refine LeO.bind ?_ (fun _ => ?_)
set_option maxHeartbeats 8000000 in
set_option maxRecDepth 100000 in
theorem laws_FnExactDeadBand.calls (k : Nat) (a0_0 : Int) (a0_1 : Int) (a0_2 : Int) (a0_3 : Int) (a0_4 : Bool) (r : Bool) (w : World) (h : laws_FnExactDeadBand.f k a0_0 a0_1 a0_2 a0_3 a0_4 = some r) :
    Calls Try.prog 8 #[.agg #[.int .i64 a0_0, .int .i64 a0_1, .int .i64 a0_2, .int .i64 a0_3, .bool a0_4]] w fun e w' => e = .returned (.bool r) ∧ Below w.heap.size w w' := by
  have hu25 := Try.underlying25
  have HB := Aside0.mk (Below.refl w.heap.size w)
  have H : ((laws_toFirst.f a0_0 a0_1 a0_2 a0_3 a0_4).bind fun bt282 => ((spec_DeadBand.f k bt282.1 bt282.2.1 bt282.2.2.1 bt282.2.2.2.1 bt282.2.2.2.2).bind fun bt287 => ((laws_toFirst.f a0_0 a0_1 a0_2 a0_3 a0_4).bind fun bt289 => ((impl_DeadBand.f k bt289.1 bt289.2.1 bt289.2.2.1 bt289.2.2.2.1 bt289.2.2.2.2).bind fun bt294 => (if bt294.1 = bt287.1 then (if (bt294.2 != bt287.2) = true then (some false) else (some true)) else (some false)))))) = some r := h
  clear h
  replace H := Option.bind_eq_some_iff.mp H
  obtain ⟨⟨t282, t283, t284, t285, t286⟩, A20, H⟩ := H
  replace H : ((spec_DeadBand.f k t282 t283 t284 t285 t286).bind fun bt287 => ((laws_toFirst.f a0_0 a0_1 a0_2 a0_3 a0_4).bind fun bt289 => ((impl_DeadBand.f k bt289.1 bt289.2.1 bt289.2.2.1 bt289.2.2.2.1 bt289.2.2.2.2).bind fun bt294 => (if bt294.1 = bt287.1 then (if (bt294.2 != bt287.2) = true then (some false) else (some true)) else (some false))))) = some r := H
  have A2 := Aside0.mk A20
  clear A20
  replace H := Option.bind_eq_some_iff.mp H
  obtain ⟨⟨t287, t288⟩, A30, H⟩ := H
  replace H : ((laws_toFirst.f a0_0 a0_1 a0_2 a0_3 a0_4).bind fun bt289 => ((impl_DeadBand.f k bt289.1 bt289.2.1 bt289.2.2.1 bt289.2.2.2.1 bt289.2.2.2.2).bind fun bt294 => (if bt294.1 = t287 then (if (bt294.2 != t288) = true then (some false) else (some true)) else (some false)))) = some r := H
  have A3 := Aside0.mk A30
  clear A30
  replace H := Option.bind_eq_some_iff.mp H
  obtain ⟨⟨t289, t290, t291, t292, t293⟩, A40, H⟩ := H
  replace H : ((impl_DeadBand.f k t289 t290 t291 t292 t293).bind fun bt294 => (if bt294.1 = t287 then (if (bt294.2 != t288) = true then (some false) else (some true)) else (some false))) = some r := H
  have A4 := Aside0.mk A40
  clear A40
  replace H := Option.bind_eq_some_iff.mp H
  obtain ⟨⟨t294, t295⟩, A50, H⟩ := H
  replace H : (if t294 = t287 then (if (t295 != t288) = true then (some false) else (some true)) else (some false)) = some r := H
  have A5 := Aside0.mk A50
  clear A50
  by_cases c6 : t294 = t287
  · rw [if_pos c6] at H
    have c6b0 : (t294 == t287) = true := beq_iff_eq.mpr c6
    have c6b1 : (t294 != t287) = false := bne_eq_false_iff_eq.mpr c6
    clear c6
    by_cases c7 : (t295 != t288) = true
    · rw [if_pos c7] at H
      have c7b0 : (t295 != t288) = true := c7
      (try (have c7b1 : decide (t295 = t288) = false := by simpa using c7))
      (try (have c7b2 : (t295 == t288) = false := by simpa using c7))
      (try (have c7b3 : ¬ (t295 = t288) := by simpa using c7))
      clear c7
      obtain rfl := Option.some.inj H
      go_enter Try.func8, Try.ntmps8
      go_wp2_with (first | ((with_reducible refine gate_dst (N := 1) rfl ?_); refine box_event ?hg (N := 1) ?hd (cs := #[.int .i64 a0_0, .int .i64 a0_1, .int .i64 a0_2, .int .i64 a0_3, .bool a0_4]) (t := 25) ?hr ?_; (case hd => rfl); (case hg => rfl); (case hr => first | (go_simp; done) | (go_simp; rfl)); intro gb281 hg w8 hbox hb; have n0_ := Aside0.mk (below_step (by repeat (first | (with_reducible first | exact HB.out | apply below_alloc | apply pw_below_drewN | apply below_drew1) | exact HB.out)) hb); have n1_ := Aside0.mk (hbox); have n2_ := Aside0.mk ((by rw [hg]; exact (below_size (by repeat (first | (with_reducible first | exact HB.out | apply below_alloc | apply pw_below_drewN | apply below_drew1) | exact HB.out))) : w.heap.size ≤ gb281)); have n3_ := Aside0.mk ((by rw [hg]; exact (below_size (by repeat (first | (with_reducible first | exact HB.out | apply below_alloc | apply pw_below_drewN | apply below_drew1) | exact HB.out))) : w.heap.size ≤ gb281)); clear HB; have HB := n0_; have BK281 := n1_; have GW281 := n2_; have GE281 := n3_; clear n0_ n1_ n2_ n3_; clear hb hbox hg; have hcz9_0 : w8.cell? ⟨gb281, 0, none⟩ = some (.int .i64 a0_0) := (blk_cell BK281.out 0).trans rfl; have hcz9_1 : w8.cell? ⟨gb281, 1, none⟩ = some (.int .i64 a0_1) := (blk_cell BK281.out 1).trans rfl; have hcz9_2 : w8.cell? ⟨gb281, 2, none⟩ = some (.int .i64 a0_2) := (blk_cell BK281.out 2).trans rfl; have hcz9_3 : w8.cell? ⟨gb281, 3, none⟩ = some (.int .i64 a0_3) := (blk_cell BK281.out 3).trans rfl; have hcz9_4 : w8.cell? ⟨gb281, 4, none⟩ = some (.bool a0_4) := (blk_cell BK281.out 4).trans rfl; have hfz9_0 := blk_frozen BK281.out 0; have hfz9_1 := blk_frozen BK281.out 1; have hfz9_2 := blk_frozen BK281.out 2; have hfz9_3 := blk_frozen BK281.out 3; have hfz9_4 := blk_frozen BK281.out 4) | ((with_reducible refine gate_callee (f := 14) rfl ?_); refine goesL_ (some 9) rfl rfl Try.func14 (by kernel_rfl) rfl #[.agg #[.int .i64 a0_0, .int .i64 a0_1, .int .i64 a0_2, .int .i64 a0_3, .bool a0_4]] rfl (by (try simp only [List.map_toArray, List.map_cons, List.map_nil]); first | done | rfl | (simp only [List.length_drop, List.length_take]; rfl)) ?_; (with_reducible refine (laws_toFirst.calls a0_0 a0_1 a0_2 a0_3 a0_4 t282 t283 t284 t285 t286 _ A2.out).mono ?_); rintro e w10 ⟨rfl, hb⟩; refine ⟨_, rfl, ?_⟩; have n0_ := Aside0.mk (blk_below (g := gb281) (o := .cells #[.int .i64 a0_0, .int .i64 a0_1, .int .i64 a0_2, .int .i64 a0_3, .bool a0_4] 25 (0, 0)) (by (with_reducible repeat (first | refine blk_drewN ?_ _ | refine blk_drew ?_ | refine blk_alloc ?_ _)); exact BK281.out) hb); have n1_ := Aside0.mk (below_step (by repeat (first | (with_reducible first | exact HB.out | apply below_alloc | apply pw_below_drewN | apply below_drew1 | refine below_set ?_ GE281.out) | exact HB.out)) hb); clear BK281; clear HB; have BK281 := n0_; have HB := n1_; clear n0_ n1_; (try clear hb); (try clear hb2); (try clear hk); (try clear hi)) | ((with_reducible refine gate_callee (f := 32) rfl ?_); refine goesL_ (some 10) rfl rfl Try.func32 (by kernel_rfl) rfl #[.agg #[.int .i64 t282, .int .i64 t283, .int .i64 t284, .int .i64 t285, .bool t286]] rfl (by (try simp only [List.map_toArray, List.map_cons, List.map_nil]); first | done | rfl | (simp only [List.length_drop, List.length_take]; rfl)) ?_; (with_reducible refine (spec_DeadBand.calls k t282 t283 t284 t285 t286 t287 t288 _ A3.out).mono ?_); rintro e w11 ⟨rfl, hb⟩; refine ⟨_, rfl, ?_⟩; have n0_ := Aside0.mk (blk_below (g := gb281) (o := .cells #[.int .i64 a0_0, .int .i64 a0_1, .int .i64 a0_2, .int .i64 a0_3, .bool a0_4] 25 (0, 0)) (by (with_reducible repeat (first | refine blk_drewN ?_ _ | refine blk_drew ?_ | refine blk_alloc ?_ _)); exact BK281.out) hb); have n1_ := Aside0.mk (below_step (by repeat (first | (with_reducible first | exact HB.out | apply below_alloc | apply pw_below_drewN | apply below_drew1 | refine below_set ?_ GE281.out) | exact HB.out)) hb); clear BK281; clear HB; have BK281 := n0_; have HB := n1_; clear n0_ n1_; (try clear hb); (try clear hb2); (try clear hk); (try clear hi); have hcz12_0 : w11.cell? ⟨gb281, 0, none⟩ = some (.int .i64 a0_0) := (blk_cell BK281.out 0).trans rfl; have hcz12_1 : w11.cell? ⟨gb281, 1, none⟩ = some (.int .i64 a0_1) := (blk_cell BK281.out 1).trans rfl; have hcz12_2 : w11.cell? ⟨gb281, 2, none⟩ = some (.int .i64 a0_2) := (blk_cell BK281.out 2).trans rfl; have hcz12_3 : w11.cell? ⟨gb281, 3, none⟩ = some (.int .i64 a0_3) := (blk_cell BK281.out 3).trans rfl; have hcz12_4 : w11.cell? ⟨gb281, 4, none⟩ = some (.bool a0_4) := (blk_cell BK281.out 4).trans rfl; have hfz12_0 := blk_frozen BK281.out 0; have hfz12_1 := blk_frozen BK281.out 1; have hfz12_2 := blk_frozen BK281.out 2; have hfz12_3 := blk_frozen BK281.out 3; have hfz12_4 := blk_frozen BK281.out 4) | ((with_reducible refine gate_callee (f := 14) rfl ?_); refine goesL_ (some 15) rfl rfl Try.func14 (by kernel_rfl) rfl #[.agg #[.int .i64 a0_0, .int .i64 a0_1, .int .i64 a0_2, .int .i64 a0_3, .bool a0_4]] rfl (by (try simp only [List.map_toArray, List.map_cons, List.map_nil]); first | done | rfl | (simp only [List.length_drop, List.length_take]; rfl)) ?_; (with_reducible refine (laws_toFirst.calls a0_0 a0_1 a0_2 a0_3 a0_4 t289 t290 t291 t292 t293 _ A4.out).mono ?_); rintro e w13 ⟨rfl, hb⟩; refine ⟨_, rfl, ?_⟩; have n0_ := Aside0.mk (blk_below (g := gb281) (o := .cells #[.int .i64 a0_0, .int .i64 a0_1, .int .i64 a0_2, .int .i64 a0_3, .bool a0_4] 25 (0, 0)) (by (with_reducible repeat (first | refine blk_drewN ?_ _ | refine blk_drew ?_ | refine blk_alloc ?_ _)); exact BK281.out) hb); have n1_ := Aside0.mk (below_step (by repeat (first | (with_reducible first | exact HB.out | apply below_alloc | apply pw_below_drewN | apply below_drew1 | refine below_set ?_ GE281.out) | exact HB.out)) hb); clear BK281; clear HB; have BK281 := n0_; have HB := n1_; clear n0_ n1_; (try clear hb); (try clear hb2); (try clear hk); (try clear hi)) | ((with_reducible refine gate_callee (f := 33) rfl ?_); refine goesL_ (some 16) rfl rfl Try.func33 (by kernel_rfl) rfl #[.agg #[.int .i64 t289, .int .i64 t290, .int .i64 t291, .int .i64 t292, .bool t293]] rfl (by (try simp only [List.map_toArray, List.map_cons, List.map_nil]); first | done | rfl | (simp only [List.length_drop, List.length_take]; rfl)) ?_; (with_reducible refine (impl_DeadBand.calls k t289 t290 t291 t292 t293 t294 t295 _ A5.out).mono ?_); rintro e w14 ⟨rfl, hb⟩; refine ⟨_, rfl, ?_⟩; have n0_ := Aside0.mk (blk_below (g := gb281) (o := .cells #[.int .i64 a0_0, .int .i64 a0_1, .int .i64 a0_2, .int .i64 a0_3, .bool a0_4] 25 (0, 0)) (by (with_reducible repeat (first | refine blk_drewN ?_ _ | refine blk_drew ?_ | refine blk_alloc ?_ _)); exact BK281.out) hb); have n1_ := Aside0.mk (below_step (by repeat (first | (with_reducible first | exact HB.out | apply below_alloc | apply pw_below_drewN | apply below_drew1 | refine below_set ?_ GE281.out) | exact HB.out)) hb); clear BK281; clear HB; have BK281 := n0_; have HB := n1_; clear n0_ n1_; (try clear hb); (try clear hb2); (try clear hk); (try clear hi)))
      go_ret
      exact ⟨by first | rfl | (simp [errW_none, errW_some] <;> rfl) | (simp [*, errW_none, errW_some] <;> rfl), by repeat (first | (with_reducible first | exact HB.out | apply below_alloc | apply pw_below_drewN | apply below_drew1 | refine below_set ?_ GE281.out) | exact HB.out)⟩
    · rw [if_neg c7] at H
      have c7b0 : (t295 != t288) = false := by simpa using c7
      (try (have c7b1 : decide (t295 = t288) = true := by simpa using c7))
      (try (have c7b2 : (t295 == t288) = true := by simpa using c7))
      clear c7
      obtain rfl := Option.some.inj H
      go_enter Try.func8, Try.ntmps8
      go_wp2_with (first | ((with_reducible refine gate_dst (N := 1) rfl ?_); refine box_event ?hg (N := 1) ?hd (cs := #[.int .i64 a0_0, .int .i64 a0_1, .int .i64 a0_2, .int .i64 a0_3, .bool a0_4]) (t := 25) ?hr ?_; (case hd => rfl); (case hg => rfl); (case hr => first | (go_simp; done) | (go_simp; rfl)); intro gb281 hg w15 hbox hb; have n0_ := Aside0.mk (below_step (by repeat (first | (with_reducible first | exact HB.out | apply below_alloc | apply pw_below_drewN | apply below_drew1) | exact HB.out)) hb); have n1_ := Aside0.mk (hbox); have n2_ := Aside0.mk ((by rw [hg]; exact (below_size (by repeat (first | (with_reducible first | exact HB.out | apply below_alloc | apply pw_below_drewN | apply below_drew1) | exact HB.out))) : w.heap.size ≤ gb281)); have n3_ := Aside0.mk ((by rw [hg]; exact (below_size (by repeat (first | (with_reducible first | exact HB.out | apply below_alloc | apply pw_below_drewN | apply below_drew1) | exact HB.out))) : w.heap.size ≤ gb281)); clear HB; have HB := n0_; have BK281 := n1_; have GW281 := n2_; have GE281 := n3_; clear n0_ n1_ n2_ n3_; clear hb hbox hg; have hcz16_0 : w15.cell? ⟨gb281, 0, none⟩ = some (.int .i64 a0_0) := (blk_cell BK281.out 0).trans rfl; have hcz16_1 : w15.cell? ⟨gb281, 1, none⟩ = some (.int .i64 a0_1) := (blk_cell BK281.out 1).trans rfl; have hcz16_2 : w15.cell? ⟨gb281, 2, none⟩ = some (.int .i64 a0_2) := (blk_cell BK281.out 2).trans rfl; have hcz16_3 : w15.cell? ⟨gb281, 3, none⟩ = some (.int .i64 a0_3) := (blk_cell BK281.out 3).trans rfl; have hcz16_4 : w15.cell? ⟨gb281, 4, none⟩ = some (.bool a0_4) := (blk_cell BK281.out 4).trans rfl; have hfz16_0 := blk_frozen BK281.out 0; have hfz16_1 := blk_frozen BK281.out 1; have hfz16_2 := blk_frozen BK281.out 2; have hfz16_3 := blk_frozen BK281.out 3; have hfz16_4 := blk_frozen BK281.out 4) | ((with_reducible refine gate_callee (f := 14) rfl ?_); refine goesL_ (some 9) rfl rfl Try.func14 (by kernel_rfl) rfl #[.agg #[.int .i64 a0_0, .int .i64 a0_1, .int .i64 a0_2, .int .i64 a0_3, .bool a0_4]] rfl (by (try simp only [List.map_toArray, List.map_cons, List.map_nil]); first | done | rfl | (simp only [List.length_drop, List.length_take]; rfl)) ?_; (with_reducible refine (laws_toFirst.calls a0_0 a0_1 a0_2 a0_3 a0_4 t282 t283 t284 t285 t286 _ A2.out).mono ?_); rintro e w17 ⟨rfl, hb⟩; refine ⟨_, rfl, ?_⟩; have n0_ := Aside0.mk (blk_below (g := gb281) (o := .cells #[.int .i64 a0_0, .int .i64 a0_1, .int .i64 a0_2, .int .i64 a0_3, .bool a0_4] 25 (0, 0)) (by (with_reducible repeat (first | refine blk_drewN ?_ _ | refine blk_drew ?_ | refine blk_alloc ?_ _)); exact BK281.out) hb); have n1_ := Aside0.mk (below_step (by repeat (first | (with_reducible first | exact HB.out | apply below_alloc | apply pw_below_drewN | apply below_drew1 | refine below_set ?_ GE281.out) | exact HB.out)) hb); clear BK281; clear HB; have BK281 := n0_; have HB := n1_; clear n0_ n1_; (try clear hb); (try clear hb2); (try clear hk); (try clear hi)) | ((with_reducible refine gate_callee (f := 32) rfl ?_); refine goesL_ (some 10) rfl rfl Try.func32 (by kernel_rfl) rfl #[.agg #[.int .i64 t282, .int .i64 t283, .int .i64 t284, .int .i64 t285, .bool t286]] rfl (by (try simp only [List.map_toArray, List.map_cons, List.map_nil]); first | done | rfl | (simp only [List.length_drop, List.length_take]; rfl)) ?_; (with_reducible refine (spec_DeadBand.calls k t282 t283 t284 t285 t286 t287 t288 _ A3.out).mono ?_); rintro e w18 ⟨rfl, hb⟩; refine ⟨_, rfl, ?_⟩; have n0_ := Aside0.mk (blk_below (g := gb281) (o := .cells #[.int .i64 a0_0, .int .i64 a0_1, .int .i64 a0_2, .int .i64 a0_3, .bool a0_4] 25 (0, 0)) (by (with_reducible repeat (first | refine blk_drewN ?_ _ | refine blk_drew ?_ | refine blk_alloc ?_ _)); exact BK281.out) hb); have n1_ := Aside0.mk (below_step (by repeat (first | (with_reducible first | exact HB.out | apply below_alloc | apply pw_below_drewN | apply below_drew1 | refine below_set ?_ GE281.out) | exact HB.out)) hb); clear BK281; clear HB; have BK281 := n0_; have HB := n1_; clear n0_ n1_; (try clear hb); (try clear hb2); (try clear hk); (try clear hi); have hcz19_0 : w18.cell? ⟨gb281, 0, none⟩ = some (.int .i64 a0_0) := (blk_cell BK281.out 0).trans rfl; have hcz19_1 : w18.cell? ⟨gb281, 1, none⟩ = some (.int .i64 a0_1) := (blk_cell BK281.out 1).trans rfl; have hcz19_2 : w18.cell? ⟨gb281, 2, none⟩ = some (.int .i64 a0_2) := (blk_cell BK281.out 2).trans rfl; have hcz19_3 : w18.cell? ⟨gb281, 3, none⟩ = some (.int .i64 a0_3) := (blk_cell BK281.out 3).trans rfl; have hcz19_4 : w18.cell? ⟨gb281, 4, none⟩ = some (.bool a0_4) := (blk_cell BK281.out 4).trans rfl; have hfz19_0 := blk_frozen BK281.out 0; have hfz19_1 := blk_frozen BK281.out 1; have hfz19_2 := blk_frozen BK281.out 2; have hfz19_3 := blk_frozen BK281.out 3; have hfz19_4 := blk_frozen BK281.out 4) | ((with_reducible refine gate_callee (f := 14) rfl ?_); refine goesL_ (some 15) rfl rfl Try.func14 (by kernel_rfl) rfl #[.agg #[.int .i64 a0_0, .int .i64 a0_1, .int .i64 a0_2, .int .i64 a0_3, .bool a0_4]] rfl (by (try simp only [List.map_toArray, List.map_cons, List.map_nil]); first | done | rfl | (simp only [List.length_drop, List.length_take]; rfl)) ?_; (with_reducible refine (laws_toFirst.calls a0_0 a0_1 a0_2 a0_3 a0_4 t289 t290 t291 t292 t293 _ A4.out).mono ?_); rintro e w20 ⟨rfl, hb⟩; refine ⟨_, rfl, ?_⟩; have n0_ := Aside0.mk (blk_below (g := gb281) (o := .cells #[.int .i64 a0_0, .int .i64 a0_1, .int .i64 a0_2, .int .i64 a0_3, .bool a0_4] 25 (0, 0)) (by (with_reducible repeat (first | refine blk_drewN ?_ _ | refine blk_drew ?_ | refine blk_alloc ?_ _)); exact BK281.out) hb); have n1_ := Aside0.mk (below_step (by repeat (first | (with_reducible first | exact HB.out | apply below_alloc | apply pw_below_drewN | apply below_drew1 | refine below_set ?_ GE281.out) | exact HB.out)) hb); clear BK281; clear HB; have BK281 := n0_; have HB := n1_; clear n0_ n1_; (try clear hb); (try clear hb2); (try clear hk); (try clear hi)) | ((with_reducible refine gate_callee (f := 33) rfl ?_); refine goesL_ (some 16) rfl rfl Try.func33 (by kernel_rfl) rfl #[.agg #[.int .i64 t289, .int .i64 t290, .int .i64 t291, .int .i64 t292, .bool t293]] rfl (by (try simp only [List.map_toArray, List.map_cons, List.map_nil]); first | done | rfl | (simp only [List.length_drop, List.length_take]; rfl)) ?_; (with_reducible refine (impl_DeadBand.calls k t289 t290 t291 t292 t293 t294 t295 _ A5.out).mono ?_); rintro e w21 ⟨rfl, hb⟩; refine ⟨_, rfl, ?_⟩; have n0_ := Aside0.mk (blk_below (g := gb281) (o := .cells #[.int .i64 a0_0, .int .i64 a0_1, .int .i64 a0_2, .int .i64 a0_3, .bool a0_4] 25 (0, 0)) (by (with_reducible repeat (first | refine blk_drewN ?_ _ | refine blk_drew ?_ | refine blk_alloc ?_ _)); exact BK281.out) hb); have n1_ := Aside0.mk (below_step (by repeat (first | (with_reducible first | exact HB.out | apply below_alloc | apply pw_below_drewN | apply below_drew1 | refine below_set ?_ GE281.out) | exact HB.out)) hb); clear BK281; clear HB; have BK281 := n0_; have HB := n1_; clear n0_ n1_; (try clear hb); (try clear hb2); (try clear hk); (try clear hi)))
      go_ret
      exact ⟨by first | rfl | (simp [errW_none, errW_some] <;> rfl) | (simp [*, errW_none, errW_some] <;> rfl), by repeat (first | (with_reducible first | exact HB.out | apply below_alloc | apply pw_below_drewN | apply below_drew1 | refine below_set ?_ GE281.out) | exact HB.out)⟩
  · rw [if_neg c6] at H
    have c6b0 : (t294 == t287) = false := beq_eq_false_iff_ne.mpr c6
    have c6b1 : (t294 != t287) = true := bne_iff_ne.mpr c6
    obtain rfl := Option.some.inj H
    go_enter Try.func8, Try.ntmps8
    go_wp2_with (first | ((with_reducible refine gate_dst (N := 1) rfl ?_); refine box_event ?hg (N := 1) ?hd (cs := #[.int .i64 a0_0, .int .i64 a0_1, .int .i64 a0_2, .int .i64 a0_3, .bool a0_4]) (t := 25) ?hr ?_; (case hd => rfl); (case hg => rfl); (case hr => first | (go_simp; done) | (go_simp; rfl)); intro gb281 hg w22 hbox hb; have n0_ := Aside0.mk (below_step (by repeat (first | (with_reducible first | exact HB.out | apply below_alloc | apply pw_below_drewN | apply below_drew1) | exact HB.out)) hb); have n1_ := Aside0.mk (hbox); have n2_ := Aside0.mk ((by rw [hg]; exact (below_size (by repeat (first | (with_reducible first | exact HB.out | apply below_alloc | apply pw_below_drewN | apply below_drew1) | exact HB.out))) : w.heap.size ≤ gb281)); have n3_ := Aside0.mk ((by rw [hg]; exact (below_size (by repeat (first | (with_reducible first | exact HB.out | apply below_alloc | apply pw_below_drewN | apply below_drew1) | exact HB.out))) : w.heap.size ≤ gb281)); clear HB; have HB := n0_; have BK281 := n1_; have GW281 := n2_; have GE281 := n3_; clear n0_ n1_ n2_ n3_; clear hb hbox hg; have hcz23_0 : w22.cell? ⟨gb281, 0, none⟩ = some (.int .i64 a0_0) := (blk_cell BK281.out 0).trans rfl; have hcz23_1 : w22.cell? ⟨gb281, 1, none⟩ = some (.int .i64 a0_1) := (blk_cell BK281.out 1).trans rfl; have hcz23_2 : w22.cell? ⟨gb281, 2, none⟩ = some (.int .i64 a0_2) := (blk_cell BK281.out 2).trans rfl; have hcz23_3 : w22.cell? ⟨gb281, 3, none⟩ = some (.int .i64 a0_3) := (blk_cell BK281.out 3).trans rfl; have hcz23_4 : w22.cell? ⟨gb281, 4, none⟩ = some (.bool a0_4) := (blk_cell BK281.out 4).trans rfl; have hfz23_0 := blk_frozen BK281.out 0; have hfz23_1 := blk_frozen BK281.out 1; have hfz23_2 := blk_frozen BK281.out 2; have hfz23_3 := blk_frozen BK281.out 3; have hfz23_4 := blk_frozen BK281.out 4) | ((with_reducible refine gate_callee (f := 14) rfl ?_); refine goesL_ (some 9) rfl rfl Try.func14 (by kernel_rfl) rfl #[.agg #[.int .i64 a0_0, .int .i64 a0_1, .int .i64 a0_2, .int .i64 a0_3, .bool a0_4]] rfl (by (try simp only [List.map_toArray, List.map_cons, List.map_nil]); first | done | rfl | (simp only [List.length_drop, List.length_take]; rfl)) ?_; (with_reducible refine (laws_toFirst.calls a0_0 a0_1 a0_2 a0_3 a0_4 t282 t283 t284 t285 t286 _ A2.out).mono ?_); rintro e w24 ⟨rfl, hb⟩; refine ⟨_, rfl, ?_⟩; have n0_ := Aside0.mk (blk_below (g := gb281) (o := .cells #[.int .i64 a0_0, .int .i64 a0_1, .int .i64 a0_2, .int .i64 a0_3, .bool a0_4] 25 (0, 0)) (by (with_reducible repeat (first | refine blk_drewN ?_ _ | refine blk_drew ?_ | refine blk_alloc ?_ _)); exact BK281.out) hb); have n1_ := Aside0.mk (below_step (by repeat (first | (with_reducible first | exact HB.out | apply below_alloc | apply pw_below_drewN | apply below_drew1 | refine below_set ?_ GE281.out) | exact HB.out)) hb); clear BK281; clear HB; have BK281 := n0_; have HB := n1_; clear n0_ n1_; (try clear hb); (try clear hb2); (try clear hk); (try clear hi)) | ((with_reducible refine gate_callee (f := 32) rfl ?_); refine goesL_ (some 10) rfl rfl Try.func32 (by kernel_rfl) rfl #[.agg #[.int .i64 t282, .int .i64 t283, .int .i64 t284, .int .i64 t285, .bool t286]] rfl (by (try simp only [List.map_toArray, List.map_cons, List.map_nil]); first | done | rfl | (simp only [List.length_drop, List.length_take]; rfl)) ?_; (with_reducible refine (spec_DeadBand.calls k t282 t283 t284 t285 t286 t287 t288 _ A3.out).mono ?_); rintro e w25 ⟨rfl, hb⟩; refine ⟨_, rfl, ?_⟩; have n0_ := Aside0.mk (blk_below (g := gb281) (o := .cells #[.int .i64 a0_0, .int .i64 a0_1, .int .i64 a0_2, .int .i64 a0_3, .bool a0_4] 25 (0, 0)) (by (with_reducible repeat (first | refine blk_drewN ?_ _ | refine blk_drew ?_ | refine blk_alloc ?_ _)); exact BK281.out) hb); have n1_ := Aside0.mk (below_step (by repeat (first | (with_reducible first | exact HB.out | apply below_alloc | apply pw_below_drewN | apply below_drew1 | refine below_set ?_ GE281.out) | exact HB.out)) hb); clear BK281; clear HB; have BK281 := n0_; have HB := n1_; clear n0_ n1_; (try clear hb); (try clear hb2); (try clear hk); (try clear hi); have hcz26_0 : w25.cell? ⟨gb281, 0, none⟩ = some (.int .i64 a0_0) := (blk_cell BK281.out 0).trans rfl; have hcz26_1 : w25.cell? ⟨gb281, 1, none⟩ = some (.int .i64 a0_1) := (blk_cell BK281.out 1).trans rfl; have hcz26_2 : w25.cell? ⟨gb281, 2, none⟩ = some (.int .i64 a0_2) := (blk_cell BK281.out 2).trans rfl; have hcz26_3 : w25.cell? ⟨gb281, 3, none⟩ = some (.int .i64 a0_3) := (blk_cell BK281.out 3).trans rfl; have hcz26_4 : w25.cell? ⟨gb281, 4, none⟩ = some (.bool a0_4) := (blk_cell BK281.out 4).trans rfl; have hfz26_0 := blk_frozen BK281.out 0; have hfz26_1 := blk_frozen BK281.out 1; have hfz26_2 := blk_frozen BK281.out 2; have hfz26_3 := blk_frozen BK281.out 3; have hfz26_4 := blk_frozen BK281.out 4) | ((with_reducible refine gate_callee (f := 14) rfl ?_); refine goesL_ (some 15) rfl rfl Try.func14 (by kernel_rfl) rfl #[.agg #[.int .i64 a0_0, .int .i64 a0_1, .int .i64 a0_2, .int .i64 a0_3, .bool a0_4]] rfl (by (try simp only [List.map_toArray, List.map_cons, List.map_nil]); first | done | rfl | (simp only [List.length_drop, List.length_take]; rfl)) ?_; (with_reducible refine (laws_toFirst.calls a0_0 a0_1 a0_2 a0_3 a0_4 t289 t290 t291 t292 t293 _ A4.out).mono ?_); rintro e w27 ⟨rfl, hb⟩; refine ⟨_, rfl, ?_⟩; have n0_ := Aside0.mk (blk_below (g := gb281) (o := .cells #[.int .i64 a0_0, .int .i64 a0_1, .int .i64 a0_2, .int .i64 a0_3, .bool a0_4] 25 (0, 0)) (by (with_reducible repeat (first | refine blk_drewN ?_ _ | refine blk_drew ?_ | refine blk_alloc ?_ _)); exact BK281.out) hb); have n1_ := Aside0.mk (below_step (by repeat (first | (with_reducible first | exact HB.out | apply below_alloc | apply pw_below_drewN | apply below_drew1 | refine below_set ?_ GE281.out) | exact HB.out)) hb); clear BK281; clear HB; have BK281 := n0_; have HB := n1_; clear n0_ n1_; (try clear hb); (try clear hb2); (try clear hk); (try clear hi)) | ((with_reducible refine gate_callee (f := 33) rfl ?_); refine goesL_ (some 16) rfl rfl Try.func33 (by kernel_rfl) rfl #[.agg #[.int .i64 t289, .int .i64 t290, .int .i64 t291, .int .i64 t292, .bool t293]] rfl (by (try simp only [List.map_toArray, List.map_cons, List.map_nil]); first | done | rfl | (simp only [List.length_drop, List.length_take]; rfl)) ?_; (with_reducible refine (impl_DeadBand.calls k t289 t290 t291 t292 t293 t294 t295 _ A5.out).mono ?_); rintro e w28 ⟨rfl, hb⟩; refine ⟨_, rfl, ?_⟩; have n0_ := Aside0.mk (blk_below (g := gb281) (o := .cells #[.int .i64 a0_0, .int .i64 a0_1, .int .i64 a0_2, .int .i64 a0_3, .bool a0_4] 25 (0, 0)) (by (with_reducible repeat (first | refine blk_drewN ?_ _ | refine blk_drew ?_ | refine blk_alloc ?_ _)); exact BK281.out) hb); have n1_ := Aside0.mk (below_step (by repeat (first | (with_reducible first | exact HB.out | apply below_alloc | apply pw_below_drewN | apply below_drew1 | refine below_set ?_ GE281.out) | exact HB.out)) hb); clear BK281; clear HB; have BK281 := n0_; have HB := n1_; clear n0_ n1_; (try clear hb); (try clear hb2); (try clear hk); (try clear hi)))
    go_ret
    exact ⟨by first | rfl | (simp [errW_none, errW_some] <;> rfl) | (simp [*, errW_none, errW_some] <;> rfl), by repeat (first | (with_reducible first | exact HB.out | apply below_alloc | apply pw_below_drewN | apply below_drew1 | refine below_set ?_ GE281.out) | exact HB.out)⟩

/-- THE ONE PURE STATEMENT of laws_FnExactDeadBand: yours. -/
def laws_FnExactDeadBand.Pure : Prop := ∀ (a0_0 : Int) (a0_1 : Int) (a0_2 : Int) (a0_3 : Int) (a0_4 : Bool), (Lit.int .i64 a0_0).wf = true → (Lit.int .i64 a0_1).wf = true → (Lit.int .i64 a0_2).wf = true → (Lit.int .i64 a0_3).wf = true → ∃ k, laws_FnExactDeadBand.f k a0_0 a0_1 a0_2 a0_3 a0_4 = some true
theorem laws_FnExactDeadBand.walk (P : laws_FnExactDeadBand.Pure) (a0_0 : Int) (a0_1 : Int) (a0_2 : Int) (a0_3 : Int) (a0_4 : Bool) (w : World) (w0_0 : (Lit.int .i64 a0_0).wf = true) (w0_1 : (Lit.int .i64 a0_1).wf = true) (w0_2 : (Lit.int .i64 a0_2).wf = true) (w0_3 : (Lit.int .i64 a0_3).wf = true) :
    Calls Try.prog 8 #[.agg #[.int .i64 a0_0, .int .i64 a0_1, .int .i64 a0_2, .int .i64 a0_3, .bool a0_4]] w fun e w' => e = .returned (.bool true) ∧ Below w.heap.size w w' := by
  obtain ⟨k, h⟩ := P a0_0 a0_1 a0_2 a0_3 a0_4 w0_0 w0_1 w0_2 w0_3
  refine (laws_FnExactDeadBand.calls k a0_0 a0_1 a0_2 a0_3 a0_4 true w h).mono ?_
  rintro e w' ⟨rfl, hd⟩
  exact ⟨rfl, hd⟩

end Go.Proofs.Ytjknlfgphlopnaa.PFnExactDeadBand
